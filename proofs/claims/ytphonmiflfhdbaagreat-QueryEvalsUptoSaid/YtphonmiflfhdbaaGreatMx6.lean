/- Part 6 of the proof: tree's leaf, kids, Fits; tree.Fits; the document's To, Fits; Values as they are written: plain; tree.write, Raw; Paths: data, Step compared with itself; ref09.Begins, Same on the same path; ref25.Step; A lattice, as its readers know it; Leq; joins are the document's; Where steps lead in a plan, and how places are seen, plain; What is seen of values, and where that differs, plain; The document's Bottom, Right of paths; the program's Right of paths; The least depths of the values of a plan's nodes: plain; The program's nodes, least depths; A region that draws its order, in which a new object may come at any time among calls: its run with the object made at each of these times serves every order; Where steps lead: the document's Edge, Walk; the program's; The program's way along steps: fits, step, Walk; UTF-8: the document's begins, left, Decode; Tables of runes; the unit at a place: the program's and the document's; A text's first units: the document's Head, the program's heads, floors; Reading of values whose numbers are ints, and of arrays of two; The numbers of a plan's nodes are ints; The document's least depths; fine; the chapter's example; The program's Depths; The law of least depths: fine, the example, the call returns true; With which schemas nothing is wrong: the document's Wrong of chapters 20, 21; the law's fine; Which levels see a place: the program's Who; A region that draws its order, run by a schedule: at each point all that may come and has an effect is tried; The document's rows of an audit: With, Under, How, Rows; The document's Fits; What is seen of a value: the document's Edge, Coarse, Erase, Seen; What is seen of a value: the program's look, sees, coarsely, edge, coarse; Paths of a value: plain; tree.steps; Where steps lead in a value, and that value with another one there: plain; Rules for the evaluator: calls that hand back fresh rows; Rules for the evaluator: elements of rows whose cells nobody else knows, read and written whole; tree: slices.Index of steps, kid, clone, Get; tree.write, Raw; Written values: well formed; the document's Same on the same value; its Raw; The document's Kid, Get, Set of a value that fits; The document's Same of values, Set; ref25.Paths; The library's copyCheck of strings.Builder, laid at this program; The library's Builder at this program: what WriteString and String do to memory, exactly; Rules for the evaluator: the library's Builder, written and read; Rules for the evaluator: String of a Builder that holds nothing; The text of a path, of a row: plain, the program's, the document's; The document's rows of an audit; All rows of an audit, by the document; the law's bounds; Alike, differ: the document's; What is seen of a value: the program's erase, Erase, Hidden; Which values may be what is seen of one, plain; Which values may be what is seen of one: shell, May, outer, plain, the document's May. No condition. -/
import Derived.OpenShut
import Derived.Shelf.Strings.OnBuilder
import Derived.Shelf.RegionOpenPlain
import Derived.Lib.Strings
import Derived.Lib.Slices
import Derived.Lib.Walk
import Derived.Lib.Builder
import Derived.Lib.AppendStr
import Derived.Lib.UnsafeStr
import Derived.WalkKit
import Derived.Laws.Externs
import Derived.Lib.Hide
import Derived.Test.YtphonmiflfhdbaaGreatMx2
import Derived.Test.YtphonmiflfhdbaaGreatMx3
import Derived.Test.YtphonmiflfhdbaaGreatMx4
import Derived.Test.YtphonmiflfhdbaaGreatMx5
set_option linter.all false
set_option maxRecDepth 100000
namespace Go.Proofs.YtphonmiflfhdbaaGreat
open Go Go.RowKit Dv Go.Proofs.Tryz
def sK (l:List Int):List (List DV):=l.map fun z=>[DV.v (.int .i64 z)]
theorem lU (l:List Int):(sK l).length=l.length:=by simp [sK]
theorem Qo {l:List Int} {i:Nat} {z:Int} (h:l[i]? = some z):(sK l)[i]? = some [DV.v (.int .i64 z)]:=by simp [sK,h]
theorem wy (l:List Int) (z:Int):sK l ++ [[DV.v (.int .i64 z)]]=sK (l ++ [z]):=by simp [sK]
theorem rY:(⟨#[]⟩:ByteArray)=aq:=rfl
theorem JC (n:Nd) (v:Val):EvP prog 97 [.agg (iS n),.agg (bD v)] (.v (.bool (zf n v))):=by
 have hbl:=bW n.af;obtain ⟨ag,aE,lo,hi,most,af,es⟩:=n;obtain ⟨q,z,s,ks⟩:=v;have cw:=bK ks;simp only at hbl
 have hF:zf ⟨ag,aE,lo,hi,most,af,es⟩ (.mk q z s ks)=if 0 < ks.length∨(q≠3/\s≠aq)∨(q=3/\z≠0) then false
  else if ag=1 then decide (q=1) && (decide (z=0) || decide (z=1))
  else if ag=2 then decide (q=2) && decide (lo<=z) && decide (z<=hi)
  else if ag=3 then decide (q=3) && decide ((s.size:Int)<=most)
  else decide (q=4) && decide (0<=z) && decide (z < af.length):=rfl
 have hc:∀ b:Bool,b=pickB (pickB (decide (0 < ((dVals ks).length:Int))) true (pickB (!decide (q=3)) (!decide (s=⟨#[]⟩)) false)) true (pickB (decide (q=3)) (!decide (z=0)) false)->b=decide (0 < ks.length∨(q≠3/\s≠aq)∨(q=3/\z≠0)):=fun b h=>by grind [rY,aj,pickB_and]
 rw [hF];refine eG 94 [.tmp 4] func97 rfl ntmps97 rfl fun _ _ _ _=>?_;refine br ?_ ?_<;>intro c
 ·have c:=of_decide_eq_true ((hc _ rfl).symm.trans c);rw [ai c];exact (rfl:_=_)
 have c:=of_decide_eq_false ((hc _ rfl).symm.trans c);rw [ah c];refine br ?_ ?_<;>intro c1
 ·have c1:ag=1:=sU c1;refine (bo ?_:);simp [c1,pickB_and,aj]
 have c1:¬ ag=1:=sU c1;refine br ?_ ?_<;>intro c2
 ·have c2:ag=2:=sU c2;refine (bo ?_:);simp [c2,pickB_and,aj]
 have c2:¬ ag=2:=sU c2;refine br ?_ ?_<;>intro c3
 ·have c3:ag=3:=sU c3;refine (bo ?_:);simp [c3,pickB_and,aj]
 have c3:¬ ag=3:=sU c3;refine (bo ?_:);simp [c1,c2,c3,pickB_and,aj,hbl]
abbrev Sy (n:Nd) (v:Val) (l:List Int) (p:Bool) (kd mo:Int) (q e:Nat):St:=
 ⟨[aD 2 0,aD 3 1,(6,⟨[],.sl 1 (sK l) (some 0)⟩),uF 7 p,au 8 kd,au 9 mo,au 38 v.ks.length,au 39 e],[iS n,bD v],[⟨q,3,1,none⟩]⟩
abbrev ZO (n:Nd) (v:Val) (l:List Int) (p:Bool) (q e:Nat):St:=
 ⟨[aD 2 0,aD 3 1,(6,⟨[],.sl 1 (sK l) (some 0)⟩),uF 7 p,aZ 67 10 (fF n.aw),au 68 ((fF n.aw).length),au 69 e],[iS n,bD v],[⟨q,3,1,none⟩]⟩
theorem kids_spec {L N:Nat} {n:Nd} (hn:dg L N n) (h5:5<=n.ag) (v:Val) (hv:v.wt<=1099511627776) :
  EvP prog 98 [.agg (iS n),.agg (bD v)] (.tup [.sl 1 (sK (kidsL n v)) none,.v (.bool (dH n v))]):=by
 have Ou:=hn.k8;have F3:=hn.one;have De:=hn.many;obtain ⟨ag,aE,lo,hi,most,af,es⟩:=n;obtain ⟨q,z,s,ks⟩:=v;have cw:=bK ks;have mb:=bT es;have nN:=dV ks;rw [Val.wt] at hv;simp only at Ou h5 F3 De
 have hp:∀ b:Bool,b=pickB (decide (s=⟨#[]⟩)) (pickB (decide (z=0)) true (decide (q=8))) false->b=eJ (.mk q z s ks):=fun b h=>by
  rw [h];rw [pickB_and,aj,rY];all_goals rfl
 refine eG 134 [.tmp 4,.tmp 5] func98 rfl ntmps98 rfl fun _ _ _ _=>?_;refine br ?_ ?_<;>intro c
 ·have c:ag=5:=sU c;have UJ:ag=5∨ag=6:=.inl c;obtain ⟨x,ie,_,_⟩:=F3 UJ;refine br (fun _=>?_) (fun h=>absurd h (by simp [c]));refine dI ?_;refine br (fun h=>absurd h (by simp [c])) (fun _=>?_);obtain ⟨kd,mo,h1,h2,h3,h4⟩:∃ kd mo:Int,5=kd/\most=mo/\kd=ag/\mo=(if ag=6 then 1 else most):=⟨5,most,rfl,rfl,c.symm,by rw [ah (by omega)]⟩;have xJ:(fF es)[0]? = some (jv x):=by rw [ie];all_goals rfl
  have ht0:to0 ⟨ag,aE,lo,hi,most,af,es⟩=x.to:=by simp [to0,ie]
  refine lJ (fun e=>Sy ⟨ag,aE,lo,hi,most,af,es⟩ (.mk q z s ks) (List.replicate e x.to) (eJ (.mk q z s ks)) kd mo e e) ks.length (dJ 2 ⟨0,3,1,none⟩ rfl rfl rfl (by repeat' (first | exact rfl | exact aA rfl | exact bV (hp _ rfl) | exact aC h1 | exact aC h2 | exact aC (congrArg Nat.cast cw) | exact cj (aW _) rfl | exact cj (aW _) rfl | refine ⟨_,_,rfl,?_,?_⟩)) rfl rfl (by repeat' (first | exact trivial | exact aA rfl | exact bV (hp _ rfl) | exact aC h1 | exact aC h2 | exact aC (congrArg Nat.cast cw) | exact cj (aW _) rfl | refine ⟨⟨_,rfl,?_⟩,?_⟩))) ?_;intro e he;refine br ?_ ?_<;>intro hL
  ·have av:e < ks.length:=by have:=hL;simp [Val.ks] at this;exact this
   have ey:(sK (List.replicate e x.to)).length=e:=by rw [lU,List.length_replicate]
   have iq:sK (List.replicate e x.to) ++ [[DV.v (.int .i64 x.to)]]=sK (List.replicate (e + 1) x.to):=by rw [wy,List.replicate_succ']
   refine ⟨_,⟨by omega,xJ⟩,?_⟩;refine ⟨ey,⟨by rw [ey];simp [maxLen];omega,by rw [ey];simp;omega⟩,?_⟩;exact rE ⟨_,by omega,e + 1,rfl,by omega,rfl⟩ (wkB 2 (wA2 (nxt av (by omega)) iq) (wB2 (nxt av (by omega)) iq))
  ·have hge:e=ks.length:=by have:=hL;simp [Val.ks] at this;omega
   subst hge;have xW:kidsL ⟨ag,aE,lo,hi,most,af,es⟩ (.mk q z s ks)=List.replicate ks.length x.to:=by unfold kidsL;rw [ai UJ,ht0];all_goals rfl
   have ey:(sK (List.replicate ks.length x.to)).length=ks.length:=by rw [lU,List.length_replicate]
   have hB:pickB (pickB (eJ (.mk q z s ks)) (decide (q=kd)) false) (decide (((sK (List.replicate ks.length x.to)).length:Int)<=mo)) false=dH ⟨ag,aE,lo,hi,most,af,es⟩ (.mk q z s ks):=by
    rw [ey,h3,h4,pickB_and,pickB_and];unfold dH;rw [ai UJ];rfl
   rw [xW];exact ⟨_,(o0 hB),rfl⟩
 have c5:¬ ag=5:=sU c;refine br ?_ ?_<;>intro c
 ·have c:ag=6:=sU c;have UJ:ag=5∨ag=6:=.inr c;obtain ⟨x,ie,_,_⟩:=F3 UJ;refine dI ?_;refine br (fun _=>?_) (fun h=>absurd h (by simp [c]));obtain ⟨kd,mo,h1,h2,h3,h4⟩:∃ kd mo:Int,6=kd/\1=mo/\kd=ag/\mo=(if ag=6 then 1 else most):=⟨6,1,rfl,rfl,c.symm,by rw [ai c]⟩;have xJ:(fF es)[0]? = some (jv x):=by rw [ie];all_goals rfl
  have ht0:to0 ⟨ag,aE,lo,hi,most,af,es⟩=x.to:=by simp [to0,ie]
  refine lJ (fun e=>Sy ⟨ag,aE,lo,hi,most,af,es⟩ (.mk q z s ks) (List.replicate e x.to) (eJ (.mk q z s ks)) kd mo e e) ks.length (dJ 2 ⟨0,3,1,none⟩ rfl rfl rfl (by repeat' (first | exact rfl | exact aA rfl | exact bV (hp _ rfl) | exact aC h1 | exact aC h2 | exact aC (congrArg Nat.cast cw) | exact cj (aW _) rfl | exact cj (aW _) rfl | refine ⟨_,_,rfl,?_,?_⟩)) rfl rfl (by repeat' (first | exact trivial | exact aA rfl | exact bV (hp _ rfl) | exact aC h1 | exact aC h2 | exact aC (congrArg Nat.cast cw) | exact cj (aW _) rfl | refine ⟨⟨_,rfl,?_⟩,?_⟩))) ?_;intro e he;refine br ?_ ?_<;>intro hL
  ·have av:e < ks.length:=by have:=hL;simp [Val.ks] at this;exact this
   have ey:(sK (List.replicate e x.to)).length=e:=by rw [lU,List.length_replicate]
   have iq:sK (List.replicate e x.to) ++ [[DV.v (.int .i64 x.to)]]=sK (List.replicate (e + 1) x.to):=by rw [wy,List.replicate_succ']
   refine ⟨_,⟨by omega,xJ⟩,?_⟩;refine ⟨ey,⟨by rw [ey];simp [maxLen];omega,by rw [ey];simp;omega⟩,?_⟩;exact rE ⟨_,by omega,e + 1,rfl,by omega,rfl⟩ (wkB 2 (wA2 (nxt av (by omega)) iq) (wB2 (nxt av (by omega)) iq))
  ·have hge:e=ks.length:=by have:=hL;simp [Val.ks] at this;omega
   subst hge;have xW:kidsL ⟨ag,aE,lo,hi,most,af,es⟩ (.mk q z s ks)=List.replicate ks.length x.to:=by unfold kidsL;rw [ai UJ,ht0];all_goals rfl
   have ey:(sK (List.replicate ks.length x.to)).length=ks.length:=by rw [lU,List.length_replicate]
   have hB:pickB (pickB (eJ (.mk q z s ks)) (decide (q=kd)) false) (decide (((sK (List.replicate ks.length x.to)).length:Int)<=mo)) false=dH ⟨ag,aE,lo,hi,most,af,es⟩ (.mk q z s ks):=by
    rw [ey,h3,h4,pickB_and,pickB_and];unfold dH;rw [ai UJ];rfl
   rw [xW];exact ⟨_,(o0 hB),rfl⟩
 have c6:¬ ag=6:=sU c;obtain ⟨hm64,hm8,_,_⟩:=De (by omega);refine br ?_ ?_<;>intro c
 ·have c7:ag=7:=sU c;refine lJ (fun e=>ZO ⟨ag,aE,lo,hi,most,af,es⟩ (.mk q z s ks) ((es.take e).map Ed.to) (eJ (.mk q z s ks)) e e) es.length (dJ 2 ⟨0,3,1,none⟩ rfl rfl rfl (by repeat' (first | exact rfl | exact aA rfl | exact bV (hp _ rfl) | exact cj (aW _) rfl | exact cj (aW _) rfl | refine ⟨_,_,rfl,?_,?_⟩)) rfl rfl (by repeat' (first | exact trivial | exact aA rfl | exact bV (hp _ rfl) | exact cj (aW _) rfl | refine ⟨⟨_,rfl,?_⟩,?_⟩))) ?_;intro e he;refine br ?_ ?_<;>intro hL
  ·have av:e < es.length:=by have:=hL;simp [mb] at this;exact this
   obtain ⟨x,hx⟩:=gX av;have ey:(sK ((es.take e).map Ed.to)).length=e:=by rw [lU,List.length_map,ez];omega
   have iq:sK ((es.take e).map Ed.to) ++ [[DV.v (.int .i64 x.to)]]=sK ((es.take (e + 1)).map Ed.to):=by rw [wy,rW hx,List.map_append];all_goals rfl
   refine iX (bm hx) ?_;refine ⟨ey,⟨by rw [ey];simp [maxLen];omega,by rw [ey];simp;omega⟩,?_⟩;exact rE ⟨_,by omega,e + 1,rfl,by omega,rfl⟩ (wkB 2 (wA2 (nxt av (by omega)) iq) (wB2 (nxt av (by omega)) iq))
  ·have hge:e=es.length:=sW mb hL;subst hge;rw [List.take_length];have xW:kidsL ⟨ag,aE,lo,hi,most,af,es⟩ (.mk q z s ks)=es.map Ed.to:=by unfold kidsL;rw [ah (by simp only;omega),ai c7]
   have ey:(sK (es.map Ed.to)).length=es.length:=by rw [lU,List.length_map]
   have hB:pickB (pickB (eJ (.mk q z s ks)) (decide (q=7)) false) (decide (((sK (es.map Ed.to)).length:Int)=((dVals ks).length:Int))) false=dH ⟨ag,aE,lo,hi,most,af,es⟩ (.mk q z s ks):=by grind [pickB_and,dH,Val.k,Val.ks]
   rw [xW];refine dI ?_;exact ⟨_,(o0 hB),rfl⟩
 have c7:¬ ag=7:=sU c;have xW:kidsL ⟨ag,aE,lo,hi,most,af,es⟩ (.mk q z s ks)=(match qk ⟨ag,aE,lo,hi,most,af,es⟩ (.mk q z s ks) with | none=>[] | some e=>if e.bare=true then [] else [e.to]):=by unfold kidsL;rw [ah (by simp only;omega),ah c7];all_goals rfl
 have ZP:dH ⟨ag,aE,lo,hi,most,af,es⟩ (.mk q z s ks)=(match qk ⟨ag,aE,lo,hi,most,af,es⟩ (.mk q z s ks) with | none=>false | some _=>eJ (.mk q z s ks) && decide ((kidsL ⟨ag,aE,lo,hi,most,af,es⟩ (.mk q z s ks)).length=ks.length)):=by unfold dH;rw [ah (by simp only;omega),ah c7];all_goals rfl
 have hc:∀ b:Bool,b=pickB (pickB (!decide (q=8)) true (decide (z < 0))) true (decide (((fF es).length:Int)<=z))->b = !decide (q=8/\0<=z/\z < es.length):=fun b h=>by grind [aj]
 refine br ?_ ?_<;>intro c
 ·have c:¬ (q=8/\0<=z/\z < es.length):=by have:=(hc _ rfl).symm.trans c;simpa only [Bool.not_eq_true',decide_eq_false_iff_not] using this
  have ht:qk ⟨ag,aE,lo,hi,most,af,es⟩ (.mk q z s ks)=none:=by show (if q=8/\0<=z/\z < es.length then es[z.toNat]? else none)=_;rw [ah c]
  rw [ZP,xW,ht];exact ⟨_,ax,rfl⟩
 ·have c:q=8/\0<=z/\z < es.length:=by have:=(hc _ rfl).symm.trans c;simpa only [Bool.not_eq_false',decide_eq_true_eq] using this
  obtain ⟨x,hx⟩:∃ x,es[z.toNat]? = some x:=⟨_,gE (by omega)⟩;have ht:qk ⟨ag,aE,lo,hi,most,af,es⟩ (.mk q z s ks)=some x:=by show (if q=8/\0<=z/\z < es.length then es[z.toNat]? else none)=_;rw [ai c];exact hx
  rw [ht] at ZP xW;refine iX (bm hx) ?_;refine br ?_ ?_<;>intro hb
  ·have hb:x.bare=false:=sU hb;have UK:kidsL ⟨ag,aE,lo,hi,most,af,es⟩ (.mk q z s ks)=[x.to]:=by rw [xW];simp [hb]
   have hB:pickB (eJ (.mk q z s ks)) (decide ((1:Int)=((dVals ks).length:Int))) false=dH ⟨ag,aE,lo,hi,most,af,es⟩ (.mk q z s ks):=by grind [pickB_and]
   rw [UK,<- hB];refine ⟨⟨by simp [maxLen],by simp⟩,?_⟩;refine dI ?_;exact ⟨_,(by repeat' (first | exact rfl | exact trivial | exact Or.inr (Or.inl ⟨_,rfl⟩) | exact Or.inr ⟨_,rfl⟩ | exact Or.inl ⟨rfl,rfl⟩ | exact Or.inl rfl | refine Or.inr ⟨_,_,rfl,Nat.zero_le _,rfl,?_⟩ | refine ⟨_,_,rfl,?_,?_⟩ | refine ⟨_,rfl,?_⟩ | exact congrArg (fun b=>DV.v (.bool (pickB b _ false))) (hp _ rfl) | refine Or.inr (Or.inr (Or.inr ⟨_,_,rfl,?_⟩)) | exact Or.inl rfl | refine Or.inr ?_)),rfl⟩
  ·have hb:x.bare=true:=sU hb;have UK:kidsL ⟨ag,aE,lo,hi,most,af,es⟩ (.mk q z s ks)=[]:=by rw [xW];simp [hb]
   have hB:pickB (eJ (.mk q z s ks)) (decide ((0:Int)=((dVals ks).length:Int))) false=dH ⟨ag,aE,lo,hi,most,af,es⟩ (.mk q z s ks):=by grind [pickB_and]
   rw [UK,<- hB];refine dI ?_;exact ⟨_,(by repeat' (first | exact rfl | exact trivial | exact Or.inr (Or.inl ⟨_,rfl⟩) | exact Or.inr ⟨_,rfl⟩ | exact Or.inl ⟨rfl,rfl⟩ | exact Or.inl rfl | refine Or.inr ⟨_,_,rfl,Nat.zero_le _,rfl,?_⟩ | refine ⟨_,_,rfl,?_,?_⟩ | refine ⟨_,rfl,?_⟩ | exact congrArg (fun b=>DV.v (.bool (pickB b _ false))) (hp _ rfl) | refine Or.inr (Or.inr (Or.inr ⟨_,_,rfl,?_⟩)) | exact Or.inl rfl | refine Or.inr ?_)),rfl⟩
theorem zh {n:Nd} {v:Val} (hk:5<=n.ag) (h:dH n v=true):(kidsL n v).length=v.ks.length:=by grind [dH,kidsL,qk]
theorem F4 {ND:List Nd} {ks:List Val} {l:List Int} {e:Nat} {x:Val} {i:Int} (h1:ks[e]? = some x) (h2:l[e]? = some i):fitVs ND (ks.drop e) (l.drop e)=(fitV ND x i && fitVs ND (ks.drop (e + 1)) (l.drop (e + 1))):=by
 rw [drop_cons h1,drop_cons h2,fitVs]
theorem cC {ND:List Nd} {i:Int} {d:Nd} (h:cu ND i=some d):0<=i/\ND[i.toNat]? = some d:=by grind [cu]
theorem wz {ND:List Nd} {i:Int} (h:cu ND i=none):i < 0∨(ND.length:Int)<=i:=by grind [cu]
abbrev tfSt (PC:List DV) (v:Val) (l:List Int) (e:Nat):St:=
 ⟨[pz 0 PC,aD 5 0,aZ 36 1 (sK l),au 37 l.length,au 38 e],[bD v],[]⟩
theorem oN {S:Sch} {ND:List Nd} {PC:List DV} (hP:jX S ND PC):∀ (k:Nat) (v:Val),v.wt<=k->v.wt<=1099511627776->∀ i:Int,EvP prog 49 [.pt PC 0,.v (.int .i64 i),.agg (bD v)] (.v (.bool (fitV ND v i)))
 | 0,v,h,_=>by have:=v.dP;omega
 | k + 1,.mk q z s ks,h,hb=>fun i=>by
  have ih:=oN hP k;have nN:=dV ks;have cw:=bK ks;have fx:=hb;rw [Val.wt] at h hb;rw [fitV];have gW:=hP.ap;have UL:=hP.Su;have bF:=hP.ok
  cases hd:cu ND i with
  | none=>
   refine eG 53 [.tmp 6] func49 rfl ntmps49 rfl fun _ _ _ _=>?_;refine cP zY (UL i (wz hd)) ?_;exact (rfl:_=_)
  | some d=>
   obtain ⟨h0,hg⟩:=cC hd;obtain ⟨j,rfl⟩:∃ j:Nat,i=j:=⟨i.toNat,by omega⟩;have hg:ND[j]? = some d:=sU hg;have hN:=bF d (mG hg);have Bp:=JC d (.mk q z s ks);have Kj:=fun h5=>kids_spec hN h5 (.mk q z s ks) fx;have hlen:=fun h5=>zh (n:=d) (v:=.mk q z s ks) h5;simp only;obtain ⟨ag,aE,lo,hi,most,af,es⟩:=d;simp only at Kj hlen;refine eG 53 [.tmp 6] func49 rfl ntmps49 rfl fun _ _ _ _=>?_;refine cP zY (gW j _ hg) ?_;refine br ?_ ?_<;>intro c
   ·have c:ag < 5:=sU c;rw [ai c];refine cP en97 Bp ?_;exact (rfl:_=_)
   have c:¬ ag < 5:=sU c;rw [ah c];have Kj:=Kj (by omega);have hlen:=hlen (by omega);generalize kidsL ⟨ag,aE,lo,hi,most,af,es⟩ (.mk q z s ks)=l at Kj hlen ⊢;have hzl:=lU l;refine cP en98 Kj ?_
   cases hB:dH ⟨ag,aE,lo,hi,most,af,es⟩ (.mk q z s ks) with
   | false=>
    exact (rfl:_=_)
   | true=>
    have hlen:l.length=ks.length:=hlen hB;rw [Bool.true_and];refine lI (fun j st=>∃ e:Nat,st=tfSt PC (.mk q z s ks) l e/\e<=l.length/\fitVs ND ks l=fitVs ND (ks.drop e) (l.drop e)/\j=l.length - e) ⟨0,rfl,by omega,rfl,rfl⟩ (wkM (wB1 hzl)) ?_;rintro _ st ⟨e,rfl,he,aK,rfl⟩;refine br ?_ ?_<;>intro hL
    ·have av:e < l.length:=by have:=hL;simp at this;exact this
     obtain ⟨x,hx⟩:∃ x,ks[e]? = some x:=⟨_,gE (by omega)⟩;obtain ⟨y,hy⟩:=gX av;have Ug:=gH (mG hx);rw [F4 hx hy] at aK;have dz:=ih x (by omega) (by omega) y;obtain ⟨xk,xn,xs,xl⟩:=x;refine iX (Qo hy) ?_;refine iX (eF hx) ?_;refine cP TA dz ?_;refine br ?_ ?_<;>intro g
     ·have g:fitV ND (.mk xk xn xs xl) y=false:=sU g;rw [aK,g];exact (rfl:_=_)
     ·have g:fitV ND (.mk xk xn xs xl) y=true:=sU g;rw [g,Bool.true_and] at aK;exact rE ⟨_,by omega,e + 1,rfl,by omega,aK,rfl⟩ (wkM (wB1 (nxt av (by omega))))
    ·have hge:e=l.length:=by have:=hL;simp at this;omega
     rw [List.drop_of_length_le (by omega),List.drop_of_length_le (by omega)] at aK;rw [aK];exact (rfl:_=_)
theorem to25_spec {L N:Nat} {n:Nd} (hn:dg L N n) (v:Val) (j:Nat):EvP prog 182 [.agg (iS n),.agg (bD v),.v (.int .i64 j)] (.v (.int .i64 (wv n v j))):=by
 have F3:=hn.one;obtain ⟨ag,aE,lo,hi,most,af,es⟩:=n;obtain ⟨q,z,s,ks⟩:=v;have mb:=bT es;simp only at F3
 have hF:wv ⟨ag,aE,lo,hi,most,af,es⟩ (.mk q z s ks) j=if ag=5 then (if (j:Int) < most then to0 ⟨ag,aE,lo,hi,most,af,es⟩ else -1)
  else if ag=6 then (if j < 1 then to0 ⟨ag,aE,lo,hi,most,af,es⟩ else -1)
  else if ag=7 then (match es[j]? with | some e=>e.to | none=>-1)
  else if ag=8 then (if j < 1/\0<=z/\z < es.length then (match es[z.toNat]? with | some e=>e.to | none=>-1) else -1)
  else -1:=rfl
 rw [hF];refine eG 66 [.tmp 6] func182 rfl ntmps182 rfl fun _ _ _ _=>?_;refine br ?_ ?_<;>intro c
 ·have c:ag=5:=sU c;rw [ai c];obtain ⟨x,ie,_,_⟩:=F3 (.inl c);have xJ:(fF es)[0]? = some (jv x):=by rw [ie];all_goals rfl
  have ht0:to0 ⟨ag,aE,lo,hi,most,af,es⟩=x.to:=by simp [to0,ie]
  refine br ?_ ?_<;>intro g
  ·have g:(j:Int) < most:=sU g;rw [ai g,ht0];refine ⟨_,⟨by omega,xJ⟩,?_⟩;exact (rfl:_=_)
  ·have g:¬ (j:Int) < most:=sU g;rw [ah g];exact (rfl:_=_)
 have c5:¬ ag=5:=sU c;rw [ah c5];refine br ?_ ?_<;>intro c
 ·have c:ag=6:=sU c;rw [ai c];obtain ⟨x,ie,_,_⟩:=F3 (.inr c);have xJ:(fF es)[0]? = some (jv x):=by rw [ie];all_goals rfl
  have ht0:to0 ⟨ag,aE,lo,hi,most,af,es⟩=x.to:=by simp [to0,ie]
  refine br ?_ ?_<;>intro g
  ·have g:j < 1:=by have:=g;simp at this;omega
   rw [ai g,ht0];refine ⟨_,⟨by omega,xJ⟩,?_⟩;exact (rfl:_=_)
  ·have g:¬ j < 1:=by have:=g;simp at this;omega
   rw [ah g];exact (rfl:_=_)
 have c6:¬ ag=6:=sU c;rw [ah c6];refine br ?_ ?_<;>intro c
 ·have c:ag=7:=sU c;rw [ai c];refine br ?_ ?_<;>intro g
  ·have g:j < es.length:=by have:=g;simp [mb] at this;exact this
   obtain ⟨x,hx⟩:∃ x,es[j]? = some x:=⟨_,gE g⟩;refine iX (bm hx) ?_;rw [hx];exact (rfl:_=_)
  ·have g:es.length<=j:=sW mb g;rw [nR g];exact (rfl:_=_)
 have c7:¬ ag=7:=sU c;rw [ah c7];refine br ?_ ?_<;>intro c
 ·have c:ag=8:=sU c;rw [ai c];have hc:∀ b:Bool,b=pickB (pickB (decide ((j:Int) < 1)) (decide (0<=z)) false) (decide (z < ((fF es).length:Int))) false->b=decide (j < 1/\0<=z/\z < es.length):=fun b h=>by grind [pickB_and]
  refine br ?_ ?_<;>intro g
  ·have g:=of_decide_eq_true ((hc _ rfl).symm.trans g);obtain ⟨x,hx⟩:∃ x,es[z.toNat]? = some x:=⟨_,gE (by omega)⟩;rw [ai g,hx];refine iX (bm hx) ?_;exact (rfl:_=_)
  ·have g:=of_decide_eq_false ((hc _ rfl).symm.trans g);rw [ah g];exact (rfl:_=_)
 ·have c8:¬ ag=8:=sU c;rw [ah c8];exact (rfl:_=_)
inductive Rw where
 | mk (k aE n:Int) (s:ByteArray) (keys:List Wd) (ks:List Rw)
mutual
def dRw:Rw->List DV
 | .mk k a n s keys ks=>[.v (.int .i64 k),.v (.int .i64 a),.v (.int .i64 n),.v (.string s),.sl 2 (bA keys) none,.sl 6 (dRws ks) none]
def dRws:List Rw->List (List DV)
 | []=>[]
 | v :: r=>dRw v :: dRws r
end
theorem wE:∀ l:List Rw,dRws l=l.map dRw
 | []=>rfl
 | v :: r=>by rw [dRws,wE r];all_goals rfl
theorem wF (l:List Rw):(dRws l).length=l.length:=by rw [wE,List.length_map]
theorem Ng {l:List Rw} {e:Nat} {x:Rw} (h:l[e]? = some x):(dRws l)[e]? = some (dRw x):=by rw [wE,List.getElem?_map,h];all_goals rfl
mutual
def oO:Rw->Nat
 | .mk _ _ _ _ _ ks=>1 + kS ks
def kS:List Rw->Nat
 | []=>0
 | v :: r=>oO v + kS r
end
structure UM (ND:List Nd) (v:Val) (i:Int) (d:Nd):Prop where
 ap:cu ND i=some d
 k:v.k=d.ag
 leaf:d.ag < 5->v.ks=[]
 enum:d.ag=4->0<=v.n/\v.n < d.af.length
 kids:5<=d.ag->(kidsL d v).length=v.ks.length/\fitVs ND v.ks (kidsL d v)=true
 tag:d.ag=8->∃ e,qk d v=some e/\d.aw[v.n.toNat]? = some e/\0<=v.n/\v.n < d.aw.length/\(e.bare=true↔v.ks=[])
 opt:d.ag=6->v.ks.length<=1
theorem nH {L:Nat} {ND:List Nd} (bF:∀ n∈ND,dg L ND.length n) {v:Val} {i:Int} (h:fitV ND v i=true):∃ d,UM ND v i d:=by
 obtain ⟨k,n,s,ks⟩:=v;rw [fitV] at h
 cases hd:cu ND i with
 | none=>rw [hd] at h;cases h
 | some d=>
  rw [hd] at h;simp only at h;have hN:=bF d (mG (cC hd).2);have o6:=hN.k1;have Ou:=hN.k8;by_cases h5:d.ag < 5
  ·rw [ai h5] at h;unfold zf at h;by_cases hc:0 < (Val.mk k n s ks).ks.length∨((Val.mk k n s ks).k≠3/\(Val.mk k n s ks).s≠aq)∨((Val.mk k n s ks).k=3/\(Val.mk k n s ks).n≠0)
   ·rw [ai hc] at h;cases h
   rw [ah hc] at h;have UN:ks=[]:=by grind [Val.ks]
   have hk:k=d.ag/\(d.ag=4->0<=n/\n < d.af.length):=by grind [Val.k,Val.n]
   exact ⟨d,{ ap:=hd,k:=hk.1,leaf:=fun _=>UN,enum:=hk.2,kids:=fun h=>by omega,tag:=fun h=>by omega,opt:=fun h=>by omega }⟩
  ·rw [ah h5,aO] at h;obtain ⟨hB,hf⟩:=h;have hlen:=zh (by omega) hB;have hB2:=hB;unfold dH at hB;by_cases c:d.ag=5∨d.ag=6
   ·rw [ai c] at hB;simp only [aO,decide_eq_true_eq] at hB;exact ⟨d,{ ap:=hd,k:=hB.1.2,leaf:=fun h=>by omega,enum:=fun h=>by omega,kids:=fun _=>⟨hlen,hf⟩,tag:=fun h=>by omega,opt:=fun h=>by have:=hB.2;rw [ai h] at this;omega }⟩
   rw [ah c] at hB;by_cases c7:d.ag=7
   ·rw [ai c7] at hB;simp only [aO,decide_eq_true_eq] at hB;exact ⟨d,{ ap:=hd,k:=by rw [c7];exact hB.1.2,leaf:=fun h=>by omega,enum:=fun h=>by omega,kids:=fun _=>⟨hlen,hf⟩,tag:=fun h=>by omega,opt:=fun h=>by omega }⟩
   rw [ah c7] at hB
   cases ht:qk d (.mk k n s ks) with
   | none=>rw [ht] at hB;cases hB
   | some e=>
    have ht2:=ht;unfold qk at ht2;split at ht2
    ·rename_i hr;have nN:kidsL d (.mk k n s ks)=if e.bare=true then [] else [e.to]:=by unfold kidsL;rw [ah c,ah c7,ht]
     refine ⟨d,{ ap:=hd,k:=by have:=hr.1;omega,leaf:=fun h=>by omega,enum:=fun h=>by omega,kids:=fun _=>⟨hlen,hf⟩,tag:=fun _=>⟨e,ht,ht2,hr.2.1,hr.2.2,?_⟩,opt:=fun h=>by omega }⟩
     grind
    ·cases ht2
theorem ql {ND:List Nd}:∀ {ks:List Val} {l:List Int} {e:Nat} {x:Val} {i:Int},fitVs ND ks l=true->ks[e]? = some x->l[e]? = some i->fitV ND x i=true
 | [],_,e,x,i,_,h,_=>by simp at h
 | _ :: _,[],e,x,i,_,_,h=>by simp at h
 | v :: r,j :: l,0,x,i,h,h1,h2=>by grind [fitVs]
 | v :: r,j :: l,e + 1,x,i,h,h1,h2=>by
  simp only [List.getElem?_cons_succ] at h1 h2;rw [fitVs,aO] at h;exact ql h.2 h1 h2
structure dX where
 k:Int
 n:Int
 s:ByteArray
def jY (x:dX):List DV:=[.v (.int .i64 x.k),.v (.int .i64 x.n),.v (.string x.s)]
def cF (l:List dX):List (List DV):=l.map jY
theorem iA (l:List dX):(cF l).length=l.length:=by simp [cF]
theorem eH {l:List dX} {e:Nat} {x:dX} (h:l[e]? = some x):(cF l)[e]? = some (jY x):=by simp [cF,h]
def nO (a b:dX):Bool:=decide (a.k=b.k) && (decide (a.n=b.n) && decide (a.s=b.s))
def F5 (a:dX):Array Value:=#[.int .i64 a.k,.int .i64 a.n,.string a.s]
theorem JD (a b:dX) (w:World):(Op.equal 176 (.agg (F5 a)) (.agg (F5 b))).run prog w = .ok (nO a b) w:=by
 have hf:prog.underlying 176=some (.struct (prog.fieldsOf 176)):=by simp [Program.fieldsOf,Tryz.underlying176]
 have uw:(prog.fieldsOf 176).toList=[⟨ "Kind",3,0,false, "", "",0⟩,⟨ "N",3,1,false, "", "",8⟩,⟨ "Name",9,2,false, "", "",16⟩]:=by simp [Program.fieldsOf,Tryz.underlying176]
 have hs:prog.stoodInHeld 176=false:=by kernel_rfl
 obtain ⟨d,hm⟩:∃ d,Op.maxDepth=d + 1 + 1:=⟨Op.maxDepth - 2,by decide⟩
 have q9:∀ cs:Array Value,∀ off v,cs[off]? = some v->(part 9 cs off).run prog w = .ok v w:=fun cs off v h=>by
  simp [part,Tryz.isAgg9,h]
 have q3:∀ cs:Array Value,∀ off v,cs[off]? = some v->(part 3 cs off).run prog w = .ok v w:=fun cs off v h=>by
  simp [part,Tryz.isAgg3,h]
 have g0:=fun x:dX=>q3 (F5 x) 0 (.int .i64 x.k) rfl;have g1:=fun x:dX=>q3 (F5 x) 1 (.int .i64 x.n) rfl;have g2:=fun x:dX=>q9 (F5 x) 2 (.string x.s) rfl;have r9:=fun a b=>run_equalIn_string w d 9 a b Tryz.underlying9;have r3:=fun a b=>run_equalIn_int w d 3 .i64 .i64 a b Tryz.underlying3
 have e1:(a.s.toList == b.s.toList)=decide (a.s=b.s):=by
  rw [ByteArray.toList_eq,ByteArray.toList_eq];by_cases h:a.s=b.s
  ·rw [h];simp
  ·have:¬ a.s.data=b.s.data:=fun e=>h (ByteArray.ext e);simp [h,this]
 unfold Op.equal;rw [hm,run_equalIn_struct w (d + 1) 176 _ _ hf hs,uw];simp only [Op.eqFields,ne_eq,String.reduceEq,not_false_eq_true,if_true,Sem.run_bind,g0,g1,g2,r9,r3,Result.andThen_ok];by_cases h1:a.k=b.k
 ·by_cases h2:a.n=b.n
  ·by_cases h3:a.s=b.s
   ·simp_all [nO]
   ·simp_all [nO]
  ·simp [h1,h2,nO,Sem.run_pure,r3,g1]
 ·simp [h1,nO,Sem.run_pure]
theorem JE (o:BinOp) (ho:o = .eql∨o = .neq) (w:World) (x y:Operand) (vs vs':Array Value):(eqGuard o 176 x y (.agg vs) (.agg vs')).run prog w = .ok () w:=by
 have h:prog.eqGuardType prog.depth 176=false:=by kernel_rfl
 rcases ho with rfl | rfl<;>simp [eqGuard,run_program,h]
theorem Qp (x y:Operand) (a b:dX):zG prog .eql x y 176 (jY a) (jY b) (nO a b):=
 ⟨[.int .i64 a.k,.int .i64 a.n,.string a.s],[.int .i64 b.k,.int .i64 b.n,.string b.s],rfl,rfl,fun w=>⟨JE _ (.inl rfl) w x y _ _,by
  show ((do let r <- Op.equal 176 (.agg (F5 a)) (.agg (F5 b));pure (Value.bool r)):Sem Value).run prog w=_
  simp only [Sem.run_bind,JD,Result.andThen_ok,Sem.run_pure]⟩⟩
def stpR (d:Nd) (v:Val) (j:Nat):dX:=
 if d.ag=5 then ⟨2,j,aq⟩
 else if d.ag=6 then ⟨4,0,aq⟩
 else if d.ag=7 then ⟨1,0,match d.aw[j]? with | some e=>e.name | none=>aq⟩
 else ⟨5,0,match d.aw[v.n.toNat]? with | some e=>e.name | none=>aq⟩
theorem Df (d:Nd) (v:Val) (j:Nat) (h7:d.ag=7->j < d.aw.length) (h8:d.ag≠5->d.ag≠6->d.ag≠7->0<=v.n/\v.n < d.aw.length) :
  EvP prog 143 [.agg (iS d),.agg (bD v),.v (.int .i64 j)] (.agg (jY (stpR d v j))):=by
 obtain ⟨ag,aE,lo,hi,most,af,es⟩:=d;obtain ⟨q,z,s,ks⟩:=v;have mb:=bT es;simp only [Val.n] at h7 h8
 have hS:stpR ⟨ag,aE,lo,hi,most,af,es⟩ (.mk q z s ks) j=if ag=5 then ⟨2,j,aq⟩
  else if ag=6 then ⟨4,0,aq⟩
  else if ag=7 then ⟨1,0,match es[j]? with | some e=>e.name | none=>aq⟩
  else ⟨5,0,match es[z.toNat]? with | some e=>e.name | none=>aq⟩:=rfl
 rw [hS];refine eG 33 [.cell 6 176] func143 rfl ntmps143 rfl fun _ _ _ _=>?_;refine br ?_ ?_<;>intro c
 ·have c:ag=5:=sU c;rw [ai c];exact ⟨_,ax,rfl⟩
 have c5:¬ ag=5:=sU c;rw [ah c5];refine br ?_ ?_<;>intro c
 ·have c:ag=6:=sU c;rw [ai c];exact ⟨_,ax,rfl⟩
 have c6:¬ ag=6:=sU c;rw [ah c6];refine br ?_ ?_<;>intro c
 ·have c:ag=7:=sU c;rw [ai c];obtain ⟨x,hx⟩:∃ x,es[j]? = some x:=⟨_,gE (h7 c)⟩;simp only [hx];refine iX (bm hx) ?_;exact ⟨_,ax,rfl⟩
 have c7:¬ ag=7:=sU c;rw [ah c7];obtain ⟨z0,z1⟩:=h8 c5 c6 c7;obtain ⟨x,hx⟩:∃ x,es[z.toNat]? = some x:=⟨_,gE (by omega)⟩;simp only [hx];refine iX (bm hx) ?_;exact ⟨_,ax,rfl⟩
def Nh (f:Nat->Nat->Bool) (n:Nat) (a b:Int):Bool:=decide (0<=a) && decide (a < n) && decide (0<=b) && decide (b < n) && f a.toNat b.toNat
def qm (f:Nat->Nat->Bool) (n a b:Nat):Nat:=(eP f n a b).getD 0
def iM (f:Nat->Nat->Bool) (n:Nat):Nat:=(er f n []).getD 0
theorem Ni {f:Nat->Nat->Bool} {n a b:Nat} (ha:a < n) (hb:b < n):Nh f n a b=f a b:=by simp [Nh,ha,hb]
theorem wH {f:Nat->Nat->Bool} {n a b:Nat} (h:dG f n) (ha:a < n) (hb:b < n):eP f n a b=some (qm f n a b):=by
 obtain ⟨k,hk⟩:=h.jn a b ha hb;simp [qm,hk]
theorem rZ {f:Nat->Nat->Bool} {n a b:Nat} (h:dG f n) (ha:a < n) (hb:b < n):qm f n a b < n:=(oG (wH h ha hb)).1
theorem Dg {f:Nat->Nat->Bool} {n:Nat} (h:dG f n):Oo f n:=⟨h.rfl',h.Fl⟩
theorem oP {f:Nat->Nat->Bool} {n a b:Nat} (h:dG f n) (ha:a < n) (hb:b < n):jV f n a b=some (qm f n a b):=by
 have h1:=wH h ha hb;have h2:=lP (n:=n) (a:=a) (b:=b) (Dg h);rw [h1] at h2
 cases hr:jV f n a b with
 | none=>rw [hr] at h2;simp at h2
 | some c=>
  obtain ⟨h3,h4,_⟩:=cM hr
  grind [CW,Dg]
theorem nI {f:Nat->Nat->Bool} {n:Nat} (h:dG f n):er f n []=some (iM f n):=by
 obtain ⟨c,hc⟩:=sH h [] (fun _ h=>by cases h);simp [iM,hc]
theorem qp {f:Nat->Nat->Bool} {n:Nat} (h:dG f n):iM f n < n:=nB (nI h)
section
variable (af:List ByteArray) (tc:List DV) (rows:List Nat) (js:List Int)
theorem JF (hr:dR rows) (hl:rows.length=af.length) (a b:Int) :
  EvP prog 18 [.pt (iy af tc rows js) 0,.v (.int .i64 a),.v (.int .i64 b)] (.v (.bool (hasB rows a b))):=by
 have h1:=yM af tc rows js;have h2:=kC rows hr a b;have hB:hasB rows a b=(decide (0<=a) && decide (a < af.length) && decide (0<=b) && decide (b < af.length) && aS rows a.toNat b.toNat):=by rw [<- hl];all_goals rfl
 generalize hasB rows a b=h at h2 hB ⊢;refine eG 24 [.tmp 6] func18 rfl ntmps18 rfl fun _ _ _ _=>?_;refine cP IB (h1 a) ?_;refine br ?_ ?_<;>intro g
 ·refine cP IB (h1 b) ?_;refine br ?_ ?_<;>intro g2
  ·refine cP K9 h2 ?_;exact (rfl:_=_)
  ·refine (bo ?_:);rw [hB];simp only [Bool.and_assoc] at g g2 ⊢;cases hx:decide (0<=b)<;>cases hy:decide (b < af.length)<;>simp_all [pickB]
 ·refine (bo ?_:);rw [hB];cases hx:decide (0<=a)<;>cases hy:decide (a < af.length)<;>simp_all [pickB]
end
structure F6 (n:Nat) (f:Nat->Nat->Bool) (af:List ByteArray) (LC:List DV):Prop where
 ok:dG f n
 n32:n<=32
 nl:af.length=n
 len:EvP prog 17 [.pt LC 0] (.v (.int .i64 n))
 leq:∀ a b:Int,EvP prog 18 [.pt LC 0,.v (.int .i64 a),.v (.int .i64 b)] (.v (.bool (Nh f n a b)))
 join:∀ a b:Nat,a < n->b < n->EvP prog 52 [.pt LC 0,.v (.int .i64 a),.v (.int .i64 b)] (.v (.int .i64 (qm f n a b:Nat)))
 bot:EvP prog 51 [.pt LC 0] (.v (.int .i64 (iM f n:Nat)))
abbrev aV (S:Sch):Nat->Nat->Bool:=eC S.ae.length (de (az S.ae) S.order)
theorem jX.Qq {S:Sch} {ND:List Nd} {PC:List DV} (hP:jX S ND PC):∃ LC,EvP prog 15 [.pt PC 0] (.pt LC 0)/\F6 S.ae.length (aV S) (az S.ae) LC:=by
 obtain ⟨aG,js,hX,hl⟩:=hP.lat;have jd:=di S.ae;have Bp:=(hP.fine).lat;obtain ⟨hL,PV⟩:=kK Bp;have hpr:∀ p∈de (az S.ae) S.order,p.1 < S.ae.length/\p.2 < S.ae.length:=by have:=nA (oK Bp).2.2.1;rwa [di] at this
 have fy:(dT S aG js).rows.length=S.ae.length:=by
  show (closeR (eX S.ae.length (de (az S.ae) S.order)) S.ae.length).length=_;rw [eY,jO]
 have hr:dR (dT S aG js).rows:=kD (Am (by omega) _ hpr) _ (by omega)
 refine ⟨_,hl,{
  ok:=hL,n32:=PV,nl:=jd
  len:=?_
  leq:=fun a b=>?_
  join:=fun a b ha hb=>?_
  bot:=?_
  }⟩
 ·have:=rD (dT S aG js).af (cL (dT S aG js).af (dT S aG js).aG) (dT S aG js).rows (dT S aG js).js
  rwa [show (dT S aG js).af.length=S.ae.length from jd] at this
 ·have:=JF (dT S aG js).af (cL (dT S aG js).af (dT S aG js).aG) (dT S aG js).rows (dT S aG js).js hr (by rw [fy];exact jd.symm) a b
  have he:hasB (dT S aG js).rows a b=Nh (aV S) S.ae.length a b:=by
   unfold hasB Nh;rw [fy];all_goals rfl
  rwa [he] at this
 ·have hz:=(hX.hj a b (by rw [show (dT S aG js).af.length=S.ae.length from jd];exact ha) (by rw [show (dT S aG js).af.length=S.ae.length from jd];exact hb)).1;rw [show (dT S aG js).af.length=S.ae.length from jd,show (dT S aG js).f=aV S from rfl,wH hL ha hb] at hz;exact vy (dT S aG js).af (cL (dT S aG js).af (dT S aG js).aG) (dT S aG js).rows (dT S aG js).js a b _ (by rw [show (dT S aG js).af.length=S.ae.length from jd];exact ha) (by rw [show (dT S aG js).af.length=S.ae.length from jd];exact hb) hX.hn hz
 ·have:=pV (dT S aG js).af (cL (dT S aG js).af (dT S aG js).aG) (dT S aG js).rows (dT S aG js).js hX.hL hX.hn hX.hj
  rwa [show (dT S aG js).af.length=S.ae.length from jd,show (dT S aG js).f=aV S from rfl,nI hL] at this
def cd (s:dX):Bool:=
 if s.k=1∨s.k=5 then decide (s.n=0) && aM s.s
 else if s.k=2 then decide (0<=s.n) && decide (s.s=⟨#[]⟩)
 else if s.k=3∨s.k=4 then decide (s.n=0) && decide (s.s=⟨#[]⟩) else false
def gI (l:List dX):Bool:=decide (l.length<=64) && l.all cd
theorem wI (s:dX):gI [s]=cd s:=by simp [gI]
def n5 (d:Nd) (s:dX) (e:Ed):Bool:=
 (decide (s.k=1) && decide (d.ag=7) && (decide (e.name=s.s) && !e.bare)) || (decide (s.k=5) && decide (d.ag=8) && (decide (e.name=s.s) && !e.bare)) ||
  ((decide (s.k=2) || decide (s.k=3)) && decide (d.ag=5) && decide (s.n < d.most)) || (decide (s.k=4) && decide (d.ag=6))
def F7 (d:Nd) (s:dX) (e:Ed):Bool:=
 if s.k=1 then decide (d.ag=7) && decide (e.name=s.s)
 else if s.k=5 then decide (d.ag=8) && decide (e.name=s.s) && !e.bare
 else if s.k=2 then decide (d.ag=5) && decide (s.n < d.most)
 else if s.k=3 then decide (d.ag=5) && decide (0 < d.most)
 else decide (d.ag=6)
theorem Nj {s:dX} (h:cd s=true):s.k=1∨s.k=2∨s.k=3∨s.k=4∨s.k=5:=by grind [cd]
theorem HR {L N:Nat} {d:Nd} (hN:dg L N d) {s:dX} (hr:cd s=true) {e:Ed} (he:e∈d.aw):F7 d s e=n5 d s e:=by
 have hk:=Nj hr;have hb:=hN.bare e he
 grind [F7,n5,cd]
def edgeP (d:Nd) (s:dX) (k:Nat):Bool:=match d.aw[k]? with | some e=>n5 d s e | none=>false
def l5 (d:Nd) (s:dX):Option Nat:=if cd s=true then bc (edgeP d s) d.aw.length else none
theorem wJ {d:Nd} {s:dX} {k:Nat} (h:l5 d s=some k):∃ e,d.aw[k]? = some e/\n5 d s e=true/\cd s=true:=by
 unfold l5 at h;split at h
 ·rename_i hr;obtain ⟨h1,h2,_⟩:=cM h
  grind [edgeP]
 ·cases h
def walkV (ND:List Nd) (f:Nat->Nat->Bool) (n:Nat):List dX->Nat->Nat->Option (Nat × Nat)
 | [],i,a=>some (i,a)
 | s :: p,i,a=>match ND[i]? with
  | none=>none
  | some d=>match l5 d s with
   | none=>none
   | some k=>match d.aw[k]? with
    | none=>none
    | some e=>walkV ND f n p e.to.toNat (qm f n a e.label.toNat)
theorem oQ {L N:Nat} {d:Nd} (hN:dg L N d) {s:dX} {e:Ed} (he:e∈d.aw) (h:n5 d s e=true):e.bare=false:=by
 cases hb:e.bare
 ·rfl
 ·have h8:=hN.bare e he hb;unfold n5 at h;simp [hb,h8] at h
theorem fi {L:Nat} {ND:List Nd} {d:Nd} (hN:dg L ND.length d) {e:Ed} (he:e∈d.aw):(e.bare=false->e.to=(e.to.toNat:Nat)/\e.to.toNat < ND.length)/\(e.label=(e.label.toNat:Nat)/\e.label.toNat < L)/\(e.seen=(e.seen.toNat:Nat)/\e.seen.toNat < L):=by
 have hE:=hN.fZ e he;refine ⟨fun hb=>?_,?_,?_⟩
 ·obtain ⟨k,h1,h2⟩:=hE.to1 hb;rw [h1];exact ⟨by simp,by simpa using h2⟩
 ·obtain ⟨k,h1,h2⟩:=hE.lab;rw [h1];exact ⟨by simp,by simpa using h2⟩
 ·obtain ⟨k,h1,h2⟩:=hE.seen;rw [h1];exact ⟨by simp,by simpa using h2⟩
theorem Dh {f:Nat->Nat->Bool} {L:Nat} (hL:dG f L) {ND:List Nd} (bF:∀ n∈ND,dg L ND.length n):∀ (p:List dX) (i a:Nat) {j b:Nat},i < ND.length->a < L->walkV ND f L p i a=some (j,b)->j < ND.length/\b < L
 | [],i,a,j,b,hi,ha,h=>by grind [walkV]
 | s :: p,i,a,j,b,hi,ha,h=>by
  rw [walkV,gE hi] at h;simp only at h;split at h
  ·cases h
  ·rename_i k hk;obtain ⟨e,he,hB,_⟩:=wJ hk;rw [he] at h;simp only at h;have hm:=mG he;have hd:=bF _ (List.getElem_mem hi);obtain ⟨h1,h2,_⟩:=fi hd hm;exact Dh hL bF p _ _ (h1 (oQ hd hm hB)).2 (rZ hL ha h2.2) h
def mX (f:Nat->Nat->Bool) (n obs:Nat) (d:Nd) (e:Ed) (a:Nat):Nat:=
 if f (if d.ag < 7 then a else qm f n a e.label.toNat) obs=true then 2 else if e.ck≠0/\f (qm f n a e.seen.toNat) obs=true then 1 else 0
section
variable (ND:List Nd) (f:Nat->Nat->Bool) (n obs dep:Nat)
end
def dW (d:Nd) (z:Int) (j:Nat):Option Ed:=if d.ag=7 then d.aw[j]? else if d.ag=8 then d.aw[z.toNat]? else d.aw[0]?
def jZ (f:Nat->Nat->Bool) (n:Nat) (d:Nd) (e:Ed) (a:Nat):Nat:=if d.ag < 7 then a else qm f n a e.label.toNat
def Di (e:Ed):Val:=.mk 9 e.wide aq []
def fj (e:Ed) (v:Val):Val:=
 if e.ck=1/\v.k=2/\(aY v.n e.cn).2=true then .mk 10 (aY v.n e.cn).1 aq []
 else if e.ck=2/\v.k=3 then .mk 11 0 (ba (headL e.cn.toNat (tx v.s))) []
 else if e.ck=3/\v.k=5 then .mk 12 v.ks.length aq []
 else Di e
section
variable (ND:List Nd) (f:Nat->Nat->Bool) (L obs:Nat)
mutual
def eraseV:Val->Int->Nat->Val
 | .mk k n s ks,i,a=>match cu ND i with
  | none=>.mk k n s []
  | some d=>.mk k n s (eraseVs ks d n a 0)
def eraseVs:List Val->Nd->Int->Nat->Nat->List Val
 | [],_,_,_,_=>[]
 | x :: r,d,z,a,j=>(match dW d z j with
  | none=>x
  | some e=>if mX f L obs d e a=2 then eraseV x e.to (jZ f L d e a) else if mX f L obs d e a=1 then fj e x else Di e) :: eraseVs r d z a (j + 1)
end
end
section
variable {ND:List Nd} {f:Nat->Nat->Bool} {L obs:Nat}
theorem sL:∀ (ks:List Val) (d:Nd) (z:Int) (a j:Nat),(eraseVs ND f L obs ks d z a j).length=ks.length
 | [],_,_,_,_=>by rw [eraseVs]
 | x :: r,d,z,a,j=>by rw [eraseVs,List.length_cons,List.length_cons,sL r]
theorem JG (u:Nat) (l:List UInt8):(headL u l).length<=l.length:=(ze u l).length_le
theorem wK:∀ {ks:List Val} {d:Nd} {z:Int} {a j m:Nat} {x:Val},ks[m]? = some x->(eraseVs ND f L obs ks d z a j)[m]? = some (match dW d z (j + m) with
  | none=>x
  | some e=>if mX f L obs d e a=2 then eraseV ND f L obs x e.to (jZ f L d e a) else if mX f L obs d e a=1 then fj e x else Di e)
 | [],_,_,_,_,_,_,h=>by cases h
 | y :: r,d,z,a,j,0,x,h=>by
  rw [eraseVs];cases h;rfl
 | y :: r,d,z,a,j,m + 1,x,h=>by
  rw [eraseVs,List.getElem?_cons_succ,wK (ks:=r) (m:=m) (x:=x) h,show j + 1 + m=j + (m + 1) by omega]
theorem Nk {N:Nat} (bF:∀ n∈ND,dg N ND.length n) {v:Val} {i:Int} {d:Nd} (zF:fitV ND v i=true) (hF:UM ND v i d) {m:Nat} {x:Val} (hx:v.ks[m]? = some x) :
  ∃ e,dW d v.n m=some e/\e∈d.aw/\e.bare=false/\fitV ND x e.to=true/\wv d v m=e.to/\5<=d.ag:=by
 have hN:=bF d (mG (cC hF.ap).2);have hm:m < v.ks.length:=(gS hx).1;have h8:=hN.k8;have h1:=hN.k1;by_cases h5:d.ag < 5
 ·rw [hF.leaf h5] at hx;cases hx
 obtain ⟨nN,hkf⟩:=hF.kids (by omega);rcases (show (d.ag=5∨d.ag=6)∨d.ag=7∨d.ag=8 by omega) with c | c | c
 ·obtain ⟨e,he,hb,_⟩:=hN.one c;have ht0:to0 d=e.to:=by unfold to0;rw [he];all_goals rfl
  have hl:(kidsL d v)[m]? = some e.to:=by grind [kidsL]
  refine ⟨e,?_,by rw [he];exact List.mem_singleton_self e,hb,ql hkf hx hl,?_,by omega⟩
  ·grind [dW]
  ·unfold wv;rw [ht0];rcases c with c | c
   ·rw [ai c,ai];have h2:=zF;obtain ⟨q,z,s,ks⟩:=v;rw [fitV,hF.ap] at h2
    grind [dH]
   ·have:=hF.opt c;omega
 ·have EK:(kidsL d v)=d.aw.map Ed.to:=by grind [kidsL]
  have ey:m < d.aw.length:=by
   rw [EK,List.length_map] at nN;omega
  obtain ⟨e,he⟩:∃ e,d.aw[m]? = some e:=⟨_,gE ey⟩;have hl:(kidsL d v)[m]? = some e.to:=by rw [EK,List.getElem?_map,he];all_goals rfl
  have mv:=mG he;refine ⟨e,?_,mv,?_,ql hkf hx hl,?_,by omega⟩
  ·unfold dW;rw [ai c,he]
  ·cases hb:e.bare
   ·rfl
   ·have:=hN.bare e mv hb;omega
  ·grind [wv]
 ·obtain ⟨e,ht,he,h0,av,hb⟩:=hF.tag c
  grind [kidsL,ql,dW,wv]
structure ZQ (ND:List Nd) (d:Nd) (z:Int) (j:Nat) (x:Val) (e:Ed):Prop where
 fZ:dW d z j=some e
 mem:e∈d.aw
 bare:e.bare=false
 fit:fitV ND x e.to=true
 to':wv d (.mk 0 z aq []) j=e.to
theorem Qr {N:Nat} (bF:∀ n∈ND,dg N ND.length n) {v:Val} {i:Int} {d:Nd} (zF:fitV ND v i=true) (hF:UM ND v i d) {m:Nat} {x:Val} (hx:v.ks[m]? = some x):∃ e,ZQ ND d v.n m x e:=by
 obtain ⟨e,h1,h2,h3,h4,h5,_⟩:=Nk bF zF hF hx;exact ⟨e,⟨h1,h2,h3,h4,h5⟩⟩
theorem Dj {N:Nat} {d:Nd} {e:Ed} (hN:dg N ND.length d) (he:e∈d.aw) (hb:e.bare=false):0<=e.to/\∃ d',cu ND e.to=some d':=by
 obtain ⟨k,hk,av⟩:=(hN.fZ e he).to1 hb;refine ⟨by omega,ND[k],?_⟩
 grind [cu]
end
section
variable (ND:List Nd) (f:Nat->Nat->Bool) (L obs:Nat)
end
section
variable {ND:List Nd} {f:Nat->Nat->Bool} {L obs:Nat}
theorem HS (d:Nd) (e:Ed) (a:Nat):mX f L obs d e a=if f (jZ f L d e a) obs=true then 2 else if e.ck≠0/\f (qm f L a e.seen.toNat) obs=true then 1 else 0:=rfl
theorem AR {N:Nat} {d:Nd} {e:Ed} {a:Nat} (hL:dG f L) (hN:dg L N d) (hm:e∈d.aw) (ha:a < L):jZ f L d e a < L:=by
 obtain ⟨k,hk,hl⟩:=(hN.fZ e hm).lab;unfold jZ;split
 ·exact ha
 ·exact rZ hL ha (by rw [hk,iT];exact hl)
end
def Dk (f:Nat->Nat->Bool) (c k:Nat):Bool:=(List.range k).all (f c)
theorem JH (f:Nat->Nat->Bool) (c k:Nat):Dk f c (k + 1)=(Dk f c k && f c k):=by simp [Dk,List.range_succ]
theorem Dl (f:Nat->Nat->Bool) (n c:Nat):rG f n [] c=Dk f c n:=by simp [rG,gG,Dk]
abbrev Sz (n:Nat) (f:Nat->Nat->Bool) (e:Nat):St:=⟨[aZ 0 1 (cH (dt n f)),au 3 e],[],[]⟩
abbrev ZR (n:Nat) (f:Nat->Nat->Bool) (e:Nat) (x:Bool) (k:Nat):St:=⟨[aZ 0 1 (cH (dt n f)),au 3 e,uF 4 x,au 5 k],[],[]⟩
theorem n7 (n:Nat) (f:Nat->Nat->Bool) (hn:n<=64):EvP prog 41 [.sl 1 (cH (dt n f)) none] (.v (.int .i64 (oz (er f n [])))):=by
 have ey:=gn n f;refine eG 30 [.tmp 2] func41 rfl ntmps41 rfl fun _ _ _ _=>?_;refine lI (fun j st=>∃ e:Nat,st=Sz n f e/\e<=n/\(∀ c,c < e->rG f n [] c=false)/\j=n - e) ⟨0,rfl,by omega,fun _ h=>by omega,rfl⟩ (wkM wB) ?_;rintro j st ⟨e,rfl,he,dE,rfl⟩;refine br ?_ ?_<;>intro hL
 ·have av:e < n:=sV ey hL;refine lJ (fun k=>ZR n f e (Dk f e k) k) n (wkM (by repeat' (first | exact trivial | exact aA rfl | exact bV rfl | refine ⟨⟨_,rfl,?_⟩,?_⟩))) ?_;intro k hk;refine br ?_ ?_<;>intro mN
  ·have gL:k < n:=sV ey mN;have Jn:=JH f e k;refine br ?_ ?_<;>intro g
   ·refine iX (dj av) ?_;refine iX (cA gL) ?_;have g:Dk f e k=true:=sU g;rw [g,Bool.true_and] at Jn;exact rE ⟨_,by omega,k + 1,rfl,by omega,rfl⟩ (wkM (wB2 (nxt gL (by omega)) Jn.symm))
   ·have g:Dk f e k=false:=sU g;rw [g,Bool.false_and] at Jn;exact rE ⟨_,by omega,k + 1,rfl,by omega,rfl⟩ (wkM (wB2 (nxt gL (by omega)) Jn.symm))
  ·have hge:k=n:=sW ey mN;subst hge;refine br ?_ ?_<;>intro g
   ·have g:rG f k [] e=true:=by rw [Dl];exact g
    rw [er,bP av g dE];exact (rfl:_=_)
   ·have g:rG f k [] e=false:=by rw [Dl];exact g
    refine ⟨Sz k f (e + 1),(wkM (wB1 (nxt av (by omega)))),k - (e + 1),by omega,e + 1,rfl,by omega,fun j hj=>?_,rfl⟩;rcases jB hj with hj | rfl
    ·exact dE j hj
    ·exact g
 ·have hge:e=n:=sW ey hL;subst hge;rw [er,bZ dE];exact (rfl:_=_)
theorem Dm {α:Type} {l:List α} {e:Nat} {x:α} {p:α->Bool} (h:l[e]? = some x):(l.drop e).all p=(p x && (l.drop (e + 1)).all p):=by
 obtain ⟨h1,h2⟩:=List.getElem?_eq_some_iff.1 h;rw [List.drop_eq_getElem_cons h1,h2,List.all_cons]
theorem AS (s:dX) (hs:s.s.size<=4611686018427387904):EvP prog 144 [.agg (jY s)] (.v (.bool (cd s))):=by
 have hr:=eV s.s hs;obtain ⟨k,n,t⟩:=s;have hF:cd ⟨k,n,t⟩=if k=1∨k=5 then decide (n=0) && aM t else if k=2 then decide (0<=n) && decide (t=⟨#[]⟩) else if k=3∨k=4 then decide (n=0) && decide (t=⟨#[]⟩) else false:=rfl
 generalize cd ⟨k,n,t⟩=F at hF ⊢;refine eG 39 [.tmp 2] func144 rfl ntmps144 rfl fun _ _ _ _=>?_;refine br ?_ ?_<;>intro c
 ·have c:k=1:=sU c;rw [ai (.inl c)] at hF;refine br (fun _=>?_) (fun g=>absurd g (by simp [c]));refine br ?_ ?_<;>intro g
  ·have g:n=0:=sU g;refine cP zX hr ?_;refine (bo ?_:);rw [hF];simp [g,pickB]
  ·have g:¬ n=0:=sU g;refine (bo ?_:);rw [hF];simp [g,pickB]
 have c1:¬ k=1:=sU c;refine br ?_ ?_<;>intro c
 ·have c:k=5:=sU c;rw [ai (.inr c)] at hF;refine br ?_ ?_<;>intro g
  ·have g:n=0:=sU g;refine cP zX hr ?_;refine (bo ?_:);rw [hF];simp [g,pickB]
  ·have g:¬ n=0:=sU g;refine (bo ?_:);rw [hF];simp [g,pickB]
 have c5:¬ k=5:=sU c;rw [ah (by omega)] at hF;refine br ?_ ?_<;>intro c
 ·have c:k=2:=sU c;rw [ai c] at hF;refine (bo ?_:);rw [hF];cases decide (0<=n)<;>rfl
 have c2:¬ k=2:=sU c;rw [ah c2] at hF;refine br ?_ ?_<;>intro c
 ·have c:k=3:=sU c;rw [ai (.inl c)] at hF;refine br (fun _=>?_) (fun g=>absurd g (by simp [c]));refine (bo ?_:);rw [hF];cases decide (n=0)<;>rfl
 have c3:¬ k=3:=sU c;refine br ?_ ?_<;>intro c
 ·have c:k=4:=sU c;rw [ai (.inr c)] at hF;refine (bo ?_:);rw [hF];cases decide (n=0)<;>rfl
 have c4:¬ k=4:=sU c;rw [ah (by omega)] at hF;subst hF;exact (rfl:_=_)
abbrev prSt (l:List dX) (e:Nat):St:=⟨[aZ 8 3 (cF l),au 9 ((cF l).length),au 10 e],[],[]⟩
theorem sM (l:List dX) (hs:∀ s∈l,s.s.size<=4611686018427387904):EvP prog 90 [.sl 3 (cF l) none] (.v (.bool (gI l))):=by
 have cw:=iA l;have hF:gI l=(decide (l.length<=64) && l.all cd):=rfl;generalize gI l=F at hF ⊢;refine eG 18 [.tmp 2] func90 rfl ntmps90 rfl fun _ _ _ _=>?_;refine br ?_ ?_<;>intro g
 ·have:¬ l.length<=64:=by simp [cw] at g;omega
  rw [decide_eq_false this,Bool.false_and] at hF;subst hF;exact (rfl:_=_)
 have fN:l.length<=64:=by simp [cw] at g;omega
 rw [decide_eq_true fN,Bool.true_and] at hF;refine lI (fun j st=>∃ e:Nat,st=prSt l e/\e<=l.length/\F=(l.drop e).all cd/\j=l.length - e) ⟨0,rfl,by omega,hF,rfl⟩ (wkM wB) ?_;rintro j st ⟨e,rfl,he,aK,rfl⟩;refine br ?_ ?_<;>intro hL
 ·have av:e < l.length:=sV cw hL;obtain ⟨x,hx⟩:=gX av;have h1:=AS x (hs x (mG hx));rw [Dm hx] at aK;obtain ⟨xk,xn,xs⟩:=x;refine iX (eH hx) ?_;refine cP Xo h1 ?_;refine br ?_ ?_<;>intro g
  ·have g:cd ⟨xk,xn,xs⟩=false:=sU g;rw [g,Bool.false_and] at aK;subst aK;exact (rfl:_=_)
  ·have g:cd ⟨xk,xn,xs⟩=true:=sU g;rw [g,Bool.true_and] at aK;exact rE ⟨_,by omega,e + 1,rfl,by omega,aK,rfl⟩ (wkM (wB1 (nxt av (by omega))))
 ·have hge:l.length<=e:=sV cw hL;rw [List.drop_eq_nil_of_le hge] at aK;subst aK;exact (rfl:_=_)
abbrev ZS (l:List dX) (e:Nat):St:=⟨[aZ 0 3 (cF l),au 3 e],[],[]⟩
theorem qq (l:List dX) (hs:∀ s∈l,s.s.size<=4611686018427387904):EvP prog 82 [.sl 3 (cF l) none] (.v (.bool (gI l))):=by
 have cw:=iA l;have hF:gI l=(decide (l.length<=64) && l.all cd):=rfl;generalize gI l=F at hF ⊢;refine eG 66 [.tmp 2] func82 rfl ntmps82 rfl fun _ _ _ _=>?_;refine br ?_ ?_<;>intro g
 ·have:¬ l.length<=64:=by simp [cw] at g;omega
  rw [decide_eq_false this,Bool.false_and] at hF;subst hF;exact (rfl:_=_)
 have fN:l.length<=64:=by simp [cw] at g;omega
 rw [decide_eq_true fN,Bool.true_and] at hF;refine lI (fun j st=>∃ e:Nat,st=ZS l e/\e<=l.length/\F=(l.drop e).all cd/\j=l.length - e) ⟨0,rfl,by omega,hF,rfl⟩ (wkM wB) ?_;rintro j st ⟨e,rfl,he,aK,rfl⟩;refine br ?_ ?_<;>intro hL
 ·have av:e < l.length:=sV cw hL;obtain ⟨x,hx⟩:=gX av;have h1:=gl x.s (hs x (mG hx));rw [Dm hx] at aK;have VF:∀ k n t,cd ⟨k,n,t⟩=if k=1∨k=5 then decide (n=0) && aM t else if k=2 then decide (0<=n) && decide (t=⟨#[]⟩) else if k=3∨k=4 then decide (n=0) && decide (t=⟨#[]⟩) else false:=fun _ _ _=>rfl
  obtain ⟨xk,xn,xs⟩:=x;rw [VF] at aK;refine iX (eH hx) ?_
  have bg:aM xs=true->xs≠⟨#[]⟩:=by
   intro h e;rw [e] at h
   revert h
   decide
  have hk:xk=1∨xk=5∨xk=2∨xk=3∨xk=4∨(xk < 1/\¬ 5 < xk/\¬ xk=1/\¬ xk=2/\¬ xk=3/\¬ xk=4/\¬ xk=5)∨(¬ xk < 1/\5 < xk/\¬ xk=1/\¬ xk=2/\¬ xk=3/\¬ xk=4/\¬ xk=5):=by omega
  have hd:(xn < 0)↔¬ (0<=xn):=by omega
  have jc:∀ b,(if xk=1∨xk=5 then decide (xn=0) && aM xs else if xk=2 then decide (0<=xn) && decide (xs=⟨#[]⟩) else if xk=3∨xk=4 then decide (xn=0) && decide (xs=⟨#[]⟩) else false)=b->F=(b && (l.drop (e + 1)).all cd):=fun b h=>by rw [aK,h]
  refine br ?_ ?_<;>intro g1
  ·refine br ?_ ?_<;>intro g2
   ·refine cP su h1 ?_;refine br ?_ ?_<;>intro g3
    ·have hF:=jc false (by
      clear aK jc VF h1 hx
      rcases hk with rfl | rfl | rfl | rfl | rfl | ⟨k1,k2,k3,k4,k5,k6,k7⟩ | ⟨k1,k2,k3,k4,k5,k6,k7⟩<;>by_cases h0:xs=⟨#[]⟩<;>by_cases hz:xn=0<;>by_cases mj:0<=xn<;>cases xF:aM xs<;>first | (exact absurd h0 (bg xF)) | (simp [lastG,pickB,hd,h0,hz,mj,xF,k1,k2,k3,k4,k5,k6,k7] at g1 g2 g3 ⊢;done) | (simp [lastG,pickB,hd,h0,hz,mj,xF] at g1 g2 g3 ⊢;done) | omega)
     rw [hF,Bool.false_and];exact (rfl:_=_)
    ·have hF:=jc true (by
      clear aK jc VF h1 hx
      rcases hk with rfl | rfl | rfl | rfl | rfl | ⟨k1,k2,k3,k4,k5,k6,k7⟩ | ⟨k1,k2,k3,k4,k5,k6,k7⟩<;>by_cases h0:xs=⟨#[]⟩<;>by_cases hz:xn=0<;>by_cases mj:0<=xn<;>cases xF:aM xs<;>first | (exact absurd h0 (bg xF)) | (simp [lastG,pickB,hd,h0,hz,mj,xF,k1,k2,k3,k4,k5,k6,k7] at g1 g2 g3 ⊢;done) | (simp [lastG,pickB,hd,h0,hz,mj,xF] at g1 g2 g3 ⊢;done) | omega)
     rw [Bool.true_and] at hF;exact rE ⟨_,by omega,e + 1,rfl,by omega,hF,rfl⟩ (wkM (wB1 (nxt av (by omega))))
   ·refine br ?_ ?_<;>intro g3
    ·have hF:=jc false (by
      clear aK jc VF h1 hx
      rcases hk with rfl | rfl | rfl | rfl | rfl | ⟨k1,k2,k3,k4,k5,k6,k7⟩ | ⟨k1,k2,k3,k4,k5,k6,k7⟩<;>by_cases h0:xs=⟨#[]⟩<;>by_cases hz:xn=0<;>by_cases mj:0<=xn<;>cases xF:aM xs<;>first | (exact absurd h0 (bg xF)) | (simp [lastG,pickB,hd,h0,hz,mj,xF,k1,k2,k3,k4,k5,k6,k7] at g1 g2 g3 ⊢;done) | (simp [lastG,pickB,hd,h0,hz,mj,xF] at g1 g2 g3 ⊢;done) | omega)
     rw [hF,Bool.false_and];exact (rfl:_=_)
    ·have hF:=jc true (by
      clear aK jc VF h1 hx
      rcases hk with rfl | rfl | rfl | rfl | rfl | ⟨k1,k2,k3,k4,k5,k6,k7⟩ | ⟨k1,k2,k3,k4,k5,k6,k7⟩<;>by_cases h0:xs=⟨#[]⟩<;>by_cases hz:xn=0<;>by_cases mj:0<=xn<;>cases xF:aM xs<;>first | (exact absurd h0 (bg xF)) | (simp [lastG,pickB,hd,h0,hz,mj,xF,k1,k2,k3,k4,k5,k6,k7] at g1 g2 g3 ⊢;done) | (simp [lastG,pickB,hd,h0,hz,mj,xF] at g1 g2 g3 ⊢;done) | omega)
     rw [Bool.true_and] at hF;exact rE ⟨_,by omega,e + 1,rfl,by omega,hF,rfl⟩ (wkM (wB1 (nxt av (by omega))))
  ·have g2:=g1;have g3:=g1
   have hF:=jc false (by
     clear aK jc VF h1 hx
     rcases hk with rfl | rfl | rfl | rfl | rfl | ⟨k1,k2,k3,k4,k5,k6,k7⟩ | ⟨k1,k2,k3,k4,k5,k6,k7⟩<;>by_cases h0:xs=⟨#[]⟩<;>by_cases hz:xn=0<;>by_cases mj:0<=xn<;>cases xF:aM xs<;>first | (exact absurd h0 (bg xF)) | (simp [lastG,pickB,hd,h0,hz,mj,xF,k1,k2,k3,k4,k5,k6,k7] at g1 g2 g3 ⊢;done) | (simp [lastG,pickB,hd,h0,hz,mj,xF] at g1 g2 g3 ⊢;done) | omega)
   rw [hF,Bool.false_and];exact (rfl:_=_)
 ·have hge:l.length<=e:=sV cw hL;rw [List.drop_eq_nil_of_le hge] at aK;subst aK;exact (rfl:_=_)
def oR (K:List Nat) (e:Ed):Nat:=K.getD e.to.toNat 0
def leastR (K:List Nat):List Ed->Nat->Nat
 | [],m=>m + 1
 | e :: r,m=>if oR K e=0 then 0 else leastR K r (max m (oR K e))
def eK (K:List Nat):List Ed->Nat->Nat
 | [],b=>if b=0 then 0 else b + 1
 | e :: r,b=>if e.bare=true then 1 else if 0 < oR K e/\(b=0∨oR K e < b) then eK K r (oR K e) else eK K r b
def gg (n:Nd) (K:List Nat):Nat:=if n.ag=7 then leastR K n.aw 0 else if n.ag=8 then eK K n.aw 0 else 1
def depN (ND:List Nd):Nat->List Nat
 | 0=>List.replicate ND.length 0
 | d + 1=>ND.map fun n=>gg n (depN ND d)
theorem fI (ND:List Nd):∀ d,(depN ND d).length=ND.length
 | 0=>by simp [depN]
 | d + 1=>by simp [depN]
theorem depN_get (ND:List Nd) (d j:Nat):(depN ND (d + 1)).getD j 0=match ND[j]? with | none=>0 | some n=>gg n (depN ND d):=by grind [depN]
def JI (d:Nat) (A B:List Nat):Prop:=∀ j:Nat,(0 < A.getD j 0->B.getD j 0=A.getD j 0/\A.getD j 0<=d)/\(A.getD j 0=0->B.getD j 0=0∨B.getD j 0=d + 1)
theorem HT {d:Nat} {A B:List Nat} (h:JI d A B) (j:Nat):B.getD j 0<=d + 1:=by
 obtain ⟨h1,h2⟩:=h j;omega
theorem mY {K:List Nat}:∀ {es:List Ed} {m:Nat},leastR K es m=0↔∃ e∈es,oR K e=0
 | [],m=>by simp [leastR]
 | e :: r,m=>by
  rw [leastR];by_cases h:oR K e=0
  ·grind
  ·rw [ah h,mY]
   grind
theorem sN {d:Nat} {A B:List Nat} (hR:JI d A B):∀ {es:List Ed} {m:Nat},0 < leastR A es m->leastR B es m=leastR A es m
 | [],m,_=>rfl
 | e :: r,m,h=>by
  rw [leastR] at h ⊢;rw [leastR];by_cases h0:oR A e=0
  ·rw [ai h0] at h;omega
  rw [ah h0] at h ⊢;have h1:oR B e=oR A e:=((hR e.to.toNat).1 (by unfold oR at h0;omega)).1;rw [h1,ah h0];exact sN hR h
theorem wM {d:Nat} {A B:List Nat} (hR:JI d A B):∀ {es:List Ed} {m:Nat},m<=d + 1->(m=d + 1∨∃ e∈es,oR A e=0)->leastR B es m=0∨leastR B es m=d + 2
 | [],m,_,h=>by grind [leastR]
 | e :: r,m,hm,h=>by
  rw [leastR];by_cases h0:oR B e=0
  ·rw [ai h0];exact .inl rfl
  rw [ah h0];have fN:oR B e<=d + 1:=HT hR _;refine wM hR (by omega) ?_;rcases h with h | ⟨x,hx,h⟩
  ·left;omega
  ·rcases cr hx with rfl | hx
   ·left;have:=(hR x.to.toNat).2 h;unfold oR at h0 fN ⊢;omega
   ·exact .inr ⟨x,hx,h⟩
theorem lV {d:Nat} {A B:List Nat} (hR:JI d A B):∀ {es:List Ed} {a b:Nat},(0 < a->b=a/\a<=d)->(a=0->b=0∨b=d + 1) ->
  (0 < eK A es a->eK B es b=eK A es a)/\(eK A es a=0->eK B es b=0∨eK B es b=d + 2)
 | [],a,b,h1,h2=>by grind [eK]
 | e :: r,a,b,h1,h2=>by
  rw [eK,eK];by_cases hb:e.bare=true
  ·grind
  rw [ah hb,ah hb];obtain ⟨g1,g2⟩:=hR e.to.toNat;change (0 < oR A e->oR B e=oR A e/\oR A e<=d) at g1;change (oR A e=0->oR B e=0∨oR B e=d + 1) at g2;by_cases c1:0 < oR A e/\(a=0∨oR A e < a)<;>by_cases c2:0 < oR B e/\(b=0∨oR B e < b)
  ·rw [ai c1,ai c2];exact lV hR (by omega) (by omega)
  ·omega
  ·rw [ah c1,ai c2];exact lV hR (by omega) (by omega)
  ·rw [ah c1,ah c2];exact lV hR (by omega) (by omega)
theorem F8 {d:Nat} {A B:List Nat} (hR:JI d A B) (n:Nd):(0 < gg n A->gg n B=gg n A)/\(gg n A=0->gg n B=0∨gg n B=d + 2):=by
 unfold gg;by_cases h7:n.ag=7
 ·rw [ai h7,ai h7];exact ⟨sN hR,fun h=>wM hR (by omega) (.inr (mY.1 h))⟩
 grind [lV]
theorem Dp (N:Nat) (e:Ed):oR (List.replicate N 0) e=0:=by grind [oR]
theorem sO (N:Nat):∀ es:List Ed,eK (List.replicate N 0) es 0=0∨eK (List.replicate N 0) es 0=1
 | []=>.inl rfl
 | e :: r=>by
  rw [eK,Dp];by_cases hb:e.bare=true
  ·rw [ai hb];exact .inr rfl
  ·rw [ah hb,ah (by omega)];exact sO N r
theorem Dq (N:Nat) (n:Nd):gg n (List.replicate N 0)=0∨gg n (List.replicate N 0)=1:=by
 unfold gg;by_cases h7:n.ag=7
 ·rw [ai h7]
  cases h:n.aw with
  | nil=>right;rfl
  | cons e r=>left;rw [leastR,Dp,ai rfl]
 grind [sO]
theorem JJ (ND:List Nd) (j:Nat):(depN ND 0).getD j 0=0:=by grind [depN]
theorem Ds (ND:List Nd):∀ d,JI d (depN ND d) (depN ND (d + 1))
 | 0=>fun j=>by
  refine ⟨fun h=>by rw [JJ] at h;omega,fun _=>?_⟩;rw [depN_get]
  cases ND[j]? with
  | none=>exact .inl rfl
  | some n=>exact Dq _ n
 | d + 1=>fun j=>by
  have ih:=Ds ND d
  grind [depN_get,F8,HT]
def fJ (K:List Nat):List Bool:=K.map fun k=>decide (0 < k)
theorem wN (K:List Nat) (j:Nat):(fJ K).getD j false=decide (0 < K.getD j 0):=by grind [fJ]
theorem mZ (K:List Nat):(fJ K).length=K.length:=by simp [fJ]
theorem Nl {A B:List Nat} (hl:A.length=B.length) (h:∀ j,A.getD j 0=B.getD j 0):A=B:=by
 refine List.ext_getElem hl fun j h1 h2=>?_;have:=h j
 grind
def tA (K:List Bool) (e:Ed):Bool:=e.bare || K.getD e.to.toNat false
def HU (n:Nd) (K:List Bool):Bool:=if n.ag < 7 then true else if n.ag=7 then n.aw.all (tA K) else n.aw.any (tA K)
theorem oS {K:List Nat}:∀ {es:List Ed} {b:Nat},0 < eK K es b↔(0 < b∨es.any (tA (fJ K))=true)
 | [],b=>by grind [eK]
 | e :: r,b=>by
  have hg:(fJ K).getD e.to.toNat false=decide (0 < oR K e):=wN K _;rw [eK,List.any_cons];by_cases hb:e.bare=true
  ·rw [ai hb];simp [tA,hb]
  ·rw [ah hb]
   have xN:tA (fJ K) e=decide (0 < oR K e):=by
    unfold tA;rw [hg];simp [hb]
   rw [xN,Bool.or_eq_true,decide_eq_true_eq];split
   ·rename_i h1;rw [oS];omega
   ·rename_i h1;rw [oS]
    grind
theorem F9 {n:Nd} {K:List Nat} (h8:n.ag<=8) (hb:∀ e∈n.aw,e.bare=true->n.ag=8):(0 < gg n K)↔HU n (fJ K)=true:=by
 unfold gg HU
 grind [leastR,mY,oR,fJ,wN,tA,oS]
theorem Nn {ND:List Nd} (hN:∀ n∈ND,n.ag<=8/\∀ e∈n.aw,e.bare=true->n.ag=8) (d:Nat) {i:Nat} {n:Nd} (h:ND[i]? = some n) :
  (depN ND (d + 1)).getD i 0=(if HU n (fJ (depN ND d))=true/\(depN ND d).getD i 0=0 then d + 1 else (depN ND d).getD i 0) /\
  (fJ (depN ND (d + 1))).getD i false=HU n (fJ (depN ND d)):=by
 obtain ⟨h8,hb⟩:=hN n (mG h);have hp:=F9 (K:=depN ND d) h8 hb;have hg:(depN ND (d + 1)).getD i 0=gg n (depN ND d):=by rw [depN_get,h]
 obtain ⟨h1,h2⟩:=(Ds ND d) i;refine ⟨?_,?_⟩
 ·grind
 ·grind [wN]
def cN (l:List Nat):List DV:=l.map fun (z:Nat)=>DV.v (.int .i64 (z:Int))
theorem Np (l:List Nat):(cN l).length=l.length:=by simp [cN]
theorem UO {l:List Nat} {i z:Nat} (h:l[i]? = some z):(cN l)[i]? = some (DV.v (.int .i64 (z:Int))):=by simp [cN,h]
theorem UP (l:List Nat) (i z:Nat):(cN l).set i (DV.v (.int .i64 (z:Int)))=cN (l.set i z):=by simp [cN,List.map_set]
theorem wO (l:List Nat):(dInts l).flatten=cN l:=by
 induction l with
 | nil=>rfl
 | cons b r ih=>simp only [dInts,cN,List.map_cons,List.flatten_cons] at ih ⊢;rw [ih];all_goals rfl
theorem repN (n:Nat):(List.replicate n (vL [Value.int .i64 0])).flatten=cN (List.replicate n 0):=by
 induction n with
 | zero=>rfl
 | succ n ih=>simp only [List.replicate_succ,List.flatten_cons,ih];rfl
theorem cK {n m:Nat} {tk:List TkE} {l:List DV} {r:List Nat} (h:l=cN r):WeL n m tk l (cN r):=by
 subst h;refine vf _ fun x hx=>?_;obtain ⟨z,_,rfl⟩:=List.mem_map.1 hx;exact ⟨_,rfl⟩
theorem ms_n {bx:List (List DV)} {N n0 m0 n i:Nat} {r:List Nat} (hr:r.length=n) (hN:N<=i) (hb:bx[i]? = some (cN r)):Cc bx N n0 m0 (.sl 1 (dInts r) none) (.ms i 1 0 n n):=by
 simp only [Cc];refine Or.inr (Or.inr (Or.inl ⟨i,0,n,_,by rw [bu,hr],hN,hb,?_,?_,?_⟩))
 ·grind [wO,Np,bu]
 ·grind [dInts]
 ·intro x hx;rw [wO] at hx;obtain ⟨_,_,rfl⟩:=List.mem_map.1 hx;exact .inl ⟨_,rfl⟩
abbrev UQ (d:Nd) (s:dX) (e:Nat):St:=⟨[aD 2 0,aD 3 1,au 5 e],[iS d,jY s],[]⟩
theorem Dt (d:Nd) (s:dX) (mb:d.aw.length<=1099511627776) (hs:s.s.size<=4611686018427387904):EvP prog 85 [.agg (iS d),.agg (jY s)] (.v (.int .i64 (oz (l5 d s)))):=by
 have hr:=qq [s] (sU hs);rw [wI] at hr;have hE:l5 d s=if cd s=true then bc (edgeP d s) d.aw.length else none:=rfl
 have hP:∀ (e:Nat) x,d.aw[e]? = some x->edgeP d s e=n5 d s x:=fun e x h=>by unfold edgeP;rw [h]
 have hB:∀ x:Ed,n5 d s x=((decide (s.k=1) && decide (d.ag=7) && (decide (x.name=s.s) && !x.bare)) || (decide (s.k=5) && decide (d.ag=8) && (decide (x.name=s.s) && !x.bare)) ||
  ((decide (s.k=2) || decide (s.k=3)) && decide (d.ag=5) && decide (s.n < d.most)) || (decide (s.k=4) && decide (d.ag=6))):=fun _=>rfl
 generalize l5 d s=I at hE ⊢;generalize cd s=R at hr hE;generalize edgeP d s=pE at hE hP;generalize n5 d s=bE at hP hB;obtain ⟨ag,aE,lo,hi,most,af,es⟩:=d;obtain ⟨k,n,t⟩:=s;have cw:=bT es;simp only at hE hP hB mb;refine eG 93 [.tmp 4] func85 rfl ntmps85 rfl fun _ _ _ _=>?_;refine cP WX hr ?_
 cases R with
 | false=>
  rw [ah (by simp)] at hE;subst hE;exact (rfl:_=_)
 | true=>
 rw [ai rfl] at hE;refine lI (fun j st=>∃ e:Nat,st=UQ ⟨ag,aE,lo,hi,most,af,es⟩ ⟨k,n,t⟩ e/\e<=es.length/\(∀ c,c < e->pE c=false)/\j=es.length - e) ⟨0,rfl,by omega,fun _ h=>by omega,rfl⟩ (wkM wB) ?_;rintro j st ⟨e,rfl,he,dE,rfl⟩;refine br ?_ ?_<;>intro hL
 ·have av:e < es.length:=sV cw hL;obtain ⟨x,hx⟩:=gX av;have Qs:=hP e x hx;rw [hB] at Qs;refine dI ?_;refine iX (bm hx) ?_;refine br ?_ ?_<;>intro g
  ·have g:decide (x.name=t)=true:=by cases h:decide (x.name=t)<;>simp_all
   refine iX (bm hx) ?_;refine br ?_ ?_<;>intro c
   ·have hc:pE e=true:=by
     rw [Qs,g];simpa only [pickB_and,aj,Bool.false_and,Bool.and_false,Bool.true_and,Bool.false_or,Bool.or_false] using c
    rw [bP av hc dE] at hE;subst hE;exact (rfl:_=_)
   ·have hc:pE e=false:=by
     rw [Qs,g];simpa only [pickB_and,aj,Bool.false_and,Bool.and_false,Bool.true_and,Bool.false_or,Bool.or_false] using c
    exact rE ⟨_,by omega,e + 1,rfl,by omega,fun c oc=>by
     rcases jB oc with h | h
     ·exact dE c h
     ·rw [h];exact hc,rfl⟩ (wkM (wB1 (nxt av (by omega))))
  ·have g:decide (x.name=t)=false:=by cases h:decide (x.name=t)<;>simp_all
   refine br ?_ ?_<;>intro c
   ·have hc:pE e=true:=by
     rw [Qs,g];simpa only [pickB_and,aj,Bool.false_and,Bool.and_false,Bool.true_and,Bool.false_or,Bool.or_false] using c
    rw [bP av hc dE] at hE;subst hE;exact (rfl:_=_)
   ·have hc:pE e=false:=by
     rw [Qs,g];simpa only [pickB_and,aj,Bool.false_and,Bool.and_false,Bool.true_and,Bool.false_or,Bool.or_false] using c
    exact rE ⟨_,by omega,e + 1,rfl,by omega,fun c oc=>by
     rcases jB oc with h | h
     ·exact dE c h
     ·rw [h];exact hc,rfl⟩ (wkM (wB1 (nxt av (by omega))))
 ·have hge:e=es.length:=sW cw hL;subst hge;rw [bZ dE] at hE;subst hE;exact (rfl:_=_)
theorem Nq (s:dX) (p:List dX):DV.sl 3 (((cF (s :: p)).take (((cF (s :: p)).length:Nat):Int).toNat).drop (1:Int).toNat) none = .sl 3 (cF p) none:=by
 rw [iT,List.take_length];all_goals rfl
abbrev wL (lv:List Wd) (f:Nat->Nat->Bool) (ND:List Nd) (z:Int):List DV:=[.sl 2 (bA lv) none,.sl 1 (cH (dt lv.length f)) none,.sl 7 (cX ND) none,.v (.int .i64 z)]
def ZT (o:Option (Nat × Nat)):DV:=match o with
 | some (j,b)=>.tup [.v (.int .i64 (j:Nat)),.v (.int .i64 (b:Nat))]
 | none=>.tup [.v (.int .i64 (-1)),.v (.int .i64 (-1))]
theorem sP (lv:List Wd) (f:Nat->Nat->Bool) (ND:List Nd) (z:Int) (hL:dG f lv.length) (hn:lv.length<=32) (bF:∀ n∈ND,dg lv.length ND.length n) (bL:∀ n∈ND,n.aw.length<=1099511627776) :
  ∀ (p:List dX),p.length<=1099511627776->(∀ s∈p,s.s.size<=4611686018427387904)->∀ (i a:Nat),i < ND.length->a < lv.length ->
   EvP prog 40 [.agg (wL lv f ND z),.v (.int .i64 i),.v (.int .i64 a),.sl 3 (cF p) none] (ZT (walkV ND f lv.length p i a))
 | [],_,_,i,a,hi,ha=>by
  have hW:wL lv f ND z=wL lv f ND z:=rfl;rw [walkV];refine eG 51 [.tmp 8,.tmp 9] func40 rfl ntmps40 rfl fun _ _ _ _=>?_;exact ⟨_,ax,rfl⟩
 | s :: p,hp,hs,i,a,hi,ha=>by
  obtain ⟨d,hd⟩:∃ d,ND[i]? = some d:=⟨_,gE hi⟩;have hm:=mG hd;have hN:=bF d hm;have xX:=Dt d s (bL d hm) (hs s (by simp));have ie:=fun k=>@wJ d s k;have rC:=fun e (he:e∈d.aw)=>fi hN he;have Sw:=fun e (he:e∈d.aw) h=>@oQ _ _ d hN s e he h;have HW:=Nq s p;have Bj:=eH (l:=s :: p) (e:=0) rfl;have Nr:=iA (s :: p);rw [List.length_cons] at Nr hp;have xM:=eD ND;have ih:=fun i a hi ha=>sP lv f ND z hL hn bF bL p (by omega) (fun s hs'=>hs s (by simp [hs'])) i a hi ha
  have hWV:walkV ND f lv.length (s :: p) i a=match l5 d s with
   | none=>none
   | some k=>match d.aw[k]? with
    | none=>none
    | some e=>walkV ND f lv.length p e.to.toNat (qm f lv.length a e.label.toNat):=by rw [walkV,hd];all_goals rfl
  rw [hWV];clear hWV;generalize l5 d s=o at xX ie ⊢
  cases o with
  | none=>
   obtain ⟨ag,aE,lo,dz,most,af,es⟩:=d;obtain ⟨sk,sn,ss⟩:=s;refine eG 51 [.tmp 8,.tmp 9] func40 rfl ntmps40 rfl fun _ _ _ _=>?_;refine dI ?_;refine ⟨_,⟨by omega,cp hd⟩,_,⟨by omega,Bj⟩,?_⟩;refine cD WZ xX ?_;exact ⟨_,ax,rfl⟩
  | some k=>
   obtain ⟨e,he,hB,_⟩:=ie k rfl;have Vx:=mG he;obtain ⟨h0,⟨h2,xT⟩,_⟩:=rC e Vx;obtain ⟨h1,qU⟩:=h0 (Sw e Vx hB);clear rC Sw ie h0;obtain ⟨en,eb,ea,et,qK,ew,dM,cY,sQ,gv⟩:=e;simp only at h1 h2 qU xT;obtain ⟨lb,rfl⟩:∃ n:Nat,qK=n:=⟨_,h2⟩;obtain ⟨tn,rfl⟩:∃ n:Nat,et=n:=⟨_,h1⟩;simp only [iT] at qU xT;have hj:=iK lv.length f (by omega) a lb ha xT;rw [oP hL ha xT] at hj;have hw:=ih tn (qm f lv.length a lb) qU (rZ hL ha xT);simp only [he,iT];generalize walkV ND f lv.length p tn (qm f lv.length a lb)=R at hw ⊢;obtain ⟨ag,aE,lo,dz,most,af,es⟩:=d;obtain ⟨sk,sn,ss⟩:=s;have mb:=bT es;simp only at he;refine eG 51 [.tmp 8,.tmp 9] func40 rfl ntmps40 rfl fun _ _ _ _=>?_;refine dI ?_;refine ⟨_,⟨by omega,cp hd⟩,_,⟨by omega,Bj⟩,?_⟩;refine cD WZ xX ?_;refine iX (cp hd) ?_;refine ⟨_,⟨by simp [oz],by simpa [oz] using bm he⟩,?_⟩;refine dI ?_;refine cD Lb hj ?_;refine ⟨⟨by omega,by omega,by omega⟩,?_⟩;refine cD Tw hw ?_ (o0 HW)
   cases R with
   | none=>exact ⟨_,ax,rfl⟩
   | some r=>exact ⟨_,ax,rfl⟩
theorem Ga (d:Nd) (e:Ed) (s:dX):EvP prog 147 [.agg (iS d),.agg (jv e),.agg (jY s)] (.v (.bool (F7 d s e))):=by
 obtain ⟨ag,aE,lo,hi,most,af,es⟩:=d;obtain ⟨en,eb,ea,et,qK,ew,dM,cY,sQ,gv⟩:=e;obtain ⟨k,n,t⟩:=s
 have hF:F7 ⟨ag,aE,lo,hi,most,af,es⟩ ⟨k,n,t⟩ ⟨en,eb,ea,et,qK,ew,dM,cY,sQ,gv⟩=if k=1 then decide (ag=7) && decide (en=t)
  else if k=5 then decide (ag=8) && decide (en=t) && !eb
  else if k=2 then decide (ag=5) && decide (n < most)
  else if k=3 then decide (ag=5) && decide (0 < most)
  else decide (ag=6):=rfl
 generalize F7 ⟨ag,aE,lo,hi,most,af,es⟩ ⟨k,n,t⟩ ⟨en,eb,ea,et,qK,ew,dM,cY,sQ,gv⟩=F at hF ⊢;refine eG 63 [.tmp 6] func147 rfl ntmps147 rfl fun _ _ _ _=>?_;refine br ?_ ?_<;>intro c
 ·have c:k=1:=sU c;rw [ai c] at hF;refine (bo ?_:);rw [hF];simp only [pickB_and]
 have c1:¬ k=1:=sU c;rw [ah c1] at hF;refine br ?_ ?_<;>intro c
 ·have c:k=5:=sU c;rw [ai c] at hF;refine (bo ?_:);rw [hF];simp only [pickB_and]
 have c5:¬ k=5:=sU c;rw [ah c5] at hF;refine br ?_ ?_<;>intro c
 ·have c:k=2:=sU c;rw [ai c] at hF;refine (bo ?_:);rw [hF];simp only [pickB_and]
 have c2:¬ k=2:=sU c;rw [ah c2] at hF;refine br ?_ ?_<;>intro c
 ·have c:k=3:=sU c;rw [ai c] at hF;refine (bo ?_:);rw [hF];simp only [pickB_and]
 have c3:¬ k=3:=sU c;rw [ah c3] at hF;refine (bo ?_:);rw [hF]
def estW (ND:List Nd) (f:Nat->Nat->Bool) (n:Nat) (s:dX) (i a:Nat):Option (Nat × Nat):=match ND[i]? with
 | none=>none
 | some d=>match l5 d s with
  | none=>none
  | some k=>match d.aw[k]? with
   | none=>none
   | some e=>some (e.to.toNat,qm f n a e.label.toNat)
theorem walkV_drop (ND:List Nd) (f:Nat->Nat->Bool) (n:Nat) (p:List dX) (e i a:Nat):walkV ND f n (p.drop e) i a=match p[e]? with
  | none=>some (i,a)
  | some s=>match estW ND f n s i a with
   | none=>none
   | some (j,b)=>walkV ND f n (p.drop (e + 1)) j b:=by
 cases hs:p[e]? with
 | none=>rw [List.drop_eq_nil_of_le (List.getElem?_eq_none_iff.1 hs)];all_goals rfl
 | some s=>
  obtain ⟨h1,h2⟩:=List.getElem?_eq_some_iff.1 hs;rw [List.drop_eq_getElem_cons h1,h2,walkV];unfold estW
  cases ND[i]? with
  | none=>rfl
  | some d=>
   simp only
   cases l5 d s with
   | none=>rfl
   | some k=>
    simp only
    cases d.aw[k]? with
    | none=>rfl
    | some e=>rfl
theorem Qt {f:Nat->Nat->Bool} {L:Nat} (hL:dG f L) {ND:List Nd} (bF:∀ n∈ND,dg L ND.length n) {s:dX} {i a j b:Nat} (hi:i < ND.length) (ha:a < L) (h:estW ND f L s i a=some (j,b)):j < ND.length/\b < L:=by
 have hw:=walkV_drop ND f L [s] 0 i a;simp only [List.getElem?_cons_zero,h] at hw;exact Dh hL bF [s] i a hi ha hw
def ZU (o:Option (Nat × Nat)):DV:=match o with
 | some (j,b)=>.tup [.agg [.v (.int .i64 (j:Nat)),.v (.int .i64 (b:Nat))],.v (.bool true)]
 | none=>.tup [.agg [.v (.int .i64 0),.v (.int .i64 0)],.v (.bool false)]
abbrev ZV (PC:List DV) (i a:Nat) (s:dX) (d:Nd) (e:Nat):St:=
 ⟨[pz 0 PC,aD 4 0,aD 5 1,aD 6 2,aD 8 3,aZ 20 10 (fF d.aw),au 21 ((fF d.aw).length),au 22 e],
  [[.v (.int .i64 i),.v (.int .i64 a)],jY s,[.v (.int .i64 0),.v (.int .i64 0)],iS d],[]⟩
theorem Gb {S:Sch} {ND:List Nd} {PC:List DV} (hP:jX S ND PC) (s:dX) (hr:cd s=true) (i a:Nat) (hi:i < ND.length) (ha:a < S.ae.length) :
  EvP prog 93 [.pt PC 0,.agg [.v (.int .i64 i),.v (.int .i64 a)],.agg (jY s)] (ZU (estW ND (aV S) S.ae.length s i a)):=by
 obtain ⟨LC,lQ,ZW⟩:=hP.Qq;obtain ⟨d,hd⟩:∃ d,ND[i]? = some d:=⟨_,gE hi⟩;have hN:=hP.ok d (mG hd);have gW:=hP.ap i d hd
 have mb:d.aw.length<=1099511627776:=by
  have:=kN (S:=S) (n:=d) (by rw [<- hP.Az];exact mG hd) hP.wt;exact this.2
 have hjn:=fun b hb=>ZW.join a b ha hb
 have hW:estW ND (aV S) S.ae.length s i a=match bc (edgeP d s) d.aw.length with
  | none=>none
  | some k=>match d.aw[k]? with
   | none=>none
   | some e=>some (e.to.toNat,qm (aV S) S.ae.length a e.label.toNat):=by
  unfold estW;simp only [hd,l5,ai hr]
 have Qs:∀ (e:Nat) x,d.aw[e]? = some x->edgeP d s e=F7 d s x:=fun e x h=>by
  rw [HR hN hr (mG h)];unfold edgeP;rw [h]
 have OI:=fun x=>Ga d x s;have rC:=fun (e:Ed) (he:e∈d.aw) (h:n5 d s e=true)=>And.intro ((fi hN he).1 (oQ hN he h)) (fi hN he).2.1;have jh:=fun x hx=>HR hN hr (e:=x) hx;generalize estW ND (aV S) S.ae.length s i a=R at hW ⊢;generalize edgeP d s=pE at hW Qs;generalize qm (aV S) S.ae.length a=jn at hW hjn;obtain ⟨ag,aE,lo,dz,most,af,es⟩:=d;obtain ⟨k,n,t⟩:=s;have cw:=bT es;simp only at hW Qs mb;refine eG 42 [.cell 6 184,.tmp 7] func93 rfl ntmps93 rfl fun _ _ _ _=>?_;refine cP zY gW ?_;refine lI (fun j st=>∃ e:Nat,st=ZV PC i a ⟨k,n,t⟩ ⟨ag,aE,lo,dz,most,af,es⟩ e/\e<=es.length/\(∀ c,c < e->pE c=false)/\j=es.length - e) ⟨0,rfl,by omega,fun _ h=>by omega,rfl⟩ (wkM wB) ?_;rintro j st ⟨e,rfl,he,dE,rfl⟩;refine br ?_ ?_<;>intro hL
 ·have av:e < es.length:=sV cw hL;obtain ⟨x,hx⟩:=gX av;have hPx:=Qs e x hx;have hfx:=OI x;have SA:=mG hx;have Fp:=rC x SA;have UR:=jh x SA
  cases hv:F7 ⟨ag,aE,lo,dz,most,af,es⟩ ⟨k,n,t⟩ x with
  | true=>
   rw [hv] at hPx hfx UR;obtain ⟨⟨h1,_⟩,h2,h3⟩:=Fp UR.symm;rw [bP av hPx dE] at hW;simp only [hx] at hW;clear rC jh Fp UR OI;obtain ⟨en,eb,ea,et,qK,ew,dM,cY,sQ,gv⟩:=x;simp only at h1 h2 h3;obtain ⟨lb,rfl⟩:∃ n:Nat,qK=n:=⟨_,h2⟩;obtain ⟨tn,rfl⟩:∃ n:Nat,et=n:=⟨_,h1⟩;simp only [iT] at h3 hW;have hj:=hjn lb h3;subst hW;refine iX (bm hx) ?_;refine cP Rj hfx ?_;refine dS ?_;refine cD Tr lQ ?_;refine cD Pe hj ?_;exact ⟨_,ax,rfl⟩
  | false=>
   rw [hv] at hPx hfx;obtain ⟨en,eb,ea,et,qK,ew,dM,cY,sQ,gv⟩:=x;refine iX (bm hx) ?_;refine cP Rj hfx ?_
   exact rE ⟨_,by omega,e + 1,rfl,by omega,fun c hc=>by
    rcases jB hc with h | h
    ·exact dE c h
    ·rw [h];exact hPx,rfl⟩ (wkB 4 (mw (nxt av (by omega))) (wB1 (nxt av (by omega))))
 ·have hge:e=es.length:=sW cw hL;subst hge;rw [bZ dE] at hW;simp only at hW;subst hW;exact ⟨_,ax,rfl⟩
def ZX (o:Option (Nat × Nat)):DV:=match o with
 | some (j,b)=>.tup [.v (.int .i64 (j:Nat)),.v (.int .i64 (b:Nat)),.v (.bool true)]
 | none=>.tup [.v (.int .i64 (-1)),.v (.int .i64 (-1)),.v (.bool false)]
abbrev ZY (PC:List DV) (p:List dX) (i a e:Nat):St:=
 ⟨[pz 0 PC,aD 7 0,aZ 18 3 (cF p),au 19 ((cF p).length),au 20 e],[[.v (.int .i64 i),.v (.int .i64 a)]],[]⟩
theorem Gc {S:Sch} {ND:List Nd} {PC:List DV} (hP:jX S ND PC) (p:List dX) (hp:p.length<=1099511627776) (hs:∀ s∈p,s.s.size<=4611686018427387904) (rt:Nat) (Gd:dL S=rt) (fy:rt < ND.length) :
  EvP prog 45 [.pt PC 0,.sl 3 (cF p) none] (ZX (walkV ND (aV S) S.ae.length p rt (iM (aV S) S.ae.length))):=by
 obtain ⟨LC,lQ,ZW⟩:=hP.Qq;have fD:=hP.root;rw [Gd] at fD;have vA:=ZW.bot;have hbl:=qp ZW.ok;have bi:=fun s hr i a hi ha=>Gb hP s hr i a hi ha;have VB:=walkV_drop ND (aV S) S.ae.length p;have bF:=fun {s i a j b}=>@Qt _ _ ZW.ok _ hP.ok s i a j b;have cw:=iA p;have Vk:∀ s i a,cd s=false->estW ND (aV S) S.ae.length s i a=none:=fun s i a h=>by grind [estW,l5]
 generalize hR:walkV ND (aV S) S.ae.length p rt (iM (aV S) S.ae.length)=R;have hR0:walkV ND (aV S) S.ae.length (p.drop 0) rt (iM (aV S) S.ae.length)=R:=by rw [List.drop_zero];exact hR
 clear hR;generalize iM (aV S) S.ae.length=bt at vA hbl hR0;refine eG 42 [.tmp 4,.tmp 5,.tmp 6] func45 rfl ntmps45 rfl fun _ _ _ _=>?_;refine cP K8 fD ?_;refine cP Tr lQ ?_;refine cP Pd vA ?_;refine lI (fun j st=>∃ e i a:Nat,st=ZY PC p i a e/\e<=p.length/\i < ND.length/\a < S.ae.length/\walkV ND (aV S) S.ae.length (p.drop e) i a=R/\j=p.length - e) ⟨0,rt,bt,rfl,by omega,fy,hbl,hR0,rfl⟩ (wkM wB) ?_;rintro j st ⟨e,i,a,rfl,he,hi,ha,hw,rfl⟩;rw [VB] at hw;refine br ?_ ?_<;>intro hL
 ·have av:e < p.length:=sV cw hL;obtain ⟨x,hx⟩:=gX av;have D7:=hs x (mG hx);have hr:=sM [x] (sU D7);rw [wI] at hr;rw [hx] at hw;simp only at hw
  cases xE:cd x with
  | false=>
   rw [Vk x i a xE] at hw;simp only at hw;subst hw;rw [xE] at hr;obtain ⟨xk,xn,xt⟩:=x;refine iX (eH hx) ?_;refine cP Pj hr ?_;exact ⟨_,ax,rfl⟩
  | true=>
   have hsx:=bi x xE i a hi ha;have hkx:=@bF x i a;rw [xE] at hr;generalize estW ND (aV S) S.ae.length x i a=o at hw hsx hkx;obtain ⟨xk,xn,xt⟩:=x;refine iX (eH hx) ?_;refine cP Pj hr ?_;refine cP en93 hsx ?_
   cases o with
   | none=>
    simp only at hw;subst hw;exact ⟨_,ax,rfl⟩
   | some r=>
    obtain ⟨j,b⟩:=r;simp only at hw;obtain ⟨h1,h2⟩:=hkx hi ha rfl;exact rE ⟨_,by omega,e + 1,j,b,rfl,by omega,h1,h2,hw,rfl⟩ (wkB 1 (mw (nxt av (by omega))) (wB1 (nxt av (by omega))))
 ·have hge:p.length<=e:=sV cw hL;rw [nR hge] at hw;simp only at hw;subst hw;refine dI ?_;exact ⟨_,ax,rfl⟩
theorem n8 (n:Int) (p:ByteArray):Ev prog 273 [.v (.int .i64 n),.v (.string p)] [] [] (fun d _ _=>∃ b:Bool,d = .v (.bool b)):=by
 have hc:=wu (IntKind.i32.wrap n);refine eG 22 [.tmp 4] func273 rfl ntmps273 rfl fun _ _ _ _=>?_;refine cP RE hc ?_;refine br ?_ ?_<;>intro c
 ·refine ⟨⟨by omega,by omega,by simp at c;omega⟩,?_⟩;exact ⟨_,rfl⟩
 ·exact ⟨_,rfl⟩
abbrev lf01St (p a z:ByteArray) (e:Nat):St:=⟨[(0,⟨[],.v (.string p)⟩),(3,⟨[],.v (.string a)⟩),(4,⟨[],.v (.string z)⟩),au 5 e],[],[]⟩
theorem size_app (a b:ByteArray):(a ++ b).size=a.size + b.size:=by rw [<- bR,LP,List.length_append,bR,bR]
theorem Du (p:ByteArray) (hp:1<=p.size/\p.size<=3):Ev prog 258 [.v (.string p)] [] [] (fun d _ _=>∃ b:Bool,d = .v (.bool b)):=by
 refine eG 40 [.tmp 2] func258 rfl ntmps258 rfl fun _ _ _ _=>?_;refine lI (fun j st=>∃ (e:Nat) (a z:ByteArray),st=lf01St p a z e/\e<=4/\p.size<=a.size/\a.size<=4/\z.size=a.size/\j=4 - e) ⟨0,p,p,rfl,by omega,by omega,by omega,rfl,rfl⟩ (wkM gR) ?_;rintro j st ⟨e,a,z,rfl,he,ha,ha4,hz,rfl⟩;have hra:=oM a (by omega);have hrz:=oM z (by omega);have hba:=n8 (recV (tx a)) p;have hbz:=n8 (recV (tx z)) p;refine br ?_ ?_<;>intro hL
 rotate_left
 ·exact ⟨_,rfl⟩
 have av:e < 4:=by have:=of_decide_eq_true hL;omega
 have lM:∀ (a' z':ByteArray),p.size<=a'.size->a'.size<=4->z'.size=a'.size->∃ j',j' < 4 - e/\∃ (e':Nat) (a'' z'':ByteArray),lf01St p a' z' (e + 1)=lf01St p a'' z'' e' /\ e' <= 4/\p.size<=a''.size/\a''.size<=4/\z''.size=a''.size/\j'=4 - e':=fun a' z' h1 h2 h3=>⟨4 - (e + 1),by omega,e + 1,a',z',rfl,by omega,h1,h2,h3,rfl⟩;refine br ?_ ?_<;>intro c
 ·refine cP Lr hra ?_;refine bG RG rfl hba ax (fun q hq=>?_);obtain ⟨b1,rfl⟩:=hq
  cases b1 with
  | true=>
   exact ⟨_,rfl⟩
  | false=>
   refine cP Lr hrz ?_;refine bG RG rfl hbz ax (fun q hq=>?_);obtain ⟨b2,rfl⟩:=hq
   cases b2 with
   | true=>
     exact ⟨_,rfl⟩
   | false=>
    refine br ?_ ?_<;>intro g
    ·refine ⟨[128],rfl,?_⟩;refine ⟨by show a.size + 1<=_;omega,?_⟩;refine ⟨[191],rfl,?_⟩;refine ⟨by show z.size + 1<=_;omega,?_⟩;obtain ⟨j',h1,h2⟩:=lM (a ++ ba [128]) (z ++ ba [191]) (by rw [size_app];omega) (by rw [size_app];have:=of_decide_eq_true g;show _ + 1<=4;omega) (by rw [size_app,size_app,hz];rfl);exact ⟨lf01St p (a ++ ba [128]) (z ++ ba [191]) (e + 1),(wkM (wB1 (nxt av (by omega)))),j',h1,h2⟩
    ·obtain ⟨j',h1,h2⟩:=lM a z ha ha4 hz;exact ⟨lf01St p a z (e + 1),(wkM (wB1 (nxt av (by omega)))),j',h1,h2⟩
 ·refine br ?_ ?_<;>intro g
  ·refine ⟨[128],rfl,?_⟩;refine ⟨by show a.size + 1<=_;omega,?_⟩;refine ⟨[191],rfl,?_⟩;refine ⟨by show z.size + 1<=_;omega,?_⟩;obtain ⟨j',h1,h2⟩:=lM (a ++ ba [128]) (z ++ ba [191]) (by rw [size_app];omega) (by rw [size_app];have:=of_decide_eq_true g;show _ + 1<=4;omega) (by rw [size_app,size_app,hz];rfl);exact ⟨lf01St p (a ++ ba [128]) (z ++ ba [191]) (e + 1),(wkM (wB1 (nxt av (by omega)))),j',h1,h2⟩
  ·obtain ⟨j',h1,h2⟩:=lM a z ha ha4 hz;exact ⟨lf01St p a z (e + 1),(wkM (wB1 (nxt av (by omega)))),j',h1,h2⟩
theorem wrap32 {n:Int} (h1 : -2147483648<=n) (h2:n<=2147483647):IntKind.i32.wrap n=n:=by
 simp [IntKind.wrap,IntKind.min,IntKind.max,IntKind.signed,IntKind.bits];omega
abbrev wP (s:ByteArray) (e:Nat):St:=⟨[(0,⟨[],.v (.string s)⟩),au 7 ((e + 1:Nat):Int)],[],[]⟩
abbrev Ge (s:ByteArray) (m:Int) (e:Nat):St:=⟨[(0,⟨[],.v (.string s)⟩),au 9 m,au 10 ((e + 2:Nat):Int)],[],[]⟩
theorem Ns (l:List UInt8) : -2147483648<=recV l/\recV l<=2147483647:=by
 have hb:=fun x:UInt8=>x.toNat_lt
 match l with
 | []=>simp [recV]
 | [a]=>have:=hb a;simp only [recV];omega
 | [a,b]=>have:=hb a;have:=hb b;simp only [recV];omega
 | [a,b,c]=>have:=hb a;have:=hb b;have:=hb c;simp only [recV];omega
 | [a,b,c,d]=>have:=hb a;have:=hb b;have:=hb c;have:=hb d;simp only [recV];omega
 | _ :: _ :: _ :: _ :: _ :: _=>simp [recV]
theorem tY (s:ByteArray) (n:Nat):tx (s.extract 0 n)=(tx s).take n:=by simp [tx]
theorem Nt {s:ByteArray} {l:List UInt8} {k:Nat} (hB:tx s=l):s.extract 0 k=ba (l.take k):=u9 (by rw [tY,hB])
theorem Nu {a b:List UInt8}:ba a=ba b↔a=b:=⟨fun h=>by have:=congrArg tx h;rwa [mH,mH] at this,fun h=>by rw [h]⟩
theorem Gf (s:ByteArray) (aE:Nat) (hs:s.size<=1099511627776) (c:UInt8) (r:List UInt8) (h:(tx s).drop aE=c :: r) :
  Ev prog 231 [.v (.string s),.v (.int .i64 aE)] [] [] (fun d _ _=>∃ (z:Int) (n:Int),d = .tup [.v (.int .i32 z),.v (.int .i64 n),.v (.bool (okU (c :: r)))]/\(okU (c :: r)=true->n=aT c.toNat/\z=recV ((c :: r).take (aT c.toNat))/\l4 z=true)):=by
 have hlen:aE < s.size:=by
  have:=congrArg List.length h;rw [List.length_drop,bR] at this;simp at this;omega
 have hB:tx (s.extract (aE:Int).toNat (s.size:Int).toNat)=c :: r:=by
  rw [<- h];simp [tx,iT];exact List.take_of_length_le (by rw [List.length_drop];have:=bR s;unfold tx at this;omega)
 have bL:(s.extract (aE:Int).toNat (s.size:Int).toNat).size=r.length + 1:=by rw [<- bR,hB];all_goals rfl
 have hwf:=fun n=>wf_n c r n;have bF:=fun (h:okU (c :: r)=true)=>HO h;refine eG 65 [.tmp 4,.tmp 5,.tmp 6] func231 rfl ntmps231 rfl fun _ _ _ _=>?_;refine br (fun c=>absurd c (by simp [aj];omega)) (fun _=>?_);refine ⟨⟨by omega,by omega,by omega⟩,?_⟩;generalize s.extract (aE:Int).toNat (s.size:Int).toNat=b at hB bL ⊢;refine lI (fun j st=>∃ e:Nat,st=wP b e/\e<=4/\(okU (c :: r)=true->e < aT c.toNat)/\j=4 - e) ⟨0,rfl,by omega,fun h=>by obtain ⟨_,_,h1,h2,_⟩:=bF h;cases h1;omega,rfl⟩ (wkM gR) ?_;rintro j st ⟨e,rfl,he,bg,rfl⟩;refine br ?_ ?_<;>intro hL
 ·have hL:e < 4/\e<=r.length:=by
   simp [pickB_and,bL] at hL;omega
  have hx:(b.extract 0 (((e + 1:Nat):Int)).toNat)=ba ((c :: r).take (e + 1)):=Nt hB;have hbl:(ba ((c :: r).take (e + 1))).size=e + 1:=by rw [<- bR,mH,ez,List.length_cons];omega
  have hrec:=oM (b.extract 0 (((e + 1:Nat):Int)).toNat) (by rw [hx];omega);rw [show tx (b.extract 0 (((e + 1:Nat):Int)).toNat)=(c :: r).take (e + 1) from by rw [hx,mH]] at hrec;have hri:=Ns ((c :: r).take (e + 1));have hw:=hwf (e + 1) (by omega) (by omega) (by omega);have VB:Sv ((c :: r).take (e + 1))=(l4 (recV ((c :: r).take (e + 1))) && decide (Db (recV ((c :: r).take (e + 1)))=(c :: r).take (e + 1))):=rfl;rw [VB] at hw;have OJ:b.size=r.length + 1:=bL;generalize EK:(c :: r).take (e + 1)=l at hrec hri hw hx;generalize hz0:recV l=z at hrec hri hw;have hzr:z=recV ((c :: r).take (e + 1)):=by rw [EK,hz0]
  have Qu:IntKind.i32.wrap z=z:=by
   exact wrap32 (by omega) (by omega)
  have Od:EvP prog 256 [.v (.int .i32 (IntKind.i32.wrap z))] (.v (.bool (l4 z))):=by
   rw [Qu];exact sJ z
  have kv:EvP prog 257 [.v (.int .i32 (IntKind.i32.wrap z))] (.v (.string (ba (Db z)))):=by
   rw [Qu];exact wu z
  generalize hsb:l4 z=sb at Od hw;generalize Db z=en at kv hw;refine ⟨⟨by omega,by omega,by omega⟩,?_⟩;refine cP Lr hrec ?_
  have zi:okU (c :: r)=false∨e + 1≠aT c.toNat->∃ j',j' < 4 - e/\∃ e',wP b (e + 1)=wP b e' /\ e' <= 4/\(okU (c :: r)=true->e' < aT c.toNat)/\j'=4 - e':=fun h=>⟨4 - (e + 1),by omega,e + 1,rfl,by omega,fun h2=>by
   have:=bg h2;rcases h with h | h
   ·rw [h] at h2;cases h2
   ·omega,rfl⟩
  have rN:(sb && decide (en=l))=false->okU (c :: r)=false∨e + 1≠aT c.toNat:=fun h=>by
   rw [h] at hw;cases ho:okU (c :: r)
   ·exact .inl rfl
   ·rw [ho] at hw;simp at hw;exact .inr fun h=>hw h.symm
  refine dI ?_;refine cD RD Od ?_
  cases sb with
  | false=>
   obtain ⟨j',h1,h2⟩:=zi (rN rfl);exact ⟨wP b (e + 1),(wkM (by repeat' (first | exact trivial | exact aA rfl | exact aC (nxt (by omega:e + 1 < 5) (by omega)) | refine ⟨⟨_,rfl,?_⟩,?_⟩))),j',h1,h2⟩
  | true=>
   refine cD RE kv ?_;refine ⟨⟨by omega,by omega,by omega⟩,?_⟩;refine br ?_ ?_<;>intro cc
   ·have hT:(true && decide (en=l))=true:=by
     have c1:ba en=b.extract 0 (((e + 1:Nat):Int)).toNat:=by simpa [pickB] using cc
     rw [hx,Nu] at c1;simp [c1]
    rw [hT] at hw;have hu:=hw.symm;rw [aO,decide_eq_true_iff] at hu;rw [hu.1];exact ⟨.tup [.v (.int .i32 (IntKind.i32.wrap z)),.v (.int .i64 ((e + 1:Nat):Int)),.v (.bool true)],ax,_,_,rfl,fun _=>⟨by rw [hu.2],by rw [Qu,hzr,hu.2],by rw [Qu,hsb]⟩⟩
   ·have hF:(true && decide (en=l))=false:=by
     have c1:¬ ba en=b.extract 0 (((e + 1:Nat):Int)).toNat:=by simpa [pickB] using cc
     rw [hx,Nu] at c1;simp [c1]
    obtain ⟨j',h1,h2⟩:=zi (rN hF);exact ⟨wP b (e + 1),(wkM (by repeat' (first | exact trivial | exact aA rfl | exact aC (nxt (by omega:e + 1 < 5) (by omega)) | refine ⟨⟨_,rfl,?_⟩,?_⟩))),j',h1,h2⟩
 ·have dE:okU (c :: r)=false:=by
   cases ho:okU (c :: r)
   ·rfl
   ·obtain ⟨_,_,h1,h2,h3,_⟩:=bF ho;cases h1;have h4:=bg ho;have h5:=Qm c.toNat;rw [List.length_cons] at h3;simp [pickB_and,bL] at hL;omega
  rw [dE];refine lI (fun j st=>∃ (e:Nat) (m:Int),st=Ge b m e/\e<=2/\j=2 - e) ⟨0,1,rfl,by omega,rfl⟩ (wkM gR) ?_;rintro j st ⟨e,m,rfl,he,rfl⟩;refine br ?_ ?_<;>intro hL
  ·have hL:e < 2/\e + 1<=r.length:=by
    simp [pickB_and,bL] at hL;omega
   have hx:(b.extract 0 (((e + 2:Nat):Int)).toNat)=ba ((c :: r).take (e + 2)):=Nt hB;have hbl:(ba ((c :: r).take (e + 2))).size=e + 2:=by rw [<- bR,mH,ez,List.length_cons];omega
   have Bp:=Du (b.extract 0 (((e + 2:Nat):Int)).toNat) (by rw [hx];omega);refine ⟨⟨by omega,by omega,by rw [bL];omega⟩,?_⟩;refine bG XZ rfl Bp ax (fun q hq=>?_);obtain ⟨b1,rfl⟩:=hq
   cases b1 with
   | true=>exact ⟨Ge b ((e + 2:Nat):Int) (e + 1),(wkM (by repeat' (first | exact trivial | exact aA rfl | exact aC (nxt (by omega:e + 2 < 4) (by omega)) | refine ⟨⟨_,rfl,?_⟩,?_⟩))),2 - (e + 1),by omega,e + 1,_,rfl,by omega,rfl⟩
   | false=>exact ⟨Ge b m (e + 1),(wkM (by repeat' (first | exact trivial | exact aA rfl | exact aC (nxt (by omega:e + 2 < 4) (by omega)) | refine ⟨⟨_,rfl,?_⟩,?_⟩))),2 - (e + 1),by omega,e + 1,_,rfl,by omega,rfl⟩
  ·exact ⟨.tup [.v (.int .i32 0),.v (.int .i64 m),.v (.bool false)],ax,_,_,rfl,fun h=>by cases h⟩
def spB:List DV->Bool
 | [.v (.int .i32 _),.v (.int .i32 _)]=>true
 | _=>false
theorem Nv {cs:List DV} (h:spB cs=true):∃ a b:Int,cs=[.v (.int .i32 a),.v (.int .i32 b)]:=by
 unfold spB at h;split at h
 ·exact ⟨_,_,rfl⟩
 ·cases h
theorem SB {es:List (List DV)} (h:es.all spB=true) {i:Nat} (hi:i < es.length):∃ a b:Int,es[i]? = some [.v (.int .i32 a),.v (.int .i32 b)]:=by
 rw [List.all_eq_true] at h;obtain ⟨a,b,B5⟩:=Nv (h es[i] (List.getElem_mem hi))
 grind
def AU (z:Int):List DV->Bool
 | [.v (.int .i32 a),.v (.int .i32 b)]=>decide (a<=z) && decide (z<=b)
 | _=>false
def srtB:Int->List (List DV)->Bool
 | _,[]=>true
 | m,[.v (.int .i32 a),.v (.int .i32 b)] :: r=>decide (m < a) && decide (a<=b) && srtB b r
 | _,_=>false
theorem wQ {m:Int} {x:List DV} {r:List (List DV)} (h:srtB m (x :: r)=true):∃ a b:Int,x=[.v (.int .i32 a),.v (.int .i32 b)]/\m < a/\a<=b/\srtB b r=true:=by
 unfold srtB at h
 grind
theorem tZ:∀ {es:List (List DV)} {m:Int} (_:srtB m es=true) {i:Nat} {a b:Int} (_:es[i]? = some [.v (.int .i32 a),.v (.int .i32 b)]),m < a/\a<=b/\srtB b (es.drop (i + 1))=true
 | [],_,_,i,_,_,hi=>by simp at hi
 | x :: r,m,h,i,a,b,hi=>by
  obtain ⟨a0,b0,rfl,h1,h2,h3⟩:=wQ h
  cases i with
  | zero=>grind
  | succ i=>
   obtain ⟨g1,g2,g3⟩:=tZ h3 (i:=i) (sU hi);exact ⟨by omega,g2,g3⟩
theorem Nx {z:Int}:∀ {es:List (List DV)} {m:Int} (_:srtB m es=true) (_:z<=m),es.any (AU z)=false
 | [],_,_,_=>rfl
 | x :: r,m,h,hz=>by
  obtain ⟨a0,b0,rfl,h1,h2,h3⟩:=wQ h;rw [List.any_cons,Nx h3 (by omega),Bool.or_false]
  grind [AU]
theorem US {z m:Int} {es:List (List DV)} (h:srtB m es=true) {i:Nat} {a b:Int} (hi:es[i]? = some [.v (.int .i32 a),.v (.int .i32 b)]) (hz:z < a):(es.drop i).any (AU z)=false:=by
 obtain ⟨g1,g2,g3⟩:=tZ h hi;rw [drop_cons hi,List.any_cons,Nx g3 (by omega),Bool.or_false]
 grind [AU]
theorem Ny {z:Int}:∀ {es:List (List DV)} {m:Int} (_:srtB m es=true) {i:Nat} {a b:Int} (_:es[i]? = some [.v (.int .i32 a),.v (.int .i32 b)]) (_:b < z),(es.take (i + 1)).any (AU z)=false
 | [],_,_,i,_,_,hi,_=>by simp at hi
 | x :: r,m,h,i,a,b,hi,hz=>by
  obtain ⟨a0,b0,rfl,h1,h2,h3⟩:=wQ h
  cases i with
  | zero=>grind [AU]
  | succ i=>
   have hi:r[i]? = some [.v (.int .i32 a),.v (.int .i32 b)]:=sU hi;have g1:=(tZ h3 hi).1;have g2:=(tZ h3 hi).2.1;rw [List.take_succ_cons,List.any_cons,Ny h3 hi hz,Bool.or_false]
   grind [AU]
theorem HX {es:List (List DV)} {z a b:Int} {i:Nat} (hi:es[i]? = some [.v (.int .i32 a),.v (.int .i32 b)]) (h1:a<=z) (h2:z<=b):es.any (AU z)=true:=
 List.any_eq_true.2 ⟨_,mG hi,by simp only [AU,aO,decide_eq_true_iff];omega⟩
def Qv (d:DV) (_:List (List DV)) (_:List TkE):Prop:=∃ es:List (List DV),d = .sl 2 es none/\(Nat.ble es.length 1000 && es.all spB)=true
set_option maxHeartbeats 4000000 in
theorem Nz:Ev prog 275 [] [] [] Qv:=by
 refine eG 118 [.tmp 0] func275 rfl ntmps275 rfl fun _ _ _ _=>?_;exact ⟨_,ax,_,rfl,rfl⟩
set_option maxHeartbeats 4000000 in
theorem NA:Ev prog 276 [] [] [] Qv:=by
 refine eG 84 [.tmp 0] func276 rfl ntmps276 rfl fun _ _ _ _=>?_;exact ⟨_,ax,_,rfl,rfl⟩
set_option maxHeartbeats 4000000 in
theorem Gg:Ev prog 260 [] [] [] Qv:=by
 refine eG 118 [.tmp 0] func260 rfl ntmps260 rfl fun _ _ _ _=>?_;exact ⟨_,ax,_,rfl,rfl⟩
set_option maxHeartbeats 4000000 in
theorem Gh:Ev prog 261 [] [] [] Qv:=by
 refine eG 84 [.tmp 0] func261 rfl ntmps261 rfl fun _ _ _ _=>?_;exact ⟨_,ax,_,rfl,rfl⟩
abbrev hasSt (es:List (List DV)) (z:Int) (e:Nat):St:=⟨[aZ 0 2 es,(1,⟨[],.v (.int .i32 z)⟩),au 5 e],[],[]⟩
theorem wR (es:List (List DV)) (z:Int) (hl:es.length<=1000) (hs:es.all spB=true):Ev prog 259 [.sl 2 es none,.v (.int .i32 z)] [] [] (fun d _ _=>∃ b:Bool,d = .v (.bool b)/\(0<=z->z<=1114111->b=es.any (AU z))):=by
 refine eG 36 [.tmp 4] func259 rfl ntmps259 rfl fun _ _ _ _=>?_;refine lI (fun j st=>∃ e:Nat,st=hasSt es z e/\e<=es.length/\(0<=z->z<=1114111->es.any (AU z)=(es.drop e).any (AU z))/\j=es.length - e) ⟨0,rfl,by omega,fun _ _=>rfl,rfl⟩ (wkM gR) ?_;rintro j st ⟨e,rfl,he,VG,rfl⟩;refine br ?_ ?_<;>intro hL
 rotate_left
 ·have hge:e=es.length:=by have:=of_decide_eq_false hL;omega
  refine ⟨_,rfl,fun h1 h2=>?_⟩;rw [VG h1 h2,hge,List.drop_length];all_goals rfl
 have av:e < es.length:=by have:=of_decide_eq_true hL;omega
 obtain ⟨a,b,B5⟩:=SB hs av
 have lM:(0<=z->z<=1114111->¬ (a<=z/\z<=b))->∃ j',j' < es.length - e/\∃ e':Nat,hasSt es z (e + 1)=hasSt es z e' /\ e' <= es.length/\(0<=z->z<=1114111->es.any (AU z)=(es.drop e').any (AU z))/\j'=es.length - e':=fun dE=>⟨es.length - (e + 1),by omega,e + 1,rfl,by omega,fun h1 h2=>by
  rw [VG h1 h2,drop_cons B5,List.any_cons];have:AU z [.v (.int .i32 a),.v (.int .i32 b)]=false:=by grind [AU]
  rw [this,Bool.false_or],rfl⟩
 refine br ?_ ?_<;>intro c1
 ·refine ⟨_,⟨by omega,B5⟩,?_⟩;refine br ?_ ?_<;>intro c2
  ·have c2:a<=z:=by simpa [pickB_and] using c2
   refine ⟨_,⟨by omega,B5⟩,?_⟩;refine br ?_ ?_<;>intro c3
   ·exact ⟨_,rfl,fun _ _=>(HX B5 c2 (by simpa [pickB_and] using c3)).symm⟩
   ·obtain ⟨j',h1,h2⟩:=lM (fun _ _=>by simp [pickB_and] at c3;omega);exact ⟨hasSt es z (e + 1),(wkM (wB1 (nxt av (by omega)))),j',h1,h2⟩
  ·obtain ⟨j',h1,h2⟩:=lM (fun _ _=>by simp [pickB_and] at c2;omega);exact ⟨hasSt es z (e + 1),(wkM (wB1 (nxt av (by omega)))),j',h1,h2⟩
 ·obtain ⟨j',h1,h2⟩:=lM (fun _ _=>by simp [pickB_and] at c1;omega);exact ⟨hasSt es z (e + 1),(wkM (wB1 (nxt av (by omega)))),j',h1,h2⟩
abbrev UT (es:List (List DV)) (z:Int) (lo hi:Nat):St:=⟨[aZ 0 2 es,(1,⟨[],.v (.int .i32 z)⟩),au 5 lo,au 6 hi],[],[]⟩
theorem HY (es:List (List DV)) (z:Int) (hl:es.length<=1000) (hs:es.all spB=true):Ev prog 274 [.sl 2 es none,.v (.int .i32 z)] [] [] (fun d _ _=>∃ b:Bool,d = .v (.bool b)/\∀ m,srtB m es=true->b=es.any (AU z)):=by
 refine eG 38 [.tmp 4] func274 rfl ntmps274 rfl fun _ _ _ _=>?_;refine lI (fun j st=>∃ lo hi:Nat,st=UT es z lo hi/\lo<=hi/\hi<=es.length/\(∀ m,srtB m es=true->(es.take lo).any (AU z)=false/\(es.drop hi).any (AU z)=false)/\j=hi - lo) ⟨0,es.length,rfl,by omega,by omega,fun _ _=>⟨rfl,by rw [List.drop_length];rfl⟩,rfl⟩ (wkM gR) ?_;rintro j st ⟨lo,hi,rfl,h1,h2,VG,rfl⟩;refine br ?_ ?_<;>intro hL
 rotate_left
 ·have hge:lo=hi:=by have:=of_decide_eq_false hL;omega
  refine ⟨_,rfl,fun m hm=>?_⟩;obtain ⟨g1,g2⟩:=VG m hm;rw [<- hge] at g2;rw [<- List.take_append_drop lo es,List.any_append,g1,g2];all_goals rfl
 have av:lo < hi:=by have:=of_decide_eq_true hL;omega
 have hm:IntKind.i64.wrap ((lo:Int) + IntKind.i64.wrap ((IntKind.i64.wrap ((hi:Int) - lo)).tdiv 2))=((lo + (hi - lo) / 2:Nat):Int):=by grind [wrap64]
 obtain ⟨a,b,B5⟩:=SB hs (i:=lo + (hi - lo) / 2) (by omega);refine ⟨⟨rfl,by decide⟩,?_⟩;refine ⟨_,⟨by rw [hm];omega,by rw [hm,iT];exact B5⟩,?_⟩;refine br ?_ ?_<;>intro c
 ·exact ⟨UT es z lo (lo + (hi - lo) / 2),(wkM (wB1 hm)),lo + (hi - lo) / 2 - lo,by omega,_,_,rfl,by omega,by omega,fun m hm=>⟨(VG m hm).1,US hm B5 (sU c)⟩,rfl⟩
 ·refine ⟨_,⟨by rw [hm];omega,by rw [hm,iT];exact B5⟩,?_⟩;have c0:=c;refine br ?_ ?_<;>intro c
  ·have tI:IntKind.i64.wrap (IntKind.i64.wrap ((lo:Int) + IntKind.i64.wrap ((IntKind.i64.wrap ((hi:Int) - lo)).tdiv 2)) + 1)=((lo + (hi - lo) / 2 + 1:Nat):Int):=by
    rw [hm,wrap64 (by omega) (by omega)];omega
   exact ⟨UT es z (lo + (hi - lo) / 2 + 1) hi,(wkM (wB1 tI)),hi - (lo + (hi - lo) / 2 + 1),by omega,_,_,rfl,by omega,by omega,fun m hm=>⟨Ny hm B5 (sU c),(VG m hm).2⟩,rfl⟩
  ·exact ⟨_,rfl,fun _ _=>(HX B5 (sU c0) (sU c)).symm⟩
theorem Dx (z:Int):Ev prog 264 [.v (.int .i32 z)] [] [] (fun d _ _=>∃ b:Bool,d = .v (.bool b)):=by
 refine eG 6 [.tmp 2] func264 rfl ntmps264 rfl fun _ _ _ _=>?_;refine bG X7 rfl Nz ax (fun q hq=>?_);obtain ⟨es,rfl,he⟩:=hq;rw [aO,Nat.ble_eq] at he;refine bG RH rfl (HY es z he.1 he.2) ax (fun q hq=>?_);obtain ⟨b,rfl,_⟩:=hq;exact ⟨_,rfl⟩
theorem Dy (z:Int):Ev prog 265 [.v (.int .i32 z)] [] [] (fun d _ _=>∃ b:Bool,d = .v (.bool b)):=by
 refine eG 6 [.tmp 2] func265 rfl ntmps265 rfl fun _ _ _ _=>?_;refine bG X8 rfl NA ax (fun q hq=>?_);obtain ⟨es,rfl,he⟩:=hq;rw [aO,Nat.ble_eq] at he;refine bG RH rfl (HY es z he.1 he.2) ax (fun q hq=>?_);obtain ⟨b,rfl,_⟩:=hq;exact ⟨_,rfl⟩
theorem JK (z:Int):Ev prog 234 [.v (.int .i32 z)] [] [] (fun d _ _=>∃ n:Int,d = .v (.int .i64 n)):=by
 refine eG 9 [.tmp 2] func234 rfl ntmps234 rfl fun _ _ _ _=>?_;refine bG X4 rfl (Dx z) ax (fun q hq=>?_);obtain ⟨b,rfl⟩:=hq
 cases b with
 | true=>exact ⟨_,rfl⟩
 | false=>
  refine bG X5 rfl (Dy z) ax (fun q hq=>?_);obtain ⟨b,rfl⟩:=hq
  cases b with
  | true=>exact ⟨_,rfl⟩
  | false=>exact ⟨_,rfl⟩
theorem Dz (z:Int):Ev prog 232 [.v (.int .i32 z)] [] [] (fun d _ _=>∃ n:Int,d = .v (.int .i64 n)):=by
 refine eG 9 [.tmp 2] func232 rfl ntmps232 rfl fun _ _ _ _=>?_;refine bG X0 rfl Gg ax (fun q hq=>?_);obtain ⟨es,rfl,he⟩:=hq;rw [aO,Nat.ble_eq] at he;refine bG RF rfl (wR es z he.1 he.2) ax (fun q hq=>?_);obtain ⟨b,rfl,_⟩:=hq
 cases b with
 | true=>exact ⟨_,rfl⟩
 | false=>
  refine bG X1 rfl Gh ax (fun q hq=>?_);obtain ⟨es,rfl,he⟩:=hq;rw [aO,Nat.ble_eq] at he;refine bG RF rfl (wR es z he.1 he.2) ax (fun q hq=>?_);obtain ⟨b,rfl,_⟩:=hq
  cases b with
  | true=>exact ⟨_,rfl⟩
  | false=>exact ⟨_,rfl⟩
theorem NB (s:ByteArray) (hs:s.size<=1099511627776):EvP prog 233 [.v (.string s),.v (.int .i64 (s.size:Nat))] (.tup [.v (.int .i32 0),.v (.int .i64 0),.v (.bool false)]):=by
 refine eG 60 [.tmp 4,.tmp 5,.tmp 6] func233 rfl ntmps233 rfl fun _ _ _ _=>?_;refine br (fun _=>?_) (fun c=>absurd c (by simp [aj]));exact ⟨_,ax,rfl⟩
theorem zj (s:ByteArray) (aE:Nat) (hs:s.size<=1099511627776) (h:aE <= s.size):Ev prog 191 [.v (.string s),.v (.int .i64 aE)] [] [] (fun d _ _=>∃ c:Int,d = .tup [.v (.int .i64 c),.v (.int .i64 (jk ((tx s).drop aE):Nat))]):=by
 cases hd:(tx s).drop aE with
 | nil=>
  have he:aE=s.size:=by
   have:=congrArg List.length hd;rw [List.length_drop,bR,List.length_nil] at this;omega
  subst he;refine eG 24 [.tmp 4,.tmp 5] func191 rfl ntmps191 rfl fun _ _ _ _=>?_;refine cP RC (NB s hs) ?_;exact ⟨.tup [.v (.int .i64 0),.v (.int .i64 ((0:Nat):Int))],ax,_,rfl⟩
 | cons c r=>
  have hu:=Jy s aE hs c r hd;have Bn:jk (c :: r)=if okU (c :: r)=true then aT c.toNat else 1:=rfl
  rw [Bn];generalize okU (c :: r)=ok at hu ⊢;refine eG 24 [.tmp 4,.tmp 5] func191 rfl ntmps191 rfl fun _ _ _ _=>?_;refine bG RC rfl hu ax (fun q hq=>?_);obtain ⟨z,n,rfl,hn,hp⟩:=hq
  cases ok with
  | true=>
   have:=(hn rfl).1;subst this;refine bG XT rfl (JK z) ax (fun q hq=>?_);obtain ⟨m,rfl⟩:=hq;exact ⟨.tup [.v (.int .i64 m),.v (.int .i64 (aT c.toNat:Nat))],ax,_,rfl⟩
  | false=>
   refine br (fun _=>?_) (fun g=>absurd g (by simp;omega));exact ⟨.tup [.v (.int .i64 1),.v (.int .i64 ((1:Nat):Int))],ax,_,rfl⟩
theorem DA (s:ByteArray) (hs:s.size<=1099511627776) (h:0 < s.size):Ev prog 185 [.v (.string s),.v (.int .i64 0)] [] [] (fun d _ _=>∃ c:Int,d = .tup [.v (.int .i64 c),.v (.int .i64 (jk (tx s):Nat))]):=by
 cases hd:tx s with
 | nil=>grind [bR]
 | cons c r=>
  have hu:=Gf s 0 hs c r (by rw [List.drop_zero];exact hd);have Bn:jk (c :: r)=if okU (c :: r)=true then aT c.toNat else 1:=rfl
  rw [Bn];generalize okU (c :: r)=ok at hu ⊢;refine eG 21 [.tmp 4,.tmp 5] func185 rfl ntmps185 rfl fun _ _ _ _=>?_;refine bG XR rfl hu ax (fun q hq=>?_);obtain ⟨z,n,rfl,hn⟩:=hq
  cases ok with
  | true=>
   have:=(hn rfl).1;subst this;refine bG XS rfl (Dz z) ax (fun q hq=>?_);obtain ⟨m,rfl⟩:=hq;exact ⟨.tup [.v (.int .i64 m),.v (.int .i64 (aT c.toNat:Nat))],ax,_,rfl⟩
  | false=>
   exact ⟨.tup [.v (.int .i64 1),.v (.int .i64 ((1:Nat):Int))],ax,_,rfl⟩
theorem qu (s:ByteArray) (n:Nat) (h:s.size<=1099511627776):tx (s.extract n (s.size:Int).toNat)=(tx s).drop n:=by
 simp [tx,iT];exact List.take_of_length_le (by rw [List.length_drop];have:=bR s;unfold tx at this;omega)
theorem zk (s:ByteArray):s=⟨#[]⟩↔tx s=[]:=⟨fun h=>by rw [h];rfl,fun h=>by rw [<- Ck s,h]⟩
theorem kb:∀ (u:Nat) (s:ByteArray),s.size<=1099511627776->∀ z:Int,z<=9223372036854775807->z.toNat=u->EvP prog 141 [.v (.string s),.v (.int .i64 z)] (.v (.string (ba (headL u (tx s)))))
 | 0,s,hs,z,hz,hu=>by
  refine eG 28 [.tmp 4] func141 rfl ntmps141 rfl fun _ _ _ _=>?_;refine br (fun _=>(rfl:_=_)) (fun c=>absurd c (by simp [aj];omega))
 | u + 1,s,hs,z,hz,hu=>by
  by_cases he:s=⟨#[]⟩
  ·subst he;rw [show tx ⟨#[]⟩=[] from rfl,rX];refine eG 28 [.tmp 4] func141 rfl ntmps141 rfl fun _ _ _ _=>?_;refine br (fun _=>(rfl:_=_)) (fun c=>absurd c (by simp [aj]))
  have bg:tx s ≠ []:=fun h=>he ((zk s).2 h);obtain ⟨h1,h2⟩:=lT bg;rw [bR] at h2;have Bn:=DA s hs (by omega);have zl:=qu s (jk (tx s)) hs;have mc:=tY s (jk (tx s));have hl:=JG u ((tx s).drop (jk (tx s)));rw [List.length_drop,bR] at hl;have hD:headL (u + 1) (tx s)=(tx s).take (jk (tx s)) ++ headL u ((tx s).drop (jk (tx s))):=rfl;rw [hD,<- mc,<- zl];rw [<- zl] at hl;have gN:(s.extract 0 (jk (tx s))).size=jk (tx s):=by rw [<- bR,tY,ez,bR];omega
  have cw:(s.extract (jk (tx s)) (s.size:Int).toNat).size=s.size - jk (tx s):=by rw [<- bR,qu _ _ hs,List.length_drop,bR]
  have ih:=kb u (s.extract (jk (tx s)) (s.size:Int).toNat) (by omega) (IntKind.i64.wrap (z - 1)) (by rw [wrap64 (by omega) (by omega)];omega) (by rw [wrap64 (by omega) (by omega)];omega);generalize jk (tx s)=n at Bn h1 h2 ih gN cw hl;refine eG 28 [.tmp 4] func141 rfl ntmps141 rfl fun _ _ _ _=>?_;refine br (fun c=>absurd c (by simp [aj];exact ⟨by omega,he⟩)) (fun _=>?_);refine bG XE rfl Bn ax (fun q hq=>?_);obtain ⟨c0,rfl⟩:=hq;refine dI ?_;refine ⟨⟨by omega,by omega,by omega⟩,?_⟩;refine ⟨⟨by omega,by omega,by omega⟩,?_⟩;refine cD G7 ih ?_;have OJ:(ba (headL u (tx (s.extract n (s.size:Int).toNat)))).size=(headL u (tx (s.extract n (s.size:Int).toNat))).length:=by rw [<- bR,mH]
  have hcat:s.extract 0 n ++ ba (headL u (tx (s.extract n (s.size:Int).toNat)))=ba (tx (s.extract 0 n) ++ headL u (tx (s.extract n (s.size:Int).toNat))):=u9 (by rw [LP,mH (headL u (tx (s.extract n (s.size:Int).toNat)))]);refine ⟨by show (s.extract 0 n).size + _<=_;omega,?_⟩;exact (congrArg (fun z=>DV.v (.string z)) hcat:_=_)
mutual
def rngW:Val->Prop
 | .mk k n _ ks=>o7 k/\o7 n/\rngWs ks
def rngWs:List Val->Prop
 | []=>True
 | v :: r=>rngW v/\rngWs r
end
theorem jz:∀ {l:List Val} {x:Val},rngWs l->x∈l->rngW x
 | v :: r,x,h,hm=>by
  rw [rngWs] at h;rcases cr hm with rfl | hm
  ·exact h.1
  ·exact jz h.2 hm
theorem AV {v:Val} (h:rngW v) : -9223372036854775808<=v.n/\v.n<=9223372036854775807:=by
 obtain ⟨k,n,s,ks⟩:=v;rw [rngW] at h;exact h.2.1
theorem qv {v:Val} (h:rngW v):rngWs v.ks:=by
 obtain ⟨k,n,s,ks⟩:=v;rw [rngW] at h;exact h.2.2
theorem HZ {m:Nat} (ih:∀ k,k<=m->∀ ds,Typ prog k 34 ds->∃ v:Val,ds=bD v/\rngW v/\v.wt<=wgL ds) :
  ∀ {es:List (List DV)},(∀ cs∈es,Typ prog m 34 cs)->∃ l:List Val,es=dVals l/\rngWs l/\iL l<=wgEs es
 | [],h=>⟨[],rfl,by simp [rngWs],by simp [iL]⟩
 | cs :: r,h=>by
  obtain ⟨l,rfl,hr,hl⟩:=HZ ih (es:=r) (fun c hc=>h c (gh _ hc));obtain ⟨v,rfl,hr2,hv⟩:=ih m (aW _) cs (h cs (by simp));exact ⟨v :: l,rfl,by rw [rngWs];exact ⟨hr2,hr⟩,by simp only [iL,wgEs];omega⟩
theorem typ_valr:∀ (n:Nat) (ds:List DV),Typ prog n 34 ds->∃ v:Val,ds=bD v/\rngW v/\v.wt<=wgL ds:=by
 intro n
 induction n using Nat.strongRecOn with
 | _ n ih=>
  intro ds h;obtain ⟨m,rfl,hf⟩:=iZ Tryz.underlying34 h;obtain ⟨a1,b1,rfl,h1,a2,b2,rfl,h2,a3,b3,rfl,h3,a4,b4,rfl,h4,rfl⟩:=hf;obtain ⟨k,rfl,r1⟩:=gV h1;obtain ⟨z,rfl,r2⟩:=gV h2;obtain ⟨s,rfl⟩:=tM Tryz.underlying9 h3;obtain ⟨j,es,rfl,rfl,ie⟩:=mI Tryz.underlying32 h4;obtain ⟨l,rfl,r3,wl⟩:=HZ (fun i hi=>ih i (by omega)) ie;rw [C8];refine ⟨.mk k z s l,rfl,by rw [rngW];exact ⟨r1,r2,r3⟩,?_⟩;simp only [Val.wt,cT,wgL,wgD] at *;omega
namespace Dv
end Dv
mutual
theorem zm:∀ (t:Ty),rngT t->∀ u∈flatT t,rngT u
 | .mk h ps,hr,u,hu=>by
  rw [flatT] at hu;split at hu
  ·cases hu
  ·rcases cr hu with rfl | hu
   ·exact hr
   ·rw [rngT] at hr;exact zn ps hr.2.2.2 u hu
theorem zn:∀ (ps:Pts),rngP ps->∀ u∈flatP ps,rngT u
 | .nil,_,u,hu=>by cases hu
 | .cons p v r,hr,u,hu=>by
  rw [flatP] at hu;rw [rngP] at hr;rcases List.mem_append.1 hu with hu | hu
  ·split at hu
   ·cases hu
   ·exact zm v hr.2.2.1 u hu
  ·exact zn r hr.2.2.2 u hu
end
theorem DB {lev:List Wd->Int} {s:Sch}:∀ (ps:Pts) (k:Nat),rngP ps->∀ e∈edsP lev s ps k,o7 e.cn
 | .nil,_,_,e,he=>by cases he
 | .cons p v r,k,hr,e,he=>by
  rw [edsP] at he;rw [rngP] at hr;rcases cr he with rfl | he
  ·exact hr.2.1
  ·exact DB r _ hr.2.2.2 e he
def qw (n:Nd):Prop:=o7 n.lo/\o7 n.hi/\∀ e∈n.aw,o7 e.cn
theorem wS {S:Sch} (hr:Ps S) {n:Nd} (h:n∈aR S):qw n:=by
 rw [jy] at h;obtain ⟨t,ht,u,hu,k,rfl⟩:=wg h
 have h1:rngT t:=by
  rcases List.mem_append.1 ht with h | h
  ·obtain ⟨x,hx,rfl⟩:=List.mem_map.1 h;exact hr.1 x hx
  ·simp only [List.mem_singleton] at h;subst h;exact hr.2
 have h2:=zm t h1 u hu;obtain ⟨uh,us⟩:=u;rw [rngT] at h2;exact ⟨h2.1,h2.2.1,DB us _ h2.2.2.2⟩
abbrev SC (n:Nd) (K:List Bool) (s v:Bool) (e:Nat):St:=
 ⟨[aZ 1 1 (vM K),aD 2 0,uF 5 s,uF 6 v,au 7 e],[iS n],[]⟩
theorem Gi {L:Nat} {n:Nd} (K:List Bool) (hK:K.length<=1099511627776) (hn:dg L K.length n) (mb:n.aw.length<=1099511627776) :
  EvP prog 162 [.agg (iS n),.sl 1 (vM K) none] (.v (.bool (HU n K))):=by
 have kJ:=hn.fZ;have ZZ:=hn.bare;have Ou:=hn.k8;obtain ⟨ag,aE,lo,hi,most,af,es⟩:=n;simp only at kJ ZZ mb Ou;refine eG 50 [.tmp 4] func162 rfl ntmps162 rfl fun _ _ _ _=>?_;refine br ?_ ?_<;>intro h7
 ·have h7:ag < 7:=sU h7;refine (bo ?_:);simp [HU,h7]
 have h7:¬ ag < 7:=sU h7;refine aP (fun j st=>∃ e:Nat,st=SC ⟨ag,aE,lo,hi,most,af,es⟩ K ((es.take e).any (tA K)) ((es.take e).all (tA K)) e/\e<=es.length/\j=es.length - e) es.length (SC ⟨ag,aE,lo,hi,most,af,es⟩ K false true 0) (wkM wB) ⟨0,by simp,by omega,by omega⟩ ?_;rintro j st ⟨e,rfl,he,rfl⟩;refine br ?_ ?_<;>intro hL
 ·have av:e < es.length:=by have:=hL;simp [bT] at this;exact this
  obtain ⟨x,hx⟩:=gX av;refine iX (bm hx) ?_;have hs:(es.take (e + 1)).any (tA K)=((es.take e).any (tA K) || tA K x):=by rw [List.take_add_one,hx];simp
  have hv:(es.take (e + 1)).all (tA K)=((es.take e).all (tA K) && tA K x):=by rw [List.take_add_one,hx];simp
  generalize (es.take e).any (tA K)=s at hs ⊢;generalize (es.take e).all (tA K)=v at hv ⊢;refine br ?_ ?_<;>intro hb
  ·have hb:x.bare=false:=sU hb;obtain ⟨k,hk,nN⟩:=(kJ x (mG hx)).to1 hb;obtain ⟨b,om⟩:∃ b,K[k]? = some b:=⟨_,gE nN⟩;have hg:(vM K)[(max x.to 0).toNat]? = some [DV.v (.bool b)]:=by rw [show (max x.to 0).toNat=k by omega];exact Hy om
   have hik:tA K x=b:=by unfold tA;rw [hb,hk];simp [eM,om]
   rw [hik] at hs hv;refine iX (bm hx) ?_;refine ⟨_,⟨by omega,hg⟩,?_⟩;have e5:pickB s true b=(es.take (e + 1)).any (tA K):=by rw [hs,aj]
   have e6:pickB v b false=(es.take (e + 1)).all (tA K):=by rw [hv,pickB_and]
   exact rE ⟨_,by omega,e + 1,rfl,by omega,rfl⟩ (wkM (Oh e5 e6 (nxt av (by omega))))
  ·have hb:x.bare=true:=sU hb;have hik:tA K x=true:=by unfold tA;rw [hb];all_goals rfl
   rw [hik] at hs hv;have e5:pickB s true true=(es.take (e + 1)).any (tA K):=by rw [hs,aj]
   have e6:pickB v true false=(es.take (e + 1)).all (tA K):=by rw [hv,pickB_and]
   exact rE ⟨_,by omega,e + 1,rfl,by omega,rfl⟩ (wkM (Oh e5 e6 (nxt av (by omega))))
 ·have hge:e=es.length:=by have:=hL;simp [bT] at this;omega
  subst hge;rw [List.take_length];refine br ?_ ?_<;>intro g
  ·have g:ag=7:=sU g;refine (bo ?_:);simp [HU,g]
  ·have g:¬ ag=7:=sU g;refine (bo ?_:);simp [HU,g,h7]
theorem Z0 {bx:List (List DV)} {N n0 m0 n i:Nat} {r:List Bool} (hr:r.length=n) (hN:N<=i) (hb:bx[i]? = some (cB r)):Cc bx N n0 m0 (.sl 1 (vM r) none) (.ms i 1 0 n n):=by
 simp only [Cc];refine Or.inr (Or.inr (Or.inl ⟨i,0,n,_,by rw [tT,hr],hN,hb,?_,?_,?_⟩))
 ·grind [p9,rM,tT]
 ·grind [vM]
 ·intro x hx;rw [p9] at hx;obtain ⟨_,_,rfl⟩:=List.mem_map.1 hx;exact .inl ⟨_,rfl⟩
theorem NC (l:List Nat) (bx:List (List DV)) (N n m:Nat):CcL bx N n m (cN l) (cN l):=by
 induction l with
 | nil=>rfl
 | cons a r ih=>exact ⟨_,_,rfl,rfl,ih⟩
abbrev wG (a b:Nat) (A B:List (List DV)) (ND:List Nd) (z:Int):List DV:=[.sl a A none,.sl b B none,.sl 7 (cX ND) none,.v (.int .i64 z)]
abbrev NE (W:List DV) (O:List Nat) (K:List Bool) (n d:Nat):St:=
 ⟨[aD 1 0,(3,⟨[],.ms 1 1 0 n n⟩),aZ 4 1 (vM K),au 5 d],[W,cN O],[]⟩
abbrev DD (W:List DV) (O:List Nat) (K:List Bool) (M:List Bool) (n d e:Nat):St:=
 ⟨[aD 1 0,(3,⟨[],.ms 1 1 0 n n⟩),aZ 4 1 (vM K),au 5 d,(6,⟨[],.ms 2 1 0 n n⟩),au 7 e],[W,cN O,cB M],[]⟩
theorem xY (a b:Nat) (A B:List (List DV)) {ND:List Nd} {L:Nat} (z:Int) (bF:∀ n∈ND,dg L ND.length n) (jd:ND.length<=1099511627776) (bL:∀ n∈ND,n.aw.length<=1099511627776) :
  EvP prog 107 [.agg (wG a b A B ND z)] (.sl 1 (dInts (depN ND ND.length)) none):=by
 have cw:=eD ND;refine eG 61 [.tmp 2] func107 rfl ntmps107 rfl fun _ _ _ _=>?_;refine ⟨⟨rfl,by omega,by rw [cw];omega,by rw [cw];omega⟩,?_⟩;refine ⟨⟨rfl,by omega,by rw [cw];omega,by rw [cw];omega⟩,?_⟩;refine Mm (fun j st=>∃ d:Nat,st=NE (wG a b A B ND z) (depN ND d) (fJ (depN ND d)) (cX ND).length (d + 1)/\d<=ND.length/\j=ND.length - d) ND.length (NE (wG a b A B ND z) (depN ND 0) (fJ (depN ND 0)) (cX ND).length 1) (.G1 2 rfl rfl ?_ rfl ?_) ⟨0,rfl,by omega,by omega⟩ ?_
 ·refine ⟨_,_,rfl,ax,_,_,rfl,?_,rfl⟩;rw [repN,cw];exact NC _ _ _ _ _
 ·refine ⟨⟨_,rfl,gp⟩,⟨_,rfl,gp⟩,⟨_,rfl,Z0 (by rw [mZ,fI,cw];omega) (aW _) ?_⟩,⟨_,rfl,ax⟩,trivial⟩;refine congrArg some ?_;rw [Jj,cw];simp [fJ,depN]
 rintro j st ⟨d,rfl,hd,rfl⟩;have ky:(fJ (depN ND d)).length=ND.length:=by rw [mZ,fI]
 refine br ?_ ?_<;>intro hc
 ·have av:d < ND.length:=sW cw hc;refine ⟨⟨rfl,by omega,by rw [cw];omega,by rw [cw];omega⟩,?_⟩;refine aP (fun j st=>∃ (e:Nat) (O:List Nat) (M:List Bool),st=DD (wG a b A B ND z) O (fJ (depN ND d)) M (cX ND).length (d + 1) e/\e<=ND.length/\O.length=ND.length/\M.length=ND.length/\(∀ i:Nat,i < e->O.getD i 0=(depN ND (d + 1)).getD i 0/\M.getD i false=(fJ (depN ND (d + 1))).getD i false)/\(∀ i:Nat,e<=i->O.getD i 0=(depN ND d).getD i 0)/\j=ND.length - e) ND.length (DD (wG a b A B ND z) (depN ND d) (fJ (depN ND d)) (List.replicate ((cX ND).length:Int).toNat false) (cX ND).length (d + 1) 0) (wkB 3 (by repeat' (first | exact rfl | exact aA rfl | exact cK rfl | exact b9 (Jj _) | refine ⟨_,_,rfl,?_,?_⟩)) (by repeat' (first | exact trivial | exact aA rfl | exact cK rfl | exact b9 (Jj _) | refine ⟨⟨_,rfl,?_⟩,?_⟩))) ⟨0,_,_,rfl,by omega,by rw [fI],by rw [List.length_replicate,cw];omega,fun i hi=>by omega,fun i _=>rfl,by omega⟩ ?_;rintro j st ⟨e,O,M,rfl,he,hO,hM,tH,N9,rfl⟩;refine br ?_ ?_<;>intro hL
  ·have fN:e < ND.length:=by have:=hL;simp [cw] at this;exact this
   obtain ⟨n,hn⟩:∃ n,ND[e]? = some n:=⟨_,gE fN⟩;have xF:=mG hn;have h1:=Gi (fJ (depN ND d)) (by rw [ky];exact jd) (n:=n) (by rw [ky];exact bF n xF) (bL n xF);obtain ⟨r1,r2⟩:=Nn (fun m hm=>⟨(bF m hm).k8,(bF m hm).bare⟩) d hn;refine iX (cp hn) ?_;refine cP Xv h1 ?_
   have bi:(cB M).set (0 + (e:Int).toNat * 1) (DV.v (.bool (HU n (fJ (depN ND d)))))=cB (M.set e (HU n (fJ (depN ND d)))):=by
    rw [show 0 + (e:Int).toNat * 1=e by omega,AD]
   have PK:(cB (M.set e (HU n (fJ (depN ND d)))))[0 + (e:Int).toNat * 1]? = some (DV.v (.bool (HU n (fJ (depN ND d))))):=by
    rw [show 0 + (e:Int).toNat * 1=e by omega];exact MN (iC (by omega))
   obtain ⟨q,hq⟩:∃ q,O[e]? = some q:=⟨_,gE (by omega)⟩;have hqd:(depN ND d).getD e 0=q:=by rw [<- N9 e (aW _),eM,hq];all_goals rfl
   rw [hqd] at r1
   have hMs:∀ i:Nat,i < e + 1->(M.set e (HU n (fJ (depN ND d)))).getD i false=(fJ (depN ND (d + 1))).getD i false:=fun i hi=>by
    by_cases Ke:i=e
    ·subst Ke;rw [r2,eM,iC (by omega)];all_goals rfl
    ·rw [eM,List.getElem?_set_ne (Ne.symm Ke),<- eM];exact (tH i (by omega)).2
   generalize HU n (fJ (depN ND d))=h at bi PK r1 hMs ⊢;refine ⟨⟨by omega,by rw [cw];omega⟩,?_⟩;refine ⟨by rw [rM];omega,?_⟩;refine ⟨⟨by omega,by rw [cw];omega⟩,?_⟩;refine ⟨DV.v (.bool h),(by rw [bi];exact PK),?_⟩
   have hOs:∀ v,v=(depN ND (d + 1)).getD e 0->∀ i:Nat,i < e + 1->(O.set e v).getD i 0=(depN ND (d + 1)).getD i 0:=fun v hv i hi=>by
    by_cases Ke:i=e
    ·subst Ke;rw [<- hv,eM,iC (by omega)];all_goals rfl
    ·rw [eM,List.getElem?_set_ne (Ne.symm Ke),<- eM];exact (tH i (by omega)).1
   have hOr:∀ v:Nat,∀ i:Nat,e + 1<=i->(O.set e v).getD i 0=(depN ND d).getD i 0:=fun v i hi=>by
    rw [eM,List.getElem?_set_ne (by omega),<- eM];exact N9 i (by omega)
   have hOq:O.set e q=O:=List.ext_getElem? fun i=>by
    by_cases Ke:e=i
    ·subst Ke;rw [iC (by omega),hq]
    ·rw [List.getElem?_set_ne Ke]
   refine br ?_ ?_<;>intro g
   ·have g:h=true:=sU g;refine ⟨⟨by omega,by rw [cw];omega⟩,?_⟩;refine ⟨DV.v (.int .i64 (q:Int)),(by rw [show 0 + (e:Int).toNat * 1=e by omega];exact UO hq),?_⟩;refine br ?_ ?_<;>intro g2
    ·have g2:q=0:=by simpa [pickB,pickD] using g2
     rw [ai ⟨g,g2⟩] at r1;refine ⟨⟨by omega,by rw [cw];omega⟩,?_⟩;refine ⟨by rw [Np];omega,?_⟩
     have Tc:(cN O).set (0 + (e:Int).toNat * 1) (DV.v (.int .i64 ((d + 1:Nat):Int)))=cN (O.set e (d + 1)):=by
      rw [show 0 + (e:Int).toNat * 1=e by omega,UP]
     exact ⟨DD (wG a b A B ND z) (O.set e (d + 1)) (fJ (depN ND d)) (M.set e h) (cX ND).length (d + 1) (e + 1),(wkB 3 (wA3 Tc bi (nxt fN (by omega))) (Oh Tc bi (nxt fN (by omega)))),ND.length - (e + 1),by omega,e + 1,_,_,rfl,by omega,by simp [hO],by rw [List.length_set];exact hM,fun i hi=>⟨hOs _ r1.symm i hi,hMs i hi⟩,hOr (d + 1),rfl⟩
    ·have g2:¬ q=0:=by simpa [pickB,pickD] using g2
     rw [ah (fun h=>g2 h.2)] at r1;exact ⟨DD (wG a b A B ND z) (O.set e q) (fJ (depN ND d)) (M.set e h) (cX ND).length (d + 1) (e + 1),(wkB 3 (by repeat' (first | exact rfl | exact aA rfl | exact cK (by rw [hOq]) | exact b9 bi | exact aC (nxt fN (by omega)) | refine ⟨_,_,rfl,?_,?_⟩)) (by repeat' (first | exact trivial | exact aA rfl | exact cK (by rw [hOq]) | exact b9 bi | exact aC (nxt fN (by omega)) | refine ⟨⟨_,rfl,?_⟩,?_⟩))),ND.length - (e + 1),by omega,e + 1,_,_,rfl,by omega,by simp [hO],by rw [List.length_set];exact hM,fun i hi=>⟨hOs _ r1.symm i hi,hMs i hi⟩,hOr q,rfl⟩
   ·have g:h=false:=sU g;rw [ah (by rw [g];simp)] at r1;exact ⟨DD (wG a b A B ND z) (O.set e q) (fJ (depN ND d)) (M.set e h) (cX ND).length (d + 1) (e + 1),(wkB 3 (by repeat' (first | exact rfl | exact aA rfl | exact cK (by rw [hOq]) | exact b9 bi | exact aC (nxt fN (by omega)) | refine ⟨_,_,rfl,?_,?_⟩)) (by repeat' (first | exact trivial | exact aA rfl | exact cK (by rw [hOq]) | exact b9 bi | exact aC (nxt fN (by omega)) | refine ⟨⟨_,rfl,?_⟩,?_⟩))),ND.length - (e + 1),by omega,e + 1,_,_,rfl,by omega,by simp [hO],by rw [List.length_set];exact hM,fun i hi=>⟨hOs _ r1.symm i hi,hMs i hi⟩,hOr q,rfl⟩
  ·have hge:e=ND.length:=sW cw hL;subst hge
   have hO2:O=depN ND (d + 1):=Nl (by rw [hO,fI]) fun j=>by
    rcases Nat.lt_or_ge j ND.length with hj | hj
    ·exact (tH j hj).1
    ·simp only [eM];rw [nR (by omega),nR (by rw [fI];omega)]
   have hM2:M=fJ (depN ND (d + 1)):=Cs (by rw [hM,mZ,fI]) (fun j hj=>by
     rcases Nat.lt_or_ge j ND.length with h | h
     ·rw [<- (tH j h).2];exact hj
     ·rw [eM,nR (by omega)] at hj;cases hj) (fun j hj=>by
     rcases Nat.lt_or_ge j ND.length with h | h
     ·rw [(tH j h).2];exact hj
     ·rw [eM,nR (by rw [mZ,fI];omega)] at hj;cases hj)
   subst hO2 hM2;refine ⟨NE (wG a b A B ND z) (depN ND (d + 1)) (fJ (depN ND (d + 1))) (cX ND).length (d + 1 + 1),.G1 2 rfl rfl ⟨_,_,rfl,ax,_,_,rfl,NC _ _ _ _ _,rfl⟩ rfl ⟨⟨_,rfl,gp⟩,⟨_,rfl,gp⟩,⟨_,rfl,Z0 (by rw [mZ,fI,cw]) (aW _) rfl⟩,⟨_,rfl,?_⟩,trivial⟩,ND.length - (d + 1),by omega,d + 1,rfl,by omega,rfl⟩;exact congrArg (fun z=>DV.v (Value.int .i64 z)) (nxt (n:=1099511627777) (by omega) (by omega))
 ·have hge:d=ND.length:=sW cw hc;subst hge;exact ⟨_,ms_n (by rw [fI,cw]) (Nat.zero_le _) rfl,rfl⟩
theorem DE {S:Sch} (hF:v7 S) {i:Nat} {n:Nd} (h:(aR S)[i]? = some n) {e:Ed} (he:e∈n.aw) (hb:e.bare=true):e.ck=0:=by
 have Ou:=(rV hF h).bare e he hb;rw [jy] at h;obtain ⟨t,ht,u,hu,rfl,pq⟩:=we h;have Jg:=wa t ⟨_,_,hF.wr t ht⟩ u hu;have hT:=FT Jg;obtain ⟨uh,us⟩:=u;simp only [Ty.h,Ty.ps] at hT;obtain ⟨p,v,k',h1,rfl,_⟩:=qf he;obtain ⟨j,hj⟩:=List.mem_iff_getElem?.1 h1;obtain ⟨_,hP⟩:=(hT.many (.inr Ou)).2.2 j p v hj;rcases hP with ⟨_,_,_,ky⟩ | ⟨fx,_⟩
 ·exact (nF ky).2.2.1
 ·have:p.bare=true:=hb;rw [fx] at this;cases this
def H0 (ck:Int):Int:=if ck=3 then 5 else if ck=2 then 3 else 2
def Gj (f:Nat->Nat->Bool) (ND:List Nd) (e:Ed):Prop:=e.ck≠0->(∃ m,ND[e.to.toNat]? = some m/\m.ag=H0 e.ck)/\f e.seen.toNat e.label.toNat=true/\f e.label.toNat e.seen.toNat=false
def NF (f:Nat->Nat->Bool) (ND:List Nd):Prop:=∀ n∈ND,∀ e∈n.aw,Gj f ND e
abbrev Z1 (W:List DV) (e:Nat):St:=⟨[aD 1 0,aD 2 1,au 3 e],[W,[.v (.int .i64 0),.v (.int .i64 0)]],[]⟩
abbrev UU (W:List DV) (es:List Ed) (e k:Nat):St:=⟨[aD 1 0,aD 2 1,au 3 e,aZ 4 10 (fF es),au 5 k],[W,[.v (.int .i64 0),.v (.int .i64 0)]],[]⟩
def W20Φ (f:Nat->Nat->Bool) (ND:List Nd) (r:DV):Prop:=∃ ft:Ft,r=ft.d/\(ft.1=0->NF f ND)
theorem AW (lv:List Wd) (f:Nat->Nat->Bool) (ND:List Nd) (z:Int) (hn:lv.length<=32) (bF:∀ n∈ND,dg lv.length ND.length n) (jd:ND.length<=1099511627776) (bL:∀ n∈ND,n.aw.length<=1099511627776) (Sw:∀ n∈ND,∀ e∈n.aw,e.bare=true->e.ck=0) :
  Ev prog 108 [.agg (wL lv f ND z)] [] [] (fun r _ _=>W20Φ f ND r):=by
 have xM:=eD ND;refine eG 79 [.cell 2 44] func108 rfl ntmps108 rfl fun _ _ _ _=>?_;refine lI (fun j st=>∃ e:Nat,st=Z1 (wL lv f ND z) e/\e<=ND.length/\(∀ c n,c < e->ND[c]? = some n->∀ x∈n.aw,Gj f ND x)/\j=ND.length - e) ⟨0,rfl,by omega,fun _ _ h=>by omega,rfl⟩ (wkM wB) ?_;rintro j st ⟨e,rfl,he,dE,rfl⟩;refine br ?_ ?_<;>intro hL
 ·have av:e < ND.length:=sV xM hL;obtain ⟨d,hd⟩:=gX av;have hm:=mG hd;have hN:=bF d hm;have mb:=bL d hm;have cw:=bT d.aw;have hbd:=Sw d hm;refine iX (cp hd) ?_;refine lI (fun j st=>∃ k:Nat,st=UU (wL lv f ND z) d.aw e k/\k<=d.aw.length/\(∀ c x,c < k->d.aw[c]? = some x->Gj f ND x)/\j=d.aw.length - k) ⟨0,rfl,by omega,fun _ _ h=>by omega,rfl⟩ (wkM wB) ?_;rintro j st ⟨k,rfl,hk,MQ,rfl⟩;refine br ?_ ?_<;>intro mN
  ·have gL:k < d.aw.length:=sV cw mN;obtain ⟨x,hx⟩:∃ x,d.aw[k]? = some x:=⟨_,gE gL⟩;have SA:=mG hx;obtain ⟨nD,⟨h2,xT⟩,h3,JL⟩:=fi hN SA;have qH:=hbd x SA;have Km:=(hN.fZ x SA).ck
   have zi:Gj f ND x->∀ c y,c < k + 1->d.aw[c]? = some y->Gj f ND y:=fun h c y hc hy=>by
    rcases jB hc with h1 | h1
    ·exact MQ c y h1 hy
    ·rw [h1,hx] at hy;simp only [oI] at hy;rw [<- hy];exact h
   have hE:Gj f ND x=(x.ck≠0->(∃ m,ND[x.to.toNat]? = some m/\m.ag=H0 x.ck)/\f x.seen.toNat x.label.toNat=true/\f x.label.toNat x.seen.toNat=false):=rfl;generalize Gj f ND x=EX at hE zi;obtain ⟨en,eb,ea,et,qK,ew,dM,cY,sQ,gv⟩:=x;simp only at h2 xT h3 JL nD qH Km hE;obtain ⟨lb,rfl⟩:∃ n:Nat,qK=n:=⟨_,h2⟩;obtain ⟨sn,rfl⟩:∃ n:Nat,sQ=n:=⟨_,h3⟩;simp only [iT] at xT JL hE;refine iX (bm hx) ?_;refine br ?_ ?_<;>intro g
   ·have g:dM=0:=sU g;exact rE ⟨_,by omega,k + 1,rfl,by omega,zi (by rw [hE];intro h;exact absurd g h),rfl⟩ (wkB 2 (mw (nxt gL (by omega))) (wB1 (nxt gL (by omega))))
   have g:¬ dM=0:=sU g
   obtain ⟨h1,qU⟩:=nD (by
    cases hb:eb
    ·rfl
    ·exact absurd (qH hb) g)
   obtain ⟨tn,rfl⟩:∃ n:Nat,et=n:=⟨_,h1⟩;simp only [iT] at qU hE;obtain ⟨m,hmt⟩:∃ m,ND[tn]? = some m:=⟨_,gE qU⟩
   have hW:∀ w:Int,w=H0 dM->(m.ag=w/\f sn lb=true/\f lb sn=false)->EX:=fun w h1 h2=>by
    rw [hE];exact fun _=>⟨⟨m,hmt,by rw [<- h1];exact h2.1⟩,h2.2⟩
   have h3c:dM=1∨dM=2∨dM=3:=by omega
   rcases h3c with rfl | rfl | rfl
   all_goals
    refine ⟨_,⟨Bs _,cp hmt⟩,?_⟩;refine br ?_ ?_<;>intro c1
    ·exact ⟨Ft.d (14,gv),ax,(14,gv),rfl,fun h=>by simp at h⟩
    refine dI ?_;refine ⟨_,⟨Bs _,dj JL⟩,?_⟩;refine ⟨_,⟨Bs _,cA xT⟩,?_⟩;refine br ?_ ?_<;>intro c2
    ·refine ⟨_,⟨Bs _,dj xT⟩,?_⟩;refine ⟨_,⟨Bs _,cA JL⟩,?_⟩;refine br ?_ ?_<;>intro c3
     ·exact ⟨Ft.d (18,gv),ax,(18,gv),rfl,fun h=>by simp at h⟩
     ·have hx:=zi (hW _ rfl ⟨by simpa [H0] using c1,by simpa using c2,by simpa [pickB] using c3⟩);exact rE ⟨_,by omega,k + 1,rfl,by omega,hx,rfl⟩ (wkB 2 (mw (nxt gL (by omega))) (wB1 (nxt gL (by omega))))
    ·exact ⟨Ft.d (18,gv),ax,(18,gv),rfl,fun h=>by simp at h⟩
  ·have hge:k=d.aw.length:=sW cw mN;subst hge
   exact rE ⟨_,by omega,e + 1,rfl,by omega,fun c n hc hn x VA=>by
    rcases jB hc with h1 | h1
    ·exact dE c n h1 hn x VA
    ·rw [h1,hd] at hn;simp only [oI] at hn;rw [<- hn] at VA;obtain ⟨q,hq⟩:=List.mem_iff_getElem?.1 VA
     exact MQ q x (gS hq).1 hq,rfl⟩ (wkM (wB1 (nxt av (by omega))))
 ·have hge:e=ND.length:=sW xM hL;subst hge
  exact ⟨Ft.d (0,0),ax,(0,0),rfl,fun _ n hn x hx=>by
   obtain ⟨q,hq⟩:=List.mem_iff_getElem?.1 hn
   exact dE q n (gS hq).1 hq x hx⟩
structure wT (S:Sch):Prop where
 EH:(km S).1=0
 live:∀ i:Nat,i < (aR S).length->(depN (aR S) (aR S).length).getD i 0≠0
 eff:NF (aV S) (aR S)
abbrev Z2 (S:Sch) (a b:Int) (W:List DV) (D:List Nat) (e:Nat):St:=
 ⟨[aD 1 0,aD 3 1,aD 5 3,aZ 6 1 (dInts D),au 7 e],[eB S,[.v (.int .i64 0),.v (.int .i64 0)],[.v (.int .i64 a),.v (.int .i64 b)],W],[]⟩
theorem AX (S:Sch) (hS:S.wt<=1099511627776):Ev prog 56 [.agg (eB S)] [] [] (fun r _ _=>∃ (z:Int) (ft:Ft),r = .tup [.v (.int .i64 z),ft.d]/\(z=0->wT S)):=by
 have Jg:=AL S hS;have hw:=fun h=>qd S hS h;generalize hR:km S=R at Jg;obtain ⟨ae,order,types,⟨rh,rp⟩⟩:=S;refine eG 44 [.tmp 2,.cell 3 44] func56 rfl ntmps56 rfl fun _ _ _ _=>?_;refine cP W6 Jg ?_;refine br ?_ ?_<;>intro g
 ·refine dS ?_;exact ⟨.tup [.v (.int .i64 2),Ft.d R],ax,2,R,rfl,fun h=>by simp at h⟩
 have g:R.1=0:=sU g;have h0:(km ⟨ae,order,types,.mk rh rp⟩).1=0:=by rw [hR];exact g
 have hF:=qc h0;have hw:=hw h0;obtain ⟨ZH,PV⟩:=kK hF.lat;have bF:=fun n (hn:n∈aR ⟨ae,order,types,.mk rh rp⟩)=>(List.mem_iff_getElem?.1 hn).elim fun i hi=>rV hF hi;have jd:(aR ⟨ae,order,types,.mk rh rp⟩).length<=1099511627776:=by rw [lR];exact Nat.le_trans (FR _) hS
 have bL:=fun n (hn:n∈aR ⟨ae,order,types,.mk rh rp⟩)=>(kN hn hS).2;have Sw:=fun n (hn:n∈aR ⟨ae,order,types,.mk rh rp⟩)=>(List.mem_iff_getElem?.1 hn).elim fun i hi e he hb=>DE hF hi (e:=e) he hb;have h19:=fun A B=>xY 2 1 A B (dL ⟨ae,order,types,.mk rh rp⟩) bF jd bL;have Z3:=AW ae (aV ⟨ae,order,types,.mk rh rp⟩) (aR ⟨ae,order,types,.mk rh rp⟩) (dL ⟨ae,order,types,.mk rh rp⟩) PV bF jd bL Sw;have Vw:(∀ i:Nat,i < (aR ⟨ae,order,types,.mk rh rp⟩).length->(depN (aR ⟨ae,order,types,.mk rh rp⟩) (aR ⟨ae,order,types,.mk rh rp⟩).length).getD i 0≠0)->NF (aV ⟨ae,order,types,.mk rh rp⟩) (aR ⟨ae,order,types,.mk rh rp⟩)->wT ⟨ae,order,types,.mk rh rp⟩:=fun h1 h2=>⟨h0,h1,h2⟩;have LA:=fI (aR ⟨ae,order,types,.mk rh rp⟩) (aR ⟨ae,order,types,.mk rh rp⟩).length;generalize depN (aR ⟨ae,order,types,.mk rh rp⟩) (aR ⟨ae,order,types,.mk rh rp⟩).length=D at h19 Vw LA;unfold aV at Z3 Vw;generalize eC (Sch.mk ae order types (.mk rh rp)).ae.length (de (az (Sch.mk ae order types (.mk rh rp)).ae) (Sch.mk ae order types (.mk rh rp)).order)=f at hw Z3 Vw;generalize aR ⟨ae,order,types,.mk rh rp⟩=ND at hw h19 Z3 Vw LA jd bL Sw bF;generalize dL ⟨ae,order,types,.mk rh rp⟩=rt at hw h19 Z3;have Oa:=bu D;obtain ⟨R1,R2⟩:=R;simp only at g;subst g;refine cP en9 hw ?_;refine cP W7 (h19 _ _) ?_;refine lI (fun j st=>∃ e:Nat,st=Z2 ⟨ae,order,types,.mk rh rp⟩ 0 R2 (wL ae f ND rt) D e/\e<=D.length/\(∀ i < e,D.getD i 0≠0)/\j=D.length - e) ⟨0,rfl,by omega,fun _ h=>by omega,rfl⟩ (wkM wB) ?_;rintro j st ⟨e,rfl,he,dE,rfl⟩;refine br ?_ ?_<;>intro hL
 ·have av:e < D.length:=sV Oa hL;obtain ⟨x,hx⟩:=gX av;obtain ⟨d,hd⟩:∃ d,ND[e]? = some d:=⟨_,gE (by omega)⟩;refine iX (dQ hx) ?_;refine br ?_ ?_<;>intro c
  ·refine dS ?_;refine iX (cp hd) ?_;exact ⟨.tup [.v (.int .i64 3),Ft.d (11,d.aE)],ax,3,(11,d.aE),rfl,fun h=>by simp at h⟩
  ·have c:x≠0:=by simp at c;omega
   exact rE ⟨_,by omega,e + 1,rfl,by omega,fun i hi=>by
    rcases jB hi with h1 | h1
    ·exact dE i h1
    ·rw [h1,eM,hx];exact c,rfl⟩ (wkB 4 (mw (nxt av (by omega))) (wB1 (nxt av (by omega))))
 ·have hge:e=D.length:=sW Oa hL;subst hge;refine bG W8 rfl Z3 ax (fun r hr=>?_);obtain ⟨ft,rfl,Kl⟩:=hr;refine br ?_ ?_<;>intro c
  ·refine dS ?_;exact ⟨.tup [.v (.int .i64 4),Ft.d ft],ax,4,ft,rfl,fun h=>by simp at h⟩
  ·have c:ft.1=0:=sU c;exact ⟨.tup [.v (.int .i64 0),Ft.d (0,0)],ax,0,(0,0),rfl,fun _=>Vw (fun i hi=>dE i (by omega)) (Kl c)⟩
theorem DF (S:Sch) (hS:S.wt<=1099511627776):Ev prog 21 [.agg (eB S)] [] [] (fun r _ _=>∃ b:Bool,r = .v (.bool b)/\(b=true->wT S)):=by
 have hw:=AX S hS;obtain ⟨ae,order,types,⟨rh,rp⟩⟩:=S;refine eG 12 [.tmp 2] func21 rfl ntmps21 rfl fun _ _ _ _=>?_;refine bG en56 rfl hw ax (fun r hr=>?_);obtain ⟨z,ft,rfl,hz⟩:=hr;exact ⟨_,rfl,fun h=>hz (sU h)⟩
theorem qx (lv:List Wd) (f:Nat->Nat->Bool) (ND:List Nd) (z:Int) (hL:dG f lv.length) (hn:lv.length<=32) (d:Nd) (e:Ed) (a:Nat) (ha:a < lv.length) (hN:dg lv.length ND.length d) (hm:e∈d.aw) :
  EvP prog 136 [.agg (wL lv f ND z),.agg (iS d),.agg (jv e),.v (.int .i64 a)] (.v (.int .i64 (if d.ag < 7 then a else qm f lv.length a e.label.toNat:Nat))):=by
 obtain ⟨_,⟨h2,xT⟩,_⟩:=fi hN hm;obtain ⟨ag,aE,lo,hi,most,af,es⟩:=d;obtain ⟨en,eb,ea,et,qK,ew,dM,cY,sQ,gv⟩:=e;simp only at h2 xT;obtain ⟨lb,rfl⟩:∃ n:Nat,qK=n:=⟨_,h2⟩;simp only [iT] at xT ⊢;have hj:=iK lv.length f (by omega) a lb ha xT;rw [oP hL ha xT] at hj;refine eG 19 [.tmp 8] func136 rfl ntmps136 rfl fun _ _ _ _=>?_;refine br ?_ ?_<;>intro c
 ·have c:ag < 7:=sU c;rw [ai c];exact (rfl:_=_)
 ·have c:¬ ag < 7:=sU c;rw [ah c];refine cP Lb hj ?_;exact (rfl:_=_)
theorem Gk (lv:List Wd) (f:Nat->Nat->Bool) (ND:List Nd) (z:Int) (hL:dG f lv.length) (hn:lv.length<=32) (d:Nd) (e:Ed) (obs a:Nat) (ho:obs < lv.length) (ha:a < lv.length) (hN:dg lv.length ND.length d) (hm:e∈d.aw) :
  EvP prog 135 [.agg (wL lv f ND z),.v (.int .i64 obs),.agg (iS d),.agg (jv e),.v (.int .i64 a)] (.v (.int .i64 (mX f lv.length obs d e a:Nat))):=by
 have hu:=qx lv f ND z hL hn d e a ha hN hm;obtain ⟨_,⟨h2,xT⟩,h3,JL⟩:=fi hN hm
 have H3:(if d.ag < 7 then a else qm f lv.length a e.label.toNat) < lv.length:=by
  split
  ·exact ha
  ·exact rZ hL ha xT
 have hH:mX f lv.length obs d e a=if f (if d.ag < 7 then a else qm f lv.length a e.label.toNat) obs=true then 2 else if e.ck≠0/\f (qm f lv.length a e.seen.toNat) obs=true then 1 else 0:=rfl
 generalize mX f lv.length obs d e a=H at hH ⊢;generalize (if d.ag < 7 then a else qm f lv.length a e.label.toNat)=u at hu H3 hH;obtain ⟨ag,aE,lo,hi,most,af,es⟩:=d;obtain ⟨en,eb,ea,et,qK,ew,dM,cY,sQ,gv⟩:=e;simp only at h3 JL hH;obtain ⟨sn,rfl⟩:∃ n:Nat,sQ=n:=⟨_,h3⟩;simp only [iT] at JL hH;have hj:=iK lv.length f (by omega) a sn ha JL;rw [oP hL ha JL] at hj;have og:=rZ hL ha JL;refine eG 41 [.tmp 10] func135 rfl ntmps135 rfl fun _ _ _ _=>?_;refine dI ?_;refine cD Rg hu ?_;refine iX (dj H3) ?_;refine iX (cA ho) ?_;refine br ?_ ?_<;>intro c
 ·have c:f u obs=true:=sU c;rw [ai c] at hH;subst hH;exact (rfl:_=_)
 have c:f u obs=false:=sU c;rw [ah (by rw [c];simp)] at hH;refine dI ?_;refine br ?_ ?_<;>intro g
 ·have g:dM≠0:=sU g;refine cD Lb hj ?_;refine ⟨_,⟨by simp [oz],by simpa [oz] using dj og⟩,?_⟩;refine iX (cA ho) ?_;refine br ?_ ?_<;>intro c2
  ·have c2:f (qm f lv.length a sn) obs=true:=by simpa [pickB] using c2
   rw [ai ⟨g,c2⟩] at hH;subst hH;exact (rfl:_=_)
  ·have c2:f (qm f lv.length a sn) obs=false:=by simpa [pickB] using c2
   rw [ah (by rw [c2];simp)] at hH;subst hH;exact (rfl:_=_)
 ·have g:dM=0:=sU g;rw [ah (by simp [g])] at hH;subst hH;exact (rfl:_=_)
theorem Gl {ND:List Nd} {ks:List Val} {f:Nat->Int} {e:Nat} {x:Val} (h:ks[e]? = some x):refVs ND (ks.drop e) f e=(wx ND x (f e) && refVs ND (ks.drop (e + 1)) f (e + 1)):=by
 rw [drop_cons h,refVs]
abbrev UW (W:List DV) (v:Val) (d:Nd) (ok:Bool) (e:Nat):St:=
 ⟨[aD 3 0,aD 5 1,aD 7 2,uF 8 ok,au 9 e],[W,bD v,iS d],[]⟩
set_option maxHeartbeats 4000000 in
theorem sR (a b:Nat) (A B:List (List DV)) (rt:Int) {ND:List Nd} {L:Nat} (bF:∀ n∈ND,dg L ND.length n):∀ (k:Nat) (v:Val),v.wt<=k->v.wt<=1099511627776->∀ i:Int,EvP prog 132 [.agg (wG a b A B ND rt),.v (.int .i64 i),.agg (bD v)] (.v (.bool (wx ND v i)))
 | 0,v,h,_=>by have:=v.dP;omega
 | k + 1,.mk q z s ks,h,hb=>fun i=>by
  have ih:=sR a b A B rt bF k;have nN:=dV ks;have cw:=bK ks;have fx:=hb;rw [Val.wt] at h hb;rw [wx];have xM:=eD ND
  cases hd:cu ND i with
  | none=>
   have hn:=wz hd;refine eG 164 [.tmp 6] func132 rfl ntmps132 rfl fun _ _ _ _=>?_;refine br (fun _=>?_) (fun c=>?_)
   ·exact (rfl:_=_)
   ·grind [aj]
  | some d=>
   obtain ⟨h0,hg⟩:=cC hd;obtain ⟨j,rfl⟩:∃ j:Nat,i=j:=⟨i.toNat,by omega⟩;have hg:ND[j]? = some d:=sU hg;have og:=(gS hg).1;have hN:=bF d (mG hg);have o6:=hN.k1;have Ou:=hN.k8;have De:=hN.many;have nD:=fun m=>to25_spec hN (.mk q z s ks) m;simp only;have mb:=bT d.aw;have hbl:=bW d.af;generalize hf:wv d (.mk q z s ks)=f at nD;have hF:HP d (.mk q z s ks)=HP d (.mk q z s ks):=rfl;obtain ⟨ag,aE,lo,hi,most,af,es⟩:=d;simp only at o6 Ou De mb hbl;have hkc:((ks.length:Int)=(es.length:Int))↔ks.length=es.length:=by omega
   have MS:∀ b:Bool,b=pickB (pickB (!decide (q=ag)) true (pickB (!decide (q=3)) (!decide (s=⟨#[]⟩)) false)) true (pickB (decide (0 < (s.size:Int))) (decide (most < (s.size:Int))) false)->b=AQ ⟨ag,aE,lo,hi,most,af,es⟩ (.mk q z s ks):=fun b h=>by
    rw [h,rY,Bool.eq_iff_iff];have hB:AQ ⟨ag,aE,lo,hi,most,af,es⟩ (.mk q z s ks)=(decide (q≠ag) || (decide (q≠3) && decide (s≠aq)) || (decide (0 < s.size) && decide (most < (s.size:Int)))):=rfl;rw [hB];simp [aj,pickB_and,or_assoc]
   refine eG 164 [.tmp 6] func132 rfl ntmps132 rfl fun _ _ _ _=>?_;refine br (fun c=>?_) (fun _=>?_)
   ·grind [aj]
   refine iX (cp hg) ?_;refine br ?_ ?_<;>intro c
   ·have c:=(MS _ rfl).symm.trans c;rw [ai c];exact (rfl:_=_)
   have c:=(MS _ rfl).symm.trans c;rw [ah (by rw [c];simp)];rcases (show ag=1∨ag=2∨ag=3∨ag=4∨ag=5∨ag=6∨ag=7∨ag=8 by omega) with c | c | c | c | c | c | c | c
   all_goals
    repeat (first | (refine br (fun h=>?_) (fun _=>?_);focus (simp [c] at h;done)) | (refine br (fun _=>?_) (fun h=>?_);rotate_left;focus (simp [c] at h;done)))
   all_goals
    try
     refine dI ?_;have hc:∀ b:Bool,b=pickB (decide (0<=z)) (decide (z < ((fF es).length:Int))) false->b=decide (0<=z/\z < es.length):=fun b h=>by grind [pickB_and]
     refine br (fun g=>?pp) (fun g=>?nn)
     case' pp=>
      have g8:=of_decide_eq_true ((hc _ rfl).symm.trans (sU g));obtain ⟨x,hx8⟩:∃ x,es[z.toNat]? = some x:=⟨_,gE (by omega)⟩;have hm64:=(De (.inr c)).1;have hw:max 0 (min z (IntKind.i64.wrap (((fF es).length:Int) - 1)))=z:=by rw [mb,wrap64 (by omega) (by omega)];omega
      refine ⟨_,⟨Int.le_max_left _ _,by rw [hw];exact bm hx8⟩,?_⟩;show nS _ _ _ _
     case' nn=>
      have g8:=of_decide_eq_false ((hc _ rfl).symm.trans (sU g));show nS _ _ _ _
   all_goals
    refine aP (fun j st=>∃ (e:Nat) (ok:Bool),st=UW (wG a b A B ND rt) (.mk q z s ks) ⟨ag,aE,lo,hi,most,af,es⟩ ok e/\e<=ks.length/\(HP ⟨ag,aE,lo,hi,most,af,es⟩ (.mk q z s ks) && refVs ND ks f 0)=(ok && refVs ND (ks.drop e) f e)/\j=ks.length - e) ks.length (UW (wG a b A B ND rt) (.mk q z s ks) ⟨ag,aE,lo,hi,most,af,es⟩ _ 0) (wkM wB) ⟨0,_,rfl,by omega,congrArg (fun b=>b && refVs ND ks f 0) ?_,by omega⟩ ?_
    ·grind [HP,aj,pickB_and,Val.n,Val.ks]
    ·rintro _ st ⟨e,ok,rfl,he,aK,rfl⟩;refine br ?_ ?_<;>intro hL
     ·have hL:e < ks.length/\ok=true:=by grind [pickB_and]
      obtain ⟨av,hok1⟩:=hL;obtain ⟨x,hx⟩:=gX av;have Ug:=gH (mG hx);rw [hok1,Bool.true_and,Gl hx] at aK;have dz:=ih x (by omega) (by omega) (f e);obtain ⟨xk,xn,xs,xl⟩:=x;refine dI ?_;refine cD XD (nD e) ?_;refine iX (eF hx) ?_;refine cD Rf dz ?_;exact ⟨UW (wG a b A B ND rt) (.mk q z s ks) ⟨ag,aE,lo,hi,most,af,es⟩ _ (e + 1),(wkM (wB1 (nxt av (by omega)))),ks.length - (e + 1),by omega,e + 1,_,rfl,by omega,aK,rfl⟩
     ·have hL:¬ (e < ks.length/\ok=true):=by grind [pickB_and]
      refine (bo ?_:);rw [aK]
      cases ok with
      | false=>rfl
      | true=>rw [List.drop_of_length_le (by simp at hL;omega),refVs];all_goals rfl
theorem Qw {d:Nd} {z:Int} {j:Nat} {e:Ed} (h:wv d (.mk 0 z aq []) j=e.to) (h0:0<=e.to) (c:d.ag=8):0<=z/\z < d.aw.length:=by
 unfold wv at h;rw [ah (by omega),ah (by omega),ah (by omega),ai c] at h;split at h
 ·rename_i g;exact ⟨g.2.1,g.2.2⟩
 ·omega
theorem sS (d:Nd) (v:Val) (j:Nat) (e:Ed) (h:dW d v.n j=some e) (hz:d.ag=8->0<=v.n/\v.n < d.aw.length) (ie:d.aw.length<=1099511627776) :
  EvP prog 89 [.agg (iS d),.agg (bD v),.v (.int .i64 j)] (.agg (jv e)):=by
 obtain ⟨ag,aE,lo,hi,most,af,es⟩:=d;obtain ⟨k,n,s,ks⟩:=v;simp only [Val.n] at h hz ie;have mb:=bT es;unfold dW at h;simp only at h;refine eG 28 [.cell 6 109] func89 rfl ntmps89 rfl fun _ _ _ _=>?_;refine br ?_ ?_<;>intro c
 ·have c:ag=7:=sU c;rw [ai c] at h;have hj:=(gS h).1;refine iX (bm h) ?_;exact ⟨_,ax,rfl⟩
 have c7:¬ ag=7:=sU c;rw [ah c7] at h;refine br ?_ ?_<;>intro c
 ·have c:ag=8:=sU c;rw [ai c] at h;have hz:=hz c;refine iX (bm h) ?_;exact ⟨_,ax,rfl⟩
 have c8:¬ ag=8:=sU c;rw [ah c8] at h;refine iX (bm h) ?_;exact ⟨_,ax,rfl⟩
abbrev SD (PC LC:List DV) (obs:Int):List DV:=[.pt PC 0,.pt LC 0,.v (.int .i64 obs)]
section
variable {n:Nat} {f:Nat->Nat->Bool} {af:List ByteArray} {LC:List DV} (hR:F6 n f af LC) (PC:List DV)
include hR
theorem oT (obs a:Nat) (ho:obs < n) (ha:a < n):EvP prog 100 [.agg (SD PC LC obs),.v (.int .i64 a)] (.v (.bool (f a obs))):=by
 have hq:=hR.leq a obs;rw [Ni ha ho] at hq;refine eG 11 [.tmp 4] func100 rfl ntmps100 rfl fun _ _ _ _=>?_;refine cP en18 hq ?_;exact (rfl:_=_)
theorem na {ND:List Nd} (obs a:Nat) (ho:obs < n) (ha:a < n) (d:Nd) (e:Ed) (hN:dg n ND.length d) (hm:e∈d.aw):EvP prog 101 [.agg (SD PC LC obs),.agg (jv e),.v (.int .i64 a)] (.v (.bool (decide (e.ck≠0) && f (qm f n a e.seen.toNat) obs))):=by
 obtain ⟨_,_,h3,JL⟩:=fi hN hm;have hj:=hR.join a e.seen.toNat ha JL;rw [<- h3] at hj;have hs:=oT hR PC obs (qm f n a e.seen.toNat) ho (rZ hR.ok ha JL);obtain ⟨en,eb,ea,et,qK,ew,dM,cY,sQ,gv⟩:=e;refine eG 20 [.tmp 6] func101 rfl ntmps101 rfl fun _ _ _ _=>?_;refine dI ?_;refine br ?_ ?_<;>intro c
 ·have c:dM≠0:=sU c;refine cD Pe hj ?_;refine cD Lc hs ?_;rw [show decide ((⟨en,eb,ea,et,qK,ew,dM,cY,sQ,gv⟩:Ed).ck≠0)=true from decide_eq_true c,Bool.true_and];exact (rfl:_=_)
 ·have c:¬ dM≠0:=sU c;rw [show decide ((⟨en,eb,ea,et,qK,ew,dM,cY,sQ,gv⟩:Ed).ck≠0)=false from decide_eq_false c,Bool.false_and];exact (rfl:_=_)
theorem wU {ND:List Nd} (obs:Int) (a:Nat) (ha:a < n) (d:Nd) (v:Val) (j:Nat) (e:Ed) (h:dW d v.n j=some e) (hm:e∈d.aw) (hN:dg n ND.length d) (h5:5<=d.ag) (hz:d.ag=8->(0<=v.n/\v.n < d.aw.length)/\j=0) (ie:d.aw.length<=1099511627776) :
  EvP prog 99 [.agg (SD PC LC obs),.agg (iS d),.agg (bD v),.v (.int .i64 j),.v (.int .i64 a)] (.tup [.agg (jv e),.v (.int .i64 (jZ f n d e a:Nat))]):=by
 obtain ⟨_,⟨h2,xT⟩,_⟩:=fi hN hm;have hj:=hR.join a e.label.toNat ha xT;rw [<- h2] at hj;have hU:jZ f n d e a=if d.ag < 7 then a else qm f n a e.label.toNat:=rfl
 generalize jZ f n d e a=U at hU ⊢;have h8:=hN.k8;obtain ⟨ag,aE,lo,hi,most,VH,es⟩:=d;obtain ⟨k,z,s,ks⟩:=v;simp only [Val.n] at h hz ie hU h5 h8;have mb:=bT es;unfold dW at h;simp only at h;have hd:∃ en eb ea et qK ew dM cY sQ gv,e=⟨en,eb,ea,et,qK,ew,dM,cY,sQ,gv⟩:=⟨_,_,_,_,_,_,_,_,_,_,rfl⟩
 have UX:∃ (l:List (List DV)) (b:Bool),EvP prog 155 [.agg (iS ⟨ag,aE,lo,hi,most,VH,es⟩),.agg (bD (.mk k z s ks))] (.tup [.sl 10 l none,.v (.bool b)])/\(if ag < 7 then b=false/\l[0]? = some (jv e) else b=true/\l[j]? = some (jv e)):=by
  by_cases c7:ag=7
  ·rw [ai c7] at h;refine ⟨fF es,true,?_,by rw [ah (by omega)];exact ⟨rfl,bm h⟩⟩;refine eG 24 [.tmp 4,.tmp 5] func155 rfl ntmps155 rfl fun _ _ _ _=>?_;refine br (fun _=>?_) (fun c=>absurd c7 (sU c));exact ⟨_,ax,rfl⟩
  rw [ah c7] at h;by_cases c8:ag=8
  ·rw [ai c8] at h;have hz:=hz c8;have hw:IntKind.i64.wrap (z + 1)=z + 1:=wrap64 (by omega) (by omega);refine ⟨((fF es).take (IntKind.i64.wrap (z + 1)).toNat).drop z.toNat,true,?_,by rw [ah (by omega),hz.2,List.getElem?_drop,cg,ai (by rw [hw];omega)];exact ⟨rfl,bm h⟩⟩;refine eG 24 [.tmp 4,.tmp 5] func155 rfl ntmps155 rfl fun _ _ _ _=>?_;refine br (fun c=>absurd (sU c) c7) (fun _=>?_);refine br (fun _=>?_) (fun c=>absurd c8 (sU c));refine ⟨⟨by omega,by rw [hw];omega,by rw [hw,bT];simp only;omega⟩,?_⟩;exact ⟨_,ax,rfl⟩
  ·rw [ah c8] at h;refine ⟨fF es,false,?_,by rw [ai (by omega)];exact ⟨rfl,bm h⟩⟩;refine eG 24 [.tmp 4,.tmp 5] func155 rfl ntmps155 rfl fun _ _ _ _=>?_;refine br (fun c=>absurd (sU c) c7) (fun _=>?_);refine br (fun c=>absurd (sU c) c8) (fun _=>?_);exact ⟨_,ax,rfl⟩
 obtain ⟨l,b,hE,hl⟩:=UX;by_cases c:ag < 7
 ·rw [ai c] at hl hU;obtain ⟨rfl,hl⟩:=hl;subst hU;obtain ⟨en,eb,ea,et,qK,ew,dM,cY,sQ,gv,rfl⟩:=hd;refine eG 38 [.cell 10 115,.tmp 11] func99 rfl ntmps99 rfl fun _ _ _ _=>?_;refine cP Ro hE ?_;refine ⟨_,⟨by omega,hl⟩,?_⟩;exact ⟨_,ax,rfl⟩
 ·rw [ah c] at hl hU;obtain ⟨rfl,hl⟩:=hl;subst hU;obtain ⟨en,eb,ea,et,qK,ew,dM,cY,sQ,gv,rfl⟩:=hd;refine eG 38 [.cell 10 115,.tmp 11] func99 rfl ntmps99 rfl fun _ _ _ _=>?_;refine cP Ro hE ?_;refine ⟨_,⟨by omega,hl⟩,?_⟩;refine dS ?_;refine cD Pe hj ?_;exact ⟨_,ax,rfl⟩
end
theorem qy (e:Ed):EvP prog 103 [.agg (jv e)] (.agg (bD (Di e))):=by
 obtain ⟨en,eb,ea,et,qK,ew,dM,cY,sQ,gv⟩:=e;refine eG 6 [.cell 2 34] func103 rfl ntmps103 rfl fun _ _ _ _=>?_;exact ⟨_,ax,rfl⟩
abbrev Z4 (a:ByteArray) (aE:Nat) (m:Int) (e:Nat):St:=⟨[(0,⟨[],.v (.string a)⟩),au 5 aE,au 8 m,au 9 e],[],[]⟩
theorem wV (a:ByteArray) (ha:a.size<=1099511627776) (m:Int) (hm:m<=9223372036854775807):EvP prog 157 [.v (.string a),.v (.int .i64 m)] (.v (.string (ba (headL m.toNat (tx a))))):=by
 refine eG 28 [.tmp 4] func157 rfl ntmps157 rfl fun _ _ _ _=>?_;refine lI (fun j st=>∃ e aE:Nat,st=Z4 a aE m e/\(e:Int)<=max m 0/\aE <= a.size/\(tx a).take aE ++ headL (m.toNat - e) ((tx a).drop aE)=headL m.toNat (tx a)/\j=m.toNat - e) ⟨0,0,rfl,by omega,by omega,by simp,rfl⟩ (wkM gR) ?_;rintro j st ⟨e,aE,rfl,he,h1,hE,rfl⟩;have gN:=bR a;have Z5:headL (m.toNat - e) ((tx a).drop aE)=[]->a.extract 0 aE=ba (headL m.toNat (tx a)):=fun h=>by grind [u9,tY]
 refine br ?_ ?_<;>intro hL
 rotate_left
 ·have hge:m.toNat - e=0:=by have:=of_decide_eq_false hL;omega
  refine ⟨⟨by omega,by omega,by omega⟩,?_⟩;exact (congrArg (fun z=>DV.v (.string z)) (Z5 (by rw [hge];rfl)):_=_)
 have av:(e:Int) < m:=of_decide_eq_true hL;refine br ?_ ?_<;>intro c
 ·have c:aE=a.size:=by have:=of_decide_eq_true c;omega
  refine ⟨⟨by omega,by omega,by omega⟩,?_⟩;exact (congrArg (fun z=>DV.v (.string z)) (Z5 (by rw [List.drop_of_length_le (by omega),rX])):_=_)
 have c:aE < a.size:=by have:=of_decide_eq_false c;omega
 have hua:=zj a aE ha h1
 have bg:(tx a).drop aE ≠ []:=fun h=>by
  have:=congrArg List.length h;rw [List.length_drop,List.length_nil] at this;omega
 have hup:=lT bg;rw [List.length_drop] at hup;obtain ⟨k,hk⟩:∃ k,m.toNat - e=k + 1:=⟨m.toNat - e - 1,by omega⟩;rw [hk,show headL (k + 1) ((tx a).drop aE)=((tx a).drop aE).take (jk ((tx a).drop aE)) ++ headL k (((tx a).drop aE).drop (jk ((tx a).drop aE))) from rfl,<- List.append_assoc,List.drop_drop,<- List.take_add] at hE;generalize jk ((tx a).drop aE)=w at hua hup hE;refine bG Lm rfl hua ax (fun q hq=>?_);obtain ⟨z1,rfl⟩:=hq
 have hw:IntKind.i64.wrap ((aE:Int) + w)=((aE + w:Nat):Int):=by
  rw [wrap64 (by omega) (by omega)];omega
 have ZE:IntKind.i64.wrap ((e:Int) + 1)=((e + 1:Nat):Int):=by
  rw [wrap64 (by omega) (by omega)];omega
 exact rE ⟨_,by omega,e + 1,aE + w,rfl,by omega,by omega,by rw [show m.toNat - (e + 1)=k by omega];exact hE,rfl⟩ (wkM (wB2 hw ZE))
theorem AY (e:Ed) (v:Val) (hn : -9223372036854775808<=v.n/\v.n<=9223372036854775807) (hs:v.wt<=1099511627776) (hc : -9223372036854775808<=e.cn/\e.cn<=9223372036854775807) :
  EvP prog 102 [.agg (jv e),.agg (bD v)] (.agg (bD (fj e v))):=by
 have hw:v.s.size<=1099511627776/\v.ks.length<=1099511627776:=by
  obtain ⟨k,n,s,ks⟩:=v;have:=dV ks;rw [Val.wt] at hs;show s.size<=_/\ks.length<=_;omega
 have hf:=lS v.n e.cn hn hc;have hh:=wV v.s hw.1 e.cn hc.2;have UY:=qy e
 have hA:e.ck=1->v.k=2->(aY v.n e.cn).2=true->fj e v = .mk 10 (aY v.n e.cn).1 aq []:=fun h1 h2 h3=>by
  unfold fj;rw [ai ⟨h1,h2,h3⟩]
 have hB:e.ck=2->v.k=3->fj e v = .mk 11 0 (ba (headL e.cn.toNat (tx v.s))) []:=fun h1 h2=>by grind [fj]
 have hC:e.ck=3->v.k=5->fj e v = .mk 12 v.ks.length aq []:=fun h1 h2=>by grind [fj]
 have hD:¬ (e.ck=1/\v.k=2/\(aY v.n e.cn).2=true)->¬ (e.ck=2/\v.k=3)->¬ (e.ck=3/\v.k=5)->fj e v=Di e:=fun h1 h2 h3=>by grind [fj]
 generalize fj e v=C at hA hB hC hD ⊢;generalize hH:Di e=HV at UY hD;obtain ⟨ZK,hvn,xD,Ew⟩:=HV;clear hH;obtain ⟨en,eb,ea,et,qK,ew,dM,cY,sQ,gv⟩:=e;obtain ⟨k,n,s,ks⟩:=v;simp only [Val.k,Val.n,Val.s,Val.ks] at hA hB hC hD hf hh hw;have cw:=bK ks;generalize aY n cY=fl at hf hA hD;obtain ⟨fz,fb⟩:=fl;unfold wm at hf;simp only at hA hD;generalize headL cY.toNat (tx s)=H at hh hB;refine eG 57 [.cell 4 34] func102 rfl ntmps102 rfl fun _ _ _ _=>?_;refine br ?_ ?_<;>intro c
 ·have c:dM=1/\k=2:=by simpa [pickB_and] using c
  refine cP G8 hf ?_
  cases fb with
  | true=>
   rw [hA c.1 c.2 rfl];exact ⟨_,ax,rfl⟩
  | false=>
   rw [hD (by simp) (by omega) (by omega)];refine cP en103 UY ?_;exact ⟨_,ax,rfl⟩
 have c1:¬ (dM=1/\k=2):=by simpa [pickB_and] using c
 refine br ?_ ?_<;>intro c
 ·have c:dM=2/\k=3:=by simpa [pickB_and] using c
  refine cP Rp hh ?_;rw [hB c.1 c.2];exact ⟨_,ax,rfl⟩
 have c2:¬ (dM=2/\k=3):=by simpa [pickB_and] using c
 refine br ?_ ?_<;>intro c
 ·have c:dM=3/\k=5:=by simpa [pickB_and] using c
  rw [hC c.1 c.2,<- cw];exact ⟨_,ax,rfl⟩
 have c3:¬ (dM=3/\k=5):=by simpa [pickB_and] using c
 rw [hD (fun h=>c1 ⟨h.1,h.2.1⟩) c2 c3];refine cP en103 UY ?_;exact ⟨_,ax,rfl⟩
def JN (d:Nd) (v:Val) (s:dX):Option Nat:=(List.range v.ks.length).find? fun e=>nO (stpR d v e) s
section
variable {L:Nat} {ND:List Nd} (bF:∀ n∈ND,dg L ND.length n)
include bF
end
section
variable {L:Nat} {ND:List Nd} (bF:∀ n∈ND,dg L ND.length n)
include bF
end
theorem Qx {p:Nat->Bool}:∀ {n e:Nat},e < n->p e=true->(∀ e' < e,p e'=false)->(List.range n).find? p=some e
 | 0,e,h,_,_=>by omega
 | n + 1,e,h,h1,h2=>by simp_all
theorem Qy {p:Nat->Bool} {n:Nat} (h:∀ e < n,p e=false):(List.range n).find? p=none:=List.find?_eq_none.2 fun x hx=>by rw [h x (sU hx)];simp
abbrev kdSt (d:Nd) (v:Val) (s:dX) (e:Nat):St:=⟨[aD 3 0,aD 4 1,aD 5 2,au 7 e],[iS d,bD v,jY s],[]⟩
theorem Gm (d:Nd) (v:Val) (s:dX) (hv:v.wt<=1099511627776) (bi:∀ e:Nat,e < v.ks.length->EvP prog 143 [.agg (iS d),.agg (bD v),.v (.int .i64 e)] (.agg (jY (stpR d v e)))) :
  EvP prog 88 [.agg (iS d),.agg (bD v),.agg (jY s)] (.v (.int .i64 (oz (JN d v s)))):=by
 have hK:JN d v s=(List.range v.ks.length).find? fun e=>nO (stpR d v e) s:=rfl;rw [hK];generalize stpR d v=f at bi ⊢;obtain ⟨q,z,t,ks⟩:=v;obtain ⟨ag,aE,lo,hi,most,af,es⟩:=d;have nN:=dV ks;have cw:=bK ks;rw [Val.wt] at hv;obtain ⟨n,hn⟩:∃ n,n=ks.length:=⟨_,rfl⟩;have P5:jY s=jY s:=rfl;refine eG 22 [.tmp 6] func88 rfl ntmps88 rfl fun _ _ _ _=>?_;refine lI (fun j st=>∃ e:Nat,st=kdSt ⟨ag,aE,lo,hi,most,af,es⟩ (.mk q z t ks) s e/\e<=ks.length/\(∀ e' < e,nO (f e') s=false)/\j=ks.length - e) ⟨0,rfl,by omega,(fun _ h=>by omega),rfl⟩ (wkM wB) ?_;rintro _ st ⟨e,rfl,he,dE,rfl⟩;refine br ?_ ?_<;>intro hL
 ·have av:e < ks.length:=sV cw hL;have JA:=bi e av;generalize jh:f e=y at JA;refine dI ?_;refine cD Xn JA ?_;refine ⟨_,Qp _ _ y s,?_⟩;refine br ?_ ?_<;>intro c
  ·have c:nO y s=true:=c;have:=Qx (n:=ks.length) (p:=fun e=>nO (f e) s) av (by show nO (f e) s=true;rw [jh];exact c) dE;rw [show (Val.mk q z t ks).ks.length=ks.length from rfl,this];exact (rfl:_=_)
  ·have c:nO y s=false:=c
   exact rE ⟨_,by omega,e + 1,rfl,by omega,(fun e' h=>by
    rcases Nat.lt_or_ge e' e with h1 | h1
    ·exact dE e' h1
    ·have:e'=e:=by omega
     rw [this,jh];exact c),rfl⟩ (wkM (wB1 (nxt av (by omega))))
 ·have hge:ks.length<=e:=sV cw hL;have:=Qy (p:=fun e=>nO (f e) s) (n:=ks.length) fun e' h=>dE e' (by omega);rw [show (Val.mk q z t ks).ks.length=ks.length from rfl,this];exact (rfl:_=_)
section
variable (a b:Nat) (A B:List (List DV)) (rt:Int) {ND:List Nd} {L:Nat} (bF:∀ n∈ND,dg L ND.length n)
include bF
end
def DG (ND:List Nd) (f:Nat->Nat->Bool) (n rt:Nat) (o:Int) (v:Val):Option Val:=if 0<=o/\o < n/\fitV ND v rt=true then some (eraseV ND f n o.toNat v rt (iM f n)) else none
def Z6:Option Val->DV
 | some y=>.tup [.agg (bD y),.v (.bool true)]
 | none=>.tup [.agg (bD (.mk 0 0 aq [])),.v (.bool false)]
section
variable (lv:List Wd) (f:Nat->Nat->Bool) (ND:List Nd) (rt:Nat) (hL:dG f lv.length) (hn:lv.length<=32) (bF:∀ n∈ND,dg lv.length ND.length n) (bL:∀ n∈ND,n.aw.length<=1099511627776) (o8:∀ n∈ND,qw n)
include hL hn bF bL o8
end
theorem NG {d:Nd} {z:Int} {j:Nat} {e:Ed} (h:wv d (.mk 0 z aq []) j=e.to) (h0:0<=e.to) (c:d.ag=8):(0<=z/\z < d.aw.length)/\j=0:=by
 refine ⟨Qw h h0 c,?_⟩
 grind [wv]
abbrev SE (PC LC:List DV) (obs a:Nat) (v:Val) (d:Nd) (o:List Val) (q e:Nat):St:=
 ⟨[au 2 a,aD 4 0,aD 7 1,aD 8 2,aD 9 3,aD 11 4,aZ 31 4 (dVals v.ks),au 32 ((dVals v.ks).length),au 33 e],
  [SD PC LC obs,bD v,[.v (.int .i64 0),.v (.int .i64 0),.v (.string aq),.v (.slice none 0 0)],iS d,[.v (.int .i64 v.k),.v (.int .i64 v.n),.v (.string v.s),.sl 4 (dVals o) (some 0)]],[⟨q,34,4,none⟩]⟩
set_option maxHeartbeats 1000000 in
theorem sX {S:Sch} {ND:List Nd} {PC LC:List DV} (hP:jX S ND PC) (hR:F6 S.ae.length (aV S) (az S.ae) LC) (o8:∀ n∈ND,qw n) (bL:∀ n∈ND,n.aw.length<=1099511627776) (obs:Nat) (ho:obs < S.ae.length) :
  ∀ (k:Nat) (v:Val),v.wt<=k->v.wt<=1099511627776->rngW v->∀ (i:Int) (a:Nat),a < S.ae.length->fitV ND v i=true ->
   EvP prog 50 [.agg (SD PC LC obs),.v (.int .i64 i),.v (.int .i64 a),.agg (bD v)] (.agg (bD (eraseV ND (aV S) S.ae.length obs v i a)))
 | 0,v,h,_=>by have:=v.dP;omega
 | k + 1,v,h,hb=>fun hr i a ha zF=>by
  have ih:=sX hP hR o8 bL obs ho k;have hL:=hR.ok;obtain ⟨d,hF⟩:=nH hP.ok zF;obtain ⟨h0,hg⟩:=cC hF.ap;obtain ⟨j,rfl⟩:∃ j:Nat,i=j:=⟨i.toNat,by omega⟩;have hg:ND[j]? = some d:=sU hg;have mv:=mG hg;have hN:=hP.ok d mv;have gW:=hP.ap j d hg;have AZ:=fun {m:Nat} {x:Val}=>Qr (m:=m) (x:=x) hP.ok zF hF;have A0:=bL d mv;have NH:=o8 d mv;have Z7:=hF.leaf
  have hE:eraseV ND (aV S) S.ae.length obs v j a = .mk v.k v.n v.s (eraseVs ND (aV S) S.ae.length obs v.ks d v.n a 0):=by
   obtain ⟨q,z,s,ks⟩:=v;rw [eraseV,hF.ap];rfl
  rw [hE];have hOl:=sL (ND:=ND) (f:=aV S) (L:=S.ae.length) (obs:=obs) v.ks d v.n a 0;have hOa:=fun {m:Nat} {x:Val}=>wK (ND:=ND) (f:=aV S) (L:=S.ae.length) (obs:=obs) (ks:=v.ks) (d:=d) (z:=v.n) (a:=a) (j:=0) (m:=m) (x:=x);generalize eraseVs ND (aV S) S.ae.length obs v.ks d v.n a 0=O at hOl hOa ⊢;obtain ⟨vk,vn,vs,ks⟩:=v;have nN:=dV ks;have cw:=bK ks;rw [Val.wt] at h hb;have SG:=qv hr;simp only [Val.ks,Val.n,Val.k,Val.s] at AZ hOl hOa SG Z7 ⊢;obtain ⟨ag,aE,lo,hi,most,af,es⟩:=d;refine eG 75 [.cell 8 34] func50 rfl ntmps50 rfl fun _ _ _ _=>?_;refine cP zY gW ?_;refine aP (fun t st=>∃ e q:Nat,st=SE PC LC obs a (.mk vk vn vs ks) ⟨ag,aE,lo,hi,most,af,es⟩ (O.take e) q e/\q=e/\e<=ks.length/\t=ks.length - e) ks.length (SE PC LC obs a (.mk vk vn vs ks) ⟨ag,aE,lo,hi,most,af,es⟩ [] 0 0) (dJ 5 ⟨0,34,4,none⟩ rfl rfl rfl kZ rfl rfl gR) ⟨0,0,by rw [List.take_zero],rfl,by omega,by omega⟩ ?_;rintro t st ⟨e,q,rfl,hq,he,rfl⟩;refine br ?_ ?_<;>intro CE
  ·have av:e < ks.length:=by simpa [cw,Val.ks] using CE
   obtain ⟨x,hx⟩:=gX av;obtain ⟨ed,hK⟩:=AZ hx;have hm:=mG hx;have hwx:=gH hm;have xE:=jz SG hm;have hxe:=hOa hx;rw [Nat.zero_add,hK.fZ] at hxe;simp only at hxe;obtain ⟨h1,h2⟩:=Dj hN hK.mem hK.bare;have h5:5<=ag:=by grind
   have kJ:=wU hR PC obs a ha ⟨ag,aE,lo,hi,most,af,es⟩ (.mk vk vn vs ks) e ed hK.fZ hK.mem hN h5 (NG hK.to' h1) A0;have hU:=AR hL hN hK.mem ha;have wW:=oT hR PC obs (jZ (aV S) S.ae.length ⟨ag,aE,lo,hi,most,af,es⟩ ed a) ho hU;have hco:=na hR PC obs a ho ha ⟨ag,aE,lo,hi,most,af,es⟩ ed hN hK.mem;have hcv:=AY ed x (AV xE) (by omega) (NH.2.2 ed hK.mem);have hhv:=qy ed;have hrec:=ih x (by omega) (by omega) xE ed.to (jZ (aV S) S.ae.length ⟨ag,aE,lo,hi,most,af,es⟩ ed a) hU hK.fit;have hOl':(O.take e).length=e:=by rw [ez];omega
   have hdOl:(dVals (O.take e)).length=e:=by rw [bK,hOl']
   have lM:∀ y:Val,O[e]? = some y->dVals (O.take e) ++ [bD y]=dVals (O.take (e + 1)):=fun y hy=>FX hy;rw [HS] at hxe;generalize jZ (aV S) S.ae.length ⟨ag,aE,lo,hi,most,af,es⟩ ed a=U at kJ wW hrec hxe;generalize aV S U obs=b1 at wW hxe;generalize lZ:aV S (qm (aV S) S.ae.length a ed.seen.toNat) obs=b2 at hco hxe;generalize RW:decide (ed.ck≠0)=DC at hco;generalize eraseV ND (aV S) S.ae.length obs x ed.to U=Y1 at hrec hxe;generalize fj ed x=Y2 at hcv hxe;generalize Di ed=Y3 at hhv hxe;obtain ⟨xk,xn,xs,Z8⟩:=x;obtain ⟨y1k,y1n,y1s,y1ks⟩:=Y1;obtain ⟨y2k,y2n,y2s,y2ks⟩:=Y2;obtain ⟨y3k,y3n,y3s,y3ks⟩:=Y3;obtain ⟨en,eb,ea,et,qK,ew,dM,cY,sQ,gv⟩:=ed;refine iX (eF hx) ?_;refine cP W4 kJ ?_;refine cP Lc wW ?_
   cases b1 with
   | true=>
    simp only [reduceIte] at hxe;have iq:=lM _ hxe;refine cP en50 hrec ?_;refine ⟨by rw [hdOl,hq],⟨by simp [maxLen,hdOl];omega,by simp [hdOl];omega⟩,?_⟩;exact rE ⟨_,by omega,e + 1,q + 1,rfl,by omega,by omega,rfl⟩ (wkB 5 (wA2 (nxt av (by omega)) iq) (wB2 (nxt av (by omega)) iq))
   | false=>
    cases DC with
    | false=>
     have Km:dM=0:=by simpa using of_decide_eq_false RW
     simp [Km] at hxe;have iq:=lM _ hxe;refine cP en101 hco ?_;refine cP en103 hhv ?_;refine ⟨by rw [hdOl,hq],⟨by simp [maxLen,hdOl];omega,by simp [hdOl];omega⟩,?_⟩;exact rE ⟨_,by omega,e + 1,q + 1,rfl,by omega,by omega,rfl⟩ (wkB 5 (wA2 (nxt av (by omega)) iq) (wB2 (nxt av (by omega)) iq))
    | true=>
     have Km:=of_decide_eq_true RW
     cases b2 with
     | false=>
      simp at hxe;have iq:=lM _ hxe;refine cP en101 hco ?_;refine cP en103 hhv ?_;refine ⟨by rw [hdOl,hq],⟨by simp [maxLen,hdOl];omega,by simp [hdOl];omega⟩,?_⟩;exact rE ⟨_,by omega,e + 1,q + 1,rfl,by omega,by omega,rfl⟩ (wkB 5 (wA2 (nxt av (by omega)) iq) (wB2 (nxt av (by omega)) iq))
     | true=>
      have hck':¬ dM=0:=Km;simp [hck'] at hxe;have iq:=lM _ hxe;refine cP en101 hco ?_;refine cP en102 hcv ?_;refine ⟨by rw [hdOl,hq],⟨by simp [maxLen,hdOl];omega,by simp [hdOl];omega⟩,?_⟩;exact rE ⟨_,by omega,e + 1,q + 1,rfl,by omega,by omega,rfl⟩ (wkB 5 (wA2 (nxt av (by omega)) iq) (wB2 (nxt av (by omega)) iq))
  ·have hge:e=ks.length:=by have:=CE;simp [cw,Val.ks] at this;omega
   subst hge;rw [List.take_of_length_le (by omega)];exact ⟨_,ax,rfl⟩
section
variable {S:Sch} {ND:List Nd} {PC LC:List DV} (hP:jX S ND PC) (lQ:EvP prog 15 [.pt PC 0] (.pt LC 0)) (hR:F6 S.ae.length (aV S) (az S.ae) LC) (VI:∀ n∈ND,qw n) (bL:∀ n∈ND,n.aw.length<=1099511627776) (rt:Nat) (Gd:dL S=rt)
include lQ hR
theorem wX (o:Int):EvP prog 48 [.pt PC 0,.v (.int .i64 o)] (.tup [.agg (SD PC LC o),.v (.bool (decide (0<=o/\o < S.ae.length)))]):=by
 have hlen:=hR.len;refine eG 21 [.cell 4 119,.tmp 5] func48 rfl ntmps48 rfl fun _ _ _ _=>?_;refine cP Tr lQ ?_;refine br ?_ ?_<;>intro c
 ·have c:0<=o:=sU c;refine cP O7 hlen ?_;have hd:decide (0<=o/\o < (S.ae.length:Int))=decide (o < (S.ae.length:Int)):=decide_eq_decide.2 ⟨fun h=>h.2,fun h=>⟨c,h⟩⟩;rw [hd];exact ⟨_,ax,rfl⟩
 ·have c:¬ 0<=o:=sU c;rw [show decide (0<=o/\o < (S.ae.length:Int))=false from decide_eq_false (fun h=>c h.1)];exact ⟨_,ax,rfl⟩
include hP VI bL Gd
theorem DH (o:Int) (v:Val) (hv:v.wt<=1099511627776) (Hc:rngW v) :
  EvP prog 14 [.pt PC 0,.v (.int .i64 o),.agg (bD v)] (Z6 (DG ND (aV S) S.ae.length rt o v)):=by
 have CA:=wX lQ hR o;have fD:=hP.root;rw [Gd] at fD;have vA:=hR.bot;have hf:=oN hP _ v (aW _) hv rt;have hs:=fun (obs:Nat) (ho:obs < S.ae.length)=>sX hP hR VI bL obs ho _ v (aW _) hv Hc rt (iM (aV S) S.ae.length) (qp hR.ok);have hS:DG ND (aV S) S.ae.length rt o v=if 0<=o/\o < S.ae.length/\fitV ND v rt=true then some (eraseV ND (aV S) S.ae.length o.toNat v rt (iM (aV S) S.ae.length)) else none:=rfl
 generalize DG ND (aV S) S.ae.length rt o v=SF at hS ⊢;generalize fitV ND v rt=F at hf hs hS;obtain ⟨k,n,s,ks⟩:=v;by_cases ho:0<=o/\o < S.ae.length
 ·obtain ⟨ob,rfl⟩:∃ n:Nat,o=n:=⟨_,(Int.toNat_of_nonneg ho.1).symm⟩;have hs:=hs ob (by omega);rw [iT] at hS;rw [show decide (0<=(ob:Int)/\(ob:Int) < (S.ae.length:Int))=true from decide_eq_true ho] at CA;generalize eraseV ND (aV S) S.ae.length ob (.mk k n s ks) rt (iM (aV S) S.ae.length)=Y at hs hS;generalize iM (aV S) S.ae.length=bt at vA hs;obtain ⟨yk,yn,ys,yks⟩:=Y;refine eG 35 [.cell 6 34,.tmp 7] func14 rfl ntmps14 rfl fun _ _ _ _=>?_;refine cP Pc CA ?_;refine dI ?_;refine cD K8 fD ?_;refine cD TA hf ?_
  cases F with
  | true=>
   have hs:=hs rfl;rw [ai ⟨by omega,by omega,rfl⟩] at hS;rw [hS];refine dS ?_;refine cD K8 fD ?_;refine cD Pd vA ?_;refine cD en50 hs ?_;exact ⟨_,ax,rfl⟩
  | false=>
   rw [ah (by simp)] at hS;rw [hS];exact ⟨_,ax,rfl⟩
 ·rw [ah (fun h=>ho ⟨h.1,h.2.1⟩)] at hS;rw [hS];rw [show decide (0<=o/\o < (S.ae.length:Int))=false from decide_eq_false ho] at CA;refine eG 35 [.cell 6 34,.tmp 7] func14 rfl ntmps14 rfl fun _ _ _ _=>?_;refine cP Pc CA ?_;refine dI ?_;exact ⟨_,ax,rfl⟩
end
def bU (v:Val) (k n:Int) (s:ByteArray):Bool:=decide (v.k=k) && decide (v.n=n) && decide (v.s=s) && decide (v.ks.length=0)
def fK (e:Ed) (d:Nd) (v:Val):Bool:=
 if e.ck=1/\d.ag=2 then
  (if bU v 9 e.wide aq=true then !(aY d.lo e.cn).2
   else bU v 10 v.n aq && decide (v.n % e.cn=0) && (aY d.hi e.cn).2 && decide (v.n<=(aY d.hi e.cn).1) && (!(aY d.lo e.cn).2 || decide ((aY d.lo e.cn).1<=v.n)))
 else if e.ck=2/\d.ag=3 then bU v 11 0 v.s && decide ((v.s.size:Int)<=d.most) && decide (headL e.cn.toNat (tx v.s)=tx v.s)
 else if e.ck=3/\d.ag=5 then bU v 12 v.n aq && decide (0<=v.n) && decide (v.n<=d.most)
 else bU v 9 e.wide aq
def shellF (d:Nd) (v:Val):Bool:=
 if v.k≠d.ag∨v.s≠aq∨(d.ag≠8/\v.n≠0) then false
 else if d.ag=5 then decide ((v.ks.length:Int)<=d.most)
 else if d.ag=6 then decide (v.ks.length < 2)
 else if d.ag=7 then decide (v.ks.length=d.aw.length)
 else if v.n < 0∨(d.aw.length:Int)<=v.n then false
 else match d.aw[v.n.toNat]? with
  | none=>false
  | some e=>if e.bare=true then decide (v.ks.length=0) else decide (v.ks.length=1)
section
variable (ND:List Nd) (f:Nat->Nat->Bool) (L obs:Nat)
mutual
def seeV:Val->Int->Nat->Bool
 | .mk k n s ks,i,a=>match cu ND i with
  | none=>false
  | some d=>if d.ag < 5 then fitV ND (.mk k n s ks) i else shellF d (.mk k n s ks) && seeVs ks d n a 0
def seeVs:List Val->Nd->Int->Nat->Nat->Bool
 | [],_,_,_,_=>true
 | x :: r,d,z,a,j=>(match dW d z j with
  | none=>false
  | some e=>if mX f L obs d e a=2 then seeV x e.to (jZ f L d e a) else if mX f L obs d e a=1 then (match cu ND e.to with | none=>false | some t=>fK e t x) else bU x 9 e.wide aq) && seeVs r d z a (j + 1)
end
end
section
variable {ND:List Nd} {f:Nat->Nat->Bool} {L obs:Nat}
theorem Gn {ks:List Val} {d:Nd} {z:Int} {a j m:Nat} {x:Val} (h:ks[m]? = some x):seeVs ND f L obs (ks.drop m) d z a j=((match dW d z j with
  | none=>false
  | some e=>if mX f L obs d e a=2 then seeV ND f L obs x e.to (jZ f L d e a) else if mX f L obs d e a=1 then (match cu ND e.to with | none=>false | some t=>fK e t x) else bU x 9 e.wide aq) && seeVs ND f L obs (ks.drop (m + 1)) d z a (j + 1)):=by
 obtain ⟨hm,rfl⟩:=List.getElem?_eq_some_iff.1 h;rw [List.drop_eq_getElem_cons hm,seeVs]
structure UZ (ND:List Nd) (d:Nd) (z:Int) (j:Nat) (e:Ed):Prop where
 fZ:dW d z j=some e
 mem:e∈d.aw
 bare:e.bare=false
theorem kT {N:Nat} {d:Nd} (hN:dg N ND.length d) (h5:5<=d.ag) {v:Val} (h:shellF d v=true) {m:Nat} (hm:m < v.ks.length):∃ e,UZ ND d v.n m e:=by
 have h8:=hN.k8;unfold shellF at h;split at h
 ·cases h
 rename_i hc;have Tg:v.k=d.ag:=by omega
 rcases (show (d.ag=5∨d.ag=6)∨d.ag=7∨d.ag=8 by omega) with c | c | c
 ·obtain ⟨e,he,hb,_⟩:=hN.one c;refine ⟨e,?_,by rw [he];exact List.mem_singleton_self e,hb⟩
  grind [dW]
 ·rw [ah (by omega),ah (by omega),ai c,decide_eq_true_iff] at h;obtain ⟨e,he⟩:∃ e,d.aw[m]? = some e:=⟨_,gE (by omega)⟩;refine ⟨e,?_,mG he,?_⟩
  ·unfold dW;rw [ai c,he]
  ·cases hb:e.bare
   ·rfl
   ·have:=hN.bare e (mG he) hb;omega
 ·rw [ah (by omega),ah (by omega),ah (by omega)] at h;split at h
  ·cases h
  cases he:d.aw[v.n.toNat]? with
  | none=>rw [he] at h;cases h
  | some e=>
   rw [he] at h;simp only at h;refine ⟨e,?_,mG he,?_⟩
   ·grind [dW]
   all_goals grind
theorem wY {n u:Int} (hu:1<=u):(aY n u).2=true->(aY n u).1=n - n % u/\(aY n u).1 % u=0:=by
 unfold aY;rw [ah (by omega)];split
 ·intro h;cases h
 ·intro _;refine ⟨rfl,?_⟩;show (n - n % u) % u=0;rw [Int.sub_emod];simp
theorem cE {v:Val} {k n:Int} {s:ByteArray}:bU v k n s=true↔v = .mk k n s []:=by
 unfold bU;rw [aO,aO,aO,decide_eq_true_iff,decide_eq_true_iff,decide_eq_true_iff,decide_eq_true_iff,List.length_eq_zero_iff];obtain ⟨q,z,t,ks⟩:=v;rw [Val.mk.injEq];constructor
 ·intro ⟨⟨⟨a,b⟩,c⟩,d⟩;exact ⟨a,b,c,d⟩
 ·intro ⟨a,b,c,d⟩;exact ⟨⟨⟨a,b⟩,c⟩,d⟩
theorem wZ {n u:Int} (hu:1<=u):aY n u=if n - n % u < -9223372036854775808 then (0,false) else (n - n % u,true):=by
 unfold aY;rw [ah (by omega)]
end
theorem shellF_567 {d:Nd} {v:Val} (c:d.ag=5∨d.ag=6∨d.ag=7):shellF d v=(decide (v.s=aq) && decide (v.k=d.ag) && decide (v.n=0) && (if d.ag=5 then decide ((v.ks.length:Int)<=d.most) else if d.ag=6 then decide (v.ks.length < 2) else decide (v.ks.length=d.aw.length))):=by grind [shellF,aq]
theorem shellF_8 {d:Nd} {v:Val} (c:d.ag=8):shellF d v=if v.s≠aq∨v.k≠8∨v.n < 0∨(d.aw.length:Int)<=v.n then false else match d.aw[v.n.toNat]? with
  | none=>false
  | some e=>(decide (v.ks.length=0) == e.bare) && decide (v.ks.length < 2):=by
 unfold shellF;rw [c];by_cases h1:v.s=aq
 ·grind
 ·grind
theorem DI (d:Nd) (v:Val) (h5:5<=d.ag) (h8:d.ag<=8) (ie:d.aw.length<=1099511627776) (hv:v.wt<=1099511627776):EvP prog 145 [.agg (iS d),.agg (bD v)] (.v (.bool (shellF d v))):=by
 have hA:=fun c=>shellF_567 (d:=d) (v:=v) c;have hB:=fun c=>shellF_8 (d:=d) (v:=v) c;have VJ:d.ag=5->shellF d v=(decide (v.s=aq) && decide (v.k=5) && decide (v.n=0) && decide ((v.ks.length:Int)<=d.most)):=fun c=>by rw [hA (.inl c),ai c,c]
 have VK:d.ag=6->shellF d v=(decide (v.s=aq) && decide (v.k=6) && decide (v.n=0) && decide (v.ks.length < 2)):=fun c=>by rw [hA (.inr (.inl c)),ah (by omega),ai c,c]
 have VL:d.ag=7->shellF d v=(decide (v.s=aq) && decide (v.k=7) && decide (v.n=0) && decide (v.ks.length=d.aw.length)):=fun c=>by rw [hA (.inr (.inr c)),ah (by omega),ah (by omega),c]
 have hB1:d.ag=8->(v.s≠aq∨v.k≠8∨v.n < 0∨(d.aw.length:Int)<=v.n)->shellF d v=false:=fun c h=>by rw [hB c,ai h]
 have hB2:d.ag=8->¬ (v.s≠aq∨v.k≠8∨v.n < 0∨(d.aw.length:Int)<=v.n)->∀ e,d.aw[v.n.toNat]? = some e->shellF d v=((decide (v.ks.length=0) == e.bare) && decide (v.ks.length < 2)):=fun c h e he=>by rw [hB c,ah h,he]
 clear hA hB;generalize shellF d v=B at VJ VK VL hB1 hB2 ⊢;obtain ⟨ag,aE,lo,hi,most,VH,es⟩:=d;obtain ⟨k,z,s,ks⟩:=v;simp only [Val.k,Val.n,Val.s,Val.ks] at VJ VK VL hB1 hB2 h5 h8 ie;have mb:=bT es;have cw:=bK ks;refine eG 111 [.tmp 4] func145 rfl ntmps145 rfl fun _ _ _ _=>?_;refine br ?_ ?_<;>intro c
 ·have c:ag=5:=sU c;subst c;rw [VJ rfl];refine (bo ?_:);simp only [pickB_and,cw];rfl
 have c5:¬ ag=5:=sU c;refine br ?_ ?_<;>intro c
 ·have c:ag=6:=sU c;subst c;rw [VK rfl];refine (bo ?_:);simp only [pickB_and,cw];rw [show decide ((ks.length:Int)<=1)=decide (ks.length < 2) from decide_eq_decide.2 ⟨fun h=>by omega,fun h=>by omega⟩];rfl
 have c6:¬ ag=6:=sU c;refine br ?_ ?_<;>intro c
 ·have c:ag=7:=sU c;subst c;rw [VL rfl];refine (bo ?_:);simp only [pickB_and,cw,mb];rw [show decide ((ks.length:Int)=es.length)=decide (ks.length=es.length) from decide_eq_decide.2 ⟨fun h=>by omega,fun h=>by omega⟩];rfl
 have c7:¬ ag=7:=sU c;refine br ?_ ?_<;>intro c
 ·have c:s≠aq∨k≠8∨z < 0∨(es.length:Int)<=z:=by
   simp [aj,mb] at c;rcases c with ((c | c) | c) | c
   ·exact .inl c
   ·exact .inr (.inl c)
   ·exact .inr (.inr (.inl c))
   ·exact .inr (.inr (.inr c))
  rw [hB1 (by omega) c];exact (rfl:_=_)
 ·have c:¬ (s≠aq∨k≠8∨z < 0∨(es.length:Int)<=z):=by
   simp [aj,mb] at c;rintro (h | h | h | h)
   ·exact h c.1.1.1
   ·exact h c.1.1.2
   ·omega
   ·omega
  obtain ⟨e,he⟩:∃ e,es[z.toNat]? = some e:=⟨_,gE (by omega)⟩;rw [hB2 (by omega) c e he];obtain ⟨en,eb,ea,et,qK,ew,dM,cY,sQ,gv⟩:=e;refine dI ?_;refine iX (bm he) ?_;refine (bo ?_:);simp only [pickB_and,cw];rw [show decide ((ks.length:Int)=0)=decide (ks.length=0) from decide_eq_decide.2 ⟨fun h=>by omega,fun h=>by omega⟩,show decide ((ks.length:Int) < 2)=decide (ks.length < 2) from decide_eq_decide.2 ⟨fun h=>by omega,fun h=>by omega⟩];rfl
theorem gJ (v:Val) (k n:Int) (s:ByteArray):EvP prog 134 [.agg (bD v),.v (.int .i64 k),.v (.int .i64 n),.v (.string s)] (.v (.bool (bU v k n s))):=by
 obtain ⟨q,z,t,ks⟩:=v;have cw:=bK ks;refine eG 31 [.tmp 8] func134 rfl ntmps134 rfl fun _ _ _ _=>?_;refine (bo ?_:);unfold bU;simp only [pickB_and,cw];rw [show decide ((ks.length:Int)=0)=decide (ks.length=0) from decide_eq_decide.2 ⟨fun h=>by omega,fun h=>by omega⟩];rfl
theorem A1 (d:Nd) (v:Val) (h5:5<=d.ag) (h8:d.ag<=8) (ie:d.aw.length<=1099511627776) (hv:v.wt<=1099511627776):EvP prog 133 [.agg (iS d),.agg (bD v)] (.v (.bool (shellF d v))):=by
 have hS:shellF d v=if v.k≠d.ag∨v.s≠aq∨(d.ag≠8/\v.n≠0) then false
  else if d.ag=5 then decide ((v.ks.length:Int)<=d.most)
  else if d.ag=6 then decide (v.ks.length < 2)
  else if d.ag=7 then decide (v.ks.length=d.aw.length)
  else if v.n < 0∨(d.aw.length:Int)<=v.n then false
  else match d.aw[v.n.toNat]? with
   | none=>false
   | some e=>if e.bare=true then decide (v.ks.length=0) else decide (v.ks.length=1):=rfl
 generalize shellF d v=B at hS ⊢;have hA0:(v.k≠d.ag∨v.s≠aq∨(d.ag≠8/\v.n≠0))->B=false:=fun h=>by rw [hS,ai h]
 have VJ:¬ (v.k≠d.ag∨v.s≠aq∨(d.ag≠8/\v.n≠0))->d.ag=5->B=decide ((v.ks.length:Int)<=d.most):=fun h c=>by rw [hS,ah h,ai c]
 have VK:¬ (v.k≠d.ag∨v.s≠aq∨(d.ag≠8/\v.n≠0))->d.ag=6->B=decide (v.ks.length < 2):=fun h c=>by rw [hS,ah h,ah (by omega),ai c]
 have VL:¬ (v.k≠d.ag∨v.s≠aq∨(d.ag≠8/\v.n≠0))->d.ag=7->B=decide (v.ks.length=d.aw.length):=fun h c=>by rw [hS,ah h,ah (by omega),ah (by omega),ai c]
 have hA8:¬ (v.k≠d.ag∨v.s≠aq∨(d.ag≠8/\v.n≠0))->d.ag=8->(v.n < 0∨(d.aw.length:Int)<=v.n)->B=false:=fun h c g=>by rw [hS,ah h,ah (by omega),ah (by omega),ah (by omega),ai g]
 have hA9:¬ (v.k≠d.ag∨v.s≠aq∨(d.ag≠8/\v.n≠0))->d.ag=8->¬ (v.n < 0∨(d.aw.length:Int)<=v.n)->∀ e,d.aw[v.n.toNat]? = some e->B=if e.bare=true then decide (v.ks.length=0) else decide (v.ks.length=1):=fun h c g e he=>by rw [hS,ah h,ah (by omega),ah (by omega),ah (by omega),ah g,he]
 clear hS;obtain ⟨ag,aE,lo,hi,most,VH,es⟩:=d;obtain ⟨k,z,s,ks⟩:=v;simp only [Val.k,Val.n,Val.s,Val.ks] at hA0 VJ VK VL hA8 hA9 h5 h8 ie;have mb:=bT es;have cw:=bK ks;refine eG 77 [.tmp 4] func133 rfl ntmps133 rfl fun _ _ _ _=>?_;refine br ?_ ?_<;>intro c
 ·have c:k≠ag∨s≠aq∨(ag≠8/\z≠0):=by
   simp [aj,pickB_and] at c;rcases c with (c | c) | c
   ·exact .inl c
   ·exact .inr (.inl c)
   ·exact .inr (.inr c)
  rw [hA0 c];exact (rfl:_=_)
 have dE:¬ (k≠ag∨s≠aq∨(ag≠8/\z≠0)):=by
  simp [aj,pickB_and] at c;rintro (h | h | h)
  ·exact h c.1.1
  ·exact h c.1.2
  ·exact h.2 (c.2 h.1)
 refine br ?_ ?_<;>intro c
 ·have c:ag=5:=sU c;rw [VJ dE c];refine (bo ?_:);simp only [cw];exact decide_eq_decide.2 Iff.rfl
 have c5:¬ ag=5:=sU c;refine br ?_ ?_<;>intro c
 ·have c:ag=6:=sU c;rw [VK dE c];refine (bo ?_:);simp only [cw];exact decide_eq_decide.2 ⟨fun h=>by omega,fun h=>by omega⟩
 have c6:¬ ag=6:=sU c;refine br ?_ ?_<;>intro c
 ·have c:ag=7:=sU c;rw [VL dE c];refine (bo ?_:);simp only [cw,mb];exact decide_eq_decide.2 ⟨fun h=>by omega,fun h=>by omega⟩
 have c7:¬ ag=7:=sU c;refine br ?_ ?_<;>intro c
 ·have c:z < 0∨(es.length:Int)<=z:=by simpa [aj,mb] using c
  rw [hA8 dE (by omega) c];exact (rfl:_=_)
 have c:¬ (z < 0∨(es.length:Int)<=z):=by simpa [aj,mb] using c
 obtain ⟨e,he⟩:∃ e,es[z.toNat]? = some e:=⟨_,gE (by omega)⟩;rw [hA9 dE (by omega) c e he];refine iX (bm he) ?_;obtain ⟨en,eb,ea,et,qK,ew,dM,cY,sQ,gv⟩:=e
 cases eb with
 | true=>
  refine (bo ?_:);simp only [cw,reduceIte];exact decide_eq_decide.2 ⟨fun h=>by omega,fun h=>by omega⟩
 | false=>
  refine (bo ?_:);simp only [cw];rw [ah (by simp)];exact decide_eq_decide.2 ⟨fun h=>by omega,fun h=>by omega⟩
theorem Gp {v:Val} {k n:Int} {s:ByteArray} (h:0 < v.ks.length):bU v k n s=false:=by grind [bU]
theorem tmod_zero {z u:Int} (hu:1<=u):z.tmod u=0↔z % u=0:=by
 rw [<- Int.dvd_iff_tmod_eq_zero,<- Int.dvd_iff_emod_eq_zero]
theorem Gq {z u:Int} (hz : -9223372036854775808<=z) (hu:1<=u):((aY z u).2 && decide ((aY z u).1=z))=decide (z % u=0):=by
 rw [wZ hu];have h1:=Int.emod_nonneg z (b:=u) (by omega);by_cases c:z - z % u < -9223372036854775808
 ·rw [ai c,decide_eq_false (show ¬ z % u=0 by omega)];rfl
 ·rw [ah c];show (true && decide (z - z % u=z))=_;rw [Bool.true_and];exact decide_eq_decide.2 ⟨fun h=>by omega,fun h=>by omega⟩
theorem mayF_1 {e:Ed} {d:Nd} {v:Val} (c:e.ck=1/\d.ag=2):fK e d v=if bU v 9 e.wide aq=true then !(aY d.lo e.cn).2
  else bU v 10 v.n aq && decide (v.n % e.cn=0) && (aY d.hi e.cn).2 && decide (v.n<=(aY d.hi e.cn).1) && (!(aY d.lo e.cn).2 || decide ((aY d.lo e.cn).1<=v.n)):=by
 unfold fK;rw [ai c]
theorem mayF_2 {e:Ed} {d:Nd} {v:Val} (c:e.ck=2/\d.ag=3):fK e d v=(bU v 11 0 v.s && decide ((v.s.size:Int)<=d.most) && decide (headL e.cn.toNat (tx v.s)=tx v.s)):=by grind [fK]
theorem mayF_3 {e:Ed} {d:Nd} {v:Val} (c:e.ck=3/\d.ag=5):fK e d v=(bU v 12 v.n aq && decide (0<=v.n) && decide (v.n<=d.most)):=by grind [fK]
theorem mayF_0 {e:Ed} {d:Nd} {v:Val} (c1:¬ (e.ck=1/\d.ag=2)) (c2:¬ (e.ck=2/\d.ag=3)) (c3:¬ (e.ck=3/\d.ag=5)):fK e d v=bU v 9 e.wide aq:=by grind [fK]
theorem NI {e:Ed} {d:Nd} {v:Val} (h:0 < v.ks.length):fK e d v=false:=by grind [mayF_1,Gp,mayF_2,mayF_3,mayF_0]
theorem qz {v:Val} {k n:Int} {s:ByteArray} (h:v.ks=[]):bU v k n s=(decide (v.k=k) && decide (v.n=n) && decide (v.s=s)):=by
 unfold bU;rw [h];exact Bool.and_true _
theorem mayF_9 {e:Ed} {d:Nd} {v:Val} (c:e.ck=1/\d.ag=2) (F1:v.ks=[]) (h:v.k=9):fK e d v=(!(aY d.lo e.cn).2 && decide (v.n=e.wide) && decide (v.s=aq)):=by grind [mayF_1,qz,aq]
theorem mayF_10 {e:Ed} {d:Nd} {v:Val} (c:e.ck=1/\d.ag=2) (F1:v.ks=[]) (h:¬ v.k=9) (hn : -9223372036854775808<=v.n) (Bq:1<=e.cn) :
  fK e d v=(decide (v.k=10) && decide (v.s=aq) && (aY v.n e.cn).2 && decide ((aY v.n e.cn).1=v.n) && (aY d.hi e.cn).2 && (!(aY d.lo e.cn).2 || decide ((aY d.lo e.cn).1<=v.n)) && decide (v.n<=(aY d.hi e.cn).1)):=by
 rw [mayF_1 c,qz F1,qz F1,decide_eq_false h,<- Gq hn Bq];generalize (aY v.n e.cn).2=b1;generalize decide ((aY v.n e.cn).1=v.n)=b2;generalize (aY d.hi e.cn).2=b3;generalize decide (v.n<=(aY d.hi e.cn).1)=b4;generalize (!(aY d.lo e.cn).2 || decide ((aY d.lo e.cn).1<=v.n))=b5;generalize decide (v.k=10)=b6;generalize decide (v.s=aq)=b7;rw [show decide (v.n=v.n)=true from decide_eq_true rfl];cases b1<;>cases b2<;>cases b3<;>cases b4<;>cases b5<;>cases b6<;>cases b7<;>rfl
theorem A2 (e:Ed) (d:Nd) (v:Val) (F1:v.ks=[]) (Km:e.ck=1/\d.ag=2) (Bq:1<=e.cn) (hn : -9223372036854775808<=v.n/\v.n<=9223372036854775807) (hlo : -9223372036854775808<=d.lo/\d.lo<=9223372036854775807) (kW : -9223372036854775808<=d.hi/\d.hi<=9223372036854775807) (hc : -9223372036854775808<=e.cn/\e.cn<=9223372036854775807) :
  EvP prog 186 [.agg (jv e),.agg (iS d),.agg (bD v)] (.v (.bool (fK e d v))):=by
 have h1:=lS d.lo e.cn hlo hc;have h2:=lS v.n e.cn hn hc;have h3:=lS d.hi e.cn kW hc;have gM:=mayF_9 Km F1;have tI:=fun h=>mayF_10 Km F1 h hn.1 Bq;generalize fK e d v=B at gM tI ⊢;unfold wm at h1 h2 h3;generalize aY d.lo e.cn=L at h1 gM tI;generalize aY v.n e.cn=M at h2 tI;generalize aY d.hi e.cn=H at h3 tI;obtain ⟨L1,L2⟩:=L;obtain ⟨M1,M2⟩:=M;obtain ⟨H1,H2⟩:=H;obtain ⟨q,z,s,ks⟩:=v;obtain ⟨en,eb,ea,et,qK,ew,dM,cY,sQ,gv⟩:=e;obtain ⟨ag,aE,lo,hi,most,VH,es⟩:=d;refine eG 90 [.tmp 6] func186 rfl ntmps186 rfl fun _ _ _ _=>?_;refine cP G8 h1 ?_;refine br ?_ ?_<;>intro c
 ·have c:q=9:=sU c;rw [gM c];refine (bo ?_:);simp only [pickB_and];rfl
 ·have c:¬ q=9:=sU c;rw [tI c];refine cP G8 h2 ?_;refine cP G8 h3 ?_;refine (bo ?_:);simp only [pickB_and,aj];rfl
theorem zo (e:Ed) (d:Nd) (v:Val) (Bq:e.ck=1->1<=e.cn) (hn : -9223372036854775808<=v.n/\v.n<=9223372036854775807) (hlo : -9223372036854775808<=d.lo/\d.lo<=9223372036854775807) (kW : -9223372036854775808<=d.hi/\d.hi<=9223372036854775807) (hc : -9223372036854775808<=e.cn/\e.cn<=9223372036854775807) (hv:v.wt<=1099511627776) :
  EvP prog 146 [.agg (jv e),.agg (iS d),.agg (bD v)] (.v (.bool (fK e d v))):=by
 have Ir:=fun F1 Km=>A2 e d v F1 Km (Bq Km.1) hn hlo kW hc
 have bL:v.s.size<=1099511627776/\v.ks.length<=1099511627776:=by
  obtain ⟨k,n,s,ks⟩:=v;have:=dV ks;rw [Val.wt] at hv;exact ⟨by show s.size<=_;omega,by show ks.length<=_;omega⟩
 have hh:=wV v.s bL.1 e.cn hc.2;have hlen:=fun h=>NI (e:=e) (d:=d) (v:=v) h;have tI:=fun c=>mayF_2 (e:=e) (d:=d) (v:=v) c;have UH:=fun c=>mayF_3 (e:=e) (d:=d) (v:=v) c;have l8:=fun a b c=>mayF_0 (e:=e) (d:=d) (v:=v) a b c;have ky:=fun k n s h=>qz (v:=v) (k:=k) (n:=n) (s:=s) h;generalize fK e d v=B at Ir hlen tI UH l8 ⊢;have U0:(e.ck=2/\d.ag=3)->v.ks=[]->B=(decide (v.k=11) && decide (v.n=0) && decide ((v.s.size:Int)<=d.most) && decide (headL e.cn.toNat (tx v.s)=tx v.s)):=fun c h=>by grind
 have Z9:(e.ck=3/\d.ag=5)->v.ks=[]->B=(decide (v.k=12) && decide (v.s=aq) && decide (0<=v.n) && decide (v.n<=d.most)):=fun c h=>by grind
 have tu:¬ (e.ck=1/\d.ag=2)->¬ (e.ck=2/\d.ag=3)->¬ (e.ck=3/\d.ag=5)->v.ks=[]->B=(decide (v.k=9) && decide (v.n=e.wide) && decide (v.s=aq)):=fun a b c h=>by
  rw [l8 a b c,ky _ _ _ h]
 clear tI UH l8 ky;generalize headL e.cn.toNat (tx v.s)=HD at hh U0;obtain ⟨q,z,s,ks⟩:=v;simp only [Val.ks,Val.s] at Ir hlen U0 Z9 tu hh bL;have cw:=bK ks;obtain ⟨en,eb,ea,et,qK,ew,dM,cY,sQ,gv⟩:=e;obtain ⟨ag,aE,lo,hi,most,VH,es⟩:=d;refine eG 104 [.tmp 6] func146 rfl ntmps146 rfl fun _ _ _ _=>?_;refine br ?_ ?_<;>intro c
 ·have c:0 < ks.length:=sV cw c;rw [hlen c];exact (rfl:_=_)
 have c0:ks=[]:=by simp_all
 refine br ?_ ?_<;>intro c
 ·have c:dM=1/\ag=2:=by simpa [pickB_and] using c
  have Ir:=Ir c0 c;refine cP XF Ir ?_;exact (rfl:_=_)
 have c1:¬ (dM=1/\ag=2):=by simpa [pickB_and] using c
 refine br ?_ ?_<;>intro c
 ·have c:dM=2/\ag=3:=by simpa [pickB_and] using c
  have hB:B=((decide (q=11) && decide (z=0) && decide ((s.size:Int)<=most)) && decide (HD=tx s)):=U0 c c0;have hbt:decide (ba HD=s)=decide (HD=tx s):=decide_eq_decide.2 ⟨fun h=>by rw [<- h,mH],fun h=>by rw [h,Ck]⟩;refine dI ?_;refine br ?_ ?_<;>intro g
  ·have g:(decide (q=11) && decide (z=0) && decide ((s.size:Int)<=most))=true:=by simpa [pickB_and] using g
   rw [g,Bool.true_and] at hB;refine cD Rp hh ?_;refine (bo ?_:);rw [hB,<- hbt];rfl
  ·have g:(decide (q=11) && decide (z=0) && decide ((s.size:Int)<=most))=false:=by simpa [pickB_and] using g
   rw [g,Bool.false_and] at hB;rw [hB];exact (rfl:_=_)
 have c2:¬ (dM=2/\ag=3):=by simpa [pickB_and] using c
 refine br ?_ ?_<;>intro c
 ·have c:dM=3/\ag=5:=by simpa [pickB_and] using c
  rw [Z9 c c0];refine (bo ?_:);simp only [pickB_and];rfl
 have c3:¬ (dM=3/\ag=5):=by simpa [pickB_and] using c
 rw [tu c1 c2 c3 c0];refine (bo ?_:);simp only [pickB_and];rfl
theorem Gr (e:Ed) (d:Nd) (v:Val) (Bq:e.ck=1->1<=e.cn) (hn : -9223372036854775808<=v.n/\v.n<=9223372036854775807) (hlo : -9223372036854775808<=d.lo/\d.lo<=9223372036854775807) (kW : -9223372036854775808<=d.hi/\d.hi<=9223372036854775807) (hc : -9223372036854775808<=e.cn/\e.cn<=9223372036854775807) (hv:v.wt<=1099511627776) :
  EvP prog 137 [.agg (jv e),.agg (iS d),.agg (bD v)] (.v (.bool (fK e d v))):=by
 have h1:=qh d.lo e.cn hlo hc;have h3:=qh d.hi e.cn kW hc
 have bL:v.s.size<=1099511627776:=by
  obtain ⟨k,n,s,ks⟩:=v;rw [Val.wt] at hv;show s.size<=_;omega
 have hh:=kb e.cn.toNat v.s bL e.cn hc.2 rfl;have hp9:=gJ v 9 e.wide aq;have aaa:=gJ v 10 v.n aq;have aab:=gJ v 11 0 v.s;have aac:=gJ v 12 v.n aq;have gM:=fun c=>mayF_1 (e:=e) (d:=d) (v:=v) c;have tI:=fun c=>mayF_2 (e:=e) (d:=d) (v:=v) c;have UH:=fun c=>mayF_3 (e:=e) (d:=d) (v:=v) c;have l8:=fun a b c=>mayF_0 (e:=e) (d:=d) (v:=v) a b c;have hmz:e.ck=1->decide (v.n.tmod (max e.cn 1)=0)=decide (v.n % e.cn=0):=fun h=>by grind [tmod_zero]
 generalize fK e d v=B at gM tI UH l8 ⊢;generalize bU v 9 e.wide aq=P9 at hp9 gM l8;generalize bU v 10 v.n aq=P10 at aaa gM;generalize bU v 11 0 v.s=P11 at aab tI;generalize bU v 12 v.n aq=P12 at aac UH;unfold wm at h1 h3;generalize aY d.lo e.cn=L at h1 gM;generalize aY d.hi e.cn=H at h3 gM;generalize headL e.cn.toNat (tx v.s)=HD at hh tI;generalize decide (v.n % e.cn=0)=MZ at gM hmz;obtain ⟨L1,L2⟩:=L;obtain ⟨H1,H2⟩:=H;obtain ⟨q,z,s,ks⟩:=v;obtain ⟨en,eb,ea,et,qK,ew,dM,cY,sQ,gv⟩:=e;obtain ⟨ag,aE,lo,hi,most,VH,es⟩:=d;refine eG 131 [.tmp 6] func137 rfl ntmps137 rfl fun _ _ _ _=>?_;refine br ?_ ?_<;>intro c
 ·have c:dM=1/\ag=2:=by simpa [pickB_and] using c
  have hB:=gM c;have hmz:=hmz c.1;have SA:max cY 1≠0:=by omega
  refine cP Ru h1 ?_;refine cP Ru h3 ?_;refine cP yo hp9 ?_
  cases P9 with
  | true=>
   rw [ai rfl] at hB;rw [hB];exact (rfl:_=_)
  | false=>
   rw [ah (by simp)] at hB;refine cP yo aaa ?_
   cases P10 with
   | true=>
    refine ⟨⟨rfl,SA⟩,?_⟩;refine (bo ?_:);rw [hB];simp only [pickB_and,aj];have hmz':decide (z.tmod (max cY 1)=0)=MZ:=hmz;rw [hmz'];rfl
   | false=>
    rw [hB];exact (rfl:_=_)
 have c1:¬ (dM=1/\ag=2):=by simpa [pickB_and] using c
 refine br ?_ ?_<;>intro c
 ·have c:dM=2/\ag=3:=by simpa [pickB_and] using c
  have hB:B=(P11 && decide ((s.size:Int)<=most) && decide (HD=tx s)):=tI c;have hbt:decide (ba HD=s)=decide (HD=tx s):=decide_eq_decide.2 ⟨fun h=>by rw [<- h,mH],fun h=>by rw [h,Ck]⟩;refine dI ?_;refine cD yo aab ?_;refine br ?_ ?_<;>intro g
  ·have g:(P11 && decide ((s.size:Int)<=most))=true:=by simpa [pickB_and] using g
   rw [g,Bool.true_and] at hB;refine cD G7 hh ?_;refine (bo ?_:);rw [hB,<- hbt];rfl
  ·have g:(P11 && decide ((s.size:Int)<=most))=false:=by simpa [pickB_and] using g
   rw [g,Bool.false_and] at hB;rw [hB];exact (rfl:_=_)
 have c2:¬ (dM=2/\ag=3):=by simpa [pickB_and] using c
 refine br ?_ ?_<;>intro c
 ·have c:dM=3/\ag=5:=by simpa [pickB_and] using c
  rw [UH c];refine cP yo aac ?_;refine (bo ?_:);simp only [pickB_and];rfl
 have c3:¬ (dM=3/\ag=5):=by simpa [pickB_and] using c
 rw [l8 c1 c2 c3];refine cP yo hp9 ?_;exact (rfl:_=_)
end Go.Proofs.YtphonmiflfhdbaaGreat
