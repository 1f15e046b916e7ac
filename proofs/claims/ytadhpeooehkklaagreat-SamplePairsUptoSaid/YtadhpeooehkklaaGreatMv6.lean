/- Part 6 of the proof: tree's leaf, kids, Fits; tree.Fits; the document's To, Fits; Values as they are written: plain; tree.write, Raw; Paths: data, Step compared with itself; ref09.Begins, Same on the same path; ref25.Step; What is read of steps, and of steps with a value; How a list that came in is read; The least depths of the values of a plan's nodes: plain; Which nodes have several values: plain; How many unlike values nodes have: plain, as the document counts; The program's nodes, least depths; The document's least depths; fine; the chapter's example; The program's Depths; The law of least depths: fine, the example, the call returns true; The program's several, Several; The document's count, Many; the law of several values: the call returns true; The document's Many; the law of several values: the call returns true; First and second values: tags, sizes: plain; Regions that draw their order and only read: run with one state; Sample: the program's tags and sizes; Sample: the program's turn, part, first, changed; First and second values: the tables, the values: plain; Sample: the program's first, changed, second; Sample: the program's second; A region that draws its order, in which a new object may come at any time among calls: its run with the object made at each of these times serves every order. No condition. -/
import Derived.Test.YtadhpeooehkklaaGreatMv2
import Derived.Test.YtadhpeooehkklaaGreatMv3
import Derived.Test.YtadhpeooehkklaaGreatMv4
import Derived.Test.YtadhpeooehkklaaGreatMv5
set_option linter.all false
set_option maxRecDepth 100000
namespace Go.Proofs.YtadhpeooehkklaaGreat
open Go Go.RowKit Dv Go.Proofs.Tryz
def u5 (l:List Int):List (List DV):=l.map fun z=>[DV.v (.int .i64 z)]
theorem ng (l:List Int):(u5 l).length=l.length:=by simp [u5]
theorem JU {l:List Int} {i:Nat} {z:Int} (h:l[i]? = some z):(u5 l)[i]? = some [DV.v (.int .i64 z)]:=by simp [u5,h]
theorem yP (l:List Int) (z:Int):u5 l ++ [[DV.v (.int .i64 z)]]=u5 (l ++ [z]):=by simp [u5]
theorem tY:(⟨#[]⟩:ByteArray)=az:=rfl
theorem Lr (n:Nd) (v:Val):aV prog 53 [.agg (gG n),.agg (dVal v)] (.v (.bool (Bn n v))):=by
 have hbl:=cv n.af;obtain ⟨ag,ba,lo,hi,most,af,es⟩:=n;obtain ⟨q,z,s,ks⟩:=v;have bJ:=bV ks;simp only at hbl
 have hF:Bn ⟨ag,ba,lo,hi,most,af,es⟩ (.mk q z s ks)=if 0 < ks.length∨(q≠3/\s≠az)∨(q=3/\z≠0) then false
  else if ag=1 then decide (q=1) && (decide (z=0) || decide (z=1))
  else if ag=2 then decide (q=2) && decide (lo<=z) && decide (z<=hi)
  else if ag=3 then decide (q=3) && decide ((s.size:Int)<=most)
  else decide (q=4) && decide (0<=z) && decide (z < af.length):=rfl
 have hc:∀ b:Bool,b=pickB (pickB (decide (0 < ((dVals ks).length:Int))) true (pickB (!decide (q=3)) (!decide (s=⟨#[]⟩)) false)) true (pickB (decide (q=3)) (!decide (z=0)) false)->b=decide (0 < ks.length∨(q≠3/\s≠az)∨(q=3/\z≠0)):=fun b h=>by
  rw [h,bJ,tY,Bool.eq_iff_iff];simp [ay,aw,or_assoc]
 rw [hF];refine eG 94 [.tmp 4] func53 rfl ntmps53 rfl fun _ _ _ _=>?_;refine br ?_ ?_<;>intro c
 ·have c:=of_decide_eq_true ((hc _ rfl).symm.trans c);rw [ai c];exact (rfl:_=_)
 have c:=of_decide_eq_false ((hc _ rfl).symm.trans c);rw [ah c];refine br ?_ ?_<;>intro c1
 ·have c1:ag=1:=sU c1;refine (congrArg (fun b=>DV.v (.bool b)) ?_:_=_);simp [c1,aw,ay]
 have c1:¬ ag=1:=sU c1;refine br ?_ ?_<;>intro c2
 ·have c2:ag=2:=sU c2;refine (congrArg (fun b=>DV.v (.bool b)) ?_:_=_);simp [c2,aw,ay]
 have c2:¬ ag=2:=sU c2;refine br ?_ ?_<;>intro c3
 ·have c3:ag=3:=sU c3;refine (congrArg (fun b=>DV.v (.bool b)) ?_:_=_);simp [c3,aw,ay]
 have c3:¬ ag=3:=sU c3;refine (congrArg (fun b=>DV.v (.bool b)) ?_:_=_);simp [c1,c2,c3,aw,ay,hbl]
abbrev TZ (n:Nd) (v:Val) (l:List Int) (p:Bool) (kd mo:Int) (q e:Nat):St:=
 ⟨[(2,⟨[],.loc 0 0⟩),(3,⟨[],.loc 1 0⟩),(6,⟨[],.sl 1 (u5 l) (some 0)⟩),(7,⟨[],.v (.bool p)⟩),(8,⟨[],.v (.int .i64 kd)⟩),(9,⟨[],.v (.int .i64 mo)⟩),(38,⟨[],.v (.int .i64 v.ks.length)⟩),(39,⟨[],.v (.int .i64 e)⟩)],[gG n,dVal v],[⟨q,3,1,none⟩]⟩
abbrev aaj (n:Nd) (v:Val) (l:List Int) (p:Bool) (q e:Nat):St:=
 ⟨[(2,⟨[],.loc 0 0⟩),(3,⟨[],.loc 1 0⟩),(6,⟨[],.sl 1 (u5 l) (some 0)⟩),(7,⟨[],.v (.bool p)⟩),(67,⟨[],.sl 10 (cJ n.ap) none⟩),(68,⟨[],.v (.int .i64 (cJ n.ap).length)⟩),(69,⟨[],.v (.int .i64 e)⟩)],[gG n,dVal v],[⟨q,3,1,none⟩]⟩
theorem Bp {L N:Nat} {n:Nd} (hn:cz L N n) (h5:5<=n.ag) (v:Val) (hv:v.wt<=1099511627776) :
  aV prog 54 [.agg (gG n),.agg (dVal v)] (.tup [.sl 1 (u5 (kidsL n v)) none,.v (.bool (eD n v))]):=by
 have Fx:=hn.k8;have hone:=hn.one;have yQ:=hn.many;obtain ⟨ag,ba,lo,hi,most,af,es⟩:=n;obtain ⟨q,z,s,ks⟩:=v;have bJ:=bV ks;have ef:=aW es;have ej:=gP ks;rw [Val.wt] at hv;simp only at Fx h5 hone yQ
 have hp:∀ b:Bool,b=pickB (decide (s=⟨#[]⟩)) (pickB (decide (z=0)) true (decide (q=8))) false->b=eS (.mk q z s ks):=fun b h=>by
  rw [h];rw [aw,ay,tY];all_goals rfl
 refine eG 134 [.tmp 4,.tmp 5] func54 rfl ntmps54 rfl fun _ _ _ _=>?_;refine br ?_ ?_<;>intro c
 ·have c:ag=5:=sU c;have Wh:ag=5∨ag=6:=.inl c;obtain ⟨x,gT,_,_⟩:=hone Wh;refine br (fun _=>?_) (fun h=>absurd h (by simp [c]));refine dI ?_;refine br (fun h=>absurd h (by simp [c])) (fun _=>?_);obtain ⟨kd,mo,h1,h2,h3,h4⟩:∃ kd mo:Int,5=kd/\most=mo/\kd=ag/\mo=(if ag=6 then 1 else most):=⟨5,most,rfl,rfl,c.symm,by rw [ah (by omega)]⟩;have zG:(cJ es)[0]? = some (CU x):=by rw [gT];all_goals rfl
  have ht0:to0 ⟨ag,ba,lo,hi,most,af,es⟩=x.to:=by simp [to0,gT]
  refine lJ (fun e=>TZ ⟨ag,ba,lo,hi,most,af,es⟩ (.mk q z s ks) (List.replicate e x.to) (eS (.mk q z s ks)) kd mo e e) ks.length (cW 2 ⟨0,3,1,none⟩ rfl rfl rfl (by repeat' (first | exact rfl | exact aA rfl | exact cI (hp _ rfl) | exact aE h1 | exact aE h2 | exact aE (congrArg Nat.cast bJ) | exact cV (aU _) rfl | exact cV (aU _) rfl | refine ⟨_,_,rfl,?_,?_⟩)) rfl rfl (by repeat' (first | exact trivial | exact aA rfl | exact cI (hp _ rfl) | exact aE h1 | exact aE h2 | exact aE (congrArg Nat.cast bJ) | exact cV (aU _) rfl | refine ⟨⟨_,rfl,?_⟩,?_⟩))) ?_;intro e he;refine br ?_ ?_<;>intro hL
  ·have au:e < ks.length:=by have:=hL;simp [Val.ks] at this;exact this
   have c9:(u5 (List.replicate e x.to)).length=e:=by rw [ng,List.length_replicate]
   have du:u5 (List.replicate e x.to) ++ [[DV.v (.int .i64 x.to)]]=u5 (List.replicate (e + 1) x.to):=by rw [yP,List.replicate_succ']
   refine ⟨_,⟨by omega,zG⟩,?_⟩;refine ⟨c9,⟨by rw [c9];simp [maxLen];omega,by rw [c9];simp;omega⟩,?_⟩;exact rE ⟨_,by omega,e + 1,rfl,by omega,rfl⟩ (aq 2 rfl (gp (aK au (by omega)) du) rfl rfl rfl (wB2 (aK au (by omega)) du))
  ·have aS:e=ks.length:=by have:=hL;simp [Val.ks] at this;omega
   subst aS;have vH:kidsL ⟨ag,ba,lo,hi,most,af,es⟩ (.mk q z s ks)=List.replicate ks.length x.to:=by unfold kidsL;rw [ai Wh,ht0];all_goals rfl
   have c9:(u5 (List.replicate ks.length x.to)).length=ks.length:=by rw [ng,List.length_replicate]
   have hB:pickB (pickB (eS (.mk q z s ks)) (decide (q=kd)) false) (decide (((u5 (List.replicate ks.length x.to)).length:Int)<=mo)) false=eD ⟨ag,ba,lo,hi,most,af,es⟩ (.mk q z s ks):=by
    rw [c9,h3,h4,aw,aw];unfold eD;rw [ai Wh];rfl
   rw [vH];exact ⟨_,(gU hB),rfl⟩
 have c5:¬ ag=5:=sU c;refine br ?_ ?_<;>intro c
 ·have c:ag=6:=sU c;have Wh:ag=5∨ag=6:=.inr c;obtain ⟨x,gT,_,_⟩:=hone Wh;refine dI ?_;refine br (fun _=>?_) (fun h=>absurd h (by simp [c]));obtain ⟨kd,mo,h1,h2,h3,h4⟩:∃ kd mo:Int,6=kd/\1=mo/\kd=ag/\mo=(if ag=6 then 1 else most):=⟨6,1,rfl,rfl,c.symm,by rw [ai c]⟩;have zG:(cJ es)[0]? = some (CU x):=by rw [gT];all_goals rfl
  have ht0:to0 ⟨ag,ba,lo,hi,most,af,es⟩=x.to:=by simp [to0,gT]
  refine lJ (fun e=>TZ ⟨ag,ba,lo,hi,most,af,es⟩ (.mk q z s ks) (List.replicate e x.to) (eS (.mk q z s ks)) kd mo e e) ks.length (cW 2 ⟨0,3,1,none⟩ rfl rfl rfl (by repeat' (first | exact rfl | exact aA rfl | exact cI (hp _ rfl) | exact aE h1 | exact aE h2 | exact aE (congrArg Nat.cast bJ) | exact cV (aU _) rfl | exact cV (aU _) rfl | refine ⟨_,_,rfl,?_,?_⟩)) rfl rfl (by repeat' (first | exact trivial | exact aA rfl | exact cI (hp _ rfl) | exact aE h1 | exact aE h2 | exact aE (congrArg Nat.cast bJ) | exact cV (aU _) rfl | refine ⟨⟨_,rfl,?_⟩,?_⟩))) ?_;intro e he;refine br ?_ ?_<;>intro hL
  ·have au:e < ks.length:=by have:=hL;simp [Val.ks] at this;exact this
   have c9:(u5 (List.replicate e x.to)).length=e:=by rw [ng,List.length_replicate]
   have du:u5 (List.replicate e x.to) ++ [[DV.v (.int .i64 x.to)]]=u5 (List.replicate (e + 1) x.to):=by rw [yP,List.replicate_succ']
   refine ⟨_,⟨by omega,zG⟩,?_⟩;refine ⟨c9,⟨by rw [c9];simp [maxLen];omega,by rw [c9];simp;omega⟩,?_⟩;exact rE ⟨_,by omega,e + 1,rfl,by omega,rfl⟩ (aq 2 rfl (gp (aK au (by omega)) du) rfl rfl rfl (wB2 (aK au (by omega)) du))
  ·have aS:e=ks.length:=by have:=hL;simp [Val.ks] at this;omega
   subst aS;have vH:kidsL ⟨ag,ba,lo,hi,most,af,es⟩ (.mk q z s ks)=List.replicate ks.length x.to:=by unfold kidsL;rw [ai Wh,ht0];all_goals rfl
   have c9:(u5 (List.replicate ks.length x.to)).length=ks.length:=by rw [ng,List.length_replicate]
   have hB:pickB (pickB (eS (.mk q z s ks)) (decide (q=kd)) false) (decide (((u5 (List.replicate ks.length x.to)).length:Int)<=mo)) false=eD ⟨ag,ba,lo,hi,most,af,es⟩ (.mk q z s ks):=by
    rw [c9,h3,h4,aw,aw];unfold eD;rw [ai Wh];rfl
   rw [vH];exact ⟨_,(gU hB),rfl⟩
 have c6:¬ ag=6:=sU c;obtain ⟨hm64,hm8,_,_⟩:=yQ (by omega);refine br ?_ ?_<;>intro c
 ·have c7:ag=7:=sU c;refine lJ (fun e=>aaj ⟨ag,ba,lo,hi,most,af,es⟩ (.mk q z s ks) ((es.take e).map Ed.to) (eS (.mk q z s ks)) e e) es.length (cW 2 ⟨0,3,1,none⟩ rfl rfl rfl (by repeat' (first | exact rfl | exact aA rfl | exact cI (hp _ rfl) | exact cV (aU _) rfl | exact cV (aU _) rfl | refine ⟨_,_,rfl,?_,?_⟩)) rfl rfl (by repeat' (first | exact trivial | exact aA rfl | exact cI (hp _ rfl) | exact cV (aU _) rfl | refine ⟨⟨_,rfl,?_⟩,?_⟩))) ?_;intro e he;refine br ?_ ?_<;>intro hL
  ·have au:e < es.length:=by have:=hL;simp [ef] at this;exact this
   obtain ⟨x,hx⟩:=gX au;have c9:(u5 ((es.take e).map Ed.to)).length=e:=by rw [ng,List.length_map,zLenT];omega
   have du:u5 ((es.take e).map Ed.to) ++ [[DV.v (.int .i64 x.to)]]=u5 ((es.take (e + 1)).map Ed.to):=by rw [yP,dJ hx,List.map_append];all_goals rfl
   refine iX (aF hx) ?_;refine ⟨c9,⟨by rw [c9];simp [maxLen];omega,by rw [c9];simp;omega⟩,?_⟩;exact rE ⟨_,by omega,e + 1,rfl,by omega,rfl⟩ (aq 2 rfl (gp (aK au (by omega)) du) rfl rfl rfl (wB2 (aK au (by omega)) du))
  ·have aS:e=es.length:=sW ef hL;subst aS;rw [List.take_length];have vH:kidsL ⟨ag,ba,lo,hi,most,af,es⟩ (.mk q z s ks)=es.map Ed.to:=by unfold kidsL;rw [ah (by simp only;omega),ai c7]
   have c9:(u5 (es.map Ed.to)).length=es.length:=by rw [ng,List.length_map]
   have hB:pickB (pickB (eS (.mk q z s ks)) (decide (q=7)) false) (decide (((u5 (es.map Ed.to)).length:Int)=((dVals ks).length:Int))) false=eD ⟨ag,ba,lo,hi,most,af,es⟩ (.mk q z s ks):=by
    rw [c9,bJ,aw,aw];unfold eD;rw [ah (by simp only;omega),ai c7];have:((es.length:Int)=(ks.length:Int))↔es.length=ks.length:=by omega
    simp only [this,Val.k,Val.ks];rfl
   rw [vH];refine dI ?_;exact ⟨_,(gU hB),rfl⟩
 have c7:¬ ag=7:=sU c;have vH:kidsL ⟨ag,ba,lo,hi,most,af,es⟩ (.mk q z s ks)=(match pI ⟨ag,ba,lo,hi,most,af,es⟩ (.mk q z s ks) with | none=>[] | some e=>if e.bare=true then [] else [e.to]):=by unfold kidsL;rw [ah (by simp only;omega),ah c7];all_goals rfl
 have RK:eD ⟨ag,ba,lo,hi,most,af,es⟩ (.mk q z s ks)=(match pI ⟨ag,ba,lo,hi,most,af,es⟩ (.mk q z s ks) with | none=>false | some _=>eS (.mk q z s ks) && decide ((kidsL ⟨ag,ba,lo,hi,most,af,es⟩ (.mk q z s ks)).length=ks.length)):=by unfold eD;rw [ah (by simp only;omega),ah c7];all_goals rfl
 have hc:∀ b:Bool,b=pickB (pickB (!decide (q=8)) true (decide (z < 0))) true (decide (((cJ es).length:Int)<=z))->b = !decide (q=8/\0<=z/\z < es.length):=fun b h=>by
  rw [h,ef,ay,ay,Bool.eq_iff_iff];simp;omega
 refine br ?_ ?_<;>intro c
 ·have c:¬ (q=8/\0<=z/\z < es.length):=by have:=(hc _ rfl).symm.trans c;simpa only [Bool.not_eq_true',decide_eq_false_iff_not] using this
  have ht:pI ⟨ag,ba,lo,hi,most,af,es⟩ (.mk q z s ks)=none:=by show (if q=8/\0<=z/\z < es.length then es[z.toNat]? else none)=_;rw [ah c]
  rw [RK,vH,ht];exact ⟨_,ax,rfl⟩
 ·have c:q=8/\0<=z/\z < es.length:=by have:=(hc _ rfl).symm.trans c;simpa only [Bool.not_eq_false',decide_eq_true_eq] using this
  obtain ⟨x,hx⟩:∃ x,es[z.toNat]? = some x:=⟨_,gE (by omega)⟩;have ht:pI ⟨ag,ba,lo,hi,most,af,es⟩ (.mk q z s ks)=some x:=by show (if q=8/\0<=z/\z < es.length then es[z.toNat]? else none)=_;rw [ai c];exact hx
  rw [ht] at RK vH;refine iX (aF hx) ?_;refine br ?_ ?_<;>intro hb
  ·have hb:x.bare=false:=sU hb;have OT:kidsL ⟨ag,ba,lo,hi,most,af,es⟩ (.mk q z s ks)=[x.to]:=by rw [vH];simp [hb]
   have hB:pickB (eS (.mk q z s ks)) (decide ((1:Int)=((dVals ks).length:Int))) false=eD ⟨ag,ba,lo,hi,most,af,es⟩ (.mk q z s ks):=by
    rw [RK,OT,bJ,aw];have:((1:Int)=(ks.length:Int)) ↔ [x.to].length=ks.length:=by simp;omega
    simp only [this]
   rw [OT,<- hB];refine ⟨⟨by simp [maxLen],by simp⟩,?_⟩;refine dI ?_;exact ⟨_,(by repeat' (first | exact rfl | exact trivial | exact Or.inr (Or.inl ⟨_,rfl⟩) | exact Or.inr ⟨_,rfl⟩ | exact Or.inl ⟨rfl,rfl⟩ | exact Or.inl rfl | refine Or.inr ⟨_,_,rfl,Nat.zero_le _,rfl,?_⟩ | refine ⟨_,_,rfl,?_,?_⟩ | refine ⟨_,rfl,?_⟩ | exact congrArg (fun b=>DV.v (.bool (pickB b _ false))) (hp _ rfl) | refine Or.inr (Or.inr (Or.inr ⟨_,_,rfl,?_⟩)) | exact Or.inl rfl | refine Or.inr ?_)),rfl⟩
  ·have hb:x.bare=true:=sU hb;have OT:kidsL ⟨ag,ba,lo,hi,most,af,es⟩ (.mk q z s ks)=[]:=by rw [vH];simp [hb]
   have hB:pickB (eS (.mk q z s ks)) (decide ((0:Int)=((dVals ks).length:Int))) false=eD ⟨ag,ba,lo,hi,most,af,es⟩ (.mk q z s ks):=by
    rw [RK,OT,bJ,aw];have:((0:Int)=(ks.length:Int))↔([]:List Int).length=ks.length:=by simp;omega
    simp only [this]
   rw [OT,<- hB];refine dI ?_;exact ⟨_,(by repeat' (first | exact rfl | exact trivial | exact Or.inr (Or.inl ⟨_,rfl⟩) | exact Or.inr ⟨_,rfl⟩ | exact Or.inl ⟨rfl,rfl⟩ | exact Or.inl rfl | refine Or.inr ⟨_,_,rfl,Nat.zero_le _,rfl,?_⟩ | refine ⟨_,_,rfl,?_,?_⟩ | refine ⟨_,rfl,?_⟩ | exact congrArg (fun b=>DV.v (.bool (pickB b _ false))) (hp _ rfl) | refine Or.inr (Or.inr (Or.inr ⟨_,_,rfl,?_⟩)) | exact Or.inl rfl | refine Or.inr ?_)),rfl⟩
theorem Bq {n:Nd} {v:Val} (hk:5<=n.ag) (h:eD n v=true):(kidsL n v).length=v.ks.length:=by
 unfold eD at h;by_cases c:n.ag=5∨n.ag=6
 ·unfold kidsL;rw [ai c];simp
 rw [ah c] at h;by_cases c7:n.ag=7
 ·rw [ai c7] at h;unfold kidsL;rw [ah c,ai c7,List.length_map];simp at h;exact h.2
 rw [ah c7] at h
 cases ht:pI n v with
 | none=>rw [ht] at h;cases h
 | some e=>rw [ht] at h;simp only [aQ,decide_eq_true_eq] at h;exact h.2
theorem Ik {ND:List Nd} {ks:List Val} {l:List Int} {e:Nat} {x:Val} {i:Int} (h1:ks[e]? = some x) (h2:l[e]? = some i):fitVs ND (ks.drop e) (l.drop e)=(fitV ND x i && fitVs ND (ks.drop (e + 1)) (l.drop (e + 1))):=by
 rw [drop_cons h1,drop_cons h2,fitVs]
theorem ia {ND:List Nd} {i:Int} {d:Nd} (h:mf ND i=some d):0<=i/\ND[i.toNat]? = some d:=by
 unfold mf at h;split at h
 ·cases h
 ·exact ⟨by omega,h⟩
theorem yR {ND:List Nd} {i:Int} (h:mf ND i=none):i < 0∨(ND.length:Int)<=i:=by
 unfold mf at h;split at h
 ·left;assumption
 ·right;have:=List.getElem?_eq_none_iff.1 h;omega
abbrev tfSt (PC:List DV) (v:Val) (l:List Int) (e:Nat):St:=
 ⟨[(0,⟨[],.pt PC 0⟩),(5,⟨[],.loc 0 0⟩),(36,⟨[],.sl 1 (u5 l) none⟩),(37,⟨[],.v (.int .i64 l.length)⟩),(38,⟨[],.v (.int .i64 e)⟩)],[dVal v],[]⟩
theorem qG {S:Sch} {ND:List Nd} {PC:List DV} (hP:eZ S ND PC):∀ (k:Nat) (v:Val),v.wt<=k->v.wt<=1099511627776->∀ i:Int,aV prog 14 [.pt PC 0,.v (.int .i64 i),.agg (dVal v)] (.v (.bool (fitV ND v i)))
 | 0,v,h,_=>by have:=v.eO;omega
 | k + 1,.mk q z s ks,h,hb=>fun i=>by
  have ih:=qG hP k;have ej:=gP ks;have bJ:=bV ks;have gA:=hb;rw [Val.wt] at h hb;rw [fitV];have eY:=hP.av;have Wi:=hP.TY;have bw:=hP.ok
  cases hd:mf ND i with
  | none=>
   refine eG 53 [.tmp 6] func14 rfl ntmps14 rfl fun _ _ _ _=>?_;refine cP G8 (Wi i (yR hd)) ?_;exact (rfl:_=_)
  | some d=>
   obtain ⟨h0,hg⟩:=ia hd;obtain ⟨j,rfl⟩:∃ j:Nat,i=j:=⟨i.toNat,by omega⟩;have hg:ND[j]? = some d:=sU hg;have hN:=bw d (mG hg);have GF:=Lr d (.mk q z s ks);have EU:=fun h5=>Bp hN h5 (.mk q z s ks) gA;have hlen:=fun h5=>Bq (n:=d) (v:=.mk q z s ks) h5;simp only;obtain ⟨ag,ba,lo,hi,most,af,es⟩:=d;simp only at EU hlen;refine eG 53 [.tmp 6] func14 rfl ntmps14 rfl fun _ _ _ _=>?_;refine cP G8 (eY j _ hg) ?_;refine br ?_ ?_<;>intro c
   ·have c:ag < 5:=sU c;rw [ai c];refine cP en53 GF ?_;exact (rfl:_=_)
   have c:¬ ag < 5:=sU c;rw [ah c];have EU:=EU (by omega);have hlen:=hlen (by omega);generalize kidsL ⟨ag,ba,lo,hi,most,af,es⟩ (.mk q z s ks)=l at EU hlen ⊢;have Xc:=ng l;refine cP XX EU ?_
   cases hB:eD ⟨ag,ba,lo,hi,most,af,es⟩ (.mk q z s ks) with
   | false=>
    exact (rfl:_=_)
   | true=>
    have hlen:l.length=ks.length:=hlen hB;rw [Bool.true_and];refine lI (fun j st=>∃ e:Nat,st=tfSt PC (.mk q z s ks) l e/\e<=l.length/\fitVs ND ks l=fitVs ND (ks.drop e) (l.drop e)/\j=l.length - e) ⟨0,rfl,by omega,rfl,rfl⟩ (aj ⟨_,rfl⟩ wA rfl rfl rfl (dy Xc)) ?_;rintro _ st ⟨e,rfl,he,aP,rfl⟩;refine br ?_ ?_<;>intro hL
    ·have au:e < l.length:=by have:=hL;simp at this;exact this
     obtain ⟨x,hx⟩:∃ x,ks[e]? = some x:=⟨_,gE (by omega)⟩;obtain ⟨y,hy⟩:=gX au;have TB:=jR (mG hx);rw [Ik hx hy] at aP;have eo:=ih x (by omega) (by omega) y;obtain ⟨xk,xn,xs,xl⟩:=x;refine iX (JU hy) ?_;refine iX (iv hx) ?_;refine cP MO eo ?_;refine br ?_ ?_<;>intro g
     ·have g:fitV ND (.mk xk xn xs xl) y=false:=sU g;rw [aP,g];exact (rfl:_=_)
     ·have g:fitV ND (.mk xk xn xs xl) y=true:=sU g;rw [g,Bool.true_and] at aP;exact rE ⟨_,by omega,e + 1,rfl,by omega,aP,rfl⟩ (aj ⟨_,rfl⟩ wA rfl rfl rfl (dy (aK au (by omega))))
    ·have aS:e=l.length:=by have:=hL;simp at this;omega
     rw [List.drop_of_length_le (by omega),List.drop_of_length_le (by omega)] at aP;rw [aP];exact (rfl:_=_)
theorem Lt {L N:Nat} {n:Nd} (hn:cz L N n) (v:Val) (j:Nat):aV prog 137 [.agg (gG n),.agg (dVal v),.v (.int .i64 j)] (.v (.int .i64 (JR n v j))):=by
 have hone:=hn.one;obtain ⟨ag,ba,lo,hi,most,af,es⟩:=n;obtain ⟨q,z,s,ks⟩:=v;have ef:=aW es;simp only at hone
 have hF:JR ⟨ag,ba,lo,hi,most,af,es⟩ (.mk q z s ks) j=if ag=5 then (if (j:Int) < most then to0 ⟨ag,ba,lo,hi,most,af,es⟩ else -1)
  else if ag=6 then (if j < 1 then to0 ⟨ag,ba,lo,hi,most,af,es⟩ else -1)
  else if ag=7 then (match es[j]? with | some e=>e.to | none=>-1)
  else if ag=8 then (if j < 1/\0<=z/\z < es.length then (match es[z.toNat]? with | some e=>e.to | none=>-1) else -1)
  else -1:=rfl
 rw [hF];refine eG 66 [.tmp 6] func137 rfl ntmps137 rfl fun _ _ _ _=>?_;refine br ?_ ?_<;>intro c
 ·have c:ag=5:=sU c;rw [ai c];obtain ⟨x,gT,_,_⟩:=hone (.inl c);have zG:(cJ es)[0]? = some (CU x):=by rw [gT];all_goals rfl
  have ht0:to0 ⟨ag,ba,lo,hi,most,af,es⟩=x.to:=by simp [to0,gT]
  refine br ?_ ?_<;>intro g
  ·have g:(j:Int) < most:=sU g;rw [ai g,ht0];refine ⟨_,⟨by omega,zG⟩,?_⟩;exact (rfl:_=_)
  ·have g:¬ (j:Int) < most:=sU g;rw [ah g];exact (rfl:_=_)
 have c5:¬ ag=5:=sU c;rw [ah c5];refine br ?_ ?_<;>intro c
 ·have c:ag=6:=sU c;rw [ai c];obtain ⟨x,gT,_,_⟩:=hone (.inr c);have zG:(cJ es)[0]? = some (CU x):=by rw [gT];all_goals rfl
  have ht0:to0 ⟨ag,ba,lo,hi,most,af,es⟩=x.to:=by simp [to0,gT]
  refine br ?_ ?_<;>intro g
  ·have g:j < 1:=by have:=g;simp at this;omega
   rw [ai g,ht0];refine ⟨_,⟨by omega,zG⟩,?_⟩;exact (rfl:_=_)
  ·have g:¬ j < 1:=by have:=g;simp at this;omega
   rw [ah g];exact (rfl:_=_)
 have c6:¬ ag=6:=sU c;rw [ah c6];refine br ?_ ?_<;>intro c
 ·have c:ag=7:=sU c;rw [ai c];refine br ?_ ?_<;>intro g
  ·have g:j < es.length:=by have:=g;simp [ef] at this;exact this
   obtain ⟨x,hx⟩:∃ x,es[j]? = some x:=⟨_,gE g⟩;refine iX (aF hx) ?_;rw [hx];exact (rfl:_=_)
  ·have g:es.length<=j:=sW ef g;rw [cQ g];exact (rfl:_=_)
 have c7:¬ ag=7:=sU c;rw [ah c7];refine br ?_ ?_<;>intro c
 ·have c:ag=8:=sU c;rw [ai c]
  have hc:∀ b:Bool,b=pickB (pickB (decide ((j:Int) < 1)) (decide (0<=z)) false) (decide (z < ((cJ es).length:Int))) false->b=decide (j < 1/\0<=z/\z < es.length):=fun b h=>by
   rw [h,ef,aw,aw,Bool.eq_iff_iff];simp;omega
  refine br ?_ ?_<;>intro g
  ·have g:=of_decide_eq_true ((hc _ rfl).symm.trans g);obtain ⟨x,hx⟩:∃ x,es[z.toNat]? = some x:=⟨_,gE (by omega)⟩;rw [ai g,hx];refine iX (aF hx) ?_;exact (rfl:_=_)
  ·have g:=of_decide_eq_false ((hc _ rfl).symm.trans g);rw [ah g];exact (rfl:_=_)
 ·have c8:¬ ag=8:=sU c;rw [ah c8];exact (rfl:_=_)
structure Wj (ND:List Nd) (v:Val) (i:Int) (d:Nd):Prop where
 av:mf ND i=some d
 k:v.k=d.ag
 leaf:d.ag < 5->v.ks=[]
 enum:d.ag=4->0<=v.n/\v.n < d.af.length
 kids:5<=d.ag->(kidsL d v).length=v.ks.length/\fitVs ND v.ks (kidsL d v)=true
 tag:d.ag=8->∃ e,pI d v=some e/\d.ap[v.n.toNat]? = some e/\0<=v.n/\v.n < d.ap.length/\(e.bare=true↔v.ks=[])
 opt:d.ag=6->v.ks.length<=1
theorem tZ {L:Nat} {ND:List Nd} (bw:∀ n∈ND,cz L ND.length n) {v:Val} {i:Int} (h:fitV ND v i=true):∃ d,Wj ND v i d:=by
 obtain ⟨k,n,s,ks⟩:=v;rw [fitV] at h
 cases hd:mf ND i with
 | none=>rw [hd] at h;cases h
 | some d=>
  rw [hd] at h;simp only at h;have hN:=bw d (mG (ia hd).2);have jK:=hN.k1;have Fx:=hN.k8;by_cases h5:d.ag < 5
  ·rw [ai h5] at h;unfold Bn at h;by_cases hc:0 < (Val.mk k n s ks).ks.length∨((Val.mk k n s ks).k≠3/\(Val.mk k n s ks).s≠az)∨((Val.mk k n s ks).k=3/\(Val.mk k n s ks).n≠0)
   ·rw [ai hc] at h;cases h
   rw [ah hc] at h
   have yO:ks=[]:=by
    cases ks with
    | nil=>rfl
    | cons a b=>exact (hc (.inl (by simp [Val.ks]))).elim
   have hk:k=d.ag/\(d.ag=4->0<=n/\n < d.af.length):=by
    rcases (show d.ag=1∨d.ag=2∨d.ag=3∨d.ag=4 by omega) with c | c | c | c
    all_goals
     simp [c,Val.k,Val.n] at h;simp only [c];constructor
     ·first | exact of_decide_eq_true h.1 | exact of_decide_eq_true h.1.1
     ·first | (intro;omega) | exact fun _=>⟨of_decide_eq_true h.1.2,of_decide_eq_true h.2⟩
   exact ⟨d,{ av:=hd,k:=hk.1,leaf:=fun _=>yO,enum:=hk.2,kids:=fun h=>by omega,tag:=fun h=>by omega,opt:=fun h=>by omega }⟩
  ·rw [ah h5,aQ] at h;obtain ⟨hB,hf⟩:=h;have hlen:=Bq (by omega) hB;have hB2:=hB;unfold eD at hB;by_cases c:d.ag=5∨d.ag=6
   ·rw [ai c] at hB;simp only [aQ,decide_eq_true_eq] at hB;exact ⟨d,{ av:=hd,k:=hB.1.2,leaf:=fun h=>by omega,enum:=fun h=>by omega,kids:=fun _=>⟨hlen,hf⟩,tag:=fun h=>by omega,opt:=fun h=>by have:=hB.2;rw [ai h] at this;omega }⟩
   rw [ah c] at hB;by_cases c7:d.ag=7
   ·rw [ai c7] at hB;simp only [aQ,decide_eq_true_eq] at hB;exact ⟨d,{ av:=hd,k:=by rw [c7];exact hB.1.2,leaf:=fun h=>by omega,enum:=fun h=>by omega,kids:=fun _=>⟨hlen,hf⟩,tag:=fun h=>by omega,opt:=fun h=>by omega }⟩
   rw [ah c7] at hB
   cases ht:pI d (.mk k n s ks) with
   | none=>rw [ht] at hB;cases hB
   | some e=>
    have Tt:=ht;unfold pI at Tt;split at Tt
    ·rename_i hr;have ej:kidsL d (.mk k n s ks)=if e.bare=true then [] else [e.to]:=by unfold kidsL;rw [ah c,ah c7,ht]
     refine ⟨d,{ av:=hd,k:=by have:=hr.1;omega,leaf:=fun h=>by omega,enum:=fun h=>by omega,kids:=fun _=>⟨hlen,hf⟩,tag:=fun _=>⟨e,ht,Tt,hr.2.1,hr.2.2,?_⟩,opt:=fun h=>by omega }⟩;rw [ej] at hlen;constructor
     ·intro hb;rw [ai hb] at hlen;exact List.eq_nil_of_length_eq_zero hlen.symm
     ·intro yO;rw [yO] at hlen;cases hb:e.bare
      ·rw [hb] at hlen;simp at hlen
      ·rfl
    ·cases Tt
theorem Fy {ND:List Nd}:∀ {ks:List Val} {l:List Int} {e:Nat} {x:Val} {i:Int},fitVs ND ks l=true->ks[e]? = some x->l[e]? = some i->fitV ND x i=true
 | [],_,e,x,i,_,h,_=>by simp at h
 | _ :: _,[],e,x,i,_,_,h=>by simp at h
 | v :: r,j :: l,0,x,i,h,h1,h2=>by
  simp only [List.getElem?_cons_zero,oI] at h1 h2;subst h1 h2;rw [fitVs,aQ] at h;exact h.1
 | v :: r,j :: l,e + 1,x,i,h,h1,h2=>by
  simp only [List.getElem?_cons_succ] at h1 h2;rw [fitVs,aQ] at h;exact Fy h.2 h1 h2
structure dm where
 k:Int
 n:Int
 s:ByteArray
def j3 (x:dm):List DV:=[.v (.int .i64 x.k),.v (.int .i64 x.n),.v (.string x.s)]
def aT (l:List dm):List (List DV):=l.map j3
theorem eu (l:List dm):(aT l).length=l.length:=by simp [aT]
theorem dW {l:List dm} {e:Nat} {x:dm} (h:l[e]? = some x):(aT l)[e]? = some (j3 x):=by simp [aT,h]
def nh (a b:dm):Bool:=decide (a.k=b.k) && (decide (a.n=b.n) && decide (a.s=b.s))
theorem Fz {a b:dm}:nh a b=true↔a=b:=by
 obtain ⟨k,n,s⟩:=a;obtain ⟨k',n',s'⟩:=b;simp only [nh,aQ,decide_eq_true_eq,dm.mk.injEq]
def Il (a:dm):Array Value:=#[.int .i64 a.k,.int .i64 a.n,.string a.s]
theorem Lu (a b:dm) (w:World):(Op.equal 117 (.agg (Il a)) (.agg (Il b))).run prog w = .ok (nh a b) w:=by
 have hf:prog.underlying 117=some (.struct (prog.fieldsOf 117)):=by simp [Program.fieldsOf,Tryz.underlying117]
 have hf2:(prog.fieldsOf 117).toList=[⟨ "Kind",3,0,false, "", "",0⟩,⟨ "N",3,1,false, "", "",8⟩,⟨ "Name",9,2,false, "", "",16⟩]:=by simp [Program.fieldsOf,Tryz.underlying117]
 have hs:prog.stoodInHeld 117=false:=by kernel_rfl
 obtain ⟨d,hm⟩:∃ d,Op.maxDepth=d + 1 + 1:=⟨Op.maxDepth - 2,by decide⟩
 have q9:∀ cs:Array Value,∀ off v,cs[off]? = some v->(part 9 cs off).run prog w = .ok v w:=fun cs off v h=>by
  simp [part,Tryz.isAgg9,h]
 have q3:∀ cs:Array Value,∀ off v,cs[off]? = some v->(part 3 cs off).run prog w = .ok v w:=fun cs off v h=>by
  simp [part,Tryz.isAgg3,h]
 have g0:=fun x:dm=>q3 (Il x) 0 (.int .i64 x.k) rfl;have g1:=fun x:dm=>q3 (Il x) 1 (.int .i64 x.n) rfl;have g2:=fun x:dm=>q9 (Il x) 2 (.string x.s) rfl;have r9:=fun a b=>run_equalIn_string w d 9 a b Tryz.underlying9;have r3:=fun a b=>run_equalIn_int w d 3 .i64 .i64 a b Tryz.underlying3
 have e1:(a.s.toList == b.s.toList)=decide (a.s=b.s):=by
  rw [ByteArray.toList_eq,ByteArray.toList_eq];by_cases h:a.s=b.s
  ·rw [h];simp
  ·have:¬ a.s.data=b.s.data:=fun e=>h (ByteArray.ext e);simp [h,this]
 unfold Op.equal;rw [hm,run_equalIn_struct w (d + 1) 117 _ _ hf hs,hf2];simp only [Op.eqFields,ne_eq,String.reduceEq,not_false_eq_true,if_true,Sem.run_bind,g0,g1,g2,r9,r3,Result.andThen_ok];by_cases h1:a.k=b.k
 ·by_cases h2:a.n=b.n
  ·by_cases h3:a.s=b.s
   ·simp [h1,h2,h3,nh,Sem.run_pure,r3,r9,g1,g2]
   ·simp [h1,h2,h3,nh,Sem.run_pure,r3,r9,g1,g2,e1]
  ·simp [h1,h2,nh,Sem.run_pure,r3,g1]
 ·simp [h1,nh,Sem.run_pure]
theorem Lv (o:BinOp) (ho:o = .eql∨o = .neq) (w:World) (x y:Operand) (vs vs':Array Value):(eqGuard o 117 x y (.agg vs) (.agg vs')).run prog w = .ok () w:=by
 have h:prog.eqGuardType prog.depth 117=false:=by kernel_rfl
 rcases ho with rfl | rfl<;>simp [eqGuard,run_program,h]
theorem RL (x y:Operand) (a b:dm):B9 prog .eql x y 117 (j3 a) (j3 b) (nh a b):=
 ⟨[.int .i64 a.k,.int .i64 a.n,.string a.s],[.int .i64 b.k,.int .i64 b.n,.string b.s],rfl,rfl,fun w=>⟨Lv _ (.inl rfl) w x y _ _,by
  show ((do let r <- Op.equal 117 (.agg (Il a)) (.agg (Il b));pure (Value.bool r)):Sem Value).run prog w=_
  simp only [Sem.run_bind,Lu,Result.andThen_ok,Sem.run_pure]⟩⟩
def stpR (d:Nd) (v:Val) (j:Nat):dm:=
 if d.ag=5 then ⟨2,j,az⟩
 else if d.ag=6 then ⟨4,0,az⟩
 else if d.ag=7 then ⟨1,0,match d.ap[j]? with | some e=>e.name | none=>az⟩
 else ⟨5,0,match d.ap[v.n.toNat]? with | some e=>e.name | none=>az⟩
theorem Im:prog.cellsOf 117=3:=by kernel_rfl
def Io (p:List dm):Prop:=∀ s∈p,(-9223372036854775808<=s.k/\s.k<=9223372036854775807)/\(-9223372036854775808<=s.n/\s.n<=9223372036854775807)
def wtStp:List dm->Nat
 | []=>0
 | s :: p=>64 + s.s.size + wtStp p
theorem Bs:∀ p:List dm,64 * p.length<=wtStp p
 | []=>aU _
 | s :: p=>by
  have:=Bs p;rw [wtStp,List.length_cons];omega
theorem Bt:∀ {p:List dm} {s:dm},s∈p->s.s.size<=wtStp p
 | s :: p,x,h=>by
  rcases bL h with rfl | h
  ·rw [wtStp];omega
  ·have:=Bt h;rw [wtStp];omega
theorem FA {m:Nat}:∀ {es:List (List DV)},(∀ cs∈es,Typ prog m 117 cs)->∃ p:List dm,es=aT p/\Io p/\wtStp p<=wgEs es
 | [],h=>⟨[],rfl,(fun _ h=>by cases h),by simp [wtStp]⟩
 | cs :: r,h=>by
  obtain ⟨p,rfl,hr,hl⟩:=FA (es:=r) (fun c hc=>h c (dj _ hc));obtain ⟨m',rfl,hf⟩:=og Tryz.underlying117 (h cs (by simp));obtain ⟨a1,b1,rfl,h1,a2,b2,rfl,h2,a3,b3,rfl,h3,rfl⟩:=hf;obtain ⟨k,rfl,hk⟩:=oh h1;obtain ⟨z,rfl,hz⟩:=oh h2;obtain ⟨s,rfl⟩:=Js Tryz.underlying9 h3;refine ⟨⟨k,z,s⟩ :: p,rfl,fun x hx=>?_,?_⟩
  ·rcases bL hx with rfl | hx
   ·exact ⟨hk,hz⟩
   ·exact hr x hx
  ·simp only [wtStp,wgEs,fU,wgL,wgD] at *;omega
theorem typ_path {n:Nat} {ds:List DV} (h:Typ prog n 59 ds):∃ p:List dm,ds=[.sl 3 (aT p) none]/\Io p/\wtStp p<=wgL ds:=by
 obtain ⟨j,es,rfl,rfl,gT⟩:=xK Tryz.underlying59 h;obtain ⟨p,rfl,hr,hl⟩:=FA gT;rw [Im];exact ⟨p,rfl,hr,by simp only [wgL,wgD];omega⟩
def tyPS:List TypeId:=[59,117,9,3]
theorem tyPS_ok:∀ t∈tyPS,oe prog tyPS t=true:=by
 have h:(tyPS.all fun t=>oe prog tyPS t)=true:=by kernel_rfl
 exact fun t ht=>List.all_eq_true.1 h t ht
namespace Dv
open Go.ChangeShapes Go.WideShapes Go.ChangeAt
theorem arg_sl {H:Type} {enc:TypeId × Value->H} {P:Program} {W:World} {base:Nat} {S:List TypeId} {bk:DataW H->Nat} (Ma:Bk bk) (hS:∀ t∈S,oe P S t=true) {t e:TypeId} {v:Value} {d:DataW H} {ps:List MemPlace} (ht:t∈S) (hu:P.underlying t=some (.slice e))
  (hval:Value.okWide P W .any base t v) (h:DataW.Trod enc P W 0 (fun _=>true) true t v d ps):∃ n x,Rv (GD W) x v/\Typ P n t [x]/\wgL [x]<=64 * bk d:=by
 obtain ⟨a,len,cap,rfl⟩:=okWide_slice hu hval;obtain ⟨n,hn⟩:=h;obtain ⟨ds,h1,h2,h3,h4,h5⟩:=vX Ma hS n t _ _ ht hn
 cases ds with
 | nil=>simp only [RvL,Value.cells] at h1;cases h1
 | cons x r=>
  simp only [RvL,Value.cells] at h1;obtain ⟨u,s,h6,h7,h8⟩:=h1;have h6:Value.slice a len cap=u/\s=[]:=by simpa [eq_comm] using h6
  obtain ⟨rfl,rfl⟩:=h6
  cases r with
  | nil=>exact ⟨n,x,h7,h3,h4⟩
  | cons y r=>
   simp only [RvL] at h8;obtain ⟨_,_,h9,_⟩:=h8;cases h9
end Dv
def bZ (K:List Nat) (e:Ed):Nat:=K.getD e.to.toNat 0
def leastR (K:List Nat):List Ed->Nat->Nat
 | [],m=>m + 1
 | e :: r,m=>if bZ K e=0 then 0 else leastR K r (max m (bZ K e))
def ct (K:List Nat):List Ed->Nat->Nat
 | [],b=>if b=0 then 0 else b + 1
 | e :: r,b=>if e.bare=true then 1 else if 0 < bZ K e/\(b=0∨bZ K e < b) then ct K r (bZ K e) else ct K r b
def bm (n:Nd) (K:List Nat):Nat:=if n.ag=7 then leastR K n.ap 0 else if n.ag=8 then ct K n.ap 0 else 1
def depN (ND:List Nd):Nat->List Nat
 | 0=>List.replicate ND.length 0
 | d + 1=>ND.map fun n=>bm n (depN ND d)
theorem bH (ND:List Nd):∀ d,(depN ND d).length=ND.length
 | 0=>by simp [depN]
 | d + 1=>by simp [depN]
theorem depN_get (ND:List Nd) (d j:Nat):(depN ND (d + 1)).getD j 0=match ND[j]? with | none=>0 | some n=>bm n (depN ND d):=by
 simp only [depN,aH,List.getElem?_map];cases ND[j]?<;>rfl
def Lw (d:Nat) (A B:List Nat):Prop:=∀ j:Nat,(0 < A.getD j 0->B.getD j 0=A.getD j 0/\A.getD j 0<=d)/\(A.getD j 0=0->B.getD j 0=0∨B.getD j 0=d + 1)
theorem Da {d:Nat} {A B:List Nat} (h:Lw d A B) (j:Nat):B.getD j 0<=d + 1:=by
 obtain ⟨h1,h2⟩:=h j;rcases Nat.eq_zero_or_pos (A.getD j 0) with h3 | h3
 ·rcases h2 h3 with h4 | h4<;>omega
 ·have:=h1 h3;omega
theorem iw {K:List Nat}:∀ {es:List Ed} {m:Nat},leastR K es m=0↔∃ e∈es,bZ K e=0
 | [],m=>by simp [leastR]
 | e :: r,m=>by
  rw [leastR];by_cases h:bZ K e=0
  ·rw [ai h];exact ⟨fun _=>⟨e,by simp,h⟩,fun _=>rfl⟩
  ·rw [ah h,iw];constructor
   ·rintro ⟨x,hx,h2⟩;exact ⟨x,by simp [hx],h2⟩
   ·rintro ⟨x,hx,h2⟩;rcases bL hx with rfl | hx
    ·exact (h h2).elim
    ·exact ⟨x,hx,h2⟩
theorem u6 {d:Nat} {A B:List Nat} (hR:Lw d A B):∀ {es:List Ed} {m:Nat},0 < leastR A es m->leastR B es m=leastR A es m
 | [],m,_=>rfl
 | e :: r,m,h=>by
  rw [leastR] at h ⊢;rw [leastR];by_cases h0:bZ A e=0
  ·rw [ai h0] at h;omega
  rw [ah h0] at h ⊢;have h1:bZ B e=bZ A e:=((hR e.to.toNat).1 (by unfold bZ at h0;omega)).1;rw [h1,ah h0];exact u6 hR h
theorem yS {d:Nat} {A B:List Nat} (hR:Lw d A B):∀ {es:List Ed} {m:Nat},m<=d + 1->(m=d + 1∨∃ e∈es,bZ A e=0)->leastR B es m=0∨leastR B es m=d + 2
 | [],m,_,h=>by
  rcases h with h | ⟨e,he,_⟩
  ·right;rw [leastR,h]
  ·cases he
 | e :: r,m,hm,h=>by
  rw [leastR];by_cases h0:bZ B e=0
  ·rw [ai h0];exact .inl rfl
  rw [ah h0];have dK:bZ B e<=d + 1:=Da hR _;refine yS hR (by omega) ?_;rcases h with h | ⟨x,hx,h⟩
  ·left;omega
  ·rcases bL hx with rfl | hx
   ·left;have:=(hR x.to.toNat).2 h;unfold bZ at h0 dK ⊢;omega
   ·exact .inr ⟨x,hx,h⟩
theorem kU {d:Nat} {A B:List Nat} (hR:Lw d A B):∀ {es:List Ed} {a b:Nat},(0 < a->b=a/\a<=d)->(a=0->b=0∨b=d + 1) ->
  (0 < ct A es a->ct B es b=ct A es a)/\(ct A es a=0->ct B es b=0∨ct B es b=d + 2)
 | [],a,b,h1,h2=>by
  rw [ct,ct];rcases Nat.eq_zero_or_pos a with h | h
  ·rw [ai h];refine ⟨fun h=>by omega,fun _=>?_⟩;rcases h2 h with h3 | h3
   ·left;rw [ai h3]
   ·right;rw [ah (by omega)];omega
  ·obtain ⟨h3,h4⟩:=h1 h;rw [ah (by omega),ah (by omega),h3];exact ⟨fun _=>rfl,fun h=>by omega⟩
 | e :: r,a,b,h1,h2=>by
  rw [ct,ct];by_cases hb:e.bare=true
  ·rw [ai hb,ai hb];exact ⟨fun _=>rfl,fun h=>by omega⟩
  rw [ah hb,ah hb];obtain ⟨g1,g2⟩:=hR e.to.toNat;change (0 < bZ A e->bZ B e=bZ A e/\bZ A e<=d) at g1;change (bZ A e=0->bZ B e=0∨bZ B e=d + 1) at g2;by_cases c1:0 < bZ A e/\(a=0∨bZ A e < a)<;>by_cases c2:0 < bZ B e/\(b=0∨bZ B e < b)
  ·rw [ai c1,ai c2];exact kU hR (by omega) (by omega)
  ·rw [ai c1,ah c2];exact kU hR (by omega) (by omega)
  ·rw [ah c1,ai c2];exact kU hR (by omega) (by omega)
  ·rw [ah c1,ah c2];exact kU hR (by omega) (by omega)
theorem Ip {d:Nat} {A B:List Nat} (hR:Lw d A B) (n:Nd):(0 < bm n A->bm n B=bm n A)/\(bm n A=0->bm n B=0∨bm n B=d + 2):=by
 unfold bm;by_cases h7:n.ag=7
 ·rw [ai h7,ai h7];exact ⟨u6 hR,fun h=>yS hR (by omega) (.inr (iw.1 h))⟩
 rw [ah h7,ah h7];by_cases h8:n.ag=8
 ·rw [ai h8,ai h8];exact kU hR (by omega) (by omega)
 rw [ah h8,ah h8];exact ⟨fun _=>rfl,fun h=>by omega⟩
theorem FB (N:Nat) (e:Ed):bZ (List.replicate N 0) e=0:=by
 unfold bZ;rw [aH,List.getElem?_replicate];split<;>rfl
theorem u7 (N:Nat):∀ es:List Ed,ct (List.replicate N 0) es 0=0∨ct (List.replicate N 0) es 0=1
 | []=>.inl rfl
 | e :: r=>by
  rw [ct,FB];by_cases hb:e.bare=true
  ·rw [ai hb];exact .inr rfl
  ·rw [ah hb,ah (by omega)];exact u7 N r
theorem FC (N:Nat) (n:Nd):bm n (List.replicate N 0)=0∨bm n (List.replicate N 0)=1:=by
 unfold bm;by_cases h7:n.ag=7
 ·rw [ai h7]
  cases h:n.ap with
  | nil=>right;rfl
  | cons e r=>left;rw [leastR,FB,ai rfl]
 rw [ah h7];by_cases h8:n.ag=8
 ·rw [ai h8];exact u7 N n.ap
 ·rw [ah h8];exact .inr rfl
theorem Bu (ND:List Nd) (j:Nat):(depN ND 0).getD j 0=0:=by
 rw [depN,aH,List.getElem?_replicate];split<;>rfl
theorem oJ (ND:List Nd):∀ d,Lw d (depN ND d) (depN ND (d + 1))
 | 0=>fun j=>by
  refine ⟨fun h=>by rw [Bu] at h;omega,fun _=>?_⟩;rw [depN_get]
  cases ND[j]? with
  | none=>exact .inl rfl
  | some n=>exact FC _ n
 | d + 1=>fun j=>by
  have ih:=oJ ND d;rw [depN_get ND (d + 1),depN_get ND d]
  cases hn:ND[j]? with
  | none=>exact ⟨fun h=>by simp at h,fun _=>.inl rfl⟩
  | some n=>
   obtain ⟨h1,h2⟩:=Ip ih n;refine ⟨fun h=>⟨h1 h,?_⟩,h2⟩;have:=Da ih j;rw [depN_get ND d,hn] at this;exact this
theorem JV (ND:List Nd):∀ d j,(depN ND d).getD j 0<=d
 | 0,j=>by rw [Bu];omega
 | d + 1,j=>Da (oJ ND d) j
def eI (K:List Nat):List Bool:=K.map fun k=>decide (0 < k)
theorem gQ (K:List Nat) (j:Nat):(eI K).getD j false=decide (0 < K.getD j 0):=by
 unfold eI;simp only [aH,List.getElem?_map];cases K[j]?<;>simp
theorem gR (K:List Nat):(eI K).length=K.length:=by simp [eI]
theorem kV {A B:List Nat} (hl:A.length=B.length) (h:∀ j,A.getD j 0=B.getD j 0):A=B:=by
 refine List.ext_getElem hl fun j h1 h2=>?_;have:=h j;simp only [aH,gE h1,gE h2,Option.getD_some] at this;exact this
theorem yT (ND:List Nd) (d:Nat):AP (eI (depN ND d)) (eI (depN ND (d + 1))):=fun j h=>by
 rw [gQ] at h ⊢;have h:=of_decide_eq_true h;have:=((oJ ND d) j).1 h;exact decide_eq_true (by omega)
theorem Bv {ND:List Nd} {d:Nat} (h:eI (depN ND d)=eI (depN ND (d + 1))):depN ND (d + 1)=depN ND d:=by
 refine kV (by rw [bH,bH]) fun j=>?_;obtain ⟨h1,h2⟩:=(oJ ND d) j;rcases Nat.eq_zero_or_pos ((depN ND d).getD j 0) with h3 | h3
 ·have h4:=gQ (depN ND d) j;rw [h,gQ,h3] at h4;have:¬ 0 < (depN ND (d + 1)).getD j 0:=sU h4;omega
 ·exact (h1 h3).1
theorem Bw (ND:List Nd):∀ d,depN ND (d + 1)=depN ND d∨d<=kO (eI (depN ND d))
 | 0=>.inr (Nat.zero_le _)
 | d + 1=>by
  rcases Bw ND d with h | h
  ·left;show (ND.map fun n=>bm n (depN ND (d + 1)))=ND.map fun n=>bm n (depN ND d);rw [h]
  ·rcases (lM (by rw [gR,gR,bH,bH]) (yT ND d)).1 with h2 | h2
   ·left;have:=Bv h2;show (ND.map fun n=>bm n (depN ND (d + 1)))=ND.map fun n=>bm n (depN ND d);rw [this]
   ·exact .inr (by omega)
theorem depN_fix {ND:List Nd} {d:Nat} (h:depN ND (d + 1)=depN ND d):∀ k,depN ND (d + k)=depN ND d
 | 0=>rfl
 | k + 1=>by
  show (ND.map fun n=>bm n (depN ND (d + k)))=_;rw [depN_fix h k];exact h
theorem depN_end (ND:List Nd):depN ND (ND.length + 1)=depN ND ND.length:=by
 rcases Bw ND ND.length with h | h
 ·exact h
 ·rcases (lM (by rw [gR,gR,bH,bH]) (yT ND ND.length)).1 with h2 | h2
  ·exact Bv h2
  ·have:=rK (eI (depN ND (ND.length + 1)));rw [gR,bH] at this;omega
theorem RM {ND:List Nd} {d:Nat} (h:depN ND (d + 1)≠depN ND d):d < ND.length:=by
 rcases Nat.lt_or_ge d ND.length with h1 | h1
 ·exact h1
 ·obtain ⟨k,rfl⟩:∃ k,d=ND.length + k:=⟨d - ND.length,by omega⟩;exfalso;have h2:=depN_fix (depN_end ND) k;have h3:=depN_fix (depN_end ND) (k + 1);exact h (by rw [show ND.length + k + 1=ND.length + (k + 1) by omega,h3,h2])
theorem OU {ND:List Nd} {d:Nat} (h:depN ND (d + 1)=depN ND d):depN ND (d + 1)=depN ND ND.length:=by
 rcases Nat.lt_or_ge d ND.length with h1 | h1
 ·obtain ⟨k,hk⟩:∃ k,ND.length=d + k:=⟨ND.length - d,by omega⟩;rw [hk,depN_fix h k,h]
 ·obtain ⟨k,hk⟩:∃ k,d + 1=ND.length + k:=⟨d + 1 - ND.length,by omega⟩;rw [hk,depN_fix (depN_end ND) k]
def qU (K:List Bool) (e:Ed):Bool:=e.bare || K.getD e.to.toNat false
def Iq (n:Nd) (K:List Bool):Bool:=if n.ag < 7 then true else if n.ag=7 then n.ap.all (qU K) else n.ap.any (qU K)
theorem jD {K:List Nat}:∀ {es:List Ed} {b:Nat},0 < ct K es b↔(0 < b∨es.any (qU (eI K))=true)
 | [],b=>by
  rw [ct];by_cases h:b=0
  ·rw [ai h];simp [h]
  ·rw [ah h];simp;omega
 | e :: r,b=>by
  have hg:(eI K).getD e.to.toNat false=decide (0 < bZ K e):=gQ K _;rw [ct,List.any_cons];by_cases hb:e.bare=true
  ·rw [ai hb];simp [qU,hb]
  ·rw [ah hb]
   have vC:qU (eI K) e=decide (0 < bZ K e):=by
    unfold qU;rw [hg];simp [hb]
   rw [vC,Bool.or_eq_true,decide_eq_true_eq];split
   ·rename_i h1;rw [jD];constructor
    ·exact fun _=>.inr (.inl h1.1)
    ·exact fun _=>.inl h1.1
   ·rename_i h1;rw [jD];constructor
    ·rintro (h | h)
     ·exact .inl h
     ·exact .inr (.inr h)
    ·rintro (h | h | h)
     ·exact .inl h
     ·by_cases iE:b=0
      ·exact (h1 ⟨h,.inl iE⟩).elim
      ·left;omega
     ·exact .inr h
theorem Ir {n:Nd} {K:List Nat} (h8:n.ag<=8) (hb:∀ e∈n.ap,e.bare=true->n.ag=8):(0 < bm n K)↔Iq n (eI K)=true:=by
 unfold bm Iq;by_cases h7:n.ag=7
 ·rw [ai h7,ah (by omega),ai h7,List.all_eq_true];have:0 < leastR K n.ap 0↔¬ leastR K n.ap 0=0:=by omega
  rw [this,iw];constructor
  ·intro h e he
   have h1:e.bare=false:=by
    cases rf:e.bare
    ·rfl
    ·have:=hb e he rf;omega
   have h2:¬ bZ K e=0:=fun h3=>h ⟨e,he,h3⟩;have hg:(eI K).getD e.to.toNat false=decide (0 < bZ K e):=gQ K _;simp only [qU,h1,hg,Bool.false_or,decide_eq_true_eq];omega
  ·rintro h ⟨e,he,h3⟩
   have h1:e.bare=false:=by
    cases rf:e.bare
    ·rfl
    ·have:=hb e he rf;omega
   have hg:(eI K).getD e.to.toNat false=decide (0 < bZ K e):=gQ K _;have:=h e he;simp only [qU,h1,hg,Bool.false_or,decide_eq_true_eq] at this;omega
 rw [ah h7];by_cases h8':n.ag=8
 ·rw [ai h8',ah (by omega),ah h7,jD];simp
 ·rw [ah h8',ai (by omega)];simp
theorem OV {ND:List Nd} (hN:∀ n∈ND,n.ag<=8/\∀ e∈n.ap,e.bare=true->n.ag=8) (d:Nat) {i:Nat} {n:Nd} (h:ND[i]? = some n) :
  (depN ND (d + 1)).getD i 0=(if Iq n (eI (depN ND d))=true/\(depN ND d).getD i 0=0 then d + 1 else (depN ND d).getD i 0) /\
  (eI (depN ND (d + 1))).getD i false=Iq n (eI (depN ND d)):=by
 obtain ⟨h8,hb⟩:=hN n (mG h);have hp:=Ir (K:=depN ND d) h8 hb;have hg:(depN ND (d + 1)).getD i 0=bm n (depN ND d):=by rw [depN_get,h]
 obtain ⟨h1,h2⟩:=(oJ ND d) i;refine ⟨?_,?_⟩
 ·rcases Nat.eq_zero_or_pos ((depN ND d).getD i 0) with h3 | h3
  ·by_cases h4:Iq n (eI (depN ND d))=true
   ·rw [ai ⟨h4,h3⟩];have:=h2 h3;rw [<- hp,<- hg] at h4;omega
   ·rw [ah (fun h=>h4 h.1),h3];rw [<- hp,<- hg] at h4;omega
  ·rw [ah (by omega)];exact (h1 h3).1
 ·rw [gQ,hg,Bool.eq_iff_iff,decide_eq_true_eq];exact hp
def dN (D:List Nat) (e:Ed):Bool:=e.bare || decide (0 < bZ D e)
def manyN (D:List Nat) (es:List Ed):Nat:=es.countP (dN D)
def zY (D:List Nat) (K:List Bool) (e:Ed):Bool:=dN D e && (!e.bare && K.getD e.to.toNat false)
def eE (D:List Nat) (K:List Bool) (es:List Ed):Bool:=es.any (zY D K)
def ei (n:Nd) (D:List Nat) (K:List Bool):Bool:=
 if n.ag=1 then true
 else if n.ag=2 then decide (n.lo < n.hi)
 else if n.ag=3 then decide (0 < n.most)
 else if n.ag=4 then decide (1 < n.af.length)
 else if n.ag=5 then decide (0 < n.most) && decide (0 < manyN D n.ap)
 else if n.ag=6 then decide (0 < manyN D n.ap)
 else if n.ag=7 then eE D K n.ap && decide (manyN D n.ap=n.ap.length)
 else eE D K n.ap || decide (1 < manyN D n.ap)
def sevN (ND:List Nd) (D:List Nat):Nat->List Bool
 | 0=>List.replicate ND.length false
 | t + 1=>ND.map fun n=>ei n D (sevN ND D t)
theorem iO (ND:List Nd) (D:List Nat):∀ t,(sevN ND D t).length=ND.length
 | 0=>by simp [sevN]
 | t + 1=>by simp [sevN]
theorem sevN_get (ND:List Nd) (D:List Nat) (t j:Nat):(sevN ND D (t + 1)).getD j false=match ND[j]? with | none=>false | some n=>ei n D (sevN ND D t):=by
 simp only [sevN,aH,List.getElem?_map];cases ND[j]?<;>rfl
theorem FD {D:List Nat} {A B:List Bool} (h:AP A B) {es:List Ed} (hm:eE D A es=true):eE D B es=true:=by
 unfold eE at hm ⊢;rw [List.any_eq_true] at hm ⊢;obtain ⟨e,he,h1⟩:=hm;refine ⟨e,he,?_⟩;unfold zY at h1 ⊢;simp only [aQ] at h1 ⊢;exact ⟨h1.1,h1.2.1,h _ h1.2.2⟩
theorem Db {D:List Nat} {A B:List Bool} (h:AP A B) (n:Nd) (hm:ei n D A=true):ei n D B=true:=by
 unfold ei at hm ⊢;by_cases c1:n.ag=1
 ·rw [ai c1]
 rw [ah c1] at hm ⊢;by_cases c2:n.ag=2
 ·rw [ai c2] at hm ⊢;exact hm
 rw [ah c2] at hm ⊢;by_cases c3:n.ag=3
 ·rw [ai c3] at hm ⊢;exact hm
 rw [ah c3] at hm ⊢;by_cases c4:n.ag=4
 ·rw [ai c4] at hm ⊢;exact hm
 rw [ah c4] at hm ⊢;by_cases c5:n.ag=5
 ·rw [ai c5] at hm ⊢;exact hm
 rw [ah c5] at hm ⊢;by_cases c6:n.ag=6
 ·rw [ai c6] at hm ⊢;exact hm
 rw [ah c6] at hm ⊢;by_cases c7:n.ag=7
 ·rw [ai c7] at hm ⊢;rw [aQ] at hm ⊢;exact ⟨FD h hm.1,hm.2⟩
 rw [ah c7] at hm ⊢;rw [Bool.or_eq_true] at hm ⊢;exact hm.imp (FD h) id
theorem Dc (ND:List Nd) (D:List Nat):∀ t,AP (sevN ND D t) (sevN ND D (t + 1))
 | 0=>fun j h=>by
  rw [sevN,aH,List.getElem?_replicate] at h;split at h<;>cases h
 | t + 1=>fun j h=>by
  rw [sevN_get] at h ⊢
  cases hn:ND[j]? with
  | none=>rw [hn] at h;cases h
  | some n=>
   rw [hn] at h;exact Db (Dc ND D t) n h
theorem Bz (ND:List Nd) (D:List Nat):∀ t,sevN ND D (t + 1)=sevN ND D t∨t<=kO (sevN ND D t)
 | 0=>.inr (Nat.zero_le _)
 | t + 1=>by
  rcases Bz ND D t with h | h
  ·left;show (ND.map fun n=>ei n D (sevN ND D (t + 1)))=ND.map fun n=>ei n D (sevN ND D t);rw [h]
  ·rcases (lM (by rw [iO,iO]) (Dc ND D t)).1 with h2 | h2
   ·left;show (ND.map fun n=>ei n D (sevN ND D (t + 1)))=ND.map fun n=>ei n D (sevN ND D t);rw [<- h2]
   ·exact .inr (by omega)
theorem OW (ND:List Nd) (D:List Nat):sevN ND D (ND.length + 1)=sevN ND D ND.length:=by
 rcases Bz ND D ND.length with h | h
 ·exact h
 ·rcases (lM (by rw [iO,iO]) (Dc ND D ND.length)).1 with h2 | h2
  ·exact h2.symm
  ·have:=rK (sevN ND D (ND.length + 1));rw [iO] at this;omega
def fq (ND:List Nd) (D:List Nat):List Bool:=sevN ND D ND.length
theorem oK (ND:List Nd) (D:List Nat):(ND.map fun n=>ei n D (fq ND D))=fq ND D:=OW ND D
theorem yU (ND:List Nd) (D:List Nat):∀ k,sevN ND D (ND.length + k)=fq ND D
 | 0=>rfl
 | k + 1=>by
  show (ND.map fun n=>ei n D (sevN ND D (ND.length + k)))=_;rw [yU ND D k,oK]
theorem u9 {ND:List Nd} {D:List Nat} {K:List Bool} (h:∀ j n,ND[j]? = some n->ei n D K=true->K.getD j false=true):∀ t,AP (sevN ND D t) K
 | 0=>fun j hj=>by
  rw [sevN,aH,List.getElem?_replicate] at hj;split at hj<;>cases hj
 | t + 1=>fun j hj=>by
  rw [sevN_get] at hj
  cases hn:ND[j]? with
  | none=>rw [hn] at hj;cases hj
  | some n=>
   rw [hn] at hj;exact h j n hn (Db (u9 h t) n hj)
theorem RN {ND:List Nd} {D:List Nat} {K:List Bool} (hl:K.length=ND.length) (h1:AP K (fq ND D)) (h:∀ j n,ND[j]? = some n->ei n D K=true->K.getD j false=true):K=fq ND D:=
 xU (by rw [hl,fq,iO]) h1 (u9 h _)
theorem OX {ND:List Nd} {D:List Nat} {K:List Bool} (h1:AP K (fq ND D)) {i:Nat} {n:Nd} (hn:ND[i]? = some n) (h2:ei n D K=true):AP (K.set i true) (fq ND D):=fun j hj=>by
 by_cases jF:i=j
 ·subst jF;have:=Db h1 n h2;have h3:=sevN_get ND D ND.length i;rw [hn] at h3;rw [<- oK];show (sevN ND D (ND.length + 1)).getD i false=true;rw [h3];exact this
 ·refine h1 j ?_;rw [aH,List.getElem?_set_ne jF] at hj;rw [aH];exact hj
theorem OY {K:List Bool} {i:Nat} (hi:i < K.length) (h:K.getD i false=false):kO K < kO (K.set i true):=by
 have dK:AP K (K.set i true):=fun j hj=>by
  by_cases jF:i=j
  ·subst jF;rw [aH,cO hi];rfl
  ·rw [aH,List.getElem?_set_ne jF,<- aH];exact hj
 rcases (lM (by simp) dK).1 with h2 | h2
 ·rw [h2,aH,cO hi] at h;cases h
 ·exact h2
def iU (n:Nat):Nat:=if 2 < n then 2 else n
theorem wo (n:Nat):iU n=min 2 n:=by unfold iU;split<;>omega
def ua (K:List Nat) (e:Ed):Nat:=if e.bare=true then 1 else bZ K e
def sumC (K:List Nat):List Ed->Nat->Nat
 | [],a=>a
 | e :: r,a=>sumC K r (iU (a + ua K e))
def qH (K:List Nat):List Ed->Nat->Nat
 | [],a=>a
 | e :: r,a=>qH K r (iU (a * ua K e))
def ib (n:Nd) (K:List Nat):Nat:=
 if n.ag=1 then 2
 else if n.ag=2 then (if n.lo < n.hi then 2 else 1)
 else if n.ag=3 then iU (1 + n.most.toNat)
 else if n.ag=4 then iU n.af.length
 else if n.ag=5 then (if n.most=0 then 1 else iU (1 + sumC K n.ap 0))
 else if n.ag=6 then iU (1 + sumC K n.ap 0)
 else if n.ag=7 then qH K n.ap 1
 else sumC K n.ap 0
def qF (d:Nat) (s:Bool):Nat:=if d=0 then 0 else if s=true then 2 else 1
def qL (D:List Nat) (S:List Bool):List Nat:=(List.range D.length).map fun i=>qF (D.getD i 0) (S.getD i false)
theorem Is (D:List Nat) (S:List Bool):(qL D S).length=D.length:=by simp [qL]
theorem Dd (D:List Nat) (S:List Bool) (j:Nat):(qL D S).getD j 0=qF (D.getD j 0) (S.getD j false):=by
 unfold qL;rw [aH,List.getElem?_map];by_cases h:j < D.length
 ·rw [List.getElem?_range h];all_goals rfl
 ·rw [cQ (sU h),aH (l:=D),cQ (by omega)];all_goals rfl
theorem OZ (D:List Nat) (S:List Bool) (e:Ed):ua (qL D S) e=if dN D e=true then (if zY D S e=true then 2 else 1) else 0:=by
 unfold ua zY dN;by_cases hb:e.bare=true
 ·rw [ai hb,hb];simp
 ·have hb:e.bare=false:=sU hb;rw [ah (by rw [hb];simp),hb];unfold bZ;rw [Dd];unfold qF;by_cases h0:D.getD e.to.toNat 0=0
  ·rw [ai h0,h0];simp
  ·rw [ah h0];generalize D.getD e.to.toNat 0=d at h0 ⊢;generalize S.getD e.to.toNat false=s;have:0 < d:=by omega
   simp [this]
def ub (D:List Nat) (S:List Bool) (es:List Ed):Nat:=(es.map (ua (qL D S))).sum
theorem O0 {D:List Nat} {S:List Bool} {e:Ed} (h:zY D S e=true):dN D e=true:=by
 unfold zY at h;rw [aQ] at h;exact h.1
theorem yV (D:List Nat) (S:List Bool):∀ es:List Ed,manyN D es<=ub D S es/\ub D S es<=2 * manyN D es/\(eE D S es=true->2<=ub D S es)/\(eE D S es=false->ub D S es=manyN D es)
 | []=>by simp [manyN,ub,eE]
 | e :: r=>by
  obtain ⟨h1,h2,h3,h4⟩:=yV D S r;have hv:=OZ D S e;have hs:ub D S (e :: r)=ua (qL D S) e + ub D S r:=by simp [ub]
  have hm:manyN D (e :: r)=(if dN D e=true then 1 else 0) + manyN D r:=by simp [manyN,List.countP_cons];omega
  have Ly:eE D S (e :: r)=(zY D S e || eE D S r):=by simp [eE]
  rw [hs,hm,Ly,hv];by_cases ht:dN D e=true
  ·rw [ai ht,ai ht];by_cases hx:zY D S e=true
   ·rw [ai hx,hx];exact ⟨by omega,by omega,fun _=>by omega,fun h=>by simp at h⟩
   ·have p9:zY D S e=false:=sU hx;rw [ah hx,p9,Bool.false_or];exact ⟨by omega,by omega,fun h=>by have:=h3 h;omega,fun h=>by have:=h4 h;omega⟩
  ·have p9:zY D S e=false:=by
    cases hx:zY D S e
    ·rfl
    ·exact absurd (O0 hx) ht
   rw [ah ht,ah ht,p9,Bool.false_or];exact ⟨by omega,by omega,fun h=>by have:=h3 h;omega,fun h=>by have:=h4 h;omega⟩
theorem JW (D:List Nat) (S:List Bool):∀ (es:List Ed) (a:Nat),a<=2->sumC (qL D S) es a=min 2 (a + ub D S es)
 | [],a,h=>by simp [sumC,ub];omega
 | e :: r,a,h=>by
  have hs:ub D S (e :: r)=ua (qL D S) e + ub D S r:=by simp [ub]
  rw [sumC,JW D S r _ (by unfold iU;split<;>omega),hs];unfold iU;split<;>omega
theorem JX (D:List Nat) (S:List Bool):∀ (es:List Ed) (a:Nat),a<=2->qH (qL D S) es a=if a=0∨manyN D es < es.length then 0 else if a=2∨eE D S es=true then 2 else 1
 | [],a,h=>by
  rw [qH];have h1:manyN D []=0:=rfl;have h2:eE D S []=false:=rfl;rw [h1,h2];simp only [List.length_nil,Nat.lt_irrefl,or_false,Bool.false_eq_true];split
  ·omega
  ·split<;>omega
 | e :: r,a,h=>by
  have hv:=OZ D S e;have hm:manyN D (e :: r)=(if dN D e=true then 1 else 0) + manyN D r:=by simp [manyN,List.countP_cons];omega
  have Ly:eE D S (e :: r)=(zY D S e || eE D S r):=by simp [eE]
  have dK:manyN D r<=r.length:=List.countP_le_length;have au:(1 + manyN D r < r.length + 1)↔(manyN D r < r.length):=by omega
  rw [qH,JX D S r _ (by unfold iU;split<;>omega),hm,Ly,hv,List.length_cons];by_cases ht:dN D e=true
  ·rw [ai ht,ai ht];by_cases hx:zY D S e=true
   ·rw [ai hx,hx,Bool.true_or];simp only [au];rcases (show a=0∨a=1∨a=2 by omega) with rfl | rfl | rfl
    ·simp [iU]
    ·simp [iU]
    ·simp [iU]
   ·have p9:zY D S e=false:=sU hx;rw [ah hx,p9,Bool.false_or,Nat.mul_one];have hc:iU a=a:=by unfold iU;split<;>omega
    rw [hc];simp only [au]
  ·rw [ah ht,ah ht,Nat.mul_zero];have h0:iU 0=0:=rfl;rw [h0,ai (.inl rfl),ai (.inr (by omega))]
theorem Lz {L N:Nat} {n:Nd} {D:List Nat} {S:List Bool} (hn:cz L N n) (hd:0 < bm n D):ib n (qL D S)=if ei n D S=true then 2 else 1:=by
 obtain ⟨s1,s2,s3,s4⟩:=yV D S n.ap;have hs:=JW D S n.ap 0 (by omega);have ha:=JX D S n.ap 1 (by omega);have jK:=hn.k1;have Fx:=hn.k8;unfold ib ei;by_cases c1:n.ag=1
 ·rw [ai c1,ai c1];all_goals rfl
 rw [ah c1,ah c1];by_cases c2:n.ag=2
 ·rw [ai c2,ai c2];simp
 rw [ah c2,ah c2];by_cases c3:n.ag=3
 ·rw [ai c3,ai c3];have:=hn.JP c3;rw [wo];by_cases hm:0 < n.most
  ·rw [ai (sU hm)];omega
  ·rw [ah (sU hm)];omega
 rw [ah c3,ah c3];by_cases c4:n.ag=4
 ·rw [ai c4,ai c4];have:=List.length_pos_iff.2 (hn.af c4).1;rw [wo];by_cases hm:1 < n.af.length
  ·rw [ai (sU hm)];omega
  ·rw [ah (sU hm)];omega
 rw [ah c4,ah c4];by_cases c5:n.ag=5
 ·rw [ai c5,ai c5];have:=hn.uY c5;by_cases hm:n.most=0
  ·rw [ai hm,hm];simp
  ·rw [ah hm,hs];have lU:0 < n.most:=by omega
   rw [wo];by_cases hy:0 < manyN D n.ap
   ·rw [ai (by simp [lU,hy])];omega
   ·rw [ah (by simp [hy])];omega
 rw [ah c5,ah c5];by_cases c6:n.ag=6
 ·rw [ai c6,ai c6,hs];rw [wo];by_cases hy:0 < manyN D n.ap
  ·rw [ai (by simp [hy])];omega
  ·rw [ah (by simp [hy])];omega
 rw [ah c6,ah c6];by_cases c7:n.ag=7
 ·rw [ai c7,ai c7,ha];unfold bm at hd;rw [ai c7] at hd
  have fI:manyN D n.ap=n.ap.length:=by
   unfold manyN;rw [List.countP_eq_length];intro e he
   have:¬ bZ D e=0:=fun h=>by
    have:=iw (K:=D) (es:=n.ap) (m:=0) |>.2 ⟨e,he,h⟩
    omega
   unfold dN;simp;right;omega
  rw [ah (by omega),fI];simp
 rw [ah c7,ah c7,hs];unfold bm at hd;rw [ah c7,ai (by omega)] at hd
 have hex:0 < manyN D n.ap:=by
  have h1:=(jD.1 hd).resolve_left (by omega);unfold manyN;rw [List.countP_pos_iff];rw [List.any_eq_true] at h1;obtain ⟨e,he,h2⟩:=h1;refine ⟨e,he,?_⟩;unfold qU at h2;unfold dN;have:(eI D).getD e.to.toNat false=decide (0 < bZ D e):=gQ D _;rw [this] at h2;exact h2
 by_cases hm:eE D S n.ap=true
 ·have:=s3 hm;rw [ai (by simp [hm])];omega
 ·have lU:eE D S n.ap=false:=sU hm;have:=s4 lU;by_cases hy:1 < manyN D n.ap
  ·rw [ai (by simp [hy])];omega
  ·rw [ah (by simp [lU,hy])];omega
theorem oL {L N:Nat} {n:Nd} {D:List Nat} {S:List Bool} (hn:cz L N n) (h:ei n D S=true):0 < bm n D:=by
 have jK:=hn.k1;have Fx:=hn.k8;unfold ei at h;unfold bm;by_cases c7:n.ag=7
 ·rw [ai c7];simp only [c7] at h;simp only [Int.reduceEq,if_false,if_true,aQ,decide_eq_true_eq] at h;have h2:=h.2;unfold manyN at h2;rw [List.countP_eq_length] at h2;refine Nat.pos_of_ne_zero fun h0=>?_;obtain ⟨e,he,hz⟩:=iw.1 h0;have:=h2 e he;unfold dN at this
  have hb:e.bare=false:=by
   cases hb:e.bare
   ·rfl
   ·have:=hn.bare e he hb;omega
  rw [hb,hz] at this;simp at this
 rw [ah c7];by_cases c8:n.ag=8
 ·rw [ai c8];simp only [c8] at h;simp only [Int.reduceEq,if_false,Bool.or_eq_true,decide_eq_true_eq] at h;refine jD.2 (.inr ?_)
  have key:∀ e∈n.ap,dN D e=true->n.ap.any (qU (eI D))=true:=fun e he ht=>by
   rw [List.any_eq_true];refine ⟨e,he,?_⟩;unfold qU;have:(eI D).getD e.to.toNat false=decide (0 < bZ D e):=gQ D _;rw [this];exact ht
  rcases h with h | h
  ·unfold eE at h;rw [List.any_eq_true] at h;obtain ⟨e,he,hm⟩:=h;exact key e he (O0 hm)
  ·have h:0 < manyN D n.ap:=by omega
   unfold manyN at h;rw [List.countP_pos_iff] at h;obtain ⟨e,he,ht⟩:=h;exact key e he ht
 ·rw [ah c8];omega
theorem RO {L:Nat} {ND:List Nd} {D:List Nat} (bw:∀ n∈ND,cz L ND.length n) (hl:D.length=ND.length) (ff:∀ j,D.getD j 0=match ND[j]? with | none=>0 | some n=>bm n D) (t:Nat) {i:Nat} {n:Nd} (hn:ND[i]? = some n) :
  (qL D (sevN ND D (t + 1))).getD i 0=if D.getD i 0=0 then 0 else ib n (qL D (sevN ND D t)):=by
 have h1:=ff i;rw [hn] at h1;have h1:D.getD i 0=bm n D:=h1;rw [Dd,sevN_get,hn];unfold qF;by_cases h0:D.getD i 0=0
 ·rw [ai h0,ai h0]
 ·rw [ah h0,ah h0,Lz (bw n (mG hn)) (by omega)]
def cN (l:List Nat):List DV:=l.map fun (z:Nat)=>DV.v (.int .i64 (z:Int))
theorem lQ (l:List Nat):(cN l).length=l.length:=by simp [cN]
theorem De {l:List Nat} {i z:Nat} (h:l[i]? = some z):(cN l)[i]? = some (DV.v (.int .i64 (z:Int))):=by simp [cN,h]
theorem ni (l:List Nat) (i z:Nat):(cN l).set i (DV.v (.int .i64 (z:Int)))=cN (l.set i z):=by simp [cN,List.map_set]
theorem yW (l:List Nat):(dInts l).flatten=cN l:=by
 induction l with
 | nil=>rfl
 | cons b r ih=>simp only [dInts,cN,List.map_cons,List.flatten_cons] at ih ⊢;rw [ih];all_goals rfl
theorem vI (n:Nat):(List.replicate n (vL [Value.int .i64 0])).flatten=cN (List.replicate n 0):=by
 induction n with
 | zero=>rfl
 | succ n ih=>simp only [List.replicate_succ,List.flatten_cons,ih];rfl
theorem b9 {n m:Nat} {tk:List TkE} {l:List DV} {r:List Nat} (h:l=cN r):WeL n m tk l (cN r):=by
 subst h;refine xP _ fun x hx=>?_;obtain ⟨z,_,rfl⟩:=List.mem_map.1 hx;exact ⟨_,rfl⟩
theorem yX {bx:List (List DV)} {N n0 m0 n i:Nat} {r:List Nat} (hr:r.length=n) (hN:N<=i) (hb:bx[i]? = some (cN r)):Cc bx N n0 m0 (.sl 1 (dInts r) none) (.ms i 1 0 n n):=by
 simp only [Cc];refine Or.inr (Or.inr (Or.inl ⟨i,0,n,_,by rw [bi,hr],hN,hb,?_,?_,?_⟩))
 ·rw [yW,List.drop_zero,List.take_of_length_le (by rw [lQ,bi];omega)]
 ·intro x hx;simp only [dInts,List.mem_map] at hx;obtain ⟨_,_,rfl⟩:=hx;rfl
 ·intro x hx;rw [yW] at hx;obtain ⟨_,_,rfl⟩:=List.mem_map.1 hx;exact ⟨_,rfl⟩
abbrev aak (PC:List DV) (ND:List Nd) (q e:Nat):St:=
 ⟨[(0,⟨[],.pt PC 0⟩),(3,⟨[],.sl 7 (bD (ND.take e)) (some 0)⟩),(8,⟨[],.v (.int .i64 ND.length)⟩),(9,⟨[],.v (.int .i64 e)⟩)],[],[⟨q,105,7,none⟩]⟩
theorem uc {l:List Nd} {e:Nat} {n:Nd} (h:l[e]? = some n):bD (l.take e) ++ [gG n]=bD (l.take (e + 1)):=by
 rw [List.take_add_one,h];simp [bD]
theorem rZ {S:Sch} {ND:List Nd} {PC:List DV} (hP:eZ S ND PC) :
  aV prog 180 [.pt PC 0] (.sl 7 (bD ND) none):=by
 have h1:=hP.len;have h2:=hP.av;have fo:=hP.nl;refine eG 24 [.tmp 2] func180 rfl ntmps180 rfl fun _ _ _ _=>?_;refine cP uJ h1 ?_;refine lJ (fun e=>aak PC ND e e) ND.length (fM ⟨0,105,7,none⟩ rfl ⟨_,rfl⟩ rfl wA rfl rfl lX) ?_;intro e he;refine br ?_ ?_<;>intro hL
 ·have au:e < ND.length:=by have:=hL;simp at this;exact this
  obtain ⟨n,hn⟩:=gX au;have c9:(bD (ND.take e)).length=e:=by rw [cy,zLenT];omega
  refine cP G8 (h2 e n hn) ?_;refine ⟨c9,⟨by rw [c9];simp [maxLen];omega,by rw [c9];simp;omega⟩,?_⟩;exact rE ⟨_,by omega,e + 1,rfl,by omega,rfl⟩ (aj ⟨_,rfl⟩ wA rfl rfl rfl (wB2 (aK au (by omega)) (uc hn)))
 ·have aS:e=ND.length:=by have:=hL;simp at this;omega
  subst aS;rw [List.take_length];exact ⟨_,ax,rfl⟩
abbrev T0 (K:List Nat) (es:List Ed) (m e:Nat):St:=
 ⟨[(1,⟨[],.sl 1 (dInts K) none⟩),(5,⟨[],.v (.int .i64 m)⟩),(16,⟨[],.sl 10 (cJ es) none⟩),(17,⟨[],.v (.int .i64 (cJ es).length)⟩),(18,⟨[],.v (.int .i64 e)⟩)],[],[]⟩
abbrev FE (K:List Nat) (es:List Ed) (m e:Nat):St:=
 ⟨[(1,⟨[],.sl 1 (dInts K) none⟩),(8,⟨[],.v (.int .i64 m)⟩),(41,⟨[],.sl 10 (cJ es) none⟩),(42,⟨[],.v (.int .i64 (cJ es).length)⟩),(43,⟨[],.v (.int .i64 e)⟩)],[],[]⟩
theorem Df {L:Nat} {n:Nd} (K:List Nat) (hK:K.length<=1099511627776) (hn:cz L K.length n) (hz:∀ z∈K,z<=1099511627776) (ef:n.ap.length<=1099511627776) :
  aV prog 181 [.agg (gG n),.sl 1 (dInts K) none] (.v (.int .i64 (bm n K:Nat))):=by
 have aZ:=hn.fJ;have cY:=hn.bare;obtain ⟨ag,ba,lo,hi,most,af,es⟩:=n;simp only at aZ cY ef;refine eG 80 [.tmp 4] func181 rfl ntmps181 rfl fun _ _ _ _=>?_;refine br ?_ ?_<;>intro h7
 ·have h7:ag=7:=sU h7;have hF:bm ⟨ag,ba,lo,hi,most,af,es⟩ K=leastR K es 0:=by simp [bm,h7]
  rw [hF];refine lI (fun j st=>∃ e m:Nat,st=T0 K es m e/\e<=es.length/\m<=1099511627776/\leastR K es 0=leastR K (es.drop e) m/\j=es.length - e) ⟨0,0,rfl,by omega,by omega,rfl,rfl⟩ (aj ⟨_,rfl⟩ wA rfl rfl rfl wB) ?_;rintro j st ⟨e,m,rfl,he,hm,aP,rfl⟩;refine br ?_ ?_<;>intro hL
  ·have au:e < es.length:=by have:=hL;simp [aW] at this;exact this
   obtain ⟨x,hx⟩:=gX au;rw [drop_cons hx,leastR] at aP;have My:=aZ x (mG hx)
   have j7:x.bare=false:=by
    cases hb:x.bare
    ·rfl
    ·have:=cY x (mG hx) hb;omega
   obtain ⟨k,hk,ej⟩:=My.to1 j7;obtain ⟨z,hz1⟩:∃ z,K[k]? = some z:=⟨_,gE ej⟩;have Xc:=hz z (mG hz1);have zB:bZ K x=z:=by simp [bZ,hk,aH,hz1]
   have hg:(dInts K)[x.to.toNat]? = some [DV.v (.int .i64 (z:Int))]:=by rw [hk];exact aG hz1
   rw [zB] at aP;refine iX (aF hx) ?_;refine ⟨_,⟨by omega,hg⟩,?_⟩;refine br ?_ ?_<;>intro g
   ·have g:z=0:=sU g;rw [aP,ai g];exact (rfl:_=_)
   ·have g:¬ z=0:=sU g;rw [ah g] at aP;refine ⟨_,⟨by omega,hg⟩,?_⟩;exact ⟨T0 K es (max m z) (e + 1),(aj ⟨_,rfl⟩ wA rfl rfl rfl (wB2 (show max (m:Int) z=((max m z:Nat):Int) by omega) (aK au (by omega)))),es.length - (e + 1),by omega,e + 1,_,rfl,by omega,by omega,aP,rfl⟩
  ·have aS:e=es.length:=by have:=hL;simp [aW] at this;omega
   subst aS;rw [List.drop_length,leastR] at aP;have hw:IntKind.i64.wrap ((m:Int) + 1)=((m + 1:Nat):Int):=by rw [wrap64 (by omega) (by omega)];omega
   rw [aP];refine (congrArg (fun z=>DV.v (.int .i64 z)) ?_:_=_);exact hw
 have h7:¬ ag=7:=sU h7;refine br ?_ ?_<;>intro h8
 ·have h8:ag=8:=sU h8;have hF:bm ⟨ag,ba,lo,hi,most,af,es⟩ K=ct K es 0:=by simp [bm,h8]
  rw [hF];refine lI (fun j st=>∃ e m:Nat,st=FE K es m e/\e<=es.length/\m<=1099511627776/\ct K es 0=ct K (es.drop e) m/\j=es.length - e) ⟨0,0,rfl,by omega,by omega,rfl,rfl⟩ (aj ⟨_,rfl⟩ wA rfl rfl rfl wB) ?_;rintro j st ⟨e,m,rfl,he,hm,aP,rfl⟩;refine br ?_ ?_<;>intro hL
  ·have au:e < es.length:=by have:=hL;simp [aW] at this;exact this
   obtain ⟨x,hx⟩:=gX au;rw [drop_cons hx,ct] at aP;have My:=aZ x (mG hx);refine iX (aF hx) ?_;refine br ?_ ?_<;>intro hb
   ·have hb:x.bare=true:=hb;rw [aP,ai hb];exact (rfl:_=_)
   have hb:x.bare=false:=hb;rw [ah (by rw [hb];decide)] at aP;obtain ⟨k,hk,ej⟩:=My.to1 hb;obtain ⟨z,hz1⟩:∃ z,K[k]? = some z:=⟨_,gE ej⟩;have Xc:=hz z (mG hz1);have zB:bZ K x=z:=by simp [bZ,hk,aH,hz1]
   have hg:(dInts K)[x.to.toNat]? = some [DV.v (.int .i64 (z:Int))]:=by rw [hk];exact aG hz1
   rw [zB] at aP;refine ⟨_,⟨by omega,hg⟩,?_⟩;have ke:¬ (0 < z/\(m=0∨z < m))->ct K es 0=ct K (es.drop (e + 1)) m:=fun h=>by rw [aP,ah h]
   have take:(0 < z/\(m=0∨z < m))->ct K es 0=ct K (es.drop (e + 1)) z:=fun h=>by rw [aP,ai h]
   refine br ?_ ?_<;>intro g1
   ·have g1:0 < z:=by simpa [lastG] using g1
    refine br ?_ ?_<;>intro g2
    ·have g2:¬ m=0:=sU g2;refine ⟨_,⟨by omega,hg⟩,?_⟩;refine br ?_ ?_<;>intro g3
     ·have g3:z < m:=by simpa [pickB,pickD,lastG] using g3
      refine ⟨_,⟨by omega,hg⟩,?_⟩;exact ⟨FE K es z (e + 1),(aj ⟨_,rfl⟩ wA rfl rfl rfl (dy (aK au (by omega)))),es.length - (e + 1),by omega,e + 1,_,rfl,by omega,by omega,take ⟨g1,.inr g3⟩,rfl⟩
     ·have g3:¬ z < m:=by simpa [pickB,pickD,lastG] using g3
      exact ⟨FE K es m (e + 1),(aj ⟨_,rfl⟩ wA rfl rfl rfl (dy (aK au (by omega)))),es.length - (e + 1),by omega,e + 1,_,rfl,by omega,by omega,ke (by omega),rfl⟩
    ·have g2:m=0:=sU g2;refine ⟨_,⟨by omega,hg⟩,?_⟩;exact ⟨FE K es z (e + 1),(aj ⟨_,rfl⟩ wA rfl rfl rfl (dy (aK au (by omega)))),es.length - (e + 1),by omega,e + 1,_,rfl,by omega,by omega,take ⟨g1,.inl g2⟩,rfl⟩
   ·have g1:¬ 0 < z:=by simpa [lastG] using g1
    exact ⟨FE K es m (e + 1),(aj ⟨_,rfl⟩ wA rfl rfl rfl (dy (aK au (by omega)))),es.length - (e + 1),by omega,e + 1,_,rfl,by omega,by omega,ke (by omega),rfl⟩
  ·have aS:e=es.length:=by have:=hL;simp [aW] at this;omega
   subst aS;rw [List.drop_length,ct] at aP;refine br ?_ ?_<;>intro g
   ·have g:m=0:=sU g;rw [aP,ai g];exact (rfl:_=_)
   ·have g:¬ m=0:=sU g;rw [ah g] at aP;have hw:IntKind.i64.wrap ((m:Int) + 1)=((m + 1:Nat):Int):=by rw [wrap64 (by omega) (by omega)];omega
    rw [aP];refine (congrArg (fun z=>DV.v (.int .i64 z)) ?_:_=_);exact hw
 ·have h8:¬ ag=8:=sU h8;have hF:bm ⟨ag,ba,lo,hi,most,af,es⟩ K=1:=by simp [bm,h7,h8]
  rw [hF];exact (rfl:_=_)
abbrev T1 (n:Nd) (K:List Bool) (s v:Bool) (e:Nat):St:=
 ⟨[(1,⟨[],.sl 1 (qT K) none⟩),(2,⟨[],.loc 0 0⟩),(5,⟨[],.v (.bool s)⟩),(6,⟨[],.v (.bool v)⟩),(7,⟨[],.v (.int .i64 e)⟩)],[gG n],[]⟩
theorem Iu {L:Nat} {n:Nd} (K:List Bool) (hK:K.length<=1099511627776) (hn:cz L K.length n) (ef:n.ap.length<=1099511627776) :
  aV prog 129 [.agg (gG n),.sl 1 (qT K) none] (.v (.bool (Iq n K))):=by
 have aZ:=hn.fJ;have cY:=hn.bare;have Fx:=hn.k8;obtain ⟨ag,ba,lo,hi,most,af,es⟩:=n;simp only at aZ cY ef Fx;refine eG 50 [.tmp 4] func129 rfl ntmps129 rfl fun _ _ _ _=>?_;refine br ?_ ?_<;>intro h7
 ·have h7:ag < 7:=sU h7;refine (congrArg (fun b=>DV.v (.bool b)) ?_:_=_);simp [Iq,h7]
 have h7:¬ ag < 7:=sU h7;refine bA (fun j st=>∃ e:Nat,st=T1 ⟨ag,ba,lo,hi,most,af,es⟩ K ((es.take e).any (qU K)) ((es.take e).all (qU K)) e/\e<=es.length/\j=es.length - e) es.length (T1 ⟨ag,ba,lo,hi,most,af,es⟩ K false true 0) (aj ⟨_,rfl⟩ wA rfl rfl rfl wB) ⟨0,by simp,by omega,by omega⟩ ?_;rintro j st ⟨e,rfl,he,rfl⟩;refine br ?_ ?_<;>intro hL
 ·have au:e < es.length:=by have:=hL;simp [aW] at this;exact this
  obtain ⟨x,hx⟩:=gX au;refine iX (aF hx) ?_;have hs:(es.take (e + 1)).any (qU K)=((es.take e).any (qU K) || qU K x):=by rw [List.take_add_one,hx];simp
  have hv:(es.take (e + 1)).all (qU K)=((es.take e).all (qU K) && qU K x):=by rw [List.take_add_one,hx];simp
  generalize (es.take e).any (qU K)=s at hs ⊢;generalize (es.take e).all (qU K)=v at hv ⊢;refine br ?_ ?_<;>intro hb
  ·have hb:x.bare=false:=sU hb;obtain ⟨k,hk,ej⟩:=(aZ x (mG hx)).to1 hb;obtain ⟨b,pN⟩:∃ b,K[k]? = some b:=⟨_,gE ej⟩;have hg:(qT K)[(max x.to 0).toNat]? = some [DV.v (.bool b)]:=by rw [show (max x.to 0).toNat=k by omega];exact rU pN
   have Xd:qU K x=b:=by unfold qU;rw [hb,hk];simp [aH,pN]
   rw [Xd] at hs hv;refine iX (aF hx) ?_;refine ⟨_,⟨by omega,hg⟩,?_⟩;have e5:pickB s true b=(es.take (e + 1)).any (qU K):=by rw [hs,ay]
   have e6:pickB v b false=(es.take (e + 1)).all (qU K):=by rw [hv,aw]
   exact rE ⟨_,by omega,e + 1,rfl,by omega,rfl⟩ (aj ⟨_,rfl⟩ wA rfl rfl rfl (Ap e5 e6 (aK au (by omega))))
  ·have hb:x.bare=true:=sU hb;have Xd:qU K x=true:=by unfold qU;rw [hb];all_goals rfl
   rw [Xd] at hs hv;have e5:pickB s true true=(es.take (e + 1)).any (qU K):=by rw [hs,ay]
   have e6:pickB v true false=(es.take (e + 1)).all (qU K):=by rw [hv,aw]
   exact rE ⟨_,by omega,e + 1,rfl,by omega,rfl⟩ (aj ⟨_,rfl⟩ wA rfl rfl rfl (Ap e5 e6 (aK au (by omega))))
 ·have aS:e=es.length:=by have:=hL;simp [aW] at this;omega
  subst aS;rw [List.take_length];refine br ?_ ?_<;>intro g
  ·have g:ag=7:=sU g;refine (congrArg (fun b=>DV.v (.bool b)) ?_:_=_);simp [Iq,g]
  ·have g:¬ ag=7:=sU g;refine (congrArg (fun b=>DV.v (.bool b)) ?_:_=_);simp [Iq,g,h7]
theorem RP {bx:List (List DV)} {N n0 m0 n i:Nat} {r:List Bool} (hr:r.length=n) (hN:N<=i) (hb:bx[i]? = some (cB r)):Cc bx N n0 m0 (.sl 1 (qT r) none) (.ms i 1 0 n n):=by
 simp only [Cc];refine Or.inr (Or.inr (Or.inl ⟨i,0,n,_,by rw [wg,hr],hN,hb,?_,?_,?_⟩))
 ·rw [rV,List.drop_zero,List.take_of_length_le (by rw [qA,wg];omega)]
 ·intro x hx;simp only [qT,List.mem_map] at hx;obtain ⟨_,_,rfl⟩:=hx;rfl
 ·intro x hx;rw [rV] at hx;obtain ⟨_,_,rfl⟩:=List.mem_map.1 hx;exact ⟨_,rfl⟩
theorem O1 (l:List Nat) (bx:List (List DV)) (N n m:Nat):CcL bx N n m (cN l) (cN l):=by
 induction l with
 | nil=>rfl
 | cons a r ih=>exact ⟨_,_,rfl,rfl,ih⟩
abbrev wG (a b:Nat) (A B:List (List DV)) (ND:List Nd) (z:Int):List DV:=[.sl a A none,.sl b B none,.sl 7 (bD ND) none,.v (.int .i64 z)]
abbrev O2 (W:List DV) (O:List Nat) (K:List Bool) (n d:Nat):St:=
 ⟨[(1,⟨[],.loc 0 0⟩),(3,⟨[],.ms 1 1 0 n n⟩),(4,⟨[],.sl 1 (qT K) none⟩),(5,⟨[],.v (.int .i64 d)⟩)],[W,cN O],[]⟩
abbrev JY (W:List DV) (O:List Nat) (K:List Bool) (M:List Bool) (n d e:Nat):St:=
 ⟨[(1,⟨[],.loc 0 0⟩),(3,⟨[],.ms 1 1 0 n n⟩),(4,⟨[],.sl 1 (qT K) none⟩),(5,⟨[],.v (.int .i64 d)⟩),(6,⟨[],.ms 2 1 0 n n⟩),(7,⟨[],.v (.int .i64 e)⟩)],[W,cN O,cB M],[]⟩
theorem pW (a b:Nat) (A B:List (List DV)) {ND:List Nd} {L:Nat} (z:Int) (bw:∀ n∈ND,cz L ND.length n) (fo:ND.length<=1099511627776) (bT:∀ n∈ND,n.ap.length<=1099511627776) :
  aV prog 63 [.agg (wG a b A B ND z)] (.sl 1 (dInts (depN ND ND.length)) none):=by
 have bJ:=cy ND;refine eG 61 [.tmp 2] func63 rfl ntmps63 rfl fun _ _ _ _=>?_;refine ⟨⟨rfl,by omega,by rw [bJ];omega,by rw [bJ];omega⟩,?_⟩;refine ⟨⟨rfl,by omega,by rw [bJ];omega,by rw [bJ];omega⟩,?_⟩;refine CO (fun j st=>∃ d:Nat,st=O2 (wG a b A B ND z) (depN ND d) (eI (depN ND d)) (bD ND).length (d + 1)/\d<=ND.length/\j=ND.length - d) ND.length (O2 (wG a b A B ND z) (depN ND 0) (eI (depN ND 0)) (bD ND).length 1) (.DL 2 rfl rfl ?_ rfl ?_) ⟨0,rfl,by omega,by omega⟩ ?_
 ·refine ⟨_,_,rfl,ax,_,_,rfl,?_,rfl⟩;rw [vI,bJ];exact O1 _ _ _ _ _
 ·refine ⟨⟨_,rfl,mv⟩,⟨_,rfl,mv⟩,⟨_,rfl,RP (by rw [gR,bH,bJ];omega) (aU _) ?_⟩,⟨_,rfl,ax⟩,trivial⟩;refine congrArg some ?_;rw [E9,bJ];simp [eI,depN]
 rintro j st ⟨d,rfl,hd,rfl⟩;have nD:(eI (depN ND d)).length=ND.length:=by rw [gR,bH]
 refine br ?_ ?_<;>intro hc
 ·have au:d < ND.length:=sW bJ hc;refine ⟨⟨rfl,by omega,by rw [bJ];omega,by rw [bJ];omega⟩,?_⟩;refine bA (fun j st=>∃ (e:Nat) (O:List Nat) (M:List Bool),st=JY (wG a b A B ND z) O (eI (depN ND d)) M (bD ND).length (d + 1) e/\e<=ND.length/\O.length=ND.length/\M.length=ND.length/\(∀ i:Nat,i < e->O.getD i 0=(depN ND (d + 1)).getD i 0/\M.getD i false=(eI (depN ND (d + 1))).getD i false)/\(∀ i:Nat,e<=i->O.getD i 0=(depN ND d).getD i 0)/\j=ND.length - e) ND.length (JY (wG a b A B ND z) (depN ND d) (eI (depN ND d)) (List.replicate ((bD ND).length:Int).toNat false) (bD ND).length (d + 1) 0) (aq 3 rfl (by repeat' (first | exact rfl | exact aA rfl | exact b9 rfl | exact cF (E9 _) | refine ⟨_,_,rfl,?_,?_⟩)) rfl rfl rfl (by repeat' (first | exact trivial | exact aA rfl | exact b9 rfl | exact cF (E9 _) | refine ⟨⟨_,rfl,?_⟩,?_⟩))) ⟨0,_,_,rfl,by omega,by rw [bH],by rw [List.length_replicate,bJ];omega,fun i hi=>by omega,fun i _=>rfl,by omega⟩ ?_;rintro j st ⟨e,O,M,rfl,he,hO,hM,mD,sP,rfl⟩;refine br ?_ ?_<;>intro hL
  ·have dK:e < ND.length:=by have:=hL;simp [bJ] at this;exact this
   obtain ⟨n,hn⟩:∃ n,ND[e]? = some n:=⟨_,gE dK⟩;have ie:=mG hn;have h1:=Iu (eI (depN ND d)) (by rw [nD];exact fo) (n:=n) (by rw [nD];exact bw n ie) (bT n ie);obtain ⟨r1,r2⟩:=OV (fun m hm=>⟨(bw m hm).k8,(bw m hm).bare⟩) d hn;refine iX (bB hn) ?_;refine cP Yr h1 ?_
   have bd:(cB M).set (0 + (e:Int).toNat * 1) (DV.v (.bool (Iq n (eI (depN ND d)))))=cB (M.set e (Iq n (eI (depN ND d)))):=by
    rw [show 0 + (e:Int).toNat * 1=e by omega,yo]
   have Rj:(cB (M.set e (Iq n (eI (depN ND d)))))[0 + (e:Int).toNat * 1]? = some (DV.v (.bool (Iq n (eI (depN ND d))))):=by
    rw [show 0 + (e:Int).toNat * 1=e by omega];exact HZ (cO (by omega))
   obtain ⟨q,hq⟩:∃ q,O[e]? = some q:=⟨_,gE (by omega)⟩;have hqd:(depN ND d).getD e 0=q:=by rw [<- sP e (aU _),aH,hq];all_goals rfl
   rw [hqd] at r1
   have hMs:∀ i:Nat,i < e + 1->(M.set e (Iq n (eI (depN ND d)))).getD i false=(eI (depN ND (d + 1))).getD i false:=fun i hi=>by
    by_cases zA:i=e
    ·subst zA;rw [r2,aH,cO (by omega)];all_goals rfl
    ·rw [aH,List.getElem?_set_ne (Ne.symm zA),<- aH];exact (mD i (by omega)).2
   generalize Iq n (eI (depN ND d))=h at bd Rj r1 hMs ⊢;refine ⟨⟨by omega,by rw [bJ];omega⟩,?_⟩;refine ⟨by rw [qA];omega,?_⟩;refine ⟨⟨by omega,by rw [bJ];omega⟩,?_⟩;refine ⟨DV.v (.bool h),(by rw [bd];exact Rj),?_⟩
   have hOs:∀ v,v=(depN ND (d + 1)).getD e 0->∀ i:Nat,i < e + 1->(O.set e v).getD i 0=(depN ND (d + 1)).getD i 0:=fun v hv i hi=>by
    by_cases zA:i=e
    ·subst zA;rw [<- hv,aH,cO (by omega)];all_goals rfl
    ·rw [aH,List.getElem?_set_ne (Ne.symm zA),<- aH];exact (mD i (by omega)).1
   have hOr:∀ v:Nat,∀ i:Nat,e + 1<=i->(O.set e v).getD i 0=(depN ND d).getD i 0:=fun v i hi=>by
    rw [aH,List.getElem?_set_ne (by omega),<- aH];exact sP i (by omega)
   have hOq:O.set e q=O:=List.ext_getElem? fun i=>by
    by_cases zA:e=i
    ·subst zA;rw [cO (by omega),hq]
    ·rw [List.getElem?_set_ne zA]
   refine br ?_ ?_<;>intro g
   ·have g:h=true:=sU g;refine ⟨⟨by omega,by rw [bJ];omega⟩,?_⟩;refine ⟨DV.v (.int .i64 (q:Int)),(by rw [show 0 + (e:Int).toNat * 1=e by omega];exact De hq),?_⟩;refine br ?_ ?_<;>intro g2
    ·have g2:q=0:=by simpa [pickB,pickD] using g2
     rw [ai ⟨g,g2⟩] at r1;refine ⟨⟨by omega,by rw [bJ];omega⟩,?_⟩;refine ⟨by rw [lQ];omega,?_⟩
     have Ar:(cN O).set (0 + (e:Int).toNat * 1) (DV.v (.int .i64 ((d + 1:Nat):Int)))=cN (O.set e (d + 1)):=by
      rw [show 0 + (e:Int).toNat * 1=e by omega,ni]
     exact ⟨JY (wG a b A B ND z) (O.set e (d + 1)) (eI (depN ND d)) (M.set e h) (bD ND).length (d + 1) (e + 1),(aq 3 rfl (UN Ar bd (aK dK (by omega))) rfl rfl rfl (Ap Ar bd (aK dK (by omega)))),ND.length - (e + 1),by omega,e + 1,_,_,rfl,by omega,by simp [hO],by rw [List.length_set];exact hM,fun i hi=>⟨hOs _ r1.symm i hi,hMs i hi⟩,hOr (d + 1),rfl⟩
    ·have g2:¬ q=0:=by simpa [pickB,pickD] using g2
     rw [ah (fun h=>g2 h.2)] at r1;exact ⟨JY (wG a b A B ND z) (O.set e q) (eI (depN ND d)) (M.set e h) (bD ND).length (d + 1) (e + 1),(aq 3 rfl (by repeat' (first | exact rfl | exact aA rfl | exact b9 (by rw [hOq]) | exact cF bd | exact aE (aK dK (by omega)) | refine ⟨_,_,rfl,?_,?_⟩)) rfl rfl rfl (by repeat' (first | exact trivial | exact aA rfl | exact b9 (by rw [hOq]) | exact cF bd | exact aE (aK dK (by omega)) | refine ⟨⟨_,rfl,?_⟩,?_⟩))),ND.length - (e + 1),by omega,e + 1,_,_,rfl,by omega,by simp [hO],by rw [List.length_set];exact hM,fun i hi=>⟨hOs _ r1.symm i hi,hMs i hi⟩,hOr q,rfl⟩
   ·have g:h=false:=sU g;rw [ah (by rw [g];simp)] at r1;exact ⟨JY (wG a b A B ND z) (O.set e q) (eI (depN ND d)) (M.set e h) (bD ND).length (d + 1) (e + 1),(aq 3 rfl (by repeat' (first | exact rfl | exact aA rfl | exact b9 (by rw [hOq]) | exact cF bd | exact aE (aK dK (by omega)) | refine ⟨_,_,rfl,?_,?_⟩)) rfl rfl rfl (by repeat' (first | exact trivial | exact aA rfl | exact b9 (by rw [hOq]) | exact cF bd | exact aE (aK dK (by omega)) | refine ⟨⟨_,rfl,?_⟩,?_⟩))),ND.length - (e + 1),by omega,e + 1,_,_,rfl,by omega,by simp [hO],by rw [List.length_set];exact hM,fun i hi=>⟨hOs _ r1.symm i hi,hMs i hi⟩,hOr q,rfl⟩
  ·have aS:e=ND.length:=sW bJ hL;subst aS
   have hO2:O=depN ND (d + 1):=kV (by rw [hO,bH]) fun j=>by
    rcases Nat.lt_or_ge j ND.length with hj | hj
    ·exact (mD j hj).1
    ·simp only [aH];rw [cQ (by omega),cQ (by rw [bH];omega)]
   have hM2:M=eI (depN ND (d + 1)):=xU (by rw [hM,gR,bH]) (fun j hj=>by
     rcases Nat.lt_or_ge j ND.length with h | h
     ·rw [<- (mD j h).2];exact hj
     ·rw [aH,cQ (by omega)] at hj;cases hj) (fun j hj=>by
     rcases Nat.lt_or_ge j ND.length with h | h
     ·rw [(mD j h).2];exact hj
     ·rw [aH,cQ (by rw [gR,bH];omega)] at hj;cases hj)
   subst hO2 hM2;refine ⟨O2 (wG a b A B ND z) (depN ND (d + 1)) (eI (depN ND (d + 1))) (bD ND).length (d + 1 + 1),.DL 2 rfl rfl ⟨_,_,rfl,ax,_,_,rfl,O1 _ _ _ _ _,rfl⟩ rfl ⟨⟨_,rfl,mv⟩,⟨_,rfl,mv⟩,⟨_,rfl,RP (by rw [gR,bH,bJ]) (aU _) rfl⟩,⟨_,rfl,?_⟩,trivial⟩,ND.length - (d + 1),by omega,d + 1,rfl,by omega,rfl⟩;exact congrArg (fun z=>DV.v (Value.int .i64 z)) (aK (n:=1099511627777) (by omega) (by omega))
 ·have aS:d=ND.length:=sW bJ hc;subst aS;exact ⟨_,yX (by rw [bH,bJ]) (Nat.zero_le _) rfl,rfl⟩
def ue (ND:List Nd) (d e:Nat):Bool:=(List.range e).any fun i=>decide (¬ (depN ND (d + 1)).getD i 0=(depN ND d).getD i 0)
theorem LA (ND:List Nd) (d e:Nat):ue ND d (e + 1)=(ue ND d e || decide (¬ (depN ND (d + 1)).getD e 0=(depN ND d).getD e 0)):=by
 simp [ue,List.range_succ]
theorem FF {ND:List Nd} {d:Nat}:ue ND d ND.length=false↔depN ND (d + 1)=depN ND d:=by
 constructor
 ·intro h;refine kV (by rw [bH,bH]) fun j=>?_;unfold ue at h;rw [List.any_eq_false] at h;rcases Nat.lt_or_ge j ND.length with hj | hj
  ·have:=h j (sU hj);simpa using this
  ·simp only [aH];rw [cQ (by rw [bH];exact hj),cQ (by rw [bH];exact hj)]
 ·intro h;unfold ue;rw [h,List.any_eq_false];simp
theorem Iv {ND:List Nd} {d:Nat} (hd:d<=1099511627776):∀ z∈depN ND d,z<=1099511627776:=fun z hz=>by
 obtain ⟨i,hi⟩:=List.mem_iff_getElem?.1 hz;have:=JV ND d i;rw [aH,hi] at this;simp only [Option.getD_some] at this;omega
abbrev O3 (ND:List Nd) (d:Nat) (c:Bool):St:=
 ⟨[(3,⟨[],.sl 7 (bD ND) none⟩),(4,⟨[],.sl 1 (dInts (depN ND d)) none⟩),(5,⟨[],.v (.bool c)⟩)],[],[]⟩
abbrev O4 (ND:List Nd) (d:Nat) (c:Bool) (L:List Nat) (e:Nat):St:=
 ⟨[(3,⟨[],.sl 7 (bD ND) none⟩),(4,⟨[],.sl 1 (dInts (depN ND d)) none⟩),(5,⟨[],.v (.bool c)⟩),(6,⟨[],.ms 0 1 0 (bD ND).length (bD ND).length⟩),(18,⟨[],.sl 7 (bD ND) none⟩),(19,⟨[],.v (.int .i64 (bD ND).length)⟩),(20,⟨[],.v (.int .i64 e)⟩)],[cN L],[]⟩
theorem yY {L:Nat} {ND:List Nd} {p:DV} (h0:aV prog 180 [p] (.sl 7 (bD ND) none)) (bw:∀ n∈ND,cz L ND.length n) (fo:ND.length<=1099511627776) (bT:∀ n∈ND,n.ap.length<=1099511627776) (uG:∀ bx N n m,Cc bx N n m p p) :
  aV prog 120 [p] (.sl 1 (dInts (depN ND ND.length)) none):=by
 have bJ:=cy ND;refine eG 46 [.tmp 2] func120 rfl ntmps120 rfl fun _ _ _ _=>?_;refine cP S7 h0 ?_ (gU uG);refine ⟨⟨rfl,by omega,by rw [bJ];omega,by rw [bJ];omega⟩,?_⟩;refine CO (fun j st=>∃ (d:Nat) (c:Bool),st=O3 ND d c/\(c=true->d<=ND.length)/\(c=false->depN ND d=depN ND ND.length)/\j=ND.length + 2 - d) (ND.length + 2) (O3 ND 0 true) (.DL 0 rfl rfl rfl rfl ?_) ⟨0,true,rfl,by omega,by simp,by omega⟩ ?_
 ·refine ⟨⟨_,rfl,ax⟩,⟨_,rfl,yX (by rw [bH,bJ];omega) (by omega) ?_⟩,⟨_,rfl,ax⟩,trivial⟩;refine congrArg some ?_;rw [vI,bJ];rfl
 rintro j st ⟨d,c,rfl,I9,lF,rfl⟩;refine br ?_ ?_<;>intro hc
 ·have hc:c=true:=hc;have hd:=I9 hc;refine ⟨⟨rfl,by omega,by rw [bJ];omega,by rw [bJ];omega⟩,?_⟩;refine bA (fun j st=>∃ (e:Nat) (L:List Nat),st=O4 ND d (ue ND d e) L e/\e<=ND.length/\L.length=ND.length/\(∀ i:Nat,i < e->L.getD i 0=(depN ND (d + 1)).getD i 0)/\j=ND.length - e) ND.length (O4 ND d false (List.replicate ((bD ND).length:Int).toNat 0) 0) (aq 1 rfl (by repeat' (first | exact rfl | exact aA rfl | exact b9 (vI _) | refine ⟨_,_,rfl,?_,?_⟩)) rfl rfl rfl (by repeat' (first | exact trivial | exact aA rfl | exact b9 (vI _) | refine ⟨⟨_,rfl,?_⟩,?_⟩))) ⟨0,_,rfl,by omega,by rw [List.length_replicate,bJ];omega,fun i hi=>by omega,by omega⟩ ?_;rintro j st ⟨e,L,rfl,he,hL,hLv,rfl⟩;refine br ?_ ?_<;>intro au
  ·have au:e < ND.length:=by have:=au;simp [bJ] at this;exact this
   obtain ⟨n,hn⟩:=gX au;have ie:=mG hn;have dK:=Df (depN ND d) (by rw [bH];exact fo) (n:=n) (by rw [bH];exact bw n ie) (Iv (by omega)) (bT n ie);refine iX (bB hn) ?_;refine cP YH dK ?_;refine ⟨⟨by omega,by rw [bJ];omega⟩,?_⟩;refine ⟨by rw [lQ];omega,?_⟩;refine dI ?_;have hv:=depN_get ND d e;rw [hn] at hv;have hv:(depN ND (d + 1)).getD e 0=bm n (depN ND d):=hv;obtain ⟨z,hz⟩:∃ z,(depN ND d)[e]? = some z:=⟨_,gE (by rw [bH];exact au)⟩;have T2:(depN ND d).getD e 0=z:=by rw [aH,hz];all_goals rfl
   have dw:=LA ND d e;rw [hv,T2] at dw
   have bd:(cN L).set (0 + (e:Int).toNat * 1) (DV.v (.int .i64 ((bm n (depN ND d):Nat):Int)))=cN (L.set e (bm n (depN ND d))):=by
    rw [show 0 + (e:Int).toNat * 1=e by omega,ni]
   have Xa:∀ i:Nat,i < e + 1->(L.set e (bm n (depN ND d))).getD i 0=(depN ND (d + 1)).getD i 0:=fun i hi=>by
    by_cases zA:i=e
    ·subst zA;rw [hv,aH,cO (by omega)];all_goals rfl
    ·rw [aH,List.getElem?_set_ne (Ne.symm zA),<- aH];exact hLv i (by omega)
   refine br ?_ ?_<;>intro g
   ·have g:ue ND d e=false:=sU g;rw [g,Bool.false_or] at dw
    have Rj:(cN (L.set e (bm n (depN ND d))))[0 + (e:Int).toNat * 1]? = some (DV.v (.int .i64 ((bm n (depN ND d):Nat):Int))):=by
     rw [show 0 + (e:Int).toNat * 1=e by omega];exact De (cO (by omega))
    refine ⟨⟨by omega,by rw [bJ];omega⟩,?_⟩;rw [bd];refine ⟨_,Rj,?_⟩;refine iX (aG hz) ?_
    have hbo:(!decide (((bm n (depN ND d):Nat):Int)=(z:Int)))=ue ND d (e + 1):=by
     rw [dw,Bool.eq_iff_iff];simp;omega
    exact ⟨O4 ND d (ue ND d (e + 1)) (L.set e (bm n (depN ND d))) (e + 1),(aq 1 rfl (gp hbo (aK au (by omega))) rfl rfl rfl (wB2 hbo (aK au (by omega)))),ND.length - (e + 1),by omega,e + 1,_,rfl,by omega,by rw [List.length_set];exact hL,Xa,rfl⟩
   ·have g:ue ND d e=true:=sU g;rw [g,Bool.true_or] at dw;exact ⟨O4 ND d (ue ND d (e + 1)) (L.set e (bm n (depN ND d))) (e + 1),(aq 1 rfl (UN bd dw.symm (aK au (by omega))) rfl rfl rfl (Ap bd dw.symm (aK au (by omega)))),ND.length - (e + 1),by omega,e + 1,_,rfl,by omega,by rw [List.length_set];exact hL,Xa,rfl⟩
  ·have aS:e=ND.length:=sW bJ au;subst aS
   have hLL:L=depN ND (d + 1):=kV (by rw [hL,bH]) fun j=>by
    rcases Nat.lt_or_ge j ND.length with hj | hj
    ·exact hLv j hj
    ·simp only [aH];rw [cQ (by omega),cQ (by rw [bH];omega)]
   subst hLL;refine ⟨O3 ND (d + 1) (ue ND d ND.length),.DL 0 rfl rfl rfl rfl ⟨⟨_,rfl,ax⟩,⟨_,rfl,yX (by rw [bH,bJ]) (by omega) rfl⟩,⟨_,rfl,ax⟩,trivial⟩,ND.length + 2 - (d + 1),by omega,d + 1,_,rfl,fun uG=>?_,fun uG=>OU (FF.1 uG),rfl⟩;have:depN ND (d + 1)≠depN ND d:=fun h=>by rw [FF.2 h] at uG;cases uG
   have:=RM this;omega
 ·have hc:c=false:=hc;rw [lF hc];exact ⟨_,ax,rfl⟩
theorem eZ.Iw {S:Sch} {ND:List Nd} {PC:List DV} (hP:eZ S ND PC):∀ n∈ND,n.ap.length<=1099511627776:=fun n hn=>by
 have h1:=hP.wt;rw [hP.A1] at hn;exact (pk hn h1).2
theorem va {S:Sch} {ND:List Nd} {PC:List DV} (hP:eZ S ND PC):aV prog 120 [.pt PC 0] (.sl 1 (dInts (depN ND ND.length)) none):=
 yY (rZ hP) hP.ok hP.nl hP.Iw fun _ _ _ _=>ax
theorem vb:aV prog 180 [.v (.pointer none)] (.sl 7 (bD []) none):=by
 refine JI ?_;refine eG 24 [.tmp 2] func180 rfl ntmps180 rfl fun _ _ _ _=>?_;refine cP uJ yj ?_;refine bA (fun j st=>st=⟨[(3,⟨[],.v (.slice none 0 0)⟩),(8,⟨[],.v (.int .i64 0)⟩),(9,⟨[],.v (.int .i64 0)⟩)],[],[]⟩) 0 ⟨[(3,⟨[],.v (.slice none 0 0)⟩),(8,⟨[],.v (.int .i64 0)⟩),(9,⟨[],.v (.int .i64 0)⟩)],[],[]⟩ (aj ⟨_,rfl⟩ wA rfl rfl rfl wB) rfl ?_;rintro j st rfl;exact Or.inr ⟨rfl,rfl⟩
theorem yZ:aV prog 120 [.v (.pointer none)] (.sl 1 [] none):=
 yY (L:=0) vb (fun _ h=>by cases h) (by decide) (fun _ h=>by cases h) fun _ _ _ _=>ax
def T3 (S:Sch) (r:DV):Prop:=∃ b:Bool,r = .v (.bool b)/\(b=true->(ma S).1=0)
theorem Ix {L:Nat} (D:List Nat) {x:Ed} (hx:ON L D.length x) :
  aV prog 210 [.agg (CU x),.pt [.sl 1 (dInts D) none] 0] (.v (.bool (dN D x))):=by
 refine eG 14 [.tmp 3] func210 rfl ntmps210 rfl fun _ _ _ _=>?_;refine br ?_ ?_<;>intro hb
 ·have hb:x.bare=false:=sU hb;obtain ⟨k,hk,ej⟩:=hx.to1 hb;obtain ⟨z,hz⟩:∃ z,D[k]? = some z:=⟨_,gE ej⟩;refine ⟨_,⟨by omega,by rw [hk];exact aG hz⟩,?_⟩;refine (congrArg (fun b=>DV.v (.bool b)) ?_:_=_);simp [dN,hb,bZ,hk,aH,hz,pickB]
 ·have hb:x.bare=true:=sU hb;refine (congrArg (fun b=>DV.v (.bool b)) ?_:_=_);simp [dN,hb,pickB]
abbrev aal (D:List Nat) (K:List Bool) (n:Nd) (m:Nat) (b:Bool) (e:Nat):St:=
 ⟨[(2,⟨[],.sl 1 (qT K) none⟩),(3,⟨[],.loc 0 0⟩),(7,⟨[],.fn 210 [] [.loc 1 0]⟩),(8,⟨[],.v (.int .i64 m)⟩),(9,⟨[],.v (.bool b)⟩),(14,⟨[],.sl 10 (cJ n.ap) none⟩),(15,⟨[],.v (.int .i64 (cJ n.ap).length)⟩),(16,⟨[],.v (.int .i64 e)⟩)],[gG n,[.sl 1 (dInts D) none]],[]⟩
theorem Dg {L:Nat} {n:Nd} (D:List Nat) (K:List Bool) (hl:K.length=D.length) (hD:D.length<=1099511627776) (hn:cz L D.length n) (ef:n.ap.length<=1099511627776) :
  aV prog 182 [.agg (gG n),.sl 1 (dInts D) none,.sl 1 (qT K) none] (.v (.bool (ei n D K))):=by
 have aZ:=hn.fJ;have jK:=hn.k1;have Fx:=hn.k8;obtain ⟨ag,ba,lo,hi,most,af,es⟩:=n;simp only at aZ ef jK Fx;refine eG 89 [.tmp 6] func182 rfl ntmps182 rfl fun _ _ _ _=>?_;refine bA (fun j st=>∃ e:Nat,st=aal D K ⟨ag,ba,lo,hi,most,af,es⟩ (manyN D (es.take e)) (eE D K (es.take e)) e/\e<=es.length/\j=es.length - e) es.length (aal D K ⟨ag,ba,lo,hi,most,af,es⟩ 0 false 0) (aj ⟨_,rfl⟩ wA rfl rfl rfl wB) ⟨0,by simp [manyN,eE],by omega,by omega⟩ ?_;rintro j st ⟨e,rfl,he,rfl⟩;refine br ?_ ?_<;>intro hL
 ·have au:e < es.length:=by have:=hL;simp [aW] at this;exact this
  obtain ⟨x,hx⟩:=gX au;have uE:=aZ x (mG hx);have r6:=Ix D uE
  have hm:manyN D (es.take (e + 1))=manyN D (es.take e) + if dN D x=true then 1 else 0:=by
   rw [List.take_add_one,hx];simp [manyN,List.countP_cons]
  have Ly:eE D K (es.take (e + 1))=(eE D K (es.take e) || zY D K x):=by
   rw [List.take_add_one,hx];simp [eE]
  have c9:manyN D (es.take e)<=e:=by
   have:manyN D (es.take e)<=(es.take e).length:=List.countP_le_length;rw [zLenT] at this;omega
  refine iX (aF hx) ?_;refine v7 YU r6 ax rfl rfl ?_;refine br ?_ ?_<;>intro ht
  ·have ht:dN D x=true:=ht;rw [ai ht] at hm;have hw:IntKind.i64.wrap (((manyN D (es.take e):Nat):Int) + 1)=((manyN D (es.take (e + 1)):Nat):Int):=by rw [hm,wrap64 (by omega) (by omega)];omega
   have ll:zY D K x=(!x.bare && K.getD x.to.toNat false):=by unfold zY;rw [ht,Bool.true_and]
   rw [ll] at Ly;refine br ?_ ?_<;>intro g1
   ·have g1:eE D K (es.take e)=false:=by simpa [lastG] using g1
    refine br ?_ ?_<;>intro g2
    ·have g2:x.bare=false:=sU g2;obtain ⟨k,hk,ej⟩:=uE.to1 g2;obtain ⟨z,hz⟩:∃ z,K[k]? = some z:=⟨_,gE (by omega)⟩;refine ⟨_,⟨by omega,by rw [hk];exact rU hz⟩,?_⟩;have e9:z=eE D K (es.take (e + 1)):=by rw [Ly,g1,g2,hk];simp [aH,hz]
     exact rE ⟨_,by omega,e + 1,rfl,by omega,rfl⟩ (aj ⟨_,rfl⟩ wA rfl rfl rfl (Ap hw e9 (aK au (by omega))))
    ·have g2:x.bare=true:=sU g2;have e9:false=eE D K (es.take (e + 1)):=by rw [Ly,g1,g2];all_goals rfl
     exact rE ⟨_,by omega,e + 1,rfl,by omega,rfl⟩ (aj ⟨_,rfl⟩ wA rfl rfl rfl (Ap hw e9 (aK au (by omega))))
   ·have g1:eE D K (es.take e)=true:=by simpa [lastG] using g1
    have e9:true=eE D K (es.take (e + 1)):=by rw [Ly,g1];all_goals rfl
    exact rE ⟨_,by omega,e + 1,rfl,by omega,rfl⟩ (aj ⟨_,rfl⟩ wA rfl rfl rfl (Ap hw e9 (aK au (by omega))))
  ·have ht:dN D x=false:=ht;rw [ah (by rw [ht];simp),Nat.add_zero] at hm;have ll:zY D K x=false:=by unfold zY;rw [ht];all_goals rfl
   rw [ll,Bool.or_false] at Ly;exact rE ⟨_,by omega,e + 1,rfl,by omega,rfl⟩ (aj ⟨_,rfl⟩ wA rfl rfl rfl (Ap hm.symm Ly.symm (aK au (by omega))))
 ·have aS:e=es.length:=by have:=hL;simp [aW] at this;omega
  subst aS;rw [List.take_length];refine br ?_ ?_<;>intro c1
  ·have c1:ag=1:=sU c1;refine (congrArg (fun b=>DV.v (.bool b)) ?_:_=_);simp [ei,c1]
  have c1:¬ ag=1:=sU c1;refine br ?_ ?_<;>intro c2
  ·have c2:ag=2:=sU c2;refine (congrArg (fun b=>DV.v (.bool b)) ?_:_=_);simp [ei,c2]
  have c2:¬ ag=2:=sU c2;refine br ?_ ?_<;>intro c3
  ·have c3:ag=3:=sU c3;refine (congrArg (fun b=>DV.v (.bool b)) ?_:_=_);simp [ei,c3]
  have c3:¬ ag=3:=sU c3;refine br ?_ ?_<;>intro c4
  ·have c4:ag=4:=sU c4;refine (congrArg (fun b=>DV.v (.bool b)) ?_:_=_);simp [ei,c4,cv];omega
  have c4:¬ ag=4:=sU c4;refine br ?_ ?_<;>intro c5
  ·have c5:ag=5:=sU c5;refine (congrArg (fun b=>DV.v (.bool b)) ?_:_=_);simp [ei,c5,aw]
  have c5:¬ ag=5:=sU c5;refine br ?_ ?_<;>intro c6
  ·have c6:ag=6:=sU c6;refine (congrArg (fun b=>DV.v (.bool b)) ?_:_=_);simp [ei,c6]
  have c6:¬ ag=6:=sU c6;refine br ?_ ?_<;>intro c7
  ·have c7:ag=7:=sU c7;refine (congrArg (fun b=>DV.v (.bool b)) ?_:_=_);rw [Bool.eq_iff_iff];simp [ei,c7,aw,aW];omega
  have c7:¬ ag=7:=sU c7;refine (congrArg (fun b=>DV.v (.bool b)) ?_:_=_);rw [Bool.eq_iff_iff];have I9:(1 < ((manyN D es:Nat):Int))↔1 < manyN D es:=by omega
  simp [ei,c1,c2,c3,c4,c5,c6,c7,ay,I9]
abbrev O5 (ND:List Nd) (D:List Nat) (K:List Bool) (c:Bool):St:=
 ⟨[(3,⟨[],.sl 7 (bD ND) none⟩),(4,⟨[],.sl 1 (dInts D) none⟩),(5,⟨[],.ms 0 1 0 (bD ND).length (bD ND).length⟩),(6,⟨[],.v (.bool c)⟩)],[cB K],[]⟩
abbrev JZ (ND:List Nd) (D:List Nat) (K:List Bool) (c:Bool) (e:Nat):St:=
 ⟨[(3,⟨[],.sl 7 (bD ND) none⟩),(4,⟨[],.sl 1 (dInts D) none⟩),(5,⟨[],.ms 0 1 0 (bD ND).length (bD ND).length⟩),(6,⟨[],.v (.bool c)⟩),(17,⟨[],.sl 7 (bD ND) none⟩),(18,⟨[],.v (.int .i64 (bD ND).length)⟩),(19,⟨[],.v (.int .i64 e)⟩)],[cB K],[]⟩
theorem r7 {L:Nat} {ND:List Nd} {p:DV} (h0:aV prog 180 [p] (.sl 7 (bD ND) none)) (h1:aV prog 120 [p] (.sl 1 (dInts (depN ND ND.length)) none)) (bw:∀ n∈ND,cz L ND.length n) (fo:ND.length<=1099511627776) (bT:∀ n∈ND,n.ap.length<=1099511627776) (uG:∀ bx N n m,Cc bx N n m p p) :
  aV prog 121 [p] (.sl 1 (qT (fq ND (depN ND ND.length))) none):=by
 have bJ:=cy ND;have hl:=bH ND ND.length;generalize depN ND ND.length=D at h1 hl ⊢;refine eG 40 [.tmp 2] func121 rfl ntmps121 rfl fun _ _ _ _=>?_;refine cP S7 h0 ?_ (gU uG);refine cP MV h1 ?_ (gU uG);refine ⟨⟨rfl,by omega,by rw [bJ];omega,by rw [bJ];omega⟩,?_⟩;refine bA (fun j st=>∃ (K:List Bool) (c:Bool),st=O5 ND D K c/\K.length=ND.length/\AP K (fq ND D)/\(c=false->∀ j n,ND[j]? = some n->ei n D K=true->K.getD j false=true)/\j=ND.length - kO K + if c=true then 1 else 0) (ND.length + 1) (O5 ND D (List.replicate ((bD ND).length:Int).toNat false) true) (aq 1 rfl (by repeat' (first | exact rfl | exact aA rfl | exact cF (E9 _) | refine ⟨_,_,rfl,?_,?_⟩)) rfl rfl rfl (by repeat' (first | exact trivial | exact aA rfl | exact cF (E9 _) | refine ⟨⟨_,rfl,?_⟩,?_⟩))) ⟨_,_,rfl,?_,?_,by simp,?_⟩ ?_
 ·rw [List.length_replicate,bJ];omega
 ·intro j hj;rw [aH,List.getElem?_replicate] at hj;split at hj<;>cases hj
 ·have:kO (List.replicate ((bD ND).length:Int).toNat false)=0:=by unfold kO;rw [List.countP_replicate];simp
  rw [this];simp
 rintro j st ⟨K,c,rfl,hK,dK,eK,rfl⟩;refine br ?_ ?_<;>intro hc
 ·have hc:c=true:=hc;subst hc;refine lI (fun j st=>∃ (e:Nat) (K':List Bool) (c':Bool),st=JZ ND D K' c' e/\e<=ND.length/\K'.length=ND.length/\AP K' (fq ND D)/\(c'=true->kO K < kO K')/\(c'=false->K'=K/\∀ i n,i < e->ND[i]? = some n->ei n D K=true->K.getD i false=true)/\j=ND.length - e) ⟨0,K,false,rfl,by omega,hK,dK,by simp,fun _=>⟨rfl,fun i _ hi=>by omega⟩,rfl⟩ (aq 1 rfl pO rfl rfl rfl lX) ?_;rintro j st ⟨e,K',c',rfl,he,hK',RQ,ht,hf,rfl⟩;refine br ?_ ?_<;>intro hL
  ·have au:e < ND.length:=by have:=hL;simp [bJ] at this;exact this
   obtain ⟨n,hn⟩:=gX au;have ie:=mG hn;obtain ⟨b,hb⟩:∃ b,K'[e]? = some b:=⟨_,gE (by omega)⟩;have pH:=Dg D K' (by omega) (by omega) (n:=n) (by rw [hl];exact bw n ie) (bT n ie);refine iX (bB hn) ?_;refine ⟨⟨by omega,by rw [bJ];omega⟩,?_⟩;refine ⟨DV.v (.bool b),(by rw [show 0 + (e:Int).toNat * 1=e by omega];exact HZ hb),?_⟩;have L5:K'.getD e false=b:=by rw [aH,hb];all_goals rfl
   have hcd:kO K<=kO K':=by
    cases c' with
    | true=>have:=ht rfl;omega
    | false=>rw [(hf rfl).1];omega
   refine br ?_ ?_<;>intro g
   ·have g:b=false:=sU g;refine v7 YI pH ⟨_,_,rfl,ax,_,_,rfl,ax,_,_,rfl,RP (by rw [hK',bJ]) (aU _) rfl,rfl⟩ rfl rfl ?_;refine br ?_ ?_<;>intro g2
    ·have g2:ei n D K'=true:=by simpa [pickB,pickD] using g2
     refine ⟨⟨by omega,by rw [bJ];omega⟩,?_⟩;refine ⟨by rw [qA];omega,?_⟩
     have bd:(cB K').set (0 + (e:Int).toNat * 1) (DV.v (.bool true))=cB (K'.set e true):=by
      rw [show 0 + (e:Int).toNat * 1=e by omega,yo]
     have dw:=OY (K:=K') (i:=e) (by omega) (by rw [L5];exact g);exact ⟨JZ ND D (K'.set e true) true (e + 1),(aq 1 rfl (gp bd (aK au (by omega))) rfl rfl rfl (wB2 bd (aK au (by omega)))),ND.length - (e + 1),by omega,e + 1,_,true,rfl,by omega,by rw [List.length_set];exact hK',OX RQ hn g2,fun _=>by omega,fun h=>(by cases h),rfl⟩
    ·have g2:ei n D K'=false:=by simpa [pickB,pickD] using g2
     refine ⟨JZ ND D K' c' (e + 1),(aq 1 rfl (nF (aK au (by omega))) rfl rfl rfl (dy (aK au (by omega)))),ND.length - (e + 1),by omega,e + 1,K',c',rfl,by omega,hK',RQ,ht,fun hc=>⟨(hf hc).1,fun i m hi hm hs=>?_⟩,rfl⟩;rcases eT hi with hi | rfl
     ·exact (hf hc).2 i m hi hm hs
     ·rw [hn] at hm;cases hm;rw [(hf hc).1] at g2;rw [g2] at hs;cases hs
   ·have g:b=true:=sU g;refine ⟨JZ ND D K' c' (e + 1),(aq 1 rfl (nF (aK au (by omega))) rfl rfl rfl (dy (aK au (by omega)))),ND.length - (e + 1),by omega,e + 1,K',c',rfl,by omega,hK',RQ,ht,fun hc=>⟨(hf hc).1,fun i m hi hm hs=>?_⟩,rfl⟩;rcases eT hi with hi | rfl
    ·exact (hf hc).2 i m hi hm hs
    ·rw [<- (hf hc).1,L5];exact g
  ·have aS:e=ND.length:=sW bJ hL;subst aS;have hcn:=rK K';refine ⟨O5 ND D K' c',(aj ⟨_,rfl⟩ pO rfl rfl rfl lX),ND.length - kO K' + (if c'=true then 1 else 0),?_,K',c',rfl,hK',RQ,?_,rfl⟩
   ·cases c' with
    | true=>have:=ht rfl;simp;omega
    | false=>rw [(hf rfl).1];simp
   ·intro hcf j n hn hs;obtain ⟨h2,h3⟩:=hf hcf;subst h2;exact h3 j n (gS hn).1 hn hs
 ·have hc:c=false:=hc;rw [<- RN hK dK (eK hc)];exact ⟨_,RP (by rw [hK,bJ]) (Nat.zero_le _) rfl,rfl⟩
theorem zZ {S:Sch} {ND:List Nd} {PC:List DV} (hP:eZ S ND PC):aV prog 121 [.pt PC 0] (.sl 1 (qT (fq ND (depN ND ND.length))) none):=
 r7 (rZ hP) (va hP) hP.ok hP.nl hP.Iw fun _ _ _ _=>ax
theorem Dh:aV prog 121 [.v (.pointer none)] (.sl 1 [] none):=
 r7 (L:=0) vb yZ (fun _ h=>by cases h) (by decide) (fun _ h=>by cases h) fun _ _ _ _=>ax
theorem jS (z:Nat):aV prog 184 [.v (.int .i64 z)] (.v (.int .i64 (iU z:Nat))):=by
 refine eG 6 [.tmp 2] func184 rfl ntmps184 rfl fun _ _ _ _=>?_;refine br ?_ ?_<;>intro h
 ·have h:2 < z:=by have:=h;simp at this;omega
  refine (congrArg (fun z=>DV.v (.int .i64 z)) ?_:_=_);unfold iU;rw [ai h];all_goals rfl
 ·have h:¬ 2 < z:=by have:=h;simp at this;omega
  refine (congrArg (fun z=>DV.v (.int .i64 z)) ?_:_=_);unfold iU;rw [ah h]
theorem BA (K:List Nat):∀ (es:List Ed) (a:Nat) (e:Ed),sumC K (es ++ [e]) a=iU (sumC K es a + ua K e)
 | [],a,e=>rfl
 | x :: r,a,e=>by rw [List.cons_append,sumC,sumC,BA K r]
theorem BB (K:List Nat):∀ (es:List Ed) (a:Nat) (e:Ed),qH K (es ++ [e]) a=iU (qH K es a * ua K e)
 | [],a,e=>rfl
 | x :: r,a,e=>by rw [List.cons_append,qH,qH,BB K r]
theorem J0 (n:Nat):iU n<=2:=by unfold iU;split<;>omega
theorem J1 (K:List Nat):∀ (es:List Ed) (a:Nat),a<=2->sumC K es a<=2
 | [],a,h=>h
 | e :: r,a,_=>by rw [sumC];exact J1 K r _ (J0 _)
theorem J2 (K:List Nat):∀ (es:List Ed) (a:Nat),a<=2->qH K es a<=2
 | [],a,h=>h
 | e :: r,a,_=>by rw [qH];exact J2 K r _ (J0 _)
abbrev Wl (K:List Nat) (n:Nd) (s a e:Nat):St:=
 ⟨[(1,⟨[],.sl 1 (dInts K) none⟩),(2,⟨[],.loc 0 0⟩),(5,⟨[],.v (.int .i64 s)⟩),(6,⟨[],.v (.int .i64 a)⟩),(7,⟨[],.v (.int .i64 e)⟩)],[gG n],[]⟩
theorem Di {L:Nat} {n:Nd} (K:List Nat) (hK:K.length<=1099511627776) (hz:∀ z∈K,z<=2) (hn:cz L K.length n) (ef:n.ap.length<=1099511627776) (fo:n.af.length<=1099511627776) :
  aV prog 130 [.agg (gG n),.sl 1 (dInts K) none] (.v (.int .i64 (ib n K:Nat))):=by
 have aZ:=hn.fJ;have hm3:=hn.JP;have hm5:=hn.uY;obtain ⟨ag,ba,lo,hi,most,af,es⟩:=n;simp only at aZ ef hm3 hm5 fo;have hbl:=cv af;refine eG 80 [.tmp 4] func130 rfl ntmps130 rfl fun _ _ _ _=>?_;refine lJ (fun e=>Wl K ⟨ag,ba,lo,hi,most,af,es⟩ (sumC K (es.take e) 0) (qH K (es.take e) 1) e) es.length (aj ⟨_,rfl⟩ wA rfl rfl rfl wB) ?_;intro e he;have hs2:=J1 K (es.take e) 0 (by omega);have zH:=J2 K (es.take e) 1 (by omega);refine br ?_ ?_<;>intro hL
 ·have au:e < es.length:=by have:=hL;simp [aW] at this;exact this
  obtain ⟨x,hx⟩:=gX au;have uE:=aZ x (mG hx);have lg:es.take (e + 1)=es.take e ++ [x]:=by rw [List.take_add_one,hx];all_goals rfl
  have hs:=BA K (es.take e) 0 x;have ha:=BB K (es.take e) 1 x;rw [<- lg] at hs ha;generalize sumC K (es.take e) 0=s at hs hs2 ⊢;generalize qH K (es.take e) 1=a at ha zH ⊢;refine iX (aF hx) ?_;refine br ?_ ?_<;>intro hb
  ·have hb:x.bare=false:=sU hb;obtain ⟨k,hk,ej⟩:=uE.to1 hb;obtain ⟨z,hz1⟩:∃ z,K[k]? = some z:=⟨_,gE ej⟩;have hv:ua K x=z:=by simp [ua,hb,bZ,hk,aH,hz1]
   have HK:=hz z (mG hz1);rw [hv] at hs ha;refine iX (aF hx) ?_;refine ⟨_,⟨by omega,by rw [hk];exact aG hz1⟩,?_⟩;have hw1:IntKind.i64.wrap ((s:Int) + (z:Int))=((s + z:Nat):Int):=by rw [wrap64 (by omega) (by omega)];omega
   have L2:a * z<=4:=Nat.le_trans (Nat.mul_le_mul zH HK) (by omega);have lF:(a:Int) * (z:Int)=((a * z:Nat):Int):=by push_cast;rfl
   have sX:IntKind.i64.wrap ((a:Int) * (z:Int))=((a * z:Nat):Int):=by rw [lF,wrap64 (by omega) (by omega)]
   have e1:((iU (s + z):Nat):Int)=((sumC K (es.take (e + 1)) 0:Nat):Int):=by rw [hs]
   have e2:((iU (a * z):Nat):Int)=((qH K (es.take (e + 1)) 1:Nat):Int):=by rw [ha]
   refine cP uK (jS (s + z)) ?_ (gU hw1);refine cP uK (jS (a * z)) ?_ (gU sX);exact rE ⟨_,by omega,e + 1,rfl,by omega,rfl⟩ (aj ⟨_,rfl⟩ wA rfl rfl rfl (Ap e1 e2 (aK au (by omega))))
  ·have hb:x.bare=true:=sU hb;have hv:ua K x=1:=by simp [ua,hb]
   rw [hv] at hs ha;have hw1:IntKind.i64.wrap ((s:Int) + 1)=((s + 1:Nat):Int):=by rw [wrap64 (by omega) (by omega)];omega
   have L2:a * 1<=4:=Nat.le_trans (Nat.mul_le_mul zH (show 1<=2 by omega)) (by omega);have lF:(a:Int) * 1=((a * 1:Nat):Int):=by push_cast;rfl
   have sX:IntKind.i64.wrap ((a:Int) * 1)=((a * 1:Nat):Int):=by rw [lF,wrap64 (by omega) (by omega)]
   have e1:((iU (s + 1):Nat):Int)=((sumC K (es.take (e + 1)) 0:Nat):Int):=by rw [hs]
   have e2:((iU (a * 1):Nat):Int)=((qH K (es.take (e + 1)) 1:Nat):Int):=by rw [ha]
   refine cP uK (jS (s + 1)) ?_ (gU hw1);refine cP uK (jS (a * 1)) ?_ (gU sX);exact rE ⟨_,by omega,e + 1,rfl,by omega,rfl⟩ (aj ⟨_,rfl⟩ wA rfl rfl rfl (Ap e1 e2 (aK au (by omega))))
 ·have aS:e=es.length:=by have:=hL;simp [aW] at this;omega
  subst aS;rw [List.take_length] at hs2 zH ⊢;refine br ?_ ?_<;>intro c1
  ·have c1:ag=1:=sU c1;refine (congrArg (fun z=>DV.v (.int .i64 z)) ?_:_=_);simp [ib,c1]
  have c1:¬ ag=1:=sU c1;refine br ?_ ?_<;>intro c2
  ·have c2:ag=2:=sU c2;refine br ?_ ?_<;>intro g
   ·have g:lo < hi:=sU g;refine (congrArg (fun z=>DV.v (.int .i64 z)) ?_:_=_);simp [ib,c2,g]
   ·have g:¬ lo < hi:=sU g;refine (congrArg (fun z=>DV.v (.int .i64 z)) ?_:_=_);simp [ib,c2,g]
  have c2:¬ ag=2:=sU c2;refine br ?_ ?_<;>intro c3
  ·have c3:ag=3:=sU c3;have hm:=hm3 c3;have hw:IntKind.i64.wrap (1 + most)=((1 + most.toNat:Nat):Int):=by rw [wrap64 (by omega) (by omega)];omega
   refine cP uK (jS (1 + most.toNat)) ?_ (gU hw);refine (congrArg (fun z=>DV.v (.int .i64 z)) ?_:_=_);simp [ib,c3]
  have c3:¬ ag=3:=sU c3;refine br ?_ ?_<;>intro c4
  ·have c4:ag=4:=sU c4;refine cP uK (jS af.length) ?_ (gU hbl);refine (congrArg (fun z=>DV.v (.int .i64 z)) ?_:_=_);simp [ib,c4]
  have c4:¬ ag=4:=sU c4;refine br ?_ ?_<;>intro c5
  ·have c5:ag=5:=sU c5;have hw:IntKind.i64.wrap (1 + ((sumC K es 0:Nat):Int))=((1 + sumC K es 0:Nat):Int):=by rw [wrap64 (by omega) (by omega)];omega
   refine br ?_ ?_<;>intro g
   ·have g:most=0:=sU g;refine (congrArg (fun z=>DV.v (.int .i64 z)) ?_:_=_);simp [ib,c5,g]
   ·have g:¬ most=0:=sU g;refine cP uK (jS (1 + sumC K es 0)) ?_ (gU hw);refine (congrArg (fun z=>DV.v (.int .i64 z)) ?_:_=_);simp [ib,c5,g]
  have c5:¬ ag=5:=sU c5;refine br ?_ ?_<;>intro c6
  ·have c6:ag=6:=sU c6;have hw:IntKind.i64.wrap (1 + ((sumC K es 0:Nat):Int))=((1 + sumC K es 0:Nat):Int):=by rw [wrap64 (by omega) (by omega)];omega
   refine cP uK (jS (1 + sumC K es 0)) ?_ (gU hw);refine (congrArg (fun z=>DV.v (.int .i64 z)) ?_:_=_);simp [ib,c6]
  have c6:¬ ag=6:=sU c6;refine br ?_ ?_<;>intro c7
  ·have c7:ag=7:=sU c7;refine (congrArg (fun z=>DV.v (.int .i64 z)) ?_:_=_);simp [ib,c7]
  have c7:¬ ag=7:=sU c7;refine (congrArg (fun z=>DV.v (.int .i64 z)) ?_:_=_);simp [ib,c1,c2,c3,c4,c5,c6,c7]
theorem RR (D:List Nat) (ND:List Nd) (i:Nat):(qL D (sevN ND D 0)).getD i 0=if D.getD i 0=0 then 0 else 1:=by
 have h0:(sevN ND D 0).getD i false=false:=by
  rw [sevN,aH,List.getElem?_replicate];split<;>rfl
 rw [Dd,h0];unfold qF;simp
theorem O6 (D:List Nat) (S:List Bool):∀ z∈qL D S,z<=2:=fun z hz=>by
 unfold qL at hz;obtain ⟨i,_,rfl⟩:=List.mem_map.1 hz;unfold qF;split
 ·omega
 ·split<;>omega
abbrev O7 (W:List DV) (D L:List Nat) (n i:Nat):St:=
 ⟨[(1,⟨[],.loc 0 0⟩),(3,⟨[],.sl 1 (dInts D) none⟩),(4,⟨[],.ms 1 1 0 n n⟩),(5,⟨[],.v (.int .i64 i)⟩)],[W,cN L],[]⟩
abbrev O8 (W:List DV) (D K:List Nat) (t:Nat):St:=
 ⟨[(1,⟨[],.loc 0 0⟩),(3,⟨[],.sl 1 (dInts D) none⟩),(4,⟨[],.sl 1 (dInts K) none⟩),(6,⟨[],.v (.int .i64 t)⟩)],[W],[]⟩
abbrev O9 (W:List DV) (D K M:List Nat) (n t i:Nat):St:=
 ⟨[(1,⟨[],.loc 0 0⟩),(3,⟨[],.sl 1 (dInts D) none⟩),(4,⟨[],.sl 1 (dInts K) none⟩),(6,⟨[],.v (.int .i64 t)⟩),(7,⟨[],.ms 1 1 0 n n⟩),(8,⟨[],.v (.int .i64 i)⟩)],[W,cN M],[]⟩
theorem fu {L:List Nat} {i e v:Nat} (he:e < L.length):(L.set e v).getD i 0=if i=e then v else L.getD i 0:=by
 by_cases h:i=e
 ·subst h;rw [ai rfl,aH,cO he];all_goals rfl
 ·rw [ah h,aH,List.getElem?_set_ne (Ne.symm h),<- aH]
theorem FG (a b:Nat) (A B:List (List DV)) {ND:List Nd} {L:Nat} (z:Int) (bw:∀ n∈ND,cz L ND.length n) (fo:ND.length<=1099511627776) (bT:∀ n∈ND,n.ap.length<=1099511627776) (du:∀ n∈ND,n.af.length<=1099511627776) :
  aV prog 64 [.agg (wG a b A B ND z)] (.sl 1 (dInts (qL (depN ND ND.length) (fq ND (depN ND ND.length)))) none):=by
 have bJ:=cy ND;have h0:=pW a b A B z bw fo bT;have hl:=bH ND ND.length;have ff:=depN_get ND ND.length;rw [depN_end] at ff;generalize depN ND ND.length=D at h0 hl ff ⊢;have GG:=Is D;have rC:=fun t i n (h:ND[i]? = some n)=>RO bw hl ff t h;refine eG 66 [.tmp 2] func64 rfl ntmps64 rfl fun _ _ _ _=>?_;refine cP n8 h0 ?_;refine ⟨⟨rfl,by omega,by rw [bJ];omega,by rw [bJ];omega⟩,?_⟩;refine bA (fun j st=>∃ (i:Nat) (L:List Nat),st=O7 (wG a b A B ND z) D L (bD ND).length i/\i<=ND.length/\L.length=ND.length/\(∀ k:Nat,k < i->L.getD k 0=(qL D (sevN ND D 0)).getD k 0)/\(∀ k:Nat,i<=k->L.getD k 0=0)/\j=ND.length - i) ND.length (O7 (wG a b A B ND z) D (List.replicate ((bD ND).length:Int).toNat 0) (bD ND).length 0) (aq 2 rfl (by repeat' (first | exact rfl | exact aA rfl | exact b9 (vI _) | refine ⟨_,_,rfl,?_,?_⟩)) rfl rfl rfl (by repeat' (first | exact trivial | exact aA rfl | exact b9 (vI _) | refine ⟨⟨_,rfl,?_⟩,?_⟩))) ⟨0,_,rfl,by omega,by rw [List.length_replicate,bJ];omega,fun _ h=>by omega,fun k _=>by rw [aH,List.getElem?_replicate];split<;>rfl,by omega⟩ ?_;rintro j st ⟨i,L,rfl,hi,hL,mD,sP,rfl⟩;refine br ?_ ?_<;>intro au
 ·have au:i < ND.length:=by have:=au;simp [bJ] at this;exact this
  obtain ⟨k,hk⟩:∃ k,D[i]? = some k:=⟨_,gE (by omega)⟩;have EU:D.getD i 0=k:=by rw [aH,hk];all_goals rfl
  have hq:=RR D ND i;rw [EU] at hq;refine iX (aG hk) ?_;refine br ?_ ?_<;>intro g
  ·have g:0 < k:=sU g;rw [ah (by omega)] at hq;refine ⟨⟨by omega,by rw [bJ];omega⟩,?_⟩;refine ⟨by rw [lQ];omega,?_⟩
   have bd:(cN L).set (0 + (i:Int).toNat * 1) (DV.v (.int .i64 1))=cN (L.set i 1):=by
    rw [show 0 + (i:Int).toNat * 1=i by omega];exact ni L i 1
   refine ⟨O7 (wG a b A B ND z) D (L.set i 1) (bD ND).length (i + 1),(aq 2 rfl (gp bd (aK au (by omega))) rfl rfl rfl (wB2 bd (aK au (by omega)))),ND.length - (i + 1),by omega,i + 1,_,rfl,by omega,by rw [List.length_set];exact hL,fun j hj=>?_,fun j hj=>?_,rfl⟩
   ·rw [fu (by omega)];split
    ·rename_i h;rw [h,hq]
    ·exact mD j (by omega)
   ·rw [fu (by omega),ah (by omega)];exact sP j (by omega)
  ·have g:k=0:=by have:=g;simp at this;omega
   rw [ai g] at hq;refine ⟨O7 (wG a b A B ND z) D L (bD ND).length (i + 1),(aq 2 rfl (nF (aK au (by omega))) rfl rfl rfl (dy (aK au (by omega)))),ND.length - (i + 1),by omega,i + 1,_,rfl,by omega,hL,fun j hj=>?_,fun j hj=>sP j (by omega),rfl⟩;rcases eT hj with hj | rfl
   ·exact mD j hj
   ·rw [hq,sP j (aU _)]
 have aS:i=ND.length:=sW bJ au;subst aS
 have hLq:L=qL D (sevN ND D 0):=kV (by rw [hL,GG,hl]) fun j=>by
  rcases Nat.lt_or_ge j ND.length with hj | hj
  ·exact mD j hj
  ·rw [sP j hj,aH,cQ (by rw [GG,hl];exact hj)];all_goals rfl
 subst hLq;refine CO (fun j st=>∃ t:Nat,st=O8 (wG a b A B ND z) D (qL D (sevN ND D t)) t/\t<=ND.length + 1/\j=ND.length + 1 - t) (ND.length + 1) (O8 (wG a b A B ND z) D (qL D (sevN ND D 0)) 0) (.DL 1 rfl rfl ⟨_,_,rfl,ax,rfl⟩ rfl ⟨⟨_,rfl,mv⟩,⟨_,rfl,ax⟩,⟨_,rfl,yX (by rw [GG,hl,bJ]) (aU _) rfl⟩,⟨_,rfl,ax⟩,trivial⟩) ⟨0,rfl,by omega,by omega⟩ ?_;rintro j st ⟨t,rfl,ht,rfl⟩;refine br ?_ ?_<;>intro au
 ·have au:t<=ND.length:=sW bJ au;refine ⟨⟨rfl,by omega,by rw [bJ];omega,by rw [bJ];omega⟩,?_⟩;refine bA (fun j st=>∃ (i:Nat) (M:List Nat),st=O9 (wG a b A B ND z) D (qL D (sevN ND D t)) M (bD ND).length t i/\i<=ND.length/\M.length=ND.length/\(∀ k:Nat,k < i->M.getD k 0=(qL D (sevN ND D (t + 1))).getD k 0)/\j=ND.length - i) ND.length (O9 (wG a b A B ND z) D (qL D (sevN ND D t)) (List.replicate ((bD ND).length:Int).toNat 0) (bD ND).length t 0) (aq 2 rfl (by repeat' (first | exact rfl | exact aA rfl | exact b9 (vI _) | refine ⟨_,_,rfl,?_,?_⟩)) rfl rfl rfl (by repeat' (first | exact trivial | exact aA rfl | exact b9 (vI _) | refine ⟨⟨_,rfl,?_⟩,?_⟩))) ⟨0,_,rfl,by omega,by rw [List.length_replicate,bJ];omega,fun _ h=>by omega,by omega⟩ ?_;rintro j st ⟨i,M,rfl,hi,hM,hv,rfl⟩;have I1:=GG (sevN ND D t);have Pa:=bi (qL D (sevN ND D t));refine br ?_ ?_<;>intro lh
  ·have lh:i < ND.length:=by have:=lh;simp [Pa,I1,hl] at this;exact this
   obtain ⟨n,hn⟩:=gX lh;have ie:=mG hn;obtain ⟨k,hk⟩:∃ k,D[i]? = some k:=⟨_,gE (by omega)⟩;have EU:D.getD i 0=k:=by rw [aH,hk];all_goals rfl
   have hs:=rC t i n hn;rw [EU] at hs;have hc:=Di (qL D (sevN ND D t)) (by omega) (O6 _ _) (n:=n) (by rw [I1,hl];exact bw n ie) (bT n ie) (du n ie);refine iX (bB hn) ?_;refine cP Yt hc ?_;generalize ib n (qL D (sevN ND D t))=q at hs ⊢;refine ⟨⟨by omega,by rw [bJ];omega⟩,?_⟩;refine ⟨by rw [lQ];omega,?_⟩
   have bd:(cN M).set (0 + (i:Int).toNat * 1) (DV.v (.int .i64 (q:Int)))=cN (M.set i q):=by
    rw [show 0 + (i:Int).toNat * 1=i by omega];exact ni M i q
   refine iX (aG hk) ?_;refine br ?_ ?_<;>intro g
   ·have g:k=0:=sU g;rw [ai g] at hs;refine ⟨⟨by omega,by rw [bJ];omega⟩,?_⟩;refine ⟨by rw [List.length_set,lQ];omega,?_⟩
    have aan:((cN M).set (0 + (i:Int).toNat * 1) (DV.v (.int .i64 (q:Int)))).set (0 + (i:Int).toNat * 1) (DV.v (.int .i64 0))=cN ((M.set i q).set i 0):=by
     rw [bd,show 0 + (i:Int).toNat * 1=i by omega];exact ni (M.set i q) i 0
    refine ⟨O9 (wG a b A B ND z) D (qL D (sevN ND D t)) ((M.set i q).set i 0) (bD ND).length t (i + 1),(aq 2 rfl (gp aan (aK lh (by omega))) rfl rfl rfl (wB2 aan (aK lh (by omega)))),ND.length - (i + 1),by omega,i + 1,_,rfl,by omega,by simp [hM],fun j hj=>?_,rfl⟩;rw [fu (by rw [List.length_set];omega)];split
    ·rename_i h;rw [h,hs]
    ·rename_i h;rw [fu (by omega),ah h];exact hv j (by omega)
   ·have g:¬ k=0:=sU g;rw [ah g] at hs;refine ⟨O9 (wG a b A B ND z) D (qL D (sevN ND D t)) (M.set i q) (bD ND).length t (i + 1),(aq 2 rfl (gp bd (aK lh (by omega))) rfl rfl rfl (wB2 bd (aK lh (by omega)))),ND.length - (i + 1),by omega,i + 1,_,rfl,by omega,by simp [hM],fun j hj=>?_,rfl⟩;rw [fu (by omega)];split
    ·rename_i h;rw [h,hs]
    ·exact hv j (by omega)
  ·have aS:i=ND.length:=by have:=lh;simp [Pa,I1,hl] at this;omega
   subst aS
   have hMq:M=qL D (sevN ND D (t + 1)):=kV (by rw [hM,GG,hl]) fun j=>by
    rcases Nat.lt_or_ge j ND.length with hj | hj
    ·exact hv j hj
    ·simp only [aH];rw [cQ (by omega),cQ (by rw [GG,hl];exact hj)]
   subst hMq;refine ⟨O8 (wG a b A B ND z) D (qL D (sevN ND D (t + 1))) (t + 1),.DL 1 rfl rfl ⟨_,_,rfl,ax,rfl⟩ rfl ⟨⟨_,rfl,mv⟩,⟨_,rfl,ax⟩,⟨_,rfl,yX (by rw [GG,hl,bJ]) (aU _) rfl⟩,⟨_,rfl,?_⟩,trivial⟩,ND.length + 1 - (t + 1),by omega,t + 1,rfl,by omega,rfl⟩;exact congrArg (fun z=>DV.v (Value.int .i64 z)) (aK (n:=1099511627777) (by omega) (by omega))
 ·have aS:t=ND.length + 1:=sW bJ au;subst aS;have:=yU ND D 1;rw [this];exact ⟨_,ax,rfl⟩
theorem Pb {L:Nat} {ND:List Nd} {D:List Nat} (bw:∀ n∈ND,cz L ND.length n) (ff:∀ j,D.getD j 0=match ND[j]? with | none=>0 | some n=>bm n D) (i:Nat):(fq ND D).getD i false=decide (1 < (qL D (fq ND D)).getD i 0):=by
 rw [Dd]
 have hs:(fq ND D).getD i false=match ND[i]? with | none=>false | some n=>ei n D (fq ND D):=by
  have:=sevN_get ND D ND.length i;rw [yU ND D 1] at this;exact this
 have hd:=ff i
 cases hn:ND[i]? with
 | none=>
  rw [hn] at hs;have hs:(fq ND D).getD i false=false:=hs;rw [hs];unfold qF;simp;split<;>omega
 | some n=>
  rw [hn] at hs hd;have hd:D.getD i 0=bm n D:=hd;unfold qF;cases hb:(fq ND D).getD i false
  ·simp;split<;>omega
  ·have hs:(fq ND D).getD i false=ei n D (fq ND D):=hs;rw [hb] at hs;have:=oL (bw n (mG hn)) hs.symm;rw [ah (by omega)];simp
def ld (D:List Nat) (e:Ed):Nat:=if e.bare=true then 0 else bZ D e
def minP (D:List Nat) (es:List Ed) (k:Nat):Bool:=match es[k]? with | some e=>dN D e && es.all (fun x=>!dN D x || decide (ld D e<=ld D x)) | none=>false
def bG (D:List Nat) (es:List Ed):Option Nat:=bS (minP D es) es.length
theorem mg {D:List Nat} {es:List Ed} {k:Nat}:minP D es k=true↔∃ e,es[k]? = some e/\dN D e=true/\∀ x∈es,dN D x=true->ld D e<=ld D x:=by
 unfold minP
 cases h:es[k]? with
 | none=>simp
 | some e=>
  simp only [aQ,List.all_eq_true,Bool.or_eq_true,Bool.not_eq_true',decide_eq_true_eq,oI,exists_eq_left'];refine and_congr_right fun _=>forall_congr' fun x=>forall_congr' fun _=>?_;cases dN D x<;>simp
theorem uf {D:List Nat} {es:List Ed} {k:Nat} {e:Ed} (h:es[k]? = some e) (ht:dN D e=true) (h1:∀ x∈es,dN D x=true->ld D e<=ld D x) (h2:∀ j x,j < k->es[j]? = some x->dN D x=true->ld D e < ld D x):bG D es=some k:=by
 refine bI (gS h).1 (mg.2 ⟨e,h,ht,h1⟩) fun j hj=>?_
 cases hm:minP D es j with
 | false=>rfl
 | true=>
  obtain ⟨x,hx,P8,hxm⟩:=mg.1 hm;have:=h2 j x hj hx P8;have:=hxm e (mG h) ht;omega
theorem vd {D:List Nat} {es:List Ed} (h:∀ x∈es,dN D x=false):bG D es=none:=by
 refine bU fun j _=>?_
 cases hm:minP D es j with
 | false=>rfl
 | true=>
  obtain ⟨x,hx,P8,_⟩:=mg.1 hm;rw [h x (mG hx)] at P8;cases P8
theorem FH {D:List Nat} {es:List Ed} {k:Nat} (h:bG D es=some k):∃ e,es[k]? = some e/\dN D e=true/\∀ x∈es,dN D x=true->ld D e<=ld D x:=mg.1 (cL h).2.1
theorem LB {D:List Nat}:∀ (m:Nat) {es:List Ed} {x:Ed},x∈es->dN D x=true->ld D x<=m->∃ k,bG D es=some k:=by
 intro m
 induction m with
 | zero=>
  intro es x hx ht hm
  cases hc:bG D es with
  | some k=>exact ⟨k,rfl⟩
  | none=>
   obtain ⟨j,hj,rfl⟩:=List.getElem_of_mem hx;have:=cu hc j hj;rw [mg.2 ⟨_,gE hj,ht,fun y _ _=>by omega⟩] at this;cases this
 | succ m ih=>
  intro es x hx ht hm;by_cases hy:∃ y∈es,dN D y=true/\ld D y<=m
  ·obtain ⟨y,h1,h2,h3⟩:=hy;exact ih h1 h2 h3
  ·cases hc:bG D es with
   | some k=>exact ⟨k,rfl⟩
   | none=>
    obtain ⟨j,hj,rfl⟩:=List.getElem_of_mem hx;have:=cu hc j hj
    rw [mg.2 ⟨_,gE hj,ht,fun y h1 h2=>by
     refine Nat.le_of_not_lt fun h=>hy ⟨y,h1,h2,by omega⟩⟩] at this
    cases this
def ve (D:List Nat) (es:List Ed) (k:Nat):Bool:=decide (bG D es≠some k) && (match es[k]? with | some e=>dN D e | none=>false)
def iZ (D:List Nat) (es:List Ed):Option Nat:=bS (ve D es) es.length
theorem mh {D:List Nat} {es:List Ed} {k:Nat} {e:Ed} (h:es[k]? = some e):ve D es k=(decide (bG D es≠some k) && dN D e):=by unfold ve;rw [h]
theorem mi {D:List Nat} {es:List Ed} {k:Nat} (h:iZ D es=some k):∃ e,es[k]? = some e/\dN D e=true:=by
 obtain ⟨h1,h2,_⟩:=cL h;have he:=gE h1;rw [mh he,aQ] at h2;exact ⟨_,he,h2.2⟩
theorem LD {D:List Nat} {es:List Ed} (h:iZ D es=none) {k:Nat} {e:Ed} (he:es[k]? = some e) (ht:dN D e=true):bG D es=some k:=by
 have:=cu h k (gS he).1;rw [mh he,ht,Bool.and_true,decide_eq_false_iff_not] at this;exact Classical.not_not.1 this
def FI (K:List Bool) (es:List Ed) (k:Nat):Bool:=match es[k]? with | some e=>K.getD e.to.toNat false | none=>false
def vJ (K:List Bool) (es:List Ed):Option Nat:=bS (FI K es) es.length
def bf (n:Nat):Nat:=min n 4097
theorem fH (n:Nat):bf n<=4097:=Nat.min_le_right _ _
def cw (sz:List Nat) (e:Ed):Nat:=if e.bare=true then 0 else bZ sz e
def sumX (sz:List Nat) (ba:Int):List Ed->Nat->Nat->Nat
 | [],_,n=>n
 | e :: r,i,n=>sumX sz ba r (i + 1) (if (i:Int)=ba then n else bf (n + cw sz e))
theorem lB {sz:List Nat} {c:Int}:∀ {es:List Ed} {i n:Nat},n<=4097->sumX sz c es i n<=4097
 | [],_,_,h=>h
 | e :: r,i,n,h=>by
  rw [sumX];refine lB ?_;split
  ·exact h
  ·exact fH _
theorem kj {sz:List Nat} {c:Int}:∀ {es:List Ed} {i n:Nat},n<=4097->n<=sumX sz c es i n
 | [],_,_,_=>aU _
 | e :: r,i,n,h=>by
  rw [sumX];split
  ·exact kj h
  ·refine Nat.le_trans ?_ (kj (fH _));unfold bf;omega
theorem BC (sz:List Nat) (c:Int):∀ (es:List Ed) (e:Ed) (i n:Nat),sumX sz c (es ++ [e]) i n=if ((i + es.length:Nat):Int)=c then sumX sz c es i n else bf (sumX sz c es i n + cw sz e)
 | [],e,i,n=>by simp [sumX]
 | x :: r,e,i,n=>by
  rw [List.cons_append,sumX,BC sz c r,sumX,List.length_cons,show i + 1 + r.length=i + (r.length + 1) by omega]
def sizeF (sz D:List Nat) (n:Nd):Nat:=
 if n.ag=7 then sumX sz (-1) n.ap 0 1
 else if n.ag=8 then (match bG D n.ap with | some c=>(match n.ap[c]? with | some e=>bf (1 + cw sz e) | none=>1) | none=>1)
 else 1
def ed (sz D:List Nat) (K:List Bool) (n:Nd):Nat × Option Nat:=
 if n.ag=5∨n.ag=6 then (match n.ap[0]? with | some e=>(bf (1 + cw sz e),none) | none=>(1,none))
 else if n.ag=7 then (match vJ K n.ap with | some c=>(match n.ap[c]? with | some e=>(sumX sz c n.ap 0 1,some e.to.toNat) | none=>(1,none)) | none=>(1,none))
 else if n.ag=8 then (match iZ D n.ap with
  | some c=>(match n.ap[c]? with | some e=>(bf (1 + cw sz e),none) | none=>(1,none))
  | none=>(match bG D n.ap with | some c=>(match n.ap[c]? with | some e=>(1,some e.to.toNat) | none=>(1,none)) | none=>(1,none)))
 else (1,none)
def othE (t:List Nat) (k:Nat × Option Nat):Nat:=match k.2 with
 | none=>k.1
 | some j=>if t.getD j 0=0 then 0 else bf (k.1 + t.getD j 0)
theorem FJ (sz D:List Nat) (K:List Bool) (n:Nd):1<=(ed sz D K n).1/\(ed sz D K n).1<=4097:=by
 have h1:∀ e,1<=bf (1 + cw sz e)/\bf (1 + cw sz e)<=4097:=fun e=>by unfold bf;omega
 have h2:∀ c,1<=sumX sz c n.ap 0 1/\sumX sz c n.ap 0 1<=4097:=fun c=>⟨kj (by omega),lB (by omega)⟩;unfold ed
 repeat' split
 all_goals first | exact h1 _ | exact h2 _ | exact ⟨aU 1,(by decide:(1:Nat)<=4097)⟩
end Go.Proofs.YtadhpeooehkklaaGreat
set_option maxRecDepth 100000
namespace Go.Proofs.YtadhpeooehkklaaGreat
open Go Go.RowKit
namespace Dv
def putN (sl:List (Nat × Sl)) (dst:Option Nat) (gs:List (Nat × Bool)) (s:DV) (K:List (Nat × Sl)->Prop):Prop:=
 match dst with
 | none=>K sl
 | some d=>K ((d,⟨gs,s⟩) :: sl)
def effN (X:Ctx) (bx:List (List DV)) (sl:List (Nat × Sl)) (op:Op) (K:DV->Prop):Prop:=
 match kb op with
 | true=>optP (effR X ⟨sl,bx,[]⟩ op K)
 | false=>optP (effR X ⟨sl,[],[]⟩ op K)
def goN (X:Ctx) (ops:Array Oper) (bx:List (List DV)) (F:List (Nat × Sl)->Prop):Nat->List Oper->List (Nat × Sl)->Prop
 | _,[],sl=>F sl
 | 0,_ :: _,_=>False
 | n + 1,o :: r,sl=>
  match gx X.nt sl o.dst with
  | false=>False
  | true=>
   match gz o.op with
   | true=>False
   | false=>
    match o.guard with
    | none=>
     match pureT X.P X.T ⟨sl,bx,[]⟩ [] o.op with
     | some s=>putN sl o.dst [] s (goN X ops bx F n r)
     | none=>
      match kb o.op || (pureT X.P X.T ⟨sl,[],[]⟩ [] o.op).isNone with
      | false=>False
      | true=>effN X bx sl o.op fun s=>putN sl o.dst [] s (goN X ops bx F n r)
    | some (j,want)=>
     match gslot ops.toList j with
     | none=>False
     | some d=>
      match get sl d with
      | none=>False
      | some ⟨iC,_⟩=>
       match pureT X.P X.T ⟨sl,bx,[]⟩ ((d,want) :: iC) o.op with
       | some s=>
        match Xl ((d,want) :: iC) o.dst with
        | true=>putN sl o.dst ((d,want) :: iC) s (goN X ops bx F n r)
        | false=>False
       | none=>
        match kb o.op || (pureT X.P X.T ⟨sl,[],[]⟩ ((d,want) :: iC) o.op).isNone with
        | false=>False
        | true=>
         match get sl (lastG (d,want) iC).1 with
         | some ⟨[],.v (.bool b)⟩=>
          match iC with
          | []=>Br (b == want)
            (resL d want sl fun s2=>effN X bx s2 o.op fun s=>putN s2 o.dst [] s (goN X ops bx F n r))
            (resL d (!want) sl fun s2=>putN s2 o.dst [] .ud (goN X ops bx F n r))
          | _ :: _=>Br (b == (lastG (d,want) iC).2)
            (resL (lastG (d,want) iC).1 (lastG (d,want) iC).2 sl fun s2=>goN X ops bx F n (o :: r) s2)
            (resL (lastG (d,want) iC).1 (!(lastG (d,want) iC).2) sl fun s2=>goN X ops bx F n (o :: r) s2)
         | some ⟨[],.ud⟩=>
          match iC with
          | []=>putN sl o.dst [] .ud (goN X ops bx F n r)
          | _ :: _=>False
         | _=>False
section
variable {X:Ctx} {ops:Array Oper} {bx:List (List DV)} {tk:List TkE} {W:Nat->Bool} {k:List It} {s00:List (Nat × Sl)} {t00:List TkE}
theorem putN_2 {sl:List (Nat × Sl)} {dst:Option Nat} {gs:List (Nat × Bool)} {s:DV} {K:List (Nat × Sl)->Prop} {K2:List (Nat × Sl)->St->Prop} (h:putN sl dst gs s K) (hK:∀ l,K l->K2 l ⟨l,bx,tk⟩):put2 sl ⟨sl,bx,tk⟩ dst true gs s K2:=by
 cases dst with
 | none=>exact hK _ h
 | some d=>exact hK _ h
theorem BD {st:St} {op:Op} {K K2:DV->Prop} (hK:∀ s,K s->K2 s):optP (effR X st op K)->optP (effR X st op K2):=by
 unfold effR
 repeat' split
 all_goals first | exact id | exact fun h=>⟨h.1,hK _ h.2⟩ | exact fun ⟨d,h⟩=>⟨d,h.1,hK _ h.2⟩
theorem Pc {sl:List (Nat × Sl)} {op:Op} {K:DV->Prop} {K2:Bool->DV->Prop} {D:Dr} (hb:D.iF.bx=bx) (hE:gz op=false) (hK:∀ s,K s->K2 true s) (h:effN X bx sl op K):optP (eR X D true sl ⟨sl,bx,tk⟩ op K2):=by
 unfold effN at h;unfold eR;rw [hE];simp only
 cases hl:kb op with
 | true=>
  rw [hl] at h;simp only at h ⊢;rw [hb];exact BD hK h
 | false=>
  rw [hl] at h;simp only at h ⊢;have:=BD hK h
  cases hq:effR X ⟨sl,[],[]⟩ op (K2 true) with
  | none=>rw [hq] at this;exact this.elim
  | some p=>rw [hq] at this;exact this
theorem Pd (iF:St) (hb:iF.bx=bx):∀ (n:Nat) (r:List Oper) (i:Nat) (sl:List (Nat × Sl)),goN X ops bx (fun sl=>go X 4000 k ⟨sl,bx,tk⟩) n r sl->goD X ⟨ops,W,k,iF,none⟩ n true (nOps i r) sl ⟨sl,bx,tk⟩
 | 0,[],i,sl,h=>h
 | n + 1,[],i,sl,h=>h
 | 0,_ :: _,_,_,h=>h.elim
 | n + 1,o :: r,i,sl,h=>by
  have ih:=Pd iF hb n r (i + 1);have T4:=Pd iF hb n (o :: r) i;show goD X ⟨ops,W,k,iF,none⟩ (n + 1) true ((i,o) :: nOps (i + 1) r) sl ⟨sl,bx,tk⟩;simp only [goN] at h;simp only [goD]
  cases bw:gx X.nt sl o.dst with
  | false=>rw [bw] at h;exact h.elim
  | true=>
  rw [bw] at h;simp only [Bool.and_self] at h ⊢
  cases hE:gz o.op with
  | true=>rw [hE] at h;exact h.elim
  | false=>
  rw [hE] at h;simp only at h ⊢
  have aao:∀ G s,pureT X.P X.T ⟨sl,bx,[]⟩ G o.op=some s->pR X ⟨ops,W,k,iF,none⟩ true sl ⟨sl,bx,tk⟩ G o.op=some (true,s):=fun G s hs=>by
   unfold pR;rw [hE,hb];simp only [Bool.not_false,Bool.or_true,Bool.and_self,hs]
  have aap:∀ G,pureT X.P X.T ⟨sl,bx,[]⟩ G o.op=none->(kb o.op || (pureT X.P X.T ⟨sl,[],[]⟩ G o.op).isNone)=true->pR X ⟨ops,W,k,iF,none⟩ true sl ⟨sl,bx,tk⟩ G o.op=none:=fun G hs h2=>by
   unfold pR;rw [hE,hb];simp only [Bool.not_false,Bool.or_true,Bool.and_self,hs]
   cases hl:kb o.op with
   | true=>rfl
   | false=>
    rw [hl,Bool.false_or,Option.isNone_iff_eq_none] at h2;rw [h2]
  cases hg:o.guard with
  | none=>
   rw [hg] at h;simp only at h ⊢
   cases hp:pureT X.P X.T ⟨sl,bx,[]⟩ [] o.op with
   | some s=>
    rw [hp] at h;rw [aao _ _ hp];exact putN_2 h ih
   | none=>
    rw [hp] at h;simp only at h
    cases h2:(kb o.op || (pureT X.P X.T ⟨sl,[],[]⟩ [] o.op).isNone) with
    | false=>rw [h2] at h;exact h.elim
    | true=>
     rw [h2] at h;rw [aap _ hp h2];exact Pc hb hE (fun s hs=>putN_2 hs ih) h
  | some jw=>
   obtain ⟨j,want⟩:=jw;rw [hg] at h;simp only at h ⊢
   cases sA:gslot ops.toList j with
   | none=>rw [sA] at h;exact h.elim
   | some d=>
   rw [sA] at h;simp only at h ⊢
   cases hd:get sl d with
   | none=>rw [hd] at h;exact h.elim
   | some x=>
   obtain ⟨iC,xs⟩:=x;rw [hd] at h;simp only at h ⊢
   cases hp:pureT X.P X.T ⟨sl,bx,[]⟩ ((d,want) :: iC) o.op with
   | some s=>
    rw [hp] at h;rw [aao _ _ hp];simp only at h ⊢
    cases hG:Xl ((d,want) :: iC) o.dst with
    | false=>rw [hG] at h;exact h.elim
    | true=>
     rw [hG] at h;exact putN_2 h ih
   | none=>
    rw [hp] at h;simp only at h
    cases h2:(kb o.op || (pureT X.P X.T ⟨sl,[],[]⟩ ((d,want) :: iC) o.op).isNone) with
    | false=>rw [h2] at h;exact h.elim
    | true=>
    rw [h2] at h;rw [aap _ hp h2];simp only at h ⊢
    cases hl:get sl (lastG (d,want) iC).1 with
    | none=>rw [hl] at h;exact h.elim
    | some y=>
    obtain ⟨gy,sy⟩:=y;rw [hl] at h;simp only [wM,vP] at h ⊢;split at h
    ·rename_i b hy;simp only [oI,Sl.mk.injEq] at hy;obtain ⟨rfl,rfl⟩:=hy;simp only
     cases iC with
     | nil=>
      simp only at h ⊢;unfold Br at h ⊢
      cases vx:(b == want) with
      | true=>
       rw [vx] at h;exact Pc hb hE (fun s hs=>putN_2 hs ih) h
      | false=>
       rw [vx] at h;simp only [Bool.or_true] at h ⊢;exact putN_2 h ih
     | cons q gs=>
      simp only at h ⊢;unfold Br at h ⊢
      cases vx:(b == (lastG (d,want) (q :: gs)).2) with
      | true=>rw [vx] at h;exact T4 _ h
      | false=>rw [vx] at h;exact T4 _ h
    ·rename_i hy;simp only [oI,Sl.mk.injEq] at hy;obtain ⟨rfl,rfl⟩:=hy
     cases iC with
     | nil=>
      simp only [Bool.or_true] at h ⊢;exact putN_2 h ih
     | cons q gs=>exact h.elim
    ·exact h.elim
theorem jH {id:Nat} {st:St} (hm:X.P.follows .mixedOrders=true) (hc:D8 ops (fun _=>false)=true)
  (h:goN X ops st.bx (fun sl=>go X 4000 k ⟨sl,st.bx,st.tk⟩) 3000 ops.toList st.sl):lS X id ops k st:=vU (fun _=>false) hm hc (Pd st rfl 3000 ops.toList 0 st.sl h)
end
end Dv
end Go.Proofs.YtadhpeooehkklaaGreat
set_option maxRecDepth 100000
namespace Go.Proofs.YtadhpeooehkklaaGreat
open Go Go.RowKit Dv Go.Proofs.Tryz
abbrev nj (PC:List DV) (ND:List Nd) (D:List Nat) (K:List Bool) (sz ot:List Nat):List DV:=[.pt PC 0,.sl 7 (bD ND) none,.sl 1 (dInts D) none,.sl 1 (qT K) none,.sl 1 (dInts sz) none,.sl 1 (dInts ot) none]
theorem ey (n:Nat):aV prog 126 [.v (.int .i64 n)] (.v (.int .i64 (bf n:Nat))):=by
 refine eG 5 [.tmp 2] func126 rfl ntmps126 rfl fun _ _ _ _=>?_;refine (congrArg (fun z=>DV.v (.int .i64 z)) ?_:_=_);unfold bf;omega
section
variable (PC:List DV) (ND:List Nd) (D:List Nat) (K:List Bool) (sz ot:List Nat) {L:Nat}
abbrev BE (n:Nd) (b:Option Nat) (e:Nat):St:=
 ⟨[(0,⟨[],.pt (nj PC ND D K sz ot) 0⟩),(3,⟨[],.loc 0 0⟩),(5,⟨[],.v (.int .i64 (oz b))⟩),(9,⟨[],.sl 10 (cJ n.ap) none⟩),(10,⟨[],.v (.int .i64 (cJ n.ap).length)⟩),(11,⟨[],.v (.int .i64 e)⟩)],[gG n],[]⟩
structure FK (D:List Nat) (es:List Ed) (e:Nat) (b:Option Nat):Prop where
 nb:∀ (j:Nat) x,j < e->es[j]? = some x->x.bare=false
 no:b=none->∀ (j:Nat) x,j < e->es[j]? = some x->dN D x=false
 yes:∀ k,b=some k->∃ x,k < e/\es[k]? = some x/\dN D x=true/\(∀ (j:Nat) y,j < e->es[j]? = some y->dN D y=true->bZ D x<=bZ D y)/\∀ (j:Nat) y,j < k->es[j]? = some y->dN D y=true->bZ D x < bZ D y
theorem FK.step {es:List Ed} {e:Nat} {b b':Option Nat} {x:Ed} (hB:FK D es e b) (hx:es[e]? = some x) (hb:x.bare=false)
  (h:(dN D x=false/\b'=b)∨(dN D x=true/\(∃ k y,b=some k/\es[k]? = some y/\bZ D y<=bZ D x)/\b'=b)∨(dN D x=true/\(b=none∨∃ k y,b=some k/\es[k]? = some y/\bZ D x < bZ D y)/\b'=some e)):FK D es (e + 1) b':=by
 have hnb:∀ (j:Nat) y,j < e + 1->es[j]? = some y->y.bare=false:=fun j y hj hy=>by
  rcases eT hj with h1 | rfl
  ·exact hB.nb j y h1 hy
  ·rw [hx] at hy;cases hy;exact hb
 rcases h with ⟨ht,rfl⟩ | ⟨ht,⟨k,y,rfl,hy,dK⟩,rfl⟩ | ⟨ht,hc,rfl⟩
 ·refine ⟨hnb,fun hn j y hj hy=>?_,fun k hk=>?_⟩
  ·rcases eT hj with h1 | rfl
   ·exact hB.no hn j y h1 hy
   ·rw [hx] at hy;cases hy;exact ht
  ·obtain ⟨z,h1,h2,h3,h4,h5⟩:=hB.yes k hk;refine ⟨z,by omega,h2,h3,fun j y hj hy Kn=>?_,h5⟩;rcases eT hj with h6 | rfl
   ·exact h4 j y h6 hy Kn
   ·rw [hx] at hy;cases hy;rw [ht] at Kn;cases Kn
 ·refine ⟨hnb,fun hn=>(by cases hn),fun k' hk=>?_⟩;cases hk;obtain ⟨z,h1,h2,h3,h4,h5⟩:=hB.yes k rfl;rw [hy] at h2;cases h2;refine ⟨_,by omega,hy,h3,fun j w hj hw Kn=>?_,h5⟩;rcases eT hj with h6 | rfl
  ·exact h4 j w h6 hw Kn
  ·rw [hx] at hw;cases hw;exact dK
 ·have au:∀ (j:Nat) w,j < e->es[j]? = some w->dN D w=true->bZ D x < bZ D w:=fun j w hj hw Kn=>by
   rcases hc with rfl | ⟨k,y,rfl,hy,hl⟩
   ·rw [hB.no rfl j w hj hw] at Kn;cases Kn
   ·obtain ⟨z,h1,h2,h3,h4,h5⟩:=hB.yes k rfl;rw [hy] at h2;cases h2;have:=h4 j w hj hw Kn;omega
  refine ⟨hnb,fun hn=>(by cases hn),fun k' hk=>?_⟩;cases hk;refine ⟨x,by omega,hx,ht,fun j w hj hw Kn=>?_,au⟩;rcases eT hj with h6 | rfl
  ·exact Nat.le_of_lt (au j w h6 hw Kn)
  ·rw [hx] at hw;cases hw;exact aU _
theorem choose_spec {n:Nd} (hD:D.length=ND.length) (hn:cz L ND.length n) (ef:n.ap.length<=1099511627776) :
  aV prog 143 [.pt (nj PC ND D K sz ot) 0,.agg (gG n)] (.v (.int .i64 (oz (bG D n.ap)))):=by
 have aZ:=hn.fJ;obtain ⟨ag,ba,lo,hi,most,af,es⟩:=n;simp only at aZ ef;have bJ:=aW es;refine eG 60 [.tmp 4] func143 rfl ntmps143 rfl fun _ _ _ _=>?_;refine lI (fun j st=>∃ (e:Nat) (b:Option Nat),st=BE PC ND D K sz ot ⟨ag,ba,lo,hi,most,af,es⟩ b e/\e<=es.length/\FK D es e b/\j=es.length - e) ⟨0,none,rfl,by omega,⟨fun _ _ h=>by omega,fun _ _ _ h=>by omega,fun _ h=>by cases h⟩,rfl⟩ (aq 1 rfl wA rfl rfl rfl wB) ?_;rintro j st ⟨e,b,rfl,he,hB,rfl⟩;refine br ?_ ?_<;>intro hL
 ·have au:e < es.length:=sV bJ hL;obtain ⟨x,hx⟩:=gX au;have uE:=aZ x (mG hx)
  have T5:∃ z,x.bare=false->D[x.to.toNat]? = some z/\x.to=(x.to.toNat:Nat)/\bZ D x=z:=by
   cases hb:x.bare with
   | true=>exact ⟨0,fun h=>by cases h⟩
   | false=>
    obtain ⟨k,hk,ej⟩:=uE.to1 hb;have hg:D[x.to.toNat]? = some D[x.to.toNat]:=gE (by omega);exact ⟨_,fun _=>⟨hg,by omega,by unfold bZ;rw [aH,hg];rfl⟩⟩
  obtain ⟨z,hz⟩:=T5;have aaq:x.bare=true->dN D x=true:=fun h=>by unfold dN;rw [h];all_goals rfl
  have LF:x.bare=false->dN D x=decide (0 < bZ D x):=fun h=>by unfold dN;rw [h];all_goals rfl
  have lZ:x.bare=true->ld D x=0:=fun h=>by unfold ld;rw [ai h]
  have jX:∀ (j:Nat) y,j < e->es[j]? = some y->dN D y=true->y.bare=false/\0 < bZ D y/\ld D y=bZ D y:=fun j y hj hy ht=>by
   have hb:=hB.nb j y hj hy;unfold dN at ht;rw [hb,Bool.false_or] at ht;exact ⟨hb,of_decide_eq_true ht,by unfold ld;rw [ah (by rw [hb];simp)]⟩
  have aar:x.bare=true->bG D es=some e:=fun hb=>by
   refine uf hx (aaq hb) (fun y _ _=>by rw [lZ hb];omega) fun j y hj hy ht=>?_;obtain ⟨_,h2,h3⟩:=jX j y hj hy ht;rw [lZ hb,h3];exact h2
  have iz:∀ b',x.bare=false->((dN D x=false/\b'=b)∨(dN D x=true/\(∃ k y,b=some k/\es[k]? = some y/\bZ D y<=bZ D x)/\b'=b)∨(dN D x=true/\(b=none∨∃ k y,b=some k/\es[k]? = some y/\bZ D x < bZ D y)/\b'=some e))->FK D es (e + 1) b':=fun b' hb h=>hB.step D hx hb h;clear aaq lZ jX;generalize dN D x=T at LF iz;generalize bZ D x=ex at hz LF iz;obtain ⟨en,eb,ea,et,r8,ew,ug,ui,uj,um⟩:=x;simp only at hz LF aar iz;refine iX (aF hx) ?_;refine br ?_ ?_<;>intro c
  ·rw [aar c];exact (rfl:_=_)
  ·subst c;obtain ⟨hz1,HK,Me⟩:=hz rfl;have LF:=LF rfl;have iz:=fun b'=>iz b' rfl;subst Me LF;obtain ⟨to,rfl⟩:∃ k:Nat,et=k:=⟨_,HK⟩;rw [dq] at hz1
   cases b with
   | none=>
    refine jH mo (by decide +kernel) ?_;refine ⟨_,⟨cp _,aG hz1⟩,?_⟩;refine br ?_ ?_<;>intro c
    ·have c:0 < ex:=by simpa [lastG] using c
     exact ⟨BE PC ND D K sz ot ⟨ag,ba,lo,hi,most,af,es⟩ (some e) (e + 1),(aq 1 rfl (nF (aK au (by omega))) rfl rfl rfl (dy (aK au (by omega)))),es.length - (e + 1),by omega,e + 1,some e,rfl,by omega,iz _ (.inr (.inr ⟨decide_eq_true c,.inl rfl,rfl⟩)),rfl⟩
    ·have c:¬ 0 < ex:=by simpa [lastG] using c
     exact ⟨BE PC ND D K sz ot ⟨ag,ba,lo,hi,most,af,es⟩ none (e + 1),(aq 1 rfl (nF (aK au (by omega))) rfl rfl rfl (dy (aK au (by omega)))),es.length - (e + 1),by omega,e + 1,none,rfl,by omega,iz _ (.inl ⟨decide_eq_false c,rfl⟩),rfl⟩
   | some k=>
    obtain ⟨y,vR,hy,hyt,_⟩:=hB.yes k rfl;have RS:=hB.nb k y vR hy;obtain ⟨ky,hky,hkyl⟩:=(aZ y (mG hy)).to1 RS;obtain ⟨zy,hzy⟩:∃ z,D[ky]? = some z:=⟨_,gE (by omega)⟩;have hzy2:bZ D y=zy:=by unfold bZ;rw [hky,dq,aH,hzy];all_goals rfl
    refine jH mo (by decide +kernel) ?_;refine ⟨_,⟨cp _,aG hz1⟩,?_⟩;refine br ?_ ?_<;>intro c
    ·have c:0 < ex:=by simpa [lastG] using c
     refine ⟨_,⟨cp _,aG hz1⟩,?_⟩;refine ⟨_,⟨cp _,aF hy⟩,?_⟩;refine ⟨_,⟨by rw [hky];exact cp _,by rw [hky];exact aG hzy⟩,?_⟩;refine br ?_ ?_<;>intro g
     ·have g:ex < zy:=by simpa [lastG,pickB] using g
      exact ⟨BE PC ND D K sz ot ⟨ag,ba,lo,hi,most,af,es⟩ (some e) (e + 1),(aq 1 rfl (nF (aK au (by omega))) rfl rfl rfl (dy (aK au (by omega)))),es.length - (e + 1),by omega,e + 1,some e,rfl,by omega,iz _ (.inr (.inr ⟨decide_eq_true c,.inr ⟨k,y,rfl,hy,by omega⟩,rfl⟩)),rfl⟩
     ·have g:¬ ex < zy:=by simpa [lastG,pickB] using g
      exact ⟨BE PC ND D K sz ot ⟨ag,ba,lo,hi,most,af,es⟩ (some k) (e + 1),(aq 1 rfl (nF (aK au (by omega))) rfl rfl rfl (dy (aK au (by omega)))),es.length - (e + 1),by omega,e + 1,some k,rfl,by omega,iz _ (.inr (.inl ⟨decide_eq_true c,⟨k,y,rfl,hy,by omega⟩,rfl⟩)),rfl⟩
    ·have c:¬ 0 < ex:=by simpa [lastG] using c
     exact ⟨BE PC ND D K sz ot ⟨ag,ba,lo,hi,most,af,es⟩ (some k) (e + 1),(aq 1 rfl (nF (aK au (by omega))) rfl rfl rfl (dy (aK au (by omega)))),es.length - (e + 1),by omega,e + 1,some k,rfl,by omega,iz _ (.inl ⟨decide_eq_false c,rfl⟩),rfl⟩
 ·have aS:e=es.length:=sW bJ hL;subst aS
  cases b with
  | none=>
   rw [vd fun x hx=>by
    obtain ⟨j,hj,rfl⟩:=List.getElem_of_mem hx
    exact hB.no rfl j _ hj (gE hj)]
   exact (rfl:_=_)
  | some k=>
   obtain ⟨x,h1,h2,h3,h4,h5⟩:=hB.yes k rfl;have hb:=hB.nb k x h1 h2;have T5:ld D x=bZ D x:=by unfold ld;rw [ah (by rw [hb];simp)]
   have hdy:∀ (j:Nat) y,j < es.length->es[j]? = some y->ld D y=bZ D y:=fun j y hj hy=>by unfold ld;rw [ah (by rw [hB.nb j y hj hy];simp)]
   rw [uf h2 h3 (fun y hy ht=>by
    obtain ⟨j,hj,rfl⟩:=List.getElem_of_mem hy;have gB:=gE hj;rw [T5,hdy j _ hj gB]
    exact h4 j _ hj gB ht) fun j y hj hy ht=>by
    rw [T5,hdy j y (by omega) hy]
    exact h5 j y hj hy ht]
   exact (rfl:_=_)
end
theorem T6 {a:Option Nat} {k:Nat}:((k:Nat):Int)≠oz a↔a≠some k:=by
 cases a with
 | none=>simp [oz]
 | some j=>simp [oz];omega
section
variable (PC:List DV) (ND:List Nd) (D:List Nat) (K:List Bool) (sz ot:List Nat) {L:Nat}
abbrev aas (n:Nd) (e:Nat):St:=
 ⟨[(0,⟨[],.pt (nj PC ND D K sz ot) 0⟩),(3,⟨[],.loc 0 0⟩),(5,⟨[],.v (.int .i64 (oz (bG D n.ap)))⟩),(12,⟨[],.sl 10 (cJ n.ap) none⟩),(13,⟨[],.v (.int .i64 (cJ n.ap).length)⟩),(14,⟨[],.v (.int .i64 e)⟩)],[gG n],[]⟩
theorem y4 {n:Nd} (hD:D.length=ND.length) (hn:cz L ND.length n) (ef:n.ap.length<=1099511627776) :
  aV prog 145 [.pt (nj PC ND D K sz ot) 0,.agg (gG n)] (.v (.int .i64 (oz (iZ D n.ap)))):=by
 have z6:=choose_spec PC ND D K sz ot hD hn ef;have aZ:=hn.fJ;obtain ⟨ag,ba,lo,hi,most,af,es⟩:=n;simp only at aZ ef z6;have bJ:=aW es;refine eG 39 [.tmp 4] func145 rfl ntmps145 rfl fun _ _ _ _=>?_;refine cP Jg z6 ?_;refine lI (fun j st=>∃ e:Nat,st=aas PC ND D K sz ot ⟨ag,ba,lo,hi,most,af,es⟩ e/\e<=es.length/\(∀ k,k < e->ve D es k=false)/\j=es.length - e) ⟨0,rfl,by omega,fun _ h=>by omega,rfl⟩ (aq 1 rfl wA rfl rfl rfl wB) ?_;rintro j st ⟨e,rfl,he,hB,rfl⟩;refine br ?_ ?_<;>intro hL
 ·have au:e < es.length:=sV bJ hL;obtain ⟨x,hx⟩:=gX au;have uE:=aZ x (mG hx);have nP:=mh (D:=D) hx;have Pe:ve D es e=true->iZ D es=some e:=fun h=>bI au h hB
  have fv:ve D es e=false->∀ k,k < e + 1->ve D es k=false:=fun h k hk=>by
   rcases eT hk with h1 | rfl
   ·exact hB k h1
   ·exact h
  have T5:∃ z,x.bare=false->D[x.to.toNat]? = some z/\0<=x.to/\dN D x=decide (0 < z):=by
   cases hb:x.bare with
   | true=>exact ⟨0,fun h=>by cases h⟩
   | false=>
    obtain ⟨k,hk,ej⟩:=uE.to1 hb;have hg:D[x.to.toNat]? = some D[x.to.toNat]:=gE (by omega);exact ⟨_,fun _=>⟨hg,by omega,by unfold dN bZ;rw [hb,aH,hg];rfl⟩⟩
  obtain ⟨z,hz⟩:=T5;have cY:x.bare=true->dN D x=true:=fun h=>by unfold dN;rw [h];all_goals rfl
  generalize ve D es e=T at nP Pe fv;generalize dN D x=B at nP hz cY;obtain ⟨en,eb,ea,et,r8,ew,ug,ui,uj,um⟩:=x;simp only at hz cY;refine iX (aF hx) ?_;refine jH mo (by decide +kernel) ?_;refine br ?_ ?_<;>intro c1
  ·have c1:bG D es≠some e:=T6.1 (by simpa [lastG] using c1);refine br ?_ ?_<;>intro c2
   ·have c2:eb=false:=by simpa [lastG] using c2
    obtain ⟨hz1,HK,Me⟩:=hz c2;refine ⟨_,⟨HK,aG hz1⟩,?_⟩;refine br ?_ ?_<;>intro g
    ·have g:0 < z:=by simpa [lastG,pickB] using g
     rw [Pe (by rw [nP,Me,decide_eq_true g,Bool.and_true];exact decide_eq_true c1)];exact (rfl:_=_)
    ·have g:¬ 0 < z:=by simpa [lastG,pickB] using g
     exact rE ⟨_,by omega,e + 1,rfl,by omega,fv (by rw [nP,Me,decide_eq_false g,Bool.and_false]),rfl⟩ (aq 1 rfl (nF (aK au (by omega))) rfl rfl rfl (dy (aK au (by omega))))
   ·have c2:eb=true:=by simpa [lastG] using c2
    rw [Pe (by rw [nP,cY c2,Bool.and_true];exact decide_eq_true c1)];exact (rfl:_=_)
  ·have c1:¬ bG D es≠some e:=fun h=>by
    have:=T6.2 h;simp [lastG] at c1;exact this c1
   exact rE ⟨_,by omega,e + 1,rfl,by omega,fv (by rw [nP,decide_eq_false c1,Bool.false_and]),rfl⟩ (aq 1 rfl (nF (aK au (by omega))) rfl rfl rfl (dy (aK au (by omega))))
 ·have aS:e=es.length:=sW bJ hL;subst aS;rw [show iZ D es=none from bU hB];exact (rfl:_=_)
theorem qI {e:Ed} (hs:sz.length=ND.length) (he:ON L ND.length e) :
  aV prog 183 [.pt (nj PC ND D K sz ot) 0,.agg (CU e)] (.v (.int .i64 (cw sz e:Nat))):=by
 obtain ⟨en,eb,ea,et,r8,ew,ug,ui,uj,um⟩:=e;have h1:=he.to1;simp only at h1;refine eG 15 [.tmp 4] func183 rfl ntmps183 rfl fun _ _ _ _=>?_;refine br ?_ ?_<;>intro c
 ·subst c;exact (rfl:_=_)
 ·subst c;obtain ⟨k,rfl,ej⟩:=h1 rfl;have hg:sz[k]? = some sz[k]:=gE (by omega);refine jH mo (by decide +kernel) ?_;refine ⟨_,⟨cp _,aG hg⟩,?_⟩;refine (congrArg (fun z=>DV.v (.int .i64 z)) ?_:_=_);unfold cw bZ;simp [aH,hg]
end
theorem BF {K:List Nat}:∀ {es:List Ed} {m:Nat},0 < leastR K es m->m < leastR K es m/\∀ e∈es,0 < bZ K e/\bZ K e < leastR K es m
 | [],m,_=>⟨Nat.lt_succ_self m,fun e he=>by cases he⟩
 | x :: r,m,h=>by
  rw [leastR] at h ⊢;split at h
  ·omega
  ·rename_i h0;rw [ah h0];obtain ⟨h1,h2⟩:=BF h;refine ⟨by omega,fun e he=>?_⟩;rcases bL he with rfl | he
   ·omega
   ·exact h2 e he
theorem uo {K:List Nat}:∀ {es:List Ed} {b:Nat},0 < ct K es b->(∃ e∈es,dN K e=true/\ld K e < ct K es b)∨(0 < b/\b < ct K es b)
 | [],b,h=>by
  rw [ct] at h ⊢;split at h
  ·omega
  ·rename_i h0;rw [ah h0];omega
 | x :: r,b,h=>by
  have hup:∀ {v:Nat},(∃ e∈r,dN K e=true/\ld K e < v)->∃ e∈x :: r,dN K e=true/\ld K e < v:=fun ⟨e,h1,h2⟩=>⟨e,dj _ h1,h2⟩;rw [ct] at h ⊢;split at h
  ·rename_i hb;rw [ai hb];exact .inl ⟨x,List.mem_cons_self,by unfold dN;rw [hb];rfl,by unfold ld;rw [ai hb];omega⟩
  ·rename_i hb;rw [ah hb];split at h
   ·rename_i h0;rw [ai h0];rcases uo h with h1 | ⟨h1,h2⟩
    ·exact .inl (hup h1)
    ·refine .inl ⟨x,List.mem_cons_self,?_,?_⟩
     ·unfold dN;simp [h1]
     ·unfold ld;rw [ah hb];exact h2
   ·rename_i h0;rw [ah h0];rcases uo h with h1 | h1
    ·exact .inl (hup h1)
    ·exact .inr h1
theorem choose_lt {K:List Nat} {es:List Ed} (h:0 < ct K es 0):∃ c e,bG K es=some c/\es[c]? = some e/\dN K e=true/\ld K e < ct K es 0:=by
 rcases uo h with ⟨x,h1,h2,h3⟩ | h1
 ·obtain ⟨c,hc⟩:=LB (ld K x) h1 h2 (aU _);obtain ⟨e,he,ht,hm⟩:=FH hc;have:=hm x h1 h2;exact ⟨c,e,hc,he,ht,by omega⟩
 ·omega
structure gv (ND:List Nd) (D:List Nat):Prop where
 len:D.length=ND.length
 le:∀ i,D.getD i 0<=ND.length
 get:∀ i n,ND[i]? = some n->D.getD i 0=bm n D
theorem eH (ND:List Nd):gv ND (depN ND ND.length):=by
 refine ⟨bH _ _,JV ND _,fun i n hn=>?_⟩;have:=depN_get ND ND.length i;rw [depN_end,hn] at this;exact this
theorem gv.T7 {ND:List Nd} {D:List Nat} (h:gv ND D) {i:Nat} {n:Nd} (hn:ND[i]? = some n) (h0:0 < D.getD i 0) (h7:n.ag=7):∀ e∈n.ap,0 < bZ D e/\bZ D e < D.getD i 0:=by
 have h1:=h.get i n hn;rw [bm,ai h7] at h1;rw [h1] at h0 ⊢;exact (BF h0).2
theorem gv.Pf {ND:List Nd} {D:List Nat} (h:gv ND D) {i:Nat} {n:Nd} (hn:ND[i]? = some n) (h0:0 < D.getD i 0) (h8:n.ag=8):∃ c e,bG D n.ap=some c/\n.ap[c]? = some e/\(e.bare=false->0 < bZ D e/\bZ D e < D.getD i 0):=by
 have h1:=h.get i n hn;rw [bm,ah (by omega),ai h8] at h1;rw [h1] at h0 ⊢;obtain ⟨c,e,hc,he,ht,hl⟩:=choose_lt h0;refine ⟨c,e,hc,he,fun hb=>?_⟩;unfold dN at ht;rw [hb,Bool.false_or] at ht;unfold ld at hl;rw [ah (by rw [hb];simp)] at hl;exact ⟨of_decide_eq_true ht,hl⟩
def szL (ND:List Nd) (D:List Nat) (d:Nat):Nat->List Nat->List Nat
 | 0,t=>t
 | e + 1,t=>match ND[e]? with
  | none=>szL ND D d e t
  | some n=>if D.getD e 0=d then (szL ND D d e t).set e (sizeF (szL ND D d e t) D n) else szL ND D d e t
def szR (ND:List Nd) (D:List Nat):Nat->List Nat
 | 0=>List.replicate ND.length 0
 | d + 1=>szL ND D (d + 1) ND.length (szR ND D d)
theorem nk (ND:List Nd) (D:List Nat) (d:Nat):∀ e t,(szL ND D d e t).length=t.length
 | 0,t=>rfl
 | e + 1,t=>by
  rw [szL];split
  ·exact nk ND D d e t
  ·split
   ·rw [List.length_set];exact nk ND D d e t
   ·exact nk ND D d e t
theorem pq (ND:List Nd) (D:List Nat):∀ d,(szR ND D d).length=ND.length
 | 0=>List.length_replicate
 | d + 1=>by rw [szR,nk];exact pq ND D d
theorem Iy {ND:List Nd} {D:List Nat} {d:Nat} (h:∀ i,D.getD i 0≠d):∀ e t,szL ND D d e t=t
 | 0,t=>rfl
 | e + 1,t=>by
  rw [szL];split
  ·exact Iy h e t
  ·rw [ah (h e)];exact Iy h e t
theorem J3 {ND:List Nd} {D:List Nat} {m:Nat} (h:∀ i,D.getD i 0<=m):∀ k,szR ND D (m + k)=szR ND D m
 | 0=>rfl
 | k + 1=>by
  show szL ND D (m + k + 1) ND.length (szR ND D (m + k))=_;rw [Iy (fun i=>by have:=h i;omega)];exact J3 h k
theorem mj {ND:List Nd} {D:List Nat} {d:Nat} {i:Nat} (h:D.getD i 0≠d):∀ (e:Nat) (t:List Nat),(szL ND D d e t).getD i 0=t.getD i 0
 | 0,t=>rfl
 | e + 1,t=>by
  rw [szL];split
  ·exact mj h e t
  ·split
   ·rename_i he;have bF:i≠e:=fun zA=>h (zA ▸ he);rw [aH,List.getElem?_set_ne (by omega),<- aH];exact mj h e t
   ·exact mj h e t
theorem J4 {ND:List Nd} {D:List Nat} {d:Nat} {i:Nat} {n:Nd} (hn:ND[i]? = some n) (h:D.getD i 0=d):∀ (e:Nat) (t:List Nat),t.length=ND.length->i < e->(szL ND D d e t).getD i 0=sizeF (szL ND D d i t) D n
 | e + 1,t,hl,hi=>by
  have Et:=(gS hn).1;rw [szL];rcases eT hi with h1 | rfl
  ·have ih:=J4 hn h e t hl h1;split
   ·exact ih
   ·split
    ·rw [aH,List.getElem?_set_ne (by omega),<- aH];exact ih
    ·exact ih
  ·rw [hn];simp only;rw [ai h,fu (by rw [nk];omega),ai rfl]
theorem y5 {a b:List Nat} {c:Int}:∀ {es:List Ed} {i n:Nat},(∀ e∈es,cw a e=cw b e)->sumX a c es i n=sumX b c es i n
 | [],_,_,_=>rfl
 | e :: r,i,n,h=>by
  rw [sumX,sumX,h e List.mem_cons_self];exact y5 fun x hx=>h x (dj _ hx)
theorem y6 {a b:List Nat} {e:Ed} (h:e.bare=false->a.getD e.to.toNat 0=b.getD e.to.toNat 0):cw a e=cw b e:=by
 unfold cw bZ
 cases hb:e.bare with
 | true=>rfl
 | false=>simp only [Bool.false_eq_true,if_false];exact h hb
theorem FL {ND:List Nd} {D a b:List Nat} (h:gv ND D) {i:Nat} {n:Nd} (hn:ND[i]? = some n) (h0:0 < D.getD i 0) (zN:∀ j,0 < D.getD j 0->D.getD j 0 < D.getD i 0->a.getD j 0=b.getD j 0):sizeF a D n=sizeF b D n:=by
 unfold sizeF;split
 ·rename_i h7;refine y5 fun e he=>y6 fun _=>?_;obtain ⟨h1,h2⟩:=h.T7 hn h0 h7 e he;exact zN _ h1 h2
 ·split
  ·rename_i h8;obtain ⟨c,e,hc,he,hp⟩:=h.Pf hn h0 h8;rw [hc];simp only [he];rw [y6 fun hb=>zN _ (hp hb).1 (hp hb).2]
  ·rfl
theorem wu {ND:List Nd} {D:List Nat} {i:Nat}:∀ (k d:Nat),D.getD i 0<=d->(szR ND D (d + k)).getD i 0=(szR ND D d).getD i 0
 | 0,d,_=>rfl
 | k + 1,d,h=>by
  show (szL ND D (d + k + 1) ND.length (szR ND D (d + k))).getD i 0=_;rw [mj (by omega)];exact wu k d h
def kk (ND:List Nd) (D:List Nat):List Nat:=szR ND D ND.length
theorem np (ND:List Nd) (D:List Nat):(kk ND D).length=ND.length:=pq ND D _
theorem J5 {ND:List Nd} {D:List Nat} (h:gv ND D) {i:Nat} {n:Nd} (hn:ND[i]? = some n) (h0:0 < D.getD i 0):(kk ND D).getD i 0=sizeF (kk ND D) D n:=by
 have dK:=h.le i;have Et:=(gS hn).1;obtain ⟨d,hd⟩:∃ d,D.getD i 0=d + 1:=⟨_,(Nat.succ_pred_eq_of_pos h0).symm⟩;obtain ⟨k,hk⟩:∃ k,ND.length=d + 1 + k:=⟨ND.length - (d + 1),by omega⟩
 have h1:(kk ND D).getD i 0=(szR ND D (d + 1)).getD i 0:=by
  unfold kk;rw [hk];exact wu k (d + 1) (by omega)
 rw [h1,szR,J4 hn hd _ _ (pq ND D d) Et];refine FL h hn h0 fun j hj nY=>?_;rw [mj (by omega)];unfold kk;rw [hk,Nat.add_assoc];exact (wu (1 + k) d (by omega)).symm
theorem Pg {ND:List Nd} {D:List Nat} {i:Nat} (h0:D.getD i 0=0):(kk ND D).getD i 0=0:=by
 unfold kk;have:=wu (ND:=ND) (D:=D) (i:=i) ND.length 0 (by omega);rw [Nat.zero_add] at this;rw [this,szR,aH,List.getElem?_replicate];split<;>rfl
theorem pu (a D:List Nat) (n:Nd):1<=sizeF a D n/\sizeF a D n<=4097:=by
 unfold sizeF;split
 ·exact ⟨kj (by omega),lB (by omega)⟩
 ·split
  ·split
   ·split
    ·unfold bf;omega
    ·omega
   ·omega
  ·omega
theorem lC {ND:List Nd} {D:List Nat} (h:gv ND D) {i:Nat}:(0 < (kk ND D).getD i 0↔0 < D.getD i 0)/\(kk ND D).getD i 0<=4097:=by
 rcases Nat.eq_zero_or_pos (D.getD i 0) with h0 | h0
 ·rw [Pg h0,h0];omega
 ·have Et:i < ND.length:=by
   rcases Nat.lt_or_ge i ND.length with h1 | h1
   ·exact h1
   ·rw [aH,cQ (by rw [h.len];exact h1)] at h0;simp at h0
  have hs:=J5 h (gE Et) h0;have:=pu (kk ND D) D ND[i];rw [hs];omega
def othK (sz D:List Nat) (K:List Bool) (ND:List Nd) (i:Nat):Option (Nat × Option Nat):=match ND[i]? with | some n=>if K.getD i false=true then some (ed sz D K n) else none | none=>none
def otI (kf:Nat->Option (Nat × Option Nat)) (i:Nat) (t:List Nat):List Nat:=match kf i with | some k=>t.set i (othE t k) | none=>t
def pv (kf:Nat->Option (Nat × Option Nat)):Nat->List Nat->List Nat
 | 0,t=>t
 | e + 1,t=>otI kf e (pv kf e t)
def gj (kf:Nat->Option (Nat × Option Nat)) (N:Nat):Nat->List Nat
 | 0=>List.replicate N 0
 | r + 1=>pv kf N (gj kf N r)
def z7 (kf:Nat->Option (Nat × Option Nat)) (t:List Nat):Prop:=∀ i,t.getD i 0≠0->∃ k,kf i=some k/\t.getD i 0=othE t k
def GH (a b:List Nat):Prop:=∀ i:Nat,a.getD i 0≠0->b.getD i 0=a.getD i 0
theorem GH.refl (a:List Nat):GH a a:=fun _ _=>rfl
theorem GH.trans {a b c:List Nat} (h1:GH a b) (h2:GH b c):GH a c:=fun i hi=>by rw [h2 i (by rw [h1 i hi];exact hi),h1 i hi]
theorem BG {a b:List Nat} (h:GH a b) {k:Nat × Option Nat} (h0:othE a k≠0):othE b k=othE a k:=by
 obtain ⟨s,o⟩:=k
 cases o with
 | none=>rfl
 | some j=>
  simp only [othE] at h0 ⊢;split at h0
  ·exact (h0 rfl).elim
  ·rename_i h1;rw [h j h1,ah h1]
theorem FM {l:List Nat} {i:Nat} (v:Nat) (h:l.getD i 0=v):l.set i v=l:=by
 refine kV (List.length_set) fun j=>?_;rcases Nat.lt_or_ge i l.length with h1 | h1
 ·rw [fu h1];split
  ·rename_i h2;rw [h2,h]
  ·rfl
 ·rw [List.set_eq_of_length_le h1]
section
variable {kf:Nat->Option (Nat × Option Nat)} {N:Nat}
theorem RT (i:Nat) (t:List Nat):(otI kf i t).length=t.length:=by
 unfold otI;split
 ·exact List.length_set
 ·rfl
theorem sa:∀ (e:Nat) (t:List Nat),(pv kf e t).length=t.length
 | 0,t=>rfl
 | e + 1,t=>by rw [pv,RT];exact sa e t
theorem iP:∀ r,(gj kf N r).length=N
 | 0=>List.length_replicate
 | r + 1=>by rw [gj,sa];exact iP r
theorem BH {i:Nat} {t:List Nat} (h:z7 kf t) (h0:t.getD i 0≠0):otI kf i t=t:=by
 obtain ⟨k,hk,hv⟩:=h i h0;unfold otI;rw [hk];exact FM _ hv
theorem Pj {i:Nat} {t:List Nat} (hi:i < t.length) (h:z7 kf t):z7 kf (otI kf i t)/\GH t (otI kf i t):=by
 by_cases h0:t.getD i 0=0
 ·cases hk:kf i with
  | none=>unfold otI;rw [hk];exact ⟨h,GH.refl t⟩
  | some k=>
   have hu:otI kf i t=t.set i (othE t k):=by unfold otI;rw [hk]
   have dK:GH t (otI kf i t):=fun j hj=>by
    rw [hu,fu hi,ah (fun GR=>by subst GR;exact hj h0)]
   refine ⟨fun j hj=>?_,dK⟩;rw [hu,fu hi] at hj;by_cases GR:j=i
   ·subst GR;rw [ai rfl] at hj;refine ⟨k,hk,?_⟩;rw [BG dK hj,hu,fu hi,ai rfl]
   ·rw [ah GR] at hj;obtain ⟨k',fb,hv⟩:=h j hj;refine ⟨k',fb,?_⟩;rw [dK j hj,BG dK (by rw [<- hv];exact hj),hv]
 ·rw [BH h h0];exact ⟨h,GH.refl t⟩
theorem y7:∀ (e:Nat) {t:List Nat},e<=t.length->z7 kf t->z7 kf (pv kf e t)/\GH t (pv kf e t)
 | 0,t,_,h=>⟨h,GH.refl t⟩
 | e + 1,t,he,h=>by
  obtain ⟨h1,h2⟩:=y7 e (by omega) h;obtain ⟨h3,h4⟩:=Pj (i:=e) (by rw [sa];omega) h1;exact ⟨h3,h2.trans h4⟩
theorem mA (kf:Nat->Option (Nat × Option Nat)) (N:Nat):z7 kf (List.replicate N 0):=fun i hi=>by
 rw [aH,List.getElem?_replicate] at hi;split at hi<;>exact (hi rfl).elim
theorem y8:∀ r,z7 kf (gj kf N r)
 | 0=>mA kf N
 | r + 1=>(y7 N (by rw [iP];exact aU N) (y8 r)).1
theorem Pk (r:Nat):GH (gj kf N r) (gj kf N (r + 1)):=(y7 N (by rw [iP];exact aU N) (y8 r)).2
def sb (t:List Nat):Nat:=t.countP (fun x=>x != 0)
theorem sc:∀ {a b:List Nat},a.length=b.length->GH a b->(a=b∨sb a < sb b)/\sb a<=sb b
 | [],[],_,_=>⟨.inl rfl,aU _⟩
 | [],y :: b,h,_=>by simp at h
 | x :: a,[],h,_=>by simp at h
 | x :: a,y :: b,h,dK=>by
  obtain ⟨h1,h2⟩:=sc (a:=a) (b:=b) (sU h) (fun i hi=>dK (i + 1) hi);have h3:=dK 0;simp only [List.getD_cons_zero] at h3;unfold sb at h1 h2 ⊢;simp only [List.countP_cons];by_cases hx:x=0
  ·subst hx;by_cases hy:y=0
   ·subst hy;refine ⟨?_,by simpa using h2⟩;rcases h1 with rfl | h1
    ·exact .inl rfl
    ·right;simpa using h1
   ·have e1:(y != 0)=true:=sU hy;simp only [e1,bne_self_eq_false,Bool.false_eq_true,if_false,if_true];exact ⟨.inr (by omega),by omega⟩
  ·have:=h3 hx;subst this;have e1:(y != 0)=true:=sU hx;simp only [e1,if_true];refine ⟨?_,by omega⟩;rcases h1 with rfl | h1
   ·exact .inl rfl
   ·exact .inr (by omega)
theorem FN:∀ r,gj kf N (r + 1)=gj kf N r∨r + 1<=sb (gj kf N (r + 1))
 | 0=>by
  rcases (sc (by rw [iP,iP]) (Pk (kf:=kf) (N:=N) 0)).1 with h | h
  ·exact .inl h.symm
  ·exact .inr (by omega)
 | r + 1=>by
  rcases FN r with h | h
  ·left;show pv kf N (gj kf N (r + 1))=pv kf N (gj kf N r);rw [h]
  ·rcases (sc (by rw [iP,iP]) (Pk (kf:=kf) (N:=N) (r + 1))).1 with h2 | h2
   ·exact .inl h2.symm
   ·exact .inr (by omega)
theorem J6 (t:List Nat):sb t<=t.length:=List.countP_le_length
theorem Dj {r:Nat} (h:gj kf N (r + 1)=gj kf N r):∀ k,gj kf N (r + k)=gj kf N r
 | 0=>rfl
 | k + 1=>by
  show pv kf N (gj kf N (r + k))=_;rw [Dj h k];exact h
theorem J7:gj kf N (N + 1)=gj kf N N:=by
 rcases FN (kf:=kf) (N:=N) N with h | h
 ·exact h
 ·have:=J6 (gj kf N (N + 1));rw [iP] at this;omega
theorem RU {r:Nat} (h:gj kf N (r + 1)=gj kf N r):gj kf N r=gj kf N N:=by
 rcases Nat.le_total r N with h1 | h1
 ·have:=Dj h (N - r);rw [<- this];congr 1;omega
 ·have:=Dj (J7 (kf:=kf) (N:=N)) (r - N);rw [<- this];congr 1;omega
end
def Qi (sz D:List Nat) (K:List Bool) (ND:List Nd):List Nat:=gj (othK sz D K ND) ND.length ND.length
theorem Dk (sz D:List Nat) (K:List Bool) (ND:List Nd):(Qi sz D K ND).length=ND.length:=iP _
theorem Dl {sz D:List Nat} {K:List Bool} {ND:List Nd} {i:Nat} (h:(Qi sz D K ND).getD i 0≠0):∃ n,ND[i]? = some n/\K.getD i false=true/\(Qi sz D K ND).getD i 0=othE (Qi sz D K ND) (ed sz D K n):=by
 obtain ⟨k,hk,hv⟩:=y8 (kf:=othK sz D K ND) (N:=ND.length) ND.length i h;unfold othK at hk;split at hk
 ·rename_i n hn;split at hk
  ·rename_i hK;cases hk;exact ⟨n,hn,hK,hv⟩
  ·cases hk
 ·cases hk
def dc (k n:Int):Val:=.mk k n az []
def tagV (F:Nat->Val) (es:List Ed) (c:Nat):Val:=match es[c]? with | some e=>.mk 8 c az (if e.bare=true then [] else [F e.to.toNat]) | none=>dc 8 c
def firstV (ND:List Nd) (D:List Nat):Nat->Nat->Val
 | 0,_=>dc 0 0
 | f + 1,i=>match ND[i]? with
  | none=>dc 0 0
  | some n=>if n.ag=2 then dc 2 n.lo
   else if n.ag=7 then .mk 7 0 az (n.ap.map fun e=>firstV ND D f e.to.toNat)
   else if n.ag=8 then (match bG D n.ap with | some c=>tagV (firstV ND D f) n.ap c | none=>dc 8 0)
   else dc n.ag 0
theorem y9 {F G:Nat->Val} {es:List Ed} {c:Nat} (h:∀ e,es[c]? = some e->e.bare=false->F e.to.toNat=G e.to.toNat):tagV F es c=tagV G es c:=by
 unfold tagV
 cases he:es[c]? with
 | none=>rfl
 | some e=>
  simp only
  cases hb:e.bare with
  | true=>rfl
  | false=>rw [h e he hb]
theorem vf {ND:List Nd} {D:List Nat} (h:gv ND D):∀ (f i:Nat),0 < D.getD i 0->D.getD i 0<=f->firstV ND D (f + 1) i=firstV ND D f i
 | 0,i,h0,h1=>by omega
 | f + 1,i,h0,h1=>by
  have ih:=vf h f;rw [firstV,firstV]
  cases hn:ND[i]? with
  | none=>rfl
  | some n=>
   simp only;split
   ·rfl
   ·split
    ·rename_i h7;refine congrArg (Val.mk 7 0 az) (List.map_congr_left fun e he=>?_);obtain ⟨h2,h3⟩:=h.T7 hn h0 h7 e he;exact ih _ h2 (by unfold bZ at h3;omega)
    ·split
     ·rename_i h8;obtain ⟨c,e,hc,he,hp⟩:=h.Pf hn h0 h8;rw [hc];refine y9 fun e' qj hb=>?_;rw [he] at qj;cases qj;obtain ⟨h2,h3⟩:=hp hb;exact ih _ h2 (by unfold bZ at h3;omega)
     ·rfl
def bc (ND:List Nd) (D:List Nat) (i:Nat):Val:=firstV ND D ND.length i
theorem qJ {ND:List Nd} {D:List Nat} (h:gv ND D) {i:Nat} (h0:0 < D.getD i 0):∀ k,firstV ND D (D.getD i 0 + k) i=firstV ND D (D.getD i 0) i
 | 0=>rfl
 | k + 1=>by rw [<- qJ h h0 k];exact vf h (D.getD i 0 + k) i h0 (by omega)
theorem qK {ND:List Nd} {D:List Nat} (h:gv ND D) {f i:Nat} (h0:0 < D.getD i 0) (h1:D.getD i 0<=f):firstV ND D f i=bc ND D i:=by
 have dK:=h.le i;have h2:=qJ h h0 (f - D.getD i 0);have h3:=qJ h h0 (ND.length - D.getD i 0);rw [show D.getD i 0 + (f - D.getD i 0)=f by omega] at h2;rw [show D.getD i 0 + (ND.length - D.getD i 0)=ND.length by omega] at h3;unfold bc;rw [h2,h3]
def oM (F G:Nat->Val) (D:List Nat) (K:List Bool) (n:Nd):Val:=
 if n.ag=2 then dc 2 (n.lo + 1)
 else if n.ag=3 then .mk 3 0 ⟨#[97]⟩ []
 else if n.ag=5∨n.ag=6 then (match n.ap[0]? with | some e=>.mk n.ag 0 az [F e.to.toNat] | none=>dc n.ag 0)
 else if n.ag=7 then (match vJ K n.ap with
  | some c=>(match n.ap[c]? with | some e=>.mk 7 0 az ((n.ap.map fun e=>F e.to.toNat).set c (G e.to.toNat)) | none=>dc 7 0)
  | none=>dc 7 0)
 else if n.ag=8 then (match iZ D n.ap with
  | some c=>tagV F n.ap c
  | none=>(match bG D n.ap with | some c=>(match n.ap[c]? with | some e=>.mk 8 c az [G e.to.toNat] | none=>dc 8 c) | none=>dc 8 0))
 else dc n.ag 1
def aY (ND:List Nd) (D:List Nat) (K:List Bool):Nat->Nat->Val
 | 0,_=>dc 0 0
 | f + 1,i=>match ND[i]? with
  | none=>dc 0 0
  | some n=>oM (bc ND D) (aY ND D K f) D K n
def pJ (ND:List Nd) (D:List Nat) (K:List Bool) (i:Nat):Val:=aY ND D K 4096 i
theorem se {sz:List Nat} (hz:∀ z∈sz,z<=4097) (e:Ed):cw sz e<=4097:=by
 unfold cw bZ;split
 ·omega
 ·rw [aH]
  cases h:sz[e.to.toNat]? with
  | none=>exact Nat.zero_le _
  | some z=>exact hz z (mG h)
theorem uq {sz:List Nat} {c:Int} {es:List Ed} {e:Nat} {x:Ed} (h:es[e]? = some x):sumX sz c (es.take (e + 1)) 0 1=if (e:Int)=c then sumX sz c (es.take e) 0 1 else bf (sumX sz c (es.take e) 0 1 + cw sz x):=by
 have hl:(es.take e).length=e:=by rw [zLenT];have:=(gS h).1;omega
 rw [dJ h,BC,hl,Nat.zero_add]
theorem wrapN {a b:Nat} (ha:a<=1099511627776) (hb:b<=1099511627776):IntKind.i64.wrap ((a:Int) + (b:Int))=((a + b:Nat):Int):=by rw [wrap64 (by omega) (by omega)];omega
section
variable (PC:List DV) (ND:List Nd) (D:List Nat) (K:List Bool) (sz ot:List Nat) {L:Nat}
abbrev aau (n:Nd) (s e:Nat):St:=
 ⟨[(0,⟨[],.pt (nj PC ND D K sz ot) 0⟩),(3,⟨[],.loc 0 0⟩),(5,⟨[],.v (.int .i64 s)⟩),(13,⟨[],.sl 10 (cJ n.ap) none⟩),(14,⟨[],.v (.int .i64 (cJ n.ap).length)⟩),(15,⟨[],.v (.int .i64 e)⟩)],[gG n],[]⟩
theorem FO {n:Nd} (hD:D.length=ND.length) (hs:sz.length=ND.length) (hz:∀ z∈sz,z<=4097) (hn:cz L ND.length n) (ef:n.ap.length<=1099511627776) (h8:n.ag=8->∃ c e,bG D n.ap=some c/\n.ap[c]? = some e) :
  aV prog 122 [.pt (nj PC ND D K sz ot) 0,.agg (gG n)] (.v (.int .i64 (sizeF sz D n:Nat))):=by
 have z6:=choose_spec PC ND D K sz ot hD hn ef;have aZ:=hn.fJ;obtain ⟨ag,ba,lo,hi,most,af,es⟩:=n;simp only at aZ ef z6 h8;have bJ:=aW es;refine eG 41 [.tmp 4] func122 rfl ntmps122 rfl fun _ _ _ _=>?_;refine br ?_ ?_<;>intro c7
 ·have c7:ag=7:=sU c7;have hF:sizeF sz D ⟨ag,ba,lo,hi,most,af,es⟩=sumX sz (-1) es 0 1:=by simp [sizeF,c7]
  rw [hF];refine lJ (fun e=>aau PC ND D K sz ot ⟨ag,ba,lo,hi,most,af,es⟩ (sumX sz (-1) (es.take e) 0 1) e) es.length (aq 1 rfl wA rfl rfl rfl wB) ?_;intro e he;refine br ?_ ?_<;>intro hL
  ·have au:e < es.length:=sV bJ hL;obtain ⟨x,hx⟩:=gX au;have hp:=qI PC ND D K sz ot hs (aZ x (mG hx));have nD:=se hz x;have nQ:=lB (sz:=sz) (c:=-1) (es:=es.take e) (i:=0) (n:=1) (by omega);have eU:sumX sz (-1) (es.take (e + 1)) 0 1=bf (sumX sz (-1) (es.take e) 0 1 + cw sz x):=by rw [uq hx,ah (by omega)]
   have hw:=wrapN (a:=sumX sz (-1) (es.take e) 0 1) (b:=cw sz x) (by omega) (by omega);refine iX (aF hx) ?_;refine cP Ay hp ?_;refine cP nG (ey (sumX sz (-1) (es.take e) 0 1 + cw sz x)) ?_ (gU hw);exact rE ⟨_,by omega,e + 1,rfl,by omega,rfl⟩ (aq 1 rfl (gp (aK au (by omega)) eU.symm) rfl rfl rfl (wB2 (aK au (by omega)) eU.symm))
  ·have aS:e=es.length:=sW bJ hL;subst aS;rw [List.take_length];exact (rfl:_=_)
 ·have c7:¬ ag=7:=sU c7;refine br ?_ ?_<;>intro c8
  ·have c8:ag=8:=sU c8;obtain ⟨c,x,hc,hx⟩:=h8 c8;rw [hc] at z6;have hF:sizeF sz D ⟨ag,ba,lo,hi,most,af,es⟩=bf (1 + cw sz x):=by simp [sizeF,c8,hc,hx]
   have hp:=qI PC ND D K sz ot hs (aZ x (mG hx));have nD:=se hz x;have hw:=wrapN (a:=1) (b:=cw sz x) (by omega) (by omega);rw [hF];refine dI ?_;refine cD Jg z6 ?_;refine ⟨_,⟨cp _,aF hx⟩,?_⟩;refine cD Ay hp ?_;refine cD nG (ey (1 + cw sz x)) ?_ (gU hw);exact (rfl:_=_)
  ·have c8:¬ ag=8:=sU c8;refine (congrArg (fun z=>DV.v (.int .i64 z)) ?_:_=_);simp [sizeF,c7,c8]
abbrev aav (n:Nd) (e:Nat):St:=
 ⟨[(0,⟨[],.pt (nj PC ND D K sz ot) 0⟩),(3,⟨[],.loc 0 0⟩),(8,⟨[],.sl 10 (cJ n.ap) none⟩),(9,⟨[],.v (.int .i64 (cJ n.ap).length)⟩),(10,⟨[],.v (.int .i64 e)⟩)],[gG n],[]⟩
theorem pX {n:Nd} (hK:K.length=ND.length) (hn:cz L ND.length n) (h7:n.ag=7) (ef:n.ap.length<=1099511627776) :
  aV prog 144 [.pt (nj PC ND D K sz ot) 0,.agg (gG n)] (.v (.int .i64 (oz (vJ K n.ap)))):=by
 have aZ:=hn.fJ;have cY:=hn.bare;obtain ⟨ag,ba,lo,hi,most,af,es⟩:=n;simp only at aZ ef h7 cY;have bJ:=aW es;refine eG 25 [.tmp 4] func144 rfl ntmps144 rfl fun _ _ _ _=>?_;refine lI (fun j st=>∃ e:Nat,st=aav PC ND D K sz ot ⟨ag,ba,lo,hi,most,af,es⟩ e/\e<=es.length/\(∀ k,k < e->FI K es k=false)/\j=es.length - e) ⟨0,rfl,by omega,fun _ h=>by omega,rfl⟩ (aq 1 rfl wA rfl rfl rfl wB) ?_;rintro j st ⟨e,rfl,he,hB,rfl⟩;refine br ?_ ?_<;>intro hL
 ·have au:e < es.length:=sV bJ hL;obtain ⟨x,hx⟩:=gX au
  have j7:x.bare=false:=by
   cases hb:x.bare with
   | false=>rfl
   | true=>have:=cY x (mG hx) hb;omega
  obtain ⟨k,hk,ej⟩:=(aZ x (mG hx)).to1 j7;obtain ⟨z,hz⟩:∃ z,K[k]? = some z:=⟨_,gE (by omega)⟩;have hP:FI K es e=z:=by unfold FI;rw [hx];simp only;rw [hk,dq,aH,hz];all_goals rfl
  refine iX (aF hx) ?_;refine jH mo (by decide +kernel) ?_;refine ⟨_,⟨by rw [hk];exact cp _,by rw [hk];exact rU hz⟩,?_⟩;refine br ?_ ?_<;>intro g
  ·have g:z=true:=sU g;rw [show vJ K es=some e from bI au (hP.trans g) hB];exact (rfl:_=_)
  ·have g:z=false:=sU g
   exact rE ⟨_,by omega,e + 1,rfl,by omega,fun k hk=>by
    rcases eT hk with h1 | rfl
    ·exact hB k h1
    ·exact hP.trans g,rfl⟩ (aq 1 rfl (nF (aK au (by omega))) rfl rfl rfl (dy (aK au (by omega))))
 ·have aS:e=es.length:=sW bJ hL;subst aS;rw [show vJ K es=none from bU hB];exact (rfl:_=_)
end
structure FP (D:List Nat) (K:List Bool) (n:Nd):Prop where
 c7:n.ag=7->∃ c e,vJ K n.ap=some c/\n.ap[c]? = some e/\e.bare=false
 c8:n.ag=8->iZ D n.ap=none->∃ c e,bG D n.ap=some c/\n.ap[c]? = some e/\e.bare=false
section
variable (PC:List DV) (ND:List Nd) (D:List Nat) (K:List Bool) (sz ot:List Nat) {L:Nat}
abbrev aaw (n:Nd) (c:Option Nat) (s e:Nat):St:=
 ⟨[(0,⟨[],.pt (nj PC ND D K sz ot) 0⟩),(3,⟨[],.loc 0 0⟩),(5,⟨[],.v (.int .i64 (oz c))⟩),(6,⟨[],.v (.int .i64 s)⟩),(32,⟨[],.sl 10 (cJ n.ap) none⟩),(33,⟨[],.v (.int .i64 (cJ n.ap).length)⟩),(34,⟨[],.v (.int .i64 e)⟩)],[gG n],[]⟩
theorem Dm {n:Nd} (hD:D.length=ND.length) (hK:K.length=ND.length) (hs:sz.length=ND.length) (ho:ot.length=ND.length) (hz:∀ z∈sz,z<=4097) (hoz:∀ z∈ot,z<=4097) (hn:cz L ND.length n) (ef:n.ap.length<=1099511627776) (hS:FP D K n) :
  aV prog 123 [.pt (nj PC ND D K sz ot) 0,.agg (gG n)] (.v (.int .i64 (othE ot (ed sz D K n):Nat))):=by
 have z6:=choose_spec PC ND D K sz ot hD hn ef;have GI:=y4 PC ND D K sz ot hD hn ef;have Pm:=fun h=>pX PC ND D K sz ot hK hn h ef;have aZ:=hn.fJ;have hone:=hn.one;have h7:=hS.c7;have h8:=hS.c8;obtain ⟨ag,ba,lo,hi,most,af,es⟩:=n;simp only at aZ ef z6 GI Pm h7 h8 hone;have bJ:=aW es
 have nP:∀ {x:Ed},x∈es->x.bare=false->∃ z,(dInts ot)[x.to.toNat]? = some [.v (.int .i64 (z:Nat))]/\0<=x.to/\ot.getD x.to.toNat 0=z/\z<=4097:=fun {x} hx hb=>by
  obtain ⟨k,hk,ej⟩:=(aZ x hx).to1 hb;have hg:ot[k]? = some ot[k]:=gE (by omega);refine ⟨ot[k],by rw [hk];exact aG hg,by omega,by rw [hk,dq,aH,hg];rfl,hoz _ (mG hg)⟩
 have sf:∀ {x:Ed},x∈es->aV prog 183 [.pt (nj PC ND D K sz ot) 0,.agg (CU x)] (.v (.int .i64 (cw sz x:Nat))):=fun {x} hx=>qI PC ND D K sz ot hs (aZ x hx);have hw1:∀ x,IntKind.i64.wrap (1 + (cw sz x:Int))=((1 + cw sz x:Nat):Int):=fun x=>wrapN (a:=1) (by omega) (by have:=se hz x;omega);have hE:∀ a j z,ot.getD j 0=z->othE ot (a,some j)=if z=0 then 0 else bf (a + z):=fun a j z h=>by unfold othE;simp only [h]
 refine eG 87 [.tmp 4] func123 rfl ntmps123 rfl fun _ _ _ _=>?_;refine br (fun d5=>?_) (fun c5=>?_)
 ·have c5:ag=5:=sU d5;refine br (fun _=>?_) (fun h=>absurd h (by simp [c5]));obtain ⟨x,hx,_⟩:=hone (.inl c5);subst hx;rw [show othE ot (ed sz D K ⟨ag,ba,lo,hi,most,af,[x]⟩)=bf (1 + cw sz x) by unfold ed;rw [ai (.inl c5)];rfl];refine ⟨_,⟨by omega,rfl⟩,?_⟩;refine cP Ay (sf List.mem_cons_self) ?_;refine cP nG (ey (1 + cw sz x)) ?_ (gU (hw1 x));exact (rfl:_=_)
 have c5:¬ ag=5:=sU c5;refine br (fun d6=>?_) (fun c6=>?_)
 ·have c6:ag=6:=sU d6;obtain ⟨x,hx,_⟩:=hone (.inr c6);subst hx;rw [show othE ot (ed sz D K ⟨ag,ba,lo,hi,most,af,[x]⟩)=bf (1 + cw sz x) by unfold ed;rw [ai (.inr c6)];rfl];refine ⟨_,⟨by omega,rfl⟩,?_⟩;refine cP Ay (sf List.mem_cons_self) ?_;refine cP nG (ey (1 + cw sz x)) ?_ (gU (hw1 x));exact (rfl:_=_)
 have c6:¬ ag=6:=sU c6;refine br ?_ ?_<;>intro c7
 ·have c7:ag=7:=sU c7;obtain ⟨c,x,hc,hx,j7⟩:=h7 c7;have Pm:=Pm c7;rw [hc] at Pm;have hF:ed sz D K ⟨ag,ba,lo,hi,most,af,es⟩=(sumX sz c es 0 1,some x.to.toNat):=by simp [ed,c7,hc,hx]
  refine cP SY Pm ?_;refine lJ (fun e=>aaw PC ND D K sz ot ⟨ag,ba,lo,hi,most,af,es⟩ (some c) (sumX sz c (es.take e) 0 1) e) es.length (aq 1 rfl wA rfl rfl rfl wB) ?_;intro e he;have nQ:=lB (sz:=sz) (c:=c) (es:=es.take e) (i:=0) (n:=1) (by omega);refine br ?_ ?_<;>intro hL
  ·have au:e < es.length:=sV bJ hL;obtain ⟨y,hy⟩:∃ x,es[e]? = some x:=⟨_,gE au⟩;have nD:=se hz y;have eU:=uq (sz:=sz) (c:=c) hy;have hw:=wrapN (a:=sumX sz c (es.take e) 0 1) (b:=cw sz y) (by omega) (by omega);refine iX (aF hy) ?_;refine br ?_ ?_<;>intro g
   ·have g:¬ (e:Int)=c:=fun h=>by simp [oz,h] at g
    rw [ah g] at eU;refine cP Ay (sf (mG hy)) ?_;refine cP nG (ey (sumX sz c (es.take e) 0 1 + cw sz y)) ?_ (gU hw);exact rE ⟨_,by omega,e + 1,rfl,by omega,rfl⟩ (aq 1 rfl (gp (aK au (by omega)) eU.symm) rfl rfl rfl (wB2 (aK au (by omega)) eU.symm))
   ·have g:(e:Int)=c:=Decidable.byContradiction fun h=>by simp [oz,h] at g
    rw [ai g] at eU;exact rE ⟨_,by omega,e + 1,rfl,by omega,rfl⟩ (aq 1 rfl (gp (aK au (by omega)) eU.symm) rfl rfl rfl (wB2 (aK au (by omega)) eU.symm))
  ·have aS:e=es.length:=sW bJ hL;subst aS;rw [List.take_length] at nQ ⊢;obtain ⟨z,hz1,HK,Me,hz4⟩:=nP (mG hx) j7;have hzE:=hE (sumX sz c es 0 1) _ _ Me;rw [hF,hzE];refine jH mo (by decide +kernel) ?_;refine ⟨_,⟨cp _,aF hx⟩,?_⟩;refine ⟨_,⟨HK,hz1⟩,?_⟩;refine br ?_ ?_<;>intro g
   ·have g:0 < z:=sU g;rw [ah (by omega)];refine cP nG (ey ((sumX sz c es 0 1) + z)) ?_ (by repeat' (first | exact rfl | exact trivial | exact Or.inr (Or.inl ⟨_,rfl⟩) | exact Or.inr ⟨_,rfl⟩ | exact Or.inl ⟨rfl,rfl⟩ | exact Or.inl rfl | refine Or.inr ⟨_,_,rfl,Nat.zero_le _,rfl,?_⟩ | refine ⟨_,_,rfl,?_,?_⟩ | refine ⟨_,rfl,?_⟩ | exact congrArg (fun z=>DV.v (.int .i64 z)) (wrapN (by omega) (by omega))| refine Or.inr (Or.inr (Or.inr ⟨_,_,rfl,?_⟩)) | exact Or.inl rfl | refine Or.inr ?_));exact (rfl:_=_)
   ·have g:z=0:=sU g;rw [ai g];exact (rfl:_=_)
 have c7:¬ ag=7:=sU c7;refine br ?_ ?_<;>intro c8
 ·have c8:ag=8:=sU c8;refine cP MW GI ?_
  cases ht:iZ D es with
  | some c=>
   obtain ⟨x,hx,_⟩:=mi ht;rw [show ed sz D K ⟨ag,ba,lo,hi,most,af,es⟩=(bf (1 + cw sz x),none) by simp [ed,c8,ht,hx],show othE ot (bf (1 + cw sz x),none)=bf (1 + cw sz x) from rfl];refine ⟨_,⟨cp _,aF hx⟩,?_⟩;refine cP Ay (sf (mG hx)) ?_;refine cP nG (ey (1 + cw sz x)) ?_ (gU (hw1 x));exact (rfl:_=_)
  | none=>
   obtain ⟨c,x,hc,hx,j7⟩:=h8 c8 ht;rw [hc] at z6;have hF:ed sz D K ⟨ag,ba,lo,hi,most,af,es⟩=(1,some x.to.toNat):=by simp [ed,c8,ht,hc,hx]
   refine cP Jg z6 ?_;obtain ⟨z,hz1,HK,Me,hz4⟩:=nP (mG hx) j7;have hzE:=hE 1 _ _ Me;rw [hF,hzE];refine jH mo (by decide +kernel) ?_;refine ⟨_,⟨cp _,aF hx⟩,?_⟩;refine ⟨_,⟨HK,hz1⟩,?_⟩;refine br ?_ ?_<;>intro g
   ·have g:0 < z:=sU g;rw [ah (by omega)];refine cP nG (ey (1 + z)) ?_ (by repeat' (first | exact rfl | exact trivial | exact Or.inr (Or.inl ⟨_,rfl⟩) | exact Or.inr ⟨_,rfl⟩ | exact Or.inl ⟨rfl,rfl⟩ | exact Or.inl rfl | refine Or.inr ⟨_,_,rfl,Nat.zero_le _,rfl,?_⟩ | refine ⟨_,_,rfl,?_,?_⟩ | refine ⟨_,rfl,?_⟩ | exact congrArg (fun z=>DV.v (.int .i64 z)) (wrapN (a:=1) (by omega) (by omega))| refine Or.inr (Or.inr (Or.inr ⟨_,_,rfl,?_⟩)) | exact Or.inl rfl | refine Or.inr ?_));exact (rfl:_=_)
   ·have g:z=0:=sU g;rw [ai g];exact (rfl:_=_)
 ·have c8:¬ ag=8:=sU c8;refine (congrArg (fun z=>DV.v (.int .i64 z)) ?_:_=_);simp [ed,c5,c6,c7,c8,othE]
end
end Go.Proofs.YtadhpeooehkklaaGreat
namespace Go.Proofs.YtadhpeooehkklaaGreat
namespace Dv
open Go Go.RowKit
section
variable {P:Program} {ops:Array Oper} {C:World->Prop} {Q:Act->World->Prop} {W:Nat->Bool} {x:Nat}
def runX (P:Program) (ops:Array Oper) (W:Nat->Bool) (C:World->Prop) (Q:Act->World->Prop) (x:Nat):List Nat->Act->World->Prop
 | [],a,w=>runT P ops W C Q [x] a w
 | i :: r,a,w=>
  match ops[i]? with
  | none=>False
  | some o=>
   if ordB ops ops.size x i=true then runT P ops W C Q (x :: i :: r) a w
   else if gz o.op=true then runT P ops W C Q (x :: i :: r) a w/\dT P ops o a w fun a' w'=>(W i=false->C w->C w')/\runX P ops W C Q x r a' w'
   else ∃ v,Yl P ops C o v a/\(kb o.op=true->C w)/\runX P ops W C Q x r (a.put o.dst v) w
theorem FQ {xo:Oper} (dB:∀ (j:Nat) (o:Oper) cs b,ops[j]? = some o->o.op ≠ .select cs b) (hx:ops[x]? = some xo) (Wm:gz xo.op=true) (hWx:∀ (j:Nat) (o:Oper),ops[j]? = some o->kb o.op=true->W x=false) :
  ∀ (rem:List Nat) (a:Act) (w:World),runX P ops W C Q x rem a w->(∀ j∈rem,∀ o,ops[j]? = some o->gz o.op=false->ordB ops ops.size x j=false->fN ops W x j=true) ->
   dT P ops xo a w (fun a' w'=>(W x=false->C w->C w')/\runT P ops W C Q rem a' w')
 | [],a,w,hr,_=>by
  simp only [runX,runT,hx,Wm,if_true] at hr;exact hr
 | i :: r,a,w,hr,uI=>by
  have Iz:runT P ops W C Q (x :: i :: r) a w->dT P ops xo a w (fun a' w'=>(W x=false->C w->C w')/\runT P ops W C Q (i :: r) a' w'):=fun h=>by
   unfold runT at h;rw [hx] at h;simp only [Wm,if_true] at h;exact h
  cases ho:ops[i]? with
  | none=>simp only [runX,ho] at hr
  | some o=>
   simp only [runX,ho] at hr;by_cases hd:ordB ops ops.size x i=true
   ·rw [ai hd] at hr;exact Iz hr
   ·rw [ah hd] at hr;by_cases he:gz o.op=true
    ·rw [ai he] at hr;exact Iz hr.1
    ·rw [ah he] at hr;obtain ⟨v,hy,hc,iA⟩:=hr;have Co:ordB ops ops.size x i=false:=sU hd;have qj:gz o.op=false:=sU he;obtain ⟨GY,L6,_,_⟩:=eF (uI i (by simp) o ho qj Co) hx ho;have zw:=fun cs b=>dB x xo cs b hx;have Ar:=fun cs b=>dB i o cs b ho;have ih:=FQ dB hx Wm hWx r (a.put o.dst v) w iA (fun j hj=>uI j (dj _ hj));refine cK ?_ (jl ((ko L6 zw).1 ih));rintro a' w' ⟨⟨oX,nU⟩,u,rfl⟩;refine ⟨oX,?_⟩;simp only [runT,ho];rw [ah he];exact ⟨v,(Yl.same (u:=u) GY Ar).2 hy,fun hL=>oX (hWx i o ho hL) (hc hL),nU⟩
theorem ur {π:Nat->Nat} (dB:∀ (j:Nat) (o:Oper) cs b,ops[j]? = some o->o.op ≠ .select cs b) (sE:∀ j i x y,π j < π i->ops[i]? = some x->ops[j]? = some y->kb x.op=true->W j=false)
  {i:Nat} {o:Oper} (hi:ops[i]? = some o) (RV:∀ z,ops[x]? = some z->kb z.op=false) (hxi:x≠i) (hnd:ordB ops ops.size x i=false) (zw:gz o.op=false->fN ops W x i=true) :
  ∀ (rem:List Nat) (a:Act) (w:World),(zM ops (x :: rem)->C w)->runX P ops W C Q x rem a w->i∈rem->(∀ j∈rem,j≠i->π j < π i->fN ops W j i=true)->(x :: rem).Pairwise (fun a b=>π a < π b) ->
   (gz o.op=true->∀ j∈rem,π j < π i->ordB ops ops.size x j=false) ->
   dT P ops o a w (fun a' w'=>(W i=false->C w->C w')/\runX P ops W C Q x (rem.erase i) a' w')
 | [],_,_,_,_,hm,_,_,_=>by cases hm
 | h :: rem,a,w,hC,hr,hm,uI,hp,lZ=>by
  by_cases ri:h=i
  ·subst ri;rw [List.erase_cons_head];simp only [runX,hi] at hr;rw [ah (by simp [hnd])] at hr;split at hr
   ·exact hr.2
   ·obtain ⟨v,hy,hc,iA⟩:=hr;exact il hy hc ⟨fun _ h=>h,iA⟩
  ·have lU:i∈rem:=by
    rcases bL hm with e | e
    ·exact (ri e.symm).elim
    ·exact e
   have tj:=List.pairwise_cons.1 hp;have Ee:=List.pairwise_cons.1 tj.2;have au:π h < π i:=Ee.1 i lU;have hpr:(x :: rem).Pairwise (fun a b=>π a < π b):=List.pairwise_cons.2 ⟨fun y hy=>tj.1 y (dj _ hy),Ee.2⟩
   have Wn:gz o.op=false->∀ j∈x :: h :: rem,j≠i->π j < π i->fN ops W j i=true:=fun he j hj bF hl=>by
    rcases bL hj with rfl | hj
    ·exact zw he
    ·exact uI j hj bF hl
   have RW:i∈x :: h :: rem:=dj _ hm
   have aaz:(x :: h :: rem).erase i=x :: h :: rem.erase i:=by
    rw [List.erase_cons_tail (sU hxi),List.erase_cons_tail (sU ri)]
   rw [List.erase_cons_tail (sU ri)];have MG:∀ j∈rem,j≠i->π j < π i->fN ops W j i=true:=fun j hj=>uI j (dj _ hj);have aaA:gz o.op=true->∀ j∈rem,π j < π i->ordB ops ops.size x j=false:=fun he j hj=>lZ he j (dj _ hj)
   have hCt:zM ops (x :: rem)->C w:=fun hl=>hC (by
    obtain ⟨l,z,Kw,hz,hL⟩:=hl;rcases bL Kw with rfl | Kw
    ·exact ⟨l,z,by simp,hz,hL⟩
    ·exact ⟨l,z,by simp [Kw],hz,hL⟩)
   cases hh:ops[h]? with
   | none=>simp only [runX,hh] at hr
   | some y=>
    obtain ⟨GY,L6,hEE,XF⟩:=eF (uI h (by simp) ri au) hh hi;have Xe:=fun cs b=>dB h y cs b hh;have Ar:=fun cs b=>dB i o cs b hi;simp only [runX,hh] at hr;by_cases hd:ordB ops ops.size x h=true
    ·rw [ai hd] at hr
     have he:gz o.op=false:=by
      cases he:gz o.op
      ·rfl
      ·have:=lZ he h (by simp) au;rw [hd] at this;cases this
     have bd:=gK dB sE hi (x :: h :: rem) a w hC hr RW (Wn he) hp;refine cK ?_ bd;rintro a' w' ⟨oX,nU⟩;refine ⟨oX,?_⟩;simp only [runX,hh];rw [ai hd,<- aaz];exact nU
    ·rw [ah hd] at hr;by_cases hE:gz y.op=true
     ·rw [ai hE] at hr;obtain ⟨hl,hr⟩:=hr
      have he:gz o.op=false:=by
       cases he:gz o.op
       ·rfl
       ·exact (hEE ⟨hE,he⟩).elim
      obtain ⟨v,Ja⟩:=kH (π:=π) dB hi he (x :: h :: rem) a w hl RW (Wn he) hp;have UP:kb o.op=true->C w:=fun hL=>hC ⟨i,o,RW,hi,hL⟩;have bd:=gK dB sE hi (x :: h :: rem) a w hC hl RW (Wn he) hp;have jK:=im Ja UP bd;refine il Ja UP ⟨fun _ h=>h,?_⟩;simp only [runX,hh];rw [ah hd,ai hE];refine ⟨by rw [<- aaz];exact jK.2,?_⟩;refine (ko L6 Xe).2 ?_;refine cK ?_ (jl hr);rintro a' w' ⟨⟨oX,iA⟩,u,rfl⟩;refine ⟨oX,?_⟩
      have UQ:zM ops (x :: rem)->C w':=by
       intro vy;have Rk:=vy;obtain ⟨l,z,Kw,hz,hL⟩:=vy;refine oX ?_ (hCt Rk);rcases bL Kw with e | Kw
       ·rw [e] at hz;rw [RV z hz] at hL;cases hL
       ·exact sE h l z y (Ee.1 l Kw) hz hh hL
      have ih:=ur dB sE hi RV hxi hnd zw rem _ w' UQ iA lU MG hpr aaA;have fB:=(Yl.same (u:=u) GY Ar).2 Ja;exact (im fB (fun hL=>UQ ⟨i,o,dj _ lU,hi,hL⟩) ih).2
     ·rw [ah hE] at hr;obtain ⟨v,Ja,hc,iA⟩:=hr;have ih:=ur dB sE hi RV hxi hnd zw rem (a.put y.dst v) w hCt iA lU MG hpr aaA;refine cK ?_ (jl ((ko GY Ar).1 ih));rintro a' w' ⟨⟨oX,nU⟩,u,rfl⟩;refine ⟨oX,?_⟩;simp only [runX,hh];rw [ah hd,ah hE];refine ⟨v,(Yl.same (u:=u) L6 Xe).2 Ja,fun hL=>?_,nU⟩
      have XG:W i=false:=by
       cases hw:W i
       ·rfl
       ·exact (XF ⟨hL,hw⟩).elim
      exact oX XG (hc hL)
def exX (ops:Array Oper) (x:Nat) (j i:Nat):Bool:=Nat.beq j x && (match ops[i]? with | some o=>gz o.op | none=>false)
def Wo (ops:Array Oper) (x:Nat) (π:Nat->Nat):Bool:=
 (List.range ops.size).all fun i=>
  match ops[i]? with
  | none=>true
  | some o=>!gz o.op || Nat.beq i x || ordB ops ops.size x i || (List.range ops.size).all fun j=>Nat.beq j x || !Nat.blt (π j) (π i) || !ordB ops ops.size x j
theorem Pn {π:Nat->Nat} {xo:Oper} {Q':Exit->Act->World->Prop} (hx:ops[x]? = some xo) (Wm:gz xo.op=true) (RV:kb xo.op=false) (zC:∀ j,j≠x->π x < π j) (SH:rj ops W π=true) (UR:vz ops W π (exX ops x)=true) (hD:Wo ops x π=true)
  (hQ:∀ a w,Q a w->Q' .normal a w):∀ (iS:Nat) (listed:Array Bool) (rem:List Nat) (a:Act) (w:World),
  listed.size=ops.size->Dn ops listed->listed.getD x true=false->(∀ i,i∈rem↔i≠x/\i < ops.size/\listed.getD i true=false)->(x :: rem).Pairwise (fun a b=>π a < π b)->rem.length + 1<=iS->(zM ops (x :: rem)->C w) ->
   runX P ops W C Q x rem a w->wpAny P .any ops Q' iS listed a w:=by
 have dB:=rm SH;have sE:=rk SH;have D9:=td SH;have hcS':=UR;have qQ:=(Array.getElem?_eq_some_iff.1 hx).1
 have hWx:∀ (j:Nat) (o:Oper),ops[j]? = some o->kb o.op=true->W x=false:=fun j o hj hL=>by
  refine sE x j o xo (zC j ?_) hj hx hL;rintro rfl;rw [hx] at hj;simp only [oI] at hj;rw [<- hj,RV] at hL;cases hL
 simp only [vz,List.all_eq_true,List.mem_range,Bool.or_eq_true,Bool.not_eq_true'] at UR
 have zw:∀ (i:Nat) (o:Oper),ops[i]? = some o->i≠x->gz o.op=false->ordB ops ops.size x i=false->fN ops W x i=true:=fun i o ho bF he hd=>by
  rcases UR i (Array.getElem?_eq_some_iff.1 ho).1 x qQ with ((h1 | h1) | h1) | h1
  ·have:¬ Nat.blt (π x) (π i)=true:=by simp [h1]
   have:=zC i bF;simp at *;omega
  ·simp [exX,ho,he] at h1
  ·rw [hd] at h1;cases h1
  ·exact h1
 intro iS
 induction iS with
 | zero=>intro listed rem a w _ _ _ _ _ hlen;omega
 | succ iS ih=>
  intro listed rem a w bT Qa hxu iB hp hlen hC hr;have tj:=List.pairwise_cons.1 hp;have hnd:rem.Nodup:=nR tj.2;refine ⟨fun h0=>?_,fun i hi=>?_⟩
  ·have:x∈Region.ready .any ops listed:=by
    refine mem_ready.2 ⟨hxu,_,hx,fun e he hb=>?_⟩;obtain ⟨au,lh⟩:=D9 x _ hx e he hb;cases hg:listed.getD e.on false
    ·have bF:e.on≠x:=fun h=>by rw [h] at au;omega
     have:=zC e.on bF;omega
    ·rfl
   rw [h0] at this;cases this
  ·obtain ⟨DK,o,ho,fI⟩:=mem_ready.1 hi;have eo:=(Array.getElem?_eq_some_iff.1 ho).1
   have Ky:Dn ops (listed.setIfInBounds i true):=by
    intro k z hz hk e he hb;by_cases kD:k=i
    ·subst kD;rw [ho] at hz;simp only [oI] at hz;subst hz;exact getD_set_true (fI e he hb)
    ·rw [getD_set_ne true (Ne.symm kD)] at hk;exact getD_set_true (Qa k z hz hk e he hb)
   refine ti ho ?_;by_cases Au:i=x
   ·subst Au;rw [hx] at ho;simp only [oI] at ho;subst ho;have bd:=FQ dB hx Wm hWx rem a w hr (fun j hj o ho he hd=>zw j o ho ((iB j).1 hj).1 he hd);refine cK ?_ bd;rintro a' w' ⟨oX,iA⟩;refine mM (C:=C) (exX ops i) SH hcS' hQ iS _ rem a' w' (by simp [bT]) Ky ?_ tj.2 (by omega) ?_ ?_ iA
    ·intro k;rw [iB k];by_cases kD:k=i
     ·subst kD;simp [bT,eo]
     ·rw [getD_set_ne true (Ne.symm kD)];simp [kD]
    ·intro j hj k _;have:=((iB j).1 hj).1;simp [exX,this]
    ·rintro ⟨l,z,hl,hz,hL⟩;exact oX (hWx l z hz hL) (hC ⟨l,z,dj _ hl,hz,hL⟩)
   ·have mw:i∈rem:=(iB i).2 ⟨Au,eo,DK⟩
    have fo:∀ j,j < ops.size->listed.getD j true=false->ordB ops ops.size j i=false:=by
     intro j hj hu;cases h1:ordB ops ops.size j i
     ·rfl
     ·have h2:=lm Qa _ _ _ _ ho fI h1;have:j < listed.size:=by rw [bT];exact hj
      simp [this] at h2 hu;rw [h2] at hu;cases hu
    have Wp:=fo x qQ hxu
    have uI:∀ j∈rem,j≠i->π j < π i->fN ops W j i=true:=by
     intro j hj _ au;have gB:=(iB j).1 hj;rcases UR i eo j gB.2.1 with ((h1 | h1) | h1) | h1
     ·have:¬ Nat.blt (π j) (π i)=true:=by simp [h1]
      simp at this;omega
     ·simp [exX,gB.1] at h1
     ·rw [fo j gB.2.1 gB.2.2] at h1;cases h1
     ·exact h1
    have lZ:gz o.op=true->∀ j∈rem,π j < π i->ordB ops ops.size x j=false:=by
     intro he j hj au;simp only [Wo,List.all_eq_true,List.mem_range] at hD;have h1:=hD i eo;rw [ho] at h1;simp only [he,Wp,Bool.not_true,Bool.false_or,Bool.or_false,Bool.or_eq_true,List.all_eq_true,List.mem_range,Bool.not_eq_true',Nat.beq_eq] at h1;rcases h1 with h1 | h1
     ·exact (Au h1).elim
     ·have gB:=(iB j).1 hj;rcases h1 j gB.2.1 with (h2 | h2) | h2
      ·exact (gB.1 h2).elim
      ·have:¬ Nat.blt (π j) (π i)=true:=by simp [h2]
       simp at this;omega
      ·exact h2
    have bd:=ur (π:=π) dB sE ho (fun z hz=>by rw [hx] at hz;simp only [oI] at hz;rw [<- hz];exact RV) (Ne.symm Au) Wp (fun he=>zw i o ho Au he Wp) rem a w hC hr mw uI hp lZ;refine cK ?_ bd;rintro a' w' ⟨oX,iA⟩;have hxi:=getD_set_ne (listed:=listed) true Au;refine ih (listed.setIfInBounds i true) (rem.erase i) a' w' (by simp [bT]) Ky (by rw [hxi];exact hxu) ?_ (List.pairwise_cons.2 ⟨fun y hy=>tj.1 y (List.mem_of_mem_erase hy),tj.2.sublist List.erase_sublist⟩) (by rw [List.length_erase_of_mem mw];have:=List.length_pos_of_mem mw;omega) ?_ iA
    ·intro k;rw [List.Nodup.mem_erase_iff hnd];by_cases kD:k=i
     ·subst kD;simp [bT,eo]
     ·rw [getD_set_ne true (Ne.symm kD)];simp only [ne_eq,kD,not_false_eq_true,true_and];exact iB k
    ·rintro ⟨l,z,hl,hz,hL⟩
     have hlx:l≠x:=by
      rintro rfl;rw [hx] at hz;simp only [oI] at hz;rw [<- hz,RV] at hL;cases hL
     have hl:l∈rem.erase i:=by
      rcases bL hl with h | h
      ·exact (hlx h).elim
      ·exact h
     have vy:=List.mem_of_mem_erase hl;have bF:l≠i:=((List.Nodup.mem_erase_iff hnd).1 hl).1;have UT:=hC ⟨l,z,dj _ vy,hz,hL⟩;refine oX ?_ UT;rcases wZ tj.2 mw vy bF.symm with h1 | h1
     ·exact sE i l z o h1 hz ho hL
     ·have:=uI l vy bF h1;obtain ⟨_,_,_,h4⟩:=eF this hz ho;cases hw:W i
      ·rfl
      ·exact (h4 ⟨hL,hw⟩).elim
theorem BI {π:Nat->Nat} (dB:∀ (j:Nat) (o:Oper) cs b,ops[j]? = some o->o.op ≠ .select cs b) (sE:∀ j i x y,π j < π i->ops[i]? = some x->ops[j]? = some y->kb x.op=true->W j=false)
  (zw:∀ (i:Nat) (o:Oper),ops[i]? = some o->i≠x->gz o.op=false->ordB ops ops.size x i=false->fN ops W x i=true) :
  ∀ (l:List Nat) (a:Act) (w:World),(zM ops (x :: l)->C w)->runT P ops W C Q (x :: l) a w->(∀ i∈l,i≠x/\∃ o,ops[i]? = some o/\(ordB ops ops.size x i=true∨gz o.op=false))->(x :: l).Pairwise (fun a b=>π a < π b)->runX P ops W C Q x l a w
 | [],a,w,_,h,_,_=>by simpa only [runX] using h
 | i :: r,a,w,hC,h,hl,hp=>by
  obtain ⟨bF,o,ho,QD⟩:=hl i (by simp);simp only [runX,ho];by_cases hd:ordB ops ops.size x i=true
  ·rw [ai hd];exact h
  ·rw [ah hd]
   have he:gz o.op=false:=by
    rcases QD with h | h
    ·exact (hd h).elim
    ·exact h
   rw [ah (by simp [he])];have Co:ordB ops ops.size x i=false:=sU hd;have tj:=List.pairwise_cons.1 hp;have Ee:=List.pairwise_cons.1 tj.2
   have uI:∀ j∈x :: i :: r,j≠i->π j < π i->fN ops W j i=true:=fun j hj GR au=>by
    rcases bL hj with rfl | hj
    ·exact zw i o ho bF he Co
    ·rcases bL hj with rfl | hj
     ·exact (GR rfl).elim
     ·have:=Ee.1 j hj;omega
   have UP:kb o.op=true->C w:=fun hL=>hC ⟨i,o,by simp,ho,hL⟩;obtain ⟨v,hy⟩:=kH (π:=π) dB ho he _ a w h (by simp) uI hp;have bd:=gK dB sE ho _ a w hC h (by simp) uI hp;have hk:=(im hy UP bd).2;rw [List.erase_cons_tail (by simpa using Ne.symm bF),List.erase_cons_head] at hk;refine ⟨v,hy,UP,BI dB sE zw r _ w (fun hl=>?_) hk (fun j hj=>hl j (dj _ hj)) (List.pairwise_cons.2 ⟨fun y hy=>tj.1 y (dj _ hy),Ee.2⟩)⟩;obtain ⟨l,z,Kw,hz,hL⟩:=hl;refine hC ⟨l,z,?_,hz,hL⟩;rcases bL Kw with h | h
   ·simp [h]
   ·simp [h]
end
theorem za {ops:Array Oper}:∀ {l:List Nat},(∀ i∈l,i < ops.size)->(selL ops.toList l).map (·.1)=l
 | [],_=>rfl
 | i :: r,h=>by
  have hi:ops.toList[i]? = some (ops[i]'(h i (by simp))):=by
   rw [gE (by simpa using h i (by simp))];simp
  unfold selL;rw [hi];simp only [List.map_cons];rw [za fun j hj=>h j (dj _ hj)]
def goX (X:Ctx) (D:Dr) (x:Nat) (tail:List Nat):List Nat->Bool->List (Nat × Sl)->St->Prop
 | [],c,s0,st=>
  match c with
  | true=>goD X D 3000 true (selL D.ops.toList (x :: tail)) s0 st
  | false=>False
 | i :: r,c,s0,st=>
  match D.ops.toList[i]? with
  | none=>False
  | some o=>
   match gz o.op with
   | true=>goD X D 3000 c (selL D.ops.toList (x :: i :: (r ++ tail))) s0 st/\goD X ⟨D.ops,D.W,D.k,D.iF,some (goX X D x tail r)⟩ 3000 c [(i,o)] s0 st
   | false=>goD X ⟨D.ops,D.W,D.k,D.iF,some (goX X D x tail r)⟩ 3000 c [(i,o)] s0 st
def aaB (ops:Array Oper) (W:Nat->Bool) (x:Nat) (pre tail:List Nat):Bool:=
 G5 ops (x :: (pre ++ tail)) && rj ops W (plc (x :: (pre ++ tail))) && vz ops W (plc (x :: (pre ++ tail))) (exX ops x) && Wo ops x (plc (x :: (pre ++ tail))) &&
  (match ops[x]? with | some o=>gz o.op && !kb o.op | none=>false) && pre.all (fun i=>!ordB ops ops.size x i) && tail.all (fun i=>match ops[i]? with | some o=>ordB ops ops.size x i || !gz o.op | none=>false)
section
variable {X:Ctx} {D:Dw} {x:Nat} {tail:List Nat} {π:Nat->Nat}
theorem BJ (hD:te D.E0 D.d.iF.bx D.wr) (dB:∀ (j:Nat) (o:Oper) cs b,D.d.ops[j]? = some o->o.op ≠ .select cs b) (sE:∀ j i x y,π j < π i->D.d.ops[i]? = some x->D.d.ops[j]? = some y->kb x.op=true->D.d.W j=false)
  (zw:∀ (i:Nat) (o:Oper),D.d.ops[i]? = some o->i≠x->gz o.op=false->ordB D.d.ops D.d.ops.size x i=false->fN D.d.ops D.d.W x i=true)
  (hY:∀ i∈tail,i≠x/\∃ o,D.d.ops[i]? = some o/\(ordB D.d.ops D.d.ops.size x i=true∨gz o.op=false)) (qQ:x < D.d.ops.size):∀ (pre:List Nat),(∀ i∈pre,i < D.d.ops.size/\ordB D.d.ops D.d.ops.size x i=false)->(x :: (pre ++ tail)).Pairwise (fun a b=>π a < π b) ->
  ∀ c s0 st,goX X D.d x tail pre c s0 st->∀ E a w,fO X D c E s0 st a w->runX X.P D.d.ops D.d.W D.C (D.Q X) x (pre ++ tail) a w
 | [],_,hp,c,s0,st,hg,E,a,w,h=>by
  have aaC:∀ i∈x :: tail,i < D.d.ops.size:=fun i hi=>by
   rcases bL hi with rfl | hi
   ·exact qQ
   ·obtain ⟨_,o,ho,_⟩:=hY i hi;exact (Array.getElem?_eq_some_iff.1 ho).1
  simp only [goX] at hg;split at hg
  ·have h1:=eM hD 3000 true _ _ _ hg (fun p hp=>by simpa using xe hp) E a w h;rw [za aaC] at h1;exact BI dB sE zw tail a w (fun _=>h.cc rfl) h1 hY hp
  ·exact hg.elim
 | i :: r,Po,hp,c,s0,st,hg,E,a,w,h=>by
  obtain ⟨Y8,hnd⟩:=Po i (by simp);have ho:D.d.ops[i]? = some D.d.ops[i]:=Array.getElem?_eq_getElem Y8;have jU:D.d.ops.toList[i]? = some D.d.ops[i]:=sU ho;have tj:=List.pairwise_cons.1 hp;have Ee:=List.pairwise_cons.1 tj.2
  have fI:∀ j∈x :: i :: (r ++ tail),j < D.d.ops.size:=fun j hj=>by
   rcases bL hj with rfl | hj
   ·exact qQ
   ·rcases bL hj with rfl | hj
    ·exact Y8
    ·rcases List.mem_append.1 hj with hj | hj
     ·exact (Po j (by simp [hj])).1
     ·obtain ⟨_,o,ho,_⟩:=hY j hj;exact (Array.getElem?_eq_some_iff.1 ho).1
  have ih:=BJ hD dB sE zw hY qQ r (fun j hj=>Po j (by simp [hj])) (List.pairwise_cons.2 ⟨fun y hy=>tj.1 y (dj _ hy),Ee.2⟩);generalize D.d.ops[i]=o at ho jU
  have hone:∀ c s0 st,goD X ⟨D.d.ops,D.d.W,D.d.k,D.d.iF,some (goX X D.d x tail r)⟩ 3000 c [(i,o)] s0 st->fO X D c E s0 st a w->runT X.P D.d.ops D.d.W D.C (fun a w=>runX X.P D.d.ops D.d.W D.C (D.Q X) x (r ++ tail) a w) [i] a w:=fun c s0 st hg h=>by
   have h1:=eM (D:=⟨⟨D.d.ops,D.d.W,D.d.k,D.d.iF,some (goX X D.d x tail r)⟩,D.E0,D.wr⟩) hD 3000 c [(i,o)] s0 st hg (fun p hp=>by
    rw [List.mem_singleton] at hp;rw [hp]
    exact ho) E a w ⟨h.rel,h.x,h.β,h.t0,h.cc⟩
   refine lY ?_ h1;rintro a w ⟨c,E,s0,st,h2,h3⟩;exact ih c s0 st h3 E a w ⟨h2.rel,h2.x,h2.β,h2.t0,h2.cc⟩
  simp only [goX,jU] at hg;simp only [List.cons_append,runX,ho];rw [ah (by simp [hnd])];split at hg
  ·rename_i hE;obtain ⟨h1,h2⟩:=hg;rw [ai hE];have h3:=eM hD 3000 c _ _ _ h1 (fun p hp=>by simpa using xe hp) E a w h;rw [za fI] at h3;refine ⟨h3,?_⟩;have h4:=hone c s0 st h2 h;simp only [runT,ho,hE,if_true] at h4;exact h4
  ·rename_i hE;rw [ah (by simp [hE])];have h4:=hone c s0 st hg h;simp only [runT,ho,hE,Bool.false_eq_true,if_false] at h4;exact h4
theorem Pp (x:Nat) (l:List Nat):plc (x :: l) x=0:=by simp [plc]
theorem RX {x j:Nat} (l:List Nat) (h:j≠x):0 < plc (x :: l) j:=by
 have:Nat.beq x j=false:=by
  cases hb:Nat.beq x j
  ·rfl
  ·exact (h (Nat.eq_of_beq_eq_true hb).symm).elim
 simp [plc,this]
theorem Wq {s S:St} (h:dg s S:=by refine ⟨rfl,rfl,?_⟩;repeat' (first | exact trivial | refine ⟨rfl,?_⟩)):s=S∨dg s S:=.inr h
theorem RY {id:Nat} {ops:Array Oper} {k:List It} {st:St} (W:Nat->Bool) (x:Nat) (pre tail:List Nat) (hm:X.P.follows .mixedOrders=true) (hc:aaB ops W x pre tail=true) (S:St)
  (h:goX X ⟨ops,W,[.sx fun s=>s=S∨dg s S],st,none⟩ x tail pre true st.sl st) (hk:go X 4000 k S):lS X id ops k st:=by
 intro E a w hr;have iA:=jJ hr;simp only [aaB,aQ] at hc;obtain ⟨⟨⟨⟨⟨⟨hL,hO⟩,hS⟩,hDD⟩,hX⟩,Po⟩,zb⟩:=hc
 cases uE:ops[x]? with
 | none=>rw [uE] at hX;cases hX
 | some xo=>
 rw [uE] at hX;simp only [aQ,Bool.not_eq_true'] at hX;obtain ⟨Wm,RV⟩:=hX;simp only [G5,aQ,List.all_eq_true,Nat.blt_eq,Nat.ble_eq,beq_iff_eq,List.mem_range] at hL;obtain ⟨⟨⟨⟨_,SJ⟩,WZ⟩,hlen⟩,h1d⟩:=hL;have hp:=ru h1d;have tj:=List.pairwise_cons.1 hp;have dB:=rm hO;have sE:=rk hO
 have zC:∀ j,j≠x->plc (x :: (pre ++ tail)) x < plc (x :: (pre ++ tail)) j:=fun j hj=>by
  rw [Pp];exact RX _ hj
 have qQ:=(Array.getElem?_eq_some_iff.1 uE).1;have hS':=hS;simp only [vz,List.all_eq_true,List.mem_range,Bool.or_eq_true,Bool.not_eq_true'] at hS'
 have zw:∀ (i:Nat) (o:Oper),ops[i]? = some o->i≠x->gz o.op=false->ordB ops ops.size x i=false->fN ops W x i=true:=fun i o ho bF he hd=>by
  rcases hS' i (Array.getElem?_eq_some_iff.1 ho).1 x qQ with ((h1 | h1) | h1) | h1
  ·have:¬ Nat.blt (plc (x :: (pre ++ tail)) x) (plc (x :: (pre ++ tail)) i)=true:=by simp [h1]
   have:=zC i bF;simp at *;omega
  ·simp [exX,ho,he] at h1
  ·rw [hd] at h1;cases h1
  ·exact h1
 have bF:∀ i∈pre ++ tail,i≠x:=fun i hi e=>by
  have:=tj.1 i hi;rw [e] at this;omega
 have hs:=kJ iA (ops:=ops) (W:=W) (k:=[.sx fun s=>s=S∨dg s S])
 have cx:=BJ (D:=⟨⟨ops,W,[.sx fun s=>s=S∨dg s S],st,none⟩,E,w.drew⟩) iA.env.em dB sE zw (fun i hi=>by
  refine ⟨bF i (List.mem_append_right _ hi),?_⟩;have:=List.all_eq_true.1 zb i hi
  cases ho:ops[i]? with
  | none=>rw [ho] at this;cases this
  | some o=>
   rw [ho] at this;simp only [Bool.or_eq_true,Bool.not_eq_true'] at this;exact ⟨o,rfl,this⟩) qQ pre (fun i hi=>by
  refine ⟨WZ i (by simp [hi]),?_⟩;have:=List.all_eq_true.1 Po i hi
  simpa using this) hp true st.sl st h E a w.drew hs
 refine wp_region_any hm ?_;refine Pn (C:=CC E st.bx w.drew) (Q:=kq X [.sx fun s=>s=S∨dg s S] .normal) (π:=plc (x :: (pre ++ tail))) uE Wm RV zC hO hS hDD (fun a w hq=>?_) ops.size (Array.replicate ops.size false) (pre ++ tail) a _ (by simp) ?_ (by simp [qQ]) ?_ hp ?_ (fun _=>hs.cc rfl) cx
 ·obtain ⟨qS,E1,cj,hJ⟩:=hq;rcases hJ with rfl | hJ
  ·exact go_sound 4000 _ _ hk E1 a w cj
  ·exact go_sound 4000 _ _ hk E1 a w (n7 cj hJ)
 ·intro i o ho hl;have:i < ops.size:=(Array.getElem?_eq_some_iff.1 ho).1;simp [this] at hl
 ·intro i;constructor
  ·intro hi;have:=WZ i (by simp [List.mem_append.1 hi]);exact ⟨bF i hi,this,by simp [this]⟩
  ·rintro ⟨h1,h2,_⟩;have:=SJ i h2;have h4:i=x∨i∈pre ++ tail:=sU this;exact h4.resolve_left h1
 ·simp only [List.length_cons] at hlen;exact hlen
end
end Dv
end Go.Proofs.YtadhpeooehkklaaGreat
