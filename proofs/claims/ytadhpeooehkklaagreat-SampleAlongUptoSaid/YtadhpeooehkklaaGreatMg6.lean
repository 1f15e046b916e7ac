/- Part 6 of the proof: tree's leaf, kids, Fits; tree.Fits; the document's To, Fits; Values as they are written: plain; tree.write, Raw; Paths: data, Step compared with itself; ref09.Begins, Same on the same path; ref25.Step; What is read of steps, and of steps with a value; How a list that came in is read; The least depths of the values of a plan's nodes: plain; Which nodes have several values: plain; How many unlike values nodes have: plain, as the document counts; The program's nodes, least depths; The document's least depths; fine; the chapter's example; The program's Depths; The law of least depths: fine, the example, the call returns true; The program's several, Several; The document's count, Many; the law of several values: the call returns true; The document's Many; the law of several values: the call returns true; First and second values: tags, sizes: plain; Regions that draw their order and only read: run with one state; Sample: the program's tags and sizes; Sample: the program's turn, part, first, changed; First and second values: the tables, the values: plain; Sample: the program's first, changed, second; Sample: the program's second; A region that draws its order, in which a new object may come at any time among calls: its run with the object made at each of these times serves every order. No condition. -/
import Derived.Test.YtadhpeooehkklaaGreatMg2
import Derived.Test.YtadhpeooehkklaaGreatMg3
import Derived.Test.YtadhpeooehkklaaGreatMg4
import Derived.Test.YtadhpeooehkklaaGreatMg5
set_option linter.all false
set_option maxRecDepth 100000
namespace Go.Proofs.YtadhpeooehkklaaGreat
open Go Go.RowKit Dv Go.Proofs.Tryz
def uz (l:List Int):List (List DV):=l.map fun z=>[DV.v (.int .i64 z)]
theorem mZ (l:List Int):(uz l).length=l.length:=by simp [uz]
theorem Jg {l:List Int} {i:Nat} {z:Int} (h:l[i]? = some z):(uz l)[i]? = some [DV.v (.int .i64 z)]:=by simp [uz,h]
theorem yb (l:List Int) (z:Int):uz l ++ [[DV.v (.int .i64 z)]]=uz (l ++ [z]):=by simp [uz]
theorem tB:(⟨#[]⟩:ByteArray)=ay:=rfl
theorem KR (n:Nd) (v:Val):aV prog 53 [.agg (gL n),.agg (dVal v)] (.v (.bool (AM n v))):=by
 have hbl:=ct n.af;obtain ⟨ag,aX,lo,hi,most,af,es⟩:=n;obtain ⟨q,z,s,ks⟩:=v;have bH:=bV ks;simp only at hbl
 have hF:AM ⟨ag,aX,lo,hi,most,af,es⟩ (.mk q z s ks)=if 0 < ks.length∨(q≠3/\s≠ay)∨(q=3/\z≠0) then false
  else if ag=1 then decide (q=1) && (decide (z=0) || decide (z=1))
  else if ag=2 then decide (q=2) && decide (lo<=z) && decide (z<=hi)
  else if ag=3 then decide (q=3) && decide ((s.size:Int)<=most)
  else decide (q=4) && decide (0<=z) && decide (z < af.length):=rfl
 have hc:∀ b:Bool,b=pickB (pickB (decide (0 < ((dVals ks).length:Int))) true (pickB (!decide (q=3)) (!decide (s=⟨#[]⟩)) false)) true (pickB (decide (q=3)) (!decide (z=0)) false)->b=decide (0 < ks.length∨(q≠3/\s≠ay)∨(q=3/\z≠0)):=fun b h=>by
  rw [h,bH,tB,Bool.eq_iff_iff];simp [aw,av,or_assoc]
 rw [hF];refine eG 94 [.tmp 4] func53 rfl ntmps53 rfl fun _ _ _ _=>?_;refine br ?_ ?_<;>intro c
 ·have c:=of_decide_eq_true ((hc _ rfl).symm.trans c);rw [ai c];exact (rfl:_=_)
 have c:=of_decide_eq_false ((hc _ rfl).symm.trans c);rw [ah c];refine br ?_ ?_<;>intro c1
 ·have c1:ag=1:=sU c1;refine (congrArg (fun b=>DV.v (.bool b)) ?_:_=_);simp [c1,av,aw]
 have c1:¬ ag=1:=sU c1;refine br ?_ ?_<;>intro c2
 ·have c2:ag=2:=sU c2;refine (congrArg (fun b=>DV.v (.bool b)) ?_:_=_);simp [c2,av,aw]
 have c2:¬ ag=2:=sU c2;refine br ?_ ?_<;>intro c3
 ·have c3:ag=3:=sU c3;refine (congrArg (fun b=>DV.v (.bool b)) ?_:_=_);simp [c3,av,aw]
 have c3:¬ ag=3:=sU c3;refine (congrArg (fun b=>DV.v (.bool b)) ?_:_=_);simp [c1,c2,c3,av,aw,hbl]
abbrev Tk (n:Nd) (v:Val) (l:List Int) (p:Bool) (kd mo:Int) (q e:Nat):St:=
 ⟨[(2,⟨[],.loc 0 0⟩),(3,⟨[],.loc 1 0⟩),(6,⟨[],.sl 1 (uz l) (some 0)⟩),(7,⟨[],.v (.bool p)⟩),(8,⟨[],.v (.int .i64 kd)⟩),(9,⟨[],.v (.int .i64 mo)⟩),(38,⟨[],.v (.int .i64 v.ks.length)⟩),(39,⟨[],.v (.int .i64 e)⟩)],[gL n,dVal v],[⟨q,3,1,none⟩]⟩
abbrev ZO (n:Nd) (v:Val) (l:List Int) (p:Bool) (q e:Nat):St:=
 ⟨[(2,⟨[],.loc 0 0⟩),(3,⟨[],.loc 1 0⟩),(6,⟨[],.sl 1 (uz l) (some 0)⟩),(7,⟨[],.v (.bool p)⟩),(67,⟨[],.sl 10 (cG n.ak) none⟩),(68,⟨[],.v (.int .i64 (cG n.ak).length)⟩),(69,⟨[],.v (.int .i64 e)⟩)],[gL n,dVal v],[⟨q,3,1,none⟩]⟩
theorem AO {L N:Nat} {n:Nd} (hn:cK L N n) (h5:5<=n.ag) (v:Val) (hv:v.wt<=1099511627776) :
  aV prog 54 [.agg (gL n),.agg (dVal v)] (.tup [.sl 1 (uz (kidsL n v)) none,.v (.bool (er n v))]):=by
 have HF:=hn.k8;have cu:=hn.one;have yc:=hn.many;obtain ⟨ag,aX,lo,hi,most,af,es⟩:=n;obtain ⟨q,z,s,ks⟩:=v;have bH:=bV ks;have ez:=aT es;have eC:=gN ks;rw [Val.wt] at hv;simp only at HF h5 cu yc
 have hp:∀ b:Bool,b=pickB (decide (s=⟨#[]⟩)) (pickB (decide (z=0)) true (decide (q=8))) false->b=eM (.mk q z s ks):=fun b h=>by
  rw [h];rw [av,aw,tB];all_goals rfl
 refine eG 134 [.tmp 4,.tmp 5] func54 rfl ntmps54 rfl fun _ _ _ _=>?_;refine br ?_ ?_<;>intro c
 ·have c:ag=5:=sU c;have VD:ag=5∨ag=6:=.inl c;obtain ⟨x,gD,_,_⟩:=cu VD;refine br (fun _=>?_) (fun h=>absurd h (by simp [c]));refine dI ?_;refine br (fun h=>absurd h (by simp [c])) (fun _=>?_);obtain ⟨kd,mo,h1,h2,h3,h4⟩:∃ kd mo:Int,5=kd/\most=mo/\kd=ag/\mo=(if ag=6 then 1 else most):=⟨5,most,rfl,rfl,c.symm,by rw [ah (by omega)]⟩;have y4:(cG es)[0]? = some (Ce x):=by rw [gD];all_goals rfl
  have ht0:to0 ⟨ag,aX,lo,hi,most,af,es⟩=x.to:=by simp [to0,gD]
  refine lJ (fun e=>Tk ⟨ag,aX,lo,hi,most,af,es⟩ (.mk q z s ks) (List.replicate e x.to) (eM (.mk q z s ks)) kd mo e e) ks.length (dc 2 ⟨0,3,1,none⟩ rfl rfl rfl (by repeat' (first | exact rfl | exact az rfl | exact cF (hp _ rfl) | exact aD h1 | exact aD h2 | exact aD (congrArg Nat.cast bH) | exact cT (aR _) rfl | exact cT (aR _) rfl | refine ⟨_,_,rfl,?_,?_⟩)) rfl rfl (by repeat' (first | exact trivial | exact az rfl | exact cF (hp _ rfl) | exact aD h1 | exact aD h2 | exact aD (congrArg Nat.cast bH) | exact cT (aR _) rfl | refine ⟨⟨_,rfl,?_⟩,?_⟩))) ?_;intro e he;refine br ?_ ?_<;>intro hL
  ·have ap:e < ks.length:=by have:=hL;simp [Val.ks] at this;exact this
   have dm:(uz (List.replicate e x.to)).length=e:=by rw [mZ,List.length_replicate]
   have dK:uz (List.replicate e x.to) ++ [[DV.v (.int .i64 x.to)]]=uz (List.replicate (e + 1) x.to):=by rw [yb,List.replicate_succ']
   refine ⟨_,⟨by omega,y4⟩,?_⟩;refine ⟨dm,⟨by rw [dm];simp [maxLen];omega,by rw [dm];simp;omega⟩,?_⟩;exact rE ⟨_,by omega,e + 1,rfl,by omega,rfl⟩ (au 2 rfl (gF (aJ ap (by omega)) dK) rfl rfl rfl (wB2 (aJ ap (by omega)) dK))
  ·have aQ:e=ks.length:=by have:=hL;simp [Val.ks] at this;omega
   subst aQ;have zk:kidsL ⟨ag,aX,lo,hi,most,af,es⟩ (.mk q z s ks)=List.replicate ks.length x.to:=by unfold kidsL;rw [ai VD,ht0];all_goals rfl
   have dm:(uz (List.replicate ks.length x.to)).length=ks.length:=by rw [mZ,List.length_replicate]
   have hB:pickB (pickB (eM (.mk q z s ks)) (decide (q=kd)) false) (decide (((uz (List.replicate ks.length x.to)).length:Int)<=mo)) false=er ⟨ag,aX,lo,hi,most,af,es⟩ (.mk q z s ks):=by
    rw [dm,h3,h4,av,av];unfold er;rw [ai VD];rfl
   rw [zk];exact ⟨_,(gU hB),rfl⟩
 have c5:¬ ag=5:=sU c;refine br ?_ ?_<;>intro c
 ·have c:ag=6:=sU c;have VD:ag=5∨ag=6:=.inr c;obtain ⟨x,gD,_,_⟩:=cu VD;refine dI ?_;refine br (fun _=>?_) (fun h=>absurd h (by simp [c]));obtain ⟨kd,mo,h1,h2,h3,h4⟩:∃ kd mo:Int,6=kd/\1=mo/\kd=ag/\mo=(if ag=6 then 1 else most):=⟨6,1,rfl,rfl,c.symm,by rw [ai c]⟩;have y4:(cG es)[0]? = some (Ce x):=by rw [gD];all_goals rfl
  have ht0:to0 ⟨ag,aX,lo,hi,most,af,es⟩=x.to:=by simp [to0,gD]
  refine lJ (fun e=>Tk ⟨ag,aX,lo,hi,most,af,es⟩ (.mk q z s ks) (List.replicate e x.to) (eM (.mk q z s ks)) kd mo e e) ks.length (dc 2 ⟨0,3,1,none⟩ rfl rfl rfl (by repeat' (first | exact rfl | exact az rfl | exact cF (hp _ rfl) | exact aD h1 | exact aD h2 | exact aD (congrArg Nat.cast bH) | exact cT (aR _) rfl | exact cT (aR _) rfl | refine ⟨_,_,rfl,?_,?_⟩)) rfl rfl (by repeat' (first | exact trivial | exact az rfl | exact cF (hp _ rfl) | exact aD h1 | exact aD h2 | exact aD (congrArg Nat.cast bH) | exact cT (aR _) rfl | refine ⟨⟨_,rfl,?_⟩,?_⟩))) ?_;intro e he;refine br ?_ ?_<;>intro hL
  ·have ap:e < ks.length:=by have:=hL;simp [Val.ks] at this;exact this
   have dm:(uz (List.replicate e x.to)).length=e:=by rw [mZ,List.length_replicate]
   have dK:uz (List.replicate e x.to) ++ [[DV.v (.int .i64 x.to)]]=uz (List.replicate (e + 1) x.to):=by rw [yb,List.replicate_succ']
   refine ⟨_,⟨by omega,y4⟩,?_⟩;refine ⟨dm,⟨by rw [dm];simp [maxLen];omega,by rw [dm];simp;omega⟩,?_⟩;exact rE ⟨_,by omega,e + 1,rfl,by omega,rfl⟩ (au 2 rfl (gF (aJ ap (by omega)) dK) rfl rfl rfl (wB2 (aJ ap (by omega)) dK))
  ·have aQ:e=ks.length:=by have:=hL;simp [Val.ks] at this;omega
   subst aQ;have zk:kidsL ⟨ag,aX,lo,hi,most,af,es⟩ (.mk q z s ks)=List.replicate ks.length x.to:=by unfold kidsL;rw [ai VD,ht0];all_goals rfl
   have dm:(uz (List.replicate ks.length x.to)).length=ks.length:=by rw [mZ,List.length_replicate]
   have hB:pickB (pickB (eM (.mk q z s ks)) (decide (q=kd)) false) (decide (((uz (List.replicate ks.length x.to)).length:Int)<=mo)) false=er ⟨ag,aX,lo,hi,most,af,es⟩ (.mk q z s ks):=by
    rw [dm,h3,h4,av,av];unfold er;rw [ai VD];rfl
   rw [zk];exact ⟨_,(gU hB),rfl⟩
 have c6:¬ ag=6:=sU c;obtain ⟨hm64,hm8,_,_⟩:=yc (by omega);refine br ?_ ?_<;>intro c
 ·have c7:ag=7:=sU c;refine lJ (fun e=>ZO ⟨ag,aX,lo,hi,most,af,es⟩ (.mk q z s ks) ((es.take e).map Ed.to) (eM (.mk q z s ks)) e e) es.length (dc 2 ⟨0,3,1,none⟩ rfl rfl rfl (by repeat' (first | exact rfl | exact az rfl | exact cF (hp _ rfl) | exact cT (aR _) rfl | exact cT (aR _) rfl | refine ⟨_,_,rfl,?_,?_⟩)) rfl rfl (by repeat' (first | exact trivial | exact az rfl | exact cF (hp _ rfl) | exact cT (aR _) rfl | refine ⟨⟨_,rfl,?_⟩,?_⟩))) ?_;intro e he;refine br ?_ ?_<;>intro hL
  ·have ap:e < es.length:=by have:=hL;simp [ez] at this;exact this
   obtain ⟨x,hx⟩:=gX ap;have dm:(uz ((es.take e).map Ed.to)).length=e:=by rw [mZ,List.length_map,zLenT];omega
   have dK:uz ((es.take e).map Ed.to) ++ [[DV.v (.int .i64 x.to)]]=uz ((es.take (e + 1)).map Ed.to):=by rw [yb,dE hx,List.map_append];all_goals rfl
   refine iX (aE hx) ?_;refine ⟨dm,⟨by rw [dm];simp [maxLen];omega,by rw [dm];simp;omega⟩,?_⟩;exact rE ⟨_,by omega,e + 1,rfl,by omega,rfl⟩ (au 2 rfl (gF (aJ ap (by omega)) dK) rfl rfl rfl (wB2 (aJ ap (by omega)) dK))
  ·have aQ:e=es.length:=sW ez hL;subst aQ;rw [List.take_length];have zk:kidsL ⟨ag,aX,lo,hi,most,af,es⟩ (.mk q z s ks)=es.map Ed.to:=by unfold kidsL;rw [ah (by simp only;omega),ai c7]
   have dm:(uz (es.map Ed.to)).length=es.length:=by rw [mZ,List.length_map]
   have hB:pickB (pickB (eM (.mk q z s ks)) (decide (q=7)) false) (decide (((uz (es.map Ed.to)).length:Int)=((dVals ks).length:Int))) false=er ⟨ag,aX,lo,hi,most,af,es⟩ (.mk q z s ks):=by
    rw [dm,bH,av,av];unfold er;rw [ah (by simp only;omega),ai c7];have:((es.length:Int)=(ks.length:Int))↔es.length=ks.length:=by omega
    simp only [this,Val.k,Val.ks];rfl
   rw [zk];refine dI ?_;exact ⟨_,(gU hB),rfl⟩
 have c7:¬ ag=7:=sU c;have zk:kidsL ⟨ag,aX,lo,hi,most,af,es⟩ (.mk q z s ks)=(match pv ⟨ag,aX,lo,hi,most,af,es⟩ (.mk q z s ks) with | none=>[] | some e=>if e.bare=true then [] else [e.to]):=by unfold kidsL;rw [ah (by simp only;omega),ah c7];all_goals rfl
 have Q9:er ⟨ag,aX,lo,hi,most,af,es⟩ (.mk q z s ks)=(match pv ⟨ag,aX,lo,hi,most,af,es⟩ (.mk q z s ks) with | none=>false | some _=>eM (.mk q z s ks) && decide ((kidsL ⟨ag,aX,lo,hi,most,af,es⟩ (.mk q z s ks)).length=ks.length)):=by unfold er;rw [ah (by simp only;omega),ah c7];all_goals rfl
 have hc:∀ b:Bool,b=pickB (pickB (!decide (q=8)) true (decide (z < 0))) true (decide (((cG es).length:Int)<=z))->b = !decide (q=8/\0<=z/\z < es.length):=fun b h=>by
  rw [h,ez,aw,aw,Bool.eq_iff_iff];simp;omega
 refine br ?_ ?_<;>intro c
 ·have c:¬ (q=8/\0<=z/\z < es.length):=by have:=(hc _ rfl).symm.trans c;simpa only [Bool.not_eq_true',decide_eq_false_iff_not] using this
  have ht:pv ⟨ag,aX,lo,hi,most,af,es⟩ (.mk q z s ks)=none:=by show (if q=8/\0<=z/\z < es.length then es[z.toNat]? else none)=_;rw [ah c]
  rw [Q9,zk,ht];exact ⟨_,ax,rfl⟩
 ·have c:q=8/\0<=z/\z < es.length:=by have:=(hc _ rfl).symm.trans c;simpa only [Bool.not_eq_false',decide_eq_true_eq] using this
  obtain ⟨x,hx⟩:∃ x,es[z.toNat]? = some x:=⟨_,gE (by omega)⟩;have ht:pv ⟨ag,aX,lo,hi,most,af,es⟩ (.mk q z s ks)=some x:=by show (if q=8/\0<=z/\z < es.length then es[z.toNat]? else none)=_;rw [ai c];exact hx
  rw [ht] at Q9 zk;refine iX (aE hx) ?_;refine br ?_ ?_<;>intro hb
  ·have hb:x.bare=false:=sU hb;have Oe:kidsL ⟨ag,aX,lo,hi,most,af,es⟩ (.mk q z s ks)=[x.to]:=by rw [zk];simp [hb]
   have hB:pickB (eM (.mk q z s ks)) (decide ((1:Int)=((dVals ks).length:Int))) false=er ⟨ag,aX,lo,hi,most,af,es⟩ (.mk q z s ks):=by
    rw [Q9,Oe,bH,av];have:((1:Int)=(ks.length:Int)) ↔ [x.to].length=ks.length:=by simp;omega
    simp only [this]
   rw [Oe,<- hB];refine ⟨⟨by simp [maxLen],by simp⟩,?_⟩;refine dI ?_;exact ⟨_,(by repeat' (first | exact rfl | exact trivial | exact Or.inr (Or.inl ⟨_,rfl⟩) | exact Or.inr ⟨_,rfl⟩ | exact Or.inl ⟨rfl,rfl⟩ | exact Or.inl rfl | refine Or.inr ⟨_,_,rfl,Nat.zero_le _,rfl,?_⟩ | refine ⟨_,_,rfl,?_,?_⟩ | refine ⟨_,rfl,?_⟩ | exact congrArg (fun b=>DV.v (.bool (pickB b _ false))) (hp _ rfl) | refine Or.inr (Or.inr (Or.inr ⟨_,_,rfl,?_⟩)) | exact Or.inl rfl | refine Or.inr ?_)),rfl⟩
  ·have hb:x.bare=true:=sU hb;have Oe:kidsL ⟨ag,aX,lo,hi,most,af,es⟩ (.mk q z s ks)=[]:=by rw [zk];simp [hb]
   have hB:pickB (eM (.mk q z s ks)) (decide ((0:Int)=((dVals ks).length:Int))) false=er ⟨ag,aX,lo,hi,most,af,es⟩ (.mk q z s ks):=by
    rw [Q9,Oe,bH,av];have:((0:Int)=(ks.length:Int))↔([]:List Int).length=ks.length:=by simp;omega
    simp only [this]
   rw [Oe,<- hB];refine dI ?_;exact ⟨_,(by repeat' (first | exact rfl | exact trivial | exact Or.inr (Or.inl ⟨_,rfl⟩) | exact Or.inr ⟨_,rfl⟩ | exact Or.inl ⟨rfl,rfl⟩ | exact Or.inl rfl | refine Or.inr ⟨_,_,rfl,Nat.zero_le _,rfl,?_⟩ | refine ⟨_,_,rfl,?_,?_⟩ | refine ⟨_,rfl,?_⟩ | exact congrArg (fun b=>DV.v (.bool (pickB b _ false))) (hp _ rfl) | refine Or.inr (Or.inr (Or.inr ⟨_,_,rfl,?_⟩)) | exact Or.inl rfl | refine Or.inr ?_)),rfl⟩
theorem AP {n:Nd} {v:Val} (hk:5<=n.ag) (h:er n v=true):(kidsL n v).length=v.ks.length:=by
 unfold er at h;by_cases c:n.ag=5∨n.ag=6
 ·unfold kidsL;rw [ai c];simp
 rw [ah c] at h;by_cases c7:n.ag=7
 ·rw [ai c7] at h;unfold kidsL;rw [ah c,ai c7,List.length_map];simp at h;exact h.2
 rw [ah c7] at h
 cases ht:pv n v with
 | none=>rw [ht] at h;cases h
 | some e=>rw [ht] at h;simp only [aP,decide_eq_true_eq] at h;exact h.2
theorem HH {ND:List Nd} {ks:List Val} {l:List Int} {e:Nat} {x:Val} {i:Int} (h1:ks[e]? = some x) (h2:l[e]? = some i):fitVs ND (ks.drop e) (l.drop e)=(fitV ND x i && fitVs ND (ks.drop (e + 1)) (l.drop (e + 1))):=by
 rw [drop_cons h1,drop_cons h2,fitVs]
theorem hY {ND:List Nd} {i:Int} {d:Nd} (h:l8 ND i=some d):0<=i/\ND[i.toNat]? = some d:=by
 unfold l8 at h;split at h
 ·cases h
 ·exact ⟨by omega,h⟩
theorem yd {ND:List Nd} {i:Int} (h:l8 ND i=none):i < 0∨(ND.length:Int)<=i:=by
 unfold l8 at h;split at h
 ·left;assumption
 ·right;have:=List.getElem?_eq_none_iff.1 h;omega
abbrev tfSt (PC:List DV) (v:Val) (l:List Int) (e:Nat):St:=
 ⟨[(0,⟨[],.pt PC 0⟩),(5,⟨[],.loc 0 0⟩),(36,⟨[],.sl 1 (uz l) none⟩),(37,⟨[],.v (.int .i64 l.length)⟩),(38,⟨[],.v (.int .i64 e)⟩)],[dVal v],[]⟩
theorem qj {S:Sch} {ND:List Nd} {PC:List DV} (hP:fm S ND PC):∀ (k:Nat) (v:Val),v.wt<=k->v.wt<=1099511627776->∀ i:Int,aV prog 14 [.pt PC 0,.v (.int .i64 i),.agg (dVal v)] (.v (.bool (fitV ND v i)))
 | 0,v,h,_=>by have:=v.eJ;omega
 | k + 1,.mk q z s ks,h,hb=>fun i=>by
  have ih:=qj hP k;have eC:=gN ks;have bH:=bV ks;have gv:=hb;rw [Val.wt] at h hb;rw [fitV];have eW:=hP.aq;have VE:=hP.Tj;have bw:=hP.ok
  cases hd:l8 ND i with
  | none=>
   refine eG 53 [.tmp 6] func14 rfl ntmps14 rfl fun _ _ _ _=>?_;refine cP Gv (VE i (yd hd)) ?_;exact (rfl:_=_)
  | some d=>
   obtain ⟨h0,hg⟩:=hY hd;obtain ⟨j,rfl⟩:∃ j:Nat,i=j:=⟨i.toNat,by omega⟩;have hg:ND[j]? = some d:=sU hg;have hN:=bw d (mG hg);have F3:=KR d (.mk q z s ks);have Eg:=fun h5=>AO hN h5 (.mk q z s ks) gv;have hlen:=fun h5=>AP (n:=d) (v:=.mk q z s ks) h5;simp only;obtain ⟨ag,aX,lo,hi,most,af,es⟩:=d;simp only at Eg hlen;refine eG 53 [.tmp 6] func14 rfl ntmps14 rfl fun _ _ _ _=>?_;refine cP Gv (eW j _ hg) ?_;refine br ?_ ?_<;>intro c
   ·have c:ag < 5:=sU c;rw [ai c];refine cP en53 F3 ?_;exact (rfl:_=_)
   have c:¬ ag < 5:=sU c;rw [ah c];have Eg:=Eg (by omega);have hlen:=hlen (by omega);generalize kidsL ⟨ag,aX,lo,hi,most,af,es⟩ (.mk q z s ks)=l at Eg hlen ⊢;have Ww:=mZ l;refine cP Xr Eg ?_
   cases hB:er ⟨ag,aX,lo,hi,most,af,es⟩ (.mk q z s ks) with
   | false=>
    exact (rfl:_=_)
   | true=>
    have hlen:l.length=ks.length:=hlen hB;rw [Bool.true_and];refine lI (fun j st=>∃ e:Nat,st=tfSt PC (.mk q z s ks) l e/\e<=l.length/\fitVs ND ks l=fitVs ND (ks.drop e) (l.drop e)/\j=l.length - e) ⟨0,rfl,by omega,rfl,rfl⟩ (aj ⟨_,rfl⟩ wA rfl rfl rfl (dt Ww)) ?_;rintro _ st ⟨e,rfl,he,aN,rfl⟩;refine br ?_ ?_<;>intro hL
    ·have ap:e < l.length:=by have:=hL;simp at this;exact this
     obtain ⟨x,hx⟩:∃ x,ks[e]? = some x:=⟨_,gE (by omega)⟩;obtain ⟨y,hy⟩:=gX ap;have SY:=jM (mG hx);rw [HH hx hy] at aN;have eQ:=ih x (by omega) (by omega) y;obtain ⟨xk,xn,xs,xl⟩:=x;refine iX (Jg hy) ?_;refine iX (iq hx) ?_;refine cP Mg eQ ?_;refine br ?_ ?_<;>intro g
     ·have g:fitV ND (.mk xk xn xs xl) y=false:=sU g;rw [aN,g];exact (rfl:_=_)
     ·have g:fitV ND (.mk xk xn xs xl) y=true:=sU g;rw [g,Bool.true_and] at aN;exact rE ⟨_,by omega,e + 1,rfl,by omega,aN,rfl⟩ (aj ⟨_,rfl⟩ wA rfl rfl rfl (dt (aJ ap (by omega))))
    ·have aQ:e=l.length:=by have:=hL;simp at this;omega
     rw [List.drop_of_length_le (by omega),List.drop_of_length_le (by omega)] at aN;rw [aN];exact (rfl:_=_)
theorem KS {L N:Nat} {n:Nd} (hn:cK L N n) (v:Val) (j:Nat):aV prog 137 [.agg (gL n),.agg (dVal v),.v (.int .i64 j)] (.v (.int .i64 (Jd n v j))):=by
 have cu:=hn.one;obtain ⟨ag,aX,lo,hi,most,af,es⟩:=n;obtain ⟨q,z,s,ks⟩:=v;have ez:=aT es;simp only at cu
 have hF:Jd ⟨ag,aX,lo,hi,most,af,es⟩ (.mk q z s ks) j=if ag=5 then (if (j:Int) < most then to0 ⟨ag,aX,lo,hi,most,af,es⟩ else -1)
  else if ag=6 then (if j < 1 then to0 ⟨ag,aX,lo,hi,most,af,es⟩ else -1)
  else if ag=7 then (match es[j]? with | some e=>e.to | none=>-1)
  else if ag=8 then (if j < 1/\0<=z/\z < es.length then (match es[z.toNat]? with | some e=>e.to | none=>-1) else -1)
  else -1:=rfl
 rw [hF];refine eG 66 [.tmp 6] func137 rfl ntmps137 rfl fun _ _ _ _=>?_;refine br ?_ ?_<;>intro c
 ·have c:ag=5:=sU c;rw [ai c];obtain ⟨x,gD,_,_⟩:=cu (.inl c);have y4:(cG es)[0]? = some (Ce x):=by rw [gD];all_goals rfl
  have ht0:to0 ⟨ag,aX,lo,hi,most,af,es⟩=x.to:=by simp [to0,gD]
  refine br ?_ ?_<;>intro g
  ·have g:(j:Int) < most:=sU g;rw [ai g,ht0];refine ⟨_,⟨by omega,y4⟩,?_⟩;exact (rfl:_=_)
  ·have g:¬ (j:Int) < most:=sU g;rw [ah g];exact (rfl:_=_)
 have c5:¬ ag=5:=sU c;rw [ah c5];refine br ?_ ?_<;>intro c
 ·have c:ag=6:=sU c;rw [ai c];obtain ⟨x,gD,_,_⟩:=cu (.inr c);have y4:(cG es)[0]? = some (Ce x):=by rw [gD];all_goals rfl
  have ht0:to0 ⟨ag,aX,lo,hi,most,af,es⟩=x.to:=by simp [to0,gD]
  refine br ?_ ?_<;>intro g
  ·have g:j < 1:=by have:=g;simp at this;omega
   rw [ai g,ht0];refine ⟨_,⟨by omega,y4⟩,?_⟩;exact (rfl:_=_)
  ·have g:¬ j < 1:=by have:=g;simp at this;omega
   rw [ah g];exact (rfl:_=_)
 have c6:¬ ag=6:=sU c;rw [ah c6];refine br ?_ ?_<;>intro c
 ·have c:ag=7:=sU c;rw [ai c];refine br ?_ ?_<;>intro g
  ·have g:j < es.length:=by have:=g;simp [ez] at this;exact this
   obtain ⟨x,hx⟩:∃ x,es[j]? = some x:=⟨_,gE g⟩;refine iX (aE hx) ?_;rw [hx];exact (rfl:_=_)
  ·have g:es.length<=j:=sW ez g;rw [cR g];exact (rfl:_=_)
 have c7:¬ ag=7:=sU c;rw [ah c7];refine br ?_ ?_<;>intro c
 ·have c:ag=8:=sU c;rw [ai c]
  have hc:∀ b:Bool,b=pickB (pickB (decide ((j:Int) < 1)) (decide (0<=z)) false) (decide (z < ((cG es).length:Int))) false->b=decide (j < 1/\0<=z/\z < es.length):=fun b h=>by
   rw [h,ez,av,av,Bool.eq_iff_iff];simp;omega
  refine br ?_ ?_<;>intro g
  ·have g:=of_decide_eq_true ((hc _ rfl).symm.trans g);obtain ⟨x,hx⟩:∃ x,es[z.toNat]? = some x:=⟨_,gE (by omega)⟩;rw [ai g,hx];refine iX (aE hx) ?_;exact (rfl:_=_)
  ·have g:=of_decide_eq_false ((hc _ rfl).symm.trans g);rw [ah g];exact (rfl:_=_)
 ·have c8:¬ ag=8:=sU c;rw [ah c8];exact (rfl:_=_)
structure VF (ND:List Nd) (v:Val) (i:Int) (d:Nd):Prop where
 aq:l8 ND i=some d
 k:v.k=d.ag
 leaf:d.ag < 5->v.ks=[]
 enum:d.ag=4->0<=v.n/\v.n < d.af.length
 kids:5<=d.ag->(kidsL d v).length=v.ks.length/\fitVs ND v.ks (kidsL d v)=true
 tag:d.ag=8->∃ e,pv d v=some e/\d.ak[v.n.toNat]? = some e/\0<=v.n/\v.n < d.ak.length/\(e.bare=true↔v.ks=[])
 opt:d.ag=6->v.ks.length<=1
theorem tC {L:Nat} {ND:List Nd} (bw:∀ n∈ND,cK L ND.length n) {v:Val} {i:Int} (h:fitV ND v i=true):∃ d,VF ND v i d:=by
 obtain ⟨k,n,s,ks⟩:=v;rw [fitV] at h
 cases hd:l8 ND i with
 | none=>rw [hd] at h;cases h
 | some d=>
  rw [hd] at h;simp only at h;have hN:=bw d (mG (hY hd).2);have jU:=hN.k1;have HF:=hN.k8;by_cases h5:d.ag < 5
  ·rw [ai h5] at h;unfold AM at h;by_cases hc:0 < (Val.mk k n s ks).ks.length∨((Val.mk k n s ks).k≠3/\(Val.mk k n s ks).s≠ay)∨((Val.mk k n s ks).k=3/\(Val.mk k n s ks).n≠0)
   ·rw [ai hc] at h;cases h
   rw [ah hc] at h
   have Oc:ks=[]:=by
    cases ks with
    | nil=>rfl
    | cons a b=>exact (hc (.inl (by simp [Val.ks]))).elim
   have hk:k=d.ag/\(d.ag=4->0<=n/\n < d.af.length):=by
    rcases (show d.ag=1∨d.ag=2∨d.ag=3∨d.ag=4 by omega) with c | c | c | c
    all_goals
     simp [c,Val.k,Val.n] at h;simp only [c];constructor
     ·first | exact of_decide_eq_true h.1 | exact of_decide_eq_true h.1.1
     ·first | (intro;omega) | exact fun _=>⟨of_decide_eq_true h.1.2,of_decide_eq_true h.2⟩
   exact ⟨d,{ aq:=hd,k:=hk.1,leaf:=fun _=>Oc,enum:=hk.2,kids:=fun h=>by omega,tag:=fun h=>by omega,opt:=fun h=>by omega }⟩
  ·rw [ah h5,aP] at h;obtain ⟨hB,hf⟩:=h;have hlen:=AP (by omega) hB;have hB2:=hB;unfold er at hB;by_cases c:d.ag=5∨d.ag=6
   ·rw [ai c] at hB;simp only [aP,decide_eq_true_eq] at hB;exact ⟨d,{ aq:=hd,k:=hB.1.2,leaf:=fun h=>by omega,enum:=fun h=>by omega,kids:=fun _=>⟨hlen,hf⟩,tag:=fun h=>by omega,opt:=fun h=>by have:=hB.2;rw [ai h] at this;omega }⟩
   rw [ah c] at hB;by_cases c7:d.ag=7
   ·rw [ai c7] at hB;simp only [aP,decide_eq_true_eq] at hB;exact ⟨d,{ aq:=hd,k:=by rw [c7];exact hB.1.2,leaf:=fun h=>by omega,enum:=fun h=>by omega,kids:=fun _=>⟨hlen,hf⟩,tag:=fun h=>by omega,opt:=fun h=>by omega }⟩
   rw [ah c7] at hB
   cases ht:pv d (.mk k n s ks) with
   | none=>rw [ht] at hB;cases hB
   | some e=>
    have ht2:=ht;unfold pv at ht2;split at ht2
    ·rename_i hr;have eC:kidsL d (.mk k n s ks)=if e.bare=true then [] else [e.to]:=by unfold kidsL;rw [ah c,ah c7,ht]
     refine ⟨d,{ aq:=hd,k:=by have:=hr.1;omega,leaf:=fun h=>by omega,enum:=fun h=>by omega,kids:=fun _=>⟨hlen,hf⟩,tag:=fun _=>⟨e,ht,ht2,hr.2.1,hr.2.2,?_⟩,opt:=fun h=>by omega }⟩;rw [eC] at hlen;constructor
     ·intro hb;rw [ai hb] at hlen;exact List.eq_nil_of_length_eq_zero hlen.symm
     ·intro Oc;rw [Oc] at hlen;cases hb:e.bare
      ·rw [hb] at hlen;simp at hlen
      ·rfl
    ·cases ht2
theorem ES {ND:List Nd}:∀ {ks:List Val} {l:List Int} {e:Nat} {x:Val} {i:Int},fitVs ND ks l=true->ks[e]? = some x->l[e]? = some i->fitV ND x i=true
 | [],_,e,x,i,_,h,_=>by simp at h
 | _ :: _,[],e,x,i,_,_,h=>by simp at h
 | v :: r,j :: l,0,x,i,h,h1,h2=>by
  simp only [List.getElem?_cons_zero,oI] at h1 h2;subst h1 h2;rw [fitVs,aP] at h;exact h.1
 | v :: r,j :: l,e + 1,x,i,h,h1,h2=>by
  simp only [List.getElem?_cons_succ] at h1 h2;rw [fitVs,aP] at h;exact ES h.2 h1 h2
structure dj where
 k:Int
 n:Int
 s:ByteArray
def jX (x:dj):List DV:=[.v (.int .i64 x.k),.v (.int .i64 x.n),.v (.string x.s)]
def aU (l:List dj):List (List DV):=l.map jX
theorem ef (l:List dj):(aU l).length=l.length:=by simp [aU]
theorem dR {l:List dj} {e:Nat} {x:dj} (h:l[e]? = some x):(aU l)[e]? = some (jX x):=by simp [aU,h]
def na (a b:dj):Bool:=decide (a.k=b.k) && (decide (a.n=b.n) && decide (a.s=b.s))
theorem ET {a b:dj}:na a b=true↔a=b:=by
 obtain ⟨k,n,s⟩:=a;obtain ⟨k',n',s'⟩:=b;simp only [na,aP,decide_eq_true_eq,dj.mk.injEq]
def HI (a:dj):Array Value:=#[.int .i64 a.k,.int .i64 a.n,.string a.s]
theorem KT (a b:dj) (w:World):(Op.equal 117 (.agg (HI a)) (.agg (HI b))).run prog w = .ok (na a b) w:=by
 have hf:prog.underlying 117=some (.struct (prog.fieldsOf 117)):=by simp [Program.fieldsOf,Tryz.underlying117]
 have vU:(prog.fieldsOf 117).toList=[⟨ "Kind",3,0,false, "", "",0⟩,⟨ "N",3,1,false, "", "",8⟩,⟨ "Name",9,2,false, "", "",16⟩]:=by simp [Program.fieldsOf,Tryz.underlying117]
 have hs:prog.stoodInHeld 117=false:=by kernel_rfl
 obtain ⟨d,hm⟩:∃ d,Op.maxDepth=d + 1 + 1:=⟨Op.maxDepth - 2,by decide⟩
 have q9:∀ cs:Array Value,∀ off v,cs[off]? = some v->(part 9 cs off).run prog w = .ok v w:=fun cs off v h=>by
  simp [part,Tryz.isAgg9,h]
 have q3:∀ cs:Array Value,∀ off v,cs[off]? = some v->(part 3 cs off).run prog w = .ok v w:=fun cs off v h=>by
  simp [part,Tryz.isAgg3,h]
 have g0:=fun x:dj=>q3 (HI x) 0 (.int .i64 x.k) rfl;have g1:=fun x:dj=>q3 (HI x) 1 (.int .i64 x.n) rfl;have g2:=fun x:dj=>q9 (HI x) 2 (.string x.s) rfl;have r9:=fun a b=>run_equalIn_string w d 9 a b Tryz.underlying9;have r3:=fun a b=>run_equalIn_int w d 3 .i64 .i64 a b Tryz.underlying3
 have e1:(a.s.toList == b.s.toList)=decide (a.s=b.s):=by
  rw [ByteArray.toList_eq,ByteArray.toList_eq];by_cases h:a.s=b.s
  ·rw [h];simp
  ·have:¬ a.s.data=b.s.data:=fun e=>h (ByteArray.ext e);simp [h,this]
 unfold Op.equal;rw [hm,run_equalIn_struct w (d + 1) 117 _ _ hf hs,vU];simp only [Op.eqFields,ne_eq,String.reduceEq,not_false_eq_true,if_true,Sem.run_bind,g0,g1,g2,r9,r3,Result.andThen_ok];by_cases h1:a.k=b.k
 ·by_cases h2:a.n=b.n
  ·by_cases h3:a.s=b.s
   ·simp [h1,h2,h3,na,Sem.run_pure,r3,r9,g1,g2]
   ·simp [h1,h2,h3,na,Sem.run_pure,r3,r9,g1,g2,e1]
  ·simp [h1,h2,na,Sem.run_pure,r3,g1]
 ·simp [h1,na,Sem.run_pure]
theorem KU (o:BinOp) (ho:o = .eql∨o = .neq) (w:World) (x y:Operand) (vs vs':Array Value):(eqGuard o 117 x y (.agg vs) (.agg vs')).run prog w = .ok () w:=by
 have h:prog.eqGuardType prog.depth 117=false:=by kernel_rfl
 rcases ho with rfl | rfl<;>simp [eqGuard,run_program,h]
theorem Ra (x y:Operand) (a b:dj):Bs prog .eql x y 117 (jX a) (jX b) (na a b):=
 ⟨[.int .i64 a.k,.int .i64 a.n,.string a.s],[.int .i64 b.k,.int .i64 b.n,.string b.s],rfl,rfl,fun w=>⟨KU _ (.inl rfl) w x y _ _,by
  show ((do let r <- Op.equal 117 (.agg (HI a)) (.agg (HI b));pure (Value.bool r)):Sem Value).run prog w=_
  simp only [Sem.run_bind,KT,Result.andThen_ok,Sem.run_pure]⟩⟩
def stpR (d:Nd) (v:Val) (j:Nat):dj:=
 if d.ag=5 then ⟨2,j,ay⟩
 else if d.ag=6 then ⟨4,0,ay⟩
 else if d.ag=7 then ⟨1,0,match d.ak[j]? with | some e=>e.name | none=>ay⟩
 else ⟨5,0,match d.ak[v.n.toNat]? with | some e=>e.name | none=>ay⟩
theorem HJ:prog.cellsOf 117=3:=by kernel_rfl
def HK (p:List dj):Prop:=∀ s∈p,(-9223372036854775808<=s.k/\s.k<=9223372036854775807)/\(-9223372036854775808<=s.n/\s.n<=9223372036854775807)
def wtStp:List dj->Nat
 | []=>0
 | s :: p=>64 + s.s.size + wtStp p
theorem AQ:∀ p:List dj,64 * p.length<=wtStp p
 | []=>aR _
 | s :: p=>by
  have:=AQ p;rw [wtStp,List.length_cons];omega
theorem AR:∀ {p:List dj} {s:dj},s∈p->s.s.size<=wtStp p
 | s :: p,x,h=>by
  rcases bI h with rfl | h
  ·rw [wtStp];omega
  ·have:=AR h;rw [wtStp];omega
theorem EU {m:Nat}:∀ {es:List (List DV)},(∀ cs∈es,Typ prog m 117 cs)->∃ p:List dj,es=aU p/\HK p/\wtStp p<=wgEs es
 | [],h=>⟨[],rfl,(fun _ h=>by cases h),by simp [wtStp]⟩
 | cs :: r,h=>by
  obtain ⟨p,rfl,hr,hl⟩:=EU (es:=r) (fun c hc=>h c (de _ hc));obtain ⟨m',rfl,hf⟩:=mN Tryz.underlying117 (h cs (by simp));obtain ⟨a1,b1,rfl,h1,a2,b2,rfl,h2,a3,b3,rfl,h3,rfl⟩:=hf;obtain ⟨k,rfl,hk⟩:=lV h1;obtain ⟨z,rfl,hz⟩:=lV h2;obtain ⟨s,rfl⟩:=BZ Tryz.underlying9 h3;refine ⟨⟨k,z,s⟩ :: p,rfl,fun x hx=>?_,?_⟩
  ·rcases bI hx with rfl | hx
   ·exact ⟨hk,hz⟩
   ·exact hr x hx
  ·simp only [wtStp,wgEs,fg,wgL,wgD] at *;omega
theorem typ_path {n:Nat} {ds:List DV} (h:Typ prog n 59 ds):∃ p:List dj,ds=[.sl 3 (aU p) none]/\HK p/\wtStp p<=wgL ds:=by
 obtain ⟨j,es,rfl,rfl,gD⟩:=sQ Tryz.underlying59 h;obtain ⟨p,rfl,hr,hl⟩:=EU gD;rw [HJ];exact ⟨p,rfl,hr,by simp only [wgL,wgD];omega⟩
def tyPS:List TypeId:=[59,117,9,3]
theorem tyPS_ok:∀ t∈tyPS,lE prog tyPS t=true:=by
 have h:(tyPS.all fun t=>lE prog tyPS t)=true:=by kernel_rfl
 exact fun t ht=>List.all_eq_true.1 h t ht
namespace Dv
open Go.ChangeShapes Go.WideShapes Go.ChangeAt
theorem arg_sl {H:Type} {enc:TypeId × Value->H} {P:Program} {W:World} {base:Nat} {S:List TypeId} {bk:DataW H->Nat} (Lz:Bk bk) (hS:∀ t∈S,lE P S t=true) {t e:TypeId} {v:Value} {d:DataW H} {ps:List MemPlace} (ht:t∈S) (hu:P.underlying t=some (.slice e))
  (hval:Value.okWide P W .any base t v) (h:DataW.Trod enc P W 0 (fun _=>true) true t v d ps):∃ n x,Rv (F2 W) x v/\Typ P n t [x]/\wgL [x]<=64 * bk d:=by
 obtain ⟨a,len,cap,rfl⟩:=okWide_slice hu hval;obtain ⟨n,hn⟩:=h;obtain ⟨ds,h1,h2,h3,h4,h5⟩:=vi Lz hS n t _ _ ht hn
 cases ds with
 | nil=>simp only [RvL,Value.cells] at h1;cases h1
 | cons x r=>
  simp only [RvL,Value.cells] at h1;obtain ⟨u,s,h6,h7,h8⟩:=h1;have h6:Value.slice a len cap=u/\s=[]:=by simpa [eq_comm] using h6
  obtain ⟨rfl,rfl⟩:=h6
  cases r with
  | nil=>exact ⟨n,x,h7,h3,h4⟩
  | cons y r=>
   simp only [RvL] at h8;obtain ⟨_,_,h9,_⟩:=h8;cases h9
end Dv
def cg (K:List Nat) (e:Ed):Nat:=K.getD e.to.toNat 0
def leastR (K:List Nat):List Ed->Nat->Nat
 | [],m=>m + 1
 | e :: r,m=>if cg K e=0 then 0 else leastR K r (max m (cg K e))
def cq (K:List Nat):List Ed->Nat->Nat
 | [],b=>if b=0 then 0 else b + 1
 | e :: r,b=>if e.bare=true then 1 else if 0 < cg K e/\(b=0∨cg K e < b) then cq K r (cg K e) else cq K r b
def bc (n:Nd) (K:List Nat):Nat:=if n.ag=7 then leastR K n.ak 0 else if n.ag=8 then cq K n.ak 0 else 1
def depN (ND:List Nd):Nat->List Nat
 | 0=>List.replicate ND.length 0
 | d + 1=>ND.map fun n=>bc n (depN ND d)
theorem bA (ND:List Nd):∀ d,(depN ND d).length=ND.length
 | 0=>by simp [depN]
 | d + 1=>by simp [depN]
theorem depN_get (ND:List Nd) (d j:Nat):(depN ND (d + 1)).getD j 0=match ND[j]? with | none=>0 | some n=>bc n (depN ND d):=by
 simp only [depN,aF,List.getElem?_map];cases ND[j]?<;>rfl
def KV (d:Nat) (A B:List Nat):Prop:=∀ j:Nat,(0 < A.getD j 0->B.getD j 0=A.getD j 0/\A.getD j 0<=d)/\(A.getD j 0=0->B.getD j 0=0∨B.getD j 0=d + 1)
theorem Cv {d:Nat} {A B:List Nat} (h:KV d A B) (j:Nat):B.getD j 0<=d + 1:=by
 obtain ⟨h1,h2⟩:=h j;rcases Nat.eq_zero_or_pos (A.getD j 0) with h3 | h3
 ·rcases h2 h3 with h4 | h4<;>omega
 ·have:=h1 h3;omega
theorem ir {K:List Nat}:∀ {es:List Ed} {m:Nat},leastR K es m=0↔∃ e∈es,cg K e=0
 | [],m=>by simp [leastR]
 | e :: r,m=>by
  rw [leastR];by_cases h:cg K e=0
  ·rw [ai h];exact ⟨fun _=>⟨e,by simp,h⟩,fun _=>rfl⟩
  ·rw [ah h,ir];constructor
   ·rintro ⟨x,hx,h2⟩;exact ⟨x,by simp [hx],h2⟩
   ·rintro ⟨x,hx,h2⟩;rcases bI hx with rfl | hx
    ·exact (h h2).elim
    ·exact ⟨x,hx,h2⟩
theorem uA {d:Nat} {A B:List Nat} (hR:KV d A B):∀ {es:List Ed} {m:Nat},0 < leastR A es m->leastR B es m=leastR A es m
 | [],m,_=>rfl
 | e :: r,m,h=>by
  rw [leastR] at h ⊢;rw [leastR];by_cases h0:cg A e=0
  ·rw [ai h0] at h;omega
  rw [ah h0] at h ⊢;have h1:cg B e=cg A e:=((hR e.to.toNat).1 (by unfold cg at h0;omega)).1;rw [h1,ah h0];exact uA hR h
theorem ye {d:Nat} {A B:List Nat} (hR:KV d A B):∀ {es:List Ed} {m:Nat},m<=d + 1->(m=d + 1∨∃ e∈es,cg A e=0)->leastR B es m=0∨leastR B es m=d + 2
 | [],m,_,h=>by
  rcases h with h | ⟨e,he,_⟩
  ·right;rw [leastR,h]
  ·cases he
 | e :: r,m,hm,h=>by
  rw [leastR];by_cases h0:cg B e=0
  ·rw [ai h0];exact .inl rfl
  rw [ah h0];have dG:cg B e<=d + 1:=Cv hR _;refine ye hR (by omega) ?_;rcases h with h | ⟨x,hx,h⟩
  ·left;omega
  ·rcases bI hx with rfl | hx
   ·left;have:=(hR x.to.toNat).2 h;unfold cg at h0 dG ⊢;omega
   ·exact .inr ⟨x,hx,h⟩
theorem kR {d:Nat} {A B:List Nat} (hR:KV d A B):∀ {es:List Ed} {a b:Nat},(0 < a->b=a/\a<=d)->(a=0->b=0∨b=d + 1) ->
  (0 < cq A es a->cq B es b=cq A es a)/\(cq A es a=0->cq B es b=0∨cq B es b=d + 2)
 | [],a,b,h1,h2=>by
  rw [cq,cq];rcases Nat.eq_zero_or_pos a with h | h
  ·rw [ai h];refine ⟨fun h=>by omega,fun _=>?_⟩;rcases h2 h with h3 | h3
   ·left;rw [ai h3]
   ·right;rw [ah (by omega)];omega
  ·obtain ⟨h3,h4⟩:=h1 h;rw [ah (by omega),ah (by omega),h3];exact ⟨fun _=>rfl,fun h=>by omega⟩
 | e :: r,a,b,h1,h2=>by
  rw [cq,cq];by_cases hb:e.bare=true
  ·rw [ai hb,ai hb];exact ⟨fun _=>rfl,fun h=>by omega⟩
  rw [ah hb,ah hb];obtain ⟨g1,g2⟩:=hR e.to.toNat;change (0 < cg A e->cg B e=cg A e/\cg A e<=d) at g1;change (cg A e=0->cg B e=0∨cg B e=d + 1) at g2;by_cases c1:0 < cg A e/\(a=0∨cg A e < a)<;>by_cases c2:0 < cg B e/\(b=0∨cg B e < b)
  ·rw [ai c1,ai c2];exact kR hR (by omega) (by omega)
  ·rw [ai c1,ah c2];exact kR hR (by omega) (by omega)
  ·rw [ah c1,ai c2];exact kR hR (by omega) (by omega)
  ·rw [ah c1,ah c2];exact kR hR (by omega) (by omega)
theorem HL {d:Nat} {A B:List Nat} (hR:KV d A B) (n:Nd):(0 < bc n A->bc n B=bc n A)/\(bc n A=0->bc n B=0∨bc n B=d + 2):=by
 unfold bc;by_cases h7:n.ag=7
 ·rw [ai h7,ai h7];exact ⟨uA hR,fun h=>ye hR (by omega) (.inr (ir.1 h))⟩
 rw [ah h7,ah h7];by_cases h8:n.ag=8
 ·rw [ai h8,ai h8];exact kR hR (by omega) (by omega)
 rw [ah h8,ah h8];exact ⟨fun _=>rfl,fun h=>by omega⟩
theorem EV (N:Nat) (e:Ed):cg (List.replicate N 0) e=0:=by
 unfold cg;rw [aF,List.getElem?_replicate];split<;>rfl
theorem uB (N:Nat):∀ es:List Ed,cq (List.replicate N 0) es 0=0∨cq (List.replicate N 0) es 0=1
 | []=>.inl rfl
 | e :: r=>by
  rw [cq,EV];by_cases hb:e.bare=true
  ·rw [ai hb];exact .inr rfl
  ·rw [ah hb,ah (by omega)];exact uB N r
theorem EW (N:Nat) (n:Nd):bc n (List.replicate N 0)=0∨bc n (List.replicate N 0)=1:=by
 unfold bc;by_cases h7:n.ag=7
 ·rw [ai h7]
  cases h:n.ak with
  | nil=>right;rfl
  | cons e r=>left;rw [leastR,EV,ai rfl]
 rw [ah h7];by_cases h8:n.ag=8
 ·rw [ai h8];exact uB N n.ak
 ·rw [ah h8];exact .inr rfl
theorem AS (ND:List Nd) (j:Nat):(depN ND 0).getD j 0=0:=by
 rw [depN,aF,List.getElem?_replicate];split<;>rfl
theorem oA (ND:List Nd):∀ d,KV d (depN ND d) (depN ND (d + 1))
 | 0=>fun j=>by
  refine ⟨fun h=>by rw [AS] at h;omega,fun _=>?_⟩;rw [depN_get]
  cases ND[j]? with
  | none=>exact .inl rfl
  | some n=>exact EW _ n
 | d + 1=>fun j=>by
  have ih:=oA ND d;rw [depN_get ND (d + 1),depN_get ND d]
  cases hn:ND[j]? with
  | none=>exact ⟨fun h=>by simp at h,fun _=>.inl rfl⟩
  | some n=>
   obtain ⟨h1,h2⟩:=HL ih n;refine ⟨fun h=>⟨h1 h,?_⟩,h2⟩;have:=Cv ih j;rw [depN_get ND d,hn] at this;exact this
theorem Jh (ND:List Nd):∀ d j,(depN ND d).getD j 0<=d
 | 0,j=>by rw [AS];omega
 | d + 1,j=>Cv (oA ND d) j
def eD (K:List Nat):List Bool:=K.map fun k=>decide (0 < k)
theorem gO (K:List Nat) (j:Nat):(eD K).getD j false=decide (0 < K.getD j 0):=by
 unfold eD;simp only [aF,List.getElem?_map];cases K[j]?<;>simp
theorem gP (K:List Nat):(eD K).length=K.length:=by simp [eD]
theorem kS {A B:List Nat} (hl:A.length=B.length) (h:∀ j,A.getD j 0=B.getD j 0):A=B:=by
 refine List.ext_getElem hl fun j h1 h2=>?_;have:=h j;simp only [aF,gE h1,gE h2,Option.getD_some] at this;exact this
theorem yf (ND:List Nd) (d:Nat):Ac (eD (depN ND d)) (eD (depN ND (d + 1))):=fun j h=>by
 rw [gO] at h ⊢;have h:=of_decide_eq_true h;have:=((oA ND d) j).1 h;exact decide_eq_true (by omega)
theorem AU {ND:List Nd} {d:Nat} (h:eD (depN ND d)=eD (depN ND (d + 1))):depN ND (d + 1)=depN ND d:=by
 refine kS (by rw [bA,bA]) fun j=>?_;obtain ⟨h1,h2⟩:=(oA ND d) j;rcases Nat.eq_zero_or_pos ((depN ND d).getD j 0) with h3 | h3
 ·have h4:=gO (depN ND d) j;rw [h,gO,h3] at h4;have:¬ 0 < (depN ND (d + 1)).getD j 0:=sU h4;omega
 ·exact (h1 h3).1
theorem AV (ND:List Nd):∀ d,depN ND (d + 1)=depN ND d∨d<=kL (eD (depN ND d))
 | 0=>.inr (Nat.zero_le _)
 | d + 1=>by
  rcases AV ND d with h | h
  ·left;show (ND.map fun n=>bc n (depN ND (d + 1)))=ND.map fun n=>bc n (depN ND d);rw [h]
  ·rcases (lG (by rw [gP,gP,bA,bA]) (yf ND d)).1 with h2 | h2
   ·left;have:=AU h2;show (ND.map fun n=>bc n (depN ND (d + 1)))=ND.map fun n=>bc n (depN ND d);rw [this]
   ·exact .inr (by omega)
theorem depN_fix {ND:List Nd} {d:Nat} (h:depN ND (d + 1)=depN ND d):∀ k,depN ND (d + k)=depN ND d
 | 0=>rfl
 | k + 1=>by
  show (ND.map fun n=>bc n (depN ND (d + k)))=_;rw [depN_fix h k];exact h
theorem depN_end (ND:List Nd):depN ND (ND.length + 1)=depN ND ND.length:=by
 rcases AV ND ND.length with h | h
 ·exact h
 ·rcases (lG (by rw [gP,gP,bA,bA]) (yf ND ND.length)).1 with h2 | h2
  ·exact AU h2
  ·have:=rq (eD (depN ND (ND.length + 1)));rw [gP,bA] at this;omega
theorem Rb {ND:List Nd} {d:Nat} (h:depN ND (d + 1)≠depN ND d):d < ND.length:=by
 rcases Nat.lt_or_ge d ND.length with h1 | h1
 ·exact h1
 ·obtain ⟨k,rfl⟩:∃ k,d=ND.length + k:=⟨d - ND.length,by omega⟩;exfalso;have h2:=depN_fix (depN_end ND) k;have h3:=depN_fix (depN_end ND) (k + 1);exact h (by rw [show ND.length + k + 1=ND.length + (k + 1) by omega,h3,h2])
theorem Og {ND:List Nd} {d:Nat} (h:depN ND (d + 1)=depN ND d):depN ND (d + 1)=depN ND ND.length:=by
 rcases Nat.lt_or_ge d ND.length with h1 | h1
 ·obtain ⟨k,hk⟩:∃ k,ND.length=d + k:=⟨ND.length - d,by omega⟩;rw [hk,depN_fix h k,h]
 ·obtain ⟨k,hk⟩:∃ k,d + 1=ND.length + k:=⟨d + 1 - ND.length,by omega⟩;rw [hk,depN_fix (depN_end ND) k]
def qE (K:List Bool) (e:Ed):Bool:=e.bare || K.getD e.to.toNat false
def HM (n:Nd) (K:List Bool):Bool:=if n.ag < 7 then true else if n.ag=7 then n.ak.all (qE K) else n.ak.any (qE K)
theorem jA {K:List Nat}:∀ {es:List Ed} {b:Nat},0 < cq K es b↔(0 < b∨es.any (qE (eD K))=true)
 | [],b=>by
  rw [cq];by_cases h:b=0
  ·rw [ai h];simp [h]
  ·rw [ah h];simp;omega
 | e :: r,b=>by
  have hg:(eD K).getD e.to.toNat false=decide (0 < cg K e):=gO K _;rw [cq,List.any_cons];by_cases hb:e.bare=true
  ·rw [ai hb];simp [qE,hb]
  ·rw [ah hb]
   have uT:qE (eD K) e=decide (0 < cg K e):=by
    unfold qE;rw [hg];simp [hb]
   rw [uT,Bool.or_eq_true,decide_eq_true_eq];split
   ·rename_i h1;rw [jA];constructor
    ·exact fun _=>.inr (.inl h1.1)
    ·exact fun _=>.inl h1.1
   ·rename_i h1;rw [jA];constructor
    ·rintro (h | h)
     ·exact .inl h
     ·exact .inr (.inr h)
    ·rintro (h | h | h)
     ·exact .inl h
     ·by_cases iB:b=0
      ·exact (h1 ⟨h,.inl iB⟩).elim
      ·left;omega
     ·exact .inr h
theorem HN {n:Nd} {K:List Nat} (h8:n.ag<=8) (hb:∀ e∈n.ak,e.bare=true->n.ag=8):(0 < bc n K)↔HM n (eD K)=true:=by
 unfold bc HM;by_cases h7:n.ag=7
 ·rw [ai h7,ah (by omega),ai h7,List.all_eq_true];have:0 < leastR K n.ak 0↔¬ leastR K n.ak 0=0:=by omega
  rw [this,ir];constructor
  ·intro h e he
   have h1:e.bare=false:=by
    cases qV:e.bare
    ·rfl
    ·have:=hb e he qV;omega
   have h2:¬ cg K e=0:=fun h3=>h ⟨e,he,h3⟩;have hg:(eD K).getD e.to.toNat false=decide (0 < cg K e):=gO K _;simp only [qE,h1,hg,Bool.false_or,decide_eq_true_eq];omega
  ·rintro h ⟨e,he,h3⟩
   have h1:e.bare=false:=by
    cases qV:e.bare
    ·rfl
    ·have:=hb e he qV;omega
   have hg:(eD K).getD e.to.toNat false=decide (0 < cg K e):=gO K _;have:=h e he;simp only [qE,h1,hg,Bool.false_or,decide_eq_true_eq] at this;omega
 rw [ah h7];by_cases h8':n.ag=8
 ·rw [ai h8',ah (by omega),ah h7,jA];simp
 ·rw [ah h8',ai (by omega)];simp
theorem Oh {ND:List Nd} (hN:∀ n∈ND,n.ag<=8/\∀ e∈n.ak,e.bare=true->n.ag=8) (d:Nat) {i:Nat} {n:Nd} (h:ND[i]? = some n) :
  (depN ND (d + 1)).getD i 0=(if HM n (eD (depN ND d))=true/\(depN ND d).getD i 0=0 then d + 1 else (depN ND d).getD i 0) /\
  (eD (depN ND (d + 1))).getD i false=HM n (eD (depN ND d)):=by
 obtain ⟨h8,hb⟩:=hN n (mG h);have hp:=HN (K:=depN ND d) h8 hb;have hg:(depN ND (d + 1)).getD i 0=bc n (depN ND d):=by rw [depN_get,h]
 obtain ⟨h1,h2⟩:=(oA ND d) i;refine ⟨?_,?_⟩
 ·rcases Nat.eq_zero_or_pos ((depN ND d).getD i 0) with h3 | h3
  ·by_cases h4:HM n (eD (depN ND d))=true
   ·rw [ai ⟨h4,h3⟩];have:=h2 h3;rw [<- hp,<- hg] at h4;omega
   ·rw [ah (fun h=>h4 h.1),h3];rw [<- hp,<- hg] at h4;omega
  ·rw [ah (by omega)];exact (h1 h3).1
 ·rw [gO,hg,Bool.eq_iff_iff,decide_eq_true_eq];exact hp
def ed (D:List Nat) (e:Ed):Bool:=e.bare || decide (0 < cg D e)
def manyN (D:List Nat) (es:List Ed):Nat:=es.countP (ed D)
def zl (D:List Nat) (K:List Bool) (e:Ed):Bool:=ed D e && (!e.bare && K.getD e.to.toNat false)
def eu (D:List Nat) (K:List Bool) (es:List Ed):Bool:=es.any (zl D K)
def eN (n:Nd) (D:List Nat) (K:List Bool):Bool:=
 if n.ag=1 then true
 else if n.ag=2 then decide (n.lo < n.hi)
 else if n.ag=3 then decide (0 < n.most)
 else if n.ag=4 then decide (1 < n.af.length)
 else if n.ag=5 then decide (0 < n.most) && decide (0 < manyN D n.ak)
 else if n.ag=6 then decide (0 < manyN D n.ak)
 else if n.ag=7 then eu D K n.ak && decide (manyN D n.ak=n.ak.length)
 else eu D K n.ak || decide (1 < manyN D n.ak)
def sevN (ND:List Nd) (D:List Nat):Nat->List Bool
 | 0=>List.replicate ND.length false
 | t + 1=>ND.map fun n=>eN n D (sevN ND D t)
theorem iL (ND:List Nd) (D:List Nat):∀ t,(sevN ND D t).length=ND.length
 | 0=>by simp [sevN]
 | t + 1=>by simp [sevN]
theorem sevN_get (ND:List Nd) (D:List Nat) (t j:Nat):(sevN ND D (t + 1)).getD j false=match ND[j]? with | none=>false | some n=>eN n D (sevN ND D t):=by
 simp only [sevN,aF,List.getElem?_map];cases ND[j]?<;>rfl
theorem EX {D:List Nat} {A B:List Bool} (h:Ac A B) {es:List Ed} (hm:eu D A es=true):eu D B es=true:=by
 unfold eu at hm ⊢;rw [List.any_eq_true] at hm ⊢;obtain ⟨e,he,h1⟩:=hm;refine ⟨e,he,?_⟩;unfold zl at h1 ⊢;simp only [aP] at h1 ⊢;exact ⟨h1.1,h1.2.1,h _ h1.2.2⟩
theorem Cw {D:List Nat} {A B:List Bool} (h:Ac A B) (n:Nd) (hm:eN n D A=true):eN n D B=true:=by
 unfold eN at hm ⊢;by_cases c1:n.ag=1
 ·rw [ai c1]
 rw [ah c1] at hm ⊢;by_cases c2:n.ag=2
 ·rw [ai c2] at hm ⊢;exact hm
 rw [ah c2] at hm ⊢;by_cases c3:n.ag=3
 ·rw [ai c3] at hm ⊢;exact hm
 rw [ah c3] at hm ⊢;by_cases c4:n.ag=4
 ·rw [ai c4] at hm ⊢;exact hm
 rw [ah c4] at hm ⊢;by_cases c5:n.ag=5
 ·rw [ai c5] at hm ⊢;exact hm
 rw [ah c5] at hm ⊢;by_cases c6:n.ag=6
 ·rw [ai c6] at hm ⊢;exact hm
 rw [ah c6] at hm ⊢;by_cases c7:n.ag=7
 ·rw [ai c7] at hm ⊢;rw [aP] at hm ⊢;exact ⟨EX h hm.1,hm.2⟩
 rw [ah c7] at hm ⊢;rw [Bool.or_eq_true] at hm ⊢;exact hm.imp (EX h) id
theorem Cx (ND:List Nd) (D:List Nat):∀ t,Ac (sevN ND D t) (sevN ND D (t + 1))
 | 0=>fun j h=>by
  rw [sevN,aF,List.getElem?_replicate] at h;split at h<;>cases h
 | t + 1=>fun j h=>by
  rw [sevN_get] at h ⊢
  cases hn:ND[j]? with
  | none=>rw [hn] at h;cases h
  | some n=>
   rw [hn] at h;exact Cw (Cx ND D t) n h
theorem AW (ND:List Nd) (D:List Nat):∀ t,sevN ND D (t + 1)=sevN ND D t∨t<=kL (sevN ND D t)
 | 0=>.inr (Nat.zero_le _)
 | t + 1=>by
  rcases AW ND D t with h | h
  ·left;show (ND.map fun n=>eN n D (sevN ND D (t + 1)))=ND.map fun n=>eN n D (sevN ND D t);rw [h]
  ·rcases (lG (by rw [iL,iL]) (Cx ND D t)).1 with h2 | h2
   ·left;show (ND.map fun n=>eN n D (sevN ND D (t + 1)))=ND.map fun n=>eN n D (sevN ND D t);rw [<- h2]
   ·exact .inr (by omega)
theorem Oi (ND:List Nd) (D:List Nat):sevN ND D (ND.length + 1)=sevN ND D ND.length:=by
 rcases AW ND D ND.length with h | h
 ·exact h
 ·rcases (lG (by rw [iL,iL]) (Cx ND D ND.length)).1 with h2 | h2
  ·exact h2.symm
  ·have:=rq (sevN ND D (ND.length + 1));rw [iL] at this;omega
def fo (ND:List Nd) (D:List Nat):List Bool:=sevN ND D ND.length
theorem oB (ND:List Nd) (D:List Nat):(ND.map fun n=>eN n D (fo ND D))=fo ND D:=Oi ND D
theorem yg (ND:List Nd) (D:List Nat):∀ k,sevN ND D (ND.length + k)=fo ND D
 | 0=>rfl
 | k + 1=>by
  show (ND.map fun n=>eN n D (sevN ND D (ND.length + k)))=_;rw [yg ND D k,oB]
theorem uC {ND:List Nd} {D:List Nat} {K:List Bool} (h:∀ j n,ND[j]? = some n->eN n D K=true->K.getD j false=true):∀ t,Ac (sevN ND D t) K
 | 0=>fun j hj=>by
  rw [sevN,aF,List.getElem?_replicate] at hj;split at hj<;>cases hj
 | t + 1=>fun j hj=>by
  rw [sevN_get] at hj
  cases hn:ND[j]? with
  | none=>rw [hn] at hj;cases hj
  | some n=>
   rw [hn] at hj;exact h j n hn (Cw (uC h t) n hj)
theorem Rc {ND:List Nd} {D:List Nat} {K:List Bool} (hl:K.length=ND.length) (h1:Ac K (fo ND D)) (h:∀ j n,ND[j]? = some n->eN n D K=true->K.getD j false=true):K=fo ND D:=
 xc (by rw [hl,fo,iL]) h1 (uC h _)
theorem Oj {ND:List Nd} {D:List Nat} {K:List Bool} (h1:Ac K (fo ND D)) {i:Nat} {n:Nd} (hn:ND[i]? = some n) (h2:eN n D K=true):Ac (K.set i true) (fo ND D):=fun j hj=>by
 by_cases jB:i=j
 ·subst jB;have:=Cw h1 n h2;have h3:=sevN_get ND D ND.length i;rw [hn] at h3;rw [<- oB];show (sevN ND D (ND.length + 1)).getD i false=true;rw [h3];exact this
 ·refine h1 j ?_;rw [aF,List.getElem?_set_ne jB] at hj;rw [aF];exact hj
theorem Ol {K:List Bool} {i:Nat} (hi:i < K.length) (h:K.getD i false=false):kL K < kL (K.set i true):=by
 have dG:Ac K (K.set i true):=fun j hj=>by
  by_cases jB:i=j
  ·subst jB;rw [aF,cQ hi];rfl
  ·rw [aF,List.getElem?_set_ne jB,<- aF];exact hj
 rcases (lG (by simp) dG).1 with h2 | h2
 ·rw [h2,aF,cQ hi] at h;cases h
 ·exact h2
def iS (n:Nat):Nat:=if 2 < n then 2 else n
theorem vB (n:Nat):iS n=min 2 n:=by unfold iS;split<;>omega
def tD (K:List Nat) (e:Ed):Nat:=if e.bare=true then 1 else cg K e
def sumC (K:List Nat):List Ed->Nat->Nat
 | [],a=>a
 | e :: r,a=>sumC K r (iS (a + tD K e))
def ql (K:List Nat):List Ed->Nat->Nat
 | [],a=>a
 | e :: r,a=>ql K r (iS (a * tD K e))
def hZ (n:Nd) (K:List Nat):Nat:=
 if n.ag=1 then 2
 else if n.ag=2 then (if n.lo < n.hi then 2 else 1)
 else if n.ag=3 then iS (1 + n.most.toNat)
 else if n.ag=4 then iS n.af.length
 else if n.ag=5 then (if n.most=0 then 1 else iS (1 + sumC K n.ak 0))
 else if n.ag=6 then iS (1 + sumC K n.ak 0)
 else if n.ag=7 then ql K n.ak 1
 else sumC K n.ak 0
def qF (d:Nat) (s:Bool):Nat:=if d=0 then 0 else if s=true then 2 else 1
def qL (D:List Nat) (S:List Bool):List Nat:=(List.range D.length).map fun i=>qF (D.getD i 0) (S.getD i false)
theorem Om (D:List Nat) (S:List Bool):(qL D S).length=D.length:=by simp [qL]
theorem Cy (D:List Nat) (S:List Bool) (j:Nat):(qL D S).getD j 0=qF (D.getD j 0) (S.getD j false):=by
 unfold qL;rw [aF,List.getElem?_map];by_cases h:j < D.length
 ·rw [List.getElem?_range h];all_goals rfl
 ·rw [cR (sU h),aF (l:=D),cR (by omega)];all_goals rfl
theorem On (D:List Nat) (S:List Bool) (e:Ed):tD (qL D S) e=if ed D e=true then (if zl D S e=true then 2 else 1) else 0:=by
 unfold tD zl ed;by_cases hb:e.bare=true
 ·rw [ai hb,hb];simp
 ·have hb:e.bare=false:=sU hb;rw [ah (by rw [hb];simp),hb];unfold cg;rw [Cy];unfold qF;by_cases h0:D.getD e.to.toNat 0=0
  ·rw [ai h0,h0];simp
  ·rw [ah h0];generalize D.getD e.to.toNat 0=d at h0 ⊢;generalize S.getD e.to.toNat false=s;have:0 < d:=by omega
   simp [this]
def tE (D:List Nat) (S:List Bool) (es:List Ed):Nat:=(es.map (tD (qL D S))).sum
theorem Oo {D:List Nat} {S:List Bool} {e:Ed} (h:zl D S e=true):ed D e=true:=by
 unfold zl at h;rw [aP] at h;exact h.1
theorem yh (D:List Nat) (S:List Bool):∀ es:List Ed,manyN D es<=tE D S es/\tE D S es<=2 * manyN D es/\(eu D S es=true->2<=tE D S es)/\(eu D S es=false->tE D S es=manyN D es)
 | []=>by simp [manyN,tE,eu]
 | e :: r=>by
  obtain ⟨h1,h2,h3,h4⟩:=yh D S r;have hv:=On D S e;have hs:tE D S (e :: r)=tD (qL D S) e + tE D S r:=by simp [tE]
  have hm:manyN D (e :: r)=(if ed D e=true then 1 else 0) + manyN D r:=by simp [manyN,List.countP_cons];omega
  have KW:eu D S (e :: r)=(zl D S e || eu D S r):=by simp [eu]
  rw [hs,hm,KW,hv];by_cases ht:ed D e=true
  ·rw [ai ht,ai ht];by_cases hx:zl D S e=true
   ·rw [ai hx,hx];exact ⟨by omega,by omega,fun _=>by omega,fun h=>by simp at h⟩
   ·have r6:zl D S e=false:=sU hx;rw [ah hx,r6,Bool.false_or];exact ⟨by omega,by omega,fun h=>by have:=h3 h;omega,fun h=>by have:=h4 h;omega⟩
  ·have r6:zl D S e=false:=by
    cases hx:zl D S e
    ·rfl
    ·exact absurd (Oo hx) ht
   rw [ah ht,ah ht,r6,Bool.false_or];exact ⟨by omega,by omega,fun h=>by have:=h3 h;omega,fun h=>by have:=h4 h;omega⟩
theorem Ji (D:List Nat) (S:List Bool):∀ (es:List Ed) (a:Nat),a<=2->sumC (qL D S) es a=min 2 (a + tE D S es)
 | [],a,h=>by simp [sumC,tE];omega
 | e :: r,a,h=>by
  have hs:tE D S (e :: r)=tD (qL D S) e + tE D S r:=by simp [tE]
  rw [sumC,Ji D S r _ (by unfold iS;split<;>omega),hs];unfold iS;split<;>omega
theorem Jj (D:List Nat) (S:List Bool):∀ (es:List Ed) (a:Nat),a<=2->ql (qL D S) es a=if a=0∨manyN D es < es.length then 0 else if a=2∨eu D S es=true then 2 else 1
 | [],a,h=>by
  rw [ql];have h1:manyN D []=0:=rfl;have h2:eu D S []=false:=rfl;rw [h1,h2];simp only [List.length_nil,Nat.lt_irrefl,or_false,Bool.false_eq_true];split
  ·omega
  ·split<;>omega
 | e :: r,a,h=>by
  have hv:=On D S e;have hm:manyN D (e :: r)=(if ed D e=true then 1 else 0) + manyN D r:=by simp [manyN,List.countP_cons];omega
  have KW:eu D S (e :: r)=(zl D S e || eu D S r):=by simp [eu]
  have dG:manyN D r<=r.length:=List.countP_le_length;have ap:(1 + manyN D r < r.length + 1)↔(manyN D r < r.length):=by omega
  rw [ql,Jj D S r _ (by unfold iS;split<;>omega),hm,KW,hv,List.length_cons];by_cases ht:ed D e=true
  ·rw [ai ht,ai ht];by_cases hx:zl D S e=true
   ·rw [ai hx,hx,Bool.true_or];simp only [ap];rcases (show a=0∨a=1∨a=2 by omega) with rfl | rfl | rfl
    ·simp [iS]
    ·simp [iS]
    ·simp [iS]
   ·have r6:zl D S e=false:=sU hx;rw [ah hx,r6,Bool.false_or,Nat.mul_one];have hc:iS a=a:=by unfold iS;split<;>omega
    rw [hc];simp only [ap]
  ·rw [ah ht,ah ht,Nat.mul_zero];have h0:iS 0=0:=rfl;rw [h0,ai (.inl rfl),ai (.inr (by omega))]
theorem KX {L N:Nat} {n:Nd} {D:List Nat} {S:List Bool} (hn:cK L N n) (hd:0 < bc n D):hZ n (qL D S)=if eN n D S=true then 2 else 1:=by
 obtain ⟨s1,s2,s3,s4⟩:=yh D S n.ak;have hs:=Ji D S n.ak 0 (by omega);have ha:=Jj D S n.ak 1 (by omega);have jU:=hn.k1;have HF:=hn.k8;unfold hZ eN;by_cases c1:n.ag=1
 ·rw [ai c1,ai c1];all_goals rfl
 rw [ah c1,ah c1];by_cases c2:n.ag=2
 ·rw [ai c2,ai c2];simp
 rw [ah c2,ah c2];by_cases c3:n.ag=3
 ·rw [ai c3,ai c3];have:=hn.Ja c3;rw [vB];by_cases hm:0 < n.most
  ·rw [ai (sU hm)];omega
  ·rw [ah (sU hm)];omega
 rw [ah c3,ah c3];by_cases c4:n.ag=4
 ·rw [ai c4,ai c4];have:=List.length_pos_iff.2 (hn.af c4).1;rw [vB];by_cases hm:1 < n.af.length
  ·rw [ai (sU hm)];omega
  ·rw [ah (sU hm)];omega
 rw [ah c4,ah c4];by_cases c5:n.ag=5
 ·rw [ai c5,ai c5];have:=hn.uw c5;by_cases hm:n.most=0
  ·rw [ai hm,hm];simp
  ·rw [ah hm,hs];have lQ:0 < n.most:=by omega
   rw [vB];by_cases hy:0 < manyN D n.ak
   ·rw [ai (by simp [lQ,hy])];omega
   ·rw [ah (by simp [hy])];omega
 rw [ah c5,ah c5];by_cases c6:n.ag=6
 ·rw [ai c6,ai c6,hs];rw [vB];by_cases hy:0 < manyN D n.ak
  ·rw [ai (by simp [hy])];omega
  ·rw [ah (by simp [hy])];omega
 rw [ah c6,ah c6];by_cases c7:n.ag=7
 ·rw [ai c7,ai c7,ha];unfold bc at hd;rw [ai c7] at hd
  have fG:manyN D n.ak=n.ak.length:=by
   unfold manyN;rw [List.countP_eq_length];intro e he
   have:¬ cg D e=0:=fun h=>by
    have:=ir (K:=D) (es:=n.ak) (m:=0) |>.2 ⟨e,he,h⟩
    omega
   unfold ed;simp;right;omega
  rw [ah (by omega),fG];simp
 rw [ah c7,ah c7,hs];unfold bc at hd;rw [ah c7,ai (by omega)] at hd
 have hex:0 < manyN D n.ak:=by
  have h1:=(jA.1 hd).resolve_left (by omega);unfold manyN;rw [List.countP_pos_iff];rw [List.any_eq_true] at h1;obtain ⟨e,he,h2⟩:=h1;refine ⟨e,he,?_⟩;unfold qE at h2;unfold ed;have:(eD D).getD e.to.toNat false=decide (0 < cg D e):=gO D _;rw [this] at h2;exact h2
 by_cases hm:eu D S n.ak=true
 ·have:=s3 hm;rw [ai (by simp [hm])];omega
 ·have lQ:eu D S n.ak=false:=sU hm;have:=s4 lQ;by_cases hy:1 < manyN D n.ak
  ·rw [ai (by simp [hy])];omega
  ·rw [ah (by simp [lQ,hy])];omega
theorem yi {L N:Nat} {n:Nd} {D:List Nat} {S:List Bool} (hn:cK L N n) (h:eN n D S=true):0 < bc n D:=by
 have jU:=hn.k1;have HF:=hn.k8;unfold eN at h;unfold bc;by_cases c7:n.ag=7
 ·rw [ai c7];simp only [c7] at h;simp only [Int.reduceEq,if_false,if_true,aP,decide_eq_true_eq] at h;have h2:=h.2;unfold manyN at h2;rw [List.countP_eq_length] at h2;refine Nat.pos_of_ne_zero fun h0=>?_;obtain ⟨e,he,hz⟩:=ir.1 h0;have:=h2 e he;unfold ed at this
  have hb:e.bare=false:=by
   cases hb:e.bare
   ·rfl
   ·have:=hn.bare e he hb;omega
  rw [hb,hz] at this;simp at this
 rw [ah c7];by_cases c8:n.ag=8
 ·rw [ai c8];simp only [c8] at h;simp only [Int.reduceEq,if_false,Bool.or_eq_true,decide_eq_true_eq] at h;refine jA.2 (.inr ?_)
  have key:∀ e∈n.ak,ed D e=true->n.ak.any (qE (eD D))=true:=fun e he ht=>by
   rw [List.any_eq_true];refine ⟨e,he,?_⟩;unfold qE;have:(eD D).getD e.to.toNat false=decide (0 < cg D e):=gO D _;rw [this];exact ht
  rcases h with h | h
  ·unfold eu at h;rw [List.any_eq_true] at h;obtain ⟨e,he,hm⟩:=h;exact key e he (Oo hm)
  ·have h:0 < manyN D n.ak:=by omega
   unfold manyN at h;rw [List.countP_pos_iff] at h;obtain ⟨e,he,ht⟩:=h;exact key e he ht
 ·rw [ah c8];omega
theorem Re {L:Nat} {ND:List Nd} {D:List Nat} (bw:∀ n∈ND,cK L ND.length n) (hl:D.length=ND.length) (eZ:∀ j,D.getD j 0=match ND[j]? with | none=>0 | some n=>bc n D) (t:Nat) {i:Nat} {n:Nd} (hn:ND[i]? = some n) :
  (qL D (sevN ND D (t + 1))).getD i 0=if D.getD i 0=0 then 0 else hZ n (qL D (sevN ND D t)):=by
 have h1:=eZ i;rw [hn] at h1;have h1:D.getD i 0=bc n D:=h1;rw [Cy,sevN_get,hn];unfold qF;by_cases h0:D.getD i 0=0
 ·rw [ai h0,ai h0]
 ·rw [ah h0,ah h0,KX (bw n (mG hn)) (by omega)]
def cN (l:List Nat):List DV:=l.map fun (z:Nat)=>DV.v (.int .i64 (z:Int))
theorem lM (l:List Nat):(cN l).length=l.length:=by simp [cN]
theorem Cz {l:List Nat} {i z:Nat} (h:l[i]? = some z):(cN l)[i]? = some (DV.v (.int .i64 (z:Int))):=by simp [cN,h]
theorem nc (l:List Nat) (i z:Nat):(cN l).set i (DV.v (.int .i64 (z:Int)))=cN (l.set i z):=by simp [cN,List.map_set]
theorem yj (l:List Nat):(dInts l).flatten=cN l:=by
 induction l with
 | nil=>rfl
 | cons b r ih=>simp only [dInts,cN,List.map_cons,List.flatten_cons] at ih ⊢;rw [ih];all_goals rfl
theorem uZ (n:Nat):(List.replicate n (vL [Value.int .i64 0])).flatten=cN (List.replicate n 0):=by
 induction n with
 | zero=>rfl
 | succ n ih=>simp only [List.replicate_succ,List.flatten_cons,ih];rfl
theorem bW {n m:Nat} {tk:List TkE} {l:List DV} {r:List Nat} (h:l=cN r):WeL n m tk l (cN r):=by
 subst h;refine wX _ fun x hx=>?_;obtain ⟨z,_,rfl⟩:=List.mem_map.1 hx;exact ⟨_,rfl⟩
theorem CA {bx:List (List DV)} {N n0 m0 n i:Nat} {r:List Nat} (hr:r.length=n) (hN:N<=i) (hb:bx[i]? = some (cN r)):Cc bx N n0 m0 (.sl 1 (dInts r) none) (.ms i 1 0 n n):=by
 simp only [Cc];refine Or.inr (Or.inr (Or.inl ⟨i,0,n,_,by rw [bg,hr],hN,hb,?_,?_,?_⟩))
 ·rw [yj,List.drop_zero,List.take_of_length_le (by rw [lM,bg];omega)]
 ·intro x hx;simp only [dInts,List.mem_map] at hx;obtain ⟨_,_,rfl⟩:=hx;rfl
 ·intro x hx;rw [yj] at hx;obtain ⟨_,_,rfl⟩:=List.mem_map.1 hx;exact ⟨_,rfl⟩
abbrev ZP (PC:List DV) (ND:List Nd) (q e:Nat):St:=
 ⟨[(0,⟨[],.pt PC 0⟩),(3,⟨[],.sl 7 (bq (ND.take e)) (some 0)⟩),(8,⟨[],.v (.int .i64 ND.length)⟩),(9,⟨[],.v (.int .i64 e)⟩)],[],[⟨q,105,7,none⟩]⟩
theorem tF {l:List Nd} {e:Nat} {n:Nd} (h:l[e]? = some n):bq (l.take e) ++ [gL n]=bq (l.take (e + 1)):=by
 rw [List.take_add_one,h];simp [bq]
theorem rL {S:Sch} {ND:List Nd} {PC:List DV} (hP:fm S ND PC) :
  aV prog 180 [.pt PC 0] (.sl 7 (bq ND) none):=by
 have h1:=hP.len;have h2:=hP.aq;have fv:=hP.nl;refine eG 24 [.tmp 2] func180 rfl ntmps180 rfl fun _ _ _ _=>?_;refine cP DG h1 ?_;refine lJ (fun e=>ZP PC ND e e) ND.length (fJ ⟨0,105,7,none⟩ rfl ⟨_,rfl⟩ rfl wA rfl rfl mi) ?_;intro e he;refine br ?_ ?_<;>intro hL
 ·have ap:e < ND.length:=by have:=hL;simp at this;exact this
  obtain ⟨n,hn⟩:=gX ap;have dm:(bq (ND.take e)).length=e:=by rw [cw,zLenT];omega
  refine cP Gv (h2 e n hn) ?_;refine ⟨dm,⟨by rw [dm];simp [maxLen];omega,by rw [dm];simp;omega⟩,?_⟩;exact rE ⟨_,by omega,e + 1,rfl,by omega,rfl⟩ (aj ⟨_,rfl⟩ wA rfl rfl rfl (wB2 (aJ ap (by omega)) (tF hn)))
 ·have aQ:e=ND.length:=by have:=hL;simp at this;omega
  subst aQ;rw [List.take_length];exact ⟨_,ax,rfl⟩
abbrev Tl (K:List Nat) (es:List Ed) (m e:Nat):St:=
 ⟨[(1,⟨[],.sl 1 (dInts K) none⟩),(5,⟨[],.v (.int .i64 m)⟩),(16,⟨[],.sl 10 (cG es) none⟩),(17,⟨[],.v (.int .i64 (cG es).length)⟩),(18,⟨[],.v (.int .i64 e)⟩)],[],[]⟩
abbrev EY (K:List Nat) (es:List Ed) (m e:Nat):St:=
 ⟨[(1,⟨[],.sl 1 (dInts K) none⟩),(8,⟨[],.v (.int .i64 m)⟩),(41,⟨[],.sl 10 (cG es) none⟩),(42,⟨[],.v (.int .i64 (cG es).length)⟩),(43,⟨[],.v (.int .i64 e)⟩)],[],[]⟩
theorem CB {L:Nat} {n:Nd} (K:List Nat) (hK:K.length<=1099511627776) (hn:cK L K.length n) (hz:∀ z∈K,z<=1099511627776) (ez:n.ak.length<=1099511627776) :
  aV prog 181 [.agg (gL n),.sl 1 (dInts K) none] (.v (.int .i64 (bc n K:Nat))):=by
 have aZ:=hn.fU;have dn:=hn.bare;obtain ⟨ag,aX,lo,hi,most,af,es⟩:=n;simp only at aZ dn ez;refine eG 80 [.tmp 4] func181 rfl ntmps181 rfl fun _ _ _ _=>?_;refine br ?_ ?_<;>intro h7
 ·have h7:ag=7:=sU h7;have hF:bc ⟨ag,aX,lo,hi,most,af,es⟩ K=leastR K es 0:=by simp [bc,h7]
  rw [hF];refine lI (fun j st=>∃ e m:Nat,st=Tl K es m e/\e<=es.length/\m<=1099511627776/\leastR K es 0=leastR K (es.drop e) m/\j=es.length - e) ⟨0,0,rfl,by omega,by omega,rfl,rfl⟩ (aj ⟨_,rfl⟩ wA rfl rfl rfl wB) ?_;rintro j st ⟨e,m,rfl,he,hm,aN,rfl⟩;refine br ?_ ?_<;>intro hL
  ·have ap:e < es.length:=by have:=hL;simp [aT] at this;exact this
   obtain ⟨x,hx⟩:=gX ap;rw [drop_cons hx,leastR] at aN;have L0:=aZ x (mG hx)
   have nM:x.bare=false:=by
    cases hb:x.bare
    ·rfl
    ·have:=dn x (mG hx) hb;omega
   obtain ⟨k,hk,eC⟩:=L0.to1 nM;obtain ⟨z,hz1⟩:∃ z,K[k]? = some z:=⟨_,gE eC⟩;have Ww:=hz z (mG hz1);have yP:cg K x=z:=by simp [cg,hk,aF,hz1]
   have hg:(dInts K)[x.to.toNat]? = some [DV.v (.int .i64 (z:Int))]:=by rw [hk];exact aG hz1
   rw [yP] at aN;refine iX (aE hx) ?_;refine ⟨_,⟨by omega,hg⟩,?_⟩;refine br ?_ ?_<;>intro g
   ·have g:z=0:=sU g;rw [aN,ai g];exact (rfl:_=_)
   ·have g:¬ z=0:=sU g;rw [ah g] at aN;refine ⟨_,⟨by omega,hg⟩,?_⟩;exact ⟨Tl K es (max m z) (e + 1),(aj ⟨_,rfl⟩ wA rfl rfl rfl (wB2 (show max (m:Int) z=((max m z:Nat):Int) by omega) (aJ ap (by omega)))),es.length - (e + 1),by omega,e + 1,_,rfl,by omega,by omega,aN,rfl⟩
  ·have aQ:e=es.length:=by have:=hL;simp [aT] at this;omega
   subst aQ;rw [List.drop_length,leastR] at aN;have hw:IntKind.i64.wrap ((m:Int) + 1)=((m + 1:Nat):Int):=by rw [wrap64 (by omega) (by omega)];omega
   rw [aN];refine (congrArg (fun z=>DV.v (.int .i64 z)) ?_:_=_);exact hw
 have h7:¬ ag=7:=sU h7;refine br ?_ ?_<;>intro h8
 ·have h8:ag=8:=sU h8;have hF:bc ⟨ag,aX,lo,hi,most,af,es⟩ K=cq K es 0:=by simp [bc,h8]
  rw [hF];refine lI (fun j st=>∃ e m:Nat,st=EY K es m e/\e<=es.length/\m<=1099511627776/\cq K es 0=cq K (es.drop e) m/\j=es.length - e) ⟨0,0,rfl,by omega,by omega,rfl,rfl⟩ (aj ⟨_,rfl⟩ wA rfl rfl rfl wB) ?_;rintro j st ⟨e,m,rfl,he,hm,aN,rfl⟩;refine br ?_ ?_<;>intro hL
  ·have ap:e < es.length:=by have:=hL;simp [aT] at this;exact this
   obtain ⟨x,hx⟩:=gX ap;rw [drop_cons hx,cq] at aN;have L0:=aZ x (mG hx);refine iX (aE hx) ?_;refine br ?_ ?_<;>intro hb
   ·have hb:x.bare=true:=hb;rw [aN,ai hb];exact (rfl:_=_)
   have hb:x.bare=false:=hb;rw [ah (by rw [hb];decide)] at aN;obtain ⟨k,hk,eC⟩:=L0.to1 hb;obtain ⟨z,hz1⟩:∃ z,K[k]? = some z:=⟨_,gE eC⟩;have Ww:=hz z (mG hz1);have yP:cg K x=z:=by simp [cg,hk,aF,hz1]
   have hg:(dInts K)[x.to.toNat]? = some [DV.v (.int .i64 (z:Int))]:=by rw [hk];exact aG hz1
   rw [yP] at aN;refine ⟨_,⟨by omega,hg⟩,?_⟩;have j8:¬ (0 < z/\(m=0∨z < m))->cq K es 0=cq K (es.drop (e + 1)) m:=fun h=>by rw [aN,ah h]
   have take:(0 < z/\(m=0∨z < m))->cq K es 0=cq K (es.drop (e + 1)) z:=fun h=>by rw [aN,ai h]
   refine br ?_ ?_<;>intro g1
   ·have g1:0 < z:=by simpa [lastG] using g1
    refine br ?_ ?_<;>intro g2
    ·have g2:¬ m=0:=sU g2;refine ⟨_,⟨by omega,hg⟩,?_⟩;refine br ?_ ?_<;>intro g3
     ·have g3:z < m:=by simpa [pickB,pickD,lastG] using g3
      refine ⟨_,⟨by omega,hg⟩,?_⟩;exact ⟨EY K es z (e + 1),(aj ⟨_,rfl⟩ wA rfl rfl rfl (dt (aJ ap (by omega)))),es.length - (e + 1),by omega,e + 1,_,rfl,by omega,by omega,take ⟨g1,.inr g3⟩,rfl⟩
     ·have g3:¬ z < m:=by simpa [pickB,pickD,lastG] using g3
      exact ⟨EY K es m (e + 1),(aj ⟨_,rfl⟩ wA rfl rfl rfl (dt (aJ ap (by omega)))),es.length - (e + 1),by omega,e + 1,_,rfl,by omega,by omega,j8 (by omega),rfl⟩
    ·have g2:m=0:=sU g2;refine ⟨_,⟨by omega,hg⟩,?_⟩;exact ⟨EY K es z (e + 1),(aj ⟨_,rfl⟩ wA rfl rfl rfl (dt (aJ ap (by omega)))),es.length - (e + 1),by omega,e + 1,_,rfl,by omega,by omega,take ⟨g1,.inl g2⟩,rfl⟩
   ·have g1:¬ 0 < z:=by simpa [lastG] using g1
    exact ⟨EY K es m (e + 1),(aj ⟨_,rfl⟩ wA rfl rfl rfl (dt (aJ ap (by omega)))),es.length - (e + 1),by omega,e + 1,_,rfl,by omega,by omega,j8 (by omega),rfl⟩
  ·have aQ:e=es.length:=by have:=hL;simp [aT] at this;omega
   subst aQ;rw [List.drop_length,cq] at aN;refine br ?_ ?_<;>intro g
   ·have g:m=0:=sU g;rw [aN,ai g];exact (rfl:_=_)
   ·have g:¬ m=0:=sU g;rw [ah g] at aN;have hw:IntKind.i64.wrap ((m:Int) + 1)=((m + 1:Nat):Int):=by rw [wrap64 (by omega) (by omega)];omega
    rw [aN];refine (congrArg (fun z=>DV.v (.int .i64 z)) ?_:_=_);exact hw
 ·have h8:¬ ag=8:=sU h8;have hF:bc ⟨ag,aX,lo,hi,most,af,es⟩ K=1:=by simp [bc,h7,h8]
  rw [hF];exact (rfl:_=_)
abbrev Tm (n:Nd) (K:List Bool) (s v:Bool) (e:Nat):St:=
 ⟨[(1,⟨[],.sl 1 (qD K) none⟩),(2,⟨[],.loc 0 0⟩),(5,⟨[],.v (.bool s)⟩),(6,⟨[],.v (.bool v)⟩),(7,⟨[],.v (.int .i64 e)⟩)],[gL n],[]⟩
theorem HO {L:Nat} {n:Nd} (K:List Bool) (hK:K.length<=1099511627776) (hn:cK L K.length n) (ez:n.ak.length<=1099511627776) :
  aV prog 129 [.agg (gL n),.sl 1 (qD K) none] (.v (.bool (HM n K))):=by
 have aZ:=hn.fU;have dn:=hn.bare;have HF:=hn.k8;obtain ⟨ag,aX,lo,hi,most,af,es⟩:=n;simp only at aZ dn ez HF;refine eG 50 [.tmp 4] func129 rfl ntmps129 rfl fun _ _ _ _=>?_;refine br ?_ ?_<;>intro h7
 ·have h7:ag < 7:=sU h7;refine (congrArg (fun b=>DV.v (.bool b)) ?_:_=_);simp [HM,h7]
 have h7:¬ ag < 7:=sU h7;refine bz (fun j st=>∃ e:Nat,st=Tm ⟨ag,aX,lo,hi,most,af,es⟩ K ((es.take e).any (qE K)) ((es.take e).all (qE K)) e/\e<=es.length/\j=es.length - e) es.length (Tm ⟨ag,aX,lo,hi,most,af,es⟩ K false true 0) (aj ⟨_,rfl⟩ wA rfl rfl rfl wB) ⟨0,by simp,by omega,by omega⟩ ?_;rintro j st ⟨e,rfl,he,rfl⟩;refine br ?_ ?_<;>intro hL
 ·have ap:e < es.length:=by have:=hL;simp [aT] at this;exact this
  obtain ⟨x,hx⟩:=gX ap;refine iX (aE hx) ?_;have hs:(es.take (e + 1)).any (qE K)=((es.take e).any (qE K) || qE K x):=by rw [List.take_add_one,hx];simp
  have hv:(es.take (e + 1)).all (qE K)=((es.take e).all (qE K) && qE K x):=by rw [List.take_add_one,hx];simp
  generalize (es.take e).any (qE K)=s at hs ⊢;generalize (es.take e).all (qE K)=v at hv ⊢;refine br ?_ ?_<;>intro hb
  ·have hb:x.bare=false:=sU hb;obtain ⟨k,hk,eC⟩:=(aZ x (mG hx)).to1 hb;obtain ⟨b,py⟩:∃ b,K[k]? = some b:=⟨_,gE eC⟩;have hg:(qD K)[(max x.to 0).toNat]? = some [DV.v (.bool b)]:=by rw [show (max x.to 0).toNat=k by omega];exact rG py
   have Wx:qE K x=b:=by unfold qE;rw [hb,hk];simp [aF,py]
   rw [Wx] at hs hv;refine iX (aE hx) ?_;refine ⟨_,⟨by omega,hg⟩,?_⟩;have e5:pickB s true b=(es.take (e + 1)).any (qE K):=by rw [hs,aw]
   have e6:pickB v b false=(es.take (e + 1)).all (qE K):=by rw [hv,av]
   exact rE ⟨_,by omega,e + 1,rfl,by omega,rfl⟩ (aj ⟨_,rfl⟩ wA rfl rfl rfl (zI e5 e6 (aJ ap (by omega))))
  ·have hb:x.bare=true:=sU hb;have Wx:qE K x=true:=by unfold qE;rw [hb];all_goals rfl
   rw [Wx] at hs hv;have e5:pickB s true true=(es.take (e + 1)).any (qE K):=by rw [hs,aw]
   have e6:pickB v true false=(es.take (e + 1)).all (qE K):=by rw [hv,av]
   exact rE ⟨_,by omega,e + 1,rfl,by omega,rfl⟩ (aj ⟨_,rfl⟩ wA rfl rfl rfl (zI e5 e6 (aJ ap (by omega))))
 ·have aQ:e=es.length:=by have:=hL;simp [aT] at this;omega
  subst aQ;rw [List.take_length];refine br ?_ ?_<;>intro g
  ·have g:ag=7:=sU g;refine (congrArg (fun b=>DV.v (.bool b)) ?_:_=_);simp [HM,g]
  ·have g:¬ ag=7:=sU g;refine (congrArg (fun b=>DV.v (.bool b)) ?_:_=_);simp [HM,g,h7]
theorem Rf {bx:List (List DV)} {N n0 m0 n i:Nat} {r:List Bool} (hr:r.length=n) (hN:N<=i) (hb:bx[i]? = some (cB r)):Cc bx N n0 m0 (.sl 1 (qD r) none) (.ms i 1 0 n n):=by
 simp only [Cc];refine Or.inr (Or.inr (Or.inl ⟨i,0,n,_,by rw [vw,hr],hN,hb,?_,?_,?_⟩))
 ·rw [rH,List.drop_zero,List.take_of_length_le (by rw [qc,vw];omega)]
 ·intro x hx;simp only [qD,List.mem_map] at hx;obtain ⟨_,_,rfl⟩:=hx;rfl
 ·intro x hx;rw [rH] at hx;obtain ⟨_,_,rfl⟩:=List.mem_map.1 hx;exact ⟨_,rfl⟩
theorem Oq (l:List Nat) (bx:List (List DV)) (N n m:Nat):CcL bx N n m (cN l) (cN l):=by
 induction l with
 | nil=>rfl
 | cons a r ih=>exact ⟨_,_,rfl,rfl,ih⟩
abbrev wG (a b:Nat) (A B:List (List DV)) (ND:List Nd) (z:Int):List DV:=[.sl a A none,.sl b B none,.sl 7 (bq ND) none,.v (.int .i64 z)]
abbrev Ot (W:List DV) (O:List Nat) (K:List Bool) (n d:Nat):St:=
 ⟨[(1,⟨[],.loc 0 0⟩),(3,⟨[],.ms 1 1 0 n n⟩),(4,⟨[],.sl 1 (qD K) none⟩),(5,⟨[],.v (.int .i64 d)⟩)],[W,cN O],[]⟩
abbrev Jk (W:List DV) (O:List Nat) (K:List Bool) (M:List Bool) (n d e:Nat):St:=
 ⟨[(1,⟨[],.loc 0 0⟩),(3,⟨[],.ms 1 1 0 n n⟩),(4,⟨[],.sl 1 (qD K) none⟩),(5,⟨[],.v (.int .i64 d)⟩),(6,⟨[],.ms 2 1 0 n n⟩),(7,⟨[],.v (.int .i64 e)⟩)],[W,cN O,cB M],[]⟩
theorem pH (a b:Nat) (A B:List (List DV)) {ND:List Nd} {L:Nat} (z:Int) (bw:∀ n∈ND,cK L ND.length n) (fv:ND.length<=1099511627776) (bQ:∀ n∈ND,n.ak.length<=1099511627776) :
  aV prog 63 [.agg (wG a b A B ND z)] (.sl 1 (dInts (depN ND ND.length)) none):=by
 have bH:=cw ND;refine eG 61 [.tmp 2] func63 rfl ntmps63 rfl fun _ _ _ _=>?_;refine ⟨⟨rfl,by omega,by rw [bH];omega,by rw [bH];omega⟩,?_⟩;refine ⟨⟨rfl,by omega,by rw [bH];omega,by rw [bH];omega⟩,?_⟩;refine B7 (fun j st=>∃ d:Nat,st=Ot (wG a b A B ND z) (depN ND d) (eD (depN ND d)) (bq ND).length (d + 1)/\d<=ND.length/\j=ND.length - d) ND.length (Ot (wG a b A B ND z) (depN ND 0) (eD (depN ND 0)) (bq ND).length 1) (.C6 2 rfl rfl ?_ rfl ?_) ⟨0,rfl,by omega,by omega⟩ ?_
 ·refine ⟨_,_,rfl,ax,_,_,rfl,?_,rfl⟩;rw [uZ,bH];exact Oq _ _ _ _ _
 ·refine ⟨⟨_,rfl,mj⟩,⟨_,rfl,mj⟩,⟨_,rfl,Rf (by rw [gP,bA,bH];omega) (aR _) ?_⟩,⟨_,rfl,ax⟩,trivial⟩;refine congrArg some ?_;rw [Eu,bH];simp [eD,depN]
 rintro j st ⟨d,rfl,hd,rfl⟩;have nv:(eD (depN ND d)).length=ND.length:=by rw [gP,bA]
 refine br ?_ ?_<;>intro hc
 ·have ap:d < ND.length:=sW bH hc;refine ⟨⟨rfl,by omega,by rw [bH];omega,by rw [bH];omega⟩,?_⟩;refine bz (fun j st=>∃ (e:Nat) (O:List Nat) (M:List Bool),st=Jk (wG a b A B ND z) O (eD (depN ND d)) M (bq ND).length (d + 1) e/\e<=ND.length/\O.length=ND.length/\M.length=ND.length/\(∀ i:Nat,i < e->O.getD i 0=(depN ND (d + 1)).getD i 0/\M.getD i false=(eD (depN ND (d + 1))).getD i false)/\(∀ i:Nat,e<=i->O.getD i 0=(depN ND d).getD i 0)/\j=ND.length - e) ND.length (Jk (wG a b A B ND z) (depN ND d) (eD (depN ND d)) (List.replicate ((bq ND).length:Int).toNat false) (bq ND).length (d + 1) 0) (au 3 rfl (by repeat' (first | exact rfl | exact az rfl | exact bW rfl | exact cA (Eu _) | refine ⟨_,_,rfl,?_,?_⟩)) rfl rfl rfl (by repeat' (first | exact trivial | exact az rfl | exact bW rfl | exact cA (Eu _) | refine ⟨⟨_,rfl,?_⟩,?_⟩))) ⟨0,_,_,rfl,by omega,by rw [bA],by rw [List.length_replicate,bH];omega,fun i hi=>by omega,fun i _=>rfl,by omega⟩ ?_;rintro j st ⟨e,O,M,rfl,he,hO,hM,nI,vR,rfl⟩;refine br ?_ ?_<;>intro hL
  ·have dG:e < ND.length:=by have:=hL;simp [bH] at this;exact this
   obtain ⟨n,hn⟩:∃ n,ND[e]? = some n:=⟨_,gE dG⟩;have iM:=mG hn;have h1:=HO (eD (depN ND d)) (by rw [nv];exact fv) (n:=n) (by rw [nv];exact bw n iM) (bQ n iM);obtain ⟨r1,r2⟩:=Oh (fun m hm=>⟨(bw m hm).k8,(bw m hm).bare⟩) d hn;refine iX (bZ hn) ?_;refine cP XQ h1 ?_
   have aW:(cB M).set (0 + (e:Int).toNat * 1) (DV.v (.bool (HM n (eD (depN ND d)))))=cB (M.set e (HM n (eD (depN ND d)))):=by
    rw [show 0 + (e:Int).toNat * 1=e by omega,xI]
   have QI:(cB (M.set e (HM n (eD (depN ND d)))))[0 + (e:Int).toNat * 1]? = some (DV.v (.bool (HM n (eD (depN ND d))))):=by
    rw [show 0 + (e:Int).toNat * 1=e by omega];exact Hn (cQ (by omega))
   obtain ⟨q,hq⟩:∃ q,O[e]? = some q:=⟨_,gE (by omega)⟩;have hqd:(depN ND d).getD e 0=q:=by rw [<- vR e (aR _),aF,hq];all_goals rfl
   rw [hqd] at r1
   have hMs:∀ i:Nat,i < e + 1->(M.set e (HM n (eD (depN ND d)))).getD i false=(eD (depN ND (d + 1))).getD i false:=fun i hi=>by
    by_cases yN:i=e
    ·subst yN;rw [r2,aF,cQ (by omega)];all_goals rfl
    ·rw [aF,List.getElem?_set_ne (Ne.symm yN),<- aF];exact (nI i (by omega)).2
   generalize HM n (eD (depN ND d))=h at aW QI r1 hMs ⊢;refine ⟨⟨by omega,by rw [bH];omega⟩,?_⟩;refine ⟨by rw [qc];omega,?_⟩;refine ⟨⟨by omega,by rw [bH];omega⟩,?_⟩;refine ⟨DV.v (.bool h),(by rw [aW];exact QI),?_⟩
   have hOs:∀ v,v=(depN ND (d + 1)).getD e 0->∀ i:Nat,i < e + 1->(O.set e v).getD i 0=(depN ND (d + 1)).getD i 0:=fun v hv i hi=>by
    by_cases yN:i=e
    ·subst yN;rw [<- hv,aF,cQ (by omega)];all_goals rfl
    ·rw [aF,List.getElem?_set_ne (Ne.symm yN),<- aF];exact (nI i (by omega)).1
   have hOr:∀ v:Nat,∀ i:Nat,e + 1<=i->(O.set e v).getD i 0=(depN ND d).getD i 0:=fun v i hi=>by
    rw [aF,List.getElem?_set_ne (by omega),<- aF];exact vR i (by omega)
   have hOq:O.set e q=O:=List.ext_getElem? fun i=>by
    by_cases yN:e=i
    ·subst yN;rw [cQ (by omega),hq]
    ·rw [List.getElem?_set_ne yN]
   refine br ?_ ?_<;>intro g
   ·have g:h=true:=sU g;refine ⟨⟨by omega,by rw [bH];omega⟩,?_⟩;refine ⟨DV.v (.int .i64 (q:Int)),(by rw [show 0 + (e:Int).toNat * 1=e by omega];exact Cz hq),?_⟩;refine br ?_ ?_<;>intro g2
    ·have g2:q=0:=by simpa [pickB,pickD] using g2
     rw [ai ⟨g,g2⟩] at r1;refine ⟨⟨by omega,by rw [bH];omega⟩,?_⟩;refine ⟨by rw [lM];omega,?_⟩
     have zK:(cN O).set (0 + (e:Int).toNat * 1) (DV.v (.int .i64 ((d + 1:Nat):Int)))=cN (O.set e (d + 1)):=by
      rw [show 0 + (e:Int).toNat * 1=e by omega,nc]
     exact ⟨Jk (wG a b A B ND z) (O.set e (d + 1)) (eD (depN ND d)) (M.set e h) (bq ND).length (d + 1) (e + 1),(au 3 rfl (T9 zK aW (aJ dG (by omega))) rfl rfl rfl (zI zK aW (aJ dG (by omega)))),ND.length - (e + 1),by omega,e + 1,_,_,rfl,by omega,by simp [hO],by rw [List.length_set];exact hM,fun i hi=>⟨hOs _ r1.symm i hi,hMs i hi⟩,hOr (d + 1),rfl⟩
    ·have g2:¬ q=0:=by simpa [pickB,pickD] using g2
     rw [ah (fun h=>g2 h.2)] at r1;exact ⟨Jk (wG a b A B ND z) (O.set e q) (eD (depN ND d)) (M.set e h) (bq ND).length (d + 1) (e + 1),(au 3 rfl (by repeat' (first | exact rfl | exact az rfl | exact bW (by rw [hOq]) | exact cA aW | exact aD (aJ dG (by omega)) | refine ⟨_,_,rfl,?_,?_⟩)) rfl rfl rfl (by repeat' (first | exact trivial | exact az rfl | exact bW (by rw [hOq]) | exact cA aW | exact aD (aJ dG (by omega)) | refine ⟨⟨_,rfl,?_⟩,?_⟩))),ND.length - (e + 1),by omega,e + 1,_,_,rfl,by omega,by simp [hO],by rw [List.length_set];exact hM,fun i hi=>⟨hOs _ r1.symm i hi,hMs i hi⟩,hOr q,rfl⟩
   ·have g:h=false:=sU g;rw [ah (by rw [g];simp)] at r1;exact ⟨Jk (wG a b A B ND z) (O.set e q) (eD (depN ND d)) (M.set e h) (bq ND).length (d + 1) (e + 1),(au 3 rfl (by repeat' (first | exact rfl | exact az rfl | exact bW (by rw [hOq]) | exact cA aW | exact aD (aJ dG (by omega)) | refine ⟨_,_,rfl,?_,?_⟩)) rfl rfl rfl (by repeat' (first | exact trivial | exact az rfl | exact bW (by rw [hOq]) | exact cA aW | exact aD (aJ dG (by omega)) | refine ⟨⟨_,rfl,?_⟩,?_⟩))),ND.length - (e + 1),by omega,e + 1,_,_,rfl,by omega,by simp [hO],by rw [List.length_set];exact hM,fun i hi=>⟨hOs _ r1.symm i hi,hMs i hi⟩,hOr q,rfl⟩
  ·have aQ:e=ND.length:=sW bH hL;subst aQ
   have hO2:O=depN ND (d + 1):=kS (by rw [hO,bA]) fun j=>by
    rcases Nat.lt_or_ge j ND.length with hj | hj
    ·exact (nI j hj).1
    ·simp only [aF];rw [cR (by omega),cR (by rw [bA];omega)]
   have hM2:M=eD (depN ND (d + 1)):=xc (by rw [hM,gP,bA]) (fun j hj=>by
     rcases Nat.lt_or_ge j ND.length with h | h
     ·rw [<- (nI j h).2];exact hj
     ·rw [aF,cR (by omega)] at hj;cases hj) (fun j hj=>by
     rcases Nat.lt_or_ge j ND.length with h | h
     ·rw [(nI j h).2];exact hj
     ·rw [aF,cR (by rw [gP,bA];omega)] at hj;cases hj)
   subst hO2 hM2;refine ⟨Ot (wG a b A B ND z) (depN ND (d + 1)) (eD (depN ND (d + 1))) (bq ND).length (d + 1 + 1),.C6 2 rfl rfl ⟨_,_,rfl,ax,_,_,rfl,Oq _ _ _ _ _,rfl⟩ rfl ⟨⟨_,rfl,mj⟩,⟨_,rfl,mj⟩,⟨_,rfl,Rf (by rw [gP,bA,bH]) (aR _) rfl⟩,⟨_,rfl,?_⟩,trivial⟩,ND.length - (d + 1),by omega,d + 1,rfl,by omega,rfl⟩;exact congrArg (fun z=>DV.v (Value.int .i64 z)) (aJ (n:=1099511627777) (by omega) (by omega))
 ·have aQ:d=ND.length:=sW bH hc;subst aQ;exact ⟨_,CA (by rw [bA,bH]) (Nat.zero_le _) rfl,rfl⟩
def tG (ND:List Nd) (d e:Nat):Bool:=(List.range e).any fun i=>decide (¬ (depN ND (d + 1)).getD i 0=(depN ND d).getD i 0)
theorem KY (ND:List Nd) (d e:Nat):tG ND d (e + 1)=(tG ND d e || decide (¬ (depN ND (d + 1)).getD e 0=(depN ND d).getD e 0)):=by
 simp [tG,List.range_succ]
theorem EZ {ND:List Nd} {d:Nat}:tG ND d ND.length=false↔depN ND (d + 1)=depN ND d:=by
 constructor
 ·intro h;refine kS (by rw [bA,bA]) fun j=>?_;unfold tG at h;rw [List.any_eq_false] at h;rcases Nat.lt_or_ge j ND.length with hj | hj
  ·have:=h j (sU hj);simpa using this
  ·simp only [aF];rw [cR (by rw [bA];exact hj),cR (by rw [bA];exact hj)]
 ·intro h;unfold tG;rw [h,List.any_eq_false];simp
theorem HP {ND:List Nd} {d:Nat} (hd:d<=1099511627776):∀ z∈depN ND d,z<=1099511627776:=fun z hz=>by
 obtain ⟨i,hi⟩:=List.mem_iff_getElem?.1 hz;have:=Jh ND d i;rw [aF,hi] at this;simp only [Option.getD_some] at this;omega
abbrev Ou (ND:List Nd) (d:Nat) (c:Bool):St:=
 ⟨[(3,⟨[],.sl 7 (bq ND) none⟩),(4,⟨[],.sl 1 (dInts (depN ND d)) none⟩),(5,⟨[],.v (.bool c)⟩)],[],[]⟩
abbrev Ov (ND:List Nd) (d:Nat) (c:Bool) (L:List Nat) (e:Nat):St:=
 ⟨[(3,⟨[],.sl 7 (bq ND) none⟩),(4,⟨[],.sl 1 (dInts (depN ND d)) none⟩),(5,⟨[],.v (.bool c)⟩),(6,⟨[],.ms 0 1 0 (bq ND).length (bq ND).length⟩),(18,⟨[],.sl 7 (bq ND) none⟩),(19,⟨[],.v (.int .i64 (bq ND).length)⟩),(20,⟨[],.v (.int .i64 e)⟩)],[cN L],[]⟩
theorem HQ {L:Nat} {ND:List Nd} {p:DV} (h0:aV prog 180 [p] (.sl 7 (bq ND) none)) (bw:∀ n∈ND,cK L ND.length n) (fv:ND.length<=1099511627776) (bQ:∀ n∈ND,n.ak.length<=1099511627776) (tX:∀ bx N n m,Cc bx N n m p p) :
  aV prog 120 [p] (.sl 1 (dInts (depN ND ND.length)) none):=by
 have bH:=cw ND;refine eG 46 [.tmp 2] func120 rfl ntmps120 rfl fun _ _ _ _=>?_;refine cP Su h0 ?_ (gU tX);refine ⟨⟨rfl,by omega,by rw [bH];omega,by rw [bH];omega⟩,?_⟩;refine B7 (fun j st=>∃ (d:Nat) (c:Bool),st=Ou ND d c/\(c=true->d<=ND.length)/\(c=false->depN ND d=depN ND ND.length)/\j=ND.length + 2 - d) (ND.length + 2) (Ou ND 0 true) (.C6 0 rfl rfl rfl rfl ?_) ⟨0,true,rfl,by omega,by simp,by omega⟩ ?_
 ·refine ⟨⟨_,rfl,ax⟩,⟨_,rfl,CA (by rw [bA,bH];omega) (by omega) ?_⟩,⟨_,rfl,ax⟩,trivial⟩;refine congrArg some ?_;rw [uZ,bH];rfl
 rintro j st ⟨d,c,rfl,Ir,lA,rfl⟩;refine br ?_ ?_<;>intro hc
 ·have hc:c=true:=hc;have hd:=Ir hc;refine ⟨⟨rfl,by omega,by rw [bH];omega,by rw [bH];omega⟩,?_⟩;refine bz (fun j st=>∃ (e:Nat) (L:List Nat),st=Ov ND d (tG ND d e) L e/\e<=ND.length/\L.length=ND.length/\(∀ i:Nat,i < e->L.getD i 0=(depN ND (d + 1)).getD i 0)/\j=ND.length - e) ND.length (Ov ND d false (List.replicate ((bq ND).length:Int).toNat 0) 0) (au 1 rfl (by repeat' (first | exact rfl | exact az rfl | exact bW (uZ _) | refine ⟨_,_,rfl,?_,?_⟩)) rfl rfl rfl (by repeat' (first | exact trivial | exact az rfl | exact bW (uZ _) | refine ⟨⟨_,rfl,?_⟩,?_⟩))) ⟨0,_,rfl,by omega,by rw [List.length_replicate,bH];omega,fun i hi=>by omega,by omega⟩ ?_;rintro j st ⟨e,L,rfl,he,hL,hLv,rfl⟩;refine br ?_ ?_<;>intro ap
  ·have ap:e < ND.length:=by have:=ap;simp [bH] at this;exact this
   obtain ⟨n,hn⟩:=gX ap;have iM:=mG hn;have dG:=CB (depN ND d) (by rw [bA];exact fv) (n:=n) (by rw [bA];exact bw n iM) (HP (by omega)) (bQ n iM);refine iX (bZ hn) ?_;refine cP X5 dG ?_;refine ⟨⟨by omega,by rw [bH];omega⟩,?_⟩;refine ⟨by rw [lM];omega,?_⟩;refine dI ?_;have hv:=depN_get ND d e;rw [hn] at hv;have hv:(depN ND (d + 1)).getD e 0=bc n (depN ND d):=hv;obtain ⟨z,hz⟩:∃ z,(depN ND d)[e]? = some z:=⟨_,gE (by rw [bA];exact ap)⟩;have Tn:(depN ND d).getD e 0=z:=by rw [aF,hz];all_goals rfl
   have dr:=KY ND d e;rw [hv,Tn] at dr
   have aW:(cN L).set (0 + (e:Int).toNat * 1) (DV.v (.int .i64 ((bc n (depN ND d):Nat):Int)))=cN (L.set e (bc n (depN ND d))):=by
    rw [show 0 + (e:Int).toNat * 1=e by omega,nc]
   have Wu:∀ i:Nat,i < e + 1->(L.set e (bc n (depN ND d))).getD i 0=(depN ND (d + 1)).getD i 0:=fun i hi=>by
    by_cases yN:i=e
    ·subst yN;rw [hv,aF,cQ (by omega)];all_goals rfl
    ·rw [aF,List.getElem?_set_ne (Ne.symm yN),<- aF];exact hLv i (by omega)
   refine br ?_ ?_<;>intro g
   ·have g:tG ND d e=false:=sU g;rw [g,Bool.false_or] at dr
    have QI:(cN (L.set e (bc n (depN ND d))))[0 + (e:Int).toNat * 1]? = some (DV.v (.int .i64 ((bc n (depN ND d):Nat):Int))):=by
     rw [show 0 + (e:Int).toNat * 1=e by omega];exact Cz (cQ (by omega))
    refine ⟨⟨by omega,by rw [bH];omega⟩,?_⟩;rw [aW];refine ⟨_,QI,?_⟩;refine iX (aG hz) ?_
    have hbo:(!decide (((bc n (depN ND d):Nat):Int)=(z:Int)))=tG ND d (e + 1):=by
     rw [dr,Bool.eq_iff_iff];simp;omega
    exact ⟨Ov ND d (tG ND d (e + 1)) (L.set e (bc n (depN ND d))) (e + 1),(au 1 rfl (gF hbo (aJ ap (by omega))) rfl rfl rfl (wB2 hbo (aJ ap (by omega)))),ND.length - (e + 1),by omega,e + 1,_,rfl,by omega,by rw [List.length_set];exact hL,Wu,rfl⟩
   ·have g:tG ND d e=true:=sU g;rw [g,Bool.true_or] at dr;exact ⟨Ov ND d (tG ND d (e + 1)) (L.set e (bc n (depN ND d))) (e + 1),(au 1 rfl (T9 aW dr.symm (aJ ap (by omega))) rfl rfl rfl (zI aW dr.symm (aJ ap (by omega)))),ND.length - (e + 1),by omega,e + 1,_,rfl,by omega,by rw [List.length_set];exact hL,Wu,rfl⟩
  ·have aQ:e=ND.length:=sW bH ap;subst aQ
   have hLL:L=depN ND (d + 1):=kS (by rw [hL,bA]) fun j=>by
    rcases Nat.lt_or_ge j ND.length with hj | hj
    ·exact hLv j hj
    ·simp only [aF];rw [cR (by omega),cR (by rw [bA];omega)]
   subst hLL;refine ⟨Ou ND (d + 1) (tG ND d ND.length),.C6 0 rfl rfl rfl rfl ⟨⟨_,rfl,ax⟩,⟨_,rfl,CA (by rw [bA,bH]) (by omega) rfl⟩,⟨_,rfl,ax⟩,trivial⟩,ND.length + 2 - (d + 1),by omega,d + 1,_,rfl,fun tX=>?_,fun tX=>Og (EZ.1 tX),rfl⟩;have:depN ND (d + 1)≠depN ND d:=fun h=>by rw [EZ.2 h] at tX;cases tX
   have:=Rb this;omega
 ·have hc:c=false:=hc;rw [lA hc];exact ⟨_,ax,rfl⟩
theorem fm.KZ {S:Sch} {ND:List Nd} {PC:List DV} (hP:fm S ND PC):∀ n∈ND,n.ak.length<=1099511627776:=fun n hn=>by
 have h1:=hP.wt;rw [hP.Ao] at hn;exact (o6 hn h1).2
theorem uD {S:Sch} {ND:List Nd} {PC:List DV} (hP:fm S ND PC):aV prog 120 [.pt PC 0] (.sl 1 (dInts (depN ND ND.length)) none):=
 HQ (rL hP) hP.ok hP.nl hP.KZ fun _ _ _ _=>ax
def Tp (S:Sch) (r:DV):Prop:=∃ b:Bool,r = .v (.bool b)/\(b=true->(l6 S).1=0)
theorem HR {L:Nat} (D:List Nat) {x:Ed} (hx:N7 L D.length x) :
  aV prog 210 [.agg (Ce x),.pt [.sl 1 (dInts D) none] 0] (.v (.bool (ed D x))):=by
 refine eG 14 [.tmp 3] func210 rfl ntmps210 rfl fun _ _ _ _=>?_;refine br ?_ ?_<;>intro hb
 ·have hb:x.bare=false:=sU hb;obtain ⟨k,hk,eC⟩:=hx.to1 hb;obtain ⟨z,hz⟩:∃ z,D[k]? = some z:=⟨_,gE eC⟩;refine ⟨_,⟨by omega,by rw [hk];exact aG hz⟩,?_⟩;refine (congrArg (fun b=>DV.v (.bool b)) ?_:_=_);simp [ed,hb,cg,hk,aF,hz,pickB]
 ·have hb:x.bare=true:=sU hb;refine (congrArg (fun b=>DV.v (.bool b)) ?_:_=_);simp [ed,hb,pickB]
abbrev ZQ (D:List Nat) (K:List Bool) (n:Nd) (m:Nat) (b:Bool) (e:Nat):St:=
 ⟨[(2,⟨[],.sl 1 (qD K) none⟩),(3,⟨[],.loc 0 0⟩),(7,⟨[],.fn 210 [] [.loc 1 0]⟩),(8,⟨[],.v (.int .i64 m)⟩),(9,⟨[],.v (.bool b)⟩),(14,⟨[],.sl 10 (cG n.ak) none⟩),(15,⟨[],.v (.int .i64 (cG n.ak).length)⟩),(16,⟨[],.v (.int .i64 e)⟩)],[gL n,[.sl 1 (dInts D) none]],[]⟩
theorem CD {L:Nat} {n:Nd} (D:List Nat) (K:List Bool) (hl:K.length=D.length) (hD:D.length<=1099511627776) (hn:cK L D.length n) (ez:n.ak.length<=1099511627776) :
  aV prog 182 [.agg (gL n),.sl 1 (dInts D) none,.sl 1 (qD K) none] (.v (.bool (eN n D K))):=by
 have aZ:=hn.fU;have jU:=hn.k1;have HF:=hn.k8;obtain ⟨ag,aX,lo,hi,most,af,es⟩:=n;simp only at aZ ez jU HF;refine eG 89 [.tmp 6] func182 rfl ntmps182 rfl fun _ _ _ _=>?_;refine bz (fun j st=>∃ e:Nat,st=ZQ D K ⟨ag,aX,lo,hi,most,af,es⟩ (manyN D (es.take e)) (eu D K (es.take e)) e/\e<=es.length/\j=es.length - e) es.length (ZQ D K ⟨ag,aX,lo,hi,most,af,es⟩ 0 false 0) (aj ⟨_,rfl⟩ wA rfl rfl rfl wB) ⟨0,by simp [manyN,eu],by omega,by omega⟩ ?_;rintro j st ⟨e,rfl,he,rfl⟩;refine br ?_ ?_<;>intro hL
 ·have ap:e < es.length:=by have:=hL;simp [aT] at this;exact this
  obtain ⟨x,hx⟩:=gX ap;have tU:=aZ x (mG hx);have CE:=HR D tU
  have hm:manyN D (es.take (e + 1))=manyN D (es.take e) + if ed D x=true then 1 else 0:=by
   rw [List.take_add_one,hx];simp [manyN,List.countP_cons]
  have KW:eu D K (es.take (e + 1))=(eu D K (es.take e) || zl D K x):=by
   rw [List.take_add_one,hx];simp [eu]
  have dm:manyN D (es.take e)<=e:=by
   have:manyN D (es.take e)<=(es.take e).length:=List.countP_le_length;rw [zLenT] at this;omega
  refine iX (aE hx) ?_;refine vo Yi CE ax rfl rfl ?_;refine br ?_ ?_<;>intro ht
  ·have ht:ed D x=true:=ht;rw [ai ht] at hm;have hw:IntKind.i64.wrap (((manyN D (es.take e):Nat):Int) + 1)=((manyN D (es.take (e + 1)):Nat):Int):=by rw [hm,wrap64 (by omega) (by omega)];omega
   have lh:zl D K x=(!x.bare && K.getD x.to.toNat false):=by unfold zl;rw [ht,Bool.true_and]
   rw [lh] at KW;refine br ?_ ?_<;>intro g1
   ·have g1:eu D K (es.take e)=false:=by simpa [lastG] using g1
    refine br ?_ ?_<;>intro g2
    ·have g2:x.bare=false:=sU g2;obtain ⟨k,hk,eC⟩:=tU.to1 g2;obtain ⟨z,hz⟩:∃ z,K[k]? = some z:=⟨_,gE (by omega)⟩;refine ⟨_,⟨by omega,by rw [hk];exact rG hz⟩,?_⟩;have e9:z=eu D K (es.take (e + 1)):=by rw [KW,g1,g2,hk];simp [aF,hz]
     exact rE ⟨_,by omega,e + 1,rfl,by omega,rfl⟩ (aj ⟨_,rfl⟩ wA rfl rfl rfl (zI hw e9 (aJ ap (by omega))))
    ·have g2:x.bare=true:=sU g2;have e9:false=eu D K (es.take (e + 1)):=by rw [KW,g1,g2];all_goals rfl
     exact rE ⟨_,by omega,e + 1,rfl,by omega,rfl⟩ (aj ⟨_,rfl⟩ wA rfl rfl rfl (zI hw e9 (aJ ap (by omega))))
   ·have g1:eu D K (es.take e)=true:=by simpa [lastG] using g1
    have e9:true=eu D K (es.take (e + 1)):=by rw [KW,g1];all_goals rfl
    exact rE ⟨_,by omega,e + 1,rfl,by omega,rfl⟩ (aj ⟨_,rfl⟩ wA rfl rfl rfl (zI hw e9 (aJ ap (by omega))))
  ·have ht:ed D x=false:=ht;rw [ah (by rw [ht];simp),Nat.add_zero] at hm;have lh:zl D K x=false:=by unfold zl;rw [ht];all_goals rfl
   rw [lh,Bool.or_false] at KW;exact rE ⟨_,by omega,e + 1,rfl,by omega,rfl⟩ (aj ⟨_,rfl⟩ wA rfl rfl rfl (zI hm.symm KW.symm (aJ ap (by omega))))
 ·have aQ:e=es.length:=by have:=hL;simp [aT] at this;omega
  subst aQ;rw [List.take_length];refine br ?_ ?_<;>intro c1
  ·have c1:ag=1:=sU c1;refine (congrArg (fun b=>DV.v (.bool b)) ?_:_=_);simp [eN,c1]
  have c1:¬ ag=1:=sU c1;refine br ?_ ?_<;>intro c2
  ·have c2:ag=2:=sU c2;refine (congrArg (fun b=>DV.v (.bool b)) ?_:_=_);simp [eN,c2]
  have c2:¬ ag=2:=sU c2;refine br ?_ ?_<;>intro c3
  ·have c3:ag=3:=sU c3;refine (congrArg (fun b=>DV.v (.bool b)) ?_:_=_);simp [eN,c3]
  have c3:¬ ag=3:=sU c3;refine br ?_ ?_<;>intro c4
  ·have c4:ag=4:=sU c4;refine (congrArg (fun b=>DV.v (.bool b)) ?_:_=_);simp [eN,c4,ct];omega
  have c4:¬ ag=4:=sU c4;refine br ?_ ?_<;>intro c5
  ·have c5:ag=5:=sU c5;refine (congrArg (fun b=>DV.v (.bool b)) ?_:_=_);simp [eN,c5,av]
  have c5:¬ ag=5:=sU c5;refine br ?_ ?_<;>intro c6
  ·have c6:ag=6:=sU c6;refine (congrArg (fun b=>DV.v (.bool b)) ?_:_=_);simp [eN,c6]
  have c6:¬ ag=6:=sU c6;refine br ?_ ?_<;>intro c7
  ·have c7:ag=7:=sU c7;refine (congrArg (fun b=>DV.v (.bool b)) ?_:_=_);rw [Bool.eq_iff_iff];simp [eN,c7,av,aT];omega
  have c7:¬ ag=7:=sU c7;refine (congrArg (fun b=>DV.v (.bool b)) ?_:_=_);rw [Bool.eq_iff_iff];have Ir:(1 < ((manyN D es:Nat):Int))↔1 < manyN D es:=by omega
  simp [eN,c1,c2,c3,c4,c5,c6,c7,aw,Ir]
abbrev Ow (ND:List Nd) (D:List Nat) (K:List Bool) (c:Bool):St:=
 ⟨[(3,⟨[],.sl 7 (bq ND) none⟩),(4,⟨[],.sl 1 (dInts D) none⟩),(5,⟨[],.ms 0 1 0 (bq ND).length (bq ND).length⟩),(6,⟨[],.v (.bool c)⟩)],[cB K],[]⟩
abbrev Jl (ND:List Nd) (D:List Nat) (K:List Bool) (c:Bool) (e:Nat):St:=
 ⟨[(3,⟨[],.sl 7 (bq ND) none⟩),(4,⟨[],.sl 1 (dInts D) none⟩),(5,⟨[],.ms 0 1 0 (bq ND).length (bq ND).length⟩),(6,⟨[],.v (.bool c)⟩),(17,⟨[],.sl 7 (bq ND) none⟩),(18,⟨[],.v (.int .i64 (bq ND).length)⟩),(19,⟨[],.v (.int .i64 e)⟩)],[cB K],[]⟩
theorem CF {L:Nat} {ND:List Nd} {p:DV} (h0:aV prog 180 [p] (.sl 7 (bq ND) none)) (h1:aV prog 120 [p] (.sl 1 (dInts (depN ND ND.length)) none)) (bw:∀ n∈ND,cK L ND.length n) (fv:ND.length<=1099511627776) (bQ:∀ n∈ND,n.ak.length<=1099511627776) (tX:∀ bx N n m,Cc bx N n m p p) :
  aV prog 121 [p] (.sl 1 (qD (fo ND (depN ND ND.length))) none):=by
 have bH:=cw ND;have hl:=bA ND ND.length;generalize depN ND ND.length=D at h1 hl ⊢;refine eG 40 [.tmp 2] func121 rfl ntmps121 rfl fun _ _ _ _=>?_;refine cP Su h0 ?_ (gU tX);refine cP Sb h1 ?_ (gU tX);refine ⟨⟨rfl,by omega,by rw [bH];omega,by rw [bH];omega⟩,?_⟩;refine bz (fun j st=>∃ (K:List Bool) (c:Bool),st=Ow ND D K c/\K.length=ND.length/\Ac K (fo ND D)/\(c=false->∀ j n,ND[j]? = some n->eN n D K=true->K.getD j false=true)/\j=ND.length - kL K + if c=true then 1 else 0) (ND.length + 1) (Ow ND D (List.replicate ((bq ND).length:Int).toNat false) true) (au 1 rfl (by repeat' (first | exact rfl | exact az rfl | exact cA (Eu _) | refine ⟨_,_,rfl,?_,?_⟩)) rfl rfl rfl (by repeat' (first | exact trivial | exact az rfl | exact cA (Eu _) | refine ⟨⟨_,rfl,?_⟩,?_⟩))) ⟨_,_,rfl,?_,?_,by simp,?_⟩ ?_
 ·rw [List.length_replicate,bH];omega
 ·intro j hj;rw [aF,List.getElem?_replicate] at hj;split at hj<;>cases hj
 ·have:kL (List.replicate ((bq ND).length:Int).toNat false)=0:=by unfold kL;rw [List.countP_replicate];simp
  rw [this];simp
 rintro j st ⟨K,c,rfl,hK,dG,eS,rfl⟩;refine br ?_ ?_<;>intro hc
 ·have hc:c=true:=hc;subst hc;refine lI (fun j st=>∃ (e:Nat) (K':List Bool) (c':Bool),st=Jl ND D K' c' e/\e<=ND.length/\K'.length=ND.length/\Ac K' (fo ND D)/\(c'=true->kL K < kL K')/\(c'=false->K'=K/\∀ i n,i < e->ND[i]? = some n->eN n D K=true->K.getD i false=true)/\j=ND.length - e) ⟨0,K,false,rfl,by omega,hK,dG,by simp,fun _=>⟨rfl,fun i _ hi=>by omega⟩,rfl⟩ (au 1 rfl pS rfl rfl rfl mi) ?_;rintro j st ⟨e,K',c',rfl,he,ZR,Rg,ht,hf,rfl⟩;refine br ?_ ?_<;>intro hL
  ·have ap:e < ND.length:=by have:=hL;simp [bH] at this;exact this
   obtain ⟨n,hn⟩:=gX ap;have iM:=mG hn;obtain ⟨b,hb⟩:∃ b,K'[e]? = some b:=⟨_,gE (by omega)⟩;have vX:=CD D K' (by omega) (by omega) (n:=n) (by rw [hl];exact bw n iM) (bQ n iM);refine iX (bZ hn) ?_;refine ⟨⟨by omega,by rw [bH];omega⟩,?_⟩;refine ⟨DV.v (.bool b),(by rw [show 0 + (e:Int).toNat * 1=e by omega];exact Hn hb),?_⟩;have Lt:K'.getD e false=b:=by rw [aF,hb];all_goals rfl
   have hcd:kL K<=kL K':=by
    cases c' with
    | true=>have:=ht rfl;omega
    | false=>rw [(hf rfl).1];omega
   refine br ?_ ?_<;>intro g
   ·have g:b=false:=sU g;refine vo X6 vX ⟨_,_,rfl,ax,_,_,rfl,ax,_,_,rfl,Rf (by rw [ZR,bH]) (aR _) rfl,rfl⟩ rfl rfl ?_;refine br ?_ ?_<;>intro g2
    ·have g2:eN n D K'=true:=by simpa [pickB,pickD] using g2
     refine ⟨⟨by omega,by rw [bH];omega⟩,?_⟩;refine ⟨by rw [qc];omega,?_⟩
     have aW:(cB K').set (0 + (e:Int).toNat * 1) (DV.v (.bool true))=cB (K'.set e true):=by
      rw [show 0 + (e:Int).toNat * 1=e by omega,xI]
     have dr:=Ol (K:=K') (i:=e) (by omega) (by rw [Lt];exact g);exact ⟨Jl ND D (K'.set e true) true (e + 1),(au 1 rfl (gF aW (aJ ap (by omega))) rfl rfl rfl (wB2 aW (aJ ap (by omega)))),ND.length - (e + 1),by omega,e + 1,_,true,rfl,by omega,by rw [List.length_set];exact ZR,Oj Rg hn g2,fun _=>by omega,fun h=>(by cases h),rfl⟩
    ·have g2:eN n D K'=false:=by simpa [pickB,pickD] using g2
     refine ⟨Jl ND D K' c' (e + 1),(au 1 rfl (ny (aJ ap (by omega))) rfl rfl rfl (dt (aJ ap (by omega)))),ND.length - (e + 1),by omega,e + 1,K',c',rfl,by omega,ZR,Rg,ht,fun hc=>⟨(hf hc).1,fun i m hi hm hs=>?_⟩,rfl⟩;rcases eP hi with hi | rfl
     ·exact (hf hc).2 i m hi hm hs
     ·rw [hn] at hm;cases hm;rw [(hf hc).1] at g2;rw [g2] at hs;cases hs
   ·have g:b=true:=sU g;refine ⟨Jl ND D K' c' (e + 1),(au 1 rfl (ny (aJ ap (by omega))) rfl rfl rfl (dt (aJ ap (by omega)))),ND.length - (e + 1),by omega,e + 1,K',c',rfl,by omega,ZR,Rg,ht,fun hc=>⟨(hf hc).1,fun i m hi hm hs=>?_⟩,rfl⟩;rcases eP hi with hi | rfl
    ·exact (hf hc).2 i m hi hm hs
    ·rw [<- (hf hc).1,Lt];exact g
  ·have aQ:e=ND.length:=sW bH hL;subst aQ;have hcn:=rq K';refine ⟨Ow ND D K' c',(aj ⟨_,rfl⟩ pS rfl rfl rfl mi),ND.length - kL K' + (if c'=true then 1 else 0),?_,K',c',rfl,ZR,Rg,?_,rfl⟩
   ·cases c' with
    | true=>have:=ht rfl;simp;omega
    | false=>rw [(hf rfl).1];simp
   ·intro hcf j n hn hs;obtain ⟨h2,h3⟩:=hf hcf;subst h2;exact h3 j n (gS hn).1 hn hs
 ·have hc:c=false:=hc;rw [<- Rc hK dG (eS hc)];exact ⟨_,Rf (by rw [hK,bH]) (Nat.zero_le _) rfl,rfl⟩
theorem zm {S:Sch} {ND:List Nd} {PC:List DV} (hP:fm S ND PC):aV prog 121 [.pt PC 0] (.sl 1 (qD (fo ND (depN ND ND.length))) none):=
 CF (rL hP) (uD hP) hP.ok hP.nl hP.KZ fun _ _ _ _=>ax
theorem jO (z:Nat):aV prog 184 [.v (.int .i64 z)] (.v (.int .i64 (iS z:Nat))):=by
 refine eG 6 [.tmp 2] func184 rfl ntmps184 rfl fun _ _ _ _=>?_;refine br ?_ ?_<;>intro h
 ·have h:2 < z:=by have:=h;simp at this;omega
  refine (congrArg (fun z=>DV.v (.int .i64 z)) ?_:_=_);unfold iS;rw [ai h];all_goals rfl
 ·have h:¬ 2 < z:=by have:=h;simp at this;omega
  refine (congrArg (fun z=>DV.v (.int .i64 z)) ?_:_=_);unfold iS;rw [ah h]
theorem AX (K:List Nat):∀ (es:List Ed) (a:Nat) (e:Ed),sumC K (es ++ [e]) a=iS (sumC K es a + tD K e)
 | [],a,e=>rfl
 | x :: r,a,e=>by rw [List.cons_append,sumC,sumC,AX K r]
theorem AY (K:List Nat):∀ (es:List Ed) (a:Nat) (e:Ed),ql K (es ++ [e]) a=iS (ql K es a * tD K e)
 | [],a,e=>rfl
 | x :: r,a,e=>by rw [List.cons_append,ql,ql,AY K r]
theorem Jm (n:Nat):iS n<=2:=by unfold iS;split<;>omega
theorem Jn (K:List Nat):∀ (es:List Ed) (a:Nat),a<=2->sumC K es a<=2
 | [],a,h=>h
 | e :: r,a,_=>by rw [sumC];exact Jn K r _ (Jm _)
theorem Jo (K:List Nat):∀ (es:List Ed) (a:Nat),a<=2->ql K es a<=2
 | [],a,h=>h
 | e :: r,a,_=>by rw [ql];exact Jo K r _ (Jm _)
abbrev VG (K:List Nat) (n:Nd) (s a e:Nat):St:=
 ⟨[(1,⟨[],.sl 1 (dInts K) none⟩),(2,⟨[],.loc 0 0⟩),(5,⟨[],.v (.int .i64 s)⟩),(6,⟨[],.v (.int .i64 a)⟩),(7,⟨[],.v (.int .i64 e)⟩)],[gL n],[]⟩
theorem CG {L:Nat} {n:Nd} (K:List Nat) (hK:K.length<=1099511627776) (hz:∀ z∈K,z<=2) (hn:cK L K.length n) (ez:n.ak.length<=1099511627776) (fv:n.af.length<=1099511627776) :
  aV prog 130 [.agg (gL n),.sl 1 (dInts K) none] (.v (.int .i64 (hZ n K:Nat))):=by
 have aZ:=hn.fU;have hm3:=hn.Ja;have hm5:=hn.uw;obtain ⟨ag,aX,lo,hi,most,af,es⟩:=n;simp only at aZ ez hm3 hm5 fv;have hbl:=ct af;refine eG 80 [.tmp 4] func130 rfl ntmps130 rfl fun _ _ _ _=>?_;refine lJ (fun e=>VG K ⟨ag,aX,lo,hi,most,af,es⟩ (sumC K (es.take e) 0) (ql K (es.take e) 1) e) es.length (aj ⟨_,rfl⟩ wA rfl rfl rfl wB) ?_;intro e he;have vT:=Jn K (es.take e) 0 (by omega);have Il:=Jo K (es.take e) 1 (by omega);refine br ?_ ?_<;>intro hL
 ·have ap:e < es.length:=by have:=hL;simp [aT] at this;exact this
  obtain ⟨x,hx⟩:=gX ap;have tU:=aZ x (mG hx);have k0:es.take (e + 1)=es.take e ++ [x]:=by rw [List.take_add_one,hx];all_goals rfl
  have hs:=AX K (es.take e) 0 x;have ha:=AY K (es.take e) 1 x;rw [<- k0] at hs ha;generalize sumC K (es.take e) 0=s at hs vT ⊢;generalize ql K (es.take e) 1=a at ha Il ⊢;refine iX (aE hx) ?_;refine br ?_ ?_<;>intro hb
  ·have hb:x.bare=false:=sU hb;obtain ⟨k,hk,eC⟩:=tU.to1 hb;obtain ⟨z,hz1⟩:∃ z,K[k]? = some z:=⟨_,gE eC⟩;have hv:tD K x=z:=by simp [tD,hb,cg,hk,aF,hz1]
   have G8:=hz z (mG hz1);rw [hv] at hs ha;refine iX (aE hx) ?_;refine ⟨_,⟨by omega,by rw [hk];exact aG hz1⟩,?_⟩;have hw1:IntKind.i64.wrap ((s:Int) + (z:Int))=((s + z:Nat):Int):=by rw [wrap64 (by omega) (by omega)];omega
   have Lp:a * z<=4:=Nat.le_trans (Nat.mul_le_mul Il G8) (by omega);have lA:(a:Int) * (z:Int)=((a * z:Nat):Int):=by push_cast;rfl
   have hw2:IntKind.i64.wrap ((a:Int) * (z:Int))=((a * z:Nat):Int):=by rw [lA,wrap64 (by omega) (by omega)]
   have e1:((iS (s + z):Nat):Int)=((sumC K (es.take (e + 1)) 0:Nat):Int):=by rw [hs]
   have e2:((iS (a * z):Nat):Int)=((ql K (es.take (e + 1)) 1:Nat):Int):=by rw [ha]
   refine cP ua (jO (s + z)) ?_ (gU hw1);refine cP ua (jO (a * z)) ?_ (gU hw2);exact rE ⟨_,by omega,e + 1,rfl,by omega,rfl⟩ (aj ⟨_,rfl⟩ wA rfl rfl rfl (zI e1 e2 (aJ ap (by omega))))
  ·have hb:x.bare=true:=sU hb;have hv:tD K x=1:=by simp [tD,hb]
   rw [hv] at hs ha;have hw1:IntKind.i64.wrap ((s:Int) + 1)=((s + 1:Nat):Int):=by rw [wrap64 (by omega) (by omega)];omega
   have Lp:a * 1<=4:=Nat.le_trans (Nat.mul_le_mul Il (show 1<=2 by omega)) (by omega);have lA:(a:Int) * 1=((a * 1:Nat):Int):=by push_cast;rfl
   have hw2:IntKind.i64.wrap ((a:Int) * 1)=((a * 1:Nat):Int):=by rw [lA,wrap64 (by omega) (by omega)]
   have e1:((iS (s + 1):Nat):Int)=((sumC K (es.take (e + 1)) 0:Nat):Int):=by rw [hs]
   have e2:((iS (a * 1):Nat):Int)=((ql K (es.take (e + 1)) 1:Nat):Int):=by rw [ha]
   refine cP ua (jO (s + 1)) ?_ (gU hw1);refine cP ua (jO (a * 1)) ?_ (gU hw2);exact rE ⟨_,by omega,e + 1,rfl,by omega,rfl⟩ (aj ⟨_,rfl⟩ wA rfl rfl rfl (zI e1 e2 (aJ ap (by omega))))
 ·have aQ:e=es.length:=by have:=hL;simp [aT] at this;omega
  subst aQ;rw [List.take_length] at vT Il ⊢;refine br ?_ ?_<;>intro c1
  ·have c1:ag=1:=sU c1;refine (congrArg (fun z=>DV.v (.int .i64 z)) ?_:_=_);simp [hZ,c1]
  have c1:¬ ag=1:=sU c1;refine br ?_ ?_<;>intro c2
  ·have c2:ag=2:=sU c2;refine br ?_ ?_<;>intro g
   ·have g:lo < hi:=sU g;refine (congrArg (fun z=>DV.v (.int .i64 z)) ?_:_=_);simp [hZ,c2,g]
   ·have g:¬ lo < hi:=sU g;refine (congrArg (fun z=>DV.v (.int .i64 z)) ?_:_=_);simp [hZ,c2,g]
  have c2:¬ ag=2:=sU c2;refine br ?_ ?_<;>intro c3
  ·have c3:ag=3:=sU c3;have hm:=hm3 c3;have hw:IntKind.i64.wrap (1 + most)=((1 + most.toNat:Nat):Int):=by rw [wrap64 (by omega) (by omega)];omega
   refine cP ua (jO (1 + most.toNat)) ?_ (gU hw);refine (congrArg (fun z=>DV.v (.int .i64 z)) ?_:_=_);simp [hZ,c3]
  have c3:¬ ag=3:=sU c3;refine br ?_ ?_<;>intro c4
  ·have c4:ag=4:=sU c4;refine cP ua (jO af.length) ?_ (gU hbl);refine (congrArg (fun z=>DV.v (.int .i64 z)) ?_:_=_);simp [hZ,c4]
  have c4:¬ ag=4:=sU c4;refine br ?_ ?_<;>intro c5
  ·have c5:ag=5:=sU c5;have hw:IntKind.i64.wrap (1 + ((sumC K es 0:Nat):Int))=((1 + sumC K es 0:Nat):Int):=by rw [wrap64 (by omega) (by omega)];omega
   refine br ?_ ?_<;>intro g
   ·have g:most=0:=sU g;refine (congrArg (fun z=>DV.v (.int .i64 z)) ?_:_=_);simp [hZ,c5,g]
   ·have g:¬ most=0:=sU g;refine cP ua (jO (1 + sumC K es 0)) ?_ (gU hw);refine (congrArg (fun z=>DV.v (.int .i64 z)) ?_:_=_);simp [hZ,c5,g]
  have c5:¬ ag=5:=sU c5;refine br ?_ ?_<;>intro c6
  ·have c6:ag=6:=sU c6;have hw:IntKind.i64.wrap (1 + ((sumC K es 0:Nat):Int))=((1 + sumC K es 0:Nat):Int):=by rw [wrap64 (by omega) (by omega)];omega
   refine cP ua (jO (1 + sumC K es 0)) ?_ (gU hw);refine (congrArg (fun z=>DV.v (.int .i64 z)) ?_:_=_);simp [hZ,c6]
  have c6:¬ ag=6:=sU c6;refine br ?_ ?_<;>intro c7
  ·have c7:ag=7:=sU c7;refine (congrArg (fun z=>DV.v (.int .i64 z)) ?_:_=_);simp [hZ,c7]
  have c7:¬ ag=7:=sU c7;refine (congrArg (fun z=>DV.v (.int .i64 z)) ?_:_=_);simp [hZ,c1,c2,c3,c4,c5,c6,c7]
theorem Rh (D:List Nat) (ND:List Nd) (i:Nat):(qL D (sevN ND D 0)).getD i 0=if D.getD i 0=0 then 0 else 1:=by
 have h0:(sevN ND D 0).getD i false=false:=by
  rw [sevN,aF,List.getElem?_replicate];split<;>rfl
 rw [Cy,h0];unfold qF;simp
theorem Ox (D:List Nat) (S:List Bool):∀ z∈qL D S,z<=2:=fun z hz=>by
 unfold qL at hz;obtain ⟨i,_,rfl⟩:=List.mem_map.1 hz;unfold qF;split
 ·omega
 ·split<;>omega
abbrev Oy (W:List DV) (D L:List Nat) (n i:Nat):St:=
 ⟨[(1,⟨[],.loc 0 0⟩),(3,⟨[],.sl 1 (dInts D) none⟩),(4,⟨[],.ms 1 1 0 n n⟩),(5,⟨[],.v (.int .i64 i)⟩)],[W,cN L],[]⟩
abbrev Oz (W:List DV) (D K:List Nat) (t:Nat):St:=
 ⟨[(1,⟨[],.loc 0 0⟩),(3,⟨[],.sl 1 (dInts D) none⟩),(4,⟨[],.sl 1 (dInts K) none⟩),(6,⟨[],.v (.int .i64 t)⟩)],[W],[]⟩
abbrev OA (W:List DV) (D K M:List Nat) (n t i:Nat):St:=
 ⟨[(1,⟨[],.loc 0 0⟩),(3,⟨[],.sl 1 (dInts D) none⟩),(4,⟨[],.sl 1 (dInts K) none⟩),(6,⟨[],.v (.int .i64 t)⟩),(7,⟨[],.ms 1 1 0 n n⟩),(8,⟨[],.v (.int .i64 i)⟩)],[W,cN M],[]⟩
theorem fp {L:List Nat} {i e v:Nat} (he:e < L.length):(L.set e v).getD i 0=if i=e then v else L.getD i 0:=by
 by_cases h:i=e
 ·subst h;rw [ai rfl,aF,cQ he];all_goals rfl
 ·rw [ah h,aF,List.getElem?_set_ne (Ne.symm h),<- aF]
theorem E4 (a b:Nat) (A B:List (List DV)) {ND:List Nd} {L:Nat} (z:Int) (bw:∀ n∈ND,cK L ND.length n) (fv:ND.length<=1099511627776) (bQ:∀ n∈ND,n.ak.length<=1099511627776) (dK:∀ n∈ND,n.af.length<=1099511627776) :
  aV prog 64 [.agg (wG a b A B ND z)] (.sl 1 (dInts (qL (depN ND ND.length) (fo ND (depN ND ND.length)))) none):=by
 have bH:=cw ND;have h0:=pH a b A B z bw fv bQ;have hl:=bA ND ND.length;have eZ:=depN_get ND ND.length;rw [depN_end] at eZ;generalize depN ND ND.length=D at h0 hl eZ ⊢;have HS:=Om D;have re:=fun t i n (h:ND[i]? = some n)=>Re bw hl eZ t h;refine eG 66 [.tmp 2] func64 rfl ntmps64 rfl fun _ _ _ _=>?_;refine cP nX h0 ?_;refine ⟨⟨rfl,by omega,by rw [bH];omega,by rw [bH];omega⟩,?_⟩;refine bz (fun j st=>∃ (i:Nat) (L:List Nat),st=Oy (wG a b A B ND z) D L (bq ND).length i/\i<=ND.length/\L.length=ND.length/\(∀ k:Nat,k < i->L.getD k 0=(qL D (sevN ND D 0)).getD k 0)/\(∀ k:Nat,i<=k->L.getD k 0=0)/\j=ND.length - i) ND.length (Oy (wG a b A B ND z) D (List.replicate ((bq ND).length:Int).toNat 0) (bq ND).length 0) (au 2 rfl (by repeat' (first | exact rfl | exact az rfl | exact bW (uZ _) | refine ⟨_,_,rfl,?_,?_⟩)) rfl rfl rfl (by repeat' (first | exact trivial | exact az rfl | exact bW (uZ _) | refine ⟨⟨_,rfl,?_⟩,?_⟩))) ⟨0,_,rfl,by omega,by rw [List.length_replicate,bH];omega,fun _ h=>by omega,fun k _=>by rw [aF,List.getElem?_replicate];split<;>rfl,by omega⟩ ?_;rintro j st ⟨i,L,rfl,hi,hL,nI,vR,rfl⟩;refine br ?_ ?_<;>intro ap
 ·have ap:i < ND.length:=by have:=ap;simp [bH] at this;exact this
  obtain ⟨k,hk⟩:∃ k,D[i]? = some k:=⟨_,gE (by omega)⟩;have Eg:D.getD i 0=k:=by rw [aF,hk];all_goals rfl
  have hq:=Rh D ND i;rw [Eg] at hq;refine iX (aG hk) ?_;refine br ?_ ?_<;>intro g
  ·have g:0 < k:=sU g;rw [ah (by omega)] at hq;refine ⟨⟨by omega,by rw [bH];omega⟩,?_⟩;refine ⟨by rw [lM];omega,?_⟩
   have aW:(cN L).set (0 + (i:Int).toNat * 1) (DV.v (.int .i64 1))=cN (L.set i 1):=by
    rw [show 0 + (i:Int).toNat * 1=i by omega];exact nc L i 1
   refine ⟨Oy (wG a b A B ND z) D (L.set i 1) (bq ND).length (i + 1),(au 2 rfl (gF aW (aJ ap (by omega))) rfl rfl rfl (wB2 aW (aJ ap (by omega)))),ND.length - (i + 1),by omega,i + 1,_,rfl,by omega,by rw [List.length_set];exact hL,fun j hj=>?_,fun j hj=>?_,rfl⟩
   ·rw [fp (by omega)];split
    ·rename_i h;rw [h,hq]
    ·exact nI j (by omega)
   ·rw [fp (by omega),ah (by omega)];exact vR j (by omega)
  ·have g:k=0:=by have:=g;simp at this;omega
   rw [ai g] at hq;refine ⟨Oy (wG a b A B ND z) D L (bq ND).length (i + 1),(au 2 rfl (ny (aJ ap (by omega))) rfl rfl rfl (dt (aJ ap (by omega)))),ND.length - (i + 1),by omega,i + 1,_,rfl,by omega,hL,fun j hj=>?_,fun j hj=>vR j (by omega),rfl⟩;rcases eP hj with hj | rfl
   ·exact nI j hj
   ·rw [hq,vR j (aR _)]
 have aQ:i=ND.length:=sW bH ap;subst aQ
 have hLq:L=qL D (sevN ND D 0):=kS (by rw [hL,HS,hl]) fun j=>by
  rcases Nat.lt_or_ge j ND.length with hj | hj
  ·exact nI j hj
  ·rw [vR j hj,aF,cR (by rw [HS,hl];exact hj)];all_goals rfl
 subst hLq;refine B7 (fun j st=>∃ t:Nat,st=Oz (wG a b A B ND z) D (qL D (sevN ND D t)) t/\t<=ND.length + 1/\j=ND.length + 1 - t) (ND.length + 1) (Oz (wG a b A B ND z) D (qL D (sevN ND D 0)) 0) (.C6 1 rfl rfl ⟨_,_,rfl,ax,rfl⟩ rfl ⟨⟨_,rfl,mj⟩,⟨_,rfl,ax⟩,⟨_,rfl,CA (by rw [HS,hl,bH]) (aR _) rfl⟩,⟨_,rfl,ax⟩,trivial⟩) ⟨0,rfl,by omega,by omega⟩ ?_;rintro j st ⟨t,rfl,ht,rfl⟩;refine br ?_ ?_<;>intro ap
 ·have ap:t<=ND.length:=sW bH ap;refine ⟨⟨rfl,by omega,by rw [bH];omega,by rw [bH];omega⟩,?_⟩;refine bz (fun j st=>∃ (i:Nat) (M:List Nat),st=OA (wG a b A B ND z) D (qL D (sevN ND D t)) M (bq ND).length t i/\i<=ND.length/\M.length=ND.length/\(∀ k:Nat,k < i->M.getD k 0=(qL D (sevN ND D (t + 1))).getD k 0)/\j=ND.length - i) ND.length (OA (wG a b A B ND z) D (qL D (sevN ND D t)) (List.replicate ((bq ND).length:Int).toNat 0) (bq ND).length t 0) (au 2 rfl (by repeat' (first | exact rfl | exact az rfl | exact bW (uZ _) | refine ⟨_,_,rfl,?_,?_⟩)) rfl rfl rfl (by repeat' (first | exact trivial | exact az rfl | exact bW (uZ _) | refine ⟨⟨_,rfl,?_⟩,?_⟩))) ⟨0,_,rfl,by omega,by rw [List.length_replicate,bH];omega,fun _ h=>by omega,by omega⟩ ?_;rintro j st ⟨i,M,rfl,hi,hM,hv,rfl⟩;have Ii:=HS (sevN ND D t);have OB:=bg (qL D (sevN ND D t));refine br ?_ ?_<;>intro la
  ·have la:i < ND.length:=by have:=la;simp [OB,Ii,hl] at this;exact this
   obtain ⟨n,hn⟩:=gX la;have iM:=mG hn;obtain ⟨k,hk⟩:∃ k,D[i]? = some k:=⟨_,gE (by omega)⟩;have Eg:D.getD i 0=k:=by rw [aF,hk];all_goals rfl
   have hs:=re t i n hn;rw [Eg] at hs;have hc:=CG (qL D (sevN ND D t)) (by omega) (Ox _ _) (n:=n) (by rw [Ii,hl];exact bw n iM) (bQ n iM) (dK n iM);refine iX (bZ hn) ?_;refine cP XR hc ?_;generalize hZ n (qL D (sevN ND D t))=q at hs ⊢;refine ⟨⟨by omega,by rw [bH];omega⟩,?_⟩;refine ⟨by rw [lM];omega,?_⟩
   have aW:(cN M).set (0 + (i:Int).toNat * 1) (DV.v (.int .i64 (q:Int)))=cN (M.set i q):=by
    rw [show 0 + (i:Int).toNat * 1=i by omega];exact nc M i q
   refine iX (aG hk) ?_;refine br ?_ ?_<;>intro g
   ·have g:k=0:=sU g;rw [ai g] at hs;refine ⟨⟨by omega,by rw [bH];omega⟩,?_⟩;refine ⟨by rw [List.length_set,lM];omega,?_⟩
    have ZS:((cN M).set (0 + (i:Int).toNat * 1) (DV.v (.int .i64 (q:Int)))).set (0 + (i:Int).toNat * 1) (DV.v (.int .i64 0))=cN ((M.set i q).set i 0):=by
     rw [aW,show 0 + (i:Int).toNat * 1=i by omega];exact nc (M.set i q) i 0
    refine ⟨OA (wG a b A B ND z) D (qL D (sevN ND D t)) ((M.set i q).set i 0) (bq ND).length t (i + 1),(au 2 rfl (gF ZS (aJ la (by omega))) rfl rfl rfl (wB2 ZS (aJ la (by omega)))),ND.length - (i + 1),by omega,i + 1,_,rfl,by omega,by simp [hM],fun j hj=>?_,rfl⟩;rw [fp (by rw [List.length_set];omega)];split
    ·rename_i h;rw [h,hs]
    ·rename_i h;rw [fp (by omega),ah h];exact hv j (by omega)
   ·have g:¬ k=0:=sU g;rw [ah g] at hs;refine ⟨OA (wG a b A B ND z) D (qL D (sevN ND D t)) (M.set i q) (bq ND).length t (i + 1),(au 2 rfl (gF aW (aJ la (by omega))) rfl rfl rfl (wB2 aW (aJ la (by omega)))),ND.length - (i + 1),by omega,i + 1,_,rfl,by omega,by simp [hM],fun j hj=>?_,rfl⟩;rw [fp (by omega)];split
    ·rename_i h;rw [h,hs]
    ·exact hv j (by omega)
  ·have aQ:i=ND.length:=by have:=la;simp [OB,Ii,hl] at this;omega
   subst aQ
   have hMq:M=qL D (sevN ND D (t + 1)):=kS (by rw [hM,HS,hl]) fun j=>by
    rcases Nat.lt_or_ge j ND.length with hj | hj
    ·exact hv j hj
    ·simp only [aF];rw [cR (by omega),cR (by rw [HS,hl];exact hj)]
   subst hMq;refine ⟨Oz (wG a b A B ND z) D (qL D (sevN ND D (t + 1))) (t + 1),.C6 1 rfl rfl ⟨_,_,rfl,ax,rfl⟩ rfl ⟨⟨_,rfl,mj⟩,⟨_,rfl,ax⟩,⟨_,rfl,CA (by rw [HS,hl,bH]) (aR _) rfl⟩,⟨_,rfl,?_⟩,trivial⟩,ND.length + 1 - (t + 1),by omega,t + 1,rfl,by omega,rfl⟩;exact congrArg (fun z=>DV.v (Value.int .i64 z)) (aJ (n:=1099511627777) (by omega) (by omega))
 ·have aQ:t=ND.length + 1:=sW bH ap;subst aQ;have:=yg ND D 1;rw [this];exact ⟨_,ax,rfl⟩
theorem VH {L:Nat} {ND:List Nd} {D:List Nat} (bw:∀ n∈ND,cK L ND.length n) (eZ:∀ j,D.getD j 0=match ND[j]? with | none=>0 | some n=>bc n D) (i:Nat):(fo ND D).getD i false=decide (1 < (qL D (fo ND D)).getD i 0):=by
 rw [Cy]
 have hs:(fo ND D).getD i false=match ND[i]? with | none=>false | some n=>eN n D (fo ND D):=by
  have:=sevN_get ND D ND.length i;rw [yg ND D 1] at this;exact this
 have hd:=eZ i
 cases hn:ND[i]? with
 | none=>
  rw [hn] at hs;have hs:(fo ND D).getD i false=false:=hs;rw [hs];unfold qF;simp;split<;>omega
 | some n=>
  rw [hn] at hs hd;have hd:D.getD i 0=bc n D:=hd;unfold qF;cases hb:(fo ND D).getD i false
  ·simp;split<;>omega
  ·have hs:(fo ND D).getD i false=eN n D (fo ND D):=hs;rw [hb] at hs;have:=yi (bw n (mG hn)) hs.symm;rw [ah (by omega)];simp
def kY (D:List Nat) (e:Ed):Nat:=if e.bare=true then 0 else cg D e
def minP (D:List Nat) (es:List Ed) (k:Nat):Bool:=match es[k]? with | some e=>ed D e && es.all (fun x=>!ed D x || decide (kY D e<=kY D x)) | none=>false
def bD (D:List Nat) (es:List Ed):Option Nat:=bN (minP D es) es.length
theorem l9 {D:List Nat} {es:List Ed} {k:Nat}:minP D es k=true↔∃ e,es[k]? = some e/\ed D e=true/\∀ x∈es,ed D x=true->kY D e<=kY D x:=by
 unfold minP
 cases h:es[k]? with
 | none=>simp
 | some e=>
  simp only [aP,List.all_eq_true,Bool.or_eq_true,Bool.not_eq_true',decide_eq_true_eq,oI,exists_eq_left'];refine and_congr_right fun _=>forall_congr' fun x=>forall_congr' fun _=>?_;cases ed D x<;>simp
theorem tH {D:List Nat} {es:List Ed} {k:Nat} {e:Ed} (h:es[k]? = some e) (ht:ed D e=true) (h1:∀ x∈es,ed D x=true->kY D e<=kY D x) (h2:∀ j x,j < k->es[j]? = some x->ed D x=true->kY D e < kY D x):bD D es=some k:=by
 refine bB (gS h).1 (l9.2 ⟨e,h,ht,h1⟩) fun j hj=>?_
 cases hm:minP D es j with
 | false=>rfl
 | true=>
  obtain ⟨x,hx,Pv,hxm⟩:=l9.1 hm;have:=h2 j x hj hx Pv;have:=hxm e (mG h) ht;omega
theorem uE {D:List Nat} {es:List Ed} (h:∀ x∈es,ed D x=false):bD D es=none:=by
 refine bP fun j _=>?_
 cases hm:minP D es j with
 | false=>rfl
 | true=>
  obtain ⟨x,hx,Pv,_⟩:=l9.1 hm;rw [h x (mG hx)] at Pv;cases Pv
theorem E5 {D:List Nat} {es:List Ed} {k:Nat} (h:bD D es=some k):∃ e,es[k]? = some e/\ed D e=true/\∀ x∈es,ed D x=true->kY D e<=kY D x:=l9.1 (cJ h).2.1
theorem K0 {D:List Nat}:∀ (m:Nat) {es:List Ed} {x:Ed},x∈es->ed D x=true->kY D x<=m->∃ k,bD D es=some k:=by
 intro m
 induction m with
 | zero=>
  intro es x hx ht hm
  cases hc:bD D es with
  | some k=>exact ⟨k,rfl⟩
  | none=>
   obtain ⟨j,hj,rfl⟩:=List.getElem_of_mem hx;have:=cr hc j hj;rw [l9.2 ⟨_,gE hj,ht,fun y _ _=>by omega⟩] at this;cases this
 | succ m ih=>
  intro es x hx ht hm;by_cases hy:∃ y∈es,ed D y=true/\kY D y<=m
  ·obtain ⟨y,h1,h2,h3⟩:=hy;exact ih h1 h2 h3
  ·cases hc:bD D es with
   | some k=>exact ⟨k,rfl⟩
   | none=>
    obtain ⟨j,hj,rfl⟩:=List.getElem_of_mem hx;have:=cr hc j hj
    rw [l9.2 ⟨_,gE hj,ht,fun y h1 h2=>by
     refine Nat.le_of_not_lt fun h=>hy ⟨y,h1,h2,by omega⟩⟩] at this
    cases this
def uF (D:List Nat) (es:List Ed) (k:Nat):Bool:=decide (bD D es≠some k) && (match es[k]? with | some e=>ed D e | none=>false)
def ly (D:List Nat) (es:List Ed):Option Nat:=bN (uF D es) es.length
theorem ma {D:List Nat} {es:List Ed} {k:Nat} {e:Ed} (h:es[k]? = some e):uF D es k=(decide (bD D es≠some k) && ed D e):=by unfold uF;rw [h]
theorem tI {D:List Nat} {es:List Ed} {k:Nat} (h:ly D es=some k):∃ e,es[k]? = some e/\ed D e=true:=by
 obtain ⟨h1,h2,_⟩:=cJ h;have he:=gE h1;rw [ma he,aP] at h2;exact ⟨_,he,h2.2⟩
theorem K1 {D:List Nat} {es:List Ed} (h:ly D es=none) {k:Nat} {e:Ed} (he:es[k]? = some e) (ht:ed D e=true):bD D es=some k:=by
 have:=cr h k (gS he).1;rw [ma he,ht,Bool.and_true,decide_eq_false_iff_not] at this;exact Classical.not_not.1 this
def E6 (K:List Bool) (es:List Ed) (k:Nat):Bool:=match es[k]? with | some e=>K.getD e.to.toNat false | none=>false
def ym (K:List Bool) (es:List Ed):Option Nat:=bN (E6 K es) es.length
def bf (n:Nat):Nat:=min n 4097
theorem fF (n:Nat):bf n<=4097:=Nat.min_le_right _ _
def cM (sz:List Nat) (e:Ed):Nat:=if e.bare=true then 0 else cg sz e
def sumX (sz:List Nat) (aX:Int):List Ed->Nat->Nat->Nat
 | [],_,n=>n
 | e :: r,i,n=>sumX sz aX r (i + 1) (if (i:Int)=aX then n else bf (n + cM sz e))
theorem nd {sz:List Nat} {c:Int}:∀ {es:List Ed} {i n:Nat},n<=4097->sumX sz c es i n<=4097
 | [],_,_,h=>h
 | e :: r,i,n,h=>by
  rw [sumX];refine nd ?_;split
  ·exact h
  ·exact fF _
theorem nf {sz:List Nat} {c:Int}:∀ {es:List Ed} {i n:Nat},n<=4097->n<=sumX sz c es i n
 | [],_,_,_=>aR _
 | e :: r,i,n,h=>by
  rw [sumX];split
  ·exact nf h
  ·refine Nat.le_trans ?_ (nf (fF _));unfold bf;omega
theorem AZ (sz:List Nat) (c:Int):∀ (es:List Ed) (e:Ed) (i n:Nat),sumX sz c (es ++ [e]) i n=if ((i + es.length:Nat):Int)=c then sumX sz c es i n else bf (sumX sz c es i n + cM sz e)
 | [],e,i,n=>by simp [sumX]
 | x :: r,e,i,n=>by
  rw [List.cons_append,sumX,AZ sz c r,sumX,List.length_cons,show i + 1 + r.length=i + (r.length + 1) by omega]
def sizeF (sz D:List Nat) (n:Nd):Nat:=
 if n.ag=7 then sumX sz (-1) n.ak 0 1
 else if n.ag=8 then (match bD D n.ak with | some c=>(match n.ak[c]? with | some e=>bf (1 + cM sz e) | none=>1) | none=>1)
 else 1
def eO (sz D:List Nat) (K:List Bool) (n:Nd):Nat × Option Nat:=
 if n.ag=5∨n.ag=6 then (match n.ak[0]? with | some e=>(bf (1 + cM sz e),none) | none=>(1,none))
 else if n.ag=7 then (match ym K n.ak with | some c=>(match n.ak[c]? with | some e=>(sumX sz c n.ak 0 1,some e.to.toNat) | none=>(1,none)) | none=>(1,none))
 else if n.ag=8 then (match ly D n.ak with
  | some c=>(match n.ak[c]? with | some e=>(bf (1 + cM sz e),none) | none=>(1,none))
  | none=>(match bD D n.ak with | some c=>(match n.ak[c]? with | some e=>(1,some e.to.toNat) | none=>(1,none)) | none=>(1,none)))
 else (1,none)
def othE (t:List Nat) (k:Nat × Option Nat):Nat:=match k.2 with
 | none=>k.1
 | some j=>if t.getD j 0=0 then 0 else bf (k.1 + t.getD j 0)
theorem E7 (sz D:List Nat) (K:List Bool) (n:Nd):1<=(eO sz D K n).1/\(eO sz D K n).1<=4097:=by
 have h1:∀ e,1<=bf (1 + cM sz e)/\bf (1 + cM sz e)<=4097:=fun e=>by unfold bf;omega
 have h2:∀ c,1<=sumX sz c n.ak 0 1/\sumX sz c n.ak 0 1<=4097:=fun c=>⟨nf (by omega),nd (by omega)⟩;unfold eO
 repeat' split
 all_goals first | exact h1 _ | exact h2 _ | exact ⟨aR 1,(by decide:(1:Nat)<=4097)⟩
end Go.Proofs.YtadhpeooehkklaaGreat
set_option maxRecDepth 100000
namespace Go.Proofs.YtadhpeooehkklaaGreat
open Go Go.RowKit
namespace Dv
def putN (sl:List (Nat × Sl)) (dst:Option Nat) (gs:List (Nat × Bool)) (s:DV) (K:List (Nat × Sl)->Prop):Prop:=
 match dst with
 | none=>K sl
 | some d=>K ((d,⟨gs,s⟩) :: sl)
def effN (X:Ctx) (bx:List (List DV)) (sl:List (Nat × Sl)) (op:Op) (K:DV->Prop):Prop:=
 match j7 op with
 | true=>optP (effR X ⟨sl,bx,[]⟩ op K)
 | false=>optP (effR X ⟨sl,[],[]⟩ op K)
def goN (X:Ctx) (ops:Array Oper) (bx:List (List DV)) (F:List (Nat × Sl)->Prop):Nat->List Oper->List (Nat × Sl)->Prop
 | _,[],sl=>F sl
 | 0,_ :: _,_=>False
 | n + 1,o :: r,sl=>
  match gp X.nt sl o.dst with
  | false=>False
  | true=>
   match gq o.op with
   | true=>False
   | false=>
    match o.guard with
    | none=>
     match pureT X.P X.T ⟨sl,bx,[]⟩ [] o.op with
     | some s=>putN sl o.dst [] s (goN X ops bx F n r)
     | none=>
      match j7 o.op || (pureT X.P X.T ⟨sl,[],[]⟩ [] o.op).isNone with
      | false=>False
      | true=>effN X bx sl o.op fun s=>putN sl o.dst [] s (goN X ops bx F n r)
    | some (j,want)=>
     match gslot ops.toList j with
     | none=>False
     | some d=>
      match get sl d with
      | none=>False
      | some ⟨iz,_⟩=>
       match pureT X.P X.T ⟨sl,bx,[]⟩ ((d,want) :: iz) o.op with
       | some s=>
        match WI ((d,want) :: iz) o.dst with
        | true=>putN sl o.dst ((d,want) :: iz) s (goN X ops bx F n r)
        | false=>False
       | none=>
        match j7 o.op || (pureT X.P X.T ⟨sl,[],[]⟩ ((d,want) :: iz) o.op).isNone with
        | false=>False
        | true=>
         match get sl (lastG (d,want) iz).1 with
         | some ⟨[],.v (.bool b)⟩=>
          match iz with
          | []=>Br (b == want)
            (resL d want sl fun s2=>effN X bx s2 o.op fun s=>putN s2 o.dst [] s (goN X ops bx F n r))
            (resL d (!want) sl fun s2=>putN s2 o.dst [] .ud (goN X ops bx F n r))
          | _ :: _=>Br (b == (lastG (d,want) iz).2)
            (resL (lastG (d,want) iz).1 (lastG (d,want) iz).2 sl fun s2=>goN X ops bx F n (o :: r) s2)
            (resL (lastG (d,want) iz).1 (!(lastG (d,want) iz).2) sl fun s2=>goN X ops bx F n (o :: r) s2)
         | some ⟨[],.ud⟩=>
          match iz with
          | []=>putN sl o.dst [] .ud (goN X ops bx F n r)
          | _ :: _=>False
         | _=>False
section
variable {X:Ctx} {ops:Array Oper} {bx:List (List DV)} {tk:List TkE} {W:Nat->Bool} {k:List It} {s00:List (Nat × Sl)} {t00:List TkE}
theorem putN_2 {sl:List (Nat × Sl)} {dst:Option Nat} {gs:List (Nat × Bool)} {s:DV} {K:List (Nat × Sl)->Prop} {K2:List (Nat × Sl)->St->Prop} (h:putN sl dst gs s K) (hK:∀ l,K l->K2 l ⟨l,bx,tk⟩):put2 sl ⟨sl,bx,tk⟩ dst true gs s K2:=by
 cases dst with
 | none=>exact hK _ h
 | some d=>exact hK _ h
theorem A0 {st:St} {op:Op} {K K2:DV->Prop} (hK:∀ s,K s->K2 s):optP (effR X st op K)->optP (effR X st op K2):=by
 unfold effR
 repeat' split
 all_goals first | exact id | exact fun h=>⟨h.1,hK _ h.2⟩ | exact fun ⟨d,h⟩=>⟨d,h.1,hK _ h.2⟩
theorem OC {sl:List (Nat × Sl)} {op:Op} {K:DV->Prop} {K2:Bool->DV->Prop} {D:Dr} (hb:D.iC.bx=bx) (hE:gq op=false) (hK:∀ s,K s->K2 true s) (h:effN X bx sl op K):optP (eR X D true sl ⟨sl,bx,tk⟩ op K2):=by
 unfold effN at h;unfold eR;rw [hE];simp only
 cases hl:j7 op with
 | true=>
  rw [hl] at h;simp only at h ⊢;rw [hb];exact A0 hK h
 | false=>
  rw [hl] at h;simp only at h ⊢;have:=A0 hK h
  cases hq:effR X ⟨sl,[],[]⟩ op (K2 true) with
  | none=>rw [hq] at this;exact this.elim
  | some p=>rw [hq] at this;exact this
theorem OD (iC:St) (hb:iC.bx=bx):∀ (n:Nat) (r:List Oper) (i:Nat) (sl:List (Nat × Sl)),goN X ops bx (fun sl=>go X 4000 k ⟨sl,bx,tk⟩) n r sl->goD X ⟨ops,W,k,iC,none⟩ n true (nOps i r) sl ⟨sl,bx,tk⟩
 | 0,[],i,sl,h=>h
 | n + 1,[],i,sl,h=>h
 | 0,_ :: _,_,_,h=>h.elim
 | n + 1,o :: r,i,sl,h=>by
  have ih:=OD iC hb n r (i + 1);have Tq:=OD iC hb n (o :: r) i;show goD X ⟨ops,W,k,iC,none⟩ (n + 1) true ((i,o) :: nOps (i + 1) r) sl ⟨sl,bx,tk⟩;simp only [goN] at h;simp only [goD]
  cases bw:gp X.nt sl o.dst with
  | false=>rw [bw] at h;exact h.elim
  | true=>
  rw [bw] at h;simp only [Bool.and_self] at h ⊢
  cases hE:gq o.op with
  | true=>rw [hE] at h;exact h.elim
  | false=>
  rw [hE] at h;simp only at h ⊢
  have ZT:∀ G s,pureT X.P X.T ⟨sl,bx,[]⟩ G o.op=some s->pR X ⟨ops,W,k,iC,none⟩ true sl ⟨sl,bx,tk⟩ G o.op=some (true,s):=fun G s hs=>by
   unfold pR;rw [hE,hb];simp only [Bool.not_false,Bool.or_true,Bool.and_self,hs]
  have ZU:∀ G,pureT X.P X.T ⟨sl,bx,[]⟩ G o.op=none->(j7 o.op || (pureT X.P X.T ⟨sl,[],[]⟩ G o.op).isNone)=true->pR X ⟨ops,W,k,iC,none⟩ true sl ⟨sl,bx,tk⟩ G o.op=none:=fun G hs h2=>by
   unfold pR;rw [hE,hb];simp only [Bool.not_false,Bool.or_true,Bool.and_self,hs]
   cases hl:j7 o.op with
   | true=>rfl
   | false=>
    rw [hl,Bool.false_or,Option.isNone_iff_eq_none] at h2;rw [h2]
  cases hg:o.guard with
  | none=>
   rw [hg] at h;simp only at h ⊢
   cases hp:pureT X.P X.T ⟨sl,bx,[]⟩ [] o.op with
   | some s=>
    rw [hp] at h;rw [ZT _ _ hp];exact putN_2 h ih
   | none=>
    rw [hp] at h;simp only at h
    cases h2:(j7 o.op || (pureT X.P X.T ⟨sl,[],[]⟩ [] o.op).isNone) with
    | false=>rw [h2] at h;exact h.elim
    | true=>
     rw [h2] at h;rw [ZU _ hp h2];exact OC hb hE (fun s hs=>putN_2 hs ih) h
  | some jw=>
   obtain ⟨j,want⟩:=jw;rw [hg] at h;simp only at h ⊢
   cases C0:gslot ops.toList j with
   | none=>rw [C0] at h;exact h.elim
   | some d=>
   rw [C0] at h;simp only at h ⊢
   cases hd:get sl d with
   | none=>rw [hd] at h;exact h.elim
   | some x=>
   obtain ⟨iz,xs⟩:=x;rw [hd] at h;simp only at h ⊢
   cases hp:pureT X.P X.T ⟨sl,bx,[]⟩ ((d,want) :: iz) o.op with
   | some s=>
    rw [hp] at h;rw [ZT _ _ hp];simp only at h ⊢
    cases hG:WI ((d,want) :: iz) o.dst with
    | false=>rw [hG] at h;exact h.elim
    | true=>
     rw [hG] at h;exact putN_2 h ih
   | none=>
    rw [hp] at h;simp only at h
    cases h2:(j7 o.op || (pureT X.P X.T ⟨sl,[],[]⟩ ((d,want) :: iz) o.op).isNone) with
    | false=>rw [h2] at h;exact h.elim
    | true=>
    rw [h2] at h;rw [ZU _ hp h2];simp only at h ⊢
    cases hl:get sl (lastG (d,want) iz).1 with
    | none=>rw [hl] at h;exact h.elim
    | some y=>
    obtain ⟨gy,sy⟩:=y;rw [hl] at h;simp only [vO,u6] at h ⊢;split at h
    ·rename_i b hy;simp only [oI,Sl.mk.injEq] at hy;obtain ⟨rfl,rfl⟩:=hy;simp only
     cases iz with
     | nil=>
      simp only at h ⊢;unfold Br at h ⊢
      cases uO:(b == want) with
      | true=>
       rw [uO] at h;exact OC hb hE (fun s hs=>putN_2 hs ih) h
      | false=>
       rw [uO] at h;simp only [Bool.or_true] at h ⊢;exact putN_2 h ih
     | cons q gs=>
      simp only at h ⊢;unfold Br at h ⊢
      cases uO:(b == (lastG (d,want) (q :: gs)).2) with
      | true=>rw [uO] at h;exact Tq _ h
      | false=>rw [uO] at h;exact Tq _ h
    ·rename_i hy;simp only [oI,Sl.mk.injEq] at hy;obtain ⟨rfl,rfl⟩:=hy
     cases iz with
     | nil=>
      simp only [Bool.or_true] at h ⊢;exact putN_2 h ih
     | cons q gs=>exact h.elim
    ·exact h.elim
theorem jD {id:Nat} {st:St} (hm:X.P.follows .mixedOrders=true) (hc:Dy ops (fun _=>false)=true)
  (h:goN X ops st.bx (fun sl=>go X 4000 k ⟨sl,st.bx,st.tk⟩) 3000 ops.toList st.sl):lO X id ops k st:=vd (fun _=>false) hm hc (OD st rfl 3000 ops.toList 0 st.sl h)
end
end Dv
end Go.Proofs.YtadhpeooehkklaaGreat
set_option maxRecDepth 100000
namespace Go.Proofs.YtadhpeooehkklaaGreat
open Go Go.RowKit Dv Go.Proofs.Tryz
abbrev ng (PC:List DV) (ND:List Nd) (D:List Nat) (K:List Bool) (sz ot:List Nat):List DV:=[.pt PC 0,.sl 7 (bq ND) none,.sl 1 (dInts D) none,.sl 1 (qD K) none,.sl 1 (dInts sz) none,.sl 1 (dInts ot) none]
theorem ei (n:Nat):aV prog 126 [.v (.int .i64 n)] (.v (.int .i64 (bf n:Nat))):=by
 refine eG 5 [.tmp 2] func126 rfl ntmps126 rfl fun _ _ _ _=>?_;refine (congrArg (fun z=>DV.v (.int .i64 z)) ?_:_=_);unfold bf;omega
section
variable (PC:List DV) (ND:List Nd) (D:List Nat) (K:List Bool) (sz ot:List Nat) {L:Nat}
abbrev A1 (n:Nd) (b:Option Nat) (e:Nat):St:=
 ⟨[(0,⟨[],.pt (ng PC ND D K sz ot) 0⟩),(3,⟨[],.loc 0 0⟩),(5,⟨[],.v (.int .i64 (oz b))⟩),(9,⟨[],.sl 10 (cG n.ak) none⟩),(10,⟨[],.v (.int .i64 (cG n.ak).length)⟩),(11,⟨[],.v (.int .i64 e)⟩)],[gL n],[]⟩
structure E8 (D:List Nat) (es:List Ed) (e:Nat) (b:Option Nat):Prop where
 nb:∀ (j:Nat) x,j < e->es[j]? = some x->x.bare=false
 no:b=none->∀ (j:Nat) x,j < e->es[j]? = some x->ed D x=false
 yes:∀ k,b=some k->∃ x,k < e/\es[k]? = some x/\ed D x=true/\(∀ (j:Nat) y,j < e->es[j]? = some y->ed D y=true->cg D x<=cg D y)/\∀ (j:Nat) y,j < k->es[j]? = some y->ed D y=true->cg D x < cg D y
theorem E8.step {es:List Ed} {e:Nat} {b b':Option Nat} {x:Ed} (hB:E8 D es e b) (hx:es[e]? = some x) (hb:x.bare=false)
  (h:(ed D x=false/\b'=b)∨(ed D x=true/\(∃ k y,b=some k/\es[k]? = some y/\cg D y<=cg D x)/\b'=b)∨(ed D x=true/\(b=none∨∃ k y,b=some k/\es[k]? = some y/\cg D x < cg D y)/\b'=some e)):E8 D es (e + 1) b':=by
 have hnb:∀ (j:Nat) y,j < e + 1->es[j]? = some y->y.bare=false:=fun j y hj hy=>by
  rcases eP hj with h1 | rfl
  ·exact hB.nb j y h1 hy
  ·rw [hx] at hy;cases hy;exact hb
 rcases h with ⟨ht,rfl⟩ | ⟨ht,⟨k,y,rfl,hy,dG⟩,rfl⟩ | ⟨ht,hc,rfl⟩
 ·refine ⟨hnb,fun hn j y hj hy=>?_,fun k hk=>?_⟩
  ·rcases eP hj with h1 | rfl
   ·exact hB.no hn j y h1 hy
   ·rw [hx] at hy;cases hy;exact ht
  ·obtain ⟨z,h1,h2,h3,h4,h5⟩:=hB.yes k hk;refine ⟨z,by omega,h2,h3,fun j y hj hy JK=>?_,h5⟩;rcases eP hj with h6 | rfl
   ·exact h4 j y h6 hy JK
   ·rw [hx] at hy;cases hy;rw [ht] at JK;cases JK
 ·refine ⟨hnb,fun hn=>(by cases hn),fun k' hk=>?_⟩;cases hk;obtain ⟨z,h1,h2,h3,h4,h5⟩:=hB.yes k rfl;rw [hy] at h2;cases h2;refine ⟨_,by omega,hy,h3,fun j w hj hw JK=>?_,h5⟩;rcases eP hj with h6 | rfl
  ·exact h4 j w h6 hw JK
  ·rw [hx] at hw;cases hw;exact dG
 ·have ap:∀ (j:Nat) w,j < e->es[j]? = some w->ed D w=true->cg D x < cg D w:=fun j w hj hw JK=>by
   rcases hc with rfl | ⟨k,y,rfl,hy,hl⟩
   ·rw [hB.no rfl j w hj hw] at JK;cases JK
   ·obtain ⟨z,h1,h2,h3,h4,h5⟩:=hB.yes k rfl;rw [hy] at h2;cases h2;have:=h4 j w hj hw JK;omega
  refine ⟨hnb,fun hn=>(by cases hn),fun k' hk=>?_⟩;cases hk;refine ⟨x,by omega,hx,ht,fun j w hj hw JK=>?_,ap⟩;rcases eP hj with h6 | rfl
  ·exact Nat.le_of_lt (ap j w h6 hw JK)
  ·rw [hx] at hw;cases hw;exact aR _
theorem choose_spec {n:Nd} (hD:D.length=ND.length) (hn:cK L ND.length n) (ez:n.ak.length<=1099511627776) :
  aV prog 143 [.pt (ng PC ND D K sz ot) 0,.agg (gL n)] (.v (.int .i64 (oz (bD D n.ak)))):=by
 have aZ:=hn.fU;obtain ⟨ag,aX,lo,hi,most,af,es⟩:=n;simp only at aZ ez;have bH:=aT es;refine eG 60 [.tmp 4] func143 rfl ntmps143 rfl fun _ _ _ _=>?_;refine lI (fun j st=>∃ (e:Nat) (b:Option Nat),st=A1 PC ND D K sz ot ⟨ag,aX,lo,hi,most,af,es⟩ b e/\e<=es.length/\E8 D es e b/\j=es.length - e) ⟨0,none,rfl,by omega,⟨fun _ _ h=>by omega,fun _ _ _ h=>by omega,fun _ h=>by cases h⟩,rfl⟩ (au 1 rfl wA rfl rfl rfl wB) ?_;rintro j st ⟨e,b,rfl,he,hB,rfl⟩;refine br ?_ ?_<;>intro hL
 ·have ap:e < es.length:=sV bH hL;obtain ⟨x,hx⟩:=gX ap;have tU:=aZ x (mG hx)
  have Tr:∃ z,x.bare=false->D[x.to.toNat]? = some z/\x.to=(x.to.toNat:Nat)/\cg D x=z:=by
   cases hb:x.bare with
   | true=>exact ⟨0,fun h=>by cases h⟩
   | false=>
    obtain ⟨k,hk,eC⟩:=tU.to1 hb;have hg:D[x.to.toNat]? = some D[x.to.toNat]:=gE (by omega);exact ⟨_,fun _=>⟨hg,by omega,by unfold cg;rw [aF,hg];rfl⟩⟩
  obtain ⟨z,hz⟩:=Tr;have ZV:x.bare=true->ed D x=true:=fun h=>by unfold ed;rw [h];all_goals rfl
  have K3:x.bare=false->ed D x=decide (0 < cg D x):=fun h=>by unfold ed;rw [h];all_goals rfl
  have lU:x.bare=true->kY D x=0:=fun h=>by unfold kY;rw [ai h]
  have jT:∀ (j:Nat) y,j < e->es[j]? = some y->ed D y=true->y.bare=false/\0 < cg D y/\kY D y=cg D y:=fun j y hj hy ht=>by
   have hb:=hB.nb j y hj hy;unfold ed at ht;rw [hb,Bool.false_or] at ht;exact ⟨hb,of_decide_eq_true ht,by unfold kY;rw [ah (by rw [hb];simp)]⟩
  have ZW:x.bare=true->bD D es=some e:=fun hb=>by
   refine tH hx (ZV hb) (fun y _ _=>by rw [lU hb];omega) fun j y hj hy ht=>?_;obtain ⟨_,h2,h3⟩:=jT j y hj hy ht;rw [lU hb,h3];exact h2
  have iv:∀ b',x.bare=false->((ed D x=false/\b'=b)∨(ed D x=true/\(∃ k y,b=some k/\es[k]? = some y/\cg D y<=cg D x)/\b'=b)∨(ed D x=true/\(b=none∨∃ k y,b=some k/\es[k]? = some y/\cg D x < cg D y)/\b'=some e))->E8 D es (e + 1) b':=fun b' hb h=>hB.step D hx hb h;clear ZV lU jT;generalize ed D x=T at K3 iv;generalize cg D x=ex at hz K3 iv;obtain ⟨en,eb,ea,et,vC,ew,yQ,yR,yS,yT⟩:=x;simp only at hz K3 ZW iv;refine iX (aE hx) ?_;refine br ?_ ?_<;>intro c
  ·rw [ZW c];exact (rfl:_=_)
  ·subst c;obtain ⟨hz1,G8,LG⟩:=hz rfl;have K3:=K3 rfl;have iv:=fun b'=>iv b' rfl;subst LG K3;obtain ⟨to,rfl⟩:∃ k:Nat,et=k:=⟨_,G8⟩;rw [ej] at hz1
   cases b with
   | none=>
    refine jD mo (by decide +kernel) ?_;refine ⟨_,⟨cH _,aG hz1⟩,?_⟩;refine br ?_ ?_<;>intro c
    ·have c:0 < ex:=by simpa [lastG] using c
     exact ⟨A1 PC ND D K sz ot ⟨ag,aX,lo,hi,most,af,es⟩ (some e) (e + 1),(au 1 rfl (ny (aJ ap (by omega))) rfl rfl rfl (dt (aJ ap (by omega)))),es.length - (e + 1),by omega,e + 1,some e,rfl,by omega,iv _ (.inr (.inr ⟨decide_eq_true c,.inl rfl,rfl⟩)),rfl⟩
    ·have c:¬ 0 < ex:=by simpa [lastG] using c
     exact ⟨A1 PC ND D K sz ot ⟨ag,aX,lo,hi,most,af,es⟩ none (e + 1),(au 1 rfl (ny (aJ ap (by omega))) rfl rfl rfl (dt (aJ ap (by omega)))),es.length - (e + 1),by omega,e + 1,none,rfl,by omega,iv _ (.inl ⟨decide_eq_false c,rfl⟩),rfl⟩
   | some k=>
    obtain ⟨y,u9,hy,hyt,_⟩:=hB.yes k rfl;have VI:=hB.nb k y u9 hy;obtain ⟨ky,hky,hkyl⟩:=(aZ y (mG hy)).to1 VI;obtain ⟨zy,hzy⟩:∃ z,D[ky]? = some z:=⟨_,gE (by omega)⟩;have hzy2:cg D y=zy:=by unfold cg;rw [hky,ej,aF,hzy];all_goals rfl
    refine jD mo (by decide +kernel) ?_;refine ⟨_,⟨cH _,aG hz1⟩,?_⟩;refine br ?_ ?_<;>intro c
    ·have c:0 < ex:=by simpa [lastG] using c
     refine ⟨_,⟨cH _,aG hz1⟩,?_⟩;refine ⟨_,⟨cH _,aE hy⟩,?_⟩;refine ⟨_,⟨by rw [hky];exact cH _,by rw [hky];exact aG hzy⟩,?_⟩;refine br ?_ ?_<;>intro g
     ·have g:ex < zy:=by simpa [lastG,pickB] using g
      exact ⟨A1 PC ND D K sz ot ⟨ag,aX,lo,hi,most,af,es⟩ (some e) (e + 1),(au 1 rfl (ny (aJ ap (by omega))) rfl rfl rfl (dt (aJ ap (by omega)))),es.length - (e + 1),by omega,e + 1,some e,rfl,by omega,iv _ (.inr (.inr ⟨decide_eq_true c,.inr ⟨k,y,rfl,hy,by omega⟩,rfl⟩)),rfl⟩
     ·have g:¬ ex < zy:=by simpa [lastG,pickB] using g
      exact ⟨A1 PC ND D K sz ot ⟨ag,aX,lo,hi,most,af,es⟩ (some k) (e + 1),(au 1 rfl (ny (aJ ap (by omega))) rfl rfl rfl (dt (aJ ap (by omega)))),es.length - (e + 1),by omega,e + 1,some k,rfl,by omega,iv _ (.inr (.inl ⟨decide_eq_true c,⟨k,y,rfl,hy,by omega⟩,rfl⟩)),rfl⟩
    ·have c:¬ 0 < ex:=by simpa [lastG] using c
     exact ⟨A1 PC ND D K sz ot ⟨ag,aX,lo,hi,most,af,es⟩ (some k) (e + 1),(au 1 rfl (ny (aJ ap (by omega))) rfl rfl rfl (dt (aJ ap (by omega)))),es.length - (e + 1),by omega,e + 1,some k,rfl,by omega,iv _ (.inl ⟨decide_eq_false c,rfl⟩),rfl⟩
 ·have aQ:e=es.length:=sW bH hL;subst aQ
  cases b with
  | none=>
   rw [uE fun x hx=>by
    obtain ⟨j,hj,rfl⟩:=List.getElem_of_mem hx
    exact hB.no rfl j _ hj (gE hj)]
   exact (rfl:_=_)
  | some k=>
   obtain ⟨x,h1,h2,h3,h4,h5⟩:=hB.yes k rfl;have hb:=hB.nb k x h1 h2;have Tr:kY D x=cg D x:=by unfold kY;rw [ah (by rw [hb];simp)]
   have hdy:∀ (j:Nat) y,j < es.length->es[j]? = some y->kY D y=cg D y:=fun j y hj hy=>by unfold kY;rw [ah (by rw [hB.nb j y hj hy];simp)]
   rw [tH h2 h3 (fun y hy ht=>by
    obtain ⟨j,hj,rfl⟩:=List.getElem_of_mem hy;have gw:=gE hj;rw [Tr,hdy j _ hj gw]
    exact h4 j _ hj gw ht) fun j y hj hy ht=>by
    rw [Tr,hdy j y (by omega) hy]
    exact h5 j y hj hy ht]
   exact (rfl:_=_)
end
theorem Ts {a:Option Nat} {k:Nat}:((k:Nat):Int)≠oz a↔a≠some k:=by
 cases a with
 | none=>simp [oz]
 | some j=>simp [oz];omega
section
variable (PC:List DV) (ND:List Nd) (D:List Nat) (K:List Bool) (sz ot:List Nat) {L:Nat}
abbrev ZX (n:Nd) (e:Nat):St:=
 ⟨[(0,⟨[],.pt (ng PC ND D K sz ot) 0⟩),(3,⟨[],.loc 0 0⟩),(5,⟨[],.v (.int .i64 (oz (bD D n.ak)))⟩),(12,⟨[],.sl 10 (cG n.ak) none⟩),(13,⟨[],.v (.int .i64 (cG n.ak).length)⟩),(14,⟨[],.v (.int .i64 e)⟩)],[gL n],[]⟩
theorem yo {n:Nd} (hD:D.length=ND.length) (hn:cK L ND.length n) (ez:n.ak.length<=1099511627776) :
  aV prog 145 [.pt (ng PC ND D K sz ot) 0,.agg (gL n)] (.v (.int .i64 (oz (ly D n.ak)))):=by
 have zn:=choose_spec PC ND D K sz ot hD hn ez;have aZ:=hn.fU;obtain ⟨ag,aX,lo,hi,most,af,es⟩:=n;simp only at aZ ez zn;have bH:=aT es;refine eG 39 [.tmp 4] func145 rfl ntmps145 rfl fun _ _ _ _=>?_;refine cP Iz zn ?_;refine lI (fun j st=>∃ e:Nat,st=ZX PC ND D K sz ot ⟨ag,aX,lo,hi,most,af,es⟩ e/\e<=es.length/\(∀ k,k < e->uF D es k=false)/\j=es.length - e) ⟨0,rfl,by omega,fun _ h=>by omega,rfl⟩ (au 1 rfl wA rfl rfl rfl wB) ?_;rintro j st ⟨e,rfl,he,hB,rfl⟩;refine br ?_ ?_<;>intro hL
 ·have ap:e < es.length:=sV bH hL;obtain ⟨x,hx⟩:=gX ap;have tU:=aZ x (mG hx);have nJ:=ma (D:=D) hx;have OE:uF D es e=true->ly D es=some e:=fun h=>bB ap h hB
  have fq:uF D es e=false->∀ k,k < e + 1->uF D es k=false:=fun h k hk=>by
   rcases eP hk with h1 | rfl
   ·exact hB k h1
   ·exact h
  have Tr:∃ z,x.bare=false->D[x.to.toNat]? = some z/\0<=x.to/\ed D x=decide (0 < z):=by
   cases hb:x.bare with
   | true=>exact ⟨0,fun h=>by cases h⟩
   | false=>
    obtain ⟨k,hk,eC⟩:=tU.to1 hb;have hg:D[x.to.toNat]? = some D[x.to.toNat]:=gE (by omega);exact ⟨_,fun _=>⟨hg,by omega,by unfold ed cg;rw [hb,aF,hg];rfl⟩⟩
  obtain ⟨z,hz⟩:=Tr;have dn:x.bare=true->ed D x=true:=fun h=>by unfold ed;rw [h];all_goals rfl
  generalize uF D es e=T at nJ OE fq;generalize ed D x=B at nJ hz dn;obtain ⟨en,eb,ea,et,vC,ew,yQ,yR,yS,yT⟩:=x;simp only at hz dn;refine iX (aE hx) ?_;refine jD mo (by decide +kernel) ?_;refine br ?_ ?_<;>intro c1
  ·have c1:bD D es≠some e:=Ts.1 (by simpa [lastG] using c1);refine br ?_ ?_<;>intro c2
   ·have c2:eb=false:=by simpa [lastG] using c2
    obtain ⟨hz1,G8,LG⟩:=hz c2;refine ⟨_,⟨G8,aG hz1⟩,?_⟩;refine br ?_ ?_<;>intro g
    ·have g:0 < z:=by simpa [lastG,pickB] using g
     rw [OE (by rw [nJ,LG,decide_eq_true g,Bool.and_true];exact decide_eq_true c1)];exact (rfl:_=_)
    ·have g:¬ 0 < z:=by simpa [lastG,pickB] using g
     exact rE ⟨_,by omega,e + 1,rfl,by omega,fq (by rw [nJ,LG,decide_eq_false g,Bool.and_false]),rfl⟩ (au 1 rfl (ny (aJ ap (by omega))) rfl rfl rfl (dt (aJ ap (by omega))))
   ·have c2:eb=true:=by simpa [lastG] using c2
    rw [OE (by rw [nJ,dn c2,Bool.and_true];exact decide_eq_true c1)];exact (rfl:_=_)
  ·have c1:¬ bD D es≠some e:=fun h=>by
    have:=Ts.2 h;simp [lastG] at c1;exact this c1
   exact rE ⟨_,by omega,e + 1,rfl,by omega,fq (by rw [nJ,decide_eq_false c1,Bool.false_and]),rfl⟩ (au 1 rfl (ny (aJ ap (by omega))) rfl rfl rfl (dt (aJ ap (by omega))))
 ·have aQ:e=es.length:=sW bH hL;subst aQ;rw [show ly D es=none from bP hB];exact (rfl:_=_)
theorem qm {e:Ed} (hs:sz.length=ND.length) (he:N7 L ND.length e) :
  aV prog 183 [.pt (ng PC ND D K sz ot) 0,.agg (Ce e)] (.v (.int .i64 (cM sz e:Nat))):=by
 obtain ⟨en,eb,ea,et,vC,ew,yQ,yR,yS,yT⟩:=e;have h1:=he.to1;simp only at h1;refine eG 15 [.tmp 4] func183 rfl ntmps183 rfl fun _ _ _ _=>?_;refine br ?_ ?_<;>intro c
 ·subst c;exact (rfl:_=_)
 ·subst c;obtain ⟨k,rfl,eC⟩:=h1 rfl;have hg:sz[k]? = some sz[k]:=gE (by omega);refine jD mo (by decide +kernel) ?_;refine ⟨_,⟨cH _,aG hg⟩,?_⟩;refine (congrArg (fun z=>DV.v (.int .i64 z)) ?_:_=_);unfold cM cg;simp [aF,hg]
end
theorem A2 {K:List Nat}:∀ {es:List Ed} {m:Nat},0 < leastR K es m->m < leastR K es m/\∀ e∈es,0 < cg K e/\cg K e < leastR K es m
 | [],m,_=>⟨Nat.lt_succ_self m,fun e he=>by cases he⟩
 | x :: r,m,h=>by
  rw [leastR] at h ⊢;split at h
  ·omega
  ·rename_i h0;rw [ah h0];obtain ⟨h1,h2⟩:=A2 h;refine ⟨by omega,fun e he=>?_⟩;rcases bI he with rfl | he
   ·omega
   ·exact h2 e he
theorem tJ {K:List Nat}:∀ {es:List Ed} {b:Nat},0 < cq K es b->(∃ e∈es,ed K e=true/\kY K e < cq K es b)∨(0 < b/\b < cq K es b)
 | [],b,h=>by
  rw [cq] at h ⊢;split at h
  ·omega
  ·rename_i h0;rw [ah h0];omega
 | x :: r,b,h=>by
  have ZY:∀ {v:Nat},(∃ e∈r,ed K e=true/\kY K e < v)->∃ e∈x :: r,ed K e=true/\kY K e < v:=fun ⟨e,h1,h2⟩=>⟨e,de _ h1,h2⟩;rw [cq] at h ⊢;split at h
  ·rename_i hb;rw [ai hb];exact .inl ⟨x,List.mem_cons_self,by unfold ed;rw [hb];rfl,by unfold kY;rw [ai hb];omega⟩
  ·rename_i hb;rw [ah hb];split at h
   ·rename_i h0;rw [ai h0];rcases tJ h with h1 | ⟨h1,h2⟩
    ·exact .inl (ZY h1)
    ·refine .inl ⟨x,List.mem_cons_self,?_,?_⟩
     ·unfold ed;simp [h1]
     ·unfold kY;rw [ah hb];exact h2
   ·rename_i h0;rw [ah h0];rcases tJ h with h1 | h1
    ·exact .inl (ZY h1)
    ·exact .inr h1
theorem choose_lt {K:List Nat} {es:List Ed} (h:0 < cq K es 0):∃ c e,bD K es=some c/\es[c]? = some e/\ed K e=true/\kY K e < cq K es 0:=by
 rcases tJ h with ⟨x,h1,h2,h3⟩ | h1
 ·obtain ⟨c,hc⟩:=K0 (kY K x) h1 h2 (aR _);obtain ⟨e,he,ht,hm⟩:=E5 hc;have:=hm x h1 h2;exact ⟨c,e,hc,he,ht,by omega⟩
 ·omega
structure gQ (ND:List Nd) (D:List Nat):Prop where
 len:D.length=ND.length
 le:∀ i,D.getD i 0<=ND.length
 get:∀ i n,ND[i]? = some n->D.getD i 0=bc n D
theorem gd (ND:List Nd):gQ ND (depN ND ND.length):=by
 refine ⟨bA _ _,Jh ND _,fun i n hn=>?_⟩;have:=depN_get ND ND.length i;rw [depN_end,hn] at this;exact this
theorem gQ.Wy {ND:List Nd} {D:List Nat} (h:gQ ND D) {i:Nat} {n:Nd} (hn:ND[i]? = some n) (h0:0 < D.getD i 0) (h7:n.ag=7):∀ e∈n.ak,0 < cg D e/\cg D e < D.getD i 0:=by
 have h1:=h.get i n hn;rw [bc,ai h7] at h1;rw [h1] at h0 ⊢;exact (A2 h0).2
theorem gQ.PE {ND:List Nd} {D:List Nat} (h:gQ ND D) {i:Nat} {n:Nd} (hn:ND[i]? = some n) (h0:0 < D.getD i 0) (h8:n.ag=8):∃ c e,bD D n.ak=some c/\n.ak[c]? = some e/\(e.bare=false->0 < cg D e/\cg D e < D.getD i 0):=by
 have h1:=h.get i n hn;rw [bc,ah (by omega),ai h8] at h1;rw [h1] at h0 ⊢;obtain ⟨c,e,hc,he,ht,hl⟩:=choose_lt h0;refine ⟨c,e,hc,he,fun hb=>?_⟩;unfold ed at ht;rw [hb,Bool.false_or] at ht;unfold kY at hl;rw [ah (by rw [hb];simp)] at hl;exact ⟨of_decide_eq_true ht,hl⟩
def szL (ND:List Nd) (D:List Nat) (d:Nat):Nat->List Nat->List Nat
 | 0,t=>t
 | e + 1,t=>match ND[e]? with
  | none=>szL ND D d e t
  | some n=>if D.getD e 0=d then (szL ND D d e t).set e (sizeF (szL ND D d e t) D n) else szL ND D d e t
def szR (ND:List Nd) (D:List Nat):Nat->List Nat
 | 0=>List.replicate ND.length 0
 | d + 1=>szL ND D (d + 1) ND.length (szR ND D d)
theorem nh (ND:List Nd) (D:List Nat) (d:Nat):∀ e t,(szL ND D d e t).length=t.length
 | 0,t=>rfl
 | e + 1,t=>by
  rw [szL];split
  ·exact nh ND D d e t
  ·split
   ·rw [List.length_set];exact nh ND D d e t
   ·exact nh ND D d e t
theorem o8 (ND:List Nd) (D:List Nat):∀ d,(szR ND D d).length=ND.length
 | 0=>List.length_replicate
 | d + 1=>by rw [szR,nh];exact o8 ND D d
theorem HT {ND:List Nd} {D:List Nat} {d:Nat} (h:∀ i,D.getD i 0≠d):∀ e t,szL ND D d e t=t
 | 0,t=>rfl
 | e + 1,t=>by
  rw [szL];split
  ·exact HT h e t
  ·rw [ah (h e)];exact HT h e t
theorem Jp {ND:List Nd} {D:List Nat} {m:Nat} (h:∀ i,D.getD i 0<=m):∀ k,szR ND D (m + k)=szR ND D m
 | 0=>rfl
 | k + 1=>by
  show szL ND D (m + k + 1) ND.length (szR ND D (m + k))=_;rw [HT (fun i=>by have:=h i;omega)];exact Jp h k
theorem mb {ND:List Nd} {D:List Nat} {d:Nat} {i:Nat} (h:D.getD i 0≠d):∀ (e:Nat) (t:List Nat),(szL ND D d e t).getD i 0=t.getD i 0
 | 0,t=>rfl
 | e + 1,t=>by
  rw [szL];split
  ·exact mb h e t
  ·split
   ·rename_i he;have bp:i≠e:=fun yN=>h (yN ▸ he);rw [aF,List.getElem?_set_ne (by omega),<- aF];exact mb h e t
   ·exact mb h e t
theorem Jq {ND:List Nd} {D:List Nat} {d:Nat} {i:Nat} {n:Nd} (hn:ND[i]? = some n) (h:D.getD i 0=d):∀ (e:Nat) (t:List Nat),t.length=ND.length->i < e->(szL ND D d e t).getD i 0=sizeF (szL ND D d i t) D n
 | e + 1,t,hl,hi=>by
  have DP:=(gS hn).1;rw [szL];rcases eP hi with h1 | rfl
  ·have ih:=Jq hn h e t hl h1;split
   ·exact ih
   ·split
    ·rw [aF,List.getElem?_set_ne (by omega),<- aF];exact ih
    ·exact ih
  ·rw [hn];simp only;rw [ai h,fp (by rw [nh];omega),ai rfl]
theorem yp {a b:List Nat} {c:Int}:∀ {es:List Ed} {i n:Nat},(∀ e∈es,cM a e=cM b e)->sumX a c es i n=sumX b c es i n
 | [],_,_,_=>rfl
 | e :: r,i,n,h=>by
  rw [sumX,sumX,h e List.mem_cons_self];exact yp fun x hx=>h x (de _ hx)
theorem yq {a b:List Nat} {e:Ed} (h:e.bare=false->a.getD e.to.toNat 0=b.getD e.to.toNat 0):cM a e=cM b e:=by
 unfold cM cg
 cases hb:e.bare with
 | true=>rfl
 | false=>simp only [Bool.false_eq_true,if_false];exact h hb
theorem E9 {ND:List Nd} {D a b:List Nat} (h:gQ ND D) {i:Nat} {n:Nd} (hn:ND[i]? = some n) (h0:0 < D.getD i 0) (zb:∀ j,0 < D.getD j 0->D.getD j 0 < D.getD i 0->a.getD j 0=b.getD j 0):sizeF a D n=sizeF b D n:=by
 unfold sizeF;split
 ·rename_i h7;refine yp fun e he=>yq fun _=>?_;obtain ⟨h1,h2⟩:=h.Wy hn h0 h7 e he;exact zb _ h1 h2
 ·split
  ·rename_i h8;obtain ⟨c,e,hc,he,hp⟩:=h.PE hn h0 h8;rw [hc];simp only [he];rw [yq fun hb=>zb _ (hp hb).1 (hp hb).2]
  ·rfl
theorem vD {ND:List Nd} {D:List Nat} {i:Nat}:∀ (k d:Nat),D.getD i 0<=d->(szR ND D (d + k)).getD i 0=(szR ND D d).getD i 0
 | 0,d,_=>rfl
 | k + 1,d,h=>by
  show (szL ND D (d + k + 1) ND.length (szR ND D (d + k))).getD i 0=_;rw [mb (by omega)];exact vD k d h
def ke (ND:List Nd) (D:List Nat):List Nat:=szR ND D ND.length
theorem rM (ND:List Nd) (D:List Nat):(ke ND D).length=ND.length:=o8 ND D _
theorem Jr {ND:List Nd} {D:List Nat} (h:gQ ND D) {i:Nat} {n:Nd} (hn:ND[i]? = some n) (h0:0 < D.getD i 0):(ke ND D).getD i 0=sizeF (ke ND D) D n:=by
 have dG:=h.le i;have DP:=(gS hn).1;obtain ⟨d,hd⟩:∃ d,D.getD i 0=d + 1:=⟨_,(Nat.succ_pred_eq_of_pos h0).symm⟩;obtain ⟨k,hk⟩:∃ k,ND.length=d + 1 + k:=⟨ND.length - (d + 1),by omega⟩
 have h1:(ke ND D).getD i 0=(szR ND D (d + 1)).getD i 0:=by
  unfold ke;rw [hk];exact vD k (d + 1) (by omega)
 rw [h1,szR,Jq hn hd _ _ (o8 ND D d) DP];refine E9 h hn h0 fun j hj nS=>?_;rw [mb (by omega)];unfold ke;rw [hk,Nat.add_assoc];exact (vD (1 + k) d (by omega)).symm
theorem OG {ND:List Nd} {D:List Nat} {i:Nat} (h0:D.getD i 0=0):(ke ND D).getD i 0=0:=by
 unfold ke;have:=vD (ND:=ND) (D:=D) (i:=i) ND.length 0 (by omega);rw [Nat.zero_add] at this;rw [this,szR,aF,List.getElem?_replicate];split<;>rfl
theorem o9 (a D:List Nat) (n:Nd):1<=sizeF a D n/\sizeF a D n<=4097:=by
 unfold sizeF;split
 ·exact ⟨nf (by omega),nd (by omega)⟩
 ·split
  ·split
   ·split
    ·unfold bf;omega
    ·omega
   ·omega
  ·omega
theorem ni {ND:List Nd} {D:List Nat} (h:gQ ND D) {i:Nat}:(0 < (ke ND D).getD i 0↔0 < D.getD i 0)/\(ke ND D).getD i 0<=4097:=by
 rcases Nat.eq_zero_or_pos (D.getD i 0) with h0 | h0
 ·rw [OG h0,h0];omega
 ·have DP:i < ND.length:=by
   rcases Nat.lt_or_ge i ND.length with h1 | h1
   ·exact h1
   ·rw [aF,cR (by rw [h.len];exact h1)] at h0;simp at h0
  have hs:=Jr h (gE DP) h0;have:=o9 (ke ND D) D ND[i];rw [hs];omega
def othK (sz D:List Nat) (K:List Bool) (ND:List Nd) (i:Nat):Option (Nat × Option Nat):=match ND[i]? with | some n=>if K.getD i false=true then some (eO sz D K n) else none | none=>none
def otI (kf:Nat->Option (Nat × Option Nat)) (i:Nat) (t:List Nat):List Nat:=match kf i with | some k=>t.set i (othE t k) | none=>t
def pa (kf:Nat->Option (Nat × Option Nat)):Nat->List Nat->List Nat
 | 0,t=>t
 | e + 1,t=>otI kf e (pa kf e t)
def gg (kf:Nat->Option (Nat × Option Nat)) (N:Nat):Nat->List Nat
 | 0=>List.replicate N 0
 | r + 1=>pa kf N (gg kf N r)
def zo (kf:Nat->Option (Nat × Option Nat)) (t:List Nat):Prop:=∀ i,t.getD i 0≠0->∃ k,kf i=some k/\t.getD i 0=othE t k
def F4 (a b:List Nat):Prop:=∀ i:Nat,a.getD i 0≠0->b.getD i 0=a.getD i 0
theorem F4.refl (a:List Nat):F4 a a:=fun _ _=>rfl
theorem F4.trans {a b c:List Nat} (h1:F4 a b) (h2:F4 b c):F4 a c:=fun i hi=>by rw [h2 i (by rw [h1 i hi];exact hi),h1 i hi]
theorem A3 {a b:List Nat} (h:F4 a b) {k:Nat × Option Nat} (h0:othE a k≠0):othE b k=othE a k:=by
 obtain ⟨s,o⟩:=k
 cases o with
 | none=>rfl
 | some j=>
  simp only [othE] at h0 ⊢;split at h0
  ·exact (h0 rfl).elim
  ·rename_i h1;rw [h j h1,ah h1]
theorem Fa {l:List Nat} {i:Nat} (v:Nat) (h:l.getD i 0=v):l.set i v=l:=by
 refine kS (List.length_set) fun j=>?_;rcases Nat.lt_or_ge i l.length with h1 | h1
 ·rw [fp h1];split
  ·rename_i h2;rw [h2,h]
  ·rfl
 ·rw [List.set_eq_of_length_le h1]
section
variable {kf:Nat->Option (Nat × Option Nat)} {N:Nat}
theorem Ri (i:Nat) (t:List Nat):(otI kf i t).length=t.length:=by
 unfold otI;split
 ·exact List.length_set
 ·rfl
theorem rN:∀ (e:Nat) (t:List Nat),(pa kf e t).length=t.length
 | 0,t=>rfl
 | e + 1,t=>by rw [pa,Ri];exact rN e t
theorem iN:∀ r,(gg kf N r).length=N
 | 0=>List.length_replicate
 | r + 1=>by rw [gg,rN];exact iN r
theorem A4 {i:Nat} {t:List Nat} (h:zo kf t) (h0:t.getD i 0≠0):otI kf i t=t:=by
 obtain ⟨k,hk,hv⟩:=h i h0;unfold otI;rw [hk];exact Fa _ hv
theorem OH {i:Nat} {t:List Nat} (hi:i < t.length) (h:zo kf t):zo kf (otI kf i t)/\F4 t (otI kf i t):=by
 by_cases h0:t.getD i 0=0
 ·cases hk:kf i with
  | none=>unfold otI;rw [hk];exact ⟨h,F4.refl t⟩
  | some k=>
   have hu:otI kf i t=t.set i (othE t k):=by unfold otI;rw [hk]
   have dG:F4 t (otI kf i t):=fun j hj=>by
    rw [hu,fp hi,ah (fun Ge=>by subst Ge;exact hj h0)]
   refine ⟨fun j hj=>?_,dG⟩;rw [hu,fp hi] at hj;by_cases Ge:j=i
   ·subst Ge;rw [ai rfl] at hj;refine ⟨k,hk,?_⟩;rw [A3 dG hj,hu,fp hi,ai rfl]
   ·rw [ah Ge] at hj;obtain ⟨k',eX,hv⟩:=h j hj;refine ⟨k',eX,?_⟩;rw [dG j hj,A3 dG (by rw [<- hv];exact hj),hv]
 ·rw [A4 h h0];exact ⟨h,F4.refl t⟩
theorem yr:∀ (e:Nat) {t:List Nat},e<=t.length->zo kf t->zo kf (pa kf e t)/\F4 t (pa kf e t)
 | 0,t,_,h=>⟨h,F4.refl t⟩
 | e + 1,t,he,h=>by
  obtain ⟨h1,h2⟩:=yr e (by omega) h;obtain ⟨h3,h4⟩:=OH (i:=e) (by rw [rN];omega) h1;exact ⟨h3,h2.trans h4⟩
theorem mr (kf:Nat->Option (Nat × Option Nat)) (N:Nat):zo kf (List.replicate N 0):=fun i hi=>by
 rw [aF,List.getElem?_replicate] at hi;split at hi<;>exact (hi rfl).elim
theorem yt:∀ r,zo kf (gg kf N r)
 | 0=>mr kf N
 | r + 1=>(yr N (by rw [iN];exact aR N) (yt r)).1
theorem OI (r:Nat):F4 (gg kf N r) (gg kf N (r + 1)):=(yr N (by rw [iN];exact aR N) (yt r)).2
def rO (t:List Nat):Nat:=t.countP (fun x=>x != 0)
theorem rP:∀ {a b:List Nat},a.length=b.length->F4 a b->(a=b∨rO a < rO b)/\rO a<=rO b
 | [],[],_,_=>⟨.inl rfl,aR _⟩
 | [],y :: b,h,_=>by simp at h
 | x :: a,[],h,_=>by simp at h
 | x :: a,y :: b,h,dG=>by
  obtain ⟨h1,h2⟩:=rP (a:=a) (b:=b) (sU h) (fun i hi=>dG (i + 1) hi);have h3:=dG 0;simp only [List.getD_cons_zero] at h3;unfold rO at h1 h2 ⊢;simp only [List.countP_cons];by_cases hx:x=0
  ·subst hx;by_cases hy:y=0
   ·subst hy;refine ⟨?_,by simpa using h2⟩;rcases h1 with rfl | h1
    ·exact .inl rfl
    ·right;simpa using h1
   ·have e1:(y != 0)=true:=sU hy;simp only [e1,bne_self_eq_false,Bool.false_eq_true,if_false,if_true];exact ⟨.inr (by omega),by omega⟩
  ·have:=h3 hx;subst this;have e1:(y != 0)=true:=sU hx;simp only [e1,if_true];refine ⟨?_,by omega⟩;rcases h1 with rfl | h1
   ·exact .inl rfl
   ·exact .inr (by omega)
theorem Fb:∀ r,gg kf N (r + 1)=gg kf N r∨r + 1<=rO (gg kf N (r + 1))
 | 0=>by
  rcases (rP (by rw [iN,iN]) (OI (kf:=kf) (N:=N) 0)).1 with h | h
  ·exact .inl h.symm
  ·exact .inr (by omega)
 | r + 1=>by
  rcases Fb r with h | h
  ·left;show pa kf N (gg kf N (r + 1))=pa kf N (gg kf N r);rw [h]
  ·rcases (rP (by rw [iN,iN]) (OI (kf:=kf) (N:=N) (r + 1))).1 with h2 | h2
   ·exact .inl h2.symm
   ·exact .inr (by omega)
theorem Js (t:List Nat):rO t<=t.length:=List.countP_le_length
theorem CH {r:Nat} (h:gg kf N (r + 1)=gg kf N r):∀ k,gg kf N (r + k)=gg kf N r
 | 0=>rfl
 | k + 1=>by
  show pa kf N (gg kf N (r + k))=_;rw [CH h k];exact h
theorem Jt:gg kf N (N + 1)=gg kf N N:=by
 rcases Fb (kf:=kf) (N:=N) N with h | h
 ·exact h
 ·have:=Js (gg kf N (N + 1));rw [iN] at this;omega
theorem Rj {r:Nat} (h:gg kf N (r + 1)=gg kf N r):gg kf N r=gg kf N N:=by
 rcases Nat.le_total r N with h1 | h1
 ·have:=CH h (N - r);rw [<- this];congr 1;omega
 ·have:=CH (Jt (kf:=kf) (N:=N)) (r - N);rw [<- this];congr 1;omega
end
def PF (sz D:List Nat) (K:List Bool) (ND:List Nd):List Nat:=gg (othK sz D K ND) ND.length ND.length
theorem Rk (sz D:List Nat) (K:List Bool) (ND:List Nd):(PF sz D K ND).length=ND.length:=iN _
theorem Rm {sz D:List Nat} {K:List Bool} {ND:List Nd} {i:Nat} (h:(PF sz D K ND).getD i 0≠0):∃ n,ND[i]? = some n/\K.getD i false=true/\(PF sz D K ND).getD i 0=othE (PF sz D K ND) (eO sz D K n):=by
 obtain ⟨k,hk,hv⟩:=yt (kf:=othK sz D K ND) (N:=ND.length) ND.length i h;unfold othK at hk;split at hk
 ·rename_i n hn;split at hk
  ·rename_i hK;cases hk;exact ⟨n,hn,hK,hv⟩
  ·cases hk
 ·cases hk
def dN (k n:Int):Val:=.mk k n ay []
def tagV (F:Nat->Val) (es:List Ed) (c:Nat):Val:=match es[c]? with | some e=>.mk 8 c ay (if e.bare=true then [] else [F e.to.toNat]) | none=>dN 8 c
def firstV (ND:List Nd) (D:List Nat):Nat->Nat->Val
 | 0,_=>dN 0 0
 | f + 1,i=>match ND[i]? with
  | none=>dN 0 0
  | some n=>if n.ag=2 then dN 2 n.lo
   else if n.ag=7 then .mk 7 0 ay (n.ak.map fun e=>firstV ND D f e.to.toNat)
   else if n.ag=8 then (match bD D n.ak with | some c=>tagV (firstV ND D f) n.ak c | none=>dN 8 0)
   else dN n.ag 0
theorem yu {F G:Nat->Val} {es:List Ed} {c:Nat} (h:∀ e,es[c]? = some e->e.bare=false->F e.to.toNat=G e.to.toNat):tagV F es c=tagV G es c:=by
 unfold tagV
 cases he:es[c]? with
 | none=>rfl
 | some e=>
  simp only
  cases hb:e.bare with
  | true=>rfl
  | false=>rw [h e he hb]
theorem uG {ND:List Nd} {D:List Nat} (h:gQ ND D):∀ (f i:Nat),0 < D.getD i 0->D.getD i 0<=f->firstV ND D (f + 1) i=firstV ND D f i
 | 0,i,h0,h1=>by omega
 | f + 1,i,h0,h1=>by
  have ih:=uG h f;rw [firstV,firstV]
  cases hn:ND[i]? with
  | none=>rfl
  | some n=>
   simp only;split
   ·rfl
   ·split
    ·rename_i h7;refine congrArg (Val.mk 7 0 ay) (List.map_congr_left fun e he=>?_);obtain ⟨h2,h3⟩:=h.Wy hn h0 h7 e he;exact ih _ h2 (by unfold cg at h3;omega)
    ·split
     ·rename_i h8;obtain ⟨c,e,hc,he,hp⟩:=h.PE hn h0 h8;rw [hc];refine yu fun e' pT hb=>?_;rw [he] at pT;cases pT;obtain ⟨h2,h3⟩:=hp hb;exact ih _ h2 (by unfold cg at h3;omega)
     ·rfl
def bX (ND:List Nd) (D:List Nat) (i:Nat):Val:=firstV ND D ND.length i
theorem qp {ND:List Nd} {D:List Nat} (h:gQ ND D) {i:Nat} (h0:0 < D.getD i 0):∀ k,firstV ND D (D.getD i 0 + k) i=firstV ND D (D.getD i 0) i
 | 0=>rfl
 | k + 1=>by rw [<- qp h h0 k];exact uG h (D.getD i 0 + k) i h0 (by omega)
theorem qq {ND:List Nd} {D:List Nat} (h:gQ ND D) {f i:Nat} (h0:0 < D.getD i 0) (h1:D.getD i 0<=f):firstV ND D f i=bX ND D i:=by
 have dG:=h.le i;have h2:=qp h h0 (f - D.getD i 0);have h3:=qp h h0 (ND.length - D.getD i 0);rw [show D.getD i 0 + (f - D.getD i 0)=f by omega] at h2;rw [show D.getD i 0 + (ND.length - D.getD i 0)=ND.length by omega] at h3;unfold bX;rw [h2,h3]
def CI (F G:Nat->Val) (D:List Nat) (K:List Bool) (n:Nd):Val:=
 if n.ag=2 then dN 2 (n.lo + 1)
 else if n.ag=3 then .mk 3 0 ⟨#[97]⟩ []
 else if n.ag=5∨n.ag=6 then (match n.ak[0]? with | some e=>.mk n.ag 0 ay [F e.to.toNat] | none=>dN n.ag 0)
 else if n.ag=7 then (match ym K n.ak with
  | some c=>(match n.ak[c]? with | some e=>.mk 7 0 ay ((n.ak.map fun e=>F e.to.toNat).set c (G e.to.toNat)) | none=>dN 7 0)
  | none=>dN 7 0)
 else if n.ag=8 then (match ly D n.ak with
  | some c=>tagV F n.ak c
  | none=>(match bD D n.ak with | some c=>(match n.ak[c]? with | some e=>.mk 8 c ay [G e.to.toNat] | none=>dN 8 c) | none=>dN 8 0))
 else dN n.ag 1
def dF (ND:List Nd) (D:List Nat) (K:List Bool):Nat->Nat->Val
 | 0,_=>dN 0 0
 | f + 1,i=>match ND[i]? with
  | none=>dN 0 0
  | some n=>CI (bX ND D) (dF ND D K f) D K n
def Rn (ND:List Nd) (D:List Nat) (K:List Bool) (i:Nat):Val:=dF ND D K 4096 i
theorem rQ {sz:List Nat} (hz:∀ z∈sz,z<=4097) (e:Ed):cM sz e<=4097:=by
 unfold cM cg;split
 ·omega
 ·rw [aF]
  cases h:sz[e.to.toNat]? with
  | none=>exact Nat.zero_le _
  | some z=>exact hz z (mG h)
theorem tK {sz:List Nat} {c:Int} {es:List Ed} {e:Nat} {x:Ed} (h:es[e]? = some x):sumX sz c (es.take (e + 1)) 0 1=if (e:Int)=c then sumX sz c (es.take e) 0 1 else bf (sumX sz c (es.take e) 0 1 + cM sz x):=by
 have hl:(es.take e).length=e:=by rw [zLenT];have:=(gS h).1;omega
 rw [dE h,AZ,hl,Nat.zero_add]
theorem wrapN {a b:Nat} (ha:a<=1099511627776) (hb:b<=1099511627776):IntKind.i64.wrap ((a:Int) + (b:Int))=((a + b:Nat):Int):=by rw [wrap64 (by omega) (by omega)];omega
section
variable (PC:List DV) (ND:List Nd) (D:List Nat) (K:List Bool) (sz ot:List Nat) {L:Nat}
abbrev ZZ (n:Nd) (s e:Nat):St:=
 ⟨[(0,⟨[],.pt (ng PC ND D K sz ot) 0⟩),(3,⟨[],.loc 0 0⟩),(5,⟨[],.v (.int .i64 s)⟩),(13,⟨[],.sl 10 (cG n.ak) none⟩),(14,⟨[],.v (.int .i64 (cG n.ak).length)⟩),(15,⟨[],.v (.int .i64 e)⟩)],[gL n],[]⟩
theorem Fc {n:Nd} (hD:D.length=ND.length) (hs:sz.length=ND.length) (hz:∀ z∈sz,z<=4097) (hn:cK L ND.length n) (ez:n.ak.length<=1099511627776) (h8:n.ag=8->∃ c e,bD D n.ak=some c/\n.ak[c]? = some e) :
  aV prog 122 [.pt (ng PC ND D K sz ot) 0,.agg (gL n)] (.v (.int .i64 (sizeF sz D n:Nat))):=by
 have zn:=choose_spec PC ND D K sz ot hD hn ez;have aZ:=hn.fU;obtain ⟨ag,aX,lo,hi,most,af,es⟩:=n;simp only at aZ ez zn h8;have bH:=aT es;refine eG 41 [.tmp 4] func122 rfl ntmps122 rfl fun _ _ _ _=>?_;refine br ?_ ?_<;>intro c7
 ·have c7:ag=7:=sU c7;have hF:sizeF sz D ⟨ag,aX,lo,hi,most,af,es⟩=sumX sz (-1) es 0 1:=by simp [sizeF,c7]
  rw [hF];refine lJ (fun e=>ZZ PC ND D K sz ot ⟨ag,aX,lo,hi,most,af,es⟩ (sumX sz (-1) (es.take e) 0 1) e) es.length (au 1 rfl wA rfl rfl rfl wB) ?_;intro e he;refine br ?_ ?_<;>intro hL
  ·have ap:e < es.length:=sV bH hL;obtain ⟨x,hx⟩:=gX ap;have hp:=qm PC ND D K sz ot hs (aZ x (mG hx));have nv:=rQ hz x;have nK:=nd (sz:=sz) (c:=-1) (es:=es.take e) (i:=0) (n:=1) (by omega);have eT:sumX sz (-1) (es.take (e + 1)) 0 1=bf (sumX sz (-1) (es.take e) 0 1 + cM sz x):=by rw [tK hx,ah (by omega)]
   have hw:=wrapN (a:=sumX sz (-1) (es.take e) 0 1) (b:=cM sz x) (by omega) (by omega);refine iX (aE hx) ?_;refine cP zQ hp ?_;refine cP nz (ei (sumX sz (-1) (es.take e) 0 1 + cM sz x)) ?_ (gU hw);exact rE ⟨_,by omega,e + 1,rfl,by omega,rfl⟩ (au 1 rfl (gF (aJ ap (by omega)) eT.symm) rfl rfl rfl (wB2 (aJ ap (by omega)) eT.symm))
  ·have aQ:e=es.length:=sW bH hL;subst aQ;rw [List.take_length];exact (rfl:_=_)
 ·have c7:¬ ag=7:=sU c7;refine br ?_ ?_<;>intro c8
  ·have c8:ag=8:=sU c8;obtain ⟨c,x,hc,hx⟩:=h8 c8;rw [hc] at zn;have hF:sizeF sz D ⟨ag,aX,lo,hi,most,af,es⟩=bf (1 + cM sz x):=by simp [sizeF,c8,hc,hx]
   have hp:=qm PC ND D K sz ot hs (aZ x (mG hx));have nv:=rQ hz x;have hw:=wrapN (a:=1) (b:=cM sz x) (by omega) (by omega);rw [hF];refine dI ?_;refine cD Iz zn ?_;refine ⟨_,⟨cH _,aE hx⟩,?_⟩;refine cD zQ hp ?_;refine cD nz (ei (1 + cM sz x)) ?_ (gU hw);exact (rfl:_=_)
  ·have c8:¬ ag=8:=sU c8;refine (congrArg (fun z=>DV.v (.int .i64 z)) ?_:_=_);simp [sizeF,c7,c8]
abbrev Z0 (n:Nd) (e:Nat):St:=
 ⟨[(0,⟨[],.pt (ng PC ND D K sz ot) 0⟩),(3,⟨[],.loc 0 0⟩),(8,⟨[],.sl 10 (cG n.ak) none⟩),(9,⟨[],.v (.int .i64 (cG n.ak).length)⟩),(10,⟨[],.v (.int .i64 e)⟩)],[gL n],[]⟩
theorem pI {n:Nd} (hK:K.length=ND.length) (hn:cK L ND.length n) (h7:n.ag=7) (ez:n.ak.length<=1099511627776) :
  aV prog 144 [.pt (ng PC ND D K sz ot) 0,.agg (gL n)] (.v (.int .i64 (oz (ym K n.ak)))):=by
 have aZ:=hn.fU;have dn:=hn.bare;obtain ⟨ag,aX,lo,hi,most,af,es⟩:=n;simp only at aZ ez h7 dn;have bH:=aT es;refine eG 25 [.tmp 4] func144 rfl ntmps144 rfl fun _ _ _ _=>?_;refine lI (fun j st=>∃ e:Nat,st=Z0 PC ND D K sz ot ⟨ag,aX,lo,hi,most,af,es⟩ e/\e<=es.length/\(∀ k,k < e->E6 K es k=false)/\j=es.length - e) ⟨0,rfl,by omega,fun _ h=>by omega,rfl⟩ (au 1 rfl wA rfl rfl rfl wB) ?_;rintro j st ⟨e,rfl,he,hB,rfl⟩;refine br ?_ ?_<;>intro hL
 ·have ap:e < es.length:=sV bH hL;obtain ⟨x,hx⟩:=gX ap
  have nM:x.bare=false:=by
   cases hb:x.bare with
   | false=>rfl
   | true=>have:=dn x (mG hx) hb;omega
  obtain ⟨k,hk,eC⟩:=(aZ x (mG hx)).to1 nM;obtain ⟨z,hz⟩:∃ z,K[k]? = some z:=⟨_,gE (by omega)⟩;have hP:E6 K es e=z:=by unfold E6;rw [hx];simp only;rw [hk,ej,aF,hz];all_goals rfl
  refine iX (aE hx) ?_;refine jD mo (by decide +kernel) ?_;refine ⟨_,⟨by rw [hk];exact cH _,by rw [hk];exact rG hz⟩,?_⟩;refine br ?_ ?_<;>intro g
  ·have g:z=true:=sU g;rw [show ym K es=some e from bB ap (hP.trans g) hB];exact (rfl:_=_)
  ·have g:z=false:=sU g
   exact rE ⟨_,by omega,e + 1,rfl,by omega,fun k hk=>by
    rcases eP hk with h1 | rfl
    ·exact hB k h1
    ·exact hP.trans g,rfl⟩ (au 1 rfl (ny (aJ ap (by omega))) rfl rfl rfl (dt (aJ ap (by omega))))
 ·have aQ:e=es.length:=sW bH hL;subst aQ;rw [show ym K es=none from bP hB];exact (rfl:_=_)
end
structure Fe (D:List Nat) (K:List Bool) (n:Nd):Prop where
 c7:n.ag=7->∃ c e,ym K n.ak=some c/\n.ak[c]? = some e/\e.bare=false
 c8:n.ag=8->ly D n.ak=none->∃ c e,bD D n.ak=some c/\n.ak[c]? = some e/\e.bare=false
section
variable (PC:List DV) (ND:List Nd) (D:List Nat) (K:List Bool) (sz ot:List Nat) {L:Nat}
abbrev Z1 (n:Nd) (c:Option Nat) (s e:Nat):St:=
 ⟨[(0,⟨[],.pt (ng PC ND D K sz ot) 0⟩),(3,⟨[],.loc 0 0⟩),(5,⟨[],.v (.int .i64 (oz c))⟩),(6,⟨[],.v (.int .i64 s)⟩),(32,⟨[],.sl 10 (cG n.ak) none⟩),(33,⟨[],.v (.int .i64 (cG n.ak).length)⟩),(34,⟨[],.v (.int .i64 e)⟩)],[gL n],[]⟩
theorem CJ {n:Nd} (hD:D.length=ND.length) (hK:K.length=ND.length) (hs:sz.length=ND.length) (ho:ot.length=ND.length) (hz:∀ z∈sz,z<=4097) (hoz:∀ z∈ot,z<=4097) (hn:cK L ND.length n) (ez:n.ak.length<=1099511627776) (hS:Fe D K n) :
  aV prog 123 [.pt (ng PC ND D K sz ot) 0,.agg (gL n)] (.v (.int .i64 (othE ot (eO sz D K n):Nat))):=by
 have zn:=choose_spec PC ND D K sz ot hD hn ez;have F5:=yo PC ND D K sz ot hD hn ez;have OJ:=fun h=>pI PC ND D K sz ot hK hn h ez;have aZ:=hn.fU;have cu:=hn.one;have h7:=hS.c7;have h8:=hS.c8;obtain ⟨ag,aX,lo,hi,most,af,es⟩:=n;simp only at aZ ez zn F5 OJ h7 h8 cu;have bH:=aT es
 have nJ:∀ {x:Ed},x∈es->x.bare=false->∃ z,(dInts ot)[x.to.toNat]? = some [.v (.int .i64 (z:Nat))]/\0<=x.to/\ot.getD x.to.toNat 0=z/\z<=4097:=fun {x} hx hb=>by
  obtain ⟨k,hk,eC⟩:=(aZ x hx).to1 hb;have hg:ot[k]? = some ot[k]:=gE (by omega);refine ⟨ot[k],by rw [hk];exact aG hg,by omega,by rw [hk,ej,aF,hg];rfl,hoz _ (mG hg)⟩
 have rR:∀ {x:Ed},x∈es->aV prog 183 [.pt (ng PC ND D K sz ot) 0,.agg (Ce x)] (.v (.int .i64 (cM sz x:Nat))):=fun {x} hx=>qm PC ND D K sz ot hs (aZ x hx);have hw1:∀ x,IntKind.i64.wrap (1 + (cM sz x:Int))=((1 + cM sz x:Nat):Int):=fun x=>wrapN (a:=1) (by omega) (by have:=rQ hz x;omega);have hE:∀ a j z,ot.getD j 0=z->othE ot (a,some j)=if z=0 then 0 else bf (a + z):=fun a j z h=>by unfold othE;simp only [h]
 refine eG 87 [.tmp 4] func123 rfl ntmps123 rfl fun _ _ _ _=>?_;refine br (fun d5=>?_) (fun c5=>?_)
 ·have c5:ag=5:=sU d5;refine br (fun _=>?_) (fun h=>absurd h (by simp [c5]));obtain ⟨x,hx,_⟩:=cu (.inl c5);subst hx;rw [show othE ot (eO sz D K ⟨ag,aX,lo,hi,most,af,[x]⟩)=bf (1 + cM sz x) by unfold eO;rw [ai (.inl c5)];rfl];refine ⟨_,⟨by omega,rfl⟩,?_⟩;refine cP zQ (rR List.mem_cons_self) ?_;refine cP nz (ei (1 + cM sz x)) ?_ (gU (hw1 x));exact (rfl:_=_)
 have c5:¬ ag=5:=sU c5;refine br (fun d6=>?_) (fun c6=>?_)
 ·have c6:ag=6:=sU d6;obtain ⟨x,hx,_⟩:=cu (.inr c6);subst hx;rw [show othE ot (eO sz D K ⟨ag,aX,lo,hi,most,af,[x]⟩)=bf (1 + cM sz x) by unfold eO;rw [ai (.inr c6)];rfl];refine ⟨_,⟨by omega,rfl⟩,?_⟩;refine cP zQ (rR List.mem_cons_self) ?_;refine cP nz (ei (1 + cM sz x)) ?_ (gU (hw1 x));exact (rfl:_=_)
 have c6:¬ ag=6:=sU c6;refine br ?_ ?_<;>intro c7
 ·have c7:ag=7:=sU c7;obtain ⟨c,x,hc,hx,nM⟩:=h7 c7;have OJ:=OJ c7;rw [hc] at OJ;have hF:eO sz D K ⟨ag,aX,lo,hi,most,af,es⟩=(sumX sz c es 0 1,some x.to.toNat):=by simp [eO,c7,hc,hx]
  refine cP Si OJ ?_;refine lJ (fun e=>Z1 PC ND D K sz ot ⟨ag,aX,lo,hi,most,af,es⟩ (some c) (sumX sz c (es.take e) 0 1) e) es.length (au 1 rfl wA rfl rfl rfl wB) ?_;intro e he;have nK:=nd (sz:=sz) (c:=c) (es:=es.take e) (i:=0) (n:=1) (by omega);refine br ?_ ?_<;>intro hL
  ·have ap:e < es.length:=sV bH hL;obtain ⟨y,hy⟩:∃ x,es[e]? = some x:=⟨_,gE ap⟩;have nv:=rQ hz y;have eT:=tK (sz:=sz) (c:=c) hy;have hw:=wrapN (a:=sumX sz c (es.take e) 0 1) (b:=cM sz y) (by omega) (by omega);refine iX (aE hy) ?_;refine br ?_ ?_<;>intro g
   ·have g:¬ (e:Int)=c:=fun h=>by simp [oz,h] at g
    rw [ah g] at eT;refine cP zQ (rR (mG hy)) ?_;refine cP nz (ei (sumX sz c (es.take e) 0 1 + cM sz y)) ?_ (gU hw);exact rE ⟨_,by omega,e + 1,rfl,by omega,rfl⟩ (au 1 rfl (gF (aJ ap (by omega)) eT.symm) rfl rfl rfl (wB2 (aJ ap (by omega)) eT.symm))
   ·have g:(e:Int)=c:=Decidable.byContradiction fun h=>by simp [oz,h] at g
    rw [ai g] at eT;exact rE ⟨_,by omega,e + 1,rfl,by omega,rfl⟩ (au 1 rfl (gF (aJ ap (by omega)) eT.symm) rfl rfl rfl (wB2 (aJ ap (by omega)) eT.symm))
  ·have aQ:e=es.length:=sW bH hL;subst aQ;rw [List.take_length] at nK ⊢;obtain ⟨z,hz1,G8,LG,hz4⟩:=nJ (mG hx) nM;have hzE:=hE (sumX sz c es 0 1) _ _ LG;rw [hF,hzE];refine jD mo (by decide +kernel) ?_;refine ⟨_,⟨cH _,aE hx⟩,?_⟩;refine ⟨_,⟨G8,hz1⟩,?_⟩;refine br ?_ ?_<;>intro g
   ·have g:0 < z:=sU g;rw [ah (by omega)];refine cP nz (ei ((sumX sz c es 0 1) + z)) ?_ (by repeat' (first | exact rfl | exact trivial | exact Or.inr (Or.inl ⟨_,rfl⟩) | exact Or.inr ⟨_,rfl⟩ | exact Or.inl ⟨rfl,rfl⟩ | exact Or.inl rfl | refine Or.inr ⟨_,_,rfl,Nat.zero_le _,rfl,?_⟩ | refine ⟨_,_,rfl,?_,?_⟩ | refine ⟨_,rfl,?_⟩ | exact congrArg (fun z=>DV.v (.int .i64 z)) (wrapN (by omega) (by omega))| refine Or.inr (Or.inr (Or.inr ⟨_,_,rfl,?_⟩)) | exact Or.inl rfl | refine Or.inr ?_));exact (rfl:_=_)
   ·have g:z=0:=sU g;rw [ai g];exact (rfl:_=_)
 have c7:¬ ag=7:=sU c7;refine br ?_ ?_<;>intro c8
 ·have c8:ag=8:=sU c8;refine cP Mm F5 ?_
  cases ht:ly D es with
  | some c=>
   obtain ⟨x,hx,_⟩:=tI ht;rw [show eO sz D K ⟨ag,aX,lo,hi,most,af,es⟩=(bf (1 + cM sz x),none) by simp [eO,c8,ht,hx],show othE ot (bf (1 + cM sz x),none)=bf (1 + cM sz x) from rfl];refine ⟨_,⟨cH _,aE hx⟩,?_⟩;refine cP zQ (rR (mG hx)) ?_;refine cP nz (ei (1 + cM sz x)) ?_ (gU (hw1 x));exact (rfl:_=_)
  | none=>
   obtain ⟨c,x,hc,hx,nM⟩:=h8 c8 ht;rw [hc] at zn;have hF:eO sz D K ⟨ag,aX,lo,hi,most,af,es⟩=(1,some x.to.toNat):=by simp [eO,c8,ht,hc,hx]
   refine cP Iz zn ?_;obtain ⟨z,hz1,G8,LG,hz4⟩:=nJ (mG hx) nM;have hzE:=hE 1 _ _ LG;rw [hF,hzE];refine jD mo (by decide +kernel) ?_;refine ⟨_,⟨cH _,aE hx⟩,?_⟩;refine ⟨_,⟨G8,hz1⟩,?_⟩;refine br ?_ ?_<;>intro g
   ·have g:0 < z:=sU g;rw [ah (by omega)];refine cP nz (ei (1 + z)) ?_ (by repeat' (first | exact rfl | exact trivial | exact Or.inr (Or.inl ⟨_,rfl⟩) | exact Or.inr ⟨_,rfl⟩ | exact Or.inl ⟨rfl,rfl⟩ | exact Or.inl rfl | refine Or.inr ⟨_,_,rfl,Nat.zero_le _,rfl,?_⟩ | refine ⟨_,_,rfl,?_,?_⟩ | refine ⟨_,rfl,?_⟩ | exact congrArg (fun z=>DV.v (.int .i64 z)) (wrapN (a:=1) (by omega) (by omega))| refine Or.inr (Or.inr (Or.inr ⟨_,_,rfl,?_⟩)) | exact Or.inl rfl | refine Or.inr ?_));exact (rfl:_=_)
   ·have g:z=0:=sU g;rw [ai g];exact (rfl:_=_)
 ·have c8:¬ ag=8:=sU c8;refine (congrArg (fun z=>DV.v (.int .i64 z)) ?_:_=_);simp [eO,c5,c6,c7,c8,othE]
end
end Go.Proofs.YtadhpeooehkklaaGreat
namespace Go.Proofs.YtadhpeooehkklaaGreat
namespace Dv
open Go Go.RowKit
section
variable {P:Program} {ops:Array Oper} {C:World->Prop} {Q:Act->World->Prop} {W:Nat->Bool} {x:Nat}
def runX (P:Program) (ops:Array Oper) (W:Nat->Bool) (C:World->Prop) (Q:Act->World->Prop) (x:Nat):List Nat->Act->World->Prop
 | [],a,w=>runT P ops W C Q [x] a w
 | i :: r,a,w=>
  match ops[i]? with
  | none=>False
  | some o=>
   if ordB ops ops.size x i=true then runT P ops W C Q (x :: i :: r) a w
   else if gq o.op=true then runT P ops W C Q (x :: i :: r) a w/\dP P ops o a w fun a' w'=>(W i=false->C w->C w')/\runX P ops W C Q x r a' w'
   else ∃ v,Yl P ops C o v a/\(j7 o.op=true->C w)/\runX P ops W C Q x r (a.put o.dst v) w
theorem Ff {xo:Oper} (dy:∀ (j:Nat) (o:Oper) cs b,ops[j]? = some o->o.op ≠ .select cs b) (hx:ops[x]? = some xo) (VJ:gq xo.op=true) (Z2:∀ (j:Nat) (o:Oper),ops[j]? = some o->j7 o.op=true->W x=false) :
  ∀ (rem:List Nat) (a:Act) (w:World),runX P ops W C Q x rem a w->(∀ j∈rem,∀ o,ops[j]? = some o->gq o.op=false->ordB ops ops.size x j=false->fK ops W x j=true) ->
   dP P ops xo a w (fun a' w'=>(W x=false->C w->C w')/\runT P ops W C Q rem a' w')
 | [],a,w,hr,_=>by
  simp only [runX,runT,hx,VJ,if_true] at hr;exact hr
 | i :: r,a,w,hr,tZ=>by
  have HU:runT P ops W C Q (x :: i :: r) a w->dP P ops xo a w (fun a' w'=>(W x=false->C w->C w')/\runT P ops W C Q (i :: r) a' w'):=fun h=>by
   unfold runT at h;rw [hx] at h;simp only [VJ,if_true] at h;exact h
  cases ho:ops[i]? with
  | none=>simp only [runX,ho] at hr
  | some o=>
   simp only [runX,ho] at hr;by_cases hd:ordB ops ops.size x i=true
   ·rw [ai hd] at hr;exact HU hr
   ·rw [ah hd] at hr;by_cases he:gq o.op=true
    ·rw [ai he] at hr;exact HU hr.1
    ·rw [ah he] at hr;obtain ⟨v,hy,hc,iw⟩:=hr;have BH:ordB ops ops.size x i=false:=sU hd;have pT:gq o.op=false:=sU he;obtain ⟨Gk,Lu,_,_⟩:=eA (tZ i (by simp) o ho pT BH) hx ho;have yL:=fun cs b=>dy x xo cs b hx;have zK:=fun cs b=>dy i o cs b ho;have ih:=Ff dy hx VJ Z2 r (a.put o.dst v) w iw (fun j hj=>tZ j (de _ hj));refine cI ?_ (ji ((ki Lu yL).1 ih));rintro a' w' ⟨⟨oM,hr2⟩,u,rfl⟩;refine ⟨oM,?_⟩;simp only [runT,ho];rw [ah he];exact ⟨v,(Yl.same (u:=u) Gk zK).2 hy,fun hL=>oM (Z2 i o ho hL) (hc hL),hr2⟩
theorem tM {π:Nat->Nat} (dy:∀ (j:Nat) (o:Oper) cs b,ops[j]? = some o->o.op ≠ .select cs b) (sb:∀ j i x y,π j < π i->ops[i]? = some x->ops[j]? = some y->j7 x.op=true->W j=false)
  {i:Nat} {o:Oper} (hi:ops[i]? = some o) (Ro:∀ z,ops[x]? = some z->j7 z.op=false) (Z3:x≠i) (hnd:ordB ops ops.size x i=false) (yL:gq o.op=false->fK ops W x i=true) :
  ∀ (rem:List Nat) (a:Act) (w:World),(za ops (x :: rem)->C w)->runX P ops W C Q x rem a w->i∈rem->(∀ j∈rem,j≠i->π j < π i->fK ops W j i=true)->(x :: rem).Pairwise (fun a b=>π a < π b) ->
   (gq o.op=true->∀ j∈rem,π j < π i->ordB ops ops.size x j=false) ->
   dP P ops o a w (fun a' w'=>(W i=false->C w->C w')/\runX P ops W C Q x (rem.erase i) a' w')
 | [],_,_,_,_,hm,_,_,_=>by cases hm
 | h :: rem,a,w,hC,hr,hm,tZ,hp,lU=>by
  by_cases qW:h=i
  ·subst qW;rw [List.erase_cons_head];simp only [runX,hi] at hr;rw [ah (by simp [hnd])] at hr;split at hr
   ·exact hr.2
   ·obtain ⟨v,hy,hc,iw⟩:=hr;exact ig hy hc ⟨fun _ h=>h,iw⟩
  ·have lQ:i∈rem:=by
    rcases bI hm with e | e
    ·exact (qW e.symm).elim
    ·exact e
   have sL:=List.pairwise_cons.1 hp;have DD:=List.pairwise_cons.1 sL.2;have ap:π h < π i:=DD.1 i lQ;have Wz:(x :: rem).Pairwise (fun a b=>π a < π b):=List.pairwise_cons.2 ⟨fun y hy=>sL.1 y (de _ hy),DD.2⟩
   have VK:gq o.op=false->∀ j∈x :: h :: rem,j≠i->π j < π i->fK ops W j i=true:=fun he j hj bp hl=>by
    rcases bI hj with rfl | hj
    ·exact yL he
    ·exact tZ j hj bp hl
   have Rp:i∈x :: h :: rem:=de _ hm
   have Z4:(x :: h :: rem).erase i=x :: h :: rem.erase i:=by
    rw [List.erase_cons_tail (sU Z3),List.erase_cons_tail (sU qW)]
   rw [List.erase_cons_tail (sU qW)];have L8:∀ j∈rem,j≠i->π j < π i->fK ops W j i=true:=fun j hj=>tZ j (de _ hj);have Z5:gq o.op=true->∀ j∈rem,π j < π i->ordB ops ops.size x j=false:=fun he j hj=>lU he j (de _ hj)
   have hCt:za ops (x :: rem)->C w:=fun hl=>hC (by
    obtain ⟨l,z,JV,hz,hL⟩:=hl;rcases bI JV with rfl | JV
    ·exact ⟨l,z,by simp,hz,hL⟩
    ·exact ⟨l,z,by simp [JV],hz,hL⟩)
   cases hh:ops[h]? with
   | none=>simp only [runX,hh] at hr
   | some y=>
    obtain ⟨Gk,Lu,hEE,W3⟩:=eA (tZ h (by simp) qW ap) hh hi;have WA:=fun cs b=>dy h y cs b hh;have zK:=fun cs b=>dy i o cs b hi;simp only [runX,hh] at hr;by_cases hd:ordB ops ops.size x h=true
    ·rw [ai hd] at hr
     have he:gq o.op=false:=by
      cases he:gq o.op
      ·rfl
      ·have:=lU he h (by simp) ap;rw [hd] at this;cases this
     have aW:=gH dy sb hi (x :: h :: rem) a w hC hr Rp (VK he) hp;refine cI ?_ aW;rintro a' w' ⟨oM,hr2⟩;refine ⟨oM,?_⟩;simp only [runX,hh];rw [ai hd,<- Z4];exact hr2
    ·rw [ah hd] at hr;by_cases hE:gq y.op=true
     ·rw [ai hE] at hr;obtain ⟨hl,hr⟩:=hr
      have he:gq o.op=false:=by
       cases he:gq o.op
       ·rfl
       ·exact (hEE ⟨hE,he⟩).elim
      obtain ⟨v,Is⟩:=kE (π:=π) dy hi he (x :: h :: rem) a w hl Rp (VK he) hp;have Ub:j7 o.op=true->C w:=fun hL=>hC ⟨i,o,Rp,hi,hL⟩;have aW:=gH dy sb hi (x :: h :: rem) a w hC hl Rp (VK he) hp;have jU:=ij Is Ub aW;refine ig Is Ub ⟨fun _ h=>h,?_⟩;simp only [runX,hh];rw [ah hd,ai hE];refine ⟨by rw [<- Z4];exact jU.2,?_⟩;refine (ki Lu WA).2 ?_;refine cI ?_ (ji hr);rintro a' w' ⟨⟨oM,iw⟩,u,rfl⟩;refine ⟨oM,?_⟩
      have Uc:za ops (x :: rem)->C w':=by
       intro uP;have QJ:=uP;obtain ⟨l,z,JV,hz,hL⟩:=uP;refine oM ?_ (hCt QJ);rcases bI JV with e | JV
       ·rw [e] at hz;rw [Ro z hz] at hL;cases hL
       ·exact sb h l z y (DD.1 l JV) hz hh hL
      have ih:=tM dy sb hi Ro Z3 hnd yL rem _ w' Uc iw lQ L8 Wz Z5;have fA:=(Yl.same (u:=u) Gk zK).2 Is;exact (ij fA (fun hL=>Uc ⟨i,o,de _ lQ,hi,hL⟩) ih).2
     ·rw [ah hE] at hr;obtain ⟨v,Is,hc,iw⟩:=hr;have ih:=tM dy sb hi Ro Z3 hnd yL rem (a.put y.dst v) w hCt iw lQ L8 Wz Z5;refine cI ?_ (ji ((ki Gk zK).1 ih));rintro a' w' ⟨⟨oM,hr2⟩,u,rfl⟩;refine ⟨oM,?_⟩;simp only [runX,hh];rw [ah hd,ah hE];refine ⟨v,(Yl.same (u:=u) Lu WA).2 Is,fun hL=>?_,hr2⟩
      have W4:W i=false:=by
       cases hw:W i
       ·rfl
       ·exact (W3 ⟨hL,hw⟩).elim
      exact oM W4 (hc hL)
def exX (ops:Array Oper) (x:Nat) (j i:Nat):Bool:=Nat.beq j x && (match ops[i]? with | some o=>gq o.op | none=>false)
def VL (ops:Array Oper) (x:Nat) (π:Nat->Nat):Bool:=
 (List.range ops.size).all fun i=>
  match ops[i]? with
  | none=>true
  | some o=>!gq o.op || Nat.beq i x || ordB ops ops.size x i || (List.range ops.size).all fun j=>Nat.beq j x || !Nat.blt (π j) (π i) || !ordB ops ops.size x j
theorem OL {π:Nat->Nat} {xo:Oper} {Q':Exit->Act->World->Prop} (hx:ops[x]? = some xo) (VJ:gq xo.op=true) (Ro:j7 xo.op=false) (yU:∀ j,j≠x->π x < π j) (R4:qY ops W π=true) (Ud:uQ ops W π (exX ops x)=true) (hD:VL ops x π=true)
  (hQ:∀ a w,Q a w->Q' .normal a w):∀ (iQ:Nat) (listed:Array Bool) (rem:List Nat) (a:Act) (w:World),
  listed.size=ops.size->Dn ops listed->listed.getD x true=false->(∀ i,i∈rem↔i≠x/\i < ops.size/\listed.getD i true=false)->(x :: rem).Pairwise (fun a b=>π a < π b)->rem.length + 1<=iQ->(za ops (x :: rem)->C w) ->
   runX P ops W C Q x rem a w->wpAny P .any ops Q' iQ listed a w:=by
 have dy:=q4 R4;have sb:=qZ R4;have Dz:=sG R4;have hcS':=Ud;have qA:=(Array.getElem?_eq_some_iff.1 hx).1
 have Z2:∀ (j:Nat) (o:Oper),ops[j]? = some o->j7 o.op=true->W x=false:=fun j o hj hL=>by
  refine sb x j o xo (yU j ?_) hj hx hL;rintro rfl;rw [hx] at hj;simp only [oI] at hj;rw [<- hj,Ro] at hL;cases hL
 simp only [uQ,List.all_eq_true,List.mem_range,Bool.or_eq_true,Bool.not_eq_true'] at Ud
 have yL:∀ (i:Nat) (o:Oper),ops[i]? = some o->i≠x->gq o.op=false->ordB ops ops.size x i=false->fK ops W x i=true:=fun i o ho bp he hd=>by
  rcases Ud i (Array.getElem?_eq_some_iff.1 ho).1 x qA with ((h1 | h1) | h1) | h1
  ·have:¬ Nat.blt (π x) (π i)=true:=by simp [h1]
   have:=yU i bp;simp at *;omega
  ·simp [exX,ho,he] at h1
  ·rw [hd] at h1;cases h1
  ·exact h1
 intro iQ
 induction iQ with
 | zero=>intro listed rem a w _ _ _ _ _ hlen;omega
 | succ iQ ih=>
  intro listed rem a w bQ Px hxu iy hp hlen hC hr;have sL:=List.pairwise_cons.1 hp;have hnd:rem.Nodup:=nN sL.2;refine ⟨fun h0=>?_,fun i hi=>?_⟩
  ·have:x∈Region.ready .any ops listed:=by
    refine mem_ready.2 ⟨hxu,_,hx,fun e he hb=>?_⟩;obtain ⟨ap,la⟩:=Dz x _ hx e he hb;cases hg:listed.getD e.on false
    ·have bp:e.on≠x:=fun h=>by rw [h] at ap;omega
     have:=yU e.on bp;omega
    ·rfl
   rw [h0] at this;cases this
  ·obtain ⟨Gl,o,ho,fG⟩:=mem_ready.1 hi;have eQ:=(Array.getElem?_eq_some_iff.1 ho).1
   have JX:Dn ops (listed.setIfInBounds i true):=by
    intro k z hz hk e he hb;by_cases kA:k=i
    ·subst kA;rw [ho] at hz;simp only [oI] at hz;subst hz;exact getD_set_true (fG e he hb)
    ·rw [getD_set_ne true (Ne.symm kA)] at hk;exact getD_set_true (Px k z hz hk e he hb)
   refine sK ho ?_;by_cases zM:i=x
   ·subst zM;rw [hx] at ho;simp only [oI] at ho;subst ho;have aW:=Ff dy hx VJ Z2 rem a w hr (fun j hj o ho he hd=>yL j o ho ((iy j).1 hj).1 he hd);refine cI ?_ aW;rintro a' w' ⟨oM,iw⟩;refine mF (C:=C) (exX ops i) R4 hcS' hQ iQ _ rem a' w' (by simp [bQ]) JX ?_ sL.2 (by omega) ?_ ?_ iw
    ·intro k;rw [iy k];by_cases kA:k=i
     ·subst kA;simp [bQ,eQ]
     ·rw [getD_set_ne true (Ne.symm kA)];simp [kA]
    ·intro j hj k _;have:=((iy j).1 hj).1;simp [exX,this]
    ·rintro ⟨l,z,hl,hz,hL⟩;exact oM (Z2 l z hz hL) (hC ⟨l,z,de _ hl,hz,hL⟩)
   ·have ml:i∈rem:=(iy i).2 ⟨zM,eQ,Gl⟩
    have fv:∀ j,j < ops.size->listed.getD j true=false->ordB ops ops.size j i=false:=by
     intro j hj hu;cases h1:ordB ops ops.size j i
     ·rfl
     ·have h2:=lj Px _ _ _ _ ho fG h1;have:j < listed.size:=by rw [bQ];exact hj
      simp [this] at h2 hu;rw [h2] at hu;cases hu
    have VM:=fv x qA hxu
    have tZ:∀ j∈rem,j≠i->π j < π i->fK ops W j i=true:=by
     intro j hj _ ap;have gw:=(iy j).1 hj;rcases Ud i eQ j gw.2.1 with ((h1 | h1) | h1) | h1
     ·have:¬ Nat.blt (π j) (π i)=true:=by simp [h1]
      simp at this;omega
     ·simp [exX,gw.1] at h1
     ·rw [fv j gw.2.1 gw.2.2] at h1;cases h1
     ·exact h1
    have lU:gq o.op=true->∀ j∈rem,π j < π i->ordB ops ops.size x j=false:=by
     intro he j hj ap;simp only [VL,List.all_eq_true,List.mem_range] at hD;have h1:=hD i eQ;rw [ho] at h1;simp only [he,VM,Bool.not_true,Bool.false_or,Bool.or_false,Bool.or_eq_true,List.all_eq_true,List.mem_range,Bool.not_eq_true',Nat.beq_eq] at h1;rcases h1 with h1 | h1
     ·exact (zM h1).elim
     ·have gw:=(iy j).1 hj;rcases h1 j gw.2.1 with (h2 | h2) | h2
      ·exact (gw.1 h2).elim
      ·have:¬ Nat.blt (π j) (π i)=true:=by simp [h2]
       simp at this;omega
      ·exact h2
    have aW:=tM (π:=π) dy sb ho (fun z hz=>by rw [hx] at hz;simp only [oI] at hz;rw [<- hz];exact Ro) (Ne.symm zM) VM (fun he=>yL i o ho zM he VM) rem a w hC hr ml tZ hp lU;refine cI ?_ aW;rintro a' w' ⟨oM,iw⟩;have Z3:=getD_set_ne (listed:=listed) true zM;refine ih (listed.setIfInBounds i true) (rem.erase i) a' w' (by simp [bQ]) JX (by rw [Z3];exact hxu) ?_ (List.pairwise_cons.2 ⟨fun y hy=>sL.1 y (List.mem_of_mem_erase hy),sL.2.sublist List.erase_sublist⟩) (by rw [List.length_erase_of_mem ml];have:=List.length_pos_of_mem ml;omega) ?_ iw
    ·intro k;rw [List.Nodup.mem_erase_iff hnd];by_cases kA:k=i
     ·subst kA;simp [bQ,eQ]
     ·rw [getD_set_ne true (Ne.symm kA)];simp only [ne_eq,kA,not_false_eq_true,true_and];exact iy k
    ·rintro ⟨l,z,hl,hz,hL⟩
     have hlx:l≠x:=by
      rintro rfl;rw [hx] at hz;simp only [oI] at hz;rw [<- hz,Ro] at hL;cases hL
     have hl:l∈rem.erase i:=by
      rcases bI hl with h | h
      ·exact (hlx h).elim
      ·exact h
     have uP:=List.mem_of_mem_erase hl;have bp:l≠i:=((List.Nodup.mem_erase_iff hnd).1 hl).1;have Uf:=hC ⟨l,z,de _ uP,hz,hL⟩;refine oM ?_ Uf;rcases we sL.2 ml uP bp.symm with h1 | h1
     ·exact sb i l z o h1 hz ho hL
     ·have:=tZ l uP bp h1;obtain ⟨_,_,_,h4⟩:=eA this hz ho;cases hw:W i
      ·rfl
      ·exact (h4 ⟨hL,hw⟩).elim
theorem A5 {π:Nat->Nat} (dy:∀ (j:Nat) (o:Oper) cs b,ops[j]? = some o->o.op ≠ .select cs b) (sb:∀ j i x y,π j < π i->ops[i]? = some x->ops[j]? = some y->j7 x.op=true->W j=false)
  (yL:∀ (i:Nat) (o:Oper),ops[i]? = some o->i≠x->gq o.op=false->ordB ops ops.size x i=false->fK ops W x i=true) :
  ∀ (l:List Nat) (a:Act) (w:World),(za ops (x :: l)->C w)->runT P ops W C Q (x :: l) a w->(∀ i∈l,i≠x/\∃ o,ops[i]? = some o/\(ordB ops ops.size x i=true∨gq o.op=false))->(x :: l).Pairwise (fun a b=>π a < π b)->runX P ops W C Q x l a w
 | [],a,w,_,h,_,_=>by simpa only [runX] using h
 | i :: r,a,w,hC,h,hl,hp=>by
  obtain ⟨bp,o,ho,P5⟩:=hl i (by simp);simp only [runX,ho];by_cases hd:ordB ops ops.size x i=true
  ·rw [ai hd];exact h
  ·rw [ah hd]
   have he:gq o.op=false:=by
    rcases P5 with h | h
    ·exact (hd h).elim
    ·exact h
   rw [ah (by simp [he])];have BH:ordB ops ops.size x i=false:=sU hd;have sL:=List.pairwise_cons.1 hp;have DD:=List.pairwise_cons.1 sL.2
   have tZ:∀ j∈x :: i :: r,j≠i->π j < π i->fK ops W j i=true:=fun j hj Ge ap=>by
    rcases bI hj with rfl | hj
    ·exact yL i o ho bp he BH
    ·rcases bI hj with rfl | hj
     ·exact (Ge rfl).elim
     ·have:=DD.1 j hj;omega
   have Ub:j7 o.op=true->C w:=fun hL=>hC ⟨i,o,by simp,ho,hL⟩;obtain ⟨v,hy⟩:=kE (π:=π) dy ho he _ a w h (by simp) tZ hp;have aW:=gH dy sb ho _ a w hC h (by simp) tZ hp;have hk:=(ij hy Ub aW).2;rw [List.erase_cons_tail (by simpa using Ne.symm bp),List.erase_cons_head] at hk;refine ⟨v,hy,Ub,A5 dy sb yL r _ w (fun hl=>?_) hk (fun j hj=>hl j (de _ hj)) (List.pairwise_cons.2 ⟨fun y hy=>sL.1 y (de _ hy),DD.2⟩)⟩;obtain ⟨l,z,JV,hz,hL⟩:=hl;refine hC ⟨l,z,?_,hz,hL⟩;rcases bI JV with h | h
   ·simp [h]
   ·simp [h]
end
theorem yv {ops:Array Oper}:∀ {l:List Nat},(∀ i∈l,i < ops.size)->(selL ops.toList l).map (·.1)=l
 | [],_=>rfl
 | i :: r,h=>by
  have hi:ops.toList[i]? = some (ops[i]'(h i (by simp))):=by
   rw [gE (by simpa using h i (by simp))];simp
  unfold selL;rw [hi];simp only [List.map_cons];rw [yv fun j hj=>h j (de _ hj)]
def goX (X:Ctx) (D:Dr) (x:Nat) (tail:List Nat):List Nat->Bool->List (Nat × Sl)->St->Prop
 | [],c,s0,st=>
  match c with
  | true=>goD X D 3000 true (selL D.ops.toList (x :: tail)) s0 st
  | false=>False
 | i :: r,c,s0,st=>
  match D.ops.toList[i]? with
  | none=>False
  | some o=>
   match gq o.op with
   | true=>goD X D 3000 c (selL D.ops.toList (x :: i :: (r ++ tail))) s0 st/\goD X ⟨D.ops,D.W,D.k,D.iC,some (goX X D x tail r)⟩ 3000 c [(i,o)] s0 st
   | false=>goD X ⟨D.ops,D.W,D.k,D.iC,some (goX X D x tail r)⟩ 3000 c [(i,o)] s0 st
def Z6 (ops:Array Oper) (W:Nat->Bool) (x:Nat) (pre tail:List Nat):Bool:=
 Gt ops (x :: (pre ++ tail)) && qY ops W (plc (x :: (pre ++ tail))) && uQ ops W (plc (x :: (pre ++ tail))) (exX ops x) && VL ops x (plc (x :: (pre ++ tail))) &&
  (match ops[x]? with | some o=>gq o.op && !j7 o.op | none=>false) && pre.all (fun i=>!ordB ops ops.size x i) && tail.all (fun i=>match ops[i]? with | some o=>ordB ops ops.size x i || !gq o.op | none=>false)
section
variable {X:Ctx} {D:Dw} {x:Nat} {tail:List Nat} {π:Nat->Nat}
theorem A6 (hD:sH D.E0 D.d.iC.bx D.wr) (dy:∀ (j:Nat) (o:Oper) cs b,D.d.ops[j]? = some o->o.op ≠ .select cs b) (sb:∀ j i x y,π j < π i->D.d.ops[i]? = some x->D.d.ops[j]? = some y->j7 x.op=true->D.d.W j=false)
  (yL:∀ (i:Nat) (o:Oper),D.d.ops[i]? = some o->i≠x->gq o.op=false->ordB D.d.ops D.d.ops.size x i=false->fK D.d.ops D.d.W x i=true)
  (gZ:∀ i∈tail,i≠x/\∃ o,D.d.ops[i]? = some o/\(ordB D.d.ops D.d.ops.size x i=true∨gq o.op=false)) (qA:x < D.d.ops.size):∀ (pre:List Nat),(∀ i∈pre,i < D.d.ops.size/\ordB D.d.ops D.d.ops.size x i=false)->(x :: (pre ++ tail)).Pairwise (fun a b=>π a < π b) ->
  ∀ c s0 st,goX X D.d x tail pre c s0 st->∀ E a w,fL X D c E s0 st a w->runX X.P D.d.ops D.d.W D.C (D.Q X) x (pre ++ tail) a w
 | [],_,hp,c,s0,st,hg,E,a,w,h=>by
  have Z7:∀ i∈x :: tail,i < D.d.ops.size:=fun i hi=>by
   rcases bI hi with rfl | hi
   ·exact qA
   ·obtain ⟨_,o,ho,_⟩:=gZ i hi;exact (Array.getElem?_eq_some_iff.1 ho).1
  simp only [goX] at hg;split at hg
  ·have h1:=eH hD 3000 true _ _ _ hg (fun p hp=>by simpa using wm hp) E a w h;rw [yv Z7] at h1;exact A5 dy sb yL tail a w (fun _=>h.cc rfl) h1 gZ hp
  ·exact hg.elim
 | i :: r,OM,hp,c,s0,st,hg,E,a,w,h=>by
  obtain ⟨YA,hnd⟩:=OM i (by simp);have ho:D.d.ops[i]? = some D.d.ops[i]:=Array.getElem?_eq_getElem YA;have jQ:D.d.ops.toList[i]? = some D.d.ops[i]:=sU ho;have sL:=List.pairwise_cons.1 hp;have DD:=List.pairwise_cons.1 sL.2
  have fG:∀ j∈x :: i :: (r ++ tail),j < D.d.ops.size:=fun j hj=>by
   rcases bI hj with rfl | hj
   ·exact qA
   ·rcases bI hj with rfl | hj
    ·exact YA
    ·rcases List.mem_append.1 hj with hj | hj
     ·exact (OM j (by simp [hj])).1
     ·obtain ⟨_,o,ho,_⟩:=gZ j hj;exact (Array.getElem?_eq_some_iff.1 ho).1
  have ih:=A6 hD dy sb yL gZ qA r (fun j hj=>OM j (by simp [hj])) (List.pairwise_cons.2 ⟨fun y hy=>sL.1 y (de _ hy),DD.2⟩);generalize D.d.ops[i]=o at ho jQ
  have cu:∀ c s0 st,goD X ⟨D.d.ops,D.d.W,D.d.k,D.d.iC,some (goX X D.d x tail r)⟩ 3000 c [(i,o)] s0 st->fL X D c E s0 st a w->runT X.P D.d.ops D.d.W D.C (fun a w=>runX X.P D.d.ops D.d.W D.C (D.Q X) x (r ++ tail) a w) [i] a w:=fun c s0 st hg h=>by
   have h1:=eH (D:=⟨⟨D.d.ops,D.d.W,D.d.k,D.d.iC,some (goX X D.d x tail r)⟩,D.E0,D.wr⟩) hD 3000 c [(i,o)] s0 st hg (fun p hp=>by
    rw [List.mem_singleton] at hp;rw [hp]
    exact ho) E a w ⟨h.rel,h.x,h.β,h.t0,h.cc⟩
   refine lT ?_ h1;rintro a w ⟨c,E,s0,st,h2,h3⟩;exact ih c s0 st h3 E a w ⟨h2.rel,h2.x,h2.β,h2.t0,h2.cc⟩
  simp only [goX,jQ] at hg;simp only [List.cons_append,runX,ho];rw [ah (by simp [hnd])];split at hg
  ·rename_i hE;obtain ⟨h1,h2⟩:=hg;rw [ai hE];have h3:=eH hD 3000 c _ _ _ h1 (fun p hp=>by simpa using wm hp) E a w h;rw [yv fG] at h3;refine ⟨h3,?_⟩;have h4:=cu c s0 st h2 h;simp only [runT,ho,hE,if_true] at h4;exact h4
  ·rename_i hE;rw [ah (by simp [hE])];have h4:=cu c s0 st hg h;simp only [runT,ho,hE,Bool.false_eq_true,if_false] at h4;exact h4
theorem ON (x:Nat) (l:List Nat):plc (x :: l) x=0:=by simp [plc]
theorem Rq {x j:Nat} (l:List Nat) (h:j≠x):0 < plc (x :: l) j:=by
 have:Nat.beq x j=false:=by
  cases hb:Nat.beq x j
  ·rfl
  ·exact (h (Nat.eq_of_beq_eq_true hb).symm).elim
 simp [plc,this]
theorem Z8 {s S:St} (h:cY s S:=by refine ⟨rfl,rfl,?_⟩;repeat' (first | exact trivial | refine ⟨rfl,?_⟩)):s=S∨cY s S:=.inr h
theorem Rr {id:Nat} {ops:Array Oper} {k:List It} {st:St} (W:Nat->Bool) (x:Nat) (pre tail:List Nat) (hm:X.P.follows .mixedOrders=true) (hc:Z6 ops W x pre tail=true) (S:St)
  (h:goX X ⟨ops,W,[.rZ fun s=>s=S∨cY s S],st,none⟩ x tail pre true st.sl st) (hk:go X 4000 k S):lO X id ops k st:=by
 intro E a w hr;have iw:=jF hr;simp only [Z6,aP] at hc;obtain ⟨⟨⟨⟨⟨⟨hL,hO⟩,hS⟩,hDD⟩,hX⟩,OM⟩,yw⟩:=hc
 cases tU:ops[x]? with
 | none=>rw [tU] at hX;cases hX
 | some xo=>
 rw [tU] at hX;simp only [aP,Bool.not_eq_true'] at hX;obtain ⟨VJ,Ro⟩:=hX;simp only [Gt,aP,List.all_eq_true,Nat.blt_eq,Nat.ble_eq,beq_iff_eq,List.mem_range] at hL;obtain ⟨⟨⟨⟨_,R6⟩,Wg⟩,hlen⟩,h1d⟩:=hL;have hp:=q7 h1d;have sL:=List.pairwise_cons.1 hp;have dy:=q4 hO;have sb:=qZ hO
 have yU:∀ j,j≠x->plc (x :: (pre ++ tail)) x < plc (x :: (pre ++ tail)) j:=fun j hj=>by
  rw [ON];exact Rq _ hj
 have qA:=(Array.getElem?_eq_some_iff.1 tU).1;have hS':=hS;simp only [uQ,List.all_eq_true,List.mem_range,Bool.or_eq_true,Bool.not_eq_true'] at hS'
 have yL:∀ (i:Nat) (o:Oper),ops[i]? = some o->i≠x->gq o.op=false->ordB ops ops.size x i=false->fK ops W x i=true:=fun i o ho bp he hd=>by
  rcases hS' i (Array.getElem?_eq_some_iff.1 ho).1 x qA with ((h1 | h1) | h1) | h1
  ·have:¬ Nat.blt (plc (x :: (pre ++ tail)) x) (plc (x :: (pre ++ tail)) i)=true:=by simp [h1]
   have:=yU i bp;simp at *;omega
  ·simp [exX,ho,he] at h1
  ·rw [hd] at h1;cases h1
  ·exact h1
 have bp:∀ i∈pre ++ tail,i≠x:=fun i hi e=>by
  have:=sL.1 i hi;rw [e] at this;omega
 have hs:=kG iw (ops:=ops) (W:=W) (k:=[.rZ fun s=>s=S∨cY s S])
 have cv:=A6 (D:=⟨⟨ops,W,[.rZ fun s=>s=S∨cY s S],st,none⟩,E,w.drew⟩) iw.env.em dy sb yL (fun i hi=>by
  refine ⟨bp i (List.mem_append_right _ hi),?_⟩;have:=List.all_eq_true.1 yw i hi
  cases ho:ops[i]? with
  | none=>rw [ho] at this;cases this
  | some o=>
   rw [ho] at this;simp only [Bool.or_eq_true,Bool.not_eq_true'] at this;exact ⟨o,rfl,this⟩) qA pre (fun i hi=>by
  refine ⟨Wg i (by simp [hi]),?_⟩;have:=List.all_eq_true.1 OM i hi
  simpa using this) hp true st.sl st h E a w.drew hs
 refine wp_region_any hm ?_;refine OL (C:=CC E st.bx w.drew) (Q:=kq X [.rZ fun s=>s=S∨cY s S] .normal) (π:=plc (x :: (pre ++ tail))) tU VJ Ro yU hO hS hDD (fun a w hq=>?_) ops.size (Array.replicate ops.size false) (pre ++ tail) a _ (by simp) ?_ (by simp [qA]) ?_ hp ?_ (fun _=>hs.cc rfl) cv
 ·obtain ⟨qC,E1,ch,hJ⟩:=hq;rcases hJ with rfl | hJ
  ·exact go_sound 4000 _ _ hk E1 a w ch
  ·exact go_sound 4000 _ _ hk E1 a w (nW ch hJ)
 ·intro i o ho hl;have:i < ops.size:=(Array.getElem?_eq_some_iff.1 ho).1;simp [this] at hl
 ·intro i;constructor
  ·intro hi;have:=Wg i (by simp [List.mem_append.1 hi]);exact ⟨bp i hi,this,by simp [this]⟩
  ·rintro ⟨h1,h2,_⟩;have:=R6 i h2;have h4:i=x∨i∈pre ++ tail:=sU this;exact h4.resolve_left h1
 ·simp only [List.length_cons] at hlen;exact hlen
end
end Dv
end Go.Proofs.YtadhpeooehkklaaGreat
