/- Part 6 of the proof: tree's leaf, kids, Fits; tree.Fits; the document's To, Fits; Values as they are written: plain; tree.write, Raw; Paths: data, Step compared with itself; ref09.Begins, Same on the same path; ref25.Step; What is read of steps, and of steps with a value; How a list that came in is read; The least depths of the values of a plan's nodes: plain; Which nodes have several values: plain; How many unlike values nodes have: plain, as the document counts; The program's nodes, least depths; The document's least depths; fine; the chapter's example; The program's Depths; The law of least depths: fine, the example, the call returns true; The program's several, Several; The document's count, Many; the law of several values: the call returns true; The document's Many; the law of several values: the call returns true; First and second values: tags, sizes: plain; Regions that draw their order and only read: run with one state; Sample: the program's tags and sizes; Sample: the program's turn, part, first, changed; First and second values: the tables, the values: plain; Sample: the program's first, changed, second; Sample: the program's second; A region that draws its order, in which a new object may come at any time among calls: its run with the object made at each of these times serves every order. No condition. -/
import Derived.Test.YtadhpeooehkklaaGreatMg2
import Derived.Test.YtadhpeooehkklaaGreatMg3
import Derived.Test.YtadhpeooehkklaaGreatMg4
import Derived.Test.YtadhpeooehkklaaGreatMg5
set_option linter.all false
set_option maxRecDepth 100000
namespace Go.Proofs.YtadhpeooehkklaaGreat
open Go Go.RowKit Dv Go.Proofs.Tryz
def ue (l:List Int):List (List DV):=l.map fun z=>[DV.v (.int .i64 z)]
theorem mL (l:List Int):(ue l).length=l.length:=by simp [ue]
theorem I2 {l:List Int} {i:Nat} {z:Int} (h:l[i]? = some z):(ue l)[i]? = some [DV.v (.int .i64 z)]:=by simp [ue,h]
theorem xT (l:List Int) (z:Int):ue l ++ [[DV.v (.int .i64 z)]]=ue (l ++ [z]):=by simp [ue]
theorem td:(⟨#[]⟩:ByteArray)=av:=rfl
theorem KC (n:Nd) (v:Val):aQ prog 53 [.agg (gv n),.agg (dVal v)] (.v (.bool (Aw n v))):=by
 have hbl:=ch n.af;obtain ⟨ag,aS,lo,hi,most,af,es⟩:=n;obtain ⟨q,z,s,ks⟩:=v;have bA:=bQ ks;simp only at hbl
 have hF:Aw ⟨ag,aS,lo,hi,most,af,es⟩ (.mk q z s ks)=if 0 < ks.length∨(q≠3/\s≠av)∨(q=3/\z≠0) then false
  else if ag=1 then decide (q=1) && (decide (z=0) || decide (z=1))
  else if ag=2 then decide (q=2) && decide (lo<=z) && decide (z<=hi)
  else if ag=3 then decide (q=3) && decide ((s.size:Int)<=most)
  else decide (q=4) && decide (0<=z) && decide (z < af.length):=rfl
 have hc:∀ b:Bool,b=pickB (pickB (decide (0 < ((dVals ks).length:Int))) true (pickB (!decide (q=3)) (!decide (s=⟨#[]⟩)) false)) true (pickB (decide (q=3)) (!decide (z=0)) false)->b=decide (0 < ks.length∨(q≠3/\s≠av)∨(q=3/\z≠0)):=fun b h=>by
  rw [h,bA,td,Bool.eq_iff_iff];simp [au,aq,or_assoc]
 rw [hF];refine eG 94 [.tmp 4] func53 rfl ntmps53 rfl fun _ _ _ _=>?_;refine br ?_ ?_<;>intro c
 ·have c:=of_decide_eq_true ((hc _ rfl).symm.trans c);rw [if_pos c];exact (rfl:_=_)
 have c:=of_decide_eq_false ((hc _ rfl).symm.trans c);rw [if_neg c];refine br ?_ ?_<;>intro c1
 ·have c1:ag=1:=sU c1;refine (congrArg (fun b=>DV.v (.bool b)) ?_:_=_);simp [c1,aq,au]
 have c1:¬ ag=1:=sU c1;refine br ?_ ?_<;>intro c2
 ·have c2:ag=2:=sU c2;refine (congrArg (fun b=>DV.v (.bool b)) ?_:_=_);simp [c2,aq,au]
 have c2:¬ ag=2:=sU c2;refine br ?_ ?_<;>intro c3
 ·have c3:ag=3:=sU c3;refine (congrArg (fun b=>DV.v (.bool b)) ?_:_=_);simp [c3,aq,au]
 have c3:¬ ag=3:=sU c3;refine (congrArg (fun b=>DV.v (.bool b)) ?_:_=_);simp [c1,c2,c3,aq,au,hbl]
abbrev S7 (n:Nd) (v:Val) (l:List Int) (p:Bool) (kd mo:Int) (q e:Nat):St:=
 ⟨[(2,⟨[],.loc 0 0⟩),(3,⟨[],.loc 1 0⟩),(6,⟨[],.sl 1 (ue l) (some 0)⟩),(7,⟨[],.v (.bool p)⟩),(8,⟨[],.v (.int .i64 kd)⟩),(9,⟨[],.v (.int .i64 mo)⟩),(38,⟨[],.v (.int .i64 v.ks.length)⟩),(39,⟨[],.v (.int .i64 e)⟩)],[gv n,dVal v],[⟨q,3,1,none⟩]⟩
abbrev ZA (n:Nd) (v:Val) (l:List Int) (p:Bool) (q e:Nat):St:=
 ⟨[(2,⟨[],.loc 0 0⟩),(3,⟨[],.loc 1 0⟩),(6,⟨[],.sl 1 (ue l) (some 0)⟩),(7,⟨[],.v (.bool p)⟩),(67,⟨[],.sl 10 (cw n.ai) none⟩),(68,⟨[],.v (.int .i64 (cw n.ai).length)⟩),(69,⟨[],.v (.int .i64 e)⟩)],[gv n,dVal v],[⟨q,3,1,none⟩]⟩
theorem Ay {L N:Nat} {n:Nd} (hn:cz L N n) (h5:5<=n.ag) (v:Val) (hv:v.wt<=1099511627776) :
  aQ prog 54 [.agg (gv n),.agg (dVal v)] (.tup [.sl 1 (ue (kidsL n v)) none,.v (.bool (dV n v))]):=by
 have Hr:=hn.k8;have cj:=hn.one;have xU:=hn.many;obtain ⟨ag,aS,lo,hi,most,af,es⟩:=n;obtain ⟨q,z,s,ks⟩:=v;have bA:=bQ ks;have dY:=aO es;have ee:=gx ks;rw [Val.wt] at hv;simp only at Hr h5 cj xU
 have hp:∀ b:Bool,b=pickB (decide (s=⟨#[]⟩)) (pickB (decide (z=0)) true (decide (q=8))) false->b=ez (.mk q z s ks):=fun b h=>by
  rw [h];rw [aq,au,td];all_goals rfl
 refine eG 134 [.tmp 4,.tmp 5] func54 rfl ntmps54 rfl fun _ _ _ _=>?_;refine br ?_ ?_<;>intro c
 ·have c:ag=5:=sU c;have Vp:ag=5∨ag=6:=.inl c;obtain ⟨x,gh,_,_⟩:=cj Vp;refine br (fun _=>?_) (fun h=>absurd h (by simp [c]));refine dI ?_;refine br (fun h=>absurd h (by simp [c])) (fun _=>?_);obtain ⟨kd,mo,h1,h2,h3,h4⟩:∃ kd mo:Int,5=kd/\most=mo/\kd=ag/\mo=(if ag=6 then 1 else most):=⟨5,most,rfl,rfl,c.symm,by rw [if_neg (by omega)]⟩;have yN:(cw es)[0]? = some (BZ x):=by rw [gh];all_goals rfl
  have ht0:to0 ⟨ag,aS,lo,hi,most,af,es⟩=x.to:=by simp [to0,gh]
  refine lJ (fun e=>S7 ⟨ag,aS,lo,hi,most,af,es⟩ (.mk q z s ks) (List.replicate e x.to) (ez (.mk q z s ks)) kd mo e e) ks.length (cL 2 ⟨0,3,1,none⟩ rfl rfl rfl (by repeat' (first | exact rfl | exact ay rfl | exact bU (hp _ rfl) | exact aA h1 | exact aA h2 | exact aA (congrArg Nat.cast bA) | exact cx (Nat.le_refl _) rfl | exact cx (Nat.le_refl _) rfl | refine ⟨_,_,rfl,?_,?_⟩)) rfl rfl (by repeat' (first | exact trivial | exact ay rfl | exact bU (hp _ rfl) | exact aA h1 | exact aA h2 | exact aA (congrArg Nat.cast bA) | exact cx (Nat.le_refl _) rfl | refine ⟨⟨_,rfl,?_⟩,?_⟩))) ?_;intro e he;refine br ?_ ?_<;>intro hL
  ·have aj:e < ks.length:=by have:=hL;simp [Val.ks] at this;exact this
   have cR:(ue (List.replicate e x.to)).length=e:=by rw [mL,List.length_replicate]
   have du:ue (List.replicate e x.to) ++ [[DV.v (.int .i64 x.to)]]=ue (List.replicate (e + 1) x.to):=by rw [xT,List.replicate_succ']
   refine ⟨_,⟨by omega,yN⟩,?_⟩;refine ⟨cR,⟨by rw [cR];simp [maxLen];omega,by rw [cR];simp;omega⟩,?_⟩;exact rE ⟨_,by omega,e + 1,rfl,by omega,rfl⟩ (ap 2 rfl (gj (aF aj (by omega)) du) rfl rfl rfl (wB2 (aF aj (by omega)) du))
  ·have aM:e=ks.length:=by have:=hL;simp [Val.ks] at this;omega
   subst aM;have y7:kidsL ⟨ag,aS,lo,hi,most,af,es⟩ (.mk q z s ks)=List.replicate ks.length x.to:=by unfold kidsL;rw [if_pos Vp,ht0];all_goals rfl
   have cR:(ue (List.replicate ks.length x.to)).length=ks.length:=by rw [mL,List.length_replicate]
   have hB:pickB (pickB (ez (.mk q z s ks)) (decide (q=kd)) false) (decide (((ue (List.replicate ks.length x.to)).length:Int)<=mo)) false=dV ⟨ag,aS,lo,hi,most,af,es⟩ (.mk q z s ks):=by
    rw [cR,h3,h4,aq,aq];unfold dV;rw [if_pos Vp];rfl
   rw [y7];exact ⟨_,(gF hB),rfl⟩
 have c5:¬ ag=5:=sU c;refine br ?_ ?_<;>intro c
 ·have c:ag=6:=sU c;have Vp:ag=5∨ag=6:=.inr c;obtain ⟨x,gh,_,_⟩:=cj Vp;refine dI ?_;refine br (fun _=>?_) (fun h=>absurd h (by simp [c]));obtain ⟨kd,mo,h1,h2,h3,h4⟩:∃ kd mo:Int,6=kd/\1=mo/\kd=ag/\mo=(if ag=6 then 1 else most):=⟨6,1,rfl,rfl,c.symm,by rw [if_pos c]⟩;have yN:(cw es)[0]? = some (BZ x):=by rw [gh];all_goals rfl
  have ht0:to0 ⟨ag,aS,lo,hi,most,af,es⟩=x.to:=by simp [to0,gh]
  refine lJ (fun e=>S7 ⟨ag,aS,lo,hi,most,af,es⟩ (.mk q z s ks) (List.replicate e x.to) (ez (.mk q z s ks)) kd mo e e) ks.length (cL 2 ⟨0,3,1,none⟩ rfl rfl rfl (by repeat' (first | exact rfl | exact ay rfl | exact bU (hp _ rfl) | exact aA h1 | exact aA h2 | exact aA (congrArg Nat.cast bA) | exact cx (Nat.le_refl _) rfl | exact cx (Nat.le_refl _) rfl | refine ⟨_,_,rfl,?_,?_⟩)) rfl rfl (by repeat' (first | exact trivial | exact ay rfl | exact bU (hp _ rfl) | exact aA h1 | exact aA h2 | exact aA (congrArg Nat.cast bA) | exact cx (Nat.le_refl _) rfl | refine ⟨⟨_,rfl,?_⟩,?_⟩))) ?_;intro e he;refine br ?_ ?_<;>intro hL
  ·have aj:e < ks.length:=by have:=hL;simp [Val.ks] at this;exact this
   have cR:(ue (List.replicate e x.to)).length=e:=by rw [mL,List.length_replicate]
   have du:ue (List.replicate e x.to) ++ [[DV.v (.int .i64 x.to)]]=ue (List.replicate (e + 1) x.to):=by rw [xT,List.replicate_succ']
   refine ⟨_,⟨by omega,yN⟩,?_⟩;refine ⟨cR,⟨by rw [cR];simp [maxLen];omega,by rw [cR];simp;omega⟩,?_⟩;exact rE ⟨_,by omega,e + 1,rfl,by omega,rfl⟩ (ap 2 rfl (gj (aF aj (by omega)) du) rfl rfl rfl (wB2 (aF aj (by omega)) du))
  ·have aM:e=ks.length:=by have:=hL;simp [Val.ks] at this;omega
   subst aM;have y7:kidsL ⟨ag,aS,lo,hi,most,af,es⟩ (.mk q z s ks)=List.replicate ks.length x.to:=by unfold kidsL;rw [if_pos Vp,ht0];all_goals rfl
   have cR:(ue (List.replicate ks.length x.to)).length=ks.length:=by rw [mL,List.length_replicate]
   have hB:pickB (pickB (ez (.mk q z s ks)) (decide (q=kd)) false) (decide (((ue (List.replicate ks.length x.to)).length:Int)<=mo)) false=dV ⟨ag,aS,lo,hi,most,af,es⟩ (.mk q z s ks):=by
    rw [cR,h3,h4,aq,aq];unfold dV;rw [if_pos Vp];rfl
   rw [y7];exact ⟨_,(gF hB),rfl⟩
 have c6:¬ ag=6:=sU c;obtain ⟨hm64,hm8,_,_⟩:=xU (by omega);refine br ?_ ?_<;>intro c
 ·have c7:ag=7:=sU c;refine lJ (fun e=>ZA ⟨ag,aS,lo,hi,most,af,es⟩ (.mk q z s ks) ((es.take e).map Ed.to) (ez (.mk q z s ks)) e e) es.length (cL 2 ⟨0,3,1,none⟩ rfl rfl rfl (by repeat' (first | exact rfl | exact ay rfl | exact bU (hp _ rfl) | exact cx (Nat.le_refl _) rfl | exact cx (Nat.le_refl _) rfl | refine ⟨_,_,rfl,?_,?_⟩)) rfl rfl (by repeat' (first | exact trivial | exact ay rfl | exact bU (hp _ rfl) | exact cx (Nat.le_refl _) rfl | refine ⟨⟨_,rfl,?_⟩,?_⟩))) ?_;intro e he;refine br ?_ ?_<;>intro hL
  ·have aj:e < es.length:=by have:=hL;simp [dY] at this;exact this
   obtain ⟨x,hx⟩:=gX aj;have cR:(ue ((es.take e).map Ed.to)).length=e:=by rw [mL,List.length_map,List.length_take];omega
   have du:ue ((es.take e).map Ed.to) ++ [[DV.v (.int .i64 x.to)]]=ue ((es.take (e + 1)).map Ed.to):=by rw [xT,dn hx,List.map_append];all_goals rfl
   refine iX (aC hx) ?_;refine ⟨cR,⟨by rw [cR];simp [maxLen];omega,by rw [cR];simp;omega⟩,?_⟩;exact rE ⟨_,by omega,e + 1,rfl,by omega,rfl⟩ (ap 2 rfl (gj (aF aj (by omega)) du) rfl rfl rfl (wB2 (aF aj (by omega)) du))
  ·have aM:e=es.length:=sW dY hL;subst aM;rw [List.take_length];have y7:kidsL ⟨ag,aS,lo,hi,most,af,es⟩ (.mk q z s ks)=es.map Ed.to:=by unfold kidsL;rw [if_neg (by simp only;omega),if_pos c7]
   have cR:(ue (es.map Ed.to)).length=es.length:=by rw [mL,List.length_map]
   have hB:pickB (pickB (ez (.mk q z s ks)) (decide (q=7)) false) (decide (((ue (es.map Ed.to)).length:Int)=((dVals ks).length:Int))) false=dV ⟨ag,aS,lo,hi,most,af,es⟩ (.mk q z s ks):=by
    rw [cR,bA,aq,aq];unfold dV;rw [if_neg (by simp only;omega),if_pos c7];have:((es.length:Int)=(ks.length:Int))↔es.length=ks.length:=by omega
    simp only [this,Val.k,Val.ks];rfl
   rw [y7];refine dI ?_;exact ⟨_,(gF hB),rfl⟩
 have c7:¬ ag=7:=sU c;have y7:kidsL ⟨ag,aS,lo,hi,most,af,es⟩ (.mk q z s ks)=(match o6 ⟨ag,aS,lo,hi,most,af,es⟩ (.mk q z s ks) with | none=>[] | some e=>if e.bare=true then [] else [e.to]):=by unfold kidsL;rw [if_neg (by simp only;omega),if_neg c7];all_goals rfl
 have QW:dV ⟨ag,aS,lo,hi,most,af,es⟩ (.mk q z s ks)=(match o6 ⟨ag,aS,lo,hi,most,af,es⟩ (.mk q z s ks) with | none=>false | some _=>ez (.mk q z s ks) && decide ((kidsL ⟨ag,aS,lo,hi,most,af,es⟩ (.mk q z s ks)).length=ks.length)):=by unfold dV;rw [if_neg (by simp only;omega),if_neg c7];all_goals rfl
 have hc:∀ b:Bool,b=pickB (pickB (!decide (q=8)) true (decide (z < 0))) true (decide (((cw es).length:Int)<=z))->b = !decide (q=8/\0<=z/\z < es.length):=fun b h=>by
  rw [h,dY,au,au,Bool.eq_iff_iff];simp;omega
 refine br ?_ ?_<;>intro c
 ·have c:¬ (q=8/\0<=z/\z < es.length):=by have:=(hc _ rfl).symm.trans c;simpa only [Bool.not_eq_true',decide_eq_false_iff_not] using this
  have ht:o6 ⟨ag,aS,lo,hi,most,af,es⟩ (.mk q z s ks)=none:=by show (if q=8/\0<=z/\z < es.length then es[z.toNat]? else none)=_;rw [if_neg c]
  rw [QW,y7,ht];exact ⟨_,ax,rfl⟩
 ·have c:q=8/\0<=z/\z < es.length:=by have:=(hc _ rfl).symm.trans c;simpa only [Bool.not_eq_false',decide_eq_true_eq] using this
  obtain ⟨x,hx⟩:∃ x,es[z.toNat]? = some x:=⟨_,gE (by omega)⟩;have ht:o6 ⟨ag,aS,lo,hi,most,af,es⟩ (.mk q z s ks)=some x:=by show (if q=8/\0<=z/\z < es.length then es[z.toNat]? else none)=_;rw [if_pos c];exact hx
  rw [ht] at QW y7;refine iX (aC hx) ?_;refine br ?_ ?_<;>intro hb
  ·have hb:x.bare=false:=sU hb;have NZ:kidsL ⟨ag,aS,lo,hi,most,af,es⟩ (.mk q z s ks)=[x.to]:=by rw [y7];simp [hb]
   have hB:pickB (ez (.mk q z s ks)) (decide ((1:Int)=((dVals ks).length:Int))) false=dV ⟨ag,aS,lo,hi,most,af,es⟩ (.mk q z s ks):=by
    rw [QW,NZ,bA,aq];have:((1:Int)=(ks.length:Int)) ↔ [x.to].length=ks.length:=by simp;omega
    simp only [this]
   rw [NZ,<- hB];refine ⟨⟨by simp [maxLen],by simp⟩,?_⟩;refine dI ?_;exact ⟨_,(by repeat' (first | exact rfl | exact trivial | exact Or.inr (Or.inl ⟨_,rfl⟩) | exact Or.inr ⟨_,rfl⟩ | exact Or.inl ⟨rfl,rfl⟩ | exact Or.inl rfl | refine Or.inr ⟨_,_,rfl,Nat.zero_le _,rfl,?_⟩ | refine ⟨_,_,rfl,?_,?_⟩ | refine ⟨_,rfl,?_⟩ | exact congrArg (fun b=>DV.v (.bool (pickB b _ false))) (hp _ rfl) | refine Or.inr (Or.inr (Or.inr ⟨_,_,rfl,?_⟩)) | exact Or.inl rfl | refine Or.inr ?_)),rfl⟩
  ·have hb:x.bare=true:=sU hb;have NZ:kidsL ⟨ag,aS,lo,hi,most,af,es⟩ (.mk q z s ks)=[]:=by rw [y7];simp [hb]
   have hB:pickB (ez (.mk q z s ks)) (decide ((0:Int)=((dVals ks).length:Int))) false=dV ⟨ag,aS,lo,hi,most,af,es⟩ (.mk q z s ks):=by
    rw [QW,NZ,bA,aq];have:((0:Int)=(ks.length:Int))↔([]:List Int).length=ks.length:=by simp;omega
    simp only [this]
   rw [NZ,<- hB];refine dI ?_;exact ⟨_,(by repeat' (first | exact rfl | exact trivial | exact Or.inr (Or.inl ⟨_,rfl⟩) | exact Or.inr ⟨_,rfl⟩ | exact Or.inl ⟨rfl,rfl⟩ | exact Or.inl rfl | refine Or.inr ⟨_,_,rfl,Nat.zero_le _,rfl,?_⟩ | refine ⟨_,_,rfl,?_,?_⟩ | refine ⟨_,rfl,?_⟩ | exact congrArg (fun b=>DV.v (.bool (pickB b _ false))) (hp _ rfl) | refine Or.inr (Or.inr (Or.inr ⟨_,_,rfl,?_⟩)) | exact Or.inl rfl | refine Or.inr ?_)),rfl⟩
theorem Az {n:Nd} {v:Val} (hk:5<=n.ag) (h:dV n v=true):(kidsL n v).length=v.ks.length:=by
 unfold dV at h;by_cases c:n.ag=5∨n.ag=6
 ·unfold kidsL;rw [if_pos c];simp
 rw [if_neg c] at h;by_cases c7:n.ag=7
 ·rw [if_pos c7] at h;unfold kidsL;rw [if_neg c,if_pos c7,List.length_map];simp at h;exact h.2
 rw [if_neg c7] at h
 cases ht:o6 n v with
 | none=>rw [ht] at h;cases h
 | some e=>rw [ht] at h;simp only [Bool.and_eq_true,decide_eq_true_eq] at h;exact h.2
theorem Ht {ND:List Nd} {ks:List Val} {l:List Int} {e:Nat} {x:Val} {i:Int} (h1:ks[e]? = some x) (h2:l[e]? = some i):fitVs ND (ks.drop e) (l.drop e)=(fitV ND x i && fitVs ND (ks.drop (e + 1)) (l.drop (e + 1))):=by
 rw [drop_cons h1,drop_cons h2,fitVs]
theorem gL {ND:List Nd} {i:Int} {d:Nd} (h:lQ ND i=some d):0<=i/\ND[i.toNat]? = some d:=by
 unfold lQ at h;split at h
 ·cases h
 ·exact ⟨by omega,h⟩
theorem xV {ND:List Nd} {i:Int} (h:lQ ND i=none):i < 0∨(ND.length:Int)<=i:=by
 unfold lQ at h;split at h
 ·left;assumption
 ·right;have:=List.getElem?_eq_none_iff.1 h;omega
abbrev tfSt (PC:List DV) (v:Val) (l:List Int) (e:Nat):St:=
 ⟨[(0,⟨[],.pt PC 0⟩),(5,⟨[],.loc 0 0⟩),(36,⟨[],.sl 1 (ue l) none⟩),(37,⟨[],.v (.int .i64 l.length)⟩),(38,⟨[],.v (.int .i64 e)⟩)],[dVal v],[]⟩
theorem pV {S:Sch} {ND:List Nd} {PC:List DV} (hP:eW S ND PC):∀ (k:Nat) (v:Val),v.wt<=k->v.wt<=1099511627776->∀ i:Int,aQ prog 14 [.pt PC 0,.v (.int .i64 i),.agg (dVal v)] (.v (.bool (fitV ND v i)))
 | 0,v,h,_=>by have:=v.er;omega
 | k + 1,.mk q z s ks,h,hb=>fun i=>by
  have ih:=pV hP k;have ee:=gx ks;have bA:=bQ ks;have fX:=hb;rw [Val.wt] at h hb;rw [fitV];have eI:=hP.ak;have Vq:=hP.S6;have bm:=hP.ok
  cases hd:lQ ND i with
  | none=>
   refine eG 53 [.tmp 6] func14 rfl ntmps14 rfl fun _ _ _ _=>?_;refine cP Gg (Vq i (xV hd)) ?_;exact (rfl:_=_)
  | some d=>
   obtain ⟨h0,hg⟩:=gL hd;obtain ⟨j,rfl⟩:∃ j:Nat,i=j:=⟨i.toNat,by omega⟩;have hg:ND[j]? = some d:=sU hg;have hN:=bm d (mG hg);have FO:=KC d (.mk q z s ks);have D1:=fun h5=>Ay hN h5 (.mk q z s ks) fX;have hlen:=fun h5=>Az (n:=d) (v:=.mk q z s ks) h5;simp only;obtain ⟨ag,aS,lo,hi,most,af,es⟩:=d;simp only at D1 hlen;refine eG 53 [.tmp 6] func14 rfl ntmps14 rfl fun _ _ _ _=>?_;refine cP Gg (eI j _ hg) ?_;refine br ?_ ?_<;>intro c
   ·have c:ag < 5:=sU c;rw [if_pos c];refine cP en53 FO ?_;exact (rfl:_=_)
   have c:¬ ag < 5:=sU c;rw [if_neg c];have D1:=D1 (by omega);have hlen:=hlen (by omega);generalize kidsL ⟨ag,aS,lo,hi,most,af,es⟩ (.mk q z s ks)=l at D1 hlen ⊢;have Wi:=mL l;refine cP Xd D1 ?_
   cases hB:dV ⟨ag,aS,lo,hi,most,af,es⟩ (.mk q z s ks) with
   | false=>
    exact (rfl:_=_)
   | true=>
    have hlen:l.length=ks.length:=hlen hB;rw [Bool.true_and];refine lI (fun j st=>∃ e:Nat,st=tfSt PC (.mk q z s ks) l e/\e<=l.length/\fitVs ND ks l=fitVs ND (ks.drop e) (l.drop e)/\j=l.length - e) ⟨0,rfl,by omega,rfl,rfl⟩ (ah ⟨_,rfl⟩ wA rfl rfl rfl (cX Wi)) ?_;rintro _ st ⟨e,rfl,he,aJ,rfl⟩;refine br ?_ ?_<;>intro hL
    ·have aj:e < l.length:=by have:=hL;simp at this;exact this
     obtain ⟨x,hx⟩:∃ x,ks[e]? = some x:=⟨_,gE (by omega)⟩;obtain ⟨y,hy⟩:=gX aj;have SI:=jy (mG hx);rw [Ht hx hy] at aJ;have eC:=ih x (by omega) (by omega) y;obtain ⟨xk,xn,xs,xl⟩:=x;refine iX (I2 hy) ?_;refine iX (gW hx) ?_;refine cP L2 eC ?_;refine br ?_ ?_<;>intro g
     ·have g:fitV ND (.mk xk xn xs xl) y=false:=sU g;rw [aJ,g];exact (rfl:_=_)
     ·have g:fitV ND (.mk xk xn xs xl) y=true:=sU g;rw [g,Bool.true_and] at aJ;exact rE ⟨_,by omega,e + 1,rfl,by omega,aJ,rfl⟩ (ah ⟨_,rfl⟩ wA rfl rfl rfl (cX (aF aj (by omega))))
    ·have aM:e=l.length:=by have:=hL;simp at this;omega
     rw [List.drop_of_length_le (by omega),List.drop_of_length_le (by omega)] at aJ;rw [aJ];exact (rfl:_=_)
theorem KD {L N:Nat} {n:Nd} (hn:cz L N n) (v:Val) (j:Nat):aQ prog 137 [.agg (gv n),.agg (dVal v),.v (.int .i64 j)] (.v (.int .i64 (IZ n v j))):=by
 have cj:=hn.one;obtain ⟨ag,aS,lo,hi,most,af,es⟩:=n;obtain ⟨q,z,s,ks⟩:=v;have dY:=aO es;simp only at cj
 have hF:IZ ⟨ag,aS,lo,hi,most,af,es⟩ (.mk q z s ks) j=if ag=5 then (if (j:Int) < most then to0 ⟨ag,aS,lo,hi,most,af,es⟩ else -1)
  else if ag=6 then (if j < 1 then to0 ⟨ag,aS,lo,hi,most,af,es⟩ else -1)
  else if ag=7 then (match es[j]? with | some e=>e.to | none=>-1)
  else if ag=8 then (if j < 1/\0<=z/\z < es.length then (match es[z.toNat]? with | some e=>e.to | none=>-1) else -1)
  else -1:=rfl
 rw [hF];refine eG 66 [.tmp 6] func137 rfl ntmps137 rfl fun _ _ _ _=>?_;refine br ?_ ?_<;>intro c
 ·have c:ag=5:=sU c;rw [if_pos c];obtain ⟨x,gh,_,_⟩:=cj (.inl c);have yN:(cw es)[0]? = some (BZ x):=by rw [gh];all_goals rfl
  have ht0:to0 ⟨ag,aS,lo,hi,most,af,es⟩=x.to:=by simp [to0,gh]
  refine br ?_ ?_<;>intro g
  ·have g:(j:Int) < most:=sU g;rw [if_pos g,ht0];refine ⟨_,⟨by omega,yN⟩,?_⟩;exact (rfl:_=_)
  ·have g:¬ (j:Int) < most:=sU g;rw [if_neg g];exact (rfl:_=_)
 have c5:¬ ag=5:=sU c;rw [if_neg c5];refine br ?_ ?_<;>intro c
 ·have c:ag=6:=sU c;rw [if_pos c];obtain ⟨x,gh,_,_⟩:=cj (.inr c);have yN:(cw es)[0]? = some (BZ x):=by rw [gh];all_goals rfl
  have ht0:to0 ⟨ag,aS,lo,hi,most,af,es⟩=x.to:=by simp [to0,gh]
  refine br ?_ ?_<;>intro g
  ·have g:j < 1:=by have:=g;simp at this;omega
   rw [if_pos g,ht0];refine ⟨_,⟨by omega,yN⟩,?_⟩;exact (rfl:_=_)
  ·have g:¬ j < 1:=by have:=g;simp at this;omega
   rw [if_neg g];exact (rfl:_=_)
 have c6:¬ ag=6:=sU c;rw [if_neg c6];refine br ?_ ?_<;>intro c
 ·have c:ag=7:=sU c;rw [if_pos c];refine br ?_ ?_<;>intro g
  ·have g:j < es.length:=by have:=g;simp [dY] at this;exact this
   obtain ⟨x,hx⟩:∃ x,es[j]? = some x:=⟨_,gE g⟩;refine iX (aC hx) ?_;rw [hx];exact (rfl:_=_)
  ·have g:es.length<=j:=sW dY g;rw [List.getElem?_eq_none g];exact (rfl:_=_)
 have c7:¬ ag=7:=sU c;rw [if_neg c7];refine br ?_ ?_<;>intro c
 ·have c:ag=8:=sU c;rw [if_pos c]
  have hc:∀ b:Bool,b=pickB (pickB (decide ((j:Int) < 1)) (decide (0<=z)) false) (decide (z < ((cw es).length:Int))) false->b=decide (j < 1/\0<=z/\z < es.length):=fun b h=>by
   rw [h,dY,aq,aq,Bool.eq_iff_iff];simp;omega
  refine br ?_ ?_<;>intro g
  ·have g:=of_decide_eq_true ((hc _ rfl).symm.trans g);obtain ⟨x,hx⟩:∃ x,es[z.toNat]? = some x:=⟨_,gE (by omega)⟩;rw [if_pos g,hx];refine iX (aC hx) ?_;exact (rfl:_=_)
  ·have g:=of_decide_eq_false ((hc _ rfl).symm.trans g);rw [if_neg g];exact (rfl:_=_)
 ·have c8:¬ ag=8:=sU c;rw [if_neg c8];exact (rfl:_=_)
structure Vr (ND:List Nd) (v:Val) (i:Int) (d:Nd):Prop where
 ak:lQ ND i=some d
 k:v.k=d.ag
 leaf:d.ag < 5->v.ks=[]
 enum:d.ag=4->0<=v.n/\v.n < d.af.length
 kids:5<=d.ag->(kidsL d v).length=v.ks.length/\fitVs ND v.ks (kidsL d v)=true
 tag:d.ag=8->∃ e,o6 d v=some e/\d.ai[v.n.toNat]? = some e/\0<=v.n/\v.n < d.ai.length/\(e.bare=true↔v.ks=[])
 opt:d.ag=6->v.ks.length<=1
theorem te {L:Nat} {ND:List Nd} (bm:∀ n∈ND,cz L ND.length n) {v:Val} {i:Int} (h:fitV ND v i=true):∃ d,Vr ND v i d:=by
 obtain ⟨k,n,s,ks⟩:=v;rw [fitV] at h
 cases hd:lQ ND i with
 | none=>rw [hd] at h;cases h
 | some d=>
  rw [hd] at h;simp only at h;have hN:=bm d (mG (gL hd).2);have jG:=hN.k1;have Hr:=hN.k8;by_cases h5:d.ag < 5
  ·rw [if_pos h5] at h;unfold Aw at h;by_cases hc:0 < (Val.mk k n s ks).ks.length∨((Val.mk k n s ks).k≠3/\(Val.mk k n s ks).s≠av)∨((Val.mk k n s ks).k=3/\(Val.mk k n s ks).n≠0)
   ·rw [if_pos hc] at h;cases h
   rw [if_neg hc] at h
   have NX:ks=[]:=by
    cases ks with
    | nil=>rfl
    | cons a b=>exact (hc (.inl (by simp [Val.ks]))).elim
   have hk:k=d.ag/\(d.ag=4->0<=n/\n < d.af.length):=by
    rcases (show d.ag=1∨d.ag=2∨d.ag=3∨d.ag=4 by omega) with c | c | c | c
    all_goals
     simp [c,Val.k,Val.n] at h;simp only [c];constructor
     ·first | exact of_decide_eq_true h.1 | exact of_decide_eq_true h.1.1
     ·first | (intro;omega) | exact fun _=>⟨of_decide_eq_true h.1.2,of_decide_eq_true h.2⟩
   exact ⟨d,{ ak:=hd,k:=hk.1,leaf:=fun _=>NX,enum:=hk.2,kids:=fun h=>by omega,tag:=fun h=>by omega,opt:=fun h=>by omega }⟩
  ·rw [if_neg h5,Bool.and_eq_true] at h;obtain ⟨hB,hf⟩:=h;have hlen:=Az (by omega) hB;have hB2:=hB;unfold dV at hB;by_cases c:d.ag=5∨d.ag=6
   ·rw [if_pos c] at hB;simp only [Bool.and_eq_true,decide_eq_true_eq] at hB;exact ⟨d,{ ak:=hd,k:=hB.1.2,leaf:=fun h=>by omega,enum:=fun h=>by omega,kids:=fun _=>⟨hlen,hf⟩,tag:=fun h=>by omega,opt:=fun h=>by have:=hB.2;rw [if_pos h] at this;omega }⟩
   rw [if_neg c] at hB;by_cases c7:d.ag=7
   ·rw [if_pos c7] at hB;simp only [Bool.and_eq_true,decide_eq_true_eq] at hB;exact ⟨d,{ ak:=hd,k:=by rw [c7];exact hB.1.2,leaf:=fun h=>by omega,enum:=fun h=>by omega,kids:=fun _=>⟨hlen,hf⟩,tag:=fun h=>by omega,opt:=fun h=>by omega }⟩
   rw [if_neg c7] at hB
   cases ht:o6 d (.mk k n s ks) with
   | none=>rw [ht] at hB;cases hB
   | some e=>
    have ht2:=ht;unfold o6 at ht2;split at ht2
    ·rename_i hr;have ee:kidsL d (.mk k n s ks)=if e.bare=true then [] else [e.to]:=by unfold kidsL;rw [if_neg c,if_neg c7,ht]
     refine ⟨d,{ ak:=hd,k:=by have:=hr.1;omega,leaf:=fun h=>by omega,enum:=fun h=>by omega,kids:=fun _=>⟨hlen,hf⟩,tag:=fun _=>⟨e,ht,ht2,hr.2.1,hr.2.2,?_⟩,opt:=fun h=>by omega }⟩;rw [ee] at hlen;constructor
     ·intro hb;rw [if_pos hb] at hlen;exact List.eq_nil_of_length_eq_zero hlen.symm
     ·intro NX;rw [NX] at hlen;cases hb:e.bare
      ·rw [hb] at hlen;simp at hlen
      ·rfl
    ·cases ht2
theorem EE {ND:List Nd}:∀ {ks:List Val} {l:List Int} {e:Nat} {x:Val} {i:Int},fitVs ND ks l=true->ks[e]? = some x->l[e]? = some i->fitV ND x i=true
 | [],_,e,x,i,_,h,_=>by simp at h
 | _ :: _,[],e,x,i,_,_,h=>by simp at h
 | v :: r,j :: l,0,x,i,h,h1,h2=>by
  simp only [List.getElem?_cons_zero,oI] at h1 h2;subst h1 h2;rw [fitVs,Bool.and_eq_true] at h;exact h.1
 | v :: r,j :: l,e + 1,x,i,h,h1,h2=>by
  simp only [List.getElem?_cons_succ] at h1 h2;rw [fitVs,Bool.and_eq_true] at h;exact EE h.2 h1 h2
structure cQ where
 k:Int
 n:Int
 s:ByteArray
def jJ (x:cQ):List DV:=[.v (.int .i64 x.k),.v (.int .i64 x.n),.v (.string x.s)]
def aP (l:List cQ):List (List DV):=l.map jJ
theorem dO (l:List cQ):(aP l).length=l.length:=by simp [aP]
theorem dE {l:List cQ} {e:Nat} {x:cQ} (h:l[e]? = some x):(aP l)[e]? = some (jJ x):=by simp [aP,h]
def mM (a b:cQ):Bool:=decide (a.k=b.k) && (decide (a.n=b.n) && decide (a.s=b.s))
theorem EF {a b:cQ}:mM a b=true↔a=b:=by
 obtain ⟨k,n,s⟩:=a;obtain ⟨k',n',s'⟩:=b;simp only [mM,Bool.and_eq_true,decide_eq_true_eq,cQ.mk.injEq]
def Hu (a:cQ):Array Value:=#[.int .i64 a.k,.int .i64 a.n,.string a.s]
theorem KE (a b:cQ) (w:World):(Op.equal 117 (.agg (Hu a)) (.agg (Hu b))).run prog w = .ok (mM a b) w:=by
 have hf:prog.underlying 117=some (.struct (prog.fieldsOf 117)):=by simp [Program.fieldsOf,Tryz.underlying117]
 have vF:(prog.fieldsOf 117).toList=[⟨ "Kind",3,0,false, "", "",0⟩,⟨ "N",3,1,false, "", "",8⟩,⟨ "Name",9,2,false, "", "",16⟩]:=by simp [Program.fieldsOf,Tryz.underlying117]
 have hs:prog.stoodInHeld 117=false:=by kernel_rfl
 obtain ⟨d,hm⟩:∃ d,Op.maxDepth=d + 1 + 1:=⟨Op.maxDepth - 2,by decide⟩
 have q9:∀ cs:Array Value,∀ off v,cs[off]? = some v->(part 9 cs off).run prog w = .ok v w:=fun cs off v h=>by
  simp [part,Tryz.isAgg9,h]
 have q3:∀ cs:Array Value,∀ off v,cs[off]? = some v->(part 3 cs off).run prog w = .ok v w:=fun cs off v h=>by
  simp [part,Tryz.isAgg3,h]
 have g0:=fun x:cQ=>q3 (Hu x) 0 (.int .i64 x.k) rfl;have g1:=fun x:cQ=>q3 (Hu x) 1 (.int .i64 x.n) rfl;have g2:=fun x:cQ=>q9 (Hu x) 2 (.string x.s) rfl;have r9:=fun a b=>run_equalIn_string w d 9 a b Tryz.underlying9;have r3:=fun a b=>run_equalIn_int w d 3 .i64 .i64 a b Tryz.underlying3
 have e1:(a.s.toList == b.s.toList)=decide (a.s=b.s):=by
  rw [ByteArray.toList_eq,ByteArray.toList_eq];by_cases h:a.s=b.s
  ·rw [h];simp
  ·have:¬ a.s.data=b.s.data:=fun e=>h (ByteArray.ext e);simp [h,this]
 unfold Op.equal;rw [hm,run_equalIn_struct w (d + 1) 117 _ _ hf hs,vF];simp only [Op.eqFields,ne_eq,String.reduceEq,not_false_eq_true,if_true,Sem.run_bind,g0,g1,g2,r9,r3,Result.andThen_ok];by_cases h1:a.k=b.k
 ·by_cases h2:a.n=b.n
  ·by_cases h3:a.s=b.s
   ·simp [h1,h2,h3,mM,Sem.run_pure,r3,r9,g1,g2]
   ·simp [h1,h2,h3,mM,Sem.run_pure,r3,r9,g1,g2,e1]
  ·simp [h1,h2,mM,Sem.run_pure,r3,g1]
 ·simp [h1,mM,Sem.run_pure]
theorem KF (o:BinOp) (ho:o = .eql∨o = .neq) (w:World) (x y:Operand) (vs vs':Array Value):(eqGuard o 117 x y (.agg vs) (.agg vs')).run prog w = .ok () w:=by
 have h:prog.eqGuardType prog.depth 117=false:=by kernel_rfl
 rcases ho with rfl | rfl<;>simp [eqGuard,run_program,h]
theorem QX (x y:Operand) (a b:cQ):Bc prog .eql x y 117 (jJ a) (jJ b) (mM a b):=
 ⟨[.int .i64 a.k,.int .i64 a.n,.string a.s],[.int .i64 b.k,.int .i64 b.n,.string b.s],rfl,rfl,fun w=>⟨KF _ (.inl rfl) w x y _ _,by
  show ((do let r <- Op.equal 117 (.agg (Hu a)) (.agg (Hu b));pure (Value.bool r)):Sem Value).run prog w=_
  simp only [Sem.run_bind,KE,Result.andThen_ok,Sem.run_pure]⟩⟩
def stpR (d:Nd) (v:Val) (j:Nat):cQ:=
 if d.ag=5 then ⟨2,j,av⟩
 else if d.ag=6 then ⟨4,0,av⟩
 else if d.ag=7 then ⟨1,0,match d.ai[j]? with | some e=>e.name | none=>av⟩
 else ⟨5,0,match d.ai[v.n.toNat]? with | some e=>e.name | none=>av⟩
theorem Hv:prog.cellsOf 117=3:=by kernel_rfl
def Hw (p:List cQ):Prop:=∀ s∈p,(-9223372036854775808<=s.k/\s.k<=9223372036854775807)/\(-9223372036854775808<=s.n/\s.n<=9223372036854775807)
def wtStp:List cQ->Nat
 | []=>0
 | s :: p=>64 + s.s.size + wtStp p
theorem AA:∀ p:List cQ,64 * p.length<=wtStp p
 | []=>Nat.le_refl _
 | s :: p=>by
  have:=AA p;rw [wtStp,List.length_cons];omega
theorem AB:∀ {p:List cQ} {s:cQ},s∈p->s.s.size<=wtStp p
 | s :: p,x,h=>by
  rcases List.mem_cons.1 h with rfl | h
  ·rw [wtStp];omega
  ·have:=AB h;rw [wtStp];omega
theorem EG {m:Nat}:∀ {es:List (List DV)},(∀ cs∈es,Typ prog m 117 cs)->∃ p:List cQ,es=aP p/\Hw p/\wtStp p<=wgEs es
 | [],h=>⟨[],rfl,(fun _ h=>by cases h),by simp [wtStp]⟩
 | cs :: r,h=>by
  obtain ⟨p,rfl,hr,hl⟩:=EG (es:=r) (fun c hc=>h c (List.mem_cons_of_mem _ hc));obtain ⟨m',rfl,hf⟩:=my Tryz.underlying117 (h cs (by simp));obtain ⟨a1,b1,rfl,h1,a2,b2,rfl,h2,a3,b3,rfl,h3,rfl⟩:=hf;obtain ⟨k,rfl,hk⟩:=lF h1;obtain ⟨z,rfl,hz⟩:=lF h2;obtain ⟨s,rfl⟩:=BK Tryz.underlying9 h3;refine ⟨⟨k,z,s⟩ :: p,rfl,fun x hx=>?_,?_⟩
  ·rcases List.mem_cons.1 hx with rfl | hx
   ·exact ⟨hk,hz⟩
   ·exact hr x hx
  ·simp only [wtStp,wgEs,eP,wgL,wgD] at *;omega
theorem typ_path {n:Nat} {ds:List DV} (h:Typ prog n 59 ds):∃ p:List cQ,ds=[.sl 3 (aP p) none]/\Hw p/\wtStp p<=wgL ds:=by
 obtain ⟨j,es,rfl,rfl,gh⟩:=sC Tryz.underlying59 h;obtain ⟨p,rfl,hr,hl⟩:=EG gh;rw [Hv];exact ⟨p,rfl,hr,by simp only [wgL,wgD];omega⟩
def tyPS:List TypeId:=[59,117,9,3]
theorem tyPS_ok:∀ t∈tyPS,lk prog tyPS t=true:=by
 have h:(tyPS.all fun t=>lk prog tyPS t)=true:=by kernel_rfl
 exact fun t ht=>List.all_eq_true.1 h t ht
namespace Dv
open Go.ChangeShapes Go.WideShapes Go.ChangeAt
theorem arg_sl {H:Type} {enc:TypeId × Value->H} {P:Program} {W:World} {base:Nat} {S:List TypeId} {bk:DataW H->Nat} (Lj:Bk bk) (hS:∀ t∈S,lk P S t=true) {t e:TypeId} {v:Value} {d:DataW H} {ps:List MemPlace} (ht:t∈S) (hu:P.underlying t=some (.slice e))
  (hval:Value.okWide P W .any base t v) (h:DataW.Trod enc P W 0 (fun _=>true) true t v d ps):∃ n x,Rv (FN W) x v/\Typ P n t [x]/\wgL [x]<=64 * bk d:=by
 obtain ⟨a,len,cap,rfl⟩:=okWide_slice hu hval;obtain ⟨n,hn⟩:=h;obtain ⟨ds,h1,h2,h3,h4,h5⟩:=u1 Lj hS n t _ _ ht hn
 cases ds with
 | nil=>simp only [RvL,Value.cells] at h1;cases h1
 | cons x r=>
  simp only [RvL,Value.cells] at h1;obtain ⟨u,s,h6,h7,h8⟩:=h1;have h6:Value.slice a len cap=u/\s=[]:=by simpa [eq_comm] using h6
  obtain ⟨rfl,rfl⟩:=h6
  cases r with
  | nil=>exact ⟨n,x,h7,h3,h4⟩
  | cons y r=>
   simp only [RvL] at h8;obtain ⟨_,_,h9,_⟩:=h8;cases h9
end Dv
def bY (K:List Nat) (e:Ed):Nat:=K.getD e.to.toNat 0
def leastR (K:List Nat):List Ed->Nat->Nat
 | [],m=>m + 1
 | e :: r,m=>if bY K e=0 then 0 else leastR K r (max m (bY K e))
def cf (K:List Nat):List Ed->Nat->Nat
 | [],b=>if b=0 then 0 else b + 1
 | e :: r,b=>if e.bare=true then 1 else if 0 < bY K e/\(b=0∨bY K e < b) then cf K r (bY K e) else cf K r b
def aW (n:Nd) (K:List Nat):Nat:=if n.ag=7 then leastR K n.ai 0 else if n.ag=8 then cf K n.ai 0 else 1
def depN (ND:List Nd):Nat->List Nat
 | 0=>List.replicate ND.length 0
 | d + 1=>ND.map fun n=>aW n (depN ND d)
theorem bp (ND:List Nd):∀ d,(depN ND d).length=ND.length
 | 0=>by simp [depN]
 | d + 1=>by simp [depN]
theorem depN_get (ND:List Nd) (d j:Nat):(depN ND (d + 1)).getD j 0=match ND[j]? with | none=>0 | some n=>aW n (depN ND d):=by
 simp only [depN,List.getD_eq_getElem?_getD,List.getElem?_map];cases ND[j]?<;>rfl
def KG (d:Nat) (A B:List Nat):Prop:=∀ j:Nat,(0 < A.getD j 0->B.getD j 0=A.getD j 0/\A.getD j 0<=d)/\(A.getD j 0=0->B.getD j 0=0∨B.getD j 0=d + 1)
theorem Cg {d:Nat} {A B:List Nat} (h:KG d A B) (j:Nat):B.getD j 0<=d + 1:=by
 obtain ⟨h1,h2⟩:=h j;rcases Nat.eq_zero_or_pos (A.getD j 0) with h3 | h3
 ·rcases h2 h3 with h4 | h4<;>omega
 ·have:=h1 h3;omega
theorem gY {K:List Nat}:∀ {es:List Ed} {m:Nat},leastR K es m=0↔∃ e∈es,bY K e=0
 | [],m=>by simp [leastR]
 | e :: r,m=>by
  rw [leastR];by_cases h:bY K e=0
  ·rw [if_pos h];exact ⟨fun _=>⟨e,by simp,h⟩,fun _=>rfl⟩
  ·rw [if_neg h,gY];constructor
   ·rintro ⟨x,hx,h2⟩;exact ⟨x,by simp [hx],h2⟩
   ·rintro ⟨x,hx,h2⟩;rcases List.mem_cons.1 hx with rfl | hx
    ·exact (h h2).elim
    ·exact ⟨x,hx,h2⟩
theorem uf {d:Nat} {A B:List Nat} (hR:KG d A B):∀ {es:List Ed} {m:Nat},0 < leastR A es m->leastR B es m=leastR A es m
 | [],m,_=>rfl
 | e :: r,m,h=>by
  rw [leastR] at h ⊢;rw [leastR];by_cases h0:bY A e=0
  ·rw [if_pos h0] at h;omega
  rw [if_neg h0] at h ⊢;have h1:bY B e=bY A e:=((hR e.to.toNat).1 (by unfold bY at h0;omega)).1;rw [h1,if_neg h0];exact uf hR h
theorem xW {d:Nat} {A B:List Nat} (hR:KG d A B):∀ {es:List Ed} {m:Nat},m<=d + 1->(m=d + 1∨∃ e∈es,bY A e=0)->leastR B es m=0∨leastR B es m=d + 2
 | [],m,_,h=>by
  rcases h with h | ⟨e,he,_⟩
  ·right;rw [leastR,h]
  ·cases he
 | e :: r,m,hm,h=>by
  rw [leastR];by_cases h0:bY B e=0
  ·rw [if_pos h0];exact .inl rfl
  rw [if_neg h0];have dq:bY B e<=d + 1:=Cg hR _;refine xW hR (by omega) ?_;rcases h with h | ⟨x,hx,h⟩
  ·left;omega
  ·rcases List.mem_cons.1 hx with rfl | hx
   ·left;have:=(hR x.to.toNat).2 h;unfold bY at h0 dq ⊢;omega
   ·exact .inr ⟨x,hx,h⟩
theorem kD {d:Nat} {A B:List Nat} (hR:KG d A B):∀ {es:List Ed} {a b:Nat},(0 < a->b=a/\a<=d)->(a=0->b=0∨b=d + 1) ->
  (0 < cf A es a->cf B es b=cf A es a)/\(cf A es a=0->cf B es b=0∨cf B es b=d + 2)
 | [],a,b,h1,h2=>by
  rw [cf,cf];rcases Nat.eq_zero_or_pos a with h | h
  ·rw [if_pos h];refine ⟨fun h=>by omega,fun _=>?_⟩;rcases h2 h with h3 | h3
   ·left;rw [if_pos h3]
   ·right;rw [if_neg (by omega)];omega
  ·obtain ⟨h3,h4⟩:=h1 h;rw [if_neg (by omega),if_neg (by omega),h3];exact ⟨fun _=>rfl,fun h=>by omega⟩
 | e :: r,a,b,h1,h2=>by
  rw [cf,cf];by_cases hb:e.bare=true
  ·rw [if_pos hb,if_pos hb];exact ⟨fun _=>rfl,fun h=>by omega⟩
  rw [if_neg hb,if_neg hb];obtain ⟨g1,g2⟩:=hR e.to.toNat;change (0 < bY A e->bY B e=bY A e/\bY A e<=d) at g1;change (bY A e=0->bY B e=0∨bY B e=d + 1) at g2;by_cases c1:0 < bY A e/\(a=0∨bY A e < a)<;>by_cases c2:0 < bY B e/\(b=0∨bY B e < b)
  ·rw [if_pos c1,if_pos c2];exact kD hR (by omega) (by omega)
  ·rw [if_pos c1,if_neg c2];exact kD hR (by omega) (by omega)
  ·rw [if_neg c1,if_pos c2];exact kD hR (by omega) (by omega)
  ·rw [if_neg c1,if_neg c2];exact kD hR (by omega) (by omega)
theorem Hx {d:Nat} {A B:List Nat} (hR:KG d A B) (n:Nd):(0 < aW n A->aW n B=aW n A)/\(aW n A=0->aW n B=0∨aW n B=d + 2):=by
 unfold aW;by_cases h7:n.ag=7
 ·rw [if_pos h7,if_pos h7];exact ⟨uf hR,fun h=>xW hR (by omega) (.inr (gY.1 h))⟩
 rw [if_neg h7,if_neg h7];by_cases h8:n.ag=8
 ·rw [if_pos h8,if_pos h8];exact kD hR (by omega) (by omega)
 rw [if_neg h8,if_neg h8];exact ⟨fun _=>rfl,fun h=>by omega⟩
theorem EH (N:Nat) (e:Ed):bY (List.replicate N 0) e=0:=by
 unfold bY;rw [List.getD_eq_getElem?_getD,List.getElem?_replicate];split<;>rfl
theorem ug (N:Nat):∀ es:List Ed,cf (List.replicate N 0) es 0=0∨cf (List.replicate N 0) es 0=1
 | []=>.inl rfl
 | e :: r=>by
  rw [cf,EH];by_cases hb:e.bare=true
  ·rw [if_pos hb];exact .inr rfl
  ·rw [if_neg hb,if_neg (by omega)];exact ug N r
theorem EI (N:Nat) (n:Nd):aW n (List.replicate N 0)=0∨aW n (List.replicate N 0)=1:=by
 unfold aW;by_cases h7:n.ag=7
 ·rw [if_pos h7]
  cases h:n.ai with
  | nil=>right;rfl
  | cons e r=>left;rw [leastR,EH,if_pos rfl]
 rw [if_neg h7];by_cases h8:n.ag=8
 ·rw [if_pos h8];exact ug N n.ai
 ·rw [if_neg h8];exact .inr rfl
theorem AD (ND:List Nd) (j:Nat):(depN ND 0).getD j 0=0:=by
 rw [depN,List.getD_eq_getElem?_getD,List.getElem?_replicate];split<;>rfl
theorem oc (ND:List Nd):∀ d,KG d (depN ND d) (depN ND (d + 1))
 | 0=>fun j=>by
  refine ⟨fun h=>by rw [AD] at h;omega,fun _=>?_⟩;rw [depN_get]
  cases ND[j]? with
  | none=>exact .inl rfl
  | some n=>exact EI _ n
 | d + 1=>fun j=>by
  have ih:=oc ND d;rw [depN_get ND (d + 1),depN_get ND d]
  cases hn:ND[j]? with
  | none=>exact ⟨fun h=>by simp at h,fun _=>.inl rfl⟩
  | some n=>
   obtain ⟨h1,h2⟩:=Hx ih n;refine ⟨fun h=>⟨h1 h,?_⟩,h2⟩;have:=Cg ih j;rw [depN_get ND d,hn] at this;exact this
theorem I3 (ND:List Nd):∀ d j,(depN ND d).getD j 0<=d
 | 0,j=>by rw [AD];omega
 | d + 1,j=>Cg (oc ND d) j
def ef (K:List Nat):List Bool:=K.map fun k=>decide (0 < k)
theorem gz (K:List Nat) (j:Nat):(ef K).getD j false=decide (0 < K.getD j 0):=by
 unfold ef;simp only [List.getD_eq_getElem?_getD,List.getElem?_map];cases K[j]?<;>simp
theorem gA (K:List Nat):(ef K).length=K.length:=by simp [ef]
theorem kE {A B:List Nat} (hl:A.length=B.length) (h:∀ j,A.getD j 0=B.getD j 0):A=B:=by
 refine List.ext_getElem hl fun j h1 h2=>?_;have:=h j;simp only [List.getD_eq_getElem?_getD,gE h1,gE h2,Option.getD_some] at this;exact this
theorem xX (ND:List Nd) (d:Nat):zR (ef (depN ND d)) (ef (depN ND (d + 1))):=fun j h=>by
 rw [gz] at h ⊢;have h:=of_decide_eq_true h;have:=((oc ND d) j).1 h;exact decide_eq_true (by omega)
theorem AE {ND:List Nd} {d:Nat} (h:ef (depN ND d)=ef (depN ND (d + 1))):depN ND (d + 1)=depN ND d:=by
 refine kE (by rw [bp,bp]) fun j=>?_;obtain ⟨h1,h2⟩:=(oc ND d) j;rcases Nat.eq_zero_or_pos ((depN ND d).getD j 0) with h3 | h3
 ·have h4:=gz (depN ND d) j;rw [h,gz,h3] at h4;have:¬ 0 < (depN ND (d + 1)).getD j 0:=sU h4;omega
 ·exact (h1 h3).1
theorem AF (ND:List Nd):∀ d,depN ND (d + 1)=depN ND d∨d<=kv (ef (depN ND d))
 | 0=>.inr (Nat.zero_le _)
 | d + 1=>by
  rcases AF ND d with h | h
  ·left;show (ND.map fun n=>aW n (depN ND (d + 1)))=ND.map fun n=>aW n (depN ND d);rw [h]
  ·rcases (lm (by rw [gA,gA,bp,bp]) (xX ND d)).1 with h2 | h2
   ·left;have:=AE h2;show (ND.map fun n=>aW n (depN ND (d + 1)))=ND.map fun n=>aW n (depN ND d);rw [this]
   ·exact .inr (by omega)
theorem depN_fix {ND:List Nd} {d:Nat} (h:depN ND (d + 1)=depN ND d):∀ k,depN ND (d + k)=depN ND d
 | 0=>rfl
 | k + 1=>by
  show (ND.map fun n=>aW n (depN ND (d + k)))=_;rw [depN_fix h k];exact h
theorem depN_end (ND:List Nd):depN ND (ND.length + 1)=depN ND ND.length:=by
 rcases AF ND ND.length with h | h
 ·exact h
 ·rcases (lm (by rw [gA,gA,bp,bp]) (xX ND ND.length)).1 with h2 | h2
  ·exact AE h2
  ·have:=q6 (ef (depN ND (ND.length + 1)));rw [gA,bp] at this;omega
theorem QY {ND:List Nd} {d:Nat} (h:depN ND (d + 1)≠depN ND d):d < ND.length:=by
 rcases Nat.lt_or_ge d ND.length with h1 | h1
 ·exact h1
 ·obtain ⟨k,rfl⟩:∃ k,d=ND.length + k:=⟨d - ND.length,by omega⟩;exfalso;have h2:=depN_fix (depN_end ND) k;have h3:=depN_fix (depN_end ND) (k + 1);exact h (by rw [show ND.length + k + 1=ND.length + (k + 1) by omega,h3,h2])
theorem N1 {ND:List Nd} {d:Nat} (h:depN ND (d + 1)=depN ND d):depN ND (d + 1)=depN ND ND.length:=by
 rcases Nat.lt_or_ge d ND.length with h1 | h1
 ·obtain ⟨k,hk⟩:∃ k,ND.length=d + k:=⟨ND.length - d,by omega⟩;rw [hk,depN_fix h k,h]
 ·obtain ⟨k,hk⟩:∃ k,d + 1=ND.length + k:=⟨d + 1 - ND.length,by omega⟩;rw [hk,depN_fix (depN_end ND) k]
def qm (K:List Bool) (e:Ed):Bool:=e.bare || K.getD e.to.toNat false
def Hy (n:Nd) (K:List Bool):Bool:=if n.ag < 7 then true else if n.ag=7 then n.ai.all (qm K) else n.ai.any (qm K)
theorem ji {K:List Nat}:∀ {es:List Ed} {b:Nat},0 < cf K es b↔(0 < b∨es.any (qm (ef K))=true)
 | [],b=>by
  rw [cf];by_cases h:b=0
  ·rw [if_pos h];simp [h]
  ·rw [if_neg h];simp;omega
 | e :: r,b=>by
  have hg:(ef K).getD e.to.toNat false=decide (0 < bY K e):=gz K _;rw [cf,List.any_cons];by_cases hb:e.bare=true
  ·rw [if_pos hb];simp [qm,hb]
  ·rw [if_neg hb]
   have uF:qm (ef K) e=decide (0 < bY K e):=by
    unfold qm;rw [hg];simp [hb]
   rw [uF,Bool.or_eq_true,decide_eq_true_eq];split
   ·rename_i h1;rw [ji];constructor
    ·exact fun _=>.inr (.inl h1.1)
    ·exact fun _=>.inl h1.1
   ·rename_i h1;rw [ji];constructor
    ·rintro (h | h)
     ·exact .inl h
     ·exact .inr (.inr h)
    ·rintro (h | h | h)
     ·exact .inl h
     ·by_cases ie:b=0
      ·exact (h1 ⟨h,.inl ie⟩).elim
      ·left;omega
     ·exact .inr h
theorem Hz {n:Nd} {K:List Nat} (h8:n.ag<=8) (hb:∀ e∈n.ai,e.bare=true->n.ag=8):(0 < aW n K)↔Hy n (ef K)=true:=by
 unfold aW Hy;by_cases h7:n.ag=7
 ·rw [if_pos h7,if_neg (by omega),if_pos h7,List.all_eq_true];have:0 < leastR K n.ai 0↔¬ leastR K n.ai 0=0:=by omega
  rw [this,gY];constructor
  ·intro h e he
   have h1:e.bare=false:=by
    cases qH:e.bare
    ·rfl
    ·have:=hb e he qH;omega
   have h2:¬ bY K e=0:=fun h3=>h ⟨e,he,h3⟩;have hg:(ef K).getD e.to.toNat false=decide (0 < bY K e):=gz K _;simp only [qm,h1,hg,Bool.false_or,decide_eq_true_eq];omega
  ·rintro h ⟨e,he,h3⟩
   have h1:e.bare=false:=by
    cases qH:e.bare
    ·rfl
    ·have:=hb e he qH;omega
   have hg:(ef K).getD e.to.toNat false=decide (0 < bY K e):=gz K _;have:=h e he;simp only [qm,h1,hg,Bool.false_or,decide_eq_true_eq] at this;omega
 rw [if_neg h7];by_cases h8':n.ag=8
 ·rw [if_pos h8',if_neg (by omega),if_neg h7,ji];simp
 ·rw [if_neg h8',if_pos (by omega)];simp
theorem N2 {ND:List Nd} (hN:∀ n∈ND,n.ag<=8/\∀ e∈n.ai,e.bare=true->n.ag=8) (d:Nat) {i:Nat} {n:Nd} (h:ND[i]? = some n) :
  (depN ND (d + 1)).getD i 0=(if Hy n (ef (depN ND d))=true/\(depN ND d).getD i 0=0 then d + 1 else (depN ND d).getD i 0) /\
  (ef (depN ND (d + 1))).getD i false=Hy n (ef (depN ND d)):=by
 obtain ⟨h8,hb⟩:=hN n (mG h);have hp:=Hz (K:=depN ND d) h8 hb;have hg:(depN ND (d + 1)).getD i 0=aW n (depN ND d):=by rw [depN_get,h]
 obtain ⟨h1,h2⟩:=(oc ND d) i;refine ⟨?_,?_⟩
 ·rcases Nat.eq_zero_or_pos ((depN ND d).getD i 0) with h3 | h3
  ·by_cases h4:Hy n (ef (depN ND d))=true
   ·rw [if_pos ⟨h4,h3⟩];have:=h2 h3;rw [<- hp,<- hg] at h4;omega
   ·rw [if_neg (fun h=>h4 h.1),h3];rw [<- hp,<- hg] at h4;omega
  ·rw [if_neg (by omega)];exact (h1 h3).1
 ·rw [gz,hg,Bool.eq_iff_iff,decide_eq_true_eq];exact hp
def dM (D:List Nat) (e:Ed):Bool:=e.bare || decide (0 < bY D e)
def manyN (D:List Nat) (es:List Ed):Nat:=es.countP (dM D)
def y8 (D:List Nat) (K:List Bool) (e:Ed):Bool:=dM D e && (!e.bare && K.getD e.to.toNat false)
def dW (D:List Nat) (K:List Bool) (es:List Ed):Bool:=es.any (y8 D K)
def eA (n:Nd) (D:List Nat) (K:List Bool):Bool:=
 if n.ag=1 then true
 else if n.ag=2 then decide (n.lo < n.hi)
 else if n.ag=3 then decide (0 < n.most)
 else if n.ag=4 then decide (1 < n.af.length)
 else if n.ag=5 then decide (0 < n.most) && decide (0 < manyN D n.ai)
 else if n.ag=6 then decide (0 < manyN D n.ai)
 else if n.ag=7 then dW D K n.ai && decide (manyN D n.ai=n.ai.length)
 else dW D K n.ai || decide (1 < manyN D n.ai)
def sevN (ND:List Nd) (D:List Nat):Nat->List Bool
 | 0=>List.replicate ND.length false
 | t + 1=>ND.map fun n=>eA n D (sevN ND D t)
theorem iw (ND:List Nd) (D:List Nat):∀ t,(sevN ND D t).length=ND.length
 | 0=>by simp [sevN]
 | t + 1=>by simp [sevN]
theorem sevN_get (ND:List Nd) (D:List Nat) (t j:Nat):(sevN ND D (t + 1)).getD j false=match ND[j]? with | none=>false | some n=>eA n D (sevN ND D t):=by
 simp only [sevN,List.getD_eq_getElem?_getD,List.getElem?_map];cases ND[j]?<;>rfl
theorem EJ {D:List Nat} {A B:List Bool} (h:zR A B) {es:List Ed} (hm:dW D A es=true):dW D B es=true:=by
 unfold dW at hm ⊢;rw [List.any_eq_true] at hm ⊢;obtain ⟨e,he,h1⟩:=hm;refine ⟨e,he,?_⟩;unfold y8 at h1 ⊢;simp only [Bool.and_eq_true] at h1 ⊢;exact ⟨h1.1,h1.2.1,h _ h1.2.2⟩
theorem Ch {D:List Nat} {A B:List Bool} (h:zR A B) (n:Nd) (hm:eA n D A=true):eA n D B=true:=by
 unfold eA at hm ⊢;by_cases c1:n.ag=1
 ·rw [if_pos c1]
 rw [if_neg c1] at hm ⊢;by_cases c2:n.ag=2
 ·rw [if_pos c2] at hm ⊢;exact hm
 rw [if_neg c2] at hm ⊢;by_cases c3:n.ag=3
 ·rw [if_pos c3] at hm ⊢;exact hm
 rw [if_neg c3] at hm ⊢;by_cases c4:n.ag=4
 ·rw [if_pos c4] at hm ⊢;exact hm
 rw [if_neg c4] at hm ⊢;by_cases c5:n.ag=5
 ·rw [if_pos c5] at hm ⊢;exact hm
 rw [if_neg c5] at hm ⊢;by_cases c6:n.ag=6
 ·rw [if_pos c6] at hm ⊢;exact hm
 rw [if_neg c6] at hm ⊢;by_cases c7:n.ag=7
 ·rw [if_pos c7] at hm ⊢;rw [Bool.and_eq_true] at hm ⊢;exact ⟨EJ h hm.1,hm.2⟩
 rw [if_neg c7] at hm ⊢;rw [Bool.or_eq_true] at hm ⊢;exact hm.imp (EJ h) id
theorem Ci (ND:List Nd) (D:List Nat):∀ t,zR (sevN ND D t) (sevN ND D (t + 1))
 | 0=>fun j h=>by
  rw [sevN,List.getD_eq_getElem?_getD,List.getElem?_replicate] at h;split at h<;>cases h
 | t + 1=>fun j h=>by
  rw [sevN_get] at h ⊢
  cases hn:ND[j]? with
  | none=>rw [hn] at h;cases h
  | some n=>
   rw [hn] at h;exact Ch (Ci ND D t) n h
theorem AG (ND:List Nd) (D:List Nat):∀ t,sevN ND D (t + 1)=sevN ND D t∨t<=kv (sevN ND D t)
 | 0=>.inr (Nat.zero_le _)
 | t + 1=>by
  rcases AG ND D t with h | h
  ·left;show (ND.map fun n=>eA n D (sevN ND D (t + 1)))=ND.map fun n=>eA n D (sevN ND D t);rw [h]
  ·rcases (lm (by rw [iw,iw]) (Ci ND D t)).1 with h2 | h2
   ·left;show (ND.map fun n=>eA n D (sevN ND D (t + 1)))=ND.map fun n=>eA n D (sevN ND D t);rw [<- h2]
   ·exact .inr (by omega)
theorem N3 (ND:List Nd) (D:List Nat):sevN ND D (ND.length + 1)=sevN ND D ND.length:=by
 rcases AG ND D ND.length with h | h
 ·exact h
 ·rcases (lm (by rw [iw,iw]) (Ci ND D ND.length)).1 with h2 | h2
  ·exact h2.symm
  ·have:=q6 (sevN ND D (ND.length + 1));rw [iw] at this;omega
def eX (ND:List Nd) (D:List Nat):List Bool:=sevN ND D ND.length
theorem od (ND:List Nd) (D:List Nat):(ND.map fun n=>eA n D (eX ND D))=eX ND D:=N3 ND D
theorem xY (ND:List Nd) (D:List Nat):∀ k,sevN ND D (ND.length + k)=eX ND D
 | 0=>rfl
 | k + 1=>by
  show (ND.map fun n=>eA n D (sevN ND D (ND.length + k)))=_;rw [xY ND D k,od]
theorem ui {ND:List Nd} {D:List Nat} {K:List Bool} (h:∀ j n,ND[j]? = some n->eA n D K=true->K.getD j false=true):∀ t,zR (sevN ND D t) K
 | 0=>fun j hj=>by
  rw [sevN,List.getD_eq_getElem?_getD,List.getElem?_replicate] at hj;split at hj<;>cases hj
 | t + 1=>fun j hj=>by
  rw [sevN_get] at hj
  cases hn:ND[j]? with
  | none=>rw [hn] at hj;cases hj
  | some n=>
   rw [hn] at hj;exact h j n hn (Ch (ui h t) n hj)
theorem QZ {ND:List Nd} {D:List Nat} {K:List Bool} (hl:K.length=ND.length) (h1:zR K (eX ND D)) (h:∀ j n,ND[j]? = some n->eA n D K=true->K.getD j false=true):K=eX ND D:=
 wO (by rw [hl,eX,iw]) h1 (ui h _)
theorem N4 {ND:List Nd} {D:List Nat} {K:List Bool} (h1:zR K (eX ND D)) {i:Nat} {n:Nd} (hn:ND[i]? = some n) (h2:eA n D K=true):zR (K.set i true) (eX ND D):=fun j hj=>by
 by_cases jj:i=j
 ·subst jj;have:=Ch h1 n h2;have h3:=sevN_get ND D ND.length i;rw [hn] at h3;rw [<- od];show (sevN ND D (ND.length + 1)).getD i false=true;rw [h3];exact this
 ·refine h1 j ?_;rw [List.getD_eq_getElem?_getD,List.getElem?_set_ne jj] at hj;rw [List.getD_eq_getElem?_getD];exact hj
theorem N5 {K:List Bool} {i:Nat} (hi:i < K.length) (h:K.getD i false=false):kv K < kv (K.set i true):=by
 have dq:zR K (K.set i true):=fun j hj=>by
  by_cases jj:i=j
  ·subst jj;rw [List.getD_eq_getElem?_getD,List.getElem?_set_self hi];rfl
  ·rw [List.getD_eq_getElem?_getD,List.getElem?_set_ne jj,<- List.getD_eq_getElem?_getD];exact hj
 rcases (lm (by simp) dq).1 with h2 | h2
 ·rw [h2,List.getD_eq_getElem?_getD,List.getElem?_set_self hi] at h;cases h
 ·exact h2
def iE (n:Nat):Nat:=if 2 < n then 2 else n
theorem vg (n:Nat):iE n=min 2 n:=by unfold iE;split<;>omega
def tf (K:List Nat) (e:Ed):Nat:=if e.bare=true then 1 else bY K e
def sumC (K:List Nat):List Ed->Nat->Nat
 | [],a=>a
 | e :: r,a=>sumC K r (iE (a + tf K e))
def pW (K:List Nat):List Ed->Nat->Nat
 | [],a=>a
 | e :: r,a=>pW K r (iE (a * tf K e))
def gM (n:Nd) (K:List Nat):Nat:=
 if n.ag=1 then 2
 else if n.ag=2 then (if n.lo < n.hi then 2 else 1)
 else if n.ag=3 then iE (1 + n.most.toNat)
 else if n.ag=4 then iE n.af.length
 else if n.ag=5 then (if n.most=0 then 1 else iE (1 + sumC K n.ai 0))
 else if n.ag=6 then iE (1 + sumC K n.ai 0)
 else if n.ag=7 then pW K n.ai 1
 else sumC K n.ai 0
def qF (d:Nat) (s:Bool):Nat:=if d=0 then 0 else if s=true then 2 else 1
def qL (D:List Nat) (S:List Bool):List Nat:=(List.range D.length).map fun i=>qF (D.getD i 0) (S.getD i false)
theorem N6 (D:List Nat) (S:List Bool):(qL D S).length=D.length:=by simp [qL]
theorem Cj (D:List Nat) (S:List Bool) (j:Nat):(qL D S).getD j 0=qF (D.getD j 0) (S.getD j false):=by
 unfold qL;rw [List.getD_eq_getElem?_getD,List.getElem?_map];by_cases h:j < D.length
 ·rw [List.getElem?_range h];all_goals rfl
 ·rw [List.getElem?_eq_none (sU h),List.getD_eq_getElem?_getD (l:=D),List.getElem?_eq_none (by omega)];all_goals rfl
theorem N7 (D:List Nat) (S:List Bool) (e:Ed):tf (qL D S) e=if dM D e=true then (if y8 D S e=true then 2 else 1) else 0:=by
 unfold tf y8 dM;by_cases hb:e.bare=true
 ·rw [if_pos hb,hb];simp
 ·have hb:e.bare=false:=sU hb;rw [if_neg (by rw [hb];simp),hb];unfold bY;rw [Cj];unfold qF;by_cases h0:D.getD e.to.toNat 0=0
  ·rw [if_pos h0,h0];simp
  ·rw [if_neg h0];generalize D.getD e.to.toNat 0=d at h0 ⊢;generalize S.getD e.to.toNat false=s;have:0 < d:=by omega
   simp [this]
def tg (D:List Nat) (S:List Bool) (es:List Ed):Nat:=(es.map (tf (qL D S))).sum
theorem N8 {D:List Nat} {S:List Bool} {e:Ed} (h:y8 D S e=true):dM D e=true:=by
 unfold y8 at h;rw [Bool.and_eq_true] at h;exact h.1
theorem xZ (D:List Nat) (S:List Bool):∀ es:List Ed,manyN D es<=tg D S es/\tg D S es<=2 * manyN D es/\(dW D S es=true->2<=tg D S es)/\(dW D S es=false->tg D S es=manyN D es)
 | []=>by simp [manyN,tg,dW]
 | e :: r=>by
  obtain ⟨h1,h2,h3,h4⟩:=xZ D S r;have hv:=N7 D S e;have hs:tg D S (e :: r)=tf (qL D S) e + tg D S r:=by simp [tg]
  have hm:manyN D (e :: r)=(if dM D e=true then 1 else 0) + manyN D r:=by simp [manyN,List.countP_cons];omega
  have KH:dW D S (e :: r)=(y8 D S e || dW D S r):=by simp [dW]
  rw [hs,hm,KH,hv];by_cases ht:dM D e=true
  ·rw [if_pos ht,if_pos ht];by_cases hx:y8 D S e=true
   ·rw [if_pos hx,hx];exact ⟨by omega,by omega,fun _=>by omega,fun h=>by simp at h⟩
   ·have rN:y8 D S e=false:=sU hx;rw [if_neg hx,rN,Bool.false_or];exact ⟨by omega,by omega,fun h=>by have:=h3 h;omega,fun h=>by have:=h4 h;omega⟩
  ·have rN:y8 D S e=false:=by
    cases hx:y8 D S e
    ·rfl
    ·exact absurd (N8 hx) ht
   rw [if_neg ht,if_neg ht,rN,Bool.false_or];exact ⟨by omega,by omega,fun h=>by have:=h3 h;omega,fun h=>by have:=h4 h;omega⟩
theorem I4 (D:List Nat) (S:List Bool):∀ (es:List Ed) (a:Nat),a<=2->sumC (qL D S) es a=min 2 (a + tg D S es)
 | [],a,h=>by simp [sumC,tg];omega
 | e :: r,a,h=>by
  have hs:tg D S (e :: r)=tf (qL D S) e + tg D S r:=by simp [tg]
  rw [sumC,I4 D S r _ (by unfold iE;split<;>omega),hs];unfold iE;split<;>omega
theorem I5 (D:List Nat) (S:List Bool):∀ (es:List Ed) (a:Nat),a<=2->pW (qL D S) es a=if a=0∨manyN D es < es.length then 0 else if a=2∨dW D S es=true then 2 else 1
 | [],a,h=>by
  rw [pW];have h1:manyN D []=0:=rfl;have h2:dW D S []=false:=rfl;rw [h1,h2];simp only [List.length_nil,Nat.lt_irrefl,or_false,Bool.false_eq_true];split
  ·omega
  ·split<;>omega
 | e :: r,a,h=>by
  have hv:=N7 D S e;have hm:manyN D (e :: r)=(if dM D e=true then 1 else 0) + manyN D r:=by simp [manyN,List.countP_cons];omega
  have KH:dW D S (e :: r)=(y8 D S e || dW D S r):=by simp [dW]
  have dq:manyN D r<=r.length:=List.countP_le_length;have aj:(1 + manyN D r < r.length + 1)↔(manyN D r < r.length):=by omega
  rw [pW,I5 D S r _ (by unfold iE;split<;>omega),hm,KH,hv,List.length_cons];by_cases ht:dM D e=true
  ·rw [if_pos ht,if_pos ht];by_cases hx:y8 D S e=true
   ·rw [if_pos hx,hx,Bool.true_or];simp only [aj];rcases (show a=0∨a=1∨a=2 by omega) with rfl | rfl | rfl
    ·simp [iE]
    ·simp [iE]
    ·simp [iE]
   ·have rN:y8 D S e=false:=sU hx;rw [if_neg hx,rN,Bool.false_or,Nat.mul_one];have hc:iE a=a:=by unfold iE;split<;>omega
    rw [hc];simp only [aj]
  ·rw [if_neg ht,if_neg ht,Nat.mul_zero];have h0:iE 0=0:=rfl;rw [h0,if_pos (.inl rfl),if_pos (.inr (by omega))]
theorem KI {L N:Nat} {n:Nd} {D:List Nat} {S:List Bool} (hn:cz L N n) (hd:0 < aW n D):gM n (qL D S)=if eA n D S=true then 2 else 1:=by
 obtain ⟨s1,s2,s3,s4⟩:=xZ D S n.ai;have hs:=I4 D S n.ai 0 (by omega);have ha:=I5 D S n.ai 1 (by omega);have jG:=hn.k1;have Hr:=hn.k8;unfold gM eA;by_cases c1:n.ag=1
 ·rw [if_pos c1,if_pos c1];all_goals rfl
 rw [if_neg c1,if_neg c1];by_cases c2:n.ag=2
 ·rw [if_pos c2,if_pos c2];simp
 rw [if_neg c2,if_neg c2];by_cases c3:n.ag=3
 ·rw [if_pos c3,if_pos c3];have:=hn.IW c3;rw [vg];by_cases hm:0 < n.most
  ·rw [if_pos (sU hm)];omega
  ·rw [if_neg (sU hm)];omega
 rw [if_neg c3,if_neg c3];by_cases c4:n.ag=4
 ·rw [if_pos c4,if_pos c4];have:=List.length_pos_iff.2 (hn.af c4).1;rw [vg];by_cases hm:1 < n.af.length
  ·rw [if_pos (sU hm)];omega
  ·rw [if_neg (sU hm)];omega
 rw [if_neg c4,if_neg c4];by_cases c5:n.ag=5
 ·rw [if_pos c5,if_pos c5];have:=hn.ua c5;by_cases hm:n.most=0
  ·rw [if_pos hm,hm];simp
  ·rw [if_neg hm,hs];have lA:0 < n.most:=by omega
   rw [vg];by_cases hy:0 < manyN D n.ai
   ·rw [if_pos (by simp [lA,hy])];omega
   ·rw [if_neg (by simp [hy])];omega
 rw [if_neg c5,if_neg c5];by_cases c6:n.ag=6
 ·rw [if_pos c6,if_pos c6,hs];rw [vg];by_cases hy:0 < manyN D n.ai
  ·rw [if_pos (by simp [hy])];omega
  ·rw [if_neg (by simp [hy])];omega
 rw [if_neg c6,if_neg c6];by_cases c7:n.ag=7
 ·rw [if_pos c7,if_pos c7,ha];unfold aW at hd;rw [if_pos c7] at hd
  have fo:manyN D n.ai=n.ai.length:=by
   unfold manyN;rw [List.countP_eq_length];intro e he
   have:¬ bY D e=0:=fun h=>by
    have:=gY (K:=D) (es:=n.ai) (m:=0) |>.2 ⟨e,he,h⟩
    omega
   unfold dM;simp;right;omega
  rw [if_neg (by omega),fo];simp
 rw [if_neg c7,if_neg c7,hs];unfold aW at hd;rw [if_neg c7,if_pos (by omega)] at hd
 have hex:0 < manyN D n.ai:=by
  have h1:=(ji.1 hd).resolve_left (by omega);unfold manyN;rw [List.countP_pos_iff];rw [List.any_eq_true] at h1;obtain ⟨e,he,h2⟩:=h1;refine ⟨e,he,?_⟩;unfold qm at h2;unfold dM;have:(ef D).getD e.to.toNat false=decide (0 < bY D e):=gz D _;rw [this] at h2;exact h2
 by_cases hm:dW D S n.ai=true
 ·have:=s3 hm;rw [if_pos (by simp [hm])];omega
 ·have lA:dW D S n.ai=false:=sU hm;have:=s4 lA;by_cases hy:1 < manyN D n.ai
  ·rw [if_pos (by simp [hy])];omega
  ·rw [if_neg (by simp [lA,hy])];omega
theorem x4 {L N:Nat} {n:Nd} {D:List Nat} {S:List Bool} (hn:cz L N n) (h:eA n D S=true):0 < aW n D:=by
 have jG:=hn.k1;have Hr:=hn.k8;unfold eA at h;unfold aW;by_cases c7:n.ag=7
 ·rw [if_pos c7];simp only [c7] at h;simp only [Int.reduceEq,if_false,if_true,Bool.and_eq_true,decide_eq_true_eq] at h;have h2:=h.2;unfold manyN at h2;rw [List.countP_eq_length] at h2;refine Nat.pos_of_ne_zero fun h0=>?_;obtain ⟨e,he,hz⟩:=gY.1 h0;have:=h2 e he;unfold dM at this
  have hb:e.bare=false:=by
   cases hb:e.bare
   ·rfl
   ·have:=hn.bare e he hb;omega
  rw [hb,hz] at this;simp at this
 rw [if_neg c7];by_cases c8:n.ag=8
 ·rw [if_pos c8];simp only [c8] at h;simp only [Int.reduceEq,if_false,Bool.or_eq_true,decide_eq_true_eq] at h;refine ji.2 (.inr ?_)
  have key:∀ e∈n.ai,dM D e=true->n.ai.any (qm (ef D))=true:=fun e he ht=>by
   rw [List.any_eq_true];refine ⟨e,he,?_⟩;unfold qm;have:(ef D).getD e.to.toNat false=decide (0 < bY D e):=gz D _;rw [this];exact ht
  rcases h with h | h
  ·unfold dW at h;rw [List.any_eq_true] at h;obtain ⟨e,he,hm⟩:=h;exact key e he (N8 hm)
  ·have h:0 < manyN D n.ai:=by omega
   unfold manyN at h;rw [List.countP_pos_iff] at h;obtain ⟨e,he,ht⟩:=h;exact key e he ht
 ·rw [if_neg c8];omega
theorem Q0 {L:Nat} {ND:List Nd} {D:List Nat} (bm:∀ n∈ND,cz L ND.length n) (hl:D.length=ND.length) (eL:∀ j,D.getD j 0=match ND[j]? with | none=>0 | some n=>aW n D) (t:Nat) {i:Nat} {n:Nd} (hn:ND[i]? = some n) :
  (qL D (sevN ND D (t + 1))).getD i 0=if D.getD i 0=0 then 0 else gM n (qL D (sevN ND D t)):=by
 have h1:=eL i;rw [hn] at h1;have h1:D.getD i 0=aW n D:=h1;rw [Cj,sevN_get,hn];unfold qF;by_cases h0:D.getD i 0=0
 ·rw [if_pos h0,if_pos h0]
 ·rw [if_neg h0,if_neg h0,KI (bm n (mG hn)) (by omega)]
def cN (l:List Nat):List DV:=l.map fun (z:Nat)=>DV.v (.int .i64 (z:Int))
theorem lu (l:List Nat):(cN l).length=l.length:=by simp [cN]
theorem Ck {l:List Nat} {i z:Nat} (h:l[i]? = some z):(cN l)[i]? = some (DV.v (.int .i64 (z:Int))):=by simp [cN,h]
theorem mN (l:List Nat) (i z:Nat):(cN l).set i (DV.v (.int .i64 (z:Int)))=cN (l.set i z):=by simp [cN,List.map_set]
theorem x5 (l:List Nat):(dInts l).flatten=cN l:=by
 induction l with
 | nil=>rfl
 | cons b r ih=>simp only [dInts,cN,List.map_cons,List.flatten_cons] at ih ⊢;rw [ih];all_goals rfl
theorem uL (n:Nat):(List.replicate n (vL [Value.int .i64 0])).flatten=cN (List.replicate n 0):=by
 induction n with
 | zero=>rfl
 | succ n ih=>simp only [List.replicate_succ,List.flatten_cons,ih];rfl
theorem bB {n m:Nat} {tk:List TkE} {l:List DV} {r:List Nat} (h:l=cN r):WeL n m tk l (cN r):=by
 subst h;refine wI _ fun x hx=>?_;obtain ⟨z,_,rfl⟩:=List.mem_map.1 hx;exact ⟨_,rfl⟩
theorem Cm {bx:List (List DV)} {N n0 m0 n i:Nat} {r:List Nat} (hr:r.length=n) (hN:N<=i) (hb:bx[i]? = some (cN r)):Cc bx N n0 m0 (.sl 1 (dInts r) none) (.ms i 1 0 n n):=by
 simp only [Cc];refine Or.inr (Or.inr (Or.inl ⟨i,0,n,_,by rw [aZ,hr],hN,hb,?_,?_,?_⟩))
 ·rw [x5,List.drop_zero,List.take_of_length_le (by rw [lu,aZ];omega)]
 ·intro x hx;simp only [dInts,List.mem_map] at hx;obtain ⟨_,_,rfl⟩:=hx;rfl
 ·intro x hx;rw [x5] at hx;obtain ⟨_,_,rfl⟩:=List.mem_map.1 hx;exact ⟨_,rfl⟩
abbrev ZB (PC:List DV) (ND:List Nd) (q e:Nat):St:=
 ⟨[(0,⟨[],.pt PC 0⟩),(3,⟨[],.sl 7 (bh (ND.take e)) (some 0)⟩),(8,⟨[],.v (.int .i64 ND.length)⟩),(9,⟨[],.v (.int .i64 e)⟩)],[],[⟨q,105,7,none⟩]⟩
theorem ti {l:List Nd} {e:Nat} {n:Nd} (h:l[e]? = some n):bh (l.take e) ++ [gv n]=bh (l.take (e + 1)):=by
 rw [List.take_add_one,h];simp [bh]
theorem ru {S:Sch} {ND:List Nd} {PC:List DV} (hP:eW S ND PC) :
  aQ prog 180 [.pt PC 0] (.sl 7 (bh ND) none):=by
 have h1:=hP.len;have h2:=hP.ak;have fc:=hP.nl;refine eG 24 [.tmp 2] func180 rfl ntmps180 rfl fun _ _ _ _=>?_;refine cP Dp h1 ?_;refine lJ (fun e=>ZB PC ND e e) ND.length (fu ⟨0,105,7,none⟩ rfl ⟨_,rfl⟩ rfl wA rfl rfl lY) ?_;intro e he;refine br ?_ ?_<;>intro hL
 ·have aj:e < ND.length:=by have:=hL;simp at this;exact this
  obtain ⟨n,hn⟩:=gX aj;have cR:(bh (ND.take e)).length=e:=by rw [cp,List.length_take];omega
  refine cP Gg (h2 e n hn) ?_;refine ⟨cR,⟨by rw [cR];simp [maxLen];omega,by rw [cR];simp;omega⟩,?_⟩;exact rE ⟨_,by omega,e + 1,rfl,by omega,rfl⟩ (ah ⟨_,rfl⟩ wA rfl rfl rfl (wB2 (aF aj (by omega)) (ti hn)))
 ·have aM:e=ND.length:=by have:=hL;simp at this;omega
  subst aM;rw [List.take_length];exact ⟨_,ax,rfl⟩
abbrev S8 (K:List Nat) (es:List Ed) (m e:Nat):St:=
 ⟨[(1,⟨[],.sl 1 (dInts K) none⟩),(5,⟨[],.v (.int .i64 m)⟩),(16,⟨[],.sl 10 (cw es) none⟩),(17,⟨[],.v (.int .i64 (cw es).length)⟩),(18,⟨[],.v (.int .i64 e)⟩)],[],[]⟩
abbrev EK (K:List Nat) (es:List Ed) (m e:Nat):St:=
 ⟨[(1,⟨[],.sl 1 (dInts K) none⟩),(8,⟨[],.v (.int .i64 m)⟩),(41,⟨[],.sl 10 (cw es) none⟩),(42,⟨[],.v (.int .i64 (cw es).length)⟩),(43,⟨[],.v (.int .i64 e)⟩)],[],[]⟩
theorem Cn {L:Nat} {n:Nd} (K:List Nat) (hK:K.length<=1099511627776) (hn:cz L K.length n) (hz:∀ z∈K,z<=1099511627776) (dY:n.ai.length<=1099511627776) :
  aQ prog 181 [.agg (gv n),.sl 1 (dInts K) none] (.v (.int .i64 (aW n K:Nat))):=by
 have aU:=hn.fD;have cS:=hn.bare;obtain ⟨ag,aS,lo,hi,most,af,es⟩:=n;simp only at aU cS dY;refine eG 80 [.tmp 4] func181 rfl ntmps181 rfl fun _ _ _ _=>?_;refine br ?_ ?_<;>intro h7
 ·have h7:ag=7:=sU h7;have hF:aW ⟨ag,aS,lo,hi,most,af,es⟩ K=leastR K es 0:=by simp [aW,h7]
  rw [hF];refine lI (fun j st=>∃ e m:Nat,st=S8 K es m e/\e<=es.length/\m<=1099511627776/\leastR K es 0=leastR K (es.drop e) m/\j=es.length - e) ⟨0,0,rfl,by omega,by omega,rfl,rfl⟩ (ah ⟨_,rfl⟩ wA rfl rfl rfl wB) ?_;rintro j st ⟨e,m,rfl,he,hm,aJ,rfl⟩;refine br ?_ ?_<;>intro hL
  ·have aj:e < es.length:=by have:=hL;simp [aO] at this;exact this
   obtain ⟨x,hx⟩:=gX aj;rw [drop_cons hx,leastR] at aJ;have LL:=aU x (mG hx)
   have nv:x.bare=false:=by
    cases hb:x.bare
    ·rfl
    ·have:=cS x (mG hx) hb;omega
   obtain ⟨k,hk,ee⟩:=LL.to1 nv;obtain ⟨z,hz1⟩:∃ z,K[k]? = some z:=⟨_,gE ee⟩;have Wi:=hz z (mG hz1);have yC:bY K x=z:=by simp [bY,hk,List.getD_eq_getElem?_getD,hz1]
   have hg:(dInts K)[x.to.toNat]? = some [DV.v (.int .i64 (z:Int))]:=by rw [hk];exact aD hz1
   rw [yC] at aJ;refine iX (aC hx) ?_;refine ⟨_,⟨by omega,hg⟩,?_⟩;refine br ?_ ?_<;>intro g
   ·have g:z=0:=sU g;rw [aJ,if_pos g];exact (rfl:_=_)
   ·have g:¬ z=0:=sU g;rw [if_neg g] at aJ;refine ⟨_,⟨by omega,hg⟩,?_⟩;exact ⟨S8 K es (max m z) (e + 1),(ah ⟨_,rfl⟩ wA rfl rfl rfl (wB2 (show max (m:Int) z=((max m z:Nat):Int) by omega) (aF aj (by omega)))),es.length - (e + 1),by omega,e + 1,_,rfl,by omega,by omega,aJ,rfl⟩
  ·have aM:e=es.length:=by have:=hL;simp [aO] at this;omega
   subst aM;rw [List.drop_length,leastR] at aJ;have hw:IntKind.i64.wrap ((m:Int) + 1)=((m + 1:Nat):Int):=by rw [wrap64 (by omega) (by omega)];omega
   rw [aJ];refine (congrArg (fun z=>DV.v (.int .i64 z)) ?_:_=_);exact hw
 have h7:¬ ag=7:=sU h7;refine br ?_ ?_<;>intro h8
 ·have h8:ag=8:=sU h8;have hF:aW ⟨ag,aS,lo,hi,most,af,es⟩ K=cf K es 0:=by simp [aW,h8]
  rw [hF];refine lI (fun j st=>∃ e m:Nat,st=EK K es m e/\e<=es.length/\m<=1099511627776/\cf K es 0=cf K (es.drop e) m/\j=es.length - e) ⟨0,0,rfl,by omega,by omega,rfl,rfl⟩ (ah ⟨_,rfl⟩ wA rfl rfl rfl wB) ?_;rintro j st ⟨e,m,rfl,he,hm,aJ,rfl⟩;refine br ?_ ?_<;>intro hL
  ·have aj:e < es.length:=by have:=hL;simp [aO] at this;exact this
   obtain ⟨x,hx⟩:=gX aj;rw [drop_cons hx,cf] at aJ;have LL:=aU x (mG hx);refine iX (aC hx) ?_;refine br ?_ ?_<;>intro hb
   ·have hb:x.bare=true:=hb;rw [aJ,if_pos hb];exact (rfl:_=_)
   have hb:x.bare=false:=hb;rw [if_neg (by rw [hb];decide)] at aJ;obtain ⟨k,hk,ee⟩:=LL.to1 hb;obtain ⟨z,hz1⟩:∃ z,K[k]? = some z:=⟨_,gE ee⟩;have Wi:=hz z (mG hz1);have yC:bY K x=z:=by simp [bY,hk,List.getD_eq_getElem?_getD,hz1]
   have hg:(dInts K)[x.to.toNat]? = some [DV.v (.int .i64 (z:Int))]:=by rw [hk];exact aD hz1
   rw [yC] at aJ;refine ⟨_,⟨by omega,hg⟩,?_⟩;have jS:¬ (0 < z/\(m=0∨z < m))->cf K es 0=cf K (es.drop (e + 1)) m:=fun h=>by rw [aJ,if_neg h]
   have take:(0 < z/\(m=0∨z < m))->cf K es 0=cf K (es.drop (e + 1)) z:=fun h=>by rw [aJ,if_pos h]
   refine br ?_ ?_<;>intro g1
   ·have g1:0 < z:=by simpa [lastG] using g1
    refine br ?_ ?_<;>intro g2
    ·have g2:¬ m=0:=sU g2;refine ⟨_,⟨by omega,hg⟩,?_⟩;refine br ?_ ?_<;>intro g3
     ·have g3:z < m:=by simpa [pickB,pickD,lastG] using g3
      refine ⟨_,⟨by omega,hg⟩,?_⟩;exact ⟨EK K es z (e + 1),(ah ⟨_,rfl⟩ wA rfl rfl rfl (cX (aF aj (by omega)))),es.length - (e + 1),by omega,e + 1,_,rfl,by omega,by omega,take ⟨g1,.inr g3⟩,rfl⟩
     ·have g3:¬ z < m:=by simpa [pickB,pickD,lastG] using g3
      exact ⟨EK K es m (e + 1),(ah ⟨_,rfl⟩ wA rfl rfl rfl (cX (aF aj (by omega)))),es.length - (e + 1),by omega,e + 1,_,rfl,by omega,by omega,jS (by omega),rfl⟩
    ·have g2:m=0:=sU g2;refine ⟨_,⟨by omega,hg⟩,?_⟩;exact ⟨EK K es z (e + 1),(ah ⟨_,rfl⟩ wA rfl rfl rfl (cX (aF aj (by omega)))),es.length - (e + 1),by omega,e + 1,_,rfl,by omega,by omega,take ⟨g1,.inl g2⟩,rfl⟩
   ·have g1:¬ 0 < z:=by simpa [lastG] using g1
    exact ⟨EK K es m (e + 1),(ah ⟨_,rfl⟩ wA rfl rfl rfl (cX (aF aj (by omega)))),es.length - (e + 1),by omega,e + 1,_,rfl,by omega,by omega,jS (by omega),rfl⟩
  ·have aM:e=es.length:=by have:=hL;simp [aO] at this;omega
   subst aM;rw [List.drop_length,cf] at aJ;refine br ?_ ?_<;>intro g
   ·have g:m=0:=sU g;rw [aJ,if_pos g];exact (rfl:_=_)
   ·have g:¬ m=0:=sU g;rw [if_neg g] at aJ;have hw:IntKind.i64.wrap ((m:Int) + 1)=((m + 1:Nat):Int):=by rw [wrap64 (by omega) (by omega)];omega
    rw [aJ];refine (congrArg (fun z=>DV.v (.int .i64 z)) ?_:_=_);exact hw
 ·have h8:¬ ag=8:=sU h8;have hF:aW ⟨ag,aS,lo,hi,most,af,es⟩ K=1:=by simp [aW,h7,h8]
  rw [hF];exact (rfl:_=_)
abbrev S9 (n:Nd) (K:List Bool) (s v:Bool) (e:Nat):St:=
 ⟨[(1,⟨[],.sl 1 (ql K) none⟩),(2,⟨[],.loc 0 0⟩),(5,⟨[],.v (.bool s)⟩),(6,⟨[],.v (.bool v)⟩),(7,⟨[],.v (.int .i64 e)⟩)],[gv n],[]⟩
theorem HA {L:Nat} {n:Nd} (K:List Bool) (hK:K.length<=1099511627776) (hn:cz L K.length n) (dY:n.ai.length<=1099511627776) :
  aQ prog 129 [.agg (gv n),.sl 1 (ql K) none] (.v (.bool (Hy n K))):=by
 have aU:=hn.fD;have cS:=hn.bare;have Hr:=hn.k8;obtain ⟨ag,aS,lo,hi,most,af,es⟩:=n;simp only at aU cS dY Hr;refine eG 50 [.tmp 4] func129 rfl ntmps129 rfl fun _ _ _ _=>?_;refine br ?_ ?_<;>intro h7
 ·have h7:ag < 7:=sU h7;refine (congrArg (fun b=>DV.v (.bool b)) ?_:_=_);simp [Hy,h7]
 have h7:¬ ag < 7:=sU h7;refine bo (fun j st=>∃ e:Nat,st=S9 ⟨ag,aS,lo,hi,most,af,es⟩ K ((es.take e).any (qm K)) ((es.take e).all (qm K)) e/\e<=es.length/\j=es.length - e) es.length (S9 ⟨ag,aS,lo,hi,most,af,es⟩ K false true 0) (ah ⟨_,rfl⟩ wA rfl rfl rfl wB) ⟨0,by simp,by omega,by omega⟩ ?_;rintro j st ⟨e,rfl,he,rfl⟩;refine br ?_ ?_<;>intro hL
 ·have aj:e < es.length:=by have:=hL;simp [aO] at this;exact this
  obtain ⟨x,hx⟩:=gX aj;refine iX (aC hx) ?_;have hs:(es.take (e + 1)).any (qm K)=((es.take e).any (qm K) || qm K x):=by rw [List.take_add_one,hx];simp
  have hv:(es.take (e + 1)).all (qm K)=((es.take e).all (qm K) && qm K x):=by rw [List.take_add_one,hx];simp
  generalize (es.take e).any (qm K)=s at hs ⊢;generalize (es.take e).all (qm K)=v at hv ⊢;refine br ?_ ?_<;>intro hb
  ·have hb:x.bare=false:=sU hb;obtain ⟨k,hk,ee⟩:=(aU x (mG hx)).to1 hb;obtain ⟨b,o9⟩:∃ b,K[k]? = some b:=⟨_,gE ee⟩;have hg:(ql K)[(max x.to 0).toNat]? = some [DV.v (.bool b)]:=by rw [show (max x.to 0).toNat=k by omega];exact rk o9
   have Wj:qm K x=b:=by unfold qm;rw [hb,hk];simp [List.getD_eq_getElem?_getD,o9]
   rw [Wj] at hs hv;refine iX (aC hx) ?_;refine ⟨_,⟨by omega,hg⟩,?_⟩;have e5:pickB s true b=(es.take (e + 1)).any (qm K):=by rw [hs,au]
   have e6:pickB v b false=(es.take (e + 1)).all (qm K):=by rw [hv,aq]
   exact rE ⟨_,by omega,e + 1,rfl,by omega,rfl⟩ (ah ⟨_,rfl⟩ wA rfl rfl rfl (yx e5 e6 (aF aj (by omega))))
  ·have hb:x.bare=true:=sU hb;have Wj:qm K x=true:=by unfold qm;rw [hb];all_goals rfl
   rw [Wj] at hs hv;have e5:pickB s true true=(es.take (e + 1)).any (qm K):=by rw [hs,au]
   have e6:pickB v true false=(es.take (e + 1)).all (qm K):=by rw [hv,aq]
   exact rE ⟨_,by omega,e + 1,rfl,by omega,rfl⟩ (ah ⟨_,rfl⟩ wA rfl rfl rfl (yx e5 e6 (aF aj (by omega))))
 ·have aM:e=es.length:=by have:=hL;simp [aO] at this;omega
  subst aM;rw [List.take_length];refine br ?_ ?_<;>intro g
  ·have g:ag=7:=sU g;refine (congrArg (fun b=>DV.v (.bool b)) ?_:_=_);simp [Hy,g]
  ·have g:¬ ag=7:=sU g;refine (congrArg (fun b=>DV.v (.bool b)) ?_:_=_);simp [Hy,g,h7]
theorem Q1 {bx:List (List DV)} {N n0 m0 n i:Nat} {r:List Bool} (hr:r.length=n) (hN:N<=i) (hb:bx[i]? = some (cB r)):Cc bx N n0 m0 (.sl 1 (ql r) none) (.ms i 1 0 n n):=by
 simp only [Cc];refine Or.inr (Or.inr (Or.inl ⟨i,0,n,_,by rw [va,hr],hN,hb,?_,?_,?_⟩))
 ·rw [rm,List.drop_zero,List.take_of_length_le (by rw [pQ,va];omega)]
 ·intro x hx;simp only [ql,List.mem_map] at hx;obtain ⟨_,_,rfl⟩:=hx;rfl
 ·intro x hx;rw [rm] at hx;obtain ⟨_,_,rfl⟩:=List.mem_map.1 hx;exact ⟨_,rfl⟩
theorem N9 (l:List Nat) (bx:List (List DV)) (N n m:Nat):CcL bx N n m (cN l) (cN l):=by
 induction l with
 | nil=>rfl
 | cons a r ih=>exact ⟨_,_,rfl,rfl,ih⟩
abbrev wG (a b:Nat) (A B:List (List DV)) (ND:List Nd) (z:Int):List DV:=[.sl a A none,.sl b B none,.sl 7 (bh ND) none,.v (.int .i64 z)]
abbrev Oa (W:List DV) (O:List Nat) (K:List Bool) (n d:Nat):St:=
 ⟨[(1,⟨[],.loc 0 0⟩),(3,⟨[],.ms 1 1 0 n n⟩),(4,⟨[],.sl 1 (ql K) none⟩),(5,⟨[],.v (.int .i64 d)⟩)],[W,cN O],[]⟩
abbrev I6 (W:List DV) (O:List Nat) (K:List Bool) (M:List Bool) (n d e:Nat):St:=
 ⟨[(1,⟨[],.loc 0 0⟩),(3,⟨[],.ms 1 1 0 n n⟩),(4,⟨[],.sl 1 (ql K) none⟩),(5,⟨[],.v (.int .i64 d)⟩),(6,⟨[],.ms 2 1 0 n n⟩),(7,⟨[],.v (.int .i64 e)⟩)],[W,cN O,cB M],[]⟩
theorem pk (a b:Nat) (A B:List (List DV)) {ND:List Nd} {L:Nat} (z:Int) (bm:∀ n∈ND,cz L ND.length n) (fc:ND.length<=1099511627776) (bL:∀ n∈ND,n.ai.length<=1099511627776) :
  aQ prog 63 [.agg (wG a b A B ND z)] (.sl 1 (dInts (depN ND ND.length)) none):=by
 have bA:=cp ND;refine eG 61 [.tmp 2] func63 rfl ntmps63 rfl fun _ _ _ _=>?_;refine ⟨⟨rfl,by omega,by rw [bA];omega,by rw [bA];omega⟩,?_⟩;refine ⟨⟨rfl,by omega,by rw [bA];omega,by rw [bA];omega⟩,?_⟩;refine BS (fun j st=>∃ d:Nat,st=Oa (wG a b A B ND z) (depN ND d) (ef (depN ND d)) (bh ND).length (d + 1)/\d<=ND.length/\j=ND.length - d) ND.length (Oa (wG a b A B ND z) (depN ND 0) (ef (depN ND 0)) (bh ND).length 1) (.CS 2 rfl rfl ?_ rfl ?_) ⟨0,rfl,by omega,by omega⟩ ?_
 ·refine ⟨_,_,rfl,ax,_,_,rfl,?_,rfl⟩;rw [uL,bA];exact N9 _ _ _ _ _
 ·refine ⟨⟨_,rfl,lZ⟩,⟨_,rfl,lZ⟩,⟨_,rfl,Q1 (by rw [gA,bp,bA];omega) (Nat.le_refl _) ?_⟩,⟨_,rfl,ax⟩,trivial⟩;refine congrArg some ?_;rw [Ec,bA];simp [ef,depN]
 rintro j st ⟨d,rfl,hd,rfl⟩;have mZ:(ef (depN ND d)).length=ND.length:=by rw [gA,bp]
 refine br ?_ ?_<;>intro hc
 ·have aj:d < ND.length:=sW bA hc;refine ⟨⟨rfl,by omega,by rw [bA];omega,by rw [bA];omega⟩,?_⟩;refine lI (fun j st=>∃ (e:Nat) (O:List Nat) (M:List Bool),st=I6 (wG a b A B ND z) O (ef (depN ND d)) M (bh ND).length (d + 1) e/\e<=ND.length/\O.length=ND.length/\M.length=ND.length/\(∀ i:Nat,i < e->O.getD i 0=(depN ND (d + 1)).getD i 0/\M.getD i false=(ef (depN ND (d + 1))).getD i false)/\(∀ i:Nat,e<=i->O.getD i 0=(depN ND d).getD i 0)/\j=ND.length - e) ⟨0,_,_,rfl,by omega,by rw [bp],by rw [List.length_replicate,bA];omega,fun i hi=>by omega,fun i _=>rfl,rfl⟩ (ap 3 rfl (by repeat' (first | exact rfl | exact ay rfl | exact bB rfl | exact bR (Ec _) | refine ⟨_,_,rfl,?_,?_⟩)) rfl rfl rfl (by repeat' (first | exact trivial | exact ay rfl | exact bB rfl | exact bR (Ec _) | refine ⟨⟨_,rfl,?_⟩,?_⟩))) ?_;rintro j st ⟨e,O,M,rfl,he,hO,hM,nq,vC,rfl⟩;refine br ?_ ?_<;>intro hL
  ·have dq:e < ND.length:=by have:=hL;simp [bA] at this;exact this
   obtain ⟨n,hn⟩:∃ n,ND[e]? = some n:=⟨_,gE dq⟩;have iy:=mG hn;have h1:=HA (ef (depN ND d)) (by rw [mZ];exact fc) (n:=n) (by rw [mZ];exact bm n iy) (bL n iy);obtain ⟨r1,r2⟩:=N2 (fun m hm=>⟨(bm m hm).k8,(bm m hm).bare⟩) d hn;refine iX (bV hn) ?_;refine cP XC h1 ?_
   have aR:(cB M).set (0 + (e:Int).toNat * 1) (DV.v (.bool (Hy n (ef (depN ND d)))))=cB (M.set e (Hy n (ef (depN ND d)))):=by
    rw [show 0 + (e:Int).toNat * 1=e by omega,xq]
   have Qv:(cB (M.set e (Hy n (ef (depN ND d)))))[0 + (e:Int).toNat * 1]? = some (DV.v (.bool (Hy n (ef (depN ND d))))):=by
    rw [show 0 + (e:Int).toNat * 1=e by omega];exact G8 (List.getElem?_set_self (by omega))
   obtain ⟨q,hq⟩:∃ q,O[e]? = some q:=⟨_,gE (by omega)⟩;have hqd:(depN ND d).getD e 0=q:=by rw [<- vC e (Nat.le_refl _),List.getD_eq_getElem?_getD,hq];all_goals rfl
   rw [hqd] at r1
   have hMs:∀ i:Nat,i < e + 1->(M.set e (Hy n (ef (depN ND d)))).getD i false=(ef (depN ND (d + 1))).getD i false:=fun i hi=>by
    by_cases yA:i=e
    ·subst yA;rw [r2,List.getD_eq_getElem?_getD,List.getElem?_set_self (by omega)];all_goals rfl
    ·rw [List.getD_eq_getElem?_getD,List.getElem?_set_ne (Ne.symm yA),<- List.getD_eq_getElem?_getD];exact (nq i (by omega)).2
   generalize Hy n (ef (depN ND d))=h at aR Qv r1 hMs ⊢;refine ⟨⟨by omega,by rw [bA];omega⟩,?_⟩;refine ⟨by rw [pQ];omega,?_⟩;refine ⟨⟨by omega,by rw [bA];omega⟩,?_⟩;refine ⟨DV.v (.bool h),(by rw [aR];exact Qv),?_⟩
   have hOs:∀ v,v=(depN ND (d + 1)).getD e 0->∀ i:Nat,i < e + 1->(O.set e v).getD i 0=(depN ND (d + 1)).getD i 0:=fun v hv i hi=>by
    by_cases yA:i=e
    ·subst yA;rw [<- hv,List.getD_eq_getElem?_getD,List.getElem?_set_self (by omega)];all_goals rfl
    ·rw [List.getD_eq_getElem?_getD,List.getElem?_set_ne (Ne.symm yA),<- List.getD_eq_getElem?_getD];exact (nq i (by omega)).1
   have hOr:∀ v:Nat,∀ i:Nat,e + 1<=i->(O.set e v).getD i 0=(depN ND d).getD i 0:=fun v i hi=>by
    rw [List.getD_eq_getElem?_getD,List.getElem?_set_ne (by omega),<- List.getD_eq_getElem?_getD];exact vC i (by omega)
   have hOq:O.set e q=O:=List.ext_getElem? fun i=>by
    by_cases yA:e=i
    ·subst yA;rw [List.getElem?_set_self (by omega),hq]
    ·rw [List.getElem?_set_ne yA]
   refine br ?_ ?_<;>intro g
   ·have g:h=true:=sU g;refine ⟨⟨by omega,by rw [bA];omega⟩,?_⟩;refine ⟨DV.v (.int .i64 (q:Int)),(by rw [show 0 + (e:Int).toNat * 1=e by omega];exact Ck hq),?_⟩;refine br ?_ ?_<;>intro g2
    ·have g2:q=0:=by simpa [pickB,pickD] using g2
     rw [if_pos ⟨g,g2⟩] at r1;refine ⟨⟨by omega,by rw [bA];omega⟩,?_⟩;refine ⟨by rw [lu];omega,?_⟩
     have zt:(cN O).set (0 + (e:Int).toNat * 1) (DV.v (.int .i64 ((d + 1:Nat):Int)))=cN (O.set e (d + 1)):=by
      rw [show 0 + (e:Int).toNat * 1=e by omega,mN]
     exact ⟨I6 (wG a b A B ND z) (O.set e (d + 1)) (ef (depN ND d)) (M.set e h) (bh ND).length (d + 1) (e + 1),(ap 3 rfl (PM zt aR (aF dq (by omega))) rfl rfl rfl (yx zt aR (aF dq (by omega)))),ND.length - (e + 1),by omega,e + 1,_,_,rfl,by omega,by simp [hO],by rw [List.length_set];exact hM,fun i hi=>⟨hOs _ r1.symm i hi,hMs i hi⟩,hOr (d + 1),rfl⟩
    ·have g2:¬ q=0:=by simpa [pickB,pickD] using g2
     rw [if_neg (fun h=>g2 h.2)] at r1;exact ⟨I6 (wG a b A B ND z) (O.set e q) (ef (depN ND d)) (M.set e h) (bh ND).length (d + 1) (e + 1),(ap 3 rfl (by repeat' (first | exact rfl | exact ay rfl | exact bB (by rw [hOq]) | exact bR aR | exact aA (aF dq (by omega)) | refine ⟨_,_,rfl,?_,?_⟩)) rfl rfl rfl (by repeat' (first | exact trivial | exact ay rfl | exact bB (by rw [hOq]) | exact bR aR | exact aA (aF dq (by omega)) | refine ⟨⟨_,rfl,?_⟩,?_⟩))),ND.length - (e + 1),by omega,e + 1,_,_,rfl,by omega,by simp [hO],by rw [List.length_set];exact hM,fun i hi=>⟨hOs _ r1.symm i hi,hMs i hi⟩,hOr q,rfl⟩
   ·have g:h=false:=sU g;rw [if_neg (by rw [g];simp)] at r1;exact ⟨I6 (wG a b A B ND z) (O.set e q) (ef (depN ND d)) (M.set e h) (bh ND).length (d + 1) (e + 1),(ap 3 rfl (by repeat' (first | exact rfl | exact ay rfl | exact bB (by rw [hOq]) | exact bR aR | exact aA (aF dq (by omega)) | refine ⟨_,_,rfl,?_,?_⟩)) rfl rfl rfl (by repeat' (first | exact trivial | exact ay rfl | exact bB (by rw [hOq]) | exact bR aR | exact aA (aF dq (by omega)) | refine ⟨⟨_,rfl,?_⟩,?_⟩))),ND.length - (e + 1),by omega,e + 1,_,_,rfl,by omega,by simp [hO],by rw [List.length_set];exact hM,fun i hi=>⟨hOs _ r1.symm i hi,hMs i hi⟩,hOr q,rfl⟩
  ·have aM:e=ND.length:=sW bA hL;subst aM
   have hO2:O=depN ND (d + 1):=kE (by rw [hO,bp]) fun j=>by
    rcases Nat.lt_or_ge j ND.length with hj | hj
    ·exact (nq j hj).1
    ·simp only [List.getD_eq_getElem?_getD];rw [List.getElem?_eq_none (by omega),List.getElem?_eq_none (by rw [bp];omega)]
   have hM2:M=ef (depN ND (d + 1)):=wO (by rw [hM,gA,bp]) (fun j hj=>by
     rcases Nat.lt_or_ge j ND.length with h | h
     ·rw [<- (nq j h).2];exact hj
     ·rw [List.getD_eq_getElem?_getD,List.getElem?_eq_none (by omega)] at hj;cases hj) (fun j hj=>by
     rcases Nat.lt_or_ge j ND.length with h | h
     ·rw [(nq j h).2];exact hj
     ·rw [List.getD_eq_getElem?_getD,List.getElem?_eq_none (by rw [gA,bp];omega)] at hj;cases hj)
   subst hO2 hM2;refine ⟨Oa (wG a b A B ND z) (depN ND (d + 1)) (ef (depN ND (d + 1))) (bh ND).length (d + 1 + 1),.CS 2 rfl rfl ⟨_,_,rfl,ax,_,_,rfl,N9 _ _ _ _ _,rfl⟩ rfl ⟨⟨_,rfl,lZ⟩,⟨_,rfl,lZ⟩,⟨_,rfl,Q1 (by rw [gA,bp,bA]) (Nat.le_refl _) rfl⟩,⟨_,rfl,?_⟩,trivial⟩,ND.length - (d + 1),by omega,d + 1,rfl,by omega,rfl⟩;exact congrArg (fun z=>DV.v (Value.int .i64 z)) (aF (n:=1099511627777) (by omega) (by omega))
 ·have aM:d=ND.length:=sW bA hc;subst aM;exact ⟨_,Cm (by rw [bp,bA]) (Nat.zero_le _) rfl,rfl⟩
def tj (ND:List Nd) (d e:Nat):Bool:=(List.range e).any fun i=>decide (¬ (depN ND (d + 1)).getD i 0=(depN ND d).getD i 0)
theorem KJ (ND:List Nd) (d e:Nat):tj ND d (e + 1)=(tj ND d e || decide (¬ (depN ND (d + 1)).getD e 0=(depN ND d).getD e 0)):=by
 simp [tj,List.range_succ]
theorem EL {ND:List Nd} {d:Nat}:tj ND d ND.length=false↔depN ND (d + 1)=depN ND d:=by
 constructor
 ·intro h;refine kE (by rw [bp,bp]) fun j=>?_;unfold tj at h;rw [List.any_eq_false] at h;rcases Nat.lt_or_ge j ND.length with hj | hj
  ·have:=h j (sU hj);simpa using this
  ·simp only [List.getD_eq_getElem?_getD];rw [List.getElem?_eq_none (by rw [bp];exact hj),List.getElem?_eq_none (by rw [bp];exact hj)]
 ·intro h;unfold tj;rw [h,List.any_eq_false];simp
theorem HB {ND:List Nd} {d:Nat} (hd:d<=1099511627776):∀ z∈depN ND d,z<=1099511627776:=fun z hz=>by
 obtain ⟨i,hi⟩:=List.mem_iff_getElem?.1 hz;have:=I3 ND d i;rw [List.getD_eq_getElem?_getD,hi] at this;simp only [Option.getD_some] at this;omega
abbrev Ob (ND:List Nd) (d:Nat) (c:Bool):St:=
 ⟨[(3,⟨[],.sl 7 (bh ND) none⟩),(4,⟨[],.sl 1 (dInts (depN ND d)) none⟩),(5,⟨[],.v (.bool c)⟩)],[],[]⟩
abbrev Oc (ND:List Nd) (d:Nat) (c:Bool) (L:List Nat) (e:Nat):St:=
 ⟨[(3,⟨[],.sl 7 (bh ND) none⟩),(4,⟨[],.sl 1 (dInts (depN ND d)) none⟩),(5,⟨[],.v (.bool c)⟩),(6,⟨[],.ms 0 1 0 (bh ND).length (bh ND).length⟩),(18,⟨[],.sl 7 (bh ND) none⟩),(19,⟨[],.v (.int .i64 (bh ND).length)⟩),(20,⟨[],.v (.int .i64 e)⟩)],[cN L],[]⟩
theorem HC {L:Nat} {ND:List Nd} {p:DV} (h0:aQ prog 180 [p] (.sl 7 (bh ND) none)) (bm:∀ n∈ND,cz L ND.length n) (fc:ND.length<=1099511627776) (bL:∀ n∈ND,n.ai.length<=1099511627776) (tI:∀ bx N n m,Cc bx N n m p p) :
  aQ prog 120 [p] (.sl 1 (dInts (depN ND ND.length)) none):=by
 have bA:=cp ND;refine eG 46 [.tmp 2] func120 rfl ntmps120 rfl fun _ _ _ _=>?_;refine cP Se h0 ?_ (gF tI);refine ⟨⟨rfl,by omega,by rw [bA];omega,by rw [bA];omega⟩,?_⟩;refine BS (fun j st=>∃ (d:Nat) (c:Bool),st=Ob ND d c/\(c=true->d<=ND.length)/\(c=false->depN ND d=depN ND ND.length)/\j=ND.length + 2 - d) (ND.length + 2) (Ob ND 0 true) (.CS 0 rfl rfl rfl rfl ?_) ⟨0,true,rfl,by omega,by simp,by omega⟩ ?_
 ·refine ⟨⟨_,rfl,ax⟩,⟨_,rfl,Cm (by rw [bp,bA];omega) (by omega) ?_⟩,⟨_,rfl,ax⟩,trivial⟩;refine congrArg some ?_;rw [uL,bA];rfl
 rintro j st ⟨d,c,rfl,Ia,lf,rfl⟩;refine br ?_ ?_<;>intro hc
 ·have hc:c=true:=hc;have hd:=Ia hc;refine ⟨⟨rfl,by omega,by rw [bA];omega,by rw [bA];omega⟩,?_⟩;refine lI (fun j st=>∃ (e:Nat) (L:List Nat),st=Oc ND d (tj ND d e) L e/\e<=ND.length/\L.length=ND.length/\(∀ i:Nat,i < e->L.getD i 0=(depN ND (d + 1)).getD i 0)/\j=ND.length - e) ⟨0,_,rfl,by omega,by rw [List.length_replicate,bA];omega,fun i hi=>by omega,rfl⟩ (ap 1 rfl (by repeat' (first | exact rfl | exact ay rfl | exact bB (uL _) | refine ⟨_,_,rfl,?_,?_⟩)) rfl rfl rfl (by repeat' (first | exact trivial | exact ay rfl | exact bB (uL _) | refine ⟨⟨_,rfl,?_⟩,?_⟩))) ?_;rintro j st ⟨e,L,rfl,he,hL,hLv,rfl⟩;refine br ?_ ?_<;>intro aj
  ·have aj:e < ND.length:=by have:=aj;simp [bA] at this;exact this
   obtain ⟨n,hn⟩:=gX aj;have iy:=mG hn;have dq:=Cn (depN ND d) (by rw [bp];exact fc) (n:=n) (by rw [bp];exact bm n iy) (HB (by omega)) (bL n iy);refine iX (bV hn) ?_;refine cP XR dq ?_;refine ⟨⟨by omega,by rw [bA];omega⟩,?_⟩;refine ⟨by rw [lu];omega,?_⟩;refine dI ?_;have hv:=depN_get ND d e;rw [hn] at hv;have hv:(depN ND (d + 1)).getD e 0=aW n (depN ND d):=hv;obtain ⟨z,hz⟩:∃ z,(depN ND d)[e]? = some z:=⟨_,gE (by rw [bp];exact aj)⟩;have Ta:(depN ND d).getD e 0=z:=by rw [List.getD_eq_getElem?_getD,hz];all_goals rfl
   have cW:=KJ ND d e;rw [hv,Ta] at cW
   have aR:(cN L).set (0 + (e:Int).toNat * 1) (DV.v (.int .i64 ((aW n (depN ND d):Nat):Int)))=cN (L.set e (aW n (depN ND d))):=by
    rw [show 0 + (e:Int).toNat * 1=e by omega,mN]
   have Wg:∀ i:Nat,i < e + 1->(L.set e (aW n (depN ND d))).getD i 0=(depN ND (d + 1)).getD i 0:=fun i hi=>by
    by_cases yA:i=e
    ·subst yA;rw [hv,List.getD_eq_getElem?_getD,List.getElem?_set_self (by omega)];all_goals rfl
    ·rw [List.getD_eq_getElem?_getD,List.getElem?_set_ne (Ne.symm yA),<- List.getD_eq_getElem?_getD];exact hLv i (by omega)
   refine br ?_ ?_<;>intro g
   ·have g:tj ND d e=false:=sU g;rw [g,Bool.false_or] at cW
    have Qv:(cN (L.set e (aW n (depN ND d))))[0 + (e:Int).toNat * 1]? = some (DV.v (.int .i64 ((aW n (depN ND d):Nat):Int))):=by
     rw [show 0 + (e:Int).toNat * 1=e by omega];exact Ck (List.getElem?_set_self (by omega))
    refine ⟨⟨by omega,by rw [bA];omega⟩,?_⟩;rw [aR];refine ⟨_,Qv,?_⟩;refine iX (aD hz) ?_
    have hbo:(!decide (((aW n (depN ND d):Nat):Int)=(z:Int)))=tj ND d (e + 1):=by
     rw [cW,Bool.eq_iff_iff];simp;omega
    exact ⟨Oc ND d (tj ND d (e + 1)) (L.set e (aW n (depN ND d))) (e + 1),(ap 1 rfl (gj hbo (aF aj (by omega))) rfl rfl rfl (wB2 hbo (aF aj (by omega)))),ND.length - (e + 1),by omega,e + 1,_,rfl,by omega,by rw [List.length_set];exact hL,Wg,rfl⟩
   ·have g:tj ND d e=true:=sU g;rw [g,Bool.true_or] at cW;exact ⟨Oc ND d (tj ND d (e + 1)) (L.set e (aW n (depN ND d))) (e + 1),(ap 1 rfl (PM aR cW.symm (aF aj (by omega))) rfl rfl rfl (yx aR cW.symm (aF aj (by omega)))),ND.length - (e + 1),by omega,e + 1,_,rfl,by omega,by rw [List.length_set];exact hL,Wg,rfl⟩
  ·have aM:e=ND.length:=sW bA aj;subst aM
   have hLL:L=depN ND (d + 1):=kE (by rw [hL,bp]) fun j=>by
    rcases Nat.lt_or_ge j ND.length with hj | hj
    ·exact hLv j hj
    ·simp only [List.getD_eq_getElem?_getD];rw [List.getElem?_eq_none (by omega),List.getElem?_eq_none (by rw [bp];omega)]
   subst hLL;refine ⟨Ob ND (d + 1) (tj ND d ND.length),.CS 0 rfl rfl rfl rfl ⟨⟨_,rfl,ax⟩,⟨_,rfl,Cm (by rw [bp,bA]) (by omega) rfl⟩,⟨_,rfl,ax⟩,trivial⟩,ND.length + 2 - (d + 1),by omega,d + 1,_,rfl,fun tI=>?_,fun tI=>N1 (EL.1 tI),rfl⟩;have:depN ND (d + 1)≠depN ND d:=fun h=>by rw [EL.2 h] at tI;cases tI
   have:=QY this;omega
 ·have hc:c=false:=hc;rw [lf hc];exact ⟨_,ax,rfl⟩
theorem eW.KK {S:Sch} {ND:List Nd} {PC:List DV} (hP:eW S ND PC):∀ n∈ND,n.ai.length<=1099511627776:=fun n hn=>by
 have h1:=hP.wt;rw [hP.z8] at hn;exact (oN hn h1).2
theorem uj {S:Sch} {ND:List Nd} {PC:List DV} (hP:eW S ND PC):aQ prog 120 [.pt PC 0] (.sl 1 (dInts (depN ND ND.length)) none):=
 HC (ru hP) hP.ok hP.nl hP.KK fun _ _ _ _=>ax
def Tb (S:Sch) (r:DV):Prop:=∃ b:Bool,r = .v (.bool b)/\(b=true->(lO S).1=0)
theorem HD {L:Nat} (D:List Nat) {x:Ed} (hx:NS L D.length x) :
  aQ prog 210 [.agg (BZ x),.pt [.sl 1 (dInts D) none] 0] (.v (.bool (dM D x))):=by
 refine eG 14 [.tmp 3] func210 rfl ntmps210 rfl fun _ _ _ _=>?_;refine br ?_ ?_<;>intro hb
 ·have hb:x.bare=false:=sU hb;obtain ⟨k,hk,ee⟩:=hx.to1 hb;obtain ⟨z,hz⟩:∃ z,D[k]? = some z:=⟨_,gE ee⟩;refine ⟨_,⟨by omega,by rw [hk];exact aD hz⟩,?_⟩;refine (congrArg (fun b=>DV.v (.bool b)) ?_:_=_);simp [dM,hb,bY,hk,List.getD_eq_getElem?_getD,hz,pickB]
 ·have hb:x.bare=true:=sU hb;refine (congrArg (fun b=>DV.v (.bool b)) ?_:_=_);simp [dM,hb,pickB]
abbrev ZC (D:List Nat) (K:List Bool) (n:Nd) (m:Nat) (b:Bool) (e:Nat):St:=
 ⟨[(2,⟨[],.sl 1 (ql K) none⟩),(3,⟨[],.loc 0 0⟩),(7,⟨[],.fn 210 [] [.loc 1 0]⟩),(8,⟨[],.v (.int .i64 m)⟩),(9,⟨[],.v (.bool b)⟩),(14,⟨[],.sl 10 (cw n.ai) none⟩),(15,⟨[],.v (.int .i64 (cw n.ai).length)⟩),(16,⟨[],.v (.int .i64 e)⟩)],[gv n,[.sl 1 (dInts D) none]],[]⟩
theorem Co {L:Nat} {n:Nd} (D:List Nat) (K:List Bool) (hl:K.length=D.length) (hD:D.length<=1099511627776) (hn:cz L D.length n) (dY:n.ai.length<=1099511627776) :
  aQ prog 182 [.agg (gv n),.sl 1 (dInts D) none,.sl 1 (ql K) none] (.v (.bool (eA n D K))):=by
 have aU:=hn.fD;have jG:=hn.k1;have Hr:=hn.k8;obtain ⟨ag,aS,lo,hi,most,af,es⟩:=n;simp only at aU dY jG Hr;refine eG 89 [.tmp 6] func182 rfl ntmps182 rfl fun _ _ _ _=>?_;refine bo (fun j st=>∃ e:Nat,st=ZC D K ⟨ag,aS,lo,hi,most,af,es⟩ (manyN D (es.take e)) (dW D K (es.take e)) e/\e<=es.length/\j=es.length - e) es.length (ZC D K ⟨ag,aS,lo,hi,most,af,es⟩ 0 false 0) (ah ⟨_,rfl⟩ wA rfl rfl rfl wB) ⟨0,by simp [manyN,dW],by omega,by omega⟩ ?_;rintro j st ⟨e,rfl,he,rfl⟩;refine br ?_ ?_<;>intro hL
 ·have aj:e < es.length:=by have:=hL;simp [aO] at this;exact this
  obtain ⟨x,hx⟩:=gX aj;have tF:=aU x (mG hx);have Cp:=HD D tF
  have hm:manyN D (es.take (e + 1))=manyN D (es.take e) + if dM D x=true then 1 else 0:=by
   rw [List.take_add_one,hx];simp [manyN,List.countP_cons]
  have KH:dW D K (es.take (e + 1))=(dW D K (es.take e) || y8 D K x):=by
   rw [List.take_add_one,hx];simp [dW]
  have cR:manyN D (es.take e)<=e:=by
   have:manyN D (es.take e)<=(es.take e).length:=List.countP_le_length;rw [List.length_take] at this;omega
  refine iX (aC hx) ?_;refine u4 X4 Cp ax rfl rfl ?_;refine br ?_ ?_<;>intro ht
  ·have ht:dM D x=true:=ht;rw [if_pos ht] at hm;have hw:IntKind.i64.wrap (((manyN D (es.take e):Nat):Int) + 1)=((manyN D (es.take (e + 1)):Nat):Int):=by rw [hm,wrap64 (by omega) (by omega)];omega
   have kR:y8 D K x=(!x.bare && K.getD x.to.toNat false):=by unfold y8;rw [ht,Bool.true_and]
   rw [kR] at KH;refine br ?_ ?_<;>intro g1
   ·have g1:dW D K (es.take e)=false:=by simpa [lastG] using g1
    refine br ?_ ?_<;>intro g2
    ·have g2:x.bare=false:=sU g2;obtain ⟨k,hk,ee⟩:=tF.to1 g2;obtain ⟨z,hz⟩:∃ z,K[k]? = some z:=⟨_,gE (by omega)⟩;refine ⟨_,⟨by omega,by rw [hk];exact rk hz⟩,?_⟩;have e9:z=dW D K (es.take (e + 1)):=by rw [KH,g1,g2,hk];simp [List.getD_eq_getElem?_getD,hz]
     exact rE ⟨_,by omega,e + 1,rfl,by omega,rfl⟩ (ah ⟨_,rfl⟩ wA rfl rfl rfl (yx hw e9 (aF aj (by omega))))
    ·have g2:x.bare=true:=sU g2;have e9:false=dW D K (es.take (e + 1)):=by rw [KH,g1,g2];all_goals rfl
     exact rE ⟨_,by omega,e + 1,rfl,by omega,rfl⟩ (ah ⟨_,rfl⟩ wA rfl rfl rfl (yx hw e9 (aF aj (by omega))))
   ·have g1:dW D K (es.take e)=true:=by simpa [lastG] using g1
    have e9:true=dW D K (es.take (e + 1)):=by rw [KH,g1];all_goals rfl
    exact rE ⟨_,by omega,e + 1,rfl,by omega,rfl⟩ (ah ⟨_,rfl⟩ wA rfl rfl rfl (yx hw e9 (aF aj (by omega))))
  ·have ht:dM D x=false:=ht;rw [if_neg (by rw [ht];simp),Nat.add_zero] at hm;have kR:y8 D K x=false:=by unfold y8;rw [ht];all_goals rfl
   rw [kR,Bool.or_false] at KH;exact rE ⟨_,by omega,e + 1,rfl,by omega,rfl⟩ (ah ⟨_,rfl⟩ wA rfl rfl rfl (yx hm.symm KH.symm (aF aj (by omega))))
 ·have aM:e=es.length:=by have:=hL;simp [aO] at this;omega
  subst aM;rw [List.take_length];refine br ?_ ?_<;>intro c1
  ·have c1:ag=1:=sU c1;refine (congrArg (fun b=>DV.v (.bool b)) ?_:_=_);simp [eA,c1]
  have c1:¬ ag=1:=sU c1;refine br ?_ ?_<;>intro c2
  ·have c2:ag=2:=sU c2;refine (congrArg (fun b=>DV.v (.bool b)) ?_:_=_);simp [eA,c2]
  have c2:¬ ag=2:=sU c2;refine br ?_ ?_<;>intro c3
  ·have c3:ag=3:=sU c3;refine (congrArg (fun b=>DV.v (.bool b)) ?_:_=_);simp [eA,c3]
  have c3:¬ ag=3:=sU c3;refine br ?_ ?_<;>intro c4
  ·have c4:ag=4:=sU c4;refine (congrArg (fun b=>DV.v (.bool b)) ?_:_=_);simp [eA,c4,ch];omega
  have c4:¬ ag=4:=sU c4;refine br ?_ ?_<;>intro c5
  ·have c5:ag=5:=sU c5;refine (congrArg (fun b=>DV.v (.bool b)) ?_:_=_);simp [eA,c5,aq]
  have c5:¬ ag=5:=sU c5;refine br ?_ ?_<;>intro c6
  ·have c6:ag=6:=sU c6;refine (congrArg (fun b=>DV.v (.bool b)) ?_:_=_);simp [eA,c6]
  have c6:¬ ag=6:=sU c6;refine br ?_ ?_<;>intro c7
  ·have c7:ag=7:=sU c7;refine (congrArg (fun b=>DV.v (.bool b)) ?_:_=_);rw [Bool.eq_iff_iff];simp [eA,c7,aq,aO];omega
  have c7:¬ ag=7:=sU c7;refine (congrArg (fun b=>DV.v (.bool b)) ?_:_=_);rw [Bool.eq_iff_iff];have Ia:(1 < ((manyN D es:Nat):Int))↔1 < manyN D es:=by omega
  simp [eA,c1,c2,c3,c4,c5,c6,c7,au,Ia]
abbrev Od (ND:List Nd) (D:List Nat) (K:List Bool) (c:Bool):St:=
 ⟨[(3,⟨[],.sl 7 (bh ND) none⟩),(4,⟨[],.sl 1 (dInts D) none⟩),(5,⟨[],.ms 0 1 0 (bh ND).length (bh ND).length⟩),(6,⟨[],.v (.bool c)⟩)],[cB K],[]⟩
abbrev I7 (ND:List Nd) (D:List Nat) (K:List Bool) (c:Bool) (e:Nat):St:=
 ⟨[(3,⟨[],.sl 7 (bh ND) none⟩),(4,⟨[],.sl 1 (dInts D) none⟩),(5,⟨[],.ms 0 1 0 (bh ND).length (bh ND).length⟩),(6,⟨[],.v (.bool c)⟩),(17,⟨[],.sl 7 (bh ND) none⟩),(18,⟨[],.v (.int .i64 (bh ND).length)⟩),(19,⟨[],.v (.int .i64 e)⟩)],[cB K],[]⟩
theorem Cq {L:Nat} {ND:List Nd} {p:DV} (h0:aQ prog 180 [p] (.sl 7 (bh ND) none)) (h1:aQ prog 120 [p] (.sl 1 (dInts (depN ND ND.length)) none)) (bm:∀ n∈ND,cz L ND.length n) (fc:ND.length<=1099511627776) (bL:∀ n∈ND,n.ai.length<=1099511627776) (tI:∀ bx N n m,Cc bx N n m p p) :
  aQ prog 121 [p] (.sl 1 (ql (eX ND (depN ND ND.length))) none):=by
 have bA:=cp ND;have hl:=bp ND ND.length;generalize depN ND ND.length=D at h1 hl ⊢;refine eG 40 [.tmp 2] func121 rfl ntmps121 rfl fun _ _ _ _=>?_;refine cP Se h0 ?_ (gF tI);refine cP RY h1 ?_ (gF tI);refine ⟨⟨rfl,by omega,by rw [bA];omega,by rw [bA];omega⟩,?_⟩;refine bo (fun j st=>∃ (K:List Bool) (c:Bool),st=Od ND D K c/\K.length=ND.length/\zR K (eX ND D)/\(c=false->∀ j n,ND[j]? = some n->eA n D K=true->K.getD j false=true)/\j=ND.length - kv K + if c=true then 1 else 0) (ND.length + 1) (Od ND D (List.replicate ((bh ND).length:Int).toNat false) true) (ap 1 rfl (by repeat' (first | exact rfl | exact ay rfl | exact bR (Ec _) | refine ⟨_,_,rfl,?_,?_⟩)) rfl rfl rfl (by repeat' (first | exact trivial | exact ay rfl | exact bR (Ec _) | refine ⟨⟨_,rfl,?_⟩,?_⟩))) ⟨_,_,rfl,?_,?_,by simp,?_⟩ ?_
 ·rw [List.length_replicate,bA];omega
 ·intro j hj;rw [List.getD_eq_getElem?_getD,List.getElem?_replicate] at hj;split at hj<;>cases hj
 ·have:kv (List.replicate ((bh ND).length:Int).toNat false)=0:=by unfold kv;rw [List.countP_replicate];simp
  rw [this];simp
 rintro j st ⟨K,c,rfl,hK,dq,eD,rfl⟩;refine br ?_ ?_<;>intro hc
 ·have hc:c=true:=hc;subst hc;refine lI (fun j st=>∃ (e:Nat) (K':List Bool) (c':Bool),st=I7 ND D K' c' e/\e<=ND.length/\K'.length=ND.length/\zR K' (eX ND D)/\(c'=true->kv K < kv K')/\(c'=false->K'=K/\∀ i n,i < e->ND[i]? = some n->eA n D K=true->K.getD i false=true)/\j=ND.length - e) ⟨0,K,false,rfl,by omega,hK,dq,by simp,fun _=>⟨rfl,fun i _ hi=>by omega⟩,rfl⟩ (ap 1 rfl pB rfl rfl rfl lY) ?_;rintro j st ⟨e,K',c',rfl,he,ZD,Q2,ht,hf,rfl⟩;refine br ?_ ?_<;>intro hL
  ·have aj:e < ND.length:=by have:=hL;simp [bA] at this;exact this
   obtain ⟨n,hn⟩:=gX aj;have iy:=mG hn;obtain ⟨b,hb⟩:∃ b,K'[e]? = some b:=⟨_,gE (by omega)⟩;have vI:=Co D K' (by omega) (by omega) (n:=n) (by rw [hl];exact bm n iy) (bL n iy);refine iX (bV hn) ?_;refine ⟨⟨by omega,by rw [bA];omega⟩,?_⟩;refine ⟨DV.v (.bool b),(by rw [show 0 + (e:Int).toNat * 1=e by omega];exact G8 hb),?_⟩;have Le:K'.getD e false=b:=by rw [List.getD_eq_getElem?_getD,hb];all_goals rfl
   have hcd:kv K<=kv K':=by
    cases c' with
    | true=>have:=ht rfl;omega
    | false=>rw [(hf rfl).1];omega
   refine br ?_ ?_<;>intro g
   ·have g:b=false:=sU g;refine u4 XS vI ⟨_,_,rfl,ax,_,_,rfl,ax,_,_,rfl,Q1 (by rw [ZD,bA]) (Nat.le_refl _) rfl,rfl⟩ rfl rfl ?_;refine br ?_ ?_<;>intro g2
    ·have g2:eA n D K'=true:=by simpa [pickB,pickD] using g2
     refine ⟨⟨by omega,by rw [bA];omega⟩,?_⟩;refine ⟨by rw [pQ];omega,?_⟩
     have aR:(cB K').set (0 + (e:Int).toNat * 1) (DV.v (.bool true))=cB (K'.set e true):=by
      rw [show 0 + (e:Int).toNat * 1=e by omega,xq]
     have cW:=N5 (K:=K') (i:=e) (by omega) (by rw [Le];exact g);exact ⟨I7 ND D (K'.set e true) true (e + 1),(ap 1 rfl (gj aR (aF aj (by omega))) rfl rfl rfl (wB2 aR (aF aj (by omega)))),ND.length - (e + 1),by omega,e + 1,_,true,rfl,by omega,by rw [List.length_set];exact ZD,N4 Q2 hn g2,fun _=>by omega,fun h=>(by cases h),rfl⟩
    ·have g2:eA n D K'=false:=by simpa [pickB,pickD] using g2
     refine ⟨I7 ND D K' c' (e + 1),(ap 1 rfl (na (aF aj (by omega))) rfl rfl rfl (cX (aF aj (by omega)))),ND.length - (e + 1),by omega,e + 1,K',c',rfl,by omega,ZD,Q2,ht,fun hc=>⟨(hf hc).1,fun i m hi hm hs=>?_⟩,rfl⟩;rcases Nat.lt_succ_iff_lt_or_eq.1 hi with hi | rfl
     ·exact (hf hc).2 i m hi hm hs
     ·rw [hn] at hm;cases hm;rw [(hf hc).1] at g2;rw [g2] at hs;cases hs
   ·have g:b=true:=sU g;refine ⟨I7 ND D K' c' (e + 1),(ap 1 rfl (na (aF aj (by omega))) rfl rfl rfl (cX (aF aj (by omega)))),ND.length - (e + 1),by omega,e + 1,K',c',rfl,by omega,ZD,Q2,ht,fun hc=>⟨(hf hc).1,fun i m hi hm hs=>?_⟩,rfl⟩;rcases Nat.lt_succ_iff_lt_or_eq.1 hi with hi | rfl
    ·exact (hf hc).2 i m hi hm hs
    ·rw [<- (hf hc).1,Le];exact g
  ·have aM:e=ND.length:=sW bA hL;subst aM;have hcn:=q6 K';refine ⟨Od ND D K' c',(ah ⟨_,rfl⟩ pB rfl rfl rfl lY),ND.length - kv K' + (if c'=true then 1 else 0),?_,K',c',rfl,ZD,Q2,?_,rfl⟩
   ·cases c' with
    | true=>have:=ht rfl;simp;omega
    | false=>rw [(hf rfl).1];simp
   ·intro hcf j n hn hs;obtain ⟨h2,h3⟩:=hf hcf;subst h2;exact h3 j n (gS hn).1 hn hs
 ·have hc:c=false:=hc;rw [<- QZ hK dq (eD hc)];exact ⟨_,Q1 (by rw [hK,bA]) (Nat.zero_le _) rfl,rfl⟩
theorem y9 {S:Sch} {ND:List Nd} {PC:List DV} (hP:eW S ND PC):aQ prog 121 [.pt PC 0] (.sl 1 (ql (eX ND (depN ND ND.length))) none):=
 Cq (ru hP) (uj hP) hP.ok hP.nl hP.KK fun _ _ _ _=>ax
theorem jA (z:Nat):aQ prog 184 [.v (.int .i64 z)] (.v (.int .i64 (iE z:Nat))):=by
 refine eG 6 [.tmp 2] func184 rfl ntmps184 rfl fun _ _ _ _=>?_;refine br ?_ ?_<;>intro h
 ·have h:2 < z:=by have:=h;simp at this;omega
  refine (congrArg (fun z=>DV.v (.int .i64 z)) ?_:_=_);unfold iE;rw [if_pos h];all_goals rfl
 ·have h:¬ 2 < z:=by have:=h;simp at this;omega
  refine (congrArg (fun z=>DV.v (.int .i64 z)) ?_:_=_);unfold iE;rw [if_neg h]
theorem AH (K:List Nat):∀ (es:List Ed) (a:Nat) (e:Ed),sumC K (es ++ [e]) a=iE (sumC K es a + tf K e)
 | [],a,e=>rfl
 | x :: r,a,e=>by rw [List.cons_append,sumC,sumC,AH K r]
theorem AJ (K:List Nat):∀ (es:List Ed) (a:Nat) (e:Ed),pW K (es ++ [e]) a=iE (pW K es a * tf K e)
 | [],a,e=>rfl
 | x :: r,a,e=>by rw [List.cons_append,pW,pW,AJ K r]
theorem I8 (n:Nat):iE n<=2:=by unfold iE;split<;>omega
theorem I9 (K:List Nat):∀ (es:List Ed) (a:Nat),a<=2->sumC K es a<=2
 | [],a,h=>h
 | e :: r,a,_=>by rw [sumC];exact I9 K r _ (I8 _)
theorem Ja (K:List Nat):∀ (es:List Ed) (a:Nat),a<=2->pW K es a<=2
 | [],a,h=>h
 | e :: r,a,_=>by rw [pW];exact Ja K r _ (I8 _)
abbrev Vs (K:List Nat) (n:Nd) (s a e:Nat):St:=
 ⟨[(1,⟨[],.sl 1 (dInts K) none⟩),(2,⟨[],.loc 0 0⟩),(5,⟨[],.v (.int .i64 s)⟩),(6,⟨[],.v (.int .i64 a)⟩),(7,⟨[],.v (.int .i64 e)⟩)],[gv n],[]⟩
theorem Cr {L:Nat} {n:Nd} (K:List Nat) (hK:K.length<=1099511627776) (hz:∀ z∈K,z<=2) (hn:cz L K.length n) (dY:n.ai.length<=1099511627776) (fc:n.af.length<=1099511627776) :
  aQ prog 130 [.agg (gv n),.sl 1 (dInts K) none] (.v (.int .i64 (gM n K:Nat))):=by
 have aU:=hn.fD;have hm3:=hn.IW;have hm5:=hn.ua;obtain ⟨ag,aS,lo,hi,most,af,es⟩:=n;simp only at aU dY hm3 hm5 fc;have hbl:=ch af;refine eG 80 [.tmp 4] func130 rfl ntmps130 rfl fun _ _ _ _=>?_;refine lJ (fun e=>Vs K ⟨ag,aS,lo,hi,most,af,es⟩ (sumC K (es.take e) 0) (pW K (es.take e) 1) e) es.length (ah ⟨_,rfl⟩ wA rfl rfl rfl wB) ?_;intro e he;have vE:=I9 K (es.take e) 0 (by omega);have H5:=Ja K (es.take e) 1 (by omega);refine br ?_ ?_<;>intro hL
 ·have aj:e < es.length:=by have:=hL;simp [aO] at this;exact this
  obtain ⟨x,hx⟩:=gX aj;have tF:=aU x (mG hx);have kM:es.take (e + 1)=es.take e ++ [x]:=by rw [List.take_add_one,hx];all_goals rfl
  have hs:=AH K (es.take e) 0 x;have ha:=AJ K (es.take e) 1 x;rw [<- kM] at hs ha;generalize sumC K (es.take e) 0=s at hs vE ⊢;generalize pW K (es.take e) 1=a at ha H5 ⊢;refine iX (aC hx) ?_;refine br ?_ ?_<;>intro hb
  ·have hb:x.bare=false:=sU hb;obtain ⟨k,hk,ee⟩:=tF.to1 hb;obtain ⟨z,hz1⟩:∃ z,K[k]? = some z:=⟨_,gE ee⟩;have hv:tf K x=z:=by simp [tf,hb,bY,hk,List.getD_eq_getElem?_getD,hz1]
   have GU:=hz z (mG hz1);rw [hv] at hs ha;refine iX (aC hx) ?_;refine ⟨_,⟨by omega,by rw [hk];exact aD hz1⟩,?_⟩;have hw1:IntKind.i64.wrap ((s:Int) + (z:Int))=((s + z:Nat):Int):=by rw [wrap64 (by omega) (by omega)];omega
   have Lb:a * z<=4:=Nat.le_trans (Nat.mul_le_mul H5 GU) (by omega);have lf:(a:Int) * (z:Int)=((a * z:Nat):Int):=by push_cast;rfl
   have hw2:IntKind.i64.wrap ((a:Int) * (z:Int))=((a * z:Nat):Int):=by rw [lf,wrap64 (by omega) (by omega)]
   have e1:((iE (s + z):Nat):Int)=((sumC K (es.take (e + 1)) 0:Nat):Int):=by rw [hs]
   have e2:((iE (a * z):Nat):Int)=((pW K (es.take (e + 1)) 1:Nat):Int):=by rw [ha]
   refine cP tM (jA (s + z)) ?_ (gF hw1);refine cP tM (jA (a * z)) ?_ (gF hw2);exact rE ⟨_,by omega,e + 1,rfl,by omega,rfl⟩ (ah ⟨_,rfl⟩ wA rfl rfl rfl (yx e1 e2 (aF aj (by omega))))
  ·have hb:x.bare=true:=sU hb;have hv:tf K x=1:=by simp [tf,hb]
   rw [hv] at hs ha;have hw1:IntKind.i64.wrap ((s:Int) + 1)=((s + 1:Nat):Int):=by rw [wrap64 (by omega) (by omega)];omega
   have Lb:a * 1<=4:=Nat.le_trans (Nat.mul_le_mul H5 (show 1<=2 by omega)) (by omega);have lf:(a:Int) * 1=((a * 1:Nat):Int):=by push_cast;rfl
   have hw2:IntKind.i64.wrap ((a:Int) * 1)=((a * 1:Nat):Int):=by rw [lf,wrap64 (by omega) (by omega)]
   have e1:((iE (s + 1):Nat):Int)=((sumC K (es.take (e + 1)) 0:Nat):Int):=by rw [hs]
   have e2:((iE (a * 1):Nat):Int)=((pW K (es.take (e + 1)) 1:Nat):Int):=by rw [ha]
   refine cP tM (jA (s + 1)) ?_ (gF hw1);refine cP tM (jA (a * 1)) ?_ (gF hw2);exact rE ⟨_,by omega,e + 1,rfl,by omega,rfl⟩ (ah ⟨_,rfl⟩ wA rfl rfl rfl (yx e1 e2 (aF aj (by omega))))
 ·have aM:e=es.length:=by have:=hL;simp [aO] at this;omega
  subst aM;rw [List.take_length] at vE H5 ⊢;refine br ?_ ?_<;>intro c1
  ·have c1:ag=1:=sU c1;refine (congrArg (fun z=>DV.v (.int .i64 z)) ?_:_=_);simp [gM,c1]
  have c1:¬ ag=1:=sU c1;refine br ?_ ?_<;>intro c2
  ·have c2:ag=2:=sU c2;refine br ?_ ?_<;>intro g
   ·have g:lo < hi:=sU g;refine (congrArg (fun z=>DV.v (.int .i64 z)) ?_:_=_);simp [gM,c2,g]
   ·have g:¬ lo < hi:=sU g;refine (congrArg (fun z=>DV.v (.int .i64 z)) ?_:_=_);simp [gM,c2,g]
  have c2:¬ ag=2:=sU c2;refine br ?_ ?_<;>intro c3
  ·have c3:ag=3:=sU c3;have hm:=hm3 c3;have hw:IntKind.i64.wrap (1 + most)=((1 + most.toNat:Nat):Int):=by rw [wrap64 (by omega) (by omega)];omega
   refine cP tM (jA (1 + most.toNat)) ?_ (gF hw);refine (congrArg (fun z=>DV.v (.int .i64 z)) ?_:_=_);simp [gM,c3]
  have c3:¬ ag=3:=sU c3;refine br ?_ ?_<;>intro c4
  ·have c4:ag=4:=sU c4;refine cP tM (jA af.length) ?_ (gF hbl);refine (congrArg (fun z=>DV.v (.int .i64 z)) ?_:_=_);simp [gM,c4]
  have c4:¬ ag=4:=sU c4;refine br ?_ ?_<;>intro c5
  ·have c5:ag=5:=sU c5;have hw:IntKind.i64.wrap (1 + ((sumC K es 0:Nat):Int))=((1 + sumC K es 0:Nat):Int):=by rw [wrap64 (by omega) (by omega)];omega
   refine br ?_ ?_<;>intro g
   ·have g:most=0:=sU g;refine (congrArg (fun z=>DV.v (.int .i64 z)) ?_:_=_);simp [gM,c5,g]
   ·have g:¬ most=0:=sU g;refine cP tM (jA (1 + sumC K es 0)) ?_ (gF hw);refine (congrArg (fun z=>DV.v (.int .i64 z)) ?_:_=_);simp [gM,c5,g]
  have c5:¬ ag=5:=sU c5;refine br ?_ ?_<;>intro c6
  ·have c6:ag=6:=sU c6;have hw:IntKind.i64.wrap (1 + ((sumC K es 0:Nat):Int))=((1 + sumC K es 0:Nat):Int):=by rw [wrap64 (by omega) (by omega)];omega
   refine cP tM (jA (1 + sumC K es 0)) ?_ (gF hw);refine (congrArg (fun z=>DV.v (.int .i64 z)) ?_:_=_);simp [gM,c6]
  have c6:¬ ag=6:=sU c6;refine br ?_ ?_<;>intro c7
  ·have c7:ag=7:=sU c7;refine (congrArg (fun z=>DV.v (.int .i64 z)) ?_:_=_);simp [gM,c7]
  have c7:¬ ag=7:=sU c7;refine (congrArg (fun z=>DV.v (.int .i64 z)) ?_:_=_);simp [gM,c1,c2,c3,c4,c5,c6,c7]
theorem Q3 (D:List Nat) (ND:List Nd) (i:Nat):(qL D (sevN ND D 0)).getD i 0=if D.getD i 0=0 then 0 else 1:=by
 have h0:(sevN ND D 0).getD i false=false:=by
  rw [sevN,List.getD_eq_getElem?_getD,List.getElem?_replicate];split<;>rfl
 rw [Cj,h0];unfold qF;simp
theorem Oe (D:List Nat) (S:List Bool):∀ z∈qL D S,z<=2:=fun z hz=>by
 unfold qL at hz;obtain ⟨i,_,rfl⟩:=List.mem_map.1 hz;unfold qF;split
 ·omega
 ·split<;>omega
abbrev Og (W:List DV) (D L:List Nat) (n i:Nat):St:=
 ⟨[(1,⟨[],.loc 0 0⟩),(3,⟨[],.sl 1 (dInts D) none⟩),(4,⟨[],.ms 1 1 0 n n⟩),(5,⟨[],.v (.int .i64 i)⟩)],[W,cN L],[]⟩
abbrev Oh (W:List DV) (D K:List Nat) (t:Nat):St:=
 ⟨[(1,⟨[],.loc 0 0⟩),(3,⟨[],.sl 1 (dInts D) none⟩),(4,⟨[],.sl 1 (dInts K) none⟩),(6,⟨[],.v (.int .i64 t)⟩)],[W],[]⟩
abbrev Oi (W:List DV) (D K M:List Nat) (n t i:Nat):St:=
 ⟨[(1,⟨[],.loc 0 0⟩),(3,⟨[],.sl 1 (dInts D) none⟩),(4,⟨[],.sl 1 (dInts K) none⟩),(6,⟨[],.v (.int .i64 t)⟩),(7,⟨[],.ms 1 1 0 n n⟩),(8,⟨[],.v (.int .i64 i)⟩)],[W,cN M],[]⟩
theorem eY {L:List Nat} {i e v:Nat} (he:e < L.length):(L.set e v).getD i 0=if i=e then v else L.getD i 0:=by
 by_cases h:i=e
 ·subst h;rw [if_pos rfl,List.getD_eq_getElem?_getD,List.getElem?_set_self he];all_goals rfl
 ·rw [if_neg h,List.getD_eq_getElem?_getD,List.getElem?_set_ne (Ne.symm h),<- List.getD_eq_getElem?_getD]
theorem EM (a b:Nat) (A B:List (List DV)) {ND:List Nd} {L:Nat} (z:Int) (bm:∀ n∈ND,cz L ND.length n) (fc:ND.length<=1099511627776) (bL:∀ n∈ND,n.ai.length<=1099511627776) (du:∀ n∈ND,n.af.length<=1099511627776) :
  aQ prog 64 [.agg (wG a b A B ND z)] (.sl 1 (dInts (qL (depN ND ND.length) (eX ND (depN ND ND.length)))) none):=by
 have bA:=cp ND;have h0:=pk a b A B z bm fc bL;have hl:=bp ND ND.length;have eL:=depN_get ND ND.length;rw [depN_end] at eL;generalize depN ND ND.length=D at h0 hl eL ⊢;have HE:=N6 D;have qV:=fun t i n (h:ND[i]? = some n)=>Q0 bm hl eL t h;refine eG 66 [.tmp 2] func64 rfl ntmps64 rfl fun _ _ _ _=>?_;refine cP nI h0 ?_;refine ⟨⟨rfl,by omega,by rw [bA];omega,by rw [bA];omega⟩,?_⟩;refine lI (fun j st=>∃ (i:Nat) (L:List Nat),st=Og (wG a b A B ND z) D L (bh ND).length i/\i<=ND.length/\L.length=ND.length/\(∀ k:Nat,k < i->L.getD k 0=(qL D (sevN ND D 0)).getD k 0)/\(∀ k:Nat,i<=k->L.getD k 0=0)/\j=ND.length - i) ⟨0,_,rfl,by omega,by rw [List.length_replicate,bA];omega,fun _ h=>by omega,fun k _=>by rw [List.getD_eq_getElem?_getD,List.getElem?_replicate];split<;>rfl,rfl⟩ (ap 2 rfl (by repeat' (first | exact rfl | exact ay rfl | exact bB (uL _) | refine ⟨_,_,rfl,?_,?_⟩)) rfl rfl rfl (by repeat' (first | exact trivial | exact ay rfl | exact bB (uL _) | refine ⟨⟨_,rfl,?_⟩,?_⟩))) ?_;rintro j st ⟨i,L,rfl,hi,hL,nq,vC,rfl⟩;refine br ?_ ?_<;>intro aj
 ·have aj:i < ND.length:=by have:=aj;simp [bA] at this;exact this
  obtain ⟨k,hk⟩:∃ k,D[i]? = some k:=⟨_,gE (by omega)⟩;have D1:D.getD i 0=k:=by rw [List.getD_eq_getElem?_getD,hk];all_goals rfl
  have hq:=Q3 D ND i;rw [D1] at hq;refine iX (aD hk) ?_;refine br ?_ ?_<;>intro g
  ·have g:0 < k:=sU g;rw [if_neg (by omega)] at hq;refine ⟨⟨by omega,by rw [bA];omega⟩,?_⟩;refine ⟨by rw [lu];omega,?_⟩
   have aR:(cN L).set (0 + (i:Int).toNat * 1) (DV.v (.int .i64 1))=cN (L.set i 1):=by
    rw [show 0 + (i:Int).toNat * 1=i by omega];exact mN L i 1
   refine ⟨Og (wG a b A B ND z) D (L.set i 1) (bh ND).length (i + 1),(ap 2 rfl (gj aR (aF aj (by omega))) rfl rfl rfl (wB2 aR (aF aj (by omega)))),ND.length - (i + 1),by omega,i + 1,_,rfl,by omega,by rw [List.length_set];exact hL,fun j hj=>?_,fun j hj=>?_,rfl⟩
   ·rw [eY (by omega)];split
    ·rename_i h;rw [h,hq]
    ·exact nq j (by omega)
   ·rw [eY (by omega),if_neg (by omega)];exact vC j (by omega)
  ·have g:k=0:=by have:=g;simp at this;omega
   rw [if_pos g] at hq;refine ⟨Og (wG a b A B ND z) D L (bh ND).length (i + 1),(ap 2 rfl (na (aF aj (by omega))) rfl rfl rfl (cX (aF aj (by omega)))),ND.length - (i + 1),by omega,i + 1,_,rfl,by omega,hL,fun j hj=>?_,fun j hj=>vC j (by omega),rfl⟩;rcases Nat.lt_succ_iff_lt_or_eq.1 hj with hj | rfl
   ·exact nq j hj
   ·rw [hq,vC j (Nat.le_refl _)]
 have aM:i=ND.length:=sW bA aj;subst aM
 have hLq:L=qL D (sevN ND D 0):=kE (by rw [hL,HE,hl]) fun j=>by
  rcases Nat.lt_or_ge j ND.length with hj | hj
  ·exact nq j hj
  ·rw [vC j hj,List.getD_eq_getElem?_getD,List.getElem?_eq_none (by rw [HE,hl];exact hj)];all_goals rfl
 subst hLq;refine BS (fun j st=>∃ t:Nat,st=Oh (wG a b A B ND z) D (qL D (sevN ND D t)) t/\t<=ND.length + 1/\j=ND.length + 1 - t) (ND.length + 1) (Oh (wG a b A B ND z) D (qL D (sevN ND D 0)) 0) (.CS 1 rfl rfl ⟨_,_,rfl,ax,rfl⟩ rfl ⟨⟨_,rfl,lZ⟩,⟨_,rfl,ax⟩,⟨_,rfl,Cm (by rw [HE,hl,bA]) (Nat.le_refl _) rfl⟩,⟨_,rfl,ax⟩,trivial⟩) ⟨0,rfl,by omega,by omega⟩ ?_;rintro j st ⟨t,rfl,ht,rfl⟩;refine br ?_ ?_<;>intro aj
 ·have aj:t<=ND.length:=sW bA aj;refine ⟨⟨rfl,by omega,by rw [bA];omega,by rw [bA];omega⟩,?_⟩;refine lI (fun j st=>∃ (i:Nat) (M:List Nat),st=Oi (wG a b A B ND z) D (qL D (sevN ND D t)) M (bh ND).length t i/\i<=ND.length/\M.length=ND.length/\(∀ k:Nat,k < i->M.getD k 0=(qL D (sevN ND D (t + 1))).getD k 0)/\j=ND.length - i) ⟨0,_,rfl,by omega,by rw [List.length_replicate,bA];omega,fun _ h=>by omega,rfl⟩ (ap 2 rfl (by repeat' (first | exact rfl | exact ay rfl | exact bB (uL _) | refine ⟨_,_,rfl,?_,?_⟩)) rfl rfl rfl (by repeat' (first | exact trivial | exact ay rfl | exact bB (uL _) | refine ⟨⟨_,rfl,?_⟩,?_⟩))) ?_;rintro j st ⟨i,M,rfl,hi,hM,hv,rfl⟩;have H2:=HE (sevN ND D t);have Oj:=aZ (qL D (sevN ND D t));refine br ?_ ?_<;>intro kN
  ·have kN:i < ND.length:=by have:=kN;simp [Oj,H2,hl] at this;exact this
   obtain ⟨n,hn⟩:=gX kN;have iy:=mG hn;obtain ⟨k,hk⟩:∃ k,D[i]? = some k:=⟨_,gE (by omega)⟩;have D1:D.getD i 0=k:=by rw [List.getD_eq_getElem?_getD,hk];all_goals rfl
   have hs:=qV t i n hn;rw [D1] at hs;have hc:=Cr (qL D (sevN ND D t)) (by omega) (Oe _ _) (n:=n) (by rw [H2,hl];exact bm n iy) (bL n iy) (du n iy);refine iX (bV hn) ?_;refine cP XD hc ?_;generalize gM n (qL D (sevN ND D t))=q at hs ⊢;refine ⟨⟨by omega,by rw [bA];omega⟩,?_⟩;refine ⟨by rw [lu];omega,?_⟩
   have aR:(cN M).set (0 + (i:Int).toNat * 1) (DV.v (.int .i64 (q:Int)))=cN (M.set i q):=by
    rw [show 0 + (i:Int).toNat * 1=i by omega];exact mN M i q
   refine iX (aD hk) ?_;refine br ?_ ?_<;>intro g
   ·have g:k=0:=sU g;rw [if_pos g] at hs;refine ⟨⟨by omega,by rw [bA];omega⟩,?_⟩;refine ⟨by rw [List.length_set,lu];omega,?_⟩
    have ZE:((cN M).set (0 + (i:Int).toNat * 1) (DV.v (.int .i64 (q:Int)))).set (0 + (i:Int).toNat * 1) (DV.v (.int .i64 0))=cN ((M.set i q).set i 0):=by
     rw [aR,show 0 + (i:Int).toNat * 1=i by omega];exact mN (M.set i q) i 0
    refine ⟨Oi (wG a b A B ND z) D (qL D (sevN ND D t)) ((M.set i q).set i 0) (bh ND).length t (i + 1),(ap 2 rfl (gj ZE (aF kN (by omega))) rfl rfl rfl (wB2 ZE (aF kN (by omega)))),ND.length - (i + 1),by omega,i + 1,_,rfl,by omega,by simp [hM],fun j hj=>?_,rfl⟩;rw [eY (by rw [List.length_set];omega)];split
    ·rename_i h;rw [h,hs]
    ·rename_i h;rw [eY (by omega),if_neg h];exact hv j (by omega)
   ·have g:¬ k=0:=sU g;rw [if_neg g] at hs;refine ⟨Oi (wG a b A B ND z) D (qL D (sevN ND D t)) (M.set i q) (bh ND).length t (i + 1),(ap 2 rfl (gj aR (aF kN (by omega))) rfl rfl rfl (wB2 aR (aF kN (by omega)))),ND.length - (i + 1),by omega,i + 1,_,rfl,by omega,by simp [hM],fun j hj=>?_,rfl⟩;rw [eY (by omega)];split
    ·rename_i h;rw [h,hs]
    ·exact hv j (by omega)
  ·have aM:i=ND.length:=by have:=kN;simp [Oj,H2,hl] at this;omega
   subst aM
   have hMq:M=qL D (sevN ND D (t + 1)):=kE (by rw [hM,HE,hl]) fun j=>by
    rcases Nat.lt_or_ge j ND.length with hj | hj
    ·exact hv j hj
    ·simp only [List.getD_eq_getElem?_getD];rw [List.getElem?_eq_none (by omega),List.getElem?_eq_none (by rw [HE,hl];exact hj)]
   subst hMq;refine ⟨Oh (wG a b A B ND z) D (qL D (sevN ND D (t + 1))) (t + 1),.CS 1 rfl rfl ⟨_,_,rfl,ax,rfl⟩ rfl ⟨⟨_,rfl,lZ⟩,⟨_,rfl,ax⟩,⟨_,rfl,Cm (by rw [HE,hl,bA]) (Nat.le_refl _) rfl⟩,⟨_,rfl,?_⟩,trivial⟩,ND.length + 1 - (t + 1),by omega,t + 1,rfl,by omega,rfl⟩;exact congrArg (fun z=>DV.v (Value.int .i64 z)) (aF (n:=1099511627777) (by omega) (by omega))
 ·have aM:t=ND.length + 1:=sW bA aj;subst aM;have:=xY ND D 1;rw [this];exact ⟨_,ax,rfl⟩
theorem Vt {L:Nat} {ND:List Nd} {D:List Nat} (bm:∀ n∈ND,cz L ND.length n) (eL:∀ j,D.getD j 0=match ND[j]? with | none=>0 | some n=>aW n D) (i:Nat):(eX ND D).getD i false=decide (1 < (qL D (eX ND D)).getD i 0):=by
 rw [Cj]
 have hs:(eX ND D).getD i false=match ND[i]? with | none=>false | some n=>eA n D (eX ND D):=by
  have:=sevN_get ND D ND.length i;rw [xY ND D 1] at this;exact this
 have hd:=eL i
 cases hn:ND[i]? with
 | none=>
  rw [hn] at hs;have hs:(eX ND D).getD i false=false:=hs;rw [hs];unfold qF;simp;split<;>omega
 | some n=>
  rw [hn] at hs hd;have hd:D.getD i 0=aW n D:=hd;unfold qF;cases hb:(eX ND D).getD i false
  ·simp;split<;>omega
  ·have hs:(eX ND D).getD i false=eA n D (eX ND D):=hs;rw [hb] at hs;have:=x4 (bm n (mG hn)) hs.symm;rw [if_neg (by omega)];simp
def kK (D:List Nat) (e:Ed):Nat:=if e.bare=true then 0 else bY D e
def minP (D:List Nat) (es:List Ed) (k:Nat):Bool:=match es[k]? with | some e=>dM D e && es.all (fun x=>!dM D x || decide (kK D e<=kK D x)) | none=>false
def bu (D:List Nat) (es:List Ed):Option Nat:=bI (minP D es) es.length
theorem lR {D:List Nat} {es:List Ed} {k:Nat}:minP D es k=true↔∃ e,es[k]? = some e/\dM D e=true/\∀ x∈es,dM D x=true->kK D e<=kK D x:=by
 unfold minP
 cases h:es[k]? with
 | none=>simp
 | some e=>
  simp only [Bool.and_eq_true,List.all_eq_true,Bool.or_eq_true,Bool.not_eq_true',decide_eq_true_eq,oI,exists_eq_left'];refine and_congr_right fun _=>forall_congr' fun x=>forall_congr' fun _=>?_;cases dM D x<;>simp
theorem tp {D:List Nat} {es:List Ed} {k:Nat} {e:Ed} (h:es[k]? = some e) (ht:dM D e=true) (h1:∀ x∈es,dM D x=true->kK D e<=kK D x) (h2:∀ j x,j < k->es[j]? = some x->dM D x=true->kK D e < kK D x):bu D es=some k:=by
 refine bq (gS h).1 (lR.2 ⟨e,h,ht,h1⟩) fun j hj=>?_
 cases hm:minP D es j with
 | false=>rfl
 | true=>
  obtain ⟨x,hx,Pe,hxm⟩:=lR.1 hm;have:=h2 j x hj hx Pe;have:=hxm e (mG h) ht;omega
theorem um {D:List Nat} {es:List Ed} (h:∀ x∈es,dM D x=false):bu D es=none:=by
 refine bK fun j _=>?_
 cases hm:minP D es j with
 | false=>rfl
 | true=>
  obtain ⟨x,hx,Pe,_⟩:=lR.1 hm;rw [h x (mG hx)] at Pe;cases Pe
theorem EN {D:List Nat} {es:List Ed} {k:Nat} (h:bu D es=some k):∃ e,es[k]? = some e/\dM D e=true/\∀ x∈es,dM D x=true->kK D e<=kK D x:=lR.1 (cA h).2.1
theorem KL {D:List Nat}:∀ (m:Nat) {es:List Ed} {x:Ed},x∈es->dM D x=true->kK D x<=m->∃ k,bu D es=some k:=by
 intro m
 induction m with
 | zero=>
  intro es x hx ht hm
  cases hc:bu D es with
  | some k=>exact ⟨k,rfl⟩
  | none=>
   obtain ⟨j,hj,rfl⟩:=List.getElem_of_mem hx;have:=cg hc j hj;rw [lR.2 ⟨_,gE hj,ht,fun y _ _=>by omega⟩] at this;cases this
 | succ m ih=>
  intro es x hx ht hm;by_cases hy:∃ y∈es,dM D y=true/\kK D y<=m
  ·obtain ⟨y,h1,h2,h3⟩:=hy;exact ih h1 h2 h3
  ·cases hc:bu D es with
   | some k=>exact ⟨k,rfl⟩
   | none=>
    obtain ⟨j,hj,rfl⟩:=List.getElem_of_mem hx;have:=cg hc j hj
    rw [lR.2 ⟨_,gE hj,ht,fun y h1 h2=>by
     refine Nat.le_of_not_lt fun h=>hy ⟨y,h1,h2,by omega⟩⟩] at this
    cases this
def uo (D:List Nat) (es:List Ed) (k:Nat):Bool:=decide (bu D es≠some k) && (match es[k]? with | some e=>dM D e | none=>false)
def la (D:List Nat) (es:List Ed):Option Nat:=bI (uo D es) es.length
theorem lS {D:List Nat} {es:List Ed} {k:Nat} {e:Ed} (h:es[k]? = some e):uo D es k=(decide (bu D es≠some k) && dM D e):=by unfold uo;rw [h]
theorem tq {D:List Nat} {es:List Ed} {k:Nat} (h:la D es=some k):∃ e,es[k]? = some e/\dM D e=true:=by
 obtain ⟨h1,h2,_⟩:=cA h;have he:=gE h1;rw [lS he,Bool.and_eq_true] at h2;exact ⟨_,he,h2.2⟩
theorem KM {D:List Nat} {es:List Ed} (h:la D es=none) {k:Nat} {e:Ed} (he:es[k]? = some e) (ht:dM D e=true):bu D es=some k:=by
 have:=cg h k (gS he).1;rw [lS he,ht,Bool.and_true,decide_eq_false_iff_not] at this;exact Classical.not_not.1 this
def EO (K:List Bool) (es:List Ed) (k:Nat):Bool:=match es[k]? with | some e=>K.getD e.to.toNat false | none=>false
def x6 (K:List Bool) (es:List Ed):Option Nat:=bI (EO K es) es.length
def aY (n:Nat):Nat:=min n 4097
theorem fm (n:Nat):aY n<=4097:=Nat.min_le_right _ _
def cE (sz:List Nat) (e:Ed):Nat:=if e.bare=true then 0 else bY sz e
def sumX (sz:List Nat) (aS:Int):List Ed->Nat->Nat->Nat
 | [],_,n=>n
 | e :: r,i,n=>sumX sz aS r (i + 1) (if (i:Int)=aS then n else aY (n + cE sz e))
theorem mO {sz:List Nat} {c:Int}:∀ {es:List Ed} {i n:Nat},n<=4097->sumX sz c es i n<=4097
 | [],_,_,h=>h
 | e :: r,i,n,h=>by
  rw [sumX];refine mO ?_;split
  ·exact h
  ·exact fm _
theorem mP {sz:List Nat} {c:Int}:∀ {es:List Ed} {i n:Nat},n<=4097->n<=sumX sz c es i n
 | [],_,_,_=>Nat.le_refl _
 | e :: r,i,n,h=>by
  rw [sumX];split
  ·exact mP h
  ·refine Nat.le_trans ?_ (mP (fm _));unfold aY;omega
theorem AK (sz:List Nat) (c:Int):∀ (es:List Ed) (e:Ed) (i n:Nat),sumX sz c (es ++ [e]) i n=if ((i + es.length:Nat):Int)=c then sumX sz c es i n else aY (sumX sz c es i n + cE sz e)
 | [],e,i,n=>by simp [sumX]
 | x :: r,e,i,n=>by
  rw [List.cons_append,sumX,AK sz c r,sumX,List.length_cons,show i + 1 + r.length=i + (r.length + 1) by omega]
def sizeF (sz D:List Nat) (n:Nd):Nat:=
 if n.ag=7 then sumX sz (-1) n.ai 0 1
 else if n.ag=8 then (match bu D n.ai with | some c=>(match n.ai[c]? with | some e=>aY (1 + cE sz e) | none=>1) | none=>1)
 else 1
def eB (sz D:List Nat) (K:List Bool) (n:Nd):Nat × Option Nat:=
 if n.ag=5∨n.ag=6 then (match n.ai[0]? with | some e=>(aY (1 + cE sz e),none) | none=>(1,none))
 else if n.ag=7 then (match x6 K n.ai with | some c=>(match n.ai[c]? with | some e=>(sumX sz c n.ai 0 1,some e.to.toNat) | none=>(1,none)) | none=>(1,none))
 else if n.ag=8 then (match la D n.ai with
  | some c=>(match n.ai[c]? with | some e=>(aY (1 + cE sz e),none) | none=>(1,none))
  | none=>(match bu D n.ai with | some c=>(match n.ai[c]? with | some e=>(1,some e.to.toNat) | none=>(1,none)) | none=>(1,none)))
 else (1,none)
def othE (t:List Nat) (k:Nat × Option Nat):Nat:=match k.2 with
 | none=>k.1
 | some j=>if t.getD j 0=0 then 0 else aY (k.1 + t.getD j 0)
theorem EP (sz D:List Nat) (K:List Bool) (n:Nd):1<=(eB sz D K n).1/\(eB sz D K n).1<=4097:=by
 have h1:∀ e,1<=aY (1 + cE sz e)/\aY (1 + cE sz e)<=4097:=fun e=>by unfold aY;omega
 have h2:∀ c,1<=sumX sz c n.ai 0 1/\sumX sz c n.ai 0 1<=4097:=fun c=>⟨mP (by omega),mO (by omega)⟩;unfold eB
 repeat' split
 all_goals first | exact h1 _ | exact h2 _ | exact ⟨Nat.le_refl 1,(by decide:(1:Nat)<=4097)⟩
end Go.Proofs.YtadhpeooehkklaaGreat
set_option maxRecDepth 100000
namespace Go.Proofs.YtadhpeooehkklaaGreat
open Go Go.RowKit
namespace Dv
def putN (sl:List (Nat × Sl)) (dst:Option Nat) (gs:List (Nat × Bool)) (s:DV) (K:List (Nat × Sl)->Prop):Prop:=
 match dst with
 | none=>K sl
 | some d=>K ((d,⟨gs,s⟩) :: sl)
def effN (X:Ctx) (bx:List (List DV)) (sl:List (Nat × Sl)) (op:Op) (K:DV->Prop):Prop:=
 match jR op with
 | true=>optP (effR X ⟨sl,bx,[]⟩ op K)
 | false=>optP (effR X ⟨sl,[],[]⟩ op K)
def goN (X:Ctx) (ops:Array Oper) (bx:List (List DV)) (F:List (Nat × Sl)->Prop):Nat->List Oper->List (Nat × Sl)->Prop
 | _,[],sl=>F sl
 | 0,_ :: _,_=>False
 | n + 1,o :: r,sl=>
  match fV X.nt sl o.dst with
  | false=>False
  | true=>
   match fW o.op with
   | true=>False
   | false=>
    match o.guard with
    | none=>
     match pureT X.P X.T ⟨sl,bx,[]⟩ [] o.op with
     | some s=>putN sl o.dst [] s (goN X ops bx F n r)
     | none=>
      match jR o.op || (pureT X.P X.T ⟨sl,[],[]⟩ [] o.op).isNone with
      | false=>False
      | true=>effN X bx sl o.op fun s=>putN sl o.dst [] s (goN X ops bx F n r)
    | some (j,want)=>
     match gslot ops.toList j with
     | none=>False
     | some d=>
      match get sl d with
      | none=>False
      | some ⟨ia,_⟩=>
       match pureT X.P X.T ⟨sl,bx,[]⟩ ((d,want) :: ia) o.op with
       | some s=>
        match Wu ((d,want) :: ia) o.dst with
        | true=>putN sl o.dst ((d,want) :: ia) s (goN X ops bx F n r)
        | false=>False
       | none=>
        match jR o.op || (pureT X.P X.T ⟨sl,[],[]⟩ ((d,want) :: ia) o.op).isNone with
        | false=>False
        | true=>
         match get sl (lastG (d,want) ia).1 with
         | some ⟨[],.v (.bool b)⟩=>
          match ia with
          | []=>Br (b == want)
            (resL d want sl fun s2=>effN X bx s2 o.op fun s=>putN s2 o.dst [] s (goN X ops bx F n r))
            (resL d (!want) sl fun s2=>putN s2 o.dst [] .ud (goN X ops bx F n r))
          | _ :: _=>Br (b == (lastG (d,want) ia).2)
            (resL (lastG (d,want) ia).1 (lastG (d,want) ia).2 sl fun s2=>goN X ops bx F n (o :: r) s2)
            (resL (lastG (d,want) ia).1 (!(lastG (d,want) ia).2) sl fun s2=>goN X ops bx F n (o :: r) s2)
         | some ⟨[],.ud⟩=>
          match ia with
          | []=>putN sl o.dst [] .ud (goN X ops bx F n r)
          | _ :: _=>False
         | _=>False
section
variable {X:Ctx} {ops:Array Oper} {bx:List (List DV)} {tk:List TkE} {W:Nat->Bool} {k:List It} {s00:List (Nat × Sl)} {t00:List TkE}
theorem putN_2 {sl:List (Nat × Sl)} {dst:Option Nat} {gs:List (Nat × Bool)} {s:DV} {K:List (Nat × Sl)->Prop} {K2:List (Nat × Sl)->St->Prop} (h:putN sl dst gs s K) (hK:∀ l,K l->K2 l ⟨l,bx,tk⟩):put2 sl ⟨sl,bx,tk⟩ dst true gs s K2:=by
 cases dst with
 | none=>exact hK _ h
 | some d=>exact hK _ h
theorem AL {st:St} {op:Op} {K K2:DV->Prop} (hK:∀ s,K s->K2 s):optP (effR X st op K)->optP (effR X st op K2):=by
 unfold effR
 repeat' split
 all_goals first | exact id | exact fun h=>⟨h.1,hK _ h.2⟩ | exact fun ⟨d,h⟩=>⟨d,h.1,hK _ h.2⟩
theorem Ol {sl:List (Nat × Sl)} {op:Op} {K:DV->Prop} {K2:Bool->DV->Prop} {D:Dr} (hb:D.ig.bx=bx) (hE:fW op=false) (hK:∀ s,K s->K2 true s) (h:effN X bx sl op K):optP (eR X D true sl ⟨sl,bx,tk⟩ op K2):=by
 unfold effN at h;unfold eR;rw [hE];simp only
 cases hl:jR op with
 | true=>
  rw [hl] at h;simp only at h ⊢;rw [hb];exact AL hK h
 | false=>
  rw [hl] at h;simp only at h ⊢;have:=AL hK h
  cases hq:effR X ⟨sl,[],[]⟩ op (K2 true) with
  | none=>rw [hq] at this;exact this.elim
  | some p=>rw [hq] at this;exact this
theorem Om (ig:St) (hb:ig.bx=bx):∀ (n:Nat) (r:List Oper) (i:Nat) (sl:List (Nat × Sl)),goN X ops bx (fun sl=>go X 4000 k ⟨sl,bx,tk⟩) n r sl->goD X ⟨ops,W,k,ig,none⟩ n true (nOps i r) sl ⟨sl,bx,tk⟩
 | 0,[],i,sl,h=>h
 | n + 1,[],i,sl,h=>h
 | 0,_ :: _,_,_,h=>h.elim
 | n + 1,o :: r,i,sl,h=>by
  have ih:=Om ig hb n r (i + 1);have Tc:=Om ig hb n (o :: r) i;show goD X ⟨ops,W,k,ig,none⟩ (n + 1) true ((i,o) :: nOps (i + 1) r) sl ⟨sl,bx,tk⟩;simp only [goN] at h;simp only [goD]
  cases bm:fV X.nt sl o.dst with
  | false=>rw [bm] at h;exact h.elim
  | true=>
  rw [bm] at h;simp only [Bool.and_self] at h ⊢
  cases hE:fW o.op with
  | true=>rw [hE] at h;exact h.elim
  | false=>
  rw [hE] at h;simp only at h ⊢
  have ZF:∀ G s,pureT X.P X.T ⟨sl,bx,[]⟩ G o.op=some s->pR X ⟨ops,W,k,ig,none⟩ true sl ⟨sl,bx,tk⟩ G o.op=some (true,s):=fun G s hs=>by
   unfold pR;rw [hE,hb];simp only [Bool.not_false,Bool.or_true,Bool.and_self,hs]
  have ZG:∀ G,pureT X.P X.T ⟨sl,bx,[]⟩ G o.op=none->(jR o.op || (pureT X.P X.T ⟨sl,[],[]⟩ G o.op).isNone)=true->pR X ⟨ops,W,k,ig,none⟩ true sl ⟨sl,bx,tk⟩ G o.op=none:=fun G hs h2=>by
   unfold pR;rw [hE,hb];simp only [Bool.not_false,Bool.or_true,Bool.and_self,hs]
   cases hl:jR o.op with
   | true=>rfl
   | false=>
    rw [hl,Bool.false_or,Option.isNone_iff_eq_none] at h2;rw [h2]
  cases hg:o.guard with
  | none=>
   rw [hg] at h;simp only at h ⊢
   cases hp:pureT X.P X.T ⟨sl,bx,[]⟩ [] o.op with
   | some s=>
    rw [hp] at h;rw [ZF _ _ hp];exact putN_2 h ih
   | none=>
    rw [hp] at h;simp only at h
    cases h2:(jR o.op || (pureT X.P X.T ⟨sl,[],[]⟩ [] o.op).isNone) with
    | false=>rw [h2] at h;exact h.elim
    | true=>
     rw [h2] at h;rw [ZG _ hp h2];exact Ol hb hE (fun s hs=>putN_2 hs ih) h
  | some jw=>
   obtain ⟨j,want⟩:=jw;rw [hg] at h;simp only at h ⊢
   cases CM:gslot ops.toList j with
   | none=>rw [CM] at h;exact h.elim
   | some d=>
   rw [CM] at h;simp only at h ⊢
   cases hd:get sl d with
   | none=>rw [hd] at h;exact h.elim
   | some x=>
   obtain ⟨ia,xs⟩:=x;rw [hd] at h;simp only at h ⊢
   cases hp:pureT X.P X.T ⟨sl,bx,[]⟩ ((d,want) :: ia) o.op with
   | some s=>
    rw [hp] at h;rw [ZF _ _ hp];simp only at h ⊢
    cases hG:Wu ((d,want) :: ia) o.dst with
    | false=>rw [hG] at h;exact h.elim
    | true=>
     rw [hG] at h;exact putN_2 h ih
   | none=>
    rw [hp] at h;simp only at h
    cases h2:(jR o.op || (pureT X.P X.T ⟨sl,[],[]⟩ ((d,want) :: ia) o.op).isNone) with
    | false=>rw [h2] at h;exact h.elim
    | true=>
    rw [h2] at h;rw [ZG _ hp h2];simp only at h ⊢
    cases hl:get sl (lastG (d,want) ia).1 with
    | none=>rw [hl] at h;exact h.elim
    | some y=>
    obtain ⟨gy,sy⟩:=y;rw [hl] at h;simp only [vz,uR] at h ⊢;split at h
    ·rename_i b hy;simp only [oI,Sl.mk.injEq] at hy;obtain ⟨rfl,rfl⟩:=hy;simp only
     cases ia with
     | nil=>
      simp only at h ⊢;unfold Br at h ⊢
      cases uA:(b == want) with
      | true=>
       rw [uA] at h;exact Ol hb hE (fun s hs=>putN_2 hs ih) h
      | false=>
       rw [uA] at h;simp only [Bool.or_true] at h ⊢;exact putN_2 h ih
     | cons q gs=>
      simp only at h ⊢;unfold Br at h ⊢
      cases uA:(b == (lastG (d,want) (q :: gs)).2) with
      | true=>rw [uA] at h;exact Tc _ h
      | false=>rw [uA] at h;exact Tc _ h
    ·rename_i hy;simp only [oI,Sl.mk.injEq] at hy;obtain ⟨rfl,rfl⟩:=hy
     cases ia with
     | nil=>
      simp only [Bool.or_true] at h ⊢;exact putN_2 h ih
     | cons q gs=>exact h.elim
    ·exact h.elim
theorem jl {id:Nat} {st:St} (hm:X.P.follows .mixedOrders=true) (hc:Df ops (fun _=>false)=true)
  (h:goN X ops st.bx (fun sl=>go X 4000 k ⟨sl,st.bx,st.tk⟩) 3000 ops.toList st.sl):ly X id ops k st:=uW (fun _=>false) hm hc (Om st rfl 3000 ops.toList 0 st.sl h)
end
end Dv
end Go.Proofs.YtadhpeooehkklaaGreat
set_option maxRecDepth 100000
namespace Go.Proofs.YtadhpeooehkklaaGreat
open Go Go.RowKit Dv Go.Proofs.Tryz
abbrev mQ (PC:List DV) (ND:List Nd) (D:List Nat) (K:List Bool) (sz ot:List Nat):List DV:=[.pt PC 0,.sl 7 (bh ND) none,.sl 1 (dInts D) none,.sl 1 (ql K) none,.sl 1 (dInts sz) none,.sl 1 (dInts ot) none]
theorem dP (n:Nat):aQ prog 126 [.v (.int .i64 n)] (.v (.int .i64 (aY n:Nat))):=by
 refine eG 5 [.tmp 2] func126 rfl ntmps126 rfl fun _ _ _ _=>?_;refine (congrArg (fun z=>DV.v (.int .i64 z)) ?_:_=_);unfold aY;omega
section
variable (PC:List DV) (ND:List Nd) (D:List Nat) (K:List Bool) (sz ot:List Nat) {L:Nat}
abbrev AM (n:Nd) (b:Option Nat) (e:Nat):St:=
 ⟨[(0,⟨[],.pt (mQ PC ND D K sz ot) 0⟩),(3,⟨[],.loc 0 0⟩),(5,⟨[],.v (.int .i64 (oz b))⟩),(9,⟨[],.sl 10 (cw n.ai) none⟩),(10,⟨[],.v (.int .i64 (cw n.ai).length)⟩),(11,⟨[],.v (.int .i64 e)⟩)],[gv n],[]⟩
structure EQ (D:List Nat) (es:List Ed) (e:Nat) (b:Option Nat):Prop where
 nb:∀ (j:Nat) x,j < e->es[j]? = some x->x.bare=false
 no:b=none->∀ (j:Nat) x,j < e->es[j]? = some x->dM D x=false
 yes:∀ k,b=some k->∃ x,k < e/\es[k]? = some x/\dM D x=true/\(∀ (j:Nat) y,j < e->es[j]? = some y->dM D y=true->bY D x<=bY D y)/\∀ (j:Nat) y,j < k->es[j]? = some y->dM D y=true->bY D x < bY D y
theorem EQ.step {es:List Ed} {e:Nat} {b b':Option Nat} {x:Ed} (hB:EQ D es e b) (hx:es[e]? = some x) (hb:x.bare=false)
  (h:(dM D x=false/\b'=b)∨(dM D x=true/\(∃ k y,b=some k/\es[k]? = some y/\bY D y<=bY D x)/\b'=b)∨(dM D x=true/\(b=none∨∃ k y,b=some k/\es[k]? = some y/\bY D x < bY D y)/\b'=some e)):EQ D es (e + 1) b':=by
 have hnb:∀ (j:Nat) y,j < e + 1->es[j]? = some y->y.bare=false:=fun j y hj hy=>by
  rcases Nat.lt_succ_iff_lt_or_eq.1 hj with h1 | rfl
  ·exact hB.nb j y h1 hy
  ·rw [hx] at hy;cases hy;exact hb
 rcases h with ⟨ht,rfl⟩ | ⟨ht,⟨k,y,rfl,hy,dq⟩,rfl⟩ | ⟨ht,hc,rfl⟩
 ·refine ⟨hnb,fun hn j y hj hy=>?_,fun k hk=>?_⟩
  ·rcases Nat.lt_succ_iff_lt_or_eq.1 hj with h1 | rfl
   ·exact hB.no hn j y h1 hy
   ·rw [hx] at hy;cases hy;exact ht
  ·obtain ⟨z,h1,h2,h3,h4,h5⟩:=hB.yes k hk;refine ⟨z,by omega,h2,h3,fun j y hj hy Jw=>?_,h5⟩;rcases Nat.lt_succ_iff_lt_or_eq.1 hj with h6 | rfl
   ·exact h4 j y h6 hy Jw
   ·rw [hx] at hy;cases hy;rw [ht] at Jw;cases Jw
 ·refine ⟨hnb,fun hn=>(by cases hn),fun k' hk=>?_⟩;cases hk;obtain ⟨z,h1,h2,h3,h4,h5⟩:=hB.yes k rfl;rw [hy] at h2;cases h2;refine ⟨_,by omega,hy,h3,fun j w hj hw Jw=>?_,h5⟩;rcases Nat.lt_succ_iff_lt_or_eq.1 hj with h6 | rfl
  ·exact h4 j w h6 hw Jw
  ·rw [hx] at hw;cases hw;exact dq
 ·have aj:∀ (j:Nat) w,j < e->es[j]? = some w->dM D w=true->bY D x < bY D w:=fun j w hj hw Jw=>by
   rcases hc with rfl | ⟨k,y,rfl,hy,hl⟩
   ·rw [hB.no rfl j w hj hw] at Jw;cases Jw
   ·obtain ⟨z,h1,h2,h3,h4,h5⟩:=hB.yes k rfl;rw [hy] at h2;cases h2;have:=h4 j w hj hw Jw;omega
  refine ⟨hnb,fun hn=>(by cases hn),fun k' hk=>?_⟩;cases hk;refine ⟨x,by omega,hx,ht,fun j w hj hw Jw=>?_,aj⟩;rcases Nat.lt_succ_iff_lt_or_eq.1 hj with h6 | rfl
  ·exact Nat.le_of_lt (aj j w h6 hw Jw)
  ·rw [hx] at hw;cases hw;exact Nat.le_refl _
theorem choose_spec {n:Nd} (hD:D.length=ND.length) (hn:cz L ND.length n) (dY:n.ai.length<=1099511627776) :
  aQ prog 143 [.pt (mQ PC ND D K sz ot) 0,.agg (gv n)] (.v (.int .i64 (oz (bu D n.ai)))):=by
 have aU:=hn.fD;obtain ⟨ag,aS,lo,hi,most,af,es⟩:=n;simp only at aU dY;have bA:=aO es;refine eG 60 [.tmp 4] func143 rfl ntmps143 rfl fun _ _ _ _=>?_;refine lI (fun j st=>∃ (e:Nat) (b:Option Nat),st=AM PC ND D K sz ot ⟨ag,aS,lo,hi,most,af,es⟩ b e/\e<=es.length/\EQ D es e b/\j=es.length - e) ⟨0,none,rfl,by omega,⟨fun _ _ h=>by omega,fun _ _ _ h=>by omega,fun _ h=>by cases h⟩,rfl⟩ (ap 1 rfl wA rfl rfl rfl wB) ?_;rintro j st ⟨e,b,rfl,he,hB,rfl⟩;refine br ?_ ?_<;>intro hL
 ·have aj:e < es.length:=sV bA hL;obtain ⟨x,hx⟩:=gX aj;have tF:=aU x (mG hx)
  have Td:∃ z,x.bare=false->D[x.to.toNat]? = some z/\x.to=(x.to.toNat:Nat)/\bY D x=z:=by
   cases hb:x.bare with
   | true=>exact ⟨0,fun h=>by cases h⟩
   | false=>
    obtain ⟨k,hk,ee⟩:=tF.to1 hb;have hg:D[x.to.toNat]? = some D[x.to.toNat]:=gE (by omega);exact ⟨_,fun _=>⟨hg,by omega,by unfold bY;rw [List.getD_eq_getElem?_getD,hg];rfl⟩⟩
  obtain ⟨z,hz⟩:=Td;have ZH:x.bare=true->dM D x=true:=fun h=>by unfold dM;rw [h];all_goals rfl
  have KN:x.bare=false->dM D x=decide (0 < bY D x):=fun h=>by unfold dM;rw [h];all_goals rfl
  have lE:x.bare=true->kK D x=0:=fun h=>by unfold kK;rw [if_pos h]
  have jF:∀ (j:Nat) y,j < e->es[j]? = some y->dM D y=true->y.bare=false/\0 < bY D y/\kK D y=bY D y:=fun j y hj hy ht=>by
   have hb:=hB.nb j y hj hy;unfold dM at ht;rw [hb,Bool.false_or] at ht;exact ⟨hb,of_decide_eq_true ht,by unfold kK;rw [if_neg (by rw [hb];simp)]⟩
  have ZI:x.bare=true->bu D es=some e:=fun hb=>by
   refine tp hx (ZH hb) (fun y _ _=>by rw [lE hb];omega) fun j y hj hy ht=>?_;obtain ⟨_,h2,h3⟩:=jF j y hj hy ht;rw [lE hb,h3];exact h2
  have hU:∀ b',x.bare=false->((dM D x=false/\b'=b)∨(dM D x=true/\(∃ k y,b=some k/\es[k]? = some y/\bY D y<=bY D x)/\b'=b)∨(dM D x=true/\(b=none∨∃ k y,b=some k/\es[k]? = some y/\bY D x < bY D y)/\b'=some e))->EQ D es (e + 1) b':=fun b' hb h=>hB.step D hx hb h;clear ZH lE jF;generalize dM D x=T at KN hU;generalize bY D x=ex at hz KN hU;obtain ⟨en,eb,ea,et,vi,ew,yD,yE,yF,yG⟩:=x;simp only at hz KN ZI hU;refine iX (aC hx) ?_;refine br ?_ ?_<;>intro c
  ·rw [ZI c];exact (rfl:_=_)
  ·subst c;obtain ⟨hz1,GU,Lo⟩:=hz rfl;have KN:=KN rfl;have hU:=fun b'=>hU b' rfl;subst Lo KN;obtain ⟨to,rfl⟩:∃ k:Nat,et=k:=⟨_,GU⟩;rw [Int.toNat_natCast] at hz1
   cases b with
   | none=>
    refine jl mo (by decide +kernel) ?_;refine ⟨_,⟨Int.natCast_nonneg _,aD hz1⟩,?_⟩;refine br ?_ ?_<;>intro c
    ·have c:0 < ex:=by simpa [lastG] using c
     exact ⟨AM PC ND D K sz ot ⟨ag,aS,lo,hi,most,af,es⟩ (some e) (e + 1),(ap 1 rfl (na (aF aj (by omega))) rfl rfl rfl (cX (aF aj (by omega)))),es.length - (e + 1),by omega,e + 1,some e,rfl,by omega,hU _ (.inr (.inr ⟨decide_eq_true c,.inl rfl,rfl⟩)),rfl⟩
    ·have c:¬ 0 < ex:=by simpa [lastG] using c
     exact ⟨AM PC ND D K sz ot ⟨ag,aS,lo,hi,most,af,es⟩ none (e + 1),(ap 1 rfl (na (aF aj (by omega))) rfl rfl rfl (cX (aF aj (by omega)))),es.length - (e + 1),by omega,e + 1,none,rfl,by omega,hU _ (.inl ⟨decide_eq_false c,rfl⟩),rfl⟩
   | some k=>
    obtain ⟨y,uT,hy,hyt,_⟩:=hB.yes k rfl;have Vu:=hB.nb k y uT hy;obtain ⟨ky,hky,hkyl⟩:=(aU y (mG hy)).to1 Vu;obtain ⟨zy,hzy⟩:∃ z,D[ky]? = some z:=⟨_,gE (by omega)⟩;have hzy2:bY D y=zy:=by unfold bY;rw [hky,Int.toNat_natCast,List.getD_eq_getElem?_getD,hzy];all_goals rfl
    refine jl mo (by decide +kernel) ?_;refine ⟨_,⟨Int.natCast_nonneg _,aD hz1⟩,?_⟩;refine br ?_ ?_<;>intro c
    ·have c:0 < ex:=by simpa [lastG] using c
     refine ⟨_,⟨Int.natCast_nonneg _,aD hz1⟩,?_⟩;refine ⟨_,⟨Int.natCast_nonneg _,aC hy⟩,?_⟩;refine ⟨_,⟨by rw [hky];exact Int.natCast_nonneg _,by rw [hky];exact aD hzy⟩,?_⟩;refine br ?_ ?_<;>intro g
     ·have g:ex < zy:=by simpa [lastG,pickB] using g
      exact ⟨AM PC ND D K sz ot ⟨ag,aS,lo,hi,most,af,es⟩ (some e) (e + 1),(ap 1 rfl (na (aF aj (by omega))) rfl rfl rfl (cX (aF aj (by omega)))),es.length - (e + 1),by omega,e + 1,some e,rfl,by omega,hU _ (.inr (.inr ⟨decide_eq_true c,.inr ⟨k,y,rfl,hy,by omega⟩,rfl⟩)),rfl⟩
     ·have g:¬ ex < zy:=by simpa [lastG,pickB] using g
      exact ⟨AM PC ND D K sz ot ⟨ag,aS,lo,hi,most,af,es⟩ (some k) (e + 1),(ap 1 rfl (na (aF aj (by omega))) rfl rfl rfl (cX (aF aj (by omega)))),es.length - (e + 1),by omega,e + 1,some k,rfl,by omega,hU _ (.inr (.inl ⟨decide_eq_true c,⟨k,y,rfl,hy,by omega⟩,rfl⟩)),rfl⟩
    ·have c:¬ 0 < ex:=by simpa [lastG] using c
     exact ⟨AM PC ND D K sz ot ⟨ag,aS,lo,hi,most,af,es⟩ (some k) (e + 1),(ap 1 rfl (na (aF aj (by omega))) rfl rfl rfl (cX (aF aj (by omega)))),es.length - (e + 1),by omega,e + 1,some k,rfl,by omega,hU _ (.inl ⟨decide_eq_false c,rfl⟩),rfl⟩
 ·have aM:e=es.length:=sW bA hL;subst aM
  cases b with
  | none=>
   rw [um fun x hx=>by
    obtain ⟨j,hj,rfl⟩:=List.getElem_of_mem hx
    exact hB.no rfl j _ hj (gE hj)]
   exact (rfl:_=_)
  | some k=>
   obtain ⟨x,h1,h2,h3,h4,h5⟩:=hB.yes k rfl;have hb:=hB.nb k x h1 h2;have Td:kK D x=bY D x:=by unfold kK;rw [if_neg (by rw [hb];simp)]
   have hdy:∀ (j:Nat) y,j < es.length->es[j]? = some y->kK D y=bY D y:=fun j y hj hy=>by unfold kK;rw [if_neg (by rw [hB.nb j y hj hy];simp)]
   rw [tp h2 h3 (fun y hy ht=>by
    obtain ⟨j,hj,rfl⟩:=List.getElem_of_mem hy;have fY:=gE hj;rw [Td,hdy j _ hj fY]
    exact h4 j _ hj fY ht) fun j y hj hy ht=>by
    rw [Td,hdy j y (by omega) hy]
    exact h5 j y hj hy ht]
   exact (rfl:_=_)
end
theorem Te {a:Option Nat} {k:Nat}:((k:Nat):Int)≠oz a↔a≠some k:=by
 cases a with
 | none=>simp [oz]
 | some j=>simp [oz];omega
section
variable (PC:List DV) (ND:List Nd) (D:List Nat) (K:List Bool) (sz ot:List Nat) {L:Nat}
abbrev ZJ (n:Nd) (e:Nat):St:=
 ⟨[(0,⟨[],.pt (mQ PC ND D K sz ot) 0⟩),(3,⟨[],.loc 0 0⟩),(5,⟨[],.v (.int .i64 (oz (bu D n.ai)))⟩),(12,⟨[],.sl 10 (cw n.ai) none⟩),(13,⟨[],.v (.int .i64 (cw n.ai).length)⟩),(14,⟨[],.v (.int .i64 e)⟩)],[gv n],[]⟩
theorem x7 {n:Nd} (hD:D.length=ND.length) (hn:cz L ND.length n) (dY:n.ai.length<=1099511627776) :
  aQ prog 145 [.pt (mQ PC ND D K sz ot) 0,.agg (gv n)] (.v (.int .i64 (oz (la D n.ai)))):=by
 have za:=choose_spec PC ND D K sz ot hD hn dY;have aU:=hn.fD;obtain ⟨ag,aS,lo,hi,most,af,es⟩:=n;simp only at aU dY za;have bA:=aO es;refine eG 39 [.tmp 4] func145 rfl ntmps145 rfl fun _ _ _ _=>?_;refine cP Ij za ?_;refine lI (fun j st=>∃ e:Nat,st=ZJ PC ND D K sz ot ⟨ag,aS,lo,hi,most,af,es⟩ e/\e<=es.length/\(∀ k,k < e->uo D es k=false)/\j=es.length - e) ⟨0,rfl,by omega,fun _ h=>by omega,rfl⟩ (ap 1 rfl wA rfl rfl rfl wB) ?_;rintro j st ⟨e,rfl,he,hB,rfl⟩;refine br ?_ ?_<;>intro hL
 ·have aj:e < es.length:=sV bA hL;obtain ⟨x,hx⟩:=gX aj;have tF:=aU x (mG hx);have nr:=lS (D:=D) hx;have On:uo D es e=true->la D es=some e:=fun h=>bq aj h hB
  have eZ:uo D es e=false->∀ k,k < e + 1->uo D es k=false:=fun h k hk=>by
   rcases Nat.lt_succ_iff_lt_or_eq.1 hk with h1 | rfl
   ·exact hB k h1
   ·exact h
  have Td:∃ z,x.bare=false->D[x.to.toNat]? = some z/\0<=x.to/\dM D x=decide (0 < z):=by
   cases hb:x.bare with
   | true=>exact ⟨0,fun h=>by cases h⟩
   | false=>
    obtain ⟨k,hk,ee⟩:=tF.to1 hb;have hg:D[x.to.toNat]? = some D[x.to.toNat]:=gE (by omega);exact ⟨_,fun _=>⟨hg,by omega,by unfold dM bY;rw [hb,List.getD_eq_getElem?_getD,hg];rfl⟩⟩
  obtain ⟨z,hz⟩:=Td;have cS:x.bare=true->dM D x=true:=fun h=>by unfold dM;rw [h];all_goals rfl
  generalize uo D es e=T at nr On eZ;generalize dM D x=B at nr hz cS;obtain ⟨en,eb,ea,et,vi,ew,yD,yE,yF,yG⟩:=x;simp only at hz cS;refine iX (aC hx) ?_;refine jl mo (by decide +kernel) ?_;refine br ?_ ?_<;>intro c1
  ·have c1:bu D es≠some e:=Te.1 (by simpa [lastG] using c1);refine br ?_ ?_<;>intro c2
   ·have c2:eb=false:=by simpa [lastG] using c2
    obtain ⟨hz1,GU,Lo⟩:=hz c2;refine ⟨_,⟨GU,aD hz1⟩,?_⟩;refine br ?_ ?_<;>intro g
    ·have g:0 < z:=by simpa [lastG,pickB] using g
     rw [On (by rw [nr,Lo,decide_eq_true g,Bool.and_true];exact decide_eq_true c1)];exact (rfl:_=_)
    ·have g:¬ 0 < z:=by simpa [lastG,pickB] using g
     exact rE ⟨_,by omega,e + 1,rfl,by omega,eZ (by rw [nr,Lo,decide_eq_false g,Bool.and_false]),rfl⟩ (ap 1 rfl (na (aF aj (by omega))) rfl rfl rfl (cX (aF aj (by omega))))
   ·have c2:eb=true:=by simpa [lastG] using c2
    rw [On (by rw [nr,cS c2,Bool.and_true];exact decide_eq_true c1)];exact (rfl:_=_)
  ·have c1:¬ bu D es≠some e:=fun h=>by
    have:=Te.2 h;simp [lastG] at c1;exact this c1
   exact rE ⟨_,by omega,e + 1,rfl,by omega,eZ (by rw [nr,decide_eq_false c1,Bool.false_and]),rfl⟩ (ap 1 rfl (na (aF aj (by omega))) rfl rfl rfl (cX (aF aj (by omega))))
 ·have aM:e=es.length:=sW bA hL;subst aM;rw [show la D es=none from bK hB];exact (rfl:_=_)
theorem pX {e:Ed} (hs:sz.length=ND.length) (he:NS L ND.length e) :
  aQ prog 183 [.pt (mQ PC ND D K sz ot) 0,.agg (BZ e)] (.v (.int .i64 (cE sz e:Nat))):=by
 obtain ⟨en,eb,ea,et,vi,ew,yD,yE,yF,yG⟩:=e;have h1:=he.to1;simp only at h1;refine eG 15 [.tmp 4] func183 rfl ntmps183 rfl fun _ _ _ _=>?_;refine br ?_ ?_<;>intro c
 ·subst c;exact (rfl:_=_)
 ·subst c;obtain ⟨k,rfl,ee⟩:=h1 rfl;have hg:sz[k]? = some sz[k]:=gE (by omega);refine jl mo (by decide +kernel) ?_;refine ⟨_,⟨Int.natCast_nonneg _,aD hg⟩,?_⟩;refine (congrArg (fun z=>DV.v (.int .i64 z)) ?_:_=_);unfold cE bY;simp [List.getD_eq_getElem?_getD,hg]
end
theorem AN {K:List Nat}:∀ {es:List Ed} {m:Nat},0 < leastR K es m->m < leastR K es m/\∀ e∈es,0 < bY K e/\bY K e < leastR K es m
 | [],m,_=>⟨Nat.lt_succ_self m,fun e he=>by cases he⟩
 | x :: r,m,h=>by
  rw [leastR] at h ⊢;split at h
  ·omega
  ·rename_i h0;rw [if_neg h0];obtain ⟨h1,h2⟩:=AN h;refine ⟨by omega,fun e he=>?_⟩;rcases List.mem_cons.1 he with rfl | he
   ·omega
   ·exact h2 e he
theorem tu {K:List Nat}:∀ {es:List Ed} {b:Nat},0 < cf K es b->(∃ e∈es,dM K e=true/\kK K e < cf K es b)∨(0 < b/\b < cf K es b)
 | [],b,h=>by
  rw [cf] at h ⊢;split at h
  ·omega
  ·rename_i h0;rw [if_neg h0];omega
 | x :: r,b,h=>by
  have ZK:∀ {v:Nat},(∃ e∈r,dM K e=true/\kK K e < v)->∃ e∈x :: r,dM K e=true/\kK K e < v:=fun ⟨e,h1,h2⟩=>⟨e,List.mem_cons_of_mem _ h1,h2⟩;rw [cf] at h ⊢;split at h
  ·rename_i hb;rw [if_pos hb];exact .inl ⟨x,List.mem_cons_self,by unfold dM;rw [hb];rfl,by unfold kK;rw [if_pos hb];omega⟩
  ·rename_i hb;rw [if_neg hb];split at h
   ·rename_i h0;rw [if_pos h0];rcases tu h with h1 | ⟨h1,h2⟩
    ·exact .inl (ZK h1)
    ·refine .inl ⟨x,List.mem_cons_self,?_,?_⟩
     ·unfold dM;simp [h1]
     ·unfold kK;rw [if_neg hb];exact h2
   ·rename_i h0;rw [if_neg h0];rcases tu h with h1 | h1
    ·exact .inl (ZK h1)
    ·exact .inr h1
theorem choose_lt {K:List Nat} {es:List Ed} (h:0 < cf K es 0):∃ c e,bu K es=some c/\es[c]? = some e/\dM K e=true/\kK K e < cf K es 0:=by
 rcases tu h with ⟨x,h1,h2,h3⟩ | h1
 ·obtain ⟨c,hc⟩:=KL (kK K x) h1 h2 (Nat.le_refl _);obtain ⟨e,he,ht,hm⟩:=EN hc;have:=hm x h1 h2;exact ⟨c,e,hc,he,ht,by omega⟩
 ·omega
structure gB (ND:List Nd) (D:List Nat):Prop where
 len:D.length=ND.length
 le:∀ i,D.getD i 0<=ND.length
 get:∀ i n,ND[i]? = some n->D.getD i 0=aW n D
theorem fK (ND:List Nd):gB ND (depN ND ND.length):=by
 refine ⟨bp _ _,I3 ND _,fun i n hn=>?_⟩;have:=depN_get ND ND.length i;rw [depN_end,hn] at this;exact this
theorem gB.Wl {ND:List Nd} {D:List Nat} (h:gB ND D) {i:Nat} {n:Nd} (hn:ND[i]? = some n) (h0:0 < D.getD i 0) (h7:n.ag=7):∀ e∈n.ai,0 < bY D e/\bY D e < D.getD i 0:=by
 have h1:=h.get i n hn;rw [aW,if_pos h7] at h1;rw [h1] at h0 ⊢;exact (AN h0).2
theorem gB.Pp {ND:List Nd} {D:List Nat} (h:gB ND D) {i:Nat} {n:Nd} (hn:ND[i]? = some n) (h0:0 < D.getD i 0) (h8:n.ag=8):∃ c e,bu D n.ai=some c/\n.ai[c]? = some e/\(e.bare=false->0 < bY D e/\bY D e < D.getD i 0):=by
 have h1:=h.get i n hn;rw [aW,if_neg (by omega),if_pos h8] at h1;rw [h1] at h0 ⊢;obtain ⟨c,e,hc,he,ht,hl⟩:=choose_lt h0;refine ⟨c,e,hc,he,fun hb=>?_⟩;unfold dM at ht;rw [hb,Bool.false_or] at ht;unfold kK at hl;rw [if_neg (by rw [hb];simp)] at hl;exact ⟨of_decide_eq_true ht,hl⟩
def szL (ND:List Nd) (D:List Nat) (d:Nat):Nat->List Nat->List Nat
 | 0,t=>t
 | e + 1,t=>match ND[e]? with
  | none=>szL ND D d e t
  | some n=>if D.getD e 0=d then (szL ND D d e t).set e (sizeF (szL ND D d e t) D n) else szL ND D d e t
def szR (ND:List Nd) (D:List Nat):Nat->List Nat
 | 0=>List.replicate ND.length 0
 | d + 1=>szL ND D (d + 1) ND.length (szR ND D d)
theorem mR (ND:List Nd) (D:List Nat) (d:Nat):∀ e t,(szL ND D d e t).length=t.length
 | 0,t=>rfl
 | e + 1,t=>by
  rw [szL];split
  ·exact mR ND D d e t
  ·split
   ·rw [List.length_set];exact mR ND D d e t
   ·exact mR ND D d e t
theorem oP (ND:List Nd) (D:List Nat):∀ d,(szR ND D d).length=ND.length
 | 0=>List.length_replicate
 | d + 1=>by rw [szR,mR];exact oP ND D d
theorem HF {ND:List Nd} {D:List Nat} {d:Nat} (h:∀ i,D.getD i 0≠d):∀ e t,szL ND D d e t=t
 | 0,t=>rfl
 | e + 1,t=>by
  rw [szL];split
  ·exact HF h e t
  ·rw [if_neg (h e)];exact HF h e t
theorem Jb {ND:List Nd} {D:List Nat} {m:Nat} (h:∀ i,D.getD i 0<=m):∀ k,szR ND D (m + k)=szR ND D m
 | 0=>rfl
 | k + 1=>by
  show szL ND D (m + k + 1) ND.length (szR ND D (m + k))=_;rw [HF (fun i=>by have:=h i;omega)];exact Jb h k
theorem lT {ND:List Nd} {D:List Nat} {d:Nat} {i:Nat} (h:D.getD i 0≠d):∀ (e:Nat) (t:List Nat),(szL ND D d e t).getD i 0=t.getD i 0
 | 0,t=>rfl
 | e + 1,t=>by
  rw [szL];split
  ·exact lT h e t
  ·split
   ·rename_i he;have bg:i≠e:=fun yA=>h (yA ▸ he);rw [List.getD_eq_getElem?_getD,List.getElem?_set_ne (by omega),<- List.getD_eq_getElem?_getD];exact lT h e t
   ·exact lT h e t
theorem Jc {ND:List Nd} {D:List Nat} {d:Nat} {i:Nat} {n:Nd} (hn:ND[i]? = some n) (h:D.getD i 0=d):∀ (e:Nat) (t:List Nat),t.length=ND.length->i < e->(szL ND D d e t).getD i 0=sizeF (szL ND D d i t) D n
 | e + 1,t,hl,hi=>by
  have DB:=(gS hn).1;rw [szL];rcases Nat.lt_succ_iff_lt_or_eq.1 hi with h1 | rfl
  ·have ih:=Jc hn h e t hl h1;split
   ·exact ih
   ·split
    ·rw [List.getD_eq_getElem?_getD,List.getElem?_set_ne (by omega),<- List.getD_eq_getElem?_getD];exact ih
    ·exact ih
  ·rw [hn];simp only;rw [if_pos h,eY (by rw [mR];omega),if_pos rfl]
theorem x8 {a b:List Nat} {c:Int}:∀ {es:List Ed} {i n:Nat},(∀ e∈es,cE a e=cE b e)->sumX a c es i n=sumX b c es i n
 | [],_,_,_=>rfl
 | e :: r,i,n,h=>by
  rw [sumX,sumX,h e List.mem_cons_self];exact x8 fun x hx=>h x (List.mem_cons_of_mem _ hx)
theorem x9 {a b:List Nat} {e:Ed} (h:e.bare=false->a.getD e.to.toNat 0=b.getD e.to.toNat 0):cE a e=cE b e:=by
 unfold cE bY
 cases hb:e.bare with
 | true=>rfl
 | false=>simp only [Bool.false_eq_true,if_false];exact h hb
theorem ER {ND:List Nd} {D a b:List Nat} (h:gB ND D) {i:Nat} {n:Nd} (hn:ND[i]? = some n) (h0:0 < D.getD i 0) (yU:∀ j,0 < D.getD j 0->D.getD j 0 < D.getD i 0->a.getD j 0=b.getD j 0):sizeF a D n=sizeF b D n:=by
 unfold sizeF;split
 ·rename_i h7;refine x8 fun e he=>x9 fun _=>?_;obtain ⟨h1,h2⟩:=h.Wl hn h0 h7 e he;exact yU _ h1 h2
 ·split
  ·rename_i h8;obtain ⟨c,e,hc,he,hp⟩:=h.Pp hn h0 h8;rw [hc];simp only [he];rw [x9 fun hb=>yU _ (hp hb).1 (hp hb).2]
  ·rfl
theorem vj {ND:List Nd} {D:List Nat} {i:Nat}:∀ (k d:Nat),D.getD i 0<=d->(szR ND D (d + k)).getD i 0=(szR ND D d).getD i 0
 | 0,d,_=>rfl
 | k + 1,d,h=>by
  show (szL ND D (d + k + 1) ND.length (szR ND D (d + k))).getD i 0=_;rw [lT (by omega)];exact vj k d h
def jW (ND:List Nd) (D:List Nat):List Nat:=szR ND D ND.length
theorem ry (ND:List Nd) (D:List Nat):(jW ND D).length=ND.length:=oP ND D _
theorem Jd {ND:List Nd} {D:List Nat} (h:gB ND D) {i:Nat} {n:Nd} (hn:ND[i]? = some n) (h0:0 < D.getD i 0):(jW ND D).getD i 0=sizeF (jW ND D) D n:=by
 have dq:=h.le i;have DB:=(gS hn).1;obtain ⟨d,hd⟩:∃ d,D.getD i 0=d + 1:=⟨_,(Nat.succ_pred_eq_of_pos h0).symm⟩;obtain ⟨k,hk⟩:∃ k,ND.length=d + 1 + k:=⟨ND.length - (d + 1),by omega⟩
 have h1:(jW ND D).getD i 0=(szR ND D (d + 1)).getD i 0:=by
  unfold jW;rw [hk];exact vj k (d + 1) (by omega)
 rw [h1,szR,Jc hn hd _ _ (oP ND D d) DB];refine ER h hn h0 fun j hj nD=>?_;rw [lT (by omega)];unfold jW;rw [hk,Nat.add_assoc];exact (vj (1 + k) d (by omega)).symm
theorem Oo {ND:List Nd} {D:List Nat} {i:Nat} (h0:D.getD i 0=0):(jW ND D).getD i 0=0:=by
 unfold jW;have:=vj (ND:=ND) (D:=D) (i:=i) ND.length 0 (by omega);rw [Nat.zero_add] at this;rw [this,szR,List.getD_eq_getElem?_getD,List.getElem?_replicate];split<;>rfl
theorem oQ (a D:List Nat) (n:Nd):1<=sizeF a D n/\sizeF a D n<=4097:=by
 unfold sizeF;split
 ·exact ⟨mP (by omega),mO (by omega)⟩
 ·split
  ·split
   ·split
    ·unfold aY;omega
    ·omega
   ·omega
  ·omega
theorem mS {ND:List Nd} {D:List Nat} (h:gB ND D) {i:Nat}:(0 < (jW ND D).getD i 0↔0 < D.getD i 0)/\(jW ND D).getD i 0<=4097:=by
 rcases Nat.eq_zero_or_pos (D.getD i 0) with h0 | h0
 ·rw [Oo h0,h0];omega
 ·have DB:i < ND.length:=by
   rcases Nat.lt_or_ge i ND.length with h1 | h1
   ·exact h1
   ·rw [List.getD_eq_getElem?_getD,List.getElem?_eq_none (by rw [h.len];exact h1)] at h0;simp at h0
  have hs:=Jd h (gE DB) h0;have:=oQ (jW ND D) D ND[i];rw [hs];omega
def othK (sz D:List Nat) (K:List Bool) (ND:List Nd) (i:Nat):Option (Nat × Option Nat):=match ND[i]? with | some n=>if K.getD i false=true then some (eB sz D K n) else none | none=>none
def otI (kf:Nat->Option (Nat × Option Nat)) (i:Nat) (t:List Nat):List Nat:=match kf i with | some k=>t.set i (othE t k) | none=>t
def oR (kf:Nat->Option (Nat × Option Nat)):Nat->List Nat->List Nat
 | 0,t=>t
 | e + 1,t=>otI kf e (oR kf e t)
def fM (kf:Nat->Option (Nat × Option Nat)) (N:Nat):Nat->List Nat
 | 0=>List.replicate N 0
 | r + 1=>oR kf N (fM kf N r)
def zb (kf:Nat->Option (Nat × Option Nat)) (t:List Nat):Prop:=∀ i,t.getD i 0≠0->∃ k,kf i=some k/\t.getD i 0=othE t k
def FP (a b:List Nat):Prop:=∀ i:Nat,a.getD i 0≠0->b.getD i 0=a.getD i 0
theorem FP.refl (a:List Nat):FP a a:=fun _ _=>rfl
theorem FP.trans {a b c:List Nat} (h1:FP a b) (h2:FP b c):FP a c:=fun i hi=>by rw [h2 i (by rw [h1 i hi];exact hi),h1 i hi]
theorem AO {a b:List Nat} (h:FP a b) {k:Nat × Option Nat} (h0:othE a k≠0):othE b k=othE a k:=by
 obtain ⟨s,o⟩:=k
 cases o with
 | none=>rfl
 | some j=>
  simp only [othE] at h0 ⊢;split at h0
  ·exact (h0 rfl).elim
  ·rename_i h1;rw [h j h1,if_neg h1]
theorem ES {l:List Nat} {i:Nat} (v:Nat) (h:l.getD i 0=v):l.set i v=l:=by
 refine kE (List.length_set) fun j=>?_;rcases Nat.lt_or_ge i l.length with h1 | h1
 ·rw [eY h1];split
  ·rename_i h2;rw [h2,h]
  ·rfl
 ·rw [List.set_eq_of_length_le h1]
section
variable {kf:Nat->Option (Nat × Option Nat)} {N:Nat}
theorem Q4 (i:Nat) (t:List Nat):(otI kf i t).length=t.length:=by
 unfold otI;split
 ·exact List.length_set
 ·rfl
theorem rz:∀ (e:Nat) (t:List Nat),(oR kf e t).length=t.length
 | 0,t=>rfl
 | e + 1,t=>by rw [oR,Q4];exact rz e t
theorem iz:∀ r,(fM kf N r).length=N
 | 0=>List.length_replicate
 | r + 1=>by rw [fM,rz];exact iz r
theorem AP {i:Nat} {t:List Nat} (h:zb kf t) (h0:t.getD i 0≠0):otI kf i t=t:=by
 obtain ⟨k,hk,hv⟩:=h i h0;unfold otI;rw [hk];exact ES _ hv
theorem Oq {i:Nat} {t:List Nat} (hi:i < t.length) (h:zb kf t):zb kf (otI kf i t)/\FP t (otI kf i t):=by
 by_cases h0:t.getD i 0=0
 ·cases hk:kf i with
  | none=>unfold otI;rw [hk];exact ⟨h,FP.refl t⟩
  | some k=>
   have hu:otI kf i t=t.set i (othE t k):=by unfold otI;rw [hk]
   have dq:FP t (otI kf i t):=fun j hj=>by
    rw [hu,eY hi,if_neg (fun F0=>by subst F0;exact hj h0)]
   refine ⟨fun j hj=>?_,dq⟩;rw [hu,eY hi] at hj;by_cases F0:j=i
   ·subst F0;rw [if_pos rfl] at hj;refine ⟨k,hk,?_⟩;rw [AO dq hj,hu,eY hi,if_pos rfl]
   ·rw [if_neg F0] at hj;obtain ⟨k',eJ,hv⟩:=h j hj;refine ⟨k',eJ,?_⟩;rw [dq j hj,AO dq (by rw [<- hv];exact hj),hv]
 ·rw [AP h h0];exact ⟨h,FP.refl t⟩
theorem ya:∀ (e:Nat) {t:List Nat},e<=t.length->zb kf t->zb kf (oR kf e t)/\FP t (oR kf e t)
 | 0,t,_,h=>⟨h,FP.refl t⟩
 | e + 1,t,he,h=>by
  obtain ⟨h1,h2⟩:=ya e (by omega) h;obtain ⟨h3,h4⟩:=Oq (i:=e) (by rw [rz];omega) h1;exact ⟨h3,h2.trans h4⟩
theorem l7 (kf:Nat->Option (Nat × Option Nat)) (N:Nat):zb kf (List.replicate N 0):=fun i hi=>by
 rw [List.getD_eq_getElem?_getD,List.getElem?_replicate] at hi;split at hi<;>exact (hi rfl).elim
theorem yb:∀ r,zb kf (fM kf N r)
 | 0=>l7 kf N
 | r + 1=>(ya N (by rw [iz];exact Nat.le_refl N) (yb r)).1
theorem Ot (r:Nat):FP (fM kf N r) (fM kf N (r + 1)):=(ya N (by rw [iz];exact Nat.le_refl N) (yb r)).2
def rA (t:List Nat):Nat:=t.countP (fun x=>x != 0)
theorem rB:∀ {a b:List Nat},a.length=b.length->FP a b->(a=b∨rA a < rA b)/\rA a<=rA b
 | [],[],_,_=>⟨.inl rfl,Nat.le_refl _⟩
 | [],y :: b,h,_=>by simp at h
 | x :: a,[],h,_=>by simp at h
 | x :: a,y :: b,h,dq=>by
  obtain ⟨h1,h2⟩:=rB (a:=a) (b:=b) (sU h) (fun i hi=>dq (i + 1) hi);have h3:=dq 0;simp only [List.getD_cons_zero] at h3;unfold rA at h1 h2 ⊢;simp only [List.countP_cons];by_cases hx:x=0
  ·subst hx;by_cases hy:y=0
   ·subst hy;refine ⟨?_,by simpa using h2⟩;rcases h1 with rfl | h1
    ·exact .inl rfl
    ·right;simpa using h1
   ·have e1:(y != 0)=true:=sU hy;simp only [e1,bne_self_eq_false,Bool.false_eq_true,if_false,if_true];exact ⟨.inr (by omega),by omega⟩
  ·have:=h3 hx;subst this;have e1:(y != 0)=true:=sU hx;simp only [e1,if_true];refine ⟨?_,by omega⟩;rcases h1 with rfl | h1
   ·exact .inl rfl
   ·exact .inr (by omega)
theorem ET:∀ r,fM kf N (r + 1)=fM kf N r∨r + 1<=rA (fM kf N (r + 1))
 | 0=>by
  rcases (rB (by rw [iz,iz]) (Ot (kf:=kf) (N:=N) 0)).1 with h | h
  ·exact .inl h.symm
  ·exact .inr (by omega)
 | r + 1=>by
  rcases ET r with h | h
  ·left;show oR kf N (fM kf N (r + 1))=oR kf N (fM kf N r);rw [h]
  ·rcases (rB (by rw [iz,iz]) (Ot (kf:=kf) (N:=N) (r + 1))).1 with h2 | h2
   ·exact .inl h2.symm
   ·exact .inr (by omega)
theorem Je (t:List Nat):rA t<=t.length:=List.countP_le_length
theorem Cs {r:Nat} (h:fM kf N (r + 1)=fM kf N r):∀ k,fM kf N (r + k)=fM kf N r
 | 0=>rfl
 | k + 1=>by
  show oR kf N (fM kf N (r + k))=_;rw [Cs h k];exact h
theorem Jf:fM kf N (N + 1)=fM kf N N:=by
 rcases ET (kf:=kf) (N:=N) N with h | h
 ·exact h
 ·have:=Je (fM kf N (N + 1));rw [iz] at this;omega
theorem Q5 {r:Nat} (h:fM kf N (r + 1)=fM kf N r):fM kf N r=fM kf N N:=by
 rcases Nat.le_total r N with h1 | h1
 ·have:=Cs h (N - r);rw [<- this];congr 1;omega
 ·have:=Cs (Jf (kf:=kf) (N:=N)) (r - N);rw [<- this];congr 1;omega
end
def Pq (sz D:List Nat) (K:List Bool) (ND:List Nd):List Nat:=fM (othK sz D K ND) ND.length ND.length
theorem Q6 (sz D:List Nat) (K:List Bool) (ND:List Nd):(Pq sz D K ND).length=ND.length:=iz _
theorem Q7 {sz D:List Nat} {K:List Bool} {ND:List Nd} {i:Nat} (h:(Pq sz D K ND).getD i 0≠0):∃ n,ND[i]? = some n/\K.getD i false=true/\(Pq sz D K ND).getD i 0=othE (Pq sz D K ND) (eB sz D K n):=by
 obtain ⟨k,hk,hv⟩:=yb (kf:=othK sz D K ND) (N:=ND.length) ND.length i h;unfold othK at hk;split at hk
 ·rename_i n hn;split at hk
  ·rename_i hK;cases hk;exact ⟨n,hn,hK,hv⟩
  ·cases hk
 ·cases hk
def dz (k n:Int):Val:=.mk k n av []
def tagV (F:Nat->Val) (es:List Ed) (c:Nat):Val:=match es[c]? with | some e=>.mk 8 c av (if e.bare=true then [] else [F e.to.toNat]) | none=>dz 8 c
def firstV (ND:List Nd) (D:List Nat):Nat->Nat->Val
 | 0,_=>dz 0 0
 | f + 1,i=>match ND[i]? with
  | none=>dz 0 0
  | some n=>if n.ag=2 then dz 2 n.lo
   else if n.ag=7 then .mk 7 0 av (n.ai.map fun e=>firstV ND D f e.to.toNat)
   else if n.ag=8 then (match bu D n.ai with | some c=>tagV (firstV ND D f) n.ai c | none=>dz 8 0)
   else dz n.ag 0
theorem yc {F G:Nat->Val} {es:List Ed} {c:Nat} (h:∀ e,es[c]? = some e->e.bare=false->F e.to.toNat=G e.to.toNat):tagV F es c=tagV G es c:=by
 unfold tagV
 cases he:es[c]? with
 | none=>rfl
 | some e=>
  simp only
  cases hb:e.bare with
  | true=>rfl
  | false=>rw [h e he hb]
theorem uq {ND:List Nd} {D:List Nat} (h:gB ND D):∀ (f i:Nat),0 < D.getD i 0->D.getD i 0<=f->firstV ND D (f + 1) i=firstV ND D f i
 | 0,i,h0,h1=>by omega
 | f + 1,i,h0,h1=>by
  have ih:=uq h f;rw [firstV,firstV]
  cases hn:ND[i]? with
  | none=>rfl
  | some n=>
   simp only;split
   ·rfl
   ·split
    ·rename_i h7;refine congrArg (Val.mk 7 0 av) (List.map_congr_left fun e he=>?_);obtain ⟨h2,h3⟩:=h.Wl hn h0 h7 e he;exact ih _ h2 (by unfold bY at h3;omega)
    ·split
     ·rename_i h8;obtain ⟨c,e,hc,he,hp⟩:=h.Pp hn h0 h8;rw [hc];refine yc fun e' pF hb=>?_;rw [he] at pF;cases pF;obtain ⟨h2,h3⟩:=hp hb;exact ih _ h2 (by unfold bY at h3;omega)
     ·rfl
def bS (ND:List Nd) (D:List Nat) (i:Nat):Val:=firstV ND D ND.length i
theorem pY {ND:List Nd} {D:List Nat} (h:gB ND D) {i:Nat} (h0:0 < D.getD i 0):∀ k,firstV ND D (D.getD i 0 + k) i=firstV ND D (D.getD i 0) i
 | 0=>rfl
 | k + 1=>by rw [<- pY h h0 k];exact uq h (D.getD i 0 + k) i h0 (by omega)
theorem pZ {ND:List Nd} {D:List Nat} (h:gB ND D) {f i:Nat} (h0:0 < D.getD i 0) (h1:D.getD i 0<=f):firstV ND D f i=bS ND D i:=by
 have dq:=h.le i;have h2:=pY h h0 (f - D.getD i 0);have h3:=pY h h0 (ND.length - D.getD i 0);rw [show D.getD i 0 + (f - D.getD i 0)=f by omega] at h2;rw [show D.getD i 0 + (ND.length - D.getD i 0)=ND.length by omega] at h3;unfold bS;rw [h2,h3]
def Ct (F G:Nat->Val) (D:List Nat) (K:List Bool) (n:Nd):Val:=
 if n.ag=2 then dz 2 (n.lo + 1)
 else if n.ag=3 then .mk 3 0 ⟨#[97]⟩ []
 else if n.ag=5∨n.ag=6 then (match n.ai[0]? with | some e=>.mk n.ag 0 av [F e.to.toNat] | none=>dz n.ag 0)
 else if n.ag=7 then (match x6 K n.ai with
  | some c=>(match n.ai[c]? with | some e=>.mk 7 0 av ((n.ai.map fun e=>F e.to.toNat).set c (G e.to.toNat)) | none=>dz 7 0)
  | none=>dz 7 0)
 else if n.ag=8 then (match la D n.ai with
  | some c=>tagV F n.ai c
  | none=>(match bu D n.ai with | some c=>(match n.ai[c]? with | some e=>.mk 8 c av [G e.to.toNat] | none=>dz 8 c) | none=>dz 8 0))
 else dz n.ag 1
def dp (ND:List Nd) (D:List Nat) (K:List Bool):Nat->Nat->Val
 | 0,_=>dz 0 0
 | f + 1,i=>match ND[i]? with
  | none=>dz 0 0
  | some n=>Ct (bS ND D) (dp ND D K f) D K n
def Q8 (ND:List Nd) (D:List Nat) (K:List Bool) (i:Nat):Val:=dp ND D K 4096 i
theorem rC {sz:List Nat} (hz:∀ z∈sz,z<=4097) (e:Ed):cE sz e<=4097:=by
 unfold cE bY;split
 ·omega
 ·rw [List.getD_eq_getElem?_getD]
  cases h:sz[e.to.toNat]? with
  | none=>exact Nat.zero_le _
  | some z=>exact hz z (mG h)
theorem tv {sz:List Nat} {c:Int} {es:List Ed} {e:Nat} {x:Ed} (h:es[e]? = some x):sumX sz c (es.take (e + 1)) 0 1=if (e:Int)=c then sumX sz c (es.take e) 0 1 else aY (sumX sz c (es.take e) 0 1 + cE sz x):=by
 have hl:(es.take e).length=e:=by rw [List.length_take];have:=(gS h).1;omega
 rw [dn h,AK,hl,Nat.zero_add]
theorem wrapN {a b:Nat} (ha:a<=1099511627776) (hb:b<=1099511627776):IntKind.i64.wrap ((a:Int) + (b:Int))=((a + b:Nat):Int):=by rw [wrap64 (by omega) (by omega)];omega
section
variable (PC:List DV) (ND:List Nd) (D:List Nat) (K:List Bool) (sz ot:List Nat) {L:Nat}
abbrev ZL (n:Nd) (s e:Nat):St:=
 ⟨[(0,⟨[],.pt (mQ PC ND D K sz ot) 0⟩),(3,⟨[],.loc 0 0⟩),(5,⟨[],.v (.int .i64 s)⟩),(13,⟨[],.sl 10 (cw n.ai) none⟩),(14,⟨[],.v (.int .i64 (cw n.ai).length)⟩),(15,⟨[],.v (.int .i64 e)⟩)],[gv n],[]⟩
theorem EU {n:Nd} (hD:D.length=ND.length) (hs:sz.length=ND.length) (hz:∀ z∈sz,z<=4097) (hn:cz L ND.length n) (dY:n.ai.length<=1099511627776) (h8:n.ag=8->∃ c e,bu D n.ai=some c/\n.ai[c]? = some e) :
  aQ prog 122 [.pt (mQ PC ND D K sz ot) 0,.agg (gv n)] (.v (.int .i64 (sizeF sz D n:Nat))):=by
 have za:=choose_spec PC ND D K sz ot hD hn dY;have aU:=hn.fD;obtain ⟨ag,aS,lo,hi,most,af,es⟩:=n;simp only at aU dY za h8;have bA:=aO es;refine eG 41 [.tmp 4] func122 rfl ntmps122 rfl fun _ _ _ _=>?_;refine br ?_ ?_<;>intro c7
 ·have c7:ag=7:=sU c7;have hF:sizeF sz D ⟨ag,aS,lo,hi,most,af,es⟩=sumX sz (-1) es 0 1:=by simp [sizeF,c7]
  rw [hF];refine lJ (fun e=>ZL PC ND D K sz ot ⟨ag,aS,lo,hi,most,af,es⟩ (sumX sz (-1) (es.take e) 0 1) e) es.length (ap 1 rfl wA rfl rfl rfl wB) ?_;intro e he;refine br ?_ ?_<;>intro hL
  ·have aj:e < es.length:=sV bA hL;obtain ⟨x,hx⟩:=gX aj;have hp:=pX PC ND D K sz ot hs (aU x (mG hx));have mZ:=rC hz x;have nu:=mO (sz:=sz) (c:=-1) (es:=es.take e) (i:=0) (n:=1) (by omega);have eE:sumX sz (-1) (es.take (e + 1)) 0 1=aY (sumX sz (-1) (es.take e) 0 1 + cE sz x):=by rw [tv hx,if_neg (by omega)]
   have hw:=wrapN (a:=sumX sz (-1) (es.take e) 0 1) (b:=cE sz x) (by omega) (by omega);refine iX (aC hx) ?_;refine cP zC hp ?_;refine cP nc (dP (sumX sz (-1) (es.take e) 0 1 + cE sz x)) ?_ (gF hw);exact rE ⟨_,by omega,e + 1,rfl,by omega,rfl⟩ (ap 1 rfl (gj (aF aj (by omega)) eE.symm) rfl rfl rfl (wB2 (aF aj (by omega)) eE.symm))
  ·have aM:e=es.length:=sW bA hL;subst aM;rw [List.take_length];exact (rfl:_=_)
 ·have c7:¬ ag=7:=sU c7;refine br ?_ ?_<;>intro c8
  ·have c8:ag=8:=sU c8;obtain ⟨c,x,hc,hx⟩:=h8 c8;rw [hc] at za;have hF:sizeF sz D ⟨ag,aS,lo,hi,most,af,es⟩=aY (1 + cE sz x):=by simp [sizeF,c8,hc,hx]
   have hp:=pX PC ND D K sz ot hs (aU x (mG hx));have mZ:=rC hz x;have hw:=wrapN (a:=1) (b:=cE sz x) (by omega) (by omega);rw [hF];refine dI ?_;refine cD Ij za ?_;refine ⟨_,⟨Int.natCast_nonneg _,aC hx⟩,?_⟩;refine cD zC hp ?_;refine cD nc (dP (1 + cE sz x)) ?_ (gF hw);exact (rfl:_=_)
  ·have c8:¬ ag=8:=sU c8;refine (congrArg (fun z=>DV.v (.int .i64 z)) ?_:_=_);simp [sizeF,c7,c8]
abbrev ZM (n:Nd) (e:Nat):St:=
 ⟨[(0,⟨[],.pt (mQ PC ND D K sz ot) 0⟩),(3,⟨[],.loc 0 0⟩),(8,⟨[],.sl 10 (cw n.ai) none⟩),(9,⟨[],.v (.int .i64 (cw n.ai).length)⟩),(10,⟨[],.v (.int .i64 e)⟩)],[gv n],[]⟩
theorem po {n:Nd} (hK:K.length=ND.length) (hn:cz L ND.length n) (h7:n.ag=7) (dY:n.ai.length<=1099511627776) :
  aQ prog 144 [.pt (mQ PC ND D K sz ot) 0,.agg (gv n)] (.v (.int .i64 (oz (x6 K n.ai)))):=by
 have aU:=hn.fD;have cS:=hn.bare;obtain ⟨ag,aS,lo,hi,most,af,es⟩:=n;simp only at aU dY h7 cS;have bA:=aO es;refine eG 25 [.tmp 4] func144 rfl ntmps144 rfl fun _ _ _ _=>?_;refine lI (fun j st=>∃ e:Nat,st=ZM PC ND D K sz ot ⟨ag,aS,lo,hi,most,af,es⟩ e/\e<=es.length/\(∀ k,k < e->EO K es k=false)/\j=es.length - e) ⟨0,rfl,by omega,fun _ h=>by omega,rfl⟩ (ap 1 rfl wA rfl rfl rfl wB) ?_;rintro j st ⟨e,rfl,he,hB,rfl⟩;refine br ?_ ?_<;>intro hL
 ·have aj:e < es.length:=sV bA hL;obtain ⟨x,hx⟩:=gX aj
  have nv:x.bare=false:=by
   cases hb:x.bare with
   | false=>rfl
   | true=>have:=cS x (mG hx) hb;omega
  obtain ⟨k,hk,ee⟩:=(aU x (mG hx)).to1 nv;obtain ⟨z,hz⟩:∃ z,K[k]? = some z:=⟨_,gE (by omega)⟩;have hP:EO K es e=z:=by unfold EO;rw [hx];simp only;rw [hk,Int.toNat_natCast,List.getD_eq_getElem?_getD,hz];all_goals rfl
  refine iX (aC hx) ?_;refine jl mo (by decide +kernel) ?_;refine ⟨_,⟨by rw [hk];exact Int.natCast_nonneg _,by rw [hk];exact rk hz⟩,?_⟩;refine br ?_ ?_<;>intro g
  ·have g:z=true:=sU g;rw [show x6 K es=some e from bq aj (hP.trans g) hB];exact (rfl:_=_)
  ·have g:z=false:=sU g
   exact rE ⟨_,by omega,e + 1,rfl,by omega,fun k hk=>by
    rcases Nat.lt_succ_iff_lt_or_eq.1 hk with h1 | rfl
    ·exact hB k h1
    ·exact hP.trans g,rfl⟩ (ap 1 rfl (na (aF aj (by omega))) rfl rfl rfl (cX (aF aj (by omega))))
 ·have aM:e=es.length:=sW bA hL;subst aM;rw [show x6 K es=none from bK hB];exact (rfl:_=_)
end
structure EV (D:List Nat) (K:List Bool) (n:Nd):Prop where
 c7:n.ag=7->∃ c e,x6 K n.ai=some c/\n.ai[c]? = some e/\e.bare=false
 c8:n.ag=8->la D n.ai=none->∃ c e,bu D n.ai=some c/\n.ai[c]? = some e/\e.bare=false
section
variable (PC:List DV) (ND:List Nd) (D:List Nat) (K:List Bool) (sz ot:List Nat) {L:Nat}
abbrev ZN (n:Nd) (c:Option Nat) (s e:Nat):St:=
 ⟨[(0,⟨[],.pt (mQ PC ND D K sz ot) 0⟩),(3,⟨[],.loc 0 0⟩),(5,⟨[],.v (.int .i64 (oz c))⟩),(6,⟨[],.v (.int .i64 s)⟩),(32,⟨[],.sl 10 (cw n.ai) none⟩),(33,⟨[],.v (.int .i64 (cw n.ai).length)⟩),(34,⟨[],.v (.int .i64 e)⟩)],[gv n],[]⟩
theorem Cu {n:Nd} (hD:D.length=ND.length) (hK:K.length=ND.length) (hs:sz.length=ND.length) (ho:ot.length=ND.length) (hz:∀ z∈sz,z<=4097) (hoz:∀ z∈ot,z<=4097) (hn:cz L ND.length n) (dY:n.ai.length<=1099511627776) (hS:EV D K n) :
  aQ prog 123 [.pt (mQ PC ND D K sz ot) 0,.agg (gv n)] (.v (.int .i64 (othE ot (eB sz D K n):Nat))):=by
 have za:=choose_spec PC ND D K sz ot hD hn dY;have FQ:=x7 PC ND D K sz ot hD hn dY;have Ou:=fun h=>po PC ND D K sz ot hK hn h dY;have aU:=hn.fD;have cj:=hn.one;have h7:=hS.c7;have h8:=hS.c8;obtain ⟨ag,aS,lo,hi,most,af,es⟩:=n;simp only at aU dY za FQ Ou h7 h8 cj;have bA:=aO es
 have nr:∀ {x:Ed},x∈es->x.bare=false->∃ z,(dInts ot)[x.to.toNat]? = some [.v (.int .i64 (z:Nat))]/\0<=x.to/\ot.getD x.to.toNat 0=z/\z<=4097:=fun {x} hx hb=>by
  obtain ⟨k,hk,ee⟩:=(aU x hx).to1 hb;have hg:ot[k]? = some ot[k]:=gE (by omega);refine ⟨ot[k],by rw [hk];exact aD hg,by omega,by rw [hk,Int.toNat_natCast,List.getD_eq_getElem?_getD,hg];rfl,hoz _ (mG hg)⟩
 have rD:∀ {x:Ed},x∈es->aQ prog 183 [.pt (mQ PC ND D K sz ot) 0,.agg (BZ x)] (.v (.int .i64 (cE sz x:Nat))):=fun {x} hx=>pX PC ND D K sz ot hs (aU x hx);have hw1:∀ x,IntKind.i64.wrap (1 + (cE sz x:Int))=((1 + cE sz x:Nat):Int):=fun x=>wrapN (a:=1) (by omega) (by have:=rC hz x;omega);have hE:∀ a j z,ot.getD j 0=z->othE ot (a,some j)=if z=0 then 0 else aY (a + z):=fun a j z h=>by unfold othE;simp only [h]
 refine eG 87 [.tmp 4] func123 rfl ntmps123 rfl fun _ _ _ _=>?_;refine br (fun d5=>?_) (fun c5=>?_)
 ·have c5:ag=5:=sU d5;refine br (fun _=>?_) (fun h=>absurd h (by simp [c5]));obtain ⟨x,hx,_⟩:=cj (.inl c5);subst hx;rw [show othE ot (eB sz D K ⟨ag,aS,lo,hi,most,af,[x]⟩)=aY (1 + cE sz x) by unfold eB;rw [if_pos (.inl c5)];rfl];refine ⟨_,⟨by omega,rfl⟩,?_⟩;refine cP zC (rD List.mem_cons_self) ?_;refine cP nc (dP (1 + cE sz x)) ?_ (gF (hw1 x));exact (rfl:_=_)
 have c5:¬ ag=5:=sU c5;refine br (fun d6=>?_) (fun c6=>?_)
 ·have c6:ag=6:=sU d6;obtain ⟨x,hx,_⟩:=cj (.inr c6);subst hx;rw [show othE ot (eB sz D K ⟨ag,aS,lo,hi,most,af,[x]⟩)=aY (1 + cE sz x) by unfold eB;rw [if_pos (.inr c6)];rfl];refine ⟨_,⟨by omega,rfl⟩,?_⟩;refine cP zC (rD List.mem_cons_self) ?_;refine cP nc (dP (1 + cE sz x)) ?_ (gF (hw1 x));exact (rfl:_=_)
 have c6:¬ ag=6:=sU c6;refine br ?_ ?_<;>intro c7
 ·have c7:ag=7:=sU c7;obtain ⟨c,x,hc,hx,nv⟩:=h7 c7;have Ou:=Ou c7;rw [hc] at Ou;have hF:eB sz D K ⟨ag,aS,lo,hi,most,af,es⟩=(sumX sz c es 0 1,some x.to.toNat):=by simp [eB,c7,hc,hx]
  refine cP R5 Ou ?_;refine lJ (fun e=>ZN PC ND D K sz ot ⟨ag,aS,lo,hi,most,af,es⟩ (some c) (sumX sz c (es.take e) 0 1) e) es.length (ap 1 rfl wA rfl rfl rfl wB) ?_;intro e he;have nu:=mO (sz:=sz) (c:=c) (es:=es.take e) (i:=0) (n:=1) (by omega);refine br ?_ ?_<;>intro hL
  ·have aj:e < es.length:=sV bA hL;obtain ⟨y,hy⟩:∃ x,es[e]? = some x:=⟨_,gE aj⟩;have mZ:=rC hz y;have eE:=tv (sz:=sz) (c:=c) hy;have hw:=wrapN (a:=sumX sz c (es.take e) 0 1) (b:=cE sz y) (by omega) (by omega);refine iX (aC hy) ?_;refine br ?_ ?_<;>intro g
   ·have g:¬ (e:Int)=c:=fun h=>by simp [oz,h] at g
    rw [if_neg g] at eE;refine cP zC (rD (mG hy)) ?_;refine cP nc (dP (sumX sz c (es.take e) 0 1 + cE sz y)) ?_ (gF hw);exact rE ⟨_,by omega,e + 1,rfl,by omega,rfl⟩ (ap 1 rfl (gj (aF aj (by omega)) eE.symm) rfl rfl rfl (wB2 (aF aj (by omega)) eE.symm))
   ·have g:(e:Int)=c:=Decidable.byContradiction fun h=>by simp [oz,h] at g
    rw [if_pos g] at eE;exact rE ⟨_,by omega,e + 1,rfl,by omega,rfl⟩ (ap 1 rfl (gj (aF aj (by omega)) eE.symm) rfl rfl rfl (wB2 (aF aj (by omega)) eE.symm))
  ·have aM:e=es.length:=sW bA hL;subst aM;rw [List.take_length] at nu ⊢;obtain ⟨z,hz1,GU,Lo,hz4⟩:=nr (mG hx) nv;have hzE:=hE (sumX sz c es 0 1) _ _ Lo;rw [hF,hzE];refine jl mo (by decide +kernel) ?_;refine ⟨_,⟨Int.natCast_nonneg _,aC hx⟩,?_⟩;refine ⟨_,⟨GU,hz1⟩,?_⟩;refine br ?_ ?_<;>intro g
   ·have g:0 < z:=sU g;rw [if_neg (by omega)];refine cP nc (dP ((sumX sz c es 0 1) + z)) ?_ (by repeat' (first | exact rfl | exact trivial | exact Or.inr (Or.inl ⟨_,rfl⟩) | exact Or.inr ⟨_,rfl⟩ | exact Or.inl ⟨rfl,rfl⟩ | exact Or.inl rfl | refine Or.inr ⟨_,_,rfl,Nat.zero_le _,rfl,?_⟩ | refine ⟨_,_,rfl,?_,?_⟩ | refine ⟨_,rfl,?_⟩ | exact congrArg (fun z=>DV.v (.int .i64 z)) (wrapN (by omega) (by omega))| refine Or.inr (Or.inr (Or.inr ⟨_,_,rfl,?_⟩)) | exact Or.inl rfl | refine Or.inr ?_));exact (rfl:_=_)
   ·have g:z=0:=sU g;rw [if_pos g];exact (rfl:_=_)
 have c7:¬ ag=7:=sU c7;refine br ?_ ?_<;>intro c8
 ·have c8:ag=8:=sU c8;refine cP L8 FQ ?_
  cases ht:la D es with
  | some c=>
   obtain ⟨x,hx,_⟩:=tq ht;rw [show eB sz D K ⟨ag,aS,lo,hi,most,af,es⟩=(aY (1 + cE sz x),none) by simp [eB,c8,ht,hx],show othE ot (aY (1 + cE sz x),none)=aY (1 + cE sz x) from rfl];refine ⟨_,⟨Int.natCast_nonneg _,aC hx⟩,?_⟩;refine cP zC (rD (mG hx)) ?_;refine cP nc (dP (1 + cE sz x)) ?_ (gF (hw1 x));exact (rfl:_=_)
  | none=>
   obtain ⟨c,x,hc,hx,nv⟩:=h8 c8 ht;rw [hc] at za;have hF:eB sz D K ⟨ag,aS,lo,hi,most,af,es⟩=(1,some x.to.toNat):=by simp [eB,c8,ht,hc,hx]
   refine cP Ij za ?_;obtain ⟨z,hz1,GU,Lo,hz4⟩:=nr (mG hx) nv;have hzE:=hE 1 _ _ Lo;rw [hF,hzE];refine jl mo (by decide +kernel) ?_;refine ⟨_,⟨Int.natCast_nonneg _,aC hx⟩,?_⟩;refine ⟨_,⟨GU,hz1⟩,?_⟩;refine br ?_ ?_<;>intro g
   ·have g:0 < z:=sU g;rw [if_neg (by omega)];refine cP nc (dP (1 + z)) ?_ (gF (wrapN (a:=1) (by omega) (by omega)));exact (rfl:_=_)
   ·have g:z=0:=sU g;rw [if_pos g];exact (rfl:_=_)
 ·have c8:¬ ag=8:=sU c8;refine (congrArg (fun z=>DV.v (.int .i64 z)) ?_:_=_);simp [eB,c5,c6,c7,c8,othE]
end
end Go.Proofs.YtadhpeooehkklaaGreat
namespace Go.Proofs.YtadhpeooehkklaaGreat
namespace Dv
open Go Go.RowKit
section
variable {P:Program} {ops:Array Oper} {C:World->Prop} {Q:Act->World->Prop} {W:Nat->Bool} {x:Nat}
def runX (P:Program) (ops:Array Oper) (W:Nat->Bool) (C:World->Prop) (Q:Act->World->Prop) (x:Nat):List Nat->Act->World->Prop
 | [],a,w=>runT P ops W C Q [x] a w
 | i :: r,a,w=>
  match ops[i]? with
  | none=>False
  | some o=>
   if ordB ops ops.size x i=true then runT P ops W C Q (x :: i :: r) a w
   else if fW o.op=true then runT P ops W C Q (x :: i :: r) a w/\dC P ops o a w fun a' w'=>(W i=false->C w->C w')/\runX P ops W C Q x r a' w'
   else ∃ v,Yl P ops C o v a/\(jR o.op=true->C w)/\runX P ops W C Q x r (a.put o.dst v) w
theorem EW {xo:Oper} (dc:∀ (j:Nat) (o:Oper) cs b,ops[j]? = some o->o.op ≠ .select cs b) (hx:ops[x]? = some xo) (Vv:fW xo.op=true) (ZO:∀ (j:Nat) (o:Oper),ops[j]? = some o->jR o.op=true->W x=false) :
  ∀ (rem:List Nat) (a:Act) (w:World),runX P ops W C Q x rem a w->(∀ j∈rem,∀ o,ops[j]? = some o->fW o.op=false->ordB ops ops.size x j=false->fv ops W x j=true) ->
   dC P ops xo a w (fun a' w'=>(W x=false->C w->C w')/\runT P ops W C Q rem a' w')
 | [],a,w,hr,_=>by
  simp only [runX,runT,hx,Vv,if_true] at hr;exact hr
 | i :: r,a,w,hr,tK=>by
  have HG:runT P ops W C Q (x :: i :: r) a w->dC P ops xo a w (fun a' w'=>(W x=false->C w->C w')/\runT P ops W C Q (i :: r) a' w'):=fun h=>by
   unfold runT at h;rw [hx] at h;simp only [Vv,if_true] at h;exact h
  cases ho:ops[i]? with
  | none=>simp only [runX,ho] at hr
  | some o=>
   simp only [runX,ho] at hr;by_cases hd:ordB ops ops.size x i=true
   ·rw [if_pos hd] at hr;exact HG hr
   ·rw [if_neg hd] at hr;by_cases he:fW o.op=true
    ·rw [if_pos he] at hr;exact HG hr.1
    ·rw [if_neg he] at hr;obtain ⟨v,hy,hc,hY⟩:=hr;have Bq:ordB ops ops.size x i=false:=sU hd;have pF:fW o.op=false:=sU he;obtain ⟨F6,Lf,_,_⟩:=dZ (tK i (by simp) o ho pF Bq) hx ho;have yy:=fun cs b=>dc x xo cs b hx;have zt:=fun cs b=>dc i o cs b ho;have ih:=EW dc hx Vv ZO r (a.put o.dst v) w hY (fun j hj=>tK j (List.mem_cons_of_mem _ hj));refine cy ?_ (iS ((jZ Lf yy).1 ih));rintro a' w' ⟨⟨ow,hr2⟩,u,rfl⟩;refine ⟨ow,?_⟩;simp only [runT,ho];rw [if_neg he];exact ⟨v,(Yl.same (u:=u) F6 zt).2 hy,fun hL=>ow (ZO i o ho hL) (hc hL),hr2⟩
theorem tw {π:Nat->Nat} (dc:∀ (j:Nat) (o:Oper) cs b,ops[j]? = some o->o.op ≠ .select cs b) (rR:∀ j i x y,π j < π i->ops[i]? = some x->ops[j]? = some y->jR x.op=true->W j=false)
  {i:Nat} {o:Oper} (hi:ops[i]? = some o) (Q9:∀ z,ops[x]? = some z->jR z.op=false) (ZP:x≠i) (hnd:ordB ops ops.size x i=false) (yy:fW o.op=false->fv ops W x i=true) :
  ∀ (rem:List Nat) (a:Act) (w:World),(yT ops (x :: rem)->C w)->runX P ops W C Q x rem a w->i∈rem->(∀ j∈rem,j≠i->π j < π i->fv ops W j i=true)->(x :: rem).Pairwise (fun a b=>π a < π b) ->
   (fW o.op=true->∀ j∈rem,π j < π i->ordB ops ops.size x j=false) ->
   dC P ops o a w (fun a' w'=>(W i=false->C w->C w')/\runX P ops W C Q x (rem.erase i) a' w')
 | [],_,_,_,_,hm,_,_,_=>by cases hm
 | h :: rem,a,w,hC,hr,hm,tK,hp,lE=>by
  by_cases qI:h=i
  ·subst qI;rw [List.erase_cons_head];simp only [runX,hi] at hr;rw [if_neg (by simp [hnd])] at hr;split at hr
   ·exact hr.2
   ·obtain ⟨v,hy,hc,hY⟩:=hr;exact gQ hy hc ⟨fun _ h=>h,hY⟩
  ·have lA:i∈rem:=by
    rcases List.mem_cons.1 hm with e | e
    ·exact (qI e.symm).elim
    ·exact e
   have sv:=List.pairwise_cons.1 hp;have Dk:=List.pairwise_cons.1 sv.2;have aj:π h < π i:=Dk.1 i lA;have Wm:(x :: rem).Pairwise (fun a b=>π a < π b):=List.pairwise_cons.2 ⟨fun y hy=>sv.1 y (List.mem_cons_of_mem _ hy),Dk.2⟩
   have Vw:fW o.op=false->∀ j∈x :: h :: rem,j≠i->π j < π i->fv ops W j i=true:=fun he j hj bg hl=>by
    rcases List.mem_cons.1 hj with rfl | hj
    ·exact yy he
    ·exact tK j hj bg hl
   have Ra:i∈x :: h :: rem:=List.mem_cons_of_mem _ hm
   have ZQ:(x :: h :: rem).erase i=x :: h :: rem.erase i:=by
    rw [List.erase_cons_tail (sU ZP),List.erase_cons_tail (sU qI)]
   rw [List.erase_cons_tail (sU qI)];have LU:∀ j∈rem,j≠i->π j < π i->fv ops W j i=true:=fun j hj=>tK j (List.mem_cons_of_mem _ hj);have ZR:fW o.op=true->∀ j∈rem,π j < π i->ordB ops ops.size x j=false:=fun he j hj=>lE he j (List.mem_cons_of_mem _ hj)
   have hCt:yT ops (x :: rem)->C w:=fun hl=>hC (by
    obtain ⟨l,z,JG,hz,hL⟩:=hl;rcases List.mem_cons.1 JG with rfl | JG
    ·exact ⟨l,z,by simp,hz,hL⟩
    ·exact ⟨l,z,by simp [JG],hz,hL⟩)
   cases hh:ops[h]? with
   | none=>simp only [runX,hh] at hr
   | some y=>
    obtain ⟨F6,Lf,hEE,WO⟩:=dZ (tK h (by simp) qI aj) hh hi;have Wn:=fun cs b=>dc h y cs b hh;have zt:=fun cs b=>dc i o cs b hi;simp only [runX,hh] at hr;by_cases hd:ordB ops ops.size x h=true
    ·rw [if_pos hd] at hr
     have he:fW o.op=false:=by
      cases he:fW o.op
      ·rfl
      ·have:=lE he h (by simp) aj;rw [hd] at this;cases this
     have aR:=gl dc rR hi (x :: h :: rem) a w hC hr Ra (Vw he) hp;refine cy ?_ aR;rintro a' w' ⟨ow,hr2⟩;refine ⟨ow,?_⟩;simp only [runX,hh];rw [if_pos hd,<- ZQ];exact hr2
    ·rw [if_neg hd] at hr;by_cases hE:fW y.op=true
     ·rw [if_pos hE] at hr;obtain ⟨hl,hr⟩:=hr
      have he:fW o.op=false:=by
       cases he:fW o.op
       ·rfl
       ·exact (hEE ⟨hE,he⟩).elim
      obtain ⟨v,Ib⟩:=kj (π:=π) dc hi he (x :: h :: rem) a w hl Ra (Vw he) hp;have TX:jR o.op=true->C w:=fun hL=>hC ⟨i,o,Ra,hi,hL⟩;have aR:=gl dc rR hi (x :: h :: rem) a w hC hl Ra (Vw he) hp;have jG:=gR Ib TX aR;refine gQ Ib TX ⟨fun _ h=>h,?_⟩;simp only [runX,hh];rw [if_neg hd,if_pos hE];refine ⟨by rw [<- ZQ];exact jG.2,?_⟩;refine (jZ Lf Wn).2 ?_;refine cy ?_ (iS hr);rintro a' w' ⟨⟨ow,hY⟩,u,rfl⟩;refine ⟨ow,?_⟩
      have TY:yT ops (x :: rem)->C w':=by
       intro uB;have Qw:=uB;obtain ⟨l,z,JG,hz,hL⟩:=uB;refine ow ?_ (hCt Qw);rcases List.mem_cons.1 JG with e | JG
       ·rw [e] at hz;rw [Q9 z hz] at hL;cases hL
       ·exact rR h l z y (Dk.1 l JG) hz hh hL
      have ih:=tw dc rR hi Q9 ZP hnd yy rem _ w' TY hY lA LU Wm ZR;have fi:=(Yl.same (u:=u) F6 zt).2 Ib;exact (gR fi (fun hL=>TY ⟨i,o,List.mem_cons_of_mem _ lA,hi,hL⟩) ih).2
     ·rw [if_neg hE] at hr;obtain ⟨v,Ib,hc,hY⟩:=hr;have ih:=tw dc rR hi Q9 ZP hnd yy rem (a.put y.dst v) w hCt hY lA LU Wm ZR;refine cy ?_ (iS ((jZ F6 zt).1 ih));rintro a' w' ⟨⟨ow,hr2⟩,u,rfl⟩;refine ⟨ow,?_⟩;simp only [runX,hh];rw [if_neg hd,if_neg hE];refine ⟨v,(Yl.same (u:=u) Lf Wn).2 Ib,fun hL=>?_,hr2⟩
      have WQ:W i=false:=by
       cases hw:W i
       ·rfl
       ·exact (WO ⟨hL,hw⟩).elim
      exact ow WQ (hc hL)
def exX (ops:Array Oper) (x:Nat) (j i:Nat):Bool:=Nat.beq j x && (match ops[i]? with | some o=>fW o.op | none=>false)
def Vx (ops:Array Oper) (x:Nat) (π:Nat->Nat):Bool:=
 (List.range ops.size).all fun i=>
  match ops[i]? with
  | none=>true
  | some o=>!fW o.op || Nat.beq i x || ordB ops ops.size x i || (List.range ops.size).all fun j=>Nat.beq j x || !Nat.blt (π j) (π i) || !ordB ops ops.size x j
theorem Ov {π:Nat->Nat} {xo:Oper} {Q':Exit->Act->World->Prop} (hx:ops[x]? = some xo) (Vv:fW xo.op=true) (Q9:jR xo.op=false) (yH:∀ j,j≠x->π x < π j) (RR:qK ops W π=true) (TZ:uC ops W π (exX ops x)=true) (hD:Vx ops x π=true)
  (hQ:∀ a w,Q a w->Q' .normal a w):∀ (iC:Nat) (listed:Array Bool) (rem:List Nat) (a:Act) (w:World),
  listed.size=ops.size->Dn ops listed->listed.getD x true=false->(∀ i,i∈rem↔i≠x/\i < ops.size/\listed.getD i true=false)->(x :: rem).Pairwise (fun a b=>π a < π b)->rem.length + 1<=iC->(yT ops (x :: rem)->C w) ->
   runX P ops W C Q x rem a w->wpAny P .any ops Q' iC listed a w:=by
 have dc:=qN RR;have rR:=qM RR;have Dg:=sj RR;have hcS':=TZ;have qg:=(Array.getElem?_eq_some_iff.1 hx).1
 have ZO:∀ (j:Nat) (o:Oper),ops[j]? = some o->jR o.op=true->W x=false:=fun j o hj hL=>by
  refine rR x j o xo (yH j ?_) hj hx hL;rintro rfl;rw [hx] at hj;simp only [oI] at hj;rw [<- hj,Q9] at hL;cases hL
 simp only [uC,List.all_eq_true,List.mem_range,Bool.or_eq_true,Bool.not_eq_true'] at TZ
 have yy:∀ (i:Nat) (o:Oper),ops[i]? = some o->i≠x->fW o.op=false->ordB ops ops.size x i=false->fv ops W x i=true:=fun i o ho bg he hd=>by
  rcases TZ i (Array.getElem?_eq_some_iff.1 ho).1 x qg with ((h1 | h1) | h1) | h1
  ·have:¬ Nat.blt (π x) (π i)=true:=by simp [h1]
   have:=yH i bg;simp at *;omega
  ·simp [exX,ho,he] at h1
  ·rw [hd] at h1;cases h1
  ·exact h1
 intro iC
 induction iC with
 | zero=>intro listed rem a w _ _ _ _ _ hlen;omega
 | succ iC ih=>
  intro listed rem a w bL Pg hxu hZ hp hlen hC hr;have sv:=List.pairwise_cons.1 hp;have hnd:rem.Nodup:=ny sv.2;refine ⟨fun h0=>?_,fun i hi=>?_⟩
  ·have:x∈Region.ready .any ops listed:=by
    refine mem_ready.2 ⟨hxu,_,hx,fun e he hb=>?_⟩;obtain ⟨aj,kN⟩:=Dg x _ hx e he hb;cases hg:listed.getD e.on false
    ·have bg:e.on≠x:=fun h=>by rw [h] at aj;omega
     have:=yH e.on bg;omega
    ·rfl
   rw [h0] at this;cases this
  ·obtain ⟨F7,o,ho,fo⟩:=mem_ready.1 hi;have eC:=(Array.getElem?_eq_some_iff.1 ho).1
   have JI:Dn ops (listed.setIfInBounds i true):=by
    intro k z hz hk e he hb;by_cases ke:k=i
    ·subst ke;rw [ho] at hz;simp only [oI] at hz;subst hz;exact getD_set_true (fo e he hb)
    ·rw [getD_set_ne true (Ne.symm ke)] at hk;exact getD_set_true (Pg k z hz hk e he hb)
   refine su ho ?_;by_cases zw:i=x
   ·subst zw;rw [hx] at ho;simp only [oI] at ho;subst ho;have aR:=EW dc hx Vv ZO rem a w hr (fun j hj o ho he hd=>yy j o ho ((hZ j).1 hj).1 he hd);refine cy ?_ aR;rintro a' w' ⟨ow,hY⟩;refine mj (C:=C) (exX ops i) RR hcS' hQ iC _ rem a' w' (by simp [bL]) JI ?_ sv.2 (by omega) ?_ ?_ hY
    ·intro k;rw [hZ k];by_cases ke:k=i
     ·subst ke;simp [bL,eC]
     ·rw [getD_set_ne true (Ne.symm ke)];simp [ke]
    ·intro j hj k _;have:=((hZ j).1 hj).1;simp [exX,this]
    ·rintro ⟨l,z,hl,hz,hL⟩;exact ow (ZO l z hz hL) (hC ⟨l,z,List.mem_cons_of_mem _ hl,hz,hL⟩)
   ·have l4:i∈rem:=(hZ i).2 ⟨zw,eC,F7⟩
    have fc:∀ j,j < ops.size->listed.getD j true=false->ordB ops ops.size j i=false:=by
     intro j hj hu;cases h1:ordB ops ops.size j i
     ·rfl
     ·have h2:=kS Pg _ _ _ _ ho fo h1;have:j < listed.size:=by rw [bL];exact hj
      simp [this] at h2 hu;rw [h2] at hu;cases hu
    have Vy:=fc x qg hxu
    have tK:∀ j∈rem,j≠i->π j < π i->fv ops W j i=true:=by
     intro j hj _ aj;have fY:=(hZ j).1 hj;rcases TZ i eC j fY.2.1 with ((h1 | h1) | h1) | h1
     ·have:¬ Nat.blt (π j) (π i)=true:=by simp [h1]
      simp at this;omega
     ·simp [exX,fY.1] at h1
     ·rw [fc j fY.2.1 fY.2.2] at h1;cases h1
     ·exact h1
    have lE:fW o.op=true->∀ j∈rem,π j < π i->ordB ops ops.size x j=false:=by
     intro he j hj aj;simp only [Vx,List.all_eq_true,List.mem_range] at hD;have h1:=hD i eC;rw [ho] at h1;simp only [he,Vy,Bool.not_true,Bool.false_or,Bool.or_false,Bool.or_eq_true,List.all_eq_true,List.mem_range,Bool.not_eq_true',Nat.beq_eq] at h1;rcases h1 with h1 | h1
     ·exact (zw h1).elim
     ·have fY:=(hZ j).1 hj;rcases h1 j fY.2.1 with (h2 | h2) | h2
      ·exact (fY.1 h2).elim
      ·have:¬ Nat.blt (π j) (π i)=true:=by simp [h2]
       simp at this;omega
      ·exact h2
    have aR:=tw (π:=π) dc rR ho (fun z hz=>by rw [hx] at hz;simp only [oI] at hz;rw [<- hz];exact Q9) (Ne.symm zw) Vy (fun he=>yy i o ho zw he Vy) rem a w hC hr l4 tK hp lE;refine cy ?_ aR;rintro a' w' ⟨ow,hY⟩;have ZP:=getD_set_ne (listed:=listed) true zw;refine ih (listed.setIfInBounds i true) (rem.erase i) a' w' (by simp [bL]) JI (by rw [ZP];exact hxu) ?_ (List.pairwise_cons.2 ⟨fun y hy=>sv.1 y (List.mem_of_mem_erase hy),sv.2.sublist List.erase_sublist⟩) (by rw [List.length_erase_of_mem l4];have:=List.length_pos_of_mem l4;omega) ?_ hY
    ·intro k;rw [List.Nodup.mem_erase_iff hnd];by_cases ke:k=i
     ·subst ke;simp [bL,eC]
     ·rw [getD_set_ne true (Ne.symm ke)];simp only [ne_eq,ke,not_false_eq_true,true_and];exact hZ k
    ·rintro ⟨l,z,hl,hz,hL⟩
     have hlx:l≠x:=by
      rintro rfl;rw [hx] at hz;simp only [oI] at hz;rw [<- hz,Q9] at hL;cases hL
     have hl:l∈rem.erase i:=by
      rcases List.mem_cons.1 hl with h | h
      ·exact (hlx h).elim
      ·exact h
     have uB:=List.mem_of_mem_erase hl;have bg:l≠i:=((List.Nodup.mem_erase_iff hnd).1 hl).1;have T1:=hC ⟨l,z,List.mem_cons_of_mem _ uB,hz,hL⟩;refine ow ?_ T1;rcases vQ sv.2 l4 uB bg.symm with h1 | h1
     ·exact rR i l z o h1 hz ho hL
     ·have:=tK l uB bg h1;obtain ⟨_,_,_,h4⟩:=dZ this hz ho;cases hw:W i
      ·rfl
      ·exact (h4 ⟨hL,hw⟩).elim
theorem AQ {π:Nat->Nat} (dc:∀ (j:Nat) (o:Oper) cs b,ops[j]? = some o->o.op ≠ .select cs b) (rR:∀ j i x y,π j < π i->ops[i]? = some x->ops[j]? = some y->jR x.op=true->W j=false)
  (yy:∀ (i:Nat) (o:Oper),ops[i]? = some o->i≠x->fW o.op=false->ordB ops ops.size x i=false->fv ops W x i=true) :
  ∀ (l:List Nat) (a:Act) (w:World),(yT ops (x :: l)->C w)->runT P ops W C Q (x :: l) a w->(∀ i∈l,i≠x/\∃ o,ops[i]? = some o/\(ordB ops ops.size x i=true∨fW o.op=false))->(x :: l).Pairwise (fun a b=>π a < π b)->runX P ops W C Q x l a w
 | [],a,w,_,h,_,_=>by simpa only [runX] using h
 | i :: r,a,w,hC,h,hl,hp=>by
  obtain ⟨bg,o,ho,PN⟩:=hl i (by simp);simp only [runX,ho];by_cases hd:ordB ops ops.size x i=true
  ·rw [if_pos hd];exact h
  ·rw [if_neg hd]
   have he:fW o.op=false:=by
    rcases PN with h | h
    ·exact (hd h).elim
    ·exact h
   rw [if_neg (by simp [he])];have Bq:ordB ops ops.size x i=false:=sU hd;have sv:=List.pairwise_cons.1 hp;have Dk:=List.pairwise_cons.1 sv.2
   have tK:∀ j∈x :: i :: r,j≠i->π j < π i->fv ops W j i=true:=fun j hj F0 aj=>by
    rcases List.mem_cons.1 hj with rfl | hj
    ·exact yy i o ho bg he Bq
    ·rcases List.mem_cons.1 hj with rfl | hj
     ·exact (F0 rfl).elim
     ·have:=Dk.1 j hj;omega
   have TX:jR o.op=true->C w:=fun hL=>hC ⟨i,o,by simp,ho,hL⟩;obtain ⟨v,hy⟩:=kj (π:=π) dc ho he _ a w h (by simp) tK hp;have aR:=gl dc rR ho _ a w hC h (by simp) tK hp;have hk:=(gR hy TX aR).2;rw [List.erase_cons_tail (by simpa using Ne.symm bg),List.erase_cons_head] at hk;refine ⟨v,hy,TX,AQ dc rR yy r _ w (fun hl=>?_) hk (fun j hj=>hl j (List.mem_cons_of_mem _ hj)) (List.pairwise_cons.2 ⟨fun y hy=>sv.1 y (List.mem_cons_of_mem _ hy),Dk.2⟩)⟩;obtain ⟨l,z,JG,hz,hL⟩:=hl;refine hC ⟨l,z,?_,hz,hL⟩;rcases List.mem_cons.1 JG with h | h
   ·simp [h]
   ·simp [h]
end
theorem yd {ops:Array Oper}:∀ {l:List Nat},(∀ i∈l,i < ops.size)->(selL ops.toList l).map (·.1)=l
 | [],_=>rfl
 | i :: r,h=>by
  have hi:ops.toList[i]? = some (ops[i]'(h i (by simp))):=by
   rw [gE (by simpa using h i (by simp))];simp
  unfold selL;rw [hi];simp only [List.map_cons];rw [yd fun j hj=>h j (List.mem_cons_of_mem _ hj)]
def goX (X:Ctx) (D:Dr) (x:Nat) (tail:List Nat):List Nat->Bool->List (Nat × Sl)->St->Prop
 | [],c,s0,st=>
  match c with
  | true=>goD X D 3000 true (selL D.ops.toList (x :: tail)) s0 st
  | false=>False
 | i :: r,c,s0,st=>
  match D.ops.toList[i]? with
  | none=>False
  | some o=>
   match fW o.op with
   | true=>goD X D 3000 c (selL D.ops.toList (x :: i :: (r ++ tail))) s0 st/\goD X ⟨D.ops,D.W,D.k,D.ig,some (goX X D x tail r)⟩ 3000 c [(i,o)] s0 st
   | false=>goD X ⟨D.ops,D.W,D.k,D.ig,some (goX X D x tail r)⟩ 3000 c [(i,o)] s0 st
def ZS (ops:Array Oper) (W:Nat->Bool) (x:Nat) (pre tail:List Nat):Bool:=
 Ge ops (x :: (pre ++ tail)) && qK ops W (plc (x :: (pre ++ tail))) && uC ops W (plc (x :: (pre ++ tail))) (exX ops x) && Vx ops x (plc (x :: (pre ++ tail))) &&
  (match ops[x]? with | some o=>fW o.op && !jR o.op | none=>false) && pre.all (fun i=>!ordB ops ops.size x i) && tail.all (fun i=>match ops[i]? with | some o=>ordB ops ops.size x i || !fW o.op | none=>false)
section
variable {X:Ctx} {D:Dw} {x:Nat} {tail:List Nat} {π:Nat->Nat}
theorem AR (hD:sm D.E0 D.d.ig.bx D.wr) (dc:∀ (j:Nat) (o:Oper) cs b,D.d.ops[j]? = some o->o.op ≠ .select cs b) (rR:∀ j i x y,π j < π i->D.d.ops[i]? = some x->D.d.ops[j]? = some y->jR x.op=true->D.d.W j=false)
  (yy:∀ (i:Nat) (o:Oper),D.d.ops[i]? = some o->i≠x->fW o.op=false->ordB D.d.ops D.d.ops.size x i=false->fv D.d.ops D.d.W x i=true)
  (gJ:∀ i∈tail,i≠x/\∃ o,D.d.ops[i]? = some o/\(ordB D.d.ops D.d.ops.size x i=true∨fW o.op=false)) (qg:x < D.d.ops.size):∀ (pre:List Nat),(∀ i∈pre,i < D.d.ops.size/\ordB D.d.ops D.d.ops.size x i=false)->(x :: (pre ++ tail)).Pairwise (fun a b=>π a < π b) ->
  ∀ c s0 st,goX X D.d x tail pre c s0 st->∀ E a w,fw X D c E s0 st a w->runX X.P D.d.ops D.d.W D.C (D.Q X) x (pre ++ tail) a w
 | [],_,hp,c,s0,st,hg,E,a,w,h=>by
  have ZT:∀ i∈x :: tail,i < D.d.ops.size:=fun i hi=>by
   rcases List.mem_cons.1 hi with rfl | hi
   ·exact qg
   ·obtain ⟨_,o,ho,_⟩:=gJ i hi;exact (Array.getElem?_eq_some_iff.1 ho).1
  simp only [goX] at hg;split at hg
  ·have h1:=eo hD 3000 true _ _ _ hg (fun p hp=>by simpa using vV hp) E a w h;rw [yd ZT] at h1;exact AQ dc rR yy tail a w (fun _=>h.cc rfl) h1 gJ hp
  ·exact hg.elim
 | i :: r,Ow,hp,c,s0,st,hg,E,a,w,h=>by
  obtain ⟨Yi,hnd⟩:=Ow i (by simp);have ho:D.d.ops[i]? = some D.d.ops[i]:=Array.getElem?_eq_getElem Yi;have jC:D.d.ops.toList[i]? = some D.d.ops[i]:=sU ho;have sv:=List.pairwise_cons.1 hp;have Dk:=List.pairwise_cons.1 sv.2
  have fo:∀ j∈x :: i :: (r ++ tail),j < D.d.ops.size:=fun j hj=>by
   rcases List.mem_cons.1 hj with rfl | hj
   ·exact qg
   ·rcases List.mem_cons.1 hj with rfl | hj
    ·exact Yi
    ·rcases List.mem_append.1 hj with hj | hj
     ·exact (Ow j (by simp [hj])).1
     ·obtain ⟨_,o,ho,_⟩:=gJ j hj;exact (Array.getElem?_eq_some_iff.1 ho).1
  have ih:=AR hD dc rR yy gJ qg r (fun j hj=>Ow j (by simp [hj])) (List.pairwise_cons.2 ⟨fun y hy=>sv.1 y (List.mem_cons_of_mem _ hy),Dk.2⟩);generalize D.d.ops[i]=o at ho jC
  have cj:∀ c s0 st,goD X ⟨D.d.ops,D.d.W,D.d.k,D.d.ig,some (goX X D.d x tail r)⟩ 3000 c [(i,o)] s0 st->fw X D c E s0 st a w->runT X.P D.d.ops D.d.W D.C (fun a w=>runX X.P D.d.ops D.d.W D.C (D.Q X) x (r ++ tail) a w) [i] a w:=fun c s0 st hg h=>by
   have h1:=eo (D:=⟨⟨D.d.ops,D.d.W,D.d.k,D.d.ig,some (goX X D.d x tail r)⟩,D.E0,D.wr⟩) hD 3000 c [(i,o)] s0 st hg (fun p hp=>by
    rw [List.mem_singleton] at hp;rw [hp]
    exact ho) E a w ⟨h.rel,h.x,h.β,h.t0,h.cc⟩
   refine lD ?_ h1;rintro a w ⟨c,E,s0,st,h2,h3⟩;exact ih c s0 st h3 E a w ⟨h2.rel,h2.x,h2.β,h2.t0,h2.cc⟩
  simp only [goX,jC] at hg;simp only [List.cons_append,runX,ho];rw [if_neg (by simp [hnd])];split at hg
  ·rename_i hE;obtain ⟨h1,h2⟩:=hg;rw [if_pos hE];have h3:=eo hD 3000 c _ _ _ h1 (fun p hp=>by simpa using vV hp) E a w h;rw [yd fo] at h3;refine ⟨h3,?_⟩;have h4:=cj c s0 st h2 h;simp only [runT,ho,hE,if_true] at h4;exact h4
  ·rename_i hE;rw [if_neg (by simp [hE])];have h4:=cj c s0 st hg h;simp only [runT,ho,hE,Bool.false_eq_true,if_false] at h4;exact h4
theorem Ox (x:Nat) (l:List Nat):plc (x :: l) x=0:=by simp [plc]
theorem Rb {x j:Nat} (l:List Nat) (h:j≠x):0 < plc (x :: l) j:=by
 have:Nat.beq x j=false:=by
  cases hb:Nat.beq x j
  ·rfl
  ·exact (h (Nat.eq_of_beq_eq_true hb).symm).elim
 simp [plc,this]
theorem ZU {s S:St} (h:cJ s S:=by refine ⟨rfl,rfl,?_⟩;repeat' (first | exact trivial | refine ⟨rfl,?_⟩)):s=S∨cJ s S:=.inr h
theorem Rc {id:Nat} {ops:Array Oper} {k:List It} {st:St} (W:Nat->Bool) (x:Nat) (pre tail:List Nat) (hm:X.P.follows .mixedOrders=true) (hc:ZS ops W x pre tail=true) (S:St)
  (h:goX X ⟨ops,W,[.rM fun s=>s=S∨cJ s S],st,none⟩ x tail pre true st.sl st) (hk:go X 4000 k S):ly X id ops k st:=by
 intro E a w hr;have hY:=jo hr;simp only [ZS,Bool.and_eq_true] at hc;obtain ⟨⟨⟨⟨⟨⟨hL,hO⟩,hS⟩,hDD⟩,hX⟩,Ow⟩,ye⟩:=hc
 cases tF:ops[x]? with
 | none=>rw [tF] at hX;cases hX
 | some xo=>
 rw [tF] at hX;simp only [Bool.and_eq_true,Bool.not_eq_true'] at hX;obtain ⟨Vv,Q9⟩:=hX;simp only [Ge,Bool.and_eq_true,List.all_eq_true,Nat.blt_eq,Nat.ble_eq,beq_iff_eq,List.mem_range] at hL;obtain ⟨⟨⟨⟨_,RT⟩,V1⟩,hlen⟩,h1d⟩:=hL;have hp:=qQ h1d;have sv:=List.pairwise_cons.1 hp;have dc:=qN hO;have rR:=qM hO
 have yH:∀ j,j≠x->plc (x :: (pre ++ tail)) x < plc (x :: (pre ++ tail)) j:=fun j hj=>by
  rw [Ox];exact Rb _ hj
 have qg:=(Array.getElem?_eq_some_iff.1 tF).1;have hS':=hS;simp only [uC,List.all_eq_true,List.mem_range,Bool.or_eq_true,Bool.not_eq_true'] at hS'
 have yy:∀ (i:Nat) (o:Oper),ops[i]? = some o->i≠x->fW o.op=false->ordB ops ops.size x i=false->fv ops W x i=true:=fun i o ho bg he hd=>by
  rcases hS' i (Array.getElem?_eq_some_iff.1 ho).1 x qg with ((h1 | h1) | h1) | h1
  ·have:¬ Nat.blt (plc (x :: (pre ++ tail)) x) (plc (x :: (pre ++ tail)) i)=true:=by simp [h1]
   have:=yH i bg;simp at *;omega
  ·simp [exX,ho,he] at h1
  ·rw [hd] at h1;cases h1
  ·exact h1
 have bg:∀ i∈pre ++ tail,i≠x:=fun i hi e=>by
  have:=sv.1 i hi;rw [e] at this;omega
 have hs:=km hY (ops:=ops) (W:=W) (k:=[.rM fun s=>s=S∨cJ s S])
 have cm:=AR (D:=⟨⟨ops,W,[.rM fun s=>s=S∨cJ s S],st,none⟩,E,w.drew⟩) hY.env.em dc rR yy (fun i hi=>by
  refine ⟨bg i (List.mem_append_right _ hi),?_⟩;have:=List.all_eq_true.1 ye i hi
  cases ho:ops[i]? with
  | none=>rw [ho] at this;cases this
  | some o=>
   rw [ho] at this;simp only [Bool.or_eq_true,Bool.not_eq_true'] at this;exact ⟨o,rfl,this⟩) qg pre (fun i hi=>by
  refine ⟨V1 i (by simp [hi]),?_⟩;have:=List.all_eq_true.1 Ow i hi
  simpa using this) hp true st.sl st h E a w.drew hs
 refine wp_region_any hm ?_;refine Ov (C:=CC E st.bx w.drew) (Q:=kq X [.rM fun s=>s=S∨cJ s S] .normal) (π:=plc (x :: (pre ++ tail))) tF Vv Q9 yH hO hS hDD (fun a w hq=>?_) ops.size (Array.replicate ops.size false) (pre ++ tail) a _ (by simp) ?_ (by simp [qg]) ?_ hp ?_ (fun _=>hs.cc rfl) cm
 ·obtain ⟨qj,E1,bZ,hJ⟩:=hq;rcases hJ with rfl | hJ
  ·exact go_sound 4000 _ _ hk E1 a w bZ
  ·exact go_sound 4000 _ _ hk E1 a w (nH bZ hJ)
 ·intro i o ho hl;have:i < ops.size:=(Array.getElem?_eq_some_iff.1 ho).1;simp [this] at hl
 ·intro i;constructor
  ·intro hi;have:=V1 i (by simp [List.mem_append.1 hi]);exact ⟨bg i hi,this,by simp [this]⟩
  ·rintro ⟨h1,h2,_⟩;have:=RT i h2;have h4:i=x∨i∈pre ++ tail:=sU this;exact h4.resolve_left h1
 ·simp only [List.length_cons] at hlen;exact hlen
end
end Dv
end Go.Proofs.YtadhpeooehkklaaGreat
