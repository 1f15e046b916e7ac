/- Part 8 of the proof: First and second values, the document's: cut, depth, sum, tag; The document's Room: how much a value along a path has in it; First and second values, the document's: size, field, other; Regions that draw their order, in which several new objects may come in any order; First and second values, the document's: Make; First and second values, the document's: First, tagged, Second; Second values, the document's; First and second values: how great they are; tree.write, Raw; The document's Fits; Written values: well formed; the document's Same on the same value; its Raw; The document's Kid, Get, Set of a value that fits; The document's Same of values, Set; The numbers of a plan's nodes are ints; The law of first and second values: fine, the example, the call returns true; Sample: a value with another one in it; Sample: the root's value along a path; The document's Along, End, Fill; The document's End, Fill; Sample: Along, Pair; the weight of a value along a path; Sample: Pair; The laws of values along paths, of pairs: the calls return true. No condition. -/
import Derived.Test.YtadhpeooehkklaaGreatMg3
import Derived.Test.YtadhpeooehkklaaGreatMg5
import Derived.Test.YtadhpeooehkklaaGreatMg6
import Derived.Test.YtadhpeooehkklaaGreatMg7
set_option linter.all false
set_option maxRecDepth 100000
namespace Go.Proofs.YtadhpeooehkklaaGreat
open Go Go.RowKit Dv Go.Proofs.Tryz
abbrev yK (a b:Nat) (A B:List (List DV)) (ND:List Nd) (z:Int) (D M S O:List Nat):List DV:=[.sl a A none,.sl b B none,.sl 7 (bh ND) none,.v (.int .i64 z),.sl 1 (dInts D) none,.sl 1 (dInts M) none,.sl 1 (dInts S) none,.sl 1 (dInts O) none]
theorem gN (n:Nat):aQ prog 132 [.v (.int .i64 n)] (.v (.int .i64 (aY n:Nat))):=by
 refine eG 6 [.tmp 2] func132 rfl ntmps132 rfl fun _ _ _ _=>?_;refine br ?_ ?_<;>intro c
 ·have c:(4097:Int) < n:=sU c;refine (congrArg (fun z=>DV.v (.int .i64 z)) ?_:_=_);unfold aY;omega
 ·have c:¬ (4097:Int) < n:=sU c;refine (congrArg (fun z=>DV.v (.int .i64 z)) ?_:_=_);unfold aY;omega
def tgStep (D:List Nat) (es:List Ed) (but:Int) (i:Nat) (out:Option Nat):Option Nat:=match es[i]? with
 | none=>out
 | some e=>if (i:Int)=but∨dM D e=false then out else if 0<=but then some i else match out with
  | none=>some i
  | some k=>match es[k]? with | none=>some i | some y=>if kK D e<=kK D y then some i else some k
def tagR (D:List Nat) (es:List Ed) (but:Int):Nat->Option Nat
 | 0=>none
 | c + 1=>tgStep D es but (es.length - (c + 1)) (tagR D es but c)
theorem rH {D:List Nat} {es:List Ed} {but:Int}:∀ {c k:Nat},c<=es.length->tagR D es but c=some k->es.length - c<=k/\∃ e,es[k]? = some e/\dM D e=true/\(k:Int)≠but
 | 0,k,_,h=>by cases h
 | c + 1,k,hc,h=>by
  rw [tagR] at h;have ih:=fun k h=>rH (D:=D) (es:=es) (but:=but) (c:=c) (k:=k) (by omega) h;have hx:es[es.length - (c + 1)]? = some es[es.length - (c + 1)]:=gE (by omega);generalize tagR D es but c=out at h ih;unfold tgStep at h;rw [hx] at h;simp only at h
  have ZK:out=some k->es.length - (c + 1)<=k/\∃ e,es[k]? = some e/\dM D e=true/\(k:Int)≠but:=fun h=>by
   obtain ⟨h1,h2⟩:=ih k h;exact ⟨by omega,h2⟩
  split at h
  ·exact ZK h
  ·rename_i hn
   have HG:some (es.length - (c + 1))=some k->es.length - (c + 1)<=k/\∃ e,es[k]? = some e/\dM D e=true/\(k:Int)≠but:=fun h=>by
    cases h;exact ⟨Nat.le_refl _,_,hx,by cases ht:dM D es[es.length - (c + 1)]<;>simp_all,fun h=>hn (.inl h)⟩
   split at h
   ·exact HG h
   ·split at h
    ·exact HG h
    ·split at h
     ·exact HG h
     ·split at h
      ·exact HG h
      ·exact ZK h
theorem A6 {D:List Nat} {es:List Ed}:∀ {c:Nat},c<=es.length->(tagR D es (-1) c=none->∀ (j:Nat) x,es.length - c<=j->es[j]? = some x->dM D x=false) /\
  ∀ k,tagR D es (-1) c=some k->∃ e,es[k]? = some e/\(∀ (j:Nat) x,es.length - c<=j->es[j]? = some x->dM D x=true->kK D e<=kK D x)/\∀ (j:Nat) x,es.length - c<=j->j < k->es[j]? = some x->dM D x=true->kK D e < kK D x
 | 0,_=>⟨fun _ j x hj hx=>by have:=(gS hx).1;omega,fun k h=>by cases h⟩
 | c + 1,hc=>by
  obtain ⟨ZW,Tc⟩:=A6 (D:=D) (es:=es) (c:=c) (by omega);have uF:=fun k h=>rH (D:=D) (es:=es) (but:=-1) (c:=c) (k:=k) (by omega) h;have hx:es[es.length - (c + 1)]? = some es[es.length - (c + 1)]:=gE (by omega);have uu:∀ {j:Nat},es.length - (c + 1)<=j->j=es.length - (c + 1)∨es.length - c<=j:=fun h=>by omega
  rw [tagR];generalize tagR D es (-1) c=out at ZW Tc uF;generalize es[es.length - (c + 1)]=e at hx;generalize hi:es.length - (c + 1)=i at hx uu;unfold tgStep;rw [hx];simp only;by_cases Cp:dM D e=true
  ·rw [if_neg (by rw [Cp];simp),if_neg (by omega)]
   cases out with
   | none=>
    refine ⟨fun h=>(by cases h),fun k h=>?_⟩;cases h;refine ⟨e,hx,fun j x hj rI ht=>?_,fun j x hj JF rI ht=>by omega⟩;rcases uu hj with rfl | hj
    ·rw [hx] at rI;cases rI;exact Nat.le_refl _
    ·rw [ZW rfl j x hj rI] at ht;cases ht
   | some k=>
    obtain ⟨y,hy,h1,h2⟩:=Tc k rfl;obtain ⟨hk,_⟩:=uF k rfl;simp only [hy];by_cases dq:kK D e<=kK D y
    ·rw [if_pos dq];refine ⟨fun h=>(by cases h),fun k' h=>?_⟩;cases h;refine ⟨e,hx,fun j x hj rI ht=>?_,fun j x hj JF rI ht=>by omega⟩;rcases uu hj with rfl | hj
     ·rw [hx] at rI;cases rI;exact Nat.le_refl _
     ·have:=h1 j x hj rI ht;omega
    ·rw [if_neg dq];refine ⟨fun h=>(by cases h),fun k' h=>?_⟩;cases h;refine ⟨y,hy,fun j x hj rI ht=>?_,fun j x hj JF rI ht=>?_⟩
     ·rcases uu hj with rfl | hj
      ·rw [hx] at rI;cases rI;omega
      ·exact h1 j x hj rI ht
     ·rcases uu hj with rfl | hj
      ·rw [hx] at rI;cases rI;omega
      ·exact h2 j x hj JF rI ht
  ·have Cp:dM D e=false:=sU Cp;rw [if_pos (.inr Cp)];refine ⟨fun h j x hj rI=>?_,fun k h=>?_⟩
   ·rcases uu hj with rfl | hj
    ·rw [hx] at rI;cases rI;exact Cp
    ·exact ZW h j x hj rI
   ·obtain ⟨y,hy,h1,h2⟩:=Tc k h;refine ⟨y,hy,fun j x hj rI ht=>?_,fun j x hj JF rI ht=>?_⟩
    ·rcases uu hj with rfl | hj
     ·rw [hx] at rI;cases rI;rw [Cp] at ht;cases ht
     ·exact h1 j x hj rI ht
    ·rcases uu hj with rfl | hj
     ·rw [hx] at rI;cases rI;rw [Cp] at ht;cases ht
     ·exact h2 j x hj JF rI ht
theorem om (D:List Nat) (es:List Ed):tagR D es (-1) es.length=bu D es:=by
 obtain ⟨h1,h2⟩:=A6 (D:=D) (es:=es) (Nat.le_refl _)
 cases h:tagR D es (-1) es.length with
 | none=>
  refine (um fun x hx=>?_).symm;obtain ⟨j,hj,rfl⟩:=List.getElem_of_mem hx;exact h1 h j _ (by omega) (gE hj)
 | some k=>
  obtain ⟨_,e,he,ht,_⟩:=rH (Nat.le_refl _) h;obtain ⟨e',pF,h3,h4⟩:=h2 k h;rw [he] at pF;cases pF;refine (tp he ht (fun x hx Pe=>?_) fun j x hj hx Pe=>h4 j x (by omega) hj hx Pe).symm;obtain ⟨j,hj,rfl⟩:=List.getElem_of_mem hx;exact h3 j _ (by omega) (gE hj) Pe
theorem qc {D:List Nat} {es:List Ed} {b:Nat}:∀ {c:Nat},c<=es.length->∀ (j:Nat) x,es.length - c<=j->es[j]? = some x->dM D x=true->j≠b->∃ k,tagR D es b c=some k/\k<=j
 | 0,_,j,x,hj,hx,_,_=>by have:=(gS hx).1;omega
 | c + 1,hc,j,x,hj,hx,ht,hb=>by
  have rN:es[es.length - (c + 1)]? = some es[es.length - (c + 1)]:=gE (by omega);rw [tagR];unfold tgStep;rw [rN];simp only;split
  ·rename_i hn;rcases (show j=es.length - (c + 1)∨es.length - c<=j by omega) with rfl | fY
   ·rw [hx] at rN;cases rN;rcases hn with hn | hn
    ·omega
    ·rw [ht] at hn;cases hn
   ·exact qc (by omega) j x fY hx ht hb
  ·rw [if_pos (by omega)];exact ⟨_,rfl,hj⟩
theorem KZ {D:List Nat} {es:List Ed} {b:Nat} (h:bu D es=some b):tagR D es b es.length=la D es:=by
 cases ht:tagR D es b es.length with
 | none=>
  refine (bK fun j hj=>?_).symm;rw [lS (gE hj),h]
  cases Cp:dM D es[j] with
  | false=>simp
  | true=>
   by_cases Jv:j=b
   ·subst Jv;simp
   ·obtain ⟨k,hk,_⟩:=qc (D:=D) (b:=b) (Nat.le_refl _) j _ (by omega) (gE hj) Cp Jv;rw [ht] at hk;cases hk
 | some k=>
  obtain ⟨_,e,he,Cp,bg⟩:=rH (Nat.le_refl _) ht;refine (bq (gS he).1 ?_ fun j hj=>?_).symm
  ·rw [lS he,h,Cp,Bool.and_true];exact decide_eq_true fun h2=>bg (by cases h2;rfl)
  ·have nD:j < es.length:=by have:=(gS he).1;omega
   rw [lS (gE nD),h]
   cases hth2:dM D es[j] with
   | false=>simp
   | true=>
    by_cases Jv:j=b
    ·subst Jv;simp
    ·obtain ⟨k',eJ,dq⟩:=qc (D:=D) (b:=b) (Nat.le_refl _) j _ (by omega) (gE nD) hth2 Jv;rw [ht] at eJ;cases eJ;omega
section
variable (a b:Nat) (A B:List (List DV)) (ND:List Nd) (z:Int) (D M S O:List Nat) {L:Nat}
theorem mV {e:Ed} (hD:D.length=ND.length) (he:NS L ND.length e) :
  aQ prog 147 [.agg (yK a b A B ND z D M S O),.agg (BZ e)] (.v (.int .i64 (kK D e:Nat))):=by
 obtain ⟨en,eb,ea,et,vi,ew,yD,yE,yF,yG⟩:=e;have h1:=he.to1;simp only at h1;refine eG 13 [.tmp 4] func147 rfl ntmps147 rfl fun _ _ _ _=>?_;refine br ?_ ?_<;>intro c
 ·subst c;exact (rfl:_=_)
 ·subst c;obtain ⟨k,rfl,ee⟩:=h1 rfl;have hg:D[k]? = some D[k]:=gE (by omega);refine ⟨_,⟨Int.natCast_nonneg _,aD hg⟩,?_⟩;refine (congrArg (fun z=>DV.v (.int .i64 z)) ?_:_=_);unfold kK bY;simp [List.getD_eq_getElem?_getD,hg]
abbrev VJ (es:List Ed) (c:Int) (s e:Nat):St:=
 ⟨[(1,⟨[],.sl 10 (cw es) none⟩),(2,⟨[],.v (.int .i64 c)⟩),(3,⟨[],.loc 0 0⟩),(7,⟨[],.v (.int .i64 s)⟩),(8,⟨[],.v (.int .i64 e)⟩)],[yK a b A B ND z D M S O],[]⟩
theorem mW (es:List Ed) (c:Int) (hS:S.length=ND.length) (hz:∀ z∈S,z<=4097) (he:∀ e∈es,NS L ND.length e) (dY:es.length<=1099511627776) :
  aQ prog 131 [.agg (yK a b A B ND z D M S O),.sl 10 (cw es) none,.v (.int .i64 c)] (.v (.int .i64 (sumX S c es 0 1:Nat))):=by
 have bA:=aO es;refine eG 39 [.tmp 6] func131 rfl ntmps131 rfl fun _ _ _ _=>?_;refine lJ (fun e=>VJ a b A B ND z D M S O es c (sumX S c (es.take e) 0 1) e) es.length (ap 1 rfl wA rfl rfl rfl wB) ?_;intro e hel';refine br ?_ ?_<;>intro hL
 ·have aj:e < es.length:=sV bA hL;obtain ⟨x,hx⟩:=gX aj;have tF:=he x (mG hx);have eE:=tv (sz:=S) (c:=c) hx;have nu:=mO (sz:=S) (c:=c) (es:=es.take e) (i:=0) (n:=1) (by omega);have mZ:=rC hz x;generalize sumX S c (es.take e) 0 1=s at eE nu ⊢;refine br ?_ ?_<;>intro c1
  ·have c1:¬ (e:Int)=c:=fun h=>by simp [lastG,h] at c1
   rw [if_neg c1] at eE;refine ⟨_,⟨Int.natCast_nonneg _,aC hx⟩,?_⟩;refine br ?_ ?_<;>intro c2
   ·have c2:x.bare=false:=by simpa [lastG,pickB] using c2
    obtain ⟨k,hk,ee⟩:=tF.to1 c2;have hg:S[k]? = some S[k]:=gE (by omega);have Wm:cE S x=S[k]:=by unfold cE bY;rw [c2,hk,Int.toNat_natCast,List.getD_eq_getElem?_getD,hg];all_goals rfl
    rw [Wm] at eE mZ;generalize S[k]=v at eE mZ hg;have hw:=wrapN (a:=s) (b:=v) (by omega) (by omega);obtain ⟨en,eb,ea,et,vi,ew,yD,yE,yF,yG⟩:=x;simp only at hk;subst hk;refine dI ?_;refine ⟨_,⟨Int.natCast_nonneg _,aC hx⟩,?_⟩;refine ⟨_,⟨Int.natCast_nonneg _,aD hg⟩,?_⟩;refine cD vY (gN (s + v)) ?_ (gF hw);exact rE ⟨_,by omega,e + 1,rfl,by omega,rfl⟩ (ap 1 rfl (gj eE.symm (aF aj (by omega))) rfl rfl rfl (wB2 eE.symm (aF aj (by omega))))
   ·have c2:x.bare=true:=by simpa [lastG,pickB] using c2
    have hs:s=sumX S c (es.take (e + 1)) 0 1:=by rw [eE];unfold cE aY;rw [if_pos c2];omega
    exact rE ⟨_,by omega,e + 1,rfl,by omega,rfl⟩ (ap 1 rfl (gj hs (aF aj (by omega))) rfl rfl rfl (wB2 hs (aF aj (by omega))))
  ·have c1:(e:Int)=c:=Decidable.byContradiction fun h=>by simp [lastG,h] at c1
   rw [if_pos c1] at eE;exact rE ⟨_,by omega,e + 1,rfl,by omega,rfl⟩ (ap 1 rfl (gj eE.symm (aF aj (by omega))) rfl rfl rfl (wB2 eE.symm (aF aj (by omega))))
 ·have aM:e=es.length:=sW bA hL;subst aM;rw [List.take_length];exact (rfl:_=_)
abbrev kI (n:Nd) (but:Int) (out:Option Nat) (j:Int):St:=
 ⟨[(2,⟨[],.v (.int .i64 but)⟩),(3,⟨[],.loc 0 0⟩),(4,⟨[],.loc 1 0⟩),(7,⟨[],.v (.int .i64 (oz out))⟩),(8,⟨[],.v (.int .i64 j)⟩)],[yK a b A B ND z D M S O,gv n],[]⟩
theorem mX {n:Nd} (but:Int) (hD:D.length=ND.length) (hn:cz L ND.length n) (dY:n.ai.length<=1099511627776) :
  aQ prog 83 [.agg (yK a b A B ND z D M S O),.agg (gv n),.v (.int .i64 but)] (.v (.int .i64 (oz (tagR D n.ai but n.ai.length)))):=by
 have aU:=hn.fD;obtain ⟨ag,aS,lo,hi,most,af,es⟩:=n;simp only at aU dY ⊢;have bA:=aO es;refine eG 61 [.tmp 6] func83 rfl ntmps83 rfl fun _ _ _ _=>?_;refine lI (fun t st=>∃ (c:Nat) (j:Int),st=kI a b A B ND z D M S O ⟨ag,aS,lo,hi,most,af,es⟩ but (tagR D es but c) j/\c<=es.length/\j=(es.length:Int) - 1 - c/\t=es.length - c) ⟨0,_,rfl,by omega,by omega,rfl⟩ (ap 2 rfl (na (show IntKind.i64.wrap (((cw es).length:Int) - 1)=(es.length:Int) - 1 by rw [bA,wrap64 (by omega) (by omega)])) rfl rfl rfl (cX (show IntKind.i64.wrap (((cw es).length:Int) - 1)=(es.length:Int) - 1 by rw [bA,wrap64 (by omega) (by omega)]))) ?_;rintro t st ⟨c,j,rfl,hc,hj,rfl⟩;refine br ?_ ?_<;>intro hL
 ·have hL:0<=j:=sU hL;obtain ⟨i,rfl⟩:∃ i:Nat,j=i:=⟨j.toNat,by omega⟩;have hic:i=es.length - (c + 1):=by omega
  have aj:i < es.length:=by omega
  obtain ⟨x,hx⟩:=gX aj;have tF:=aU x (mG hx);have bT:tagR D es but (c + 1)=tgStep D es but i (tagR D es but c):=by rw [tagR,<- hic]
  have uF:=fun k h=>rH (D:=D) (es:=es) (but:=but) (c:=c) (k:=k) (by omega) h;unfold tgStep at bT;rw [hx] at bT;simp only at bT;have aan:=mV a b A B ND z D M S O hD tF
  have Td:∃ v,x.bare=false->D[x.to.toNat]? = some v/\0<=x.to/\(dM D x=false↔v=0):=by
   cases hb:x.bare with
   | true=>exact ⟨0,fun h=>by cases h⟩
   | false=>
    obtain ⟨k,hk,ee⟩:=tF.to1 hb;have hg:D[x.to.toNat]? = some D[x.to.toNat]:=gE (by omega);exact ⟨_,fun _=>⟨hg,by omega,by unfold dM bY;rw [hb,List.getD_eq_getElem?_getD,hg];simp⟩⟩
  obtain ⟨v,hv⟩:=Td;have hbt:x.bare=true->dM D x=true:=fun h=>by unfold dM;rw [h];all_goals rfl
  have kO:∀ out2:Option Nat,tagR D es but (c + 1)=out2->∃ c2 j2,kI a b A B ND z D M S O ⟨ag,aS,lo,hi,most,af,es⟩ but out2 (((i:Nat):Int) - 1)=kI a b A B ND z D M S O ⟨ag,aS,lo,hi,most,af,es⟩ but (tagR D es but c2) j2/\c2<=es.length/\j2=(es.length:Int) - 1 - c2/\es.length - (c + 1)=es.length - c2:=fun out2 h=>⟨c + 1,_,by rw [h],by omega,by omega,rfl⟩;have hw:IntKind.i64.wrap (((i:Nat):Int) - 1)=((i:Nat):Int) - 1:=wrap64 (by omega) (by omega);generalize tagR D es but c=out at bT uF;generalize tagR D es but (c + 1)=out2 at bT kO;refine ⟨_,⟨Int.natCast_nonneg _,aC hx⟩,?_⟩;refine br ?_ ?_<;>intro c1
  ·have c1:¬ (i:Int)=but:=fun h=>by simp [lastG,h] at c1
   refine br ?_ ?_<;>intro c2
   ·have c2:x.bare=false:=by simpa [lastG] using c2
    obtain ⟨nq,vC,VR⟩:=hv c2;refine ⟨_,⟨vC,aD nq⟩,?_⟩;refine br ?_ ?_<;>intro c3
    ·have c3:v=0:=by simpa [lastG,pickB] using c3
     rw [if_pos (.inr (VR.2 c3))] at bT;exact ⟨kI a b A B ND z D M S O ⟨ag,aS,lo,hi,most,af,es⟩ but out2 ((i:Nat) - 1),(ap 2 rfl (gj hw (congrArg oz (bT.symm))) rfl rfl rfl (wB2 hw (congrArg oz (bT.symm)))),es.length - (c + 1),by omega,kO out2 rfl⟩
    ·have c3:¬ v=0:=by simpa [lastG,pickB] using c3
     rw [if_neg (fun h=>h.elim c1 (fun h=>c3 (VR.1 h)))] at bT;refine dI ?_;refine br ?_ ?_<;>intro c4
     ·have c4:¬ 0<=but/\out≠none:=by
       cases out with
       | none=>simp [lastG,au,oz] at c4
       | some k=>exact ⟨fun h=>by simp [lastG,pickB,h] at c4,by simp⟩
      obtain ⟨k,rfl⟩:=Option.ne_none_iff_exists'.1 c4.2;rw [if_neg c4.1] at bT;obtain ⟨_,y,hy,_,_⟩:=uF k rfl;have OZ:=mV a b A B ND z D M S O hD (aU y (mG hy));simp only [hy] at bT;refine cD Ik aan ?_;refine ⟨_,⟨Int.natCast_nonneg _,aC hy⟩,?_⟩;refine cD Ik OZ ?_;refine br ?_ ?_<;>intro c5
      ·have c5:kK D x<=kK D y:=by simpa [lastG,pickB,oz] using c5
       exact ⟨kI a b A B ND z D M S O ⟨ag,aS,lo,hi,most,af,es⟩ but out2 ((i:Nat) - 1),(ap 2 rfl (gj hw (congrArg oz ((bT.trans (if_pos c5)).symm))) rfl rfl rfl (wB2 hw (congrArg oz ((bT.trans (if_pos c5)).symm)))),es.length - (c + 1),by omega,kO out2 rfl⟩
      ·have c5:¬ kK D x<=kK D y:=by simpa [lastG,pickB,oz] using c5
       exact ⟨kI a b A B ND z D M S O ⟨ag,aS,lo,hi,most,af,es⟩ but out2 ((i:Nat) - 1),(ap 2 rfl (gj hw (congrArg oz ((bT.trans (if_neg c5)).symm))) rfl rfl rfl (wB2 hw (congrArg oz ((bT.trans (if_neg c5)).symm)))),es.length - (c + 1),by omega,kO out2 rfl⟩
     ·have c4:0<=but∨out=none:=by
       cases out with
       | none=>exact .inr rfl
       | some k=>exact .inl (Decidable.byContradiction fun h=>by
         have h2:decide (0<=but)=false:=decide_eq_false h;have h3:decide (oz (some k) < 0)=false:=decide_eq_false (show ¬ ((k:Nat):Int) < 0 by omega);simp only [lastG,au,h2,h3] at c4
         cases c4)
      have PB:out2=some i:=by
       by_cases hb:0<=but
       ·rw [bT,if_pos hb]
       ·rw [c4.resolve_left hb,if_neg hb] at bT;exact bT
      exact ⟨kI a b A B ND z D M S O ⟨ag,aS,lo,hi,most,af,es⟩ but out2 ((i:Nat) - 1),(ap 2 rfl (gj hw (congrArg oz (PB.symm))) rfl rfl rfl (wB2 hw (congrArg oz (PB.symm)))),es.length - (c + 1),by omega,kO out2 rfl⟩
   ·have c2:x.bare=true:=by simpa [lastG] using c2
    rw [if_neg (fun h=>h.elim c1 (fun h=>by rw [hbt c2] at h;cases h))] at bT;refine dI ?_;refine br ?_ ?_<;>intro c4
    ·have c4:¬ 0<=but/\out≠none:=by
      cases out with
      | none=>simp [lastG,au,oz] at c4
      | some k=>exact ⟨fun h=>by simp [lastG,pickB,h] at c4,by simp⟩
     obtain ⟨k,rfl⟩:=Option.ne_none_iff_exists'.1 c4.2;rw [if_neg c4.1] at bT;obtain ⟨_,y,hy,_,_⟩:=uF k rfl;have OZ:=mV a b A B ND z D M S O hD (aU y (mG hy));simp only [hy] at bT;refine cD Ik aan ?_;refine ⟨_,⟨Int.natCast_nonneg _,aC hy⟩,?_⟩;refine cD Ik OZ ?_;refine br ?_ ?_<;>intro c5
     ·have c5:kK D x<=kK D y:=by simpa [lastG,pickB,oz] using c5
      exact ⟨kI a b A B ND z D M S O ⟨ag,aS,lo,hi,most,af,es⟩ but out2 ((i:Nat) - 1),(ap 2 rfl (gj hw (congrArg oz ((bT.trans (if_pos c5)).symm))) rfl rfl rfl (wB2 hw (congrArg oz ((bT.trans (if_pos c5)).symm)))),es.length - (c + 1),by omega,kO out2 rfl⟩
     ·have c5:¬ kK D x<=kK D y:=by simpa [lastG,pickB,oz] using c5
      exact ⟨kI a b A B ND z D M S O ⟨ag,aS,lo,hi,most,af,es⟩ but out2 ((i:Nat) - 1),(ap 2 rfl (gj hw (congrArg oz ((bT.trans (if_neg c5)).symm))) rfl rfl rfl (wB2 hw (congrArg oz ((bT.trans (if_neg c5)).symm)))),es.length - (c + 1),by omega,kO out2 rfl⟩
    ·have c4:0<=but∨out=none:=by
      cases out with
      | none=>exact .inr rfl
      | some k=>exact .inl (Decidable.byContradiction fun h=>by
         have h2:decide (0<=but)=false:=decide_eq_false h;have h3:decide (oz (some k) < 0)=false:=decide_eq_false (show ¬ ((k:Nat):Int) < 0 by omega);simp only [lastG,au,h2,h3] at c4
         cases c4)
     have PB:out2=some i:=by
      by_cases hb:0<=but
      ·rw [bT,if_pos hb]
      ·rw [c4.resolve_left hb,if_neg hb] at bT;exact bT
     exact ⟨kI a b A B ND z D M S O ⟨ag,aS,lo,hi,most,af,es⟩ but out2 ((i:Nat) - 1),(ap 2 rfl (gj hw (congrArg oz (PB.symm))) rfl rfl rfl (wB2 hw (congrArg oz (PB.symm)))),es.length - (c + 1),by omega,kO out2 rfl⟩
  ·have c1:(i:Int)=but:=Decidable.byContradiction fun h=>by simp [lastG,h] at c1
   rw [if_pos (.inl c1)] at bT;exact ⟨kI a b A B ND z D M S O ⟨ag,aS,lo,hi,most,af,es⟩ but out2 ((i:Nat) - 1),(ap 2 rfl (gj hw (congrArg oz (bT.symm))) rfl rfl rfl (wB2 hw (congrArg oz (bT.symm)))),es.length - (c + 1),by omega,kO out2 rfl⟩
 ·have hce:c=es.length:=by have:=hL;simp at this;omega
  subst hce;exact (rfl:_=_)
end
def nf (S D:List Nat) (l:List Pl) (c:Nat):Nat:=if l.all (iA D)=true then aY (c + totF S l) else 0
theorem HR {S D:List Nat} {q:Pl} {l:List Pl} {c:Nat} (hc:1<=c):nf S D (q :: l) c=if iA D q=true/\nf S D l c≠0 then aY (nf S D l c + yJ S q) else 0:=by
 unfold nf;rw [List.all_cons,totF]
 cases iA D q with
 | false=>simp
 | true=>
  cases l.all (iA D) with
  | false=>simp
  | true=>
   have h:aY (c + totF S l)≠0:=by unfold aY;omega
   simp only [Bool.and_true,if_true,true_and,ne_eq,h,not_false_eq_true];rw [tB];congr 1;omega
theorem Fu (S D:List Nat) (l:List Pl) (c:Nat):nf S D l c<=4097:=by
 unfold nf;split
 ·exact fm _
 ·omega
section
variable (a b:Nat) (A B:List (List DV)) (ND:List Nd) (z:Int) (D M S O:List Nat) {L:Nat}
abbrev Tl (d:Nd) (p:List cQ) (k:Int) (m e:Nat):St:=
 ⟨[(2,⟨[],.sl 3 (aP p) none⟩),(4,⟨[],.loc 0 0⟩),(9,⟨[],.loc 1 0⟩),(10,⟨[],.v (.int .i64 k)⟩),(12,⟨[],.v (.int .i64 m)⟩),(13,⟨[],.v (.int .i64 e)⟩)],[yK a b A B ND z D M S O,gv d],[]⟩
abbrev Tm (d:Nd) (k:Int) (m e:Nat):St:=
 ⟨[(4,⟨[],.loc 0 0⟩),(9,⟨[],.loc 1 0⟩),(10,⟨[],.v (.int .i64 k)⟩),(12,⟨[],.v (.int .i64 m)⟩),(14,⟨[],.v (.int .i64 e)⟩)],[yK a b A B ND z D M S O,gv d],[]⟩
set_option maxHeartbeats 4000000 in
theorem uv {f:Nat->Nat->Bool} {m:Nat} (bm:∀ n∈ND,cz L ND.length n) (bL:∀ n∈ND,n.ai.length<=1099511627776) (hS:S.length=ND.length) (hz:∀ x∈S,x<=4097) (hDS:∀ j,S.getD j 0=0↔D.getD j 0=0) {c:Nat} (hc:1<=c) (lf:c<=1099511627776) :
  ∀ (p:List cQ),p.length<=1099511627776->(∀ s∈p,s.s.size<=4611686018427387904)->∀ (i a':Nat) {r:Nat × Nat},i < ND.length->walkV ND f m p i a'=some r ->
   aQ prog 73 [.agg (yK a b A B ND z D M S O),.v (.int .i64 i),.sl 3 (aP p) none,.v (.int .i64 c)] (.v (.int .i64 (nf S D (stpsV ND p i) c:Nat)))
 | [],_,_,i,a',r,hi,_=>by
  have h:=gN c;rw [show nf S D (stpsV ND [] i) c=aY c by unfold nf;simp [stpsV,totF]];refine eG 116 [.tmp 8] func73 rfl ntmps73 rfl fun _ _ _ _=>?_;refine cP vY h ?_;exact (rfl:_=_)
 | s :: p,hp,hs,i,a',r,hi,hw=>by
  obtain ⟨d,k,x,hd,hk,hx,hw2⟩:=mU hw;have hm:=mG hd;have hN:=bm d hm;have dY:=bL d hm;have yC:=oh d s dY (hs s (by simp));rw [hk] at yC;obtain ⟨Kk,Ws⟩:∃ K:Int,K=(k:Int):=⟨_,rfl⟩;have yC:aQ prog 138 [.agg (gv d),.agg (jJ s)] (.v (.int .i64 Kk)):=by rw [Ws];exact yC
  have QJ:¬ Kk < 0:=by omega
  have hKt:Kk.toNat=k:=by omega
  have hq:tC ND ⟨i,d,k,s⟩:=⟨hd,hk⟩;obtain ⟨k1,k5,k2,k3,k4,Vm⟩:=ld hq;have VK:=fun c=>CE bm hq hx c;obtain ⟨e',pF,hB',_⟩:=fL hk;rw [hx] at pF;cases pF;have nv:=kG hN (mG hx) hB';obtain ⟨t,ht,gJ⟩:=(hN.fD x (mG hx)).to1 nv;have FQ:x.to.toNat=t:=by rw [ht,Int.toNat_natCast]
  rw [FQ] at hw2;have ye:=OT s p;have CO:=dE (l:=s :: p) (e:=0) rfl;have OU:=dO (s :: p);rw [List.length_cons] at OU hp;have ih:=uv bm bL hS hz hDS hc lf p (by omega) (fun y hy=>hs y (by simp [hy])) t _ gJ hw2;rw [mT hd hk hx,FQ,HR hc];have ed:=Fu S D (stpsV ND p t) c;generalize nf S D (stpsV ND p t) c=R at ih ed ⊢;have Kv:iA D ⟨i,d,k,s⟩=(decide (s.k≠3) && (decide (s.k≠1) || np D k d.ai 0)):=rfl;have e2:=@Jo S ⟨i,d,k,s⟩;have e1:=@OV S ⟨i,d,k,s⟩;have e0:=@OW S ⟨i,d,k,s⟩;generalize iA D ⟨i,d,k,s⟩=Al at Kv ⊢;generalize yJ S ⟨i,d,k,s⟩=Ex at e2 e1 e0 ⊢;have aU:=hN.fD;have cS:=hN.bare;have oi:=hN.ua;obtain ⟨ag,aS,lo,eC,most,af,es⟩:=d;obtain ⟨sk,sn,ss⟩:=s;simp only at k1 k5 k2 k3 k4 Vm VK Kv e2 e1 e0 aU cS oi dY hx;have bA:=aO es;refine eG 116 [.tmp 8] func73 rfl ntmps73 rfl fun _ _ _ _=>?_;refine iX (bV hd) ?_;refine dI ?_;refine ⟨_,⟨by omega,CO⟩,?_⟩;refine cD Ii yC ?_;refine br ?_ ?_<;>intro g
  rotate_left
  ·exfalso;have g:Kk < 0:=by simpa [lastG] using g
   omega
  refine ⟨_,⟨by omega,CO⟩,?_⟩;refine br ?_ ?_<;>intro c3
  ·have c3:sk=3:=by simpa [lastG,au,QJ] using c3
   rw [if_neg (fun h=>by rw [Kv,c3] at h;simp at h)];exact (rfl:_=_)
  have c3:¬ sk=3:=by
   intro h;rw [h] at c3;simp [lastG,pickB] at c3
  refine dI ?_;refine ⟨_,⟨by omega,by rw [hKt];exact aC hx⟩,?_⟩;refine ⟨⟨by omega,by omega,by omega⟩,?_⟩;rw [<- ht] at ih;refine cD Xi ih ?_ (gF ye);refine br ?_ ?_<;>intro c0
  ·have c0:R=0:=by
    have:((R:Nat):Int)=0:=sU c0;omega
   rw [if_neg (fun h=>h.2 c0)];exact (rfl:_=_)
  have c0:R≠0:=by
   intro h;rw [h] at c0;simp at c0
  have hw1:=wrapN (a:=1) (b:=R) (by omega) (by omega);refine cP vY (gN (1 + R)) ?_ (gF hw1)
  obtain ⟨v,hv,vC⟩:∃ v:Nat,v<=4097/\(sk=2->(cw es)[0]? = some (BZ x)/\S[x.to.toNat]? = some v/\Ex=1 + sn.toNat * v):=by
   have hg:S[t]? = some S[t]:=gE (by omega);refine ⟨S[t],hz _ (List.getElem_mem _),fun h2=>?_⟩;obtain ⟨c5,_⟩:=k2 h2;obtain ⟨gh,_,ht0⟩:=VK (.inl c5);refine ⟨aC (by rw [gh];rfl),by rw [FQ];exact hg,?_⟩;rw [e2 h2,ht0,FQ,List.getD_eq_getElem?_getD,hg];all_goals rfl
  have hnn:sk≠2->sn.toNat=0:=fun h=>by omega
  have hn5:sn.toNat<=1024:=by
   by_cases h:sk=2
   ·have:=k2 h;have:=oi this.1;omega
   ·have:=hnn h;omega
  refine bo (fun j st=>∃ e:Nat,st=Tl a b A B ND z D M S O ⟨ag,aS,lo,eC,most,af,es⟩ (⟨sk,sn,ss⟩ :: p) Kk (aY (1 + R + e * v)) e/\e<=sn.toNat/\j=sn.toNat - e) sn.toNat (Tl a b A B ND z D M S O ⟨ag,aS,lo,eC,most,af,es⟩ (⟨sk,sn,ss⟩ :: p) Kk (aY (1 + R)) 0) (ap 2 rfl wA rfl rfl rfl wB) ⟨0,by rw [Nat.zero_mul];rfl,by omega,by omega⟩ ?_;rintro j st ⟨e,rfl,he,rfl⟩;refine ⟨_,⟨by omega,CO⟩,?_⟩;refine br ?_ ?_<;>intro hL
  ·have aj:e < sn.toNat:=by
    have:(e:Int) < sn:=sU hL;omega
   have vE:sk=2:=Decidable.byContradiction fun h=>by have:=hnn h;omega
   obtain ⟨yH,V6,_⟩:=vC vE;have hcm:=fm (1 + R + e * v);have hw:=wrapN (a:=aY (1 + R + e * v)) (b:=v) (by omega) (by omega);have eE:aY (aY (1 + R + e * v) + v)=aY (1 + R + (e + 1) * v):=by rw [tB,Nat.add_mul,Nat.one_mul,Nat.add_assoc]
   refine dI ?_;refine ⟨_,⟨by omega,yH⟩,?_⟩;refine iX (aD V6) ?_;refine cD vY (gN (aY (1 + R + e * v) + v)) ?_ (gF hw);exact rE ⟨_,by omega,e + 1,rfl,by omega,rfl⟩ (ap 2 rfl (gj (aF aj (by omega)) eE) rfl rfl rfl (wB2 (aF aj (by omega)) eE))
  have aM:e=sn.toNat:=by
   have:¬ (e:Int) < sn:=sU hL;omega
  subst aM;by_cases c7:ag=7
  ·have pv:sk=1:=by omega
   have du:sn.toNat=0:=hnn (by omega);rw [du,Nat.zero_mul,Nat.add_zero];have e1:=e1 pv;refine lI (fun j st=>∃ e:Nat,st=Tm a b A B ND z D M S O ⟨ag,aS,lo,eC,most,af,es⟩ Kk (aY (1 + R + sumE S k (es.take e) 0)) e/\e<=es.length/\np D k (es.take e) 0=true/\j=es.length - e) ⟨0,rfl,by omega,rfl,rfl⟩ (ap 2 rfl wA rfl rfl rfl wB) ?_;rintro j st ⟨e,rfl,he,nj,rfl⟩;refine br ?_ ?_<;>intro hL
   ·have aj:e < es.length:=by
     have:=hL;simp [bA,c7,aq] at this;exact this
    obtain ⟨y,hy⟩:=gX aj
    have Vu:y.bare=false:=by
     cases hb:y.bare with
     | false=>rfl
     | true=>have:=cS y (mG hy) hb;omega
    obtain ⟨u,hu,hul⟩:=(aU y (mG hy)).to1 Vu;obtain ⟨w,VZ⟩:∃ w,S[u]? = some w:=⟨_,gE (by omega)⟩;have hwl:=hz w (mG VZ);have gh:bY S y=w:=by unfold bY;rw [hu,Int.toNat_natCast,List.getD_eq_getElem?_getD,VZ];all_goals rfl
    have eE:=A2 (sz:=S) (k:=k) hy;have RC:=A5 (D:=D) (k:=k) hy;refine br ?_ ?_<;>intro g
    ·have g:e=k:=by
      have:(e:Int)=Kk:=sU g;omega
     have rF:1 + R + sumE S k (es.take e) 0=1 + R + sumE S k (es.take (e + 1)) 0:=by rw [eE,if_pos g,Nat.add_zero]
     exact rE ⟨_,by omega,e + 1,rfl,by omega,by rw [RC,nj];simp [g],rfl⟩ (ap 2 rfl (gj (aF aj (by omega)) (congrArg (fun n:Nat=>((aY n:Nat):Int)) rF)) rfl rfl rfl (wB2 (aF aj (by omega)) (congrArg (fun n:Nat=>((aY n:Nat):Int)) rF)))
    have g:¬ e=k:=by
     intro h;rw [h,<- Ws] at g;simp at g
    refine dI ?_;refine iX (aC hy) ?_;refine ⟨_,⟨by omega,by rw [hu];exact aD VZ⟩,?_⟩;refine br ?_ ?_<;>intro g0
    ·have g0:w=0:=by
      have:((w:Nat):Int)=0:=sU g0;omega
     have uZ:bY D y=0:=(hDS y.to.toNat).1 (by rw [show S.getD y.to.toNat 0=bY S y from rfl,gh,g0])
     rw [if_neg (fun h=>by
      have h:=h.1;rw [Kv,Bool.and_eq_true] at h;have h:=h.2;simp [pv] at h
      exact kH.1 h e y hy (by omega) uZ)]
     exact (rfl:_=_)
    have g0:w≠0:=by
     intro h;rw [h] at g0;simp at g0
    have uZ:bY D y≠0:=fun h=>g0 (by rw [<- gh];exact (hDS y.to.toNat).2 h);have hcm:=fm (1 + R + sumE S k (es.take e) 0);have hw:=wrapN (a:=aY (1 + R + sumE S k (es.take e) 0)) (b:=w) (by omega) (by omega);have rF:aY (aY (1 + R + sumE S k (es.take e) 0) + w)=aY (1 + R + sumE S k (es.take (e + 1)) 0):=by rw [tB,eE,if_neg g,gh,Nat.add_assoc]
    refine dI ?_;refine iX (aC hy) ?_;refine ⟨_,⟨by omega,by rw [hu];exact aD VZ⟩,?_⟩;refine cD vY (gN (aY (1 + R + sumE S k (es.take e) 0) + w)) ?_ (gF hw);exact rE ⟨_,by omega,e + 1,rfl,by omega,by rw [RC,nj];simp [uZ],rfl⟩ (ap 2 rfl (gj (aF aj (by omega)) rF) rfl rfl rfl (wB2 (aF aj (by omega)) rF))
   ·have aM:e=es.length:=by
     have:=hL;simp [bA,c7,aq] at this;omega
    subst aM;rw [List.take_length] at nj ⊢;have hAt:Al=true:=by rw [Kv];simp [pv,nj]
    rw [if_pos ⟨hAt,c0⟩,e1,show R + (1 + sumE S k es 0)=1 + R + sumE S k es 0 by omega];exact (rfl:_=_)
  ·have pv:¬ sk=1:=by omega
   have hAt:Al=true:=by rw [Kv];simp [pv,c3]
   have VY:R + Ex=1 + R + sn.toNat * v:=by
    by_cases h2:sk=2
    ·have:=(vC h2).2.2;omega
    ·rw [e0 h2 pv,hnn h2,Nat.zero_mul];omega
   rw [if_pos ⟨hAt,c0⟩,VY];refine lI (fun j st=>st=Tm a b A B ND z D M S O ⟨ag,aS,lo,eC,most,af,es⟩ Kk (aY (1 + R + sn.toNat * v)) 0/\j=0) ⟨rfl,rfl⟩ (ap 2 rfl wA rfl rfl rfl wB) ?_;rintro j st ⟨rfl,rfl⟩;refine br ?_ ?_<;>intro hL
   ·exfalso;simp [c7,aq] at hL
   ·exact (rfl:_=_)
end
theorem yu {S:List Nat} (e:Ed):sumX S (-1) [e] 0 1=aY (1 + cE S e):=by simp [sumX]
theorem O0 {es:List Ed} {k:Nat} {e:Ed} (h:es[k]? = some e):((cw es).take (k + 1)).drop k=cw [e]:=by
 have hl:=(gS h).1;unfold cw;rw [<- List.map_take,<- List.map_drop,dn h,List.drop_append_of_le_length (by rw [List.length_take];omega),List.drop_of_length_le (by rw [List.length_take];omega)];rfl
theorem O1 {es:List Ed} {c:Nat} {x:Ed} (h:es[c]? = some x) (hl:es.length<=1099511627776):DV.sl 10 (((cw es).take (IntKind.i64.wrap ((c:Int) + 1)).toNat).drop (c:Int).toNat) none=DV.sl 10 (cw [x]) none:=by
 have eD:=(gS h).1;rw [aF eD (by omega),Int.toNat_natCast,Int.toNat_natCast,O0 h]
section
variable (a b:Nat) (A B:List (List DV)) (ND:List Nd) (z:Int) (D M S O:List Nat) (K:List Bool) {L:Nat}
theorem Fv {n:Nd} (hD:D.length=ND.length) (hS:S.length=ND.length) (hz:∀ z∈S,z<=4097) (hn:cz L ND.length n) (dY:n.ai.length<=1099511627776) (h8:n.ag=8->∃ c e,bu D n.ai=some c/\n.ai[c]? = some e) :
  aQ prog 65 [.agg (yK a b A B ND z D M S O),.agg (gv n)] (.v (.int .i64 (sizeF S D n:Nat))):=by
 have Tn:=mX a b A B ND z D M S O (-1) hD hn dY;rw [om] at Tn;have CI:=mW a b A B ND z D M S O n.ai (-1) hS hz hn.fD dY;have aU:=hn.fD;obtain ⟨ag,aS,lo,hi,most,af,es⟩:=n;simp only at aU dY Tn CI h8;refine eG 27 [.tmp 4] func65 rfl ntmps65 rfl fun _ _ _ _=>?_;refine br ?_ ?_<;>intro c7
 ·have c7:ag=7:=sU c7;rw [show sizeF S D ⟨ag,aS,lo,hi,most,af,es⟩=sumX S (-1) es 0 1 by simp [sizeF,c7]];refine cP Dq CI ?_;exact (rfl:_=_)
 have c7:¬ ag=7:=sU c7;refine br ?_ ?_<;>intro c8
 ·have c8:ag=8:=sU c8;obtain ⟨c,x,hc,hx⟩:=h8 c8;rw [hc] at Tn;have pv:=mW a b A B ND z D M S O [x] (-1) hS hz (fun e he=>by rw [List.mem_singleton.1 he];exact aU x (mG hx)) (by simp);rw [yu] at pv;rw [show sizeF S D ⟨ag,aS,lo,hi,most,af,es⟩=aY (1 + cE S x) by simp [sizeF,c8,hc,hx]];refine cP P7 Tn ?_;have eD:=(gS hx).1;have hw:=aF eD (by omega);have zt:=O1 hx dY;refine dI ?_;refine ⟨⟨Int.natCast_nonneg _,by show (c:Int)<=IntKind.i64.wrap ((c:Int) + 1);rw [hw];omega,by show IntKind.i64.wrap ((c:Int) + 1)<=((cw es).length:Int);rw [hw,aO];omega⟩,?_⟩;refine cD Dq pv ?_ (gF zt);exact (rfl:_=_)
 ·have c8:¬ ag=8:=sU c8;rw [show sizeF S D ⟨ag,aS,lo,hi,most,af,es⟩=1 by simp [sizeF,c7,c8]];exact (rfl:_=_)
abbrev VL (n:Nd) (e:Nat):St:=
 ⟨[(2,⟨[],.loc 0 0⟩),(3,⟨[],.loc 1 0⟩),(5,⟨[],.v (.int .i64 e)⟩)],[yK a b A B ND z D M S O,gv n],[]⟩
theorem CJ {n:Nd} (hM:M.length=ND.length) (hK:∀ j,j < ND.length->K.getD j false=decide (1 < M.getD j 0)) (hn:cz L ND.length n) (h7:n.ag=7) (dY:n.ai.length<=1099511627776) :
  aQ prog 84 [.agg (yK a b A B ND z D M S O),.agg (gv n)] (.v (.int .i64 (oz (x6 K n.ai)))):=by
 have aU:=hn.fD;have cS:=hn.bare;obtain ⟨ag,aS,lo,hi,most,af,es⟩:=n;simp only at aU dY h7 cS;have bA:=aO es;refine eG 25 [.tmp 4] func84 rfl ntmps84 rfl fun _ _ _ _=>?_;refine lI (fun j st=>∃ e:Nat,st=VL a b A B ND z D M S O ⟨ag,aS,lo,hi,most,af,es⟩ e/\e<=es.length/\(∀ k,k < e->EO K es k=false)/\j=es.length - e) ⟨0,rfl,by omega,fun _ h=>by omega,rfl⟩ (ap 2 rfl wA rfl rfl rfl wB) ?_;rintro j st ⟨e,rfl,he,hB,rfl⟩;refine br ?_ ?_<;>intro hL
 ·have aj:e < es.length:=sV bA hL;obtain ⟨x,hx⟩:=gX aj
  have nv:x.bare=false:=by
   cases hb:x.bare with
   | false=>rfl
   | true=>have:=cS x (mG hx) hb;omega
  obtain ⟨k,hk,ee⟩:=(aU x (mG hx)).to1 nv;obtain ⟨v,hv⟩:∃ z,M[k]? = some z:=⟨_,gE (by omega)⟩;have hP:EO K es e=decide (1 < v):=by unfold EO;rw [hx];simp only;rw [hk,Int.toNat_natCast,hK k ee,List.getD_eq_getElem?_getD,hv];all_goals rfl
  refine jl mo (by decide +kernel) ?_;refine ⟨_,⟨Int.natCast_nonneg _,aC hx⟩,?_⟩;refine ⟨_,⟨by rw [hk];exact Int.natCast_nonneg _,by rw [hk];exact aD hv⟩,?_⟩;refine br ?_ ?_<;>intro g
  ·have g:(1:Int) < v:=sU g;rw [show x6 K es=some e from bq aj (hP.trans (decide_eq_true (by omega))) hB];exact (rfl:_=_)
  ·have g:¬ (1:Int) < v:=sU g
   exact rE ⟨_,by omega,e + 1,rfl,by omega,fun k hk=>by
    rcases Nat.lt_succ_iff_lt_or_eq.1 hk with h1 | rfl
    ·exact hB k h1
    ·exact hP.trans (decide_eq_false (by omega)),rfl⟩ (ap 2 rfl (na (aF aj (by omega))) rfl rfl rfl (cX (aF aj (by omega))))
 ·have aM:e=es.length:=sW bA hL;subst aM;rw [show x6 K es=none from bK hB];exact (rfl:_=_)
theorem CK {n:Nd} (hD:D.length=ND.length) (hM:M.length=ND.length) (hK:∀ j,j < ND.length->K.getD j false=decide (1 < M.getD j 0)) (hS:S.length=ND.length) (hO:O.length=ND.length) (hz:∀ z∈S,z<=4097) (hoz:∀ z∈O,z<=4097) (hn:cz L ND.length n) (dY:n.ai.length<=1099511627776) (hc8:n.ag=8->∃ c,bu D n.ai=some c) (ON:EV D K n) :
  aQ prog 66 [.agg (yK a b A B ND z D M S O),.agg (gv n)] (.v (.int .i64 (othE O (eB S D K n):Nat))):=by
 have Tn:=mX a b A B ND z D M S O (-1) hD hn dY;have O2:=fun b'=>mX a b A B ND z D M S O b' hD hn dY;rw [om] at Tn;have JB:=fun h=>CJ a b A B ND z D M S O K hM hK hn h dY;have CI:=fun c=>mW a b A B ND z D M S O n.ai c hS hz hn.fD dY;have aU:=hn.fD;have cj:=hn.one;have jG:=hn.k1;have Hr:=hn.k8;have h7:=ON.c7;have h8:=ON.c8;obtain ⟨ag,aS,lo,hi,most,af,es⟩:=n;simp only at aU dY Tn O2 CI h7 h8 JB cj jG Hr hc8
 have nr:∀ {x:Ed},x∈es->x.bare=false->∃ z,(dInts O)[x.to.toNat]? = some [.v (.int .i64 (z:Nat))]/\0<=x.to/\O.getD x.to.toNat 0=z/\z<=4097:=fun {x} hx hb=>by
  obtain ⟨k,hk,ee⟩:=(aU x hx).to1 hb;have hg:O[k]? = some O[k]:=gE (by omega);refine ⟨O[k],by rw [hk];exact aD hg,by omega,by rw [hk,Int.toNat_natCast,List.getD_eq_getElem?_getD,hg];rfl,hoz _ (mG hg)⟩
 have hE:∀ a j z,O.getD j 0=z->othE O (a,some j)=if z=0 then 0 else aY (a + z):=fun a j z h=>by unfold othE;simp only [h]
 refine eG 70 [.tmp 4] func66 rfl ntmps66 rfl fun _ _ _ _=>?_;refine br ?_ ?_<;>intro c5
 ·have c5:ag < 5:=sU c5;rw [show eB S D K ⟨ag,aS,lo,hi,most,af,es⟩=(1,none) by unfold eB;simp only;rw [if_neg (by omega),if_neg (by omega),if_neg (by omega)]];exact (rfl:_=_)
 have c5:¬ ag < 5:=sU c5;refine br ?_ ?_<;>intro c6
 ·have c6:ag < 7:=sU c6;obtain ⟨x,hx,_⟩:=cj (by omega);subst hx;have CI:=CI (-1);rw [yu] at CI;rw [show eB S D K ⟨ag,aS,lo,hi,most,af,[x]⟩=(aY (1 + cE S x),none) by unfold eB;simp only;rw [if_pos (by omega)];rfl];refine cP Dq CI ?_;exact (rfl:_=_)
 have c6:¬ ag < 7:=sU c6;refine cP P7 Tn ?_;refine br ?_ ?_<;>intro c7
 ·have c7:ag=7:=sU c7;subst c7;obtain ⟨c,x,hc,hx,nv⟩:=h7 rfl;have JB:=JB rfl;rw [hc] at JB;have nu:=mO (sz:=S) (c:=c) (es:=es) (i:=0) (n:=1) (by omega);have hF:eB S D K ⟨7,aS,lo,hi,most,af,es⟩=(sumX S c es 0 1,some x.to.toNat):=by simp [eB,hc,hx]
  obtain ⟨z,hz1,GU,Lo,hz4⟩:=nr (mG hx) nv;rw [hF,hE _ _ _ Lo];have aap:=CI (c:Int);refine cP en84 JB ?_;refine jl mo (by decide +kernel) ?_;refine ⟨_,⟨Int.natCast_nonneg _,aC hx⟩,?_⟩;refine ⟨_,⟨GU,hz1⟩,?_⟩;refine br ?_ ?_<;>intro g
  ·have g:z=0:=sU g;rw [if_pos g];exact (rfl:_=_)
  ·have g:¬ z=0:=sU g;rw [if_neg g];refine cP Dq aap ?_;refine cP vY (gN (sumX S c es 0 1 + z)) ?_ (by repeat' (first | exact rfl | exact trivial | exact Or.inr (Or.inl ⟨_,rfl⟩) | exact Or.inr ⟨_,rfl⟩ | exact Or.inl ⟨rfl,rfl⟩ | exact Or.inl rfl | refine Or.inr ⟨_,_,rfl,Nat.zero_le _,rfl,?_⟩ | refine ⟨_,_,rfl,?_,?_⟩ | refine ⟨_,rfl,?_⟩ | exact congrArg (fun z=>DV.v (.int .i64 z)) (wrapN (by omega) (by omega))| refine Or.inr (Or.inr (Or.inr ⟨_,_,rfl,?_⟩)) | exact Or.inl rfl | refine Or.inr ?_));exact (rfl:_=_)
 ·have c7:¬ ag=7:=sU c7;have c8:ag=8:=by omega
  subst c8;obtain ⟨c,hc⟩:=hc8 rfl;have O2:=O2 (c:Int);rw [KZ hc] at O2;rw [hc];refine cP P7 O2 ?_
  cases ht:la D es with
  | some k=>
   obtain ⟨x,hx,_⟩:=tq ht;have pv:=mW a b A B ND z D M S O [x] (-1) hS hz (fun e he=>by rw [List.mem_singleton.1 he];exact aU x (mG hx)) (by simp);rw [yu] at pv;rw [show eB S D K ⟨8,aS,lo,hi,most,af,es⟩=(aY (1 + cE S x),none) by simp [eB,ht,hx],show othE O (aY (1 + cE S x),none)=aY (1 + cE S x) from rfl];have eD:=(gS hx).1;have hw:=aF eD (by omega);have zt:=O1 hx dY;refine dI ?_;refine ⟨⟨Int.natCast_nonneg _,by show (k:Int)<=IntKind.i64.wrap ((k:Int) + 1);rw [hw];omega,by show IntKind.i64.wrap ((k:Int) + 1)<=((cw es).length:Int);rw [hw,aO];omega⟩,?_⟩;refine cD Dq pv ?_ (gF zt);exact (rfl:_=_)
  | none=>
   obtain ⟨c',x,C4,hx,nv⟩:=h8 rfl ht;rw [hc] at C4;cases C4;obtain ⟨z,hz1,GU,Lo,hz4⟩:=nr (mG hx) nv;rw [show eB S D K ⟨8,aS,lo,hi,most,af,es⟩=(1,some x.to.toNat) by simp [eB,ht,hc,hx],hE _ _ _ Lo];refine jl mo (by decide +kernel) ?_;refine ⟨_,⟨Int.natCast_nonneg _,aC hx⟩,?_⟩;refine ⟨_,⟨GU,hz1⟩,?_⟩;refine br ?_ ?_<;>intro g
   ·have g:z=0:=sU g;rw [if_pos g];exact (rfl:_=_)
   ·have g:¬ z=0:=sU g;rw [if_neg g];refine cP vY (gN (1 + z)) ?_ (gF (wrapN (a:=1) (by omega) (by omega)));exact (rfl:_=_)
end
end Go.Proofs.YtadhpeooehkklaaGreat
set_option maxRecDepth 100000
namespace Go.Proofs.YtadhpeooehkklaaGreat
open Go Go.RowKit
namespace Dv
section
variable {X:Ctx} {st:St}
def renAll:List (Nat × Nat)->St->St
 | [],S=>S
 | p :: l,S=>dJ p.1 p.2 (renAll l S)
theorem K0 (i j:Nat) (S:St):(dJ i j S).bx.length=S.bx.length:=by
 show (swL i j (renO (swp i j) S.bx)).length=_;unfold swL;split
 ·rw [List.length_set,List.length_set,cI]
 ·exact cI _ _
theorem qf (S:St):∀ l,(renAll l S).bx.length=S.bx.length
 | []=>rfl
 | p :: l=>by rw [renAll,K0,qf S l]
theorem Jp (hX:X.bt=[]) {S:St} {a:Act} {w:World}:∀ {l:List (Nat × Nat)} {E:En},Rel X E (renAll l S) a w->(l.all fun p=>Nat.ble X.n0 p.1 && Nat.ble X.n0 p.2 && Nat.blt p.1 S.bx.length && Nat.blt p.2 S.bx.length)=true->∃ E2,Rel X E2 S a w
 | [],E,h,_=>⟨E,h⟩
 | p :: l,E,h,hc=>by
  simp only [List.all_cons,Bool.and_eq_true,Nat.ble_eq,Nat.blt_eq] at hc;obtain ⟨⟨⟨⟨h1,h2⟩,h3⟩,h4⟩,h5⟩:=hc;obtain ⟨E2,h6⟩:=uY hX h h1 h2 (by rw [qf];exact h3) (by rw [qf];exact h4);exact Jp hX h6 (sU h5)
theorem RD {id:Nat} {ops:Array Oper} {k:List It} (W:Nat->Bool) (T:kF) (Ls:List (List (Nat × Nat))) (hm:X.P.follows .mixedOrders=true) (hc:(KO ops && Cv ops W && chkA ops T (List.range ops.size) none)=true) (S:St)
  (h:goA X ⟨ops,W,[.rM fun s=>s=S∨∃ l,l∈Ls/\cJ s (renAll l S)],st,none⟩ T true st.sl st) (hL:(Ls.all fun l=>l.all fun p=>Nat.ble X.n0 p.1 && Nat.ble X.n0 p.2 && Nat.blt p.1 S.bx.length && Nat.blt p.2 S.bx.length)=true) (hk:go X 4000 k S) (hX:X.bt=[]:=by exact rfl):ly X id ops k st:=by
 intro E a w hr;have hY:=jo hr;simp only [Bool.and_eq_true] at hc;obtain ⟨⟨hN,hP⟩,hT⟩:=hc;simp only [KO,Bool.and_eq_true,List.all_eq_true,List.mem_range] at hN;have hs:=km hY (ops:=ops) (W:=W) (k:=[.rM fun s=>s=S∨∃ l,l∈Ls/\cJ s (renAll l S)]);have cm:=AV (D:=⟨⟨ops,W,[.rM fun s=>s=S∨∃ l,l∈Ls/\cJ s (renAll l S)],st,none⟩,E,w.drew⟩) hY.env.em rfl T _ _ hT true st.sl st h E a w.drew hs;refine wp_region_any hm ?_;refine EZ (C:=CC E st.bx w.drew) (Q:=kq X [.rM fun s=>s=S∨∃ l,l∈Ls/\cJ s (renAll l S)] .normal) (Region.noSelect_spec hN.1) hP (fun i o ho e he hb=>?_) (fun a w hq=>?_) ops.size (Array.replicate ops.size false) (List.range ops.size) a _ (by simp) ?_ List.nodup_range ?_ (by simp) ⟨T,hT,cm⟩
 ·have h1:=hN.2 i (Array.getElem?_eq_some_iff.1 ho).1;rw [ho] at h1;have h2:=List.all_eq_true.1 h1 e (sU he);rw [hb] at h2;simpa using h2
 ·obtain ⟨qj,E1,bZ,hJ⟩:=hq;rcases hJ with rfl | ⟨l,hl,hJ⟩
  ·exact go_sound 4000 _ _ hk E1 a w bZ
  ·obtain ⟨E2,nG⟩:=Jp hX (nH bZ hJ) (List.all_eq_true.1 hL l hl);exact go_sound 4000 _ _ hk E2 a w nG
 ·intro i;simp only [List.mem_range];constructor
  ·intro hi;exact ⟨hi,by simp [hi]⟩
  ·intro hi;exact hi.1
 ·intro k o ho hk;exact (hk (List.mem_range.2 (Array.getElem?_eq_some_iff.1 ho).1)).elim
theorem O3 {id:Nat} {ops:Array Oper} {k:List It} (T:kF) (Ls:List (List (Nat × Nat))) (hm:X.P.follows .mixedOrders=true) (hc:(KO ops && Cv ops (LW ops) && chkA ops T (List.range ops.size) none)=true) (S:St)
  (h:goA X ⟨ops,LW ops,[.rM fun s=>s=S∨∃ l,l∈Ls/\cJ s (renAll l S)],st,none⟩ T true st.sl st) (hL:(Ls.all fun l=>l.all fun p=>Nat.ble X.n0 p.1 && Nat.ble X.n0 p.2 && Nat.blt p.1 S.bx.length && Nat.blt p.2 S.bx.length)=true) (hk:go X 4000 k S) (hX:X.bt=[]:=by exact rfl):ly X id ops k st:=
 RD (LW ops) T Ls hm hc S h hL hk hX
end
end Dv
end Go.Proofs.YtadhpeooehkklaaGreat
set_option maxRecDepth 100000
namespace Go.Proofs.YtadhpeooehkklaaGreat
open Go Go.RowKit Dv Go.Proofs.Tryz
theorem jO {a b c d e a' b' c' d' e':List DV} (h1:a=a') (h2:b=b') (h3:c=c') (h4:d=d') (h5:e=e') : [a,b,c,d,e]=[a',b',c',d',e']:=by rw [h1,h2,h3,h4,h5]
theorem ib (f:Nat->Nat) (n:Nat):(List.replicate n (vL [Value.int .i64 0])).flatten=renL f (List.replicate n (vL [Value.int .i64 0])).flatten:=(vm f n).symm
theorem l5 (f g:Nat->Nat) (n:Nat):(List.replicate n (vL [Value.int .i64 0])).flatten=renL f (renL g (List.replicate n (vL [Value.int .i64 0])).flatten):=by rw [vm,vm]
section
variable (a b:Nat) (A B:List (List DV)) (ND:List Nd) (z:Int)
abbrev mkW (D M:List Nat):List DV:=[.sl a A none,.sl b B none,.sl 7 (bh ND) none,.v (.int .i64 z),.sl 1 (dInts D) none,.sl 1 (dInts M) none,.ms 2 1 0 (bh ND).length (bh ND).length,.ms 3 1 0 (bh ND).length (bh ND).length]
abbrev z54:List DV:=[.v (.slice none 0 0),.v (.slice none 0 0),.v (.slice none 0 0),.v (.int .i64 0),.v (.slice none 0 0),.v (.slice none 0 0),.v (.slice none 0 0),.v (.slice none 0 0)]
theorem O4 {D M t o:List Nat} {bx:List (List DV)} (ht:t.length=ND.length) (ho:o.length=ND.length) (h1:bx[2]? = some (cN t)) (h2:bx[3]? = some (cN o)):CcL bx 0 0 0 (yK a b A B ND z D M t o) (mkW a b A B ND z D M):=
 ⟨_,_,rfl,ax,_,_,rfl,ax,_,_,rfl,ax,_,_,rfl,ax,_,_,rfl,ax,_,_,rfl,ax,_,_,rfl,Cm (ht.trans (cp ND).symm) (Nat.zero_le _) h1,_,_,rfl,Cm (ho.trans (cp ND).symm) (Nat.zero_le _) h2,rfl⟩
abbrev aar (D M:List Nat) (d:Nat) (t o:List Nat):St:=
 ⟨[(1,⟨[],.loc 0 0⟩),(2,⟨[],.loc 1 0⟩),(3,⟨[],.loc 4 0⟩),(4,⟨[],.v (.int .i64 d)⟩)],[wG a b A B ND z,z54,cN t,cN o,mkW a b A B ND z D M],[]⟩
abbrev aas (D M:List Nat) (d:Nat) (t o:List Nat) (e:Nat):St:=
 ⟨[(1,⟨[],.loc 0 0⟩),(2,⟨[],.loc 1 0⟩),(3,⟨[],.loc 4 0⟩),(4,⟨[],.v (.int .i64 d)⟩),(5,⟨[],.v (.int .i64 e)⟩)],[wG a b A B ND z,z54,cN t,cN o,mkW a b A B ND z D M],[]⟩
abbrev aat (D M:List Nat) (d:Nat) (t o:List Nat):St:=
 ⟨[(1,⟨[],.loc 0 0⟩),(2,⟨[],.loc 1 0⟩),(3,⟨[],.loc 4 0⟩),(6,⟨[],.v (.int .i64 d)⟩)],[wG a b A B ND z,z54,cN t,cN o,mkW a b A B ND z D M],[]⟩
abbrev aau (D M:List Nat) (d:Nat) (t o:List Nat) (e:Nat):St:=
 ⟨[(1,⟨[],.loc 0 0⟩),(2,⟨[],.loc 1 0⟩),(3,⟨[],.loc 4 0⟩),(6,⟨[],.v (.int .i64 d)⟩),(7,⟨[],.v (.int .i64 e)⟩)],[wG a b A B ND z,z54,cN t,cN o,mkW a b A B ND z D M],[]⟩
set_option maxHeartbeats 4000000 in
theorem Fw {L:Nat} (bm:∀ n∈ND,cz L ND.length n) (fc:ND.length<=1099511627776) (bL:∀ n∈ND,n.ai.length<=1099511627776) (du:∀ n∈ND,n.af.length<=1099511627776) :
  aQ prog 23 [.agg (wG a b A B ND z)] (.agg (yK a b A B ND z (depN ND ND.length) (qL (depN ND ND.length) (eX ND (depN ND ND.length))) (jW ND (depN ND ND.length)) (Pq (jW ND (depN ND ND.length)) (depN ND ND.length) (eX ND (depN ND ND.length)) ND))):=by
 have lE:=pk a b A B z bm fc bL;have jv:=EM a b A B z bm fc bL du;have bA:=cp ND;generalize hD:depN ND ND.length=D at lE jv ⊢;have hO:gB ND D:=hD ▸ fK ND
 have eL:∀ j,D.getD j 0=match ND[j]? with | none=>0 | some n=>aW n D:=fun j=>by
  have:=depN_get ND ND.length j;rw [depN_end,hD] at this;exact this
 have hKM:=Vt (D:=D) bm eL;have hlM:(qL D (eX ND D)).length=ND.length:=by rw [N6];exact hO.len
 have Wo:=hO.len
 have OE:∀ i n,ND[i]? = some n->(eX ND D).getD i false=true->EV D (eX ND D) n/\0 < D.getD i 0:=fun i n hn h=>by
  rw [<- od,List.getD_eq_getElem?_getD,List.getElem?_map,hn] at h;exact ⟨yg (bm n (mG hn)) h,by rw [hO.get i n hn];exact x4 (bm n (mG hn)) h⟩
 generalize hM:qL D (eX ND D)=M at jv hKM hlM ⊢;generalize hR:DV.agg (yK a b A B ND z D M (jW ND D) (Pq (jW ND D) D (eX ND D) ND))=R;refine eG 86 [.cell 2 71] func23 rfl ntmps23 rfl fun _ _ _ _=>?_;have h1:(0:Int)<=((bh ND).length:Int):=by omega
 have h2:(8:Int) * ((bh ND).length:Int)<=281474976710656:=by omega
 have h3:((bh ND).length:Int)<=4611686018427387904:=by omega
 apply O3 (.op 0 (.op 1 (.op 3 (.op 5 (.op 6 (.op 7 (.op 9 (.op 10 (.op 11 (.ev 2 (.ev 4 (.ev 8 (.ev 12 (.op 13 (.ev 14 (.ev 15 .fin .stop) .stop)) (.ev 14 (.ev 12 (.op 13 (.ev 15 .fin .stop)) .stop) .stop)) (.ev 12 (.ev 8 (.op 13 (.ev 14 (.ev 15 .fin .stop) .stop)) (.ev 14 (.ev 8 (.op 13 (.ev 15 .fin .stop)) .stop) .stop)) (.ev 14 (.ev 8 (.ev 12 (.op 13 (.ev 15 .fin .stop)) .stop) (.ev 12 (.ev 8 (.op 13 (.ev 15 .fin .stop)) .stop) .stop)) .stop))) (.ev 8 (.ev 4 (.ev 12 (.op 13 (.ev 14 (.ev 15 .fin .stop) .stop)) (.ev 14 (.ev 12 (.op 13 (.ev 15 .fin .stop)) .stop) .stop)) (.ev 12 (.ev 4 (.op 13 (.ev 14 (.ev 15 .fin .stop) .stop)) (.ev 14 (.ev 4 (.op 13 (.ev 15 .fin .stop)) .stop) .stop)) (.ev 14 (.ev 4 (.ev 12 (.op 13 (.ev 15 .fin .stop)) .stop) (.ev 12 (.ev 4 (.op 13 (.ev 15 .fin .stop)) .stop) .stop)) .stop))) (.ev 12 (.ev 4 (.ev 8 (.op 13 (.ev 14 (.ev 15 .fin .stop) .stop)) (.ev 14 (.ev 8 (.op 13 (.ev 15 .fin .stop)) .stop) .stop)) (.ev 8 (.ev 4 (.op 13 (.ev 14 (.ev 15 .fin .stop) .stop)) (.ev 14 (.ev 4 (.op 13 (.ev 15 .fin .stop)) .stop) .stop)) (.ev 14 (.ev 4 (.ev 8 (.op 13 (.ev 15 .fin .stop)) .stop) (.ev 8 (.ev 4 (.op 13 (.ev 15 .fin .stop)) .stop) .stop)) .stop))) (.ev 14 (.ev 4 (.ev 8 (.ev 12 (.op 13 (.ev 15 .fin .stop)) .stop) (.ev 12 (.ev 8 (.op 13 (.ev 15 .fin .stop)) .stop) .stop)) (.ev 8 (.ev 4 (.ev 12 (.op 13 (.ev 15 .fin .stop)) .stop) (.ev 12 (.ev 4 (.op 13 (.ev 15 .fin .stop)) .stop) .stop)) (.ev 12 (.ev 4 (.ev 8 (.op 13 (.ev 15 .fin .stop)) .stop) (.ev 8 (.ev 4 (.op 13 (.ev 15 .fin .stop)) .stop) .stop)) .stop))) .stop)))) (.ev 8 (.ev 2 (.ev 4 (.ev 12 (.op 13 (.ev 14 (.ev 15 .fin .stop) .stop)) (.ev 14 (.ev 12 (.op 13 (.ev 15 .fin .stop)) .stop) .stop)) (.ev 12 (.ev 4 (.op 13 (.ev 14 (.ev 15 .fin .stop) .stop)) (.ev 14 (.ev 4 (.op 13 (.ev 15 .fin .stop)) .stop) .stop)) (.ev 14 (.ev 4 (.ev 12 (.op 13 (.ev 15 .fin .stop)) .stop) (.ev 12 (.ev 4 (.op 13 (.ev 15 .fin .stop)) .stop) .stop)) .stop))) (.ev 12 (.ev 2 (.ev 4 (.op 13 (.ev 14 (.ev 15 .fin .stop) .stop)) (.ev 14 (.ev 4 (.op 13 (.ev 15 .fin .stop)) .stop) .stop)) (.ev 14 (.ev 2 (.ev 4 (.op 13 (.ev 15 .fin .stop)) .stop) .stop) .stop)) (.ev 14 (.ev 2 (.ev 4 (.ev 12 (.op 13 (.ev 15 .fin .stop)) .stop) (.ev 12 (.ev 4 (.op 13 (.ev 15 .fin .stop)) .stop) .stop)) (.ev 12 (.ev 2 (.ev 4 (.op 13 (.ev 15 .fin .stop)) .stop) .stop) .stop)) .stop))) (.ev 12 (.ev 2 (.ev 4 (.ev 8 (.op 13 (.ev 14 (.ev 15 .fin .stop) .stop)) (.ev 14 (.ev 8 (.op 13 (.ev 15 .fin .stop)) .stop) .stop)) (.ev 8 (.ev 4 (.op 13 (.ev 14 (.ev 15 .fin .stop) .stop)) (.ev 14 (.ev 4 (.op 13 (.ev 15 .fin .stop)) .stop) .stop)) (.ev 14 (.ev 4 (.ev 8 (.op 13 (.ev 15 .fin .stop)) .stop) (.ev 8 (.ev 4 (.op 13 (.ev 15 .fin .stop)) .stop) .stop)) .stop))) (.ev 8 (.ev 2 (.ev 4 (.op 13 (.ev 14 (.ev 15 .fin .stop) .stop)) (.ev 14 (.ev 4 (.op 13 (.ev 15 .fin .stop)) .stop) .stop)) (.ev 14 (.ev 2 (.ev 4 (.op 13 (.ev 15 .fin .stop)) .stop) .stop) .stop)) (.ev 14 (.ev 2 (.ev 4 (.ev 8 (.op 13 (.ev 15 .fin .stop)) .stop) (.ev 8 (.ev 4 (.op 13 (.ev 15 .fin .stop)) .stop) .stop)) (.ev 8 (.ev 2 (.ev 4 (.op 13 (.ev 15 .fin .stop)) .stop) .stop) .stop)) .stop))) (.ev 14 (.ev 2 (.ev 4 (.ev 8 (.ev 12 (.op 13 (.ev 15 .fin .stop)) .stop) (.ev 12 (.ev 8 (.op 13 (.ev 15 .fin .stop)) .stop) .stop)) (.ev 8 (.ev 4 (.ev 12 (.op 13 (.ev 15 .fin .stop)) .stop) (.ev 12 (.ev 4 (.op 13 (.ev 15 .fin .stop)) .stop) .stop)) (.ev 12 (.ev 4 (.ev 8 (.op 13 (.ev 15 .fin .stop)) .stop) (.ev 8 (.ev 4 (.op 13 (.ev 15 .fin .stop)) .stop) .stop)) .stop))) (.ev 8 (.ev 2 (.ev 4 (.ev 12 (.op 13 (.ev 15 .fin .stop)) .stop) (.ev 12 (.ev 4 (.op 13 (.ev 15 .fin .stop)) .stop) .stop)) (.ev 12 (.ev 2 (.ev 4 (.op 13 (.ev 15 .fin .stop)) .stop) .stop) .stop)) (.ev 12 (.ev 2 (.ev 4 (.ev 8 (.op 13 (.ev 15 .fin .stop)) .stop) (.ev 8 (.ev 4 (.op 13 (.ev 15 .fin .stop)) .stop) .stop)) (.ev 8 (.ev 2 (.ev 4 (.op 13 (.ev 15 .fin .stop)) .stop) .stop) .stop)) .stop))) .stop))))))))))))) [[],[(3,4)],[(2,3)],[(2,3),(2,4)],[(2,3),(3,4)],[(2,4)]] mo (by decide +kernel);·exact ⟨aE nI lE ax rfl ⟨aE dy jv ax rfl ⟨⟨⟨rfl,h1,h2,h3⟩,⟨⟨⟨rfl,h1,h2,h3⟩,⟨⟨Or.inl rfl,trivial⟩,trivial⟩⟩,⟨⟨⟨⟨rfl,h1,h2,h3⟩,⟨Or.inr ⟨_,.tail _ (.head _),jO rfl rfl (ib _ _) rfl (ib _ _),rfl,⟨rfl,rfl,rfl,rfl,rfl,rfl,rfl,rfl,rfl,rfl,rfl,rfl,rfl,rfl,rfl,rfl,rfl,rfl,trivial⟩⟩,trivial⟩⟩,trivial⟩,trivial⟩⟩⟩,⟨⟨⟨rfl,h1,h2,h3⟩,⟨⟨⟨rfl,h1,h2,h3⟩,⟨⟨Or.inr ⟨_,.tail _ (.tail _ (.head _)),jO rfl rfl (ib _ _) (ib _ _) rfl,rfl,⟨rfl,rfl,rfl,rfl,rfl,rfl,rfl,rfl,rfl,rfl,rfl,rfl,rfl,rfl,rfl,rfl,rfl,rfl,trivial⟩⟩,trivial⟩,trivial⟩⟩,⟨⟨⟨⟨rfl,h1,h2,h3⟩,⟨Or.inr ⟨_,.tail _ (.tail _ (.tail _ (.head _))),jO rfl rfl (l5 _ _ _) rfl (l5 _ _ _),rfl,⟨rfl,rfl,rfl,rfl,rfl,rfl,rfl,rfl,rfl,rfl,rfl,rfl,rfl,rfl,rfl,rfl,rfl,rfl,trivial⟩⟩,trivial⟩⟩,trivial⟩,trivial⟩⟩⟩,⟨⟨⟨⟨rfl,h1,h2,h3⟩,⟨⟨⟨rfl,h1,h2,h3⟩,⟨Or.inr ⟨_,.tail _ (.tail _ (.tail _ (.tail _ (.head _)))),jO rfl rfl rfl (l5 _ _ _) (l5 _ _ _),rfl,⟨rfl,rfl,rfl,rfl,rfl,rfl,rfl,rfl,rfl,rfl,rfl,rfl,rfl,rfl,rfl,rfl,rfl,rfl,trivial⟩⟩,trivial⟩⟩,trivial⟩⟩,⟨⟨⟨rfl,h1,h2,h3⟩,⟨⟨⟨rfl,h1,h2,h3⟩,⟨Or.inr ⟨_,.tail _ (.tail _ (.tail _ (.tail _ (.tail _ (.head _))))),jO rfl rfl rfl (ib _ _) (ib _ _),rfl,⟨rfl,rfl,rfl,rfl,rfl,rfl,rfl,rfl,rfl,rfl,rfl,rfl,rfl,rfl,rfl,rfl,rfl,rfl,trivial⟩⟩,trivial⟩⟩,trivial⟩⟩,trivial⟩⟩,trivial⟩⟩⟩,⟨⟨⟨rfl,h1,h2,h3⟩,⟨aE dy jv ax rfl ⟨⟨⟨rfl,h1,h2,h3⟩,⟨⟨Or.inr ⟨_,.head _,rfl,rfl,⟨rfl,rfl,rfl,rfl,rfl,rfl,rfl,rfl,rfl,rfl,rfl,rfl,rfl,rfl,rfl,rfl,rfl,rfl,trivial⟩⟩,trivial⟩,trivial⟩⟩,⟨⟨⟨⟨rfl,h1,h2,h3⟩,⟨Or.inr ⟨_,.tail _ (.head _),jO rfl rfl (ib _ _) rfl (ib _ _),rfl,⟨rfl,rfl,rfl,rfl,rfl,rfl,rfl,rfl,rfl,rfl,rfl,rfl,rfl,rfl,rfl,rfl,rfl,rfl,trivial⟩⟩,trivial⟩⟩,trivial⟩,trivial⟩⟩,⟨⟨⟨rfl,h1,h2,h3⟩,⟨aE dy jv ax rfl ⟨⟨Or.inr ⟨_,.head _,rfl,rfl,⟨rfl,rfl,rfl,rfl,rfl,rfl,rfl,rfl,rfl,rfl,rfl,rfl,rfl,rfl,rfl,rfl,rfl,rfl,trivial⟩⟩,trivial⟩,trivial⟩,⟨⟨aE dy jv ax rfl ⟨Or.inr ⟨_,.head _,rfl,rfl,⟨rfl,rfl,rfl,rfl,rfl,rfl,rfl,rfl,rfl,rfl,rfl,rfl,rfl,rfl,rfl,rfl,rfl,rfl,trivial⟩⟩,trivial⟩,trivial⟩,trivial⟩⟩⟩,⟨⟨aE dy jv ax rfl ⟨⟨⟨rfl,h1,h2,h3⟩,⟨Or.inr ⟨_,.tail _ (.head _),jO rfl rfl (ib _ _) rfl (ib _ _),rfl,⟨rfl,rfl,rfl,rfl,rfl,rfl,rfl,rfl,rfl,rfl,rfl,rfl,rfl,rfl,rfl,rfl,rfl,rfl,trivial⟩⟩,trivial⟩⟩,trivial⟩,⟨⟨⟨rfl,h1,h2,h3⟩,⟨aE dy jv ax rfl ⟨Or.inr ⟨_,.tail _ (.head _),jO rfl rfl (ib _ _) rfl (ib _ _),rfl,⟨rfl,rfl,rfl,rfl,rfl,rfl,rfl,rfl,rfl,rfl,rfl,rfl,rfl,rfl,rfl,rfl,rfl,rfl,trivial⟩⟩,trivial⟩,trivial⟩⟩,trivial⟩⟩,trivial⟩⟩⟩⟩,⟨⟨⟨rfl,h1,h2,h3⟩,⟨aE dy jv ax rfl ⟨⟨⟨rfl,h1,h2,h3⟩,⟨⟨Or.inr ⟨_,.tail _ (.tail _ (.head _)),jO rfl rfl (ib _ _) (ib _ _) rfl,rfl,⟨rfl,rfl,rfl,rfl,rfl,rfl,rfl,rfl,rfl,rfl,rfl,rfl,rfl,rfl,rfl,rfl,rfl,rfl,trivial⟩⟩,trivial⟩,trivial⟩⟩,⟨⟨⟨⟨rfl,h1,h2,h3⟩,⟨Or.inr ⟨_,.tail _ (.tail _ (.tail _ (.head _))),jO rfl rfl (l5 _ _ _) rfl (l5 _ _ _),rfl,⟨rfl,rfl,rfl,rfl,rfl,rfl,rfl,rfl,rfl,rfl,rfl,rfl,rfl,rfl,rfl,rfl,rfl,rfl,trivial⟩⟩,trivial⟩⟩,trivial⟩,trivial⟩⟩,⟨⟨⟨rfl,h1,h2,h3⟩,⟨aE dy jv ax rfl ⟨⟨Or.inr ⟨_,.tail _ (.tail _ (.head _)),jO rfl rfl (ib _ _) (ib _ _) rfl,rfl,⟨rfl,rfl,rfl,rfl,rfl,rfl,rfl,rfl,rfl,rfl,rfl,rfl,rfl,rfl,rfl,rfl,rfl,rfl,trivial⟩⟩,trivial⟩,trivial⟩,⟨⟨aE dy jv ax rfl ⟨Or.inr ⟨_,.tail _ (.tail _ (.head _)),jO rfl rfl (ib _ _) (ib _ _) rfl,rfl,⟨rfl,rfl,rfl,rfl,rfl,rfl,rfl,rfl,rfl,rfl,rfl,rfl,rfl,rfl,rfl,rfl,rfl,rfl,trivial⟩⟩,trivial⟩,trivial⟩,trivial⟩⟩⟩,⟨⟨aE dy jv ax rfl ⟨⟨⟨rfl,h1,h2,h3⟩,⟨Or.inr ⟨_,.tail _ (.tail _ (.tail _ (.head _))),jO rfl rfl (l5 _ _ _) rfl (l5 _ _ _),rfl,⟨rfl,rfl,rfl,rfl,rfl,rfl,rfl,rfl,rfl,rfl,rfl,rfl,rfl,rfl,rfl,rfl,rfl,rfl,trivial⟩⟩,trivial⟩⟩,trivial⟩,⟨⟨⟨rfl,h1,h2,h3⟩,⟨aE dy jv ax rfl ⟨Or.inr ⟨_,.tail _ (.tail _ (.tail _ (.head _))),jO rfl rfl (l5 _ _ _) rfl (l5 _ _ _),rfl,⟨rfl,rfl,rfl,rfl,rfl,rfl,rfl,rfl,rfl,rfl,rfl,rfl,rfl,rfl,rfl,rfl,rfl,rfl,trivial⟩⟩,trivial⟩,trivial⟩⟩,trivial⟩⟩,trivial⟩⟩⟩⟩,⟨⟨aE dy jv ax rfl ⟨⟨⟨rfl,h1,h2,h3⟩,⟨⟨⟨rfl,h1,h2,h3⟩,⟨Or.inr ⟨_,.tail _ (.tail _ (.tail _ (.tail _ (.head _)))),jO rfl rfl rfl (l5 _ _ _) (l5 _ _ _),rfl,⟨rfl,rfl,rfl,rfl,rfl,rfl,rfl,rfl,rfl,rfl,rfl,rfl,rfl,rfl,rfl,rfl,rfl,rfl,trivial⟩⟩,trivial⟩⟩,trivial⟩⟩,⟨⟨⟨rfl,h1,h2,h3⟩,⟨⟨⟨rfl,h1,h2,h3⟩,⟨Or.inr ⟨_,.tail _ (.tail _ (.tail _ (.tail _ (.tail _ (.head _))))),jO rfl rfl rfl (ib _ _) (ib _ _),rfl,⟨rfl,rfl,rfl,rfl,rfl,rfl,rfl,rfl,rfl,rfl,rfl,rfl,rfl,rfl,rfl,rfl,rfl,rfl,trivial⟩⟩,trivial⟩⟩,trivial⟩⟩,trivial⟩⟩,⟨⟨⟨rfl,h1,h2,h3⟩,⟨aE dy jv ax rfl ⟨⟨⟨rfl,h1,h2,h3⟩,⟨Or.inr ⟨_,.tail _ (.tail _ (.tail _ (.tail _ (.head _)))),jO rfl rfl rfl (l5 _ _ _) (l5 _ _ _),rfl,⟨rfl,rfl,rfl,rfl,rfl,rfl,rfl,rfl,rfl,rfl,rfl,rfl,rfl,rfl,rfl,rfl,rfl,rfl,trivial⟩⟩,trivial⟩⟩,trivial⟩,⟨⟨⟨rfl,h1,h2,h3⟩,⟨aE dy jv ax rfl ⟨Or.inr ⟨_,.tail _ (.tail _ (.tail _ (.tail _ (.head _)))),jO rfl rfl rfl (l5 _ _ _) (l5 _ _ _),rfl,⟨rfl,rfl,rfl,rfl,rfl,rfl,rfl,rfl,rfl,rfl,rfl,rfl,rfl,rfl,rfl,rfl,rfl,rfl,trivial⟩⟩,trivial⟩,trivial⟩⟩,trivial⟩⟩⟩,⟨⟨⟨rfl,h1,h2,h3⟩,⟨aE dy jv ax rfl ⟨⟨⟨rfl,h1,h2,h3⟩,⟨Or.inr ⟨_,.tail _ (.tail _ (.tail _ (.tail _ (.tail _ (.head _))))),jO rfl rfl rfl (ib _ _) (ib _ _),rfl,⟨rfl,rfl,rfl,rfl,rfl,rfl,rfl,rfl,rfl,rfl,rfl,rfl,rfl,rfl,rfl,rfl,rfl,rfl,trivial⟩⟩,trivial⟩⟩,trivial⟩,⟨⟨⟨rfl,h1,h2,h3⟩,⟨aE dy jv ax rfl ⟨Or.inr ⟨_,.tail _ (.tail _ (.tail _ (.tail _ (.tail _ (.head _))))),jO rfl rfl rfl (ib _ _) (ib _ _),rfl,⟨rfl,rfl,rfl,rfl,rfl,rfl,rfl,rfl,rfl,rfl,rfl,rfl,rfl,rfl,rfl,rfl,rfl,rfl,trivial⟩⟩,trivial⟩,trivial⟩⟩,trivial⟩⟩⟩,trivial⟩⟩⟩,trivial⟩⟩⟩⟩,⟨⟨⟨rfl,h1,h2,h3⟩,⟨aE nI lE ax rfl ⟨aE dy jv ax rfl ⟨⟨⟨rfl,h1,h2,h3⟩,⟨⟨Or.inr ⟨_,.head _,rfl,rfl,⟨rfl,rfl,rfl,rfl,rfl,rfl,rfl,rfl,rfl,rfl,rfl,rfl,rfl,rfl,rfl,rfl,rfl,rfl,trivial⟩⟩,trivial⟩,trivial⟩⟩,⟨⟨⟨⟨rfl,h1,h2,h3⟩,⟨Or.inr ⟨_,.tail _ (.head _),jO rfl rfl (ib _ _) rfl (ib _ _),rfl,⟨rfl,rfl,rfl,rfl,rfl,rfl,rfl,rfl,rfl,rfl,rfl,rfl,rfl,rfl,rfl,rfl,rfl,rfl,trivial⟩⟩,trivial⟩⟩,trivial⟩,trivial⟩⟩,⟨⟨⟨rfl,h1,h2,h3⟩,⟨aE dy jv ax rfl ⟨⟨Or.inr ⟨_,.head _,rfl,rfl,⟨rfl,rfl,rfl,rfl,rfl,rfl,rfl,rfl,rfl,rfl,rfl,rfl,rfl,rfl,rfl,rfl,rfl,rfl,trivial⟩⟩,trivial⟩,trivial⟩,⟨⟨aE dy jv ax rfl ⟨Or.inr ⟨_,.head _,rfl,rfl,⟨rfl,rfl,rfl,rfl,rfl,rfl,rfl,rfl,rfl,rfl,rfl,rfl,rfl,rfl,rfl,rfl,rfl,rfl,trivial⟩⟩,trivial⟩,trivial⟩,trivial⟩⟩⟩,⟨⟨aE dy jv ax rfl ⟨⟨⟨rfl,h1,h2,h3⟩,⟨Or.inr ⟨_,.tail _ (.head _),jO rfl rfl (ib _ _) rfl (ib _ _),rfl,⟨rfl,rfl,rfl,rfl,rfl,rfl,rfl,rfl,rfl,rfl,rfl,rfl,rfl,rfl,rfl,rfl,rfl,rfl,trivial⟩⟩,trivial⟩⟩,trivial⟩,⟨⟨⟨rfl,h1,h2,h3⟩,⟨aE dy jv ax rfl ⟨Or.inr ⟨_,.tail _ (.head _),jO rfl rfl (ib _ _) rfl (ib _ _),rfl,⟨rfl,rfl,rfl,rfl,rfl,rfl,rfl,rfl,rfl,rfl,rfl,rfl,rfl,rfl,rfl,rfl,rfl,rfl,trivial⟩⟩,trivial⟩,trivial⟩⟩,trivial⟩⟩,trivial⟩⟩⟩,⟨⟨⟨rfl,h1,h2,h3⟩,⟨aE nI lE ax rfl ⟨aE dy jv ax rfl ⟨⟨Or.inr ⟨_,.head _,rfl,rfl,⟨rfl,rfl,rfl,rfl,rfl,rfl,rfl,rfl,rfl,rfl,rfl,rfl,rfl,rfl,rfl,rfl,rfl,rfl,trivial⟩⟩,trivial⟩,trivial⟩,⟨⟨aE dy jv ax rfl ⟨Or.inr ⟨_,.head _,rfl,rfl,⟨rfl,rfl,rfl,rfl,rfl,rfl,rfl,rfl,rfl,rfl,rfl,rfl,rfl,rfl,rfl,rfl,rfl,rfl,trivial⟩⟩,trivial⟩,trivial⟩,trivial⟩⟩,⟨⟨aE nI lE ax rfl ⟨aE dy jv ax rfl ⟨Or.inr ⟨_,.head _,rfl,rfl,⟨rfl,rfl,rfl,rfl,rfl,rfl,rfl,rfl,rfl,rfl,rfl,rfl,rfl,rfl,rfl,rfl,rfl,rfl,trivial⟩⟩,trivial⟩,trivial⟩,trivial⟩,trivial⟩⟩⟩,⟨⟨aE nI lE ax rfl ⟨aE dy jv ax rfl ⟨⟨⟨rfl,h1,h2,h3⟩,⟨Or.inr ⟨_,.tail _ (.head _),jO rfl rfl (ib _ _) rfl (ib _ _),rfl,⟨rfl,rfl,rfl,rfl,rfl,rfl,rfl,rfl,rfl,rfl,rfl,rfl,rfl,rfl,rfl,rfl,rfl,rfl,trivial⟩⟩,trivial⟩⟩,trivial⟩,⟨⟨⟨rfl,h1,h2,h3⟩,⟨aE dy jv ax rfl ⟨Or.inr ⟨_,.tail _ (.head _),jO rfl rfl (ib _ _) rfl (ib _ _),rfl,⟨rfl,rfl,rfl,rfl,rfl,rfl,rfl,rfl,rfl,rfl,rfl,rfl,rfl,rfl,rfl,rfl,rfl,rfl,trivial⟩⟩,trivial⟩,trivial⟩⟩,trivial⟩⟩,⟨⟨⟨rfl,h1,h2,h3⟩,⟨aE nI lE ax rfl ⟨aE dy jv ax rfl ⟨Or.inr ⟨_,.tail _ (.head _),jO rfl rfl (ib _ _) rfl (ib _ _),rfl,⟨rfl,rfl,rfl,rfl,rfl,rfl,rfl,rfl,rfl,rfl,rfl,rfl,rfl,rfl,rfl,rfl,rfl,rfl,trivial⟩⟩,trivial⟩,trivial⟩,trivial⟩⟩,trivial⟩⟩,trivial⟩⟩⟩⟩,⟨⟨⟨rfl,h1,h2,h3⟩,⟨aE nI lE ax rfl ⟨aE dy jv ax rfl ⟨⟨⟨rfl,h1,h2,h3⟩,⟨⟨Or.inr ⟨_,.tail _ (.tail _ (.head _)),jO rfl rfl (ib _ _) (ib _ _) rfl,rfl,⟨rfl,rfl,rfl,rfl,rfl,rfl,rfl,rfl,rfl,rfl,rfl,rfl,rfl,rfl,rfl,rfl,rfl,rfl,trivial⟩⟩,trivial⟩,trivial⟩⟩,⟨⟨⟨⟨rfl,h1,h2,h3⟩,⟨Or.inr ⟨_,.tail _ (.tail _ (.tail _ (.head _))),jO rfl rfl (l5 _ _ _) rfl (l5 _ _ _),rfl,⟨rfl,rfl,rfl,rfl,rfl,rfl,rfl,rfl,rfl,rfl,rfl,rfl,rfl,rfl,rfl,rfl,rfl,rfl,trivial⟩⟩,trivial⟩⟩,trivial⟩,trivial⟩⟩,⟨⟨⟨rfl,h1,h2,h3⟩,⟨aE dy jv ax rfl ⟨⟨Or.inr ⟨_,.tail _ (.tail _ (.head _)),jO rfl rfl (ib _ _) (ib _ _) rfl,rfl,⟨rfl,rfl,rfl,rfl,rfl,rfl,rfl,rfl,rfl,rfl,rfl,rfl,rfl,rfl,rfl,rfl,rfl,rfl,trivial⟩⟩,trivial⟩,trivial⟩,⟨⟨aE dy jv ax rfl ⟨Or.inr ⟨_,.tail _ (.tail _ (.head _)),jO rfl rfl (ib _ _) (ib _ _) rfl,rfl,⟨rfl,rfl,rfl,rfl,rfl,rfl,rfl,rfl,rfl,rfl,rfl,rfl,rfl,rfl,rfl,rfl,rfl,rfl,trivial⟩⟩,trivial⟩,trivial⟩,trivial⟩⟩⟩,⟨⟨aE dy jv ax rfl ⟨⟨⟨rfl,h1,h2,h3⟩,⟨Or.inr ⟨_,.tail _ (.tail _ (.tail _ (.head _))),jO rfl rfl (l5 _ _ _) rfl (l5 _ _ _),rfl,⟨rfl,rfl,rfl,rfl,rfl,rfl,rfl,rfl,rfl,rfl,rfl,rfl,rfl,rfl,rfl,rfl,rfl,rfl,trivial⟩⟩,trivial⟩⟩,trivial⟩,⟨⟨⟨rfl,h1,h2,h3⟩,⟨aE dy jv ax rfl ⟨Or.inr ⟨_,.tail _ (.tail _ (.tail _ (.head _))),jO rfl rfl (l5 _ _ _) rfl (l5 _ _ _),rfl,⟨rfl,rfl,rfl,rfl,rfl,rfl,rfl,rfl,rfl,rfl,rfl,rfl,rfl,rfl,rfl,rfl,rfl,rfl,trivial⟩⟩,trivial⟩,trivial⟩⟩,trivial⟩⟩,trivial⟩⟩⟩,⟨⟨⟨rfl,h1,h2,h3⟩,⟨aE nI lE ax rfl ⟨aE dy jv ax rfl ⟨⟨Or.inr ⟨_,.tail _ (.tail _ (.head _)),jO rfl rfl (ib _ _) (ib _ _) rfl,rfl,⟨rfl,rfl,rfl,rfl,rfl,rfl,rfl,rfl,rfl,rfl,rfl,rfl,rfl,rfl,rfl,rfl,rfl,rfl,trivial⟩⟩,trivial⟩,trivial⟩,⟨⟨aE dy jv ax rfl ⟨Or.inr ⟨_,.tail _ (.tail _ (.head _)),jO rfl rfl (ib _ _) (ib _ _) rfl,rfl,⟨rfl,rfl,rfl,rfl,rfl,rfl,rfl,rfl,rfl,rfl,rfl,rfl,rfl,rfl,rfl,rfl,rfl,rfl,trivial⟩⟩,trivial⟩,trivial⟩,trivial⟩⟩,⟨⟨aE nI lE ax rfl ⟨aE dy jv ax rfl ⟨Or.inr ⟨_,.tail _ (.tail _ (.head _)),jO rfl rfl (ib _ _) (ib _ _) rfl,rfl,⟨rfl,rfl,rfl,rfl,rfl,rfl,rfl,rfl,rfl,rfl,rfl,rfl,rfl,rfl,rfl,rfl,rfl,rfl,trivial⟩⟩,trivial⟩,trivial⟩,trivial⟩,trivial⟩⟩⟩,⟨⟨aE nI lE ax rfl ⟨aE dy jv ax rfl ⟨⟨⟨rfl,h1,h2,h3⟩,⟨Or.inr ⟨_,.tail _ (.tail _ (.tail _ (.head _))),jO rfl rfl (l5 _ _ _) rfl (l5 _ _ _),rfl,⟨rfl,rfl,rfl,rfl,rfl,rfl,rfl,rfl,rfl,rfl,rfl,rfl,rfl,rfl,rfl,rfl,rfl,rfl,trivial⟩⟩,trivial⟩⟩,trivial⟩,⟨⟨⟨rfl,h1,h2,h3⟩,⟨aE dy jv ax rfl ⟨Or.inr ⟨_,.tail _ (.tail _ (.tail _ (.head _))),jO rfl rfl (l5 _ _ _) rfl (l5 _ _ _),rfl,⟨rfl,rfl,rfl,rfl,rfl,rfl,rfl,rfl,rfl,rfl,rfl,rfl,rfl,rfl,rfl,rfl,rfl,rfl,trivial⟩⟩,trivial⟩,trivial⟩⟩,trivial⟩⟩,⟨⟨⟨rfl,h1,h2,h3⟩,⟨aE nI lE ax rfl ⟨aE dy jv ax rfl ⟨Or.inr ⟨_,.tail _ (.tail _ (.tail _ (.head _))),jO rfl rfl (l5 _ _ _) rfl (l5 _ _ _),rfl,⟨rfl,rfl,rfl,rfl,rfl,rfl,rfl,rfl,rfl,rfl,rfl,rfl,rfl,rfl,rfl,rfl,rfl,rfl,trivial⟩⟩,trivial⟩,trivial⟩,trivial⟩⟩,trivial⟩⟩,trivial⟩⟩⟩⟩,⟨⟨aE nI lE ax rfl ⟨aE dy jv ax rfl ⟨⟨⟨rfl,h1,h2,h3⟩,⟨⟨⟨rfl,h1,h2,h3⟩,⟨Or.inr ⟨_,.tail _ (.tail _ (.tail _ (.tail _ (.head _)))),jO rfl rfl rfl (l5 _ _ _) (l5 _ _ _),rfl,⟨rfl,rfl,rfl,rfl,rfl,rfl,rfl,rfl,rfl,rfl,rfl,rfl,rfl,rfl,rfl,rfl,rfl,rfl,trivial⟩⟩,trivial⟩⟩,trivial⟩⟩,⟨⟨⟨rfl,h1,h2,h3⟩,⟨⟨⟨rfl,h1,h2,h3⟩,⟨Or.inr ⟨_,.tail _ (.tail _ (.tail _ (.tail _ (.tail _ (.head _))))),jO rfl rfl rfl (ib _ _) (ib _ _),rfl,⟨rfl,rfl,rfl,rfl,rfl,rfl,rfl,rfl,rfl,rfl,rfl,rfl,rfl,rfl,rfl,rfl,rfl,rfl,trivial⟩⟩,trivial⟩⟩,trivial⟩⟩,trivial⟩⟩,⟨⟨⟨rfl,h1,h2,h3⟩,⟨aE dy jv ax rfl ⟨⟨⟨rfl,h1,h2,h3⟩,⟨Or.inr ⟨_,.tail _ (.tail _ (.tail _ (.tail _ (.head _)))),jO rfl rfl rfl (l5 _ _ _) (l5 _ _ _),rfl,⟨rfl,rfl,rfl,rfl,rfl,rfl,rfl,rfl,rfl,rfl,rfl,rfl,rfl,rfl,rfl,rfl,rfl,rfl,trivial⟩⟩,trivial⟩⟩,trivial⟩,⟨⟨⟨rfl,h1,h2,h3⟩,⟨aE dy jv ax rfl ⟨Or.inr ⟨_,.tail _ (.tail _ (.tail _ (.tail _ (.head _)))),jO rfl rfl rfl (l5 _ _ _) (l5 _ _ _),rfl,⟨rfl,rfl,rfl,rfl,rfl,rfl,rfl,rfl,rfl,rfl,rfl,rfl,rfl,rfl,rfl,rfl,rfl,rfl,trivial⟩⟩,trivial⟩,trivial⟩⟩,trivial⟩⟩⟩,⟨⟨⟨rfl,h1,h2,h3⟩,⟨aE dy jv ax rfl ⟨⟨⟨rfl,h1,h2,h3⟩,⟨Or.inr ⟨_,.tail _ (.tail _ (.tail _ (.tail _ (.tail _ (.head _))))),jO rfl rfl rfl (ib _ _) (ib _ _),rfl,⟨rfl,rfl,rfl,rfl,rfl,rfl,rfl,rfl,rfl,rfl,rfl,rfl,rfl,rfl,rfl,rfl,rfl,rfl,trivial⟩⟩,trivial⟩⟩,trivial⟩,⟨⟨⟨rfl,h1,h2,h3⟩,⟨aE dy jv ax rfl ⟨Or.inr ⟨_,.tail _ (.tail _ (.tail _ (.tail _ (.tail _ (.head _))))),jO rfl rfl rfl (ib _ _) (ib _ _),rfl,⟨rfl,rfl,rfl,rfl,rfl,rfl,rfl,rfl,rfl,rfl,rfl,rfl,rfl,rfl,rfl,rfl,rfl,rfl,trivial⟩⟩,trivial⟩,trivial⟩⟩,trivial⟩⟩⟩,trivial⟩⟩⟩,⟨⟨⟨rfl,h1,h2,h3⟩,⟨aE nI lE ax rfl ⟨aE dy jv ax rfl ⟨⟨⟨rfl,h1,h2,h3⟩,⟨Or.inr ⟨_,.tail _ (.tail _ (.tail _ (.tail _ (.head _)))),jO rfl rfl rfl (l5 _ _ _) (l5 _ _ _),rfl,⟨rfl,rfl,rfl,rfl,rfl,rfl,rfl,rfl,rfl,rfl,rfl,rfl,rfl,rfl,rfl,rfl,rfl,rfl,trivial⟩⟩,trivial⟩⟩,trivial⟩,⟨⟨⟨rfl,h1,h2,h3⟩,⟨aE dy jv ax rfl ⟨Or.inr ⟨_,.tail _ (.tail _ (.tail _ (.tail _ (.head _)))),jO rfl rfl rfl (l5 _ _ _) (l5 _ _ _),rfl,⟨rfl,rfl,rfl,rfl,rfl,rfl,rfl,rfl,rfl,rfl,rfl,rfl,rfl,rfl,rfl,rfl,rfl,rfl,trivial⟩⟩,trivial⟩,trivial⟩⟩,trivial⟩⟩,⟨⟨⟨rfl,h1,h2,h3⟩,⟨aE nI lE ax rfl ⟨aE dy jv ax rfl ⟨Or.inr ⟨_,.tail _ (.tail _ (.tail _ (.tail _ (.head _)))),jO rfl rfl rfl (l5 _ _ _) (l5 _ _ _),rfl,⟨rfl,rfl,rfl,rfl,rfl,rfl,rfl,rfl,rfl,rfl,rfl,rfl,rfl,rfl,rfl,rfl,rfl,rfl,trivial⟩⟩,trivial⟩,trivial⟩,trivial⟩⟩,trivial⟩⟩⟩,⟨⟨⟨rfl,h1,h2,h3⟩,⟨aE nI lE ax rfl ⟨aE dy jv ax rfl ⟨⟨⟨rfl,h1,h2,h3⟩,⟨Or.inr ⟨_,.tail _ (.tail _ (.tail _ (.tail _ (.tail _ (.head _))))),jO rfl rfl rfl (ib _ _) (ib _ _),rfl,⟨rfl,rfl,rfl,rfl,rfl,rfl,rfl,rfl,rfl,rfl,rfl,rfl,rfl,rfl,rfl,rfl,rfl,rfl,trivial⟩⟩,trivial⟩⟩,trivial⟩,⟨⟨⟨rfl,h1,h2,h3⟩,⟨aE dy jv ax rfl ⟨Or.inr ⟨_,.tail _ (.tail _ (.tail _ (.tail _ (.tail _ (.head _))))),jO rfl rfl rfl (ib _ _) (ib _ _),rfl,⟨rfl,rfl,rfl,rfl,rfl,rfl,rfl,rfl,rfl,rfl,rfl,rfl,rfl,rfl,rfl,rfl,rfl,rfl,trivial⟩⟩,trivial⟩,trivial⟩⟩,trivial⟩⟩,⟨⟨⟨rfl,h1,h2,h3⟩,⟨aE nI lE ax rfl ⟨aE dy jv ax rfl ⟨Or.inr ⟨_,.tail _ (.tail _ (.tail _ (.tail _ (.tail _ (.head _))))),jO rfl rfl rfl (ib _ _) (ib _ _),rfl,⟨rfl,rfl,rfl,rfl,rfl,rfl,rfl,rfl,rfl,rfl,rfl,rfl,rfl,rfl,rfl,rfl,rfl,rfl,trivial⟩⟩,trivial⟩,trivial⟩,trivial⟩⟩,trivial⟩⟩⟩,trivial⟩⟩⟩,trivial⟩⟩⟩⟩
 ·exact (rfl:_=_)
 have GN:(List.replicate ((bh ND).length:Int).toNat (vL [Value.int .i64 0])).flatten=cN (szR ND D 0):=by rw [uL,Int.toNat_natCast,bA];all_goals rfl
 have Tp:(List.replicate ((bh ND).length:Int).toNat (vL [Value.int .i64 0])).flatten=cN (List.replicate ND.length 0):=by rw [uL,Int.toNat_natCast,bA]
 refine lI (fun j st=>∃ d:Nat,st=aar a b A B ND z D M d (szR ND D (d - 1)) (List.replicate ND.length 0)/\1<=d/\d<=ND.length + 1/\j=ND.length + 1 - d) ⟨1,rfl,by omega,by omega,rfl⟩ (ap 5 rfl (gj GN Tp) rfl rfl rfl (wB2 GN Tp)) ?_;rintro j st ⟨d,rfl,yY,JH,rfl⟩;refine br ?_ ?_<;>intro hL
 ·have hdN:d<=ND.length:=by have:=hL;simp [bA] at this;exact this
  refine lJ (fun e=>aas a b A B ND z D M d (szL ND D d e (szR ND D (d - 1))) (List.replicate ND.length 0) e) ND.length (ap 5 rfl pB rfl rfl rfl lY) ?_;intro e he;refine br ?_ ?_<;>intro kx
  ·have aj:e < ND.length:=by have:=kx;simp [cp] at this;exact this
   obtain ⟨n,hn⟩:=gX aj;obtain ⟨v,hv⟩:∃ z,D[e]? = some z:=⟨_,gE (by omega)⟩;have yS:D.getD e 0=v:=by rw [List.getD_eq_getElem?_getD,hv];all_goals rfl
   have eE:szL ND D d (e + 1) (szR ND D (d - 1))=if D.getD e 0=d then (szL ND D d e (szR ND D (d - 1))).set e (sizeF (szL ND D d e (szR ND D (d - 1))) D n) else szL ND D d e (szR ND D (d - 1)):=by rw [szL,hn]
   have HE:(szL ND D d e (szR ND D (d - 1))).length=ND.length:=by rw [mR];exact oP ND D _
   have KQ:∀ z∈szL ND D d e (szR ND D (d - 1)),z<=4097:=by
    have:=AW ND D d e;unfold szQ at this
    rwa [if_neg (by omega)] at this
   have iy:=mG hn;have Bn:=fun h8=>Fv a b A B ND z D M (szL ND D d e (szR ND D (d - 1))) (List.replicate ND.length 0) Wo HE KQ (bm n iy) (bL n iy) h8
   have h8:D.getD e 0=d->n.ag=8->∃ c e,bu D n.ai=some c/\n.ai[c]? = some e:=fun h h8=>by
    obtain ⟨c,x,hc,hx,_⟩:=hO.Pp hn (by omega) h8;exact ⟨c,x,hc,hx⟩
   generalize szL ND D d e (szR ND D (d - 1))=t at eE HE KQ Bn;refine ⟨_,⟨Int.natCast_nonneg _,aD hv⟩,?_⟩;refine br ?_ ?_<;>intro c
   ·have c:D.getD e 0=d:=Decidable.byContradiction fun h=>by simp at c;omega
    rw [if_pos c] at eE;have Bn:=Bn (h8 c);refine dS ?_;refine ⟨_,⟨Int.natCast_nonneg _,bV hn⟩,?_⟩;refine jV en65 Bn ⟨_,_,rfl,⟨_,rfl,O4 a b A B ND z HE List.length_replicate rfl rfl⟩,_,_,rfl,ax,rfl⟩ rfl rfl ?_;refine ⟨⟨by omega,by rw [bA];omega⟩,?_⟩;refine ⟨by rw [lu];omega,?_⟩
    have aR:(cN t).set (0 + (e:Int).toNat * 1) (DV.v (.int .i64 (sizeF t D n:Nat)))=cN (szL ND D d (e + 1) (szR ND D (d - 1))):=by
     rw [show 0 + (e:Int).toNat * 1=e by omega,mN,eE]
    exact rE ⟨_,by omega,e + 1,rfl,by omega,rfl⟩ (ap 5 rfl (gj aR (aF aj (by omega))) rfl rfl rfl (wB2 aR (aF aj (by omega))))
   ·have c:¬ D.getD e 0=d:=fun h=>by rw [yS] at h;subst h;simp at c
    rw [if_neg c] at eE;exact rE ⟨_,by omega,e + 1,rfl,by omega,rfl⟩ (ap 5 rfl (gj (congrArg cN eE.symm) (aF aj (by omega))) rfl rfl rfl (wB2 (congrArg cN eE.symm) (aF aj (by omega))))
  ·have aM:e=ND.length:=by have:=kx;simp [cp] at this;omega
   subst aM;obtain ⟨k,rfl⟩:∃ k,d=k + 1:=⟨d - 1,by omega⟩;exact rE ⟨_,by omega,k + 1 + 1,rfl,by omega,by omega,rfl⟩ (ap 5 rfl (na (wrapN (a:=k + 1) (b:=1) (by omega) (by omega))) rfl rfl rfl (cX (wrapN (a:=k + 1) (b:=1) (by omega) (by omega))))
 ·have Lh:d=ND.length + 1:=sW bA hL;subst Lh;have hT:szR ND D (ND.length + 1 - 1)=jW ND D:=rfl;have Ro:=ry ND D;have Z2:∀ z∈jW ND D,z<=4097:=oT ND D _;have VA:(eX ND D).length=ND.length:=iw ND D _;generalize eX ND D=K at hKM OE hR VA;have KB:=yh (jW ND D) D K ND;have Wp:∀ i n,ND[i]? = some n->othK (jW ND D) D K ND i=if K.getD i false=true then some (eB (jW ND D) D K n) else none:=fun i n h=>by unfold othK;rw [h]
  have hF:Pq (jW ND D) D K ND=fM (othK (jW ND D) D K ND) ND.length (ND.length + 1):=Jf.symm;rw [hF] at hR;rw [hT];generalize jW ND D=t at Ro Z2 KB Wp hR ⊢;generalize D1:othK t D K ND=kf at KB Wp hR;refine lJ (fun d=>aat a b A B ND z D M d t (fM kf ND.length d)) (ND.length + 1) (ap 5 rfl pB rfl rfl rfl lY) ?_;intro d JH;have hok2:zb kf (fM kf ND.length d):=yb d;have ed:(fM kf ND.length d).length=ND.length:=iz d;refine br ?_ ?_<;>intro hL
  ·have hdN:d<=ND.length:=by have:=hL;simp [bA] at this;exact this
   refine lJ (fun e=>aau a b A B ND z D M d t (oR kf e (fM kf ND.length d)) e) ND.length (ap 5 rfl pB rfl rfl rfl lY) ?_;intro e he;refine br ?_ ?_<;>intro kx
   ·have aj:e < ND.length:=by have:=kx;simp [cp] at this;exact this
    obtain ⟨n,hn⟩:=gX aj;obtain ⟨v,hv⟩:∃ z,M[e]? = some z:=⟨_,gE (by omega)⟩;have iy:=mG hn;have hKe:K.getD e false=decide (1 < v):=by rw [hKM,List.getD_eq_getElem?_getD,hv];all_goals rfl
    have hk:=Wp e n hn;have hse:=OE e n hn;have jC:(oR kf e (fM kf ND.length d)).length=ND.length:=by rw [rz];exact ed
    have sb:=E4 KB (ya (kf:=kf) e (by rw [ed];omega) hok2).1;have eE:oR kf (e + 1) (fM kf ND.length d)=otI kf e (oR kf e (fM kf ND.length d)):=rfl;have nj:=fun hc8 hS=>CK a b A B ND z D M t (oR kf e (fM kf ND.length d)) K Wo hlM (fun j _=>hKM j) Ro jC Z2 sb (bm n iy) (bL n iy) hc8 hS;generalize oR kf e (fM kf ND.length d)=o at jC sb eE nj;refine ⟨_,⟨Int.natCast_nonneg _,aD hv⟩,?_⟩;refine br ?_ ?_<;>intro c
    ·have c:(1:Int) < v:=sU c;rw [decide_eq_true (by omega)] at hKe;obtain ⟨hS,hp⟩:=hse hKe;rw [if_pos hKe] at hk;have nj:=nj (fun h8=>by obtain ⟨c,_,hc,_⟩:=hO.Pp hn hp h8;exact ⟨c,hc⟩) hS;refine dS ?_;refine ⟨_,⟨Int.natCast_nonneg _,bV hn⟩,?_⟩;refine jV en66 nj ⟨_,_,rfl,⟨_,rfl,O4 a b A B ND z Ro jC rfl rfl⟩,_,_,rfl,ax,rfl⟩ rfl rfl ?_;refine ⟨⟨by omega,by rw [bA];omega⟩,?_⟩;refine ⟨by rw [lu];omega,?_⟩
     have aR:(cN o).set (0 + (e:Int).toNat * 1) (DV.v (.int .i64 (othE o (eB t D K n):Nat)))=cN (oR kf (e + 1) (fM kf ND.length d)):=by
      rw [show 0 + (e:Int).toNat * 1=e by omega,mN,eE];unfold otI;rw [hk]
     exact rE ⟨_,by omega,e + 1,rfl,by omega,rfl⟩ (ap 5 rfl (gj aR (aF aj (by omega))) rfl rfl rfl (wB2 aR (aF aj (by omega))))
    ·have c:¬ (1:Int) < v:=sU c;rw [decide_eq_false (by omega)] at hKe;rw [hKe,if_neg (by simp)] at hk;have FR:o=oR kf (e + 1) (fM kf ND.length d):=by rw [eE];unfold otI;rw [hk]
     exact rE ⟨_,by omega,e + 1,rfl,by omega,rfl⟩ (ap 5 rfl (gj (congrArg cN FR) (aF aj (by omega))) rfl rfl rfl (wB2 (congrArg cN FR) (aF aj (by omega))))
   ·have aM:e=ND.length:=by have:=kx;simp [cp] at this;omega
    subst aM;exact rE ⟨_,by omega,d + 1,rfl,by omega,rfl⟩ (ap 5 rfl (na (wrapN (a:=d) (b:=1) (by omega) (by omega))) rfl rfl rfl (cX (wrapN (a:=d) (b:=1) (by omega) (by omega))))
  ·have Lh:d=ND.length + 1:=sW bA hL;subst Lh;rw [<- hR];exact ⟨.agg (yK a b A B ND z D M t (fM kf ND.length (ND.length + 1))),⟨_,rfl,O4 a b A B ND z Ro ed rfl rfl⟩,rfl⟩
end
section
variable (a b:Nat) (A B:List (List DV)) (ND:List Nd) (z:Int) (D M S O:List Nat) (K:List Bool) {L:Nat}
theorem Fx {F:Nat->Val} {n:Nd} {c:Nat} {x:Ed} (hn:cz L ND.length n) (hx:n.ai[c]? = some x) (dY:n.ai.length<=1099511627776)
  (ih:x.bare=false->∀ k:Nat,x.to=k->aQ prog 30 [.agg (yK a b A B ND z D M S O),.v (.int .i64 k)] (.agg (dVal (F k)))) :
  aQ prog 82 [.agg (yK a b A B ND z D M S O),.agg (gv n),.v (.int .i64 c)] (.agg (dVal (tagV F n.ai c))):=by
 have tF:=hn.fD x (mG hx);obtain ⟨ag,aS,lo,hi,most,af,es⟩:=n;simp only at hx dY ⊢
 cases hb:x.bare with
 | false=>
  obtain ⟨k,hk,ee⟩:=tF.to1 hb;have qI:=ih hb k hk;clear ih;rw [show tagV F es c = .mk 8 c av [F k] by simp only [tagV,hx,hb];rw [hk];rfl];generalize F k=u at qI;obtain ⟨uk,un,us,ul⟩:=u;obtain ⟨en,eb,ea,et,vi,ew,yD,yE,yF,yG⟩:=x;simp only at hk hb;subst hk hb;refine eG 28 [.cell 6 34] func82 rfl ntmps82 rfl fun _ _ _ _=>?_;refine ⟨_,⟨Int.natCast_nonneg _,aC hx⟩,?_⟩;refine dS ?_;refine ⟨_,⟨Int.natCast_nonneg _,aC hx⟩,?_⟩;refine cD PY qI ?_;exact ⟨.agg (dVal (.mk 8 c av [.mk uk un us ul])),ax,rfl⟩
 | true=>
  rw [show tagV F es c=dz 8 c by simp only [tagV,hx,hb];rfl];obtain ⟨en,eb,ea,et,vi,ew,yD,yE,yF,yG⟩:=x;simp only at hb;subst hb;refine eG 28 [.cell 6 34] func82 rfl ntmps82 rfl fun _ _ _ _=>?_;refine ⟨_,⟨Int.natCast_nonneg _,aC hx⟩,?_⟩;exact ⟨.agg (dVal (dz 8 c)),ax,rfl⟩
abbrev VM (n:Nd) (vs:List Val) (e:Nat):St:=
 ⟨[(2,⟨[],.loc 0 0⟩),(4,⟨[],.loc 1 0⟩),(5,⟨[],.loc 2 0⟩),(6,⟨[],.loc 3 0⟩),(7,⟨[],.v (.int .i64 e)⟩)],[yK a b A B ND z D M S O,zc,gv n,[.v (.int .i64 7),.v (.int .i64 0),.v (.string .empty),.sl 4 (dVals vs) (some 0)]],[⟨e,34,4,none⟩]⟩
theorem K1 (l:List Val) (v:Val):dVals (l ++ [v])=dVals l ++ [dVal v]:=by rw [bP,bP];simp
theorem rJ (hO:gB ND D) (bm:∀ n∈ND,cz L ND.length n) (bL:∀ n∈ND,n.ai.length<=1099511627776):∀ (f i:Nat),i < ND.length->0 < D.getD i 0->D.getD i 0<=f->aQ prog 30 [.agg (yK a b A B ND z D M S O),.v (.int .i64 i)] (.agg (dVal (firstV ND D f i)))
 | 0,i,_,h0,h1=>by omega
 | f + 1,i,hi,h0,h1=>by
  have ih:=fun j hj h0 h1=>rJ hO bm bL f j hj h0 h1;obtain ⟨n,hn⟩:∃ n,ND[i]? = some n:=⟨_,gE hi⟩;have iy:=mG hn;have hN:=bm n iy;have zl:=hO.Wl hn h0;have F7:=hO.Pp hn h0;have za:=mX a b A B ND z D M S O (-1) hO.len hN (bL n iy);rw [om] at za;have dY:=bL n iy;have aU:=hN.fD;have cS:=hN.bare
  have RQ:∀ {c:Nat} {x:Ed},n.ai[c]? = some x->(x.bare=false->0 < bY D x/\bY D x < D.getD i 0)->aQ prog 82 [.agg (yK a b A B ND z D M S O),.agg (gv n),.v (.int .i64 c)] (.agg (dVal (tagV (firstV ND D f) n.ai c))):=fun {c x} hx hp=>Fx a b A B ND z D M S O (L:=L) hN hx dY fun hb k hk=>by
   obtain ⟨h2,h3⟩:=hp hb;unfold bY at h2 h3;rw [hk,Int.toNat_natCast] at h2 h3;exact ih k (CB hO h2) h2 (by omega)
  rw [show firstV ND D (f + 1) i=(if n.ag=2 then dz 2 n.lo
   else if n.ag=7 then .mk 7 0 av (n.ai.map fun e=>firstV ND D f e.to.toNat)
   else if n.ag=8 then (match bu D n.ai with | some c=>tagV (firstV ND D f) n.ai c | none=>dz 8 0)
   else dz n.ag 0) by rw [firstV,hn];rfl]
  generalize D.getD i 0=di at zl F7 h1 RQ;obtain ⟨ag,aS,lo,eC,most,af,es⟩:=n;simp only at zl F7 za aU dY cS RQ;have bA:=aO es;by_cases c2:ag=2
  ·subst c2;refine eG 56 [.cell 4 34] func30 rfl ntmps30 rfl fun _ _ _ _=>?_;refine iX (bV hn) ?_;exact ⟨.agg (dVal (dz 2 lo)),ax,rfl⟩
  rw [if_neg c2];by_cases c7:ag=7
  ·subst c7;have zl:=zl rfl;rw [if_pos rfl];refine eG 56 [.cell 4 34] func30 rfl ntmps30 rfl fun _ _ _ _=>?_;refine iX (bV hn) ?_;refine lJ (fun e=>VM a b A B ND z D M S O ⟨7,aS,lo,eC,most,af,es⟩ ((es.take e).map fun e=>firstV ND D f e.to.toNat) e) es.length (cL 4 ⟨0,34,4,none⟩ rfl rfl rfl pB rfl rfl lY) ?_;intro e he;refine br ?_ ?_<;>intro hL
   ·have aj:e < es.length:=sV bA hL;obtain ⟨x,hx⟩:=gX aj;obtain ⟨yH,hx1⟩:=zl x (mG hx)
    have nv:x.bare=false:=by
     cases hb:x.bare with
     | false=>rfl
     | true=>have:=cS x (mG hx) hb;omega
    obtain ⟨k,hk,ee⟩:=(aU x (mG hx)).to1 nv;have Ve:bY D x=D.getD k 0:=by unfold bY;rw [hk,Int.toNat_natCast]
    have cj:=ih k ee (by omega) (by omega)
    have du:dVals ((es.take e).map fun e=>firstV ND D f e.to.toNat) ++ [dVal (firstV ND D f k)]=dVals ((es.take (e + 1)).map fun e=>firstV ND D f e.to.toNat):=by
     rw [dn hx,List.map_append,List.map_cons,List.map_nil,K1,hk,Int.toNat_natCast]
    have cR:(dVals ((es.take e).map fun e=>firstV ND D f e.to.toNat)).length=e:=by rw [bQ,List.length_map,List.length_take];omega
    generalize firstV ND D f k=u at cj du;obtain ⟨uk,un,us,ul⟩:=u;obtain ⟨en,eb,ea,et,vi,ew,yD,yE,yF,yG⟩:=x;simp only at hk;subst hk;refine dS ?_;refine ⟨_,⟨Int.natCast_nonneg _,aC hx⟩,?_⟩;refine cD PY cj ?_;refine ⟨cR,⟨by rw [cR];simp [maxLen];omega,by rw [cR];simp;omega⟩,?_⟩;exact rE ⟨_,by omega,e + 1,rfl,by omega,rfl⟩ (ap 4 rfl (gj du (aF aj (by omega))) rfl rfl rfl (wB2 du (aF aj (by omega))))
   ·have aM:e=es.length:=sW bA hL;subst aM;exact ⟨.agg (dVal (.mk 7 0 av ((es.take es.length).map fun e=>firstV ND D f e.to.toNat))),ax,by rw [List.take_length]⟩
  rw [if_neg c7];by_cases c8:ag=8
  ·subst c8;obtain ⟨c,x,hc,hx,hp⟩:=F7 rfl;have RQ:=RQ hx fun hb=>by obtain ⟨h2,h3⟩:=hp hb;exact ⟨h2,by omega⟩
   rw [if_pos rfl,hc];rw [hc] at za;simp only;generalize tagV (firstV ND D f) es c=u at RQ;obtain ⟨uk,un,us,ul⟩:=u;refine eG 56 [.cell 4 34] func30 rfl ntmps30 rfl fun _ _ _ _=>?_;refine iX (bV hn) ?_;refine dS ?_;refine cD P7 za ?_;refine cD en82 RQ ?_;exact ⟨.agg (dVal (.mk uk un us ul)),ax,rfl⟩
  ·rw [if_neg c8];refine eG 56 [.cell 4 34] func30 rfl ntmps30 rfl fun _ _ _ _=>?_;refine iX (bV hn) ?_;refine br (fun h=>absurd h (sU c2)) (fun _=>?_);refine br (fun h=>absurd h (sU c7)) (fun _=>?_);refine br (fun h=>absurd h (sU c8)) (fun _=>?_);exact ⟨.agg (dVal (dz ag 0)),ax,rfl⟩
end
section
variable (a b:Nat) (A B:List (List DV)) (ND:List Nd) (z:Int) (D M sz T:List Nat) (K:List Bool) {L:Nat}
end
def sumP (sz:List Nat):List Ed->Nat
 | []=>0
 | e :: r=>cE sz e + sumP sz r
theorem Fy {sz:List Nat}:∀ {es:List Ed} {i n:Nat},n<=4097->sumX sz (-1) es i n < 4097->sumX sz (-1) es i n=n + sumP sz es
 | [],i,n,_,_=>rfl
 | e :: r,i,n,hn,h=>by
  rw [sumX,if_neg (by omega)] at h ⊢;have h1:=mP (sz:=sz) (c:=-1) (es:=r) (i:=i + 1) (fm (n + cE sz e));have h2:aY (n + cE sz e)=n + cE sz e∨aY (n + cE sz e)=4097:=by unfold aY;omega
  rw [Fy (fm _) h,sumP];omega
theorem A7 {sz:List Nat} {c:Int}:∀ {es:List Ed} {i n j:Nat} {x:Ed},n<=4097->sumX sz c es i n < 4097->es[j]? = some x->((i + j:Nat):Int)≠c->cE sz x < 4097
 | e :: r,i,n,0,x,hn,h,hx,hc=>by
  simp only [List.getElem?_cons_zero,oI] at hx;subst hx;rw [sumX,if_neg (sU hc)] at h;have h1:=mP (sz:=sz) (c:=c) (es:=r) (i:=i + 1) (fm (n + cE sz e));have h2:aY (n + cE sz e)=n + cE sz e∨aY (n + cE sz e)=4097:=by unfold aY;omega
  omega
 | e :: r,i,n,j + 1,x,hn,h,hx,hc=>by
  rw [sumX] at h;refine A7 (j:=j) ?_ h (sU hx) (by rw [show i + 1 + j=i + (j + 1) by omega];exact hc);split
  ·exact hn
  ·exact fm _
theorem Fz {sz:List Nat} {F:Ed->Val}:∀ {es:List Ed},(∀ e∈es,(F e).wt<=64 * cE sz e)->dL (es.map F)<=64 * sumP sz es
 | [],_=>by simp [dL]
 | e :: r,h=>by
  have h1:=h e List.mem_cons_self;have h2:=Fz (es:=r) fun x hx=>h x (List.mem_cons_of_mem _ hx);rw [List.map_cons,dL,sumP];omega
theorem Jq (k n:Int):(dz k n).wt=64:=rfl
theorem Jr {ND:List Nd} {D:List Nat} (hO:gB ND D) {L:Nat} (bm:∀ n∈ND,cz L ND.length n):∀ (f i:Nat),D.getD i 0<=f->0 < D.getD i 0->(jW ND D).getD i 0 < 4097->(bS ND D i).wt<=64 * (jW ND D).getD i 0
 | 0,i,h,h0,_=>by omega
 | f + 1,i,h,h0,hs=>by
  have hi:=CB hO h0;have hn:ND[i]? = some ND[i]:=gE hi;have hN:=bm _ (mG hn);generalize ND[i]=n at hn hN;have bL:=Jd hO hn h0;rw [fstV_eq hO hn h0];rw [bL] at hs ⊢;have cj:=oQ (jW ND D) D n
  have aaw:∀ {e:Ed},0 < bY D e->bY D e < D.getD i 0->cE (jW ND D) e < 4097->e.bare=false->(bS ND D e.to.toNat).wt<=64 * cE (jW ND D) e:=fun {e} h2 h3 h4 hb=>by
   have hp:cE (jW ND D) e=(jW ND D).getD e.to.toNat 0:=by unfold cE bY;rw [hb];all_goals rfl
   rw [hp] at h4 ⊢;unfold bY at h2 h3;exact Jr hO bm f _ (by omega) h2 h4
  split
  ·rw [Jq];omega
  ·split
   ·rename_i h7;unfold sizeF at hs ⊢;rw [if_pos h7] at hs ⊢;have fo:=Fy (by omega) hs
    have hw:dL (n.ai.map fun e=>bS ND D e.to.toNat)<=64 * sumP (jW ND D) n.ai:=Fz fun e he=>by
     obtain ⟨h2,h3⟩:=hO.Wl hn h0 h7 e he;obtain ⟨j,hj,rfl⟩:=List.getElem_of_mem he;refine aaw h2 h3 (A7 (n:=1) (by omega) hs (gE hj) (by omega)) ?_
     cases hb:n.ai[j].bare with
     | false=>rfl
     | true=>have:=hN.bare _ he hb;omega
    rw [Val.wt,fo];show 64 + 0 + _<=_;omega
   ·split
    ·rename_i h7 h8;obtain ⟨c,e,hc,he,hp⟩:=hO.Pp hn h0 h8;unfold sizeF at hs ⊢;rw [if_neg h7,if_pos h8,hc] at hs ⊢;simp only [he] at hs ⊢;simp only [tagV,he]
     cases hb:e.bare with
     | true=>
      rw [Val.wt];show 64 + 0 + 0<=_;unfold aY;omega
     | false=>
      obtain ⟨h2,h3⟩:=hp hb;have aj:cE (jW ND D) e < 4097:=by unfold aY at hs;omega
      have:=aaw h2 h3 aj hb;rw [Val.wt];show 64 + 0 + ((bS ND D e.to.toNat).wt + 0)<=_;unfold aY at hs ⊢;omega
    ·rw [Jq];omega
end Go.Proofs.YtadhpeooehkklaaGreat
set_option maxRecDepth 100000
namespace Go.Proofs.YtadhpeooehkklaaGreat
open Go Go.RowKit Dv Go.Proofs.Tryz
end Go.Proofs.YtadhpeooehkklaaGreat
set_option maxRecDepth 100000
namespace Go.Proofs.YtadhpeooehkklaaGreat
open Go Go.RowKit Dv Go.Proofs.Tryz
theorem HS {ND:List Nd} {ks:List Val} {f:Nat->Int} {e:Nat} {x:Val} (h:ks[e]? = some x):refVs ND (ks.drop e) f e=(xS ND x (f e) && refVs ND (ks.drop (e + 1)) f (e + 1)):=by
 rw [drop_cons h,refVs]
abbrev aax (W:List DV) (v:Val) (d:Nd) (ok:Bool) (e:Nat):St:=
 ⟨[(3,⟨[],.loc 0 0⟩),(5,⟨[],.loc 1 0⟩),(7,⟨[],.loc 2 0⟩),(8,⟨[],.v (.bool ok)⟩),(9,⟨[],.v (.int .i64 e)⟩)],[W,dVal v,gv d],[]⟩
set_option maxHeartbeats 4000000 in
theorem uw (a b:Nat) (A B:List (List DV)) (rt:Int) {ND:List Nd} {L:Nat} (bm:∀ n∈ND,cz L ND.length n):∀ (k:Nat) (v:Val),v.wt<=k->v.wt<=1099511627776->∀ i:Int,aQ prog 72 [.agg (wG a b A B ND rt),.v (.int .i64 i),.agg (dVal v)] (.v (.bool (xS ND v i)))
 | 0,v,h,_=>by have:=v.er;omega
 | k + 1,.mk q z s ks,h,hb=>fun i=>by
  have ih:=uw a b A B rt bm k;have ee:=gx ks;have bA:=bQ ks;have fX:=hb;rw [Val.wt] at h hb;rw [xS];have hNl:=cp ND
  cases hd:lQ ND i with
  | none=>
   have hn:=xV hd;refine eG 164 [.tmp 6] func72 rfl ntmps72 rfl fun _ _ _ _=>?_;refine br (fun _=>?_) (fun c=>?_)
   ·exact (rfl:_=_)
   ·exfalso;have:=c;simp [au,hNl] at this;omega
  | some d=>
   obtain ⟨h0,hg⟩:=gL hd;obtain ⟨j,rfl⟩:∃ j:Nat,i=j:=⟨i.toNat,by omega⟩;have hg:ND[j]? = some d:=sU hg;have nD:=(gS hg).1;have hN:=bm d (mG hg);have jG:=hN.k1;have Hr:=hN.k8;have xU:=hN.many;have rU:=fun m=>KD hN (.mk q z s ks) m;simp only;have dY:=aO d.ai;have hbl:=ch d.af;generalize hf:IZ d (.mk q z s ks)=f at rU;have hF:ED d (.mk q z s ks)=ED d (.mk q z s ks):=rfl;obtain ⟨ag,aS,lo,hi,most,af,es⟩:=d;simp only at jG Hr xU dY hbl;have hkc:((ks.length:Int)=(es.length:Int))↔ks.length=es.length:=by omega
   have NJ:∀ b:Bool,b=pickB (pickB (!decide (q=ag)) true (pickB (!decide (q=3)) (!decide (s=⟨#[]⟩)) false)) true (pickB (decide (0 < (s.size:Int))) (decide (most < (s.size:Int))) false)->b=xR ⟨ag,aS,lo,hi,most,af,es⟩ (.mk q z s ks):=fun b h=>by
    rw [h,td,Bool.eq_iff_iff];have hB:xR ⟨ag,aS,lo,hi,most,af,es⟩ (.mk q z s ks)=(decide (q≠ag) || (decide (q≠3) && decide (s≠av)) || (decide (0 < s.size) && decide (most < (s.size:Int)))):=rfl;rw [hB];simp [au,aq,or_assoc]
   refine eG 164 [.tmp 6] func72 rfl ntmps72 rfl fun _ _ _ _=>?_;refine br (fun c=>?_) (fun _=>?_)
   ·exfalso;have:=c;simp [au,hNl] at this;omega
   refine iX (bV hg) ?_;refine br ?_ ?_<;>intro c
   ·have c:=(NJ _ rfl).symm.trans c;rw [if_pos c];exact (rfl:_=_)
   have c:=(NJ _ rfl).symm.trans c;rw [if_neg (by rw [c];simp)];rcases (show ag=1∨ag=2∨ag=3∨ag=4∨ag=5∨ag=6∨ag=7∨ag=8 by omega) with c | c | c | c | c | c | c | c
   all_goals
    repeat (first | (refine br (fun h=>?_) (fun _=>?_);focus (simp [c] at h;done)) | (refine br (fun _=>?_) (fun h=>?_);rotate_left;focus (simp [c] at h;done)))
   all_goals
    try
     refine dI ?_
     have hc:∀ b:Bool,b=pickB (decide (0<=z)) (decide (z < ((cw es).length:Int))) false->b=decide (0<=z/\z < es.length):=fun b h=>by
      rw [h,dY,aq,Bool.eq_iff_iff];simp
     refine br (fun g=>?pp) (fun g=>?nn)
     case' pp=>
      have g8:=of_decide_eq_true ((hc _ rfl).symm.trans (sU g));obtain ⟨x,hx8⟩:∃ x,es[z.toNat]? = some x:=⟨_,gE (by omega)⟩;have hm64:=(xU (.inr c)).1;have hw:max 0 (min z (IntKind.i64.wrap (((cw es).length:Int) - 1)))=z:=by rw [dY,wrap64 (by omega) (by omega)];omega
      refine ⟨_,⟨Int.le_max_left _ _,by rw [hw];exact aC hx8⟩,?_⟩;show o7 _ _ _ _
     case' nn=>
      have g8:=of_decide_eq_false ((hc _ rfl).symm.trans (sU g));show o7 _ _ _ _
   all_goals
    refine lI (fun j st=>∃ (e:Nat) (ok:Bool),st=aax (wG a b A B ND rt) (.mk q z s ks) ⟨ag,aS,lo,hi,most,af,es⟩ ok e/\e<=ks.length/\(ED ⟨ag,aS,lo,hi,most,af,es⟩ (.mk q z s ks) && refVs ND ks f 0)=(ok && refVs ND (ks.drop e) f e)/\j=ks.length - e) ⟨0,_,rfl,by omega,congrArg (fun b=>b && refVs ND ks f 0) ?_,rfl⟩ (ah ⟨_,rfl⟩ wA rfl rfl rfl wB) ?_
    ·first
      | (simp [ED,c,au,aq,Val.n,Val.ks,dY,hbl,bA,hkc,g8,hx8];rw [(gS hx8).2];cases x.bare<;>simp;done)
      | (simp [ED,c,au,aq,Val.n,Val.ks,dY,hbl,bA,hkc,g8];try rfl;done)
      | (simp [ED,c,au,aq,Val.n,Val.ks,dY,hbl,bA,hkc];try rfl;done)
    ·rintro _ st ⟨e,ok,rfl,he,aJ,rfl⟩;refine br ?_ ?_<;>intro hL
     ·have hL:e < ks.length/\ok=true:=by
       have:=hL;simp [aq,bA] at this;exact this
      obtain ⟨aj,hok1⟩:=hL;obtain ⟨x,hx⟩:=gX aj;have SI:=jy (mG hx);rw [hok1,Bool.true_and,HS hx] at aJ;have eC:=ih x (by omega) (by omega) (f e);obtain ⟨xk,xn,xs,xl⟩:=x;refine dI ?_;refine cD XG (rU e) ?_;refine iX (gW hx) ?_;refine cD Ud eC ?_;exact ⟨aax (wG a b A B ND rt) (.mk q z s ks) ⟨ag,aS,lo,hi,most,af,es⟩ _ (e + 1),(ah ⟨_,rfl⟩ wA rfl rfl rfl (cX (aF aj (by omega)))),ks.length - (e + 1),by omega,e + 1,_,rfl,by omega,aJ,rfl⟩
     ·have hL:¬ (e < ks.length/\ok=true):=by
       have:=hL;simp [aq,bA] at this;simpa using this
      refine (congrArg (fun b=>DV.v (.bool b)) ?_:_=_);rw [aJ]
      cases ok with
      | false=>rfl
      | true=>rw [List.drop_of_length_le (by simp at hL;omega),refVs];all_goals rfl
end Go.Proofs.YtadhpeooehkklaaGreat
set_option maxRecDepth 100000
namespace Go.Proofs.YtadhpeooehkklaaGreat
open Go Go.RowKit Dv Go.Proofs.Tryz
end Go.Proofs.YtadhpeooehkklaaGreat
set_option maxRecDepth 100000
namespace Go.Proofs.YtadhpeooehkklaaGreat
open Go Go.RowKit Dv Go.Proofs.Tryz
section
variable (a b:Nat) (A B:List (List DV)) (rt:Int) {ND:List Nd} {L:Nat} (bm:∀ n∈ND,cz L ND.length n)
include bm
end
abbrev Tq (a b:Val) (e:Nat):St:=⟨[(2,⟨[],.loc 0 0⟩),(3,⟨[],.loc 1 0⟩),(5,⟨[],.v (.int .i64 e)⟩)],[dVal a,dVal b],[]⟩
theorem ux:∀ (k:Nat) (a:Val),a.wt<=k->a.wt<=1099511627776->∀ b:Val,aQ prog 75 [.agg (dVal a),.agg (dVal b)] (.v (.bool (sameV a b)))
 | 0,v,h,_=>by have:=v.er;omega
 | k + 1,.mk q n s ks,h,hb=>fun b=>by
  have ih:=ux k;rw [Val.wt] at h hb;obtain ⟨bk,bn,bs,bl⟩:=b;have o0:=gx ks;have h1:=bQ ks;have h2:=bQ bl;have hS:sameV (.mk q n s ks) (.mk bk bn bs bl)=(decide (q=bk) && decide (n=bn) && decide (s=bs) && sameVs ks bl):=by rw [sameV]
  refine eG 53 [.tmp 4] func75 rfl ntmps75 rfl fun _ _ _ _=>?_;refine br ?_ ?_<;>intro c
  ·have c:¬ (q=bk/\n=bn/\s=bs/\ks.length=bl.length):=by
    have:=c;simp [au,h1,h2] at this;intro hh;obtain ⟨a1,a2,a3,a4⟩:=hh;simp [a1,a2,a3,a4] at this
   refine (congrArg (fun b=>DV.v (.bool b)) ?_:_=_);rw [hS];by_cases hl:ks.length=bl.length
   ·symm;rw [Bool.and_eq_false_iff];left;simp only [Bool.and_eq_false_iff,decide_eq_false_iff_not];by_cases a1:q=bk
    ·by_cases a2:n=bn
     ·right;exact fun a3=>c ⟨a1,a2,a3,hl⟩
     ·left;right;exact a2
    ·left;left;exact a1
   ·rw [xO hl,Bool.and_false]
  ·have c:q=bk/\n=bn/\s=bs/\ks.length=bl.length:=by
    have:=c;simp [au,h1,h2] at this;obtain ⟨⟨⟨a1,a2⟩,a3⟩,a4⟩:=this;exact ⟨a1,a2,a3,by omega⟩
   obtain ⟨rfl,rfl,rfl,hl⟩:=c;simp only [decide_true,Bool.true_and] at hS;rw [hS]
   refine bo (fun j st=>∃ e:Nat,st=Tq (.mk q n s ks) (.mk q n s bl) e/\e<=ks.length/\sameVs ks bl=sameVs (ks.drop e) (bl.drop e)/\j=ks.length - e) ks.length
    (Tq (.mk q n s ks) (.mk q n s bl) 0) (ah ⟨_,rfl⟩ wA rfl rfl rfl wB) ⟨0,rfl,by omega,rfl,by omega⟩ ?_
   rintro _ st ⟨e,rfl,he,aJ,rfl⟩;refine br ?_ ?_<;>intro h
   ·have aj:e < ks.length:=sV h1 h;obtain ⟨x,hx⟩:=gX aj;obtain ⟨y,hy⟩:∃ y,bl[e]? = some y:=⟨_,gE (hl ▸ aj)⟩;rw [drop_cons hx,drop_cons hy,sameVs] at aJ;have SI:=jy (mG hx);have TN:=ih x (by omega) (by omega) y;obtain ⟨xk,xn,xs,xl⟩:=x;obtain ⟨yk,yn,ys,yl⟩:=y;refine dI ?_;refine iX (gW hx) ?_;refine iX (gW hy) ?_;refine cD Xk TN ?_;refine br ?_ ?_<;>intro h
    ·have bg:sameV (.mk xk xn xs xl) (.mk yk yn ys yl)=false:=sU h;refine (congrArg (fun b=>DV.v (.bool b)) ?_:_=_);rw [aJ,bg,Bool.false_and]
    ·have bg:sameV (.mk xk xn xs xl) (.mk yk yn ys yl)=true:=sU h;rw [bg,Bool.true_and] at aJ;exact rE ⟨_,by omega,e + 1,rfl,by omega,aJ,rfl⟩ (ah ⟨_,rfl⟩ wA rfl rfl rfl (cX (aF aj (by omega))))
   ·have aM:ks.length<=e:=sV h1 h;rw [List.drop_of_length_le (by omega),List.drop_of_length_le (by omega)] at aJ;refine (congrArg (fun b=>DV.v (.bool b)) ?_:_=_);rw [aJ];simp [sameVs]
theorem uy (a:Val) (ha:a.wt<=1099511627776) (b:Val):aQ prog 26 [.agg (dVal a),.agg (dVal b)] (.v (.bool (sameV a b))):=by
 have h:=ux _ a (Nat.le_refl _) ha b;obtain ⟨q,n,s,ks⟩:=a;obtain ⟨bk,bn,bs,bl⟩:=b;refine eG 8 [.tmp 4] func26 rfl ntmps26 rfl fun _ _ _ _=>?_;refine cP Xk h ?_;exact (rfl:_=_)
section
variable (a b:Nat) (A B:List (List DV)) (rt:Int) {ND:List Nd} {L:Nat} (bm:∀ n∈ND,cz L ND.length n)
include bm
end
end Go.Proofs.YtadhpeooehkklaaGreat
set_option maxRecDepth 100000
namespace Go.Proofs.YtadhpeooehkklaaGreat
open Go Go.RowKit Dv Go.Proofs.Tryz
end Go.Proofs.YtadhpeooehkklaaGreat
set_option maxRecDepth 100000
namespace Go.Proofs.YtadhpeooehkklaaGreat
open Go Go.RowKit Dv Go.Proofs.Tryz
def lX:Sch:=⟨[⟨⟨#[97]⟩,0⟩],[],[],.mk ⟨2,0,3,9,0,[],⟨av,0⟩⟩ .nil⟩
theorem K3:(lO lX).1=0:=by decide +kernel
theorem O5:HL (bN (aV lX)) 0=true:=by decide +kernel
theorem O6:HL (qb (aV lX)) 0=true:=by decide +kernel
theorem RE:bS (aV lX) (bi (aV lX)) (0:Int).toNat=dz 2 3:=by kernel_rfl
theorem RF:Q8 (aV lX) (bi (aV lX)) (qa (aV lX)) (0:Int).toNat=dz 2 4:=by kernel_rfl
theorem O7:∀ n∈aV lX,n.ag=2 -> -9223372036854775808<=n.lo/\n.hi<=9223372036854775807:=by
 have h:(aV lX).all (fun n=>decide (-9223372036854775808<=n.lo) && decide (n.hi<=9223372036854775807))=true:=by decide +kernel
 intro n hn _;have:=List.all_eq_true.1 h n hn;rw [Bool.and_eq_true] at this;exact ⟨of_decide_eq_true this.1,of_decide_eq_true this.2⟩
theorem jX:aQ prog 21 [] (.v (.bool true)):=by
 have yB:lX.wt<=1099511627776:=by decide +kernel
 have hb:=(xj lX yB).mono (Ψ:=fun r _ _=>Ho lX r) fun _ _ _ h=>Au yB h;refine eG 44 [.tmp 0] func21 rfl ntmps21 rfl fun _ _ _ _=>?_;refine ki W3 rfl hb ax (fun r hr=>?_);rcases hr with ⟨hr,_⟩ | ⟨_,PC,hP,rfl⟩
 ·exact (hr K3).elim
 have h1:=Fe hP 0;rw [O5,if_pos rfl,RE] at h1;have h2:=CD hP O7 0;rw [O6,if_pos rfl,RF] at h2;refine cP en32 h1 ?_;refine cP en33 h2 ?_;exact (rfl:_=_)
theorem FA (S:Sch) (hS:S.wt<=1099511627776):Ev prog 20 [.agg (fQ S)] [] [] (fun r _ _=>Tb S r):=by
 have ga:=B2 S hS;have QL:=B9 S hS;unfold Tb;generalize lO S=R at QL ⊢;obtain ⟨ae,order,types,⟨rh,rp⟩⟩:=S;refine eG 12 [.tmp 2] func20 rfl ntmps20 rfl fun _ _ _ _=>?_;refine ki en8 rfl ga ax (fun r hr=>?_);obtain ⟨g,rfl⟩:=hr
 cases g with
 | true=>
  exact ⟨false,rfl,fun h=>by cases h⟩
 | false=>
  refine cP en60 QL ?_;refine ⟨_,U8 _ _ R (0,0),?_⟩;refine ⟨_,rfl,fun h=>?_⟩;simp [pickB] at h;exact h.1
abbrev K4 (A B:List (List DV)) (ND:List Nd) (rt:Int):List DV:=yK 2 1 A B ND rt (bi ND) (qL (bi ND) (qa ND)) (bN ND) (qb ND)
theorem FB {L:Nat} {ND:List Nd} (A B:List (List DV)) (rt:Int) (bm:∀ n∈ND,cz L ND.length n) (bL:∀ n∈ND,n.ai.length<=1099511627776) {j:Nat} (h:(bN ND).getD j 0≠0) :
  aQ prog 30 [.agg (K4 A B ND rt),.v (.int .i64 j)] (.agg (dVal (bS ND (bi ND) j))):=by
 have h0:=(mS (fK ND)).1.1 (Nat.pos_of_ne_zero h);exact rJ 2 1 A B ND rt (bi ND) _ _ _ (fK ND) bm bL ND.length j (CB (fK ND) h0) h0 ((fK ND).le j)
theorem oW {l:List Val} {e:Nat} {v:Val} (h:l[e]? = some v):dVals (l.take e) ++ [dVal v]=dVals (l.take (e + 1)):=by
 rw [dn h,bP,bP,List.map_append];all_goals rfl
section
variable (PC:List DV) (ND:List Nd) (D:List Nat) (K:List Bool) (sz ot:List Nat) {L:Nat}
abbrev RG (k:Int) (l:List Val):List DV:=[.v (.int .i64 k),.v (.int .i64 0),.v (.string .empty),.sl 4 (dVals l) (some 0)]
abbrev aay (s:cQ) (d:Nd) (x:Val) (l:List Val) (n e:Nat):St:=
 ⟨[(0,⟨[],.pt (mQ PC ND D K sz ot) 0⟩),(9,⟨[],.loc 1 0⟩),(10,⟨[],.loc 2 0⟩),(11,⟨[],.loc 3 0⟩),(12,⟨[],.loc 4 0⟩),(30,⟨[],.v (.int .i64 s.n)⟩),(31,⟨[],.v (.int .i64 e)⟩)],[jJ s,dVal x,zc,gv d,RG d.ag l],[⟨n,34,4,none⟩]⟩
abbrev aaz (s:cQ) (d:Nd) (k:Nat) (x:Val) (l:List Val) (n e:Nat):St:=
 ⟨[(0,⟨[],.pt (mQ PC ND D K sz ot) 0⟩),(2,⟨[],.v (.int .i64 k)⟩),(9,⟨[],.loc 1 0⟩),(10,⟨[],.loc 2 0⟩),(12,⟨[],.loc 4 0⟩),(49,⟨[],.sl 10 (cw d.ai) none⟩),(50,⟨[],.v (.int .i64 (cw d.ai).length)⟩),(51,⟨[],.v (.int .i64 e)⟩)],[jJ s,dVal x,zc,gv d,RG d.ag l],[⟨n,34,4,none⟩]⟩
end
theorem CL {S:Sch} {ND:List Nd} {PC:List DV} (hP:eW S ND PC) (K:List Bool) (sz ot:List Nat) {q:Pl} (hq:tC ND q) (o0:iA (bi ND) q=true) (hD:∃ x,q.d.ai[q.k]? = some x/\bY (bi ND) x≠0) (x:Val) :
  aQ prog 128 [.pt (mQ PC ND (bi ND) K sz ot) 0,.v (.int .i64 q.i),.v (.int .i64 q.k),.agg (jJ q.s),.agg (dVal x)] (.agg (dVal (uN (bS ND (bi ND)) q x))):=by
 have hN:=hP.ok _ (mG hq.ak);have dY:=hP.KK _ (mG hq.ak);obtain ⟨k1,k5,k2,k3,k4,Vm⟩:=ld hq;have cj:=fun (j:Nat) h=>A0 hP sz ot K (j:=j) h
 have jF:∀ {e:Ed},bY (bi ND) e≠0->(bN ND).getD e.to.toNat 0≠0:=fun {e} h=>by
  have:=(mS (fK ND) (i:=e.to.toNat)).1.2 (Nat.pos_of_ne_zero h);exact Nat.ne_of_gt this
 obtain ⟨y,hy,hyD⟩:=hD;have VK:=fun c=>CE hP.ok hq hy c
 have hR:uN (bS ND (bi ND)) q x=if q.s.k=2 then .mk q.d.ag 0 av (List.replicate q.s.n.toNat (bS ND (bi ND) (to0 q.d).toNat) ++ [x])
  else if q.s.k=1 then .mk q.d.ag 0 av ((q.d.ai.map fun e=>bS ND (bi ND) e.to.toNat).set q.k x)
  else .mk q.d.ag (if q.s.k=5 then q.k else 0) av [x]:=rfl
 unfold iA at o0;simp only [Bool.and_eq_true,decide_eq_true_eq] at o0;have eI:=hq.ak;have aU:=hN.fD;have cS:=hN.bare;have oi:=hN.ua;generalize uN (bS ND (bi ND)) q x=R at hR ⊢;generalize bS ND (bi ND)=F at hR cj;obtain ⟨i,d,k,s⟩:=q;obtain ⟨ag,aS,lo,hi,most,af,es⟩:=d;obtain ⟨sk,sn,ss⟩:=s;obtain ⟨xk,xn,xs,xl⟩:=x;simp only at *;have bA:=aO es;refine eG 87 [.cell 10 34] func128 rfl ntmps128 rfl fun _ _ _ _=>?_;refine iX (bV eI) ?_;refine br ?_ ?_<;>intro c
 ·have c:sk=2:=sU c;obtain ⟨c5,kJ,zg⟩:=k2 c;obtain ⟨gh,hk0,ht0⟩:=VK (.inl c5);have yH:es[0]? = some y:=by rw [gh];all_goals rfl
  rw [if_pos c,ht0] at hR;have oi:=oi c5
  have Vu:y.bare=false:=by
   cases hb:y.bare with
   | false=>rfl
   | true=>have:=cS y (mG yH) hb;omega
  obtain ⟨t,ht,gJ⟩:=(aU y (mG yH)).to1 Vu;have cj:=cj y.to.toNat (jF hyD);have TH:((y.to.toNat:Nat):Int)=y.to:=by rw [ht,Int.toNat_natCast]
  rw [TH] at cj;generalize F y.to.toNat=u at cj hR;obtain ⟨uk,un,us,ul⟩:=u;obtain ⟨en,eb,ea,et,vi,ew,yD,yE,yF,yG⟩:=y;simp only at cj;refine lJ (fun e=>aay PC ND (bi ND) K sz ot ⟨sk,sn,ss⟩ ⟨ag,aS,lo,hi,most,af,es⟩ (.mk xk xn xs xl) (List.replicate e (.mk uk un us ul)) e e) sn.toNat (cL 5 ⟨0,34,4,none⟩ rfl rfl rfl pB rfl rfl lY) ?_;intro e he;have rV:(dVals (List.replicate e (.mk uk un us ul))).length=e:=by rw [bQ,List.length_replicate]
  refine br ?_ ?_<;>intro hL
  ·have aj:e < sn.toNat:=by
    have:(e:Int) < sn:=sU hL;omega
   have du:dVals (List.replicate e (.mk uk un us ul)) ++ [dVal (.mk uk un us ul)]=dVals (List.replicate (e + 1) (.mk uk un us ul)):=by
    rw [List.replicate_succ',bP,bP,List.map_append];all_goals rfl
   refine dS ?_;refine iX (aC yH) ?_;refine cD yV cj ?_;refine ⟨rV,⟨by rw [rV];simp [maxLen];omega,by rw [rV];simp;omega⟩,?_⟩;exact rE ⟨_,by omega,e + 1,rfl,by omega,rfl⟩ (ap 5 rfl (gj (aF aj (by omega)) du) rfl rfl rfl (wB2 (aF aj (by omega)) du))
  ·have aM:e=sn.toNat:=by
    have:¬ (e:Int) < sn:=sU hL;omega
   subst aM;refine ⟨rV,⟨by rw [rV];simp [maxLen];omega,by rw [rV];simp;omega⟩,?_⟩
   have du:dVals (List.replicate sn.toNat (.mk uk un us ul)) ++ [dVal (.mk xk xn xs xl)]=dVals (List.replicate sn.toNat (.mk uk un us ul) ++ [.mk xk xn xs xl]):=by
    rw [bP,bP,List.map_append];all_goals rfl
   have hE:DV.sl 4 (dVals (List.replicate sn.toNat (.mk uk un us ul)) ++ [dVal (.mk xk xn xs xl)]) (some 0) = .sl 4 (dVals (List.replicate sn.toNat (.mk uk un us ul) ++ [.mk xk xn xs xl])) (some 0):=by rw [du]
   rw [hR];exact ⟨_,(gF hE),rfl⟩
 have c:¬ sk=2:=sU c;rw [if_neg c] at hR;refine br ?_ ?_<;>intro c1
 ·have c1:sk=1:=sU c1;obtain ⟨c7,_⟩:=k1 c1;have nj:=o0.2;simp [c1] at nj;have nj:=kH.1 nj;rw [if_pos c1] at hR;have ee:=(gS hy).1;obtain ⟨W,hW⟩:∃ W,W=(es.map fun e=>F e.to.toNat).set k (.mk xk xn xs xl):=⟨_,rfl⟩;rw [<- hW] at hR;have hWl:W.length=es.length:=by rw [hW,List.length_set,List.length_map]
  have hWk:W[k]? = some (.mk xk xn xs xl):=by rw [hW];exact List.getElem?_set_self (sU ee)
  have hWo:∀ (j:Nat) z,j≠k->es[j]? = some z->W[j]? = some (F z.to.toNat):=fun j z hj hz=>by
   rw [hW,List.getElem?_set_ne (Ne.symm hj),List.getElem?_map,hz];all_goals rfl
  clear hW;refine lJ (fun e=>aaz PC ND (bi ND) K sz ot ⟨sk,sn,ss⟩ ⟨ag,aS,lo,hi,most,af,es⟩ k (.mk xk xn xs xl) (W.take e) e e) es.length (cL 5 ⟨0,34,4,none⟩ rfl rfl rfl pB rfl rfl lY) ?_;intro e he;refine br ?_ ?_<;>intro hL
  ·have aj:e < es.length:=sV bA hL;have rV:(dVals (W.take e)).length=e:=by rw [bQ,List.length_take];omega
   obtain ⟨z,hz⟩:=gX aj;refine iX (aC hz) ?_;refine br ?_ ?_<;>intro g
   ·have gn:¬ e=k:=by
     intro Ve;rw [Ve] at g;simp at g
    have hzb:z.bare=false:=by
     cases hb:z.bare with
     | false=>rfl
     | true=>have:=cS z (mG hz) hb;omega
    obtain ⟨t,ht,gJ⟩:=(aU z (mG hz)).to1 hzb;have cj:=cj z.to.toNat (jF (nj e z hz (by omega)));have TH:((z.to.toNat:Nat):Int)=z.to:=by rw [ht,Int.toNat_natCast]
    rw [TH] at cj;have du:=oW (hWo e z gn hz);generalize F z.to.toNat=u at cj du;obtain ⟨uk,un,us,ul⟩:=u;obtain ⟨en,eb,ea,et,vi,ew,yD,yE,yF,yG⟩:=z;simp only at cj;refine dS ?_;refine cD yV cj ?_;refine ⟨rV,⟨by rw [rV];simp [maxLen];omega,by rw [rV];simp;omega⟩,?_⟩;exact rE ⟨_,by omega,e + 1,rfl,by omega,rfl⟩ (ap 5 rfl (gj (aF aj (by omega)) du) rfl rfl rfl (wB2 (aF aj (by omega)) du))
   ·have gn:e=k:=by
     have:(e:Int)=k:=sU g;omega
    have du:=oW (l:=W) (e:=e) (by rw [gn];exact hWk);refine ⟨rV,⟨by rw [rV];simp [maxLen];omega,by rw [rV];simp;omega⟩,?_⟩;exact rE ⟨_,by omega,e + 1,rfl,by omega,rfl⟩ (ap 5 rfl (gj (aF aj (by omega)) du) rfl rfl rfl (wB2 (aF aj (by omega)) du))
  ·have aM:e=es.length:=sW bA hL;subst aM;rw [<- hWl,List.take_length,hR];exact ⟨_,ax,rfl⟩
 have c1:¬ sk=1:=sU c1;rw [if_neg c1] at hR;have c3:=o0.1;refine br ?_ ?_<;>intro c5
 ·have c5:sk=5:=sU c5;rw [if_pos c5] at hR;refine ⟨⟨by simp [maxLen],by simp⟩,?_⟩;rw [hR];exact ⟨_,ax,rfl⟩
 ·have c5:¬ sk=5:=sU c5;rw [if_neg c5] at hR;refine ⟨⟨by simp [maxLen],by simp⟩,?_⟩;rw [hR];exact ⟨_,ax,rfl⟩
def K5:Option Val->DV
 | some v=>.tup [.agg (dVal v),.v (.bool true)]
 | none=>.tup [.agg (dVal zeroV),.v (.bool false)]
theorem K6 {sz:List Nat} {l:List Pl} {e:Nat} {q:Pl} (h:l[e]? = some q):totF sz (l.take (e + 1))=totF sz (l.take e) + yJ sz q:=by
 rw [dn h,A3]
section
variable (PC:List DV) (ND:List Nd) (D:List Nat) (K:List Bool) (sz ot:List Nat) (p:List cQ) (l:List Pl)
abbrev aaB (x:Val) (j m e:Nat):St:=
 ⟨[(0,⟨[],.pt (mQ PC ND D K sz ot) 0⟩),(1,⟨[],.sl 3 (aP p) none⟩),(5,⟨[],.loc 0 0⟩),(6,⟨[],.loc 1 0⟩),(8,⟨[],.v (.int .i64 j)⟩),(11,⟨[],.sl 1 (dInts (Fp l)) none⟩),(12,⟨[],.sl 1 (dInts (Fq l)) none⟩),(13,⟨[],.v (.int .i64 m)⟩),(58,⟨[],.sl 3 (aP p) none⟩),(59,⟨[],.v (.int .i64 (aP p).length)⟩),(60,⟨[],.v (.int .i64 e)⟩)],[dVal x,zc],[]⟩
abbrev O8 (x:Val) (j:Int):St:=
 ⟨[(0,⟨[],.pt (mQ PC ND D K sz ot) 0⟩),(1,⟨[],.sl 3 (aP p) none⟩),(5,⟨[],.loc 0 0⟩),(6,⟨[],.loc 1 0⟩),(11,⟨[],.sl 1 (dInts (Fp l)) none⟩),(12,⟨[],.sl 1 (dInts (Fq l)) none⟩),(16,⟨[],.v (.int .i64 j)⟩)],[dVal x,zc],[]⟩
end
set_option maxHeartbeats 4000000 in
theorem FC {S:Sch} {ND:List Nd} {PC:List DV} (hP:eW S ND PC) (ot:List Nat) (K:List Bool) (p:List cQ) (hp:p.length<=1099511627776) (hs:∀ s∈p,s.s.size<=4611686018427387904) (rt:Nat) (yI:fT S=rt) (ed:rt < ND.length) (x:Val) (hx:x.wt<=1099511627776) :
  aQ prog 62 [.pt (mQ PC ND (bi ND) K (bN ND) ot) 0,.sl 3 (aP p) none,.agg (dVal x)] (K5 (nd ND (bN ND) (bi ND) (walkV ND (dX S) S.ae.length p rt (jK (dX S) S.ae.length)) (stpsV ND p rt) x)):=by
 have hw:=yr hP p hp hs rt yI ed;have lE:=dO p
 have bL:∀ z∈bN ND,z<=4097:=fun z hz=>by
  obtain ⟨i,hi,rfl⟩:=List.getElem_of_mem hz;have:=(mS (fK ND) (i:=i)).2
  rwa [List.getD_eq_getElem?_getD,gE hi] at this
 have hszl:(bN ND).length=ND.length:=ry _ _;have Pm:(bi ND).length=ND.length:=bp _ _;have ow:=(ve x).1;have UQ:=ub _ x (Nat.le_refl _) hx
 cases hW:walkV ND (dX S) S.ae.length p rt (jK (dX S) S.ae.length) with
 | none=>
  rw [hW] at hw;have hw:aQ prog 76 [.pt PC 0,.sl 3 (aP p) none] (.tup [.v (.int .i64 (-1)),.v (.int .i64 (-1)),.v (.bool false)]):=hw;obtain ⟨xk,xn,xs,xl⟩:=x;refine eG 117 [.cell 6 34,.tmp 7] func62 rfl ntmps62 rfl fun _ _ _ _=>?_;refine cP L3 hw ?_;refine dI ?_;exact ⟨.tup [.agg (dVal zeroV),.v (.bool false)],ax,rfl⟩
 | some jb=>
 obtain ⟨j,b⟩:=jb;rw [hW] at hw;have hw:aQ prog 76 [.pt PC 0,.sl 3 (aP p) none] (.tup [.v (.int .i64 (j:Nat)),.v (.int .i64 (b:Nat)),.v (.bool true)]):=hw;have ng:=pV hP _ x (Nat.le_refl _) hx j;have O9:=Fs (bi ND) K (bN ND) ot hP Pm hP.KK p hp hs rt yI ed hW;have hplc:=rG hP hP.KK p hp hs rt yI ed hW;have eL:=tget_spec hP hx j [] (by simp);have VN:=oV hP.ok (fK ND) p rt _ hW;have PE:=vo hP.ok (fK ND) x j;obtain ⟨xc,nr⟩:=og p rt _ hW;have qH:=fun (q:Pl) (hq:tC ND q)=>CH PC ND (bi ND) K (bN ND) ot hq hszl bL (hP.ok _ (mG hq.ak)) (hP.KK _ (mG hq.ak));have aaC:=fun (q:Pl) (hq:tC ND q) h1 h2=>CL hP K (bN ND) ot hq h1 h2;have hFl:nd ND (bN ND) (bi ND) (some (j,b)) (stpsV ND p rt) x=if fitV ND x j=true/\(stpsV ND p rt).all (iA (bi ND))=true/\jz x + totF (bN ND) (stpsV ND p rt) < 4097 then some (alnV (bS ND (bi ND)) (stpsV ND p rt) x) else none:=rfl
 rw [hFl];clear hFl hW;generalize Wg:stpsV ND p rt=l at *;have aaj:(dInts (Fp l)).length=p.length:=by rw [aZ,List.length_map,xc]
 have aak:(dInts (Fq l)).length=p.length:=by rw [aZ,List.length_map,xc]
 have aaD:∀ e:Nat,e<=p.length->IntKind.i64.wrap ((e:Int) - 1)=(e:Int) - 1:=fun e he=>wrap64 (by omega) (by omega)
 cases hf:fitV ND x j with
 | false=>
  rw [hf] at ng;rw [if_neg (by simp)];obtain ⟨xk,xn,xs,xl⟩:=x;refine eG 117 [.cell 6 34,.tmp 7] func62 rfl ntmps62 rfl fun _ _ _ _=>?_;refine cP L3 hw ?_;refine dI ?_;refine cD L2 ng ?_;exact ⟨.tup [.agg (dVal zeroV),.v (.bool false)],ax,rfl⟩
 | true=>
 rw [hf] at ng;rw [hf,if_pos rfl] at eL;have eL:aQ prog 17 [.pt PC 0,.v (.int .i64 j),.agg (dVal x),.sl 3 [] none] (.tup [.agg (dVal x),.v (.int .i64 (j:Nat)),.v (.bool true)]):=eL
 cases ha:l.all (iA (bi ND)) with
 | false=>
  rw [ha] at O9;rw [if_neg (by simp)];obtain ⟨xk,xn,xs,xl⟩:=x;refine eG 117 [.cell 6 34,.tmp 7] func62 rfl ntmps62 rfl fun _ _ _ _=>?_;refine cP L3 hw ?_;refine dI ?_;refine cD L2 ng ?_;refine cD RZ O9 ?_;exact ⟨.tup [.agg (dVal zeroV),.v (.bool false)],ax,rfl⟩
 | true=>
 rw [ha] at O9;have hdq:=(VN ha (by have:=PE hf;simpa using this)).2
 have qV:∀ (e:Nat) q (y:Val),l[e]? = some q->aQ prog 128 [.pt (mQ PC ND (bi ND) K (bN ND) ot) 0,.v (.int .i64 q.i),.v (.int .i64 q.k),.agg (jJ q.s),.agg (dVal y)] (.agg (dVal (uN (bS ND (bi ND)) q y))):=fun e q y hq=>by
  obtain ⟨s,tP⟩:∃ s,p[e]? = some s:=⟨_,gE (by have:=(gS hq).1;omega)⟩;obtain ⟨q',_,iR,_,bm,_⟩:=nr e s tP;rw [hq] at iR;cases iR;have hm:=mG hq;exact aaC q bm (List.all_eq_true.1 ha q hm) (hdq q hm) y
 have aaE:(True/\True/\jz x + totF (bN ND) l < 4097)↔aY (jz x + totF (bN ND) l)≠4097:=by
  unfold aY;simp only [true_and];omega
 have aaF:=ng;have aaG:=O9;clear aaC VN PE hdq ng O9 hf aaE;generalize hF:bS ND (bi ND)=F at *;have FK:jz x + totF (bN ND) l < 4097↔aY (jz x + totF (bN ND) l)≠4097:=by unfold aY;omega
 generalize hT:totF (bN ND) l=T at *;generalize hC:jz x=C at *;have yH:alnV F (l.drop p.length) x=x:=by rw [<- xc,List.drop_length];all_goals rfl
 generalize hXg:x=X at *;obtain ⟨xk,xn,xs,xl⟩:=X;refine eG 117 [.cell 6 34,.tmp 7] func62 rfl ntmps62 rfl fun _ _ _ _=>?_;refine cP L3 hw ?_;refine dI ?_;refine cD L2 aaF ?_;refine cD RZ aaG ?_;refine cP R0 hplc ?_;refine cP W4 UQ ?_;refine cP nc (dP C) ?_;refine lJ (fun e=>aaB PC ND (bi ND) K (bN ND) ot p l (.mk xk xn xs xl) j (aY (C + totF (bN ND) (l.take e))) e) p.length (ap 2 rfl wA rfl rfl rfl wB) ?_;intro e he;refine br ?_ ?_<;>intro hL
 ·have aj:e < p.length:=sV lE hL;obtain ⟨s,tP⟩:=gX aj;obtain ⟨q,b2,hq,KQ,bm,_⟩:=nr e s tP;have qH:=qH q bm;have kM:=K6 (sz:=bN ND) hq;have Oj:(dInts (Fp l))[e]? = some [.v (.int .i64 ((q.i:Nat):Int))]:=aD (by rw [List.getElem?_map,hq];rfl);have Tk:(dInts (Fq l))[e]? = some [.v (.int .i64 ((q.k:Nat):Int))]:=aD (by rw [List.getElem?_map,hq];rfl);generalize yJ (bN ND) q=X at qH kM;have Ia:=fm (C + totF (bN ND) (l.take e));have lf:=fm X;have QL:=wrapN (a:=aY (C + totF (bN ND) (l.take e))) (b:=aY X) (by omega) (by omega);have rF:aY (aY (C + totF (bN ND) (l.take e)) + aY X)=aY (C + totF (bN ND) (l.take (e + 1))):=by rw [kM,tB,VE,Nat.add_assoc]
  have eE:=aF aj (show p.length<=4611686018427387904 by omega);subst KQ;obtain ⟨qi,qd,qk,qs⟩:=q;obtain ⟨sk,sn,ss⟩:=qs;simp only at tP Oj Tk qH;refine iX (dE tP) ?_;refine dI ?_;refine ⟨_,⟨by omega,Oj⟩,?_⟩;refine ⟨_,⟨by omega,Tk⟩,?_⟩;refine cD XA qH ?_;refine cD nc (dP (aY (C + totF (bN ND) (l.take e)) + aY X)) ?_ (gF QL);exact rE ⟨_,by omega,e + 1,rfl,by omega,rfl⟩ (ap 2 rfl (gj eE rF) rfl rfl rfl (wB2 eE rF))
 have aM:e=p.length:=sW lE hL;subst aM;rw [<- xc,List.take_length,hT];refine br ?_ ?_<;>intro c
 ·have c:aY (C + T)=4097:=by
   have:((aY (C + T):Nat):Int)=4097:=sU c;omega
  rw [if_neg (fun h=>(FK.1 h.2.2) c)];exact ⟨.tup [.agg (dVal zeroV),.v (.bool false)],ax,rfl⟩
 have c:aY (C + T)≠4097:=by
  intro h;rw [h] at c;simp at c
 rw [if_pos ⟨rfl,rfl,FK.2 c⟩];have vJ:IntKind.i64.wrap (((aP p).length:Int) - 1)=(p.length:Int) - 1:=by rw [lE];exact aaD _ (Nat.le_refl _)
 refine dS ?_;refine cD en17 eL ?_;refine bo (fun i st=>∃ (e:Nat) (y:Val),st=O8 PC ND (bi ND) K (bN ND) ot p l y ((e:Int) - 1)/\e<=p.length/\y=alnV F (l.drop e) (.mk xk xn xs xl)/\e=i) p.length (O8 PC ND (bi ND) K (bN ND) ot p l (.mk xk xn xs xl) ((p.length:Int) - 1)) (ap 2 rfl (na vJ) rfl rfl rfl (cX vJ)) ⟨p.length,_,rfl,by omega,yH.symm,rfl⟩ ?_;rintro i st ⟨e,y,rfl,he,hy,rfl⟩;refine br ?_ ?_<;>intro hL
 ·have hL:0<=(e:Int) - 1:=sU hL;obtain ⟨n,rfl⟩:∃ n,e=n + 1:=⟨e - 1,by omega⟩;have zg:((n + 1:Nat):Int) - 1=(n:Nat):=by omega
  obtain ⟨s,tP⟩:∃ s,p[n]? = some s:=⟨_,gE (by omega)⟩;obtain ⟨q,b2,hq,KQ,bm,_⟩:=nr n s tP;have har:=qV n q y hq;have hny:uN F q y=alnV F (l.drop n) (.mk xk xn xs xl):=by rw [drop_cons hq,alnV,hy]
  have Oj:(dInts (Fp l))[n]? = some [.v (.int .i64 ((q.i:Nat):Int))]:=aD (by rw [List.getElem?_map,hq];rfl);have Tk:(dInts (Fq l))[n]? = some [.v (.int .i64 ((q.k:Nat):Int))]:=aD (by rw [List.getElem?_map,hq];rfl);have hw2:IntKind.i64.wrap (((n + 1:Nat):Int) - 1 - 1)=(n:Int) - 1:=by rw [zg];exact aaD n (by omega)
  generalize uN F q y=Y at har hny;subst KQ;obtain ⟨qi,qd,qk,qs⟩:=q;obtain ⟨sk,sn,ss⟩:=qs;obtain ⟨Yk,Yn,Ys,Yl⟩:=Y;obtain ⟨yk,yn,ys,yl⟩:=y;simp only at tP Oj Tk har;refine dS ?_;refine ⟨_,⟨by omega,by rw [zg];exact Oj⟩,?_⟩;refine ⟨_,⟨by omega,by rw [zg];exact Tk⟩,?_⟩;refine ⟨_,⟨by omega,by rw [zg];exact dE tP⟩,?_⟩;refine cD XB har ?_;exact ⟨O8 PC ND (bi ND) K (bN ND) ot p l (.mk Yk Yn Ys Yl) ((n:Int) - 1),(ap 2 rfl (na hw2) rfl rfl rfl (cX hw2)),n,by omega,n,_,rfl,by omega,hny,rfl⟩
 ·have hL:¬ 0<=(e:Int) - 1:=sU hL;have he0:e=0:=by omega
  subst he0;rw [List.drop_zero] at hy;rw [<- hy];obtain ⟨yk,yn,ys,yl⟩:=y;exact ⟨.tup [.agg (dVal (.mk yk yn ys yl)),.v (.bool true)],ax,rfl⟩
section
variable (A B:List (List DV)) (ND:List Nd) (rt:Int) {L:Nat}
abbrev aaH (d:Nd) (p:List cQ) (x y:Val) (k:Int) (l:List Val) (n e:Nat):St:=
 ⟨[(2,⟨[],.sl 3 (aP p) none⟩),(4,⟨[],.loc 0 0⟩),(8,⟨[],.loc 2 0⟩),(9,⟨[],.loc 3 0⟩),(10,⟨[],.v (.int .i64 k)⟩),(11,⟨[],.loc 4 0⟩),(12,⟨[],.loc 5 0⟩),(13,⟨[],.v (.int .i64 e)⟩)],[K4 A B ND rt,dVal x,zc,gv d,dVal y,RG d.ag l],[⟨n,34,4,none⟩]⟩
abbrev Tr (d:Nd) (x y:Val) (k:Int) (l:List Val) (n e:Nat):St:=
 ⟨[(4,⟨[],.loc 0 0⟩),(8,⟨[],.loc 2 0⟩),(9,⟨[],.loc 3 0⟩),(10,⟨[],.v (.int .i64 k)⟩),(11,⟨[],.loc 4 0⟩),(12,⟨[],.loc 5 0⟩),(14,⟨[],.v (.int .i64 e)⟩)],[K4 A B ND rt,dVal x,zc,gv d,dVal y,RG d.ag l],[⟨n,34,4,none⟩]⟩
set_option maxHeartbeats 4000000 in
theorem rK {f:Nat->Nat->Bool} {m:Nat} (bm:∀ n∈ND,cz L ND.length n) (bL:∀ n∈ND,n.ai.length<=1099511627776) (x:Val) :
  ∀ (p:List cQ),p.length<=1099511627776->(∀ s∈p,s.s.size<=4611686018427387904)->∀ (i a':Nat) {r:Nat × Nat},i < ND.length->walkV ND f m p i a'=some r->(∀ q∈stpsV ND p i,iA (bi ND) q=true/\∃ x,q.d.ai[q.k]? = some x/\bY (bi ND) x≠0) ->
   aQ prog 74 [.agg (K4 A B ND rt),.v (.int .i64 i),.sl 3 (aP p) none,.agg (dVal x)] (.agg (dVal (alnV (bS ND (bi ND)) (stpsV ND p i) x)))
 | [],_,_,i,a',r,hi,_,_=>by
  obtain ⟨xk,xn,xs,xl⟩:=x;rw [show alnV (bS ND (bi ND)) (stpsV ND [] i) (.mk xk xn xs xl) = .mk xk xn xs xl from rfl];refine eG 113 [.cell 8 34] func74 rfl ntmps74 rfl fun _ _ _ _=>?_;exact ⟨_,ax,rfl⟩
 | s :: p,hp,hs,i,a',r,hi,hw,fo=>by
  obtain ⟨d,k,y,hd,hk,hy,hw2⟩:=mU hw;have hm:=mG hd;have hN:=bm d hm;have dY:=bL d hm;have yC:=oh d s dY (hs s (by simp));rw [hk] at yC;obtain ⟨Kk,Ws⟩:∃ K:Int,K=(k:Int):=⟨_,rfl⟩;have yC:aQ prog 138 [.agg (gv d),.agg (jJ s)] (.v (.int .i64 Kk)):=by rw [Ws];exact yC
  have QJ:0<=Kk:=by omega
  have hKt:Kk.toNat=k:=by omega
  have hq:tC ND ⟨i,d,k,s⟩:=⟨hd,hk⟩;obtain ⟨k1,k5,k2,k3,k4,Vm⟩:=ld hq;have VK:=fun c=>CE bm hq hy c;obtain ⟨e',pF,hB',_⟩:=fL hk;rw [hy] at pF;cases pF;have Vu:=kG hN (mG hy) hB';obtain ⟨t,ht,gJ⟩:=(hN.fD y (mG hy)).to1 Vu;have FQ:y.to.toNat=t:=by rw [ht,Int.toNat_natCast]
  rw [FQ] at hw2;have ye:=OT s p;have CO:=dE (l:=s :: p) (e:=0) rfl;have OU:=dO (s :: p);rw [List.length_cons] at OU hp;rw [mT hd hk hy,FQ] at fo ⊢;have ih:=rK bm bL x p (by omega) (fun y hy=>hs y (by simp [hy])) t _ gJ hw2 (fun q hq=>fo q (by simp [hq]));obtain ⟨o0,y',fi,hyD⟩:=fo _ (List.mem_cons_self ..);have aaI:d.ai[k]? = some y':=fi;rw [hy] at aaI;cases aaI;rw [<- ht] at ih;show aQ _ _ _ (.agg (dVal (uN (bS ND (bi ND)) ⟨i,d,k,s⟩ (alnV (bS ND (bi ND)) (stpsV ND p t) x))));generalize alnV (bS ND (bi ND)) (stpsV ND p t) x=Y at ih ⊢;have cj:=fun (j:Nat) h=>FB A B rt bm bL (j:=j) h
  have jF:∀ {e:Ed},bY (bi ND) e≠0->(bN ND).getD e.to.toNat 0≠0:=fun {e} h=>by
   have:=(mS (fK ND) (i:=e.to.toNat)).1.2 (Nat.pos_of_ne_zero h);exact Nat.ne_of_gt this
  have hR:uN (bS ND (bi ND)) ⟨i,d,k,s⟩ Y=if s.k=2 then .mk d.ag 0 av (List.replicate s.n.toNat (bS ND (bi ND) (to0 d).toNat) ++ [Y])
   else if s.k=1 then .mk d.ag 0 av ((d.ai.map fun e=>bS ND (bi ND) e.to.toNat).set k Y)
   else .mk d.ag (if s.k=5 then k else 0) av [Y]:=rfl
  unfold iA at o0;simp only [Bool.and_eq_true,decide_eq_true_eq] at o0;have aU:=hN.fD;have cS:=hN.bare;have oi:=hN.ua;generalize uN (bS ND (bi ND)) ⟨i,d,k,s⟩ Y=R at hR ⊢;generalize bS ND (bi ND)=F at hR cj;obtain ⟨ag,aS,lo,eC,most,af,es⟩:=d;obtain ⟨sk,sn,ss⟩:=s;obtain ⟨xk,xn,xs,xl⟩:=x;obtain ⟨Yk,Yn,Ys,Yl⟩:=Y;simp only at k1 k5 k2 k3 k4 Vm VK o0 aU cS oi dY hy hR;have bA:=aO es;refine eG 113 [.cell 8 34] func74 rfl ntmps74 rfl fun _ _ _ _=>?_;refine iX (bV hd) ?_;refine dI ?_;refine ⟨_,⟨by omega,CO⟩,?_⟩;refine cD Ii yC ?_;apply Rc (fun _=>false) 11 [0,1,2,3,4,5,6,7,8,9,10] [12] mo (by decide +kernel);·repeat' (first | refine ⟨_,⟨QJ,by rw [hKt];exact aC hy⟩,?_⟩ | refine ⟨⟨by omega,by omega,by omega⟩,?_⟩ | refine cD Xj ih ?_ (gF ye) | exact Or.inl rfl | exact ZU | refine ⟨?_,?_⟩)
  obtain ⟨u,hu⟩:∃ u:Val,sk=2->es[0]? = some y/\u=F y.to.toNat/\to0 ⟨ag,aS,lo,eC,most,af,es⟩=y.to:=⟨F y.to.toNat,fun h2=>by
   obtain ⟨gh,_,ht0⟩:=VK (.inl (k2 h2).1)
   exact ⟨by rw [gh];rfl,rfl,ht0⟩⟩
  have hnn:sk≠2->sn.toNat=0:=fun h=>by omega
  have hn5:sn.toNat<=1024:=by
   by_cases h:sk=2
   ·have:=k2 h;have:=oi this.1;omega
   ·have:=hnn h;omega
  have Pa:sk=2->aQ prog 30 [.agg (K4 A B ND rt),.v (.int .i64 y.to)] (.agg (dVal u)):=fun h2=>by
   rw [(hu h2).2.1];have:=cj y.to.toNat (jF hyD)
   rwa [show ((y.to.toNat:Nat):Int)=y.to by rw [ht,Int.toNat_natCast]] at this
  obtain ⟨uk,un,us,ul⟩:=u;refine lJ (fun e=>aaH A B ND rt ⟨ag,aS,lo,eC,most,af,es⟩ (⟨sk,sn,ss⟩ :: p) (.mk xk xn xs xl) (.mk Yk Yn Ys Yl) Kk (List.replicate e (.mk uk un us ul)) e e) sn.toNat (cL 6 ⟨0,34,4,none⟩ rfl rfl rfl pB rfl rfl lY) ?_;intro e he;have rV:(dVals (List.replicate e (.mk uk un us ul))).length=e:=by rw [bQ,List.length_replicate]
  refine ⟨_,⟨by omega,CO⟩,?_⟩;refine br ?_ ?_<;>intro hL
  ·have aj:e < sn.toNat:=by
    have:(e:Int) < sn:=sU hL;omega
   have vE:sk=2:=Decidable.byContradiction fun h=>by have:=hnn h;omega
   have yH:=(hu vE).1;have Pa:=Pa vE
   have du:dVals (List.replicate e (.mk uk un us ul)) ++ [dVal (.mk uk un us ul)]=dVals (List.replicate (e + 1) (.mk uk un us ul)):=by
    rw [List.replicate_succ',bP,bP,List.map_append];all_goals rfl
   refine dS ?_;refine iX (aC yH) ?_;refine cD PY Pa ?_;refine ⟨rV,⟨by rw [rV];simp [maxLen];omega,by rw [rV];simp;omega⟩,?_⟩;exact rE ⟨_,by omega,e + 1,rfl,by omega,rfl⟩ (ap 6 rfl (gj (aF aj (by omega)) du) rfl rfl rfl (wB2 (aF aj (by omega)) du))
  have aM:e=sn.toNat:=by
   have:¬ (e:Int) < sn:=sU hL;omega
  subst aM;by_cases c7:ag=7
  ·have pv:sk=1:=by omega
   have du:sn.toNat=0:=hnn (by omega);rw [if_neg (by omega),if_pos pv] at hR;have ee:=(gS hy).1;have nj:=o0.2;simp [pv] at nj;have nj:=kH.1 nj;obtain ⟨W,hW⟩:∃ W,W=(es.map fun e=>F e.to.toNat).set k (.mk Yk Yn Ys Yl):=⟨_,rfl⟩;rw [<- hW] at hR;have hWl:W.length=es.length:=by rw [hW,List.length_set,List.length_map]
   have hWk:W[k]? = some (.mk Yk Yn Ys Yl):=by rw [hW];exact List.getElem?_set_self (sU ee)
   have hWo:∀ (j:Nat) z,j≠k->es[j]? = some z->W[j]? = some (F z.to.toNat):=fun j z hj hz=>by
    rw [hW,List.getElem?_set_ne (Ne.symm hj),List.getElem?_map,hz];all_goals rfl
   clear hW rV;rw [du];refine lJ (fun e=>Tr A B ND rt ⟨ag,aS,lo,eC,most,af,es⟩ (.mk xk xn xs xl) (.mk Yk Yn Ys Yl) Kk (W.take e) e e) es.length (ap 6 rfl wA rfl rfl rfl wB) ?_;intro e he;refine br ?_ ?_<;>intro hL
   ·have aj:e < es.length:=by
     have:=hL;simp [bA,c7,aq] at this;exact this
    have rV:(dVals (W.take e)).length=e:=by rw [bQ,List.length_take];omega
    obtain ⟨z,hz⟩:=gX aj;refine br ?_ ?_<;>intro g
    ·have g:e=k:=by
      have:(e:Int)=Kk:=sU g;omega
     have du:=oW (l:=W) (e:=e) (by rw [g];exact hWk);refine ⟨rV,⟨by rw [rV];simp [maxLen];omega,by rw [rV];simp;omega⟩,?_⟩;exact rE ⟨_,by omega,e + 1,rfl,by omega,rfl⟩ (ap 6 rfl (gj (aF aj (by omega)) du) rfl rfl rfl (wB2 (aF aj (by omega)) du))
    ·have gn:¬ e=k:=by
      intro h;rw [h,<- Ws] at g;simp at g
     have hzb:z.bare=false:=by
      cases hb:z.bare with
      | false=>rfl
      | true=>have:=cS z (mG hz) hb;omega
     obtain ⟨t2,ht2,ZT⟩:=(aU z (mG hz)).to1 hzb;have cj:=cj z.to.toNat (jF (nj e z hz (by omega)));rw [show ((z.to.toNat:Nat):Int)=z.to by rw [ht2,Int.toNat_natCast]] at cj;have du:=oW (hWo e z gn hz);generalize F z.to.toNat=u at cj du;obtain ⟨vk,vn,vs,vl⟩:=u;refine dS ?_;refine iX (aC hz) ?_;refine cD PY cj ?_;refine ⟨rV,⟨by rw [rV];simp [maxLen];omega,by rw [rV];simp;omega⟩,?_⟩;exact rE ⟨_,by omega,e + 1,rfl,by omega,rfl⟩ (ap 6 rfl (gj (aF aj (by omega)) du) rfl rfl rfl (wB2 (aF aj (by omega)) du))
   ·have aM:e=es.length:=by
     have:=hL;simp [bA,c7,aq] at this;omega
    subst aM;rw [<- hWl,List.take_length];refine br (fun c=>absurd c (by simp [c7])) (fun _=>?_);refine br (fun c=>absurd c (by simp [c7])) (fun _=>?_);rw [hR];exact ⟨_,ax,rfl⟩
  ·have pv:¬ sk=1:=by omega
   refine lI (fun j st=>st=Tr A B ND rt ⟨ag,aS,lo,eC,most,af,es⟩ (.mk xk xn xs xl) (.mk Yk Yn Ys Yl) Kk (List.replicate sn.toNat (.mk uk un us ul)) sn.toNat 0/\j=0) ⟨rfl,rfl⟩ (ap 6 rfl wA rfl rfl rfl wB) ?_;rintro j st ⟨rfl,rfl⟩;refine br ?_ ?_<;>intro hL
   ·exfalso;simp [c7,aq] at hL
   refine br (fun _=>?_) (fun c=>absurd c (by simp [c7]));refine ⟨rV,⟨by rw [rV];simp [maxLen];omega,by rw [rV];simp;omega⟩,?_⟩
   have du:dVals (List.replicate sn.toNat (.mk uk un us ul)) ++ [dVal (.mk Yk Yn Ys Yl)]=dVals (List.replicate sn.toNat (.mk uk un us ul) ++ [(.mk Yk Yn Ys Yl)]):=by
    rw [bP,bP,List.map_append];all_goals rfl
   have hE:DV.sl 4 (dVals (List.replicate sn.toNat (.mk uk un us ul)) ++ [dVal (.mk Yk Yn Ys Yl)]) (some 0) = .sl 4 (dVals (List.replicate sn.toNat (.mk uk un us ul) ++ [(.mk Yk Yn Ys Yl)])) (some 0):=by rw [du]
   refine br ?_ ?_<;>intro c8
   ·have c8:ag=8:=sU c8;have hs5:sk=5:=by omega
    rw [if_neg (by omega),if_neg (by omega),if_pos hs5,<- Ws,show [Val.mk Yk Yn Ys Yl]=List.replicate sn.toNat (Val.mk uk un us ul) ++ [Val.mk Yk Yn Ys Yl] by rw [hnn (by omega)];rfl] at hR;rw [hR];exact ⟨_,(gF hE),rfl⟩
   ·have c8:¬ ag=8:=sU c8
    have hR2:R = .mk ag 0 av (List.replicate sn.toNat (.mk uk un us ul) ++ [(.mk Yk Yn Ys Yl)]):=by
     by_cases h2:sk=2
     ·obtain ⟨_,hu1,LH⟩:=hu h2;rw [if_pos h2,LH,<- hu1] at hR;exact hR
     ·rw [if_neg h2,if_neg pv,if_neg (by omega)] at hR;rw [hR,hnn h2];rfl
    rw [hR2];exact ⟨_,(gF hE),rfl⟩
end
abbrev Pt (lv:List Wd) (f:Nat->Nat->Bool) (ND:List Nd) (rt:Nat):List DV:=K4 (bJ lv) (cH (dt lv.length f)) ND (rt:Nat)
def aaJ (o:Option (Nat × Nat)):Int:=match o with
 | none=>-1
 | some (j,_)=>j
section
variable (lv:List Wd) (f:Nat->Nat->Bool) (ND:List Nd) (rt:Nat) (ed:rt < ND.length) (hL:fU f lv.length) (hn:lv.length<=32) (bm:∀ n∈ND,cz lv.length ND.length n) (bL:∀ n∈ND,n.ai.length<=1099511627776) (fc:ND.length<=1099511627776) (p:List cQ) (hp:p.length<=1099511627776) (hs:∀ s∈p,s.s.size<=4611686018427387904)
include ed hL hn bm bL hp hs
theorem yv:aQ prog 28 [.agg (Pt lv f ND rt),.sl 3 (aP p) none] (.v (.int .i64 (aaJ (walkV ND f lv.length p rt (jK f lv.length))))):=by
 have hb:=zd lv.length f (by omega);rw [tA hL] at hb;have hbl:=Jm hL;have hw:=ur lv f ND (rt:Nat) hL hn bm bL p hp hs rt (jK f lv.length) ed hbl;generalize walkV ND f lv.length p rt (jK f lv.length)=W at hw ⊢
 cases W with
 | none=>
  refine eG 22 [.tmp 4] func28 rfl ntmps28 rfl fun _ _ _ _=>?_;refine dI ?_;refine cD Xl hb ?_;refine cD Uf hw ?_;exact (rfl:_=_)
 | some r=>
  refine eG 22 [.tmp 4] func28 rfl ntmps28 rfl fun _ _ _ _=>?_;refine dI ?_;refine cD Xl hb ?_;refine cD Uf hw ?_;exact (rfl:_=_)
include fc
set_option maxHeartbeats 4000000 in
theorem FD (x:Val) (hx:x.wt<=1099511627776):aQ prog 25 [.agg (Pt lv f ND rt),.sl 3 (aP p) none,.agg (dVal x)] (K5 (nd ND (bN ND) (bi ND) (walkV ND f lv.length p rt (jK f lv.length)) (stpsV ND p rt) x)):=by
 have kO:=yv lv f ND rt ed hL hn bm bL p hp hs;have ng:=uw 2 1 (bJ lv) (cH (dt lv.length f)) (rt:Nat) bm _ x (Nat.le_refl _) hx;have j9:=oa x.wt x (Nat.le_refl _) hx;have ow:=(ve x).1
 have Ia:1<=jz x:=by
  obtain ⟨k,n,s,ks⟩:=x;rw [jz];omega
 have hszz:∀ z∈bN ND,z<=4097:=fun z hz=>by
  obtain ⟨i,hi,rfl⟩:=List.getElem_of_mem hz;have:=(mS (fK ND) (i:=i)).2
  rwa [List.getD_eq_getElem?_getD,gE hi] at this
 have hDS:∀ j,(bN ND).getD j 0=0↔(bi ND).getD j 0=0:=fun j=>by
  have:=(mS (fK ND) (i:=j)).1;show (jW ND (depN ND ND.length)).getD j 0=0↔(depN ND ND.length).getD j 0=0;omega
 have CX:=fun {r:Nat × Nat} h=>uv 2 1 (bJ lv) (cH (dt lv.length f)) ND (rt:Nat) (bi ND) (qL (bi ND) (qa ND)) (bN ND) (qb ND) (f:=f) (m:=lv.length) bm bL (ry _ _) hszz hDS Ia (by omega) p hp hs rt (jK f lv.length) (r:=r) ed h;have Pb:=fun {r:Nat × Nat} h1 h2=>rK (bJ lv) (cH (dt lv.length f)) ND (rt:Nat) (f:=f) (m:=lv.length) bm bL x p hp hs rt (jK f lv.length) (r:=r) ed h1 h2;have VN:=fun {j b} h=>@oV _ ND (bi ND) bm (fK ND) f lv.length p rt (jK f lv.length) j b h;have PE:=fun j=>vo bm (fK ND) x j;generalize hW:walkV ND f lv.length p rt (jK f lv.length)=W at *
 cases W with
 | none=>
  obtain ⟨xk,xn,xs,xl⟩:=x;refine eG 52 [.cell 6 34,.tmp 7] func25 rfl ntmps25 rfl fun _ _ _ _=>?_;have kO:aQ prog 28 [.agg (Pt lv f ND rt),.sl 3 (aP p) none] (.v (.int .i64 (-1))):=kO;refine cP Xa kO ?_;exact ⟨.tup [.agg (dVal zeroV),.v (.bool false)],ax,rfl⟩
 | some jb=>
 obtain ⟨j,b⟩:=jb;obtain ⟨J,hJ⟩:∃ J:Int,J=(j:Int):=⟨_,rfl⟩;have kO:aQ prog 28 [.agg (Pt lv f ND rt),.sl 3 (aP p) none] (.v (.int .i64 J)):=by rw [hJ];exact kO
 have ng:=ng j;rw [<- NY bm x j,<- hJ] at ng;have HT:=CX rfl;clear CX;have hF:nd ND (bN ND) (bi ND) (some (j,b)) (stpsV ND p rt) x=if fitV ND x j=true/\(stpsV ND p rt).all (iA (bi ND))=true/\jz x + totF (bN ND) (stpsV ND p rt) < 4097 then some (alnV (bS ND (bi ND)) (stpsV ND p rt) x) else none:=rfl
 rw [hF];clear hF;have hR:nf (bN ND) (bi ND) (stpsV ND p rt) (jz x)=if (stpsV ND p rt).all (iA (bi ND))=true then aY (jz x + totF (bN ND) (stpsV ND p rt)) else 0:=rfl
 have rL:fitV ND x j=true->(stpsV ND p rt).all (iA (bi ND))=true->aQ prog 74 [.agg (Pt lv f ND rt),.v (.int .i64 (rt:Nat)),.sl 3 (aP p) none,.agg (dVal x)] (.agg (dVal (alnV (bS ND (bi ND)) (stpsV ND p rt) x))):=fun h1 h2=>
  Pb rfl fun q hq=>⟨List.all_eq_true.1 h2 q hq,(VN rfl h2 (by have:=PE j h1;simpa using this)).2 q hq⟩
 rw [<- hJ] at rL ⊢;clear VN PE hW Pb;have UZ:=Fu (bN ND) (bi ND) (stpsV ND p rt) (jz x);generalize nf (bN ND) (bi ND) (stpsV ND p rt) (jz x)=R at HT hR UZ;generalize alnV (bS ND (bi ND)) (stpsV ND p rt) x=Y at rL ⊢;generalize totF (bN ND) (stpsV ND p rt)=T at hR ⊢;generalize (stpsV ND p rt).all (iA (bi ND))=al at hR rL ⊢;generalize fitV ND x J=ft at ng rL ⊢;generalize jz x=C at j9 HT hR ow Ia ⊢;generalize xK x=dx at j9;obtain ⟨xk,xn,xs,xl⟩:=x;obtain ⟨Yk,Yn,Ys,Yl⟩:=Y;have aaK:C + T < 4097↔aY (C + T)≠4097:=by unfold aY;omega
 have hcut0:aY (C + T)≠0:=by unfold aY;omega
 refine eG 52 [.cell 6 34,.tmp 7] func25 rfl ntmps25 rfl fun _ _ _ _=>?_;refine cP Xa kO ?_;refine br ?_ ?_<;>intro g
 rotate_left
 ·exfalso;have g:J < 0:=by simpa [lastG] using g
  omega
 cases ft with
 | false=>
  rw [if_neg (by simp)];refine cP Ud ng ?_;exact ⟨.tup [.agg (dVal zeroV),.v (.bool false)],ax,rfl⟩
 | true=>
 refine cP Ud ng ?_;refine cP en7 j9 ?_;refine cP Xi HT ?_;refine br ?_ ?_<;>intro c
 ·have c:R=0∨R=4097:=by
   have:(R:Int)=0∨(4096:Int) < R:=by simpa [au] using c
   omega
  rw [if_neg (fun h=>by
   rw [if_pos h.2.1] at hR;have:=aaK.1 h.2.2
   omega)]
  exact ⟨.tup [.agg (dVal zeroV),.v (.bool false)],ax,rfl⟩
 ·have c:R≠0/\R≠4097:=by
   have:¬ ((R:Int)=0∨(4096:Int) < R):=by
    intro h;have h2:pickB (decide ((R:Int)=0)) true (decide ((4096:Int) < R))=true:=by simpa [au] using h
    rw [h2] at c;cases c
   omega
  cases al with
  | false=>exact (c.1 hR).elim
  | true=>
   rw [if_pos rfl] at hR;rw [if_pos ⟨rfl,rfl,aaK.2 (by omega)⟩];refine cP Xj (rL rfl rfl) ?_;exact ⟨.tup [.agg (dVal (.mk Yk Yn Ys Yl)),.v (.bool true)],ax,rfl⟩
end
theorem FE:∀ (a b:List Val),dL (a ++ b)=dL a + dL b
 | [],b=>by simp [dL]
 | v :: r,b=>by rw [List.cons_append,dL,dL,FE r,Nat.add_assoc]
theorem FF (u:Val):∀ n,dL (List.replicate n u)=n * u.wt
 | 0=>by simp [dL]
 | n + 1=>by rw [List.replicate_succ,dL,FF u n,Nat.add_mul,Nat.one_mul,Nat.add_comm]
theorem A8 {sz:List Nat} {F:Nat->Val} {k:Nat}:∀ {es:List Ed} {i:Nat},k < i->(∀ (j:Nat) e,es[j]? = some e->(F e.to.toNat).wt<=64 * bY sz e)->dL (es.map fun e=>F e.to.toNat)<=64 * sumE sz k es i
 | [],i,_,_=>by simp [dL]
 | e :: r,i,hk,h=>by
  have h1:=h 0 e rfl;have h2:=A8 (sz:=sz) (F:=F) (k:=k) (es:=r) (i:=i + 1) (by omega) fun j e he=>h (j + 1) e (sU he);rw [List.map_cons,dL,sumE,if_neg (by omega),Nat.mul_add];omega
theorem A9 {sz:List Nat} {F:Nat->Val} {v:Val} {k:Nat}:∀ {es:List Ed} {i:Nat},i<=k->(∀ (j:Nat) e,es[j]? = some e->i + j≠k->(F e.to.toNat).wt<=64 * bY sz e)->dL ((es.map fun e=>F e.to.toNat).set (k - i) v)<=v.wt + 64 * sumE sz k es i
 | [],i,_,_=>by simp [dL]
 | e :: r,i,hk,h=>by
  by_cases Wj:i=k
  ·subst Wj;have h2:=A8 (sz:=sz) (F:=F) (k:=i) (es:=r) (i:=i + 1) (by omega) fun j e he=>h (j + 1) e (sU he) (by omega);rw [Nat.sub_self,List.map_cons,List.set_cons_zero,dL,sumE,if_pos rfl];omega
  ·have h1:=h 0 e rfl (by omega);have h2:=A9 (sz:=sz) (F:=F) (v:=v) (k:=k) (es:=r) (i:=i + 1) (by omega) fun j e he hj=>h (j + 1) e (sU he) (by omega);rw [List.map_cons,show k - i=(k - (i + 1)) + 1 by omega,List.set_cons_succ,dL,sumE,if_neg Wj,Nat.mul_add];omega
theorem FG {sz:List Nat} {k:Nat}:∀ {es:List Ed} {i j:Nat} {e:Ed},es[j]? = some e->i + j≠k->bY sz e<=sumE sz k es i
 | [],i,j,e,h,_=>by simp at h
 | x :: r,i,0,e,h,hk=>by
  simp at h;subst h;rw [sumE,if_neg (by omega)];omega
 | x :: r,i,j + 1,e,h,hk=>by
  have:=FG (sz:=sz) (k:=k) (es:=r) (i:=i + 1) (j:=j) (e:=e) (sU h) (by omega);rw [sumE];omega
theorem Pc {ND:List Nd} {L:Nat} (bm:∀ n∈ND,cz L ND.length n) {e:Ed} (h:bY (bi ND) e≠0) (h2:bY (bN ND) e < 4097):(bS ND (bi ND) e.to.toNat).wt<=64 * bY (bN ND) e:=
 Jr (fK ND) bm _ _ (Nat.le_refl _) (Nat.pos_of_ne_zero h) h2
theorem VO {ND:List Nd} {L:Nat} (bm:∀ n∈ND,cz L ND.length n) {q:Pl} (hq:tC ND q) (o0:iA (bi ND) q=true) (hD:∃ x,q.d.ai[q.k]? = some x/\bY (bi ND) x≠0) (hx:yJ (bN ND) q < 4097) (v:Val) :
  (uN (bS ND (bi ND)) q v).wt<=v.wt + 64 * yJ (bN ND) q:=by
 obtain ⟨k1,k5,k2,k3,k4,hk⟩:=ld hq;have e0:av.size=0:=rfl;obtain ⟨y,hy,hyD⟩:=hD;unfold iA at o0;simp only [Bool.and_eq_true,decide_eq_true_eq] at o0;unfold uN;by_cases c2:q.s.k=2
 ·rw [if_pos c2,Val.wt,FE,FF,e0];obtain ⟨c5,h0,h1⟩:=k2 c2;obtain ⟨_,_,ht⟩:=CE bm hq hy (.inl c5);have hE:yJ (bN ND) q=1 + q.s.n.toNat * bY (bN ND) y:=by unfold yJ bY;rw [if_pos c2,ht]
  rw [hE] at hx ⊢;rw [ht];have hv:dL [v]=v.wt:=by simp [dL]
  rw [hv]
  have hm:q.s.n.toNat * (bS ND (bi ND) y.to.toNat).wt<=64 * (q.s.n.toNat * bY (bN ND) y):=by
   rcases Nat.eq_zero_or_pos q.s.n.toNat with h | h
   ·rw [h];simp
   ·have dq:bY (bN ND) y<=q.s.n.toNat * bY (bN ND) y:=Nat.le_mul_of_pos_left _ h;have:=Pc bm hyD (by omega);rw [Nat.mul_left_comm];exact Nat.mul_le_mul_left _ this
  rw [Nat.mul_add];omega
 rw [if_neg c2];by_cases c1:q.s.k=1
 ·rw [if_pos c1,Val.wt,e0];have hE:yJ (bN ND) q=1 + sumE (bN ND) q.k q.d.ai 0:=by unfold yJ;rw [if_neg c2,if_pos c1]
  rw [hE] at hx ⊢;have nj:=o0.2;simp [c1] at nj;have nj:=kH.1 nj
  have:=A9 (sz:=bN ND) (F:=bS ND (bi ND)) (v:=v) (k:=q.k) (es:=q.d.ai) (i:=0) (Nat.zero_le _) fun j e he hj=>Pc bm (nj j e he hj) (by
   have:=FG (sz:=bN ND) he hj
   omega)
  rw [Nat.sub_zero] at this;rw [Nat.mul_add];omega
 ·rw [if_neg c1,Val.wt,e0];have hv:dL [v]=v.wt:=by simp [dL]
  rw [hv];have:yJ (bN ND) q=1:=by unfold yJ;rw [if_neg c2,if_neg c1]
  omega
theorem Pd {ND:List Nd} {L:Nat} (bm:∀ n∈ND,cz L ND.length n) (v:Val):∀ (l:List Pl),(∀ q∈l,tC ND q/\iA (bi ND) q=true/\∃ x,q.d.ai[q.k]? = some x/\bY (bi ND) x≠0)->totF (bN ND) l < 4097->(alnV (bS ND (bi ND)) l v).wt<=v.wt + 64 * totF (bN ND) l
 | [],_,_=>by rw [alnV];omega
 | q :: l,h,ht=>by
  rw [totF] at ht ⊢;have ih:=Pd bm v l (fun q hq=>h q (by simp [hq])) (by omega);obtain ⟨h1,h2,h3⟩:=h q (by simp);have:=VO bm h1 h2 h3 (by omega) (alnV (bS ND (bi ND)) l v);rw [alnV,Nat.mul_add];omega
theorem RH {ND:List Nd} {L:Nat} (bm:∀ n∈ND,cz L ND.length n) {f:Nat->Nat->Bool} {m:Nat} {p:List cQ} {i a:Nat} {v u:Val} (h:nd ND (bN ND) (bi ND) (walkV ND f m p i a) (stpsV ND p i) v=some u):u.wt<=v.wt + 262208:=by
 cases hw:walkV ND f m p i a with
 | none=>rw [hw] at h;cases h
 | some r=>
  obtain ⟨j,b⟩:=r;rw [hw] at h;unfold nd at h;simp only at h;split at h
  ·rename_i hc;cases h;obtain ⟨Ia,lf,FK⟩:=hc;have VN:=(oV bm (fK ND) p i a hw lf (by have:=vo bm (fK ND) v _ Ia;simpa using this)).2;obtain ⟨xc,nr⟩:=og p i a hw;have:=Pd bm v (stpsV ND p i) (fun q hq=>⟨?_,List.all_eq_true.1 lf q hq,VN q hq⟩) (by omega)
   ·omega
   ·obtain ⟨e,he,rfl⟩:=List.getElem_of_mem hq;obtain ⟨q',_,iR,_,hok',_⟩:=nr e p[e] (gE (by omega));rw [gE he] at iR;cases iR;exact hok'
  ·cases h
section
variable {S:Sch} {ND:List Nd} {PC:List DV} (hP:eW S ND PC) (p:List cQ) (hp:p.length<=1099511627776) (hs:∀ s∈p,s.s.size<=4611686018427387904) (rt:Nat) (yI:fT S=rt) (ed:rt < ND.length)
include hP hp hs yI ed
theorem FH (x:Val) (hx:x.wt<=1099511627776) :
  aQ prog 22 [.pt PC 0,.sl 3 (aP p) none,.agg (dVal x)] (K5 (nd ND (bN ND) (bi ND) (walkV ND (dX S) S.ae.length p rt (jK (dX S) S.ae.length)) (stpsV ND p rt) x)):=by
 have hm:=p9 PC ND hP;have h:=FC hP (qb ND) (qa ND) p hp hs rt yI ed x hx;generalize nd ND (bN ND) (bi ND) (walkV ND (dX S) S.ae.length p rt (jK (dX S) S.ae.length)) (stpsV ND p rt) x=R at h ⊢;obtain ⟨xk,xn,xs,xl⟩:=x
 cases R with
 | none=>
  have h:aQ prog 62 [.pt (mQ PC ND (bi ND) (qa ND) (bN ND) (qb ND)) 0,.sl 3 (aP p) none,.agg (dVal (.mk xk xn xs xl))] (.tup [.agg (dVal zeroV),.v (.bool false)]):=h;refine eG 15 [.cell 6 34,.tmp 7] func22 rfl ntmps22 rfl fun _ _ _ _=>?_;refine dS ?_;refine cD JK hm ?_;refine cD Xf h ?_;exact ⟨.tup [.agg (dVal zeroV),.v (.bool false)],ax,rfl⟩
 | some u=>
  have h:aQ prog 62 [.pt (mQ PC ND (bi ND) (qa ND) (bN ND) (qb ND)) 0,.sl 3 (aP p) none,.agg (dVal (.mk xk xn xs xl))] (.tup [.agg (dVal u),.v (.bool true)]):=h;obtain ⟨uk,un,us,ul⟩:=u;refine eG 15 [.cell 6 34,.tmp 7] func22 rfl ntmps22 rfl fun _ _ _ _=>?_;refine dS ?_;refine cD JK hm ?_;refine cD Xf h ?_;exact ⟨.tup [.agg (dVal (.mk uk un us ul)),.v (.bool true)],ax,rfl⟩
end
end Go.Proofs.YtadhpeooehkklaaGreat
set_option maxRecDepth 100000
namespace Go.Proofs.YtadhpeooehkklaaGreat
open Go Go.RowKit Dv Go.Proofs.Tryz
end Go.Proofs.YtadhpeooehkklaaGreat
set_option maxRecDepth 100000
namespace Go.Proofs.YtadhpeooehkklaaGreat
open Go Go.RowKit Dv Go.Proofs.Tryz
theorem VP {S:Sch} {PC:List DV} (hP:eW S (aV S) PC) {rt:Nat} (ed:rt < (aV S).length) (yI:fT S=rt) (p:List cQ) (hp:p.length<=1099511627776) (hs:∀ s∈p,s.s.size<=4611686018427387904):∃ (o:Option (Nat × Nat)) (l:List Pl),
  (∀ x:Val,x.wt<=1099511627776->aQ prog 22 [.pt PC 0,.sl 3 (aP p) none,.agg (dVal x)] (K5 (nd (aV S) (bN (aV S)) (bi (aV S)) o l x))) /\
  (∀ x:Val,x.wt<=1099511627776->aQ prog 25 [.agg (Pt S.ae (dX S) (aV S) rt),.sl 3 (aP p) none,.agg (dVal x)] (K5 (nd (aV S) (bN (aV S)) (bi (aV S)) o l x))) /\
  (∀ x u:Val,nd (aV S) (bN (aV S)) (bi (aV S)) o l x=some u->u.wt<=x.wt + 262208) /\
  aQ prog 28 [.agg (Pt S.ae (dX S) (aV S) rt),.sl 3 (aP p) none] (.v (.int .i64 (aaJ o))) /\
  o=walkV (aV S) (dX S) S.ae.length p rt (jK (dX S) S.ae.length)/\l=stpsV (aV S) p rt:=by
 obtain ⟨LC,_,Ps⟩:=hP.VD
 exact ⟨walkV (aV S) (dX S) S.ae.length p rt (jK (dX S) S.ae.length),stpsV (aV S) p rt,fun x hx=>FH hP p hp hs rt yI ed x hx,fun x hx=>FD S.ae (dX S) (aV S) rt ed Ps.ok Ps.n32 hP.ok hP.KK hP.nl p hp hs x hx,fun x u h=>RH hP.ok h,
  yv S.ae (dX S) (aV S) rt ed Ps.ok Ps.n32 hP.ok hP.KK p hp hs,rfl,rfl⟩
set_option maxHeartbeats 4000000 in
theorem along26_law (S:Sch) (hS:S.wt<=1099511627776) (_:Yr S) (p:List cQ) (hpw:wtStp p<=549755813888) (_:Hw p) (x:Val) (hx:x.wt<=549755813888):aQ prog 4 [.agg (fQ S),.sl 3 (aP p) none,.agg (dVal x)] (.v (.bool true)):=by
 have mZ:=AA p;have hp:p.length<=1099511627776:=by omega
 have hs:∀ s∈p,s.s.size<=4611686018427387904:=fun s tP=>by have:=AB tP;omega
 have hf:=FA S hS;have hb:=(xj S hS).mono (Ψ:=fun r _ _=>Ho S r) fun _ _ _ h=>Au hS h;have hw:=fun h=>Cd S hS h;have du:∀ n∈aV S,n.af.length<=1099511627776:=fun n hn=>(oN hn hS).1;have YJ:=@Hn S;have lE:=dO p;have j9:=oa x.wt x (Nat.le_refl _) (by omega);generalize jz x=C at j9;generalize xK x=dx at j9;obtain ⟨ae,order,types,⟨rh,rp⟩⟩:=S;generalize hXg:x=X at *;obtain ⟨xk,xn,xs,xl⟩:=X;refine eG 67 [.tmp 6] func4 rfl ntmps4 rfl fun _ _ _ _=>?_;refine cP en7 j9 ?_;refine br ?_ ?_<;>intro c
 rotate_left
 ·refine cP PX jX ?_;exact (rfl:_=_)
 refine ki en20 rfl hf ax (fun r hr=>?_);obtain ⟨b,rfl,h0⟩:=hr
 cases b with
 | false=>
  refine cP PX jX ?_;exact (rfl:_=_)
 | true=>
 have h0:=h0 rfl;have hw:=hw h0;refine ki W3 rfl hb ax (fun r hr=>?_);rcases hr with ⟨hr,_⟩ | ⟨_,PC,hP,rfl⟩
 ·exact (hr h0).elim
 obtain ⟨rt,yI,ed⟩:=YJ (xG h0);have V5:=Fw 2 1 (bJ ae) (cH (dt ae.length (dX ⟨ae,order,types,.mk rh rp⟩))) (aV ⟨ae,order,types,.mk rh rp⟩) (rt:Nat) hP.ok hP.nl hP.KK du;obtain ⟨o,l,hA,K7,yB,_,_⟩:=VP hP ed yI p hp hs;have hA:=hA (.mk xk xn xs xl) (by omega);have K7:=K7 (.mk xk xn xs xl) (by omega);have yB:=yB (.mk xk xn xs xl);rw [yI] at hw;generalize nd (aV ⟨ae,order,types,.mk rh rp⟩) (bN (aV ⟨ae,order,types,.mk rh rp⟩)) (bi (aV ⟨ae,order,types,.mk rh rp⟩)) o l (.mk xk xn xs xl)=Q at hA K7 yB;have hw:aQ prog 24 [.agg (fQ ⟨ae,order,types,.mk rh rp⟩)] (.agg (wL ae (dX ⟨ae,order,types,.mk rh rp⟩) (aV ⟨ae,order,types,.mk rh rp⟩) (rt:Nat))):=hw;have K7:aQ prog 25 [.agg (Pt ae (dX ⟨ae,order,types,.mk rh rp⟩) (aV ⟨ae,order,types,.mk rh rp⟩) rt),.sl 3 (aP p) none,.agg (dVal (.mk xk xn xs xl))] (K5 Q):=K7;generalize dX ⟨ae,order,types,.mk rh rp⟩=F at hw V5 K7;generalize aV ⟨ae,order,types,.mk rh rp⟩=ND at hw V5 K7
 cases Q with
 | none=>
  have hA:aQ prog 22 [.pt PC 0,.sl 3 (aP p) none,.agg (dVal (.mk xk xn xs xl))] (.tup [.agg (dVal zeroV),.v (.bool false)]):=hA;have K7:aQ prog 25 [.agg (Pt ae F ND rt),.sl 3 (aP p) none,.agg (dVal (.mk xk xn xs xl))] (.tup [.agg (dVal zeroV),.v (.bool false)]):=K7;have pv:=uy zeroV (by decide) zeroV;rw [xQ] at pv;refine cP W5 hA ?_;refine cP W7 hw ?_;refine cP W6 V5 ?_;refine cP W8 K7 ?_;refine cP W9 pv ?_;refine cP PX jX ?_;exact (rfl:_=_)
 | some u=>
  have yB:=yB u rfl;have hA:aQ prog 22 [.pt PC 0,.sl 3 (aP p) none,.agg (dVal (.mk xk xn xs xl))] (.tup [.agg (dVal u),.v (.bool true)]):=hA;have K7:aQ prog 25 [.agg (Pt ae F ND rt),.sl 3 (aP p) none,.agg (dVal (.mk xk xn xs xl))] (.tup [.agg (dVal u),.v (.bool true)]):=K7;have pv:=uy u (by omega) u;rw [xQ] at pv;obtain ⟨uk,un,us,ul⟩:=u;refine cP W5 hA ?_;refine cP W7 hw ?_;refine cP W6 V5 ?_;refine cP W8 K7 ?_;refine cP W9 pv ?_;refine cP PX jX ?_;exact (rfl:_=_)
end Go.Proofs.YtadhpeooehkklaaGreat
