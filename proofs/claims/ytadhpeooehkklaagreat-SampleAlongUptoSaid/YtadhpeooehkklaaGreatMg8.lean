/- Part 8 of the proof: First and second values, the document's: cut, depth, sum, tag; The document's Room: how much a value along a path has in it; First and second values, the document's: size, field, other; Regions that draw their order, in which several new objects may come in any order; First and second values, the document's: Make; First and second values, the document's: First, tagged, Second; Second values, the document's; First and second values: how great they are; tree.write, Raw; The document's Fits; Written values: well formed; the document's Same on the same value; its Raw; The document's Kid, Get, Set of a value that fits; The document's Same of values, Set; The numbers of a plan's nodes are ints; The law of first and second values: fine, the example, the call returns true; Sample: a value with another one in it; Sample: the root's value along a path; The document's Along, End, Fill; The document's End, Fill; Sample: Along, Pair; the weight of a value along a path; Sample: Pair; The laws of values along paths, of pairs: the calls return true. No condition. -/
import Derived.Test.YtadhpeooehkklaaGreatMg3
import Derived.Test.YtadhpeooehkklaaGreatMg5
import Derived.Test.YtadhpeooehkklaaGreatMg6
import Derived.Test.YtadhpeooehkklaaGreatMg7
set_option linter.all false
set_option maxRecDepth 100000
namespace Go.Proofs.YtadhpeooehkklaaGreat
open Go Go.RowKit Dv Go.Proofs.Tryz
abbrev yX (a b:Nat) (A B:List (List DV)) (ND:List Nd) (z:Int) (D M S O:List Nat):List DV:=[.sl a A none,.sl b B none,.sl 7 (bq ND) none,.v (.int .i64 z),.sl 1 (dInts D) none,.sl 1 (dInts M) none,.sl 1 (dInts S) none,.sl 1 (dInts O) none]
theorem ia (n:Nat):aV prog 132 [.v (.int .i64 n)] (.v (.int .i64 (bf n:Nat))):=by
 refine eG 6 [.tmp 2] func132 rfl ntmps132 rfl fun _ _ _ _=>?_;refine br ?_ ?_<;>intro c
 ·have c:(4097:Int) < n:=sU c;refine (congrArg (fun z=>DV.v (.int .i64 z)) ?_:_=_);unfold bf;omega
 ·have c:¬ (4097:Int) < n:=sU c;refine (congrArg (fun z=>DV.v (.int .i64 z)) ?_:_=_);unfold bf;omega
def tgStep (D:List Nat) (es:List Ed) (but:Int) (i:Nat) (out:Option Nat):Option Nat:=match es[i]? with
 | none=>out
 | some e=>if (i:Int)=but∨ed D e=false then out else if 0<=but then some i else match out with
  | none=>some i
  | some k=>match es[k]? with | none=>some i | some y=>if kY D e<=kY D y then some i else some k
def tagR (D:List Nat) (es:List Ed) (but:Int):Nat->Option Nat
 | 0=>none
 | c + 1=>tgStep D es but (es.length - (c + 1)) (tagR D es but c)
theorem rU {D:List Nat} {es:List Ed} {but:Int}:∀ {c k:Nat},c<=es.length->tagR D es but c=some k->es.length - c<=k/\∃ e,es[k]? = some e/\ed D e=true/\(k:Int)≠but
 | 0,k,_,h=>by cases h
 | c + 1,k,hc,h=>by
  rw [tagR] at h;have ih:=fun k h=>rU (D:=D) (es:=es) (but:=but) (c:=c) (k:=k) (by omega) h;have hx:es[es.length - (c + 1)]? = some es[es.length - (c + 1)]:=gE (by omega);generalize tagR D es but c=out at h ih;unfold tgStep at h;rw [hx] at h;simp only at h
  have ZY:out=some k->es.length - (c + 1)<=k/\∃ e,es[k]? = some e/\ed D e=true/\(k:Int)≠but:=fun h=>by
   obtain ⟨h1,h2⟩:=ih k h;exact ⟨by omega,h2⟩
  split at h
  ·exact ZY h
  ·rename_i hn
   have HU:some (es.length - (c + 1))=some k->es.length - (c + 1)<=k/\∃ e,es[k]? = some e/\ed D e=true/\(k:Int)≠but:=fun h=>by
    cases h;exact ⟨aR _,_,hx,by cases ht:ed D es[es.length - (c + 1)]<;>simp_all,fun h=>hn (.inl h)⟩
   split at h
   ·exact HU h
   ·split at h
    ·exact HU h
    ·split at h
     ·exact HU h
     ·split at h
      ·exact HU h
      ·exact ZY h
theorem Bl {D:List Nat} {es:List Ed}:∀ {c:Nat},c<=es.length->(tagR D es (-1) c=none->∀ (j:Nat) x,es.length - c<=j->es[j]? = some x->ed D x=false) /\
  ∀ k,tagR D es (-1) c=some k->∃ e,es[k]? = some e/\(∀ (j:Nat) x,es.length - c<=j->es[j]? = some x->ed D x=true->kY D e<=kY D x)/\∀ (j:Nat) x,es.length - c<=j->j < k->es[j]? = some x->ed D x=true->kY D e < kY D x
 | 0,_=>⟨fun _ j x hj hx=>by have:=(gS hx).1;omega,fun k h=>by cases h⟩
 | c + 1,hc=>by
  obtain ⟨ih1,Tq⟩:=Bl (D:=D) (es:=es) (c:=c) (by omega);have uT:=fun k h=>rU (D:=D) (es:=es) (but:=-1) (c:=c) (k:=k) (by omega) h;have hx:es[es.length - (c + 1)]? = some es[es.length - (c + 1)]:=gE (by omega);have uI:∀ {j:Nat},es.length - (c + 1)<=j->j=es.length - (c + 1)∨es.length - c<=j:=fun h=>by omega
  rw [tagR];generalize tagR D es (-1) c=out at ih1 Tq uT;generalize es[es.length - (c + 1)]=e at hx;generalize hi:es.length - (c + 1)=i at hx uI;unfold tgStep;rw [hx];simp only;by_cases CE:ed D e=true
  ·rw [ah (by rw [CE];simp),ah (by omega)]
   cases out with
   | none=>
    refine ⟨fun h=>(by cases h),fun k h=>?_⟩;cases h;refine ⟨e,hx,fun j x hj rV ht=>?_,fun j x hj JU rV ht=>by omega⟩;rcases uI hj with rfl | hj
    ·rw [hx] at rV;cases rV;exact aR _
    ·rw [ih1 rfl j x hj rV] at ht;cases ht
   | some k=>
    obtain ⟨y,hy,h1,h2⟩:=Tq k rfl;obtain ⟨hk,_⟩:=uT k rfl;simp only [hy];by_cases dG:kY D e<=kY D y
    ·rw [ai dG];refine ⟨fun h=>(by cases h),fun k' h=>?_⟩;cases h;refine ⟨e,hx,fun j x hj rV ht=>?_,fun j x hj JU rV ht=>by omega⟩;rcases uI hj with rfl | hj
     ·rw [hx] at rV;cases rV;exact aR _
     ·have:=h1 j x hj rV ht;omega
    ·rw [ah dG];refine ⟨fun h=>(by cases h),fun k' h=>?_⟩;cases h;refine ⟨y,hy,fun j x hj rV ht=>?_,fun j x hj JU rV ht=>?_⟩
     ·rcases uI hj with rfl | hj
      ·rw [hx] at rV;cases rV;omega
      ·exact h1 j x hj rV ht
     ·rcases uI hj with rfl | hj
      ·rw [hx] at rV;cases rV;omega
      ·exact h2 j x hj JU rV ht
  ·have CE:ed D e=false:=sU CE;rw [ai (.inr CE)];refine ⟨fun h j x hj rV=>?_,fun k h=>?_⟩
   ·rcases uI hj with rfl | hj
    ·rw [hx] at rV;cases rV;exact CE
    ·exact ih1 h j x hj rV
   ·obtain ⟨y,hy,h1,h2⟩:=Tq k h;refine ⟨y,hy,fun j x hj rV ht=>?_,fun j x hj JU rV ht=>?_⟩
    ·rcases uI hj with rfl | hj
     ·rw [hx] at rV;cases rV;rw [CE] at ht;cases ht
     ·exact h1 j x hj rV ht
    ·rcases uI hj with rfl | hj
     ·rw [hx] at rV;cases rV;rw [CE] at ht;cases ht
     ·exact h2 j x hj JU rV ht
theorem oG (D:List Nat) (es:List Ed):tagR D es (-1) es.length=bD D es:=by
 obtain ⟨h1,h2⟩:=Bl (D:=D) (es:=es) (aR _)
 cases h:tagR D es (-1) es.length with
 | none=>
  refine (uE fun x hx=>?_).symm;obtain ⟨j,hj,rfl⟩:=List.getElem_of_mem hx;exact h1 h j _ (by omega) (gE hj)
 | some k=>
  obtain ⟨_,e,he,ht,_⟩:=rU (aR _) h;obtain ⟨e',pT,h3,h4⟩:=h2 k h;rw [he] at pT;cases pT;refine (tH he ht (fun x hx Pv=>?_) fun j x hj hx Pv=>h4 j x (by omega) hj hx Pv).symm;obtain ⟨j,hj,rfl⟩:=List.getElem_of_mem hx;exact h3 j _ (by omega) (gE hj) Pv
theorem qy {D:List Nat} {es:List Ed} {b:Nat}:∀ {c:Nat},c<=es.length->∀ (j:Nat) x,es.length - c<=j->es[j]? = some x->ed D x=true->j≠b->∃ k,tagR D es b c=some k/\k<=j
 | 0,_,j,x,hj,hx,_,_=>by have:=(gS hx).1;omega
 | c + 1,hc,j,x,hj,hx,ht,hb=>by
  have r6:es[es.length - (c + 1)]? = some es[es.length - (c + 1)]:=gE (by omega);rw [tagR];unfold tgStep;rw [r6];simp only;split
  ·rename_i hn;rcases (show j=es.length - (c + 1)∨es.length - c<=j by omega) with rfl | gw
   ·rw [hx] at r6;cases r6;rcases hn with hn | hn
    ·omega
    ·rw [ht] at hn;cases hn
   ·exact qy (by omega) j x gw hx ht hb
  ·rw [ai (by omega)];exact ⟨_,rfl,hj⟩
theorem Le {D:List Nat} {es:List Ed} {b:Nat} (h:bD D es=some b):tagR D es b es.length=ly D es:=by
 cases ht:tagR D es b es.length with
 | none=>
  refine (bP fun j hj=>?_).symm;rw [ma (gE hj),h]
  cases CE:ed D es[j] with
  | false=>simp
  | true=>
   by_cases JJ:j=b
   ·subst JJ;simp
   ·obtain ⟨k,hk,_⟩:=qy (D:=D) (b:=b) (aR _) j _ (by omega) (gE hj) CE JJ;rw [ht] at hk;cases hk
 | some k=>
  obtain ⟨_,e,he,CE,bp⟩:=rU (aR _) ht;refine (bB (gS he).1 ?_ fun j hj=>?_).symm
  ·rw [ma he,h,CE,Bool.and_true];exact decide_eq_true fun h2=>bp (by cases h2;rfl)
  ·have nS:j < es.length:=by have:=(gS he).1;omega
   rw [ma (gE nS),h]
   cases hth2:ed D es[j] with
   | false=>simp
   | true=>
    by_cases JJ:j=b
    ·subst JJ;simp
    ·obtain ⟨k',eX,dG⟩:=qy (D:=D) (b:=b) (aR _) j _ (by omega) (gE nS) hth2 JJ;rw [ht] at eX;cases eX;omega
section
variable (a b:Nat) (A B:List (List DV)) (ND:List Nd) (z:Int) (D M S O:List Nat) {L:Nat}
theorem np {e:Ed} (hD:D.length=ND.length) (he:N7 L ND.length e) :
  aV prog 147 [.agg (yX a b A B ND z D M S O),.agg (Ce e)] (.v (.int .i64 (kY D e:Nat))):=by
 obtain ⟨en,eb,ea,et,vC,ew,yQ,yR,yS,yT⟩:=e;have h1:=he.to1;simp only at h1;refine eG 13 [.tmp 4] func147 rfl ntmps147 rfl fun _ _ _ _=>?_;refine br ?_ ?_<;>intro c
 ·subst c;exact (rfl:_=_)
 ·subst c;obtain ⟨k,rfl,eC⟩:=h1 rfl;have hg:D[k]? = some D[k]:=gE (by omega);refine ⟨_,⟨cH _,aG hg⟩,?_⟩;refine (congrArg (fun z=>DV.v (.int .i64 z)) ?_:_=_);unfold kY cg;simp [aF,hg]
abbrev VX (es:List Ed) (c:Int) (s e:Nat):St:=
 ⟨[(1,⟨[],.sl 10 (cG es) none⟩),(2,⟨[],.v (.int .i64 c)⟩),(3,⟨[],.loc 0 0⟩),(7,⟨[],.v (.int .i64 s)⟩),(8,⟨[],.v (.int .i64 e)⟩)],[yX a b A B ND z D M S O],[]⟩
theorem nq (es:List Ed) (c:Int) (hS:S.length=ND.length) (hz:∀ z∈S,z<=4097) (he:∀ e∈es,N7 L ND.length e) (ez:es.length<=1099511627776) :
  aV prog 131 [.agg (yX a b A B ND z D M S O),.sl 10 (cG es) none,.v (.int .i64 c)] (.v (.int .i64 (sumX S c es 0 1:Nat))):=by
 have bH:=aT es;refine eG 39 [.tmp 6] func131 rfl ntmps131 rfl fun _ _ _ _=>?_;refine lJ (fun e=>VX a b A B ND z D M S O es c (sumX S c (es.take e) 0 1) e) es.length (au 1 rfl wA rfl rfl rfl wB) ?_;intro e hel';refine br ?_ ?_<;>intro hL
 ·have ap:e < es.length:=sV bH hL;obtain ⟨x,hx⟩:=gX ap;have tU:=he x (mG hx);have eT:=tK (sz:=S) (c:=c) hx;have nK:=nd (sz:=S) (c:=c) (es:=es.take e) (i:=0) (n:=1) (by omega);have nv:=rQ hz x;generalize sumX S c (es.take e) 0 1=s at eT nK ⊢;refine br ?_ ?_<;>intro c1
  ·have c1:¬ (e:Int)=c:=fun h=>by simp [lastG,h] at c1
   rw [ah c1] at eT;refine ⟨_,⟨cH _,aE hx⟩,?_⟩;refine br ?_ ?_<;>intro c2
   ·have c2:x.bare=false:=by simpa [lastG,pickB] using c2
    obtain ⟨k,hk,eC⟩:=tU.to1 c2;have hg:S[k]? = some S[k]:=gE (by omega);have Wz:cM S x=S[k]:=by unfold cM cg;rw [c2,hk,ej,aF,hg];all_goals rfl
    rw [Wz] at eT nv;generalize S[k]=v at eT nv hg;have hw:=wrapN (a:=s) (b:=v) (by omega) (by omega);obtain ⟨en,eb,ea,et,vC,ew,yQ,yR,yS,yT⟩:=x;simp only at hk;subst hk;refine dI ?_;refine ⟨_,⟨cH _,aE hx⟩,?_⟩;refine ⟨_,⟨cH _,aG hg⟩,?_⟩;refine cD wv (ia (s + v)) ?_ (gU hw);exact rE ⟨_,by omega,e + 1,rfl,by omega,rfl⟩ (au 1 rfl (gF eT.symm (aJ ap (by omega))) rfl rfl rfl (wB2 eT.symm (aJ ap (by omega))))
   ·have c2:x.bare=true:=by simpa [lastG,pickB] using c2
    have hs:s=sumX S c (es.take (e + 1)) 0 1:=by rw [eT];unfold cM bf;rw [ai c2];omega
    exact rE ⟨_,by omega,e + 1,rfl,by omega,rfl⟩ (au 1 rfl (gF hs (aJ ap (by omega))) rfl rfl rfl (wB2 hs (aJ ap (by omega))))
  ·have c1:(e:Int)=c:=Decidable.byContradiction fun h=>by simp [lastG,h] at c1
   rw [ai c1] at eT;exact rE ⟨_,by omega,e + 1,rfl,by omega,rfl⟩ (au 1 rfl (gF eT.symm (aJ ap (by omega))) rfl rfl rfl (wB2 eT.symm (aJ ap (by omega))))
 ·have aQ:e=es.length:=sW bH hL;subst aQ;rw [List.take_length];exact (rfl:_=_)
abbrev kW (n:Nd) (but:Int) (out:Option Nat) (j:Int):St:=
 ⟨[(2,⟨[],.v (.int .i64 but)⟩),(3,⟨[],.loc 0 0⟩),(4,⟨[],.loc 1 0⟩),(7,⟨[],.v (.int .i64 (oz out))⟩),(8,⟨[],.v (.int .i64 j)⟩)],[yX a b A B ND z D M S O,gL n],[]⟩
set_option maxHeartbeats 4000000 in
theorem nr {n:Nd} (but:Int) (hD:D.length=ND.length) (hn:cK L ND.length n) (ez:n.ak.length<=1099511627776) :
  aV prog 83 [.agg (yX a b A B ND z D M S O),.agg (gL n),.v (.int .i64 but)] (.v (.int .i64 (oz (tagR D n.ak but n.ak.length)))):=by
 have aZ:=hn.fU;obtain ⟨ag,aX,lo,hi,most,af,es⟩:=n;simp only at aZ ez ⊢;have bH:=aT es;refine eG 61 [.tmp 6] func83 rfl ntmps83 rfl fun _ _ _ _=>?_;refine bz (fun t st=>∃ (c:Nat) (j:Int),st=kW a b A B ND z D M S O ⟨ag,aX,lo,hi,most,af,es⟩ but (tagR D es but c) j/\c<=es.length/\j=(es.length:Int) - 1 - c/\t=es.length - c) es.length (kW a b A B ND z D M S O ⟨ag,aX,lo,hi,most,af,es⟩ but none ((es.length:Int) - 1)) (au 2 rfl (ny (show IntKind.i64.wrap (((cG es).length:Int) - 1)=(es.length:Int) - 1 by rw [bH,wrap64 (by omega) (by omega)])) rfl rfl rfl (dt (show IntKind.i64.wrap (((cG es).length:Int) - 1)=(es.length:Int) - 1 by rw [bH,wrap64 (by omega) (by omega)]))) ⟨0,_,rfl,by omega,by omega,by omega⟩ ?_;rintro t st ⟨c,j,rfl,hc,hj,rfl⟩;refine br ?_ ?_<;>intro hL
 ·have hL:0<=j:=sU hL;obtain ⟨i,rfl⟩:∃ i:Nat,j=i:=⟨j.toNat,by omega⟩;have hic:i=es.length - (c + 1):=by omega
  have ap:i < es.length:=by omega
  obtain ⟨x,hx⟩:=gX ap;have tU:=aZ x (mG hx);have bY:tagR D es but (c + 1)=tgStep D es but i (tagR D es but c):=by rw [tagR,<- hic]
  have uT:=fun k h=>rU (D:=D) (es:=es) (but:=but) (c:=c) (k:=k) (by omega) h;unfold tgStep at bY;rw [hx] at bY;simp only at bY;have aaB:=np a b A B ND z D M S O hD tU
  have Tr:∃ v,x.bare=false->D[x.to.toNat]? = some v/\0<=x.to/\(ed D x=false↔v=0):=by
   cases hb:x.bare with
   | true=>exact ⟨0,fun h=>by cases h⟩
   | false=>
    obtain ⟨k,hk,eC⟩:=tU.to1 hb;have hg:D[x.to.toNat]? = some D[x.to.toNat]:=gE (by omega);exact ⟨_,fun _=>⟨hg,by omega,by unfold ed cg;rw [hb,aF,hg];simp⟩⟩
  obtain ⟨v,hv⟩:=Tr;have hbt:x.bare=true->ed D x=true:=fun h=>by unfold ed;rw [h];all_goals rfl
  have ld:∀ out2:Option Nat,tagR D es but (c + 1)=out2->∃ c2 j2,kW a b A B ND z D M S O ⟨ag,aX,lo,hi,most,af,es⟩ but out2 (((i:Nat):Int) - 1)=kW a b A B ND z D M S O ⟨ag,aX,lo,hi,most,af,es⟩ but (tagR D es but c2) j2/\c2<=es.length/\j2=(es.length:Int) - 1 - c2/\es.length - (c + 1)=es.length - c2:=fun out2 h=>⟨c + 1,_,by rw [h],by omega,by omega,rfl⟩;have hw:IntKind.i64.wrap (((i:Nat):Int) - 1)=((i:Nat):Int) - 1:=wrap64 (by omega) (by omega);generalize tagR D es but c=out at bY uT;generalize tagR D es but (c + 1)=out2 at bY ld;refine ⟨_,⟨cH _,aE hx⟩,?_⟩;refine br ?_ ?_<;>intro c1
  ·have c1:¬ (i:Int)=but:=fun h=>by simp [lastG,h] at c1
   refine br ?_ ?_<;>intro c2
   ·have c2:x.bare=false:=by simpa [lastG] using c2
    obtain ⟨nI,vR,V5⟩:=hv c2;refine ⟨_,⟨vR,aG nI⟩,?_⟩;refine br ?_ ?_<;>intro c3
    ·have c3:v=0:=by simpa [lastG,pickB] using c3
     rw [ai (.inr (V5.2 c3))] at bY;exact ⟨kW a b A B ND z D M S O ⟨ag,aX,lo,hi,most,af,es⟩ but out2 ((i:Nat) - 1),(au 2 rfl (gF hw (congrArg oz (bY.symm))) rfl rfl rfl (wB2 hw (congrArg oz (bY.symm)))),es.length - (c + 1),by omega,ld out2 rfl⟩
    ·have c3:¬ v=0:=by simpa [lastG,pickB] using c3
     rw [ah (fun h=>h.elim c1 (fun h=>c3 (V5.1 h)))] at bY;refine dI ?_;refine br ?_ ?_<;>intro c4
     ·have c4:¬ 0<=but/\out≠none:=by
       cases out with
       | none=>simp [lastG,aw,oz] at c4
       | some k=>exact ⟨fun h=>by simp [lastG,pickB,h] at c4,by simp⟩
      obtain ⟨k,rfl⟩:=Option.ne_none_iff_exists'.1 c4.2;rw [ah c4.1] at bY;obtain ⟨_,y,hy,_,_⟩:=uT k rfl;have Pd:=np a b A B ND z D M S O hD (aZ y (mG hy));simp only [hy] at bY;refine cD IA aaB ?_;refine ⟨_,⟨cH _,aE hy⟩,?_⟩;refine cD IA Pd ?_;refine br ?_ ?_<;>intro c5
      ·have c5:kY D x<=kY D y:=by simpa [lastG,pickB,oz] using c5
       exact ⟨kW a b A B ND z D M S O ⟨ag,aX,lo,hi,most,af,es⟩ but out2 ((i:Nat) - 1),(au 2 rfl (gF hw (congrArg oz ((bY.trans (ai c5)).symm))) rfl rfl rfl (wB2 hw (congrArg oz ((bY.trans (ai c5)).symm)))),es.length - (c + 1),by omega,ld out2 rfl⟩
      ·have c5:¬ kY D x<=kY D y:=by simpa [lastG,pickB,oz] using c5
       exact ⟨kW a b A B ND z D M S O ⟨ag,aX,lo,hi,most,af,es⟩ but out2 ((i:Nat) - 1),(au 2 rfl (gF hw (congrArg oz ((bY.trans (ah c5)).symm))) rfl rfl rfl (wB2 hw (congrArg oz ((bY.trans (ah c5)).symm)))),es.length - (c + 1),by omega,ld out2 rfl⟩
     ·have c4:0<=but∨out=none:=by
       cases out with
       | none=>exact .inr rfl
       | some k=>exact .inl (Decidable.byContradiction fun h=>by
         have h2:decide (0<=but)=false:=decide_eq_false h;have h3:decide (oz (some k) < 0)=false:=decide_eq_false (show ¬ ((k:Nat):Int) < 0 by omega);simp only [lastG,aw,h2,h3] at c4
         cases c4)
      have PR:out2=some i:=by
       by_cases hb:0<=but
       ·rw [bY,ai hb]
       ·rw [c4.resolve_left hb,ah hb] at bY;exact bY
      exact ⟨kW a b A B ND z D M S O ⟨ag,aX,lo,hi,most,af,es⟩ but out2 ((i:Nat) - 1),(au 2 rfl (gF hw (congrArg oz (PR.symm))) rfl rfl rfl (wB2 hw (congrArg oz (PR.symm)))),es.length - (c + 1),by omega,ld out2 rfl⟩
   ·have c2:x.bare=true:=by simpa [lastG] using c2
    rw [ah (fun h=>h.elim c1 (fun h=>by rw [hbt c2] at h;cases h))] at bY;refine dI ?_;refine br ?_ ?_<;>intro c4
    ·have c4:¬ 0<=but/\out≠none:=by
      cases out with
      | none=>simp [lastG,aw,oz] at c4
      | some k=>exact ⟨fun h=>by simp [lastG,pickB,h] at c4,by simp⟩
     obtain ⟨k,rfl⟩:=Option.ne_none_iff_exists'.1 c4.2;rw [ah c4.1] at bY;obtain ⟨_,y,hy,_,_⟩:=uT k rfl;have Pd:=np a b A B ND z D M S O hD (aZ y (mG hy));simp only [hy] at bY;refine cD IA aaB ?_;refine ⟨_,⟨cH _,aE hy⟩,?_⟩;refine cD IA Pd ?_;refine br ?_ ?_<;>intro c5
     ·have c5:kY D x<=kY D y:=by simpa [lastG,pickB,oz] using c5
      exact ⟨kW a b A B ND z D M S O ⟨ag,aX,lo,hi,most,af,es⟩ but out2 ((i:Nat) - 1),(au 2 rfl (gF hw (congrArg oz ((bY.trans (ai c5)).symm))) rfl rfl rfl (wB2 hw (congrArg oz ((bY.trans (ai c5)).symm)))),es.length - (c + 1),by omega,ld out2 rfl⟩
     ·have c5:¬ kY D x<=kY D y:=by simpa [lastG,pickB,oz] using c5
      exact ⟨kW a b A B ND z D M S O ⟨ag,aX,lo,hi,most,af,es⟩ but out2 ((i:Nat) - 1),(au 2 rfl (gF hw (congrArg oz ((bY.trans (ah c5)).symm))) rfl rfl rfl (wB2 hw (congrArg oz ((bY.trans (ah c5)).symm)))),es.length - (c + 1),by omega,ld out2 rfl⟩
    ·have c4:0<=but∨out=none:=by
      cases out with
      | none=>exact .inr rfl
      | some k=>exact .inl (Decidable.byContradiction fun h=>by
         have h2:decide (0<=but)=false:=decide_eq_false h;have h3:decide (oz (some k) < 0)=false:=decide_eq_false (show ¬ ((k:Nat):Int) < 0 by omega);simp only [lastG,aw,h2,h3] at c4
         cases c4)
     have PR:out2=some i:=by
      by_cases hb:0<=but
      ·rw [bY,ai hb]
      ·rw [c4.resolve_left hb,ah hb] at bY;exact bY
     exact ⟨kW a b A B ND z D M S O ⟨ag,aX,lo,hi,most,af,es⟩ but out2 ((i:Nat) - 1),(au 2 rfl (gF hw (congrArg oz (PR.symm))) rfl rfl rfl (wB2 hw (congrArg oz (PR.symm)))),es.length - (c + 1),by omega,ld out2 rfl⟩
  ·have c1:(i:Int)=but:=Decidable.byContradiction fun h=>by simp [lastG,h] at c1
   rw [ai (.inl c1)] at bY;exact ⟨kW a b A B ND z D M S O ⟨ag,aX,lo,hi,most,af,es⟩ but out2 ((i:Nat) - 1),(au 2 rfl (gF hw (congrArg oz (bY.symm))) rfl rfl rfl (wB2 hw (congrArg oz (bY.symm)))),es.length - (c + 1),by omega,ld out2 rfl⟩
 ·have hce:c=es.length:=by have:=hL;simp at this;omega
  subst hce;exact (rfl:_=_)
end
def nB (S D:List Nat) (l:List Pl) (c:Nat):Nat:=if l.all (iO D)=true then bf (c + totF S l) else 0
theorem H6 {S D:List Nat} {q:Pl} {l:List Pl} {c:Nat} (hc:1<=c):nB S D (q :: l) c=if iO D q=true/\nB S D l c≠0 then bf (nB S D l c + yW S q) else 0:=by
 unfold nB;rw [List.all_cons,totF]
 cases iO D q with
 | false=>simp
 | true=>
  cases l.all (iO D) with
  | false=>simp
  | true=>
   have h:bf (c + totF S l)≠0:=by unfold bf;omega
   simp only [Bool.and_true,if_true,true_and,ne_eq,h,not_false_eq_true];rw [tQ];congr 1;omega
theorem FI (S D:List Nat) (l:List Pl) (c:Nat):nB S D l c<=4097:=by
 unfold nB;split
 ·exact fF _
 ·omega
section
variable (a b:Nat) (A B:List (List DV)) (ND:List Nd) (z:Int) (D M S O:List Nat) {L:Nat}
abbrev TA (d:Nd) (p:List dj) (k:Int) (m e:Nat):St:=
 ⟨[(2,⟨[],.sl 3 (aU p) none⟩),(4,⟨[],.loc 0 0⟩),(9,⟨[],.loc 1 0⟩),(10,⟨[],.v (.int .i64 k)⟩),(12,⟨[],.v (.int .i64 m)⟩),(13,⟨[],.v (.int .i64 e)⟩)],[yX a b A B ND z D M S O,gL d],[]⟩
abbrev TB (d:Nd) (k:Int) (m e:Nat):St:=
 ⟨[(4,⟨[],.loc 0 0⟩),(9,⟨[],.loc 1 0⟩),(10,⟨[],.v (.int .i64 k)⟩),(12,⟨[],.v (.int .i64 m)⟩),(14,⟨[],.v (.int .i64 e)⟩)],[yX a b A B ND z D M S O,gL d],[]⟩
set_option maxHeartbeats 4000000 in
theorem uJ {f:Nat->Nat->Bool} {m:Nat} (bw:∀ n∈ND,cK L ND.length n) (bQ:∀ n∈ND,n.ak.length<=1099511627776) (hS:S.length=ND.length) (hz:∀ x∈S,x<=4097) (hDS:∀ j,S.getD j 0=0↔D.getD j 0=0) {c:Nat} (hc:1<=c) (lA:c<=1099511627776) :
  ∀ (p:List dj),p.length<=1099511627776->(∀ s∈p,s.s.size<=4611686018427387904)->∀ (i a':Nat) {r:Nat × Nat},i < ND.length->walkV ND f m p i a'=some r ->
   aV prog 73 [.agg (yX a b A B ND z D M S O),.v (.int .i64 i),.sl 3 (aU p) none,.v (.int .i64 c)] (.v (.int .i64 (nB S D (stpsV ND p i) c:Nat)))
 | [],_,_,i,a',r,hi,_=>by
  have h:=ia c;rw [show nB S D (stpsV ND [] i) c=bf c by unfold nB;simp [stpsV,totF]];refine eG 116 [.tmp 8] func73 rfl ntmps73 rfl fun _ _ _ _=>?_;refine cP wv h ?_;exact (rfl:_=_)
 | s :: p,hp,hs,i,a',r,hi,hw=>by
  obtain ⟨d,k,x,hd,hk,hx,hw2⟩:=nk hw;have hm:=mG hd;have hN:=bw d hm;have ez:=bQ d hm;have yP:=oE d s ez (hs s (by simp));rw [hk] at yP;obtain ⟨Kk,WG⟩:∃ K:Int,K=(k:Int):=⟨_,rfl⟩;have yP:aV prog 138 [.agg (gL d),.agg (jX s)] (.v (.int .i64 Kk)):=by rw [WG];exact yP
  have QW:¬ Kk < 0:=by omega
  have hKt:Kk.toNat=k:=by omega
  have hq:tR ND ⟨i,d,k,s⟩:=⟨hd,hk⟩;obtain ⟨k1,k5,k2,k3,k4,VA⟩:=lz hq;have VY:=fun c=>CS bw hq hx c;obtain ⟨e',pT,hB',_⟩:=gf hk;rw [hx] at pT;cases pT;have nM:=kU hN (mG hx) hB';obtain ⟨t,ht,gZ⟩:=(hN.fU x (mG hx)).to1 nM;have F5:x.to.toNat=t:=by rw [ht,ej]
  rw [F5] at hw2;have yw:=O7 s p;have C2:=dR (l:=s :: p) (e:=0) rfl;have O8:=ef (s :: p);rw [List.length_cons] at O8 hp;have ih:=uJ bw bQ hS hz hDS hc lA p (by omega) (fun y hy=>hs y (by simp [hy])) t _ gZ hw2;rw [nj hd hk hx,F5,H6 hc];have eB:=FI S D (stpsV ND p t) c;generalize nB S D (stpsV ND p t) c=R at ih eB ⊢;have KJ:iO D ⟨i,d,k,s⟩=(decide (s.k≠3) && (decide (s.k≠1) || nH D k d.ak 0)):=rfl;have e2:=@JC S ⟨i,d,k,s⟩;have e1:=@O9 S ⟨i,d,k,s⟩;have e0:=@Pa S ⟨i,d,k,s⟩;generalize iO D ⟨i,d,k,s⟩=Al at KJ ⊢;generalize yW S ⟨i,d,k,s⟩=Ex at e2 e1 e0 ⊢;have aZ:=hN.fU;have dn:=hN.bare;have oF:=hN.uw;obtain ⟨ag,aX,lo,eQ,most,af,es⟩:=d;obtain ⟨sk,sn,ss⟩:=s;simp only at k1 k5 k2 k3 k4 VA VY KJ e2 e1 e0 aZ dn oF ez hx;have bH:=aT es;refine eG 116 [.tmp 8] func73 rfl ntmps73 rfl fun _ _ _ _=>?_;refine iX (bZ hd) ?_;refine dI ?_;refine ⟨_,⟨by omega,C2⟩,?_⟩;refine cD Iy yP ?_;refine br ?_ ?_<;>intro g
  rotate_left
  ·exfalso;have g:Kk < 0:=by simpa [lastG] using g
   omega
  refine ⟨_,⟨by omega,C2⟩,?_⟩;refine br ?_ ?_<;>intro c3
  ·have c3:sk=3:=by simpa [lastG,aw,QW] using c3
   rw [ah (fun h=>by rw [KJ,c3] at h;simp at h)];exact (rfl:_=_)
  have c3:¬ sk=3:=by
   intro h;rw [h] at c3;simp [lastG,pickB] at c3
  refine dI ?_;refine ⟨_,⟨by omega,by rw [hKt];exact aE hx⟩,?_⟩;refine ⟨⟨by omega,by omega,by omega⟩,?_⟩;rw [<- ht] at ih;refine cD Xw ih ?_ (gU yw);refine br ?_ ?_<;>intro c0
  ·have c0:R=0:=by
    have:((R:Nat):Int)=0:=sU c0;omega
   rw [ah (fun h=>h.2 c0)];exact (rfl:_=_)
  have c0:R≠0:=by
   intro h;rw [h] at c0;simp at c0
  have hw1:=wrapN (a:=1) (b:=R) (by omega) (by omega);refine cP wv (ia (1 + R)) ?_ (gU hw1)
  obtain ⟨v,hv,vR⟩:∃ v:Nat,v<=4097/\(sk=2->(cG es)[0]? = some (Ce x)/\S[x.to.toNat]? = some v/\Ex=1 + sn.toNat * v):=by
   have hg:S[t]? = some S[t]:=gE (by omega);refine ⟨S[t],hz _ (List.getElem_mem _),fun h2=>?_⟩;obtain ⟨c5,_⟩:=k2 h2;obtain ⟨gD,_,ht0⟩:=VY (.inl c5);refine ⟨aE (by rw [gD];rfl),by rw [F5];exact hg,?_⟩;rw [e2 h2,ht0,F5,aF,hg];all_goals rfl
  have hnn:sk≠2->sn.toNat=0:=fun h=>by omega
  have hn5:sn.toNat<=1024:=by
   by_cases h:sk=2
   ·have:=k2 h;have:=oF this.1;omega
   ·have:=hnn h;omega
  refine bz (fun j st=>∃ e:Nat,st=TA a b A B ND z D M S O ⟨ag,aX,lo,eQ,most,af,es⟩ (⟨sk,sn,ss⟩ :: p) Kk (bf (1 + R + e * v)) e/\e<=sn.toNat/\j=sn.toNat - e) sn.toNat (TA a b A B ND z D M S O ⟨ag,aX,lo,eQ,most,af,es⟩ (⟨sk,sn,ss⟩ :: p) Kk (bf (1 + R)) 0) (au 2 rfl wA rfl rfl rfl wB) ⟨0,by rw [Nat.zero_mul];rfl,by omega,by omega⟩ ?_;rintro j st ⟨e,rfl,he,rfl⟩;refine ⟨_,⟨by omega,C2⟩,?_⟩;refine br ?_ ?_<;>intro hL
  ·have ap:e < sn.toNat:=by
    have:(e:Int) < sn:=sU hL;omega
   have vT:sk=2:=Decidable.byContradiction fun h=>by have:=hnn h;omega
   obtain ⟨yU,Wm,_⟩:=vR vT;have hcm:=fF (1 + R + e * v);have hw:=wrapN (a:=bf (1 + R + e * v)) (b:=v) (by omega) (by omega);have eT:bf (bf (1 + R + e * v) + v)=bf (1 + R + (e + 1) * v):=by rw [tQ,Nat.add_mul,Nat.one_mul,Nat.add_assoc]
   refine dI ?_;refine ⟨_,⟨by omega,yU⟩,?_⟩;refine iX (aG Wm) ?_;refine cD wv (ia (bf (1 + R + e * v) + v)) ?_ (gU hw);exact rE ⟨_,by omega,e + 1,rfl,by omega,rfl⟩ (au 2 rfl (gF (aJ ap (by omega)) eT) rfl rfl rfl (wB2 (aJ ap (by omega)) eT))
  have aQ:e=sn.toNat:=by
   have:¬ (e:Int) < sn:=sU hL;omega
  subst aQ;by_cases c7:ag=7
  ·have pL:sk=1:=by omega
   have dK:sn.toNat=0:=hnn (by omega);rw [dK,Nat.zero_mul,Nat.add_zero];have e1:=e1 pL;refine lI (fun j st=>∃ e:Nat,st=TB a b A B ND z D M S O ⟨ag,aX,lo,eQ,most,af,es⟩ Kk (bf (1 + R + sumE S k (es.take e) 0)) e/\e<=es.length/\nH D k (es.take e) 0=true/\j=es.length - e) ⟨0,rfl,by omega,rfl,rfl⟩ (au 2 rfl wA rfl rfl rfl wB) ?_;rintro j st ⟨e,rfl,he,nF,rfl⟩;refine br ?_ ?_<;>intro hL
   ·have ap:e < es.length:=by
     have:=hL;simp [bH,c7,av] at this;exact this
    obtain ⟨y,hy⟩:=gX ap
    have VI:y.bare=false:=by
     cases hb:y.bare with
     | false=>rfl
     | true=>have:=dn y (mG hy) hb;omega
    obtain ⟨u,hu,hul⟩:=(aZ y (mG hy)).to1 VI;obtain ⟨w,Wc⟩:∃ w,S[u]? = some w:=⟨_,gE (by omega)⟩;have hwl:=hz w (mG Wc);have gD:cg S y=w:=by unfold cg;rw [hu,ej,aF,Wc];all_goals rfl
    have eT:=Bg (sz:=S) (k:=k) hy;have RP:=Bj (D:=D) (k:=k) hy;refine br ?_ ?_<;>intro g
    ·have g:e=k:=by
      have:(e:Int)=Kk:=sU g;omega
     have rS:1 + R + sumE S k (es.take e) 0=1 + R + sumE S k (es.take (e + 1)) 0:=by rw [eT,ai g,Nat.add_zero]
     exact rE ⟨_,by omega,e + 1,rfl,by omega,by rw [RP,nF];simp [g],rfl⟩ (au 2 rfl (gF (aJ ap (by omega)) (congrArg (fun n:Nat=>((bf n:Nat):Int)) rS)) rfl rfl rfl (wB2 (aJ ap (by omega)) (congrArg (fun n:Nat=>((bf n:Nat):Int)) rS)))
    have g:¬ e=k:=by
     intro h;rw [h,<- WG] at g;simp at g
    refine dI ?_;refine iX (aE hy) ?_;refine ⟨_,⟨by omega,by rw [hu];exact aG Wc⟩,?_⟩;refine br ?_ ?_<;>intro g0
    ·have g0:w=0:=by
      have:((w:Nat):Int)=0:=sU g0;omega
     have vg:cg D y=0:=(hDS y.to.toNat).1 (by rw [show S.getD y.to.toNat 0=cg S y from rfl,gD,g0])
     rw [ah (fun h=>by
      have h:=h.1;rw [KJ,aP] at h;have h:=h.2;simp [pL] at h
      exact kV.1 h e y hy (by omega) vg)]
     exact (rfl:_=_)
    have g0:w≠0:=by
     intro h;rw [h] at g0;simp at g0
    have vg:cg D y≠0:=fun h=>g0 (by rw [<- gD];exact (hDS y.to.toNat).2 h);have hcm:=fF (1 + R + sumE S k (es.take e) 0);have hw:=wrapN (a:=bf (1 + R + sumE S k (es.take e) 0)) (b:=w) (by omega) (by omega);have rS:bf (bf (1 + R + sumE S k (es.take e) 0) + w)=bf (1 + R + sumE S k (es.take (e + 1)) 0):=by rw [tQ,eT,ah g,gD,Nat.add_assoc]
    refine dI ?_;refine iX (aE hy) ?_;refine ⟨_,⟨by omega,by rw [hu];exact aG Wc⟩,?_⟩;refine cD wv (ia (bf (1 + R + sumE S k (es.take e) 0) + w)) ?_ (gU hw);exact rE ⟨_,by omega,e + 1,rfl,by omega,by rw [RP,nF];simp [vg],rfl⟩ (au 2 rfl (gF (aJ ap (by omega)) rS) rfl rfl rfl (wB2 (aJ ap (by omega)) rS))
   ·have aQ:e=es.length:=by
     have:=hL;simp [bH,c7,av] at this;omega
    subst aQ;rw [List.take_length] at nF ⊢;have hAt:Al=true:=by rw [KJ];simp [pL,nF]
    rw [ai ⟨hAt,c0⟩,e1,show R + (1 + sumE S k es 0)=1 + R + sumE S k es 0 by omega];exact (rfl:_=_)
  ·have pL:¬ sk=1:=by omega
   have hAt:Al=true:=by rw [KJ];simp [pL,c3]
   have Wb:R + Ex=1 + R + sn.toNat * v:=by
    by_cases h2:sk=2
    ·have:=(vR h2).2.2;omega
    ·rw [e0 h2 pL,hnn h2,Nat.zero_mul];omega
   rw [ai ⟨hAt,c0⟩,Wb];refine lI (fun j st=>st=TB a b A B ND z D M S O ⟨ag,aX,lo,eQ,most,af,es⟩ Kk (bf (1 + R + sn.toNat * v)) 0/\j=0) ⟨rfl,rfl⟩ (au 2 rfl wA rfl rfl rfl wB) ?_;rintro j st ⟨rfl,rfl⟩;refine br ?_ ?_<;>intro hL
   ·exfalso;simp [c7,av] at hL
   ·exact (rfl:_=_)
end
theorem yI {S:List Nat} (e:Ed):sumX S (-1) [e] 0 1=bf (1 + cM S e):=by simp [sumX]
theorem Pe {es:List Ed} {k:Nat} {e:Ed} (h:es[k]? = some e):((cG es).take (k + 1)).drop k=cG [e]:=by
 have hl:=(gS h).1;unfold cG;rw [<- List.map_take,<- List.map_drop,dE h,List.drop_append_of_le_length (by rw [zLenT];omega),List.drop_of_length_le (by rw [zLenT];omega)];rfl
theorem Pf {es:List Ed} {c:Nat} {x:Ed} (h:es[c]? = some x) (hl:es.length<=1099511627776):DV.sl 10 (((cG es).take (IntKind.i64.wrap ((c:Int) + 1)).toNat).drop (c:Int).toNat) none=DV.sl 10 (cG [x]) none:=by
 have eS:=(gS h).1;rw [aJ eS (by omega),ej,ej,Pe h]
section
variable (a b:Nat) (A B:List (List DV)) (ND:List Nd) (z:Int) (D M S O:List Nat) (K:List Bool) {L:Nat}
theorem FJ {n:Nd} (hD:D.length=ND.length) (hS:S.length=ND.length) (hz:∀ z∈S,z<=4097) (hn:cK L ND.length n) (ez:n.ak.length<=1099511627776) (h8:n.ag=8->∃ c e,bD D n.ak=some c/\n.ak[c]? = some e) :
  aV prog 65 [.agg (yX a b A B ND z D M S O),.agg (gL n)] (.v (.int .i64 (sizeF S D n:Nat))):=by
 have TC:=nr a b A B ND z D M S O (-1) hD hn ez;rw [oG] at TC;have CW:=nq a b A B ND z D M S O n.ak (-1) hS hz hn.fU ez;have aZ:=hn.fU;obtain ⟨ag,aX,lo,hi,most,af,es⟩:=n;simp only at aZ ez TC CW h8;refine eG 27 [.tmp 4] func65 rfl ntmps65 rfl fun _ _ _ _=>?_;refine br ?_ ?_<;>intro c7
 ·have c7:ag=7:=sU c7;rw [show sizeF S D ⟨ag,aX,lo,hi,most,af,es⟩=sumX S (-1) es 0 1 by simp [sizeF,c7]];refine cP DH CW ?_;exact (rfl:_=_)
 have c7:¬ ag=7:=sU c7;refine br ?_ ?_<;>intro c8
 ·have c8:ag=8:=sU c8;obtain ⟨c,x,hc,hx⟩:=h8 c8;rw [hc] at TC;have pL:=nq a b A B ND z D M S O [x] (-1) hS hz (fun e he=>by rw [List.mem_singleton.1 he];exact aZ x (mG hx)) (by simp);rw [yI] at pL;rw [show sizeF S D ⟨ag,aX,lo,hi,most,af,es⟩=bf (1 + cM S x) by simp [sizeF,c8,hc,hx]];refine cP Qk TC ?_;have eS:=(gS hx).1;have hw:=aJ eS (by omega);have zK:=Pf hx ez;refine dI ?_;refine ⟨⟨cH _,by show (c:Int)<=IntKind.i64.wrap ((c:Int) + 1);rw [hw];omega,by show IntKind.i64.wrap ((c:Int) + 1)<=((cG es).length:Int);rw [hw,aT];omega⟩,?_⟩;refine cD DH pL ?_ (gU zK);exact (rfl:_=_)
 ·have c8:¬ ag=8:=sU c8;rw [show sizeF S D ⟨ag,aX,lo,hi,most,af,es⟩=1 by simp [sizeF,c7,c8]];exact (rfl:_=_)
abbrev VZ (n:Nd) (e:Nat):St:=
 ⟨[(2,⟨[],.loc 0 0⟩),(3,⟨[],.loc 1 0⟩),(5,⟨[],.v (.int .i64 e)⟩)],[yX a b A B ND z D M S O,gL n],[]⟩
theorem CX {n:Nd} (hM:M.length=ND.length) (hK:∀ j,j < ND.length->K.getD j false=decide (1 < M.getD j 0)) (hn:cK L ND.length n) (h7:n.ag=7) (ez:n.ak.length<=1099511627776) :
  aV prog 84 [.agg (yX a b A B ND z D M S O),.agg (gL n)] (.v (.int .i64 (oz (ym K n.ak)))):=by
 have aZ:=hn.fU;have dn:=hn.bare;obtain ⟨ag,aX,lo,hi,most,af,es⟩:=n;simp only at aZ ez h7 dn;have bH:=aT es;refine eG 25 [.tmp 4] func84 rfl ntmps84 rfl fun _ _ _ _=>?_;refine lI (fun j st=>∃ e:Nat,st=VZ a b A B ND z D M S O ⟨ag,aX,lo,hi,most,af,es⟩ e/\e<=es.length/\(∀ k,k < e->E6 K es k=false)/\j=es.length - e) ⟨0,rfl,by omega,fun _ h=>by omega,rfl⟩ (au 2 rfl wA rfl rfl rfl wB) ?_;rintro j st ⟨e,rfl,he,hB,rfl⟩;refine br ?_ ?_<;>intro hL
 ·have ap:e < es.length:=sV bH hL;obtain ⟨x,hx⟩:=gX ap
  have nM:x.bare=false:=by
   cases hb:x.bare with
   | false=>rfl
   | true=>have:=dn x (mG hx) hb;omega
  obtain ⟨k,hk,eC⟩:=(aZ x (mG hx)).to1 nM;obtain ⟨v,hv⟩:∃ z,M[k]? = some z:=⟨_,gE (by omega)⟩;have hP:E6 K es e=decide (1 < v):=by unfold E6;rw [hx];simp only;rw [hk,ej,hK k eC,aF,hv];all_goals rfl
  refine jD mo (by decide +kernel) ?_;refine ⟨_,⟨cH _,aE hx⟩,?_⟩;refine ⟨_,⟨by rw [hk];exact cH _,by rw [hk];exact aG hv⟩,?_⟩;refine br ?_ ?_<;>intro g
  ·have g:(1:Int) < v:=sU g;rw [show ym K es=some e from bB ap (hP.trans (decide_eq_true (by omega))) hB];exact (rfl:_=_)
  ·have g:¬ (1:Int) < v:=sU g
   exact rE ⟨_,by omega,e + 1,rfl,by omega,fun k hk=>by
    rcases eP hk with h1 | rfl
    ·exact hB k h1
    ·exact hP.trans (decide_eq_false (by omega)),rfl⟩ (au 2 rfl (ny (aJ ap (by omega))) rfl rfl rfl (dt (aJ ap (by omega))))
 ·have aQ:e=es.length:=sW bH hL;subst aQ;rw [show ym K es=none from bP hB];exact (rfl:_=_)
theorem CY {n:Nd} (hD:D.length=ND.length) (hM:M.length=ND.length) (hK:∀ j,j < ND.length->K.getD j false=decide (1 < M.getD j 0)) (hS:S.length=ND.length) (hO:O.length=ND.length) (hz:∀ z∈S,z<=4097) (hoz:∀ z∈O,z<=4097) (hn:cK L ND.length n) (ez:n.ak.length<=1099511627776) (hc8:n.ag=8->∃ c,bD D n.ak=some c) (O1:Fe D K n) :
  aV prog 66 [.agg (yX a b A B ND z D M S O),.agg (gL n)] (.v (.int .i64 (othE O (eO S D K n):Nat))):=by
 have TC:=nr a b A B ND z D M S O (-1) hD hn ez;have Pg:=fun b'=>nr a b A B ND z D M S O b' hD hn ez;rw [oG] at TC;have JQ:=fun h=>CX a b A B ND z D M S O K hM hK hn h ez;have CW:=fun c=>nq a b A B ND z D M S O n.ak c hS hz hn.fU ez;have aZ:=hn.fU;have cu:=hn.one;have jU:=hn.k1;have HF:=hn.k8;have h7:=O1.c7;have h8:=O1.c8;obtain ⟨ag,aX,lo,hi,most,af,es⟩:=n;simp only at aZ ez TC Pg CW h7 h8 JQ cu jU HF hc8
 have nJ:∀ {x:Ed},x∈es->x.bare=false->∃ z,(dInts O)[x.to.toNat]? = some [.v (.int .i64 (z:Nat))]/\0<=x.to/\O.getD x.to.toNat 0=z/\z<=4097:=fun {x} hx hb=>by
  obtain ⟨k,hk,eC⟩:=(aZ x hx).to1 hb;have hg:O[k]? = some O[k]:=gE (by omega);refine ⟨O[k],by rw [hk];exact aG hg,by omega,by rw [hk,ej,aF,hg];rfl,hoz _ (mG hg)⟩
 have hE:∀ a j z,O.getD j 0=z->othE O (a,some j)=if z=0 then 0 else bf (a + z):=fun a j z h=>by unfold othE;simp only [h]
 refine eG 70 [.tmp 4] func66 rfl ntmps66 rfl fun _ _ _ _=>?_;refine br ?_ ?_<;>intro c5
 ·have c5:ag < 5:=sU c5;rw [show eO S D K ⟨ag,aX,lo,hi,most,af,es⟩=(1,none) by unfold eO;simp only;rw [ah (by omega),ah (by omega),ah (by omega)]];exact (rfl:_=_)
 have c5:¬ ag < 5:=sU c5;refine br ?_ ?_<;>intro c6
 ·have c6:ag < 7:=sU c6;obtain ⟨x,hx,_⟩:=cu (by omega);subst hx;have CW:=CW (-1);rw [yI] at CW;rw [show eO S D K ⟨ag,aX,lo,hi,most,af,[x]⟩=(bf (1 + cM S x),none) by unfold eO;simp only;rw [ai (by omega)];rfl];refine cP DH CW ?_;exact (rfl:_=_)
 have c6:¬ ag < 7:=sU c6;refine cP Qk TC ?_;refine br ?_ ?_<;>intro c7
 ·have c7:ag=7:=sU c7;subst c7;obtain ⟨c,x,hc,hx,nM⟩:=h7 rfl;have JQ:=JQ rfl;rw [hc] at JQ;have nK:=nd (sz:=S) (c:=c) (es:=es) (i:=0) (n:=1) (by omega);have hF:eO S D K ⟨7,aX,lo,hi,most,af,es⟩=(sumX S c es 0 1,some x.to.toNat):=by simp [eO,hc,hx]
  obtain ⟨z,hz1,G8,LG,hz4⟩:=nJ (mG hx) nM;rw [hF,hE _ _ _ LG];have aaD:=CW (c:Int);refine cP en84 JQ ?_;refine jD mo (by decide +kernel) ?_;refine ⟨_,⟨cH _,aE hx⟩,?_⟩;refine ⟨_,⟨G8,hz1⟩,?_⟩;refine br ?_ ?_<;>intro g
  ·have g:z=0:=sU g;rw [ai g];exact (rfl:_=_)
  ·have g:¬ z=0:=sU g;rw [ah g];refine cP DH aaD ?_;refine cP wv (ia (sumX S c es 0 1 + z)) ?_ (by repeat' (first | exact rfl | exact trivial | exact Or.inr (Or.inl ⟨_,rfl⟩) | exact Or.inr ⟨_,rfl⟩ | exact Or.inl ⟨rfl,rfl⟩ | exact Or.inl rfl | refine Or.inr ⟨_,_,rfl,Nat.zero_le _,rfl,?_⟩ | refine ⟨_,_,rfl,?_,?_⟩ | refine ⟨_,rfl,?_⟩ | exact congrArg (fun z=>DV.v (.int .i64 z)) (wrapN (by omega) (by omega))| refine Or.inr (Or.inr (Or.inr ⟨_,_,rfl,?_⟩)) | exact Or.inl rfl | refine Or.inr ?_));exact (rfl:_=_)
 ·have c7:¬ ag=7:=sU c7;have c8:ag=8:=by omega
  subst c8;obtain ⟨c,hc⟩:=hc8 rfl;have Pg:=Pg (c:Int);rw [Le hc] at Pg;rw [hc];refine cP Qk Pg ?_
  cases ht:ly D es with
  | some k=>
   obtain ⟨x,hx,_⟩:=tI ht;have pL:=nq a b A B ND z D M S O [x] (-1) hS hz (fun e he=>by rw [List.mem_singleton.1 he];exact aZ x (mG hx)) (by simp);rw [yI] at pL;rw [show eO S D K ⟨8,aX,lo,hi,most,af,es⟩=(bf (1 + cM S x),none) by simp [eO,ht,hx],show othE O (bf (1 + cM S x),none)=bf (1 + cM S x) from rfl];have eS:=(gS hx).1;have hw:=aJ eS (by omega);have zK:=Pf hx ez;refine dI ?_;refine ⟨⟨cH _,by show (k:Int)<=IntKind.i64.wrap ((k:Int) + 1);rw [hw];omega,by show IntKind.i64.wrap ((k:Int) + 1)<=((cG es).length:Int);rw [hw,aT];omega⟩,?_⟩;refine cD DH pL ?_ (gU zK);exact (rfl:_=_)
  | none=>
   obtain ⟨c',x,Di,hx,nM⟩:=h8 rfl ht;rw [hc] at Di;cases Di;obtain ⟨z,hz1,G8,LG,hz4⟩:=nJ (mG hx) nM;rw [show eO S D K ⟨8,aX,lo,hi,most,af,es⟩=(1,some x.to.toNat) by simp [eO,ht,hc,hx],hE _ _ _ LG];refine jD mo (by decide +kernel) ?_;refine ⟨_,⟨cH _,aE hx⟩,?_⟩;refine ⟨_,⟨G8,hz1⟩,?_⟩;refine br ?_ ?_<;>intro g
   ·have g:z=0:=sU g;rw [ai g];exact (rfl:_=_)
   ·have g:¬ z=0:=sU g;rw [ah g];refine cP wv (ia (1 + z)) ?_ (by repeat' (first | exact rfl | exact trivial | exact Or.inr (Or.inl ⟨_,rfl⟩) | exact Or.inr ⟨_,rfl⟩ | exact Or.inl ⟨rfl,rfl⟩ | exact Or.inl rfl | refine Or.inr ⟨_,_,rfl,Nat.zero_le _,rfl,?_⟩ | refine ⟨_,_,rfl,?_,?_⟩ | refine ⟨_,rfl,?_⟩ | exact congrArg (fun z=>DV.v (.int .i64 z)) (wrapN (a:=1) (by omega) (by omega))| refine Or.inr (Or.inr (Or.inr ⟨_,_,rfl,?_⟩)) | exact Or.inl rfl | refine Or.inr ?_));exact (rfl:_=_)
end
end Go.Proofs.YtadhpeooehkklaaGreat
set_option maxRecDepth 100000
namespace Go.Proofs.YtadhpeooehkklaaGreat
open Go Go.RowKit
namespace Dv
section
variable {X:Ctx} {st:St}
def renAll:List (Nat × Nat)->St->St
 | [],S=>S
 | p :: l,S=>dX p.1 p.2 (renAll l S)
theorem Lf (i j:Nat) (S:St):(dX i j S).bx.length=S.bx.length:=by
 show (swL i j (renO (swp i j) S.bx)).length=_;unfold swL;split
 ·rw [List.length_set,List.length_set,cX]
 ·exact cX _ _
theorem qz (S:St):∀ l,(renAll l S).bx.length=S.bx.length
 | []=>rfl
 | p :: l=>by rw [renAll,Lf,qz S l]
theorem JD (hX:X.bt=[]) {S:St} {a:Act} {w:World}:∀ {l:List (Nat × Nat)} {E:En},Rel X E (renAll l S) a w->(l.all fun p=>Nat.ble X.n0 p.1 && Nat.ble X.n0 p.2 && Nat.blt p.1 S.bx.length && Nat.blt p.2 S.bx.length)=true->∃ E2,Rel X E2 S a w
 | [],E,h,_=>⟨E,h⟩
 | p :: l,E,h,hc=>by
  simp only [List.all_cons,aP,Nat.ble_eq,Nat.blt_eq] at hc;obtain ⟨⟨⟨⟨h1,h2⟩,h3⟩,h4⟩,h5⟩:=hc;obtain ⟨E2,h6⟩:=vf hX h h1 h2 (by rw [qz];exact h3) (by rw [qz];exact h4);exact JD hX h6 (sU h5)
theorem RQ {id:Nat} {ops:Array Oper} {k:List It} (W:Nat->Bool) (T:kT) (Ls:List (List (Nat × Nat))) (hm:X.P.follows .mixedOrders=true) (hc:(K4 ops && CK ops W && chkA ops T (List.range ops.size) none)=true) (S:St)
  (h:goA X ⟨ops,W,[.rZ fun s=>s=S∨∃ l,l∈Ls/\cY s (renAll l S)],st,none⟩ T true st.sl st) (hL:(Ls.all fun l=>l.all fun p=>Nat.ble X.n0 p.1 && Nat.ble X.n0 p.2 && Nat.blt p.1 S.bx.length && Nat.blt p.2 S.bx.length)=true) (hk:go X 4000 k S) (hX:X.bt=[]:=by exact rfl):lO X id ops k st:=by
 intro E a w hr;have iw:=jF hr;simp only [aP] at hc;obtain ⟨⟨hN,hP⟩,hT⟩:=hc;simp only [K4,aP,List.all_eq_true,List.mem_range] at hN;have hs:=kG iw (ops:=ops) (W:=W) (k:=[.rZ fun s=>s=S∨∃ l,l∈Ls/\cY s (renAll l S)]);have cv:=A9 (D:=⟨⟨ops,W,[.rZ fun s=>s=S∨∃ l,l∈Ls/\cY s (renAll l S)],st,none⟩,E,w.drew⟩) iw.env.em rfl T _ _ hT true st.sl st h E a w.drew hs;refine wp_region_any hm ?_;refine Fi (C:=CC E st.bx w.drew) (Q:=kq X [.rZ fun s=>s=S∨∃ l,l∈Ls/\cY s (renAll l S)] .normal) (Region.noSelect_spec hN.1) hP (fun i o ho e he hb=>?_) (fun a w hq=>?_) ops.size (Array.replicate ops.size false) (List.range ops.size) a _ (by simp) ?_ List.nodup_range ?_ (by simp) ⟨T,hT,cv⟩
 ·have h1:=hN.2 i (Array.getElem?_eq_some_iff.1 ho).1;rw [ho] at h1;have h2:=List.all_eq_true.1 h1 e (sU he);rw [hb] at h2;simpa using h2
 ·obtain ⟨qC,E1,ch,hJ⟩:=hq;rcases hJ with rfl | ⟨l,hl,hJ⟩
  ·exact go_sound 4000 _ _ hk E1 a w ch
  ·obtain ⟨E2,nV⟩:=JD hX (nW ch hJ) (List.all_eq_true.1 hL l hl);exact go_sound 4000 _ _ hk E2 a w nV
 ·intro i;simp only [List.mem_range];constructor
  ·intro hi;exact ⟨hi,by simp [hi]⟩
  ·intro hi;exact hi.1
 ·intro k o ho hk;exact (hk (List.mem_range.2 (Array.getElem?_eq_some_iff.1 ho).1)).elim
theorem Pj {id:Nat} {ops:Array Oper} {k:List It} (T:kT) (Ls:List (List (Nat × Nat))) (hm:X.P.follows .mixedOrders=true) (hc:(K4 ops && CK ops (Ma ops) && chkA ops T (List.range ops.size) none)=true) (S:St)
  (h:goA X ⟨ops,Ma ops,[.rZ fun s=>s=S∨∃ l,l∈Ls/\cY s (renAll l S)],st,none⟩ T true st.sl st) (hL:(Ls.all fun l=>l.all fun p=>Nat.ble X.n0 p.1 && Nat.ble X.n0 p.2 && Nat.blt p.1 S.bx.length && Nat.blt p.2 S.bx.length)=true) (hk:go X 4000 k S) (hX:X.bt=[]:=by exact rfl):lO X id ops k st:=
 RQ (Ma ops) T Ls hm hc S h hL hk hX
end
end Dv
end Go.Proofs.YtadhpeooehkklaaGreat
set_option maxRecDepth 100000
namespace Go.Proofs.YtadhpeooehkklaaGreat
open Go Go.RowKit Dv Go.Proofs.Tryz
theorem j4 {a b c d e a' b' c' d' e':List DV} (h1:a=a') (h2:b=b') (h3:c=c') (h4:d=d') (h5:e=e') : [a,b,c,d,e]=[a',b',c',d',e']:=by rw [h1,h2,h3,h4,h5]
theorem iA (f:Nat->Nat) (n:Nat):(List.replicate n (vL [Value.int .i64 0])).flatten=renL f (List.replicate n (vL [Value.int .i64 0])).flatten:=(vE f n).symm
theorem mn (f g:Nat->Nat) (n:Nat):(List.replicate n (vL [Value.int .i64 0])).flatten=renL f (renL g (List.replicate n (vL [Value.int .i64 0])).flatten):=by rw [vE,vE]
section
variable (a b:Nat) (A B:List (List DV)) (ND:List Nd) (z:Int)
abbrev mkW (D M:List Nat):List DV:=[.sl a A none,.sl b B none,.sl 7 (bq ND) none,.v (.int .i64 z),.sl 1 (dInts D) none,.sl 1 (dInts M) none,.ms 2 1 0 (bq ND).length (bq ND).length,.ms 3 1 0 (bq ND).length (bq ND).length]
abbrev z54:List DV:=[.v (.slice none 0 0),.v (.slice none 0 0),.v (.slice none 0 0),.v (.int .i64 0),.v (.slice none 0 0),.v (.slice none 0 0),.v (.slice none 0 0),.v (.slice none 0 0)]
theorem Pk {D M t o:List Nat} {bx:List (List DV)} (ht:t.length=ND.length) (ho:o.length=ND.length) (h1:bx[2]? = some (cN t)) (h2:bx[3]? = some (cN o)):CcL bx 0 0 0 (yX a b A B ND z D M t o) (mkW a b A B ND z D M):=
 ⟨_,_,rfl,ax,_,_,rfl,ax,_,_,rfl,ax,_,_,rfl,ax,_,_,rfl,ax,_,_,rfl,ax,_,_,rfl,CA (ht.trans (cw ND).symm) (Nat.zero_le _) h1,_,_,rfl,CA (ho.trans (cw ND).symm) (Nat.zero_le _) h2,rfl⟩
abbrev aaF (D M:List Nat) (d:Nat) (t o:List Nat):St:=
 ⟨[(1,⟨[],.loc 0 0⟩),(2,⟨[],.loc 1 0⟩),(3,⟨[],.loc 4 0⟩),(4,⟨[],.v (.int .i64 d)⟩)],[wG a b A B ND z,z54,cN t,cN o,mkW a b A B ND z D M],[]⟩
abbrev aaG (D M:List Nat) (d:Nat) (t o:List Nat) (e:Nat):St:=
 ⟨[(1,⟨[],.loc 0 0⟩),(2,⟨[],.loc 1 0⟩),(3,⟨[],.loc 4 0⟩),(4,⟨[],.v (.int .i64 d)⟩),(5,⟨[],.v (.int .i64 e)⟩)],[wG a b A B ND z,z54,cN t,cN o,mkW a b A B ND z D M],[]⟩
abbrev aaH (D M:List Nat) (d:Nat) (t o:List Nat):St:=
 ⟨[(1,⟨[],.loc 0 0⟩),(2,⟨[],.loc 1 0⟩),(3,⟨[],.loc 4 0⟩),(6,⟨[],.v (.int .i64 d)⟩)],[wG a b A B ND z,z54,cN t,cN o,mkW a b A B ND z D M],[]⟩
abbrev aaI (D M:List Nat) (d:Nat) (t o:List Nat) (e:Nat):St:=
 ⟨[(1,⟨[],.loc 0 0⟩),(2,⟨[],.loc 1 0⟩),(3,⟨[],.loc 4 0⟩),(6,⟨[],.v (.int .i64 d)⟩),(7,⟨[],.v (.int .i64 e)⟩)],[wG a b A B ND z,z54,cN t,cN o,mkW a b A B ND z D M],[]⟩
set_option maxHeartbeats 4000000 in
theorem FK {L:Nat} (bw:∀ n∈ND,cK L ND.length n) (fv:ND.length<=1099511627776) (bQ:∀ n∈ND,n.ak.length<=1099511627776) (dK:∀ n∈ND,n.af.length<=1099511627776) :
  aV prog 23 [.agg (wG a b A B ND z)] (.agg (yX a b A B ND z (depN ND ND.length) (qL (depN ND ND.length) (fo ND (depN ND ND.length))) (ke ND (depN ND ND.length)) (PF (ke ND (depN ND ND.length)) (depN ND ND.length) (fo ND (depN ND ND.length)) ND))):=by
 have lU:=pH a b A B z bw fv bQ;have jK:=E4 a b A B z bw fv bQ dK;have bH:=cw ND;generalize hD:depN ND ND.length=D at lU jK ⊢;have hO:gQ ND D:=hD ▸ gd ND
 have eZ:∀ j,D.getD j 0=match ND[j]? with | none=>0 | some n=>bc n D:=fun j=>by
  have:=depN_get ND ND.length j;rw [depN_end,hD] at this;exact this
 have hKM:=VH (D:=D) bw eZ;have hlM:(qL D (fo ND D)).length=ND.length:=by rw [Om];exact hO.len
 have WB:=hO.len
 have OU:∀ i n,ND[i]? = some n->(fo ND D).getD i false=true->Fe D (fo ND D) n/\0 < D.getD i 0:=fun i n hn h=>by
  rw [<- oB,aF,List.getElem?_map,hn] at h;exact ⟨yy (bw n (mG hn)) h,by rw [hO.get i n hn];exact yi (bw n (mG hn)) h⟩
 generalize hM:qL D (fo ND D)=M at jK hKM hlM ⊢;generalize hR:DV.agg (yX a b A B ND z D M (ke ND D) (PF (ke ND D) D (fo ND D) ND))=R;refine eG 86 [.cell 2 71] func23 rfl ntmps23 rfl fun _ _ _ _=>?_;have h1:(0:Int)<=((bq ND).length:Int):=by omega
 have h2:(8:Int) * ((bq ND).length:Int)<=281474976710656:=by omega
 have h3:((bq ND).length:Int)<=4611686018427387904:=by omega
 apply Pj (.op 0 (.op 1 (.op 3 (.op 5 (.op 6 (.op 7 (.op 9 (.op 10 (.op 11 (.ev 2 (.ev 4 (.ev 8 (.ev 12 (.op 13 (.ev 14 (.ev 15 .fin .stop) .stop)) (.ev 14 (.ev 12 (.op 13 (.ev 15 .fin .stop)) .stop) .stop)) (.ev 12 (.ev 8 (.op 13 (.ev 14 (.ev 15 .fin .stop) .stop)) (.ev 14 (.ev 8 (.op 13 (.ev 15 .fin .stop)) .stop) .stop)) (.ev 14 (.ev 8 (.ev 12 (.op 13 (.ev 15 .fin .stop)) .stop) (.ev 12 (.ev 8 (.op 13 (.ev 15 .fin .stop)) .stop) .stop)) .stop))) (.ev 8 (.ev 4 (.ev 12 (.op 13 (.ev 14 (.ev 15 .fin .stop) .stop)) (.ev 14 (.ev 12 (.op 13 (.ev 15 .fin .stop)) .stop) .stop)) (.ev 12 (.ev 4 (.op 13 (.ev 14 (.ev 15 .fin .stop) .stop)) (.ev 14 (.ev 4 (.op 13 (.ev 15 .fin .stop)) .stop) .stop)) (.ev 14 (.ev 4 (.ev 12 (.op 13 (.ev 15 .fin .stop)) .stop) (.ev 12 (.ev 4 (.op 13 (.ev 15 .fin .stop)) .stop) .stop)) .stop))) (.ev 12 (.ev 4 (.ev 8 (.op 13 (.ev 14 (.ev 15 .fin .stop) .stop)) (.ev 14 (.ev 8 (.op 13 (.ev 15 .fin .stop)) .stop) .stop)) (.ev 8 (.ev 4 (.op 13 (.ev 14 (.ev 15 .fin .stop) .stop)) (.ev 14 (.ev 4 (.op 13 (.ev 15 .fin .stop)) .stop) .stop)) (.ev 14 (.ev 4 (.ev 8 (.op 13 (.ev 15 .fin .stop)) .stop) (.ev 8 (.ev 4 (.op 13 (.ev 15 .fin .stop)) .stop) .stop)) .stop))) (.ev 14 (.ev 4 (.ev 8 (.ev 12 (.op 13 (.ev 15 .fin .stop)) .stop) (.ev 12 (.ev 8 (.op 13 (.ev 15 .fin .stop)) .stop) .stop)) (.ev 8 (.ev 4 (.ev 12 (.op 13 (.ev 15 .fin .stop)) .stop) (.ev 12 (.ev 4 (.op 13 (.ev 15 .fin .stop)) .stop) .stop)) (.ev 12 (.ev 4 (.ev 8 (.op 13 (.ev 15 .fin .stop)) .stop) (.ev 8 (.ev 4 (.op 13 (.ev 15 .fin .stop)) .stop) .stop)) .stop))) .stop)))) (.ev 8 (.ev 2 (.ev 4 (.ev 12 (.op 13 (.ev 14 (.ev 15 .fin .stop) .stop)) (.ev 14 (.ev 12 (.op 13 (.ev 15 .fin .stop)) .stop) .stop)) (.ev 12 (.ev 4 (.op 13 (.ev 14 (.ev 15 .fin .stop) .stop)) (.ev 14 (.ev 4 (.op 13 (.ev 15 .fin .stop)) .stop) .stop)) (.ev 14 (.ev 4 (.ev 12 (.op 13 (.ev 15 .fin .stop)) .stop) (.ev 12 (.ev 4 (.op 13 (.ev 15 .fin .stop)) .stop) .stop)) .stop))) (.ev 12 (.ev 2 (.ev 4 (.op 13 (.ev 14 (.ev 15 .fin .stop) .stop)) (.ev 14 (.ev 4 (.op 13 (.ev 15 .fin .stop)) .stop) .stop)) (.ev 14 (.ev 2 (.ev 4 (.op 13 (.ev 15 .fin .stop)) .stop) .stop) .stop)) (.ev 14 (.ev 2 (.ev 4 (.ev 12 (.op 13 (.ev 15 .fin .stop)) .stop) (.ev 12 (.ev 4 (.op 13 (.ev 15 .fin .stop)) .stop) .stop)) (.ev 12 (.ev 2 (.ev 4 (.op 13 (.ev 15 .fin .stop)) .stop) .stop) .stop)) .stop))) (.ev 12 (.ev 2 (.ev 4 (.ev 8 (.op 13 (.ev 14 (.ev 15 .fin .stop) .stop)) (.ev 14 (.ev 8 (.op 13 (.ev 15 .fin .stop)) .stop) .stop)) (.ev 8 (.ev 4 (.op 13 (.ev 14 (.ev 15 .fin .stop) .stop)) (.ev 14 (.ev 4 (.op 13 (.ev 15 .fin .stop)) .stop) .stop)) (.ev 14 (.ev 4 (.ev 8 (.op 13 (.ev 15 .fin .stop)) .stop) (.ev 8 (.ev 4 (.op 13 (.ev 15 .fin .stop)) .stop) .stop)) .stop))) (.ev 8 (.ev 2 (.ev 4 (.op 13 (.ev 14 (.ev 15 .fin .stop) .stop)) (.ev 14 (.ev 4 (.op 13 (.ev 15 .fin .stop)) .stop) .stop)) (.ev 14 (.ev 2 (.ev 4 (.op 13 (.ev 15 .fin .stop)) .stop) .stop) .stop)) (.ev 14 (.ev 2 (.ev 4 (.ev 8 (.op 13 (.ev 15 .fin .stop)) .stop) (.ev 8 (.ev 4 (.op 13 (.ev 15 .fin .stop)) .stop) .stop)) (.ev 8 (.ev 2 (.ev 4 (.op 13 (.ev 15 .fin .stop)) .stop) .stop) .stop)) .stop))) (.ev 14 (.ev 2 (.ev 4 (.ev 8 (.ev 12 (.op 13 (.ev 15 .fin .stop)) .stop) (.ev 12 (.ev 8 (.op 13 (.ev 15 .fin .stop)) .stop) .stop)) (.ev 8 (.ev 4 (.ev 12 (.op 13 (.ev 15 .fin .stop)) .stop) (.ev 12 (.ev 4 (.op 13 (.ev 15 .fin .stop)) .stop) .stop)) (.ev 12 (.ev 4 (.ev 8 (.op 13 (.ev 15 .fin .stop)) .stop) (.ev 8 (.ev 4 (.op 13 (.ev 15 .fin .stop)) .stop) .stop)) .stop))) (.ev 8 (.ev 2 (.ev 4 (.ev 12 (.op 13 (.ev 15 .fin .stop)) .stop) (.ev 12 (.ev 4 (.op 13 (.ev 15 .fin .stop)) .stop) .stop)) (.ev 12 (.ev 2 (.ev 4 (.op 13 (.ev 15 .fin .stop)) .stop) .stop) .stop)) (.ev 12 (.ev 2 (.ev 4 (.ev 8 (.op 13 (.ev 15 .fin .stop)) .stop) (.ev 8 (.ev 4 (.op 13 (.ev 15 .fin .stop)) .stop) .stop)) (.ev 8 (.ev 2 (.ev 4 (.op 13 (.ev 15 .fin .stop)) .stop) .stop) .stop)) .stop))) .stop))))))))))))) [[],[(3,4)],[(2,3)],[(2,3),(2,4)],[(2,3),(3,4)],[(2,4)]] mo (by decide +kernel);·exact ⟨aH nX lU ax rfl ⟨aH dM jK ax rfl ⟨⟨⟨rfl,h1,h2,h3⟩,⟨⟨⟨rfl,h1,h2,h3⟩,⟨⟨Or.inl rfl,trivial⟩,trivial⟩⟩,⟨⟨⟨⟨rfl,h1,h2,h3⟩,⟨Or.inr ⟨_,.tail _ (.head _),j4 rfl rfl (iA _ _) rfl (iA _ _),rfl,⟨rfl,rfl,rfl,rfl,rfl,rfl,rfl,rfl,rfl,rfl,rfl,rfl,rfl,rfl,rfl,rfl,rfl,rfl,trivial⟩⟩,trivial⟩⟩,trivial⟩,trivial⟩⟩⟩,⟨⟨⟨rfl,h1,h2,h3⟩,⟨⟨⟨rfl,h1,h2,h3⟩,⟨⟨Or.inr ⟨_,.tail _ (.tail _ (.head _)),j4 rfl rfl (iA _ _) (iA _ _) rfl,rfl,⟨rfl,rfl,rfl,rfl,rfl,rfl,rfl,rfl,rfl,rfl,rfl,rfl,rfl,rfl,rfl,rfl,rfl,rfl,trivial⟩⟩,trivial⟩,trivial⟩⟩,⟨⟨⟨⟨rfl,h1,h2,h3⟩,⟨Or.inr ⟨_,.tail _ (.tail _ (.tail _ (.head _))),j4 rfl rfl (mn _ _ _) rfl (mn _ _ _),rfl,⟨rfl,rfl,rfl,rfl,rfl,rfl,rfl,rfl,rfl,rfl,rfl,rfl,rfl,rfl,rfl,rfl,rfl,rfl,trivial⟩⟩,trivial⟩⟩,trivial⟩,trivial⟩⟩⟩,⟨⟨⟨⟨rfl,h1,h2,h3⟩,⟨⟨⟨rfl,h1,h2,h3⟩,⟨Or.inr ⟨_,.tail _ (.tail _ (.tail _ (.tail _ (.head _)))),j4 rfl rfl rfl (mn _ _ _) (mn _ _ _),rfl,⟨rfl,rfl,rfl,rfl,rfl,rfl,rfl,rfl,rfl,rfl,rfl,rfl,rfl,rfl,rfl,rfl,rfl,rfl,trivial⟩⟩,trivial⟩⟩,trivial⟩⟩,⟨⟨⟨rfl,h1,h2,h3⟩,⟨⟨⟨rfl,h1,h2,h3⟩,⟨Or.inr ⟨_,.tail _ (.tail _ (.tail _ (.tail _ (.tail _ (.head _))))),j4 rfl rfl rfl (iA _ _) (iA _ _),rfl,⟨rfl,rfl,rfl,rfl,rfl,rfl,rfl,rfl,rfl,rfl,rfl,rfl,rfl,rfl,rfl,rfl,rfl,rfl,trivial⟩⟩,trivial⟩⟩,trivial⟩⟩,trivial⟩⟩,trivial⟩⟩⟩,⟨⟨⟨rfl,h1,h2,h3⟩,⟨aH dM jK ax rfl ⟨⟨⟨rfl,h1,h2,h3⟩,⟨⟨Or.inr ⟨_,.head _,rfl,rfl,⟨rfl,rfl,rfl,rfl,rfl,rfl,rfl,rfl,rfl,rfl,rfl,rfl,rfl,rfl,rfl,rfl,rfl,rfl,trivial⟩⟩,trivial⟩,trivial⟩⟩,⟨⟨⟨⟨rfl,h1,h2,h3⟩,⟨Or.inr ⟨_,.tail _ (.head _),j4 rfl rfl (iA _ _) rfl (iA _ _),rfl,⟨rfl,rfl,rfl,rfl,rfl,rfl,rfl,rfl,rfl,rfl,rfl,rfl,rfl,rfl,rfl,rfl,rfl,rfl,trivial⟩⟩,trivial⟩⟩,trivial⟩,trivial⟩⟩,⟨⟨⟨rfl,h1,h2,h3⟩,⟨aH dM jK ax rfl ⟨⟨Or.inr ⟨_,.head _,rfl,rfl,⟨rfl,rfl,rfl,rfl,rfl,rfl,rfl,rfl,rfl,rfl,rfl,rfl,rfl,rfl,rfl,rfl,rfl,rfl,trivial⟩⟩,trivial⟩,trivial⟩,⟨⟨aH dM jK ax rfl ⟨Or.inr ⟨_,.head _,rfl,rfl,⟨rfl,rfl,rfl,rfl,rfl,rfl,rfl,rfl,rfl,rfl,rfl,rfl,rfl,rfl,rfl,rfl,rfl,rfl,trivial⟩⟩,trivial⟩,trivial⟩,trivial⟩⟩⟩,⟨⟨aH dM jK ax rfl ⟨⟨⟨rfl,h1,h2,h3⟩,⟨Or.inr ⟨_,.tail _ (.head _),j4 rfl rfl (iA _ _) rfl (iA _ _),rfl,⟨rfl,rfl,rfl,rfl,rfl,rfl,rfl,rfl,rfl,rfl,rfl,rfl,rfl,rfl,rfl,rfl,rfl,rfl,trivial⟩⟩,trivial⟩⟩,trivial⟩,⟨⟨⟨rfl,h1,h2,h3⟩,⟨aH dM jK ax rfl ⟨Or.inr ⟨_,.tail _ (.head _),j4 rfl rfl (iA _ _) rfl (iA _ _),rfl,⟨rfl,rfl,rfl,rfl,rfl,rfl,rfl,rfl,rfl,rfl,rfl,rfl,rfl,rfl,rfl,rfl,rfl,rfl,trivial⟩⟩,trivial⟩,trivial⟩⟩,trivial⟩⟩,trivial⟩⟩⟩⟩,⟨⟨⟨rfl,h1,h2,h3⟩,⟨aH dM jK ax rfl ⟨⟨⟨rfl,h1,h2,h3⟩,⟨⟨Or.inr ⟨_,.tail _ (.tail _ (.head _)),j4 rfl rfl (iA _ _) (iA _ _) rfl,rfl,⟨rfl,rfl,rfl,rfl,rfl,rfl,rfl,rfl,rfl,rfl,rfl,rfl,rfl,rfl,rfl,rfl,rfl,rfl,trivial⟩⟩,trivial⟩,trivial⟩⟩,⟨⟨⟨⟨rfl,h1,h2,h3⟩,⟨Or.inr ⟨_,.tail _ (.tail _ (.tail _ (.head _))),j4 rfl rfl (mn _ _ _) rfl (mn _ _ _),rfl,⟨rfl,rfl,rfl,rfl,rfl,rfl,rfl,rfl,rfl,rfl,rfl,rfl,rfl,rfl,rfl,rfl,rfl,rfl,trivial⟩⟩,trivial⟩⟩,trivial⟩,trivial⟩⟩,⟨⟨⟨rfl,h1,h2,h3⟩,⟨aH dM jK ax rfl ⟨⟨Or.inr ⟨_,.tail _ (.tail _ (.head _)),j4 rfl rfl (iA _ _) (iA _ _) rfl,rfl,⟨rfl,rfl,rfl,rfl,rfl,rfl,rfl,rfl,rfl,rfl,rfl,rfl,rfl,rfl,rfl,rfl,rfl,rfl,trivial⟩⟩,trivial⟩,trivial⟩,⟨⟨aH dM jK ax rfl ⟨Or.inr ⟨_,.tail _ (.tail _ (.head _)),j4 rfl rfl (iA _ _) (iA _ _) rfl,rfl,⟨rfl,rfl,rfl,rfl,rfl,rfl,rfl,rfl,rfl,rfl,rfl,rfl,rfl,rfl,rfl,rfl,rfl,rfl,trivial⟩⟩,trivial⟩,trivial⟩,trivial⟩⟩⟩,⟨⟨aH dM jK ax rfl ⟨⟨⟨rfl,h1,h2,h3⟩,⟨Or.inr ⟨_,.tail _ (.tail _ (.tail _ (.head _))),j4 rfl rfl (mn _ _ _) rfl (mn _ _ _),rfl,⟨rfl,rfl,rfl,rfl,rfl,rfl,rfl,rfl,rfl,rfl,rfl,rfl,rfl,rfl,rfl,rfl,rfl,rfl,trivial⟩⟩,trivial⟩⟩,trivial⟩,⟨⟨⟨rfl,h1,h2,h3⟩,⟨aH dM jK ax rfl ⟨Or.inr ⟨_,.tail _ (.tail _ (.tail _ (.head _))),j4 rfl rfl (mn _ _ _) rfl (mn _ _ _),rfl,⟨rfl,rfl,rfl,rfl,rfl,rfl,rfl,rfl,rfl,rfl,rfl,rfl,rfl,rfl,rfl,rfl,rfl,rfl,trivial⟩⟩,trivial⟩,trivial⟩⟩,trivial⟩⟩,trivial⟩⟩⟩⟩,⟨⟨aH dM jK ax rfl ⟨⟨⟨rfl,h1,h2,h3⟩,⟨⟨⟨rfl,h1,h2,h3⟩,⟨Or.inr ⟨_,.tail _ (.tail _ (.tail _ (.tail _ (.head _)))),j4 rfl rfl rfl (mn _ _ _) (mn _ _ _),rfl,⟨rfl,rfl,rfl,rfl,rfl,rfl,rfl,rfl,rfl,rfl,rfl,rfl,rfl,rfl,rfl,rfl,rfl,rfl,trivial⟩⟩,trivial⟩⟩,trivial⟩⟩,⟨⟨⟨rfl,h1,h2,h3⟩,⟨⟨⟨rfl,h1,h2,h3⟩,⟨Or.inr ⟨_,.tail _ (.tail _ (.tail _ (.tail _ (.tail _ (.head _))))),j4 rfl rfl rfl (iA _ _) (iA _ _),rfl,⟨rfl,rfl,rfl,rfl,rfl,rfl,rfl,rfl,rfl,rfl,rfl,rfl,rfl,rfl,rfl,rfl,rfl,rfl,trivial⟩⟩,trivial⟩⟩,trivial⟩⟩,trivial⟩⟩,⟨⟨⟨rfl,h1,h2,h3⟩,⟨aH dM jK ax rfl ⟨⟨⟨rfl,h1,h2,h3⟩,⟨Or.inr ⟨_,.tail _ (.tail _ (.tail _ (.tail _ (.head _)))),j4 rfl rfl rfl (mn _ _ _) (mn _ _ _),rfl,⟨rfl,rfl,rfl,rfl,rfl,rfl,rfl,rfl,rfl,rfl,rfl,rfl,rfl,rfl,rfl,rfl,rfl,rfl,trivial⟩⟩,trivial⟩⟩,trivial⟩,⟨⟨⟨rfl,h1,h2,h3⟩,⟨aH dM jK ax rfl ⟨Or.inr ⟨_,.tail _ (.tail _ (.tail _ (.tail _ (.head _)))),j4 rfl rfl rfl (mn _ _ _) (mn _ _ _),rfl,⟨rfl,rfl,rfl,rfl,rfl,rfl,rfl,rfl,rfl,rfl,rfl,rfl,rfl,rfl,rfl,rfl,rfl,rfl,trivial⟩⟩,trivial⟩,trivial⟩⟩,trivial⟩⟩⟩,⟨⟨⟨rfl,h1,h2,h3⟩,⟨aH dM jK ax rfl ⟨⟨⟨rfl,h1,h2,h3⟩,⟨Or.inr ⟨_,.tail _ (.tail _ (.tail _ (.tail _ (.tail _ (.head _))))),j4 rfl rfl rfl (iA _ _) (iA _ _),rfl,⟨rfl,rfl,rfl,rfl,rfl,rfl,rfl,rfl,rfl,rfl,rfl,rfl,rfl,rfl,rfl,rfl,rfl,rfl,trivial⟩⟩,trivial⟩⟩,trivial⟩,⟨⟨⟨rfl,h1,h2,h3⟩,⟨aH dM jK ax rfl ⟨Or.inr ⟨_,.tail _ (.tail _ (.tail _ (.tail _ (.tail _ (.head _))))),j4 rfl rfl rfl (iA _ _) (iA _ _),rfl,⟨rfl,rfl,rfl,rfl,rfl,rfl,rfl,rfl,rfl,rfl,rfl,rfl,rfl,rfl,rfl,rfl,rfl,rfl,trivial⟩⟩,trivial⟩,trivial⟩⟩,trivial⟩⟩⟩,trivial⟩⟩⟩,trivial⟩⟩⟩⟩,⟨⟨⟨rfl,h1,h2,h3⟩,⟨aH nX lU ax rfl ⟨aH dM jK ax rfl ⟨⟨⟨rfl,h1,h2,h3⟩,⟨⟨Or.inr ⟨_,.head _,rfl,rfl,⟨rfl,rfl,rfl,rfl,rfl,rfl,rfl,rfl,rfl,rfl,rfl,rfl,rfl,rfl,rfl,rfl,rfl,rfl,trivial⟩⟩,trivial⟩,trivial⟩⟩,⟨⟨⟨⟨rfl,h1,h2,h3⟩,⟨Or.inr ⟨_,.tail _ (.head _),j4 rfl rfl (iA _ _) rfl (iA _ _),rfl,⟨rfl,rfl,rfl,rfl,rfl,rfl,rfl,rfl,rfl,rfl,rfl,rfl,rfl,rfl,rfl,rfl,rfl,rfl,trivial⟩⟩,trivial⟩⟩,trivial⟩,trivial⟩⟩,⟨⟨⟨rfl,h1,h2,h3⟩,⟨aH dM jK ax rfl ⟨⟨Or.inr ⟨_,.head _,rfl,rfl,⟨rfl,rfl,rfl,rfl,rfl,rfl,rfl,rfl,rfl,rfl,rfl,rfl,rfl,rfl,rfl,rfl,rfl,rfl,trivial⟩⟩,trivial⟩,trivial⟩,⟨⟨aH dM jK ax rfl ⟨Or.inr ⟨_,.head _,rfl,rfl,⟨rfl,rfl,rfl,rfl,rfl,rfl,rfl,rfl,rfl,rfl,rfl,rfl,rfl,rfl,rfl,rfl,rfl,rfl,trivial⟩⟩,trivial⟩,trivial⟩,trivial⟩⟩⟩,⟨⟨aH dM jK ax rfl ⟨⟨⟨rfl,h1,h2,h3⟩,⟨Or.inr ⟨_,.tail _ (.head _),j4 rfl rfl (iA _ _) rfl (iA _ _),rfl,⟨rfl,rfl,rfl,rfl,rfl,rfl,rfl,rfl,rfl,rfl,rfl,rfl,rfl,rfl,rfl,rfl,rfl,rfl,trivial⟩⟩,trivial⟩⟩,trivial⟩,⟨⟨⟨rfl,h1,h2,h3⟩,⟨aH dM jK ax rfl ⟨Or.inr ⟨_,.tail _ (.head _),j4 rfl rfl (iA _ _) rfl (iA _ _),rfl,⟨rfl,rfl,rfl,rfl,rfl,rfl,rfl,rfl,rfl,rfl,rfl,rfl,rfl,rfl,rfl,rfl,rfl,rfl,trivial⟩⟩,trivial⟩,trivial⟩⟩,trivial⟩⟩,trivial⟩⟩⟩,⟨⟨⟨rfl,h1,h2,h3⟩,⟨aH nX lU ax rfl ⟨aH dM jK ax rfl ⟨⟨Or.inr ⟨_,.head _,rfl,rfl,⟨rfl,rfl,rfl,rfl,rfl,rfl,rfl,rfl,rfl,rfl,rfl,rfl,rfl,rfl,rfl,rfl,rfl,rfl,trivial⟩⟩,trivial⟩,trivial⟩,⟨⟨aH dM jK ax rfl ⟨Or.inr ⟨_,.head _,rfl,rfl,⟨rfl,rfl,rfl,rfl,rfl,rfl,rfl,rfl,rfl,rfl,rfl,rfl,rfl,rfl,rfl,rfl,rfl,rfl,trivial⟩⟩,trivial⟩,trivial⟩,trivial⟩⟩,⟨⟨aH nX lU ax rfl ⟨aH dM jK ax rfl ⟨Or.inr ⟨_,.head _,rfl,rfl,⟨rfl,rfl,rfl,rfl,rfl,rfl,rfl,rfl,rfl,rfl,rfl,rfl,rfl,rfl,rfl,rfl,rfl,rfl,trivial⟩⟩,trivial⟩,trivial⟩,trivial⟩,trivial⟩⟩⟩,⟨⟨aH nX lU ax rfl ⟨aH dM jK ax rfl ⟨⟨⟨rfl,h1,h2,h3⟩,⟨Or.inr ⟨_,.tail _ (.head _),j4 rfl rfl (iA _ _) rfl (iA _ _),rfl,⟨rfl,rfl,rfl,rfl,rfl,rfl,rfl,rfl,rfl,rfl,rfl,rfl,rfl,rfl,rfl,rfl,rfl,rfl,trivial⟩⟩,trivial⟩⟩,trivial⟩,⟨⟨⟨rfl,h1,h2,h3⟩,⟨aH dM jK ax rfl ⟨Or.inr ⟨_,.tail _ (.head _),j4 rfl rfl (iA _ _) rfl (iA _ _),rfl,⟨rfl,rfl,rfl,rfl,rfl,rfl,rfl,rfl,rfl,rfl,rfl,rfl,rfl,rfl,rfl,rfl,rfl,rfl,trivial⟩⟩,trivial⟩,trivial⟩⟩,trivial⟩⟩,⟨⟨⟨rfl,h1,h2,h3⟩,⟨aH nX lU ax rfl ⟨aH dM jK ax rfl ⟨Or.inr ⟨_,.tail _ (.head _),j4 rfl rfl (iA _ _) rfl (iA _ _),rfl,⟨rfl,rfl,rfl,rfl,rfl,rfl,rfl,rfl,rfl,rfl,rfl,rfl,rfl,rfl,rfl,rfl,rfl,rfl,trivial⟩⟩,trivial⟩,trivial⟩,trivial⟩⟩,trivial⟩⟩,trivial⟩⟩⟩⟩,⟨⟨⟨rfl,h1,h2,h3⟩,⟨aH nX lU ax rfl ⟨aH dM jK ax rfl ⟨⟨⟨rfl,h1,h2,h3⟩,⟨⟨Or.inr ⟨_,.tail _ (.tail _ (.head _)),j4 rfl rfl (iA _ _) (iA _ _) rfl,rfl,⟨rfl,rfl,rfl,rfl,rfl,rfl,rfl,rfl,rfl,rfl,rfl,rfl,rfl,rfl,rfl,rfl,rfl,rfl,trivial⟩⟩,trivial⟩,trivial⟩⟩,⟨⟨⟨⟨rfl,h1,h2,h3⟩,⟨Or.inr ⟨_,.tail _ (.tail _ (.tail _ (.head _))),j4 rfl rfl (mn _ _ _) rfl (mn _ _ _),rfl,⟨rfl,rfl,rfl,rfl,rfl,rfl,rfl,rfl,rfl,rfl,rfl,rfl,rfl,rfl,rfl,rfl,rfl,rfl,trivial⟩⟩,trivial⟩⟩,trivial⟩,trivial⟩⟩,⟨⟨⟨rfl,h1,h2,h3⟩,⟨aH dM jK ax rfl ⟨⟨Or.inr ⟨_,.tail _ (.tail _ (.head _)),j4 rfl rfl (iA _ _) (iA _ _) rfl,rfl,⟨rfl,rfl,rfl,rfl,rfl,rfl,rfl,rfl,rfl,rfl,rfl,rfl,rfl,rfl,rfl,rfl,rfl,rfl,trivial⟩⟩,trivial⟩,trivial⟩,⟨⟨aH dM jK ax rfl ⟨Or.inr ⟨_,.tail _ (.tail _ (.head _)),j4 rfl rfl (iA _ _) (iA _ _) rfl,rfl,⟨rfl,rfl,rfl,rfl,rfl,rfl,rfl,rfl,rfl,rfl,rfl,rfl,rfl,rfl,rfl,rfl,rfl,rfl,trivial⟩⟩,trivial⟩,trivial⟩,trivial⟩⟩⟩,⟨⟨aH dM jK ax rfl ⟨⟨⟨rfl,h1,h2,h3⟩,⟨Or.inr ⟨_,.tail _ (.tail _ (.tail _ (.head _))),j4 rfl rfl (mn _ _ _) rfl (mn _ _ _),rfl,⟨rfl,rfl,rfl,rfl,rfl,rfl,rfl,rfl,rfl,rfl,rfl,rfl,rfl,rfl,rfl,rfl,rfl,rfl,trivial⟩⟩,trivial⟩⟩,trivial⟩,⟨⟨⟨rfl,h1,h2,h3⟩,⟨aH dM jK ax rfl ⟨Or.inr ⟨_,.tail _ (.tail _ (.tail _ (.head _))),j4 rfl rfl (mn _ _ _) rfl (mn _ _ _),rfl,⟨rfl,rfl,rfl,rfl,rfl,rfl,rfl,rfl,rfl,rfl,rfl,rfl,rfl,rfl,rfl,rfl,rfl,rfl,trivial⟩⟩,trivial⟩,trivial⟩⟩,trivial⟩⟩,trivial⟩⟩⟩,⟨⟨⟨rfl,h1,h2,h3⟩,⟨aH nX lU ax rfl ⟨aH dM jK ax rfl ⟨⟨Or.inr ⟨_,.tail _ (.tail _ (.head _)),j4 rfl rfl (iA _ _) (iA _ _) rfl,rfl,⟨rfl,rfl,rfl,rfl,rfl,rfl,rfl,rfl,rfl,rfl,rfl,rfl,rfl,rfl,rfl,rfl,rfl,rfl,trivial⟩⟩,trivial⟩,trivial⟩,⟨⟨aH dM jK ax rfl ⟨Or.inr ⟨_,.tail _ (.tail _ (.head _)),j4 rfl rfl (iA _ _) (iA _ _) rfl,rfl,⟨rfl,rfl,rfl,rfl,rfl,rfl,rfl,rfl,rfl,rfl,rfl,rfl,rfl,rfl,rfl,rfl,rfl,rfl,trivial⟩⟩,trivial⟩,trivial⟩,trivial⟩⟩,⟨⟨aH nX lU ax rfl ⟨aH dM jK ax rfl ⟨Or.inr ⟨_,.tail _ (.tail _ (.head _)),j4 rfl rfl (iA _ _) (iA _ _) rfl,rfl,⟨rfl,rfl,rfl,rfl,rfl,rfl,rfl,rfl,rfl,rfl,rfl,rfl,rfl,rfl,rfl,rfl,rfl,rfl,trivial⟩⟩,trivial⟩,trivial⟩,trivial⟩,trivial⟩⟩⟩,⟨⟨aH nX lU ax rfl ⟨aH dM jK ax rfl ⟨⟨⟨rfl,h1,h2,h3⟩,⟨Or.inr ⟨_,.tail _ (.tail _ (.tail _ (.head _))),j4 rfl rfl (mn _ _ _) rfl (mn _ _ _),rfl,⟨rfl,rfl,rfl,rfl,rfl,rfl,rfl,rfl,rfl,rfl,rfl,rfl,rfl,rfl,rfl,rfl,rfl,rfl,trivial⟩⟩,trivial⟩⟩,trivial⟩,⟨⟨⟨rfl,h1,h2,h3⟩,⟨aH dM jK ax rfl ⟨Or.inr ⟨_,.tail _ (.tail _ (.tail _ (.head _))),j4 rfl rfl (mn _ _ _) rfl (mn _ _ _),rfl,⟨rfl,rfl,rfl,rfl,rfl,rfl,rfl,rfl,rfl,rfl,rfl,rfl,rfl,rfl,rfl,rfl,rfl,rfl,trivial⟩⟩,trivial⟩,trivial⟩⟩,trivial⟩⟩,⟨⟨⟨rfl,h1,h2,h3⟩,⟨aH nX lU ax rfl ⟨aH dM jK ax rfl ⟨Or.inr ⟨_,.tail _ (.tail _ (.tail _ (.head _))),j4 rfl rfl (mn _ _ _) rfl (mn _ _ _),rfl,⟨rfl,rfl,rfl,rfl,rfl,rfl,rfl,rfl,rfl,rfl,rfl,rfl,rfl,rfl,rfl,rfl,rfl,rfl,trivial⟩⟩,trivial⟩,trivial⟩,trivial⟩⟩,trivial⟩⟩,trivial⟩⟩⟩⟩,⟨⟨aH nX lU ax rfl ⟨aH dM jK ax rfl ⟨⟨⟨rfl,h1,h2,h3⟩,⟨⟨⟨rfl,h1,h2,h3⟩,⟨Or.inr ⟨_,.tail _ (.tail _ (.tail _ (.tail _ (.head _)))),j4 rfl rfl rfl (mn _ _ _) (mn _ _ _),rfl,⟨rfl,rfl,rfl,rfl,rfl,rfl,rfl,rfl,rfl,rfl,rfl,rfl,rfl,rfl,rfl,rfl,rfl,rfl,trivial⟩⟩,trivial⟩⟩,trivial⟩⟩,⟨⟨⟨rfl,h1,h2,h3⟩,⟨⟨⟨rfl,h1,h2,h3⟩,⟨Or.inr ⟨_,.tail _ (.tail _ (.tail _ (.tail _ (.tail _ (.head _))))),j4 rfl rfl rfl (iA _ _) (iA _ _),rfl,⟨rfl,rfl,rfl,rfl,rfl,rfl,rfl,rfl,rfl,rfl,rfl,rfl,rfl,rfl,rfl,rfl,rfl,rfl,trivial⟩⟩,trivial⟩⟩,trivial⟩⟩,trivial⟩⟩,⟨⟨⟨rfl,h1,h2,h3⟩,⟨aH dM jK ax rfl ⟨⟨⟨rfl,h1,h2,h3⟩,⟨Or.inr ⟨_,.tail _ (.tail _ (.tail _ (.tail _ (.head _)))),j4 rfl rfl rfl (mn _ _ _) (mn _ _ _),rfl,⟨rfl,rfl,rfl,rfl,rfl,rfl,rfl,rfl,rfl,rfl,rfl,rfl,rfl,rfl,rfl,rfl,rfl,rfl,trivial⟩⟩,trivial⟩⟩,trivial⟩,⟨⟨⟨rfl,h1,h2,h3⟩,⟨aH dM jK ax rfl ⟨Or.inr ⟨_,.tail _ (.tail _ (.tail _ (.tail _ (.head _)))),j4 rfl rfl rfl (mn _ _ _) (mn _ _ _),rfl,⟨rfl,rfl,rfl,rfl,rfl,rfl,rfl,rfl,rfl,rfl,rfl,rfl,rfl,rfl,rfl,rfl,rfl,rfl,trivial⟩⟩,trivial⟩,trivial⟩⟩,trivial⟩⟩⟩,⟨⟨⟨rfl,h1,h2,h3⟩,⟨aH dM jK ax rfl ⟨⟨⟨rfl,h1,h2,h3⟩,⟨Or.inr ⟨_,.tail _ (.tail _ (.tail _ (.tail _ (.tail _ (.head _))))),j4 rfl rfl rfl (iA _ _) (iA _ _),rfl,⟨rfl,rfl,rfl,rfl,rfl,rfl,rfl,rfl,rfl,rfl,rfl,rfl,rfl,rfl,rfl,rfl,rfl,rfl,trivial⟩⟩,trivial⟩⟩,trivial⟩,⟨⟨⟨rfl,h1,h2,h3⟩,⟨aH dM jK ax rfl ⟨Or.inr ⟨_,.tail _ (.tail _ (.tail _ (.tail _ (.tail _ (.head _))))),j4 rfl rfl rfl (iA _ _) (iA _ _),rfl,⟨rfl,rfl,rfl,rfl,rfl,rfl,rfl,rfl,rfl,rfl,rfl,rfl,rfl,rfl,rfl,rfl,rfl,rfl,trivial⟩⟩,trivial⟩,trivial⟩⟩,trivial⟩⟩⟩,trivial⟩⟩⟩,⟨⟨⟨rfl,h1,h2,h3⟩,⟨aH nX lU ax rfl ⟨aH dM jK ax rfl ⟨⟨⟨rfl,h1,h2,h3⟩,⟨Or.inr ⟨_,.tail _ (.tail _ (.tail _ (.tail _ (.head _)))),j4 rfl rfl rfl (mn _ _ _) (mn _ _ _),rfl,⟨rfl,rfl,rfl,rfl,rfl,rfl,rfl,rfl,rfl,rfl,rfl,rfl,rfl,rfl,rfl,rfl,rfl,rfl,trivial⟩⟩,trivial⟩⟩,trivial⟩,⟨⟨⟨rfl,h1,h2,h3⟩,⟨aH dM jK ax rfl ⟨Or.inr ⟨_,.tail _ (.tail _ (.tail _ (.tail _ (.head _)))),j4 rfl rfl rfl (mn _ _ _) (mn _ _ _),rfl,⟨rfl,rfl,rfl,rfl,rfl,rfl,rfl,rfl,rfl,rfl,rfl,rfl,rfl,rfl,rfl,rfl,rfl,rfl,trivial⟩⟩,trivial⟩,trivial⟩⟩,trivial⟩⟩,⟨⟨⟨rfl,h1,h2,h3⟩,⟨aH nX lU ax rfl ⟨aH dM jK ax rfl ⟨Or.inr ⟨_,.tail _ (.tail _ (.tail _ (.tail _ (.head _)))),j4 rfl rfl rfl (mn _ _ _) (mn _ _ _),rfl,⟨rfl,rfl,rfl,rfl,rfl,rfl,rfl,rfl,rfl,rfl,rfl,rfl,rfl,rfl,rfl,rfl,rfl,rfl,trivial⟩⟩,trivial⟩,trivial⟩,trivial⟩⟩,trivial⟩⟩⟩,⟨⟨⟨rfl,h1,h2,h3⟩,⟨aH nX lU ax rfl ⟨aH dM jK ax rfl ⟨⟨⟨rfl,h1,h2,h3⟩,⟨Or.inr ⟨_,.tail _ (.tail _ (.tail _ (.tail _ (.tail _ (.head _))))),j4 rfl rfl rfl (iA _ _) (iA _ _),rfl,⟨rfl,rfl,rfl,rfl,rfl,rfl,rfl,rfl,rfl,rfl,rfl,rfl,rfl,rfl,rfl,rfl,rfl,rfl,trivial⟩⟩,trivial⟩⟩,trivial⟩,⟨⟨⟨rfl,h1,h2,h3⟩,⟨aH dM jK ax rfl ⟨Or.inr ⟨_,.tail _ (.tail _ (.tail _ (.tail _ (.tail _ (.head _))))),j4 rfl rfl rfl (iA _ _) (iA _ _),rfl,⟨rfl,rfl,rfl,rfl,rfl,rfl,rfl,rfl,rfl,rfl,rfl,rfl,rfl,rfl,rfl,rfl,rfl,rfl,trivial⟩⟩,trivial⟩,trivial⟩⟩,trivial⟩⟩,⟨⟨⟨rfl,h1,h2,h3⟩,⟨aH nX lU ax rfl ⟨aH dM jK ax rfl ⟨Or.inr ⟨_,.tail _ (.tail _ (.tail _ (.tail _ (.tail _ (.head _))))),j4 rfl rfl rfl (iA _ _) (iA _ _),rfl,⟨rfl,rfl,rfl,rfl,rfl,rfl,rfl,rfl,rfl,rfl,rfl,rfl,rfl,rfl,rfl,rfl,rfl,rfl,trivial⟩⟩,trivial⟩,trivial⟩,trivial⟩⟩,trivial⟩⟩⟩,trivial⟩⟩⟩,trivial⟩⟩⟩⟩
 ·exact (rfl:_=_)
 have G2:(List.replicate ((bq ND).length:Int).toNat (vL [Value.int .i64 0])).flatten=cN (szR ND D 0):=by rw [uZ,ej,bH];all_goals rfl
 have TD:(List.replicate ((bq ND).length:Int).toNat (vL [Value.int .i64 0])).flatten=cN (List.replicate ND.length 0):=by rw [uZ,ej,bH]
 refine lI (fun j st=>∃ d:Nat,st=aaF a b A B ND z D M d (szR ND D (d - 1)) (List.replicate ND.length 0)/\1<=d/\d<=ND.length + 1/\j=ND.length + 1 - d) ⟨1,rfl,by omega,by omega,rfl⟩ (au 5 rfl (gF G2 TD) rfl rfl rfl (wB2 G2 TD)) ?_;rintro j st ⟨d,rfl,zf,JW,rfl⟩;refine br ?_ ?_<;>intro hL
 ·have hdN:d<=ND.length:=by have:=hL;simp [bH] at this;exact this
  refine lJ (fun e=>aaG a b A B ND z D M d (szL ND D d e (szR ND D (d - 1))) (List.replicate ND.length 0) e) ND.length (au 5 rfl pS rfl rfl rfl mi) ?_;intro e he;refine br ?_ ?_<;>intro kM
  ·have ap:e < ND.length:=by have:=kM;simp [cw] at this;exact this
   obtain ⟨n,hn⟩:=gX ap;obtain ⟨v,hv⟩:∃ z,D[e]? = some z:=⟨_,gE (by omega)⟩;have y9:D.getD e 0=v:=by rw [aF,hv];all_goals rfl
   have eT:szL ND D d (e + 1) (szR ND D (d - 1))=if D.getD e 0=d then (szL ND D d e (szR ND D (d - 1))).set e (sizeF (szL ND D d e (szR ND D (d - 1))) D n) else szL ND D d e (szR ND D (d - 1)):=by rw [szL,hn]
   have HS:(szL ND D d e (szR ND D (d - 1))).length=ND.length:=by rw [nh];exact o8 ND D _
   have K5:∀ z∈szL ND D d e (szR ND D (d - 1)),z<=4097:=by
    have:=Ba ND D d e;unfold szQ at this
    rwa [ah (by omega)] at this
   have iM:=mG hn;have BE:=fun h8=>FJ a b A B ND z D M (szL ND D d e (szR ND D (d - 1))) (List.replicate ND.length 0) WB HS K5 (bw n iM) (bQ n iM) h8
   have h8:D.getD e 0=d->n.ag=8->∃ c e,bD D n.ak=some c/\n.ak[c]? = some e:=fun h h8=>by
    obtain ⟨c,x,hc,hx,_⟩:=hO.PE hn (by omega) h8;exact ⟨c,x,hc,hx⟩
   generalize szL ND D d e (szR ND D (d - 1))=t at eT HS K5 BE;refine ⟨_,⟨cH _,aG hv⟩,?_⟩;refine br ?_ ?_<;>intro c
   ·have c:D.getD e 0=d:=Decidable.byContradiction fun h=>by simp at c;omega
    rw [ai c] at eT;have BE:=BE (h8 c);refine dS ?_;refine ⟨_,⟨cH _,bZ hn⟩,?_⟩;refine kb en65 BE ⟨_,_,rfl,⟨_,rfl,Pk a b A B ND z HS List.length_replicate rfl rfl⟩,_,_,rfl,ax,rfl⟩ rfl rfl ?_;refine ⟨⟨by omega,by rw [bH];omega⟩,?_⟩;refine ⟨by rw [lM];omega,?_⟩
    have aW:(cN t).set (0 + (e:Int).toNat * 1) (DV.v (.int .i64 (sizeF t D n:Nat)))=cN (szL ND D d (e + 1) (szR ND D (d - 1))):=by
     rw [show 0 + (e:Int).toNat * 1=e by omega,nc,eT]
    exact rE ⟨_,by omega,e + 1,rfl,by omega,rfl⟩ (au 5 rfl (gF aW (aJ ap (by omega))) rfl rfl rfl (wB2 aW (aJ ap (by omega))))
   ·have c:¬ D.getD e 0=d:=fun h=>by rw [y9] at h;subst h;simp at c
    rw [ah c] at eT;exact rE ⟨_,by omega,e + 1,rfl,by omega,rfl⟩ (au 5 rfl (gF (congrArg cN eT.symm) (aJ ap (by omega))) rfl rfl rfl (wB2 (congrArg cN eT.symm) (aJ ap (by omega))))
  ·have aQ:e=ND.length:=by have:=kM;simp [cw] at this;omega
   subst aQ;obtain ⟨k,rfl⟩:∃ k,d=k + 1:=⟨d - 1,by omega⟩;exact rE ⟨_,by omega,k + 1 + 1,rfl,by omega,by omega,rfl⟩ (au 5 rfl (ny (wrapN (a:=k + 1) (b:=1) (by omega) (by omega))) rfl rfl rfl (dt (wrapN (a:=k + 1) (b:=1) (by omega) (by omega))))
 ·have Lw:d=ND.length + 1:=sW bH hL;subst Lw;have hT:szR ND D (ND.length + 1 - 1)=ke ND D:=rfl;have RC:=rM ND D;have hTs:∀ z∈ke ND D,z<=4097:=pf ND D _;have VO:(fo ND D).length=ND.length:=iL ND D _;generalize fo ND D=K at hKM OU hR VO;have KQ:=yz (ke ND D) D K ND;have WC:∀ i n,ND[i]? = some n->othK (ke ND D) D K ND i=if K.getD i false=true then some (eO (ke ND D) D K n) else none:=fun i n h=>by unfold othK;rw [h]
  have hF:PF (ke ND D) D K ND=gg (othK (ke ND D) D K ND) ND.length (ND.length + 1):=Jt.symm;rw [hF] at hR;rw [hT];generalize ke ND D=t at RC hTs KQ WC hR ⊢;generalize Eg:othK t D K ND=kf at KQ WC hR;refine lJ (fun d=>aaH a b A B ND z D M d t (gg kf ND.length d)) (ND.length + 1) (au 5 rfl pS rfl rfl rfl mi) ?_;intro d JW;have hok2:zo kf (gg kf ND.length d):=yt d;have eB:(gg kf ND.length d).length=ND.length:=iN d;refine br ?_ ?_<;>intro hL
  ·have hdN:d<=ND.length:=by have:=hL;simp [bH] at this;exact this
   refine lJ (fun e=>aaI a b A B ND z D M d t (pa kf e (gg kf ND.length d)) e) ND.length (au 5 rfl pS rfl rfl rfl mi) ?_;intro e he;refine br ?_ ?_<;>intro kM
   ·have ap:e < ND.length:=by have:=kM;simp [cw] at this;exact this
    obtain ⟨n,hn⟩:=gX ap;obtain ⟨v,hv⟩:∃ z,M[e]? = some z:=⟨_,gE (by omega)⟩;have iM:=mG hn;have hKe:K.getD e false=decide (1 < v):=by rw [hKM,aF,hv];all_goals rfl
    have hk:=WC e n hn;have hse:=OU e n hn;have jQ:(pa kf e (gg kf ND.length d)).length=ND.length:=by rw [rN];exact eB
    have sx:=Fj KQ (yr (kf:=kf) e (by rw [eB];omega) hok2).1;have eT:pa kf (e + 1) (gg kf ND.length d)=otI kf e (pa kf e (gg kf ND.length d)):=rfl;have nF:=fun hc8 hS=>CY a b A B ND z D M t (pa kf e (gg kf ND.length d)) K WB hlM (fun j _=>hKM j) RC jQ hTs sx (bw n iM) (bQ n iM) hc8 hS;generalize pa kf e (gg kf ND.length d)=o at jQ sx eT nF;refine ⟨_,⟨cH _,aG hv⟩,?_⟩;refine br ?_ ?_<;>intro c
    ·have c:(1:Int) < v:=sU c;rw [decide_eq_true (by omega)] at hKe;obtain ⟨hS,hp⟩:=hse hKe;rw [ai hKe] at hk;have nF:=nF (fun h8=>by obtain ⟨c,_,hc,_⟩:=hO.PE hn hp h8;exact ⟨c,hc⟩) hS;refine dS ?_;refine ⟨_,⟨cH _,bZ hn⟩,?_⟩;refine kb en66 nF ⟨_,_,rfl,⟨_,rfl,Pk a b A B ND z RC jQ rfl rfl⟩,_,_,rfl,ax,rfl⟩ rfl rfl ?_;refine ⟨⟨by omega,by rw [bH];omega⟩,?_⟩;refine ⟨by rw [lM];omega,?_⟩
     have aW:(cN o).set (0 + (e:Int).toNat * 1) (DV.v (.int .i64 (othE o (eO t D K n):Nat)))=cN (pa kf (e + 1) (gg kf ND.length d)):=by
      rw [show 0 + (e:Int).toNat * 1=e by omega,nc,eT];unfold otI;rw [hk]
     exact rE ⟨_,by omega,e + 1,rfl,by omega,rfl⟩ (au 5 rfl (gF aW (aJ ap (by omega))) rfl rfl rfl (wB2 aW (aJ ap (by omega))))
    ·have c:¬ (1:Int) < v:=sU c;rw [decide_eq_false (by omega)] at hKe;rw [hKe,ah (by simp)] at hk;have F6:o=pa kf (e + 1) (gg kf ND.length d):=by rw [eT];unfold otI;rw [hk]
     exact rE ⟨_,by omega,e + 1,rfl,by omega,rfl⟩ (au 5 rfl (gF (congrArg cN F6) (aJ ap (by omega))) rfl rfl rfl (wB2 (congrArg cN F6) (aJ ap (by omega))))
   ·have aQ:e=ND.length:=by have:=kM;simp [cw] at this;omega
    subst aQ;exact rE ⟨_,by omega,d + 1,rfl,by omega,rfl⟩ (au 5 rfl (ny (wrapN (a:=d) (b:=1) (by omega) (by omega))) rfl rfl rfl (dt (wrapN (a:=d) (b:=1) (by omega) (by omega))))
  ·have Lw:d=ND.length + 1:=sW bH hL;subst Lw;rw [<- hR];exact ⟨.agg (yX a b A B ND z D M t (gg kf ND.length (ND.length + 1))),⟨_,rfl,Pk a b A B ND z RC eB rfl rfl⟩,rfl⟩
end
section
variable (a b:Nat) (A B:List (List DV)) (ND:List Nd) (z:Int) (D M S O:List Nat) (K:List Bool) {L:Nat}
theorem FL {F:Nat->Val} {n:Nd} {c:Nat} {x:Ed} (hn:cK L ND.length n) (hx:n.ak[c]? = some x) (ez:n.ak.length<=1099511627776)
  (ih:x.bare=false->∀ k:Nat,x.to=k->aV prog 30 [.agg (yX a b A B ND z D M S O),.v (.int .i64 k)] (.agg (dVal (F k)))) :
  aV prog 82 [.agg (yX a b A B ND z D M S O),.agg (gL n),.v (.int .i64 c)] (.agg (dVal (tagV F n.ak c))):=by
 have tU:=hn.fU x (mG hx);obtain ⟨ag,aX,lo,hi,most,af,es⟩:=n;simp only at hx ez ⊢
 cases hb:x.bare with
 | false=>
  obtain ⟨k,hk,eC⟩:=tU.to1 hb;have qW:=ih hb k hk;clear ih;rw [show tagV F es c = .mk 8 c ay [F k] by simp only [tagV,hx,hb];rw [hk];rfl];generalize F k=u at qW;obtain ⟨uk,un,us,ul⟩:=u;obtain ⟨en,eb,ea,et,vC,ew,yQ,yR,yS,yT⟩:=x;simp only at hk hb;subst hk hb;refine eG 28 [.cell 6 34] func82 rfl ntmps82 rfl fun _ _ _ _=>?_;refine ⟨_,⟨cH _,aE hx⟩,?_⟩;refine dS ?_;refine ⟨_,⟨cH _,aE hx⟩,?_⟩;refine cD Qf qW ?_;exact ⟨.agg (dVal (.mk 8 c ay [.mk uk un us ul])),ax,rfl⟩
 | true=>
  rw [show tagV F es c=dN 8 c by simp only [tagV,hx,hb];rfl];obtain ⟨en,eb,ea,et,vC,ew,yQ,yR,yS,yT⟩:=x;simp only at hb;subst hb;refine eG 28 [.cell 6 34] func82 rfl ntmps82 rfl fun _ _ _ _=>?_;refine ⟨_,⟨cH _,aE hx⟩,?_⟩;exact ⟨.agg (dVal (dN 8 c)),ax,rfl⟩
abbrev V0 (n:Nd) (vs:List Val) (e:Nat):St:=
 ⟨[(2,⟨[],.loc 0 0⟩),(4,⟨[],.loc 1 0⟩),(5,⟨[],.loc 2 0⟩),(6,⟨[],.loc 3 0⟩),(7,⟨[],.v (.int .i64 e)⟩)],[yX a b A B ND z D M S O,zp,gL n,[.v (.int .i64 7),.v (.int .i64 0),.v (.string .empty),.sl 4 (dVals vs) (some 0)]],[⟨e,34,4,none⟩]⟩
theorem Lg (l:List Val) (v:Val):dVals (l ++ [v])=dVals l ++ [dVal v]:=by rw [bU,bU];simp
theorem rW (hO:gQ ND D) (bw:∀ n∈ND,cK L ND.length n) (bQ:∀ n∈ND,n.ak.length<=1099511627776):∀ (f i:Nat),i < ND.length->0 < D.getD i 0->D.getD i 0<=f->aV prog 30 [.agg (yX a b A B ND z D M S O),.v (.int .i64 i)] (.agg (dVal (firstV ND D f i)))
 | 0,i,_,h0,h1=>by omega
 | f + 1,i,hi,h0,h1=>by
  have ih:=fun j hj h0 h1=>rW hO bw bQ f j hj h0 h1;obtain ⟨n,hn⟩:∃ n,ND[i]? = some n:=⟨_,gE hi⟩;have iM:=mG hn;have hN:=bw n iM;have zB:=hO.Wy hn h0;have Gl:=hO.PE hn h0;have zn:=nr a b A B ND z D M S O (-1) hO.len hN (bQ n iM);rw [oG] at zn;have ez:=bQ n iM;have aZ:=hN.fU;have dn:=hN.bare
  have R3:∀ {c:Nat} {x:Ed},n.ak[c]? = some x->(x.bare=false->0 < cg D x/\cg D x < D.getD i 0)->aV prog 82 [.agg (yX a b A B ND z D M S O),.agg (gL n),.v (.int .i64 c)] (.agg (dVal (tagV (firstV ND D f) n.ak c))):=fun {c x} hx hp=>FL a b A B ND z D M S O (L:=L) hN hx ez fun hb k hk=>by
   obtain ⟨h2,h3⟩:=hp hb;unfold cg at h2 h3;rw [hk,ej] at h2 h3;exact ih k (CQ hO h2) h2 (by omega)
  rw [show firstV ND D (f + 1) i=(if n.ag=2 then dN 2 n.lo
   else if n.ag=7 then .mk 7 0 ay (n.ak.map fun e=>firstV ND D f e.to.toNat)
   else if n.ag=8 then (match bD D n.ak with | some c=>tagV (firstV ND D f) n.ak c | none=>dN 8 0)
   else dN n.ag 0) by rw [firstV,hn];rfl]
  generalize D.getD i 0=di at zB Gl h1 R3;obtain ⟨ag,aX,lo,eQ,most,af,es⟩:=n;simp only at zB Gl zn aZ ez dn R3;have bH:=aT es;by_cases c2:ag=2
  ·subst c2;refine eG 56 [.cell 4 34] func30 rfl ntmps30 rfl fun _ _ _ _=>?_;refine iX (bZ hn) ?_;exact ⟨.agg (dVal (dN 2 lo)),ax,rfl⟩
  rw [ah c2];by_cases c7:ag=7
  ·subst c7;have zB:=zB rfl;rw [ai rfl];refine eG 56 [.cell 4 34] func30 rfl ntmps30 rfl fun _ _ _ _=>?_;refine iX (bZ hn) ?_;refine lJ (fun e=>V0 a b A B ND z D M S O ⟨7,aX,lo,eQ,most,af,es⟩ ((es.take e).map fun e=>firstV ND D f e.to.toNat) e) es.length (dc 4 ⟨0,34,4,none⟩ rfl rfl rfl pS rfl rfl mi) ?_;intro e he;refine br ?_ ?_<;>intro hL
   ·have ap:e < es.length:=sV bH hL;obtain ⟨x,hx⟩:=gX ap;obtain ⟨yU,hx1⟩:=zB x (mG hx)
    have nM:x.bare=false:=by
     cases hb:x.bare with
     | false=>rfl
     | true=>have:=dn x (mG hx) hb;omega
    obtain ⟨k,hk,eC⟩:=(aZ x (mG hx)).to1 nM;have Vs:cg D x=D.getD k 0:=by unfold cg;rw [hk,ej]
    have cu:=ih k eC (by omega) (by omega)
    have dK:dVals ((es.take e).map fun e=>firstV ND D f e.to.toNat) ++ [dVal (firstV ND D f k)]=dVals ((es.take (e + 1)).map fun e=>firstV ND D f e.to.toNat):=by
     rw [dE hx,List.map_append,List.map_cons,List.map_nil,Lg,hk,ej]
    have dm:(dVals ((es.take e).map fun e=>firstV ND D f e.to.toNat)).length=e:=by rw [bV,List.length_map,zLenT];omega
    generalize firstV ND D f k=u at cu dK;obtain ⟨uk,un,us,ul⟩:=u;obtain ⟨en,eb,ea,et,vC,ew,yQ,yR,yS,yT⟩:=x;simp only at hk;subst hk;refine dS ?_;refine ⟨_,⟨cH _,aE hx⟩,?_⟩;refine cD Qf cu ?_;refine ⟨dm,⟨by rw [dm];simp [maxLen];omega,by rw [dm];simp;omega⟩,?_⟩;exact rE ⟨_,by omega,e + 1,rfl,by omega,rfl⟩ (au 4 rfl (gF dK (aJ ap (by omega))) rfl rfl rfl (wB2 dK (aJ ap (by omega))))
   ·have aQ:e=es.length:=sW bH hL;subst aQ;exact ⟨.agg (dVal (.mk 7 0 ay ((es.take es.length).map fun e=>firstV ND D f e.to.toNat))),ax,by rw [List.take_length]⟩
  rw [ah c7];by_cases c8:ag=8
  ·subst c8;obtain ⟨c,x,hc,hx,hp⟩:=Gl rfl;have R3:=R3 hx fun hb=>by obtain ⟨h2,h3⟩:=hp hb;exact ⟨h2,by omega⟩
   rw [ai rfl,hc];rw [hc] at zn;simp only;generalize tagV (firstV ND D f) es c=u at R3;obtain ⟨uk,un,us,ul⟩:=u;refine eG 56 [.cell 4 34] func30 rfl ntmps30 rfl fun _ _ _ _=>?_;refine iX (bZ hn) ?_;refine dS ?_;refine cD Qk zn ?_;refine cD en82 R3 ?_;exact ⟨.agg (dVal (.mk uk un us ul)),ax,rfl⟩
  ·rw [ah c8];refine eG 56 [.cell 4 34] func30 rfl ntmps30 rfl fun _ _ _ _=>?_;refine iX (bZ hn) ?_;refine br (fun h=>absurd h (sU c2)) (fun _=>?_);refine br (fun h=>absurd h (sU c7)) (fun _=>?_);refine br (fun h=>absurd h (sU c8)) (fun _=>?_);exact ⟨.agg (dVal (dN ag 0)),ax,rfl⟩
end
def sumP (sz:List Nat):List Ed->Nat
 | []=>0
 | e :: r=>cM sz e + sumP sz r
theorem FM {sz:List Nat}:∀ {es:List Ed} {i n:Nat},n<=4097->sumX sz (-1) es i n < 4097->sumX sz (-1) es i n=n + sumP sz es
 | [],i,n,_,_=>rfl
 | e :: r,i,n,hn,h=>by
  rw [sumX,ah (by omega)] at h ⊢;have h1:=nf (sz:=sz) (c:=-1) (es:=r) (i:=i + 1) (fF (n + cM sz e));have h2:bf (n + cM sz e)=n + cM sz e∨bf (n + cM sz e)=4097:=by unfold bf;omega
  rw [FM (fF _) h,sumP];omega
theorem Bm {sz:List Nat} {c:Int}:∀ {es:List Ed} {i n j:Nat} {x:Ed},n<=4097->sumX sz c es i n < 4097->es[j]? = some x->((i + j:Nat):Int)≠c->cM sz x < 4097
 | e :: r,i,n,0,x,hn,h,hx,hc=>by
  simp only [List.getElem?_cons_zero,oI] at hx;subst hx;rw [sumX,ah (sU hc)] at h;have h1:=nf (sz:=sz) (c:=c) (es:=r) (i:=i + 1) (fF (n + cM sz e));have h2:bf (n + cM sz e)=n + cM sz e∨bf (n + cM sz e)=4097:=by unfold bf;omega
  omega
 | e :: r,i,n,j + 1,x,hn,h,hx,hc=>by
  rw [sumX] at h;refine Bm (j:=j) ?_ h (sU hx) (by rw [show i + 1 + j=i + (j + 1) by omega];exact hc);split
  ·exact hn
  ·exact fF _
theorem FN {sz:List Nat} {F:Ed->Val}:∀ {es:List Ed},(∀ e∈es,(F e).wt<=64 * cM sz e)->dZ (es.map F)<=64 * sumP sz es
 | [],_=>by simp [dZ]
 | e :: r,h=>by
  have h1:=h e List.mem_cons_self;have h2:=FN (es:=r) fun x hx=>h x (de _ hx);rw [List.map_cons,dZ,sumP];omega
theorem JE (k n:Int):(dN k n).wt=64:=rfl
theorem JF {ND:List Nd} {D:List Nat} (hO:gQ ND D) {L:Nat} (bw:∀ n∈ND,cK L ND.length n):∀ (f i:Nat),D.getD i 0<=f->0 < D.getD i 0->(ke ND D).getD i 0 < 4097->(bX ND D i).wt<=64 * (ke ND D).getD i 0
 | 0,i,h,h0,_=>by omega
 | f + 1,i,h,h0,hs=>by
  have hi:=CQ hO h0;have hn:ND[i]? = some ND[i]:=gE hi;have hN:=bw _ (mG hn);generalize ND[i]=n at hn hN;have bQ:=Jr hO hn h0;rw [fstV_eq hO hn h0];rw [bQ] at hs ⊢;have cu:=o9 (ke ND D) D n
  have aaK:∀ {e:Ed},0 < cg D e->cg D e < D.getD i 0->cM (ke ND D) e < 4097->e.bare=false->(bX ND D e.to.toNat).wt<=64 * cM (ke ND D) e:=fun {e} h2 h3 h4 hb=>by
   have hp:cM (ke ND D) e=(ke ND D).getD e.to.toNat 0:=by unfold cM cg;rw [hb];all_goals rfl
   rw [hp] at h4 ⊢;unfold cg at h2 h3;exact JF hO bw f _ (by omega) h2 h4
  split
  ·rw [JE];omega
  ·split
   ·rename_i h7;unfold sizeF at hs ⊢;rw [ai h7] at hs ⊢;have fG:=FM (by omega) hs
    have hw:dZ (n.ak.map fun e=>bX ND D e.to.toNat)<=64 * sumP (ke ND D) n.ak:=FN fun e he=>by
     obtain ⟨h2,h3⟩:=hO.Wy hn h0 h7 e he;obtain ⟨j,hj,rfl⟩:=List.getElem_of_mem he;refine aaK h2 h3 (Bm (n:=1) (by omega) hs (gE hj) (by omega)) ?_
     cases hb:n.ak[j].bare with
     | false=>rfl
     | true=>have:=hN.bare _ he hb;omega
    rw [Val.wt,fG];show 64 + 0 + _<=_;omega
   ·split
    ·rename_i h7 h8;obtain ⟨c,e,hc,he,hp⟩:=hO.PE hn h0 h8;unfold sizeF at hs ⊢;rw [ah h7,ai h8,hc] at hs ⊢;simp only [he] at hs ⊢;simp only [tagV,he]
     cases hb:e.bare with
     | true=>
      rw [Val.wt];show 64 + 0 + 0<=_;unfold bf;omega
     | false=>
      obtain ⟨h2,h3⟩:=hp hb;have ap:cM (ke ND D) e < 4097:=by unfold bf at hs;omega
      have:=aaK h2 h3 ap hb;rw [Val.wt];show 64 + 0 + ((bX ND D e.to.toNat).wt + 0)<=_;unfold bf at hs ⊢;omega
    ·rw [JE];omega
theorem H7 {ND:List Nd} {ks:List Val} {f:Nat->Int} {e:Nat} {x:Val} (h:ks[e]? = some x):refVs ND (ks.drop e) f e=(ya ND x (f e) && refVs ND (ks.drop (e + 1)) f (e + 1)):=by
 rw [drop_cons h,refVs]
abbrev aaL (W:List DV) (v:Val) (d:Nd) (ok:Bool) (e:Nat):St:=
 ⟨[(3,⟨[],.loc 0 0⟩),(5,⟨[],.loc 1 0⟩),(7,⟨[],.loc 2 0⟩),(8,⟨[],.v (.bool ok)⟩),(9,⟨[],.v (.int .i64 e)⟩)],[W,dVal v,gL d],[]⟩
set_option maxHeartbeats 4000000 in
theorem uK (a b:Nat) (A B:List (List DV)) (rt:Int) {ND:List Nd} {L:Nat} (bw:∀ n∈ND,cK L ND.length n):∀ (k:Nat) (v:Val),v.wt<=k->v.wt<=1099511627776->∀ i:Int,aV prog 72 [.agg (wG a b A B ND rt),.v (.int .i64 i),.agg (dVal v)] (.v (.bool (ya ND v i)))
 | 0,v,h,_=>by have:=v.eJ;omega
 | k + 1,.mk q z s ks,h,hb=>fun i=>by
  have ih:=uK a b A B rt bw k;have eC:=gN ks;have bH:=bV ks;have gv:=hb;rw [Val.wt] at h hb;rw [ya];have hNl:=cw ND
  cases hd:l8 ND i with
  | none=>
   have hn:=yd hd;refine eG 164 [.tmp 6] func72 rfl ntmps72 rfl fun _ _ _ _=>?_;refine br (fun _=>?_) (fun c=>?_)
   ·exact (rfl:_=_)
   ·exfalso;have:=c;simp [aw,hNl] at this;omega
  | some d=>
   obtain ⟨h0,hg⟩:=hY hd;obtain ⟨j,rfl⟩:∃ j:Nat,i=j:=⟨i.toNat,by omega⟩;have hg:ND[j]? = some d:=sU hg;have nS:=(gS hg).1;have hN:=bw d (mG hg);have jU:=hN.k1;have HF:=hN.k8;have yc:=hN.many;have sf:=fun m=>KS hN (.mk q z s ks) m;simp only;have ez:=aT d.ak;have hbl:=ct d.af;generalize hf:Jd d (.mk q z s ks)=f at sf;have hF:ER d (.mk q z s ks)=ER d (.mk q z s ks):=rfl;obtain ⟨ag,aX,lo,hi,most,af,es⟩:=d;simp only at jU HF yc ez hbl;have hkc:((ks.length:Int)=(es.length:Int))↔ks.length=es.length:=by omega
   have NX:∀ b:Bool,b=pickB (pickB (!decide (q=ag)) true (pickB (!decide (q=3)) (!decide (s=⟨#[]⟩)) false)) true (pickB (decide (0 < (s.size:Int))) (decide (most < (s.size:Int))) false)->b=x9 ⟨ag,aX,lo,hi,most,af,es⟩ (.mk q z s ks):=fun b h=>by
    rw [h,tB,Bool.eq_iff_iff];have hB:x9 ⟨ag,aX,lo,hi,most,af,es⟩ (.mk q z s ks)=(decide (q≠ag) || (decide (q≠3) && decide (s≠ay)) || (decide (0 < s.size) && decide (most < (s.size:Int)))):=rfl;rw [hB];simp [aw,av,or_assoc]
   refine eG 164 [.tmp 6] func72 rfl ntmps72 rfl fun _ _ _ _=>?_;refine br (fun c=>?_) (fun _=>?_)
   ·exfalso;have:=c;simp [aw,hNl] at this;omega
   refine iX (bZ hg) ?_;refine br ?_ ?_<;>intro c
   ·have c:=(NX _ rfl).symm.trans c;rw [ai c];exact (rfl:_=_)
   have c:=(NX _ rfl).symm.trans c;rw [ah (by rw [c];simp)];rcases (show ag=1∨ag=2∨ag=3∨ag=4∨ag=5∨ag=6∨ag=7∨ag=8 by omega) with c | c | c | c | c | c | c | c
   all_goals
    repeat (first | (refine br (fun h=>?_) (fun _=>?_);focus (simp [c] at h;done)) | (refine br (fun _=>?_) (fun h=>?_);rotate_left;focus (simp [c] at h;done)))
   all_goals
    try
     refine dI ?_
     have hc:∀ b:Bool,b=pickB (decide (0<=z)) (decide (z < ((cG es).length:Int))) false->b=decide (0<=z/\z < es.length):=fun b h=>by
      rw [h,ez,av,Bool.eq_iff_iff];simp
     refine br (fun g=>?pp) (fun g=>?nn)
     case' pp=>
      have g8:=of_decide_eq_true ((hc _ rfl).symm.trans (sU g));obtain ⟨x,hx8⟩:∃ x,es[z.toNat]? = some x:=⟨_,gE (by omega)⟩;have hm64:=(yc (.inr c)).1;have hw:max 0 (min z (IntKind.i64.wrap (((cG es).length:Int) - 1)))=z:=by rw [ez,wrap64 (by omega) (by omega)];omega
      refine ⟨_,⟨Int.le_max_left _ _,by rw [hw];exact aE hx8⟩,?_⟩;show pw _ _ _ _
     case' nn=>
      have g8:=of_decide_eq_false ((hc _ rfl).symm.trans (sU g));show pw _ _ _ _
   all_goals
    refine bz (fun j st=>∃ (e:Nat) (ok:Bool),st=aaL (wG a b A B ND rt) (.mk q z s ks) ⟨ag,aX,lo,hi,most,af,es⟩ ok e/\e<=ks.length/\(ER ⟨ag,aX,lo,hi,most,af,es⟩ (.mk q z s ks) && refVs ND ks f 0)=(ok && refVs ND (ks.drop e) f e)/\j=ks.length - e) ks.length (aaL (wG a b A B ND rt) (.mk q z s ks) ⟨ag,aX,lo,hi,most,af,es⟩ _ 0) (aj ⟨_,rfl⟩ wA rfl rfl rfl wB) ⟨0,_,rfl,by omega,congrArg (fun b=>b && refVs ND ks f 0) ?_,by omega⟩ ?_
    ·first
      | (simp [ER,c,aw,av,Val.n,Val.ks,ez,hbl,bH,hkc,g8,hx8];rw [(gS hx8).2];cases x.bare<;>simp;done)
      | (simp [ER,c,aw,av,Val.n,Val.ks,ez,hbl,bH,hkc,g8];try rfl;done)
      | (simp [ER,c,aw,av,Val.n,Val.ks,ez,hbl,bH,hkc];try rfl;done)
    ·rintro _ st ⟨e,ok,rfl,he,aN,rfl⟩;refine br ?_ ?_<;>intro hL
     ·have hL:e < ks.length/\ok=true:=by
       have:=hL;simp [av,bH] at this;exact this
      obtain ⟨ap,hok1⟩:=hL;obtain ⟨x,hx⟩:=gX ap;have SY:=jM (mG hx);rw [hok1,Bool.true_and,H7 hx] at aN;have eQ:=ih x (by omega) (by omega) (f e);obtain ⟨xk,xn,xs,xl⟩:=x;refine dI ?_;refine cD XU (sf e) ?_;refine iX (iq hx) ?_;refine cD Ur eQ ?_;exact ⟨aaL (wG a b A B ND rt) (.mk q z s ks) ⟨ag,aX,lo,hi,most,af,es⟩ _ (e + 1),(aj ⟨_,rfl⟩ wA rfl rfl rfl (dt (aJ ap (by omega)))),ks.length - (e + 1),by omega,e + 1,_,rfl,by omega,aN,rfl⟩
     ·have hL:¬ (e < ks.length/\ok=true):=by
       have:=hL;simp [av,bH] at this;simpa using this
      refine (congrArg (fun b=>DV.v (.bool b)) ?_:_=_);rw [aN]
      cases ok with
      | false=>rfl
      | true=>rw [List.drop_of_length_le (by simp at hL;omega),refVs];all_goals rfl
abbrev TF (a b:Val) (e:Nat):St:=⟨[(2,⟨[],.loc 0 0⟩),(3,⟨[],.loc 1 0⟩),(5,⟨[],.v (.int .i64 e)⟩)],[dVal a,dVal b],[]⟩
theorem uL:∀ (k:Nat) (a:Val),a.wt<=k->a.wt<=1099511627776->∀ b:Val,aV prog 75 [.agg (dVal a),.agg (dVal b)] (.v (.bool (sameV a b)))
 | 0,v,h,_=>by have:=v.eJ;omega
 | k + 1,.mk q n s ks,h,hb=>fun b=>by
  have ih:=uL k;rw [Val.wt] at h hb;obtain ⟨bk,bn,bs,bl⟩:=b;have pu:=gN ks;have h1:=bV ks;have h2:=bV bl;have hS:sameV (.mk q n s ks) (.mk bk bn bs bl)=(decide (q=bk) && decide (n=bn) && decide (s=bs) && sameVs ks bl):=by rw [sameV]
  refine eG 53 [.tmp 4] func75 rfl ntmps75 rfl fun _ _ _ _=>?_;refine br ?_ ?_<;>intro c
  ·have c:¬ (q=bk/\n=bn/\s=bs/\ks.length=bl.length):=by
    have:=c;simp [aw,h1,h2] at this;intro hh;obtain ⟨a1,a2,a3,a4⟩:=hh;simp [a1,a2,a3,a4] at this
   refine (congrArg (fun b=>DV.v (.bool b)) ?_:_=_);rw [hS];by_cases hl:ks.length=bl.length
   ·symm;rw [Bool.and_eq_false_iff];left;simp only [Bool.and_eq_false_iff,decide_eq_false_iff_not];by_cases a1:q=bk
    ·by_cases a2:n=bn
     ·right;exact fun a3=>c ⟨a1,a2,a3,hl⟩
     ·left;right;exact a2
    ·left;left;exact a1
   ·rw [x6 hl,Bool.and_false]
  ·have c:q=bk/\n=bn/\s=bs/\ks.length=bl.length:=by
    have:=c;simp [aw,h1,h2] at this;obtain ⟨⟨⟨a1,a2⟩,a3⟩,a4⟩:=this;exact ⟨a1,a2,a3,by omega⟩
   obtain ⟨rfl,rfl,rfl,hl⟩:=c;simp only [decide_true,Bool.true_and] at hS;rw [hS]
   refine bz (fun j st=>∃ e:Nat,st=TF (.mk q n s ks) (.mk q n s bl) e/\e<=ks.length/\sameVs ks bl=sameVs (ks.drop e) (bl.drop e)/\j=ks.length - e) ks.length
    (TF (.mk q n s ks) (.mk q n s bl) 0) (aj ⟨_,rfl⟩ wA rfl rfl rfl wB) ⟨0,rfl,by omega,rfl,by omega⟩ ?_
   rintro _ st ⟨e,rfl,he,aN,rfl⟩;refine br ?_ ?_<;>intro h
   ·have ap:e < ks.length:=sV h1 h;obtain ⟨x,hx⟩:=gX ap;obtain ⟨y,hy⟩:∃ y,bl[e]? = some y:=⟨_,gE (hl ▸ ap)⟩;rw [drop_cons hx,drop_cons hy,sameVs] at aN;have SY:=jM (mG hx);have T1:=ih x (by omega) (by omega) y;obtain ⟨xk,xn,xs,xl⟩:=x;obtain ⟨yk,yn,ys,yl⟩:=y;refine dI ?_;refine iX (iq hx) ?_;refine iX (iq hy) ?_;refine cD Xy T1 ?_;refine br ?_ ?_<;>intro h
    ·have bp:sameV (.mk xk xn xs xl) (.mk yk yn ys yl)=false:=sU h;refine (congrArg (fun b=>DV.v (.bool b)) ?_:_=_);rw [aN,bp,Bool.false_and]
    ·have bp:sameV (.mk xk xn xs xl) (.mk yk yn ys yl)=true:=sU h;rw [bp,Bool.true_and] at aN;exact rE ⟨_,by omega,e + 1,rfl,by omega,aN,rfl⟩ (aj ⟨_,rfl⟩ wA rfl rfl rfl (dt (aJ ap (by omega))))
   ·have aQ:ks.length<=e:=sV h1 h;rw [List.drop_of_length_le (by omega),List.drop_of_length_le (by omega)] at aN;refine (congrArg (fun b=>DV.v (.bool b)) ?_:_=_);rw [aN];simp [sameVs]
theorem uM (a:Val) (ha:a.wt<=1099511627776) (b:Val):aV prog 26 [.agg (dVal a),.agg (dVal b)] (.v (.bool (sameV a b))):=by
 have h:=uL _ a (aR _) ha b;obtain ⟨q,n,s,ks⟩:=a;obtain ⟨bk,bn,bs,bl⟩:=b;refine eG 8 [.tmp 4] func26 rfl ntmps26 rfl fun _ _ _ _=>?_;refine cP Xy h ?_;exact (rfl:_=_)
section
variable (a b:Nat) (A B:List (List DV)) (rt:Int) {ND:List Nd} {L:Nat} (bw:∀ n∈ND,cK L ND.length n)
include bw
end
def mh:Sch:=⟨[⟨⟨#[97]⟩,0⟩],[],[],.mk ⟨2,0,3,9,0,[],⟨ay,0⟩⟩ .nil⟩
theorem Lh:(l6 mh).1=0:=by decide +kernel
theorem Pm:HZ (bS (ba mh)) 0=true:=by decide +kernel
theorem Pn:HZ (qx (ba mh)) 0=true:=by decide +kernel
theorem RR:bX (ba mh) (bu (ba mh)) (0:Int).toNat=dN 2 3:=by kernel_rfl
theorem RS:Rn (ba mh) (bu (ba mh)) (qw (ba mh)) (0:Int).toNat=dN 2 4:=by kernel_rfl
theorem Po:∀ n∈ba mh,n.ag=2 -> -9223372036854775808<=n.lo/\n.hi<=9223372036854775807:=by
 have h:(ba mh).all (fun n=>decide (-9223372036854775808<=n.lo) && decide (n.hi<=9223372036854775807))=true:=by decide +kernel
 intro n hn _;have:=List.all_eq_true.1 h n hn;rw [aP] at this;exact ⟨of_decide_eq_true this.1,of_decide_eq_true this.2⟩
theorem kg:aV prog 21 [] (.v (.bool true)):=by
 have yO:mh.wt<=1099511627776:=by decide +kernel
 have hb:=(xG mh yO).mono (Ψ:=fun r _ _=>HC mh r) fun _ _ _ h=>AK yO h;refine eG 44 [.tmp 0] func21 rfl ntmps21 rfl fun _ _ _ _=>?_;refine kD Xh rfl hb ax (fun r hr=>?_);rcases hr with ⟨hr,_⟩ | ⟨_,PC,hP,rfl⟩
 ·exact (hr Lh).elim
 have h1:=Fv hP 0;rw [Pm,ai rfl,RR] at h1;have h2:=CR hP Po 0;rw [Pn,ai rfl,RS] at h2;refine cP en32 h1 ?_;refine cP en33 h2 ?_;exact (rfl:_=_)
theorem FO (S:Sch) (hS:S.wt<=1099511627776):Ev prog 20 [.agg (gk S)] [] [] (fun r _ _=>Tp S r):=by
 have ga:=Ch S hS;have QY:=Cp S hS;unfold Tp;generalize l6 S=R at QY ⊢;obtain ⟨ae,order,types,⟨rh,rp⟩⟩:=S;refine eG 12 [.tmp 2] func20 rfl ntmps20 rfl fun _ _ _ _=>?_;refine kD en8 rfl ga ax (fun r hr=>?_);obtain ⟨g,rfl⟩:=hr
 cases g with
 | true=>
  exact ⟨false,rfl,fun h=>by cases h⟩
 | false=>
  refine cP en60 QY ?_;refine ⟨_,Vm _ _ R (0,0),?_⟩;refine ⟨_,rfl,fun h=>?_⟩;simp [pickB] at h;exact h.1
abbrev Li (A B:List (List DV)) (ND:List Nd) (rt:Int):List DV:=yX 2 1 A B ND rt (bu ND) (qL (bu ND) (qw ND)) (bS ND) (qx ND)
theorem FP {L:Nat} {ND:List Nd} (A B:List (List DV)) (rt:Int) (bw:∀ n∈ND,cK L ND.length n) (bQ:∀ n∈ND,n.ak.length<=1099511627776) {j:Nat} (h:(bS ND).getD j 0≠0) :
  aV prog 30 [.agg (Li A B ND rt),.v (.int .i64 j)] (.agg (dVal (bX ND (bu ND) j))):=by
 have h0:=(ni (gd ND)).1.1 (Nat.pos_of_ne_zero h);exact rW 2 1 A B ND rt (bu ND) _ _ _ (gd ND) bw bQ ND.length j (CQ (gd ND) h0) h0 ((gd ND).le j)
theorem pj {l:List Val} {e:Nat} {v:Val} (h:l[e]? = some v):dVals (l.take e) ++ [dVal v]=dVals (l.take (e + 1)):=by
 rw [dE h,bU,bU,List.map_append];all_goals rfl
section
variable (PC:List DV) (ND:List Nd) (D:List Nat) (K:List Bool) (sz ot:List Nat) {L:Nat}
abbrev RT (k:Int) (l:List Val):List DV:=[.v (.int .i64 k),.v (.int .i64 0),.v (.string .empty),.sl 4 (dVals l) (some 0)]
abbrev aaM (s:dj) (d:Nd) (x:Val) (l:List Val) (n e:Nat):St:=
 ⟨[(0,⟨[],.pt (ng PC ND D K sz ot) 0⟩),(9,⟨[],.loc 1 0⟩),(10,⟨[],.loc 2 0⟩),(11,⟨[],.loc 3 0⟩),(12,⟨[],.loc 4 0⟩),(30,⟨[],.v (.int .i64 s.n)⟩),(31,⟨[],.v (.int .i64 e)⟩)],[jX s,dVal x,zp,gL d,RT d.ag l],[⟨n,34,4,none⟩]⟩
abbrev aaN (s:dj) (d:Nd) (k:Nat) (x:Val) (l:List Val) (n e:Nat):St:=
 ⟨[(0,⟨[],.pt (ng PC ND D K sz ot) 0⟩),(2,⟨[],.v (.int .i64 k)⟩),(9,⟨[],.loc 1 0⟩),(10,⟨[],.loc 2 0⟩),(12,⟨[],.loc 4 0⟩),(49,⟨[],.sl 10 (cG d.ak) none⟩),(50,⟨[],.v (.int .i64 (cG d.ak).length)⟩),(51,⟨[],.v (.int .i64 e)⟩)],[jX s,dVal x,zp,gL d,RT d.ag l],[⟨n,34,4,none⟩]⟩
end
theorem CZ {S:Sch} {ND:List Nd} {PC:List DV} (hP:fm S ND PC) (K:List Bool) (sz ot:List Nat) {q:Pl} (hq:tR ND q) (pu:iO (bu ND) q=true) (hD:∃ x,q.d.ak[q.k]? = some x/\cg (bu ND) x≠0) (x:Val) :
  aV prog 128 [.pt (ng PC ND (bu ND) K sz ot) 0,.v (.int .i64 q.i),.v (.int .i64 q.k),.agg (jX q.s),.agg (dVal x)] (.agg (dVal (u2 (bX ND (bu ND)) q x))):=by
 have hN:=hP.ok _ (mG hq.aq);have ez:=hP.KZ _ (mG hq.aq);obtain ⟨k1,k5,k2,k3,k4,VA⟩:=lz hq;have cu:=fun (j:Nat) h=>Be hP sz ot K (j:=j) h
 have jT:∀ {e:Ed},cg (bu ND) e≠0->(bS ND).getD e.to.toNat 0≠0:=fun {e} h=>by
  have:=(ni (gd ND) (i:=e.to.toNat)).1.2 (Nat.pos_of_ne_zero h);exact Nat.ne_of_gt this
 obtain ⟨y,hy,hyD⟩:=hD;have VY:=fun c=>CS hP.ok hq hy c
 have hR:u2 (bX ND (bu ND)) q x=if q.s.k=2 then .mk q.d.ag 0 ay (List.replicate q.s.n.toNat (bX ND (bu ND) (to0 q.d).toNat) ++ [x])
  else if q.s.k=1 then .mk q.d.ag 0 ay ((q.d.ak.map fun e=>bX ND (bu ND) e.to.toNat).set q.k x)
  else .mk q.d.ag (if q.s.k=5 then q.k else 0) ay [x]:=rfl
 unfold iO at pu;simp only [aP,decide_eq_true_eq] at pu;have eW:=hq.aq;have aZ:=hN.fU;have dn:=hN.bare;have oF:=hN.uw;generalize u2 (bX ND (bu ND)) q x=R at hR ⊢;generalize bX ND (bu ND)=F at hR cu;obtain ⟨i,d,k,s⟩:=q;obtain ⟨ag,aX,lo,hi,most,af,es⟩:=d;obtain ⟨sk,sn,ss⟩:=s;obtain ⟨xk,xn,xs,xl⟩:=x;simp only at *;have bH:=aT es;refine eG 87 [.cell 10 34] func128 rfl ntmps128 rfl fun _ _ _ _=>?_;refine iX (bZ eW) ?_;refine br ?_ ?_<;>intro c
 ·have c:sk=2:=sU c;obtain ⟨c5,kX,zt⟩:=k2 c;obtain ⟨gD,hk0,ht0⟩:=VY (.inl c5);have yU:es[0]? = some y:=by rw [gD];all_goals rfl
  rw [ai c,ht0] at hR;have oF:=oF c5
  have VI:y.bare=false:=by
   cases hb:y.bare with
   | false=>rfl
   | true=>have:=dn y (mG yU) hb;omega
  obtain ⟨t,ht,gZ⟩:=(aZ y (mG yU)).to1 VI;have cu:=cu y.to.toNat (jT hyD);have TW:((y.to.toNat:Nat):Int)=y.to:=by rw [ht,ej]
  rw [TW] at cu;generalize F y.to.toNat=u at cu hR;obtain ⟨uk,un,us,ul⟩:=u;obtain ⟨en,eb,ea,et,vC,ew,yQ,yR,yS,yT⟩:=y;simp only at cu;refine lJ (fun e=>aaM PC ND (bu ND) K sz ot ⟨sk,sn,ss⟩ ⟨ag,aX,lo,hi,most,af,es⟩ (.mk xk xn xs xl) (List.replicate e (.mk uk un us ul)) e e) sn.toNat (dc 5 ⟨0,34,4,none⟩ rfl rfl rfl pS rfl rfl mi) ?_;intro e he;have sg:(dVals (List.replicate e (.mk uk un us ul))).length=e:=by rw [bV,List.length_replicate]
  refine br ?_ ?_<;>intro hL
  ·have ap:e < sn.toNat:=by
    have:(e:Int) < sn:=sU hL;omega
   have dK:dVals (List.replicate e (.mk uk un us ul)) ++ [dVal (.mk uk un us ul)]=dVals (List.replicate (e + 1) (.mk uk un us ul)):=by
    rw [List.replicate_succ',bU,bU,List.map_append];all_goals rfl
   refine dS ?_;refine iX (aE yU) ?_;refine cD zc cu ?_;refine ⟨sg,⟨by rw [sg];simp [maxLen];omega,by rw [sg];simp;omega⟩,?_⟩;exact rE ⟨_,by omega,e + 1,rfl,by omega,rfl⟩ (au 5 rfl (gF (aJ ap (by omega)) dK) rfl rfl rfl (wB2 (aJ ap (by omega)) dK))
  ·have aQ:e=sn.toNat:=by
    have:¬ (e:Int) < sn:=sU hL;omega
   subst aQ;refine ⟨sg,⟨by rw [sg];simp [maxLen];omega,by rw [sg];simp;omega⟩,?_⟩
   have dK:dVals (List.replicate sn.toNat (.mk uk un us ul)) ++ [dVal (.mk xk xn xs xl)]=dVals (List.replicate sn.toNat (.mk uk un us ul) ++ [.mk xk xn xs xl]):=by
    rw [bU,bU,List.map_append];all_goals rfl
   have hE:DV.sl 4 (dVals (List.replicate sn.toNat (.mk uk un us ul)) ++ [dVal (.mk xk xn xs xl)]) (some 0) = .sl 4 (dVals (List.replicate sn.toNat (.mk uk un us ul) ++ [.mk xk xn xs xl])) (some 0):=by rw [dK]
   rw [hR];exact ⟨_,(gU hE),rfl⟩
 have c:¬ sk=2:=sU c;rw [ah c] at hR;refine br ?_ ?_<;>intro c1
 ·have c1:sk=1:=sU c1;obtain ⟨c7,_⟩:=k1 c1;have nF:=pu.2;simp [c1] at nF;have nF:=kV.1 nF;rw [ai c1] at hR;have eC:=(gS hy).1;obtain ⟨W,hW⟩:∃ W,W=(es.map fun e=>F e.to.toNat).set k (.mk xk xn xs xl):=⟨_,rfl⟩;rw [<- hW] at hR;have hWl:W.length=es.length:=by rw [hW,List.length_set,List.length_map]
  have hWk:W[k]? = some (.mk xk xn xs xl):=by rw [hW];exact cQ (sU eC)
  have hWo:∀ (j:Nat) z,j≠k->es[j]? = some z->W[j]? = some (F z.to.toNat):=fun j z hj hz=>by
   rw [hW,List.getElem?_set_ne (Ne.symm hj),List.getElem?_map,hz];all_goals rfl
  clear hW;refine lJ (fun e=>aaN PC ND (bu ND) K sz ot ⟨sk,sn,ss⟩ ⟨ag,aX,lo,hi,most,af,es⟩ k (.mk xk xn xs xl) (W.take e) e e) es.length (dc 5 ⟨0,34,4,none⟩ rfl rfl rfl pS rfl rfl mi) ?_;intro e he;refine br ?_ ?_<;>intro hL
  ·have ap:e < es.length:=sV bH hL;have sg:(dVals (W.take e)).length=e:=by rw [bV,zLenT];omega
   obtain ⟨z,hz⟩:=gX ap;refine iX (aE hz) ?_;refine br ?_ ?_<;>intro g
   ·have gn:¬ e=k:=by
     intro Vs;rw [Vs] at g;simp at g
    have hzb:z.bare=false:=by
     cases hb:z.bare with
     | false=>rfl
     | true=>have:=dn z (mG hz) hb;omega
    obtain ⟨t,ht,gZ⟩:=(aZ z (mG hz)).to1 hzb;have cu:=cu z.to.toNat (jT (nF e z hz (by omega)));have TW:((z.to.toNat:Nat):Int)=z.to:=by rw [ht,ej]
    rw [TW] at cu;have dK:=pj (hWo e z gn hz);generalize F z.to.toNat=u at cu dK;obtain ⟨uk,un,us,ul⟩:=u;obtain ⟨en,eb,ea,et,vC,ew,yQ,yR,yS,yT⟩:=z;simp only at cu;refine dS ?_;refine cD zc cu ?_;refine ⟨sg,⟨by rw [sg];simp [maxLen];omega,by rw [sg];simp;omega⟩,?_⟩;exact rE ⟨_,by omega,e + 1,rfl,by omega,rfl⟩ (au 5 rfl (gF (aJ ap (by omega)) dK) rfl rfl rfl (wB2 (aJ ap (by omega)) dK))
   ·have gn:e=k:=by
     have:(e:Int)=k:=sU g;omega
    have dK:=pj (l:=W) (e:=e) (by rw [gn];exact hWk);refine ⟨sg,⟨by rw [sg];simp [maxLen];omega,by rw [sg];simp;omega⟩,?_⟩;exact rE ⟨_,by omega,e + 1,rfl,by omega,rfl⟩ (au 5 rfl (gF (aJ ap (by omega)) dK) rfl rfl rfl (wB2 (aJ ap (by omega)) dK))
  ·have aQ:e=es.length:=sW bH hL;subst aQ;rw [<- hWl,List.take_length,hR];exact ⟨_,ax,rfl⟩
 have c1:¬ sk=1:=sU c1;rw [ah c1] at hR;have c3:=pu.1;refine br ?_ ?_<;>intro c5
 ·have c5:sk=5:=sU c5;rw [ai c5] at hR;refine ⟨⟨by simp [maxLen],by simp⟩,?_⟩;rw [hR];exact ⟨_,ax,rfl⟩
 ·have c5:¬ sk=5:=sU c5;rw [ah c5] at hR;refine ⟨⟨by simp [maxLen],by simp⟩,?_⟩;rw [hR];exact ⟨_,ax,rfl⟩
def Lj:Option Val->DV
 | some v=>.tup [.agg (dVal v),.v (.bool true)]
 | none=>.tup [.agg (dVal zeroV),.v (.bool false)]
theorem Lk {sz:List Nat} {l:List Pl} {e:Nat} {q:Pl} (h:l[e]? = some q):totF sz (l.take (e + 1))=totF sz (l.take e) + yW sz q:=by
 rw [dE h,Bh]
section
variable (PC:List DV) (ND:List Nd) (D:List Nat) (K:List Bool) (sz ot:List Nat) (p:List dj) (l:List Pl)
abbrev aaP (x:Val) (j m e:Nat):St:=
 ⟨[(0,⟨[],.pt (ng PC ND D K sz ot) 0⟩),(1,⟨[],.sl 3 (aU p) none⟩),(5,⟨[],.loc 0 0⟩),(6,⟨[],.loc 1 0⟩),(8,⟨[],.v (.int .i64 j)⟩),(11,⟨[],.sl 1 (dInts (FF l)) none⟩),(12,⟨[],.sl 1 (dInts (FG l)) none⟩),(13,⟨[],.v (.int .i64 m)⟩),(58,⟨[],.sl 3 (aU p) none⟩),(59,⟨[],.v (.int .i64 (aU p).length)⟩),(60,⟨[],.v (.int .i64 e)⟩)],[dVal x,zp],[]⟩
abbrev Pp (x:Val) (j:Int):St:=
 ⟨[(0,⟨[],.pt (ng PC ND D K sz ot) 0⟩),(1,⟨[],.sl 3 (aU p) none⟩),(5,⟨[],.loc 0 0⟩),(6,⟨[],.loc 1 0⟩),(11,⟨[],.sl 1 (dInts (FF l)) none⟩),(12,⟨[],.sl 1 (dInts (FG l)) none⟩),(16,⟨[],.v (.int .i64 j)⟩)],[dVal x,zp],[]⟩
end
set_option maxHeartbeats 4000000 in
theorem FQ {S:Sch} {ND:List Nd} {PC:List DV} (hP:fm S ND PC) (ot:List Nat) (K:List Bool) (p:List dj) (hp:p.length<=1099511627776) (hs:∀ s∈p,s.s.size<=4611686018427387904) (rt:Nat) (yV:gl S=rt) (eB:rt < ND.length) (x:Val) (hx:x.wt<=1099511627776) :
  aV prog 62 [.pt (ng PC ND (bu ND) K (bS ND) ot) 0,.sl 3 (aU p) none,.agg (dVal x)] (Lj (nA ND (bS ND) (bu ND) (walkV ND (ey S) S.ae.length p rt (jY (ey S) S.ae.length)) (stpsV ND p rt) x)):=by
 have hw:=yG hP p hp hs rt yV eB;have lU:=ef p
 have bQ:∀ z∈bS ND,z<=4097:=fun z hz=>by
  obtain ⟨i,hi,rfl⟩:=List.getElem_of_mem hz;have:=(ni (gd ND) (i:=i)).2
  rwa [aF,gE hi] at this
 have hszl:(bS ND).length=ND.length:=rM _ _;have PA:(bu ND).length=ND.length:=bA _ _;have oM:=(vz x).1;have U5:=ux _ x (aR _) hx
 cases hW:walkV ND (ey S) S.ae.length p rt (jY (ey S) S.ae.length) with
 | none=>
  rw [hW] at hw;have hw:aV prog 76 [.pt PC 0,.sl 3 (aU p) none] (.tup [.v (.int .i64 (-1)),.v (.int .i64 (-1)),.v (.bool false)]):=hw;obtain ⟨xk,xn,xs,xl⟩:=x;refine eG 117 [.cell 6 34,.tmp 7] func62 rfl ntmps62 rfl fun _ _ _ _=>?_;refine cP Mh hw ?_;refine dI ?_;exact ⟨.tup [.agg (dVal zeroV),.v (.bool false)],ax,rfl⟩
 | some jb=>
 obtain ⟨j,b⟩:=jb;rw [hW] at hw;have hw:aV prog 76 [.pt PC 0,.sl 3 (aU p) none] (.tup [.v (.int .i64 (j:Nat)),.v (.int .i64 (b:Nat)),.v (.bool true)]):=hw;have nC:=qj hP _ x (aR _) hx j;have Pq:=FH (bu ND) K (bS ND) ot hP PA hP.KZ p hp hs rt yV eB hW;have hplc:=rT hP hP.KZ p hp hs rt yV eB hW;have eZ:=tget_spec hP hx j [] (by simp);have V1:=ph hP.ok (gd ND) p rt _ hW;have PT:=vF hP.ok (gd ND) x j;obtain ⟨xA,nJ⟩:=oD p rt _ hW;have qV:=fun (q:Pl) (hq:tR ND q)=>CV PC ND (bu ND) K (bS ND) ot hq hszl bQ (hP.ok _ (mG hq.aq)) (hP.KZ _ (mG hq.aq));have aaQ:=fun (q:Pl) (hq:tR ND q) h1 h2=>CZ hP K (bS ND) ot hq h1 h2;have hFl:nA ND (bS ND) (bu ND) (some (j,b)) (stpsV ND p rt) x=if fitV ND x j=true/\(stpsV ND p rt).all (iO (bu ND))=true/\jN x + totF (bS ND) (stpsV ND p rt) < 4097 then some (alnV (bX ND (bu ND)) (stpsV ND p rt) x) else none:=rfl
 rw [hFl];clear hFl hW;generalize Wu:stpsV ND p rt=l at *;have aax:(dInts (FF l)).length=p.length:=by rw [bg,List.length_map,xA]
 have aay:(dInts (FG l)).length=p.length:=by rw [bg,List.length_map,xA]
 have aaR:∀ e:Nat,e<=p.length->IntKind.i64.wrap ((e:Int) - 1)=(e:Int) - 1:=fun e he=>wrap64 (by omega) (by omega)
 cases hf:fitV ND x j with
 | false=>
  rw [hf] at nC;rw [ah (by simp)];obtain ⟨xk,xn,xs,xl⟩:=x;refine eG 117 [.cell 6 34,.tmp 7] func62 rfl ntmps62 rfl fun _ _ _ _=>?_;refine cP Mh hw ?_;refine dI ?_;refine cD Mg nC ?_;exact ⟨.tup [.agg (dVal zeroV),.v (.bool false)],ax,rfl⟩
 | true=>
 rw [hf] at nC;rw [hf,ai rfl] at eZ;have eZ:aV prog 17 [.pt PC 0,.v (.int .i64 j),.agg (dVal x),.sl 3 [] none] (.tup [.agg (dVal x),.v (.int .i64 (j:Nat)),.v (.bool true)]):=eZ
 cases ha:l.all (iO (bu ND)) with
 | false=>
  rw [ha] at Pq;rw [ah (by simp)];obtain ⟨xk,xn,xs,xl⟩:=x;refine eG 117 [.cell 6 34,.tmp 7] func62 rfl ntmps62 rfl fun _ _ _ _=>?_;refine cP Mh hw ?_;refine dI ?_;refine cD Mg nC ?_;refine cD Sc Pq ?_;exact ⟨.tup [.agg (dVal zeroV),.v (.bool false)],ax,rfl⟩
 | true=>
 rw [ha] at Pq;have hdq:=(V1 ha (by have:=PT hf;simpa using this)).2
 have re:∀ (e:Nat) q (y:Val),l[e]? = some q->aV prog 128 [.pt (ng PC ND (bu ND) K (bS ND) ot) 0,.v (.int .i64 q.i),.v (.int .i64 q.k),.agg (jX q.s),.agg (dVal y)] (.agg (dVal (u2 (bX ND (bu ND)) q y))):=fun e q y hq=>by
  obtain ⟨s,ue⟩:∃ s,p[e]? = some s:=⟨_,gE (by have:=(gS hq).1;omega)⟩;obtain ⟨q',_,jh,_,bw,_⟩:=nJ e s ue;rw [hq] at jh;cases jh;have hm:=mG hq;exact aaQ q bw (List.all_eq_true.1 ha q hm) (hdq q hm) y
 have aaS:(True/\True/\jN x + totF (bS ND) l < 4097)↔bf (jN x + totF (bS ND) l)≠4097:=by
  unfold bf;simp only [true_and];omega
 have aaT:=nC;have aaU:=Pq;clear aaQ V1 PT hdq nC Pq hf aaS;generalize hF:bX ND (bu ND)=F at *;have FZ:jN x + totF (bS ND) l < 4097↔bf (jN x + totF (bS ND) l)≠4097:=by unfold bf;omega
 generalize hT:totF (bS ND) l=T at *;generalize hC:jN x=C at *;have yU:alnV F (l.drop p.length) x=x:=by rw [<- xA,List.drop_length];all_goals rfl
 generalize hXg:x=X at *;obtain ⟨xk,xn,xs,xl⟩:=X;refine eG 117 [.cell 6 34,.tmp 7] func62 rfl ntmps62 rfl fun _ _ _ _=>?_;refine cP Mh hw ?_;refine dI ?_;refine cD Mg aaT ?_;refine cD Sc aaU ?_;refine cP Sd hplc ?_;refine cP Xi U5 ?_;refine cP nz (ei C) ?_;refine lJ (fun e=>aaP PC ND (bu ND) K (bS ND) ot p l (.mk xk xn xs xl) j (bf (C + totF (bS ND) (l.take e))) e) p.length (au 2 rfl wA rfl rfl rfl wB) ?_;intro e he;refine br ?_ ?_<;>intro hL
 ·have ap:e < p.length:=sV lU hL;obtain ⟨s,ue⟩:=gX ap;obtain ⟨q,b2,hq,K5,bw,_⟩:=nJ e s ue;have qV:=qV q bw;have k0:=Lk (sz:=bS ND) hq;have OB:(dInts (FF l))[e]? = some [.v (.int .i64 ((q.i:Nat):Int))]:=aG (by rw [List.getElem?_map,hq];rfl);have Tz:(dInts (FG l))[e]? = some [.v (.int .i64 ((q.k:Nat):Int))]:=aG (by rw [List.getElem?_map,hq];rfl);generalize yW (bS ND) q=X at qV k0;have Ir:=fF (C + totF (bS ND) (l.take e));have lA:=fF X;have QY:=wrapN (a:=bf (C + totF (bS ND) (l.take e))) (b:=bf X) (by omega) (by omega);have rS:bf (bf (C + totF (bS ND) (l.take e)) + bf X)=bf (C + totF (bS ND) (l.take (e + 1))):=by rw [k0,tQ,VS,Nat.add_assoc]
  have eT:=aJ ap (show p.length<=4611686018427387904 by omega);subst K5;obtain ⟨qi,qd,qk,qs⟩:=q;obtain ⟨sk,sn,ss⟩:=qs;simp only at ue OB Tz qV;refine iX (dR ue) ?_;refine dI ?_;refine ⟨_,⟨by omega,OB⟩,?_⟩;refine ⟨_,⟨by omega,Tz⟩,?_⟩;refine cD XO qV ?_;refine cD nz (ei (bf (C + totF (bS ND) (l.take e)) + bf X)) ?_ (gU QY);exact rE ⟨_,by omega,e + 1,rfl,by omega,rfl⟩ (au 2 rfl (gF eT rS) rfl rfl rfl (wB2 eT rS))
 have aQ:e=p.length:=sW lU hL;subst aQ;rw [<- xA,List.take_length,hT];refine br ?_ ?_<;>intro c
 ·have c:bf (C + T)=4097:=by
   have:((bf (C + T):Nat):Int)=4097:=sU c;omega
  rw [ah (fun h=>(FZ.1 h.2.2) c)];exact ⟨.tup [.agg (dVal zeroV),.v (.bool false)],ax,rfl⟩
 have c:bf (C + T)≠4097:=by
  intro h;rw [h] at c;simp at c
 rw [ai ⟨rfl,rfl,FZ.2 c⟩];have vY:IntKind.i64.wrap (((aU p).length:Int) - 1)=(p.length:Int) - 1:=by rw [lU];exact aaR _ (aR _)
 refine dS ?_;refine cD en17 eZ ?_;refine bz (fun i st=>∃ (e:Nat) (y:Val),st=Pp PC ND (bu ND) K (bS ND) ot p l y ((e:Int) - 1)/\e<=p.length/\y=alnV F (l.drop e) (.mk xk xn xs xl)/\e=i) p.length (Pp PC ND (bu ND) K (bS ND) ot p l (.mk xk xn xs xl) ((p.length:Int) - 1)) (au 2 rfl (ny vY) rfl rfl rfl (dt vY)) ⟨p.length,_,rfl,by omega,yU.symm,rfl⟩ ?_;rintro i st ⟨e,y,rfl,he,hy,rfl⟩;refine br ?_ ?_<;>intro hL
 ·have hL:0<=(e:Int) - 1:=sU hL;obtain ⟨n,rfl⟩:∃ n,e=n + 1:=⟨e - 1,by omega⟩;have zt:((n + 1:Nat):Int) - 1=(n:Nat):=by omega
  obtain ⟨s,ue⟩:∃ s,p[n]? = some s:=⟨_,gE (by omega)⟩;obtain ⟨q,b2,hq,K5,bw,_⟩:=nJ n s ue;have har:=re n q y hq;have hny:u2 F q y=alnV F (l.drop n) (.mk xk xn xs xl):=by rw [drop_cons hq,alnV,hy]
  have OB:(dInts (FF l))[n]? = some [.v (.int .i64 ((q.i:Nat):Int))]:=aG (by rw [List.getElem?_map,hq];rfl);have Tz:(dInts (FG l))[n]? = some [.v (.int .i64 ((q.k:Nat):Int))]:=aG (by rw [List.getElem?_map,hq];rfl);have hw2:IntKind.i64.wrap (((n + 1:Nat):Int) - 1 - 1)=(n:Int) - 1:=by rw [zt];exact aaR n (by omega)
  generalize u2 F q y=Y at har hny;subst K5;obtain ⟨qi,qd,qk,qs⟩:=q;obtain ⟨sk,sn,ss⟩:=qs;obtain ⟨Yk,Yn,Ys,Yl⟩:=Y;obtain ⟨yk,yn,ys,yl⟩:=y;simp only at ue OB Tz har;refine dS ?_;refine ⟨_,⟨by omega,by rw [zt];exact OB⟩,?_⟩;refine ⟨_,⟨by omega,by rw [zt];exact Tz⟩,?_⟩;refine ⟨_,⟨by omega,by rw [zt];exact dR ue⟩,?_⟩;refine cD XP har ?_;exact ⟨Pp PC ND (bu ND) K (bS ND) ot p l (.mk Yk Yn Ys Yl) ((n:Int) - 1),(au 2 rfl (ny hw2) rfl rfl rfl (dt hw2)),n,by omega,n,_,rfl,by omega,hny,rfl⟩
 ·have hL:¬ 0<=(e:Int) - 1:=sU hL;have he0:e=0:=by omega
  subst he0;rw [List.drop_zero] at hy;rw [<- hy];obtain ⟨yk,yn,ys,yl⟩:=y;exact ⟨.tup [.agg (dVal (.mk yk yn ys yl)),.v (.bool true)],ax,rfl⟩
section
variable (A B:List (List DV)) (ND:List Nd) (rt:Int) {L:Nat}
abbrev aaV (d:Nd) (p:List dj) (x y:Val) (k:Int) (l:List Val) (n e:Nat):St:=
 ⟨[(2,⟨[],.sl 3 (aU p) none⟩),(4,⟨[],.loc 0 0⟩),(8,⟨[],.loc 2 0⟩),(9,⟨[],.loc 3 0⟩),(10,⟨[],.v (.int .i64 k)⟩),(11,⟨[],.loc 4 0⟩),(12,⟨[],.loc 5 0⟩),(13,⟨[],.v (.int .i64 e)⟩)],[Li A B ND rt,dVal x,zp,gL d,dVal y,RT d.ag l],[⟨n,34,4,none⟩]⟩
abbrev TG (d:Nd) (x y:Val) (k:Int) (l:List Val) (n e:Nat):St:=
 ⟨[(4,⟨[],.loc 0 0⟩),(8,⟨[],.loc 2 0⟩),(9,⟨[],.loc 3 0⟩),(10,⟨[],.v (.int .i64 k)⟩),(11,⟨[],.loc 4 0⟩),(12,⟨[],.loc 5 0⟩),(14,⟨[],.v (.int .i64 e)⟩)],[Li A B ND rt,dVal x,zp,gL d,dVal y,RT d.ag l],[⟨n,34,4,none⟩]⟩
set_option maxHeartbeats 4000000 in
theorem rX {f:Nat->Nat->Bool} {m:Nat} (bw:∀ n∈ND,cK L ND.length n) (bQ:∀ n∈ND,n.ak.length<=1099511627776) (x:Val) :
  ∀ (p:List dj),p.length<=1099511627776->(∀ s∈p,s.s.size<=4611686018427387904)->∀ (i a':Nat) {r:Nat × Nat},i < ND.length->walkV ND f m p i a'=some r->(∀ q∈stpsV ND p i,iO (bu ND) q=true/\∃ x,q.d.ak[q.k]? = some x/\cg (bu ND) x≠0) ->
   aV prog 74 [.agg (Li A B ND rt),.v (.int .i64 i),.sl 3 (aU p) none,.agg (dVal x)] (.agg (dVal (alnV (bX ND (bu ND)) (stpsV ND p i) x)))
 | [],_,_,i,a',r,hi,_,_=>by
  obtain ⟨xk,xn,xs,xl⟩:=x;rw [show alnV (bX ND (bu ND)) (stpsV ND [] i) (.mk xk xn xs xl) = .mk xk xn xs xl from rfl];refine eG 113 [.cell 8 34] func74 rfl ntmps74 rfl fun _ _ _ _=>?_;exact ⟨_,ax,rfl⟩
 | s :: p,hp,hs,i,a',r,hi,hw,fG=>by
  obtain ⟨d,k,y,hd,hk,hy,hw2⟩:=nk hw;have hm:=mG hd;have hN:=bw d hm;have ez:=bQ d hm;have yP:=oE d s ez (hs s (by simp));rw [hk] at yP;obtain ⟨Kk,WG⟩:∃ K:Int,K=(k:Int):=⟨_,rfl⟩;have yP:aV prog 138 [.agg (gL d),.agg (jX s)] (.v (.int .i64 Kk)):=by rw [WG];exact yP
  have QW:0<=Kk:=by omega
  have hKt:Kk.toNat=k:=by omega
  have hq:tR ND ⟨i,d,k,s⟩:=⟨hd,hk⟩;obtain ⟨k1,k5,k2,k3,k4,VA⟩:=lz hq;have VY:=fun c=>CS bw hq hy c;obtain ⟨e',pT,hB',_⟩:=gf hk;rw [hy] at pT;cases pT;have VI:=kU hN (mG hy) hB';obtain ⟨t,ht,gZ⟩:=(hN.fU y (mG hy)).to1 VI;have F5:y.to.toNat=t:=by rw [ht,ej]
  rw [F5] at hw2;have yw:=O7 s p;have C2:=dR (l:=s :: p) (e:=0) rfl;have O8:=ef (s :: p);rw [List.length_cons] at O8 hp;rw [nj hd hk hy,F5] at fG ⊢;have ih:=rX bw bQ x p (by omega) (fun y hy=>hs y (by simp [hy])) t _ gZ hw2 (fun q hq=>fG q (by simp [hq]));obtain ⟨pu,y',fA,hyD⟩:=fG _ (List.mem_cons_self ..);have aaW:d.ak[k]? = some y':=fA;rw [hy] at aaW;cases aaW;rw [<- ht] at ih;show aV _ _ _ (.agg (dVal (u2 (bX ND (bu ND)) ⟨i,d,k,s⟩ (alnV (bX ND (bu ND)) (stpsV ND p t) x))));generalize alnV (bX ND (bu ND)) (stpsV ND p t) x=Y at ih ⊢;have cu:=fun (j:Nat) h=>FP A B rt bw bQ (j:=j) h
  have jT:∀ {e:Ed},cg (bu ND) e≠0->(bS ND).getD e.to.toNat 0≠0:=fun {e} h=>by
   have:=(ni (gd ND) (i:=e.to.toNat)).1.2 (Nat.pos_of_ne_zero h);exact Nat.ne_of_gt this
  have hR:u2 (bX ND (bu ND)) ⟨i,d,k,s⟩ Y=if s.k=2 then .mk d.ag 0 ay (List.replicate s.n.toNat (bX ND (bu ND) (to0 d).toNat) ++ [Y])
   else if s.k=1 then .mk d.ag 0 ay ((d.ak.map fun e=>bX ND (bu ND) e.to.toNat).set k Y)
   else .mk d.ag (if s.k=5 then k else 0) ay [Y]:=rfl
  unfold iO at pu;simp only [aP,decide_eq_true_eq] at pu;have aZ:=hN.fU;have dn:=hN.bare;have oF:=hN.uw;generalize u2 (bX ND (bu ND)) ⟨i,d,k,s⟩ Y=R at hR ⊢;generalize bX ND (bu ND)=F at hR cu;obtain ⟨ag,aX,lo,eQ,most,af,es⟩:=d;obtain ⟨sk,sn,ss⟩:=s;obtain ⟨xk,xn,xs,xl⟩:=x;obtain ⟨Yk,Yn,Ys,Yl⟩:=Y;simp only at k1 k5 k2 k3 k4 VA VY pu aZ dn oF ez hy hR;have bH:=aT es;refine eG 113 [.cell 8 34] func74 rfl ntmps74 rfl fun _ _ _ _=>?_;refine iX (bZ hd) ?_;refine dI ?_;refine ⟨_,⟨by omega,C2⟩,?_⟩;refine cD Iy yP ?_;apply Rr (fun _=>false) 11 [0,1,2,3,4,5,6,7,8,9,10] [12] mo (by decide +kernel);·repeat' (first | refine ⟨_,⟨QW,by rw [hKt];exact aE hy⟩,?_⟩ | refine ⟨⟨by omega,by omega,by omega⟩,?_⟩ | refine cD Xx ih ?_ (gU yw) | exact Or.inl rfl | exact Z8 | refine ⟨?_,?_⟩)
  obtain ⟨u,hu⟩:∃ u:Val,sk=2->es[0]? = some y/\u=F y.to.toNat/\to0 ⟨ag,aX,lo,eQ,most,af,es⟩=y.to:=⟨F y.to.toNat,fun h2=>by
   obtain ⟨gD,_,ht0⟩:=VY (.inl (k2 h2).1)
   exact ⟨by rw [gD];rfl,rfl,ht0⟩⟩
  have hnn:sk≠2->sn.toNat=0:=fun h=>by omega
  have hn5:sn.toNat<=1024:=by
   by_cases h:sk=2
   ·have:=k2 h;have:=oF this.1;omega
   ·have:=hnn h;omega
  have Pr:sk=2->aV prog 30 [.agg (Li A B ND rt),.v (.int .i64 y.to)] (.agg (dVal u)):=fun h2=>by
   rw [(hu h2).2.1];have:=cu y.to.toNat (jT hyD)
   rwa [show ((y.to.toNat:Nat):Int)=y.to by rw [ht,ej]] at this
  obtain ⟨uk,un,us,ul⟩:=u;refine lJ (fun e=>aaV A B ND rt ⟨ag,aX,lo,eQ,most,af,es⟩ (⟨sk,sn,ss⟩ :: p) (.mk xk xn xs xl) (.mk Yk Yn Ys Yl) Kk (List.replicate e (.mk uk un us ul)) e e) sn.toNat (dc 6 ⟨0,34,4,none⟩ rfl rfl rfl pS rfl rfl mi) ?_;intro e he;have sg:(dVals (List.replicate e (.mk uk un us ul))).length=e:=by rw [bV,List.length_replicate]
  refine ⟨_,⟨by omega,C2⟩,?_⟩;refine br ?_ ?_<;>intro hL
  ·have ap:e < sn.toNat:=by
    have:(e:Int) < sn:=sU hL;omega
   have vT:sk=2:=Decidable.byContradiction fun h=>by have:=hnn h;omega
   have yU:=(hu vT).1;have Pr:=Pr vT
   have dK:dVals (List.replicate e (.mk uk un us ul)) ++ [dVal (.mk uk un us ul)]=dVals (List.replicate (e + 1) (.mk uk un us ul)):=by
    rw [List.replicate_succ',bU,bU,List.map_append];all_goals rfl
   refine dS ?_;refine iX (aE yU) ?_;refine cD Qf Pr ?_;refine ⟨sg,⟨by rw [sg];simp [maxLen];omega,by rw [sg];simp;omega⟩,?_⟩;exact rE ⟨_,by omega,e + 1,rfl,by omega,rfl⟩ (au 6 rfl (gF (aJ ap (by omega)) dK) rfl rfl rfl (wB2 (aJ ap (by omega)) dK))
  have aQ:e=sn.toNat:=by
   have:¬ (e:Int) < sn:=sU hL;omega
  subst aQ;by_cases c7:ag=7
  ·have pL:sk=1:=by omega
   have dK:sn.toNat=0:=hnn (by omega);rw [ah (by omega),ai pL] at hR;have eC:=(gS hy).1;have nF:=pu.2;simp [pL] at nF;have nF:=kV.1 nF;obtain ⟨W,hW⟩:∃ W,W=(es.map fun e=>F e.to.toNat).set k (.mk Yk Yn Ys Yl):=⟨_,rfl⟩;rw [<- hW] at hR;have hWl:W.length=es.length:=by rw [hW,List.length_set,List.length_map]
   have hWk:W[k]? = some (.mk Yk Yn Ys Yl):=by rw [hW];exact cQ (sU eC)
   have hWo:∀ (j:Nat) z,j≠k->es[j]? = some z->W[j]? = some (F z.to.toNat):=fun j z hj hz=>by
    rw [hW,List.getElem?_set_ne (Ne.symm hj),List.getElem?_map,hz];all_goals rfl
   clear hW sg;rw [dK];refine lJ (fun e=>TG A B ND rt ⟨ag,aX,lo,eQ,most,af,es⟩ (.mk xk xn xs xl) (.mk Yk Yn Ys Yl) Kk (W.take e) e e) es.length (au 6 rfl wA rfl rfl rfl wB) ?_;intro e he;refine br ?_ ?_<;>intro hL
   ·have ap:e < es.length:=by
     have:=hL;simp [bH,c7,av] at this;exact this
    have sg:(dVals (W.take e)).length=e:=by rw [bV,zLenT];omega
    obtain ⟨z,hz⟩:=gX ap;refine br ?_ ?_<;>intro g
    ·have g:e=k:=by
      have:(e:Int)=Kk:=sU g;omega
     have dK:=pj (l:=W) (e:=e) (by rw [g];exact hWk);refine ⟨sg,⟨by rw [sg];simp [maxLen];omega,by rw [sg];simp;omega⟩,?_⟩;exact rE ⟨_,by omega,e + 1,rfl,by omega,rfl⟩ (au 6 rfl (gF (aJ ap (by omega)) dK) rfl rfl rfl (wB2 (aJ ap (by omega)) dK))
    ·have gn:¬ e=k:=by
      intro h;rw [h,<- WG] at g;simp at g
     have hzb:z.bare=false:=by
      cases hb:z.bare with
      | false=>rfl
      | true=>have:=dn z (mG hz) hb;omega
     obtain ⟨t2,ht2,Z7⟩:=(aZ z (mG hz)).to1 hzb;have cu:=cu z.to.toNat (jT (nF e z hz (by omega)));rw [show ((z.to.toNat:Nat):Int)=z.to by rw [ht2,ej]] at cu;have dK:=pj (hWo e z gn hz);generalize F z.to.toNat=u at cu dK;obtain ⟨vk,vn,vs,vl⟩:=u;refine dS ?_;refine iX (aE hz) ?_;refine cD Qf cu ?_;refine ⟨sg,⟨by rw [sg];simp [maxLen];omega,by rw [sg];simp;omega⟩,?_⟩;exact rE ⟨_,by omega,e + 1,rfl,by omega,rfl⟩ (au 6 rfl (gF (aJ ap (by omega)) dK) rfl rfl rfl (wB2 (aJ ap (by omega)) dK))
   ·have aQ:e=es.length:=by
     have:=hL;simp [bH,c7,av] at this;omega
    subst aQ;rw [<- hWl,List.take_length];refine br (fun c=>absurd c (by simp [c7])) (fun _=>?_);refine br (fun c=>absurd c (by simp [c7])) (fun _=>?_);rw [hR];exact ⟨_,ax,rfl⟩
  ·have pL:¬ sk=1:=by omega
   refine lI (fun j st=>st=TG A B ND rt ⟨ag,aX,lo,eQ,most,af,es⟩ (.mk xk xn xs xl) (.mk Yk Yn Ys Yl) Kk (List.replicate sn.toNat (.mk uk un us ul)) sn.toNat 0/\j=0) ⟨rfl,rfl⟩ (au 6 rfl wA rfl rfl rfl wB) ?_;rintro j st ⟨rfl,rfl⟩;refine br ?_ ?_<;>intro hL
   ·exfalso;simp [c7,av] at hL
   refine br (fun _=>?_) (fun c=>absurd c (by simp [c7]));refine ⟨sg,⟨by rw [sg];simp [maxLen];omega,by rw [sg];simp;omega⟩,?_⟩
   have dK:dVals (List.replicate sn.toNat (.mk uk un us ul)) ++ [dVal (.mk Yk Yn Ys Yl)]=dVals (List.replicate sn.toNat (.mk uk un us ul) ++ [(.mk Yk Yn Ys Yl)]):=by
    rw [bU,bU,List.map_append];all_goals rfl
   have hE:DV.sl 4 (dVals (List.replicate sn.toNat (.mk uk un us ul)) ++ [dVal (.mk Yk Yn Ys Yl)]) (some 0) = .sl 4 (dVals (List.replicate sn.toNat (.mk uk un us ul) ++ [(.mk Yk Yn Ys Yl)])) (some 0):=by rw [dK]
   refine br ?_ ?_<;>intro c8
   ·have c8:ag=8:=sU c8;have hs5:sk=5:=by omega
    rw [ah (by omega),ah (by omega),ai hs5,<- WG,show [Val.mk Yk Yn Ys Yl]=List.replicate sn.toNat (Val.mk uk un us ul) ++ [Val.mk Yk Yn Ys Yl] by rw [hnn (by omega)];rfl] at hR;rw [hR];exact ⟨_,(gU hE),rfl⟩
   ·have c8:¬ ag=8:=sU c8
    have hR2:R = .mk ag 0 ay (List.replicate sn.toNat (.mk uk un us ul) ++ [(.mk Yk Yn Ys Yl)]):=by
     by_cases h2:sk=2
     ·obtain ⟨_,hu1,LW⟩:=hu h2;rw [ai h2,LW,<- hu1] at hR;exact hR
     ·rw [ah h2,ah pL,ah (by omega)] at hR;rw [hR,hnn h2];rfl
    rw [hR2];exact ⟨_,(gU hE),rfl⟩
end
abbrev PI (lv:List Wd) (f:Nat->Nat->Bool) (ND:List Nd) (rt:Nat):List DV:=Li (bO lv) (cW (dJ lv.length f)) ND (rt:Nat)
def aaX (o:Option (Nat × Nat)):Int:=match o with
 | none=>-1
 | some (j,_)=>j
section
variable (lv:List Wd) (f:Nat->Nat->Bool) (ND:List Nd) (rt:Nat) (eB:rt < ND.length) (hL:gm f lv.length) (hn:lv.length<=32) (bw:∀ n∈ND,cK lv.length ND.length n) (bQ:∀ n∈ND,n.ak.length<=1099511627776) (fv:ND.length<=1099511627776) (p:List dj) (hp:p.length<=1099511627776) (hs:∀ s∈p,s.s.size<=4611686018427387904)
include eB hL hn bw bQ hp hs
theorem yJ:aV prog 28 [.agg (PI lv f ND rt),.sl 3 (aU p) none] (.v (.int .i64 (aaX (walkV ND f lv.length p rt (jY f lv.length))))):=by
 have hb:=zq lv.length f (by omega);rw [tP hL] at hb;have hbl:=JA hL;have hw:=uH lv f ND (rt:Nat) hL hn bw bQ p hp hs rt (jY f lv.length) eB hbl;generalize walkV ND f lv.length p rt (jY f lv.length)=W at hw ⊢
 cases W with
 | none=>
  refine eG 22 [.tmp 4] func28 rfl ntmps28 rfl fun _ _ _ _=>?_;refine dI ?_;refine cD Xz hb ?_;refine cD Ut hw ?_;exact (rfl:_=_)
 | some r=>
  refine eG 22 [.tmp 4] func28 rfl ntmps28 rfl fun _ _ _ _=>?_;refine dI ?_;refine cD Xz hb ?_;refine cD Ut hw ?_;exact (rfl:_=_)
include fv
set_option maxHeartbeats 4000000 in
theorem FR (x:Val) (hx:x.wt<=1099511627776):aV prog 25 [.agg (PI lv f ND rt),.sl 3 (aU p) none,.agg (dVal x)] (Lj (nA ND (bS ND) (bu ND) (walkV ND f lv.length p rt (jY f lv.length)) (stpsV ND p rt) x)):=by
 have ld:=yJ lv f ND rt eB hL hn bw bQ p hp hs;have nC:=uK 2 1 (bO lv) (cW (dJ lv.length f)) (rt:Nat) bw _ x (aR _) hx;have kv:=ox x.wt x (aR _) hx;have oM:=(vz x).1
 have Ir:1<=jN x:=by
  obtain ⟨k,n,s,ks⟩:=x;rw [jN];omega
 have hszz:∀ z∈bS ND,z<=4097:=fun z hz=>by
  obtain ⟨i,hi,rfl⟩:=List.getElem_of_mem hz;have:=(ni (gd ND) (i:=i)).2
  rwa [aF,gE hi] at this
 have hDS:∀ j,(bS ND).getD j 0=0↔(bu ND).getD j 0=0:=fun j=>by
  have:=(ni (gd ND) (i:=j)).1;show (ke ND (depN ND ND.length)).getD j 0=0↔(depN ND ND.length).getD j 0=0;omega
 have Db:=fun {r:Nat × Nat} h=>uJ 2 1 (bO lv) (cW (dJ lv.length f)) ND (rt:Nat) (bu ND) (qL (bu ND) (qw ND)) (bS ND) (qx ND) (f:=f) (m:=lv.length) bw bQ (rM _ _) hszz hDS Ir (by omega) p hp hs rt (jY f lv.length) (r:=r) eB h;have Ps:=fun {r:Nat × Nat} h1 h2=>rX (bO lv) (cW (dJ lv.length f)) ND (rt:Nat) (f:=f) (m:=lv.length) bw bQ x p hp hs rt (jY f lv.length) (r:=r) eB h1 h2;have V1:=fun {j b} h=>@ph _ ND (bu ND) bw (gd ND) f lv.length p rt (jY f lv.length) j b h;have PT:=fun j=>vF bw (gd ND) x j;generalize hW:walkV ND f lv.length p rt (jY f lv.length)=W at *
 cases W with
 | none=>
  obtain ⟨xk,xn,xs,xl⟩:=x;refine eG 52 [.cell 6 34,.tmp 7] func25 rfl ntmps25 rfl fun _ _ _ _=>?_;have ld:aV prog 28 [.agg (PI lv f ND rt),.sl 3 (aU p) none] (.v (.int .i64 (-1))):=ld;refine cP Xo ld ?_;exact ⟨.tup [.agg (dVal zeroV),.v (.bool false)],ax,rfl⟩
 | some jb=>
 obtain ⟨j,b⟩:=jb;obtain ⟨J,hJ⟩:∃ J:Int,J=(j:Int):=⟨_,rfl⟩;have ld:aV prog 28 [.agg (PI lv f ND rt),.sl 3 (aU p) none] (.v (.int .i64 J)):=by rw [hJ];exact ld
 have nC:=nC j;rw [<- Od bw x j,<- hJ] at nC;have H8:=Db rfl;clear Db;have hF:nA ND (bS ND) (bu ND) (some (j,b)) (stpsV ND p rt) x=if fitV ND x j=true/\(stpsV ND p rt).all (iO (bu ND))=true/\jN x + totF (bS ND) (stpsV ND p rt) < 4097 then some (alnV (bX ND (bu ND)) (stpsV ND p rt) x) else none:=rfl
 rw [hF];clear hF;have hR:nB (bS ND) (bu ND) (stpsV ND p rt) (jN x)=if (stpsV ND p rt).all (iO (bu ND))=true then bf (jN x + totF (bS ND) (stpsV ND p rt)) else 0:=rfl
 have rY:fitV ND x j=true->(stpsV ND p rt).all (iO (bu ND))=true->aV prog 74 [.agg (PI lv f ND rt),.v (.int .i64 (rt:Nat)),.sl 3 (aU p) none,.agg (dVal x)] (.agg (dVal (alnV (bX ND (bu ND)) (stpsV ND p rt) x))):=fun h1 h2=>
  Ps rfl fun q hq=>⟨List.all_eq_true.1 h2 q hq,(V1 rfl h2 (by have:=PT j h1;simpa using this)).2 q hq⟩
 rw [<- hJ] at rY ⊢;clear V1 PT hW Ps;have Vd:=FI (bS ND) (bu ND) (stpsV ND p rt) (jN x);generalize nB (bS ND) (bu ND) (stpsV ND p rt) (jN x)=R at H8 hR Vd;generalize alnV (bX ND (bu ND)) (stpsV ND p rt) x=Y at rY ⊢;generalize totF (bS ND) (stpsV ND p rt)=T at hR ⊢;generalize (stpsV ND p rt).all (iO (bu ND))=al at hR rY ⊢;generalize fitV ND x J=ft at nC rY ⊢;generalize jN x=C at kv H8 hR oM Ir ⊢;generalize xY x=dx at kv;obtain ⟨xk,xn,xs,xl⟩:=x;obtain ⟨Yk,Yn,Ys,Yl⟩:=Y;have aaY:C + T < 4097↔bf (C + T)≠4097:=by unfold bf;omega
 have hcut0:bf (C + T)≠0:=by unfold bf;omega
 refine eG 52 [.cell 6 34,.tmp 7] func25 rfl ntmps25 rfl fun _ _ _ _=>?_;refine cP Xo ld ?_;refine br ?_ ?_<;>intro g
 rotate_left
 ·exfalso;have g:J < 0:=by simpa [lastG] using g
  omega
 cases ft with
 | false=>
  rw [ah (by simp)];refine cP Ur nC ?_;exact ⟨.tup [.agg (dVal zeroV),.v (.bool false)],ax,rfl⟩
 | true=>
 refine cP Ur nC ?_;refine cP en7 kv ?_;refine cP Xw H8 ?_;refine br ?_ ?_<;>intro c
 ·have c:R=0∨R=4097:=by
   have:(R:Int)=0∨(4096:Int) < R:=by simpa [aw] using c
   omega
  rw [ah (fun h=>by
   rw [ai h.2.1] at hR;have:=aaY.1 h.2.2
   omega)]
  exact ⟨.tup [.agg (dVal zeroV),.v (.bool false)],ax,rfl⟩
 ·have c:R≠0/\R≠4097:=by
   have:¬ ((R:Int)=0∨(4096:Int) < R):=by
    intro h;have h2:pickB (decide ((R:Int)=0)) true (decide ((4096:Int) < R))=true:=by simpa [aw] using h
    rw [h2] at c;cases c
   omega
  cases al with
  | false=>exact (c.1 hR).elim
  | true=>
   rw [ai rfl] at hR;rw [ai ⟨rfl,rfl,aaY.2 (by omega)⟩];refine cP Xx (rY rfl rfl) ?_;exact ⟨.tup [.agg (dVal (.mk Yk Yn Ys Yl)),.v (.bool true)],ax,rfl⟩
end
theorem FT:∀ (a b:List Val),dZ (a ++ b)=dZ a + dZ b
 | [],b=>by simp [dZ]
 | v :: r,b=>by rw [List.cons_append,dZ,dZ,FT r,Nat.add_assoc]
theorem FU (u:Val):∀ n,dZ (List.replicate n u)=n * u.wt
 | 0=>by simp [dZ]
 | n + 1=>by rw [List.replicate_succ,dZ,FU u n,Nat.add_mul,Nat.one_mul,Nat.add_comm]
theorem Bn {sz:List Nat} {F:Nat->Val} {k:Nat}:∀ {es:List Ed} {i:Nat},k < i->(∀ (j:Nat) e,es[j]? = some e->(F e.to.toNat).wt<=64 * cg sz e)->dZ (es.map fun e=>F e.to.toNat)<=64 * sumE sz k es i
 | [],i,_,_=>by simp [dZ]
 | e :: r,i,hk,h=>by
  have h1:=h 0 e rfl;have h2:=Bn (sz:=sz) (F:=F) (k:=k) (es:=r) (i:=i + 1) (by omega) fun j e he=>h (j + 1) e (sU he);rw [List.map_cons,dZ,sumE,ah (by omega),Nat.mul_add];omega
theorem Bo {sz:List Nat} {F:Nat->Val} {v:Val} {k:Nat}:∀ {es:List Ed} {i:Nat},i<=k->(∀ (j:Nat) e,es[j]? = some e->i + j≠k->(F e.to.toNat).wt<=64 * cg sz e)->dZ ((es.map fun e=>F e.to.toNat).set (k - i) v)<=v.wt + 64 * sumE sz k es i
 | [],i,_,_=>by simp [dZ]
 | e :: r,i,hk,h=>by
  by_cases Wx:i=k
  ·subst Wx;have h2:=Bn (sz:=sz) (F:=F) (k:=i) (es:=r) (i:=i + 1) (by omega) fun j e he=>h (j + 1) e (sU he) (by omega);rw [Nat.sub_self,List.map_cons,List.set_cons_zero,dZ,sumE,ai rfl];omega
  ·have h1:=h 0 e rfl (by omega);have h2:=Bo (sz:=sz) (F:=F) (v:=v) (k:=k) (es:=r) (i:=i + 1) (by omega) fun j e he hj=>h (j + 1) e (sU he) (by omega);rw [List.map_cons,show k - i=(k - (i + 1)) + 1 by omega,List.set_cons_succ,dZ,sumE,ah Wx,Nat.mul_add];omega
theorem FV {sz:List Nat} {k:Nat}:∀ {es:List Ed} {i j:Nat} {e:Ed},es[j]? = some e->i + j≠k->cg sz e<=sumE sz k es i
 | [],i,j,e,h,_=>by simp at h
 | x :: r,i,0,e,h,hk=>by
  simp at h;subst h;rw [sumE,ah (by omega)];omega
 | x :: r,i,j + 1,e,h,hk=>by
  have:=FV (sz:=sz) (k:=k) (es:=r) (i:=i + 1) (j:=j) (e:=e) (sU h) (by omega);rw [sumE];omega
theorem Pt {ND:List Nd} {L:Nat} (bw:∀ n∈ND,cK L ND.length n) {e:Ed} (h:cg (bu ND) e≠0) (h2:cg (bS ND) e < 4097):(bX ND (bu ND) e.to.toNat).wt<=64 * cg (bS ND) e:=
 JF (gd ND) bw _ _ (aR _) (Nat.pos_of_ne_zero h) h2
theorem V2 {ND:List Nd} {L:Nat} (bw:∀ n∈ND,cK L ND.length n) {q:Pl} (hq:tR ND q) (pu:iO (bu ND) q=true) (hD:∃ x,q.d.ak[q.k]? = some x/\cg (bu ND) x≠0) (hx:yW (bS ND) q < 4097) (v:Val) :
  (u2 (bX ND (bu ND)) q v).wt<=v.wt + 64 * yW (bS ND) q:=by
 obtain ⟨k1,k5,k2,k3,k4,hk⟩:=lz hq;have e0:ay.size=0:=rfl;obtain ⟨y,hy,hyD⟩:=hD;unfold iO at pu;simp only [aP,decide_eq_true_eq] at pu;unfold u2;by_cases c2:q.s.k=2
 ·rw [ai c2,Val.wt,FT,FU,e0];obtain ⟨c5,h0,h1⟩:=k2 c2;obtain ⟨_,_,ht⟩:=CS bw hq hy (.inl c5);have hE:yW (bS ND) q=1 + q.s.n.toNat * cg (bS ND) y:=by unfold yW cg;rw [ai c2,ht]
  rw [hE] at hx ⊢;rw [ht];have hv:dZ [v]=v.wt:=by simp [dZ]
  rw [hv]
  have hm:q.s.n.toNat * (bX ND (bu ND) y.to.toNat).wt<=64 * (q.s.n.toNat * cg (bS ND) y):=by
   rcases Nat.eq_zero_or_pos q.s.n.toNat with h | h
   ·rw [h];simp
   ·have dG:cg (bS ND) y<=q.s.n.toNat * cg (bS ND) y:=Nat.le_mul_of_pos_left _ h;have:=Pt bw hyD (by omega);rw [Nat.mul_left_comm];exact Nat.mul_le_mul_left _ this
  rw [Nat.mul_add];omega
 rw [ah c2];by_cases c1:q.s.k=1
 ·rw [ai c1,Val.wt,e0];have hE:yW (bS ND) q=1 + sumE (bS ND) q.k q.d.ak 0:=by unfold yW;rw [ah c2,ai c1]
  rw [hE] at hx ⊢;have nF:=pu.2;simp [c1] at nF;have nF:=kV.1 nF
  have:=Bo (sz:=bS ND) (F:=bX ND (bu ND)) (v:=v) (k:=q.k) (es:=q.d.ak) (i:=0) (Nat.zero_le _) fun j e he hj=>Pt bw (nF j e he hj) (by
   have:=FV (sz:=bS ND) he hj
   omega)
  rw [Nat.sub_zero] at this;rw [Nat.mul_add];omega
 ·rw [ah c1,Val.wt,e0];have hv:dZ [v]=v.wt:=by simp [dZ]
  rw [hv];have:yW (bS ND) q=1:=by unfold yW;rw [ah c2,ah c1]
  omega
theorem Pu {ND:List Nd} {L:Nat} (bw:∀ n∈ND,cK L ND.length n) (v:Val):∀ (l:List Pl),(∀ q∈l,tR ND q/\iO (bu ND) q=true/\∃ x,q.d.ak[q.k]? = some x/\cg (bu ND) x≠0)->totF (bS ND) l < 4097->(alnV (bX ND (bu ND)) l v).wt<=v.wt + 64 * totF (bS ND) l
 | [],_,_=>by rw [alnV];omega
 | q :: l,h,ht=>by
  rw [totF] at ht ⊢;have ih:=Pu bw v l (fun q hq=>h q (by simp [hq])) (by omega);obtain ⟨h1,h2,h3⟩:=h q (by simp);have:=V2 bw h1 h2 h3 (by omega) (alnV (bX ND (bu ND)) l v);rw [alnV,Nat.mul_add];omega
theorem RU {ND:List Nd} {L:Nat} (bw:∀ n∈ND,cK L ND.length n) {f:Nat->Nat->Bool} {m:Nat} {p:List dj} {i a:Nat} {v u:Val} (h:nA ND (bS ND) (bu ND) (walkV ND f m p i a) (stpsV ND p i) v=some u):u.wt<=v.wt + 262208:=by
 cases hw:walkV ND f m p i a with
 | none=>rw [hw] at h;cases h
 | some r=>
  obtain ⟨j,b⟩:=r;rw [hw] at h;unfold nA at h;simp only at h;split at h
  ·rename_i hc;cases h;obtain ⟨Ir,lA,FZ⟩:=hc;have V1:=(ph bw (gd ND) p i a hw lA (by have:=vF bw (gd ND) v _ Ir;simpa using this)).2;obtain ⟨xA,nJ⟩:=oD p i a hw;have:=Pu bw v (stpsV ND p i) (fun q hq=>⟨?_,List.all_eq_true.1 lA q hq,V1 q hq⟩) (by omega)
   ·omega
   ·obtain ⟨e,he,rfl⟩:=List.getElem_of_mem hq;obtain ⟨q',_,jh,_,hok',_⟩:=nJ e p[e] (gE (by omega));rw [gE he] at jh;cases jh;exact hok'
  ·cases h
section
variable {S:Sch} {ND:List Nd} {PC:List DV} (hP:fm S ND PC) (p:List dj) (hp:p.length<=1099511627776) (hs:∀ s∈p,s.s.size<=4611686018427387904) (rt:Nat) (yV:gl S=rt) (eB:rt < ND.length)
include hP hp hs yV eB
theorem FW (x:Val) (hx:x.wt<=1099511627776) :
  aV prog 22 [.pt PC 0,.sl 3 (aU p) none,.agg (dVal x)] (Lj (nA ND (bS ND) (bu ND) (walkV ND (ey S) S.ae.length p rt (jY (ey S) S.ae.length)) (stpsV ND p rt) x)):=by
 have hm:=qv PC ND hP;have h:=FQ hP (qx ND) (qw ND) p hp hs rt yV eB x hx;generalize nA ND (bS ND) (bu ND) (walkV ND (ey S) S.ae.length p rt (jY (ey S) S.ae.length)) (stpsV ND p rt) x=R at h ⊢;obtain ⟨xk,xn,xs,xl⟩:=x
 cases R with
 | none=>
  have h:aV prog 62 [.pt (ng PC ND (bu ND) (qw ND) (bS ND) (qx ND)) 0,.sl 3 (aU p) none,.agg (dVal (.mk xk xn xs xl))] (.tup [.agg (dVal zeroV),.v (.bool false)]):=h;refine eG 15 [.cell 6 34,.tmp 7] func22 rfl ntmps22 rfl fun _ _ _ _=>?_;refine dS ?_;refine cD JZ hm ?_;refine cD Xt h ?_;exact ⟨.tup [.agg (dVal zeroV),.v (.bool false)],ax,rfl⟩
 | some u=>
  have h:aV prog 62 [.pt (ng PC ND (bu ND) (qw ND) (bS ND) (qx ND)) 0,.sl 3 (aU p) none,.agg (dVal (.mk xk xn xs xl))] (.tup [.agg (dVal u),.v (.bool true)]):=h;obtain ⟨uk,un,us,ul⟩:=u;refine eG 15 [.cell 6 34,.tmp 7] func22 rfl ntmps22 rfl fun _ _ _ _=>?_;refine dS ?_;refine cD JZ hm ?_;refine cD Xt h ?_;exact ⟨.tup [.agg (dVal (.mk uk un us ul)),.v (.bool true)],ax,rfl⟩
end
theorem V3 {S:Sch} {PC:List DV} (hP:fm S (ba S) PC) {rt:Nat} (eB:rt < (ba S).length) (yV:gl S=rt) (p:List dj) (hp:p.length<=1099511627776) (hs:∀ s∈p,s.s.size<=4611686018427387904):∃ (o:Option (Nat × Nat)) (l:List Pl),
  (∀ x:Val,x.wt<=1099511627776->aV prog 22 [.pt PC 0,.sl 3 (aU p) none,.agg (dVal x)] (Lj (nA (ba S) (bS (ba S)) (bu (ba S)) o l x))) /\
  (∀ x:Val,x.wt<=1099511627776->aV prog 25 [.agg (PI S.ae (ey S) (ba S) rt),.sl 3 (aU p) none,.agg (dVal x)] (Lj (nA (ba S) (bS (ba S)) (bu (ba S)) o l x))) /\
  (∀ x u:Val,nA (ba S) (bS (ba S)) (bu (ba S)) o l x=some u->u.wt<=x.wt + 262208) /\
  aV prog 28 [.agg (PI S.ae (ey S) (ba S) rt),.sl 3 (aU p) none] (.v (.int .i64 (aaX o))) /\
  o=walkV (ba S) (ey S) S.ae.length p rt (jY (ey S) S.ae.length)/\l=stpsV (ba S) p rt:=by
 obtain ⟨LC,_,PH⟩:=hP.VR
 exact ⟨walkV (ba S) (ey S) S.ae.length p rt (jY (ey S) S.ae.length),stpsV (ba S) p rt,fun x hx=>FW hP p hp hs rt yV eB x hx,fun x hx=>FR S.ae (ey S) (ba S) rt eB PH.ok PH.n32 hP.ok hP.KZ hP.nl p hp hs x hx,fun x u h=>RU hP.ok h,
  yJ S.ae (ey S) (ba S) rt eB PH.ok PH.n32 hP.ok hP.KZ p hp hs,rfl,rfl⟩
set_option maxHeartbeats 4000000 in
theorem along26_law (S:Sch) (hS:S.wt<=1099511627776) (_:YG S) (p:List dj) (hpw:wtStp p<=549755813888) (_:HK p) (x:Val) (hx:x.wt<=549755813888):aV prog 4 [.agg (gk S),.sl 3 (aU p) none,.agg (dVal x)] (.v (.bool true)):=by
 have nv:=AQ p;have hp:p.length<=1099511627776:=by omega
 have hs:∀ s∈p,s.s.size<=4611686018427387904:=fun s ue=>by have:=AR ue;omega
 have hf:=FO S hS;have hb:=(xG S hS).mono (Ψ:=fun r _ _=>HC S r) fun _ _ _ h=>AK hS h;have hw:=fun h=>Cs S hS h;have dK:∀ n∈ba S,n.af.length<=1099511627776:=fun n hn=>(o6 hn hS).1;have YX:=@HB S;have lU:=ef p;have kv:=ox x.wt x (aR _) (by omega);generalize jN x=C at kv;generalize xY x=dx at kv;obtain ⟨ae,order,types,⟨rh,rp⟩⟩:=S;generalize hXg:x=X at *;obtain ⟨xk,xn,xs,xl⟩:=X;refine eG 67 [.tmp 6] func4 rfl ntmps4 rfl fun _ _ _ _=>?_;refine cP en7 kv ?_;refine br ?_ ?_<;>intro c
 rotate_left
 ·refine cP Qe kg ?_;exact (rfl:_=_)
 refine kD en20 rfl hf ax (fun r hr=>?_);obtain ⟨b,rfl,h0⟩:=hr
 cases b with
 | false=>
  refine cP Qe kg ?_;exact (rfl:_=_)
 | true=>
 have h0:=h0 rfl;have hw:=hw h0;refine kD Xh rfl hb ax (fun r hr=>?_);rcases hr with ⟨hr,_⟩ | ⟨_,PC,hP,rfl⟩
 ·exact (hr h0).elim
 obtain ⟨rt,yV,eB⟩:=YX (xU h0);have Wl:=FK 2 1 (bO ae) (cW (dJ ae.length (ey ⟨ae,order,types,.mk rh rp⟩))) (ba ⟨ae,order,types,.mk rh rp⟩) (rt:Nat) hP.ok hP.nl hP.KZ dK;obtain ⟨o,l,hA,Ll,yO,_,_⟩:=V3 hP eB yV p hp hs;have hA:=hA (.mk xk xn xs xl) (by omega);have Ll:=Ll (.mk xk xn xs xl) (by omega);have yO:=yO (.mk xk xn xs xl);rw [yV] at hw;generalize nA (ba ⟨ae,order,types,.mk rh rp⟩) (bS (ba ⟨ae,order,types,.mk rh rp⟩)) (bu (ba ⟨ae,order,types,.mk rh rp⟩)) o l (.mk xk xn xs xl)=Q at hA Ll yO;have hw:aV prog 24 [.agg (gk ⟨ae,order,types,.mk rh rp⟩)] (.agg (wL ae (ey ⟨ae,order,types,.mk rh rp⟩) (ba ⟨ae,order,types,.mk rh rp⟩) (rt:Nat))):=hw;have Ll:aV prog 25 [.agg (PI ae (ey ⟨ae,order,types,.mk rh rp⟩) (ba ⟨ae,order,types,.mk rh rp⟩) rt),.sl 3 (aU p) none,.agg (dVal (.mk xk xn xs xl))] (Lj Q):=Ll;generalize ey ⟨ae,order,types,.mk rh rp⟩=F at hw Wl Ll;generalize ba ⟨ae,order,types,.mk rh rp⟩=ND at hw Wl Ll
 cases Q with
 | none=>
  have hA:aV prog 22 [.pt PC 0,.sl 3 (aU p) none,.agg (dVal (.mk xk xn xs xl))] (.tup [.agg (dVal zeroV),.v (.bool false)]):=hA;have Ll:aV prog 25 [.agg (PI ae F ND rt),.sl 3 (aU p) none,.agg (dVal (.mk xk xn xs xl))] (.tup [.agg (dVal zeroV),.v (.bool false)]):=Ll;have pL:=uM zeroV (by decide) zeroV;rw [x8] at pL;refine cP Xj hA ?_;refine cP Xl hw ?_;refine cP Xk Wl ?_;refine cP Xm Ll ?_;refine cP Xn pL ?_;refine cP Qe kg ?_;exact (rfl:_=_)
 | some u=>
  have yO:=yO u rfl;have hA:aV prog 22 [.pt PC 0,.sl 3 (aU p) none,.agg (dVal (.mk xk xn xs xl))] (.tup [.agg (dVal u),.v (.bool true)]):=hA;have Ll:aV prog 25 [.agg (PI ae F ND rt),.sl 3 (aU p) none,.agg (dVal (.mk xk xn xs xl))] (.tup [.agg (dVal u),.v (.bool true)]):=Ll;have pL:=uM u (by omega) u;rw [x8] at pL;obtain ⟨uk,un,us,ul⟩:=u;refine cP Xj hA ?_;refine cP Xl hw ?_;refine cP Xk Wl ?_;refine cP Xm Ll ?_;refine cP Xn pL ?_;refine cP Qe kg ?_;exact (rfl:_=_)
end Go.Proofs.YtadhpeooehkklaaGreat
