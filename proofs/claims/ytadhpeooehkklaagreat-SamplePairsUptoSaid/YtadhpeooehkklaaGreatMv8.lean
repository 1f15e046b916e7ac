/- Part 8 of the proof: First and second values, the document's: cut, depth, sum, tag; The document's Room: how much a value along a path has in it; First and second values, the document's: size, field, other; Regions that draw their order, in which several new objects may come in any order; First and second values, the document's: Make; First and second values, the document's: First, tagged, Second; Second values, the document's; First and second values: how great they are; tree.write, Raw; The document's Fits; Written values: well formed; the document's Same on the same value; its Raw; The document's Kid, Get, Set of a value that fits; The document's Same of values, Set; The numbers of a plan's nodes are ints; The law of first and second values: fine, the example, the call returns true; Sample: a value with another one in it; Sample: the root's value along a path; The document's Along, End, Fill; The document's End, Fill; Sample: Along, Pair; the weight of a value along a path; Sample: Pair; The laws of values along paths, of pairs: the calls return true. No condition. -/
import Derived.Test.YtadhpeooehkklaaGreatMv3
import Derived.Test.YtadhpeooehkklaaGreatMv5
import Derived.Test.YtadhpeooehkklaaGreatMv6
import Derived.Test.YtadhpeooehkklaaGreatMv7
set_option linter.all false
set_option maxRecDepth 100000
namespace Go.Proofs.YtadhpeooehkklaaGreat
open Go Go.RowKit Dv Go.Proofs.Tryz
abbrev uA (a b:Nat) (A B:List (List DV)) (ND:List Nd) (z:Int) (D M S O:List Nat):List DV:=[.sl a A none,.sl b B none,.sl 7 (bD ND) none,.v (.int .i64 z),.sl 1 (dInts D) none,.sl 1 (dInts M) none,.sl 1 (dInts S) none,.sl 1 (dInts O) none]
theorem ig (n:Nat):aV prog 132 [.v (.int .i64 n)] (.v (.int .i64 (bf n:Nat))):=by
 refine eG 6 [.tmp 2] func132 rfl ntmps132 rfl fun _ _ _ _=>?_;refine br ?_ ?_<;>intro c
 ·have c:(4097:Int) < n:=sU c;refine (congrArg (fun z=>DV.v (.int .i64 z)) ?_:_=_);unfold bf;omega
 ·have c:¬ (4097:Int) < n:=sU c;refine (congrArg (fun z=>DV.v (.int .i64 z)) ?_:_=_);unfold bf;omega
def tgStep (D:List Nat) (es:List Ed) (but:Int) (i:Nat) (out:Option Nat):Option Nat:=match es[i]? with
 | none=>out
 | some e=>if (i:Int)=but∨dN D e=false then out else if 0<=but then some i else match out with
  | none=>some i
  | some k=>match es[k]? with | none=>some i | some y=>if ld D e<=ld D y then some i else some k
def tagR (D:List Nat) (es:List Ed) (but:Int):Nat->Option Nat
 | 0=>none
 | c + 1=>tgStep D es but (es.length - (c + 1)) (tagR D es but c)
theorem sq {D:List Nat} {es:List Ed} {but:Int}:∀ {c k:Nat},c<=es.length->tagR D es but c=some k->es.length - c<=k/\∃ e,es[k]? = some e/\dN D e=true/\(k:Int)≠but
 | 0,k,_,h=>by cases h
 | c + 1,k,hc,h=>by
  rw [tagR] at h;have ih:=fun k h=>sq (D:=D) (es:=es) (but:=but) (c:=c) (k:=k) (by omega) h;have hx:es[es.length - (c + 1)]? = some es[es.length - (c + 1)]:=gE (by omega);generalize tagR D es but c=out at h ih;unfold tgStep at h;rw [hx] at h;simp only at h
  have hup:out=some k->es.length - (c + 1)<=k/\∃ e,es[k]? = some e/\dN D e=true/\(k:Int)≠but:=fun h=>by
   obtain ⟨h1,h2⟩:=ih k h;exact ⟨by omega,h2⟩
  split at h
  ·exact hup h
  ·rename_i hn
   have Iz:some (es.length - (c + 1))=some k->es.length - (c + 1)<=k/\∃ e,es[k]? = some e/\dN D e=true/\(k:Int)≠but:=fun h=>by
    cases h;exact ⟨aU _,_,hx,by cases ht:dN D es[es.length - (c + 1)]<;>simp_all,fun h=>hn (.inl h)⟩
   split at h
   ·exact Iz h
   ·split at h
    ·exact Iz h
    ·split at h
     ·exact Iz h
     ·split at h
      ·exact Iz h
      ·exact hup h
theorem BX {D:List Nat} {es:List Ed}:∀ {c:Nat},c<=es.length->(tagR D es (-1) c=none->∀ (j:Nat) x,es.length - c<=j->es[j]? = some x->dN D x=false) /\
  ∀ k,tagR D es (-1) c=some k->∃ e,es[k]? = some e/\(∀ (j:Nat) x,es.length - c<=j->es[j]? = some x->dN D x=true->ld D e<=ld D x)/\∀ (j:Nat) x,es.length - c<=j->j < k->es[j]? = some x->dN D x=true->ld D e < ld D x
 | 0,_=>⟨fun _ j x hj hx=>by have:=(gS hx).1;omega,fun k h=>by cases h⟩
 | c + 1,hc=>by
  obtain ⟨ih1,T4⟩:=BX (D:=D) (es:=es) (c:=c) (by omega);have vC:=fun k h=>sq (D:=D) (es:=es) (but:=-1) (c:=c) (k:=k) (by omega) h;have hx:es[es.length - (c + 1)]? = some es[es.length - (c + 1)]:=gE (by omega);have vj:∀ {j:Nat},es.length - (c + 1)<=j->j=es.length - (c + 1)∨es.length - c<=j:=fun h=>by omega
  rw [tagR];generalize tagR D es (-1) c=out at ih1 T4 vC;generalize es[es.length - (c + 1)]=e at hx;generalize hi:es.length - (c + 1)=i at hx vj;unfold tgStep;rw [hx];simp only;by_cases r6:dN D e=true
  ·rw [ah (by rw [r6];simp),ah (by omega)]
   cases out with
   | none=>
    refine ⟨fun h=>(by cases h),fun k h=>?_⟩;cases h;refine ⟨e,hx,fun j x hj sr ht=>?_,fun j x hj Kv sr ht=>by omega⟩;rcases vj hj with rfl | hj
    ·rw [hx] at sr;cases sr;exact aU _
    ·rw [ih1 rfl j x hj sr] at ht;cases ht
   | some k=>
    obtain ⟨y,hy,h1,h2⟩:=T4 k rfl;obtain ⟨hk,_⟩:=vC k rfl;simp only [hy];by_cases dK:ld D e<=ld D y
    ·rw [ai dK];refine ⟨fun h=>(by cases h),fun k' h=>?_⟩;cases h;refine ⟨e,hx,fun j x hj sr ht=>?_,fun j x hj Kv sr ht=>by omega⟩;rcases vj hj with rfl | hj
     ·rw [hx] at sr;cases sr;exact aU _
     ·have:=h1 j x hj sr ht;omega
    ·rw [ah dK];refine ⟨fun h=>(by cases h),fun k' h=>?_⟩;cases h;refine ⟨y,hy,fun j x hj sr ht=>?_,fun j x hj Kv sr ht=>?_⟩
     ·rcases vj hj with rfl | hj
      ·rw [hx] at sr;cases sr;omega
      ·exact h1 j x hj sr ht
     ·rcases vj hj with rfl | hj
      ·rw [hx] at sr;cases sr;omega
      ·exact h2 j x hj Kv sr ht
  ·have r6:dN D e=false:=sU r6;rw [ai (.inr r6)];refine ⟨fun h j x hj sr=>?_,fun k h=>?_⟩
   ·rcases vj hj with rfl | hj
    ·rw [hx] at sr;cases sr;exact r6
    ·exact ih1 h j x hj sr
   ·obtain ⟨y,hy,h1,h2⟩:=T4 k h;refine ⟨y,hy,fun j x hj sr ht=>?_,fun j x hj Kv sr ht=>?_⟩
    ·rcases vj hj with rfl | hj
     ·rw [hx] at sr;cases sr;rw [r6] at ht;cases ht
     ·exact h1 j x hj sr ht
    ·rcases vj hj with rfl | hj
     ·rw [hx] at sr;cases sr;rw [r6] at ht;cases ht
     ·exact h2 j x hj Kv sr ht
theorem lE (D:List Nat) (es:List Ed):tagR D es (-1) es.length=bG D es:=by
 obtain ⟨h1,h2⟩:=BX (D:=D) (es:=es) (aU _)
 cases h:tagR D es (-1) es.length with
 | none=>
  refine (vd fun x hx=>?_).symm;obtain ⟨j,hj,rfl⟩:=List.getElem_of_mem hx;exact h1 h j _ (by omega) (gE hj)
 | some k=>
  obtain ⟨_,e,he,ht,_⟩:=sq (aU _) h;obtain ⟨e',qj,h3,h4⟩:=h2 k h;rw [he] at qj;cases qj;refine (uf he ht (fun x hx P8=>?_) fun j x hj hx P8=>h4 j x (by omega) hj hx P8).symm;obtain ⟨j,hj,rfl⟩:=List.getElem_of_mem hx;exact h3 j _ (by omega) (gE hj) P8
theorem qO {D:List Nat} {es:List Ed} {b:Nat}:∀ {c:Nat},c<=es.length->∀ (j:Nat) x,es.length - c<=j->es[j]? = some x->dN D x=true->j≠b->∃ k,tagR D es b c=some k/\k<=j
 | 0,_,j,x,hj,hx,_,_=>by have:=(gS hx).1;omega
 | c + 1,hc,j,x,hj,hx,ht,hb=>by
  have p9:es[es.length - (c + 1)]? = some es[es.length - (c + 1)]:=gE (by omega);rw [tagR];unfold tgStep;rw [p9];simp only;split
  ·rename_i hn;rcases (show j=es.length - (c + 1)∨es.length - c<=j by omega) with rfl | gB
   ·rw [hx] at p9;cases p9;rcases hn with hn | hn
    ·omega
    ·rw [ht] at hn;cases hn
   ·exact qO (by omega) j x gB hx ht hb
  ·rw [ai (by omega)];exact ⟨_,rfl,hj⟩
theorem BZ {D:List Nat} {es:List Ed} {b:Nat} (h:bG D es=some b):tagR D es b es.length=iZ D es:=by
 cases ht:tagR D es b es.length with
 | none=>
  refine (bU fun j hj=>?_).symm;rw [mh (gE hj),h]
  cases r6:dN D es[j] with
  | false=>simp
  | true=>
   by_cases Km:j=b
   ·subst Km;simp
   ·obtain ⟨k,hk,_⟩:=qO (D:=D) (b:=b) (aU _) j _ (by omega) (gE hj) r6 Km;rw [ht] at hk;cases hk
 | some k=>
  obtain ⟨_,e,he,r6,bF⟩:=sq (aU _) ht;refine (bI (gS he).1 ?_ fun j hj=>?_).symm
  ·rw [mh he,h,r6,Bool.and_true];exact decide_eq_true fun h2=>bF (by cases h2;rfl)
  ·have nY:j < es.length:=by have:=(gS he).1;omega
   rw [mh (gE nY),h]
   cases hth2:dN D es[j] with
   | false=>simp
   | true=>
    by_cases Km:j=b
    ·subst Km;simp
    ·obtain ⟨k',fb,dK⟩:=qO (D:=D) (b:=b) (aU _) j _ (by omega) (gE nY) hth2 Km;rw [ht] at fb;cases fb;omega
section
variable (a b:Nat) (A B:List (List DV)) (ND:List Nd) (z:Int) (D M S O:List Nat) {L:Nat}
theorem nz {e:Ed} (hD:D.length=ND.length) (he:ON L ND.length e) :
  aV prog 147 [.agg (uA a b A B ND z D M S O),.agg (CU e)] (.v (.int .i64 (ld D e:Nat))):=by
 obtain ⟨en,eb,ea,et,r8,ew,ug,ui,uj,um⟩:=e;have h1:=he.to1;simp only at h1;refine eG 13 [.tmp 4] func147 rfl ntmps147 rfl fun _ _ _ _=>?_;refine br ?_ ?_<;>intro c
 ·subst c;exact (rfl:_=_)
 ·subst c;obtain ⟨k,rfl,ej⟩:=h1 rfl;have hg:D[k]? = some D[k]:=gE (by omega);refine ⟨_,⟨cp _,aG hg⟩,?_⟩;refine (congrArg (fun z=>DV.v (.int .i64 z)) ?_:_=_);unfold ld bZ;simp [aH,hg]
abbrev WB (es:List Ed) (c:Int) (s e:Nat):St:=
 ⟨[(1,⟨[],.sl 10 (cJ es) none⟩),(2,⟨[],.v (.int .i64 c)⟩),(3,⟨[],.loc 0 0⟩),(7,⟨[],.v (.int .i64 s)⟩),(8,⟨[],.v (.int .i64 e)⟩)],[uA a b A B ND z D M S O],[]⟩
theorem nA (es:List Ed) (c:Int) (hS:S.length=ND.length) (hz:∀ z∈S,z<=4097) (he:∀ e∈es,ON L ND.length e) (ef:es.length<=1099511627776) :
  aV prog 131 [.agg (uA a b A B ND z D M S O),.sl 10 (cJ es) none,.v (.int .i64 c)] (.v (.int .i64 (sumX S c es 0 1:Nat))):=by
 have bJ:=aW es;refine eG 39 [.tmp 6] func131 rfl ntmps131 rfl fun _ _ _ _=>?_;refine lJ (fun e=>WB a b A B ND z D M S O es c (sumX S c (es.take e) 0 1) e) es.length (aq 1 rfl wA rfl rfl rfl wB) ?_;intro e hel';refine br ?_ ?_<;>intro hL
 ·have au:e < es.length:=sV bJ hL;obtain ⟨x,hx⟩:=gX au;have uE:=he x (mG hx);have eU:=uq (sz:=S) (c:=c) hx;have nQ:=lB (sz:=S) (c:=c) (es:=es.take e) (i:=0) (n:=1) (by omega);have nD:=se hz x;generalize sumX S c (es.take e) 0 1=s at eU nQ ⊢;refine br ?_ ?_<;>intro c1
  ·have c1:¬ (e:Int)=c:=fun h=>by simp [lastG,h] at c1
   rw [ah c1] at eU;refine ⟨_,⟨cp _,aF hx⟩,?_⟩;refine br ?_ ?_<;>intro c2
   ·have c2:x.bare=false:=by simpa [lastG,pickB] using c2
    obtain ⟨k,hk,ej⟩:=uE.to1 c2;have hg:S[k]? = some S[k]:=gE (by omega);have hpr:cw S x=S[k]:=by unfold cw bZ;rw [c2,hk,dq,aH,hg];all_goals rfl
    rw [hpr] at eU nD;generalize S[k]=v at eU nD hg;have hw:=wrapN (a:=s) (b:=v) (by omega) (by omega);obtain ⟨en,eb,ea,et,r8,ew,ug,ui,uj,um⟩:=x;simp only at hk;subst hk;refine dI ?_;refine ⟨_,⟨cp _,aF hx⟩,?_⟩;refine ⟨_,⟨cp _,aG hg⟩,?_⟩;refine cD xm (ig (s + v)) ?_ (gU hw);exact rE ⟨_,by omega,e + 1,rfl,by omega,rfl⟩ (aq 1 rfl (gp eU.symm (aK au (by omega))) rfl rfl rfl (wB2 eU.symm (aK au (by omega))))
   ·have c2:x.bare=true:=by simpa [lastG,pickB] using c2
    have hs:s=sumX S c (es.take (e + 1)) 0 1:=by rw [eU];unfold cw bf;rw [ai c2];omega
    exact rE ⟨_,by omega,e + 1,rfl,by omega,rfl⟩ (aq 1 rfl (gp hs (aK au (by omega))) rfl rfl rfl (wB2 hs (aK au (by omega))))
  ·have c1:(e:Int)=c:=Decidable.byContradiction fun h=>by simp [lastG,h] at c1
   rw [ai c1] at eU;exact rE ⟨_,by omega,e + 1,rfl,by omega,rfl⟩ (aq 1 rfl (gp eU.symm (aK au (by omega))) rfl rfl rfl (wB2 eU.symm (aK au (by omega))))
 ·have aS:e=es.length:=sW bJ hL;subst aS;rw [List.take_length];exact (rfl:_=_)
abbrev kZ (n:Nd) (but:Int) (out:Option Nat) (j:Int):St:=
 ⟨[(2,⟨[],.v (.int .i64 but)⟩),(3,⟨[],.loc 0 0⟩),(4,⟨[],.loc 1 0⟩),(7,⟨[],.v (.int .i64 (oz out))⟩),(8,⟨[],.v (.int .i64 j)⟩)],[uA a b A B ND z D M S O,gG n],[]⟩
set_option maxHeartbeats 4000000 in
theorem k0 {n:Nd} (but:Int) (hD:D.length=ND.length) (hn:cz L ND.length n) (ef:n.ap.length<=1099511627776) :
  aV prog 83 [.agg (uA a b A B ND z D M S O),.agg (gG n),.v (.int .i64 but)] (.v (.int .i64 (oz (tagR D n.ap but n.ap.length)))):=by
 have aZ:=hn.fJ;obtain ⟨ag,ba,lo,hi,most,af,es⟩:=n;simp only at aZ ef ⊢;have bJ:=aW es;refine eG 61 [.tmp 6] func83 rfl ntmps83 rfl fun _ _ _ _=>?_;refine bA (fun t st=>∃ (c:Nat) (j:Int),st=kZ a b A B ND z D M S O ⟨ag,ba,lo,hi,most,af,es⟩ but (tagR D es but c) j/\c<=es.length/\j=(es.length:Int) - 1 - c/\t=es.length - c) es.length (kZ a b A B ND z D M S O ⟨ag,ba,lo,hi,most,af,es⟩ but none ((es.length:Int) - 1)) (aq 2 rfl (nF (show IntKind.i64.wrap (((cJ es).length:Int) - 1)=(es.length:Int) - 1 by rw [bJ,wrap64 (by omega) (by omega)])) rfl rfl rfl (dy (show IntKind.i64.wrap (((cJ es).length:Int) - 1)=(es.length:Int) - 1 by rw [bJ,wrap64 (by omega) (by omega)]))) ⟨0,_,rfl,by omega,by omega,by omega⟩ ?_;rintro t st ⟨c,j,rfl,hc,hj,rfl⟩;refine br ?_ ?_<;>intro hL
 ·have hL:0<=j:=sU hL;obtain ⟨i,rfl⟩:∃ i:Nat,j=i:=⟨j.toNat,by omega⟩;have hic:i=es.length - (c + 1):=by omega
  have au:i < es.length:=by omega
  obtain ⟨x,hx⟩:=gX au;have uE:=aZ x (mG hx);have cd:tagR D es but (c + 1)=tgStep D es but i (tagR D es but c):=by rw [tagR,<- hic]
  have vC:=fun k h=>sq (D:=D) (es:=es) (but:=but) (c:=c) (k:=k) (by omega) h;unfold tgStep at cd;rw [hx] at cd;simp only at cd;have aa5:=nz a b A B ND z D M S O hD uE
  have T5:∃ v,x.bare=false->D[x.to.toNat]? = some v/\0<=x.to/\(dN D x=false↔v=0):=by
   cases hb:x.bare with
   | true=>exact ⟨0,fun h=>by cases h⟩
   | false=>
    obtain ⟨k,hk,ej⟩:=uE.to1 hb;have hg:D[x.to.toNat]? = some D[x.to.toNat]:=gE (by omega);exact ⟨_,fun _=>⟨hg,by omega,by unfold dN bZ;rw [hb,aH,hg];simp⟩⟩
  obtain ⟨v,hv⟩:=T5;have hbt:x.bare=true->dN D x=true:=fun h=>by unfold dN;rw [h];all_goals rfl
  have hend:∀ out2:Option Nat,tagR D es but (c + 1)=out2->∃ c2 j2,kZ a b A B ND z D M S O ⟨ag,ba,lo,hi,most,af,es⟩ but out2 (((i:Nat):Int) - 1)=kZ a b A B ND z D M S O ⟨ag,ba,lo,hi,most,af,es⟩ but (tagR D es but c2) j2/\c2<=es.length/\j2=(es.length:Int) - 1 - c2/\es.length - (c + 1)=es.length - c2:=fun out2 h=>⟨c + 1,_,by rw [h],by omega,by omega,rfl⟩;have hw:IntKind.i64.wrap (((i:Nat):Int) - 1)=((i:Nat):Int) - 1:=wrap64 (by omega) (by omega);generalize tagR D es but c=out at cd vC;generalize tagR D es but (c + 1)=out2 at cd hend;refine ⟨_,⟨cp _,aF hx⟩,?_⟩;refine br ?_ ?_<;>intro c1
  ·have c1:¬ (i:Int)=but:=fun h=>by simp [lastG,h] at c1
   refine br ?_ ?_<;>intro c2
   ·have c2:x.bare=false:=by simpa [lastG] using c2
    obtain ⟨mD,sP,WQ⟩:=hv c2;refine ⟨_,⟨sP,aG mD⟩,?_⟩;refine br ?_ ?_<;>intro c3
    ·have c3:v=0:=by simpa [lastG,pickB] using c3
     rw [ai (.inr (WQ.2 c3))] at cd;exact ⟨kZ a b A B ND z D M S O ⟨ag,ba,lo,hi,most,af,es⟩ but out2 ((i:Nat) - 1),(aq 2 rfl (gp hw (congrArg oz (cd.symm))) rfl rfl rfl (wB2 hw (congrArg oz (cd.symm)))),es.length - (c + 1),by omega,hend out2 rfl⟩
    ·have c3:¬ v=0:=by simpa [lastG,pickB] using c3
     rw [ah (fun h=>h.elim c1 (fun h=>c3 (WQ.1 h)))] at cd;refine dI ?_;refine br ?_ ?_<;>intro c4
     ·have c4:¬ 0<=but/\out≠none:=by
       cases out with
       | none=>simp [lastG,ay,oz] at c4
       | some k=>exact ⟨fun h=>by simp [lastG,pickB,h] at c4,by simp⟩
      obtain ⟨k,rfl⟩:=Option.ne_none_iff_exists'.1 c4.2;rw [ah c4.1] at cd;obtain ⟨_,y,hy,_,_⟩:=vC k rfl;have PN:=nz a b A B ND z D M S O hD (aZ y (mG hy));simp only [hy] at cd;refine cD Jh aa5 ?_;refine ⟨_,⟨cp _,aF hy⟩,?_⟩;refine cD Jh PN ?_;refine br ?_ ?_<;>intro c5
      ·have c5:ld D x<=ld D y:=by simpa [lastG,pickB,oz] using c5
       exact ⟨kZ a b A B ND z D M S O ⟨ag,ba,lo,hi,most,af,es⟩ but out2 ((i:Nat) - 1),(aq 2 rfl (gp hw (congrArg oz ((cd.trans (ai c5)).symm))) rfl rfl rfl (wB2 hw (congrArg oz ((cd.trans (ai c5)).symm)))),es.length - (c + 1),by omega,hend out2 rfl⟩
      ·have c5:¬ ld D x<=ld D y:=by simpa [lastG,pickB,oz] using c5
       exact ⟨kZ a b A B ND z D M S O ⟨ag,ba,lo,hi,most,af,es⟩ but out2 ((i:Nat) - 1),(aq 2 rfl (gp hw (congrArg oz ((cd.trans (ah c5)).symm))) rfl rfl rfl (wB2 hw (congrArg oz ((cd.trans (ah c5)).symm)))),es.length - (c + 1),by omega,hend out2 rfl⟩
     ·have c4:0<=but∨out=none:=by
       cases out with
       | none=>exact .inr rfl
       | some k=>exact .inl (Decidable.byContradiction fun h=>by
         have h2:decide (0<=but)=false:=decide_eq_false h;have h3:decide (oz (some k) < 0)=false:=decide_eq_false (show ¬ ((k:Nat):Int) < 0 by omega);simp only [lastG,ay,h2,h3] at c4
         cases c4)
      have Qt:out2=some i:=by
       by_cases hb:0<=but
       ·rw [cd,ai hb]
       ·rw [c4.resolve_left hb,ah hb] at cd;exact cd
      exact ⟨kZ a b A B ND z D M S O ⟨ag,ba,lo,hi,most,af,es⟩ but out2 ((i:Nat) - 1),(aq 2 rfl (gp hw (congrArg oz (Qt.symm))) rfl rfl rfl (wB2 hw (congrArg oz (Qt.symm)))),es.length - (c + 1),by omega,hend out2 rfl⟩
   ·have c2:x.bare=true:=by simpa [lastG] using c2
    rw [ah (fun h=>h.elim c1 (fun h=>by rw [hbt c2] at h;cases h))] at cd;refine dI ?_;refine br ?_ ?_<;>intro c4
    ·have c4:¬ 0<=but/\out≠none:=by
      cases out with
      | none=>simp [lastG,ay,oz] at c4
      | some k=>exact ⟨fun h=>by simp [lastG,pickB,h] at c4,by simp⟩
     obtain ⟨k,rfl⟩:=Option.ne_none_iff_exists'.1 c4.2;rw [ah c4.1] at cd;obtain ⟨_,y,hy,_,_⟩:=vC k rfl;have PN:=nz a b A B ND z D M S O hD (aZ y (mG hy));simp only [hy] at cd;refine cD Jh aa5 ?_;refine ⟨_,⟨cp _,aF hy⟩,?_⟩;refine cD Jh PN ?_;refine br ?_ ?_<;>intro c5
     ·have c5:ld D x<=ld D y:=by simpa [lastG,pickB,oz] using c5
      exact ⟨kZ a b A B ND z D M S O ⟨ag,ba,lo,hi,most,af,es⟩ but out2 ((i:Nat) - 1),(aq 2 rfl (gp hw (congrArg oz ((cd.trans (ai c5)).symm))) rfl rfl rfl (wB2 hw (congrArg oz ((cd.trans (ai c5)).symm)))),es.length - (c + 1),by omega,hend out2 rfl⟩
     ·have c5:¬ ld D x<=ld D y:=by simpa [lastG,pickB,oz] using c5
      exact ⟨kZ a b A B ND z D M S O ⟨ag,ba,lo,hi,most,af,es⟩ but out2 ((i:Nat) - 1),(aq 2 rfl (gp hw (congrArg oz ((cd.trans (ah c5)).symm))) rfl rfl rfl (wB2 hw (congrArg oz ((cd.trans (ah c5)).symm)))),es.length - (c + 1),by omega,hend out2 rfl⟩
    ·have c4:0<=but∨out=none:=by
      cases out with
      | none=>exact .inr rfl
      | some k=>exact .inl (Decidable.byContradiction fun h=>by
         have h2:decide (0<=but)=false:=decide_eq_false h;have h3:decide (oz (some k) < 0)=false:=decide_eq_false (show ¬ ((k:Nat):Int) < 0 by omega);simp only [lastG,ay,h2,h3] at c4
         cases c4)
     have Qt:out2=some i:=by
      by_cases hb:0<=but
      ·rw [cd,ai hb]
      ·rw [c4.resolve_left hb,ah hb] at cd;exact cd
     exact ⟨kZ a b A B ND z D M S O ⟨ag,ba,lo,hi,most,af,es⟩ but out2 ((i:Nat) - 1),(aq 2 rfl (gp hw (congrArg oz (Qt.symm))) rfl rfl rfl (wB2 hw (congrArg oz (Qt.symm)))),es.length - (c + 1),by omega,hend out2 rfl⟩
  ·have c1:(i:Int)=but:=Decidable.byContradiction fun h=>by simp [lastG,h] at c1
   rw [ai (.inl c1)] at cd;exact ⟨kZ a b A B ND z D M S O ⟨ag,ba,lo,hi,most,af,es⟩ but out2 ((i:Nat) - 1),(aq 2 rfl (gp hw (congrArg oz (cd.symm))) rfl rfl rfl (wB2 hw (congrArg oz (cd.symm)))),es.length - (c + 1),by omega,hend out2 rfl⟩
 ·have hce:c=es.length:=by have:=hL;simp at this;omega
  subst hce;exact (rfl:_=_)
end
def nH (S D:List Nat) (l:List Pl) (c:Nat):Nat:=if l.all (iQ D)=true then bf (c + totF S l) else 0
theorem IJ {S D:List Nat} {q:Pl} {l:List Pl} {c:Nat} (hc:1<=c):nH S D (q :: l) c=if iQ D q=true/\nH S D l c≠0 then bf (nH S D l c + zD S q) else 0:=by
 unfold nH;rw [List.all_cons,totF]
 cases iQ D q with
 | false=>simp
 | true=>
  cases l.all (iQ D) with
  | false=>simp
  | true=>
   have h:bf (c + totF S l)≠0:=by unfold bf;omega
   simp only [Bool.and_true,if_true,true_and,ne_eq,h,not_false_eq_true];rw [uy];congr 1;omega
theorem Gk (S D:List Nat) (l:List Pl) (c:Nat):nH S D l c<=4097:=by
 unfold nH;split
 ·exact fH _
 ·omega
section
variable (a b:Nat) (A B:List (List DV)) (ND:List Nd) (z:Int) (D M S O:List Nat) {L:Nat}
abbrev Uj (d:Nd) (p:List dm) (k:Int) (m e:Nat):St:=
 ⟨[(2,⟨[],.sl 3 (aT p) none⟩),(4,⟨[],.loc 0 0⟩),(9,⟨[],.loc 1 0⟩),(10,⟨[],.v (.int .i64 k)⟩),(12,⟨[],.v (.int .i64 m)⟩),(13,⟨[],.v (.int .i64 e)⟩)],[uA a b A B ND z D M S O,gG d],[]⟩
abbrev Uk (d:Nd) (k:Int) (m e:Nat):St:=
 ⟨[(4,⟨[],.loc 0 0⟩),(9,⟨[],.loc 1 0⟩),(10,⟨[],.v (.int .i64 k)⟩),(12,⟨[],.v (.int .i64 m)⟩),(14,⟨[],.v (.int .i64 e)⟩)],[uA a b A B ND z D M S O,gG d],[]⟩
set_option maxHeartbeats 4000000 in
theorem vm {f:Nat->Nat->Bool} {m:Nat} (bw:∀ n∈ND,cz L ND.length n) (bT:∀ n∈ND,n.ap.length<=1099511627776) (hS:S.length=ND.length) (hz:∀ x∈S,x<=4097) (hDS:∀ j,S.getD j 0=0↔D.getD j 0=0) {c:Nat} (hc:1<=c) (lF:c<=1099511627776) :
  ∀ (p:List dm),p.length<=1099511627776->(∀ s∈p,s.s.size<=4611686018427387904)->∀ (i a':Nat) {r:Nat × Nat},i < ND.length->walkV ND f m p i a'=some r ->
   aV prog 73 [.agg (uA a b A B ND z D M S O),.v (.int .i64 i),.sl 3 (aT p) none,.v (.int .i64 c)] (.v (.int .i64 (nH S D (stpsV ND p i) c:Nat)))
 | [],_,_,i,a',r,hi,_=>by
  have h:=ig c;rw [show nH S D (stpsV ND [] i) c=bf c by unfold nH;simp [stpsV,totF]];refine eG 116 [.tmp 8] func73 rfl ntmps73 rfl fun _ _ _ _=>?_;refine cP xm h ?_;exact (rfl:_=_)
 | s :: p,hp,hs,i,a',r,hi,hw=>by
  obtain ⟨d,k,x,hd,hk,hx,sX⟩:=ny hw;have hm:=mG hd;have hN:=bw d hm;have ef:=bT d hm;have zB:=oQ d s ef (hs s (by simp));rw [hk] at zB;obtain ⟨Kk,Xj⟩:∃ K:Int,K=(k:Int):=⟨_,rfl⟩;have zB:aV prog 138 [.agg (gG d),.agg (j3 s)] (.v (.int .i64 Kk)):=by rw [Xj];exact zB
  have Rz:¬ Kk < 0:=by omega
  have hKt:Kk.toNat=k:=by omega
  have hq:uz ND ⟨i,d,k,s⟩:=⟨hd,hk⟩;obtain ⟨k1,k5,k2,k3,k4,Wc⟩:=lD hq;have WC:=fun c=>Dx bw hq hx c;obtain ⟨e',qj,hB',_⟩:=gh hk;rw [hx] at qj;cases qj;have j7:=kX hN (mG hx) hB';obtain ⟨t,ht,hY⟩:=(hN.fJ x (mG hx)).to1 j7;have GI:x.to.toNat=t:=by rw [ht,dq]
  rw [GI] at sX;have zb:=PH s p;have DG:=dW (l:=s :: p) (e:=0) rfl;have PI:=eu (s :: p);rw [List.length_cons] at PI hp;have ih:=vm bw bT hS hz hDS hc lF p (by omega) (fun y hy=>hs y (by simp [hy])) t _ hY sX;rw [nv hd hk hx,GI,IJ hc];have ez:=Gk S D (stpsV ND p t) c;generalize nH S D (stpsV ND p t) c=R at ih ez ⊢;have Lk:iQ D ⟨i,d,k,s⟩=(decide (s.k≠3) && (decide (s.k≠1) || nO D k d.ap 0)):=rfl;have e2:=@Kf S ⟨i,d,k,s⟩;have e1:=@PJ S ⟨i,d,k,s⟩;have e0:=@PK S ⟨i,d,k,s⟩;generalize iQ D ⟨i,d,k,s⟩=Al at Lk ⊢;generalize zD S ⟨i,d,k,s⟩=Ex at e2 e1 e0 ⊢;have aZ:=hN.fJ;have cY:=hN.bare;have oR:=hN.uY;obtain ⟨ag,ba,lo,eo,most,af,es⟩:=d;obtain ⟨sk,sn,ss⟩:=s;simp only at k1 k5 k2 k3 k4 Wc WC Lk e2 e1 e0 aZ cY oR ef hx;have bJ:=aW es;refine eG 116 [.tmp 8] func73 rfl ntmps73 rfl fun _ _ _ _=>?_;refine iX (bB hd) ?_;refine dI ?_;refine ⟨_,⟨by omega,DG⟩,?_⟩;refine cD Jf zB ?_;refine br ?_ ?_<;>intro g
  rotate_left
  ·exfalso;have g:Kk < 0:=by simpa [lastG] using g
   omega
  refine ⟨_,⟨by omega,DG⟩,?_⟩;refine br ?_ ?_<;>intro c3
  ·have c3:sk=3:=by simpa [lastG,ay,Rz] using c3
   rw [ah (fun h=>by rw [Lk,c3] at h;simp at h)];exact (rfl:_=_)
  have c3:¬ sk=3:=by
   intro h;rw [h] at c3;simp [lastG,pickB] at c3
  refine dI ?_;refine ⟨_,⟨by omega,by rw [hKt];exact aF hx⟩,?_⟩;refine ⟨⟨by omega,by omega,by omega⟩,?_⟩;rw [<- ht] at ih;refine cD X3 ih ?_ (gU zb);refine br ?_ ?_<;>intro c0
  ·have c0:R=0:=by
    have:((R:Nat):Int)=0:=sU c0;omega
   rw [ah (fun h=>h.2 c0)];exact (rfl:_=_)
  have c0:R≠0:=by
   intro h;rw [h] at c0;simp at c0
  have hw1:=wrapN (a:=1) (b:=R) (by omega) (by omega);refine cP xm (ig (1 + R)) ?_ (gU hw1)
  obtain ⟨v,hv,sP⟩:∃ v:Nat,v<=4097/\(sk=2->(cJ es)[0]? = some (CU x)/\S[x.to.toNat]? = some v/\Ex=1 + sn.toNat * v):=by
   have hg:S[t]? = some S[t]:=gE (by omega);refine ⟨S[t],hz _ (List.getElem_mem _),fun h2=>?_⟩;obtain ⟨c5,_⟩:=k2 h2;obtain ⟨gT,_,ht0⟩:=WC (.inl c5);refine ⟨aF (by rw [gT];rfl),by rw [GI];exact hg,?_⟩;rw [e2 h2,ht0,GI,aH,hg];all_goals rfl
  have hnn:sk≠2->sn.toNat=0:=fun h=>by omega
  have hn5:sn.toNat<=1024:=by
   by_cases h:sk=2
   ·have:=k2 h;have:=oR this.1;omega
   ·have:=hnn h;omega
  refine bA (fun j st=>∃ e:Nat,st=Uj a b A B ND z D M S O ⟨ag,ba,lo,eo,most,af,es⟩ (⟨sk,sn,ss⟩ :: p) Kk (bf (1 + R + e * v)) e/\e<=sn.toNat/\j=sn.toNat - e) sn.toNat (Uj a b A B ND z D M S O ⟨ag,ba,lo,eo,most,af,es⟩ (⟨sk,sn,ss⟩ :: p) Kk (bf (1 + R)) 0) (aq 2 rfl wA rfl rfl rfl wB) ⟨0,by rw [Nat.zero_mul];rfl,by omega,by omega⟩ ?_;rintro j st ⟨e,rfl,he,rfl⟩;refine ⟨_,⟨by omega,DG⟩,?_⟩;refine br ?_ ?_<;>intro hL
  ·have au:e < sn.toNat:=by
    have:(e:Int) < sn:=sU hL;omega
   have hs2:sk=2:=Decidable.byContradiction fun h=>by have:=hnn h;omega
   obtain ⟨zC,W2,_⟩:=sP hs2;have hcm:=fH (1 + R + e * v);have hw:=wrapN (a:=bf (1 + R + e * v)) (b:=v) (by omega) (by omega);have eU:bf (bf (1 + R + e * v) + v)=bf (1 + R + (e + 1) * v):=by rw [uy,Nat.add_mul,Nat.one_mul,Nat.add_assoc]
   refine dI ?_;refine ⟨_,⟨by omega,zC⟩,?_⟩;refine iX (aG W2) ?_;refine cD xm (ig (bf (1 + R + e * v) + v)) ?_ (gU hw);exact rE ⟨_,by omega,e + 1,rfl,by omega,rfl⟩ (aq 2 rfl (gp (aK au (by omega)) eU) rfl rfl rfl (wB2 (aK au (by omega)) eU))
  have aS:e=sn.toNat:=by
   have:¬ (e:Int) < sn:=sU hL;omega
  subst aS;by_cases c7:ag=7
  ·have hs1:sk=1:=by omega
   have du:sn.toNat=0:=hnn (by omega);rw [du,Nat.zero_mul,Nat.add_zero];have e1:=e1 hs1;refine lI (fun j st=>∃ e:Nat,st=Uk a b A B ND z D M S O ⟨ag,ba,lo,eo,most,af,es⟩ Kk (bf (1 + R + sumE S k (es.take e) 0)) e/\e<=es.length/\nO D k (es.take e) 0=true/\j=es.length - e) ⟨0,rfl,by omega,rfl,rfl⟩ (aq 2 rfl wA rfl rfl rfl wB) ?_;rintro j st ⟨e,rfl,he,nM,rfl⟩;refine br ?_ ?_<;>intro hL
   ·have au:e < es.length:=by
     have:=hL;simp [bJ,c7,aw] at this;exact this
    obtain ⟨y,hy⟩:=gX au
    have RS:y.bare=false:=by
     cases hb:y.bare with
     | false=>rfl
     | true=>have:=cY y (mG hy) hb;omega
    obtain ⟨u,hu,hul⟩:=(aZ y (mG hy)).to1 RS;obtain ⟨w,WX⟩:∃ w,S[u]? = some w:=⟨_,gE (by omega)⟩;have hwl:=hz w (mG WX);have gT:bZ S y=w:=by unfold bZ;rw [hu,dq,aH,WX];all_goals rfl
    have eU:=BT (sz:=S) (k:=k) hy;have Sq:=BW (D:=D) (k:=k) hy;refine br ?_ ?_<;>intro g
    ·have g:e=k:=by
      have:(e:Int)=Kk:=sU g;omega
     have sj:1 + R + sumE S k (es.take e) 0=1 + R + sumE S k (es.take (e + 1)) 0:=by rw [eU,ai g,Nat.add_zero]
     exact rE ⟨_,by omega,e + 1,rfl,by omega,by rw [Sq,nM];simp [g],rfl⟩ (aq 2 rfl (gp (aK au (by omega)) (congrArg (fun n:Nat=>((bf n:Nat):Int)) sj)) rfl rfl rfl (wB2 (aK au (by omega)) (congrArg (fun n:Nat=>((bf n:Nat):Int)) sj)))
    have g:¬ e=k:=by
     intro h;rw [h,<- Xj] at g;simp at g
    refine dI ?_;refine iX (aF hy) ?_;refine ⟨_,⟨by omega,by rw [hu];exact aG WX⟩,?_⟩;refine br ?_ ?_<;>intro g0
    ·have g0:w=0:=by
      have:((w:Nat):Int)=0:=sU g0;omega
     have vW:bZ D y=0:=(hDS y.to.toNat).1 (by rw [show S.getD y.to.toNat 0=bZ S y from rfl,gT,g0])
     rw [ah (fun h=>by
      have h:=h.1;rw [Lk,aQ] at h;have h:=h.2;simp [hs1] at h
      exact kY.1 h e y hy (by omega) vW)]
     exact (rfl:_=_)
    have g0:w≠0:=by
     intro h;rw [h] at g0;simp at g0
    have vW:bZ D y≠0:=fun h=>g0 (by rw [<- gT];exact (hDS y.to.toNat).2 h);have hcm:=fH (1 + R + sumE S k (es.take e) 0);have hw:=wrapN (a:=bf (1 + R + sumE S k (es.take e) 0)) (b:=w) (by omega) (by omega);have sj:bf (bf (1 + R + sumE S k (es.take e) 0) + w)=bf (1 + R + sumE S k (es.take (e + 1)) 0):=by rw [uy,eU,ah g,gT,Nat.add_assoc]
    refine dI ?_;refine iX (aF hy) ?_;refine ⟨_,⟨by omega,by rw [hu];exact aG WX⟩,?_⟩;refine cD xm (ig (bf (1 + R + sumE S k (es.take e) 0) + w)) ?_ (gU hw);exact rE ⟨_,by omega,e + 1,rfl,by omega,by rw [Sq,nM];simp [vW],rfl⟩ (aq 2 rfl (gp (aK au (by omega)) sj) rfl rfl rfl (wB2 (aK au (by omega)) sj))
   ·have aS:e=es.length:=by
     have:=hL;simp [bJ,c7,aw] at this;omega
    subst aS;rw [List.take_length] at nM ⊢;have hAt:Al=true:=by rw [Lk];simp [hs1,nM]
    rw [ai ⟨hAt,c0⟩,e1,show R + (1 + sumE S k es 0)=1 + R + sumE S k es 0 by omega];exact (rfl:_=_)
  ·have hs1:¬ sk=1:=by omega
   have hAt:Al=true:=by rw [Lk];simp [hs1,c3]
   have WW:R + Ex=1 + R + sn.toNat * v:=by
    by_cases h2:sk=2
    ·have:=(sP h2).2.2;omega
    ·rw [e0 h2 hs1,hnn h2,Nat.zero_mul];omega
   rw [ai ⟨hAt,c0⟩,WW];refine lI (fun j st=>st=Uk a b A B ND z D M S O ⟨ag,ba,lo,eo,most,af,es⟩ Kk (bf (1 + R + sn.toNat * v)) 0/\j=0) ⟨rfl,rfl⟩ (aq 2 rfl wA rfl rfl rfl wB) ?_;rintro j st ⟨rfl,rfl⟩;refine br ?_ ?_<;>intro hL
   ·exfalso;simp [c7,aw] at hL
   ·exact (rfl:_=_)
end
theorem zp {S:List Nat} (e:Ed):sumX S (-1) [e] 0 1=bf (1 + cw S e):=by simp [sumX]
theorem PO {es:List Ed} {k:Nat} {e:Ed} (h:es[k]? = some e):((cJ es).take (k + 1)).drop k=cJ [e]:=by
 have hl:=(gS h).1;unfold cJ;rw [<- List.map_take,<- List.map_drop,dJ h,List.drop_append_of_le_length (by rw [zLenT];omega),List.drop_of_length_le (by rw [zLenT];omega)];rfl
theorem PQ {es:List Ed} {c:Nat} {x:Ed} (h:es[c]? = some x) (hl:es.length<=1099511627776):DV.sl 10 (((cJ es).take (IntKind.i64.wrap ((c:Int) + 1)).toNat).drop (c:Int).toNat) none=DV.sl 10 (cJ [x]) none:=by
 have eK:=(gS h).1;rw [aK eK (by omega),dq,dq,PO h]
section
variable (a b:Nat) (A B:List (List DV)) (ND:List Nd) (z:Int) (D M S O:List Nat) (K:List Bool) {L:Nat}
theorem Gl {n:Nd} (hD:D.length=ND.length) (hS:S.length=ND.length) (hz:∀ z∈S,z<=4097) (hn:cz L ND.length n) (ef:n.ap.length<=1099511627776) (h8:n.ag=8->∃ c e,bG D n.ap=some c/\n.ap[c]? = some e) :
  aV prog 65 [.agg (uA a b A B ND z D M S O),.agg (gG n)] (.v (.int .i64 (sizeF S D n:Nat))):=by
 have Mf:=k0 a b A B ND z D M S O (-1) hD hn ef;rw [lE] at Mf;have DB:=nA a b A B ND z D M S O n.ap (-1) hS hz hn.fJ ef;have aZ:=hn.fJ;obtain ⟨ag,ba,lo,hi,most,af,es⟩:=n;simp only at aZ ef Mf DB h8;refine eG 27 [.tmp 4] func65 rfl ntmps65 rfl fun _ _ _ _=>?_;refine br ?_ ?_<;>intro c7
 ·have c7:ag=7:=sU c7;rw [show sizeF S D ⟨ag,ba,lo,hi,most,af,es⟩=sumX S (-1) es 0 1 by simp [sizeF,c7]];refine cP Ei DB ?_;exact (rfl:_=_)
 have c7:¬ ag=7:=sU c7;refine br ?_ ?_<;>intro c8
 ·have c8:ag=8:=sU c8;obtain ⟨c,x,hc,hx⟩:=h8 c8;rw [hc] at Mf;have hs1:=nA a b A B ND z D M S O [x] (-1) hS hz (fun e he=>by rw [List.mem_singleton.1 he];exact aZ x (mG hx)) (by simp);rw [zp] at hs1;rw [show sizeF S D ⟨ag,ba,lo,hi,most,af,es⟩=bf (1 + cw S x) by simp [sizeF,c8,hc,hx]];refine cP Eh Mf ?_;have eK:=(gS hx).1;have hw:=aK eK (by omega);have Ar:=PQ hx ef;refine dI ?_;refine ⟨⟨cp _,by show (c:Int)<=IntKind.i64.wrap ((c:Int) + 1);rw [hw];omega,by show IntKind.i64.wrap ((c:Int) + 1)<=((cJ es).length:Int);rw [hw,aW];omega⟩,?_⟩;refine cD Ei hs1 ?_ (gU Ar);exact (rfl:_=_)
 ·have c8:¬ ag=8:=sU c8;rw [show sizeF S D ⟨ag,ba,lo,hi,most,af,es⟩=1 by simp [sizeF,c7,c8]];exact (rfl:_=_)
abbrev WD (n:Nd) (e:Nat):St:=
 ⟨[(2,⟨[],.loc 0 0⟩),(3,⟨[],.loc 1 0⟩),(5,⟨[],.v (.int .i64 e)⟩)],[uA a b A B ND z D M S O,gG n],[]⟩
theorem su {n:Nd} (hM:M.length=ND.length) (hK:∀ j,j < ND.length->K.getD j false=decide (1 < M.getD j 0)) (hn:cz L ND.length n) (h7:n.ag=7) (ef:n.ap.length<=1099511627776) :
  aV prog 84 [.agg (uA a b A B ND z D M S O),.agg (gG n)] (.v (.int .i64 (oz (vJ K n.ap)))):=by
 have aZ:=hn.fJ;have cY:=hn.bare;obtain ⟨ag,ba,lo,hi,most,af,es⟩:=n;simp only at aZ ef h7 cY;have bJ:=aW es;refine eG 25 [.tmp 4] func84 rfl ntmps84 rfl fun _ _ _ _=>?_;refine lI (fun j st=>∃ e:Nat,st=WD a b A B ND z D M S O ⟨ag,ba,lo,hi,most,af,es⟩ e/\e<=es.length/\(∀ k,k < e->FI K es k=false)/\j=es.length - e) ⟨0,rfl,by omega,fun _ h=>by omega,rfl⟩ (aq 2 rfl wA rfl rfl rfl wB) ?_;rintro j st ⟨e,rfl,he,hB,rfl⟩;refine br ?_ ?_<;>intro hL
 ·have au:e < es.length:=sV bJ hL;obtain ⟨x,hx⟩:=gX au
  have j7:x.bare=false:=by
   cases hb:x.bare with
   | false=>rfl
   | true=>have:=cY x (mG hx) hb;omega
  obtain ⟨k,hk,ej⟩:=(aZ x (mG hx)).to1 j7;obtain ⟨v,hv⟩:∃ z,M[k]? = some z:=⟨_,gE (by omega)⟩;have hP:FI K es e=decide (1 < v):=by unfold FI;rw [hx];simp only;rw [hk,dq,hK k ej,aH,hv];all_goals rfl
  refine jH mo (by decide +kernel) ?_;refine ⟨_,⟨cp _,aF hx⟩,?_⟩;refine ⟨_,⟨by rw [hk];exact cp _,by rw [hk];exact aG hv⟩,?_⟩;refine br ?_ ?_<;>intro g
  ·have g:(1:Int) < v:=sU g;rw [show vJ K es=some e from bI au (hP.trans (decide_eq_true (by omega))) hB];exact (rfl:_=_)
  ·have g:¬ (1:Int) < v:=sU g
   exact rE ⟨_,by omega,e + 1,rfl,by omega,fun k hk=>by
    rcases eT hk with h1 | rfl
    ·exact hB k h1
    ·exact hP.trans (decide_eq_false (by omega)),rfl⟩ (aq 2 rfl (nF (aK au (by omega))) rfl rfl rfl (dy (aK au (by omega))))
 ·have aS:e=es.length:=sW bJ hL;subst aS;rw [show vJ K es=none from bU hB];exact (rfl:_=_)
theorem DC {n:Nd} (hD:D.length=ND.length) (hM:M.length=ND.length) (hK:∀ j,j < ND.length->K.getD j false=decide (1 < M.getD j 0)) (hS:S.length=ND.length) (hO:O.length=ND.length) (hz:∀ z∈S,z<=4097) (hoz:∀ z∈O,z<=4097) (hn:cz L ND.length n) (ef:n.ap.length<=1099511627776) (hc8:n.ag=8->∃ c,bG D n.ap=some c) (zh:FP D K n) :
  aV prog 66 [.agg (uA a b A B ND z D M S O),.agg (gG n)] (.v (.int .i64 (othE O (ed S D K n):Nat))):=by
 have Mf:=k0 a b A B ND z D M S O (-1) hD hn ef;have zq:=fun b'=>k0 a b A B ND z D M S O b' hD hn ef;rw [lE] at Mf;have Cm:=fun h=>su a b A B ND z D M S O K hM hK hn h ef;have DB:=fun c=>nA a b A B ND z D M S O n.ap c hS hz hn.fJ ef;have aZ:=hn.fJ;have hone:=hn.one;have jK:=hn.k1;have Fx:=hn.k8;have h7:=zh.c7;have h8:=zh.c8;obtain ⟨ag,ba,lo,hi,most,af,es⟩:=n;simp only at aZ ef Mf zq DB h7 h8 Cm hone jK Fx hc8
 have nP:∀ {x:Ed},x∈es->x.bare=false->∃ z,(dInts O)[x.to.toNat]? = some [.v (.int .i64 (z:Nat))]/\0<=x.to/\O.getD x.to.toNat 0=z/\z<=4097:=fun {x} hx hb=>by
  obtain ⟨k,hk,ej⟩:=(aZ x hx).to1 hb;have hg:O[k]? = some O[k]:=gE (by omega);refine ⟨O[k],by rw [hk];exact aG hg,by omega,by rw [hk,dq,aH,hg];rfl,hoz _ (mG hg)⟩
 have hE:∀ a j z,O.getD j 0=z->othE O (a,some j)=if z=0 then 0 else bf (a + z):=fun a j z h=>by unfold othE;simp only [h]
 refine eG 70 [.tmp 4] func66 rfl ntmps66 rfl fun _ _ _ _=>?_;refine br ?_ ?_<;>intro c5
 ·have c5:ag < 5:=sU c5;rw [show ed S D K ⟨ag,ba,lo,hi,most,af,es⟩=(1,none) by unfold ed;simp only;rw [ah (by omega),ah (by omega),ah (by omega)]];exact (rfl:_=_)
 have c5:¬ ag < 5:=sU c5;refine br ?_ ?_<;>intro c6
 ·have c6:ag < 7:=sU c6;obtain ⟨x,hx,_⟩:=hone (by omega);subst hx;have DB:=DB (-1);rw [zp] at DB;rw [show ed S D K ⟨ag,ba,lo,hi,most,af,[x]⟩=(bf (1 + cw S x),none) by unfold ed;simp only;rw [ai (by omega)];rfl];refine cP Ei DB ?_;exact (rfl:_=_)
 have c6:¬ ag < 7:=sU c6;refine cP Eh Mf ?_;refine br ?_ ?_<;>intro c7
 ·have c7:ag=7:=sU c7;subst c7;obtain ⟨c,x,hc,hx,j7⟩:=h7 rfl;have Cm:=Cm rfl;rw [hc] at Cm;have nQ:=lB (sz:=S) (c:=c) (es:=es) (i:=0) (n:=1) (by omega);have hF:ed S D K ⟨7,ba,lo,hi,most,af,es⟩=(sumX S c es 0 1,some x.to.toNat):=by simp [ed,hc,hx]
  obtain ⟨z,hz1,HK,Me,hz4⟩:=nP (mG hx) j7;rw [hF,hE _ _ _ Me];have aa7:=DB (c:Int);refine cP X8 Cm ?_;refine jH mo (by decide +kernel) ?_;refine ⟨_,⟨cp _,aF hx⟩,?_⟩;refine ⟨_,⟨HK,hz1⟩,?_⟩;refine br ?_ ?_<;>intro g
  ·have g:z=0:=sU g;rw [ai g];exact (rfl:_=_)
  ·have g:¬ z=0:=sU g;rw [ah g];refine cP Ei aa7 ?_;refine cP xm (ig (sumX S c es 0 1 + z)) ?_ (by repeat' (first | exact rfl | exact trivial | exact Or.inr (Or.inl ⟨_,rfl⟩) | exact Or.inr ⟨_,rfl⟩ | exact Or.inl ⟨rfl,rfl⟩ | exact Or.inl rfl | refine Or.inr ⟨_,_,rfl,Nat.zero_le _,rfl,?_⟩ | refine ⟨_,_,rfl,?_,?_⟩ | refine ⟨_,rfl,?_⟩ | exact congrArg (fun z=>DV.v (.int .i64 z)) (wrapN (by omega) (by omega))| refine Or.inr (Or.inr (Or.inr ⟨_,_,rfl,?_⟩)) | exact Or.inl rfl | refine Or.inr ?_));exact (rfl:_=_)
 ·have c7:¬ ag=7:=sU c7;have c8:ag=8:=by omega
  subst c8;obtain ⟨c,hc⟩:=hc8 rfl;have zq:=zq (c:Int);rw [BZ hc] at zq;rw [hc];refine cP Eh zq ?_
  cases ht:iZ D es with
  | some k=>
   obtain ⟨x,hx,_⟩:=mi ht;have hs1:=nA a b A B ND z D M S O [x] (-1) hS hz (fun e he=>by rw [List.mem_singleton.1 he];exact aZ x (mG hx)) (by simp);rw [zp] at hs1;rw [show ed S D K ⟨8,ba,lo,hi,most,af,es⟩=(bf (1 + cw S x),none) by simp [ed,ht,hx],show othE O (bf (1 + cw S x),none)=bf (1 + cw S x) from rfl];have eK:=(gS hx).1;have hw:=aK eK (by omega);have Ar:=PQ hx ef;refine dI ?_;refine ⟨⟨cp _,by show (k:Int)<=IntKind.i64.wrap ((k:Int) + 1);rw [hw];omega,by show IntKind.i64.wrap ((k:Int) + 1)<=((cJ es).length:Int);rw [hw,aW];omega⟩,?_⟩;refine cD Ei hs1 ?_ (gU Ar);exact (rfl:_=_)
  | none=>
   obtain ⟨c',x,Af,hx,j7⟩:=h8 rfl ht;rw [hc] at Af;cases Af;obtain ⟨z,hz1,HK,Me,hz4⟩:=nP (mG hx) j7;rw [show ed S D K ⟨8,ba,lo,hi,most,af,es⟩=(1,some x.to.toNat) by simp [ed,ht,hc,hx],hE _ _ _ Me];refine jH mo (by decide +kernel) ?_;refine ⟨_,⟨cp _,aF hx⟩,?_⟩;refine ⟨_,⟨HK,hz1⟩,?_⟩;refine br ?_ ?_<;>intro g
   ·have g:z=0:=sU g;rw [ai g];exact (rfl:_=_)
   ·have g:¬ z=0:=sU g;rw [ah g];refine cP xm (ig (1 + z)) ?_ (by repeat' (first | exact rfl | exact trivial | exact Or.inr (Or.inl ⟨_,rfl⟩) | exact Or.inr ⟨_,rfl⟩ | exact Or.inl ⟨rfl,rfl⟩ | exact Or.inl rfl | refine Or.inr ⟨_,_,rfl,Nat.zero_le _,rfl,?_⟩ | refine ⟨_,_,rfl,?_,?_⟩ | refine ⟨_,rfl,?_⟩ | exact congrArg (fun z=>DV.v (.int .i64 z)) (wrapN (a:=1) (by omega) (by omega))| refine Or.inr (Or.inr (Or.inr ⟨_,_,rfl,?_⟩)) | exact Or.inl rfl | refine Or.inr ?_));exact (rfl:_=_)
end
end Go.Proofs.YtadhpeooehkklaaGreat
set_option maxRecDepth 100000
namespace Go.Proofs.YtadhpeooehkklaaGreat
open Go Go.RowKit
namespace Dv
section
variable {X:Ctx} {st:St}
def renAll:List (Nat × Nat)->St->St
 | [],S=>S
 | p :: l,S=>ek p.1 p.2 (renAll l S)
theorem LR (i j:Nat) (S:St):(ek i j S).bx.length=S.bx.length:=by
 show (swL i j (renO (swp i j) S.bx)).length=_;unfold swL;split
 ·rw [List.length_set,List.length_set,de]
 ·exact de _ _
theorem qP (S:St):∀ l,(renAll l S).bx.length=S.bx.length
 | []=>rfl
 | p :: l=>by rw [renAll,LR,qP S l]
theorem Kg (hX:X.bt=[]) {S:St} {a:Act} {w:World}:∀ {l:List (Nat × Nat)} {E:En},Rel X E (renAll l S) a w->(l.all fun p=>Nat.ble X.n0 p.1 && Nat.ble X.n0 p.2 && Nat.blt p.1 S.bx.length && Nat.blt p.2 S.bx.length)=true->∃ E2,Rel X E2 S a w
 | [],E,h,_=>⟨E,h⟩
 | p :: l,E,h,hc=>by
  simp only [List.all_cons,aQ,Nat.ble_eq,Nat.blt_eq] at hc;obtain ⟨⟨⟨⟨h1,h2⟩,h3⟩,h4⟩,h5⟩:=hc;obtain ⟨E2,h6⟩:=vV hX h h1 h2 (by rw [qP];exact h3) (by rw [qP];exact h4);exact Kg hX h6 (sU h5)
theorem Sr {id:Nat} {ops:Array Oper} {k:List It} (W:Nat->Bool) (T:kW) (Ls:List (List (Nat × Nat))) (hm:X.P.follows .mixedOrders=true) (hc:(LG ops && Dp ops W && chkA ops T (List.range ops.size) none)=true) (S:St)
  (h:goA X ⟨ops,W,[.sx fun s=>s=S∨∃ l,l∈Ls/\dg s (renAll l S)],st,none⟩ T true st.sl st) (hL:(Ls.all fun l=>l.all fun p=>Nat.ble X.n0 p.1 && Nat.ble X.n0 p.2 && Nat.blt p.1 S.bx.length && Nat.blt p.2 S.bx.length)=true) (hk:go X 4000 k S) (hX:X.bt=[]:=by exact rfl):lS X id ops k st:=by
 intro E a w hr;have iA:=jJ hr;simp only [aQ] at hc;obtain ⟨⟨hN,hP⟩,hT⟩:=hc;simp only [LG,aQ,List.all_eq_true,List.mem_range] at hN;have hs:=kJ iA (ops:=ops) (W:=W) (k:=[.sx fun s=>s=S∨∃ l,l∈Ls/\dg s (renAll l S)]);have cx:=BM (D:=⟨⟨ops,W,[.sx fun s=>s=S∨∃ l,l∈Ls/\dg s (renAll l S)],st,none⟩,E,w.drew⟩) iA.env.em rfl T _ _ hT true st.sl st h E a w.drew hs;refine wp_region_any hm ?_;refine FU (C:=CC E st.bx w.drew) (Q:=kq X [.sx fun s=>s=S∨∃ l,l∈Ls/\dg s (renAll l S)] .normal) (Region.noSelect_spec hN.1) hP (fun i o ho e he hb=>?_) (fun a w hq=>?_) ops.size (Array.replicate ops.size false) (List.range ops.size) a _ (by simp) ?_ List.nodup_range ?_ (by simp) ⟨T,hT,cx⟩
 ·have h1:=hN.2 i (Array.getElem?_eq_some_iff.1 ho).1;rw [ho] at h1;have h2:=List.all_eq_true.1 h1 e (sU he);rw [hb] at h2;simpa using h2
 ·obtain ⟨qS,E1,cj,hJ⟩:=hq;rcases hJ with rfl | ⟨l,hl,hJ⟩
  ·exact go_sound 4000 _ _ hk E1 a w cj
  ·obtain ⟨E2,n5⟩:=Kg hX (n7 cj hJ) (List.all_eq_true.1 hL l hl);exact go_sound 4000 _ _ hk E2 a w n5
 ·intro i;simp only [List.mem_range];constructor
  ·intro hi;exact ⟨hi,by simp [hi]⟩
  ·intro hi;exact hi.1
 ·intro k o ho hk;exact (hk (List.mem_range.2 (Array.getElem?_eq_some_iff.1 ho).1)).elim
theorem PR {id:Nat} {ops:Array Oper} {k:List It} (T:kW) (Ls:List (List (Nat × Nat))) (hm:X.P.follows .mixedOrders=true) (hc:(LG ops && Dp ops (MI ops) && chkA ops T (List.range ops.size) none)=true) (S:St)
  (h:goA X ⟨ops,MI ops,[.sx fun s=>s=S∨∃ l,l∈Ls/\dg s (renAll l S)],st,none⟩ T true st.sl st) (hL:(Ls.all fun l=>l.all fun p=>Nat.ble X.n0 p.1 && Nat.ble X.n0 p.2 && Nat.blt p.1 S.bx.length && Nat.blt p.2 S.bx.length)=true) (hk:go X 4000 k S) (hX:X.bt=[]:=by exact rfl):lS X id ops k st:=
 Sr (MI ops) T Ls hm hc S h hL hk hX
end
end Dv
end Go.Proofs.YtadhpeooehkklaaGreat
set_option maxRecDepth 100000
namespace Go.Proofs.YtadhpeooehkklaaGreat
open Go Go.RowKit Dv Go.Proofs.Tryz
theorem j8 {a b c d e a' b' c' d' e':List DV} (h1:a=a') (h2:b=b') (h3:c=c') (h4:d=d') (h5:e=e') : [a,b,c,d,e]=[a',b',c',d',e']:=by rw [h1,h2,h3,h4,h5]
theorem iD (f:Nat->Nat) (n:Nat):(List.replicate n (vL [Value.int .i64 0])).flatten=renL f (List.replicate n (vL [Value.int .i64 0])).flatten:=(sg f n).symm
theorem my (f g:Nat->Nat) (n:Nat):(List.replicate n (vL [Value.int .i64 0])).flatten=renL f (renL g (List.replicate n (vL [Value.int .i64 0])).flatten):=by rw [sg,sg]
section
variable (a b:Nat) (A B:List (List DV)) (ND:List Nd) (z:Int)
abbrev mkW (D M:List Nat):List DV:=[.sl a A none,.sl b B none,.sl 7 (bD ND) none,.v (.int .i64 z),.sl 1 (dInts D) none,.sl 1 (dInts M) none,.ms 2 1 0 (bD ND).length (bD ND).length,.ms 3 1 0 (bD ND).length (bD ND).length]
abbrev z54:List DV:=[.v (.slice none 0 0),.v (.slice none 0 0),.v (.slice none 0 0),.v (.int .i64 0),.v (.slice none 0 0),.v (.slice none 0 0),.v (.slice none 0 0),.v (.slice none 0 0)]
theorem PS {D M t o:List Nat} {bx:List (List DV)} (ht:t.length=ND.length) (ho:o.length=ND.length) (h1:bx[2]? = some (cN t)) (h2:bx[3]? = some (cN o)):CcL bx 0 0 0 (uA a b A B ND z D M t o) (mkW a b A B ND z D M):=
 ⟨_,_,rfl,ax,_,_,rfl,ax,_,_,rfl,ax,_,_,rfl,ax,_,_,rfl,ax,_,_,rfl,ax,_,_,rfl,yX (ht.trans (cy ND).symm) (Nat.zero_le _) h1,_,_,rfl,yX (ho.trans (cy ND).symm) (Nat.zero_le _) h2,rfl⟩
abbrev aa9 (D M:List Nat) (d:Nat) (t o:List Nat):St:=
 ⟨[(1,⟨[],.loc 0 0⟩),(2,⟨[],.loc 1 0⟩),(3,⟨[],.loc 4 0⟩),(4,⟨[],.v (.int .i64 d)⟩)],[wG a b A B ND z,z54,cN t,cN o,mkW a b A B ND z D M],[]⟩
abbrev aba (D M:List Nat) (d:Nat) (t o:List Nat) (e:Nat):St:=
 ⟨[(1,⟨[],.loc 0 0⟩),(2,⟨[],.loc 1 0⟩),(3,⟨[],.loc 4 0⟩),(4,⟨[],.v (.int .i64 d)⟩),(5,⟨[],.v (.int .i64 e)⟩)],[wG a b A B ND z,z54,cN t,cN o,mkW a b A B ND z D M],[]⟩
abbrev abb (D M:List Nat) (d:Nat) (t o:List Nat):St:=
 ⟨[(1,⟨[],.loc 0 0⟩),(2,⟨[],.loc 1 0⟩),(3,⟨[],.loc 4 0⟩),(6,⟨[],.v (.int .i64 d)⟩)],[wG a b A B ND z,z54,cN t,cN o,mkW a b A B ND z D M],[]⟩
abbrev abc (D M:List Nat) (d:Nat) (t o:List Nat) (e:Nat):St:=
 ⟨[(1,⟨[],.loc 0 0⟩),(2,⟨[],.loc 1 0⟩),(3,⟨[],.loc 4 0⟩),(6,⟨[],.v (.int .i64 d)⟩),(7,⟨[],.v (.int .i64 e)⟩)],[wG a b A B ND z,z54,cN t,cN o,mkW a b A B ND z D M],[]⟩
set_option maxHeartbeats 4000000 in
theorem Gm {L:Nat} (bw:∀ n∈ND,cz L ND.length n) (fo:ND.length<=1099511627776) (bT:∀ n∈ND,n.ap.length<=1099511627776) (du:∀ n∈ND,n.af.length<=1099511627776) :
  aV prog 23 [.agg (wG a b A B ND z)] (.agg (uA a b A B ND z (depN ND ND.length) (qL (depN ND ND.length) (fq ND (depN ND ND.length))) (kk ND (depN ND ND.length)) (Qi (kk ND (depN ND ND.length)) (depN ND ND.length) (fq ND (depN ND ND.length)) ND))):=by
 have lZ:=pW a b A B z bw fo bT;have jP:=FG a b A B z bw fo bT du;have bJ:=cy ND;generalize hD:depN ND ND.length=D at lZ jP ⊢;have hO:gv ND D:=hD ▸ eH ND
 have ff:∀ j,D.getD j 0=match ND[j]? with | none=>0 | some n=>bm n D:=fun j=>by
  have:=depN_get ND ND.length j;rw [depN_end,hD] at this;exact this
 have WE:=Pb (D:=D) bw ff;have hlM:(qL D (fq ND D)).length=ND.length:=by rw [Is];exact hO.len
 have Xf:=hO.len
 have Pv:∀ i n,ND[i]? = some n->(fq ND D).getD i false=true->FP D (fq ND D) n/\0 < D.getD i 0:=fun i n hn h=>by
  rw [<- oK,aH,List.getElem?_map,hn] at h;exact ⟨oN (bw n (mG hn)) h,by rw [hO.get i n hn];exact oL (bw n (mG hn)) h⟩
 generalize hM:qL D (fq ND D)=M at jP WE hlM ⊢;generalize hR:DV.agg (uA a b A B ND z D M (kk ND D) (Qi (kk ND D) D (fq ND D) ND))=R;refine eG 86 [.cell 2 71] func23 rfl ntmps23 rfl fun _ _ _ _=>?_;have h1:(0:Int)<=((bD ND).length:Int):=by omega
 have h2:(8:Int) * ((bD ND).length:Int)<=281474976710656:=by omega
 have h3:((bD ND).length:Int)<=4611686018427387904:=by omega
 apply PR (.op 0 (.op 1 (.op 3 (.op 5 (.op 6 (.op 7 (.op 9 (.op 10 (.op 11 (.ev 2 (.ev 4 (.ev 8 (.ev 12 (.op 13 (.ev 14 (.ev 15 .fin .stop) .stop)) (.ev 14 (.ev 12 (.op 13 (.ev 15 .fin .stop)) .stop) .stop)) (.ev 12 (.ev 8 (.op 13 (.ev 14 (.ev 15 .fin .stop) .stop)) (.ev 14 (.ev 8 (.op 13 (.ev 15 .fin .stop)) .stop) .stop)) (.ev 14 (.ev 8 (.ev 12 (.op 13 (.ev 15 .fin .stop)) .stop) (.ev 12 (.ev 8 (.op 13 (.ev 15 .fin .stop)) .stop) .stop)) .stop))) (.ev 8 (.ev 4 (.ev 12 (.op 13 (.ev 14 (.ev 15 .fin .stop) .stop)) (.ev 14 (.ev 12 (.op 13 (.ev 15 .fin .stop)) .stop) .stop)) (.ev 12 (.ev 4 (.op 13 (.ev 14 (.ev 15 .fin .stop) .stop)) (.ev 14 (.ev 4 (.op 13 (.ev 15 .fin .stop)) .stop) .stop)) (.ev 14 (.ev 4 (.ev 12 (.op 13 (.ev 15 .fin .stop)) .stop) (.ev 12 (.ev 4 (.op 13 (.ev 15 .fin .stop)) .stop) .stop)) .stop))) (.ev 12 (.ev 4 (.ev 8 (.op 13 (.ev 14 (.ev 15 .fin .stop) .stop)) (.ev 14 (.ev 8 (.op 13 (.ev 15 .fin .stop)) .stop) .stop)) (.ev 8 (.ev 4 (.op 13 (.ev 14 (.ev 15 .fin .stop) .stop)) (.ev 14 (.ev 4 (.op 13 (.ev 15 .fin .stop)) .stop) .stop)) (.ev 14 (.ev 4 (.ev 8 (.op 13 (.ev 15 .fin .stop)) .stop) (.ev 8 (.ev 4 (.op 13 (.ev 15 .fin .stop)) .stop) .stop)) .stop))) (.ev 14 (.ev 4 (.ev 8 (.ev 12 (.op 13 (.ev 15 .fin .stop)) .stop) (.ev 12 (.ev 8 (.op 13 (.ev 15 .fin .stop)) .stop) .stop)) (.ev 8 (.ev 4 (.ev 12 (.op 13 (.ev 15 .fin .stop)) .stop) (.ev 12 (.ev 4 (.op 13 (.ev 15 .fin .stop)) .stop) .stop)) (.ev 12 (.ev 4 (.ev 8 (.op 13 (.ev 15 .fin .stop)) .stop) (.ev 8 (.ev 4 (.op 13 (.ev 15 .fin .stop)) .stop) .stop)) .stop))) .stop)))) (.ev 8 (.ev 2 (.ev 4 (.ev 12 (.op 13 (.ev 14 (.ev 15 .fin .stop) .stop)) (.ev 14 (.ev 12 (.op 13 (.ev 15 .fin .stop)) .stop) .stop)) (.ev 12 (.ev 4 (.op 13 (.ev 14 (.ev 15 .fin .stop) .stop)) (.ev 14 (.ev 4 (.op 13 (.ev 15 .fin .stop)) .stop) .stop)) (.ev 14 (.ev 4 (.ev 12 (.op 13 (.ev 15 .fin .stop)) .stop) (.ev 12 (.ev 4 (.op 13 (.ev 15 .fin .stop)) .stop) .stop)) .stop))) (.ev 12 (.ev 2 (.ev 4 (.op 13 (.ev 14 (.ev 15 .fin .stop) .stop)) (.ev 14 (.ev 4 (.op 13 (.ev 15 .fin .stop)) .stop) .stop)) (.ev 14 (.ev 2 (.ev 4 (.op 13 (.ev 15 .fin .stop)) .stop) .stop) .stop)) (.ev 14 (.ev 2 (.ev 4 (.ev 12 (.op 13 (.ev 15 .fin .stop)) .stop) (.ev 12 (.ev 4 (.op 13 (.ev 15 .fin .stop)) .stop) .stop)) (.ev 12 (.ev 2 (.ev 4 (.op 13 (.ev 15 .fin .stop)) .stop) .stop) .stop)) .stop))) (.ev 12 (.ev 2 (.ev 4 (.ev 8 (.op 13 (.ev 14 (.ev 15 .fin .stop) .stop)) (.ev 14 (.ev 8 (.op 13 (.ev 15 .fin .stop)) .stop) .stop)) (.ev 8 (.ev 4 (.op 13 (.ev 14 (.ev 15 .fin .stop) .stop)) (.ev 14 (.ev 4 (.op 13 (.ev 15 .fin .stop)) .stop) .stop)) (.ev 14 (.ev 4 (.ev 8 (.op 13 (.ev 15 .fin .stop)) .stop) (.ev 8 (.ev 4 (.op 13 (.ev 15 .fin .stop)) .stop) .stop)) .stop))) (.ev 8 (.ev 2 (.ev 4 (.op 13 (.ev 14 (.ev 15 .fin .stop) .stop)) (.ev 14 (.ev 4 (.op 13 (.ev 15 .fin .stop)) .stop) .stop)) (.ev 14 (.ev 2 (.ev 4 (.op 13 (.ev 15 .fin .stop)) .stop) .stop) .stop)) (.ev 14 (.ev 2 (.ev 4 (.ev 8 (.op 13 (.ev 15 .fin .stop)) .stop) (.ev 8 (.ev 4 (.op 13 (.ev 15 .fin .stop)) .stop) .stop)) (.ev 8 (.ev 2 (.ev 4 (.op 13 (.ev 15 .fin .stop)) .stop) .stop) .stop)) .stop))) (.ev 14 (.ev 2 (.ev 4 (.ev 8 (.ev 12 (.op 13 (.ev 15 .fin .stop)) .stop) (.ev 12 (.ev 8 (.op 13 (.ev 15 .fin .stop)) .stop) .stop)) (.ev 8 (.ev 4 (.ev 12 (.op 13 (.ev 15 .fin .stop)) .stop) (.ev 12 (.ev 4 (.op 13 (.ev 15 .fin .stop)) .stop) .stop)) (.ev 12 (.ev 4 (.ev 8 (.op 13 (.ev 15 .fin .stop)) .stop) (.ev 8 (.ev 4 (.op 13 (.ev 15 .fin .stop)) .stop) .stop)) .stop))) (.ev 8 (.ev 2 (.ev 4 (.ev 12 (.op 13 (.ev 15 .fin .stop)) .stop) (.ev 12 (.ev 4 (.op 13 (.ev 15 .fin .stop)) .stop) .stop)) (.ev 12 (.ev 2 (.ev 4 (.op 13 (.ev 15 .fin .stop)) .stop) .stop) .stop)) (.ev 12 (.ev 2 (.ev 4 (.ev 8 (.op 13 (.ev 15 .fin .stop)) .stop) (.ev 8 (.ev 4 (.op 13 (.ev 15 .fin .stop)) .stop) .stop)) (.ev 8 (.ev 2 (.ev 4 (.op 13 (.ev 15 .fin .stop)) .stop) .stop) .stop)) .stop))) .stop))))))))))))) [[],[(3,4)],[(2,3)],[(2,3),(2,4)],[(2,3),(3,4)],[(2,4)]] mo (by decide +kernel);·exact ⟨aJ n8 lZ ax rfl ⟨aJ dP jP ax rfl ⟨⟨⟨rfl,h1,h2,h3⟩,⟨⟨⟨rfl,h1,h2,h3⟩,⟨⟨Or.inl rfl,trivial⟩,trivial⟩⟩,⟨⟨⟨⟨rfl,h1,h2,h3⟩,⟨Or.inr ⟨_,.tail _ (.head _),j8 rfl rfl (iD _ _) rfl (iD _ _),rfl,⟨rfl,rfl,rfl,rfl,rfl,rfl,rfl,rfl,rfl,rfl,rfl,rfl,rfl,rfl,rfl,rfl,rfl,rfl,trivial⟩⟩,trivial⟩⟩,trivial⟩,trivial⟩⟩⟩,⟨⟨⟨rfl,h1,h2,h3⟩,⟨⟨⟨rfl,h1,h2,h3⟩,⟨⟨Or.inr ⟨_,.tail _ (.tail _ (.head _)),j8 rfl rfl (iD _ _) (iD _ _) rfl,rfl,⟨rfl,rfl,rfl,rfl,rfl,rfl,rfl,rfl,rfl,rfl,rfl,rfl,rfl,rfl,rfl,rfl,rfl,rfl,trivial⟩⟩,trivial⟩,trivial⟩⟩,⟨⟨⟨⟨rfl,h1,h2,h3⟩,⟨Or.inr ⟨_,.tail _ (.tail _ (.tail _ (.head _))),j8 rfl rfl (my _ _ _) rfl (my _ _ _),rfl,⟨rfl,rfl,rfl,rfl,rfl,rfl,rfl,rfl,rfl,rfl,rfl,rfl,rfl,rfl,rfl,rfl,rfl,rfl,trivial⟩⟩,trivial⟩⟩,trivial⟩,trivial⟩⟩⟩,⟨⟨⟨⟨rfl,h1,h2,h3⟩,⟨⟨⟨rfl,h1,h2,h3⟩,⟨Or.inr ⟨_,.tail _ (.tail _ (.tail _ (.tail _ (.head _)))),j8 rfl rfl rfl (my _ _ _) (my _ _ _),rfl,⟨rfl,rfl,rfl,rfl,rfl,rfl,rfl,rfl,rfl,rfl,rfl,rfl,rfl,rfl,rfl,rfl,rfl,rfl,trivial⟩⟩,trivial⟩⟩,trivial⟩⟩,⟨⟨⟨rfl,h1,h2,h3⟩,⟨⟨⟨rfl,h1,h2,h3⟩,⟨Or.inr ⟨_,.tail _ (.tail _ (.tail _ (.tail _ (.tail _ (.head _))))),j8 rfl rfl rfl (iD _ _) (iD _ _),rfl,⟨rfl,rfl,rfl,rfl,rfl,rfl,rfl,rfl,rfl,rfl,rfl,rfl,rfl,rfl,rfl,rfl,rfl,rfl,trivial⟩⟩,trivial⟩⟩,trivial⟩⟩,trivial⟩⟩,trivial⟩⟩⟩,⟨⟨⟨rfl,h1,h2,h3⟩,⟨aJ dP jP ax rfl ⟨⟨⟨rfl,h1,h2,h3⟩,⟨⟨Or.inr ⟨_,.head _,rfl,rfl,⟨rfl,rfl,rfl,rfl,rfl,rfl,rfl,rfl,rfl,rfl,rfl,rfl,rfl,rfl,rfl,rfl,rfl,rfl,trivial⟩⟩,trivial⟩,trivial⟩⟩,⟨⟨⟨⟨rfl,h1,h2,h3⟩,⟨Or.inr ⟨_,.tail _ (.head _),j8 rfl rfl (iD _ _) rfl (iD _ _),rfl,⟨rfl,rfl,rfl,rfl,rfl,rfl,rfl,rfl,rfl,rfl,rfl,rfl,rfl,rfl,rfl,rfl,rfl,rfl,trivial⟩⟩,trivial⟩⟩,trivial⟩,trivial⟩⟩,⟨⟨⟨rfl,h1,h2,h3⟩,⟨aJ dP jP ax rfl ⟨⟨Or.inr ⟨_,.head _,rfl,rfl,⟨rfl,rfl,rfl,rfl,rfl,rfl,rfl,rfl,rfl,rfl,rfl,rfl,rfl,rfl,rfl,rfl,rfl,rfl,trivial⟩⟩,trivial⟩,trivial⟩,⟨⟨aJ dP jP ax rfl ⟨Or.inr ⟨_,.head _,rfl,rfl,⟨rfl,rfl,rfl,rfl,rfl,rfl,rfl,rfl,rfl,rfl,rfl,rfl,rfl,rfl,rfl,rfl,rfl,rfl,trivial⟩⟩,trivial⟩,trivial⟩,trivial⟩⟩⟩,⟨⟨aJ dP jP ax rfl ⟨⟨⟨rfl,h1,h2,h3⟩,⟨Or.inr ⟨_,.tail _ (.head _),j8 rfl rfl (iD _ _) rfl (iD _ _),rfl,⟨rfl,rfl,rfl,rfl,rfl,rfl,rfl,rfl,rfl,rfl,rfl,rfl,rfl,rfl,rfl,rfl,rfl,rfl,trivial⟩⟩,trivial⟩⟩,trivial⟩,⟨⟨⟨rfl,h1,h2,h3⟩,⟨aJ dP jP ax rfl ⟨Or.inr ⟨_,.tail _ (.head _),j8 rfl rfl (iD _ _) rfl (iD _ _),rfl,⟨rfl,rfl,rfl,rfl,rfl,rfl,rfl,rfl,rfl,rfl,rfl,rfl,rfl,rfl,rfl,rfl,rfl,rfl,trivial⟩⟩,trivial⟩,trivial⟩⟩,trivial⟩⟩,trivial⟩⟩⟩⟩,⟨⟨⟨rfl,h1,h2,h3⟩,⟨aJ dP jP ax rfl ⟨⟨⟨rfl,h1,h2,h3⟩,⟨⟨Or.inr ⟨_,.tail _ (.tail _ (.head _)),j8 rfl rfl (iD _ _) (iD _ _) rfl,rfl,⟨rfl,rfl,rfl,rfl,rfl,rfl,rfl,rfl,rfl,rfl,rfl,rfl,rfl,rfl,rfl,rfl,rfl,rfl,trivial⟩⟩,trivial⟩,trivial⟩⟩,⟨⟨⟨⟨rfl,h1,h2,h3⟩,⟨Or.inr ⟨_,.tail _ (.tail _ (.tail _ (.head _))),j8 rfl rfl (my _ _ _) rfl (my _ _ _),rfl,⟨rfl,rfl,rfl,rfl,rfl,rfl,rfl,rfl,rfl,rfl,rfl,rfl,rfl,rfl,rfl,rfl,rfl,rfl,trivial⟩⟩,trivial⟩⟩,trivial⟩,trivial⟩⟩,⟨⟨⟨rfl,h1,h2,h3⟩,⟨aJ dP jP ax rfl ⟨⟨Or.inr ⟨_,.tail _ (.tail _ (.head _)),j8 rfl rfl (iD _ _) (iD _ _) rfl,rfl,⟨rfl,rfl,rfl,rfl,rfl,rfl,rfl,rfl,rfl,rfl,rfl,rfl,rfl,rfl,rfl,rfl,rfl,rfl,trivial⟩⟩,trivial⟩,trivial⟩,⟨⟨aJ dP jP ax rfl ⟨Or.inr ⟨_,.tail _ (.tail _ (.head _)),j8 rfl rfl (iD _ _) (iD _ _) rfl,rfl,⟨rfl,rfl,rfl,rfl,rfl,rfl,rfl,rfl,rfl,rfl,rfl,rfl,rfl,rfl,rfl,rfl,rfl,rfl,trivial⟩⟩,trivial⟩,trivial⟩,trivial⟩⟩⟩,⟨⟨aJ dP jP ax rfl ⟨⟨⟨rfl,h1,h2,h3⟩,⟨Or.inr ⟨_,.tail _ (.tail _ (.tail _ (.head _))),j8 rfl rfl (my _ _ _) rfl (my _ _ _),rfl,⟨rfl,rfl,rfl,rfl,rfl,rfl,rfl,rfl,rfl,rfl,rfl,rfl,rfl,rfl,rfl,rfl,rfl,rfl,trivial⟩⟩,trivial⟩⟩,trivial⟩,⟨⟨⟨rfl,h1,h2,h3⟩,⟨aJ dP jP ax rfl ⟨Or.inr ⟨_,.tail _ (.tail _ (.tail _ (.head _))),j8 rfl rfl (my _ _ _) rfl (my _ _ _),rfl,⟨rfl,rfl,rfl,rfl,rfl,rfl,rfl,rfl,rfl,rfl,rfl,rfl,rfl,rfl,rfl,rfl,rfl,rfl,trivial⟩⟩,trivial⟩,trivial⟩⟩,trivial⟩⟩,trivial⟩⟩⟩⟩,⟨⟨aJ dP jP ax rfl ⟨⟨⟨rfl,h1,h2,h3⟩,⟨⟨⟨rfl,h1,h2,h3⟩,⟨Or.inr ⟨_,.tail _ (.tail _ (.tail _ (.tail _ (.head _)))),j8 rfl rfl rfl (my _ _ _) (my _ _ _),rfl,⟨rfl,rfl,rfl,rfl,rfl,rfl,rfl,rfl,rfl,rfl,rfl,rfl,rfl,rfl,rfl,rfl,rfl,rfl,trivial⟩⟩,trivial⟩⟩,trivial⟩⟩,⟨⟨⟨rfl,h1,h2,h3⟩,⟨⟨⟨rfl,h1,h2,h3⟩,⟨Or.inr ⟨_,.tail _ (.tail _ (.tail _ (.tail _ (.tail _ (.head _))))),j8 rfl rfl rfl (iD _ _) (iD _ _),rfl,⟨rfl,rfl,rfl,rfl,rfl,rfl,rfl,rfl,rfl,rfl,rfl,rfl,rfl,rfl,rfl,rfl,rfl,rfl,trivial⟩⟩,trivial⟩⟩,trivial⟩⟩,trivial⟩⟩,⟨⟨⟨rfl,h1,h2,h3⟩,⟨aJ dP jP ax rfl ⟨⟨⟨rfl,h1,h2,h3⟩,⟨Or.inr ⟨_,.tail _ (.tail _ (.tail _ (.tail _ (.head _)))),j8 rfl rfl rfl (my _ _ _) (my _ _ _),rfl,⟨rfl,rfl,rfl,rfl,rfl,rfl,rfl,rfl,rfl,rfl,rfl,rfl,rfl,rfl,rfl,rfl,rfl,rfl,trivial⟩⟩,trivial⟩⟩,trivial⟩,⟨⟨⟨rfl,h1,h2,h3⟩,⟨aJ dP jP ax rfl ⟨Or.inr ⟨_,.tail _ (.tail _ (.tail _ (.tail _ (.head _)))),j8 rfl rfl rfl (my _ _ _) (my _ _ _),rfl,⟨rfl,rfl,rfl,rfl,rfl,rfl,rfl,rfl,rfl,rfl,rfl,rfl,rfl,rfl,rfl,rfl,rfl,rfl,trivial⟩⟩,trivial⟩,trivial⟩⟩,trivial⟩⟩⟩,⟨⟨⟨rfl,h1,h2,h3⟩,⟨aJ dP jP ax rfl ⟨⟨⟨rfl,h1,h2,h3⟩,⟨Or.inr ⟨_,.tail _ (.tail _ (.tail _ (.tail _ (.tail _ (.head _))))),j8 rfl rfl rfl (iD _ _) (iD _ _),rfl,⟨rfl,rfl,rfl,rfl,rfl,rfl,rfl,rfl,rfl,rfl,rfl,rfl,rfl,rfl,rfl,rfl,rfl,rfl,trivial⟩⟩,trivial⟩⟩,trivial⟩,⟨⟨⟨rfl,h1,h2,h3⟩,⟨aJ dP jP ax rfl ⟨Or.inr ⟨_,.tail _ (.tail _ (.tail _ (.tail _ (.tail _ (.head _))))),j8 rfl rfl rfl (iD _ _) (iD _ _),rfl,⟨rfl,rfl,rfl,rfl,rfl,rfl,rfl,rfl,rfl,rfl,rfl,rfl,rfl,rfl,rfl,rfl,rfl,rfl,trivial⟩⟩,trivial⟩,trivial⟩⟩,trivial⟩⟩⟩,trivial⟩⟩⟩,trivial⟩⟩⟩⟩,⟨⟨⟨rfl,h1,h2,h3⟩,⟨aJ n8 lZ ax rfl ⟨aJ dP jP ax rfl ⟨⟨⟨rfl,h1,h2,h3⟩,⟨⟨Or.inr ⟨_,.head _,rfl,rfl,⟨rfl,rfl,rfl,rfl,rfl,rfl,rfl,rfl,rfl,rfl,rfl,rfl,rfl,rfl,rfl,rfl,rfl,rfl,trivial⟩⟩,trivial⟩,trivial⟩⟩,⟨⟨⟨⟨rfl,h1,h2,h3⟩,⟨Or.inr ⟨_,.tail _ (.head _),j8 rfl rfl (iD _ _) rfl (iD _ _),rfl,⟨rfl,rfl,rfl,rfl,rfl,rfl,rfl,rfl,rfl,rfl,rfl,rfl,rfl,rfl,rfl,rfl,rfl,rfl,trivial⟩⟩,trivial⟩⟩,trivial⟩,trivial⟩⟩,⟨⟨⟨rfl,h1,h2,h3⟩,⟨aJ dP jP ax rfl ⟨⟨Or.inr ⟨_,.head _,rfl,rfl,⟨rfl,rfl,rfl,rfl,rfl,rfl,rfl,rfl,rfl,rfl,rfl,rfl,rfl,rfl,rfl,rfl,rfl,rfl,trivial⟩⟩,trivial⟩,trivial⟩,⟨⟨aJ dP jP ax rfl ⟨Or.inr ⟨_,.head _,rfl,rfl,⟨rfl,rfl,rfl,rfl,rfl,rfl,rfl,rfl,rfl,rfl,rfl,rfl,rfl,rfl,rfl,rfl,rfl,rfl,trivial⟩⟩,trivial⟩,trivial⟩,trivial⟩⟩⟩,⟨⟨aJ dP jP ax rfl ⟨⟨⟨rfl,h1,h2,h3⟩,⟨Or.inr ⟨_,.tail _ (.head _),j8 rfl rfl (iD _ _) rfl (iD _ _),rfl,⟨rfl,rfl,rfl,rfl,rfl,rfl,rfl,rfl,rfl,rfl,rfl,rfl,rfl,rfl,rfl,rfl,rfl,rfl,trivial⟩⟩,trivial⟩⟩,trivial⟩,⟨⟨⟨rfl,h1,h2,h3⟩,⟨aJ dP jP ax rfl ⟨Or.inr ⟨_,.tail _ (.head _),j8 rfl rfl (iD _ _) rfl (iD _ _),rfl,⟨rfl,rfl,rfl,rfl,rfl,rfl,rfl,rfl,rfl,rfl,rfl,rfl,rfl,rfl,rfl,rfl,rfl,rfl,trivial⟩⟩,trivial⟩,trivial⟩⟩,trivial⟩⟩,trivial⟩⟩⟩,⟨⟨⟨rfl,h1,h2,h3⟩,⟨aJ n8 lZ ax rfl ⟨aJ dP jP ax rfl ⟨⟨Or.inr ⟨_,.head _,rfl,rfl,⟨rfl,rfl,rfl,rfl,rfl,rfl,rfl,rfl,rfl,rfl,rfl,rfl,rfl,rfl,rfl,rfl,rfl,rfl,trivial⟩⟩,trivial⟩,trivial⟩,⟨⟨aJ dP jP ax rfl ⟨Or.inr ⟨_,.head _,rfl,rfl,⟨rfl,rfl,rfl,rfl,rfl,rfl,rfl,rfl,rfl,rfl,rfl,rfl,rfl,rfl,rfl,rfl,rfl,rfl,trivial⟩⟩,trivial⟩,trivial⟩,trivial⟩⟩,⟨⟨aJ n8 lZ ax rfl ⟨aJ dP jP ax rfl ⟨Or.inr ⟨_,.head _,rfl,rfl,⟨rfl,rfl,rfl,rfl,rfl,rfl,rfl,rfl,rfl,rfl,rfl,rfl,rfl,rfl,rfl,rfl,rfl,rfl,trivial⟩⟩,trivial⟩,trivial⟩,trivial⟩,trivial⟩⟩⟩,⟨⟨aJ n8 lZ ax rfl ⟨aJ dP jP ax rfl ⟨⟨⟨rfl,h1,h2,h3⟩,⟨Or.inr ⟨_,.tail _ (.head _),j8 rfl rfl (iD _ _) rfl (iD _ _),rfl,⟨rfl,rfl,rfl,rfl,rfl,rfl,rfl,rfl,rfl,rfl,rfl,rfl,rfl,rfl,rfl,rfl,rfl,rfl,trivial⟩⟩,trivial⟩⟩,trivial⟩,⟨⟨⟨rfl,h1,h2,h3⟩,⟨aJ dP jP ax rfl ⟨Or.inr ⟨_,.tail _ (.head _),j8 rfl rfl (iD _ _) rfl (iD _ _),rfl,⟨rfl,rfl,rfl,rfl,rfl,rfl,rfl,rfl,rfl,rfl,rfl,rfl,rfl,rfl,rfl,rfl,rfl,rfl,trivial⟩⟩,trivial⟩,trivial⟩⟩,trivial⟩⟩,⟨⟨⟨rfl,h1,h2,h3⟩,⟨aJ n8 lZ ax rfl ⟨aJ dP jP ax rfl ⟨Or.inr ⟨_,.tail _ (.head _),j8 rfl rfl (iD _ _) rfl (iD _ _),rfl,⟨rfl,rfl,rfl,rfl,rfl,rfl,rfl,rfl,rfl,rfl,rfl,rfl,rfl,rfl,rfl,rfl,rfl,rfl,trivial⟩⟩,trivial⟩,trivial⟩,trivial⟩⟩,trivial⟩⟩,trivial⟩⟩⟩⟩,⟨⟨⟨rfl,h1,h2,h3⟩,⟨aJ n8 lZ ax rfl ⟨aJ dP jP ax rfl ⟨⟨⟨rfl,h1,h2,h3⟩,⟨⟨Or.inr ⟨_,.tail _ (.tail _ (.head _)),j8 rfl rfl (iD _ _) (iD _ _) rfl,rfl,⟨rfl,rfl,rfl,rfl,rfl,rfl,rfl,rfl,rfl,rfl,rfl,rfl,rfl,rfl,rfl,rfl,rfl,rfl,trivial⟩⟩,trivial⟩,trivial⟩⟩,⟨⟨⟨⟨rfl,h1,h2,h3⟩,⟨Or.inr ⟨_,.tail _ (.tail _ (.tail _ (.head _))),j8 rfl rfl (my _ _ _) rfl (my _ _ _),rfl,⟨rfl,rfl,rfl,rfl,rfl,rfl,rfl,rfl,rfl,rfl,rfl,rfl,rfl,rfl,rfl,rfl,rfl,rfl,trivial⟩⟩,trivial⟩⟩,trivial⟩,trivial⟩⟩,⟨⟨⟨rfl,h1,h2,h3⟩,⟨aJ dP jP ax rfl ⟨⟨Or.inr ⟨_,.tail _ (.tail _ (.head _)),j8 rfl rfl (iD _ _) (iD _ _) rfl,rfl,⟨rfl,rfl,rfl,rfl,rfl,rfl,rfl,rfl,rfl,rfl,rfl,rfl,rfl,rfl,rfl,rfl,rfl,rfl,trivial⟩⟩,trivial⟩,trivial⟩,⟨⟨aJ dP jP ax rfl ⟨Or.inr ⟨_,.tail _ (.tail _ (.head _)),j8 rfl rfl (iD _ _) (iD _ _) rfl,rfl,⟨rfl,rfl,rfl,rfl,rfl,rfl,rfl,rfl,rfl,rfl,rfl,rfl,rfl,rfl,rfl,rfl,rfl,rfl,trivial⟩⟩,trivial⟩,trivial⟩,trivial⟩⟩⟩,⟨⟨aJ dP jP ax rfl ⟨⟨⟨rfl,h1,h2,h3⟩,⟨Or.inr ⟨_,.tail _ (.tail _ (.tail _ (.head _))),j8 rfl rfl (my _ _ _) rfl (my _ _ _),rfl,⟨rfl,rfl,rfl,rfl,rfl,rfl,rfl,rfl,rfl,rfl,rfl,rfl,rfl,rfl,rfl,rfl,rfl,rfl,trivial⟩⟩,trivial⟩⟩,trivial⟩,⟨⟨⟨rfl,h1,h2,h3⟩,⟨aJ dP jP ax rfl ⟨Or.inr ⟨_,.tail _ (.tail _ (.tail _ (.head _))),j8 rfl rfl (my _ _ _) rfl (my _ _ _),rfl,⟨rfl,rfl,rfl,rfl,rfl,rfl,rfl,rfl,rfl,rfl,rfl,rfl,rfl,rfl,rfl,rfl,rfl,rfl,trivial⟩⟩,trivial⟩,trivial⟩⟩,trivial⟩⟩,trivial⟩⟩⟩,⟨⟨⟨rfl,h1,h2,h3⟩,⟨aJ n8 lZ ax rfl ⟨aJ dP jP ax rfl ⟨⟨Or.inr ⟨_,.tail _ (.tail _ (.head _)),j8 rfl rfl (iD _ _) (iD _ _) rfl,rfl,⟨rfl,rfl,rfl,rfl,rfl,rfl,rfl,rfl,rfl,rfl,rfl,rfl,rfl,rfl,rfl,rfl,rfl,rfl,trivial⟩⟩,trivial⟩,trivial⟩,⟨⟨aJ dP jP ax rfl ⟨Or.inr ⟨_,.tail _ (.tail _ (.head _)),j8 rfl rfl (iD _ _) (iD _ _) rfl,rfl,⟨rfl,rfl,rfl,rfl,rfl,rfl,rfl,rfl,rfl,rfl,rfl,rfl,rfl,rfl,rfl,rfl,rfl,rfl,trivial⟩⟩,trivial⟩,trivial⟩,trivial⟩⟩,⟨⟨aJ n8 lZ ax rfl ⟨aJ dP jP ax rfl ⟨Or.inr ⟨_,.tail _ (.tail _ (.head _)),j8 rfl rfl (iD _ _) (iD _ _) rfl,rfl,⟨rfl,rfl,rfl,rfl,rfl,rfl,rfl,rfl,rfl,rfl,rfl,rfl,rfl,rfl,rfl,rfl,rfl,rfl,trivial⟩⟩,trivial⟩,trivial⟩,trivial⟩,trivial⟩⟩⟩,⟨⟨aJ n8 lZ ax rfl ⟨aJ dP jP ax rfl ⟨⟨⟨rfl,h1,h2,h3⟩,⟨Or.inr ⟨_,.tail _ (.tail _ (.tail _ (.head _))),j8 rfl rfl (my _ _ _) rfl (my _ _ _),rfl,⟨rfl,rfl,rfl,rfl,rfl,rfl,rfl,rfl,rfl,rfl,rfl,rfl,rfl,rfl,rfl,rfl,rfl,rfl,trivial⟩⟩,trivial⟩⟩,trivial⟩,⟨⟨⟨rfl,h1,h2,h3⟩,⟨aJ dP jP ax rfl ⟨Or.inr ⟨_,.tail _ (.tail _ (.tail _ (.head _))),j8 rfl rfl (my _ _ _) rfl (my _ _ _),rfl,⟨rfl,rfl,rfl,rfl,rfl,rfl,rfl,rfl,rfl,rfl,rfl,rfl,rfl,rfl,rfl,rfl,rfl,rfl,trivial⟩⟩,trivial⟩,trivial⟩⟩,trivial⟩⟩,⟨⟨⟨rfl,h1,h2,h3⟩,⟨aJ n8 lZ ax rfl ⟨aJ dP jP ax rfl ⟨Or.inr ⟨_,.tail _ (.tail _ (.tail _ (.head _))),j8 rfl rfl (my _ _ _) rfl (my _ _ _),rfl,⟨rfl,rfl,rfl,rfl,rfl,rfl,rfl,rfl,rfl,rfl,rfl,rfl,rfl,rfl,rfl,rfl,rfl,rfl,trivial⟩⟩,trivial⟩,trivial⟩,trivial⟩⟩,trivial⟩⟩,trivial⟩⟩⟩⟩,⟨⟨aJ n8 lZ ax rfl ⟨aJ dP jP ax rfl ⟨⟨⟨rfl,h1,h2,h3⟩,⟨⟨⟨rfl,h1,h2,h3⟩,⟨Or.inr ⟨_,.tail _ (.tail _ (.tail _ (.tail _ (.head _)))),j8 rfl rfl rfl (my _ _ _) (my _ _ _),rfl,⟨rfl,rfl,rfl,rfl,rfl,rfl,rfl,rfl,rfl,rfl,rfl,rfl,rfl,rfl,rfl,rfl,rfl,rfl,trivial⟩⟩,trivial⟩⟩,trivial⟩⟩,⟨⟨⟨rfl,h1,h2,h3⟩,⟨⟨⟨rfl,h1,h2,h3⟩,⟨Or.inr ⟨_,.tail _ (.tail _ (.tail _ (.tail _ (.tail _ (.head _))))),j8 rfl rfl rfl (iD _ _) (iD _ _),rfl,⟨rfl,rfl,rfl,rfl,rfl,rfl,rfl,rfl,rfl,rfl,rfl,rfl,rfl,rfl,rfl,rfl,rfl,rfl,trivial⟩⟩,trivial⟩⟩,trivial⟩⟩,trivial⟩⟩,⟨⟨⟨rfl,h1,h2,h3⟩,⟨aJ dP jP ax rfl ⟨⟨⟨rfl,h1,h2,h3⟩,⟨Or.inr ⟨_,.tail _ (.tail _ (.tail _ (.tail _ (.head _)))),j8 rfl rfl rfl (my _ _ _) (my _ _ _),rfl,⟨rfl,rfl,rfl,rfl,rfl,rfl,rfl,rfl,rfl,rfl,rfl,rfl,rfl,rfl,rfl,rfl,rfl,rfl,trivial⟩⟩,trivial⟩⟩,trivial⟩,⟨⟨⟨rfl,h1,h2,h3⟩,⟨aJ dP jP ax rfl ⟨Or.inr ⟨_,.tail _ (.tail _ (.tail _ (.tail _ (.head _)))),j8 rfl rfl rfl (my _ _ _) (my _ _ _),rfl,⟨rfl,rfl,rfl,rfl,rfl,rfl,rfl,rfl,rfl,rfl,rfl,rfl,rfl,rfl,rfl,rfl,rfl,rfl,trivial⟩⟩,trivial⟩,trivial⟩⟩,trivial⟩⟩⟩,⟨⟨⟨rfl,h1,h2,h3⟩,⟨aJ dP jP ax rfl ⟨⟨⟨rfl,h1,h2,h3⟩,⟨Or.inr ⟨_,.tail _ (.tail _ (.tail _ (.tail _ (.tail _ (.head _))))),j8 rfl rfl rfl (iD _ _) (iD _ _),rfl,⟨rfl,rfl,rfl,rfl,rfl,rfl,rfl,rfl,rfl,rfl,rfl,rfl,rfl,rfl,rfl,rfl,rfl,rfl,trivial⟩⟩,trivial⟩⟩,trivial⟩,⟨⟨⟨rfl,h1,h2,h3⟩,⟨aJ dP jP ax rfl ⟨Or.inr ⟨_,.tail _ (.tail _ (.tail _ (.tail _ (.tail _ (.head _))))),j8 rfl rfl rfl (iD _ _) (iD _ _),rfl,⟨rfl,rfl,rfl,rfl,rfl,rfl,rfl,rfl,rfl,rfl,rfl,rfl,rfl,rfl,rfl,rfl,rfl,rfl,trivial⟩⟩,trivial⟩,trivial⟩⟩,trivial⟩⟩⟩,trivial⟩⟩⟩,⟨⟨⟨rfl,h1,h2,h3⟩,⟨aJ n8 lZ ax rfl ⟨aJ dP jP ax rfl ⟨⟨⟨rfl,h1,h2,h3⟩,⟨Or.inr ⟨_,.tail _ (.tail _ (.tail _ (.tail _ (.head _)))),j8 rfl rfl rfl (my _ _ _) (my _ _ _),rfl,⟨rfl,rfl,rfl,rfl,rfl,rfl,rfl,rfl,rfl,rfl,rfl,rfl,rfl,rfl,rfl,rfl,rfl,rfl,trivial⟩⟩,trivial⟩⟩,trivial⟩,⟨⟨⟨rfl,h1,h2,h3⟩,⟨aJ dP jP ax rfl ⟨Or.inr ⟨_,.tail _ (.tail _ (.tail _ (.tail _ (.head _)))),j8 rfl rfl rfl (my _ _ _) (my _ _ _),rfl,⟨rfl,rfl,rfl,rfl,rfl,rfl,rfl,rfl,rfl,rfl,rfl,rfl,rfl,rfl,rfl,rfl,rfl,rfl,trivial⟩⟩,trivial⟩,trivial⟩⟩,trivial⟩⟩,⟨⟨⟨rfl,h1,h2,h3⟩,⟨aJ n8 lZ ax rfl ⟨aJ dP jP ax rfl ⟨Or.inr ⟨_,.tail _ (.tail _ (.tail _ (.tail _ (.head _)))),j8 rfl rfl rfl (my _ _ _) (my _ _ _),rfl,⟨rfl,rfl,rfl,rfl,rfl,rfl,rfl,rfl,rfl,rfl,rfl,rfl,rfl,rfl,rfl,rfl,rfl,rfl,trivial⟩⟩,trivial⟩,trivial⟩,trivial⟩⟩,trivial⟩⟩⟩,⟨⟨⟨rfl,h1,h2,h3⟩,⟨aJ n8 lZ ax rfl ⟨aJ dP jP ax rfl ⟨⟨⟨rfl,h1,h2,h3⟩,⟨Or.inr ⟨_,.tail _ (.tail _ (.tail _ (.tail _ (.tail _ (.head _))))),j8 rfl rfl rfl (iD _ _) (iD _ _),rfl,⟨rfl,rfl,rfl,rfl,rfl,rfl,rfl,rfl,rfl,rfl,rfl,rfl,rfl,rfl,rfl,rfl,rfl,rfl,trivial⟩⟩,trivial⟩⟩,trivial⟩,⟨⟨⟨rfl,h1,h2,h3⟩,⟨aJ dP jP ax rfl ⟨Or.inr ⟨_,.tail _ (.tail _ (.tail _ (.tail _ (.tail _ (.head _))))),j8 rfl rfl rfl (iD _ _) (iD _ _),rfl,⟨rfl,rfl,rfl,rfl,rfl,rfl,rfl,rfl,rfl,rfl,rfl,rfl,rfl,rfl,rfl,rfl,rfl,rfl,trivial⟩⟩,trivial⟩,trivial⟩⟩,trivial⟩⟩,⟨⟨⟨rfl,h1,h2,h3⟩,⟨aJ n8 lZ ax rfl ⟨aJ dP jP ax rfl ⟨Or.inr ⟨_,.tail _ (.tail _ (.tail _ (.tail _ (.tail _ (.head _))))),j8 rfl rfl rfl (iD _ _) (iD _ _),rfl,⟨rfl,rfl,rfl,rfl,rfl,rfl,rfl,rfl,rfl,rfl,rfl,rfl,rfl,rfl,rfl,rfl,rfl,rfl,trivial⟩⟩,trivial⟩,trivial⟩,trivial⟩⟩,trivial⟩⟩⟩,trivial⟩⟩⟩,trivial⟩⟩⟩⟩
 ·exact (rfl:_=_)
 have HE:(List.replicate ((bD ND).length:Int).toNat (vL [Value.int .i64 0])).flatten=cN (szR ND D 0):=by rw [vI,dq,bJ];all_goals rfl
 have Ul:(List.replicate ((bD ND).length:Int).toNat (vL [Value.int .i64 0])).flatten=cN (List.replicate ND.length 0):=by rw [vI,dq,bJ]
 refine lI (fun j st=>∃ d:Nat,st=aa9 a b A B ND z D M d (szR ND D (d - 1)) (List.replicate ND.length 0)/\1<=d/\d<=ND.length + 1/\j=ND.length + 1 - d) ⟨1,rfl,by omega,by omega,rfl⟩ (aq 5 rfl (gp HE Ul) rfl rfl rfl (wB2 HE Ul)) ?_;rintro j st ⟨d,rfl,zS,Kx,rfl⟩;refine br ?_ ?_<;>intro hL
 ·have hdN:d<=ND.length:=by have:=hL;simp [bJ] at this;exact this
  refine lJ (fun e=>aba a b A B ND z D M d (szL ND D d e (szR ND D (d - 1))) (List.replicate ND.length 0) e) ND.length (aq 5 rfl pO rfl rfl rfl lX) ?_;intro e he;refine br ?_ ?_<;>intro kP
  ·have au:e < ND.length:=by have:=kP;simp [cy] at this;exact this
   obtain ⟨n,hn⟩:=gX au;obtain ⟨v,hv⟩:∃ z,D[e]? = some z:=⟨_,gE (by omega)⟩;have zL:D.getD e 0=v:=by rw [aH,hv];all_goals rfl
   have eU:szL ND D d (e + 1) (szR ND D (d - 1))=if D.getD e 0=d then (szL ND D d e (szR ND D (d - 1))).set e (sizeF (szL ND D d e (szR ND D (d - 1))) D n) else szL ND D d e (szR ND D (d - 1)):=by rw [szL,hn]
   have GG:(szL ND D d e (szR ND D (d - 1))).length=ND.length:=by rw [nk];exact pq ND D _
   have LH:∀ z∈szL ND D d e (szR ND D (d - 1)),z<=4097:=by
    have:=BN ND D d e;unfold szQ at this
    rwa [ah (by omega)] at this
   have ie:=mG hn;have hfs:=fun h8=>Gl a b A B ND z D M (szL ND D d e (szR ND D (d - 1))) (List.replicate ND.length 0) Xf GG LH (bw n ie) (bT n ie) h8
   have h8:D.getD e 0=d->n.ag=8->∃ c e,bG D n.ap=some c/\n.ap[c]? = some e:=fun h h8=>by
    obtain ⟨c,x,hc,hx,_⟩:=hO.Pf hn (by omega) h8;exact ⟨c,x,hc,hx⟩
   generalize szL ND D d e (szR ND D (d - 1))=t at eU GG LH hfs;refine ⟨_,⟨cp _,aG hv⟩,?_⟩;refine br ?_ ?_<;>intro c
   ·have c:D.getD e 0=d:=Decidable.byContradiction fun h=>by simp at c;omega
    rw [ai c] at eU;have hfs:=hfs (h8 c);refine dS ?_;refine ⟨_,⟨cp _,bB hn⟩,?_⟩;refine ki en65 hfs ⟨_,_,rfl,⟨_,rfl,PS a b A B ND z GG List.length_replicate rfl rfl⟩,_,_,rfl,ax,rfl⟩ rfl rfl ?_;refine ⟨⟨by omega,by rw [bJ];omega⟩,?_⟩;refine ⟨by rw [lQ];omega,?_⟩
    have bd:(cN t).set (0 + (e:Int).toNat * 1) (DV.v (.int .i64 (sizeF t D n:Nat)))=cN (szL ND D d (e + 1) (szR ND D (d - 1))):=by
     rw [show 0 + (e:Int).toNat * 1=e by omega,ni,eU]
    exact rE ⟨_,by omega,e + 1,rfl,by omega,rfl⟩ (aq 5 rfl (gp bd (aK au (by omega))) rfl rfl rfl (wB2 bd (aK au (by omega))))
   ·have c:¬ D.getD e 0=d:=fun h=>by rw [zL] at h;subst h;simp at c
    rw [ah c] at eU;exact rE ⟨_,by omega,e + 1,rfl,by omega,rfl⟩ (aq 5 rfl (gp (congrArg cN eU.symm) (aK au (by omega))) rfl rfl rfl (wB2 (congrArg cN eU.symm) (aK au (by omega))))
  ·have aS:e=ND.length:=by have:=kP;simp [cy] at this;omega
   subst aS;obtain ⟨k,rfl⟩:∃ k,d=k + 1:=⟨d - 1,by omega⟩;exact rE ⟨_,by omega,k + 1 + 1,rfl,by omega,by omega,rfl⟩ (aq 5 rfl (nF (wrapN (a:=k + 1) (b:=1) (by omega) (by omega))) rfl rfl rfl (dy (wrapN (a:=k + 1) (b:=1) (by omega) (by omega))))
 ·have L8:d=ND.length + 1:=sW bJ hL;subst L8;have hT:szR ND D (ND.length + 1 - 1)=kk ND D:=rfl;have Sa:=np ND D;have hTs:∀ z∈kk ND D,z<=4097:=px ND D _;have Ws:(fq ND D).length=ND.length:=iO ND D _;generalize fq ND D=K at WE Pv hR Ws;have Lq:=zd (kk ND D) D K ND;have Xg:∀ i n,ND[i]? = some n->othK (kk ND D) D K ND i=if K.getD i false=true then some (ed (kk ND D) D K n) else none:=fun i n h=>by unfold othK;rw [h]
  have hF:Qi (kk ND D) D K ND=gj (othK (kk ND D) D K ND) ND.length (ND.length + 1):=J7.symm;rw [hF] at hR;rw [hT];generalize kk ND D=t at Sa hTs Lq Xg hR ⊢;generalize EU:othK t D K ND=kf at Lq Xg hR;refine lJ (fun d=>abb a b A B ND z D M d t (gj kf ND.length d)) (ND.length + 1) (aq 5 rfl pO rfl rfl rfl lX) ?_;intro d Kx;have hok2:z7 kf (gj kf ND.length d):=y8 d;have ez:(gj kf ND.length d).length=ND.length:=iP d;refine br ?_ ?_<;>intro hL
  ·have hdN:d<=ND.length:=by have:=hL;simp [bJ] at this;exact this
   refine lJ (fun e=>abc a b A B ND z D M d t (pv kf e (gj kf ND.length d)) e) ND.length (aq 5 rfl pO rfl rfl rfl lX) ?_;intro e he;refine br ?_ ?_<;>intro kP
   ·have au:e < ND.length:=by have:=kP;simp [cy] at this;exact this
    obtain ⟨n,hn⟩:=gX au;obtain ⟨v,hv⟩:∃ z,M[e]? = some z:=⟨_,gE (by omega)⟩;have ie:=mG hn;have hKe:K.getD e false=decide (1 < v):=by rw [WE,aH,hv];all_goals rfl
    have hk:=Xg e n hn;have hse:=Pv e n hn;have jU:(pv kf e (gj kf ND.length d)).length=ND.length:=by rw [sa];exact ez
    have sZ:=FW Lq (y7 (kf:=kf) e (by rw [ez];omega) hok2).1;have eU:pv kf (e + 1) (gj kf ND.length d)=otI kf e (pv kf e (gj kf ND.length d)):=rfl;have nM:=fun hc8 hS=>DC a b A B ND z D M t (pv kf e (gj kf ND.length d)) K Xf hlM (fun j _=>WE j) Sa jU hTs sZ (bw n ie) (bT n ie) hc8 hS;generalize pv kf e (gj kf ND.length d)=o at jU sZ eU nM;refine ⟨_,⟨cp _,aG hv⟩,?_⟩;refine br ?_ ?_<;>intro c
    ·have c:(1:Int) < v:=sU c;rw [decide_eq_true (by omega)] at hKe;obtain ⟨hS,hp⟩:=hse hKe;rw [ai hKe] at hk;have nM:=nM (fun h8=>by obtain ⟨c,_,hc,_⟩:=hO.Pf hn hp h8;exact ⟨c,hc⟩) hS;refine dS ?_;refine ⟨_,⟨cp _,bB hn⟩,?_⟩;refine ki en66 nM ⟨_,_,rfl,⟨_,rfl,PS a b A B ND z Sa jU rfl rfl⟩,_,_,rfl,ax,rfl⟩ rfl rfl ?_;refine ⟨⟨by omega,by rw [bJ];omega⟩,?_⟩;refine ⟨by rw [lQ];omega,?_⟩
     have bd:(cN o).set (0 + (e:Int).toNat * 1) (DV.v (.int .i64 (othE o (ed t D K n):Nat)))=cN (pv kf (e + 1) (gj kf ND.length d)):=by
      rw [show 0 + (e:Int).toNat * 1=e by omega,ni,eU];unfold otI;rw [hk]
     exact rE ⟨_,by omega,e + 1,rfl,by omega,rfl⟩ (aq 5 rfl (gp bd (aK au (by omega))) rfl rfl rfl (wB2 bd (aK au (by omega))))
    ·have c:¬ (1:Int) < v:=sU c;rw [decide_eq_false (by omega)] at hKe;rw [hKe,ah (by simp)] at hk;have GJ:o=pv kf (e + 1) (gj kf ND.length d):=by rw [eU];unfold otI;rw [hk]
     exact rE ⟨_,by omega,e + 1,rfl,by omega,rfl⟩ (aq 5 rfl (gp (congrArg cN GJ) (aK au (by omega))) rfl rfl rfl (wB2 (congrArg cN GJ) (aK au (by omega))))
   ·have aS:e=ND.length:=by have:=kP;simp [cy] at this;omega
    subst aS;exact rE ⟨_,by omega,d + 1,rfl,by omega,rfl⟩ (aq 5 rfl (nF (wrapN (a:=d) (b:=1) (by omega) (by omega))) rfl rfl rfl (dy (wrapN (a:=d) (b:=1) (by omega) (by omega))))
  ·have L8:d=ND.length + 1:=sW bJ hL;subst L8;rw [<- hR];exact ⟨.agg (uA a b A B ND z D M t (gj kf ND.length (ND.length + 1))),⟨_,rfl,PS a b A B ND z Sa ez rfl rfl⟩,rfl⟩
end
section
variable (a b:Nat) (A B:List (List DV)) (ND:List Nd) (z:Int) (D M S O:List Nat) (K:List Bool) {L:Nat}
theorem vo {F:Nat->Val} {n:Nd} {c:Nat} {x:Ed} (hn:cz L ND.length n) (hx:n.ap[c]? = some x) (ef:n.ap.length<=1099511627776)
  (ih:x.bare=false->∀ k:Nat,x.to=k->aV prog 30 [.agg (uA a b A B ND z D M S O),.v (.int .i64 k)] (.agg (dVal (F k)))) :
  aV prog 82 [.agg (uA a b A B ND z D M S O),.agg (gG n),.v (.int .i64 c)] (.agg (dVal (tagV F n.ap c))):=by
 have uE:=hn.fJ x (mG hx);obtain ⟨ag,ba,lo,hi,most,af,es⟩:=n;simp only at hx ef ⊢
 cases hb:x.bare with
 | false=>
  obtain ⟨k,hk,ej⟩:=uE.to1 hb;have ri:=ih hb k hk;clear ih;rw [show tagV F es c = .mk 8 c az [F k] by simp only [tagV,hx,hb];rw [hk];rfl];generalize F k=u at ri;obtain ⟨uk,un,us,ul⟩:=u;obtain ⟨en,eb,ea,et,r8,ew,ug,ui,uj,um⟩:=x;simp only at hk hb;subst hk hb;refine eG 28 [.cell 6 34] func82 rfl ntmps82 rfl fun _ _ _ _=>?_;refine ⟨_,⟨cp _,aF hx⟩,?_⟩;refine dS ?_;refine ⟨_,⟨cp _,aF hx⟩,?_⟩;refine cD en30 ri ?_;exact ⟨.agg (dVal (.mk 8 c az [.mk uk un us ul])),ax,rfl⟩
 | true=>
  rw [show tagV F es c=dc 8 c by simp only [tagV,hx,hb];rfl];obtain ⟨en,eb,ea,et,r8,ew,ug,ui,uj,um⟩:=x;simp only at hb;subst hb;refine eG 28 [.cell 6 34] func82 rfl ntmps82 rfl fun _ _ _ _=>?_;refine ⟨_,⟨cp _,aF hx⟩,?_⟩;exact ⟨.agg (dVal (dc 8 c)),ax,rfl⟩
abbrev WG (n:Nd) (vs:List Val) (e:Nat):St:=
 ⟨[(2,⟨[],.loc 0 0⟩),(4,⟨[],.loc 1 0⟩),(5,⟨[],.loc 2 0⟩),(6,⟨[],.loc 3 0⟩),(7,⟨[],.v (.int .i64 e)⟩)],[uA a b A B ND z D M S O,zf,gG n,[.v (.int .i64 7),.v (.int .i64 0),.v (.string .empty),.sl 4 (dVals vs) (some 0)]],[⟨e,34,4,none⟩]⟩
theorem LS (l:List Val) (v:Val):dVals (l ++ [v])=dVals l ++ [dVal v]:=by rw [bY,bY];simp
theorem nB (hO:gv ND D) (bw:∀ n∈ND,cz L ND.length n) (bT:∀ n∈ND,n.ap.length<=1099511627776):∀ (f i:Nat),i < ND.length->0 < D.getD i 0->D.getD i 0<=f->aV prog 30 [.agg (uA a b A B ND z D M S O),.v (.int .i64 i)] (.agg (dVal (firstV ND D f i)))
 | 0,i,_,h0,h1=>by omega
 | f + 1,i,hi,h0,h1=>by
  have ih:=fun j hj h0 h1=>nB hO bw bT f j hj h0 h1;obtain ⟨n,hn⟩:∃ n,ND[i]? = some n:=⟨_,gE hi⟩;have ie:=mG hn;have hN:=bw n ie;have wS:=hO.T7 hn h0;have DK:=hO.Pf hn h0;have z6:=k0 a b A B ND z D M S O (-1) hO.len hN (bT n ie);rw [lE] at z6;have ef:=bT n ie;have aZ:=hN.fJ;have cY:=hN.bare
  have I5:∀ {c:Nat} {x:Ed},n.ap[c]? = some x->(x.bare=false->0 < bZ D x/\bZ D x < D.getD i 0)->aV prog 82 [.agg (uA a b A B ND z D M S O),.agg (gG n),.v (.int .i64 c)] (.agg (dVal (tagV (firstV ND D f) n.ap c))):=fun {c x} hx hp=>vo a b A B ND z D M S O (L:=L) hN hx ef fun hb k hk=>by
   obtain ⟨h2,h3⟩:=hp hb;unfold bZ at h2 h3;rw [hk,dq] at h2 h3;exact ih k (zj hO h2) h2 (by omega)
  rw [show firstV ND D (f + 1) i=(if n.ag=2 then dc 2 n.lo
   else if n.ag=7 then .mk 7 0 az (n.ap.map fun e=>firstV ND D f e.to.toNat)
   else if n.ag=8 then (match bG D n.ap with | some c=>tagV (firstV ND D f) n.ap c | none=>dc 8 0)
   else dc n.ag 0) by rw [firstV,hn];rfl]
  generalize D.getD i 0=di at wS DK h1 I5;obtain ⟨ag,ba,lo,eo,most,af,es⟩:=n;simp only at wS DK z6 aZ ef cY I5;have bJ:=aW es;by_cases c2:ag=2
  ·subst c2;refine eG 56 [.cell 4 34] func30 rfl ntmps30 rfl fun _ _ _ _=>?_;refine iX (bB hn) ?_;exact ⟨.agg (dVal (dc 2 lo)),ax,rfl⟩
  rw [ah c2];by_cases c7:ag=7
  ·subst c7;have wS:=wS rfl;rw [ai rfl];refine eG 56 [.cell 4 34] func30 rfl ntmps30 rfl fun _ _ _ _=>?_;refine iX (bB hn) ?_;refine lJ (fun e=>WG a b A B ND z D M S O ⟨7,ba,lo,eo,most,af,es⟩ ((es.take e).map fun e=>firstV ND D f e.to.toNat) e) es.length (cW 4 ⟨0,34,4,none⟩ rfl rfl rfl pO rfl rfl lX) ?_;intro e he;refine br ?_ ?_<;>intro hL
   ·have au:e < es.length:=sV bJ hL;obtain ⟨x,hx⟩:=gX au;obtain ⟨zC,hx1⟩:=wS x (mG hx)
    have j7:x.bare=false:=by
     cases hb:x.bare with
     | false=>rfl
     | true=>have:=cY x (mG hx) hb;omega
    obtain ⟨k,hk,ej⟩:=(aZ x (mG hx)).to1 j7;have V4:bZ D x=D.getD k 0:=by unfold bZ;rw [hk,dq]
    have hone:=ih k ej (by omega) (by omega)
    have du:dVals ((es.take e).map fun e=>firstV ND D f e.to.toNat) ++ [dVal (firstV ND D f k)]=dVals ((es.take (e + 1)).map fun e=>firstV ND D f e.to.toNat):=by
     rw [dJ hx,List.map_append,List.map_cons,List.map_nil,LS,hk,dq]
    have c9:(dVals ((es.take e).map fun e=>firstV ND D f e.to.toNat)).length=e:=by rw [bV,List.length_map,zLenT];omega
    generalize firstV ND D f k=u at hone du;obtain ⟨uk,un,us,ul⟩:=u;obtain ⟨en,eb,ea,et,r8,ew,ug,ui,uj,um⟩:=x;simp only at hk;subst hk;refine dS ?_;refine ⟨_,⟨cp _,aF hx⟩,?_⟩;refine cD en30 hone ?_;refine ⟨c9,⟨by rw [c9];simp [maxLen];omega,by rw [c9];simp;omega⟩,?_⟩;exact rE ⟨_,by omega,e + 1,rfl,by omega,rfl⟩ (aq 4 rfl (gp du (aK au (by omega))) rfl rfl rfl (wB2 du (aK au (by omega))))
   ·have aS:e=es.length:=sW bJ hL;subst aS;exact ⟨.agg (dVal (.mk 7 0 az ((es.take es.length).map fun e=>firstV ND D f e.to.toNat))),ax,by rw [List.take_length]⟩
  rw [ah c7];by_cases c8:ag=8
  ·subst c8;obtain ⟨c,x,hc,hx,hp⟩:=DK rfl;have I5:=I5 hx fun hb=>by obtain ⟨h2,h3⟩:=hp hb;exact ⟨h2,by omega⟩
   rw [ai rfl,hc];rw [hc] at z6;simp only;generalize tagV (firstV ND D f) es c=u at I5;obtain ⟨uk,un,us,ul⟩:=u;refine eG 56 [.cell 4 34] func30 rfl ntmps30 rfl fun _ _ _ _=>?_;refine iX (bB hn) ?_;refine dS ?_;refine cD Eh z6 ?_;refine cD X7 I5 ?_;exact ⟨.agg (dVal (.mk uk un us ul)),ax,rfl⟩
  ·rw [ah c8];refine eG 56 [.cell 4 34] func30 rfl ntmps30 rfl fun _ _ _ _=>?_;refine iX (bB hn) ?_;refine br (fun h=>absurd h (sU c2)) (fun _=>?_);refine br (fun h=>absurd h (sU c7)) (fun _=>?_);refine br (fun h=>absurd h (sU c8)) (fun _=>?_);exact ⟨.agg (dVal (dc ag 0)),ax,rfl⟩
end
section
variable (a b:Nat) (A B:List (List DV)) (ND:List Nd) (z:Int) (D M sz T:List Nat) (K:List Bool) {L:Nat}
abbrev WH (n:Nd) (vs:List Val) (e:Nat):St:=
 ⟨[(2,⟨[],.loc 0 0⟩),(4,⟨[],.loc 1 0⟩),(5,⟨[],.loc 2 0⟩),(6,⟨[],.loc 3 0⟩),(7,⟨[],.v (.int .i64 e)⟩)],[uA a b A B ND z D M sz T,zf,gG n,[.v (.int .i64 7),.v (.int .i64 0),.v (.string .empty),.sl 4 (dVals vs) (some 0)]],[⟨e,34,4,none⟩]⟩
theorem pZ (hO:gv ND D) (bw:∀ n∈ND,cz L ND.length n) (bT:∀ n∈ND,n.ap.length<=1099511627776) (hrn:∀ n∈ND,n.ag=2 -> -9223372036854775808<=n.lo/\n.hi<=9223372036854775807) (hlM:M.length=ND.length) (WE:∀ j,j < ND.length->K.getD j false=decide (1 < M.getD j 0)) (hKs:∀ i n,ND[i]? = some n->K.getD i false=true->ei n D K=true)
  (hT:∀ i,T.getD i 0≠0->∃ n,ND[i]? = some n/\K.getD i false=true/\T.getD i 0=othE T (ed sz D K n)):∀ (f i:Nat),T.getD i 0≠0->T.getD i 0<=f->T.getD i 0 < 4097->aV prog 31 [.agg (uA a b A B ND z D M sz T),.v (.int .i64 i)] (.agg (dVal (aY ND D K f i)))
 | 0,i,h0,h1,_=>by omega
 | f + 1,i,h0,h1,h2=>by
  obtain ⟨n,hn,hKi,hv⟩:=hT i h0;have hi:=(gS hn).1;have ie:=mG hn;have hN:=bw n ie;have pH:=hKs i n hn hKi;have zh:=oN hN pH;have T9:0 < D.getD i 0:=by rw [hO.get i n hn];exact oL hN pH
  have hone:=fun k hk hp=>nB a b A B ND z D M sz T hO bw bT ND.length k hk hp (hO.le k)
  have F3:∀ s j,1<=s->T.getD i 0=othE T (s,some j)->aV prog 31 [.agg (uA a b A B ND z D M sz T),.v (.int .i64 j)] (.agg (dVal (aY ND D K f j))):=fun s j hs h=>by
   have sY:T.getD j 0≠0:=fun hj=>h0 (by rw [h];simp only [othE];rw [ai hj])
   have au:T.getD j 0 < T.getD i 0:=by
    have h':=h;simp only [othE] at h';rw [ah sY] at h';unfold bf at h';omega
   exact pZ hO bw bT hrn hlM WE hKs hT f j sY (by omega) (by omega)
  have ef:=bT n ie;have Mf:=fun b'=>k0 a b A B ND z D M sz T b' hO.len hN ef;have Cm:=fun h=>su a b A B ND z D M sz T K hlM WE hN h ef
  have I5:∀ {c:Nat} {x:Ed},n.ap[c]? = some x->(x.bare=false->0 < bZ D x)->aV prog 82 [.agg (uA a b A B ND z D M sz T),.agg (gG n),.v (.int .i64 c)] (.agg (dVal (tagV (bc ND D) n.ap c))):=fun {c x} hx hp=>vo a b A B ND z D M sz T (L:=L) hN hx ef fun hb k hk=>by
   have h2:=hp hb;unfold bZ at h2;rw [hk,dq] at h2;exact hone k (zj hO h2) h2
  have DK:=hO.Pf hn T9;have aZ:=hN.fJ;have cY:=hN.bare;have zi:=hN.one;have jK:=hN.k1;have Fx:=hN.k8
  have si:∀ {x:Ed},x∈n.ap->x.bare=false->0 < bZ D x->∃ k:Nat,x.to=k/\k < ND.length/\aV prog 30 [.agg (uA a b A B ND z D M sz T),.v (.int .i64 k)] (.agg (dVal (bc ND D k))):=fun {x} hx hb h=>by
   obtain ⟨k,hk,ej⟩:=(aZ x hx).to1 hb;exact ⟨k,hk,ej,hone k ej (by unfold bZ at h;rw [hk,dq] at h;exact h)⟩
  have wS:=hO.T7 hn T9;rw [show aY ND D K (f + 1) i=oM (bc ND D) (aY ND D K f) D K n by rw [aY,hn]];obtain ⟨ag,ba,lo,eo,most,af,es⟩:=n;simp only at hv DK Mf Cm ef aZ cY zi si I5 wS jK Fx;have h7:=zh.c7;have h8:=zh.c8;simp only at h7 h8;have bJ:=aW es;rcases (show ag=1∨ag=2∨ag=3∨ag=4∨ag=5∨ag=6∨ag=7∨ag=8 by omega) with rfl | rfl | rfl | rfl | rfl | rfl | rfl | rfl
  ·refine eG 113 [.cell 4 34] func31 rfl ntmps31 rfl fun _ _ _ _=>?_;refine iX (bB hn) ?_;exact ⟨.agg (dVal (dc 1 1)),ax,rfl⟩
  ·have hlo:lo < eo:=by simpa [ei] using pH
   have hr:=hrn _ ie rfl;simp only at hr;have hw:IntKind.i64.wrap (lo + 1)=lo + 1:=wrap64 (by omega) (by omega);refine eG 113 [.cell 4 34] func31 rfl ntmps31 rfl fun _ _ _ _=>?_;refine iX (bB hn) ?_;exact ⟨.agg (dVal (dc 2 (lo + 1))),(gU hw),rfl⟩
  ·refine eG 113 [.cell 4 34] func31 rfl ntmps31 rfl fun _ _ _ _=>?_;refine iX (bB hn) ?_;exact ⟨.agg (dVal (.mk 3 0 ⟨#[97]⟩ [])),ax,rfl⟩
  ·refine eG 113 [.cell 4 34] func31 rfl ntmps31 rfl fun _ _ _ _=>?_;refine iX (bB hn) ?_;exact ⟨.agg (dVal (dc 4 1)),ax,rfl⟩
  ·obtain ⟨x,hx,j7,_⟩:=zi (.inl rfl);subst hx
   have r6:dN D x=true:=by
    cases h:dN D x with
    | true=>rfl
    | false=>simp [ei,manyN,h] at pH
   obtain ⟨k,hk,ej,F4⟩:=si List.mem_cons_self j7 (nr r6 j7)
   rw [show oM (bc ND D) (aY ND D K f) D K ⟨5,ba,lo,eo,most,af,[x]⟩ = .mk 5 0 az [bc ND D k] by
    show Val.mk 5 0 az [bc ND D x.to.toNat]=_
    rw [hk,dq]]
   generalize bc ND D k=u at F4;obtain ⟨uk,un,us,ul⟩:=u;obtain ⟨en,eb,ea,et,r8,ew,ug,ui,uj,um⟩:=x;simp only at hk;subst hk;refine eG 113 [.cell 4 34] func31 rfl ntmps31 rfl fun _ _ _ _=>?_;refine iX (bB hn) ?_;refine dS ?_;refine ⟨_,⟨by omega,rfl⟩,?_⟩;refine cD en30 F4 ?_;exact ⟨.agg (dVal (.mk 5 0 az [.mk uk un us ul])),ax,rfl⟩
  ·obtain ⟨x,hx,j7,_⟩:=zi (.inr rfl);subst hx
   have r6:dN D x=true:=by
    cases h:dN D x with
    | true=>rfl
    | false=>simp [ei,manyN,h] at pH
   obtain ⟨k,hk,ej,F4⟩:=si List.mem_cons_self j7 (nr r6 j7)
   rw [show oM (bc ND D) (aY ND D K f) D K ⟨6,ba,lo,eo,most,af,[x]⟩ = .mk 6 0 az [bc ND D k] by
    show Val.mk 6 0 az [bc ND D x.to.toNat]=_
    rw [hk,dq]]
   generalize bc ND D k=u at F4;obtain ⟨uk,un,us,ul⟩:=u;obtain ⟨en,eb,ea,et,r8,ew,ug,ui,uj,um⟩:=x;simp only at hk;subst hk;refine eG 113 [.cell 4 34] func31 rfl ntmps31 rfl fun _ _ _ _=>?_;refine iX (bB hn) ?_;refine dS ?_;refine ⟨_,⟨by omega,rfl⟩,?_⟩;refine cD en30 F4 ?_;exact ⟨.agg (dVal (.mk 6 0 az [.mk uk un us ul])),ax,rfl⟩
  ·have Cm:=Cm rfl;obtain ⟨c,x,hc,hx,j7⟩:=h7 rfl;rw [hc] at Cm;rw [show ed sz D K ⟨7,ba,lo,eo,most,af,es⟩=(sumX sz c es 0 1,some x.to.toNat) by simp [ed,hc,hx]] at hv;have htwo:=F3 _ _ (kj (by omega)) hv;obtain ⟨k,hk,ej⟩:=(aZ x (mG hx)).to1 j7;have eK:=(gS hx).1
   rw [show oM (bc ND D) (aY ND D K f) D K ⟨7,ba,lo,eo,most,af,es⟩ = .mk 7 0 az ((es.map fun e=>bc ND D e.to.toNat).set c (aY ND D K f k)) by
    show (match vJ K es with | some c=>(match es[c]? with | some e=>Val.mk 7 0 az ((es.map fun e:Ed=>bc ND D e.to.toNat).set c (aY ND D K f e.to.toNat)) | none=>dc 7 0) | none=>dc 7 0)=_;rw [hc];simp only [hx]
    rw [hk,dq]]
   rw [hk,dq] at htwo
   have sA:∀ {e:Nat} {y:Ed},es[e]? = some y->((es.map fun e=>bc ND D e.to.toNat).set c (aY ND D K f k))[e]? = some (if e=c then aY ND D K f k else bc ND D y.to.toNat):=fun {e y} hy=>by
    by_cases h:e=c
    ·subst h;rw [ai rfl,cO (by rw [List.length_map];exact eK)]
    ·rw [ah h,List.getElem?_set_ne (fun h2=>h h2.symm),List.getElem?_map,hy];all_goals rfl
   have vH:((es.map fun e=>bc ND D e.to.toNat).set c (aY ND D K f k)).length=es.length:=by rw [List.length_set,List.length_map]
   generalize ((es.map fun e=>bc ND D e.to.toNat).set c (aY ND D K f k))=ks at sA vH;generalize aY ND D K f k=u at htwo sA;refine eG 113 [.cell 4 34] func31 rfl ntmps31 rfl fun _ _ _ _=>?_;refine iX (bB hn) ?_;refine lJ (fun e=>WH a b A B ND z D M sz T ⟨7,ba,lo,eo,most,af,es⟩ (ks.take e) e) es.length (cW 4 ⟨0,34,4,none⟩ rfl rfl rfl pO rfl rfl lX) ?_;intro e he;refine br ?_ ?_<;>intro hL
   ·have au:e < es.length:=sV bJ hL;obtain ⟨y,hy⟩:∃ x,es[e]? = some x:=⟨_,gE au⟩
    have RS:y.bare=false:=by
     cases hb:y.bare with
     | false=>rfl
     | true=>have:=cY y (mG hy) hb;omega
    have sA:=sA hy;have c9:(dVals (ks.take e)).length=e:=by rw [bV,zLenT];omega
    obtain ⟨q,hq,GG,F4⟩:=si (mG hy) RS (wS rfl y (mG hy)).1;rw [hq,dq] at sA;refine cP X8 Cm ?_;refine br ?_ ?_<;>intro g
    ·have g:e=c:=Int.ofNat.inj (of_decide_eq_true g:((e:Nat):Int)=((c:Nat):Int));subst g;rw [ai rfl] at sA;rw [hx] at hy;cases hy;rw [hk] at hq;obtain rfl:k=q:=by omega
     have du:=qD sA;obtain ⟨uk,un,us,ul⟩:=u;obtain ⟨en,eb,ea,et,r8,ew,ug,ui,uj,um⟩:=x;simp only at hk;subst hk;refine dS ?_;refine ⟨_,⟨cp _,aF hx⟩,?_⟩;refine cD en31 htwo ?_;refine ⟨c9,⟨by rw [c9];simp [maxLen];omega,by rw [c9];simp;omega⟩,?_⟩;exact rE ⟨_,by omega,e + 1,rfl,by omega,rfl⟩ (aq 4 rfl (gp du (aK au (by omega))) rfl rfl rfl (wB2 du (aK au (by omega))))
    ·have g:¬ e=c:=fun h=>by subst h;simp [oz] at g
     rw [ah g] at sA;have du:=qD sA;generalize bc ND D q=u2 at F4 du;obtain ⟨vk,vn,vs,vl⟩:=u2;obtain ⟨en,eb,ea,et,r8,ew,ug,ui,uj,um⟩:=y;simp only at hq;subst hq;refine dS ?_;refine ⟨_,⟨cp _,aF hy⟩,?_⟩;refine cD en30 F4 ?_;refine ⟨c9,⟨by rw [c9];simp [maxLen];omega,by rw [c9];simp;omega⟩,?_⟩;exact rE ⟨_,by omega,e + 1,rfl,by omega,rfl⟩ (aq 4 rfl (gp du (aK au (by omega))) rfl rfl rfl (wB2 du (aK au (by omega))))
   ·have aS:e=es.length:=sW bJ hL;subst aS;exact ⟨.agg (dVal (.mk 7 0 az (ks.take es.length))),ax,by rw [List.take_of_length_le (by omega)]⟩
  ·obtain ⟨c,x,hc,hx,hp⟩:=DK rfl;have WI:=Mf (-1);rw [lE,hc] at WI;have zq:=Mf (c:Int);rw [BZ hc] at zq
   cases ht:iZ D es with
   | some q=>
    rw [ht] at zq;obtain ⟨y,hy,r6⟩:=mi ht;have I5:=I5 hy fun hb=>nr r6 hb
    rw [show oM (bc ND D) (aY ND D K f) D K ⟨8,ba,lo,eo,most,af,es⟩=tagV (bc ND D) es q by
     show (match iZ D es with | some c=>tagV (bc ND D) es c | none=>(match bG D es with | some c=>(match es[c]? with | some e=>Val.mk 8 c az [aY ND D K f e.to.toNat] | none=>dc 8 c) | none=>dc 8 0))=_
     rw [ht]]
    generalize tagV (bc ND D) es q=u at I5;obtain ⟨uk,un,us,ul⟩:=u;refine eG 113 [.cell 4 34] func31 rfl ntmps31 rfl fun _ _ _ _=>?_;refine iX (bB hn) ?_;refine cP Eh WI ?_;refine cP Eh zq ?_;refine cP X7 I5 ?_;exact ⟨.agg (dVal (.mk uk un us ul)),ax,rfl⟩
   | none=>
    rw [ht] at zq;obtain ⟨c',x',Af,p9,j7⟩:=h8 rfl ht;rw [hc] at Af;cases Af;rw [hx] at p9;cases p9;rw [show ed sz D K ⟨8,ba,lo,eo,most,af,es⟩=(1,some x.to.toNat) by simp [ed,ht,hc,hx]] at hv;have htwo:=F3 _ _ (aU 1) hv;obtain ⟨k,hk,ej⟩:=(aZ x (mG hx)).to1 j7
    rw [show oM (bc ND D) (aY ND D K f) D K ⟨8,ba,lo,eo,most,af,es⟩ = .mk 8 c az [aY ND D K f k] by
     show (match iZ D es with | some c=>tagV (bc ND D) es c | none=>(match bG D es with | some c=>(match es[c]? with | some e=>Val.mk 8 c az [aY ND D K f e.to.toNat] | none=>dc 8 c) | none=>dc 8 0))=_;rw [ht];simp only [hc,hx]
     rw [hk,dq]]
    rw [hk,dq] at htwo;generalize aY ND D K f k=u at htwo;obtain ⟨uk,un,us,ul⟩:=u;obtain ⟨en,eb,ea,et,r8,ew,ug,ui,uj,um⟩:=x;simp only at hk;subst hk;refine eG 113 [.cell 4 34] func31 rfl ntmps31 rfl fun _ _ _ _=>?_;refine iX (bB hn) ?_;refine cP Eh WI ?_;refine cP Eh zq ?_;refine dS ?_;refine ⟨_,⟨cp _,aF hx⟩,?_⟩;refine cD en31 htwo ?_;exact ⟨.agg (dVal (.mk 8 c az [.mk uk un us ul])),ax,rfl⟩
end
def sumP (sz:List Nat):List Ed->Nat
 | []=>0
 | e :: r=>cw sz e + sumP sz r
theorem Gn {sz:List Nat}:∀ {es:List Ed} {i n:Nat},n<=4097->sumX sz (-1) es i n < 4097->sumX sz (-1) es i n=n + sumP sz es
 | [],i,n,_,_=>rfl
 | e :: r,i,n,hn,h=>by
  rw [sumX,ah (by omega)] at h ⊢;have h1:=kj (sz:=sz) (c:=-1) (es:=r) (i:=i + 1) (fH (n + cw sz e));have h2:bf (n + cw sz e)=n + cw sz e∨bf (n + cw sz e)=4097:=by unfold bf;omega
  rw [Gn (fH _) h,sumP];omega
theorem uB {sz:List Nat} {c:Int}:∀ {es:List Ed} {i n j:Nat} {x:Ed},n<=4097->sumX sz c es i n < 4097->es[j]? = some x->((i + j:Nat):Int)≠c->cw sz x < 4097
 | e :: r,i,n,0,x,hn,h,hx,hc=>by
  simp only [List.getElem?_cons_zero,oI] at hx;subst hx;rw [sumX,ah (sU hc)] at h;have h1:=kj (sz:=sz) (c:=c) (es:=r) (i:=i + 1) (fH (n + cw sz e));have h2:bf (n + cw sz e)=n + cw sz e∨bf (n + cw sz e)=4097:=by unfold bf;omega
  omega
 | e :: r,i,n,j + 1,x,hn,h,hx,hc=>by
  rw [sumX] at h;refine uB (j:=j) ?_ h (sU hx) (by rw [show i + 1 + j=i + (j + 1) by omega];exact hc);split
  ·exact hn
  ·exact fH _
theorem Gp {sz:List Nat} {F:Ed->Val}:∀ {es:List Ed},(∀ e∈es,(F e).wt<=64 * cw sz e)->dQ (es.map F)<=64 * sumP sz es
 | [],_=>by simp [dQ]
 | e :: r,h=>by
  have h1:=h e List.mem_cons_self;have h2:=Gp (es:=r) fun x hx=>h x (dj _ hx);rw [List.map_cons,dQ,sumP];omega
theorem wx (k n:Int):(dc k n).wt=64:=rfl
theorem wy {ND:List Nd} {D:List Nat} (hO:gv ND D) {L:Nat} (bw:∀ n∈ND,cz L ND.length n):∀ (f i:Nat),D.getD i 0<=f->0 < D.getD i 0->(kk ND D).getD i 0 < 4097->(bc ND D i).wt<=64 * (kk ND D).getD i 0
 | 0,i,h,h0,_=>by omega
 | f + 1,i,h,h0,hs=>by
  have hi:=zj hO h0;have hn:ND[i]? = some ND[i]:=gE hi;have hN:=bw _ (mG hn);generalize ND[i]=n at hn hN;have bT:=J5 hO hn h0;rw [fstV_eq hO hn h0];rw [bT] at hs ⊢;have hone:=pu (kk ND D) D n
  have abf:∀ {e:Ed},0 < bZ D e->bZ D e < D.getD i 0->cw (kk ND D) e < 4097->e.bare=false->(bc ND D e.to.toNat).wt<=64 * cw (kk ND D) e:=fun {e} h2 h3 h4 hb=>by
   have hp:cw (kk ND D) e=(kk ND D).getD e.to.toNat 0:=by unfold cw bZ;rw [hb];all_goals rfl
   rw [hp] at h4 ⊢;unfold bZ at h2 h3;exact wy hO bw f _ (by omega) h2 h4
  split
  ·rw [wx];omega
  ·split
   ·rename_i h7;unfold sizeF at hs ⊢;rw [ai h7] at hs ⊢;have fI:=Gn (by omega) hs
    have hw:dQ (n.ap.map fun e=>bc ND D e.to.toNat)<=64 * sumP (kk ND D) n.ap:=Gp fun e he=>by
     obtain ⟨h2,h3⟩:=hO.T7 hn h0 h7 e he;obtain ⟨j,hj,rfl⟩:=List.getElem_of_mem he;refine abf h2 h3 (uB (n:=1) (by omega) hs (gE hj) (by omega)) ?_
     cases hb:n.ap[j].bare with
     | false=>rfl
     | true=>have:=hN.bare _ he hb;omega
    rw [Val.wt,fI];show 64 + 0 + _<=_;omega
   ·split
    ·rename_i h7 h8;obtain ⟨c,e,hc,he,hp⟩:=hO.Pf hn h0 h8;unfold sizeF at hs ⊢;rw [ah h7,ai h8,hc] at hs ⊢;simp only [he] at hs ⊢;simp only [tagV,he]
     cases hb:e.bare with
     | true=>
      rw [Val.wt];show 64 + 0 + 0<=_;unfold bf;omega
     | false=>
      obtain ⟨h2,h3⟩:=hp hb;have au:cw (kk ND D) e < 4097:=by unfold bf at hs;omega
      have:=abf h2 h3 au hb;rw [Val.wt];show 64 + 0 + ((bc ND D e.to.toNat).wt + 0)<=_;unfold bf at hs ⊢;omega
    ·rw [wx];omega
theorem zr {m:Nat}:∀ {l:List Val},(∀ v∈l,v.wt<=m)->dQ l<=l.length * m
 | [],_=>by simp [dQ]
 | v :: r,h=>by
  have h1:=h v List.mem_cons_self;have h2:=zr (l:=r) fun x hx=>h x (dj _ hx);rw [dQ,List.length_cons,Nat.add_mul,Nat.one_mul];omega
theorem Gq {u:Val}:∀ {l:List Val} {c:Nat} {m:Nat},(∀ (j:Nat) v,j≠c->l[j]? = some v->v.wt<=m)->dQ (l.set c u)<=l.length * m + u.wt
 | [],_,_,_=>by simp [dQ]
 | v :: r,0,m,h=>by
  have h2:=zr (l:=r) (m:=m) fun x hx=>by
   obtain ⟨j,hj,rfl⟩:=List.getElem_of_mem hx;exact h (j + 1) _ (by omega) (by simp [hj])
  rw [List.set_cons_zero,dQ,List.length_cons,Nat.add_mul,Nat.one_mul];omega
 | v :: r,c + 1,m,h=>by
  have h1:=h 0 v (by omega) rfl;have h2:=Gq (u:=u) (l:=r) (c:=c) (m:=m) fun j x hj hx=>h (j + 1) x (by omega) (sU hx);rw [List.set_cons_succ,dQ,List.length_cons,Nat.add_mul,Nat.one_mul];omega
theorem zs {ND:List Nd} {L:Nat} (bw:∀ n∈ND,cz L ND.length n):∀ (f i:Nat),(ee ND).getD i 0≠0->(ee ND).getD i 0<=f->(ee ND).getD i 0 < 4097->(aY ND (aM ND) (eV ND) f i).wt<=(ee ND).getD i 0 * 33554432
 | 0,i,h0,h1,_=>by omega
 | f + 1,i,h0,h1,h2=>by
  obtain ⟨n,hn,hKi,hv⟩:=Dl h0;have hO:=eH ND;have hN:=bw n (mG hn);have pH:=zk hn hKi;have zh:=oN hN pH
  have F3:∀ s j,1<=s->(ee ND).getD i 0=othE (ee ND) (s,some j)->(aY ND (aM ND) (eV ND) f j).wt + 33554432<=(ee ND).getD i 0 * 33554432:=fun s j hs h=>by
   have sY:(ee ND).getD j 0≠0:=fun hj=>h0 (by rw [h];simp only [othE];rw [ai hj])
   have au:(ee ND).getD j 0 < (ee ND).getD i 0:=by
    have h':=h;simp only [othE] at h';rw [ah sY] at h';unfold bf at h';omega
   have:=zs bw f j sY (by omega) (by omega);omega
  have Ri:∀ {e:Ed},dN (aM ND) e=true->cw (bh ND) e < 4097->e.bare=false->(bc ND (aM ND) e.to.toNat).wt<=262208:=fun {e} ht hp hb=>by
   have qh:cw (bh ND) e=(bh ND).getD e.to.toNat 0:=by unfold cw bZ;rw [hb];all_goals rfl
   rw [qh] at hp;have h0:=nr ht hb;unfold bZ at h0;have:(bc ND (aM ND) e.to.toNat).wt<=64 * (bh ND).getD e.to.toNat 0:=wy hO bw _ _ (aU _) h0 hp;omega
  have PT:∀ {e:Ed},bf (1 + cw (bh ND) e) < 4097->cw (bh ND) e < 4097:=fun {e} h=>by unfold bf at h;omega
  have Sk:∀ {c:Nat} {e:Ed},n.ap[c]? = some e->dN (aM ND) e=true->cw (bh ND) e < 4097->(tagV (bc ND (aM ND)) n.ap c).wt<=33554432:=fun {c e} he ht hp=>by
   simp only [tagV,he]
   cases hb:e.bare with
   | true=>rw [Val.wt];show 64 + 0 + 0<=_;omega
   | false=>
    have:=Ri ht hp hb;rw [Val.wt];show 64 + 0 + ((bc ND (aM ND) e.to.toNat).wt + 0)<=_;omega
  have sS:1 * 33554432<=(ee ND).getD i 0 * 33554432:=Nat.mul_le_mul_right _ (by omega);have hE:∀ s,othE (ee ND) (s,none)=s:=fun _=>rfl;rw [show aY ND (aM ND) (eV ND) (f + 1) i=oM (bc ND (aM ND)) (aY ND (aM ND) (eV ND) f) (aM ND) (eV ND) n by rw [aY,hn]];have sP:=hv;unfold oM;unfold ed at hv;split
  ·rw [wx];omega
  ·split
   ·show 64 + 1 + 0<=_;omega
   ·split
    ·rename_i PF;obtain ⟨x,hx,j7,_⟩:=hN.one PF;rw [hx] at hv ⊢;rw [ai PF] at hv;simp only [List.getElem?_cons_zero] at hv ⊢
     have r6:dN (aM ND) x=true:=by
      cases h:dN (aM ND) x with
      | true=>rfl
      | false=>rcases PF with h5 | h5<;>simp [ei,manyN,h,h5,hx] at pH
     have hv:(ee ND).getD i 0=bf (1 + cw (bh ND) x):=hv;have:=Ri r6 (PT (by omega)) j7;rw [Val.wt];show 64 + 0 + ((bc ND (aM ND) x.to.toNat).wt + 0)<=_;omega
    ·split
     ·rename_i PF h7;rw [ah PF,ai h7] at hv;obtain ⟨c,x,hc,hx,j7⟩:=zh.c7 h7;rw [hc] at hv ⊢;simp only [hx] at hv ⊢
      have hS:sumX (bh ND) c n.ap 0 1 < 4097:=by
       have LY:(ee ND).getD i 0=othE (ee ND) (sumX (bh ND) c n.ap 0 1,some x.to.toNat):=hv;simp only [othE] at LY;split at LY
       ·exact (h0 LY).elim
       ·have:=lB (sz:=bh ND) (c:=c) (es:=n.ap) (i:=0) (n:=1) (by omega);unfold bf at LY;omega
      have hr:=F3 _ _ (kj (by omega)) hv;have T9:0 < (aM ND).getD i 0:=by rw [hO.get i n hn];exact oL hN pH
      have HU:=(hN.many (.inl h7)).1
      have hw:=Gq (u:=aY ND (aM ND) (eV ND) f x.to.toNat) (l:=n.ap.map fun e=>bc ND (aM ND) e.to.toNat) (c:=c) (m:=262208) fun j v hj hv=>by
       rw [List.getElem?_map] at hv
       cases he:n.ap[j]? with
       | none=>rw [he] at hv;cases hv
       | some e=>
        rw [he] at hv;cases hv;have Qc:=mG he
        have hb:e.bare=false:=by
         cases hb:e.bare with
         | false=>rfl
         | true=>have:=hN.bare _ Qc hb;omega
        refine Ri ?_ (uB (n:=1) (by omega) hS he (by omega)) hb;have:=(hO.T7 hn T9 h7 e Qc).1;unfold dN;rw [hb,Bool.false_or];exact decide_eq_true this
      rw [List.length_map] at hw;have hm:n.ap.length * 262208<=64 * 262208:=Nat.mul_le_mul_right _ HU;rw [Val.wt];show 64 + 0 + _<=_;omega
     ·split
      ·rename_i PF h7 h8;rw [ah PF,ah h7,ai h8] at hv
       cases ht:iZ (aM ND) n.ap with
       | some c=>
        rw [ht] at hv;obtain ⟨x,hx,r6⟩:=mi ht;simp only [hx] at hv;have hv:(ee ND).getD i 0=bf (1 + cw (bh ND) x):=hv;have:=Sk hx r6 (PT (by omega));simp only;omega
       | none=>
        rw [ht] at hv;obtain ⟨c,x,hc,hx,j7⟩:=zh.c8 h8 ht;rw [hc] at hv;simp only [hx] at hv;have hr:=F3 _ _ (aU 1) hv;simp only [hc,hx];rw [Val.wt];show 64 + 0 + ((aY ND (aM ND) (eV ND) f x.to.toNat).wt + 0)<=_;omega
      ·rw [wx];omega
theorem IK {ND:List Nd} {ks:List Val} {f:Nat->Int} {e:Nat} {x:Val} (h:ks[e]? = some x):refVs ND (ks.drop e) f e=(yN ND x (f e) && refVs ND (ks.drop (e + 1)) f (e + 1)):=by
 rw [drop_cons h,refVs]
abbrev abg (W:List DV) (v:Val) (d:Nd) (ok:Bool) (e:Nat):St:=
 ⟨[(3,⟨[],.loc 0 0⟩),(5,⟨[],.loc 1 0⟩),(7,⟨[],.loc 2 0⟩),(8,⟨[],.v (.bool ok)⟩),(9,⟨[],.v (.int .i64 e)⟩)],[W,dVal v,gG d],[]⟩
set_option maxHeartbeats 4000000 in
theorem vq (a b:Nat) (A B:List (List DV)) (rt:Int) {ND:List Nd} {L:Nat} (bw:∀ n∈ND,cz L ND.length n):∀ (k:Nat) (v:Val),v.wt<=k->v.wt<=1099511627776->∀ i:Int,aV prog 72 [.agg (wG a b A B ND rt),.v (.int .i64 i),.agg (dVal v)] (.v (.bool (yN ND v i)))
 | 0,v,h,_=>by have:=v.eO;omega
 | k + 1,.mk q z s ks,h,hb=>fun i=>by
  have ih:=vq a b A B rt bw k;have ej:=gP ks;have bJ:=bV ks;have gA:=hb;rw [Val.wt] at h hb;rw [yN];have hNl:=cy ND
  cases hd:mf ND i with
  | none=>
   have hn:=yR hd;refine eG 164 [.tmp 6] func72 rfl ntmps72 rfl fun _ _ _ _=>?_;refine br (fun _=>?_) (fun c=>?_)
   ·exact (rfl:_=_)
   ·exfalso;have:=c;simp [ay,hNl] at this;omega
  | some d=>
   obtain ⟨h0,hg⟩:=ia hd;obtain ⟨j,rfl⟩:∃ j:Nat,i=j:=⟨i.toNat,by omega⟩;have hg:ND[j]? = some d:=sU hg;have nY:=(gS hg).1;have hN:=bw d (mG hg);have jK:=hN.k1;have Fx:=hN.k8;have yQ:=hN.many;have sH:=fun m=>Lt hN (.mk q z s ks) m;simp only;have ef:=aW d.ap;have hbl:=cv d.af;generalize hf:JR d (.mk q z s ks)=f at sH;have hF:Fw d (.mk q z s ks)=Fw d (.mk q z s ks):=rfl;obtain ⟨ag,ba,lo,hi,most,af,es⟩:=d;simp only at jK Fx yQ ef hbl;have hkc:((ks.length:Int)=(es.length:Int))↔ks.length=es.length:=by omega
   have OC:∀ b:Bool,b=pickB (pickB (!decide (q=ag)) true (pickB (!decide (q=3)) (!decide (s=⟨#[]⟩)) false)) true (pickB (decide (0 < (s.size:Int))) (decide (most < (s.size:Int))) false)->b=yM ⟨ag,ba,lo,hi,most,af,es⟩ (.mk q z s ks):=fun b h=>by
    rw [h,tY,Bool.eq_iff_iff];have hB:yM ⟨ag,ba,lo,hi,most,af,es⟩ (.mk q z s ks)=(decide (q≠ag) || (decide (q≠3) && decide (s≠az)) || (decide (0 < s.size) && decide (most < (s.size:Int)))):=rfl;rw [hB];simp [ay,aw,or_assoc]
   refine eG 164 [.tmp 6] func72 rfl ntmps72 rfl fun _ _ _ _=>?_;refine br (fun c=>?_) (fun _=>?_)
   ·exfalso;have:=c;simp [ay,hNl] at this;omega
   refine iX (bB hg) ?_;refine br ?_ ?_<;>intro c
   ·have c:=(OC _ rfl).symm.trans c;rw [ai c];exact (rfl:_=_)
   have c:=(OC _ rfl).symm.trans c;rw [ah (by rw [c];simp)];rcases (show ag=1∨ag=2∨ag=3∨ag=4∨ag=5∨ag=6∨ag=7∨ag=8 by omega) with c | c | c | c | c | c | c | c
   all_goals
    repeat (first | (refine br (fun h=>?_) (fun _=>?_);focus (simp [c] at h;done)) | (refine br (fun _=>?_) (fun h=>?_);rotate_left;focus (simp [c] at h;done)))
   all_goals
    try
     refine dI ?_
     have hc:∀ b:Bool,b=pickB (decide (0<=z)) (decide (z < ((cJ es).length:Int))) false->b=decide (0<=z/\z < es.length):=fun b h=>by
      rw [h,ef,aw,Bool.eq_iff_iff];simp
     refine br (fun g=>?pp) (fun g=>?nn)
     case' pp=>
      have g8:=of_decide_eq_true ((hc _ rfl).symm.trans (sU g));obtain ⟨x,hx8⟩:∃ x,es[z.toNat]? = some x:=⟨_,gE (by omega)⟩;have hm64:=(yQ (.inr c)).1;have hw:max 0 (min z (IntKind.i64.wrap (((cJ es).length:Int) - 1)))=z:=by rw [ef,wrap64 (by omega) (by omega)];omega
      refine ⟨_,⟨Int.le_max_left _ _,by rw [hw];exact aF hx8⟩,?_⟩;show pL _ _ _ _
     case' nn=>
      have g8:=of_decide_eq_false ((hc _ rfl).symm.trans (sU g));show pL _ _ _ _
   all_goals
    refine bA (fun j st=>∃ (e:Nat) (ok:Bool),st=abg (wG a b A B ND rt) (.mk q z s ks) ⟨ag,ba,lo,hi,most,af,es⟩ ok e/\e<=ks.length/\(Fw ⟨ag,ba,lo,hi,most,af,es⟩ (.mk q z s ks) && refVs ND ks f 0)=(ok && refVs ND (ks.drop e) f e)/\j=ks.length - e) ks.length (abg (wG a b A B ND rt) (.mk q z s ks) ⟨ag,ba,lo,hi,most,af,es⟩ _ 0) (aj ⟨_,rfl⟩ wA rfl rfl rfl wB) ⟨0,_,rfl,by omega,congrArg (fun b=>b && refVs ND ks f 0) ?_,by omega⟩ ?_
    ·first
      | (simp [Fw,c,ay,aw,Val.n,Val.ks,ef,hbl,bJ,hkc,g8,hx8];rw [(gS hx8).2];cases x.bare<;>simp;done)
      | (simp [Fw,c,ay,aw,Val.n,Val.ks,ef,hbl,bJ,hkc,g8];try rfl;done)
      | (simp [Fw,c,ay,aw,Val.n,Val.ks,ef,hbl,bJ,hkc];try rfl;done)
    ·rintro _ st ⟨e,ok,rfl,he,aP,rfl⟩;refine br ?_ ?_<;>intro hL
     ·have hL:e < ks.length/\ok=true:=by
       have:=hL;simp [aw,bJ] at this;exact this
      obtain ⟨au,hok1⟩:=hL;obtain ⟨x,hx⟩:=gX au;have TB:=jR (mG hx);rw [hok1,Bool.true_and,IK hx] at aP;have eo:=ih x (by omega) (by omega) (f e);obtain ⟨xk,xn,xs,xl⟩:=x;refine dI ?_;refine cD Yw (sH e) ?_;refine iX (iv hx) ?_;refine cD U5 eo ?_;exact ⟨abg (wG a b A B ND rt) (.mk q z s ks) ⟨ag,ba,lo,hi,most,af,es⟩ _ (e + 1),(aj ⟨_,rfl⟩ wA rfl rfl rfl (dy (aK au (by omega)))),ks.length - (e + 1),by omega,e + 1,_,rfl,by omega,aP,rfl⟩
     ·have hL:¬ (e < ks.length/\ok=true):=by
       have:=hL;simp [aw,bJ] at this;simpa using this
      refine (congrArg (fun b=>DV.v (.bool b)) ?_:_=_);rw [aP]
      cases ok with
      | false=>rfl
      | true=>rw [List.drop_of_length_le (by simp at hL;omega),refVs];all_goals rfl
abbrev Um (a b:Val) (e:Nat):St:=⟨[(2,⟨[],.loc 0 0⟩),(3,⟨[],.loc 1 0⟩),(5,⟨[],.v (.int .i64 e)⟩)],[dVal a,dVal b],[]⟩
theorem vt:∀ (k:Nat) (a:Val),a.wt<=k->a.wt<=1099511627776->∀ b:Val,aV prog 75 [.agg (dVal a),.agg (dVal b)] (.v (.bool (sameV a b)))
 | 0,v,h,_=>by have:=v.eO;omega
 | k + 1,.mk q n s ks,h,hb=>fun b=>by
  have ih:=vt k;rw [Val.wt] at h hb;obtain ⟨bk,bn,bs,bl⟩:=b;have nE:=gP ks;have h1:=bV ks;have h2:=bV bl;have hS:sameV (.mk q n s ks) (.mk bk bn bs bl)=(decide (q=bk) && decide (n=bn) && decide (s=bs) && sameVs ks bl):=by rw [sameV]
  refine eG 53 [.tmp 4] func75 rfl ntmps75 rfl fun _ _ _ _=>?_;refine br ?_ ?_<;>intro c
  ·have c:¬ (q=bk/\n=bn/\s=bs/\ks.length=bl.length):=by
    have:=c;simp [ay,h1,h2] at this;intro hh;obtain ⟨a1,a2,a3,a4⟩:=hh;simp [a1,a2,a3,a4] at this
   refine (congrArg (fun b=>DV.v (.bool b)) ?_:_=_);rw [hS];by_cases hl:ks.length=bl.length
   ·symm;rw [Bool.and_eq_false_iff];left;simp only [Bool.and_eq_false_iff,decide_eq_false_iff_not];by_cases a1:q=bk
    ·by_cases a2:n=bn
     ·right;exact fun a3=>c ⟨a1,a2,a3,hl⟩
     ·left;right;exact a2
    ·left;left;exact a1
   ·rw [yJ hl,Bool.and_false]
  ·have c:q=bk/\n=bn/\s=bs/\ks.length=bl.length:=by
    have:=c;simp [ay,h1,h2] at this;obtain ⟨⟨⟨a1,a2⟩,a3⟩,a4⟩:=this;exact ⟨a1,a2,a3,by omega⟩
   obtain ⟨rfl,rfl,rfl,hl⟩:=c;simp only [decide_true,Bool.true_and] at hS;rw [hS]
   refine bA (fun j st=>∃ e:Nat,st=Um (.mk q n s ks) (.mk q n s bl) e/\e<=ks.length/\sameVs ks bl=sameVs (ks.drop e) (bl.drop e)/\j=ks.length - e) ks.length
    (Um (.mk q n s ks) (.mk q n s bl) 0) (aj ⟨_,rfl⟩ wA rfl rfl rfl wB) ⟨0,rfl,by omega,rfl,by omega⟩ ?_
   rintro _ st ⟨e,rfl,he,aP,rfl⟩;refine br ?_ ?_<;>intro h
   ·have au:e < ks.length:=sV h1 h;obtain ⟨x,hx⟩:=gX au;obtain ⟨y,hy⟩:∃ y,bl[e]? = some y:=⟨_,gE (hl ▸ au)⟩;rw [drop_cons hx,drop_cons hy,sameVs] at aP;have TB:=jR (mG hx);have UF:=ih x (by omega) (by omega) y;obtain ⟨xk,xn,xs,xl⟩:=x;obtain ⟨yk,yn,ys,yl⟩:=y;refine dI ?_;refine iX (iv hx) ?_;refine iX (iv hy) ?_;refine cD X5 UF ?_;refine br ?_ ?_<;>intro h
    ·have bF:sameV (.mk xk xn xs xl) (.mk yk yn ys yl)=false:=sU h;refine (congrArg (fun b=>DV.v (.bool b)) ?_:_=_);rw [aP,bF,Bool.false_and]
    ·have bF:sameV (.mk xk xn xs xl) (.mk yk yn ys yl)=true:=sU h;rw [bF,Bool.true_and] at aP;exact rE ⟨_,by omega,e + 1,rfl,by omega,aP,rfl⟩ (aj ⟨_,rfl⟩ wA rfl rfl rfl (dy (aK au (by omega))))
   ·have aS:ks.length<=e:=sV h1 h;rw [List.drop_of_length_le (by omega),List.drop_of_length_le (by omega)] at aP;refine (congrArg (fun b=>DV.v (.bool b)) ?_:_=_);rw [aP];simp [sameVs]
theorem oS (a:Val) (ha:a.wt<=1099511627776) (b:Val):aV prog 26 [.agg (dVal a),.agg (dVal b)] (.v (.bool (sameV a b))):=by
 have h:=vt _ a (aU _) ha b;obtain ⟨q,n,s,ks⟩:=a;obtain ⟨bk,bn,bs,bl⟩:=b;refine eG 8 [.tmp 4] func26 rfl ntmps26 rfl fun _ _ _ _=>?_;refine cP X5 h ?_;exact (rfl:_=_)
section
variable (a b:Nat) (A B:List (List DV)) (rt:Int) {ND:List Nd} {L:Nat} (bw:∀ n∈ND,cz L ND.length n)
include bw
end
mutual
theorem B0:∀ (t:Ty),rngT t->∀ u∈flatT t,rngT u
 | .mk h ps,hr,u,hu=>by
  rw [flatT] at hu;split at hu
  ·cases hu
  ·rcases bL hu with rfl | hu
   ·exact hr
   ·rw [rngT] at hr;exact B1 ps hr.2.2.2 u hu
theorem B1:∀ (ps:Pts),rngP ps->∀ u∈flatP ps,rngT u
 | .nil,_,u,hu=>by cases hu
 | .cons p v r,hr,u,hu=>by
  rw [flatP] at hu;rw [rngP] at hr;rcases List.mem_append.1 hu with hu | hu
  ·split at hu
   ·cases hu
   ·exact B0 v hr.2.2.1 u hu
  ·exact B1 r hr.2.2.2 u hu
end
theorem Gr {lev:List Wd->Int} {s:Sch}:∀ (ps:Pts) (k:Nat),rngP ps->∀ e∈edsP lev s ps k,Qf e.cn
 | .nil,_,_,e,he=>by cases he
 | .cons p v r,k,hr,e,he=>by
  rw [edsP] at he;rw [rngP] at hr;rcases bL he with rfl | he
  ·exact hr.2.1
  ·exact Gr r _ hr.2.2.2 e he
def rngN (n:Nd):Prop:=Qf n.lo/\Qf n.hi/\∀ e∈n.ap,Qf e.cn
theorem IL {S:Sch} (hr:QX S) {n:Nd} (h:n∈resNds S):rngN n:=by
 rw [mc] at h;obtain ⟨t,ht,u,hu,k,rfl⟩:=yF h
 have h1:rngT t:=by
  rcases List.mem_append.1 ht with h | h
  ·obtain ⟨x,hx,rfl⟩:=List.mem_map.1 h;exact hr.1 x hx
  ·simp only [List.mem_singleton] at h;subst h;exact hr.2
 have h2:=B0 t h1 u hu;obtain ⟨uh,us⟩:=u;rw [rngT] at h2;exact ⟨h2.1,h2.2.1,Gr us _ h2.2.2.2⟩
theorem B2 (l:List Nat) (i:Int) (hl:l.length<=1099511627776):aV prog 29 [.sl 1 (dInts l) none,.v (.int .i64 i)] (.v (.bool (pK l i))):=by
 have bJ:=bi l;by_cases h:0<=i/\i < l.length
 ·obtain ⟨j,rfl⟩:∃ j:Nat,i=j:=⟨i.toNat,by omega⟩;obtain ⟨z,hz⟩:∃ z,l[j]? = some z:=⟨_,gE (by omega)⟩
  have hE:pK l j=(decide (0 < z) && decide (z < 4097)):=by
   unfold pK;rw [dq,aH,hz,decide_eq_true (by omega),Bool.true_and];rfl
  rw [hE];refine eG 27 [.tmp 4] func29 rfl ntmps29 rfl fun _ _ _ _=>?_;refine br ?_ ?_<;>intro c
  ·refine ⟨_,⟨cp _,aG hz⟩,?_⟩;refine br ?_ ?_<;>intro c2
   ·have c2:0 < z:=by simpa [lastG,pickB] using c2
    refine ⟨_,⟨cp _,aG hz⟩,?_⟩;refine (congrArg (fun b=>DV.v (.bool b)) ?_:_=_);rw [decide_eq_true c2];simp [pickB];omega
   ·have c2:¬ 0 < z:=by simpa [lastG,pickB] using c2
    refine (congrArg (fun b=>DV.v (.bool b)) ?_:_=_);rw [decide_eq_false c2];simp [pickB]
  ·exfalso;have:(j:Int) < l.length:=by omega
   simp [bJ,aw] at c;omega
 ·have hE:pK l i=false:=by
   cases hk:pK l i with
   | false=>rfl
   | true=>
    obtain ⟨j,rfl,h2,_⟩:=py.1 hk;rw [aH,cQ (by omega)] at h2;exact (h2 rfl).elim
  rw [hE];refine eG 27 [.tmp 4] func29 rfl ntmps29 rfl fun _ _ _ _=>?_;refine br ?_ ?_<;>intro c
  ·exfalso;simp [bJ,aw] at c;omega
  ·exact (rfl:_=_)
def mr:Sch:=⟨[⟨⟨#[97]⟩,0⟩],[],[],.mk ⟨2,0,3,9,0,[],⟨az,0⟩⟩ .nil⟩
theorem LU:(ma mr).1=0:=by decide +kernel
theorem PU:pK (bh (resNds mr)) 0=true:=by decide +kernel
theorem PV:pK (ee (resNds mr)) 0=true:=by decide +kernel
theorem Ss:bc (resNds mr) (aM (resNds mr)) (0:Int).toNat=dc 2 3:=by kernel_rfl
theorem Su:pJ (resNds mr) (aM (resNds mr)) (eV (resNds mr)) (0:Int).toNat=dc 2 4:=by kernel_rfl
theorem Sv {S:Sch} (hr:QX S):∀ n∈resNds S,n.ag=2 -> -9223372036854775808<=n.lo/\n.hi<=9223372036854775807:=fun n hn _=>by
 have h:=IL hr hn;exact ⟨h.1.1,h.2.1.2⟩
theorem PW:∀ n∈resNds mr,n.ag=2 -> -9223372036854775808<=n.lo/\n.hi<=9223372036854775807:=by
 have h:(resNds mr).all (fun n=>decide (-9223372036854775808<=n.lo) && decide (n.hi<=9223372036854775807))=true:=by decide +kernel
 intro n hn _;have:=List.all_eq_true.1 h n hn;rw [aQ] at this;exact ⟨of_decide_eq_true this.1,of_decide_eq_true this.2⟩
theorem lives26_spec:aV prog 21 [] (.v (.bool true)):=by
 have hwt:mr.wt<=1099511627776:=by decide +kernel
 have hb:=(yi mr hwt).mono (Ψ:=fun r _ _=>Ih mr r) fun _ _ _ h=>Bl hwt h;refine eG 44 [.tmp 0] func21 rfl ntmps21 rfl fun _ _ _ _=>?_;refine kG XT rfl hb ax (fun r hr=>?_);rcases hr with ⟨hr,_⟩ | ⟨_,PC,hP,rfl⟩
 ·exact (hr LU).elim
 have h1:=F7 hP 0;rw [PU,ai rfl,Ss] at h1;have h2:=Du hP PW 0;rw [PV,ai rfl,Su] at h2;refine cP en32 h1 ?_;refine cP en33 h2 ?_;exact (rfl:_=_)
theorem Gs (S:Sch) (hS:S.wt<=1099511627776):Ev prog 20 [.agg (gm S)] [] [] (fun r _ _=>T3 S r):=by
 have ga:=CX S hS;have RB:=C4 S hS;unfold T3;generalize ma S=R at RB ⊢;obtain ⟨ae,order,types,⟨rh,rp⟩⟩:=S;refine eG 12 [.tmp 2] func20 rfl ntmps20 rfl fun _ _ _ _=>?_;refine kG en8 rfl ga ax (fun r hr=>?_);obtain ⟨g,rfl⟩:=hr
 cases g with
 | true=>
  exact ⟨false,rfl,fun h=>by cases h⟩
 | false=>
  refine cP en60 RB ?_;refine ⟨_,VY _ _ R (0,0),?_⟩;refine ⟨_,rfl,fun h=>?_⟩;simp [pickB] at h;exact h.1
abbrev IM (A B:List (List DV)) (ND:List Nd) (rt:Int):List DV:=uA 2 1 A B ND rt (aM ND) (qL (aM ND) (eV ND)) (bh ND) (ee ND)
theorem WJ {L:Nat} {ND:List Nd} (bw:∀ n∈ND,cz L ND.length n) (j:Nat):(eV ND).getD j false=decide (1 < (qL (aM ND) (eV ND)).getD j 0):=
 Pb (D:=aM ND) bw (fun j=>by
  have:=depN_get ND ND.length j
  rwa [depN_end] at this) j
theorem vu {L:Nat} {ND:List Nd} (A B:List (List DV)) (rt:Int) (bw:∀ n∈ND,cz L ND.length n) (bT:∀ n∈ND,n.ap.length<=1099511627776) {j:Nat} (h:(bh ND).getD j 0≠0) :
  aV prog 30 [.agg (IM A B ND rt),.v (.int .i64 j)] (.agg (dVal (bc ND (aM ND) j))):=by
 have h0:=(lC (eH ND)).1.1 (Nat.pos_of_ne_zero h);exact nB 2 1 A B ND rt (aM ND) _ _ _ (eH ND) bw bT ND.length j (zj (eH ND) h0) h0 ((eH ND).le j)
theorem DD {L:Nat} {ND:List Nd} (A B:List (List DV)) (rt:Int) (bw:∀ n∈ND,cz L ND.length n) (bT:∀ n∈ND,n.ap.length<=1099511627776) (hrn:∀ n∈ND,n.ag=2 -> -9223372036854775808<=n.lo/\n.hi<=9223372036854775807) {j:Nat} (h:(ee ND).getD j 0≠0) (h2:(ee ND).getD j 0 < 4097) :
  aV prog 31 [.agg (IM A B ND rt),.v (.int .i64 j)] (.agg (dVal (pJ ND (aM ND) (eV ND) j))):=
 pZ 2 1 A B ND rt (aM ND) (qL (aM ND) (eV ND)) (bh ND) (ee ND) (eV ND) (eH ND) bw bT hrn (by rw [Is];exact (eH ND).len) (fun j _=>WJ bw j) (fun i n hn h=>zk hn h) (fun i h=>Dl h) 4096 j h (by omega) h2
theorem pB {l:List Val} {e:Nat} {v:Val} (h:l[e]? = some v):dVals (l.take e) ++ [dVal v]=dVals (l.take (e + 1)):=by
 rw [dJ h,bY,bY,List.map_append];all_goals rfl
section
variable (PC:List DV) (ND:List Nd) (D:List Nat) (K:List Bool) (sz ot:List Nat) {L:Nat}
abbrev Sw (k:Int) (l:List Val):List DV:=[.v (.int .i64 k),.v (.int .i64 0),.v (.string .empty),.sl 4 (dVals l) (some 0)]
abbrev abh (s:dm) (d:Nd) (x:Val) (l:List Val) (n e:Nat):St:=
 ⟨[(0,⟨[],.pt (nj PC ND D K sz ot) 0⟩),(9,⟨[],.loc 1 0⟩),(10,⟨[],.loc 2 0⟩),(11,⟨[],.loc 3 0⟩),(12,⟨[],.loc 4 0⟩),(30,⟨[],.v (.int .i64 s.n)⟩),(31,⟨[],.v (.int .i64 e)⟩)],[j3 s,dVal x,zf,gG d,Sw d.ag l],[⟨n,34,4,none⟩]⟩
abbrev abi (s:dm) (d:Nd) (k:Nat) (x:Val) (l:List Val) (n e:Nat):St:=
 ⟨[(0,⟨[],.pt (nj PC ND D K sz ot) 0⟩),(2,⟨[],.v (.int .i64 k)⟩),(9,⟨[],.loc 1 0⟩),(10,⟨[],.loc 2 0⟩),(12,⟨[],.loc 4 0⟩),(49,⟨[],.sl 10 (cJ d.ap) none⟩),(50,⟨[],.v (.int .i64 (cJ d.ap).length)⟩),(51,⟨[],.v (.int .i64 e)⟩)],[j3 s,dVal x,zf,gG d,Sw d.ag l],[⟨n,34,4,none⟩]⟩
end
theorem DE {S:Sch} {ND:List Nd} {PC:List DV} (hP:eZ S ND PC) (K:List Bool) (sz ot:List Nat) {q:Pl} (hq:uz ND q) (nE:iQ (aM ND) q=true) (hD:∃ x,q.d.ap[q.k]? = some x/\bZ (aM ND) x≠0) (x:Val) :
  aV prog 128 [.pt (nj PC ND (aM ND) K sz ot) 0,.v (.int .i64 q.i),.v (.int .i64 q.k),.agg (j3 q.s),.agg (dVal x)] (.agg (dVal (vK (bc ND (aM ND)) q x))):=by
 have hN:=hP.ok _ (mG hq.av);have ef:=hP.Iw _ (mG hq.av);obtain ⟨k1,k5,k2,k3,k4,Wc⟩:=lD hq;have hone:=fun (j:Nat) h=>uw hP sz ot K (j:=j) h
 have jX:∀ {e:Ed},bZ (aM ND) e≠0->(bh ND).getD e.to.toNat 0≠0:=fun {e} h=>by
  have:=(lC (eH ND) (i:=e.to.toNat)).1.2 (Nat.pos_of_ne_zero h);exact Nat.ne_of_gt this
 obtain ⟨y,hy,hyD⟩:=hD;have WC:=fun c=>Dx hP.ok hq hy c
 have hR:vK (bc ND (aM ND)) q x=if q.s.k=2 then .mk q.d.ag 0 az (List.replicate q.s.n.toNat (bc ND (aM ND) (to0 q.d).toNat) ++ [x])
  else if q.s.k=1 then .mk q.d.ag 0 az ((q.d.ap.map fun e=>bc ND (aM ND) e.to.toNat).set q.k x)
  else .mk q.d.ag (if q.s.k=5 then q.k else 0) az [x]:=rfl
 unfold iQ at nE;simp only [aQ,decide_eq_true_eq] at nE;have eY:=hq.av;have aZ:=hN.fJ;have cY:=hN.bare;have oR:=hN.uY;generalize vK (bc ND (aM ND)) q x=R at hR ⊢;generalize bc ND (aM ND)=F at hR hone;obtain ⟨i,d,k,s⟩:=q;obtain ⟨ag,ba,lo,hi,most,af,es⟩:=d;obtain ⟨sk,sn,ss⟩:=s;obtain ⟨xk,xn,xs,xl⟩:=x;simp only at *;have bJ:=aW es;refine eG 87 [.cell 10 34] func128 rfl ntmps128 rfl fun _ _ _ _=>?_;refine iX (bB eY) ?_;refine br ?_ ?_<;>intro c
 ·have c:sk=2:=sU c;obtain ⟨c5,la,Ac⟩:=k2 c;obtain ⟨gT,hk0,ht0⟩:=WC (.inl c5);have zC:es[0]? = some y:=by rw [gT];all_goals rfl
  rw [ai c,ht0] at hR;have oR:=oR c5
  have RS:y.bare=false:=by
   cases hb:y.bare with
   | false=>rfl
   | true=>have:=cY y (mG zC) hb;omega
  obtain ⟨t,ht,hY⟩:=(aZ y (mG zC)).to1 RS;have hone:=hone y.to.toNat (jX hyD);have UA:((y.to.toNat:Nat):Int)=y.to:=by rw [ht,dq]
  rw [UA] at hone;generalize F y.to.toNat=u at hone hR;obtain ⟨uk,un,us,ul⟩:=u;obtain ⟨en,eb,ea,et,r8,ew,ug,ui,uj,um⟩:=y;simp only at hone;refine lJ (fun e=>abh PC ND (aM ND) K sz ot ⟨sk,sn,ss⟩ ⟨ag,ba,lo,hi,most,af,es⟩ (.mk xk xn xs xl) (List.replicate e (.mk uk un us ul)) e e) sn.toNat (cW 5 ⟨0,34,4,none⟩ rfl rfl rfl pO rfl rfl lX) ?_;intro e he;have sI:(dVals (List.replicate e (.mk uk un us ul))).length=e:=by rw [bV,List.length_replicate]
  refine br ?_ ?_<;>intro hL
  ·have au:e < sn.toNat:=by
    have:(e:Int) < sn:=sU hL;omega
   have du:dVals (List.replicate e (.mk uk un us ul)) ++ [dVal (.mk uk un us ul)]=dVals (List.replicate (e + 1) (.mk uk un us ul)):=by
    rw [List.replicate_succ',bY,bY,List.map_append];all_goals rfl
   refine dS ?_;refine iX (aF zC) ?_;refine cD xi hone ?_;refine ⟨sI,⟨by rw [sI];simp [maxLen];omega,by rw [sI];simp;omega⟩,?_⟩;exact rE ⟨_,by omega,e + 1,rfl,by omega,rfl⟩ (aq 5 rfl (gp (aK au (by omega)) du) rfl rfl rfl (wB2 (aK au (by omega)) du))
  ·have aS:e=sn.toNat:=by
    have:¬ (e:Int) < sn:=sU hL;omega
   subst aS;refine ⟨sI,⟨by rw [sI];simp [maxLen];omega,by rw [sI];simp;omega⟩,?_⟩
   have du:dVals (List.replicate sn.toNat (.mk uk un us ul)) ++ [dVal (.mk xk xn xs xl)]=dVals (List.replicate sn.toNat (.mk uk un us ul) ++ [.mk xk xn xs xl]):=by
    rw [bY,bY,List.map_append];all_goals rfl
   have hE:DV.sl 4 (dVals (List.replicate sn.toNat (.mk uk un us ul)) ++ [dVal (.mk xk xn xs xl)]) (some 0) = .sl 4 (dVals (List.replicate sn.toNat (.mk uk un us ul) ++ [.mk xk xn xs xl])) (some 0):=by rw [du]
   rw [hR];exact ⟨_,(gU hE),rfl⟩
 have c:¬ sk=2:=sU c;rw [ah c] at hR;refine br ?_ ?_<;>intro c1
 ·have c1:sk=1:=sU c1;obtain ⟨c7,_⟩:=k1 c1;have nM:=nE.2;simp [c1] at nM;have nM:=kY.1 nM;rw [ai c1] at hR;have ej:=(gS hy).1;obtain ⟨W,hW⟩:∃ W,W=(es.map fun e=>F e.to.toNat).set k (.mk xk xn xs xl):=⟨_,rfl⟩;rw [<- hW] at hR;have hWl:W.length=es.length:=by rw [hW,List.length_set,List.length_map]
  have hWk:W[k]? = some (.mk xk xn xs xl):=by rw [hW];exact cO (sU ej)
  have hWo:∀ (j:Nat) z,j≠k->es[j]? = some z->W[j]? = some (F z.to.toNat):=fun j z hj hz=>by
   rw [hW,List.getElem?_set_ne (Ne.symm hj),List.getElem?_map,hz];all_goals rfl
  clear hW;refine lJ (fun e=>abi PC ND (aM ND) K sz ot ⟨sk,sn,ss⟩ ⟨ag,ba,lo,hi,most,af,es⟩ k (.mk xk xn xs xl) (W.take e) e e) es.length (cW 5 ⟨0,34,4,none⟩ rfl rfl rfl pO rfl rfl lX) ?_;intro e he;refine br ?_ ?_<;>intro hL
  ·have au:e < es.length:=sV bJ hL;have sI:(dVals (W.take e)).length=e:=by rw [bV,zLenT];omega
   obtain ⟨z,hz⟩:=gX au;refine iX (aF hz) ?_;refine br ?_ ?_<;>intro g
   ·have gn:¬ e=k:=by
     intro V4;rw [V4] at g;simp at g
    have hzb:z.bare=false:=by
     cases hb:z.bare with
     | false=>rfl
     | true=>have:=cY z (mG hz) hb;omega
    obtain ⟨t,ht,hY⟩:=(aZ z (mG hz)).to1 hzb;have hone:=hone z.to.toNat (jX (nM e z hz (by omega)));have UA:((z.to.toNat:Nat):Int)=z.to:=by rw [ht,dq]
    rw [UA] at hone;have du:=pB (hWo e z gn hz);generalize F z.to.toNat=u at hone du;obtain ⟨uk,un,us,ul⟩:=u;obtain ⟨en,eb,ea,et,r8,ew,ug,ui,uj,um⟩:=z;simp only at hone;refine dS ?_;refine cD xi hone ?_;refine ⟨sI,⟨by rw [sI];simp [maxLen];omega,by rw [sI];simp;omega⟩,?_⟩;exact rE ⟨_,by omega,e + 1,rfl,by omega,rfl⟩ (aq 5 rfl (gp (aK au (by omega)) du) rfl rfl rfl (wB2 (aK au (by omega)) du))
   ·have gn:e=k:=by
     have:(e:Int)=k:=sU g;omega
    have du:=pB (l:=W) (e:=e) (by rw [gn];exact hWk);refine ⟨sI,⟨by rw [sI];simp [maxLen];omega,by rw [sI];simp;omega⟩,?_⟩;exact rE ⟨_,by omega,e + 1,rfl,by omega,rfl⟩ (aq 5 rfl (gp (aK au (by omega)) du) rfl rfl rfl (wB2 (aK au (by omega)) du))
  ·have aS:e=es.length:=sW bJ hL;subst aS;rw [<- hWl,List.take_length,hR];exact ⟨_,ax,rfl⟩
 have c1:¬ sk=1:=sU c1;rw [ah c1] at hR;have c3:=nE.1;refine br ?_ ?_<;>intro c5
 ·have c5:sk=5:=sU c5;rw [ai c5] at hR;refine ⟨⟨by simp [maxLen],by simp⟩,?_⟩;rw [hR];exact ⟨_,ax,rfl⟩
 ·have c5:¬ sk=5:=sU c5;rw [ah c5] at hR;refine ⟨⟨by simp [maxLen],by simp⟩,?_⟩;rw [hR];exact ⟨_,ax,rfl⟩
def LV:Option Val->DV
 | some v=>.tup [.agg (dVal v),.v (.bool true)]
 | none=>.tup [.agg (dVal zeroV),.v (.bool false)]
theorem Sy (R:Option Val):LV R=.tup [.agg (dVal (R.getD zeroV)),.v (.bool R.isSome)]:=by cases R<;>rfl
theorem LW {sz:List Nat} {l:List Pl} {e:Nat} {q:Pl} (h:l[e]? = some q):totF sz (l.take (e + 1))=totF sz (l.take e) + zD sz q:=by
 rw [dJ h,BU]
section
variable (PC:List DV) (ND:List Nd) (D:List Nat) (K:List Bool) (sz ot:List Nat) (p:List dm) (l:List Pl)
abbrev abk (x:Val) (j m e:Nat):St:=
 ⟨[(0,⟨[],.pt (nj PC ND D K sz ot) 0⟩),(1,⟨[],.sl 3 (aT p) none⟩),(5,⟨[],.loc 0 0⟩),(6,⟨[],.loc 1 0⟩),(8,⟨[],.v (.int .i64 j)⟩),(11,⟨[],.sl 1 (dInts (Gh l)) none⟩),(12,⟨[],.sl 1 (dInts (Gi l)) none⟩),(13,⟨[],.v (.int .i64 m)⟩),(58,⟨[],.sl 3 (aT p) none⟩),(59,⟨[],.v (.int .i64 (aT p).length)⟩),(60,⟨[],.v (.int .i64 e)⟩)],[dVal x,zf],[]⟩
abbrev PX (x:Val) (j:Int):St:=
 ⟨[(0,⟨[],.pt (nj PC ND D K sz ot) 0⟩),(1,⟨[],.sl 3 (aT p) none⟩),(5,⟨[],.loc 0 0⟩),(6,⟨[],.loc 1 0⟩),(11,⟨[],.sl 1 (dInts (Gh l)) none⟩),(12,⟨[],.sl 1 (dInts (Gi l)) none⟩),(16,⟨[],.v (.int .i64 j)⟩)],[dVal x,zf],[]⟩
end
set_option maxHeartbeats 4000000 in
theorem vv {S:Sch} {ND:List Nd} {PC:List DV} (hP:eZ S ND PC) (ot:List Nat) (K:List Bool) (p:List dm) (hp:p.length<=1099511627776) (hs:∀ s∈p,s.s.size<=4611686018427387904) (rt:Nat) (vg:fF S=rt) (ez:rt < ND.length) (x:Val) (hx:x.wt<=1099511627776) :
  aV prog 62 [.pt (nj PC ND (aM ND) K (bh ND) ot) 0,.sl 3 (aT p) none,.agg (dVal x)] (LV (gw ND (bh ND) (aM ND) (walkV ND (dL S) S.ae.length p rt (jE (dL S) S.ae.length)) (stpsV ND p rt) x)):=by
 have hw:=qN hP p hp hs rt vg ez;have lZ:=eu p
 have bT:∀ z∈bh ND,z<=4097:=fun z hz=>by
  obtain ⟨i,hi,rfl⟩:=List.getElem_of_mem hz;have:=(lC (eH ND) (i:=i)).2
  rwa [aH,gE hi] at this
 have hszl:(bh ND).length=ND.length:=np _ _;have Qe:(aM ND).length=ND.length:=bH _ _;have oX:=(wj x).1;have VH:=u3 _ x (aU _) hx
 cases hW:walkV ND (dL S) S.ae.length p rt (jE (dL S) S.ae.length) with
 | none=>
  rw [hW] at hw;have hw:aV prog 76 [.pt PC 0,.sl 3 (aT p) none] (.tup [.v (.int .i64 (-1)),.v (.int .i64 (-1)),.v (.bool false)]):=hw;obtain ⟨xk,xn,xs,xl⟩:=x;refine eG 117 [.cell 6 34,.tmp 7] func62 rfl ntmps62 rfl fun _ _ _ _=>?_;refine cP zP hw ?_;refine dI ?_;exact ⟨.tup [.agg (dVal zeroV),.v (.bool false)],ax,rfl⟩
 | some jb=>
 obtain ⟨j,b⟩:=jb;rw [hW] at hw;have hw:aV prog 76 [.pt PC 0,.sl 3 (aT p) none] (.tup [.v (.int .i64 (j:Nat)),.v (.int .i64 (b:Nat)),.v (.bool true)]):=hw;have nI:=qG hP _ x (aU _) hx j;have PY:=Gj (aM ND) K (bh ND) ot hP Qe hP.Iw p hp hs rt vg ez hW;have hplc:=sm hP hP.Iw p hp hs rt vg ez hW;have ff:=tget_spec hP hx j [] (by simp);have WK:=pA hP.ok (eH ND) p rt _ hW;have Qv:=wv hP.ok (eH ND) x j;obtain ⟨yc,nP⟩:=oP p rt _ hW;have rf:=fun (q:Pl) (hq:uz ND q)=>DA PC ND (aM ND) K (bh ND) ot hq hszl bT (hP.ok _ (mG hq.av)) (hP.Iw _ (mG hq.av));have abl:=fun (q:Pl) (hq:uz ND q) h1 h2=>DE hP K (bh ND) ot hq h1 h2;have hFl:gw ND (bh ND) (aM ND) (some (j,b)) (stpsV ND p rt) x=if fitV ND x j=true/\(stpsV ND p rt).all (iQ (aM ND))=true/\j1 x + totF (bh ND) (stpsV ND p rt) < 4097 then some (alnV (bc ND (aM ND)) (stpsV ND p rt) x) else none:=rfl
 rw [hFl];clear hFl hW;generalize Xa:stpsV ND p rt=l at *;have aa1:(dInts (Gh l)).length=p.length:=by rw [bi,List.length_map,yc]
 have aa2:(dInts (Gi l)).length=p.length:=by rw [bi,List.length_map,yc]
 have abm:∀ e:Nat,e<=p.length->IntKind.i64.wrap ((e:Int) - 1)=(e:Int) - 1:=fun e he=>wrap64 (by omega) (by omega)
 cases hf:fitV ND x j with
 | false=>
  rw [hf] at nI;rw [ah (by simp)];obtain ⟨xk,xn,xs,xl⟩:=x;refine eG 117 [.cell 6 34,.tmp 7] func62 rfl ntmps62 rfl fun _ _ _ _=>?_;refine cP zP hw ?_;refine dI ?_;refine cD MO nI ?_;exact ⟨.tup [.agg (dVal zeroV),.v (.bool false)],ax,rfl⟩
 | true=>
 rw [hf] at nI;rw [hf,ai rfl] at ff;have ff:aV prog 17 [.pt PC 0,.v (.int .i64 j),.agg (dVal x),.sl 3 [] none] (.tup [.agg (dVal x),.v (.int .i64 (j:Nat)),.v (.bool true)]):=ff
 cases ha:l.all (iQ (aM ND)) with
 | false=>
  rw [ha] at PY;rw [ah (by simp)];obtain ⟨xk,xn,xs,xl⟩:=x;refine eG 117 [.cell 6 34,.tmp 7] func62 rfl ntmps62 rfl fun _ _ _ _=>?_;refine cP zP hw ?_;refine dI ?_;refine cD MO nI ?_;refine cD SQ PY ?_;exact ⟨.tup [.agg (dVal zeroV),.v (.bool false)],ax,rfl⟩
 | true=>
 rw [ha] at PY;have hdq:=(WK ha (by have:=Qv hf;simpa using this)).2
 have rC:∀ (e:Nat) q (y:Val),l[e]? = some q->aV prog 128 [.pt (nj PC ND (aM ND) K (bh ND) ot) 0,.v (.int .i64 q.i),.v (.int .i64 q.k),.agg (j3 q.s),.agg (dVal y)] (.agg (dVal (vK (bc ND (aM ND)) q y))):=fun e q y hq=>by
  obtain ⟨s,uN⟩:∃ s,p[e]? = some s:=⟨_,gE (by have:=(gS hq).1;omega)⟩;obtain ⟨q',_,jk,_,bw,_⟩:=nP e s uN;rw [hq] at jk;cases jk;have hm:=mG hq;exact abl q bw (List.all_eq_true.1 ha q hm) (hdq q hm) y
 have abn:(True/\True/\j1 x + totF (bh ND) l < 4097)↔bf (j1 x + totF (bh ND) l)≠4097:=by
  unfold bf;simp only [true_and];omega
 have abo:=nI;have abp:=PY;clear abl WK Qv hdq nI PY hf abn;generalize hF:bc ND (aM ND)=F at *;have GA:j1 x + totF (bh ND) l < 4097↔bf (j1 x + totF (bh ND) l)≠4097:=by unfold bf;omega
 generalize hT:totF (bh ND) l=T at *;generalize hC:j1 x=C at *;have zC:alnV F (l.drop p.length) x=x:=by rw [<- yc,List.drop_length];all_goals rfl
 generalize hXg:x=X at *;obtain ⟨xk,xn,xs,xl⟩:=X;refine eG 117 [.cell 6 34,.tmp 7] func62 rfl ntmps62 rfl fun _ _ _ _=>?_;refine cP zP hw ?_;refine dI ?_;refine cD MO abo ?_;refine cD SQ abp ?_;refine cP SR hplc ?_;refine cP XU VH ?_;refine cP nG (ey C) ?_;refine lJ (fun e=>abk PC ND (aM ND) K (bh ND) ot p l (.mk xk xn xs xl) j (bf (C + totF (bh ND) (l.take e))) e) p.length (aq 2 rfl wA rfl rfl rfl wB) ?_;intro e he;refine br ?_ ?_<;>intro hL
 ·have au:e < p.length:=sV lZ hL;obtain ⟨s,uN⟩:=gX au;obtain ⟨q,b2,hq,LH,bw,_⟩:=nP e s uN;have rf:=rf q bw;have lg:=LW (sz:=bh ND) hq;have Pa:(dInts (Gh l))[e]? = some [.v (.int .i64 ((q.i:Nat):Int))]:=aG (by rw [List.getElem?_map,hq];rfl);have Ui:(dInts (Gi l))[e]? = some [.v (.int .i64 ((q.k:Nat):Int))]:=aG (by rw [List.getElem?_map,hq];rfl);generalize zD (bh ND) q=X at rf lg;have I9:=fH (C + totF (bh ND) (l.take e));have lF:=fH X;have RB:=wrapN (a:=bf (C + totF (bh ND) (l.take e))) (b:=bf X) (by omega) (by omega);have sj:bf (bf (C + totF (bh ND) (l.take e)) + bf X)=bf (C + totF (bh ND) (l.take (e + 1))):=by rw [lg,uy,Ww,Nat.add_assoc]
  have eU:=aK au (show p.length<=4611686018427387904 by omega);subst LH;obtain ⟨qi,qd,qk,qs⟩:=q;obtain ⟨sk,sn,ss⟩:=qs;simp only at uN Pa Ui rf;refine iX (dW uN) ?_;refine dI ?_;refine ⟨_,⟨by omega,Pa⟩,?_⟩;refine ⟨_,⟨by omega,Ui⟩,?_⟩;refine cD Yp rf ?_;refine cD nG (ey (bf (C + totF (bh ND) (l.take e)) + bf X)) ?_ (gU RB);exact rE ⟨_,by omega,e + 1,rfl,by omega,rfl⟩ (aq 2 rfl (gp eU sj) rfl rfl rfl (wB2 eU sj))
 have aS:e=p.length:=sW lZ hL;subst aS;rw [<- yc,List.take_length,hT];refine br ?_ ?_<;>intro c
 ·have c:bf (C + T)=4097:=by
   have:((bf (C + T):Nat):Int)=4097:=sU c;omega
  rw [ah (fun h=>(GA.1 h.2.2) c)];exact ⟨.tup [.agg (dVal zeroV),.v (.bool false)],ax,rfl⟩
 have c:bf (C + T)≠4097:=by
  intro h;rw [h] at c;simp at c
 rw [ai ⟨rfl,rfl,GA.2 c⟩];have wT:IntKind.i64.wrap (((aT p).length:Int) - 1)=(p.length:Int) - 1:=by rw [lZ];exact abm _ (aU _)
 refine dS ?_;refine cD en17 ff ?_;refine bA (fun i st=>∃ (e:Nat) (y:Val),st=PX PC ND (aM ND) K (bh ND) ot p l y ((e:Int) - 1)/\e<=p.length/\y=alnV F (l.drop e) (.mk xk xn xs xl)/\e=i) p.length (PX PC ND (aM ND) K (bh ND) ot p l (.mk xk xn xs xl) ((p.length:Int) - 1)) (aq 2 rfl (nF wT) rfl rfl rfl (dy wT)) ⟨p.length,_,rfl,by omega,zC.symm,rfl⟩ ?_;rintro i st ⟨e,y,rfl,he,hy,rfl⟩;refine br ?_ ?_<;>intro hL
 ·have hL:0<=(e:Int) - 1:=sU hL;obtain ⟨n,rfl⟩:∃ n,e=n + 1:=⟨e - 1,by omega⟩;have Ac:((n + 1:Nat):Int) - 1=(n:Nat):=by omega
  obtain ⟨s,uN⟩:∃ s,p[n]? = some s:=⟨_,gE (by omega)⟩;obtain ⟨q,b2,hq,LH,bw,_⟩:=nP n s uN;have har:=rC n q y hq;have hny:vK F q y=alnV F (l.drop n) (.mk xk xn xs xl):=by rw [drop_cons hq,alnV,hy]
  have Pa:(dInts (Gh l))[n]? = some [.v (.int .i64 ((q.i:Nat):Int))]:=aG (by rw [List.getElem?_map,hq];rfl);have Ui:(dInts (Gi l))[n]? = some [.v (.int .i64 ((q.k:Nat):Int))]:=aG (by rw [List.getElem?_map,hq];rfl);have sX:IntKind.i64.wrap (((n + 1:Nat):Int) - 1 - 1)=(n:Int) - 1:=by rw [Ac];exact abm n (by omega)
  generalize vK F q y=Y at har hny;subst LH;obtain ⟨qi,qd,qk,qs⟩:=q;obtain ⟨sk,sn,ss⟩:=qs;obtain ⟨Yk,Yn,Ys,Yl⟩:=Y;obtain ⟨yk,yn,ys,yl⟩:=y;simp only at uN Pa Ui har;refine dS ?_;refine ⟨_,⟨by omega,by rw [Ac];exact Pa⟩,?_⟩;refine ⟨_,⟨by omega,by rw [Ac];exact Ui⟩,?_⟩;refine ⟨_,⟨by omega,by rw [Ac];exact dW uN⟩,?_⟩;refine cD Yq har ?_;exact ⟨PX PC ND (aM ND) K (bh ND) ot p l (.mk Yk Yn Ys Yl) ((n:Int) - 1),(aq 2 rfl (nF sX) rfl rfl rfl (dy sX)),n,by omega,n,_,rfl,by omega,hny,rfl⟩
 ·have hL:¬ 0<=(e:Int) - 1:=sU hL;have he0:e=0:=by omega
  subst he0;rw [List.drop_zero] at hy;rw [<- hy];obtain ⟨yk,yn,ys,yl⟩:=y;exact ⟨.tup [.agg (dVal (.mk yk yn ys yl)),.v (.bool true)],ax,rfl⟩
section
variable (A B:List (List DV)) (ND:List Nd) (rt:Int) {L:Nat}
abbrev abq (d:Nd) (p:List dm) (x y:Val) (k:Int) (l:List Val) (n e:Nat):St:=
 ⟨[(2,⟨[],.sl 3 (aT p) none⟩),(4,⟨[],.loc 0 0⟩),(8,⟨[],.loc 2 0⟩),(9,⟨[],.loc 3 0⟩),(10,⟨[],.v (.int .i64 k)⟩),(11,⟨[],.loc 4 0⟩),(12,⟨[],.loc 5 0⟩),(13,⟨[],.v (.int .i64 e)⟩)],[IM A B ND rt,dVal x,zf,gG d,dVal y,Sw d.ag l],[⟨n,34,4,none⟩]⟩
abbrev Un (d:Nd) (x y:Val) (k:Int) (l:List Val) (n e:Nat):St:=
 ⟨[(4,⟨[],.loc 0 0⟩),(8,⟨[],.loc 2 0⟩),(9,⟨[],.loc 3 0⟩),(10,⟨[],.v (.int .i64 k)⟩),(11,⟨[],.loc 4 0⟩),(12,⟨[],.loc 5 0⟩),(14,⟨[],.v (.int .i64 e)⟩)],[IM A B ND rt,dVal x,zf,gG d,dVal y,Sw d.ag l],[⟨n,34,4,none⟩]⟩
set_option maxHeartbeats 4000000 in
theorem sv {f:Nat->Nat->Bool} {m:Nat} (bw:∀ n∈ND,cz L ND.length n) (bT:∀ n∈ND,n.ap.length<=1099511627776) (x:Val) :
  ∀ (p:List dm),p.length<=1099511627776->(∀ s∈p,s.s.size<=4611686018427387904)->∀ (i a':Nat) {r:Nat × Nat},i < ND.length->walkV ND f m p i a'=some r->(∀ q∈stpsV ND p i,iQ (aM ND) q=true/\∃ x,q.d.ap[q.k]? = some x/\bZ (aM ND) x≠0) ->
   aV prog 74 [.agg (IM A B ND rt),.v (.int .i64 i),.sl 3 (aT p) none,.agg (dVal x)] (.agg (dVal (alnV (bc ND (aM ND)) (stpsV ND p i) x)))
 | [],_,_,i,a',r,hi,_,_=>by
  obtain ⟨xk,xn,xs,xl⟩:=x;rw [show alnV (bc ND (aM ND)) (stpsV ND [] i) (.mk xk xn xs xl) = .mk xk xn xs xl from rfl];refine eG 113 [.cell 8 34] func74 rfl ntmps74 rfl fun _ _ _ _=>?_;exact ⟨_,ax,rfl⟩
 | s :: p,hp,hs,i,a',r,hi,hw,fI=>by
  obtain ⟨d,k,y,hd,hk,hy,sX⟩:=ny hw;have hm:=mG hd;have hN:=bw d hm;have ef:=bT d hm;have zB:=oQ d s ef (hs s (by simp));rw [hk] at zB;obtain ⟨Kk,Xj⟩:∃ K:Int,K=(k:Int):=⟨_,rfl⟩;have zB:aV prog 138 [.agg (gG d),.agg (j3 s)] (.v (.int .i64 Kk)):=by rw [Xj];exact zB
  have Rz:0<=Kk:=by omega
  have hKt:Kk.toNat=k:=by omega
  have hq:uz ND ⟨i,d,k,s⟩:=⟨hd,hk⟩;obtain ⟨k1,k5,k2,k3,k4,Wc⟩:=lD hq;have WC:=fun c=>Dx bw hq hy c;obtain ⟨e',qj,hB',_⟩:=gh hk;rw [hy] at qj;cases qj;have RS:=kX hN (mG hy) hB';obtain ⟨t,ht,hY⟩:=(hN.fJ y (mG hy)).to1 RS;have GI:y.to.toNat=t:=by rw [ht,dq]
  rw [GI] at sX;have zb:=PH s p;have DG:=dW (l:=s :: p) (e:=0) rfl;have PI:=eu (s :: p);rw [List.length_cons] at PI hp;rw [nv hd hk hy,GI] at fI ⊢;have ih:=sv bw bT x p (by omega) (fun y hy=>hs y (by simp [hy])) t _ hY sX (fun q hq=>fI q (by simp [hq]));obtain ⟨nE,y',fB,hyD⟩:=fI _ (List.mem_cons_self ..);have abr:d.ap[k]? = some y':=fB;rw [hy] at abr;cases abr;rw [<- ht] at ih;show aV _ _ _ (.agg (dVal (vK (bc ND (aM ND)) ⟨i,d,k,s⟩ (alnV (bc ND (aM ND)) (stpsV ND p t) x))));generalize alnV (bc ND (aM ND)) (stpsV ND p t) x=Y at ih ⊢;have hone:=fun (j:Nat) h=>vu A B rt bw bT (j:=j) h
  have jX:∀ {e:Ed},bZ (aM ND) e≠0->(bh ND).getD e.to.toNat 0≠0:=fun {e} h=>by
   have:=(lC (eH ND) (i:=e.to.toNat)).1.2 (Nat.pos_of_ne_zero h);exact Nat.ne_of_gt this
  have hR:vK (bc ND (aM ND)) ⟨i,d,k,s⟩ Y=if s.k=2 then .mk d.ag 0 az (List.replicate s.n.toNat (bc ND (aM ND) (to0 d).toNat) ++ [Y])
   else if s.k=1 then .mk d.ag 0 az ((d.ap.map fun e=>bc ND (aM ND) e.to.toNat).set k Y)
   else .mk d.ag (if s.k=5 then k else 0) az [Y]:=rfl
  unfold iQ at nE;simp only [aQ,decide_eq_true_eq] at nE;have aZ:=hN.fJ;have cY:=hN.bare;have oR:=hN.uY;generalize vK (bc ND (aM ND)) ⟨i,d,k,s⟩ Y=R at hR ⊢;generalize bc ND (aM ND)=F at hR hone;obtain ⟨ag,ba,lo,eo,most,af,es⟩:=d;obtain ⟨sk,sn,ss⟩:=s;obtain ⟨xk,xn,xs,xl⟩:=x;obtain ⟨Yk,Yn,Ys,Yl⟩:=Y;simp only at k1 k5 k2 k3 k4 Wc WC nE aZ cY oR ef hy hR;have bJ:=aW es;refine eG 113 [.cell 8 34] func74 rfl ntmps74 rfl fun _ _ _ _=>?_;refine iX (bB hd) ?_;refine dI ?_;refine ⟨_,⟨by omega,DG⟩,?_⟩;refine cD Jf zB ?_;apply RY (fun _=>false) 11 [0,1,2,3,4,5,6,7,8,9,10] [12] mo (by decide +kernel);·repeat' (first | refine ⟨_,⟨Rz,by rw [hKt];exact aF hy⟩,?_⟩ | refine ⟨⟨by omega,by omega,by omega⟩,?_⟩ | refine cD X4 ih ?_ (gU zb) | exact Or.inl rfl | exact Wq | refine ⟨?_,?_⟩)
  obtain ⟨u,hu⟩:∃ u:Val,sk=2->es[0]? = some y/\u=F y.to.toNat/\to0 ⟨ag,ba,lo,eo,most,af,es⟩=y.to:=⟨F y.to.toNat,fun h2=>by
   obtain ⟨gT,_,ht0⟩:=WC (.inl (k2 h2).1)
   exact ⟨by rw [gT];rfl,rfl,ht0⟩⟩
  have hnn:sk≠2->sn.toNat=0:=fun h=>by omega
  have hn5:sn.toNat<=1024:=by
   by_cases h:sk=2
   ·have:=k2 h;have:=oR this.1;omega
   ·have:=hnn h;omega
  have PZ:sk=2->aV prog 30 [.agg (IM A B ND rt),.v (.int .i64 y.to)] (.agg (dVal u)):=fun h2=>by
   rw [(hu h2).2.1];have:=hone y.to.toNat (jX hyD)
   rwa [show ((y.to.toNat:Nat):Int)=y.to by rw [ht,dq]] at this
  obtain ⟨uk,un,us,ul⟩:=u;refine lJ (fun e=>abq A B ND rt ⟨ag,ba,lo,eo,most,af,es⟩ (⟨sk,sn,ss⟩ :: p) (.mk xk xn xs xl) (.mk Yk Yn Ys Yl) Kk (List.replicate e (.mk uk un us ul)) e e) sn.toNat (cW 6 ⟨0,34,4,none⟩ rfl rfl rfl pO rfl rfl lX) ?_;intro e he;have sI:(dVals (List.replicate e (.mk uk un us ul))).length=e:=by rw [bV,List.length_replicate]
  refine ⟨_,⟨by omega,DG⟩,?_⟩;refine br ?_ ?_<;>intro hL
  ·have au:e < sn.toNat:=by
    have:(e:Int) < sn:=sU hL;omega
   have hs2:sk=2:=Decidable.byContradiction fun h=>by have:=hnn h;omega
   have zC:=(hu hs2).1;have PZ:=PZ hs2
   have du:dVals (List.replicate e (.mk uk un us ul)) ++ [dVal (.mk uk un us ul)]=dVals (List.replicate (e + 1) (.mk uk un us ul)):=by
    rw [List.replicate_succ',bY,bY,List.map_append];all_goals rfl
   refine dS ?_;refine iX (aF zC) ?_;refine cD en30 PZ ?_;refine ⟨sI,⟨by rw [sI];simp [maxLen];omega,by rw [sI];simp;omega⟩,?_⟩;exact rE ⟨_,by omega,e + 1,rfl,by omega,rfl⟩ (aq 6 rfl (gp (aK au (by omega)) du) rfl rfl rfl (wB2 (aK au (by omega)) du))
  have aS:e=sn.toNat:=by
   have:¬ (e:Int) < sn:=sU hL;omega
  subst aS;by_cases c7:ag=7
  ·have hs1:sk=1:=by omega
   have du:sn.toNat=0:=hnn (by omega);rw [ah (by omega),ai hs1] at hR;have ej:=(gS hy).1;have nM:=nE.2;simp [hs1] at nM;have nM:=kY.1 nM;obtain ⟨W,hW⟩:∃ W,W=(es.map fun e=>F e.to.toNat).set k (.mk Yk Yn Ys Yl):=⟨_,rfl⟩;rw [<- hW] at hR;have hWl:W.length=es.length:=by rw [hW,List.length_set,List.length_map]
   have hWk:W[k]? = some (.mk Yk Yn Ys Yl):=by rw [hW];exact cO (sU ej)
   have hWo:∀ (j:Nat) z,j≠k->es[j]? = some z->W[j]? = some (F z.to.toNat):=fun j z hj hz=>by
    rw [hW,List.getElem?_set_ne (Ne.symm hj),List.getElem?_map,hz];all_goals rfl
   clear hW sI;rw [du];refine lJ (fun e=>Un A B ND rt ⟨ag,ba,lo,eo,most,af,es⟩ (.mk xk xn xs xl) (.mk Yk Yn Ys Yl) Kk (W.take e) e e) es.length (aq 6 rfl wA rfl rfl rfl wB) ?_;intro e he;refine br ?_ ?_<;>intro hL
   ·have au:e < es.length:=by
     have:=hL;simp [bJ,c7,aw] at this;exact this
    have sI:(dVals (W.take e)).length=e:=by rw [bV,zLenT];omega
    obtain ⟨z,hz⟩:=gX au;refine br ?_ ?_<;>intro g
    ·have g:e=k:=by
      have:(e:Int)=Kk:=sU g;omega
     have du:=pB (l:=W) (e:=e) (by rw [g];exact hWk);refine ⟨sI,⟨by rw [sI];simp [maxLen];omega,by rw [sI];simp;omega⟩,?_⟩;exact rE ⟨_,by omega,e + 1,rfl,by omega,rfl⟩ (aq 6 rfl (gp (aK au (by omega)) du) rfl rfl rfl (wB2 (aK au (by omega)) du))
    ·have gn:¬ e=k:=by
      intro h;rw [h,<- Xj] at g;simp at g
     have hzb:z.bare=false:=by
      cases hb:z.bare with
      | false=>rfl
      | true=>have:=cY z (mG hz) hb;omega
     obtain ⟨t2,Tt,aaC⟩:=(aZ z (mG hz)).to1 hzb;have hone:=hone z.to.toNat (jX (nM e z hz (by omega)));rw [show ((z.to.toNat:Nat):Int)=z.to by rw [Tt,dq]] at hone;have du:=pB (hWo e z gn hz);generalize F z.to.toNat=u at hone du;obtain ⟨vk,vn,vs,vl⟩:=u;refine dS ?_;refine iX (aF hz) ?_;refine cD en30 hone ?_;refine ⟨sI,⟨by rw [sI];simp [maxLen];omega,by rw [sI];simp;omega⟩,?_⟩;exact rE ⟨_,by omega,e + 1,rfl,by omega,rfl⟩ (aq 6 rfl (gp (aK au (by omega)) du) rfl rfl rfl (wB2 (aK au (by omega)) du))
   ·have aS:e=es.length:=by
     have:=hL;simp [bJ,c7,aw] at this;omega
    subst aS;rw [<- hWl,List.take_length];refine br (fun c=>absurd c (by simp [c7])) (fun _=>?_);refine br (fun c=>absurd c (by simp [c7])) (fun _=>?_);rw [hR];exact ⟨_,ax,rfl⟩
  ·have hs1:¬ sk=1:=by omega
   refine lI (fun j st=>st=Un A B ND rt ⟨ag,ba,lo,eo,most,af,es⟩ (.mk xk xn xs xl) (.mk Yk Yn Ys Yl) Kk (List.replicate sn.toNat (.mk uk un us ul)) sn.toNat 0/\j=0) ⟨rfl,rfl⟩ (aq 6 rfl wA rfl rfl rfl wB) ?_;rintro j st ⟨rfl,rfl⟩;refine br ?_ ?_<;>intro hL
   ·exfalso;simp [c7,aw] at hL
   refine br (fun _=>?_) (fun c=>absurd c (by simp [c7]));refine ⟨sI,⟨by rw [sI];simp [maxLen];omega,by rw [sI];simp;omega⟩,?_⟩
   have du:dVals (List.replicate sn.toNat (.mk uk un us ul)) ++ [dVal (.mk Yk Yn Ys Yl)]=dVals (List.replicate sn.toNat (.mk uk un us ul) ++ [(.mk Yk Yn Ys Yl)]):=by
    rw [bY,bY,List.map_append];all_goals rfl
   have hE:DV.sl 4 (dVals (List.replicate sn.toNat (.mk uk un us ul)) ++ [dVal (.mk Yk Yn Ys Yl)]) (some 0) = .sl 4 (dVals (List.replicate sn.toNat (.mk uk un us ul) ++ [(.mk Yk Yn Ys Yl)])) (some 0):=by rw [du]
   refine br ?_ ?_<;>intro c8
   ·have c8:ag=8:=sU c8;have hs5:sk=5:=by omega
    rw [ah (by omega),ah (by omega),ai hs5,<- Xj,show [Val.mk Yk Yn Ys Yl]=List.replicate sn.toNat (Val.mk uk un us ul) ++ [Val.mk Yk Yn Ys Yl] by rw [hnn (by omega)];rfl] at hR;rw [hR];exact ⟨_,(gU hE),rfl⟩
   ·have c8:¬ ag=8:=sU c8
    have hR2:R = .mk ag 0 az (List.replicate sn.toNat (.mk uk un us ul) ++ [(.mk Yk Yn Ys Yl)]):=by
     by_cases h2:sk=2
     ·obtain ⟨_,hu1,Mu⟩:=hu h2;rw [ai h2,Mu,<- hu1] at hR;exact hR
     ·rw [ah h2,ah hs1,ah (by omega)] at hR;rw [hR,hnn h2];rfl
    rw [hR2];exact ⟨_,(gU hE),rfl⟩
end
abbrev Ql (lv:List Wd) (f:Nat->Nat->Bool) (ND:List Nd) (rt:Nat):List DV:=IM (bQ lv) (cS (dD lv.length f)) ND (rt:Nat)
def WL (o:Option (Nat × Nat)):Int:=match o with
 | none=>-1
 | some (j,_)=>j
section
variable (lv:List Wd) (f:Nat->Nat->Bool) (ND:List Nd) (rt:Nat) (ez:rt < ND.length) (hL:gq f lv.length) (hn:lv.length<=32) (bw:∀ n∈ND,cz lv.length ND.length n) (bT:∀ n∈ND,n.ap.length<=1099511627776) (fo:ND.length<=1099511627776) (p:List dm) (hp:p.length<=1099511627776) (hs:∀ s∈p,s.s.size<=4611686018427387904)
include ez hL hn bw bT hp hs
theorem zt:aV prog 28 [.agg (Ql lv f ND rt),.sl 3 (aT p) none] (.v (.int .i64 (WL (walkV ND f lv.length p rt (jE f lv.length))))):=by
 have hb:=z8 lv.length f (by omega);rw [ux hL] at hb;have hbl:=Kd hL;have hw:=vi lv f ND (rt:Nat) hL hn bw bT p hp hs rt (jE f lv.length) ez hbl;generalize walkV ND f lv.length p rt (jE f lv.length)=W at hw ⊢
 cases W with
 | none=>
  refine eG 22 [.tmp 4] func28 rfl ntmps28 rfl fun _ _ _ _=>?_;refine dI ?_;refine cD X6 hb ?_;refine cD U6 hw ?_;exact (rfl:_=_)
 | some r=>
  refine eG 22 [.tmp 4] func28 rfl ntmps28 rfl fun _ _ _ _=>?_;refine dI ?_;refine cD X6 hb ?_;refine cD U6 hw ?_;exact (rfl:_=_)
include fo
set_option maxHeartbeats 4000000 in
theorem Gt (x:Val) (hx:x.wt<=1099511627776):aV prog 25 [.agg (Ql lv f ND rt),.sl 3 (aT p) none,.agg (dVal x)] (LV (gw ND (bh ND) (aM ND) (walkV ND f lv.length p rt (jE f lv.length)) (stpsV ND p rt) x)):=by
 have hend:=zt lv f ND rt ez hL hn bw bT p hp hs;have nI:=vq 2 1 (bQ lv) (cS (dD lv.length f)) (rt:Nat) bw _ x (aU _) hx;have nT:=uZ x.wt x (aU _) hx;have oX:=(wj x).1
 have I9:1<=j1 x:=by
  obtain ⟨k,n,s,ks⟩:=x;rw [j1];omega
 have hszz:∀ z∈bh ND,z<=4097:=fun z hz=>by
  obtain ⟨i,hi,rfl⟩:=List.getElem_of_mem hz;have:=(lC (eH ND) (i:=i)).2
  rwa [aH,gE hi] at this
 have hDS:∀ j,(bh ND).getD j 0=0↔(aM ND).getD j 0=0:=fun j=>by
  have:=(lC (eH ND) (i:=j)).1;show (kk ND (depN ND ND.length)).getD j 0=0↔(depN ND ND.length).getD j 0=0;omega
 have DQ:=fun {r:Nat × Nat} h=>vm 2 1 (bQ lv) (cS (dD lv.length f)) ND (rt:Nat) (aM ND) (qL (aM ND) (eV ND)) (bh ND) (ee ND) (f:=f) (m:=lv.length) bw bT (np _ _) hszz hDS I9 (by omega) p hp hs rt (jE f lv.length) (r:=r) ez h;have P4:=fun {r:Nat × Nat} h1 h2=>sv (bQ lv) (cS (dD lv.length f)) ND (rt:Nat) (f:=f) (m:=lv.length) bw bT x p hp hs rt (jE f lv.length) (r:=r) ez h1 h2;have WK:=fun {j b} h=>@pA _ ND (aM ND) bw (eH ND) f lv.length p rt (jE f lv.length) j b h;have Qv:=fun j=>wv bw (eH ND) x j;generalize hW:walkV ND f lv.length p rt (jE f lv.length)=W at *
 cases W with
 | none=>
  obtain ⟨xk,xn,xs,xl⟩:=x;refine eG 52 [.cell 6 34,.tmp 7] func25 rfl ntmps25 rfl fun _ _ _ _=>?_;have hend:aV prog 28 [.agg (Ql lv f ND rt),.sl 3 (aT p) none] (.v (.int .i64 (-1))):=hend;refine cP G7 hend ?_;exact ⟨.tup [.agg (dVal zeroV),.v (.bool false)],ax,rfl⟩
 | some jb=>
 obtain ⟨j,b⟩:=jb;obtain ⟨J,hJ⟩:∃ J:Int,J=(j:Int):=⟨_,rfl⟩;have hend:aV prog 28 [.agg (Ql lv f ND rt),.sl 3 (aT p) none] (.v (.int .i64 J)):=by rw [hJ];exact hend
 have nI:=nI j;rw [<- OS bw x j,<- hJ] at nI;have IP:=DQ rfl;clear DQ;have hF:gw ND (bh ND) (aM ND) (some (j,b)) (stpsV ND p rt) x=if fitV ND x j=true/\(stpsV ND p rt).all (iQ (aM ND))=true/\j1 x + totF (bh ND) (stpsV ND p rt) < 4097 then some (alnV (bc ND (aM ND)) (stpsV ND p rt) x) else none:=rfl
 rw [hF];clear hF;have hR:nH (bh ND) (aM ND) (stpsV ND p rt) (j1 x)=if (stpsV ND p rt).all (iQ (aM ND))=true then bf (j1 x + totF (bh ND) (stpsV ND p rt)) else 0:=rfl
 have sw:fitV ND x j=true->(stpsV ND p rt).all (iQ (aM ND))=true->aV prog 74 [.agg (Ql lv f ND rt),.v (.int .i64 (rt:Nat)),.sl 3 (aT p) none,.agg (dVal x)] (.agg (dVal (alnV (bc ND (aM ND)) (stpsV ND p rt) x))):=fun h1 h2=>
  P4 rfl fun q hq=>⟨List.all_eq_true.1 h2 q hq,(WK rfl h2 (by have:=Qv j h1;simpa using this)).2 q hq⟩
 rw [<- hJ] at sw ⊢;clear WK Qv hW P4;have VP:=Gk (bh ND) (aM ND) (stpsV ND p rt) (j1 x);generalize nH (bh ND) (aM ND) (stpsV ND p rt) (j1 x)=R at IP hR VP;generalize alnV (bc ND (aM ND)) (stpsV ND p rt) x=Y at sw ⊢;generalize totF (bh ND) (stpsV ND p rt)=T at hR ⊢;generalize (stpsV ND p rt).all (iQ (aM ND))=al at hR sw ⊢;generalize fitV ND x J=ft at nI sw ⊢;generalize j1 x=C at nT IP hR oX I9 ⊢;generalize zX x=dx at nT;obtain ⟨xk,xn,xs,xl⟩:=x;obtain ⟨Yk,Yn,Ys,Yl⟩:=Y;have PT:C + T < 4097↔bf (C + T)≠4097:=by unfold bf;omega
 have hcut0:bf (C + T)≠0:=by unfold bf;omega
 refine eG 52 [.cell 6 34,.tmp 7] func25 rfl ntmps25 rfl fun _ _ _ _=>?_;refine cP G7 hend ?_;refine br ?_ ?_<;>intro g
 rotate_left
 ·exfalso;have g:J < 0:=by simpa [lastG] using g
  omega
 cases ft with
 | false=>
  rw [ah (by simp)];refine cP U5 nI ?_;exact ⟨.tup [.agg (dVal zeroV),.v (.bool false)],ax,rfl⟩
 | true=>
 refine cP U5 nI ?_;refine cP en7 nT ?_;refine cP X3 IP ?_;refine br ?_ ?_<;>intro c
 ·have c:R=0∨R=4097:=by
   have:(R:Int)=0∨(4096:Int) < R:=by simpa [ay] using c
   omega
  rw [ah (fun h=>by
   rw [ai h.2.1] at hR;have:=PT.1 h.2.2
   omega)]
  exact ⟨.tup [.agg (dVal zeroV),.v (.bool false)],ax,rfl⟩
 ·have c:R≠0/\R≠4097:=by
   have:¬ ((R:Int)=0∨(4096:Int) < R):=by
    intro h;have h2:pickB (decide ((R:Int)=0)) true (decide ((4096:Int) < R))=true:=by simpa [ay] using h
    rw [h2] at c;cases c
   omega
  cases al with
  | false=>exact (c.1 hR).elim
  | true=>
   rw [ai rfl] at hR;rw [ai ⟨rfl,rfl,PT.2 (by omega)⟩];refine cP X4 (sw rfl rfl) ?_;exact ⟨.tup [.agg (dVal (.mk Yk Yn Ys Yl)),.v (.bool true)],ax,rfl⟩
end
theorem Gu:∀ (a b:List Val),dQ (a ++ b)=dQ a + dQ b
 | [],b=>by simp [dQ]
 | v :: r,b=>by rw [List.cons_append,dQ,dQ,Gu r,Nat.add_assoc]
theorem Gv (u:Val):∀ n,dQ (List.replicate n u)=n * u.wt
 | 0=>by simp [dQ]
 | n + 1=>by rw [List.replicate_succ,dQ,Gv u n,Nat.add_mul,Nat.one_mul,Nat.add_comm]
theorem B3 {sz:List Nat} {F:Nat->Val} {k:Nat}:∀ {es:List Ed} {i:Nat},k < i->(∀ (j:Nat) e,es[j]? = some e->(F e.to.toNat).wt<=64 * bZ sz e)->dQ (es.map fun e=>F e.to.toNat)<=64 * sumE sz k es i
 | [],i,_,_=>by simp [dQ]
 | e :: r,i,hk,h=>by
  have h1:=h 0 e rfl;have h2:=B3 (sz:=sz) (F:=F) (k:=k) (es:=r) (i:=i + 1) (by omega) fun j e he=>h (j + 1) e (sU he);rw [List.map_cons,dQ,sumE,ah (by omega),Nat.mul_add];omega
theorem B4 {sz:List Nat} {F:Nat->Val} {v:Val} {k:Nat}:∀ {es:List Ed} {i:Nat},i<=k->(∀ (j:Nat) e,es[j]? = some e->i + j≠k->(F e.to.toNat).wt<=64 * bZ sz e)->dQ ((es.map fun e=>F e.to.toNat).set (k - i) v)<=v.wt + 64 * sumE sz k es i
 | [],i,_,_=>by simp [dQ]
 | e :: r,i,hk,h=>by
  by_cases Xd:i=k
  ·subst Xd;have h2:=B3 (sz:=sz) (F:=F) (k:=i) (es:=r) (i:=i + 1) (by omega) fun j e he=>h (j + 1) e (sU he) (by omega);rw [Nat.sub_self,List.map_cons,List.set_cons_zero,dQ,sumE,ai rfl];omega
  ·have h1:=h 0 e rfl (by omega);have h2:=B4 (sz:=sz) (F:=F) (v:=v) (k:=k) (es:=r) (i:=i + 1) (by omega) fun j e he hj=>h (j + 1) e (sU he) (by omega);rw [List.map_cons,show k - i=(k - (i + 1)) + 1 by omega,List.set_cons_succ,dQ,sumE,ah Xd,Nat.mul_add];omega
theorem Gw {sz:List Nat} {k:Nat}:∀ {es:List Ed} {i j:Nat} {e:Ed},es[j]? = some e->i + j≠k->bZ sz e<=sumE sz k es i
 | [],i,j,e,h,_=>by simp at h
 | x :: r,i,0,e,h,hk=>by
  simp at h;subst h;rw [sumE,ah (by omega)];omega
 | x :: r,i,j + 1,e,h,hk=>by
  have:=Gw (sz:=sz) (k:=k) (es:=r) (i:=i + 1) (j:=j) (e:=e) (sU h) (by omega);rw [sumE];omega
theorem P5 {ND:List Nd} {L:Nat} (bw:∀ n∈ND,cz L ND.length n) {e:Ed} (h:bZ (aM ND) e≠0) (h2:bZ (bh ND) e < 4097):(bc ND (aM ND) e.to.toNat).wt<=64 * bZ (bh ND) e:=
 wy (eH ND) bw _ _ (aU _) (Nat.pos_of_ne_zero h) h2
theorem WM {ND:List Nd} {L:Nat} (bw:∀ n∈ND,cz L ND.length n) {q:Pl} (hq:uz ND q) (nE:iQ (aM ND) q=true) (hD:∃ x,q.d.ap[q.k]? = some x/\bZ (aM ND) x≠0) (hx:zD (bh ND) q < 4097) (v:Val) :
  (vK (bc ND (aM ND)) q v).wt<=v.wt + 64 * zD (bh ND) q:=by
 obtain ⟨k1,k5,k2,k3,k4,hk⟩:=lD hq;have e0:az.size=0:=rfl;obtain ⟨y,hy,hyD⟩:=hD;unfold iQ at nE;simp only [aQ,decide_eq_true_eq] at nE;unfold vK;by_cases c2:q.s.k=2
 ·rw [ai c2,Val.wt,Gu,Gv,e0];obtain ⟨c5,h0,h1⟩:=k2 c2;obtain ⟨_,_,ht⟩:=Dx bw hq hy (.inl c5);have hE:zD (bh ND) q=1 + q.s.n.toNat * bZ (bh ND) y:=by unfold zD bZ;rw [ai c2,ht]
  rw [hE] at hx ⊢;rw [ht];have hv:dQ [v]=v.wt:=by simp [dQ]
  rw [hv]
  have hm:q.s.n.toNat * (bc ND (aM ND) y.to.toNat).wt<=64 * (q.s.n.toNat * bZ (bh ND) y):=by
   rcases Nat.eq_zero_or_pos q.s.n.toNat with h | h
   ·rw [h];simp
   ·have dK:bZ (bh ND) y<=q.s.n.toNat * bZ (bh ND) y:=Nat.le_mul_of_pos_left _ h;have:=P5 bw hyD (by omega);rw [Nat.mul_left_comm];exact Nat.mul_le_mul_left _ this
  rw [Nat.mul_add];omega
 rw [ah c2];by_cases c1:q.s.k=1
 ·rw [ai c1,Val.wt,e0];have hE:zD (bh ND) q=1 + sumE (bh ND) q.k q.d.ap 0:=by unfold zD;rw [ah c2,ai c1]
  rw [hE] at hx ⊢;have nM:=nE.2;simp [c1] at nM;have nM:=kY.1 nM
  have:=B4 (sz:=bh ND) (F:=bc ND (aM ND)) (v:=v) (k:=q.k) (es:=q.d.ap) (i:=0) (Nat.zero_le _) fun j e he hj=>P5 bw (nM j e he hj) (by
   have:=Gw (sz:=bh ND) he hj
   omega)
  rw [Nat.sub_zero] at this;rw [Nat.mul_add];omega
 ·rw [ah c1,Val.wt,e0];have hv:dQ [v]=v.wt:=by simp [dQ]
  rw [hv];have:zD (bh ND) q=1:=by unfold zD;rw [ah c2,ah c1]
  omega
theorem P6 {ND:List Nd} {L:Nat} (bw:∀ n∈ND,cz L ND.length n) (v:Val):∀ (l:List Pl),(∀ q∈l,uz ND q/\iQ (aM ND) q=true/\∃ x,q.d.ap[q.k]? = some x/\bZ (aM ND) x≠0)->totF (bh ND) l < 4097->(alnV (bc ND (aM ND)) l v).wt<=v.wt + 64 * totF (bh ND) l
 | [],_,_=>by rw [alnV];omega
 | q :: l,h,ht=>by
  rw [totF] at ht ⊢;have ih:=P6 bw v l (fun q hq=>h q (by simp [hq])) (by omega);obtain ⟨h1,h2,h3⟩:=h q (by simp);have:=WM bw h1 h2 h3 (by omega) (alnV (bc ND (aM ND)) l v);rw [alnV,Nat.mul_add];omega
theorem Sx {ND:List Nd} {L:Nat} (bw:∀ n∈ND,cz L ND.length n) {f:Nat->Nat->Bool} {m:Nat} {p:List dm} {i a:Nat} {v u:Val} (h:gw ND (bh ND) (aM ND) (walkV ND f m p i a) (stpsV ND p i) v=some u):u.wt<=v.wt + 262208:=by
 cases hw:walkV ND f m p i a with
 | none=>rw [hw] at h;cases h
 | some r=>
  obtain ⟨j,b⟩:=r;rw [hw] at h;unfold gw at h;simp only at h;split at h
  ·rename_i hc;cases h;obtain ⟨I9,lF,GA⟩:=hc;have WK:=(pA bw (eH ND) p i a hw lF (by have:=wv bw (eH ND) v _ I9;simpa using this)).2;obtain ⟨yc,nP⟩:=oP p i a hw;have:=P6 bw v (stpsV ND p i) (fun q hq=>⟨?_,List.all_eq_true.1 lF q hq,WK q hq⟩) (by omega)
   ·omega
   ·obtain ⟨e,he,rfl⟩:=List.getElem_of_mem hq;obtain ⟨q',_,jk,_,hok',_⟩:=nP e p[e] (gE (by omega));rw [gE he] at jk;cases jk;exact hok'
  ·cases h
section
variable {S:Sch} {ND:List Nd} {PC:List DV} (hP:eZ S ND PC) (p:List dm) (hp:p.length<=1099511627776) (hs:∀ s∈p,s.s.size<=4611686018427387904) (rt:Nat) (vg:fF S=rt) (ez:rt < ND.length)
include hP hp hs vg ez
theorem Gx (x:Val) (hx:x.wt<=1099511627776) :
  aV prog 22 [.pt PC 0,.sl 3 (aT p) none,.agg (dVal x)] (LV (gw ND (bh ND) (aM ND) (walkV ND (dL S) S.ae.length p rt (jE (dL S) S.ae.length)) (stpsV ND p rt) x)):=by
 have hm:=nq PC ND hP;have h:=vv hP (ee ND) (eV ND) p hp hs rt vg ez x hx;generalize gw ND (bh ND) (aM ND) (walkV ND (dL S) S.ae.length p rt (jE (dL S) S.ae.length)) (stpsV ND p rt) x=R at h ⊢;obtain ⟨xk,xn,xs,xl⟩:=x
 cases R with
 | none=>
  have h:aV prog 62 [.pt (nj PC ND (aM ND) (eV ND) (bh ND) (ee ND)) 0,.sl 3 (aT p) none,.agg (dVal (.mk xk xn xs xl))] (.tup [.agg (dVal zeroV),.v (.bool false)]):=h;refine eG 15 [.cell 6 34,.tmp 7] func22 rfl ntmps22 rfl fun _ _ _ _=>?_;refine dS ?_;refine cD xg hm ?_;refine cD QO h ?_;exact ⟨.tup [.agg (dVal zeroV),.v (.bool false)],ax,rfl⟩
 | some u=>
  have h:aV prog 62 [.pt (nj PC ND (aM ND) (eV ND) (bh ND) (ee ND)) 0,.sl 3 (aT p) none,.agg (dVal (.mk xk xn xs xl))] (.tup [.agg (dVal u),.v (.bool true)]):=h;obtain ⟨uk,un,us,ul⟩:=u;refine eG 15 [.cell 6 34,.tmp 7] func22 rfl ntmps22 rfl fun _ _ _ _=>?_;refine dS ?_;refine cD xg hm ?_;refine cD QO h ?_;exact ⟨.tup [.agg (dVal (.mk uk un us ul)),.v (.bool true)],ax,rfl⟩
end
def P7 (ND:List Nd) (o:Option (Nat × Nat)) (l:List Pl):Option (Val × Val):=match o with
 | none=>none
 | some (j,b)=>if pK (bh ND) j=true/\pK (ee ND) j=true then (match gw ND (bh ND) (aM ND) (some (j,b)) l (bc ND (aM ND) j),gw ND (bh ND) (aM ND) (some (j,b)) l (pJ ND (aM ND) (eV ND) j) with
  | some a,some c=>some (a,c)
  | _,_=>none) else none
def Kh:Option (Val × Val)->DV
 | some (a,c)=>.tup [.agg (dVal a),.agg (dVal c),.v (.bool true)]
 | none=>.tup [.agg (dVal zeroV),.agg (dVal zeroV),.v (.bool false)]
theorem B5 {ND:List Nd} {L:Nat} (bw:∀ n∈ND,cz L ND.length n) {j:Nat} (h:pK (bh ND) j=true):(bh ND).getD j 0≠0/\(bc ND (aM ND) j).wt<=262208:=by
 obtain ⟨j',hj,h1,h2⟩:=py.1 h;obtain rfl:j=j':=by omega
 have h0:=(lC (eH ND)).1.1 (Nat.pos_of_ne_zero h1);have:(bc ND (aM ND) j).wt<=64 * (bh ND).getD j 0:=wy (eH ND) bw _ _ (aU _) h0 h2;exact ⟨h1,by omega⟩
theorem B6 {ND:List Nd} {L:Nat} (bw:∀ n∈ND,cz L ND.length n) {j:Nat} (h:pK (ee ND) j=true):(ee ND).getD j 0≠0/\(ee ND).getD j 0 < 4097/\(pJ ND (aM ND) (eV ND) j).wt<=137472507904:=by
 obtain ⟨j',hj,h1,h2⟩:=py.1 h;obtain rfl:j=j':=by omega
 have:(pJ ND (aM ND) (eV ND) j).wt<=(ee ND).getD j 0 * 33554432:=zs bw 4096 j h1 (by omega) h2;exact ⟨h1,h2,by omega⟩
set_option maxHeartbeats 4000000 in
theorem IQ {S:Sch} {ND:List Nd} {PC:List DV} (hP:eZ S ND PC) (hrn:∀ n∈ND,n.ag=2 -> -9223372036854775808<=n.lo/\n.hi<=9223372036854775807) (p:List dm) (hp:p.length<=1099511627776) (hs:∀ s∈p,s.s.size<=4611686018427387904) (rt:Nat) (vg:fF S=rt) (ez:rt < ND.length) :
  aV prog 27 [.pt PC 0,.sl 3 (aT p) none] (Kh (P7 ND (walkV ND (dL S) S.ae.length p rt (jE (dL S) S.ae.length)) (stpsV ND p rt))):=by
 have hm:=nq PC ND hP;have hw:=qN hP p hp hs rt vg ez;have fo:=hP.nl;have nE:=fun x hx=>vv hP (ee ND) (eV ND) p hp hs rt vg ez x hx;generalize hW:walkV ND (dL S) S.ae.length p rt (jE (dL S) S.ae.length)=W at hw nE ⊢
 cases W with
 | none=>
  have hw:aV prog 76 [.pt PC 0,.sl 3 (aT p) none] (.tup [.v (.int .i64 (-1)),.v (.int .i64 (-1)),.v (.bool false)]):=hw;refine eG 74 [.cell 4 34,.cell 5 34,.tmp 6] func27 rfl ntmps27 rfl fun _ _ _ _=>?_;refine cP xg hm ?_;refine cP zP hw ?_;exact ⟨.tup [.agg (dVal zeroV),.agg (dVal zeroV),.v (.bool false)],ax,rfl⟩
 | some jb=>
 obtain ⟨j,b⟩:=jb;have hw:aV prog 76 [.pt PC 0,.sl 3 (aT p) none] (.tup [.v (.int .i64 (j:Nat)),.v (.int .i64 (b:Nat)),.v (.bool true)]):=hw;have hf1:=nu (bh ND) j (by rw [np];exact fo);have hf2:=nu (ee ND) j (by rw [Dk];exact fo);have h1:=@B5 ND _ hP.ok j;have h2:=@B6 ND _ hP.ok j;have hone:=uw hP (bh ND) (ee ND) (eV ND) (j:=j);have htwo:=BR hP hrn (j:=j)
 have hF:P7 ND (some (j,b)) (stpsV ND p rt)=if pK (bh ND) j=true/\pK (ee ND) j=true then (match gw ND (bh ND) (aM ND) (some (j,b)) (stpsV ND p rt) (bc ND (aM ND) j),gw ND (bh ND) (aM ND) (some (j,b)) (stpsV ND p rt) (pJ ND (aM ND) (eV ND) j) with
  | some a,some c=>some (a,c)
  | _,_=>none) else none:=rfl
 rw [hF];clear hF hW;generalize pK (bh ND) j=o1 at hf1 h1 ⊢;generalize pK (ee ND) j=o2 at hf2 h2 ⊢
 cases o1 with
 | false=>
  rw [ah (by simp)];refine eG 74 [.cell 4 34,.cell 5 34,.tmp 6] func27 rfl ntmps27 rfl fun _ _ _ _=>?_;refine cP xg hm ?_;refine cP zP hw ?_;refine cP Cs hf1 ?_;exact ⟨.tup [.agg (dVal zeroV),.agg (dVal zeroV),.v (.bool false)],ax,rfl⟩
 | true=>
 cases o2 with
 | false=>
  rw [ah (by simp)];refine eG 74 [.cell 4 34,.cell 5 34,.tmp 6] func27 rfl ntmps27 rfl fun _ _ _ _=>?_;refine cP xg hm ?_;refine cP zP hw ?_;refine cP Cs hf1 ?_;refine cP Cs hf2 ?_;exact ⟨.tup [.agg (dVal zeroV),.agg (dVal zeroV),.v (.bool false)],ax,rfl⟩
 | true=>
 rw [ai ⟨rfl,rfl⟩];obtain ⟨h3,h4⟩:=h1 rfl;obtain ⟨h5,h6,h7⟩:=h2 rfl;have hone:=hone h3;have htwo:=htwo h5 h6;have ha1:=nE _ (Nat.le_trans h4 (by omega));have zH:=nE _ (Nat.le_trans h7 (by omega));clear nE h1 h2 h3 h4 h5 h6 h7;generalize gw ND (bh ND) (aM ND) (some (j,b)) (stpsV ND p rt) (bc ND (aM ND) j)=R1 at ha1 ⊢;generalize gw ND (bh ND) (aM ND) (some (j,b)) (stpsV ND p rt) (pJ ND (aM ND) (eV ND) j)=R2 at zH ⊢;generalize bc ND (aM ND) j=X1 at hone ha1;generalize pJ ND (aM ND) (eV ND) j=X2 at htwo zH;obtain ⟨x1k,x1n,x1s,x1l⟩:=X1;obtain ⟨x2k,x2n,x2s,x2l⟩:=X2;have hQ:Kh (match (generalizing:=false) R1,R2 with | some a,some c=>some (a,c) | _,_=>none)=if (R1.isSome && R2.isSome)=true then .tup [.agg (dVal (R1.getD zeroV)),.agg (dVal (R2.getD zeroV)),.v (.bool true)] else .tup [.agg (dVal zeroV),.agg (dVal zeroV),.v (.bool false)]:=by cases R1<;>cases R2<;>rfl
 rw [hQ];rw [Sy] at ha1 zH;clear hQ;generalize R1.isSome=b1 at ha1 ⊢;generalize R2.isSome=b2 at zH ⊢;generalize R1.getD zeroV=a at ha1 ⊢;generalize R2.getD zeroV=c at zH ⊢;obtain ⟨ak,an,at2,al⟩:=a;obtain ⟨ck,cn,cs,cl⟩:=c;refine eG 74 [.cell 4 34,.cell 5 34,.tmp 6] func27 rfl ntmps27 rfl fun _ _ _ _=>?_;refine cP xg hm ?_;refine cP zP hw ?_;refine cP Cs hf1 ?_;refine cP Cs hf2 ?_;refine cP xi hone ?_;refine cP QO ha1 ?_;refine cP QQ htwo ?_;refine cP QO zH ?_;refine br ?_ ?_<;>intro g
 ·rw [ah (fun h=>by
   rw [aQ] at h;rw [h.1,h.2] at g
   cases g)]
  exact ⟨.tup [.agg (dVal zeroV),.agg (dVal zeroV),.v (.bool false)],ax,rfl⟩
 ·rw [ai (by cases b1<;>cases b2<;>first | rfl | cases g)];refine rq [0,1] (fun _=>false) mo (by decide +kernel) ?_;exact ⟨.tup [.agg (dVal (.mk ak an at2 al)),.agg (dVal (.mk ck cn cs cl)),.v (.bool true)],ax,rfl⟩
theorem WN {S:Sch} {PC:List DV} (hP:eZ S (resNds S) PC) {rt:Nat} (ez:rt < (resNds S).length) (vg:fF S=rt) (p:List dm) (hp:p.length<=1099511627776) (hs:∀ s∈p,s.s.size<=4611686018427387904):∃ (o:Option (Nat × Nat)) (l:List Pl),
  (∀ x:Val,x.wt<=1099511627776->aV prog 22 [.pt PC 0,.sl 3 (aT p) none,.agg (dVal x)] (LV (gw (resNds S) (bh (resNds S)) (aM (resNds S)) o l x))) /\
  (∀ x:Val,x.wt<=1099511627776->aV prog 25 [.agg (Ql S.ae (dL S) (resNds S) rt),.sl 3 (aT p) none,.agg (dVal x)] (LV (gw (resNds S) (bh (resNds S)) (aM (resNds S)) o l x))) /\
  (∀ x u:Val,gw (resNds S) (bh (resNds S)) (aM (resNds S)) o l x=some u->u.wt<=x.wt + 262208) /\
  aV prog 28 [.agg (Ql S.ae (dL S) (resNds S) rt),.sl 3 (aT p) none] (.v (.int .i64 (WL o))) /\
  o=walkV (resNds S) (dL S) S.ae.length p rt (jE (dL S) S.ae.length)/\l=stpsV (resNds S) p rt:=by
 obtain ⟨LC,_,Qk⟩:=hP.Wv
 exact ⟨walkV (resNds S) (dL S) S.ae.length p rt (jE (dL S) S.ae.length),stpsV (resNds S) p rt,fun x hx=>Gx hP p hp hs rt vg ez x hx,fun x hx=>Gt S.ae (dL S) (resNds S) rt ez Qk.ok Qk.n32 hP.ok hP.Iw hP.nl p hp hs x hx,fun x u h=>Sx hP.ok h,
  zt S.ae (dL S) (resNds S) rt ez Qk.ok Qk.n32 hP.ok hP.Iw p hp hs,rfl,rfl⟩
theorem LX (p:List dm):aV prog 27 [.v (.pointer none),.sl 3 (aT p) none] (Kh none):=by
 have hw:aV prog 76 [.v (.pointer none),.sl 3 (aT p) none] (.tup [.v (.int .i64 (-1)),.v (.int .i64 (-1)),.v (.bool false)]):=LQ _;refine eG 74 [.cell 4 34,.cell 5 34,.tmp 6] func27 rfl ntmps27 rfl fun _ _ _ _=>?_;refine cP xg LN ?_;refine cP zP hw ?_;exact ⟨.tup [.agg (dVal zeroV),.agg (dVal zeroV),.v (.bool false)],ax,rfl⟩
set_option maxHeartbeats 8000000 in
theorem pairs26_law (S:Sch) (hS:S.wt<=1099511627776) (hrS:QX S) (p:List dm) (hpw:wtStp p<=549755813888) (_:Io p):aV prog 5 [.agg (gm S),.sl 3 (aT p) none] (.v (.bool true)):=by
 have nD:=Bs p;have hp:p.length<=1099511627776:=by omega
 have hs:∀ s∈p,s.s.size<=4611686018427387904:=fun s uN=>by have:=Bt uN;omega
 have hf:=Gs S hS;have hb:=(yi S hS).mono (Ψ:=fun r _ _=>Ih S r) fun _ _ _ h=>Bl hS h;have hw:=fun h=>C7 S hS h;have du:∀ n∈resNds S,n.af.length<=1099511627776:=fun n hn=>(pk hn hS).1;have hrn:=Sv hrS;have hro:=@Ig S;have lZ:=eu p;have hz:=oS zeroV (by decide) zeroV;rw [yL] at hz;have yO:aV prog 27 [.v (.pointer none),.sl 3 (aT p) none] (.tup [.agg (dVal zeroV),.agg (dVal zeroV),.v (.bool false)]):=LX p;obtain ⟨ae,order,types,⟨rh,rp⟩⟩:=S;refine eG 121 [.tmp 4] func5 rfl ntmps5 rfl fun _ _ _ _=>?_;refine br ?_ ?_<;>intro c
 rotate_left
 ·refine cP en21 lives26_spec ?_;exact (rfl:_=_)
 refine kG en20 rfl hf ax (fun r hr=>?_);obtain ⟨b,rfl,h0⟩:=hr
 cases b with
 | false=>
  refine cP en21 lives26_spec ?_;exact (rfl:_=_)
 | true=>
 have h0:=h0 rfl;have hw:=hw h0;refine kG XT rfl hb ax (fun r hr=>?_);rcases hr with ⟨hr,_⟩ | ⟨_,PC,hP,rfl⟩
 ·exact (hr h0).elim
 obtain ⟨rt,vg,ez⟩:=hro (yB h0);have hmk:=Gm 2 1 (bQ ae) (cS (dD ae.length (dL ⟨ae,order,types,.mk rh rp⟩))) (resNds ⟨ae,order,types,.mk rh rp⟩) (rt:Nat) hP.ok hP.nl hP.Iw du;obtain ⟨o,l,_,hFi,hwt,hend,ho,hl⟩:=WN hP ez vg p hp hs;have hpr:=IQ hP hrn p hp hs rt vg ez;rw [<- ho,<- hl] at hpr;clear ho hl;rw [vg] at hw;have hok1:=fun i=>B2 (bh (resNds ⟨ae,order,types,.mk rh rp⟩)) i (by rw [np];exact hP.nl);have hok2:=fun i=>B2 (ee (resNds ⟨ae,order,types,.mk rh rp⟩)) i (by rw [Dk];exact hP.nl);have hfs:=fun {j:Nat} h=>B5 hP.ok (j:=j) h;have hss:=fun {j:Nat} h=>B6 hP.ok (j:=j) h;have hone:=fun {j:Nat} h=>vu (bQ ae) (cS (dD ae.length (dL ⟨ae,order,types,.mk rh rp⟩))) (rt:Nat) hP.ok hP.Iw (j:=j) h;have htwo:=fun {j:Nat} h h2=>DD (bQ ae) (cS (dD ae.length (dL ⟨ae,order,types,.mk rh rp⟩))) (rt:Nat) hP.ok hP.Iw hrn (j:=j) h h2;have hw:aV prog 24 [.agg (gm ⟨ae,order,types,.mk rh rp⟩)] (.agg (wL ae (dL ⟨ae,order,types,.mk rh rp⟩) (resNds ⟨ae,order,types,.mk rh rp⟩) (rt:Nat))):=hw;have hend:aV prog 28 [.agg (Ql ae (dL ⟨ae,order,types,.mk rh rp⟩) (resNds ⟨ae,order,types,.mk rh rp⟩) rt),.sl 3 (aT p) none] (.v (.int .i64 (WL o))):=hend;have hFi:∀ x:Val,x.wt<=1099511627776->aV prog 25 [.agg (Ql ae (dL ⟨ae,order,types,.mk rh rp⟩) (resNds ⟨ae,order,types,.mk rh rp⟩) rt),.sl 3 (aT p) none,.agg (dVal x)] (LV (gw (resNds ⟨ae,order,types,.mk rh rp⟩) (bh (resNds ⟨ae,order,types,.mk rh rp⟩)) (aM (resNds ⟨ae,order,types,.mk rh rp⟩)) o l x)):=hFi;generalize dL ⟨ae,order,types,.mk rh rp⟩=F at hw hmk hFi hend hone htwo;generalize resNds ⟨ae,order,types,.mk rh rp⟩=ND at hw hmk hFi hend hone htwo hok1 hok2 hfs hss hwt hpr;clear hb hro du hf hrn
 cases o with
 | none=>
  have hpr:aV prog 27 [.pt PC 0,.sl 3 (aT p) none] (.tup [.agg (dVal zeroV),.agg (dVal zeroV),.v (.bool false)]):=hpr;have hok1:=hok1 (-1);rw [show pK (bh ND) (-1)=false from rfl] at hok1;refine cP zO hpr ?_;refine cP zO yO ?_;refine cP MQ hw ?_;refine cP MP hmk ?_;refine cP G7 hend ?_;refine cP en29 hok1 ?_;refine cP en26 hz ?_;refine cP en26 hz ?_;refine cP en21 lives26_spec ?_;exact (rfl:_=_)
 | some jb=>
 obtain ⟨j,b⟩:=jb;have hend:aV prog 28 [.agg (Ql ae F ND rt),.sl 3 (aT p) none] (.v (.int .i64 (j:Nat))):=hend;have hok1:=hok1 (j:Nat);have hok2:=hok2 (j:Nat);have hfs:=@hfs j;have hss:=@hss j
 have hPF:P7 ND (some (j,b)) l=if pK (bh ND) j=true/\pK (ee ND) j=true then (match gw ND (bh ND) (aM ND) (some (j,b)) l (bc ND (aM ND) j),gw ND (bh ND) (aM ND) (some (j,b)) l (pJ ND (aM ND) (eV ND) j) with
  | some a,some c=>some (a,c)
  | _,_=>none) else none:=rfl
 rw [hPF] at hpr;clear hPF;generalize pK (bh ND) (j:Nat)=o1 at hok1 hfs hpr;generalize pK (ee ND) (j:Nat)=o2 at hok2 hss hpr
 cases o1 with
 | false=>
  rw [ah (by simp)] at hpr;have hpr:aV prog 27 [.pt PC 0,.sl 3 (aT p) none] (.tup [.agg (dVal zeroV),.agg (dVal zeroV),.v (.bool false)]):=hpr;refine cP zO hpr ?_;refine cP zO yO ?_;refine cP MQ hw ?_;refine cP MP hmk ?_;refine cP G7 hend ?_;refine cP en29 hok1 ?_;refine cP en26 hz ?_;refine cP en26 hz ?_;refine cP en21 lives26_spec ?_;exact (rfl:_=_)
 | true=>
 cases o2 with
 | false=>
  rw [ah (by simp)] at hpr;have hpr:aV prog 27 [.pt PC 0,.sl 3 (aT p) none] (.tup [.agg (dVal zeroV),.agg (dVal zeroV),.v (.bool false)]):=hpr;refine cP zO hpr ?_;refine cP zO yO ?_;refine cP MQ hw ?_;refine cP MP hmk ?_;refine cP G7 hend ?_;refine cP en29 hok1 ?_;refine cP en29 hok2 ?_;refine cP en26 hz ?_;refine cP en26 hz ?_;refine cP en21 lives26_spec ?_;exact (rfl:_=_)
 | true=>
 rw [ai ⟨rfl,rfl⟩] at hpr;obtain ⟨h1,h2⟩:=hfs rfl;obtain ⟨h3,h4,h5⟩:=hss rfl;have hone:=hone h1;have htwo:=htwo h3 h4;have hf1:=hFi (bc ND (aM ND) j) (by omega);have hf2:=hFi (pJ ND (aM ND) (eV ND) j) (by omega);have hw1:=hwt (bc ND (aM ND) j);have sX:=hwt (pJ ND (aM ND) (eV ND) j);clear hFi hwt hfs hss;generalize gw ND (bh ND) (aM ND) (some (j,b)) l (bc ND (aM ND) j)=Q1 at hpr hf1 hw1;generalize gw ND (bh ND) (aM ND) (some (j,b)) l (pJ ND (aM ND) (eV ND) j)=Q2 at hpr hf2 sX;generalize bc ND (aM ND) j=X1 at hone hf1 hw1 h2;generalize pJ ND (aM ND) (eV ND) j=X2 at htwo hf2 sX h5;obtain ⟨x1k,x1n,x1s,x1l⟩:=X1;obtain ⟨x2k,x2n,x2s,x2l⟩:=X2;have hQ:Kh (match (generalizing:=false) Q1,Q2 with | some a,some c=>some (a,c) | _,_=>none)=if Q1.isSome=true/\Q2.isSome=true then .tup [.agg (dVal (Q1.getD zeroV)),.agg (dVal (Q2.getD zeroV)),.v (.bool true)] else .tup [.agg (dVal zeroV),.agg (dVal zeroV),.v (.bool false)]:=by cases Q1<;>cases Q2<;>rfl
 have hpr:aV prog 27 [.pt PC 0,.sl 3 (aT p) none] (if Q1.isSome=true/\Q2.isSome=true then .tup [.agg (dVal (Q1.getD zeroV)),.agg (dVal (Q2.getD zeroV)),.v (.bool true)] else .tup [.agg (dVal zeroV),.agg (dVal zeroV),.v (.bool false)]):=by rw [<- hQ];exact hpr
 have mD:(Q1.getD zeroV).wt<=1099511627776:=by
  cases Q1 with
  | none=>exact (by decide:zeroV.wt<=1099511627776)
  | some u=>exact Nat.le_trans (hw1 u rfl) (by omega)
 have sP:(Q2.getD zeroV).wt<=1099511627776:=by
  cases Q2 with
  | none=>exact (by decide:zeroV.wt<=1099511627776)
  | some u=>exact Nat.le_trans (sX u rfl) (by omega)
 have hs1:=oS _ mD (Q1.getD zeroV);have hs2:=oS _ sP (Q2.getD zeroV);rw [yL] at hs1 hs2;rw [Sy] at hf1 hf2;clear hQ hw1 sX mD sP;generalize Q1.isSome=b1 at hf1 hpr;generalize Q2.isSome=b2 at hf2 hpr;generalize Q1.getD zeroV=u1 at hf1 hpr hs1;generalize Q2.getD zeroV=u2 at hf2 hpr hs2;obtain ⟨v1k,v1n,v1s,v1l⟩:=u1;obtain ⟨v2k,v2n,v2s,v2l⟩:=u2;by_cases hb:b1=true/\b2=true
 ·rw [ai hb] at hpr;obtain ⟨rfl,rfl⟩:=hb;refine cP zO hpr ?_;refine cP zO yO ?_;refine cP MQ hw ?_;refine cP MP hmk ?_;refine cP G7 hend ?_;refine cP en29 hok1 ?_;refine cP en29 hok2 ?_;refine dS ?_;refine cD en30 hone ?_;refine cD en25 hf1 ?_;refine dS ?_;refine cD en31 htwo ?_;refine cD en25 hf2 ?_;refine cP en26 hs1 ?_;refine cP en26 hs2 ?_;refine cP en21 lives26_spec ?_;exact (rfl:_=_)
 ·rw [ah hb] at hpr;refine cP zO hpr ?_;refine cP zO yO ?_;refine cP MQ hw ?_;refine cP MP hmk ?_;refine cP G7 hend ?_;refine cP en29 hok1 ?_;refine cP en29 hok2 ?_;refine dS ?_;refine cD en30 hone ?_;refine cD en25 hf1 ?_;refine dS ?_;refine cD en31 htwo ?_;refine cD en25 hf2 ?_;refine br (fun _=>?_) (fun g=>(hb (by cases b1<;>cases b2<;>first | exact ⟨rfl,rfl⟩ | cases g)).elim);refine cP en26 hz ?_;refine cP en26 hz ?_;refine cP en21 lives26_spec ?_;exact (rfl:_=_)
end Go.Proofs.YtadhpeooehkklaaGreat
