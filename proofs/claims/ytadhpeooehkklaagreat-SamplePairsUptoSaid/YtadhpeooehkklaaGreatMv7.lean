/- Part 7 of the proof: A region that draws its order, run by a schedule: at each point all that may come and has an effect is tried; Regions that draw their order, in which two new objects may come in either order; Sample: make1: all sizes; Rules for the evaluator: calls that hand back fresh rows; Rules for the evaluator: elements of rows whose cells nobody else knows, read and written whole; Rules for the evaluator: a slice literal without elements, its cells known; Rules for the evaluator: a slice literal, its cells known; A contract that hands back a fresh row is one of data alone, too; Paths of a value: plain; tree.steps; Where steps lead in a value, and that value with another one there: plain; tree: slices.Index of steps, kid, clone, Get; tree: put, Set; Sample: one: first values; Sample: two: second values; Sample: fits, First, Second; no plan; A lattice, as its readers know it; Leq; joins are the document's; Where steps lead in a plan, and how places are seen, plain; The first edge of a name; Values along paths: what stands beside, what is alive, the value itself: plain; The document's Bottom, Right of paths; the program's Right of paths; Where steps lead: the document's Edge, Walk; the program's; The program's way along steps: fits, step, Walk; Sample: what stands beside, the nodes and edges of a path, what is alive; With which schemas nothing is wrong: the document's Wrong of chapters 20, 21; the law's fine; Which levels see a place: the program's Who; Sample: the nodes and edges of a path, what is alive. No condition. -/
import Derived.Test.YtadhpeooehkklaaGreatMv2
import Derived.Test.YtadhpeooehkklaaGreatMv4
import Derived.Test.YtadhpeooehkklaaGreatMv5
import Derived.Test.YtadhpeooehkklaaGreatMv6
set_option linter.all false
namespace Go.Proofs.YtadhpeooehkklaaGreat
namespace Dv
open Go Go.RowKit
inductive kW
 | fin
 | op (i:Nat) (t:kW)
 | ev (i:Nat) (t alt:kW)
 | stop
section
variable {P:Program} {ops:Array Oper} {C:World->Prop} {Q:Act->World->Prop} {W:Nat->Bool}
def rdy (ops:Array Oper) (rem:List Nat) (i:Nat):Bool:=
 match ops[i]? with
 | some o=>o.after.toList.all fun e=>!Region.binds .any e || !rem.contains e.on
 | none=>false
def R0 (ops:Array Oper) (i:Nat):Bool:=match ops[i]? with | some o=>gz o.op | none=>false
def chkA (ops:Array Oper):kW->List Nat->Option (List Nat)->Bool
 | .fin,rem,m=>m.isNone && rem.isEmpty
 | .op i t,rem,m=>m.isNone && (rem.contains i && (!R0 ops i && (rdy ops rem i && chkA ops t (rem.erase i) none)))
 | .ev i t alt,rem,m=>rem.contains i && (R0 ops i && (rdy ops rem i && (chkA ops t (rem.erase i) none && chkA ops alt rem (some (i :: m.getD [])))))
 | .stop,rem,m=>match m with
  | some seen=>rem.all fun j=>!rdy ops rem j || seen.contains j
  | none=>false
def Dp (ops:Array Oper) (W:Nat->Bool):Bool:=
 (List.range ops.size).all fun i=>(List.range ops.size).all fun j=>
  Nat.beq i j || ordB ops ops.size i j || ordB ops ops.size j i || (R0 ops i && R0 ops j) || (fN ops W j i && fN ops W i j)
def runS (P:Program) (ops:Array Oper) (W:Nat->Bool) (C:World->Prop) (Q:Act->World->Prop):kW->Act->World->Prop
 | .fin,a,w=>Q a w
 | .op i t,a,w=>∃ o,ops[i]? = some o/\∃ v,Yl P ops C o v a/\(kb o.op=true->C w)/\runS P ops W C Q t (a.put o.dst v) w
 | .ev i t alt,a,w=>(∃ o,ops[i]? = some o/\dT P ops o a w fun a' w'=>(W i=false->C w->C w')/\runS P ops W C Q t a' w')/\runS P ops W C Q alt a w
 | .stop,_,_=>True
def R3 (P:Program) (ops:Array Oper) (W:Nat->Bool) (C:World->Prop) (Q:Act->World->Prop) (rem:List Nat) (a:Act) (w:World):Prop:=∃ T,chkA ops T rem none=true/\runS P ops W C Q T a w
def Cl (ops:Array Oper) (rem:List Nat):Prop:=∀ (k:Nat) o,ops[k]? = some o->k ∉ rem->∀ e∈o.after,Region.binds .any e=true->e.on ∉ rem
theorem ml {rem:List Nat} {i:Nat} (h:rdy ops rem i=true):∃ o,ops[i]? = some o/\∀ e∈o.after,Region.binds .any e=true->e.on ∉ rem:=by
 unfold rdy at h;split at h
 ·rename_i o ho;refine ⟨o,ho,fun e he hb=>?_⟩;have:=List.all_eq_true.1 h e (sU he);rw [hb] at this;simpa using this
 ·cases h
theorem pw {rem:List Nat} {i j:Nat} (h:rdy ops rem i=true):rdy ops (rem.erase j) i=true:=by
 obtain ⟨o,ho,ha⟩:=ml h;unfold rdy;rw [ho];simp only [List.all_eq_true,Bool.or_eq_true,Bool.not_eq_true'];intro e he;cases hb:Region.binds .any e
 ·exact .inl rfl
 ·right;have:=ha e (sU he) hb;simp only [List.contains_eq_mem,decide_eq_false_iff_not];exact fun hm=>this (List.mem_of_mem_erase hm)
theorem zc {rem:List Nat} (hn:rem.Nodup) (hc:Cl ops rem) {i:Nat} (h:rdy ops rem i=true):Cl ops (rem.erase i):=by
 intro k o ho hk e he hb hm;have lU:=List.mem_of_mem_erase hm;by_cases kD:k=i
 ·subst kD;obtain ⟨o',Ce,ha⟩:=ml h;rw [ho] at Ce;simp only [oI] at Ce;subst Ce;exact ha e he hb lU
 ·exact hc k o ho (fun hkm=>hk ((List.mem_erase_of_ne kD).2 hkm)) e he hb lU
theorem IA {rem:List Nat} (hc:Cl ops rem):∀ (n:Nat) (j k:Nat) o,ops[k]? = some o->(∀ e∈o.after,Region.binds .any e=true->e.on ∉ rem)->ordB ops n j k=true->j ∉ rem
 | 0,j,k,o,_,_,h=>by simp [ordB] at h
 | n + 1,j,k,o,ho,fI,h=>by
  simp only [ordB,ho,List.any_eq_true,aQ,Bool.or_eq_true] at h;obtain ⟨e,he,hb,hj⟩:=h;have qj:e∈o.after:=sU he;have h1:=fI e qj hb;rcases hj with hj | hj
  ·have:e.on=j:=sU hj;rw [<- this];exact h1
  ·cases QD:ops[e.on]? with
   | none=>
    cases n with
    | zero=>simp [ordB] at hj
    | succ n=>simp [ordB,QD] at hj
   | some o'=>exact IA hc n j e.on o' QD (hc e.on o' QD h1) hj
theorem FR {rem:List Nat} (hP:Dp ops W=true) (hc:Cl ops rem) {i j:Nat} (hi:rdy ops rem i=true) (hj:rdy ops rem j=true) (mw:i∈rem) (wa:j∈rem) (jF:i≠j) (UF:R0 ops i=false∨R0 ops j=false):fN ops W j i=true:=by
 obtain ⟨o,ho,ha⟩:=ml hi;obtain ⟨o',Ce,ha'⟩:=ml hj;simp only [Dp,List.all_eq_true,List.mem_range] at hP;have h1:=hP i (Array.getElem?_eq_some_iff.1 ho).1 j (Array.getElem?_eq_some_iff.1 Ce).1;simp only [Bool.or_eq_true,aQ,Nat.beq_eq] at h1;rcases h1 with (((h1 | h1) | h1) | h1) | h1
 ·exact (jF h1).elim
 ·exact (IA hc _ _ _ o' Ce ha' h1 mw).elim
 ·exact (IA hc _ _ _ o ho ha h1 wa).elim
 ·rcases UF with h | h
  ·rw [h] at h1;simp at h1
  ·rw [h] at h1;simp at h1
 ·exact h1.1
theorem Dq {i:Nat} {o:Oper} (h:ops[i]? = some o):R0 ops i=gz o.op:=by unfold R0;rw [h]
theorem BK (dB:∀ (j:Nat) (o:Oper) cs b,ops[j]? = some o->o.op ≠ .select cs b) (hP:Dp ops W=true) {i:Nat} {o:Oper} (hi:ops[i]? = some o) (hE:gz o.op=false) :
  ∀ (T:kW) (rem:List Nat) (a:Act) (w:World),rem.Nodup->Cl ops rem->chkA ops T rem none=true->runS P ops W C Q T a w->i∈rem->rdy ops rem i=true ->
   ∃ v,Yl P ops C o v a/\(kb o.op=true->C w)/\R3 P ops W C Q (rem.erase i) (a.put o.dst v) w
 | .fin,rem,a,w,_,_,hc,_,mw,_=>by
  simp only [chkA,aQ,List.isEmpty_iff] at hc;rw [hc.2] at mw;cases mw
 | .stop,rem,a,w,_,_,hc,_,_,_=>by simp [chkA] at hc
 | .ev j t alt,rem,a,w,hn,eK,hc,hr,mw,Pq=>by
  exfalso
  have key:∀ (T:kW) (seen:List Nat),(∀ k∈seen,R0 ops k=true)->chkA ops T rem (some seen)=true->False:=by
   intro T
   induction T with
   | fin=>intro seen _ h;simp [chkA] at h
   | op=>intro seen _ h;simp [chkA] at h
   | ev k t alt _ ih=>
    intro seen hs h;simp only [chkA,aQ,Option.getD_some] at h
    exact ih (k :: seen) (fun q hq=>by
     rcases bL hq with rfl | hq
     ·exact h.2.1
     ·exact hs q hq) h.2.2.2.2
   | stop=>
    intro seen hs h;simp only [chkA,List.all_eq_true,Bool.or_eq_true,Bool.not_eq_true'] at h;rcases h i mw with h1 | h1
    ·rw [Pq] at h1;cases h1
    ·have:=hs i (sU h1);rw [Dq hi,hE] at this;cases this
  simp only [chkA,aQ,Option.getD_none] at hc;exact key alt [j] (fun k hk=>by rw [List.mem_singleton] at hk;rw [hk];exact hc.2.1) hc.2.2.2.2
 | .op j t,rem,a,w,hn,eK,hc,hr,mw,Pq=>by
  simp only [chkA,aQ,Bool.not_eq_true'] at hc;obtain ⟨_,wa,Mc,Wr,L9⟩:=hc;have wa:j∈rem:=sU wa;simp only [runS] at hr;obtain ⟨y,hy,v,Ja,hyc,vg⟩:=hr;by_cases jF:i=j
  ·subst jF;rw [hi] at hy;simp only [oI] at hy;subst hy;exact ⟨v,Ja,hyc,t,L9,vg⟩
  ·have uI:=FR hP eK Pq Wr mw wa jF (.inr Mc);obtain ⟨GY,L6,_,_⟩:=eF uI hy hi;obtain ⟨u,hu,huc,T',hT',R4⟩:=BK dB hP hi hE t (rem.erase j) (a.put y.dst v) w (hn.erase j) (zc hn eK Wr) L9 vg ((List.mem_erase_of_ne jF).2 mw) (pw Pq);have Ar:=fun cs b=>dB i o cs b hi;have Xe:=fun cs b=>dB j y cs b hy;obtain ⟨_,hdd,_⟩:=Oper.apart_spec GY;refine ⟨u,(Yl.same GY Ar).1 hu,huc,.op j T',?_,?_⟩
   ·simp only [chkA,aQ,Bool.not_eq_true'];refine ⟨rfl,?_,Mc,pw Wr,?_⟩
    ·simpa using (List.mem_erase_of_ne (Ne.symm jF)).2 wa
    ·rw [List.erase_comm];exact hT'
   ·simp only [runS];refine ⟨y,hy,v,(Yl.same L6 Xe).2 Ja,hyc,?_⟩;rw [<- Act.put_comm a v u hdd];exact R4
theorem FT {e:Nat}:∀ (T:kW) (rem:List Nat) (seen:List Nat) (a:Act) (w:World),chkA ops T rem (some seen)=true->runS P ops W C Q T a w->e∈rem->rdy ops rem e=true->e ∉ seen ->
  ∃ o t,ops[e]? = some o/\chkA ops t (rem.erase e) none=true/\dT P ops o a w fun a' w'=>(W e=false->C w->C w')/\runS P ops W C Q t a' w'
 | .fin,rem,seen,a,w,hc,_,_,_,_=>by simp [chkA] at hc
 | .op _ _,rem,seen,a,w,hc,_,_,_,_=>by simp [chkA] at hc
 | .stop,rem,seen,a,w,hc,_,hm,hr,hs=>by
  simp only [chkA,List.all_eq_true,Bool.or_eq_true,Bool.not_eq_true'] at hc;rcases hc e hm with h | h
  ·rw [hr] at h;cases h
  ·exact (hs (sU h)).elim
 | .ev i t alt,rem,seen,a,w,hc,hr,hm,Pq,hs=>by
  simp only [chkA,aQ,Option.getD_some] at hc;simp only [runS] at hr;obtain ⟨⟨o,ho,bd⟩,hra⟩:=hr;by_cases zA:i=e
  ·subst zA;exact ⟨o,t,ho,hc.2.2.2.1,bd⟩
  ·exact FT alt rem (i :: seen) a w hc.2.2.2.2 hra hm Pq (fun h=>by
    rcases bL h with h | h
    ·exact zA h.symm
    ·exact hs h)
theorem J8 (dB:∀ (j:Nat) (o:Oper) cs b,ops[j]? = some o->o.op ≠ .select cs b) (hP:Dp ops W=true) {i:Nat} {o:Oper} (hi:ops[i]? = some o) (hE:gz o.op=true) :
  ∀ (T:kW) (rem:List Nat) (a:Act) (w:World),rem.Nodup->Cl ops rem->chkA ops T rem none=true->runS P ops W C Q T a w->i∈rem->rdy ops rem i=true ->
   dT P ops o a w (fun a' w'=>(W i=false->C w->C w')/\R3 P ops W C Q (rem.erase i) a' w')
 | .fin,rem,a,w,_,_,hc,_,mw,_=>by
  simp only [chkA,aQ,List.isEmpty_iff] at hc;rw [hc.2] at mw;cases mw
 | .stop,rem,a,w,_,_,hc,_,_,_=>by simp [chkA] at hc
 | .ev j t alt,rem,a,w,hn,eK,hc,hr,mw,Pq=>by
  simp only [chkA,aQ,Option.getD_none] at hc;simp only [runS] at hr;obtain ⟨⟨y,hy,bd⟩,hra⟩:=hr;by_cases jF:i=j
  ·subst jF;rw [hi] at hy;simp only [oI] at hy;subst hy;exact cK (fun a' w' h=>⟨h.1,t,hc.2.2.2.1,h.2⟩) bd
  ·obtain ⟨o',t',Ce,L9,hs⟩:=FT alt rem [j] a w hc.2.2.2.2 hra mw Pq (sU jF);rw [hi] at Ce;simp only [oI] at Ce;subst Ce;exact cK (fun a' w' h=>⟨h.1,t',L9,h.2⟩) hs
 | .op j t,rem,a,w,hn,eK,hc,hr,mw,Pq=>by
  simp only [chkA,aQ,Bool.not_eq_true'] at hc;obtain ⟨_,wa,Mc,Wr,L9⟩:=hc;have wa:j∈rem:=sU wa;simp only [runS] at hr;obtain ⟨y,hy,v,Ja,hyc,vg⟩:=hr
  have jF:i≠j:=by
   rintro rfl;rw [Dq hi,hE] at Mc;cases Mc
  have uI:=FR hP eK Pq Wr mw wa jF (.inr Mc);obtain ⟨GY,L6,_,XF⟩:=eF uI hy hi;have Ar:=fun cs b=>dB i o cs b hi;have Xe:=fun cs b=>dB j y cs b hy;have ih:=J8 dB hP hi hE t (rem.erase j) (a.put y.dst v) w (hn.erase j) (zc hn eK Wr) L9 vg ((List.mem_erase_of_ne jF).2 mw) (pw Pq);refine cK ?_ (jl ((ko GY Ar).1 ih));rintro a' w' ⟨⟨oX,T',hT',R4⟩,u,rfl⟩;refine ⟨oX,.op j T',?_,?_⟩
  ·simp only [chkA,aQ,Bool.not_eq_true'];refine ⟨rfl,?_,Mc,pw Wr,?_⟩
   ·simpa using (List.mem_erase_of_ne (Ne.symm jF)).2 wa
   ·rw [List.erase_comm];exact hT'
  ·simp only [runS];refine ⟨y,hy,v,(Yl.same (u:=u) L6 Xe).2 Ja,fun hL=>?_,R4⟩
   have XG:W i=false:=by
    cases hw:W i
    ·rfl
    ·exact (XF ⟨hL,hw⟩).elim
   exact oX XG (hyc hL)
theorem FU {Q':Exit->Act->World->Prop} (dB:∀ (j:Nat) (o:Oper) cs b,ops[j]? = some o->o.op ≠ .select cs b) (hP:Dp ops W=true) (hb:∀ (i:Nat) (o:Oper),ops[i]? = some o->∀ e∈o.after,Region.binds .any e=true->e.on < ops.size)
  (hQ:∀ a w,Q a w->Q' .normal a w):∀ (iS:Nat) (listed:Array Bool) (rem:List Nat) (a:Act) (w:World),
  listed.size=ops.size->(∀ i,i∈rem↔i < ops.size/\listed.getD i true=false)->rem.Nodup->Cl ops rem->rem.length<=iS->R3 P ops W C Q rem a w->wpAny P .any ops Q' iS listed a w:=by
 have R5:∀ (listed:Array Bool) (rem:List Nat),listed.size=ops.size->(∀ i,i∈rem↔i < ops.size/\listed.getD i true=false)->∀ i,i∈Region.ready .any ops listed↔i∈rem/\rdy ops rem i=true:=by
  intro listed rem bT iB i
  have hl:∀ k,k < ops.size->(listed.getD k false=true↔k ∉ rem):=fun k hk=>by
   have fb:k < listed.size:=by rw [bT];exact hk
   rw [iB k];simp [hk,fb]
  rw [mem_ready];constructor
  ·rintro ⟨h1,o,ho,h2⟩;have hi:=(Array.getElem?_eq_some_iff.1 ho).1;refine ⟨(iB i).2 ⟨hi,h1⟩,?_⟩;unfold rdy;rw [ho];simp only [List.all_eq_true,Bool.or_eq_true,Bool.not_eq_true'];intro e he;cases rf:Region.binds .any e
   ·exact .inl rfl
   ·right;have qj:e∈o.after:=sU he;simp only [List.contains_eq_mem,decide_eq_false_iff_not];exact (hl _ (hb i o ho e qj rf)).1 (h2 e qj rf)
  ·rintro ⟨h1,h2⟩;obtain ⟨o,ho,h3⟩:=ml h2;exact ⟨((iB i).1 h1).2,o,ho,fun e he rf=>(hl _ (hb i o ho e he rf)).2 (h3 e he rf)⟩
 intro iS
 induction iS with
 | zero=>
  intro listed rem a w bT iB hn eK hlen hr;have:rem=[]:=List.length_eq_zero_iff.1 (by omega);subst this;obtain ⟨T,hT,R4⟩:=hr;refine ⟨?_,hQ _ _ ?_⟩
  ·rw [List.eq_nil_iff_forall_not_mem];intro i hi;cases ((R5 listed [] bT iB i).1 hi).1
  ·cases T with
   | fin=>exact R4
   | op i t=>simp [chkA] at hT
   | ev i t alt=>simp [chkA] at hT
   | stop=>simp [chkA] at hT
 | succ iS ih=>
  intro listed rem a w bT iB hn eK hlen hr;obtain ⟨T,hT,R4⟩:=hr;refine ⟨fun h0=>?_,fun i hi=>?_⟩
  ·cases T with
   | fin=>exact hQ _ _ R4
   | op i t=>
    exfalso;simp only [chkA,aQ] at hT;have:=(R5 listed rem bT iB i).2 ⟨by simpa using hT.2.1,hT.2.2.2.1⟩;rw [h0] at this;cases this
   | ev i t alt=>
    exfalso;simp only [chkA,aQ] at hT;have:=(R5 listed rem bT iB i).2 ⟨by simpa using hT.1,hT.2.2.1⟩;rw [h0] at this;cases this
   | stop=>simp [chkA] at hT
  ·obtain ⟨mw,hir⟩:=(R5 listed rem bT iB i).1 hi;obtain ⟨o,ho,_⟩:=ml hir;have eo:=(Array.getElem?_eq_some_iff.1 ho).1
   have Av:∀ k,k∈rem.erase i↔k < ops.size/\(listed.setIfInBounds i true).getD k true=false:=by
    intro k;rw [List.Nodup.mem_erase_iff hn];by_cases kD:k=i
    ·subst kD;simp [bT,eo]
    ·rw [getD_set_ne true (Ne.symm kD)];simp only [ne_eq,kD,not_false_eq_true,true_and];exact iB k
   have BL:∀ a' w',R3 P ops W C Q (rem.erase i) a' w' -> wpAny P .any ops Q' iS (listed.setIfInBounds i true) a' w':=fun a' w' h=>
    ih _ (rem.erase i) a' w' (by simp [bT]) Av (hn.erase i) (zc hn eK hir) (by rw [List.length_erase_of_mem mw];have:=List.length_pos_of_mem mw;omega) h
   refine ti ho ?_
   cases hE:gz o.op with
   | true=>exact cK (fun a' w' h=>BL a' w' h.2) (J8 dB hP ho hE T rem a w hn eK hT R4 mw hir)
   | false=>
    obtain ⟨v,hy,hc,h⟩:=BK dB hP ho hE T rem a w hn eK hT R4 mw hir;exact il hy hc (BL _ _ h)
end
def goA (X:Ctx) (D:Dr):kW->Bool->List (Nat × Sl)->St->Prop
 | .fin,_,_,st=>go X 4000 D.k st
 | .op i t,c,s0,st=>
  match D.ops.toList[i]? with
  | some o=>goD X ⟨D.ops,D.W,D.k,D.iF,some (goA X D t)⟩ 3000 c [(i,o)] s0 st
  | none=>False
 | .ev i t alt,c,s0,st=>
  (match D.ops.toList[i]? with
  | some o=>goD X ⟨D.ops,D.W,D.k,D.iF,some (goA X D t)⟩ 3000 c [(i,o)] s0 st
  | none=>False)/\goA X D alt c s0 st
 | .stop,_,_,_=>True
def LG (ops:Array Oper):Bool:=Region.noSelect ops && (List.range ops.size).all fun i=>match ops[i]? with | some o=>o.after.toList.all fun e=>!Region.binds .any e || Nat.blt e.on ops.size | none=>true
section
variable {X:Ctx} {D:Dw}
theorem BM (hD:te D.E0 D.d.iF.bx D.wr) (hf:D.d.fin=none):∀ (T:kW) (rem:List Nat) m,chkA D.d.ops T rem m=true->∀ c s0 st,goA X D.d T c s0 st->∀ E a w,fO X D c E s0 st a w->runS X.P D.d.ops D.d.W D.C (D.Q X) T a w:=by
 intro T
 have hone:∀ (t:kW) (i:Nat) (o:Oper),D.d.ops[i]? = some o->(∀ c s0 st,goA X D.d t c s0 st->∀ E a w,fO X D c E s0 st a w->runS X.P D.d.ops D.d.W D.C (D.Q X) t a w)->∀ c s0 st,goD X ⟨D.d.ops,D.d.W,D.d.k,D.d.iF,some (goA X D.d t)⟩ 3000 c [(i,o)] s0 st->∀ E a w,fO X D c E s0 st a w ->
   runT X.P D.d.ops D.d.W D.C (fun a w=>runS X.P D.d.ops D.d.W D.C (D.Q X) t a w) [i] a w:=fun t i o ho ih c s0 st hg E a w h=>by
  have h1:=eM (D:=⟨⟨D.d.ops,D.d.W,D.d.k,D.d.iF,some (goA X D.d t)⟩,D.E0,D.wr⟩) hD 3000 c [(i,o)] s0 st hg (fun p hp=>by
   rw [List.mem_singleton] at hp;rw [hp]
   exact ho) E a w ⟨h.rel,h.x,h.β,h.t0,h.cc⟩
  refine lY ?_ h1;rintro a w ⟨c,E,s0,st,h2,h3⟩;exact ih c s0 st h3 E a w ⟨h2.rel,h2.x,h2.β,h2.t0,h2.cc⟩
 induction T with
 | fin=>
  intro rem m _ c s0 st hg E a w h;show D.Q X a w;unfold Dw.Q;rw [hf];exact go_sound 4000 _ _ hg E a w h.rel
 | stop=>intro rem m _ c s0 st hg E a w h;exact trivial
 | op i t ih=>
  intro rem m hc c s0 st hg E a w h;simp only [chkA,aQ,Bool.not_eq_true'] at hc;simp only [goA] at hg;split at hg
  ·rename_i o ho;have ho:D.d.ops[i]? = some o:=sU ho;have h4:=hone t i o ho (ih _ _ hc.2.2.2.2) c s0 st hg E a w h;have hE:gz o.op=false:=by rw [<- Dq ho];exact hc.2.2.1
   simp only [runT,ho,hE,Bool.false_eq_true,if_false] at h4;exact ⟨o,ho,h4⟩
  ·exact hg.elim
 | ev i t alt ih1 T4=>
  intro rem m hc c s0 st hg E a w h;simp only [chkA,aQ] at hc;obtain ⟨hg,Qb⟩:=hg;refine ⟨?_,T4 _ _ hc.2.2.2.2 c s0 st Qb E a w h⟩;split at hg
  ·rename_i o ho;have ho:D.d.ops[i]? = some o:=sU ho;have h4:=hone t i o ho (ih1 _ _ hc.2.2.2.1) c s0 st hg E a w h;have hE:gz o.op=true:=by rw [<- Dq ho];exact hc.2.1
   simp only [runT,ho,hE,if_true] at h4;exact ⟨o,ho,h4⟩
  ·exact hg.elim
end
end Dv
end Go.Proofs.YtadhpeooehkklaaGreat
set_option maxRecDepth 100000
namespace Go.Proofs.YtadhpeooehkklaaGreat
open Go Go.RowKit
namespace Dv
section
variable {X:Ctx} {st:St}
theorem tT {i j:Nat} {s S:St} (h:dg s (ek i j S):=by refine (⟨rfl,rfl,?_⟩:_/\_/\_);repeat' (first | exact trivial | refine ⟨rfl,?_⟩)):(s=S∨dg s S)∨dg s (ek i j S):=.inr h
theorem R6 {id:Nat} {ops:Array Oper} {k:List It} (W:Nat->Bool) (T:kW) (i j:Nat) (hm:X.P.follows .mixedOrders=true) (hc:(LG ops && Dp ops W && chkA ops T (List.range ops.size) none)=true) (S:St)
  (h:goA X ⟨ops,W,[.sx fun s=>(s=S∨dg s S)∨dg s (ek i j S)],st,none⟩ T true st.sl st) (jF:(Nat.ble X.n0 i && Nat.ble X.n0 j && Nat.blt i S.bx.length && Nat.blt j S.bx.length)=true) (hk:go X 4000 k S) (hX:X.bt=[]:=by exact rfl):lS X id ops k st:=by
 intro E a w hr;have iA:=jJ hr;simp only [aQ] at hc;simp only [aQ,Nat.ble_eq,Nat.blt_eq] at jF;obtain ⟨⟨hN,hP⟩,hT⟩:=hc;simp only [LG,aQ,List.all_eq_true,List.mem_range] at hN;have hs:=kJ iA (ops:=ops) (W:=W) (k:=[.sx fun s=>(s=S∨dg s S)∨dg s (ek i j S)]);have cx:=BM (D:=⟨⟨ops,W,[.sx fun s=>(s=S∨dg s S)∨dg s (ek i j S)],st,none⟩,E,w.drew⟩) iA.env.em rfl T _ _ hT true st.sl st h E a w.drew hs;refine wp_region_any hm ?_;refine FU (C:=CC E st.bx w.drew) (Q:=kq X [.sx fun s=>(s=S∨dg s S)∨dg s (ek i j S)] .normal) (Region.noSelect_spec hN.1) hP (fun i o ho e he hb=>?_) (fun a w hq=>?_) ops.size (Array.replicate ops.size false) (List.range ops.size) a _ (by simp) ?_ List.nodup_range ?_ (by simp) ⟨T,hT,cx⟩
 ·have h1:=hN.2 i (Array.getElem?_eq_some_iff.1 ho).1;rw [ho] at h1;have h2:=List.all_eq_true.1 h1 e (sU he);rw [hb] at h2;simpa using h2
 ·obtain ⟨qS,E1,cj,hJ⟩:=hq;rcases hJ with (rfl | hJ) | hJ
  ·exact go_sound 4000 _ _ hk E1 a w cj
  ·exact go_sound 4000 _ _ hk E1 a w (n7 cj hJ)
  ·obtain ⟨E2,n5⟩:=vV hX (n7 cj hJ) jF.1.1.1 jF.1.1.2 jF.1.2 jF.2;exact go_sound 4000 _ _ hk E2 a w n5
 ·intro i;simp only [List.mem_range];constructor
  ·intro hi;exact ⟨hi,by simp [hi]⟩
  ·intro hi;exact hi.1
 ·intro k o ho hk;exact (hk (List.mem_range.2 (Array.getElem?_eq_some_iff.1 ho).1)).elim
theorem FV {id:Nat} {ops:Array Oper} {k:List It} (T:kW) (i j:Nat) (hm:X.P.follows .mixedOrders=true) (hc:(LG ops && Dp ops (MI ops) && chkA ops T (List.range ops.size) none)=true) (S:St)
  (h:goA X ⟨ops,MI ops,[.sx fun s=>(s=S∨dg s S)∨dg s (ek i j S)],st,none⟩ T true st.sl st) (jF:(Nat.ble X.n0 i && Nat.ble X.n0 j && Nat.blt i S.bx.length && Nat.blt j S.bx.length)=true) (hk:go X 4000 k S) (hX:X.bt=[]:=by exact rfl):lS X id ops k st:=
 R6 (MI ops) T i j hm hc S h jF hk hX
end
end Dv
end Go.Proofs.YtadhpeooehkklaaGreat
set_option maxRecDepth 100000
namespace Go.Proofs.YtadhpeooehkklaaGreat
open Go Go.RowKit Dv Go.Proofs.Tryz
theorem R7 (f:Nat->Nat) (l:List Nat):renL f (cN l)=cN l:=by
 induction l with
 | nil=>rfl
 | cons z r ih=>exact congrArg (DV.v (.int .i64 (z:Int)) :: ·) ih
theorem sg (f:Nat->Nat) (n:Nat):renL f (List.replicate n (vL [Value.int .i64 0])).flatten=(List.replicate n (vL [Value.int .i64 0])).flatten:=by rw [vI];exact R7 f _
theorem qM {α:Type} {p:α->Bool}:∀ {l:List α} {c:Nat},(∀ i x,l[i]? = some x->p x=true->i=c)->l.countP p<=1
 | [],_,_=>Nat.zero_le _
 | x :: r,c,h=>by
  rw [List.countP_cons];by_cases hx:p x=true
  ·have h0:=h 0 x rfl hx
   have:r.countP p=0:=List.countP_eq_zero.2 fun y hy hp=>by
    obtain ⟨i,hi,rfl⟩:=List.getElem_of_mem hy;have:=h (i + 1) r[i] (by simp [hi]) hp;omega
   rw [this,ai hx];exact aU _
  ·rw [ah hx];exact qM (c:=c - 1) fun i y hy hp=>by have:=h (i + 1) y (sU hy) hp;omega
theorem oN {L N:Nat} {n:Nd} {D:List Nat} {K:List Bool} (hn:cz L N n) (h:ei n D K=true):FP D K n:=by
 have Ly:∀ {x:Ed},zY D K x=true->dN D x=true/\x.bare=false/\K.getD x.to.toNat false=true:=fun {x} h=>by
  unfold zY at h;simp only [aQ,Bool.not_eq_true'] at h;exact ⟨h.1,h.2.1,h.2.2⟩
 refine ⟨fun h7=>?_,fun h8 ht=>?_⟩
 ·simp only [ei,h7] at h;simp at h;obtain ⟨x,hx,R8⟩:=List.any_eq_true.1 h.1;obtain ⟨_,hb,hK⟩:=Ly R8;obtain ⟨j,hj,rfl⟩:=List.getElem_of_mem hx
  cases hc:vJ K n.ap with
  | none=>
   have:=cu hc j hj;unfold FI at this;rw [gE hj] at this;simp only at this;rw [hK] at this;cases this
  | some c=>
   have eK:=(cL hc).1;refine ⟨c,_,rfl,gE eK,?_⟩
   cases hb:n.ap[c].bare with
   | false=>rfl
   | true=>have:=hn.bare _ (List.getElem_mem eK) hb;omega
 ·have hone:∀ {i x},n.ap[i]? = some x->dN D x=true->bG D n.ap=some i:=fun hx h=>LD ht hx h
  have yQ:manyN D n.ap<=1:=by
   cases hc:bG D n.ap with
   | none=>exact qM (c:=0) fun i x hx hp=>by rw [hone hx hp] at hc;cases hc
   | some c=>exact qM (c:=c) fun i x hx hp=>by rw [hone hx hp] at hc;exact Option.some.inj hc
  simp only [ei,h8] at h;simp at h;rcases h with h | h
  ·obtain ⟨x,hx,R8⟩:=List.any_eq_true.1 h;obtain ⟨h1,hb,_⟩:=Ly R8;obtain ⟨j,hj,rfl⟩:=List.getElem_of_mem hx;exact ⟨j,_,hone (gE hj) h1,gE hj,hb⟩
  ·omega
theorem Pr {l:List Nat} {i v:Nat} (hi:i < l.length) (h0:l.getD i 0=0) (hv:v≠0):sb l < sb (l.set i v):=by
 have dK:GH l (l.set i v):=fun j hj=>by rw [fu hi,ah (fun h=>by subst h;exact hj h0)]
 rcases (sc List.length_set.symm dK).1 with h | h
 ·have h1:(l.set i v).getD i 0=v:=by rw [fu hi,ai rfl]
  rw [<- h,h0] at h1;exact (hv h1.symm).elim
 ·exact h
theorem FW {kf:Nat->Option (Nat × Option Nat)} (hk:∀ i k,kf i=some k->k.1<=4097) {t:List Nat} (h:z7 kf t):∀ z∈t,z<=4097:=fun z hz=>by
 obtain ⟨i,hi,rfl⟩:=List.getElem_of_mem hz;by_cases h0:t[i]=0
 ·omega
 ·have hg:t.getD i 0=t[i]:=by rw [aH,gE hi];all_goals rfl
  obtain ⟨k,jK,hv⟩:=h i (by rw [hg];exact h0);rw [<- hg,hv];unfold othE;split
  ·exact hk i k jK
  ·split
   ·omega
   ·exact fH _
theorem zd (sz D:List Nat) (K:List Bool) (ND:List Nd):∀ i k,othK sz D K ND i=some k->k.1<=4097:=fun i k h=>by
 unfold othK at h;split at h
 ·split at h
  ·cases h;exact (FJ _ _ _ _).2
  ·cases h
 ·cases h
section
variable (PC:List DV) (ND:List Nd) (D:List Nat) (K:List Bool)
abbrev mk0 (e:Nat):List DV:=[.pt PC 0,.sl 7 (bD (ND.take e)) (some 0),.sl 1 (dInts D) none,.sl 1 (qT K) none,.v (.slice none 0 0),.v (.slice none 0 0)]
abbrev aaF (m e:Nat):St:=
 ⟨[(0,⟨[],.pt PC 0⟩),(3,⟨[],.loc 0 0⟩),(4,⟨[],.v (.int .i64 m)⟩),(22,⟨[],.v (.int .i64 ND.length)⟩),(23,⟨[],.v (.int .i64 e)⟩)],[mk0 PC ND D K e],[⟨e,105,7,none⟩]⟩
abbrev mkO:List DV:=[.pt PC 0,.sl 7 (bD ND) (some 0),.sl 1 (dInts D) none,.sl 1 (qT K) none,.ms 1 1 0 ND.length ND.length,.ms 2 1 0 ND.length ND.length]
theorem Ps {t o:List Nat} {bx:List (List DV)} (ht:t.length=ND.length) (ho:o.length=ND.length) (h1:bx[1]? = some (cN t)) (h2:bx[2]? = some (cN o)):CcL bx 0 0 0 (nj PC ND D K t o) (mkO PC ND D K):=
 ⟨_,_,rfl,ax,_,_,rfl,ax,_,_,rfl,ax,_,_,rfl,ax,_,_,rfl,yX ht (Nat.zero_le _) h1,_,_,rfl,yX ho (Nat.zero_le _) h2,rfl⟩
abbrev mkT:List TkE:=[⟨ND.length,105,7,none⟩]
abbrev aaI (m d:Nat) (t o:List Nat):St:=
 ⟨[(0,⟨[],.pt PC 0⟩),(3,⟨[],.loc 0 0⟩),(65,⟨[],.v (.int .i64 (m + 1:Nat))⟩),(66,⟨[],.v (.int .i64 d)⟩)],[mkO PC ND D K,cN t,cN o],mkT ND⟩
abbrev aaJ (m d:Nat) (t o:List Nat) (e:Nat):St:=
 ⟨[(0,⟨[],.pt PC 0⟩),(3,⟨[],.loc 0 0⟩),(65,⟨[],.v (.int .i64 (m + 1:Nat))⟩),(66,⟨[],.v (.int .i64 d)⟩),(8,⟨[],.v (.int .i64 d)⟩),(72,⟨[],.sl 7 (bD ND) (some 0)⟩),(73,⟨[],.v (.int .i64 (bD ND).length)⟩),(74,⟨[],.v (.int .i64 e)⟩)],[mkO PC ND D K,cN t,cN o],mkT ND⟩
def szQ (d e:Nat):List Nat:=if d=0 then szR ND D 0 else szL ND D d e (szR ND D (d - 1))
theorem R9 (d e:Nat):(szQ ND D d e).length=ND.length:=by
 unfold szQ;split
 ·exact pq ND D 0
 ·rw [nk];exact pq ND D _
theorem Pt {d e:Nat} {n:Nd} (hn:ND[e]? = some n):szQ ND D d (e + 1)=if 0 < d/\D.getD e 0=d then (szQ ND D d e).set e (sizeF (szQ ND D d e) D n) else szQ ND D d e:=by
 unfold szQ;by_cases h:d=0
 ·rw [ai h,ai h,ah (by omega)]
 ·rw [ah h,ah h,szL,hn];simp only;by_cases h2:D.getD e 0=d
  ·rw [ai h2,ai ⟨by omega,h2⟩]
  ·rw [ah h2,ah (by omega)]
theorem szQ_end (d:Nat):szQ ND D d ND.length=szR ND D d:=by
 unfold szQ;split
 ·rename_i h;rw [h]
 ·obtain ⟨k,rfl⟩:∃ k,d=k + 1:=⟨d - 1,by omega⟩;rfl
theorem FX (d:Nat):szQ ND D d 0=szR ND D (d - 1):=by
 unfold szQ;split
 ·rename_i h;rw [h]
 ·rfl
theorem px:∀ d,∀ z∈szR ND D d,z<=4097:=by
 have key:∀ d e t,(∀ z∈t,z<=4097)->∀ z∈szL ND D d e t,z<=4097:=fun d e t ht=>by
  induction e with
  | zero=>exact ht
  | succ e ih=>
   rw [szL];split
   ·exact ih
   ·split
    ·intro z hz;rcases List.mem_or_eq_of_mem_set hz with h | rfl
     ·exact ih z h
     ·exact (pu _ _ _).2
    ·exact ih
 intro d
 induction d with
 | zero=>intro z hz;rw [szR] at hz;rw [(List.mem_replicate.1 hz).2];omega
 | succ d ih=>exact key _ _ _ ih
theorem BN (d e:Nat):∀ z∈szQ ND D d e,z<=4097:=by
 have key:∀ d e t,(∀ z∈t,z<=4097)->∀ z∈szL ND D d e t,z<=4097:=fun d e t ht=>by
  induction e with
  | zero=>exact ht
  | succ e ih=>
   rw [szL];split
   ·exact ih
   ·split
    ·intro z hz;rcases List.mem_or_eq_of_mem_set hz with h | rfl
     ·exact ih z h
     ·exact (pu _ _ _).2
    ·exact ih
 unfold szQ;split
 ·exact px ND D 0
 ·exact key _ _ _ (px ND D _)
abbrev Pu (c:Bool) (t o:List Nat):St:=
 ⟨[(0,⟨[],.pt PC 0⟩),(3,⟨[],.loc 0 0⟩),(11,⟨[],.v (.bool c)⟩)],[mkO PC ND D K,cN t,cN o],mkT ND⟩
abbrev J9 (c:Bool) (t o:List Nat) (e:Nat):St:=
 ⟨[(0,⟨[],.pt PC 0⟩),(3,⟨[],.loc 0 0⟩),(11,⟨[],.v (.bool c)⟩),(107,⟨[],.sl 7 (bD ND) (some 0)⟩),(108,⟨[],.v (.int .i64 (bD ND).length)⟩),(109,⟨[],.v (.int .i64 e)⟩)],[mkO PC ND D K,cN t,cN o],mkT ND⟩
set_option maxHeartbeats 4000000 in
theorem nq {S:Sch} (hP:eZ S ND PC):aV prog 61 [.pt PC 0] (.pt (nj PC ND (depN ND ND.length) (fq ND (depN ND ND.length)) (kk ND (depN ND ND.length)) (Qi (kk ND (depN ND ND.length)) (depN ND ND.length) (fq ND (depN ND ND.length)) ND)) 0):=by
 have h1:=hP.len;have h2:=hP.av;have fo:=hP.nl;have hd:=va hP;have pH:=zZ hP;have hDO:=eH ND;have Xf:=hDO.len;generalize depN ND ND.length=D at hd pH hDO Xf ⊢
 have Pv:∀ i n,ND[i]? = some n->(fq ND D).getD i false=true->FP D (fq ND D) n:=fun i n hn h=>by
  rw [<- oK,aH,List.getElem?_map,hn] at h;exact oN (hP.ok n (mG hn)) h
 have Ws:(fq ND D).length=ND.length:=iO ND D _;generalize fq ND D=K at pH Pv Ws ⊢;refine eG 153 [.tmp 2] func61 rfl ntmps61 rfl fun _ _ _ _=>?_;refine cP MV hd ?_;refine cP SP pH ?_;refine cP uJ h1 ?_;refine lI (fun j st=>∃ e m:Nat,st=aaF PC ND D K m e/\e<=ND.length/\m<=ND.length/\(∀ i,i < e->D.getD i 0<=m)/\j=ND.length - e) ⟨0,0,rfl,by omega,by omega,fun _ h=>by omega,rfl⟩ (cW 1 ⟨0,105,7,none⟩ rfl rfl rfl pO rfl rfl wB) ?_;rintro j st ⟨e,m,rfl,he,hm,R8,rfl⟩;refine br ?_ ?_<;>intro hL
 ·have au:e < ND.length:=sU hL;obtain ⟨n,hn⟩:=gX au;obtain ⟨z,hz⟩:∃ z,D[e]? = some z:=⟨_,gE (by omega)⟩;have T2:D.getD e 0=z:=by rw [aH,hz];all_goals rfl
  have Xc:=hDO.le e;have c9:(bD (ND.take e)).length=e:=by rw [cy,zLenT];omega
  refine cP G8 (h2 e n hn) ?_;refine dS ?_;refine ⟨c9,⟨by rw [c9];simp [maxLen];omega,by rw [c9];simp;omega⟩,?_⟩;refine iX (aG hz) ?_
  exact rE ⟨_,by omega,e + 1,max m z,rfl,by omega,by omega,fun i hi=>by
   rcases eT hi with h | rfl
   ·have:=R8 i h;omega
   ·rw [T2];omega,rfl⟩ (aq 1 rfl (UN (uc hn) (show max (m:Int) z=((max m z:Nat):Int) by omega) (aK au (by omega))) rfl rfl rfl (Ap (uc hn) (show max (m:Int) z=((max m z:Nat):Int) by omega) (aK au (by omega))))
 ·have aS:e=ND.length:=by have:=hL;simp at this;omega
  subst aS;apply FV (.op 0 (.op 1 (.op 2 (.op 5 (.ev 3 (.ev 4 (.ev 6 (.op 8 (.op 9 (.ev 7 (.ev 10 (.op 11 (.op 12 (.ev 13 .fin .stop))) .stop) (.ev 10 (.ev 7 (.op 11 (.op 12 (.ev 13 .fin .stop))) .stop) .stop)))) .stop) (.ev 6 (.ev 4 (.op 8 (.op 9 (.ev 7 (.ev 10 (.op 11 (.op 12 (.ev 13 .fin .stop))) .stop) (.ev 10 (.ev 7 (.op 11 (.op 12 (.ev 13 .fin .stop))) .stop) .stop)))) (.ev 7 (.ev 4 (.op 8 (.op 9 (.ev 10 (.op 11 (.op 12 (.ev 13 .fin .stop))) .stop))) .stop) .stop)) .stop)) .stop))))) 1 2 mo (by decide +kernel);·repeat' (first | refine cD uJ h1 ?_ | exact ⟨rfl,by omega,by omega,by omega⟩ | exact Or.inr ⟨congrArg (fun z=>[_,z,z]) (sg _ _).symm,rfl,by repeat' (first | exact trivial | refine ⟨rfl,?_⟩)⟩ | exact trivial | exact Or.inl (Or.inl rfl) | exact Or.inl Wq | exact tT | refine ⟨?_,?_⟩)
  ·exact (rfl:_=_)
  have HE:(List.replicate (ND.length:Int).toNat (vL [Value.int .i64 0])).flatten=cN (szR ND D 0):=by rw [vI];all_goals rfl
  refine lJ (fun d=>aaI PC ND D K m d (szR ND D (d - 1)) (List.replicate ND.length 0)) (m + 1) (aq 3 rfl (by repeat' (first | exact rfl | exact aA rfl | exact b9 HE | exact cR (congrArg bD (List.take_length)) rfl | exact aE (wrapN (a:=m) (b:=1) (by omega) (by omega)) | refine ⟨_,_,rfl,?_,?_⟩)) rfl rfl rfl (by repeat' (first | exact trivial | exact aA rfl | exact b9 HE | exact cR (congrArg bD (List.take_length)) rfl | exact aE (wrapN (a:=m) (b:=1) (by omega) (by omega)) | refine ⟨⟨_,rfl,?_⟩,?_⟩))) ?_;intro d hdm;refine br ?_ ?_<;>intro hL
  ·have bJ:d < m + 1:=by have:=hL;simp at this;omega
   refine lJ (fun e=>aaJ PC ND D K m d (szQ ND D d e) (List.replicate ND.length 0) e) ND.length (aq 3 rfl (nF (congrArg cN (FX ND D d).symm)) rfl rfl rfl (dy (congrArg cN (FX ND D d).symm))) ?_;intro e he;refine br ?_ ?_<;>intro kP
   ·have au:e < ND.length:=by have:=kP;simp [cy] at this;exact this
    obtain ⟨n,hn⟩:=gX au;obtain ⟨z,hz⟩:∃ z,D[e]? = some z:=⟨_,gE (by omega)⟩;have T2:D.getD e 0=z:=by rw [aH,hz];all_goals rfl
    have eU:=Pt ND D (d:=d) hn;have GG:=R9 ND D d e;have LH:=BN ND D d e;have ie:=mG hn;have hfs:=fun h8=>FO PC ND D K (szQ ND D d e) (List.replicate ND.length 0) Xf GG LH (hP.ok n ie) (hP.Iw n ie) h8
    have h8:0 < d/\D.getD e 0=d->n.ag=8->∃ c e,bG D n.ap=some c/\n.ap[c]? = some e:=fun h h8=>by
     obtain ⟨c,x,hc,hx,_⟩:=hDO.Pf hn (by omega) h8;exact ⟨c,x,hc,hx⟩
    generalize szQ ND D d e=t at eU GG LH hfs;have fv:¬ (0 < d/\D.getD e 0=d)->t=szQ ND D d (e + 1):=fun h=>by rw [eU,ah h]
    have Pe:0 < d/\D.getD e 0=d->t.set e (sizeF t D n)=szQ ND D d (e + 1):=fun h=>by rw [eU,ai h]
    refine iX (bB hn) ?_;refine br ?_ ?_<;>intro c1
    ·have c1:0 < d:=by simpa [lastG] using c1
     refine iX (aG hz) ?_;refine br ?_ ?_<;>intro c2
     ·have c2:D.getD e 0=d:=Decidable.byContradiction fun h=>by simp [lastG,pickB] at c2;omega
      have qf:=Pe ⟨c1,c2⟩;have hfs:=hfs (h8 ⟨c1,c2⟩);refine dS ?_;refine ki Ym hfs ⟨_,_,rfl,.inr ⟨0,_,rfl,Nat.zero_le _,rfl,Ps PC ND D K GG List.length_replicate rfl rfl⟩,_,_,rfl,ax,rfl⟩ rfl rfl ?_;refine ⟨⟨by omega,by omega⟩,?_⟩;refine ⟨by rw [lQ];omega,?_⟩
      have bd:(cN t).set (0 + (e:Int).toNat * 1) (DV.v (.int .i64 (sizeF t D n:Nat)))=cN (szQ ND D d (e + 1)):=by
       rw [show 0 + (e:Int).toNat * 1=e by omega,ni,qf]
      exact rE ⟨_,by omega,e + 1,rfl,by omega,rfl⟩ (aq 3 rfl (gp bd (aK au (by omega))) rfl rfl rfl (wB2 bd (aK au (by omega))))
     ·have c2:¬ D.getD e 0=d:=fun h=>by simp [lastG,pickB] at c2;omega
      exact rE ⟨_,by omega,e + 1,rfl,by omega,rfl⟩ (aq 3 rfl (gp (congrArg cN (fv (fun h=>c2 h.2))) (aK au (by omega))) rfl rfl rfl (wB2 (congrArg cN (fv (fun h=>c2 h.2))) (aK au (by omega))))
    ·have c1:¬ 0 < d:=by simpa [lastG] using c1
     exact rE ⟨_,by omega,e + 1,rfl,by omega,rfl⟩ (aq 3 rfl (gp (congrArg cN (fv (fun h=>c1 h.1))) (aK au (by omega))) rfl rfl rfl (wB2 (congrArg cN (fv (fun h=>c1 h.1))) (aK au (by omega))))
   ·have aS:e=ND.length:=by have:=kP;simp [cy] at this;omega
    subst aS;exact rE ⟨_,by omega,d + 1,rfl,by omega,rfl⟩ (aq 3 rfl (gp (congrArg cN (szQ_end ND D d)) (wrapN (a:=d) (b:=1) (by omega) (by omega))) rfl rfl rfl (wB2 (congrArg cN (szQ_end ND D d)) (wrapN (a:=d) (b:=1) (by omega) (by omega))))
  ·have L8:d=m + 1:=by have:=hL;simp at this;omega
   subst L8
   have fI:∀ i,D.getD i 0<=m:=fun i=>by
    rcases Nat.lt_or_ge i ND.length with h | h
    ·exact R8 i h
    ·rw [aH,cQ (by omega)];exact Nat.zero_le _
   have hT:szR ND D (m + 1 - 1)=kk ND D:=by
    have:=J3 (ND:=ND) fI (ND.length - m);rw [show m + (ND.length - m)=ND.length by omega] at this;exact this.symm
   have Sa:=np ND D;have hTs:∀ z∈kk ND D,z<=4097:=px ND D _;have Lq:=zd (kk ND D) D K ND;have bw:∀ r,z7 (othK (kk ND D) D K ND) (gj (othK (kk ND D) D K ND) ND.length r):=fun r=>y8 r;have ez:∀ r,(gj (othK (kk ND D) D K ND) ND.length r).length=ND.length:=fun r=>iP r;have yc:∀ e r,(pv (othK (kk ND D) D K ND) e (gj (othK (kk ND D) D K ND) ND.length r)).length=ND.length:=fun e r=>by rw [sa];exact ez r
   have Xg:∀ i n,ND[i]? = some n->othK (kk ND D) D K ND i=if K.getD i false=true then some (ed (kk ND D) D K n) else none:=fun i n h=>by unfold othK;rw [h]
   have hF:Qi (kk ND D) D K ND=gj (othK (kk ND D) D K ND) ND.length ND.length:=rfl;rw [hF];rw [hT];generalize kk ND D=t at Sa hTs Lq bw ez yc Xg ⊢;refine bA (fun j st=>∃ (r:Nat) (c:Bool),st=Pu PC ND D K c t (gj (othK t D K ND) ND.length r)/\(c=true->r<=sb (gj (othK t D K ND) ND.length r))/\(c=false->gj (othK t D K ND) ND.length (r + 1)=gj (othK t D K ND) ND.length r)/\j=if c=true then ND.length + 1 - r else 0) (ND.length + 1) (Pu PC ND D K true t (gj (othK t D K ND) ND.length 0)) (aq 3 rfl pO rfl rfl rfl lX) ⟨0,true,rfl,fun _=>Nat.zero_le _,fun h=>(by cases h),by simp⟩ ?_;rintro j st ⟨r,c,rfl,L9,hcf,rfl⟩;refine br ?_ ?_<;>intro hc
   ·have hc:c=true:=hc;subst hc;have hcr:=L9 rfl;have hcn:=J6 (gj (othK t D K ND) ND.length r);rw [ez] at hcn;refine lI (fun j st=>∃ (e:Nat) (c':Bool),st=J9 PC ND D K c' t (pv (othK t D K ND) e (gj (othK t D K ND) ND.length r)) e/\e<=ND.length/\(c'=true->sb (gj (othK t D K ND) ND.length r) < sb (pv (othK t D K ND) e (gj (othK t D K ND) ND.length r)))/\(c'=false->pv (othK t D K ND) e (gj (othK t D K ND) ND.length r)=gj (othK t D K ND) ND.length r)/\j=ND.length - e) ⟨0,false,rfl,by omega,fun h=>(by cases h),fun _=>rfl,rfl⟩ (aq 3 rfl pO rfl rfl rfl lX) ?_;rintro j st ⟨e,c',rfl,he,pG,Qj,rfl⟩;refine br ?_ ?_<;>intro kP
    ·have au:e < ND.length:=by have:=kP;simp [cy] at this;exact this
     obtain ⟨n,hn⟩:=gX au;obtain ⟨b,hb⟩:∃ b,K[e]? = some b:=⟨_,gE (by omega)⟩;have hbd:K.getD e false=b:=by rw [aH,hb];all_goals rfl
     have jU:=yc e r;have hoo:=(y7 (kf:=othK t D K ND) e (by rw [ez];omega) (bw r)).1;have sZ:=FW Lq hoo;have hk:=Xg e n hn;have ie:=mG hn;have Xh:=fun hS=>Dm PC ND D K t (pv (othK t D K ND) e (gj (othK t D K ND) ND.length r)) Xf Ws Sa jU hTs sZ (hP.ok n ie) (hP.Iw n ie) hS;have GS:=Pv e n hn;have eU:pv (othK t D K ND) (e + 1) (gj (othK t D K ND) ND.length r)=otI (othK t D K ND) e (pv (othK t D K ND) e (gj (othK t D K ND) ND.length r)):=rfl;have I6:=@BH (othK t D K ND) e _ hoo;generalize pv (othK t D K ND) e (gj (othK t D K ND) ND.length r)=o at pG Qj jU hoo sZ Xh eU I6 ⊢;obtain ⟨z,hz⟩:∃ z,o[e]? = some z:=⟨_,gE (by omega)⟩;have T2:o.getD e 0=z:=by rw [aH,hz];all_goals rfl
     refine iX (bB hn) ?_;refine iX (rU hb) ?_;refine br ?_ ?_<;>intro c1
     ·have c1:b=true:=by simpa [lastG] using c1
      refine ⟨⟨by omega,by omega⟩,?_⟩;refine ⟨DV.v (.int .i64 (z:Int)),(by rw [show 0 + (e:Int).toNat * 1=e by omega];exact De hz),?_⟩;refine br ?_ ?_<;>intro c2
      ·have c2:z=0:=by simpa [lastG,pickB] using c2
       rw [hbd,c1,ai rfl] at hk;have qf:pv (othK t D K ND) (e + 1) (gj (othK t D K ND) ND.length r)=o.set e (othE o (ed t D K n)):=by rw [eU];unfold otI;rw [hk]
       have dK:=(Pj (kf:=othK t D K ND) (i:=e) (by omega) hoo).2;rw [<- eU,qf] at dK;have dw:=fun hv=>Pr (l:=o) (i:=e) (v:=othE o (ed t D K n)) (by omega) (by rw [T2];exact c2) hv;have eK:=(sc List.length_set.symm dK).2;have wT:othE o (ed t D K n)=0->o.set e (othE o (ed t D K n))=o:=fun h=>FM _ (by rw [T2,c2,h]);have Xh:=Xh (GS (by rw [hbd];exact c1));generalize othE o (ed t D K n)=v at qf dK dw eK wT Xh;refine dS ?_;refine ki Yo Xh ⟨_,_,rfl,.inr ⟨0,_,rfl,Nat.zero_le _,rfl,Ps PC ND D K Sa jU rfl rfl⟩,_,_,rfl,ax,rfl⟩ rfl rfl ?_;refine ⟨⟨by omega,by omega⟩,?_⟩;refine ⟨by rw [lQ];omega,?_⟩
       have bd:(cN o).set (0 + (e:Int).toNat * 1) (DV.v (.int .i64 (v:Nat)))=cN (o.set e v):=by
        rw [show 0 + (e:Int).toNat * 1=e by omega,ni]
       have hvg:(cN (o.set e v))[e]? = some (DV.v (.int .i64 (v:Nat))):=De (by rw [cO (by omega)]);refine br ?_ ?_<;>intro c3
       ·have c3:c'=false:=by simpa [lastG] using c3
        have Qj:=Qj c3;refine ⟨⟨by omega,by omega⟩,?_⟩;refine ⟨DV.v (.int .i64 (v:Nat)),(by rw [bd,show 0 + (e:Int).toNat * 1=e by omega];exact hvg),?_⟩;have cd:v≠0->sb (gj (othK t D K ND) ND.length r) < sb (pv (othK t D K ND) (e + 1) (gj (othK t D K ND) ND.length r)):=fun h=>by rw [qf,<- Qj];exact dw h
        have hold:v=0->pv (othK t D K ND) (e + 1) (gj (othK t D K ND) ND.length r)=gj (othK t D K ND) ND.length r:=fun h=>by rw [qf,wT h,Qj]
        have Sb:=b9 (n:=3) (m:=1) (tk:=mkT ND) (bd.trans (congrArg cN qf.symm));clear qf dK eK wT dw bd hvg Xh
        cases v with
        | zero=>exact ⟨J9 PC ND D K false t (pv (othK t D K ND) (e + 1) (gj (othK t D K ND) ND.length r)) (e + 1),(aq 3 rfl (by repeat' (first | exact rfl | exact aA rfl | exact b9 rfl | exact Sb | exact aE (aK au (by omega)) | refine ⟨_,_,rfl,?_,?_⟩)) rfl rfl rfl (by repeat' (first | exact trivial | exact aA rfl | exact b9 rfl | exact Sb | exact aE (aK au (by omega)) | refine ⟨⟨_,rfl,?_⟩,?_⟩))),ND.length - (e + 1),by omega,e + 1,false,rfl,by omega,fun h=>(by cases h),fun _=>hold rfl,rfl⟩
        | succ v=>
         have hp:DV.v (.bool (decide ((0:Int) < ((v + 1:Nat):Int))))=DV.v (.bool true):=congrArg (fun b=>DV.v (.bool b)) (decide_eq_true (by omega));exact ⟨J9 PC ND D K true t (pv (othK t D K ND) (e + 1) (gj (othK t D K ND) ND.length r)) (e + 1),(aq 3 rfl (by repeat' (first | exact rfl | exact aA rfl | exact b9 rfl | exact Sb | exact Or.inl ⟨hp,rfl⟩ | exact aE (aK au (by omega)) | refine ⟨_,_,rfl,?_,?_⟩)) rfl rfl rfl (by repeat' (first | exact trivial | exact aA rfl | exact b9 rfl | exact Sb | exact Or.inl ⟨hp,rfl⟩ | exact aE (aK au (by omega)) | refine ⟨⟨_,rfl,?_⟩,?_⟩))),ND.length - (e + 1),by omega,e + 1,true,rfl,by omega,fun _=>cd (Nat.succ_ne_zero v),fun h=>(by cases h),rfl⟩
       ·have c3:c'=true:=by simpa [lastG] using c3
        have pG:=pG c3;exact ⟨J9 PC ND D K true t (pv (othK t D K ND) (e + 1) (gj (othK t D K ND) ND.length r)) (e + 1),(aq 3 rfl (UN (bd.trans (congrArg cN qf.symm)) (aK au (by omega)) c3) rfl rfl rfl (Ap (bd.trans (congrArg cN qf.symm)) (aK au (by omega)) c3)),ND.length - (e + 1),by omega,e + 1,true,rfl,by omega,fun _=>by rw [qf];omega,fun h=>(by cases h),rfl⟩
      ·have c2:¬ z=0:=by simpa [lastG,pickB] using c2
       have GJ:=eU.trans (I6 (by rw [T2];exact c2));exact rE ⟨_,by omega,e + 1,c',rfl,by omega,by rw [GJ];exact pG,by rw [GJ];exact Qj,rfl⟩ (aq 3 rfl (gp (congrArg cN GJ.symm) (aK au (by omega))) rfl rfl rfl (wB2 (congrArg cN GJ.symm) (aK au (by omega))))
     ·have c1:b=false:=by simpa [lastG] using c1
      have GJ:pv (othK t D K ND) (e + 1) (gj (othK t D K ND) ND.length r)=o:=by rw [eU];unfold otI;rw [hk,hbd,c1];all_goals rfl
      exact rE ⟨_,by omega,e + 1,c',rfl,by omega,by rw [GJ];exact pG,by rw [GJ];exact Qj,rfl⟩ (aq 3 rfl (gp (congrArg cN GJ.symm) (aK au (by omega))) rfl rfl rfl (wB2 (congrArg cN GJ.symm) (aK au (by omega))))
    ·have aS:e=ND.length:=by have:=kP;simp [cy] at this;omega
     subst aS;have hR:pv (othK t D K ND) ND.length (gj (othK t D K ND) ND.length r)=gj (othK t D K ND) ND.length (r + 1):=rfl;rw [hR] at pG Qj;refine ⟨Pu PC ND D K c' t (gj (othK t D K ND) ND.length (r + 1)),(aq 3 rfl pO rfl rfl rfl lX),if c'=true then ND.length + 1 - (r + 1) else 0,?_,r + 1,c',rfl,fun h=>by have:=pG h;omega,fun h=>?_,rfl⟩
     ·rw [ai rfl];split<;>omega
     ·show pv _ _ (gj (othK t D K ND) ND.length (r + 1))=_;rw [Qj h,hR,Qj h]
   ·have hc:c=false:=hc;rw [RU (hcf hc)];exact ⟨.pt (nj PC ND D K t (gj (othK t D K ND) ND.length ND.length)) 0,Or.inr ⟨0,_,rfl,Nat.zero_le _,rfl,Ps PC ND D K Sa (ez _) rfl rfl⟩,rfl⟩
end
end Go.Proofs.YtadhpeooehkklaaGreat
namespace Go.Proofs.YtadhpeooehkklaaGreat
namespace Dv
open Go Go.RowKit
mutual
def shD (m:Nat):DV->DV
 | .agg l=>.agg (shL m l)
 | .tup l=>.tup (shL m l)
 | .sl e es tk=>.sl e es (match tk with | some k=>some (m + k) | none=>none)
 | .fn f a b=>.fn f (shL m a) (shL m b)
 | .sM t x=>.sM t (shD m x)
 | .v x=>.v x
 | .ud=>.ud
 | .pt cs o=>.pt cs o
 | .loc i o=>.loc i o
 | .el i o=>.el i o
 | .ms i e o l c=>.ms i e o l c
def shL (m:Nat):List DV->List DV
 | []=>[]
 | d :: r=>shD m d :: shL m r
end
mutual
theorem uu {m:Nat} {E2 E:En} (hβ:E2.β=[]) (hc:E.c=E2.c) (ht:∀ (k:Nat) q,E2.tk[k]? = some q->E.tk[m + k]? = some q/\E.τ[m + k]? = E2.τ[k]?):∀ {d:DV} {v:Value},Rv E2 d v->Rv E (shD m d) v
 | .v x,v,h=>by simpa only [Rv,shD] using h
 | .ud,v,h=>by simpa only [Rv,shD] using h
 | .agg l,v,h=>by
  simp only [Rv,shD] at h ⊢;obtain ⟨vs,h1,h2,h3⟩:=h;exact ⟨vs,h1,mn hβ hc ht h2,h3⟩
 | .tup l,v,h=>by
  simp only [Rv,shD] at h ⊢;obtain ⟨vs,h1,h2⟩:=h;exact ⟨vs,h1,mn hβ hc ht h2⟩
 | .sl e es tk,v,h=>by
  have he:E.cl=E2.cl:=by simp [En.cl,hc]
  simp only [Rv,shD] at h ⊢;obtain ⟨b,n,cap,h1,h2,h3,h4⟩:=h;refine ⟨b,n,cap,h1,h2,fun hn=>⟨(h3 hn).1,by rw [he];exact (h3 hn).2⟩,?_⟩;intro k' fb
  cases tk with
  | none=>cases fb
  | some k=>
   simp only [oI] at fb;subst fb;obtain ⟨q,g1,g2,g3⟩:=h4 k rfl;obtain ⟨g4,g5⟩:=ht k q g1;exact ⟨q,g4,g2,fun hn=>by rw [g5];exact g3 hn⟩
 | .pt cs off,v,h=>by
  have he:E.cl=E2.cl:=by simp [En.cl,hc]
  simp only [Rv,shD] at h ⊢;rw [he];exact h
 | .loc i off,v,h=>by
  simp only [Rv] at h;obtain ⟨b,h1,_⟩:=h;rw [hβ] at h1;simp at h1
 | .el i off,v,h=>by
  simp only [Rv] at h;obtain ⟨b,h1,_⟩:=h;rw [hβ] at h1;simp at h1
 | .ms i e off len cap,v,h=>by
  simp only [Rv] at h;obtain ⟨b,_,h1,_⟩:=h;rw [hβ] at h1;simp at h1
 | .fn f a b,v,h=>by
  simp only [Rv,shD] at h ⊢;obtain ⟨l,r,h1,h2,h3⟩:=h;exact ⟨l,r,h1,mn hβ hc ht h2,mn hβ hc ht h3⟩
 | .sM t x,v,h=>by
  simp only [Rv,shD] at h ⊢;obtain ⟨z,h1,h2⟩:=h;exact ⟨z,h1,uu hβ hc ht h2⟩
theorem mn {m:Nat} {E2 E:En} (hβ:E2.β=[]) (hc:E.c=E2.c) (ht:∀ (k:Nat) q,E2.tk[k]? = some q->E.tk[m + k]? = some q/\E.τ[m + k]? = E2.τ[k]?):∀ {l:List DV} {vs:List Value},RvL E2 l vs->RvL E (shL m l) vs
 | [],vs,h=>by simpa only [RvL,shL] using h
 | d :: r,vs,h=>by
  simp only [RvL,shL] at h ⊢;obtain ⟨v,s,h1,h2,h3⟩:=h;exact ⟨v,s,h1,uu hβ hc ht h2,mn hβ hc ht h3⟩
end
section
variable {X:Ctx} {st:St} {k:List It} {E:En} {a:Act} {w:World}
theorem IB (h:Rel X E st a w) (bd:X.still=false) {E2:En} {w':World} (hm:qX (E.cl).S w w') (he:Env E2 [] w') (hn:Nw E.cl E2 w):Rel X ⟨E2.c,E.β,E.tk ++ E2.tk,E.τ ++ E2.τ⟩ ⟨st.sl,st.bx,st.tk ++ E2.tk⟩ a w':=by
 have hq:=Am h bd hm he hn;have Qz:∀ (j:Nat) y g,E2.τ[j]? = some y->y.ownBlock=some g->w.heap.size<=g:=fun j y g hy hg=>hn.tn j y g (Nat.zero_le _) hy hg;have hold:∀ (k:Nat) y g,E.τ[k]? = some y->y.ownBlock=some g->g < w.heap.size:=fun k y g hy hg=>(h.env.own (mG hy) hg).1;have hY:E.τ.length=E.tk.length:=h.env.tl
 have hτ:∀ (k:Nat) y,(E.τ ++ E2.τ)[k]? = some y->(k < E.τ.length/\E.τ[k]? = some y)∨(E.τ.length<=k/\E2.τ[k - E.τ.length]? = some y):=fun k y hy=>by
  rw [List.getElem?_append] at hy;split at hy
  ·rename_i hk;exact .inl ⟨hk,hy⟩
  ·rename_i hk;exact .inr ⟨by omega,hy⟩
 have hx:Ext ⟨E2.c,E.β,E.tk,E.τ⟩ ⟨E2.c,E.β,E.tk ++ E2.tk,E.τ ++ E2.τ⟩:=⟨fun _ _ h=>h,fun _ _ h=>h,fun j q hj=>by
  have hj:E.tk[j]? = some q:=hj;have au:=(gS hj).1;refine ⟨q,by show (E.tk ++ _)[j]? = _;rw [cm au];exact hj,.inl ⟨rfl,?_⟩⟩;show (E.τ ++ _)[j]? = _
  rw [cm (by rw [hY];exact au)]⟩
 refine dF hq hx ?_ (by show E.tk ++ _=_;rw [h.tk]) ?_ hq.fr (nX bd) hq.bt
 ·exact {
   len:=h.env.len
   tl:=by show (E.τ ++ _).length=(E.tk ++ _).length;simp [hY,he.tl]
   fm:=fun i cs hi=>by
    obtain ⟨b,t,arr,hb,hw,hc⟩:=hq.env.fm i cs hi;exact ⟨b,t,arr,hb,hw,hc.mono hx⟩
   inj:=h.env.inj
   sub:=he.sub
   pc:=hq.env.pc
   cG:=fun j q y N1 hy=>by
    have N1:(E.tk ++ E2.tk)[j]? = some q:=N1;rcases hτ j y hy with ⟨au,fB⟩ | ⟨dK,fB⟩
    ·rw [cm (by rw [<- hY];exact au)] at N1;exact hq.env.cG j q y N1 fB
    ·rw [List.getElem?_append_right (by rw [<- hY];exact dK),<- hY] at N1;rcases he.cG _ q y N1 fB with h1 | ⟨g,cap,cur,rfl,h1,h2,h3,h4,_,h6⟩
     ·exact .inl h1
     ·refine .inr ⟨g,cap,cur,rfl,h1,h2,h3,h4,fun lU=>?_,h6⟩;have:=Qz _ _ g fB rfl;have:=h.env.bu lU;omega
   jI:=fun i j y y' g jF hy fB hg sB=>by
    rcases hτ i y hy with ⟨_,h1⟩ | ⟨h0,h1⟩
    ·rcases hτ j y' fB with ⟨_,h2⟩ | ⟨_,h2⟩
     ·exact h.env.jI i j y y' g jF h1 h2 hg sB
     ·have:=hold i y g h1 hg;have:=Qz _ y' g h2 sB;omega
    ·rcases hτ j y' fB with ⟨_,h2⟩ | ⟨h00,h2⟩
     ·have:=hold j y' g h2 sB;have:=Qz _ y g h1 hg;omega
     ·exact he.jI _ _ y y' g (by omega) h1 h2 hg sB }
 ·exact {
   c:=hq.nw.c
   cn:=hq.nw.cn
   β:=h.nw.β
   tk:=fun j q0 y0 vS Cg=>by
    obtain ⟨q',y',h1,h2,h3⟩:=h.nw.tk j q0 y0 vS Cg;exact ⟨q',y',by show (E.tk ++ _)[j]? = _;rw [cm (gS h1).1];exact h1,by show (E.τ ++ _)[j]? = _;rw [cm (gS h2).1];exact h2,h3⟩
   tn:=fun j y g hj hy hg=>by
    rcases hτ j y hy with ⟨_,h1⟩ | ⟨_,h1⟩
    ·exact h.nw.tn j y g hj h1 hg
    ·exact Nat.le_trans h.fr.size (Qz _ y g h1 hg)
   l0:=h.nw.l0 }
theorem Sc {P:Program} (h:Rel X E st a w) (bd:X.still=false) {f:FuncId} {args bN:List DV} {vs:List Value} {Φ:DV->List (List DV)->List TkE->Prop} (hc:WU P f bN [] [] Φ) (ha:CcL [] 0 0 0 bN args) (hv:RvL E args vs) :
  Calls P f vs.toArray w fun e w'=>∃ v E' d cG,e = .returned v/\Rel X E' ⟨st.sl,st.bx,st.tk ++ cG⟩ a w' /\ Rv E' (shD st.tk.length d) v/\Φ d [] cG/\qX E.cl.S w w' /\ Ext E E' /\ E'.β=E.β:=by
 have LY:RvL E.cl bN vs:=CcL.sound (E:=E) (E':=E.cl) ⟨fun _ _ h=>h,fun i cs _ hi=>by simp at hi⟩ (I4.zero _ _) ha hv;refine (hc E.cl w vs (MD h.env) rfl LY).mono ?_;rintro e w' ⟨v,rfl,hm,_,d,os,E2,he,hβ,_,hn,zL,hΦ⟩;have hβ:E2.β=[]:=hβ
 have sZ:os=[]:=by
  have:=he.len;rw [hβ] at this;exact List.eq_nil_of_length_eq_zero this.symm
 subst sZ;have hY:E.τ.length=E.tk.length:=h.env.tl
 have hx:Ext E ⟨E2.c,E.β,E.tk ++ E2.tk,E.τ ++ E2.τ⟩:=⟨hn.c,fun _ _ h=>h,fun j q hj=>by
  have au:=(gS hj).1;refine ⟨q,by show (E.tk ++ _)[j]? = _;rw [cm au];exact hj,.inl ⟨rfl,?_⟩⟩;show (E.τ ++ _)[j]? = _
  rw [cm (by rw [hY];exact au)]⟩
 refine ⟨v,_,d,E2.tk,rfl,IB h bd hm he hn,uu (E2:=E2) (E:=⟨E2.c,E.β,E.tk ++ E2.tk,E.τ ++ E2.τ⟩) (m:=st.tk.length) hβ rfl (fun k q hq=>?_) zL,hΦ,hm,hx,rfl⟩;rw [<- h.tk];constructor
 ·show (E.tk ++ E2.tk)[_]? = _;rw [List.getElem?_append_right (by omega)];simpa using hq
 ·show (E.τ ++ E2.τ)[_]? = _;rw [List.getElem?_append_right (by omega),hY];simp
theorem Pw {f:FuncId} {args bN:List DV} {d:Nat} (mJ:Enters X.P f) (hd:gx X.nt st.sl (some d)=true) {Φ:DV->List (List DV)->List TkE->Prop} (hc:WU X.P f bN [] [] Φ) (ha:CcL [] 0 0 0 bN args)
  (hk:∀ r cG,Φ r [] cG->go X 4000 k ⟨(d,⟨[],shD st.tk.length r⟩) :: st.sl,st.bx,st.tk ++ cG⟩) (bd:X.still=false:=by exact rfl):ik X f args (some d) k st:=by
 refine ⟨mJ,bd,fun E a w vs h hv=>(Sc h bd hc ha hv).mono ?_⟩;rintro e w' ⟨v,E',r,cG,rfl,cj,hr,hΦ,_⟩;exact go_sound 4000 _ _ (hk r cG hΦ) E' _ w' (bM cj hd _ v hr)
end
end Dv
end Go.Proofs.YtadhpeooehkklaaGreat
namespace Go.Proofs.YtadhpeooehkklaaGreat
namespace Dv
open Go Go.RowKit
section
variable {X:Ctx} {st:St} {k:List It} {E:En} {a:Act} {w:World}
theorem Ka (h:Rel X E st a w) {es:List (List DV)} {cs:List DV} {kt m xY e:Nat} {v:Value} (hv:Rv E (.sl 0 es (some kt)) v) (hq:st.tk[kt]? = some ⟨m,xY,e,some cs⟩) (gT:es.length=m) (hm:0 < m) :
  ∃ g cap,∃ cur:Array Value,v = .slice (some ⟨g,0,none⟩) m cap/\E.tk[kt]? = some ⟨m,xY,e,some cs⟩/\E.τ[kt]? = some v/\w.heap[g]? = some (.cells cur xY (0,0))/\cur.size=cap * e/\cs.length=m * e/\RvC E.cl cs (cur.toList.take (m * e))/\m<=cap/\cap<=maxLen/\g ∉ E.β/\∀ x u,E.c x=some u->x.block=g->x.off < 0:=by
 unfold Rv at hv;obtain ⟨bs,ns,nZ,e1,⟨zx,GS⟩,UB,GU⟩:=hv;subst zx;obtain ⟨q',jk,_,UC⟩:=GU kt rfl;have km:E.tk[kt]? = some ⟨m,xY,e,some cs⟩:=by rw [h.tk];exact hq
 rw [km] at jk;simp only [oI] at jk;subst jk;have hy:=UC gT;rcases h.env.cG kt _ _ km hy with ⟨_,la,_⟩ | ⟨g,cap,cur,sC,hw0,⟨wT,D0⟩,wU,zI,iE,Kq⟩
 ·simp only at la;omega
 obtain ⟨h5,h6⟩:=D0 cs rfl;exact ⟨g,cap,cur,sC,km,hy,hw0,wT,h5,h6,wU,zI,iE,Kq⟩
theorem Sd {o1:Oper} {t et e j4 nn m g cap:Nat} {bb:Bool} {zz:List Value} {z:Int} {kd:IntKind} {s ix:Operand} (h1:o1.op = .indexAddr t s ix) (e1:a.eval s = .slice (some ⟨g,0,none⟩) m cap) (e2:a.eval ix = .int kd z)
  (hT:X.T.find t=some ⟨nn,bb,.sl et e j4,zz⟩) (hz:0<=z/\z < m) (w:World):(execOp a.eval o1).run X.P w = .ok (.value (.pointer (some ⟨g,z.toNat * e,none⟩))) w:=by
 obtain ⟨hu,ii,zv,q8,_,Vw,_,_⟩:=fw X.hT hT;have ra:jc X.P et=some e:=by rw [gl q8,Vw]
 have cx:(Instr.indexAt t (.slice (some ⟨g,0,none⟩) m cap) (.int kd z)).run X.P w = .ok (.pointer (some ⟨g,z.toNat * e,none⟩)) w:=by
  simp [Instr.indexAt,asIntOf,run_underlying hu,hz.1,hz.2,aX ra,Addr.add_lit]
 simp only [execOp,h1,e1,e2,Sem.run_bind,cx,Result.andThen_ok,Sem.run_pure]
theorem Se {o2:Oper} {d1 kt ty e m xY:Nat} {z:Int} {es:List (List DV)} {cs cs':List DV} {v:Value} {x:Operand} {dv:DV} {g cap:Nat}
  (hr1:Rel X E st a w) (h2:o2.op = .store ty (.tmp d1) x) (ht1:a.eval (.tmp d1) = .pointer (some ⟨g,z.toNat * e,none⟩)) (hv:Rv E (.sl 0 es (some kt)) v) (hvg:v = .slice (some ⟨g,0,none⟩) m cap)
  (hx:rv st [] x=some dv) (Zq:eraL dv.cells (fun l=>some l)=some cs') (Vv:dv.cells.length=e) (he0:0 < e)
  (bT:X.T.sz ty=some e) (hq:st.tk[kt]? = some ⟨m,xY,e,some cs⟩) (gT:es.length=m) (hz:0<=z/\z < m) (bd:X.still=false) :
  ∃ w' E',(execOp a.eval o2).run X.P w = .ok .skip w' /\ Rel X E' ⟨st.sl,st.bx,st.tk.set kt ⟨m,xY,e,some (cs.take (z.toNat * e) ++ cs' ++ cs.drop (z.toNat * e + e))⟩⟩ a w':=by
 obtain ⟨g',nZ,cur,e1,km,hy,hw0,wT,h5,h6,wU,zI,iE,Kq⟩:=Ka hr1 hv hq gT (by omega);rw [hvg] at e1;injection e1 with i1 i2 i3
 injection i1 with i1
 injection i1 with i1
 subst i1 i3;rw [hvg] at hy;have e3:=bp hr1.rl hx;have eK:RvC E dv.cells (a.eval x).cells.toList:=e3.cells (jf (n:=e) Vv (by omega));have zu:(a.eval x).cells.toList.length=e:=by rw [eK.1.length];exact Vv
 obtain ⟨l',zJ,hx1,_⟩:=qc Zq eK;simp only [oI] at zJ;rw [zJ] at hx1;have Vx:m * e<=cap * e:=Nat.mul_le_mul_right _ wU
 have jX:z.toNat * e + e<=m * e:=by
  have:(z.toNat + 1) * e<=m * e:=Nat.mul_le_mul_right _ (by omega);rw [Nat.add_mul] at this;omega
 have NZ:cur.toList.length=cap * e:=sU wT;have pH:=ka (P:=X.P) (t:=ty) (off:=z.toNat * e) (n:=e) hw0 (DW X.hT bT) zu (by rw [wT];omega) (List.all_eq_true.2 eK.2);generalize hN:cur.toList.take (z.toNat * e) ++ (a.eval x).cells.toList ++ cur.toList.drop (z.toNat * e + e)=N at pH
 have hNl:N.length=cap * e:=by
  subst hN;simp only [List.length_append,zLenT,List.length_drop,zu,NZ];omega
 have hNt:N.take (m * e)=(cur.toList.take (m * e)).take (z.toNat * e) ++ (a.eval x).cells.toList ++ (cur.toList.take (m * e)).drop (z.toNat * e + e):=by
  subst hN;rw [List.take_append,List.take_append,List.take_take,List.take_take];have h1:(cur.toList.take (z.toNat * e)).length=z.toNat * e:=by rw [zLenT];omega
  rw [List.length_append,h1,zu,Nat.min_eq_right (by omega),Nat.min_eq_left (by omega),List.take_of_length_le (l:=(a.eval x).cells.toList) (by rw [zu];omega),List.drop_take]
 have nP:DT (World.dX w g (.cells N.toArray xY (0,0))) E.c E.β ⟨m,xY,e,some (cs.take (z.toNat * e) ++ cs' ++ cs.drop (z.toNat * e + e))⟩ (.slice (some ⟨g,0,none⟩) m cap):=by
  refine .inr ⟨g,cap,_,rfl,ij hw0,⟨by simpa using hNl,fun sF Af=>?_⟩,wU,zI,iE,Kq⟩;simp only [oI] at Af;subst Af;simp only;have h8:=((RvC.take (z.toNat * e) h6).append hx1).append (RvC.drop (z.toNat * e + e) h6);rw [<- hNt] at h8;have hl8:=h8.1.length;refine ⟨?_,by show RvC E.cl _ (N.toArray.toList.take (m * e));simpa using h8⟩;rw [<- hl8,zLenT,hNl];omega
 obtain ⟨cj,_⟩:=Ci (q':=⟨m,xY,e,some (cs.take (z.toNat * e) ++ cs' ++ cs.drop (z.toNat * e + e))⟩) (w':=World.dX w g (.cells N.toArray xY (0,0))) hr1 bd km hy rfl rfl rfl (.inl ⟨rfl,rfl⟩) nP (.inl rfl) rfl rfl rfl (by rw [fK];exact aU _) (fun j _ bF=>dr (by
  rintro rfl
  exact bF rfl))
 refine ⟨_,_,?_,cj⟩;simp only [execOp,h2,ht1,Instr.storeAt,Instr.sureAddr,Sem.run_bind,Sem.run_pure,Result.andThen_ok,pH]
theorem BO {D:Dr} {c:Bool} {i i1 i2:Nat} {s0:List (Nat × Sl)} {o1 o2:Oper} {f:FuncId} {args bN:List DV} {d d1 kt t ty et e j4 m xY nn:Nat} {bb:Bool} {zz:List Value} {z:Int} {kd:IntKind} {es:List (List DV)} {cs cs':List DV} {s ix x:Operand} {Cp dv:DV}
  (mJ:Enters X.P f) (hd:gx X.nt st.sl (some d)=true) (hc:aV X.P f bN Cp) (ha:CcL [] 0 0 0 bN args)
  (h1:o1.op = .indexAddr t s ix/\o1.dst=some d1/\o1.guard=none) (h2:o2.op = .store ty (.tmp d1) x/\o2.dst=none/\o2.guard=none) (zS:gx X.nt ((d,⟨[],Cp⟩) :: st.sl) (some d1)=true)
  (hs:rv ⟨(d,⟨[],Cp⟩) :: st.sl,st.bx,st.tk⟩ [] s=some (.sl 0 es (some kt))) (hi:rv ⟨(d,⟨[],Cp⟩) :: st.sl,st.bx,st.tk⟩ [] ix=some (.v (.int kd z)))
  (hx:rv ⟨(d1,⟨[],.pt [] 0⟩) :: (d,⟨[],Cp⟩) :: st.sl,st.bx,st.tk⟩ [] x=some dv) (Zq:eraL dv.cells (fun l=>some l)=some cs') (Vv:dv.cells.length=e) (he0:0 < e)
  (hT:X.T.find t=some ⟨nn,bb,.sl et e j4,zz⟩) (bT:X.T.sz ty=some e) (hq:st.tk[kt]? = some ⟨m,xY,e,some cs⟩) (gT:es.length=m) (hz:0<=z/\z < m) (hW2:D.W i2=true)
  (hk:∃ Ea,Wk X ⟨(d1,⟨[],.pt [] 0⟩) :: (d,⟨[],Cp⟩) :: st.sl,st.bx,st.tk.set kt ⟨m,xY,e,some (cs.take (z.toNat * e) ++ cs' ++ cs.drop (z.toNat * e + e))⟩⟩ Ea/\go X 4000 D.k Ea)
  (bd:X.still=false:=by exact rfl) (hf:D.fin=none:=by exact rfl):As X D c i [(i1,o1),(i2,o2)] f args (some d) s0 st:=by
 refine ⟨mJ,fun hl E0 wr hD E a w vs h hv=>(n4 h.rel bd hc ha hv).mono ?_⟩;rintro e9 w' ⟨v,E',r,rfl,cj,hr,rfl,hm9,hx9,hβ9⟩
 have hh9:∀ b,b < w.heap.size->w'.heap[b]? = w.heap[b]?:=fun b hb=>hm9.block b hb (by
  rintro (h1 | ⟨y,h1,_⟩)
  ·simp [En.cl] at h1
  ·simp [En.cl] at h1)
 have hs9:dm none E w E' w':=⟨hx9,⟨[],by rw [hβ9];simp⟩,fun j b hb _=>hh9 b (h.rel.env.bu (mG hb))⟩;refine ⟨v,rfl,(fun _=>Ec h hs9 cj (fun j hj=>by cases hj)),?_⟩;have hr0:=bM cj hd r v hr;generalize ha0:a.put (some d) v=a0 at hr0;have ez:=hr0.rl;have e2:=cE (bp ez hi);have hv:=bp ez hs;obtain ⟨g,cap,cur,e1,_⟩:=Ka hr0 hv hq gT (by omega);have XQ:gz o1.op=false:=by rw [h1.1];all_goals rfl
 have hL1:kb o1.op=false:=by rw [h1.1];all_goals rfl
 have hE2:gz o2.op=true:=by rw [h2.1];all_goals rfl
 have g1:D.ops[i1]? = some o1:=hl (i1,o1) (by simp);have g2:D.ops[i2]? = some o2:=hl (i2,o2) (by simp);show runT X.P D.ops D.W _ (Dw.Q ⟨D,E0,wr⟩ X) [i1,i2] a0 w';have hr1:Rel X E' ⟨(d1,⟨[],.pt [] 0⟩) :: (d,⟨[],r⟩) :: st.sl,st.bx,st.tk⟩ (a0.put (some d1) (.pointer (some ⟨g,z.toNat * e,none⟩))) w':=bM hr0 zS (.pt [] 0) _ (by unfold Rv;exact ⟨g,z.toNat * e,rfl,by simp only [RvAt]⟩)
 have ht1:(a0.put (some d1) (.pointer (some ⟨g,z.toNat * e,none⟩))).eval (.tmp d1) = .pointer (some ⟨g,z.toNat * e,none⟩):=by
  simp only [gx,aQ,Nat.blt_eq] at zS;simp [Act.eval,Act.put,hr0.sz,zS.1]
 simp only [runT,g1,XQ,Bool.false_eq_true,if_false];refine ⟨.pointer (some ⟨g,z.toNat * e,none⟩),.inl ⟨fZ h1.2.2,fun w9 _=>Sd h1.1 e1 e2 hT hz w9⟩,fun h9=>(by rw [hL1] at h9;cases h9),?_⟩;rw [h1.2.1];generalize a0.put (some d1) (.pointer (some ⟨g,z.toNat * e,none⟩))=a1 at hr1 ht1;have W5:=fZ (ops:=D.ops) (a:=a1) h2.2.2;simp only [g2,hE2,if_true,dT,W5];obtain ⟨w2,E2,cx,n5⟩:=Se hr1 h2.1 ht1 hv e1 hx Zq Vv he0 bT hq gT hz bd;refine Ck cx ?_;rw [h2.2.1];refine ⟨(fun hw=>by rw [hW2] at hw;cases hw),?_⟩;obtain ⟨Ea,UL,iz⟩:=hk;obtain ⟨E3,hr3⟩:=UL _ _ _ n5;show Dw.Q ⟨D,E0,wr⟩ X _ _;unfold Dw.Q;simp only [hf];exact go_sound 4000 _ _ iz _ _ _ hr3
end
end Dv
end Go.Proofs.YtadhpeooehkklaaGreat
namespace Go.Proofs.YtadhpeooehkklaaGreat
namespace Dv
open Go Go.RowKit
section
variable {X:Ctx} {st:St} {k:List It} {E:En} {a:Act} {w:World} {o:Oper}
theorem Wt {t d et e j4 n len:Nat} {bb:Bool} {z:List Value} {parts:Array (Nat × Operand)} {es:List (List DV)} (qR:o.op = .buildSlice t len parts) (jm:o.dst=some d) (hT:X.T.find t=some ⟨n,bb,.sl et e j4,z⟩) (gT:litL e st parts.toList 0=some es)
  (hc:(Nat.beq es.length len && (Nat.blt 0 len && Nat.blt 0 e && Nat.ble (len * e) 16777216))=true) (hd:gx X.nt st.sl (some d)=true) (bd:X.still=false:=by exact rfl) (hX:X.bt=[]:=by exact rfl) :
  OpS X o st ⟨(d,⟨[],.sl 0 (List.replicate len []) (some st.tk.length)⟩) :: st.sl,st.bx,st.tk ++ [⟨len,et,e,some es.flatten⟩]⟩:=by
 intro E a w h;simp only [aQ,Nat.beq_eq,Nat.ble_eq,Nat.blt_eq] at hc;obtain ⟨hlen,⟨jX,DH⟩,hsm⟩:=hc;obtain ⟨hu,ii,zv,q8,hz,bT,Gy,Ki⟩:=fw X.hT hT;obtain ⟨xs,vs,hp,wQ,zu,eK,wS,ef⟩:=mF h.rl DH gT;subst bT
 have GM:len * ii.size≠0:=by
  have:=Nat.mul_pos jX DH;omega
 have lT:Instr.fill (fun i=>some (i * ii.size,ii.size)) ((Array.range (len * ii.size)).map (zv.cells[·% zv.cells.size]!)) (parts.map fun (i,x)=>(i,a.eval x)).toList=some (cellsL vs).toArray:=by
  have h0:=qW ii.size vs 0 ((Array.range (len * ii.size)).map (zv.cells[·% zv.cells.size]!)).toList eK (by simp [zu,hlen])
  have h1:(parts.map fun (i,x)=>(i,a.eval x)).toList=enumF 0 vs:=by
   rw [Array.toList_map,hp,wQ,<- oT]
  rw [h1];simp only [Array.toArray_toList] at h0;rw [h0];simp [zu,hlen]
 have cx:(execOp a.eval o).run X.P w = .ok (.value (.slice (some ⟨w.heap.size,0,none⟩) len len)) (w.alloc (.cells (cellsL vs).toArray et)):=by
  simp only [execOp,qR,Sem.run_bind,run_buildSlice w t et len _ _ ii zv hu q8 hz (by omega) GM lT,Result.andThen_ok,Sem.run_pure]
 have A6:(cellsL vs).length=len * ii.size:=by
  have:∀ l:List Value,(∀ v∈l,v.cells.toList.length=ii.size)->(cellsL l).length=l.length * ii.size:=by
   intro l
   induction l with
   | nil=>intro _;simp [cellsL]
   | cons v l ih=>
    intro hl;simp only [cellsL,List.length_append,List.length_cons];rw [ih fun x hx=>hl x (dj _ hx),hl v List.mem_cons_self,Nat.succ_mul];omega
  rw [this vs eK,zu,hlen]
 refine eL cx ?_;rw [jm]
 have Cm:es.flatten.length=len * ii.size:=by
  have h1:=wS.1.length;rw [<- h1,A6]
 have aaM:RvC ⟨E.c,[],[],[]⟩ es.flatten ((cellsL vs).toArray.toList.take (len * ii.size)):=by
  rw [List.take_of_length_le (by simp [A6])];exact wS
 have Kw:len<=maxLen:=by
  have:len<=len * ii.size:=Nat.le_mul_of_pos_right _ DH;unfold maxLen;omega
 have jK:=h.env.ke (w':=w.alloc (.cells (cellsL vs).toArray et)) fun i hi=>alloc_old w _ hi
 let E2:En:=⟨E.c,E.β,E.tk ++ [⟨len,et,ii.size,some es.flatten⟩],E.τ ++ [.slice (some ⟨w.heap.size,0,none⟩) len len]⟩
 have hext:Ext E E2:=⟨fun _ _ h=>h,fun _ _ h=>h,fun k q' hk=>by
  have au:=(gS hk).1;refine ⟨q',by show (E.tk ++ _)[k]? = _;rw [cm au];exact hk,.inl ⟨rfl,?_⟩⟩;show (E.τ ++ _)[k]? = _
  rw [cm (by rw [h.env.tl];exact au)]⟩
 have hτ:∀ (k:Nat) y,E2.τ[k]? = some y->(k < E.τ.length/\E.τ[k]? = some y)∨(k=E.τ.length/\y = .slice (some ⟨w.heap.size,0,none⟩) len len):=fun k y hy=>by
  have hy:(E.τ ++ [Value.slice (some ⟨w.heap.size,0,none⟩) len len])[k]? = some y:=hy;rw [List.getElem?_append] at hy;split at hy
  ·rename_i hk;exact .inl ⟨hk,hy⟩
  ·rename_i hk
   have h0:k - E.τ.length=0:=by
    rcases Nat.eq_zero_or_pos (k - E.τ.length) with h0 | h0
    ·exact h0
    ·rw [cQ (by simp;omega)] at hy;cases hy
   rw [h0] at hy;simp only [List.getElem?_cons_zero,oI] at hy;exact .inr ⟨by omega,hy.symm⟩
 have gk:∀ (k:Nat) y g,E.τ[k]? = some y->y.ownBlock=some g->g < w.heap.size:=fun k y g hy hg=>(h.env.own (mG hy) hg).1
 have cj:Rel X E2 ⟨st.sl,st.bx,st.tk ++ [⟨len,et,ii.size,some es.flatten⟩]⟩ a (w.alloc (.cells (cellsL vs).toArray et)):=by
  refine dF h hext ?_ (by show E.tk ++ _=_;rw [h.tk]) ?_ (h.fr.alloc _) (nX bd) (.nil hX)
  ·exact {
    len:=h.env.len
    tl:=by show (E.τ ++ _).length=(E.tk ++ _).length;simp [h.env.tl]
    fm:=fun i cs hi=>by
     obtain ⟨b,t,arr,hb,hw,hc⟩:=jK.fm i cs hi;exact ⟨b,t,arr,hb,hw,hc.mono hext⟩
    inj:=h.env.inj
    sub:=jK.sub
    pc:=h.env.pc
    cG:=fun k q' y TH hy=>by
     rcases hτ k y hy with ⟨au,fB⟩ | ⟨rfl,rfl⟩
     ·have fb:(E.tk ++ [⟨len,et,ii.size,some es.flatten⟩])[k]? = some q':=TH;rw [cm (by rw [<- h.env.tl];exact au)] at fb;exact jK.cG k q' y fb fB
     ·have fb:(E.tk ++ [⟨len,et,ii.size,some es.flatten⟩])[E.τ.length]? = some q':=TH;rw [List.getElem?_append_right (by rw [h.env.tl];exact aU _),h.env.tl] at fb;simp only [Nat.sub_self,List.getElem?_cons_zero,oI] at fb;subst fb;refine .inr ⟨w.heap.size,len,(cellsL vs).toArray,rfl,je w _,⟨by simp [A6],fun cs hc=>by cases hc;exact ⟨Cm,aaM⟩⟩,aU _,Kw,fun hm=>?_,fun x v hx GB=>?_⟩
      ·have:=h.env.bu hm;omega
      ·have:=World.block_lt_of_cell? w x (h.env.sub x v hx);omega
    jI:=fun k k' y y' g DF hy fB hg sB=>by
     rcases hτ k y hy with ⟨_,vR⟩ | ⟨rfl,rfl⟩
     ·rcases hτ k' y' fB with ⟨_,lf⟩ | ⟨rfl,rfl⟩
      ·exact h.env.jI k k' y y' g DF vR lf hg sB
      ·have:=gk k y g vR hg;simp only [Value.ownBlock,oI] at sB;omega
     ·rcases hτ k' y' fB with ⟨_,lf⟩ | ⟨rfl,rfl⟩
      ·have:=gk k' y' g lf sB;simp only [Value.ownBlock,oI] at hg;omega
      ·exact DF rfl }
  ·exact {
    c:=h.nw.c
    cn:=h.nw.cn
    β:=h.nw.β
    tk:=fun j q0 y0 vS Cg=>by
     obtain ⟨q',y',h1,h2,h3⟩:=h.nw.tk j q0 y0 vS Cg;exact ⟨q',y',by show (E.tk ++ _)[j]? = _;rw [cm (gS h1).1];exact h1,by show (E.τ ++ _)[j]? = _;rw [cm (gS h2).1];exact h2,h3⟩
    tn:=fun j y g hj hy hg=>by
     rcases hτ j y hy with ⟨_,vR⟩ | ⟨_,rfl⟩
     ·exact h.nw.tn j y g hj vR hg
     ·simp only [Value.ownBlock,oI] at hg;have:=h.fr.size;omega
    l0:=h.nw.l0 }
 refine ⟨E2,bM cj hd (.sl 0 (List.replicate len []) (some st.tk.length)) _ ?_,hext,⟨[],by simp [E2]⟩,fun i b hb _=>alloc_old w _ (h.env.bu (mG hb))⟩;unfold Rv;refine ⟨_,_,_,rfl,⟨by rw [List.length_replicate],aU _⟩,fun bF=>⟨rfl,s6 _ _ _ _⟩,fun k' fb=>?_⟩;cases fb;refine ⟨⟨len,et,ii.size,some es.flatten⟩,?_,aU _,fun _=>?_⟩
 ·show (E.tk ++ _)[st.tk.length]? = _;rw [h.tk];simp
 ·show (E.τ ++ _)[st.tk.length]? = _;rw [<- h.tk,<- h.env.tl];simp
theorem Sf {t d et e j4 n len:Nat} {bb:Bool} {z:List Value} {parts:Array (Nat × Operand)} {es:List (List DV)} (qR:o.op = .buildSlice t len parts) (jm:o.dst=some d) (hT:X.T.find t=some ⟨n,bb,.sl et e j4,z⟩) (gT:litL e st parts.toList 0=some es)
  (hc:(Nat.beq es.length len && (Nat.blt 0 len && Nat.blt 0 e && Nat.ble (len * e) 16777216))=true) (hd:gx X.nt st.sl (some d)=true) (bd:X.still=false:=by exact rfl) (hX:X.bt=[]:=by exact rfl)
  (hk:go X 4000 k ⟨(d,⟨[],.sl 0 (List.replicate len []) (some st.tk.length)⟩) :: st.sl,st.bx,st.tk ++ [⟨len,et,e,some es.flatten⟩]⟩):LZ X o k st:=(Wt qR jm hT gT hc hd bd hX).g hk
end
end Dv
end Go.Proofs.YtadhpeooehkklaaGreat
namespace Go.Proofs.YtadhpeooehkklaaGreat
namespace Dv
open Go Go.RowKit
theorem FY {E E':En} {x x':DV} (h:∀ z,Rv E x z->Rv E' x' z):∀ {l:List DV} {vs:List Value},(∀ d∈l,∃ v,d = .v v)->RvL E (l ++ [x]) vs->RvL E' (l ++ [x']) vs
 | [],vs,_,hv=>by
  simp only [List.nil_append,RvL] at hv ⊢;obtain ⟨v,s,rfl,h1,h2⟩:=hv;exact ⟨v,s,rfl,h v h1,h2⟩
 | d :: r,vs,hl,hv=>by
  simp only [List.cons_append,RvL] at hv ⊢;obtain ⟨v,s,rfl,h1,h2⟩:=hv;refine ⟨v,s,rfl,?_,FY h (fun d hd=>hl d (dj _ hd)) h2⟩;obtain ⟨u,rfl⟩:=hl d List.mem_cons_self;unfold Rv at h1 ⊢;exact h1
theorem Px {E:En} {w w':World} {v:Value} {l:List DV} {es ns:List (List DV)} {n ty e:Nat} (Sg:Env E [] w) (lg:E.tk=[]) (hl:∀ d∈l,∃ v,d = .v v) (zx:∀ x∈ns,x.length=e) (fo:ns.length=n) (gT:es.length=n)
  (hc:pF false E w (fun r _ cG=>r = .agg (l ++ [.sl 0 es (some 0)])/\cG=[⟨n,ty,e,some ns.flatten⟩]) v w' true):pF false E w (fun d _ _=>d = .agg (l ++ [.sl e ns none])) v w':=by
 obtain ⟨hm,hs,d,os,E2,he,hβ,hY,hn,zL,rfl,rL⟩:=hc
 have sZ:os=[]:=by
  have h1:=he.len;have h2:=Sg.len;rw [hβ] at h1;rw [h1] at h2;exact List.eq_nil_of_length_eq_zero h2
 subst sZ;have hτl:E2.τ.length=1:=by rw [he.tl,rL];all_goals rfl
 obtain ⟨y,hy⟩:∃ y,E2.τ[0]? = some y:=⟨_,gE (by omega)⟩;have hq:E2.tk[0]? = some ⟨n,ty,e,some ns.flatten⟩:=by rw [rL];all_goals rfl
 have nM:=he.cG 0 _ y hq hy
 have dK:∀ x u,E2.c x=some u->tC E2 w' y (n * e) x=some u:=fun x u hx=>by
  unfold tC;split
  ·exact he.sub x u hx
  ·exact hx
 refine ⟨hm,hs,.agg (l ++ [.sl e ns none]),[],⟨tC E2 w' y (n * e),E2.β,[],[]⟩,?_,hβ,?_,?_,?_,rfl⟩
 ·exact {
   len:=he.len
   tl:=rfl
   fm:=fun i cs hi=>by simp at hi
   inj:=he.inj
   sub:=fun x u hx=>by
    rcases fY hx with ⟨_,_,_,h1⟩ | h1
    ·exact h1
    ·exact he.sub x u h1
   pc:=fun x u hx hm=>by
    rcases fY hx with ⟨h1,_⟩ | h1
    ·exact (jj nM h1).2 hm
    ·exact he.pc x u h1 hm
   cG:=fun j q y hj _=>by simp at hj
   jI:=fun j j' y y' g _ hj _ _=>by simp at hj }
 ·show 0=_;rw [lg];all_goals rfl
 ·exact {
   c:=fun x u hx=>dK x u (hn.c x u hx)
   cn:=fun x u hx=>by
    rcases fY hx with ⟨h1,_⟩ | h1
    ·exact .inr (.inl (hn.tn 0 y _ (by rw [lg];exact aU _) hy h1))
    ·exact hn.cn x u h1
   β:=hn.β
   tk:=fun j q0 y0 vS _=>by rw [lg] at vS;simp at vS
   tn:=fun j y g _ hj _=>by simp at hj
   l0:=hn.l0 }
 ·unfold Rv at zL ⊢;obtain ⟨vs',rfl,hL,WZ⟩:=zL;refine ⟨vs',rfl,FY (fun z hz=>?_) hl hL,WZ⟩;unfold Rv at hz ⊢;obtain ⟨b,m,cap,rfl,⟨rfl,hmc⟩,hr,bd⟩:=hz;obtain ⟨q',jk,_,hτ⟩:=bd 0 rfl;rw [hq] at jk;simp only [oI] at jk;subst jk;have lf:=hτ gT;rw [hy] at lf;simp only [oI] at lf;subst lf;refine ⟨b,es.length,cap,rfl,⟨by omega,hmc⟩,fun bF=>?_,fun k' fb=>by cases fb⟩;rcases nM with ⟨h1,h2,h3⟩ | ⟨g,Uu,cur,h0,h1,h2,h3,h4,h5,h6⟩
  ·simp only at h2;exact (bF (List.eq_nil_of_length_eq_zero (by omega))).elim
  ·injection h0 with i1 i2 i3
   subst i1;refine ⟨rfl,?_⟩;obtain ⟨h7,h8⟩:=h2.2 _ rfl;refine rvEs_flat (h8.mono (E:=⟨E2.c,[],[],[]⟩) ⟨dK,fun _ _ h=>by simp at h,fun _ _ h=>by simp at h⟩) zx fun j u hj=>?_;rw [ch] at hj;split at hj
   ·rename_i nY;show tC E2 w' _ (n * e) _=_;unfold tC;rw [ai ⟨rfl,rfl,by simpa [ao] using nY⟩];simp only [ab,ao,Nat.zero_add];rw [cT h1];simpa using hj
   ·cases hj
theorem LI {E:En} {w w':World} {v:Value} {d:DV} (lg:E.tk=[]) (hc:pF false E w (fun r _ cG=>r=d/\cG=[]) v w' true):pF false E w (fun r _ _=>r=d) v w':=by
 obtain ⟨hm,hs,d,os,E2,he,hβ,hY,hn,zL,rfl,rL⟩:=hc;exact ⟨hm,hs,d,os,E2,he,hβ,by rw [rL,lg];exact (rfl:(0:Nat)=0),hn,zL,rfl⟩
theorem Sh {s:Bool} {E:En} {w w':World} {v:Value} {fr:Bool} {A B:DV->List (List DV)->List TkE->Prop} (h:pF s E w (fun r o t=>A r o t∨B r o t) v w' fr):pF s E w A v w' fr∨pF s E w B v w' fr:=by
 obtain ⟨hm,hs,d,os,E2,he,hβ,hY,hn,zL,h1 | h1⟩:=h
 ·exact .inl ⟨hm,hs,d,os,E2,he,hβ,hY,hn,zL,h1⟩
 ·exact .inr ⟨hm,hs,d,os,E2,he,hβ,hY,hn,zL,h1⟩
theorem LJ {s:Bool} {E:En} {w w':World} {v:Value} {fr:Bool} {A B:DV->List (List DV)->List TkE->Prop} (h:pF s E w A v w' fr) (hAB:∀ r o t,A r o t->B r o t):pF s E w B v w' fr:=by
 obtain ⟨hm,hs,d,os,E2,he,hβ,hY,hn,zL,h1⟩:=h;exact ⟨hm,hs,d,os,E2,he,hβ,hY,hn,zL,hAB _ _ _ h1⟩
end Dv
end Go.Proofs.YtadhpeooehkklaaGreat
set_option maxRecDepth 100000
namespace Go.Proofs.YtadhpeooehkklaaGreat
open Go Go.RowKit Dv Go.Proofs.Tryz
def Wu (d:Nd) (v:Val):List dm:=(List.range v.ks.length).map (stpR d v)
theorem LK (d:Nd) (v:Val) (e:Nat):aT ((List.range e).map (stpR d v)) ++ [j3 (stpR d v e)]=aT ((List.range (e + 1)).map (stpR d v)):=by
 rw [List.range_succ];simp [aT]
abbrev Py (d:Nd) (v:Val) (q e:Nat):St:=
 ⟨[(2,⟨[],.loc 0 0⟩),(3,⟨[],.loc 1 0⟩),(5,⟨[],.sl 3 (aT ((List.range e).map (stpR d v))) (some 0)⟩),(9,⟨[],.v (.int .i64 (dVals v.ks).length)⟩),(10,⟨[],.v (.int .i64 e)⟩)],[gG d,dVal v],[⟨q,117,3,none⟩]⟩
theorem IC (d:Nd) (v:Val) (hv:v.wt<=1099511627776) (hk:v.k=d.ag) (h5:5<=d.ag) (Fx:d.ag<=8) (h7:d.ag=7->v.ks.length=d.ap.length) (h8:d.ag=8->0<=v.n/\v.n < d.ap.length) :
  aV prog 113 [.agg (gG d),.agg (dVal v)] (.sl 3 (aT (Wu d v)) none):=by
 obtain ⟨ag,ba,lo,hi,most,af,es⟩:=d;obtain ⟨q,z,s,ks⟩:=v;have ef:=aW es;have bJ:=bV ks;have ej:=gP ks;rw [Val.wt] at hv;simp only [Val.k,Val.n,Val.ks] at hk h5 Fx h7 h8;subst hk;refine eG 55 [.tmp 4] func113 rfl ntmps113 rfl fun _ _ _ _=>?_;refine lJ (fun e=>Py ⟨q,ba,lo,hi,most,af,es⟩ (.mk q z s ks) e e) ks.length (cW 2 ⟨0,117,3,none⟩ rfl rfl rfl pO rfl rfl lX) ?_;intro e he;refine br ?_ ?_<;>intro hL
 ·have au:e < ks.length:=by simpa [bJ,Val.ks] using hL
  have c9:(aT ((List.range e).map (stpR ⟨q,ba,lo,hi,most,af,es⟩ (.mk q z s ks)))).length=e:=by simp [aT]
  have du:=LK ⟨q,ba,lo,hi,most,af,es⟩ (.mk q z s ks) e
  have hS:stpR ⟨q,ba,lo,hi,most,af,es⟩ (.mk q z s ks) e=if q=5 then ⟨2,e,az⟩
   else if q=6 then ⟨4,0,az⟩
   else if q=7 then ⟨1,0,match es[e]? with | some e=>e.name | none=>az⟩
   else ⟨5,0,match es[z.toNat]? with | some e=>e.name | none=>az⟩:=rfl
  refine br ?_ ?_<;>intro c
  ·have c:q=7:=sU c;obtain ⟨x,hx⟩:∃ x,es[e]? = some x:=⟨_,gE (by have:=h7 c;omega)⟩;rw [ah (by omega),ah (by omega),ai c] at hS;simp only [hx] at hS;rw [hS] at du;refine iX (aF hx) ?_;refine ⟨c9,⟨by rw [c9];simp [maxLen];omega,by rw [c9];simp;omega⟩,?_⟩;exact rE ⟨_,by omega,e + 1,rfl,by omega,rfl⟩ (aq 2 rfl (gp (aK au (by omega)) du) rfl rfl rfl (wB2 (aK au (by omega)) du))
  have c7:¬ q=7:=sU c;refine br ?_ ?_<;>intro c
  ·have c:q=5:=sU c;rw [ai c] at hS;rw [hS] at du;refine ⟨c9,⟨by rw [c9];simp [maxLen];omega,by rw [c9];simp;omega⟩,?_⟩;exact rE ⟨_,by omega,e + 1,rfl,by omega,rfl⟩ (aq 2 rfl (gp (aK au (by omega)) du) rfl rfl rfl (wB2 (aK au (by omega)) du))
  have c5:¬ q=5:=sU c;refine br ?_ ?_<;>intro c
  ·have c:q=6:=sU c;rw [ah c5,ai c] at hS;rw [hS] at du;refine ⟨c9,⟨by rw [c9];simp [maxLen];omega,by rw [c9];simp;omega⟩,?_⟩;exact rE ⟨_,by omega,e + 1,rfl,by omega,rfl⟩ (aq 2 rfl (gp (aK au (by omega)) du) rfl rfl rfl (wB2 (aK au (by omega)) du))
  have c6:¬ q=6:=sU c;refine br ?_ ?_<;>intro c
  ·have c:q=8:=sU c;obtain ⟨z0,z1⟩:=h8 c;obtain ⟨x,hx⟩:∃ x,es[z.toNat]? = some x:=⟨_,gE (by omega)⟩;rw [ah c5,ah c6,ah c7] at hS;simp only [hx] at hS;rw [hS] at du;refine iX (aF hx) ?_;refine ⟨c9,⟨by rw [c9];simp [maxLen];omega,by rw [c9];simp;omega⟩,?_⟩;exact rE ⟨_,by omega,e + 1,rfl,by omega,rfl⟩ (aq 2 rfl (gp (aK au (by omega)) du) rfl rfl rfl (wB2 (aK au (by omega)) du))
  ·have c:¬ q=8:=sU c;omega
 ·have aS:e=ks.length:=by
   have:=hL;simp [bJ,Val.ks] at this;omega
  rw [aS];exact ⟨_,ax,rfl⟩
def LL (d:Nd) (v:Val) (s:dm):Option Nat:=(List.range v.ks.length).find? fun e=>nh (stpR d v e) s
def stepV (ND:List Nd) (v:Val) (i:Int) (s:dm):Option (Nat × Val × Int):=
 match mf ND i with
 | none=>none
 | some d=>match LL d v s with
  | none=>none
  | some e=>match v.ks[e]?,(kidsL d v)[e]? with
   | some x,some j=>some (e,x,j)
   | _,_=>none
def getV (ND:List Nd):List dm->Val->Int->Option (Val × Int)
 | [],v,i=>some (v,i)
 | s :: p,v,i=>match stepV ND v i s with
  | none=>none
  | some (_,x,j)=>getV ND p x j
theorem LM {f:Nat->Bool} {n e:Nat} (h:(List.range n).find? f=some e):e < n/\f e=true:=by
 have h1:=List.find?_some h;have h2:=List.mem_of_find?_eq_some h;exact ⟨by simpa using h2,h1⟩
theorem ze {ND:List Nd} {v:Val} {i:Int} {s:dm} {e:Nat} {x:Val} {j:Int} (h:stepV ND v i s=some (e,x,j)) :
  ∃ d,mf ND i=some d/\LL d v s=some e/\v.ks[e]? = some x/\(kidsL d v)[e]? = some j:=by
 unfold stepV at h;split at h
 ·cases h
 ·rename_i d hd;split at h
  ·cases h
  ·rename_i e' he;split at h
   ·rename_i x' j' hx hj;simp only [oI,Prod.mk.injEq] at h;obtain ⟨rfl,rfl,rfl⟩:=h;exact ⟨d,hd,he,hx,hj⟩
   ·cases h
section
variable {L:Nat} {ND:List Nd} (bw:∀ n∈ND,cz L ND.length n)
include bw
theorem FZ {v:Val} {i:Int} {d:Nd} (hF:Wj ND v i d) {e:Nat} {x:Val} (hx:v.ks[e]? = some x):5<=d.ag/\d.ag<=8:=by
 have hN:=bw d (mG (ia hF.av).2);refine ⟨?_,hN.k8⟩;have h1:=hN.k1;rcases Int.lt_or_le d.ag 5 with h | h
 ·rw [hF.leaf h] at hx;simp at hx
 ·exact h
theorem Pz {v:Val} {i:Int} (hf:fitV ND v i=true) {s:dm} {e:Nat} {x:Val} {j:Int} (h:stepV ND v i s=some (e,x,j)):fitV ND x j=true:=by
 obtain ⟨d,hF⟩:=tZ bw hf;obtain ⟨d',h1,h2,h3,h4⟩:=ze h;rw [hF.av] at h1;cases h1;exact Fy (hF.kids (FZ bw hF h3).1).2 h3 h4
end
section
variable {L:Nat} {ND:List Nd} (bw:∀ n∈ND,cz L ND.length n)
include bw
end
theorem Kb {p:Nat->Bool}:∀ {n e:Nat},e < n->p e=true->(∀ e' < e,p e'=false)->(List.range n).find? p=some e
 | 0,e,h,_,_=>by omega
 | n + 1,e,h,h1,h2=>by
  rw [List.range_succ,List.find?_append];by_cases he:e < n
  ·rw [Kb he h1 h2];all_goals rfl
  ·have:e=n:=by omega
   subst this;have h3:(List.range e).find? p=none:=List.find?_eq_none.2 fun x hx=>by rw [h2 x (sU hx)];simp
   rw [h3];simp [h1]
theorem Si {p:Nat->Bool} {n:Nat} (h:∀ e < n,p e=false):(List.range n).find? p=none:=List.find?_eq_none.2 fun x hx=>by rw [h x (sU hx)];simp
theorem BP (a b:dm):nh a b=nh b a:=by
 rw [Bool.eq_iff_iff,Fz,Fz];exact eq_comm
abbrev ixSt (l:List dm) (s:dm) (e:Nat):St:=⟨[(0,⟨[],.sl 3 (aT l) none⟩),(3,⟨[],.loc 0 0⟩),(6,⟨[],.sl 3 (aT l) none⟩),(7,⟨[],.v (.int .i64 (aT l).length)⟩),(8,⟨[],.v (.int .i64 e)⟩)],[j3 s],[]⟩
theorem ID (f:Nat->dm) (n:Nat) (s:dm) (hn:n<=1099511627776) :
  aV prog 114 [.sl 3 (aT ((List.range n).map f)) none,.agg (j3 s)] (.v (.int .i64 (oz ((List.range n).find? fun e=>nh (f e) s)))):=by
 have bJ:(aT ((List.range n).map f)).length=n:=by rw [eu];simp
 refine eG 19 [.tmp 4] func114 rfl ntmps114 rfl fun _ _ _ _=>?_;refine lI (fun j st=>∃ e:Nat,st=ixSt ((List.range n).map f) s e/\e<=n/\(∀ e' < e,nh (f e') s=false)/\j=n - e) ⟨0,rfl,by omega,(fun _ h=>by omega),rfl⟩ (aj ⟨_,rfl⟩ wA rfl rfl rfl wB) ?_;rintro _ st ⟨e,rfl,he,fv,rfl⟩;refine br ?_ ?_<;>intro hL
 ·have au:e < n:=sV bJ hL;have hx:((List.range n).map f)[e]? = some (f e):=by rw [List.getElem?_map,List.getElem?_range au];all_goals rfl
  refine dI ?_;refine ⟨_,⟨by omega,dW hx⟩,_,RL _ _ s (f e),?_⟩;refine br ?_ ?_<;>intro c
  ·have c:nh s (f e)=true:=c;have:=Kb (p:=fun e=>nh (f e) s) au (by show nh (f e) s=true;rw [BP];exact c) fv;rw [this];exact (rfl:_=_)
  ·have c:nh s (f e)=false:=c
   exact rE ⟨_,by omega,e + 1,rfl,by omega,(fun e' h=>by
    rcases Nat.lt_or_ge e' e with h1 | h1
    ·exact fv e' h1
    ·have:e'=e:=by omega
     subst this
     rw [BP];exact c),rfl⟩ (aj ⟨_,rfl⟩ wA rfl rfl rfl (dy (aK au (by omega))))
 ·have aS:n<=e:=sV bJ hL;have:=Si (p:=fun e=>nh (f e) s) (n:=n) fun e' h=>fv e' (by omega);rw [this];exact (rfl:_=_)
theorem F0 (d:Nd) (q z:Int) (s:ByteArray):aV prog 113 [.agg (gG d),.agg (dVal (.mk q z s []))] (.sl 3 [] none):=by
 obtain ⟨ag,ba,lo,hi,most,af,es⟩:=d;refine eG 55 [.tmp 4] func113 rfl ntmps113 rfl fun _ _ _ _=>?_;refine bA (fun j st=>st=Py ⟨ag,ba,lo,hi,most,af,es⟩ (.mk q z s []) 0 0) 0 (Py ⟨ag,ba,lo,hi,most,af,es⟩ (.mk q z s []) 0 0) (cW 2 ⟨0,117,3,none⟩ rfl rfl rfl pO rfl rfl lX) rfl ?_;rintro _ st rfl;exact ⟨_,ax,rfl⟩
def kidR (o:Option (Nat × Val × Int)):DV:=match o with
 | some (e,_,j)=>.tup [.v (.int .i64 (e:Nat)),.v (.int .i64 j)]
 | none=>.tup [.v (.int .i64 (-1)),.v (.int .i64 (-1))]
theorem F1 {L:Nat} {ND:List Nd} (bw:∀ n∈ND,cz L ND.length n) {v:Val} (hv:v.wt<=1099511627776) {i:Int} {d:Nd} (hF:Wj ND v i d):aV prog 113 [.agg (gG d),.agg (dVal v)] (.sl 3 (aT (Wu d v)) none):=by
 have hN:=bw d (mG (ia hF.av).2);rcases Int.lt_or_le d.ag 5 with h5 | h5
 ·have h:=hF.leaf h5;obtain ⟨q,z,s,ks⟩:=v;simp only [Val.ks] at h;subst h;exact F0 d q z s
 ·refine IC d v hv hF.k h5 hN.k8 (fun c=>?_) (fun c=>?_)
  ·have:=(hF.kids h5).1;rw [<- this];unfold kidsL;rw [ah (by omega),ai c,List.length_map]
  ·obtain ⟨_,_,_,h3,h4,_⟩:=hF.tag c;exact ⟨h3,h4⟩
theorem PA {S:Sch} {ND:List Nd} {PC:List DV} (hP:eZ S ND PC) {v:Val} (hv:v.wt<=1099511627776) {i:Int} (hf:fitV ND v i=true) (s:dm) :
  aV prog 57 [.pt PC 0,.v (.int .i64 i),.agg (dVal v),.agg (j3 s)] (kidR (stepV ND v i s)):=by
 obtain ⟨d,hF⟩:=tZ hP.ok hf
 have pH:stepV ND v i s=match LL d v s with | none=>none | some e=>match v.ks[e]?,(kidsL d v)[e]? with | some x,some j=>some (e,x,j) | _,_=>none:=by
  unfold stepV;rw [hF.av];all_goals rfl
 have Lq:∀ e,LL d v s=some e->∃ x j,v.ks[e]? = some x/\(kidsL d v)[e]? = some j/\5<=d.ag:=fun e he=>by
  have au:=(LM he).1;have hx:v.ks[e]? = some v.ks[e]:=gE au;have h5:=FZ hP.ok hF hx;exact ⟨_,_,hx,gE (by rw [(hF.kids h5.1).1];exact au),h5.1⟩
 have Au:LL d v s=(List.range v.ks.length).find? fun e=>nh (stpR d v e) s:=rfl;have h1:=F1 hP.ok hv hF;have ej:=gP v.ks;have hvw:v.wt=64 + v.s.size + dQ v.ks:=by cases v;rw [Val.wt];all_goals rfl
 have h2:=ID (stpR d v) v.ks.length s (by omega);obtain ⟨h0,hg⟩:=ia hF.av;have hN:=hP.ok d (mG hg);have h3:=fun h5=>Bp hN h5 v hv;obtain ⟨j0,rfl⟩:∃ j:Nat,i=j:=⟨i.toNat,by omega⟩;have hg:ND[j0]? = some d:=sU hg;have eY:=hP.av j0 d hg;rw [<- Au] at h2;rw [pH];have hstl:Wu d v=(List.range v.ks.length).map (stpR d v):=rfl;rw [hstl] at h1;generalize (List.range v.ks.length).map (stpR d v)=SL at h1 h2;generalize LL d v s=o at h2 Lq ⊢;clear pH;obtain ⟨q,z,t,ks⟩:=v;obtain ⟨ag,ba,lo,hi,most,af,es⟩:=d;obtain ⟨sk,sn,ss⟩:=s;refine eG 38 [.tmp 8,.tmp 9] func57 rfl ntmps57 rfl fun _ _ _ _=>?_;refine cP G8 eY ?_;refine dI ?_;refine cD Yg h1 ?_;refine cD Yh h2 ?_
 cases o with
 | none=>
  exact ⟨_,ax,rfl⟩
 | some e=>
  obtain ⟨x,j,hx,hj,h5⟩:=Lq e rfl;refine cP XX (h3 h5) ?_;refine dI ?_;refine ⟨_,⟨by simp [oz],by simp [oz];exact JU hj⟩,?_⟩;simp only [hx,hj];exact ⟨_,ax,rfl⟩
abbrev zf:List DV:=[.v (.int .i64 0),.v (.int .i64 0),.v (.string az),.v (.slice none 0 0)]
abbrev zeroV:Val:=.mk 0 0 az []
abbrev tcSt (v:Val) (n e:Nat):St:=
 ⟨[(1,⟨[],.loc 0 0⟩),(2,⟨[],.loc 1 0⟩),(3,⟨[],.sl 4 (dVals (v.ks.take e)) (some 0)⟩),(7,⟨[],.sl 4 (dVals v.ks) none⟩),(8,⟨[],.v (.int .i64 (dVals v.ks).length)⟩),(9,⟨[],.v (.int .i64 e)⟩)],[dVal v,zf],[⟨n,34,4,none⟩]⟩
theorem zg:∀ (k:Nat) (v:Val),v.wt<=k->v.wt<=1099511627776->aV prog 58 [.agg (dVal v)] (.agg (dVal v))
 | 0,v,h,_=>by have:=v.eO;omega
 | k + 1,.mk q z s ks,h,hb=>by
  have ej:=gP ks;have bJ:=bV ks;rw [Val.wt] at h hb;refine eG 22 [.cell 2 34] func58 rfl ntmps58 rfl fun _ _ _ _=>?_;refine lI (fun j st=>∃ e n:Nat,st=tcSt (.mk q z s ks) n e/\n=e/\e<=ks.length/\j=ks.length - e) ⟨0,0,rfl,rfl,by omega,rfl⟩ (cW 2 ⟨0,34,4,none⟩ rfl rfl rfl pO rfl rfl lX) ?_;rintro _ st ⟨e,n,rfl,rfl,he,rfl⟩;refine br ?_ ?_<;>intro hL
  ·have au:n < ks.length:=by simpa [bJ,Val.ks] using hL
   obtain ⟨x,hx⟩:=gX au;have TB:=jR (mG hx);have hw:=zg k x (by omega) (by omega);have du:=qD hx;have c9:(dVals (ks.take n)).length=n:=by rw [bV,zLenT];omega
   obtain ⟨xk,xn,xs,xl⟩:=x;refine iX (iv hx) ?_;refine cP XY hw ?_;refine ⟨c9,⟨by simp only [Val.ks];rw [c9];simp [maxLen];omega,by simp only [Val.ks];rw [c9];simp;omega⟩,?_⟩;exact rE ⟨_,by omega,n + 1,n + 1,rfl,rfl,by omega,rfl⟩ (aq 2 rfl (gp (aK au (by omega)) du) rfl rfl rfl (wB2 (aK au (by omega)) du))
  ·have aS:n=ks.length:=by
    have:=hL;simp [bJ,Val.ks] at this;omega
   subst aS;have h1:dVals (Val.mk q z s ks).ks=dVals ks:=rfl;have h2:ks.take ks.length=ks:=List.take_length;have h3:(Val.mk q z s ks).ks.take ks.length=ks:=h2;rw [h3];exact ⟨_,ax,rfl⟩
def resG (o:Option (Val × Int)):DV:=match o with
 | some (x,j)=>.tup [.agg (dVal x),.v (.int .i64 j),.v (.bool true)]
 | none=>.tup [.agg (dVal zeroV),.v (.int .i64 (-1)),.v (.bool false)]
abbrev aaN (PC:List DV) (p:List dm) (v:Val) (i:Int) (e:Nat):St:=
 ⟨[(0,⟨[],.pt PC 0⟩),(1,⟨[],.v (.int .i64 i)⟩),(6,⟨[],.loc 0 0⟩),(8,⟨[],.loc 1 0⟩),(21,⟨[],.sl 3 (aT p) none⟩),(22,⟨[],.v (.int .i64 (aT p).length)⟩),(23,⟨[],.v (.int .i64 e)⟩)],[dVal v,zf],[]⟩
theorem tget_spec {S:Sch} {ND:List Nd} {PC:List DV} (hP:eZ S ND PC) {v:Val} (hv:v.wt<=1099511627776) (i:Int) (p:List dm) (hp:p.length<=1099511627776) :
  aV prog 17 [.pt PC 0,.v (.int .i64 i),.agg (dVal v),.sl 3 (aT p) none] (resG (if fitV ND v i=true then getV ND p v i else none)):=by
 have nI:=qG hP _ v (aU _) hv i;have lZ:=eu p
 have iz:∀ e vc ic,e<=p.length->getV ND (p.drop e) vc ic=match p[e]? with | none=>some (vc,ic) | some s=>match stepV ND vc ic s with | none=>none | some (_,x,j)=>getV ND (p.drop (e + 1)) x j:=fun e vc ic he=>by
  cases hs:p[e]? with
  | none=>rw [List.drop_eq_nil_of_le (List.getElem?_eq_none_iff.1 hs)];all_goals rfl
  | some s=>
   obtain ⟨h1,h2⟩:=List.getElem?_eq_some_iff.1 hs;rw [List.drop_eq_getElem_cons h1,h2,getV];all_goals rfl
 generalize hR:(if fitV ND v i=true then getV ND p v i else none)=R;have hvq:dVal v=dVal v:=rfl;generalize hvV:v=V at *;obtain ⟨q,z,s,ks⟩:=V;refine eG 48 [.cell 8 34,.tmp 9,.tmp 10] func17 rfl ntmps17 rfl fun _ _ _ _=>?_;refine cP MO nI ?_;refine br ?_ ?_<;>intro c
 ·have c:fitV ND (.mk q z s ks) i=false:=sU c;rw [c] at hR;subst hR;exact ⟨_,ax,rfl⟩
 have c:fitV ND (.mk q z s ks) i=true:=sU c;rw [ai c] at hR;refine bA (fun j st=>∃ (e:Nat) (vc:Val) (ic:Int),st=aaN PC p vc ic e/\e<=p.length/\getV ND (p.drop e) vc ic=R/\fitV ND vc ic=true/\vc.wt<=1099511627776/\j=p.length - e) p.length (aaN PC p (.mk q z s ks) i 0) (aq 2 rfl pO rfl rfl rfl lX) ⟨0,_,_,rfl,by omega,hR,c,hv,by omega⟩ ?_;rintro _ st ⟨e,vc,ic,rfl,he,hg,hfc,hvc,rfl⟩;have iz:=iz e vc ic he;rw [hg] at iz;refine br ?_ ?_<;>intro hL
 ·have au:e < p.length:=sV lZ hL;obtain ⟨y,hy⟩:=gX au;rw [hy] at iz;simp only at iz;have hk:=PA hP hvc hfc y;have hsf:=@Pz _ _ hP.ok vc ic hfc y;have hss:=@ze ND vc ic y;generalize stepV ND vc ic y=o at hk iz hsf hss;obtain ⟨yk,yn,ys⟩:=y;obtain ⟨ck,cn,cs,cks⟩:=vc;refine iX (dW hy) ?_;refine cP en57 hk ?_
  cases o with
  | none=>
   simp only at iz;subst iz;exact ⟨_,ax,rfl⟩
  | some o=>
   obtain ⟨e2,x,j⟩:=o;obtain ⟨d,_,_,hx,_⟩:=hss rfl;have hxf:=hsf rfl;simp only [Val.ks] at hx;have TB:=jR (mG hx);rw [Val.wt] at hvc;simp only at iz;refine iX (by simpa using iv hx) ?_;obtain ⟨xk,xn,xs,xl⟩:=x;exact ⟨aaN PC p (.mk xk xn xs xl) j (e + 1),(aq 2 rfl (nF (aK au (by omega))) rfl rfl rfl (dy (aK au (by omega)))),p.length - (e + 1),by omega,e + 1,_,_,rfl,by omega,iz.symm,hxf,by omega,rfl⟩
 ·have aS:e=p.length:=sW lZ hL;have:p[e]? = none:=cQ (by omega);rw [this] at iz;simp only at iz;subst iz;have hw:=zg _ vc (aU _) hvc;obtain ⟨ck,cn,cs,cks⟩:=vc;refine cP XY hw ?_;exact ⟨_,ax,rfl⟩
theorem uv {α:Type} {c:Nat} {x:List α}:∀ {l:List (List α)} {e:Nat},(∀ y∈l,y.length=c)->e < l.length->(l.set e x).flatten=l.flatten.take (e * c) ++ x ++ l.flatten.drop (e * c + c)
 | [],e,_,h=>by simp at h
 | y :: r,0,hl,h=>by
  have hy:=hl y (by simp);subst hy;simp
 | y :: r,e + 1,hl,h=>by
  have hy:=hl y (by simp);have ih:=uv (x:=x) (l:=r) (e:=e) (fun z hz=>hl z (by simp [hz])) (sU h);have h1:(e + 1) * c=y.length + e * c:=by rw [hy,Nat.add_mul,Nat.one_mul,Nat.add_comm]
  have h2:(e + 1) * c + c=y.length + (e * c + c):=by rw [h1];omega
  rw [List.set_cons_succ,List.flatten_cons,List.flatten_cons,ih,h2,h1,List.take_length_add_append,List.drop_length_add_append];simp
theorem iy:∀ (l:List Val),∀ x∈dVals l,x.length=4
 | [],x,h=>by simp [dVals] at h
 | .mk _ _ _ _ :: r,x,h=>by
  rw [dVals] at h;rcases bL h with h | h
  ·rw [h];all_goals rfl
  ·exact iy r x h
theorem BQ (l:List Val) (e:Nat) (y:Val):dVals (l.set e y)=(dVals l).set e (dVal y):=by rw [bY,bY,List.map_set]
def Ds (v:Val) (r:DV) (cG:List TkE):Prop:=
 (r = .agg ([.v (.int .i64 v.k),.v (.int .i64 v.n),.v (.string v.s)] ++ [.sl 0 (List.replicate v.ks.length []) (some 0)])/\cG=[⟨v.ks.length,34,4,some (dVals v.ks).flatten⟩])∨(v.ks=[]/\r = .agg (dVal v)/\cG=[])
theorem Dt {P:Program} {f:FuncId} {args:List DV} {v:Val} (hc:WU P f args [] [] (fun r _ cG=>Ds v r cG)):aV P f args (.agg (dVal v)):=by
 intro E w vs Sg lg hv;refine (hc E w vs Sg lg hv).mono ?_;rintro ex w' ⟨x,rfl,h⟩;obtain ⟨k,n,s,ks⟩:=v;rcases Sh h with h | h
 ·exact ⟨x,rfl,Px (l:=[.v (.int .i64 k),.v (.int .i64 n),.v (.string s)]) Sg lg (by simp) (iy ks) (bV ks) List.length_replicate h⟩
 ·refine ⟨x,rfl,LI lg (LJ h fun r o t ht=>ht.2)⟩
section
variable (PC:List DV) (ND:List Nd) (D:List Nat) (K:List Bool) (sz ot:List Nat) {L:Nat}
abbrev PB (n:Nd) (cs:List DV) (e:Nat):St:=
 ⟨[(0,⟨[],.pt (nj PC ND D K sz ot) 0⟩),(4,⟨[],.loc 0 0⟩),(6,⟨[],.loc 2 0⟩),(30,⟨[],.sl 10 (cJ n.ap) none⟩),(31,⟨[],.v (.int .i64 (cJ n.ap).length)⟩),(32,⟨[],.v (.int .i64 e)⟩)],[zf,gG n,[.v (.int .i64 7),.v (.int .i64 0),.v (.string .empty),.sl 0 (List.replicate e []) (some 0)]],[⟨e,34,4,some cs⟩]⟩
theorem one_f (hO:gv ND D) (bw:∀ n∈ND,cz L ND.length n) (bT:∀ n∈ND,n.ap.length<=1099511627776):∀ (f i:Nat),i < ND.length->0 < D.getD i 0->D.getD i 0<=f->WU prog 78 [.pt (nj PC ND D K sz ot) 0,.v (.int .i64 i)] [] [] (fun r _ cG=>Ds (firstV ND D f i) r cG)
 | 0,i,_,h0,h1=>by omega
 | f + 1,i,hi,h0,h1=>by
  have ih:=fun j hj h0 h1=>Dt (one_f hO bw bT f j hj h0 h1);obtain ⟨n,hn⟩:∃ n,ND[i]? = some n:=⟨_,gE hi⟩;have ie:=mG hn;have hN:=bw n ie;have wS:=hO.T7 hn h0;have DK:=hO.Pf hn h0;have z6:=choose_spec PC ND D K sz ot hO.len hN (bT n ie);have ef:=bT n ie;have aZ:=hN.fJ;have cY:=hN.bare
  have hF:firstV ND D (f + 1) i=if n.ag=2 then dc 2 n.lo
   else if n.ag=7 then .mk 7 0 az (n.ap.map fun e=>firstV ND D f e.to.toNat)
   else if n.ag=8 then (match bG D n.ap with | some c=>tagV (firstV ND D f) n.ap c | none=>dc 8 0)
   else dc n.ag 0:=by rw [firstV,hn];all_goals rfl
  generalize firstV ND D (f + 1) i=F at hF;generalize D.getD i 0=di at wS DK h1;obtain ⟨ag,ba,lo,eo,most,af,es⟩:=n;simp only at wS DK z6 aZ ef hF cY;have bJ:=aW es;refine vT (s:=false) (bt:=[]) (mu:=[65]) (hbt:=fun p hp=>by cases hp) (fr:=true) (P:=prog) tt Ax 5000 68 [.cell 4 34] func78 rfl ntmps78 rfl (nL rfl) (fun _ _ _ _=>?_);refine iX (bB hn) ?_;refine br ?_ ?_<;>intro c2
  ·have c2:ag=2:=sU c2;rw [ai c2] at hF;have hΦ:Ds F (.agg (dVal (dc ag lo))) []:=by rw [hF,c2];exact .inr ⟨rfl,rfl,rfl⟩
   exact ⟨.agg (dVal (dc ag lo)),[],ax,rfl,hΦ⟩
  have c2:¬ ag=2:=sU c2;rw [ah c2] at hF;refine br ?_ ?_<;>intro c7
  ·have c7:ag=7:=sU c7;rw [ai c7] at hF;have wS:=wS c7;refine lI (fun j st=>∃ (e:Nat) (cs:List DV),st=PB PC ND D K sz ot ⟨ag,ba,lo,eo,most,af,es⟩ cs e/\cs=(dVals ((es.take e).map fun e=>firstV ND D f e.to.toNat)).flatten/\e<=es.length/\j=es.length - e) ⟨0,[],rfl,rfl,by omega,rfl⟩ (cW 3 ⟨0,34,4,some []⟩ rfl rfl rfl (nF c7) rfl rfl (dy c7)) ?_;rintro j st ⟨e,cs,rfl,dw,he,rfl⟩;refine br ?_ ?_<;>intro hL
   ·have au:e < es.length:=sV bJ hL;obtain ⟨x,hx⟩:=gX au;obtain ⟨zC,hx1⟩:=wS x (mG hx)
    have j7:x.bare=false:=by
     cases hb:x.bare with
     | false=>rfl
     | true=>have:=cY x (mG hx) hb;omega
    obtain ⟨k,hk,ej⟩:=(aZ x (mG hx)).to1 j7;have V4:bZ D x=D.getD k 0:=by unfold bZ;rw [hk,dq]
    have hone:=ih k ej (by omega) (by omega)
    have du:(dVals ((es.take (e + 1)).map fun e=>firstV ND D f e.to.toNat)).flatten=cs ++ dVal (firstV ND D f k):=by
     rw [dw,dJ hx,List.map_append,bY,bY];simp [hk]
    generalize firstV ND D f k=u at hone du;obtain ⟨uk,un,us,ul⟩:=u;obtain ⟨en,eb,ea,et,r8,ew,ug,ui,uj,um⟩:=x;simp only at hk;subst hk;refine iX (aF hx) ?_;refine dS ?_;refine cD xi hone ?_;refine ⟨⟨⟨List.length_replicate,by simp⟩,by simp [maxLen];omega,by simp;omega⟩,?_⟩;exact ⟨PB PC ND D K sz ot ⟨ag,ba,lo,eo,most,af,es⟩ _ (e + 1),(aq 3 rfl (nF (aK au (by omega))) rfl rfl rfl (dy (aK au (by omega)))),es.length - (e + 1),by omega,e + 1,_,rfl,du.symm,by omega,rfl⟩
   ·have aS:e=es.length:=sW bJ hL;subst aS;rw [List.take_length] at dw
    have hΦ:Ds F (.agg [.v (.int .i64 7),.v (.int .i64 0),.v (.string .empty),.sl 0 (List.replicate es.length []) (some 0)]) [⟨es.length,34,4,some cs⟩]:=by
     rw [hF,dw];refine .inl ⟨?_,?_⟩
     ·simp [Val.k,Val.n,Val.s,Val.ks];rfl
     ·simp [Val.ks]
    exact ⟨.agg [.v (.int .i64 7),.v (.int .i64 0),.v (.string .empty),.sl 0 (List.replicate es.length []) (some 0)],[],mv,rfl,hΦ⟩
  have c7:¬ ag=7:=sU c7;rw [ah c7] at hF;refine br ?_ ?_<;>intro c8
  ·have c8:ag=8:=sU c8;subst c8;obtain ⟨c,x,hc,hx,hp⟩:=DK rfl;rw [ai rfl,hc] at hF;rw [hc] at z6;refine cP Jg z6 ?_;refine ⟨_,⟨cp _,aF hx⟩,?_⟩;refine br ?_ ?_<;>intro cb
   ·have cb:x.bare=false:=sU cb;obtain ⟨zC,hx1⟩:=hp cb;obtain ⟨k,hk,ej⟩:=(aZ x (mG hx)).to1 cb;have V4:bZ D x=D.getD k 0:=by unfold bZ;rw [hk,dq]
    have hone:=ih k ej (by omega) (by omega);have hF2:F = .mk 8 c az [firstV ND D f k]:=by rw [hF];simp only [tagV,hx,cb];rw [hk];all_goals rfl
    generalize firstV ND D f k=u at hone hF2;obtain ⟨uk,un,us,ul⟩:=u;obtain ⟨en,eb,ea,et,r8,ew,ug,ui,uj,um⟩:=x;simp only at hk;subst hk;refine cP xi hone ?_;refine Sf rfl rfl rfl rfl rfl rfl (hk:=?_)
    have hΦ:Ds F (.agg [.v (.int .i64 8),.v (.int .i64 (c:Nat)),.v (.string .empty),.sl 0 (List.replicate 1 []) (some 0)]) [⟨1,34,4,some (dVal (.mk uk un us ul) ++ [])⟩]:=by
     rw [hF2];exact .inl ⟨rfl,rfl⟩
    exact ⟨.agg [.v (.int .i64 8),.v (.int .i64 (c:Nat)),.v (.string .empty),.sl 0 (List.replicate 1 []) (some 0)],[],mv,rfl,hΦ⟩
   ·have cb:x.bare=true:=sU cb
    have hΦ:Ds F (.agg (dVal (dc 8 c))) []:=by
     rw [hF];simp only [tagV,hx,cb,if_true];exact .inr ⟨rfl,rfl,rfl⟩
    exact ⟨.agg (dVal (dc 8 c)),[],ax,rfl,hΦ⟩
  ·have c8:¬ ag=8:=sU c8;rw [ah c8] at hF;have hΦ:Ds F (.agg (dVal (dc ag 0))) []:=by rw [hF];exact .inr ⟨rfl,rfl,rfl⟩
   exact ⟨.agg (dVal (dc ag 0)),[],ax,rfl,hΦ⟩
end
theorem nr {D:List Nat} {e:Ed} (h:dN D e=true) (hb:e.bare=false):0 < bZ D e:=by
 unfold dN at h;rw [hb,Bool.false_or] at h;exact of_decide_eq_true h
theorem fstV_eq {ND:List Nd} {D:List Nat} (h:gv ND D) {i:Nat} {n:Nd} (hn:ND[i]? = some n) (h0:0 < D.getD i 0):bc ND D i=if n.ag=2 then dc 2 n.lo
   else if n.ag=7 then .mk 7 0 az (n.ap.map fun e=>bc ND D e.to.toNat)
   else if n.ag=8 then (match bG D n.ap with | some c=>tagV (bc ND D) n.ap c | none=>dc 8 0)
   else dc n.ag 0:=by
 obtain ⟨d,hd⟩:∃ d,D.getD i 0=d + 1:=⟨D.getD i 0 - 1,by omega⟩;rw [<- qK h h0 (aU _),hd,firstV,hn];simp only;split
 ·rfl
 ·split
  ·rename_i h7;refine congrArg (Val.mk 7 0 az) (List.map_congr_left fun e he=>?_);obtain ⟨h2,h3⟩:=h.T7 hn h0 h7 e he;exact qK h h2 (by unfold bZ at h3;omega)
  ·split
   ·rename_i h8;obtain ⟨c,e,hc,he,hp⟩:=h.Pf hn h0 h8;rw [hc];refine y9 fun e' qj hb=>?_;rw [he] at qj;cases qj;obtain ⟨h2,h3⟩:=hp hb;exact qK h h2 (by unfold bZ at h3;omega)
   ·rfl
section
variable (PC:List DV) (ND:List Nd) (D:List Nat) (K:List Bool) (sz T:List Nat) {L:Nat}
theorem F2 (hO:gv ND D) (bw:∀ n∈ND,cz L ND.length n) (bT:∀ n∈ND,n.ap.length<=1099511627776) (hrn:∀ n∈ND,n.ag=2 -> -9223372036854775808<=n.lo/\n.hi<=9223372036854775807) (Ws:K.length=ND.length) (hKs:∀ i n,ND[i]? = some n->K.getD i false=true->ei n D K=true)
  (hT:∀ i,T.getD i 0≠0->∃ n,ND[i]? = some n/\K.getD i false=true/\T.getD i 0=othE T (ed sz D K n)):∀ (f i:Nat),T.getD i 0≠0->T.getD i 0<=f->T.getD i 0 < 4097->aV prog 79 [.pt (nj PC ND D K sz T) 0,.v (.int .i64 i)] (.agg (dVal (aY ND D K f i)))
 | 0,i,h0,h1,_=>by omega
 | f + 1,i,h0,h1,h2=>by
  obtain ⟨n,hn,hKi,hv⟩:=hT i h0;have hi:=(gS hn).1;have ie:=mG hn;have hN:=bw n ie;have pH:=hKs i n hn hKi;have zh:=oN hN pH;have T9:0 < D.getD i 0:=by rw [hO.get i n hn];exact oL hN pH
  have hone:=fun k hk hp=>one_f PC ND D K sz T hO bw bT ND.length k hk hp (hO.le k)
  have F3:∀ s j,1<=s->T.getD i 0=othE T (s,some j)->aV prog 79 [.pt (nj PC ND D K sz T) 0,.v (.int .i64 j)] (.agg (dVal (aY ND D K f j))):=fun s j hs h=>by
   have sY:T.getD j 0≠0:=fun hj=>h0 (by rw [h];simp only [othE];rw [ai hj])
   have au:T.getD j 0 < T.getD i 0:=by
    have h':=h;simp only [othE] at h';rw [ah sY] at h';unfold bf at h';omega
   exact F2 hO bw bT hrn Ws hKs hT f j sY (by omega) (by omega)
  have z6:=choose_spec PC ND D K sz T hO.len hN (bT n ie);have GI:=y4 PC ND D K sz T hO.len hN (bT n ie);have Pm:=fun h=>pX PC ND D K sz T Ws hN h (bT n ie);have DK:=hO.Pf hn T9;have ef:=bT n ie;have aZ:=hN.fJ;have cY:=hN.bare;have zi:=hN.one;have hp:=FJ sz D K n;have hF:aY ND D K (f + 1) i=oM (bc ND D) (aY ND D K f) D K n:=by rw [aY,hn]
  have hF1:=fstV_eq hO hn T9;have sf:=hone i hi T9;rw [show firstV ND D ND.length i=bc ND D i from rfl,hF1] at sf
  have si:∀ {x:Ed},x∈n.ap->x.bare=false->0 < bZ D x->∃ k:Nat,x.to=k/\k < ND.length/\aV prog 78 [.pt (nj PC ND D K sz T) 0,.v (.int .i64 k)] (.agg (dVal (bc ND D k))):=fun {x} hx hb h=>by
   obtain ⟨k,hk,ej⟩:=(aZ x hx).to1 hb;exact ⟨k,hk,ej,Dt (hone k ej (by unfold bZ at h;rw [hk,dq] at h;exact h))⟩
  rw [hF];clear hF hF1;obtain ⟨ag,ba,lo,eo,most,af,es⟩:=n;simp only at hv DK z6 GI Pm ef aZ cY zi sf si;have h7:=zh.c7;have h8:=zh.c8;simp only at h7 h8;refine eG 105 [.cell 4 34] func79 rfl ntmps79 rfl fun _ _ _ _=>?_;refine iX (bB hn) ?_;refine br ?_ ?_<;>intro c2
  ·have c2:ag=2:=sU c2;subst c2;have hlo:lo < eo:=by simpa [ei] using pH
   have hr:=hrn _ ie rfl;simp only at hr;have hw:IntKind.i64.wrap (lo + 1)=lo + 1:=wrap64 (by omega) (by omega);exact ⟨.agg (dVal (dc 2 (lo + 1))),(gU hw),rfl⟩
  have c2:¬ ag=2:=sU c2;refine br ?_ ?_<;>intro c3
  ·have c3:ag=3:=sU c3;subst c3;exact ⟨.agg (dVal (.mk 3 0 ⟨#[97]⟩ [])),ax,rfl⟩
  have c3:¬ ag=3:=sU c3;refine br (fun d5=>?_) (fun c5=>?_)
  ·have c5:ag=5:=sU d5;subst c5;obtain ⟨x,hx,j7,_⟩:=zi (.inl rfl);subst hx
   have r6:dN D x=true:=by
    cases h:dN D x with
    | true=>rfl
    | false=>simp [ei,manyN,h] at pH
   obtain ⟨k,hk,ej,F4⟩:=si List.mem_cons_self j7 (nr r6 j7)
   have hG:oM (bc ND D) (aY ND D K f) D K ⟨5,ba,lo,eo,most,af,[x]⟩ = .mk 5 0 az [bc ND D k]:=by
    show Val.mk 5 0 az [bc ND D x.to.toNat]=_;rw [hk,dq]
   rw [hG];generalize bc ND D k=u at F4;obtain ⟨uk,un,us,ul⟩:=u;obtain ⟨en,eb,ea,et,r8,ew,ug,ui,uj,um⟩:=x;simp only at hk;subst hk;refine ⟨_,⟨by omega,rfl⟩,?_⟩;refine cP xi F4 ?_;exact ⟨.agg (dVal (.mk 5 0 az [.mk uk un us ul])),ax,rfl⟩
  have c5:¬ ag=5:=sU c5;refine br ?_ ?_<;>intro c6
  ·have c6:ag=6:=sU c6;subst c6;obtain ⟨x,hx,j7,_⟩:=zi (.inr rfl);subst hx
   have r6:dN D x=true:=by
    cases h:dN D x with
    | true=>rfl
    | false=>simp [ei,manyN,h] at pH
   obtain ⟨k,hk,ej,F4⟩:=si List.mem_cons_self j7 (nr r6 j7)
   have hG:oM (bc ND D) (aY ND D K f) D K ⟨6,ba,lo,eo,most,af,[x]⟩ = .mk 6 0 az [bc ND D k]:=by
    show Val.mk 6 0 az [bc ND D x.to.toNat]=_;rw [hk,dq]
   rw [hG];generalize bc ND D k=u at F4;obtain ⟨uk,un,us,ul⟩:=u;obtain ⟨en,eb,ea,et,r8,ew,ug,ui,uj,um⟩:=x;simp only at hk;subst hk;refine ⟨_,⟨by omega,rfl⟩,?_⟩;refine cP xi F4 ?_;exact ⟨.agg (dVal (.mk 6 0 az [.mk uk un us ul])),ax,rfl⟩
  have c6:¬ ag=6:=sU c6;refine br ?_ ?_<;>intro c7
  ·have c7:ag=7:=sU c7;subst c7;have Pm:=Pm rfl;obtain ⟨c,x,hc,hx,j7⟩:=h7 rfl;rw [hc] at Pm;rw [show ed sz D K ⟨7,ba,lo,eo,most,af,es⟩=(sumX sz c es 0 1,some x.to.toNat) by simp [ed,hc,hx]] at hv;have htwo:=F3 _ _ (kj (by omega)) hv;obtain ⟨k,hk,ej⟩:=(aZ x (mG hx)).to1 j7;have eK:=(gS hx).1
   have hG:oM (bc ND D) (aY ND D K f) D K ⟨7,ba,lo,eo,most,af,es⟩ = .mk 7 0 az ((es.map fun e=>bc ND D e.to.toNat).set c (aY ND D K f k)):=by
    show (match vJ K es with | some c=>(match es[c]? with | some e=>Val.mk 7 0 az ((es.map fun e:Ed=>bc ND D e.to.toNat).set c (aY ND D K f e.to.toNat)) | none=>dc 7 0) | none=>dc 7 0)=_;rw [hc];simp only [hx];rw [hk,dq]
   rw [hG];rw [hk,dq] at htwo;have Ua:WU prog 78 [.pt (nj PC ND D K sz T) 0,.v (.int .i64 i)] [] [] (fun r _ cG=>Ds (.mk 7 0 az (es.map fun e=>bc ND D e.to.toNat)) r cG):=sf;have ej:(es.map fun e=>bc ND D e.to.toNat).length=es.length:=List.length_map _;generalize (es.map fun e=>bc ND D e.to.toNat)=ks at Ua ej;generalize aY ND D K f k=u at htwo;have F5:=uv (x:=dVal u) (iy ks) (e:=c) (by rw [bV];omega);rw [<- BQ] at F5;have GS:=iy (ks.set c u);have nQ:(dVals (ks.set c u)).length=ks.length:=by rw [bV,List.length_set]
   obtain ⟨uk,un,us,ul⟩:=u;obtain ⟨en,eb,ea,et,r8,ew,ug,ui,uj,um⟩:=x;simp only at hk;subst hk;refine Pw xi rfl Ua ax (fun r1 cG hr=>?_);rcases hr with ⟨rfl,rfl⟩ | ⟨h,_⟩
   ·refine cP SY Pm ?_;refine dS ?_;refine ⟨_,⟨cp _,aF hx⟩,?_⟩;refine BO (e:=4) (es:=List.replicate ks.length []) (m:=ks.length) QQ rfl htwo ax ⟨rfl,rfl,rfl⟩ ⟨rfl,rfl,rfl⟩ rfl rfl rfl rfl rfl rfl (by decide) rfl rfl rfl List.length_replicate ⟨cp _,by show (c:Int) < _;omega⟩ rfl ?_;refine ⟨_,HA (j:=2) (o:=3) (k:=0) (ty:=34) (e:=4) (ocs:=[.v (.int .i64 7),.v (.int .i64 0),.v (.string az),.sl 0 (List.replicate ks.length []) (some 0)]) (n:=ks.length) (es:=List.replicate ks.length []) (ns:=dVals (ks.set c (.mk uk un us ul))) ?_ GS nQ rfl rfl List.length_replicate,?_⟩
    ·rw [F5];rfl
    ·exact ⟨.agg (dVal (.mk 7 0 az (ks.set c (.mk uk un us ul)))),ax,rfl⟩
   ·have h:ks=[]:=h;rw [h] at ej;simp only [List.length_nil] at ej;omega
  have c7:¬ ag=7:=sU c7;refine br ?_ ?_<;>intro c8
  ·have c8:ag=8:=sU c8;subst c8
   cases ht:iZ D es with
   | some c=>
    rw [ht] at GI;obtain ⟨x,hx,r6⟩:=mi ht
    have hG:oM (bc ND D) (aY ND D K f) D K ⟨8,ba,lo,eo,most,af,es⟩=tagV (bc ND D) es c:=by
     show (match iZ D es with | some c=>tagV (bc ND D) es c | none=>(match bG D es with | some c=>(match es[c]? with | some e=>Val.mk 8 c az [aY ND D K f e.to.toNat] | none=>dc 8 c) | none=>dc 8 0))=_;rw [ht]
    rw [hG];refine cP MW GI ?_;refine ⟨_,⟨cp _,aF hx⟩,?_⟩;refine br ?_ ?_<;>intro cb
    ·have cb:x.bare=false:=sU cb;obtain ⟨k,hk,ej,F4⟩:=si (mG hx) cb (nr r6 cb);rw [show tagV (bc ND D) es c = .mk 8 c az [bc ND D k] by simp only [tagV,hx,cb];rw [hk];rfl];generalize bc ND D k=u at F4;obtain ⟨uk,un,us,ul⟩:=u;obtain ⟨en,eb,ea,et,r8,ew,ug,ui,uj,um⟩:=x;simp only at hk;subst hk;refine cP xi F4 ?_;exact ⟨.agg (dVal (.mk 8 c az [.mk uk un us ul])),ax,rfl⟩
    ·have cb:x.bare=true:=sU cb;rw [show tagV (bc ND D) es c=dc 8 c by simp only [tagV,hx,cb];rfl];exact ⟨.agg (dVal (dc 8 c)),ax,rfl⟩
   | none=>
    rw [ht] at GI;obtain ⟨c,x,hc,hx,j7⟩:=h8 rfl ht;rw [show ed sz D K ⟨8,ba,lo,eo,most,af,es⟩=(1,some x.to.toNat) by simp [ed,ht,hc,hx]] at hv;have htwo:=F3 _ _ (aU 1) hv;obtain ⟨k,hk,ej⟩:=(aZ x (mG hx)).to1 j7
    have hG:oM (bc ND D) (aY ND D K f) D K ⟨8,ba,lo,eo,most,af,es⟩ = .mk 8 c az [aY ND D K f k]:=by
     show (match iZ D es with | some c=>tagV (bc ND D) es c | none=>(match bG D es with | some c=>(match es[c]? with | some e=>Val.mk 8 c az [aY ND D K f e.to.toNat] | none=>dc 8 c) | none=>dc 8 0))=_;rw [ht];simp only [hc,hx];rw [hk,dq]
    rw [hG];rw [hk,dq] at htwo;have F6:WU prog 78 [.pt (nj PC ND D K sz T) 0,.v (.int .i64 i)] [] [] (fun r _ cG=>Ds (match bG D es with | some c=>tagV (bc ND D) es c | none=>dc 8 0) r cG):=sf;rw [hc] at F6;simp only at F6;rw [show tagV (bc ND D) es c = .mk 8 c az [bc ND D k] by simp only [tagV,hx,j7];rw [hk];rfl] at F6;generalize bc ND D k=u0 at F6;generalize aY ND D K f k=u at htwo;have F5:=uv (x:=dVal u) (iy [u0]) (e:=0) (by rw [bV];simp);rw [<- BQ] at F5;have GS:=iy ([u0].set 0 u);have nQ:(dVals ([u0].set 0 u)).length=1:=by rw [bV,List.length_set];all_goals rfl
    obtain ⟨uk,un,us,ul⟩:=u;obtain ⟨en,eb,ea,et,r8,ew,ug,ui,uj,um⟩:=x;simp only at hk;subst hk;refine cP MW GI ?_;refine Pw xi rfl F6 ax (fun r1 cG hr=>?_);rcases hr with ⟨rfl,rfl⟩ | ⟨h,_⟩
    ·refine dS ?_;refine ⟨_,⟨cp _,aF hx⟩,?_⟩;refine BO (e:=4) (es:=List.replicate 1 []) (m:=1) QQ rfl htwo ax ⟨rfl,rfl,rfl⟩ ⟨rfl,rfl,rfl⟩ rfl rfl rfl rfl rfl rfl (by decide) rfl rfl rfl List.length_replicate ⟨by omega,by omega⟩ rfl ?_;refine ⟨_,HA (j:=2) (o:=3) (k:=0) (ty:=34) (e:=4) (ocs:=[.v (.int .i64 8),.v (.int .i64 (c:Nat)),.v (.string az),.sl 0 (List.replicate 1 []) (some 0)]) (n:=1) (es:=List.replicate 1 []) (ns:=dVals ([u0].set 0 (.mk uk un us ul))) ?_ GS nQ rfl rfl List.length_replicate,?_⟩
     ·rw [F5];rfl
     ·exact ⟨.agg (dVal (.mk 8 c az [.mk uk un us ul])),ax,rfl⟩
    ·have h : [u0]=[]:=h;cases h
  ·have c8:¬ ag=8:=sU c8
   have hG:oM (bc ND D) (aY ND D K f) D K ⟨ag,ba,lo,eo,most,af,es⟩=dc ag 1:=by
    unfold oM;simp only;rw [ah c2,ah c3,ah (by omega),ah c7,ah c8]
   rw [hG];exact ⟨.agg (dVal (dc ag 1)),ax,rfl⟩
end
def pK (l:List Nat) (i:Int):Bool:=decide (0<=i) && (decide (0 < l.getD i.toNat 0) && decide (l.getD i.toNat 0 < 4097))
theorem py {l:List Nat} {i:Int}:pK l i=true↔∃ j:Nat,i=j/\l.getD j 0≠0/\l.getD j 0 < 4097:=by
 unfold pK;rw [aQ,aQ];constructor
 ·rintro ⟨h1,h2,h3⟩;have h1:=of_decide_eq_true h1;have h2:=of_decide_eq_true h2;exact ⟨i.toNat,by omega,by omega,of_decide_eq_true h3⟩
 ·rintro ⟨j,rfl,h2,h3⟩;rw [dq];exact ⟨decide_eq_true (by omega),decide_eq_true (by omega),decide_eq_true h3⟩
theorem nu (l:List Nat) (i:Int) (hl:l.length<=1099511627776):aV prog 77 [.sl 1 (dInts l) none,.v (.int .i64 i)] (.v (.bool (pK l i))):=by
 have bJ:=bi l;by_cases h:0<=i/\i < l.length
 ·obtain ⟨j,rfl⟩:∃ j:Nat,i=j:=⟨i.toNat,by omega⟩;obtain ⟨z,hz⟩:∃ z,l[j]? = some z:=⟨_,gE (by omega)⟩
  have hE:pK l j=(decide (0 < z) && decide (z < 4097)):=by
   unfold pK;rw [dq,aH,hz,decide_eq_true (by omega),Bool.true_and];rfl
  rw [hE];refine eG 27 [.tmp 4] func77 rfl ntmps77 rfl fun _ _ _ _=>?_;refine br ?_ ?_<;>intro c
  ·refine ⟨_,⟨cp _,aG hz⟩,?_⟩;refine br ?_ ?_<;>intro c2
   ·have c2:0 < z:=by simpa [lastG,pickB] using c2
    refine ⟨_,⟨cp _,aG hz⟩,?_⟩;refine (congrArg (fun b=>DV.v (.bool b)) ?_:_=_);rw [decide_eq_true c2];simp [pickB];omega
   ·have c2:¬ 0 < z:=by simpa [lastG,pickB] using c2
    refine (congrArg (fun b=>DV.v (.bool b)) ?_:_=_);rw [decide_eq_false c2];simp [pickB]
  ·exfalso;have:(j:Int) < l.length:=by omega
   simp [bJ,aw] at c;omega
 ·have hE:pK l i=false:=by
   cases hk:pK l i with
   | false=>rfl
   | true=>
    obtain ⟨j,rfl,h2,_⟩:=py.1 hk;rw [aH,cQ (by omega)] at h2;exact (h2 rfl).elim
  rw [hE];refine eG 27 [.tmp 4] func77 rfl ntmps77 rfl fun _ _ _ _=>?_;refine br ?_ ?_<;>intro c
  ·exfalso;simp [bJ,aw] at c;omega
  ·exact (rfl:_=_)
theorem zj {ND:List Nd} {D:List Nat} (h:gv ND D) {j:Nat} (h0:0 < D.getD j 0):j < ND.length:=by
 rcases Nat.lt_or_ge j ND.length with h1 | h1
 ·exact h1
 ·rw [aH,cQ (by rw [h.len];exact h1)] at h0;simp at h0
abbrev aM (ND:List Nd):List Nat:=depN ND ND.length
abbrev eV (ND:List Nd):List Bool:=fq ND (aM ND)
abbrev bh (ND:List Nd):List Nat:=kk ND (aM ND)
abbrev ee (ND:List Nd):List Nat:=Qi (bh ND) (aM ND) (eV ND) ND
theorem uw {S:Sch} {ND:List Nd} {PC:List DV} (hP:eZ S ND PC) (sz ot:List Nat) (K:List Bool) {j:Nat} (h:(bh ND).getD j 0≠0):aV prog 78 [.pt (nj PC ND (aM ND) K sz ot) 0,.v (.int .i64 j)] (.agg (dVal (bc ND (aM ND) j))):=by
 have h0:=(lC (eH ND)).1.1 (Nat.pos_of_ne_zero h);exact Dt (one_f PC ND (aM ND) K sz ot (eH ND) hP.ok hP.Iw ND.length j (zj (eH ND) h0) h0 ((eH ND).le j))
theorem zk {ND:List Nd} {i:Nat} {n:Nd} (hn:ND[i]? = some n) (h:(eV ND).getD i false=true):ei n (aM ND) (eV ND)=true:=by
 have h:(fq ND (aM ND)).getD i false=true:=h;rw [<- oK,aH,List.getElem?_map,hn] at h;exact h
theorem BR {S:Sch} {ND:List Nd} {PC:List DV} (hP:eZ S ND PC) (hrn:∀ n∈ND,n.ag=2 -> -9223372036854775808<=n.lo/\n.hi<=9223372036854775807) {j:Nat} (h:(ee ND).getD j 0≠0) (h2:(ee ND).getD j 0 < 4097) :
  aV prog 79 [.pt (nj PC ND (aM ND) (eV ND) (bh ND) (ee ND)) 0,.v (.int .i64 j)] (.agg (dVal (pJ ND (aM ND) (eV ND) j))):=
 F2 PC ND (aM ND) (eV ND) (bh ND) (ee ND) (eH ND) hP.ok hP.Iw hrn (iO ND _ _) (fun i n hn h=>zk hn h) (fun i h=>Dl h) 4096 j h (by omega) h2
theorem F7 {S:Sch} {ND:List Nd} {PC:List DV} (hP:eZ S ND PC) (i:Int) :
  aV prog 32 [.pt PC 0,.v (.int .i64 i)] (.tup [.agg (dVal (if pK (bh ND) i=true then bc ND (aM ND) i.toNat else zeroV)),.v (.bool (pK (bh ND) i))]):=by
 have hm:=nq PC ND hP;have fo:=hP.nl;have hf:=nu (bh ND) i (by rw [np];exact fo);have hone:=fun (j:Nat) h=>uw hP (bh ND) (ee ND) (eV ND) (j:=j) h
 cases hk:pK (bh ND) i with
 | false=>
  rw [hk] at hf;refine eG 20 [.cell 4 34,.tmp 5] func32 rfl ntmps32 rfl fun _ _ _ _=>?_;refine cP xg hm ?_;refine cP Cs hf ?_;exact ⟨.tup [.agg (dVal zeroV),.v (.bool false)],ax,rfl⟩
 | true=>
  rw [hk] at hf;obtain ⟨j,rfl,h1,h2⟩:=py.1 hk;have hone:=hone j h1;rw [ai rfl,dq];generalize bc ND (aM ND) j=u at hone;obtain ⟨uk,un,us,ul⟩:=u;refine eG 20 [.cell 4 34,.tmp 5] func32 rfl ntmps32 rfl fun _ _ _ _=>?_;refine cP xg hm ?_;refine cP Cs hf ?_;refine cP xi hone ?_;exact ⟨.tup [.agg (dVal (.mk uk un us ul)),.v (.bool true)],ax,rfl⟩
theorem Du {S:Sch} {ND:List Nd} {PC:List DV} (hP:eZ S ND PC) (hrn:∀ n∈ND,n.ag=2 -> -9223372036854775808<=n.lo/\n.hi<=9223372036854775807) (i:Int) :
  aV prog 33 [.pt PC 0,.v (.int .i64 i)] (.tup [.agg (dVal (if pK (ee ND) i=true then pJ ND (aM ND) (eV ND) i.toNat else zeroV)),.v (.bool (pK (ee ND) i))]):=by
 have hm:=nq PC ND hP;have fo:=hP.nl;have hf:=nu (ee ND) i (by rw [Dk];exact fo);have htwo:=fun (j:Nat) h h2=>BR hP hrn (j:=j) h h2
 cases hk:pK (ee ND) i with
 | false=>
  rw [hk] at hf;refine eG 20 [.cell 4 34,.tmp 5] func33 rfl ntmps33 rfl fun _ _ _ _=>?_;refine cP xg hm ?_;refine cP Cs hf ?_;exact ⟨.tup [.agg (dVal zeroV),.v (.bool false)],ax,rfl⟩
 | true=>
  rw [hk] at hf;obtain ⟨j,rfl,h1,h2⟩:=py.1 hk;have htwo:=htwo j h1 h2;rw [ai rfl,dq];generalize pJ ND (aM ND) (eV ND) j=u at htwo;obtain ⟨uk,un,us,ul⟩:=u;refine eG 20 [.cell 4 34,.tmp 5] func33 rfl ntmps33 rfl fun _ _ _ _=>?_;refine cP xg hm ?_;refine cP Cs hf ?_;refine cP QQ htwo ?_;exact ⟨.tup [.agg (dVal (.mk uk un us ul)),.v (.bool true)],ax,rfl⟩
abbrev mkN:List DV:=[.v (.pointer none),.v (.slice none 0 0),.sl 1 [] none,.sl 1 [] none,.sl 1 [] none,.sl 1 [] none]
abbrev nl1:List DV:=[.v (.pointer none),.v (.slice none 0 0),.sl 1 [] none,.sl 1 [] none,.v (.slice none 0 0),.v (.slice none 0 0)]
abbrev nl2:List DV:=[.v (.pointer none),.v (.slice none 0 0),.sl 1 [] none,.sl 1 [] none,.ms 1 1 0 0 0,.ms 2 1 0 0 0]
abbrev Ub:St:=⟨[(0,⟨[],.v (.pointer none)⟩),(3,⟨[],.loc 0 0⟩),(4,⟨[],.v (.int .i64 0)⟩),(22,⟨[],.v (.int .i64 0)⟩),(23,⟨[],.v (.int .i64 0)⟩)],[nl1],[]⟩
abbrev aaQ (d:Int):St:=⟨[(0,⟨[],.v (.pointer none)⟩),(3,⟨[],.loc 0 0⟩),(65,⟨[],.v (.int .i64 1)⟩),(66,⟨[],.v (.int .i64 d)⟩)],[nl2,[],[]],[]⟩
abbrev Uc (d:Int):St:=⟨[(0,⟨[],.v (.pointer none)⟩),(3,⟨[],.loc 0 0⟩),(65,⟨[],.v (.int .i64 1)⟩),(66,⟨[],.v (.int .i64 d)⟩),(8,⟨[],.v (.int .i64 d)⟩),(72,⟨[],.v (.slice none 0 0)⟩),(73,⟨[],.v (.int .i64 0)⟩),(74,⟨[],.v (.int .i64 0)⟩)],[nl2,[],[]],[]⟩
abbrev Ud (c:Bool):St:=⟨[(0,⟨[],.v (.pointer none)⟩),(3,⟨[],.loc 0 0⟩),(11,⟨[],.v (.bool c)⟩)],[nl2,[],[]],[]⟩
abbrev Ue:St:=⟨[(0,⟨[],.v (.pointer none)⟩),(3,⟨[],.loc 0 0⟩),(11,⟨[],.v (.bool false)⟩),(107,⟨[],.v (.slice none 0 0)⟩),(108,⟨[],.v (.int .i64 0)⟩),(109,⟨[],.v (.int .i64 0)⟩)],[nl2,[],[]],[]⟩
theorem LN:aV prog 61 [.v (.pointer none)] (.pt mkN 0):=by
 refine eG 153 [.tmp 2] func61 rfl ntmps61 rfl fun _ _ _ _=>?_;refine cP MV yZ ?_;refine cP SP Dh ?_;refine cP uJ yj ?_;refine bA (fun _ st=>st=Ub) 0 Ub (aq 1 rfl wA rfl rfl rfl wB) rfl ?_;rintro _ _ rfl;apply FV (.op 0 (.op 1 (.op 2 (.op 5 (.ev 3 (.ev 4 (.ev 6 (.op 8 (.op 9 (.ev 7 (.ev 10 (.op 11 (.op 12 (.ev 13 .fin .stop))) .stop) (.ev 10 (.ev 7 (.op 11 (.op 12 (.ev 13 .fin .stop))) .stop) .stop)))) .stop) (.ev 6 (.ev 4 (.op 8 (.op 9 (.ev 7 (.ev 10 (.op 11 (.op 12 (.ev 13 .fin .stop))) .stop) (.ev 10 (.ev 7 (.op 11 (.op 12 (.ev 13 .fin .stop))) .stop) .stop)))) (.ev 7 (.ev 4 (.op 8 (.op 9 (.ev 10 (.op 11 (.op 12 (.ev 13 .fin .stop))) .stop))) .stop) .stop)) .stop)) .stop))))) 1 2 mo (by decide +kernel);·repeat' (first | refine cD uJ yj ?_ | exact ⟨rfl,by omega,by omega,by omega⟩ | exact Or.inr ⟨congrArg (fun z=>[_,z,z]) (sg _ _).symm,rfl,by repeat' (first | exact trivial | refine ⟨rfl,?_⟩)⟩ | exact trivial | exact Or.inl (Or.inl rfl) | exact Or.inl Wq | exact tT | refine ⟨?_,?_⟩)
 ·exact (rfl:_=_)
 refine lJ (fun d=>aaQ d) 1 (aq 3 rfl wA rfl rfl rfl wB) ?_;intro d hd;refine br (fun h=>?_) (fun _=>?_)
 ·obtain rfl:d=0:=by simp at h;omega
  refine bA (fun _ st=>st=Uc 0) 0 (Uc 0) (aq 3 rfl wA rfl rfl rfl wB) rfl ?_;rintro _ _ rfl;exact rE ⟨_,by omega,1,rfl,by omega,rfl⟩ (aq 3 rfl wA rfl rfl rfl wB)
 ·refine lI (fun j st=>∃ c:Bool,st=Ud c/\j=if c=true then 1 else 0) ⟨true,rfl,rfl⟩ (aq 3 rfl wA rfl rfl rfl wB) ?_;rintro j st ⟨c,rfl,rfl⟩;refine br ?_ ?_<;>intro h
  ·have h:c=true:=h;subst h;refine bA (fun _ st=>st=Ue) 0 Ue (aq 3 rfl wA rfl rfl rfl wB) rfl ?_;rintro _ _ rfl;exact ⟨Ud false,(aq 3 rfl wA rfl rfl rfl wB),0,by simp,false,rfl,rfl⟩
  ·exact ⟨.pt mkN 0,Or.inr ⟨0,_,rfl,Nat.zero_le _,rfl,⟨_,_,rfl,ax,_,_,rfl,ax,_,_,rfl,ax,_,_,rfl,ax,_,_,rfl,yX (r:=[]) rfl (Nat.zero_le _) rfl,_,_,rfl,yX (r:=[]) rfl (Nat.zero_le _) rfl,rfl⟩⟩,rfl⟩
def Kc (f:Nat->Nat->Bool) (n a b:Nat):Nat:=(fD f n a b).getD 0
def jE (f:Nat->Nat->Bool) (n:Nat):Nat:=(fl f n []).getD 0
theorem zl {f:Nat->Nat->Bool} {n a b:Nat} (h:gq f n) (ha:a < n) (hb:b < n):fD f n a b=some (Kc f n a b):=by
 obtain ⟨k,hk⟩:=h.jn a b ha hb;simp [Kc,hk]
theorem PD {f:Nat->Nat->Bool} {n a b:Nat} (h:gq f n) (ha:a < n) (hb:b < n):Kc f n a b < n:=(qw (zl h ha hb)).1
theorem F8 {f:Nat->Nat->Bool} {n:Nat} (h:gq f n):Qg f n:=⟨h.rfl',h.HH⟩
theorem IE {f:Nat->Nat->Bool} {n a b:Nat} (h:gq f n) (ha:a < n) (hb:b < n):kS f n a b=some (Kc f n a b):=by
 have h1:=zl h ha hb;have h2:=nf (n:=n) (a:=a) (b:=b) (F8 h);rw [h1] at h2
 cases hr:kS f n a b with
 | none=>rw [hr] at h2;simp at h2
 | some c=>
  obtain ⟨h3,h4,_⟩:=cL hr;have:=Fg (F8 h) h3 h4;rw [h1] at this;exact this.symm
theorem ux {f:Nat->Nat->Bool} {n:Nat} (h:gq f n):fl f n []=some (jE f n):=by
 obtain ⟨c,hc⟩:=uX h [] (fun _ h=>by cases h);simp [jE,hc]
theorem Kd {f:Nat->Nat->Bool} {n:Nat} (h:gq f n):jE f n < n:=pg (ux h)
section
variable (af:List ByteArray) (tc:List DV) (rows:List Nat) (js:List Int)
end
structure LatR (n:Nat) (f:Nat->Nat->Bool) (af:List ByteArray) (LC:List DV):Prop where
 ok:gq f n
 n32:n<=32
 nl:af.length=n
 len:aV prog 187 [.pt LC 0] (.v (.int .i64 n))
 join:∀ a b:Nat,a < n->b < n->aV prog 164 [.pt LC 0,.v (.int .i64 a),.v (.int .i64 b)] (.v (.int .i64 (Kc f n a b:Nat)))
 bot:aV prog 140 [.pt LC 0] (.v (.int .i64 (jE f n:Nat)))
abbrev dL (S:Sch):Nat->Nat->Bool:=fA S.ae.length (dV (aD S.ae) S.order)
theorem eZ.Wv {S:Sch} {ND:List Nd} {PC:List DV} (hP:eZ S ND PC):∃ LC,aV prog 139 [.pt PC 0] (.pt LC 0)/\LatR S.ae.length (dL S) (aD S.ae) LC:=by
 obtain ⟨aO,js,hX,hl⟩:=hP.lat;have fo:=dZ S.ae;have GF:=(hP.fine).lat;obtain ⟨hL,VR⟩:=oB GF;have hpr:∀ p∈dV (aD S.ae) S.order,p.1 < S.ae.length/\p.2 < S.ae.length:=by have:=pf (qz GF).2.2.1;rwa [dZ] at this
 have ez:(gd S aO js).rows.length=S.ae.length:=by
  show (closeR (fV S.ae.length (dV (aD S.ae) S.order)) S.ae.length).length=_;rw [fW,kM]
 have hr:eX (gd S aO js).rows:=l4 (CI (by omega) _ hpr) _ (by omega)
 refine ⟨_,hl,{
  ok:=hL,n32:=VR,nl:=fo
  len:=?_
  join:=fun a b ha hb=>?_
  bot:=?_
  }⟩
 ·have:=tH (gd S aO js).af (dC (gd S aO js).af (gd S aO js).aO) (gd S aO js).rows (gd S aO js).js
  rwa [show (gd S aO js).af.length=S.ae.length from fo] at this
 ·have hz:=(hX.hj a b (by rw [show (gd S aO js).af.length=S.ae.length from fo];exact ha) (by rw [show (gd S aO js).af.length=S.ae.length from fo];exact hb)).1;rw [show (gd S aO js).af.length=S.ae.length from fo,show (gd S aO js).f=dL S from rfl,zl hL ha hb] at hz;exact x6 (gd S aO js).af (dC (gd S aO js).af (gd S aO js).aO) (gd S aO js).rows (gd S aO js).js a b _ (by rw [show (gd S aO js).af.length=S.ae.length from fo];exact ha) (by rw [show (gd S aO js).af.length=S.ae.length from fo];exact hb) hX.hn hz
 ·have:=rO (gd S aO js).af (dC (gd S aO js).af (gd S aO js).aO) (gd S aO js).rows (gd S aO js).js hX.hL hX.hn hX.hj
  rwa [show (gd S aO js).af.length=S.ae.length from fo,show (gd S aO js).f=dL S from rfl,ux hL] at this
def dA (s:dm):Bool:=
 if s.k=1∨s.k=5 then decide (s.n=0) && bq s.s
 else if s.k=2 then decide (0<=s.n) && decide (s.s=⟨#[]⟩)
 else if s.k=3∨s.k=4 then decide (s.n=0) && decide (s.s=⟨#[]⟩) else false
def oO (l:List dm):Bool:=decide (l.length<=64) && l.all dA
theorem zm (s:dm):oO [s]=dA s:=by simp [oO]
def mq (d:Nd) (s:dm) (e:Ed):Bool:=
 (decide (s.k=1) && decide (d.ag=7) && (decide (e.name=s.s) && !e.bare)) || (decide (s.k=5) && decide (d.ag=8) && (decide (e.name=s.s) && !e.bare)) ||
  ((decide (s.k=2) || decide (s.k=3)) && decide (d.ag=5) && decide (s.n < d.most)) || (decide (s.k=4) && decide (d.ag=6))
def IF (d:Nd) (s:dm) (e:Ed):Bool:=
 if s.k=1 then decide (d.ag=7) && decide (e.name=s.s)
 else if s.k=5 then decide (d.ag=8) && decide (e.name=s.s) && !e.bare
 else if s.k=2 then decide (d.ag=5) && decide (s.n < d.most)
 else if s.k=3 then decide (d.ag=5) && decide (0 < d.most)
 else decide (d.ag=6)
theorem F9 {s:dm} (h:dA s=true):s.k=1∨s.k=2∨s.k=3∨s.k=4∨s.k=5:=by
 unfold dA at h;split at h
 ·omega
 ·split at h
  ·omega
  ·split at h
   ·omega
   ·cases h
theorem Ke {L N:Nat} {d:Nd} (hN:cz L N d) {s:dm} (hr:dA s=true) {e:Ed} (he:e∈d.ap):IF d s e=mq d s e:=by
 have hk:=F9 hr;have hb:=hN.bare e he;unfold IF mq;rcases hk with h | h | h | h | h
 ·simp only [h];by_cases h7:d.ag=7
  ·have:e.bare=false:=by
    cases hx:e.bare
    ·rfl
    ·have:=hb hx;omega
   simp [h7,this]
  ·simp [h7]
 ·simp [h]
 ·have hn:s.n=0:=by
   unfold dA at hr;rw [h] at hr;simp at hr;exact hr.1
  simp [h,hn]
 ·simp [h]
 ·simp [h,Bool.and_assoc]
def pY (d:Nd) (s:dm) (k:Nat):Bool:=match d.ap[k]? with | some e=>mq d s e | none=>false
def ja (d:Nd) (s:dm):Option Nat:=if dA s=true then bS (pY d s) d.ap.length else none
theorem gh {d:Nd} {s:dm} {k:Nat} (h:ja d s=some k):∃ e,d.ap[k]? = some e/\mq d s e=true/\dA s=true:=by
 unfold ja at h;split at h
 ·rename_i hr;obtain ⟨h1,h2,_⟩:=cL h;refine ⟨d.ap[k],gE h1,?_,hr⟩;unfold pY at h2;rw [gE h1] at h2;exact h2
 ·cases h
def walkV (ND:List Nd) (f:Nat->Nat->Bool) (n:Nat):List dm->Nat->Nat->Option (Nat × Nat)
 | [],i,a=>some (i,a)
 | s :: p,i,a=>match ND[i]? with
  | none=>none
  | some d=>match ja d s with
   | none=>none
   | some k=>match d.ap[k]? with
    | none=>none
    | some e=>walkV ND f n p e.to.toNat (Kc f n a e.label.toNat)
theorem kX {L N:Nat} {d:Nd} (hN:cz L N d) {s:dm} {e:Ed} (he:e∈d.ap) (h:mq d s e=true):e.bare=false:=by
 cases hb:e.bare
 ·rfl
 ·have h8:=hN.bare e he hb;unfold mq at h;simp [hb,h8] at h
theorem pz {L:Nat} {ND:List Nd} {d:Nd} (hN:cz L ND.length d) {e:Ed} (he:e∈d.ap):(e.bare=false->e.to=(e.to.toNat:Nat)/\e.to.toNat < ND.length)/\(e.label=(e.label.toNat:Nat)/\e.label.toNat < L)/\(e.seen=(e.seen.toNat:Nat)/\e.seen.toNat < L):=by
 have hE:=hN.fJ e he;refine ⟨fun hb=>?_,?_,?_⟩
 ·obtain ⟨k,h1,h2⟩:=hE.to1 hb;rw [h1];exact ⟨by simp,by simpa using h2⟩
 ·obtain ⟨k,h1,h2⟩:=hE.lab;rw [h1];exact ⟨by simp,by simpa using h2⟩
 ·obtain ⟨k,h1,h2⟩:=hE.seen;rw [h1];exact ⟨by simp,by simpa using h2⟩
theorem Ga {f:Nat->Nat->Bool} {L:Nat} (hL:gq f L) {ND:List Nd} (bw:∀ n∈ND,cz L ND.length n):∀ (p:List dm) (i a:Nat) {j b:Nat},i < ND.length->a < L->walkV ND f L p i a=some (j,b)->j < ND.length/\b < L
 | [],i,a,j,b,hi,ha,h=>by
  rw [walkV] at h;simp only [oI,Prod.mk.injEq] at h;omega
 | s :: p,i,a,j,b,hi,ha,h=>by
  rw [walkV,gE hi] at h;simp only at h;split at h
  ·cases h
  ·rename_i k hk;obtain ⟨e,he,hB,_⟩:=gh hk;rw [he] at h;simp only at h;have hm:=mG he;have hd:=bw _ (List.getElem_mem hi);obtain ⟨h1,h2,_⟩:=pz hd hm;exact Ga hL bw p _ _ (h1 (kX hd hm hB)).2 (PD hL ha h2.2) h
section
variable (ND:List Nd) (f:Nat->Nat->Bool) (n obs dep:Nat)
end
def zn (es:List Ed) (s:ByteArray) (k:Nat):Bool:=match es[k]? with | some e=>decide (e.name=s) | none=>false
theorem LO {L:Nat} {ND:List Nd} {d:Nd} (hN:cz L ND.length d) {s:dm} {k:Nat} (h:ja d s=some k):bS (zn d.ap s.s) d.ap.length=some k:=by
 obtain ⟨e,he,hB,hr⟩:=gh h;have hk:=(gS he).1
 have GJ:s.s=e.name/\(d.ag=5∨d.ag=6∨d.ag=7∨d.ag=8):=by
  have hone:=hN.one;unfold mq at hB;unfold dA at hr;simp only [Bool.or_eq_true,aQ,decide_eq_true_eq] at hB;rcases hB with ((h | h) | h) | h
  ·exact ⟨h.2.1.symm,by omega⟩
  ·exact ⟨h.2.1.symm,by omega⟩
  ·obtain ⟨e',h1,_,h3⟩:=hone (.inl h.1.2);rw [h1] at he
   have:e=e':=by
    rw [h1,List.length_singleton] at hk;obtain rfl:k=0:=by omega
    simpa using he.symm
   subst this;rw [h3];refine ⟨?_,by omega⟩;rcases h.1.1 with h | h<;>rw [h] at hr<;>simp at hr<;>exact hr.2
  ·obtain ⟨e',h1,_,h3⟩:=hone (.inr h.2);rw [h1] at he
   have:e=e':=by
    rw [h1,List.length_singleton] at hk;obtain rfl:k=0:=by omega
    simpa using he.symm
   subst this;rw [h3];refine ⟨?_,by omega⟩;rw [h.1] at hr;simp at hr;exact hr.2
 refine bI hk (by unfold zn;rw [he];exact decide_eq_true GJ.1.symm) fun c hc=>?_
 cases hp:zn d.ap s.s c with
 | false=>rfl
 | true=>
  exfalso;have eK:c < d.ap.length:=by omega
  unfold zn at hp;rw [gE eK] at hp;have hp:=of_decide_eq_true hp;rcases GJ.2 with h5 | h6 | h78
  ·obtain ⟨e',h1,_⟩:=hN.one (.inl h5);rw [h1,List.length_singleton] at hk;omega
  ·obtain ⟨e',h1,_⟩:=hN.one (.inr h6);rw [h1,List.length_singleton] at hk;omega
  ·have hnd:=(hN.many h78).2.2.1;have he2:=(gS he).2;have:=List.pairwise_iff_getElem.1 (List.nodup_iff_pairwise_ne.1 hnd) c k (sU eK) (sU hk) hc;rw [List.getElem_map,List.getElem_map,he2] at this;exact this (hp.trans GJ.1)
structure Pl where
 i:Nat
 d:Nd
 k:Nat
 s:dm
def stpsV (ND:List Nd):List dm->Nat->List Pl
 | [],_=>[]
 | s :: p,i=>match ND[i]? with
  | none=>[]
  | some d=>match ja d s with
   | none=>[]
   | some k=>match d.ap[k]? with
    | none=>[]
    | some x=>⟨i,d,k,s⟩ :: stpsV ND p x.to.toNat
def sumE (sz:List Nat) (k:Nat):List Ed->Nat->Nat
 | [],_=>0
 | e :: r,i=>(if i=k then 0 else bZ sz e) + sumE sz k r (i + 1)
theorem BS (sz:List Nat) (k:Nat):∀ (es:List Ed) (e:Ed) (i:Nat),sumE sz k (es ++ [e]) i=sumE sz k es i + (if i + es.length=k then 0 else bZ sz e)
 | [],e,i=>by simp [sumE]
 | x :: r,e,i=>by
  rw [List.cons_append,sumE,BS sz k r,sumE,List.length_cons,show i + 1 + r.length=i + (r.length + 1) by omega,Nat.add_assoc]
theorem BT {sz:List Nat} {k:Nat} {es:List Ed} {e:Nat} {x:Ed} (h:es[e]? = some x):sumE sz k (es.take (e + 1)) 0=sumE sz k (es.take e) 0 + (if e=k then 0 else bZ sz x):=by
 have hl:=(gS h).1;rw [dJ h,BS,zLenT,Nat.min_eq_left (by omega),Nat.zero_add]
def zD (sz:List Nat) (q:Pl):Nat:=1 + (if q.s.k=2 then q.s.n.toNat * sz.getD (to0 q.d).toNat 0 else if q.s.k=1 then sumE sz q.k q.d.ap 0 else 0)
def totF (sz:List Nat):List Pl->Nat
 | []=>0
 | q :: l=>zD sz q + totF sz l
theorem BU (sz:List Nat) (q:Pl):∀ l:List Pl,totF sz (l ++ [q])=totF sz l + zD sz q
 | []=>by simp [totF]
 | x :: l=>by rw [List.cons_append,totF,totF,BU sz q l,Nat.add_assoc]
theorem uy (a b:Nat):bf (bf a + b)=bf (a + b):=by unfold bf;omega
theorem Ww (a b:Nat):bf (a + bf b)=bf (a + b):=by unfold bf;omega
def nO (D:List Nat) (k:Nat):List Ed->Nat->Bool
 | [],_=>true
 | e :: r,i=>(decide (i=k) || decide (bZ D e≠0)) && nO D k r (i + 1)
theorem BV (D:List Nat) (k:Nat):∀ (es:List Ed) (e:Ed) (i:Nat),nO D k (es ++ [e]) i=(nO D k es i && (decide (i + es.length=k) || decide (bZ D e≠0)))
 | [],e,i=>by simp [nO]
 | x :: r,e,i=>by
  rw [List.cons_append,nO,BV D k r,nO,List.length_cons,show i + 1 + r.length=i + (r.length + 1) by omega,Bool.and_assoc]
theorem kY {D:List Nat} {k:Nat}:∀ {es:List Ed} {i:Nat},nO D k es i=true↔∀ (j:Nat) x,es[j]? = some x->i + j≠k->bZ D x≠0
 | [],i=>by simp [nO]
 | e :: r,i=>by
  rw [nO,aQ,kY];constructor
  ·rintro ⟨h1,h2⟩ j x hx hj
   cases j with
   | zero=>
    simp at hx;subst hx;simpa [show ¬ i=k by omega] using h1
   | succ j=>exact h2 j x (sU hx) (by omega)
  ·intro h;refine ⟨?_,fun j x hx hj=>h (j + 1) x (sU hx) (by omega)⟩;by_cases hi:i=k
   ·simp [hi]
   ·simp [h 0 e rfl (by omega)]
def iQ (D:List Nat) (q:Pl):Bool:=decide (q.s.k≠3) && (decide (q.s.k≠1) || nO D q.k q.d.ap 0)
def vK (F:Nat->Val) (q:Pl) (x:Val):Val:=
 if q.s.k=2 then .mk q.d.ag 0 az (List.replicate q.s.n.toNat (F (to0 q.d).toNat) ++ [x])
 else if q.s.k=1 then .mk q.d.ag 0 az ((q.d.ap.map fun e=>F e.to.toNat).set q.k x)
 else .mk q.d.ag (if q.s.k=5 then q.k else 0) az [x]
def alnV (F:Nat->Val):List Pl->Val->Val
 | [],x=>x
 | q :: l,x=>vK F q (alnV F l x)
structure uz (ND:List Nd) (q:Pl):Prop where
 av:ND[q.i]? = some q.d
 fJ:ja q.d q.s=some q.k
theorem nv {ND:List Nd} {s:dm} {p:List dm} {i:Nat} {d:Nd} {k:Nat} {x:Ed} (h1:ND[i]? = some d) (h2:ja d s=some k) (h3:d.ap[k]? = some x):stpsV ND (s :: p) i=⟨i,d,k,s⟩ :: stpsV ND p x.to.toNat:=by
 rw [stpsV,h1];simp only;rw [h2];simp only;rw [h3]
theorem ny {ND:List Nd} {f:Nat->Nat->Bool} {n:Nat} {s:dm} {p:List dm} {i a:Nat} {r:Nat × Nat} (h:walkV ND f n (s :: p) i a=some r) :
  ∃ d k x,ND[i]? = some d/\ja d s=some k/\d.ap[k]? = some x/\walkV ND f n p x.to.toNat (Kc f n a x.label.toNat)=some r:=by
 rw [walkV] at h;split at h
 ·cases h
 ·rename_i d hd;split at h
  ·cases h
  ·rename_i k hk;split at h
   ·cases h
   ·rename_i x hx;exact ⟨d,k,x,hd,hk,hx,h⟩
theorem PE {ND:List Nd} {f:Nat->Nat->Bool} {n:Nat} {s:dm} {p:List dm} {i a:Nat} {d:Nd} {k:Nat} {x:Ed} (h1:ND[i]? = some d) (h2:ja d s=some k) (h3:d.ap[k]? = some x) :
  walkV ND f n (s :: p) i a=walkV ND f n p x.to.toNat (Kc f n a x.label.toNat):=by
 rw [walkV,h1];simp only;rw [h2];simp only;rw [h3]
theorem oP {ND:List Nd} {f:Nat->Nat->Bool} {n:Nat}:∀ (p:List dm) (i a:Nat) {r:Nat × Nat},walkV ND f n p i a=some r ->
  (stpsV ND p i).length=p.length/\∀ (e:Nat) s,p[e]? = some s->∃ q b,(stpsV ND p i)[e]? = some q/\q.s=s/\uz ND q/\walkV ND f n (p.take e) i a=some (q.i,b)
 | [],i,a,r,h=>⟨rfl,fun e s h=>by simp at h⟩
 | s :: p,i,a,r,h=>by
  obtain ⟨d,k,x,hd,hk,hx,hw⟩:=ny h;obtain ⟨h1,h2⟩:=oP p _ _ hw;rw [nv hd hk hx];refine ⟨by rw [List.length_cons,List.length_cons,h1],fun e y hy=>?_⟩
  cases e with
  | zero=>
   simp at hy;subst hy;exact ⟨_,a,rfl,rfl,⟨hd,hk⟩,by rw [List.take_zero,walkV]⟩
  | succ e=>
   obtain ⟨q,b,hq,hs,bw,hwq⟩:=h2 e y (sU hy);exact ⟨q,b,by simpa using hq,hs,bw,by rw [List.take_succ_cons,PE hd hk hx];exact hwq⟩
theorem Sj {L:Nat} {ND:List Nd} {q:Pl} (hN:cz L ND.length q.d) (hq:uz ND q):if q.s.k=1∨q.s.k=5 then bS (zn q.d.ap q.s.s) q.d.ap.length=some q.k else q.k=0:=by
 split
 ·exact LO hN hq.fJ
 ·rename_i h;obtain ⟨e,he,hB,_⟩:=gh hq.fJ;have hk:=(gS he).1;unfold mq at hB;simp only [Bool.or_eq_true,aQ,decide_eq_true_eq] at hB
  have PF:q.d.ag=5∨q.d.ag=6:=by
   rcases hB with ((hB | hB) | hB) | hB
   ·exact (h (.inl hB.1.1)).elim
   ·exact (h (.inr hB.1.1)).elim
   ·exact .inl hB.1.2
   ·exact .inr hB.2
  obtain ⟨e',h1,_⟩:=hN.one PF;rw [h1,List.length_singleton] at hk;omega
theorem lD {ND:List Nd} {q:Pl} (hq:uz ND q):(q.s.k=1->q.d.ag=7/\q.s.n=0)/\(q.s.k=5->q.d.ag=8/\q.s.n=0)/\(q.s.k=2->q.d.ag=5/\0<=q.s.n/\q.s.n < q.d.most)/\(q.s.k=3->q.d.ag=5/\q.s.n=0)/\(q.s.k=4->q.d.ag=6/\q.s.n=0)/\(q.s.k=1∨q.s.k=2∨q.s.k=3∨q.s.k=4∨q.s.k=5):=by
 obtain ⟨e,he,hB,hr⟩:=gh hq.fJ;have Wc:=F9 hr;unfold mq at hB;unfold dA at hr;simp only [Bool.or_eq_true,aQ,decide_eq_true_eq] at hB;refine ⟨fun h=>?_,fun h=>?_,fun h=>?_,fun h=>?_,fun h=>?_,Wc⟩
 all_goals
  rw [h] at hr hB;simp at hr hB
  first
   | exact ⟨hB.1,hr.1⟩
   | exact ⟨hB.1,hr.1,hB.2⟩
   | exact ⟨hB,hr.1⟩
theorem leastF_7 {n:Nd} {D:List Nat} (h:n.ag=7) (h2:∀ e∈n.ap,bZ D e≠0):0 < bm n D:=by
 rw [bm,ai h];refine Nat.pos_of_ne_zero fun h0=>?_;obtain ⟨e,he,hz⟩:=iw.1 h0;exact h2 e he hz
theorem leastF_8 {n:Nd} {D:List Nat} (h:n.ag=8) {e:Ed} (he:e∈n.ap) (h2:e.bare=true∨bZ D e≠0):0 < bm n D:=by
 rw [bm,ah (by omega),ai h];refine jD.2 (.inr (List.any_eq_true.2 ⟨e,he,?_⟩));unfold qU;rw [gQ];rcases h2 with h2 | h2
 ·rw [h2];all_goals rfl
 ·unfold bZ at h2;rw [decide_eq_true (by omega),Bool.or_true]
theorem Gb {n:Nd} {D:List Nat} (h7:n.ag≠7) (h8:n.ag≠8):0 < bm n D:=by
 rw [bm,ah h7,ah h8];omega
mutual
theorem wv {L:Nat} {ND:List Nd} {D:List Nat} (bw:∀ n∈ND,cz L ND.length n) (hO:gv ND D):∀ (v:Val) (i:Int),fitV ND v i=true->0 < D.getD i.toNat 0
 | .mk k n s ks,i,h=>by
  obtain ⟨d,hF⟩:=tZ bw h;have Lq:=Gc bw hO ks;have hn:=(ia hF.av).2;rw [hO.get _ _ hn];have PG:=hF.kids;have Sk:=hF.tag;simp only [Val.ks] at PG Sk;by_cases h7:d.ag=7
  ·refine leastF_7 h7 fun e he=>?_;obtain ⟨h1,h2⟩:=PG (by omega);have:=Lq _ h2 (by omega) e.to (by unfold kidsL;rw [ah (by omega),ai h7];exact List.mem_map_of_mem he);unfold bZ;omega
  ·by_cases h8:d.ag=8
   ·obtain ⟨e,h1,h2,_⟩:=Sk h8;refine leastF_8 h8 (mG h2) ?_
    cases hb:e.bare with
    | true=>exact .inl rfl
    | false=>
     obtain ⟨h3,h4⟩:=PG (by omega);have:=Lq _ h4 (by omega) e.to (by unfold kidsL;rw [ah (by omega),ah h7,h1];simp [hb]);unfold bZ;exact .inr (by omega)
   ·exact Gb h7 h8
theorem Gc {L:Nat} {ND:List Nd} {D:List Nat} (bw:∀ n∈ND,cz L ND.length n) (hO:gv ND D):∀ (ks:List Val) (l:List Int),fitVs ND ks l=true->l.length<=ks.length->∀ j∈l,0 < D.getD j.toNat 0
 | [],l,h,hl=>by
  cases l with
  | nil=>intro j hj;cases hj
  | cons a b=>simp at hl
 | v :: r,[],h,hl=>by intro j hj;cases hj
 | v :: r,i :: l,h,hl=>by
  rw [fitVs,aQ] at h;have h1:=wv bw hO v i h.1;have h2:=Gc bw hO r l h.2 (sU hl);intro j hj;rcases bL hj with rfl | hj
  ·exact h1
  ·exact h2 j hj
end
theorem pA {L:Nat} {ND:List Nd} {D:List Nat} (bw:∀ n∈ND,cz L ND.length n) (hO:gv ND D) {f:Nat->Nat->Bool} {m:Nat}:∀ (p:List dm) (i a:Nat) {j b:Nat},walkV ND f m p i a=some (j,b)->(stpsV ND p i).all (iQ D)=true->0 < D.getD j 0 ->
  0 < D.getD i 0/\∀ q∈stpsV ND p i,∃ x,q.d.ap[q.k]? = some x/\bZ D x≠0
 | [],i,a,j,b,h,_,h0=>by
  rw [walkV] at h;simp only [oI,Prod.mk.injEq] at h;rw [h.1];exact ⟨h0,fun q hq=>by simp [stpsV] at hq⟩
 | s :: p,i,a,j,b,h,nE,h0=>by
  obtain ⟨d,k,x,hd,hk,hx,hw⟩:=ny h;rw [nv hd hk hx] at nE ⊢;rw [List.all_cons,aQ] at nE;obtain ⟨h1,h2⟩:=pA bw hO p _ _ hw nE.2 h0;have Ob:bZ D x≠0:=by unfold bZ;omega
  refine ⟨?_,fun q hq=>?_⟩
  ·rw [hO.get _ _ hd];have hq:uz ND ⟨i,d,k,s⟩:=⟨hd,hk⟩;have EU:=lD hq;by_cases h7:d.ag=7
   ·refine leastF_7 h7 fun e he=>?_
    have hs1:s.k=1:=by
     have:=EU;simp only at this;omega
    have ha:=nE.1;unfold iQ at ha;simp only [hs1,aQ] at ha;have ha:=kY.1 (by simpa using ha.2);obtain ⟨c,hc,rfl⟩:=List.getElem_of_mem he;by_cases hck:c=k
    ·subst hck;rw [gE hc] at hx;cases hx;exact Ob
    ·exact ha c _ (gE hc) (by omega)
   ·by_cases h8:d.ag=8
    ·exact leastF_8 h8 (mG hx) (.inr Ob)
    ·exact Gb h7 h8
  ·rcases bL hq with rfl | hq
   ·exact ⟨x,hx,Ob⟩
   ·exact h2 q hq
theorem Dx {L:Nat} {ND:List Nd} (bw:∀ n∈ND,cz L ND.length n) {q:Pl} (hq:uz ND q) {x:Ed} (hx:q.d.ap[q.k]? = some x) (PF:q.d.ag=5∨q.d.ag=6):q.d.ap=[x]/\q.k=0/\to0 q.d=x.to:=by
 have hN:=bw _ (mG hq.av);obtain ⟨e,he,_⟩:=hN.one PF;have hk:=(gS hx).1;rw [he,List.length_singleton] at hk;have hk0:q.k=0:=by omega
 rw [he,hk0] at hx;simp at hx;subst hx;exact ⟨he,hk0,by unfold to0;rw [he];rfl⟩
def gw (ND:List Nd) (sz D:List Nat) (o:Option (Nat × Nat)) (l:List Pl) (x:Val):Option Val:=match o with
 | none=>none
 | some (j,_)=>if fitV ND x j=true/\l.all (iQ D)=true/\j1 x + totF sz l < 4097 then some (alnV (bc ND D) l x) else none
def Gd (f:Nat->Nat->Bool) (c k:Nat):Bool:=(List.range k).all (f c)
theorem LP (f:Nat->Nat->Bool) (c k:Nat):Gd f c (k + 1)=(Gd f c k && f c k):=by simp [Gd,List.range_succ]
theorem Ge (f:Nat->Nat->Bool) (n c:Nat):tJ f n [] c=Gd f c n:=by simp [tJ,iu,Gd]
abbrev Uf (n:Nat) (f:Nat->Nat->Bool) (e:Nat):St:=⟨[(0,⟨[],.sl 1 (cS (dD n f)) none⟩),(3,⟨[],.v (.int .i64 e)⟩)],[],[]⟩
abbrev aaS (n:Nat) (f:Nat->Nat->Bool) (e:Nat) (x:Bool) (k:Nat):St:=⟨[(0,⟨[],.sl 1 (cS (dD n f)) none⟩),(3,⟨[],.v (.int .i64 e)⟩),(4,⟨[],.v (.bool x)⟩),(5,⟨[],.v (.int .i64 k)⟩)],[],[]⟩
theorem z8 (n:Nat) (f:Nat->Nat->Bool) (hn:n<=64):aV prog 81 [.sl 1 (cS (dD n f)) none] (.v (.int .i64 (oz (fl f n [])))):=by
 have c9:=jB n f;refine eG 30 [.tmp 2] func81 rfl ntmps81 rfl fun _ _ _ _=>?_;refine lI (fun j st=>∃ e:Nat,st=Uf n f e/\e<=n/\(∀ c,c < e->tJ f n [] c=false)/\j=n - e) ⟨0,rfl,by omega,fun _ h=>by omega,rfl⟩ (aj ⟨_,rfl⟩ wA rfl rfl rfl wB) ?_;rintro j st ⟨e,rfl,he,fv,rfl⟩;refine br ?_ ?_<;>intro hL
 ·have au:e < n:=sV c9 hL;refine lJ (fun k=>aaS n f e (Gd f e k) k) n (aj ⟨_,rfl⟩ wA rfl rfl rfl (by repeat' (first | exact trivial | exact aA rfl | exact cI rfl | refine ⟨⟨_,rfl,?_⟩,?_⟩))) ?_;intro k hk;refine br ?_ ?_<;>intro kP
  ·have jT:k < n:=sV c9 kP;have Lg:=LP f e k;refine br ?_ ?_<;>intro g
   ·refine iX (gg au) ?_;refine iX (eQ jT) ?_;have g:Gd f e k=true:=sU g;rw [g,Bool.true_and] at Lg;exact rE ⟨_,by omega,k + 1,rfl,by omega,rfl⟩ (aj ⟨_,rfl⟩ wA rfl rfl rfl (wB2 (aK jT (by omega)) Lg.symm))
   ·have g:Gd f e k=false:=sU g;rw [g,Bool.false_and] at Lg;exact rE ⟨_,by omega,k + 1,rfl,by omega,rfl⟩ (aj ⟨_,rfl⟩ wA rfl rfl rfl (wB2 (aK jT (by omega)) Lg.symm))
  ·have aS:k=n:=sW c9 kP;subst aS;refine br ?_ ?_<;>intro g
   ·have g:tJ f k [] e=true:=by rw [Ge];exact g
    rw [fl,bI au g fv];exact (rfl:_=_)
   ·have g:tJ f k [] e=false:=by rw [Ge];exact g
    refine ⟨Uf k f (e + 1),(aj ⟨_,rfl⟩ wA rfl rfl rfl (dy (aK au (by omega)))),k - (e + 1),by omega,e + 1,rfl,by omega,fun j hj=>?_,rfl⟩;rcases eT hj with hj | rfl
    ·exact fv j hj
    ·exact g
 ·have aS:e=n:=sW c9 hL;subst aS;rw [fl,bU fv];exact (rfl:_=_)
theorem Gf {α:Type} {l:List α} {e:Nat} {x:α} {p:α->Bool} (h:l[e]? = some x):(l.drop e).all p=(p x && (l.drop (e + 1)).all p):=by
 obtain ⟨h1,h2⟩:=List.getElem?_eq_some_iff.1 h;rw [List.drop_eq_getElem_cons h1,h2,List.all_cons]
theorem Dy (s:dm) (hs:s.s.size<=4611686018427387904):aV prog 189 [.agg (j3 s)] (.v (.bool (dA s))):=by
 have hr:=jr s.s hs;obtain ⟨k,n,t⟩:=s;have hF:dA ⟨k,n,t⟩=if k=1∨k=5 then decide (n=0) && bq t else if k=2 then decide (0<=n) && decide (t=⟨#[]⟩) else if k=3∨k=4 then decide (n=0) && decide (t=⟨#[]⟩) else false:=rfl
 generalize dA ⟨k,n,t⟩=F at hF ⊢;refine eG 39 [.tmp 2] func189 rfl ntmps189 rfl fun _ _ _ _=>?_;refine br ?_ ?_<;>intro c
 ·have c:k=1:=sU c;rw [ai (.inl c)] at hF;refine br (fun _=>?_) (fun g=>absurd g (by simp [c]));refine br ?_ ?_<;>intro g
  ·have g:n=0:=sU g;refine cP G9 hr ?_;refine (congrArg (fun b=>DV.v (.bool b)) ?_:_=_);rw [hF];simp [g,pickB]
  ·have g:¬ n=0:=sU g;refine (congrArg (fun b=>DV.v (.bool b)) ?_:_=_);rw [hF];simp [g,pickB]
 have c1:¬ k=1:=sU c;refine br ?_ ?_<;>intro c
 ·have c:k=5:=sU c;rw [ai (.inr c)] at hF;refine br ?_ ?_<;>intro g
  ·have g:n=0:=sU g;refine cP G9 hr ?_;refine (congrArg (fun b=>DV.v (.bool b)) ?_:_=_);rw [hF];simp [g,pickB]
  ·have g:¬ n=0:=sU g;refine (congrArg (fun b=>DV.v (.bool b)) ?_:_=_);rw [hF];simp [g,pickB]
 have c5:¬ k=5:=sU c;rw [ah (by omega)] at hF;refine br ?_ ?_<;>intro c
 ·have c:k=2:=sU c;rw [ai c] at hF;refine (congrArg (fun b=>DV.v (.bool b)) ?_:_=_);rw [hF];cases decide (0<=n)<;>rfl
 have c2:¬ k=2:=sU c;rw [ah c2] at hF;refine br ?_ ?_<;>intro c
 ·have c:k=3:=sU c;rw [ai (.inl c)] at hF;refine br (fun _=>?_) (fun g=>absurd g (by simp [c]));refine (congrArg (fun b=>DV.v (.bool b)) ?_:_=_);rw [hF];cases decide (n=0)<;>rfl
 have c3:¬ k=3:=sU c;refine br ?_ ?_<;>intro c
 ·have c:k=4:=sU c;rw [ai (.inr c)] at hF;refine (congrArg (fun b=>DV.v (.bool b)) ?_:_=_);rw [hF];cases decide (n=0)<;>rfl
 have c4:¬ k=4:=sU c;rw [ah (by omega)] at hF;subst hF;exact (rfl:_=_)
abbrev prSt (l:List dm) (e:Nat):St:=⟨[(8,⟨[],.sl 3 (aT l) none⟩),(9,⟨[],.v (.int .i64 (aT l).length)⟩),(10,⟨[],.v (.int .i64 e)⟩)],[],[]⟩
theorem Gg (l:List dm) (hs:∀ s∈l,s.s.size<=4611686018427387904):aV prog 141 [.sl 3 (aT l) none] (.v (.bool (oO l))):=by
 have bJ:=eu l;have hF:oO l=(decide (l.length<=64) && l.all dA):=rfl;generalize oO l=F at hF ⊢;refine eG 18 [.tmp 2] func141 rfl ntmps141 rfl fun _ _ _ _=>?_;refine br ?_ ?_<;>intro g
 ·have:¬ l.length<=64:=by simp [bJ] at g;omega
  rw [decide_eq_false this,Bool.false_and] at hF;subst hF;exact (rfl:_=_)
 have dK:l.length<=64:=by simp [bJ] at g;omega
 rw [decide_eq_true dK,Bool.true_and] at hF;refine lI (fun j st=>∃ e:Nat,st=prSt l e/\e<=l.length/\F=(l.drop e).all dA/\j=l.length - e) ⟨0,rfl,by omega,hF,rfl⟩ (aj ⟨_,rfl⟩ wA rfl rfl rfl wB) ?_;rintro j st ⟨e,rfl,he,aP,rfl⟩;refine br ?_ ?_<;>intro hL
 ·have au:e < l.length:=sV bJ hL;obtain ⟨x,hx⟩:=gX au;have h1:=Dy x (hs x (mG hx));rw [Gf hx] at aP;obtain ⟨xk,xn,xs⟩:=x;refine iX (dW hx) ?_;refine cP YM h1 ?_;refine br ?_ ?_<;>intro g
  ·have g:dA ⟨xk,xn,xs⟩=false:=sU g;rw [g,Bool.false_and] at aP;subst aP;exact (rfl:_=_)
  ·have g:dA ⟨xk,xn,xs⟩=true:=sU g;rw [g,Bool.true_and] at aP;exact rE ⟨_,by omega,e + 1,rfl,by omega,aP,rfl⟩ (aj ⟨_,rfl⟩ wA rfl rfl rfl (dy (aK au (by omega))))
 ·have aS:l.length<=e:=sV bJ hL;rw [List.drop_eq_nil_of_le aS] at aP;subst aP;exact (rfl:_=_)
abbrev aaT (l:List dm) (e:Nat):St:=⟨[(0,⟨[],.sl 3 (aT l) none⟩),(3,⟨[],.v (.int .i64 e)⟩)],[],[]⟩
theorem Dz (l:List dm) (hs:∀ s∈l,s.s.size<=4611686018427387904):aV prog 186 [.sl 3 (aT l) none] (.v (.bool (oO l))):=by
 have bJ:=eu l;have hF:oO l=(decide (l.length<=64) && l.all dA):=rfl;generalize oO l=F at hF ⊢;refine eG 66 [.tmp 2] func186 rfl ntmps186 rfl fun _ _ _ _=>?_;refine br ?_ ?_<;>intro g
 ·have:¬ l.length<=64:=by simp [bJ] at g;omega
  rw [decide_eq_false this,Bool.false_and] at hF;subst hF;exact (rfl:_=_)
 have dK:l.length<=64:=by simp [bJ] at g;omega
 rw [decide_eq_true dK,Bool.true_and] at hF;refine lI (fun j st=>∃ e:Nat,st=aaT l e/\e<=l.length/\F=(l.drop e).all dA/\j=l.length - e) ⟨0,rfl,by omega,hF,rfl⟩ (aj ⟨_,rfl⟩ wA rfl rfl rfl wB) ?_;rintro j st ⟨e,rfl,he,aP,rfl⟩;refine br ?_ ?_<;>intro hL
 ·have au:e < l.length:=sV bJ hL;obtain ⟨x,hx⟩:=gX au;have h1:=jL x.s (hs x (mG hx));rw [Gf hx] at aP;have Xi:∀ k n t,dA ⟨k,n,t⟩=if k=1∨k=5 then decide (n=0) && bq t else if k=2 then decide (0<=n) && decide (t=⟨#[]⟩) else if k=3∨k=4 then decide (n=0) && decide (t=⟨#[]⟩) else false:=fun _ _ _=>rfl
  obtain ⟨xk,xn,xs⟩:=x;rw [Xi] at aP;refine iX (dW hx) ?_
  have bF:bq xs=true->xs≠⟨#[]⟩:=by
   intro h e;rw [e] at h
   revert h
   decide
  have hk:xk=1∨xk=5∨xk=2∨xk=3∨xk=4∨(xk < 1/\¬ 5 < xk/\¬ xk=1/\¬ xk=2/\¬ xk=3/\¬ xk=4/\¬ xk=5)∨(¬ xk < 1/\5 < xk/\¬ xk=1/\¬ xk=2/\¬ xk=3/\¬ xk=4/\¬ xk=5):=by omega
  have hd:(xn < 0)↔¬ (0<=xn):=by omega
  have iz:∀ b,(if xk=1∨xk=5 then decide (xn=0) && bq xs else if xk=2 then decide (0<=xn) && decide (xs=⟨#[]⟩) else if xk=3∨xk=4 then decide (xn=0) && decide (xs=⟨#[]⟩) else false)=b->F=(b && (l.drop (e + 1)).all dA):=fun b h=>by rw [aP,h]
  refine br ?_ ?_<;>intro g1
  ·refine br ?_ ?_<;>intro g2
   ·refine cP Ej h1 ?_;refine br ?_ ?_<;>intro g3
    ·have hF:=iz false (by
      clear aP iz Xi h1 hx
      rcases hk with rfl | rfl | rfl | rfl | rfl | ⟨k1,k2,k3,k4,k5,k6,k7⟩ | ⟨k1,k2,k3,k4,k5,k6,k7⟩<;>by_cases h0:xs=⟨#[]⟩<;>by_cases hz:xn=0<;>by_cases la:0<=xn<;>cases ie:bq xs<;>first | (exact absurd h0 (bF ie)) | (simp [lastG,pickB,hd,h0,hz,la,ie,k1,k2,k3,k4,k5,k6,k7] at g1 g2 g3 ⊢;done) | (simp [lastG,pickB,hd,h0,hz,la,ie] at g1 g2 g3 ⊢;done) | omega)
     rw [hF,Bool.false_and];exact (rfl:_=_)
    ·have hF:=iz true (by
      clear aP iz Xi h1 hx
      rcases hk with rfl | rfl | rfl | rfl | rfl | ⟨k1,k2,k3,k4,k5,k6,k7⟩ | ⟨k1,k2,k3,k4,k5,k6,k7⟩<;>by_cases h0:xs=⟨#[]⟩<;>by_cases hz:xn=0<;>by_cases la:0<=xn<;>cases ie:bq xs<;>first | (exact absurd h0 (bF ie)) | (simp [lastG,pickB,hd,h0,hz,la,ie,k1,k2,k3,k4,k5,k6,k7] at g1 g2 g3 ⊢;done) | (simp [lastG,pickB,hd,h0,hz,la,ie] at g1 g2 g3 ⊢;done) | omega)
     rw [Bool.true_and] at hF;exact rE ⟨_,by omega,e + 1,rfl,by omega,hF,rfl⟩ (aj ⟨_,rfl⟩ wA rfl rfl rfl (dy (aK au (by omega))))
   ·refine br ?_ ?_<;>intro g3
    ·have hF:=iz false (by
      clear aP iz Xi h1 hx
      rcases hk with rfl | rfl | rfl | rfl | rfl | ⟨k1,k2,k3,k4,k5,k6,k7⟩ | ⟨k1,k2,k3,k4,k5,k6,k7⟩<;>by_cases h0:xs=⟨#[]⟩<;>by_cases hz:xn=0<;>by_cases la:0<=xn<;>cases ie:bq xs<;>first | (exact absurd h0 (bF ie)) | (simp [lastG,pickB,hd,h0,hz,la,ie,k1,k2,k3,k4,k5,k6,k7] at g1 g2 g3 ⊢;done) | (simp [lastG,pickB,hd,h0,hz,la,ie] at g1 g2 g3 ⊢;done) | omega)
     rw [hF,Bool.false_and];exact (rfl:_=_)
    ·have hF:=iz true (by
      clear aP iz Xi h1 hx
      rcases hk with rfl | rfl | rfl | rfl | rfl | ⟨k1,k2,k3,k4,k5,k6,k7⟩ | ⟨k1,k2,k3,k4,k5,k6,k7⟩<;>by_cases h0:xs=⟨#[]⟩<;>by_cases hz:xn=0<;>by_cases la:0<=xn<;>cases ie:bq xs<;>first | (exact absurd h0 (bF ie)) | (simp [lastG,pickB,hd,h0,hz,la,ie,k1,k2,k3,k4,k5,k6,k7] at g1 g2 g3 ⊢;done) | (simp [lastG,pickB,hd,h0,hz,la,ie] at g1 g2 g3 ⊢;done) | omega)
     rw [Bool.true_and] at hF;exact rE ⟨_,by omega,e + 1,rfl,by omega,hF,rfl⟩ (aj ⟨_,rfl⟩ wA rfl rfl rfl (dy (aK au (by omega))))
  ·have g2:=g1;have g3:=g1
   have hF:=iz false (by
     clear aP iz Xi h1 hx
     rcases hk with rfl | rfl | rfl | rfl | rfl | ⟨k1,k2,k3,k4,k5,k6,k7⟩ | ⟨k1,k2,k3,k4,k5,k6,k7⟩<;>by_cases h0:xs=⟨#[]⟩<;>by_cases hz:xn=0<;>by_cases la:0<=xn<;>cases ie:bq xs<;>first | (exact absurd h0 (bF ie)) | (simp [lastG,pickB,hd,h0,hz,la,ie,k1,k2,k3,k4,k5,k6,k7] at g1 g2 g3 ⊢;done) | (simp [lastG,pickB,hd,h0,hz,la,ie] at g1 g2 g3 ⊢;done) | omega)
   rw [hF,Bool.false_and];exact (rfl:_=_)
 ·have aS:l.length<=e:=sV bJ hL;rw [List.drop_eq_nil_of_le aS] at aP;subst aP;exact (rfl:_=_)
abbrev Wx (d:Nd) (s:dm) (e:Nat):St:=⟨[(2,⟨[],.loc 0 0⟩),(3,⟨[],.loc 1 0⟩),(5,⟨[],.v (.int .i64 e)⟩)],[gG d,j3 s],[]⟩
theorem oQ (d:Nd) (s:dm) (ef:d.ap.length<=1099511627776) (hs:s.s.size<=4611686018427387904):aV prog 138 [.agg (gG d),.agg (j3 s)] (.v (.int .i64 (oz (ja d s)))):=by
 have hr:=Dz [s] (sU hs);rw [zm] at hr;have hE:ja d s=if dA s=true then bS (pY d s) d.ap.length else none:=rfl
 have hP:∀ (e:Nat) x,d.ap[e]? = some x->pY d s e=mq d s x:=fun e x h=>by unfold pY;rw [h]
 have hB:∀ x:Ed,mq d s x=((decide (s.k=1) && decide (d.ag=7) && (decide (x.name=s.s) && !x.bare)) || (decide (s.k=5) && decide (d.ag=8) && (decide (x.name=s.s) && !x.bare)) ||
  ((decide (s.k=2) || decide (s.k=3)) && decide (d.ag=5) && decide (s.n < d.most)) || (decide (s.k=4) && decide (d.ag=6))):=fun _=>rfl
 generalize ja d s=I at hE ⊢;generalize dA s=R at hr hE;generalize pY d s=pE at hE hP;generalize mq d s=bE at hP hB;obtain ⟨ag,ba,lo,hi,most,af,es⟩:=d;obtain ⟨k,n,t⟩:=s;have bJ:=aW es;simp only at hE hP hB ef;refine eG 93 [.tmp 4] func138 rfl ntmps138 rfl fun _ _ _ _=>?_;refine cP YK hr ?_
 cases R with
 | false=>
  rw [ah (by simp)] at hE;subst hE;exact (rfl:_=_)
 | true=>
 rw [ai rfl] at hE;refine lI (fun j st=>∃ e:Nat,st=Wx ⟨ag,ba,lo,hi,most,af,es⟩ ⟨k,n,t⟩ e/\e<=es.length/\(∀ c,c < e->pE c=false)/\j=es.length - e) ⟨0,rfl,by omega,fun _ h=>by omega,rfl⟩ (aj ⟨_,rfl⟩ wA rfl rfl rfl wB) ?_;rintro j st ⟨e,rfl,he,fv,rfl⟩;refine br ?_ ?_<;>intro hL
 ·have au:e < es.length:=sV bJ hL;obtain ⟨x,hx⟩:=gX au;have Sm:=hP e x hx;rw [hB] at Sm;refine dI ?_;refine iX (aF hx) ?_;refine br ?_ ?_<;>intro g
  ·have g:decide (x.name=t)=true:=by cases h:decide (x.name=t)<;>simp_all
   refine iX (aF hx) ?_;refine br ?_ ?_<;>intro c
   ·have hc:pE e=true:=by
     rw [Sm,g];simpa only [aw,ay,Bool.false_and,Bool.and_false,Bool.true_and,Bool.false_or,Bool.or_false] using c
    rw [bI au hc fv] at hE;subst hE;exact (rfl:_=_)
   ·have hc:pE e=false:=by
     rw [Sm,g];simpa only [aw,ay,Bool.false_and,Bool.and_false,Bool.true_and,Bool.false_or,Bool.or_false] using c
    exact rE ⟨_,by omega,e + 1,rfl,by omega,fun c lF=>by
     rcases eT lF with h | h
     ·exact fv c h
     ·rw [h];exact hc,rfl⟩ (aj ⟨_,rfl⟩ wA rfl rfl rfl (dy (aK au (by omega))))
  ·have g:decide (x.name=t)=false:=by cases h:decide (x.name=t)<;>simp_all
   refine br ?_ ?_<;>intro c
   ·have hc:pE e=true:=by
     rw [Sm,g];simpa only [aw,ay,Bool.false_and,Bool.and_false,Bool.true_and,Bool.false_or,Bool.or_false] using c
    rw [bI au hc fv] at hE;subst hE;exact (rfl:_=_)
   ·have hc:pE e=false:=by
     rw [Sm,g];simpa only [aw,ay,Bool.false_and,Bool.and_false,Bool.true_and,Bool.false_or,Bool.or_false] using c
    exact rE ⟨_,by omega,e + 1,rfl,by omega,fun c lF=>by
     rcases eT lF with h | h
     ·exact fv c h
     ·rw [h];exact hc,rfl⟩ (aj ⟨_,rfl⟩ wA rfl rfl rfl (dy (aK au (by omega))))
 ·have aS:e=es.length:=sW bJ hL;subst aS;rw [bU fv] at hE;subst hE;exact (rfl:_=_)
theorem PH (s:dm) (p:List dm):DV.sl 3 (((aT (s :: p)).take (((aT (s :: p)).length:Nat):Int).toNat).drop (1:Int).toNat) none = .sl 3 (aT p) none:=by
 rw [dq,List.take_length];all_goals rfl
abbrev wL (lv:List Wd) (f:Nat->Nat->Bool) (ND:List Nd) (z:Int):List DV:=[.sl 2 (bQ lv) none,.sl 1 (cS (dD lv.length f)) none,.sl 7 (bD ND) none,.v (.int .i64 z)]
def aaU (o:Option (Nat × Nat)):DV:=match o with
 | some (j,b)=>.tup [.v (.int .i64 (j:Nat)),.v (.int .i64 (b:Nat))]
 | none=>.tup [.v (.int .i64 (-1)),.v (.int .i64 (-1))]
theorem vi (lv:List Wd) (f:Nat->Nat->Bool) (ND:List Nd) (z:Int) (hL:gq f lv.length) (hn:lv.length<=32) (bw:∀ n∈ND,cz lv.length ND.length n) (bT:∀ n∈ND,n.ap.length<=1099511627776) :
  ∀ (p:List dm),p.length<=1099511627776->(∀ s∈p,s.s.size<=4611686018427387904)->∀ (i a:Nat),i < ND.length->a < lv.length ->
   aV prog 80 [.agg (wL lv f ND z),.v (.int .i64 i),.v (.int .i64 a),.sl 3 (aT p) none] (aaU (walkV ND f lv.length p i a))
 | [],_,_,i,a,hi,ha=>by
  have hW:wL lv f ND z=wL lv f ND z:=rfl;rw [walkV];refine eG 51 [.tmp 8,.tmp 9] func80 rfl ntmps80 rfl fun _ _ _ _=>?_;exact ⟨_,ax,rfl⟩
 | s :: p,hp,hs,i,a,hi,ha=>by
  obtain ⟨d,hd⟩:∃ d,ND[i]? = some d:=⟨_,gE hi⟩;have hm:=mG hd;have hN:=bw d hm;have zB:=oQ d s (bT d hm) (hs s (by simp));have gT:=fun k=>@gh d s k;have tG:=fun e (he:e∈d.ap)=>pz hN he;have hbr:=fun e (he:e∈d.ap) h=>@kX _ _ d hN s e he h;have zb:=PH s p;have DG:=dW (l:=s :: p) (e:=0) rfl;have PI:=eu (s :: p);rw [List.length_cons] at PI hp;have hNl:=cy ND;have ih:=fun i a hi ha=>vi lv f ND z hL hn bw bT p (by omega) (fun s uN=>hs s (by simp [uN])) i a hi ha
  have hWV:walkV ND f lv.length (s :: p) i a=match ja d s with
   | none=>none
   | some k=>match d.ap[k]? with
    | none=>none
    | some e=>walkV ND f lv.length p e.to.toNat (Kc f lv.length a e.label.toNat):=by rw [walkV,hd];all_goals rfl
  rw [hWV];clear hWV;generalize ja d s=o at zB gT ⊢
  cases o with
  | none=>
   obtain ⟨ag,ba,lo,eo,most,af,es⟩:=d;obtain ⟨sk,sn,ss⟩:=s;refine eG 51 [.tmp 8,.tmp 9] func80 rfl ntmps80 rfl fun _ _ _ _=>?_;refine dI ?_;refine ⟨_,⟨by omega,bB hd⟩,_,⟨by omega,DG⟩,?_⟩;refine cD Jf zB ?_;exact ⟨_,ax,rfl⟩
  | some k=>
   obtain ⟨e,he,hB,_⟩:=gT k rfl;have Vx:=mG he;obtain ⟨h0,⟨h2,Q3⟩,_⟩:=tG e Vx;obtain ⟨h1,sS⟩:=h0 (hbr e Vx hB);clear tG hbr gT h0;obtain ⟨en,eb,ea,et,r8,ew,ug,ui,uj,um⟩:=e;simp only at h1 h2 sS Q3;obtain ⟨lb,rfl⟩:∃ n:Nat,r8=n:=⟨_,h2⟩;obtain ⟨tn,rfl⟩:∃ n:Nat,et=n:=⟨_,h1⟩;simp only [dq] at sS Q3;have hj:=oE lv.length f (by omega) a lb ha Q3;rw [IE hL ha Q3] at hj;have hw:=ih tn (Kc f lv.length a lb) sS (PD hL ha Q3);simp only [he,dq];generalize walkV ND f lv.length p tn (Kc f lv.length a lb)=R at hw ⊢;obtain ⟨ag,ba,lo,eo,most,af,es⟩:=d;obtain ⟨sk,sn,ss⟩:=s;have ef:=aW es;simp only at he;refine eG 51 [.tmp 8,.tmp 9] func80 rfl ntmps80 rfl fun _ _ _ _=>?_;refine dI ?_;refine ⟨_,⟨by omega,bB hd⟩,_,⟨by omega,DG⟩,?_⟩;refine cD Jf zB ?_;refine iX (bB hd) ?_;refine ⟨_,⟨by simp [oz],by simpa [oz] using aF he⟩,?_⟩;refine dI ?_;refine cD MX hj ?_;refine ⟨⟨by omega,by omega,by omega⟩,?_⟩;refine cD U6 hw ?_ (gU zb)
   cases R with
   | none=>exact ⟨_,ax,rfl⟩
   | some r=>exact ⟨_,ax,rfl⟩
theorem IG (d:Nd) (e:Ed) (s:dm):aV prog 190 [.agg (gG d),.agg (CU e),.agg (j3 s)] (.v (.bool (IF d s e))):=by
 obtain ⟨ag,ba,lo,hi,most,af,es⟩:=d;obtain ⟨en,eb,ea,et,r8,ew,ug,ui,uj,um⟩:=e;obtain ⟨k,n,t⟩:=s
 have hF:IF ⟨ag,ba,lo,hi,most,af,es⟩ ⟨k,n,t⟩ ⟨en,eb,ea,et,r8,ew,ug,ui,uj,um⟩=if k=1 then decide (ag=7) && decide (en=t)
  else if k=5 then decide (ag=8) && decide (en=t) && !eb
  else if k=2 then decide (ag=5) && decide (n < most)
  else if k=3 then decide (ag=5) && decide (0 < most)
  else decide (ag=6):=rfl
 generalize IF ⟨ag,ba,lo,hi,most,af,es⟩ ⟨k,n,t⟩ ⟨en,eb,ea,et,r8,ew,ug,ui,uj,um⟩=F at hF ⊢;refine eG 63 [.tmp 6] func190 rfl ntmps190 rfl fun _ _ _ _=>?_;refine br ?_ ?_<;>intro c
 ·have c:k=1:=sU c;rw [ai c] at hF;refine (congrArg (fun b=>DV.v (.bool b)) ?_:_=_);rw [hF];simp only [aw]
 have c1:¬ k=1:=sU c;rw [ah c1] at hF;refine br ?_ ?_<;>intro c
 ·have c:k=5:=sU c;rw [ai c] at hF;refine (congrArg (fun b=>DV.v (.bool b)) ?_:_=_);rw [hF];simp only [aw]
 have c5:¬ k=5:=sU c;rw [ah c5] at hF;refine br ?_ ?_<;>intro c
 ·have c:k=2:=sU c;rw [ai c] at hF;refine (congrArg (fun b=>DV.v (.bool b)) ?_:_=_);rw [hF];simp only [aw]
 have c2:¬ k=2:=sU c;rw [ah c2] at hF;refine br ?_ ?_<;>intro c
 ·have c:k=3:=sU c;rw [ai c] at hF;refine (congrArg (fun b=>DV.v (.bool b)) ?_:_=_);rw [hF];simp only [aw]
 have c3:¬ k=3:=sU c;rw [ah c3] at hF;refine (congrArg (fun b=>DV.v (.bool b)) ?_:_=_);rw [hF]
def estW (ND:List Nd) (f:Nat->Nat->Bool) (n:Nat) (s:dm) (i a:Nat):Option (Nat × Nat):=match ND[i]? with
 | none=>none
 | some d=>match ja d s with
  | none=>none
  | some k=>match d.ap[k]? with
   | none=>none
   | some e=>some (e.to.toNat,Kc f n a e.label.toNat)
theorem walkV_drop (ND:List Nd) (f:Nat->Nat->Bool) (n:Nat) (p:List dm) (e i a:Nat):walkV ND f n (p.drop e) i a=match p[e]? with
  | none=>some (i,a)
  | some s=>match estW ND f n s i a with
   | none=>none
   | some (j,b)=>walkV ND f n (p.drop (e + 1)) j b:=by
 cases hs:p[e]? with
 | none=>rw [List.drop_eq_nil_of_le (List.getElem?_eq_none_iff.1 hs)];all_goals rfl
 | some s=>
  obtain ⟨h1,h2⟩:=List.getElem?_eq_some_iff.1 hs;rw [List.drop_eq_getElem_cons h1,h2,walkV];simp only [estW]
  cases hd:ND[i]? with
  | none=>rfl
  | some d=>
   simp only
   cases hk:ja d s with
   | none=>rfl
   | some k=>
    simp only
    cases he:d.ap[k]? with
    | none=>rfl
    | some x=>rfl
theorem Sn {f:Nat->Nat->Bool} {L:Nat} (hL:gq f L) {ND:List Nd} (bw:∀ n∈ND,cz L ND.length n) {s:dm} {i a j b:Nat} (hi:i < ND.length) (ha:a < L) (h:estW ND f L s i a=some (j,b)):j < ND.length/\b < L:=by
 have hw:=walkV_drop ND f L [s] 0 i a;simp only [List.getElem?_cons_zero,h] at hw;exact Ga hL bw [s] i a hi ha hw
def aaV (o:Option (Nat × Nat)):DV:=match o with
 | some (j,b)=>.tup [.agg [.v (.int .i64 (j:Nat)),.v (.int .i64 (b:Nat))],.v (.bool true)]
 | none=>.tup [.agg [.v (.int .i64 0),.v (.int .i64 0)],.v (.bool false)]
abbrev aaW (PC:List DV) (i a:Nat) (s:dm) (d:Nd) (e:Nat):St:=
 ⟨[(0,⟨[],.pt PC 0⟩),(4,⟨[],.loc 0 0⟩),(5,⟨[],.loc 1 0⟩),(6,⟨[],.loc 2 0⟩),(8,⟨[],.loc 3 0⟩),(20,⟨[],.sl 10 (cJ d.ap) none⟩),(21,⟨[],.v (.int .i64 (cJ d.ap).length)⟩),(22,⟨[],.v (.int .i64 e)⟩)],
  [[.v (.int .i64 i),.v (.int .i64 a)],j3 s,[.v (.int .i64 0),.v (.int .i64 0)],gG d],[]⟩
theorem IH {S:Sch} {ND:List Nd} {PC:List DV} (hP:eZ S ND PC) (s:dm) (hr:dA s=true) (i a:Nat) (hi:i < ND.length) (ha:a < S.ae.length) :
  aV prog 142 [.pt PC 0,.agg [.v (.int .i64 i),.v (.int .i64 a)],.agg (j3 s)] (aaV (estW ND (dL S) S.ae.length s i a)):=by
 obtain ⟨LC,Ll,Qk⟩:=hP.Wv;obtain ⟨d,hd⟩:∃ d,ND[i]? = some d:=⟨_,gE hi⟩;have hN:=hP.ok d (mG hd);have eY:=hP.av i d hd
 have ef:d.ap.length<=1099511627776:=by
  have:=pk (S:=S) (n:=d) (by rw [<- hP.A1];exact mG hd) hP.wt;exact this.2
 have hjn:=fun b hb=>Qk.join a b ha hb
 have hW:estW ND (dL S) S.ae.length s i a=match bS (pY d s) d.ap.length with
  | none=>none
  | some k=>match d.ap[k]? with
   | none=>none
   | some e=>some (e.to.toNat,Kc (dL S) S.ae.length a e.label.toNat):=by
  unfold estW;simp only [hd,ja,ai hr]
 have Sm:∀ (e:Nat) x,d.ap[e]? = some x->pY d s e=IF d s x:=fun e x h=>by
  rw [Ke hN hr (mG h)];unfold pY;rw [h]
 have hfs:=fun x=>IG d x s;have tG:=fun (e:Ed) (he:e∈d.ap) (h:mq d s e=true)=>And.intro ((pz hN he).1 (kX hN he h)) (pz hN he).2.1;have L3:=fun x hx=>Ke hN hr (e:=x) hx;generalize estW ND (dL S) S.ae.length s i a=R at hW ⊢;generalize pY d s=pE at hW Sm;generalize Kc (dL S) S.ae.length a=jn at hW hjn;obtain ⟨ag,ba,lo,eo,most,af,es⟩:=d;obtain ⟨k,n,t⟩:=s;have bJ:=aW es;simp only at hW Sm ef;refine eG 42 [.cell 6 214,.tmp 7] func142 rfl ntmps142 rfl fun _ _ _ _=>?_;refine cP G8 eY ?_;refine lI (fun j st=>∃ e:Nat,st=aaW PC i a ⟨k,n,t⟩ ⟨ag,ba,lo,eo,most,af,es⟩ e/\e<=es.length/\(∀ c,c < e->pE c=false)/\j=es.length - e) ⟨0,rfl,by omega,fun _ h=>by omega,rfl⟩ (aj ⟨_,rfl⟩ wA rfl rfl rfl wB) ?_;rintro j st ⟨e,rfl,he,fv,rfl⟩;refine br ?_ ?_<;>intro hL
 ·have au:e < es.length:=sV bJ hL;obtain ⟨x,hx⟩:=gX au;have hPx:=Sm e x hx;have hfx:=hfs x;have R8:=mG hx;have eU:=tG x R8;have Wy:=L3 x R8
  cases hv:IF ⟨ag,ba,lo,eo,most,af,es⟩ ⟨k,n,t⟩ x with
  | true=>
   rw [hv] at hPx hfx Wy;obtain ⟨⟨h1,_⟩,h2,h3⟩:=eU Wy.symm;rw [bI au hPx fv] at hW;simp only [hx] at hW;clear tG L3 eU Wy hfs;obtain ⟨en,eb,ea,et,r8,ew,ug,ui,uj,um⟩:=x;simp only at h1 h2 h3;obtain ⟨lb,rfl⟩:∃ n:Nat,r8=n:=⟨_,h2⟩;obtain ⟨tn,rfl⟩:∃ n:Nat,et=n:=⟨_,h1⟩;simp only [dq] at h3 hW;have hj:=hjn lb h3;subst hW;refine iX (aF hx) ?_;refine cP S8 hfx ?_;refine dS ?_;refine cD SU Ll ?_;refine cD S4 hj ?_;exact ⟨_,ax,rfl⟩
  | false=>
   rw [hv] at hPx hfx;obtain ⟨en,eb,ea,et,r8,ew,ug,ui,uj,um⟩:=x;refine iX (aF hx) ?_;refine cP S8 hfx ?_
   exact rE ⟨_,by omega,e + 1,rfl,by omega,fun c hc=>by
    rcases eT hc with h | h
    ·exact fv c h
    ·rw [h];exact hPx,rfl⟩ (aq 4 rfl (nF (aK au (by omega))) rfl rfl rfl (dy (aK au (by omega))))
 ·have aS:e=es.length:=sW bJ hL;subst aS;rw [bU fv] at hW;simp only at hW;subst hW;exact ⟨_,ax,rfl⟩
def Ug (o:Option (Nat × Nat)):DV:=match o with
 | some (j,b)=>.tup [.v (.int .i64 (j:Nat)),.v (.int .i64 (b:Nat)),.v (.bool true)]
 | none=>.tup [.v (.int .i64 (-1)),.v (.int .i64 (-1)),.v (.bool false)]
abbrev aaX (PC:List DV) (p:List dm) (i a e:Nat):St:=
 ⟨[(0,⟨[],.pt PC 0⟩),(7,⟨[],.loc 0 0⟩),(18,⟨[],.sl 3 (aT p) none⟩),(19,⟨[],.v (.int .i64 (aT p).length)⟩),(20,⟨[],.v (.int .i64 e)⟩)],[[.v (.int .i64 i),.v (.int .i64 a)]],[]⟩
theorem qN {S:Sch} {ND:List Nd} {PC:List DV} (hP:eZ S ND PC) (p:List dm) (hp:p.length<=1099511627776) (hs:∀ s∈p,s.s.size<=4611686018427387904) (rt:Nat) (vg:fF S=rt) (ez:rt < ND.length) :
  aV prog 76 [.pt PC 0,.sl 3 (aT p) none] (Ug (walkV ND (dL S) S.ae.length p rt (jE (dL S) S.ae.length))):=by
 obtain ⟨LC,Ll,Qk⟩:=hP.Wv;have ox:=hP.root;rw [vg] at ox;have N7:=Qk.bot;have hbl:=Kd Qk.ok;have bd:=fun s hr i a hi ha=>IH hP s hr i a hi ha;have hwd:=walkV_drop ND (dL S) S.ae.length p;have bw:=fun {s i a j b}=>@Sn _ _ Qk.ok _ hP.ok s i a j b;have bJ:=eu p
 have UB:∀ s i a,dA s=false->estW ND (dL S) S.ae.length s i a=none:=fun s i a h=>by
  unfold estW
  cases ND[i]? with
  | none=>rfl
  | some d=>simp [ja,h]
 generalize hR:walkV ND (dL S) S.ae.length p rt (jE (dL S) S.ae.length)=R;have hR0:walkV ND (dL S) S.ae.length (p.drop 0) rt (jE (dL S) S.ae.length)=R:=by rw [List.drop_zero];exact hR
 clear hR;generalize jE (dL S) S.ae.length=bt at N7 hbl hR0;refine eG 42 [.tmp 4,.tmp 5,.tmp 6] func76 rfl ntmps76 rfl fun _ _ _ _=>?_;refine cP en13 ox ?_;refine cP SU Ll ?_;refine cP SV N7 ?_;refine lI (fun j st=>∃ e i a:Nat,st=aaX PC p i a e/\e<=p.length/\i < ND.length/\a < S.ae.length/\walkV ND (dL S) S.ae.length (p.drop e) i a=R/\j=p.length - e) ⟨0,rt,bt,rfl,by omega,ez,hbl,hR0,rfl⟩ (aj ⟨_,rfl⟩ wA rfl rfl rfl wB) ?_;rintro j st ⟨e,i,a,rfl,he,hi,ha,hw,rfl⟩;rw [hwd] at hw;refine br ?_ ?_<;>intro hL
 ·have au:e < p.length:=sV bJ hL;obtain ⟨x,hx⟩:=gX au;have qQ:=hs x (mG hx);have hr:=Gg [x] (sU qQ);rw [zm] at hr;rw [hx] at hw;simp only at hw
  cases Rf:dA x with
  | false=>
   rw [UB x i a Rf] at hw;simp only at hw;subst hw;rw [Rf] at hr;obtain ⟨xk,xn,xt⟩:=x;refine iX (dW hx) ?_;refine cP SX hr ?_;exact ⟨_,ax,rfl⟩
  | true=>
   have zw:=bd x Rf i a hi ha;have hkx:=@bw x i a;rw [Rf] at hr;generalize estW ND (dL S) S.ae.length x i a=o at hw zw hkx;obtain ⟨xk,xn,xt⟩:=x;refine iX (dW hx) ?_;refine cP SX hr ?_;refine cP Yx zw ?_
   cases o with
   | none=>
    simp only at hw;subst hw;exact ⟨_,ax,rfl⟩
   | some r=>
    obtain ⟨j,b⟩:=r;simp only at hw;obtain ⟨h1,h2⟩:=hkx hi ha rfl;exact rE ⟨_,by omega,e + 1,j,b,rfl,by omega,h1,h2,hw,rfl⟩ (aq 1 rfl (nF (aK au (by omega))) rfl rfl rfl (dy (aK au (by omega))))
 ·have aS:p.length<=e:=sV bJ hL;rw [cQ aS] at hw;simp only at hw;subst hw;refine dI ?_;exact ⟨_,ax,rfl⟩
theorem LQ (p:DV):aV prog 76 [.v (.pointer none),p] (Ug none):=by
 refine eG 42 [.tmp 4,.tmp 5,.tmp 6] func76 rfl ntmps76 rfl fun _ _ _ _=>?_;exact ⟨_,ax,rfl⟩
theorem Sp {n0 m0:Nat} {st st':St} (n:Nat) (q r:TkE) (hq:q.new=true) (hr:r.new=true) (hn:Nat.ble n st.bx.length=true) (h3:st.tk ++ [q,r]=st'.tk) (h2:WeLL n st.tk.length st'.tk (st.bx.take n) st'.bx) (h4:Nat.ble n0 n=true) (h5:Nat.ble m0 st.tk.length=true)
  (h:uH n st.tk.length st'.tk st.sl st'.sl):s9 n0 m0 st st':=by
 have hl:(st.bx.take n).length=n:=by
  have:=nL hn;rw [zLenT];omega
 exact ⟨st.tk,[],[q,r],st.bx.take n,st.bx.drop n,by simpa using h5,by rw [hl];simpa using h4,by simp,h3.symm,by simpa using ⟨hq,hr⟩,(List.take_append_drop n st.bx).symm,by rw [hl];exact h2,by rw [hl];exact h⟩
theorem Kf {sz:List Nat} {q:Pl} (h:q.s.k=2):zD sz q=1 + q.s.n.toNat * sz.getD (to0 q.d).toNat 0:=by unfold zD;rw [ai h]
theorem PJ {sz:List Nat} {q:Pl} (h:q.s.k=1):zD sz q=1 + sumE sz q.k q.d.ap 0:=by unfold zD;rw [ah (by omega),ai h]
theorem PK {sz:List Nat} {q:Pl} (h2:q.s.k≠2) (h1:q.s.k≠1):zD sz q=1:=by unfold zD;rw [ah h2,ah h1]
section
variable (PC:List DV) (ND:List Nd) (D:List Nat) (K:List Bool) (sz ot:List Nat) {L:Nat}
abbrev Uh (s:dm) (d:Nd) (m e:Nat):St:=
 ⟨[(0,⟨[],.pt (nj PC ND D K sz ot) 0⟩),(9,⟨[],.loc 1 0⟩),(10,⟨[],.v (.int .i64 m)⟩),(25,⟨[],.v (.int .i64 s.n)⟩),(26,⟨[],.v (.int .i64 e)⟩)],[j3 s,gG d],[]⟩
abbrev aaY (s:dm) (d:Nd) (k m e:Nat):St:=
 ⟨[(0,⟨[],.pt (nj PC ND D K sz ot) 0⟩),(2,⟨[],.v (.int .i64 k)⟩),(10,⟨[],.v (.int .i64 m)⟩),(46,⟨[],.sl 10 (cJ d.ap) none⟩),(47,⟨[],.v (.int .i64 (cJ d.ap).length)⟩),(48,⟨[],.v (.int .i64 e)⟩)],[j3 s,gG d],[]⟩
theorem DA {q:Pl} (hq:uz ND q) (hs:sz.length=ND.length) (hz:∀ z∈sz,z<=4097) (hn:cz L ND.length q.d) (ef:q.d.ap.length<=1099511627776) :
  aV prog 127 [.pt (nj PC ND D K sz ot) 0,.v (.int .i64 q.i),.v (.int .i64 q.k),.agg (j3 q.s)] (.v (.int .i64 (bf (zD sz q):Nat))):=by
 obtain ⟨_,_,k2,_⟩:=lD hq;have eY:=hq.av;have hone:=hn.one;have yQ:=hn.many;have aZ:=hn.fJ;have cY:=hn.bare;have oR:=hn.uY;have e2:=@Kf sz q;have e1:=@PJ sz q;have e0:=@PK sz q;have jK:=(lD hq).1;generalize hX:zD sz q=X at *;obtain ⟨i,d,k,s⟩:=q;obtain ⟨ag,ba,lo,hi,most,af,es⟩:=d;obtain ⟨sk,sn,ss⟩:=s;simp only at *;have bJ:=aW es;refine eG 69 [.tmp 8] func127 rfl ntmps127 rfl fun _ _ _ _=>?_;refine iX (bB eY) ?_;refine br ?_ ?_<;>intro c
 ·have c:sk=2:=sU c;obtain ⟨c5,la,Ac⟩:=k2 c;obtain ⟨x,hx,j7,_⟩:=hone (.inl c5);have zC:es[0]? = some x:=by rw [hx];all_goals rfl
  obtain ⟨t,ht,hY⟩:=(aZ x (by rw [hx];simp)).to1 j7;obtain ⟨z,sD⟩:∃ z,sz[t]? = some z:=⟨_,gE (by omega)⟩;have Xc:=hz z (mG sD)
  have sH:sz.getD (to0 ⟨ag,ba,lo,hi,most,af,es⟩).toNat 0=z:=by
   unfold to0;rw [zC];simp only;rw [ht,dq,aH,sD];all_goals rfl
  have e2:=e2 c;rw [sH] at e2;rw [e2];have oR:=oR c5;refine bA (fun j st=>∃ e:Nat,st=Uh PC ND D K sz ot ⟨sk,sn,ss⟩ ⟨ag,ba,lo,hi,most,af,es⟩ (bf (1 + e * z)) e/\e<=sn.toNat/\j=sn.toNat - e) sn.toNat (Uh PC ND D K sz ot ⟨sk,sn,ss⟩ ⟨ag,ba,lo,hi,most,af,es⟩ 1 0) (aq 2 rfl wA rfl rfl rfl wB) ⟨0,by rw [Nat.zero_mul];rfl,by omega,by omega⟩ ?_;rintro j st ⟨e,rfl,he,rfl⟩;refine br ?_ ?_<;>intro hL
  ·have au:e < sn.toNat:=by
    have:(e:Int) < sn:=sU hL;omega
   have hc:=fH (1 + e * z);have hw:=wrapN (a:=bf (1 + e * z)) (b:=z) (by omega) (by omega);have eU:bf (bf (1 + e * z) + z)=bf (1 + (e + 1) * z):=by rw [uy,Nat.add_mul,Nat.one_mul,Nat.add_assoc]
   refine dI ?_;refine iX (aF zC) ?_;refine ⟨_,⟨by rw [ht];exact cp _,by rw [ht];exact aG sD⟩,?_⟩;refine cD nG (ey (bf (1 + e * z) + z)) ?_ (gU hw);exact rE ⟨_,by omega,e + 1,rfl,by omega,rfl⟩ (aq 2 rfl (gp (aK au (by omega)) eU) rfl rfl rfl (wB2 (aK au (by omega)) eU))
  ·have aS:e=sn.toNat:=by
    have:¬ (e:Int) < sn:=sU hL;omega
   subst aS;exact (rfl:_=_)
 have c:¬ sk=2:=sU c;refine br ?_ ?_<;>intro c1
 ·have c1:sk=1:=sU c1;obtain ⟨c7,_⟩:=jK c1;rw [e1 c1];refine lJ (fun e=>aaY PC ND D K sz ot ⟨sk,sn,ss⟩ ⟨ag,ba,lo,hi,most,af,es⟩ k (bf (1 + sumE sz k (es.take e) 0)) e) es.length (aq 2 rfl wA rfl rfl rfl wB) ?_;intro e he;refine br ?_ ?_<;>intro hL
  ·have au:e < es.length:=sV bJ hL;obtain ⟨x,hx⟩:=gX au;have eU:=BT (sz:=sz) (k:=k) hx
   have j7:x.bare=false:=by
    cases hb:x.bare with
    | false=>rfl
    | true=>have:=cY x (mG hx) hb;omega
   obtain ⟨t,ht,hY⟩:=(aZ x (mG hx)).to1 j7;obtain ⟨z,sD⟩:∃ z,sz[t]? = some z:=⟨_,gE (by omega)⟩;have Xc:=hz z (mG sD);have zB:bZ sz x=z:=by unfold bZ;rw [ht,dq,aH,sD];all_goals rfl
   have hc:=fH (1 + sumE sz k (es.take e) 0);have hw:=wrapN (a:=bf (1 + sumE sz k (es.take e) 0)) (b:=z) (by omega) (by omega);refine iX (aF hx) ?_;refine br ?_ ?_<;>intro g
   ·have g:¬ e=k:=by
     intro V4;rw [V4] at g;simp at g
    have sj:bf (bf (1 + sumE sz k (es.take e) 0) + z)=bf (1 + sumE sz k (es.take (e + 1)) 0):=by rw [uy,eU,ah g,zB,Nat.add_assoc]
    refine dI ?_;refine ⟨_,⟨by rw [ht];exact cp _,by rw [ht];exact aG sD⟩,?_⟩;refine cD nG (ey (bf (1 + sumE sz k (es.take e) 0) + z)) ?_ (gU hw);exact rE ⟨_,by omega,e + 1,rfl,by omega,rfl⟩ (aq 2 rfl (gp (aK au (by omega)) sj) rfl rfl rfl (wB2 (aK au (by omega)) sj))
   ·have g:e=k:=by
     have:(e:Int)=k:=sU g;omega
    have sj:1 + sumE sz k (es.take e) 0=1 + sumE sz k (es.take (e + 1)) 0:=by rw [eU,ai g,Nat.add_zero]
    exact rE ⟨_,by omega,e + 1,rfl,by omega,rfl⟩ (aq 2 rfl (gp (aK au (by omega)) (congrArg (fun n:Nat=>((bf n:Nat):Int)) sj)) rfl rfl rfl (wB2 (aK au (by omega)) (congrArg (fun n:Nat=>((bf n:Nat):Int)) sj)))
  ·have aS:e=es.length:=sW bJ hL;subst aS;rw [List.take_length];exact (rfl:_=_)
 ·have c1:¬ sk=1:=sU c1;rw [e0 c c1];exact (rfl:_=_)
end
theorem zo (L:List Nat) (e:Nat):dInts L ++ [[DV.v (.int .i64 (e:Nat))]]=dInts (L ++ [e]):=by simp [dInts]
abbrev Gh (l:List Pl):List Nat:=l.map Pl.i
abbrev Gi (l:List Pl):List Nat:=l.map Pl.k
theorem PL {l:List Pl} {e:Nat} {q:Pl} (h:l[e]? = some q):dInts (Gh (l.take e)) ++ [[DV.v (.int .i64 (q.i:Nat))]]=dInts (Gh (l.take (e + 1))):=by
 rw [dJ h,Gh,Gh,List.map_append,zo];all_goals rfl
theorem PM {l:List Pl} {e:Nat} {q:Pl} (h:l[e]? = some q):dInts (Gi (l.take e)) ++ [[DV.v (.int .i64 (q.k:Nat))]]=dInts (Gi (l.take (e + 1))):=by
 rw [dJ h,Gi,Gi,List.map_append,zo];all_goals rfl
section
variable (PC:List DV) (p:List dm) (l:List Pl)
abbrev aaZ (e n m:Nat):St:=
 ⟨[(0,⟨[],.pt PC 0⟩),(1,⟨[],.sl 3 (aT p) none⟩),(4,⟨[],.sl 1 (dInts (Gh (l.take e))) (some 0)⟩),(5,⟨[],.sl 1 (dInts (Gi (l.take e))) (some 1)⟩),(14,⟨[],.sl 3 (aT p) none⟩),(15,⟨[],.v (.int .i64 (aT p).length)⟩),(16,⟨[],.v (.int .i64 e)⟩)],[],[⟨n,3,1,none⟩,⟨m,3,1,none⟩]⟩
abbrev Wz (q:Pl) (e c:Nat):St:=
 ⟨[(0,⟨[],.pt PC 0⟩),(1,⟨[],.sl 3 (aT p) none⟩),(4,⟨[],.sl 1 (dInts (Gh (l.take e))) (some 0)⟩),(5,⟨[],.sl 1 (dInts (Gi (l.take e))) (some 1)⟩),(7,⟨[],.loc 0 0⟩),(8,⟨[],.v (.int .i64 q.i)⟩),(11,⟨[],.loc 1 0⟩),(13,⟨[],.v (.int .i64 c)⟩),(14,⟨[],.sl 3 (aT p) none⟩),(15,⟨[],.v (.int .i64 (aT p).length)⟩),(16,⟨[],.v (.int .i64 e)⟩)],[j3 q.s,gG q.d],[⟨e,3,1,none⟩,⟨e,3,1,none⟩]⟩
end
theorem sm {S:Sch} {ND:List Nd} {PC:List DV} (hP:eZ S ND PC) (bT:∀ n∈ND,n.ap.length<=1099511627776) (p:List dm) (hp:p.length<=1099511627776) (hs:∀ s∈p,s.s.size<=4611686018427387904) (rt:Nat) (vg:fF S=rt) (ez:rt < ND.length)
  {r:Nat × Nat} (hr:walkV ND (dL S) S.ae.length p rt (jE (dL S) S.ae.length)=some r) :
  aV prog 125 [.pt PC 0,.sl 3 (aT p) none] (.tup [.sl 1 (dInts (Gh (stpsV ND p rt))) none,.sl 1 (dInts (Gi (stpsV ND p rt))) none]):=by
 have hw:=fun q hq jk=>qN hP q hq jk rt vg ez;have lZ:=eu p;obtain ⟨yc,nP⟩:=oP p rt _ hr;generalize stpsV ND p rt=l at yc nP ⊢;generalize jE (dL S) S.ae.length=bt at nP hw;refine eG 66 [.tmp 4,.tmp 5] func125 rfl ntmps125 rfl fun _ _ _ _=>?_;refine lJ (fun e=>aaZ PC p l e e e) p.length (Sp 0 ⟨0,3,1,none⟩ ⟨0,3,1,none⟩ rfl rfl rfl rfl pO rfl rfl lX) ?_;intro e he;refine br ?_ ?_<;>intro hL
 ·have au:e < p.length:=sV lZ hL;obtain ⟨s,uN⟩:=gX au;obtain ⟨q,b,hq,LH,bw,hwq⟩:=nP e s uN;have jK:=hw (p.take e) (by rw [zLenT];omega) (fun x hx=>hs x (List.mem_of_mem_take hx));rw [hwq] at jK;have jK:aV prog 76 [.pt PC 0,.sl 3 (aT (p.take e)) none] (.tup [.v (.int .i64 (q.i:Nat)),.v (.int .i64 (b:Nat)),.v (.bool true)]):=jK
  have ht1:DV.sl 3 (((aT p).take ((e:Nat):Int).toNat).drop (0:Int).toNat) none = .sl 3 (aT (p.take e)) none:=by
   rw [dq];show DV.sl 3 ((aT p).take e) none=_;unfold aT;rw [List.map_take]
  have hN:=hP.ok _ (mG bw.av);have DG:=bT _ (mG bw.av);have eY:=hP.av _ _ bw.av;have dR:=Sj hN bw
  have ej:q.k < q.d.ap.length:=by
   obtain ⟨x,hx,_⟩:=gh bw.fJ;exact (gS hx).1
  have hI:=PL hq;have hK:=PM hq;have fo:(dInts (Gh (l.take e))).length=e:=by rw [bi,List.length_map,zLenT];omega
  have c9:(dInts (Gi (l.take e))).length=e:=by rw [bi,List.length_map,zLenT];omega
  have eU:=aK au (show p.length<=4611686018427387904 by omega);subst LH;obtain ⟨i,d,k,s⟩:=q;obtain ⟨ag,ba,lo,hi,most,af,es⟩:=d;obtain ⟨sk,sn,ss⟩:=s;simp only at dR ej jK eY DG uN hI hK;have bJ:=aW es;refine iX (dW uN) ?_;refine ⟨⟨by omega,by omega,by omega⟩,?_⟩;refine cP zP jK ?_ (gU ht1);refine cP G8 eY ?_;refine br ?_ ?_<;>intro c
  ·have c:sk=1∨sk=5:=by simpa [ay] using c
   rw [ai c] at dR;obtain ⟨_,Vo,hpb⟩:=cL dR;refine lJ (fun c=>Wz PC p l ⟨i,⟨ag,ba,lo,hi,most,af,es⟩,k,⟨sk,sn,ss⟩⟩ e c) k (aq 2 rfl wA rfl rfl rfl wB) ?_;intro c hc;obtain ⟨x,hx⟩:∃ x,es[c]? = some x:=⟨_,gE (by omega)⟩;have hP2:zn es ss c=decide (x.name=ss):=by unfold zn;rw [hx]
   refine dI ?_;refine iX (aF hx) ?_;refine br ?_ ?_<;>intro g
   ·have gn:¬ x.name=ss:=sU g
    have lh:c < k:=by
     rcases Nat.lt_or_ge c k with h | h
     ·exact h
     ·have:c=k:=by omega
      subst this;rw [hP2] at Vo;exact (gn (of_decide_eq_true Vo)).elim
    exact rE ⟨_,by omega,c + 1,rfl,by omega,rfl⟩ (aq 2 rfl (nF (aK lh (by omega))) rfl rfl rfl (dy (aK lh (by omega))))
   ·have gn:x.name=ss:=sU g
    have hck:c=k:=by
     rcases Nat.lt_or_ge c k with h | h
     ·have:=hpb c h;rw [hP2] at this;exact (of_decide_eq_false this gn).elim
     ·omega
    subst hck;refine ⟨fo,⟨by rw [fo];simp [maxLen];omega,by rw [fo];simp;omega⟩,?_⟩;refine ⟨c9,⟨by rw [c9];simp [maxLen];omega,by rw [c9];simp;omega⟩,?_⟩;exact rE ⟨_,by omega,e + 1,rfl,by omega,rfl⟩ (aq 0 rfl (UN eU hI hK) rfl rfl rfl (Ap eU hI hK))
  ·have c:¬ (sk=1∨sk=5):=by simpa [ay] using c
   rw [ah c] at dR;subst dR;refine ⟨fo,⟨by rw [fo];simp [maxLen];omega,by rw [fo];simp;omega⟩,?_⟩;refine ⟨c9,⟨by rw [c9];simp [maxLen];omega,by rw [c9];simp;omega⟩,?_⟩;exact rE ⟨_,by omega,e + 1,rfl,by omega,rfl⟩ (aq 0 rfl (UN eU hI hK) rfl rfl rfl (Ap eU hI hK))
 ·have aS:e=p.length:=sW lZ hL;subst aS;rw [<- yc,List.take_length];exact ⟨_,ax,rfl⟩
theorem all_false {α:Type} {f:α->Bool} {l:List α} {e:Nat} {x:α} (h:l[e]? = some x) (hf:f x=false):l.all f=false:=by
 rw [List.all_eq_false];exact ⟨x,mG h,by simp [hf]⟩
theorem BW {D:List Nat} {k:Nat} {es:List Ed} {e:Nat} {x:Ed} (h:es[e]? = some x):nO D k (es.take (e + 1)) 0=(nO D k (es.take e) 0 && (decide (e=k) || decide (bZ D x≠0))):=by
 have hl:=(gS h).1;rw [dJ h,BV,zLenT,Nat.min_eq_left (by omega),Nat.zero_add]
section
variable (PC:List DV) (ND:List Nd) (D:List Nat) (K:List Bool) (sz ot:List Nat) (p:List dm) (l:List Pl)
abbrev aa0 (e:Nat):St:=
 ⟨[(0,⟨[],.pt (nj PC ND D K sz ot) 0⟩),(5,⟨[],.sl 1 (dInts (Gh l)) none⟩),(6,⟨[],.sl 1 (dInts (Gi l)) none⟩),(20,⟨[],.sl 3 (aT p) none⟩),(21,⟨[],.v (.int .i64 (aT p).length)⟩),(22,⟨[],.v (.int .i64 e)⟩)],[],[]⟩
abbrev II (q:Pl) (e c:Nat):St:=
 ⟨[(0,⟨[],.pt (nj PC ND D K sz ot) 0⟩),(5,⟨[],.sl 1 (dInts (Gh l)) none⟩),(6,⟨[],.sl 1 (dInts (Gi l)) none⟩),(7,⟨[],.v (.int .i64 e)⟩),(8,⟨[],.loc 0 0⟩),(20,⟨[],.sl 3 (aT p) none⟩),(21,⟨[],.v (.int .i64 (aT p).length)⟩),(22,⟨[],.v (.int .i64 e)⟩),(40,⟨[],.sl 10 (cJ q.d.ap) none⟩),(41,⟨[],.v (.int .i64 (cJ q.d.ap).length)⟩),(42,⟨[],.v (.int .i64 c)⟩)],[j3 q.s],[]⟩
end
theorem Gj {S:Sch} {ND:List Nd} {PC:List DV} (D:List Nat) (K:List Bool) (sz ot:List Nat) (hP:eZ S ND PC) (hD:D.length=ND.length) (bT:∀ n∈ND,n.ap.length<=1099511627776) (p:List dm) (hp:p.length<=1099511627776) (hs:∀ s∈p,s.s.size<=4611686018427387904) (rt:Nat) (vg:fF S=rt) (ez:rt < ND.length)
  {r:Nat × Nat} (hr:walkV ND (dL S) S.ae.length p rt (jE (dL S) S.ae.length)=some r) :
  aV prog 124 [.pt (nj PC ND D K sz ot) 0,.sl 3 (aT p) none] (.v (.bool ((stpsV ND p rt).all (iQ D)))):=by
 have nD:=sm hP bT p hp hs rt vg ez hr;have lZ:=eu p;obtain ⟨yc,nP⟩:=oP p rt _ hr;generalize stpsV ND p rt=l at yc nP nD ⊢;have aa1:(dInts (Gh l)).length=p.length:=by rw [bi,List.length_map,yc]
 have aa2:(dInts (Gi l)).length=p.length:=by rw [bi,List.length_map,yc]
 refine eG 71 [.tmp 4] func124 rfl ntmps124 rfl fun _ _ _ _=>?_;refine cP SR nD ?_;refine lI (fun j st=>∃ e:Nat,st=aa0 PC ND D K sz ot p l e/\e<=p.length/\(l.take e).all (iQ D)=true/\j=p.length - e) ⟨0,rfl,by omega,rfl,rfl⟩ (aq 0 rfl wA rfl rfl rfl wB) ?_;rintro j st ⟨e,rfl,he,nE,rfl⟩;refine br ?_ ?_<;>intro hL
 ·have au:e < p.length:=sV lZ hL;obtain ⟨s,uN⟩:=gX au;obtain ⟨q,b,hq,LH,bw,hwq⟩:=nP e s uN;have eU:=aK au (show p.length<=4611686018427387904 by omega);have hN:=hP.ok _ (mG bw.av);have DG:=bT _ (mG bw.av);have eY:=bw.av;have aZ:=hN.fJ;have cY:=hN.bare;have hk7:=(lD bw).1;have hA:iQ D q=(decide (q.s.k≠3) && (decide (q.s.k≠1) || nO D q.k q.d.ap 0)):=rfl;have WA:=fun h=>all_false (f:=iQ D) hq h;have lg:iQ D q=true->(l.take (e + 1)).all (iQ D)=true:=fun h=>by rw [dJ hq,List.all_append,nE,List.all_cons,h];all_goals rfl
  have Pa:(dInts (Gh l))[e]? = some [.v (.int .i64 ((q.i:Nat):Int))]:=aG (by rw [List.getElem?_map,hq];rfl);have Ui:(dInts (Gi l))[e]? = some [.v (.int .i64 ((q.k:Nat):Int))]:=aG (by rw [List.getElem?_map,hq];rfl);subst LH;generalize hAg:iQ D q=A at hA WA lg;obtain ⟨i,d,k,s⟩:=q;obtain ⟨ag,ba,lo,hi,most,af,es⟩:=d;obtain ⟨sk,sn,ss⟩:=s;simp only at hA eY DG uN Pa Ui aZ cY hk7;have bJ:=aW es;refine iX (dW uN) ?_;refine br ?_ ?_<;>intro c
  ·have c:sk=3:=sU c;rw [WA (by rw [hA];simp [c])];exact (rfl:_=_)
  have c3:¬ sk=3:=sU c;refine dI ?_;refine ⟨_,⟨by omega,Pa⟩,?_⟩;refine iX (bB eY) ?_;refine lI (fun j st=>∃ c:Nat,st=II PC ND D K sz ot p l ⟨i,⟨ag,ba,lo,hi,most,af,es⟩,k,⟨sk,sn,ss⟩⟩ e c/\c<=es.length/\(sk=1->nO D k (es.take c) 0=true)/\j=es.length - c) ⟨0,rfl,by omega,fun _=>rfl,rfl⟩ (aq 1 rfl wA rfl rfl rfl wB) ?_;rintro j st ⟨c,rfl,hc,nM,rfl⟩;refine br ?_ ?_<;>intro kP
  ·have lh:c < es.length:=sV bJ kP;obtain ⟨x,hx⟩:=gX lh;have Sq:=BW (D:=D) (k:=k) hx;refine iX (aF hx) ?_;have BL:(sk=1->(decide (c=k) || decide (bZ D x≠0))=true)->(sk=1->nO D k (es.take (c + 1)) 0=true):=fun h h1=>by rw [Sq,nM h1,h h1];all_goals rfl
   have j7:sk=1->x.bare=false:=fun h1=>by
    obtain ⟨h7,_⟩:=hk7 h1
    cases hb:x.bare with
    | false=>rfl
    | true=>have:=cY x (mG hx) hb;omega
   refine dI ?_;refine br ?_ ?_<;>intro c1
   ·have c1:sk=1:=sU c1;obtain ⟨t,ht,hY⟩:=(aZ x (mG hx)).to1 (j7 c1);obtain ⟨z,sD⟩:∃ z,D[t]? = some z:=⟨_,gE (by omega)⟩;have zB:bZ D x=z:=by unfold bZ;rw [ht,dq,aH,sD];all_goals rfl
    refine ⟨_,⟨by omega,Ui⟩,?_⟩;refine br ?_ ?_<;>intro g
    ·have gn:¬ c=k:=by
      intro hck;rw [hck] at g;simp [pickB] at g
     refine ⟨_,⟨by rw [ht];exact cp _,by rw [ht];exact aG sD⟩,?_⟩;refine br ?_ ?_<;>intro g0
     ·have g0:z=0:=by
       have:((z:Nat):Int)=0:=by simpa [pickB] using g0
       omega
      have hAf:A=false:=by
       rw [hA]
       cases ho:nO D k es 0 with
       | false=>simp [c1]
       | true=>exact (kY.1 ho c x hx (by omega) (by rw [zB,g0])).elim
      rw [WA hAf];exact (rfl:_=_)
     ·have g0:¬ z=0:=by
       intro hz0;rw [hz0] at g0;simp [pickB] at g0
      exact ⟨II PC ND D K sz ot p l ⟨i,⟨ag,ba,lo,hi,most,af,es⟩,k,⟨sk,sn,ss⟩⟩ e (c + 1),(aq 1 rfl (nF (aK lh (by omega))) rfl rfl rfl (dy (aK lh (by omega)))),es.length - (c + 1),by omega,c + 1,rfl,by omega,BL (fun _=>by rw [zB];simp [g0]),rfl⟩
    ·have gn:c=k:=by
      have:(c:Int)=k:=by simpa [pickB] using g
      omega
     exact ⟨II PC ND D K sz ot p l ⟨i,⟨ag,ba,lo,hi,most,af,es⟩,k,⟨sk,sn,ss⟩⟩ e (c + 1),(aq 1 rfl (nF (aK lh (by omega))) rfl rfl rfl (dy (aK lh (by omega)))),es.length - (c + 1),by omega,c + 1,rfl,by omega,BL (fun _=>by simp [gn]),rfl⟩
   ·have c1:¬ sk=1:=sU c1;exact rE ⟨_,by omega,c + 1,rfl,by omega,BL (fun h=>(c1 h).elim),rfl⟩ (aq 1 rfl (nF (aK lh (by omega))) rfl rfl rfl (dy (aK lh (by omega))))
  ·have aS:c=es.length:=sW bJ kP;subst aS;rw [List.take_length] at nM
   have hAt:A=true:=by
    rw [hA];by_cases h1:sk=1
    ·simp [h1,nM h1]
    ·simp [h1,c3]
   exact rE ⟨_,by omega,e + 1,rfl,by omega,lg hAt,rfl⟩ (aq 0 rfl (nF eU) rfl rfl rfl (dy eU))
 ·have aS:e=p.length:=sW lZ hL;subst aS;rw [<- yc,List.take_length] at nE;rw [nE];exact (rfl:_=_)
end Go.Proofs.YtadhpeooehkklaaGreat
