/- Part 7 of the proof: A region that draws its order, run by a schedule: at each point all that may come and has an effect is tried; Regions that draw their order, in which two new objects may come in either order; Sample: make1: all sizes; Rules for the evaluator: calls that hand back fresh rows; Rules for the evaluator: elements of rows whose cells nobody else knows, read and written whole; Rules for the evaluator: a slice literal without elements, its cells known; Rules for the evaluator: a slice literal, its cells known; A contract that hands back a fresh row is one of data alone, too; Paths of a value: plain; tree.steps; Where steps lead in a value, and that value with another one there: plain; tree: slices.Index of steps, kid, clone, Get; tree: put, Set; Sample: one: first values; Sample: two: second values; Sample: fits, First, Second; no plan; A lattice, as its readers know it; Leq; joins are the document's; Where steps lead in a plan, and how places are seen, plain; The first edge of a name; Values along paths: what stands beside, what is alive, the value itself: plain; The document's Bottom, Right of paths; the program's Right of paths; Where steps lead: the document's Edge, Walk; the program's; The program's way along steps: fits, step, Walk; Sample: what stands beside, the nodes and edges of a path, what is alive; With which schemas nothing is wrong: the document's Wrong of chapters 20, 21; the law's fine; Which levels see a place: the program's Who; Sample: the nodes and edges of a path, what is alive. No condition. -/
import Derived.Test.YtadhpeooehkklaaGreatMg2
import Derived.Test.YtadhpeooehkklaaGreatMg4
import Derived.Test.YtadhpeooehkklaaGreatMg5
import Derived.Test.YtadhpeooehkklaaGreatMg6
set_option linter.all false
namespace Go.Proofs.YtadhpeooehkklaaGreat
namespace Dv
open Go Go.RowKit
inductive kF
 | fin
 | op (i:Nat) (t:kF)
 | ev (i:Nat) (t alt:kF)
 | stop
section
variable {P:Program} {ops:Array Oper} {C:World->Prop} {Q:Act->World->Prop} {W:Nat->Bool}
def rdy (ops:Array Oper) (rem:List Nat) (i:Nat):Bool:=
 match ops[i]? with
 | some o=>o.after.toList.all fun e=>!Region.binds .any e || !rem.contains e.on
 | none=>false
def Rf (ops:Array Oper) (i:Nat):Bool:=match ops[i]? with | some o=>fW o.op | none=>false
def chkA (ops:Array Oper):kF->List Nat->Option (List Nat)->Bool
 | .fin,rem,m=>m.isNone && rem.isEmpty
 | .op i t,rem,m=>m.isNone && (rem.contains i && (!Rf ops i && (rdy ops rem i && chkA ops t (rem.erase i) none)))
 | .ev i t alt,rem,m=>rem.contains i && (Rf ops i && (rdy ops rem i && (chkA ops t (rem.erase i) none && chkA ops alt rem (some (i :: m.getD [])))))
 | .stop,rem,m=>match m with
  | some seen=>rem.all fun j=>!rdy ops rem j || seen.contains j
  | none=>false
def Cv (ops:Array Oper) (W:Nat->Bool):Bool:=
 (List.range ops.size).all fun i=>(List.range ops.size).all fun j=>
  Nat.beq i j || ordB ops ops.size i j || ordB ops ops.size j i || (Rf ops i && Rf ops j) || (fv ops W j i && fv ops W i j)
def runS (P:Program) (ops:Array Oper) (W:Nat->Bool) (C:World->Prop) (Q:Act->World->Prop):kF->Act->World->Prop
 | .fin,a,w=>Q a w
 | .op i t,a,w=>∃ o,ops[i]? = some o/\∃ v,Yl P ops C o v a/\(jR o.op=true->C w)/\runS P ops W C Q t (a.put o.dst v) w
 | .ev i t alt,a,w=>(∃ o,ops[i]? = some o/\dC P ops o a w fun a' w'=>(W i=false->C w->C w')/\runS P ops W C Q t a' w')/\runS P ops W C Q alt a w
 | .stop,_,_=>True
def Rg (P:Program) (ops:Array Oper) (W:Nat->Bool) (C:World->Prop) (Q:Act->World->Prop) (rem:List Nat) (a:Act) (w:World):Prop:=∃ T,chkA ops T rem none=true/\runS P ops W C Q T a w
def Cl (ops:Array Oper) (rem:List Nat):Prop:=∀ (k:Nat) o,ops[k]? = some o->k ∉ rem->∀ e∈o.after,Region.binds .any e=true->e.on ∉ rem
theorem lU {rem:List Nat} {i:Nat} (h:rdy ops rem i=true):∃ o,ops[i]? = some o/\∀ e∈o.after,Region.binds .any e=true->e.on ∉ rem:=by
 unfold rdy at h;split at h
 ·rename_i o ho;refine ⟨o,ho,fun e he hb=>?_⟩;have:=List.all_eq_true.1 h e (sU he);rw [hb] at this;simpa using this
 ·cases h
theorem oS {rem:List Nat} {i j:Nat} (h:rdy ops rem i=true):rdy ops (rem.erase j) i=true:=by
 obtain ⟨o,ho,ha⟩:=lU h;unfold rdy;rw [ho];simp only [List.all_eq_true,Bool.or_eq_true,Bool.not_eq_true'];intro e he;cases hb:Region.binds .any e
 ·exact .inl rfl
 ·right;have:=ha e (sU he) hb;simp only [List.contains_eq_mem,decide_eq_false_iff_not];exact fun hm=>this (List.mem_of_mem_erase hm)
theorem yf {rem:List Nat} (hn:rem.Nodup) (hc:Cl ops rem) {i:Nat} (h:rdy ops rem i=true):Cl ops (rem.erase i):=by
 intro k o ho hk e he hb hm;have lA:=List.mem_of_mem_erase hm;by_cases ke:k=i
 ·subst ke;obtain ⟨o',Bg,ha⟩:=lU h;rw [ho] at Bg;simp only [oI] at Bg;subst Bg;exact ha e he hb lA
 ·exact hc k o ho (fun hkm=>hk ((List.mem_erase_of_ne ke).2 hkm)) e he hb lA
theorem HH {rem:List Nat} (hc:Cl ops rem):∀ (n:Nat) (j k:Nat) o,ops[k]? = some o->(∀ e∈o.after,Region.binds .any e=true->e.on ∉ rem)->ordB ops n j k=true->j ∉ rem
 | 0,j,k,o,_,_,h=>by simp [ordB] at h
 | n + 1,j,k,o,ho,fo,h=>by
  simp only [ordB,ho,List.any_eq_true,Bool.and_eq_true,Bool.or_eq_true] at h;obtain ⟨e,he,hb,hj⟩:=h;have pF:e∈o.after:=sU he;have h1:=fo e pF hb;rcases hj with hj | hj
  ·have:e.on=j:=sU hj;rw [<- this];exact h1
  ·cases PN:ops[e.on]? with
   | none=>
    cases n with
    | zero=>simp [ordB] at hj
    | succ n=>simp [ordB,PN] at hj
   | some o'=>exact HH hc n j e.on o' PN (hc e.on o' PN h1) hj
theorem EX {rem:List Nat} (hP:Cv ops W=true) (hc:Cl ops rem) {i j:Nat} (hi:rdy ops rem i=true) (hj:rdy ops rem j=true) (l4:i∈rem) (u6:j∈rem) (jj:i≠j) (TN:Rf ops i=false∨Rf ops j=false):fv ops W j i=true:=by
 obtain ⟨o,ho,ha⟩:=lU hi;obtain ⟨o',Bg,ha'⟩:=lU hj;simp only [Cv,List.all_eq_true,List.mem_range] at hP;have h1:=hP i (Array.getElem?_eq_some_iff.1 ho).1 j (Array.getElem?_eq_some_iff.1 Bg).1;simp only [Bool.or_eq_true,Bool.and_eq_true,Nat.beq_eq] at h1;rcases h1 with (((h1 | h1) | h1) | h1) | h1
 ·exact (jj h1).elim
 ·exact (HH hc _ _ _ o' Bg ha' h1 l4).elim
 ·exact (HH hc _ _ _ o ho ha h1 u6).elim
 ·rcases TN with h | h
  ·rw [h] at h1;simp at h1
  ·rw [h] at h1;simp at h1
 ·exact h1.1
theorem Cw {i:Nat} {o:Oper} (h:ops[i]? = some o):Rf ops i=fW o.op:=by unfold Rf;rw [h]
theorem AS (dc:∀ (j:Nat) (o:Oper) cs b,ops[j]? = some o->o.op ≠ .select cs b) (hP:Cv ops W=true) {i:Nat} {o:Oper} (hi:ops[i]? = some o) (hE:fW o.op=false) :
  ∀ (T:kF) (rem:List Nat) (a:Act) (w:World),rem.Nodup->Cl ops rem->chkA ops T rem none=true->runS P ops W C Q T a w->i∈rem->rdy ops rem i=true ->
   ∃ v,Yl P ops C o v a/\(jR o.op=true->C w)/\Rg P ops W C Q (rem.erase i) (a.put o.dst v) w
 | .fin,rem,a,w,_,_,hc,_,l4,_=>by
  simp only [chkA,Bool.and_eq_true,List.isEmpty_iff] at hc;rw [hc.2] at l4;cases l4
 | .stop,rem,a,w,_,_,hc,_,_,_=>by simp [chkA] at hc
 | .ev j t alt,rem,a,w,hn,eD,hc,hr,l4,Oy=>by
  exfalso
  have key:∀ (T:kF) (seen:List Nat),(∀ k∈seen,Rf ops k=true)->chkA ops T rem (some seen)=true->False:=by
   intro T
   induction T with
   | fin=>intro seen _ h;simp [chkA] at h
   | op=>intro seen _ h;simp [chkA] at h
   | ev k t alt _ ih=>
    intro seen hs h;simp only [chkA,Bool.and_eq_true,Option.getD_some] at h
    exact ih (k :: seen) (fun q hq=>by
     rcases List.mem_cons.1 hq with rfl | hq
     ·exact h.2.1
     ·exact hs q hq) h.2.2.2.2
   | stop=>
    intro seen hs h;simp only [chkA,List.all_eq_true,Bool.or_eq_true,Bool.not_eq_true'] at h;rcases h i l4 with h1 | h1
    ·rw [Oy] at h1;cases h1
    ·have:=hs i (sU h1);rw [Cw hi,hE] at this;cases this
  simp only [chkA,Bool.and_eq_true,Option.getD_none] at hc;exact key alt [j] (fun k hk=>by rw [List.mem_singleton] at hk;rw [hk];exact hc.2.1) hc.2.2.2.2
 | .op j t,rem,a,w,hn,eD,hc,hr,l4,Oy=>by
  simp only [chkA,Bool.and_eq_true,Bool.not_eq_true'] at hc;obtain ⟨_,u6,Lm,Vz,Li⟩:=hc;have u6:j∈rem:=sU u6;simp only [runS] at hr;obtain ⟨y,hy,v,Ib,hyc,yI⟩:=hr;by_cases jj:i=j
  ·subst jj;rw [hi] at hy;simp only [oI] at hy;subst hy;exact ⟨v,Ib,hyc,t,Li,yI⟩
  ·have tK:=EX hP eD Oy Vz l4 u6 jj (.inr Lm);obtain ⟨F6,Lf,_,_⟩:=dZ tK hy hi;obtain ⟨u,hu,huc,T',hT',Rh⟩:=AS dc hP hi hE t (rem.erase j) (a.put y.dst v) w (hn.erase j) (yf hn eD Vz) Li yI ((List.mem_erase_of_ne jj).2 l4) (oS Oy);have zt:=fun cs b=>dc i o cs b hi;have Wn:=fun cs b=>dc j y cs b hy;obtain ⟨_,hdd,_⟩:=Oper.apart_spec F6;refine ⟨u,(Yl.same F6 zt).1 hu,huc,.op j T',?_,?_⟩
   ·simp only [chkA,Bool.and_eq_true,Bool.not_eq_true'];refine ⟨rfl,?_,Lm,oS Vz,?_⟩
    ·simpa using (List.mem_erase_of_ne (Ne.symm jj)).2 u6
    ·rw [List.erase_comm];exact hT'
   ·simp only [runS];refine ⟨y,hy,v,(Yl.same Lf Wn).2 Ib,hyc,?_⟩;rw [<- Act.put_comm a v u hdd];exact Rh
theorem EY {e:Nat}:∀ (T:kF) (rem:List Nat) (seen:List Nat) (a:Act) (w:World),chkA ops T rem (some seen)=true->runS P ops W C Q T a w->e∈rem->rdy ops rem e=true->e ∉ seen ->
  ∃ o t,ops[e]? = some o/\chkA ops t (rem.erase e) none=true/\dC P ops o a w fun a' w'=>(W e=false->C w->C w')/\runS P ops W C Q t a' w'
 | .fin,rem,seen,a,w,hc,_,_,_,_=>by simp [chkA] at hc
 | .op _ _,rem,seen,a,w,hc,_,_,_,_=>by simp [chkA] at hc
 | .stop,rem,seen,a,w,hc,_,hm,hr,hs=>by
  simp only [chkA,List.all_eq_true,Bool.or_eq_true,Bool.not_eq_true'] at hc;rcases hc e hm with h | h
  ·rw [hr] at h;cases h
  ·exact (hs (sU h)).elim
 | .ev i t alt,rem,seen,a,w,hc,hr,hm,Oy,hs=>by
  simp only [chkA,Bool.and_eq_true,Option.getD_some] at hc;simp only [runS] at hr;obtain ⟨⟨o,ho,aR⟩,hra⟩:=hr;by_cases yA:i=e
  ·subst yA;exact ⟨o,t,ho,hc.2.2.2.1,aR⟩
  ·exact EY alt rem (i :: seen) a w hc.2.2.2.2 hra hm Oy (fun h=>by
    rcases List.mem_cons.1 h with h | h
    ·exact yA h.symm
    ·exact hs h)
theorem Jg (dc:∀ (j:Nat) (o:Oper) cs b,ops[j]? = some o->o.op ≠ .select cs b) (hP:Cv ops W=true) {i:Nat} {o:Oper} (hi:ops[i]? = some o) (hE:fW o.op=true) :
  ∀ (T:kF) (rem:List Nat) (a:Act) (w:World),rem.Nodup->Cl ops rem->chkA ops T rem none=true->runS P ops W C Q T a w->i∈rem->rdy ops rem i=true ->
   dC P ops o a w (fun a' w'=>(W i=false->C w->C w')/\Rg P ops W C Q (rem.erase i) a' w')
 | .fin,rem,a,w,_,_,hc,_,l4,_=>by
  simp only [chkA,Bool.and_eq_true,List.isEmpty_iff] at hc;rw [hc.2] at l4;cases l4
 | .stop,rem,a,w,_,_,hc,_,_,_=>by simp [chkA] at hc
 | .ev j t alt,rem,a,w,hn,eD,hc,hr,l4,Oy=>by
  simp only [chkA,Bool.and_eq_true,Option.getD_none] at hc;simp only [runS] at hr;obtain ⟨⟨y,hy,aR⟩,hra⟩:=hr;by_cases jj:i=j
  ·subst jj;rw [hi] at hy;simp only [oI] at hy;subst hy;exact cy (fun a' w' h=>⟨h.1,t,hc.2.2.2.1,h.2⟩) aR
  ·obtain ⟨o',t',Bg,Li,hs⟩:=EY alt rem [j] a w hc.2.2.2.2 hra l4 Oy (sU jj);rw [hi] at Bg;simp only [oI] at Bg;subst Bg;exact cy (fun a' w' h=>⟨h.1,t',Li,h.2⟩) hs
 | .op j t,rem,a,w,hn,eD,hc,hr,l4,Oy=>by
  simp only [chkA,Bool.and_eq_true,Bool.not_eq_true'] at hc;obtain ⟨_,u6,Lm,Vz,Li⟩:=hc;have u6:j∈rem:=sU u6;simp only [runS] at hr;obtain ⟨y,hy,v,Ib,hyc,yI⟩:=hr
  have jj:i≠j:=by
   rintro rfl;rw [Cw hi,hE] at Lm;cases Lm
  have tK:=EX hP eD Oy Vz l4 u6 jj (.inr Lm);obtain ⟨F6,Lf,_,WO⟩:=dZ tK hy hi;have zt:=fun cs b=>dc i o cs b hi;have Wn:=fun cs b=>dc j y cs b hy;have ih:=Jg dc hP hi hE t (rem.erase j) (a.put y.dst v) w (hn.erase j) (yf hn eD Vz) Li yI ((List.mem_erase_of_ne jj).2 l4) (oS Oy);refine cy ?_ (iS ((jZ F6 zt).1 ih));rintro a' w' ⟨⟨ow,T',hT',Rh⟩,u,rfl⟩;refine ⟨ow,.op j T',?_,?_⟩
  ·simp only [chkA,Bool.and_eq_true,Bool.not_eq_true'];refine ⟨rfl,?_,Lm,oS Vz,?_⟩
   ·simpa using (List.mem_erase_of_ne (Ne.symm jj)).2 u6
   ·rw [List.erase_comm];exact hT'
  ·simp only [runS];refine ⟨y,hy,v,(Yl.same (u:=u) Lf Wn).2 Ib,fun hL=>?_,Rh⟩
   have WQ:W i=false:=by
    cases hw:W i
    ·rfl
    ·exact (WO ⟨hL,hw⟩).elim
   exact ow WQ (hyc hL)
theorem EZ {Q':Exit->Act->World->Prop} (dc:∀ (j:Nat) (o:Oper) cs b,ops[j]? = some o->o.op ≠ .select cs b) (hP:Cv ops W=true) (hb:∀ (i:Nat) (o:Oper),ops[i]? = some o->∀ e∈o.after,Region.binds .any e=true->e.on < ops.size)
  (hQ:∀ a w,Q a w->Q' .normal a w):∀ (iC:Nat) (listed:Array Bool) (rem:List Nat) (a:Act) (w:World),
  listed.size=ops.size->(∀ i,i∈rem↔i < ops.size/\listed.getD i true=false)->rem.Nodup->Cl ops rem->rem.length<=iC->Rg P ops W C Q rem a w->wpAny P .any ops Q' iC listed a w:=by
 have Ri:∀ (listed:Array Bool) (rem:List Nat),listed.size=ops.size->(∀ i,i∈rem↔i < ops.size/\listed.getD i true=false)->∀ i,i∈Region.ready .any ops listed↔i∈rem/\rdy ops rem i=true:=by
  intro listed rem bL hZ i
  have hl:∀ k,k < ops.size->(listed.getD k false=true↔k ∉ rem):=fun k hk=>by
   have eJ:k < listed.size:=by rw [bL];exact hk
   rw [hZ k];simp [hk,eJ]
  rw [mem_ready];constructor
  ·rintro ⟨h1,o,ho,h2⟩;have hi:=(Array.getElem?_eq_some_iff.1 ho).1;refine ⟨(hZ i).2 ⟨hi,h1⟩,?_⟩;unfold rdy;rw [ho];simp only [List.all_eq_true,Bool.or_eq_true,Bool.not_eq_true'];intro e he;cases qH:Region.binds .any e
   ·exact .inl rfl
   ·right;have pF:e∈o.after:=sU he;simp only [List.contains_eq_mem,decide_eq_false_iff_not];exact (hl _ (hb i o ho e pF qH)).1 (h2 e pF qH)
  ·rintro ⟨h1,h2⟩;obtain ⟨o,ho,h3⟩:=lU h2;exact ⟨((hZ i).1 h1).2,o,ho,fun e he qH=>(hl _ (hb i o ho e he qH)).2 (h3 e he qH)⟩
 intro iC
 induction iC with
 | zero=>
  intro listed rem a w bL hZ hn eD hlen hr;have:rem=[]:=List.length_eq_zero_iff.1 (by omega);subst this;obtain ⟨T,hT,Rh⟩:=hr;refine ⟨?_,hQ _ _ ?_⟩
  ·rw [List.eq_nil_iff_forall_not_mem];intro i hi;cases ((Ri listed [] bL hZ i).1 hi).1
  ·cases T with
   | fin=>exact Rh
   | op i t=>simp [chkA] at hT
   | ev i t alt=>simp [chkA] at hT
   | stop=>simp [chkA] at hT
 | succ iC ih=>
  intro listed rem a w bL hZ hn eD hlen hr;obtain ⟨T,hT,Rh⟩:=hr;refine ⟨fun h0=>?_,fun i hi=>?_⟩
  ·cases T with
   | fin=>exact hQ _ _ Rh
   | op i t=>
    exfalso;simp only [chkA,Bool.and_eq_true] at hT;have:=(Ri listed rem bL hZ i).2 ⟨by simpa using hT.2.1,hT.2.2.2.1⟩;rw [h0] at this;cases this
   | ev i t alt=>
    exfalso;simp only [chkA,Bool.and_eq_true] at hT;have:=(Ri listed rem bL hZ i).2 ⟨by simpa using hT.1,hT.2.2.1⟩;rw [h0] at this;cases this
   | stop=>simp [chkA] at hT
  ·obtain ⟨l4,hir⟩:=(Ri listed rem bL hZ i).1 hi;obtain ⟨o,ho,_⟩:=lU hir;have eC:=(Array.getElem?_eq_some_iff.1 ho).1
   have zx:∀ k,k∈rem.erase i↔k < ops.size/\(listed.setIfInBounds i true).getD k true=false:=by
    intro k;rw [List.Nodup.mem_erase_iff hn];by_cases ke:k=i
    ·subst ke;simp [bL,eC]
    ·rw [getD_set_ne true (Ne.symm ke)];simp only [ne_eq,ke,not_false_eq_true,true_and];exact hZ k
   have AU:∀ a' w',Rg P ops W C Q (rem.erase i) a' w' -> wpAny P .any ops Q' iC (listed.setIfInBounds i true) a' w':=fun a' w' h=>
    ih _ (rem.erase i) a' w' (by simp [bL]) zx (hn.erase i) (yf hn eD hir) (by rw [List.length_erase_of_mem l4];have:=List.length_pos_of_mem l4;omega) h
   refine su ho ?_
   cases hE:fW o.op with
   | true=>exact cy (fun a' w' h=>AU a' w' h.2) (Jg dc hP ho hE T rem a w hn eD hT Rh l4 hir)
   | false=>
    obtain ⟨v,hy,hc,h⟩:=AS dc hP ho hE T rem a w hn eD hT Rh l4 hir;exact gQ hy hc (AU _ _ h)
end
def goA (X:Ctx) (D:Dr):kF->Bool->List (Nat × Sl)->St->Prop
 | .fin,_,_,st=>go X 4000 D.k st
 | .op i t,c,s0,st=>
  match D.ops.toList[i]? with
  | some o=>goD X ⟨D.ops,D.W,D.k,D.ig,some (goA X D t)⟩ 3000 c [(i,o)] s0 st
  | none=>False
 | .ev i t alt,c,s0,st=>
  (match D.ops.toList[i]? with
  | some o=>goD X ⟨D.ops,D.W,D.k,D.ig,some (goA X D t)⟩ 3000 c [(i,o)] s0 st
  | none=>False)/\goA X D alt c s0 st
 | .stop,_,_,_=>True
def KO (ops:Array Oper):Bool:=Region.noSelect ops && (List.range ops.size).all fun i=>match ops[i]? with | some o=>o.after.toList.all fun e=>!Region.binds .any e || Nat.blt e.on ops.size | none=>true
section
variable {X:Ctx} {D:Dw}
theorem AV (hD:sm D.E0 D.d.ig.bx D.wr) (hf:D.d.fin=none):∀ (T:kF) (rem:List Nat) m,chkA D.d.ops T rem m=true->∀ c s0 st,goA X D.d T c s0 st->∀ E a w,fw X D c E s0 st a w->runS X.P D.d.ops D.d.W D.C (D.Q X) T a w:=by
 intro T
 have cj:∀ (t:kF) (i:Nat) (o:Oper),D.d.ops[i]? = some o->(∀ c s0 st,goA X D.d t c s0 st->∀ E a w,fw X D c E s0 st a w->runS X.P D.d.ops D.d.W D.C (D.Q X) t a w)->∀ c s0 st,goD X ⟨D.d.ops,D.d.W,D.d.k,D.d.ig,some (goA X D.d t)⟩ 3000 c [(i,o)] s0 st->∀ E a w,fw X D c E s0 st a w ->
   runT X.P D.d.ops D.d.W D.C (fun a w=>runS X.P D.d.ops D.d.W D.C (D.Q X) t a w) [i] a w:=fun t i o ho ih c s0 st hg E a w h=>by
  have h1:=eo (D:=⟨⟨D.d.ops,D.d.W,D.d.k,D.d.ig,some (goA X D.d t)⟩,D.E0,D.wr⟩) hD 3000 c [(i,o)] s0 st hg (fun p hp=>by
   rw [List.mem_singleton] at hp;rw [hp]
   exact ho) E a w ⟨h.rel,h.x,h.β,h.t0,h.cc⟩
  refine lD ?_ h1;rintro a w ⟨c,E,s0,st,h2,h3⟩;exact ih c s0 st h3 E a w ⟨h2.rel,h2.x,h2.β,h2.t0,h2.cc⟩
 induction T with
 | fin=>
  intro rem m _ c s0 st hg E a w h;show D.Q X a w;unfold Dw.Q;rw [hf];exact go_sound 4000 _ _ hg E a w h.rel
 | stop=>intro rem m _ c s0 st hg E a w h;exact trivial
 | op i t ih=>
  intro rem m hc c s0 st hg E a w h;simp only [chkA,Bool.and_eq_true,Bool.not_eq_true'] at hc;simp only [goA] at hg;split at hg
  ·rename_i o ho;have ho:D.d.ops[i]? = some o:=sU ho;have h4:=cj t i o ho (ih _ _ hc.2.2.2.2) c s0 st hg E a w h;have hE:fW o.op=false:=by rw [<- Cw ho];exact hc.2.2.1
   simp only [runT,ho,hE,Bool.false_eq_true,if_false] at h4;exact ⟨o,ho,h4⟩
  ·exact hg.elim
 | ev i t alt ZW Tc=>
  intro rem m hc c s0 st hg E a w h;simp only [chkA,Bool.and_eq_true] at hc;obtain ⟨hg,Pj⟩:=hg;refine ⟨?_,Tc _ _ hc.2.2.2.2 c s0 st Pj E a w h⟩;split at hg
  ·rename_i o ho;have ho:D.d.ops[i]? = some o:=sU ho;have h4:=cj t i o ho (ZW _ _ hc.2.2.2.1) c s0 st hg E a w h;have hE:fW o.op=true:=by rw [<- Cw ho];exact hc.2.1
   simp only [runT,ho,hE,if_true] at h4;exact ⟨o,ho,h4⟩
  ·exact hg.elim
end
end Dv
end Go.Proofs.YtadhpeooehkklaaGreat
set_option maxRecDepth 100000
namespace Go.Proofs.YtadhpeooehkklaaGreat
open Go Go.RowKit
namespace Dv
section
variable {X:Ctx} {st:St}
theorem uK {i j:Nat} {s S:St} (h:cJ s (dJ i j S):=by refine (⟨rfl,rfl,?_⟩:_/\_/\_);repeat' (first | exact trivial | refine ⟨rfl,?_⟩)):(s=S∨cJ s S)∨cJ s (dJ i j S):=.inr h
theorem Rj {id:Nat} {ops:Array Oper} {k:List It} (W:Nat->Bool) (T:kF) (i j:Nat) (hm:X.P.follows .mixedOrders=true) (hc:(KO ops && Cv ops W && chkA ops T (List.range ops.size) none)=true) (S:St)
  (h:goA X ⟨ops,W,[.rM fun s=>(s=S∨cJ s S)∨cJ s (dJ i j S)],st,none⟩ T true st.sl st) (jj:(Nat.ble X.n0 i && Nat.ble X.n0 j && Nat.blt i S.bx.length && Nat.blt j S.bx.length)=true) (hk:go X 4000 k S) (hX:X.bt=[]:=by exact rfl):ly X id ops k st:=by
 intro E a w hr;have hY:=jo hr;simp only [Bool.and_eq_true] at hc;simp only [Bool.and_eq_true,Nat.ble_eq,Nat.blt_eq] at jj;obtain ⟨⟨hN,hP⟩,hT⟩:=hc;simp only [KO,Bool.and_eq_true,List.all_eq_true,List.mem_range] at hN;have hs:=km hY (ops:=ops) (W:=W) (k:=[.rM fun s=>(s=S∨cJ s S)∨cJ s (dJ i j S)]);have cm:=AV (D:=⟨⟨ops,W,[.rM fun s=>(s=S∨cJ s S)∨cJ s (dJ i j S)],st,none⟩,E,w.drew⟩) hY.env.em rfl T _ _ hT true st.sl st h E a w.drew hs;refine wp_region_any hm ?_;refine EZ (C:=CC E st.bx w.drew) (Q:=kq X [.rM fun s=>(s=S∨cJ s S)∨cJ s (dJ i j S)] .normal) (Region.noSelect_spec hN.1) hP (fun i o ho e he hb=>?_) (fun a w hq=>?_) ops.size (Array.replicate ops.size false) (List.range ops.size) a _ (by simp) ?_ List.nodup_range ?_ (by simp) ⟨T,hT,cm⟩
 ·have h1:=hN.2 i (Array.getElem?_eq_some_iff.1 ho).1;rw [ho] at h1;have h2:=List.all_eq_true.1 h1 e (sU he);rw [hb] at h2;simpa using h2
 ·obtain ⟨qj,E1,bZ,hJ⟩:=hq;rcases hJ with (rfl | hJ) | hJ
  ·exact go_sound 4000 _ _ hk E1 a w bZ
  ·exact go_sound 4000 _ _ hk E1 a w (nH bZ hJ)
  ·obtain ⟨E2,nG⟩:=uY hX (nH bZ hJ) jj.1.1.1 jj.1.1.2 jj.1.2 jj.2;exact go_sound 4000 _ _ hk E2 a w nG
 ·intro i;simp only [List.mem_range];constructor
  ·intro hi;exact ⟨hi,by simp [hi]⟩
  ·intro hi;exact hi.1
 ·intro k o ho hk;exact (hk (List.mem_range.2 (Array.getElem?_eq_some_iff.1 ho).1)).elim
theorem Oz {id:Nat} {ops:Array Oper} {k:List It} (T:kF) (i j:Nat) (hm:X.P.follows .mixedOrders=true) (hc:(KO ops && Cv ops (LW ops) && chkA ops T (List.range ops.size) none)=true) (S:St)
  (h:goA X ⟨ops,LW ops,[.rM fun s=>(s=S∨cJ s S)∨cJ s (dJ i j S)],st,none⟩ T true st.sl st) (jj:(Nat.ble X.n0 i && Nat.ble X.n0 j && Nat.blt i S.bx.length && Nat.blt j S.bx.length)=true) (hk:go X 4000 k S) (hX:X.bt=[]:=by exact rfl):ly X id ops k st:=
 Rj (LW ops) T i j hm hc S h jj hk hX
end
end Dv
end Go.Proofs.YtadhpeooehkklaaGreat
set_option maxRecDepth 100000
namespace Go.Proofs.YtadhpeooehkklaaGreat
open Go Go.RowKit Dv Go.Proofs.Tryz
theorem Rk (f:Nat->Nat) (l:List Nat):renL f (cN l)=cN l:=by
 induction l with
 | nil=>rfl
 | cons z r ih=>exact congrArg (DV.v (.int .i64 (z:Int)) :: ·) ih
theorem vm (f:Nat->Nat) (n:Nat):renL f (List.replicate n (vL [Value.int .i64 0])).flatten=(List.replicate n (vL [Value.int .i64 0])).flatten:=by rw [uL];exact Rk f _
theorem p8 {α:Type} {p:α->Bool}:∀ {l:List α} {c:Nat},(∀ i x,l[i]? = some x->p x=true->i=c)->l.countP p<=1
 | [],_,_=>Nat.zero_le _
 | x :: r,c,h=>by
  rw [List.countP_cons];by_cases hx:p x=true
  ·have h0:=h 0 x rfl hx
   have:r.countP p=0:=List.countP_eq_zero.2 fun y hy hp=>by
    obtain ⟨i,hi,rfl⟩:=List.getElem_of_mem hy;have:=h (i + 1) r[i] (by simp [hi]) hp;omega
   rw [this,if_pos hx];exact Nat.le_refl _
  ·rw [if_neg hx];exact p8 (c:=c - 1) fun i y hy hp=>by have:=h (i + 1) y (sU hy) hp;omega
theorem yg {L N:Nat} {n:Nd} {D:List Nat} {K:List Bool} (hn:cz L N n) (h:eA n D K=true):EV D K n:=by
 have KH:∀ {x:Ed},y8 D K x=true->dM D x=true/\x.bare=false/\K.getD x.to.toNat false=true:=fun {x} h=>by
  unfold y8 at h;simp only [Bool.and_eq_true,Bool.not_eq_true'] at h;exact ⟨h.1,h.2.1,h.2.2⟩
 refine ⟨fun h7=>?_,fun h8 ht=>?_⟩
 ·simp only [eA,h7] at h;simp at h;obtain ⟨x,hx,Rm⟩:=List.any_eq_true.1 h.1;obtain ⟨_,hb,hK⟩:=KH Rm;obtain ⟨j,hj,rfl⟩:=List.getElem_of_mem hx
  cases hc:x6 K n.ai with
  | none=>
   have:=cg hc j hj;unfold EO at this;rw [gE hj] at this;simp only at this;rw [hK] at this;cases this
  | some c=>
   have eD:=(cA hc).1;refine ⟨c,_,rfl,gE eD,?_⟩
   cases hb:n.ai[c].bare with
   | false=>rfl
   | true=>have:=hn.bare _ (List.getElem_mem eD) hb;omega
 ·have cj:∀ {i x},n.ai[i]? = some x->dM D x=true->bu D n.ai=some i:=fun hx h=>KM ht hx h
  have xU:manyN D n.ai<=1:=by
   cases hc:bu D n.ai with
   | none=>exact p8 (c:=0) fun i x hx hp=>by rw [cj hx hp] at hc;cases hc
   | some c=>exact p8 (c:=c) fun i x hx hp=>by rw [cj hx hp] at hc;exact Option.some.inj hc
  simp only [eA,h8] at h;simp at h;rcases h with h | h
  ·obtain ⟨x,hx,Rm⟩:=List.any_eq_true.1 h;obtain ⟨h1,hb,_⟩:=KH Rm;obtain ⟨j,hj,rfl⟩:=List.getElem_of_mem hx;exact ⟨j,_,cj (gE hj) h1,gE hj,hb⟩
  ·omega
theorem OA {l:List Nat} {i v:Nat} (hi:i < l.length) (h0:l.getD i 0=0) (hv:v≠0):rA l < rA (l.set i v):=by
 have dq:FP l (l.set i v):=fun j hj=>by rw [eY hi,if_neg (fun h=>by subst h;exact hj h0)]
 rcases (rB List.length_set.symm dq).1 with h | h
 ·have h1:(l.set i v).getD i 0=v:=by rw [eY hi,if_pos rfl]
  rw [<- h,h0] at h1;exact (hv h1.symm).elim
 ·exact h
theorem E4 {kf:Nat->Option (Nat × Option Nat)} (hk:∀ i k,kf i=some k->k.1<=4097) {t:List Nat} (h:zb kf t):∀ z∈t,z<=4097:=fun z hz=>by
 obtain ⟨i,hi,rfl⟩:=List.getElem_of_mem hz;by_cases h0:t[i]=0
 ·omega
 ·have hg:t.getD i 0=t[i]:=by rw [List.getD_eq_getElem?_getD,gE hi];all_goals rfl
  obtain ⟨k,jG,hv⟩:=h i (by rw [hg];exact h0);rw [<- hg,hv];unfold othE;split
  ·exact hk i k jG
  ·split
   ·omega
   ·exact fm _
theorem yh (sz D:List Nat) (K:List Bool) (ND:List Nd):∀ i k,othK sz D K ND i=some k->k.1<=4097:=fun i k h=>by
 unfold othK at h;split at h
 ·split at h
  ·cases h;exact (EP _ _ _ _).2
  ·cases h
 ·cases h
section
variable (PC:List DV) (ND:List Nd) (D:List Nat) (K:List Bool)
abbrev mk0 (e:Nat):List DV:=[.pt PC 0,.sl 7 (bh (ND.take e)) (some 0),.sl 1 (dInts D) none,.sl 1 (ql K) none,.v (.slice none 0 0),.v (.slice none 0 0)]
abbrev ZX (m e:Nat):St:=
 ⟨[(0,⟨[],.pt PC 0⟩),(3,⟨[],.loc 0 0⟩),(4,⟨[],.v (.int .i64 m)⟩),(22,⟨[],.v (.int .i64 ND.length)⟩),(23,⟨[],.v (.int .i64 e)⟩)],[mk0 PC ND D K e],[⟨e,105,7,none⟩]⟩
abbrev ZY:List DV:=[.pt PC 0,.sl 7 (bh ND) (some 0),.sl 1 (dInts D) none,.sl 1 (ql K) none,.ms 1 1 0 ND.length ND.length,.ms 2 1 0 ND.length ND.length]
theorem OB {t o:List Nat} {bx:List (List DV)} (ht:t.length=ND.length) (ho:o.length=ND.length) (h1:bx[1]? = some (cN t)) (h2:bx[2]? = some (cN o)):CcL bx 0 0 0 (mQ PC ND D K t o) (ZY PC ND D K):=
 ⟨_,_,rfl,ax,_,_,rfl,ax,_,_,rfl,ax,_,_,rfl,ax,_,_,rfl,Cm ht (Nat.zero_le _) h1,_,_,rfl,Cm ho (Nat.zero_le _) h2,rfl⟩
abbrev ZZ:List TkE:=[⟨ND.length,105,7,none⟩]
abbrev Z0 (m d:Nat) (t o:List Nat):St:=
 ⟨[(0,⟨[],.pt PC 0⟩),(3,⟨[],.loc 0 0⟩),(65,⟨[],.v (.int .i64 (m + 1:Nat))⟩),(66,⟨[],.v (.int .i64 d)⟩)],[ZY PC ND D K,cN t,cN o],ZZ ND⟩
abbrev Z1 (m d:Nat) (t o:List Nat) (e:Nat):St:=
 ⟨[(0,⟨[],.pt PC 0⟩),(3,⟨[],.loc 0 0⟩),(65,⟨[],.v (.int .i64 (m + 1:Nat))⟩),(66,⟨[],.v (.int .i64 d)⟩),(8,⟨[],.v (.int .i64 d)⟩),(72,⟨[],.sl 7 (bh ND) (some 0)⟩),(73,⟨[],.v (.int .i64 (bh ND).length)⟩),(74,⟨[],.v (.int .i64 e)⟩)],[ZY PC ND D K,cN t,cN o],ZZ ND⟩
def szQ (d e:Nat):List Nat:=if d=0 then szR ND D 0 else szL ND D d e (szR ND D (d - 1))
theorem Rn (d e:Nat):(szQ ND D d e).length=ND.length:=by
 unfold szQ;split
 ·exact oP ND D 0
 ·rw [mR];exact oP ND D _
theorem OC {d e:Nat} {n:Nd} (hn:ND[e]? = some n):szQ ND D d (e + 1)=if 0 < d/\D.getD e 0=d then (szQ ND D d e).set e (sizeF (szQ ND D d e) D n) else szQ ND D d e:=by
 unfold szQ;by_cases h:d=0
 ·rw [if_pos h,if_pos h,if_neg (by omega)]
 ·rw [if_neg h,if_neg h,szL,hn];simp only;by_cases h2:D.getD e 0=d
  ·rw [if_pos h2,if_pos ⟨by omega,h2⟩]
  ·rw [if_neg h2,if_neg (by omega)]
theorem szQ_end (d:Nat):szQ ND D d ND.length=szR ND D d:=by
 unfold szQ;split
 ·rename_i h;rw [h]
 ·obtain ⟨k,rfl⟩:∃ k,d=k + 1:=⟨d - 1,by omega⟩;rfl
theorem E5 (d:Nat):szQ ND D d 0=szR ND D (d - 1):=by
 unfold szQ;split
 ·rename_i h;rw [h]
 ·rfl
theorem oT:∀ d,∀ z∈szR ND D d,z<=4097:=by
 have key:∀ d e t,(∀ z∈t,z<=4097)->∀ z∈szL ND D d e t,z<=4097:=fun d e t ht=>by
  induction e with
  | zero=>exact ht
  | succ e ih=>
   rw [szL];split
   ·exact ih
   ·split
    ·intro z hz;rcases List.mem_or_eq_of_mem_set hz with h | rfl
     ·exact ih z h
     ·exact (oQ _ _ _).2
    ·exact ih
 intro d
 induction d with
 | zero=>intro z hz;rw [szR] at hz;rw [(List.mem_replicate.1 hz).2];omega
 | succ d ih=>exact key _ _ _ ih
theorem AW (d e:Nat):∀ z∈szQ ND D d e,z<=4097:=by
 have key:∀ d e t,(∀ z∈t,z<=4097)->∀ z∈szL ND D d e t,z<=4097:=fun d e t ht=>by
  induction e with
  | zero=>exact ht
  | succ e ih=>
   rw [szL];split
   ·exact ih
   ·split
    ·intro z hz;rcases List.mem_or_eq_of_mem_set hz with h | rfl
     ·exact ih z h
     ·exact (oQ _ _ _).2
    ·exact ih
 unfold szQ;split
 ·exact oT ND D 0
 ·exact key _ _ _ (oT ND D _)
abbrev OD (c:Bool) (t o:List Nat):St:=
 ⟨[(0,⟨[],.pt PC 0⟩),(3,⟨[],.loc 0 0⟩),(11,⟨[],.v (.bool c)⟩)],[ZY PC ND D K,cN t,cN o],ZZ ND⟩
abbrev Jh (c:Bool) (t o:List Nat) (e:Nat):St:=
 ⟨[(0,⟨[],.pt PC 0⟩),(3,⟨[],.loc 0 0⟩),(11,⟨[],.v (.bool c)⟩),(107,⟨[],.sl 7 (bh ND) (some 0)⟩),(108,⟨[],.v (.int .i64 (bh ND).length)⟩),(109,⟨[],.v (.int .i64 e)⟩)],[ZY PC ND D K,cN t,cN o],ZZ ND⟩
set_option maxHeartbeats 4000000 in
theorem p9 {S:Sch} (hP:eW S ND PC):aQ prog 61 [.pt PC 0] (.pt (mQ PC ND (depN ND ND.length) (eX ND (depN ND ND.length)) (jW ND (depN ND ND.length)) (Pq (jW ND (depN ND ND.length)) (depN ND ND.length) (eX ND (depN ND ND.length)) ND)) 0):=by
 have h1:=hP.len;have h2:=hP.ak;have fc:=hP.nl;have hd:=uj hP;have vI:=y9 hP;have hDO:=fK ND;have Wo:=hDO.len;generalize depN ND ND.length=D at hd vI hDO Wo ⊢
 have OE:∀ i n,ND[i]? = some n->(eX ND D).getD i false=true->EV D (eX ND D) n:=fun i n hn h=>by
  rw [<- od,List.getD_eq_getElem?_getD,List.getElem?_map,hn] at h;exact yg (hP.ok n (mG hn)) h
 have VA:(eX ND D).length=ND.length:=iw ND D _;generalize eX ND D=K at vI OE VA ⊢;refine eG 153 [.tmp 2] func61 rfl ntmps61 rfl fun _ _ _ _=>?_;refine cP RY hd ?_;refine cP Xx vI ?_;refine cP Dp h1 ?_;refine lI (fun j st=>∃ e m:Nat,st=ZX PC ND D K m e/\e<=ND.length/\m<=ND.length/\(∀ i,i < e->D.getD i 0<=m)/\j=ND.length - e) ⟨0,0,rfl,by omega,by omega,fun _ h=>by omega,rfl⟩ (cL 1 ⟨0,105,7,none⟩ rfl rfl rfl pB rfl rfl wB) ?_;rintro j st ⟨e,m,rfl,he,hm,Rm,rfl⟩;refine br ?_ ?_<;>intro hL
 ·have aj:e < ND.length:=sU hL;obtain ⟨n,hn⟩:=gX aj;obtain ⟨z,hz⟩:∃ z,D[e]? = some z:=⟨_,gE (by omega)⟩;have Ta:D.getD e 0=z:=by rw [List.getD_eq_getElem?_getD,hz];all_goals rfl
  have Wi:=hDO.le e;have cR:(bh (ND.take e)).length=e:=by rw [cp,List.length_take];omega
  refine cP Gg (h2 e n hn) ?_;refine dS ?_;refine ⟨cR,⟨by rw [cR];simp [maxLen];omega,by rw [cR];simp;omega⟩,?_⟩;refine iX (aD hz) ?_
  exact rE ⟨_,by omega,e + 1,max m z,rfl,by omega,by omega,fun i hi=>by
   rcases Nat.lt_succ_iff_lt_or_eq.1 hi with h | rfl
   ·have:=Rm i h;omega
   ·rw [Ta];omega,rfl⟩ (ap 1 rfl (PM (ti hn) (show max (m:Int) z=((max m z:Nat):Int) by omega) (aF aj (by omega))) rfl rfl rfl (yx (ti hn) (show max (m:Int) z=((max m z:Nat):Int) by omega) (aF aj (by omega))))
 ·have aM:e=ND.length:=by have:=hL;simp at this;omega
  subst aM;apply Oz (.op 0 (.op 1 (.op 2 (.op 5 (.ev 3 (.ev 4 (.ev 6 (.op 8 (.op 9 (.ev 7 (.ev 10 (.op 11 (.op 12 (.ev 13 .fin .stop))) .stop) (.ev 10 (.ev 7 (.op 11 (.op 12 (.ev 13 .fin .stop))) .stop) .stop)))) .stop) (.ev 6 (.ev 4 (.op 8 (.op 9 (.ev 7 (.ev 10 (.op 11 (.op 12 (.ev 13 .fin .stop))) .stop) (.ev 10 (.ev 7 (.op 11 (.op 12 (.ev 13 .fin .stop))) .stop) .stop)))) (.ev 7 (.ev 4 (.op 8 (.op 9 (.ev 10 (.op 11 (.op 12 (.ev 13 .fin .stop))) .stop))) .stop) .stop)) .stop)) .stop))))) 1 2 mo (by decide +kernel);·repeat' (first | refine cD Dp h1 ?_ | exact ⟨rfl,by omega,by omega,by omega⟩ | exact Or.inr ⟨congrArg (fun z=>[_,z,z]) (vm _ _).symm,rfl,by repeat' (first | exact trivial | refine ⟨rfl,?_⟩)⟩ | exact trivial | exact Or.inl (Or.inl rfl) | exact Or.inl ZU | exact uK | refine ⟨?_,?_⟩)
  ·exact (rfl:_=_)
  have GN:(List.replicate (ND.length:Int).toNat (vL [Value.int .i64 0])).flatten=cN (szR ND D 0):=by rw [uL];all_goals rfl
  refine lJ (fun d=>Z0 PC ND D K m d (szR ND D (d - 1)) (List.replicate ND.length 0)) (m + 1) (ap 3 rfl (PM GN (congrArg bh (List.take_length)) (wrapN (a:=m) (b:=1) (by omega) (by omega))) rfl rfl rfl (yx GN (congrArg bh (List.take_length)) (wrapN (a:=m) (b:=1) (by omega) (by omega)))) ?_;intro d hdm;refine br ?_ ?_<;>intro hL
  ·have bA:d < m + 1:=by have:=hL;simp at this;omega
   refine lJ (fun e=>Z1 PC ND D K m d (szQ ND D d e) (List.replicate ND.length 0) e) ND.length (ap 3 rfl (na (congrArg cN (E5 ND D d).symm)) rfl rfl rfl (cX (congrArg cN (E5 ND D d).symm))) ?_;intro e he;refine br ?_ ?_<;>intro kx
   ·have aj:e < ND.length:=by have:=kx;simp [cp] at this;exact this
    obtain ⟨n,hn⟩:=gX aj;obtain ⟨z,hz⟩:∃ z,D[e]? = some z:=⟨_,gE (by omega)⟩;have Ta:D.getD e 0=z:=by rw [List.getD_eq_getElem?_getD,hz];all_goals rfl
    have eE:=OC ND D (d:=d) hn;have HE:=Rn ND D d e;have KQ:=AW ND D d e;have iy:=mG hn;have Bn:=fun h8=>EU PC ND D K (szQ ND D d e) (List.replicate ND.length 0) Wo HE KQ (hP.ok n iy) (hP.KK n iy) h8
    have h8:0 < d/\D.getD e 0=d->n.ag=8->∃ c e,bu D n.ai=some c/\n.ai[c]? = some e:=fun h h8=>by
     obtain ⟨c,x,hc,hx,_⟩:=hDO.Pp hn (by omega) h8;exact ⟨c,x,hc,hx⟩
    generalize szQ ND D d e=t at eE HE KQ Bn;have eZ:¬ (0 < d/\D.getD e 0=d)->t=szQ ND D d (e + 1):=fun h=>by rw [eE,if_neg h]
    have On:0 < d/\D.getD e 0=d->t.set e (sizeF t D n)=szQ ND D d (e + 1):=fun h=>by rw [eE,if_pos h]
    refine iX (bV hn) ?_;refine br ?_ ?_<;>intro c1
    ·have c1:0 < d:=by simpa [lastG] using c1
     refine iX (aD hz) ?_;refine br ?_ ?_<;>intro c2
     ·have c2:D.getD e 0=d:=Decidable.byContradiction fun h=>by simp [lastG,pickB] at c2;omega
      have pz:=On ⟨c1,c2⟩;have Bn:=Bn (h8 ⟨c1,c2⟩);refine dS ?_;refine jV Xy Bn ⟨_,_,rfl,.inr ⟨0,_,rfl,Nat.zero_le _,rfl,OB PC ND D K HE List.length_replicate rfl rfl⟩,_,_,rfl,ax,rfl⟩ rfl rfl ?_;refine ⟨⟨by omega,by omega⟩,?_⟩;refine ⟨by rw [lu];omega,?_⟩
      have aR:(cN t).set (0 + (e:Int).toNat * 1) (DV.v (.int .i64 (sizeF t D n:Nat)))=cN (szQ ND D d (e + 1)):=by
       rw [show 0 + (e:Int).toNat * 1=e by omega,mN,pz]
      exact rE ⟨_,by omega,e + 1,rfl,by omega,rfl⟩ (ap 3 rfl (gj aR (aF aj (by omega))) rfl rfl rfl (wB2 aR (aF aj (by omega))))
     ·have c2:¬ D.getD e 0=d:=fun h=>by simp [lastG,pickB] at c2;omega
      exact rE ⟨_,by omega,e + 1,rfl,by omega,rfl⟩ (ap 3 rfl (gj (congrArg cN (eZ (fun h=>c2 h.2))) (aF aj (by omega))) rfl rfl rfl (wB2 (congrArg cN (eZ (fun h=>c2 h.2))) (aF aj (by omega))))
    ·have c1:¬ 0 < d:=by simpa [lastG] using c1
     exact rE ⟨_,by omega,e + 1,rfl,by omega,rfl⟩ (ap 3 rfl (gj (congrArg cN (eZ (fun h=>c1 h.1))) (aF aj (by omega))) rfl rfl rfl (wB2 (congrArg cN (eZ (fun h=>c1 h.1))) (aF aj (by omega))))
   ·have aM:e=ND.length:=by have:=kx;simp [cp] at this;omega
    subst aM;exact rE ⟨_,by omega,d + 1,rfl,by omega,rfl⟩ (ap 3 rfl (gj (congrArg cN (szQ_end ND D d)) (wrapN (a:=d) (b:=1) (by omega) (by omega))) rfl rfl rfl (wB2 (congrArg cN (szQ_end ND D d)) (wrapN (a:=d) (b:=1) (by omega) (by omega))))
  ·have Lh:d=m + 1:=by have:=hL;simp at this;omega
   subst Lh
   have fo:∀ i,D.getD i 0<=m:=fun i=>by
    rcases Nat.lt_or_ge i ND.length with h | h
    ·exact Rm i h
    ·rw [List.getD_eq_getElem?_getD,List.getElem?_eq_none (by omega)];exact Nat.zero_le _
   have hT:szR ND D (m + 1 - 1)=jW ND D:=by
    have:=Jb (ND:=ND) fo (ND.length - m);rw [show m + (ND.length - m)=ND.length by omega] at this;exact this.symm
   have Ro:=ry ND D;have Z2:∀ z∈jW ND D,z<=4097:=oT ND D _;have KB:=yh (jW ND D) D K ND;have bm:∀ r,zb (othK (jW ND D) D K ND) (fM (othK (jW ND D) D K ND) ND.length r):=fun r=>yb r;have ed:∀ r,(fM (othK (jW ND D) D K ND) ND.length r).length=ND.length:=fun r=>iz r;have xc:∀ e r,(oR (othK (jW ND D) D K ND) e (fM (othK (jW ND D) D K ND) ND.length r)).length=ND.length:=fun e r=>by rw [rz];exact ed r
   have Wp:∀ i n,ND[i]? = some n->othK (jW ND D) D K ND i=if K.getD i false=true then some (eB (jW ND D) D K n) else none:=fun i n h=>by unfold othK;rw [h]
   have hF:Pq (jW ND D) D K ND=fM (othK (jW ND D) D K ND) ND.length ND.length:=rfl;rw [hF];rw [hT];generalize jW ND D=t at Ro Z2 KB bm ed xc Wp ⊢;refine bo (fun j st=>∃ (r:Nat) (c:Bool),st=OD PC ND D K c t (fM (othK t D K ND) ND.length r)/\(c=true->r<=rA (fM (othK t D K ND) ND.length r))/\(c=false->fM (othK t D K ND) ND.length (r + 1)=fM (othK t D K ND) ND.length r)/\j=if c=true then ND.length + 1 - r else 0) (ND.length + 1) (OD PC ND D K true t (fM (othK t D K ND) ND.length 0)) (ap 3 rfl pB rfl rfl rfl lY) ⟨0,true,rfl,fun _=>Nat.zero_le _,fun h=>(by cases h),by simp⟩ ?_;rintro j st ⟨r,c,rfl,Li,hcf,rfl⟩;refine br ?_ ?_<;>intro hc
   ·have hc:c=true:=hc;subst hc;have hcr:=Li rfl;have hcn:=Je (fM (othK t D K ND) ND.length r);rw [ed] at hcn;refine lI (fun j st=>∃ (e:Nat) (c':Bool),st=Jh PC ND D K c' t (oR (othK t D K ND) e (fM (othK t D K ND) ND.length r)) e/\e<=ND.length/\(c'=true->rA (fM (othK t D K ND) ND.length r) < rA (oR (othK t D K ND) e (fM (othK t D K ND) ND.length r)))/\(c'=false->oR (othK t D K ND) e (fM (othK t D K ND) ND.length r)=fM (othK t D K ND) ND.length r)/\j=ND.length - e) ⟨0,false,rfl,by omega,fun h=>(by cases h),fun _=>rfl,rfl⟩ (ap 3 rfl pB rfl rfl rfl lY) ?_;rintro j st ⟨e,c',rfl,he,oZ,Pr,rfl⟩;refine br ?_ ?_<;>intro kx
    ·have aj:e < ND.length:=by have:=kx;simp [cp] at this;exact this
     obtain ⟨n,hn⟩:=gX aj;obtain ⟨b,hb⟩:∃ b,K[e]? = some b:=⟨_,gE (by omega)⟩;have hbd:K.getD e false=b:=by rw [List.getD_eq_getElem?_getD,hb];all_goals rfl
     have jC:=xc e r;have hoo:=(ya (kf:=othK t D K ND) e (by rw [ed];omega) (bm r)).1;have sb:=E4 KB hoo;have hk:=Wp e n hn;have iy:=mG hn;have Wq:=fun hS=>Cu PC ND D K t (oR (othK t D K ND) e (fM (othK t D K ND) ND.length r)) Wo VA Ro jC Z2 sb (hP.ok n iy) (hP.KK n iy) hS;have F1:=OE e n hn;have eE:oR (othK t D K ND) (e + 1) (fM (othK t D K ND) ND.length r)=otI (othK t D K ND) e (oR (othK t D K ND) e (fM (othK t D K ND) ND.length r)):=rfl;have H7:=@AP (othK t D K ND) e _ hoo;generalize oR (othK t D K ND) e (fM (othK t D K ND) ND.length r)=o at oZ Pr jC hoo sb Wq eE H7 ⊢;obtain ⟨z,hz⟩:∃ z,o[e]? = some z:=⟨_,gE (by omega)⟩;have Ta:o.getD e 0=z:=by rw [List.getD_eq_getElem?_getD,hz];all_goals rfl
     refine iX (bV hn) ?_;refine iX (rk hb) ?_;refine br ?_ ?_<;>intro c1
     ·have c1:b=true:=by simpa [lastG] using c1
      refine ⟨⟨by omega,by omega⟩,?_⟩;refine ⟨DV.v (.int .i64 (z:Int)),(by rw [show 0 + (e:Int).toNat * 1=e by omega];exact Ck hz),?_⟩;refine br ?_ ?_<;>intro c2
      ·have c2:z=0:=by simpa [lastG,pickB] using c2
       rw [hbd,c1,if_pos rfl] at hk;have pz:oR (othK t D K ND) (e + 1) (fM (othK t D K ND) ND.length r)=o.set e (othE o (eB t D K n)):=by rw [eE];unfold otI;rw [hk]
       have dq:=(Oq (kf:=othK t D K ND) (i:=e) (by omega) hoo).2;rw [<- eE,pz] at dq;have cW:=fun hv=>OA (l:=o) (i:=e) (v:=othE o (eB t D K n)) (by omega) (by rw [Ta];exact c2) hv;have eD:=(rB List.length_set.symm dq).2;have vJ:othE o (eB t D K n)=0->o.set e (othE o (eB t D K n))=o:=fun h=>ES _ (by rw [Ta,c2,h]);have Wq:=Wq (F1 (by rw [hbd];exact c1));generalize othE o (eB t D K n)=v at pz dq cW eD vJ Wq;refine dS ?_;refine jV Xz Wq ⟨_,_,rfl,.inr ⟨0,_,rfl,Nat.zero_le _,rfl,OB PC ND D K Ro jC rfl rfl⟩,_,_,rfl,ax,rfl⟩ rfl rfl ?_;refine ⟨⟨by omega,by omega⟩,?_⟩;refine ⟨by rw [lu];omega,?_⟩
       have aR:(cN o).set (0 + (e:Int).toNat * 1) (DV.v (.int .i64 (v:Nat)))=cN (o.set e v):=by
        rw [show 0 + (e:Int).toNat * 1=e by omega,mN]
       have Z3:(cN (o.set e v))[e]? = some (DV.v (.int .i64 (v:Nat))):=Ck (by rw [List.getElem?_set_self (by omega)]);refine br ?_ ?_<;>intro c3
       ·have c3:c'=false:=by simpa [lastG] using c3
        have Pr:=Pr c3;refine ⟨⟨by omega,by omega⟩,?_⟩;refine ⟨DV.v (.int .i64 (v:Nat)),(by rw [aR,show 0 + (e:Int).toNat * 1=e by omega];exact Z3),?_⟩;have bT:v≠0->rA (fM (othK t D K ND) ND.length r) < rA (oR (othK t D K ND) (e + 1) (fM (othK t D K ND) ND.length r)):=fun h=>by rw [pz,<- Pr];exact cW h
        have hold:v=0->oR (othK t D K ND) (e + 1) (fM (othK t D K ND) ND.length r)=fM (othK t D K ND) ND.length r:=fun h=>by rw [pz,vJ h,Pr]
        have Rp:=bB (n:=3) (m:=1) (tk:=ZZ ND) (aR.trans (congrArg cN pz.symm));clear pz dq eD vJ cW aR Z3 Wq
        cases v with
        | zero=>exact ⟨Jh PC ND D K false t (oR (othK t D K ND) (e + 1) (fM (othK t D K ND) ND.length r)) (e + 1),(ap 3 rfl (by repeat' (first | exact rfl | exact ay rfl | exact bB rfl | exact Rp | exact aA (aF aj (by omega)) | refine ⟨_,_,rfl,?_,?_⟩)) rfl rfl rfl (by repeat' (first | exact trivial | exact ay rfl | exact bB rfl | exact Rp | exact aA (aF aj (by omega)) | refine ⟨⟨_,rfl,?_⟩,?_⟩))),ND.length - (e + 1),by omega,e + 1,false,rfl,by omega,fun h=>(by cases h),fun _=>hold rfl,rfl⟩
        | succ v=>
         have hp:DV.v (.bool (decide ((0:Int) < ((v + 1:Nat):Int))))=DV.v (.bool true):=congrArg (fun b=>DV.v (.bool b)) (decide_eq_true (by omega));exact ⟨Jh PC ND D K true t (oR (othK t D K ND) (e + 1) (fM (othK t D K ND) ND.length r)) (e + 1),(ap 3 rfl (by repeat' (first | exact rfl | exact ay rfl | exact bB rfl | exact Rp | exact Or.inl ⟨hp,rfl⟩ | exact aA (aF aj (by omega)) | refine ⟨_,_,rfl,?_,?_⟩)) rfl rfl rfl (by repeat' (first | exact trivial | exact ay rfl | exact bB rfl | exact Rp | exact Or.inl ⟨hp,rfl⟩ | exact aA (aF aj (by omega)) | refine ⟨⟨_,rfl,?_⟩,?_⟩))),ND.length - (e + 1),by omega,e + 1,true,rfl,by omega,fun _=>bT (Nat.succ_ne_zero v),fun h=>(by cases h),rfl⟩
       ·have c3:c'=true:=by simpa [lastG] using c3
        have oZ:=oZ c3;exact ⟨Jh PC ND D K true t (oR (othK t D K ND) (e + 1) (fM (othK t D K ND) ND.length r)) (e + 1),(ap 3 rfl (PM (aR.trans (congrArg cN pz.symm)) (aF aj (by omega)) c3) rfl rfl rfl (yx (aR.trans (congrArg cN pz.symm)) (aF aj (by omega)) c3)),ND.length - (e + 1),by omega,e + 1,true,rfl,by omega,fun _=>by rw [pz];omega,fun h=>(by cases h),rfl⟩
      ·have c2:¬ z=0:=by simpa [lastG,pickB] using c2
       have FR:=eE.trans (H7 (by rw [Ta];exact c2));exact rE ⟨_,by omega,e + 1,c',rfl,by omega,by rw [FR];exact oZ,by rw [FR];exact Pr,rfl⟩ (ap 3 rfl (gj (congrArg cN FR.symm) (aF aj (by omega))) rfl rfl rfl (wB2 (congrArg cN FR.symm) (aF aj (by omega))))
     ·have c1:b=false:=by simpa [lastG] using c1
      have FR:oR (othK t D K ND) (e + 1) (fM (othK t D K ND) ND.length r)=o:=by rw [eE];unfold otI;rw [hk,hbd,c1];all_goals rfl
      exact rE ⟨_,by omega,e + 1,c',rfl,by omega,by rw [FR];exact oZ,by rw [FR];exact Pr,rfl⟩ (ap 3 rfl (gj (congrArg cN FR.symm) (aF aj (by omega))) rfl rfl rfl (wB2 (congrArg cN FR.symm) (aF aj (by omega))))
    ·have aM:e=ND.length:=by have:=kx;simp [cp] at this;omega
     subst aM;have hR:oR (othK t D K ND) ND.length (fM (othK t D K ND) ND.length r)=fM (othK t D K ND) ND.length (r + 1):=rfl;rw [hR] at oZ Pr;refine ⟨OD PC ND D K c' t (fM (othK t D K ND) ND.length (r + 1)),(ap 3 rfl pB rfl rfl rfl lY),if c'=true then ND.length + 1 - (r + 1) else 0,?_,r + 1,c',rfl,fun h=>by have:=oZ h;omega,fun h=>?_,rfl⟩
     ·rw [if_pos rfl];split<;>omega
     ·show oR _ _ (fM (othK t D K ND) ND.length (r + 1))=_;rw [Pr h,hR,Pr h]
   ·have hc:c=false:=hc;rw [Q5 (hcf hc)];exact ⟨.pt (mQ PC ND D K t (fM (othK t D K ND) ND.length ND.length)) 0,Or.inr ⟨0,_,rfl,Nat.zero_le _,rfl,OB PC ND D K Ro (ed _) rfl rfl⟩,rfl⟩
end
end Go.Proofs.YtadhpeooehkklaaGreat
namespace Go.Proofs.YtadhpeooehkklaaGreat
namespace Dv
open Go Go.RowKit
mutual
def shD (m:Nat):DV->DV
 | .agg l=>.agg (shL m l)
 | .tup l=>.tup (shL m l)
 | .sl e es tk=>.sl e es (match tk with | some k=>some (m + k) | none=>none)
 | .fn f a b=>.fn f (shL m a) (shL m b)
 | .rZ t x=>.rZ t (shD m x)
 | .v x=>.v x
 | .ud=>.ud
 | .pt cs o=>.pt cs o
 | .loc i o=>.loc i o
 | .el i o=>.el i o
 | .ms i e o l c=>.ms i e o l c
def shL (m:Nat):List DV->List DV
 | []=>[]
 | d :: r=>shD m d :: shL m r
end
mutual
theorem tx {m:Nat} {E2 E:En} (hβ:E2.β=[]) (hc:E.c=E2.c) (ht:∀ (k:Nat) q,E2.tk[k]? = some q->E.tk[m + k]? = some q/\E.τ[m + k]? = E2.τ[k]?):∀ {d:DV} {v:Value},Rv E2 d v->Rv E (shD m d) v
 | .v x,v,h=>by simpa only [Rv,shD] using h
 | .ud,v,h=>by simpa only [Rv,shD] using h
 | .agg l,v,h=>by
  simp only [Rv,shD] at h ⊢;obtain ⟨vs,h1,h2,h3⟩:=h;exact ⟨vs,h1,lV hβ hc ht h2,h3⟩
 | .tup l,v,h=>by
  simp only [Rv,shD] at h ⊢;obtain ⟨vs,h1,h2⟩:=h;exact ⟨vs,h1,lV hβ hc ht h2⟩
 | .sl e es tk,v,h=>by
  have he:E.cl=E2.cl:=by simp [En.cl,hc]
  simp only [Rv,shD] at h ⊢;obtain ⟨b,n,cap,h1,h2,h3,h4⟩:=h;refine ⟨b,n,cap,h1,h2,fun hn=>⟨(h3 hn).1,by rw [he];exact (h3 hn).2⟩,?_⟩;intro k' eJ
  cases tk with
  | none=>cases eJ
  | some k=>
   simp only [oI] at eJ;subst eJ;obtain ⟨q,g1,g2,g3⟩:=h4 k rfl;obtain ⟨g4,g5⟩:=ht k q g1;exact ⟨q,g4,g2,fun hn=>by rw [g5];exact g3 hn⟩
 | .pt cs off,v,h=>by
  have he:E.cl=E2.cl:=by simp [En.cl,hc]
  simp only [Rv,shD] at h ⊢;rw [he];exact h
 | .loc i off,v,h=>by
  simp only [Rv] at h;obtain ⟨b,h1,_⟩:=h;rw [hβ] at h1;simp at h1
 | .el i off,v,h=>by
  simp only [Rv] at h;obtain ⟨b,h1,_⟩:=h;rw [hβ] at h1;simp at h1
 | .ms i e off len cap,v,h=>by
  simp only [Rv] at h;obtain ⟨b,_,h1,_⟩:=h;rw [hβ] at h1;simp at h1
 | .fn f a b,v,h=>by
  simp only [Rv,shD] at h ⊢;obtain ⟨l,r,h1,h2,h3⟩:=h;exact ⟨l,r,h1,lV hβ hc ht h2,lV hβ hc ht h3⟩
 | .rZ t x,v,h=>by
  simp only [Rv,shD] at h ⊢;obtain ⟨z,h1,h2⟩:=h;exact ⟨z,h1,tx hβ hc ht h2⟩
theorem lV {m:Nat} {E2 E:En} (hβ:E2.β=[]) (hc:E.c=E2.c) (ht:∀ (k:Nat) q,E2.tk[k]? = some q->E.tk[m + k]? = some q/\E.τ[m + k]? = E2.τ[k]?):∀ {l:List DV} {vs:List Value},RvL E2 l vs->RvL E (shL m l) vs
 | [],vs,h=>by simpa only [RvL,shL] using h
 | d :: r,vs,h=>by
  simp only [RvL,shL] at h ⊢;obtain ⟨v,s,h1,h2,h3⟩:=h;exact ⟨v,s,h1,tx hβ hc ht h2,lV hβ hc ht h3⟩
end
section
variable {X:Ctx} {st:St} {k:List It} {E:En} {a:Act} {w:World}
theorem HI (h:Rel X E st a w) (aR:X.still=false) {E2:En} {w':World} (hm:qu (E.cl).S w w') (he:Env E2 [] w') (hn:Nw E.cl E2 w):Rel X ⟨E2.c,E.β,E.tk ++ E2.tk,E.τ ++ E2.τ⟩ ⟨st.sl,st.bx,st.tk ++ E2.tk⟩ a w':=by
 have hq:=zp h aR hm he hn;have PI:∀ (j:Nat) y g,E2.τ[j]? = some y->y.ownBlock=some g->w.heap.size<=g:=fun j y g hy hg=>hn.tn j y g (Nat.zero_le _) hy hg;have hold:∀ (k:Nat) y g,E.τ[k]? = some y->y.ownBlock=some g->g < w.heap.size:=fun k y g hy hg=>(h.env.own (mG hy) hg).1;have gJ:E.τ.length=E.tk.length:=h.env.tl
 have hτ:∀ (k:Nat) y,(E.τ ++ E2.τ)[k]? = some y->(k < E.τ.length/\E.τ[k]? = some y)∨(E.τ.length<=k/\E2.τ[k - E.τ.length]? = some y):=fun k y hy=>by
  rw [List.getElem?_append] at hy;split at hy
  ·rename_i hk;exact .inl ⟨hk,hy⟩
  ·rename_i hk;exact .inr ⟨by omega,hy⟩
 have hx:Ext ⟨E2.c,E.β,E.tk,E.τ⟩ ⟨E2.c,E.β,E.tk ++ E2.tk,E.τ ++ E2.τ⟩:=⟨fun _ _ h=>h,fun _ _ h=>h,fun j q hj=>by
  have hj:E.tk[j]? = some q:=hj;have aj:=(gS hj).1;refine ⟨q,by show (E.tk ++ _)[j]? = _;rw [List.getElem?_append_left aj];exact hj,.inl ⟨rfl,?_⟩⟩;show (E.τ ++ _)[j]? = _
  rw [List.getElem?_append_left (by rw [gJ];exact aj)]⟩
 refine dh hq hx ?_ (by show E.tk ++ _=_;rw [h.tk]) ?_ hq.fr (nC aR) hq.bt
 ·exact {
   len:=h.env.len
   tl:=by show (E.τ ++ _).length=(E.tk ++ _).length;simp [gJ,he.tl]
   eU:=fun i cs hi=>by
    obtain ⟨b,t,arr,hb,hw,hc⟩:=hq.env.eU i cs hi;exact ⟨b,t,arr,hb,hw,hc.mono hx⟩
   inj:=h.env.inj
   sub:=he.sub
   pc:=hq.env.pc
   cu:=fun j q y M6 hy=>by
    have M6:(E.tk ++ E2.tk)[j]? = some q:=M6;rcases hτ j y hy with ⟨aj,fi⟩ | ⟨dq,fi⟩
    ·rw [List.getElem?_append_left (by rw [<- gJ];exact aj)] at M6;exact hq.env.cu j q y M6 fi
    ·rw [List.getElem?_append_right (by rw [<- gJ];exact dq),<- gJ] at M6;rcases he.cu _ q y M6 fi with h1 | ⟨g,cap,cur,rfl,h1,h2,h3,h4,_,h6⟩
     ·exact .inl h1
     ·refine .inr ⟨g,cap,cur,rfl,h1,h2,h3,h4,fun lA=>?_,h6⟩;have:=PI _ _ g fi rfl;have:=h.env.bd lA;omega
   jm:=fun i j y y' g jj hy fi hg rO=>by
    rcases hτ i y hy with ⟨_,h1⟩ | ⟨h0,h1⟩
    ·rcases hτ j y' fi with ⟨_,h2⟩ | ⟨_,h2⟩
     ·exact h.env.jm i j y y' g jj h1 h2 hg rO
     ·have:=hold i y g h1 hg;have:=PI _ y' g h2 rO;omega
    ·rcases hτ j y' fi with ⟨_,h2⟩ | ⟨h00,h2⟩
     ·have:=hold j y' g h2 rO;have:=PI _ y g h1 hg;omega
     ·exact he.jm _ _ y y' g (by omega) h1 h2 hg rO }
 ·exact {
   c:=hq.nw.c
   cn:=hq.nw.cn
   β:=h.nw.β
   tk:=fun j q0 y0 uU Bi=>by
    obtain ⟨q',y',h1,h2,h3⟩:=h.nw.tk j q0 y0 uU Bi;exact ⟨q',y',by show (E.tk ++ _)[j]? = _;rw [List.getElem?_append_left (gS h1).1];exact h1,by show (E.τ ++ _)[j]? = _;rw [List.getElem?_append_left (gS h2).1];exact h2,h3⟩
   tn:=fun j y g hj hy hg=>by
    rcases hτ j y hy with ⟨_,h1⟩ | ⟨_,h1⟩
    ·exact h.nw.tn j y g hj h1 hg
    ·exact Nat.le_trans h.fr.size (PI _ y g h1 hg)
   l0:=h.nw.l0 }
theorem Rq {P:Program} (h:Rel X E st a w) (aR:X.still=false) {f:FuncId} {args bD:List DV} {vs:List Value} {Φ:DV->List (List DV)->List TkE->Prop} (hc:VV P f bD [] [] Φ) (ha:CcL [] 0 0 0 bD args) (hv:RvL E args vs) :
  Calls P f vs.toArray w fun e w'=>∃ v E' d cu,e = .returned v/\Rel X E' ⟨st.sl,st.bx,st.tk ++ cu⟩ a w' /\ Rv E' (shD st.tk.length d) v/\Φ d [] cu/\qu E.cl.S w w' /\ Ext E E' /\ E'.β=E.β:=by
 have Ts:RvL E.cl bD vs:=CcL.sound (E:=E) (E':=E.cl) ⟨fun _ _ h=>h,fun i cs _ hi=>by simp at hi⟩ (H6.zero _ _) ha hv;refine (hc E.cl w vs (LQ h.env) rfl Ts).mono ?_;rintro e w' ⟨v,rfl,hm,_,d,os,E2,he,hβ,_,hn,yS,hΦ⟩;have hβ:E2.β=[]:=hβ
 have sb:os=[]:=by
  have:=he.len;rw [hβ] at this;exact List.eq_nil_of_length_eq_zero this.symm
 subst sb;have gJ:E.τ.length=E.tk.length:=h.env.tl
 have hx:Ext E ⟨E2.c,E.β,E.tk ++ E2.tk,E.τ ++ E2.τ⟩:=⟨hn.c,fun _ _ h=>h,fun j q hj=>by
  have aj:=(gS hj).1;refine ⟨q,by show (E.tk ++ _)[j]? = _;rw [List.getElem?_append_left aj];exact hj,.inl ⟨rfl,?_⟩⟩;show (E.τ ++ _)[j]? = _
  rw [List.getElem?_append_left (by rw [gJ];exact aj)]⟩
 refine ⟨v,_,d,E2.tk,rfl,HI h aR hm he hn,tx (E2:=E2) (E:=⟨E2.c,E.β,E.tk ++ E2.tk,E.τ ++ E2.τ⟩) (m:=st.tk.length) hβ rfl (fun k q hq=>?_) yS,hΦ,hm,hx,rfl⟩;rw [<- h.tk];constructor
 ·show (E.tk ++ E2.tk)[_]? = _;rw [List.getElem?_append_right (by omega)];simpa using hq
 ·show (E.τ ++ E2.τ)[_]? = _;rw [List.getElem?_append_right (by omega),gJ];simp
theorem OG {f:FuncId} {args bD:List DV} {d:Nat} (mg:Enters X.P f) (hd:fV X.nt st.sl (some d)=true) {Φ:DV->List (List DV)->List TkE->Prop} (hc:VV X.P f bD [] [] Φ) (ha:CcL [] 0 0 0 bD args)
  (hk:∀ r cu,Φ r [] cu->go X 4000 k ⟨(d,⟨[],shD st.tk.length r⟩) :: st.sl,st.bx,st.tk ++ cu⟩) (aR:X.still=false:=by exact rfl):gP X f args (some d) k st:=by
 refine ⟨mg,aR,fun E a w vs h hv=>(Rq h aR hc ha hv).mono ?_⟩;rintro e w' ⟨v,E',r,cu,rfl,bZ,hr,hΦ,_⟩;exact go_sound 4000 _ _ (hk r cu hΦ) E' _ w' (bz bZ hd _ v hr)
end
end Dv
end Go.Proofs.YtadhpeooehkklaaGreat
namespace Go.Proofs.YtadhpeooehkklaaGreat
namespace Dv
open Go Go.RowKit
section
variable {X:Ctx} {st:St} {k:List It} {E:En} {a:Act} {w:World}
theorem Ji (h:Rel X E st a w) {es:List (List DV)} {cs:List DV} {kt m wS e:Nat} {v:Value} (hv:Rv E (.sl 0 es (some kt)) v) (hq:st.tk[kt]? = some ⟨m,wS,e,some cs⟩) (gh:es.length=m) (hm:0 < m) :
  ∃ g cap,∃ cur:Array Value,v = .slice (some ⟨g,0,none⟩) m cap/\E.tk[kt]? = some ⟨m,wS,e,some cs⟩/\E.τ[kt]? = some v/\w.heap[g]? = some (.cells cur wS (0,0))/\cur.size=cap * e/\cs.length=m * e/\RvC E.cl cs (cur.toList.take (m * e))/\m<=cap/\cap<=maxLen/\g ∉ E.β/\∀ x u,E.c x=some u->x.block=g->x.off < 0:=by
 unfold Rv at hv;obtain ⟨bs,ns,nE,e1,⟨yz,F1⟩,TI,F2⟩:=hv;subst yz;obtain ⟨q',iR,_,TJ⟩:=F2 kt rfl;have jY:E.tk[kt]? = some ⟨m,wS,e,some cs⟩:=by rw [h.tk];exact hq
 rw [jY] at iR;simp only [oI] at iR;subst iR;have hy:=TJ gh;rcases h.env.cu kt _ _ jY hy with ⟨_,kJ,_⟩ | ⟨g,cap,cur,rP,hw0,⟨vJ,C7⟩,vK,yP,ie,Jz⟩
 ·simp only at kJ;omega
 obtain ⟨h5,h6⟩:=C7 cs rfl;exact ⟨g,cap,cur,rP,jY,hy,hw0,vJ,h5,h6,vK,yP,ie,Jz⟩
theorem Rr {o1:Oper} {t et e jL nn m g cap:Nat} {bb:Bool} {zz:List Value} {z:Int} {kd:IntKind} {s ix:Operand} (h1:o1.op = .indexAddr t s ix) (e1:a.eval s = .slice (some ⟨g,0,none⟩) m cap) (e2:a.eval ix = .int kd z)
  (hT:X.T.find t=some ⟨nn,bb,.sl et e jL,zz⟩) (hz:0<=z/\z < m) (w:World):(execOp a.eval o1).run X.P w = .ok (.value (.pointer (some ⟨g,z.toNat * e,none⟩))) w:=by
 obtain ⟨hu,ii,zv,qB,_,UF,_,_⟩:=fb X.hT hT;have qC:iJ X.P et=some e:=by rw [fO qB,UF]
 have cm:(Instr.indexAt t (.slice (some ⟨g,0,none⟩) m cap) (.int kd z)).run X.P w = .ok (.pointer (some ⟨g,z.toNat * e,none⟩)) w:=by
  simp [Instr.indexAt,asIntOf,run_underlying hu,hz.1,hz.2,aN qC,Addr.add_lit]
 simp only [execOp,h1,e1,e2,Sem.run_bind,cm,Result.andThen_ok,Sem.run_pure]
theorem Rs {o2:Oper} {d1 kt ty e m wS:Nat} {z:Int} {es:List (List DV)} {cs cs':List DV} {v:Value} {x:Operand} {dv:DV} {g cap:Nat}
  (hr1:Rel X E st a w) (h2:o2.op = .store ty (.tmp d1) x) (ht1:a.eval (.tmp d1) = .pointer (some ⟨g,z.toNat * e,none⟩)) (hv:Rv E (.sl 0 es (some kt)) v) (Z3:v = .slice (some ⟨g,0,none⟩) m cap)
  (hx:rv st [] x=some dv) (YF:eraL dv.cells (fun l=>some l)=some cs') (UE:dv.cells.length=e) (he0:0 < e)
  (bL:X.T.sz ty=some e) (hq:st.tk[kt]? = some ⟨m,wS,e,some cs⟩) (gh:es.length=m) (hz:0<=z/\z < m) (aR:X.still=false) :
  ∃ w' E',(execOp a.eval o2).run X.P w = .ok .skip w' /\ Rel X E' ⟨st.sl,st.bx,st.tk.set kt ⟨m,wS,e,some (cs.take (z.toNat * e) ++ cs' ++ cs.drop (z.toNat * e + e))⟩⟩ a w':=by
 obtain ⟨g',nE,cur,e1,jY,hy,hw0,vJ,h5,h6,vK,yP,ie,Jz⟩:=Ji hr1 hv hq gh (by omega);rw [Z3] at e1;injection e1 with i1 i2 i3
 injection i1 with i1
 injection i1 with i1
 subst i1 i3;rw [Z3] at hy;have e3:=ba hr1.rl hx;have eD:RvC E dv.cells (a.eval x).cells.toList:=e3.cells (iM (n:=e) UE (by omega));have yw:(a.eval x).cells.toList.length=e:=by rw [eD.1.length];exact UE
 obtain ⟨l',yQ,hx1,_⟩:=py YF eD;simp only [oI] at yQ;rw [yQ] at hx1;have UG:m * e<=cap * e:=Nat.mul_le_mul_right _ vK
 have jF:z.toNat * e + e<=m * e:=by
  have:(z.toNat + 1) * e<=m * e:=Nat.mul_le_mul_right _ (by omega);rw [Nat.add_mul] at this;omega
 have M5:cur.toList.length=cap * e:=sU vJ;have vI:=jQ (P:=X.P) (t:=ty) (off:=z.toNat * e) (n:=e) hw0 (C2 X.hT bL) yw (by rw [vJ];omega) (List.all_eq_true.2 eD.2);generalize hN:cur.toList.take (z.toNat * e) ++ (a.eval x).cells.toList ++ cur.toList.drop (z.toNat * e + e)=N at vI
 have hNl:N.length=cap * e:=by
  subst hN;simp only [List.length_append,List.length_take,List.length_drop,yw,M5];omega
 have hNt:N.take (m * e)=(cur.toList.take (m * e)).take (z.toNat * e) ++ (a.eval x).cells.toList ++ (cur.toList.take (m * e)).drop (z.toNat * e + e):=by
  subst hN;rw [List.take_append,List.take_append,List.take_take,List.take_take];have h1:(cur.toList.take (z.toNat * e)).length=z.toNat * e:=by rw [List.length_take];omega
  rw [List.length_append,h1,yw,Nat.min_eq_right (by omega),Nat.min_eq_left (by omega),List.take_of_length_le (l:=(a.eval x).cells.toList) (by rw [yw];omega),List.drop_take]
 have nr:C0 (World.dF w g (.cells N.toArray wS (0,0))) E.c E.β ⟨m,wS,e,some (cs.take (z.toNat * e) ++ cs' ++ cs.drop (z.toNat * e + e))⟩ (.slice (some ⟨g,0,none⟩) m cap):=by
  refine .inr ⟨g,cap,_,rfl,gO hw0,⟨by simpa using hNl,fun rS C4=>?_⟩,vK,yP,ie,Jz⟩;simp only [oI] at C4;subst C4;simp only;have h8:=((RvC.take (z.toNat * e) h6).append hx1).append (RvC.drop (z.toNat * e + e) h6);rw [<- hNt] at h8;have hl8:=h8.1.length;refine ⟨?_,by show RvC E.cl _ (N.toArray.toList.take (m * e));simpa using h8⟩;rw [<- hl8,List.length_take,hNl];omega
 obtain ⟨bZ,_⟩:=Bl (q':=⟨m,wS,e,some (cs.take (z.toNat * e) ++ cs' ++ cs.drop (z.toNat * e + e))⟩) (w':=World.dF w g (.cells N.toArray wS (0,0))) hr1 aR jY hy rfl rfl rfl (.inl ⟨rfl,rfl⟩) nr (.inl rfl) rfl rfl rfl (by rw [fp];exact Nat.le_refl _) (fun j _ bg=>cT (by
  rintro rfl
  exact bg rfl))
 refine ⟨_,_,?_,bZ⟩;simp only [execOp,h2,ht1,Instr.storeAt,Instr.sureAddr,Sem.run_bind,Sem.run_pure,Result.andThen_ok,vI]
theorem AX {D:Dr} {c:Bool} {i i1 i2:Nat} {s0:List (Nat × Sl)} {o1 o2:Oper} {f:FuncId} {args bD:List DV} {d d1 kt t ty et e jL m wS nn:Nat} {bb:Bool} {zz:List Value} {z:Int} {kd:IntKind} {es:List (List DV)} {cs cs':List DV} {s ix x:Operand} {Bs dv:DV}
  (mg:Enters X.P f) (hd:fV X.nt st.sl (some d)=true) (hc:aQ X.P f bD Bs) (ha:CcL [] 0 0 0 bD args)
  (h1:o1.op = .indexAddr t s ix/\o1.dst=some d1/\o1.guard=none) (h2:o2.op = .store ty (.tmp d1) x/\o2.dst=none/\o2.guard=none) (yY:fV X.nt ((d,⟨[],Bs⟩) :: st.sl) (some d1)=true)
  (hs:rv ⟨(d,⟨[],Bs⟩) :: st.sl,st.bx,st.tk⟩ [] s=some (.sl 0 es (some kt))) (hi:rv ⟨(d,⟨[],Bs⟩) :: st.sl,st.bx,st.tk⟩ [] ix=some (.v (.int kd z)))
  (hx:rv ⟨(d1,⟨[],.pt [] 0⟩) :: (d,⟨[],Bs⟩) :: st.sl,st.bx,st.tk⟩ [] x=some dv) (YF:eraL dv.cells (fun l=>some l)=some cs') (UE:dv.cells.length=e) (he0:0 < e)
  (hT:X.T.find t=some ⟨nn,bb,.sl et e jL,zz⟩) (bL:X.T.sz ty=some e) (hq:st.tk[kt]? = some ⟨m,wS,e,some cs⟩) (gh:es.length=m) (hz:0<=z/\z < m) (hW2:D.W i2=true)
  (hk:∃ Dh,Wk X ⟨(d1,⟨[],.pt [] 0⟩) :: (d,⟨[],Bs⟩) :: st.sl,st.bx,st.tk.set kt ⟨m,wS,e,some (cs.take (z.toNat * e) ++ cs' ++ cs.drop (z.toNat * e + e))⟩⟩ Dh/\go X 4000 D.k Dh)
  (aR:X.still=false:=by exact rfl) (hf:D.fin=none:=by exact rfl):zu X D c i [(i1,o1),(i2,o2)] f args (some d) s0 st:=by
 refine ⟨mg,fun hl E0 wr hD E a w vs h hv=>(nF h.rel aR hc ha hv).mono ?_⟩;rintro e9 w' ⟨v,E',r,rfl,bZ,hr,rfl,hm9,hx9,hβ9⟩
 have hh9:∀ b,b < w.heap.size->w'.heap[b]? = w.heap[b]?:=fun b hb=>hm9.block b hb (by
  rintro (h1 | ⟨y,h1,_⟩)
  ·simp [En.cl] at h1
  ·simp [En.cl] at h1)
 have hs9:cQ none E w E' w':=⟨hx9,⟨[],by rw [hβ9];simp⟩,fun j b hb _=>hh9 b (h.rel.env.bd (mG hb))⟩;refine ⟨v,rfl,(fun _=>Dj h hs9 bZ (fun j hj=>by cases hj)),?_⟩;have hr0:=bz bZ hd r v hr;generalize ha0:a.put (some d) v=a0 at hr0;have ed:=hr0.rl;have e2:=ct (ba ed hi);have hv:=ba ed hs;obtain ⟨g,cap,cur,e1,_⟩:=Ji hr0 hv hq gh (by omega);have W0:fW o1.op=false:=by rw [h1.1];all_goals rfl
 have hL1:jR o1.op=false:=by rw [h1.1];all_goals rfl
 have hE2:fW o2.op=true:=by rw [h2.1];all_goals rfl
 have g1:D.ops[i1]? = some o1:=hl (i1,o1) (by simp);have g2:D.ops[i2]? = some o2:=hl (i2,o2) (by simp);show runT X.P D.ops D.W _ (Dw.Q ⟨D,E0,wr⟩ X) [i1,i2] a0 w';have hr1:Rel X E' ⟨(d1,⟨[],.pt [] 0⟩) :: (d,⟨[],r⟩) :: st.sl,st.bx,st.tk⟩ (a0.put (some d1) (.pointer (some ⟨g,z.toNat * e,none⟩))) w':=bz hr0 yY (.pt [] 0) _ (by unfold Rv;exact ⟨g,z.toNat * e,rfl,by simp only [RvAt]⟩)
 have ht1:(a0.put (some d1) (.pointer (some ⟨g,z.toNat * e,none⟩))).eval (.tmp d1) = .pointer (some ⟨g,z.toNat * e,none⟩):=by
  simp only [fV,Bool.and_eq_true,Nat.blt_eq] at yY;simp [Act.eval,Act.put,hr0.sz,yY.1]
 simp only [runT,g1,W0,Bool.false_eq_true,if_false];refine ⟨.pointer (some ⟨g,z.toNat * e,none⟩),.inl ⟨fG h1.2.2,fun w9 _=>Rr h1.1 e1 e2 hT hz w9⟩,fun h9=>(by rw [hL1] at h9;cases h9),?_⟩;rw [h1.2.1];generalize a0.put (some d1) (.pointer (some ⟨g,z.toNat * e,none⟩))=a1 at hr1 ht1;have V9:=fG (ops:=D.ops) (a:=a1) h2.2.2;simp only [g2,hE2,if_true,dC,V9];obtain ⟨w2,E2,cm,nG⟩:=Rs hr1 h2.1 ht1 hv e1 hx YF UE he0 bL hq gh hz aR;refine Bo cm ?_;rw [h2.2.1];refine ⟨(fun hw=>by rw [hW2] at hw;cases hw),?_⟩;obtain ⟨Dh,TU,hU⟩:=hk;obtain ⟨E3,hr3⟩:=TU _ _ _ nG;show Dw.Q ⟨D,E0,wr⟩ X _ _;unfold Dw.Q;simp only [hf];exact go_sound 4000 _ _ hU _ _ _ hr3
end
end Dv
end Go.Proofs.YtadhpeooehkklaaGreat
namespace Go.Proofs.YtadhpeooehkklaaGreat
namespace Dv
open Go Go.RowKit
section
variable {X:Ctx} {st:St} {k:List It} {E:En} {a:Act} {w:World} {o:Oper}
end
end Dv
end Go.Proofs.YtadhpeooehkklaaGreat
namespace Go.Proofs.YtadhpeooehkklaaGreat
namespace Dv
open Go Go.RowKit
section
variable {X:Ctx} {st:St} {k:List It} {E:En} {a:Act} {w:World} {o:Oper}
theorem VB {t d et e jL n len:Nat} {bb:Bool} {z:List Value} {parts:Array (Nat × Operand)} {es:List (List DV)} (qh:o.op = .buildSlice t len parts) (iT:o.dst=some d) (hT:X.T.find t=some ⟨n,bb,.sl et e jL,z⟩) (gh:litL e st parts.toList 0=some es)
  (hc:(Nat.beq es.length len && (Nat.blt 0 len && Nat.blt 0 e && Nat.ble (len * e) 16777216))=true) (hd:fV X.nt st.sl (some d)=true) (aR:X.still=false:=by exact rfl) (hX:X.bt=[]:=by exact rfl) :
  OpS X o st ⟨(d,⟨[],.sl 0 (List.replicate len []) (some st.tk.length)⟩) :: st.sl,st.bx,st.tk ++ [⟨len,et,e,some es.flatten⟩]⟩:=by
 intro E a w h;simp only [Bool.and_eq_true,Nat.beq_eq,Nat.ble_eq,Nat.blt_eq] at hc;obtain ⟨hlen,⟨jF,CP⟩,hsm⟩:=hc;obtain ⟨hu,ii,zv,qB,hz,bL,FI,Js⟩:=fb X.hT hT;obtain ⟨xs,vs,hp,vG,yw,eD,zl,dY⟩:=mb h.rl CP gh;subst bL
 have FV:len * ii.size≠0:=by
  have:=Nat.mul_pos jF CP;omega
 have lz:Instr.fill (fun i=>some (i * ii.size,ii.size)) ((Array.range (len * ii.size)).map (zv.cells[·% zv.cells.size]!)) (parts.map fun (i,x)=>(i,a.eval x)).toList=some (cellsL vs).toArray:=by
  have h0:=qq ii.size vs 0 ((Array.range (len * ii.size)).map (zv.cells[·% zv.cells.size]!)).toList eD (by simp [yw,hlen])
  have h1:(parts.map fun (i,x)=>(i,a.eval x)).toList=enumF 0 vs:=by
   rw [Array.toList_map,hp,vG,<- oo]
  rw [h1];simp only [Array.toArray_toList] at h0;rw [h0];simp [yw,hlen]
 have cm:(execOp a.eval o).run X.P w = .ok (.value (.slice (some ⟨w.heap.size,0,none⟩) len len)) (w.alloc (.cells (cellsL vs).toArray et)):=by
  simp only [execOp,qh,Sem.run_bind,run_buildSlice w t et len _ _ ii zv hu qB hz (by omega) FV lz,Result.andThen_ok,Sem.run_pure]
 have Ae:(cellsL vs).length=len * ii.size:=by
  have:∀ l:List Value,(∀ v∈l,v.cells.toList.length=ii.size)->(cellsL l).length=l.length * ii.size:=by
   intro l
   induction l with
   | nil=>intro _;simp [cellsL]
   | cons v l ih=>
    intro hl;simp only [cellsL,List.length_append,List.length_cons];rw [ih fun x hx=>hl x (List.mem_cons_of_mem _ hx),hl v List.mem_cons_self,Nat.succ_mul];omega
  rw [this vs eD,yw,hlen]
 refine ej cm ?_;rw [iT]
 have JB:es.flatten.length=len * ii.size:=by
  have h1:=zl.1.length;rw [<- h1,Ae]
 have Z4:RvC ⟨E.c,[],[],[]⟩ es.flatten ((cellsL vs).toArray.toList.take (len * ii.size)):=by
  rw [List.take_of_length_le (by simp [Ae])];exact zl
 have JG:len<=maxLen:=by
  have:len<=len * ii.size:=Nat.le_mul_of_pos_right _ CP;unfold maxLen;omega
 have jG:=h.env.jS (w':=w.alloc (.cells (cellsL vs).toArray et)) fun i hi=>alloc_old w _ hi
 let E2:En:=⟨E.c,E.β,E.tk ++ [⟨len,et,ii.size,some es.flatten⟩],E.τ ++ [.slice (some ⟨w.heap.size,0,none⟩) len len]⟩
 have hext:Ext E E2:=⟨fun _ _ h=>h,fun _ _ h=>h,fun k q' hk=>by
  have aj:=(gS hk).1;refine ⟨q',by show (E.tk ++ _)[k]? = _;rw [List.getElem?_append_left aj];exact hk,.inl ⟨rfl,?_⟩⟩;show (E.τ ++ _)[k]? = _
  rw [List.getElem?_append_left (by rw [h.env.tl];exact aj)]⟩
 have hτ:∀ (k:Nat) y,E2.τ[k]? = some y->(k < E.τ.length/\E.τ[k]? = some y)∨(k=E.τ.length/\y = .slice (some ⟨w.heap.size,0,none⟩) len len):=fun k y hy=>by
  have hy:(E.τ ++ [Value.slice (some ⟨w.heap.size,0,none⟩) len len])[k]? = some y:=hy;rw [List.getElem?_append] at hy;split at hy
  ·rename_i hk;exact .inl ⟨hk,hy⟩
  ·rename_i hk
   have h0:k - E.τ.length=0:=by
    rcases Nat.eq_zero_or_pos (k - E.τ.length) with h0 | h0
    ·exact h0
    ·rw [List.getElem?_eq_none (by simp;omega)] at hy;cases hy
   rw [h0] at hy;simp only [List.getElem?_cons_zero,oI] at hy;exact .inr ⟨by omega,hy.symm⟩
 have fN:∀ (k:Nat) y g,E.τ[k]? = some y->y.ownBlock=some g->g < w.heap.size:=fun k y g hy hg=>(h.env.own (mG hy) hg).1
 have bZ:Rel X E2 ⟨st.sl,st.bx,st.tk ++ [⟨len,et,ii.size,some es.flatten⟩]⟩ a (w.alloc (.cells (cellsL vs).toArray et)):=by
  refine dh h hext ?_ (by show E.tk ++ _=_;rw [h.tk]) ?_ (h.fr.alloc _) (nC aR) (.nil hX)
  ·exact {
    len:=h.env.len
    tl:=by show (E.τ ++ _).length=(E.tk ++ _).length;simp [h.env.tl]
    eU:=fun i cs hi=>by
     obtain ⟨b,t,arr,hb,hw,hc⟩:=jG.eU i cs hi;exact ⟨b,t,arr,hb,hw,hc.mono hext⟩
    inj:=h.env.inj
    sub:=jG.sub
    pc:=h.env.pc
    cu:=fun k q' y SO hy=>by
     rcases hτ k y hy with ⟨aj,fi⟩ | ⟨rfl,rfl⟩
     ·have eJ:(E.tk ++ [⟨len,et,ii.size,some es.flatten⟩])[k]? = some q':=SO;rw [List.getElem?_append_left (by rw [<- h.env.tl];exact aj)] at eJ;exact jG.cu k q' y eJ fi
     ·have eJ:(E.tk ++ [⟨len,et,ii.size,some es.flatten⟩])[E.τ.length]? = some q':=SO;rw [List.getElem?_append_right (by rw [h.env.tl];exact Nat.le_refl _),h.env.tl] at eJ;simp only [Nat.sub_self,List.getElem?_cons_zero,oI] at eJ;subst eJ;refine .inr ⟨w.heap.size,len,(cellsL vs).toArray,rfl,iL w _,⟨by simp [Ae],fun cs hc=>by cases hc;exact ⟨JB,Z4⟩⟩,Nat.le_refl _,JG,fun hm=>?_,fun x v hx FL=>?_⟩
      ·have:=h.env.bd hm;omega
      ·have:=World.block_lt_of_cell? w x (h.env.sub x v hx);omega
    jm:=fun k k' y y' g CN hy fi hg rO=>by
     rcases hτ k y hy with ⟨_,uT⟩ | ⟨rfl,rfl⟩
     ·rcases hτ k' y' fi with ⟨_,kL⟩ | ⟨rfl,rfl⟩
      ·exact h.env.jm k k' y y' g CN uT kL hg rO
      ·have:=fN k y g uT hg;simp only [Value.ownBlock,oI] at rO;omega
     ·rcases hτ k' y' fi with ⟨_,kL⟩ | ⟨rfl,rfl⟩
      ·have:=fN k' y' g kL rO;simp only [Value.ownBlock,oI] at hg;omega
      ·exact CN rfl }
  ·exact {
    c:=h.nw.c
    cn:=h.nw.cn
    β:=h.nw.β
    tk:=fun j q0 y0 uU Bi=>by
     obtain ⟨q',y',h1,h2,h3⟩:=h.nw.tk j q0 y0 uU Bi;exact ⟨q',y',by show (E.tk ++ _)[j]? = _;rw [List.getElem?_append_left (gS h1).1];exact h1,by show (E.τ ++ _)[j]? = _;rw [List.getElem?_append_left (gS h2).1];exact h2,h3⟩
    tn:=fun j y g hj hy hg=>by
     rcases hτ j y hy with ⟨_,uT⟩ | ⟨_,rfl⟩
     ·exact h.nw.tn j y g hj uT hg
     ·simp only [Value.ownBlock,oI] at hg;have:=h.fr.size;omega
    l0:=h.nw.l0 }
 refine ⟨E2,bz bZ hd (.sl 0 (List.replicate len []) (some st.tk.length)) _ ?_,hext,⟨[],by simp [E2]⟩,fun i b hb _=>alloc_old w _ (h.env.bd (mG hb))⟩;unfold Rv;refine ⟨_,_,_,rfl,⟨by rw [List.length_replicate],Nat.le_refl _⟩,fun bg=>⟨rfl,se _ _ _ _⟩,fun k' eJ=>?_⟩;cases eJ;refine ⟨⟨len,et,ii.size,some es.flatten⟩,?_,Nat.le_refl _,fun _=>?_⟩
 ·show (E.tk ++ _)[st.tk.length]? = _;rw [h.tk];simp
 ·show (E.τ ++ _)[st.tk.length]? = _;rw [<- h.tk,<- h.env.tl];simp
theorem Rt {t d et e jL n len:Nat} {bb:Bool} {z:List Value} {parts:Array (Nat × Operand)} {es:List (List DV)} (qh:o.op = .buildSlice t len parts) (iT:o.dst=some d) (hT:X.T.find t=some ⟨n,bb,.sl et e jL,z⟩) (gh:litL e st parts.toList 0=some es)
  (hc:(Nat.beq es.length len && (Nat.blt 0 len && Nat.blt 0 e && Nat.ble (len * e) 16777216))=true) (hd:fV X.nt st.sl (some d)=true) (aR:X.still=false:=by exact rfl) (hX:X.bt=[]:=by exact rfl)
  (hk:go X 4000 k ⟨(d,⟨[],.sl 0 (List.replicate len []) (some st.tk.length)⟩) :: st.sl,st.bx,st.tk ++ [⟨len,et,e,some es.flatten⟩]⟩):K8 X o k st:=(VB qh iT hT gh hc hd aR hX).g hk
end
end Dv
end Go.Proofs.YtadhpeooehkklaaGreat
namespace Go.Proofs.YtadhpeooehkklaaGreat
namespace Dv
open Go Go.RowKit
theorem E6 {E E':En} {x x':DV} (h:∀ z,Rv E x z->Rv E' x' z):∀ {l:List DV} {vs:List Value},(∀ d∈l,∃ v,d = .v v)->RvL E (l ++ [x]) vs->RvL E' (l ++ [x']) vs
 | [],vs,_,hv=>by
  simp only [List.nil_append,RvL] at hv ⊢;obtain ⟨v,s,rfl,h1,h2⟩:=hv;exact ⟨v,s,rfl,h v h1,h2⟩
 | d :: r,vs,hl,hv=>by
  simp only [List.cons_append,RvL] at hv ⊢;obtain ⟨v,s,rfl,h1,h2⟩:=hv;refine ⟨v,s,rfl,?_,E6 h (fun d hd=>hl d (List.mem_cons_of_mem _ hd)) h2⟩;obtain ⟨u,rfl⟩:=hl d List.mem_cons_self;unfold Rv at h1 ⊢;exact h1
theorem OH {E:En} {w w':World} {v:Value} {l:List DV} {es ns:List (List DV)} {n ty e:Nat} (Ru:Env E [] w) (kM:E.tk=[]) (hl:∀ d∈l,∃ v,d = .v v) (yz:∀ x∈ns,x.length=e) (fc:ns.length=n) (gh:es.length=n)
  (hc:oY false E w (fun r _ cu=>r = .agg (l ++ [.sl 0 es (some 0)])/\cu=[⟨n,ty,e,some ns.flatten⟩]) v w' true):oY false E w (fun d _ _=>d = .agg (l ++ [.sl e ns none])) v w':=by
 obtain ⟨hm,hs,d,os,E2,he,hβ,gJ,hn,yS,rfl,q7⟩:=hc
 have sb:os=[]:=by
  have h1:=he.len;have h2:=Ru.len;rw [hβ] at h1;rw [h1] at h2;exact List.eq_nil_of_length_eq_zero h2
 subst sb;have hτl:E2.τ.length=1:=by rw [he.tl,q7];all_goals rfl
 obtain ⟨y,hy⟩:∃ y,E2.τ[0]? = some y:=⟨_,gE (by omega)⟩;have hq:E2.tk[0]? = some ⟨n,ty,e,some ns.flatten⟩:=by rw [q7];all_goals rfl
 have nj:=he.cu 0 _ y hq hy
 have dq:∀ x u,E2.c x=some u->sI E2 w' y (n * e) x=some u:=fun x u hx=>by
  unfold sI;split
  ·exact he.sub x u hx
  ·exact hx
 refine ⟨hm,hs,.agg (l ++ [.sl e ns none]),[],⟨sI E2 w' y (n * e),E2.β,[],[]⟩,?_,hβ,?_,?_,?_,rfl⟩
 ·exact {
   len:=he.len
   tl:=rfl
   eU:=fun i cs hi=>by simp at hi
   inj:=he.inj
   sub:=fun x u hx=>by
    rcases fF hx with ⟨_,_,_,h1⟩ | h1
    ·exact h1
    ·exact he.sub x u h1
   pc:=fun x u hx hm=>by
    rcases fF hx with ⟨h1,_⟩ | h1
    ·exact (iQ nj h1).2 hm
    ·exact he.pc x u h1 hm
   cu:=fun j q y hj _=>by simp at hj
   jm:=fun j j' y y' g _ hj _ _=>by simp at hj }
 ·show 0=_;rw [kM];all_goals rfl
 ·exact {
   c:=fun x u hx=>dq x u (hn.c x u hx)
   cn:=fun x u hx=>by
    rcases fF hx with ⟨h1,_⟩ | h1
    ·exact .inr (.inl (hn.tn 0 y _ (by rw [kM];exact Nat.le_refl _) hy h1))
    ·exact hn.cn x u h1
   β:=hn.β
   tk:=fun j q0 y0 uU _=>by rw [kM] at uU;simp at uU
   tn:=fun j y g _ hj _=>by simp at hj
   l0:=hn.l0 }
 ·unfold Rv at yS ⊢;obtain ⟨vs',rfl,hL,V1⟩:=yS;refine ⟨vs',rfl,E6 (fun z hz=>?_) hl hL,V1⟩;unfold Rv at hz ⊢;obtain ⟨b,m,cap,rfl,⟨rfl,hmc⟩,hr,aR⟩:=hz;obtain ⟨q',iR,_,hτ⟩:=aR 0 rfl;rw [hq] at iR;simp only [oI] at iR;subst iR;have kL:=hτ gh;rw [hy] at kL;simp only [oI] at kL;subst kL;refine ⟨b,es.length,cap,rfl,⟨by omega,hmc⟩,fun bg=>?_,fun k' eJ=>by cases eJ⟩;rcases nj with ⟨h1,h2,h3⟩ | ⟨g,TA,cur,h0,h1,h2,h3,h4,h5,h6⟩
  ·simp only at h2;exact (bg (List.eq_nil_of_length_eq_zero (by omega))).elim
  ·injection h0 with i1 i2 i3
   subst i1;refine ⟨rfl,?_⟩;obtain ⟨h7,h8⟩:=h2.2 _ rfl;refine rvEs_flat (h8.mono (E:=⟨E2.c,[],[],[]⟩) ⟨dq,fun _ _ h=>by simp at h,fun _ _ h=>by simp at h⟩) yz fun j u hj=>?_;rw [List.getElem?_take] at hj;split at hj
   ·rename_i nD;show sI E2 w' _ (n * e) _=_;unfold sI;rw [if_pos ⟨rfl,rfl,by simpa [ao] using nD⟩];simp only [ab,ao,Nat.zero_add];rw [cF h1];simpa using hj
   ·cases hj
theorem KR {E:En} {w w':World} {v:Value} {d:DV} (kM:E.tk=[]) (hc:oY false E w (fun r _ cu=>r=d/\cu=[]) v w' true):oY false E w (fun r _ _=>r=d) v w':=by
 obtain ⟨hm,hs,d,os,E2,he,hβ,gJ,hn,yS,rfl,q7⟩:=hc;exact ⟨hm,hs,d,os,E2,he,hβ,by rw [q7,kM];exact (rfl:(0:Nat)=0),hn,yS,rfl⟩
theorem Rw {s:Bool} {E:En} {w w':World} {v:Value} {fr:Bool} {A B:DV->List (List DV)->List TkE->Prop} (h:oY s E w (fun r o t=>A r o t∨B r o t) v w' fr):oY s E w A v w' fr∨oY s E w B v w' fr:=by
 obtain ⟨hm,hs,d,os,E2,he,hβ,gJ,hn,yS,h1 | h1⟩:=h
 ·exact .inl ⟨hm,hs,d,os,E2,he,hβ,gJ,hn,yS,h1⟩
 ·exact .inr ⟨hm,hs,d,os,E2,he,hβ,gJ,hn,yS,h1⟩
theorem KS {s:Bool} {E:En} {w w':World} {v:Value} {fr:Bool} {A B:DV->List (List DV)->List TkE->Prop} (h:oY s E w A v w' fr) (hAB:∀ r o t,A r o t->B r o t):oY s E w B v w' fr:=by
 obtain ⟨hm,hs,d,os,E2,he,hβ,gJ,hn,yS,h1⟩:=h;exact ⟨hm,hs,d,os,E2,he,hβ,gJ,hn,yS,hAB _ _ _ h1⟩
end Dv
end Go.Proofs.YtadhpeooehkklaaGreat
set_option maxRecDepth 100000
namespace Go.Proofs.YtadhpeooehkklaaGreat
open Go Go.RowKit Dv Go.Proofs.Tryz
def VC (d:Nd) (v:Val):List cQ:=(List.range v.ks.length).map (stpR d v)
theorem KT (d:Nd) (v:Val) (e:Nat):aP ((List.range e).map (stpR d v)) ++ [jJ (stpR d v e)]=aP ((List.range (e + 1)).map (stpR d v)):=by
 rw [List.range_succ];simp [aP]
abbrev OI (d:Nd) (v:Val) (q e:Nat):St:=
 ⟨[(2,⟨[],.loc 0 0⟩),(3,⟨[],.loc 1 0⟩),(5,⟨[],.sl 3 (aP ((List.range e).map (stpR d v))) (some 0)⟩),(9,⟨[],.v (.int .i64 (dVals v.ks).length)⟩),(10,⟨[],.v (.int .i64 e)⟩)],[gv d,dVal v],[⟨q,117,3,none⟩]⟩
theorem HJ (d:Nd) (v:Val) (hv:v.wt<=1099511627776) (hk:v.k=d.ag) (h5:5<=d.ag) (Hr:d.ag<=8) (h7:d.ag=7->v.ks.length=d.ai.length) (h8:d.ag=8->0<=v.n/\v.n < d.ai.length) :
  aQ prog 113 [.agg (gv d),.agg (dVal v)] (.sl 3 (aP (VC d v)) none):=by
 obtain ⟨ag,aS,lo,hi,most,af,es⟩:=d;obtain ⟨q,z,s,ks⟩:=v;have dY:=aO es;have bA:=bQ ks;have ee:=gx ks;rw [Val.wt] at hv;simp only [Val.k,Val.n,Val.ks] at hk h5 Hr h7 h8;subst hk;refine eG 55 [.tmp 4] func113 rfl ntmps113 rfl fun _ _ _ _=>?_;refine lJ (fun e=>OI ⟨q,aS,lo,hi,most,af,es⟩ (.mk q z s ks) e e) ks.length (cL 2 ⟨0,117,3,none⟩ rfl rfl rfl pB rfl rfl lY) ?_;intro e he;refine br ?_ ?_<;>intro hL
 ·have aj:e < ks.length:=by simpa [bA,Val.ks] using hL
  have cR:(aP ((List.range e).map (stpR ⟨q,aS,lo,hi,most,af,es⟩ (.mk q z s ks)))).length=e:=by simp [aP]
  have du:=KT ⟨q,aS,lo,hi,most,af,es⟩ (.mk q z s ks) e
  have hS:stpR ⟨q,aS,lo,hi,most,af,es⟩ (.mk q z s ks) e=if q=5 then ⟨2,e,av⟩
   else if q=6 then ⟨4,0,av⟩
   else if q=7 then ⟨1,0,match es[e]? with | some e=>e.name | none=>av⟩
   else ⟨5,0,match es[z.toNat]? with | some e=>e.name | none=>av⟩:=rfl
  refine br ?_ ?_<;>intro c
  ·have c:q=7:=sU c;obtain ⟨x,hx⟩:∃ x,es[e]? = some x:=⟨_,gE (by have:=h7 c;omega)⟩;rw [if_neg (by omega),if_neg (by omega),if_pos c] at hS;simp only [hx] at hS;rw [hS] at du;refine iX (aC hx) ?_;refine ⟨cR,⟨by rw [cR];simp [maxLen];omega,by rw [cR];simp;omega⟩,?_⟩;exact rE ⟨_,by omega,e + 1,rfl,by omega,rfl⟩ (ap 2 rfl (gj (aF aj (by omega)) du) rfl rfl rfl (wB2 (aF aj (by omega)) du))
  have c7:¬ q=7:=sU c;refine br ?_ ?_<;>intro c
  ·have c:q=5:=sU c;rw [if_pos c] at hS;rw [hS] at du;refine ⟨cR,⟨by rw [cR];simp [maxLen];omega,by rw [cR];simp;omega⟩,?_⟩;exact rE ⟨_,by omega,e + 1,rfl,by omega,rfl⟩ (ap 2 rfl (gj (aF aj (by omega)) du) rfl rfl rfl (wB2 (aF aj (by omega)) du))
  have c5:¬ q=5:=sU c;refine br ?_ ?_<;>intro c
  ·have c:q=6:=sU c;rw [if_neg c5,if_pos c] at hS;rw [hS] at du;refine ⟨cR,⟨by rw [cR];simp [maxLen];omega,by rw [cR];simp;omega⟩,?_⟩;exact rE ⟨_,by omega,e + 1,rfl,by omega,rfl⟩ (ap 2 rfl (gj (aF aj (by omega)) du) rfl rfl rfl (wB2 (aF aj (by omega)) du))
  have c6:¬ q=6:=sU c;refine br ?_ ?_<;>intro c
  ·have c:q=8:=sU c;obtain ⟨z0,z1⟩:=h8 c;obtain ⟨x,hx⟩:∃ x,es[z.toNat]? = some x:=⟨_,gE (by omega)⟩;rw [if_neg c5,if_neg c6,if_neg c7] at hS;simp only [hx] at hS;rw [hS] at du;refine iX (aC hx) ?_;refine ⟨cR,⟨by rw [cR];simp [maxLen];omega,by rw [cR];simp;omega⟩,?_⟩;exact rE ⟨_,by omega,e + 1,rfl,by omega,rfl⟩ (ap 2 rfl (gj (aF aj (by omega)) du) rfl rfl rfl (wB2 (aF aj (by omega)) du))
  ·have c:¬ q=8:=sU c;omega
 ·have aM:e=ks.length:=by
   have:=hL;simp [bA,Val.ks] at this;omega
  rw [aM];exact ⟨_,ax,rfl⟩
def KU (d:Nd) (v:Val) (s:cQ):Option Nat:=(List.range v.ks.length).find? fun e=>mM (stpR d v e) s
def stepV (ND:List Nd) (v:Val) (i:Int) (s:cQ):Option (Nat × Val × Int):=
 match lQ ND i with
 | none=>none
 | some d=>match KU d v s with
  | none=>none
  | some e=>match v.ks[e]?,(kidsL d v)[e]? with
   | some x,some j=>some (e,x,j)
   | _,_=>none
def getV (ND:List Nd):List cQ->Val->Int->Option (Val × Int)
 | [],v,i=>some (v,i)
 | s :: p,v,i=>match stepV ND v i s with
  | none=>none
  | some (_,x,j)=>getV ND p x j
theorem KV {f:Nat->Bool} {n e:Nat} (h:(List.range n).find? f=some e):e < n/\f e=true:=by
 have h1:=List.find?_some h;have h2:=List.mem_of_find?_eq_some h;exact ⟨by simpa using h2,h1⟩
theorem yi {ND:List Nd} {v:Val} {i:Int} {s:cQ} {e:Nat} {x:Val} {j:Int} (h:stepV ND v i s=some (e,x,j)) :
  ∃ d,lQ ND i=some d/\KU d v s=some e/\v.ks[e]? = some x/\(kidsL d v)[e]? = some j:=by
 unfold stepV at h;split at h
 ·cases h
 ·rename_i d hd;split at h
  ·cases h
  ·rename_i e' he;split at h
   ·rename_i x' j' hx hj;simp only [oI,Prod.mk.injEq] at h;obtain ⟨rfl,rfl,rfl⟩:=h;exact ⟨d,hd,he,hx,hj⟩
   ·cases h
section
variable {L:Nat} {ND:List Nd} (bm:∀ n∈ND,cz L ND.length n)
include bm
theorem E7 {v:Val} {i:Int} {d:Nd} (hF:Vr ND v i d) {e:Nat} {x:Val} (hx:v.ks[e]? = some x):5<=d.ag/\d.ag<=8:=by
 have hN:=bm d (mG (gL hF.ak).2);refine ⟨?_,hN.k8⟩;have h1:=hN.k1;rcases Int.lt_or_le d.ag 5 with h | h
 ·rw [hF.leaf h] at hx;simp at hx
 ·exact h
theorem OJ {v:Val} {i:Int} (hf:fitV ND v i=true) {s:cQ} {e:Nat} {x:Val} {j:Int} (h:stepV ND v i s=some (e,x,j)):fitV ND x j=true:=by
 obtain ⟨d,hF⟩:=te bm hf;obtain ⟨d',h1,h2,h3,h4⟩:=yi h;rw [hF.ak] at h1;cases h1;exact EE (hF.kids (E7 bm hF h3).1).2 h3 h4
end
section
variable {L:Nat} {ND:List Nd} (bm:∀ n∈ND,cz L ND.length n)
include bm
end
theorem Jj {p:Nat->Bool}:∀ {n e:Nat},e < n->p e=true->(∀ e' < e,p e'=false)->(List.range n).find? p=some e
 | 0,e,h,_,_=>by omega
 | n + 1,e,h,h1,h2=>by
  rw [List.range_succ,List.find?_append];by_cases he:e < n
  ·rw [Jj he h1 h2];all_goals rfl
  ·have:e=n:=by omega
   subst this;have h3:(List.range e).find? p=none:=List.find?_eq_none.2 fun x hx=>by rw [h2 x (sU hx)];simp
   rw [h3];simp [h1]
theorem Rx {p:Nat->Bool} {n:Nat} (h:∀ e < n,p e=false):(List.range n).find? p=none:=List.find?_eq_none.2 fun x hx=>by rw [h x (sU hx)];simp
theorem AY (a b:cQ):mM a b=mM b a:=by
 rw [Bool.eq_iff_iff,EF,EF];exact eq_comm
abbrev ixSt (l:List cQ) (s:cQ) (e:Nat):St:=⟨[(0,⟨[],.sl 3 (aP l) none⟩),(3,⟨[],.loc 0 0⟩),(6,⟨[],.sl 3 (aP l) none⟩),(7,⟨[],.v (.int .i64 (aP l).length)⟩),(8,⟨[],.v (.int .i64 e)⟩)],[jJ s],[]⟩
theorem HK (f:Nat->cQ) (n:Nat) (s:cQ) (hn:n<=1099511627776) :
  aQ prog 114 [.sl 3 (aP ((List.range n).map f)) none,.agg (jJ s)] (.v (.int .i64 (oz ((List.range n).find? fun e=>mM (f e) s)))):=by
 have bA:(aP ((List.range n).map f)).length=n:=by rw [dO];simp
 refine eG 19 [.tmp 4] func114 rfl ntmps114 rfl fun _ _ _ _=>?_;refine lI (fun j st=>∃ e:Nat,st=ixSt ((List.range n).map f) s e/\e<=n/\(∀ e' < e,mM (f e') s=false)/\j=n - e) ⟨0,rfl,by omega,(fun _ h=>by omega),rfl⟩ (ah ⟨_,rfl⟩ wA rfl rfl rfl wB) ?_;rintro _ st ⟨e,rfl,he,eZ,rfl⟩;refine br ?_ ?_<;>intro hL
 ·have aj:e < n:=sV bA hL;have hx:((List.range n).map f)[e]? = some (f e):=by rw [List.getElem?_map,List.getElem?_range aj];all_goals rfl
  refine dI ?_;refine ⟨_,⟨by omega,dE hx⟩,_,QX _ _ s (f e),?_⟩;refine br ?_ ?_<;>intro c
  ·have c:mM s (f e)=true:=c;have:=Jj (p:=fun e=>mM (f e) s) aj (by show mM (f e) s=true;rw [AY];exact c) eZ;rw [this];exact (rfl:_=_)
  ·have c:mM s (f e)=false:=c
   exact rE ⟨_,by omega,e + 1,rfl,by omega,(fun e' h=>by
    rcases Nat.lt_or_ge e' e with h1 | h1
    ·exact eZ e' h1
    ·have:e'=e:=by omega
     subst this
     rw [AY];exact c),rfl⟩ (ah ⟨_,rfl⟩ wA rfl rfl rfl (cX (aF aj (by omega))))
 ·have aM:n<=e:=sV bA hL;have:=Rx (p:=fun e=>mM (f e) s) (n:=n) fun e' h=>eZ e' (by omega);rw [this];exact (rfl:_=_)
theorem E8 (d:Nd) (q z:Int) (s:ByteArray):aQ prog 113 [.agg (gv d),.agg (dVal (.mk q z s []))] (.sl 3 [] none):=by
 obtain ⟨ag,aS,lo,hi,most,af,es⟩:=d;refine eG 55 [.tmp 4] func113 rfl ntmps113 rfl fun _ _ _ _=>?_;refine bo (fun j st=>st=OI ⟨ag,aS,lo,hi,most,af,es⟩ (.mk q z s []) 0 0) 0 (OI ⟨ag,aS,lo,hi,most,af,es⟩ (.mk q z s []) 0 0) (cL 2 ⟨0,117,3,none⟩ rfl rfl rfl pB rfl rfl lY) rfl ?_;rintro _ st rfl;exact ⟨_,ax,rfl⟩
def kidR (o:Option (Nat × Val × Int)):DV:=match o with
 | some (e,_,j)=>.tup [.v (.int .i64 (e:Nat)),.v (.int .i64 j)]
 | none=>.tup [.v (.int .i64 (-1)),.v (.int .i64 (-1))]
theorem E9 {L:Nat} {ND:List Nd} (bm:∀ n∈ND,cz L ND.length n) {v:Val} (hv:v.wt<=1099511627776) {i:Int} {d:Nd} (hF:Vr ND v i d):aQ prog 113 [.agg (gv d),.agg (dVal v)] (.sl 3 (aP (VC d v)) none):=by
 have hN:=bm d (mG (gL hF.ak).2);rcases Int.lt_or_le d.ag 5 with h5 | h5
 ·have h:=hF.leaf h5;obtain ⟨q,z,s,ks⟩:=v;simp only [Val.ks] at h;subst h;exact E8 d q z s
 ·refine HJ d v hv hF.k h5 hN.k8 (fun c=>?_) (fun c=>?_)
  ·have:=(hF.kids h5).1;rw [<- this];unfold kidsL;rw [if_neg (by omega),if_pos c,List.length_map]
  ·obtain ⟨_,_,_,h3,h4,_⟩:=hF.tag c;exact ⟨h3,h4⟩
theorem OL {S:Sch} {ND:List Nd} {PC:List DV} (hP:eW S ND PC) {v:Val} (hv:v.wt<=1099511627776) {i:Int} (hf:fitV ND v i=true) (s:cQ) :
  aQ prog 57 [.pt PC 0,.v (.int .i64 i),.agg (dVal v),.agg (jJ s)] (kidR (stepV ND v i s)):=by
 obtain ⟨d,hF⟩:=te hP.ok hf
 have vI:stepV ND v i s=match KU d v s with | none=>none | some e=>match v.ks[e]?,(kidsL d v)[e]? with | some x,some j=>some (e,x,j) | _,_=>none:=by
  unfold stepV;rw [hF.ak];all_goals rfl
 have KB:∀ e,KU d v s=some e->∃ x j,v.ks[e]? = some x/\(kidsL d v)[e]? = some j/\5<=d.ag:=fun e he=>by
  have aj:=(KV he).1;have hx:v.ks[e]? = some v.ks[e]:=gE aj;have h5:=E7 hP.ok hF hx;exact ⟨_,_,hx,gE (by rw [(hF.kids h5.1).1];exact aj),h5.1⟩
 have zw:KU d v s=(List.range v.ks.length).find? fun e=>mM (stpR d v e) s:=rfl;have h1:=E9 hP.ok hv hF;have ee:=gx v.ks;have hvw:v.wt=64 + v.s.size + dL v.ks:=by cases v;rw [Val.wt];all_goals rfl
 have h2:=HK (stpR d v) v.ks.length s (by omega);obtain ⟨h0,hg⟩:=gL hF.ak;have hN:=hP.ok d (mG hg);have h3:=fun h5=>Ay hN h5 v hv;obtain ⟨j0,rfl⟩:∃ j:Nat,i=j:=⟨i.toNat,by omega⟩;have hg:ND[j0]? = some d:=sU hg;have eI:=hP.ak j0 d hg;rw [<- zw] at h2;rw [vI];have hstl:VC d v=(List.range v.ks.length).map (stpR d v):=rfl;rw [hstl] at h1;generalize (List.range v.ks.length).map (stpR d v)=SL at h1 h2;generalize KU d v s=o at h2 KB ⊢;clear vI;obtain ⟨q,z,t,ks⟩:=v;obtain ⟨ag,aS,lo,hi,most,af,es⟩:=d;obtain ⟨sk,sn,ss⟩:=s;refine eG 38 [.tmp 8,.tmp 9] func57 rfl ntmps57 rfl fun _ _ _ _=>?_;refine cP Gg eI ?_;refine dI ?_;refine cD Xt h1 ?_;refine cD Xu h2 ?_
 cases o with
 | none=>
  exact ⟨_,ax,rfl⟩
 | some e=>
  obtain ⟨x,j,hx,hj,h5⟩:=KB e rfl;refine cP Xd (h3 h5) ?_;refine dI ?_;refine ⟨_,⟨by simp [oz],by simp [oz];exact I2 hj⟩,?_⟩;simp only [hx,hj];exact ⟨_,ax,rfl⟩
abbrev zc:List DV:=[.v (.int .i64 0),.v (.int .i64 0),.v (.string av),.v (.slice none 0 0)]
abbrev zeroV:Val:=.mk 0 0 av []
abbrev tcSt (v:Val) (n e:Nat):St:=
 ⟨[(1,⟨[],.loc 0 0⟩),(2,⟨[],.loc 1 0⟩),(3,⟨[],.sl 4 (dVals (v.ks.take e)) (some 0)⟩),(7,⟨[],.sl 4 (dVals v.ks) none⟩),(8,⟨[],.v (.int .i64 (dVals v.ks).length)⟩),(9,⟨[],.v (.int .i64 e)⟩)],[dVal v,zc],[⟨n,34,4,none⟩]⟩
theorem yj:∀ (k:Nat) (v:Val),v.wt<=k->v.wt<=1099511627776->aQ prog 58 [.agg (dVal v)] (.agg (dVal v))
 | 0,v,h,_=>by have:=v.er;omega
 | k + 1,.mk q z s ks,h,hb=>by
  have ee:=gx ks;have bA:=bQ ks;rw [Val.wt] at h hb;refine eG 22 [.cell 2 34] func58 rfl ntmps58 rfl fun _ _ _ _=>?_;refine lI (fun j st=>∃ e n:Nat,st=tcSt (.mk q z s ks) n e/\n=e/\e<=ks.length/\j=ks.length - e) ⟨0,0,rfl,rfl,by omega,rfl⟩ (cL 2 ⟨0,34,4,none⟩ rfl rfl rfl pB rfl rfl lY) ?_;rintro _ st ⟨e,n,rfl,rfl,he,rfl⟩;refine br ?_ ?_<;>intro hL
  ·have aj:n < ks.length:=by simpa [bA,Val.ks] using hL
   obtain ⟨x,hx⟩:=gX aj;have SI:=jy (mG hx);have hw:=yj k x (by omega) (by omega);have du:=Hp hx;have cR:(dVals (ks.take n)).length=n:=by rw [bQ,List.length_take];omega
   obtain ⟨xk,xn,xs,xl⟩:=x;refine iX (gW hx) ?_;refine cP Xe hw ?_;refine ⟨cR,⟨by simp only [Val.ks];rw [cR];simp [maxLen];omega,by simp only [Val.ks];rw [cR];simp;omega⟩,?_⟩;exact rE ⟨_,by omega,n + 1,n + 1,rfl,rfl,by omega,rfl⟩ (ap 2 rfl (gj (aF aj (by omega)) du) rfl rfl rfl (wB2 (aF aj (by omega)) du))
  ·have aM:n=ks.length:=by
    have:=hL;simp [bA,Val.ks] at this;omega
   subst aM;have h1:dVals (Val.mk q z s ks).ks=dVals ks:=rfl;have h2:ks.take ks.length=ks:=List.take_length;have h3:(Val.mk q z s ks).ks.take ks.length=ks:=h2;rw [h3];exact ⟨_,ax,rfl⟩
def resG (o:Option (Val × Int)):DV:=match o with
 | some (x,j)=>.tup [.agg (dVal x),.v (.int .i64 j),.v (.bool true)]
 | none=>.tup [.agg (dVal zeroV),.v (.int .i64 (-1)),.v (.bool false)]
abbrev Z5 (PC:List DV) (p:List cQ) (v:Val) (i:Int) (e:Nat):St:=
 ⟨[(0,⟨[],.pt PC 0⟩),(1,⟨[],.v (.int .i64 i)⟩),(6,⟨[],.loc 0 0⟩),(8,⟨[],.loc 1 0⟩),(21,⟨[],.sl 3 (aP p) none⟩),(22,⟨[],.v (.int .i64 (aP p).length)⟩),(23,⟨[],.v (.int .i64 e)⟩)],[dVal v,zc],[]⟩
theorem tget_spec {S:Sch} {ND:List Nd} {PC:List DV} (hP:eW S ND PC) {v:Val} (hv:v.wt<=1099511627776) (i:Int) (p:List cQ) (hp:p.length<=1099511627776) :
  aQ prog 17 [.pt PC 0,.v (.int .i64 i),.agg (dVal v),.sl 3 (aP p) none] (resG (if fitV ND v i=true then getV ND p v i else none)):=by
 have ng:=pV hP _ v (Nat.le_refl _) hv i;have lE:=dO p
 have hU:∀ e vc ic,e<=p.length->getV ND (p.drop e) vc ic=match p[e]? with | none=>some (vc,ic) | some s=>match stepV ND vc ic s with | none=>none | some (_,x,j)=>getV ND (p.drop (e + 1)) x j:=fun e vc ic he=>by
  cases hs:p[e]? with
  | none=>rw [List.drop_eq_nil_of_le (List.getElem?_eq_none_iff.1 hs)];all_goals rfl
  | some s=>
   obtain ⟨h1,h2⟩:=List.getElem?_eq_some_iff.1 hs;rw [List.drop_eq_getElem_cons h1,h2,getV];all_goals rfl
 generalize hR:(if fitV ND v i=true then getV ND p v i else none)=R;have hvq:dVal v=dVal v:=rfl;generalize hvV:v=V at *;obtain ⟨q,z,s,ks⟩:=V;refine eG 48 [.cell 8 34,.tmp 9,.tmp 10] func17 rfl ntmps17 rfl fun _ _ _ _=>?_;refine cP L2 ng ?_;refine br ?_ ?_<;>intro c
 ·have c:fitV ND (.mk q z s ks) i=false:=sU c;rw [c] at hR;subst hR;exact ⟨_,ax,rfl⟩
 have c:fitV ND (.mk q z s ks) i=true:=sU c;rw [if_pos c] at hR;refine lI (fun j st=>∃ (e:Nat) (vc:Val) (ic:Int),st=Z5 PC p vc ic e/\e<=p.length/\getV ND (p.drop e) vc ic=R/\fitV ND vc ic=true/\vc.wt<=1099511627776/\j=p.length - e) ⟨0,_,_,rfl,by omega,hR,c,hv,rfl⟩ (ap 2 rfl pB rfl rfl rfl lY) ?_;rintro _ st ⟨e,vc,ic,rfl,he,hg,hfc,hvc,rfl⟩;have hU:=hU e vc ic he;rw [hg] at hU;refine br ?_ ?_<;>intro hL
 ·have aj:e < p.length:=sV lE hL;obtain ⟨y,hy⟩:=gX aj;rw [hy] at hU;simp only at hU;have hk:=OL hP hvc hfc y;have hsf:=@OJ _ _ hP.ok vc ic hfc y;have QO:=@yi ND vc ic y;generalize stepV ND vc ic y=o at hk hU hsf QO;obtain ⟨yk,yn,ys⟩:=y;obtain ⟨ck,cn,cs,cks⟩:=vc;refine iX (dE hy) ?_;refine cP en57 hk ?_
  cases o with
  | none=>
   simp only at hU;subst hU;exact ⟨_,ax,rfl⟩
  | some o=>
   obtain ⟨e2,x,j⟩:=o;obtain ⟨d,_,_,hx,_⟩:=QO rfl;have hxf:=hsf rfl;simp only [Val.ks] at hx;have SI:=jy (mG hx);rw [Val.wt] at hvc;simp only at hU;refine iX (by simpa using gW hx) ?_;obtain ⟨xk,xn,xs,xl⟩:=x;exact ⟨Z5 PC p (.mk xk xn xs xl) j (e + 1),(ap 2 rfl (na (aF aj (by omega))) rfl rfl rfl (cX (aF aj (by omega)))),p.length - (e + 1),by omega,e + 1,_,_,rfl,by omega,hU.symm,hxf,by omega,rfl⟩
 ·have aM:e=p.length:=sW lE hL;have:p[e]? = none:=List.getElem?_eq_none (by omega);rw [this] at hU;simp only at hU;subst hU;have hw:=yj _ vc (Nat.le_refl _) hvc;obtain ⟨ck,cn,cs,cks⟩:=vc;refine cP Xe hw ?_;exact ⟨_,ax,rfl⟩
theorem tz {α:Type} {c:Nat} {x:List α}:∀ {l:List (List α)} {e:Nat},(∀ y∈l,y.length=c)->e < l.length->(l.set e x).flatten=l.flatten.take (e * c) ++ x ++ l.flatten.drop (e * c + c)
 | [],e,_,h=>by simp at h
 | y :: r,0,hl,h=>by
  have hy:=hl y (by simp);subst hy;simp
 | y :: r,e + 1,hl,h=>by
  have hy:=hl y (by simp);have ih:=tz (x:=x) (l:=r) (e:=e) (fun z hz=>hl z (by simp [hz])) (sU h);have h1:(e + 1) * c=y.length + e * c:=by rw [hy,Nat.add_mul,Nat.one_mul,Nat.add_comm]
  have h2:(e + 1) * c + c=y.length + (e * c + c):=by rw [h1];omega
  rw [List.set_cons_succ,List.flatten_cons,List.flatten_cons,ih,h2,h1,List.take_length_add_append,List.drop_length_add_append];simp
theorem gZ:∀ (l:List Val),∀ x∈dVals l,x.length=4
 | [],x,h=>by simp [dVals] at h
 | .mk _ _ _ _ :: r,x,h=>by
  rw [dVals] at h;rcases List.mem_cons.1 h with h | h
  ·rw [h];all_goals rfl
  ·exact gZ r x h
theorem AZ (l:List Val) (e:Nat) (y:Val):dVals (l.set e y)=(dVals l).set e (dVal y):=by rw [bP,bP,List.map_set]
def Cx (v:Val) (r:DV) (cu:List TkE):Prop:=
 (r = .agg ([.v (.int .i64 v.k),.v (.int .i64 v.n),.v (.string v.s)] ++ [.sl 0 (List.replicate v.ks.length []) (some 0)])/\cu=[⟨v.ks.length,34,4,some (dVals v.ks).flatten⟩])∨(v.ks=[]/\r = .agg (dVal v)/\cu=[])
theorem Cy {P:Program} {f:FuncId} {args:List DV} {v:Val} (hc:VV P f args [] [] (fun r _ cu=>Cx v r cu)):aQ P f args (.agg (dVal v)):=by
 intro E w vs Ru kM hv;refine (hc E w vs Ru kM hv).mono ?_;rintro ex w' ⟨x,rfl,h⟩;obtain ⟨k,n,s,ks⟩:=v;rcases Rw h with h | h
 ·exact ⟨x,rfl,OH (l:=[.v (.int .i64 k),.v (.int .i64 n),.v (.string s)]) Ru kM (by simp) (gZ ks) (bQ ks) List.length_replicate h⟩
 ·refine ⟨x,rfl,KR kM (KS h fun r o t ht=>ht.2)⟩
section
variable (PC:List DV) (ND:List Nd) (D:List Nat) (K:List Bool) (sz ot:List Nat) {L:Nat}
abbrev OM (n:Nd) (cs:List DV) (e:Nat):St:=
 ⟨[(0,⟨[],.pt (mQ PC ND D K sz ot) 0⟩),(4,⟨[],.loc 0 0⟩),(6,⟨[],.loc 2 0⟩),(30,⟨[],.sl 10 (cw n.ai) none⟩),(31,⟨[],.v (.int .i64 (cw n.ai).length)⟩),(32,⟨[],.v (.int .i64 e)⟩)],[zc,gv n,[.v (.int .i64 7),.v (.int .i64 0),.v (.string .empty),.sl 0 (List.replicate e []) (some 0)]],[⟨e,34,4,some cs⟩]⟩
theorem one_f (hO:gB ND D) (bm:∀ n∈ND,cz L ND.length n) (bL:∀ n∈ND,n.ai.length<=1099511627776):∀ (f i:Nat),i < ND.length->0 < D.getD i 0->D.getD i 0<=f->VV prog 78 [.pt (mQ PC ND D K sz ot) 0,.v (.int .i64 i)] [] [] (fun r _ cu=>Cx (firstV ND D f i) r cu)
 | 0,i,_,h0,h1=>by omega
 | f + 1,i,hi,h0,h1=>by
  have ih:=fun j hj h0 h1=>Cy (one_f hO bm bL f j hj h0 h1);obtain ⟨n,hn⟩:∃ n,ND[i]? = some n:=⟨_,gE hi⟩;have iy:=mG hn;have hN:=bm n iy;have zl:=hO.Wl hn h0;have F7:=hO.Pp hn h0;have za:=choose_spec PC ND D K sz ot hO.len hN (bL n iy);have dY:=bL n iy;have aU:=hN.fD;have cS:=hN.bare
  have hF:firstV ND D (f + 1) i=if n.ag=2 then dz 2 n.lo
   else if n.ag=7 then .mk 7 0 av (n.ai.map fun e=>firstV ND D f e.to.toNat)
   else if n.ag=8 then (match bu D n.ai with | some c=>tagV (firstV ND D f) n.ai c | none=>dz 8 0)
   else dz n.ag 0:=by rw [firstV,hn];all_goals rfl
  generalize firstV ND D (f + 1) i=F at hF;generalize D.getD i 0=di at zl F7 h1;obtain ⟨ag,aS,lo,eC,most,af,es⟩:=n;simp only at zl F7 za aU dY hF cS;have bA:=aO es;refine uV (s:=false) (bt:=[]) (mu:=[65]) (hbt:=fun p hp=>by cases hp) (fr:=true) (P:=prog) tt zB 5000 68 [.cell 4 34] func78 rfl ntmps78 rfl (nL rfl) (fun _ _ _ _=>?_);refine iX (bV hn) ?_;refine br ?_ ?_<;>intro c2
  ·have c2:ag=2:=sU c2;rw [if_pos c2] at hF;have hΦ:Cx F (.agg (dVal (dz ag lo))) []:=by rw [hF,c2];exact .inr ⟨rfl,rfl,rfl⟩
   exact ⟨.agg (dVal (dz ag lo)),[],ax,rfl,hΦ⟩
  have c2:¬ ag=2:=sU c2;rw [if_neg c2] at hF;refine br ?_ ?_<;>intro c7
  ·have c7:ag=7:=sU c7;rw [if_pos c7] at hF;have zl:=zl c7;refine lI (fun j st=>∃ (e:Nat) (cs:List DV),st=OM PC ND D K sz ot ⟨ag,aS,lo,eC,most,af,es⟩ cs e/\cs=(dVals ((es.take e).map fun e=>firstV ND D f e.to.toNat)).flatten/\e<=es.length/\j=es.length - e) ⟨0,[],rfl,rfl,by omega,rfl⟩ (cL 3 ⟨0,34,4,some []⟩ rfl rfl rfl (na c7) rfl rfl (cX c7)) ?_;rintro j st ⟨e,cs,rfl,cW,he,rfl⟩;refine br ?_ ?_<;>intro hL
   ·have aj:e < es.length:=sV bA hL;obtain ⟨x,hx⟩:=gX aj;obtain ⟨yH,hx1⟩:=zl x (mG hx)
    have nv:x.bare=false:=by
     cases hb:x.bare with
     | false=>rfl
     | true=>have:=cS x (mG hx) hb;omega
    obtain ⟨k,hk,ee⟩:=(aU x (mG hx)).to1 nv;have Ve:bY D x=D.getD k 0:=by unfold bY;rw [hk,Int.toNat_natCast]
    have cj:=ih k ee (by omega) (by omega)
    have du:(dVals ((es.take (e + 1)).map fun e=>firstV ND D f e.to.toNat)).flatten=cs ++ dVal (firstV ND D f k):=by
     rw [cW,dn hx,List.map_append,bP,bP];simp [hk]
    generalize firstV ND D f k=u at cj du;obtain ⟨uk,un,us,ul⟩:=u;obtain ⟨en,eb,ea,et,vi,ew,yD,yE,yF,yG⟩:=x;simp only at hk;subst hk;refine iX (aC hx) ?_;refine dS ?_;refine cD yV cj ?_;refine ⟨⟨⟨List.length_replicate,by simp⟩,by simp [maxLen];omega,by simp;omega⟩,?_⟩;exact ⟨OM PC ND D K sz ot ⟨ag,aS,lo,eC,most,af,es⟩ _ (e + 1),(ap 3 rfl (na (aF aj (by omega))) rfl rfl rfl (cX (aF aj (by omega)))),es.length - (e + 1),by omega,e + 1,_,rfl,du.symm,by omega,rfl⟩
   ·have aM:e=es.length:=sW bA hL;subst aM;rw [List.take_length] at cW
    have hΦ:Cx F (.agg [.v (.int .i64 7),.v (.int .i64 0),.v (.string .empty),.sl 0 (List.replicate es.length []) (some 0)]) [⟨es.length,34,4,some cs⟩]:=by
     rw [hF,cW];refine .inl ⟨?_,?_⟩
     ·simp [Val.k,Val.n,Val.s,Val.ks];rfl
     ·simp [Val.ks]
    exact ⟨.agg [.v (.int .i64 7),.v (.int .i64 0),.v (.string .empty),.sl 0 (List.replicate es.length []) (some 0)],[],lZ,rfl,hΦ⟩
  have c7:¬ ag=7:=sU c7;rw [if_neg c7] at hF;refine br ?_ ?_<;>intro c8
  ·have c8:ag=8:=sU c8;subst c8;obtain ⟨c,x,hc,hx,hp⟩:=F7 rfl;rw [if_pos rfl,hc] at hF;rw [hc] at za;refine cP Ij za ?_;refine ⟨_,⟨Int.natCast_nonneg _,aC hx⟩,?_⟩;refine br ?_ ?_<;>intro cb
   ·have cb:x.bare=false:=sU cb;obtain ⟨yH,hx1⟩:=hp cb;obtain ⟨k,hk,ee⟩:=(aU x (mG hx)).to1 cb;have Ve:bY D x=D.getD k 0:=by unfold bY;rw [hk,Int.toNat_natCast]
    have cj:=ih k ee (by omega) (by omega);have hF2:F = .mk 8 c av [firstV ND D f k]:=by rw [hF];simp only [tagV,hx,cb];rw [hk];all_goals rfl
    generalize firstV ND D f k=u at cj hF2;obtain ⟨uk,un,us,ul⟩:=u;obtain ⟨en,eb,ea,et,vi,ew,yD,yE,yF,yG⟩:=x;simp only at hk;subst hk;refine cP yV cj ?_;refine Rt rfl rfl rfl rfl rfl rfl (hk:=?_)
    have hΦ:Cx F (.agg [.v (.int .i64 8),.v (.int .i64 (c:Nat)),.v (.string .empty),.sl 0 (List.replicate 1 []) (some 0)]) [⟨1,34,4,some (dVal (.mk uk un us ul) ++ [])⟩]:=by
     rw [hF2];exact .inl ⟨rfl,rfl⟩
    exact ⟨.agg [.v (.int .i64 8),.v (.int .i64 (c:Nat)),.v (.string .empty),.sl 0 (List.replicate 1 []) (some 0)],[],lZ,rfl,hΦ⟩
   ·have cb:x.bare=true:=sU cb
    have hΦ:Cx F (.agg (dVal (dz 8 c))) []:=by
     rw [hF];simp only [tagV,hx,cb,if_true];exact .inr ⟨rfl,rfl,rfl⟩
    exact ⟨.agg (dVal (dz 8 c)),[],ax,rfl,hΦ⟩
  ·have c8:¬ ag=8:=sU c8;rw [if_neg c8] at hF;have hΦ:Cx F (.agg (dVal (dz ag 0))) []:=by rw [hF];exact .inr ⟨rfl,rfl,rfl⟩
   exact ⟨.agg (dVal (dz ag 0)),[],ax,rfl,hΦ⟩
end
theorem Cz {D:List Nat} {e:Ed} (h:dM D e=true) (hb:e.bare=false):0 < bY D e:=by
 unfold dM at h;rw [hb,Bool.false_or] at h;exact of_decide_eq_true h
theorem fstV_eq {ND:List Nd} {D:List Nat} (h:gB ND D) {i:Nat} {n:Nd} (hn:ND[i]? = some n) (h0:0 < D.getD i 0):bS ND D i=if n.ag=2 then dz 2 n.lo
   else if n.ag=7 then .mk 7 0 av (n.ai.map fun e=>bS ND D e.to.toNat)
   else if n.ag=8 then (match bu D n.ai with | some c=>tagV (bS ND D) n.ai c | none=>dz 8 0)
   else dz n.ag 0:=by
 obtain ⟨d,hd⟩:∃ d,D.getD i 0=d + 1:=⟨D.getD i 0 - 1,by omega⟩;rw [<- pZ h h0 (Nat.le_refl _),hd,firstV,hn];simp only;split
 ·rfl
 ·split
  ·rename_i h7;refine congrArg (Val.mk 7 0 av) (List.map_congr_left fun e he=>?_);obtain ⟨h2,h3⟩:=h.Wl hn h0 h7 e he;exact pZ h h2 (by unfold bY at h3;omega)
  ·split
   ·rename_i h8;obtain ⟨c,e,hc,he,hp⟩:=h.Pp hn h0 h8;rw [hc];refine yc fun e' pF hb=>?_;rw [he] at pF;cases pF;obtain ⟨h2,h3⟩:=hp hb;exact pZ h h2 (by unfold bY at h3;omega)
   ·rfl
section
variable (PC:List DV) (ND:List Nd) (D:List Nat) (K:List Bool) (sz T:List Nat) {L:Nat}
theorem Fa (hO:gB ND D) (bm:∀ n∈ND,cz L ND.length n) (bL:∀ n∈ND,n.ai.length<=1099511627776) (S3:∀ n∈ND,n.ag=2 -> -9223372036854775808<=n.lo/\n.hi<=9223372036854775807) (VA:K.length=ND.length) (hKs:∀ i n,ND[i]? = some n->K.getD i false=true->eA n D K=true)
  (hT:∀ i,T.getD i 0≠0->∃ n,ND[i]? = some n/\K.getD i false=true/\T.getD i 0=othE T (eB sz D K n)):∀ (f i:Nat),T.getD i 0≠0->T.getD i 0<=f->T.getD i 0 < 4097->aQ prog 79 [.pt (mQ PC ND D K sz T) 0,.v (.int .i64 i)] (.agg (dVal (dp ND D K f i)))
 | 0,i,h0,h1,_=>by omega
 | f + 1,i,h0,h1,h2=>by
  obtain ⟨n,hn,hKi,hv⟩:=hT i h0;have hi:=(gS hn).1;have iy:=mG hn;have hN:=bm n iy;have vI:=hKs i n hn hKi;have ON:=yg hN vI;have hDi:0 < D.getD i 0:=by rw [hO.get i n hn];exact x4 hN vI
  have cj:=fun k hk hp=>one_f PC ND D K sz T hO bm bL ND.length k hk hp (hO.le k)
  have Z6:∀ s j,1<=s->T.getD i 0=othE T (s,some j)->aQ prog 79 [.pt (mQ PC ND D K sz T) 0,.v (.int .i64 j)] (.agg (dVal (dp ND D K f j))):=fun s j hs h=>by
   have yO:T.getD j 0≠0:=fun hj=>h0 (by rw [h];simp only [othE];rw [if_pos hj])
   have aj:T.getD j 0 < T.getD i 0:=by
    have h':=h;simp only [othE] at h';rw [if_neg yO] at h';unfold aY at h';omega
   exact Fa hO bm bL S3 VA hKs hT f j yO (by omega) (by omega)
  have za:=choose_spec PC ND D K sz T hO.len hN (bL n iy);have FQ:=x7 PC ND D K sz T hO.len hN (bL n iy);have Ou:=fun h=>po PC ND D K sz T VA hN h (bL n iy);have F7:=hO.Pp hn hDi;have dY:=bL n iy;have aU:=hN.fD;have cS:=hN.bare;have OO:=hN.one;have hp:=EP sz D K n;have hF:dp ND D K (f + 1) i=Ct (bS ND D) (dp ND D K f) D K n:=by rw [dp,hn]
  have hF1:=fstV_eq hO hn hDi;have rD:=cj i hi hDi;rw [show firstV ND D ND.length i=bS ND D i from rfl,hF1] at rD
  have Jk:∀ {x:Ed},x∈n.ai->x.bare=false->0 < bY D x->∃ k:Nat,x.to=k/\k < ND.length/\aQ prog 78 [.pt (mQ PC ND D K sz T) 0,.v (.int .i64 k)] (.agg (dVal (bS ND D k))):=fun {x} hx hb h=>by
   obtain ⟨k,hk,ee⟩:=(aU x hx).to1 hb;exact ⟨k,hk,ee,Cy (cj k ee (by unfold bY at h;rw [hk,Int.toNat_natCast] at h;exact h))⟩
  rw [hF];clear hF hF1;obtain ⟨ag,aS,lo,eC,most,af,es⟩:=n;simp only at hv F7 za FQ Ou dY aU cS OO rD Jk;have h7:=ON.c7;have h8:=ON.c8;simp only at h7 h8;refine eG 105 [.cell 4 34] func79 rfl ntmps79 rfl fun _ _ _ _=>?_;refine iX (bV hn) ?_;refine br ?_ ?_<;>intro c2
  ·have c2:ag=2:=sU c2;subst c2;have hlo:lo < eC:=by simpa [eA] using vI
   have hr:=S3 _ iy rfl;simp only at hr;have hw:IntKind.i64.wrap (lo + 1)=lo + 1:=wrap64 (by omega) (by omega);exact ⟨.agg (dVal (dz 2 (lo + 1))),(gF hw),rfl⟩
  have c2:¬ ag=2:=sU c2;refine br ?_ ?_<;>intro c3
  ·have c3:ag=3:=sU c3;subst c3;exact ⟨.agg (dVal (.mk 3 0 ⟨#[97]⟩ [])),ax,rfl⟩
  have c3:¬ ag=3:=sU c3;refine br (fun d5=>?_) (fun c5=>?_)
  ·have c5:ag=5:=sU d5;subst c5;obtain ⟨x,hx,nv,_⟩:=OO (.inl rfl);subst hx
   have Cp:dM D x=true:=by
    cases h:dM D x with
    | true=>rfl
    | false=>simp [eA,manyN,h] at vI
   obtain ⟨k,hk,ee,Tg⟩:=Jk List.mem_cons_self nv (Cz Cp nv)
   have hG:Ct (bS ND D) (dp ND D K f) D K ⟨5,aS,lo,eC,most,af,[x]⟩ = .mk 5 0 av [bS ND D k]:=by
    show Val.mk 5 0 av [bS ND D x.to.toNat]=_;rw [hk,Int.toNat_natCast]
   rw [hG];generalize bS ND D k=u at Tg;obtain ⟨uk,un,us,ul⟩:=u;obtain ⟨en,eb,ea,et,vi,ew,yD,yE,yF,yG⟩:=x;simp only at hk;subst hk;refine ⟨_,⟨by omega,rfl⟩,?_⟩;refine cP yV Tg ?_;exact ⟨.agg (dVal (.mk 5 0 av [.mk uk un us ul])),ax,rfl⟩
  have c5:¬ ag=5:=sU c5;refine br ?_ ?_<;>intro c6
  ·have c6:ag=6:=sU c6;subst c6;obtain ⟨x,hx,nv,_⟩:=OO (.inr rfl);subst hx
   have Cp:dM D x=true:=by
    cases h:dM D x with
    | true=>rfl
    | false=>simp [eA,manyN,h] at vI
   obtain ⟨k,hk,ee,Tg⟩:=Jk List.mem_cons_self nv (Cz Cp nv)
   have hG:Ct (bS ND D) (dp ND D K f) D K ⟨6,aS,lo,eC,most,af,[x]⟩ = .mk 6 0 av [bS ND D k]:=by
    show Val.mk 6 0 av [bS ND D x.to.toNat]=_;rw [hk,Int.toNat_natCast]
   rw [hG];generalize bS ND D k=u at Tg;obtain ⟨uk,un,us,ul⟩:=u;obtain ⟨en,eb,ea,et,vi,ew,yD,yE,yF,yG⟩:=x;simp only at hk;subst hk;refine ⟨_,⟨by omega,rfl⟩,?_⟩;refine cP yV Tg ?_;exact ⟨.agg (dVal (.mk 6 0 av [.mk uk un us ul])),ax,rfl⟩
  have c6:¬ ag=6:=sU c6;refine br ?_ ?_<;>intro c7
  ·have c7:ag=7:=sU c7;subst c7;have Ou:=Ou rfl;obtain ⟨c,x,hc,hx,nv⟩:=h7 rfl;rw [hc] at Ou;rw [show eB sz D K ⟨7,aS,lo,eC,most,af,es⟩=(sumX sz c es 0 1,some x.to.toNat) by simp [eB,hc,hx]] at hv;have uM:=Z6 _ _ (mP (by omega)) hv;obtain ⟨k,hk,ee⟩:=(aU x (mG hx)).to1 nv;have eD:=(gS hx).1
   have hG:Ct (bS ND D) (dp ND D K f) D K ⟨7,aS,lo,eC,most,af,es⟩ = .mk 7 0 av ((es.map fun e=>bS ND D e.to.toNat).set c (dp ND D K f k)):=by
    show (match x6 K es with | some c=>(match es[c]? with | some e=>Val.mk 7 0 av ((es.map fun e:Ed=>bS ND D e.to.toNat).set c (dp ND D K f e.to.toNat)) | none=>dz 7 0) | none=>dz 7 0)=_;rw [hc];simp only [hx];rw [hk,Int.toNat_natCast]
   rw [hG];rw [hk,Int.toNat_natCast] at uM;have Th:VV prog 78 [.pt (mQ PC ND D K sz T) 0,.v (.int .i64 i)] [] [] (fun r _ cu=>Cx (.mk 7 0 av (es.map fun e=>bS ND D e.to.toNat)) r cu):=rD;have ee:(es.map fun e=>bS ND D e.to.toNat).length=es.length:=List.length_map _;generalize (es.map fun e=>bS ND D e.to.toNat)=ks at Th ee;generalize dp ND D K f k=u at uM;have Fb:=tz (x:=dVal u) (gZ ks) (e:=c) (by rw [bQ];omega);rw [<- AZ] at Fb;have F1:=gZ (ks.set c u);have nu:(dVals (ks.set c u)).length=ks.length:=by rw [bQ,List.length_set]
   obtain ⟨uk,un,us,ul⟩:=u;obtain ⟨en,eb,ea,et,vi,ew,yD,yE,yF,yG⟩:=x;simp only at hk;subst hk;refine OG yV rfl Th ax (fun r1 cu hr=>?_);rcases hr with ⟨rfl,rfl⟩ | ⟨h,_⟩
   ·refine cP R5 Ou ?_;refine dS ?_;refine ⟨_,⟨Int.natCast_nonneg _,aC hx⟩,?_⟩;refine AX (e:=4) (es:=List.replicate ks.length []) (m:=ks.length) Ue rfl uM ax ⟨rfl,rfl,rfl⟩ ⟨rfl,rfl,rfl⟩ rfl rfl rfl rfl rfl rfl (by decide) rfl rfl rfl List.length_replicate ⟨Int.natCast_nonneg _,by show (c:Int) < _;omega⟩ rfl ?_;refine ⟨_,GJ (j:=2) (o:=3) (k:=0) (ty:=34) (e:=4) (ocs:=[.v (.int .i64 7),.v (.int .i64 0),.v (.string av),.sl 0 (List.replicate ks.length []) (some 0)]) (n:=ks.length) (es:=List.replicate ks.length []) (ns:=dVals (ks.set c (.mk uk un us ul))) ?_ F1 nu rfl rfl List.length_replicate,?_⟩
    ·rw [Fb];rfl
    ·exact ⟨.agg (dVal (.mk 7 0 av (ks.set c (.mk uk un us ul)))),ax,rfl⟩
   ·have h:ks=[]:=h;rw [h] at ee;simp only [List.length_nil] at ee;omega
  have c7:¬ ag=7:=sU c7;refine br ?_ ?_<;>intro c8
  ·have c8:ag=8:=sU c8;subst c8
   cases ht:la D es with
   | some c=>
    rw [ht] at FQ;obtain ⟨x,hx,Cp⟩:=tq ht
    have hG:Ct (bS ND D) (dp ND D K f) D K ⟨8,aS,lo,eC,most,af,es⟩=tagV (bS ND D) es c:=by
     show (match la D es with | some c=>tagV (bS ND D) es c | none=>(match bu D es with | some c=>(match es[c]? with | some e=>Val.mk 8 c av [dp ND D K f e.to.toNat] | none=>dz 8 c) | none=>dz 8 0))=_;rw [ht]
    rw [hG];refine cP L8 FQ ?_;refine ⟨_,⟨Int.natCast_nonneg _,aC hx⟩,?_⟩;refine br ?_ ?_<;>intro cb
    ·have cb:x.bare=false:=sU cb;obtain ⟨k,hk,ee,Tg⟩:=Jk (mG hx) cb (Cz Cp cb);rw [show tagV (bS ND D) es c = .mk 8 c av [bS ND D k] by simp only [tagV,hx,cb];rw [hk];rfl];generalize bS ND D k=u at Tg;obtain ⟨uk,un,us,ul⟩:=u;obtain ⟨en,eb,ea,et,vi,ew,yD,yE,yF,yG⟩:=x;simp only at hk;subst hk;refine cP yV Tg ?_;exact ⟨.agg (dVal (.mk 8 c av [.mk uk un us ul])),ax,rfl⟩
    ·have cb:x.bare=true:=sU cb;rw [show tagV (bS ND D) es c=dz 8 c by simp only [tagV,hx,cb];rfl];exact ⟨.agg (dVal (dz 8 c)),ax,rfl⟩
   | none=>
    rw [ht] at FQ;obtain ⟨c,x,hc,hx,nv⟩:=h8 rfl ht;rw [show eB sz D K ⟨8,aS,lo,eC,most,af,es⟩=(1,some x.to.toNat) by simp [eB,ht,hc,hx]] at hv;have uM:=Z6 _ _ (Nat.le_refl 1) hv;obtain ⟨k,hk,ee⟩:=(aU x (mG hx)).to1 nv
    have hG:Ct (bS ND D) (dp ND D K f) D K ⟨8,aS,lo,eC,most,af,es⟩ = .mk 8 c av [dp ND D K f k]:=by
     show (match la D es with | some c=>tagV (bS ND D) es c | none=>(match bu D es with | some c=>(match es[c]? with | some e=>Val.mk 8 c av [dp ND D K f e.to.toNat] | none=>dz 8 c) | none=>dz 8 0))=_;rw [ht];simp only [hc,hx];rw [hk,Int.toNat_natCast]
    rw [hG];rw [hk,Int.toNat_natCast] at uM;have Fc:VV prog 78 [.pt (mQ PC ND D K sz T) 0,.v (.int .i64 i)] [] [] (fun r _ cu=>Cx (match bu D es with | some c=>tagV (bS ND D) es c | none=>dz 8 0) r cu):=rD;rw [hc] at Fc;simp only at Fc;rw [show tagV (bS ND D) es c = .mk 8 c av [bS ND D k] by simp only [tagV,hx,nv];rw [hk];rfl] at Fc;generalize bS ND D k=u0 at Fc;generalize dp ND D K f k=u at uM;have Fb:=tz (x:=dVal u) (gZ [u0]) (e:=0) (by rw [bQ];simp);rw [<- AZ] at Fb;have F1:=gZ ([u0].set 0 u);have nu:(dVals ([u0].set 0 u)).length=1:=by rw [bQ,List.length_set];all_goals rfl
    obtain ⟨uk,un,us,ul⟩:=u;obtain ⟨en,eb,ea,et,vi,ew,yD,yE,yF,yG⟩:=x;simp only at hk;subst hk;refine cP L8 FQ ?_;refine OG yV rfl Fc ax (fun r1 cu hr=>?_);rcases hr with ⟨rfl,rfl⟩ | ⟨h,_⟩
    ·refine dS ?_;refine ⟨_,⟨Int.natCast_nonneg _,aC hx⟩,?_⟩;refine AX (e:=4) (es:=List.replicate 1 []) (m:=1) Ue rfl uM ax ⟨rfl,rfl,rfl⟩ ⟨rfl,rfl,rfl⟩ rfl rfl rfl rfl rfl rfl (by decide) rfl rfl rfl List.length_replicate ⟨by omega,by omega⟩ rfl ?_;refine ⟨_,GJ (j:=2) (o:=3) (k:=0) (ty:=34) (e:=4) (ocs:=[.v (.int .i64 8),.v (.int .i64 (c:Nat)),.v (.string av),.sl 0 (List.replicate 1 []) (some 0)]) (n:=1) (es:=List.replicate 1 []) (ns:=dVals ([u0].set 0 (.mk uk un us ul))) ?_ F1 nu rfl rfl List.length_replicate,?_⟩
     ·rw [Fb];rfl
     ·exact ⟨.agg (dVal (.mk 8 c av [.mk uk un us ul])),ax,rfl⟩
    ·have h : [u0]=[]:=h;cases h
  ·have c8:¬ ag=8:=sU c8
   have hG:Ct (bS ND D) (dp ND D K f) D K ⟨ag,aS,lo,eC,most,af,es⟩=dz ag 1:=by
    unfold Ct;simp only;rw [if_neg c2,if_neg c3,if_neg (by omega),if_neg c7,if_neg c8]
   rw [hG];exact ⟨.agg (dVal (dz ag 1)),ax,rfl⟩
end
def HL (l:List Nat) (i:Int):Bool:=decide (0<=i) && (decide (0 < l.getD i.toNat 0) && decide (l.getD i.toNat 0 < 4097))
theorem CA {l:List Nat} {i:Int}:HL l i=true↔∃ j:Nat,i=j/\l.getD j 0≠0/\l.getD j 0 < 4097:=by
 unfold HL;rw [Bool.and_eq_true,Bool.and_eq_true];constructor
 ·rintro ⟨h1,h2,h3⟩;have h1:=of_decide_eq_true h1;have h2:=of_decide_eq_true h2;exact ⟨i.toNat,by omega,by omega,of_decide_eq_true h3⟩
 ·rintro ⟨j,rfl,h2,h3⟩;rw [Int.toNat_natCast];exact ⟨decide_eq_true (by omega),decide_eq_true (by omega),decide_eq_true h3⟩
theorem ym (l:List Nat) (i:Int) (hl:l.length<=1099511627776):aQ prog 77 [.sl 1 (dInts l) none,.v (.int .i64 i)] (.v (.bool (HL l i))):=by
 have bA:=aZ l;by_cases h:0<=i/\i < l.length
 ·obtain ⟨j,rfl⟩:∃ j:Nat,i=j:=⟨i.toNat,by omega⟩;obtain ⟨z,hz⟩:∃ z,l[j]? = some z:=⟨_,gE (by omega)⟩
  have hE:HL l j=(decide (0 < z) && decide (z < 4097)):=by
   unfold HL;rw [Int.toNat_natCast,List.getD_eq_getElem?_getD,hz,decide_eq_true (by omega),Bool.true_and];rfl
  rw [hE];refine eG 27 [.tmp 4] func77 rfl ntmps77 rfl fun _ _ _ _=>?_;refine br ?_ ?_<;>intro c
  ·refine ⟨_,⟨Int.natCast_nonneg _,aD hz⟩,?_⟩;refine br ?_ ?_<;>intro c2
   ·have c2:0 < z:=by simpa [lastG,pickB] using c2
    refine ⟨_,⟨Int.natCast_nonneg _,aD hz⟩,?_⟩;refine (congrArg (fun b=>DV.v (.bool b)) ?_:_=_);rw [decide_eq_true c2];simp [pickB];omega
   ·have c2:¬ 0 < z:=by simpa [lastG,pickB] using c2
    refine (congrArg (fun b=>DV.v (.bool b)) ?_:_=_);rw [decide_eq_false c2];simp [pickB]
  ·exfalso;have:(j:Int) < l.length:=by omega
   simp [bA,aq] at c;omega
 ·have hE:HL l i=false:=by
   cases hk:HL l i with
   | false=>rfl
   | true=>
    obtain ⟨j,rfl,h2,_⟩:=CA.1 hk;rw [List.getD_eq_getElem?_getD,List.getElem?_eq_none (by omega)] at h2;exact (h2 rfl).elim
  rw [hE];refine eG 27 [.tmp 4] func77 rfl ntmps77 rfl fun _ _ _ _=>?_;refine br ?_ ?_<;>intro c
  ·exfalso;simp [bA,aq] at c;omega
  ·exact (rfl:_=_)
theorem CB {ND:List Nd} {D:List Nat} (h:gB ND D) {j:Nat} (h0:0 < D.getD j 0):j < ND.length:=by
 rcases Nat.lt_or_ge j ND.length with h1 | h1
 ·exact h1
 ·rw [List.getD_eq_getElem?_getD,List.getElem?_eq_none (by rw [h.len];exact h1)] at h0;simp at h0
abbrev bi (ND:List Nd):List Nat:=depN ND ND.length
abbrev qa (ND:List Nd):List Bool:=eX ND (bi ND)
abbrev bN (ND:List Nd):List Nat:=jW ND (bi ND)
abbrev qb (ND:List Nd):List Nat:=Pq (bN ND) (bi ND) (qa ND) ND
theorem A0 {S:Sch} {ND:List Nd} {PC:List DV} (hP:eW S ND PC) (sz ot:List Nat) (K:List Bool) {j:Nat} (h:(bN ND).getD j 0≠0):aQ prog 78 [.pt (mQ PC ND (bi ND) K sz ot) 0,.v (.int .i64 j)] (.agg (dVal (bS ND (bi ND) j))):=by
 have h0:=(mS (fK ND)).1.1 (Nat.pos_of_ne_zero h);exact Cy (one_f PC ND (bi ND) K sz ot (fK ND) hP.ok hP.KK ND.length j (CB (fK ND) h0) h0 ((fK ND).le j))
theorem OP {ND:List Nd} {i:Nat} {n:Nd} (hn:ND[i]? = some n) (h:(qa ND).getD i false=true):eA n (bi ND) (qa ND)=true:=by
 have h:(eX ND (bi ND)).getD i false=true:=h;rw [<- od,List.getD_eq_getElem?_getD,List.getElem?_map,hn] at h;exact h
theorem KW {S:Sch} {ND:List Nd} {PC:List DV} (hP:eW S ND PC) (S3:∀ n∈ND,n.ag=2 -> -9223372036854775808<=n.lo/\n.hi<=9223372036854775807) {j:Nat} (h:(qb ND).getD j 0≠0) (h2:(qb ND).getD j 0 < 4097) :
  aQ prog 79 [.pt (mQ PC ND (bi ND) (qa ND) (bN ND) (qb ND)) 0,.v (.int .i64 j)] (.agg (dVal (Q8 ND (bi ND) (qa ND) j))):=
 Fa PC ND (bi ND) (qa ND) (bN ND) (qb ND) (fK ND) hP.ok hP.KK S3 (iw ND _ _) (fun i n hn h=>OP hn h) (fun i h=>Q7 h) 4096 j h (by omega) h2
theorem Fe {S:Sch} {ND:List Nd} {PC:List DV} (hP:eW S ND PC) (i:Int) :
  aQ prog 32 [.pt PC 0,.v (.int .i64 i)] (.tup [.agg (dVal (if HL (bN ND) i=true then bS ND (bi ND) i.toNat else zeroV)),.v (.bool (HL (bN ND) i))]):=by
 have hm:=p9 PC ND hP;have fc:=hP.nl;have hf:=ym (bN ND) i (by rw [ry];exact fc);have cj:=fun (j:Nat) h=>A0 hP (bN ND) (qb ND) (qa ND) (j:=j) h
 cases hk:HL (bN ND) i with
 | false=>
  rw [hk] at hf;refine eG 20 [.cell 4 34,.tmp 5] func32 rfl ntmps32 rfl fun _ _ _ _=>?_;refine cP JK hm ?_;refine cP P6 hf ?_;exact ⟨.tup [.agg (dVal zeroV),.v (.bool false)],ax,rfl⟩
 | true=>
  rw [hk] at hf;obtain ⟨j,rfl,h1,h2⟩:=CA.1 hk;have cj:=cj j h1;rw [if_pos rfl,Int.toNat_natCast];generalize bS ND (bi ND) j=u at cj;obtain ⟨uk,un,us,ul⟩:=u;refine eG 20 [.cell 4 34,.tmp 5] func32 rfl ntmps32 rfl fun _ _ _ _=>?_;refine cP JK hm ?_;refine cP P6 hf ?_;refine cP yV cj ?_;exact ⟨.tup [.agg (dVal (.mk uk un us ul)),.v (.bool true)],ax,rfl⟩
theorem CD {S:Sch} {ND:List Nd} {PC:List DV} (hP:eW S ND PC) (S3:∀ n∈ND,n.ag=2 -> -9223372036854775808<=n.lo/\n.hi<=9223372036854775807) (i:Int) :
  aQ prog 33 [.pt PC 0,.v (.int .i64 i)] (.tup [.agg (dVal (if HL (qb ND) i=true then Q8 ND (bi ND) (qa ND) i.toNat else zeroV)),.v (.bool (HL (qb ND) i))]):=by
 have hm:=p9 PC ND hP;have fc:=hP.nl;have hf:=ym (qb ND) i (by rw [Q6];exact fc);have uM:=fun (j:Nat) h h2=>KW hP S3 (j:=j) h h2
 cases hk:HL (qb ND) i with
 | false=>
  rw [hk] at hf;refine eG 20 [.cell 4 34,.tmp 5] func33 rfl ntmps33 rfl fun _ _ _ _=>?_;refine cP JK hm ?_;refine cP P6 hf ?_;exact ⟨.tup [.agg (dVal zeroV),.v (.bool false)],ax,rfl⟩
 | true=>
  rw [hk] at hf;obtain ⟨j,rfl,h1,h2⟩:=CA.1 hk;have uM:=uM j h1 h2;rw [if_pos rfl,Int.toNat_natCast];generalize Q8 ND (bi ND) (qa ND) j=u at uM;obtain ⟨uk,un,us,ul⟩:=u;refine eG 20 [.cell 4 34,.tmp 5] func33 rfl ntmps33 rfl fun _ _ _ _=>?_;refine cP JK hm ?_;refine cP P6 hf ?_;refine cP Ue uM ?_;exact ⟨.tup [.agg (dVal (.mk uk un us ul)),.v (.bool true)],ax,rfl⟩
def Jl (f:Nat->Nat->Bool) (n a b:Nat):Nat:=(fk f n a b).getD 0
def jK (f:Nat->Nat->Bool) (n:Nat):Nat:=(eT f n []).getD 0
theorem yo {f:Nat->Nat->Bool} {n a b:Nat} (h:fU f n) (ha:a < n) (hb:b < n):fk f n a b=some (Jl f n a b):=by
 obtain ⟨k,hk⟩:=h.jn a b ha hb;simp [Jl,hk]
theorem OQ {f:Nat->Nat->Bool} {n a b:Nat} (h:fU f n) (ha:a < n) (hb:b < n):Jl f n a b < n:=(pM (yo h ha hb)).1
theorem Ff {f:Nat->Nat->Bool} {n:Nat} (h:fU f n):Pn f n:=⟨h.rfl',h.GQ⟩
theorem HM {f:Nat->Nat->Bool} {n a b:Nat} (h:fU f n) (ha:a < n) (hb:b < n):kB f n a b=some (Jl f n a b):=by
 have h1:=yo h ha hb;have h2:=mK (n:=n) (a:=a) (b:=b) (Ff h);rw [h1] at h2
 cases hr:kB f n a b with
 | none=>rw [hr] at h2;simp at h2
 | some c=>
  obtain ⟨h3,h4,_⟩:=cA hr;have:=Ej (Ff h) h3 h4;rw [h1] at this;exact this.symm
theorem tA {f:Nat->Nat->Bool} {n:Nat} (h:fU f n):eT f n []=some (jK f n):=by
 obtain ⟨c,hc⟩:=tZ h [] (fun _ h=>by cases h);simp [jK,hc]
theorem Jm {f:Nat->Nat->Bool} {n:Nat} (h:fU f n):jK f n < n:=oJ (tA h)
section
variable (af:List ByteArray) (tc:List DV) (rows:List Nat) (js:List Int)
end
structure LatR (n:Nat) (f:Nat->Nat->Bool) (af:List ByteArray) (LC:List DV):Prop where
 ok:fU f n
 n32:n<=32
 nl:af.length=n
 len:aQ prog 187 [.pt LC 0] (.v (.int .i64 n))
 join:∀ a b:Nat,a < n->b < n->aQ prog 164 [.pt LC 0,.v (.int .i64 a),.v (.int .i64 b)] (.v (.int .i64 (Jl f n a b:Nat)))
 bot:aQ prog 140 [.pt LC 0] (.v (.int .i64 (jK f n:Nat)))
abbrev dX (S:Sch):Nat->Nat->Bool:=fh S.ae.length (dD (az S.ae) S.order)
theorem eW.VD {S:Sch} {ND:List Nd} {PC:List DV} (hP:eW S ND PC):∃ LC,aQ prog 139 [.pt PC 0] (.pt LC 0)/\LatR S.ae.length (dX S) (az S.ae) LC:=by
 obtain ⟨aH,js,hX,hl⟩:=hP.lat;have fc:=dH S.ae;have FO:=(hP.fine).lat;obtain ⟨hL,U1⟩:=nZ FO;have Wm:∀ p∈dD (az S.ae) S.order,p.1 < S.ae.length/\p.2 < S.ae.length:=by have:=oH (pP FO).2.2.1;rwa [dH] at this
 have ed:(fH S aH js).rows.length=S.ae.length:=by
  show (closeR (fA S.ae.length (dD (az S.ae) S.order)) S.ae.length).length=_;rw [fB,kr]
 have hr:eH (fH S aH js).rows:=lG (BM (by omega) _ Wm) _ (by omega)
 refine ⟨_,hl,{
  ok:=hL,n32:=U1,nl:=fc
  len:=?_
  join:=fun a b ha hb=>?_
  bot:=?_
  }⟩
 ·have:=sN (fH S aH js).af (de (fH S aH js).af (fH S aH js).aH) (fH S aH js).rows (fH S aH js).js
  rwa [show (fH S aH js).af.length=S.ae.length from fc] at this
 ·have hz:=(hX.hj a b (by rw [show (fH S aH js).af.length=S.ae.length from fc];exact ha) (by rw [show (fH S aH js).af.length=S.ae.length from fc];exact hb)).1;rw [show (fH S aH js).af.length=S.ae.length from fc,show (fH S aH js).f=dX S from rfl,yo hL ha hb] at hz;exact wW (fH S aH js).af (de (fH S aH js).af (fH S aH js).aH) (fH S aH js).rows (fH S aH js).js a b _ (by rw [show (fH S aH js).af.length=S.ae.length from fc];exact ha) (by rw [show (fH S aH js).af.length=S.ae.length from fc];exact hb) hX.hn hz
 ·have:=rb (fH S aH js).af (de (fH S aH js).af (fH S aH js).aH) (fH S aH js).rows (fH S aH js).js hX.hL hX.hn hX.hj
  rwa [show (fH S aH js).af.length=S.ae.length from fc,show (fH S aH js).f=dX S from rfl,tA hL] at this
def c9 (s:cQ):Bool:=
 if s.k=1∨s.k=5 then decide (s.n=0) && bc s.s
 else if s.k=2 then decide (0<=s.n) && decide (s.s=⟨#[]⟩)
 else if s.k=3∨s.k=4 then decide (s.n=0) && decide (s.s=⟨#[]⟩) else false
def oe (l:List cQ):Bool:=decide (l.length<=64) && l.all c9
theorem yp (s:cQ):oe [s]=c9 s:=by simp [oe]
def lW (d:Nd) (s:cQ) (e:Ed):Bool:=
 (decide (s.k=1) && decide (d.ag=7) && (decide (e.name=s.s) && !e.bare)) || (decide (s.k=5) && decide (d.ag=8) && (decide (e.name=s.s) && !e.bare)) ||
  ((decide (s.k=2) || decide (s.k=3)) && decide (d.ag=5) && decide (s.n < d.most)) || (decide (s.k=4) && decide (d.ag=6))
def HN (d:Nd) (s:cQ) (e:Ed):Bool:=
 if s.k=1 then decide (d.ag=7) && decide (e.name=s.s)
 else if s.k=5 then decide (d.ag=8) && decide (e.name=s.s) && !e.bare
 else if s.k=2 then decide (d.ag=5) && decide (s.n < d.most)
 else if s.k=3 then decide (d.ag=5) && decide (0 < d.most)
 else decide (d.ag=6)
theorem Fg {s:cQ} (h:c9 s=true):s.k=1∨s.k=2∨s.k=3∨s.k=4∨s.k=5:=by
 unfold c9 at h;split at h
 ·omega
 ·split at h
  ·omega
  ·split at h
   ·omega
   ·cases h
theorem Jn {L N:Nat} {d:Nd} (hN:cz L N d) {s:cQ} (hr:c9 s=true) {e:Ed} (he:e∈d.ai):HN d s e=lW d s e:=by
 have hk:=Fg hr;have hb:=hN.bare e he;unfold HN lW;rcases hk with h | h | h | h | h
 ·simp only [h];by_cases h7:d.ag=7
  ·have:e.bare=false:=by
    cases hx:e.bare
    ·rfl
    ·have:=hb hx;omega
   simp [h7,this]
  ·simp [h7]
 ·simp [h]
 ·have hn:s.n=0:=by
   unfold c9 at hr;rw [h] at hr;simp at hr;exact hr.1
  simp [h,hn]
 ·simp [h]
 ·simp [h,Bool.and_assoc]
def pq (d:Nd) (s:cQ) (k:Nat):Bool:=match d.ai[k]? with | some e=>lW d s e | none=>false
def iI (d:Nd) (s:cQ):Option Nat:=if c9 s=true then bI (pq d s) d.ai.length else none
theorem fL {d:Nd} {s:cQ} {k:Nat} (h:iI d s=some k):∃ e,d.ai[k]? = some e/\lW d s e=true/\c9 s=true:=by
 unfold iI at h;split at h
 ·rename_i hr;obtain ⟨h1,h2,_⟩:=cA h;refine ⟨d.ai[k],gE h1,?_,hr⟩;unfold pq at h2;rw [gE h1] at h2;exact h2
 ·cases h
def walkV (ND:List Nd) (f:Nat->Nat->Bool) (n:Nat):List cQ->Nat->Nat->Option (Nat × Nat)
 | [],i,a=>some (i,a)
 | s :: p,i,a=>match ND[i]? with
  | none=>none
  | some d=>match iI d s with
   | none=>none
   | some k=>match d.ai[k]? with
    | none=>none
    | some e=>walkV ND f n p e.to.toNat (Jl f n a e.label.toNat)
theorem kG {L N:Nat} {d:Nd} (hN:cz L N d) {s:cQ} {e:Ed} (he:e∈d.ai) (h:lW d s e=true):e.bare=false:=by
 cases hb:e.bare
 ·rfl
 ·have h8:=hN.bare e he hb;unfold lW at h;simp [hb,h8] at h
theorem oU {L:Nat} {ND:List Nd} {d:Nd} (hN:cz L ND.length d) {e:Ed} (he:e∈d.ai):(e.bare=false->e.to=(e.to.toNat:Nat)/\e.to.toNat < ND.length)/\(e.label=(e.label.toNat:Nat)/\e.label.toNat < L)/\(e.seen=(e.seen.toNat:Nat)/\e.seen.toNat < L):=by
 have hE:=hN.fD e he;refine ⟨fun hb=>?_,?_,?_⟩
 ·obtain ⟨k,h1,h2⟩:=hE.to1 hb;rw [h1];exact ⟨by simp,by simpa using h2⟩
 ·obtain ⟨k,h1,h2⟩:=hE.lab;rw [h1];exact ⟨by simp,by simpa using h2⟩
 ·obtain ⟨k,h1,h2⟩:=hE.seen;rw [h1];exact ⟨by simp,by simpa using h2⟩
theorem Fh {f:Nat->Nat->Bool} {L:Nat} (hL:fU f L) {ND:List Nd} (bm:∀ n∈ND,cz L ND.length n):∀ (p:List cQ) (i a:Nat) {j b:Nat},i < ND.length->a < L->walkV ND f L p i a=some (j,b)->j < ND.length/\b < L
 | [],i,a,j,b,hi,ha,h=>by
  rw [walkV] at h;simp only [oI,Prod.mk.injEq] at h;omega
 | s :: p,i,a,j,b,hi,ha,h=>by
  rw [walkV,gE hi] at h;simp only at h;split at h
  ·cases h
  ·rename_i k hk;obtain ⟨e,he,hB,_⟩:=fL hk;rw [he] at h;simp only at h;have hm:=mG he;have hd:=bm _ (List.getElem_mem hi);obtain ⟨h1,h2,_⟩:=oU hd hm;exact Fh hL bm p _ _ (h1 (kG hd hm hB)).2 (OQ hL ha h2.2) h
section
variable (ND:List Nd) (f:Nat->Nat->Bool) (n obs dep:Nat)
end
def yq (es:List Ed) (s:ByteArray) (k:Nat):Bool:=match es[k]? with | some e=>decide (e.name=s) | none=>false
theorem KX {L:Nat} {ND:List Nd} {d:Nd} (hN:cz L ND.length d) {s:cQ} {k:Nat} (h:iI d s=some k):bI (yq d.ai s.s) d.ai.length=some k:=by
 obtain ⟨e,he,hB,hr⟩:=fL h;have hk:=(gS he).1
 have FR:s.s=e.name/\(d.ag=5∨d.ag=6∨d.ag=7∨d.ag=8):=by
  have cj:=hN.one;unfold lW at hB;unfold c9 at hr;simp only [Bool.or_eq_true,Bool.and_eq_true,decide_eq_true_eq] at hB;rcases hB with ((h | h) | h) | h
  ·exact ⟨h.2.1.symm,by omega⟩
  ·exact ⟨h.2.1.symm,by omega⟩
  ·obtain ⟨e',h1,_,h3⟩:=cj (.inl h.1.2);rw [h1] at he
   have:e=e':=by
    rw [h1,List.length_singleton] at hk;obtain rfl:k=0:=by omega
    simpa using he.symm
   subst this;rw [h3];refine ⟨?_,by omega⟩;rcases h.1.1 with h | h<;>rw [h] at hr<;>simp at hr<;>exact hr.2
  ·obtain ⟨e',h1,_,h3⟩:=cj (.inr h.2);rw [h1] at he
   have:e=e':=by
    rw [h1,List.length_singleton] at hk;obtain rfl:k=0:=by omega
    simpa using he.symm
   subst this;rw [h3];refine ⟨?_,by omega⟩;rw [h.1] at hr;simp at hr;exact hr.2
 refine bq hk (by unfold yq;rw [he];exact decide_eq_true FR.1.symm) fun c hc=>?_
 cases hp:yq d.ai s.s c with
 | false=>rfl
 | true=>
  exfalso;have eD:c < d.ai.length:=by omega
  unfold yq at hp;rw [gE eD] at hp;have hp:=of_decide_eq_true hp;rcases FR.2 with h5 | h6 | h78
  ·obtain ⟨e',h1,_⟩:=hN.one (.inl h5);rw [h1,List.length_singleton] at hk;omega
  ·obtain ⟨e',h1,_⟩:=hN.one (.inr h6);rw [h1,List.length_singleton] at hk;omega
  ·have hnd:=(hN.many h78).2.2.1;have he2:=(gS he).2;have:=List.pairwise_iff_getElem.1 (List.nodup_iff_pairwise_ne.1 hnd) c k (sU eD) (sU hk) hc;rw [List.getElem_map,List.getElem_map,he2] at this;exact this (hp.trans FR.1)
structure Pl where
 i:Nat
 d:Nd
 k:Nat
 s:cQ
def stpsV (ND:List Nd):List cQ->Nat->List Pl
 | [],_=>[]
 | s :: p,i=>match ND[i]? with
  | none=>[]
  | some d=>match iI d s with
   | none=>[]
   | some k=>match d.ai[k]? with
    | none=>[]
    | some x=>⟨i,d,k,s⟩ :: stpsV ND p x.to.toNat
def sumE (sz:List Nat) (k:Nat):List Ed->Nat->Nat
 | [],_=>0
 | e :: r,i=>(if i=k then 0 else bY sz e) + sumE sz k r (i + 1)
theorem A1 (sz:List Nat) (k:Nat):∀ (es:List Ed) (e:Ed) (i:Nat),sumE sz k (es ++ [e]) i=sumE sz k es i + (if i + es.length=k then 0 else bY sz e)
 | [],e,i=>by simp [sumE]
 | x :: r,e,i=>by
  rw [List.cons_append,sumE,A1 sz k r,sumE,List.length_cons,show i + 1 + r.length=i + (r.length + 1) by omega,Nat.add_assoc]
theorem A2 {sz:List Nat} {k:Nat} {es:List Ed} {e:Nat} {x:Ed} (h:es[e]? = some x):sumE sz k (es.take (e + 1)) 0=sumE sz k (es.take e) 0 + (if e=k then 0 else bY sz x):=by
 have hl:=(gS h).1;rw [dn h,A1,List.length_take,Nat.min_eq_left (by omega),Nat.zero_add]
def yJ (sz:List Nat) (q:Pl):Nat:=1 + (if q.s.k=2 then q.s.n.toNat * sz.getD (to0 q.d).toNat 0 else if q.s.k=1 then sumE sz q.k q.d.ai 0 else 0)
def totF (sz:List Nat):List Pl->Nat
 | []=>0
 | q :: l=>yJ sz q + totF sz l
theorem A3 (sz:List Nat) (q:Pl):∀ l:List Pl,totF sz (l ++ [q])=totF sz l + yJ sz q
 | []=>by simp [totF]
 | x :: l=>by rw [List.cons_append,totF,totF,A3 sz q l,Nat.add_assoc]
theorem tB (a b:Nat):aY (aY a + b)=aY (a + b):=by unfold aY;omega
theorem VE (a b:Nat):aY (a + aY b)=aY (a + b):=by unfold aY;omega
def np (D:List Nat) (k:Nat):List Ed->Nat->Bool
 | [],_=>true
 | e :: r,i=>(decide (i=k) || decide (bY D e≠0)) && np D k r (i + 1)
theorem A4 (D:List Nat) (k:Nat):∀ (es:List Ed) (e:Ed) (i:Nat),np D k (es ++ [e]) i=(np D k es i && (decide (i + es.length=k) || decide (bY D e≠0)))
 | [],e,i=>by simp [np]
 | x :: r,e,i=>by
  rw [List.cons_append,np,A4 D k r,np,List.length_cons,show i + 1 + r.length=i + (r.length + 1) by omega,Bool.and_assoc]
theorem kH {D:List Nat} {k:Nat}:∀ {es:List Ed} {i:Nat},np D k es i=true↔∀ (j:Nat) x,es[j]? = some x->i + j≠k->bY D x≠0
 | [],i=>by simp [np]
 | e :: r,i=>by
  rw [np,Bool.and_eq_true,kH];constructor
  ·rintro ⟨h1,h2⟩ j x hx hj
   cases j with
   | zero=>
    simp at hx;subst hx;simpa [show ¬ i=k by omega] using h1
   | succ j=>exact h2 j x (sU hx) (by omega)
  ·intro h;refine ⟨?_,fun j x hx hj=>h (j + 1) x (sU hx) (by omega)⟩;by_cases hi:i=k
   ·simp [hi]
   ·simp [h 0 e rfl (by omega)]
def iA (D:List Nat) (q:Pl):Bool:=decide (q.s.k≠3) && (decide (q.s.k≠1) || np D q.k q.d.ai 0)
def uN (F:Nat->Val) (q:Pl) (x:Val):Val:=
 if q.s.k=2 then .mk q.d.ag 0 av (List.replicate q.s.n.toNat (F (to0 q.d).toNat) ++ [x])
 else if q.s.k=1 then .mk q.d.ag 0 av ((q.d.ai.map fun e=>F e.to.toNat).set q.k x)
 else .mk q.d.ag (if q.s.k=5 then q.k else 0) av [x]
def alnV (F:Nat->Val):List Pl->Val->Val
 | [],x=>x
 | q :: l,x=>uN F q (alnV F l x)
structure tC (ND:List Nd) (q:Pl):Prop where
 ak:ND[q.i]? = some q.d
 fD:iI q.d q.s=some q.k
theorem mT {ND:List Nd} {s:cQ} {p:List cQ} {i:Nat} {d:Nd} {k:Nat} {x:Ed} (h1:ND[i]? = some d) (h2:iI d s=some k) (h3:d.ai[k]? = some x):stpsV ND (s :: p) i=⟨i,d,k,s⟩ :: stpsV ND p x.to.toNat:=by
 rw [stpsV,h1];simp only;rw [h2];simp only;rw [h3]
theorem mU {ND:List Nd} {f:Nat->Nat->Bool} {n:Nat} {s:cQ} {p:List cQ} {i a:Nat} {r:Nat × Nat} (h:walkV ND f n (s :: p) i a=some r) :
  ∃ d k x,ND[i]? = some d/\iI d s=some k/\d.ai[k]? = some x/\walkV ND f n p x.to.toNat (Jl f n a x.label.toNat)=some r:=by
 rw [walkV] at h;split at h
 ·cases h
 ·rename_i d hd;split at h
  ·cases h
  ·rename_i k hk;split at h
   ·cases h
   ·rename_i x hx;exact ⟨d,k,x,hd,hk,hx,h⟩
theorem OR {ND:List Nd} {f:Nat->Nat->Bool} {n:Nat} {s:cQ} {p:List cQ} {i a:Nat} {d:Nd} {k:Nat} {x:Ed} (h1:ND[i]? = some d) (h2:iI d s=some k) (h3:d.ai[k]? = some x) :
  walkV ND f n (s :: p) i a=walkV ND f n p x.to.toNat (Jl f n a x.label.toNat):=by
 rw [walkV,h1];simp only;rw [h2];simp only;rw [h3]
theorem og {ND:List Nd} {f:Nat->Nat->Bool} {n:Nat}:∀ (p:List cQ) (i a:Nat) {r:Nat × Nat},walkV ND f n p i a=some r ->
  (stpsV ND p i).length=p.length/\∀ (e:Nat) s,p[e]? = some s->∃ q b,(stpsV ND p i)[e]? = some q/\q.s=s/\tC ND q/\walkV ND f n (p.take e) i a=some (q.i,b)
 | [],i,a,r,h=>⟨rfl,fun e s h=>by simp at h⟩
 | s :: p,i,a,r,h=>by
  obtain ⟨d,k,x,hd,hk,hx,hw⟩:=mU h;obtain ⟨h1,h2⟩:=og p _ _ hw;rw [mT hd hk hx];refine ⟨by rw [List.length_cons,List.length_cons,h1],fun e y hy=>?_⟩
  cases e with
  | zero=>
   simp at hy;subst hy;exact ⟨_,a,rfl,rfl,⟨hd,hk⟩,by rw [List.take_zero,walkV]⟩
  | succ e=>
   obtain ⟨q,b,hq,hs,bm,hwq⟩:=h2 e y (sU hy);exact ⟨q,b,by simpa using hq,hs,bm,by rw [List.take_succ_cons,OR hd hk hx];exact hwq⟩
theorem Ry {L:Nat} {ND:List Nd} {q:Pl} (hN:cz L ND.length q.d) (hq:tC ND q):if q.s.k=1∨q.s.k=5 then bI (yq q.d.ai q.s.s) q.d.ai.length=some q.k else q.k=0:=by
 split
 ·exact KX hN hq.fD
 ·rename_i h;obtain ⟨e,he,hB,_⟩:=fL hq.fD;have hk:=(gS he).1;unfold lW at hB;simp only [Bool.or_eq_true,Bool.and_eq_true,decide_eq_true_eq] at hB
  have h56:q.d.ag=5∨q.d.ag=6:=by
   rcases hB with ((hB | hB) | hB) | hB
   ·exact (h (.inl hB.1.1)).elim
   ·exact (h (.inr hB.1.1)).elim
   ·exact .inl hB.1.2
   ·exact .inr hB.2
  obtain ⟨e',h1,_⟩:=hN.one h56;rw [h1,List.length_singleton] at hk;omega
theorem ld {ND:List Nd} {q:Pl} (hq:tC ND q):(q.s.k=1->q.d.ag=7/\q.s.n=0)/\(q.s.k=5->q.d.ag=8/\q.s.n=0)/\(q.s.k=2->q.d.ag=5/\0<=q.s.n/\q.s.n < q.d.most)/\(q.s.k=3->q.d.ag=5/\q.s.n=0)/\(q.s.k=4->q.d.ag=6/\q.s.n=0)/\(q.s.k=1∨q.s.k=2∨q.s.k=3∨q.s.k=4∨q.s.k=5):=by
 obtain ⟨e,he,hB,hr⟩:=fL hq.fD;have Vm:=Fg hr;unfold lW at hB;unfold c9 at hr;simp only [Bool.or_eq_true,Bool.and_eq_true,decide_eq_true_eq] at hB;refine ⟨fun h=>?_,fun h=>?_,fun h=>?_,fun h=>?_,fun h=>?_,Vm⟩
 all_goals
  rw [h] at hr hB;simp at hr hB
  first
   | exact ⟨hB.1,hr.1⟩
   | exact ⟨hB.1,hr.1,hB.2⟩
   | exact ⟨hB,hr.1⟩
theorem leastF_7 {n:Nd} {D:List Nat} (h:n.ag=7) (h2:∀ e∈n.ai,bY D e≠0):0 < aW n D:=by
 rw [aW,if_pos h];refine Nat.pos_of_ne_zero fun h0=>?_;obtain ⟨e,he,hz⟩:=gY.1 h0;exact h2 e he hz
theorem leastF_8 {n:Nd} {D:List Nat} (h:n.ag=8) {e:Ed} (he:e∈n.ai) (h2:e.bare=true∨bY D e≠0):0 < aW n D:=by
 rw [aW,if_neg (by omega),if_pos h];refine ji.2 (.inr (List.any_eq_true.2 ⟨e,he,?_⟩));unfold qm;rw [gz];rcases h2 with h2 | h2
 ·rw [h2];all_goals rfl
 ·unfold bY at h2;rw [decide_eq_true (by omega),Bool.or_true]
theorem Fi {n:Nd} {D:List Nat} (h7:n.ag≠7) (h8:n.ag≠8):0 < aW n D:=by
 rw [aW,if_neg h7,if_neg h8];omega
mutual
theorem vo {L:Nat} {ND:List Nd} {D:List Nat} (bm:∀ n∈ND,cz L ND.length n) (hO:gB ND D):∀ (v:Val) (i:Int),fitV ND v i=true->0 < D.getD i.toNat 0
 | .mk k n s ks,i,h=>by
  obtain ⟨d,hF⟩:=te bm h;have KB:=Fj bm hO ks;have hn:=(gL hF.ak).2;rw [hO.get _ _ hn];have OS:=hF.kids;have Z7:=hF.tag;simp only [Val.ks] at OS Z7;by_cases h7:d.ag=7
  ·refine leastF_7 h7 fun e he=>?_;obtain ⟨h1,h2⟩:=OS (by omega);have:=KB _ h2 (by omega) e.to (by unfold kidsL;rw [if_neg (by omega),if_pos h7];exact List.mem_map_of_mem he);unfold bY;omega
  ·by_cases h8:d.ag=8
   ·obtain ⟨e,h1,h2,_⟩:=Z7 h8;refine leastF_8 h8 (mG h2) ?_
    cases hb:e.bare with
    | true=>exact .inl rfl
    | false=>
     obtain ⟨h3,h4⟩:=OS (by omega);have:=KB _ h4 (by omega) e.to (by unfold kidsL;rw [if_neg (by omega),if_neg h7,h1];simp [hb]);unfold bY;exact .inr (by omega)
   ·exact Fi h7 h8
theorem Fj {L:Nat} {ND:List Nd} {D:List Nat} (bm:∀ n∈ND,cz L ND.length n) (hO:gB ND D):∀ (ks:List Val) (l:List Int),fitVs ND ks l=true->l.length<=ks.length->∀ j∈l,0 < D.getD j.toNat 0
 | [],l,h,hl=>by
  cases l with
  | nil=>intro j hj;cases hj
  | cons a b=>simp at hl
 | v :: r,[],h,hl=>by intro j hj;cases hj
 | v :: r,i :: l,h,hl=>by
  rw [fitVs,Bool.and_eq_true] at h;have h1:=vo bm hO v i h.1;have h2:=Fj bm hO r l h.2 (sU hl);intro j hj;rcases List.mem_cons.1 hj with rfl | hj
  ·exact h1
  ·exact h2 j hj
end
theorem oV {L:Nat} {ND:List Nd} {D:List Nat} (bm:∀ n∈ND,cz L ND.length n) (hO:gB ND D) {f:Nat->Nat->Bool} {m:Nat}:∀ (p:List cQ) (i a:Nat) {j b:Nat},walkV ND f m p i a=some (j,b)->(stpsV ND p i).all (iA D)=true->0 < D.getD j 0 ->
  0 < D.getD i 0/\∀ q∈stpsV ND p i,∃ x,q.d.ai[q.k]? = some x/\bY D x≠0
 | [],i,a,j,b,h,_,h0=>by
  rw [walkV] at h;simp only [oI,Prod.mk.injEq] at h;rw [h.1];exact ⟨h0,fun q hq=>by simp [stpsV] at hq⟩
 | s :: p,i,a,j,b,h,o0,h0=>by
  obtain ⟨d,k,x,hd,hk,hx,hw⟩:=mU h;rw [mT hd hk hx] at o0 ⊢;rw [List.all_cons,Bool.and_eq_true] at o0;obtain ⟨h1,h2⟩:=oV bm hO p _ _ hw o0.2 h0;have Ni:bY D x≠0:=by unfold bY;omega
  refine ⟨?_,fun q hq=>?_⟩
  ·rw [hO.get _ _ hd];have hq:tC ND ⟨i,d,k,s⟩:=⟨hd,hk⟩;have D1:=ld hq;by_cases h7:d.ag=7
   ·refine leastF_7 h7 fun e he=>?_
    have pv:s.k=1:=by
     have:=D1;simp only at this;omega
    have ha:=o0.1;unfold iA at ha;simp only [pv,Bool.and_eq_true] at ha;have ha:=kH.1 (by simpa using ha.2);obtain ⟨c,hc,rfl⟩:=List.getElem_of_mem he;by_cases Z8:c=k
    ·subst Z8;rw [gE hc] at hx;cases hx;exact Ni
    ·exact ha c _ (gE hc) (by omega)
   ·by_cases h8:d.ag=8
    ·exact leastF_8 h8 (mG hx) (.inr Ni)
    ·exact Fi h7 h8
  ·rcases List.mem_cons.1 hq with rfl | hq
   ·exact ⟨x,hx,Ni⟩
   ·exact h2 q hq
theorem CE {L:Nat} {ND:List Nd} (bm:∀ n∈ND,cz L ND.length n) {q:Pl} (hq:tC ND q) {x:Ed} (hx:q.d.ai[q.k]? = some x) (h56:q.d.ag=5∨q.d.ag=6):q.d.ai=[x]/\q.k=0/\to0 q.d=x.to:=by
 have hN:=bm _ (mG hq.ak);obtain ⟨e,he,_⟩:=hN.one h56;have hk:=(gS hx).1;rw [he,List.length_singleton] at hk;have hk0:q.k=0:=by omega
 rw [he,hk0] at hx;simp at hx;subst hx;exact ⟨he,hk0,by unfold to0;rw [he];rfl⟩
def nd (ND:List Nd) (sz D:List Nat) (o:Option (Nat × Nat)) (l:List Pl) (x:Val):Option Val:=match o with
 | none=>none
 | some (j,_)=>if fitV ND x j=true/\l.all (iA D)=true/\jz x + totF sz l < 4097 then some (alnV (bS ND D) l x) else none
def Fk (f:Nat->Nat->Bool) (c k:Nat):Bool:=(List.range k).all (f c)
theorem KY (f:Nat->Nat->Bool) (c k:Nat):Fk f c (k + 1)=(Fk f c k && f c k):=by simp [Fk,List.range_succ]
theorem Fl (f:Nat->Nat->Bool) (n c:Nat):sP f n [] c=Fk f c n:=by simp [sP,gV,Fk]
abbrev Ti (n:Nat) (f:Nat->Nat->Bool) (e:Nat):St:=⟨[(0,⟨[],.sl 1 (cH (dt n f)) none⟩),(3,⟨[],.v (.int .i64 e)⟩)],[],[]⟩
abbrev Z9 (n:Nat) (f:Nat->Nat->Bool) (e:Nat) (x:Bool) (k:Nat):St:=⟨[(0,⟨[],.sl 1 (cH (dt n f)) none⟩),(3,⟨[],.v (.int .i64 e)⟩),(4,⟨[],.v (.bool x)⟩),(5,⟨[],.v (.int .i64 k)⟩)],[],[]⟩
theorem zd (n:Nat) (f:Nat->Nat->Bool) (hn:n<=64):aQ prog 81 [.sl 1 (cH (dt n f)) none] (.v (.int .i64 (oz (eT f n [])))):=by
 have cR:=jg n f;refine eG 30 [.tmp 2] func81 rfl ntmps81 rfl fun _ _ _ _=>?_;refine lI (fun j st=>∃ e:Nat,st=Ti n f e/\e<=n/\(∀ c,c < e->sP f n [] c=false)/\j=n - e) ⟨0,rfl,by omega,fun _ h=>by omega,rfl⟩ (ah ⟨_,rfl⟩ wA rfl rfl rfl wB) ?_;rintro j st ⟨e,rfl,he,eZ,rfl⟩;refine br ?_ ?_<;>intro hL
 ·have aj:e < n:=sV cR hL;refine lJ (fun k=>Z9 n f e (Fk f e k) k) n (ah ⟨_,rfl⟩ wA rfl rfl rfl (by repeat' (first | exact trivial | exact ay rfl | exact bU rfl | refine ⟨⟨_,rfl,?_⟩,?_⟩))) ?_;intro k hk;refine br ?_ ?_<;>intro kx
  ·have jB:k < n:=sV cR kx;have Kr:=KY f e k;refine br ?_ ?_<;>intro g
   ·refine iX (fJ aj) ?_;refine iX (ey jB) ?_;have g:Fk f e k=true:=sU g;rw [g,Bool.true_and] at Kr;exact rE ⟨_,by omega,k + 1,rfl,by omega,rfl⟩ (ah ⟨_,rfl⟩ wA rfl rfl rfl (wB2 (aF jB (by omega)) Kr.symm))
   ·have g:Fk f e k=false:=sU g;rw [g,Bool.false_and] at Kr;exact rE ⟨_,by omega,k + 1,rfl,by omega,rfl⟩ (ah ⟨_,rfl⟩ wA rfl rfl rfl (wB2 (aF jB (by omega)) Kr.symm))
  ·have aM:k=n:=sW cR kx;subst aM;refine br ?_ ?_<;>intro g
   ·have g:sP f k [] e=true:=by rw [Fl];exact g
    rw [eT,bq aj g eZ];exact (rfl:_=_)
   ·have g:sP f k [] e=false:=by rw [Fl];exact g
    refine ⟨Ti k f (e + 1),(ah ⟨_,rfl⟩ wA rfl rfl rfl (cX (aF aj (by omega)))),k - (e + 1),by omega,e + 1,rfl,by omega,fun j hj=>?_,rfl⟩;rcases Nat.lt_succ_iff_lt_or_eq.1 hj with hj | rfl
    ·exact eZ j hj
    ·exact g
 ·have aM:e=n:=sW cR hL;subst aM;rw [eT,bK eZ];exact (rfl:_=_)
theorem Fm {α:Type} {l:List α} {e:Nat} {x:α} {p:α->Bool} (h:l[e]? = some x):(l.drop e).all p=(p x && (l.drop (e + 1)).all p):=by
 obtain ⟨h1,h2⟩:=List.getElem?_eq_some_iff.1 h;rw [List.drop_eq_getElem_cons h1,h2,List.all_cons]
theorem CF (s:cQ) (hs:s.s.size<=4611686018427387904):aQ prog 189 [.agg (jJ s)] (.v (.bool (c9 s))):=by
 have hr:=iW s.s hs;obtain ⟨k,n,t⟩:=s;have hF:c9 ⟨k,n,t⟩=if k=1∨k=5 then decide (n=0) && bc t else if k=2 then decide (0<=n) && decide (t=⟨#[]⟩) else if k=3∨k=4 then decide (n=0) && decide (t=⟨#[]⟩) else false:=rfl
 generalize c9 ⟨k,n,t⟩=F at hF ⊢;refine eG 39 [.tmp 2] func189 rfl ntmps189 rfl fun _ _ _ _=>?_;refine br ?_ ?_<;>intro c
 ·have c:k=1:=sU c;rw [if_pos (.inl c)] at hF;refine br (fun _=>?_) (fun g=>absurd g (by simp [c]));refine br ?_ ?_<;>intro g
  ·have g:n=0:=sU g;refine cP Gh hr ?_;refine (congrArg (fun b=>DV.v (.bool b)) ?_:_=_);rw [hF];simp [g,pickB]
  ·have g:¬ n=0:=sU g;refine (congrArg (fun b=>DV.v (.bool b)) ?_:_=_);rw [hF];simp [g,pickB]
 have c1:¬ k=1:=sU c;refine br ?_ ?_<;>intro c
 ·have c:k=5:=sU c;rw [if_pos (.inr c)] at hF;refine br ?_ ?_<;>intro g
  ·have g:n=0:=sU g;refine cP Gh hr ?_;refine (congrArg (fun b=>DV.v (.bool b)) ?_:_=_);rw [hF];simp [g,pickB]
  ·have g:¬ n=0:=sU g;refine (congrArg (fun b=>DV.v (.bool b)) ?_:_=_);rw [hF];simp [g,pickB]
 have c5:¬ k=5:=sU c;rw [if_neg (by omega)] at hF;refine br ?_ ?_<;>intro c
 ·have c:k=2:=sU c;rw [if_pos c] at hF;refine (congrArg (fun b=>DV.v (.bool b)) ?_:_=_);rw [hF];cases decide (0<=n)<;>rfl
 have c2:¬ k=2:=sU c;rw [if_neg c2] at hF;refine br ?_ ?_<;>intro c
 ·have c:k=3:=sU c;rw [if_pos (.inl c)] at hF;refine br (fun _=>?_) (fun g=>absurd g (by simp [c]));refine (congrArg (fun b=>DV.v (.bool b)) ?_:_=_);rw [hF];cases decide (n=0)<;>rfl
 have c3:¬ k=3:=sU c;refine br ?_ ?_<;>intro c
 ·have c:k=4:=sU c;rw [if_pos (.inr c)] at hF;refine (congrArg (fun b=>DV.v (.bool b)) ?_:_=_);rw [hF];cases decide (n=0)<;>rfl
 have c4:¬ k=4:=sU c;rw [if_neg (by omega)] at hF;subst hF;exact (rfl:_=_)
abbrev prSt (l:List cQ) (e:Nat):St:=⟨[(8,⟨[],.sl 3 (aP l) none⟩),(9,⟨[],.v (.int .i64 (aP l).length)⟩),(10,⟨[],.v (.int .i64 e)⟩)],[],[]⟩
theorem Fo (l:List cQ) (hs:∀ s∈l,s.s.size<=4611686018427387904):aQ prog 141 [.sl 3 (aP l) none] (.v (.bool (oe l))):=by
 have bA:=dO l;have hF:oe l=(decide (l.length<=64) && l.all c9):=rfl;generalize oe l=F at hF ⊢;refine eG 18 [.tmp 2] func141 rfl ntmps141 rfl fun _ _ _ _=>?_;refine br ?_ ?_<;>intro g
 ·have:¬ l.length<=64:=by simp [bA] at g;omega
  rw [decide_eq_false this,Bool.false_and] at hF;subst hF;exact (rfl:_=_)
 have dq:l.length<=64:=by simp [bA] at g;omega
 rw [decide_eq_true dq,Bool.true_and] at hF;refine lI (fun j st=>∃ e:Nat,st=prSt l e/\e<=l.length/\F=(l.drop e).all c9/\j=l.length - e) ⟨0,rfl,by omega,hF,rfl⟩ (ah ⟨_,rfl⟩ wA rfl rfl rfl wB) ?_;rintro j st ⟨e,rfl,he,aJ,rfl⟩;refine br ?_ ?_<;>intro hL
 ·have aj:e < l.length:=sV bA hL;obtain ⟨x,hx⟩:=gX aj;have h1:=CF x (hs x (mG hx));rw [Fm hx] at aJ;obtain ⟨xk,xn,xs⟩:=x;refine iX (dE hx) ?_;refine cP XW h1 ?_;refine br ?_ ?_<;>intro g
  ·have g:c9 ⟨xk,xn,xs⟩=false:=sU g;rw [g,Bool.false_and] at aJ;subst aJ;exact (rfl:_=_)
  ·have g:c9 ⟨xk,xn,xs⟩=true:=sU g;rw [g,Bool.true_and] at aJ;exact rE ⟨_,by omega,e + 1,rfl,by omega,aJ,rfl⟩ (ah ⟨_,rfl⟩ wA rfl rfl rfl (cX (aF aj (by omega))))
 ·have aM:l.length<=e:=sV bA hL;rw [List.drop_eq_nil_of_le aM] at aJ;subst aJ;exact (rfl:_=_)
abbrev aaa (l:List cQ) (e:Nat):St:=⟨[(0,⟨[],.sl 3 (aP l) none⟩),(3,⟨[],.v (.int .i64 e)⟩)],[],[]⟩
theorem CG (l:List cQ) (hs:∀ s∈l,s.s.size<=4611686018427387904):aQ prog 186 [.sl 3 (aP l) none] (.v (.bool (oe l))):=by
 have bA:=dO l;have hF:oe l=(decide (l.length<=64) && l.all c9):=rfl;generalize oe l=F at hF ⊢;refine eG 66 [.tmp 2] func186 rfl ntmps186 rfl fun _ _ _ _=>?_;refine br ?_ ?_<;>intro g
 ·have:¬ l.length<=64:=by simp [bA] at g;omega
  rw [decide_eq_false this,Bool.false_and] at hF;subst hF;exact (rfl:_=_)
 have dq:l.length<=64:=by simp [bA] at g;omega
 rw [decide_eq_true dq,Bool.true_and] at hF;refine lI (fun j st=>∃ e:Nat,st=aaa l e/\e<=l.length/\F=(l.drop e).all c9/\j=l.length - e) ⟨0,rfl,by omega,hF,rfl⟩ (ah ⟨_,rfl⟩ wA rfl rfl rfl wB) ?_;rintro j st ⟨e,rfl,he,aJ,rfl⟩;refine br ?_ ?_<;>intro hL
 ·have aj:e < l.length:=sV bA hL;obtain ⟨x,hx⟩:=gX aj;have h1:=jq x.s (hs x (mG hx));rw [Fm hx] at aJ;have Wr:∀ k n t,c9 ⟨k,n,t⟩=if k=1∨k=5 then decide (n=0) && bc t else if k=2 then decide (0<=n) && decide (t=⟨#[]⟩) else if k=3∨k=4 then decide (n=0) && decide (t=⟨#[]⟩) else false:=fun _ _ _=>rfl
  obtain ⟨xk,xn,xs⟩:=x;rw [Wr] at aJ;refine iX (dE hx) ?_
  have bg:bc xs=true->xs≠⟨#[]⟩:=by
   intro h e;rw [e] at h
   revert h
   decide
  have hk:xk=1∨xk=5∨xk=2∨xk=3∨xk=4∨(xk < 1/\¬ 5 < xk/\¬ xk=1/\¬ xk=2/\¬ xk=3/\¬ xk=4/\¬ xk=5)∨(¬ xk < 1/\5 < xk/\¬ xk=1/\¬ xk=2/\¬ xk=3/\¬ xk=4/\¬ xk=5):=by omega
  have hd:(xn < 0)↔¬ (0<=xn):=by omega
  have hU:∀ b,(if xk=1∨xk=5 then decide (xn=0) && bc xs else if xk=2 then decide (0<=xn) && decide (xs=⟨#[]⟩) else if xk=3∨xk=4 then decide (xn=0) && decide (xs=⟨#[]⟩) else false)=b->F=(b && (l.drop (e + 1)).all c9):=fun b h=>by rw [aJ,h]
  refine br ?_ ?_<;>intro g1
  ·refine br ?_ ?_<;>intro g2
   ·refine cP Ds h1 ?_;refine br ?_ ?_<;>intro g3
    ·have hF:=hU false (by
      clear aJ hU Wr h1 hx
      rcases hk with rfl | rfl | rfl | rfl | rfl | ⟨k1,k2,k3,k4,k5,k6,k7⟩ | ⟨k1,k2,k3,k4,k5,k6,k7⟩<;>by_cases h0:xs=⟨#[]⟩<;>by_cases hz:xn=0<;>by_cases kJ:0<=xn<;>cases iy:bc xs<;>first | (exact absurd h0 (bg iy)) | (simp [lastG,pickB,hd,h0,hz,kJ,iy,k1,k2,k3,k4,k5,k6,k7] at g1 g2 g3 ⊢;done) | (simp [lastG,pickB,hd,h0,hz,kJ,iy] at g1 g2 g3 ⊢;done) | omega)
     rw [hF,Bool.false_and];exact (rfl:_=_)
    ·have hF:=hU true (by
      clear aJ hU Wr h1 hx
      rcases hk with rfl | rfl | rfl | rfl | rfl | ⟨k1,k2,k3,k4,k5,k6,k7⟩ | ⟨k1,k2,k3,k4,k5,k6,k7⟩<;>by_cases h0:xs=⟨#[]⟩<;>by_cases hz:xn=0<;>by_cases kJ:0<=xn<;>cases iy:bc xs<;>first | (exact absurd h0 (bg iy)) | (simp [lastG,pickB,hd,h0,hz,kJ,iy,k1,k2,k3,k4,k5,k6,k7] at g1 g2 g3 ⊢;done) | (simp [lastG,pickB,hd,h0,hz,kJ,iy] at g1 g2 g3 ⊢;done) | omega)
     rw [Bool.true_and] at hF;exact rE ⟨_,by omega,e + 1,rfl,by omega,hF,rfl⟩ (ah ⟨_,rfl⟩ wA rfl rfl rfl (cX (aF aj (by omega))))
   ·refine br ?_ ?_<;>intro g3
    ·have hF:=hU false (by
      clear aJ hU Wr h1 hx
      rcases hk with rfl | rfl | rfl | rfl | rfl | ⟨k1,k2,k3,k4,k5,k6,k7⟩ | ⟨k1,k2,k3,k4,k5,k6,k7⟩<;>by_cases h0:xs=⟨#[]⟩<;>by_cases hz:xn=0<;>by_cases kJ:0<=xn<;>cases iy:bc xs<;>first | (exact absurd h0 (bg iy)) | (simp [lastG,pickB,hd,h0,hz,kJ,iy,k1,k2,k3,k4,k5,k6,k7] at g1 g2 g3 ⊢;done) | (simp [lastG,pickB,hd,h0,hz,kJ,iy] at g1 g2 g3 ⊢;done) | omega)
     rw [hF,Bool.false_and];exact (rfl:_=_)
    ·have hF:=hU true (by
      clear aJ hU Wr h1 hx
      rcases hk with rfl | rfl | rfl | rfl | rfl | ⟨k1,k2,k3,k4,k5,k6,k7⟩ | ⟨k1,k2,k3,k4,k5,k6,k7⟩<;>by_cases h0:xs=⟨#[]⟩<;>by_cases hz:xn=0<;>by_cases kJ:0<=xn<;>cases iy:bc xs<;>first | (exact absurd h0 (bg iy)) | (simp [lastG,pickB,hd,h0,hz,kJ,iy,k1,k2,k3,k4,k5,k6,k7] at g1 g2 g3 ⊢;done) | (simp [lastG,pickB,hd,h0,hz,kJ,iy] at g1 g2 g3 ⊢;done) | omega)
     rw [Bool.true_and] at hF;exact rE ⟨_,by omega,e + 1,rfl,by omega,hF,rfl⟩ (ah ⟨_,rfl⟩ wA rfl rfl rfl (cX (aF aj (by omega))))
  ·have g2:=g1;have g3:=g1
   have hF:=hU false (by
     clear aJ hU Wr h1 hx
     rcases hk with rfl | rfl | rfl | rfl | rfl | ⟨k1,k2,k3,k4,k5,k6,k7⟩ | ⟨k1,k2,k3,k4,k5,k6,k7⟩<;>by_cases h0:xs=⟨#[]⟩<;>by_cases hz:xn=0<;>by_cases kJ:0<=xn<;>cases iy:bc xs<;>first | (exact absurd h0 (bg iy)) | (simp [lastG,pickB,hd,h0,hz,kJ,iy,k1,k2,k3,k4,k5,k6,k7] at g1 g2 g3 ⊢;done) | (simp [lastG,pickB,hd,h0,hz,kJ,iy] at g1 g2 g3 ⊢;done) | omega)
   rw [hF,Bool.false_and];exact (rfl:_=_)
 ·have aM:l.length<=e:=sV bA hL;rw [List.drop_eq_nil_of_le aM] at aJ;subst aJ;exact (rfl:_=_)
abbrev VF (d:Nd) (s:cQ) (e:Nat):St:=⟨[(2,⟨[],.loc 0 0⟩),(3,⟨[],.loc 1 0⟩),(5,⟨[],.v (.int .i64 e)⟩)],[gv d,jJ s],[]⟩
theorem oh (d:Nd) (s:cQ) (dY:d.ai.length<=1099511627776) (hs:s.s.size<=4611686018427387904):aQ prog 138 [.agg (gv d),.agg (jJ s)] (.v (.int .i64 (oz (iI d s)))):=by
 have hr:=CG [s] (sU hs);rw [yp] at hr;have hE:iI d s=if c9 s=true then bI (pq d s) d.ai.length else none:=rfl
 have hP:∀ (e:Nat) x,d.ai[e]? = some x->pq d s e=lW d s x:=fun e x h=>by unfold pq;rw [h]
 have hB:∀ x:Ed,lW d s x=((decide (s.k=1) && decide (d.ag=7) && (decide (x.name=s.s) && !x.bare)) || (decide (s.k=5) && decide (d.ag=8) && (decide (x.name=s.s) && !x.bare)) ||
  ((decide (s.k=2) || decide (s.k=3)) && decide (d.ag=5) && decide (s.n < d.most)) || (decide (s.k=4) && decide (d.ag=6))):=fun _=>rfl
 generalize iI d s=I at hE ⊢;generalize c9 s=R at hr hE;generalize pq d s=pE at hE hP;generalize lW d s=bE at hP hB;obtain ⟨ag,aS,lo,hi,most,af,es⟩:=d;obtain ⟨k,n,t⟩:=s;have bA:=aO es;simp only at hE hP hB dY;refine eG 93 [.tmp 4] func138 rfl ntmps138 rfl fun _ _ _ _=>?_;refine cP XU hr ?_
 cases R with
 | false=>
  rw [if_neg (by simp)] at hE;subst hE;exact (rfl:_=_)
 | true=>
 rw [if_pos rfl] at hE;refine lI (fun j st=>∃ e:Nat,st=VF ⟨ag,aS,lo,hi,most,af,es⟩ ⟨k,n,t⟩ e/\e<=es.length/\(∀ c,c < e->pE c=false)/\j=es.length - e) ⟨0,rfl,by omega,fun _ h=>by omega,rfl⟩ (ah ⟨_,rfl⟩ wA rfl rfl rfl wB) ?_;rintro j st ⟨e,rfl,he,eZ,rfl⟩;refine br ?_ ?_<;>intro hL
 ·have aj:e < es.length:=sV bA hL;obtain ⟨x,hx⟩:=gX aj;have Rz:=hP e x hx;rw [hB] at Rz;refine dI ?_;refine iX (aC hx) ?_;refine br ?_ ?_<;>intro g
  ·have g:decide (x.name=t)=true:=by cases h:decide (x.name=t)<;>simp_all
   refine iX (aC hx) ?_;refine br ?_ ?_<;>intro c
   ·have hc:pE e=true:=by
     rw [Rz,g];simpa only [aq,au,Bool.false_and,Bool.and_false,Bool.true_and,Bool.false_or,Bool.or_false] using c
    rw [bq aj hc eZ] at hE;subst hE;exact (rfl:_=_)
   ·have hc:pE e=false:=by
     rw [Rz,g];simpa only [aq,au,Bool.false_and,Bool.and_false,Bool.true_and,Bool.false_or,Bool.or_false] using c
    exact rE ⟨_,by omega,e + 1,rfl,by omega,fun c lf=>by
     rcases Nat.lt_succ_iff_lt_or_eq.1 lf with h | h
     ·exact eZ c h
     ·rw [h];exact hc,rfl⟩ (ah ⟨_,rfl⟩ wA rfl rfl rfl (cX (aF aj (by omega))))
  ·have g:decide (x.name=t)=false:=by cases h:decide (x.name=t)<;>simp_all
   refine br ?_ ?_<;>intro c
   ·have hc:pE e=true:=by
     rw [Rz,g];simpa only [aq,au,Bool.false_and,Bool.and_false,Bool.true_and,Bool.false_or,Bool.or_false] using c
    rw [bq aj hc eZ] at hE;subst hE;exact (rfl:_=_)
   ·have hc:pE e=false:=by
     rw [Rz,g];simpa only [aq,au,Bool.false_and,Bool.and_false,Bool.true_and,Bool.false_or,Bool.or_false] using c
    exact rE ⟨_,by omega,e + 1,rfl,by omega,fun c lf=>by
     rcases Nat.lt_succ_iff_lt_or_eq.1 lf with h | h
     ·exact eZ c h
     ·rw [h];exact hc,rfl⟩ (ah ⟨_,rfl⟩ wA rfl rfl rfl (cX (aF aj (by omega))))
 ·have aM:e=es.length:=sW bA hL;subst aM;rw [bK eZ] at hE;subst hE;exact (rfl:_=_)
theorem OT (s:cQ) (p:List cQ):DV.sl 3 (((aP (s :: p)).take (((aP (s :: p)).length:Nat):Int).toNat).drop (1:Int).toNat) none = .sl 3 (aP p) none:=by
 rw [Int.toNat_natCast,List.take_length];all_goals rfl
abbrev wL (lv:List Wd) (f:Nat->Nat->Bool) (ND:List Nd) (z:Int):List DV:=[.sl 2 (bJ lv) none,.sl 1 (cH (dt lv.length f)) none,.sl 7 (bh ND) none,.v (.int .i64 z)]
def aab (o:Option (Nat × Nat)):DV:=match o with
 | some (j,b)=>.tup [.v (.int .i64 (j:Nat)),.v (.int .i64 (b:Nat))]
 | none=>.tup [.v (.int .i64 (-1)),.v (.int .i64 (-1))]
theorem ur (lv:List Wd) (f:Nat->Nat->Bool) (ND:List Nd) (z:Int) (hL:fU f lv.length) (hn:lv.length<=32) (bm:∀ n∈ND,cz lv.length ND.length n) (bL:∀ n∈ND,n.ai.length<=1099511627776) :
  ∀ (p:List cQ),p.length<=1099511627776->(∀ s∈p,s.s.size<=4611686018427387904)->∀ (i a:Nat),i < ND.length->a < lv.length ->
   aQ prog 80 [.agg (wL lv f ND z),.v (.int .i64 i),.v (.int .i64 a),.sl 3 (aP p) none] (aab (walkV ND f lv.length p i a))
 | [],_,_,i,a,hi,ha=>by
  have hW:wL lv f ND z=wL lv f ND z:=rfl;rw [walkV];refine eG 51 [.tmp 8,.tmp 9] func80 rfl ntmps80 rfl fun _ _ _ _=>?_;exact ⟨_,ax,rfl⟩
 | s :: p,hp,hs,i,a,hi,ha=>by
  obtain ⟨d,hd⟩:∃ d,ND[i]? = some d:=⟨_,gE hi⟩;have hm:=mG hd;have hN:=bm d hm;have yC:=oh d s (bL d hm) (hs s (by simp));have gh:=fun k=>@fL d s k;have sM:=fun e (he:e∈d.ai)=>oU hN he;have hbr:=fun e (he:e∈d.ai) h=>@kG _ _ d hN s e he h;have ye:=OT s p;have CO:=dE (l:=s :: p) (e:=0) rfl;have OU:=dO (s :: p);rw [List.length_cons] at OU hp;have hNl:=cp ND;have ih:=fun i a hi ha=>ur lv f ND z hL hn bm bL p (by omega) (fun s tP=>hs s (by simp [tP])) i a hi ha
  have hWV:walkV ND f lv.length (s :: p) i a=match iI d s with
   | none=>none
   | some k=>match d.ai[k]? with
    | none=>none
    | some e=>walkV ND f lv.length p e.to.toNat (Jl f lv.length a e.label.toNat):=by rw [walkV,hd];all_goals rfl
  rw [hWV];clear hWV;generalize iI d s=o at yC gh ⊢
  cases o with
  | none=>
   obtain ⟨ag,aS,lo,eC,most,af,es⟩:=d;obtain ⟨sk,sn,ss⟩:=s;refine eG 51 [.tmp 8,.tmp 9] func80 rfl ntmps80 rfl fun _ _ _ _=>?_;refine dI ?_;refine ⟨_,⟨by omega,bV hd⟩,_,⟨by omega,CO⟩,?_⟩;refine cD Ii yC ?_;exact ⟨_,ax,rfl⟩
  | some k=>
   obtain ⟨e,he,hB,_⟩:=gh k rfl;have UG:=mG he;obtain ⟨h0,⟨h2,Qh⟩,_⟩:=sM e UG;obtain ⟨h1,tG⟩:=h0 (hbr e UG hB);clear sM hbr gh h0;obtain ⟨en,eb,ea,et,vi,ew,yD,yE,yF,yG⟩:=e;simp only at h1 h2 tG Qh;obtain ⟨lb,rfl⟩:∃ n:Nat,vi=n:=⟨_,h2⟩;obtain ⟨tn,rfl⟩:∃ n:Nat,et=n:=⟨_,h1⟩;simp only [Int.toNat_natCast] at tG Qh;have hj:=n7 lv.length f (by omega) a lb ha Qh;rw [HM hL ha Qh] at hj;have hw:=ih tn (Jl f lv.length a lb) tG (OQ hL ha Qh);simp only [he,Int.toNat_natCast];generalize walkV ND f lv.length p tn (Jl f lv.length a lb)=R at hw ⊢;obtain ⟨ag,aS,lo,eC,most,af,es⟩:=d;obtain ⟨sk,sn,ss⟩:=s;have dY:=aO es;simp only at he;refine eG 51 [.tmp 8,.tmp 9] func80 rfl ntmps80 rfl fun _ _ _ _=>?_;refine dI ?_;refine ⟨_,⟨by omega,bV hd⟩,_,⟨by omega,CO⟩,?_⟩;refine cD Ii yC ?_;refine iX (bV hd) ?_;refine ⟨_,⟨by simp [oz],by simpa [oz] using aC he⟩,?_⟩;refine dI ?_;refine cD L9 hj ?_;refine ⟨⟨by omega,by omega,by omega⟩,?_⟩;refine cD Uf hw ?_ (gF ye)
   cases R with
   | none=>exact ⟨_,ax,rfl⟩
   | some r=>exact ⟨_,ax,rfl⟩
theorem HO (d:Nd) (e:Ed) (s:cQ):aQ prog 190 [.agg (gv d),.agg (BZ e),.agg (jJ s)] (.v (.bool (HN d s e))):=by
 obtain ⟨ag,aS,lo,hi,most,af,es⟩:=d;obtain ⟨en,eb,ea,et,vi,ew,yD,yE,yF,yG⟩:=e;obtain ⟨k,n,t⟩:=s
 have hF:HN ⟨ag,aS,lo,hi,most,af,es⟩ ⟨k,n,t⟩ ⟨en,eb,ea,et,vi,ew,yD,yE,yF,yG⟩=if k=1 then decide (ag=7) && decide (en=t)
  else if k=5 then decide (ag=8) && decide (en=t) && !eb
  else if k=2 then decide (ag=5) && decide (n < most)
  else if k=3 then decide (ag=5) && decide (0 < most)
  else decide (ag=6):=rfl
 generalize HN ⟨ag,aS,lo,hi,most,af,es⟩ ⟨k,n,t⟩ ⟨en,eb,ea,et,vi,ew,yD,yE,yF,yG⟩=F at hF ⊢;refine eG 63 [.tmp 6] func190 rfl ntmps190 rfl fun _ _ _ _=>?_;refine br ?_ ?_<;>intro c
 ·have c:k=1:=sU c;rw [if_pos c] at hF;refine (congrArg (fun b=>DV.v (.bool b)) ?_:_=_);rw [hF];simp only [aq]
 have c1:¬ k=1:=sU c;rw [if_neg c1] at hF;refine br ?_ ?_<;>intro c
 ·have c:k=5:=sU c;rw [if_pos c] at hF;refine (congrArg (fun b=>DV.v (.bool b)) ?_:_=_);rw [hF];simp only [aq]
 have c5:¬ k=5:=sU c;rw [if_neg c5] at hF;refine br ?_ ?_<;>intro c
 ·have c:k=2:=sU c;rw [if_pos c] at hF;refine (congrArg (fun b=>DV.v (.bool b)) ?_:_=_);rw [hF];simp only [aq]
 have c2:¬ k=2:=sU c;rw [if_neg c2] at hF;refine br ?_ ?_<;>intro c
 ·have c:k=3:=sU c;rw [if_pos c] at hF;refine (congrArg (fun b=>DV.v (.bool b)) ?_:_=_);rw [hF];simp only [aq]
 have c3:¬ k=3:=sU c;rw [if_neg c3] at hF;refine (congrArg (fun b=>DV.v (.bool b)) ?_:_=_);rw [hF]
def estW (ND:List Nd) (f:Nat->Nat->Bool) (n:Nat) (s:cQ) (i a:Nat):Option (Nat × Nat):=match ND[i]? with
 | none=>none
 | some d=>match iI d s with
  | none=>none
  | some k=>match d.ai[k]? with
   | none=>none
   | some e=>some (e.to.toNat,Jl f n a e.label.toNat)
theorem walkV_drop (ND:List Nd) (f:Nat->Nat->Bool) (n:Nat) (p:List cQ) (e i a:Nat):walkV ND f n (p.drop e) i a=match p[e]? with
  | none=>some (i,a)
  | some s=>match estW ND f n s i a with
   | none=>none
   | some (j,b)=>walkV ND f n (p.drop (e + 1)) j b:=by
 cases hs:p[e]? with
 | none=>rw [List.drop_eq_nil_of_le (List.getElem?_eq_none_iff.1 hs)];all_goals rfl
 | some s=>
  obtain ⟨h1,h2⟩:=List.getElem?_eq_some_iff.1 hs;rw [List.drop_eq_getElem_cons h1,h2,walkV];simp only [estW]
  cases hd:ND[i]? with
  | none=>rfl
  | some d=>
   simp only
   cases hk:iI d s with
   | none=>rfl
   | some k=>
    simp only
    cases he:d.ai[k]? with
    | none=>rfl
    | some x=>rfl
theorem RA {f:Nat->Nat->Bool} {L:Nat} (hL:fU f L) {ND:List Nd} (bm:∀ n∈ND,cz L ND.length n) {s:cQ} {i a j b:Nat} (hi:i < ND.length) (ha:a < L) (h:estW ND f L s i a=some (j,b)):j < ND.length/\b < L:=by
 have hw:=walkV_drop ND f L [s] 0 i a;simp only [List.getElem?_cons_zero,h] at hw;exact Fh hL bm [s] i a hi ha hw
def aac (o:Option (Nat × Nat)):DV:=match o with
 | some (j,b)=>.tup [.agg [.v (.int .i64 (j:Nat)),.v (.int .i64 (b:Nat))],.v (.bool true)]
 | none=>.tup [.agg [.v (.int .i64 0),.v (.int .i64 0)],.v (.bool false)]
abbrev aad (PC:List DV) (i a:Nat) (s:cQ) (d:Nd) (e:Nat):St:=
 ⟨[(0,⟨[],.pt PC 0⟩),(4,⟨[],.loc 0 0⟩),(5,⟨[],.loc 1 0⟩),(6,⟨[],.loc 2 0⟩),(8,⟨[],.loc 3 0⟩),(20,⟨[],.sl 10 (cw d.ai) none⟩),(21,⟨[],.v (.int .i64 (cw d.ai).length)⟩),(22,⟨[],.v (.int .i64 e)⟩)],
  [[.v (.int .i64 i),.v (.int .i64 a)],jJ s,[.v (.int .i64 0),.v (.int .i64 0)],gv d],[]⟩
theorem HP {S:Sch} {ND:List Nd} {PC:List DV} (hP:eW S ND PC) (s:cQ) (hr:c9 s=true) (i a:Nat) (hi:i < ND.length) (ha:a < S.ae.length) :
  aQ prog 142 [.pt PC 0,.agg [.v (.int .i64 i),.v (.int .i64 a)],.agg (jJ s)] (aac (estW ND (dX S) S.ae.length s i a)):=by
 obtain ⟨LC,Kw,Ps⟩:=hP.VD;obtain ⟨d,hd⟩:∃ d,ND[i]? = some d:=⟨_,gE hi⟩;have hN:=hP.ok d (mG hd);have eI:=hP.ak i d hd
 have dY:d.ai.length<=1099511627776:=by
  have:=oN (S:=S) (n:=d) (by rw [<- hP.z8];exact mG hd) hP.wt;exact this.2
 have hjn:=fun b hb=>Ps.join a b ha hb
 have hW:estW ND (dX S) S.ae.length s i a=match bI (pq d s) d.ai.length with
  | none=>none
  | some k=>match d.ai[k]? with
   | none=>none
   | some e=>some (e.to.toNat,Jl (dX S) S.ae.length a e.label.toNat):=by
  unfold estW;simp only [hd,iI,if_pos hr]
 have Rz:∀ (e:Nat) x,d.ai[e]? = some x->pq d s e=HN d s x:=fun e x h=>by
  rw [Jn hN hr (mG h)];unfold pq;rw [h]
 have Bn:=fun x=>HO d x s;have sM:=fun (e:Ed) (he:e∈d.ai) (h:lW d s e=true)=>And.intro ((oU hN he).1 (kG hN he h)) (oU hN he).2.1;have Lc:=fun x hx=>Jn hN hr (e:=x) hx;generalize estW ND (dX S) S.ae.length s i a=R at hW ⊢;generalize pq d s=pE at hW Rz;generalize Jl (dX S) S.ae.length a=jn at hW hjn;obtain ⟨ag,aS,lo,eC,most,af,es⟩:=d;obtain ⟨k,n,t⟩:=s;have bA:=aO es;simp only at hW Rz dY;refine eG 42 [.cell 6 214,.tmp 7] func142 rfl ntmps142 rfl fun _ _ _ _=>?_;refine cP Gg eI ?_;refine lI (fun j st=>∃ e:Nat,st=aad PC i a ⟨k,n,t⟩ ⟨ag,aS,lo,eC,most,af,es⟩ e/\e<=es.length/\(∀ c,c < e->pE c=false)/\j=es.length - e) ⟨0,rfl,by omega,fun _ h=>by omega,rfl⟩ (ah ⟨_,rfl⟩ wA rfl rfl rfl wB) ?_;rintro j st ⟨e,rfl,he,eZ,rfl⟩;refine br ?_ ?_<;>intro hL
 ·have aj:e < es.length:=sV bA hL;obtain ⟨x,hx⟩:=gX aj;have hPx:=Rz e x hx;have hfx:=Bn x;have Rm:=mG hx;have eE:=sM x Rm;have VG:=Lc x Rm
  cases hv:HN ⟨ag,aS,lo,eC,most,af,es⟩ ⟨k,n,t⟩ x with
  | true=>
   rw [hv] at hPx hfx VG;obtain ⟨⟨h1,_⟩,h2,h3⟩:=eE VG.symm;rw [bq aj hPx eZ] at hW;simp only [hx] at hW;clear sM Lc eE VG Bn;obtain ⟨en,eb,ea,et,vi,ew,yD,yE,yF,yG⟩:=x;simp only at h1 h2 h3;obtain ⟨lb,rfl⟩:∃ n:Nat,vi=n:=⟨_,h2⟩;obtain ⟨tn,rfl⟩:∃ n:Nat,et=n:=⟨_,h1⟩;simp only [Int.toNat_natCast] at h3 hW;have hj:=hjn lb h3;subst hW;refine iX (aC hx) ?_;refine cP Sf hfx ?_;refine dS ?_;refine cD R2 Kw ?_;refine cD Sb hj ?_;exact ⟨_,ax,rfl⟩
  | false=>
   rw [hv] at hPx hfx;obtain ⟨en,eb,ea,et,vi,ew,yD,yE,yF,yG⟩:=x;refine iX (aC hx) ?_;refine cP Sf hfx ?_
   exact rE ⟨_,by omega,e + 1,rfl,by omega,fun c hc=>by
    rcases Nat.lt_succ_iff_lt_or_eq.1 hc with h | h
    ·exact eZ c h
    ·rw [h];exact hPx,rfl⟩ (ap 4 rfl (na (aF aj (by omega))) rfl rfl rfl (cX (aF aj (by omega))))
 ·have aM:e=es.length:=sW bA hL;subst aM;rw [bK eZ] at hW;simp only at hW;subst hW;exact ⟨_,ax,rfl⟩
def aae (o:Option (Nat × Nat)):DV:=match o with
 | some (j,b)=>.tup [.v (.int .i64 (j:Nat)),.v (.int .i64 (b:Nat)),.v (.bool true)]
 | none=>.tup [.v (.int .i64 (-1)),.v (.int .i64 (-1)),.v (.bool false)]
abbrev aaf (PC:List DV) (p:List cQ) (i a e:Nat):St:=
 ⟨[(0,⟨[],.pt PC 0⟩),(7,⟨[],.loc 0 0⟩),(18,⟨[],.sl 3 (aP p) none⟩),(19,⟨[],.v (.int .i64 (aP p).length)⟩),(20,⟨[],.v (.int .i64 e)⟩)],[[.v (.int .i64 i),.v (.int .i64 a)]],[]⟩
theorem yr {S:Sch} {ND:List Nd} {PC:List DV} (hP:eW S ND PC) (p:List cQ) (hp:p.length<=1099511627776) (hs:∀ s∈p,s.s.size<=4611686018427387904) (rt:Nat) (yI:fT S=rt) (ed:rt < ND.length) :
  aQ prog 76 [.pt PC 0,.sl 3 (aP p) none] (aae (walkV ND (dX S) S.ae.length p rt (jK (dX S) S.ae.length))):=by
 obtain ⟨LC,Kw,Ps⟩:=hP.VD;have nW:=hP.root;rw [yI] at nW;have Nc:=Ps.bot;have hbl:=Jm Ps.ok;have aR:=fun s hr i a hi ha=>HP hP s hr i a hi ha;have hwd:=walkV_drop ND (dX S) S.ae.length p;have bm:=fun {s i a j b}=>@RA _ _ Ps.ok _ hP.ok s i a j b;have bA:=dO p
 have TI:∀ s i a,c9 s=false->estW ND (dX S) S.ae.length s i a=none:=fun s i a h=>by
  unfold estW
  cases ND[i]? with
  | none=>rfl
  | some d=>simp [iI,h]
 generalize hR:walkV ND (dX S) S.ae.length p rt (jK (dX S) S.ae.length)=R;have hR0:walkV ND (dX S) S.ae.length (p.drop 0) rt (jK (dX S) S.ae.length)=R:=by rw [List.drop_zero];exact hR
 clear hR;generalize jK (dX S) S.ae.length=bt at Nc hbl hR0;refine eG 42 [.tmp 4,.tmp 5,.tmp 6] func76 rfl ntmps76 rfl fun _ _ _ _=>?_;refine cP en13 nW ?_;refine cP R2 Kw ?_;refine cP R3 Nc ?_;refine lI (fun j st=>∃ e i a:Nat,st=aaf PC p i a e/\e<=p.length/\i < ND.length/\a < S.ae.length/\walkV ND (dX S) S.ae.length (p.drop e) i a=R/\j=p.length - e) ⟨0,rt,bt,rfl,by omega,ed,hbl,hR0,rfl⟩ (ah ⟨_,rfl⟩ wA rfl rfl rfl wB) ?_;rintro j st ⟨e,i,a,rfl,he,hi,ha,hw,rfl⟩;rw [hwd] at hw;refine br ?_ ?_<;>intro hL
 ·have aj:e < p.length:=sV bA hL;obtain ⟨x,hx⟩:=gX aj;have qg:=hs x (mG hx);have hr:=Fo [x] (sU qg);rw [yp] at hr;rw [hx] at hw;simp only at hw
  cases Qs:c9 x with
  | false=>
   rw [TI x i a Qs] at hw;simp only at hw;subst hw;rw [Qs] at hr;obtain ⟨xk,xn,xt⟩:=x;refine iX (dE hx) ?_;refine cP R4 hr ?_;exact ⟨_,ax,rfl⟩
  | true=>
   have yy:=aR x Qs i a hi ha;have hkx:=@bm x i a;rw [Qs] at hr;generalize estW ND (dX S) S.ae.length x i a=o at hw yy hkx;obtain ⟨xk,xn,xt⟩:=x;refine iX (dE hx) ?_;refine cP R4 hr ?_;refine cP XH yy ?_
   cases o with
   | none=>
    simp only at hw;subst hw;exact ⟨_,ax,rfl⟩
   | some r=>
    obtain ⟨j,b⟩:=r;simp only at hw;obtain ⟨h1,h2⟩:=hkx hi ha rfl;exact rE ⟨_,by omega,e + 1,j,b,rfl,by omega,h1,h2,hw,rfl⟩ (ap 1 rfl (na (aF aj (by omega))) rfl rfl rfl (cX (aF aj (by omega))))
 ·have aM:p.length<=e:=sV bA hL;rw [List.getElem?_eq_none aM] at hw;simp only at hw;subst hw;refine dI ?_;exact ⟨_,ax,rfl⟩
theorem RB {n0 m0:Nat} {st st':St} (n:Nat) (q r:TkE) (hq:q.new=true) (hr:r.new=true) (hn:Nat.ble n st.bx.length=true) (h3:st.tk ++ [q,r]=st'.tk) (h2:WeLL n st.tk.length st'.tk (st.bx.take n) st'.bx) (h4:Nat.ble n0 n=true) (h5:Nat.ble m0 st.tk.length=true)
  (h:tJ n st.tk.length st'.tk st.sl st'.sl):si n0 m0 st st':=by
 have hl:(st.bx.take n).length=n:=by
  have:=nL hn;rw [List.length_take];omega
 exact ⟨st.tk,[],[q,r],st.bx.take n,st.bx.drop n,by simpa using h5,by rw [hl];simpa using h4,by simp,h3.symm,by simpa using ⟨hq,hr⟩,(List.take_append_drop n st.bx).symm,by rw [hl];exact h2,by rw [hl];exact h⟩
theorem Jo {sz:List Nat} {q:Pl} (h:q.s.k=2):yJ sz q=1 + q.s.n.toNat * sz.getD (to0 q.d).toNat 0:=by unfold yJ;rw [if_pos h]
theorem OV {sz:List Nat} {q:Pl} (h:q.s.k=1):yJ sz q=1 + sumE sz q.k q.d.ai 0:=by unfold yJ;rw [if_neg (by omega),if_pos h]
theorem OW {sz:List Nat} {q:Pl} (h2:q.s.k≠2) (h1:q.s.k≠1):yJ sz q=1:=by unfold yJ;rw [if_neg h2,if_neg h1]
section
variable (PC:List DV) (ND:List Nd) (D:List Nat) (K:List Bool) (sz ot:List Nat) {L:Nat}
abbrev Tj (s:cQ) (d:Nd) (m e:Nat):St:=
 ⟨[(0,⟨[],.pt (mQ PC ND D K sz ot) 0⟩),(9,⟨[],.loc 1 0⟩),(10,⟨[],.v (.int .i64 m)⟩),(25,⟨[],.v (.int .i64 s.n)⟩),(26,⟨[],.v (.int .i64 e)⟩)],[jJ s,gv d],[]⟩
abbrev aag (s:cQ) (d:Nd) (k m e:Nat):St:=
 ⟨[(0,⟨[],.pt (mQ PC ND D K sz ot) 0⟩),(2,⟨[],.v (.int .i64 k)⟩),(10,⟨[],.v (.int .i64 m)⟩),(46,⟨[],.sl 10 (cw d.ai) none⟩),(47,⟨[],.v (.int .i64 (cw d.ai).length)⟩),(48,⟨[],.v (.int .i64 e)⟩)],[jJ s,gv d],[]⟩
theorem CH {q:Pl} (hq:tC ND q) (hs:sz.length=ND.length) (hz:∀ z∈sz,z<=4097) (hn:cz L ND.length q.d) (dY:q.d.ai.length<=1099511627776) :
  aQ prog 127 [.pt (mQ PC ND D K sz ot) 0,.v (.int .i64 q.i),.v (.int .i64 q.k),.agg (jJ q.s)] (.v (.int .i64 (aY (yJ sz q):Nat))):=by
 obtain ⟨_,_,k2,_⟩:=ld hq;have eI:=hq.ak;have cj:=hn.one;have xU:=hn.many;have aU:=hn.fD;have cS:=hn.bare;have oi:=hn.ua;have e2:=@Jo sz q;have e1:=@OV sz q;have e0:=@OW sz q;have jG:=(ld hq).1;generalize hX:yJ sz q=X at *;obtain ⟨i,d,k,s⟩:=q;obtain ⟨ag,aS,lo,hi,most,af,es⟩:=d;obtain ⟨sk,sn,ss⟩:=s;simp only at *;have bA:=aO es;refine eG 69 [.tmp 8] func127 rfl ntmps127 rfl fun _ _ _ _=>?_;refine iX (bV eI) ?_;refine br ?_ ?_<;>intro c
 ·have c:sk=2:=sU c;obtain ⟨c5,kJ,zg⟩:=k2 c;obtain ⟨x,hx,nv,_⟩:=cj (.inl c5);have yH:es[0]? = some x:=by rw [hx];all_goals rfl
  obtain ⟨t,ht,gJ⟩:=(aU x (by rw [hx];simp)).to1 nv;obtain ⟨z,rQ⟩:∃ z,sz[t]? = some z:=⟨_,gE (by omega)⟩;have Wi:=hz z (mG rQ)
  have rU:sz.getD (to0 ⟨ag,aS,lo,hi,most,af,es⟩).toNat 0=z:=by
   unfold to0;rw [yH];simp only;rw [ht,Int.toNat_natCast,List.getD_eq_getElem?_getD,rQ];all_goals rfl
  have e2:=e2 c;rw [rU] at e2;rw [e2];have oi:=oi c5;refine bo (fun j st=>∃ e:Nat,st=Tj PC ND D K sz ot ⟨sk,sn,ss⟩ ⟨ag,aS,lo,hi,most,af,es⟩ (aY (1 + e * z)) e/\e<=sn.toNat/\j=sn.toNat - e) sn.toNat (Tj PC ND D K sz ot ⟨sk,sn,ss⟩ ⟨ag,aS,lo,hi,most,af,es⟩ 1 0) (ap 2 rfl wA rfl rfl rfl wB) ⟨0,by rw [Nat.zero_mul];rfl,by omega,by omega⟩ ?_;rintro j st ⟨e,rfl,he,rfl⟩;refine br ?_ ?_<;>intro hL
  ·have aj:e < sn.toNat:=by
    have:(e:Int) < sn:=sU hL;omega
   have hc:=fm (1 + e * z);have hw:=wrapN (a:=aY (1 + e * z)) (b:=z) (by omega) (by omega);have eE:aY (aY (1 + e * z) + z)=aY (1 + (e + 1) * z):=by rw [tB,Nat.add_mul,Nat.one_mul,Nat.add_assoc]
   refine dI ?_;refine iX (aC yH) ?_;refine ⟨_,⟨by rw [ht];exact Int.natCast_nonneg _,by rw [ht];exact aD rQ⟩,?_⟩;refine cD nc (dP (aY (1 + e * z) + z)) ?_ (gF hw);exact rE ⟨_,by omega,e + 1,rfl,by omega,rfl⟩ (ap 2 rfl (gj (aF aj (by omega)) eE) rfl rfl rfl (wB2 (aF aj (by omega)) eE))
  ·have aM:e=sn.toNat:=by
    have:¬ (e:Int) < sn:=sU hL;omega
   subst aM;exact (rfl:_=_)
 have c:¬ sk=2:=sU c;refine br ?_ ?_<;>intro c1
 ·have c1:sk=1:=sU c1;obtain ⟨c7,_⟩:=jG c1;rw [e1 c1];refine lJ (fun e=>aag PC ND D K sz ot ⟨sk,sn,ss⟩ ⟨ag,aS,lo,hi,most,af,es⟩ k (aY (1 + sumE sz k (es.take e) 0)) e) es.length (ap 2 rfl wA rfl rfl rfl wB) ?_;intro e he;refine br ?_ ?_<;>intro hL
  ·have aj:e < es.length:=sV bA hL;obtain ⟨x,hx⟩:=gX aj;have eE:=A2 (sz:=sz) (k:=k) hx
   have nv:x.bare=false:=by
    cases hb:x.bare with
    | false=>rfl
    | true=>have:=cS x (mG hx) hb;omega
   obtain ⟨t,ht,gJ⟩:=(aU x (mG hx)).to1 nv;obtain ⟨z,rQ⟩:∃ z,sz[t]? = some z:=⟨_,gE (by omega)⟩;have Wi:=hz z (mG rQ);have yC:bY sz x=z:=by unfold bY;rw [ht,Int.toNat_natCast,List.getD_eq_getElem?_getD,rQ];all_goals rfl
   have hc:=fm (1 + sumE sz k (es.take e) 0);have hw:=wrapN (a:=aY (1 + sumE sz k (es.take e) 0)) (b:=z) (by omega) (by omega);refine iX (aC hx) ?_;refine br ?_ ?_<;>intro g
   ·have g:¬ e=k:=by
     intro Ve;rw [Ve] at g;simp at g
    have rF:aY (aY (1 + sumE sz k (es.take e) 0) + z)=aY (1 + sumE sz k (es.take (e + 1)) 0):=by rw [tB,eE,if_neg g,yC,Nat.add_assoc]
    refine dI ?_;refine ⟨_,⟨by rw [ht];exact Int.natCast_nonneg _,by rw [ht];exact aD rQ⟩,?_⟩;refine cD nc (dP (aY (1 + sumE sz k (es.take e) 0) + z)) ?_ (gF hw);exact rE ⟨_,by omega,e + 1,rfl,by omega,rfl⟩ (ap 2 rfl (gj (aF aj (by omega)) rF) rfl rfl rfl (wB2 (aF aj (by omega)) rF))
   ·have g:e=k:=by
     have:(e:Int)=k:=sU g;omega
    have rF:1 + sumE sz k (es.take e) 0=1 + sumE sz k (es.take (e + 1)) 0:=by rw [eE,if_pos g,Nat.add_zero]
    exact rE ⟨_,by omega,e + 1,rfl,by omega,rfl⟩ (ap 2 rfl (gj (aF aj (by omega)) (congrArg (fun n:Nat=>((aY n:Nat):Int)) rF)) rfl rfl rfl (wB2 (aF aj (by omega)) (congrArg (fun n:Nat=>((aY n:Nat):Int)) rF)))
  ·have aM:e=es.length:=sW bA hL;subst aM;rw [List.take_length];exact (rfl:_=_)
 ·have c1:¬ sk=1:=sU c1;rw [e0 c c1];exact (rfl:_=_)
end
end Go.Proofs.YtadhpeooehkklaaGreat
set_option maxRecDepth 100000
namespace Go.Proofs.YtadhpeooehkklaaGreat
open Go Go.RowKit Dv Go.Proofs.Tryz
end Go.Proofs.YtadhpeooehkklaaGreat
set_option maxRecDepth 100000
namespace Go.Proofs.YtadhpeooehkklaaGreat
open Go Go.RowKit Dv Go.Proofs.Tryz
theorem yt (L:List Nat) (e:Nat):dInts L ++ [[DV.v (.int .i64 (e:Nat))]]=dInts (L ++ [e]):=by simp [dInts]
abbrev Fp (l:List Pl):List Nat:=l.map Pl.i
abbrev Fq (l:List Pl):List Nat:=l.map Pl.k
theorem OX {l:List Pl} {e:Nat} {q:Pl} (h:l[e]? = some q):dInts (Fp (l.take e)) ++ [[DV.v (.int .i64 (q.i:Nat))]]=dInts (Fp (l.take (e + 1))):=by
 rw [dn h,Fp,Fp,List.map_append,yt];all_goals rfl
theorem OY {l:List Pl} {e:Nat} {q:Pl} (h:l[e]? = some q):dInts (Fq (l.take e)) ++ [[DV.v (.int .i64 (q.k:Nat))]]=dInts (Fq (l.take (e + 1))):=by
 rw [dn h,Fq,Fq,List.map_append,yt];all_goals rfl
section
variable (PC:List DV) (p:List cQ) (l:List Pl)
abbrev aah (e n m:Nat):St:=
 ⟨[(0,⟨[],.pt PC 0⟩),(1,⟨[],.sl 3 (aP p) none⟩),(4,⟨[],.sl 1 (dInts (Fp (l.take e))) (some 0)⟩),(5,⟨[],.sl 1 (dInts (Fq (l.take e))) (some 1)⟩),(14,⟨[],.sl 3 (aP p) none⟩),(15,⟨[],.v (.int .i64 (aP p).length)⟩),(16,⟨[],.v (.int .i64 e)⟩)],[],[⟨n,3,1,none⟩,⟨m,3,1,none⟩]⟩
abbrev VH (q:Pl) (e c:Nat):St:=
 ⟨[(0,⟨[],.pt PC 0⟩),(1,⟨[],.sl 3 (aP p) none⟩),(4,⟨[],.sl 1 (dInts (Fp (l.take e))) (some 0)⟩),(5,⟨[],.sl 1 (dInts (Fq (l.take e))) (some 1)⟩),(7,⟨[],.loc 0 0⟩),(8,⟨[],.v (.int .i64 q.i)⟩),(11,⟨[],.loc 1 0⟩),(13,⟨[],.v (.int .i64 c)⟩),(14,⟨[],.sl 3 (aP p) none⟩),(15,⟨[],.v (.int .i64 (aP p).length)⟩),(16,⟨[],.v (.int .i64 e)⟩)],[jJ q.s,gv q.d],[⟨e,3,1,none⟩,⟨e,3,1,none⟩]⟩
end
theorem rG {S:Sch} {ND:List Nd} {PC:List DV} (hP:eW S ND PC) (bL:∀ n∈ND,n.ai.length<=1099511627776) (p:List cQ) (hp:p.length<=1099511627776) (hs:∀ s∈p,s.s.size<=4611686018427387904) (rt:Nat) (yI:fT S=rt) (ed:rt < ND.length)
  {r:Nat × Nat} (hr:walkV ND (dX S) S.ae.length p rt (jK (dX S) S.ae.length)=some r) :
  aQ prog 125 [.pt PC 0,.sl 3 (aP p) none] (.tup [.sl 1 (dInts (Fp (stpsV ND p rt))) none,.sl 1 (dInts (Fq (stpsV ND p rt))) none]):=by
 have hw:=fun q hq iR=>yr hP q hq iR rt yI ed;have lE:=dO p;obtain ⟨xc,nr⟩:=og p rt _ hr;generalize stpsV ND p rt=l at xc nr ⊢;generalize jK (dX S) S.ae.length=bt at nr hw;refine eG 66 [.tmp 4,.tmp 5] func125 rfl ntmps125 rfl fun _ _ _ _=>?_;refine lJ (fun e=>aah PC p l e e e) p.length (RB 0 ⟨0,3,1,none⟩ ⟨0,3,1,none⟩ rfl rfl rfl rfl pB rfl rfl lY) ?_;intro e he;refine br ?_ ?_<;>intro hL
 ·have aj:e < p.length:=sV lE hL;obtain ⟨s,tP⟩:=gX aj;obtain ⟨q,b,hq,KQ,bm,hwq⟩:=nr e s tP;have jG:=hw (p.take e) (by rw [List.length_take];omega) (fun x hx=>hs x (List.mem_of_mem_take hx));rw [hwq] at jG;have jG:aQ prog 76 [.pt PC 0,.sl 3 (aP (p.take e)) none] (.tup [.v (.int .i64 (q.i:Nat)),.v (.int .i64 (b:Nat)),.v (.bool true)]):=jG
  have ht1:DV.sl 3 (((aP p).take ((e:Nat):Int).toNat).drop (0:Int).toNat) none = .sl 3 (aP (p.take e)) none:=by
   rw [Int.toNat_natCast];show DV.sl 3 ((aP p).take e) none=_;unfold aP;rw [List.map_take]
  have hN:=hP.ok _ (mG bm.ak);have CO:=bL _ (mG bm.ak);have eI:=hP.ak _ _ bm.ak;have dA:=Ry hN bm
  have ee:q.k < q.d.ai.length:=by
   obtain ⟨x,hx,_⟩:=fL bm.fD;exact (gS hx).1
  have hI:=OX hq;have hK:=OY hq;have fc:(dInts (Fp (l.take e))).length=e:=by rw [aZ,List.length_map,List.length_take];omega
  have cR:(dInts (Fq (l.take e))).length=e:=by rw [aZ,List.length_map,List.length_take];omega
  have eE:=aF aj (show p.length<=4611686018427387904 by omega);subst KQ;obtain ⟨i,d,k,s⟩:=q;obtain ⟨ag,aS,lo,hi,most,af,es⟩:=d;obtain ⟨sk,sn,ss⟩:=s;simp only at dA ee jG eI CO tP hI hK;have bA:=aO es;refine iX (dE tP) ?_;refine ⟨⟨by omega,by omega,by omega⟩,?_⟩;refine cP L3 jG ?_ (gF ht1);refine cP Gg eI ?_;refine br ?_ ?_<;>intro c
  ·have c:sk=1∨sk=5:=by simpa [au] using c
   rw [if_pos c] at dA;obtain ⟨_,Ux,hpb⟩:=cA dA;refine lJ (fun c=>VH PC p l ⟨i,⟨ag,aS,lo,hi,most,af,es⟩,k,⟨sk,sn,ss⟩⟩ e c) k (ap 2 rfl wA rfl rfl rfl wB) ?_;intro c hc;obtain ⟨x,hx⟩:∃ x,es[c]? = some x:=⟨_,gE (by omega)⟩;have hP2:yq es ss c=decide (x.name=ss):=by unfold yq;rw [hx]
   refine dI ?_;refine iX (aC hx) ?_;refine br ?_ ?_<;>intro g
   ·have gn:¬ x.name=ss:=sU g
    have kN:c < k:=by
     rcases Nat.lt_or_ge c k with h | h
     ·exact h
     ·have:c=k:=by omega
      subst this;rw [hP2] at Ux;exact (gn (of_decide_eq_true Ux)).elim
    exact rE ⟨_,by omega,c + 1,rfl,by omega,rfl⟩ (ap 2 rfl (na (aF kN (by omega))) rfl rfl rfl (cX (aF kN (by omega))))
   ·have gn:x.name=ss:=sU g
    have Z8:c=k:=by
     rcases Nat.lt_or_ge c k with h | h
     ·have:=hpb c h;rw [hP2] at this;exact (of_decide_eq_false this gn).elim
     ·omega
    subst Z8;refine ⟨fc,⟨by rw [fc];simp [maxLen];omega,by rw [fc];simp;omega⟩,?_⟩;refine ⟨cR,⟨by rw [cR];simp [maxLen];omega,by rw [cR];simp;omega⟩,?_⟩;exact rE ⟨_,by omega,e + 1,rfl,by omega,rfl⟩ (ap 0 rfl (PM eE hI hK) rfl rfl rfl (yx eE hI hK))
  ·have c:¬ (sk=1∨sk=5):=by simpa [au] using c
   rw [if_neg c] at dA;subst dA;refine ⟨fc,⟨by rw [fc];simp [maxLen];omega,by rw [fc];simp;omega⟩,?_⟩;refine ⟨cR,⟨by rw [cR];simp [maxLen];omega,by rw [cR];simp;omega⟩,?_⟩;exact rE ⟨_,by omega,e + 1,rfl,by omega,rfl⟩ (ap 0 rfl (PM eE hI hK) rfl rfl rfl (yx eE hI hK))
 ·have aM:e=p.length:=sW lE hL;subst aM;rw [<- xc,List.take_length];exact ⟨_,ax,rfl⟩
theorem all_false {α:Type} {f:α->Bool} {l:List α} {e:Nat} {x:α} (h:l[e]? = some x) (hf:f x=false):l.all f=false:=by
 rw [List.all_eq_false];exact ⟨x,mG h,by simp [hf]⟩
theorem A5 {D:List Nat} {k:Nat} {es:List Ed} {e:Nat} {x:Ed} (h:es[e]? = some x):np D k (es.take (e + 1)) 0=(np D k (es.take e) 0 && (decide (e=k) || decide (bY D x≠0))):=by
 have hl:=(gS h).1;rw [dn h,A4,List.length_take,Nat.min_eq_left (by omega),Nat.zero_add]
section
variable (PC:List DV) (ND:List Nd) (D:List Nat) (K:List Bool) (sz ot:List Nat) (p:List cQ) (l:List Pl)
abbrev aai (e:Nat):St:=
 ⟨[(0,⟨[],.pt (mQ PC ND D K sz ot) 0⟩),(5,⟨[],.sl 1 (dInts (Fp l)) none⟩),(6,⟨[],.sl 1 (dInts (Fq l)) none⟩),(20,⟨[],.sl 3 (aP p) none⟩),(21,⟨[],.v (.int .i64 (aP p).length)⟩),(22,⟨[],.v (.int .i64 e)⟩)],[],[]⟩
abbrev HQ (q:Pl) (e c:Nat):St:=
 ⟨[(0,⟨[],.pt (mQ PC ND D K sz ot) 0⟩),(5,⟨[],.sl 1 (dInts (Fp l)) none⟩),(6,⟨[],.sl 1 (dInts (Fq l)) none⟩),(7,⟨[],.v (.int .i64 e)⟩),(8,⟨[],.loc 0 0⟩),(20,⟨[],.sl 3 (aP p) none⟩),(21,⟨[],.v (.int .i64 (aP p).length)⟩),(22,⟨[],.v (.int .i64 e)⟩),(40,⟨[],.sl 10 (cw q.d.ai) none⟩),(41,⟨[],.v (.int .i64 (cw q.d.ai).length)⟩),(42,⟨[],.v (.int .i64 c)⟩)],[jJ q.s],[]⟩
end
theorem Fs {S:Sch} {ND:List Nd} {PC:List DV} (D:List Nat) (K:List Bool) (sz ot:List Nat) (hP:eW S ND PC) (hD:D.length=ND.length) (bL:∀ n∈ND,n.ai.length<=1099511627776) (p:List cQ) (hp:p.length<=1099511627776) (hs:∀ s∈p,s.s.size<=4611686018427387904) (rt:Nat) (yI:fT S=rt) (ed:rt < ND.length)
  {r:Nat × Nat} (hr:walkV ND (dX S) S.ae.length p rt (jK (dX S) S.ae.length)=some r) :
  aQ prog 124 [.pt (mQ PC ND D K sz ot) 0,.sl 3 (aP p) none] (.v (.bool ((stpsV ND p rt).all (iA D)))):=by
 have mZ:=rG hP bL p hp hs rt yI ed hr;have lE:=dO p;obtain ⟨xc,nr⟩:=og p rt _ hr;generalize stpsV ND p rt=l at xc nr mZ ⊢;have aaj:(dInts (Fp l)).length=p.length:=by rw [aZ,List.length_map,xc]
 have aak:(dInts (Fq l)).length=p.length:=by rw [aZ,List.length_map,xc]
 refine eG 71 [.tmp 4] func124 rfl ntmps124 rfl fun _ _ _ _=>?_;refine cP R0 mZ ?_;refine lI (fun j st=>∃ e:Nat,st=aai PC ND D K sz ot p l e/\e<=p.length/\(l.take e).all (iA D)=true/\j=p.length - e) ⟨0,rfl,by omega,rfl,rfl⟩ (ap 0 rfl wA rfl rfl rfl wB) ?_;rintro j st ⟨e,rfl,he,o0,rfl⟩;refine br ?_ ?_<;>intro hL
 ·have aj:e < p.length:=sV lE hL;obtain ⟨s,tP⟩:=gX aj;obtain ⟨q,b,hq,KQ,bm,hwq⟩:=nr e s tP;have eE:=aF aj (show p.length<=4611686018427387904 by omega);have hN:=hP.ok _ (mG bm.ak);have CO:=bL _ (mG bm.ak);have eI:=bm.ak;have aU:=hN.fD;have cS:=hN.bare;have hk7:=(ld bm).1;have hA:iA D q=(decide (q.s.k≠3) && (decide (q.s.k≠1) || np D q.k q.d.ai 0)):=rfl;have VI:=fun h=>all_false (f:=iA D) hq h;have kM:iA D q=true->(l.take (e + 1)).all (iA D)=true:=fun h=>by rw [dn hq,List.all_append,o0,List.all_cons,h];all_goals rfl
  have Oj:(dInts (Fp l))[e]? = some [.v (.int .i64 ((q.i:Nat):Int))]:=aD (by rw [List.getElem?_map,hq];rfl);have Tk:(dInts (Fq l))[e]? = some [.v (.int .i64 ((q.k:Nat):Int))]:=aD (by rw [List.getElem?_map,hq];rfl);subst KQ;generalize hAg:iA D q=A at hA VI kM;obtain ⟨i,d,k,s⟩:=q;obtain ⟨ag,aS,lo,hi,most,af,es⟩:=d;obtain ⟨sk,sn,ss⟩:=s;simp only at hA eI CO tP Oj Tk aU cS hk7;have bA:=aO es;refine iX (dE tP) ?_;refine br ?_ ?_<;>intro c
  ·have c:sk=3:=sU c;rw [VI (by rw [hA];simp [c])];exact (rfl:_=_)
  have c3:¬ sk=3:=sU c;refine dI ?_;refine ⟨_,⟨by omega,Oj⟩,?_⟩;refine iX (bV eI) ?_;refine lI (fun j st=>∃ c:Nat,st=HQ PC ND D K sz ot p l ⟨i,⟨ag,aS,lo,hi,most,af,es⟩,k,⟨sk,sn,ss⟩⟩ e c/\c<=es.length/\(sk=1->np D k (es.take c) 0=true)/\j=es.length - c) ⟨0,rfl,by omega,fun _=>rfl,rfl⟩ (ap 1 rfl wA rfl rfl rfl wB) ?_;rintro j st ⟨c,rfl,hc,nj,rfl⟩;refine br ?_ ?_<;>intro kx
  ·have kN:c < es.length:=sV bA kx;obtain ⟨x,hx⟩:=gX kN;have RC:=A5 (D:=D) (k:=k) hx;refine iX (aC hx) ?_;have AU:(sk=1->(decide (c=k) || decide (bY D x≠0))=true)->(sk=1->np D k (es.take (c + 1)) 0=true):=fun h h1=>by rw [RC,nj h1,h h1];all_goals rfl
   have nv:sk=1->x.bare=false:=fun h1=>by
    obtain ⟨h7,_⟩:=hk7 h1
    cases hb:x.bare with
    | false=>rfl
    | true=>have:=cS x (mG hx) hb;omega
   refine dI ?_;refine br ?_ ?_<;>intro c1
   ·have c1:sk=1:=sU c1;obtain ⟨t,ht,gJ⟩:=(aU x (mG hx)).to1 (nv c1);obtain ⟨z,rQ⟩:∃ z,D[t]? = some z:=⟨_,gE (by omega)⟩;have yC:bY D x=z:=by unfold bY;rw [ht,Int.toNat_natCast,List.getD_eq_getElem?_getD,rQ];all_goals rfl
    refine ⟨_,⟨by omega,Tk⟩,?_⟩;refine br ?_ ?_<;>intro g
    ·have gn:¬ c=k:=by
      intro Z8;rw [Z8] at g;simp [pickB] at g
     refine ⟨_,⟨by rw [ht];exact Int.natCast_nonneg _,by rw [ht];exact aD rQ⟩,?_⟩;refine br ?_ ?_<;>intro g0
     ·have g0:z=0:=by
       have:((z:Nat):Int)=0:=by simpa [pickB] using g0
       omega
      have hAf:A=false:=by
       rw [hA]
       cases ho:np D k es 0 with
       | false=>simp [c1]
       | true=>exact (kH.1 ho c x hx (by omega) (by rw [yC,g0])).elim
      rw [VI hAf];exact (rfl:_=_)
     ·have g0:¬ z=0:=by
       intro hz0;rw [hz0] at g0;simp [pickB] at g0
      exact ⟨HQ PC ND D K sz ot p l ⟨i,⟨ag,aS,lo,hi,most,af,es⟩,k,⟨sk,sn,ss⟩⟩ e (c + 1),(ap 1 rfl (na (aF kN (by omega))) rfl rfl rfl (cX (aF kN (by omega)))),es.length - (c + 1),by omega,c + 1,rfl,by omega,AU (fun _=>by rw [yC];simp [g0]),rfl⟩
    ·have gn:c=k:=by
      have:(c:Int)=k:=by simpa [pickB] using g
      omega
     exact ⟨HQ PC ND D K sz ot p l ⟨i,⟨ag,aS,lo,hi,most,af,es⟩,k,⟨sk,sn,ss⟩⟩ e (c + 1),(ap 1 rfl (na (aF kN (by omega))) rfl rfl rfl (cX (aF kN (by omega)))),es.length - (c + 1),by omega,c + 1,rfl,by omega,AU (fun _=>by simp [gn]),rfl⟩
   ·have c1:¬ sk=1:=sU c1;exact rE ⟨_,by omega,c + 1,rfl,by omega,AU (fun h=>(c1 h).elim),rfl⟩ (ap 1 rfl (na (aF kN (by omega))) rfl rfl rfl (cX (aF kN (by omega))))
  ·have aM:c=es.length:=sW bA kx;subst aM;rw [List.take_length] at nj
   have hAt:A=true:=by
    rw [hA];by_cases h1:sk=1
    ·simp [h1,nj h1]
    ·simp [h1,c3]
   exact rE ⟨_,by omega,e + 1,rfl,by omega,kM hAt,rfl⟩ (ap 0 rfl (na eE) rfl rfl rfl (cX eE))
 ·have aM:e=p.length:=sW lE hL;subst aM;rw [<- xc,List.take_length] at o0;rw [o0];exact (rfl:_=_)
end Go.Proofs.YtadhpeooehkklaaGreat
