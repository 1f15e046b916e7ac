/- Part 7 of the proof: A region that draws its order, run by a schedule: at each point all that may come and has an effect is tried; Regions that draw their order, in which two new objects may come in either order; Sample: make1: all sizes; Rules for the evaluator: calls that hand back fresh rows; Rules for the evaluator: elements of rows whose cells nobody else knows, read and written whole; Rules for the evaluator: a slice literal without elements, its cells known; Rules for the evaluator: a slice literal, its cells known; A contract that hands back a fresh row is one of data alone, too; Paths of a value: plain; tree.steps; Where steps lead in a value, and that value with another one there: plain; tree: slices.Index of steps, kid, clone, Get; tree: put, Set; Sample: one: first values; Sample: two: second values; Sample: fits, First, Second; no plan; A lattice, as its readers know it; Leq; joins are the document's; Where steps lead in a plan, and how places are seen, plain; The first edge of a name; Values along paths: what stands beside, what is alive, the value itself: plain; The document's Bottom, Right of paths; the program's Right of paths; Where steps lead: the document's Edge, Walk; the program's; The program's way along steps: fits, step, Walk; Sample: what stands beside, the nodes and edges of a path, what is alive; With which schemas nothing is wrong: the document's Wrong of chapters 20, 21; the law's fine; Which levels see a place: the program's Who; Sample: the nodes and edges of a path, what is alive. No condition. -/
import Derived.Test.YtadhpeooehkklaaGreatMg2
import Derived.Test.YtadhpeooehkklaaGreatMg4
import Derived.Test.YtadhpeooehkklaaGreatMg5
import Derived.Test.YtadhpeooehkklaaGreatMg6
set_option linter.all false
namespace Go.Proofs.YtadhpeooehkklaaGreat
namespace Dv
open Go Go.RowKit
inductive kT
 | fin
 | op (i:Nat) (t:kT)
 | ev (i:Nat) (t alt:kT)
 | stop
section
variable {P:Program} {ops:Array Oper} {C:World->Prop} {Q:Act->World->Prop} {W:Nat->Bool}
def rdy (ops:Array Oper) (rem:List Nat) (i:Nat):Bool:=
 match ops[i]? with
 | some o=>o.after.toList.all fun e=>!Region.binds .any e || !rem.contains e.on
 | none=>false
def Rt (ops:Array Oper) (i:Nat):Bool:=match ops[i]? with | some o=>gq o.op | none=>false
def chkA (ops:Array Oper):kT->List Nat->Option (List Nat)->Bool
 | .fin,rem,m=>m.isNone && rem.isEmpty
 | .op i t,rem,m=>m.isNone && (rem.contains i && (!Rt ops i && (rdy ops rem i && chkA ops t (rem.erase i) none)))
 | .ev i t alt,rem,m=>rem.contains i && (Rt ops i && (rdy ops rem i && (chkA ops t (rem.erase i) none && chkA ops alt rem (some (i :: m.getD [])))))
 | .stop,rem,m=>match m with
  | some seen=>rem.all fun j=>!rdy ops rem j || seen.contains j
  | none=>false
def CK (ops:Array Oper) (W:Nat->Bool):Bool:=
 (List.range ops.size).all fun i=>(List.range ops.size).all fun j=>
  Nat.beq i j || ordB ops ops.size i j || ordB ops ops.size j i || (Rt ops i && Rt ops j) || (fK ops W j i && fK ops W i j)
def runS (P:Program) (ops:Array Oper) (W:Nat->Bool) (C:World->Prop) (Q:Act->World->Prop):kT->Act->World->Prop
 | .fin,a,w=>Q a w
 | .op i t,a,w=>∃ o,ops[i]? = some o/\∃ v,Yl P ops C o v a/\(j7 o.op=true->C w)/\runS P ops W C Q t (a.put o.dst v) w
 | .ev i t alt,a,w=>(∃ o,ops[i]? = some o/\dP P ops o a w fun a' w'=>(W i=false->C w->C w')/\runS P ops W C Q t a' w')/\runS P ops W C Q alt a w
 | .stop,_,_=>True
def Ru (P:Program) (ops:Array Oper) (W:Nat->Bool) (C:World->Prop) (Q:Act->World->Prop) (rem:List Nat) (a:Act) (w:World):Prop:=∃ T,chkA ops T rem none=true/\runS P ops W C Q T a w
def Cl (ops:Array Oper) (rem:List Nat):Prop:=∀ (k:Nat) o,ops[k]? = some o->k ∉ rem->∀ e∈o.after,Region.binds .any e=true->e.on ∉ rem
theorem mc {rem:List Nat} {i:Nat} (h:rdy ops rem i=true):∃ o,ops[i]? = some o/\∀ e∈o.after,Region.binds .any e=true->e.on ∉ rem:=by
 unfold rdy at h;split at h
 ·rename_i o ho;refine ⟨o,ho,fun e he hb=>?_⟩;have:=List.all_eq_true.1 h e (sU he);rw [hb] at this;simpa using this
 ·cases h
theorem pe {rem:List Nat} {i j:Nat} (h:rdy ops rem i=true):rdy ops (rem.erase j) i=true:=by
 obtain ⟨o,ho,ha⟩:=mc h;unfold rdy;rw [ho];simp only [List.all_eq_true,Bool.or_eq_true,Bool.not_eq_true'];intro e he;cases hb:Region.binds .any e
 ·exact .inl rfl
 ·right;have:=ha e (sU he) hb;simp only [List.contains_eq_mem,decide_eq_false_iff_not];exact fun hm=>this (List.mem_of_mem_erase hm)
theorem yx {rem:List Nat} (hn:rem.Nodup) (hc:Cl ops rem) {i:Nat} (h:rdy ops rem i=true):Cl ops (rem.erase i):=by
 intro k o ho hk e he hb hm;have lQ:=List.mem_of_mem_erase hm;by_cases kA:k=i
 ·subst kA;obtain ⟨o',Bw,ha⟩:=mc h;rw [ho] at Bw;simp only [oI] at Bw;subst Bw;exact ha e he hb lQ
 ·exact hc k o ho (fun hkm=>hk ((List.mem_erase_of_ne kA).2 hkm)) e he hb lQ
theorem HV {rem:List Nat} (hc:Cl ops rem):∀ (n:Nat) (j k:Nat) o,ops[k]? = some o->(∀ e∈o.after,Region.binds .any e=true->e.on ∉ rem)->ordB ops n j k=true->j ∉ rem
 | 0,j,k,o,_,_,h=>by simp [ordB] at h
 | n + 1,j,k,o,ho,fG,h=>by
  simp only [ordB,ho,List.any_eq_true,aP,Bool.or_eq_true] at h;obtain ⟨e,he,hb,hj⟩:=h;have pT:e∈o.after:=sU he;have h1:=fG e pT hb;rcases hj with hj | hj
  ·have:e.on=j:=sU hj;rw [<- this];exact h1
  ·cases P5:ops[e.on]? with
   | none=>
    cases n with
    | zero=>simp [ordB] at hj
    | succ n=>simp [ordB,P5] at hj
   | some o'=>exact HV hc n j e.on o' P5 (hc e.on o' P5 h1) hj
theorem Fg {rem:List Nat} (hP:CK ops W=true) (hc:Cl ops rem) {i j:Nat} (hi:rdy ops rem i=true) (hj:rdy ops rem j=true) (ml:i∈rem) (vt:j∈rem) (jB:i≠j) (T1:Rt ops i=false∨Rt ops j=false):fK ops W j i=true:=by
 obtain ⟨o,ho,ha⟩:=mc hi;obtain ⟨o',Bw,ha'⟩:=mc hj;simp only [CK,List.all_eq_true,List.mem_range] at hP;have h1:=hP i (Array.getElem?_eq_some_iff.1 ho).1 j (Array.getElem?_eq_some_iff.1 Bw).1;simp only [Bool.or_eq_true,aP,Nat.beq_eq] at h1;rcases h1 with (((h1 | h1) | h1) | h1) | h1
 ·exact (jB h1).elim
 ·exact (HV hc _ _ _ o' Bw ha' h1 ml).elim
 ·exact (HV hc _ _ _ o ho ha h1 vt).elim
 ·rcases T1 with h | h
  ·rw [h] at h1;simp at h1
  ·rw [h] at h1;simp at h1
 ·exact h1.1
theorem CL {i:Nat} {o:Oper} (h:ops[i]? = some o):Rt ops i=gq o.op:=by unfold Rt;rw [h]
theorem A7 (dy:∀ (j:Nat) (o:Oper) cs b,ops[j]? = some o->o.op ≠ .select cs b) (hP:CK ops W=true) {i:Nat} {o:Oper} (hi:ops[i]? = some o) (hE:gq o.op=false) :
  ∀ (T:kT) (rem:List Nat) (a:Act) (w:World),rem.Nodup->Cl ops rem->chkA ops T rem none=true->runS P ops W C Q T a w->i∈rem->rdy ops rem i=true ->
   ∃ v,Yl P ops C o v a/\(j7 o.op=true->C w)/\Ru P ops W C Q (rem.erase i) (a.put o.dst v) w
 | .fin,rem,a,w,_,_,hc,_,ml,_=>by
  simp only [chkA,aP,List.isEmpty_iff] at hc;rw [hc.2] at ml;cases ml
 | .stop,rem,a,w,_,_,hc,_,_,_=>by simp [chkA] at hc
 | .ev j t alt,rem,a,w,hn,eS,hc,hr,ml,OO=>by
  exfalso
  have key:∀ (T:kT) (seen:List Nat),(∀ k∈seen,Rt ops k=true)->chkA ops T rem (some seen)=true->False:=by
   intro T
   induction T with
   | fin=>intro seen _ h;simp [chkA] at h
   | op=>intro seen _ h;simp [chkA] at h
   | ev k t alt _ ih=>
    intro seen hs h;simp only [chkA,aP,Option.getD_some] at h
    exact ih (k :: seen) (fun q hq=>by
     rcases bI hq with rfl | hq
     ·exact h.2.1
     ·exact hs q hq) h.2.2.2.2
   | stop=>
    intro seen hs h;simp only [chkA,List.all_eq_true,Bool.or_eq_true,Bool.not_eq_true'] at h;rcases h i ml with h1 | h1
    ·rw [OO] at h1;cases h1
    ·have:=hs i (sU h1);rw [CL hi,hE] at this;cases this
  simp only [chkA,aP,Option.getD_none] at hc;exact key alt [j] (fun k hk=>by rw [List.mem_singleton] at hk;rw [hk];exact hc.2.1) hc.2.2.2.2
 | .op j t,rem,a,w,hn,eS,hc,hr,ml,OO=>by
  simp only [chkA,aP,Bool.not_eq_true'] at hc;obtain ⟨_,vt,LD,VN,Ly⟩:=hc;have vt:j∈rem:=sU vt;simp only [runS] at hr;obtain ⟨y,hy,v,Is,hyc,yV⟩:=hr;by_cases jB:i=j
  ·subst jB;rw [hi] at hy;simp only [oI] at hy;subst hy;exact ⟨v,Is,hyc,t,Ly,yV⟩
  ·have tZ:=Fg hP eS OO VN ml vt jB (.inr LD);obtain ⟨Gk,Lu,_,_⟩:=eA tZ hy hi;obtain ⟨u,hu,huc,T',hT',Rw⟩:=A7 dy hP hi hE t (rem.erase j) (a.put y.dst v) w (hn.erase j) (yx hn eS VN) Ly yV ((List.mem_erase_of_ne jB).2 ml) (pe OO);have zK:=fun cs b=>dy i o cs b hi;have WA:=fun cs b=>dy j y cs b hy;obtain ⟨_,hdd,_⟩:=Oper.apart_spec Gk;refine ⟨u,(Yl.same Gk zK).1 hu,huc,.op j T',?_,?_⟩
   ·simp only [chkA,aP,Bool.not_eq_true'];refine ⟨rfl,?_,LD,pe VN,?_⟩
    ·simpa using (List.mem_erase_of_ne (Ne.symm jB)).2 vt
    ·rw [List.erase_comm];exact hT'
   ·simp only [runS];refine ⟨y,hy,v,(Yl.same Lu WA).2 Is,hyc,?_⟩;rw [<- Act.put_comm a v u hdd];exact Rw
theorem Fh {e:Nat}:∀ (T:kT) (rem:List Nat) (seen:List Nat) (a:Act) (w:World),chkA ops T rem (some seen)=true->runS P ops W C Q T a w->e∈rem->rdy ops rem e=true->e ∉ seen ->
  ∃ o t,ops[e]? = some o/\chkA ops t (rem.erase e) none=true/\dP P ops o a w fun a' w'=>(W e=false->C w->C w')/\runS P ops W C Q t a' w'
 | .fin,rem,seen,a,w,hc,_,_,_,_=>by simp [chkA] at hc
 | .op _ _,rem,seen,a,w,hc,_,_,_,_=>by simp [chkA] at hc
 | .stop,rem,seen,a,w,hc,_,hm,hr,hs=>by
  simp only [chkA,List.all_eq_true,Bool.or_eq_true,Bool.not_eq_true'] at hc;rcases hc e hm with h | h
  ·rw [hr] at h;cases h
  ·exact (hs (sU h)).elim
 | .ev i t alt,rem,seen,a,w,hc,hr,hm,OO,hs=>by
  simp only [chkA,aP,Option.getD_some] at hc;simp only [runS] at hr;obtain ⟨⟨o,ho,aW⟩,hra⟩:=hr;by_cases yN:i=e
  ·subst yN;exact ⟨o,t,ho,hc.2.2.2.1,aW⟩
  ·exact Fh alt rem (i :: seen) a w hc.2.2.2.2 hra hm OO (fun h=>by
    rcases bI h with h | h
    ·exact yN h.symm
    ·exact hs h)
theorem Ju (dy:∀ (j:Nat) (o:Oper) cs b,ops[j]? = some o->o.op ≠ .select cs b) (hP:CK ops W=true) {i:Nat} {o:Oper} (hi:ops[i]? = some o) (hE:gq o.op=true) :
  ∀ (T:kT) (rem:List Nat) (a:Act) (w:World),rem.Nodup->Cl ops rem->chkA ops T rem none=true->runS P ops W C Q T a w->i∈rem->rdy ops rem i=true ->
   dP P ops o a w (fun a' w'=>(W i=false->C w->C w')/\Ru P ops W C Q (rem.erase i) a' w')
 | .fin,rem,a,w,_,_,hc,_,ml,_=>by
  simp only [chkA,aP,List.isEmpty_iff] at hc;rw [hc.2] at ml;cases ml
 | .stop,rem,a,w,_,_,hc,_,_,_=>by simp [chkA] at hc
 | .ev j t alt,rem,a,w,hn,eS,hc,hr,ml,OO=>by
  simp only [chkA,aP,Option.getD_none] at hc;simp only [runS] at hr;obtain ⟨⟨y,hy,aW⟩,hra⟩:=hr;by_cases jB:i=j
  ·subst jB;rw [hi] at hy;simp only [oI] at hy;subst hy;exact cI (fun a' w' h=>⟨h.1,t,hc.2.2.2.1,h.2⟩) aW
  ·obtain ⟨o',t',Bw,Ly,hs⟩:=Fh alt rem [j] a w hc.2.2.2.2 hra ml OO (sU jB);rw [hi] at Bw;simp only [oI] at Bw;subst Bw;exact cI (fun a' w' h=>⟨h.1,t',Ly,h.2⟩) hs
 | .op j t,rem,a,w,hn,eS,hc,hr,ml,OO=>by
  simp only [chkA,aP,Bool.not_eq_true'] at hc;obtain ⟨_,vt,LD,VN,Ly⟩:=hc;have vt:j∈rem:=sU vt;simp only [runS] at hr;obtain ⟨y,hy,v,Is,hyc,yV⟩:=hr
  have jB:i≠j:=by
   rintro rfl;rw [CL hi,hE] at LD;cases LD
  have tZ:=Fg hP eS OO VN ml vt jB (.inr LD);obtain ⟨Gk,Lu,_,W3⟩:=eA tZ hy hi;have zK:=fun cs b=>dy i o cs b hi;have WA:=fun cs b=>dy j y cs b hy;have ih:=Ju dy hP hi hE t (rem.erase j) (a.put y.dst v) w (hn.erase j) (yx hn eS VN) Ly yV ((List.mem_erase_of_ne jB).2 ml) (pe OO);refine cI ?_ (ji ((ki Gk zK).1 ih));rintro a' w' ⟨⟨oM,T',hT',Rw⟩,u,rfl⟩;refine ⟨oM,.op j T',?_,?_⟩
  ·simp only [chkA,aP,Bool.not_eq_true'];refine ⟨rfl,?_,LD,pe VN,?_⟩
   ·simpa using (List.mem_erase_of_ne (Ne.symm jB)).2 vt
   ·rw [List.erase_comm];exact hT'
  ·simp only [runS];refine ⟨y,hy,v,(Yl.same (u:=u) Lu WA).2 Is,fun hL=>?_,Rw⟩
   have W4:W i=false:=by
    cases hw:W i
    ·rfl
    ·exact (W3 ⟨hL,hw⟩).elim
   exact oM W4 (hyc hL)
theorem Fi {Q':Exit->Act->World->Prop} (dy:∀ (j:Nat) (o:Oper) cs b,ops[j]? = some o->o.op ≠ .select cs b) (hP:CK ops W=true) (hb:∀ (i:Nat) (o:Oper),ops[i]? = some o->∀ e∈o.after,Region.binds .any e=true->e.on < ops.size)
  (hQ:∀ a w,Q a w->Q' .normal a w):∀ (iQ:Nat) (listed:Array Bool) (rem:List Nat) (a:Act) (w:World),
  listed.size=ops.size->(∀ i,i∈rem↔i < ops.size/\listed.getD i true=false)->rem.Nodup->Cl ops rem->rem.length<=iQ->Ru P ops W C Q rem a w->wpAny P .any ops Q' iQ listed a w:=by
 have Rx:∀ (listed:Array Bool) (rem:List Nat),listed.size=ops.size->(∀ i,i∈rem↔i < ops.size/\listed.getD i true=false)->∀ i,i∈Region.ready .any ops listed↔i∈rem/\rdy ops rem i=true:=by
  intro listed rem bQ iy i
  have hl:∀ k,k < ops.size->(listed.getD k false=true↔k ∉ rem):=fun k hk=>by
   have eX:k < listed.size:=by rw [bQ];exact hk
   rw [iy k];simp [hk,eX]
  rw [mem_ready];constructor
  ·rintro ⟨h1,o,ho,h2⟩;have hi:=(Array.getElem?_eq_some_iff.1 ho).1;refine ⟨(iy i).2 ⟨hi,h1⟩,?_⟩;unfold rdy;rw [ho];simp only [List.all_eq_true,Bool.or_eq_true,Bool.not_eq_true'];intro e he;cases qV:Region.binds .any e
   ·exact .inl rfl
   ·right;have pT:e∈o.after:=sU he;simp only [List.contains_eq_mem,decide_eq_false_iff_not];exact (hl _ (hb i o ho e pT qV)).1 (h2 e pT qV)
  ·rintro ⟨h1,h2⟩;obtain ⟨o,ho,h3⟩:=mc h2;exact ⟨((iy i).1 h1).2,o,ho,fun e he qV=>(hl _ (hb i o ho e he qV)).2 (h3 e he qV)⟩
 intro iQ
 induction iQ with
 | zero=>
  intro listed rem a w bQ iy hn eS hlen hr;have:rem=[]:=List.length_eq_zero_iff.1 (by omega);subst this;obtain ⟨T,hT,Rw⟩:=hr;refine ⟨?_,hQ _ _ ?_⟩
  ·rw [List.eq_nil_iff_forall_not_mem];intro i hi;cases ((Rx listed [] bQ iy i).1 hi).1
  ·cases T with
   | fin=>exact Rw
   | op i t=>simp [chkA] at hT
   | ev i t alt=>simp [chkA] at hT
   | stop=>simp [chkA] at hT
 | succ iQ ih=>
  intro listed rem a w bQ iy hn eS hlen hr;obtain ⟨T,hT,Rw⟩:=hr;refine ⟨fun h0=>?_,fun i hi=>?_⟩
  ·cases T with
   | fin=>exact hQ _ _ Rw
   | op i t=>
    exfalso;simp only [chkA,aP] at hT;have:=(Rx listed rem bQ iy i).2 ⟨by simpa using hT.2.1,hT.2.2.2.1⟩;rw [h0] at this;cases this
   | ev i t alt=>
    exfalso;simp only [chkA,aP] at hT;have:=(Rx listed rem bQ iy i).2 ⟨by simpa using hT.1,hT.2.2.1⟩;rw [h0] at this;cases this
   | stop=>simp [chkA] at hT
  ·obtain ⟨ml,hir⟩:=(Rx listed rem bQ iy i).1 hi;obtain ⟨o,ho,_⟩:=mc hir;have eQ:=(Array.getElem?_eq_some_iff.1 ho).1
   have zN:∀ k,k∈rem.erase i↔k < ops.size/\(listed.setIfInBounds i true).getD k true=false:=by
    intro k;rw [List.Nodup.mem_erase_iff hn];by_cases kA:k=i
    ·subst kA;simp [bQ,eQ]
    ·rw [getD_set_ne true (Ne.symm kA)];simp only [ne_eq,kA,not_false_eq_true,true_and];exact iy k
   have A8:∀ a' w',Ru P ops W C Q (rem.erase i) a' w' -> wpAny P .any ops Q' iQ (listed.setIfInBounds i true) a' w':=fun a' w' h=>
    ih _ (rem.erase i) a' w' (by simp [bQ]) zN (hn.erase i) (yx hn eS hir) (by rw [List.length_erase_of_mem ml];have:=List.length_pos_of_mem ml;omega) h
   refine sK ho ?_
   cases hE:gq o.op with
   | true=>exact cI (fun a' w' h=>A8 a' w' h.2) (Ju dy hP ho hE T rem a w hn eS hT Rw ml hir)
   | false=>
    obtain ⟨v,hy,hc,h⟩:=A7 dy hP ho hE T rem a w hn eS hT Rw ml hir;exact ig hy hc (A8 _ _ h)
end
def goA (X:Ctx) (D:Dr):kT->Bool->List (Nat × Sl)->St->Prop
 | .fin,_,_,st=>go X 4000 D.k st
 | .op i t,c,s0,st=>
  match D.ops.toList[i]? with
  | some o=>goD X ⟨D.ops,D.W,D.k,D.iC,some (goA X D t)⟩ 3000 c [(i,o)] s0 st
  | none=>False
 | .ev i t alt,c,s0,st=>
  (match D.ops.toList[i]? with
  | some o=>goD X ⟨D.ops,D.W,D.k,D.iC,some (goA X D t)⟩ 3000 c [(i,o)] s0 st
  | none=>False)/\goA X D alt c s0 st
 | .stop,_,_,_=>True
def K4 (ops:Array Oper):Bool:=Region.noSelect ops && (List.range ops.size).all fun i=>match ops[i]? with | some o=>o.after.toList.all fun e=>!Region.binds .any e || Nat.blt e.on ops.size | none=>true
section
variable {X:Ctx} {D:Dw}
theorem A9 (hD:sH D.E0 D.d.iC.bx D.wr) (hf:D.d.fin=none):∀ (T:kT) (rem:List Nat) m,chkA D.d.ops T rem m=true->∀ c s0 st,goA X D.d T c s0 st->∀ E a w,fL X D c E s0 st a w->runS X.P D.d.ops D.d.W D.C (D.Q X) T a w:=by
 intro T
 have cu:∀ (t:kT) (i:Nat) (o:Oper),D.d.ops[i]? = some o->(∀ c s0 st,goA X D.d t c s0 st->∀ E a w,fL X D c E s0 st a w->runS X.P D.d.ops D.d.W D.C (D.Q X) t a w)->∀ c s0 st,goD X ⟨D.d.ops,D.d.W,D.d.k,D.d.iC,some (goA X D.d t)⟩ 3000 c [(i,o)] s0 st->∀ E a w,fL X D c E s0 st a w ->
   runT X.P D.d.ops D.d.W D.C (fun a w=>runS X.P D.d.ops D.d.W D.C (D.Q X) t a w) [i] a w:=fun t i o ho ih c s0 st hg E a w h=>by
  have h1:=eH (D:=⟨⟨D.d.ops,D.d.W,D.d.k,D.d.iC,some (goA X D.d t)⟩,D.E0,D.wr⟩) hD 3000 c [(i,o)] s0 st hg (fun p hp=>by
   rw [List.mem_singleton] at hp;rw [hp]
   exact ho) E a w ⟨h.rel,h.x,h.β,h.t0,h.cc⟩
  refine lT ?_ h1;rintro a w ⟨c,E,s0,st,h2,h3⟩;exact ih c s0 st h3 E a w ⟨h2.rel,h2.x,h2.β,h2.t0,h2.cc⟩
 induction T with
 | fin=>
  intro rem m _ c s0 st hg E a w h;show D.Q X a w;unfold Dw.Q;rw [hf];exact go_sound 4000 _ _ hg E a w h.rel
 | stop=>intro rem m _ c s0 st hg E a w h;exact trivial
 | op i t ih=>
  intro rem m hc c s0 st hg E a w h;simp only [chkA,aP,Bool.not_eq_true'] at hc;simp only [goA] at hg;split at hg
  ·rename_i o ho;have ho:D.d.ops[i]? = some o:=sU ho;have h4:=cu t i o ho (ih _ _ hc.2.2.2.2) c s0 st hg E a w h;have hE:gq o.op=false:=by rw [<- CL ho];exact hc.2.2.1
   simp only [runT,ho,hE,Bool.false_eq_true,if_false] at h4;exact ⟨o,ho,h4⟩
  ·exact hg.elim
 | ev i t alt ih1 Tq=>
  intro rem m hc c s0 st hg E a w h;simp only [chkA,aP] at hc;obtain ⟨hg,Py⟩:=hg;refine ⟨?_,Tq _ _ hc.2.2.2.2 c s0 st Py E a w h⟩;split at hg
  ·rename_i o ho;have ho:D.d.ops[i]? = some o:=sU ho;have h4:=cu t i o ho (ih1 _ _ hc.2.2.2.1) c s0 st hg E a w h;have hE:gq o.op=true:=by rw [<- CL ho];exact hc.2.1
   simp only [runT,ho,hE,if_true] at h4;exact ⟨o,ho,h4⟩
  ·exact hg.elim
end
end Dv
end Go.Proofs.YtadhpeooehkklaaGreat
set_option maxRecDepth 100000
namespace Go.Proofs.YtadhpeooehkklaaGreat
open Go Go.RowKit
namespace Dv
section
variable {X:Ctx} {st:St}
theorem uY {i j:Nat} {s S:St} (h:cY s (dX i j S):=by refine (⟨rfl,rfl,?_⟩:_/\_/\_);repeat' (first | exact trivial | refine ⟨rfl,?_⟩)):(s=S∨cY s S)∨cY s (dX i j S):=.inr h
theorem Ry {id:Nat} {ops:Array Oper} {k:List It} (W:Nat->Bool) (T:kT) (i j:Nat) (hm:X.P.follows .mixedOrders=true) (hc:(K4 ops && CK ops W && chkA ops T (List.range ops.size) none)=true) (S:St)
  (h:goA X ⟨ops,W,[.rZ fun s=>(s=S∨cY s S)∨cY s (dX i j S)],st,none⟩ T true st.sl st) (jB:(Nat.ble X.n0 i && Nat.ble X.n0 j && Nat.blt i S.bx.length && Nat.blt j S.bx.length)=true) (hk:go X 4000 k S) (hX:X.bt=[]:=by exact rfl):lO X id ops k st:=by
 intro E a w hr;have iw:=jF hr;simp only [aP] at hc;simp only [aP,Nat.ble_eq,Nat.blt_eq] at jB;obtain ⟨⟨hN,hP⟩,hT⟩:=hc;simp only [K4,aP,List.all_eq_true,List.mem_range] at hN;have hs:=kG iw (ops:=ops) (W:=W) (k:=[.rZ fun s=>(s=S∨cY s S)∨cY s (dX i j S)]);have cv:=A9 (D:=⟨⟨ops,W,[.rZ fun s=>(s=S∨cY s S)∨cY s (dX i j S)],st,none⟩,E,w.drew⟩) iw.env.em rfl T _ _ hT true st.sl st h E a w.drew hs;refine wp_region_any hm ?_;refine Fi (C:=CC E st.bx w.drew) (Q:=kq X [.rZ fun s=>(s=S∨cY s S)∨cY s (dX i j S)] .normal) (Region.noSelect_spec hN.1) hP (fun i o ho e he hb=>?_) (fun a w hq=>?_) ops.size (Array.replicate ops.size false) (List.range ops.size) a _ (by simp) ?_ List.nodup_range ?_ (by simp) ⟨T,hT,cv⟩
 ·have h1:=hN.2 i (Array.getElem?_eq_some_iff.1 ho).1;rw [ho] at h1;have h2:=List.all_eq_true.1 h1 e (sU he);rw [hb] at h2;simpa using h2
 ·obtain ⟨qC,E1,ch,hJ⟩:=hq;rcases hJ with (rfl | hJ) | hJ
  ·exact go_sound 4000 _ _ hk E1 a w ch
  ·exact go_sound 4000 _ _ hk E1 a w (nW ch hJ)
  ·obtain ⟨E2,nV⟩:=vf hX (nW ch hJ) jB.1.1.1 jB.1.1.2 jB.1.2 jB.2;exact go_sound 4000 _ _ hk E2 a w nV
 ·intro i;simp only [List.mem_range];constructor
  ·intro hi;exact ⟨hi,by simp [hi]⟩
  ·intro hi;exact hi.1
 ·intro k o ho hk;exact (hk (List.mem_range.2 (Array.getElem?_eq_some_iff.1 ho).1)).elim
theorem OP {id:Nat} {ops:Array Oper} {k:List It} (T:kT) (i j:Nat) (hm:X.P.follows .mixedOrders=true) (hc:(K4 ops && CK ops (Ma ops) && chkA ops T (List.range ops.size) none)=true) (S:St)
  (h:goA X ⟨ops,Ma ops,[.rZ fun s=>(s=S∨cY s S)∨cY s (dX i j S)],st,none⟩ T true st.sl st) (jB:(Nat.ble X.n0 i && Nat.ble X.n0 j && Nat.blt i S.bx.length && Nat.blt j S.bx.length)=true) (hk:go X 4000 k S) (hX:X.bt=[]:=by exact rfl):lO X id ops k st:=
 Ry (Ma ops) T i j hm hc S h jB hk hX
end
end Dv
end Go.Proofs.YtadhpeooehkklaaGreat
set_option maxRecDepth 100000
namespace Go.Proofs.YtadhpeooehkklaaGreat
open Go Go.RowKit Dv Go.Proofs.Tryz
theorem Rz (f:Nat->Nat) (l:List Nat):renL f (cN l)=cN l:=by
 induction l with
 | nil=>rfl
 | cons z r ih=>exact congrArg (DV.v (.int .i64 (z:Int)) :: ·) ih
theorem vE (f:Nat->Nat) (n:Nat):renL f (List.replicate n (vL [Value.int .i64 0])).flatten=(List.replicate n (vL [Value.int .i64 0])).flatten:=by rw [uZ];exact Rz f _
theorem qu {α:Type} {p:α->Bool}:∀ {l:List α} {c:Nat},(∀ i x,l[i]? = some x->p x=true->i=c)->l.countP p<=1
 | [],_,_=>Nat.zero_le _
 | x :: r,c,h=>by
  rw [List.countP_cons];by_cases hx:p x=true
  ·have h0:=h 0 x rfl hx
   have:r.countP p=0:=List.countP_eq_zero.2 fun y hy hp=>by
    obtain ⟨i,hi,rfl⟩:=List.getElem_of_mem hy;have:=h (i + 1) r[i] (by simp [hi]) hp;omega
   rw [this,ai hx];exact aR _
  ·rw [ah hx];exact qu (c:=c - 1) fun i y hy hp=>by have:=h (i + 1) y (sU hy) hp;omega
theorem yy {L N:Nat} {n:Nd} {D:List Nat} {K:List Bool} (hn:cK L N n) (h:eN n D K=true):Fe D K n:=by
 have KW:∀ {x:Ed},zl D K x=true->ed D x=true/\x.bare=false/\K.getD x.to.toNat false=true:=fun {x} h=>by
  unfold zl at h;simp only [aP,Bool.not_eq_true'] at h;exact ⟨h.1,h.2.1,h.2.2⟩
 refine ⟨fun h7=>?_,fun h8 ht=>?_⟩
 ·simp only [eN,h7] at h;simp at h;obtain ⟨x,hx,RA⟩:=List.any_eq_true.1 h.1;obtain ⟨_,hb,hK⟩:=KW RA;obtain ⟨j,hj,rfl⟩:=List.getElem_of_mem hx
  cases hc:ym K n.ak with
  | none=>
   have:=cr hc j hj;unfold E6 at this;rw [gE hj] at this;simp only at this;rw [hK] at this;cases this
  | some c=>
   have eS:=(cJ hc).1;refine ⟨c,_,rfl,gE eS,?_⟩
   cases hb:n.ak[c].bare with
   | false=>rfl
   | true=>have:=hn.bare _ (List.getElem_mem eS) hb;omega
 ·have cu:∀ {i x},n.ak[i]? = some x->ed D x=true->bD D n.ak=some i:=fun hx h=>K1 ht hx h
  have yc:manyN D n.ak<=1:=by
   cases hc:bD D n.ak with
   | none=>exact qu (c:=0) fun i x hx hp=>by rw [cu hx hp] at hc;cases hc
   | some c=>exact qu (c:=c) fun i x hx hp=>by rw [cu hx hp] at hc;exact Option.some.inj hc
  simp only [eN,h8] at h;simp at h;rcases h with h | h
  ·obtain ⟨x,hx,RA⟩:=List.any_eq_true.1 h;obtain ⟨h1,hb,_⟩:=KW RA;obtain ⟨j,hj,rfl⟩:=List.getElem_of_mem hx;exact ⟨j,_,cu (gE hj) h1,gE hj,hb⟩
  ·omega
theorem OQ {l:List Nat} {i v:Nat} (hi:i < l.length) (h0:l.getD i 0=0) (hv:v≠0):rO l < rO (l.set i v):=by
 have dG:F4 l (l.set i v):=fun j hj=>by rw [fp hi,ah (fun h=>by subst h;exact hj h0)]
 rcases (rP List.length_set.symm dG).1 with h | h
 ·have h1:(l.set i v).getD i 0=v:=by rw [fp hi,ai rfl]
  rw [<- h,h0] at h1;exact (hv h1.symm).elim
 ·exact h
theorem Fj {kf:Nat->Option (Nat × Option Nat)} (hk:∀ i k,kf i=some k->k.1<=4097) {t:List Nat} (h:zo kf t):∀ z∈t,z<=4097:=fun z hz=>by
 obtain ⟨i,hi,rfl⟩:=List.getElem_of_mem hz;by_cases h0:t[i]=0
 ·omega
 ·have hg:t.getD i 0=t[i]:=by rw [aF,gE hi];all_goals rfl
  obtain ⟨k,jU,hv⟩:=h i (by rw [hg];exact h0);rw [<- hg,hv];unfold othE;split
  ·exact hk i k jU
  ·split
   ·omega
   ·exact fF _
theorem yz (sz D:List Nat) (K:List Bool) (ND:List Nd):∀ i k,othK sz D K ND i=some k->k.1<=4097:=fun i k h=>by
 unfold othK at h;split at h
 ·split at h
  ·cases h;exact (E7 _ _ _ _).2
  ·cases h
 ·cases h
section
variable (PC:List DV) (ND:List Nd) (D:List Nat) (K:List Bool)
abbrev mk0 (e:Nat):List DV:=[.pt PC 0,.sl 7 (bq (ND.take e)) (some 0),.sl 1 (dInts D) none,.sl 1 (qD K) none,.v (.slice none 0 0),.v (.slice none 0 0)]
abbrev aab (m e:Nat):St:=
 ⟨[(0,⟨[],.pt PC 0⟩),(3,⟨[],.loc 0 0⟩),(4,⟨[],.v (.int .i64 m)⟩),(22,⟨[],.v (.int .i64 ND.length)⟩),(23,⟨[],.v (.int .i64 e)⟩)],[mk0 PC ND D K e],[⟨e,105,7,none⟩]⟩
abbrev mkO:List DV:=[.pt PC 0,.sl 7 (bq ND) (some 0),.sl 1 (dInts D) none,.sl 1 (qD K) none,.ms 1 1 0 ND.length ND.length,.ms 2 1 0 ND.length ND.length]
theorem OR {t o:List Nat} {bx:List (List DV)} (ht:t.length=ND.length) (ho:o.length=ND.length) (h1:bx[1]? = some (cN t)) (h2:bx[2]? = some (cN o)):CcL bx 0 0 0 (ng PC ND D K t o) (mkO PC ND D K):=
 ⟨_,_,rfl,ax,_,_,rfl,ax,_,_,rfl,ax,_,_,rfl,ax,_,_,rfl,CA ht (Nat.zero_le _) h1,_,_,rfl,CA ho (Nat.zero_le _) h2,rfl⟩
abbrev mkT:List TkE:=[⟨ND.length,105,7,none⟩]
abbrev aae (m d:Nat) (t o:List Nat):St:=
 ⟨[(0,⟨[],.pt PC 0⟩),(3,⟨[],.loc 0 0⟩),(65,⟨[],.v (.int .i64 (m + 1:Nat))⟩),(66,⟨[],.v (.int .i64 d)⟩)],[mkO PC ND D K,cN t,cN o],mkT ND⟩
abbrev aaf (m d:Nat) (t o:List Nat) (e:Nat):St:=
 ⟨[(0,⟨[],.pt PC 0⟩),(3,⟨[],.loc 0 0⟩),(65,⟨[],.v (.int .i64 (m + 1:Nat))⟩),(66,⟨[],.v (.int .i64 d)⟩),(8,⟨[],.v (.int .i64 d)⟩),(72,⟨[],.sl 7 (bq ND) (some 0)⟩),(73,⟨[],.v (.int .i64 (bq ND).length)⟩),(74,⟨[],.v (.int .i64 e)⟩)],[mkO PC ND D K,cN t,cN o],mkT ND⟩
def szQ (d e:Nat):List Nat:=if d=0 then szR ND D 0 else szL ND D d e (szR ND D (d - 1))
theorem RB (d e:Nat):(szQ ND D d e).length=ND.length:=by
 unfold szQ;split
 ·exact o8 ND D 0
 ·rw [nh];exact o8 ND D _
theorem OS {d e:Nat} {n:Nd} (hn:ND[e]? = some n):szQ ND D d (e + 1)=if 0 < d/\D.getD e 0=d then (szQ ND D d e).set e (sizeF (szQ ND D d e) D n) else szQ ND D d e:=by
 unfold szQ;by_cases h:d=0
 ·rw [ai h,ai h,ah (by omega)]
 ·rw [ah h,ah h,szL,hn];simp only;by_cases h2:D.getD e 0=d
  ·rw [ai h2,ai ⟨by omega,h2⟩]
  ·rw [ah h2,ah (by omega)]
theorem szQ_end (d:Nat):szQ ND D d ND.length=szR ND D d:=by
 unfold szQ;split
 ·rename_i h;rw [h]
 ·obtain ⟨k,rfl⟩:∃ k,d=k + 1:=⟨d - 1,by omega⟩;rfl
theorem Fk (d:Nat):szQ ND D d 0=szR ND D (d - 1):=by
 unfold szQ;split
 ·rename_i h;rw [h]
 ·rfl
theorem pf:∀ d,∀ z∈szR ND D d,z<=4097:=by
 have key:∀ d e t,(∀ z∈t,z<=4097)->∀ z∈szL ND D d e t,z<=4097:=fun d e t ht=>by
  induction e with
  | zero=>exact ht
  | succ e ih=>
   rw [szL];split
   ·exact ih
   ·split
    ·intro z hz;rcases List.mem_or_eq_of_mem_set hz with h | rfl
     ·exact ih z h
     ·exact (o9 _ _ _).2
    ·exact ih
 intro d
 induction d with
 | zero=>intro z hz;rw [szR] at hz;rw [(List.mem_replicate.1 hz).2];omega
 | succ d ih=>exact key _ _ _ ih
theorem Ba (d e:Nat):∀ z∈szQ ND D d e,z<=4097:=by
 have key:∀ d e t,(∀ z∈t,z<=4097)->∀ z∈szL ND D d e t,z<=4097:=fun d e t ht=>by
  induction e with
  | zero=>exact ht
  | succ e ih=>
   rw [szL];split
   ·exact ih
   ·split
    ·intro z hz;rcases List.mem_or_eq_of_mem_set hz with h | rfl
     ·exact ih z h
     ·exact (o9 _ _ _).2
    ·exact ih
 unfold szQ;split
 ·exact pf ND D 0
 ·exact key _ _ _ (pf ND D _)
abbrev OT (c:Bool) (t o:List Nat):St:=
 ⟨[(0,⟨[],.pt PC 0⟩),(3,⟨[],.loc 0 0⟩),(11,⟨[],.v (.bool c)⟩)],[mkO PC ND D K,cN t,cN o],mkT ND⟩
abbrev Jv (c:Bool) (t o:List Nat) (e:Nat):St:=
 ⟨[(0,⟨[],.pt PC 0⟩),(3,⟨[],.loc 0 0⟩),(11,⟨[],.v (.bool c)⟩),(107,⟨[],.sl 7 (bq ND) (some 0)⟩),(108,⟨[],.v (.int .i64 (bq ND).length)⟩),(109,⟨[],.v (.int .i64 e)⟩)],[mkO PC ND D K,cN t,cN o],mkT ND⟩
set_option maxHeartbeats 4000000 in
theorem qv {S:Sch} (hP:fm S ND PC):aV prog 61 [.pt PC 0] (.pt (ng PC ND (depN ND ND.length) (fo ND (depN ND ND.length)) (ke ND (depN ND ND.length)) (PF (ke ND (depN ND ND.length)) (depN ND ND.length) (fo ND (depN ND ND.length)) ND)) 0):=by
 have h1:=hP.len;have h2:=hP.aq;have fv:=hP.nl;have hd:=uD hP;have vX:=zm hP;have hDO:=gd ND;have WB:=hDO.len;generalize depN ND ND.length=D at hd vX hDO WB ⊢
 have OU:∀ i n,ND[i]? = some n->(fo ND D).getD i false=true->Fe D (fo ND D) n:=fun i n hn h=>by
  rw [<- oB,aF,List.getElem?_map,hn] at h;exact yy (hP.ok n (mG hn)) h
 have VO:(fo ND D).length=ND.length:=iL ND D _;generalize fo ND D=K at vX OU VO ⊢;refine eG 153 [.tmp 2] func61 rfl ntmps61 rfl fun _ _ _ _=>?_;refine cP Sb hd ?_;refine cP XL vX ?_;refine cP DG h1 ?_;refine lI (fun j st=>∃ e m:Nat,st=aab PC ND D K m e/\e<=ND.length/\m<=ND.length/\(∀ i,i < e->D.getD i 0<=m)/\j=ND.length - e) ⟨0,0,rfl,by omega,by omega,fun _ h=>by omega,rfl⟩ (dc 1 ⟨0,105,7,none⟩ rfl rfl rfl pS rfl rfl wB) ?_;rintro j st ⟨e,m,rfl,he,hm,RA,rfl⟩;refine br ?_ ?_<;>intro hL
 ·have ap:e < ND.length:=sU hL;obtain ⟨n,hn⟩:=gX ap;obtain ⟨z,hz⟩:∃ z,D[e]? = some z:=⟨_,gE (by omega)⟩;have Tn:D.getD e 0=z:=by rw [aF,hz];all_goals rfl
  have Ww:=hDO.le e;have dm:(bq (ND.take e)).length=e:=by rw [cw,zLenT];omega
  refine cP Gv (h2 e n hn) ?_;refine dS ?_;refine ⟨dm,⟨by rw [dm];simp [maxLen];omega,by rw [dm];simp;omega⟩,?_⟩;refine iX (aG hz) ?_
  exact rE ⟨_,by omega,e + 1,max m z,rfl,by omega,by omega,fun i hi=>by
   rcases eP hi with h | rfl
   ·have:=RA i h;omega
   ·rw [Tn];omega,rfl⟩ (au 1 rfl (T9 (tF hn) (show max (m:Int) z=((max m z:Nat):Int) by omega) (aJ ap (by omega))) rfl rfl rfl (zI (tF hn) (show max (m:Int) z=((max m z:Nat):Int) by omega) (aJ ap (by omega))))
 ·have aQ:e=ND.length:=by have:=hL;simp at this;omega
  subst aQ;apply OP (.op 0 (.op 1 (.op 2 (.op 5 (.ev 3 (.ev 4 (.ev 6 (.op 8 (.op 9 (.ev 7 (.ev 10 (.op 11 (.op 12 (.ev 13 .fin .stop))) .stop) (.ev 10 (.ev 7 (.op 11 (.op 12 (.ev 13 .fin .stop))) .stop) .stop)))) .stop) (.ev 6 (.ev 4 (.op 8 (.op 9 (.ev 7 (.ev 10 (.op 11 (.op 12 (.ev 13 .fin .stop))) .stop) (.ev 10 (.ev 7 (.op 11 (.op 12 (.ev 13 .fin .stop))) .stop) .stop)))) (.ev 7 (.ev 4 (.op 8 (.op 9 (.ev 10 (.op 11 (.op 12 (.ev 13 .fin .stop))) .stop))) .stop) .stop)) .stop)) .stop))))) 1 2 mo (by decide +kernel);·repeat' (first | refine cD DG h1 ?_ | exact ⟨rfl,by omega,by omega,by omega⟩ | exact Or.inr ⟨congrArg (fun z=>[_,z,z]) (vE _ _).symm,rfl,by repeat' (first | exact trivial | refine ⟨rfl,?_⟩)⟩ | exact trivial | exact Or.inl (Or.inl rfl) | exact Or.inl Z8 | exact uY | refine ⟨?_,?_⟩)
  ·exact (rfl:_=_)
  have G2:(List.replicate (ND.length:Int).toNat (vL [Value.int .i64 0])).flatten=cN (szR ND D 0):=by rw [uZ];all_goals rfl
  refine lJ (fun d=>aae PC ND D K m d (szR ND D (d - 1)) (List.replicate ND.length 0)) (m + 1) (au 3 rfl (by repeat' (first | exact rfl | exact az rfl | exact bW G2 | exact cO (congrArg bq (List.take_length)) rfl | exact aD (wrapN (a:=m) (b:=1) (by omega) (by omega)) | refine ⟨_,_,rfl,?_,?_⟩)) rfl rfl rfl (by repeat' (first | exact trivial | exact az rfl | exact bW G2 | exact cO (congrArg bq (List.take_length)) rfl | exact aD (wrapN (a:=m) (b:=1) (by omega) (by omega)) | refine ⟨⟨_,rfl,?_⟩,?_⟩))) ?_;intro d hdm;refine br ?_ ?_<;>intro hL
  ·have bH:d < m + 1:=by have:=hL;simp at this;omega
   refine lJ (fun e=>aaf PC ND D K m d (szQ ND D d e) (List.replicate ND.length 0) e) ND.length (au 3 rfl (ny (congrArg cN (Fk ND D d).symm)) rfl rfl rfl (dt (congrArg cN (Fk ND D d).symm))) ?_;intro e he;refine br ?_ ?_<;>intro kM
   ·have ap:e < ND.length:=by have:=kM;simp [cw] at this;exact this
    obtain ⟨n,hn⟩:=gX ap;obtain ⟨z,hz⟩:∃ z,D[e]? = some z:=⟨_,gE (by omega)⟩;have Tn:D.getD e 0=z:=by rw [aF,hz];all_goals rfl
    have eT:=OS ND D (d:=d) hn;have HS:=RB ND D d e;have K5:=Ba ND D d e;have iM:=mG hn;have BE:=fun h8=>Fc PC ND D K (szQ ND D d e) (List.replicate ND.length 0) WB HS K5 (hP.ok n iM) (hP.KZ n iM) h8
    have h8:0 < d/\D.getD e 0=d->n.ag=8->∃ c e,bD D n.ak=some c/\n.ak[c]? = some e:=fun h h8=>by
     obtain ⟨c,x,hc,hx,_⟩:=hDO.PE hn (by omega) h8;exact ⟨c,x,hc,hx⟩
    generalize szQ ND D d e=t at eT HS K5 BE;have fq:¬ (0 < d/\D.getD e 0=d)->t=szQ ND D d (e + 1):=fun h=>by rw [eT,ah h]
    have OE:0 < d/\D.getD e 0=d->t.set e (sizeF t D n)=szQ ND D d (e + 1):=fun h=>by rw [eT,ai h]
    refine iX (bZ hn) ?_;refine br ?_ ?_<;>intro c1
    ·have c1:0 < d:=by simpa [lastG] using c1
     refine iX (aG hz) ?_;refine br ?_ ?_<;>intro c2
     ·have c2:D.getD e 0=d:=Decidable.byContradiction fun h=>by simp [lastG,pickB] at c2;omega
      have pP:=OE ⟨c1,c2⟩;have BE:=BE (h8 ⟨c1,c2⟩);refine dS ?_;refine kb XM BE ⟨_,_,rfl,.inr ⟨0,_,rfl,Nat.zero_le _,rfl,OR PC ND D K HS List.length_replicate rfl rfl⟩,_,_,rfl,ax,rfl⟩ rfl rfl ?_;refine ⟨⟨by omega,by omega⟩,?_⟩;refine ⟨by rw [lM];omega,?_⟩
      have aW:(cN t).set (0 + (e:Int).toNat * 1) (DV.v (.int .i64 (sizeF t D n:Nat)))=cN (szQ ND D d (e + 1)):=by
       rw [show 0 + (e:Int).toNat * 1=e by omega,nc,pP]
      exact rE ⟨_,by omega,e + 1,rfl,by omega,rfl⟩ (au 3 rfl (gF aW (aJ ap (by omega))) rfl rfl rfl (wB2 aW (aJ ap (by omega))))
     ·have c2:¬ D.getD e 0=d:=fun h=>by simp [lastG,pickB] at c2;omega
      exact rE ⟨_,by omega,e + 1,rfl,by omega,rfl⟩ (au 3 rfl (gF (congrArg cN (fq (fun h=>c2 h.2))) (aJ ap (by omega))) rfl rfl rfl (wB2 (congrArg cN (fq (fun h=>c2 h.2))) (aJ ap (by omega))))
    ·have c1:¬ 0 < d:=by simpa [lastG] using c1
     exact rE ⟨_,by omega,e + 1,rfl,by omega,rfl⟩ (au 3 rfl (gF (congrArg cN (fq (fun h=>c1 h.1))) (aJ ap (by omega))) rfl rfl rfl (wB2 (congrArg cN (fq (fun h=>c1 h.1))) (aJ ap (by omega))))
   ·have aQ:e=ND.length:=by have:=kM;simp [cw] at this;omega
    subst aQ;exact rE ⟨_,by omega,d + 1,rfl,by omega,rfl⟩ (au 3 rfl (gF (congrArg cN (szQ_end ND D d)) (wrapN (a:=d) (b:=1) (by omega) (by omega))) rfl rfl rfl (wB2 (congrArg cN (szQ_end ND D d)) (wrapN (a:=d) (b:=1) (by omega) (by omega))))
  ·have Lw:d=m + 1:=by have:=hL;simp at this;omega
   subst Lw
   have fG:∀ i,D.getD i 0<=m:=fun i=>by
    rcases Nat.lt_or_ge i ND.length with h | h
    ·exact RA i h
    ·rw [aF,cR (by omega)];exact Nat.zero_le _
   have hT:szR ND D (m + 1 - 1)=ke ND D:=by
    have:=Jp (ND:=ND) fG (ND.length - m);rw [show m + (ND.length - m)=ND.length by omega] at this;exact this.symm
   have RC:=rM ND D;have hTs:∀ z∈ke ND D,z<=4097:=pf ND D _;have KQ:=yz (ke ND D) D K ND;have bw:∀ r,zo (othK (ke ND D) D K ND) (gg (othK (ke ND D) D K ND) ND.length r):=fun r=>yt r;have eB:∀ r,(gg (othK (ke ND D) D K ND) ND.length r).length=ND.length:=fun r=>iN r;have xA:∀ e r,(pa (othK (ke ND D) D K ND) e (gg (othK (ke ND D) D K ND) ND.length r)).length=ND.length:=fun e r=>by rw [rN];exact eB r
   have WC:∀ i n,ND[i]? = some n->othK (ke ND D) D K ND i=if K.getD i false=true then some (eO (ke ND D) D K n) else none:=fun i n h=>by unfold othK;rw [h]
   have hF:PF (ke ND D) D K ND=gg (othK (ke ND D) D K ND) ND.length ND.length:=rfl;rw [hF];rw [hT];generalize ke ND D=t at RC hTs KQ bw eB xA WC ⊢;refine bz (fun j st=>∃ (r:Nat) (c:Bool),st=OT PC ND D K c t (gg (othK t D K ND) ND.length r)/\(c=true->r<=rO (gg (othK t D K ND) ND.length r))/\(c=false->gg (othK t D K ND) ND.length (r + 1)=gg (othK t D K ND) ND.length r)/\j=if c=true then ND.length + 1 - r else 0) (ND.length + 1) (OT PC ND D K true t (gg (othK t D K ND) ND.length 0)) (au 3 rfl pS rfl rfl rfl mi) ⟨0,true,rfl,fun _=>Nat.zero_le _,fun h=>(by cases h),by simp⟩ ?_;rintro j st ⟨r,c,rfl,Ly,hcf,rfl⟩;refine br ?_ ?_<;>intro hc
   ·have hc:c=true:=hc;subst hc;have hcr:=Ly rfl;have hcn:=Js (gg (othK t D K ND) ND.length r);rw [eB] at hcn;refine lI (fun j st=>∃ (e:Nat) (c':Bool),st=Jv PC ND D K c' t (pa (othK t D K ND) e (gg (othK t D K ND) ND.length r)) e/\e<=ND.length/\(c'=true->rO (gg (othK t D K ND) ND.length r) < rO (pa (othK t D K ND) e (gg (othK t D K ND) ND.length r)))/\(c'=false->pa (othK t D K ND) e (gg (othK t D K ND) ND.length r)=gg (othK t D K ND) ND.length r)/\j=ND.length - e) ⟨0,false,rfl,by omega,fun h=>(by cases h),fun _=>rfl,rfl⟩ (au 3 rfl pS rfl rfl rfl mi) ?_;rintro j st ⟨e,c',rfl,he,pq,PG,rfl⟩;refine br ?_ ?_<;>intro kM
    ·have ap:e < ND.length:=by have:=kM;simp [cw] at this;exact this
     obtain ⟨n,hn⟩:=gX ap;obtain ⟨b,hb⟩:∃ b,K[e]? = some b:=⟨_,gE (by omega)⟩;have hbd:K.getD e false=b:=by rw [aF,hb];all_goals rfl
     have jQ:=xA e r;have hoo:=(yr (kf:=othK t D K ND) e (by rw [eB];omega) (bw r)).1;have sx:=Fj KQ hoo;have hk:=WC e n hn;have iM:=mG hn;have WD:=fun hS=>CJ PC ND D K t (pa (othK t D K ND) e (gg (othK t D K ND) ND.length r)) WB VO RC jQ hTs sx (hP.ok n iM) (hP.KZ n iM) hS;have Gf:=OU e n hn;have eT:pa (othK t D K ND) (e + 1) (gg (othK t D K ND) ND.length r)=otI (othK t D K ND) e (pa (othK t D K ND) e (gg (othK t D K ND) ND.length r)):=rfl;have Io:=@A4 (othK t D K ND) e _ hoo;generalize pa (othK t D K ND) e (gg (othK t D K ND) ND.length r)=o at pq PG jQ hoo sx WD eT Io ⊢;obtain ⟨z,hz⟩:∃ z,o[e]? = some z:=⟨_,gE (by omega)⟩;have Tn:o.getD e 0=z:=by rw [aF,hz];all_goals rfl
     refine iX (bZ hn) ?_;refine iX (rG hb) ?_;refine br ?_ ?_<;>intro c1
     ·have c1:b=true:=by simpa [lastG] using c1
      refine ⟨⟨by omega,by omega⟩,?_⟩;refine ⟨DV.v (.int .i64 (z:Int)),(by rw [show 0 + (e:Int).toNat * 1=e by omega];exact Cz hz),?_⟩;refine br ?_ ?_<;>intro c2
      ·have c2:z=0:=by simpa [lastG,pickB] using c2
       rw [hbd,c1,ai rfl] at hk;have pP:pa (othK t D K ND) (e + 1) (gg (othK t D K ND) ND.length r)=o.set e (othE o (eO t D K n)):=by rw [eT];unfold otI;rw [hk]
       have dG:=(OH (kf:=othK t D K ND) (i:=e) (by omega) hoo).2;rw [<- eT,pP] at dG;have dr:=fun hv=>OQ (l:=o) (i:=e) (v:=othE o (eO t D K n)) (by omega) (by rw [Tn];exact c2) hv;have eS:=(rP List.length_set.symm dG).2;have vY:othE o (eO t D K n)=0->o.set e (othE o (eO t D K n))=o:=fun h=>Fa _ (by rw [Tn,c2,h]);have WD:=WD (Gf (by rw [hbd];exact c1));generalize othE o (eO t D K n)=v at pP dG dr eS vY WD;refine dS ?_;refine kb XN WD ⟨_,_,rfl,.inr ⟨0,_,rfl,Nat.zero_le _,rfl,OR PC ND D K RC jQ rfl rfl⟩,_,_,rfl,ax,rfl⟩ rfl rfl ?_;refine ⟨⟨by omega,by omega⟩,?_⟩;refine ⟨by rw [lM];omega,?_⟩
       have aW:(cN o).set (0 + (e:Int).toNat * 1) (DV.v (.int .i64 (v:Nat)))=cN (o.set e v):=by
        rw [show 0 + (e:Int).toNat * 1=e by omega,nc]
       have hvg:(cN (o.set e v))[e]? = some (DV.v (.int .i64 (v:Nat))):=Cz (by rw [cQ (by omega)]);refine br ?_ ?_<;>intro c3
       ·have c3:c'=false:=by simpa [lastG] using c3
        have PG:=PG c3;refine ⟨⟨by omega,by omega⟩,?_⟩;refine ⟨DV.v (.int .i64 (v:Nat)),(by rw [aW,show 0 + (e:Int).toNat * 1=e by omega];exact hvg),?_⟩;have bY:v≠0->rO (gg (othK t D K ND) ND.length r) < rO (pa (othK t D K ND) (e + 1) (gg (othK t D K ND) ND.length r)):=fun h=>by rw [pP,<- PG];exact dr h
        have hold:v=0->pa (othK t D K ND) (e + 1) (gg (othK t D K ND) ND.length r)=gg (othK t D K ND) ND.length r:=fun h=>by rw [pP,vY h,PG]
        have RD:=bW (n:=3) (m:=1) (tk:=mkT ND) (aW.trans (congrArg cN pP.symm));clear pP dG eS vY dr aW hvg WD
        cases v with
        | zero=>exact ⟨Jv PC ND D K false t (pa (othK t D K ND) (e + 1) (gg (othK t D K ND) ND.length r)) (e + 1),(au 3 rfl (by repeat' (first | exact rfl | exact az rfl | exact bW rfl | exact RD | exact aD (aJ ap (by omega)) | refine ⟨_,_,rfl,?_,?_⟩)) rfl rfl rfl (by repeat' (first | exact trivial | exact az rfl | exact bW rfl | exact RD | exact aD (aJ ap (by omega)) | refine ⟨⟨_,rfl,?_⟩,?_⟩))),ND.length - (e + 1),by omega,e + 1,false,rfl,by omega,fun h=>(by cases h),fun _=>hold rfl,rfl⟩
        | succ v=>
         have hp:DV.v (.bool (decide ((0:Int) < ((v + 1:Nat):Int))))=DV.v (.bool true):=congrArg (fun b=>DV.v (.bool b)) (decide_eq_true (by omega));exact ⟨Jv PC ND D K true t (pa (othK t D K ND) (e + 1) (gg (othK t D K ND) ND.length r)) (e + 1),(au 3 rfl (by repeat' (first | exact rfl | exact az rfl | exact bW rfl | exact RD | exact Or.inl ⟨hp,rfl⟩ | exact aD (aJ ap (by omega)) | refine ⟨_,_,rfl,?_,?_⟩)) rfl rfl rfl (by repeat' (first | exact trivial | exact az rfl | exact bW rfl | exact RD | exact Or.inl ⟨hp,rfl⟩ | exact aD (aJ ap (by omega)) | refine ⟨⟨_,rfl,?_⟩,?_⟩))),ND.length - (e + 1),by omega,e + 1,true,rfl,by omega,fun _=>bY (Nat.succ_ne_zero v),fun h=>(by cases h),rfl⟩
       ·have c3:c'=true:=by simpa [lastG] using c3
        have pq:=pq c3;exact ⟨Jv PC ND D K true t (pa (othK t D K ND) (e + 1) (gg (othK t D K ND) ND.length r)) (e + 1),(au 3 rfl (T9 (aW.trans (congrArg cN pP.symm)) (aJ ap (by omega)) c3) rfl rfl rfl (zI (aW.trans (congrArg cN pP.symm)) (aJ ap (by omega)) c3)),ND.length - (e + 1),by omega,e + 1,true,rfl,by omega,fun _=>by rw [pP];omega,fun h=>(by cases h),rfl⟩
      ·have c2:¬ z=0:=by simpa [lastG,pickB] using c2
       have F6:=eT.trans (Io (by rw [Tn];exact c2));exact rE ⟨_,by omega,e + 1,c',rfl,by omega,by rw [F6];exact pq,by rw [F6];exact PG,rfl⟩ (au 3 rfl (gF (congrArg cN F6.symm) (aJ ap (by omega))) rfl rfl rfl (wB2 (congrArg cN F6.symm) (aJ ap (by omega))))
     ·have c1:b=false:=by simpa [lastG] using c1
      have F6:pa (othK t D K ND) (e + 1) (gg (othK t D K ND) ND.length r)=o:=by rw [eT];unfold otI;rw [hk,hbd,c1];all_goals rfl
      exact rE ⟨_,by omega,e + 1,c',rfl,by omega,by rw [F6];exact pq,by rw [F6];exact PG,rfl⟩ (au 3 rfl (gF (congrArg cN F6.symm) (aJ ap (by omega))) rfl rfl rfl (wB2 (congrArg cN F6.symm) (aJ ap (by omega))))
    ·have aQ:e=ND.length:=by have:=kM;simp [cw] at this;omega
     subst aQ;have hR:pa (othK t D K ND) ND.length (gg (othK t D K ND) ND.length r)=gg (othK t D K ND) ND.length (r + 1):=rfl;rw [hR] at pq PG;refine ⟨OT PC ND D K c' t (gg (othK t D K ND) ND.length (r + 1)),(au 3 rfl pS rfl rfl rfl mi),if c'=true then ND.length + 1 - (r + 1) else 0,?_,r + 1,c',rfl,fun h=>by have:=pq h;omega,fun h=>?_,rfl⟩
     ·rw [ai rfl];split<;>omega
     ·show pa _ _ (gg (othK t D K ND) ND.length (r + 1))=_;rw [PG h,hR,PG h]
   ·have hc:c=false:=hc;rw [Rj (hcf hc)];exact ⟨.pt (ng PC ND D K t (gg (othK t D K ND) ND.length ND.length)) 0,Or.inr ⟨0,_,rfl,Nat.zero_le _,rfl,OR PC ND D K RC (eB _) rfl rfl⟩,rfl⟩
end
end Go.Proofs.YtadhpeooehkklaaGreat
namespace Go.Proofs.YtadhpeooehkklaaGreat
namespace Dv
open Go Go.RowKit
mutual
def shD (m:Nat):DV->DV
 | .agg l=>.agg (shL m l)
 | .tup l=>.tup (shL m l)
 | .sl e es tk=>.sl e es (match tk with | some k=>some (m + k) | none=>none)
 | .fn f a b=>.fn f (shL m a) (shL m b)
 | .sq t x=>.sq t (shD m x)
 | .v x=>.v x
 | .ud=>.ud
 | .pt cs o=>.pt cs o
 | .loc i o=>.loc i o
 | .el i o=>.el i o
 | .ms i e o l c=>.ms i e o l c
def shL (m:Nat):List DV->List DV
 | []=>[]
 | d :: r=>shD m d :: shL m r
end
mutual
theorem tN {m:Nat} {E2 E:En} (hβ:E2.β=[]) (hc:E.c=E2.c) (ht:∀ (k:Nat) q,E2.tk[k]? = some q->E.tk[m + k]? = some q/\E.τ[m + k]? = E2.τ[k]?):∀ {d:DV} {v:Value},Rv E2 d v->Rv E (shD m d) v
 | .v x,v,h=>by simpa only [Rv,shD] using h
 | .ud,v,h=>by simpa only [Rv,shD] using h
 | .agg l,v,h=>by
  simp only [Rv,shD] at h ⊢;obtain ⟨vs,h1,h2,h3⟩:=h;exact ⟨vs,h1,mf hβ hc ht h2,h3⟩
 | .tup l,v,h=>by
  simp only [Rv,shD] at h ⊢;obtain ⟨vs,h1,h2⟩:=h;exact ⟨vs,h1,mf hβ hc ht h2⟩
 | .sl e es tk,v,h=>by
  have he:E.cl=E2.cl:=by simp [En.cl,hc]
  simp only [Rv,shD] at h ⊢;obtain ⟨b,n,cap,h1,h2,h3,h4⟩:=h;refine ⟨b,n,cap,h1,h2,fun hn=>⟨(h3 hn).1,by rw [he];exact (h3 hn).2⟩,?_⟩;intro k' eX
  cases tk with
  | none=>cases eX
  | some k=>
   simp only [oI] at eX;subst eX;obtain ⟨q,g1,g2,g3⟩:=h4 k rfl;obtain ⟨g4,g5⟩:=ht k q g1;exact ⟨q,g4,g2,fun hn=>by rw [g5];exact g3 hn⟩
 | .pt cs off,v,h=>by
  have he:E.cl=E2.cl:=by simp [En.cl,hc]
  simp only [Rv,shD] at h ⊢;rw [he];exact h
 | .loc i off,v,h=>by
  simp only [Rv] at h;obtain ⟨b,h1,_⟩:=h;rw [hβ] at h1;simp at h1
 | .el i off,v,h=>by
  simp only [Rv] at h;obtain ⟨b,h1,_⟩:=h;rw [hβ] at h1;simp at h1
 | .ms i e off len cap,v,h=>by
  simp only [Rv] at h;obtain ⟨b,_,h1,_⟩:=h;rw [hβ] at h1;simp at h1
 | .fn f a b,v,h=>by
  simp only [Rv,shD] at h ⊢;obtain ⟨l,r,h1,h2,h3⟩:=h;exact ⟨l,r,h1,mf hβ hc ht h2,mf hβ hc ht h3⟩
 | .sq t x,v,h=>by
  simp only [Rv,shD] at h ⊢;obtain ⟨z,h1,h2⟩:=h;exact ⟨z,h1,tN hβ hc ht h2⟩
theorem mf {m:Nat} {E2 E:En} (hβ:E2.β=[]) (hc:E.c=E2.c) (ht:∀ (k:Nat) q,E2.tk[k]? = some q->E.tk[m + k]? = some q/\E.τ[m + k]? = E2.τ[k]?):∀ {l:List DV} {vs:List Value},RvL E2 l vs->RvL E (shL m l) vs
 | [],vs,h=>by simpa only [RvL,shL] using h
 | d :: r,vs,h=>by
  simp only [RvL,shL] at h ⊢;obtain ⟨v,s,h1,h2,h3⟩:=h;exact ⟨v,s,h1,tN hβ hc ht h2,mf hβ hc ht h3⟩
end
section
variable {X:Ctx} {st:St} {k:List It} {E:En} {a:Act} {w:World}
theorem HW (h:Rel X E st a w) (aW:X.still=false) {E2:En} {w':World} (hm:qI (E.cl).S w w') (he:Env E2 [] w') (hn:Nw E.cl E2 w):Rel X ⟨E2.c,E.β,E.tk ++ E2.tk,E.τ ++ E2.τ⟩ ⟨st.sl,st.bx,st.tk ++ E2.tk⟩ a w':=by
 have hq:=zF h aW hm he hn;have PX:∀ (j:Nat) y g,E2.τ[j]? = some y->y.ownBlock=some g->w.heap.size<=g:=fun j y g hy hg=>hn.tn j y g (Nat.zero_le _) hy hg;have hold:∀ (k:Nat) y g,E.τ[k]? = some y->y.ownBlock=some g->g < w.heap.size:=fun k y g hy hg=>(h.env.own (mG hy) hg).1;have gZ:E.τ.length=E.tk.length:=h.env.tl
 have hτ:∀ (k:Nat) y,(E.τ ++ E2.τ)[k]? = some y->(k < E.τ.length/\E.τ[k]? = some y)∨(E.τ.length<=k/\E2.τ[k - E.τ.length]? = some y):=fun k y hy=>by
  rw [List.getElem?_append] at hy;split at hy
  ·rename_i hk;exact .inl ⟨hk,hy⟩
  ·rename_i hk;exact .inr ⟨by omega,hy⟩
 have hx:Ext ⟨E2.c,E.β,E.tk,E.τ⟩ ⟨E2.c,E.β,E.tk ++ E2.tk,E.τ ++ E2.τ⟩:=⟨fun _ _ h=>h,fun _ _ h=>h,fun j q hj=>by
  have hj:E.tk[j]? = some q:=hj;have ap:=(gS hj).1;refine ⟨q,by show (E.tk ++ _)[j]? = _;rw [cj ap];exact hj,.inl ⟨rfl,?_⟩⟩;show (E.τ ++ _)[j]? = _
  rw [cj (by rw [gZ];exact ap)]⟩
 refine dB hq hx ?_ (by show E.tk ++ _=_;rw [h.tk]) ?_ hq.fr (nR aW) hq.bt
 ·exact {
   len:=h.env.len
   tl:=by show (E.τ ++ _).length=(E.tk ++ _).length;simp [gZ,he.tl]
   fk:=fun i cs hi=>by
    obtain ⟨b,t,arr,hb,hw,hc⟩:=hq.env.fk i cs hi;exact ⟨b,t,arr,hb,hw,hc.mono hx⟩
   inj:=h.env.inj
   sub:=he.sub
   pc:=hq.env.pc
   cC:=fun j q y Nn hy=>by
    have Nn:(E.tk ++ E2.tk)[j]? = some q:=Nn;rcases hτ j y hy with ⟨ap,fA⟩ | ⟨dG,fA⟩
    ·rw [cj (by rw [<- gZ];exact ap)] at Nn;exact hq.env.cC j q y Nn fA
    ·rw [List.getElem?_append_right (by rw [<- gZ];exact dG),<- gZ] at Nn;rcases he.cC _ q y Nn fA with h1 | ⟨g,cap,cur,rfl,h1,h2,h3,h4,_,h6⟩
     ·exact .inl h1
     ·refine .inr ⟨g,cap,cur,rfl,h1,h2,h3,h4,fun lQ=>?_,h6⟩;have:=PX _ _ g fA rfl;have:=h.env.bm lQ;omega
   jE:=fun i j y y' g jB hy fA hg r7=>by
    rcases hτ i y hy with ⟨_,h1⟩ | ⟨h0,h1⟩
    ·rcases hτ j y' fA with ⟨_,h2⟩ | ⟨_,h2⟩
     ·exact h.env.jE i j y y' g jB h1 h2 hg r7
     ·have:=hold i y g h1 hg;have:=PX _ y' g h2 r7;omega
    ·rcases hτ j y' fA with ⟨_,h2⟩ | ⟨h00,h2⟩
     ·have:=hold j y' g h2 r7;have:=PX _ y g h1 hg;omega
     ·exact he.jE _ _ y y' g (by omega) h1 h2 hg r7 }
 ·exact {
   c:=hq.nw.c
   cn:=hq.nw.cn
   β:=h.nw.β
   tk:=fun j q0 y0 va BA=>by
    obtain ⟨q',y',h1,h2,h3⟩:=h.nw.tk j q0 y0 va BA;exact ⟨q',y',by show (E.tk ++ _)[j]? = _;rw [cj (gS h1).1];exact h1,by show (E.τ ++ _)[j]? = _;rw [cj (gS h2).1];exact h2,h3⟩
   tn:=fun j y g hj hy hg=>by
    rcases hτ j y hy with ⟨_,h1⟩ | ⟨_,h1⟩
    ·exact h.nw.tn j y g hj h1 hg
    ·exact Nat.le_trans h.fr.size (PX _ y g h1 hg)
   l0:=h.nw.l0 }
theorem RE {P:Program} (h:Rel X E st a w) (aW:X.still=false) {f:FuncId} {args bJ:List DV} {vs:List Value} {Φ:DV->List (List DV)->List TkE->Prop} (hc:V9 P f bJ [] [] Φ) (ha:CcL [] 0 0 0 bJ args) (hv:RvL E args vs) :
  Calls P f vs.toArray w fun e w'=>∃ v E' d cC,e = .returned v/\Rel X E' ⟨st.sl,st.bx,st.tk ++ cC⟩ a w' /\ Rv E' (shD st.tk.length d) v/\Φ d [] cC/\qI E.cl.S w w' /\ Ext E E' /\ E'.β=E.β:=by
 have TH:RvL E.cl bJ vs:=CcL.sound (E:=E) (E':=E.cl) ⟨fun _ _ h=>h,fun i cs _ hi=>by simp at hi⟩ (Im.zero _ _) ha hv;refine (hc E.cl w vs (L5 h.env) rfl TH).mono ?_;rintro e w' ⟨v,rfl,hm,_,d,os,E2,he,hβ,_,hn,y9,hΦ⟩;have hβ:E2.β=[]:=hβ
 have sx:os=[]:=by
  have:=he.len;rw [hβ] at this;exact List.eq_nil_of_length_eq_zero this.symm
 subst sx;have gZ:E.τ.length=E.tk.length:=h.env.tl
 have hx:Ext E ⟨E2.c,E.β,E.tk ++ E2.tk,E.τ ++ E2.τ⟩:=⟨hn.c,fun _ _ h=>h,fun j q hj=>by
  have ap:=(gS hj).1;refine ⟨q,by show (E.tk ++ _)[j]? = _;rw [cj ap];exact hj,.inl ⟨rfl,?_⟩⟩;show (E.τ ++ _)[j]? = _
  rw [cj (by rw [gZ];exact ap)]⟩
 refine ⟨v,_,d,E2.tk,rfl,HW h aW hm he hn,tN (E2:=E2) (E:=⟨E2.c,E.β,E.tk ++ E2.tk,E.τ ++ E2.τ⟩) (m:=st.tk.length) hβ rfl (fun k q hq=>?_) y9,hΦ,hm,hx,rfl⟩;rw [<- h.tk];constructor
 ·show (E.tk ++ E2.tk)[_]? = _;rw [List.getElem?_append_right (by omega)];simpa using hq
 ·show (E.τ ++ E2.τ)[_]? = _;rw [List.getElem?_append_right (by omega),gZ];simp
theorem OV {f:FuncId} {args bJ:List DV} {d:Nat} (mC:Enters X.P f) (hd:gp X.nt st.sl (some d)=true) {Φ:DV->List (List DV)->List TkE->Prop} (hc:V9 X.P f bJ [] [] Φ) (ha:CcL [] 0 0 0 bJ args)
  (hk:∀ r cC,Φ r [] cC->go X 4000 k ⟨(d,⟨[],shD st.tk.length r⟩) :: st.sl,st.bx,st.tk ++ cC⟩) (aW:X.still=false:=by exact rfl):ie X f args (some d) k st:=by
 refine ⟨mC,aW,fun E a w vs h hv=>(RE h aW hc ha hv).mono ?_⟩;rintro e w' ⟨v,E',r,cC,rfl,ch,hr,hΦ,_⟩;exact go_sound 4000 _ _ (hk r cC hΦ) E' _ w' (bG ch hd _ v hr)
end
end Dv
end Go.Proofs.YtadhpeooehkklaaGreat
namespace Go.Proofs.YtadhpeooehkklaaGreat
namespace Dv
open Go Go.RowKit
section
variable {X:Ctx} {st:St} {k:List It} {E:En} {a:Act} {w:World}
theorem Jw (h:Rel X E st a w) {es:List (List DV)} {cs:List DV} {kt m xg e:Nat} {v:Value} (hv:Rv E (.sl 0 es (some kt)) v) (hq:st.tk[kt]? = some ⟨m,xg,e,some cs⟩) (gD:es.length=m) (hm:0 < m) :
  ∃ g cap,∃ cur:Array Value,v = .slice (some ⟨g,0,none⟩) m cap/\E.tk[kt]? = some ⟨m,xg,e,some cs⟩/\E.τ[kt]? = some v/\w.heap[g]? = some (.cells cur xg (0,0))/\cur.size=cap * e/\cs.length=m * e/\RvC E.cl cs (cur.toList.take (m * e))/\m<=cap/\cap<=maxLen/\g ∉ E.β/\∀ x u,E.c x=some u->x.block=g->x.off < 0:=by
 unfold Rv at hv;obtain ⟨bs,ns,nT,e1,⟨yM,Gf⟩,TX,Gg⟩:=hv;subst yM;obtain ⟨q',jh,_,TY⟩:=Gg kt rfl;have kh:E.tk[kt]? = some ⟨m,xg,e,some cs⟩:=by rw [h.tk];exact hq
 rw [kh] at jh;simp only [oI] at jh;subst jh;have hy:=TY gD;rcases h.env.cC kt _ _ kh hy with ⟨_,kX,_⟩ | ⟨g,cap,cur,r8,hw0,⟨vY,Dl⟩,vZ,y6,iB,JO⟩
 ·simp only at kX;omega
 obtain ⟨h5,h6⟩:=Dl cs rfl;exact ⟨g,cap,cur,r8,kh,hy,hw0,vY,h5,h6,vZ,y6,iB,JO⟩
theorem RF {o1:Oper} {t et e jZ nn m g cap:Nat} {bb:Bool} {zz:List Value} {z:Int} {kd:IntKind} {s ix:Operand} (h1:o1.op = .indexAddr t s ix) (e1:a.eval s = .slice (some ⟨g,0,none⟩) m cap) (e2:a.eval ix = .int kd z)
  (hT:X.T.find t=some ⟨nn,bb,.sl et e jZ,zz⟩) (hz:0<=z/\z < m) (w:World):(execOp a.eval o1).run X.P w = .ok (.value (.pointer (some ⟨g,z.toNat * e,none⟩))) w:=by
 obtain ⟨hu,ii,zv,qQ,_,UT,_,_⟩:=fu X.hT hT;have qR:iY X.P et=some e:=by rw [gj qQ,UT]
 have cv:(Instr.indexAt t (.slice (some ⟨g,0,none⟩) m cap) (.int kd z)).run X.P w = .ok (.pointer (some ⟨g,z.toNat * e,none⟩)) w:=by
  simp [Instr.indexAt,asIntOf,run_underlying hu,hz.1,hz.2,aS qR,Addr.add_lit]
 simp only [execOp,h1,e1,e2,Sem.run_bind,cv,Result.andThen_ok,Sem.run_pure]
theorem RG {o2:Oper} {d1 kt ty e m xg:Nat} {z:Int} {es:List (List DV)} {cs cs':List DV} {v:Value} {x:Operand} {dv:DV} {g cap:Nat}
  (hr1:Rel X E st a w) (h2:o2.op = .store ty (.tmp d1) x) (ht1:a.eval (.tmp d1) = .pointer (some ⟨g,z.toNat * e,none⟩)) (hv:Rv E (.sl 0 es (some kt)) v) (hvg:v = .slice (some ⟨g,0,none⟩) m cap)
  (hx:rv st [] x=some dv) (YT:eraL dv.cells (fun l=>some l)=some cs') (US:dv.cells.length=e) (he0:0 < e)
  (bQ:X.T.sz ty=some e) (hq:st.tk[kt]? = some ⟨m,xg,e,some cs⟩) (gD:es.length=m) (hz:0<=z/\z < m) (aW:X.still=false) :
  ∃ w' E',(execOp a.eval o2).run X.P w = .ok .skip w' /\ Rel X E' ⟨st.sl,st.bx,st.tk.set kt ⟨m,xg,e,some (cs.take (z.toNat * e) ++ cs' ++ cs.drop (z.toNat * e + e))⟩⟩ a w':=by
 obtain ⟨g',nT,cur,e1,kh,hy,hw0,vY,h5,h6,vZ,y6,iB,JO⟩:=Jw hr1 hv hq gD (by omega);rw [hvg] at e1;injection e1 with i1 i2 i3
 injection i1 with i1
 injection i1 with i1
 subst i1 i3;rw [hvg] at hy;have e3:=bh hr1.rl hx;have eS:RvC E dv.cells (a.eval x).cells.toList:=e3.cells (jc (n:=e) US (by omega));have yK:(a.eval x).cells.toList.length=e:=by rw [eS.1.length];exact US
 obtain ⟨l',y7,hx1,_⟩:=pO YT eS;simp only [oI] at y7;rw [y7] at hx1;have UU:m * e<=cap * e:=Nat.mul_le_mul_right _ vZ
 have jT:z.toNat * e + e<=m * e:=by
  have:(z.toNat + 1) * e<=m * e:=Nat.mul_le_mul_right _ (by omega);rw [Nat.add_mul] at this;omega
 have Nl:cur.toList.length=cap * e:=sU vY;have vX:=j6 (P:=X.P) (t:=ty) (off:=z.toNat * e) (n:=e) hw0 (Dg X.hT bQ) yK (by rw [vY];omega) (List.all_eq_true.2 eS.2);generalize hN:cur.toList.take (z.toNat * e) ++ (a.eval x).cells.toList ++ cur.toList.drop (z.toNat * e + e)=N at vX
 have hNl:N.length=cap * e:=by
  subst hN;simp only [List.length_append,zLenT,List.length_drop,yK,Nl];omega
 have hNt:N.take (m * e)=(cur.toList.take (m * e)).take (z.toNat * e) ++ (a.eval x).cells.toList ++ (cur.toList.take (m * e)).drop (z.toNat * e + e):=by
  subst hN;rw [List.take_append,List.take_append,List.take_take,List.take_take];have h1:(cur.toList.take (z.toNat * e)).length=z.toNat * e:=by rw [zLenT];omega
  rw [List.length_append,h1,yK,Nat.min_eq_right (by omega),Nat.min_eq_left (by omega),List.take_of_length_le (l:=(a.eval x).cells.toList) (by rw [yK];omega),List.drop_take]
 have nJ:De (World.dT w g (.cells N.toArray xg (0,0))) E.c E.β ⟨m,xg,e,some (cs.take (z.toNat * e) ++ cs' ++ cs.drop (z.toNat * e + e))⟩ (.slice (some ⟨g,0,none⟩) m cap):=by
  refine .inr ⟨g,cap,_,rfl,ib hw0,⟨by simpa using hNl,fun sc Di=>?_⟩,vZ,y6,iB,JO⟩;simp only [oI] at Di;subst Di;simp only;have h8:=((RvC.take (z.toNat * e) h6).append hx1).append (RvC.drop (z.toNat * e + e) h6);rw [<- hNt] at h8;have hl8:=h8.1.length;refine ⟨?_,by show RvC E.cl _ (N.toArray.toList.take (m * e));simpa using h8⟩;rw [<- hl8,zLenT,hNl];omega
 obtain ⟨ch,_⟩:=BC (q':=⟨m,xg,e,some (cs.take (z.toNat * e) ++ cs' ++ cs.drop (z.toNat * e + e))⟩) (w':=World.dT w g (.cells N.toArray xg (0,0))) hr1 aW kh hy rfl rfl rfl (.inl ⟨rfl,rfl⟩) nJ (.inl rfl) rfl rfl rfl (by rw [fH];exact aR _) (fun j _ bp=>dp (by
  rintro rfl
  exact bp rfl))
 refine ⟨_,_,?_,ch⟩;simp only [execOp,h2,ht1,Instr.storeAt,Instr.sureAddr,Sem.run_bind,Sem.run_pure,Result.andThen_ok,vX]
theorem Bb {D:Dr} {c:Bool} {i i1 i2:Nat} {s0:List (Nat × Sl)} {o1 o2:Oper} {f:FuncId} {args bJ:List DV} {d d1 kt t ty et e jZ m xg nn:Nat} {bb:Bool} {zz:List Value} {z:Int} {kd:IntKind} {es:List (List DV)} {cs cs':List DV} {s ix x:Operand} {BI dv:DV}
  (mC:Enters X.P f) (hd:gp X.nt st.sl (some d)=true) (hc:aV X.P f bJ BI) (ha:CcL [] 0 0 0 bJ args)
  (h1:o1.op = .indexAddr t s ix/\o1.dst=some d1/\o1.guard=none) (h2:o2.op = .store ty (.tmp d1) x/\o2.dst=none/\o2.guard=none) (zf:gp X.nt ((d,⟨[],BI⟩) :: st.sl) (some d1)=true)
  (hs:rv ⟨(d,⟨[],BI⟩) :: st.sl,st.bx,st.tk⟩ [] s=some (.sl 0 es (some kt))) (hi:rv ⟨(d,⟨[],BI⟩) :: st.sl,st.bx,st.tk⟩ [] ix=some (.v (.int kd z)))
  (hx:rv ⟨(d1,⟨[],.pt [] 0⟩) :: (d,⟨[],BI⟩) :: st.sl,st.bx,st.tk⟩ [] x=some dv) (YT:eraL dv.cells (fun l=>some l)=some cs') (US:dv.cells.length=e) (he0:0 < e)
  (hT:X.T.find t=some ⟨nn,bb,.sl et e jZ,zz⟩) (bQ:X.T.sz ty=some e) (hq:st.tk[kt]? = some ⟨m,xg,e,some cs⟩) (gD:es.length=m) (hz:0<=z/\z < m) (hW2:D.W i2=true)
  (hk:∃ DA,Wk X ⟨(d1,⟨[],.pt [] 0⟩) :: (d,⟨[],BI⟩) :: st.sl,st.bx,st.tk.set kt ⟨m,xg,e,some (cs.take (z.toNat * e) ++ cs' ++ cs.drop (z.toNat * e + e))⟩⟩ DA/\go X 4000 D.k DA)
  (aW:X.still=false:=by exact rfl) (hf:D.fin=none:=by exact rfl):zL X D c i [(i1,o1),(i2,o2)] f args (some d) s0 st:=by
 refine ⟨mC,fun hl E0 wr hD E a w vs h hv=>(nU h.rel aW hc ha hv).mono ?_⟩;rintro e9 w' ⟨v,E',r,rfl,ch,hr,rfl,hm9,hx9,hβ9⟩
 have hh9:∀ b,b < w.heap.size->w'.heap[b]? = w.heap[b]?:=fun b hb=>hm9.block b hb (by
  rintro (h1 | ⟨y,h1,_⟩)
  ·simp [En.cl] at h1
  ·simp [En.cl] at h1)
 have hs9:dj none E w E' w':=⟨hx9,⟨[],by rw [hβ9];simp⟩,fun j b hb _=>hh9 b (h.rel.env.bm (mG hb))⟩;refine ⟨v,rfl,(fun _=>DC h hs9 ch (fun j hj=>by cases hj)),?_⟩;have hr0:=bG ch hd r v hr;generalize ha0:a.put (some d) v=a0 at hr0;have eB:=hr0.rl;have e2:=cz (bh eB hi);have hv:=bh eB hs;obtain ⟨g,cap,cur,e1,_⟩:=Jw hr0 hv hq gD (by omega);have Xe:gq o1.op=false:=by rw [h1.1];all_goals rfl
 have hL1:j7 o1.op=false:=by rw [h1.1];all_goals rfl
 have hE2:gq o2.op=true:=by rw [h2.1];all_goals rfl
 have g1:D.ops[i1]? = some o1:=hl (i1,o1) (by simp);have g2:D.ops[i2]? = some o2:=hl (i2,o2) (by simp);show runT X.P D.ops D.W _ (Dw.Q ⟨D,E0,wr⟩ X) [i1,i2] a0 w';have hr1:Rel X E' ⟨(d1,⟨[],.pt [] 0⟩) :: (d,⟨[],r⟩) :: st.sl,st.bx,st.tk⟩ (a0.put (some d1) (.pointer (some ⟨g,z.toNat * e,none⟩))) w':=bG hr0 zf (.pt [] 0) _ (by unfold Rv;exact ⟨g,z.toNat * e,rfl,by simp only [RvAt]⟩)
 have ht1:(a0.put (some d1) (.pointer (some ⟨g,z.toNat * e,none⟩))).eval (.tmp d1) = .pointer (some ⟨g,z.toNat * e,none⟩):=by
  simp only [gp,aP,Nat.blt_eq] at zf;simp [Act.eval,Act.put,hr0.sz,zf.1]
 simp only [runT,g1,Xe,Bool.false_eq_true,if_false];refine ⟨.pointer (some ⟨g,z.toNat * e,none⟩),.inl ⟨fW h1.2.2,fun w9 _=>RF h1.1 e1 e2 hT hz w9⟩,fun h9=>(by rw [hL1] at h9;cases h9),?_⟩;rw [h1.2.1];generalize a0.put (some d1) (.pointer (some ⟨g,z.toNat * e,none⟩))=a1 at hr1 ht1;have Wp:=fW (ops:=D.ops) (a:=a1) h2.2.2;simp only [g2,hE2,if_true,dP,Wp];obtain ⟨w2,E2,cv,nV⟩:=RG hr1 h2.1 ht1 hv e1 hx YT US he0 bQ hq gD hz aW;refine BF cv ?_;rw [h2.2.1];refine ⟨(fun hw=>by rw [hW2] at hw;cases hw),?_⟩;obtain ⟨DA,T7,iv⟩:=hk;obtain ⟨E3,hr3⟩:=T7 _ _ _ nV;show Dw.Q ⟨D,E0,wr⟩ X _ _;unfold Dw.Q;simp only [hf];exact go_sound 4000 _ _ iv _ _ _ hr3
end
end Dv
end Go.Proofs.YtadhpeooehkklaaGreat
namespace Go.Proofs.YtadhpeooehkklaaGreat
namespace Dv
open Go Go.RowKit
section
variable {X:Ctx} {st:St} {k:List It} {E:En} {a:Act} {w:World} {o:Oper}
theorem VP {t d et e jZ n len:Nat} {bb:Bool} {z:List Value} {parts:Array (Nat × Operand)} {es:List (List DV)} (qB:o.op = .buildSlice t len parts) (jj:o.dst=some d) (hT:X.T.find t=some ⟨n,bb,.sl et e jZ,z⟩) (gD:litL e st parts.toList 0=some es)
  (hc:(Nat.beq es.length len && (Nat.blt 0 len && Nat.blt 0 e && Nat.ble (len * e) 16777216))=true) (hd:gp X.nt st.sl (some d)=true) (aW:X.still=false:=by exact rfl) (hX:X.bt=[]:=by exact rfl) :
  OpS X o st ⟨(d,⟨[],.sl 0 (List.replicate len []) (some st.tk.length)⟩) :: st.sl,st.bx,st.tk ++ [⟨len,et,e,some es.flatten⟩]⟩:=by
 intro E a w h;simp only [aP,Nat.beq_eq,Nat.ble_eq,Nat.blt_eq] at hc;obtain ⟨hlen,⟨jT,C3⟩,hsm⟩:=hc;obtain ⟨hu,ii,zv,qQ,hz,bQ,FX,JG⟩:=fu X.hT hT;obtain ⟨xs,vs,hp,vV,yK,eS,zB,ez⟩:=mz h.rl C3 gD;subst bQ
 have F9:len * ii.size≠0:=by
  have:=Nat.mul_pos jT C3;omega
 have lP:Instr.fill (fun i=>some (i * ii.size,ii.size)) ((Array.range (len * ii.size)).map (zv.cells[·% zv.cells.size]!)) (parts.map fun (i,x)=>(i,a.eval x)).toList=some (cellsL vs).toArray:=by
  have h0:=qH ii.size vs 0 ((Array.range (len * ii.size)).map (zv.cells[·% zv.cells.size]!)).toList eS (by simp [yK,hlen])
  have h1:(parts.map fun (i,x)=>(i,a.eval x)).toList=enumF 0 vs:=by
   rw [Array.toList_map,hp,vV,<- oH]
  rw [h1];simp only [Array.toArray_toList] at h0;rw [h0];simp [yK,hlen]
 have cv:(execOp a.eval o).run X.P w = .ok (.value (.slice (some ⟨w.heap.size,0,none⟩) len len)) (w.alloc (.cells (cellsL vs).toArray et)):=by
  simp only [execOp,qB,Sem.run_bind,run_buildSlice w t et len _ _ ii zv hu qQ hz (by omega) F9 lP,Result.andThen_ok,Sem.run_pure]
 have Au:(cellsL vs).length=len * ii.size:=by
  have:∀ l:List Value,(∀ v∈l,v.cells.toList.length=ii.size)->(cellsL l).length=l.length * ii.size:=by
   intro l
   induction l with
   | nil=>intro _;simp [cellsL]
   | cons v l ih=>
    intro hl;simp only [cellsL,List.length_append,List.length_cons];rw [ih fun x hx=>hl x (de _ hx),hl v List.mem_cons_self,Nat.succ_mul];omega
  rw [this vs eS,yK,hlen]
 refine eF cv ?_;rw [jj]
 have JQ:es.flatten.length=len * ii.size:=by
  have h1:=zB.1.length;rw [<- h1,Au]
 have aai:RvC ⟨E.c,[],[],[]⟩ es.flatten ((cellsL vs).toArray.toList.take (len * ii.size)):=by
  rw [List.take_of_length_le (by simp [Au])];exact zB
 have JV:len<=maxLen:=by
  have:len<=len * ii.size:=Nat.le_mul_of_pos_right _ C3;unfold maxLen;omega
 have jU:=h.env.j8 (w':=w.alloc (.cells (cellsL vs).toArray et)) fun i hi=>alloc_old w _ hi
 let E2:En:=⟨E.c,E.β,E.tk ++ [⟨len,et,ii.size,some es.flatten⟩],E.τ ++ [.slice (some ⟨w.heap.size,0,none⟩) len len]⟩
 have hext:Ext E E2:=⟨fun _ _ h=>h,fun _ _ h=>h,fun k q' hk=>by
  have ap:=(gS hk).1;refine ⟨q',by show (E.tk ++ _)[k]? = _;rw [cj ap];exact hk,.inl ⟨rfl,?_⟩⟩;show (E.τ ++ _)[k]? = _
  rw [cj (by rw [h.env.tl];exact ap)]⟩
 have hτ:∀ (k:Nat) y,E2.τ[k]? = some y->(k < E.τ.length/\E.τ[k]? = some y)∨(k=E.τ.length/\y = .slice (some ⟨w.heap.size,0,none⟩) len len):=fun k y hy=>by
  have hy:(E.τ ++ [Value.slice (some ⟨w.heap.size,0,none⟩) len len])[k]? = some y:=hy;rw [List.getElem?_append] at hy;split at hy
  ·rename_i hk;exact .inl ⟨hk,hy⟩
  ·rename_i hk
   have h0:k - E.τ.length=0:=by
    rcases Nat.eq_zero_or_pos (k - E.τ.length) with h0 | h0
    ·exact h0
    ·rw [cR (by simp;omega)] at hy;cases hy
   rw [h0] at hy;simp only [List.getElem?_cons_zero,oI] at hy;exact .inr ⟨by omega,hy.symm⟩
 have gh:∀ (k:Nat) y g,E.τ[k]? = some y->y.ownBlock=some g->g < w.heap.size:=fun k y g hy hg=>(h.env.own (mG hy) hg).1
 have ch:Rel X E2 ⟨st.sl,st.bx,st.tk ++ [⟨len,et,ii.size,some es.flatten⟩]⟩ a (w.alloc (.cells (cellsL vs).toArray et)):=by
  refine dB h hext ?_ (by show E.tk ++ _=_;rw [h.tk]) ?_ (h.fr.alloc _) (nR aW) (.nil hX)
  ·exact {
    len:=h.env.len
    tl:=by show (E.τ ++ _).length=(E.tk ++ _).length;simp [h.env.tl]
    fk:=fun i cs hi=>by
     obtain ⟨b,t,arr,hb,hw,hc⟩:=jU.fk i cs hi;exact ⟨b,t,arr,hb,hw,hc.mono hext⟩
    inj:=h.env.inj
    sub:=jU.sub
    pc:=h.env.pc
    cC:=fun k q' y S3 hy=>by
     rcases hτ k y hy with ⟨ap,fA⟩ | ⟨rfl,rfl⟩
     ·have eX:(E.tk ++ [⟨len,et,ii.size,some es.flatten⟩])[k]? = some q':=S3;rw [cj (by rw [<- h.env.tl];exact ap)] at eX;exact jU.cC k q' y eX fA
     ·have eX:(E.tk ++ [⟨len,et,ii.size,some es.flatten⟩])[E.τ.length]? = some q':=S3;rw [List.getElem?_append_right (by rw [h.env.tl];exact aR _),h.env.tl] at eX;simp only [Nat.sub_self,List.getElem?_cons_zero,oI] at eX;subst eX;refine .inr ⟨w.heap.size,len,(cellsL vs).toArray,rfl,ja w _,⟨by simp [Au],fun cs hc=>by cases hc;exact ⟨JQ,aai⟩⟩,aR _,JV,fun hm=>?_,fun x v hx F0=>?_⟩
      ·have:=h.env.bm hm;omega
      ·have:=World.block_lt_of_cell? w x (h.env.sub x v hx);omega
    jE:=fun k k' y y' g C1 hy fA hg r7=>by
     rcases hτ k y hy with ⟨_,u9⟩ | ⟨rfl,rfl⟩
     ·rcases hτ k' y' fA with ⟨_,kZ⟩ | ⟨rfl,rfl⟩
      ·exact h.env.jE k k' y y' g C1 u9 kZ hg r7
      ·have:=gh k y g u9 hg;simp only [Value.ownBlock,oI] at r7;omega
     ·rcases hτ k' y' fA with ⟨_,kZ⟩ | ⟨rfl,rfl⟩
      ·have:=gh k' y' g kZ r7;simp only [Value.ownBlock,oI] at hg;omega
      ·exact C1 rfl }
  ·exact {
    c:=h.nw.c
    cn:=h.nw.cn
    β:=h.nw.β
    tk:=fun j q0 y0 va BA=>by
     obtain ⟨q',y',h1,h2,h3⟩:=h.nw.tk j q0 y0 va BA;exact ⟨q',y',by show (E.tk ++ _)[j]? = _;rw [cj (gS h1).1];exact h1,by show (E.τ ++ _)[j]? = _;rw [cj (gS h2).1];exact h2,h3⟩
    tn:=fun j y g hj hy hg=>by
     rcases hτ j y hy with ⟨_,u9⟩ | ⟨_,rfl⟩
     ·exact h.nw.tn j y g hj u9 hg
     ·simp only [Value.ownBlock,oI] at hg;have:=h.fr.size;omega
    l0:=h.nw.l0 }
 refine ⟨E2,bG ch hd (.sl 0 (List.replicate len []) (some st.tk.length)) _ ?_,hext,⟨[],by simp [E2]⟩,fun i b hb _=>alloc_old w _ (h.env.bm (mG hb))⟩;unfold Rv;refine ⟨_,_,_,rfl,⟨by rw [List.length_replicate],aR _⟩,fun bp=>⟨rfl,sB _ _ _ _⟩,fun k' eX=>?_⟩;cases eX;refine ⟨⟨len,et,ii.size,some es.flatten⟩,?_,aR _,fun _=>?_⟩
 ·show (E.tk ++ _)[st.tk.length]? = _;rw [h.tk];simp
 ·show (E.τ ++ _)[st.tk.length]? = _;rw [<- h.tk,<- h.env.tl];simp
theorem RH {t d et e jZ n len:Nat} {bb:Bool} {z:List Value} {parts:Array (Nat × Operand)} {es:List (List DV)} (qB:o.op = .buildSlice t len parts) (jj:o.dst=some d) (hT:X.T.find t=some ⟨n,bb,.sl et e jZ,z⟩) (gD:litL e st parts.toList 0=some es)
  (hc:(Nat.beq es.length len && (Nat.blt 0 len && Nat.blt 0 e && Nat.ble (len * e) 16777216))=true) (hd:gp X.nt st.sl (some d)=true) (aW:X.still=false:=by exact rfl) (hX:X.bt=[]:=by exact rfl)
  (hk:go X 4000 k ⟨(d,⟨[],.sl 0 (List.replicate len []) (some st.tk.length)⟩) :: st.sl,st.bx,st.tk ++ [⟨len,et,e,some es.flatten⟩]⟩):Lm X o k st:=(VP qB jj hT gD hc hd aW hX).g hk
end
end Dv
end Go.Proofs.YtadhpeooehkklaaGreat
namespace Go.Proofs.YtadhpeooehkklaaGreat
namespace Dv
open Go Go.RowKit
theorem Fl {E E':En} {x x':DV} (h:∀ z,Rv E x z->Rv E' x' z):∀ {l:List DV} {vs:List Value},(∀ d∈l,∃ v,d = .v v)->RvL E (l ++ [x]) vs->RvL E' (l ++ [x']) vs
 | [],vs,_,hv=>by
  simp only [List.nil_append,RvL] at hv ⊢;obtain ⟨v,s,rfl,h1,h2⟩:=hv;exact ⟨v,s,rfl,h v h1,h2⟩
 | d :: r,vs,hl,hv=>by
  simp only [List.cons_append,RvL] at hv ⊢;obtain ⟨v,s,rfl,h1,h2⟩:=hv;refine ⟨v,s,rfl,?_,Fl h (fun d hd=>hl d (de _ hd)) h2⟩;obtain ⟨u,rfl⟩:=hl d List.mem_cons_self;unfold Rv at h1 ⊢;exact h1
theorem OW {E:En} {w w':World} {v:Value} {l:List DV} {es ns:List (List DV)} {n ty e:Nat} (RI:Env E [] w) (k0:E.tk=[]) (hl:∀ d∈l,∃ v,d = .v v) (yM:∀ x∈ns,x.length=e) (fv:ns.length=n) (gD:es.length=n)
  (hc:po false E w (fun r _ cC=>r = .agg (l ++ [.sl 0 es (some 0)])/\cC=[⟨n,ty,e,some ns.flatten⟩]) v w' true):po false E w (fun d _ _=>d = .agg (l ++ [.sl e ns none])) v w':=by
 obtain ⟨hm,hs,d,os,E2,he,hβ,gZ,hn,y9,rfl,rr⟩:=hc
 have sx:os=[]:=by
  have h1:=he.len;have h2:=RI.len;rw [hβ] at h1;rw [h1] at h2;exact List.eq_nil_of_length_eq_zero h2
 subst sx;have hτl:E2.τ.length=1:=by rw [he.tl,rr];all_goals rfl
 obtain ⟨y,hy⟩:∃ y,E2.τ[0]? = some y:=⟨_,gE (by omega)⟩;have hq:E2.tk[0]? = some ⟨n,ty,e,some ns.flatten⟩:=by rw [rr];all_goals rfl
 have nF:=he.cC 0 _ y hq hy
 have dG:∀ x u,E2.c x=some u->s5 E2 w' y (n * e) x=some u:=fun x u hx=>by
  unfold s5;split
  ·exact he.sub x u hx
  ·exact hx
 refine ⟨hm,hs,.agg (l ++ [.sl e ns none]),[],⟨s5 E2 w' y (n * e),E2.β,[],[]⟩,?_,hβ,?_,?_,?_,rfl⟩
 ·exact {
   len:=he.len
   tl:=rfl
   fk:=fun i cs hi=>by simp at hi
   inj:=he.inj
   sub:=fun x u hx=>by
    rcases fV hx with ⟨_,_,_,h1⟩ | h1
    ·exact h1
    ·exact he.sub x u h1
   pc:=fun x u hx hm=>by
    rcases fV hx with ⟨h1,_⟩ | h1
    ·exact (jg nF h1).2 hm
    ·exact he.pc x u h1 hm
   cC:=fun j q y hj _=>by simp at hj
   jE:=fun j j' y y' g _ hj _ _=>by simp at hj }
 ·show 0=_;rw [k0];all_goals rfl
 ·exact {
   c:=fun x u hx=>dG x u (hn.c x u hx)
   cn:=fun x u hx=>by
    rcases fV hx with ⟨h1,_⟩ | h1
    ·exact .inr (.inl (hn.tn 0 y _ (by rw [k0];exact aR _) hy h1))
    ·exact hn.cn x u h1
   β:=hn.β
   tk:=fun j q0 y0 va _=>by rw [k0] at va;simp at va
   tn:=fun j y g _ hj _=>by simp at hj
   l0:=hn.l0 }
 ·unfold Rv at y9 ⊢;obtain ⟨vs',rfl,hL,Wg⟩:=y9;refine ⟨vs',rfl,Fl (fun z hz=>?_) hl hL,Wg⟩;unfold Rv at hz ⊢;obtain ⟨b,m,cap,rfl,⟨rfl,hmc⟩,hr,aW⟩:=hz;obtain ⟨q',jh,_,hτ⟩:=aW 0 rfl;rw [hq] at jh;simp only [oI] at jh;subst jh;have kZ:=hτ gD;rw [hy] at kZ;simp only [oI] at kZ;subst kZ;refine ⟨b,es.length,cap,rfl,⟨by omega,hmc⟩,fun bp=>?_,fun k' eX=>by cases eX⟩;rcases nF with ⟨h1,h2,h3⟩ | ⟨g,TP,cur,h0,h1,h2,h3,h4,h5,h6⟩
  ·simp only at h2;exact (bp (List.eq_nil_of_length_eq_zero (by omega))).elim
  ·injection h0 with i1 i2 i3
   subst i1;refine ⟨rfl,?_⟩;obtain ⟨h7,h8⟩:=h2.2 _ rfl;refine rvEs_flat (h8.mono (E:=⟨E2.c,[],[],[]⟩) ⟨dG,fun _ _ h=>by simp at h,fun _ _ h=>by simp at h⟩) yM fun j u hj=>?_;rw [cf] at hj;split at hj
   ·rename_i nS;show s5 E2 w' _ (n * e) _=_;unfold s5;rw [ai ⟨rfl,rfl,by simpa [ao] using nS⟩];simp only [ab,ao,Nat.zero_add];rw [cS h1];simpa using hj
   ·cases hj
theorem K6 {E:En} {w w':World} {v:Value} {d:DV} (k0:E.tk=[]) (hc:po false E w (fun r _ cC=>r=d/\cC=[]) v w' true):po false E w (fun r _ _=>r=d) v w':=by
 obtain ⟨hm,hs,d,os,E2,he,hβ,gZ,hn,y9,rfl,rr⟩:=hc;exact ⟨hm,hs,d,os,E2,he,hβ,by rw [rr,k0];exact (rfl:(0:Nat)=0),hn,y9,rfl⟩
theorem RJ {s:Bool} {E:En} {w w':World} {v:Value} {fr:Bool} {A B:DV->List (List DV)->List TkE->Prop} (h:po s E w (fun r o t=>A r o t∨B r o t) v w' fr):po s E w A v w' fr∨po s E w B v w' fr:=by
 obtain ⟨hm,hs,d,os,E2,he,hβ,gZ,hn,y9,h1 | h1⟩:=h
 ·exact .inl ⟨hm,hs,d,os,E2,he,hβ,gZ,hn,y9,h1⟩
 ·exact .inr ⟨hm,hs,d,os,E2,he,hβ,gZ,hn,y9,h1⟩
theorem K7 {s:Bool} {E:En} {w w':World} {v:Value} {fr:Bool} {A B:DV->List (List DV)->List TkE->Prop} (h:po s E w A v w' fr) (hAB:∀ r o t,A r o t->B r o t):po s E w B v w' fr:=by
 obtain ⟨hm,hs,d,os,E2,he,hβ,gZ,hn,y9,h1⟩:=h;exact ⟨hm,hs,d,os,E2,he,hβ,gZ,hn,y9,hAB _ _ _ h1⟩
end Dv
end Go.Proofs.YtadhpeooehkklaaGreat
set_option maxRecDepth 100000
namespace Go.Proofs.YtadhpeooehkklaaGreat
open Go Go.RowKit Dv Go.Proofs.Tryz
def VQ (d:Nd) (v:Val):List dj:=(List.range v.ks.length).map (stpR d v)
theorem K8 (d:Nd) (v:Val) (e:Nat):aU ((List.range e).map (stpR d v)) ++ [jX (stpR d v e)]=aU ((List.range (e + 1)).map (stpR d v)):=by
 rw [List.range_succ];simp [aU]
abbrev OX (d:Nd) (v:Val) (q e:Nat):St:=
 ⟨[(2,⟨[],.loc 0 0⟩),(3,⟨[],.loc 1 0⟩),(5,⟨[],.sl 3 (aU ((List.range e).map (stpR d v))) (some 0)⟩),(9,⟨[],.v (.int .i64 (dVals v.ks).length)⟩),(10,⟨[],.v (.int .i64 e)⟩)],[gL d,dVal v],[⟨q,117,3,none⟩]⟩
theorem HX (d:Nd) (v:Val) (hv:v.wt<=1099511627776) (hk:v.k=d.ag) (h5:5<=d.ag) (HF:d.ag<=8) (h7:d.ag=7->v.ks.length=d.ak.length) (h8:d.ag=8->0<=v.n/\v.n < d.ak.length) :
  aV prog 113 [.agg (gL d),.agg (dVal v)] (.sl 3 (aU (VQ d v)) none):=by
 obtain ⟨ag,aX,lo,hi,most,af,es⟩:=d;obtain ⟨q,z,s,ks⟩:=v;have ez:=aT es;have bH:=bV ks;have eC:=gN ks;rw [Val.wt] at hv;simp only [Val.k,Val.n,Val.ks] at hk h5 HF h7 h8;subst hk;refine eG 55 [.tmp 4] func113 rfl ntmps113 rfl fun _ _ _ _=>?_;refine lJ (fun e=>OX ⟨q,aX,lo,hi,most,af,es⟩ (.mk q z s ks) e e) ks.length (dc 2 ⟨0,117,3,none⟩ rfl rfl rfl pS rfl rfl mi) ?_;intro e he;refine br ?_ ?_<;>intro hL
 ·have ap:e < ks.length:=by simpa [bH,Val.ks] using hL
  have dm:(aU ((List.range e).map (stpR ⟨q,aX,lo,hi,most,af,es⟩ (.mk q z s ks)))).length=e:=by simp [aU]
  have dK:=K8 ⟨q,aX,lo,hi,most,af,es⟩ (.mk q z s ks) e
  have hS:stpR ⟨q,aX,lo,hi,most,af,es⟩ (.mk q z s ks) e=if q=5 then ⟨2,e,ay⟩
   else if q=6 then ⟨4,0,ay⟩
   else if q=7 then ⟨1,0,match es[e]? with | some e=>e.name | none=>ay⟩
   else ⟨5,0,match es[z.toNat]? with | some e=>e.name | none=>ay⟩:=rfl
  refine br ?_ ?_<;>intro c
  ·have c:q=7:=sU c;obtain ⟨x,hx⟩:∃ x,es[e]? = some x:=⟨_,gE (by have:=h7 c;omega)⟩;rw [ah (by omega),ah (by omega),ai c] at hS;simp only [hx] at hS;rw [hS] at dK;refine iX (aE hx) ?_;refine ⟨dm,⟨by rw [dm];simp [maxLen];omega,by rw [dm];simp;omega⟩,?_⟩;exact rE ⟨_,by omega,e + 1,rfl,by omega,rfl⟩ (au 2 rfl (gF (aJ ap (by omega)) dK) rfl rfl rfl (wB2 (aJ ap (by omega)) dK))
  have c7:¬ q=7:=sU c;refine br ?_ ?_<;>intro c
  ·have c:q=5:=sU c;rw [ai c] at hS;rw [hS] at dK;refine ⟨dm,⟨by rw [dm];simp [maxLen];omega,by rw [dm];simp;omega⟩,?_⟩;exact rE ⟨_,by omega,e + 1,rfl,by omega,rfl⟩ (au 2 rfl (gF (aJ ap (by omega)) dK) rfl rfl rfl (wB2 (aJ ap (by omega)) dK))
  have c5:¬ q=5:=sU c;refine br ?_ ?_<;>intro c
  ·have c:q=6:=sU c;rw [ah c5,ai c] at hS;rw [hS] at dK;refine ⟨dm,⟨by rw [dm];simp [maxLen];omega,by rw [dm];simp;omega⟩,?_⟩;exact rE ⟨_,by omega,e + 1,rfl,by omega,rfl⟩ (au 2 rfl (gF (aJ ap (by omega)) dK) rfl rfl rfl (wB2 (aJ ap (by omega)) dK))
  have c6:¬ q=6:=sU c;refine br ?_ ?_<;>intro c
  ·have c:q=8:=sU c;obtain ⟨z0,z1⟩:=h8 c;obtain ⟨x,hx⟩:∃ x,es[z.toNat]? = some x:=⟨_,gE (by omega)⟩;rw [ah c5,ah c6,ah c7] at hS;simp only [hx] at hS;rw [hS] at dK;refine iX (aE hx) ?_;refine ⟨dm,⟨by rw [dm];simp [maxLen];omega,by rw [dm];simp;omega⟩,?_⟩;exact rE ⟨_,by omega,e + 1,rfl,by omega,rfl⟩ (au 2 rfl (gF (aJ ap (by omega)) dK) rfl rfl rfl (wB2 (aJ ap (by omega)) dK))
  ·have c:¬ q=8:=sU c;omega
 ·have aQ:e=ks.length:=by
   have:=hL;simp [bH,Val.ks] at this;omega
  rw [aQ];exact ⟨_,ax,rfl⟩
def K9 (d:Nd) (v:Val) (s:dj):Option Nat:=(List.range v.ks.length).find? fun e=>na (stpR d v e) s
def stepV (ND:List Nd) (v:Val) (i:Int) (s:dj):Option (Nat × Val × Int):=
 match l8 ND i with
 | none=>none
 | some d=>match K9 d v s with
  | none=>none
  | some e=>match v.ks[e]?,(kidsL d v)[e]? with
   | some x,some j=>some (e,x,j)
   | _,_=>none
def getV (ND:List Nd):List dj->Val->Int->Option (Val × Int)
 | [],v,i=>some (v,i)
 | s :: p,v,i=>match stepV ND v i s with
  | none=>none
  | some (_,x,j)=>getV ND p x j
theorem La {f:Nat->Bool} {n e:Nat} (h:(List.range n).find? f=some e):e < n/\f e=true:=by
 have h1:=List.find?_some h;have h2:=List.mem_of_find?_eq_some h;exact ⟨by simpa using h2,h1⟩
theorem yA {ND:List Nd} {v:Val} {i:Int} {s:dj} {e:Nat} {x:Val} {j:Int} (h:stepV ND v i s=some (e,x,j)) :
  ∃ d,l8 ND i=some d/\K9 d v s=some e/\v.ks[e]? = some x/\(kidsL d v)[e]? = some j:=by
 unfold stepV at h;split at h
 ·cases h
 ·rename_i d hd;split at h
  ·cases h
  ·rename_i e' he;split at h
   ·rename_i x' j' hx hj;simp only [oI,Prod.mk.injEq] at h;obtain ⟨rfl,rfl,rfl⟩:=h;exact ⟨d,hd,he,hx,hj⟩
   ·cases h
section
variable {L:Nat} {ND:List Nd} (bw:∀ n∈ND,cK L ND.length n)
include bw
theorem Fm {v:Val} {i:Int} {d:Nd} (hF:VF ND v i d) {e:Nat} {x:Val} (hx:v.ks[e]? = some x):5<=d.ag/\d.ag<=8:=by
 have hN:=bw d (mG (hY hF.aq).2);refine ⟨?_,hN.k8⟩;have h1:=hN.k1;rcases Int.lt_or_le d.ag 5 with h | h
 ·rw [hF.leaf h] at hx;simp at hx
 ·exact h
theorem OY {v:Val} {i:Int} (hf:fitV ND v i=true) {s:dj} {e:Nat} {x:Val} {j:Int} (h:stepV ND v i s=some (e,x,j)):fitV ND x j=true:=by
 obtain ⟨d,hF⟩:=tC bw hf;obtain ⟨d',h1,h2,h3,h4⟩:=yA h;rw [hF.aq] at h1;cases h1;exact ES (hF.kids (Fm bw hF h3).1).2 h3 h4
end
section
variable {L:Nat} {ND:List Nd} (bw:∀ n∈ND,cK L ND.length n)
include bw
end
theorem Jx {p:Nat->Bool}:∀ {n e:Nat},e < n->p e=true->(∀ e' < e,p e'=false)->(List.range n).find? p=some e
 | 0,e,h,_,_=>by omega
 | n + 1,e,h,h1,h2=>by
  rw [List.range_succ,List.find?_append];by_cases he:e < n
  ·rw [Jx he h1 h2];all_goals rfl
  ·have:e=n:=by omega
   subst this;have h3:(List.range e).find? p=none:=List.find?_eq_none.2 fun x hx=>by rw [h2 x (sU hx)];simp
   rw [h3];simp [h1]
theorem RK {p:Nat->Bool} {n:Nat} (h:∀ e < n,p e=false):(List.range n).find? p=none:=List.find?_eq_none.2 fun x hx=>by rw [h x (sU hx)];simp
theorem Bc (a b:dj):na a b=na b a:=by
 rw [Bool.eq_iff_iff,ET,ET];exact eq_comm
abbrev ixSt (l:List dj) (s:dj) (e:Nat):St:=⟨[(0,⟨[],.sl 3 (aU l) none⟩),(3,⟨[],.loc 0 0⟩),(6,⟨[],.sl 3 (aU l) none⟩),(7,⟨[],.v (.int .i64 (aU l).length)⟩),(8,⟨[],.v (.int .i64 e)⟩)],[jX s],[]⟩
theorem HY (f:Nat->dj) (n:Nat) (s:dj) (hn:n<=1099511627776) :
  aV prog 114 [.sl 3 (aU ((List.range n).map f)) none,.agg (jX s)] (.v (.int .i64 (oz ((List.range n).find? fun e=>na (f e) s)))):=by
 have bH:(aU ((List.range n).map f)).length=n:=by rw [ef];simp
 refine eG 19 [.tmp 4] func114 rfl ntmps114 rfl fun _ _ _ _=>?_;refine lI (fun j st=>∃ e:Nat,st=ixSt ((List.range n).map f) s e/\e<=n/\(∀ e' < e,na (f e') s=false)/\j=n - e) ⟨0,rfl,by omega,(fun _ h=>by omega),rfl⟩ (aj ⟨_,rfl⟩ wA rfl rfl rfl wB) ?_;rintro _ st ⟨e,rfl,he,fq,rfl⟩;refine br ?_ ?_<;>intro hL
 ·have ap:e < n:=sV bH hL;have hx:((List.range n).map f)[e]? = some (f e):=by rw [List.getElem?_map,List.getElem?_range ap];all_goals rfl
  refine dI ?_;refine ⟨_,⟨by omega,dR hx⟩,_,Ra _ _ s (f e),?_⟩;refine br ?_ ?_<;>intro c
  ·have c:na s (f e)=true:=c;have:=Jx (p:=fun e=>na (f e) s) ap (by show na (f e) s=true;rw [Bc];exact c) fq;rw [this];exact (rfl:_=_)
  ·have c:na s (f e)=false:=c
   exact rE ⟨_,by omega,e + 1,rfl,by omega,(fun e' h=>by
    rcases Nat.lt_or_ge e' e with h1 | h1
    ·exact fq e' h1
    ·have:e'=e:=by omega
     subst this
     rw [Bc];exact c),rfl⟩ (aj ⟨_,rfl⟩ wA rfl rfl rfl (dt (aJ ap (by omega))))
 ·have aQ:n<=e:=sV bH hL;have:=RK (p:=fun e=>na (f e) s) (n:=n) fun e' h=>fq e' (by omega);rw [this];exact (rfl:_=_)
theorem Fo (d:Nd) (q z:Int) (s:ByteArray):aV prog 113 [.agg (gL d),.agg (dVal (.mk q z s []))] (.sl 3 [] none):=by
 obtain ⟨ag,aX,lo,hi,most,af,es⟩:=d;refine eG 55 [.tmp 4] func113 rfl ntmps113 rfl fun _ _ _ _=>?_;refine bz (fun j st=>st=OX ⟨ag,aX,lo,hi,most,af,es⟩ (.mk q z s []) 0 0) 0 (OX ⟨ag,aX,lo,hi,most,af,es⟩ (.mk q z s []) 0 0) (dc 2 ⟨0,117,3,none⟩ rfl rfl rfl pS rfl rfl mi) rfl ?_;rintro _ st rfl;exact ⟨_,ax,rfl⟩
def kidR (o:Option (Nat × Val × Int)):DV:=match o with
 | some (e,_,j)=>.tup [.v (.int .i64 (e:Nat)),.v (.int .i64 j)]
 | none=>.tup [.v (.int .i64 (-1)),.v (.int .i64 (-1))]
theorem Fp {L:Nat} {ND:List Nd} (bw:∀ n∈ND,cK L ND.length n) {v:Val} (hv:v.wt<=1099511627776) {i:Int} {d:Nd} (hF:VF ND v i d):aV prog 113 [.agg (gL d),.agg (dVal v)] (.sl 3 (aU (VQ d v)) none):=by
 have hN:=bw d (mG (hY hF.aq).2);rcases Int.lt_or_le d.ag 5 with h5 | h5
 ·have h:=hF.leaf h5;obtain ⟨q,z,s,ks⟩:=v;simp only [Val.ks] at h;subst h;exact Fo d q z s
 ·refine HX d v hv hF.k h5 hN.k8 (fun c=>?_) (fun c=>?_)
  ·have:=(hF.kids h5).1;rw [<- this];unfold kidsL;rw [ah (by omega),ai c,List.length_map]
  ·obtain ⟨_,_,_,h3,h4,_⟩:=hF.tag c;exact ⟨h3,h4⟩
theorem OZ {S:Sch} {ND:List Nd} {PC:List DV} (hP:fm S ND PC) {v:Val} (hv:v.wt<=1099511627776) {i:Int} (hf:fitV ND v i=true) (s:dj) :
  aV prog 57 [.pt PC 0,.v (.int .i64 i),.agg (dVal v),.agg (jX s)] (kidR (stepV ND v i s)):=by
 obtain ⟨d,hF⟩:=tC hP.ok hf
 have vX:stepV ND v i s=match K9 d v s with | none=>none | some e=>match v.ks[e]?,(kidsL d v)[e]? with | some x,some j=>some (e,x,j) | _,_=>none:=by
  unfold stepV;rw [hF.aq];all_goals rfl
 have KQ:∀ e,K9 d v s=some e->∃ x j,v.ks[e]? = some x/\(kidsL d v)[e]? = some j/\5<=d.ag:=fun e he=>by
  have ap:=(La he).1;have hx:v.ks[e]? = some v.ks[e]:=gE ap;have h5:=Fm hP.ok hF hx;exact ⟨_,_,hx,gE (by rw [(hF.kids h5.1).1];exact ap),h5.1⟩
 have zM:K9 d v s=(List.range v.ks.length).find? fun e=>na (stpR d v e) s:=rfl;have h1:=Fp hP.ok hv hF;have eC:=gN v.ks;have hvw:v.wt=64 + v.s.size + dZ v.ks:=by cases v;rw [Val.wt];all_goals rfl
 have h2:=HY (stpR d v) v.ks.length s (by omega);obtain ⟨h0,hg⟩:=hY hF.aq;have hN:=hP.ok d (mG hg);have h3:=fun h5=>AO hN h5 v hv;obtain ⟨j0,rfl⟩:∃ j:Nat,i=j:=⟨i.toNat,by omega⟩;have hg:ND[j0]? = some d:=sU hg;have eW:=hP.aq j0 d hg;rw [<- zM] at h2;rw [vX];have hstl:VQ d v=(List.range v.ks.length).map (stpR d v):=rfl;rw [hstl] at h1;generalize (List.range v.ks.length).map (stpR d v)=SL at h1 h2;generalize K9 d v s=o at h2 KQ ⊢;clear vX;obtain ⟨q,z,t,ks⟩:=v;obtain ⟨ag,aX,lo,hi,most,af,es⟩:=d;obtain ⟨sk,sn,ss⟩:=s;refine eG 38 [.tmp 8,.tmp 9] func57 rfl ntmps57 rfl fun _ _ _ _=>?_;refine cP Gv eW ?_;refine dI ?_;refine cD XH h1 ?_;refine cD XI h2 ?_
 cases o with
 | none=>
  exact ⟨_,ax,rfl⟩
 | some e=>
  obtain ⟨x,j,hx,hj,h5⟩:=KQ e rfl;refine cP Xr (h3 h5) ?_;refine dI ?_;refine ⟨_,⟨by simp [oz],by simp [oz];exact Jg hj⟩,?_⟩;simp only [hx,hj];exact ⟨_,ax,rfl⟩
abbrev zp:List DV:=[.v (.int .i64 0),.v (.int .i64 0),.v (.string ay),.v (.slice none 0 0)]
abbrev zeroV:Val:=.mk 0 0 ay []
abbrev tcSt (v:Val) (n e:Nat):St:=
 ⟨[(1,⟨[],.loc 0 0⟩),(2,⟨[],.loc 1 0⟩),(3,⟨[],.sl 4 (dVals (v.ks.take e)) (some 0)⟩),(7,⟨[],.sl 4 (dVals v.ks) none⟩),(8,⟨[],.v (.int .i64 (dVals v.ks).length)⟩),(9,⟨[],.v (.int .i64 e)⟩)],[dVal v,zp],[⟨n,34,4,none⟩]⟩
theorem yB:∀ (k:Nat) (v:Val),v.wt<=k->v.wt<=1099511627776->aV prog 58 [.agg (dVal v)] (.agg (dVal v))
 | 0,v,h,_=>by have:=v.eJ;omega
 | k + 1,.mk q z s ks,h,hb=>by
  have eC:=gN ks;have bH:=bV ks;rw [Val.wt] at h hb;refine eG 22 [.cell 2 34] func58 rfl ntmps58 rfl fun _ _ _ _=>?_;refine lI (fun j st=>∃ e n:Nat,st=tcSt (.mk q z s ks) n e/\n=e/\e<=ks.length/\j=ks.length - e) ⟨0,0,rfl,rfl,by omega,rfl⟩ (dc 2 ⟨0,34,4,none⟩ rfl rfl rfl pS rfl rfl mi) ?_;rintro _ st ⟨e,n,rfl,rfl,he,rfl⟩;refine br ?_ ?_<;>intro hL
  ·have ap:n < ks.length:=by simpa [bH,Val.ks] using hL
   obtain ⟨x,hx⟩:=gX ap;have SY:=jM (mG hx);have hw:=yB k x (by omega) (by omega);have dK:=HD hx;have dm:(dVals (ks.take n)).length=n:=by rw [bV,zLenT];omega
   obtain ⟨xk,xn,xs,xl⟩:=x;refine iX (iq hx) ?_;refine cP Xs hw ?_;refine ⟨dm,⟨by simp only [Val.ks];rw [dm];simp [maxLen];omega,by simp only [Val.ks];rw [dm];simp;omega⟩,?_⟩;exact rE ⟨_,by omega,n + 1,n + 1,rfl,rfl,by omega,rfl⟩ (au 2 rfl (gF (aJ ap (by omega)) dK) rfl rfl rfl (wB2 (aJ ap (by omega)) dK))
  ·have aQ:n=ks.length:=by
    have:=hL;simp [bH,Val.ks] at this;omega
   subst aQ;have h1:dVals (Val.mk q z s ks).ks=dVals ks:=rfl;have h2:ks.take ks.length=ks:=List.take_length;have h3:(Val.mk q z s ks).ks.take ks.length=ks:=h2;rw [h3];exact ⟨_,ax,rfl⟩
def resG (o:Option (Val × Int)):DV:=match o with
 | some (x,j)=>.tup [.agg (dVal x),.v (.int .i64 j),.v (.bool true)]
 | none=>.tup [.agg (dVal zeroV),.v (.int .i64 (-1)),.v (.bool false)]
abbrev aaj (PC:List DV) (p:List dj) (v:Val) (i:Int) (e:Nat):St:=
 ⟨[(0,⟨[],.pt PC 0⟩),(1,⟨[],.v (.int .i64 i)⟩),(6,⟨[],.loc 0 0⟩),(8,⟨[],.loc 1 0⟩),(21,⟨[],.sl 3 (aU p) none⟩),(22,⟨[],.v (.int .i64 (aU p).length)⟩),(23,⟨[],.v (.int .i64 e)⟩)],[dVal v,zp],[]⟩
theorem tget_spec {S:Sch} {ND:List Nd} {PC:List DV} (hP:fm S ND PC) {v:Val} (hv:v.wt<=1099511627776) (i:Int) (p:List dj) (hp:p.length<=1099511627776) :
  aV prog 17 [.pt PC 0,.v (.int .i64 i),.agg (dVal v),.sl 3 (aU p) none] (resG (if fitV ND v i=true then getV ND p v i else none)):=by
 have nC:=qj hP _ v (aR _) hv i;have lU:=ef p
 have iv:∀ e vc ic,e<=p.length->getV ND (p.drop e) vc ic=match p[e]? with | none=>some (vc,ic) | some s=>match stepV ND vc ic s with | none=>none | some (_,x,j)=>getV ND (p.drop (e + 1)) x j:=fun e vc ic he=>by
  cases hs:p[e]? with
  | none=>rw [List.drop_eq_nil_of_le (List.getElem?_eq_none_iff.1 hs)];all_goals rfl
  | some s=>
   obtain ⟨h1,h2⟩:=List.getElem?_eq_some_iff.1 hs;rw [List.drop_eq_getElem_cons h1,h2,getV];all_goals rfl
 generalize hR:(if fitV ND v i=true then getV ND p v i else none)=R;have hvq:dVal v=dVal v:=rfl;generalize hvV:v=V at *;obtain ⟨q,z,s,ks⟩:=V;refine eG 48 [.cell 8 34,.tmp 9,.tmp 10] func17 rfl ntmps17 rfl fun _ _ _ _=>?_;refine cP Mg nC ?_;refine br ?_ ?_<;>intro c
 ·have c:fitV ND (.mk q z s ks) i=false:=sU c;rw [c] at hR;subst hR;exact ⟨_,ax,rfl⟩
 have c:fitV ND (.mk q z s ks) i=true:=sU c;rw [ai c] at hR;refine bz (fun j st=>∃ (e:Nat) (vc:Val) (ic:Int),st=aaj PC p vc ic e/\e<=p.length/\getV ND (p.drop e) vc ic=R/\fitV ND vc ic=true/\vc.wt<=1099511627776/\j=p.length - e) p.length (aaj PC p (.mk q z s ks) i 0) (au 2 rfl pS rfl rfl rfl mi) ⟨0,_,_,rfl,by omega,hR,c,hv,by omega⟩ ?_;rintro _ st ⟨e,vc,ic,rfl,he,hg,hfc,hvc,rfl⟩;have iv:=iv e vc ic he;rw [hg] at iv;refine br ?_ ?_<;>intro hL
 ·have ap:e < p.length:=sV lU hL;obtain ⟨y,hy⟩:=gX ap;rw [hy] at iv;simp only at iv;have hk:=OZ hP hvc hfc y;have hsf:=@OY _ _ hP.ok vc ic hfc y;have Q1:=@yA ND vc ic y;generalize stepV ND vc ic y=o at hk iv hsf Q1;obtain ⟨yk,yn,ys⟩:=y;obtain ⟨ck,cn,cs,cks⟩:=vc;refine iX (dR hy) ?_;refine cP en57 hk ?_
  cases o with
  | none=>
   simp only at iv;subst iv;exact ⟨_,ax,rfl⟩
  | some o=>
   obtain ⟨e2,x,j⟩:=o;obtain ⟨d,_,_,hx,_⟩:=Q1 rfl;have hxf:=hsf rfl;simp only [Val.ks] at hx;have SY:=jM (mG hx);rw [Val.wt] at hvc;simp only at iv;refine iX (by simpa using iq hx) ?_;obtain ⟨xk,xn,xs,xl⟩:=x;exact ⟨aaj PC p (.mk xk xn xs xl) j (e + 1),(au 2 rfl (ny (aJ ap (by omega))) rfl rfl rfl (dt (aJ ap (by omega)))),p.length - (e + 1),by omega,e + 1,_,_,rfl,by omega,iv.symm,hxf,by omega,rfl⟩
 ·have aQ:e=p.length:=sW lU hL;have:p[e]? = none:=cR (by omega);rw [this] at iv;simp only at iv;subst iv;have hw:=yB _ vc (aR _) hvc;obtain ⟨ck,cn,cs,cks⟩:=vc;refine cP Xs hw ?_;exact ⟨_,ax,rfl⟩
theorem tO {α:Type} {c:Nat} {x:List α}:∀ {l:List (List α)} {e:Nat},(∀ y∈l,y.length=c)->e < l.length->(l.set e x).flatten=l.flatten.take (e * c) ++ x ++ l.flatten.drop (e * c + c)
 | [],e,_,h=>by simp at h
 | y :: r,0,hl,h=>by
  have hy:=hl y (by simp);subst hy;simp
 | y :: r,e + 1,hl,h=>by
  have hy:=hl y (by simp);have ih:=tO (x:=x) (l:=r) (e:=e) (fun z hz=>hl z (by simp [hz])) (sU h);have h1:(e + 1) * c=y.length + e * c:=by rw [hy,Nat.add_mul,Nat.one_mul,Nat.add_comm]
  have h2:(e + 1) * c + c=y.length + (e * c + c):=by rw [h1];omega
  rw [List.set_cons_succ,List.flatten_cons,List.flatten_cons,ih,h2,h1,List.take_length_add_append,List.drop_length_add_append];simp
theorem iu:∀ (l:List Val),∀ x∈dVals l,x.length=4
 | [],x,h=>by simp [dVals] at h
 | .mk _ _ _ _ :: r,x,h=>by
  rw [dVals] at h;rcases bI h with h | h
  ·rw [h];all_goals rfl
  ·exact iu r x h
theorem Bd (l:List Val) (e:Nat) (y:Val):dVals (l.set e y)=(dVals l).set e (dVal y):=by rw [bU,bU,List.map_set]
def CM (v:Val) (r:DV) (cC:List TkE):Prop:=
 (r = .agg ([.v (.int .i64 v.k),.v (.int .i64 v.n),.v (.string v.s)] ++ [.sl 0 (List.replicate v.ks.length []) (some 0)])/\cC=[⟨v.ks.length,34,4,some (dVals v.ks).flatten⟩])∨(v.ks=[]/\r = .agg (dVal v)/\cC=[])
theorem CN {P:Program} {f:FuncId} {args:List DV} {v:Val} (hc:V9 P f args [] [] (fun r _ cC=>CM v r cC)):aV P f args (.agg (dVal v)):=by
 intro E w vs RI k0 hv;refine (hc E w vs RI k0 hv).mono ?_;rintro ex w' ⟨x,rfl,h⟩;obtain ⟨k,n,s,ks⟩:=v;rcases RJ h with h | h
 ·exact ⟨x,rfl,OW (l:=[.v (.int .i64 k),.v (.int .i64 n),.v (.string s)]) RI k0 (by simp) (iu ks) (bV ks) List.length_replicate h⟩
 ·refine ⟨x,rfl,K6 k0 (K7 h fun r o t ht=>ht.2)⟩
section
variable (PC:List DV) (ND:List Nd) (D:List Nat) (K:List Bool) (sz ot:List Nat) {L:Nat}
abbrev O0 (n:Nd) (cs:List DV) (e:Nat):St:=
 ⟨[(0,⟨[],.pt (ng PC ND D K sz ot) 0⟩),(4,⟨[],.loc 0 0⟩),(6,⟨[],.loc 2 0⟩),(30,⟨[],.sl 10 (cG n.ak) none⟩),(31,⟨[],.v (.int .i64 (cG n.ak).length)⟩),(32,⟨[],.v (.int .i64 e)⟩)],[zp,gL n,[.v (.int .i64 7),.v (.int .i64 0),.v (.string .empty),.sl 0 (List.replicate e []) (some 0)]],[⟨e,34,4,some cs⟩]⟩
theorem one_f (hO:gQ ND D) (bw:∀ n∈ND,cK L ND.length n) (bQ:∀ n∈ND,n.ak.length<=1099511627776):∀ (f i:Nat),i < ND.length->0 < D.getD i 0->D.getD i 0<=f->V9 prog 78 [.pt (ng PC ND D K sz ot) 0,.v (.int .i64 i)] [] [] (fun r _ cC=>CM (firstV ND D f i) r cC)
 | 0,i,_,h0,h1=>by omega
 | f + 1,i,hi,h0,h1=>by
  have ih:=fun j hj h0 h1=>CN (one_f hO bw bQ f j hj h0 h1);obtain ⟨n,hn⟩:∃ n,ND[i]? = some n:=⟨_,gE hi⟩;have iM:=mG hn;have hN:=bw n iM;have zB:=hO.Wy hn h0;have Gl:=hO.PE hn h0;have zn:=choose_spec PC ND D K sz ot hO.len hN (bQ n iM);have ez:=bQ n iM;have aZ:=hN.fU;have dn:=hN.bare
  have hF:firstV ND D (f + 1) i=if n.ag=2 then dN 2 n.lo
   else if n.ag=7 then .mk 7 0 ay (n.ak.map fun e=>firstV ND D f e.to.toNat)
   else if n.ag=8 then (match bD D n.ak with | some c=>tagV (firstV ND D f) n.ak c | none=>dN 8 0)
   else dN n.ag 0:=by rw [firstV,hn];all_goals rfl
  generalize firstV ND D (f + 1) i=F at hF;generalize D.getD i 0=di at zB Gl h1;obtain ⟨ag,aX,lo,eQ,most,af,es⟩:=n;simp only at zB Gl zn aZ ez hF dn;have bH:=aT es;refine vb (s:=false) (bt:=[]) (mu:=[65]) (hbt:=fun p hp=>by cases hp) (fr:=true) (P:=prog) tt zP 5000 68 [.cell 4 34] func78 rfl ntmps78 rfl (nL rfl) (fun _ _ _ _=>?_);refine iX (bZ hn) ?_;refine br ?_ ?_<;>intro c2
  ·have c2:ag=2:=sU c2;rw [ai c2] at hF;have hΦ:CM F (.agg (dVal (dN ag lo))) []:=by rw [hF,c2];exact .inr ⟨rfl,rfl,rfl⟩
   exact ⟨.agg (dVal (dN ag lo)),[],ax,rfl,hΦ⟩
  have c2:¬ ag=2:=sU c2;rw [ah c2] at hF;refine br ?_ ?_<;>intro c7
  ·have c7:ag=7:=sU c7;rw [ai c7] at hF;have zB:=zB c7;refine lI (fun j st=>∃ (e:Nat) (cs:List DV),st=O0 PC ND D K sz ot ⟨ag,aX,lo,eQ,most,af,es⟩ cs e/\cs=(dVals ((es.take e).map fun e=>firstV ND D f e.to.toNat)).flatten/\e<=es.length/\j=es.length - e) ⟨0,[],rfl,rfl,by omega,rfl⟩ (dc 3 ⟨0,34,4,some []⟩ rfl rfl rfl (ny c7) rfl rfl (dt c7)) ?_;rintro j st ⟨e,cs,rfl,dr,he,rfl⟩;refine br ?_ ?_<;>intro hL
   ·have ap:e < es.length:=sV bH hL;obtain ⟨x,hx⟩:=gX ap;obtain ⟨yU,hx1⟩:=zB x (mG hx)
    have nM:x.bare=false:=by
     cases hb:x.bare with
     | false=>rfl
     | true=>have:=dn x (mG hx) hb;omega
    obtain ⟨k,hk,eC⟩:=(aZ x (mG hx)).to1 nM;have Vs:cg D x=D.getD k 0:=by unfold cg;rw [hk,ej]
    have cu:=ih k eC (by omega) (by omega)
    have dK:(dVals ((es.take (e + 1)).map fun e=>firstV ND D f e.to.toNat)).flatten=cs ++ dVal (firstV ND D f k):=by
     rw [dr,dE hx,List.map_append,bU,bU];simp [hk]
    generalize firstV ND D f k=u at cu dK;obtain ⟨uk,un,us,ul⟩:=u;obtain ⟨en,eb,ea,et,vC,ew,yQ,yR,yS,yT⟩:=x;simp only at hk;subst hk;refine iX (aE hx) ?_;refine dS ?_;refine cD zc cu ?_;refine ⟨⟨⟨List.length_replicate,by simp⟩,by simp [maxLen];omega,by simp;omega⟩,?_⟩;exact ⟨O0 PC ND D K sz ot ⟨ag,aX,lo,eQ,most,af,es⟩ _ (e + 1),(au 3 rfl (ny (aJ ap (by omega))) rfl rfl rfl (dt (aJ ap (by omega)))),es.length - (e + 1),by omega,e + 1,_,rfl,dK.symm,by omega,rfl⟩
   ·have aQ:e=es.length:=sW bH hL;subst aQ;rw [List.take_length] at dr
    have hΦ:CM F (.agg [.v (.int .i64 7),.v (.int .i64 0),.v (.string .empty),.sl 0 (List.replicate es.length []) (some 0)]) [⟨es.length,34,4,some cs⟩]:=by
     rw [hF,dr];refine .inl ⟨?_,?_⟩
     ·simp [Val.k,Val.n,Val.s,Val.ks];rfl
     ·simp [Val.ks]
    exact ⟨.agg [.v (.int .i64 7),.v (.int .i64 0),.v (.string .empty),.sl 0 (List.replicate es.length []) (some 0)],[],mj,rfl,hΦ⟩
  have c7:¬ ag=7:=sU c7;rw [ah c7] at hF;refine br ?_ ?_<;>intro c8
  ·have c8:ag=8:=sU c8;subst c8;obtain ⟨c,x,hc,hx,hp⟩:=Gl rfl;rw [ai rfl,hc] at hF;rw [hc] at zn;refine cP Iz zn ?_;refine ⟨_,⟨cH _,aE hx⟩,?_⟩;refine br ?_ ?_<;>intro cb
   ·have cb:x.bare=false:=sU cb;obtain ⟨yU,hx1⟩:=hp cb;obtain ⟨k,hk,eC⟩:=(aZ x (mG hx)).to1 cb;have Vs:cg D x=D.getD k 0:=by unfold cg;rw [hk,ej]
    have cu:=ih k eC (by omega) (by omega);have hF2:F = .mk 8 c ay [firstV ND D f k]:=by rw [hF];simp only [tagV,hx,cb];rw [hk];all_goals rfl
    generalize firstV ND D f k=u at cu hF2;obtain ⟨uk,un,us,ul⟩:=u;obtain ⟨en,eb,ea,et,vC,ew,yQ,yR,yS,yT⟩:=x;simp only at hk;subst hk;refine cP zc cu ?_;refine RH rfl rfl rfl rfl rfl rfl (hk:=?_)
    have hΦ:CM F (.agg [.v (.int .i64 8),.v (.int .i64 (c:Nat)),.v (.string .empty),.sl 0 (List.replicate 1 []) (some 0)]) [⟨1,34,4,some (dVal (.mk uk un us ul) ++ [])⟩]:=by
     rw [hF2];exact .inl ⟨rfl,rfl⟩
    exact ⟨.agg [.v (.int .i64 8),.v (.int .i64 (c:Nat)),.v (.string .empty),.sl 0 (List.replicate 1 []) (some 0)],[],mj,rfl,hΦ⟩
   ·have cb:x.bare=true:=sU cb
    have hΦ:CM F (.agg (dVal (dN 8 c))) []:=by
     rw [hF];simp only [tagV,hx,cb,if_true];exact .inr ⟨rfl,rfl,rfl⟩
    exact ⟨.agg (dVal (dN 8 c)),[],ax,rfl,hΦ⟩
  ·have c8:¬ ag=8:=sU c8;rw [ah c8] at hF;have hΦ:CM F (.agg (dVal (dN ag 0))) []:=by rw [hF];exact .inr ⟨rfl,rfl,rfl⟩
   exact ⟨.agg (dVal (dN ag 0)),[],ax,rfl,hΦ⟩
end
theorem CO {D:List Nat} {e:Ed} (h:ed D e=true) (hb:e.bare=false):0 < cg D e:=by
 unfold ed at h;rw [hb,Bool.false_or] at h;exact of_decide_eq_true h
theorem fstV_eq {ND:List Nd} {D:List Nat} (h:gQ ND D) {i:Nat} {n:Nd} (hn:ND[i]? = some n) (h0:0 < D.getD i 0):bX ND D i=if n.ag=2 then dN 2 n.lo
   else if n.ag=7 then .mk 7 0 ay (n.ak.map fun e=>bX ND D e.to.toNat)
   else if n.ag=8 then (match bD D n.ak with | some c=>tagV (bX ND D) n.ak c | none=>dN 8 0)
   else dN n.ag 0:=by
 obtain ⟨d,hd⟩:∃ d,D.getD i 0=d + 1:=⟨D.getD i 0 - 1,by omega⟩;rw [<- qq h h0 (aR _),hd,firstV,hn];simp only;split
 ·rfl
 ·split
  ·rename_i h7;refine congrArg (Val.mk 7 0 ay) (List.map_congr_left fun e he=>?_);obtain ⟨h2,h3⟩:=h.Wy hn h0 h7 e he;exact qq h h2 (by unfold cg at h3;omega)
  ·split
   ·rename_i h8;obtain ⟨c,e,hc,he,hp⟩:=h.PE hn h0 h8;rw [hc];refine yu fun e' pT hb=>?_;rw [he] at pT;cases pT;obtain ⟨h2,h3⟩:=hp hb;exact qq h h2 (by unfold cg at h3;omega)
   ·rfl
section
variable (PC:List DV) (ND:List Nd) (D:List Nat) (K:List Bool) (sz T:List Nat) {L:Nat}
theorem Fq (hO:gQ ND D) (bw:∀ n∈ND,cK L ND.length n) (bQ:∀ n∈ND,n.ak.length<=1099511627776) (Tg:∀ n∈ND,n.ag=2 -> -9223372036854775808<=n.lo/\n.hi<=9223372036854775807) (VO:K.length=ND.length) (hKs:∀ i n,ND[i]? = some n->K.getD i false=true->eN n D K=true)
  (hT:∀ i,T.getD i 0≠0->∃ n,ND[i]? = some n/\K.getD i false=true/\T.getD i 0=othE T (eO sz D K n)):∀ (f i:Nat),T.getD i 0≠0->T.getD i 0<=f->T.getD i 0 < 4097->aV prog 79 [.pt (ng PC ND D K sz T) 0,.v (.int .i64 i)] (.agg (dVal (dF ND D K f i)))
 | 0,i,h0,h1,_=>by omega
 | f + 1,i,h0,h1,h2=>by
  obtain ⟨n,hn,hKi,hv⟩:=hT i h0;have hi:=(gS hn).1;have iM:=mG hn;have hN:=bw n iM;have vX:=hKs i n hn hKi;have O1:=yy hN vX;have hDi:0 < D.getD i 0:=by rw [hO.get i n hn];exact yi hN vX
  have cu:=fun k hk hp=>one_f PC ND D K sz T hO bw bQ ND.length k hk hp (hO.le k)
  have aak:∀ s j,1<=s->T.getD i 0=othE T (s,some j)->aV prog 79 [.pt (ng PC ND D K sz T) 0,.v (.int .i64 j)] (.agg (dVal (dF ND D K f j))):=fun s j hs h=>by
   have y5:T.getD j 0≠0:=fun hj=>h0 (by rw [h];simp only [othE];rw [ai hj])
   have ap:T.getD j 0 < T.getD i 0:=by
    have h':=h;simp only [othE] at h';rw [ah y5] at h';unfold bf at h';omega
   exact Fq hO bw bQ Tg VO hKs hT f j y5 (by omega) (by omega)
  have zn:=choose_spec PC ND D K sz T hO.len hN (bQ n iM);have F5:=yo PC ND D K sz T hO.len hN (bQ n iM);have OJ:=fun h=>pI PC ND D K sz T VO hN h (bQ n iM);have Gl:=hO.PE hn hDi;have ez:=bQ n iM;have aZ:=hN.fU;have dn:=hN.bare;have O2:=hN.one;have hp:=E7 sz D K n;have hF:dF ND D K (f + 1) i=CI (bX ND D) (dF ND D K f) D K n:=by rw [dF,hn]
  have hF1:=fstV_eq hO hn hDi;have rR:=cu i hi hDi;rw [show firstV ND D ND.length i=bX ND D i from rfl,hF1] at rR
  have Jy:∀ {x:Ed},x∈n.ak->x.bare=false->0 < cg D x->∃ k:Nat,x.to=k/\k < ND.length/\aV prog 78 [.pt (ng PC ND D K sz T) 0,.v (.int .i64 k)] (.agg (dVal (bX ND D k))):=fun {x} hx hb h=>by
   obtain ⟨k,hk,eC⟩:=(aZ x hx).to1 hb;exact ⟨k,hk,eC,CN (cu k eC (by unfold cg at h;rw [hk,ej] at h;exact h))⟩
  rw [hF];clear hF hF1;obtain ⟨ag,aX,lo,eQ,most,af,es⟩:=n;simp only at hv Gl zn F5 OJ ez aZ dn O2 rR Jy;have h7:=O1.c7;have h8:=O1.c8;simp only at h7 h8;refine eG 105 [.cell 4 34] func79 rfl ntmps79 rfl fun _ _ _ _=>?_;refine iX (bZ hn) ?_;refine br ?_ ?_<;>intro c2
  ·have c2:ag=2:=sU c2;subst c2;have hlo:lo < eQ:=by simpa [eN] using vX
   have hr:=Tg _ iM rfl;simp only at hr;have hw:IntKind.i64.wrap (lo + 1)=lo + 1:=wrap64 (by omega) (by omega);exact ⟨.agg (dVal (dN 2 (lo + 1))),(gU hw),rfl⟩
  have c2:¬ ag=2:=sU c2;refine br ?_ ?_<;>intro c3
  ·have c3:ag=3:=sU c3;subst c3;exact ⟨.agg (dVal (.mk 3 0 ⟨#[97]⟩ [])),ax,rfl⟩
  have c3:¬ ag=3:=sU c3;refine br (fun d5=>?_) (fun c5=>?_)
  ·have c5:ag=5:=sU d5;subst c5;obtain ⟨x,hx,nM,_⟩:=O2 (.inl rfl);subst hx
   have CE:ed D x=true:=by
    cases h:ed D x with
    | true=>rfl
    | false=>simp [eN,manyN,h] at vX
   obtain ⟨k,hk,eC,Tu⟩:=Jy List.mem_cons_self nM (CO CE nM)
   have hG:CI (bX ND D) (dF ND D K f) D K ⟨5,aX,lo,eQ,most,af,[x]⟩ = .mk 5 0 ay [bX ND D k]:=by
    show Val.mk 5 0 ay [bX ND D x.to.toNat]=_;rw [hk,ej]
   rw [hG];generalize bX ND D k=u at Tu;obtain ⟨uk,un,us,ul⟩:=u;obtain ⟨en,eb,ea,et,vC,ew,yQ,yR,yS,yT⟩:=x;simp only at hk;subst hk;refine ⟨_,⟨by omega,rfl⟩,?_⟩;refine cP zc Tu ?_;exact ⟨.agg (dVal (.mk 5 0 ay [.mk uk un us ul])),ax,rfl⟩
  have c5:¬ ag=5:=sU c5;refine br ?_ ?_<;>intro c6
  ·have c6:ag=6:=sU c6;subst c6;obtain ⟨x,hx,nM,_⟩:=O2 (.inr rfl);subst hx
   have CE:ed D x=true:=by
    cases h:ed D x with
    | true=>rfl
    | false=>simp [eN,manyN,h] at vX
   obtain ⟨k,hk,eC,Tu⟩:=Jy List.mem_cons_self nM (CO CE nM)
   have hG:CI (bX ND D) (dF ND D K f) D K ⟨6,aX,lo,eQ,most,af,[x]⟩ = .mk 6 0 ay [bX ND D k]:=by
    show Val.mk 6 0 ay [bX ND D x.to.toNat]=_;rw [hk,ej]
   rw [hG];generalize bX ND D k=u at Tu;obtain ⟨uk,un,us,ul⟩:=u;obtain ⟨en,eb,ea,et,vC,ew,yQ,yR,yS,yT⟩:=x;simp only at hk;subst hk;refine ⟨_,⟨by omega,rfl⟩,?_⟩;refine cP zc Tu ?_;exact ⟨.agg (dVal (.mk 6 0 ay [.mk uk un us ul])),ax,rfl⟩
  have c6:¬ ag=6:=sU c6;refine br ?_ ?_<;>intro c7
  ·have c7:ag=7:=sU c7;subst c7;have OJ:=OJ rfl;obtain ⟨c,x,hc,hx,nM⟩:=h7 rfl;rw [hc] at OJ;rw [show eO sz D K ⟨7,aX,lo,eQ,most,af,es⟩=(sumX sz c es 0 1,some x.to.toNat) by simp [eO,hc,hx]] at hv;have u1:=aak _ _ (nf (by omega)) hv;obtain ⟨k,hk,eC⟩:=(aZ x (mG hx)).to1 nM;have eS:=(gS hx).1
   have hG:CI (bX ND D) (dF ND D K f) D K ⟨7,aX,lo,eQ,most,af,es⟩ = .mk 7 0 ay ((es.map fun e=>bX ND D e.to.toNat).set c (dF ND D K f k)):=by
    show (match ym K es with | some c=>(match es[c]? with | some e=>Val.mk 7 0 ay ((es.map fun e:Ed=>bX ND D e.to.toNat).set c (dF ND D K f e.to.toNat)) | none=>dN 7 0) | none=>dN 7 0)=_;rw [hc];simp only [hx];rw [hk,ej]
   rw [hG];rw [hk,ej] at u1;have Tv:V9 prog 78 [.pt (ng PC ND D K sz T) 0,.v (.int .i64 i)] [] [] (fun r _ cC=>CM (.mk 7 0 ay (es.map fun e=>bX ND D e.to.toNat)) r cC):=rR;have eC:(es.map fun e=>bX ND D e.to.toNat).length=es.length:=List.length_map _;generalize (es.map fun e=>bX ND D e.to.toNat)=ks at Tv eC;generalize dF ND D K f k=u at u1;have Fs:=tO (x:=dVal u) (iu ks) (e:=c) (by rw [bV];omega);rw [<- Bd] at Fs;have Gf:=iu (ks.set c u);have nK:(dVals (ks.set c u)).length=ks.length:=by rw [bV,List.length_set]
   obtain ⟨uk,un,us,ul⟩:=u;obtain ⟨en,eb,ea,et,vC,ew,yQ,yR,yS,yT⟩:=x;simp only at hk;subst hk;refine OV zc rfl Tv ax (fun r1 cC hr=>?_);rcases hr with ⟨rfl,rfl⟩ | ⟨h,_⟩
   ·refine cP Si OJ ?_;refine dS ?_;refine ⟨_,⟨cH _,aE hx⟩,?_⟩;refine Bb (e:=4) (es:=List.replicate ks.length []) (m:=ks.length) Us rfl u1 ax ⟨rfl,rfl,rfl⟩ ⟨rfl,rfl,rfl⟩ rfl rfl rfl rfl rfl rfl (by decide) rfl rfl rfl List.length_replicate ⟨cH _,by show (c:Int) < _;omega⟩ rfl ?_;refine ⟨_,GY (j:=2) (o:=3) (k:=0) (ty:=34) (e:=4) (ocs:=[.v (.int .i64 7),.v (.int .i64 0),.v (.string ay),.sl 0 (List.replicate ks.length []) (some 0)]) (n:=ks.length) (es:=List.replicate ks.length []) (ns:=dVals (ks.set c (.mk uk un us ul))) ?_ Gf nK rfl rfl List.length_replicate,?_⟩
    ·rw [Fs];rfl
    ·exact ⟨.agg (dVal (.mk 7 0 ay (ks.set c (.mk uk un us ul)))),ax,rfl⟩
   ·have h:ks=[]:=h;rw [h] at eC;simp only [List.length_nil] at eC;omega
  have c7:¬ ag=7:=sU c7;refine br ?_ ?_<;>intro c8
  ·have c8:ag=8:=sU c8;subst c8
   cases ht:ly D es with
   | some c=>
    rw [ht] at F5;obtain ⟨x,hx,CE⟩:=tI ht
    have hG:CI (bX ND D) (dF ND D K f) D K ⟨8,aX,lo,eQ,most,af,es⟩=tagV (bX ND D) es c:=by
     show (match ly D es with | some c=>tagV (bX ND D) es c | none=>(match bD D es with | some c=>(match es[c]? with | some e=>Val.mk 8 c ay [dF ND D K f e.to.toNat] | none=>dN 8 c) | none=>dN 8 0))=_;rw [ht]
    rw [hG];refine cP Mm F5 ?_;refine ⟨_,⟨cH _,aE hx⟩,?_⟩;refine br ?_ ?_<;>intro cb
    ·have cb:x.bare=false:=sU cb;obtain ⟨k,hk,eC,Tu⟩:=Jy (mG hx) cb (CO CE cb);rw [show tagV (bX ND D) es c = .mk 8 c ay [bX ND D k] by simp only [tagV,hx,cb];rw [hk];rfl];generalize bX ND D k=u at Tu;obtain ⟨uk,un,us,ul⟩:=u;obtain ⟨en,eb,ea,et,vC,ew,yQ,yR,yS,yT⟩:=x;simp only at hk;subst hk;refine cP zc Tu ?_;exact ⟨.agg (dVal (.mk 8 c ay [.mk uk un us ul])),ax,rfl⟩
    ·have cb:x.bare=true:=sU cb;rw [show tagV (bX ND D) es c=dN 8 c by simp only [tagV,hx,cb];rfl];exact ⟨.agg (dVal (dN 8 c)),ax,rfl⟩
   | none=>
    rw [ht] at F5;obtain ⟨c,x,hc,hx,nM⟩:=h8 rfl ht;rw [show eO sz D K ⟨8,aX,lo,eQ,most,af,es⟩=(1,some x.to.toNat) by simp [eO,ht,hc,hx]] at hv;have u1:=aak _ _ (aR 1) hv;obtain ⟨k,hk,eC⟩:=(aZ x (mG hx)).to1 nM
    have hG:CI (bX ND D) (dF ND D K f) D K ⟨8,aX,lo,eQ,most,af,es⟩ = .mk 8 c ay [dF ND D K f k]:=by
     show (match ly D es with | some c=>tagV (bX ND D) es c | none=>(match bD D es with | some c=>(match es[c]? with | some e=>Val.mk 8 c ay [dF ND D K f e.to.toNat] | none=>dN 8 c) | none=>dN 8 0))=_;rw [ht];simp only [hc,hx];rw [hk,ej]
    rw [hG];rw [hk,ej] at u1;have Fu:V9 prog 78 [.pt (ng PC ND D K sz T) 0,.v (.int .i64 i)] [] [] (fun r _ cC=>CM (match bD D es with | some c=>tagV (bX ND D) es c | none=>dN 8 0) r cC):=rR;rw [hc] at Fu;simp only at Fu;rw [show tagV (bX ND D) es c = .mk 8 c ay [bX ND D k] by simp only [tagV,hx,nM];rw [hk];rfl] at Fu;generalize bX ND D k=u0 at Fu;generalize dF ND D K f k=u at u1;have Fs:=tO (x:=dVal u) (iu [u0]) (e:=0) (by rw [bV];simp);rw [<- Bd] at Fs;have Gf:=iu ([u0].set 0 u);have nK:(dVals ([u0].set 0 u)).length=1:=by rw [bV,List.length_set];all_goals rfl
    obtain ⟨uk,un,us,ul⟩:=u;obtain ⟨en,eb,ea,et,vC,ew,yQ,yR,yS,yT⟩:=x;simp only at hk;subst hk;refine cP Mm F5 ?_;refine OV zc rfl Fu ax (fun r1 cC hr=>?_);rcases hr with ⟨rfl,rfl⟩ | ⟨h,_⟩
    ·refine dS ?_;refine ⟨_,⟨cH _,aE hx⟩,?_⟩;refine Bb (e:=4) (es:=List.replicate 1 []) (m:=1) Us rfl u1 ax ⟨rfl,rfl,rfl⟩ ⟨rfl,rfl,rfl⟩ rfl rfl rfl rfl rfl rfl (by decide) rfl rfl rfl List.length_replicate ⟨by omega,by omega⟩ rfl ?_;refine ⟨_,GY (j:=2) (o:=3) (k:=0) (ty:=34) (e:=4) (ocs:=[.v (.int .i64 8),.v (.int .i64 (c:Nat)),.v (.string ay),.sl 0 (List.replicate 1 []) (some 0)]) (n:=1) (es:=List.replicate 1 []) (ns:=dVals ([u0].set 0 (.mk uk un us ul))) ?_ Gf nK rfl rfl List.length_replicate,?_⟩
     ·rw [Fs];rfl
     ·exact ⟨.agg (dVal (.mk 8 c ay [.mk uk un us ul])),ax,rfl⟩
    ·have h : [u0]=[]:=h;cases h
  ·have c8:¬ ag=8:=sU c8
   have hG:CI (bX ND D) (dF ND D K f) D K ⟨ag,aX,lo,eQ,most,af,es⟩=dN ag 1:=by
    unfold CI;simp only;rw [ah c2,ah c3,ah (by omega),ah c7,ah c8]
   rw [hG];exact ⟨.agg (dVal (dN ag 1)),ax,rfl⟩
end
def HZ (l:List Nat) (i:Int):Bool:=decide (0<=i) && (decide (0 < l.getD i.toNat 0) && decide (l.getD i.toNat 0 < 4097))
theorem CP {l:List Nat} {i:Int}:HZ l i=true↔∃ j:Nat,i=j/\l.getD j 0≠0/\l.getD j 0 < 4097:=by
 unfold HZ;rw [aP,aP];constructor
 ·rintro ⟨h1,h2,h3⟩;have h1:=of_decide_eq_true h1;have h2:=of_decide_eq_true h2;exact ⟨i.toNat,by omega,by omega,of_decide_eq_true h3⟩
 ·rintro ⟨j,rfl,h2,h3⟩;rw [ej];exact ⟨decide_eq_true (by omega),decide_eq_true (by omega),decide_eq_true h3⟩
theorem yC (l:List Nat) (i:Int) (hl:l.length<=1099511627776):aV prog 77 [.sl 1 (dInts l) none,.v (.int .i64 i)] (.v (.bool (HZ l i))):=by
 have bH:=bg l;by_cases h:0<=i/\i < l.length
 ·obtain ⟨j,rfl⟩:∃ j:Nat,i=j:=⟨i.toNat,by omega⟩;obtain ⟨z,hz⟩:∃ z,l[j]? = some z:=⟨_,gE (by omega)⟩
  have hE:HZ l j=(decide (0 < z) && decide (z < 4097)):=by
   unfold HZ;rw [ej,aF,hz,decide_eq_true (by omega),Bool.true_and];rfl
  rw [hE];refine eG 27 [.tmp 4] func77 rfl ntmps77 rfl fun _ _ _ _=>?_;refine br ?_ ?_<;>intro c
  ·refine ⟨_,⟨cH _,aG hz⟩,?_⟩;refine br ?_ ?_<;>intro c2
   ·have c2:0 < z:=by simpa [lastG,pickB] using c2
    refine ⟨_,⟨cH _,aG hz⟩,?_⟩;refine (congrArg (fun b=>DV.v (.bool b)) ?_:_=_);rw [decide_eq_true c2];simp [pickB];omega
   ·have c2:¬ 0 < z:=by simpa [lastG,pickB] using c2
    refine (congrArg (fun b=>DV.v (.bool b)) ?_:_=_);rw [decide_eq_false c2];simp [pickB]
  ·exfalso;have:(j:Int) < l.length:=by omega
   simp [bH,av] at c;omega
 ·have hE:HZ l i=false:=by
   cases hk:HZ l i with
   | false=>rfl
   | true=>
    obtain ⟨j,rfl,h2,_⟩:=CP.1 hk;rw [aF,cR (by omega)] at h2;exact (h2 rfl).elim
  rw [hE];refine eG 27 [.tmp 4] func77 rfl ntmps77 rfl fun _ _ _ _=>?_;refine br ?_ ?_<;>intro c
  ·exfalso;simp [bH,av] at c;omega
  ·exact (rfl:_=_)
theorem CQ {ND:List Nd} {D:List Nat} (h:gQ ND D) {j:Nat} (h0:0 < D.getD j 0):j < ND.length:=by
 rcases Nat.lt_or_ge j ND.length with h1 | h1
 ·exact h1
 ·rw [aF,cR (by rw [h.len];exact h1)] at h0;simp at h0
abbrev bu (ND:List Nd):List Nat:=depN ND ND.length
abbrev qw (ND:List Nd):List Bool:=fo ND (bu ND)
abbrev bS (ND:List Nd):List Nat:=ke ND (bu ND)
abbrev qx (ND:List Nd):List Nat:=PF (bS ND) (bu ND) (qw ND) ND
theorem Be {S:Sch} {ND:List Nd} {PC:List DV} (hP:fm S ND PC) (sz ot:List Nat) (K:List Bool) {j:Nat} (h:(bS ND).getD j 0≠0):aV prog 78 [.pt (ng PC ND (bu ND) K sz ot) 0,.v (.int .i64 j)] (.agg (dVal (bX ND (bu ND) j))):=by
 have h0:=(ni (gd ND)).1.1 (Nat.pos_of_ne_zero h);exact CN (one_f PC ND (bu ND) K sz ot (gd ND) hP.ok hP.KZ ND.length j (CQ (gd ND) h0) h0 ((gd ND).le j))
theorem O3 {ND:List Nd} {i:Nat} {n:Nd} (hn:ND[i]? = some n) (h:(qw ND).getD i false=true):eN n (bu ND) (qw ND)=true:=by
 have h:(fo ND (bu ND)).getD i false=true:=h;rw [<- oB,aF,List.getElem?_map,hn] at h;exact h
theorem Lb {S:Sch} {ND:List Nd} {PC:List DV} (hP:fm S ND PC) (Tg:∀ n∈ND,n.ag=2 -> -9223372036854775808<=n.lo/\n.hi<=9223372036854775807) {j:Nat} (h:(qx ND).getD j 0≠0) (h2:(qx ND).getD j 0 < 4097) :
  aV prog 79 [.pt (ng PC ND (bu ND) (qw ND) (bS ND) (qx ND)) 0,.v (.int .i64 j)] (.agg (dVal (Rn ND (bu ND) (qw ND) j))):=
 Fq PC ND (bu ND) (qw ND) (bS ND) (qx ND) (gd ND) hP.ok hP.KZ Tg (iL ND _ _) (fun i n hn h=>O3 hn h) (fun i h=>Rm h) 4096 j h (by omega) h2
theorem Fv {S:Sch} {ND:List Nd} {PC:List DV} (hP:fm S ND PC) (i:Int) :
  aV prog 32 [.pt PC 0,.v (.int .i64 i)] (.tup [.agg (dVal (if HZ (bS ND) i=true then bX ND (bu ND) i.toNat else zeroV)),.v (.bool (HZ (bS ND) i))]):=by
 have hm:=qv PC ND hP;have fv:=hP.nl;have hf:=yC (bS ND) i (by rw [rM];exact fv);have cu:=fun (j:Nat) h=>Be hP (bS ND) (qx ND) (qw ND) (j:=j) h
 cases hk:HZ (bS ND) i with
 | false=>
  rw [hk] at hf;refine eG 20 [.cell 4 34,.tmp 5] func32 rfl ntmps32 rfl fun _ _ _ _=>?_;refine cP JZ hm ?_;refine cP Qj hf ?_;exact ⟨.tup [.agg (dVal zeroV),.v (.bool false)],ax,rfl⟩
 | true=>
  rw [hk] at hf;obtain ⟨j,rfl,h1,h2⟩:=CP.1 hk;have cu:=cu j h1;rw [ai rfl,ej];generalize bX ND (bu ND) j=u at cu;obtain ⟨uk,un,us,ul⟩:=u;refine eG 20 [.cell 4 34,.tmp 5] func32 rfl ntmps32 rfl fun _ _ _ _=>?_;refine cP JZ hm ?_;refine cP Qj hf ?_;refine cP zc cu ?_;exact ⟨.tup [.agg (dVal (.mk uk un us ul)),.v (.bool true)],ax,rfl⟩
theorem CR {S:Sch} {ND:List Nd} {PC:List DV} (hP:fm S ND PC) (Tg:∀ n∈ND,n.ag=2 -> -9223372036854775808<=n.lo/\n.hi<=9223372036854775807) (i:Int) :
  aV prog 33 [.pt PC 0,.v (.int .i64 i)] (.tup [.agg (dVal (if HZ (qx ND) i=true then Rn ND (bu ND) (qw ND) i.toNat else zeroV)),.v (.bool (HZ (qx ND) i))]):=by
 have hm:=qv PC ND hP;have fv:=hP.nl;have hf:=yC (qx ND) i (by rw [Rk];exact fv);have u1:=fun (j:Nat) h h2=>Lb hP Tg (j:=j) h h2
 cases hk:HZ (qx ND) i with
 | false=>
  rw [hk] at hf;refine eG 20 [.cell 4 34,.tmp 5] func33 rfl ntmps33 rfl fun _ _ _ _=>?_;refine cP JZ hm ?_;refine cP Qj hf ?_;exact ⟨.tup [.agg (dVal zeroV),.v (.bool false)],ax,rfl⟩
 | true=>
  rw [hk] at hf;obtain ⟨j,rfl,h1,h2⟩:=CP.1 hk;have u1:=u1 j h1 h2;rw [ai rfl,ej];generalize Rn ND (bu ND) (qw ND) j=u at u1;obtain ⟨uk,un,us,ul⟩:=u;refine eG 20 [.cell 4 34,.tmp 5] func33 rfl ntmps33 rfl fun _ _ _ _=>?_;refine cP JZ hm ?_;refine cP Qj hf ?_;refine cP Us u1 ?_;exact ⟨.tup [.agg (dVal (.mk uk un us ul)),.v (.bool true)],ax,rfl⟩
def Jz (f:Nat->Nat->Bool) (n a b:Nat):Nat:=(fC f n a b).getD 0
def jY (f:Nat->Nat->Bool) (n:Nat):Nat:=(fj f n []).getD 0
theorem yD {f:Nat->Nat->Bool} {n a b:Nat} (h:gm f n) (ha:a < n) (hb:b < n):fC f n a b=some (Jz f n a b):=by
 obtain ⟨k,hk⟩:=h.jn a b ha hb;simp [Jz,hk]
theorem O4 {f:Nat->Nat->Bool} {n a b:Nat} (h:gm f n) (ha:a < n) (hb:b < n):Jz f n a b < n:=(p8 (yD h ha hb)).1
theorem Fw {f:Nat->Nat->Bool} {n:Nat} (h:gm f n):PB f n:=⟨h.rfl',h.G5⟩
theorem H0 {f:Nat->Nat->Bool} {n a b:Nat} (h:gm f n) (ha:a < n) (hb:b < n):kP f n a b=some (Jz f n a b):=by
 have h1:=yD h ha hb;have h2:=mY (n:=n) (a:=a) (b:=b) (Fw h);rw [h1] at h2
 cases hr:kP f n a b with
 | none=>rw [hr] at h2;simp at h2
 | some c=>
  obtain ⟨h3,h4,_⟩:=cJ hr;have:=EC (Fw h) h3 h4;rw [h1] at this;exact this.symm
theorem tP {f:Nat->Nat->Bool} {n:Nat} (h:gm f n):fj f n []=some (jY f n):=by
 obtain ⟨c,hc⟩:=uv h [] (fun _ h=>by cases h);simp [jY,hc]
theorem JA {f:Nat->Nat->Bool} {n:Nat} (h:gm f n):jY f n < n:=oX (tP h)
section
variable (af:List ByteArray) (tc:List DV) (rows:List Nat) (js:List Int)
end
structure LatR (n:Nat) (f:Nat->Nat->Bool) (af:List ByteArray) (LC:List DV):Prop where
 ok:gm f n
 n32:n<=32
 nl:af.length=n
 len:aV prog 187 [.pt LC 0] (.v (.int .i64 n))
 join:∀ a b:Nat,a < n->b < n->aV prog 164 [.pt LC 0,.v (.int .i64 a),.v (.int .i64 b)] (.v (.int .i64 (Jz f n a b:Nat)))
 bot:aV prog 140 [.pt LC 0] (.v (.int .i64 (jY f n:Nat)))
abbrev ey (S:Sch):Nat->Nat->Bool:=fy S.ae.length (dQ (aC S.ae) S.order)
theorem fm.VR {S:Sch} {ND:List Nd} {PC:List DV} (hP:fm S ND PC):∃ LC,aV prog 139 [.pt PC 0] (.pt LC 0)/\LatR S.ae.length (ey S) (aC S.ae) LC:=by
 obtain ⟨aM,js,hX,hl⟩:=hP.lat;have fv:=dW S.ae;have F3:=(hP.fine).lat;obtain ⟨hL,Vf⟩:=om F3;have Wz:∀ p∈dQ (aC S.ae) S.order,p.1 < S.ae.length/\p.2 < S.ae.length:=by have:=oW (qb F3).2.2.1;rwa [dW] at this
 have eB:(fX S aM js).rows.length=S.ae.length:=by
  show (closeR (fO S.ae.length (dQ (aC S.ae) S.order)) S.ae.length).length=_;rw [fQ,kJ]
 have hr:eV (fX S aM js).rows:=lW (B1 (by omega) _ Wz) _ (by omega)
 refine ⟨_,hl,{
  ok:=hL,n32:=Vf,nl:=fv
  len:=?_
  join:=fun a b ha hb=>?_
  bot:=?_
  }⟩
 ·have:=ta (fX S aM js).af (dz (fX S aM js).af (fX S aM js).aM) (fX S aM js).rows (fX S aM js).js
  rwa [show (fX S aM js).af.length=S.ae.length from fv] at this
 ·have hz:=(hX.hj a b (by rw [show (fX S aM js).af.length=S.ae.length from fv];exact ha) (by rw [show (fX S aM js).af.length=S.ae.length from fv];exact hb)).1;rw [show (fX S aM js).af.length=S.ae.length from fv,show (fX S aM js).f=ey S from rfl,yD hL ha hb] at hz;exact xq (fX S aM js).af (dz (fX S aM js).af (fX S aM js).aM) (fX S aM js).rows (fX S aM js).js a b _ (by rw [show (fX S aM js).af.length=S.ae.length from fv];exact ha) (by rw [show (fX S aM js).af.length=S.ae.length from fv];exact hb) hX.hn hz
 ·have:=rz (fX S aM js).af (dz (fX S aM js).af (fX S aM js).aM) (fX S aM js).rows (fX S aM js).js hX.hL hX.hn hX.hj
  rwa [show (fX S aM js).af.length=S.ae.length from fv,show (fX S aM js).f=ey S from rfl,tP hL] at this
def dw (s:dj):Bool:=
 if s.k=1∨s.k=5 then decide (s.n=0) && bi s.s
 else if s.k=2 then decide (0<=s.n) && decide (s.s=⟨#[]⟩)
 else if s.k=3∨s.k=4 then decide (s.n=0) && decide (s.s=⟨#[]⟩) else false
def oC (l:List dj):Bool:=decide (l.length<=64) && l.all dw
theorem yE (s:dj):oC [s]=dw s:=by simp [oC]
def mg (d:Nd) (s:dj) (e:Ed):Bool:=
 (decide (s.k=1) && decide (d.ag=7) && (decide (e.name=s.s) && !e.bare)) || (decide (s.k=5) && decide (d.ag=8) && (decide (e.name=s.s) && !e.bare)) ||
  ((decide (s.k=2) || decide (s.k=3)) && decide (d.ag=5) && decide (s.n < d.most)) || (decide (s.k=4) && decide (d.ag=6))
def H2 (d:Nd) (s:dj) (e:Ed):Bool:=
 if s.k=1 then decide (d.ag=7) && decide (e.name=s.s)
 else if s.k=5 then decide (d.ag=8) && decide (e.name=s.s) && !e.bare
 else if s.k=2 then decide (d.ag=5) && decide (s.n < d.most)
 else if s.k=3 then decide (d.ag=5) && decide (0 < d.most)
 else decide (d.ag=6)
theorem Fx {s:dj} (h:dw s=true):s.k=1∨s.k=2∨s.k=3∨s.k=4∨s.k=5:=by
 unfold dw at h;split at h
 ·omega
 ·split at h
  ·omega
  ·split at h
   ·omega
   ·cases h
theorem JB {L N:Nat} {d:Nd} (hN:cK L N d) {s:dj} (hr:dw s=true) {e:Ed} (he:e∈d.ak):H2 d s e=mg d s e:=by
 have hk:=Fx hr;have hb:=hN.bare e he;unfold H2 mg;rcases hk with h | h | h | h | h
 ·simp only [h];by_cases h7:d.ag=7
  ·have:e.bare=false:=by
    cases hx:e.bare
    ·rfl
    ·have:=hb hx;omega
   simp [h7,this]
  ·simp [h7]
 ·simp [h]
 ·have hn:s.n=0:=by
   unfold dw at hr;rw [h] at hr;simp at hr;exact hr.1
  simp [h,hn]
 ·simp [h]
 ·simp [h,Bool.and_assoc]
def pJ (d:Nd) (s:dj) (k:Nat):Bool:=match d.ak[k]? with | some e=>mg d s e | none=>false
def iW (d:Nd) (s:dj):Option Nat:=if dw s=true then bN (pJ d s) d.ak.length else none
theorem gf {d:Nd} {s:dj} {k:Nat} (h:iW d s=some k):∃ e,d.ak[k]? = some e/\mg d s e=true/\dw s=true:=by
 unfold iW at h;split at h
 ·rename_i hr;obtain ⟨h1,h2,_⟩:=cJ h;refine ⟨d.ak[k],gE h1,?_,hr⟩;unfold pJ at h2;rw [gE h1] at h2;exact h2
 ·cases h
def walkV (ND:List Nd) (f:Nat->Nat->Bool) (n:Nat):List dj->Nat->Nat->Option (Nat × Nat)
 | [],i,a=>some (i,a)
 | s :: p,i,a=>match ND[i]? with
  | none=>none
  | some d=>match iW d s with
   | none=>none
   | some k=>match d.ak[k]? with
    | none=>none
    | some e=>walkV ND f n p e.to.toNat (Jz f n a e.label.toNat)
theorem kU {L N:Nat} {d:Nd} (hN:cK L N d) {s:dj} {e:Ed} (he:e∈d.ak) (h:mg d s e=true):e.bare=false:=by
 cases hb:e.bare
 ·rfl
 ·have h8:=hN.bare e he hb;unfold mg at h;simp [hb,h8] at h
theorem pg {L:Nat} {ND:List Nd} {d:Nd} (hN:cK L ND.length d) {e:Ed} (he:e∈d.ak):(e.bare=false->e.to=(e.to.toNat:Nat)/\e.to.toNat < ND.length)/\(e.label=(e.label.toNat:Nat)/\e.label.toNat < L)/\(e.seen=(e.seen.toNat:Nat)/\e.seen.toNat < L):=by
 have hE:=hN.fU e he;refine ⟨fun hb=>?_,?_,?_⟩
 ·obtain ⟨k,h1,h2⟩:=hE.to1 hb;rw [h1];exact ⟨by simp,by simpa using h2⟩
 ·obtain ⟨k,h1,h2⟩:=hE.lab;rw [h1];exact ⟨by simp,by simpa using h2⟩
 ·obtain ⟨k,h1,h2⟩:=hE.seen;rw [h1];exact ⟨by simp,by simpa using h2⟩
theorem Fy {f:Nat->Nat->Bool} {L:Nat} (hL:gm f L) {ND:List Nd} (bw:∀ n∈ND,cK L ND.length n):∀ (p:List dj) (i a:Nat) {j b:Nat},i < ND.length->a < L->walkV ND f L p i a=some (j,b)->j < ND.length/\b < L
 | [],i,a,j,b,hi,ha,h=>by
  rw [walkV] at h;simp only [oI,Prod.mk.injEq] at h;omega
 | s :: p,i,a,j,b,hi,ha,h=>by
  rw [walkV,gE hi] at h;simp only at h;split at h
  ·cases h
  ·rename_i k hk;obtain ⟨e,he,hB,_⟩:=gf hk;rw [he] at h;simp only at h;have hm:=mG he;have hd:=bw _ (List.getElem_mem hi);obtain ⟨h1,h2,_⟩:=pg hd hm;exact Fy hL bw p _ _ (h1 (kU hd hm hB)).2 (O4 hL ha h2.2) h
section
variable (ND:List Nd) (f:Nat->Nat->Bool) (n obs dep:Nat)
end
def yF (es:List Ed) (s:ByteArray) (k:Nat):Bool:=match es[k]? with | some e=>decide (e.name=s) | none=>false
theorem Lc {L:Nat} {ND:List Nd} {d:Nd} (hN:cK L ND.length d) {s:dj} {k:Nat} (h:iW d s=some k):bN (yF d.ak s.s) d.ak.length=some k:=by
 obtain ⟨e,he,hB,hr⟩:=gf h;have hk:=(gS he).1
 have F6:s.s=e.name/\(d.ag=5∨d.ag=6∨d.ag=7∨d.ag=8):=by
  have cu:=hN.one;unfold mg at hB;unfold dw at hr;simp only [Bool.or_eq_true,aP,decide_eq_true_eq] at hB;rcases hB with ((h | h) | h) | h
  ·exact ⟨h.2.1.symm,by omega⟩
  ·exact ⟨h.2.1.symm,by omega⟩
  ·obtain ⟨e',h1,_,h3⟩:=cu (.inl h.1.2);rw [h1] at he
   have:e=e':=by
    rw [h1,List.length_singleton] at hk;obtain rfl:k=0:=by omega
    simpa using he.symm
   subst this;rw [h3];refine ⟨?_,by omega⟩;rcases h.1.1 with h | h<;>rw [h] at hr<;>simp at hr<;>exact hr.2
  ·obtain ⟨e',h1,_,h3⟩:=cu (.inr h.2);rw [h1] at he
   have:e=e':=by
    rw [h1,List.length_singleton] at hk;obtain rfl:k=0:=by omega
    simpa using he.symm
   subst this;rw [h3];refine ⟨?_,by omega⟩;rw [h.1] at hr;simp at hr;exact hr.2
 refine bB hk (by unfold yF;rw [he];exact decide_eq_true F6.1.symm) fun c hc=>?_
 cases hp:yF d.ak s.s c with
 | false=>rfl
 | true=>
  exfalso;have eS:c < d.ak.length:=by omega
  unfold yF at hp;rw [gE eS] at hp;have hp:=of_decide_eq_true hp;rcases F6.2 with h5 | h6 | h78
  ·obtain ⟨e',h1,_⟩:=hN.one (.inl h5);rw [h1,List.length_singleton] at hk;omega
  ·obtain ⟨e',h1,_⟩:=hN.one (.inr h6);rw [h1,List.length_singleton] at hk;omega
  ·have hnd:=(hN.many h78).2.2.1;have he2:=(gS he).2;have:=List.pairwise_iff_getElem.1 (List.nodup_iff_pairwise_ne.1 hnd) c k (sU eS) (sU hk) hc;rw [List.getElem_map,List.getElem_map,he2] at this;exact this (hp.trans F6.1)
structure Pl where
 i:Nat
 d:Nd
 k:Nat
 s:dj
def stpsV (ND:List Nd):List dj->Nat->List Pl
 | [],_=>[]
 | s :: p,i=>match ND[i]? with
  | none=>[]
  | some d=>match iW d s with
   | none=>[]
   | some k=>match d.ak[k]? with
    | none=>[]
    | some x=>⟨i,d,k,s⟩ :: stpsV ND p x.to.toNat
def sumE (sz:List Nat) (k:Nat):List Ed->Nat->Nat
 | [],_=>0
 | e :: r,i=>(if i=k then 0 else cg sz e) + sumE sz k r (i + 1)
theorem Bf (sz:List Nat) (k:Nat):∀ (es:List Ed) (e:Ed) (i:Nat),sumE sz k (es ++ [e]) i=sumE sz k es i + (if i + es.length=k then 0 else cg sz e)
 | [],e,i=>by simp [sumE]
 | x :: r,e,i=>by
  rw [List.cons_append,sumE,Bf sz k r,sumE,List.length_cons,show i + 1 + r.length=i + (r.length + 1) by omega,Nat.add_assoc]
theorem Bg {sz:List Nat} {k:Nat} {es:List Ed} {e:Nat} {x:Ed} (h:es[e]? = some x):sumE sz k (es.take (e + 1)) 0=sumE sz k (es.take e) 0 + (if e=k then 0 else cg sz x):=by
 have hl:=(gS h).1;rw [dE h,Bf,zLenT,Nat.min_eq_left (by omega),Nat.zero_add]
def yW (sz:List Nat) (q:Pl):Nat:=1 + (if q.s.k=2 then q.s.n.toNat * sz.getD (to0 q.d).toNat 0 else if q.s.k=1 then sumE sz q.k q.d.ak 0 else 0)
def totF (sz:List Nat):List Pl->Nat
 | []=>0
 | q :: l=>yW sz q + totF sz l
theorem Bh (sz:List Nat) (q:Pl):∀ l:List Pl,totF sz (l ++ [q])=totF sz l + yW sz q
 | []=>by simp [totF]
 | x :: l=>by rw [List.cons_append,totF,totF,Bh sz q l,Nat.add_assoc]
theorem tQ (a b:Nat):bf (bf a + b)=bf (a + b):=by unfold bf;omega
theorem VS (a b:Nat):bf (a + bf b)=bf (a + b):=by unfold bf;omega
def nH (D:List Nat) (k:Nat):List Ed->Nat->Bool
 | [],_=>true
 | e :: r,i=>(decide (i=k) || decide (cg D e≠0)) && nH D k r (i + 1)
theorem Bi (D:List Nat) (k:Nat):∀ (es:List Ed) (e:Ed) (i:Nat),nH D k (es ++ [e]) i=(nH D k es i && (decide (i + es.length=k) || decide (cg D e≠0)))
 | [],e,i=>by simp [nH]
 | x :: r,e,i=>by
  rw [List.cons_append,nH,Bi D k r,nH,List.length_cons,show i + 1 + r.length=i + (r.length + 1) by omega,Bool.and_assoc]
theorem kV {D:List Nat} {k:Nat}:∀ {es:List Ed} {i:Nat},nH D k es i=true↔∀ (j:Nat) x,es[j]? = some x->i + j≠k->cg D x≠0
 | [],i=>by simp [nH]
 | e :: r,i=>by
  rw [nH,aP,kV];constructor
  ·rintro ⟨h1,h2⟩ j x hx hj
   cases j with
   | zero=>
    simp at hx;subst hx;simpa [show ¬ i=k by omega] using h1
   | succ j=>exact h2 j x (sU hx) (by omega)
  ·intro h;refine ⟨?_,fun j x hx hj=>h (j + 1) x (sU hx) (by omega)⟩;by_cases hi:i=k
   ·simp [hi]
   ·simp [h 0 e rfl (by omega)]
def iO (D:List Nat) (q:Pl):Bool:=decide (q.s.k≠3) && (decide (q.s.k≠1) || nH D q.k q.d.ak 0)
def u2 (F:Nat->Val) (q:Pl) (x:Val):Val:=
 if q.s.k=2 then .mk q.d.ag 0 ay (List.replicate q.s.n.toNat (F (to0 q.d).toNat) ++ [x])
 else if q.s.k=1 then .mk q.d.ag 0 ay ((q.d.ak.map fun e=>F e.to.toNat).set q.k x)
 else .mk q.d.ag (if q.s.k=5 then q.k else 0) ay [x]
def alnV (F:Nat->Val):List Pl->Val->Val
 | [],x=>x
 | q :: l,x=>u2 F q (alnV F l x)
structure tR (ND:List Nd) (q:Pl):Prop where
 aq:ND[q.i]? = some q.d
 fU:iW q.d q.s=some q.k
theorem nj {ND:List Nd} {s:dj} {p:List dj} {i:Nat} {d:Nd} {k:Nat} {x:Ed} (h1:ND[i]? = some d) (h2:iW d s=some k) (h3:d.ak[k]? = some x):stpsV ND (s :: p) i=⟨i,d,k,s⟩ :: stpsV ND p x.to.toNat:=by
 rw [stpsV,h1];simp only;rw [h2];simp only;rw [h3]
theorem nk {ND:List Nd} {f:Nat->Nat->Bool} {n:Nat} {s:dj} {p:List dj} {i a:Nat} {r:Nat × Nat} (h:walkV ND f n (s :: p) i a=some r) :
  ∃ d k x,ND[i]? = some d/\iW d s=some k/\d.ak[k]? = some x/\walkV ND f n p x.to.toNat (Jz f n a x.label.toNat)=some r:=by
 rw [walkV] at h;split at h
 ·cases h
 ·rename_i d hd;split at h
  ·cases h
  ·rename_i k hk;split at h
   ·cases h
   ·rename_i x hx;exact ⟨d,k,x,hd,hk,hx,h⟩
theorem O5 {ND:List Nd} {f:Nat->Nat->Bool} {n:Nat} {s:dj} {p:List dj} {i a:Nat} {d:Nd} {k:Nat} {x:Ed} (h1:ND[i]? = some d) (h2:iW d s=some k) (h3:d.ak[k]? = some x) :
  walkV ND f n (s :: p) i a=walkV ND f n p x.to.toNat (Jz f n a x.label.toNat):=by
 rw [walkV,h1];simp only;rw [h2];simp only;rw [h3]
theorem oD {ND:List Nd} {f:Nat->Nat->Bool} {n:Nat}:∀ (p:List dj) (i a:Nat) {r:Nat × Nat},walkV ND f n p i a=some r ->
  (stpsV ND p i).length=p.length/\∀ (e:Nat) s,p[e]? = some s->∃ q b,(stpsV ND p i)[e]? = some q/\q.s=s/\tR ND q/\walkV ND f n (p.take e) i a=some (q.i,b)
 | [],i,a,r,h=>⟨rfl,fun e s h=>by simp at h⟩
 | s :: p,i,a,r,h=>by
  obtain ⟨d,k,x,hd,hk,hx,hw⟩:=nk h;obtain ⟨h1,h2⟩:=oD p _ _ hw;rw [nj hd hk hx];refine ⟨by rw [List.length_cons,List.length_cons,h1],fun e y hy=>?_⟩
  cases e with
  | zero=>
   simp at hy;subst hy;exact ⟨_,a,rfl,rfl,⟨hd,hk⟩,by rw [List.take_zero,walkV]⟩
  | succ e=>
   obtain ⟨q,b,hq,hs,bw,hwq⟩:=h2 e y (sU hy);exact ⟨q,b,by simpa using hq,hs,bw,by rw [List.take_succ_cons,O5 hd hk hx];exact hwq⟩
theorem RL {L:Nat} {ND:List Nd} {q:Pl} (hN:cK L ND.length q.d) (hq:tR ND q):if q.s.k=1∨q.s.k=5 then bN (yF q.d.ak q.s.s) q.d.ak.length=some q.k else q.k=0:=by
 split
 ·exact Lc hN hq.fU
 ·rename_i h;obtain ⟨e,he,hB,_⟩:=gf hq.fU;have hk:=(gS he).1;unfold mg at hB;simp only [Bool.or_eq_true,aP,decide_eq_true_eq] at hB
  have h56:q.d.ag=5∨q.d.ag=6:=by
   rcases hB with ((hB | hB) | hB) | hB
   ·exact (h (.inl hB.1.1)).elim
   ·exact (h (.inr hB.1.1)).elim
   ·exact .inl hB.1.2
   ·exact .inr hB.2
  obtain ⟨e',h1,_⟩:=hN.one h56;rw [h1,List.length_singleton] at hk;omega
theorem lz {ND:List Nd} {q:Pl} (hq:tR ND q):(q.s.k=1->q.d.ag=7/\q.s.n=0)/\(q.s.k=5->q.d.ag=8/\q.s.n=0)/\(q.s.k=2->q.d.ag=5/\0<=q.s.n/\q.s.n < q.d.most)/\(q.s.k=3->q.d.ag=5/\q.s.n=0)/\(q.s.k=4->q.d.ag=6/\q.s.n=0)/\(q.s.k=1∨q.s.k=2∨q.s.k=3∨q.s.k=4∨q.s.k=5):=by
 obtain ⟨e,he,hB,hr⟩:=gf hq.fU;have VA:=Fx hr;unfold mg at hB;unfold dw at hr;simp only [Bool.or_eq_true,aP,decide_eq_true_eq] at hB;refine ⟨fun h=>?_,fun h=>?_,fun h=>?_,fun h=>?_,fun h=>?_,VA⟩
 all_goals
  rw [h] at hr hB;simp at hr hB
  first
   | exact ⟨hB.1,hr.1⟩
   | exact ⟨hB.1,hr.1,hB.2⟩
   | exact ⟨hB,hr.1⟩
theorem leastF_7 {n:Nd} {D:List Nat} (h:n.ag=7) (h2:∀ e∈n.ak,cg D e≠0):0 < bc n D:=by
 rw [bc,ai h];refine Nat.pos_of_ne_zero fun h0=>?_;obtain ⟨e,he,hz⟩:=ir.1 h0;exact h2 e he hz
theorem leastF_8 {n:Nd} {D:List Nat} (h:n.ag=8) {e:Ed} (he:e∈n.ak) (h2:e.bare=true∨cg D e≠0):0 < bc n D:=by
 rw [bc,ah (by omega),ai h];refine jA.2 (.inr (List.any_eq_true.2 ⟨e,he,?_⟩));unfold qE;rw [gO];rcases h2 with h2 | h2
 ·rw [h2];all_goals rfl
 ·unfold cg at h2;rw [decide_eq_true (by omega),Bool.or_true]
theorem Fz {n:Nd} {D:List Nat} (h7:n.ag≠7) (h8:n.ag≠8):0 < bc n D:=by
 rw [bc,ah h7,ah h8];omega
mutual
theorem vF {L:Nat} {ND:List Nd} {D:List Nat} (bw:∀ n∈ND,cK L ND.length n) (hO:gQ ND D):∀ (v:Val) (i:Int),fitV ND v i=true->0 < D.getD i.toNat 0
 | .mk k n s ks,i,h=>by
  obtain ⟨d,hF⟩:=tC bw h;have KQ:=FA bw hO ks;have hn:=(hY hF.aq).2;rw [hO.get _ _ hn];have O6:=hF.kids;have aal:=hF.tag;simp only [Val.ks] at O6 aal;by_cases h7:d.ag=7
  ·refine leastF_7 h7 fun e he=>?_;obtain ⟨h1,h2⟩:=O6 (by omega);have:=KQ _ h2 (by omega) e.to (by unfold kidsL;rw [ah (by omega),ai h7];exact List.mem_map_of_mem he);unfold cg;omega
  ·by_cases h8:d.ag=8
   ·obtain ⟨e,h1,h2,_⟩:=aal h8;refine leastF_8 h8 (mG h2) ?_
    cases hb:e.bare with
    | true=>exact .inl rfl
    | false=>
     obtain ⟨h3,h4⟩:=O6 (by omega);have:=KQ _ h4 (by omega) e.to (by unfold kidsL;rw [ah (by omega),ah h7,h1];simp [hb]);unfold cg;exact .inr (by omega)
   ·exact Fz h7 h8
theorem FA {L:Nat} {ND:List Nd} {D:List Nat} (bw:∀ n∈ND,cK L ND.length n) (hO:gQ ND D):∀ (ks:List Val) (l:List Int),fitVs ND ks l=true->l.length<=ks.length->∀ j∈l,0 < D.getD j.toNat 0
 | [],l,h,hl=>by
  cases l with
  | nil=>intro j hj;cases hj
  | cons a b=>simp at hl
 | v :: r,[],h,hl=>by intro j hj;cases hj
 | v :: r,i :: l,h,hl=>by
  rw [fitVs,aP] at h;have h1:=vF bw hO v i h.1;have h2:=FA bw hO r l h.2 (sU hl);intro j hj;rcases bI hj with rfl | hj
  ·exact h1
  ·exact h2 j hj
end
theorem ph {L:Nat} {ND:List Nd} {D:List Nat} (bw:∀ n∈ND,cK L ND.length n) (hO:gQ ND D) {f:Nat->Nat->Bool} {m:Nat}:∀ (p:List dj) (i a:Nat) {j b:Nat},walkV ND f m p i a=some (j,b)->(stpsV ND p i).all (iO D)=true->0 < D.getD j 0 ->
  0 < D.getD i 0/\∀ q∈stpsV ND p i,∃ x,q.d.ak[q.k]? = some x/\cg D x≠0
 | [],i,a,j,b,h,_,h0=>by
  rw [walkV] at h;simp only [oI,Prod.mk.injEq] at h;rw [h.1];exact ⟨h0,fun q hq=>by simp [stpsV] at hq⟩
 | s :: p,i,a,j,b,h,pu,h0=>by
  obtain ⟨d,k,x,hd,hk,hx,hw⟩:=nk h;rw [nj hd hk hx] at pu ⊢;rw [List.all_cons,aP] at pu;obtain ⟨h1,h2⟩:=ph bw hO p _ _ hw pu.2 h0;have Nz:cg D x≠0:=by unfold cg;omega
  refine ⟨?_,fun q hq=>?_⟩
  ·rw [hO.get _ _ hd];have hq:tR ND ⟨i,d,k,s⟩:=⟨hd,hk⟩;have Eg:=lz hq;by_cases h7:d.ag=7
   ·refine leastF_7 h7 fun e he=>?_
    have pL:s.k=1:=by
     have:=Eg;simp only at this;omega
    have ha:=pu.1;unfold iO at ha;simp only [pL,aP] at ha;have ha:=kV.1 (by simpa using ha.2);obtain ⟨c,hc,rfl⟩:=List.getElem_of_mem he;by_cases hck:c=k
    ·subst hck;rw [gE hc] at hx;cases hx;exact Nz
    ·exact ha c _ (gE hc) (by omega)
   ·by_cases h8:d.ag=8
    ·exact leastF_8 h8 (mG hx) (.inr Nz)
    ·exact Fz h7 h8
  ·rcases bI hq with rfl | hq
   ·exact ⟨x,hx,Nz⟩
   ·exact h2 q hq
theorem CS {L:Nat} {ND:List Nd} (bw:∀ n∈ND,cK L ND.length n) {q:Pl} (hq:tR ND q) {x:Ed} (hx:q.d.ak[q.k]? = some x) (h56:q.d.ag=5∨q.d.ag=6):q.d.ak=[x]/\q.k=0/\to0 q.d=x.to:=by
 have hN:=bw _ (mG hq.aq);obtain ⟨e,he,_⟩:=hN.one h56;have hk:=(gS hx).1;rw [he,List.length_singleton] at hk;have hk0:q.k=0:=by omega
 rw [he,hk0] at hx;simp at hx;subst hx;exact ⟨he,hk0,by unfold to0;rw [he];rfl⟩
def nA (ND:List Nd) (sz D:List Nat) (o:Option (Nat × Nat)) (l:List Pl) (x:Val):Option Val:=match o with
 | none=>none
 | some (j,_)=>if fitV ND x j=true/\l.all (iO D)=true/\jN x + totF sz l < 4097 then some (alnV (bX ND D) l x) else none
def FB (f:Nat->Nat->Bool) (c k:Nat):Bool:=(List.range k).all (f c)
theorem Ld (f:Nat->Nat->Bool) (c k:Nat):FB f c (k + 1)=(FB f c k && f c k):=by simp [FB,List.range_succ]
theorem FC (f:Nat->Nat->Bool) (n c:Nat):te f n [] c=FB f c n:=by simp [te,im,FB]
abbrev Tw (n:Nat) (f:Nat->Nat->Bool) (e:Nat):St:=⟨[(0,⟨[],.sl 1 (cW (dJ n f)) none⟩),(3,⟨[],.v (.int .i64 e)⟩)],[],[]⟩
abbrev aan (n:Nat) (f:Nat->Nat->Bool) (e:Nat) (x:Bool) (k:Nat):St:=⟨[(0,⟨[],.sl 1 (cW (dJ n f)) none⟩),(3,⟨[],.v (.int .i64 e)⟩),(4,⟨[],.v (.bool x)⟩),(5,⟨[],.v (.int .i64 k)⟩)],[],[]⟩
theorem zq (n:Nat) (f:Nat->Nat->Bool) (hn:n<=64):aV prog 81 [.sl 1 (cW (dJ n f)) none] (.v (.int .i64 (oz (fj f n [])))):=by
 have dm:=jy n f;refine eG 30 [.tmp 2] func81 rfl ntmps81 rfl fun _ _ _ _=>?_;refine lI (fun j st=>∃ e:Nat,st=Tw n f e/\e<=n/\(∀ c,c < e->te f n [] c=false)/\j=n - e) ⟨0,rfl,by omega,fun _ h=>by omega,rfl⟩ (aj ⟨_,rfl⟩ wA rfl rfl rfl wB) ?_;rintro j st ⟨e,rfl,he,fq,rfl⟩;refine br ?_ ?_<;>intro hL
 ·have ap:e < n:=sV dm hL;refine lJ (fun k=>aan n f e (FB f e k) k) n (aj ⟨_,rfl⟩ wA rfl rfl rfl (by repeat' (first | exact trivial | exact az rfl | exact cF rfl | refine ⟨⟨_,rfl,?_⟩,?_⟩))) ?_;intro k hk;refine br ?_ ?_<;>intro kM
  ·have jP:k < n:=sV dm kM;have KF:=Ld f e k;refine br ?_ ?_<;>intro g
   ·refine iX (fZ ap) ?_;refine iX (eL jP) ?_;have g:FB f e k=true:=sU g;rw [g,Bool.true_and] at KF;exact rE ⟨_,by omega,k + 1,rfl,by omega,rfl⟩ (aj ⟨_,rfl⟩ wA rfl rfl rfl (wB2 (aJ jP (by omega)) KF.symm))
   ·have g:FB f e k=false:=sU g;rw [g,Bool.false_and] at KF;exact rE ⟨_,by omega,k + 1,rfl,by omega,rfl⟩ (aj ⟨_,rfl⟩ wA rfl rfl rfl (wB2 (aJ jP (by omega)) KF.symm))
  ·have aQ:k=n:=sW dm kM;subst aQ;refine br ?_ ?_<;>intro g
   ·have g:te f k [] e=true:=by rw [FC];exact g
    rw [fj,bB ap g fq];exact (rfl:_=_)
   ·have g:te f k [] e=false:=by rw [FC];exact g
    refine ⟨Tw k f (e + 1),(aj ⟨_,rfl⟩ wA rfl rfl rfl (dt (aJ ap (by omega)))),k - (e + 1),by omega,e + 1,rfl,by omega,fun j hj=>?_,rfl⟩;rcases eP hj with hj | rfl
    ·exact fq j hj
    ·exact g
 ·have aQ:e=n:=sW dm hL;subst aQ;rw [fj,bP fq];exact (rfl:_=_)
theorem FD {α:Type} {l:List α} {e:Nat} {x:α} {p:α->Bool} (h:l[e]? = some x):(l.drop e).all p=(p x && (l.drop (e + 1)).all p):=by
 obtain ⟨h1,h2⟩:=List.getElem?_eq_some_iff.1 h;rw [List.drop_eq_getElem_cons h1,h2,List.all_cons]
theorem CT (s:dj) (hs:s.s.size<=4611686018427387904):aV prog 189 [.agg (jX s)] (.v (.bool (dw s))):=by
 have hr:=jm s.s hs;obtain ⟨k,n,t⟩:=s;have hF:dw ⟨k,n,t⟩=if k=1∨k=5 then decide (n=0) && bi t else if k=2 then decide (0<=n) && decide (t=⟨#[]⟩) else if k=3∨k=4 then decide (n=0) && decide (t=⟨#[]⟩) else false:=rfl
 generalize dw ⟨k,n,t⟩=F at hF ⊢;refine eG 39 [.tmp 2] func189 rfl ntmps189 rfl fun _ _ _ _=>?_;refine br ?_ ?_<;>intro c
 ·have c:k=1:=sU c;rw [ai (.inl c)] at hF;refine br (fun _=>?_) (fun g=>absurd g (by simp [c]));refine br ?_ ?_<;>intro g
  ·have g:n=0:=sU g;refine cP Gw hr ?_;refine (congrArg (fun b=>DV.v (.bool b)) ?_:_=_);rw [hF];simp [g,pickB]
  ·have g:¬ n=0:=sU g;refine (congrArg (fun b=>DV.v (.bool b)) ?_:_=_);rw [hF];simp [g,pickB]
 have c1:¬ k=1:=sU c;refine br ?_ ?_<;>intro c
 ·have c:k=5:=sU c;rw [ai (.inr c)] at hF;refine br ?_ ?_<;>intro g
  ·have g:n=0:=sU g;refine cP Gw hr ?_;refine (congrArg (fun b=>DV.v (.bool b)) ?_:_=_);rw [hF];simp [g,pickB]
  ·have g:¬ n=0:=sU g;refine (congrArg (fun b=>DV.v (.bool b)) ?_:_=_);rw [hF];simp [g,pickB]
 have c5:¬ k=5:=sU c;rw [ah (by omega)] at hF;refine br ?_ ?_<;>intro c
 ·have c:k=2:=sU c;rw [ai c] at hF;refine (congrArg (fun b=>DV.v (.bool b)) ?_:_=_);rw [hF];cases decide (0<=n)<;>rfl
 have c2:¬ k=2:=sU c;rw [ah c2] at hF;refine br ?_ ?_<;>intro c
 ·have c:k=3:=sU c;rw [ai (.inl c)] at hF;refine br (fun _=>?_) (fun g=>absurd g (by simp [c]));refine (congrArg (fun b=>DV.v (.bool b)) ?_:_=_);rw [hF];cases decide (n=0)<;>rfl
 have c3:¬ k=3:=sU c;refine br ?_ ?_<;>intro c
 ·have c:k=4:=sU c;rw [ai (.inr c)] at hF;refine (congrArg (fun b=>DV.v (.bool b)) ?_:_=_);rw [hF];cases decide (n=0)<;>rfl
 have c4:¬ k=4:=sU c;rw [ah (by omega)] at hF;subst hF;exact (rfl:_=_)
abbrev prSt (l:List dj) (e:Nat):St:=⟨[(8,⟨[],.sl 3 (aU l) none⟩),(9,⟨[],.v (.int .i64 (aU l).length)⟩),(10,⟨[],.v (.int .i64 e)⟩)],[],[]⟩
theorem FE (l:List dj) (hs:∀ s∈l,s.s.size<=4611686018427387904):aV prog 141 [.sl 3 (aU l) none] (.v (.bool (oC l))):=by
 have bH:=ef l;have hF:oC l=(decide (l.length<=64) && l.all dw):=rfl;generalize oC l=F at hF ⊢;refine eG 18 [.tmp 2] func141 rfl ntmps141 rfl fun _ _ _ _=>?_;refine br ?_ ?_<;>intro g
 ·have:¬ l.length<=64:=by simp [bH] at g;omega
  rw [decide_eq_false this,Bool.false_and] at hF;subst hF;exact (rfl:_=_)
 have dG:l.length<=64:=by simp [bH] at g;omega
 rw [decide_eq_true dG,Bool.true_and] at hF;refine lI (fun j st=>∃ e:Nat,st=prSt l e/\e<=l.length/\F=(l.drop e).all dw/\j=l.length - e) ⟨0,rfl,by omega,hF,rfl⟩ (aj ⟨_,rfl⟩ wA rfl rfl rfl wB) ?_;rintro j st ⟨e,rfl,he,aN,rfl⟩;refine br ?_ ?_<;>intro hL
 ·have ap:e < l.length:=sV bH hL;obtain ⟨x,hx⟩:=gX ap;have h1:=CT x (hs x (mG hx));rw [FD hx] at aN;obtain ⟨xk,xn,xs⟩:=x;refine iX (dR hx) ?_;refine cP Ya h1 ?_;refine br ?_ ?_<;>intro g
  ·have g:dw ⟨xk,xn,xs⟩=false:=sU g;rw [g,Bool.false_and] at aN;subst aN;exact (rfl:_=_)
  ·have g:dw ⟨xk,xn,xs⟩=true:=sU g;rw [g,Bool.true_and] at aN;exact rE ⟨_,by omega,e + 1,rfl,by omega,aN,rfl⟩ (aj ⟨_,rfl⟩ wA rfl rfl rfl (dt (aJ ap (by omega))))
 ·have aQ:l.length<=e:=sV bH hL;rw [List.drop_eq_nil_of_le aQ] at aN;subst aN;exact (rfl:_=_)
abbrev aao (l:List dj) (e:Nat):St:=⟨[(0,⟨[],.sl 3 (aU l) none⟩),(3,⟨[],.v (.int .i64 e)⟩)],[],[]⟩
theorem CU (l:List dj) (hs:∀ s∈l,s.s.size<=4611686018427387904):aV prog 186 [.sl 3 (aU l) none] (.v (.bool (oC l))):=by
 have bH:=ef l;have hF:oC l=(decide (l.length<=64) && l.all dw):=rfl;generalize oC l=F at hF ⊢;refine eG 66 [.tmp 2] func186 rfl ntmps186 rfl fun _ _ _ _=>?_;refine br ?_ ?_<;>intro g
 ·have:¬ l.length<=64:=by simp [bH] at g;omega
  rw [decide_eq_false this,Bool.false_and] at hF;subst hF;exact (rfl:_=_)
 have dG:l.length<=64:=by simp [bH] at g;omega
 rw [decide_eq_true dG,Bool.true_and] at hF;refine lI (fun j st=>∃ e:Nat,st=aao l e/\e<=l.length/\F=(l.drop e).all dw/\j=l.length - e) ⟨0,rfl,by omega,hF,rfl⟩ (aj ⟨_,rfl⟩ wA rfl rfl rfl wB) ?_;rintro j st ⟨e,rfl,he,aN,rfl⟩;refine br ?_ ?_<;>intro hL
 ·have ap:e < l.length:=sV bH hL;obtain ⟨x,hx⟩:=gX ap;have h1:=jG x.s (hs x (mG hx));rw [FD hx] at aN;have WE:∀ k n t,dw ⟨k,n,t⟩=if k=1∨k=5 then decide (n=0) && bi t else if k=2 then decide (0<=n) && decide (t=⟨#[]⟩) else if k=3∨k=4 then decide (n=0) && decide (t=⟨#[]⟩) else false:=fun _ _ _=>rfl
  obtain ⟨xk,xn,xs⟩:=x;rw [WE] at aN;refine iX (dR hx) ?_
  have bp:bi xs=true->xs≠⟨#[]⟩:=by
   intro h e;rw [e] at h
   revert h
   decide
  have hk:xk=1∨xk=5∨xk=2∨xk=3∨xk=4∨(xk < 1/\¬ 5 < xk/\¬ xk=1/\¬ xk=2/\¬ xk=3/\¬ xk=4/\¬ xk=5)∨(¬ xk < 1/\5 < xk/\¬ xk=1/\¬ xk=2/\¬ xk=3/\¬ xk=4/\¬ xk=5):=by omega
  have hd:(xn < 0)↔¬ (0<=xn):=by omega
  have iv:∀ b,(if xk=1∨xk=5 then decide (xn=0) && bi xs else if xk=2 then decide (0<=xn) && decide (xs=⟨#[]⟩) else if xk=3∨xk=4 then decide (xn=0) && decide (xs=⟨#[]⟩) else false)=b->F=(b && (l.drop (e + 1)).all dw):=fun b h=>by rw [aN,h]
  refine br ?_ ?_<;>intro g1
  ·refine br ?_ ?_<;>intro g2
   ·refine cP DI h1 ?_;refine br ?_ ?_<;>intro g3
    ·have hF:=iv false (by
      clear aN iv WE h1 hx
      rcases hk with rfl | rfl | rfl | rfl | rfl | ⟨k1,k2,k3,k4,k5,k6,k7⟩ | ⟨k1,k2,k3,k4,k5,k6,k7⟩<;>by_cases h0:xs=⟨#[]⟩<;>by_cases hz:xn=0<;>by_cases kX:0<=xn<;>cases iM:bi xs<;>first | (exact absurd h0 (bp iM)) | (simp [lastG,pickB,hd,h0,hz,kX,iM,k1,k2,k3,k4,k5,k6,k7] at g1 g2 g3 ⊢;done) | (simp [lastG,pickB,hd,h0,hz,kX,iM] at g1 g2 g3 ⊢;done) | omega)
     rw [hF,Bool.false_and];exact (rfl:_=_)
    ·have hF:=iv true (by
      clear aN iv WE h1 hx
      rcases hk with rfl | rfl | rfl | rfl | rfl | ⟨k1,k2,k3,k4,k5,k6,k7⟩ | ⟨k1,k2,k3,k4,k5,k6,k7⟩<;>by_cases h0:xs=⟨#[]⟩<;>by_cases hz:xn=0<;>by_cases kX:0<=xn<;>cases iM:bi xs<;>first | (exact absurd h0 (bp iM)) | (simp [lastG,pickB,hd,h0,hz,kX,iM,k1,k2,k3,k4,k5,k6,k7] at g1 g2 g3 ⊢;done) | (simp [lastG,pickB,hd,h0,hz,kX,iM] at g1 g2 g3 ⊢;done) | omega)
     rw [Bool.true_and] at hF;exact rE ⟨_,by omega,e + 1,rfl,by omega,hF,rfl⟩ (aj ⟨_,rfl⟩ wA rfl rfl rfl (dt (aJ ap (by omega))))
   ·refine br ?_ ?_<;>intro g3
    ·have hF:=iv false (by
      clear aN iv WE h1 hx
      rcases hk with rfl | rfl | rfl | rfl | rfl | ⟨k1,k2,k3,k4,k5,k6,k7⟩ | ⟨k1,k2,k3,k4,k5,k6,k7⟩<;>by_cases h0:xs=⟨#[]⟩<;>by_cases hz:xn=0<;>by_cases kX:0<=xn<;>cases iM:bi xs<;>first | (exact absurd h0 (bp iM)) | (simp [lastG,pickB,hd,h0,hz,kX,iM,k1,k2,k3,k4,k5,k6,k7] at g1 g2 g3 ⊢;done) | (simp [lastG,pickB,hd,h0,hz,kX,iM] at g1 g2 g3 ⊢;done) | omega)
     rw [hF,Bool.false_and];exact (rfl:_=_)
    ·have hF:=iv true (by
      clear aN iv WE h1 hx
      rcases hk with rfl | rfl | rfl | rfl | rfl | ⟨k1,k2,k3,k4,k5,k6,k7⟩ | ⟨k1,k2,k3,k4,k5,k6,k7⟩<;>by_cases h0:xs=⟨#[]⟩<;>by_cases hz:xn=0<;>by_cases kX:0<=xn<;>cases iM:bi xs<;>first | (exact absurd h0 (bp iM)) | (simp [lastG,pickB,hd,h0,hz,kX,iM,k1,k2,k3,k4,k5,k6,k7] at g1 g2 g3 ⊢;done) | (simp [lastG,pickB,hd,h0,hz,kX,iM] at g1 g2 g3 ⊢;done) | omega)
     rw [Bool.true_and] at hF;exact rE ⟨_,by omega,e + 1,rfl,by omega,hF,rfl⟩ (aj ⟨_,rfl⟩ wA rfl rfl rfl (dt (aJ ap (by omega))))
  ·have g2:=g1;have g3:=g1
   have hF:=iv false (by
     clear aN iv WE h1 hx
     rcases hk with rfl | rfl | rfl | rfl | rfl | ⟨k1,k2,k3,k4,k5,k6,k7⟩ | ⟨k1,k2,k3,k4,k5,k6,k7⟩<;>by_cases h0:xs=⟨#[]⟩<;>by_cases hz:xn=0<;>by_cases kX:0<=xn<;>cases iM:bi xs<;>first | (exact absurd h0 (bp iM)) | (simp [lastG,pickB,hd,h0,hz,kX,iM,k1,k2,k3,k4,k5,k6,k7] at g1 g2 g3 ⊢;done) | (simp [lastG,pickB,hd,h0,hz,kX,iM] at g1 g2 g3 ⊢;done) | omega)
   rw [hF,Bool.false_and];exact (rfl:_=_)
 ·have aQ:l.length<=e:=sV bH hL;rw [List.drop_eq_nil_of_le aQ] at aN;subst aN;exact (rfl:_=_)
abbrev VT (d:Nd) (s:dj) (e:Nat):St:=⟨[(2,⟨[],.loc 0 0⟩),(3,⟨[],.loc 1 0⟩),(5,⟨[],.v (.int .i64 e)⟩)],[gL d,jX s],[]⟩
theorem oE (d:Nd) (s:dj) (ez:d.ak.length<=1099511627776) (hs:s.s.size<=4611686018427387904):aV prog 138 [.agg (gL d),.agg (jX s)] (.v (.int .i64 (oz (iW d s)))):=by
 have hr:=CU [s] (sU hs);rw [yE] at hr;have hE:iW d s=if dw s=true then bN (pJ d s) d.ak.length else none:=rfl
 have hP:∀ (e:Nat) x,d.ak[e]? = some x->pJ d s e=mg d s x:=fun e x h=>by unfold pJ;rw [h]
 have hB:∀ x:Ed,mg d s x=((decide (s.k=1) && decide (d.ag=7) && (decide (x.name=s.s) && !x.bare)) || (decide (s.k=5) && decide (d.ag=8) && (decide (x.name=s.s) && !x.bare)) ||
  ((decide (s.k=2) || decide (s.k=3)) && decide (d.ag=5) && decide (s.n < d.most)) || (decide (s.k=4) && decide (d.ag=6))):=fun _=>rfl
 generalize iW d s=I at hE ⊢;generalize dw s=R at hr hE;generalize pJ d s=pE at hE hP;generalize mg d s=bE at hP hB;obtain ⟨ag,aX,lo,hi,most,af,es⟩:=d;obtain ⟨k,n,t⟩:=s;have bH:=aT es;simp only at hE hP hB ez;refine eG 93 [.tmp 4] func138 rfl ntmps138 rfl fun _ _ _ _=>?_;refine cP X8 hr ?_
 cases R with
 | false=>
  rw [ah (by simp)] at hE;subst hE;exact (rfl:_=_)
 | true=>
 rw [ai rfl] at hE;refine lI (fun j st=>∃ e:Nat,st=VT ⟨ag,aX,lo,hi,most,af,es⟩ ⟨k,n,t⟩ e/\e<=es.length/\(∀ c,c < e->pE c=false)/\j=es.length - e) ⟨0,rfl,by omega,fun _ h=>by omega,rfl⟩ (aj ⟨_,rfl⟩ wA rfl rfl rfl wB) ?_;rintro j st ⟨e,rfl,he,fq,rfl⟩;refine br ?_ ?_<;>intro hL
 ·have ap:e < es.length:=sV bH hL;obtain ⟨x,hx⟩:=gX ap;have RM:=hP e x hx;rw [hB] at RM;refine dI ?_;refine iX (aE hx) ?_;refine br ?_ ?_<;>intro g
  ·have g:decide (x.name=t)=true:=by cases h:decide (x.name=t)<;>simp_all
   refine iX (aE hx) ?_;refine br ?_ ?_<;>intro c
   ·have hc:pE e=true:=by
     rw [RM,g];simpa only [av,aw,Bool.false_and,Bool.and_false,Bool.true_and,Bool.false_or,Bool.or_false] using c
    rw [bB ap hc fq] at hE;subst hE;exact (rfl:_=_)
   ·have hc:pE e=false:=by
     rw [RM,g];simpa only [av,aw,Bool.false_and,Bool.and_false,Bool.true_and,Bool.false_or,Bool.or_false] using c
    exact rE ⟨_,by omega,e + 1,rfl,by omega,fun c lA=>by
     rcases eP lA with h | h
     ·exact fq c h
     ·rw [h];exact hc,rfl⟩ (aj ⟨_,rfl⟩ wA rfl rfl rfl (dt (aJ ap (by omega))))
  ·have g:decide (x.name=t)=false:=by cases h:decide (x.name=t)<;>simp_all
   refine br ?_ ?_<;>intro c
   ·have hc:pE e=true:=by
     rw [RM,g];simpa only [av,aw,Bool.false_and,Bool.and_false,Bool.true_and,Bool.false_or,Bool.or_false] using c
    rw [bB ap hc fq] at hE;subst hE;exact (rfl:_=_)
   ·have hc:pE e=false:=by
     rw [RM,g];simpa only [av,aw,Bool.false_and,Bool.and_false,Bool.true_and,Bool.false_or,Bool.or_false] using c
    exact rE ⟨_,by omega,e + 1,rfl,by omega,fun c lA=>by
     rcases eP lA with h | h
     ·exact fq c h
     ·rw [h];exact hc,rfl⟩ (aj ⟨_,rfl⟩ wA rfl rfl rfl (dt (aJ ap (by omega))))
 ·have aQ:e=es.length:=sW bH hL;subst aQ;rw [bP fq] at hE;subst hE;exact (rfl:_=_)
theorem O7 (s:dj) (p:List dj):DV.sl 3 (((aU (s :: p)).take (((aU (s :: p)).length:Nat):Int).toNat).drop (1:Int).toNat) none = .sl 3 (aU p) none:=by
 rw [ej,List.take_length];all_goals rfl
abbrev wL (lv:List Wd) (f:Nat->Nat->Bool) (ND:List Nd) (z:Int):List DV:=[.sl 2 (bO lv) none,.sl 1 (cW (dJ lv.length f)) none,.sl 7 (bq ND) none,.v (.int .i64 z)]
def aap (o:Option (Nat × Nat)):DV:=match o with
 | some (j,b)=>.tup [.v (.int .i64 (j:Nat)),.v (.int .i64 (b:Nat))]
 | none=>.tup [.v (.int .i64 (-1)),.v (.int .i64 (-1))]
theorem uH (lv:List Wd) (f:Nat->Nat->Bool) (ND:List Nd) (z:Int) (hL:gm f lv.length) (hn:lv.length<=32) (bw:∀ n∈ND,cK lv.length ND.length n) (bQ:∀ n∈ND,n.ak.length<=1099511627776) :
  ∀ (p:List dj),p.length<=1099511627776->(∀ s∈p,s.s.size<=4611686018427387904)->∀ (i a:Nat),i < ND.length->a < lv.length ->
   aV prog 80 [.agg (wL lv f ND z),.v (.int .i64 i),.v (.int .i64 a),.sl 3 (aU p) none] (aap (walkV ND f lv.length p i a))
 | [],_,_,i,a,hi,ha=>by
  have hW:wL lv f ND z=wL lv f ND z:=rfl;rw [walkV];refine eG 51 [.tmp 8,.tmp 9] func80 rfl ntmps80 rfl fun _ _ _ _=>?_;exact ⟨_,ax,rfl⟩
 | s :: p,hp,hs,i,a,hi,ha=>by
  obtain ⟨d,hd⟩:∃ d,ND[i]? = some d:=⟨_,gE hi⟩;have hm:=mG hd;have hN:=bw d hm;have yP:=oE d s (bQ d hm) (hs s (by simp));have gD:=fun k=>@gf d s k;have s9:=fun e (he:e∈d.ak)=>pg hN he;have hbr:=fun e (he:e∈d.ak) h=>@kU _ _ d hN s e he h;have yw:=O7 s p;have C2:=dR (l:=s :: p) (e:=0) rfl;have O8:=ef (s :: p);rw [List.length_cons] at O8 hp;have hNl:=cw ND;have ih:=fun i a hi ha=>uH lv f ND z hL hn bw bQ p (by omega) (fun s ue=>hs s (by simp [ue])) i a hi ha
  have hWV:walkV ND f lv.length (s :: p) i a=match iW d s with
   | none=>none
   | some k=>match d.ak[k]? with
    | none=>none
    | some e=>walkV ND f lv.length p e.to.toNat (Jz f lv.length a e.label.toNat):=by rw [walkV,hd];all_goals rfl
  rw [hWV];clear hWV;generalize iW d s=o at yP gD ⊢
  cases o with
  | none=>
   obtain ⟨ag,aX,lo,eQ,most,af,es⟩:=d;obtain ⟨sk,sn,ss⟩:=s;refine eG 51 [.tmp 8,.tmp 9] func80 rfl ntmps80 rfl fun _ _ _ _=>?_;refine dI ?_;refine ⟨_,⟨by omega,bZ hd⟩,_,⟨by omega,C2⟩,?_⟩;refine cD Iy yP ?_;exact ⟨_,ax,rfl⟩
  | some k=>
   obtain ⟨e,he,hB,_⟩:=gD k rfl;have UU:=mG he;obtain ⟨h0,⟨h2,Qu⟩,_⟩:=s9 e UU;obtain ⟨h1,tV⟩:=h0 (hbr e UU hB);clear s9 hbr gD h0;obtain ⟨en,eb,ea,et,vC,ew,yQ,yR,yS,yT⟩:=e;simp only at h1 h2 tV Qu;obtain ⟨lb,rfl⟩:∃ n:Nat,vC=n:=⟨_,h2⟩;obtain ⟨tn,rfl⟩:∃ n:Nat,et=n:=⟨_,h1⟩;simp only [ej] at tV Qu;have hj:=ou lv.length f (by omega) a lb ha Qu;rw [H0 hL ha Qu] at hj;have hw:=ih tn (Jz f lv.length a lb) tV (O4 hL ha Qu);simp only [he,ej];generalize walkV ND f lv.length p tn (Jz f lv.length a lb)=R at hw ⊢;obtain ⟨ag,aX,lo,eQ,most,af,es⟩:=d;obtain ⟨sk,sn,ss⟩:=s;have ez:=aT es;simp only at he;refine eG 51 [.tmp 8,.tmp 9] func80 rfl ntmps80 rfl fun _ _ _ _=>?_;refine dI ?_;refine ⟨_,⟨by omega,bZ hd⟩,_,⟨by omega,C2⟩,?_⟩;refine cD Iy yP ?_;refine iX (bZ hd) ?_;refine ⟨_,⟨by simp [oz],by simpa [oz] using aE he⟩,?_⟩;refine dI ?_;refine cD Mn hj ?_;refine ⟨⟨by omega,by omega,by omega⟩,?_⟩;refine cD Ut hw ?_ (gU yw)
   cases R with
   | none=>exact ⟨_,ax,rfl⟩
   | some r=>exact ⟨_,ax,rfl⟩
theorem H3 (d:Nd) (e:Ed) (s:dj):aV prog 190 [.agg (gL d),.agg (Ce e),.agg (jX s)] (.v (.bool (H2 d s e))):=by
 obtain ⟨ag,aX,lo,hi,most,af,es⟩:=d;obtain ⟨en,eb,ea,et,vC,ew,yQ,yR,yS,yT⟩:=e;obtain ⟨k,n,t⟩:=s
 have hF:H2 ⟨ag,aX,lo,hi,most,af,es⟩ ⟨k,n,t⟩ ⟨en,eb,ea,et,vC,ew,yQ,yR,yS,yT⟩=if k=1 then decide (ag=7) && decide (en=t)
  else if k=5 then decide (ag=8) && decide (en=t) && !eb
  else if k=2 then decide (ag=5) && decide (n < most)
  else if k=3 then decide (ag=5) && decide (0 < most)
  else decide (ag=6):=rfl
 generalize H2 ⟨ag,aX,lo,hi,most,af,es⟩ ⟨k,n,t⟩ ⟨en,eb,ea,et,vC,ew,yQ,yR,yS,yT⟩=F at hF ⊢;refine eG 63 [.tmp 6] func190 rfl ntmps190 rfl fun _ _ _ _=>?_;refine br ?_ ?_<;>intro c
 ·have c:k=1:=sU c;rw [ai c] at hF;refine (congrArg (fun b=>DV.v (.bool b)) ?_:_=_);rw [hF];simp only [av]
 have c1:¬ k=1:=sU c;rw [ah c1] at hF;refine br ?_ ?_<;>intro c
 ·have c:k=5:=sU c;rw [ai c] at hF;refine (congrArg (fun b=>DV.v (.bool b)) ?_:_=_);rw [hF];simp only [av]
 have c5:¬ k=5:=sU c;rw [ah c5] at hF;refine br ?_ ?_<;>intro c
 ·have c:k=2:=sU c;rw [ai c] at hF;refine (congrArg (fun b=>DV.v (.bool b)) ?_:_=_);rw [hF];simp only [av]
 have c2:¬ k=2:=sU c;rw [ah c2] at hF;refine br ?_ ?_<;>intro c
 ·have c:k=3:=sU c;rw [ai c] at hF;refine (congrArg (fun b=>DV.v (.bool b)) ?_:_=_);rw [hF];simp only [av]
 have c3:¬ k=3:=sU c;rw [ah c3] at hF;refine (congrArg (fun b=>DV.v (.bool b)) ?_:_=_);rw [hF]
def estW (ND:List Nd) (f:Nat->Nat->Bool) (n:Nat) (s:dj) (i a:Nat):Option (Nat × Nat):=match ND[i]? with
 | none=>none
 | some d=>match iW d s with
  | none=>none
  | some k=>match d.ak[k]? with
   | none=>none
   | some e=>some (e.to.toNat,Jz f n a e.label.toNat)
theorem walkV_drop (ND:List Nd) (f:Nat->Nat->Bool) (n:Nat) (p:List dj) (e i a:Nat):walkV ND f n (p.drop e) i a=match p[e]? with
  | none=>some (i,a)
  | some s=>match estW ND f n s i a with
   | none=>none
   | some (j,b)=>walkV ND f n (p.drop (e + 1)) j b:=by
 cases hs:p[e]? with
 | none=>rw [List.drop_eq_nil_of_le (List.getElem?_eq_none_iff.1 hs)];all_goals rfl
 | some s=>
  obtain ⟨h1,h2⟩:=List.getElem?_eq_some_iff.1 hs;rw [List.drop_eq_getElem_cons h1,h2,walkV];simp only [estW]
  cases hd:ND[i]? with
  | none=>rfl
  | some d=>
   simp only
   cases hk:iW d s with
   | none=>rfl
   | some k=>
    simp only
    cases he:d.ak[k]? with
    | none=>rfl
    | some x=>rfl
theorem RN {f:Nat->Nat->Bool} {L:Nat} (hL:gm f L) {ND:List Nd} (bw:∀ n∈ND,cK L ND.length n) {s:dj} {i a j b:Nat} (hi:i < ND.length) (ha:a < L) (h:estW ND f L s i a=some (j,b)):j < ND.length/\b < L:=by
 have hw:=walkV_drop ND f L [s] 0 i a;simp only [List.getElem?_cons_zero,h] at hw;exact Fy hL bw [s] i a hi ha hw
def aaq (o:Option (Nat × Nat)):DV:=match o with
 | some (j,b)=>.tup [.agg [.v (.int .i64 (j:Nat)),.v (.int .i64 (b:Nat))],.v (.bool true)]
 | none=>.tup [.agg [.v (.int .i64 0),.v (.int .i64 0)],.v (.bool false)]
abbrev aar (PC:List DV) (i a:Nat) (s:dj) (d:Nd) (e:Nat):St:=
 ⟨[(0,⟨[],.pt PC 0⟩),(4,⟨[],.loc 0 0⟩),(5,⟨[],.loc 1 0⟩),(6,⟨[],.loc 2 0⟩),(8,⟨[],.loc 3 0⟩),(20,⟨[],.sl 10 (cG d.ak) none⟩),(21,⟨[],.v (.int .i64 (cG d.ak).length)⟩),(22,⟨[],.v (.int .i64 e)⟩)],
  [[.v (.int .i64 i),.v (.int .i64 a)],jX s,[.v (.int .i64 0),.v (.int .i64 0)],gL d],[]⟩
theorem H4 {S:Sch} {ND:List Nd} {PC:List DV} (hP:fm S ND PC) (s:dj) (hr:dw s=true) (i a:Nat) (hi:i < ND.length) (ha:a < S.ae.length) :
  aV prog 142 [.pt PC 0,.agg [.v (.int .i64 i),.v (.int .i64 a)],.agg (jX s)] (aaq (estW ND (ey S) S.ae.length s i a)):=by
 obtain ⟨LC,KK,PH⟩:=hP.VR;obtain ⟨d,hd⟩:∃ d,ND[i]? = some d:=⟨_,gE hi⟩;have hN:=hP.ok d (mG hd);have eW:=hP.aq i d hd
 have ez:d.ak.length<=1099511627776:=by
  have:=o6 (S:=S) (n:=d) (by rw [<- hP.Ao];exact mG hd) hP.wt;exact this.2
 have hjn:=fun b hb=>PH.join a b ha hb
 have hW:estW ND (ey S) S.ae.length s i a=match bN (pJ d s) d.ak.length with
  | none=>none
  | some k=>match d.ak[k]? with
   | none=>none
   | some e=>some (e.to.toNat,Jz (ey S) S.ae.length a e.label.toNat):=by
  unfold estW;simp only [hd,iW,ai hr]
 have RM:∀ (e:Nat) x,d.ak[e]? = some x->pJ d s e=H2 d s x:=fun e x h=>by
  rw [JB hN hr (mG h)];unfold pJ;rw [h]
 have BE:=fun x=>H3 d x s;have s9:=fun (e:Ed) (he:e∈d.ak) (h:mg d s e=true)=>And.intro ((pg hN he).1 (kU hN he h)) (pg hN he).2.1;have Lq:=fun x hx=>JB hN hr (e:=x) hx;generalize estW ND (ey S) S.ae.length s i a=R at hW ⊢;generalize pJ d s=pE at hW RM;generalize Jz (ey S) S.ae.length a=jn at hW hjn;obtain ⟨ag,aX,lo,eQ,most,af,es⟩:=d;obtain ⟨k,n,t⟩:=s;have bH:=aT es;simp only at hW RM ez;refine eG 42 [.cell 6 214,.tmp 7] func142 rfl ntmps142 rfl fun _ _ _ _=>?_;refine cP Gv eW ?_;refine lI (fun j st=>∃ e:Nat,st=aar PC i a ⟨k,n,t⟩ ⟨ag,aX,lo,eQ,most,af,es⟩ e/\e<=es.length/\(∀ c,c < e->pE c=false)/\j=es.length - e) ⟨0,rfl,by omega,fun _ h=>by omega,rfl⟩ (aj ⟨_,rfl⟩ wA rfl rfl rfl wB) ?_;rintro j st ⟨e,rfl,he,fq,rfl⟩;refine br ?_ ?_<;>intro hL
 ·have ap:e < es.length:=sV bH hL;obtain ⟨x,hx⟩:=gX ap;have hPx:=RM e x hx;have hfx:=BE x;have RA:=mG hx;have eT:=s9 x RA;have VU:=Lq x RA
  cases hv:H2 ⟨ag,aX,lo,eQ,most,af,es⟩ ⟨k,n,t⟩ x with
  | true=>
   rw [hv] at hPx hfx VU;obtain ⟨⟨h1,_⟩,h2,h3⟩:=eT VU.symm;rw [bB ap hPx fq] at hW;simp only [hx] at hW;clear s9 Lq eT VU BE;obtain ⟨en,eb,ea,et,vC,ew,yQ,yR,yS,yT⟩:=x;simp only at h1 h2 h3;obtain ⟨lb,rfl⟩:∃ n:Nat,vC=n:=⟨_,h2⟩;obtain ⟨tn,rfl⟩:∃ n:Nat,et=n:=⟨_,h1⟩;simp only [ej] at h3 hW;have hj:=hjn lb h3;subst hW;refine iX (aE hx) ?_;refine cP Sv hfx ?_;refine dS ?_;refine cD Sf KK ?_;refine cD Sq hj ?_;exact ⟨_,ax,rfl⟩
  | false=>
   rw [hv] at hPx hfx;obtain ⟨en,eb,ea,et,vC,ew,yQ,yR,yS,yT⟩:=x;refine iX (aE hx) ?_;refine cP Sv hfx ?_
   exact rE ⟨_,by omega,e + 1,rfl,by omega,fun c hc=>by
    rcases eP hc with h | h
    ·exact fq c h
    ·rw [h];exact hPx,rfl⟩ (au 4 rfl (ny (aJ ap (by omega))) rfl rfl rfl (dt (aJ ap (by omega))))
 ·have aQ:e=es.length:=sW bH hL;subst aQ;rw [bP fq] at hW;simp only at hW;subst hW;exact ⟨_,ax,rfl⟩
def aas (o:Option (Nat × Nat)):DV:=match o with
 | some (j,b)=>.tup [.v (.int .i64 (j:Nat)),.v (.int .i64 (b:Nat)),.v (.bool true)]
 | none=>.tup [.v (.int .i64 (-1)),.v (.int .i64 (-1)),.v (.bool false)]
abbrev aat (PC:List DV) (p:List dj) (i a e:Nat):St:=
 ⟨[(0,⟨[],.pt PC 0⟩),(7,⟨[],.loc 0 0⟩),(18,⟨[],.sl 3 (aU p) none⟩),(19,⟨[],.v (.int .i64 (aU p).length)⟩),(20,⟨[],.v (.int .i64 e)⟩)],[[.v (.int .i64 i),.v (.int .i64 a)]],[]⟩
theorem yG {S:Sch} {ND:List Nd} {PC:List DV} (hP:fm S ND PC) (p:List dj) (hp:p.length<=1099511627776) (hs:∀ s∈p,s.s.size<=4611686018427387904) (rt:Nat) (yV:gl S=rt) (eB:rt < ND.length) :
  aV prog 76 [.pt PC 0,.sl 3 (aU p) none] (aas (walkV ND (ey S) S.ae.length p rt (jY (ey S) S.ae.length))):=by
 obtain ⟨LC,KK,PH⟩:=hP.VR;have og:=hP.root;rw [yV] at og;have Nu:=PH.bot;have hbl:=JA PH.ok;have aW:=fun s hr i a hi ha=>H4 hP s hr i a hi ha;have hwd:=walkV_drop ND (ey S) S.ae.length p;have bw:=fun {s i a j b}=>@RN _ _ PH.ok _ hP.ok s i a j b;have bH:=ef p
 have TX:∀ s i a,dw s=false->estW ND (ey S) S.ae.length s i a=none:=fun s i a h=>by
  unfold estW
  cases ND[i]? with
  | none=>rfl
  | some d=>simp [iW,h]
 generalize hR:walkV ND (ey S) S.ae.length p rt (jY (ey S) S.ae.length)=R;have hR0:walkV ND (ey S) S.ae.length (p.drop 0) rt (jY (ey S) S.ae.length)=R:=by rw [List.drop_zero];exact hR
 clear hR;generalize jY (ey S) S.ae.length=bt at Nu hbl hR0;refine eG 42 [.tmp 4,.tmp 5,.tmp 6] func76 rfl ntmps76 rfl fun _ _ _ _=>?_;refine cP en13 og ?_;refine cP Sf KK ?_;refine cP Sg Nu ?_;refine lI (fun j st=>∃ e i a:Nat,st=aat PC p i a e/\e<=p.length/\i < ND.length/\a < S.ae.length/\walkV ND (ey S) S.ae.length (p.drop e) i a=R/\j=p.length - e) ⟨0,rt,bt,rfl,by omega,eB,hbl,hR0,rfl⟩ (aj ⟨_,rfl⟩ wA rfl rfl rfl wB) ?_;rintro j st ⟨e,i,a,rfl,he,hi,ha,hw,rfl⟩;rw [hwd] at hw;refine br ?_ ?_<;>intro hL
 ·have ap:e < p.length:=sV bH hL;obtain ⟨x,hx⟩:=gX ap;have qA:=hs x (mG hx);have hr:=FE [x] (sU qA);rw [yE] at hr;rw [hx] at hw;simp only at hw
  cases QF:dw x with
  | false=>
   rw [TX x i a QF] at hw;simp only at hw;subst hw;rw [QF] at hr;obtain ⟨xk,xn,xt⟩:=x;refine iX (dR hx) ?_;refine cP Sh hr ?_;exact ⟨_,ax,rfl⟩
  | true=>
   have yL:=aW x QF i a hi ha;have hkx:=@bw x i a;rw [QF] at hr;generalize estW ND (ey S) S.ae.length x i a=o at hw yL hkx;obtain ⟨xk,xn,xt⟩:=x;refine iX (dR hx) ?_;refine cP Sh hr ?_;refine cP XV yL ?_
   cases o with
   | none=>
    simp only at hw;subst hw;exact ⟨_,ax,rfl⟩
   | some r=>
    obtain ⟨j,b⟩:=r;simp only at hw;obtain ⟨h1,h2⟩:=hkx hi ha rfl;exact rE ⟨_,by omega,e + 1,j,b,rfl,by omega,h1,h2,hw,rfl⟩ (au 1 rfl (ny (aJ ap (by omega))) rfl rfl rfl (dt (aJ ap (by omega))))
 ·have aQ:p.length<=e:=sV bH hL;rw [cR aQ] at hw;simp only at hw;subst hw;refine dI ?_;exact ⟨_,ax,rfl⟩
theorem RO {n0 m0:Nat} {st st':St} (n:Nat) (q r:TkE) (hq:q.new=true) (hr:r.new=true) (hn:Nat.ble n st.bx.length=true) (h3:st.tk ++ [q,r]=st'.tk) (h2:WeLL n st.tk.length st'.tk (st.bx.take n) st'.bx) (h4:Nat.ble n0 n=true) (h5:Nat.ble m0 st.tk.length=true)
  (h:tY n st.tk.length st'.tk st.sl st'.sl):sE n0 m0 st st':=by
 have hl:(st.bx.take n).length=n:=by
  have:=nL hn;rw [zLenT];omega
 exact ⟨st.tk,[],[q,r],st.bx.take n,st.bx.drop n,by simpa using h5,by rw [hl];simpa using h4,by simp,h3.symm,by simpa using ⟨hq,hr⟩,(List.take_append_drop n st.bx).symm,by rw [hl];exact h2,by rw [hl];exact h⟩
theorem JC {sz:List Nat} {q:Pl} (h:q.s.k=2):yW sz q=1 + q.s.n.toNat * sz.getD (to0 q.d).toNat 0:=by unfold yW;rw [ai h]
theorem O9 {sz:List Nat} {q:Pl} (h:q.s.k=1):yW sz q=1 + sumE sz q.k q.d.ak 0:=by unfold yW;rw [ah (by omega),ai h]
theorem Pa {sz:List Nat} {q:Pl} (h2:q.s.k≠2) (h1:q.s.k≠1):yW sz q=1:=by unfold yW;rw [ah h2,ah h1]
section
variable (PC:List DV) (ND:List Nd) (D:List Nat) (K:List Bool) (sz ot:List Nat) {L:Nat}
abbrev Tx (s:dj) (d:Nd) (m e:Nat):St:=
 ⟨[(0,⟨[],.pt (ng PC ND D K sz ot) 0⟩),(9,⟨[],.loc 1 0⟩),(10,⟨[],.v (.int .i64 m)⟩),(25,⟨[],.v (.int .i64 s.n)⟩),(26,⟨[],.v (.int .i64 e)⟩)],[jX s,gL d],[]⟩
abbrev aau (s:dj) (d:Nd) (k m e:Nat):St:=
 ⟨[(0,⟨[],.pt (ng PC ND D K sz ot) 0⟩),(2,⟨[],.v (.int .i64 k)⟩),(10,⟨[],.v (.int .i64 m)⟩),(46,⟨[],.sl 10 (cG d.ak) none⟩),(47,⟨[],.v (.int .i64 (cG d.ak).length)⟩),(48,⟨[],.v (.int .i64 e)⟩)],[jX s,gL d],[]⟩
theorem CV {q:Pl} (hq:tR ND q) (hs:sz.length=ND.length) (hz:∀ z∈sz,z<=4097) (hn:cK L ND.length q.d) (ez:q.d.ak.length<=1099511627776) :
  aV prog 127 [.pt (ng PC ND D K sz ot) 0,.v (.int .i64 q.i),.v (.int .i64 q.k),.agg (jX q.s)] (.v (.int .i64 (bf (yW sz q):Nat))):=by
 obtain ⟨_,_,k2,_⟩:=lz hq;have eW:=hq.aq;have cu:=hn.one;have yc:=hn.many;have aZ:=hn.fU;have dn:=hn.bare;have oF:=hn.uw;have e2:=@JC sz q;have e1:=@O9 sz q;have e0:=@Pa sz q;have jU:=(lz hq).1;generalize hX:yW sz q=X at *;obtain ⟨i,d,k,s⟩:=q;obtain ⟨ag,aX,lo,hi,most,af,es⟩:=d;obtain ⟨sk,sn,ss⟩:=s;simp only at *;have bH:=aT es;refine eG 69 [.tmp 8] func127 rfl ntmps127 rfl fun _ _ _ _=>?_;refine iX (bZ eW) ?_;refine br ?_ ?_<;>intro c
 ·have c:sk=2:=sU c;obtain ⟨c5,kX,zt⟩:=k2 c;obtain ⟨x,hx,nM,_⟩:=cu (.inl c5);have yU:es[0]? = some x:=by rw [hx];all_goals rfl
  obtain ⟨t,ht,gZ⟩:=(aZ x (by rw [hx];simp)).to1 nM;obtain ⟨z,sa⟩:∃ z,sz[t]? = some z:=⟨_,gE (by omega)⟩;have Ww:=hz z (mG sa)
  have sf:sz.getD (to0 ⟨ag,aX,lo,hi,most,af,es⟩).toNat 0=z:=by
   unfold to0;rw [yU];simp only;rw [ht,ej,aF,sa];all_goals rfl
  have e2:=e2 c;rw [sf] at e2;rw [e2];have oF:=oF c5;refine bz (fun j st=>∃ e:Nat,st=Tx PC ND D K sz ot ⟨sk,sn,ss⟩ ⟨ag,aX,lo,hi,most,af,es⟩ (bf (1 + e * z)) e/\e<=sn.toNat/\j=sn.toNat - e) sn.toNat (Tx PC ND D K sz ot ⟨sk,sn,ss⟩ ⟨ag,aX,lo,hi,most,af,es⟩ 1 0) (au 2 rfl wA rfl rfl rfl wB) ⟨0,by rw [Nat.zero_mul];rfl,by omega,by omega⟩ ?_;rintro j st ⟨e,rfl,he,rfl⟩;refine br ?_ ?_<;>intro hL
  ·have ap:e < sn.toNat:=by
    have:(e:Int) < sn:=sU hL;omega
   have hc:=fF (1 + e * z);have hw:=wrapN (a:=bf (1 + e * z)) (b:=z) (by omega) (by omega);have eT:bf (bf (1 + e * z) + z)=bf (1 + (e + 1) * z):=by rw [tQ,Nat.add_mul,Nat.one_mul,Nat.add_assoc]
   refine dI ?_;refine iX (aE yU) ?_;refine ⟨_,⟨by rw [ht];exact cH _,by rw [ht];exact aG sa⟩,?_⟩;refine cD nz (ei (bf (1 + e * z) + z)) ?_ (gU hw);exact rE ⟨_,by omega,e + 1,rfl,by omega,rfl⟩ (au 2 rfl (gF (aJ ap (by omega)) eT) rfl rfl rfl (wB2 (aJ ap (by omega)) eT))
  ·have aQ:e=sn.toNat:=by
    have:¬ (e:Int) < sn:=sU hL;omega
   subst aQ;exact (rfl:_=_)
 have c:¬ sk=2:=sU c;refine br ?_ ?_<;>intro c1
 ·have c1:sk=1:=sU c1;obtain ⟨c7,_⟩:=jU c1;rw [e1 c1];refine lJ (fun e=>aau PC ND D K sz ot ⟨sk,sn,ss⟩ ⟨ag,aX,lo,hi,most,af,es⟩ k (bf (1 + sumE sz k (es.take e) 0)) e) es.length (au 2 rfl wA rfl rfl rfl wB) ?_;intro e he;refine br ?_ ?_<;>intro hL
  ·have ap:e < es.length:=sV bH hL;obtain ⟨x,hx⟩:=gX ap;have eT:=Bg (sz:=sz) (k:=k) hx
   have nM:x.bare=false:=by
    cases hb:x.bare with
    | false=>rfl
    | true=>have:=dn x (mG hx) hb;omega
   obtain ⟨t,ht,gZ⟩:=(aZ x (mG hx)).to1 nM;obtain ⟨z,sa⟩:∃ z,sz[t]? = some z:=⟨_,gE (by omega)⟩;have Ww:=hz z (mG sa);have yP:cg sz x=z:=by unfold cg;rw [ht,ej,aF,sa];all_goals rfl
   have hc:=fF (1 + sumE sz k (es.take e) 0);have hw:=wrapN (a:=bf (1 + sumE sz k (es.take e) 0)) (b:=z) (by omega) (by omega);refine iX (aE hx) ?_;refine br ?_ ?_<;>intro g
   ·have g:¬ e=k:=by
     intro Vs;rw [Vs] at g;simp at g
    have rS:bf (bf (1 + sumE sz k (es.take e) 0) + z)=bf (1 + sumE sz k (es.take (e + 1)) 0):=by rw [tQ,eT,ah g,yP,Nat.add_assoc]
    refine dI ?_;refine ⟨_,⟨by rw [ht];exact cH _,by rw [ht];exact aG sa⟩,?_⟩;refine cD nz (ei (bf (1 + sumE sz k (es.take e) 0) + z)) ?_ (gU hw);exact rE ⟨_,by omega,e + 1,rfl,by omega,rfl⟩ (au 2 rfl (gF (aJ ap (by omega)) rS) rfl rfl rfl (wB2 (aJ ap (by omega)) rS))
   ·have g:e=k:=by
     have:(e:Int)=k:=sU g;omega
    have rS:1 + sumE sz k (es.take e) 0=1 + sumE sz k (es.take (e + 1)) 0:=by rw [eT,ai g,Nat.add_zero]
    exact rE ⟨_,by omega,e + 1,rfl,by omega,rfl⟩ (au 2 rfl (gF (aJ ap (by omega)) (congrArg (fun n:Nat=>((bf n:Nat):Int)) rS)) rfl rfl rfl (wB2 (aJ ap (by omega)) (congrArg (fun n:Nat=>((bf n:Nat):Int)) rS)))
  ·have aQ:e=es.length:=sW bH hL;subst aQ;rw [List.take_length];exact (rfl:_=_)
 ·have c1:¬ sk=1:=sU c1;rw [e0 c c1];exact (rfl:_=_)
end
theorem yH (L:List Nat) (e:Nat):dInts L ++ [[DV.v (.int .i64 (e:Nat))]]=dInts (L ++ [e]):=by simp [dInts]
abbrev FF (l:List Pl):List Nat:=l.map Pl.i
abbrev FG (l:List Pl):List Nat:=l.map Pl.k
theorem Pb {l:List Pl} {e:Nat} {q:Pl} (h:l[e]? = some q):dInts (FF (l.take e)) ++ [[DV.v (.int .i64 (q.i:Nat))]]=dInts (FF (l.take (e + 1))):=by
 rw [dE h,FF,FF,List.map_append,yH];all_goals rfl
theorem Pc {l:List Pl} {e:Nat} {q:Pl} (h:l[e]? = some q):dInts (FG (l.take e)) ++ [[DV.v (.int .i64 (q.k:Nat))]]=dInts (FG (l.take (e + 1))):=by
 rw [dE h,FG,FG,List.map_append,yH];all_goals rfl
section
variable (PC:List DV) (p:List dj) (l:List Pl)
abbrev aav (e n m:Nat):St:=
 ⟨[(0,⟨[],.pt PC 0⟩),(1,⟨[],.sl 3 (aU p) none⟩),(4,⟨[],.sl 1 (dInts (FF (l.take e))) (some 0)⟩),(5,⟨[],.sl 1 (dInts (FG (l.take e))) (some 1)⟩),(14,⟨[],.sl 3 (aU p) none⟩),(15,⟨[],.v (.int .i64 (aU p).length)⟩),(16,⟨[],.v (.int .i64 e)⟩)],[],[⟨n,3,1,none⟩,⟨m,3,1,none⟩]⟩
abbrev VV (q:Pl) (e c:Nat):St:=
 ⟨[(0,⟨[],.pt PC 0⟩),(1,⟨[],.sl 3 (aU p) none⟩),(4,⟨[],.sl 1 (dInts (FF (l.take e))) (some 0)⟩),(5,⟨[],.sl 1 (dInts (FG (l.take e))) (some 1)⟩),(7,⟨[],.loc 0 0⟩),(8,⟨[],.v (.int .i64 q.i)⟩),(11,⟨[],.loc 1 0⟩),(13,⟨[],.v (.int .i64 c)⟩),(14,⟨[],.sl 3 (aU p) none⟩),(15,⟨[],.v (.int .i64 (aU p).length)⟩),(16,⟨[],.v (.int .i64 e)⟩)],[jX q.s,gL q.d],[⟨e,3,1,none⟩,⟨e,3,1,none⟩]⟩
end
theorem rT {S:Sch} {ND:List Nd} {PC:List DV} (hP:fm S ND PC) (bQ:∀ n∈ND,n.ak.length<=1099511627776) (p:List dj) (hp:p.length<=1099511627776) (hs:∀ s∈p,s.s.size<=4611686018427387904) (rt:Nat) (yV:gl S=rt) (eB:rt < ND.length)
  {r:Nat × Nat} (hr:walkV ND (ey S) S.ae.length p rt (jY (ey S) S.ae.length)=some r) :
  aV prog 125 [.pt PC 0,.sl 3 (aU p) none] (.tup [.sl 1 (dInts (FF (stpsV ND p rt))) none,.sl 1 (dInts (FG (stpsV ND p rt))) none]):=by
 have hw:=fun q hq jh=>yG hP q hq jh rt yV eB;have lU:=ef p;obtain ⟨xA,nJ⟩:=oD p rt _ hr;generalize stpsV ND p rt=l at xA nJ ⊢;generalize jY (ey S) S.ae.length=bt at nJ hw;refine eG 66 [.tmp 4,.tmp 5] func125 rfl ntmps125 rfl fun _ _ _ _=>?_;refine lJ (fun e=>aav PC p l e e e) p.length (RO 0 ⟨0,3,1,none⟩ ⟨0,3,1,none⟩ rfl rfl rfl rfl pS rfl rfl mi) ?_;intro e he;refine br ?_ ?_<;>intro hL
 ·have ap:e < p.length:=sV lU hL;obtain ⟨s,ue⟩:=gX ap;obtain ⟨q,b,hq,K5,bw,hwq⟩:=nJ e s ue;have jU:=hw (p.take e) (by rw [zLenT];omega) (fun x hx=>hs x (List.mem_of_mem_take hx));rw [hwq] at jU;have jU:aV prog 76 [.pt PC 0,.sl 3 (aU (p.take e)) none] (.tup [.v (.int .i64 (q.i:Nat)),.v (.int .i64 (b:Nat)),.v (.bool true)]):=jU
  have ht1:DV.sl 3 (((aU p).take ((e:Nat):Int).toNat).drop (0:Int).toNat) none = .sl 3 (aU (p.take e)) none:=by
   rw [ej];show DV.sl 3 ((aU p).take e) none=_;unfold aU;rw [List.map_take]
  have hN:=hP.ok _ (mG bw.aq);have C2:=bQ _ (mG bw.aq);have eW:=hP.aq _ _ bw.aq;have dO:=RL hN bw
  have eC:q.k < q.d.ak.length:=by
   obtain ⟨x,hx,_⟩:=gf bw.fU;exact (gS hx).1
  have hI:=Pb hq;have hK:=Pc hq;have fv:(dInts (FF (l.take e))).length=e:=by rw [bg,List.length_map,zLenT];omega
  have dm:(dInts (FG (l.take e))).length=e:=by rw [bg,List.length_map,zLenT];omega
  have eT:=aJ ap (show p.length<=4611686018427387904 by omega);subst K5;obtain ⟨i,d,k,s⟩:=q;obtain ⟨ag,aX,lo,hi,most,af,es⟩:=d;obtain ⟨sk,sn,ss⟩:=s;simp only at dO eC jU eW C2 ue hI hK;have bH:=aT es;refine iX (dR ue) ?_;refine ⟨⟨by omega,by omega,by omega⟩,?_⟩;refine cP Mh jU ?_ (gU ht1);refine cP Gv eW ?_;refine br ?_ ?_<;>intro c
  ·have c:sk=1∨sk=5:=by simpa [aw] using c
   rw [ai c] at dO;obtain ⟨_,UL,hpb⟩:=cJ dO;refine lJ (fun c=>VV PC p l ⟨i,⟨ag,aX,lo,hi,most,af,es⟩,k,⟨sk,sn,ss⟩⟩ e c) k (au 2 rfl wA rfl rfl rfl wB) ?_;intro c hc;obtain ⟨x,hx⟩:∃ x,es[c]? = some x:=⟨_,gE (by omega)⟩;have hP2:yF es ss c=decide (x.name=ss):=by unfold yF;rw [hx]
   refine dI ?_;refine iX (aE hx) ?_;refine br ?_ ?_<;>intro g
   ·have gn:¬ x.name=ss:=sU g
    have la:c < k:=by
     rcases Nat.lt_or_ge c k with h | h
     ·exact h
     ·have:c=k:=by omega
      subst this;rw [hP2] at UL;exact (gn (of_decide_eq_true UL)).elim
    exact rE ⟨_,by omega,c + 1,rfl,by omega,rfl⟩ (au 2 rfl (ny (aJ la (by omega))) rfl rfl rfl (dt (aJ la (by omega))))
   ·have gn:x.name=ss:=sU g
    have hck:c=k:=by
     rcases Nat.lt_or_ge c k with h | h
     ·have:=hpb c h;rw [hP2] at this;exact (of_decide_eq_false this gn).elim
     ·omega
    subst hck;refine ⟨fv,⟨by rw [fv];simp [maxLen];omega,by rw [fv];simp;omega⟩,?_⟩;refine ⟨dm,⟨by rw [dm];simp [maxLen];omega,by rw [dm];simp;omega⟩,?_⟩;exact rE ⟨_,by omega,e + 1,rfl,by omega,rfl⟩ (au 0 rfl (T9 eT hI hK) rfl rfl rfl (zI eT hI hK))
  ·have c:¬ (sk=1∨sk=5):=by simpa [aw] using c
   rw [ah c] at dO;subst dO;refine ⟨fv,⟨by rw [fv];simp [maxLen];omega,by rw [fv];simp;omega⟩,?_⟩;refine ⟨dm,⟨by rw [dm];simp [maxLen];omega,by rw [dm];simp;omega⟩,?_⟩;exact rE ⟨_,by omega,e + 1,rfl,by omega,rfl⟩ (au 0 rfl (T9 eT hI hK) rfl rfl rfl (zI eT hI hK))
 ·have aQ:e=p.length:=sW lU hL;subst aQ;rw [<- xA,List.take_length];exact ⟨_,ax,rfl⟩
theorem all_false {α:Type} {f:α->Bool} {l:List α} {e:Nat} {x:α} (h:l[e]? = some x) (hf:f x=false):l.all f=false:=by
 rw [List.all_eq_false];exact ⟨x,mG h,by simp [hf]⟩
theorem Bj {D:List Nat} {k:Nat} {es:List Ed} {e:Nat} {x:Ed} (h:es[e]? = some x):nH D k (es.take (e + 1)) 0=(nH D k (es.take e) 0 && (decide (e=k) || decide (cg D x≠0))):=by
 have hl:=(gS h).1;rw [dE h,Bi,zLenT,Nat.min_eq_left (by omega),Nat.zero_add]
section
variable (PC:List DV) (ND:List Nd) (D:List Nat) (K:List Bool) (sz ot:List Nat) (p:List dj) (l:List Pl)
abbrev aaw (e:Nat):St:=
 ⟨[(0,⟨[],.pt (ng PC ND D K sz ot) 0⟩),(5,⟨[],.sl 1 (dInts (FF l)) none⟩),(6,⟨[],.sl 1 (dInts (FG l)) none⟩),(20,⟨[],.sl 3 (aU p) none⟩),(21,⟨[],.v (.int .i64 (aU p).length)⟩),(22,⟨[],.v (.int .i64 e)⟩)],[],[]⟩
abbrev H5 (q:Pl) (e c:Nat):St:=
 ⟨[(0,⟨[],.pt (ng PC ND D K sz ot) 0⟩),(5,⟨[],.sl 1 (dInts (FF l)) none⟩),(6,⟨[],.sl 1 (dInts (FG l)) none⟩),(7,⟨[],.v (.int .i64 e)⟩),(8,⟨[],.loc 0 0⟩),(20,⟨[],.sl 3 (aU p) none⟩),(21,⟨[],.v (.int .i64 (aU p).length)⟩),(22,⟨[],.v (.int .i64 e)⟩),(40,⟨[],.sl 10 (cG q.d.ak) none⟩),(41,⟨[],.v (.int .i64 (cG q.d.ak).length)⟩),(42,⟨[],.v (.int .i64 c)⟩)],[jX q.s],[]⟩
end
theorem FH {S:Sch} {ND:List Nd} {PC:List DV} (D:List Nat) (K:List Bool) (sz ot:List Nat) (hP:fm S ND PC) (hD:D.length=ND.length) (bQ:∀ n∈ND,n.ak.length<=1099511627776) (p:List dj) (hp:p.length<=1099511627776) (hs:∀ s∈p,s.s.size<=4611686018427387904) (rt:Nat) (yV:gl S=rt) (eB:rt < ND.length)
  {r:Nat × Nat} (hr:walkV ND (ey S) S.ae.length p rt (jY (ey S) S.ae.length)=some r) :
  aV prog 124 [.pt (ng PC ND D K sz ot) 0,.sl 3 (aU p) none] (.v (.bool ((stpsV ND p rt).all (iO D)))):=by
 have nv:=rT hP bQ p hp hs rt yV eB hr;have lU:=ef p;obtain ⟨xA,nJ⟩:=oD p rt _ hr;generalize stpsV ND p rt=l at xA nJ nv ⊢;have aax:(dInts (FF l)).length=p.length:=by rw [bg,List.length_map,xA]
 have aay:(dInts (FG l)).length=p.length:=by rw [bg,List.length_map,xA]
 refine eG 71 [.tmp 4] func124 rfl ntmps124 rfl fun _ _ _ _=>?_;refine cP Sd nv ?_;refine lI (fun j st=>∃ e:Nat,st=aaw PC ND D K sz ot p l e/\e<=p.length/\(l.take e).all (iO D)=true/\j=p.length - e) ⟨0,rfl,by omega,rfl,rfl⟩ (au 0 rfl wA rfl rfl rfl wB) ?_;rintro j st ⟨e,rfl,he,pu,rfl⟩;refine br ?_ ?_<;>intro hL
 ·have ap:e < p.length:=sV lU hL;obtain ⟨s,ue⟩:=gX ap;obtain ⟨q,b,hq,K5,bw,hwq⟩:=nJ e s ue;have eT:=aJ ap (show p.length<=4611686018427387904 by omega);have hN:=hP.ok _ (mG bw.aq);have C2:=bQ _ (mG bw.aq);have eW:=bw.aq;have aZ:=hN.fU;have dn:=hN.bare;have hk7:=(lz bw).1;have hA:iO D q=(decide (q.s.k≠3) && (decide (q.s.k≠1) || nH D q.k q.d.ak 0)):=rfl;have VW:=fun h=>all_false (f:=iO D) hq h;have k0:iO D q=true->(l.take (e + 1)).all (iO D)=true:=fun h=>by rw [dE hq,List.all_append,pu,List.all_cons,h];all_goals rfl
  have OB:(dInts (FF l))[e]? = some [.v (.int .i64 ((q.i:Nat):Int))]:=aG (by rw [List.getElem?_map,hq];rfl);have Tz:(dInts (FG l))[e]? = some [.v (.int .i64 ((q.k:Nat):Int))]:=aG (by rw [List.getElem?_map,hq];rfl);subst K5;generalize hAg:iO D q=A at hA VW k0;obtain ⟨i,d,k,s⟩:=q;obtain ⟨ag,aX,lo,hi,most,af,es⟩:=d;obtain ⟨sk,sn,ss⟩:=s;simp only at hA eW C2 ue OB Tz aZ dn hk7;have bH:=aT es;refine iX (dR ue) ?_;refine br ?_ ?_<;>intro c
  ·have c:sk=3:=sU c;rw [VW (by rw [hA];simp [c])];exact (rfl:_=_)
  have c3:¬ sk=3:=sU c;refine dI ?_;refine ⟨_,⟨by omega,OB⟩,?_⟩;refine iX (bZ eW) ?_;refine lI (fun j st=>∃ c:Nat,st=H5 PC ND D K sz ot p l ⟨i,⟨ag,aX,lo,hi,most,af,es⟩,k,⟨sk,sn,ss⟩⟩ e c/\c<=es.length/\(sk=1->nH D k (es.take c) 0=true)/\j=es.length - c) ⟨0,rfl,by omega,fun _=>rfl,rfl⟩ (au 1 rfl wA rfl rfl rfl wB) ?_;rintro j st ⟨c,rfl,hc,nF,rfl⟩;refine br ?_ ?_<;>intro kM
  ·have la:c < es.length:=sV bH kM;obtain ⟨x,hx⟩:=gX la;have RP:=Bj (D:=D) (k:=k) hx;refine iX (aE hx) ?_;have A8:(sk=1->(decide (c=k) || decide (cg D x≠0))=true)->(sk=1->nH D k (es.take (c + 1)) 0=true):=fun h h1=>by rw [RP,nF h1,h h1];all_goals rfl
   have nM:sk=1->x.bare=false:=fun h1=>by
    obtain ⟨h7,_⟩:=hk7 h1
    cases hb:x.bare with
    | false=>rfl
    | true=>have:=dn x (mG hx) hb;omega
   refine dI ?_;refine br ?_ ?_<;>intro c1
   ·have c1:sk=1:=sU c1;obtain ⟨t,ht,gZ⟩:=(aZ x (mG hx)).to1 (nM c1);obtain ⟨z,sa⟩:∃ z,D[t]? = some z:=⟨_,gE (by omega)⟩;have yP:cg D x=z:=by unfold cg;rw [ht,ej,aF,sa];all_goals rfl
    refine ⟨_,⟨by omega,Tz⟩,?_⟩;refine br ?_ ?_<;>intro g
    ·have gn:¬ c=k:=by
      intro hck;rw [hck] at g;simp [pickB] at g
     refine ⟨_,⟨by rw [ht];exact cH _,by rw [ht];exact aG sa⟩,?_⟩;refine br ?_ ?_<;>intro g0
     ·have g0:z=0:=by
       have:((z:Nat):Int)=0:=by simpa [pickB] using g0
       omega
      have hAf:A=false:=by
       rw [hA]
       cases ho:nH D k es 0 with
       | false=>simp [c1]
       | true=>exact (kV.1 ho c x hx (by omega) (by rw [yP,g0])).elim
      rw [VW hAf];exact (rfl:_=_)
     ·have g0:¬ z=0:=by
       intro hz0;rw [hz0] at g0;simp [pickB] at g0
      exact ⟨H5 PC ND D K sz ot p l ⟨i,⟨ag,aX,lo,hi,most,af,es⟩,k,⟨sk,sn,ss⟩⟩ e (c + 1),(au 1 rfl (ny (aJ la (by omega))) rfl rfl rfl (dt (aJ la (by omega)))),es.length - (c + 1),by omega,c + 1,rfl,by omega,A8 (fun _=>by rw [yP];simp [g0]),rfl⟩
    ·have gn:c=k:=by
      have:(c:Int)=k:=by simpa [pickB] using g
      omega
     exact ⟨H5 PC ND D K sz ot p l ⟨i,⟨ag,aX,lo,hi,most,af,es⟩,k,⟨sk,sn,ss⟩⟩ e (c + 1),(au 1 rfl (ny (aJ la (by omega))) rfl rfl rfl (dt (aJ la (by omega)))),es.length - (c + 1),by omega,c + 1,rfl,by omega,A8 (fun _=>by simp [gn]),rfl⟩
   ·have c1:¬ sk=1:=sU c1;exact rE ⟨_,by omega,c + 1,rfl,by omega,A8 (fun h=>(c1 h).elim),rfl⟩ (au 1 rfl (ny (aJ la (by omega))) rfl rfl rfl (dt (aJ la (by omega))))
  ·have aQ:c=es.length:=sW bH kM;subst aQ;rw [List.take_length] at nF
   have hAt:A=true:=by
    rw [hA];by_cases h1:sk=1
    ·simp [h1,nF h1]
    ·simp [h1,c3]
   exact rE ⟨_,by omega,e + 1,rfl,by omega,k0 hAt,rfl⟩ (au 0 rfl (ny eT) rfl rfl rfl (dt eT))
 ·have aQ:e=p.length:=sW lU hL;subst aQ;rw [<- xA,List.take_length] at pu;rw [pu];exact (rfl:_=_)
end Go.Proofs.YtadhpeooehkklaaGreat
