/- Part 5 of the proof: Values that are the same; Which values fit which nodes: plain, as the program finds it and as the document says it; tree's leaf, kids, Fits; tree.Fits; the document's To, Fits; Values as they are written: plain; tree.write, Raw; Paths: data, Step compared with itself; ref09.Begins, Same on the same path; ref25.Step; Paths of a value: plain; tree.steps; Where steps lead in a value, and that value with another one there: plain; Rules for the evaluator: calls that hand back fresh rows; Rules for the evaluator: elements of rows whose cells nobody else knows, read and written whole; tree: slices.Index of steps, kid, clone, Get; tree.write, Raw; The document's Fits; Written values: well formed; the document's Same on the same value; its Raw; ref25.Paths; tree: walk, Paths; A region that draws its order, in which a new object may come at any time among calls: its run with the object made at each of these times serves every order; A region that draws its order, run by a schedule: at each point all that may come and has an effect is tried; Evolution of one node at the memory: the walk of (*both).node; Evolution: Check at two plans of one node each; Evolution, where a plan is missing: the law's walk. No condition. -/
import Derived.Test.YtfifjddnnmfeoaaGreatMp2
import Derived.Test.YtfifjddnnmfeoaaGreatMp3
import Derived.Test.YtfifjddnnmfeoaaGreatMp4
set_option linter.all false
set_option maxRecDepth 100000
namespace Go.Proofs.YtfifjddnnmfeoaaGreat
open Go Go.RowKit Dv Tryz
end Go.Proofs.YtfifjddnnmfeoaaGreat
set_option maxRecDepth 100000
namespace Go.Proofs.YtfifjddnnmfeoaaGreat
open Go Go.RowKit Dv Tryz
def to0 (n:Nd):Int:=match n.fF[0]? with | some e=>e.to | none=>0
end Go.Proofs.YtfifjddnnmfeoaaGreat
set_option maxRecDepth 100000
namespace Go.Proofs.YtfifjddnnmfeoaaGreat
open Go Go.RowKit Dv Tryz
end Go.Proofs.YtfifjddnnmfeoaaGreat
set_option maxRecDepth 100000
namespace Go.Proofs.YtfifjddnnmfeoaaGreat
open Go Go.RowKit Dv Tryz
end Go.Proofs.YtfifjddnnmfeoaaGreat
set_option maxRecDepth 100000
namespace Go.Proofs.YtfifjddnnmfeoaaGreat
open Go Go.RowKit Dv Tryz
end Go.Proofs.YtfifjddnnmfeoaaGreat
set_option maxRecDepth 100000
namespace Go.Proofs.YtfifjddnnmfeoaaGreat
open Go Go.RowKit Dv Tryz
structure wR where
 k:Int
 n:Int
 s:ByteArray
end Go.Proofs.YtfifjddnnmfeoaaGreat
set_option maxRecDepth 100000
namespace Go.Proofs.YtfifjddnnmfeoaaGreat
open Go Go.RowKit Dv Tryz
end Go.Proofs.YtfifjddnnmfeoaaGreat
set_option maxRecDepth 100000
namespace Go.Proofs.YtfifjddnnmfeoaaGreat
open Go Go.RowKit Dv Tryz
section
variable {L:Nat} {ND:List Nd} (gD:∀ n∈ND,Bp L ND.length n)
include gD
end
section
variable {L:Nat} {ND:List Nd} (gD:∀ n∈ND,Bp L ND.length n)
include gD
end
end Go.Proofs.YtfifjddnnmfeoaaGreat
namespace Go.Proofs.YtfifjddnnmfeoaaGreat
namespace Dv
open Go Go.RowKit
section
variable {X:Ctx} {st:St} {k:List It} {E:En} {a:Act} {w:World}
theorem Bs {o:Oper} {t d et e' fh n:Nat} {x:Operand} {bb:Bool} {z:List Value} (j2:∃ t',o.op = .binOp .eql t x (.const (.slice none 0 0)) t') (eC:o.dst=some d) (hx:rv st [] x=some (.v (.slice none 0 0))) (hT:X.T.find t=some ⟨n,bb,.sl et e' fh,z⟩) (hd:dm X.nt st.sl (some d)=true)
  (hk:go X 4000 k ⟨(d,⟨[],.v (.bool true)⟩) :: st.sl,st.bx,st.tk⟩):CA X o k st:=by
 intro E a w h;obtain ⟨t',j2⟩:=j2;have e1:=az h.rl hx;unfold Rv at e1;obtain ⟨hu,_⟩:=cz X.hT hT;have bd:=rM hu none 0 0 w
 have bc:(execOp a.eval o).run X.P w = .ok (.value (.bool true)) w:=by
  have hc:a.eval (.const (.slice none 0 0)) = .slice none 0 0:=rfl;simp [execOp,j2,e1.1,hc,eqGuard,binOp,bd]
 refine fp bc ?_;rw [eC];exact go_sound 4000 _ _ hk E _ w (aP h hd (.v (.bool true)) _ (by unfold Rv;exact ⟨rfl,rfl⟩))
end
end Dv
end Go.Proofs.YtfifjddnnmfeoaaGreat
namespace Go.Proofs.YtfifjddnnmfeoaaGreat
namespace Dv
open Go Go.RowKit
section
variable {X:Ctx} {st:St} {k:List It} {E:En} {a:Act} {w:World}
end
end Dv
end Go.Proofs.YtfifjddnnmfeoaaGreat
set_option maxRecDepth 100000
namespace Go.Proofs.YtfifjddnnmfeoaaGreat
open Go Go.RowKit Dv Tryz
end Go.Proofs.YtfifjddnnmfeoaaGreat
set_option maxRecDepth 100000
namespace Go.Proofs.YtfifjddnnmfeoaaGreat
open Go Go.RowKit Dv Tryz
end Go.Proofs.YtfifjddnnmfeoaaGreat
set_option maxRecDepth 100000
namespace Go.Proofs.YtfifjddnnmfeoaaGreat
open Go Go.RowKit Dv Tryz
end Go.Proofs.YtfifjddnnmfeoaaGreat
set_option maxRecDepth 100000
namespace Go.Proofs.YtfifjddnnmfeoaaGreat
open Go Go.RowKit Dv Tryz
end Go.Proofs.YtfifjddnnmfeoaaGreat
set_option maxRecDepth 100000
namespace Go.Proofs.YtfifjddnnmfeoaaGreat
open Go Go.RowKit Dv Tryz
end Go.Proofs.YtfifjddnnmfeoaaGreat
set_option maxRecDepth 100000
namespace Go.Proofs.YtfifjddnnmfeoaaGreat
open Go Go.RowKit Dv Tryz
theorem zC:bD Tryz.prog 119 [.v (.slice none 0 0)] (.v (.slice none 0 0)):=by
 refine ev_go (P:=Tryz.prog) tt tt_ok 5000 8 [.tmp 2] Tryz.func119 rfl Tryz.ntmps119 rfl (nL rfl) (fun E9 w9 hn9 hm9=>?_);refine Bs ⟨_,rfl⟩ rfl rfl rfl rfl ?_;exact (rfl:_=_)
end Go.Proofs.YtfifjddnnmfeoaaGreat
namespace Go.Proofs.YtfifjddnnmfeoaaGreat
namespace Dv
open Go Go.RowKit
section
variable {P:Program} {ops:Array Oper} {C:World->Prop} {Q:Act->World->Prop} {W:Nat->Bool} {x:Nat}
end
section
variable {X:Ctx} {D:Dw} {x:Nat} {tail:List Nat} {π:Nat->Nat}
theorem Hq {s S:St} (h:e7 s S:=by refine ⟨rfl,rfl,?_⟩;repeat' (first | exact trivial | refine ⟨rfl,?_⟩)):s=S∨e7 s S:=.inr h
end
end Dv
end Go.Proofs.YtfifjddnnmfeoaaGreat
namespace Go.Proofs.YtfifjddnnmfeoaaGreat
namespace Dv
open Go Go.RowKit
inductive gz
 | fin
 | op (i:Nat) (t:gz)
 | ev (i:Nat) (t alt:gz)
 | stop
section
variable {P:Program} {ops:Array Oper} {C:World->Prop} {Q:Act->World->Prop} {W:Nat->Bool}
def rdy (ops:Array Oper) (rem:List Nat) (i:Nat):Bool:=
 match ops[i]? with
 | some o=>o.after.toList.all fun e=>!Region.binds .any e || !rem.contains e.on
 | none=>false
def Bt (ops:Array Oper) (i:Nat):Bool:=match ops[i]? with | some o=>ia o.op | none=>false
def chkA (ops:Array Oper):gz->List Nat->Option (List Nat)->Bool
 | .fin,rem,m=>m.isNone && rem.isEmpty
 | .op i t,rem,m=>m.isNone && (rem.contains i && (!Bt ops i && (rdy ops rem i && chkA ops t (rem.erase i) none)))
 | .ev i t alt,rem,m=>rem.contains i && (Bt ops i && (rdy ops rem i && (chkA ops t (rem.erase i) none && chkA ops alt rem (some (i :: m.getD [])))))
 | .stop,rem,m=>match m with
  | some seen=>rem.all fun j=>!rdy ops rem j || seen.contains j
  | none=>false
def wK (ops:Array Oper) (W:Nat->Bool):Bool:=
 (List.range ops.size).all fun i=>(List.range ops.size).all fun j=>
  Nat.beq i j || ordB ops ops.size i j || ordB ops ops.size j i || (Bt ops i && Bt ops j) || (gx ops W j i && gx ops W i j)
def runS (P:Program) (ops:Array Oper) (W:Nat->Bool) (C:World->Prop) (Q:Act->World->Prop):gz->Act->World->Prop
 | .fin,a,w=>Q a w
 | .op i t,a,w=>∃ o,ops[i]? = some o/\∃ v,Yl P ops C o v a/\(jr o.op=true->C w)/\runS P ops W C Q t (a.put o.dst v) w
 | .ev i t alt,a,w=>(∃ o,ops[i]? = some o/\bR P ops o a w fun a' w'=>(W i=false->C w->C w')/\runS P ops W C Q t a' w')/\runS P ops W C Q alt a w
 | .stop,_,_=>True
def Bu (P:Program) (ops:Array Oper) (W:Nat->Bool) (C:World->Prop) (Q:Act->World->Prop) (rem:List Nat) (a:Act) (w:World):Prop:=∃ T,chkA ops T rem none=true/\runS P ops W C Q T a w
def Cl (ops:Array Oper) (rem:List Nat):Prop:=∀ (k:Nat) o,ops[k]? = some o->k ∉ rem->∀ e∈o.after,Region.binds .any e=true->e.on ∉ rem
theorem fH {rem:List Nat} {i:Nat} (h:rdy ops rem i=true):∃ o,ops[i]? = some o/\∀ e∈o.after,Region.binds .any e=true->e.on ∉ rem:=by
 unfold rdy at h;split at h
 ·rename_i o ho;refine ⟨o,ho,fun e he hb=>?_⟩;have:=List.all_eq_true.1 h e (by simpa using he);rw [hb] at this;simpa using this
 ·cases h
theorem iw {rem:List Nat} {i j:Nat} (h:rdy ops rem i=true):rdy ops (rem.erase j) i=true:=by
 obtain ⟨o,ho,ha⟩:=fH h;unfold rdy;rw [ho];simp only [List.all_eq_true,Bool.or_eq_true,Bool.not_eq_true'];intro e he;cases hb:Region.binds .any e
 ·exact .inl rfl
 ·right;have:=ha e (by simpa using he) hb;simp only [List.contains_eq_mem,decide_eq_false_iff_not];exact fun hm=>this (List.mem_of_mem_erase hm)
theorem nv {rem:List Nat} (hn:rem.Nodup) (hc:Cl ops rem) {i:Nat} (h:rdy ops rem i=true):Cl ops (rem.erase i):=by
 intro k o ho hk e he hb hm;have jv:=List.mem_of_mem_erase hm;by_cases gC:k=i
 ·subst gC;obtain ⟨o',o9,ha⟩:=fH h;rw [ho] at o9;simp only [oI] at o9;subst o9;exact ha e he hb jv
 ·exact hc k o ho (fun hkm=>hk ((List.mem_erase_of_ne gC).2 hkm)) e he hb jv
theorem tY {rem:List Nat} (hc:Cl ops rem):∀ (n:Nat) (j k:Nat) o,ops[k]? = some o->(∀ e∈o.after,Region.binds .any e=true->e.on ∉ rem)->ordB ops n j k=true->j ∉ rem
 | 0,j,k,o,_,_,h=>by simp [ordB] at h
 | n + 1,j,k,o,ho,fN,h=>by
  simp only [ordB,ho,List.any_eq_true,Bool.and_eq_true,Bool.or_eq_true] at h;obtain ⟨e,he,hb,hj⟩:=h;have zQ:e∈o.after:=by simpa using he
  have h1:=fN e zQ hb;rcases hj with hj | hj
  ·have:e.on=j:=by simpa using hj
   rw [<- this];exact h1
  ·cases C2:ops[e.on]? with
   | none=>
    cases n with
    | zero=>simp [ordB] at hj
    | succ n=>simp [ordB,C2] at hj
   | some o'=>exact tY hc n j e.on o' C2 (hc e.on o' C2 h1) hj
theorem r9 {rem:List Nat} (hP:wK ops W=true) (hc:Cl ops rem) {i j:Nat} (hi:rdy ops rem i=true) (hj:rdy ops rem j=true) (gK:i∈rem) (lI:j∈rem) (gv:i≠j) (Fa:Bt ops i=false∨Bt ops j=false):gx ops W j i=true:=by
 obtain ⟨o,ho,ha⟩:=fH hi;obtain ⟨o',o9,ha'⟩:=fH hj;simp only [wK,List.all_eq_true,List.mem_range] at hP;have h1:=hP i (Array.getElem?_eq_some_iff.1 ho).1 j (Array.getElem?_eq_some_iff.1 o9).1;simp only [Bool.or_eq_true,Bool.and_eq_true,Nat.beq_eq] at h1;rcases h1 with (((h1 | h1) | h1) | h1) | h1
 ·exact (gv h1).elim
 ·exact (tY hc _ _ _ o' o9 ha' h1 gK).elim
 ·exact (tY hc _ _ _ o ho ha h1 lI).elim
 ·rcases Fa with h | h
  ·rw [h] at h1;simp at h1
  ·rw [h] at h1;simp at h1
 ·exact h1.1
theorem pZ {i:Nat} {o:Oper} (h:ops[i]? = some o):Bt ops i=ia o.op:=by unfold Bt;rw [h]
theorem oW (de:∀ (j:Nat) (o:Oper) cs b,ops[j]? = some o->o.op ≠ .select cs b) (hP:wK ops W=true) {i:Nat} {o:Oper} (hi:ops[i]? = some o) (hE:ia o.op=false) :
  ∀ (T:gz) (rem:List Nat) (a:Act) (w:World),rem.Nodup->Cl ops rem->chkA ops T rem none=true->runS P ops W C Q T a w->i∈rem->rdy ops rem i=true ->
   ∃ v,Yl P ops C o v a/\(jr o.op=true->C w)/\Bu P ops W C Q (rem.erase i) (a.put o.dst v) w
 | .fin,rem,a,w,_,_,hc,_,gK,_=>by
  simp only [chkA,Bool.and_eq_true,List.isEmpty_iff] at hc;rw [hc.2] at gK;cases gK
 | .stop,rem,a,w,_,_,hc,_,_,_=>by simp [chkA] at hc
 | .ev j t alt,rem,a,w,hn,dS,hc,hr,gK,zD=>by
  exfalso
  have key:∀ (T:gz) (seen:List Nat),(∀ k∈seen,Bt ops k=true)->chkA ops T rem (some seen)=true->False:=by
   intro T
   induction T with
   | fin=>intro seen _ h;simp [chkA] at h
   | op=>intro seen _ h;simp [chkA] at h
   | ev k t alt _ ih=>
    intro seen hs h;simp only [chkA,Bool.and_eq_true,Option.getD_some] at h
    exact ih (k :: seen) (fun q hq=>by
     rcases List.mem_cons.1 hq with rfl | hq
     ·exact h.2.1
     ·exact hs q hq) h.2.2.2.2
   | stop=>
    intro seen hs h;simp only [chkA,List.all_eq_true,Bool.or_eq_true,Bool.not_eq_true'] at h;rcases h i gK with h1 | h1
    ·rw [zD] at h1;cases h1
    ·have:=hs i (by simpa using h1);rw [pZ hi,hE] at this;cases this
  simp only [chkA,Bool.and_eq_true,Option.getD_none] at hc;exact key alt [j] (fun k hk=>by rw [List.mem_singleton] at hk;rw [hk];exact hc.2.1) hc.2.2.2.2
 | .op j t,rem,a,w,hn,dS,hc,hr,gK,zD=>by
  simp only [chkA,Bool.and_eq_true,Bool.not_eq_true'] at hc;obtain ⟨_,lI,wY,D8,Co⟩:=hc;have lI:j∈rem:=by simpa using lI
  simp only [runS] at hr;obtain ⟨y,hy,v,BQ,Ij,EF⟩:=hr;by_cases gv:i=j
  ·subst gv;rw [hi] at hy;simp only [oI] at hy;subst hy;exact ⟨v,BQ,Ij,t,Co,EF⟩
  ·have vm:=r9 hP dS zD D8 gK lI gv (.inr wY);obtain ⟨zO,C1,_,_⟩:=cL vm hy hi;obtain ⟨u,hu,LF,T',Kr,Bv⟩:=oW de hP hi hE t (rem.erase j) (a.put y.dst v) w (hn.erase j) (nv hn dS D8) Co EF ((List.mem_erase_of_ne gv).2 gK) (iw zD);have BO:=fun cs b=>de i o cs b hi;have Ks:=fun cs b=>de j y cs b hy;obtain ⟨_,hdd,_⟩:=Oper.apart_spec zO;refine ⟨u,(Yl.same zO BO).1 hu,LF,.op j T',?_,?_⟩
   ·simp only [chkA,Bool.and_eq_true,Bool.not_eq_true'];refine ⟨rfl,?_,wY,iw D8,?_⟩
    ·simpa using (List.mem_erase_of_ne (Ne.symm gv)).2 lI
    ·rw [List.erase_comm];exact Kr
   ·simp only [runS];refine ⟨y,hy,v,(Yl.same C1 Ks).2 BQ,Ij,?_⟩;rw [<- Act.put_comm a v u hdd];exact Bv
theorem sa {e:Nat}:∀ (T:gz) (rem:List Nat) (seen:List Nat) (a:Act) (w:World),chkA ops T rem (some seen)=true->runS P ops W C Q T a w->e∈rem->rdy ops rem e=true->e ∉ seen ->
  ∃ o t,ops[e]? = some o/\chkA ops t (rem.erase e) none=true/\bR P ops o a w fun a' w'=>(W e=false->C w->C w')/\runS P ops W C Q t a' w'
 | .fin,rem,seen,a,w,hc,_,_,_,_=>by simp [chkA] at hc
 | .op _ _,rem,seen,a,w,hc,_,_,_,_=>by simp [chkA] at hc
 | .stop,rem,seen,a,w,hc,_,hm,hr,hs=>by
  simp only [chkA,List.all_eq_true,Bool.or_eq_true,Bool.not_eq_true'] at hc;rcases hc e hm with h | h
  ·rw [hr] at h;cases h
  ·exact (hs (by simpa using h)).elim
 | .ev i t alt,rem,seen,a,w,hc,hr,hm,zD,hs=>by
  simp only [chkA,Bool.and_eq_true,Option.getD_some] at hc;simp only [runS] at hr;obtain ⟨⟨o,ho,a7⟩,Kt⟩:=hr;by_cases B8:i=e
  ·subst B8;exact ⟨o,t,ho,hc.2.2.2.1,a7⟩
  ·exact sa alt rem (i :: seen) a w hc.2.2.2.2 Kt hm zD (fun h=>by
    rcases List.mem_cons.1 h with h | h
    ·exact B8 h.symm
    ·exact hs h)
theorem u3 (de:∀ (j:Nat) (o:Oper) cs b,ops[j]? = some o->o.op ≠ .select cs b) (hP:wK ops W=true) {i:Nat} {o:Oper} (hi:ops[i]? = some o) (hE:ia o.op=true) :
  ∀ (T:gz) (rem:List Nat) (a:Act) (w:World),rem.Nodup->Cl ops rem->chkA ops T rem none=true->runS P ops W C Q T a w->i∈rem->rdy ops rem i=true ->
   bR P ops o a w (fun a' w'=>(W i=false->C w->C w')/\Bu P ops W C Q (rem.erase i) a' w')
 | .fin,rem,a,w,_,_,hc,_,gK,_=>by
  simp only [chkA,Bool.and_eq_true,List.isEmpty_iff] at hc;rw [hc.2] at gK;cases gK
 | .stop,rem,a,w,_,_,hc,_,_,_=>by simp [chkA] at hc
 | .ev j t alt,rem,a,w,hn,dS,hc,hr,gK,zD=>by
  simp only [chkA,Bool.and_eq_true,Option.getD_none] at hc;simp only [runS] at hr;obtain ⟨⟨y,hy,a7⟩,Kt⟩:=hr;by_cases gv:i=j
  ·subst gv;rw [hi] at hy;simp only [oI] at hy;subst hy;exact b8 (fun a' w' h=>⟨h.1,t,hc.2.2.2.1,h.2⟩) a7
  ·obtain ⟨o',t',o9,Co,hs⟩:=sa alt rem [j] a w hc.2.2.2.2 Kt gK zD (by simpa using gv);rw [hi] at o9;simp only [oI] at o9;subst o9;exact b8 (fun a' w' h=>⟨h.1,t',Co,h.2⟩) hs
 | .op j t,rem,a,w,hn,dS,hc,hr,gK,zD=>by
  simp only [chkA,Bool.and_eq_true,Bool.not_eq_true'] at hc;obtain ⟨_,lI,wY,D8,Co⟩:=hc;have lI:j∈rem:=by simpa using lI
  simp only [runS] at hr;obtain ⟨y,hy,v,BQ,Ij,EF⟩:=hr
  have gv:i≠j:=by
   rintro rfl;rw [pZ hi,hE] at wY;cases wY
  have vm:=r9 hP dS zD D8 gK lI gv (.inr wY);obtain ⟨zO,C1,_,IK⟩:=cL vm hy hi;have BO:=fun cs b=>de i o cs b hi;have Ks:=fun cs b=>de j y cs b hy;have ih:=u3 de hP hi hE t (rem.erase j) (a.put y.dst v) w (hn.erase j) (nv hn dS D8) Co EF ((List.mem_erase_of_ne gv).2 gK) (iw zD);refine b8 ?_ (iO ((kh zO BO).1 ih));rintro a' w' ⟨⟨sL,T',Kr,Bv⟩,u,rfl⟩;refine ⟨sL,.op j T',?_,?_⟩
  ·simp only [chkA,Bool.and_eq_true,Bool.not_eq_true'];refine ⟨rfl,?_,wY,iw D8,?_⟩
   ·simpa using (List.mem_erase_of_ne (Ne.symm gv)).2 lI
   ·rw [List.erase_comm];exact Kr
  ·simp only [runS];refine ⟨y,hy,v,(Yl.same (u:=u) C1 Ks).2 BQ,fun hL=>?_,Bv⟩
   have IP:W i=false:=by
    cases hw:W i
    ·rfl
    ·exact (IK ⟨hL,hw⟩).elim
   exact sL IP (Ij hL)
theorem zE {Q':Exit->Act->World->Prop} (de:∀ (j:Nat) (o:Oper) cs b,ops[j]? = some o->o.op ≠ .select cs b) (hP:wK ops W=true) (hb:∀ (i:Nat) (o:Oper),ops[i]? = some o->∀ e∈o.after,Region.binds .any e=true->e.on < ops.size)
  (hQ:∀ a w,Q a w->Q' .normal a w):∀ (eY:Nat) (aq:Array Bool) (rem:List Nat) (a:Act) (w:World),
  aq.size=ops.size->(∀ i,i∈rem↔i < ops.size/\aq.getD i true=false)->rem.Nodup->Cl ops rem->rem.length<=eY->Bu P ops W C Q rem a w->wpAny P .any ops Q' eY aq a w:=by
 have Bw:∀ (aq:Array Bool) (rem:List Nat),aq.size=ops.size->(∀ i,i∈rem↔i < ops.size/\aq.getD i true=false)->∀ i,i∈Region.ready .any ops aq↔i∈rem/\rdy ops rem i=true:=by
  intro aq rem bQ eN i
  have hl:∀ k,k < ops.size->(aq.getD k false=true↔k ∉ rem):=fun k hk=>by
   have dW:k < aq.size:=by rw [bQ];exact hk
   rw [eN k];simp [hk,dW]
  rw [mem_ready];constructor
  ·rintro ⟨h1,o,ho,h2⟩;have hi:=(Array.getElem?_eq_some_iff.1 ho).1;refine ⟨(eN i).2 ⟨hi,h1⟩,?_⟩;unfold rdy;rw [ho];simp only [List.all_eq_true,Bool.or_eq_true,Bool.not_eq_true'];intro e he;cases sq:Region.binds .any e
   ·exact .inl rfl
   ·right;have zQ:e∈o.after:=by simpa using he
    simp only [List.contains_eq_mem,decide_eq_false_iff_not];exact (hl _ (hb i o ho e zQ sq)).1 (h2 e zQ sq)
  ·rintro ⟨h1,h2⟩;obtain ⟨o,ho,h3⟩:=fH h2;exact ⟨((eN i).1 h1).2,o,ho,fun e he sq=>(hl _ (hb i o ho e he sq)).2 (h3 e he sq)⟩
 intro eY
 induction eY with
 | zero=>
  intro aq rem a w bQ eN hn dS hlen hr;have:rem=[]:=List.length_eq_zero_iff.1 (by omega);subst this;obtain ⟨T,hT,Bv⟩:=hr;refine ⟨?_,hQ _ _ ?_⟩
  ·rw [List.eq_nil_iff_forall_not_mem];intro i hi;cases ((Bw aq [] bQ eN i).1 hi).1
  ·cases T with
   | fin=>exact Bv
   | op i t=>simp [chkA] at hT
   | ev i t alt=>simp [chkA] at hT
   | stop=>simp [chkA] at hT
 | succ eY ih=>
  intro aq rem a w bQ eN hn dS hlen hr;obtain ⟨T,hT,Bv⟩:=hr;refine ⟨fun h0=>?_,fun i hi=>?_⟩
  ·cases T with
   | fin=>exact hQ _ _ Bv
   | op i t=>
    exfalso;simp only [chkA,Bool.and_eq_true] at hT;have:=(Bw aq rem bQ eN i).2 ⟨by simpa using hT.2.1,hT.2.2.2.1⟩;rw [h0] at this;cases this
   | ev i t alt=>
    exfalso;simp only [chkA,Bool.and_eq_true] at hT;have:=(Bw aq rem bQ eN i).2 ⟨by simpa using hT.1,hT.2.2.1⟩;rw [h0] at this;cases this
   | stop=>simp [chkA] at hT
  ·obtain ⟨gK,Ik⟩:=(Bw aq rem bQ eN i).1 hi;obtain ⟨o,ho,_⟩:=fH Ik;have fm:=(Array.getElem?_eq_some_iff.1 ho).1
   have n7:∀ k,k∈rem.erase i↔k < ops.size/\(aq.setIfInBounds i true).getD k true=false:=by
    intro k;rw [List.Nodup.mem_erase_iff hn];by_cases gC:k=i
    ·subst gC;simp [bQ,fm]
    ·rw [getD_set_ne true (Ne.symm gC)];simp only [ne_eq,gC,not_false_eq_true,true_and];exact eN k
   have u4:∀ a' w',Bu P ops W C Q (rem.erase i) a' w' -> wpAny P .any ops Q' eY (aq.setIfInBounds i true) a' w':=fun a' w' h=>
    ih _ (rem.erase i) a' w' (by simp [bQ]) n7 (hn.erase i) (nv hn dS Ik) (by rw [List.length_erase_of_mem gK];have:=List.length_pos_of_mem gK;omega) h
   refine n5 ho ?_
   cases hE:ia o.op with
   | true=>exact b8 (fun a' w' h=>u4 a' w' h.2) (u3 de hP ho hE T rem a w hn dS hT Bv gK Ik)
   | false=>
    obtain ⟨v,hy,hc,h⟩:=oW de hP ho hE T rem a w hn dS hT Bv gK Ik;exact eT hy hc (u4 _ _ h)
end
def goA (X:Ctx) (D:Dr):gz->Bool->List (Nat × Sl)->St->Prop
 | .fin,_,_,st=>go X 4000 D.k st
 | .op i t,c,s0,st=>
  match D.ops.toList[i]? with
  | some o=>goD X ⟨D.ops,D.W,D.k,D.fq,some (goA X D t)⟩ 3000 c [(i,o)] s0 st
  | none=>False
 | .ev i t alt,c,s0,st=>
  (match D.ops.toList[i]? with
  | some o=>goD X ⟨D.ops,D.W,D.k,D.fq,some (goA X D t)⟩ 3000 c [(i,o)] s0 st
  | none=>False)/\goA X D alt c s0 st
 | .stop,_,_,_=>True
def Hr (ops:Array Oper):Bool:=Region.noSelect ops && (List.range ops.size).all fun i=>match ops[i]? with | some o=>o.after.toList.all fun e=>!Region.binds .any e || Nat.blt e.on ops.size | none=>true
section
variable {X:Ctx} {D:Dw}
theorem wL (hD:ll D.E0 D.d.fq.bx D.wr) (hf:D.d.fin=none):∀ (T:gz) (rem:List Nat) m,chkA D.d.ops T rem m=true->∀ c s0 st,goA X D.d T c s0 st->∀ E a w,cA X D c E s0 st a w->runS X.P D.d.ops D.d.W D.C (D.Q X) T a w:=by
 intro T
 have Hs:∀ (t:gz) (i:Nat) (o:Oper),D.d.ops[i]? = some o->(∀ c s0 st,goA X D.d t c s0 st->∀ E a w,cA X D c E s0 st a w->runS X.P D.d.ops D.d.W D.C (D.Q X) t a w)->∀ c s0 st,goD X ⟨D.d.ops,D.d.W,D.d.k,D.d.fq,some (goA X D.d t)⟩ 3000 c [(i,o)] s0 st->∀ E a w,cA X D c E s0 st a w ->
   runT X.P D.d.ops D.d.W D.C (fun a w=>runS X.P D.d.ops D.d.W D.C (D.Q X) t a w) [i] a w:=fun t i o ho ih c s0 st hg E a w h=>by
  have h1:=cO (D:=⟨⟨D.d.ops,D.d.W,D.d.k,D.d.fq,some (goA X D.d t)⟩,D.E0,D.wr⟩) hD 3000 c [(i,o)] s0 st hg (fun p hp=>by
   rw [List.mem_singleton] at hp;rw [hp]
   exact ho) E a w ⟨h.rel,h.x,h.β,h.t0,h.cc⟩
  refine ig ?_ h1;rintro a w ⟨c,E,s0,st,h2,h3⟩;exact ih c s0 st h3 E a w ⟨h2.rel,h2.x,h2.β,h2.t0,h2.cc⟩
 induction T with
 | fin=>
  intro rem m _ c s0 st hg E a w h;show D.Q X a w;unfold Dw.Q;rw [hf];exact go_sound 4000 _ _ hg E a w h.rel
 | stop=>intro rem m _ c s0 st hg E a w h;exact trivial
 | op i t ih=>
  intro rem m hc c s0 st hg E a w h;simp only [chkA,Bool.and_eq_true,Bool.not_eq_true'] at hc;simp only [goA] at hg;split at hg
  ·rename_i o ho;have ho:D.d.ops[i]? = some o:=by simpa using ho
   have h4:=Hs t i o ho (ih _ _ hc.2.2.2.2) c s0 st hg E a w h;have hE:ia o.op=false:=by rw [<- pZ ho];exact hc.2.2.1
   simp only [runT,ho,hE,Bool.false_eq_true,if_false] at h4;exact ⟨o,ho,h4⟩
  ·exact hg.elim
 | ev i t alt ih1 ih2=>
  intro rem m hc c s0 st hg E a w h;simp only [chkA,Bool.and_eq_true] at hc;obtain ⟨hg,Fp⟩:=hg;refine ⟨?_,ih2 _ _ hc.2.2.2.2 c s0 st Fp E a w h⟩;split at hg
  ·rename_i o ho;have ho:D.d.ops[i]? = some o:=by simpa using ho
   have h4:=Hs t i o ho (ih1 _ _ hc.2.2.2.1) c s0 st hg E a w h;have hE:ia o.op=true:=by rw [<- pZ ho];exact hc.2.1
   simp only [runT,ho,hE,if_true] at h4;exact ⟨o,ho,h4⟩
  ·exact hg.elim
theorem u5 {id:Nat} {ops:Array Oper} {k:List It} {st:St} (W:Nat->Bool) (T:gz) (hm:X.P.follows .mixedOrders=true) (hc:(Hr ops && wK ops W && chkA ops T (List.range ops.size) none)=true) (S:St)
  (h:goA X ⟨ops,W,[.sg fun s=>s=S∨e7 s S],st,none⟩ T true st.sl st) (hk:go X 4000 k S):nN X id ops k st:=by
 intro E a w hr;have fv:=fo hr;simp only [Bool.and_eq_true] at hc;obtain ⟨⟨hN,hP⟩,hT⟩:=hc;simp only [Hr,Bool.and_eq_true,List.all_eq_true,List.mem_range] at hN;have hs:=iR fv (ops:=ops) (W:=W) (k:=[.sg fun s=>s=S∨e7 s S]);have bc:=wL (D:=⟨⟨ops,W,[.sg fun s=>s=S∨e7 s S],st,none⟩,E,w.drew⟩) fv.env.em rfl T _ _ hT true st.sl st h E a w.drew hs;refine wp_region_any hm ?_;refine zE (C:=CC E st.bx w.drew) (Q:=kq X [.sg fun s=>s=S∨e7 s S] .normal) (Region.noSelect_spec hN.1) hP (fun i o ho e he hb=>?_) (fun a w hq=>?_) ops.size (Array.replicate ops.size false) (List.range ops.size) a _ (by simp) ?_ List.nodup_range ?_ (by simp) ⟨T,hT,bc⟩
 ·have h1:=hN.2 i (Array.getElem?_eq_some_iff.1 ho).1;rw [ho] at h1;have h2:=List.all_eq_true.1 h1 e (by simpa using he);rw [hb] at h2;simpa using h2
 ·obtain ⟨j3,E1,bg,hJ⟩:=hq;rcases hJ with rfl | hJ
  ·exact go_sound 4000 _ _ hk E1 a w bg
  ·exact go_sound 4000 _ _ hk E1 a w (qU bg hJ)
 ·intro i;simp only [List.mem_range];constructor
  ·intro hi;exact ⟨hi,by simp [hi]⟩
  ·intro hi;exact hi.1
 ·intro k o ho hk;exact (hk (List.mem_range.2 (Array.getElem?_eq_some_iff.1 ho).1)).elim
end
end Dv
end Go.Proofs.YtfifjddnnmfeoaaGreat
set_option maxRecDepth 100000
namespace Go.Proofs.YtfifjddnnmfeoaaGreat
open Go Go.RowKit Go.Lib Dv Tryz
abbrev gA (P Q LQ:List DV) (m:Nat) (y:Int):List DV:=[.pt P 0,.pt Q 0,.sl 1 [[.v (.int .i64 0)]] none,.pt LQ 0,.v (.map (some m)),.v (.int .i64 y),.v (.slice none 0 0)]
theorem D9 (P Q LQ:List DV) (m:Nat) (z:Int):Ev Tryz.prog 89 [.loc 0 0,.v (.int .i64 z),.v (.slice none 0 0)] [gA P Q LQ m 0] [] (fun r os _=>r = .v (.bool false)/\os=[gA P Q LQ m z]):=by
 refine ev_go (P:=Tryz.prog) tt tt_ok 5000 21 [.tmp 6] Tryz.func89 rfl Tryz.ntmps89 rfl (nL rfl) (fun E9 w9 hn9 hm9=>?_);refine call_p FR (zC) ax rfl ?_;exact ⟨_,_,ax,ax,rfl,rfl⟩
abbrev zF (a b:Int) (P Q LQ:List DV) (m:Nat):St:=⟨[(0,⟨[],.loc 0 0⟩),(72,⟨[],.v (.int .i64 0)⟩),(73,⟨[],.v (.int .i64 0)⟩)],[gA P Q LQ m 0,[.v (.int .i64 0),.v (.int .i64 0)],lu (r4 a),lu (r4 b)],[]⟩
theorem zG {X:Ctx} {c:Code} {st:St} {E:En} {a:Act} {w:World} {post:Ending->World->Prop} (n:Nat) (h:Rel X E st a w) (hg:go X n [.code c] st)
  (hp:∀ v w',oZ X.still X.E0 X.w0 X.Φ v w' X.fr->post (.returned v) w'):c.wp X.P (bodyPost X.P X.fn post) a w:=by
 refine wp_mono (go_sound n _ _ hg E a w h) ?_;intro e a w hk
 cases e with
 | normal=>obtain ⟨h1,v,h2,h3,_⟩:=hk;exact ⟨h1,v,h2,hp v w h3⟩
 | ret=>obtain ⟨h1,v,h2,h3,_⟩:=hk;exact ⟨h1,v,h2,hp v w h3⟩
 | exit _=>exact hk.elim
 | goto _=>exact hk.elim
 | panic _=>exact hk.elim
 | outgrown=>exact hk.elim
abbrev oX (vp vq vs vl:Value) (m:Nat) (y:Int):Array Value:=#[vp,vq,vs,vl,.map (some m),.int .i64 y,.slice none 0 0]
set_option maxHeartbeats 4000000 in
theorem zH {a b:Int} {P Q LP LQ:List DV} (hp:zV a P LP) (hq:zV b Q LQ) (c:Addr->Option Value) (w0 w:World) (o m:Nat) (vp vq vs vl:Value) (hE:Env ⟨c,[],[],[]⟩ [] w0) (bK:RvC ⟨c,[],[],[]⟩ (gA P Q LQ m 0) [vp,vq,vs,vl,.map (some m),.int .i64 0,.slice none 0 0])
  (fL:w0.heap.size<=w.heap.size) (hk:∀ k,k < w0.heap.size->w.heap[k]? = w0.heap[k]?) (ho:w0.heap.size<=o) (hm:w0.heap.size<=m) (hom:o≠m)
  (Ea:w.heap[o]? = some (.cells (oX vp vq vs vl m 0) 100 (0,0))) (ko:w.heap[m]? = some (.map #[] 0)) :
  Calls Tryz.prog 39 #[.pointer (some ⟨o,0,none⟩),Cy,.slice none 0 0] w fun e w'=>e = .returned (.bool (decide (a<=b)))/\(w'.os=w.os/\w'.tape=w.tape/\w'.output=w.output/\w.heap.size<=w'.heap.size) /\
   (∀ k,k < w0.heap.size->w'.heap[k]? = w0.heap[k]?)/\w'.cell? ⟨o,5,none⟩=some (.int .i64 (if a<=b then 0 else 3))/\w'.cell? ⟨o,6,none⟩=some (.slice none 0 0):=by
 have hlo:o < w.heap.size:=(Array.getElem?_eq_some_iff.1 Ea).1;have IM:m < w.heap.size:=(Array.getElem?_eq_some_iff.1 ko).1;have mixed:=mo;obtain ⟨w1,yl⟩:∃ w1,w1=w.alloc (.cells #[.int .i64 0,.int .i64 0] 103 (0,0)):=⟨_,rfl⟩;have Ku:w1.heap[o]? = some (.cells (oX vp vq vs vl m 0) 100 (0,0)):=by rw [yl,Below.heap_alloc _ _ _ hlo,Ea]
 have eO:w1.heap[m]? = some (.map #[] 0):=by rw [yl,Below.heap_alloc _ _ _ IM,ko]
 have sR:w1.heap[w.heap.size]? = some (.cells #[.int .i64 0,.int .i64 0] 103 (0,0)):=by rw [yl];exact Array.getElem?_push_size
 have c4:w1.drew.cell? ⟨o,4,none⟩=some (.map (some m)):=by rw [Lib.cell_of_heap (by exact Ku)];all_goals rfl
 have DN:=Km m w1.drew eO;have p0:w1.drew.cell? ⟨w.heap.size,0,none⟩=some (.int .i64 0):=by rw [Lib.cell_of_heap (by exact sR)];all_goals rfl
 have p1:w1.drew.cell? ⟨w.heap.size,1,none⟩=some (.int .i64 0):=by rw [Lib.cell_of_heap (by exact sR)];all_goals rfl
 go_enter Tryz.func39,Tryz.ntmps39
 go_wp2
 rw [<- yl];have HW:=Lib.hid yl;clear yl
 go_region_o
 clear c4 DN p0 p1;have L5:=Kn m w1.drew.drew eO;have d4:w1.drew.drew.cell? ⟨o,4,none⟩=some (.map (some m)):=by rw [Lib.cell_of_heap (by exact Ku)];all_goals rfl
 have e0:w1.drew.drew.cell? ⟨w.heap.size,0,none⟩=some (.int .i64 0):=by rw [Lib.cell_of_heap (by exact sR)];all_goals rfl
 have e1:w1.drew.drew.cell? ⟨w.heap.size,1,none⟩=some (.int .i64 0):=by rw [Lib.cell_of_heap (by exact sR)];all_goals rfl
 obtain ⟨w2,sj⟩:∃ w2,w2={ w1.drew.drew with heap:=w1.drew.drew.heap.setIfInBounds m (.map #[{ key:=Cy,val:=.int .i64 1,born:=0 }] 1) }:=⟨_,rfl⟩;rw [<- sj] at L5;have um:w2.heap.size=w1.heap.size:=by rw [sj];simp
 have ho2:w2.heap[o]? = some (.cells (oX vp vq vs vl m 0) 100 (0,0)):=by rw [sj];simp only [];rw [Array.getElem?_setIfInBounds_ne hom.symm];exact Ku
 have Av:w2.heap[w.heap.size]? = some (.cells #[.int .i64 0,.int .i64 0] 103 (0,0)):=by rw [sj];simp only [];rw [Array.getElem?_setIfInBounds_ne (by omega)];exact sR
 have Kv:=Lib.hid sj;clear sj
 go_wp2
 go_region_o
 clear d4 L5 e0 e1
 have Kw:Env ⟨c,[],[],[]⟩ [] w2:=by
  refine hE.ew fun k dW=>?_;rw [Kv.out];show (w1.heap.setIfInBounds m _)[k]? = _;rw [Array.getElem?_setIfInBounds_ne (by omega),HW.out,Below.heap_alloc _ _ _ (by omega),hk k dW]
 have hx:Ext ⟨c,[],[],[]⟩ ⟨c,[o,w.heap.size],[],[]⟩:=⟨fun _ _ h=>h,fun i b h=>by simp at h,fun k q h=>by simp at h⟩
 have GP:∀ x y,c x=some y->x.block < w0.heap.size:=by
  intro x y pu;exact block_lt_of_cell (hE.sub x y pu)
 have Il:Env ⟨c,[o,w.heap.size],[],[]⟩ [gA P Q LQ m 0,[.v (.int .i64 0),.v (.int .i64 0)]] w2:=
  {len:=rfl
   tl:=rfl
   cr:=by
    intro i cs hi
    match i with
    | 0=>
     obtain rfl:gA P Q LQ m 0=cs:=by simpa using hi
     exact ⟨o,_,_,rfl,ho2,bK.mono hx⟩
    | 1=>
     obtain rfl : [DV.v (.int .i64 0),.v (.int .i64 0)]=cs:=by simpa using hi
     refine ⟨w.heap.size,_,[.int .i64 0,.int .i64 0],rfl,Av,⟨?_,?_⟩⟩
     ·simp only [RvL,Rv];exact ⟨_,_,rfl,⟨rfl,rfl⟩,_,_,rfl,⟨rfl,rfl⟩,rfl⟩
     ·intro v hv;simp at hv;subst hv;rfl
    | i + 2=>simp at hi
   inj:=by simp;omega
   sub:=Kw.sub
   pc:=by
    intro x y pu;have:=GP x y pu;simp;omega
   bI:=by intro k q y h;simp at h
   eL:=by intro k k' y y' g _ h;simp at h }
 rename_i u4;refine u4 _ _ ?_
 refine zG (X:=⟨Tryz.prog,tt,tt_ok,_,90,[.tmp 6],rfl,w2,⟨c,[o,w.heap.size],[],[]⟩,2,0,rfl,rfl,false,fun r os _=>r = .v (.bool (decide (a<=b)))/\∃ z,os=[gA P Q LQ m (if a<=b then 0 else 3),z],[],[],false⟩) 5000 (st:=⟨[(0,⟨[],.loc 0 0⟩),(2,⟨[],.v (.slice none 0 0)⟩),(4,⟨[],.loc 1 0⟩)],[gA P Q LQ m 0,[.v (.int .i64 0),.v (.int .i64 0)]],[]⟩)
  {env:=Il
   tk:=rfl
   sz:=rfl
   tm:=by
    intro i x hx;simp only [bG] at hx;split at hx
    ·rename_i e;cases hx;subst e;exact ⟨fun _=>⟨_,rfl,o,rfl,rfl⟩,fun hn=>(hn (aA _)).elim⟩
    split at hx
    ·rename_i e;cases hx;subst e;exact ⟨fun _=>⟨_,rfl,rfl,rfl⟩,fun hn=>(hn (aA _)).elim⟩
    split at hx
    ·rename_i e;cases hx;subst e;exact ⟨fun _=>⟨_,rfl,w.heap.size,rfl,rfl⟩,fun hn=>(hn (aA _)).elim⟩
    ·cases hx
   df:=rfl
   nw:=Nw.refl Il
   fr:=⟨rfl,rfl,rfl,Nat.le_refl _,fun _ _ _=>rfl⟩
   sh:=fun h=>by cases h
   bt:=fun p hp=>by cases hp } ?_ ?_
 ·have h1:=hp.ag;have h2:=hq.ag;apply u5 (fun _=>false) (.op 0 (.op 1 (.op 2 (.op 3 (.op 4 (.op 5 (.ev 6 (.op 7 (.op 8 (.op 9 (.ev 10 (.ev 11 (.op 12 .fin) .stop) .stop)))) (.ev 10 (.ev 6 (.op 7 (.op 8 (.op 9 (.ev 11 (.op 12 .fin) .stop)))) .stop) .stop)))))))) mo (by decide +kernel);·repeat' (first | refine fY FI (h1) ax rfl ?_ | exact trivial | exact Or.inl rfl | exact Hq | refine ⟨?_,?_⟩)
  apply u5 (fun _=>false) (.op 0 (.op 1 (.op 2 (.op 3 (.op 4 (.op 5 (.ev 6 (.op 7 (.op 8 (.op 9 (.ev 10 (.ev 11 (.op 12 .fin) .stop) .stop)))) (.ev 10 (.ev 6 (.op 7 (.op 8 (.op 9 (.ev 11 (.op 12 .fin) .stop)))) .stop) .stop)))))))) mo (by decide +kernel);·repeat' (first | refine fY FI (h2) ax rfl ?_ | exact trivial | exact Or.inl rfl | exact Hq | refine ⟨?_,?_⟩)
  refine call_p Jh (r8 a b) ax rfl ?_;refine br (fun q=>?_) (fun q=>?_)
  ·have q:¬ a<=b:=by simpa using q
   refine e8 Jg rfl rfl ax ax (D9 P Q LQ m 3) (by
    rintro r os tk ⟨rfl,rfl⟩
    exact ⟨rfl,fun ji h=>by
     simp only [List.mem_singleton] at h;subst h
     rfl⟩) (fun r ji hr=>?_)
   obtain ⟨rfl,hr⟩:=hr;obtain rfl:ji=gA P Q LQ m 3:=by simpa using hr
   exact ⟨.v (.bool false),[gA P Q LQ m 3,[.v (.int .i64 0),.v (.int .i64 0)]],ax,ax,by simp [q],_,by rw [if_neg q]⟩
  ·have q:a<=b:=by simpa using q
   refine call_p Ji (pY a b) ax rfl ?_;refine aF (fun j st=>st=zF a b P Q LQ m/\j=0) 0 (zF a b P Q LQ m) (aj ⟨_,rfl⟩ wA rfl rfl rfl BN) ⟨rfl,rfl⟩ ?_;rintro _ st ⟨rfl,rfl⟩;exact ⟨.v (.bool true),[gA P Q LQ m 0,[.v (.int .i64 0),.v (.int .i64 0)]],ax,ax,by simp [q],_,by rw [if_pos q]⟩
 ·rintro v w' ⟨Ht,_,d,os,E',Jr,hβ,_,_,hr,rfl,z,rfl⟩;obtain ⟨bo,ty,arr,jz,iB,xG⟩:=Jr.cr 0 _ rfl;rw [hβ] at jz;obtain rfl:o=bo:=by simpa using jz
  have hr:=aO hr;subst hr;have bQ:w.heap.size<=w2.heap.size:=by rw [um,HW.out];simp
  have lh:w2.os=w.os/\w2.tape=w.tape/\w2.output=w.output:=by rw [Kv.out,HW.out];exact ⟨rfl,rfl,rfl⟩
  have wS:∀ j v,arr[j]? = some v->w'.cell? ⟨o,j,none⟩=some v:=by
   intro j v hv;rw [Lib.cell_of_heap iB];simpa using hv
  refine ⟨rfl,⟨Ht.os.trans lh.1,Ht.tape.trans lh.2.1,Ht.output.trans lh.2.2,Nat.le_trans bQ Ht.size⟩,?_,?_,?_⟩
  ·intro k dW
   rw [Ht.block k (show k < w2.heap.size by omega) (by
    rintro (h | ⟨y,h,_⟩)
    ·simp at h;omega
    ·cases h),Kv.out]
   show (w1.heap.setIfInBounds m _)[k]? = _;rw [Array.getElem?_setIfInBounds_ne (by omega),HW.out,Below.heap_alloc _ _ _ (by omega),hk k dW]
  ·obtain ⟨x,h1,h2⟩:=xG.1.get (i:=5) rfl;rw [aO h2] at h1;exact wS 5 _ h1
  ·obtain ⟨x,h1,h2⟩:=xG.1.get (i:=6) rfl;rw [aO h2] at h1;exact wS 6 _ h1
theorem qq {d:DV} {v:Value} {c c':Addr->Option Value} (h:Rv ⟨c,[],[],[]⟩ d v) (hc:∀ x y,c x=some y->c' x=some y):Rv ⟨c',[],[],[]⟩ d v:=
 Rv.mono ⟨hc,fun i b h=>by simp at h,fun k q h=>by simp at h⟩ h
theorem zI {E:En} {d:DV} {v:Value} (h:Rv E d v):RvL E [d] [v]:=by
 simp only [RvL];exact ⟨_,_,rfl,h,rfl⟩
theorem Hu {E:En} {d d':DV} {v v':Value} (h:Rv E d v) (h':Rv E d' v'):RvL E [d,d'] [v,v']:=by
 simp only [RvL];exact ⟨_,_,rfl,h,_,_,rfl,h',rfl⟩
theorem Kx {E:En} {d d' d2:DV} {v v' v2:Value} (h:Rv E d v) (h':Rv E d' v') (h2:Rv E d2 v2):RvL E [d,d',d2] [v,v',v2]:=by
 simp only [RvL];exact ⟨_,_,rfl,h,_,_,rfl,h',_,_,rfl,h2,rfl⟩
theorem sb {B:Nat} {w w':World} (hs:w'.os=w.os/\w'.tape=w.tape/\w'.output=w.output/\w.heap.size<=w'.heap.size) (hk:∀ k,k < w.heap.size->w'.heap[k]? = w.heap[k]?) (hB:B<=w.heap.size):Below B w w':=
 ⟨hs.1,hs.2.1,hs.2.2.1,hs.2.2.2,fun k h=>hk k (by omega)⟩
set_option maxHeartbeats 4000000 in
theorem sc {a b why:Int} {P Q LP LQ:List DV} (hp:zV a P LP) (hq:zV b Q LQ) (Eb:(if a<=b then 0 else 3)=why):bD Tryz.prog 8 [.pt P 0,.pt Q 0] (.cP [.v (.int .i64 why),.v (.slice none 0 0)]):=by
 refine vM fun E w vs hE hv=>?_;simp only [RvL] at hv;obtain ⟨vp,s1,rfl,EG,vq,s2,rfl,EH,rfl⟩:=hv;have I3:=xL hE;obtain ⟨c,β,tk,τ⟩:=E;change Env ⟨c,[],[],[]⟩ [] w at I3;have EG:Rv ⟨c,[],[],[]⟩ (.pt P 0) vp:=by unfold Rv at EG ⊢;exact EG
 have EH:Rv ⟨c,[],[],[]⟩ (.pt Q 0) vq:=by unfold Rv at EH ⊢;exact EH
 have ep:=EG;unfold Rv at ep;obtain ⟨bp,pp,rfl,_⟩:=ep;have eq:=EH;unfold Rv at eq;obtain ⟨bq,pq,rfl,_⟩:=eq;have mixed:=mo
 go_enter Tryz.func8,Tryz.ntmps8
 go_wp2_with (go_at_call 10;refine (gp (wJ hp hq) I3 (Hu EG EH)).mono ?_)
 rintro e w1 ⟨v1,c1,rfl,j9,C7,FB,CD,ki⟩;have Hv:=qq EG C7;have Ky:=qq EH C7
 go_wp2_with (go_at_call 38;refine (gp hp.lat FB (zI Hv)).mono ?_)
 rintro e w2 ⟨v2,c2,rfl,wM,jg,Kw,um,vn⟩;have Hw:=qq Ky jg
 go_wp2_with (go_at_call 38;refine (gp hq.lat Kw (zI Hw)).mono ?_)
 rintro e w3 ⟨v3,c3,rfl,EU,qa,Il,hs3,hk3⟩
 go_wp2_with (go_at_call 37;refine (gp (tX hp hq) Il (Kx (qq wM qa) EU (qq (qq j9 jg) qa))).mono ?_)
 rintro e w4 ⟨v4,c4,rfl,hv4,Kz,hE4,hs4,hk4⟩;obtain rfl:=aO hv4;have Hx:=qq (qq Hw qa) Kz;have KA:=qq (qq (qq Hv jg) qa) Kz;have KB:=qq (qq (qq j9 jg) qa) Kz
 go_wp2_with (go_at_call 38;refine (gp hq.lat hE4 (zI Hx)).mono ?_)
 rintro e w5 ⟨v5,c5,rfl,Im,KC,L6,hs5,LR⟩;have Bz:=qq KB KC;have BA:=qq KA KC;have BB:=qq Hx KC;have e1:=Bz;unfold Rv at e1;obtain ⟨b1,n1,zJ,rfl,⟨qC,_⟩,-⟩:=e1;obtain rfl:n1=1:=qC;have e5:=Im;unfold Rv at e5;obtain ⟨b5,p5,rfl,_⟩:=e5;have IE:(Instr.makeMap 98 none).run Tryz.prog w5 = .ok (.map (some w5.heap.size)) (w5.alloc (.map #[] 0)):=by simp [Instr.makeMap]
 obtain ⟨w6,KD⟩:∃ w6,w6=w5.alloc (.map #[] 0):=⟨_,rfl⟩;rw [<- KD] at IE;have Io:=Lib.hid KD;clear KD;have hz6:w6.heap.size=w5.heap.size + 1:=by rw [Io.out];simp
 obtain ⟨w7,EI⟩:∃ w7,w7=w6.alloc (.cells (oX (.pointer (some ⟨bp,pp,none⟩)) (.pointer (some ⟨bq,pq,none⟩)) (.slice b1 1 zJ) (.pointer (some ⟨b5,p5,none⟩)) w5.heap.size 0) 100):=⟨_,rfl⟩;have Ea:w7.heap[w5.heap.size + 1]? = some (.cells (oX (.pointer (some ⟨bp,pp,none⟩)) (.pointer (some ⟨bq,pq,none⟩)) (.slice b1 1 zJ) (.pointer (some ⟨b5,p5,none⟩)) w5.heap.size 0) 100 (0,0)):=by rw [EI,<- hz6];exact Array.getElem?_push_size
 have ko:w7.heap[w5.heap.size]? = some (.map #[] 0):=by rw [EI,Below.heap_alloc _ _ _ (by omega),Io.out];exact Array.getElem?_push_size
 have EJ:∀ k,k < w5.heap.size->w7.heap[k]? = w5.heap[k]?:=fun k hk=>by rw [EI,Below.heap_alloc _ _ _ (by omega),Io.out,Below.heap_alloc _ _ _ hk]
 have Ec:w7.os=w5.os/\w7.tape=w5.tape/\w7.output=w5.output/\w7.heap.size=w5.heap.size + 2:=by rw [EI,Io.out];refine ⟨rfl,rfl,rfl,?_⟩;simp
 have hE7:=L6.ew EJ;have HW7:=Lib.hid EI;clear EI;have BA:Rv ⟨c5,[],[],[]⟩ (.pt P 0) (.pointer (some ⟨bp,pp,none⟩)):=BA;have BB:Rv ⟨c5,[],[],[]⟩ (.pt Q 0) (.pointer (some ⟨bq,pq,none⟩)):=BB;have Bz:Rv ⟨c5,[],[],[]⟩ (.sl 1 [[.v (.int .i64 0)]] none) (.slice b1 1 zJ):=Bz;have Im:Rv ⟨c5,[],[],[]⟩ (.pt LQ 0) (.pointer (some ⟨b5,p5,none⟩)):=Im;have L7:=Lib.hid Ec;have L8:=Lib.hid EJ;have Hbo:=Lib.hid Ea;have Hbm:=Lib.hid ko;clear Ec EJ Ea ko
 go_wp2_with (go_at_call 19;rw [<- HW7.out];refine (gp hp.root hE7 (zI BA)).mono ?_)
 rintro e w8 ⟨v8,c8,rfl,hv8,hc8,hE8,KE,KF⟩;obtain rfl:=aO hv8
 go_wp2_with (go_at_call 19;refine (gp hq.root hE8 (zI (qq BB hc8))).mono ?_)
 rintro e w9 ⟨v9,c9,rfl,hv9,hc9,hE9,KG,Cs⟩;obtain rfl:=aO hv9;have Ec:=L7.out;have EJ:=L8.out;have Ea:=Hbo.out;have ko:=Hbm.out;have KH:w9.heap[w5.heap.size + 1]? = some (.cells (oX (.pointer (some ⟨bp,pp,none⟩)) (.pointer (some ⟨bq,pq,none⟩)) (.slice b1 1 zJ) (.pointer (some ⟨b5,p5,none⟩)) w5.heap.size 0) 100 (0,0)):=by rw [Cs _ (by omega),KF _ (by omega),Ea]
 have KI:w9.heap[w5.heap.size]? = some (.map #[] 0):=by rw [Cs _ (by omega),KF _ (by omega),ko]
 have bK:RvC ⟨c5,[],[],[]⟩ (gA P Q LQ w5.heap.size 0) [.pointer (some ⟨bp,pp,none⟩),.pointer (some ⟨bq,pq,none⟩),.slice b1 1 zJ,.pointer (some ⟨b5,p5,none⟩),.map (some w5.heap.size),.int .i64 0,.slice none 0 0]:=by
  refine ⟨?_,?_⟩
  ·simp only [RvL];exact ⟨_,_,rfl,BA,_,_,rfl,BB,_,_,rfl,Bz,_,_,rfl,Im,_,_,rfl,⟨rfl,rfl⟩,_,_,rfl,⟨rfl,rfl⟩,_,_,rfl,⟨rfl,rfl⟩,rfl⟩
  ·intro v hv;simp at hv;rcases hv with rfl | rfl | rfl | rfl | rfl | rfl | rfl<;>rfl
 have p8:=zH hp hq c5 w5 w9 (w5.heap.size + 1) w5.heap.size _ _ _ _ L6 bK (by omega) (fun k hk=>by rw [Cs _ (by omega),KF _ (by omega),EJ k hk]) (by omega) (Nat.le_refl _) (by omega) KH KI;rw [Eb] at p8;generalize decide (a<=b)=yes at p8;have Hwhy:=Lib.hid Eb;clear Eb
 go_wp2_with (go_at_call 39;refine p8.mono ?_)
 rintro e zW ⟨rfl,Ee,KJ,L9,Ma⟩;have r5:zW.drew.cell? ⟨w5.heap.size + 1,5,none⟩=some (.int .i64 why):=L9;have r6:zW.drew.cell? ⟨w5.heap.size + 1,6,none⟩=some (.slice none 0 0):=Ma;clear L9 Ma p8
 go_wp2
 go_region_o
 go_wp2
 have Ec:=L7.out;have EJ:=L8.out;have b4:Below w.heap.size w w4:=(((sb CD ki (Nat.le_refl _)).trans (sb um vn (by omega))).trans (sb hs3 hk3 (by omega))).trans (sb hs4 hk4 (by omega));have b5:Below w.heap.size w w5:=b4.trans (sb hs5 LR (by omega))
 have b6:Below w.heap.size w5 zW.drew:=⟨by rw [show zW.drew.os=zW.os from rfl,Ee.1,KG.1,KE.1,Ec.1],by rw [show zW.drew.tape=zW.tape from rfl,Ee.2.1,KG.2.1,KE.2.1,Ec.2.1],by rw [show zW.drew.output=zW.output from rfl,Ee.2.2.1,KG.2.2.1,KE.2.2.1,Ec.2.2.1],by
  show w5.heap.size<=zW.heap.size
  omega,fun k hk=>KJ k (by omega)⟩
 go_ret2
 refine ⟨_,rfl,?_,b5.trans b6⟩;unfold Rv;exact ⟨_,rfl,Hu ⟨rfl,rfl⟩ ⟨rfl,rfl⟩⟩
end Go.Proofs.YtfifjddnnmfeoaaGreat
set_option maxRecDepth 100000
namespace Go.Proofs.YtfifjddnnmfeoaaGreat
open Go Go.RowKit Dv Tryz
theorem j1:bD Tryz.prog 12 [] (.v (.bool true)):=by
 have o1:=kI 9 (.inl rfl);have o2:=kI 99 (.inr rfl);refine ev_go (P:=Tryz.prog) tt tt_ok 5000 28 [.tmp 0] Tryz.func12 rfl Tryz.ntmps12 rfl (nL rfl) (fun E9 w9 hn9 hm9=>?_);refine cj zS rfl o1 ax (fun r hr=>?_);obtain ⟨P1,L1,rfl,h1⟩:=hr;refine cj zS rfl o2 ax (fun r hr=>?_);obtain ⟨P2,L2,rfl,h2⟩:=hr;refine call_p HO (sc (why:=0) h1 h2 rfl) ax rfl ?_;refine cj zS rfl o2 ax (fun r hr=>?_);obtain ⟨P3,L3,rfl,h3⟩:=hr;refine cj zS rfl o1 ax (fun r hr=>?_);obtain ⟨P4,L4,rfl,h4⟩:=hr;refine call_p HO (sc (why:=3) h3 h4 rfl) ax rfl ?_;refine call_p Dh (ld 3) ax rfl ?_;exact (rfl:_=_)
theorem evolveNone_law (z:Int):bD Tryz.prog 3 [.v (.int .i64 z)] (.v (.bool true)):=by
 have o1:=kI 9 (.inl rfl);have hn:=ld z;refine ev_go (P:=Tryz.prog) tt tt_ok 5000 65 [.tmp 2] Tryz.func3 rfl Tryz.ntmps3 rfl (nL rfl) (fun E9 w9 hn9 hm9=>?_);refine cj zS rfl o1 ax (fun r hr=>?_);obtain ⟨P1,L1,rfl,h1⟩:=hr;refine call_p HO (wH _ ⟨P1,rfl⟩) ax rfl ?_;refine cj zS rfl o1 ax (fun r hr=>?_);obtain ⟨P2,L2,rfl,h2⟩:=hr;refine call_p HO (wI _ ⟨P2,rfl⟩) ax rfl ?_;refine br (fun c=>?_) (fun c=>?_)
 ·have c:0<=z/\z < 7:=by simpa [aD] using c
  have hg:la z=la z:=rfl;have hz:=nu c.1 (show z<=6 by omega);refine ⟨_,⟨c.1,hz⟩,?_⟩;refine cj zS rfl o1 ax (fun r hr=>?_);obtain ⟨P3,L3,rfl,h3⟩:=hr;refine call_p vu (je _ ⟨P3,rfl⟩) ax rfl ?_;refine cj zS rfl o1 ax (fun r hr=>?_);obtain ⟨P4,L4,rfl,h4⟩:=hr;refine call_p vu (jf _ ⟨P4,rfl⟩) ax rfl ?_;refine call_p Dh (hn) ax rfl ?_;refine br (fun _=>?_) (fun c2=>?_)
  ·refine call_p FE (j1) ax rfl ?_;exact (rfl:_=_)
  ·exact absurd c2 (by simp [pickB])
 ·have c:¬ (0<=z/\z<=6):=by simp [aD] at c;omega
  rw [show la z=aE by rw [la,if_neg c]] at hn;refine cj zS rfl o1 ax (fun r hr=>?_);obtain ⟨P3,L3,rfl,h3⟩:=hr;refine call_p vu (je _ ⟨P3,rfl⟩) ax rfl ?_;refine cj zS rfl o1 ax (fun r hr=>?_);obtain ⟨P4,L4,rfl,h4⟩:=hr;refine call_p vu (jf _ ⟨P4,rfl⟩) ax rfl ?_;refine call_p Dh (hn) ax rfl ?_;refine call_p FE (j1) ax rfl ?_;exact (rfl:_=_)
end Go.Proofs.YtfifjddnnmfeoaaGreat
