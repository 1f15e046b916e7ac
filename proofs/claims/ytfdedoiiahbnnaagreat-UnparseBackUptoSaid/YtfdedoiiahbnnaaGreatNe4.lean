/- Part 4 of the proof: The checker's one and check, once check is known for lighter types; so check; kinds.Count, resolve.nodes; the builder's level; The builder's end, loops, known; The builder's each, right, called; The builder's each of right; called; places; The builder's places; The builder's edge; The builder's node; Steps of a region that draws its order, one by one; What resolve.Build says of a schema; lattices in which nothing is wrong; resolve.Build; Reading a plan: Len, Root, Lattice, Node, Find; slices.Clone; of no plan as well; The reference of chapter 17: Great, Same; The program's comparing of schemas; The law's example: a type that leads to itself; The law of no plan: the call returns true; The document's relations: Leads; The document's lattices: Find, pairs, Leq, Loop; The document's lattices: what is wrong; The document's labels: over, Least, Of; The document's schemas: Find, word, all, Flat, End, Start; The document's schemas: Flat, End, Start; The document's schemas: named, unknown; The reference's Wrong returns what is wrong with a type; The document's schemas: what is wrong; The document's nodes: Same, of equal ones; the law's node; The document's nodes: node; The document's plan: Build; What is known of a type with which nothing is wrong; labels have levels; What is known of the nodes of a plan; A plan, as its readers know it; Values, plain; how many are in one, how deep they lie; Values that are the same; Which values fit which nodes: plain, as the program finds it and as the document says it; tree's leaf, kids, Fits; tree.Fits; the document's To, Fits; Values as they are written: plain; tree.write, Raw; Paths: data, Step compared with itself; ref09.Begins, Same on the same path; ref25.Step; A lattice, as its readers know it; Leq; joins are the document's; Where steps lead in a plan, and how places are seen, plain; What is seen of values, and where that differs, plain; A text's first units: the document's Head, the program's heads, floors; Escapes: plain; numbers in sixteens; UTF-8: the program's Scalar, Encode; Texts in quotes: numbers in sixteens, which runes may steer a terminal; Texts in quotes: short escapes, kinds of runes; Escapes: the program's scalar, One, plain; Escapes: the program's One, plain; Rules for the evaluator: String of a Builder that holds nothing; String of a Builder of one's own, where other objects are kept; Cursors: plain; Texts in quotes that are read: plain; the program's Unquote; Whole numbers in texts, plain; Whole numbers in texts: the program's run, value, Take; Whole numbers in texts: the program's Take of a number that there is; Whole numbers in texts: the program's Take, whatever stands there; Tokens: Blank, Mark, the token of a name, of a mark, of a number; Tokens: the token of a name, of a mark, of a number; all of a text's; Tokens, whatever stands there: plain; the program's token; Tokens, whatever stands there: the program's token, remark; Remarks; all tokens of a text: plain; the program's remark; All tokens of a text, or what is wrong: plain; the program's Scan; Cursors: the program's Peek, step, is, Mark, Word, Take, Need, Fail, Enter, Leave, Fault; Cursors: the program's is, Mark, Word, Take, FailAt, Fail, Need, Enter, Leave, Next; The reader of schemas: wrong, fine, keyword, name; The reader of schemas: a list, for any reader of its elements that has its own contract; Rules for the evaluator: calls that hand back fresh rows; Rules for the evaluator: a call that writes the caller's objects, in a region that draws its order; The reader of schemas: a level's name onto the schema's levels; The reader of schemas: a type where something is wrong; the type bool; The reader of schemas: a schema of levels and a root. No condition. -/
import Derived.Test.YtfdedoiiahbnnaaGreatNe2
import Derived.Test.YtfdedoiiahbnnaaGreatNe3
set_option linter.all false
set_option maxRecDepth 100000
namespace Go.Proofs.YtfdedoiiahbnnaaGreat
open Go Go.RowKit Dv Go.Proofs.Tryz
theorem vG (k:Nat) (ih:Iz k) (h:Hd) (ps:Pts) (depth m:Int) (hk:ps.wt<=k) (cL:(Ty.mk h ps).wt<=1099511627776) (BV:0<=depth) (FU:depth<=24) (oW:0<=m) (vC:m<=512) :
  Ev prog 240 [.loc 0 0,.agg (di (.mk h ps)),.v (.int .i64 depth)] [[.v (.int .i64 m)]] [] (Cr (wrongOne h ps depth m)):=by
 simp only [Ty.wt,Hd.wt] at cL
 cases ps with
 | nil=>
  have hS:wrongOne h .nil depth m=((19,h.dR),m):=by simp only [wrongOne]
  generalize wrongOne h .nil depth m=F at hS ⊢;refine eG 44 [.cell 6 26] func240 rfl ntmps240 rfl fun _ _ _ _=>?_;refine cP dG (bH 19 h.dR) ?_;exact ⟨_,_,ax,ax,bG (tk:=[]) (f:=(19,h.dR)) hS (fun _=>rfl)⟩
 | cons p t r=>
  cases r with
  | cons p2 t2 r2=>
   have hS:wrongOne h (.cons p t (.cons p2 t2 r2)) depth m=((19,h.dR),m):=by simp only [wrongOne]
   generalize wrongOne h (.cons p t (.cons p2 t2 r2)) depth m=F at hS ⊢;refine eG 44 [.cell 6 26] func240 rfl ntmps240 rfl fun _ _ _ _=>?_;refine cP dG (bH 19 h.dR) ?_;exact ⟨_,_,ax,ax,bG (tk:=[]) (f:=(19,h.dR)) hS (fun _=>rfl)⟩
  | nil=>
   simp only [Pts.wt] at cL hk;have hS:wrongOne h (.cons p t .nil) depth m=if p.name.s≠aY∨cu p cj=false then ((19,h.dR),m) else if h.most < 0∨1024 < h.most then ((20,h.dR),m) else wrong t (depth + 1) m:=by simp only [wrongOne]
   generalize wrongOne h (.cons p t .nil) depth m=F at hS ⊢;have N9:=za p t (by omega);rw [empty_eq] at N9;have BH:=ih t (depth + 1) m (by omega) (by omega) (by omega) (by omega) oW vC;obtain ⟨u,us⟩:=t;refine eG 44 [.cell 6 26] func240 rfl ntmps240 rfl fun _ _ _ _=>?_;refine ⟨_,⟨by omega,rfl⟩,?_⟩;refine cP Ra N9 ?_;refine br ?_ ?_<;>intro q
   ·have q:p.name.s≠aY∨cu p cj=false:=by
     have:=q;simp [pickB] at this;exact this
    rw [aj q] at hS;refine cP dG (bH 19 h.dR) ?_;exact ⟨_,_,ax,ax,bG (tk:=[]) (f:=(19,h.dR)) hS (fun _=>rfl)⟩
   have q:¬ (p.name.s≠aY∨cu p cj=false):=by grind [pickB]
   rw [af q] at hS;refine br ?_ ?_<;>intro x
   ·have x:h.most < 0∨1024 < h.most:=by simpa [aG] using x
    rw [aj x] at hS;refine cP dG (bH 20 h.dR) ?_;exact ⟨_,_,ax,ax,bG (tk:=[]) (f:=(20,h.dR)) hS (fun _=>rfl)⟩
   have x:¬ (h.most < 0∨1024 < h.most):=by simp [aG] at x;omega
   rw [af x] at hS;refine ⟨_,⟨by omega,rfl⟩,?_⟩;refine lu HB rfl rfl ax (by repeat' (first | exact rfl | exact trivial | exact Or.inr (Or.inl ⟨_,rfl⟩) | exact Or.inr ⟨_,rfl⟩ | exact Or.inl ⟨rfl,rfl⟩ | exact Or.inl rfl | refine Or.inr ⟨_,_,rfl,Nat.zero_le _,rfl,?_⟩ | refine ⟨_,_,rfl,?_,?_⟩ | refine ⟨_,rfl,?_⟩ | exact congrArg (fun z=>DV.v (.int .i64 z)) (wrap64 (by omega) (by omega)) | refine Or.inr (Or.inr (Or.inr ⟨_,_,rfl,?_⟩)) | exact Or.inl rfl | refine Or.inr ?_)) BH kB (fun r ql hr=>?_);obtain ⟨rfl,z,hz,yx⟩:=hr;simp only [List.cons.injEq,and_true] at hz;subst hz;exact ⟨_,_,ax,ax,bG (tk:=[]) (f:=(wrong (.mk u us) (depth + 1) m).1) hS yx⟩
theorem zK (k:Nat) (ih:Iz k) (h:Hd) (ps:Pts) (depth m:Int) (hk:ps.wt<=k) (cL:(Ty.mk h ps).wt<=1099511627776) (BV:0<=depth) (FU:depth<=25) (oW:0<=m) (vC:m<=512) :
  Ev prog 156 [.loc 0 0,.agg (di (.mk h ps)),.v (.int .i64 depth)] [[.v (.int .i64 m)]] [] (Cr (wrong (.mk h ps) depth m)):=by
 have MV:=cL;simp only [Ty.wt,Hd.wt] at MV;have ye:IntKind.i64.wrap (m + 1)=m + 1:=wrap64 (by omega) (by omega);have hS:=wrong.eq_def (.mk h ps) depth m;simp only at hS;generalize wrong (.mk h ps) depth m=F at hS ⊢;have dE:=Fw h ps;rw [rc] at dE;refine eG 103 [.cell 6 26] func156 rfl ntmps156 rfl fun _ _ _ _=>?_;refine br ?_ ?_<;>intro c
 ·have c:24 < depth:=of_decide_eq_true c;rw [aj c] at hS;refine cP dG (bH 6 h.dR) ?_;exact ⟨_,[[.v (.int .i64 (m + 1))]],ax,(rZ ye),bG (tk:=[]) (f:=(6,h.dR)) hS (fun _=>rfl)⟩
 have c:¬ 24 < depth:=of_decide_eq_false c;rw [af c] at hS;refine br ?_ ?_<;>intro c
 ·have c:512 < IntKind.i64.wrap (m + 1):=of_decide_eq_true c;rw [ye] at c;rw [aj c] at hS;refine cP dG (bH 8 h.dR) ?_;exact ⟨_,[[.v (.int .i64 (m + 1))]],ax,(rZ ye),bG (tk:=[]) (f:=(8,h.dR)) hS (fun _=>rfl)⟩
 have c:¬ 512 < IntKind.i64.wrap (m + 1):=of_decide_eq_false c;rw [ye] at c;rw [af c] at hS;refine br ?_ ?_<;>intro c
 ·have c:h.au < 1∨9 < h.au:=by simpa [aG] using c
  rw [aj c] at hS;refine cP dG (bH 14 h.dR) ?_;exact ⟨_,[[.v (.int .i64 (m + 1))]],ax,(rZ ye),bG (tk:=[]) (f:=(14,h.dR)) hS (fun _=>rfl)⟩
 have ck:¬ (h.au < 1∨9 < h.au):=by simp [aG] at c;omega
 rw [af ck] at hS;refine cP Q7 dE ?_;refine br ?_ ?_<;>intro c
 ·have c:nk (.mk h ps)=false:=by simpa [nk] using c
  rw [aj c] at hS;refine cP dG (bH 19 h.dR) ?_;exact ⟨_,[[.v (.int .i64 (m + 1))]],ax,(rZ ye),bG (tk:=[]) (f:=(19,h.dR)) hS (fun _=>rfl)⟩
 have c:¬ nk (.mk h ps)=false:=by simpa [nk] using c
 rw [af c] at hS;refine br ?_ ?_<;>intro k2
 ·have k2:h.au=2:=of_decide_eq_true k2;refine br ?_ ?_<;>intro x
  ·have x:h.hi < h.lo:=of_decide_eq_true x;rw [aj (.inl ⟨k2,x⟩)] at hS;refine cP dG (bH 20 h.dR) ?_;exact ⟨_,[[.v (.int .i64 (m + 1))]],ax,(rZ ye),bG (tk:=[]) (f:=(20,h.dR)) hS (fun _=>rfl)⟩
  have x:¬ h.hi < h.lo:=of_decide_eq_false x;rw [af (by omega),af (by omega),af (by omega),af (by omega),af (by omega)] at hS;exact ⟨_,[[.v (.int .i64 (m + 1))]],ax,(rZ ye),bG (tk:=[]) (f:=(0,0)) hS (fun _=>rfl)⟩
 have k2:¬ h.au=2:=of_decide_eq_false k2;refine br ?_ ?_<;>intro k3
 ·have k3:h.au=3:=of_decide_eq_true k3;refine br ?_ ?_<;>intro x
  ·have x:h.most < 0∨4096 < h.most:=by simpa [aG] using x
   rw [aj (.inr ⟨k3,x⟩)] at hS;refine cP dG (bH 20 h.dR) ?_;exact ⟨_,[[.v (.int .i64 (m + 1))]],ax,(rZ ye),bG (tk:=[]) (f:=(20,h.dR)) hS (fun _=>rfl)⟩
  have x:¬ (h.most < 0∨4096 < h.most):=by simp [aG] at x;omega
  rw [af (by omega),af (by omega),af (by omega),af (by omega),af (by omega)] at hS;exact ⟨_,[[.v (.int .i64 (m + 1))]],ax,(rZ ye),bG (tk:=[]) (f:=(0,0)) hS (fun _=>rfl)⟩
 have k3:¬ h.au=3:=of_decide_eq_false k3;rw [af (by omega)] at hS;refine br ?_ ?_<;>intro k4
 ·have k4:h.au=4:=of_decide_eq_true k4;rw [af (by omega),aj k4,<- Iy] at hS;refine cP Q8 (Cd h ps (by omega)) ?_;exact ⟨_,[[.v (.int .i64 (m + 1))]],ax,(rZ ye),bG (tk:=[]) (f:=lG h) hS (fun _=>rfl)⟩
 have k4:¬ h.au=4:=of_decide_eq_false k4;refine br ?_ ?_<;>intro k5
 ·have Vw:h.au=5∨h.au=6:=.inl (of_decide_eq_true k5);rw [af (by omega),af (by omega),aj Vw] at hS;refine br (fun _=>?_) (fun hc=>by rw [k5] at hc;cases hc);refine lu Mr rfl rfl (cs':=[.v (.int .i64 (m + 1))]) (rZ ye) ax (vG k ih h ps depth (m + 1) hk cL BV (by omega) (by omega) (by omega)) kB (fun r ql hr=>?_);obtain ⟨rfl,z,hz,yx⟩:=hr;simp only [List.cons.injEq,and_true] at hz;subst hz;exact ⟨_,_,ax,ax,bG (tk:=[]) (f:=(wrongOne h ps depth (m + 1)).1) hS yx⟩
 have k5:¬ h.au=5:=of_decide_eq_false k5;refine br ?_ ?_<;>intro k6
 ·have Vw:h.au=5∨h.au=6:=.inr (of_decide_eq_true k6);rw [af (by omega),af (by omega),aj Vw] at hS;refine lu Mr rfl rfl (cs':=[.v (.int .i64 (m + 1))]) (rZ ye) ax (vG k ih h ps depth (m + 1) hk cL BV (by omega) (by omega) (by omega)) kB (fun r ql hr=>?_);obtain ⟨rfl,z,hz,yx⟩:=hr;simp only [List.cons.injEq,and_true] at hz;subst hz;exact ⟨_,_,ax,ax,bG (tk:=[]) (f:=(wrongOne h ps depth (m + 1)).1) hS yx⟩
 have k6:¬ h.au=6:=of_decide_eq_false k6;have hP:lC h ps depth (m + 1)=lC h ps depth (m + 1):=rfl
 conv at hP=>lhs;unfold lC
 refine br ?_ ?_<;>intro k7
 ·have Sj:h.au=7∨h.au=8:=.inl (of_decide_eq_true k7);rw [af (by omega),af (by omega),af (by omega),aj Sj,hP] at hS;refine br (fun _=>?_) (fun hc=>by rw [k7] at hc;cases hc);refine lu Ms rfl rfl (cs':=[.v (.int .i64 (m + 1))]) (rZ ye) ax (qA k ih h ps depth (m + 1) Sj hk cL BV (by omega) (by omega) (by omega)) kB (fun r ql hr=>?_);obtain ⟨rfl,z,hz,yx⟩:=hr;simp only [List.cons.injEq,and_true] at hz;subst hz;exact ⟨_,_,ax,ax,bG (tk:=[]) (f:=(lC h ps depth (m + 1)).1) hS yx⟩
 have k7:¬ h.au=7:=of_decide_eq_false k7;refine br ?_ ?_<;>intro k8
 ·have Sj:h.au=7∨h.au=8:=.inr (of_decide_eq_true k8);rw [af (by omega),af (by omega),af (by omega),aj Sj,hP] at hS;refine lu Ms rfl rfl (cs':=[.v (.int .i64 (m + 1))]) (rZ ye) ax (qA k ih h ps depth (m + 1) Sj hk cL BV (by omega) (by omega) (by omega)) kB (fun r ql hr=>?_);obtain ⟨rfl,z,hz,yx⟩:=hr;simp only [List.cons.injEq,and_true] at hz;subst hz;exact ⟨_,_,ax,ax,bG (tk:=[]) (f:=(lC h ps depth (m + 1)).1) hS yx⟩
 have k8:¬ h.au=8:=of_decide_eq_false k8;refine br ?_ ?_<;>intro k9
 ·have k9:h.au=9:=of_decide_eq_true k9;refine cP HA (iL h.name.s (by simp only [Wd.wt] at MV;omega)) ?_;refine br ?_ ?_<;>intro q
  ·have q:az h.name.s=false:=sU q;rw [aj ⟨k9,q⟩] at hS;refine cP dG (bH 9 h.name.a) ?_;exact ⟨_,[[.v (.int .i64 (m + 1))]],ax,(rZ ye),bG (tk:=[]) (f:=(9,h.name.a)) hS (fun _=>rfl)⟩
  ·have q:az h.name.s=true:=sU q;rw [af (by simp [q]),af (by omega),af (by omega),af (by omega)] at hS;exact ⟨_,[[.v (.int .i64 (m + 1))]],ax,(rZ ye),bG (tk:=[]) (f:=(0,0)) hS (fun _=>rfl)⟩
 have k9:¬ h.au=9:=of_decide_eq_false k9;rw [af (by omega),af (by omega),af (by omega),af (by omega)] at hS;exact ⟨_,[[.v (.int .i64 (m + 1))]],ax,(rZ ye),bG (tk:=[]) (f:=(0,0)) hS (fun _=>rfl)⟩
theorem sY:∀ k,Iz k
 | 0=>fun t depth m hk=>by have:=t.pA;omega
 | k + 1=>fun t depth m hk cL BV FU oW vC=>by
  obtain ⟨h,ps⟩:=t;have gD:=hk;simp only [Ty.wt,Hd.wt] at gD;exact zK k (sY k) h ps depth m (by omega) cL BV FU oW vC
theorem qB (t:Ty) (cL:t.wt<=1099511627776):cw prog 84 [.agg (di t)] (wrong t 1 0).1.d:=
 vu t (sY t.wt t 1 0 (bn _) cL (by omega) (by omega) (by omega) (by omega))
theorem Cu (t:Ty) (cL:t.wt<=1099511627776) (hr:rngT t):cw prog 80 [.agg (di t)] (.v (.string (zn t))):=
 H9 t cL (iO t 1 0 hr) (sY t.wt t 1 0 (bn _) cL (by omega) (by omega) (by omega) (by omega))
mutual
def Ty.nn:Ty->Nat
 | .mk h ps=>if h.au=9 then 0 else 1 + ps.nn
def Pts.nn:Pts->Nat
 | .nil=>0
 | .cons p t r=>(if p.bare then 0 else t.nn) + r.nn
end
structure Lx where
 aD:List ByteArray
 lA:List Nat
 rows:List Nat
 js:List Int
 f:Nat->Nat->Bool
def Lx.bad (X:Lx) (l:List Wd):Ft:=labW X.aD l
structure Ed where
 name:ByteArray
 bare:Bool
 dR:Int
 to:Int
 label:Int
 wide:Int
 ck:Int
 cn:Int
 seen:Int
 ca:Int
structure Nd where
 au:Int
 dR:Int
 lo:Int
 hi:Int
 most:Int
 aD:List ByteArray
 lM:List Ed
end Go.Proofs.YtfdedoiiahbnnaaGreat
namespace Go.Proofs.YtfdedoiiahbnnaaGreat
namespace Dv
open Go Go.RowKit
section
variable {X:Ctx} {st:St} {k:List It} {E:En} {a:Act} {w:World} {ops:Array Oper} {W:Nat->Bool} {C:World->Prop} {Q:Act->World->Prop} {i:Nat} {r:List Nat} {o:Oper}
theorem fu (hg:o.guard=none):Region.wanted o (yielded ops a.tmps)=true:=by
 unfold Region.wanted;rw [hg]
theorem Eb {bx:List (List DV)} {wr:World} (h:Rel X E st a w) (hE:qT E bx wr) (hC:∀ w',C w' -> CC E bx wr w'):Rl E bx C st.sl a where
 tm:=h.tm
 dQ:=fun i cs hi=>by
  by_cases bM:cs=[]
  ·subst bM;have aS:i < E.β.length:=by rw [hE.len];exact (gS hi).1
   exact ⟨_,[],gE aS,⟨cy _,by simp⟩,fun w' _ j u hj=>by simp at hj⟩
  ·obtain ⟨b,ty,arr,hb,hw,hc⟩:=hE.dQ i cs hi bM;exact ⟨b,arr,hb,hc,fun w' h' j u hj=>by rw [cJ (((hC w' h').o i b cs hb hi bM).trans hw)];simpa using hj⟩
 cc:=fun x v hx w' h'=>(hC w' h').c x v hx
theorem La {bx:List (List DV)} (h:Env E bx w) (m:List Nat):qT E (maskL m 0 bx) w:=⟨by rw [py];exact h.len,fun i cs hi bM=>by
 rcases pz m _ _ _ _ hi with h1 | h1
 ·exact (bM h1).elim
 ·exact h.dQ i cs h1⟩
mutual
theorem pO {i j:Nat}:∀ d:DV,renD (swp i j) (renD (swp i j) d)=d
 | .v x=>rfl
 | .ud=>rfl
 | .agg l=>by simp only [renD,iA]
 | .cp l=>by simp only [renD,iA]
 | .sl e es tk=>rfl
 | .pt cs o=>rfl
 | .loc k o=>by simp only [renD,kv]
 | .el k o=>by simp only [renD,kv]
 | .ms k e o l c=>by simp only [renD,kv]
 | .fn g l r=>by simp only [renD,iA]
 | .nR t x=>by simp only [renD,pO]
theorem iA {i j:Nat}:∀ l:List DV,renL (swp i j) (renL (swp i j) l)=l
 | []=>rfl
 | d :: r=>by simp only [renL,pO,iA]
end
theorem vH {i j:Nat}:∀ l:List (Nat × Sl),renS (swp i j) (renS (swp i j) l)=l
 | []=>rfl
 | (k,⟨gs,s⟩) :: r=>by simp only [renS,pO,vH]
theorem vI {i j:Nat}:∀ l:List (List DV),renO (swp i j) (renO (swp i j) l)=l
 | []=>rfl
 | c :: r=>by simp only [renO,iA,vI]
theorem IC {i j:Nat} (f:Nat->Nat) (l:List (List DV)) (hi:i < l.length) (hj:j < l.length):renO f (swL i j l)=swL i j (renO f l):=by
 apply List.ext_getElem?
 grind [sk,fg,dU]
theorem zL {i j:Nat} {S:St} (hi:i < S.bx.length) (hj:j < S.bx.length):jK i j (jK i j S)=S:=by
 obtain ⟨sl,bx,tk⟩:=S;simp only [jK,vH];rw [IC _ _ (by rw [dU];exact hi) (by rw [dU];exact hj),vI];congr 1;apply List.ext_getElem?
 grind [fg,eE,kv]
theorem CallG.Lb {f:FuncId} {args:List DV} {dst:Option Nat} (i j:Nat) (Ny:Nat.ble X.n0 i=true) (E8:Nat.ble X.n0 j=true) (hi:Nat.blt i st.bx.length=true) (hj:Nat.blt j st.bx.length=true)
  (h:CallG X f (renL (swp i j) args) dst k (jK i j st)) (hX:X.bt=[]:=by exact rfl):CallG X f args dst k st:=by
 have mw:=hi;have jf:=hj;simp only [Nat.blt_eq] at mw jf;have hl:(jK i j st).bx.length=st.bx.length:=by simp only [jK,eE,dU]
 exact CallG.Fh i j (zL mw jf).symm (iA args).symm Ny E8 (by rw [hl];exact hi) (by rw [hl];exact hj) h hX
theorem Ec (h:Rel X E st a w) (bV:X.still=false) (hX:X.bt=[]) {g n ty e cap:Nat} {cur:Array Value} (hw:w.heap[g]? = some (.cells cur ty (0,0))) (dp:cur.size=cap * e) (hn:n<=cap) (yu:cap<=maxLen) (hb:g ∉ E.β)
  (hc:∀ x v,E.c x=some v->x.block=g->x.off < n * e) (dE:∀ (k:Nat) y,E.τ[k]? = some y->y.ownBlock≠some g) (hg:X.w0.heap.size<=g) :
  Rel X ⟨E.c,E.β,E.tk ++ [⟨n,ty,e,none⟩],E.τ ++ [.slice (some ⟨g,0,none⟩) n cap]⟩ ⟨st.sl,st.bx,st.tk ++ [⟨n,ty,e,none⟩]⟩ a w:=by
 let E2:En:=⟨E.c,E.β,E.tk ++ [⟨n,ty,e,none⟩],E.τ ++ [.slice (some ⟨g,0,none⟩) n cap]⟩
 have hext:Ext E E2:=⟨fun _ _ h=>h,fun _ _ h=>h,fun k q' hk=>by
  have aS:=(gS hk).1;refine ⟨q',by show (E.tk ++ _)[k]? = _;rw [eT aS];exact hk,.inl ⟨rfl,?_⟩⟩;show (E.τ ++ _)[k]? = _
  rw [eT (by rw [h.env.tl];exact aS)]⟩
 have hτ:∀ (k:Nat) y,E2.τ[k]? = some y->(k < E.τ.length/\E.τ[k]? = some y)∨(k=E.τ.length/\y = .slice (some ⟨g,0,none⟩) n cap):=fun k y hy=>by grind
 refine dt h hext ?_ (by show E.tk ++ _=_;rw [h.tk]) ?_ h.fr (my bV) (.nil hX)
 ·exact {
   len:=h.env.len
   tl:=by show (E.τ ++ _).length=(E.tk ++ _).length;simp [h.env.tl]
   dQ:=fun i cs hi=>by
    obtain ⟨b,t,arr,hb,hw,hc⟩:=h.env.dQ i cs hi;exact ⟨b,t,arr,hb,hw,hc.mono hext⟩
   inj:=h.env.inj
   sub:=h.env.sub
   pc:=h.env.pc
   cN:=fun k q' y Xk hy=>by
    rcases hτ k y hy with ⟨aS,gP⟩ | ⟨rfl,rfl⟩
    ·have gD:(E.tk ++ [⟨n,ty,e,none⟩])[k]? = some q':=Xk;rw [eT (by rw [<- h.env.tl];exact aS)] at gD;exact h.env.cN k q' y gD gP
    ·have gD:(E.tk ++ [⟨n,ty,e,none⟩])[E.τ.length]? = some q':=Xk;rw [List.getElem?_append_right (by rw [h.env.tl];exact bn _),h.env.tl] at gD;simp only [Nat.sub_self,List.getElem?_cons_zero,oI] at gD;subst gD;exact .inr ⟨g,cap,cur,rfl,hw,⟨dp,fun cs h=>by cases h⟩,hn,yu,hb,hc⟩
   gC:=fun k k' y y' g' G7 hy gP mC PI=>by
    rcases hτ k y hy with ⟨_,A9⟩ | ⟨rfl,rfl⟩
    ·rcases hτ k' y' gP with ⟨_,mz⟩ | ⟨rfl,rfl⟩
     ·exact h.env.gC k k' y y' g' G7 A9 mz mC PI
     ·simp only [Value.ownBlock,oI] at PI;subst PI;exact dE k y A9 mC
    ·rcases hτ k' y' gP with ⟨_,mz⟩ | ⟨rfl,rfl⟩
     ·simp only [Value.ownBlock,oI] at mC;subst mC;exact dE k' y' mz PI
     ·exact G7 rfl }
 ·exact {
   c:=h.nw.c
   cn:=h.nw.cn
   β:=h.nw.β
   tk:=fun j q0 y0 Bq E6=>by
    obtain ⟨q',y',h1,h2,h3⟩:=h.nw.tk j q0 y0 Bq E6
    grind
   tn:=fun j y g' hj hy wY=>by
    rcases hτ j y hy with ⟨_,A9⟩ | ⟨_,rfl⟩
    ·exact h.nw.tn j y g' hj A9 wY
    ·simp only [Value.ownBlock,oI] at wY;omega
   l0:=h.nw.l0 }
theorem OP {t d et e j6 n len:Nat} {bb:Bool} {z:List Value} {parts:Array (Nat × Operand)} {es:List (List DV)} (hop:o.op = .buildSlice t len parts) (sf:o.dst=some d) (hT:X.T.find t=some ⟨n,bb,.sl et e j6,z⟩) (ph:litL e st parts.toList 0=some es)
  (hc:(Nat.beq es.length len && (Nat.blt 0 len && Nat.blt 0 e && Nat.ble (len * e) 16777216))=true) (hd:eZ X.nt st.sl (some d)=true) (bV:X.still=false:=by exact rfl) (hX:X.bt=[]:=by exact rfl)
  (hk:go X 4000 k ⟨(d,⟨[],.sl e es (some st.tk.length)⟩) :: st.sl,st.bx,st.tk ++ [⟨len,et,e,none⟩]⟩):Uc X o k st:=by
 intro E a w h;simp only [aZ,Nat.beq_eq,Nat.ble_eq,Nat.blt_eq] at hc;obtain ⟨hlen,⟨pk,yw⟩,Up⟩:=hc;obtain ⟨hu,ii,zv,xe,hz,dp,uG,GY⟩:=fk X.hT hT;obtain ⟨xs,vs,hp,qR,uZ,fB,NJ,Ha⟩:=mX h.rl yw ph;subst dp
 have EY:len * ii.size≠0:=by
  have:=Nat.mul_pos pk yw;omega
 have jG:Instr.fill (fun i=>some (i * ii.size,ii.size)) ((Array.range (len * ii.size)).map (zv.cells[·% zv.cells.size]!)) (parts.map fun (i,x)=>(i,a.eval x)).toList=some (cellsL vs).toArray:=by
  have h0:=nV ii.size vs 0 ((Array.range (len * ii.size)).map (zv.cells[·% zv.cells.size]!)).toList fB (by simp [uZ,hlen])
  have h1:(parts.map fun (i,x)=>(i,a.eval x)).toList=enumF 0 vs:=by
   rw [Array.toList_map,hp,qR,<- pa]
  rw [h1];simp only [Array.toArray_toList] at h0;rw [h0];simp [uZ,hlen]
 have cf:(execOp a.eval o).run X.P w = .ok (.value (.slice (some ⟨w.heap.size,0,none⟩) len len)) (w.alloc (.cells (cellsL vs).toArray et)):=by
  simp only [execOp,hop,Sem.run_bind,run_buildSlice w t et len _ _ ii zv hu xe hz (by omega) EY jG,Result.andThen_ok,Sem.run_pure]
 refine rQ cf ?_;rw [sf];have hr:=pf (arr:=cellsL vs) h bV et
 have zM:(cellsL vs).length=len * ii.size:=by
  have:∀ l:List Value,(∀ v∈l,v.cells.toList.length=ii.size)->(cellsL l).length=l.length * ii.size:=by
   intro l
   induction l with
   | nil=>intro _;simp [cellsL]
   | cons v l ih=>grind [cellsL]
  rw [this vs fB,uZ,hlen]
 have la:=Ec (n:=len) (ty:=et) (e:=ii.size) (cap:=len) hr bV hX (g:=w.heap.size) (cur:=(cellsL vs).toArray) (fY w _) (by simp [zM]) (bn _) (by
   have:len<=len * ii.size:=Nat.le_mul_of_pos_right _ yw;unfold maxLen;omega) (fun hm=>by have:=h.env.bu hm;omega) (fun x v hx Bu=>by
   have hx:eb E.c (w.alloc (.cells (cellsL vs).toArray et)) w.heap.size (cellsL vs).length x=some v:=hx;unfold eb at hx;split at hx
   ·rename_i hc;rw [<- zM];exact hc.2.2
   ·have:=World.block_lt_of_cell? w x (h.env.sub x v hx);omega) (fun j y hy hg=>by
   have:=(h.env.own (mG hy) hg).1
   omega) (h.fr.size)
 refine go_sound 4000 _ _ hk _ _ _ (bF la hd (.sl ii.size es (some st.tk.length)) _ ?_);unfold Rv;refine ⟨_,_,_,rfl,⟨hlen.symm,bn _⟩,fun bM=>⟨rfl,?_⟩,fun k' gD=>?_⟩
 ·have lk:∀ x v,E.c x=some v->eb E.c (w.alloc (.cells (cellsL vs).toArray et)) w.heap.size (cellsL vs).length x=some v:=fun x v hx=>by
   have aS:=World.block_lt_of_cell? w x (h.env.sub x v hx);unfold eb;rw [af (by omega)];exact hx
  have hm:RvC (En.cl ⟨eb E.c (w.alloc (.cells (cellsL vs).toArray et)) w.heap.size (cellsL vs).length,E.β,E.tk,E.τ⟩) es.flatten (cellsL vs):=NJ.mono (Ext.J5 (E:=E) lk);refine rvEs_flat hm Ha fun j u hj=>?_;show eb _ _ _ _ _=_;have jf:=(gS hj).1;simp only [ab,ao,Nat.zero_add];rw [ra jf,cJ (fY w _)];simpa using hj
 ·cases gD;refine ⟨⟨len,et,ii.size,none⟩,?_,bn _,fun _=>?_⟩
  ·show (E.tk ++ _)[st.tk.length]? = _;rw [h.tk];simp
  ·show (E.τ ++ _)[st.tk.length]? = _;rw [<- h.tk,<- h.env.tl];simp
end
end Dv
end Go.Proofs.YtfdedoiiahbnnaaGreat
set_option maxRecDepth 100000
namespace Go.Proofs.YtfdedoiiahbnnaaGreat
open Go Go.RowKit Dv Go.Proofs.Tryz
abbrev rm (s:eW) (n d k q:Int) (e:Nat):St:=
 ⟨[cE 1 0,bQ 3 n,bQ 4 d,bQ 5 e],[fy s],[]⟩
theorem xx (s:eW) (cL:s.wt<=1099511627776):Ev prog 14 [.agg (fy s)] [] [] (fun d _ _=>∃ b:Bool,d = .v (.bool b)):=by
 have h1:=cW s.ay;have h2:=gn s.order;have h3:=iy s.types;simp only [eW.wt] at cL;have mM:=lB s.root.wt s.root (bn _) (by omega);obtain ⟨ay,order,types,⟨h,ps⟩⟩:=s;simp only at h1 h2 h3 cL mM;refine eG 60 [.tmp 2] func14 rfl ntmps14 rfl fun _ _ _ _=>?_;refine br ?_ ?_<;>intro _
 ·exact ⟨true,rfl⟩
 refine cP Oh mM ?_;refine de (fun j st=>∃ (e:Nat) (n d:Int),st=rm ⟨ay,order,types,.mk h ps⟩ n d 0 0 e/\e<=types.length/\j=types.length - e) types.length (rm ⟨ay,order,types,.mk h ps⟩ (Ty.mk h ps).cnt (Ty.mk h ps).deep 0 0 0) (fC wB) ⟨0,_,_,rfl,by omega,by omega⟩ ?_;rintro j st ⟨e,n,d,rfl,he,rfl⟩;refine br ?_ ?_<;>intro hL
 ·have aS:e < types.length:=by have:=hL;simp [cT] at this;exact this
  obtain ⟨w,hw⟩:=gX aS;have B8:=gp (mG hw);have hs:=lB w.2.wt w.2 (bn _) (by omega);obtain ⟨w,u,us⟩:=w;simp only at hs;refine iX (jN hw) ?_;refine cP Oh hs ?_;refine br ?_ ?_<;>intro _
  ·exact ⟨rm ⟨ay,order,types,.mk h ps⟩ _ _ 0 0 (e + 1),(fC (nc (gy aS (by omega)))),types.length - (e + 1),by omega,e + 1,_,_,rfl,by omega,rfl⟩
  ·exact ⟨rm ⟨ay,order,types,.mk h ps⟩ _ _ 0 0 (e + 1),(fC (nc (gy aS (by omega)))),types.length - (e + 1),by omega,e + 1,_,_,rfl,by omega,rfl⟩
 exact ⟨_,rfl⟩
def samePrs:List (Wd × Wd)->List (Wd × Wd)->Bool
 | [],[]=>true
 | x :: r,y :: s=>(decide (x.1.s=y.1.s) && decide (x.2.s=y.2.s)) && samePrs r s
 | _,_=>false
def sameNms:List (Wd × Ty)->List (Wd × Ty)->Bool
 | [],[]=>true
 | x :: r,y :: s=>(decide (x.1.s=y.1.s) && sameTy x.2 y.2) && sameNms r s
 | _,_=>false
def oq (a b:eW):Bool:=sameWds a.ay b.ay && samePrs a.order b.order && sameTy a.root b.root && sameNms a.types b.types
theorem xy (d:Nat) (a b:ByteArray) (p q:Int) (w:World):(Op.equalIn (d + 1 + 1) 34 (.agg #[.string a,.int .i64 p]) (.agg #[.string b,.int .i64 q])).run prog w = .ok (decide (a=b) && decide (p=q)) w:=by
 have hf:prog.underlying 34=some (.struct (prog.fieldsOf 34)):=by simp [Program.fieldsOf,Tryz.underlying34]
 have yv:(prog.fieldsOf 34).toList=[⟨ "Name",9,0,false, "", "",0⟩,⟨ "At",3,1,false, "", "",16⟩]:=by simp [Program.fieldsOf,Tryz.underlying34]
 have hs:prog.stoodInHeld 34=false:=by kernel_rfl
 rw [run_equalIn_struct w (d + 1) 34 _ _ hf hs,yv]
 have e1:(a.toList == b.toList)=decide (a=b):=by
  rw [ByteArray.toList_eq,ByteArray.toList_eq];by_cases h:a=b
  ·subst h;simp
  ·have:¬ a.data=b.data:=fun e=>h (ByteArray.ext e);simp [h,this]
 have q9:∀ cs:Array Value,∀ off v,cs[off]? = some v->(part 9 cs off).run prog w = .ok v w:=fun cs off v h=>by
  simp [part,Tryz.isAgg9,h]
 have q3:∀ cs:Array Value,∀ off v,cs[off]? = some v->(part 3 cs off).run prog w = .ok v w:=fun cs off v h=>by
  simp [part,Tryz.isAgg3,h]
 simp only [Op.eqFields,ne_eq,String.reduceEq,not_false_eq_true,if_true,Sem.run_bind,q9 #[.string a,.int .i64 p] 0 (.string a) rfl,q9 #[.string b,.int .i64 q] 0 (.string b) rfl,Result.andThen_ok,run_equalIn_string w d 9 a b Tryz.underlying9,e1];by_cases h:a=b
 ·simp only [h,decide_true,Bool.not_true,Bool.false_eq_true,if_false,Sem.run_bind,q3 #[.string b,.int .i64 p] 1 (.int .i64 p) rfl,q3 #[.string b,.int .i64 q] 1 (.int .i64 q) rfl,Result.andThen_ok,run_equalIn_int w d 3 .i64 .i64 p q Tryz.underlying3];by_cases h2:p=q<;>simp [h2,Sem.run_pure]
 ·simp [h,Sem.run_pure]
theorem pP:∃ d,Op.maxDepth=d + 1 + 1 + 1:=⟨Op.maxDepth - 3,by decide⟩
theorem FW (op:BinOp) (w:World) (x y:Operand) (vs vs':Array Value):(eqGuard op 34 x y (.agg vs) (.agg vs')).run prog w = .ok () w:=by
 have h:prog.eqGuardType prog.depth 34=false:=by kernel_rfl
 cases op<;>simp [eqGuard,run_program,h]
theorem OQ (a b:ByteArray) (p q:Int) (w:World):(binOp .eql 34 (.agg #[.string a,.int .i64 p]) (.agg #[.string b,.int .i64 q])).run prog w = .ok (.bool (decide (a=b) && decide (p=q))) w:=by
 obtain ⟨d,hm⟩:=pP
 have he:(Op.equal 34 (.agg #[.string a,.int .i64 p]) (.agg #[.string b,.int .i64 q])).run prog w = .ok (decide (a=b) && decide (p=q)) w:=by
  unfold Op.equal;rw [hm];exact xy (d + 1) a b p q w
 show ((do let r <- Op.equal 34 _ _;pure (Value.bool r)):Sem Value).run prog w=_;simp only [Sem.run_bind,he,Result.andThen_ok,Sem.run_pure]
theorem ID (x y:Operand) (a b:Wd):pb prog .eql x y 34 (lg a) (lg b) (decide (a.s=b.s) && decide (a.a=b.a)):=
 ⟨[.string a.s,.int .i64 a.a],[.string b.s,.int .i64 b.a],rfl,rfl,fun w=>⟨FW _ w x y _ _,OQ a.s b.s a.a b.a w⟩⟩
def GQ (a b:Wd × Wd):Bool:=(decide (a.1.s=b.1.s) && decide (a.1.a=b.1.a)) && (decide (a.2.s=b.2.s) && decide (a.2.a=b.2.a))
theorem IE (w:World) (x y:Operand) (vs vs':Array Value):(eqGuard .neq 122 x y (.agg vs) (.agg vs')).run prog w = .ok () w:=by
 have h:prog.eqGuardType prog.depth 122=false:=by kernel_rfl
 simp [eqGuard,run_program,h]
theorem OR (a b:Wd × Wd) (w:World):(binOp .neq 122 (.agg #[.string a.1.s,.int .i64 a.1.a,.string a.2.s,.int .i64 a.2.a]) (.agg #[.string b.1.s,.int .i64 b.1.a,.string b.2.s,.int .i64 b.2.a])).run prog w = .ok (.bool (!(GQ a b))) w:=by
 have hf:prog.underlying 122=some (.struct (prog.fieldsOf 122)):=by simp [Program.fieldsOf,Tryz.underlying122]
 have yv:(prog.fieldsOf 122).toList=[⟨ "Lo",34,0,false, "", "",0⟩,⟨ "Hi",34,2,false, "", "",24⟩]:=by simp [Program.fieldsOf,Tryz.underlying122]
 have hs:prog.stoodInHeld 122=false:=by kernel_rfl
 obtain ⟨d,hm⟩:=pP
 have qp:∀ cs:Array Value,∀ off,(part 34 cs off).run prog w = .ok (.agg (cs.extract off (off + 2))) w:=fun cs off=>by
  simp [part,Tryz.isAgg34,Tryz.sizeOf34]
 have he:(Op.equal 122 (.agg #[.string a.1.s,.int .i64 a.1.a,.string a.2.s,.int .i64 a.2.a]) (.agg #[.string b.1.s,.int .i64 b.1.a,.string b.2.s,.int .i64 b.2.a])).run prog w = .ok (GQ a b) w:=by
  unfold Op.equal;rw [hm,run_equalIn_struct w (d + 1 + 1) 122 _ _ hf hs,yv];have x1:(#[Value.string a.1.s,.int .i64 a.1.a,.string a.2.s,.int .i64 a.2.a].extract 0 (0 + 2)) = #[.string a.1.s,.int .i64 a.1.a]:=rfl;have x2:(#[Value.string a.1.s,.int .i64 a.1.a,.string a.2.s,.int .i64 a.2.a].extract 2 (2 + 2)) = #[.string a.2.s,.int .i64 a.2.a]:=rfl;have y1:(#[Value.string b.1.s,.int .i64 b.1.a,.string b.2.s,.int .i64 b.2.a].extract 0 (0 + 2)) = #[.string b.1.s,.int .i64 b.1.a]:=rfl;have y2:(#[Value.string b.1.s,.int .i64 b.1.a,.string b.2.s,.int .i64 b.2.a].extract 2 (2 + 2)) = #[.string b.2.s,.int .i64 b.2.a]:=rfl;simp only [Op.eqFields,ne_eq,String.reduceEq,not_false_eq_true,if_true,Sem.run_bind,qp,Result.andThen_ok,x1,x2,y1,y2,xy];unfold GQ;cases (decide (a.1.s=b.1.s) && decide (a.1.a=b.1.a))
  ·simp [Sem.run_pure]
  ·simp only [Bool.not_true,Bool.false_eq_true,if_false,Sem.run_bind,Result.andThen_ok,xy,qp,x2,y2];cases (decide (a.2.s=b.2.s) && decide (a.2.a=b.2.a))<;>simp [Sem.run_pure]
 show ((do let r <- Op.equal 122 _ _;pure (Value.bool !r)):Sem Value).run prog w=_;simp only [Sem.run_bind,he,Result.andThen_ok,Sem.run_pure]
theorem OS (x y:Operand) (a b:Wd × Wd):pb prog .neq x y 122 (FF a) (FF b) (!(GQ a b)):=
 ⟨[.string a.1.s,.int .i64 a.1.a,.string a.2.s,.int .i64 a.2.a],[.string b.1.s,.int .i64 b.1.a,.string b.2.s,.int .i64 b.2.a],rfl,rfl,fun w=>⟨IE w x y _ _,OR a b w⟩⟩
def eqPrs:List (Wd × Wd)->List (Wd × Wd)->Bool
 | [],[]=>true
 | x :: r,y :: s=>GQ x y && eqPrs r s
 | _,_=>false
theorem vJ:∀ {a b:List (Wd × Wd)},a.length≠b.length->eqPrs a b=false
 | [],[],h=>(h rfl).elim
 | [],_ :: _,_=>rfl
 | _ :: _,[],_=>rfl
 | x :: r,y :: s,h=>by
  simp only [eqPrs];rw [vJ (a:=r) (b:=s) (sU h),Bool.and_false]
theorem jj:∀ a b:List (Wd × Wd),eqPrs (a.map bg) (b.map bg)=samePrs a b
 | [],[]=>rfl
 | [],_ :: _=>rfl
 | _ :: _,[]=>rfl
 | x :: r,y :: s=>by
  have:=jj r s
  grind [eqPrs,samePrs,GQ,bg,bA]
abbrev Cv (a b:List (Wd × Wd)) (e:Nat):St:=
 ⟨[gh 0 4 (du a),gh 1 4 (du b),bQ 12 ((du a).length),bQ 13 e],[],[]⟩
theorem xz (a b:List (Wd × Wd)) (hs:a.length<=1099511627776) :
  cw prog 90 [.sl 4 (du a) none,.sl 4 (du b) none] (.v (.bool (eqPrs a b))):=by
 refine eG 26 [.tmp 4] func90 rfl ntmps90 rfl fun _ _ _ _=>?_;refine br ?_ ?_<;>intro h
 ·have bM:a.length≠b.length:=by have:=h;simp [cM] at this;omega
  exact congrArg (fun b=>DV.v (.bool b)) (vJ bM).symm
 have hl:a.length=b.length:=by have:=h;simp [cM] at this;omega
 refine de (fun j st=>∃ e:Nat,st=Cv a b e/\e<=a.length/\eqPrs a b=eqPrs (a.drop e) (b.drop e)/\j=a.length - e) a.length
  (Cv a b 0) (fC wB) ⟨0,rfl,by omega,rfl,by omega⟩ ?_
 rintro j st ⟨e,rfl,he,dT,rfl⟩;refine br ?_ ?_<;>intro h
 ·have aS:e < a.length:=by have:=h;simp [cM] at this;exact this
  obtain ⟨x,hx⟩:=gX aS;obtain ⟨y,hy⟩:∃ y,b[e]? = some y:=⟨_,gE (hl ▸ aS)⟩;rw [drop_cons hx,drop_cons hy] at dT;refine dI ?_;refine ⟨FF x,⟨by omega,lL hx⟩,FF y,⟨by omega,lL hy⟩,_,OS _ _ x y,?_⟩;refine br ?_ ?_<;>intro h
  ·have bM:GQ x y=false:=by
    have h:(!(GQ x y))=true:=h
    revert h
    cases GQ x y<;>decide
   refine (dA ?_:);rw [dT];simp only [eqPrs,bM,Bool.false_and]
  ·have bM:GQ x y=true:=by
    have h:(!(GQ x y))=false:=h
    revert h
    cases GQ x y<;>decide
   refine ⟨Cv a b (e + 1),(fC (nc (gy aS (by omega)))),a.length - (e + 1),by omega,e + 1,rfl,by omega,?_,rfl⟩;rw [dT];simp only [eqPrs,bM,Bool.true_and]
 ·have hge:e=a.length:=by have:=h;simp [cM] at this;omega
  refine (dA ?_:);rw [dT,hge,List.drop_length,hl,List.drop_length];simp [eqPrs]
def OT (x y:Wd × Ty):Bool:=(decide (x.1.s=y.1.s) && decide (x.1.a=y.1.a)) && sameTy x.2 y.2
theorem Cw (x y:Wd × Ty) (hs:x.2.wt<=1099511627776) (RJ:y.2.wt<=1099511627776) :
  cw prog 93 [.agg (JV x),.agg (JV y)] (.v (.bool (OT x y))):=by
 have hk:=kz x.2 y.2 hs RJ;obtain ⟨x,u,us⟩:=x;obtain ⟨y,v,vs⟩:=y;refine eG 17 [.tmp 4] func93 rfl ntmps93 rfl fun _ _ _ _=>?_;refine ⟨_,ID _ _ x y,?_⟩;refine br ?_ ?_<;>intro h
 ·have h1:(decide (x.s=y.s) && decide (x.a=y.a))=true:=sU h;refine cP Ol hk ?_;refine (dA ?_:);simp [OT,pickB,h1]
 ·have h1:(decide (x.s=y.s) && decide (x.a=y.a))=false:=by
   have:=h
   revert this
   cases (decide (x.s=y.s) && decide (x.a=y.a))<;>decide
  refine (dA ?_:);simp only [OT,h1];simp [pickB]
def eqNms:List (Wd × Ty)->List (Wd × Ty)->Bool
 | [],[]=>true
 | x :: r,y :: s=>OT x y && eqNms r s
 | _,_=>false
theorem vK:∀ {a b:List (Wd × Ty)},a.length≠b.length->eqNms a b=false
 | [],[],h=>(h rfl).elim
 | [],_ :: _,_=>rfl
 | _ :: _,[],_=>rfl
 | x :: r,y :: s,h=>by
  simp only [eqNms];rw [vK (a:=r) (b:=s) (sU h),Bool.and_false]
abbrev IF (a b:List (Wd × Ty)) (g e:Nat):St:=
 ⟨[gh 1 11 (gm b),(2,⟨[],.fn g [] []⟩),gh 15 11 (gm a),bQ 16 ((gm a).length),bQ 17 e],[],[]⟩
theorem zN (a b:List (Wd × Ty)) (hs:nmsWt a<=1099511627776) (RJ:nmsWt b<=1099511627776) :
  cw prog 92 [.sl 11 (gm a) none,.sl 11 (gm b) none,.fn 93 [] []] (.v (.bool (eqNms a b))):=by
 have Qg:=iy a;refine eG 32 [.tmp 6] func92 rfl ntmps92 rfl fun _ _ _ _=>?_;refine br ?_ ?_<;>intro h
 ·have bM:a.length≠b.length:=by have:=h;simp [cT] at this;omega
  exact congrArg (fun b=>DV.v (.bool b)) (vK bM).symm
 have hl:a.length=b.length:=by have:=h;simp [cT] at this;omega
 refine de (fun j st=>∃ e:Nat,st=IF a b 93 e/\e<=a.length/\eqNms a b=eqNms (a.drop e) (b.drop e)/\j=a.length - e) a.length
  (IF a b 93 0) (fC wB) ⟨0,rfl,by omega,rfl,by omega⟩ ?_
 rintro j st ⟨e,rfl,he,dT,rfl⟩;refine br ?_ ?_<;>intro h
 ·have aS:e < a.length:=by have:=h;simp [cT] at this;exact this
  obtain ⟨x,hx⟩:=gX aS;obtain ⟨y,hy⟩:∃ y,b[e]? = some y:=⟨_,gE (hl ▸ aS)⟩;rw [drop_cons hx,drop_cons hy] at dT;have w1:=gp (mG hx);have w2:=gp (mG hy);have GK:=Cw x y (by omega) (by omega);obtain ⟨x,u,us⟩:=x;obtain ⟨y,v,vs⟩:=y;refine iX (jN hx) ?_;refine iX (jN hy) ?_;refine cP UW GK ?_;refine br ?_ ?_<;>intro h
  ·have bM:OT (x,.mk u us) (y,.mk v vs)=false:=sU h;refine (dA ?_:);rw [dT];simp only [eqNms,bM,Bool.false_and]
  ·have bM:OT (x,.mk u us) (y,.mk v vs)=true:=sU h;refine ⟨IF a b 93 (e + 1),(fC (nc (gy aS (by omega)))),a.length - (e + 1),by omega,e + 1,rfl,by omega,?_,rfl⟩;rw [dT];simp only [eqNms,bM,Bool.true_and]
 ·have hge:e=a.length:=by have:=h;simp [cT] at this;omega
  refine (dA ?_:);rw [dT,hge,List.drop_length,hl,List.drop_length];simp [eqNms]
theorem iR:∀ a b:List Wd,sameWds (aw a) b=sameWds a b
 | [],[]=>rfl
 | [],_ :: _=>rfl
 | _ :: _,[]=>rfl
 | x :: r,y :: s=>by
  have:=iR r s
  grind [aw,sameWds]
theorem nE:∀ a b:List Wd,sameWds a (aw b)=sameWds a b
 | [],[]=>rfl
 | [],_ :: _=>rfl
 | _ :: _,[]=>rfl
 | x :: r,y :: s=>by
  have:=nE r s
  grind [aw,sameWds]
mutual
theorem jR:∀ a b:Ty,sameTy (stripT a) b=sameTy a b
 | .mk h ps,.mk k qs=>by simp only [stripT,sameTy,gk,aT,bA,iR,vM ps qs]
theorem vM:∀ a b:Pts,samePts (stripP a) b=samePts a b
 | .nil,.nil=>by simp only [stripP]
 | .nil,.cons _ _ _=>by simp only [stripP]
 | .cons _ _ _,.nil=>by simp only [stripP,samePts]
 | .cons p t r,.cons q u s=>by simp only [stripP,samePts,cu,bd,bA,iR,jR t u,vM r s]
end
mutual
theorem sZ:∀ a b:Ty,sameTy a (stripT b)=sameTy a b
 | .mk h ps,.mk k qs=>by simp only [stripT,sameTy,gk,aT,bA,nE,vN ps qs]
theorem vN:∀ a b:Pts,samePts a (stripP b)=samePts a b
 | .nil,.nil=>by simp only [stripP]
 | .cons _ _ _,.nil=>by simp only [stripP]
 | .nil,.cons _ _ _=>by simp only [stripP,samePts]
 | .cons p t r,.cons q u s=>by simp only [stripP,samePts,cu,bd,bA,nE,sZ t u,vN r s]
end
theorem jk:∀ a b:List (Wd × Ty),eqNms (a.map bi) (b.map bi)=sameNms a b
 | [],[]=>rfl
 | [],_ :: _=>rfl
 | _ :: _,[]=>rfl
 | x :: r,y :: s=>by
  have:=jk r s
  grind [eqNms,sameNms,OT,bi,jR,sZ,bA]
theorem zO (p q r s:Int) (w:World):(Op.equal 26 (.agg #[.int .i64 p,.int .i64 q]) (.agg #[.int .i64 r,.int .i64 s])).run prog w = .ok (decide (p=r) && decide (q=s)) w:=by
 have hf:prog.underlying 26=some (.struct (prog.fieldsOf 26)):=by simp [Program.fieldsOf,Tryz.underlying26]
 have yv:(prog.fieldsOf 26).toList=[⟨ "E",24,0,false, "", "",0⟩,⟨ "At",3,1,false, "", "",8⟩]:=by simp [Program.fieldsOf,Tryz.underlying26]
 have hs:prog.stoodInHeld 26=false:=by kernel_rfl
 obtain ⟨d,hm⟩:=pP
 have q9:∀ cs:Array Value,∀ off v,cs[off]? = some v->(part 24 cs off).run prog w = .ok v w:=fun cs off v h=>by
  simp [part,Tryz.isAgg24,h]
 have q3:∀ cs:Array Value,∀ off v,cs[off]? = some v->(part 3 cs off).run prog w = .ok v w:=fun cs off v h=>by
  simp [part,Tryz.isAgg3,h]
 unfold Op.equal;rw [hm,run_equalIn_struct w (d + 1 + 1) 26 _ _ hf hs,yv];simp only [Op.eqFields,ne_eq,String.reduceEq,not_false_eq_true,if_true,Sem.run_bind,q9 #[.int .i64 p,.int .i64 q] 0 (.int .i64 p) rfl,q9 #[.int .i64 r,.int .i64 s] 0 (.int .i64 r) rfl,Result.andThen_ok,run_equalIn_int w (d + 1) 24 .i64 .i64 p r Tryz.underlying24];by_cases h:p=r
 ·subst h;have e1:=q3 #[.int .i64 p,.int .i64 q] 1 (.int .i64 q) rfl;have e2:=q3 #[.int .i64 p,.int .i64 s] 1 (.int .i64 s) rfl;have e3:=run_equalIn_int w (d + 1) 3 .i64 .i64 q s Tryz.underlying3;by_cases h2:q=s
  ·subst h2;simp [e1,e3,Sem.run_pure]
  ·simp [e1,e2,e3,h2,Sem.run_pure]
 ·simp [h,Sem.run_pure]
theorem OU (p q r s:Int) (w:World):(binOp .eql 26 (.agg #[.int .i64 p,.int .i64 q]) (.agg #[.int .i64 r,.int .i64 s])).run prog w = .ok (.bool (decide (p=r) && decide (q=s))) w:=by
 show ((do let r <- Op.equal 26 _ _;pure (Value.bool r)):Sem Value).run prog w=_;simp only [Sem.run_bind,zO p q r s w,Result.andThen_ok,Sem.run_pure]
theorem OV (p q r s:Int) (w:World):(binOp .neq 26 (.agg #[.int .i64 p,.int .i64 q]) (.agg #[.int .i64 r,.int .i64 s])).run prog w = .ok (.bool (!(decide (p=r) && decide (q=s)))) w:=by
 show ((do let r <- Op.equal 26 _ _;pure (Value.bool !r)):Sem Value).run prog w=_;simp only [Sem.run_bind,zO p q r s w,Result.andThen_ok,Sem.run_pure]
theorem zP (op:BinOp) (w:World) (x y:Operand) (vs vs':Array Value):(eqGuard op 26 x y (.agg vs) (.agg vs')).run prog w = .ok () w:=by
 have h:prog.eqGuardType prog.depth 26=false:=by kernel_rfl
 cases op<;>simp [eqGuard,run_program,h]
theorem OW (x y:Operand) (f g:Ft):pb prog .eql x y 26 [.v (.int .i64 f.1),.v (.int .i64 f.2)] [.v (.int .i64 g.1),.v (.int .i64 g.2)] (decide (f.1=g.1) && decide (f.2=g.2)):=
 ⟨[.int .i64 f.1,.int .i64 f.2],[.int .i64 g.1,.int .i64 g.2],rfl,rfl,fun w=>⟨zP _ w x y _ _,OU f.1 f.2 g.1 g.2 w⟩⟩
theorem Lc (x y:Operand) (f g:Ft):pb prog .neq x y 26 [.v (.int .i64 f.1),.v (.int .i64 f.2)] [.v (.int .i64 g.1),.v (.int .i64 g.2)] (!(decide (f.1=g.1) && decide (f.2=g.2))):=
 ⟨[.int .i64 f.1,.int .i64 f.2],[.int .i64 g.1,.int .i64 g.2],rfl,rfl,fun w=>⟨zP _ w x y _ _,OV f.1 f.2 g.1 g.2 w⟩⟩
structure Vx (L N:Nat) (e:Ed):Prop where
 to0:e.bare=true->e.to = -1
 to1:e.bare=false->∃ k:Nat,e.to=k/\k < N
 uK:∃ k:Nat,e.label=k/\k < L
 seen:∃ k:Nat,e.seen=k/\k < L
 wide:1<=e.wide/\e.wide<=64
 ck:0<=e.ck/\e.ck<=3
 cn:(e.ck=0->e.cn=0)/\(e.ck=1->1<=e.cn)/\(e.ck=2->0<=e.cn/\e.cn<=4096)/\(e.ck=3->e.cn=0)
structure NdOK (L N:Nat) (n:Nd):Prop where
 k1:1<=n.au
 k8:n.au<=8
 lohi:n.au=2->n.lo<=n.hi
 lo0:n.au≠2->n.lo=0/\n.hi=0
 Xl:n.au=3->0<=n.most/\n.most<=4096
 Xm:n.au=5->0<=n.most/\n.most<=1024
 Xn:n.au≠3->n.au≠5->n.most=0
 aD:n.au=4->n.aD ≠ []/\n.aD.length<=64/\n.aD.Nodup/\∀ s∈n.aD,az s=true
 Vy:n.au≠4->n.aD=[]
 leaf:n.au < 5->n.lM=[]
 one:n.au=5∨n.au=6->∃ e,n.lM=[e]/\e.bare=false/\e.name=aY
 many:n.au=7∨n.au=8->n.lM.length<=64/\(n.au=8->n.lM ≠ [])/\(n.lM.map Ed.name).Nodup/\∀ e∈n.lM,az e.name=true
 bare:∀ e∈n.lM,e.bare=true->n.au=8
 edge:∀ e∈n.lM,Vx L N e
inductive Val where
 | mk (k n:Int) (s:ByteArray) (ks:List Val)
def Val.k:Val->Int | .mk k _ _ _=>k
def Val.n:Val->Int | .mk _ n _ _=>n
def Val.s:Val->ByteArray | .mk _ _ s _=>s
def Val.ks:Val->List Val | .mk _ _ _ ks=>ks
mutual
def Val.wt:Val->Nat
 | .mk _ _ s ks=>64 + s.size + Sk ks
def Sk:List Val->Nat
 | []=>0
 | v :: r=>v.wt + Sk r
end
theorem pJ {α:Type} {l:List α} {e:Nat} {x:α} (h:l[e]? = some x):l.take (e + 1)=l.take e ++ [x]:=by rw [List.take_add_one,h];all_goals rfl
def to0 (n:Nd):Int:=match n.lM[0]? with | some e=>e.to | none=>0
structure DC where
 k:Int
 n:Int
 s:ByteArray
theorem xA (s:ByteArray) (n:Nat) (h:s.size<=1099511627776):tx (s.extract n (s.size:Int).toNat)=(tx s).drop n:=by
 simp [tx,mr];exact List.take_of_length_le (by rw [List.length_drop];have:=bf s;unfold tx at this;omega)
theorem me (s:ByteArray):s=⟨#[]⟩↔tx s=[]:=⟨fun h=>by rw [h];rfl,fun h=>by rw [<- D1 s,h]⟩
def iS (c:Nat):Nat:=if 48<=c/\c<=57 then c - 48 else if 97<=c/\c<=102 then c - 87 else if 65<=c/\c<=70 then c - 55 else 16
def im (l:List UInt8):Nat:=l.foldl (fun n c=>n * 16 + iS c.toNat) 0
def s6 (l:List UInt8):Bool:=l.all fun c=>decide (iS c.toNat < 16)
def iq (l:List UInt8):Bool:=!l.isEmpty && s6 l
def scaP:List UInt8->List UInt8 × Nat
 | []=>([],0)
 | c :: t=>if c.toNat=123/\t.idxOf 125 < t.length/\t.idxOf 125<=6/\iq (t.take (t.idxOf 125))=true then (zC (im (t.take (t.idxOf 125))),t.idxOf 125 + 2) else ([],0)
def oneE (q:List UInt8):List UInt8 × Nat:=
 match q with
 | []=>([],0)
 | [_]=>([],0)
 | b :: c :: r=>
  if b.toNat≠92 then ([],0) else if c.toNat=34∨c.toNat=92 then ([c],2) else if c.toNat=116 then ([9],2) else if c.toNat=110 then ([10],2) else if c.toNat=114 then ([13],2)
  else if c.toNat=120 then (if 2<=r.length/\iq (r.take 2)=true then ([UInt8.ofNat (im (r.take 2))],4) else ([],0))
  else if c.toNat=117 then (if (scaP r).1=[] then ([],0) else ((scaP r).1,2 + (scaP r).2)) else ([],0)
theorem IG (c:Nat):iS c<=16:=by unfold iS;split<;>(try split)<;>(try split)<;>omega
theorem vO {l:List UInt8} {e:Nat} {c:UInt8} (h:l[e]? = some c):im (l.take (e + 1))=im (l.take e) * 16 + iS c.toNat:=by
 rw [im,List.take_add_one,h,List.foldl_append];rfl
theorem vP {l:List UInt8} {e:Nat} {c:UInt8} (h:l[e]? = some c):s6 (l.take (e + 1))=(s6 (l.take e) && decide (iS c.toNat < 16)):=by
 rw [s6,List.take_add_one,h,List.all_append];simp [s6]
theorem IH {l:List UInt8} {c:UInt8} (h:c∈l) (hd:¬ iS c.toNat < 16):s6 l=false:=by
 rw [s6,List.all_eq_false];exact ⟨c,h,by simpa using hd⟩
theorem Ee:∀ l:List UInt8,s6 l=true->im l < 16 ^ l.length:=by
 intro l;rw [<- List.take_of_length_le (bn l.length)]
 have:∀ k,k<=l.length->s6 (l.take k)=true->im (l.take k) < 16 ^ k:=by
  intro k
  induction k with
  | zero=>intro _ _;simp [im]
  | succ k ih=>
   intro hk h;obtain ⟨c,hc⟩:∃ c,l[k]? = some c:=⟨_,gE (by omega)⟩;rw [vP hc,aZ,decide_eq_true_iff] at h
   grind [vO]
 grind
theorem hexN_6 {l:List UInt8} (h:s6 l=true) (hl:l.length<=6):im l < 16777216:=by
 have:=Ee l h;have:16 ^ l.length<=16 ^ 6:=Nat.pow_le_pow_right (by decide) hl;omega
theorem Cx (c:Nat) (hc:c < 256):cw prog 362 [.v (.int .u8 c)] (.v (.int .u32 (iS c:Nat))):=by
 have e1:∀ z:Int,DV.v (Value.int .u32 z) = .v (.int .u32 (iS c:Nat))↔z=(iS c:Nat):=by simp
 unfold iS at e1;unfold iS;refine eG 35 [.tmp 2] func362 rfl ntmps362 rfl fun _ _ _ _=>?_;refine br ?_ ?_<;>intro g
 ·have g:48<=c/\c<=57:=by simp [aC] at g;omega
  refine (e1 _).2 ?_;rw [aj g];simp only [IntKind.wrap_u8',IntKind.wrap_u32'];omega
 have g1:¬ (48<=c/\c<=57):=by simp [aC] at g;omega
 refine br ?_ ?_<;>intro g
 ·have g:97<=c/\c<=102:=by simp [aC] at g;omega
  refine (e1 _).2 ?_;rw [af g1,aj g];simp only [IntKind.wrap_u8',IntKind.wrap_u32'];omega
 have g2:¬ (97<=c/\c<=102):=by simp [aC] at g;omega
 refine br ?_ ?_<;>intro g
 ·have g:65<=c/\c<=70:=by simp [aC] at g;omega
  refine (e1 _).2 ?_;rw [af g1,af g2,aj g];simp only [IntKind.wrap_u8',IntKind.wrap_u32'];omega
 have g3:¬ (65<=c/\c<=70):=by simp [aC] at g;omega
 rw [af g1,af g2,af g3];exact (rfl:_=_)
abbrev II (l:List UInt8):DV:=.cp [.v (.int .u32 (if iq l=true then im l else 0:Nat)),.v (.bool (iq l))]
abbrev OX (s:ByteArray) (n:Int) (e:Nat):St:=⟨[(0,⟨[],.v (.string s)⟩),(4,⟨[],.v (.int .u32 n)⟩),bQ 8 s.size,bQ 9 e],[],[]⟩
theorem mN (s:ByteArray) (hs:s.size<=6):cw prog 354 [.v (.string s)] (II (tx s)):=by
 refine eG 26 [.tmp 2,.tmp 3] func354 rfl ntmps354 rfl fun _ _ _ _=>?_;refine lI (fun j st=>∃ e:Nat,st=OX s (im ((tx s).take e):Nat) e/\e<=s.size/\s6 ((tx s).take e)=true/\j=s.size - e) ⟨0,rfl,by omega,rfl,rfl⟩ (fC wB) ?_;rintro j st ⟨e,rfl,he,hA,rfl⟩;have MW:=hexN_6 hA (by rw [zLenT,bf];omega);refine br ?_ ?_<;>intro h
 ·have aS:e < s.size:=sU h;obtain ⟨c,ep,hb⟩:=bp aS
  have Ld:(tx s)[e]? = some c:=by
   have:=congrArg List.head? ep
   rwa [List.head?_drop,List.head?_cons] at this
  have mF:aE s (e:Int).toNat=c.toNat:=hb;have fB:=c.toNat_lt;have Xo:=Cx c.toNat (by omega);have MJ:=IG c.toNat;have vt:=vO Ld;have TH:=vP Ld;rw [hA,Bool.true_and] at TH;refine ⟨⟨by omega,by omega⟩,?_⟩;rw [<- mF] at Xo;refine cP Ry Xo ?_;rw [mF];refine br ?_ ?_<;>intro g
  ·have g:¬ iS c.toNat < 16:=by have:=of_decide_eq_true g;omega
   have hF:iq (tx s)=false:=by rw [iq,IH (mG Ld) g,Bool.and_false]
   have e0:II (tx s) = .cp [.v (.int .u32 0),.v (.bool false)]:=by rw [II,hF];all_goals rfl
   exact ⟨_,ax,e0.symm⟩
  ·have g:iS c.toNat < 16:=by have:=of_decide_eq_false g;omega
   rw [decide_eq_true g] at TH;have hn7:=hexN_6 TH (by rw [zLenT,bf];omega)
   have hw:IntKind.u32.wrap (IntKind.u32.wrap ((im ((tx s).take e):Nat) * 16) + (iS c.toNat:Nat))=(im ((tx s).take (e + 1)):Nat):=by
    rw [IntKind.wrap_u32',IntKind.wrap_u32'];omega
   exact rE ⟨_,by omega,e + 1,rfl,by omega,TH,rfl⟩ (fC (yb (gy aS (by omega)) hw))
 ·have hge:e=s.size:=by simp at h;omega
  subst hge;rw [List.take_of_length_le (by rw [bf];exact bn _)] at hA ⊢;by_cases h0:tx s=[]
  ·have uE:=(me s).2 h0;subst uE;exact ⟨_,ax,rfl⟩
  ·have hB:iq (tx s)=true:=by grind [iq,tx]
   have hn:¬ s=⟨#[]⟩:=fun h=>h0 ((me s).1 h);have hX:DV.v (.bool (!decide (s=⟨#[]⟩))) = .v (.bool (iq (tx s))):=by rw [hB,decide_eq_false hn];all_goals rfl
   have hY:DV.v (.int .u32 (im (tx s):Nat)) = .v (.int .u32 (if iq (tx s)=true then im (tx s) else 0:Nat)):=by rw [hB];all_goals rfl
   exact ⟨_,(by repeat' (first | exact rfl | exact trivial | exact Or.inr (Or.inl ⟨_,rfl⟩) | exact Or.inr ⟨_,rfl⟩ | exact Or.inl ⟨rfl,rfl⟩ | exact Or.inl rfl | refine Or.inr ⟨_,_,rfl,Nat.zero_le _,rfl,?_⟩ | refine ⟨_,_,rfl,?_,?_⟩ | refine ⟨_,rfl,?_⟩ | exact hX | exact hY | refine Or.inr (Or.inr (Or.inr ⟨_,_,rfl,?_⟩)) | exact Or.inl rfl | refine Or.inr ?_)),rfl⟩
theorem Cy (z:Int):cw prog 364 [.v (.int .i32 z)] (.v (.bool (vB z))):=by
 refine eG 17 [.tmp 2] func364 rfl ntmps364 rfl fun _ _ _ _=>?_;refine (dA ?_:);simp only [aC,aG,vB]
theorem Le {a b m:Nat} (k:Nat) (hk:a=2 ^ k * m) (hb:b < 2 ^ k) (ha:a < 256) (jr:b < 256) (hs:a + b < 256):IntKind.u8.wrap ((BitVec.ofInt IntKind.u8.bits (a:Int) ||| BitVec.ofInt IntKind.u8.bits (b:Int)).toNat:Nat)=((a + b:Nat):Int):=by
 show IntKind.u8.wrap ((BitVec.ofInt 8 (a:Int) ||| BitVec.ofInt 8 (b:Int)).toNat:Nat)=_;have e:∀ x:Nat,x < 256->(BitVec.ofInt 8 (x:Int)).toNat=x:=fun x hx=>by rw [BitVec.toNat_ofInt];omega
 rw [BitVec.toNat_or,e a ha,e b jr,hk,<- Nat.two_pow_add_eq_or_of_lt hb,IntKind.wrap_u8',<- hk];omega
theorem Sn {n:Nat} (hn:n<=1114111):IntKind.i32.wrap ((BitVec.ofInt IntKind.i32.bits (n:Int) &&& BitVec.ofInt IntKind.i32.bits 63).toNat:Nat)=((n % 64:Nat):Int):=by
 show IntKind.i32.wrap ((BitVec.ofInt 32 (n:Int) &&& BitVec.ofInt 32 63).toNat:Nat)=_;rw [BitVec.toNat_and,Ik (by omega),show (BitVec.ofInt 32 63).toNat=2 ^ 6 - 1 from rfl,Nat.and_two_pow_sub_one_eq_mod];exact zB (by omega) (by omega)
theorem kC (n:Nat) (hn:n<=1114111):cw prog 365 [.v (.int .i32 n)] (.v (.int .u8 (128 + n % 64:Nat))):=by
 refine eG 7 [.tmp 2] func365 rfl ntmps365 rfl fun _ _ _ _=>?_;refine (congrArg (fun z=>DV.v (.int .u8 z)) ?_:_=_);have h1:=Sn hn;have h2:IntKind.u8.wrap ((n % 64:Nat):Int)=((n % 64:Nat):Int):=by rw [IntKind.wrap_u8'];omega
 have h3:=Le (a:=128) (b:=n % 64) (m:=2) 6 rfl (by omega) (by omega) (by omega) (by omega);rw [h1,h2];exact h3
theorem FX (z:Int):cw prog 363 [.v (.int .i32 z)] (.v (.string (ba (zC z)))):=by
 have hs:=Cy z;have hE:zC z=if vB z=true then FN z.toNat else []:=rfl
 have hB:vB z=(decide (0<=z) && decide (z<=1114111) && (decide (z < 55296) || decide (57343 < z))):=rfl;generalize zC z=E at hE ⊢;generalize vB z=B at hs hE hB;refine eG 53 [.tmp 2] func363 rfl ntmps363 rfl fun _ _ _ _=>?_;refine cP RA hs ?_
 cases B with
 | false=>
  rw [af (by simp)] at hE;subst hE;exact (rfl:_=_)
 | true=>
  rw [aj rfl] at hE;have hB:=hB.symm;simp at hB;obtain ⟨n,Sp⟩:∃ n:Nat,z=n:=⟨z.toNat,by omega⟩;have hzt:z.toNat=n:=by omega
  rw [hzt] at hE;have hn:n<=1114111:=by omega
  unfold FN at hE;refine br ?_ ?_<;>intro c
  ·have c:n < 128:=by have:=of_decide_eq_true c;omega
   rw [aj c] at hE;refine ⟨[UInt8.ofNat (n)],?_,?_⟩
   ·rw [Sp];grind [u8L,b8]
   ·rw [hE];exact (rfl:_=_)
  have c1:¬ n < 128:=by have:=of_decide_eq_false c;omega
  rw [af c1] at hE
  have h6:z.fdiv (2 ^ min (Int.toNat 6) IntKind.i32.bits)=((n / 64:Nat):Int):=by
   rw [Sp,Int.fdiv_eq_ediv_of_nonneg _ (by decide)];all_goals rfl
  have Xp:z.fdiv (2 ^ min (Int.toNat 12) IntKind.i32.bits)=((n / 4096:Nat):Int):=by
   rw [Sp,Int.fdiv_eq_ediv_of_nonneg _ (by decide)];all_goals rfl
  have h18:z.fdiv (2 ^ min (Int.toNat 18) IntKind.i32.bits)=((n / 262144:Nat):Int):=by
   rw [Sp,Int.fdiv_eq_ediv_of_nonneg _ (by decide)];all_goals rfl
  have w8:∀ k:Nat,k < 256->IntKind.u8.wrap ((k:Nat):Int)=((k:Nat):Int):=fun k hk=>by rw [IntKind.wrap_u8'];omega
  have hf:=kC n hn;rw [<- Sp] at hf;have Vz:=kC (n / 64) (by omega);have Sq:=kC (n / 4096) (by omega);rw [<- h6] at Vz;rw [<- Xp] at Sq;have tn:∀ k:Nat,k < 256->(UInt8.ofNat k).toNat=k:=fun k hk=>by rw [UInt8.toNat_ofNat'];omega
  refine br ?_ ?_<;>intro c
  ·have c:n < 2048:=by have:=of_decide_eq_true c;omega
   rw [aj c] at hE;refine ⟨by omega,?_⟩;refine cP vi hf ?_;refine ⟨[UInt8.ofNat (192 + n / 64),UInt8.ofNat (128 + n % 64)],?_,?_⟩
   ·have:=Le (a:=192) (b:=n / 64) (m:=3) 6 rfl (by omega) (by omega) (by omega) (by omega);rw [h6,w8 (n / 64) (by omega)];simp only [u8L,List.map_cons,List.map_nil,tn _ (show 192 + n / 64 < 256 by omega),tn _ (show 128 + n % 64 < 256 by omega),List.flatten_cons,List.flatten_nil,List.append_nil,List.cons_append,List.nil_append];exact congrArg (fun z=>[DV.v (.int .u8 z),.v (.int .u8 ((128 + n % 64:Nat):Int))]) this
   ·rw [hE];exact (rfl:_=_)
  have c2:¬ n < 2048:=by have:=of_decide_eq_false c;omega
  rw [af c2] at hE;refine br ?_ ?_<;>intro c
  ·have c:n < 65536:=by have:=of_decide_eq_true c;omega
   rw [aj c] at hE;refine ⟨by omega,?_⟩;refine ⟨by omega,?_⟩;refine cP vi Vz ?_;refine cP vi hf ?_;refine ⟨[UInt8.ofNat (224 + n / 4096),UInt8.ofNat (128 + n / 64 % 64),UInt8.ofNat (128 + n % 64)],?_,?_⟩
   ·have:=Le (a:=224) (b:=n / 4096) (m:=7) 5 rfl (by omega) (by omega) (by omega) (by omega);rw [Xp,w8 (n / 4096) (by omega)];simp only [u8L,List.map_cons,List.map_nil,tn _ (show 224 + n / 4096 < 256 by omega),tn _ (show 128 + n / 64 % 64 < 256 by omega),tn _ (show 128 + n % 64 < 256 by omega),List.flatten_cons,List.flatten_nil,List.append_nil,List.cons_append,List.nil_append];exact congrArg (fun z=>[DV.v (.int .u8 z),.v (.int .u8 ((128 + n / 64 % 64:Nat):Int)),.v (.int .u8 ((128 + n % 64:Nat):Int))]) this
   ·rw [hE];exact (rfl:_=_)
  have c3:¬ n < 65536:=by have:=of_decide_eq_false c;omega
  rw [af c3] at hE;refine ⟨by omega,?_⟩;refine ⟨by omega,?_⟩;refine cP vi Sq ?_;refine ⟨by omega,?_⟩;refine cP vi Vz ?_;refine cP vi hf ?_;refine ⟨[UInt8.ofNat (240 + n / 262144),UInt8.ofNat (128 + n / 4096 % 64),UInt8.ofNat (128 + n / 64 % 64),UInt8.ofNat (128 + n % 64)],?_,?_⟩
  ·have:=Le (a:=240) (b:=n / 262144) (m:=15) 4 rfl (by omega) (by omega) (by omega) (by omega);rw [h18,w8 (n / 262144) (by omega)];simp only [u8L,List.map_cons,List.map_nil,tn _ (show 240 + n / 262144 < 256 by omega),tn _ (show 128 + n / 4096 % 64 < 256 by omega),tn _ (show 128 + n / 64 % 64 < 256 by omega),tn _ (show 128 + n % 64 < 256 by omega),List.flatten_cons,List.flatten_nil,List.append_nil,List.cons_append,List.nil_append];exact congrArg (fun z=>[DV.v (.int .u8 z),.v (.int .u8 ((128 + n / 4096 % 64:Nat):Int)),.v (.int .u8 ((128 + n / 64 % 64:Nat):Int)),.v (.int .u8 ((128 + n % 64:Nat):Int))]) this
  ·rw [hE];exact (rfl:_=_)
theorem xB:cw prog 348 [] (.sl 2 FP none):=by
 refine eG 4 [.tmp 0] func348 rfl ntmps348 rfl fun _ _ _ _=>?_;exact ⟨_,ax,rfl⟩
theorem FY:cw prog 349 [] (.sl 2 vD none):=by
 refine eG 6 [.tmp 0] func349 rfl ntmps349 rfl fun _ _ _ _=>?_;exact ⟨_,ax,rfl⟩
theorem zQ:cw prog 350 [] (.sl 2 FR none):=by
 refine eG 19 [.tmp 0] func350 rfl ntmps350 rfl fun _ _ _ _=>?_;exact ⟨_,ax,rfl⟩
theorem s7:cw prog 351 [] (.sl 2 FQ none):=by
 refine eG 3 [.tmp 0] func351 rfl ntmps351 rfl fun _ _ _ _=>?_;exact ⟨_,ax,rfl⟩
theorem oF (es:List (List DV)) (z:Int) (hl:es.length<=1000) (hs:es.all spB=true) (m:Int) (ho:srtB m es=true):cw prog 347 [.sl 2 es none,.v (.int .i32 z)] (.v (.bool (es.any (qV z)))):=
 (KV es z hl hs).mono fun d _ _ ⟨b,h1,h2⟩=>by rw [h1,h2 m ho]
theorem qC (z:Int):cw prog 289 [.v (.int .i32 z)] (.v (.bool (kW z))):=by
 have hk:Ev prog 331 [.v (.int .i32 z)] [] [] (fun d _ _=>∃ k:Int,d = .v (.int .i64 k)/\(!decide (k=0))=kW z):=by
  have h1:=oF FP z (by decide) (by decide) (-1) (by decide);have h2:=oF vD z (by decide) (by decide) (-1) (by decide);have h3:=oF FR z (by decide) (by decide) (-1) (by decide);have h4:=oF FQ z (by decide) (by decide) (-1) (by decide);have hB:kW z=(((FP.any (qV z) || vD.any (qV z)) || FR.any (qV z)) || FQ.any (qV z)):=rfl;rw [hB];generalize FP.any (qV z)=b1 at h1;generalize vD.any (qV z)=b2 at h2;generalize FR.any (qV z)=b3 at h3;generalize FQ.any (qV z)=b4 at h4;generalize Uh:FP=T1 at h1;generalize TI:vD=T2 at h2;generalize hT3:FR=T3 at h3;generalize hT4:FQ=T4 at h4;have c1:=xB;have c2:=FY;have c3:=zQ;have c4:=s7;rw [Uh] at c1;rw [TI] at c2;rw [hT3] at c3;rw [hT4] at c4;refine eG 19 [.tmp 2] func331 rfl ntmps331 rfl fun _ _ _ _=>?_;refine cP Rp c1 ?_;refine cP DR h1 ?_
  cases b1 with
  | true=>exact ⟨_,rfl,rfl⟩
  | false=>
  refine cP Rq c2 ?_;refine cP DR h2 ?_
  cases b2 with
  | true=>exact ⟨_,rfl,rfl⟩
  | false=>
  refine cP Rr c3 ?_;refine cP DR h3 ?_
  cases b3 with
  | true=>exact ⟨_,rfl,rfl⟩
  | false=>
  refine cP Rs c4 ?_;refine cP DR h4 ?_
  cases b4 with
  | true=>exact ⟨_,rfl,rfl⟩
  | false=>exact ⟨_,rfl,rfl⟩
 refine eG 6 [.tmp 2] func289 rfl ntmps289 rfl fun _ _ _ _=>?_;refine jt Rn rfl hk ax (fun q hq=>?_);obtain ⟨k,rfl,hk⟩:=hq;refine (dA ?_:);exact hk
theorem zR (l:List UInt8) (c:UInt8):Lib.indexByte l c=if l.idxOf c < l.length then (l.idxOf c:Int) else -1:=by
 induction l with
 | nil=>rfl
 | cons b l ih=>
  unfold Lib.indexByte
  grind
abbrev VA (p:List UInt8 × Nat):DV:=.cp [.v (.string (ba p.1)),.v (.int .i64 p.2)]
theorem zS (s:ByteArray) (hs:s.size<=1099511627776):cw prog 355 [.v (.string s)] (VA (scaP (tx s))):=by
 have hx:=zA s 125;have hi:=zR (tx s) 125;have e1:(125:Int).toNat.toUInt8=125:=rfl;rw [e1] at hx;generalize Lib.indexByte (tx s) 125=I at hx hi;refine eG 38 [.tmp 2,.tmp 3] func355 rfl ntmps355 rfl fun _ _ _ _=>?_;refine cP MC hx ?_;have ja:=bf s
 cases OY:tx s with
 | nil=>
  have uE:=(me s).2 OY;refine br (fun g=>absurd uE (sU g)) (fun _=>?_);exact ⟨_,ax,rfl⟩
 | cons c t=>
  rw [OY,List.length_cons] at ja;have uE:¬ s=⟨#[]⟩:=fun h=>by rw [(me s).1 h] at OY;cases OY
  have mF:aE s (0:Int).toNat=c.toNat:=sO (s:=s) OY (z:=0) 0 rfl;have MX:¬ (c.toNat=123/\t.idxOf 125 < t.length/\t.idxOf 125<=6/\iq (t.take (t.idxOf 125))=true)->scaP (c :: t)=([],0):=fun h=>by rw [scaP,af h]
  refine br (fun _=>?_) (fun g=>absurd (sU g) uE);refine ⟨⟨by omega,by omega⟩,?_⟩;rw [mF]
  have Xq:c.toNat=123->(c == 125)=false:=fun h=>by
   apply beq_eq_false_iff_ne.2;intro h';rw [h'] at h;cases h
  rw [OY,List.idxOf_cons,List.length_cons] at hi;refine br ?_ ?_<;>intro g
  ·rw [MX (fun ⟨h1,h2,h3,_⟩=>by
    rw [Xq h1] at hi;simp only [cond_false] at hi;rw [aj (by omega)] at hi;simp [aG,h1] at g
    omega)]
   exact ⟨_,ax,rfl⟩
  have g2:c.toNat=123/\0<=I/\I<=7:=by
   simp [aG] at g;omega
  obtain ⟨hc,hI0,hI7⟩:=g2;rw [Xq hc] at hi;simp only [cond_false] at hi
  have hk:t.idxOf 125 < t.length:=by
   rcases Nat.lt_or_ge (t.idxOf 125) t.length with h | h
   ·exact h
   ·rw [af (by omega)] at hi;omega
  rw [aj (by omega)] at hi;have hS:scaP (c :: t)=if c.toNat=123/\t.idxOf 125 < t.length/\t.idxOf 125<=6/\iq (t.take (t.idxOf 125))=true then (zC (im (t.take (t.idxOf 125))),t.idxOf 125 + 2) else ([],0):=rfl
  generalize scaP (c :: t)=S at hS ⊢;generalize t.idxOf 125=k at hi hk MX hS;have hk6:k<=6:=by omega
  refine ⟨⟨by omega,by omega,by omega⟩,?_⟩
  have s8:tx (s.extract (1:Int).toNat I.toNat)=t.take k:=by
   have e2:I.toNat=k + 1:=by omega
   rw [e2];have:tx (s.extract 1 (k + 1))=((tx s).take (k + 1)).drop 1:=by simp [tx,List.drop_take]
   rw [show (1:Int).toNat=1 from rfl,this,OY];simp
  have kD:=mN (s.extract (1:Int).toNat I.toNat) (by
   have:=congrArg List.length s8;rw [bf,zLenT] at this
   omega)
  rw [s8] at kD;have MW:iq (t.take k)=true->im (t.take k) < 16777216:=fun h=>hexN_6 (by rw [iq,aZ] at h;exact h.2) (by rw [zLenT];omega);have VB:II (t.take k) = .cp [.v (.int .u32 (if iq (t.take k)=true then im (t.take k) else 0:Nat)),.v (.bool (iq (t.take k)))]:=rfl;rw [VB] at kD;generalize iq (t.take k)=B at kD MW hS;generalize im (t.take k)=N at kD MW hS;generalize s.extract (1:Int).toNat I.toNat=X at kD ⊢
  cases B with
  | false=>
   rw [af (fun h=>by simpa using h.2.2.2)] at hS;rw [af (by simp)] at kD;subst hS;refine cP DS kD ?_;exact ⟨_,ax,rfl⟩
  | true=>
   rw [aj ⟨hc,hk,hk6,rfl⟩] at hS;rw [aj rfl] at kD;subst hS;have hN:=MW rfl;have hw:IntKind.i32.wrap ((N:Nat):Int)=((N:Nat):Int):=zB (by omega) (by omega)
   have he:cw prog 363 [.v (.int .i32 (IntKind.i32.wrap ((N:Nat):Int)))] (.v (.string (ba (zC (N:Nat))))):=by
    rw [hw];exact FX (N:Nat)
   have kQ:IntKind.i64.wrap (I + 1)=((k + 2:Nat):Int):=by rw [wrap64 (by omega) (by omega)];omega
   refine cP DS kD ?_;refine cP Rz he ?_;have hX:=congrArg (fun z=>DV.v (.int .i64 z)) kQ;exact ⟨_,(by repeat' (first | exact rfl | exact trivial | exact Or.inr (Or.inl ⟨_,rfl⟩) | exact Or.inr ⟨_,rfl⟩ | exact Or.inl ⟨rfl,rfl⟩ | exact Or.inl rfl | refine Or.inr ⟨_,_,rfl,Nat.zero_le _,rfl,?_⟩ | refine ⟨_,_,rfl,?_,?_⟩ | refine ⟨_,rfl,?_⟩ | exact hX | refine Or.inr (Or.inr (Or.inr ⟨_,_,rfl,?_⟩)) | exact Or.inl rfl | refine Or.inr ?_)),rfl⟩
abbrev VC (p:List UInt8 × Nat):DV:=.cp [.v (.string (ba p.1)),.v (.int .i64 p.2),.v (.bool (decide (p.2≠0)))]
set_option maxHeartbeats 2000000 in
theorem zT (s:ByteArray) (hs:s.size<=1099511627776) (i:Nat) (hi:i < s.size):cw prog 336 [.v (.string s),.v (.int .i64 i)] (VC (oneE ((tx s).drop i))):=by
 have ja:=bf s;obtain ⟨b,ep,hb⟩:=bp hi;have ep:(tx s).drop i=b :: (tx s).drop (i + 1):=ep;rw [ep];have DY:IntKind.i64.wrap ((i:Int) + 1)=((i + 1:Nat):Int):=gy hi (by omega);have kQ:IntKind.i64.wrap ((i:Int) + 2)=((i + 2:Nat):Int):=by rw [wrap64 (by omega) (by omega)];omega
 have x9:IntKind.i64.wrap ((s.size:Int) - 2)=(s.size:Int) - 2:=wrap64 (by omega) (by omega);have mF:aE s (i:Int).toNat=b.toNat:=hb;by_cases h2:i + 1 < s.size
 rotate_left
 ·have R4:(tx s).drop (i + 1)=[]:=List.drop_eq_nil_of_le (by omega);rw [R4];refine eG 78 [.tmp 4,.tmp 5,.tmp 6] func336 rfl ntmps336 rfl fun _ _ _ _=>?_;refine br (fun g=>?_) (fun _=>?_)
  ·exfalso;rw [x9] at g;simp [aG] at g;omega
  exact ⟨_,ax,rfl⟩
 obtain ⟨c,mA,hc⟩:=bp h2;have mA:(tx s).drop (i + 1)=c :: (tx s).drop (i + 2):=mA;rw [mA];have Ld:aE s (IntKind.i64.wrap ((i:Int) + 1)).toNat=c.toNat:=by rw [DY];exact hc
 have s8:tx (s.extract (IntKind.i64.wrap ((i:Int) + 2)).toNat (s.size:Int).toNat)=(tx s).drop (i + 2):=by rw [kQ];exact xA s (i + 2) hs
 have GJ:(s.extract (IntKind.i64.wrap ((i:Int) + 2)).toNat (s.size:Int).toNat).size=s.size - (i + 2):=by
  have:=congrArg List.length s8;rw [bf,List.length_drop,ja] at this;exact this
 have qg:=zS (s.extract (IntKind.i64.wrap ((i:Int) + 2)).toNat (s.size:Int).toNat) (by omega);rw [s8] at qg;generalize (tx s).drop (i + 2)=r at s8 qg ⊢;have kS:r.length=s.size - (i + 2):=by rw [<- s8,bf];exact GJ
 generalize hRR:s.extract (IntKind.i64.wrap ((i:Int) + 2)).toNat (s.size:Int).toNat=R at s8 qg GJ
 have hO:oneE (b :: c :: r)=if b.toNat≠92 then ([],0) else if c.toNat=34∨c.toNat=92 then ([c],2) else if c.toNat=116 then ([9],2) else if c.toNat=110 then ([10],2) else if c.toNat=114 then ([13],2)
  else if c.toNat=120 then (if 2<=r.length/\iq (r.take 2)=true then ([UInt8.ofNat (im (r.take 2))],4) else ([],0))
  else if c.toNat=117 then (if (scaP r).1=[] then ([],0) else ((scaP r).1,2 + (scaP r).2)) else ([],0):=rfl
 generalize oneE (b :: c :: r)=O at hO ⊢;refine eG 78 [.tmp 4,.tmp 5,.tmp 6] func336 rfl ntmps336 rfl fun _ _ _ _=>?_;refine br (fun _=>?_) (fun g=>?_)
 rotate_left
 ·exfalso;rw [x9] at g;simp [aG] at g;omega
 refine ⟨⟨by omega,by omega⟩,?_⟩;rw [mF];refine br ?_ ?_<;>intro g
 ·rw [aj (by intro h;simp [aG,h] at g)] at hO;subst hO;exact ⟨_,ax,rfl⟩
 have hb92:b.toNat=92:=by simp [aG] at g;omega
 rw [af (by omega)] at hO;refine ⟨⟨by omega,by rw [kQ];omega,by omega⟩,?_⟩;rw [hRR];refine ⟨⟨by rw [DY];omega,by rw [DY];omega⟩,?_⟩;rw [Ld];generalize hz:((c.toNat:Nat):Int)=z;clear Ld;have n5:∀ (y:Int) (k:Nat),y=(k:Nat)->z=y->c.toNat=k:=fun y k h1 h2=>by omega
 refine br ?_ ?_<;>intro g
 ·refine br (fun _=>?_) (fun g'=>absurd (g.symm.trans g') (by decide));have g:c.toNat=34:=n5 _ 34 rfl (of_decide_eq_true g);rw [aj (.inl g)] at hO;subst hO;refine ⟨[c],by rw [<- hz];rfl,?_⟩;exact ⟨_,ax,rfl⟩
 have g1:¬ c.toNat=34:=fun h=>of_decide_eq_false g (by omega);refine br ?_ ?_<;>intro g
 ·have g:c.toNat=92:=n5 _ 92 rfl (of_decide_eq_true g);rw [aj (.inr g)] at hO;subst hO;refine ⟨[c],by rw [<- hz];rfl,?_⟩;exact ⟨_,ax,rfl⟩
 have g2:¬ c.toNat=92:=fun h=>of_decide_eq_false g (by omega);rw [af (by omega)] at hO;refine br ?_ ?_<;>intro g
 ·have g:c.toNat=116:=n5 _ 116 rfl (of_decide_eq_true g);rw [aj g] at hO;subst hO;exact ⟨_,ax,rfl⟩
 have g3:¬ c.toNat=116:=fun h=>of_decide_eq_false g (by omega);rw [af g3] at hO;refine br ?_ ?_<;>intro g
 ·have g:c.toNat=110:=n5 _ 110 rfl (of_decide_eq_true g);rw [aj g] at hO;subst hO;exact ⟨_,ax,rfl⟩
 have g4:¬ c.toNat=110:=fun h=>of_decide_eq_false g (by omega);rw [af g4] at hO;refine br ?_ ?_<;>intro g
 ·have g:c.toNat=114:=n5 _ 114 rfl (of_decide_eq_true g);rw [aj g] at hO;subst hO;exact ⟨_,ax,rfl⟩
 have g5:¬ c.toNat=114:=fun h=>of_decide_eq_false g (by omega);rw [af g5] at hO;refine br ?_ ?_<;>intro g
 ·have g:c.toNat=120:=n5 _ 120 rfl (of_decide_eq_true g);rw [aj g] at hO;refine br ?_ ?_<;>intro g
  ·have g:R.size < 2:=by have:=of_decide_eq_true g;omega
   rw [af (by rw [<- s8,bf];omega)] at hO;subst hO;exact ⟨_,ax,rfl⟩
  have g:¬ R.size < 2:=by have:=of_decide_eq_false g;omega
  refine ⟨⟨by omega,by omega,by omega⟩,?_⟩;have hRl:r.length=R.size:=by rw [<- s8,bf]
  have Xr:tx (R.extract (0:Int).toNat (2:Int).toNat)=r.take 2:=by rw [<- s8];exact D4 R 2
  have kD:=mN (R.extract (0:Int).toNat (2:Int).toNat) (by
   have:=congrArg List.length Xr;rw [bf,zLenT] at this
   omega)
  rw [Xr] at kD
  have MW:iq (r.take 2)=true->im (r.take 2) < 256:=fun h=>by
   have:=Ee (r.take 2) (by rw [iq,aZ] at h;exact h.2);have e:(r.take 2).length=2:=by rw [zLenT];omega
   rw [e] at this;exact this
  have VB:II (r.take 2) = .cp [.v (.int .u32 (if iq (r.take 2)=true then im (r.take 2) else 0:Nat)),.v (.bool (iq (r.take 2)))]:=rfl;rw [VB] at kD;have la:2<=r.length:=by omega
  generalize iq (r.take 2)=B at kD MW hO;generalize im (r.take 2)=N at kD MW hO;generalize R.extract (0:Int).toNat (2:Int).toNat=X at kD
  cases B with
  | false=>
   rw [af (fun h=>by simpa using h.2)] at hO;rw [af (by simp)] at kD;subst hO;refine cP DS kD ?_;exact ⟨_,ax,rfl⟩
  | true=>
   rw [aj ⟨la,rfl⟩] at hO;rw [aj rfl] at kD;subst hO;have hN:=MW rfl;refine cP DS kD ?_;refine ⟨[UInt8.ofNat N],?_,?_⟩
   ·have e1:IntKind.u8.wrap ((N:Nat):Int)=((UInt8.ofNat N).toNat:Int):=b8 rfl hN;exact congrArg (fun z=>[DV.v (.int .u8 z)]) e1
   exact ⟨_,ax,rfl⟩
 have g6:¬ c.toNat=120:=fun h=>of_decide_eq_false g (by omega);rw [af g6] at hO;refine br ?_ ?_<;>intro g
 ·have g:c.toNat=117:=n5 _ 117 rfl (of_decide_eq_true g);rw [aj g] at hO;have fB:r.length<=1099511627776:=by omega
  have Bb:(scaP r).2<=r.length + 2:=by
   unfold scaP;split
   ·simp
   ·split
    ·rename_i h;simp only [List.length_cons];omega
    ·simp
  generalize scaP r=S at hO qg Bb;obtain ⟨S1,S2⟩:=S;refine cP Rw qg ?_;refine br ?_ ?_<;>intro g
  ·have g:S1=[]:=by
    have:=of_decide_eq_true g;have:=congrArg tx this
    rwa [kM] at this
   rw [aj g] at hO;subst hO;exact ⟨_,ax,rfl⟩
  ·have g:¬ S1=[]:=fun h=>of_decide_eq_false g (by rw [h]);rw [af g] at hO;subst hO
   have hw:IntKind.i64.wrap (2 + ((S2:Nat):Int))=((2 + S2:Nat):Int):=by
    simp only at Bb;rw [wrap64 (by omega) (by omega)];omega
   have hX:=congrArg (fun z=>DV.v (.int .i64 z)) hw;have hY:DV.v (.bool true) = .v (.bool (decide (2 + S2≠0))):=by rw [decide_eq_true (show 2 + S2≠0 by omega)]
   exact ⟨_,(by repeat' (first | exact rfl | exact trivial | exact Or.inr (Or.inl ⟨_,rfl⟩) | exact Or.inr ⟨_,rfl⟩ | exact Or.inl ⟨rfl,rfl⟩ | exact Or.inl rfl | refine Or.inr ⟨_,_,rfl,Nat.zero_le _,rfl,?_⟩ | refine ⟨_,_,rfl,?_,?_⟩ | refine ⟨_,rfl,?_⟩ | exact hX | exact hY | refine Or.inr (Or.inr (Or.inr ⟨_,_,rfl,?_⟩)) | exact Or.inl rfl | refine Or.inr ?_)),rfl⟩
 have g7:¬ c.toNat=117:=fun h=>of_decide_eq_false g (by omega);rw [af g7] at hO;subst hO;exact ⟨_,ax,rfl⟩
abbrev IJ (q:List UInt8):DV:=if okU q=false then .cp [.v (.int .i64 0),.v (.int .i64 2)] else if kW (recV (q.take (gA q)))=true then .cp [.v (.int .i64 0),.v (.int .i64 3)] else .cp [.v (.int .i64 (gA q:Nat)),.v (.int .i64 0)]
theorem s9 (s:ByteArray) (hs:s.size<=1099511627776) (i:Nat) (c:UInt8) (r:List UInt8) (h:(tx s).drop i=c :: r):cw prog 337 [.v (.string s),.v (.int .i64 i)] (IJ (c :: r)):=by
 have hu:=pL s i hs c r h;have hP:IJ (c :: r)=if okU (c :: r)=false then .cp [.v (.int .i64 0),.v (.int .i64 2)] else if kW (recV ((c :: r).take (gA (c :: r))))=true then .cp [.v (.int .i64 0),.v (.int .i64 3)] else .cp [.v (.int .i64 (gA (c :: r):Nat)),.v (.int .i64 0)]:=rfl
 have BL:gA (c :: r)=if okU (c :: r)=true then bK c.toNat else 1:=rfl
 rw [BL] at hP;generalize IJ (c :: r)=P at hP ⊢;generalize okU (c :: r)=ok at hu hP;refine eG 23 [.tmp 4,.tmp 5] func337 rfl ntmps337 rfl fun _ _ _ _=>?_;refine jt HG rfl hu ax (fun q hq=>?_);obtain ⟨z,n,rfl,hn,hp⟩:=hq
 cases ok with
 | false=>
  rw [aj rfl] at hP;subst hP;exact ⟨_,ax,rfl⟩
 | true=>
  obtain ⟨rfl,rfl⟩:=hn rfl;rw [af (by simp),aj rfl] at hP;have BL:=qC (recV ((c :: r).take (bK c.toNat)));generalize recV ((c :: r).take (bK c.toNat))=Z at hP BL;generalize bK c.toNat=N at hP;generalize kW Z=B at BL hP;refine cP Mz BL ?_
  cases B with
  | true=>
   rw [aj rfl] at hP;subst hP;exact ⟨_,ax,rfl⟩
  | false=>
   rw [af (by simp)] at hP;subst hP;exact ⟨_,ax,rfl⟩
theorem Lf (b:Nat) (p:Value) (w:World) (qw:w.heap[b]? = some (.cells #[p,.slice none 0 0] 113 (0,0))) :
  Calls prog 60 #[.pointer (some ⟨b,0,none⟩)] w fun e w'=>e = .returned (.string ⟨#[]⟩)/\w'=w.drew:=by
 have c1:w.drew.cell? ⟨b,1,none⟩=some (.slice none 0 0):=by
  have:w.drew.heap[b]? = some (.cells #[p,.slice none 0 0] 113 (0,0)):=qw;rw [Lib.cell_of_heap this];all_goals rfl
 have hSD:(Builtin.unsafeSliceData_ #[111] 199 #[.slice none 0 0]).run prog w.drew = .ok (.pointer none) w.drew:=
  Lib.run_unsafeSliceData_nil _ _ _ _ _
 have hUS:(Builtin.unsafeString_ #[199,3] 9 #[.pointer none,.int .i64 0]).run prog w.drew = .ok (.string ⟨#[]⟩) w.drew:=
  Lib.run_unsafeString_none w.drew 199 3 9 none
 have mixed:=mo
 go_enter func60,ntmps60
 go_wp2
 go_region_o
 all_goals (go_wp2;go_ret;exact ⟨rfl,rfl⟩)
end Go.Proofs.YtfdedoiiahbnnaaGreat
set_option maxRecDepth 100000
namespace Go.Proofs.YtfdedoiiahbnnaaGreat
open Go Go.RowKit Go.Lib Dv Go.Proofs.Tryz
theorem Cz {X:Ctx} {E:En} {st:St} {a:Act} {w:World} (h:Rel X E st a w) (bV:X.still=false) {g n:Nat} (hb:g ∉ E.β) (ht:∀ y∈E.τ,y.ownBlock≠some g) (wZ:X.w0.heap.size<=g∨X.E0.S g):Rel X E st a (w.drew.freeze ⟨g,0,none⟩ n):=by
 obtain ⟨k1,k2,k3,k4⟩:=oD (w:=w.drew) (g:=g) (n:=n);have hh:∀ j,j≠g->(w.drew.freeze ⟨g,0,none⟩ n).heap[j]? = w.heap[j]?:=fun j hj=>oC hj
 exact {
  env:={
   len:=h.env.len
   tl:=h.env.tl
   dQ:=fun i cs hi=>by
    obtain ⟨b,ty,arr,h1,h2,h3⟩:=h.env.dQ i cs hi;exact ⟨b,ty,arr,h1,by rw [hh b (fun e=>hb (e ▸ mG h1))];exact h2,h3⟩
   inj:=h.env.inj
   sub:=fun x v hx=>by rw [qz];exact h.env.sub x v hx
   pc:=h.env.pc
   cN:=fun k q y hq hy=>by
    rcases h.env.cN k q y hq hy with h1 | ⟨g',cap,cur,rfl,h1,h2,h3,h4,h5,h6⟩
    ·exact .inl h1
    ·refine .inr ⟨g',cap,cur,rfl,?_,h2,h3,h4,h5,h6⟩;rw [hh g' (fun e=>ht _ (mG hy) (by rw [e];rfl))];exact h1
   gC:=h.env.gC }
  tk:=h.tk
  sz:=h.sz
  tm:=h.tm
  df:=h.df
  nw:=h.nw
  fr:=h.fr.ct k1 k2 k3 (by rw [k4];exact bn _) fun j hj=>by
   by_cases Sa:j=g
   ·left;subst Sa;rcases wZ with h0 | h0
    ·exact .inr h0
    ·exact .inl h0
   ·right;exact hh j Sa
  sh:=my bV
  bt:=fun p hp b Hl=>by
   obtain ⟨cs,cr⟩:=h.bt p hp b Hl
   exact ⟨cs,by rw [hh b (fun e=>hb (e ▸ mG Hl))];exact cr⟩ }
theorem IK {X:Ctx} {st:St} {k:List It} (st':St) (hP:X.P=prog) {i kt d:Nat} {p:DV} {l:List UInt8} (hbt:(i,113)∈X.bt) (kT:st.bx[i]? = some [p,.sl 1 (bD l) (some kt)])
  (hl:l ≠ []) (fl:st.tk[kt]? = some ⟨l.length,5,1,none⟩) (rF:X.n0<=i) (oW:X.m0<=kt) (oX:st'.tk=st.tk.take kt) (Ti:WeLL i kt (st.tk.take kt) (st.bx.take i) st'.bx) (JU:jJ i kt (st.tk.take kt) st.sl st'.sl)
  (hd:eZ X.nt st'.sl (some d)=true)
  (hk:go X 4000 k ⟨(d,⟨[],.v (.string ⟨l.toArray⟩)⟩) :: st'.sl,st'.bx,st'.tk⟩) (bV:X.still=false:=by exact rfl):CallG X 60 [.loc i 0] (some d) k st:=by
 refine ⟨?_,bV,fun E a w vs h hv=>?_⟩
 ·rw [hP];exact Oi
 rw [hP];simp only [RvL] at hv;obtain ⟨v1,vr,rfl,h1,rfl⟩:=hv;unfold Rv at h1;obtain ⟨b,hb,rfl⟩:=h1;obtain ⟨b',ty,arr,dZ,hw,rR⟩:=h.env.dQ i _ kT;rw [hb] at dZ;simp only [oI] at dZ;subst dZ;obtain ⟨Kz,nC⟩:=h.bt _ hbt b hb;rw [hw] at nC;simp only [oI,Obj.cells.injEq] at nC;have E9:ty=113:=nC.2.1;subst E9;obtain ⟨hr,ho⟩:=rR;simp only [RvL] at hr;obtain ⟨pv,r1,rfl,PU,cv,r2,rfl,GP,rfl⟩:=hr;obtain ⟨g,cap,cur,rfl,hg,uC,hcm,cr,htake,PB,hτ⟩:=Cq h hl fl GP;refine (Iu b g cap pv l cur w hl hw hg uC hcm cr htake).mono ?_;rintro e w' ⟨rfl,rfl⟩;have RG:=(gS kT).1;have Qt:=(gS fl).1;have e1:(st.bx.take i).length=i:=by rw [zLenT];omega
 have e2:(st.tk.take kt).length=kt:=by rw [zLenT];omega
 have hr:=pu (st':=st') h (kept:=st.tk.take kt) (dropped:=st.tk.drop kt) (new:=[]) (b0:=st.bx.take i) (r:=st.bx.drop i) ⟨by omega,by omega,by simp,by simpa using oX,by simp,by simp,by rw [e1,e2,oX];exact Ti,by rw [e1,e2,oX];exact JU⟩;rw [e1] at hr;have wZ:X.w0.heap.size<=g:=h.nw.tn kt _ g (by rw [X.oW];exact oW) hτ rfl
 have hf:=Cz (g:=g) (n:=l.length) hr bV (fun hm=>PB (List.mem_of_mem_take hm)) (fun y hy=>by
  simp only [En.wk,List.length_nil,List.replicate_zero,List.append_nil] at hy;obtain ⟨j,hj⟩:=List.mem_iff_getElem?.1 hy;rw [cC] at hj;split at hj
  ·rename_i aS;exact fun hc=>h.env.gC j kt y _ g (by omega) hj hτ hc rfl
  ·cases hj) (.inl wZ)
 exact go_sound 4000 _ _ hk _ _ _ (bF hf hd (.v (.string ⟨l.toArray⟩)) _ (by unfold Rv;exact ⟨rfl,rfl⟩))
theorem FZ {X:Ctx} {st:St} {k:List It} (hP:X.P=prog) {i d:Nat} {p:DV} (hbt:(i,113)∈X.bt) (kT:st.bx[i]? = some [p,.v (.slice none 0 0)])
  (hd:eZ X.nt st.sl (some d)=true)
  (hk:go X 4000 k ⟨(d,⟨[],.v (.string ⟨#[]⟩)⟩) :: st.sl,st.bx,st.tk⟩) (bV:X.still=false:=by exact rfl):CallG X 60 [.loc i 0] (some d) k st:=by
 refine ⟨?_,bV,fun E a w vs h hv=>?_⟩
 ·rw [hP];exact Oi
 rw [hP];simp only [RvL] at hv;obtain ⟨v1,vr,rfl,h1,rfl⟩:=hv;unfold Rv at h1;obtain ⟨b,hb,rfl⟩:=h1;obtain ⟨b',ty,arr,dZ,hw,rR⟩:=h.env.dQ i _ kT;rw [hb] at dZ;simp only [oI] at dZ;subst dZ;obtain ⟨Kz,nC⟩:=h.bt _ hbt b hb;rw [hw] at nC;simp only [oI,Obj.cells.injEq] at nC;have E9:ty=113:=nC.2.1;subst E9;obtain ⟨hr,ho⟩:=rR;simp only [RvL] at hr;obtain ⟨pv,r1,rfl,PU,cv,r2,rfl,GP,rfl⟩:=hr;unfold Rv at GP;obtain ⟨rfl,_⟩:=GP;refine (Lf b pv w hw).mono ?_;rintro e w' ⟨rfl,rfl⟩;have cO:Rel X E st a w.drew:=dt h (Ext.refl E) (h.env.jo fun j _=>rfl) h.tk h.nw (h.fr.ct rfl rfl rfl (bn _) fun j hj=>Or.inr rfl) (my bV) (h.bt.jo fun b hb=>rfl);exact go_sound 4000 _ _ hk _ _ _ (bF cO hd (.v (.string ⟨#[]⟩)) _ (by unfold Rv;exact ⟨rfl,rfl⟩))
end Go.Proofs.YtfdedoiiahbnnaaGreat
set_option maxRecDepth 100000
namespace Go.Proofs.YtfdedoiiahbnnaaGreat
open Go Go.RowKit Dv Go.Proofs.Tryz
abbrev GR:List DV:=[.v (.int .i64 0),.v (.int .i64 0)]
structure dj where
 k:Int
 a:Int
 e:Int
 s:ByteArray
 n:Int
def xC (t:dj):List DV:=[.v (.int .i64 t.k),.v (.int .i64 t.a),.v (.int .i64 t.e),.v (.string t.s),.v (.int .i64 t.n)]
def fv (l:List dj):List (List DV):=l.map xC
theorem gq (l:List dj):(fv l).length=l.length:=List.length_map ..
theorem F0 {l:List dj} {i:Nat} {t:dj} (h:l[i]? = some t):(fv l)[i]? = some (xC t):=by rw [fv,List.getElem?_map,h];all_goals rfl
theorem nF (l:List dj) (t:dj):fv l ++ [xC t]=fv (l ++ [t]):=by simp [fv]
def gT (a:Int):dj:=⟨0,a,a,aY,0⟩
structure aq where
 l:List dj
 p:Nat
 d:Nat
 f:Ft
def aJ (c:aq):List DV:=[.sl 5 (fv c.l) none,.v (.int .i64 c.p),.v (.int .i64 c.d),.v (.int .i64 c.f.1),.v (.int .i64 c.f.2)]
def aq.aA (c:aq):dj:=if c.f.1=0 then c.l[c.p]?.getD (gT 0) else gT c.f.2
def aq.step (c:aq):aq:=if c.aA.k=0 then c else { c with p:=c.p + 1 }
def aq.is (c:aq) (k:Int) (s:ByteArray):Bool:=decide (c.aA.k=k) && decide (c.aA.s=s)
def aq.mO (c:aq) (k:Int) (s:ByteArray):aq:=if c.is k s then c.step else c
def aq.tk (c:aq) (k:Int):Bool:=!decide (c.aA.k=0) && decide (c.aA.k=k)
def aq.td (c:aq) (k:Int):dj:=if c.tk k then c.aA else ⟨0,0,0,aY,0⟩
def aq.PX (c:aq) (k:Int):aq:=if c.tk k then c.step else c
def aq.cm (c:aq) (e a:Int):aq:=if c.f.1=0/\e≠0 then { c with f:=(e,a) } else c
def aq.fail (c:aq) (e:Int):aq:=c.cm e c.aA.a
def aq.wrong (c:aq):aq:=c.fail (if c.aA.k=0 then 5 else 4)
def aq.ae (c:aq) (s:ByteArray):aq:=if c.is 4 s then c.step else c.wrong
def aq.enter (c:aq):Bool:=!decide (c.d=24)
def aq.nG (c:aq):aq:=if c.d=24 then c.fail 6 else { c with d:=c.d + 1 }
def aq.leave (c:aq):aq:={ c with d:=c.d - 1 }
structure av (c:aq):Prop where
 lt:c.p < c.l.length
 nx:∀ (i:Nat) t,c.l[i]? = some t->t.k≠0->i + 1 < c.l.length
 len:c.l.length<=274877906944
 dl:c.d<=24
theorem av.aA {c:aq} (h:av c) (h0:c.f.1=0):∃ t,c.l[c.p]? = some t/\c.aA=t:=by
 refine ⟨_,gE h.lt,?_⟩;rw [aq.aA,aj h0,gE h.lt];rfl
theorem av.step {c:aq} (h:av c):av c.step:=by
 unfold aq.step;split
 ·exact h
 ·rename_i hk;refine ⟨?_,h.nx,h.len,h.dl⟩;by_cases h0:c.f.1=0
  ·obtain ⟨t,h1,h2⟩:=h.aA h0;rw [h2] at hk;exact h.nx _ t h1 hk
  ·exfalso;rw [aq.aA,af h0] at hk;exact hk rfl
theorem av.cm {c:aq} (h:av c) (e a:Int):av (c.cm e a):=by
 unfold aq.cm;split
 ·exact ⟨h.lt,h.nx,h.len,h.dl⟩
 ·exact h
theorem av.wrong {c:aq} (h:av c):av c.wrong:=h.cm _ _
theorem av.ae {c:aq} (h:av c) (s:ByteArray):av (c.ae s):=by
 unfold aq.ae;split
 ·exact h.step
 ·exact h.wrong
theorem av.leave {c:aq} (h:av c):av c.leave:=by
 have:=h.dl;exact ⟨h.lt,h.nx,h.len,by show c.d - 1<=24;omega⟩
def unqU:Nat->List UInt8->Nat->List UInt8->List UInt8 × Nat × Ft
 | 0,_,a,_=>([],0,(5,(a:Int)))
 | _ + 1,[],a,_=>([],0,(5,(a:Int)))
 | k + 1,c :: r,a,out=>
  if c.toNat=34 then (out,a + 1,(0,0))
  else if c.toNat=92 then (if (oneE (c :: r)).2=0 then ([],0,(16,(a:Int))) else unqU k ((c :: r).drop (oneE (c :: r)).2) (a + (oneE (c :: r)).2) (out ++ (oneE (c :: r)).1))
  else if okU (c :: r)=false then ([],0,(2,(a:Int))) else if kW (recV ((c :: r).take (gA (c :: r))))=true then ([],0,(3,(a:Int)))
  else unqU k ((c :: r).drop (gA (c :: r))) (a + gA (c :: r)) (out ++ (c :: r).take (gA (c :: r)))
def kX (q:List UInt8) (i:Nat):List UInt8 × Nat × Ft:=unqU (q.drop (i + 1)).length (q.drop (i + 1)) (i + 1) []
theorem IL (n:Nat):1<=(FN n).length/\(FN n).length<=4:=by grind [FN]
theorem IM (z:Int):(zC z).length<=4:=by grind [IL,zC]
theorem oG (q:List UInt8) (h:(oneE q).2≠0):2<=(oneE q).2/\(oneE q).2<=q.length/\(oneE q).1 ≠ []/\(oneE q).1.length<=(oneE q).2:=by
 match q,h with
 | [],h=>exact absurd rfl h
 | [_],h=>exact absurd rfl h
 | b :: c :: r,h=>
  unfold oneE at h ⊢;simp only at h ⊢;by_cases h0:b.toNat≠92
  ·rw [aj h0] at h;exact absurd rfl h
  rw [af h0] at h ⊢;by_cases h1:c.toNat=34∨c.toNat=92
  ·rw [aj h1];simp
  rw [af h1] at h ⊢;by_cases h2:c.toNat=116
  ·rw [aj h2];simp
  rw [af h2] at h ⊢;by_cases h3:c.toNat=110
  ·rw [aj h3];simp
  rw [af h3] at h ⊢;by_cases h4:c.toNat=114
  ·rw [aj h4];simp
  rw [af h4] at h ⊢;by_cases h5:c.toNat=120
  ·grind
  rw [af h5] at h ⊢;by_cases h6:c.toNat=117
  ·rw [aj h6] at h ⊢;by_cases h7:(scaP r).1=[]
   ·rw [aj h7] at h;exact absurd rfl h
   ·rw [af h7] at h ⊢
    have key:(scaP r).1.length<=2 + (scaP r).2/\(scaP r).2<=r.length:=by
     unfold scaP at h7 ⊢
     grind [IM,im,iq]
    grind
  ·rw [af h6] at h;exact absurd rfl h
theorem mf:∀ (n:Nat) (l:List UInt8) (a:Nat) (out:List UInt8),l.length<=n->unqU n l a out=unqU l.length l a out
 | 0,l,a,out,h=>by grind
 | n + 1,[],a,out,h=>rfl
 | n + 1,c :: r,a,out,h=>by
  have ih:=mf n;rw [List.length_cons] at h;have hu:=gB (l:=c :: r) (by simp);have ho:=oG (c :: r);rw [List.length_cons] at hu ho ⊢;have ih2:=mf r.length
  grind [unqU]
termination_by n=>n
abbrev F1 (l:List UInt8) (a:Nat) (out:List UInt8):=unqU l.length l a out
theorem vQ (c:UInt8) (r:List UInt8) (a:Nat) (out:List UInt8):F1 (c :: r) a out =
  if c.toNat=34 then (out,a + 1,(0,0))
  else if c.toNat=92 then (if (oneE (c :: r)).2=0 then ([],0,(16,(a:Int))) else F1 ((c :: r).drop (oneE (c :: r)).2) (a + (oneE (c :: r)).2) (out ++ (oneE (c :: r)).1))
  else if okU (c :: r)=false then ([],0,(2,(a:Int))) else if kW (recV ((c :: r).take (gA (c :: r))))=true then ([],0,(3,(a:Int)))
  else F1 ((c :: r).drop (gA (c :: r))) (a + gA (c :: r)) (out ++ (c :: r).take (gA (c :: r))):=by
 have hu:=gB (l:=c :: r) (by simp);have ho:=oG (c :: r);rw [List.length_cons] at hu ho;show unqU (r.length + 1) (c :: r) a out=_;rw [unqU];split
 ·rfl
 split
 ·grind [mf]
 split
 ·rfl
 split
 ·rfl
 ·grind [mf]
theorem zU (a:Nat) (out:List UInt8):F1 [] a out=([],0,(5,(a:Int))):=rfl
abbrev VD (p:List UInt8 × Nat × Ft):DV:=.cp [.v (.string (ba p.1)),.v (.int .i64 p.2.1),Ft.d p.2.2]
abbrev MY (s:ByteArray) (e:Nat):St:=⟨[(0,⟨[],.v (.string s)⟩),bQ 1 e,cE 6 0,cE 7 1],[GR,[.v (.pointer none),.v (.slice none 0 0)]],[]⟩
abbrev Sr (s:ByteArray) (e:Nat) (l:List UInt8):St:=⟨[(0,⟨[],.v (.string s)⟩),bQ 1 e,cE 6 0,cE 7 1],[GR,[.loc 1 0,.sl 1 (bD l) (some 0)]],[⟨l.length,5,1,none⟩]⟩
set_option maxHeartbeats 2000000 in
theorem xD (s:ByteArray) (hs:s.size<=1099511627776) (i:Nat) (hi:i < s.size) (hq:aE s i=34):cw prog 292 [.v (.string s),.v (.int .i64 i)] (VD (kX (tx s) i)):=by
 have ja:=bf s;have hR:kX (tx s) i=F1 ((tx s).drop (i + 1)) (i + 1) []:=rfl;generalize kX (tx s) i=R at hR ⊢;have DY:IntKind.i64.wrap ((i:Int) + 1)=((i + 1:Nat):Int):=gy hi (by omega);refine xj (s:=false) (bt:=[(1,113)]) (hbt:=fun p hp=>Nat.zero_le _) (P:=prog) tt sn 5000 94 [.tmp 4,.tmp 5,.cell 6 26] func292 rfl ntmps292 rfl (nL rfl) (fun _ _ _ _=>?_);refine br (fun g=>?_) (fun _=>?_)
 ·exfalso;simp [aG] at g;omega
 refine br (fun g=>?_) (fun _=>?_)
 ·exfalso;have:=of_decide_eq_true g;omega
 refine ⟨⟨by omega,by omega⟩,?_⟩;refine br (fun g=>?_) (fun _=>?_)
 ·grind
 refine de (fun j st=>∃ (e:Nat) (l:List UInt8),((l=[]/\st=MY s e)∨(l ≠ []/\st=Sr s e l))/\R=F1 ((tx s).drop e) e l/\e<=s.size/\l.length<=e/\j=s.size - e) (s.size - (i + 1)) (MY s (i + 1)) (fC (nc DY)) ⟨i + 1,[],.inl ⟨rfl,rfl⟩,hR,by omega,by simp,by omega⟩ ?_;rintro _ st ⟨e,l,Ss,eX,he,lk,rfl⟩;rcases Ss with ⟨BR,rfl⟩ | ⟨qh,rfl⟩
 ·refine br ?_ ?_<;>intro hL
  rotate_left
  ·have hge:e=s.size:=by have:=of_decide_eq_false hL;omega
   rw [List.drop_eq_nil_of_le (by omega),zU] at eX;subst eX;exact ⟨_,ax,rfl⟩
  have aS:e < s.size:=by have:=of_decide_eq_true hL;omega
  obtain ⟨c,ep,hb⟩:=bp aS;have ep:(tx s).drop e=c :: (tx s).drop (e + 1):=ep;have gR:=zT s hs e aS;have nS:=s9 s hs e c _ ep;have BL:=gB (l:=(tx s).drop e) (by rw [ep];simp);have Lg:=oG ((tx s).drop e);rw [List.length_drop,ja] at BL Lg;have Lh:(tx s).drop (e + gA ((tx s).drop e))=((tx s).drop e).drop (gA ((tx s).drop e)):=by rw [List.drop_drop]
  have pg:(tx s).drop (e + (oneE ((tx s).drop e)).2)=((tx s).drop e).drop (oneE ((tx s).drop e)).2:=by rw [List.drop_drop]
  have Su:tx (s.extract e (e + gA ((tx s).drop e)))=((tx s).drop e).take (gA ((tx s).drop e)):=by
   simp [tx,List.drop_take]
  rw [ep,vQ] at eX;rw [ep] at gR BL Lg Lh pg Su;have VE:gA (c :: (tx s).drop (e + 1))=gA (c :: (tx s).drop (e + 1)):=rfl;have hP:IJ (c :: (tx s).drop (e + 1))=if okU (c :: (tx s).drop (e + 1))=false then .cp [.v (.int .i64 0),.v (.int .i64 2)] else if kW (recV ((c :: (tx s).drop (e + 1)).take (gA (c :: (tx s).drop (e + 1)))))=true then .cp [.v (.int .i64 0),.v (.int .i64 3)] else .cp [.v (.int .i64 (gA (c :: (tx s).drop (e + 1)):Nat)),.v (.int .i64 0)]:=rfl
  rw [hP] at nS;generalize (tx s).drop (e + 1)=r at *;generalize okU (c :: r)=ok at nS eX;generalize kW (recV ((c :: r).take (gA (c :: r))))=bz at nS eX;generalize gA (c :: r)=N at *;generalize oneE (c :: r)=O at *;obtain ⟨W,n⟩:=O;simp only at Lg pg eX;generalize hz:((c.toNat:Nat):Int)=z at *;have mF:((aE s (e:Int).toNat:Nat):Int)=z:=by rw [mr,hb,hz]
  refine ⟨⟨by omega,by omega⟩,?_⟩;rw [mF];refine br ?_ ?_<;>intro g
  ·have g:c.toNat=34:=by have:=of_decide_eq_true g;omega
   rw [aj g] at eX;subst eX BR;have hw:=congrArg (fun z=>DV.v (.int .i64 z)) (gy aS (by omega));refine FZ rfl (.head _) rfl rfl ?_;exact ⟨_,(by repeat' (first | exact rfl | exact trivial | exact Or.inr (Or.inl ⟨_,rfl⟩) | exact Or.inr ⟨_,rfl⟩ | exact Or.inl ⟨rfl,rfl⟩ | exact Or.inl rfl | refine Or.inr ⟨_,_,rfl,Nat.zero_le _,rfl,?_⟩ | refine ⟨_,_,rfl,?_,?_⟩ | refine ⟨_,rfl,?_⟩ | exact hw | refine Or.inr (Or.inr (Or.inr ⟨_,_,rfl,?_⟩)) | exact Or.inl rfl | refine Or.inr ?_)),rfl⟩
  have VF:¬ c.toNat=34:=fun h=>of_decide_eq_false g (by omega);rw [af VF] at eX;refine ⟨⟨by omega,by omega⟩,?_⟩;rw [mF];refine br ?_ ?_<;>intro g
  ·have g:c.toNat=92:=by have:=of_decide_eq_true g;omega
   rw [aj g] at eX;by_cases hn:n=0
   ·subst hn;rw [aj rfl] at eX;subst eX;have gR:cw prog 336 [.v (.string s),.v (.int .i64 e)] (.cp [.v (.string (ba W)),.v (.int .i64 0),.v (.bool false)]):=gR;refine cP DQ gR ?_;exact ⟨_,ax,rfl⟩
   ·rw [af hn,<- pg] at eX;obtain ⟨p1,p2,p3,p4⟩:=Lg hn;have gR:cw prog 336 [.v (.string s),.v (.int .i64 e)] (.cp [.v (.string (ba W)),.v (.int .i64 n),.v (.bool true)]):=by grind
    have hW:0 < (ba W).size:=by rw [aO];exact List.length_pos_iff.2 p3
    have hw:IntKind.i64.wrap ((e:Int) + (n:Nat))=((e + n:Nat):Int):=by rw [wrap64 (by omega) (by omega)];omega
    have hlen:(l ++ W).length<=140737488355328:=by rw [List.length_append];omega
    have bM:l ++ W ≠ []:=by simp [p3]
    have CA:(l ++ W).length<=e + n:=by rw [List.length_append];omega
    refine cP DQ gR ?_;refine gH rfl (l ++ W) (l:=l) (kt:=0) (by simp) (.head _) rfl (.inl rfl) (.inl ⟨rfl,BR,rfl,rfl⟩) hW hlen rfl ?_;exact rE ⟨_,by omega,e + n,l ++ W,.inr ⟨bM,rfl⟩,eX,by omega,CA,rfl⟩ (fC (nc hw))
  have VG:¬ c.toNat=92:=fun h=>of_decide_eq_false g (by omega);rw [af VG] at eX
  cases ok with
  | false=>
   rw [aj rfl] at eX nS;subst eX;refine cP vh nS ?_;exact ⟨_,ax,rfl⟩
  | true=>
   rw [af (by simp)] at eX nS
   cases bz with
   | true=>
    rw [aj rfl] at eX nS;subst eX;refine cP vh nS ?_;exact ⟨_,ax,rfl⟩
   | false=>
    rw [af (by simp)] at eX nS;rw [<- Lh] at eX;have hw:IntKind.i64.wrap ((e:Int) + (N:Nat))=((e + N:Nat):Int):=by rw [wrap64 (by omega) (by omega)];omega
    have PY:(IntKind.i64.wrap ((e:Int) + (N:Nat))).toNat=e + N:=by omega
    have fB:((c :: r).take N).length=N:=by grind
    generalize (c :: r).take N=W at *;have hext:s.extract e (e + N)=ba W:=cF Su;have hW:0 < (ba W).size:=by rw [aO];omega
    have VH:W ≠ []:=fun h=>by rw [h] at fB;simp at fB;omega
    have hlen:(l ++ W).length<=140737488355328:=by rw [List.length_append];omega
    have bM:l ++ W ≠ []:=by simp [VH]
    have CA:(l ++ W).length<=e + N:=by rw [List.length_append];omega
    refine cP vh nS ?_;refine ⟨⟨by omega,by omega,by omega⟩,?_⟩;rw [PY,mr,hext];refine gH rfl (l ++ W) (l:=l) (kt:=0) (by simp) (.head _) rfl (.inl rfl) (.inl ⟨rfl,BR,rfl,rfl⟩) hW hlen rfl ?_;exact rE ⟨_,by omega,e + N,l ++ W,.inr ⟨bM,rfl⟩,eX,by omega,CA,rfl⟩ (fC (nc hw))
 ·refine br ?_ ?_<;>intro hL
  rotate_left
  ·have hge:e=s.size:=by have:=of_decide_eq_false hL;omega
   rw [List.drop_eq_nil_of_le (by omega),zU] at eX;subst eX;exact ⟨_,ax,rfl⟩
  have aS:e < s.size:=by have:=of_decide_eq_true hL;omega
  obtain ⟨c,ep,hb⟩:=bp aS;have ep:(tx s).drop e=c :: (tx s).drop (e + 1):=ep;have gR:=zT s hs e aS;have nS:=s9 s hs e c _ ep;have BL:=gB (l:=(tx s).drop e) (by rw [ep];simp);have Lg:=oG ((tx s).drop e);rw [List.length_drop,ja] at BL Lg;have Lh:(tx s).drop (e + gA ((tx s).drop e))=((tx s).drop e).drop (gA ((tx s).drop e)):=by rw [List.drop_drop]
  have pg:(tx s).drop (e + (oneE ((tx s).drop e)).2)=((tx s).drop e).drop (oneE ((tx s).drop e)).2:=by rw [List.drop_drop]
  have Su:tx (s.extract e (e + gA ((tx s).drop e)))=((tx s).drop e).take (gA ((tx s).drop e)):=by
   simp [tx,List.drop_take]
  rw [ep,vQ] at eX;rw [ep] at gR BL Lg Lh pg Su;have VE:gA (c :: (tx s).drop (e + 1))=gA (c :: (tx s).drop (e + 1)):=rfl;have hP:IJ (c :: (tx s).drop (e + 1))=if okU (c :: (tx s).drop (e + 1))=false then .cp [.v (.int .i64 0),.v (.int .i64 2)] else if kW (recV ((c :: (tx s).drop (e + 1)).take (gA (c :: (tx s).drop (e + 1)))))=true then .cp [.v (.int .i64 0),.v (.int .i64 3)] else .cp [.v (.int .i64 (gA (c :: (tx s).drop (e + 1)):Nat)),.v (.int .i64 0)]:=rfl
  rw [hP] at nS;generalize (tx s).drop (e + 1)=r at *;generalize okU (c :: r)=ok at nS eX;generalize kW (recV ((c :: r).take (gA (c :: r))))=bz at nS eX;generalize gA (c :: r)=N at *;generalize oneE (c :: r)=O at *;obtain ⟨W,n⟩:=O;simp only at Lg pg eX;generalize hz:((c.toNat:Nat):Int)=z at *;have mF:((aE s (e:Int).toNat:Nat):Int)=z:=by rw [mr,hb,hz]
  refine ⟨⟨by omega,by omega⟩,?_⟩;rw [mF];refine br ?_ ?_<;>intro g
  ·have g:c.toNat=34:=by have:=of_decide_eq_true g;omega
   rw [aj g] at eX;subst eX;have hw:=congrArg (fun z=>DV.v (.int .i64 z)) (gy aS (by omega));refine IK ⟨[bQ 1 e,cE 6 0],[GR],[]⟩ rfl (kt:=0) (.head _) rfl qh rfl (Nat.zero_le _) (Nat.zero_le _) rfl ⟨_,_,rfl,⟨_,_,rfl,aQ rfl,_,_,rfl,aQ rfl,rfl⟩,rfl⟩ ⟨⟨_,rfl,aQ rfl⟩,⟨_,rfl,aQ rfl⟩,trivial⟩ rfl ?_;exact ⟨_,(by repeat' (first | exact rfl | exact trivial | exact Or.inr (Or.inl ⟨_,rfl⟩) | exact Or.inr ⟨_,rfl⟩ | exact Or.inl ⟨rfl,rfl⟩ | exact Or.inl rfl | refine Or.inr ⟨_,_,rfl,Nat.zero_le _,rfl,?_⟩ | refine ⟨_,_,rfl,?_,?_⟩ | refine ⟨_,rfl,?_⟩ | exact hw | refine Or.inr (Or.inr (Or.inr ⟨_,_,rfl,?_⟩)) | exact Or.inl rfl | refine Or.inr ?_)),rfl⟩
  have VF:¬ c.toNat=34:=fun h=>of_decide_eq_false g (by omega);rw [af VF] at eX;refine ⟨⟨by omega,by omega⟩,?_⟩;rw [mF];refine br ?_ ?_<;>intro g
  ·have g:c.toNat=92:=by have:=of_decide_eq_true g;omega
   rw [aj g] at eX;by_cases hn:n=0
   ·subst hn;rw [aj rfl] at eX;subst eX;have gR:cw prog 336 [.v (.string s),.v (.int .i64 e)] (.cp [.v (.string (ba W)),.v (.int .i64 0),.v (.bool false)]):=gR;refine cP DQ gR ?_;exact ⟨_,ax,rfl⟩
   ·rw [af hn,<- pg] at eX;obtain ⟨p1,p2,p3,p4⟩:=Lg hn;have gR:cw prog 336 [.v (.string s),.v (.int .i64 e)] (.cp [.v (.string (ba W)),.v (.int .i64 n),.v (.bool true)]):=by grind
    have hW:0 < (ba W).size:=by rw [aO];exact List.length_pos_iff.2 p3
    have hw:IntKind.i64.wrap ((e:Int) + (n:Nat))=((e + n:Nat):Int):=by rw [wrap64 (by omega) (by omega)];omega
    have hlen:(l ++ W).length<=140737488355328:=by rw [List.length_append];omega
    have bM:l ++ W ≠ []:=by simp [p3]
    have CA:(l ++ W).length<=e + n:=by rw [List.length_append];omega
    refine cP DQ gR ?_;refine gH rfl (l ++ W) (l:=l) (kt:=0) (by simp) (.head _) rfl (.inr rfl) (.inr ⟨rfl,qh,rfl,rfl⟩) hW hlen rfl ?_;exact rE ⟨_,by omega,e + n,l ++ W,.inr ⟨bM,rfl⟩,eX,by omega,CA,rfl⟩ (fC (nc hw))
  have VG:¬ c.toNat=92:=fun h=>of_decide_eq_false g (by omega);rw [af VG] at eX
  cases ok with
  | false=>
   rw [aj rfl] at eX nS;subst eX;refine cP vh nS ?_;exact ⟨_,ax,rfl⟩
  | true=>
   rw [af (by simp)] at eX nS
   cases bz with
   | true=>
    rw [aj rfl] at eX nS;subst eX;refine cP vh nS ?_;exact ⟨_,ax,rfl⟩
   | false=>
    rw [af (by simp)] at eX nS;rw [<- Lh] at eX;have hw:IntKind.i64.wrap ((e:Int) + (N:Nat))=((e + N:Nat):Int):=by rw [wrap64 (by omega) (by omega)];omega
    have PY:(IntKind.i64.wrap ((e:Int) + (N:Nat))).toNat=e + N:=by omega
    have fB:((c :: r).take N).length=N:=by grind
    generalize (c :: r).take N=W at *;have hext:s.extract e (e + N)=ba W:=cF Su;have hW:0 < (ba W).size:=by rw [aO];omega
    have VH:W ≠ []:=fun h=>by rw [h] at fB;simp at fB;omega
    have hlen:(l ++ W).length<=140737488355328:=by rw [List.length_append];omega
    have bM:l ++ W ≠ []:=by simp [VH]
    have CA:(l ++ W).length<=e + N:=by rw [List.length_append];omega
    refine cP vh nS ?_;refine ⟨⟨by omega,by omega,by omega⟩,?_⟩;rw [PY,mr,hext];refine gH rfl (l ++ W) (l:=l) (kt:=0) (by simp) (.head _) rfl (.inr rfl) (.inr ⟨rfl,qh,rfl,rfl⟩) hW hlen rfl ?_;exact rE ⟨_,by omega,e + N,l ++ W,.inr ⟨bM,rfl⟩,eX,by omega,CA,rfl⟩ (fC (nc hw))
def fW (c:UInt8):Bool:=decide (48<=c.toNat) && decide (c.toNat<=57)
def digN:List UInt8->Nat
 | []=>0
 | c :: r=>if fW c=true then digN r + 1 else 0
def fQ (l:List UInt8):Nat:=l.foldl (fun n c=>n * 10 + (c.toNat - 48)) 0
theorem rn:∀ l,digN l<=l.length
 | []=>bn _
 | c :: r=>by
  have:=rn r;rw [digN,List.length_cons];split<;>omega
theorem tf:∀ (l:List UInt8) (c:UInt8),c∈l.take (digN l)->fW c=true
 | [],c,h=>by cases h
 | b :: r,c,h=>by
  rw [digN] at h;by_cases g:fW b=true
  ·rw [aj g,List.take_succ_cons,List.mem_cons] at h;rcases h with rfl | h
   ·exact g
   ·exact tf r c h
  ·rw [af g] at h;cases h
theorem vR (l:List UInt8) (c:UInt8):fQ (l ++ [c])=fQ l * 10 + (c.toNat - 48):=by simp [fQ]
theorem tg (f:Nat->UInt8->Nat) (hf:∀ n c,n<=f n c):∀ (l:List UInt8) (n:Nat),n<=l.foldl f n
 | [],n=>bn _
 | c :: r,n=>Nat.le_trans (hf n c) (tg f hf r (f n c))
theorem F2 (l r:List UInt8):fQ l<=fQ (l ++ r):=by
 unfold fQ;rw [List.foldl_append];exact tg _ (fun n c=>by omega) r _
theorem F3 {l:List UInt8} {i:Nat} {c:UInt8} (h:l[i]? = some c):fQ (l.take (i + 1))=fQ (l.take i) * 10 + (c.toNat - 48):=by
 rw [List.take_add_one,h];exact vR _ _
theorem Li (l:List UInt8) (i:Nat):fQ (l.take i)<=fQ l:=by
 have:=F2 (l.take i) (l.drop i)
 rwa [List.take_append_drop] at this
def fT (l:List UInt8) (m:Bool):Int × Bool:=
 if m=true then (if fQ l<=9223372036854775808 then (-(fQ l:Nat),true) else (0,false))
 else (if fQ l<=9223372036854775807 then ((fQ l:Nat),true) else (0,false))
def takeN (s:ByteArray) (i:Nat):Int × Int × Int × Int:=
 let m:Bool:=match s.data.toList[i]? with | some c=>decide (c.toNat=45) | none=>false
 let a:Nat:=if m=true then i + 1 else i
 let k:=digN (s.data.toList.drop a)
 if k=0/\a=s.size then (0,0,5,a)
 else if k=0 then (0,0,19,a)
 else if (s.data.toList[a]?).map UInt8.toNat=some 48/\(1 < k∨m=true) then (0,0,19,i)
 else if (fT ((s.data.toList.drop a).take k) m).2=true then ((fT ((s.data.toList.drop a).take k) m).1,(a + k:Nat),0,0)
 else (0,0,13,i)
theorem Lj {n d:Int} (hn:n<=0) (hd:0<=d/\d<=9):n < (-9223372036854775808 + d).tdiv 10↔9223372036854775808 < -n * 10 + d:=by
 rw [OD (by decide) (by omega)];omega
abbrev VI (s:ByteArray) (e:Nat):St:=⟨[(0,⟨[],.v (.string s)⟩),bQ 5 s.size,bQ 6 e],[],[]⟩
theorem vS (s:ByteArray) (hs:s.size<=4611686018427387904):cw prog 334 [.v (.string s)] (.v (.int .i64 (digN s.data.toList:Nat))):=by
 refine eG 23 [.tmp 2] func334 rfl ntmps334 rfl fun _ _ _ _=>?_;refine lI (fun j st=>∃ e:Nat,st=VI s e/\e<=s.size/\e + digN (s.data.toList.drop e)=digN s.data.toList/\j=s.size - e) ⟨0,rfl,by omega,by simp,rfl⟩ (fC wB) ?_;rintro j st ⟨e,rfl,he,hinv,rfl⟩;refine br ?_ ?_<;>intro h
 ·have aS:e < s.size:=sU h;obtain ⟨c,hd,hb⟩:=bp aS;rw [hd,digN] at hinv;refine ⟨⟨by omega,by omega⟩,?_⟩
  have se:fW c=false->DV.v (Value.int .i64 e) = .v (.int .i64 (digN s.data.toList:Nat)):=fun h=>by
   rw [af (by rw [h];decide)] at hinv;rw [<- hinv];rfl
  refine br ?_ ?_<;>intro g
  ·have g:¬ c.toNat < 48:=by
    have:¬ ((aE s e:Nat):Int) < 48:=sU g;omega
   refine ⟨⟨by omega,by omega⟩,?_⟩;refine br ?_ ?_<;>intro g2
   ·have g2:57 < c.toNat:=by
     have:57 < ((aE s e:Nat):Int):=of_decide_eq_true g2;omega
    exact se (by unfold fW;rw [decide_eq_false (p:=c.toNat<=57) (by omega),Bool.and_false])
   ·have g2:¬ 57 < c.toNat:=by
     have:¬ 57 < ((aE s e:Nat):Int):=of_decide_eq_false g2;omega
    rw [aj (by unfold fW;rw [decide_eq_true (by omega:48<=c.toNat),decide_eq_true (by omega:c.toNat<=57)];rfl)] at hinv;exact rE ⟨_,by omega,e + 1,rfl,by omega,by omega,rfl⟩ (fC (nc (gy aS (by omega))))
  ·have g:c.toNat < 48:=by
    have:((aE s e:Nat):Int) < 48:=sU g;omega
   exact se (by unfold fW;rw [decide_eq_false (by omega),Bool.false_and])
 ·have hge:e=s.size:=by simp at h;omega
  rw [yS (by omega)] at hinv;simp only [digN] at hinv;subst hge;refine congrArg (fun z=>DV.v (Value.int .i64 z)) ?_;omega
abbrev VJ (s:ByteArray) (m:Bool) (n:Int) (e:Nat):St:=⟨[(0,⟨[],.v (.string s)⟩),NY 1 m,bQ 6 n,bQ 10 s.size,bQ 11 e],[],[]⟩
theorem vT (s:ByteArray) (hs:s.size<=4611686018427387904) (m:Bool) (hd:∀ c∈s.data.toList,fW c=true):cw prog 335 [.v (.string s),.v (.bool m)] (.cp [.v (.int .i64 (fT s.data.toList m).1),.v (.bool (fT s.data.toList m).2)]):=by
 refine eG 35 [.tmp 4,.tmp 5] func335 rfl ntmps335 rfl fun _ _ _ _=>?_;refine lI (fun j st=>∃ e:Nat,st=VJ s m (-(fQ (s.data.toList.take e):Nat)) e/\e<=s.size/\fQ (s.data.toList.take e)<=9223372036854775808/\j=s.size - e) ⟨0,rfl,by omega,by simp [fQ],rfl⟩ (fC wB) ?_;rintro j st ⟨e,rfl,he,lk,rfl⟩;refine br ?_ ?_<;>intro h
 ·have aS:e < s.size:=sU h;obtain ⟨c,ep,hb⟩:=bp aS
  have Ld:s.data.toList[e]? = some c:=by
   have:=congrArg List.head? ep
   rwa [List.head?_drop,List.head?_cons] at this
  have JW:=hd c (mG Ld);unfold fW at JW;simp only [aZ,decide_eq_true_eq] at JW;have bV:=F3 Ld;have Xs:=Li s.data.toList (e + 1);refine ⟨⟨by omega,by omega⟩,?_⟩;have mF:aE s (e:Int).toNat=c.toNat:=hb
  have hw:IntKind.i64.wrap (IntKind.u8.wrap ((aE s (e:Int).toNat:Nat) - 48))=((c.toNat - 48:Nat):Int):=by
   rw [mF,IntKind.wrap_u8,wrap64 (by omega) (by omega)];omega
  have kQ:IntKind.i64.wrap (-9223372036854775808 + ((c.toNat - 48:Nat):Int)) = -9223372036854775808 + ((c.toNat - 48:Nat):Int):=wrap64 (by omega) (by omega);have hq:=Lj (n:=-(fQ (s.data.toList.take e):Nat)) (d:=((c.toNat - 48:Nat):Int)) (by omega) (by omega)
  have hq1:(-9223372036854775808 + ((c.toNat - 48:Nat):Int)).tdiv 10 = -((9223372036854775808 - ((c.toNat - 48:Nat):Int)) / 10):=by
   rw [show -9223372036854775808 + ((c.toNat - 48:Nat):Int) = -(9223372036854775808 - ((c.toNat - 48:Nat):Int)) by omega,Int.neg_tdiv,Int.tdiv_eq_ediv_of_nonneg (by omega)]
  have x9:IntKind.i64.wrap ((-9223372036854775808 + ((c.toNat - 48:Nat):Int)).tdiv 10)=(-9223372036854775808 + ((c.toNat - 48:Nat):Int)).tdiv 10:=by
   rw [hq1];exact wrap64 (by omega) (by omega)
  refine ⟨⟨rfl,by decide⟩,?_⟩;refine br ?_ ?_<;>intro g
  ·have g:=of_decide_eq_true g;rw [hw,kQ,x9,hq] at g;have cL:9223372036854775808 < fQ s.data.toList:=by omega
   have hv:fT s.data.toList m=(0,false):=by
    unfold fT;cases m
    ·rw [af (by decide),af (by omega)]
    ·rw [aj rfl,af (by omega)]
   rw [hv];exact ⟨_,ax,rfl⟩
  ·have g:=of_decide_eq_false g;rw [hw,kQ,x9,hq] at g
   have Ts:IntKind.i64.wrap (IntKind.i64.wrap (-(fQ (s.data.toList.take e):Nat) * 10) - IntKind.i64.wrap (IntKind.u8.wrap ((aE s (e:Int).toNat:Nat) - 48))) = -(fQ (s.data.toList.take (e + 1)):Nat):=by
    rw [hw,wrap64 (n:=-(fQ (s.data.toList.take e):Nat) * 10) (by omega) (by omega),wrap64 (by omega) (by omega)];omega
   exact rE ⟨_,by omega,e + 1,rfl,by omega,by omega,rfl⟩ (fC (yb (gy aS (by omega)) Ts))
 ·have hge:e=s.size:=by simp at h;omega
  subst hge;rw [List.take_of_length_le (by simp)] at lk ⊢
  cases m with
  | true=>
   have hv:fT s.data.toList true=(-((fQ s.data.toList:Nat):Int),true):=by
    unfold fT;rw [aj rfl,aj (by omega)]
   rw [hv];exact ⟨_,ax,rfl⟩
  | false=>
   refine br ?_ ?_<;>intro g
   ·have g:=of_decide_eq_true g
    have hv:fT s.data.toList false=(0,false):=by
     unfold fT;rw [af (by decide),af (by omega)]
    rw [hv];exact ⟨_,ax,rfl⟩
   ·have g:=of_decide_eq_false g
    have hw:IntKind.i64.wrap (0 - -((fQ s.data.toList:Nat):Int))=((fQ s.data.toList:Nat):Int):=by
     rw [wrap64 (by omega) (by omega)];omega
    have hv:fT s.data.toList false=(IntKind.i64.wrap (0 - -((fQ s.data.toList:Nat):Int)),true):=by
     rw [hw];unfold fT;rw [af (by decide),aj (by omega)]
    rw [hv];exact ⟨_,ax,rfl⟩
def qW (T:List UInt8) (n i a:Nat) (m:Bool):Int × Int × Int × Int:=
 if digN (T.drop a)=0/\a=n then (0,0,5,a)
 else if digN (T.drop a)=0 then (0,0,19,a)
 else if (T[a]?).map UInt8.toNat=some 48/\(1 < digN (T.drop a)∨m=true) then (0,0,19,i)
 else if (fT ((T.drop a).take (digN (T.drop a))) m).2=true then ((fT ((T.drop a).take (digN (T.drop a))) m).1,(a + digN (T.drop a):Nat),0,0)
 else (0,0,13,i)
theorem lN {s:ByteArray} {i:Nat} {c:UInt8} (h:(tx s)[i]? = some c):takeN s i=qW (tx s) s.size i (if c.toNat=45 then i + 1 else i) (decide (c.toNat=45)):=by
 unfold takeN qW;have h':s.data.toList[i]? = some c:=h;rw [h'];by_cases h5:c.toNat=45
 ·simp only [h5,decide_true,if_true];rfl
 ·simp only [decide_eq_false h5,af h5];rfl
theorem zV {l:List UInt8} {m:Bool} (h:(fT l m).2=false):fT l m=(0,false):=by grind [fT]
abbrev tkD (q:Int × Int × Int × Int):DV:=.cp [.v (.int .i64 q.1),.v (.int .i64 q.2.1),Ft.d q.2.2]
set_option maxHeartbeats 2000000 in
theorem CB (s:ByteArray) (hs:s.size<=1099511627776) (i:Nat) (hi:i < s.size):cw prog 291 [.v (.string s),.v (.int .i64 i)] (tkD (takeN s i)):=by
 have ja:=bf s;obtain ⟨c,ep,hb⟩:=bp hi
 have N2:(tx s)[i]? = some c:=by
  have:=congrArg List.head? ep
  rwa [List.head?_drop,List.head?_cons] at this
 rw [lN N2];obtain ⟨zi,Lk⟩:∃ zi:Int,zi=(i:Nat):=⟨_,rfl⟩;obtain ⟨z,hz⟩:∃ z:Int,z=((c.toNat:Nat):Int):=⟨_,rfl⟩;have mF:((aE s zi.toNat:Nat):Int)=z:=by rw [Lk,mr,hb,hz]
 have DY:IntKind.i64.wrap (zi + 1)=((i + 1:Nat):Int):=by rw [Lk];exact gy hi (by omega)
 rw [<- Lk];by_cases TJ:c.toNat=45
 ·have Ll:z=45:=by omega
  rw [aj TJ,decide_eq_true TJ];have hA:IntKind.i64.wrap (zi + 1)=((i + 1:Nat):Int):=DY;have VK:i + 1<=s.size:=by omega
  have hx:tx (s.extract (IntKind.i64.wrap (zi + 1)).toNat (s.size:Int).toNat)=(tx s).drop (i + 1):=by rw [hA,mr];exact xA s (i + 1) hs
  have uI:=congrArg List.length hx;rw [bf,List.length_drop,ja] at uI;have cf:cw prog 334 [.v (.string (s.extract (IntKind.i64.wrap (zi + 1)).toNat (s.size:Int).toNat))] (.v (.int .i64 (digN (tx (s.extract (IntKind.i64.wrap (zi + 1)).toNat (s.size:Int).toNat)):Nat))):=vS _ (by omega);rw [hx] at cf;have MJ:=rn ((tx s).drop (i + 1));rw [List.length_drop,ja] at MJ;have kk:=tf ((tx s).drop (i + 1))
  have hR:qW (tx s) s.size i (i + 1) true=if digN ((tx s).drop (i + 1))=0/\(i + 1)=s.size then (0,0,5,((i + 1:Nat):Int))
   else if digN ((tx s).drop (i + 1))=0 then (0,0,19,((i + 1:Nat):Int))
   else if ((tx s)[i + 1]?).map UInt8.toNat=some 48/\(1 < digN ((tx s).drop (i + 1))∨true=true) then (0,0,19,((i:Nat):Int))
   else if (fT (((tx s).drop (i + 1)).take (digN ((tx s).drop (i + 1)))) true).2=true then ((fT (((tx s).drop (i + 1)).take (digN ((tx s).drop (i + 1)))) true).1,(((i + 1) + digN ((tx s).drop (i + 1)):Nat):Int),0,0)
   else (0,0,13,((i:Nat):Int)):=rfl
  generalize qW (tx s) s.size i (i + 1) true=R at hR ⊢;have hy:∀ k,(i + 1) + k<=s.size->tx (s.extract (i + 1) ((i + 1) + k))=((tx s).drop (i + 1)).take k:=fun k hk=>by simp [tx,List.drop_take]
  generalize hK:digN ((tx s).drop (i + 1))=k at *;obtain ⟨zk,Sv⟩:∃ zk:Int,zk=((k:Nat):Int):=⟨_,rfl⟩;rw [<- Sv] at cf;have hY:=hy k (by omega);have NW:IntKind.i64.wrap (IntKind.i64.wrap (zi + 1) + zk)=((i + 1 + k:Nat):Int):=by rw [hA,Sv,wrap64 (by omega) (by omega)];omega
  have B8:(IntKind.i64.wrap (IntKind.i64.wrap (zi + 1) + zk)).toNat=i + 1 + k:=by omega
  have Lm:(IntKind.i64.wrap (zi + 1)).toNat=i + 1:=by omega
  have hval:=vT (s.extract (IntKind.i64.wrap (zi + 1)).toNat (IntKind.i64.wrap (IntKind.i64.wrap (zi + 1) + zk)).toNat) (by
   rw [Lm,B8];have:=congrArg List.length hY;rw [bf,zLenT,List.length_drop] at this
   omega) true (by rw [Lm,B8];show ∀ c∈tx _,_;rw [hY];exact kk)
  have VL:(s.extract (IntKind.i64.wrap (zi + 1)).toNat (IntKind.i64.wrap (IntKind.i64.wrap (zi + 1) + zk)).toNat).data.toList=((tx s).drop (i + 1)).take k:=by rw [Lm,B8];exact hY
  rw [VL] at hval;have OZ:=@zV (((tx s).drop (i + 1)).take k) true;generalize fT (((tx s).drop (i + 1)).take k) true=V at hval hR OZ;obtain ⟨V1,V2⟩:=V;simp only at hR OZ;have VM:DV.v (.bool (decide (z=45))) = .v (.bool true):=by rw [decide_eq_true Ll]
  rw [<- VM] at hval;refine eG 88 [.tmp 4,.tmp 5,.cell 6 26] func291 rfl ntmps291 rfl fun _ _ _ _=>?_;refine br (fun g=>?_) (fun _=>?_)
  ·exfalso;simp [aG] at g;omega
  refine br (fun _=>?_) (fun g=>absurd (show zi < s.size by omega) (sU g));refine ⟨⟨by omega,by omega⟩,?_⟩;rw [mF];refine br (fun _=>?_) (fun g=>?_)
  rotate_left
  ·exfalso;simp [pickB,Ll] at g
  refine ⟨⟨by omega,by omega,by omega⟩,?_⟩;refine cP MD cf ?_;by_cases h0:k=0
  ·by_cases hE:i + 1=s.size
   ·rw [aj ⟨h0,hE⟩] at hR;subst hR;refine br (fun _=>?_) (fun g=>?_)
    rotate_left
    ·exfalso;simp [aC] at g;omega
    have hX:=congrArg (fun z=>DV.v (.int .i64 z)) hA;exact ⟨_,(by repeat' (first | exact rfl | exact trivial | exact Or.inr (Or.inl ⟨_,rfl⟩) | exact Or.inr ⟨_,rfl⟩ | exact Or.inl ⟨rfl,rfl⟩ | exact Or.inl rfl | refine Or.inr ⟨_,_,rfl,Nat.zero_le _,rfl,?_⟩ | refine ⟨_,_,rfl,?_,?_⟩ | refine ⟨_,rfl,?_⟩ | exact hX | refine Or.inr (Or.inr (Or.inr ⟨_,_,rfl,?_⟩)) | exact Or.inl rfl | refine Or.inr ?_)),rfl⟩
   ·rw [af (fun h=>hE h.2),aj h0] at hR;subst hR;refine br (fun g=>?_) (fun _=>?_)
    ·exfalso;simp [aC] at g;omega
    refine br (fun _=>?_) (fun g=>absurd (show zk=0 by omega) (sU g));have hX:=congrArg (fun z=>DV.v (.int .i64 z)) hA;exact ⟨_,(by repeat' (first | exact rfl | exact trivial | exact Or.inr (Or.inl ⟨_,rfl⟩) | exact Or.inr ⟨_,rfl⟩ | exact Or.inl ⟨rfl,rfl⟩ | exact Or.inl rfl | refine Or.inr ⟨_,_,rfl,Nat.zero_le _,rfl,?_⟩ | refine ⟨_,_,rfl,?_,?_⟩ | refine ⟨_,rfl,?_⟩ | exact hX | refine Or.inr (Or.inr (Or.inr ⟨_,_,rfl,?_⟩)) | exact Or.inl rfl | refine Or.inr ?_)),rfl⟩
  rw [af (fun h=>h0 h.1),af h0] at hR;refine br (fun g=>?_) (fun _=>?_)
  ·exfalso;simp [aC] at g;omega
  refine br (fun g=>absurd (of_decide_eq_true g) (by omega)) (fun _=>?_);obtain ⟨b,VN,Hl⟩:=bp (s:=s) (k:=i + 1) (by omega)
  have VO:(tx s)[i + 1]? = some b:=by
   have:=congrArg List.head? VN
   rwa [List.head?_drop,List.head?_cons] at this
  rw [VO] at hR;obtain ⟨zb,VP⟩:∃ zb:Int,zb=((b.toNat:Nat):Int):=⟨_,rfl⟩;have O0:((aE s (IntKind.i64.wrap (zi + 1)).toNat:Nat):Int)=zb:=by rw [Lm,Hl,VP]
  refine ⟨⟨by omega,by omega⟩,?_⟩;rw [O0];by_cases yf:b.toNat=48/\(1 < k∨true=true)
  ·rw [aj ⟨by simp [yf.1],by simpa using yf.2⟩] at hR;subst hR;refine br (fun _=>?_) (fun g=>?_)
   rotate_left
   ·exfalso;have:=yf.1;simp [aC,aG,Ll] at g;omega
   have hX:=congrArg (fun z=>DV.v (.int .i64 z)) Lk;exact ⟨_,(by repeat' (first | exact rfl | exact trivial | exact Or.inr (Or.inl ⟨_,rfl⟩) | exact Or.inr ⟨_,rfl⟩ | exact Or.inl ⟨rfl,rfl⟩ | exact Or.inl rfl | refine Or.inr ⟨_,_,rfl,Nat.zero_le _,rfl,?_⟩ | refine ⟨_,_,rfl,?_,?_⟩ | refine ⟨_,rfl,?_⟩ | exact hX | refine Or.inr (Or.inr (Or.inr ⟨_,_,rfl,?_⟩)) | exact Or.inl rfl | refine Or.inr ?_)),rfl⟩
  rw [af (fun h=>yf ⟨by simpa using h.1,by simpa using h.2⟩)] at hR;refine br (fun g=>?_) (fun _=>?_)
  ·exfalso;simp [aC,aG,Ll] at g;apply yf;exact ⟨by omega,.inr rfl⟩
  refine ⟨⟨by omega,by omega,by omega⟩,?_⟩;refine cP ME hval ?_
  cases V2 with
  | true=>
   rw [aj rfl] at hR;subst hR;have hX:=congrArg (fun z=>DV.v (.int .i64 z)) NW;exact ⟨_,(by repeat' (first | exact rfl | exact trivial | exact Or.inr (Or.inl ⟨_,rfl⟩) | exact Or.inr ⟨_,rfl⟩ | exact Or.inl ⟨rfl,rfl⟩ | exact Or.inl rfl | refine Or.inr ⟨_,_,rfl,Nat.zero_le _,rfl,?_⟩ | refine ⟨_,_,rfl,?_,?_⟩ | refine ⟨_,rfl,?_⟩ | exact hX | refine Or.inr (Or.inr (Or.inr ⟨_,_,rfl,?_⟩)) | exact Or.inl rfl | refine Or.inr ?_)),rfl⟩
  | false=>
   have:=OZ rfl;injection this with VQ _
   subst VQ;rw [af (by simp)] at hR;subst hR;have hX:=congrArg (fun z=>DV.v (.int .i64 z)) Lk;exact ⟨_,(by repeat' (first | exact rfl | exact trivial | exact Or.inr (Or.inl ⟨_,rfl⟩) | exact Or.inr ⟨_,rfl⟩ | exact Or.inl ⟨rfl,rfl⟩ | exact Or.inl rfl | refine Or.inr ⟨_,_,rfl,Nat.zero_le _,rfl,?_⟩ | refine ⟨_,_,rfl,?_,?_⟩ | refine ⟨_,rfl,?_⟩ | exact hX | refine Or.inr (Or.inr (Or.inr ⟨_,_,rfl,?_⟩)) | exact Or.inl rfl | refine Or.inr ?_)),rfl⟩
 ·have Ll:¬ z=45:=by omega
  rw [af TJ,decide_eq_false TJ];have hA:zi=((i:Nat):Int):=Lk;have VK:i<=s.size:=by omega
  have hx:tx (s.extract (zi).toNat (s.size:Int).toNat)=(tx s).drop (i):=by rw [hA,mr];exact xA s (i) hs
  have uI:=congrArg List.length hx;rw [bf,List.length_drop,ja] at uI;have cf:cw prog 334 [.v (.string (s.extract (zi).toNat (s.size:Int).toNat))] (.v (.int .i64 (digN (tx (s.extract (zi).toNat (s.size:Int).toNat)):Nat))):=vS _ (by omega);rw [hx] at cf;have MJ:=rn ((tx s).drop (i));rw [List.length_drop,ja] at MJ;have kk:=tf ((tx s).drop (i))
  have hR:qW (tx s) s.size i (i) false=if digN ((tx s).drop (i))=0/\(i)=s.size then (0,0,5,((i:Nat):Int))
   else if digN ((tx s).drop (i))=0 then (0,0,19,((i:Nat):Int))
   else if ((tx s)[i]?).map UInt8.toNat=some 48/\(1 < digN ((tx s).drop (i))∨false=true) then (0,0,19,((i:Nat):Int))
   else if (fT (((tx s).drop (i)).take (digN ((tx s).drop (i)))) false).2=true then ((fT (((tx s).drop (i)).take (digN ((tx s).drop (i)))) false).1,(((i) + digN ((tx s).drop (i)):Nat):Int),0,0)
   else (0,0,13,((i:Nat):Int)):=rfl
  generalize qW (tx s) s.size i (i) false=R at hR ⊢;have hy:∀ k,(i) + k<=s.size->tx (s.extract (i) ((i) + k))=((tx s).drop (i)).take k:=fun k hk=>by simp [tx,List.drop_take]
  generalize hK:digN ((tx s).drop (i))=k at *;obtain ⟨zk,Sv⟩:∃ zk:Int,zk=((k:Nat):Int):=⟨_,rfl⟩;rw [<- Sv] at cf;have hY:=hy k (by omega);have NW:IntKind.i64.wrap (zi + zk)=((i + k:Nat):Int):=by rw [hA,Sv,wrap64 (by omega) (by omega)];omega
  have B8:(IntKind.i64.wrap (zi + zk)).toNat=i + k:=by omega
  have Lm:(zi).toNat=i:=by omega
  have hval:=vT (s.extract (zi).toNat (IntKind.i64.wrap (zi + zk)).toNat) (by
   rw [Lm,B8];have:=congrArg List.length hY;rw [bf,zLenT,List.length_drop] at this
   omega) false (by rw [Lm,B8];show ∀ c∈tx _,_;rw [hY];exact kk)
  have VL:(s.extract (zi).toNat (IntKind.i64.wrap (zi + zk)).toNat).data.toList=((tx s).drop (i)).take k:=by rw [Lm,B8];exact hY
  rw [VL] at hval;have OZ:=@zV (((tx s).drop (i)).take k) false;generalize fT (((tx s).drop (i)).take k) false=V at hval hR OZ;obtain ⟨V1,V2⟩:=V;simp only at hR OZ;have VM:DV.v (.bool (decide (z=45))) = .v (.bool false):=by rw [decide_eq_false Ll]
  rw [<- VM] at hval;refine eG 88 [.tmp 4,.tmp 5,.cell 6 26] func291 rfl ntmps291 rfl fun _ _ _ _=>?_;refine br (fun g=>?_) (fun _=>?_)
  ·exfalso;simp [aG] at g;omega
  refine br (fun _=>?_) (fun g=>absurd (show zi < s.size by omega) (sU g));refine ⟨⟨by omega,by omega⟩,?_⟩;rw [mF];refine br (fun g=>?_) (fun _=>?_)
  ·exfalso;simp [pickB] at g;exact Ll g
  refine ⟨⟨by omega,by omega,by omega⟩,?_⟩;refine cP MD cf ?_;by_cases h0:k=0
  ·by_cases hE:i=s.size
   ·rw [aj ⟨h0,hE⟩] at hR;subst hR;refine br (fun _=>?_) (fun g=>?_)
    rotate_left
    ·exfalso;simp [aC] at g;omega
    have hX:=congrArg (fun z=>DV.v (.int .i64 z)) hA;exact ⟨_,(by repeat' (first | exact rfl | exact trivial | exact Or.inr (Or.inl ⟨_,rfl⟩) | exact Or.inr ⟨_,rfl⟩ | exact Or.inl ⟨rfl,rfl⟩ | exact Or.inl rfl | refine Or.inr ⟨_,_,rfl,Nat.zero_le _,rfl,?_⟩ | refine ⟨_,_,rfl,?_,?_⟩ | refine ⟨_,rfl,?_⟩ | exact hX | refine Or.inr (Or.inr (Or.inr ⟨_,_,rfl,?_⟩)) | exact Or.inl rfl | refine Or.inr ?_)),rfl⟩
   ·rw [af (fun h=>hE h.2),aj h0] at hR;subst hR;refine br (fun g=>?_) (fun _=>?_)
    ·exfalso;simp [aC] at g;omega
    refine br (fun _=>?_) (fun g=>absurd (show zk=0 by omega) (sU g));have hX:=congrArg (fun z=>DV.v (.int .i64 z)) hA;exact ⟨_,(by repeat' (first | exact rfl | exact trivial | exact Or.inr (Or.inl ⟨_,rfl⟩) | exact Or.inr ⟨_,rfl⟩ | exact Or.inl ⟨rfl,rfl⟩ | exact Or.inl rfl | refine Or.inr ⟨_,_,rfl,Nat.zero_le _,rfl,?_⟩ | refine ⟨_,_,rfl,?_,?_⟩ | refine ⟨_,rfl,?_⟩ | exact hX | refine Or.inr (Or.inr (Or.inr ⟨_,_,rfl,?_⟩)) | exact Or.inl rfl | refine Or.inr ?_)),rfl⟩
  rw [af (fun h=>h0 h.1),af h0] at hR;refine br (fun g=>?_) (fun _=>?_)
  ·exfalso;simp [aC] at g;omega
  refine br (fun g=>absurd (of_decide_eq_true g) (by omega)) (fun _=>?_);obtain ⟨b,VN,Hl⟩:=bp (s:=s) (k:=i) (by omega)
  have VO:(tx s)[i]? = some b:=by
   have:=congrArg List.head? VN
   rwa [List.head?_drop,List.head?_cons] at this
  rw [VO] at hR;obtain ⟨zb,VP⟩:∃ zb:Int,zb=((b.toNat:Nat):Int):=⟨_,rfl⟩;have O0:((aE s (zi).toNat:Nat):Int)=zb:=by rw [Lm,Hl,VP]
  refine ⟨⟨by omega,by omega⟩,?_⟩;rw [O0];by_cases yf:b.toNat=48/\(1 < k∨false=true)
  ·rw [aj ⟨by simp [yf.1],by simpa using yf.2⟩] at hR;subst hR;refine br (fun _=>?_) (fun g=>?_)
   rotate_left
   ·exfalso;have:=yf.2.resolve_right (by simp);simp [aC,aG,Ll] at g;omega
   have hX:=congrArg (fun z=>DV.v (.int .i64 z)) Lk;exact ⟨_,(by repeat' (first | exact rfl | exact trivial | exact Or.inr (Or.inl ⟨_,rfl⟩) | exact Or.inr ⟨_,rfl⟩ | exact Or.inl ⟨rfl,rfl⟩ | exact Or.inl rfl | refine Or.inr ⟨_,_,rfl,Nat.zero_le _,rfl,?_⟩ | refine ⟨_,_,rfl,?_,?_⟩ | refine ⟨_,rfl,?_⟩ | exact hX | refine Or.inr (Or.inr (Or.inr ⟨_,_,rfl,?_⟩)) | exact Or.inl rfl | refine Or.inr ?_)),rfl⟩
  rw [af (fun h=>yf ⟨by simpa using h.1,by simpa using h.2⟩)] at hR;refine br (fun g=>?_) (fun _=>?_)
  ·exfalso;simp [aC,aG,Ll] at g;apply yf;exact ⟨by omega,.inl (by omega)⟩
  refine ⟨⟨by omega,by omega,by omega⟩,?_⟩;refine cP ME hval ?_
  cases V2 with
  | true=>
   rw [aj rfl] at hR;subst hR;have hX:=congrArg (fun z=>DV.v (.int .i64 z)) NW;exact ⟨_,(by repeat' (first | exact rfl | exact trivial | exact Or.inr (Or.inl ⟨_,rfl⟩) | exact Or.inr ⟨_,rfl⟩ | exact Or.inl ⟨rfl,rfl⟩ | exact Or.inl rfl | refine Or.inr ⟨_,_,rfl,Nat.zero_le _,rfl,?_⟩ | refine ⟨_,_,rfl,?_,?_⟩ | refine ⟨_,rfl,?_⟩ | exact hX | refine Or.inr (Or.inr (Or.inr ⟨_,_,rfl,?_⟩)) | exact Or.inl rfl | refine Or.inr ?_)),rfl⟩
  | false=>
   have:=OZ rfl;injection this with VQ _
   subst VQ;rw [af (by simp)] at hR;subst hR;have hX:=congrArg (fun z=>DV.v (.int .i64 z)) Lk;exact ⟨_,(by repeat' (first | exact rfl | exact trivial | exact Or.inr (Or.inl ⟨_,rfl⟩) | exact Or.inr ⟨_,rfl⟩ | exact Or.inl ⟨rfl,rfl⟩ | exact Or.inl rfl | refine Or.inr ⟨_,_,rfl,Nat.zero_le _,rfl,?_⟩ | refine ⟨_,_,rfl,?_,?_⟩ | refine ⟨_,rfl,?_⟩ | exact hX | refine Or.inr (Or.inr (Or.inr ⟨_,_,rfl,?_⟩)) | exact Or.inl rfl | refine Or.inr ?_)),rfl⟩
def gU (c:Nat):Bool:=decide (c=32) || decide (c=10) || decide (c=9) || decide (c=13)
theorem CD (c:Nat):cw prog 242 [.v (.int .u8 c)] (.v (.bool (gU c))):=by
 refine eG 17 [.tmp 2] func242 rfl ntmps242 rfl fun _ _ _ _=>?_;refine congrArg (fun z=>DV.v (Value.bool z)) ?_;unfold gU;simp only [aG];have e1:decide ((c:Int)=32)=decide (c=32):=decide_eq_decide.2 (by omega);have e2:decide ((c:Int)=10)=decide (c=10):=decide_eq_decide.2 (by omega);have e3:decide ((c:Int)=9)=decide (c=9):=decide_eq_decide.2 (by omega);have e4:decide ((c:Int)=13)=decide (c=13):=decide_eq_decide.2 (by omega);rw [e1,e2,e3,e4]
def jw:ByteArray:=⟨#[123,125,91,93,40,41,44,58,61,60,62,64,43,35,126,42]⟩
def mB:ByteArray:=⟨#[46,46]⟩
def eL (s:ByteArray) (i:Nat):ByteArray:=if sN (s.extract i s.size) mB=true then mB else if 0<=Lib.indexByte (tx jw) (aE s i).toUInt8 then s.extract i (i + 1) else ⟨#[]⟩
theorem CE (s:ByteArray) (hs:s.size<=1099511627776) (i:Nat) (hi:i < s.size):cw prog 290 [.v (.string s),.v (.int .i64 i)] (.v (.string (eL s i))):=by
 have hp:=FJ (s.extract i s.size) mB (by simp;omega);have hx:=zA jw (aE s i:Nat);have hM:eL s i=if sN (s.extract i s.size) mB=true then mB else if 0<=Lib.indexByte (tx jw) (aE s i).toUInt8 then s.extract i (i + 1) else ⟨#[]⟩:=rfl
 rw [mr] at hx;generalize eL s i=M at hM ⊢;generalize sN (s.extract i s.size) mB=B at hp hM;generalize Lib.indexByte (tx jw) (aE s i).toUInt8=I at hx hM
 have hw:IntKind.i64.wrap ((i:Int) + 1)=((i + 1:Nat):Int):=by
  rw [wrap64 (by omega) (by omega)];omega
 refine eG 30 [.tmp 4] func290 rfl ntmps290 rfl fun _ _ _ _=>?_;refine br (fun g=>?_) (fun _=>?_)
 ·exfalso;simp [aG] at g;omega
 refine ⟨⟨by omega,by omega,by omega⟩,?_⟩;refine cP Ro hp ?_
 cases B with
 | true=>
  rw [aj rfl] at hM;rw [hM];exact (rfl:_=_)
 | false=>
  rw [af (by simp)] at hM;refine ⟨⟨by omega,by omega⟩,?_⟩;refine cP MC hx ?_;refine br ?_ ?_<;>intro g
  ·have g:0<=I:=sU g;rw [aj g] at hM;rw [hM];refine ⟨⟨by omega,by rw [hw];omega,by rw [hw];omega⟩,?_⟩;rw [hw];exact (rfl:_=_)
  ·have g:¬ 0<=I:=sU g;rw [af g] at hM;rw [hM];exact (rfl:_=_)
abbrev O4 (s:ByteArray) (L:List dj) (q dR:Nat):St:=⟨[(0,⟨[],.v (.string s)⟩),(2,⟨[],.v (.slice none 0 0)⟩),cE 3 0,(4,⟨[],.sl 5 (fv L) (some 0)⟩),cE 5 1,bQ 6 dR],[GR,GR],[⟨q,218,5,none⟩]⟩
def zW:dj:=⟨0,0,0,aY,0⟩
def ir (s:ByteArray) (i:Nat):dj × Ft:=
 if bw ((tx s).drop i)≠0 then (if bw ((tx s).drop i)<=32 then (⟨1,i,(i + bw ((tx s).drop i):Nat),s.extract i (i + bw ((tx s).drop i)),0⟩,(0,0)) else (zW,(9,(i:Int))))
 else if ¬ eL s i=⟨#[]⟩ then (⟨4,i,(i + (eL s i).size:Nat),eL s i,0⟩,(0,0))
 else if aE s i=45∨(48<=aE s i/\aE s i<=57) then (if (takeN s i).2.2.1=0 then (⟨2,i,(takeN s i).2.1,aY,(takeN s i).1⟩,(0,0)) else (zW,(takeN s i).2.2))
 else if aE s i=34 then (if (kX (tx s) i).2.2.1=0 then (⟨3,i,(kX (tx s) i).2.1,ba (kX (tx s) i).1,0⟩,(0,0)) else (zW,(kX (tx s) i).2.2))
 else (zW,(if okU ((tx s).drop i)=true then 3 else 2,(i:Int)))
theorem Ln {T:List UInt8} {n i a:Nat} {m:Bool} (h:(qW T n i a m).2.2.1=0):(qW T n i a m).2.2=(0,0):=by grind [qW,digN,fT]
theorem IP {s:ByteArray} {i:Nat} (hi:i < s.size) (h:(takeN s i).2.2.1=0):(takeN s i).2.2=(0,0):=by
 obtain ⟨c,ep,hb⟩:=bp hi
 have N2:(tx s)[i]? = some c:=by
  have:=congrArg List.head? ep
  rwa [List.head?_drop,List.head?_cons] at this
 rw [lN N2] at h ⊢;exact Ln h
theorem Ef:∀ (k:Nat) (l:List UInt8) (a:Nat) (out:List UInt8),(unqU k l a out).2.2.1=0->(unqU k l a out).2.2=(0,0)/\a < (unqU k l a out).2.1/\(unqU k l a out).2.1<=a + l.length
 | 0,_,_,_,h=>by simp [unqU] at h
 | _ + 1,[],_,_,h=>by simp [unqU] at h
 | k + 1,c :: r,a,out,h=>by
  have hu:=gB (l:=c :: r) (by simp);have ho:=oG (c :: r);have ih:=Ef k
  grind [unqU,oneE,okU,kW,recV,gA]
theorem Eg {s:ByteArray} {i:Nat} (hi:i < s.size) (h:(kX (tx s) i).2.2.1=0):(kX (tx s) i).2.2=(0,0)/\i < (kX (tx s) i).2.1/\(kX (tx s) i).2.1<=s.size:=by grind [Ef,tx,bf,kX,unqU]
theorem CF (s:ByteArray) (hs:s.size<=1099511627776) (i:Nat) (hi:i < s.size):cw prog 293 [.v (.string s),.v (.int .i64 i)] (Ft.d (if okU ((tx s).drop i)=true then 3 else 2,(i:Int))):=by
 obtain ⟨c,ep,hb⟩:=bp hi;have ep:(tx s).drop i=c :: (tx s).drop (i + 1):=ep;have hu:=pL s i hs c _ ep;rw [ep];generalize okU (c :: (tx s).drop (i + 1))=ok at hu ⊢;refine eG 21 [.cell 4 26] func293 rfl ntmps293 rfl fun _ _ _ _=>?_;refine jt HG rfl hu ax (fun q hq=>?_);obtain ⟨z,n,rfl,_,_⟩:=hq
 cases ok with
 | true=>exact ⟨_,ax,rfl⟩
 | false=>exact ⟨_,ax,rfl⟩
theorem CG {s:ByteArray} {i n:Nat} (hn:bw ((tx s).drop i)=n) (h0:n≠0):az (s.extract i (i + n))=decide (n<=32):=by
 have lk:=ky ((tx s).drop i);rw [hn,List.length_drop,bf] at lk;have hx:(s.extract i (i + n)).data.toList=((tx s).drop i).take n:=by simp_all [tx]
 have dp:(s.extract i (i + n)).size=n:=by simp;omega
 have key:∀ l:List UInt8,signs (l.take (signs l))=signs l:=by
  intro l
  induction l with
  | nil=>rfl
  | cons c r ih=>grind [fm,signs]
 have Sw:bw (((tx s).drop i).take n)=n:=by
  generalize (tx s).drop i=l at hn
  cases l with
  | nil=>exact absurd hn.symm (by simpa [bw] using h0)
  | cons c r=>grind [isLet,lz,signs,qm,bw]
 rw [az,hx,dp,Sw];simp;omega
abbrev VR (p:dj × Ft):DV:=.cp [.agg (xC p.1),Ft.d p.2]
set_option maxHeartbeats 2000000 in
theorem ti (s:ByteArray) (hs:s.size<=1099511627776) (i:Nat) (hi:i < s.size):cw prog 244 [.v (.string s),.v (.int .i64 i)] (VR (ir s i)):=by
 have hR:ir s i=if bw ((tx s).drop i)≠0 then (if bw ((tx s).drop i)<=32 then (⟨1,i,(i + bw ((tx s).drop i):Nat),s.extract i (i + bw ((tx s).drop i)),0⟩,(0,0)) else (zW,(9,(i:Int))))
  else if ¬ eL s i=⟨#[]⟩ then (⟨4,i,(i + (eL s i).size:Nat),eL s i,0⟩,(0,0))
  else if aE s i=45∨(48<=aE s i/\aE s i<=57) then (if (takeN s i).2.2.1=0 then (⟨2,i,(takeN s i).2.1,aY,(takeN s i).1⟩,(0,0)) else (zW,(takeN s i).2.2))
  else if aE s i=34 then (if (kX (tx s) i).2.2.1=0 then (⟨3,i,(kX (tx s) i).2.1,ba (kX (tx s) i).1,0⟩,(0,0)) else (zW,(kX (tx s) i).2.2))
  else (zW,(if okU ((tx s).drop i)=true then 3 else 2,(i:Int))):=rfl
 generalize ir s i=R at hR ⊢;have ht:=vj s i hi (by omega);have kp:=@CG s i _ rfl;have K5:=ky ((tx s).drop i);rw [List.length_drop,bf] at K5;have ht:cw prog 154 [.v (.string s),.v (.int .i64 i)] (.cp [.v (.string (s.extract i (i + bw ((tx s).drop i)))),.v (.int .i64 ((i + bw ((tx s).drop i):Nat):Int))]):=ht;have hm:=CE s hs i hi;have fl:=CB s hs i hi;have Sy:=IP hi;have VS:=xD s hs i hi;have Sz:=Eg hi;have Sc:=CF s hs i hi
 have hmz:(eL s i).size<=2:=by
  unfold eL;split
  ·decide
  ·split
   ·simp;omega
   ·decide
 obtain ⟨zi,Lk⟩:∃ zi:Int,zi=(i:Nat):=⟨_,rfl⟩;generalize bw ((tx s).drop i)=n at *;by_cases h0:n≠0
 ·rw [aj h0] at hR
  have bM:¬ s.extract i (i + n)=⟨#[]⟩:=fun h=>by
   have:=congrArg ByteArray.size h;simp at this;have h2:(ByteArray.mk #[]).size=0:=rfl;omega
  have dp:(s.extract i (i + n)).size<=4611686018427387904:=by simp;omega
  have Xt:=iL (s.extract i (i + n)) dp;rw [kp h0] at Xt;generalize s.extract i (i + n)=M at *;refine eG 103 [.cell 4 218,.cell 5 26] func244 rfl ntmps244 rfl fun _ _ _ _=>?_;refine cP yL ht ?_;refine br (fun _=>?_) (fun g=>absurd (show M=⟨#[]⟩ by simpa using g) bM);refine cP HA Xt ?_;by_cases VT:n<=32
  ·rw [aj VT] at hR;subst hR;refine br (fun g=>absurd g (by simp [VT])) (fun _=>?_);exact ⟨_,ax,rfl⟩
  ·rw [af VT] at hR;subst hR;refine br (fun _=>?_) (fun g=>absurd g (by simp;omega));exact ⟨_,ax,rfl⟩
 have h0:n=0:=by omega
 subst h0;rw [af (by simp)] at hR;rw [ov] at ht;generalize eL s i=M at *;by_cases hM:¬ M=⟨#[]⟩
 ·rw [aj hM] at hR;subst hR
  have hw:IntKind.i64.wrap ((i:Int) + M.size)=((i + M.size:Nat):Int):=by
   rw [wrap64 (by omega) (by omega)];omega
  have hX:=congrArg (fun z=>DV.v (Value.int .i64 z)) hw;refine eG 103 [.cell 4 218,.cell 5 26] func244 rfl ntmps244 rfl fun _ _ _ _=>?_;refine cP yL ht ?_;refine cP MA hm ?_;refine br (fun _=>?_) (fun g=>absurd (show M=⟨#[]⟩ by simpa using g) hM);exact ⟨_,(by repeat' (first | exact rfl | exact trivial | exact Or.inr (Or.inl ⟨_,rfl⟩) | exact Or.inr ⟨_,rfl⟩ | exact Or.inl ⟨rfl,rfl⟩ | exact Or.inl rfl | refine Or.inr ⟨_,_,rfl,Nat.zero_le _,rfl,?_⟩ | refine ⟨_,_,rfl,?_,?_⟩ | refine ⟨_,rfl,?_⟩ | exact hX | refine Or.inr (Or.inr (Or.inr ⟨_,_,rfl,?_⟩)) | exact Or.inl rfl | refine Or.inr ?_)),rfl⟩
 rw [af hM] at hR;have hM:M=⟨#[]⟩:=sU hM;subst hM;obtain ⟨z,hz⟩:∃ z:Int,z=((aE s i:Nat):Int):=⟨_,rfl⟩;have mF:((aE s (i:Int).toNat:Nat):Int)=z:=by rw [mr,hz]
 refine eG 103 [.cell 4 218,.cell 5 26] func244 rfl ntmps244 rfl fun _ _ _ _=>?_;refine cP yL ht ?_;refine cP MA hm ?_;refine ⟨⟨by omega,by omega⟩,?_⟩;rw [mF];by_cases hd:aE s i=45∨(48<=aE s i/\aE s i<=57)
 ·rw [aj hd] at hR;refine br (fun _=>?_) (fun g=>?_)
  rotate_left
  ·grind [aG,aC]
  generalize takeN s i=Q at *;obtain ⟨Q1,Q2,Q3,Q4⟩:=Q;simp only at hR Sy;refine cP Rc fl ?_;by_cases hq:Q3=0
  ·have O5:=Sy hq;injection O5 with h3 h4
   rw [aj hq] at hR;subst hR h3 h4;refine cz [0,1] (fun _=>false) mo (by decide +kernel) ?_;exact ⟨_,ax,rfl⟩
  ·rw [af hq] at hR;subst hR;refine br (fun _=>?_) (fun g=>absurd g (by simp [hq]));refine cz [0,1] (fun _=>false) mo (by decide +kernel) ?_;exact ⟨_,ax,rfl⟩
 rw [af hd] at hR;refine br (fun g=>?_) (fun _=>?_)
 ·grind [aG,aC]
 by_cases O5:aE s i=34
 ·rw [aj O5] at hR;refine br (fun _=>?_) (fun g=>absurd (show z=34 by omega) (sU g));have VS:=VS O5;generalize kX (tx s) i=Q at *;obtain ⟨Q1,Q2,Q3,Q4⟩:=Q;simp only at hR Sz;refine cP Re VS ?_;by_cases hq:Q3=0
  ·have O5:=(Sz hq).1;injection O5 with h3 h4
   rw [aj hq] at hR;subst hR h3 h4;refine cz [0,1] (fun _=>false) mo (by decide +kernel) ?_;exact ⟨_,ax,rfl⟩
  ·rw [af hq] at hR;subst hR;refine br (fun _=>?_) (fun g=>absurd g (by simp [hq]));refine cz [0,1] (fun _=>false) mo (by decide +kernel) ?_;exact ⟨_,ax,rfl⟩
 rw [af O5] at hR;subst hR;refine br (fun g=>?_) (fun _=>?_)
 ·exfalso;have:=of_decide_eq_true g;omega
 refine cP Rf Sc ?_;exact ⟨_,ax,rfl⟩
def remU:Nat->List UInt8->Nat->Nat × Ft
 | 0,_,a=>(a,(0,0))
 | _ + 1,[],a=>(a,(0,0))
 | k + 1,c :: r,a=>if c.toNat=10 then (a,(0,0)) else if okU (c :: r)=false then (0,(2,(a:Int)))
  else if ¬ recV ((c :: r).take (gA (c :: r)))=9/\kW (recV ((c :: r).take (gA (c :: r))))=true then (0,(3,(a:Int))) else remU k ((c :: r).drop (gA (c :: r))) (a + gA (c :: r))
theorem pQ:∀ (n:Nat) (l:List UInt8) (a:Nat),l.length<=n->remU n l a=remU l.length l a
 | 0,l,a,h=>by grind
 | n + 1,[],a,h=>rfl
 | n + 1,c :: r,a,h=>by
  have ih:=pQ n;rw [List.length_cons] at h;have hu:=gB (l:=c :: r) (by simp);rw [List.length_cons] at hu ⊢;have ih2:=pQ r.length
  grind [remU]
termination_by n=>n
abbrev pS (l:List UInt8) (a:Nat):=remU l.length l a
theorem vU (c:UInt8) (r:List UInt8) (a:Nat):pS (c :: r) a=if c.toNat=10 then (a,(0,0)) else if okU (c :: r)=false then (0,(2,(a:Int)))
  else if ¬ recV ((c :: r).take (gA (c :: r)))=9/\kW (recV ((c :: r).take (gA (c :: r))))=true then (0,(3,(a:Int))) else pS ((c :: r).drop (gA (c :: r))) (a + gA (c :: r)):=by
 have hu:=gB (l:=c :: r) (by simp);rw [List.length_cons] at hu;show remU (r.length + 1) (c :: r) a=_;rw [remU];split
 ·rfl
 split
 ·rfl
 split
 ·rfl
 ·grind [pQ]
theorem IQ (a:Nat):pS [] a=(a,(0,0)):=rfl
theorem xE:∀ (k:Nat) (l:List UInt8) (a:Nat),(remU k l a).2.1=0->(remU k l a).2=(0,0)/\a<=(remU k l a).1/\(remU k l a).1<=a + l.length
 | 0,l,a,_=>⟨rfl,bn _,by show a<=a + l.length;omega⟩
 | _ + 1,[],a,_=>⟨rfl,bn _,by show a<=a + 0;omega⟩
 | k + 1,c :: r,a,h=>by
  have hu:=gB (l:=c :: r) (by simp);have ih:=xE k
  grind [remU,okU,recV,gA,kW]
abbrev VU (p:Nat × Ft):DV:=.cp [.v (.int .i64 p.1),Ft.d p.2]
abbrev VV (s:ByteArray) (e:Nat):St:=⟨[(0,⟨[],.v (.string s)⟩),bQ 1 e,cE 5 0],[GR],[]⟩
theorem qD (s:ByteArray) (hs:s.size<=1099511627776) (i:Nat) (hi:i<=s.size):cw prog 243 [.v (.string s),.v (.int .i64 i)] (VU (pS ((tx s).drop i) i)):=by
 have ja:=bf s;obtain ⟨R,hR⟩:∃ R,R=pS ((tx s).drop i) i:=⟨_,rfl⟩;rw [<- hR];refine eG 45 [.tmp 4,.cell 5 26] func243 rfl ntmps243 rfl fun _ _ _ _=>?_;refine lI (fun j st=>∃ e:Nat,st=VV s e/\R=pS ((tx s).drop e) e/\e<=s.size/\j=s.size - e) ⟨i,rfl,hR,by omega,rfl⟩ (fC wB) ?_;rintro _ st ⟨e,rfl,eX,he,rfl⟩;refine br ?_ ?_<;>intro hL
 rotate_left
 ·have hge:e=s.size:=by simp at hL;omega
  rw [List.drop_eq_nil_of_le (by omega),IQ] at eX;subst eX;exact ⟨_,ax,rfl⟩
 have aS:e < s.size:=by simp at hL;omega
 obtain ⟨c,ep,hb⟩:=bp aS;have ep:(tx s).drop e=c :: (tx s).drop (e + 1):=ep;have hu:=pL s e hs c _ ep;have BL:=gB (l:=(tx s).drop e) (by rw [ep];simp);rw [List.length_drop,ja] at BL;have Lh:(tx s).drop (e + gA ((tx s).drop e))=((tx s).drop e).drop (gA ((tx s).drop e)):=by rw [List.drop_drop]
 rw [ep,vU] at eX;rw [ep] at BL Lh;have O6:gA (c :: (tx s).drop (e + 1))=if okU (c :: (tx s).drop (e + 1))=true then bK c.toNat else 1:=rfl
 generalize (tx s).drop (e + 1)=r at *;obtain ⟨z,hz⟩:∃ z:Int,z=((c.toNat:Nat):Int):=⟨_,rfl⟩;have mF:((aE s (e:Int).toNat:Nat):Int)=z:=by rw [mr,hb,hz]
 refine ⟨⟨by omega,by omega⟩,?_⟩;rw [mF];by_cases uX:c.toNat=10
 ·rw [aj uX] at eX;subst eX;refine br (fun g=>absurd g (by simp [pickB];omega)) (fun _=>?_);exact ⟨_,ax,rfl⟩
 rw [af uX] at eX;refine br (fun _=>?_) (fun g=>absurd g (by simp [pickB];omega));generalize okU (c :: r)=ok at hu eX O6;generalize gA (c :: r)=N at *;refine jt HG rfl hu ax (fun q hq=>?_);obtain ⟨zr,nr,rfl,hn,hp⟩:=hq
 cases ok with
 | false=>
  rw [aj rfl] at eX;subst eX;exact ⟨_,ax,rfl⟩
 | true=>
  rw [af (by simp)] at eX;rw [aj rfl] at O6;obtain ⟨rN,JP⟩:=hn rfl;rw [rN,<- O6] at JP;rw [<- JP] at eX;have hnN:nr=N:=by omega
  subst hnN;have hw:IntKind.i64.wrap ((e:Int) + (nr:Nat))=((e + nr:Nat):Int):=by rw [wrap64 (by omega) (by omega)];omega
  by_cases h9:zr=9
  ·rw [af (fun h=>h.1 h9),<- Lh] at eX;refine br (fun g=>absurd h9 (sU g)) (fun _=>?_);exact rE ⟨_,by omega,e + nr,rfl,eX,by omega,rfl⟩ (fC (nc hw))
  refine br (fun _=>?_) (fun g=>absurd (sU g) h9);have Xu:=qC zr;generalize kW zr=bz at Xu eX;refine cP Mz Xu ?_
  cases bz with
  | true=>
   rw [aj ⟨h9,rfl⟩] at eX;subst eX;exact ⟨_,ax,rfl⟩
  | false=>
   rw [af (fun h=>by simpa using h.2),<- Lh] at eX;exact rE ⟨_,by omega,e + nr,rfl,eX,by omega,rfl⟩ (fC (nc hw))
inductive iT (s:ByteArray):Nat->List dj->Ft->Prop
 | nil:iT s s.size [] (0,0)
 | blank {i:Nat} {l:List dj} {f:Ft}:i < s.size->gU (aE s i)=true->iT s (i + 1) l f->iT s i l f
 | rem {i e:Nat} {l:List dj} {f:Ft}:i < s.size->aE s i=59->pS ((tx s).drop i) i=(e,(0,0))->i < e->e<=s.size->iT s e l f->iT s i l f
 | Lp {i e:Nat} {f:Ft}:i < s.size->aE s i=59->pS ((tx s).drop i) i=(e,f)->¬ f.1=0->iT s i [] f
 | tok {i e:Nat} {t:dj} {l:List dj} {f:Ft}:i < s.size->gU (aE s i)=false->aE s i≠59->ir s i=(t,(0,0))->t.e=e->i < e->e<=s.size->iT s e l f->iT s i (t :: l) f
 | Lq {i:Nat} {t:dj} {f:Ft}:i < s.size->gU (aE s i)=false->aE s i≠59->ir s i=(t,f)->¬ f.1=0->iT s i [] f
theorem O7 {c:UInt8} {r:List UInt8} (h:c.toNat < 128):okU (c :: r)=true/\gA (c :: r)=1/\recV ((c :: r).take (gA (c :: r)))=c.toNat:=by
 have h1:bK c.toNat=1:=by
  unfold bK;rw [aj h]
 have h2:okU (c :: r)=true:=by
  show (decide (1<=bK c.toNat) && allC c.toNat r (bK c.toNat - 1))=true;rw [h1];rfl
 have h3:gA (c :: r)=1:=by
  show (if okU (c :: r)=true then bK c.toNat else 1)=1;rw [aj h2,h1]
 exact ⟨h2,h3,by rw [h3];rfl⟩
theorem IU {s:ByteArray} {i:Nat} {t:dj} (hi:i < s.size) (h:ir s i=(t,(0,0))):∃ e:Nat,t.e=e/\i < e/\e<=s.size/\¬ t.k=0:=by
 unfold ir at h;have K5:=ky ((tx s).drop i);rw [List.length_drop,bf] at K5;by_cases h1:bw ((tx s).drop i)≠0
 ·grind
 rw [af h1] at h;by_cases h2:¬ eL s i=⟨#[]⟩
 ·rw [aj h2] at h;injection h with h3 _
  rw [<- h3]
  have U2:1<=(eL s i).size/\i + (eL s i).size<=s.size:=by
   have h0:(eL s i).size≠0:=fun h=>h2 (by
    apply ByteArray.ext
    exact Array.eq_empty_of_size_eq_zero h)
   unfold eL at h0 ⊢;by_cases hh:sN (s.extract i s.size) mB=true
   ·rw [aj hh];unfold sN at hh;rw [aZ,decide_eq_true_iff] at hh;have h5:=hh.1;have h6:(s.extract i s.size).size=s.size - i:=by simp
    have h7:mB.size=2:=rfl;omega
   ·rw [af hh] at h0 ⊢;by_cases h8:0<=Lib.indexByte (tx jw) (aE s i).toUInt8
    ·rw [aj h8];have h6:(s.extract i (i + 1)).size=1:=by simp;omega
     omega
    ·rw [af h8] at h0;exact absurd rfl h0
  exact ⟨_,rfl,by omega,by omega,by show ¬ (4:Int)=0;decide⟩
 rw [af h2] at h;by_cases h3:aE s i=45∨(48<=aE s i/\aE s i<=57)
 ·rw [aj h3] at h;by_cases h4:(takeN s i).2.2.1=0
  ·rw [aj h4] at h;injection h with h5 _
   rw [<- h5];obtain ⟨c,ep,hb⟩:=bp hi
   have N2:(tx s)[i]? = some c:=by
    have:=congrArg List.head? ep
    rwa [List.head?_drop,List.head?_cons] at this
   have ha:(if c.toNat=45 then i + 1 else i)<=s.size:=by split<;>omega
   have hai:i<=(if c.toNat=45 then i + 1 else i):=by split<;>omega
   rw [lN N2] at h4 ⊢;generalize (if c.toNat=45 then i + 1 else i)=a at h4 ha hai ⊢;have MJ:=rn ((tx s).drop a);rw [List.length_drop,bf] at MJ;unfold qW at h4 ⊢;by_cases q1:digN ((tx s).drop a)=0/\a=s.size
   ·rw [aj q1] at h4;simp at h4
   rw [af q1] at h4 ⊢;by_cases q2:digN ((tx s).drop a)=0
   ·rw [aj q2] at h4;simp at h4
   rw [af q2] at h4 ⊢;by_cases q3:((tx s)[a]?).map UInt8.toNat=some 48/\(1 < digN ((tx s).drop a)∨(decide (c.toNat=45))=true)
   ·rw [aj q3] at h4;simp at h4
   rw [af q3] at h4 ⊢;by_cases q4:(fT (((tx s).drop a).take (digN ((tx s).drop a))) (decide (c.toNat=45))).2=true
   ·rw [aj q4];exact ⟨_,rfl,by omega,by omega,by show ¬ (2:Int)=0;decide⟩
   ·rw [af q4] at h4;simp at h4
  all_goals grind
 grind [aE,kX,tx,Eg]
theorem O8 {s:ByteArray} {i:Nat} (hi:i < s.size) (h:(ir s i).2.1=0):(ir s i).2=(0,0):=by grind [ir]
theorem oH (s:ByteArray):∀ (k i:Nat),i<=s.size->s.size - i<=k->∃ l f,iT s i l f/\(f.1=0->f=(0,0))
 | 0,i,h1,h2=>by
  have:i=s.size:=by omega
  subst this;exact ⟨[],(0,0),.nil,fun _=>rfl⟩
 | k + 1,i,h1,h2=>by
  rcases Nat.lt_or_ge i s.size with hi | hi
  ·by_cases hb:gU (aE s i)=true
   ·obtain ⟨l,f,h,hf⟩:=oH s k (i + 1) (by omega) (by omega);exact ⟨l,f,.blank hi hb h,hf⟩
   by_cases JX:aE s i=59
   ·obtain ⟨c,ep,Hl⟩:=bp hi;have ep:(tx s).drop i=c :: (tx s).drop (i + 1):=ep;have hc:c.toNat=59:=by omega
    obtain ⟨q1,q2,q3⟩:=O7 (c:=c) (r:=(tx s).drop (i + 1)) (by omega);have hu:=gB (l:=(tx s).drop i) (by rw [ep];simp);by_cases hf:(pS ((tx s).drop i) i).2.1=0
    ·have hge:i < (pS ((tx s).drop i) i).1:=by grind [vU,recV,tx,gA,kW,xE]
     obtain ⟨p1,p2,p3⟩:=xE _ _ _ hf;rw [List.length_drop,bf] at p3
     have Xv:(pS ((tx s).drop i) i).1<=s.size:=by
      have:(pS ((tx s).drop i) i).1=(remU (s.size - i) ((tx s).drop i) i).1:=by
       unfold pS;rw [List.length_drop,bf]
      omega
     obtain ⟨l,f,h,VW⟩:=oH s k _ Xv (by omega);exact ⟨l,f,.rem hi JX (by rw [<- p1]) hge Xv h,VW⟩
    ·exact ⟨[],_,.Lp hi JX rfl hf,fun h=>absurd h hf⟩
   ·have hb:gU (aE s i)=false:=sU hb;by_cases hf:(ir s i).2.1=0
    ·have h0:=O8 hi hf;obtain ⟨e,e1,e2,e3,_⟩:=IU (t:=(ir s i).1) hi (by rw [<- h0]);obtain ⟨l,f,h,VW⟩:=oH s k e e3 (by omega);exact ⟨_,f,.tok hi hb JX (by rw [<- h0]) e1 e2 e3 h,VW⟩
    ·exact ⟨[],_,.Lq hi hb JX rfl hf,fun h=>absurd h hf⟩
  ·have:i=s.size:=by omega
   subst this;exact ⟨[],(0,0),.nil,fun _=>rfl⟩
theorem ak {X:Ctx} {st:St} {k:List It} {f d:Nat} {args bE:List DV} {os VX:List (List DV)} {r:DV} (n:Nat) (fN:Enters X.P f) (hc:Ev X.P f bE os [] (fun r' fM cK=>r'=r/\fM=VX/\cK=[])) (hk:go X 4000 k ⟨(d,⟨[],r⟩) :: st.sl,VX ++ st.bx.drop n,st.tk⟩) (hd:eZ X.nt st.sl (some d)=true:=by exact rfl) (rN:Nat.ble n st.bx.length=true:=by exact rfl)
  (pg:ki [] n n 0 os (st.bx.take n):=by repeat' (first | exact rfl | exact trivial | exact Or.inr (Or.inl ⟨_,rfl⟩) | exact Or.inr ⟨_,rfl⟩ | exact Or.inl ⟨rfl,rfl⟩ | exact Or.inl rfl | refine Or.inr ⟨_,_,rfl,Nat.zero_le _,rfl,?_⟩ | exact ⟨nL rfl,rfl⟩ | refine ⟨_,_,rfl,?_,?_⟩ | refine ⟨_,rfl,?_⟩ | refine Or.inr (Or.inr (Or.inr ⟨_,_,rfl,?_⟩)) | exact Or.inl rfl | refine Or.inr ?_)) (ha:CcL [] n n 0 bE args:=by repeat' (first | exact rfl | exact trivial | exact Or.inr (Or.inl ⟨_,rfl⟩) | exact Or.inr ⟨_,rfl⟩ | exact Or.inl ⟨rfl,rfl⟩ | exact Or.inl rfl | refine Or.inr ⟨_,_,rfl,Nat.zero_le _,rfl,?_⟩ | exact ⟨nL rfl,rfl⟩ | refine ⟨_,_,rfl,?_,?_⟩ | refine ⟨_,rfl,?_⟩ | refine Or.inr (Or.inr (Or.inr ⟨_,_,rfl,?_⟩)) | exact Or.inl rfl | refine Or.inr ?_)) (bV:X.still=false:=by exact rfl) (hX:X.bt=[]:=by exact rfl):CallG X f args (some d) k st:=
 rj n 0 fN hd rN rfl pg ha hc (fun r' fM cK hΦ _ _=>by obtain ⟨rfl,rfl,rfl⟩:=hΦ;exact hk) bV hX
abbrev kN (r:DV) (c:aq) (r':DV) (os:List (List DV)) (tk:List TkE):Prop:=r'=r/\os=[aJ c]/\tk=[]
theorem av.get {c:aq} (h:av c) (h0:c.f.1=0):(fv c.l)[c.p]? = some (xC c.aA):=by
 obtain ⟨t,h1,h2⟩:=h.aA h0;rw [h2];exact F0 h1
theorem dM (c:aq) (h:av c):Ev prog 139 [.loc 0 0] [aJ c] [] (kN (.agg (xC c.aA)) c):=by
 have hg:=h.get;have O9:c.f.1≠0->c.aA=gT c.f.2:=fun h=>by rw [aq.aA,af h]
 have aS:c.p < (fv c.l).length:=by rw [gq];exact h.lt
 generalize c.aA=t at hg O9 ⊢;obtain ⟨l,p,d,f1,f2⟩:=c;obtain ⟨k,a,e,s,n⟩:=t;simp only at hg O9 aS;refine eG 35 [.cell 2 218] func139 rfl ntmps139 rfl fun _ _ _ _=>?_;refine br ?_ ?_<;>intro g
 ·have g:¬ f1=0:=sU g;obtain ⟨rfl,rfl,rfl,rfl,rfl⟩:=dj.mk.inj (O9 g);refine dS ?_;exact ⟨.agg _,[aJ _],bU,bU,rfl,rfl,rfl⟩
 ·have g:f1=0:=sU g;refine dS ?_;refine iX (hg g) ?_;exact ⟨.agg _,[aJ _],bU,bU,rfl,rfl,rfl⟩
theorem kE (c:aq):Ev prog 138 [.loc 0 0] [aJ c] [] (kN c.f.d c):=by
 obtain ⟨l,p,d,f1,f2⟩:=c;refine eG 10 [.cell 2 26] func138 rfl ntmps138 rfl fun _ _ _ _=>?_;exact ⟨.agg _,[aJ _],bU,bU,rfl,rfl,rfl⟩
theorem vV (c:aq) (h:av c):Ev prog 284 [.loc 0 0] [aJ c] [] (kN (.cp []) c.step):=by
 have hp:=dM c h;have hs:c.step=if c.aA.k=0 then c else { c with p:=c.p + 1 }:=rfl
 have hb:c.p < 274877906944:=Nat.lt_of_lt_of_le h.lt h.len;generalize c.step=C at hs ⊢;generalize c.aA=t at hp hs;obtain ⟨l,p,d,f1,f2⟩:=c;obtain ⟨k,a,e,s,n⟩:=t;simp only at hb hs;refine eG 13 [] func284 rfl ntmps284 rfl fun _ _ _ _=>?_;refine ak 1 hU hp ?_;refine br ?_ ?_<;>intro g
 ·have g:¬ k=0:=sU g;rw [af g] at hs;rw [hs]
  have hw:IntKind.i64.wrap ((p:Int) + 1)=((p + 1:Nat):Int):=by
   rw [wrap64 (by omega) (by omega)];omega
  have hX:=congrArg (fun z=>DV.v (Value.int .i64 z)) hw;exact ⟨.cp [],[aJ _],(by repeat' (first | exact rfl | exact trivial | exact Or.inr (Or.inl ⟨_,rfl⟩) | exact Or.inr ⟨_,rfl⟩ | exact Or.inl ⟨rfl,rfl⟩ | exact Or.inl rfl | refine Or.inr ⟨_,_,rfl,Nat.zero_le _,rfl,?_⟩ | refine ⟨_,_,rfl,?_,?_⟩ | refine ⟨_,rfl,?_⟩ | exact hX | exact ⟨nL rfl,rfl⟩ | refine Or.inr (Or.inr (Or.inr ⟨_,_,rfl,?_⟩)) | exact Or.inl rfl | refine Or.inr ?_)),(by repeat' (first | exact rfl | exact trivial | exact Or.inr (Or.inl ⟨_,rfl⟩) | exact Or.inr ⟨_,rfl⟩ | exact Or.inl ⟨rfl,rfl⟩ | exact Or.inl rfl | refine Or.inr ⟨_,_,rfl,Nat.zero_le _,rfl,?_⟩ | refine ⟨_,_,rfl,?_,?_⟩ | refine ⟨_,rfl,?_⟩ | exact hX | exact ⟨nL rfl,rfl⟩ | refine Or.inr (Or.inr (Or.inr ⟨_,_,rfl,?_⟩)) | exact Or.inl rfl | refine Or.inr ?_)),rfl,rfl,rfl⟩
 ·have g:k=0:=sU g;rw [aj g] at hs;rw [hs];exact ⟨.cp [],[aJ _],bU,bU,rfl,rfl,rfl⟩
theorem Eh (c:aq) (h:av c) (k:Int) (s:ByteArray):Ev prog 247 [.loc 0 0,.v (.int .i64 k),.v (.string s)] [aJ c] [] (kN (.v (.bool (c.is k s))) (c.mO k s)):=by
 have hp:=dM c h;have hs:=vV c h;have hI:c.is k s=(decide (c.aA.k=k) && decide (c.aA.s=s)):=rfl;have hC:c.mO k s=if c.is k s then c.step else c:=rfl
 generalize c.mO k s=C2 at hC ⊢;generalize c.is k s=B at hI hC ⊢;generalize c.step=C1 at hs hC;generalize c.aA=t at hp hI;obtain ⟨tk,ta,te,ts,tn⟩:=t;obtain ⟨l,p,d,f1,f2⟩:=c;obtain ⟨l1,p1,d1,f11,f21⟩:=C1;simp only at hI;refine eG 22 [.tmp 6] func247 rfl ntmps247 rfl fun _ _ _ _=>?_;refine ak 1 hU hp ?_;refine br ?_ ?_<;>intro g
 ·have hB:B=false:=by
   rw [hI];have g:¬tk=k∨¬ts=s:=by simpa [aG] using g
   rcases g with g | g<;>simp [g]
  subst hB;rw [af (by simp)] at hC;rw [hC];exact ⟨.v (.bool false),[aJ _],bU,bU,rfl,rfl,rfl⟩
 ·have hB:B=true:=by rw [hI];simpa [aG] using g
  subst hB;rw [aj rfl] at hC;rw [hC];refine ak 1 Mx hs ?_;exact ⟨.v (.bool true),[aJ _],bU,bU,rfl,rfl,rfl⟩
theorem ej (c:aq) (h:av c) (s:ByteArray):Ev prog 220 [.loc 0 0,.v (.string s)] [aJ c] [] (kN (.v (.bool (c.is 4 s))) (c.mO 4 s)):=by
 have hs:=Eh c h 4 s;generalize c.mO 4 s=C2 at hs ⊢;generalize c.is 4 s=B at hs ⊢;obtain ⟨l,p,d,f1,f2⟩:=c;obtain ⟨l1,p1,d1,f11,f21⟩:=C2;refine eG 8 [.tmp 4] func220 rfl ntmps220 rfl fun _ _ _ _=>?_;refine ak 1 Mv hs ?_;exact ⟨.v (.bool B),[aJ _],bU,bU,rfl,rfl,rfl⟩
theorem cQ (c:aq) (h:av c) (s:ByteArray):Ev prog 163 [.loc 0 0,.v (.string s)] [aJ c] [] (kN (.v (.bool (c.is 1 s))) (c.mO 1 s)):=by
 have hs:=Eh c h 1 s;generalize c.mO 1 s=C2 at hs ⊢;generalize c.is 1 s=B at hs ⊢;obtain ⟨l,p,d,f1,f2⟩:=c;obtain ⟨l1,p1,d1,f11,f21⟩:=C2;refine eG 8 [.tmp 4] func163 rfl ntmps163 rfl fun _ _ _ _=>?_;refine ak 1 Mv hs ?_;exact ⟨.v (.bool B),[aJ _],bU,bU,rfl,rfl,rfl⟩
theorem tj (c:aq) (h:av c) (k:Int):Ev prog 246 [.loc 0 0,.v (.int .i64 k)] [aJ c] [] (kN (.cp [.agg (xC (c.td k)),.v (.bool (c.tk k))]) (c.PX k)):=by
 have hp:=dM c h;have hs:=vV c h;have hI:c.tk k=(!decide (c.aA.k=0) && decide (c.aA.k=k)):=rfl;have hT:c.td k=if c.tk k then c.aA else ⟨0,0,0,aY,0⟩:=rfl
 have hC:c.PX k=if c.tk k then c.step else c:=rfl
 generalize c.PX k=C2 at hC ⊢;generalize c.td k=T2 at hT ⊢;generalize c.tk k=B at hI hC hT ⊢;generalize c.step=C1 at hs hC;generalize c.aA=t at hp hI hT;obtain ⟨tk,ta,te,ts,tn⟩:=t;obtain ⟨l,p,d,f1,f2⟩:=c;obtain ⟨l1,p1,d1,f11,f21⟩:=C1;simp only at hI;refine eG 22 [.cell 4 218,.tmp 5] func246 rfl ntmps246 rfl fun _ _ _ _=>?_;refine ak 1 hU hp ?_;refine br ?_ ?_<;>intro g
 ·have hB:B=false:=by
   rw [hI];have g:tk=0∨¬tk=k:=by simpa [aG] using g
   rcases g with g | g<;>simp [g]
  subst hB;rw [af (by simp)] at hC hT;rw [hC,hT];exact ⟨.cp [.agg (xC ⟨0,0,0,aY,0⟩),.v (.bool false)],[aJ _],bU,bU,rfl,rfl,rfl⟩
 ·have hB:B=true:=by rw [hI];simpa [aG] using g
  subst hB;rw [aj rfl] at hC hT;rw [hC,hT];refine ak 1 Mx hs ?_;exact ⟨.cp [.agg (xC _),.v (.bool true)],[aJ _],bU,bU,rfl,rfl,rfl⟩
theorem qE (c:aq) (e a:Int):Ev prog 250 [.loc 0 0,.v (.int .i64 e),.v (.int .i64 a)] [aJ c] [] (kN (.cp []) (c.cm e a)):=by
 have hC:c.cm e a=if c.f.1=0/\e≠0 then { c with f:=(e,a) } else c:=rfl
 generalize c.cm e a=C2 at hC ⊢;obtain ⟨l,p,d,f1,f2⟩:=c;simp only at hC;refine eG 26 [] func250 rfl ntmps250 rfl fun _ _ _ _=>?_;refine br ?_ ?_<;>intro g
 ·have g:f1=0/\e≠0:=by simpa [aC] using g
  rw [aj g] at hC;rw [hC];exact ⟨.cp [],[aJ _],bU,bU,rfl,rfl,rfl⟩
 ·have g:¬ (f1=0/\e≠0):=by simpa [aC] using g
  rw [af g] at hC;rw [hC];exact ⟨.cp [],[aJ _],bU,bU,rfl,rfl,rfl⟩
theorem gv (c:aq) (h:av c) (e:Int):Ev prog 168 [.loc 0 0,.v (.int .i64 e)] [aJ c] [] (kN (.cp []) (c.fail e)):=by
 have hp:=dM c h;have hs:=qE c e c.aA.a;have hC:c.fail e=c.cm e c.aA.a:=rfl;rw [hC];generalize c.cm e c.aA.a=C2 at hs ⊢;generalize c.aA=t at hp hs;obtain ⟨tk,ta,te,ts,tn⟩:=t;obtain ⟨l,p,d,f1,f2⟩:=c;obtain ⟨l1,p1,d1,f11,f21⟩:=C2;simp only at hs;refine eG 10 [] func168 rfl ntmps168 rfl fun _ _ _ _=>?_;refine ak 1 hU hp ?_;refine ak 1 Mw hs ?_;exact ⟨.cp [],[aJ _],bU,bU,rfl,rfl,rfl⟩
theorem bR (c:aq) (h:av c) (s:ByteArray):Ev prog 159 [.loc 0 0,.v (.string s)] [aJ c] [] (kN (.v (.bool (c.is 4 s))) (c.ae s)):=by
 have hm:=ej c h s;have hp:=dM c h;have h5:=gv c h 5;have h4:=gv c h 4;have hC:c.ae s=if c.is 4 s then c.step else c.fail (if c.aA.k=0 then 5 else 4):=rfl
 have hM:c.mO 4 s=if c.is 4 s then c.step else c:=rfl
 rw [hM] at hm;generalize c.ae s=C2 at hC ⊢;generalize c.is 4 s=B at hC hm ⊢;generalize c.step=C1 at hm hC;generalize c.aA=t at hp hC;obtain ⟨tk,ta,te,ts,tn⟩:=t;simp only at hC
 cases B with
 | true=>
  rw [aj rfl] at hC hm;rw [hC];obtain ⟨l,p,d,f1,f2⟩:=c;obtain ⟨l1,p1,d1,f11,f21⟩:=C1;refine eG 16 [.tmp 4] func159 rfl ntmps159 rfl fun _ _ _ _=>?_;refine ak 1 fD hm ?_;exact ⟨.v (.bool true),[aJ _],bU,bU,rfl,rfl,rfl⟩
 | false=>
  rw [af (by simp)] at hC hm;rw [hC];have e5:tk=0->c.fail (if tk=0 then 5 else 4)=c.fail 5:=fun g=>by rw [aj g]
  have e4:¬ tk=0->c.fail (if tk=0 then 5 else 4)=c.fail 4:=fun g=>by rw [af g]
  generalize c.fail (if tk=0 then 5 else 4)=CX at e5 e4 ⊢;generalize c.fail 5=C5 at h5 e5;generalize c.fail 4=C4 at h4 e4;obtain ⟨l,p,d,f1,f2⟩:=c;obtain ⟨l5,p5,d5,f15,f25⟩:=C5;obtain ⟨l4,p4,d4,f14,f24⟩:=C4;refine eG 16 [.tmp 4] func159 rfl ntmps159 rfl fun _ _ _ _=>?_;refine ak 1 fD hm ?_;refine ak 1 hU hp ?_;refine br ?_ ?_<;>intro g
  ·have g:tk=0:=sU g;rw [e5 g];refine ak 1 sq h5 ?_;exact ⟨.v (.bool false),[aJ _],bU,bU,rfl,rfl,rfl⟩
  ·have g:¬ tk=0:=sU g;rw [e4 g];refine ak 1 sq h4 ?_;exact ⟨.v (.bool false),[aJ _],bU,bU,rfl,rfl,rfl⟩
theorem tq (c:aq) (h:av c):Ev prog 248 [.loc 0 0] [aJ c] [] (kN (.v (.bool c.enter)) c.nG):=by
 have hf:=gv c h 6;have hI:c.enter = !decide (c.d=24):=rfl;have hC:c.nG=if c.d=24 then c.fail 6 else { c with d:=c.d + 1 }:=rfl
 have hd:=h.dl;generalize c.nG=C2 at hC ⊢;generalize c.enter=B at hI ⊢;generalize c.fail 6=C6 at hf hC;obtain ⟨l,p,d,f1,f2⟩:=c;obtain ⟨l1,p1,d1,f11,f21⟩:=C6;simp only at hI hC hd;refine eG 21 [.tmp 2] func248 rfl ntmps248 rfl fun _ _ _ _=>?_;refine br ?_ ?_<;>intro g
 ·have g:(d:Int)=24:=of_decide_eq_true g;have g:d=24:=by omega
  rw [aj g] at hC;rw [hC,hI,decide_eq_true g];refine ak 1 sq hf ?_;exact ⟨.v (.bool false),[aJ _],bU,bU,rfl,rfl,rfl⟩
 ·have g:¬ (d:Int)=24:=of_decide_eq_false g;have g:¬ d=24:=by omega
  rw [decide_eq_false g] at hI;rw [af g] at hC;rw [hC,hI]
  have hw:IntKind.i64.wrap ((d:Int) + 1)=((d + 1:Nat):Int):=by
   rw [wrap64 (by omega) (by omega)];omega
  have hX:=congrArg (fun z=>DV.v (Value.int .i64 z)) hw;exact ⟨.v (.bool true),[aJ _],(by repeat' (first | exact rfl | exact trivial | exact Or.inr (Or.inl ⟨_,rfl⟩) | exact Or.inr ⟨_,rfl⟩ | exact Or.inl ⟨rfl,rfl⟩ | exact Or.inl rfl | refine Or.inr ⟨_,_,rfl,Nat.zero_le _,rfl,?_⟩ | refine ⟨_,_,rfl,?_,?_⟩ | refine ⟨_,rfl,?_⟩ | exact hX | exact ⟨nL rfl,rfl⟩ | refine Or.inr (Or.inr (Or.inr ⟨_,_,rfl,?_⟩)) | exact Or.inl rfl | refine Or.inr ?_)),(by repeat' (first | exact rfl | exact trivial | exact Or.inr (Or.inl ⟨_,rfl⟩) | exact Or.inr ⟨_,rfl⟩ | exact Or.inl ⟨rfl,rfl⟩ | exact Or.inl rfl | refine Or.inr ⟨_,_,rfl,Nat.zero_le _,rfl,?_⟩ | refine ⟨_,_,rfl,?_,?_⟩ | refine ⟨_,rfl,?_⟩ | exact hX | exact ⟨nL rfl,rfl⟩ | refine Or.inr (Or.inr (Or.inr ⟨_,_,rfl,?_⟩)) | exact Or.inl rfl | refine Or.inr ?_)),rfl,rfl,rfl⟩
theorem nH (c:aq) (h:av c):Ev prog 225 [.loc 0 0] [aJ c] [] (kN (.cp []) c.leave):=by
 have hC:c.leave={ c with d:=c.d - 1 }:=rfl;have hd:=h.dl;generalize c.leave=C2 at hC ⊢;obtain ⟨l,p,d,f1,f2⟩:=c;simp only at hC hd;refine eG 13 [] func225 rfl ntmps225 rfl fun _ _ _ _=>?_;rw [hC]
 have hw:max (IntKind.i64.wrap ((d:Int) - 1)) 0=((d - 1:Nat):Int):=by
  rw [wrap64 (by omega) (by omega)];omega
 have hX:=congrArg (fun z=>DV.v (Value.int .i64 z)) hw;exact ⟨.cp [],[aJ _],(by repeat' (first | exact rfl | exact trivial | exact Or.inr (Or.inl ⟨_,rfl⟩) | exact Or.inr ⟨_,rfl⟩ | exact Or.inl ⟨rfl,rfl⟩ | exact Or.inl rfl | refine Or.inr ⟨_,_,rfl,Nat.zero_le _,rfl,?_⟩ | refine ⟨_,_,rfl,?_,?_⟩ | refine ⟨_,rfl,?_⟩ | exact hX | exact ⟨nL rfl,rfl⟩ | refine Or.inr (Or.inr (Or.inr ⟨_,_,rfl,?_⟩)) | exact Or.inl rfl | refine Or.inr ?_)),(by repeat' (first | exact rfl | exact trivial | exact Or.inr (Or.inl ⟨_,rfl⟩) | exact Or.inr ⟨_,rfl⟩ | exact Or.inl ⟨rfl,rfl⟩ | exact Or.inl rfl | refine Or.inr ⟨_,_,rfl,Nat.zero_le _,rfl,?_⟩ | refine ⟨_,_,rfl,?_,?_⟩ | refine ⟨_,rfl,?_⟩ | exact hX | exact ⟨nL rfl,rfl⟩ | refine Or.inr (Or.inr (Or.inr ⟨_,_,rfl,?_⟩)) | exact Or.inl rfl | refine Or.inr ?_)),rfl,rfl,rfl⟩
abbrev gI:DV:=.agg [.loc 0 0]
def aq.kw (c:aq) (s:ByteArray):aq:=if c.is 1 s then c.step else c.wrong
def aq.aH (c:aq):Wd:=⟨(c.td 1).s,(c.td 1).a⟩
def aq.ai (c:aq):aq:=if c.tk 1 then c.step else c.wrong
theorem gJ (c:aq) (h:av c):Ev prog 245 [gI] [aJ c] [] (kN (.cp []) c.wrong):=by
 have hp:=dM c h;have h5:=gv c h 5;have h4:=gv c h 4;have hC:c.wrong=c.fail (if c.aA.k=0 then 5 else 4):=rfl;rw [hC];generalize c.aA=t at hp ⊢;obtain ⟨tk,ta,te,ts,tn⟩:=t;simp only;have e5:tk=0->c.fail (if tk=0 then 5 else 4)=c.fail 5:=fun g=>by rw [aj g]
 have e4:¬ tk=0->c.fail (if tk=0 then 5 else 4)=c.fail 4:=fun g=>by rw [af g]
 generalize c.fail (if tk=0 then 5 else 4)=CX at e5 e4 ⊢;generalize c.fail 5=C5 at h5 e5;generalize c.fail 4=C4 at h4 e4;obtain ⟨l,p,d,f1,f2⟩:=c;obtain ⟨l5,p5,d5,f15,f25⟩:=C5;obtain ⟨l4,p4,d4,f14,f24⟩:=C4;refine eG 13 [] func245 rfl ntmps245 rfl fun _ _ _ _=>?_;refine ak 1 hU hp ?_;refine br ?_ ?_<;>intro g
 ·have g:tk=0:=sU g;rw [e5 g];refine ak 1 sq h5 ?_;exact ⟨.cp [],[aJ _],bU,bU,rfl,rfl,rfl⟩
 ·have g:¬ tk=0:=sU g;rw [e4 g];refine ak 1 sq h4 ?_;exact ⟨.cp [],[aJ _],bU,bU,rfl,rfl,rfl⟩
theorem kF (c:aq):Ev prog 167 [gI] [aJ c] [] (kN (.v (.bool (decide (c.f.1=0)))) c):=by
 have hf:=kE c;obtain ⟨l,p,d,f1,f2⟩:=c;refine eG 8 [.tmp 2] func167 rfl ntmps167 rfl fun _ _ _ _=>?_;refine ak 1 DM hf ?_;exact ⟨.v (.bool _),[aJ _],bU,bU,rfl,rfl,rfl⟩
theorem oJ (c:aq) (h:av c) (s:ByteArray):Ev prog 158 [gI,.v (.string s)] [aJ c] [] (kN (.cp []) (c.kw s)):=by
 have hm:=cQ c h s;have hw:=gJ c h;have hC:c.kw s=if c.is 1 s then c.step else c.wrong:=rfl
 have hM:c.mO 1 s=if c.is 1 s then c.step else c:=rfl
 rw [hM] at hm;generalize c.kw s=C2 at hC ⊢;generalize c.is 1 s=B at hC hm
 cases B with
 | true=>
  rw [aj rfl] at hC hm;rw [hC];generalize c.step=C1 at hm ⊢;obtain ⟨l,p,d,f1,f2⟩:=c;obtain ⟨l1,p1,d1,f11,f21⟩:=C1;refine eG 11 [] func158 rfl ntmps158 rfl fun _ _ _ _=>?_;refine ak 1 fU hm ?_;exact ⟨.cp [],[aJ _],bU,bU,rfl,rfl,rfl⟩
 | false=>
  rw [af (by simp)] at hC hm;rw [hC];generalize c.wrong=C1 at hw ⊢;obtain ⟨l,p,d,f1,f2⟩:=c;obtain ⟨l1,p1,d1,f11,f21⟩:=C1;refine eG 11 [] func158 rfl ntmps158 rfl fun _ _ _ _=>?_;refine ak 1 fU hm ?_;refine ak 1 yN hw ?_;exact ⟨.cp [],[aJ _],bU,bU,rfl,rfl,rfl⟩
theorem dB (c:aq) (h:av c):Ev prog 162 [gI] [aJ c] [] (kN (.agg (lg c.aH)) c.ai):=by
 have hm:=tj c h 1;have hw:=gJ c h;have hC:c.ai=if c.tk 1 then c.step else c.wrong:=rfl
 have hW:c.aH=⟨(c.td 1).s,(c.td 1).a⟩:=rfl;have hM:c.PX 1=if c.tk 1 then c.step else c:=rfl
 rw [hM] at hm;generalize c.ai=C2 at hC ⊢;generalize c.aH=W at hW ⊢;generalize c.td 1=t at hm hW;obtain ⟨tk,ta,te,ts,tn⟩:=t;simp only at hW;rw [hW];generalize c.tk 1=B at hC hm
 cases B with
 | true=>
  rw [aj rfl] at hC hm;rw [hC];generalize c.step=C1 at hm ⊢;obtain ⟨l,p,d,f1,f2⟩:=c;obtain ⟨l1,p1,d1,f11,f21⟩:=C1;refine eG 20 [.cell 2 34] func162 rfl ntmps162 rfl fun _ _ _ _=>?_;refine ak 1 vg hm ?_;exact ⟨.agg (lg _),[aJ _],bU,bU,rfl,rfl,rfl⟩
 | false=>
  rw [af (by simp)] at hC hm;rw [hC];generalize c.wrong=C1 at hw ⊢;obtain ⟨l,p,d,f1,f2⟩:=c;obtain ⟨l1,p1,d1,f11,f21⟩:=C1;refine eG 20 [.cell 2 34] func162 rfl ntmps162 rfl fun _ _ _ _=>?_;refine ak 1 vg hm ?_;refine ak 1 yN hw ?_;exact ⟨.agg (lg _),[aJ _],bU,bU,rfl,rfl,rfl⟩
theorem av.kw {c:aq} (h:av c) (s:ByteArray):av (c.kw s):=by
 unfold aq.kw;split
 ·exact h.step
 ·exact h.wrong
theorem av.ai {c:aq} (h:av c):av c.ai:=by
 unfold aq.ai;split
 ·exact h.step
 ·exact h.wrong
theorem zX {c:aq} (h:c.f.1≠0):c.aA=gT c.f.2:=by rw [aq.aA,af h]
theorem eM {c:aq} (h:c.f.1≠0) {k:Int} (hk:k≠0) (s:ByteArray):c.is k s=false:=by
 rw [aq.is,zX h];simp [gT,Ne.symm hk]
theorem tu {c:aq} (h:c.f.1≠0) (k:Int):c.tk k=false:=by
 rw [aq.tk,zX h];simp [gT]
theorem tv {c:aq} (h:c.f.1≠0) (e a:Int):c.cm e a=c:=by rw [aq.cm,af (fun g=>h g.1)]
theorem gw {c:aq} (h:c.f.1≠0):c.wrong=c:=tv h _ _
theorem cG {c:aq} (h:c.f.1≠0) (s:ByteArray):c.ae s=c:=by rw [aq.ae,eM h (by decide),af (by simp),gw h]
theorem xF {c:aq} (h:c.f.1≠0) (s:ByteArray):c.kw s=c:=by rw [aq.kw,eM h (by decide),af (by simp),gw h]
theorem dN {c:aq} (h:c.f.1≠0):c.ai=c:=by rw [aq.ai,tu h,af (by simp),gw h]
end Go.Proofs.YtfdedoiiahbnnaaGreat
set_option maxRecDepth 100000
namespace Go.Proofs.YtfdedoiiahbnnaaGreat
namespace Dv
open Go Go.RowKit
mutual
theorem Ei {bx:List (List DV)} {N n m:Nat}:∀ {d:DV},clB n m d=true->Cc bx N n m d d
 | .v _,_=>by simp only [Cc]
 | .ud,_=>by simp only [Cc]
 | .agg l,h=>by simp only [Cc];exact ⟨l,rfl,bL (by simpa [clB] using h)⟩
 | .cp l,h=>by simp only [Cc];exact ⟨l,rfl,bL (by simpa [clB] using h)⟩
 | .sl e es none,_=>by simp only [Cc];exact .inr (.inl ⟨none,rfl⟩)
 | .sl e es (some k),h=>by simp only [Cc];exact ⟨by simpa [clB] using h,trivial⟩
 | .pt cs o,_=>by simp only [Cc];exact .inl trivial
 | .loc i o,h=>by simp only [Cc];exact ⟨by simpa [clB] using h,trivial⟩
 | .el i o,h=>by simp only [Cc];exact ⟨by simpa [clB] using h,trivial⟩
 | .ms i e o l c,h=>by simp only [Cc];exact ⟨by simpa [clB] using h,trivial⟩
 | .fn f a b,h=>by
  simp only [clB,aZ] at h;simp only [Cc];exact ⟨a,b,rfl,bL h.1,bL h.2⟩
 | .nR t x,h=>by simp only [Cc];exact ⟨x,rfl,Ei (by simpa [clB] using h)⟩
theorem bL {bx:List (List DV)} {N n m:Nat}:∀ {l:List DV},clB.clL n m l=true->CcL bx N n m l l
 | [],_=>by simp only [CcL]
 | d :: r,h=>by
  simp only [clB.clL,aZ] at h;simp only [CcL];exact ⟨d,r,rfl,Ei h.1,bL h.2⟩
end
mutual
theorem zY {n n' m:Nat} (hn:n<=n'):∀ {d:DV},clB n m d=true->clB n' m d=true
 | .v _,_=>rfl
 | .ud,_=>rfl
 | .agg l,h=>by simp only [clB] at h ⊢;exact jS hn h
 | .cp l,h=>by simp only [clB] at h ⊢;exact jS hn h
 | .sl e es none,_=>rfl
 | .sl e es (some k),h=>by simpa [clB] using h
 | .pt cs o,_=>rfl
 | .loc i o,h=>by simp [clB] at h ⊢;omega
 | .el i o,h=>by simp [clB] at h ⊢;omega
 | .ms i e o l c,h=>by simp [clB] at h ⊢;omega
 | .fn f a b,h=>by
  simp only [clB,aZ] at h ⊢;exact ⟨jS hn h.1,jS hn h.2⟩
 | .nR t x,h=>by simp only [clB] at h ⊢;exact zY hn h
theorem jS {n n' m:Nat} (hn:n<=n'):∀ {l:List DV},clB.clL n m l=true->clB.clL n' m l=true
 | [],_=>rfl
 | d :: r,h=>by
  simp only [clB.clL,aZ] at h ⊢;exact ⟨zY hn h.1,jS hn h.2⟩
end
theorem dO {n m:Nat} {tk:List TkE}:∀ {l:List DV},clB.clL n m l=true->WeL n m tk l l
 | [],_=>by simp only [WeL]
 | d :: r,h=>by
  simp only [clB.clL,aZ] at h;simp only [WeL];exact ⟨d,r,rfl,.inl ⟨rfl,h.1⟩,dO h.2⟩
end Dv
open Go Go.RowKit Dv Go.Proofs.Tryz
def listF {α:Type} (f:aq->α->aq × α) (e:ByteArray):Nat->aq->α->aq × α
 | 0,c,a=>(c,a)
 | n + 1,c,a=>if c.f.1=0 then (if (f c a).1.is 4 e then ((f c a).1.step,(f c a).2) else listF f e n ((f c a).1.ae ⟨#[44]⟩) (f c a).2) else (c,a)
structure tw {α:Type} (A B C:α->List DV) (T:α->TkE) (f:aq->α->aq × α) (Inv:aq->α->Prop) (g i j:Nat) (c:aq) (a:α):Prop where
 ok:av (f c a).1
 l:(f c a).1.l=c.l
 p:c.p<=(f c a).1.p
 inv:Inv (f c a).1 (f c a).2
 ev:Ev prog g [.loc i 0,.loc j 0] [aJ c,A a,B a,C a] [T a] (fun r os tk=>r = .cp []/\os=[aJ (f c a).1,A (f c a).2,B (f c a).2,C (f c a).2]/\tk=[T (f c a).2])
abbrev Pa (g i j:Nat) (e:ByteArray) (c:aq) (X Y Z:List DV) (q:TkE):St:=⟨[(1,⟨[],.v (.string e)⟩),(3,⟨[],.fn g [] [.loc i 0,.loc j 0]⟩),cE 4 4],[aJ c,X,Y,Z,[.loc 0 0]],[q]⟩
theorem aq.Pb (c:aq) (s:ByteArray):(c.ae s).l=c.l:=by
 unfold aq.ae aq.step aq.wrong aq.fail aq.cm
 repeat' split
 all_goals rfl
theorem aq.Pc (c:aq) (s:ByteArray) (h:(c.ae s).f.1=0):(c.ae s).p=c.p + 1:=by
 have hk:c.is 4 s=true->¬ c.aA.k=0:=fun h=>by
  simp only [aq.is,aZ,decide_eq_true_eq] at h;omega
 unfold aq.ae at h ⊢;split
 ·rename_i hi;unfold aq.step;rw [af (hk hi)]
 ·rename_i hi;rw [af hi] at h;unfold aq.wrong aq.fail aq.cm at h;exfalso;by_cases h0:c.f.1=0
  ·by_cases h1:c.aA.k=0
   ·rw [aj ⟨h0,by rw [aj h1];decide⟩,aj h1] at h;exact absurd h (by simp)
   ·rw [aj ⟨h0,by rw [af h1];decide⟩,af h1] at h;exact absurd h (by simp)
  ·rw [af (fun g=>h0 g.1)] at h;exact h0 h
def mP {α:Type} (none:Bool) (f:aq->α->aq × α) (e:ByteArray) (N:Nat) (c:aq) (a:α):aq × α:=if (none && c.is 4 e)=true then (c.step,a) else listF f e N c a
theorem zZ {α:Type} {A B C:α->List DV} {T:α->TkE} {f:aq->α->aq × α} {Inv:aq->α->Prop} {g i j:Nat} (none:Bool) (hi:i < 4) (hj:j < 4) (hA:∀ a,clB.clL 4 1 (A a)=true) (hB:∀ a,clB.clL 4 1 (B a)=true) (hC:∀ a,clB.clL 4 1 (C a)=true) (fN:Enters prog g)
  (gR:∀ c a,av c->Inv c a->c.f.1=0->tw A B C T f Inv g i j c a) (z7:∀ c a,av c->Inv c a->Inv (c.ae ⟨#[44]⟩) a) (e:ByteArray) (N:Nat) (c:aq) (a:α) (hc:av c) (ha:Inv c a) (hN:c.l.length<=c.p + N) :
  Ev prog 160 [gI,.v (.string e),.v (.bool none),.fn g [] [.loc i 0,.loc j 0]] [aJ c,A a,B a,C a] [T a]
   (fun r os tk=>r = .cp []/\os=[aJ (mP none f e N c a).1,A (mP none f e N c a).2,B (mP none f e N c a).2,C (mP none f e N c a).2]/\tk=[T (mP none f e N c a).2]):=by
 have h5:∀ X:α->List DV,(∀ a,clB.clL 4 1 (X a)=true)->∀ a,clB.clL 5 1 (X a)=true:=fun X h a=>jS (by omega) (h a);have TL:=h5 A hA;have TM:=h5 B hB;have TN:=h5 C hC
 have ya:clB 5 1 (.fn g [] [.loc i 0,.loc j 0])=true:=by
  simp [clB,clB.clL];omega
 have oW:=ej c hc e;have SA:mP none f e N c a=if (none && c.is 4 e)=true then (c.step,a) else listF f e N c a:=rfl
 unfold aq.mO at oW;generalize mP none f e N c a=LT at SA ⊢;refine eG 26 [] func160 rfl ntmps160 rfl fun _ _ _ _=>?_;by_cases Pd:(none && c.is 4 e)=true
 ·rw [aj Pd] at SA;rw [aZ] at Pd;obtain ⟨rfl,Pd⟩:=Pd;rw [Pd,aj rfl] at oW;subst SA;refine ak 1 fD oW ?_;exact ⟨.cp [],[aJ c.step,A a,B a,C a],(by repeat' (first | exact rfl | exact trivial | exact Or.inr (Or.inl ⟨_,rfl⟩) | exact Or.inr ⟨_,rfl⟩ | exact Or.inl ⟨rfl,rfl⟩ | exact Or.inl rfl | refine Or.inr ⟨_,_,rfl,Nat.zero_le _,rfl,?_⟩ | refine ⟨_,_,rfl,?_,?_⟩ | refine ⟨_,rfl,?_⟩ | exact ⟨nL rfl,rfl⟩ | exact bL (hA _) | exact bL (hB _) | exact bL (hC _) | refine Or.inr (Or.inr (Or.inr ⟨_,_,rfl,?_⟩)) | exact Or.inl rfl | refine Or.inr ?_)),(by repeat' (first | exact rfl | exact trivial | exact Or.inr (Or.inl ⟨_,rfl⟩) | exact Or.inr ⟨_,rfl⟩ | exact Or.inl ⟨rfl,rfl⟩ | exact Or.inl rfl | refine Or.inr ⟨_,_,rfl,Nat.zero_le _,rfl,?_⟩ | refine ⟨_,_,rfl,?_,?_⟩ | refine ⟨_,rfl,?_⟩ | exact ⟨nL rfl,rfl⟩ | exact bL (hA _) | exact bL (hB _) | exact bL (hC _) | refine Or.inr (Or.inr (Or.inr ⟨_,_,rfl,?_⟩)) | exact Or.inl rfl | refine Or.inr ?_)),rfl,rfl,rfl⟩
 rw [af Pd] at SA;subst SA;cases none
 rotate_left
 rw [show c.is 4 e=false by simpa using Pd,af (by simp)] at oW;refine ak 1 fD oW ?_
 all_goals
  refine de (fun n st=>∃ c' a',st=Pa g i j e c' (A a') (B a') (C a') (T a')/\av c' /\ Inv c' a' /\ (c'.f.1=0->c'.l.length<=c'.p + n)/\listF f e N c a=listF f e n c' a') N (Pa g i j e c (A a) (B a) (C a) (T a)) (yc 5 (by repeat' (first | exact rfl | exact aQ rfl | exact Or.inl ⟨rfl,ya⟩ | exact dO (TL _) | exact dO (TM _) | exact dO (TN _) | refine ⟨_,_,rfl,?_,?_⟩)) (by repeat' (first | exact trivial | exact aQ rfl | exact Or.inl ⟨rfl,ya⟩ | exact dO (TL _) | exact dO (TM _) | exact dO (TN _) | refine ⟨⟨_,rfl,?_⟩,?_⟩))) ⟨c,a,rfl,hc,ha,fun _=>hN,rfl⟩ ?_;rintro n st ⟨c',a',rfl,yr,MP,hn,dT⟩;have hf:=kF c';refine ak 1 DO hf ?_;refine br ?_ ?_<;>intro q
  ·have q:c'.f.1=0:=sU q;have h1:=gR c' a' yr MP q;have hn:=hn q;have aS:=yr.lt
   match n,hn with
   | 0,hn=>omega
   | n + 1,hn=>
    rw [listF,aj q] at dT;generalize hF:f c' a'=F at dT;obtain ⟨c1,a1⟩:=F;have GK:=h1.ev;have kp:=h1.ok;have qh:=h1.l;have Xw:=h1.p;have VY:=h1.inv;rw [hF] at GK kp qh Xw VY;simp only at GK kp qh Xw VY dT;refine rj 4 1 fN rfl rfl rfl (by repeat' (first | exact rfl | exact trivial | exact Or.inr (Or.inl ⟨_,rfl⟩) | exact Or.inr ⟨_,rfl⟩ | exact Or.inl ⟨rfl,rfl⟩ | exact Or.inl rfl | refine Or.inr ⟨_,_,rfl,Nat.zero_le _,rfl,?_⟩ | refine ⟨_,_,rfl,?_,?_⟩ | refine ⟨_,rfl,?_⟩ | exact ⟨nL rfl,rfl⟩ | exact bL (hA _) | exact bL (hB _) | exact bL (hC _) | refine Or.inr (Or.inr (Or.inr ⟨_,_,rfl,?_⟩)) | exact Or.inl rfl | refine Or.inr ?_)) (by repeat' (first | exact rfl | exact trivial | exact Or.inr (Or.inl ⟨_,rfl⟩) | exact Or.inr ⟨_,rfl⟩ | exact Or.inl ⟨rfl,rfl⟩ | exact Or.inl rfl | refine Or.inr ⟨_,_,rfl,Nat.zero_le _,rfl,?_⟩ | refine ⟨_,_,rfl,?_,?_⟩ | refine ⟨_,rfl,?_⟩ | exact ⟨hi,rfl⟩ | exact ⟨hj,rfl⟩ | refine Or.inr (Or.inr (Or.inr ⟨_,_,rfl,?_⟩)) | exact Or.inl rfl | refine Or.inr ?_)) GK (fun r fM cK hΦ _ _=>?_);obtain ⟨rfl,rfl,rfl⟩:=hΦ;have hm:=ej c1 kp e;refine ak 1 fD hm ?_;unfold aq.mO
    cases hb:c1.is 4 e with
    | true=>
     rw [hb,aj rfl] at dT;rw [dT,aj rfl];exact ⟨.cp [],[aJ c1.step,A a1,B a1,C a1],(by repeat' (first | exact rfl | exact trivial | exact Or.inr (Or.inl ⟨_,rfl⟩) | exact Or.inr ⟨_,rfl⟩ | exact Or.inl ⟨rfl,rfl⟩ | exact Or.inl rfl | refine Or.inr ⟨_,_,rfl,Nat.zero_le _,rfl,?_⟩ | refine ⟨_,_,rfl,?_,?_⟩ | refine ⟨_,rfl,?_⟩ | exact ⟨nL rfl,rfl⟩ | exact bL (hA _) | exact bL (hB _) | exact bL (hC _) | refine Or.inr (Or.inr (Or.inr ⟨_,_,rfl,?_⟩)) | exact Or.inl rfl | refine Or.inr ?_)),(by repeat' (first | exact rfl | exact trivial | exact Or.inr (Or.inl ⟨_,rfl⟩) | exact Or.inr ⟨_,rfl⟩ | exact Or.inl ⟨rfl,rfl⟩ | exact Or.inl rfl | refine Or.inr ⟨_,_,rfl,Nat.zero_le _,rfl,?_⟩ | refine ⟨_,_,rfl,?_,?_⟩ | refine ⟨_,rfl,?_⟩ | exact ⟨nL rfl,rfl⟩ | exact bL (hA _) | exact bL (hB _) | exact bL (hC _) | refine Or.inr (Or.inr (Or.inr ⟨_,_,rfl,?_⟩)) | exact Or.inl rfl | refine Or.inr ?_)),rfl,rfl,rfl⟩
    | false=>
     rw [hb,af (by simp)] at dT;rw [af (by simp)];have hnd:=bR c1 kp ⟨#[44]⟩;refine ak 1 eV hnd ?_
     exact ⟨Pa g i j e (c1.ae ⟨#[44]⟩) (A a1) (B a1) (C a1) (T a1),(yc 5 (by repeat' (first | exact rfl | exact aQ rfl | exact Or.inl ⟨rfl,ya⟩ | exact dO (TL _) | exact dO (TM _) | exact dO (TN _) | refine ⟨_,_,rfl,?_,?_⟩)) (by repeat' (first | exact trivial | exact aQ rfl | exact Or.inl ⟨rfl,ya⟩ | exact dO (TL _) | exact dO (TM _) | exact dO (TN _) | refine ⟨⟨_,rfl,?_⟩,?_⟩))),n,by omega,_,a1,rfl,kp.ae _,z7 c1 a1 kp VY,fun g0=>by
      rw [aq.Pb,aq.Pc _ _ g0,qh]
      omega,dT⟩
  ·have q:¬ c'.f.1=0:=sU q
   have bV:listF f e n c' a'=(c',a'):=by
    cases n with
    | zero=>rfl
    | succ n=>rw [listF,af q]
   rw [dT,bV];exact ⟨.cp [],[aJ c',A a',B a',C a'],(by repeat' (first | exact rfl | exact trivial | exact Or.inr (Or.inl ⟨_,rfl⟩) | exact Or.inr ⟨_,rfl⟩ | exact Or.inl ⟨rfl,rfl⟩ | exact Or.inl rfl | refine Or.inr ⟨_,_,rfl,Nat.zero_le _,rfl,?_⟩ | refine ⟨_,_,rfl,?_,?_⟩ | refine ⟨_,rfl,?_⟩ | exact ⟨nL rfl,rfl⟩ | exact bL (hA _) | exact bL (hB _) | exact bL (hC _) | refine Or.inr (Or.inr (Or.inr ⟨_,_,rfl,?_⟩)) | exact Or.inl rfl | refine Or.inr ?_)),(by repeat' (first | exact rfl | exact trivial | exact Or.inr (Or.inl ⟨_,rfl⟩) | exact Or.inr ⟨_,rfl⟩ | exact Or.inl ⟨rfl,rfl⟩ | exact Or.inl rfl | refine Or.inr ⟨_,_,rfl,Nat.zero_le _,rfl,?_⟩ | refine ⟨_,_,rfl,?_,?_⟩ | refine ⟨_,rfl,?_⟩ | exact ⟨nL rfl,rfl⟩ | exact bL (hA _) | exact bL (hB _) | exact bL (hC _) | refine Or.inr (Or.inr (Or.inr ⟨_,_,rfl,?_⟩)) | exact Or.inl rfl | refine Or.inr ?_)),rfl,rfl,rfl⟩
theorem nI {α:Type} {A B C:α->List DV} {T:α->TkE} {f:aq->α->aq × α} {Inv:aq->α->Prop} {g i j:Nat} (hi:i < 4) (hj:j < 4) (hA:∀ a,clB.clL 4 1 (A a)=true) (hB:∀ a,clB.clL 4 1 (B a)=true) (hC:∀ a,clB.clL 4 1 (C a)=true) (fN:Enters prog g)
  (gR:∀ c a,av c->Inv c a->c.f.1=0->tw A B C T f Inv g i j c a) (z7:∀ c a,av c->Inv c a->Inv (c.ae ⟨#[44]⟩) a) (e:ByteArray) (N:Nat) (c:aq) (a:α) (hc:av c) (ha:Inv c a) (hN:c.l.length<=c.p + N) :
  Ev prog 160 [gI,.v (.string e),.v (.bool false),.fn g [] [.loc i 0,.loc j 0]] [aJ c,A a,B a,C a] [T a]
   (fun r os tk=>r = .cp []/\os=[aJ (listF f e N c a).1,A (listF f e N c a).2,B (listF f e N c a).2,C (listF f e N c a).2]/\tk=[T (listF f e N c a).2]):=
 zZ (A:=A) (B:=B) (C:=C) (T:=T) (f:=f) (Inv:=Inv) false hi hj hA hB hC fN gR z7 e N c a hc ha hN
end Go.Proofs.YtfdedoiiahbnnaaGreat
namespace Go.Proofs.YtfdedoiiahbnnaaGreat
namespace Dv
open Go Go.RowKit
section
variable {X:Ctx} {st:St} {s0:List (Nat × Sl)} {c:Bool} {i:Nat} {r:List (Nat × Oper)}
def SB (D:Dr) (n:Nat):Bool:=(D.j8.bx.take n).all List.isEmpty
theorem IV {D:Dr} {n i:Nat} {cs:List DV} (h:SB D n=true) (hi:i < n) (hc:D.j8.bx[i]? = some cs):cs=[]:=by
 have h1:=List.all_eq_true.1 h cs (mG (i:=i) (by rw [cC,aj hi];exact hc));simpa using h1
theorem ef {D:Dr} {f:FuncId} {args bE:List DV} {os:List (List DV)} {d:Nat} (n1:Nat) (Pe:SB D n1=true) (fN:Enters X.P f) (hd:(eZ X.nt st.sl (some d) && eZ X.nt s0 (some d))=true) (rN:Nat.ble n1 st.bx.length=true)
  (pg:ki [] n1 n1 0 os (st.bx.take n1)) (ha:CcL [] n1 n1 0 bE args) {Φ:DV->List (List DV)->List TkE->Prop} (hc:Ev X.P f bE os [] Φ)
  (hk:∀ DJ fM,Φ DJ fM []->fM.length=n1->put2 s0 ⟨st.sl,fM ++ st.bx.drop n1,st.tk⟩ (some d) false [] DJ (goD X D 3000 c r)) (bV:X.still=false:=by exact rfl) (hX:X.bt=[]:=by exact rfl):vc X D c i r f args (some d) s0 st:=by
 refine ⟨fN,fun hl E0 wr hD E a w vs h hv=>(sR n1 0 rN rfl pg ha hc bV hX h.rel hv).mono ?_⟩;rintro e w' ⟨v,r',fM,cK,E',rfl,hΦ,h1,h2,cO,hr,hx,hβ,ho⟩;obtain rfl:cK=[]:=List.eq_nil_of_length_eq_zero h2
 have hC:CC E0 D.j8.bx wr w->CC E0 D.j8.bx wr w':=fun hC=>⟨fun j b cs hb cr bM=>by
  have hge:n1<=j:=by
   rcases Nat.lt_or_ge j n1 with h3 | h3
   ·exact (bM (IV Pe h3 cr)).elim
   ·exact h3
  rw [ho j b hge (h.x.β j b hb)]
  exact hC.o j b cs hb cr bM,fun x v uW=>cO.env.sub x v (hx.c x v (h.x.c x v uW))⟩
 refine ⟨v,rfl,fun _=>hC,?_⟩
 have Hw:fx X ⟨D,E0,wr⟩ c E' s0 ⟨st.sl,fM ++ st.bx.drop n1,st.tk⟩ (a.put none v) w':={
  rel:=cO
  x:=by
   refine ⟨fun y v hy=>hx.c y v (h.x.c y v hy),fun j b hb=>hx.β j b (h.x.β j b hb),fun k q hq=>?_⟩;obtain ⟨q1,h1,h2⟩:=h.x.tk k q hq;obtain ⟨q2,h3,h4⟩:=hx.tk k q1 h1
   grind
  β:=by
   obtain ⟨r1,h1⟩:=h.β;exact ⟨r1,by rw [hβ];exact h1⟩
  t0:=fun j x hj=>by
   have h1:=h.t0 j x hj;refine ⟨fun hh=>?_,h1.2⟩;obtain ⟨v,h2,h3⟩:=h1.1 hh;exact ⟨v,h2,Rv.mono (xl hx) h3⟩
  cc:=fun hc=>hC (h.cc hc) }
 obtain ⟨s1,sg,vd,eu⟩:=iK Hw hd false [] r' v (fun _ _ p hp=>by cases hp) (fun _=>hr) (fun hb=>by cases hb) (fun hn=>(hn (aV _)).elim) (hk r' fM hΦ h1);exact iw (D:=⟨D,E0,wr⟩) hD 3000 c r _ _ vd hl E' _ w' eu
end
theorem tz {X:Ctx} {f:FuncId} {args:List DV} {dst:Option Nat} {k:List It} {st:St} (q:TkE) (st':St) (hq:q.new=true) (ha:WeL st.bx.length st.tk.length (st.tk ++ [q]) args args) (h3:st'.tk=st.tk ++ [q]) (h2:WeLL st.bx.length st.tk.length (st.tk ++ [q]) st.bx st'.bx)
  (h:jJ st.bx.length st.tk.length (st.tk ++ [q]) st.sl st'.sl) (hn:Nat.ble X.n0 st.bx.length=true) (hm:Nat.ble X.m0 st.tk.length=true) (hk:CallG X f args dst k st'):CallG X f args dst k st:=by
 obtain ⟨k1,k2,k3⟩:=hk;refine ⟨k1,k2,fun E a w vs hR hv=>?_⟩;have hr:=pu (st':=st') hR (kept:=st.tk) (dropped:=[]) (new:=[q]) (b0:=st.bx) (r:=[]) ⟨nL hm,nL hn,by simp,h3,by simpa using hq,by simp,by rw [h3];exact h2,by rw [h3];exact h⟩;exact k3 _ a w vs hr (pq (dropped:=[]) (by rw [hR.tk];simp) hR.env.tl (sU hq) ha hv)
end Dv
end Go.Proofs.YtfdedoiiahbnnaaGreat
set_option maxRecDepth 100000
namespace Go.Proofs.YtfdedoiiahbnnaaGreat
open Go Go.RowKit Dv Go.Proofs.Tryz
abbrev F4 (a:List Wd):List DV:=[.sl 2 (bZ a) (some 0),.v (.slice none 0 0),.v (.slice none 0 0),.v (.int .i64 0),.v (.int .i64 0),.v (.int .i64 0),.v (.int .i64 0),.v (.int .i64 0),.v (.slice none 0 0),.v (.slice none 0 0),.v (.string ⟨#[]⟩),.v (.int .i64 0)]
abbrev xG:List DV:=[.v (.slice none 0 0),.v (.slice none 0 0),.v (.slice none 0 0),.v (.int .i64 0),.v (.int .i64 0),.v (.int .i64 0),.v (.int .i64 0),.v (.int .i64 0),.v (.slice none 0 0),.v (.slice none 0 0),.v (.string ⟨#[]⟩),.v (.int .i64 0)]
abbrev jx:List DV:=[.loc 0 0]
abbrev vW (a:List Wd):TkE:=⟨a.length,34,2,none⟩
theorem z8 (a:List Wd) (w:Wd):vW (a ++ [w])=⟨a.length + 1,34,2,none⟩:=by simp [vW]
theorem IW (a:List Wd) (w:Wd):F4 (a ++ [w]) = .sl 2 (bZ a ++ [lg w]) (some 0) :: (F4 a).tail:=by simp [F4,bZ]
theorem Aa (c:aq) (h:av c) (a:List Wd) (ha:a.length<=1099511627776):Ev prog 161 [.loc 3 0,.loc 1 0] [aJ c,jx,xG,F4 a] [vW a]
  (fun r os tk=>r = .cp []/\os=[aJ c.ai,jx,xG,F4 (a ++ [c.aH])]/\tk=[vW (a ++ [c.aH])]):=by
 have hn:=dB c h;have hl:(bZ a).length=a.length:=aM a;generalize c.aH=W at hn ⊢;generalize c.ai=C1 at hn ⊢;obtain ⟨l,p,d,f1,f2⟩:=c;obtain ⟨l1,p1,d1,f11,f21⟩:=C1;obtain ⟨ws,wa⟩:=W;refine eG 9 [] func161 rfl ntmps161 rfl fun _ _ _ _=>?_;refine cz [0] (fun i=>Nat.beq i 7) mo (by decide +kernel) ?_;refine ef 1 rfl lx rfl rfl bU bU hn (fun r fM hΦ _=>?_);obtain ⟨rfl,rfl,_⟩:=hΦ;refine ⟨hl,⟨by simp [maxLen,hl];omega,by simp [hl];omega⟩,?_⟩;rw [z8,IW];exact ⟨.cp [],[aJ ⟨l1,p1,d1,f11,f21⟩,jx,xG,.sl 2 (bZ a ++ [lg ⟨ws,wa⟩]) (some 0) :: (F4 a).tail],bU,bU,rfl,rfl,rfl⟩
abbrev tyO (k a:Int):List DV:=[.v (.int .i64 k),.v (.int .i64 a),.v (.int .i64 0),.v (.int .i64 0),.v (.int .i64 0),.v (.slice none 0 0),.v (.slice none 0 0),.v (.string ⟨#[]⟩),.v (.int .i64 0)]
abbrev tA:ByteArray:=⟨#[98,111,111,108]⟩
theorem Ej {c:aq} (h:av c) (hd:c.d < 24):av { c with d:=c.d + 1 }:=⟨h.lt,h.nx,h.len,hd⟩
theorem IX {c:aq} (h:av c) (hd:c.d < 24):Ev prog 248 [.loc 0 0] [aJ c] [] (kN (.v (.bool true)) { c with d:=c.d + 1 }):=by
 have he:=tq c h;have e1:c.enter=true:=by simp [aq.enter];omega
 have e2:c.nG={ c with d:=c.d + 1 }:=by rw [aq.nG,af (by omega)]
 rw [e1,e2] at he;exact he
abbrev cA:ByteArray:=⟨#[108,101,118,101,108,115]⟩
abbrev lO:ByteArray:=⟨#[111,114,100,101,114]⟩
abbrev oK:ByteArray:=⟨#[116,121,112,101]⟩
abbrev ez:ByteArray:=⟨#[114,111,111,116]⟩
abbrev bm:ByteArray:=⟨#[123]⟩
abbrev aU:ByteArray:=⟨#[125]⟩
def dP (c:aq) (a:List Wd):aq × List Wd:=(c.ai,a ++ [c.aH])
def tB (c:aq) (a:List Wd):Prop:=a.length<=c.p∨(c.f.1≠0/\a.length<=c.p + 1)
theorem vX {c:aq} {k:Int} (h:c.tk k=true):¬ c.aA.k=0:=by
 simp only [aq.tk,aZ,Bool.not_eq_true',decide_eq_false_iff_not] at h;exact h.1
theorem fj {c:aq}:c.wrong.f.1≠0:=by
 unfold aq.wrong aq.fail aq.cm;by_cases h0:c.f.1=0
 ·by_cases h1:c.aA.k=0
  ·rw [aj ⟨h0,by rw [aj h1];decide⟩,aj h1];simp
  ·rw [aj ⟨h0,by rw [af h1];decide⟩,af h1];simp
 ·rw [af (fun g=>h0 g.1)];exact h0
theorem oL (c:aq):c.wrong.l=c.l/\c.wrong.p=c.p/\c.wrong.d=c.d:=by
 unfold aq.wrong aq.fail aq.cm
 repeat' split
 all_goals exact ⟨rfl,rfl,rfl⟩
theorem pT (c:aq) (s:ByteArray):c.p<=(c.ae s).p:=by
 unfold aq.ae aq.step;split
 ·split
  ·exact bn _
  ·exact Nat.le_succ _
 ·rw [(oL c).2.1];exact bn _
theorem Ek (c:aq) (a:List Wd) (h:av c) (hi:tB c a) (hf:c.f.1=0):tw (fun _=>jx) (fun _=>xG) F4 vW dP tB 161 3 1 c a where
 ok:=h.ai
 l:=by
  show c.ai.l=c.l;unfold aq.ai aq.step;split
  ·split<;>rfl
  ·exact (oL c).1
 p:=by
  show c.p<=c.ai.p;unfold aq.ai aq.step;split
  ·split
   ·exact bn _
   ·exact Nat.le_succ _
  ·rw [(oL c).2.1];exact bn _
 inv:=by
  have ha:a.length<=c.p:=by
   rcases hi with h1 | h1
   ·exact h1
   ·exact absurd hf h1.1
  show tB c.ai (a ++ [c.aH]);unfold tB aq.ai;rw [List.length_append]
  cases ht:c.tk 1 with
  | true=>
   rw [aj rfl,aq.step,af (vX ht)];exact .inl (Nat.succ_le_succ ha)
  | false=>
   rw [af (by simp)];exact .inr ⟨fj,by rw [(oL c).2.1];exact Nat.succ_le_succ ha⟩
 ev:=Aa c h a (by
  have h1:=h.lt;have h2:=h.len
  rcases hi with h3 | h3<;>omega)
theorem Ab (c:aq) (a:List Wd) (_:av c) (hi:tB c a):tB (c.ae ⟨#[44]⟩) a:=by
 rcases hi with h1 | ⟨h1,h2⟩
 ·exact .inl (Nat.le_trans h1 (pT c _))
 ·rw [cG h1];exact .inr ⟨h1,h2⟩
theorem Ac (N:Nat) (c:aq) (h:av c) (hN:c.l.length<=c.p + N) (hf:tB c []):Ev prog 160 [gI,.v (.string aU),.v (.bool false),.fn 161 [] [.loc 3 0,.loc 1 0]] [aJ c,jx,xG,F4 []] [vW []]
  (fun r os tk=>r = .cp []/\os=[aJ (listF dP aU N c []).1,jx,xG,F4 (listF dP aU N c []).2]/\tk=[vW (listF dP aU N c []).2]):=
 nI (A:=fun _=>jx) (B:=fun _=>xG) (C:=F4) (T:=vW) (f:=dP) (Inv:=tB) (by decide) (by decide) (fun _=>rfl) (fun _=>rfl) (fun _=>rfl) QV Ek Ab aU N c [] h hf hN
abbrev SC (k a:Int):Ty:=.mk ⟨k,a,0,0,0,[],⟨aY,0⟩⟩ .nil
abbrev VZ (c:aq) (a:List Wd):St:=⟨[cE 1 1,cE 2 2,cE 3 3],[aJ c,jx,xG,F4 a],[vW a]⟩
end Go.Proofs.YtfdedoiiahbnnaaGreat
