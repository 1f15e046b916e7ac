/- Part 3 of the proof: The program's checks of types: label, coarse; The program's comparing of names and types; The program's Same; The program's own, empty; The program's empty, enum; kinds.Right, once the checker's check is known; Numbers in tens: the reference's Put; Numbers in tens: the program's Put; The text of a type, plain; the reference's Label and comma; The reference's text of a type: Label, comma, part, Type; The reference's text of a part; The reference's text of a type; The library's strings.Join, laid at this program by the kit's tool (lay-plain; wip/tools/lay.sh); The program's text of a label, of what stands behind a part's type, of lists; The program's text of a type: field, tag, kind; unparse.Type, once the checker's check is known; A type with which nothing is wrong is fine for its text; Readable data as data of the evaluator: what the statement's form reads of an argument is a datum of the evaluator, of the argument's type, no heavier than what was read; What is read of a type, as the plain data; From a contract over data to what a law's statement asks: the arguments are read, the call returns true, all that was there stays; What all laws' frames share: the bulk, the program's closed facts; Types without places: plain, and the program's kinds.Strip; Schemas: plain, as the evaluator has them, without places; What is read of a schema, as the plain data; What the frames of laws over schemas share; The program's closed facts, each by itself (all at once they ask more memory than a Lean process has); The library's IndexByte, laid at this program; HasPrefix; The greatest multiple of a unit that is at most a number; UTF-8: the program's lead, value; UTF-8: the program's Decode; UTF-8: the document's reckoned, Scalar, Encode; UTF-8: the document's Scalar, Encode; UTF-8, plain: the document's well-formed bytes are the program's; a text's first units; UTF-8: the document's begins, left, Decode; Tables of runes; the unit at a place: the program's and the document's; The library's copyCheck of strings.Builder, laid at this program; The library's Builder at this program: what WriteString and String do to memory, exactly; Rules for the evaluator: the library's Builder, written and read; Rules for the evaluator: a call that is handed the caller's first objects and rows; rows whose cells nobody else knows; Rules for the evaluator: the library's Builder: WriteByte, WriteString of any text; a call that is handed a Builder; Texts in quotes: plain; numbers in sixteens; Relations as rows of bits: plain, and rel's functions that read; rel.back: who leads to a thing and is led to by it; rel.New: the rows of a list of pairs; rel.Close: the closure, by rows; The number of bits that are set, as the library reckons it; math/bits.OnesCount64; When two bits are set; rel.Loop: the least thing in a loop; The plain law of closeR: its bits are what is led to; The program's and the reference's check of names that must differ; The table's Find, whole; lattice.many, called, numbered; lattice.best, and the closures of bounds; lattice.bounds: all joins and meets; lattice.Build; Reading a lattice: Len, has, Name, Find, Join, Meet, Bottom; labels.Of; The checker's part, once check is known for lighter types; The checker's parts, once check is known for lighter types. No condition. -/
import Derived.Laws.StructEq
import Derived.Shelf.Strings.OnBuilder
import Derived.Deep.Slices
import Derived.ChangeArms
import Derived.DataReads
import Derived.WalkKit
import Derived.ProofKit
import Derived.OpenShut
import Derived.Carry
import Derived.JoinedCond
import Derived.Test.YtfdedoiiahbnnaaGreatRows
import Derived.Shelf.Strings.Search1
import Derived.Shelf.RegionOpenPlain
import Derived.Lib.Strings
import Derived.Lib.Slices
import Derived.Lib.Walk
import Derived.Lib.Builder
import Derived.Lib.AppendStr
import Derived.Lib.UnsafeStr
import Derived.Laws.Externs
import Derived.Lib.Hide
import Derived.Test.YtfdedoiiahbnnaaGreatNe2
set_option linter.all false
set_option maxRecDepth 100000
namespace Go.Proofs.YtfdedoiiahbnnaaGreat
open Go Go.RowKit Dv Go.Proofs.Tryz
abbrev sy (l:List Wd) (e:Nat):St:=
 ⟨[gh 13 2 (bZ l),bQ 14 ((bZ l).length),cE 2 0,bQ 15 e],[[.v (.int .i64 0),.v (.int .i64 0)]],[]⟩
theorem gG (l:List Wd) (hs:wdsWt l<=1099511627776) :
  cw prog 327 [.sl 2 (bZ l) none] (dg l).d:=by
 have Bb:=cW l;refine eG 28 [.cell 2 26] func327 rfl ntmps327 rfl fun _ _ _ _=>?_;refine br ?_ ?_<;>intro h
 ·have aS:32 < l.length:=by simp [aM] at h;omega
  obtain ⟨x,hx⟩:=gX aS;have:dg l=(8,x.a):=by simp [dg,Nat.not_le.2 aS,hx]
  refine ⟨lg x,⟨by omega,eH hx⟩,?_⟩;refine cP dG (bH 8 x.a) ?_;refine ⟨_,?_,rfl⟩;rw [this];exact ax
 ·have lk:l.length<=32:=by simp [aM] at h;omega
  refine de (fun j st=>∃ e:Nat,st=sy l e/\e<=l.length/\badWd l=badWd (l.drop e)/\j=l.length - e) l.length
   (sy l 0) (fC wB) ⟨0,rfl,by omega,rfl,by omega⟩ ?_
  rintro j st ⟨e,rfl,he,dT,rfl⟩;refine br ?_ ?_<;>intro hL
  ·have aS:e < l.length:=by simpa [aM] using hL
   obtain ⟨x,hx⟩:=gX aS;rw [drop_cons hx] at dT;have GJ:=l7 (mG hx);refine ⟨lg x,⟨by omega,eH hx⟩,?_⟩;refine cP HA (iL x.s (by omega)) ?_;refine br ?_ ?_<;>intro hN
   ·have hN:az x.s=false:=sU hN;have:dg l=(9,x.a):=by simp [dg,lk,dT,badWd,hN]
    refine cP dG (bH 9 x.a) ?_;refine ⟨_,?_,rfl⟩;rw [this];exact ax
   ·have hN:az x.s=true:=sU hN;refine ⟨sy l (e + 1),(fC (nc (gy aS (by omega)))),l.length - (e + 1),by omega,e + 1,rfl,by omega,?_,rfl⟩;rw [dT];simp [badWd,hN]
  ·have hge:e=l.length:=by simp [aM] at hL;omega
   have:dg l=(0,0):=by simp [dg,lk,dT,hge,badWd]
   refine ⟨_,?_,rfl⟩;rw [this];exact ax
theorem xq (p:Ph) (tl:List DV) (t:Ty) (ja:tl=di t) (hs:p.wt<=1099511627776) :
  cw prog 328 [.agg (j9 p tl)] (bW p).d:=by
 subst ja;obtain ⟨u,us⟩:=t;simp only [Ph.wt] at hs;refine eG 55 [.cell 2 26] func328 rfl ntmps328 rfl fun _ _ _ _=>?_;refine br ?_ ?_<;>intro h0
 ·have h0:p.ck=0:=of_decide_eq_true h0;refine br ?_ ?_<;>intro h1
  ·have:bW p=(19,p.name.a):=by grind [aG,aM,bW]
   refine cP dG (bH 19 p.name.a) ?_;refine ⟨_,?_,rfl⟩;rw [this];exact ax
  ·have fB:p.cl=[]:=by
    simp [aG,aM] at h1;exact h1.2
   have:bW p=(0,0):=by grind [aG,aM,bW]
   have h00:dg p.cl=(0,0):=by rw [fB];simp [dg,badWd]
   refine cP yQ (gG p.cl (by omega)) ?_;refine ⟨_,?_,rfl⟩;rw [this,<- h00];exact ax
 have h0:¬ p.ck=0:=of_decide_eq_false h0;refine br ?_ ?_<;>intro h1
 ·have h1:p.ck=1:=of_decide_eq_true h1;refine br ?_ ?_<;>intro h2
  ·have:bW p=(20,p.ca):=by grind [aC,bW]
   refine cP dG (bH 20 p.ca) ?_;refine ⟨_,?_,rfl⟩;rw [this];exact ax
  ·have:bW p=dg p.cl:=by grind [aC,bW]
   refine cP yQ (gG p.cl (by omega)) ?_;refine ⟨_,?_,rfl⟩;rw [this];exact ax
 have h1:¬ p.ck=1:=of_decide_eq_false h1;refine br ?_ ?_<;>intro h3
 ·have h3:p.ck=2:=of_decide_eq_true h3;refine br ?_ ?_<;>intro h2
  ·have:bW p=(20,p.ca):=by grind [aC,bW]
   refine cP dG (bH 20 p.ca) ?_;refine ⟨_,?_,rfl⟩;rw [this];exact ax
  ·have:bW p=dg p.cl:=by grind [aC,bW]
   refine cP yQ (gG p.cl (by omega)) ?_;refine ⟨_,?_,rfl⟩;rw [this];exact ax
 have h3:¬ p.ck=2:=of_decide_eq_false h3;refine br ?_ ?_<;>intro h4
 ·have h4:p.ck=3:=of_decide_eq_true h4;refine br ?_ ?_<;>intro h2
  ·have:bW p=(20,p.ca):=by grind [aC,bW]
   refine cP dG (bH 20 p.ca) ?_;refine ⟨_,?_,rfl⟩;rw [this];exact ax
  ·have:bW p=dg p.cl:=by grind [aC,bW]
   refine cP yQ (gG p.cl (by omega)) ?_;refine ⟨_,?_,rfl⟩;rw [this];exact ax
 have h4:¬ p.ck=3:=of_decide_eq_false h4;have:bW p=(14,p.ca):=by grind [bW]
 refine cP dG (bH 14 p.ca) ?_;refine ⟨_,?_,rfl⟩;rw [this];exact ax
theorem HZ (w:World) (x y:Operand) (vs vs':Array Value):(eqGuard .neq 34 x y (.agg vs) (.agg vs')).run prog w = .ok () w:=by
 have h:prog.eqGuardType prog.depth 34=false:=by kernel_rfl
 simp [eqGuard,run_program,h]
theorem Ow (a b:ByteArray) (p q:Int) (w:World):(binOp .neq 34 (.agg #[.string a,.int .i64 p]) (.agg #[.string b,.int .i64 q])).run prog w = .ok (.bool (!(decide (a=b) && decide (p=q)))) w:=by
 have hf:prog.underlying 34=some (.struct (prog.fieldsOf 34)):=by simp [Program.fieldsOf,Tryz.underlying34]
 have yv:(prog.fieldsOf 34).toList=[⟨ "Name",9,0,false, "", "",0⟩,⟨ "At",3,1,false, "", "",16⟩]:=by simp [Program.fieldsOf,Tryz.underlying34]
 have hs:prog.stoodInHeld 34=false:=by kernel_rfl
 have hm:∃ d,Op.maxDepth=d + 1 + 1:=⟨Op.maxDepth - 2,by decide⟩;obtain ⟨d,hm⟩:=hm
 have he:(Op.equal 34 (.agg #[.string a,.int .i64 p]) (.agg #[.string b,.int .i64 q])).run prog w = .ok (decide (a=b) && decide (p=q)) w:=by
  unfold Op.equal;rw [hm,run_equalIn_struct w (d + 1) 34 _ _ hf hs,yv]
  have e1:(a.toList == b.toList)=decide (a=b):=by
   rw [ByteArray.toList_eq,ByteArray.toList_eq];by_cases h:a=b
   ·subst h;simp
   ·have:¬ a.data=b.data:=fun e=>h (ByteArray.ext e);simp [h,this]
  have q9:∀ cs:Array Value,∀ off v,cs[off]? = some v->(part 9 cs off).run prog w = .ok v w:=fun cs off v h=>by
   simp [part,Tryz.isAgg9,h]
  have q3:∀ cs:Array Value,∀ off v,cs[off]? = some v->(part 3 cs off).run prog w = .ok v w:=fun cs off v h=>by
   simp [part,Tryz.isAgg3,h]
  simp only [Op.eqFields,ne_eq,String.reduceEq,not_false_eq_true,if_true,Sem.run_bind,q9 #[.string a,.int .i64 p] 0 (.string a) rfl,q9 #[.string b,.int .i64 q] 0 (.string b) rfl,Result.andThen_ok,run_equalIn_string w d 9 a b Tryz.underlying9,e1];by_cases h:a=b
  ·simp only [h,decide_true,Bool.not_true,Bool.false_eq_true,if_false,Sem.run_bind,q3 #[.string b,.int .i64 p] 1 (.int .i64 p) rfl,q3 #[.string b,.int .i64 q] 1 (.int .i64 q) rfl,Result.andThen_ok,run_equalIn_int w d 3 .i64 .i64 p q Tryz.underlying3];by_cases h2:p=q<;>simp [h2,Sem.run_pure]
  ·simp [h,Sem.run_pure]
 show ((do let r <- Op.equal 34 _ _;pure (Value.bool !r)):Sem Value).run prog w=_;simp only [Sem.run_bind,he,Result.andThen_ok,Sem.run_pure]
theorem KI (x y:Operand) (a b:Wd):pb prog .neq x y 34 (lg a) (lg b) (!(decide (a.s=b.s) && decide (a.a=b.a))):=
 ⟨[.string a.s,.int .i64 a.a],[.string b.s,.int .i64 b.a],rfl,rfl,fun w=>⟨HZ w x y _ _,Ow a.s b.s a.a b.a w⟩⟩
def eqWds:List Wd->List Wd->Bool
 | [],[]=>true
 | x :: r,y :: s=>(decide (x.s=y.s) && decide (x.a=y.a)) && eqWds r s
 | _,_=>false
theorem vn:∀ {a b:List Wd},a.length≠b.length->eqWds a b=false
 | [],[],h=>(h rfl).elim
 | [],_ :: _,_=>rfl
 | _ :: _,[],_=>rfl
 | x :: r,y :: s,h=>by
  simp only [eqWds];rw [vn (a:=r) (b:=s) (sU h),Bool.and_false]
theorem lE:∀ a b:List Wd,eqWds (aw a) (aw b)=sameWds a b
 | [],[]=>rfl
 | [],_ :: _=>rfl
 | _ :: _,[]=>rfl
 | x :: r,y :: s=>by
  have:=lE r s
  grind [aw,eqWds,sameWds]
abbrev H0 (a b:List Wd) (e:Nat):St:=
 ⟨[gh 0 2 (bZ a),gh 1 2 (bZ b),bQ 12 ((bZ a).length),bQ 13 e],[],[]⟩
theorem qv (a b:List Wd) (hs:a.length<=1099511627776) :
  cw prog 89 [.sl 2 (bZ a) none,.sl 2 (bZ b) none] (.v (.bool (eqWds a b))):=by
 refine eG 26 [.tmp 4] func89 rfl ntmps89 rfl fun _ _ _ _=>?_;refine br ?_ ?_<;>intro h
 ·have bM:a.length≠b.length:=by have:=h;simp [aM] at this;omega
  exact congrArg (fun b=>DV.v (.bool b)) (vn bM).symm
 ·have hl:a.length=b.length:=by have:=h;simp [aM] at this;omega
  refine de (fun j st=>∃ e:Nat,st=H0 a b e/\e<=a.length/\eqWds a b=eqWds (a.drop e) (b.drop e)/\j=a.length - e) a.length
   (H0 a b 0) (fC wB) ⟨0,rfl,by omega,rfl,by omega⟩ ?_
  rintro j st ⟨e,rfl,he,dT,rfl⟩;refine br ?_ ?_<;>intro h
  ·have aS:e < a.length:=by simpa [aM] using h
   obtain ⟨x,hx⟩:=gX aS;obtain ⟨y,hy⟩:∃ y,b[e]? = some y:=⟨_,gE (hl ▸ aS)⟩;rw [drop_cons hx,drop_cons hy] at dT;refine dI ?_;refine ⟨lg x,⟨by omega,eH hx⟩,lg y,⟨by omega,eH hy⟩,_,KI _ _ x y,?_⟩;refine br ?_ ?_<;>intro h
   ·have bM:(decide (x.s=y.s) && decide (x.a=y.a))=false:=by grind
    refine (dA ?_:);rw [dT];simp only [eqWds,bM,Bool.false_and]
   ·have bM:(decide (x.s=y.s) && decide (x.a=y.a))=true:=by grind
    refine ⟨H0 a b (e + 1),(fC (nc (gy aS (by omega)))),a.length - (e + 1),by omega,e + 1,rfl,by omega,?_,rfl⟩;rw [dT];simp only [eqWds,bM,Bool.true_and]
  ·have hge:e=a.length:=by have:=h;simp [aM] at this;omega
   refine (dA ?_:);rw [dT,hge,hl];simp [eqWds];rw [<- hl];simp [eqWds]
theorem fI (a b:List Wd) (ha:wdsWt a<=1099511627776) (hb:wdsWt b<=1099511627776) :
  cw prog 170 [.sl 2 (bZ a) none,.sl 2 (bZ b) none] (.v (.bool (sameWds a b))):=by
 have hl:=cW a;refine eG 10 [.tmp 4] func170 rfl ntmps170 rfl fun _ _ _ _=>?_;refine cP yO (iN a ha) ?_;refine cP yO (iN b hb) ?_;refine cP QN (qv (aw a) (aw b) (by simp [aw];omega)) ?_;refine (dA ?_:);exact lE a b
def eqPts (F:Ph->Ty->Ph->Ty->Bool):Pts->Pts->Bool
 | .nil,.nil=>true
 | .cons p t r,.cons q u s=>F p t q u && eqPts F r s
 | _,_=>false
theorem vo {F:Ph->Ty->Ph->Ty->Bool}:∀ {a b:Pts},a.len≠b.len->eqPts F a b=false
 | .nil,.nil,h=>(h rfl).elim
 | .cons p t r,.cons q u s,h=>by
  simp only [eqPts];rw [vo (a:=r) (b:=s) (by simpa [Pts.len] using h),Bool.and_false]
 | .nil,.cons _ _ _,_=>rfl
 | .cons _ _ _,.nil,_=>rfl
def cX (p:Ph) (t:Ty) (q:Ph) (u:Ty):Bool:=decide (p.name.s=q.name.s) && cu p q && sameTy t u
theorem sA:∀ a b:Pts,eqPts cX a b=samePts a b
 | .nil,.nil=>by simp [eqPts,samePts]
 | .cons p t r,.cons q u s=>by simp only [eqPts,samePts,cX,sA r s]
 | .nil,.cons _ _ _=>by simp [eqPts,samePts]
 | .cons _ _ _,.nil=>by simp [eqPts,samePts]
abbrev H2 (a b:Pts) (g e:Nat):St:=
 ⟨[gh 1 18 (eF b),(2,⟨[],.fn g [] []⟩),gh 15 18 (eF a),bQ 16 ((eF a).length),bQ 17 e],[],[]⟩
theorem y9 (g:Nat) (fN:Enters prog g) (F:Ph->Ty->Ph->Ty->Bool) (a b:Pts) (hs:a.wt<=1099511627776)
  (hF:∀ (e:Nat) p t q u,a.toList[e]? = some (p,t)->b.toList[e]? = some (q,u)->cw prog g [.agg (j9 p (di t)),.agg (j9 q (di u))] (.v (.bool (F p t q u)))) :
  cw prog 171 [.sl 18 (eF a) none,.sl 18 (eF b) none,.fn g [] []] (.v (.bool (eqPts F a b))):=by
 have Qg:=a.ng;refine eG 32 [.tmp 6] func171 rfl ntmps171 rfl fun _ _ _ _=>?_;refine br ?_ ?_<;>intro h
 ·have bM:a.len≠b.len:=by have:=h;simp [bN] at this;omega
  exact congrArg (fun b=>DV.v (.bool b)) (vo bM).symm
 ·have hl:a.len=b.len:=by have:=h;simp [bN] at this;omega
  refine de (fun j st=>∃ e:Nat,st=H2 a b g e/\e<=a.len/\eqPts F a b=eqPts F (a.drop e) (b.drop e)/\j=a.len - e) a.len
   (H2 a b g 0) (fC wB) ⟨0,rfl,by omega,rfl,by omega⟩ ?_
  rintro j st ⟨e,rfl,he,dT,rfl⟩;refine br ?_ ?_<;>intro h
  ·have aS:e < a.len:=by simpa [bN] using h
   obtain ⟨p,t,hx⟩:=Pts.ni aS;obtain ⟨q,u,hy⟩:=Pts.ni (hl ▸ aS);rw [Pts.drop_cons hx,Pts.drop_cons hy] at dT;have GK:=hF e p t q u hx hy;obtain ⟨t,ts⟩:=t;obtain ⟨u,us⟩:=u;refine iX (fF hx) ?_;refine iX (fF hy) ?_;refine cP fN GK ?_;refine br ?_ ?_<;>intro h
   ·have bM:F p (.mk t ts) q (.mk u us)=false:=sU h;refine (dA ?_:);rw [dT];simp only [eqPts,bM,Bool.false_and]
   ·have bM:F p (.mk t ts) q (.mk u us)=true:=sU h;refine ⟨H2 a b g (e + 1),(fC (nc (gy aS (by omega)))),a.len - (e + 1),by omega,e + 1,rfl,by omega,?_,rfl⟩;rw [dT];simp only [eqPts,bM,Bool.true_and]
  ·have hge:e=a.len:=by have:=h;simp [bN] at this;omega
   refine (dA ?_:);rw [dT,hge,Pts.ly,hl,Pts.ly];simp [eqPts]
theorem lF (p q:Ph) (t u:Ty) (hp:p.wt<=1099511627776) (hq:q.wt<=1099511627776)
  (ht:cw prog 91 [.agg (di t),.agg (di u)] (.v (.bool (sameTy t u)))) :
  cw prog 172 [.agg (j9 p (di t)),.agg (j9 q (di u))] (.v (.bool (cX p t q u))):=by
 simp only [Ph.wt] at hp hq;obtain ⟨th,PT⟩:=t;obtain ⟨uh,W4⟩:=u;refine eG 71 [.tmp 4] func172 rfl ntmps172 rfl fun _ _ _ _=>?_
 have e0:cX p (.mk th PT) q (.mk uh W4)=(((decide (p.name.s=q.name.s) && (p.bare == q.bare)) && decide (p.wide=q.wide)) && sameWds p.label q.label && ((decide (p.ck=q.ck) && decide (p.cn=q.cn)) && sameWds p.cl q.cl) && sameTy (.mk th PT) (.mk uh W4)):=by
  simp only [cX,cu,Bool.and_assoc]
 rw [e0];refine br ?_ ?_<;>intro hA
 ·simp only [aC] at hA;refine cP DP (fI p.label q.label (by omega) (by omega)) ?_;refine br ?_ ?_<;>intro hB
  ·simp only [aC] at hB;refine cP DP (fI p.cl q.cl (by omega) (by omega)) ?_;refine br ?_ ?_<;>intro hC
   ·refine cP Ol ht ?_;refine (dA ?_:);simp only [aC,Bool.true_and,Bool.and_true] at hC ⊢
    simp_all
   ·refine (dA ?_:);simp only [aC,Bool.true_and,Bool.and_true] at hC ⊢
    simp_all
  ·simp only [aC] at hB;refine br ?_ ?_<;>intro hC
   ·exfalso;simp [aC] at hC
   ·refine (dA ?_:)
    simp_all
 ·simp only [aC,beq_true] at hA;refine br ?_ ?_<;>intro hB
  ·refine cP DP (fI p.cl q.cl (by omega) (by omega)) ?_;refine (dA ?_:);rw [hA];rfl
  ·refine (dA ?_:);rw [hA];rfl
theorem vp:∀ (n:Nat) (a b:Ty),a.wt<=n->a.wt<=1099511627776->b.wt<=1099511627776 ->
  cw prog 91 [.agg (di a),.agg (di b)] (.v (.bool (sameTy a b)))
 | 0,a,b,hn,_,_=>by have:=a.pA;omega
 | n + 1,.mk h ps,.mk k qs,hn,cL,RX=>by
  have ih:=vp n;simp only [Ty.wt,Hd.wt] at hn cL RX
  have hE:cw prog 171 [.sl 18 (eF ps) none,.sl 18 (eF qs) none,.fn 172 [] []] (.v (.bool (samePts ps qs))):=by
   rw [<- sA];refine y9 172 HD cX ps qs (by omega) fun e p t q u hx hy=>?_;have DY:=Pts.nh (mG hx);have kQ:=Pts.nh (mG hy);exact lF p q t u (by omega) (by omega) (ih t u (by omega) (by omega) (by omega))
  refine eG 53 [.tmp 4] func91 rfl ntmps91 rfl fun _ _ _ _=>?_;refine br ?_ ?_<;>intro hA
  ·simp [aG] at hA;obtain ⟨⟨⟨⟨e1,e2⟩,e3⟩,e4⟩,e5⟩:=hA;refine cP DP (fI h.aD k.aD (by omega) (by omega)) ?_;refine br ?_ ?_<;>intro hB
   ·refine (dA ?_:);simp [aG,e1,e2,e3,e4,e5] at hB;simp [sameTy,gk,hB]
   ·simp [aG,e1,e2,e3,e4,e5] at hB;refine cP QY hE ?_;refine (dA ?_:);simp [sameTy,gk,e1,e2,e3,e4,e5,hB]
  ·refine (dA ?_:);simp [aG] at hA;simp only [sameTy,gk]
   grind
theorem kz (a b:Ty) (ha:a.wt<=1099511627776) (hb:b.wt<=1099511627776):cw prog 91 [.agg (di a),.agg (di b)] (.v (.bool (sameTy a b))):=vp _ a b (bn _) ha hb
def qU (h:Hd) (ps:Pts):Bool:=
 (((((decide (h.au=2) || (decide (h.lo=0) && decide (h.hi=0))) && ((decide (h.au=3) || decide (h.au=5)) || decide (h.most=0))) && (decide (ps.len=0) || (decide (5<=h.au) && decide (h.au<=8)))) &&
  (decide (h.aD.length=0) || decide (h.au=4))) && (decide (h.name.s=aY) || decide (h.au=9)))
theorem Fw (h:Hd) (ps:Pts):cw prog 238 [.agg (di (.mk h ps))] (.v (.bool (qU h ps))):=by
 have l1:(((eF ps).length:Int)=0)=(ps.len=0):=by rw [bN];exact propext (by omega)
 have l2:(((bZ h.aD).length:Int)=0)=(h.aD.length=0):=by rw [aM];exact propext (by omega)
 have he:(⟨#[]⟩:ByteArray)=aY:=rfl;refine eG 67 [.tmp 2] func238 rfl ntmps238 rfl fun _ _ _ _=>?_;refine br ?_ ?_<;>intro k2
 ·have k2:h.au=2:=of_decide_eq_true k2;refine (dA ?_:);rw [Bool.eq_iff_iff];simp [aC,aG,qU,bN,aM,k2,he]
 have k2:¬ h.au=2:=of_decide_eq_false k2;refine br ?_ ?_<;>intro k3
 ·have k3:h.au=3:=of_decide_eq_true k3;refine br (fun _=>?_) (fun hf=>?_)
  ·refine (dA ?_:);rw [Bool.eq_iff_iff];simp [aC,aG,qU,bN,aM,k3,he]
  ·exact absurd k3 (of_decide_eq_false hf)
 have k3:¬ h.au=3:=of_decide_eq_false k3;refine br ?_ ?_<;>intro k5
 ·have k5:h.au=5:=of_decide_eq_true k5;refine (dA ?_:);rw [Bool.eq_iff_iff];simp [aC,aG,qU,bN,aM,k5,he]
 have k5:¬ h.au=5:=of_decide_eq_false k5;refine (dA ?_:);rw [Bool.eq_iff_iff];simp [aC,aG,qU,bN,aM,k2,k3,k5,he]
theorem oy:∀ ps:Pts,samePts ps ps=true:=by
 have wr:∀ l:List Wd,sameWds l l=true:=by
  intro l
  induction l with
  | nil=>rfl
  | cons x r ih=>simp [sameWds,ih]
 have key:∀ n,(∀ t:Ty,t.wt<=n->sameTy t t=true)/\(∀ ps:Pts,ps.wt<=n->samePts ps ps=true):=by
  intro n
  induction n using Nat.strongRecOn with
  | _ n ih=>
   have hp:∀ ps:Pts,ps.wt<=n->(∀ t:Ty,t.wt + 256<=n->sameTy t t=true)->samePts ps ps=true:=by
    intro ps
    induction ps using Pts.rec (motive_1:=fun _=>True) with
    | mk=>trivial
    | nil=>intros;simp [samePts]
    | cons p t r _ ihr=>
     intro hw ht;simp only [Pts.wt,Ph.wt] at hw;simp only [samePts];rw [ht t (by omega),ihr (by omega) ht];simp [cu,wr]
   refine ⟨fun t ht=>?_,fun ps KJ=>?_⟩
   ·obtain ⟨h,ps⟩:=t;simp only [Ty.wt,Hd.wt] at ht;simp only [sameTy,gk]
    grind
   all_goals grind
 exact fun ps=>(key ps.wt).2 ps (bn _)
theorem rc (h:Hd) (ps:Pts):qU h ps=sameTy (.mk h ps) (mask (.mk h ps)):=by
 have wr:∀ l:List Wd,sameWds l l=true:=by
  intro l
  induction l with
  | nil=>rfl
  | cons x r ih=>simp [sameWds,ih]
 have wn:∀ l:List Wd,sameWds l []=decide (l.length=0):=by
  intro l;cases l<;>simp [sameWds]
 have pn:∀ l:Pts,samePts l .nil=decide (l.len=0):=by
  intro l;cases l<;>simp [samePts,Pts.len]
 have pr:=oy ps;simp only [mask,sameTy,gk,xn];have e5:samePts ps (if 4 < h.au/\h.au < 9 then ps else .nil)=(decide (ps.len=0) || (decide (5<=h.au) && decide (h.au<=8))):=by grind
 have e6:sameWds h.aD (if h.au=4 then h.aD else [])=(decide (h.aD.length=0) || decide (h.au=4)):=by grind
 grind [qU]
theorem za (p:Ph) (t:Ty) (hp:p.wt<=1099511627776):cw prog 286 [.agg (j9 p (di t))] (.v (.bool (cX p bO cj bO))):=by
 obtain ⟨th,PT⟩:=t;refine eG 8 [.tmp 2] func286 rfl ntmps286 rfl fun _ _ _ _=>?_;refine cP HD (lF p cj bO bO hp (by decide) (kz bO bO (by decide) (by decide))) ?_;exact (rfl:_=_)
def ee (l:List Wd):List ByteArray:=l.map fun w=>w.s
noncomputable def enumP (l:List Wd):Nat->Ft
 | 0=>(0,0)
 | e + 1=>
  if (enumP l e).1≠0 then enumP l e
  else match l[e]? with
   | some w=>fH (ee (l.take (e + 1))) w.s w.a
   | none=>(0,0)
theorem nq {l:List Wd} {e:Nat} (h:(enumP l e).1≠0):∀ d,enumP l (e + d)=enumP l e
 | 0=>rfl
 | d + 1=>by
  have ih:=nq h d;rw [<- Nat.add_assoc,enumP,ih,aj h]
theorem xr {L:List ByteArray} {x:ByteArray} {a:Int} (h:(fH L x a).1=0):fH L x a=(0,0):=by
 unfold fH at *
 grind
theorem Cb {l:List Wd}:∀ {e:Nat},(enumP l e).1=0->enumP l e=(0,0)
 | 0,_=>rfl
 | e + 1,h=>by
  rw [enumP] at h ⊢
  grind [xr]
theorem sB {l:List Wd} {e:Nat} {w:Wd} (h:(enumP l e).1=0) (hw:l[e]? = some w):enumP l (e + 1)=fH (ee (l.take (e + 1))) w.s w.a:=by
 rw [enumP,af (by rw [h];simp),hw]
noncomputable def lG (h:Hd):Ft:=
 if h.aD.length=0 then (15,h.dR) else if 64 < h.aD.length then (8,((h.aD[64]?).getD (⟨aY,0⟩:Wd)).a) else enumP h.aD h.aD.length
abbrev H3 (h:Hd) (ps:Pts) (n e:Nat):St:=
 ⟨[cE 1 0,cE 2 1,gh 27 2 (bZ h.aD),bQ 28 ((bZ h.aD).length),bQ 29 e,(3,⟨[],.sl 1 (hZ (ee (h.aD.take e))) (some 0)⟩)],
  [di (.mk h ps),[.v (.int .i64 0),.v (.int .i64 0)]],[⟨n,9,1,none⟩]⟩
theorem vq {l:List Wd} {e:Nat} {w:Wd} (h:l[e]? = some w):hZ (ee (l.take e)) ++ [[DV.v (.string w.s)]]=hZ (ee (l.take (e + 1))):=by
 rw [List.take_add_one,h];simp [hZ,ee]
theorem Cd (h:Hd) (ps:Pts) (hs:wdsWt h.aD<=1099511627776):cw prog 239 [.agg (di (.mk h ps))] (lG h).d:=by
 have hl:=cW h.aD;refine eG 48 [.cell 2 26] func239 rfl ntmps239 rfl fun _ _ _ _=>?_;refine br ?_ ?_<;>intro h0
 ·have h0:h.aD.length=0:=by have:=h0;simp [aM] at this;simp [this]
  refine cP dG (bH 15 h.dR) ?_;refine ⟨_,?_,rfl⟩;rw [lG,aj h0];exact ax
 have h0:¬ h.aD.length=0:=by have:=h0;simp [aM] at this;simpa using this
 refine br ?_ ?_<;>intro h1
 ·have h1:64 < h.aD.length:=by have:=h1;simp [aM] at this;omega
  obtain ⟨x,hx⟩:∃ x,h.aD[64]? = some x:=⟨_,gE h1⟩;refine ⟨lg x,⟨by omega,eH hx⟩,?_⟩;refine cP dG (bH 8 x.a) ?_;refine ⟨_,?_,rfl⟩;rw [lG,af h0,aj h1,hx];exact ax
 have h1:¬ 64 < h.aD.length:=by have:=h1;simp [aM] at this;omega
 have hk:lG h=enumP h.aD h.aD.length:=by rw [lG,af h0,af h1]
 rw [hk];refine lI (fun j st=>∃ e:Nat,st=H3 h ps e e/\e<=h.aD.length/\(enumP h.aD e).1=0/\j=h.aD.length - e) ⟨0,rfl,by omega,rfl,rfl⟩ (gF ⟨0,9,1,none⟩ rfl ⟨_,rfl⟩ rfl wA rfl rfl DH) ?_;rintro j st ⟨e,rfl,he,hz,rfl⟩;refine br ?_ ?_<;>intro hL
 ·have aS:e < h.aD.length:=by simpa [aM] using hL
  obtain ⟨w,hw⟩:=gX aS;have JU:=l7 (mG hw);have RY:=sB hz hw;have H4:(ee (h.aD.take (e + 1)))[(ee (h.aD.take (e + 1))).length - 1]? = some w.s:=by grind [ee]
  refine ⟨lg w,⟨by omega,eH hw⟩,?_⟩;refine ⟨by simp [ij,ee];omega,⟨by simp [ij,ee,maxLen];omega,by simp [ij,ee];omega⟩,?_⟩;have vt:=vq hw;have NF:=qu (ee (h.aD.take (e + 1))) w.s w.a H4 (by simp [ee];omega) (by omega);rw [<- vt,<- RY] at NF;refine cP My NF ?_;refine br ?_ ?_<;>intro hf
  ·have hf:(enumP h.aD (e + 1)).1≠0:=sU hf;refine ⟨_,?_,rfl⟩;have bV:=nq hf (h.aD.length - (e + 1));rw [show e + 1 + (h.aD.length - (e + 1))=h.aD.length by omega] at bV;rw [bV];exact ax
  ·have hf:(enumP h.aD (e + 1)).1=0:=sU hf;refine ⟨H3 h ps (e + 1) (e + 1),(fC (yb (gy aS (by omega)) vt)),h.aD.length - (e + 1),by omega,e + 1,rfl,by omega,hf,rfl⟩
 ·have hge:e=h.aD.length:=by
   have:=hL;simp [aM] at this;omega
  subst hge;have bV:=Cb hz;refine ⟨_,?_,rfl⟩;rw [bV];exact ax
def Ox (t:Ty) (depth m:Int) (r:DV) (os:List (List DV)) (_:List TkE):Prop:=
 r=(wrong t depth m).1.d/\∃ z:Int,os=[[.v (.int .i64 z)]]/\((wrong t depth m).1.1=0->z=(wrong t depth m).2)
theorem Oy {t:Ty} {depth m:Int}:∀ r os tk,Ox t depth m r os tk->clB 0 0 r=true/\∀ ql∈os,clB.clL 0 0 ql=true:=by
 rintro r os tk ⟨rfl,z,rfl,_⟩;refine ⟨rfl,fun ql h=>?_⟩;simp only [List.mem_singleton] at h;subst h;rfl
theorem vu (t:Ty) (hc:Ev prog 156 [.loc 0 0,.agg (di t),.v (.int .i64 1)] [[.v (.int .i64 0)]] [] (Ox t 1 0)) :
  cw prog 84 [.agg (di t)] (wrong t 1 0).1.d:=by
 obtain ⟨h,ps⟩:=t;refine eG 9 [.cell 2 26] func84 rfl ntmps84 rfl fun _ _ _ _=>?_;refine lu HB rfl rfl ax ax hc Oy (fun r ql hr=>?_);obtain ⟨rfl,z,hz,_⟩:=hr;simp only [List.cons.injEq,and_true] at hz;subst hz;exact ⟨_,ax,rfl⟩
def eP (n:Nat):List UInt8:=if n < 10 then [UInt8.ofNat (48 + n)] else eP (n / 10) ++ [UInt8.ofNat (48 + n % 10)]
termination_by n
decreasing_by omega
theorem jg {n:Nat} (h:n < 10):eP n=[UInt8.ofNat (48 + n)]:=by rw [eP,aj h]
theorem mb {n:Nat} (h:¬ n < 10):eP n=eP (n / 10) ++ [UInt8.ofNat (48 + n % 10)]:=by rw [eP,af h]
theorem zc:∀ (k n:Nat),n < 10 ^ (k + 1)->(eP n).length<=k + 1
 | 0,n,h=>by grind [jg]
 | k + 1,n,h=>by
  by_cases hn:n < 10
  ·rw [jg hn];simp
  ·rw [mb hn];have h2:n / 10 < 10 ^ (k + 1):=by omega
   have:=zc k (n / 10) h2
   grind
theorem digs_20 {n:Nat} (h:n<=18446744073709551616):(eP n).length<=20:=zc 19 n (by omega)
def eK (z:Int):List UInt8:=if z < 0 then 45 :: eP z.natAbs else eP z.natAbs
def Fx (z:Int):ByteArray:=⟨(eK z).toArray⟩
theorem jL {z:Int} (h1 : -9223372036854775808<=z) (h2:z<=9223372036854775807):(eK z).length<=21:=by grind [digs_20,eK]
theorem jM {z:Int} (h1 : -9223372036854775808<=z) (h2:z<=9223372036854775807):(Fx z).size<=21:=jL h1 h2
theorem Oz (a b:List UInt8):(⟨a.toArray⟩:ByteArray) ++ ⟨b.toArray⟩=⟨(a ++ b).toArray⟩:=by
 apply ByteArray.ext;simp
theorem wr (z:Int) (h1 : -9223372036854775808<=z) (h2:z<=9223372036854775807):IntKind.i64.wrap z=z:=by
 rw [IntKind.wrap_i64];omega
theorem KK {z:Int} (h:0<=z):eK z=eP z.toNat:=by grind [eK]
theorem zd {z:Int} (h:z < 0):eK z=45 :: eP z.natAbs:=by unfold eK;rw [aj h]
theorem oA:∀ bs:List UInt8,u8L bs=bs.map fun b=>DV.v (.int .u8 (b.toNat:Int))
 | []=>rfl
 | b :: r=>by simp [u8L,oA r]
theorem xu (bs:List UInt8):(u8L bs).length=bs.length:=by simp [oA]
theorem DZ (a b:List UInt8):u8L (a ++ b)=u8L a ++ u8L b:=by simp [oA]
theorem H5 (n:Nat) (a:List UInt8):u8L (a.take n)=(u8L a).take n:=by simp [oA,List.map_take]
theorem ze (n:Nat) (a:List UInt8):u8L (a.drop n)=(u8L a).drop n:=by simp [oA,List.map_drop]
theorem D0 {n m:Nat} {tk:List TkE}:∀ bs:List UInt8,WeL n m tk (u8L bs) (u8L bs)
 | []=>rfl
 | b :: r=>⟨_,_,rfl,aQ rfl,D0 r⟩
theorem pD {n m:Nat} {tk:List TkE} {l:List DV} {bs:List UInt8} (h:l=u8L bs):WeL n m tk l (u8L bs):=by rw [h];exact D0 bs
theorem H6 (n:Nat):0 < (eP n).length:=by
 rw [eP];split<;>simp
abbrev zf (m:Bool) (u a:Nat) (bs:List UInt8):St:=⟨[NY 3 m,(4,⟨[],.v (.int .u64 u)⟩),cE 5 0,bQ 6 a],[u8L bs],[]⟩
def OA (m:Bool) (N j:Nat) (st:St):Prop:=∃ (u a:Nat) (bs:List UInt8),st=zf m u a bs/\bs.length=20/\a<=20/\u < 18446744073709551616 /\
 ((a < 20/\u=0/\eP N=bs.drop a)∨((a=20∨0 < u)/\eP N=eP u ++ bs.drop a))/\j=a
theorem putI_0 (m:Bool) (N:Nat) (h:N < 18446744073709551616):OA m N 20 (zf m N 20 (List.replicate 20 0)):=
 ⟨N,20,_,rfl,by simp,bn _,h,.inr ⟨.inl rfl,by simp⟩,rfl⟩
theorem c9 (z:Int) (h1 : -9223372036854775808<=z) (h2:z<=9223372036854775807):cw prog 119 [.v (.int .i64 z)] (.v (.string (Fx z))):=by
 have hN:z.natAbs<=9223372036854775808:=by omega
 refine eG 38 [.tmp 2] func119 rfl ntmps119 rfl fun _ _ _ _=>?_;refine br ?_ ?_<;>intro h
 case' refine_1=>
  have hz:z < 0:=sU h
  have hu:IntKind.u64.wrap (0 - IntKind.u64.wrap z)=(z.natAbs:Int):=by
   simp only [IntKind.wrap_u64];omega
  refine de (OA (decide (z < 0)) z.natAbs) 20 (zf (decide (z < 0)) z.natAbs 20 (List.replicate 20 0)) (xk ⟨_,rfl⟩ (by repeat' (first | exact rfl | exact aQ rfl | exact pD rfl | refine ⟨_,_,rfl,?_,?_⟩)) rfl rfl rfl (by repeat' (first | exact trivial | exact aQ rfl | exact ch hu | exact pD rfl | refine ⟨⟨_,rfl,?_⟩,?_⟩))) (putI_0 _ _ (by omega)) ?_
 case' refine_2=>
  have hz:¬ z < 0:=sU h
  have hu:IntKind.u64.wrap z=(z.natAbs:Int):=by
   simp only [IntKind.wrap_u64];omega
  refine de (OA (decide (z < 0)) z.natAbs) 20 (zf (decide (z < 0)) z.natAbs 20 (List.replicate 20 0)) (xk ⟨_,rfl⟩ (by repeat' (first | exact rfl | exact aQ rfl | exact pD rfl | refine ⟨_,_,rfl,?_,?_⟩)) rfl rfl rfl (by repeat' (first | exact trivial | exact aQ rfl | exact ch hu | exact pD rfl | refine ⟨⟨_,rfl,?_⟩,?_⟩))) (putI_0 _ _ (by omega)) ?_
 all_goals
  clear hu hz h;rintro a st ⟨u,j,bs,rfl,hbl,ha,hu64,hinv,rfl⟩;refine br ?_ ?_<;>intro h
  ·have hc:a=20∨0 < u:=by
    simp [aG] at h;omega
   have hd:eP z.natAbs=eP u ++ bs.drop a:=by grind
   have hp:0 < a:=by grind [H6,digs_20]
   have MP:IntKind.i64.wrap ((a:Int) - 1)=((a - 1:Nat):Int):=by rw [wr _ (by omega) (by omega)];omega
   have hb:IntKind.u8.wrap (48 + IntKind.u8.wrap ((u:Int).tmod 10))=((UInt8.ofNat (48 + u % 10)).toNat:Int):=by
    rw [Int.tmod_eq_emod_of_nonneg (by omega),UInt8.toNat_ofNat',IntKind.wrap_u8',IntKind.wrap_u8'];omega
   have hq:IntKind.u64.wrap ((u:Int).tdiv 10)=((u / 10:Nat):Int):=by
    rw [Int.tdiv_eq_ediv_of_nonneg (by omega),IntKind.wrap_u64];omega
   refine ⟨⟨rfl,by decide⟩,?_⟩;refine ⟨⟨by rw [MP];omega,by rw [MP];omega⟩,?_⟩;have E7:0 + (IntKind.i64.wrap ((a:Int) - 1)).toNat * 1=a - 1:=by rw [MP];omega
   refine ⟨by rw [E7,xu,hbl];omega,?_⟩;refine ⟨⟨rfl,by decide⟩,?_⟩
   have cr:(u8L bs).set (0 + (IntKind.i64.wrap ((a:Int) - 1)).toNat * 1) (DV.v (.int .u8 (IntKind.u8.wrap (48 + IntKind.u8.wrap ((u:Int).tmod 10)))))=u8L (bs.take (a - 1) ++ [UInt8.ofNat (48 + u % 10)] ++ bs.drop a):=by
    rw [E7,hb,List.set_eq_take_append_cons_drop,aj (by rw [xu,hbl];omega),DZ,DZ,H5,ze,show a - 1 + 1=a by omega];simp [u8L]
   refine ⟨zf (decide (z < 0)) (u / 10) (a - 1) (bs.take (a - 1) ++ [UInt8.ofNat (48 + u % 10)] ++ bs.drop a),(yc 1 (by repeat' (first | exact rfl | exact aQ rfl | exact pD cr | exact ch MP | exact ch hq | refine ⟨_,_,rfl,?_,?_⟩)) (by repeat' (first | exact trivial | exact aQ rfl | exact pD cr | exact ch MP | exact ch hq | refine ⟨⟨_,rfl,?_⟩,?_⟩))),a - 1,by omega,u / 10,a - 1,_,rfl,by simp;omega,by omega,by omega,?_,rfl⟩;have RZ:(bs.take (a - 1) ++ [UInt8.ofNat (48 + u % 10)] ++ bs.drop a).drop (a - 1)=UInt8.ofNat (48 + u % 10) :: bs.drop a:=by grind
   rw [RZ,hd];by_cases uX:u < 10
   ·grind [jg]
   ·grind [mb]
  ·have hc:a≠20/\u=0:=by
    simp [aG] at h;omega
   have hd:eP z.natAbs=bs.drop a:=by grind
   have W5:((u8L bs).drop (0 + (a:Int).toNat * 1)).take (((20:Nat):Int).toNat - (a:Int).toNat)=u8L (bs.drop a):=by grind [ze,xu]
   have hl:(bs.drop a).length=((20:Nat):Int).toNat - (a:Int).toNat:=by simp [hbl]
   refine br ?_ ?_<;>intro hz
   ·have hz:z < 0:=sU hz;refine ⟨⟨by omega,by omega,by omega⟩,?_⟩;refine ⟨bs.drop a,W5,hl,?_⟩;refine ⟨by show 1 + (bs.drop a).length<=_;rw [hl];omega,?_⟩;refine (congrArg (fun s=>DV.v (.string s)) ?_:_=_);rw [<- hd,Fx,zd hz];exact Oz [45] _
   ·have hz:¬ z < 0:=sU hz;refine ⟨⟨by omega,by omega,by omega⟩,?_⟩;refine ⟨bs.drop a,W5,hl,?_⟩;refine (congrArg (fun s=>DV.v (.string s)) ?_:_=_);rw [<- hd,Fx,KK (by omega),show z.toNat=z.natAbs by omega]
abbrev ba (l:List UInt8):ByteArray:=⟨l.toArray⟩
def tx (s:ByteArray):List UInt8:=s.data.toList
theorem cF {s:ByteArray} {l:List UInt8} (h:tx s=l):s=ba l:=by
 subst h;apply ByteArray.ext;simp [tx]
theorem dJ (s t:ByteArray):tx (s ++ t)=tx s ++ tx t:=by simp [tx]
theorem kM (l:List UInt8):tx (ba l)=l:=by simp [tx]
theorem eU (a:Array UInt8):tx ⟨a⟩=a.toList:=rfl
theorem D1 (s:ByteArray):ba (tx s)=s:=(cF rfl).symm
theorem fh (z:Int):tx (Fx z)=eK z:=by simp [tx,Fx]
theorem bf (s:ByteArray):(tx s).length=s.size:=by simp [tx]
theorem aF (s t:ByteArray):(s ++ t).size=s.size + t.size:=by simp
theorem aO (l:List UInt8):(ba l).size=l.length:=rfl
def joinT (f s:List UInt8):List (List UInt8)->List UInt8
 | []=>[]
 | x :: r=>f ++ x ++ r.flatMap fun y=>s ++ y
def jl:List (List UInt8)->Nat
 | []=>0
 | x :: r=>x.length + 2 + jl r
theorem zg {s:List UInt8} (hs:s.length<=2):∀ r:List (List UInt8),(r.flatMap fun y=>s ++ y).length<=jl r
 | []=>bn _
 | x :: r=>by
  have:=zg hs r
  grind [jl]
theorem dK {f s:List UInt8} (hf:f.length<=2) (hs:s.length<=2):∀ l:List (List UInt8),(joinT f s l).length<=jl l
 | []=>bn _
 | x :: r=>by grind [zg,joinT,jl]
def ka (w:Wd):List UInt8:=tx w.s
def gl (l:List Wd):List UInt8:=joinT [32,64] [43] (l.map ka)
theorem nu:∀ l:List Wd,jl (l.map ka)<=wdsWt l
 | []=>bn _
 | w :: r=>by
  have:=nu r
  grind [jl,wdsWt,Wd.wt,ka,bf]
theorem nv (l:List Wd):(gl l).length<=wdsWt l:=Nat.le_trans (dK (by simp) (by simp) _) (nu l)
def ew (p:Ph):List UInt8:=
 if p.ck=1 then [32,126,102,108,111,111,114,40] ++ eK p.cn ++ [41]
 else if p.ck=2 then [32,126,102,105,114,115,116,40] ++ eK p.cn ++ [41]
 else if p.ck=3 then [32,126,99,111,117,110,116] else []
def jh (p:Ph):List UInt8:=if 0 < p.wide then [32,35] ++ eK p.wide else []
def dL (p:Ph):List UInt8:=gl p.label ++ jh p ++ ew p ++ gl p.cl
def fJ (tag:Bool) (p:Ph) (u:List UInt8):List UInt8:=
 tx p.name.s ++ (if p.bare=true then [] else (if tag=true then [40] ++ u ++ [41] else [58,32] ++ u) ++ dL p)
def ey (h:Hd) (u:List UInt8) (l:List (List UInt8)):List UInt8:=
 if h.au=1 then [98,111,111,108]
 else if h.au=2 then [105,110,116,40] ++ eK h.lo ++ [46,46] ++ eK h.hi ++ [41]
 else if h.au=3 then [116,101,120,116,40] ++ eK h.most ++ [41]
 else if h.au=5 then [108,105,115,116,40] ++ u ++ [44,32] ++ eK h.most ++ [41]
 else if h.au=6 then [111,112,116,40] ++ u ++ [41]
 else if h.au=9 then [114,101,102,40] ++ tx h.name.s ++ [41]
 else if h.au=8 then [117,110,105,111,110,123] ++ joinT [] [44,32] l ++ [125]
 else if h.au=7 then [114,101,99,111,114,100,123] ++ joinT [] [44,32] l ++ [125]
 else [101,110,117,109,40] ++ joinT [] [44,32] (h.aD.map ka) ++ [41]
mutual
def tyT:Ty->List UInt8
 | .mk h ps=>ey h (firstT ps) (ik (decide (h.au=8)) ps)
def firstT:Pts->List UInt8
 | .nil=>[]
 | .cons _ t _=>tyT t
def ik (tag:Bool):Pts->List (List UInt8)
 | .nil=>[]
 | .cons p t r=>fJ tag p (tyT t) :: ik tag r
end
def fO (z:Int):Prop:=-9223372036854775808<=z/\z<=9223372036854775807
mutual
def ji:Ty->Prop
 | .mk h ps=>fO h.lo/\fO h.hi/\fO h.most/\(1<=h.au/\h.au<=9)/\(h.au=5∨h.au=6->ps.len=1)/\ia h.au ps
def ia (k:Int):Pts->Prop
 | .nil=>True
 | .cons p t r=>fO p.wide/\fO p.cn/\(p.bare=true->k=8)/\(p.bare=false->0<=p.wide/\ji t)/\ia k r
end
theorem zh {p:Ph} (h:fO p.cn):(ew p).length<=30:=by
 have:=jL h.1 h.2;unfold ew;split
 ·simp_all
 ·split
  ·simp_all
  ·split<;>simp
theorem Fy {p:Ph} (h:fO p.wide):(jh p).length<=23:=by
 have:=jL h.1 h.2
 grind [jh]
theorem ny {p:Ph} (h1:fO p.wide) (h2:fO p.cn):(dL p).length<=wdsWt p.label + wdsWt p.cl + 53:=by grind [nv,zh,Fy,dL]
theorem Fz {p:Ph} {u:List UInt8} {tag:Bool} (h1:fO p.wide) (h2:fO p.cn):(fJ tag p u).length<=p.wt + (if p.bare=true then 0 else u.length) - 100:=by grind [ny,fJ,Ph.wt,Wd.wt,bf]
theorem FA {h:Hd} {u:List UInt8} {l:List (List UInt8)} (h1:fO h.lo) (h2:fO h.hi) (h3:fO h.most):(ey h u l).length + 100<=h.wt + (if h.au=5∨h.au=6 then u.length else 0) + (if h.au=7∨h.au=8 then jl l else 0):=by
 have e1:=jL h1.1 h1.2;have e2:=jL h2.1 h2.2;have e3:=jL h3.1 h3.2;have e4:=nu h.aD;have e5:=dK (f:=[]) (s:=[44,32]) (by simp) (by simp) (h.aD.map ka);have e6:=dK (f:=[]) (s:=[44,32]) (by simp) (by simp) l;unfold ey;simp only [Hd.wt,Wd.wt];split
 ·grind
 ·split
  ·grind
  ·split
   ·grind
   ·split
    ·grind
    ·split
     ·grind
     ·split
      ·grind [bf]
      ·split
       ·rename_i hk;rw [aj (c:=h.au=7∨h.au=8) (.inr hk)];simp only [List.length_append,List.length_cons,List.length_nil];omega
       ·split
        ·rename_i hk;rw [aj (c:=h.au=7∨h.au=8) (.inl hk)];simp only [List.length_append,List.length_cons,List.length_nil];omega
        ·simp only [List.length_append,List.length_cons,List.length_nil];omega
mutual
theorem il:∀ {t:Ty},ji t->(tyT t).length + 100<=t.wt
 | .mk h ps,hf=>by
  simp only [ji] at hf;obtain ⟨h1,h2,h3,h4,h5,h6⟩:=hf;have e1:=FA (u:=firstT ps) (l:=ik (decide (h.au=8)) ps) h1 h2 h3;have e2:=sC (tag:=decide (h.au=8)) h6;simp only [tyT,Ty.wt];by_cases hk:h.au=5∨h.au=6
  ·rw [aj hk,af (by omega)] at e1
   have e3:(firstT ps).length<=ps.wt:=by
    match ps,h5 hk,h6 with
    | .cons p t r,_,h6=>
     simp only [ia] at h6;have hb:p.bare=false:=by grind
     have:=il (h6.2.2.2.1 hb).2;simp only [firstT,Pts.wt];omega
   omega
  all_goals grind
theorem sC {tag:Bool} {k:Int}:∀ {ps:Pts},ia k ps->jl (ik tag ps)<=ps.wt
 | .nil,_=>bn _
 | .cons p t r,hf=>by
  simp only [ia] at hf;obtain ⟨h1,h2,h3,h4,h5⟩:=hf;have e1:=sC (tag:=tag) h5;have e2:=Fz (tag:=tag) (u:=tyT t) h1 h2;simp only [ik,jl,Pts.wt];have e4:p.wt ≥ 256:=by simp only [Ph.wt];omega
  cases hb:p.bare
  ·have e3:=il (h4 hb).2
   grind
  all_goals grind
end
theorem sD {tag:Bool}:∀ {ps:Pts} {e:Nat} {p:Ph} {t:Ty},ps.toList[e]? = some (p,t)->(ik tag ps)[e]? = some (fJ tag p (tyT t))
 | .nil,e,p,t,h=>by simp [Pts.toList] at h
 | .cons q u r,0,p,t,h=>by grind [Pts.toList,ik]
 | .cons q u r,e + 1,p,t,h=>by
  simp only [Pts.toList,List.getElem?_cons_succ] at h;simp only [ik,List.getElem?_cons_succ];exact sD h
theorem lH {tag:Bool}:∀ ps:Pts,(ik tag ps).length=ps.len
 | .nil=>rfl
 | .cons p t r=>by simp [ik,Pts.len,lH r]
theorem vv {k:Int}:∀ {ps:Pts} {e:Nat} {p:Ph} {t:Ty},ia k ps->ps.toList[e]? = some (p,t)->fO p.wide/\fO p.cn/\(p.bare=true->k=8)/\(p.bare=false->0<=p.wide/\ji t)
 | .nil,e,p,t,_,h=>by simp [Pts.toList] at h
 | .cons q u r,0,p,t,hf,h=>by grind [Pts.toList,ia]
 | .cons q u r,e + 1,p,t,hf,h=>by
  simp only [Pts.toList,List.getElem?_cons_succ] at h;simp only [ia] at hf;exact vv hf.2.2.2.2 h
end Go.Proofs.YtfdedoiiahbnnaaGreat
set_option maxRecDepth 100000
namespace Go.Proofs
open Go.Shelf
def Tryz.lays156_ren:Go.Shelf.Ren:=⟨fun | 156=>118 | 165=>204 | 166=>54 | 169=>60 | 240=>117 | 241=>274 | 276=>203 | 277=>307 | n=>n,fun | 31=>79 | 9=>9 | 3=>3 | 4=>4 | 0=>0 | 20=>20 | 72=>113 | 76=>116 | 70=>110 | 37=>111 | 75=>115 | 127=>199 | 164=>287 | 5=>5 | 80=>125 | n=>n,fun | n=>n⟩
theorem Tryz.lays156:Go.Proofs.Lays.n156 prog Tryz.lays156_ren:={
 mixed:=by kernel_rfl
 f156:=func118.trans (congrArg some (by kernel_rfl))
 f165:=func204.trans (congrArg some (by kernel_rfl))
 f166:=func54.trans (congrArg some (by kernel_rfl))
 f169:=func60.trans (congrArg some (by kernel_rfl))
 f240:=func117.trans (congrArg some (by kernel_rfl))
 f241:=func274.trans (congrArg some (by kernel_rfl))
 f276:=func203.trans (congrArg some (by kernel_rfl))
 f277:=func307.trans (congrArg some (by kernel_rfl))
 t0:=Tryz.underlying0
 a0:=Tryz.isAgg0
 z0:=Tryz.sizeOf0
 v0:=Tryz.zeroValue0
 t3:=Tryz.underlying3
 a3:=Tryz.isAgg3
 z3:=Tryz.sizeOf3
 v3:=Tryz.zeroValue3
 t4:=Tryz.underlying4
 a4:=Tryz.isAgg4
 z4:=Tryz.sizeOf4
 v4:=Tryz.zeroValue4
 t9:=Tryz.underlying9
 a9:=Tryz.isAgg9
 z9:=Tryz.sizeOf9
 v9:=Tryz.zeroValue9
 t20:=Tryz.underlying20
 a20:=Tryz.isAgg20
 z20:=Tryz.sizeOf20
 v20:=Tryz.zeroValue20
 t31:=Tryz.underlying79
 a31:=Tryz.isAgg79
 z31:=Tryz.sizeOf79
 v31:=Tryz.zeroValue79
 t37:=Tryz.underlying111
 a37:=Tryz.isAgg111
 z37:=Tryz.sizeOf111
 v37:=Tryz.zeroValue111
 t70:=Tryz.underlying110
 a70:=Tryz.isAgg110
 z70:=Tryz.sizeOf110
 v70:=Tryz.zeroValue110
 t72:=Tryz.underlying113
 a72:=Tryz.isAgg113
 z72:=Tryz.sizeOf113
 v72:=Tryz.zeroValue113
 t75:=Tryz.underlying115
 a75:=Tryz.isAgg115
 z75:=Tryz.sizeOf115
 v75:=Tryz.zeroValue115
 t76:=Tryz.underlying116
 a76:=Tryz.isAgg116
 z76:=Tryz.sizeOf116
 v76:=Tryz.zeroValue116
 t127:=Tryz.underlying199
 a127:=Tryz.isAgg199
 z127:=Tryz.sizeOf199
 v127:=Tryz.zeroValue199
 t164:=Tryz.underlying287
 a164:=Tryz.isAgg287
 z164:=Tryz.sizeOf287
 v164:=Tryz.zeroValue287 }
theorem Tryz.Builder_Extra_156:Builder.Extra prog Tryz.lays156_ren:={
 sizeBuilder:=by kernel_rfl
 liesBuilder:=by kernel_rfl
 t5:=Tryz.underlying5
 a5:=Tryz.isAgg5
 z5:=Tryz.sizeOf5
 v5:=Tryz.zeroValue5
 infoByte:=by kernel_rfl
 cellsByte:=by kernel_rfl
 sizeByte:=by kernel_rfl
 neB5:=by decide }
end Go.Proofs
namespace Go.Proofs.YtfdedoiiahbnnaaGreat
open Go Go.RowKit Dv Go.Proofs.Tryz
theorem vw {P:Program} {f:FuncId} {args:List DV} {d:DV}
  (h:∀ (E:En) (w:World) (vs:List Value),Env E [] w->RvL E args vs->Calls P f vs.toArray w fun e w'=>∃ v,e = .returned v/\Rv E d v/\Below w.heap.size w w'):cw P f args d:=by
 intro E w vs hE fl hv;refine (h E w vs hE hv).mono ?_;rintro e w' ⟨v,rfl,hr,hb⟩;exact ⟨v,rfl,⟨hb.os,hb.tape,hb.output,hb.size,fun k hk _=>hb.block k hk⟩,fun hf=>(by cases hf),d,[],E,hE.jo hb.block,rfl,rfl,Nw.refl hE,hr,rfl⟩
def ib (l:List (List UInt8)):List (List DV):=l.map fun x=>[.v (.string (ba x))]
theorem cH (l:List (List UInt8)):(ib l).length=l.length:=by simp [ib]
theorem zj {E:En}:∀ {ls:List (List UInt8)} {arr:List Value},RvL E (ib ls).flatten arr->arr=ls.map fun x=>Value.string (ba x)
 | [],arr,h=>by simpa [ib,RvL] using h
 | x :: r,arr,h=>by
  simp only [ib,List.map_cons,List.flatten_cons,List.cons_append,List.nil_append,RvL] at h;obtain ⟨v,s,rfl,h1,h2⟩:=h;unfold Rv at h1;rw [h1.1,zj (ls:=r) h2];rfl
theorem FB (s:List UInt8):∀ l:List (List UInt8),joinT [] s l=Lib.join l s
 | []=>rfl
 | x :: r=>by
  rw [Lib.join_cons];simp [joinT,Lib.joinTail,List.flatMap]
theorem mc (ls:List (List UInt8)) (sep:ByteArray) (hN:ls.length<=140737488355328) (hlen:(joinT [] (tx sep) ls).length<=140737488355328) :
  cw prog 118 [.sl 1 (ib ls) none,.v (.string sep)] (.v (.string (ba (joinT [] (tx sep) ls)))):=by
 refine vw fun E w vs hE hv=>?_;simp only [RvL] at hv;obtain ⟨v1,s1,rfl,h1,v2,s2,rfl,h2,rfl⟩:=hv;have h2:=bC h2;subst h2;unfold Rv at h1;obtain ⟨b,n,cap,rfl,⟨rfl,yu⟩,hr,_⟩:=h1;rw [cH] at yu;rw [FB] at hlen ⊢
 have hd:(ls.map ba).map (·.data.toList)=ls:=by
  rw [List.map_map]
  conv=>rhs;rw [<- List.map_id ls]
  rfl
 by_cases bM:ls=[]
 ·subst bM;refine (Any.strings_Join_none Tryz.lays156 Tryz.Builder_Extra_156 b cap sep w).mono ?_;rintro e w' ⟨rfl,rfl⟩;exact ⟨_,rfl,eo rfl,Below.refl _ _⟩
 ·have NG:ib ls ≠ []:=by grind [cH]
  obtain ⟨kp,ph⟩:=hr NG;obtain ⟨arr,ha1,Mg,Kc⟩:=ph.qQ;have B0:=zj ha1.1;have hb:=mV kp
  have mE:∀ (j:Nat) x,(ls.map ba)[j]? = some x->w.cell? ⟨ab b,ao b + j,none⟩=some (.string x):=by
   intro j x hx;refine hE.sub _ _ (Kc j _ ?_);rw [B0];rw [List.getElem?_map] at hx ⊢
   cases hl:ls[j]? with
   | none=>rw [hl] at hx;cases hx
   | some y=>rw [hl] at hx;simp only [Option.map_some,oI] at hx ⊢;rw [hx]
  have qw:ab b < w.heap.size:=by
   cases hl:ls with
   | nil=>exact (bM hl).elim
   | cons y r=>exact World.block_lt_of_cell? w _ (mE 0 (ba y) (by rw [hl];rfl))
  rw [hb,cH];have hJ:=Any.strings_Join Tryz.lays156 Tryz.Builder_Extra_156 (ab b) (ao b) cap (ls.map ba) sep w mE qw (sU hN) (sU yu) (by rw [hd];exact hlen);rw [hd,List.length_map] at hJ;refine hJ.mono ?_;rintro e w' ⟨rfl,Bc⟩;exact ⟨_,rfl,eo rfl,Bc⟩
end Go.Proofs.YtfdedoiiahbnnaaGreat
set_option maxRecDepth 100000
namespace Go.Proofs.YtfdedoiiahbnnaaGreat
open Go Go.RowKit Dv Go.Proofs.Tryz
theorem Ce {L:List (List UInt8)} {e:Nat} {s:ByteArray} (h:L[e]? = some (tx s)):ib (L.take e) ++ [[DV.v (.string s)]]=ib (L.take (e + 1)):=by
 rw [List.take_add_one,h];simp [ib,D1]
theorem lK {L:List (List UInt8)} {e:Nat} {x:List UInt8} (h:L[e]? = some x):ib (L.take e) ++ [[DV.v (.string (ba x))]]=ib (L.take (e + 1)):=by
 rw [List.take_add_one,h];simp [ib]
theorem zl (l:List Wd) (h:l ≠ []):gl l=[32,64] ++ joinT [] [43] (l.map ka):=by
 cases l with
 | nil=>exact (h rfl).elim
 | cons x r=>simp [gl,joinT]
abbrev H7 (l:List Wd) (n e:Nat):St:=
 ⟨[gh 6 2 (bZ l),bQ 7 ((bZ l).length),bQ 8 e,(3,⟨[],.sl 1 (ib ((l.map ka).take e)) (some 0)⟩)],[],[⟨n,9,1,none⟩]⟩
theorem c8 (l:List Wd) (hs:wdsWt l<=1099511627776):cw prog 275 [.sl 2 (bZ l) none] (.v (.string (ba (gl l)))):=by
 have hl:=cW l;have hj:=dK (f:=[]) (s:=[43]) (by simp) (by simp) (l.map ka);have W6:=nu l;refine eG 24 [.tmp 2] func275 rfl ntmps275 rfl fun _ _ _ _=>?_;refine lJ (fun e=>H7 l e e) l.length (gF ⟨0,9,1,none⟩ rfl ⟨_,rfl⟩ rfl wA rfl rfl DH) ?_;intro e he;refine br ?_ ?_<;>intro h
 ·have aS:e < l.length:=by simpa [aM] using h
  obtain ⟨w,hw⟩:=gX aS;have kQ:(l.map ka)[e]? = some (tx w.s):=by simp [hw,ka]
  refine ⟨lg w,⟨by omega,eH hw⟩,?_⟩;refine ⟨by simp [cH];omega,⟨by simp [cH,maxLen];omega,by simp [cH];omega⟩,?_⟩;refine ⟨H7 l (e + 1) (e + 1),(fC (yb (gy aS (by omega)) (Ce kQ))),l.length - (e + 1),by omega,e + 1,rfl,by omega,rfl⟩
 ·have hge:e=l.length:=by
   have:=h;simp [aM] at this;omega
  have fl:(l.map ka).take e=l.map ka:=List.take_of_length_le (by simp;omega);refine br ?_ ?_<;>intro h0
  ·have h0:l=[]:=by
    have:=h0;rw [fl] at this;simp [cH] at this;exact this
   refine (congrArg (fun s=>DV.v (.string s)) (cF ?_):_=_);subst h0;simp [gl,joinT,eU]
  ·have h0:l ≠ []:=by
    rintro rfl;simp [ib] at h0
   rw [fl];refine cP DL (mc (l.map ka) (ba [43]) (by simp;omega) (by rw [kM];omega)) ?_;refine ⟨by rw [kM];(simp only [aF,aO,List.length_cons,List.length_nil];omega),?_⟩;refine (congrArg (fun s=>DV.v (.string s)) (cF ?_):_=_);rw [zl l h0];simp [dJ,eU]
theorem FC (w:Wd):cw prog 56 [.agg (lg w)] (.v (.string (ba (ka w)))):=by
 refine eG 5 [.tmp 2] func56 rfl ntmps56 rfl fun _ _ _ _=>?_;refine (congrArg (fun s=>DV.v (.string s)) ?_:_=_);exact (D1 w.s).symm
theorem sE (p:Ph) (t:Ty) (hp:p.wt<=1099511627776) (hw:fO p.wide) (hc:fO p.cn) (h0:0<=p.wide) :
  cw prog 205 [.agg (j9 p (di t))] (.v (.string (ba (dL p)))):=by
 obtain ⟨⟨ns,na⟩,bare,label,wide,ck,cn,ca,cl⟩:=p;simp only [Ph.wt,Wd.wt] at hp;simp only at hw hc h0;have l1:=nv label;have l2:=nv cl;have l3:=jM hw.1 hw.2;have l4:=jM hc.1 hc.2;obtain ⟨th,PT⟩:=t;have hck:ck=1∨ck=2∨ck=3∨(ck≠1/\ck≠2/\ck≠3):=by omega
 rcases hck with rfl | rfl | rfl | ⟨k1,k2,k3⟩
 ·refine eG 48 [.tmp 2] func205 rfl ntmps205 rfl fun _ _ _ _=>?_;refine cP kL (c8 label (by omega)) ?_;refine br ?_ ?_<;>intro nz
  ·have nz:0 < wide:=by
    have:=nz;simp at this;omega
   refine cP gZ (c9 wide hw.1 hw.2) ?_;refine ⟨by (simp only [aF,aO,List.length_cons,List.length_nil];omega),?_⟩;refine ⟨by (simp only [aF,aO,List.length_cons,List.length_nil];omega),?_⟩;refine cP gZ (c9 cn hc.1 hc.2) ?_;refine ⟨by (simp only [aF,aO,List.length_cons,List.length_nil];omega),?_⟩;refine ⟨by (simp only [aF,aO,List.length_cons,List.length_nil];omega),?_⟩;refine ⟨by (simp only [aF,aO,List.length_cons,List.length_nil];omega),?_⟩;refine ⟨by (simp only [aF,aO,List.length_cons,List.length_nil];omega),?_⟩;refine cP kL (c8 cl (by omega)) ?_;refine ⟨by (simp only [aF,aO,List.length_cons,List.length_nil];omega),?_⟩;refine (congrArg (fun s=>DV.v (.string s)) (cF ?_):_=_);simp [dL,jh,ew,dJ,eU,fh,nz]
  ·have nz:¬ 0 < wide:=by
    have:=nz;simp at this;omega
   refine cP gZ (c9 cn hc.1 hc.2) ?_;refine ⟨by (simp only [aF,aO,List.length_cons,List.length_nil];omega),?_⟩;refine ⟨by (simp only [aF,aO,List.length_cons,List.length_nil];omega),?_⟩;refine ⟨by (simp only [aF,aO,List.length_cons,List.length_nil];omega),?_⟩;refine ⟨by (simp only [aF,aO,List.length_cons,List.length_nil];omega),?_⟩;refine cP kL (c8 cl (by omega)) ?_;refine ⟨by (simp only [aF,aO,List.length_cons,List.length_nil];omega),?_⟩;refine (congrArg (fun s=>DV.v (.string s)) (cF ?_):_=_);simp [dL,jh,ew,dJ,eU,fh,nz]
 ·refine eG 48 [.tmp 2] func205 rfl ntmps205 rfl fun _ _ _ _=>?_;refine cP kL (c8 label (by omega)) ?_;refine br ?_ ?_<;>intro nz
  ·have nz:0 < wide:=by
    have:=nz;simp at this;omega
   refine cP gZ (c9 wide hw.1 hw.2) ?_;refine ⟨by (simp only [aF,aO,List.length_cons,List.length_nil];omega),?_⟩;refine ⟨by (simp only [aF,aO,List.length_cons,List.length_nil];omega),?_⟩;refine cP gZ (c9 cn hc.1 hc.2) ?_;refine ⟨by (simp only [aF,aO,List.length_cons,List.length_nil];omega),?_⟩;refine ⟨by (simp only [aF,aO,List.length_cons,List.length_nil];omega),?_⟩;refine ⟨by (simp only [aF,aO,List.length_cons,List.length_nil];omega),?_⟩;refine ⟨by (simp only [aF,aO,List.length_cons,List.length_nil];omega),?_⟩;refine cP kL (c8 cl (by omega)) ?_;refine ⟨by (simp only [aF,aO,List.length_cons,List.length_nil];omega),?_⟩;refine (congrArg (fun s=>DV.v (.string s)) (cF ?_):_=_);simp [dL,jh,ew,dJ,eU,fh,nz]
  ·have nz:¬ 0 < wide:=by
    have:=nz;simp at this;omega
   refine cP gZ (c9 cn hc.1 hc.2) ?_;refine ⟨by (simp only [aF,aO,List.length_cons,List.length_nil];omega),?_⟩;refine ⟨by (simp only [aF,aO,List.length_cons,List.length_nil];omega),?_⟩;refine ⟨by (simp only [aF,aO,List.length_cons,List.length_nil];omega),?_⟩;refine ⟨by (simp only [aF,aO,List.length_cons,List.length_nil];omega),?_⟩;refine cP kL (c8 cl (by omega)) ?_;refine ⟨by (simp only [aF,aO,List.length_cons,List.length_nil];omega),?_⟩;refine (congrArg (fun s=>DV.v (.string s)) (cF ?_):_=_);simp [dL,jh,ew,dJ,eU,fh,nz]
 ·refine eG 48 [.tmp 2] func205 rfl ntmps205 rfl fun _ _ _ _=>?_;refine cP kL (c8 label (by omega)) ?_;refine br ?_ ?_<;>intro nz
  ·have nz:0 < wide:=by
    have:=nz;simp at this;omega
   refine cP gZ (c9 wide hw.1 hw.2) ?_;refine ⟨by (simp only [aF,aO,List.length_cons,List.length_nil];omega),?_⟩;refine ⟨by (simp only [aF,aO,List.length_cons,List.length_nil];omega),?_⟩;refine cP gZ (c9 cn hc.1 hc.2) ?_;refine ⟨by (simp only [aF,aO,List.length_cons,List.length_nil];omega),?_⟩;refine ⟨by (simp only [aF,aO,List.length_cons,List.length_nil];omega),?_⟩;refine ⟨by (simp only [aF,aO,List.length_cons,List.length_nil];omega),?_⟩;refine cP kL (c8 cl (by omega)) ?_;refine ⟨by (simp only [aF,aO,List.length_cons,List.length_nil];omega),?_⟩;refine (congrArg (fun s=>DV.v (.string s)) (cF ?_):_=_);simp [dL,jh,ew,dJ,eU,fh,nz]
  ·have nz:¬ 0 < wide:=by
    have:=nz;simp at this;omega
   refine cP gZ (c9 cn hc.1 hc.2) ?_;refine ⟨by (simp only [aF,aO,List.length_cons,List.length_nil];omega),?_⟩;refine ⟨by (simp only [aF,aO,List.length_cons,List.length_nil];omega),?_⟩;refine ⟨by (simp only [aF,aO,List.length_cons,List.length_nil];omega),?_⟩;refine cP kL (c8 cl (by omega)) ?_;refine ⟨by (simp only [aF,aO,List.length_cons,List.length_nil];omega),?_⟩;refine (congrArg (fun s=>DV.v (.string s)) (cF ?_):_=_);simp [dL,jh,ew,dJ,eU,fh,nz]
 ·refine eG 48 [.tmp 2] func205 rfl ntmps205 rfl fun _ _ _ _=>?_;refine cP kL (c8 label (by omega)) ?_;refine br ?_ ?_<;>intro nz
  ·have nz:0 < wide:=by
    have:=nz;simp at this;omega
   refine cP gZ (c9 wide hw.1 hw.2) ?_;refine ⟨by (simp only [aF,aO,List.length_cons,List.length_nil];omega),?_⟩;refine ⟨by (simp only [aF,aO,List.length_cons,List.length_nil];omega),?_⟩;refine cP gZ (c9 cn hc.1 hc.2) ?_;refine ⟨by (simp only [aF,aO,List.length_cons,List.length_nil];omega),?_⟩;refine ⟨by (simp only [aF,aO,List.length_cons,List.length_nil];omega),?_⟩;refine br (fun h=>absurd (of_decide_eq_true h) k1) (fun _=>?_);refine br (fun h=>absurd (of_decide_eq_true h) k2) (fun _=>?_);refine br (fun h=>absurd (of_decide_eq_true h) k3) (fun _=>?_);refine cP kL (c8 cl (by omega)) ?_;refine ⟨by (simp only [aF,aO,List.length_cons,List.length_nil];omega),?_⟩;refine (congrArg (fun s=>DV.v (.string s)) (cF ?_):_=_);simp [dL,jh,ew,dJ,eU,fh,nz,k1,k2,k3]
  ·have nz:¬ 0 < wide:=by
    have:=nz;simp at this;omega
   refine cP gZ (c9 cn hc.1 hc.2) ?_;refine ⟨by (simp only [aF,aO,List.length_cons,List.length_nil];omega),?_⟩;refine ⟨by (simp only [aF,aO,List.length_cons,List.length_nil];omega),?_⟩;refine br (fun h=>absurd (of_decide_eq_true h) k1) (fun _=>?_);refine br (fun h=>absurd (of_decide_eq_true h) k2) (fun _=>?_);refine br (fun h=>absurd (of_decide_eq_true h) k3) (fun _=>?_);refine cP kL (c8 cl (by omega)) ?_;refine ⟨by (simp only [aF,aO,List.length_cons,List.length_nil];omega),?_⟩;refine (congrArg (fun s=>DV.v (.string s)) (cF ?_):_=_);simp [dL,jh,ew,dJ,eU,fh,nz,k1,k2,k3]
abbrev pE (d:Nat) (es:List (List DV)) (g:Nat) (L:List (List UInt8)) (n e:Nat):St:=
 ⟨[gh 8 d es,bQ 9 es.length,bQ 10 e,(1,⟨[],.fn g [] []⟩),(5,⟨[],.sl 1 (ib (L.take e)) (some 0)⟩)],[],[⟨n,9,1,none⟩]⟩
theorem sF (l:List Wd) (hs:wdsWt l<=1099511627776):cw prog 55 [.sl 2 (bZ l) none,.fn 56 [] []] (.v (.string (ba (joinT [] [44,32] (l.map ka))))):=by
 have hl:=cW l;have hj:=dK (f:=[]) (s:=[44,32]) (by simp) (by simp) (l.map ka);have W6:=nu l;refine eG 23 [.tmp 4] func55 rfl ntmps55 rfl fun _ _ _ _=>?_;refine lJ (fun e=>pE 2 (bZ l) 56 (l.map ka) e e) l.length (gF ⟨0,9,1,none⟩ rfl ⟨_,rfl⟩ rfl wA rfl rfl DH) ?_;intro e he;refine br ?_ ?_<;>intro h
 ·have aS:e < l.length:=by simpa [aM] using h
  obtain ⟨w,hw⟩:=gX aS;have kQ:(l.map ka)[e]? = some (ka w):=by simp [hw]
  refine ⟨lg w,⟨by omega,eH hw⟩,?_⟩;refine cP UM (FC w) ?_;refine ⟨by simp [cH];omega,⟨by simp [cH,maxLen];omega,by simp [cH];omega⟩,?_⟩;refine ⟨pE 2 (bZ l) 56 (l.map ka) (e + 1) (e + 1),(fC (yb (gy aS (by omega)) (lK kQ))),l.length - (e + 1),by omega,e + 1,rfl,by omega,rfl⟩
 ·have hge:e=l.length:=by
   have:=h;simp [aM] at this;omega
  have fl:(l.map ka).take e=l.map ka:=List.take_of_length_le (by simp;omega);rw [fl];refine cP DL (mc (l.map ka) (ba [44,32]) (by simp;omega) (by rw [kM];omega)) ?_;rw [kM];exact (rfl:_=_)
theorem sG (g:Nat) (fN:Enters prog g) (ps:Pts) (L:List (List UInt8)) (hs:ps.wt<=1099511627776) (hL:L.length=ps.len) (xa:jl L<=1099511627776)
  (hF:∀ (e:Nat) p t,ps.toList[e]? = some (p,t)->∃ x,L[e]? = some x/\cw prog g [.agg (j9 p (di t))] (.v (.string (ba x)))) :
  cw prog 120 [.sl 18 (eF ps) none,.fn g [] []] (.v (.string (ba (joinT [] [44,32] L)))):=by
 have hl:=ps.ng;have hj:=dK (f:=[]) (s:=[44,32]) (by simp) (by simp) L;refine eG 23 [.tmp 4] func120 rfl ntmps120 rfl fun _ _ _ _=>?_;refine lJ (fun e=>pE 18 (eF ps) g L e e) ps.len (gF ⟨0,9,1,none⟩ rfl ⟨_,rfl⟩ rfl wA rfl rfl DH) ?_;intro e he;refine br ?_ ?_<;>intro h
 ·have aS:e < ps.len:=by simpa [bN] using h
  obtain ⟨p,⟨u,us⟩,hx⟩:=Pts.ni aS;obtain ⟨x,Be,GK⟩:=hF e p _ hx;refine ⟨j9 p (di (.mk u us)),⟨by omega,fF hx⟩,?_⟩;refine cP fN GK ?_;refine ⟨by simp [cH];omega,⟨by simp [cH,maxLen];omega,by simp [cH];omega⟩,?_⟩;refine ⟨pE 18 (eF ps) g L (e + 1) (e + 1),(fC (yb (gy aS (by omega)) (lK Be))),ps.len - (e + 1),by omega,e + 1,rfl,by omega,rfl⟩
 ·have hge:e=ps.len:=by
   have:=h;simp [bN] at this;omega
  have fl:L.take e=L:=List.take_of_length_le (by omega);rw [fl];refine cP DL (mc L (ba [44,32]) (by omega) (by rw [kM];omega)) ?_;rw [kM];exact (rfl:_=_)
theorem Cf (p:Ph) (t:Ty) (hb:p.bare=false) (hp:p.wt<=1099511627776) (hw:fO p.wide) (hc:fO p.cn) (h0:0<=p.wide) (hl:(tyT t).length<=1099511627776)
  (ht:cw prog 59 [.agg (di t)] (.v (.string (ba (tyT t))))) :
  cw prog 121 [.agg (j9 p (di t))] (.v (.string (ba (fJ false p (tyT t))))):=by
 have hm:=sE p t hp hw hc h0;have l1:=ny hw hc;obtain ⟨⟨ns,na⟩,bare,label,wide,ck,cn,ca,cl⟩:=p;simp only [Ph.wt,Wd.wt] at hp l1;simp only at hb;subst hb;obtain ⟨th,PT⟩:=t;refine eG 14 [.tmp 2] func121 rfl ntmps121 rfl fun _ _ _ _=>?_;refine dI ?_;refine ⟨by (simp only [aF,aO,List.length_cons,List.length_nil];omega),?_⟩;refine cD BS ht ?_;refine ⟨by (simp only [aF,aO,List.length_cons,List.length_nil];omega),?_⟩;refine cD Mp hm ?_;refine ⟨by (simp only [aF,aO,List.length_cons,List.length_nil];omega),?_⟩;refine (congrArg (fun s=>DV.v (.string s)) (cF ?_):_=_);simp [fJ,dJ,eU]
theorem H8 (p:Ph) (t:Ty) (hp:p.wt<=1099511627776) (hw:fO p.wide) (hc:fO p.cn) (h0:p.bare=false->0<=p.wide) (hl:p.bare=false->(tyT t).length<=1099511627776)
  (ht:p.bare=false->cw prog 59 [.agg (di t)] (.v (.string (ba (tyT t))))) :
  cw prog 122 [.agg (j9 p (di t))] (.v (.string (ba (fJ true p (tyT t))))):=by
 have hm:=fun hb=>sE p t hp hw hc (h0 hb);have l1:=ny hw hc;obtain ⟨⟨ns,na⟩,bare,label,wide,ck,cn,ca,cl⟩:=p;simp only [Ph.wt,Wd.wt] at hp l1;simp only at h0 hl ht hm;obtain ⟨th,PT⟩:=t;cases bare
 ·have hl:=hl rfl;have ht:=ht rfl;have hm:=hm rfl;refine eG 20 [.tmp 2] func122 rfl ntmps122 rfl fun _ _ _ _=>?_;refine dI ?_;refine ⟨by (simp only [aF,aO,List.length_cons,List.length_nil];omega),?_⟩;refine cD BS ht ?_;refine ⟨by (simp only [aF,aO,List.length_cons,List.length_nil];omega),?_⟩;refine ⟨by (simp only [aF,aO,List.length_cons,List.length_nil];omega),?_⟩;refine cD Mp hm ?_;refine ⟨by (simp only [aF,aO,List.length_cons,List.length_nil];omega),?_⟩;refine (congrArg (fun s=>DV.v (.string s)) (cF ?_):_=_);simp [fJ,dJ,eU]
 ·refine eG 20 [.tmp 2] func122 rfl ntmps122 rfl fun _ _ _ _=>?_;refine (congrArg (fun s=>DV.v (.string s)) (cF ?_):_=_);simp [fJ]
theorem zm:∀ (k:Nat) (t:Ty),t.wt<=k->t.wt<=1099511627776->ji t ->
  cw prog 59 [.agg (di t)] (.v (.string (ba (tyT t))))
 | 0,t,hn,_,_=>by have:=t.pA;omega
 | k + 1,.mk h ps,hn,cL,hf=>by
  have ih:=zm k;have hlen:=il hf;simp only [Ty.wt,Hd.wt,Wd.wt] at hn cL hlen;simp only [ji] at hf;obtain ⟨f1,f2,f3,f4,f5,f6⟩:=hf;have l1:=jM f1.1 f1.2;have l2:=jM f2.1 f2.2;have l3:=jM f3.1 f3.2;have lp:=Pts.ng ps;have lw:=cW h.aD;have j3:=nu h.aD;have j1:=dK (f:=[]) (s:=[44,32]) (by simp) (by simp) (h.aD.map ka);have jp:=fun tag=>sC (tag:=tag) f6;have jq:=fun tag=>dK (f:=[]) (s:=[44,32]) (by simp) (by simp) (ik tag ps);obtain ⟨au,dR,lo,hi,most,aD,name⟩:=h;simp only at hn cL hlen f1 f2 f3 f4 f5 f6 l1 l2 l3 lw j3 j1;refine eG 77 [.tmp 2] func59 rfl ntmps59 rfl fun _ _ _ _=>?_;refine br ?_ ?_<;>intro k1
  ·have k1:au=1:=of_decide_eq_true k1;subst k1;refine (congrArg (fun s=>DV.v (.string s)) (cF ?_):_=_);simp [tyT,ey,eU]
  have k1:¬ au=1:=of_decide_eq_false k1;refine br ?_ ?_<;>intro k2
  ·have k2:au=2:=of_decide_eq_true k2;subst k2;refine dI ?_;refine cD gZ (c9 lo f1.1 f1.2) ?_;refine ⟨by (simp only [aF,aO,List.length_cons,List.length_nil];omega),?_⟩;refine ⟨by (simp only [aF,aO,List.length_cons,List.length_nil];omega),?_⟩;refine cD gZ (c9 hi f2.1 f2.2) ?_;refine ⟨by (simp only [aF,aO,List.length_cons,List.length_nil];omega),?_⟩;refine ⟨by (simp only [aF,aO,List.length_cons,List.length_nil];omega),?_⟩;refine (congrArg (fun s=>DV.v (.string s)) (cF ?_):_=_);simp [tyT,ey,dJ,eU,fh]
  have k2:¬ au=2:=of_decide_eq_false k2;refine br ?_ ?_<;>intro k3
  ·have k3:au=3:=of_decide_eq_true k3;subst k3;refine cP gZ (c9 most f3.1 f3.2) ?_;refine ⟨by (simp only [aF,aO,List.length_cons,List.length_nil];omega),?_⟩;refine ⟨by (simp only [aF,aO,List.length_cons,List.length_nil];omega),?_⟩;refine (congrArg (fun s=>DV.v (.string s)) (cF ?_):_=_);simp [tyT,ey,dJ,eU,fh]
  have k3:¬ au=3:=of_decide_eq_false k3;refine br ?_ ?_<;>intro k4
  ·have k4:au=4:=of_decide_eq_true k4;subst k4;refine cP QK (sF aD (by omega)) ?_;refine ⟨by (simp only [aF,aO,List.length_cons,List.length_nil];omega),?_⟩;refine ⟨by (simp only [aF,aO,List.length_cons,List.length_nil];omega),?_⟩;refine (congrArg (fun s=>DV.v (.string s)) (cF ?_):_=_);simp [tyT,ey,dJ,eU]
  have k4:¬ au=4:=of_decide_eq_false k4
  have gR:au=5∨au=6->∃ p u us,ps = .cons p (.mk u us) .nil/\ji (.mk u us):=by
   intro hk
   match ps,f5 hk,f6 with
   | .cons p (.mk u us) .nil,_,f6=>
    simp only [ia] at f6
    have hb:p.bare=false:=by
     cases hb:p.bare
     ·rfl
     ·have:=f6.2.2.1 hb;omega
    exact ⟨p,u,us,rfl,(f6.2.2.2.1 hb).2⟩
   | .cons p t (.cons q u r),h,_=>simp [Pts.len] at h
  refine br ?_ ?_<;>intro k5
  ·have k5:au=5:=of_decide_eq_true k5;subst k5;obtain ⟨p,u,us,rfl,R0⟩:=gR (.inl rfl);have hlu:=il R0;simp only [Pts.wt] at hn cL;refine dI ?_;refine ⟨j9 p (di (.mk u us)),⟨by omega,rfl⟩,?_⟩;refine cD BS (ih (.mk u us) (by omega) (by omega) R0) ?_;refine ⟨by (simp only [aF,aO,List.length_cons,List.length_nil];omega),?_⟩;refine ⟨by (simp only [aF,aO,List.length_cons,List.length_nil];omega),?_⟩;refine cD gZ (c9 most f3.1 f3.2) ?_;refine ⟨by (simp only [aF,aO,List.length_cons,List.length_nil];omega),?_⟩;refine ⟨by (simp only [aF,aO,List.length_cons,List.length_nil];omega),?_⟩;refine (congrArg (fun s=>DV.v (.string s)) (cF ?_):_=_);simp [tyT.eq_1 ⟨5,dR,lo,hi,most,aD,name⟩,ey,firstT,dJ,eU,fh]
  have k5:¬ au=5:=of_decide_eq_false k5;refine br ?_ ?_<;>intro k6
  ·have k6:au=6:=of_decide_eq_true k6;subst k6;obtain ⟨p,u,us,rfl,R0⟩:=gR (.inr rfl);have hlu:=il R0;simp only [Pts.wt] at hn cL;refine ⟨j9 p (di (.mk u us)),⟨by omega,rfl⟩,?_⟩;refine cP BS (ih (.mk u us) (by omega) (by omega) R0) ?_;refine ⟨by (simp only [aF,aO,List.length_cons,List.length_nil];omega),?_⟩;refine ⟨by (simp only [aF,aO,List.length_cons,List.length_nil];omega),?_⟩;refine (congrArg (fun s=>DV.v (.string s)) (cF ?_):_=_);simp [tyT.eq_1 ⟨6,dR,lo,hi,most,aD,name⟩,ey,firstT,dJ,eU,fh]
  have k6:¬ au=6:=of_decide_eq_false k6
  have P8:∀ (e:Nat) p t,ps.toList[e]? = some (p,t)->p.wt<=1099511627776/\fO p.wide/\fO p.cn/\(p.bare=true->au=8)/\(p.bare=false->0<=p.wide)/\(p.bare=false->(tyT t).length<=1099511627776) /\
    (p.bare=false->cw prog 59 [.agg (di t)] (.v (.string (ba (tyT t))))):=by
   intro e p t hx;have Va:=Pts.nh (mG hx);obtain ⟨g1,g2,g3,g4⟩:=vv f6 hx;exact ⟨by omega,g1,g2,g3,fun hb=>(g4 hb).1,fun hb=>by have:=il (g4 hb).2;omega,fun hb=>ih t (by omega) (by omega) (g4 hb).2⟩
  refine br ?_ ?_<;>intro k7
  ·have k7:au=7:=of_decide_eq_true k7;subst k7;have jp:=jp false;have jq:=jq false;refine cP Mn (sG 121 QP ps (ik false ps) (by omega) (lH ps) (by omega) (fun e p t hx=>⟨_,sD hx,by obtain ⟨g1,g2,g3,g4,g5,g6,g7⟩:=P8 e p t hx;have hb:p.bare=false:=Bool.eq_false_iff.2 (fun hb=>absurd (g4 hb) (by decide));exact Cf p t hb g1 g2 g3 (g5 hb) (g6 hb) (g7 hb)⟩)) ?_;refine ⟨by (simp only [aF,aO,List.length_cons,List.length_nil];omega),?_⟩;refine ⟨by (simp only [aF,aO,List.length_cons,List.length_nil];omega),?_⟩;refine (congrArg (fun s=>DV.v (.string s)) (cF ?_):_=_);simp [tyT,ey,dJ,eU]
  have k7:¬ au=7:=of_decide_eq_false k7;refine br ?_ ?_<;>intro k8
  ·have k8:au=8:=of_decide_eq_true k8;subst k8;have jp:=jp true;have jq:=jq true;refine cP Mn (sG 122 QQ ps (ik true ps) (by omega) (lH ps) (by omega) (fun e p t hx=>⟨_,sD hx,by obtain ⟨g1,g2,g3,g4,g5,g6,g7⟩:=P8 e p t hx;exact H8 p t g1 g2 g3 g5 g6 g7⟩)) ?_;refine ⟨by (simp only [aF,aO,List.length_cons,List.length_nil];omega),?_⟩;refine ⟨by (simp only [aF,aO,List.length_cons,List.length_nil];omega),?_⟩;refine (congrArg (fun s=>DV.v (.string s)) (cF ?_):_=_);simp [tyT,ey,dJ,eU]
  have k8:¬ au=8:=of_decide_eq_false k8;have k9:au=9:=by omega
  subst k9;refine ⟨by (simp only [aF,aO,List.length_cons,List.length_nil];omega),?_⟩;refine ⟨by (simp only [aF,aO,List.length_cons,List.length_nil];omega),?_⟩;refine (congrArg (fun s=>DV.v (.string s)) (cF ?_):_=_);simp [tyT,ey,dJ,eU]
theorem pF (t:Ty) (cL:t.wt<=1099511627776) (hf:ji t):cw prog 59 [.agg (di t)] (.v (.string (ba (tyT t)))):=zm _ t (bn _) cL hf
def zn (t:Ty):ByteArray:=if (wrong t 1 0).1.1=0 then ba (tyT t) else ⟨#[]⟩
theorem H9 (t:Ty) (cL:t.wt<=1099511627776) (hf:(wrong t 1 0).1.1=0->ji t)
  (hc:Ev prog 156 [.loc 0 0,.agg (di t),.v (.int .i64 1)] [[.v (.int .i64 0)]] [] (Ox t 1 0)) :
  cw prog 80 [.agg (di t)] (.v (.string (zn t))):=by
 have hr:=vu t hc;have hk:=fun h=>pF t cL (hf h);have e0:zn t=if (wrong t 1 0).1.1=0 then ba (tyT t) else ⟨#[]⟩:=rfl
 obtain ⟨h,ps⟩:=t;refine eG 9 [.tmp 2] func80 rfl ntmps80 rfl fun _ _ _ _=>?_;refine cP Oj hr ?_;refine br ?_ ?_<;>intro hb
 ·have hb:¬ (wrong (.mk h ps) 1 0).1.1=0:=sU hb;refine (congrArg (fun s=>DV.v (.string s)) ?_:_=_);rw [e0,af hb]
 ·have hb:(wrong (.mk h ps) 1 0).1.1=0:=sU hb;refine cP BS (hk hb) ?_;refine (congrArg (fun s=>DV.v (.string s)) ?_:_=_);rw [e0,aj hb]
mutual
def rngT:Ty->Prop
 | .mk h ps=>fO h.lo/\fO h.hi/\fO h.most/\rngP ps
def rngP:Pts->Prop
 | .nil=>True
 | .cons p t r=>fO p.wide/\fO p.cn/\rngT t/\rngP r
end
theorem KL {h:Hd} {ps:Pts} (ho:¬ nk (.mk h ps)=false):ps.len=0∨(5<=h.au/\h.au<=8):=by
 have h1:qU h ps=true:=by
  rw [rc];cases hb:sameTy (.mk h ps) (mask (.mk h ps))
  ·exact absurd hb ho
  ·rfl
 grind [qU]
mutual
theorem iO:∀ (t:Ty) (depth m:Int),rngT t->(wrong t depth m).1.1=0->ji t
 | .mk h ps,depth,m,hr,he=>by
  simp only [rngT] at hr;obtain ⟨r1,r2,r3,r4⟩:=hr;have i1:=uJ h ps depth (m + 1) r4;have i2:=mK h.au (pNames ps) ps 0 depth (m + 1) r4;simp only [wrong] at he;by_cases c0:24 < depth
  ·rw [aj c0] at he;simp at he
  rw [af c0] at he;by_cases c1:512 < m + 1
  ·rw [aj c1] at he;simp at he
  rw [af c1] at he;by_cases c2:h.au < 1∨9 < h.au
  ·rw [aj c2] at he;simp at he
  rw [af c2] at he;by_cases c3:nk (.mk h ps)=false
  ·rw [aj c3] at he;simp at he
  rw [af c3] at he;have ho:=KL c3;by_cases c4:(h.au=2/\h.hi < h.lo)∨(h.au=3/\(h.most < 0∨4096 < h.most))
  ·rw [aj c4] at he;simp at he
  rw [af c4] at he;by_cases c5:h.au=9/\az h.name.s=false
  ·rw [aj c5] at he;simp at he
  rw [af c5] at he
  have R4:¬ (5<=h.au/\h.au<=8)->ia h.au ps:=by
   intro hk;have:ps.len=0:=ho.resolve_right hk
   cases ps with
   | nil=>simp [ia]
   | cons p t r=>simp [Pts.len] at this
  grind [ji]
theorem uJ:∀ (h:Hd) (ps:Pts) (depth m:Int),rngP ps->(wrongOne h ps depth m).1.1=0->ps.len=1/\∀ k:Int,ia k ps
 | h,.cons p t .nil,depth,m,hr,he=>by
  simp only [rngP] at hr;have i:=iO t (depth + 1) m hr.2.2.1;simp only [wrongOne] at he;by_cases c0:p.name.s≠aY∨cu p cj=false
  ·rw [aj c0] at he;simp at he
  rw [af c0] at he;by_cases c1:h.most < 0∨1024 < h.most
  ·rw [aj c1] at he;simp at he
  rw [af c1] at he;have hp:cu p cj=true:=by grind
  simp only [cu,cj,aZ,decide_eq_true_eq,beq_iff_eq] at hp;refine ⟨rfl,fun k=>?_⟩
  grind [ia]
 | h,.nil,depth,m,hr,he=>by simp [wrongOne] at he
 | h,.cons p t (.cons q u r),depth,m,hr,he=>by simp [wrongOne] at he
theorem mK:∀ (au:Int) (all:List Wd) (ps:Pts) (i:Nat) (depth m:Int),rngP ps->(au=7∨au=8)->(wrongPts au all i ps depth m).1.1=0->ia au ps
 | au,all,.nil,i,depth,m,hr,hk,he=>by simp [ia]
 | au,all,.cons p t r,i,depth,m,hr,hk,he=>by
  simp only [rngP] at hr;have i1:=iO t (depth + 1) m hr.2.2.1;have i2:=fun m'=>mK au all r (i + 1) depth m' hr.2.2.2 hk
  grind [wrongPts,ia,cS,sameTy,bO,cu,kx,eJ]
end
end Go.Proofs.YtfdedoiiahbnnaaGreat
namespace Go.Proofs.YtfdedoiiahbnnaaGreat
namespace Dv
open Go Go.RowKit
def TypFs (f:TypeId->List DV->Prop):List TypeId->List DV->Prop
 | [],ds=>ds=[]
 | t :: r,ds=>∃ a b,ds=a ++ b/\f t a/\TypFs f r b
def Typ (P:Program):Nat->TypeId->List DV->Prop
 | 0,_,_=>False
 | n + 1,t,ds=>
  match P.underlying t with
  | some .bool=>∃ b,ds=[.v (.bool b)]
  | some (.int k)=>∃ z,ds=[.v (.int k z)]/\(Lit.int k z).wf=true
  | some .string=>∃ s:ByteArray,ds=[.v (.string s)]
  | some (.slice e)=>∃ es,ds=[.sl (P.cellsOf e) es none]/\∀ cs∈es,Typ P n e cs
  | some (.struct fs)=>TypFs (Typ P n) (fs.toList.map (·.type)) ds
  | _=>False
mutual
def wgD:DV->Nat
 | .v (.string s)=>s.size + 64
 | .sl _ es _=>64 + wgEs es
 | _=>64
def wgL:List DV->Nat
 | []=>0
 | d :: r=>wgD d + wgL r
def wgEs:List (List DV)->Nat
 | []=>0
 | cs :: r=>wgL cs + wgEs r
end
theorem fo:∀ a b:List DV,wgL (a ++ b)=wgL a + wgL b
 | [],b=>by simp [wgL]
 | d :: r,b=>by simp only [List.cons_append,wgL,fo r b];omega
def laidF (P:Program) (S:List TypeId):Nat->List Field->Nat->Bool
 | off,[],n=>decide (off=n)
 | off,f :: r,n=>decide (f.offset=off) && S.contains f.type && laidF P S (off + P.cellsOf f.type) r n
def sH (P:Program) (S:List TypeId) (t:TypeId):Bool:=
 match P.underlying t with
 | some .bool=>decide (P.cellsOf t=1)
 | some (.int _)=>decide (P.cellsOf t=1)
 | some .string=>decide (P.cellsOf t=1)
 | some (.slice e)=>decide (P.cellsOf t=1) && S.contains e && decide (0 < P.cellsOf e)
 | some (.struct fs)=>laidF P S 0 fs.toList (P.cellsOf t)
 | _=>false
def bkS {H:Type} (bk:DataW H->Nat):List (DataW H)->Nat
 | []=>0
 | d :: r=>bk d + bkS bk r
structure Bk {H:Type} (bk:DataW H->Nat):Prop where
 str:∀ l:List UInt8,l.length + 1<=bk (.lit (.string l))
 lit:∀ l,1<=bk (.lit l)
 nil:1<=bk .nil
 slice:∀ es sp,1 + bkS bk es<=bk (.slice es sp)
 agg:∀ l,bkS bk l<=bk (.agg l)
def Cg (w:World):En:=⟨fun a=>w.cell? a,[],[],[]⟩
theorem KM (w:World):Env (Cg w) [] w where
 len:=rfl
 tl:=rfl
 dQ:=by simp
 inj:=List.nodup_nil
 sub:=fun x u hx=>hx
 pc:=by simp [Cg]
 cN:=by simp [Cg]
 gC:=by simp [Cg]
theorem FD {w:World} {a:Addr} {k:Nat} {v:Value} (h:w.cell? (a.add k)=some v):w.cell? ⟨a.block,a.off + k,none⟩=some v:=by
 unfold Addr.add at h;split at h
 ·rename_i hk;subst hk;unfold World.cell? at h ⊢;split at h
  ·rename_i c e z he;split at h
   ·cases h
   ·simpa [he] using h
  ·cases h
 ·exact h
theorem FE {w:World} {a:Addr} {v:Value} (h:w.cell? a=some v):a.spot=none:=by
 unfold World.cell? at h;split at h
 ·split at h
  ·cases h
  ·rename_i hs;simpa using hs
 ·cases h
theorem sI {E:En} {b:Nat}:∀ {p:Nat} {ds:List DV} {vs:List Value},RvL E.cl ds vs->(∀ (j:Nat) v,vs[j]? = some v->E.c ⟨b,p + j,none⟩=some v/\v.oneCell'=true)->RvAt E.cl b p ds
 | p,[],vs,h,hc=>by simp only [RvAt]
 | p,d :: r,vs,h,hc=>by
  simp only [RvL] at h;obtain ⟨v,s,rfl,h1,h2⟩:=h;simp only [RvAt];obtain ⟨c1,c2⟩:=hc 0 v rfl;refine ⟨⟨v,c1,c2,h1⟩,sI (p:=p + 1) h2 fun j u hj=>?_⟩;have:=hc (j + 1) u hj;rw [show p + 1 + j=p + (j + 1) by omega];exact this
section
variable {H:Type} {enc:TypeId × Value->H} {P:Program} {w:World} {sp:Nat->Bool} {held:Bool} {S:List TypeId} {bk:DataW H->Nat}
def Rd (enc:TypeId × Value->H) (P:Program) (w:World) (bk:DataW H->Nat) (n:Nat) (t:TypeId) (cs:List Value) (d:DataW H):Prop:=
 ∃ ds,RvL (Cg w) ds cs/\(∀ v∈cs,v.oneCell'=true)/\Typ P n t ds/\wgL ds<=64 * bk d/\cs.length=P.cellsOf t
theorem vx {n:Nat} (ih:∀ t cs x,t∈S->DataW.trod enc P w 0 sp held n t cs=some x->Rd enc P w bk n t cs x.1) (cs:List Value) :
  ∀ (fs:List Field) (off:Nat) (xs:List (DataW H × List MemPlace)),laidF P S off fs cs.length=true->xs.length=fs.length ->
   (∀ (i:Nat) f,fs[i]? = some f->DataW.trod enc P w 0 sp held n f.type ((cs.drop f.offset).take (P.cellsOf f.type))=xs[i]?) ->
   ∃ ds,RvL (Cg w) ds (cs.drop off)/\(∀ v∈cs.drop off,v.oneCell'=true)/\TypFs (Typ P n) (fs.map (·.type)) ds/\wgL ds<=64 * bkS bk (xs.map (·.1))
 | [],off,xs,hl,uI,hx=>by
  simp only [laidF,decide_eq_true_eq] at hl;subst hl;simp only [List.length_nil,List.length_eq_zero_iff] at uI;subst uI;exact ⟨[],by simpa using cy _,by simp,by simp [TypFs],by simp [wgL]⟩
 | f :: r,off,xs,hl,uI,hx=>by
  simp only [laidF,aZ,decide_eq_true_eq] at hl;obtain ⟨⟨hof,hS⟩,hl⟩:=hl
  match xs,uI with
  | x :: xs,uI=>
   have h0:=hx 0 f rfl;rw [hof] at h0;simp only [List.getElem?_cons_zero] at h0;obtain ⟨ds0,r1,r2,r3,r4,r5⟩:=ih f.type _ x (sU hS) h0;obtain ⟨ds1,s1,s2,s3,s4⟩:=vx ih cs r (off + P.cellsOf f.type) xs hl (sU uI) (fun i g hg=>by simpa using hx (i + 1) g (sU hg))
   have Ia:cs.drop off=(cs.drop off).take (P.cellsOf f.type) ++ cs.drop (off + P.cellsOf f.type):=by
    rw [<- List.drop_drop,List.take_append_drop]
   refine ⟨ds0 ++ ds1,?_,?_,?_,?_⟩
   ·rw [Ia];exact RvL.append r1 s1
   ·rw [Ia];intro v hv;rcases List.mem_append.1 hv with hv | hv
    ·exact r2 v hv
    ·exact s2 v hv
   ·simp only [List.map_cons,TypFs];exact ⟨ds0,ds1,rfl,r3,s3⟩
   ·rw [fo];simp only [List.map_cons,bkS];omega
theorem zo {n e:Nat} (ih:∀ t cs x,t∈S->DataW.trod enc P w 0 sp held n t cs=some x->Rd enc P w bk n t cs x.1) (he:e∈S) (a:Addr) :
  ∀ (xs:List (DataW H × List MemPlace)) (i0:Nat),(∀ i,i < xs.length->(w.cells? 0 (a.add ((i0 + i) * P.cellsOf e)) (P.cellsOf e)).bind (DataW.trod enc P w 0 sp held n e)=xs[i]?) ->
   ∃ es,es.length=xs.length/\RvEs (Cg w) (P.cellsOf e) a.block (a.off + i0 * P.cellsOf e) es/\(∀ cs∈es,Typ P n e cs)/\wgEs es<=64 * bkS bk (xs.map (·.1))
 | [],i0,hx=>⟨[],rfl,by simp only [RvEs],by simp,by simp [wgEs]⟩
 | x :: xs,i0,hx=>by
  have h0:=hx 0 (by simp);simp only [Nat.add_zero,List.getElem?_cons_zero] at h0;obtain ⟨cs,cr,ht⟩:=Option.bind_eq_some_iff.1 h0;obtain ⟨_,hlen,mE⟩:=World.cells?_some cr;obtain ⟨ds0,r1,r2,r3,r4,r5⟩:=ih e cs x he ht
  obtain ⟨es,s1,s2,s3,s4⟩:=zo ih he a xs (i0 + 1) (fun i hi=>by
   have:=hx (i + 1) (sU hi);simp only [List.getElem?_cons_succ] at this;rw [show i0 + 1 + i=i0 + (i + 1) by omega]
   exact this)
  refine ⟨ds0 :: es,by simp [s1],?_,?_,?_⟩
  ·simp only [RvEs];refine ⟨by rw [<- r1.length,hlen],sI (E:=Cg w) r1 fun j v hj=>⟨?_,r2 v (mG hj)⟩,?_⟩
   ·have xa:j < P.cellsOf e:=by rw [<- hlen];exact (gS hj).1
    have h1:=mE j xa;rw [hj,Deep.add_add] at h1;have h2:=FD h1;show w.cell? _=_;rw [Nat.add_assoc];exact h2
   ·rw [Nat.add_assoc,show i0 * P.cellsOf e + P.cellsOf e=(i0 + 1) * P.cellsOf e by rw [Nat.add_mul,Nat.one_mul]];exact s2
  ·intro cs' hc;rcases fp hc with hc | hc
   ·subst hc;exact r3
   ·exact s3 cs' hc
  ·simp only [wgEs,List.map_cons,bkS];omega
theorem xv (qw:Bk bk) (hS:∀ t∈S,sH P S t=true):∀ (n:Nat) (t:TypeId) (cs:List Value) (x:DataW H × List MemPlace),t∈S->DataW.trod enc P w 0 sp held n t cs=some x->Rd enc P w bk n t cs x.1
 | 0,t,cs,x,_,h=>by simp [DataW.trod] at h
 | n + 1,t,cs,x,ht,h=>by
  have hf:=hS t ht;unfold sH at hf;unfold Rd
  cases hu:P.underlying t with
  | none=>rw [hu] at hf;cases hf
  | some D=>
   rw [hu] at hf
   cases D with
   | bool=>
    simp only [decide_eq_true_eq] at hf;obtain ⟨b,rfl,rfl⟩:=DataW.trod_bool hu h;have:=qw.lit (.bool b);exact ⟨[.v (.bool b)],rvL_one (by unfold Rv;exact ⟨rfl,rfl⟩),by simp [Value.oneCell'],by simp only [Typ,hu];exact ⟨b,rfl⟩,by simp only [wgL,wgD];omega,by simp [hf]⟩
   | int k=>
    simp only [decide_eq_true_eq] at hf;obtain ⟨z,rfl,rfl,hw⟩:=DataW.trod_int hu h;have:=qw.lit (.int k z);exact ⟨[.v (.int k z)],rvL_one (by unfold Rv;exact ⟨rfl,rfl⟩),by simp [Value.oneCell'],by simp only [Typ,hu];exact ⟨z,rfl,hw⟩,by simp only [wgL,wgD];omega,by simp [hf]⟩
   | string=>
    simp only [decide_eq_true_eq] at hf;obtain ⟨s,rfl,rfl,hw⟩:=DataW.trod_string hu h;have:=qw.str s.data.toList;have dp:s.data.toList.length=s.size:=by rw [Array.length_toList];all_goals rfl
    exact ⟨[.v (.string s)],rvL_one (by unfold Rv;exact ⟨rfl,rfl⟩),by simp [Value.oneCell'],by simp only [Typ,hu];exact ⟨s,rfl⟩,by simp only [wgL,wgD];omega,by simp [hf]⟩
   | slice e=>
    simp only [aZ,decide_eq_true_eq] at hf;obtain ⟨⟨W7,yv⟩,hf3⟩:=hf;rcases DataW.trod_slice hu h with ⟨rfl,rfl⟩ | ⟨a,len,cap,elems,rest,m,hm,rfl,rfl,_,Pz,_,Ha,hx,_,_⟩
    ·have:=qw.nil;refine ⟨[.sl (P.cellsOf e) [] none],rvL_one ?_,by simp [Value.oneCell'],by simp only [Typ,hu];exact ⟨[],rfl,by simp⟩,by simp only [wgL,wgD,wgEs];omega,by simp [W7]⟩;unfold Rv;exact ⟨none,0,0,rfl,⟨rfl,bn _⟩,fun hc=>absurd rfl hc,fun k hk=>by cases hk⟩
    ·simp only [Nat.add_right_cancel_iff] at hm;subst hm;obtain ⟨es,s1,s2,s3,s4⟩:=zo (fun t cs x=>xv qw hS n t cs x) (sU yv) a elems 0 (fun i hi=>by simpa using hx i (by omega));have hb:=qw.slice (elems.map (·.1)) (rest.map (·.1));refine ⟨[.sl (P.cellsOf e) es none],rvL_one ?_,by simp [Value.oneCell'],by simp only [Typ,hu];exact ⟨es,rfl,s3⟩,by simp only [wgL,wgD];omega,by simp [W7]⟩;unfold Rv;refine ⟨some a,len,cap,rfl,⟨by omega,Pz⟩,fun bM=>⟨?_,?_⟩,fun k hk=>by cases hk⟩
     ·have pk:0 < len:=by
       rw [<- Ha,<- s1];exact List.length_pos_iff.2 bM
      have h0:=hx 0 pk;rw [gE (by omega)] at h0;obtain ⟨cs,cr,_⟩:=Option.bind_eq_some_iff.1 h0;obtain ⟨_,hlen,mE⟩:=World.cells?_some cr;have h1:=mE 0 hf3;rw [gE (by omega),Deep.add_add] at h1;simp only [Nat.zero_mul,Nat.add_zero] at h1;exact FE (a:=a) h1
     ·have s2':RvEs (Cg w) (P.cellsOf e) a.block a.off es:=sU s2;exact s2'
   | struct fs=>
    obtain ⟨xs,m,hm,rfl,hlen,uI,hx⟩:=DataW.trod_struct hu h;simp only [Nat.add_right_cancel_iff] at hm;subst hm;simp only at hf;obtain ⟨ds,s1,s2,s3,s4⟩:=vx (fun t cs x=>xv qw hS n t cs x) cs fs.toList 0 xs (by rw [hlen];exact hf) (sU uI) (fun i f hi=>hx i f (sU hi));have hb:=qw.agg (xs.map (·.1));refine ⟨ds,by simpa using s1,by simpa using s2,by simp only [Typ,hu];exact s3,by simp only;omega,hlen⟩
   | _=>cases hf
end
theorem D3 {P:Program} {n:Nat} {t:TypeId} {k:IntKind} {ds:List DV} (hu:P.underlying t=some (.int k)) (h:Typ P n t ds):∃ z,ds=[.v (.int k z)]/\(Lit.int k z).wf=true:=by
 cases n with
 | zero=>exact h.elim
 | succ n=>simp only [Typ,hu] at h;exact h
theorem Ib {P:Program} {n:Nat} {t:TypeId} {ds:List DV} (hu:P.underlying t=some .bool) (h:Typ P n t ds):∃ b,ds=[.v (.bool b)]:=by
 cases n with
 | zero=>exact h.elim
 | succ n=>simp only [Typ,hu] at h;exact h
theorem KN {P:Program} {n:Nat} {t:TypeId} {ds:List DV} (hu:P.underlying t=some .string) (h:Typ P n t ds):∃ s:ByteArray,ds=[.v (.string s)]:=by
 cases n with
 | zero=>exact h.elim
 | succ n=>simp only [Typ,hu] at h;exact h
theorem xw {P:Program} {n:Nat} {t e:TypeId} {ds:List DV} (hu:P.underlying t=some (.slice e)) (h:Typ P n t ds):∃ m es,n=m + 1/\ds=[.sl (P.cellsOf e) es none]/\∀ cs∈es,Typ P m e cs:=by
 cases n with
 | zero=>exact h.elim
 | succ n=>
  simp only [Typ,hu] at h;obtain ⟨es,h1,h2⟩:=h;exact ⟨n,es,rfl,h1,h2⟩
theorem nA {P:Program} {n:Nat} {t:TypeId} {fs:Array Field} {ds:List DV} (hu:P.underlying t=some (.struct fs)) (h:Typ P n t ds):∃ m,n=m + 1/\TypFs (Typ P m) (fs.toList.map (·.type)) ds:=by
 cases n with
 | zero=>exact h.elim
 | succ n=>
  simp only [Typ,hu] at h;exact ⟨n,rfl,h⟩
theorem wf_i64 {z:Int} (h:(Lit.int .i64 z).wf=true) : -9223372036854775808<=z/\z<=9223372036854775807:=by
 simpa [Lit.wf,IntKind.min,IntKind.max,IntKind.signed,IntKind.bits] using h
end Dv
end Go.Proofs.YtfdedoiiahbnnaaGreat
set_option maxRecDepth 100000
namespace Go.Proofs.YtfdedoiiahbnnaaGreat
open Go Go.RowKit Dv Go.Proofs.Tryz
theorem Ch:prog.cellsOf 34=2:=by kernel_rfl
theorem Ci:prog.cellsOf 133=18:=by kernel_rfl
theorem pG {n:Nat} {ds:List DV} (h:Typ prog n 34 ds):∃ w:Wd,ds=lg w/\w.wt<=wgL ds:=by
 obtain ⟨m,_,hf⟩:=nA Tryz.underlying34 h;obtain ⟨a,b,rfl,h1,c,d,rfl,h2,rfl⟩:=hf;obtain ⟨s,rfl⟩:=KN Tryz.underlying9 h1;obtain ⟨z,rfl,_⟩:=D3 Tryz.underlying3 h2;exact ⟨⟨s,z⟩,rfl,by simp [wgL,wgD,Wd.wt]⟩
theorem Ic:∀ {m:Nat} {es:List (List DV)},(∀ cs∈es,Typ prog m 34 cs)->∃ l:List Wd,es=bZ l/\wdsWt l<=wgEs es
 | m,[],h=>⟨[],rfl,by simp [wdsWt,wgEs]⟩
 | m,cs :: r,h=>by
  obtain ⟨w,rfl,hw⟩:=pG (h cs (by simp));obtain ⟨l,rfl,hl⟩:=Ic (m:=m) (es:=r) (fun c hc=>h c (eB _ hc));exact ⟨w :: l,rfl,by simp only [wdsWt,wgEs];omega⟩
theorem re {n:Nat} {ds:List DV} (h:Typ prog n 29 ds):∃ l:List Wd,ds=[.sl 2 (bZ l) none]/\64 + wdsWt l<=wgL ds:=by
 obtain ⟨m,es,_,rfl,he⟩:=xw Tryz.underlying29 h;obtain ⟨l,rfl,hl⟩:=Ic he;rw [Ch];exact ⟨l,rfl,by simp only [wgL,wgD];omega⟩
theorem oB {n:Nat} {ds:List DV} (h:Typ prog n 3 ds):∃ z,ds=[.v (.int .i64 z)]/\fO z:=by
 obtain ⟨z,rfl,hw⟩:=D3 Tryz.underlying3 h;exact ⟨z,rfl,wf_i64 hw⟩
theorem Ie {m:Nat} (ih:∀ k,k < m->∀ ds,Typ prog k 36 ds->∃ t:Ty,ds=di t/\rngT t/\t.wt<=wgL ds) :
  ∀ {es:List (List DV)},(∀ cs∈es,Typ prog m 133 cs)->∃ ps:Pts,es=eF ps/\rngP ps/\ps.wt<=wgEs es
 | [],h=>⟨.nil,by simp [eF],by simp [rngP],by simp [Pts.wt]⟩
 | cs :: r,h=>by
  obtain ⟨ps,rfl,hr,hl⟩:=Ie ih (es:=r) (fun c hc=>h c (eB _ hc));obtain ⟨k,rfl,hf⟩:=nA Tryz.underlying133 (h cs (by simp));obtain ⟨a1,b1,rfl,h1,a2,b2,rfl,h2,a3,b3,rfl,h3,a4,b4,rfl,h4,a5,b5,rfl,h5,a6,b6,rfl,h6,rfl⟩:=hf;obtain ⟨nm,rfl,w1⟩:=pG h1;obtain ⟨bare,rfl⟩:=Ib Tryz.underlying4 h2;obtain ⟨uK,rfl,w3⟩:=re h3;obtain ⟨wide,rfl,r4⟩:=oB h4;obtain ⟨k5,_,hf5⟩:=nA Tryz.underlying131 h5;obtain ⟨c1,d1,rfl,g1,c2,d2,rfl,g2,c3,d3,rfl,g3,c4,d4,rfl,g4,rfl⟩:=hf5;obtain ⟨ck,rfl,_⟩:=oB g1;obtain ⟨cn,rfl,q2⟩:=oB g2;obtain ⟨ca,rfl,_⟩:=oB g3;obtain ⟨cl,rfl,w5⟩:=re g4;obtain ⟨t,rfl,rt,wt⟩:=ih k (by omega) _ h6;refine ⟨.cons ⟨nm,bare,uK,wide,ck,cn,ca,cl⟩ t ps,?_,by simp only [rngP];exact ⟨r4,q2,rt,hr⟩,?_⟩
  ·grind [eF,j9,lg]
  ·grind [Pts.wt,Ph.wt,wgEs,fo,wgL,wgD,lg,Wd.wt]
theorem Ig:∀ (n:Nat) (ds:List DV),Typ prog n 36 ds->∃ t:Ty,ds=di t/\rngT t/\t.wt<=wgL ds:=by
 intro n
 induction n using Nat.strongRecOn with
 | _ n ih=>
  intro ds h;obtain ⟨m,rfl,hf⟩:=nA Tryz.underlying36 h;obtain ⟨a1,b1,rfl,h1,a2,b2,rfl,h2,a3,b3,rfl,h3,a4,b4,rfl,h4,a5,b5,rfl,h5,a6,b6,rfl,h6,a7,b7,rfl,h7,a8,b8,rfl,h8,rfl⟩:=hf;obtain ⟨au,rfl,_⟩:=oB h1;obtain ⟨dR,rfl,_⟩:=oB h2;obtain ⟨lo,rfl,r3⟩:=oB h3;obtain ⟨hi,rfl,r4⟩:=oB h4;obtain ⟨most,rfl,r5⟩:=oB h5;obtain ⟨aD,rfl,w6⟩:=re h6;obtain ⟨k,es,rfl,rfl,ph⟩:=xw Tryz.underlying32 h7;obtain ⟨ps,rfl,rp,wp⟩:=Ie (fun j hj=>ih j (by omega)) ph;obtain ⟨nm,rfl,w8⟩:=pG h8;rw [Ci];refine ⟨.mk ⟨au,dR,lo,hi,most,aD,nm⟩ ps,?_,by simp only [rngT];exact ⟨r3,r4,r5,rp⟩,?_⟩
  ·grind [di,lg]
  ·grind [Ty.wt,Hd.wt,fo,wgL,wgD,lg,Wd.wt]
end Go.Proofs.YtfdedoiiahbnnaaGreat
namespace Go.Proofs.YtfdedoiiahbnnaaGreat
namespace Dv
open Go Go.RowKit Go.ChangeShapes Go.WideShapes Go.ChangeAt
open Go.ChangeMaps (open_string shut_string)
section
variable {H:Type} {enc:TypeId × Value->H} {P:Program}
theorem mL (hl:laidOutB P=true) {W W':World} (hb:Below W.heap.size W W'):∀ {ts:List TypeId} {vs:List Value} {ds:List (DataW H)} {ps:List MemPlace},(∀ t∈ts,P.readableRec t=true/\t < P.types.size) ->
  DataW.TrodAll enc P W 0 (fun _=>true) true ts vs ds ps->(∀ x∈ps,x.block < W.heap.size)->DataW.TrodAll enc P W' 0 (fun b=>decide (b < W.heap.size)) true ts vs ds ps
 | [],[],[],_,_,h,_=>h
 | t :: ts,v :: vs,d :: ds,_,ht,⟨p,q,h1,h2,e⟩,aS=>by
  subst e;obtain ⟨r1,r2⟩:=ht t (by simp);exact ⟨p,q,Below.trod hl r1 r2 h1 hb (fun x hx=>aS x (List.mem_append_left _ hx)),mL hl hb (fun t oX=>ht t (by simp [oX])) h2 (fun x hx=>aS x (List.mem_append_right _ hx)),rfl⟩
theorem law_post {f:Func} {s:ChangeSpec} {tb:TypeId} (hl:laidOutB P=true) (BE:f.resultTypes = #[tb]) (htb:P.underlying tb=some .bool) (hv:s.vars=[]) (hts:∀ t∈f.params.toList,P.readableRec t=true/\t < P.types.size)
  {W W':World} {args:Array Value} {ds gs:List (DataW H)} {before:List MemPlace} (hW:DataW.Whole enc P f.params.toList s.vars false W args.toList ds gs before) (ya:s.fn H ds={ results:=[.lit (.bool true)],args:=ds }) (hb:Below W.heap.size W W') :
  s.post enc P f false true false false W args (.bool true) W':=by
 have hW':=hW;obtain ⟨p,q,hA,hV,rfl,hfz,hnd⟩:=hW;rw [hv] at hV;obtain ⟨rfl,rfl⟩:=trodVars_none hV;refine ⟨ds,[],p ++ [],[],p,[],hW',?_,?_,?_,hb.frame _,fun h=>by cases h⟩
 ·rw [List.append_nil,ya,BE];exact trodAll_cons_mk (shut_bool htb _) trodAll_mk0
 ·rw [List.append_nil,ya];exact mL hl hb hts hA (fun x hx=>hW'.lt x (List.mem_append_left _ hx))
 ·rw [List.append_nil,ya,hv];rfl
theorem Cj {w w':World} {Φ:DV->List (List DV)->List TkE->Prop} {v:Value} (h:yn false (Cg w) w Φ v w'):Below w.heap.size w w':=by
 obtain ⟨hm,_⟩:=h;refine ⟨hm.os,hm.tape,hm.output,hm.size,fun k hk=>hm.block k hk ?_⟩;rintro (h1 | ⟨y,h1,_⟩)
 ·simp [Cg] at h1
 ·simp [Cg] at h1
theorem calls_law {f:FuncId} {args:List DV} {vs:List Value} {w:World} (h:cw P f args (.v (.bool true))) (hv:RvL (Cg w) args vs) :
  Calls P f vs.toArray w fun e w'=>e = .returned (.bool true)/\Below w.heap.size w w':=by
 refine (h (Cg w) w vs (KM w) rfl hv).mono ?_;rintro e w' ⟨v,rfl,he⟩;have hb:=Cj he;obtain ⟨_,_,d,os,E,_,_,_,_,hr,rfl⟩:=he;unfold Rv at hr;rw [hr.1];exact ⟨rfl,hb⟩
variable {W:World} {base:Nat} {S:List TypeId} {bk:DataW H->Nat}
theorem arg_st (qw:Bk bk) (hS:∀ t∈S,sH P S t=true) {t:TypeId} {fs:Array Field} {v:Value} {d:DataW H} {ps:List MemPlace} (ht:t∈S) (hu:P.underlying t=some (.struct fs))
  (hval:Value.okWide P W .any base t v) (h:DataW.Trod enc P W 0 (fun _=>true) true t v d ps):∃ n ds,Rv (Cg W) (.agg ds) v/\Typ P n t ds/\wgL ds<=64 * bk d:=by
 unfold Value.okWide at hval;rw [hu] at hval;obtain ⟨cs,rfl,_,_⟩:=hval;obtain ⟨n,hn⟩:=h;obtain ⟨ds,h1,h2,h3,h4,_⟩:=xv qw hS n t _ _ ht hn;refine ⟨n,ds,?_,h3,h4⟩;unfold Rv;exact ⟨cs.toList,by simp,h1,h2⟩
end
end Dv
end Go.Proofs.YtfdedoiiahbnnaaGreat
namespace Go.Proofs.YtfdedoiiahbnnaaGreat
open Go Go.RowKit Dv
theorem Ck {H:Type}:∀ l:List (DataW H),bkS Rows.uptoBulk l=Rows.uptoBulkAll l
 | []=>by simp [bkS,Rows.uptoBulkAll]
 | d :: r=>by simp only [bkS,Rows.uptoBulkAll,Ck r]
theorem bk_ok {H:Type}:Bk (Rows.uptoBulk (H:=H)) where
 str:=fun l=>by simp [Rows.uptoBulk]
 lit:=fun l=>by cases l<;>simp [Rows.uptoBulk]
 nil:=by simp [Rows.uptoBulk]
 slice:=fun es sp=>by simp only [Rows.uptoBulk,Ck];omega
 agg:=fun l=>by simp only [Rows.uptoBulk,Ck];omega
theorem bulk_le {H:Type} {l:List (DataW H)} (hk:Rows.uptoSmall H l=true):Rows.uptoBulkAll l<=1048576:=of_decide_eq_true hk
theorem laid_out:laidOutB Tryz.prog=true:=by kernel_rfl
theorem own_knob:ownKnob Tryz.prog.godebug=none:=by kernel_rfl
def tyS:List TypeId:=[36,29,34,9,3,32,133,4,131]
end Go.Proofs.YtfdedoiiahbnnaaGreat
set_option maxRecDepth 100000
namespace Go.Proofs.YtfdedoiiahbnnaaGreat
open Go Go.RowKit Dv Go.Proofs.Tryz
def bA (w:Wd):Wd:=⟨w.s,0⟩
def aT (h:Hd):Hd:=⟨h.au,0,h.lo,h.hi,h.most,aw h.aD,bA h.name⟩
def bd (p:Ph):Ph:=⟨bA p.name,p.bare,aw p.label,p.wide,p.ck,p.cn,0,aw p.cl⟩
mutual
def stripT:Ty->Ty
 | .mk h ps=>.mk (aT h) (stripP ps)
def stripP:Pts->Pts
 | .nil=>.nil
 | .cons p t r=>.cons (bd p) (stripT t) (stripP r)
end
theorem pH (l:List Wd):wdsWt (aw l)=wdsWt l:=by
 induction l with
 | nil=>rfl
 | cons w r ih=>simp only [aw,List.map_cons,wdsWt,Wd.wt] at ih ⊢;rw [ih]
mutual
theorem pI:∀ t:Ty,(stripT t).wt=t.wt
 | .mk h ps=>by simp only [stripT,Ty.wt,Hd.wt,aT,bA,Wd.wt,pH,vy ps]
theorem vy:∀ ps:Pts,(stripP ps).wt=ps.wt
 | .nil=>by simp only [stripP]
 | .cons p t r=>by simp only [stripP,Pts.wt,Ph.wt,bd,bA,Wd.wt,pH,pI t,vy r]
end
theorem iP:∀ ps:Pts,(stripP ps).len=ps.len
 | .nil=>by simp only [stripP]
 | .cons p t r=>by simp only [stripP,Pts.len,iP r]
theorem sJ:∀ {ps:Pts} {e:Nat} {p:Ph} {t:Ty},ps.toList[e]? = some (p,t)->(stripP ps).toList[e]? = some (bd p,stripT t)
 | .nil,e,p,t,h=>by simp [Pts.toList] at h
 | .cons q u r,0,p,t,h=>by grind [Pts.toList,stripP]
 | .cons q u r,e + 1,p,t,h=>by
  simp only [Pts.toList,List.getElem?_cons_succ] at h;simp only [stripP,Pts.toList,List.getElem?_cons_succ];exact sJ h
def Pts.take:Nat->Pts->Pts
 | 0,_=>.nil
 | _ + 1,.nil=>.nil
 | e + 1,.cons p t r=>.cons p t (r.take e)
theorem Pts.take_zero (ps:Pts):ps.take 0 = .nil:=by cases ps<;>rfl
theorem Pts.pJ:∀ {ps:Pts} {e:Nat} {p:Ph} {t:Ty},ps.toList[e]? = some (p,t)->eF (ps.take e) ++ [j9 p (di t)]=eF (ps.take (e + 1))
 | .nil,e,p,t,h=>by simp [Pts.toList] at h
 | .cons q u r,0,p,t,h=>by grind [Pts.toList,Pts.take,Pts.take_zero,eF]
 | .cons q u r,e + 1,p,t,h=>by
  simp only [Pts.toList,List.getElem?_cons_succ] at h;simp only [Pts.take,eF,List.cons_append];rw [Pts.pJ h]
theorem Pts.zp:∀ (ps:Pts) (e:Nat),e<=ps.len->(ps.take e).len=e
 | ps,0,_=>by rw [Pts.take_zero];all_goals rfl
 | .nil,e + 1,h=>by simp [Pts.len] at h
 | .cons p t r,e + 1,h=>by simp only [Pts.len,Pts.take] at h ⊢;rw [Pts.zp r e (by omega)]
theorem Pts.zq:∀ ps:Pts,ps.take ps.len=ps
 | .nil=>rfl
 | .cons p t r=>by simp only [Pts.len,Pts.take,Pts.zq r]
abbrev sK (h:Hd) (ps qs:Pts) (n e:Nat):St:=
 ⟨[cE 1 0,cE 2 1,gh 14 18 (eF ps),bQ 15 ((eF ps).length),bQ 16 e,(3,⟨[],.sl 18 (eF qs) (some 0)⟩)],
  [di (.mk (aT h) ps),[.v (.int .i64 0),.v (.int .i64 0),.v (.int .i64 0),.v (.int .i64 0),.v (.int .i64 0),.v (.slice none 0 0),.v (.slice none 0 0),.v (.string ByteArray.empty),.v (.int .i64 0)]],[⟨n,133,18,none⟩]⟩
theorem zt (k:Nat) (ih:∀ t:Ty,t.wt<=k->t.wt<=1099511627776->cw prog 169 [.agg (di t)] (.agg (di (stripT t)))) (h:Hd) (ps:Pts) (hk:ps.wt<=k) (cL:(Ty.mk h ps).wt<=1099511627776) :
  cw prog 169 [.agg (di (.mk h ps))] (.agg (di (stripT (.mk h ps)))):=by
 simp only [Ty.wt,Hd.wt] at cL;have nS:=ps.ng;refine eG 46 [.cell 2 36] func169 rfl ntmps169 rfl fun _ _ _ _=>?_;refine cP yO (iN h.aD (by omega)) ?_;refine de (fun j st=>∃ e:Nat,st=sK h ps ((stripP ps).take e) e e/\e<=ps.len/\j=ps.len - e) ps.len (sK h ps .nil 0 0) (gF ⟨0,133,18,none⟩ rfl ⟨_,rfl⟩ rfl wA rfl rfl DH) ⟨0,by rw [Pts.take_zero],by omega,by omega⟩ ?_;rintro j st ⟨e,rfl,he,rfl⟩;refine br ?_ ?_<;>intro hL
 ·have aS:e < ps.len:=by simpa [bN] using hL
  obtain ⟨p,t,hx⟩:=Pts.ni aS;have B8:=Pts.nh (mG hx);have vt:=Pts.pJ (sJ hx);have ja:=Pts.zp (stripP ps) e (by rw [iP];omega);have Va:p.wt + 0<=ps.wt:=by omega
  simp only [Ph.wt] at Va;have BH:=ih t (by omega) (by omega);obtain ⟨u,us⟩:=t;refine iX (fF hx) ?_;refine cP yO (iN p.label (by omega)) ?_;refine cP yO (iN p.cl (by omega)) ?_;rw [show stripT (.mk u us) = .mk (aT u) (stripP us) by simp only [stripT]] at BH vt;refine cP HC BH ?_;refine ⟨by simp only [bN,ja],⟨by simp only [bN,ja,maxLen,List.length_cons,List.length_nil];omega,by simp only [bN,ja,List.length_cons,List.length_nil];omega⟩,?_⟩;refine ⟨sK h ps ((stripP ps).take (e + 1)) (e + 1) (e + 1),(fC (yb (gy aS (by omega)) vt)),ps.len - (e + 1),by omega,e + 1,rfl,by omega,rfl⟩
 ·have hge:e=ps.len:=by simp [bN] at hL;omega
  subst hge;have ha:=Pts.zq (stripP ps);rw [iP] at ha;rw [ha];refine ⟨_,?_,rfl⟩;rw [show stripT (.mk h ps) = .mk (aT h) (stripP ps) by simp only [stripT]];exact ax
theorem sL:∀ k (t:Ty),t.wt<=k->t.wt<=1099511627776->cw prog 169 [.agg (di t)] (.agg (di (stripT t)))
 | 0,t,hk,_=>by have:=t.pA;omega
 | k + 1,.mk h ps,hk,cL=>by
  have gD:=hk;simp only [Ty.wt,Hd.wt] at gD;exact zt k (sL k) h ps (by omega) cL
theorem qx (t:Ty) (cL:t.wt<=1099511627776):cw prog 169 [.agg (di t)] (.agg (di (stripT t))):=sL t.wt t (bn _) cL
structure eW where
 ay:List Wd
 order:List (Wd × Wd)
 types:List (Wd × Ty)
 root:Ty
def FF (p:Wd × Wd):List DV:=[.v (.string p.1.s),.v (.int .i64 p.1.a),.v (.string p.2.s),.v (.int .i64 p.2.a)]
def du (l:List (Wd × Wd)):List (List DV):=l.map FF
def JV (x:Wd × Ty):List DV:=.v (.string x.1.s) :: .v (.int .i64 x.1.a) :: di x.2
def gm (l:List (Wd × Ty)):List (List DV):=l.map JV
def fy (s:eW):List DV:=.sl 2 (bZ s.ay) none :: .sl 4 (du s.order) none :: .sl 11 (gm s.types) none :: di s.root
def prsWt:List (Wd × Wd)->Nat
 | []=>0
 | p :: r=>p.1.wt + p.2.wt + prsWt r
def nmsWt:List (Wd × Ty)->Nat
 | []=>0
 | p :: r=>p.1.wt + p.2.wt + nmsWt r
def eW.wt (s:eW):Nat:=wdsWt s.ay + prsWt s.order + nmsWt s.types + s.root.wt
theorem cM (l:List (Wd × Wd)):(du l).length=l.length:=by simp [du]
theorem cT (l:List (Wd × Ty)):(gm l).length=l.length:=by simp [gm]
theorem lL {l:List (Wd × Wd)} {j:Nat} {p:Wd × Wd} (h:l[j]? = some p):(du l)[j]? = some (FF p):=by simp [du,h]
theorem jN {l:List (Wd × Ty)} {j:Nat} {p:Wd × Ty} (h:l[j]? = some p):(gm l)[j]? = some (JV p):=by simp [gm,h]
theorem gn:∀ l:List (Wd × Wd),128 * l.length<=prsWt l
 | []=>bn _
 | p :: r=>by have:=gn r;simp only [List.length_cons,prsWt,Wd.wt];omega
theorem iy:∀ l:List (Wd × Ty),256 * l.length<=nmsWt l
 | []=>bn _
 | p :: r=>by have:=iy r;have:=p.2.pA;simp only [List.length_cons,nmsWt,Wd.wt];omega
theorem pK:∀ {l:List (Wd × Wd)} {p:Wd × Wd},p∈l->p.1.wt + p.2.wt<=prsWt l
 | x :: r,p,h=>by
  rcases fp h with h | h
  ·subst h;simp only [prsWt];omega
  ·have:=pK h;simp only [prsWt];omega
theorem gp:∀ {l:List (Wd × Ty)} {p:Wd × Ty},p∈l->p.1.wt + p.2.wt<=nmsWt l
 | x :: r,p,h=>by
  rcases fp h with h | h
  ·subst h;simp only [nmsWt];omega
  ·have:=gp h;simp only [nmsWt];omega
def bg (p:Wd × Wd):Wd × Wd:=(bA p.1,bA p.2)
def bi (p:Wd × Ty):Wd × Ty:=(bA p.1,stripT p.2)
def bS (s:eW):eW:=⟨aw s.ay,s.order.map bg,s.types.map bi,stripT s.root⟩
theorem sM {α β:Type} (f:α->β) {l:List α} {e:Nat} {x:α} (h:l[e]? = some x):(l.map f).take e ++ [f x]=(l.map f).take (e + 1):=by
 rw [List.take_add_one];simp [h]
theorem FG {l:List (Wd × Wd)} {e:Nat} {x:Wd × Wd} (h:l[e]? = some x):du ((l.map bg).take e) ++ [FF (bg x)]=du ((l.map bg).take (e + 1)):=by
 rw [<- sM bg h];simp [du]
theorem FH {l:List (Wd × Ty)} {e:Nat} {x:Wd × Ty} (h:l[e]? = some x):gm ((l.map bi).take e) ++ [JV (bi x)]=gm ((l.map bi).take (e + 1)):=by
 rw [<- sM bi h];simp [gm]
theorem Cm {l:List Wd} {e:Nat} {x:Wd} (h:l[e]? = some x):bZ ((aw l).take e) ++ [lg (bA x)]=bZ ((aw l).take (e + 1)):=by grind [aw,sM,bZ,bA]
abbrev zu (s:eW) (n e:Nat):St:=
 ⟨[cE 1 0,cE 2 1,cE 3 2,gh 11 2 (bZ s.ay),bQ 12 ((bZ s.ay).length),bQ 13 e],[fy s,[.v (.slice none 0 0),.v (.slice none 0 0),.v (.slice none 0 0),.v (.int .i64 0),.v (.int .i64 0),.v (.int .i64 0),.v (.int .i64 0),.v (.int .i64 0),.v (.slice none 0 0),.v (.slice none 0 0),.v (.string ByteArray.empty),.v (.int .i64 0)],[.sl 2 (bZ ((aw s.ay).take e)) (some 0),.v (.slice none 0 0),.v (.slice none 0 0),.v (.int .i64 0),.v (.int .i64 0),.v (.int .i64 0),.v (.int .i64 0),.v (.int .i64 0),.v (.slice none 0 0),.v (.slice none 0 0),.v (.string ByteArray.empty),.v (.int .i64 0)]],[⟨n,34,2,none⟩]⟩
abbrev zw (s:eW) (m n e:Nat):St:=
 ⟨[cE 1 0,cE 2 1,cE 3 2,gh 27 4 (du s.order),bQ 28 ((du s.order).length),bQ 29 e],[fy s,[.v (.slice none 0 0),.v (.slice none 0 0),.v (.slice none 0 0),.v (.int .i64 0),.v (.int .i64 0),.v (.int .i64 0),.v (.int .i64 0),.v (.int .i64 0),.v (.slice none 0 0),.v (.slice none 0 0),.v (.string ByteArray.empty),.v (.int .i64 0)],[.sl 2 (bZ (aw s.ay)) (some 0),.sl 4 (du ((s.order.map bg).take e)) (some 1),.v (.slice none 0 0),.v (.int .i64 0),.v (.int .i64 0),.v (.int .i64 0),.v (.int .i64 0),.v (.int .i64 0),.v (.slice none 0 0),.v (.slice none 0 0),.v (.string ByteArray.empty),.v (.int .i64 0)]],[⟨m,34,2,none⟩,⟨n,122,4,none⟩]⟩
abbrev zx (s:eW) (m q n e:Nat):St:=
 ⟨[cE 1 0,cE 2 1,cE 3 2,gh 49 11 (gm s.types),bQ 50 ((gm s.types).length),bQ 51 e],[fy s,[.v (.slice none 0 0),.v (.slice none 0 0),.v (.slice none 0 0),.v (.int .i64 0),.v (.int .i64 0),.v (.int .i64 0),.v (.int .i64 0),.v (.int .i64 0),.v (.slice none 0 0),.v (.slice none 0 0),.v (.string ByteArray.empty),.v (.int .i64 0)],[.sl 2 (bZ (aw s.ay)) (some 0),.sl 4 (du (s.order.map bg)) (some 1),.sl 11 (gm ((s.types.map bi).take e)) (some 2),.v (.int .i64 0),.v (.int .i64 0),.v (.int .i64 0),.v (.int .i64 0),.v (.int .i64 0),.v (.slice none 0 0),.v (.slice none 0 0),.v (.string ByteArray.empty),.v (.int .i64 0)]],[⟨m,34,2,none⟩,⟨q,122,4,none⟩,⟨n,93,11,none⟩]⟩
theorem qy (s:eW) (cL:s.wt<=1099511627776):cw prog 88 [.agg (fy s)] (.agg (fy (bS s))):=by
 have h1:=cW s.ay;have h2:=gn s.order;have h3:=iy s.types;simp only [eW.wt] at cL;have mM:=qx s.root (by omega);obtain ⟨ay,order,types,⟨h,ps⟩⟩:=s;simp only at h1 h2 h3 cL mM;refine eG 74 [.cell 2 38] func88 rfl ntmps88 rfl fun _ _ _ _=>?_;refine lJ (fun e=>zu ⟨ay,order,types,.mk h ps⟩ e e) ay.length (lZ 3 ⟨0,34,2,none⟩ rfl rfl rfl PD rfl rfl wB) ?_;intro e he;refine br ?_ ?_<;>intro hL
 ·have aS:e < ay.length:=by simpa [aM] using hL
  obtain ⟨w,hw⟩:=gX aS;have vt:=Cm hw;have ja:((aw ay).take e).length=e:=by simp [aw];omega
  refine ⟨lg w,⟨by omega,eH hw⟩,?_⟩;refine ⟨by simp only [aM,ja],⟨by simp only [aM,ja,maxLen,List.length_cons,List.length_nil];omega,by simp only [aM,ja,List.length_cons,List.length_nil];omega⟩,?_⟩;refine ⟨zu ⟨ay,order,types,.mk h ps⟩ (e + 1) (e + 1),(yc 3 (Tm (gy aS (by omega)) vt) (yb (gy aS (by omega)) vt)),ay.length - (e + 1),by omega,e + 1,rfl,by omega,rfl⟩
 have hge:e=ay.length:=by simp [aM] at hL;omega
 subst hge;have ha:(aw ay).take ay.length=aw ay:=List.take_of_length_le (by simp [aw]);refine lJ (fun e=>zw ⟨ay,order,types,.mk h ps⟩ ay.length e e) order.length (lZ 3 ⟨0,122,4,none⟩ rfl rfl rfl (by repeat' (first | exact rfl | exact aQ rfl | exact gY (by rw [ha]) rfl | exact dz (bn _) rfl | refine ⟨_,_,rfl,?_,?_⟩)) rfl rfl (by repeat' (first | exact trivial | exact aQ rfl | exact gY (by rw [ha]) rfl | refine ⟨⟨_,rfl,?_⟩,?_⟩))) ?_;intro e he;refine br ?_ ?_<;>intro hL
 ·have aS:e < order.length:=by simpa [cM] using hL
  obtain ⟨w,hw⟩:=gX aS;have vt:=FG hw;have ja:((order.map bg).take e).length=e:=by simp;omega
  refine ⟨FF w,⟨by omega,lL hw⟩,?_⟩;refine ⟨by simp only [cM,ja],⟨by simp only [cM,ja,maxLen,List.length_cons,List.length_nil];omega,by simp only [cM,ja,List.length_cons,List.length_nil];omega⟩,?_⟩;refine ⟨zw ⟨ay,order,types,.mk h ps⟩ ay.length (e + 1) (e + 1),(yc 3 (Tm (gy aS (by omega)) vt) (yb (gy aS (by omega)) vt)),order.length - (e + 1),by omega,e + 1,rfl,by omega,rfl⟩
 have hge:e=order.length:=by simp [cM] at hL;omega
 subst hge;have hb:(order.map bg).take order.length=order.map bg:=List.take_of_length_le (by simp);refine lJ (fun e=>zx ⟨ay,order,types,.mk h ps⟩ ay.length order.length e e) types.length (lZ 3 ⟨0,93,11,none⟩ rfl rfl rfl (by repeat' (first | exact rfl | exact aQ rfl | exact gY (by rw [hb]) rfl | exact dz (bn _) rfl | refine ⟨_,_,rfl,?_,?_⟩)) rfl rfl (by repeat' (first | exact trivial | exact aQ rfl | exact gY (by rw [hb]) rfl | refine ⟨⟨_,rfl,?_⟩,?_⟩))) ?_;intro e he;refine br ?_ ?_<;>intro hL
 ·have aS:e < types.length:=by simpa [cT] using hL
  obtain ⟨w,hw⟩:=gX aS;have vt:=FH hw;have B8:=gp (mG hw);have ja:((types.map bi).take e).length=e:=by simp;omega
  have bV:=qx w.2 (by omega);obtain ⟨w,u,us⟩:=w;refine ⟨JV (w,.mk u us),⟨by omega,jN hw⟩,?_⟩;rw [show stripT (.mk u us) = .mk (aT u) (stripP us) by simp only [stripT]] at bV
  have R5:gm ((types.map bi).take e) ++ [JV (bA w,.mk (aT u) (stripP us))]=gm ((types.map bi).take (e + 1)):=by
   rw [<- vt];simp only [bi,stripT]
  refine dS ?_;refine cD HC bV ?_;refine ⟨by simp only [cT,ja],⟨by simp only [cT,ja,maxLen,List.length_cons,List.length_nil];omega,by simp only [cT,ja,List.length_cons,List.length_nil];omega⟩,?_⟩;refine ⟨zx ⟨ay,order,types,.mk h ps⟩ ay.length order.length (e + 1) (e + 1),(yc 3 (Tm (gy aS (by omega)) R5) (yb (gy aS (by omega)) R5)),types.length - (e + 1),by omega,e + 1,rfl,by omega,rfl⟩
 have hge:e=types.length:=by simp [cT] at hL;omega
 subst hge;have hc:(types.map bi).take types.length=types.map bi:=List.take_of_length_le (by simp);rw [show stripT (.mk h ps) = .mk (aT h) (stripP ps) by simp only [stripT]] at mM;refine cP HC mM ?_;refine ⟨_,?_,rfl⟩;rw [show bS ⟨ay,order,types,.mk h ps⟩=⟨aw ay,order.map bg,types.map bi,.mk (aT h) (stripP ps)⟩ by simp only [bS,stripT]];rw [hc];exact ax
def kV (s:eW):Prop:=(∀ x∈s.types,rngT x.2)/\rngT s.root
theorem Cn:prog.cellsOf 122=4:=by kernel_rfl
theorem zy:prog.cellsOf 93=11:=by kernel_rfl
theorem OB {n:Nat} {ds:List DV} (h:Typ prog n 122 ds):∃ p:Wd × Wd,ds=FF p/\p.1.wt + p.2.wt<=wgL ds:=by
 obtain ⟨m,_,hf⟩:=nA Tryz.underlying122 h;obtain ⟨a,b,rfl,h1,c,d,rfl,h2,rfl⟩:=hf;obtain ⟨x,rfl,w1⟩:=pG h1;obtain ⟨y,rfl,w2⟩:=pG h2;exact ⟨(x,y),rfl,by simp only [fo,wgL];omega⟩
theorem OC {n:Nat} {ds:List DV} (h:Typ prog n 93 ds):∃ p:Wd × Ty,ds=JV p/\rngT p.2/\p.1.wt + p.2.wt<=wgL ds:=by
 obtain ⟨m,_,hf⟩:=nA Tryz.underlying93 h;obtain ⟨a,b,rfl,h1,c,d,rfl,h2,rfl⟩:=hf;obtain ⟨x,rfl,w1⟩:=pG h1;obtain ⟨y,rfl,r2,w2⟩:=Ig _ _ h2;exact ⟨(x,y),by simp [JV,lg],r2,by simp only [fo,wgL];omega⟩
theorem Ih:∀ {m:Nat} {es:List (List DV)},(∀ cs∈es,Typ prog m 122 cs)->∃ l:List (Wd × Wd),es=du l/\prsWt l<=wgEs es
 | m,[],h=>⟨[],rfl,by simp [prsWt,wgEs]⟩
 | m,cs :: r,h=>by
  obtain ⟨w,rfl,hw⟩:=OB (h cs (by simp));obtain ⟨l,rfl,hl⟩:=Ih (m:=m) (es:=r) (fun c hc=>h c (eB _ hc));exact ⟨w :: l,rfl,by simp only [prsWt,wgEs];omega⟩
theorem Ii:∀ {m:Nat} {es:List (List DV)},(∀ cs∈es,Typ prog m 93 cs)->∃ l:List (Wd × Ty),es=gm l/\(∀ x∈l,rngT x.2)/\nmsWt l<=wgEs es
 | m,[],h=>⟨[],rfl,by simp,by simp [nmsWt,wgEs]⟩
 | m,cs :: r,h=>by
  obtain ⟨w,rfl,hr,hw⟩:=OC (h cs (by simp));obtain ⟨l,rfl,hlr,hl⟩:=Ii (m:=m) (es:=r) (fun c hc=>h c (eB _ hc));refine ⟨w :: l,rfl,fun x hx=>?_,by simp only [nmsWt,wgEs];omega⟩;rcases fp hx with rfl | hx
  ·exact hr
  ·exact hlr x hx
theorem typ_sch {n:Nat} {ds:List DV} (h:Typ prog n 38 ds):∃ s:eW,ds=fy s/\kV s/\s.wt<=wgL ds:=by
 obtain ⟨m,_,hf⟩:=nA Tryz.underlying38 h;obtain ⟨a1,b1,rfl,h1,a2,b2,rfl,h2,a3,b3,rfl,h3,a4,b4,rfl,h4,rfl⟩:=hf;obtain ⟨l1,rfl,w1⟩:=re h1;obtain ⟨m2,es2,_,rfl,he2⟩:=xw Tryz.underlying30 h2;obtain ⟨l2,rfl,w2⟩:=Ih he2;obtain ⟨m3,es3,_,rfl,he3⟩:=xw Tryz.underlying31 h3;obtain ⟨l3,rfl,r3,w3⟩:=Ii he3;obtain ⟨t,rfl,r4,w4⟩:=Ig _ _ h4;rw [Cn,zy];refine ⟨⟨l1,l2,l3,t⟩,by simp [fy],⟨r3,r4⟩,?_⟩;simp only [eW.wt,fo,wgL,wgD] at *;omega
end Go.Proofs.YtfdedoiiahbnnaaGreat
namespace Go.Proofs.YtfdedoiiahbnnaaGreat
open Go Go.RowKit Dv
def tySS:List TypeId:=38 :: 30 :: 122 :: 31 :: 93 :: tyS
theorem tySS_ok:∀ t∈tySS,sH Tryz.prog tySS t=true:=by
 have h:(tySS.all fun t=>sH Tryz.prog tySS t)=true:=by kernel_rfl
 exact fun t ht=>List.all_eq_true.1 h t ht
set_option maxRecDepth 100000
noncomputable abbrev PP:Program:=Tryz.pinned.checked.prog
def W8:OpenClaim:={ program := "",sum := "",func := "",spec := "" }
theorem and_ok {a b:Bool} (ha:a=true) (hb:b=true):(a && b)=true:=by rw [ha,hb];all_goals rfl
theorem g_laid:laidOutB PP=true:=laid_out
theorem g_maps:mapsRowed PP=true:=by kernel_rfl
theorem g_stops:(PP.stops == [])=true:=by kernel_rfl
theorem g_knobs:(PP.stopKnobs == [])=true:=by kernel_rfl
theorem g_heard:PP.stopsHeard=true:=by kernel_rfl
theorem g_enter:PP.mayEnter=true:=by kernel_rfl
theorem g_lifts:(W8.lifted == PP.liftsFinal)=true:=by kernel_rfl
theorem g_keys:(true == PP.plainKeys)=true:=by kernel_rfl
theorem g_make:(PP.make == some W8.make)=true:=by kernel_rfl
end Go.Proofs.YtfdedoiiahbnnaaGreat
set_option maxRecDepth 100000
namespace Go.Proofs
open Go.Shelf
def Tryz.lays217_ren:Go.Shelf.Ren:=⟨fun | 217=>353 | 266=>361 | n=>n,fun | 9=>9 | 3=>3 | 5=>5 | n=>n,fun | n=>n⟩
theorem Tryz.lays217:Go.Proofs.Lays.n217 prog Tryz.lays217_ren:={
 mixed:=by kernel_rfl
 f217:=func353.trans (congrArg some (by kernel_rfl))
 f266:=func361.trans (congrArg some (by kernel_rfl))
 t3:=Tryz.underlying3
 a3:=Tryz.isAgg3
 z3:=Tryz.sizeOf3
 v3:=Tryz.zeroValue3
 t5:=Tryz.underlying5
 a5:=Tryz.isAgg5
 z5:=Tryz.sizeOf5
 v5:=Tryz.zeroValue5
 t9:=Tryz.underlying9
 a9:=Tryz.isAgg9
 z9:=Tryz.sizeOf9
 v9:=Tryz.zeroValue9 }
end Go.Proofs
namespace Go.Proofs.YtfdedoiiahbnnaaGreat
open Go Go.RowKit Dv Go.Proofs.Tryz
theorem FI (s:ByteArray) (c:Int):cw prog 353 [.v (.string s),.v (.int .u8 c)] (.v (.int .i64 (Lib.indexByte (tx s) c.toNat.toUInt8))):=by
 refine vw fun E w vs hE hv=>?_;simp only [RvL] at hv;obtain ⟨v1,s1,rfl,h1,v2,s2,rfl,h2,rfl⟩:=hv;have h1:=bC h1;have h2:=bC h2;subst h1 h2;refine (Any.stringslite_IndexByte Tryz.lays217 s c w).mono ?_;rintro e w' ⟨rfl,rfl⟩;exact ⟨_,rfl,eo rfl,Below.refl _ _⟩
theorem zA (s:ByteArray) (c:Int):cw prog 333 [.v (.string s),.v (.int .u8 c)] (.v (.int .i64 (Lib.indexByte (tx s) c.toNat.toUInt8))):=by
 refine eG 8 [.tmp 4] func333 rfl ntmps333 rfl fun _ _ _ _=>?_;refine cP Ru (FI s c) ?_;exact (rfl:_=_)
def sN (s p:ByteArray):Bool:=decide (p.size<=s.size) && decide (s.extract 0 p.size=p)
theorem Co (s p:ByteArray) (hs:s.size<=4611686018427387904):cw prog 352 [.v (.string s),.v (.string p)] (.v (.bool (sN s p))):=by
 refine eG 18 [.tmp 4] func352 rfl ntmps352 rfl fun _ _ _ _=>?_;refine br ?_ ?_<;>intro g
 ·have g1:p.size<=s.size:=sU g;refine ⟨⟨by omega,by omega,by omega⟩,?_⟩;refine congrArg (fun z=>DV.v (Value.bool z)) ?_;unfold sN;rw [decide_eq_true g1,Bool.true_and];rfl
 ·have g1:¬ p.size<=s.size:=sU g;refine congrArg (fun z=>DV.v (Value.bool z)) ?_;unfold sN;rw [decide_eq_false g1,Bool.false_and]
theorem FJ (s p:ByteArray) (hs:s.size<=4611686018427387904):cw prog 332 [.v (.string s),.v (.string p)] (.v (.bool (sN s p))):=by
 refine eG 8 [.tmp 4] func332 rfl ntmps332 rfl fun _ _ _ _=>?_;refine cP Rt (Co s p hs) ?_;exact (rfl:_=_)
end Go.Proofs.YtfdedoiiahbnnaaGreat
set_option maxRecDepth 100000
namespace Go.Proofs.YtfdedoiiahbnnaaGreat
open Go Go.RowKit Dv Go.Proofs.Tryz
theorem Ij {n u:Int} (hu:1<=u):(n.tmod u < 0->n.tmod u + u=n % u)/\(¬ n.tmod u < 0->n.tmod u=n % u):=by
 have h1:=Int.emod_nonneg n (show u≠0 by omega);have h2:=Int.emod_lt_of_pos n (show 0 < u by omega);have h3:=Int.tmod_eq_emod (a:=n) (b:=u);have h4:(u.natAbs:Int)=u:=Int.natAbs_of_nonneg (by omega);rw [h3];split<;>omega
theorem OD {q u l:Int} (hu:1<=u) (hl:l<=0):q < l.tdiv u↔q * u < l:=by
 have h1:=Int.mul_tdiv_add_tmod l u;rw [Int.mul_comm] at h1;have hm:=Ij (n:=l) (u:=u) hu;have h2:=Int.emod_nonneg l (show u≠0 by omega);have h3:=Int.emod_lt_of_pos l (show 0 < u by omega)
 have h4 : -u < l.tmod u/\l.tmod u<=0:=by
  have h5:(-l).tmod u = -(l.tmod u):=Int.neg_tmod ..;have h6:(-l).tmod u=(-l) % u:=Int.tmod_eq_emod_of_nonneg (by omega);have h7:=Int.emod_nonneg (-l) (show u≠0 by omega);have h8:=Int.emod_lt_of_pos (-l) (show 0 < u by omega);omega
 constructor
 ·intro h;have:=Int.mul_le_mul_of_nonneg_right (a:=q + 1) (b:=l.tdiv u) (c:=u) (by omega) (by omega);rw [Int.add_mul,Int.one_mul] at this;omega
 ·intro h;rcases Int.lt_or_le q (l.tdiv u) with h9 | h9
  ·exact h9
  ·have:=Int.mul_le_mul_of_nonneg_right (a:=l.tdiv u) (b:=q) (c:=u) (by omega) (by omega);omega
def bK (c:Nat):Nat:=if c < 128 then 1 else if 194<=c/\c<=223 then 2 else if 224<=c/\c<=239 then 3 else if 240<=c/\c<=244 then 4 else 0
def jO (c:Nat):Nat:=if c=224 then 160 else if c=240 then 144 else 128
def jP (c:Nat):Nat:=if c=237 then 159 else if c=244 then 143 else 191
theorem FK (c:Nat):cw prog 329 [.v (.int .u8 c)] (.cp [.v (.int .i64 (bK c:Nat)),.v (.int .u8 (jO c:Nat)),.v (.int .u8 (jP c:Nat))]):=by
 have hN:bK c=if c < 128 then 1 else if 194<=c/\c<=223 then 2 else if 224<=c/\c<=239 then 3 else if 240<=c/\c<=244 then 4 else 0:=rfl
 have hL:jO c=if c=224 then 160 else if c=240 then 144 else 128:=rfl
 have hH:jP c=if c=237 then 159 else if c=244 then 143 else 191:=rfl
 generalize bK c=N at hN ⊢;generalize jO c=L at hL ⊢;generalize jP c=H at hH ⊢;refine eG 41 [.tmp 2,.tmp 3,.tmp 4] func329 rfl ntmps329 rfl fun _ _ _ _=>?_;refine br ?_ ?_<;>intro c1
 ·have c1:(c:Int) < 128:=sU c1;refine br ?_ ?_<;>intro g
  ·have g:(c:Int)=224:=sU g
   have hn:N=1:=by
    rw [hN]
    repeat' split
    all_goals omega
   have hl:L=160:=by
    rw [hL]
    repeat' split
    all_goals omega
   have hh:H=191:=by
    rw [hH]
    repeat' split
    all_goals omega
   rw [hn,hl,hh];exact ⟨_,ax,rfl⟩
  have KO:¬ (c:Int)=224:=sU g;refine br ?_ ?_<;>intro g
  ·have g:(c:Int)=237:=sU g
   have hn:N=1:=by
    rw [hN]
    repeat' split
    all_goals omega
   have hl:L=128:=by
    rw [hL]
    repeat' split
    all_goals omega
   have hh:H=159:=by
    rw [hH]
    repeat' split
    all_goals omega
   rw [hn,hl,hh];exact ⟨_,ax,rfl⟩
  have KP:¬ (c:Int)=237:=sU g;refine br ?_ ?_<;>intro g
  ·have g:(c:Int)=240:=sU g
   have hn:N=1:=by
    rw [hN]
    repeat' split
    all_goals omega
   have hl:L=144:=by
    rw [hL]
    repeat' split
    all_goals omega
   have hh:H=191:=by
    rw [hH]
    repeat' split
    all_goals omega
   rw [hn,hl,hh];exact ⟨_,ax,rfl⟩
  have KQ:¬ (c:Int)=240:=sU g;refine br ?_ ?_<;>intro g
  ·have g:(c:Int)=244:=sU g
   have hn:N=1:=by
    rw [hN]
    repeat' split
    all_goals omega
   have hl:L=128:=by
    rw [hL]
    repeat' split
    all_goals omega
   have hh:H=143:=by
    rw [hH]
    repeat' split
    all_goals omega
   rw [hn,hl,hh];exact ⟨_,ax,rfl⟩
  have KR:¬ (c:Int)=244:=sU g
  have hn:N=1:=by
   rw [hN]
   repeat' split
   all_goals omega
  have hl:L=128:=by
   rw [hL]
   repeat' split
   all_goals omega
  have hh:H=191:=by
   rw [hH]
   repeat' split
   all_goals omega
  rw [hn,hl,hh];exact ⟨_,ax,rfl⟩
 have c1:¬ (c:Int) < 128:=sU c1;refine br ?_ ?_<;>intro k
 ·have k:194<=(c:Int)/\(c:Int)<=223:=by simpa [aC] using k
  refine br ?_ ?_<;>intro g
  ·have g:(c:Int)=224:=sU g
   have hn:N=2:=by
    rw [hN]
    repeat' split
    all_goals omega
   have hl:L=160:=by
    rw [hL]
    repeat' split
    all_goals omega
   have hh:H=191:=by
    rw [hH]
    repeat' split
    all_goals omega
   rw [hn,hl,hh];exact ⟨_,ax,rfl⟩
  have KO:¬ (c:Int)=224:=sU g;refine br ?_ ?_<;>intro g
  ·have g:(c:Int)=237:=sU g
   have hn:N=2:=by
    rw [hN]
    repeat' split
    all_goals omega
   have hl:L=128:=by
    rw [hL]
    repeat' split
    all_goals omega
   have hh:H=159:=by
    rw [hH]
    repeat' split
    all_goals omega
   rw [hn,hl,hh];exact ⟨_,ax,rfl⟩
  have KP:¬ (c:Int)=237:=sU g;refine br ?_ ?_<;>intro g
  ·have g:(c:Int)=240:=sU g
   have hn:N=2:=by
    rw [hN]
    repeat' split
    all_goals omega
   have hl:L=144:=by
    rw [hL]
    repeat' split
    all_goals omega
   have hh:H=191:=by
    rw [hH]
    repeat' split
    all_goals omega
   rw [hn,hl,hh];exact ⟨_,ax,rfl⟩
  have KQ:¬ (c:Int)=240:=sU g;refine br ?_ ?_<;>intro g
  ·have g:(c:Int)=244:=sU g
   have hn:N=2:=by
    rw [hN]
    repeat' split
    all_goals omega
   have hl:L=128:=by
    rw [hL]
    repeat' split
    all_goals omega
   have hh:H=143:=by
    rw [hH]
    repeat' split
    all_goals omega
   rw [hn,hl,hh];exact ⟨_,ax,rfl⟩
  have KR:¬ (c:Int)=244:=sU g
  have hn:N=2:=by
   rw [hN]
   repeat' split
   all_goals omega
  have hl:L=128:=by
   rw [hL]
   repeat' split
   all_goals omega
  have hh:H=191:=by
   rw [hH]
   repeat' split
   all_goals omega
  rw [hn,hl,hh];exact ⟨_,ax,rfl⟩
 have k194:¬ (194<=(c:Int)/\(c:Int)<=223):=by simpa [aC] using k
 refine br ?_ ?_<;>intro k
 ·have k:224<=(c:Int)/\(c:Int)<=239:=by simpa [aC] using k
  refine br ?_ ?_<;>intro g
  ·have g:(c:Int)=224:=sU g
   have hn:N=3:=by
    rw [hN]
    repeat' split
    all_goals omega
   have hl:L=160:=by
    rw [hL]
    repeat' split
    all_goals omega
   have hh:H=191:=by
    rw [hH]
    repeat' split
    all_goals omega
   rw [hn,hl,hh];exact ⟨_,ax,rfl⟩
  have KO:¬ (c:Int)=224:=sU g;refine br ?_ ?_<;>intro g
  ·have g:(c:Int)=237:=sU g
   have hn:N=3:=by
    rw [hN]
    repeat' split
    all_goals omega
   have hl:L=128:=by
    rw [hL]
    repeat' split
    all_goals omega
   have hh:H=159:=by
    rw [hH]
    repeat' split
    all_goals omega
   rw [hn,hl,hh];exact ⟨_,ax,rfl⟩
  have KP:¬ (c:Int)=237:=sU g;refine br ?_ ?_<;>intro g
  ·have g:(c:Int)=240:=sU g
   have hn:N=3:=by
    rw [hN]
    repeat' split
    all_goals omega
   have hl:L=144:=by
    rw [hL]
    repeat' split
    all_goals omega
   have hh:H=191:=by
    rw [hH]
    repeat' split
    all_goals omega
   rw [hn,hl,hh];exact ⟨_,ax,rfl⟩
  have KQ:¬ (c:Int)=240:=sU g;refine br ?_ ?_<;>intro g
  ·have g:(c:Int)=244:=sU g
   have hn:N=3:=by
    rw [hN]
    repeat' split
    all_goals omega
   have hl:L=128:=by
    rw [hL]
    repeat' split
    all_goals omega
   have hh:H=143:=by
    rw [hH]
    repeat' split
    all_goals omega
   rw [hn,hl,hh];exact ⟨_,ax,rfl⟩
  have KR:¬ (c:Int)=244:=sU g
  have hn:N=3:=by
   rw [hN]
   repeat' split
   all_goals omega
  have hl:L=128:=by
   rw [hL]
   repeat' split
   all_goals omega
  have hh:H=191:=by
   rw [hH]
   repeat' split
   all_goals omega
  rw [hn,hl,hh];exact ⟨_,ax,rfl⟩
 have k224:¬ (224<=(c:Int)/\(c:Int)<=239):=by simpa [aC] using k
 refine br ?_ ?_<;>intro k
 ·have k:240<=(c:Int)/\(c:Int)<=244:=by simpa [aC] using k
  refine br ?_ ?_<;>intro g
  ·have g:(c:Int)=224:=sU g
   have hn:N=4:=by
    rw [hN]
    repeat' split
    all_goals omega
   have hl:L=160:=by
    rw [hL]
    repeat' split
    all_goals omega
   have hh:H=191:=by
    rw [hH]
    repeat' split
    all_goals omega
   rw [hn,hl,hh];exact ⟨_,ax,rfl⟩
  have KO:¬ (c:Int)=224:=sU g;refine br ?_ ?_<;>intro g
  ·have g:(c:Int)=237:=sU g
   have hn:N=4:=by
    rw [hN]
    repeat' split
    all_goals omega
   have hl:L=128:=by
    rw [hL]
    repeat' split
    all_goals omega
   have hh:H=159:=by
    rw [hH]
    repeat' split
    all_goals omega
   rw [hn,hl,hh];exact ⟨_,ax,rfl⟩
  have KP:¬ (c:Int)=237:=sU g;refine br ?_ ?_<;>intro g
  ·have g:(c:Int)=240:=sU g
   have hn:N=4:=by
    rw [hN]
    repeat' split
    all_goals omega
   have hl:L=144:=by
    rw [hL]
    repeat' split
    all_goals omega
   have hh:H=191:=by
    rw [hH]
    repeat' split
    all_goals omega
   rw [hn,hl,hh];exact ⟨_,ax,rfl⟩
  have KQ:¬ (c:Int)=240:=sU g;refine br ?_ ?_<;>intro g
  ·have g:(c:Int)=244:=sU g
   have hn:N=4:=by
    rw [hN]
    repeat' split
    all_goals omega
   have hl:L=128:=by
    rw [hL]
    repeat' split
    all_goals omega
   have hh:H=143:=by
    rw [hH]
    repeat' split
    all_goals omega
   rw [hn,hl,hh];exact ⟨_,ax,rfl⟩
  have KR:¬ (c:Int)=244:=sU g
  have hn:N=4:=by
   rw [hN]
   repeat' split
   all_goals omega
  have hl:L=128:=by
   rw [hL]
   repeat' split
   all_goals omega
  have hh:H=191:=by
   rw [hH]
   repeat' split
   all_goals omega
  rw [hn,hl,hh];exact ⟨_,ax,rfl⟩
 have k240:¬ (240<=(c:Int)/\(c:Int)<=244):=by simpa [aC] using k
 refine br ?_ ?_<;>intro g
 ·have g:(c:Int)=224:=sU g
  have hn:N=0:=by
   rw [hN]
   repeat' split
   all_goals omega
  have hl:L=160:=by
   rw [hL]
   repeat' split
   all_goals omega
  have hh:H=191:=by
   rw [hH]
   repeat' split
   all_goals omega
  rw [hn,hl,hh];exact ⟨_,ax,rfl⟩
 have KO:¬ (c:Int)=224:=sU g;refine br ?_ ?_<;>intro g
 ·have g:(c:Int)=237:=sU g
  have hn:N=0:=by
   rw [hN]
   repeat' split
   all_goals omega
  have hl:L=128:=by
   rw [hL]
   repeat' split
   all_goals omega
  have hh:H=159:=by
   rw [hH]
   repeat' split
   all_goals omega
  rw [hn,hl,hh];exact ⟨_,ax,rfl⟩
 have KP:¬ (c:Int)=237:=sU g;refine br ?_ ?_<;>intro g
 ·have g:(c:Int)=240:=sU g
  have hn:N=0:=by
   rw [hN]
   repeat' split
   all_goals omega
  have hl:L=144:=by
   rw [hL]
   repeat' split
   all_goals omega
  have hh:H=191:=by
   rw [hH]
   repeat' split
   all_goals omega
  rw [hn,hl,hh];exact ⟨_,ax,rfl⟩
 have KQ:¬ (c:Int)=240:=sU g;refine br ?_ ?_<;>intro g
 ·have g:(c:Int)=244:=sU g
  have hn:N=0:=by
   rw [hN]
   repeat' split
   all_goals omega
  have hl:L=128:=by
   rw [hL]
   repeat' split
   all_goals omega
  have hh:H=143:=by
   rw [hH]
   repeat' split
   all_goals omega
  rw [hn,hl,hh];exact ⟨_,ax,rfl⟩
 have KR:¬ (c:Int)=244:=sU g
 have hn:N=0:=by
  rw [hN]
  repeat' split
  all_goals omega
 have hl:L=128:=by
  rw [hL]
  repeat' split
  all_goals omega
 have hh:H=191:=by
  rw [hH]
  repeat' split
  all_goals omega
 rw [hn,hl,hh];exact ⟨_,ax,rfl⟩
def recV:List UInt8->Int
 | [a]=>a.toNat
 | [a,b]=>(a.toNat - 192) * 64 + (b.toNat - 128)
 | [a,b,c]=>(a.toNat - 224) * 4096 + (b.toNat - 128) * 64 + (c.toNat - 128)
 | [a,b,c,d]=>(a.toNat - 240) * 262144 + (b.toNat - 128) * 4096 + (c.toNat - 128) * 64 + (d.toNat - 128)
 | _=>0
def KS:List UInt8->Bool
 | [a]=>decide (a.toNat < 128)
 | [a,b]=>decide (192<=a.toNat/\a.toNat < 224/\128<=b.toNat/\b.toNat < 192)
 | [a,b,c]=>decide (224<=a.toNat/\a.toNat < 240/\128<=b.toNat/\b.toNat < 192/\128<=c.toNat/\c.toNat < 192)
 | [a,b,c,d]=>decide (240<=a.toNat/\a.toNat < 248/\128<=b.toNat/\b.toNat < 192/\128<=c.toNat/\c.toNat < 192/\128<=d.toNat/\d.toNat < 192)
 | _=>false
theorem zB {n:Int} (h1 : -2147483648<=n) (h2:n<=2147483647):IntKind.i32.wrap n=n:=by
 simp [IntKind.wrap,IntKind.min,IntKind.max,IntKind.signed,IntKind.bits];omega
theorem Ik {x:Nat} (h:x < 4294967296):(BitVec.ofInt 32 (x:Int)).toNat=x:=by
 rw [BitVec.toNat_ofInt];omega
theorem Il {x m:Nat} (k:Nat) (hk:m=2 ^ k - 1) (hm:m < 256) (h:x < 256):IntKind.i32.wrap ((BitVec.ofInt IntKind.i32.bits (IntKind.i32.wrap (x:Int)) &&& BitVec.ofInt IntKind.i32.bits (m:Int)).toNat:Nat)=((x % 2 ^ k:Nat):Int):=by
 rw [zB (n:=(x:Int)) (by omega) (by omega)];show IntKind.i32.wrap ((BitVec.ofInt 32 (x:Int) &&& BitVec.ofInt 32 (m:Int)).toNat:Nat)=_;rw [BitVec.toNat_and,Ik (by omega),Ik (by omega),hk,Nat.and_two_pow_sub_one_eq_mod];have:=Nat.mod_le x (2 ^ k);exact zB (by omega) (by omega)
theorem vz {x:Nat} (hx:x < 256):IntKind.i32.wrap (IntKind.u8.wrap ((BitVec.ofInt IntKind.u8.bits (x:Int) &&& BitVec.ofInt IntKind.u8.bits 63).toNat:Nat))=((x % 64:Nat):Int):=by
 show IntKind.i32.wrap (IntKind.u8.wrap ((BitVec.ofInt 8 (x:Int) &&& BitVec.ofInt 8 63).toNat:Nat))=_;have e:(BitVec.ofInt 8 (x:Int)).toNat=x:=by rw [BitVec.toNat_ofInt];omega
 rw [BitVec.toNat_and,e,show (BitVec.ofInt 8 63).toNat=2 ^ 6 - 1 from rfl,Nat.and_two_pow_sub_one_eq_mod];rw [IntKind.wrap_u8'];rw [zB (by omega) (by omega)];omega
theorem FL {x y:Nat} (h:x < 1000000) (hy:y < 64):IntKind.i32.wrap ((BitVec.ofInt IntKind.i32.bits (IntKind.i32.wrap ((x:Int) * 2 ^ min (Int.toNat 6) IntKind.i32.bits)) ||| BitVec.ofInt IntKind.i32.bits (y:Int)).toNat:Nat)=((x * 64 + y:Nat):Int):=by
 show IntKind.i32.wrap ((BitVec.ofInt 32 (IntKind.i32.wrap ((x:Int) * 64)) ||| BitVec.ofInt 32 (y:Int)).toNat:Nat)=_;rw [zB (n:=(x:Int) * 64) (by omega) (by omega),show (x:Int) * 64=((x * 64:Nat):Int) by omega,BitVec.toNat_or,Ik (by omega),Ik (by omega)];have:=Nat.shiftLeft_add_eq_or_of_lt (i:=6) (b:=y) hy x;rw [Nat.shiftLeft_eq] at this
 grind [zB]
theorem sO {s:ByteArray} {l:List UInt8} (hl:tx s=l) {z:Int} (k:Nat) (hz:z.toNat=k):aE s z.toNat=(l.getD k 0).toNat:=by
 rw [hz,<- hl];all_goals rfl
theorem Cp (s:ByteArray) (h:1<=s.size/\s.size<=4):Ev prog 330 [.v (.string s)] [] [] (fun r _ _=>∃ z:Int,r = .v (.int .i32 z)/\(KS (tx s)=true->z=recV (tx s))):=by
 have ja:=bf s;refine eG 57 [.tmp 2] func330 rfl ntmps330 rfl fun _ _ _ _=>?_;refine br ?_ ?_<;>intro c1
 ·refine ⟨⟨by omega,by omega⟩,?_⟩;have c1:s.size=1:=by have:=of_decide_eq_true c1;omega
  obtain ⟨a,hl⟩:∃ a,tx s=[a]:=by
   rw [c1] at ja
   match tx s,ja with
   | [a],_=>exact ⟨a,rfl⟩
  refine ⟨_,rfl,fun _=>?_⟩;have ha:=a.toNat_lt;rw [sO hl 0 rfl,hl];exact zB (by show _<=(a.toNat:Int);omega) (by show (a.toNat:Int)<=_;omega)
 ·refine dI ?_;refine ⟨⟨by omega,by omega⟩,?_⟩;have hw7:IntKind.i64.wrap (7 - (s.size:Int))=7 - s.size:=wrap64 (by omega) (by omega);have kQ:IntKind.i64.wrap (1 + 1)=2:=rfl;have x9:IntKind.i64.wrap (IntKind.i64.wrap (1 + 1) + 1)=3:=rfl
  have c1:¬ s.size=1:=by
   have:=of_decide_eq_false c1;omega
  refine ⟨by rw [hw7];omega,?_⟩;refine br ?_ ?_<;>intro c4
  ·have c4:s.size=4:=by have:=of_decide_eq_true c4;omega
   refine ⟨by omega,?_⟩;refine ⟨⟨by first | omega | (rw [kQ];omega),by first | omega | (rw [kQ];omega)⟩,?_⟩;refine ⟨by omega,?_⟩;refine ⟨⟨by first | omega | (rw [kQ];omega),by first | omega | (rw [kQ];omega)⟩,?_⟩;refine ⟨by omega,?_⟩;refine ⟨⟨by first | omega | (rw [x9];omega),by first | omega | (rw [x9];omega)⟩,?_⟩
   obtain ⟨a,b,c,d,hl⟩:∃ a b c d,tx s=[a,b,c,d]:=by
    rw [c4] at ja
    match tx s,ja with
    | [a,b,c,d],_=>exact ⟨a,b,c,d,rfl⟩
   refine ⟨_,rfl,fun hi=>?_⟩;have ha:=a.toNat_lt;have hb:=b.toNat_lt;have hc:=c.toNat_lt;have hd:=d.toNat_lt;have hm:IntKind.i32.wrap (IntKind.i32.wrap (1 * 2 ^ min (IntKind.i64.wrap (7 - (s.size:Int))).toNat IntKind.i32.bits) - 1)=((7:Nat):Int):=by rw [c4];all_goals rfl
   rw [hm,sO hl 0 rfl,sO hl 1 rfl,sO hl 2 rfl,sO hl 3 rfl];simp only [List.getD_cons_zero,List.getD_cons_succ];rw [Il 3 rfl (by omega) ha,vz hb,FL (by omega) (by omega),vz hc,FL (by omega) (by omega),vz hd,FL (by omega) (by omega)];rw [hl] at hi ⊢;rw [KS,decide_eq_true_iff] at hi;simp only [recV];omega
  have c4:¬ s.size=4:=by have:=of_decide_eq_false c4;omega
  refine br ?_ ?_<;>intro c3
  ·have c3:s.size=3:=by have:=of_decide_eq_true c3;omega
   refine ⟨by omega,?_⟩;refine ⟨⟨by first | omega | (rw [kQ];omega),by first | omega | (rw [kQ];omega)⟩,?_⟩;refine ⟨by omega,?_⟩;refine ⟨⟨by first | omega | (rw [kQ];omega),by first | omega | (rw [kQ];omega)⟩,?_⟩
   obtain ⟨a,b,c,hl⟩:∃ a b c,tx s=[a,b,c]:=by
    rw [c3] at ja
    match tx s,ja with
    | [a,b,c],_=>exact ⟨a,b,c,rfl⟩
   refine ⟨_,rfl,fun hi=>?_⟩;have ha:=a.toNat_lt;have hb:=b.toNat_lt;have hc:=c.toNat_lt;have hm:IntKind.i32.wrap (IntKind.i32.wrap (1 * 2 ^ min (IntKind.i64.wrap (7 - (s.size:Int))).toNat IntKind.i32.bits) - 1)=((15:Nat):Int):=by rw [c3];all_goals rfl
   rw [hm,sO hl 0 rfl,sO hl 1 rfl,sO hl 2 rfl];simp only [List.getD_cons_zero,List.getD_cons_succ];rw [Il 4 rfl (by omega) ha,vz hb,FL (by omega) (by omega),vz hc,FL (by omega) (by omega)];rw [hl] at hi ⊢;rw [KS,decide_eq_true_iff] at hi;simp only [recV];omega
  have c3:¬ s.size=3:=by have:=of_decide_eq_false c3;omega
  refine br ?_ ?_<;>intro c2
  ·have c2:s.size=2:=by have:=of_decide_eq_true c2;omega
   refine ⟨by omega,?_⟩;refine ⟨⟨by first | omega | (rw [kQ];omega),by first | omega | (rw [kQ];omega)⟩,?_⟩
   obtain ⟨a,b,hl⟩:∃ a b,tx s=[a,b]:=by
    rw [c2] at ja
    match tx s,ja with
    | [a,b],_=>exact ⟨a,b,rfl⟩
   refine ⟨_,rfl,fun hi=>?_⟩;have ha:=a.toNat_lt;have hb:=b.toNat_lt;have hm:IntKind.i32.wrap (IntKind.i32.wrap (1 * 2 ^ min (IntKind.i64.wrap (7 - (s.size:Int))).toNat IntKind.i32.bits) - 1)=((31:Nat):Int):=by rw [c2];all_goals rfl
   rw [hm,sO hl 0 rfl,sO hl 1 rfl];simp only [List.getD_cons_zero,List.getD_cons_succ];rw [Il 5 rfl (by omega) ha,vz hb,FL (by omega) (by omega)];rw [hl] at hi ⊢;rw [KS,decide_eq_true_iff] at hi;simp only [recV];omega
  ·exfalso;have:=of_decide_eq_false c2;omega
def vA (c i b:Nat):Bool:=if i=0 then decide (jO c<=b) && decide (b<=jP c) else decide (128<=b) && decide (b<=191)
def allC (c:Nat) (r:List UInt8) (k:Nat):Bool:=(List.range k).all fun i=>match r[i]? with
 | some b=>vA c i b.toNat
 | none=>false
theorem FM (c:Nat) (r:List UInt8) (k:Nat):allC c r (k + 1)=(allC c r k && match r[k]? with | some b=>vA c k b.toNat | none=>false):=by grind [allC]
theorem rf {c:Nat} {r:List UInt8} {k n:Nat} (h:k < n) (hk:(match r[k]? with | some b=>vA c k b.toNat | none=>false)=false):allC c r n=false:=by grind [allC]
def okU:List UInt8->Bool
 | []=>false
 | c :: r=>decide (1<=bK c.toNat) && allC c.toNat r (bK c.toNat - 1)
def gA:List UInt8->Nat
 | []=>0
 | c :: r=>if okU (c :: r)=true then bK c.toNat else 1
theorem OE {c:UInt8} {r:List UInt8} (h:okU (c :: r)=true):KS ((c :: r).take (bK c.toNat))=true:=by
 unfold okU at h;rw [aZ,decide_eq_true_iff] at h;obtain ⟨h1,h2⟩:=h;have hb:∀ i,i < bK c.toNat - 1->∃ b:UInt8,r[i]? = some b/\128<=b.toNat/\b.toNat < 192:=fun i hi=>by grind [allC,vA,jO,jP]
 have hn:(bK c.toNat=1/\c.toNat < 128)∨(bK c.toNat=2/\192<=c.toNat/\c.toNat < 224)∨(bK c.toNat=3/\224<=c.toNat/\c.toNat < 240)∨(bK c.toNat=4/\240<=c.toNat/\c.toNat < 248):=by grind [bK]
 rcases hn with ⟨hn,hc⟩ | ⟨hn,hc⟩ | ⟨hn,hc⟩ | ⟨hn,hc⟩<;>rw [hn] at hb ⊢
 ·simp [KS,hc]
 ·obtain ⟨b,h5,h6⟩:=hb 0 (by omega)
  match r,h5 with
  | x :: r,h5=>grind [KS]
 ·obtain ⟨b,h5,h6⟩:=hb 0 (by omega);obtain ⟨b',h7,h8⟩:=hb 1 (by omega)
  match r,h5,h7 with
  | x :: y :: r,h5,h7=>grind [KS]
 ·obtain ⟨b,h5,h6⟩:=hb 0 (by omega);obtain ⟨b',h7,h8⟩:=hb 1 (by omega);obtain ⟨b2,h9,uX⟩:=hb 2 (by omega)
  match r,h5,h7,h9 with
  | x :: y :: v :: r,h5,h7,h9=>simp_all [KS]
set_option maxHeartbeats 4000000 in
theorem pL (s:ByteArray) (dR:Nat) (hs:s.size<=1099511627776) (c:UInt8) (r:List UInt8) (h:(tx s).drop dR=c :: r) :
  Ev prog 288 [.v (.string s),.v (.int .i64 dR)] [] [] (fun d _ _=>∃ (z:Int) (n:Nat),d = .cp [.v (.int .i32 z),.v (.int .i64 n),.v (.bool (okU (c :: r)))]/\(okU (c :: r)=true->n=bK c.toNat/\z=recV ((c :: r).take n))/\1<=n):=by
 have hlen:dR < s.size:=by
  have:=congrArg List.length h;rw [List.length_drop,bf] at this;simp at this;omega
 have hB:tx (s.extract (dR:Int).toNat (s.size:Int).toNat)=c :: r:=by
  rw [<- h];simp [tx,mr];exact List.take_of_length_le (by rw [List.length_drop];have:=bf s;unfold tx at this;omega)
 have dp:(s.extract (dR:Int).toNat (s.size:Int).toNat).size=r.length + 1:=by rw [<- bf,hB];all_goals rfl
 have JS:∀ (k:Nat) b,r[k]? = some b->aE (s.extract (dR:Int).toNat (s.size:Int).toNat) (k + 1)=b.toNat:=fun k b hk=>by
  show ((tx _).getD (k + 1) 0).toNat=_;rw [hB];simp [uQ,hk]
 have hld:cw prog 329 [.v (.int .u8 (aE (s.extract (dR:Int).toNat (s.size:Int).toNat) 0:Nat))] (.cp [.v (.int .i64 (bK c.toNat:Nat)),.v (.int .u8 (jO c.toNat:Nat)),.v (.int .u8 (jP c.toNat:Nat))]):=by
  have:aE (s.extract (dR:Int).toNat (s.size:Int).toNat) 0=c.toNat:=by
   show ((tx _).getD 0 0).toNat=_;rw [hB];rfl
  rw [this];exact FK c.toNat
 have hv:=fun (k:Nat) (h1:1<=k) (h2:k<=4) (h3:k<=r.length + 1)=>Cp ((s.extract (dR:Int).toNat (s.size:Int).toNat).extract 0 k) (by
  have:((s.extract (dR:Int).toNat (s.size:Int).toNat).extract 0 k).size=k:=by
   rw [ByteArray.size_extract,dp];omega
  omega)
 have hu:okU (c :: r)=(decide (1<=bK c.toNat) && allC c.toNat r (bK c.toNat - 1)):=rfl;have HR:=OE (c:=c) (r:=r);generalize okU (c :: r)=U at hu HR ⊢
 have hn4:bK c.toNat<=4:=by
  unfold bK
  repeat' split
  all_goals omega
 refine eG 60 [.tmp 4,.tmp 5,.tmp 6] func288 rfl ntmps288 rfl fun _ _ _ _=>?_;refine br (fun c=>absurd c (by simp [aG];omega)) (fun _=>?_);refine ⟨⟨by omega,by omega,by omega⟩,?_⟩;refine ⟨⟨by omega,by rw [dp];omega⟩,?_⟩;refine cP Rk hld ?_;refine br ?_ ?_<;>intro g
 ·have g:bK c.toNat=0:=by have:=of_decide_eq_true g;omega
  have kp:U=false:=by rw [hu,g];all_goals rfl
  subst kp;exact ⟨.cp [.v (.int .i32 0),.v (.int .i64 (1:Nat)),.v (.bool false)],ax,0,1,rfl,fun h=>(by cases h),by omega⟩
 have g:1<=bK c.toNat:=by have:=of_decide_eq_false g;omega
 refine de (fun j st=>∃ i:Nat,st=⟨[(0,⟨[],.v (.string (s.extract (dR:Int).toNat (s.size:Int).toNat))⟩),bQ 7 (bK c.toNat:Nat),(8,⟨[],.v (.int .u8 ((if i=0 then jO c.toNat else 128:Nat):Int))⟩),(9,⟨[],.v (.int .u8 ((if i=0 then jP c.toNat else 191:Nat):Int))⟩),bQ 10 ((i + 1:Nat):Int)],[],[]⟩/\i + 1<=bK c.toNat/\allC c.toNat r i=true/\j=bK c.toNat - (i + 1)) (bK c.toNat - (0 + 1))
  ⟨[(0,⟨[],.v (.string (s.extract (dR:Int).toNat (s.size:Int).toNat))⟩),bQ 7 (bK c.toNat:Nat),(8,⟨[],.v (.int .u8 ((if 0=0 then jO c.toNat else 128:Nat):Int))⟩),(9,⟨[],.v (.int .u8 ((if 0=0 then jP c.toNat else 191:Nat):Int))⟩),bQ 10 ((0 + 1:Nat):Int)],[],[]⟩ (fC DH) ⟨0,rfl,by omega,rfl,by omega⟩ ?_
 rintro j st ⟨i,rfl,hi,ha,rfl⟩;refine br ?_ ?_<;>intro hL
 ·have aS:i + 1 < bK c.toNat:=by have:=of_decide_eq_true hL;omega
  refine br ?_ ?_<;>intro k
  ·have k:i < r.length:=by
    have:=k;have ob:(s.extract dR s.size).size=r.length + 1:=dp;simp [ob] at this;omega
   obtain ⟨b,hb⟩:∃ b,r[i]? = some b:=⟨_,gE k⟩;have Hl:=JS i b hb;refine ⟨⟨by omega,by rw [dp];omega⟩,?_⟩
   have RC:vA c.toNat i b.toNat=(decide ((if i=0 then jO c.toNat else 128)<=b.toNat) && decide (b.toNat<=(if i=0 then jP c.toNat else 191))):=by
    unfold vA;split<;>rfl
   have has:=FM c.toNat r i;rw [ha,hb,Bool.true_and] at has;simp only [RC] at has;have e:aE (s.extract (dR:Int).toNat (s.size:Int).toNat) (((i + 1:Nat):Int)).toNat=b.toNat:=Hl;refine br ?_ ?_<;>intro k2
   ·have k2:(if i=0 then jO c.toNat else 128)<=b.toNat:=by
     have k3:=k2;rw [e] at k3;generalize (if i=0 then jO c.toNat else 128)=lo at k3 ⊢;simp [aG] at k3;omega
    refine ⟨⟨by omega,by rw [dp];omega⟩,?_⟩;refine br ?_ ?_<;>intro k4
    ·have k4:¬ b.toNat<=(if i=0 then jP c.toNat else 191):=by
      have k3:=k4;rw [e] at k3;generalize (if i=0 then jP c.toNat else 191)=hi at k3 ⊢;simp [aG] at k3;omega
     have hf:=rf (c:=c.toNat) (r:=r) (k:=i) (n:=bK c.toNat - 1) (by omega) (by rw [hb];simp only [RC];simp [k4]);rw [hf,Bool.and_false] at hu;subst hu;exact ⟨.cp [.v (.int .i32 0),.v (.int .i64 ((i + 1:Nat):Int)),.v (.bool false)],ax,0,i + 1,rfl,fun h=>(by cases h),by omega⟩
    ·have k4:b.toNat<=(if i=0 then jP c.toNat else 191):=by
      have k3:=k4;rw [e] at k3;generalize (if i=0 then jP c.toNat else 191)=hi at k3 ⊢;simp [aG] at k3;omega
     rw [decide_eq_true k2,decide_eq_true k4] at has;exact rE ⟨_,by omega,i + 1,rfl,by omega,has,rfl⟩ (fC (nc (gy aS (by omega))))
   ·have k2:¬ (if i=0 then jO c.toNat else 128)<=b.toNat:=by
     have k3:=k2;rw [e] at k3;generalize (if i=0 then jO c.toNat else 128)=lo at k3 ⊢;simp [aG] at k3;omega
    have hf:=rf (c:=c.toNat) (r:=r) (k:=i) (n:=bK c.toNat - 1) (by omega) (by rw [hb];simp only [RC];simp [k2]);rw [hf,Bool.and_false] at hu;subst hu;exact ⟨.cp [.v (.int .i32 0),.v (.int .i64 ((i + 1:Nat):Int)),.v (.bool false)],ax,0,i + 1,rfl,fun h=>(by cases h),by omega⟩
  ·have k:r.length<=i:=by
    have:=k;have ob:(s.extract dR s.size).size=r.length + 1:=dp;simp [ob] at this;omega
   have hf:=rf (c:=c.toNat) (r:=r) (k:=i) (n:=bK c.toNat - 1) (by omega) (by rw [uR k]);rw [hf,Bool.and_false] at hu;subst hu;exact ⟨.cp [.v (.int .i32 0),.v (.int .i64 ((i + 1:Nat):Int)),.v (.bool false)],ax,0,i + 1,rfl,fun h=>(by cases h),by omega⟩
 ·have hge:i + 1=bK c.toNat:=by have:=of_decide_eq_false hL;omega
  have hu1:U=true:=by
   rw [hu,<- hge];simp [ha]
  subst hu1
  have kS:bK c.toNat<=r.length + 1:=by
   rcases Nat.lt_or_ge r.length (bK c.toNat - 1) with h | h
   ·have hf:=rf (c:=c.toNat) (r:=r) (k:=r.length) (n:=bK c.toNat - 1) h (by rw [uR (bn _)]);rw [<- hge,Nat.add_sub_cancel,ha] at hf;cases hf
   ·omega
  have hv:=hv (bK c.toNat) (by omega) hn4 kS;refine ⟨⟨by omega,by omega,by rw [dp];omega⟩,?_⟩;refine jt Rm rfl hv ax (fun q hq=>?_);obtain ⟨z,rfl,hz⟩:=hq;rw [show tx ((s.extract (dR:Int).toNat (s.size:Int).toNat).extract 0 (bK c.toNat))=(c :: r).take (bK c.toNat) from by rw [<- hB,(by simp [tx]:∀ (B:ByteArray) k,tx (B.extract 0 k)=(tx B).take k)]] at hz;exact ⟨.cp [.v (.int .i32 z),.v (.int .i64 (bK c.toNat:Nat)),.v (.bool true)],ax,z,bK c.toNat,rfl,fun _=>⟨rfl,hz (HR rfl)⟩,by omega⟩
def vB (z:Int):Bool:=decide (0<=z) && decide (z<=1114111) && (decide (z < 55296) || decide (57343 < z))
def FN (n:Nat):List UInt8:=
 if n < 128 then [UInt8.ofNat n] else if n < 2048 then [UInt8.ofNat (192 + n / 64),UInt8.ofNat (128 + n % 64)]
 else if n < 65536 then [UInt8.ofNat (224 + n / 4096),UInt8.ofNat (128 + n / 64 % 64),UInt8.ofNat (128 + n % 64)]
 else [UInt8.ofNat (240 + n / 262144),UInt8.ofNat (128 + n / 4096 % 64),UInt8.ofNat (128 + n / 64 % 64),UInt8.ofNat (128 + n % 64)]
def zC (z:Int):List UInt8:=if vB z=true then FN z.toNat else []
theorem b8 {x:Int} {k:Nat} (hx:x=k) (hk:k < 256):IntKind.u8.wrap x=((UInt8.ofNat k).toNat:Int):=by
 rw [hx,UInt8.toNat_ofNat',IntKind.wrap_u8'];omega
theorem KT {l:List UInt8} (h:okU l=true):∃ c r,l=c :: r/\1<=bK c.toNat/\bK c.toNat<=l.length/\gA l=bK c.toNat:=by
 cases l with
 | nil=>cases h
 | cons c r=>
  refine ⟨c,r,rfl,?_,?_,?_⟩
  ·grind [okU]
  ·have h0:=h;unfold okU at h;rw [aZ] at h;rcases Nat.lt_or_ge r.length (bK c.toNat - 1) with g | g
   ·have h2:=h.2;unfold allC at h2;rw [List.all_eq_true] at h2;have:=h2 r.length (List.mem_range.2 g)
    grind
   ·rw [List.length_cons];omega
  ·show (if _ then _ else _)=_;rw [aj h]
theorem gB {l:List UInt8} (h:l ≠ []):1<=gA l/\gA l<=l.length:=by
 cases l with
 | nil=>exact absurd rfl h
 | cons c r=>
  show 1<=(if _ then _ else _)/\(if _ then _ else _)<=_
  grind [KT]
theorem D4 (s:ByteArray) (n:Nat):tx (s.extract 0 n)=(tx s).take n:=by simp [tx]
def spB:List DV->Bool
 | [.v (.int .i32 _),.v (.int .i32 _)]=>true
 | _=>false
theorem Im {cs:List DV} (h:spB cs=true):∃ a b:Int,cs=[.v (.int .i32 a),.v (.int .i32 b)]:=by
 unfold spB at h;split at h
 ·exact ⟨_,_,rfl⟩
 ·cases h
theorem R6 {es:List (List DV)} (h:es.all spB=true) {i:Nat} (hi:i < es.length):∃ a b:Int,es[i]? = some [.v (.int .i32 a),.v (.int .i32 b)]:=by
 rw [List.all_eq_true] at h;obtain ⟨a,b,HM⟩:=Im (h es[i] (List.getElem_mem hi))
 grind
def qV (z:Int):List DV->Bool
 | [.v (.int .i32 a),.v (.int .i32 b)]=>decide (a<=z) && decide (z<=b)
 | _=>false
def srtB:Int->List (List DV)->Bool
 | _,[]=>true
 | m,[.v (.int .i32 a),.v (.int .i32 b)] :: r=>decide (m < a) && decide (a<=b) && srtB b r
 | _,_=>false
theorem sP {m:Int} {x:List DV} {r:List (List DV)} (h:srtB m (x :: r)=true):∃ a b:Int,x=[.v (.int .i32 a),.v (.int .i32 b)]/\m < a/\a<=b/\srtB b r=true:=by
 unfold srtB at h
 grind
theorem ri:∀ {es:List (List DV)} {m:Int} (_:srtB m es=true) {i:Nat} {a b:Int} (_:es[i]? = some [.v (.int .i32 a),.v (.int .i32 b)]),m < a/\a<=b/\srtB b (es.drop (i + 1))=true
 | [],_,_,i,_,_,hi=>by simp at hi
 | x :: r,m,h,i,a,b,hi=>by
  obtain ⟨a0,b0,rfl,h1,h2,h3⟩:=sP h
  cases i with
  | zero=>grind
  | succ i=>
   obtain ⟨g1,g2,g3⟩:=ri h3 (i:=i) (sU hi);exact ⟨by omega,g2,g3⟩
theorem Io {z:Int}:∀ {es:List (List DV)} {m:Int} (_:srtB m es=true) (_:z<=m),es.any (qV z)=false
 | [],_,_,_=>rfl
 | x :: r,m,h,hz=>by
  obtain ⟨a0,b0,rfl,h1,h2,h3⟩:=sP h;rw [List.any_cons,Io h3 (by omega),Bool.or_false]
  grind [qV]
theorem OG {z m:Int} {es:List (List DV)} (h:srtB m es=true) {i:Nat} {a b:Int} (hi:es[i]? = some [.v (.int .i32 a),.v (.int .i32 b)]) (hz:z < a):(es.drop i).any (qV z)=false:=by
 obtain ⟨g1,g2,g3⟩:=ri h hi;rw [drop_cons hi,List.any_cons,Io g3 (by omega),Bool.or_false]
 grind [qV]
theorem Ip {z:Int}:∀ {es:List (List DV)} {m:Int} (_:srtB m es=true) {i:Nat} {a b:Int} (_:es[i]? = some [.v (.int .i32 a),.v (.int .i32 b)]) (_:b < z),(es.take (i + 1)).any (qV z)=false
 | [],_,_,i,_,_,hi,_=>by simp at hi
 | x :: r,m,h,i,a,b,hi,hz=>by
  obtain ⟨a0,b0,rfl,h1,h2,h3⟩:=sP h
  cases i with
  | zero=>grind [qV]
  | succ i=>
   have hi:r[i]? = some [.v (.int .i32 a),.v (.int .i32 b)]:=sU hi;have g1:=(ri h3 hi).1;have g2:=(ri h3 hi).2.1;rw [List.take_succ_cons,List.any_cons,Ip h3 hi hz,Bool.or_false]
   grind [qV]
theorem KU {es:List (List DV)} {z a b:Int} {i:Nat} (hi:es[i]? = some [.v (.int .i32 a),.v (.int .i32 b)]) (h1:a<=z) (h2:z<=b):es.any (qV z)=true:=
 List.any_eq_true.2 ⟨_,mG hi,by simp only [qV,aZ,decide_eq_true_iff];omega⟩
abbrev OH (es:List (List DV)) (z:Int) (lo hi:Nat):St:=⟨[gh 0 2 es,(1,⟨[],.v (.int .i32 z)⟩),bQ 5 lo,bQ 6 hi],[],[]⟩
theorem KV (es:List (List DV)) (z:Int) (hl:es.length<=1000) (hs:es.all spB=true):Ev prog 347 [.sl 2 es none,.v (.int .i32 z)] [] [] (fun d _ _=>∃ b:Bool,d = .v (.bool b)/\∀ m,srtB m es=true->b=es.any (qV z)):=by
 refine eG 38 [.tmp 4] func347 rfl ntmps347 rfl fun _ _ _ _=>?_;refine lI (fun j st=>∃ lo hi:Nat,st=OH es z lo hi/\lo<=hi/\hi<=es.length/\(∀ m,srtB m es=true->(es.take lo).any (qV z)=false/\(es.drop hi).any (qV z)=false)/\j=hi - lo) ⟨0,es.length,rfl,by omega,by omega,fun _ _=>⟨rfl,by rw [List.drop_length];rfl⟩,rfl⟩ (fC DH) ?_;rintro j st ⟨lo,hi,rfl,h1,h2,Vb,rfl⟩;refine br ?_ ?_<;>intro hL
 rotate_left
 ·have hge:lo=hi:=by have:=of_decide_eq_false hL;omega
  refine ⟨_,rfl,fun m hm=>?_⟩;obtain ⟨g1,g2⟩:=Vb m hm;rw [<- hge] at g2;rw [<- List.take_append_drop lo es,List.any_append,g1,g2];all_goals rfl
 have aS:lo < hi:=by have:=of_decide_eq_true hL;omega
 have hm:IntKind.i64.wrap ((lo:Int) + IntKind.i64.wrap ((IntKind.i64.wrap ((hi:Int) - lo)).tdiv 2))=((lo + (hi - lo) / 2:Nat):Int):=by grind [wrap64]
 obtain ⟨a,b,HM⟩:=R6 hs (i:=lo + (hi - lo) / 2) (by omega);refine ⟨⟨rfl,by decide⟩,?_⟩;refine ⟨_,⟨by rw [hm];omega,by rw [hm,mr];exact HM⟩,?_⟩;refine br ?_ ?_<;>intro c
 ·exact ⟨OH es z lo (lo + (hi - lo) / 2),(fC (nc hm)),lo + (hi - lo) / 2 - lo,by omega,_,_,rfl,by omega,by omega,fun m hm=>⟨(Vb m hm).1,OG hm HM (sU c)⟩,rfl⟩
 ·refine ⟨_,⟨by rw [hm];omega,by rw [hm,mr];exact HM⟩,?_⟩;have c0:=c;refine br ?_ ?_<;>intro c
  ·have JR:IntKind.i64.wrap (IntKind.i64.wrap ((lo:Int) + IntKind.i64.wrap ((IntKind.i64.wrap ((hi:Int) - lo)).tdiv 2)) + 1)=((lo + (hi - lo) / 2 + 1:Nat):Int):=by
    rw [hm,wrap64 (by omega) (by omega)];omega
   exact ⟨OH es z (lo + (hi - lo) / 2 + 1) hi,(fC (nc JR)),hi - (lo + (hi - lo) / 2 + 1),by omega,_,_,rfl,by omega,by omega,fun m hm=>⟨Ip hm HM (sU c),(Vb m hm).2⟩,rfl⟩
  ·exact ⟨_,rfl,fun _ _=>(KU HM (sU c0) (sU c)).symm⟩
end Go.Proofs.YtfdedoiiahbnnaaGreat
set_option maxRecDepth 100000
namespace Go.Proofs
open Go.Shelf
def Tryz.laysB_ren:Go.Shelf.Ren:=⟨fun | 240=>117 | 276=>203 | n=>n,fun | 9=>9 | 4=>4 | 0=>0 | 20=>20 | 72=>113 | 70=>110 | 37=>111 | 164=>287 | 5=>5 | n=>n,fun | n=>n⟩
theorem Tryz.laysB:Go.Proofs.Lays.n240 Tryz.prog Tryz.laysB_ren:={
 mixed:=by kernel_rfl
 f240:=Tryz.func117.trans (congrArg some (by kernel_rfl))
 f276:=Tryz.func203.trans (congrArg some (by kernel_rfl))
 t0:=Tryz.underlying0
 a0:=Tryz.isAgg0
 z0:=Tryz.sizeOf0
 v0:=Tryz.zeroValue0
 t4:=Tryz.underlying4
 a4:=Tryz.isAgg4
 z4:=Tryz.sizeOf4
 v4:=Tryz.zeroValue4
 t9:=Tryz.underlying9
 a9:=Tryz.isAgg9
 z9:=Tryz.sizeOf9
 v9:=Tryz.zeroValue9
 t20:=Tryz.underlying20
 a20:=Tryz.isAgg20
 z20:=Tryz.sizeOf20
 v20:=Tryz.zeroValue20
 t70:=Tryz.underlying110
 a70:=Tryz.isAgg110
 z70:=Tryz.sizeOf110
 v70:=Tryz.zeroValue110
 t72:=Tryz.underlying113
 a72:=Tryz.isAgg113
 z72:=Tryz.sizeOf113
 v72:=Tryz.zeroValue113
 t164:=Tryz.underlying287
 a164:=Tryz.isAgg287
 z164:=Tryz.sizeOf287
 v164:=Tryz.zeroValue287 }
theorem Tryz.laysBX:Builder.Extra Tryz.prog Tryz.laysB_ren:={
 sizeBuilder:=by kernel_rfl
 liesBuilder:=by kernel_rfl
 t5:=Tryz.underlying5
 a5:=Tryz.isAgg5
 z5:=Tryz.sizeOf5
 v5:=Tryz.zeroValue5
 infoByte:=by kernel_rfl
 cellsByte:=by kernel_rfl
 sizeByte:=by kernel_rfl
 neB5:=by decide }
end Go.Proofs
set_option maxRecDepth 100000
namespace Go.Proofs.YtfdedoiiahbnnaaGreat
open Go Go.RowKit Go.Lib Dv Go.Proofs.Tryz
theorem kA {P:Program} (w:World) (t u ty e:TypeId) (i:TypeInfo) (ht:P.underlying t=some (.slice e)) (hu:P.underlying u=some .string) (hi:P.info? e=some i) (hz:i.zero=some (.int .u8 0))
  (jF:i.size=1) (uG:i.bytes=1) (v:Value) (n:Nat) (xs:List Value) (dE:w.ownsRow 0 e 1 v n xs) (s:ByteArray) (JL:n + s.size<=maxLen) (kh:n + s.size<=140737488355328) (hs:0 < s.size) :
  ∃ g cap w',(Builtin.append_ #[t,u] ty #[v,.string s]).run P w = .ok (.slice (some ⟨g,0,none⟩) (n + s.size) cap) w' /\ w'.ownsRow 0 e 1 (.slice (some ⟨g,0,none⟩) (n + s.size) cap) (n + s.size) (xs ++ strCells s)/\w.grownBy w' v.ownBlock /\
   ((v.ownBlock=some g)∨(w.heap.size<=g/\∀ k,k < w.heap.size->w'.heap[k]? = w.heap[k]?)):=by
 obtain ⟨v',w',hr,h2,h3,h4⟩:=Lib.run_append_own_string (P:=P) w 0 t u ty e i ht hu hi hz jF uG v n xs dE s JL kh (Nat.zero_le _);have GZ:n + s.size<=9223372036854775807:=by simp only [maxLen] at JL;omega
 have uI:xs.length=n:=by simpa using dE.1
 rcases dE.2 with ⟨rfl,rfl⟩ | ⟨g,cap,cur,rfl,hbg,hg,uC,hcm,cr,htake⟩
 ·have la:=run_append_nil_string (P:=P) w t u ty e i (.int .u8 0) ht hu hi hz s hs (by omega) (by rw [uG];omega);rw [la] at hr;injection hr with e1 e2
  subst e1;simp only [Nat.zero_add] at *;exact ⟨_,_,w',by rw [la,e2],h2,h3,.inr ⟨bn _,fun k hk=>by rw [<- e2];exact Below.heap_alloc w.drew _ k hk⟩⟩
 ·by_cases Dl:n + s.size<=cap
  ·have hcs':cur.size=cap:=sU cr;have la:=Lib.run_append_room_string (P:=P) w t u ty e i ht hu hi jF g n cap cur hg s Dl (by omega);rw [la] at hr;injection hr with e1 e2
   subst e1;exact ⟨_,_,w',by rw [la,e2],h2,h3,.inl rfl⟩
  ·have holds:∀ j u,xs[j]? = some u->w.cell? ((⟨g,0,none⟩:Addr).add j)=some u:=dE.cells (g:=g) rfl;have la:=Lib.run_append_grow_string (P:=P) w t u ty e i (.int .u8 0) ht hu hi hz ⟨g,0,none⟩ n cap xs (by rw [jF];simpa using uI) holds s (by omega) (by omega) (by rw [uG];exact growslice_fits (by omega) (by omega));rw [la] at hr;injection hr with e1 e2
   subst e1;exact ⟨_,_,w',by rw [la,e2],h2,h3,.inr ⟨bn _,fun k hk=>by rw [<- e2];exact Below.heap_alloc w.drew _ k hk⟩⟩
theorem zD {w:World} {b:Nat} {o:Obj} (h:w.heap[b]? = some o):World.c7 w b o=w:=by
 obtain ⟨hb,hg⟩:=Array.getElem?_eq_some_iff.1 h;have e:w.heap.setIfInBounds b o=w.heap:=by grind
 show { w with heap:=w.heap.setIfInBounds b o }=w;rw [e]
abbrev pM (w:World) (b:Nat) (v:Value):World:=World.c7 w b (.cells #[.pointer (some ⟨b,0,none⟩),v] 113 (0,0))
theorem Iq (b:Nat) (p v:Value) (w:World) (hp:p = .pointer none∨p = .pointer (some ⟨b,0,none⟩)) (qw:w.heap[b]? = some (.cells #[p,v] 113 (0,0))) :
  Calls prog 117 #[.pointer (some ⟨b,0,none⟩)] w fun e w'=>e = .returned (.tuple #[])/\w'=pM w b v:=by
 rcases hp with rfl | rfl
 ·refine (Any.Builder_copyCheck_fresh Tryz.laysB Tryz.laysBX.toX72 b w (by rw [Lib.cell_of_heap qw];rfl) (by simp [World.shape?,qw,Tryz.laysB_ren]) (by simp [World.frozen?,qw])).mono ?_;rintro e w' ⟨rfl,rfl⟩;exact ⟨rfl,by rw [iE qw];rfl⟩
 ·refine (Any.Builder_copyCheck_used Tryz.laysB Tryz.laysBX.toX72 b w (by rw [Lib.cell_of_heap qw];rfl)).mono ?_;rintro e w' ⟨rfl,rfl⟩;exact ⟨rfl,(zD qw).symm⟩
theorem nB {P:Program} {w:World} {ops:Array Oper} {rest:List Oper} {o:Oper} {a:Act} {Q:Exit->Act->World->Prop} (NS:o.guard=none) (sl x:Operand) (t u:TypeId)
  (ho:o.op = .call { callee:=.builtin .append,args:=#[sl,x],argTypes:=#[t,u] })
  (e:TypeId) (i:TypeInfo) (ht:P.underlying t=some (.slice e)) (hu:P.underlying u=some .string) (hi:P.info? e=some i) (hz:i.zero=some (.int .u8 0))
  (jF:i.size=1) (uG:i.bytes=1)
  (v:Value) (n:Nat) (xs:List Value) (hs:a.eval sl=v) (dE:w.ownsRow 0 e 1 v n xs) (s:ByteArray) (hx:a.eval x = .string s)
  (JL:n + s.size<=maxLen) (kh:n + s.size<=140737488355328) (pk:0 < s.size)
  (h:∀ g cap w',w'.ownsRow 0 e 1 (.slice (some ⟨g,0,none⟩) (n + s.size) cap) (n + s.size) (xs ++ strCells s)->w.grownBy w' v.ownBlock->((v.ownBlock=some g)∨(w.heap.size<=g/\∀ k,k < w.heap.size->w'.heap[k]? = w.heap[k]?)) ->
   wpList P ops Q rest (a.put o.dst (.slice (some ⟨g,0,none⟩) (n + s.size) cap)) w'):wpList P ops Q (o :: rest) a w:=by
 refine wpList_plain NS fun K hK=>?_;obtain ⟨g,cap,w',hr,h2,h3,h4⟩:=kA (P:=P) w t u o.type e i ht hu hi hz jF uG v n xs dE s JL kh pk;unfold Oper.wp execOp;simp only [ho,resolve,invoke,builtin,Sem.run_bind,Sem.run_pure,Result.andThen_ok,List.map_toArray,List.map_cons,List.map_nil,hs,hx,hr];exact hK _ _ (h g cap w' h2 h3 h4)
def Ir (ret:Value) (w:World) (b:Nat) (v:Value) (n:Nat) (xs:List Value) (s:ByteArray) (e:Ending) (w':World):Prop:=
 e = .returned ret/\∃ g cap w2,w2.ownsRow 0 5 1 (.slice (some ⟨g,0,none⟩) (n + s.size) cap) (n + s.size) (xs ++ strCells s)/\(pM w b v).grownBy w2 v.ownBlock /\
  ((v.ownBlock=some g)∨((pM w b v).heap.size<=g/\∀ k,k < (pM w b v).heap.size->w2.heap[k]? = (pM w b v).heap[k]?)) /\
  w'=World.c7 w2 b (.cells #[.pointer (some ⟨b,0,none⟩),.slice (some ⟨g,0,none⟩) (n + s.size) cap] 113 (0,0))
theorem D5 {w:World} {b e n:Nat} {v:Value} {xs:List Value} {o:Obj} (h:w.ownsRow 0 e 1 v n xs) (bM:v.ownBlock≠some b):(World.c7 w b o).ownsRow 0 e 1 v n xs:=by
 refine ⟨h.1,?_⟩;rcases h.2 with h | ⟨g,cap,cur,rfl,h1,h2,h3⟩
 ·exact .inl h
 ·refine .inr ⟨g,cap,cur,rfl,h1,?_,h3⟩;rw [cR]
  ·exact h2
  ·rintro rfl;exact bM rfl
set_option maxHeartbeats 2000000 in
theorem OI (b:Nat) (p v:Value) (n:Nat) (xs:List Value) (s:ByteArray) (w:World) (hp:p = .pointer none∨p = .pointer (some ⟨b,0,none⟩)) (qw:w.heap[b]? = some (.cells #[p,v] 113 (0,0)))
  (dE:w.ownsRow 0 5 1 v n xs) (bM:v.ownBlock≠some b) (hs:0 < s.size) (hlen:n + s.size<=140737488355328) :
  Calls prog 54 #[.pointer (some ⟨b,0,none⟩),.string s] w (Ir (.tuple #[.int .i64 s.size,.nilIface]) w b v n xs s):=by
 obtain ⟨i0,hi,hz0,hz1,Tx⟩:=info_parts Tryz.laysBX.infoByte
 go_enter func54,ntmps54
 go_wp2_with (go_at_call 117;refine (Iq b p v _ hp qw).mono ?_)
 rintro e w1 ⟨rfl,rfl⟩;have uD:(pM w b v).heap[b]? = some (.cells #[.pointer (some ⟨b,0,none⟩),v] 113 (0,0)):=eC qw;have MQ:(pM w b v).ownsRow 0 5 1 v n xs:=D5 dE bM;have c0:(pM w b v).cell? ⟨b,0,none⟩=some (.pointer (some ⟨b,0,none⟩)):=by rw [Lib.cell_of_heap uD];all_goals rfl
 have c1:(pM w b v).cell? ⟨b,1,none⟩=some v:=by rw [Lib.cell_of_heap uD];all_goals rfl
 have aS:b < (pM w b v).heap.size:=cV uD;obtain ⟨W1,Vc⟩:∃ W1,W1=pM w b v:=⟨_,rfl⟩;rw [<- Vc] at uD MQ c0 c1 aS ⊢;have HW:=Lib.hid Vc;clear Vc
 go_wp2_with (at_builtin;refine nB rfl _ _ 111 9 rfl 5 i0 Tryz.underlying111 Tryz.underlying9 hi hz0 hz1 Tx _ _ _ rfl MQ s rfl ?c3 ?c4 hs ?_)
 case c3=>unfold maxLen;omega
 case c4=>omega
 intro g cap w2 R7 zE G6
 have jr:w2.heap[b]? = some (.cells #[.pointer (some ⟨b,0,none⟩),v] 113 (0,0)):=by
  rw [zE.block b aS (fun e=>bM e.symm)];exact uD
 have d0:w2.cell? ⟨b,0,none⟩=some (.pointer (some ⟨b,0,none⟩)):=by rw [Lib.cell_of_heap jr];all_goals rfl
 have d1:w2.cell? ⟨b,1,none⟩=some v:=by rw [Lib.cell_of_heap jr];all_goals rfl
 have f1:w2.frozen? ⟨b,1,none⟩=false:=Lib.frozen_of_heap jr 1
 go_wp2
 go_ret2
 refine ⟨rfl,g,cap,w2,R7,by rw [<- HW.out];exact zE,by rw [<- HW.out];exact G6,?_⟩;rw [iE jr];rfl
set_option maxHeartbeats 1000000 in
theorem Iu (b g cap:Nat) (p:Value) (l:List UInt8) (cur:Array Value) (w:World) (h0:l ≠ []) (qw:w.heap[b]? = some (.cells #[p,.slice (some ⟨g,0,none⟩) l.length cap] 113 (0,0)))
  (hg:w.heap[g]? = some (.cells cur 5 (0,0))) (uC:l.length<=cap) (hcm:cap<=maxLen) (cr:cur.size=cap * 1) (htake:cur.toList.take (l.length * 1)=Lib.byteCells l) :
  Calls prog 60 #[.pointer (some ⟨b,0,none⟩)] w fun e w'=>e = .returned (.string ⟨l.toArray⟩)/\w'=w.drew.freeze ⟨g,0,none⟩ l.length:=by
 have BR:l.length≠0:=sU h0;have dE:w.ownsRow 0 5 1 (.slice (some ⟨g,0,none⟩) l.length cap) l.length (Lib.byteCells l):=⟨by rw [Lib.byteCells_length,Nat.mul_one],.inr ⟨g,cap,cur,rfl,Nat.zero_le _,hg,uC,hcm,cr,htake⟩⟩
 have c1:w.drew.cell? ⟨b,1,none⟩=some (.slice (some ⟨g,0,none⟩) l.length cap):=by
  have:w.drew.heap[b]? = some (.cells #[p,.slice (some ⟨g,0,none⟩) l.length cap] 113 (0,0)):=qw;rw [Lib.cell_of_heap this];all_goals rfl
 have hSD:(Builtin.unsafeSliceData_ #[111] 199 #[.slice (some ⟨g,0,none⟩) l.length cap]).run prog w.drew = .ok (.pointer (some ⟨g,0,none⟩)) w.drew:=
  Lib.run_unsafeSliceData_row _ _ _ _ _ _ (by omega)
 have hUS:(Builtin.unsafeString_ #[199,3] 9 #[.pointer (some ⟨g,0,none⟩),.int .i64 l.length]).run prog w.drew = .ok (.string ⟨l.toArray⟩) (w.drew.freeze ⟨g,0,none⟩ l.length):=by
  refine Lib.run_unsafeString_row w.drew 199 3 9 5 Tryz.underlying199 (by kernel_rfl) g cur.size (by have wY:w.drew.heap[g]? = some (.cells cur 5 (0,0)):=hg;simp [World.shape?,wY]) l h0 (by omega) (by unfold maxLen at hcm;omega) ?_;intro j x hx;have:=dE.cells (g:=g) rfl j (.int .u8 x.toNat) (by simp [Lib.byteCells,hx]);exact this
 clear dE htake cr hg;have mixed:=mo
 go_enter func60,ntmps60
 go_wp2
 go_region_o
 all_goals (go_wp2;go_ret;exact ⟨rfl,rfl⟩)
end Go.Proofs.YtfdedoiiahbnnaaGreat
set_option maxRecDepth 100000
namespace Go.Proofs.YtfdedoiiahbnnaaGreat
open Go Go.RowKit Dv Go.Proofs.Tryz
def bD (l:List UInt8):List (List DV):=l.map fun c=>[DV.v (.int .u8 c.toNat)]
theorem pN (l:List UInt8):(bD l).length=l.length:=by simp [bD]
theorem Iv {E:En}:∀ l:List UInt8,RvC E (bD l).flatten (Lib.byteCells l)
 | []=>⟨cy _,by simp [Lib.byteCells]⟩
 | c :: r=>by
  obtain ⟨h1,h2⟩:=Iv (E:=E) r;refine ⟨?_,fun v hv=>?_⟩
  ·simp only [bD,List.map_cons,List.flatten_cons,List.cons_append,List.nil_append,Lib.byteCells];exact rvL_cons (by unfold Rv;exact ⟨rfl,rfl⟩) h1
  ·simp only [Lib.byteCells,List.map_cons,List.mem_cons] at hv;rcases hv with rfl | hv
   ·rfl
   ·exact h2 v hv
theorem D6 {E:En}:∀ {l:List UInt8} {arr:List Value},RvL E (bD l).flatten arr->arr=Lib.byteCells l
 | [],arr,h=>by simpa [bD,RvL,Lib.byteCells] using h
 | c :: r,arr,h=>by
  simp only [bD,List.map_cons,List.flatten_cons,List.cons_append,List.nil_append,RvL] at h;obtain ⟨v,s,rfl,h1,h2⟩:=h;unfold Rv at h1;rw [h1.1,D6 (l:=r) h2];rfl
theorem strCells_eq (s:ByteArray):Lib.strCells s=Lib.byteCells s.data.toList:=rfl
theorem Cq {X:Ctx} {E:En} {st:St} {a:Act} {w:World} (h:Rel X E st a w) {kt:Nat} {l:List UInt8} {cv:Value} (hl:l ≠ []) (fl:st.tk[kt]? = some ⟨l.length,5,1,none⟩) (hv:Rv E (.sl 1 (bD l) (some kt)) cv) :
  ∃ g cap cur,cv = .slice (some ⟨g,0,none⟩) l.length cap/\w.heap[g]? = some (.cells cur 5 (0,0))/\l.length<=cap/\cap<=maxLen/\cur.size=cap * 1/\cur.toList.take (l.length * 1)=Lib.byteCells l/\g ∉ E.β/\E.τ[kt]? = some cv:=by
 have bM:bD l ≠ []:=by grind [pN]
 have pk:0 < l.length:=List.length_pos_iff.2 hl;unfold Rv at hv;obtain ⟨bs,ns,oc,rfl,⟨rfl,qg⟩,NK,xg⟩:=hv;rw [pN] at qg;obtain ⟨q,hq,_,hτ⟩:=xg kt rfl;rw [h.tk,fl] at hq;simp only [oI] at hq;subst hq;have hy:=hτ (pN l);rcases h.env.cN kt _ _ (by rw [h.tk];exact fl) hy with ⟨mT,rF⟩ | ⟨g,cap,cur,mT,hw0,uE,uC,hcm,nT,Fa⟩
 ·simp only at rF;omega
 ·injection mT with i1 i2 i3
  subst i1 i3;refine ⟨g,oc,cur,by rw [pN],hw0,uC,hcm,uE.1,?_,nT,by rw [hy]⟩;obtain ⟨_,Kd⟩:=NK bM;obtain ⟨Hf,uD,jr,NO⟩:=Kd.qQ;have ha:=D6 uD.1;subst ha;apply List.ext_getElem?;intro j;rw [pN] at jr;rcases Nat.lt_or_ge j (Lib.byteCells l).length with hj | hj
  ·have h5:=h.env.sub _ _ (NO j _ (gE hj));simp only [ab,ao,Nat.zero_add] at h5;rw [cJ hw0] at h5;rw [cC,aj (by omega),gE hj];simpa using h5
  ·grind
theorem KW {X:Ctx} {E:En} {st:St} {a:Act} {w:World} (h:Rel X E st a w) {kt:Nat} {l:List UInt8} {cv:Value} (fl:st.tk[kt]? = some ⟨l.length,5,1,none⟩) (hv:Rv E (.sl 1 (bD l) (some kt)) cv) :
  w.ownsRow 0 5 1 cv l.length (Lib.byteCells l)/\E.τ[kt]? = some cv/\∀ b∈E.β,cv.ownBlock≠some b:=by
 cases l with
 | cons c r=>
  obtain ⟨g,cap,cur,rfl,hg,uC,hcm,cr,htake,PB,hτ⟩:=Cq h (List.cons_ne_nil c r) fl hv;refine ⟨⟨by rw [Lib.byteCells_length,Nat.mul_one],.inr ⟨g,cap,cur,rfl,Nat.zero_le _,hg,uC,hcm,cr,htake⟩⟩,hτ,fun b hb he=>?_⟩;simp only [Value.ownBlock,oI] at he;exact PB (he ▸ hb)
 | nil=>
  unfold Rv at hv;obtain ⟨bs,ns,oc,rfl,⟨rfl,qg⟩,NK,xg⟩:=hv;obtain ⟨q,hq,_,hτ⟩:=xg kt rfl;rw [h.tk,fl] at hq;simp only [oI] at hq;subst hq;have hy:=hτ rfl;rcases h.env.cN kt _ _ (by rw [h.tk];exact fl) hy with ⟨mT,rF⟩ | ⟨g,cap,cur,mT,hw0,uE,uC,hcm,nT,Fa⟩
  ·rw [mT] at hy ⊢;exact ⟨⟨rfl,.inl ⟨rfl,rfl⟩⟩,hy,fun b _ he=>by simp [Value.ownBlock] at he⟩
  ·rw [mT] at hy ⊢;refine ⟨⟨rfl,.inr ⟨g,cap,cur,rfl,Nat.zero_le _,hw0,uC,hcm,uE.1,by simp [Lib.byteCells]⟩⟩,hy,fun b hb he=>?_⟩;simp only [Value.ownBlock,oI] at he;exact nT (he ▸ hb)
theorem Iw {f:FuncId} {xd rd:DV} {ret:Value} {X:Ctx} {st:St} {k:List It} (hP:X.P=prog) {i kt d:Nat} {p c:DV} {l:List UInt8} {s:ByteArray} {cK:List TkE} (hbt:(i,113)∈X.bt) (kT:st.bx[i]? = some [p,c])
  (hp:p = .v (.pointer none)∨p = .loc i 0)
  (hc:(c = .v (.slice none 0 0)/\l=[]/\kt=st.tk.length/\cK=st.tk ++ [⟨s.size,5,1,none⟩])∨(c = .sl 1 (bD l) (some kt)/\st.tk[kt]? = some ⟨l.length,5,1,none⟩/\cK=st.tk.set kt ⟨l.length + s.size,5,1,none⟩))
  (fN:Enters prog f) (GO:∀ E,Rv E rd ret)
  (J8:∀ (E:En) (b n:Nat) (p v x:Value) (xs:List Value) (w:World),Rv E xd x->p = .pointer none∨p = .pointer (some ⟨b,0,none⟩)->w.heap[b]? = some (.cells #[p,v] 113 (0,0))->w.ownsRow 0 5 1 v n xs->v.ownBlock≠some b->n + s.size<=140737488355328->Calls prog f #[.pointer (some ⟨b,0,none⟩),x] w (Ir ret w b v n xs s))
  (hs:0 < s.size) (hlen:l.length + s.size<=140737488355328) (hd:eZ X.nt st.sl (some d)=true)
  (hk:go X 4000 k ⟨(d,⟨[],rd⟩) :: st.sl,st.bx.set i [.loc i 0,.sl 1 (bD (l ++ s.data.toList)) (some kt)],cK⟩)
  (bV:X.still=false:=by exact rfl):CallG X f [.loc i 0,xd] (some d) k st:=by
 refine ⟨?_,bV,fun E a w vs h hv=>?_⟩
 ·rw [hP];exact fN
 rw [hP];simp only [RvL] at hv;obtain ⟨v1,vr,rfl,h1,v2,vr2,rfl,h2,rfl⟩:=hv;unfold Rv at h1;obtain ⟨b,hb,rfl⟩:=h1;obtain ⟨b',ty,arr,dZ,hw,rR⟩:=h.env.dQ i _ kT;rw [hb] at dZ;simp only [oI] at dZ;subst dZ;obtain ⟨Kz,nC⟩:=h.bt _ hbt b hb;rw [hw] at nC;simp only [oI,Obj.cells.injEq] at nC;have E9:ty=113:=nC.2.1;subst E9;obtain ⟨hr,ho⟩:=rR;simp only [RvL] at hr;obtain ⟨pv,r1,rfl,PU,cv,r2,rfl,GP,rfl⟩:=hr
 have Vd:pv = .pointer none∨pv = .pointer (some ⟨b,0,none⟩):=by
  rcases hp with rfl | rfl
  ·exact .inl (bC PU)
  ·unfold Rv at PU;obtain ⟨b2,jr,rfl⟩:=PU;rw [hb] at jr;simp only [oI] at jr;subst jr;exact .inr rfl
 have yd:b∈E.β:=mG hb;have D7:st.tk.length=E.tk.length:=by rw [h.tk]
 have key:∃ xs:List Value,xs=Lib.byteCells l/\w.ownsRow 0 5 1 cv l.length xs/\cv.ownBlock≠some b /\
   ((∃ q,E.tk[kt]? = some q/\E.τ[kt]? = some cv/\q.n=l.length/\q.ty=5/\q.e=1/\q.own=none)∨(E.tk[kt]? = none/\E.τ[kt]? = none/\cv = .slice none 0 0/\l.length=0)) /\
   cK[kt]? = some ⟨l.length + s.size,5,1,none⟩/\(∀ j,j≠kt->cK[j]? = E.tk[j]?)/\(∀ y:Value,∃ τ':List Value,τ'[kt]? = some y/\τ'.length=cK.length/\∀ j,j≠kt->τ'[j]? = E.τ[j]?):=by
  rcases hc with ⟨rfl,rfl,rfl,rfl⟩ | ⟨rfl,fl,rfl⟩
  ·have:=bC GP;subst this;refine ⟨_,rfl,⟨rfl,.inl ⟨rfl,rfl⟩⟩,by simp [Value.ownBlock],.inr ⟨?_,?_,rfl,rfl⟩,?_,?_,?_⟩
   ·rw [D7];simp
   ·rw [D7,<- h.env.tl];simp
   ·simp
   ·intro j hj;rw [h.tk];rcases Nat.lt_or_ge j st.tk.length with h1 | h1
    ·rw [eT h1]
    ·grind
   ·intro y;refine ⟨E.τ ++ [y],?_,by simp [h.env.tl,h.tk],fun j hj=>?_⟩
    ·rw [D7,<- h.env.tl];simp
    ·rcases Nat.lt_or_ge j E.τ.length with h1 | h1
     ·rw [eT h1]
     ·rw [uR (l:=E.τ) h1];have:=h.env.tl;exact uR (by simp;omega)
  ·obtain ⟨dE,hτ,hob⟩:=KW h fl GP;have Qt:=(gS fl).1;refine ⟨_,rfl,dE,hob b yd,.inl ⟨_,by rw [h.tk];exact fl,hτ,rfl,rfl,rfl,rfl⟩,?_,?_,?_⟩
   ·rw [iD Qt]
   ·intro j hj;rw [List.getElem?_set_ne (Ne.symm hj),h.tk]
   ·intro y;refine ⟨E.τ.set kt y,?_,by simp [h.env.tl,h.tk],fun j hj=>List.getElem?_set_ne (Ne.symm hj)⟩;rw [iD];rw [h.env.tl,<- D7];exact Qt
 obtain ⟨xs,rfl,dE,bM,G7,R8,sQ,hτ⟩:=key;refine (J8 E b l.length pv cv v2 (Lib.byteCells l) w h2 Vd hw dE bM hlen).mono ?_;rintro e w' ⟨rfl,g,cap,w2,MR,zE,G6,rfl⟩;obtain ⟨τ',Qm,PA,GL⟩:=hτ (.slice (some ⟨g,0,none⟩) (l.length + s.size) cap);have R9:Rv E (.loc i 0) (.pointer (some ⟨b,0,none⟩)):=by unfold Rv;exact ⟨b,hb,rfl⟩
 have r1:Rel X E ⟨st.sl,st.bx.set i [.loc i 0,c],st.tk⟩ a (pM w b cv):=
  iv h bV hb (cs':=[.loc i 0,c]) (arr':=[.pointer (some ⟨b,0,none⟩),cv]) ⟨rvL_cons R9 (rvL_one GP),by
   intro v hv;simp only [List.mem_cons,List.not_mem_nil,or_false] at hv;rcases hv with rfl | rfl
   ·rfl
   ·exact ho v (by simp)⟩ ⟨_,hw⟩
 obtain ⟨r2,hext,mE⟩:=ys r1 bV G7 hs (by omega) R8 Qm PA sQ GL (D5 dE bM) MR zE G6;have jr:(pM w b cv).heap[b]? = some (.cells #[.pointer (some ⟨b,0,none⟩),cv] 113 (0,0)):=eC hw
 have NO:w2.heap[b]? = some (.cells #[.pointer (some ⟨b,0,none⟩),cv] 113 (0,0)):=by
  rw [zE.block b (cV jr) (fun e=>bM e.symm)];exact jr
 have OJ:Rv (⟨eb E.c w2 g ((l.length + s.size) * 1),E.β,cK,τ'⟩:En) (.sl 1 (bD (l ++ s.data.toList)) (some kt)) (.slice (some ⟨g,0,none⟩) (l.length + s.size) cap):=by
  have Bb:s.data.toList.length=s.size:=by rw [Array.length_toList];all_goals rfl
  unfold Rv;refine ⟨_,_,_,rfl,⟨by rw [pN,List.length_append,Bb],?_⟩,fun _=>⟨rfl,?_⟩,?_⟩
  ·rcases MR.2 with ⟨hv,_⟩ | ⟨_,_,_,hv,_,_,uC,_⟩
   ·cases hv
   ·injection hv with _ _ i3
    omega
  ·refine rvEs_flat (arr:=Lib.byteCells (l ++ s.data.toList)) (Iv _) (fun cs hcm=>?_) fun j u hj=>?_
   ·grind [bD]
   ·simp only [ab,ao,Nat.zero_add];refine mE j u ?_;rw [strCells_eq];simpa [Lib.byteCells] using hj
  ·intro k' gD;cases gD;exact ⟨_,R8,bn _,fun _=>Qm⟩
 have r3:=iv r2 bV (i:=i) (b:=b) hb (cs':=[.loc i 0,.sl 1 (bD (l ++ s.data.toList)) (some kt)]) (arr':=[.pointer (some ⟨b,0,none⟩),.slice (some ⟨g,0,none⟩) (l.length + s.size) cap])
  ⟨rvL_cons (by unfold Rv;exact ⟨b,hb,rfl⟩) (rvL_one OJ),by
   intro v hv;simp only [List.mem_cons,List.not_mem_nil,or_false] at hv
   rcases hv with rfl | rfl<;>rfl⟩ ⟨_,NO⟩
 simp only [List.set_set] at r3;exact go_sound 4000 _ _ hk _ _ _ (bF r3 hd rd _ (GO _))
theorem KX {X:Ctx} {st:St} {k:List It} (hP:X.P=prog) {i kt d:Nat} {p c:DV} {l:List UInt8} {s:ByteArray} {cK:List TkE} (hbt:(i,113)∈X.bt) (kT:st.bx[i]? = some [p,c])
  (hp:p = .v (.pointer none)∨p = .loc i 0)
  (hc:(c = .v (.slice none 0 0)/\l=[]/\kt=st.tk.length/\cK=st.tk ++ [⟨s.size,5,1,none⟩])∨(c = .sl 1 (bD l) (some kt)/\l ≠ []/\st.tk[kt]? = some ⟨l.length,5,1,none⟩/\cK=st.tk.set kt ⟨l.length + s.size,5,1,none⟩))
  (hs:0 < s.size) (hlen:l.length + s.size<=140737488355328) (hd:eZ X.nt st.sl (some d)=true)
  (hk:go X 4000 k ⟨(d,⟨[],.cp [.v (.int .i64 s.size),.v .nilIface]⟩) :: st.sl,st.bx.set i [.loc i 0,.sl 1 (bD (l ++ s.data.toList)) (some kt)],cK⟩)
  (bV:X.still=false:=by exact rfl):CallG X 54 [.loc i 0,.v (.string s)] (some d) k st:=
 Iw hP hbt kT hp (hc.imp_right fun h=>⟨h.1,h.2.2⟩) UL (fun E=>by unfold Rv;exact ⟨_,rfl,rvL_cons (by unfold Rv;exact ⟨rfl,rfl⟩) (rvL_one (by unfold Rv;exact ⟨rfl,rfl⟩))⟩)
  (fun E b n p v x xs w hx h1 h2 h3 h4 h5=>by
   have:=bC hx;subst this
   exact OI b p v n xs s w h1 h2 h3 h4 hs h5) hs hlen hd hk bV
theorem gH {X:Ctx} {st:St} {k:List It} (hP:X.P=prog) {i kt d:Nat} {p c:DV} {l:List UInt8} {s:ByteArray} {cK:List TkE} (l':List UInt8) (BI:l'=l ++ s.data.toList) (hbt:(i,113)∈X.bt) (kT:st.bx[i]? = some [p,c])
  (hp:p = .v (.pointer none)∨p = .loc i 0)
  (hc:(c = .v (.slice none 0 0)/\l=[]/\kt=st.tk.length/\cK=st.tk ++ [⟨l'.length,5,1,none⟩])∨(c = .sl 1 (bD l) (some kt)/\l ≠ []/\st.tk[kt]? = some ⟨l.length,5,1,none⟩/\cK=st.tk.set kt ⟨l'.length,5,1,none⟩))
  (hs:0 < s.size) (hlen:l'.length<=140737488355328) (hd:eZ X.nt st.sl (some d)=true)
  (hk:go X 4000 k ⟨(d,⟨[],.cp [.v (.int .i64 s.size),.v .nilIface]⟩) :: st.sl,st.bx.set i [.loc i 0,.sl 1 (bD l') (some kt)],cK⟩)
  (bV:X.still=false:=by exact rfl):CallG X 54 [.loc i 0,.v (.string s)] (some d) k st:=by
 have hn:l'.length=l.length + s.size:=by rw [BI,List.length_append,Array.length_toList];all_goals rfl
 subst BI;refine KX hP hbt kT hp ?_ hs (by omega) hd hk bV;rcases hc with ⟨h1,h2,h3,h4⟩ | ⟨h1,h2,h3,h4⟩
 ·grind
 ·exact .inr ⟨h1,h2,h3,by rw [h4,hn]⟩
theorem qz {w:World} {g n:Nat} (x:Addr):(w.freeze ⟨g,0,none⟩ n).cell? x=w.cell? x:=by
 unfold World.freeze;split
 ·rfl
 ·simp only [World.cell?,Array.getElem?_modify]
  grind
theorem oC {w:World} {g n k:Nat} (h:k≠g):(w.freeze ⟨g,0,none⟩ n).heap[k]? = w.heap[k]?:=by
 unfold World.freeze
 grind
theorem oD {w:World} {g n:Nat}:(w.freeze ⟨g,0,none⟩ n).os=w.os/\(w.freeze ⟨g,0,none⟩ n).tape=w.tape/\(w.freeze ⟨g,0,none⟩ n).output=w.output/\(w.freeze ⟨g,0,none⟩ n).heap.size=w.heap.size:=by
 unfold World.freeze
 grind
theorem KY {X:Ctx} {st:St} {k:List It} (hP:X.P=prog) {i kt d:Nat} {p:DV} {l:List UInt8} (hbt:(i,113)∈X.bt) (kT:st.bx[i]? = some [p,.sl 1 (bD l) (some kt)])
  (hl:l ≠ []) (fl:st.tk[kt]? = some ⟨l.length,5,1,none⟩) (rF:X.n0=0) (oW:X.m0=0) (hd:eZ X.nt st.sl (some d)=true)
  (hk:go X 4000 k ⟨[(d,⟨[],.v (.string ⟨l.toArray⟩)⟩)],[],[]⟩) (bV:X.still=false:=by exact rfl):CallG X 60 [.loc i 0] (some d) k st:=by
 refine ⟨?_,bV,fun E a w vs h hv=>?_⟩
 ·rw [hP];exact Oi
 rw [hP];simp only [RvL] at hv;obtain ⟨v1,vr,rfl,h1,rfl⟩:=hv;unfold Rv at h1;obtain ⟨b,hb,rfl⟩:=h1;obtain ⟨b',ty,arr,dZ,hw,rR⟩:=h.env.dQ i _ kT;rw [hb] at dZ;simp only [oI] at dZ;subst dZ;obtain ⟨Kz,nC⟩:=h.bt _ hbt b hb;rw [hw] at nC;simp only [oI,Obj.cells.injEq] at nC;have E9:ty=113:=nC.2.1;subst E9;obtain ⟨hr,ho⟩:=rR;simp only [RvL] at hr;obtain ⟨pv,r1,rfl,PU,cv,r2,rfl,GP,rfl⟩:=hr;obtain ⟨g,cap,cur,rfl,hg,uC,hcm,cr,htake,PB,hτ⟩:=Cq h hl fl GP;refine (Iu b g cap pv l cur w hl hw hg uC hcm cr htake).mono ?_;rintro e w' ⟨rfl,rfl⟩;obtain ⟨k1,k2,k3,k4⟩:=oD (w:=w.drew) (g:=g) (n:=l.length);have PJ:X.E0.β=[]:=List.eq_nil_of_length_eq_zero (by rw [X.rF,rF]);have W9:X.E0.tk=[]:=List.eq_nil_of_length_eq_zero (by rw [X.oW,oW]);have wZ:X.w0.heap.size<=g:=h.nw.tn kt _ g (by rw [W9];exact Nat.zero_le _) hτ rfl
 let E':En:=⟨E.c,[],[],[]⟩
 have cO:Rel X E' ⟨[],[],[]⟩ a (w.drew.freeze ⟨g,0,none⟩ l.length):={
  env:={
   len:=rfl
   tl:=rfl
   dQ:=by simp
   inj:=List.nodup_nil
   sub:=fun x v hx=>by rw [qz];exact h.env.sub x v hx
   pc:=by simp [E']
   cN:=by simp [E']
   gC:=by simp [E'] }
  tk:=rfl
  sz:=h.sz
  tm:=fun i x hx=>by cases hx
  df:=h.df
  nw:={
   c:=fun x v hx=>h.nw.c x v hx
   cn:=fun x v hx=>h.nw.cn x v hx
   β:=⟨[],by rw [PJ];rfl,by simp⟩
   tk:=fun k q y hq _=>by rw [W9] at hq;simp at hq
   tn:=fun k y g' _ hy _=>by simp [E'] at hy
   l0:=h.nw.l0 }
  fr:=h.fr.ct k1 k2 k3 (by rw [k4];exact bn _) fun j hj=>by
   by_cases Sa:j=g
   ·left;exact .inr (Sa ▸ wZ)
   ·right;exact oC Sa
  sh:=my bV
  bt:=fun p hp b hb=>by simp [E'] at hb }
 have uF:eZ X.nt ([]:List (Nat × Sl)) (some d)=true:=by
  simp only [eZ,aZ] at hd ⊢;exact ⟨hd.1,rfl⟩
 exact go_sound 4000 _ _ hk _ _ _ (bF (st:=⟨[],[],[]⟩) cO uF (.v (.string ⟨l.toArray⟩)) _ (by unfold Rv;exact ⟨rfl,rfl⟩))
end Go.Proofs.YtfdedoiiahbnnaaGreat
namespace Go.Proofs.YtfdedoiiahbnnaaGreat
namespace Dv
open Go Go.RowKit
section
variable {X:Ctx} {st:St} {k:List It} {E:En} {a:Act} {w:World}
def Wk (X:Ctx) (st st':St):Prop:=∀ E a w,Rel X E st a w->∃ E',Rel X E' st' a w
theorem Wk.refl (X:Ctx) (st:St):Wk X st st:=fun E _ _ h=>⟨E,h⟩
theorem FO {f:FuncId} {args bE:List DV} {os:List (List DV)} (n1 m1:Nat) (rN:Nat.ble n1 st.bx.length=true) (vC:Nat.ble m1 st.tk.length=true)
  (pg:ki [] n1 n1 m1 os (st.bx.take n1)) (ha:CcL [] n1 n1 m1 bE args)
  {Φ:DV->List (List DV)->List TkE->Prop} (hc:Uy false X.P f bE os (st.tk.take m1) X.bt Φ) (bV:X.still=false) {vs:List Value} (h:Rel X E st a w) (hv:RvL E args vs) :
  Calls X.P f vs.toArray w fun e w'=>∃ v r fM cK E',e = .returned v/\Φ r fM cK /\ fM.length=n1/\cK.length=m1/\Rel X E' ⟨st.sl,fM ++ st.bx.drop n1,cK ++ st.tk.drop m1⟩ a w' /\ Rv E' r v/\Ext E E' /\ E'.β=E.β /\
   ∀ (i:Nat) b,n1<=i->E.β[i]? = some b->w'.heap[b]? = w.heap[b]?:=by
 have rN:=nL rN;have vC:=nL vC;have hlen:=h.env.len;have ja:=h.env.tl;have fl:=h.tk;have htkl:E.tk.length=st.tk.length:=by rw [fl]
 let E1:En:=⟨E.c,E.β.take n1,E.tk.take m1,E.τ.take m1⟩
 have hfz:GM E E1 [] n1:=⟨fun _ _ h=>h,fun i cs _ hi=>by simp at hi⟩
 have xi:DD E E1 n1 m1:={
  β:=fun i b hi hb=>by show (E.β.take n1)[i]? = _;rw [cC,aj hi];exact hb
  tk:=fun k hk=>⟨by show (E.tk.take m1)[k]? = _;rw [cC,aj hk],by show (E.τ.take m1)[k]? = _;rw [cC,aj hk]⟩ }
 obtain ⟨Kg,Qq⟩:=pg.get;have Ve:os.length=n1:=by rw [Kg,zLenT];omega
 have Sb:∀ (j:Nat) y,(E.τ.take m1)[j]? = some y->j < m1/\E.τ[j]? = some y:=fun j y hy=>by
  rw [cC] at hy;split at hy
  ·rename_i hj;exact ⟨hj,hy⟩
  ·cases hy
 have hkg:∀ (j:Nat) q,(E.tk.take m1)[j]? = some q->j < m1/\E.tk[j]? = some q:=fun j y hy=>by
  rw [cC] at hy;split at hy
  ·rename_i hj;exact ⟨hj,hy⟩
  ·cases hy
 have QH:Env E1 os w:={
  len:=by show (E.β.take n1).length=_;rw [zLenT,Ve];omega
  tl:=by show (E.τ.take m1).length=(E.tk.take m1).length;rw [zLenT,zLenT,ja]
  dQ:=fun i cs' hi=>by
   obtain ⟨cs,cr,rR⟩:=Qq i cs' hi;rw [cC] at cr;split at cr
   ·rename_i aS;obtain ⟨b,ty,arr,hb,hw,hc⟩:=h.env.dQ i cs cr;exact ⟨b,ty,arr,xi.β i b aS hb,hw,CcL.sound hfz xi rR hc.1,hc.2⟩
   ·cases cr
  inj:=h.env.inj.sublist (List.take_sublist _ _)
  sub:=h.env.sub
  pc:=fun x v hx hm=>h.env.pc x v hx (List.mem_of_mem_take hm)
  cN:=fun j q y hq hy=>by
   obtain ⟨_,hq⟩:=hkg j q hq;obtain ⟨_,hy⟩:=Sb j y hy;rcases h.env.cN j q y hq hy with h1 | ⟨g,cap,cur,rfl,h1,h2,h3,h4,h5,h6⟩
   ·exact .inl h1
   ·exact .inr ⟨g,cap,cur,rfl,h1,h2,h3,h4,fun hm=>h5 (List.mem_of_mem_take hm),h6⟩
  gC:=fun j j' y y' g Dz hy gP=>h.env.gC j j' y y' g Dz (Sb j y hy).2 (Sb j' y' gP).2 }
 refine (hc E1 w _ QH (by show E.tk.take m1=_;rw [fl]) (h.bt.sub n1) (CcL.sound hfz xi ha hv)).mono ?_;rintro e w' ⟨v,rfl,⟨hm,_,r,fM,E2,he,hβ,sQ,hn,NU,hΦ⟩,Vf⟩;have sQ:E2.tk.length=E1.tk.length:=sQ;have Vg:E1.tk.length=m1:=by show (E.tk.take m1).length=_;rw [zLenT];omega
 have hE1τ:E1.τ.length=m1:=by show (E.τ.take m1).length=_;rw [zLenT];omega
 have Vh:E1.β.length=n1:=by show (E.β.take n1).length=_;rw [zLenT];omega
 rw [Vg] at sQ;have PA:E2.τ.length=m1:=by rw [he.tl,sQ]
 have Ix:fM.length=n1:=by rw [<- he.len,hβ,Vh]
 have hS:∀ j,E1.S j->j∈E.β.take n1∨∃ i y,i < m1/\E.τ[i]? = some y/\y.ownBlock=some j:=fun j hj=>by
  rcases hj with h1 | ⟨y,h1,h2⟩
  ·exact .inl h1
  ·obtain ⟨i,hi,he⟩:=List.getElem_of_mem h1;have mw:E1.τ[i]? = some y:=by rw [gE hi,he]
   obtain ⟨h3,h4⟩:=Sb i y mw;exact .inr ⟨i,y,h3,h4,h2⟩
 have hh:∀ j,j < w.heap.size->¬ E1.S j->w'.heap[j]? = w.heap[j]?:=fun j hj bM=>hm.block j hj bM;have dE:∀ (i:Nat) y g,E.τ[i]? = some y->y.ownBlock=some g->g < w.heap.size/\g ∉ E.β:=fun i y g hy hg=>h.env.own (mG hy) hg
 have dn:∀ x v,E2.c x=some v->E.c x=some v∨w.heap.size<=x.block∨∃ i y,i < m1/\E.τ[i]? = some y/\y.ownBlock=some x.block:=fun x v hx=>by
  rcases hn.cn x v hx with h1 | h1 | ⟨y,h1,h2⟩
  ·exact .inl h1
  ·exact .inr (.inl h1)
  ·obtain ⟨i,hi,he⟩:=List.getElem_of_mem h1;have mw:E1.τ[i]? = some y:=by rw [gE hi,he]
   obtain ⟨h3,h4⟩:=Sb i y mw;exact .inr (.inr ⟨i,y,h3,h4,h2⟩)
 have BA:∀ (j:Nat) q,j < m1->E.tk[j]? = some q->∃ y q' y',E.τ[j]? = some y/\E2.tk[j]? = some q' /\ E2.τ[j]? = some y' /\ q.ty=q'.ty/\q.e=q'.e/\((q'.n=q.n/\y'=y)∨q.n < q'.n)/\(y'.ownBlock=y.ownBlock∨∀ g,y'.ownBlock=some g->w.heap.size<=g):=fun j q hj hq=>by
  have xa:j < E.τ.length:=by rw [ja];omega
  obtain ⟨q',y',h1,h2,h3⟩:=hn.tk j q E.τ[j] (by show (E.tk.take m1)[j]? = _;rw [cC,aj hj];exact hq) (by show (E.τ.take m1)[j]? = _;rw [cC,aj hj,gE xa]);exact ⟨_,q',y',gE xa,h1,h2,h3⟩
 have D8:∀ (j:Nat) y',j < m1->E2.τ[j]? = some y' -> ∃ y,E.τ[j]? = some y/\(y'.ownBlock=y.ownBlock∨∀ g,y'.ownBlock=some g->w.heap.size<=g):=fun j y' hj hy=>by
  have xa:j < E.tk.length:=by omega
  obtain ⟨y,q1,y1,h1,_,h3,_,_,_,h7⟩:=BA j _ hj (gE xa);rw [hy] at h3;simp only [oI] at h3;subst h3;exact ⟨y,h1,h7⟩
 let E':En:=⟨E2.c,E.β,E2.tk ++ E.tk.drop m1,E2.τ ++ E.τ.drop m1⟩
 have gD:∀ (j:Nat),m1<=j->E'.tk[j]? = E.tk[j]?:=fun j hj=>by
  show (E2.tk ++ E.tk.drop m1)[j]? = _;rw [List.getElem?_append_right (by omega),List.getElem?_drop,sQ];congr 1;omega
 have OK:∀ (j:Nat),m1<=j->E'.τ[j]? = E.τ[j]?:=fun j hj=>by
  show (E2.τ ++ E.τ.drop m1)[j]? = _;rw [List.getElem?_append_right (by omega),List.getElem?_drop,PA];congr 1;omega
 have GN:∀ (j:Nat),j < m1->E'.tk[j]? = E2.tk[j]?:=fun j hj=>by
  show (E2.tk ++ E.tk.drop m1)[j]? = _;rw [eT (by omega)]
 have GL:∀ (j:Nat),j < m1->E'.τ[j]? = E2.τ[j]?:=fun j hj=>by
  show (E2.τ ++ E.τ.drop m1)[j]? = _;rw [eT (by omega)]
 have hx:Ext E E':=⟨hn.c,fun _ _ h=>h,fun j q hq=>by
  rcases Nat.lt_or_ge j m1 with hj | hj
  ·obtain ⟨y,q',y',h1,h2,h3,_,_,h6,_⟩:=BA j q hj hq;refine ⟨q',by rw [GN j hj];exact h2,?_⟩;rcases h6 with ⟨h6,rfl⟩ | h6
   ·exact .inl ⟨h6,by rw [GL j hj,h3,h1]⟩
   ·exact .inr h6
  ·exact ⟨q,by rw [gD j hj];exact hq,.inl ⟨rfl,OK j hj⟩⟩⟩
 have Be:Ext E2 E':={
  c:=fun _ _ h=>h
  β:=fun j b hj=>by
   rw [hβ] at hj;have hj:(E.β.take n1)[j]? = some b:=hj;rw [cC] at hj;split at hj
   ·exact hj
   ·cases hj
  tk:=fun j q hq=>by
   have hj:j < m1:=by have:=(gS hq).1;omega
   exact ⟨q,by rw [GN j hj];exact hq,.inl ⟨rfl,GL j hj⟩⟩ }
 have MS:∀ (i:Nat) b,n1<=i->E.β[i]? = some b->w'.heap[b]? = w.heap[b]?:=fun i b hi hb=>by
  refine hh b (h.env.bu (mG hb)) fun hs=>?_;rcases hS b hs with h1 | ⟨i',y,_,h2,h3⟩
  ·obtain ⟨i',mw,N4⟩:=List.getElem_of_mem h1;have h4:(E.β.take n1)[i']? = some b:=by rw [gE mw,N4]
   rw [cC] at h4;split at h4
   ·rename_i aS;have:=(List.getElem?_inj (gS hb).1 h.env.inj).1 (hb.trans h4.symm);omega
   ·cases h4
  ·exact (dE i' y b h2 h3).2 (mG hb)
 have Vi:mv X.bt E.β w':=fun p hp b hb=>by
  rcases Nat.lt_or_ge p.1 n1 with aS | hge
  ·exact Vf p hp b (by show (E.β.take n1)[p.1]? = _;rw [cC,aj aS];exact hb)
  ·obtain ⟨cs,cr⟩:=h.bt p hp b hb;exact ⟨cs,by rw [MS p.1 b hge hb];exact cr⟩
 have cO:Rel X E' ⟨st.sl,fM ++ st.bx.drop n1,E2.tk ++ st.tk.drop m1⟩ a w':=by
  refine dt h hx ?_ (by show E2.tk ++ E.tk.drop m1=_;rw [fl]) ?_ (h.fr.ct hm.os hm.tape hm.output hm.size fun j hj=>?_) (my bV) Vi
  ·exact {
    len:=by show E.β.length=_;rw [List.length_append,List.length_drop,Ix,hlen];omega
    tl:=by show (E2.τ ++ E.τ.drop m1).length=(E2.tk ++ E.tk.drop m1).length;simp only [List.length_append,List.length_drop,PA,sQ,ja]
    dQ:=fun i Kz hi=>by
     rcases Nat.lt_or_ge i n1 with HR | HR
     ·rw [eT (by omega)] at hi;obtain ⟨b2,UI,Oc,jr,kQ,rK⟩:=he.dQ i Kz hi;exact ⟨b2,UI,Oc,Be.β i b2 jr,kQ,rK.mono Be⟩
     ·rw [List.getElem?_append_right (by omega),List.getElem?_drop,Ix] at hi;rw [show n1 + (i - n1)=i by omega] at hi;obtain ⟨bj,UJ,Od,Mm,QI,NA⟩:=h.env.dQ i Kz hi;refine ⟨bj,UJ,Od,Mm,(hh bj (cV QI) ?_).trans QI,NA.mono hx⟩;intro hs;rcases hS bj hs with h1 | ⟨i',y,_,h2,h3⟩
      ·obtain ⟨i',mw,N4⟩:=List.getElem_of_mem h1;have h4:(E.β.take n1)[i']? = some bj:=by rw [gE mw,N4]
       rw [cC] at h4;split at h4
       ·rename_i aS;have:=(List.getElem?_inj (gS Mm).1 h.env.inj).1 (Mm.trans h4.symm);omega
       ·cases h4
      ·exact (dE i' y bj h2 h3).2 (mG Mm)
    inj:=h.env.inj
    sub:=he.sub
    pc:=fun x v hc lf=>by
     rcases dn x v hc with h1 | h1 | ⟨i,y,_,h2,h3⟩
     ·exact h.env.pc x v h1 lf
     ·have:=h.env.bu lf;omega
     ·exact (dE i y _ h2 h3).2 lf
    cN:=fun j q y hq hy=>by
     rcases Nat.lt_or_ge j m1 with hj | hj
     ·rw [GN j hj] at hq;rw [GL j hj] at hy;rcases he.cN j q y hq hy with h1 | ⟨g,cap,cur,rfl,h1,h2,h3,h4,h5,h6⟩
      ·exact .inl h1
      ·refine .inr ⟨g,cap,cur,rfl,h1,h2,h3,h4,fun lf=>?_,h6⟩;obtain ⟨y0,h7,h8⟩:=D8 j _ hj hy;rcases h8 with h8 | h8
       ·exact (dE j y0 g h7 (by rw [<- h8];rfl)).2 lf
       ·have:=h8 g rfl;have:=h.env.bu lf;omega
     ·rw [gD j hj] at hq;rw [OK j hj] at hy;rcases h.env.cN j q y hq hy with h1 | ⟨g,cap,cur,rfl,h1,h2,h3,h4,h5,h6⟩
      ·exact .inl h1
      ·have bM:∀ i y',i < m1->E.τ[i]? = some y' -> y'.ownBlock≠some g:=fun i y' hi gP=>h.env.gC j i _ y' g (by omega) hy gP rfl
       have Kp:¬ E1.S g:=fun hs=>by
        rcases hS g hs with h7 | ⟨i,y',h7,h8,h9⟩
        ·exact h5 (List.mem_of_mem_take h7)
        ·exact bM i y' h7 h8 h9
       refine .inr ⟨g,cap,cur,rfl,by rw [hh g (cV h1) Kp];exact h1,⟨h2.1,h2.2.mono hn.c⟩,h3,h4,h5,fun x v hc hg=>?_⟩
       ·rcases dn x v hc with h7 | h7 | ⟨i,y',h7,h8,h9⟩
        ·exact h6 x v h7 hg
        ·have:=cV h1;omega
        ·exact (bM i y' h7 h8 (by rw [h9,hg])).elim
    gC:=fun j j' y y' g Dz hy gP hg wY=>by
     rcases Nat.lt_or_ge j m1 with hj | hj
     ·rw [GL j hj] at hy;obtain ⟨y0,h7,h8⟩:=D8 j _ hj hy;rcases Nat.lt_or_ge j' m1 with jf | jf
      ·rw [GL j' jf] at gP;exact he.gC j j' y y' g Dz hy gP hg wY
      ·rw [OK j' jf] at gP;rcases h8 with h8 | h8
       ·exact h.env.gC j j' y0 y' g Dz h7 gP (by rw [<- h8];exact hg) wY
       ·have:=h8 g hg;have:=(dE j' y' g gP wY).1;omega
     ·rw [OK j hj] at hy;rcases Nat.lt_or_ge j' m1 with jf | jf
      ·rw [GL j' jf] at gP;obtain ⟨y0,h7,h8⟩:=D8 j' _ jf gP;rcases h8 with h8 | h8
       ·exact h.env.gC j j' y y0 g Dz hy h7 hg (by rw [<- h8];exact wY)
       ·have:=h8 g wY;have:=(dE j y g hy hg).1;omega
      ·rw [OK j' jf] at gP
       exact h.env.gC j j' y y' g Dz hy gP hg wY }
  ·exact {
    c:=fun x v hc=>hn.c x v (h.nw.c x v hc)
    cn:=fun x v hc=>by
     rcases dn x v hc with h1 | h1 | ⟨i,y,_,h2,h3⟩
     ·exact h.nw.cn x v h1
     ·have:=h.fr.size;exact .inr (.inl (by omega))
     ·rcases h.nw.own h2 h3 with h4 | h4
      ·exact .inr (.inr h4)
      ·exact .inr (.inl h4)
    β:=h.nw.β
    tk:=fun j q0 y0 Bq E6=>by
     obtain ⟨q1,y1,h1,h2,h3,h4,h5,h6⟩:=h.nw.tk j q0 y0 Bq E6;rcases Nat.lt_or_ge j m1 with hj | hj
     ·obtain ⟨y,q',y',g1,g2,g3,g4,g5,g6,g7⟩:=BA j q1 hj h1;rw [h2] at g1;simp only [oI] at g1;subst g1;refine ⟨q',y',by rw [GN j hj];exact g2,by rw [GL j hj];exact g3,h3.trans g4,h4.trans g5,?_,?_⟩
      ·rcases g6 with ⟨g6,rfl⟩ | g6
       ·rcases h5 with ⟨h5,rfl⟩ | h5
        ·exact .inl ⟨by omega,rfl⟩
        ·exact .inr (by omega)
       ·rcases h5 with ⟨h5,_⟩ | h5
        ·exact .inr (by omega)
        ·exact .inr (by omega)
      ·rcases g7 with g7 | g7
       ·rcases h6 with h6 | h6
        ·exact .inl (g7.trans h6)
        ·exact .inr fun g hg=>h6 g (by rw [<- g7];exact hg)
       ·refine .inr fun g hg=>?_;have:=g7 g hg;have:=h.fr.size;omega
     ·exact ⟨q1,y1,by rw [gD j hj];exact h1,by rw [OK j hj];exact h2,h3,h4,h5,h6⟩
    tn:=fun j y g E8 hy hg=>by
     rcases Nat.lt_or_ge j m1 with hj | hj
     ·rw [GL j hj] at hy;obtain ⟨y0,h7,h8⟩:=D8 j _ hj hy;rcases h8 with h8 | h8
      ·exact h.nw.tn j y0 g E8 h7 (by rw [<- h8];exact hg)
      ·have:=h8 g hg;have:=h.fr.size;omega
     ·rw [OK j hj] at hy;exact h.nw.tn j y g E8 hy hg
    l0:=h.nw.l0 }
  ·by_cases Xa:E1.S j
   ·left;rcases hS j Xa with h1 | ⟨i,y,_,h2,h3⟩
    ·have yd:=List.mem_of_mem_take h1;obtain ⟨r0,hr0,BR⟩:=h.nw.β;rw [hr0] at yd;rcases List.mem_append.1 yd with yd | yd
     ·exact .inl (.inl yd)
     ·exact .inr (BR j yd)
    ·rcases h.nw.own h2 h3 with h4 | h4
     ·exact .inl (.inr h4)
     ·exact .inr h4
   ·exact .inr (hh j hj Xa)
 exact ⟨v,r,fM,E2.tk,E',rfl,hΦ,Ix,sQ,cO,Rv.mono Be NU,hx,rfl,MS⟩
theorem sR {f:FuncId} {args bE:List DV} {os:List (List DV)} (n1 m1:Nat) (rN:Nat.ble n1 st.bx.length=true) (vC:Nat.ble m1 st.tk.length=true)
  (pg:ki [] n1 n1 m1 os (st.bx.take n1)) (ha:CcL [] n1 n1 m1 bE args)
  {Φ:DV->List (List DV)->List TkE->Prop} (hc:Ev X.P f bE os (st.tk.take m1) Φ) (bV:X.still=false) (hX:X.bt=[]) {vs:List Value} (h:Rel X E st a w) (hv:RvL E args vs) :
  Calls X.P f vs.toArray w fun e w'=>∃ v r fM cK E',e = .returned v/\Φ r fM cK /\ fM.length=n1/\cK.length=m1/\Rel X E' ⟨st.sl,fM ++ st.bx.drop n1,cK ++ st.tk.drop m1⟩ a w' /\ Rv E' r v/\Ext E E' /\ E'.β=E.β /\
   ∀ (i:Nat) b,n1<=i->E.β[i]? = some b->w'.heap[b]? = w.heap[b]?:=
 FO n1 m1 (by exact rN) (by exact vC) pg ha (hc.Qs hX) bV h hv
theorem sS {f:FuncId} {args bE:List DV} {os:List (List DV)} {d:Nat} (n1 m1:Nat) (fN:Enters X.P f) (hd:eZ X.nt st.sl (some d)=true) (rN:Nat.ble n1 st.bx.length=true) (vC:Nat.ble m1 st.tk.length=true)
  (pg:ki [] n1 n1 m1 os (st.bx.take n1)) (ha:CcL [] n1 n1 m1 bE args)
  {Φ:DV->List (List DV)->List TkE->Prop} (hc:Ev X.P f bE os (st.tk.take m1) Φ)
  (hk:∀ r fM cK,Φ r fM cK -> fM.length=n1->cK.length=m1->∃ st',Wk X ⟨(d,⟨[],r⟩) :: st.sl,fM ++ st.bx.drop n1,cK ++ st.tk.drop m1⟩ st' /\ go X 4000 k st') (bV:X.still=false:=by exact rfl) (hX:X.bt=[]:=by exact rfl):CallG X f args (some d) k st:=by
 refine ⟨fN,bV,fun E a w vs h hv=>(sR n1 m1 rN vC pg ha hc bV hX h hv).mono ?_⟩;rintro e w' ⟨v,r,fM,cK,E',rfl,hΦ,Ix,sQ,cO,JT,_,_,_⟩;obtain ⟨st',NW,xf⟩:=hk r fM cK hΦ Ix sQ;obtain ⟨E3,OL⟩:=NW _ _ _ (bF cO hd r v JT);exact go_sound 4000 _ _ xf E3 _ w' OL
theorem rj {f:FuncId} {args bE:List DV} {os:List (List DV)} {d:Nat} (n1 m1:Nat) (fN:Enters X.P f) (hd:eZ X.nt st.sl (some d)=true) (rN:Nat.ble n1 st.bx.length=true) (vC:Nat.ble m1 st.tk.length=true)
  (pg:ki [] n1 n1 m1 os (st.bx.take n1)) (ha:CcL [] n1 n1 m1 bE args)
  {Φ:DV->List (List DV)->List TkE->Prop} (hc:Ev X.P f bE os (st.tk.take m1) Φ)
  (hk:∀ r fM cK,Φ r fM cK -> fM.length=n1->cK.length=m1->go X 4000 k ⟨(d,⟨[],r⟩) :: st.sl,fM ++ st.bx.drop n1,cK ++ st.tk.drop m1⟩) (bV:X.still=false:=by exact rfl) (hX:X.bt=[]:=by exact rfl):CallG X f args (some d) k st:=
 sS n1 m1 fN hd rN vC pg ha hc (fun r fM cK h1 h2 h3=>⟨_,Wk.refl _ _,hk r fM cK h1 h2 h3⟩) bV hX
open Classical in
noncomputable def zF (E:En) (w:World) (y:Value) (n:Nat):Addr->Option Value:=
 fun x=>if y.ownBlock=some x.block/\x.spot=none/\x.off < n then w.cell? x else E.c x
theorem iQ {y:Value} {n:Nat} {x:Addr} {v:Value} (h:zF E w y n x=some v):(y.ownBlock=some x.block/\x.spot=none/\x.off < n/\w.cell? x=some v)∨E.c x=some v:=by
 unfold zF at h
 grind
theorem KZ (h:Rel X E st a w) {k n ty e:Nat} {cs:List DV} {ns:List (List DV)} (hq:st.tk[k]? = some ⟨n,ty,e,some cs⟩) (cr:cs=ns.flatten) (Kp:∀ x∈ns,x.length=e) (K5:ns.length=n) :
  ∃ E',Rel X E' ⟨st.sl,st.bx,st.tk.set k ⟨n,ty,e,none⟩⟩ a w/\Ext E E' /\ ∀ es y,es.length=n->Rv E (.sl 0 es (some k)) y->Rv E' (.sl e ns (some k)) y:=by
 subst cr;have kR:E.tk[k]? = some ⟨n,ty,e,some ns.flatten⟩:=by rw [h.tk];exact hq
 have J9:=(gS kR).1;have Qe:k < E.τ.length:=by rw [h.env.tl];exact J9
 have hv:E.τ[k]? = some E.τ[k]:=gE Qe;generalize E.τ[k]=v at hv;have Sc:=h.env.cN k _ v kR hv
 have lk:∀ x u,E.c x=some u->zF E w v (n * e) x=some u:=fun x u hx=>by
  unfold zF;split
  ·exact h.env.sub x u hx
  ·exact hx
 have hext:Ext E ⟨zF E w v (n * e),E.β,E.tk.set k ⟨n,ty,e,none⟩,E.τ⟩:=⟨lk,fun _ _ h=>h,fun j q Tz=>by
  by_cases hj:j=k
  ·subst hj;rw [kR] at Tz;simp only [oI] at Tz;subst Tz;exact ⟨_,iD J9,.inl ⟨rfl,rfl⟩⟩
  ·exact ⟨q,by rw [List.getElem?_set_ne (Ne.symm hj)];exact Tz,.inl ⟨rfl,rfl⟩⟩⟩
 refine ⟨⟨zF E w v (n * e),E.β,E.tk.set k ⟨n,ty,e,none⟩,E.τ⟩,dt h hext ?_ (by rw [h.tk]) ?_ h.fr h.sh h.bt,hext,?_⟩
 ·exact {
   len:=h.env.len
   tl:=by simp only [List.length_set];exact h.env.tl
   dQ:=fun i cs hi=>by
    obtain ⟨b,t,arr,hb,hw,hc⟩:=h.env.dQ i cs hi;exact ⟨b,t,arr,hb,hw,hc.mono hext⟩
   inj:=h.env.inj
   sub:=fun x u hx=>by
    rcases iQ hx with ⟨_,_,_,h1⟩ | h1
    ·exact h1
    ·exact h.env.sub x u h1
   pc:=fun x u hx hm=>by
    rcases iQ hx with ⟨h1,_⟩ | h1
    ·exact (gg Sc h1).2 hm
    ·exact h.env.pc x u h1 hm
   cN:=fun j q y hj hy=>by
    by_cases Vj:j=k
    ·subst Vj;have jf:(E.tk.set j ⟨n,ty,e,none⟩)[j]? = some q:=hj;rw [iD J9] at jf;have gP:E.τ[j]? = some y:=hy;rw [hv] at gP;simp only [oI] at jf gP;subst jf gP;rcases Sc with ⟨h1,h2,_⟩ | ⟨g,cap,cur,rfl,h1,h2,h3,h4,h5,h6⟩
     ·exact .inl ⟨h1,h2,fun cs hc=>by cases hc⟩
     ·refine .inr ⟨g,cap,cur,rfl,h1,⟨h2.1,qc.none rfl⟩,h3,h4,h5,fun x u hx Bu=>?_⟩;rcases iQ hx with ⟨_,_,h7,_⟩ | h7
      ·exact h7
      ·have:=h6 x u h7 Bu;simp only [TkE.kn] at this;omega
    ·have jf:E.tk[j]? = some q:=by
      have:(E.tk.set k ⟨n,ty,e,none⟩)[j]? = some q:=hj
      rwa [List.getElem?_set_ne (Ne.symm Vj)] at this
     rcases h.env.cN j q y jf hy with h1 | ⟨g,cap,cur,rfl,h1,h2,h3,h4,h5,h6⟩
     ·exact .inl h1
     ·refine .inr ⟨g,cap,cur,rfl,h1,⟨h2.1,h2.2.mono lk⟩,h3,h4,h5,fun x u hx Bu=>?_⟩;rcases iQ hx with ⟨h7,_⟩ | h7
      ·exact (h.env.gC j k _ v g Vj hy hv rfl (by rw [h7,Bu])).elim
      ·exact h6 x u h7 Bu
   gC:=h.env.gC }
 ·exact {
   c:=fun x u hx=>lk x u (h.nw.c x u hx)
   cn:=fun x u hx=>by
    rcases iQ hx with ⟨h1,_⟩ | h1
    ·rcases h.nw.own hv h1 with h2 | h2
     ·exact .inr (.inr h2)
     ·exact .inr (.inl h2)
    ·exact h.nw.cn x u h1
   β:=h.nw.β
   tk:=fun j q0 y0 Bq E6=>by
    obtain ⟨q1,y1,h1,h2,h3,h4,h5,h6⟩:=h.nw.tk j q0 y0 Bq E6;by_cases hj:j=k
    ·subst hj;rw [kR] at h1;simp only [oI] at h1;subst h1;exact ⟨_,y1,iD J9,h2,h3,h4,h5,h6⟩
    ·exact ⟨q1,y1,by rw [List.getElem?_set_ne (Ne.symm hj)];exact h1,h2,h3,h4,h5,h6⟩
   tn:=fun j y g hj hy=>h.nw.tn j y g hj hy
   l0:=h.nw.l0 }
 ·intro es y ph hy;unfold Rv at hy ⊢;obtain ⟨b,m,cap,rfl,⟨rfl,hmc⟩,hr,bV⟩:=hy;obtain ⟨q',mD,_,hτ⟩:=bV k rfl;rw [kR] at mD;simp only [oI] at mD;subst mD;have hy:=hτ ph;rw [hv] at hy;simp only [oI] at hy;subst hy;refine ⟨b,es.length,cap,rfl,⟨by omega,hmc⟩,fun bM=>?_,fun k' gD=>?_⟩
  ·rcases Sc with ⟨h1,h2,h3⟩ | ⟨g,Qc,cur,h0,h1,h2,h3,h4,h5,h6⟩
   ·simp only at h2;exact (bM (List.eq_nil_of_length_eq_zero (by omega))).elim
   ·injection h0 with i1 i2 i3
    subst i1;refine ⟨rfl,?_⟩;obtain ⟨h7,h8⟩:=h2.2 _ rfl;refine rvEs_flat (h8.mono (E:=⟨E.c,[],[],[]⟩) ⟨lk,fun _ _ h=>by simp at h,fun _ _ h=>by simp at h⟩) Kp fun j u hj=>?_;rw [cC] at hj;split at hj
    ·rename_i xa;show zF E w _ (n * e) _=_;unfold zF;rw [aj ⟨rfl,rfl,by simpa [ao] using xa⟩];simp only [ab,ao,Nat.zero_add];rw [cJ h1];simpa using hj
    ·cases hj
  ·cases gD;exact ⟨_,iD J9,by simp only;omega,fun _=>hv⟩
theorem OM {j o k n ty e:Nat} {ocs:List DV} {es ns:List (List DV)} (hq:st.tk[k]? = some ⟨n,ty,e,some ns.flatten⟩) (Kp:∀ x∈ns,x.length=e) (K5:ns.length=n) (hj:st.bx[j]? = some ocs) (ho:ocs[o]? = some (.sl 0 es (some k))) (ph:es.length=n) :
  Wk X st ⟨st.sl,st.bx.set j (ocs.set o (.sl e ns none)),st.tk.set k ⟨n,ty,e,none⟩⟩:=by
 intro E a w h;obtain ⟨E',hr,hx,BA⟩:=KZ h hq rfl Kp K5;refine ⟨E',{ hr with env:=?_ }⟩
 exact { hr.env with
  len:=by simp only [List.length_set];exact hr.env.len
  dQ:=fun i cs' hi=>by
   by_cases rP:i=j
   ·subst rP;have aS:=(gS hj).1;have mw:(st.bx.set i (ocs.set o (.sl e ns none)))[i]? = some cs':=hi;rw [iD aS] at mw;simp only [oI] at mw;subst mw;obtain ⟨b,t,arr,hb,hw,hc⟩:=hr.env.dQ i ocs hj;obtain ⟨b0,t0,Hf,nT,hw0,Fa⟩:=h.env.dQ i ocs hj;have uD:=hx.β i b0 nT;rw [hb] at uD;simp only [oI] at uD;subst uD;rw [hw] at hw0;simp only [oI,Obj.cells.injEq] at hw0
    have B0:arr=Hf:=by
     have:=hw0.1;simpa using this
    subst B0;refine ⟨b,t,arr,hb,hw,?_,hc.2⟩;obtain ⟨v,xY,JO⟩:=Fa.1.get ho;have JT:=BA es v ph JO;have Kg:=(gS ho).1;have Qg:arr.length=ocs.length:=hc.1.length
    have h1:=(RvL.take o hc.1).append (rvL_cons (d:=.sl e ns none) (v:=v) (by
     unfold Rv at JT ⊢;obtain ⟨b,n,cap,g1,g2,g3,_⟩:=JT
     exact ⟨b,n,cap,g1,g2,g3,fun k hk=>by cases hk⟩) (RvL.drop (o + 1) hc.1))
    rw [List.set_eq_take_append_cons_drop,aj Kg]
    have h2:arr.take o ++ v :: arr.drop (o + 1)=arr:=by
     have hoa:o < arr.length:=by omega
     have:arr[o]=v:=by grind
     rw [<- this];simp
    rwa [h2] at h1
   ·have mw:(st.bx.set j (ocs.set o (.sl e ns none)))[i]? = some cs':=hi;rw [List.getElem?_set_ne (Ne.symm rP)] at mw
    exact hr.env.dQ i cs' mw }
theorem CallG.Fh {S:St} {f:FuncId} {args bE:List DV} {dst:Option Nat} (i j:Nat) (hS:st=jK i j S) (ha:args=renL (swp i j) bE) (Ny:Nat.ble X.n0 i=true) (E8:Nat.ble X.n0 j=true) (hi:Nat.blt i S.bx.length=true) (hj:Nat.blt j S.bx.length=true)
  (h:CallG X f bE dst k S) (hX:X.bt=[]:=by exact rfl):CallG X f args dst k st:=by
 subst hS ha;simp only [Nat.blt_eq] at hi hj;refine ⟨h.1,h.2.1,fun E a w vs hr hv=>?_⟩
 have hlen:E.β.length=S.bx.length:=by
  rw [hr.env.len];simp only [jK,eE,dU]
 exact h.2.2 _ a w vs (Hx hX hr (nL Ny) (nL E8) hi hj) (RvL.Fh (by rw [hlen];exact hi) (by rw [hlen];exact hj) hv)
end
end Dv
end Go.Proofs.YtfdedoiiahbnnaaGreat
set_option maxRecDepth 100000
namespace Go.Proofs.YtfdedoiiahbnnaaGreat
open Go Go.RowKit Dv Go.Proofs.Tryz
def FP:List (List DV):=[[.v (.int .i32 0),.v (.int .i32 31)],[.v (.int .i32 127),.v (.int .i32 159)]]
def FQ:List (List DV):=[[.v (.int .i32 8232),.v (.int .i32 8233)]]
def vD:List (List DV):=[(1564,1564),(8206,8207),(8234,8238),(8294,8297)].map fun p:Int × Int=>[DV.v (.int .i32 p.1),DV.v (.int .i32 p.2)]
def FR:List (List DV):=[(173,173),(1536,1541),(1757,1757),(1807,1807),(2274,2274),(6158,6158),(8203,8205),(8288,8292),(8298,8303),(65279,65279),(65529,65531),(69821,69821),(69837,69837),(113824,113827),(119155,119162),(917505,917505),(917536,917631)].map fun p:Int × Int=>[DV.v (.int .i32 p.1),DV.v (.int .i32 p.2)]
def kW (z:Int):Bool:=((FP.any (qV z) || vD.any (qV z)) || FR.any (qV z)) || FQ.any (qV z)
def b1 (x:Nat):Nat:=((x / 2) &&& 85) + (x &&& 85)
def b2 (x:Nat):Nat:=((x / 4) &&& 51) + (x &&& 51)
def b3 (x:Nat):Nat:=((x / 16) + x) &&& 15
def ON (p:Nat->Bool) (n:Nat):Option Nat:=(List.range n).find? p
theorem FT {l:List Wd} {i:Nat} {x:Wd} (h:l[i]? = some x):ee (l.take (i + 1))=ee (l.take i) ++ [x.s]:=by
 rw [List.take_add_one,h];simp [ee]
theorem K6 (l:List Wd) (s:ByteArray):eO l s=true↔s∈ee l:=by grind [eO,ee]
theorem sT {l:List Wd} {i:Nat} {x:Wd} (h:l[i]? = some x) (hn:(ee (l.take i)).Nodup):(ee (l.take (i + 1))).Nodup↔eO (l.take i) x.s=false:=by grind [FT,eO,K6]
theorem vE {l:List Wd} {i:Nat} {x:Wd} (a:Int) (h:l[i]? = some x) (hn:(ee (l.take i)).Nodup) :
  fH (ee (l.take (i + 1))) x.s a=if cS l i x≠0 then (cS l i x,a) else (0,0):=by
 have hs:=sT h hn;unfold fH cS;by_cases h1:az x.s=true
 ·grind
 ·rw [af h1,af h1];all_goals rfl
theorem oE {l:List Wd} {i:Nat} {x:Wd} (h:l[i]? = some x) (hn:(ee (l.take i)).Nodup) (hz:cS l i x=0):(ee (l.take (i + 1))).Nodup:=by grind [sT,cS,az,eO]
theorem vF (l:List Wd):∀ (d e:Nat),e + d=l.length->(enumP l e)=(0,0)->(ee (l.take e)).Nodup->enumP l l.length=enumL l e (l.drop e)
 | 0,e,hd,hz,hn=>by
  have:e=l.length:=by omega
  subst this;rw [hz,List.drop_length];all_goals rfl
 | d + 1,e,hd,hz,hn=>by
  obtain ⟨x,hx⟩:∃ x,l[e]? = some x:=⟨_,gE (by omega)⟩;have h1:=sB (by rw [hz]) hx;rw [vE x.a hx hn] at h1;rw [drop_cons hx];simp only [enumL];by_cases hf:cS l e x≠0
  ·rw [aj hf] at h1 ⊢;have bV:=nq (l:=l) (e:=e + 1) (by rw [h1];exact hf) d
   grind
  ·rw [af hf] at h1 ⊢;exact vF l d (e + 1) (by omega) h1 (oE hx hn (sU hf))
theorem Iy (h:Hd):lG h=jv h:=by
 unfold lG jv;by_cases h0:h.aD=[]
 ·rw [aj h0,aj (by simp [h0])]
 ·rw [af h0,af (sU h0)];by_cases h1:64 < h.aD.length
  ·rw [aj h1,aj h1]
  ·rw [af h1,af h1];have:=vF h.aD h.aD.length 0 (by omega) rfl (by simp [ee]);simpa using this
def nD (p:Ph):Ph:=⟨p.name,true,[],0,0,0,0,[]⟩
theorem K7 (p:Ph) (t:Ty):cX p t (nD p) bO=(cu p kx && sameTy t bO):=by grind [cu,nD,kx,cX]
theorem empty_eq (p:Ph):cX p bO cj bO=(decide (p.name.s=aY) && cu p cj):=by
 have e:sameTy bO bO=true:=by simp [bO,BT,sameTy,gk,samePts,sameWds]
 simp only [cX,e,Bool.and_true];rfl
def Vk (L:List ByteArray) (s:ByteArray):Option Nat:=ON (fun i=>decide (L[i]? = some s)) L.length
section
variable (aD:List ByteArray) (tc:List DV) (rows:List Nat) (js:List Int)
end
section
variable (aD:List ByteArray) (tc:List DV) (rows:List Nat) (js:List Int)
end
def labW (L:List ByteArray):List Wd->Ft
 | []=>(0,0)
 | w :: r=>if Vk L w.s=none then (17,w.a) else labW L r
def Cr (x:Ft × Int) (r:DV) (os:List (List DV)) (_:List TkE):Prop:=
 r=x.1.d/\∃ z:Int,os=[[.v (.int .i64 z)]]/\(x.1.1=0->z=x.2)
theorem kB {x:Ft × Int}:∀ r os tk,Cr x r os tk->clB 0 0 r=true/\∀ ql∈os,clB.clL 0 0 ql=true:=by
 rintro r os tk ⟨rfl,z,rfl,_⟩;refine ⟨rfl,fun ql h=>?_⟩;simp only [List.mem_singleton] at h;subst h;rfl
def Iz (k:Nat):Prop:=∀ (t:Ty) (depth m:Int),t.wt<=k->t.wt<=1099511627776->0<=depth->depth<=25->0<=m->m<=512 ->
 Ev prog 156 [.loc 0 0,.agg (di t),.v (.int .i64 depth)] [[.v (.int .i64 m)]] [] (Cr (wrong t depth m))
def jQ (p:Ph) (t:Ty) (un:Bool) (depth m:Int):Ft × Int:=
 if p.bare=true then (if un=false∨cX p t (nD p) bO=false then ((19,p.name.a),m) else ((0,0),m))
 else if (eJ p).1≠0 then (eJ p,m)
 else wrong t (depth + 1) m
theorem bG {x:Ft × Int} {f:Ft} {m z:Int} (h:x=(f,m)) (hz:f.1=0->z=m) {tk:List TkE}:Cr x f.d [[.v (.int .i64 z)]] tk:=by
 subst h;exact ⟨rfl,z,rfl,hz⟩
theorem Ct (k:Nat) (ih:Iz k) (p:Ph) (t:Ty) (un:Bool) (depth m:Int) (hk:t.wt<=k) (hp:p.wt<=1099511627776) (cL:t.wt<=1099511627776) (BV:0<=depth) (FU:depth<=24) (oW:0<=m) (vC:m<=512) :
  Ev prog 287 [.loc 0 0,.agg (j9 p (di t)),.v (.bool un),.v (.int .i64 depth)] [[.v (.int .i64 m)]] [] (Cr (jQ p t un depth m)):=by
 have yF:=hp;simp only [Ph.wt] at yF;have Dy:=lF p (nD p) t bO hp (by simp only [Ph.wt,nD,wdsWt];omega) (kz t bO cL (by decide));have BH:=ih t (depth + 1) m hk cL (by omega) (by omega) oW vC;obtain ⟨u,us⟩:=t;have Vl:=xq p (di (.mk u us)) (.mk u us) rfl hp;have hS:=jQ.eq_def p (.mk u us) un depth m;generalize jQ p (.mk u us) un depth m=F at hS ⊢;obtain ⟨nm,bare,uK,wide,ck,cn,ca,cl⟩:=p;simp only at hS yF Dy
 cases bare with
 | true=>
  rw [aj rfl] at hS
  cases un with
  | true=>
   refine eG 68 [.cell 8 26] func287 rfl ntmps287 rfl fun _ _ _ _=>?_;refine cP HD Dy ?_;refine br ?_ ?_<;>intro q
   ·have q:cX ⟨nm,true,uK,wide,ck,cn,ca,cl⟩ (.mk u us) (nD ⟨nm,true,uK,wide,ck,cn,ca,cl⟩) bO=false:=by simpa [show (lastG (21,false) [(18,true)]).snd=true from rfl,pickB] using q
    rw [aj (.inr q)] at hS;refine cP dG (bH 19 nm.a) ?_;exact ⟨_,_,ax,ax,bG (tk:=[]) (f:=(19,nm.a)) hS (fun _=>rfl)⟩
   ·have q:cX ⟨nm,true,uK,wide,ck,cn,ca,cl⟩ (.mk u us) (nD ⟨nm,true,uK,wide,ck,cn,ca,cl⟩) bO=true:=by simpa [show (lastG (21,false) [(18,true)]).snd=true from rfl,pickB] using q
    rw [af (by simp [q])] at hS;exact ⟨_,_,ax,ax,bG (tk:=[]) (f:=(0,0)) hS (fun _=>rfl)⟩
  | false=>
   refine eG 68 [.cell 8 26] func287 rfl ntmps287 rfl fun _ _ _ _=>?_;rw [aj (.inl rfl)] at hS;refine cP dG (bH 19 nm.a) ?_;exact ⟨_,_,ax,ax,bG (tk:=[]) (f:=(19,nm.a)) hS (fun _=>rfl)⟩
 | false=>
  rw [af (by simp)] at hS;refine eG 68 [.cell 8 26] func287 rfl ntmps287 rfl fun _ _ _ _=>?_;refine br ?_ ?_<;>intro hw
  ·have hw:wide < 0∨64 < wide:=by simpa [aG] using hw
   have hP:eJ ⟨nm,false,uK,wide,ck,cn,ca,cl⟩=(20,nm.a):=by simp only [eJ,aj hw]
   rw [hP,aj (by simp)] at hS;refine cP dG (bH 20 nm.a) ?_;exact ⟨_,_,ax,ax,bG (tk:=[]) (f:=(20,nm.a)) hS (fun _=>rfl)⟩
  have hw:¬ (wide < 0∨64 < wide):=by simp [aG] at hw;omega
  refine cP yQ (gG uK (by omega)) ?_;refine br ?_ ?_<;>intro hb
  ·have hb:(dg uK).1≠0:=sU hb;have hP:eJ ⟨nm,false,uK,wide,ck,cn,ca,cl⟩=dg uK:=by simp only [eJ,af hw,aj hb]
   rw [hP,aj hb] at hS;exact ⟨_,_,ax,ax,bG (tk:=[]) (f:=dg uK) hS (fun _=>rfl)⟩
  have hb:(dg uK).1=0:=sU hb;have hP:eJ ⟨nm,false,uK,wide,ck,cn,ca,cl⟩=bW ⟨nm,false,uK,wide,ck,cn,ca,cl⟩:=by simp only [eJ,af hw];rw [af (by simp [hb])]
  rw [hP] at hS;refine cP Rj Vl ?_;refine br ?_ ?_<;>intro hc
  ·have hc:(bW ⟨nm,false,uK,wide,ck,cn,ca,cl⟩).1≠0:=sU hc;rw [aj hc] at hS;exact ⟨_,_,ax,ax,bG (tk:=[]) (f:=bW ⟨nm,false,uK,wide,ck,cn,ca,cl⟩) hS (fun _=>rfl)⟩
  have hc:(bW ⟨nm,false,uK,wide,ck,cn,ca,cl⟩).1=0:=sU hc;rw [af (by simp [hc])] at hS;refine lu HB rfl rfl ax (by repeat' (first | exact rfl | exact trivial | exact Or.inr (Or.inl ⟨_,rfl⟩) | exact Or.inr ⟨_,rfl⟩ | exact Or.inl ⟨rfl,rfl⟩ | exact Or.inl rfl | refine Or.inr ⟨_,_,rfl,Nat.zero_le _,rfl,?_⟩ | refine ⟨_,_,rfl,?_,?_⟩ | refine ⟨_,rfl,?_⟩ | exact congrArg (fun z=>DV.v (.int .i64 z)) (wrap64 (by omega) (by omega)) | refine Or.inr (Or.inr (Or.inr ⟨_,_,rfl,?_⟩)) | exact Or.inl rfl | refine Or.inr ?_)) BH kB (fun r ql hr=>?_);obtain ⟨rfl,z,hz,yx⟩:=hr;simp only [List.cons.injEq,and_true] at hz;subst hz;exact ⟨_,_,ax,ax,bG (tk:=[]) (f:=(wrong (.mk u us) (depth + 1) m).1) hS yx⟩
theorem uL {au:Int} {all:List Wd} {i:Nat} {p:Ph} {t:Ty} {r:Pts} {depth m:Int} (hk:au=7∨au=8) (hl:cS all i p.name=0) :
  wrongPts au all i (.cons p t r) depth m=if (jQ p t (decide (au=8)) depth m).1.1≠0 then jQ p t (decide (au=8)) depth m else wrongPts au all (i + 1) r depth (jQ p t (decide (au=8)) depth m).2:=by
 simp only [wrongPts];rw [af (by simp [hl])];unfold jQ;by_cases hb:p.bare=true
 ·grind [K7,sameTy,bO,cu,kx]
 ·grind
theorem IA {p:Ph} {t:Ty} {un:Bool} {depth m:Int} (oW:0<=m) (vC:m<=512) (h:(jQ p t un depth m).1.1=0):(jQ p t un depth m).1=(0,0)/\0<=(jQ p t un depth m).2/\(jQ p t un depth m).2<=512:=by grind [sw,jQ,eJ]
abbrev zG (h:Hd) (ps:Pts) (n e:Nat) (depth m:Int):St:=
 ⟨[cE 0 0,bQ 2 depth,cE 4 1,cE 6 2,gh 38 18 (eF ps),bQ 39 ((eF ps).length),bQ 40 e,(7,⟨[],.sl 1 (hZ (ee ((pNames ps).take e))) (some 0)⟩)],
  [[.v (.int .i64 m)],di (.mk h ps),[.v (.int .i64 0),.v (.int .i64 0)]],[⟨n,9,1,none⟩]⟩
theorem qA (k:Nat) (ih:Iz k) (h:Hd) (ps:Pts) (depth m:Int) (Vm:h.au=7∨h.au=8) (hk:ps.wt<=k) (cL:(Ty.mk h ps).wt<=1099511627776) (BV:0<=depth) (FU:depth<=24) (oW:0<=m) (vC:m<=512) :
  Ev prog 241 [.loc 0 0,.agg (di (.mk h ps)),.v (.int .i64 depth)] [[.v (.int .i64 m)]] [] (Cr (lC h ps depth m)):=by
 simp only [Ty.wt,Hd.wt] at cL;have nS:=ps.ng;have K5:=sv ps;have hnw:=vm ps;have hS:=lC.eq_def h ps depth m;generalize lC h ps depth m=F at hS ⊢;refine eG 72 [.cell 6 26] func241 rfl ntmps241 rfl fun _ _ _ _=>?_;refine br ?_ ?_<;>intro c1
 ·have c1:h.au=8/\ps.len=0:=by grind [aC,bN]
  rw [aj c1] at hS;refine cP dG (bH 15 h.dR) ?_;exact ⟨_,_,ax,ax,bG (tk:=[]) (f:=(15,h.dR)) hS (fun _=>rfl)⟩
 have c1:¬ (h.au=8/\ps.len=0):=by
  simp [aC,bN] at c1;omega
 rw [af c1] at hS;refine br ?_ ?_<;>intro c2
 ·have aS:64 < ps.len:=by simp [bN] at c2;omega
  obtain ⟨p,t,hx⟩:=Pts.ni aS;refine iX (fF hx) ?_;refine cP dG (bH 8 p.name.a) ?_;rw [aj aS,nj hx] at hS;exact ⟨_,_,ax,ax,bG (tk:=[]) (f:=(8,p.name.a)) hS (fun _=>rfl)⟩
 have c2:¬ 64 < ps.len:=by simp [bN] at c2;omega
 rw [af c2] at hS
 refine de (fun j st=>∃ (e:Nat) (m':Int),st=zG h ps e e depth m' /\ e<=ps.len/\0<=m' /\ m' <= 512/\(ee ((pNames ps).take e)).Nodup /\
   F=wrongPts h.au (pNames ps) e (ps.drop e) depth m' /\ j=ps.len - e) ps.len (zG h ps 0 0 depth m) (gF ⟨0,9,1,none⟩ rfl ⟨_,rfl⟩ rfl wA rfl rfl DH) ⟨0,m,rfl,by omega,oW,vC,by simp [ee],hS,by omega⟩ ?_
 rintro j st ⟨e,m',rfl,he,Sd,Se,hnd,dT,rfl⟩;refine br ?_ ?_<;>intro hL
 ·have aS:e < ps.len:=by simpa [bN] using hL
  obtain ⟨p,t,hx⟩:=Pts.ni aS;have B8:=Pts.nh (mG hx);have Vn:=nj hx;have Va:p.name.s.size + 64<=p.wt:=by simp only [Ph.wt,Wd.wt];omega
  rw [Pts.drop_cons hx] at dT;have H4:(ee ((pNames ps).take (e + 1)))[(ee ((pNames ps).take (e + 1))).length - 1]? = some p.name.s:=by grind [ee,pNames]
  have NF:=qu (ee ((pNames ps).take (e + 1))) p.name.s p.name.a H4 (by simp [ee];omega) (by omega);have vt:=vq Vn;rw [vE p.name.a Vn hnd,<- vt] at NF;have MT:=Ct k ih p t (decide (h.au=8)) depth m' (by omega) (by omega) (by omega) BV FU Sd Se;obtain ⟨u,us⟩:=t;refine iX (fF hx) ?_;refine ⟨by simp [ij,ee];omega,⟨by simp [ij,ee,maxLen];omega,by simp [ij,ee];omega⟩,?_⟩;refine cP My NF ?_;by_cases hl:cS (pNames ps) e p.name≠0
  ·rw [aj hl];refine br ?_ ?_<;>intro hf
   ·simp only [wrongPts] at dT;rw [aj hl] at dT;exact ⟨_,_,ax,ax,bG (tk:=[]) (f:=(cS (pNames ps) e p.name,p.name.a)) dT (fun _=>rfl)⟩
   ·exact absurd (sU hf) hl
  have hl:cS (pNames ps) e p.name=0:=sU hl;have Vo:=oE Vn hnd hl;rw [af (by simp [hl])];rw [uL Vm hl] at dT;have kp:=IA (p:=p) (t:=.mk u us) (un:=decide (h.au=8)) (depth:=depth) Sd Se;generalize jQ p (.mk u us) (decide (h.au=8)) depth m'=r at MT dT kp;obtain ⟨⟨fe,fa⟩,many⟩:=r;simp only at dT kp;refine lu Rb rfl rfl ax ax MT kB (fun r ql hr=>?_);obtain ⟨rfl,z,hz,yx⟩:=hr;simp only [List.cons.injEq,and_true] at hz;subst hz;refine br ?_ ?_<;>intro hd
  ·have hd:fe≠0:=sU hd;rw [aj hd] at dT;exact ⟨_,_,ax,ax,bG (tk:=[]) (f:=(fe,fa)) dT (fun h0=>absurd h0 hd)⟩
  ·have hd:fe=0:=sU hd;subst hd;obtain ⟨_,h2,h3⟩:=kp rfl;rw [af (by simp)] at dT;have Tx:z=many:=yx rfl;subst Tx;exact rE ⟨_,by omega,e + 1,z,rfl,by omega,h2,h3,Vo,dT,rfl⟩ (fC (yb (gy aS (by omega)) vt))
 ·have hge:e=ps.len:=by simp [bN] at hL;omega
  rw [hge,Pts.ly] at dT;simp only [wrongPts] at dT;exact ⟨_,_,ax,ax,bG (tk:=[]) (f:=(0,0)) dT (fun _=>rfl)⟩
end Go.Proofs.YtfdedoiiahbnnaaGreat
