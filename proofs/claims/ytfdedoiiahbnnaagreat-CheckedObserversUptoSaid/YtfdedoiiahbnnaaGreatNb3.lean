/- Part 3 of the proof: Contracts: the reference's words, Plain, Same, Zero, own; Contracts: the reference's Same, Zero, own; Contracts: the reference's Label, listed, names, Size, with, coarse; What is wrong with a type: the plain function; the reference's Wrong and parts return it; The program's checks of types: bad, listed, label, words; The program's checks of types: label, coarse; The program's comparing of names and types; The program's Same; The program's own, empty; The program's empty, enum; kinds.Right, once the checker's check is known; Numbers in tens: the reference's Put; Numbers in tens: the program's Put; The text of a type, plain; the reference's Label and comma; The reference's text of a type: Label, comma, part, Type; The reference's text of a part; The reference's text of a type; The library's strings.Join, laid at this program by the kit's tool (lay-plain; wip/tools/lay.sh); The program's text of a label, of what stands behind a part's type, of lists; The program's text of a type: field, tag, kind; unparse.Type, once the checker's check is known; A type with which nothing is wrong is fine for its text; Readable data as data of the evaluator: what the statement's form reads of an argument is a datum of the evaluator, of the argument's type, no heavier than what was read; What is read of a type, as the plain data; From a contract over data to what a law's statement asks: the arguments are read, the call returns true, all that was there stays; What all laws' frames share: the bulk, the program's closed facts; Types without places: plain, and the program's kinds.Strip; Schemas: plain, as the evaluator has them, without places; What is read of a schema, as the plain data; What the frames of laws over schemas share; The program's closed facts, each by itself (all at once they ask more memory than a Lean process has); Rules for the evaluator: a call that is handed the caller's first objects and rows; rows whose cells nobody else knows; Steps of a region that draws its order, one by one; Rules for the evaluator: calls that hand back fresh rows; Rules for the evaluator: calls that hand back new objects; Cursors: plain; The greatest multiple of a unit that is at most a number; Whole numbers in texts, plain; Whole numbers in texts: the program's run, value, Take; UTF-8: the program's lead, value; UTF-8: the program's Decode; UTF-8: the document's reckoned, Scalar, Encode; UTF-8: the document's Scalar, Encode; UTF-8, plain: the document's well-formed bytes are the program's; a text's first units; UTF-8: the document's begins, left, Decode; Tables of runes; the unit at a place: the program's and the document's; Relations as rows of bits: plain, and rel's functions that read; rel.back: who leads to a thing and is led to by it; rel.New: the rows of a list of pairs; rel.Close: the closure, by rows; The number of bits that are set, as the library reckons it; math/bits.OnesCount64; When two bits are set; rel.Loop: the least thing in a loop. No condition. -/
import Derived.Laws.StructEq
import Derived.Shelf.Strings.OnBuilder
import Derived.Deep.Slices
import Derived.ChangeArms
import Derived.DataReads
import Derived.WalkKit
import Derived.ProofKit
import Derived.OpenShut
import Derived.Carry
import Derived.JoinedCond
import Derived.Test.YtfdedoiiahbnnaaGreatRows
import Derived.Test.YtfdedoiiahbnnaaGreatNb2
set_option linter.all false
set_option maxRecDepth 100000
namespace Go.Proofs.YtfdedoiiahbnnaaGreat
open Go Go.RowKit Dv Go.Proofs.Tryz
def sameWds:List Wd->List Wd->Bool
 | [],[]=>true
 | x :: r,y :: s=>decide (x.s=y.s) && sameWds r s
 | _,_=>false
theorem o7:∀ {a b:List Wd},a.length≠b.length->sameWds a b=false
 | [],[],h=>(h rfl).elim
 | x :: r,y :: s,h=>by
  have:r.length≠s.length:=sU h;simp [sameWds,o7 this]
 | [],y :: s,_=>rfl
 | x :: r,[],_=>rfl
abbrev vo (a b:List Wd) (e:Nat):St:=
 ⟨[aS 0 2 (bm a),aS 1 2 (bm b),aq 5 e],[],[]⟩
theorem jK (a b:List Wd) (hs:a.length<=4611686018427387904) :
  aV prog 269 [.sl 2 (bm a) none,.sl 2 (bm b) none] (.v (.bool (sameWds a b))):=by
 refine eG 28 [.tmp 4] func269 rfl ntmps269 rfl fun _ _ _ _=>?_;refine br ?_ ?_<;>intro h
 ·have bi:a.length≠b.length:=by have:=h;simp [ak] at this;omega
  exact congrArg (fun b=>DV.v (.bool b)) (o7 bi).symm
 ·have hl:a.length=b.length:=by have:=h;simp [ak] at this;omega
  refine aW (fun j st=>∃ e:Nat,st=vo a b e/\e<=a.length/\sameWds a b=sameWds (a.drop e) (b.drop e)/\j=a.length - e) a.length
   (vo a b 0) (bc wB) ⟨0,rfl,by omega,rfl,by omega⟩ ?_
  rintro j st ⟨e,rfl,he,aD,rfl⟩;refine br ?_ ?_<;>intro h
  ·have ap:e < a.length:=by simpa [ak] using h
   obtain ⟨x,hx⟩:=gX ap;obtain ⟨y,hy⟩:∃ y,b[e]? = some y:=⟨_,gE (hl ▸ ap)⟩;rw [drop_cons hx,drop_cons hy] at aD;refine dI ?_;refine ⟨gm x,⟨by omega,aH hx⟩,gm y,⟨by omega,aH hy⟩,?_⟩;refine br ?_ ?_<;>intro h
   ·have bi:x.s≠y.s:=sU h;refine (cj ?_:);rw [aD];simp [sameWds,bi]
   ·have bi:x.s=y.s:=sU h;refine ⟨vo a b (e + 1),(bc (c8 (aT ap (by omega)))),a.length - (e + 1),by omega,e + 1,rfl,by omega,?_,rfl⟩;rw [aD];simp [sameWds,bi]
  ·have hge:e=a.length:=by have:=h;simp [ak] at this;omega
   refine (cj ?_:);rw [aD,hge,hl];simp [sameWds];rw [<- hl];simp [sameWds]
def bQ (p q:Ph):Bool:=(p.bare == q.bare) && decide (p.wide=q.wide) && sameWds p.label q.label && decide (p.ck=q.ck) && decide (p.cn=q.cn) && sameWds p.cl q.cl
theorem jL (p q:Ph) (tl Ui:List DV) (hs:p.wt<=4611686018427387904) (ht:CcL [] 0 0 0 tl tl) (py:CcL [] 0 0 0 Ui Ui) :
  aV prog 196 [.agg (zL p tl),.agg (zL q Ui)] (.v (.bool (bQ p q))):=by
 refine eG 51 [.tmp 4] func196 rfl ntmps196 rfl fun _ _ _ _=>?_;have h1:=bd p.label;have h2:=bd p.cl;simp only [Ph.wt] at hs;refine br ?_ ?_<;>intro h
 ·refine cP FJ (jK p.label q.label (by omega)) ?_;refine br ?_ ?_<;>intro h2
  ·refine cP FJ (jK p.cl q.cl (by omega)) ?_;refine (cj ?_:);simp [av] at h h2;simp [bQ,av,h,h2]
  ·refine (cj ?_:);simp [av] at h h2;simp [bQ,av,h]
   grind
 ·refine (cj ?_:);simp [av] at h;simp [bQ]
  grind
def iL (h k:Hd):Bool:=decide (h.ai=k.ai) && decide (h.lo=k.lo) && decide (h.hi=k.hi) && decide (h.most=k.most) && decide (h.name.s=k.name.s) && sameWds h.af k.af
mutual
def sameTy:Ty->Ty->Bool
 | .mk h ps,.mk k qs=>iL h k && samePts ps qs
def samePts:Pts->Pts->Bool
 | .nil,.nil=>true
 | .cons p t r,.cons q u s=>decide (p.name.s=q.name.s) && bQ p q && sameTy t u && samePts r s
 | _,_=>false
end
theorem o8:∀ {a b:Pts},a.len≠b.len->samePts a b=false
 | .nil,.nil,h=>(h rfl).elim
 | .cons p t r,.cons q u s,h=>by
  have:r.len≠s.len:=by simpa [Pts.len] using h
  simp [samePts,o8 this]
 | .nil,.cons _ _ _,_=>by simp [samePts]
 | .cons _ _ _,.nil,_=>by simp [samePts]
def gx (h:Hd):Hd:=
 ⟨h.ai,0,if h.ai=2 then h.lo else 0,if h.ai=2 then h.hi else 0,if h.ai=3∨h.ai=5 then h.most else 0,if h.ai=4 then h.af else [],if h.ai=9 then h.name else ⟨aJ,0⟩⟩
def mask:Ty->Ty
 | .mk h ps=>.mk (gx h) (if 4 < h.ai/\h.ai < 9 then ps else .nil)
theorem tS (bx:List (List DV)) (N n m:Nat) (t:Ty):CcL bx N n m (cX t) (cX t):=by
 obtain ⟨h,ps⟩:=t;simp only [cX,CcL,Cc]
 repeat' (first | exact rfl | exact trivial | exact Or.inr (Or.inl ⟨_,rfl⟩) | refine ⟨_,_,rfl,?_,?_⟩)
abbrev zP (a b:Ty) (e:Nat):St:=
 ⟨[aF 2 0,aF 3 1,aq 5 e],[cX a,cX b],[]⟩
theorem kp:∀ (n:Nat) (a b:Ty),a.wt<=n->a.wt<=4611686018427387904 ->
  aV prog 268 [.agg (cX a),.agg (cX b)] (.v (.bool (sameTy a b)))
 | 0,a,b,hn,_=>by have:=a.gv;omega
 | n + 1,.mk h ps,.mk k qs,hn,bI=>by
  simp only [Ty.wt,Hd.wt] at hn bI;have hl:=bd h.af;have ml:=ps.dX;refine eG 98 [.tmp 4] func268 rfl ntmps268 rfl fun _ _ _ _=>?_;refine br ?_ ?_<;>intro hA
  ·simp [aj] at hA;obtain ⟨⟨⟨⟨e1,e2⟩,e3⟩,e4⟩,e5⟩:=hA;refine cP FJ (jK h.af k.af (by omega)) ?_;refine br ?_ ?_<;>intro hB
   ·refine (cj ?_:);simp [aj,e1,e2,e3,e4,e5,aC] at hB;simp only [sameTy,iL];rcases hB with hB | hB
    ·simp [hB]
    ·have:ps.len≠qs.len:=by omega
     simp [o8 this]
   ·simp [aj,e1,e2,e3,e4,e5,aC] at hB;obtain ⟨e6,e7⟩:=hB;have e8:ps.len=qs.len:=by omega
    have eh:sameTy (.mk h ps) (.mk k qs)=samePts ps qs:=by simp [sameTy,iL,e1,e2,e3,e4,e5,e6]
    refine aW (fun j st=>∃ e:Nat,st=zP (.mk h ps) (.mk k qs) e/\e<=ps.len/\samePts ps qs=samePts (ps.drop e) (qs.drop e)/\j=ps.len - e) ps.len
     (zP (.mk h ps) (.mk k qs) 0) (bc wB) ⟨0,rfl,by omega,rfl,by omega⟩ ?_
    rintro j st ⟨e,rfl,he,aD,rfl⟩;refine br ?_ ?_<;>intro hL
    ·have ap:e < ps.len:=by simpa [aC] using hL
     obtain ⟨p,t,hx⟩:=Pts.dq ap;obtain ⟨q,u,hy⟩:=Pts.dq (e8 ▸ ap);rw [Pts.drop_cons hx,Pts.drop_cons hy] at aD;have C0:=Pts.eC (mG hx);obtain ⟨t,ts⟩:=t;obtain ⟨u,us⟩:=u;apply kV (fun _=>false) 10 11 [0,1,2,3,4,5,6,7,8,9,10,11,12,13] [0,1,2,3,4,5,6,7,8,9,11,10,12,13] 2 3 mo (by decide +kernel)
     ·refine ⟨_,⟨by omega,bz hx⟩,_,⟨by omega,bz hy⟩,?_⟩;refine (?_:@Eq St _ _);exact rfl
     ·refine ⟨_,⟨by omega,bz hx⟩,_,⟨by omega,bz hy⟩,?_⟩;refine (⟨rfl,rfl,?_⟩:_/\_/\_)
      repeat' (first | exact trivial | refine ⟨rfl,?_⟩)
     ·rfl
     refine br ?_ ?_<;>intro hC
     ·have hC:p.name.s=q.name.s:=sU hC;refine cP FC (jL p q (cX (.mk t ts)) (cX (.mk u us)) (by omega) (tS _ _ _ _ _) (tS _ _ _ _ _)) ?_;refine br ?_ ?_<;>intro hD
      ·have hD:bQ p q=true:=by simpa [aj,hC] using hD
       refine cP ko (kp n (.mk t ts) (.mk u us) (by omega) (by omega)) ?_;refine br ?_ ?_<;>intro hE
       ·refine (cj ?_:);rw [eh,aD];simp [aj,hC,hD] at hE;simp [samePts,hE]
       ·simp [aj,hC,hD] at hE;refine ⟨zP (.mk h ps) (.mk k qs) (e + 1),(bc (c8 (aT ap (by omega)))),ps.len - (e + 1),by omega,e + 1,rfl,by omega,?_,rfl⟩;rw [aD];simp [samePts,hC,hD,hE]
      ·have hD:bQ p q=false:=by simpa [aj,hC] using hD
       refine (cj ?_:);rw [eh,aD];simp [samePts,hD]
     ·have hC:p.name.s≠q.name.s:=sU hC;refine (cj ?_:);rw [eh,aD];simp [samePts,hC]
    ·have hge:e=ps.len:=by have:=hL;simp [aC] at this;omega
     refine (cj ?_:);rw [eh,aD,hge,Pts.cu,e8,Pts.cu];simp [samePts]
  ·refine (cj ?_:);simp [aj] at hA;simp only [sameTy,iL]
   grind
theorem xL (t:Ty) (bI:t.wt<=4611686018427387904) :
  aV prog 271 [.agg (cX t)] (.v (.bool (sameTy t bU))):=by
 obtain ⟨h,ps⟩:=t;refine eG 6 [.tmp 2] func271 rfl ntmps271 rfl fun _ _ _ _=>?_;refine cP ko (kp _ (.mk h ps) bU (zLeR _) bI) ?_;exact (rfl:_=_)
theorem zQ (t:Ty) (bI:t.wt<=4611686018427387904) :
  aV prog 194 [.agg (cX t)] (.v (.bool (sameTy t (mask t)))):=by
 obtain ⟨h,ps⟩:=t
 have key:∀ (h':Hd) (Uj:Pts),gx h=h' -> (if 4 < h.ai/\h.ai < 9 then ps else .nil)=Uj ->
   aV prog 268 [.agg (cX (.mk h ps)),.agg (cX (.mk h' Uj))] (.v (.bool (sameTy (.mk h ps) (mask (.mk h ps))))):=by
  rintro h' Uj rfl rfl;exact kp _ (.mk h ps) _ (zLeR _) bI
 obtain ⟨ai,cW,lo,hi,most,af,name⟩:=h;by_cases hr:2<=ai/\ai<=9
 ·obtain hk | hk | hk | hk | hk | hk | hk | hk:ai=2∨ai=3∨ai=4∨ai=5∨ai=6∨ai=7∨ai=8∨ai=9:=by omega
  ·subst hk;refine eG 53 [.tmp 2] func194 rfl ntmps194 rfl fun _ _ _ _=>?_;refine cP ko (key ⟨2,0,lo,hi,0,[],⟨aJ,0⟩⟩ .nil (by simp [gx]) (by simp)) ?_;exact (rfl:_=_)
  ·subst hk;refine eG 53 [.tmp 2] func194 rfl ntmps194 rfl fun _ _ _ _=>?_;refine cP ko (key ⟨3,0,0,0,most,[],⟨aJ,0⟩⟩ .nil (by simp [gx]) (by simp)) ?_;exact (rfl:_=_)
  ·subst hk;refine eG 53 [.tmp 2] func194 rfl ntmps194 rfl fun _ _ _ _=>?_;refine cP ko (key ⟨4,0,0,0,0,af,⟨aJ,0⟩⟩ .nil (by simp [gx]) (by simp)) ?_;exact (rfl:_=_)
  ·subst hk;refine eG 53 [.tmp 2] func194 rfl ntmps194 rfl fun _ _ _ _=>?_;refine cP ko (key ⟨5,0,0,0,most,[],⟨aJ,0⟩⟩ ps (by simp [gx]) (by simp)) ?_;exact (rfl:_=_)
  ·subst hk;refine eG 53 [.tmp 2] func194 rfl ntmps194 rfl fun _ _ _ _=>?_;refine cP ko (key ⟨6,0,0,0,0,[],⟨aJ,0⟩⟩ ps (by simp [gx]) (by simp)) ?_;exact (rfl:_=_)
  ·subst hk;refine eG 53 [.tmp 2] func194 rfl ntmps194 rfl fun _ _ _ _=>?_;refine cP ko (key ⟨7,0,0,0,0,[],⟨aJ,0⟩⟩ ps (by simp [gx]) (by simp)) ?_;exact (rfl:_=_)
  ·subst hk;refine eG 53 [.tmp 2] func194 rfl ntmps194 rfl fun _ _ _ _=>?_;refine cP ko (key ⟨8,0,0,0,0,[],⟨aJ,0⟩⟩ ps (by simp [gx]) (by simp)) ?_;exact (rfl:_=_)
  ·subst hk;refine eG 53 [.tmp 2] func194 rfl ntmps194 rfl fun _ _ _ _=>?_;refine cP ko (key ⟨9,0,0,0,0,[],name⟩ .nil (by simp [gx]) (by simp)) ?_;exact (rfl:_=_)
 ·refine eG 53 [.tmp 2] func194 rfl ntmps194 rfl fun _ _ _ _=>?_;refine br (fun c=>?_) (fun c1=>?_)
  ·have:ai=2:=of_decide_eq_true c;omega
  refine br (fun c=>?_) (fun c2=>?_)
  ·simp [aj] at c;omega
  refine br (fun c=>?_) (fun c3=>?_)
  ·have:ai=4:=of_decide_eq_true c;omega
  refine br (fun c=>?_) (fun c4=>?_)
  ·simp [av] at c;omega
  refine br (fun c=>?_) (fun c5=>?_)
  ·have:ai=9:=of_decide_eq_true c;omega
  have e1:¬ ai=2:=of_decide_eq_false c1;have e3:¬ ai=4:=of_decide_eq_false c3;have e5:¬ ai=9:=of_decide_eq_false c5;simp [aj,av] at c2 c4;refine cP ko (key ⟨ai,0,0,0,0,[],⟨aJ,0⟩⟩ .nil (by simp [gx,e1,c2,e3,e5]) (by simp;omega)) ?_;exact (rfl:_=_)
abbrev Ft:Type:=Int × Int
def Ft.d (f:Ft):DV:=.agg [.v (.int .i64 f.1),.v (.int .i64 f.2)]
def badWd:List Wd->Ft
 | []=>(0,0)
 | w :: r=>if aX w.s then badWd r else (9,w.a)
def bp (l:List Wd):Ft:=
 if l.length<=32 then badWd l else (8,((l[32]?).getD (⟨aJ,0⟩:Wd)).a)
abbrev vq (l:List Wd) (e:Nat):St:=
 ⟨[aS 0 2 (bm l),aF 2 0,aq 3 e],[[.v (.int .i64 0),.v (.int .i64 0)]],[]⟩
theorem jM (l:List Wd) (hs:wdsWt l<=4611686018427387904) :
  aV prog 192 [.sl 2 (bm l) none] (bp l).d:=by
 have nV:=bd l;refine eG 32 [.cell 2 26] func192 rfl ntmps192 rfl fun _ _ _ _=>?_;refine br ?_ ?_<;>intro h
 ·have ap:32 < l.length:=by simp [ak] at h;omega
  obtain ⟨x,hx⟩:=gX ap;have:bp l=(8,x.a):=by simp [bp,Nat.not_le.2 ap,hx]
  refine ⟨gm x,⟨by omega,aH hx⟩,_,?_,rfl⟩;rw [this];exact ax
 ·have fN:l.length<=32:=by simp [ak] at h;omega
  refine aW (fun j st=>∃ e:Nat,st=vq l e/\e<=l.length/\badWd l=badWd (l.drop e)/\j=l.length - e) l.length
   (vq l 0) (bc wB) ⟨0,rfl,by omega,rfl,by omega⟩ ?_
  rintro j st ⟨e,rfl,he,aD,rfl⟩;refine br ?_ ?_<;>intro hL
  ·have ap:e < l.length:=by simpa [ak] using hL
   obtain ⟨x,hx⟩:=gX ap;rw [drop_cons hx] at aD;have BB:=fA (mG hx);refine ⟨gm x,⟨by omega,aH hx⟩,?_⟩;refine cP BO (iC x.s (by omega)) ?_;refine br ?_ ?_<;>intro hN
   ·have hN:aX x.s=false:=sU hN;have:bp l=(9,x.a):=by simp [bp,fN,aD,badWd,hN]
    refine ⟨gm x,⟨by omega,aH hx⟩,_,?_,rfl⟩;rw [this];exact ax
   ·have hN:aX x.s=true:=sU hN;refine ⟨vq l (e + 1),(bc (c8 (aT ap (by omega)))),l.length - (e + 1),by omega,e + 1,rfl,by omega,?_,rfl⟩;rw [aD];simp [badWd,hN]
  ·have hge:e=l.length:=by simp [ak] at hL;omega
   have:bp l=(0,0):=by simp [bp,fN,aD,hge,badWd]
   refine ⟨_,?_,rfl⟩;rw [this];exact ax
def bR (l:List Wd) (s:ByteArray):Bool:=l.any fun w=>decide (w.s=s)
def aA (l:List Wd) (i:Nat) (x:Wd):Int:=
 if aX x.s then (if bR (l.take i) x.s then 10 else 0) else 9
abbrev rb (l:List Wd) (i e:Nat):St:=
 ⟨[aS 0 2 (bm l),aq 1 i,aq 5 e],[],[]⟩
theorem lC (l:List Wd) (i:Nat) (x:Wd) (hs:wdsWt l<=4611686018427387904) (hx:l[i]? = some x) :
  aV prog 195 [.sl 2 (bm l) none,.v (.int .i64 i)] (.v (.int .i64 (aA l i x))):=by
 have nV:=bd l;have hi:=(gS hx).1;have BB:=fA (mG hx);refine eG 29 [.tmp 4] func195 rfl ntmps195 rfl fun _ _ _ _=>?_;refine ⟨gm x,⟨by omega,aH hx⟩,?_⟩;refine cP BO (iC x.s (by omega)) ?_;refine br ?_ ?_<;>intro hN
 ·have hN:aX x.s=false:=sU hN;refine (qN ?_:);simp [aA,hN]
 ·have hN:aX x.s=true:=sU hN
  refine aW (fun j st=>∃ e:Nat,st=rb l i e/\e<=i/\bR (l.take e) x.s=false/\j=i - e) i
   (rb l i 0) (bc wB) ⟨0,rfl,by omega,rfl,by omega⟩ ?_
  rintro j st ⟨e,rfl,he,aD,rfl⟩;refine br ?_ ?_<;>intro hL
  ·have ap:e < i:=sU hL;obtain ⟨y,hy⟩:∃ y,l[e]? = some y:=⟨_,gE (by omega)⟩;refine dI ?_;refine ⟨gm y,⟨by omega,aH hy⟩,gm x,⟨by omega,aH hx⟩,?_⟩;refine br ?_ ?_<;>intro hE
   ·have hE:y.s=x.s:=sU hE;refine (qN ?_:)
    have:bR (l.take i) x.s=true:=by
     simp only [bR,List.any_eq_true];exact ⟨y,List.mem_take_iff_getElem.2 ⟨e,by omega,(gS hy).2⟩,by simpa using hE⟩
    simp [aA,hN,this]
   ·have hE:¬ y.s=x.s:=sU hE;refine ⟨rb l i (e + 1),(bc (c8 (aT ap (by omega)))),i - (e + 1),by omega,e + 1,rfl,by omega,?_,rfl⟩;rw [List.take_add_one,hy];simp only [bR,List.any_append] at aD ⊢;simp [aD,hE]
  ·have hge:e=i:=by have:=of_decide_eq_false hL;omega
   refine (qN ?_:);subst hge;simp [aA,hN,aD]
def pNames:Pts->List Wd
 | .nil=>[]
 | .cons p _ r=>p.name :: pNames r
theorem eD:∀ ps:Pts,(pNames ps).length=ps.len
 | .nil=>rfl
 | .cons p t r=>by simp [pNames,Pts.len,eD r]
theorem eE:∀ {ps:Pts} {j:Nat} {p:Ph} {t:Ty},ps.toList[j]? = some (p,t)->(pNames ps)[j]? = some p.name
 | .nil,j,p,t,h=>by simp [Pts.toList] at h
 | .cons q u r,0,p,t,h=>by grind [Pts.toList,pNames]
 | .cons q u r,j + 1,p,t,h=>by
  simp only [Pts.toList,List.getElem?_cons_succ] at h;simp only [pNames,List.getElem?_cons_succ];exact eE h
theorem oc:∀ ps:Pts,wdsWt (pNames ps)<=ps.wt
 | .nil=>zLeR _
 | .cons p t r=>by
  have:=oc r
  grind [pNames,wdsWt,Pts.wt,Ph.wt]
abbrev vt (ps:Pts) (l:List Wd) (n e:Nat):St:=
 ⟨[aS 0 18 (dY ps),(3,⟨[],.sl 2 (bm l) (some 0)⟩),aq 4 e],[],[⟨n,34,2,none⟩]⟩
theorem vu (ps:Pts) (hs:ps.wt<=1099511627776):aV prog 270 [.sl 18 (dY ps) none] (.sl 2 (bm (pNames ps)) none):=by
 have ml:=ps.dX;refine eG 20 [.tmp 2] func270 rfl ntmps270 rfl fun _ _ _ _=>?_
 refine aW (fun j st=>∃ (e:Nat),st=vt ps ((pNames ps).take e) e e/\e<=ps.len/\j=ps.len - e) ps.len
  (vt ps [] 0 0) (dG ⟨0,34,2,none⟩ rfl ⟨_,rfl⟩ rfl wA rfl rfl pE) ⟨0,by simp,by omega,by omega⟩ ?_
 rintro j st ⟨e,rfl,he,rfl⟩;refine br ?_ ?_<;>intro hL
 ·have ap:e < ps.len:=by simpa [aC] using hL
  obtain ⟨p,t,hx⟩:=Pts.dq ap;refine iX (bz hx) ?_;refine ⟨by simp [ak,eD];omega,⟨by simp [ak,eD,maxLen];omega,by simp [ak,eD];omega⟩,?_⟩;refine ⟨vt ps ((pNames ps).take (e + 1)) (e + 1) (e + 1),(bc (hY (aT ap (by omega)) (tO (eE hx)))),ps.len - (e + 1),by omega,e + 1,rfl,by omega,rfl⟩
 ·have hge:e=ps.len:=by simp [aC] at hL;omega
  rw [hge,List.take_of_length_le (by rw [eD];omega)];exact ⟨_,ax,rfl⟩
mutual
def Ty.cnt:Ty->Nat
 | .mk _ ps=>1 + ps.cnt
def Pts.cnt:Pts->Nat
 | .nil=>0
 | .cons p t r=>(if p.bare then 0 else t.cnt) + r.cnt
end
mutual
def Ty.deep:Ty->Nat
 | .mk _ ps=>ps.deep + 1
def Pts.deep:Pts->Nat
 | .nil=>0
 | .cons p t r=>max (if p.bare then 0 else t.deep) r.deep
end
mutual
theorem Ty.dr:∀ t:Ty,t.cnt<=t.wt
 | .mk h ps=>by have:=Pts.dr ps;simp only [Ty.cnt,Ty.wt,Hd.wt];omega
theorem Pts.dr:∀ ps:Pts,ps.cnt<=ps.wt
 | .nil=>zLeR _
 | .cons p t r=>by
  have:=Ty.dr t;have:=Pts.dr r;simp only [Pts.cnt,Pts.wt];split<;>omega
end
mutual
theorem Ty.kZ:∀ t:Ty,t.deep<=t.wt
 | .mk h ps=>by have:=Pts.kZ ps;simp only [Ty.deep,Ty.wt,Hd.wt];omega
theorem Pts.kZ:∀ ps:Pts,ps.deep<=ps.wt
 | .nil=>zLeR _
 | .cons p t r=>by
  have:=Ty.kZ t;have:=Pts.kZ r
  grind [Pts.deep,Pts.wt]
end
abbrev vv (t:Ty) (e n d:Nat):St:=
 ⟨[aF 1 0,aq 4 n,aq 5 d,aq 6 e],[cX t],[]⟩
theorem iD:∀ (k:Nat) (t:Ty),t.wt<=k->t.wt<=1099511627776 ->
  aV prog 39 [.agg (cX t)] (.bS [.v (.int .i64 t.cnt),.v (.int .i64 t.deep)])
 | 0,t,hn,_=>by have:=t.gv;omega
 | k + 1,.mk h ps,hn,bI=>by
  simp only [Ty.wt,Hd.wt] at hn bI;have ml:=ps.dX;have hc:=ps.dr;have hdp:=ps.kZ;refine eG 42 [.tmp 2,.tmp 3] func39 rfl ntmps39 rfl fun _ _ _ _=>?_
  refine aW (fun j st=>∃ (e n d:Nat),st=vv (.mk h ps) e n d/\e<=ps.len/\n + (ps.drop e).cnt=1 + ps.cnt/\max d (ps.drop e).deep=ps.deep/\j=ps.len - e) ps.len
   (vv (.mk h ps) 0 1 0) (bc wB) ⟨0,1,0,rfl,by omega,rfl,by simp [Pts.drop],by omega⟩ ?_
  rintro j st ⟨e,n,d,rfl,he,bi,NP,rfl⟩;refine br ?_ ?_<;>intro hL
  ·have ap:e < ps.len:=by simpa [aC] using hL
   obtain ⟨p,t,hx⟩:=Pts.dq ap;have C0:=Pts.eC (mG hx);rw [Pts.drop_cons hx] at bi NP;simp only [Pts.cnt,Pts.deep] at bi NP;have Uk:=t.dr;have hdt:=t.kZ;refine iX (bz hx) ?_;refine br ?_ ?_<;>intro hB
   ·rw [zIfP hB] at bi NP;exact rE ⟨_,by omega,e + 1,n,d,rfl,by omega,by omega,by omega,rfl⟩ (bc (c8 (aT ap (by omega))))
   ·rw [ah (by simp [hB])] at bi NP;obtain ⟨u,us⟩:=t;refine iX (bz hx) ?_;refine cP IG (iD k (.mk u us) (by omega) (by omega)) ?_;have tT:IntKind.i64.wrap ((n:Int) + (Ty.mk u us).cnt)=((n + (Ty.mk u us).cnt:Nat):Int):=by rw [wrap64 (by omega) (by omega)];omega
    refine br ?_ ?_<;>intro hD
    ·have hD:d < (Ty.mk u us).deep:=sU hD;exact ⟨vv (.mk h ps) (e + 1) (n + (Ty.mk u us).cnt) (Ty.mk u us).deep,(bc (hY tT (aT ap (by omega)))),ps.len - (e + 1),by omega,e + 1,_,_,rfl,by omega,by omega,by omega,rfl⟩
    ·have hD:¬ d < (Ty.mk u us).deep:=sU hD;exact ⟨vv (.mk h ps) (e + 1) (n + (Ty.mk u us).cnt) d,(bc (hY tT (aT ap (by omega)))),ps.len - (e + 1),by omega,e + 1,_,_,rfl,by omega,by omega,by omega,rfl⟩
  ·have hge:e=ps.len:=by simp [aC] at hL;omega
   rw [hge,Pts.cu] at bi NP;simp only [Pts.cnt,Pts.deep] at bi NP;have e1:IntKind.i64.wrap ((d:Int) + 1)=((Ty.mk h ps).deep:Int):=by rw [wrap64 (by omega) (by omega)];simp only [Ty.deep];omega
   have e2:(n:Int)=((Ty.mk h ps).cnt:Int):=by simp only [Ty.cnt];omega
   refine ⟨_,?_,rfl⟩;rw [<- e1,<- e2];exact ax
def wD (f:Ft) (n:Int):DV:=.agg [.v (.int .i64 f.1),.v (.int .i64 f.2),.v (.int .i64 n)]
theorem dm (f:Ft) (n e a:Int):aV prog 193 [wD f n,.v (.int .i64 e),.v (.int .i64 a)] (wD (e,a) n):=by
 refine eG 13 [.cell 6 179] func193 rfl ntmps193 rfl fun _ _ _ _=>?_;exact ⟨_,ax,rfl⟩
def aN (p:Ph):Ft:=
 if p.ck=0 then (if p.cn=0/\p.cl=[] then (0,0) else (19,p.name.a))
 else if p.ck < 0∨3 < p.ck then (14,p.ca)
 else if (p.ck=1/\p.cn < 1)∨(p.ck=2/\(p.cn < 0∨4096 < p.cn))∨(p.ck=3/\p.cn≠0) then (20,p.ca)
 else bp p.cl
theorem sP (p:Ph) (tl:List DV) (hs:p.wt<=4611686018427387904) :
  aV prog 272 [.agg (zL p tl)] (aN p).d:=by
 simp only [Ph.wt] at hs;refine eG 73 [.cell 2 26] func272 rfl ntmps272 rfl fun _ _ _ _=>?_;refine br ?_ ?_<;>intro h0
 ·have h0:p.ck=0:=sU h0;refine br ?_ ?_<;>intro h1
  ·have:aN p=(19,p.name.a):=by grind [aj,ak,aN]
   refine ⟨_,?_,rfl⟩;rw [this];exact ax
  ·have:aN p=(0,0):=by
    simp [aj,ak] at h1;simp [aN,h0,h1.1,h1.2]
   refine ⟨_,?_,rfl⟩;rw [this];exact ax
 ·have h0:¬ p.ck=0:=sU h0;refine br ?_ ?_<;>intro h1
  ·have:aN p=(14,p.ca):=by grind [aj,aN]
   refine ⟨_,?_,rfl⟩;rw [this];exact ax
  ·simp [aj] at h1;refine br ?_ ?_<;>intro h2
   ·have:aN p=(20,p.ca):=by grind [aj,av,aN]
    refine ⟨_,?_,rfl⟩;rw [this];exact ax
   ·have hc:aN p=bp p.cl:=by grind [aj,av,aN]
    refine cP FB (jM p.cl (by omega)) ?_;refine ⟨_,?_,rfl⟩;rw [hc];exact ax
def enumL (all:List Wd):Nat->List Wd->Ft
 | _,[]=>(0,0)
 | i,x :: r=>if aA all i x≠0 then (aA all i x,x.a) else enumL all (i + 1) r
def fD (h:Hd):Ft:=
 if h.af=[] then (15,h.cW)
 else if 64 < h.af.length then (8,((h.af[64]?).getD (⟨aJ,0⟩:Wd)).a)
 else enumL h.af 0 h.af
def cV (p:Ph):Ft:=
 if p.wide < 0∨64 < p.wide then (20,p.name.a)
 else if (bp p.label).1≠0 then bp p.label
 else aN p
def rc (t:Ty):Bool:=sameTy t (mask t)
mutual
def wrong:Ty->Int->Int->Ft × Int
 | .mk h ps,depth,m=>
  if 24 < depth then ((6,h.cW),m + 1)
  else if 512 < m + 1 then ((8,h.cW),m + 1)
  else if h.ai < 1∨9 < h.ai then ((14,h.cW),m + 1)
  else if rc (.mk h ps)=false then ((19,h.cW),m + 1)
  else if (h.ai=2/\h.hi < h.lo)∨(h.ai=3/\(h.most < 0∨4096 < h.most)) then ((20,h.cW),m + 1)
  else if h.ai=9/\aX h.name.s=false then ((9,h.name.a),m + 1)
  else if h.ai=4 then (fD h,m + 1)
  else if h.ai=5∨h.ai=6 then wrongOne h ps depth (m + 1)
  else if h.ai=7∨h.ai=8 then
   if h.ai=8/\ps.len=0 then ((15,h.cW),m + 1)
   else if 64 < ps.len then ((8,(((pNames ps)[64]?).getD (⟨aJ,0⟩:Wd)).a),m + 1)
   else wrongPts h.ai (pNames ps) 0 ps depth (m + 1)
  else ((0,0),m + 1)
def wrongOne:Hd->Pts->Int->Int->Ft × Int
 | h,.cons p t .nil,depth,m=>
  if p.name.s≠aJ∨bQ p dJ=false then ((19,h.cW),m)
  else if h.most < 0∨1024 < h.most then ((20,h.cW),m)
  else wrong t (depth + 1) m
 | h,_,_,m=>((19,h.cW),m)
def wrongPts (ai:Int) (all:List Wd):Nat->Pts->Int->Int->Ft × Int
 | _,.nil,_,m=>((0,0),m)
 | i,.cons p t r,depth,m=>
  if aA all i p.name≠0 then ((aA all i p.name,p.name.a),m)
  else if p.bare=true then
   if ai=7∨sameTy t bU=false∨bQ p gw=false then ((19,p.name.a),m) else wrongPts ai all (i + 1) r depth m
  else if (cV p).1≠0 then (cV p,m)
  else if (wrong t (depth + 1) m).1.1≠0 then wrong t (depth + 1) m
  else wrongPts ai all (i + 1) r depth (wrong t (depth + 1) m).2
end
def vw (k:Nat):Prop:=∀ (t:Ty) (depth m:Int),t.wt<=k->t.wt<=1099511627776->0<=depth->depth<=25->0<=m->m<=512 ->
 aV prog 106 [wD (0,0) m,.agg (cX t),.v (.int .i64 depth)] (wD (wrong t depth m).1 (wrong t depth m).2)
abbrev BU (t:Ty) (e:Nat) (depth m:Int):St:=
 ⟨[aq 2 depth,aF 3 0,aF 4 1,aF 6 2,aq 7 e],[[.v (.int .i64 0),.v (.int .i64 0),.v (.int .i64 m)],cX t,[.v (.int .i64 0),.v (.int .i64 0),.v (.int .i64 0)]],[]⟩
def dC (h:Hd) (ps:Pts) (depth m:Int):Ft × Int:=
 if h.ai=8/\ps.len=0 then ((15,h.cW),m)
 else if 64 < ps.len then ((8,(((pNames ps)[64]?).getD (⟨aJ,0⟩:Wd)).a),m)
 else wrongPts h.ai (pNames ps) 0 ps depth m
theorem xM (all:List Wd):∀ (l:List Wd) (i:Nat),(enumL all i l).1=0->enumL all i l=(0,0)
 | [],_,_=>rfl
 | x :: r,i,h=>by
  have ih:=xM all r (i + 1)
  grind [enumL]
theorem tU (h:Hd) (he:(fD h).1=0):fD h=(0,0):=by grind [fD,xM]
mutual
theorem mU:∀ (t:Ty) (depth m:Int),0<=m->(wrong t depth m).1.1=0->(wrong t depth m).1=(0,0)/\0<=(wrong t depth m).2/\(wrong t depth m).2<=512
 | .mk h ps,depth,m,hm,he=>by
  have i1:=xN h ps depth (m + 1) (by omega);have i2:=kr h.ai (pNames ps) ps 0 depth (m + 1) (by omega);have i3:=tU h;simp only [wrong] at he ⊢;by_cases c0:24 < depth
  ·rw [zIfP c0] at he;simp at he
  rw [ah c0] at he ⊢;by_cases c1:512 < m + 1
  ·rw [zIfP c1] at he;simp at he
  rw [ah c1] at he ⊢;by_cases c2:h.ai < 1∨9 < h.ai
  all_goals grind
theorem xN:∀ (h:Hd) (ps:Pts) (depth m:Int),0<=m->m<=512->(wrongOne h ps depth m).1.1=0->(wrongOne h ps depth m).1=(0,0)/\0<=(wrongOne h ps depth m).2/\(wrongOne h ps depth m).2<=512
 | h,.nil,depth,m,hm,_,he=>by simp [wrongOne] at he
 | h,.cons p t .nil,depth,m,hm,h5,he=>by
  have ih:=mU t (depth + 1) m hm
  grind [wrongOne]
 | h,.cons p t (.cons _ _ _),depth,m,hm,_,he=>by simp [wrongOne] at he
theorem kr (ai:Int) (all:List Wd):∀ (ps:Pts) (i:Nat) (depth m:Int),0<=m->m<=512->(wrongPts ai all i ps depth m).1.1=0->(wrongPts ai all i ps depth m).1=(0,0)/\0<=(wrongPts ai all i ps depth m).2/\(wrongPts ai all i ps depth m).2<=512
 | .nil,i,depth,m,hm,h5,he=>by simp only [wrongPts];exact ⟨trivial,hm,h5⟩
 | .cons p t r,i,depth,m,hm,h5,he=>by
  have i1:=mU t (depth + 1) m hm;simp only [wrongPts] at he ⊢;split at he
  ·rename_i h1;exact (h1 he).elim
  ·rename_i h1;rw [ah h1];split at he
   ·rename_i h2;rw [zIfP h2];split at he
    ·simp at he
    ·rename_i h3;rw [ah h3];exact kr ai all r (i + 1) depth m hm h5 he
   ·rename_i h2;rw [ah h2];split at he
    ·rename_i h3;exact (h3 he).elim
    ·rename_i h3;rw [ah h3];split at he
     ·rename_i h4;exact (h4 he).elim
     ·rename_i h4;rw [ah h4];have i2:=i1 (sU h4);exact kr ai all r (i + 1) depth _ i2.2.1 i2.2.2 he
end
theorem vx (k:Nat) (ih:vw k) (h:Hd) (ps:Pts) (depth m:Int) (hk:ps.wt<=k) (bI:(Ty.mk h ps).wt<=1099511627776) (tP:0<=depth) (ze:depth<=24) (mw:0<=m) (iw:m<=512) :
  aV prog 197 [wD (0,0) m,.agg (cX (.mk h ps)),.v (.int .i64 depth)] (wD (dC h ps depth m).1 (dC h ps depth m).2):=by
 simp only [Ty.wt,Hd.wt] at bI;have ml:=ps.dX;have Mp:=oc ps;refine eG 126 [.cell 6 179] func197 rfl ntmps197 rfl fun _ _ _ _=>?_;refine br ?_ ?_<;>intro c1
 ·refine cP eM (dm (0,0) m 15 h.cW) ?_;have:dC h ps depth m=((15,h.cW),m):=by grind [av,aC,dC]
  refine ⟨_,?_,rfl⟩;rw [this];exact ax
 ·have c1':¬ (h.ai=8/\ps.len=0):=by
   simp [av,aC] at c1;omega
  refine br ?_ ?_<;>intro c2
  ·have ap:64 < ps.len:=by simp [aC] at c2;omega
   obtain ⟨p,t,hx⟩:=Pts.dq ap;refine vj (fun i=>Nat.beq i 8) mo (by decide +kernel) ?_;refine iX (bz hx) ?_;refine cD eM (dm (0,0) m 8 p.name.a) ?_;have:dC h ps depth m=((8,p.name.a),m):=by grind [dC,eE]
   refine ⟨_,?_,rfl⟩;rw [this];exact ax
  ·have c2':¬ 64 < ps.len:=by simp [aC] at c2;omega
   have hF:dC h ps depth m=wrongPts h.ai (pNames ps) 0 ps depth m:=by simp only [dC,ah c1',ah c2']
   refine aW (fun j st=>∃ (e:Nat) (m':Int),st=BU (.mk h ps) e depth m' /\ e<=ps.len/\0<=m' /\ m' <= 512 /\
     wrongPts h.ai (pNames ps) 0 ps depth m=wrongPts h.ai (pNames ps) e (ps.drop e) depth m' /\ j=ps.len - e) ps.len
    (BU (.mk h ps) 0 depth m) (bc wB) ⟨0,m,rfl,by omega,mw,iw,rfl,by omega⟩ ?_
   rintro j st ⟨e,m',rfl,he,vy,xO,aD,rfl⟩;refine br ?_ ?_<;>intro hL
   ·have ap:e < ps.len:=by simpa [aC] using hL
    obtain ⟨p,t,hx⟩:=Pts.dq ap;rw [Pts.drop_cons hx] at aD;have C0:=Pts.eC (mG hx);obtain ⟨u,us⟩:=t;refine iX (bz hx) ?_;refine cP PI (vu ps (by omega)) ?_;refine cP Kr (lC (pNames ps) e p.name (by omega) (eE hx)) ?_;refine br ?_ ?_<;>intro hl
    ·have hl:aA (pNames ps) e p.name≠0:=sU hl;refine cP eM (dm (0,0) m' _ p.name.a) ?_;have:dC h ps depth m=((aA (pNames ps) e p.name,p.name.a),m'):=by grind [wrongPts]
     refine ⟨_,?_,rfl⟩;rw [this];exact ax
    ·have hl:aA (pNames ps) e p.name=0:=sU hl;simp only [wrongPts] at aD;rw [ah (by simp [hl])] at aD;refine br ?_ ?_<;>intro hB
     ·rw [zIfP hB] at aD;refine br ?_ ?_<;>intro k7
      ·have k7:¬ h.ai=7:=sU k7;refine cP PJ (xL (.mk u us) (by omega)) ?_;refine br ?_ ?_<;>intro z
       ·have z:sameTy (.mk u us) bU=true:=by simpa [aj,k7] using z
        refine cP FC (jL p gw (cX (.mk u us)) (cX bU) (by omega) (tS _ _ _ _ _) (tS _ _ _ _ _)) ?_;refine br ?_ ?_<;>intro q
        ·have q:bQ p gw=false:=by simpa [aj,k7,z] using q
         refine cP eM (dm (0,0) m' 19 p.name.a) ?_;rw [zIfP (by simp [q])] at aD;refine ⟨_,?_,rfl⟩;rw [hF,aD];exact ax
        ·have q:bQ p gw=true:=by simpa [aj,k7,z] using q
         rw [ah (by simp [k7,z,q])] at aD;exact rE ⟨_,by omega,e + 1,m',rfl,by omega,vy,xO,aD,rfl⟩ (bc (c8 (aT ap (by omega))))
       ·have z:sameTy (.mk u us) bU=false:=by simpa [aj,k7] using z
        refine cP eM (dm (0,0) m' 19 p.name.a) ?_;rw [zIfP (by simp [z])] at aD;refine ⟨_,?_,rfl⟩;rw [hF,aD];exact ax
      ·have k7:h.ai=7:=sU k7;refine cP eM (dm (0,0) m' 19 p.name.a) ?_;rw [zIfP (by simp [k7])] at aD;refine ⟨_,?_,rfl⟩;rw [hF,aD];exact ax
     ·rw [ah (by simp [hB])] at aD;refine br ?_ ?_<;>intro hw
      ·have hP:cV p=(20,p.name.a):=by grind [aj,cV]
       rw [zIfP (by rw [hP];simp),hP] at aD;refine ⟨_,?_,rfl⟩;rw [hF,aD];exact ax
      ·have hw:¬ (p.wide < 0∨64 < p.wide):=by simp [aj] at hw;omega
       have Wu:p.wt<=ps.wt:=by omega
       simp only [Ph.wt] at Wu;refine cP FB (jM p.label (by omega)) ?_;refine br ?_ ?_<;>intro hb
       ·have hb:(bp p.label).1=0:=sU hb;have hP:cV p=aN p:=by simp only [cV,ah hw,hb,ne_eq,not_true_eq_false,if_false]
        rw [hP] at aD;refine cP PK (sP p (cX (.mk u us)) (by omega)) ?_ (by repeat' (first | exact rfl | exact trivial | exact Or.inr (Or.inl ⟨_,rfl⟩) | exact Or.inr ⟨_,rfl⟩ | exact Or.inl ⟨rfl,rfl⟩ | exact Or.inl rfl | refine Or.inr ⟨_,_,rfl,Nat.zero_le _,rfl,?_⟩ | refine ⟨_,_,rfl,?_,?_⟩ | refine ⟨_,rfl,?_⟩ | exact congrArg DV.agg rfl| refine Or.inr (Or.inr (Or.inr ⟨_,_,rfl,?_⟩)) | exact Or.inl rfl | refine Or.inr ?_));refine br ?_ ?_<;>intro hc
        ·have hc:(aN p).1≠0:=sU hc;rw [zIfP hc] at aD;refine ⟨_,?_,rfl⟩;rw [hF,aD];exact ax
        ·have hc:(aN p).1=0:=sU hc;rw [ah (by simp [hc])] at aD;have zb:=ih (.mk u us) (depth + 1) m' (by omega) (by omega) (by omega) (by omega) vy xO;have ef:=mU (.mk u us) (depth + 1) m' vy;generalize wrong (.mk u us) (depth + 1) m'=r at zb ef aD;obtain ⟨⟨fe,fa⟩,many⟩:=r;simp only at zb ef aD;refine cP Fp zb ?_ (by repeat' (first | exact rfl | exact trivial | exact Or.inr (Or.inl ⟨_,rfl⟩) | exact Or.inr ⟨_,rfl⟩ | exact Or.inl ⟨rfl,rfl⟩ | exact Or.inl rfl | refine Or.inr ⟨_,_,rfl,Nat.zero_le _,rfl,?_⟩ | refine ⟨_,_,rfl,?_,?_⟩ | refine ⟨_,rfl,?_⟩ | exact congrArg (fun z=>DV.v (.int .i64 z)) (wrap64 (by omega) (by omega))| refine Or.inr (Or.inr (Or.inr ⟨_,_,rfl,?_⟩)) | exact Or.inl rfl | refine Or.inr ?_));refine br ?_ ?_<;>intro hd
         ·have hd:fe≠0:=sU hd;rw [zIfP hd] at aD;refine ⟨_,?_,rfl⟩;rw [hF,aD];exact ax
         ·have hd:fe=0:=sU hd;subst hd;obtain ⟨h1,h2,h3⟩:=ef rfl;simp only [Prod.mk.injEq,true_and] at h1;subst h1;rw [ah (by simp)] at aD;exact rE ⟨_,by omega,e + 1,many,rfl,by omega,h2,h3,aD,rfl⟩ (bc (c8 (aT ap (by omega))))
       ·have hb:¬ (bp p.label).1=0:=sU hb;have hP:cV p=bp p.label:=by simp only [cV,ah hw];rw [zIfP hb]
        rw [hP,zIfP hb] at aD;refine br ?_ ?_<;>intro hc
        ·refine ⟨_,?_,rfl⟩;rw [hF,aD];exact ax
        ·exact (hb (sU hc)).elim
   ·have hge:e=ps.len:=by simp [aC] at hL;omega
    rw [hge,Pts.cu] at aD;refine ⟨_,?_,rfl⟩;rw [hF,aD];simp only [wrongPts];exact ax
theorem bf (e a:Int):aV prog 237 [.v (.int .i64 e),.v (.int .i64 a)] (Ft.d (e,a)):=by
 refine eG 8 [.cell 4 26] func237 rfl ntmps237 rfl fun _ _ _ _=>?_;exact ⟨_,ax,rfl⟩
noncomputable def eV (L:List ByteArray) (x:ByteArray) (a:Int):Ft:=if aX x=true then (if L.Nodup then (0,0) else (10,a)) else (9,a)
theorem o9 (L:List ByteArray) (x:ByteArray) (a:Int) (hx:L[L.length - 1]? = some x) (hl:L.length<=1099511627776) (BB:x.size<=4611686018427387904) :
  aV prog 285 [.sl 1 (dB L) none,.v (.int .i64 a)] (eV L x a).d:=by
 have hN:=bP L;have mH:=(gS hx).1;have hz:IntKind.i64.wrap (((dB L).length:Int) - 1)=((L.length - 1:Nat):Int):=by rw [hN,wrap64 (by omega) (by omega)];omega
 refine eG 23 [.cell 4 26] func285 rfl ntmps285 rfl fun _ _ _ _=>?_;refine ⟨[.v (.string x)],⟨by rw [hz];omega,by rw [hz];exact eT hx⟩,?_⟩;refine cP CP (fC x BB) ?_;refine br ?_ ?_<;>intro h
 ·have h:aX x=false:=sU h;refine cP c9 (bf 9 a) ?_;refine ⟨_,?_,rfl⟩;rw [eV,ah (by rw [h];decide)];exact ax
 ·have h:aX x=true:=sU h;refine gq Fw rfl (lS L hl) ax (fun r hr=>?_);obtain ⟨z,rfl,hz⟩:=hr;refine br ?_ ?_<;>intro h2
  ·have h2:0<=z:=sU h2;refine cP c9 (bf 10 a) ?_;refine ⟨_,?_,rfl⟩;rw [eV,zIfP h,ah (hz.1 h2)];exact ax
  ·have h2:¬ 0<=z:=sU h2;refine ⟨_,?_,rfl⟩;rw [eV,zIfP h,zIfP (Classical.byContradiction fun hn=>h2 (hz.2 hn))];exact ax
theorem zR {l:List Wd} {e:Nat} {x:Wd} (h:l[e]? = some x):bm ((l.map fun w=>(⟨w.s,0⟩:Wd)).take e) ++ [[.v (.string x.s),.v (.int .i64 0)]]=bm ((l.map fun w=>(⟨w.s,0⟩:Wd)).take (e + 1)):=by
 have h2:(l.map fun w=>(⟨w.s,0⟩:Wd))[e]? = some ⟨x.s,0⟩:=by simp [h]
 exact tO h2
def fF (l:List Wd):List Wd:=l.map fun w=>⟨w.s,0⟩
abbrev F2 (l l':List Wd) (n e:Nat):St:=
 ⟨[aS 6 2 (bm l),aq 7 ((bm l).length),aq 8 e,(3,⟨[],.sl 2 (bm l') (some 0)⟩)],[],[⟨n,34,2,none⟩]⟩
theorem re (l:List Wd) (hs:wdsWt l<=1099511627776):aV prog 251 [.sl 2 (bm l) none] (.sl 2 (bm (fF l)) none):=by
 have hl:=bd l;refine eG 20 [.tmp 2] func251 rfl ntmps251 rfl fun _ _ _ _=>?_;refine aW (fun j st=>∃ e:Nat,st=F2 l ((fF l).take e) e e/\e<=l.length/\j=l.length - e) l.length (F2 l [] 0 0) (dG ⟨0,34,2,none⟩ rfl ⟨_,rfl⟩ rfl wA rfl rfl pE) ⟨0,by simp,by omega,by omega⟩ ?_;rintro j st ⟨e,rfl,he,rfl⟩;refine br ?_ ?_<;>intro h
 ·have ap:e < l.length:=by simpa [ak] using h
  obtain ⟨w,hw⟩:=gX ap;refine ⟨gm w,⟨by omega,aH hw⟩,?_⟩;refine ⟨by simp [ak,fF];omega,⟨by simp [ak,fF,maxLen];omega,by simp [ak,fF];omega⟩,?_⟩;refine ⟨F2 l ((fF l).take (e + 1)) (e + 1) (e + 1),(bc (hY (aT ap (by omega)) (zR hw))),l.length - (e + 1),by omega,e + 1,rfl,by omega,rfl⟩
 ·have hge:e=l.length:=by
   have:=h;simp [ak] at this;omega
  rw [hge,List.take_of_length_le (by simp [fF])];exact ⟨_,ax,rfl⟩
abbrev rf (l:List Wd) (e:Nat):St:=
 ⟨[aS 13 2 (bm l),aq 14 ((bm l).length),aF 2 0,aq 15 e],[[.v (.int .i64 0),.v (.int .i64 0)]],[]⟩
theorem fX (l:List Wd) (hs:wdsWt l<=1099511627776) :
  aV prog 327 [.sl 2 (bm l) none] (bp l).d:=by
 have nV:=bd l;refine eG 28 [.cell 2 26] func327 rfl ntmps327 rfl fun _ _ _ _=>?_;refine br ?_ ?_<;>intro h
 ·have ap:32 < l.length:=by simp [ak] at h;omega
  obtain ⟨x,hx⟩:=gX ap;have:bp l=(8,x.a):=by simp [bp,Nat.not_le.2 ap,hx]
  refine ⟨gm x,⟨by omega,aH hx⟩,?_⟩;refine cP c9 (bf 8 x.a) ?_;refine ⟨_,?_,rfl⟩;rw [this];exact ax
 ·have fN:l.length<=32:=by simp [ak] at h;omega
  refine aW (fun j st=>∃ e:Nat,st=rf l e/\e<=l.length/\badWd l=badWd (l.drop e)/\j=l.length - e) l.length
   (rf l 0) (bc wB) ⟨0,rfl,by omega,rfl,by omega⟩ ?_
  rintro j st ⟨e,rfl,he,aD,rfl⟩;refine br ?_ ?_<;>intro hL
  ·have ap:e < l.length:=by simpa [ak] using hL
   obtain ⟨x,hx⟩:=gX ap;rw [drop_cons hx] at aD;have BB:=fA (mG hx);refine ⟨gm x,⟨by omega,aH hx⟩,?_⟩;refine cP CP (fC x.s (by omega)) ?_;refine br ?_ ?_<;>intro hN
   ·have hN:aX x.s=false:=sU hN;have:bp l=(9,x.a):=by simp [bp,fN,aD,badWd,hN]
    refine cP c9 (bf 9 x.a) ?_;refine ⟨_,?_,rfl⟩;rw [this];exact ax
   ·have hN:aX x.s=true:=sU hN;refine ⟨rf l (e + 1),(bc (c8 (aT ap (by omega)))),l.length - (e + 1),by omega,e + 1,rfl,by omega,?_,rfl⟩;rw [aD];simp [badWd,hN]
  ·have hge:e=l.length:=by simp [ak] at hL;omega
   have:bp l=(0,0):=by simp [bp,fN,aD,hge,badWd]
   refine ⟨_,?_,rfl⟩;rw [this];exact ax
theorem vz (p:Ph) (tl:List DV) (t:Ty) (lr:tl=cX t) (hs:p.wt<=1099511627776) :
  aV prog 328 [.agg (zL p tl)] (aN p).d:=by
 subst lr;obtain ⟨u,us⟩:=t;simp only [Ph.wt] at hs;refine eG 55 [.cell 2 26] func328 rfl ntmps328 rfl fun _ _ _ _=>?_;refine br ?_ ?_<;>intro h0
 ·have h0:p.ck=0:=of_decide_eq_true h0;refine br ?_ ?_<;>intro h1
  ·have:aN p=(19,p.name.a):=by grind [aj,ak,aN]
   refine cP c9 (bf 19 p.name.a) ?_;refine ⟨_,?_,rfl⟩;rw [this];exact ax
  ·have gM:p.cl=[]:=by
    simp [aj,ak] at h1;exact h1.2
   have:aN p=(0,0):=by grind [aj,ak,aN]
   have h00:bp p.cl=(0,0):=by rw [gM];simp [bp,badWd]
   refine cP xD (fX p.cl (by omega)) ?_;refine ⟨_,?_,rfl⟩;rw [this,<- h00];exact ax
 have h0:¬ p.ck=0:=of_decide_eq_false h0;refine br ?_ ?_<;>intro h1
 ·have h1:p.ck=1:=of_decide_eq_true h1;refine br ?_ ?_<;>intro h2
  ·have:aN p=(20,p.ca):=by grind [av,aN]
   refine cP c9 (bf 20 p.ca) ?_;refine ⟨_,?_,rfl⟩;rw [this];exact ax
  ·have:aN p=bp p.cl:=by grind [av,aN]
   refine cP xD (fX p.cl (by omega)) ?_;refine ⟨_,?_,rfl⟩;rw [this];exact ax
 have h1:¬ p.ck=1:=of_decide_eq_false h1;refine br ?_ ?_<;>intro h3
 ·have h3:p.ck=2:=of_decide_eq_true h3;refine br ?_ ?_<;>intro h2
  ·have:aN p=(20,p.ca):=by grind [av,aN]
   refine cP c9 (bf 20 p.ca) ?_;refine ⟨_,?_,rfl⟩;rw [this];exact ax
  ·have:aN p=bp p.cl:=by grind [av,aN]
   refine cP xD (fX p.cl (by omega)) ?_;refine ⟨_,?_,rfl⟩;rw [this];exact ax
 have h3:¬ p.ck=2:=of_decide_eq_false h3;refine br ?_ ?_<;>intro h4
 ·have h4:p.ck=3:=of_decide_eq_true h4;refine br ?_ ?_<;>intro h2
  ·have:aN p=(20,p.ca):=by grind [av,aN]
   refine cP c9 (bf 20 p.ca) ?_;refine ⟨_,?_,rfl⟩;rw [this];exact ax
  ·have:aN p=bp p.cl:=by grind [av,aN]
   refine cP xD (fX p.cl (by omega)) ?_;refine ⟨_,?_,rfl⟩;rw [this];exact ax
 have h4:¬ p.ck=3:=of_decide_eq_false h4;have:aN p=(14,p.ca):=by grind [aN]
 refine cP c9 (bf 14 p.ca) ?_;refine ⟨_,?_,rfl⟩;rw [this];exact ax
theorem F3 (w:World) (x y:Operand) (vs vs':Array Value):(eqGuard .neq 34 x y (.agg vs) (.agg vs')).run prog w = .ok () w:=by
 have h:prog.eqGuardType prog.depth 34=false:=by kernel_rfl
 simp [eqGuard,run_program,h]
theorem Mq (a b:ByteArray) (p q:Int) (w:World):(binOp .neq 34 (.agg #[.string a,.int .i64 p]) (.agg #[.string b,.int .i64 q])).run prog w = .ok (.bool (!(decide (a=b) && decide (p=q)))) w:=by
 have hf:prog.underlying 34=some (.struct (prog.fieldsOf 34)):=by simp [Program.fieldsOf,Tryz.underlying34]
 have sM:(prog.fieldsOf 34).toList=[⟨ "Name",9,0,false, "", "",0⟩,⟨ "At",3,1,false, "", "",16⟩]:=by simp [Program.fieldsOf,Tryz.underlying34]
 have hs:prog.stoodInHeld 34=false:=by kernel_rfl
 have hm:∃ d,Op.maxDepth=d + 1 + 1:=⟨Op.maxDepth - 2,by decide⟩;obtain ⟨d,hm⟩:=hm
 have he:(Op.equal 34 (.agg #[.string a,.int .i64 p]) (.agg #[.string b,.int .i64 q])).run prog w = .ok (decide (a=b) && decide (p=q)) w:=by
  unfold Op.equal;rw [hm,run_equalIn_struct w (d + 1) 34 _ _ hf hs,sM]
  have e1:(a.toList == b.toList)=decide (a=b):=by
   rw [ByteArray.toList_eq,ByteArray.toList_eq];by_cases h:a=b
   ·subst h;simp
   ·have:¬ a.data=b.data:=fun e=>h (ByteArray.ext e);simp [h,this]
  have q9:∀ cs:Array Value,∀ off v,cs[off]? = some v->(part 9 cs off).run prog w = .ok v w:=fun cs off v h=>by
   simp [part,Tryz.isAgg9,h]
  have q3:∀ cs:Array Value,∀ off v,cs[off]? = some v->(part 3 cs off).run prog w = .ok v w:=fun cs off v h=>by
   simp [part,Tryz.isAgg3,h]
  simp only [Op.eqFields,ne_eq,String.reduceEq,not_false_eq_true,if_true,Sem.run_bind,q9 #[.string a,.int .i64 p] 0 (.string a) rfl,q9 #[.string b,.int .i64 q] 0 (.string b) rfl,Result.andThen_ok,run_equalIn_string w d 9 a b Tryz.underlying9,e1];by_cases h:a=b
  ·simp only [h,decide_true,Bool.not_true,Bool.false_eq_true,if_false,Sem.run_bind,q3 #[.string b,.int .i64 p] 1 (.int .i64 p) rfl,q3 #[.string b,.int .i64 q] 1 (.int .i64 q) rfl,Result.andThen_ok,run_equalIn_int w d 3 .i64 .i64 p q Tryz.underlying3];by_cases h2:p=q<;>simp [h2,Sem.run_pure]
  ·simp [h,Sem.run_pure]
 show ((do let r <- Op.equal 34 _ _;pure (Value.bool !r)):Sem Value).run prog w=_;simp only [Sem.run_bind,he,Result.andThen_ok,Sem.run_pure]
theorem IV (x y:Operand) (a b:Wd):u1 prog .neq x y 34 (gm a) (gm b) (!(decide (a.s=b.s) && decide (a.a=b.a))):=
 ⟨[.string a.s,.int .i64 a.a],[.string b.s,.int .i64 b.a],rfl,rfl,fun w=>⟨F3 w x y _ _,Mq a.s b.s a.a b.a w⟩⟩
def eqWds:List Wd->List Wd->Bool
 | [],[]=>true
 | x :: r,y :: s=>(decide (x.s=y.s) && decide (x.a=y.a)) && eqWds r s
 | _,_=>false
theorem tV:∀ {a b:List Wd},a.length≠b.length->eqWds a b=false
 | [],[],h=>(h rfl).elim
 | [],_ :: _,_=>rfl
 | _ :: _,[],_=>rfl
 | x :: r,y :: s,h=>by
  simp only [eqWds];rw [tV (a:=r) (b:=s) (sU h),Bool.and_false]
theorem pa:∀ a b:List Wd,eqWds (fF a) (fF b)=sameWds a b
 | [],[]=>rfl
 | [],_ :: _=>rfl
 | _ :: _,[]=>rfl
 | x :: r,y :: s=>by
  have:=pa r s
  grind [fF,eqWds,sameWds]
abbrev F4 (a b:List Wd) (e:Nat):St:=
 ⟨[aS 0 2 (bm a),aS 1 2 (bm b),aq 12 ((bm a).length),aq 13 e],[],[]⟩
theorem xP (a b:List Wd) (hs:a.length<=1099511627776) :
  aV prog 89 [.sl 2 (bm a) none,.sl 2 (bm b) none] (.v (.bool (eqWds a b))):=by
 refine eG 26 [.tmp 4] func89 rfl ntmps89 rfl fun _ _ _ _=>?_;refine br ?_ ?_<;>intro h
 ·have bi:a.length≠b.length:=by have:=h;simp [ak] at this;omega
  exact congrArg (fun b=>DV.v (.bool b)) (tV bi).symm
 ·have hl:a.length=b.length:=by have:=h;simp [ak] at this;omega
  refine aW (fun j st=>∃ e:Nat,st=F4 a b e/\e<=a.length/\eqWds a b=eqWds (a.drop e) (b.drop e)/\j=a.length - e) a.length
   (F4 a b 0) (bc wB) ⟨0,rfl,by omega,rfl,by omega⟩ ?_
  rintro j st ⟨e,rfl,he,aD,rfl⟩;refine br ?_ ?_<;>intro h
  ·have ap:e < a.length:=by simpa [ak] using h
   obtain ⟨x,hx⟩:=gX ap;obtain ⟨y,hy⟩:∃ y,b[e]? = some y:=⟨_,gE (hl ▸ ap)⟩;rw [drop_cons hx,drop_cons hy] at aD;refine dI ?_;refine ⟨gm x,⟨by omega,aH hx⟩,gm y,⟨by omega,aH hy⟩,_,IV _ _ x y,?_⟩;refine br ?_ ?_<;>intro h
   ·have bi:(decide (x.s=y.s) && decide (x.a=y.a))=false:=by grind
    refine (cj ?_:);rw [aD];simp only [eqWds,bi,Bool.false_and]
   ·have bi:(decide (x.s=y.s) && decide (x.a=y.a))=true:=by grind
    refine ⟨F4 a b (e + 1),(bc (c8 (aT ap (by omega)))),a.length - (e + 1),by omega,e + 1,rfl,by omega,?_,rfl⟩;rw [aD];simp only [eqWds,bi,Bool.true_and]
  ·have hge:e=a.length:=by have:=h;simp [ak] at this;omega
   refine (cj ?_:);rw [aD,hge,hl];simp [eqWds];rw [<- hl];simp [eqWds]
theorem eW (a b:List Wd) (ha:wdsWt a<=1099511627776) (hb:wdsWt b<=1099511627776) :
  aV prog 170 [.sl 2 (bm a) none,.sl 2 (bm b) none] (.v (.bool (sameWds a b))):=by
 have hl:=bd a;refine eG 10 [.tmp 4] func170 rfl ntmps170 rfl fun _ _ _ _=>?_;refine cP KD (re a ha) ?_;refine cP KD (re b hb) ?_;refine cP TZ (xP (fF a) (fF b) (by simp [fF];omega)) ?_;refine (cj ?_:);exact pa a b
def eqPts (F:Ph->Ty->Ph->Ty->Bool):Pts->Pts->Bool
 | .nil,.nil=>true
 | .cons p t r,.cons q u s=>F p t q u && eqPts F r s
 | _,_=>false
theorem tW {F:Ph->Ty->Ph->Ty->Bool}:∀ {a b:Pts},a.len≠b.len->eqPts F a b=false
 | .nil,.nil,h=>(h rfl).elim
 | .cons p t r,.cons q u s,h=>by
  simp only [eqPts];rw [tW (a:=r) (b:=s) (by simpa [Pts.len] using h),Bool.and_false]
 | .nil,.cons _ _ _,_=>rfl
 | .cons _ _ _,.nil,_=>rfl
def cq (p:Ph) (t:Ty) (q:Ph) (u:Ty):Bool:=decide (p.name.s=q.name.s) && bQ p q && sameTy t u
theorem ri:∀ a b:Pts,eqPts cq a b=samePts a b
 | .nil,.nil=>by simp [eqPts,samePts]
 | .cons p t r,.cons q u s=>by simp only [eqPts,samePts,cq,ri r s]
 | .nil,.cons _ _ _=>by simp [eqPts,samePts]
 | .cons _ _ _,.nil=>by simp [eqPts,samePts]
abbrev F5 (a b:Pts) (g e:Nat):St:=
 ⟨[aS 1 18 (dY b),(2,⟨[],.fn g [] []⟩),aS 15 18 (dY a),aq 16 ((dY a).length),aq 17 e],[],[]⟩
theorem xQ (g:Nat) (iW:Enters prog g) (F:Ph->Ty->Ph->Ty->Bool) (a b:Pts) (hs:a.wt<=1099511627776)
  (hF:∀ (e:Nat) p t q u,a.toList[e]? = some (p,t)->b.toList[e]? = some (q,u)->aV prog g [.agg (zL p (cX t)),.agg (zL q (cX u))] (.v (.bool (F p t q u)))) :
  aV prog 171 [.sl 18 (dY a) none,.sl 18 (dY b) none,.fn g [] []] (.v (.bool (eqPts F a b))):=by
 have LJ:=a.dX;refine eG 32 [.tmp 6] func171 rfl ntmps171 rfl fun _ _ _ _=>?_;refine br ?_ ?_<;>intro h
 ·have bi:a.len≠b.len:=by have:=h;simp [aC] at this;omega
  exact congrArg (fun b=>DV.v (.bool b)) (tW bi).symm
 ·have hl:a.len=b.len:=by have:=h;simp [aC] at this;omega
  refine aW (fun j st=>∃ e:Nat,st=F5 a b g e/\e<=a.len/\eqPts F a b=eqPts F (a.drop e) (b.drop e)/\j=a.len - e) a.len
   (F5 a b g 0) (bc wB) ⟨0,rfl,by omega,rfl,by omega⟩ ?_
  rintro j st ⟨e,rfl,he,aD,rfl⟩;refine br ?_ ?_<;>intro h
  ·have ap:e < a.len:=by simpa [aC] using h
   obtain ⟨p,t,hx⟩:=Pts.dq ap;obtain ⟨q,u,hy⟩:=Pts.dq (hl ▸ ap);rw [Pts.drop_cons hx,Pts.drop_cons hy] at aD;have LM:=hF e p t q u hx hy;obtain ⟨t,ts⟩:=t;obtain ⟨u,us⟩:=u;refine iX (bz hx) ?_;refine iX (bz hy) ?_;refine cP iW LM ?_;refine br ?_ ?_<;>intro h
   ·have bi:F p (.mk t ts) q (.mk u us)=false:=sU h;refine (cj ?_:);rw [aD];simp only [eqPts,bi,Bool.false_and]
   ·have bi:F p (.mk t ts) q (.mk u us)=true:=sU h;refine ⟨F5 a b g (e + 1),(bc (c8 (aT ap (by omega)))),a.len - (e + 1),by omega,e + 1,rfl,by omega,?_,rfl⟩;rw [aD];simp only [eqPts,bi,Bool.true_and]
  ·have hge:e=a.len:=by have:=h;simp [aC] at this;omega
   refine (cj ?_:);rw [aD,hge,Pts.cu,hl,Pts.cu];simp [eqPts]
theorem ku (p q:Ph) (t u:Ty) (hp:p.wt<=1099511627776) (hq:q.wt<=1099511627776)
  (ht:aV prog 91 [.agg (cX t),.agg (cX u)] (.v (.bool (sameTy t u)))) :
  aV prog 172 [.agg (zL p (cX t)),.agg (zL q (cX u))] (.v (.bool (cq p t q u))):=by
 simp only [Ph.wt] at hp hq;obtain ⟨th,Ul⟩:=t;obtain ⟨uh,Wv⟩:=u;refine eG 71 [.tmp 4] func172 rfl ntmps172 rfl fun _ _ _ _=>?_
 have e0:cq p (.mk th Ul) q (.mk uh Wv)=(((decide (p.name.s=q.name.s) && (p.bare == q.bare)) && decide (p.wide=q.wide)) && sameWds p.label q.label && ((decide (p.ck=q.ck) && decide (p.cn=q.cn)) && sameWds p.cl q.cl) && sameTy (.mk th Ul) (.mk uh Wv)):=by
  simp only [cq,bQ,Bool.and_assoc]
 rw [e0];refine br ?_ ?_<;>intro hA
 ·simp only [av] at hA;refine cP BN (eW p.label q.label (by omega) (by omega)) ?_;refine br ?_ ?_<;>intro hB
  ·simp only [av] at hB;refine cP BN (eW p.cl q.cl (by omega) (by omega)) ?_;refine br ?_ ?_<;>intro hC
   ·refine cP T0 ht ?_;refine (cj ?_:);simp only [av,Bool.true_and,Bool.and_true] at hC ⊢
    simp_all
   ·refine (cj ?_:);simp only [av,Bool.true_and,Bool.and_true] at hC ⊢
    simp_all
  ·simp only [av] at hB;refine br ?_ ?_<;>intro hC
   ·exfalso;simp [av] at hC
   ·refine (cj ?_:)
    simp_all
 ·simp only [av,beq_true] at hA;refine br ?_ ?_<;>intro hB
  ·refine cP BN (eW p.cl q.cl (by omega) (by omega)) ?_;refine (cj ?_:);rw [hA];rfl
  ·refine (cj ?_:);rw [hA];rfl
theorem tX:∀ (n:Nat) (a b:Ty),a.wt<=n->a.wt<=1099511627776->b.wt<=1099511627776 ->
  aV prog 91 [.agg (cX a),.agg (cX b)] (.v (.bool (sameTy a b)))
 | 0,a,b,hn,_,_=>by have:=a.gv;omega
 | n + 1,.mk h ps,.mk k qs,hn,bI,Qf=>by
  have ih:=tX n;simp only [Ty.wt,Hd.wt] at hn bI Qf
  have hE:aV prog 171 [.sl 18 (dY ps) none,.sl 18 (dY qs) none,.fn 172 [] []] (.v (.bool (samePts ps qs))):=by
   rw [<- ri];refine xQ 172 FA cq ps qs (by omega) fun e p t q u hx hy=>?_;have zS:=Pts.eC (mG hx);have zp:=Pts.eC (mG hy);exact ku p q t u (by omega) (by omega) (ih t u (by omega) (by omega) (by omega))
  refine eG 53 [.tmp 4] func91 rfl ntmps91 rfl fun _ _ _ _=>?_;refine br ?_ ?_<;>intro hA
  ·simp [aj] at hA;obtain ⟨⟨⟨⟨e1,e2⟩,e3⟩,e4⟩,e5⟩:=hA;refine cP BN (eW h.af k.af (by omega) (by omega)) ?_;refine br ?_ ?_<;>intro hB
   ·refine (cj ?_:);simp [aj,e1,e2,e3,e4,e5] at hB;simp [sameTy,iL,hB]
   ·simp [aj,e1,e2,e3,e4,e5] at hB;refine cP Pm hE ?_;refine (cj ?_:);simp [sameTy,iL,e1,e2,e3,e4,e5,hB]
  ·refine (cj ?_:);simp [aj] at hA;simp only [sameTy,iL]
   grind
theorem rj (a b:Ty) (ha:a.wt<=1099511627776) (hb:b.wt<=1099511627776):aV prog 91 [.agg (cX a),.agg (cX b)] (.v (.bool (sameTy a b))):=tX _ a b (zLeR _) ha hb
def rk (h:Hd) (ps:Pts):Bool:=
 (((((decide (h.ai=2) || (decide (h.lo=0) && decide (h.hi=0))) && ((decide (h.ai=3) || decide (h.ai=5)) || decide (h.most=0))) && (decide (ps.len=0) || (decide (5<=h.ai) && decide (h.ai<=8)))) &&
  (decide (h.af.length=0) || decide (h.ai=4))) && (decide (h.name.s=aJ) || decide (h.ai=9)))
theorem C3 (h:Hd) (ps:Pts):aV prog 238 [.agg (cX (.mk h ps))] (.v (.bool (rk h ps))):=by
 have l1:(((dY ps).length:Int)=0)=(ps.len=0):=by rw [aC];exact propext (by omega)
 have l2:(((bm h.af).length:Int)=0)=(h.af.length=0):=by rw [ak];exact propext (by omega)
 have he:(⟨#[]⟩:ByteArray)=aJ:=rfl;refine eG 67 [.tmp 2] func238 rfl ntmps238 rfl fun _ _ _ _=>?_;refine br ?_ ?_<;>intro k2
 ·have k2:h.ai=2:=of_decide_eq_true k2;refine (cj ?_:);rw [Bool.eq_iff_iff];simp [av,aj,rk,aC,ak,k2,he]
 have k2:¬ h.ai=2:=of_decide_eq_false k2;refine br ?_ ?_<;>intro k3
 ·have k3:h.ai=3:=of_decide_eq_true k3;refine br (fun _=>?_) (fun hf=>?_)
  ·refine (cj ?_:);rw [Bool.eq_iff_iff];simp [av,aj,rk,aC,ak,k3,he]
  ·exact absurd k3 (of_decide_eq_false hf)
 have k3:¬ h.ai=3:=of_decide_eq_false k3;refine br ?_ ?_<;>intro k5
 ·have k5:h.ai=5:=of_decide_eq_true k5;refine (cj ?_:);rw [Bool.eq_iff_iff];simp [av,aj,rk,aC,ak,k5,he]
 have k5:¬ h.ai=5:=of_decide_eq_false k5;refine (cj ?_:);rw [Bool.eq_iff_iff];simp [av,aj,rk,aC,ak,k2,k3,k5,he]
theorem vA:∀ ps:Pts,samePts ps ps=true:=by
 have wr:∀ l:List Wd,sameWds l l=true:=by
  intro l
  induction l with
  | nil=>rfl
  | cons x r ih=>simp [sameWds,ih]
 have key:∀ n,(∀ t:Ty,t.wt<=n->sameTy t t=true)/\(∀ ps:Pts,ps.wt<=n->samePts ps ps=true):=by
  intro n
  induction n using Nat.strongRecOn with
  | _ n ih=>
   have hp:∀ ps:Pts,ps.wt<=n->(∀ t:Ty,t.wt + 256<=n->sameTy t t=true)->samePts ps ps=true:=by
    intro ps
    induction ps using Pts.rec (motive_1:=fun _=>True) with
    | mk=>trivial
    | nil=>intros;simp [samePts]
    | cons p t r _ ihr=>
     intro hw ht;simp only [Pts.wt,Ph.wt] at hw;simp only [samePts];rw [ht t (by omega),ihr (by omega) ht];simp [bQ,wr]
   refine ⟨fun t ht=>?_,fun ps Sw=>?_⟩
   ·obtain ⟨h,ps⟩:=t;simp only [Ty.wt,Hd.wt] at ht;simp only [sameTy,iL]
    grind
   all_goals grind
 exact fun ps=>(key ps.wt).2 ps (zLeR _)
theorem BV (h:Hd) (ps:Pts):rk h ps=sameTy (.mk h ps) (mask (.mk h ps)):=by
 have wr:∀ l:List Wd,sameWds l l=true:=by
  intro l
  induction l with
  | nil=>rfl
  | cons x r ih=>simp [sameWds,ih]
 have wn:∀ l:List Wd,sameWds l []=decide (l.length=0):=by
  intro l;cases l<;>simp [sameWds]
 have pn:∀ l:Pts,samePts l .nil=decide (l.len=0):=by
  intro l;cases l<;>simp [samePts,Pts.len]
 have pr:=vA ps;simp only [mask,sameTy,iL,gx];have e5:samePts ps (if 4 < h.ai/\h.ai < 9 then ps else .nil)=(decide (ps.len=0) || (decide (5<=h.ai) && decide (h.ai<=8))):=by grind
 have e6:sameWds h.af (if h.ai=4 then h.af else [])=(decide (h.af.length=0) || decide (h.ai=4)):=by grind
 grind [rk]
theorem xR (p:Ph) (t:Ty) (hp:p.wt<=1099511627776):aV prog 286 [.agg (zL p (cX t))] (.v (.bool (cq p bU dJ bU))):=by
 obtain ⟨th,Ul⟩:=t;refine eG 8 [.tmp 2] func286 rfl ntmps286 rfl fun _ _ _ _=>?_;refine cP FA (ku p dJ bU bU hp (by decide) (rj bU bU (by decide) (by decide))) ?_;exact (rfl:_=_)
def al (l:List Wd):List ByteArray:=l.map fun w=>w.s
noncomputable def enumP (l:List Wd):Nat->Ft
 | 0=>(0,0)
 | e + 1=>
  if (enumP l e).1≠0 then enumP l e
  else match l[e]? with
   | some w=>eV (al (l.take (e + 1))) w.s w.a
   | none=>(0,0)
theorem lT {l:List Wd} {e:Nat} (h:(enumP l e).1≠0):∀ d,enumP l (e + d)=enumP l e
 | 0=>rfl
 | d + 1=>by
  have ih:=lT h d;rw [<- Nat.add_assoc,enumP,ih,zIfP h]
theorem vB {L:List ByteArray} {x:ByteArray} {a:Int} (h:(eV L x a).1=0):eV L x a=(0,0):=by
 unfold eV at *
 grind
theorem zT {l:List Wd}:∀ {e:Nat},(enumP l e).1=0->enumP l e=(0,0)
 | 0,_=>rfl
 | e + 1,h=>by
  rw [enumP] at h ⊢
  grind [vB]
theorem rm {l:List Wd} {e:Nat} {w:Wd} (h:(enumP l e).1=0) (hw:l[e]? = some w):enumP l (e + 1)=eV (al (l.take (e + 1))) w.s w.a:=by
 rw [enumP,ah (by rw [h];simp),hw]
noncomputable def kv (h:Hd):Ft:=
 if h.af.length=0 then (15,h.cW) else if 64 < h.af.length then (8,((h.af[64]?).getD (⟨aJ,0⟩:Wd)).a) else enumP h.af h.af.length
abbrev F6 (h:Hd) (ps:Pts) (n e:Nat):St:=
 ⟨[aF 1 0,aF 2 1,aS 27 2 (bm h.af),aq 28 ((bm h.af).length),aq 29 e,(3,⟨[],.sl 1 (dB (al (h.af.take e))) (some 0)⟩)],
  [cX (.mk h ps),[.v (.int .i64 0),.v (.int .i64 0)]],[⟨n,9,1,none⟩]⟩
theorem gP {l:List Wd} {e:Nat} {w:Wd} (h:l[e]? = some w):dB (al (l.take e)) ++ [[DV.v (.string w.s)]]=dB (al (l.take (e + 1))):=by
 rw [List.take_add_one,h];simp [dB,al]
theorem zU (h:Hd) (ps:Pts) (hs:wdsWt h.af<=1099511627776):aV prog 239 [.agg (cX (.mk h ps))] (kv h).d:=by
 have hl:=bd h.af;refine eG 48 [.cell 2 26] func239 rfl ntmps239 rfl fun _ _ _ _=>?_;refine br ?_ ?_<;>intro h0
 ·have h0:h.af.length=0:=by have:=h0;simp [ak] at this;simp [this]
  refine cP c9 (bf 15 h.cW) ?_;refine ⟨_,?_,rfl⟩;rw [kv,zIfP h0];exact ax
 have h0:¬ h.af.length=0:=by have:=h0;simp [ak] at this;simpa using this
 refine br ?_ ?_<;>intro h1
 ·have h1:64 < h.af.length:=by have:=h1;simp [ak] at this;omega
  obtain ⟨x,hx⟩:∃ x,h.af[64]? = some x:=⟨_,gE h1⟩;refine ⟨gm x,⟨by omega,aH hx⟩,?_⟩;refine cP c9 (bf 8 x.a) ?_;refine ⟨_,?_,rfl⟩;rw [kv,ah h0,zIfP h1,hx];exact ax
 have h1:¬ 64 < h.af.length:=by have:=h1;simp [ak] at this;omega
 have hk:kv h=enumP h.af h.af.length:=by rw [kv,ah h0,ah h1]
 rw [hk];refine lI (fun j st=>∃ e:Nat,st=F6 h ps e e/\e<=h.af.length/\(enumP h.af e).1=0/\j=h.af.length - e) ⟨0,rfl,by omega,rfl,rfl⟩ (dG ⟨0,9,1,none⟩ rfl ⟨_,rfl⟩ rfl wA rfl rfl pE) ?_;rintro j st ⟨e,rfl,he,hz,rfl⟩;refine br ?_ ?_<;>intro hL
 ·have ap:e < h.af.length:=by simpa [ak] using hL
  obtain ⟨w,hw⟩:=gX ap;have KN:=fA (mG hw);have xS:=rm hz hw;have F7:(al (h.af.take (e + 1)))[(al (h.af.take (e + 1))).length - 1]? = some w.s:=by grind [al]
  refine ⟨gm w,⟨by omega,aH hw⟩,?_⟩;refine ⟨by simp [bP,al];omega,⟨by simp [bP,al,maxLen];omega,by simp [bP,al];omega⟩,?_⟩;have k0:=gP hw;have LF:=o9 (al (h.af.take (e + 1))) w.s w.a F7 (by simp [al];omega) (by omega);rw [<- k0,<- xS] at LF;refine cP KG LF ?_;refine br ?_ ?_<;>intro hf
  ·have hf:(enumP h.af (e + 1)).1≠0:=sU hf;refine ⟨_,?_,rfl⟩;have hst:=lT hf (h.af.length - (e + 1));rw [show e + 1 + (h.af.length - (e + 1))=h.af.length by omega] at hst;rw [hst];exact ax
  ·have hf:(enumP h.af (e + 1)).1=0:=sU hf;refine ⟨F6 h ps (e + 1) (e + 1),(bc (hY (aT ap (by omega)) k0)),h.af.length - (e + 1),by omega,e + 1,rfl,by omega,hf,rfl⟩
 ·have hge:e=h.af.length:=by
   have:=hL;simp [ak] at this;omega
  subst hge;have hst:=zT hz;refine ⟨_,?_,rfl⟩;rw [hst];exact ax
def Qg (t:Ty) (depth m:Int) (r:DV) (os:List (List DV)) (_:List TkE):Prop:=
 r=(wrong t depth m).1.d/\∃ z:Int,os=[[.v (.int .i64 z)]]/\((wrong t depth m).1.1=0->z=(wrong t depth m).2)
theorem Mr {t:Ty} {depth m:Int}:∀ r os tk,Qg t depth m r os tk->clB 0 0 r=true/\∀ oa∈os,clB.clL 0 0 oa=true:=by
 rintro r os tk ⟨rfl,z,rfl,_⟩;refine ⟨rfl,fun oa h=>?_⟩;simp only [List.mem_singleton] at h;subst h;rfl
theorem C7 (t:Ty) (hc:Ev prog 156 [.loc 0 0,.agg (cX t),.v (.int .i64 1)] [[.v (.int .i64 0)]] [] (Qg t 1 0)) :
  aV prog 84 [.agg (cX t)] (wrong t 1 0).1.d:=by
 obtain ⟨h,ps⟩:=t;refine eG 9 [.cell 2 26] func84 rfl ntmps84 rfl fun _ _ _ _=>?_;refine jI Fy rfl rfl ax ax hc Mr (fun r oa hr=>?_);obtain ⟨rfl,z,hz,_⟩:=hr;simp only [List.cons.injEq,and_true] at hz;subst hz;exact ⟨_,ax,rfl⟩
theorem wr (z:Int) (h1 : -9223372036854775808<=z) (h2:z<=9223372036854775807):IntKind.i64.wrap z=z:=by
 rw [IntKind.wrap_i64];omega
def tx (s:ByteArray):List UInt8:=s.data.toList
theorem Ms (s:ByteArray):(tx s).length=s.size:=by simp [tx]
def NQ (z:Int):Prop:=-9223372036854775808<=z/\z<=9223372036854775807
end Go.Proofs.YtfdedoiiahbnnaaGreat
set_option maxRecDepth 100000
namespace Go.Proofs
open Go.Shelf
end Go.Proofs
namespace Go.Proofs.YtfdedoiiahbnnaaGreat
open Go Go.RowKit Dv Go.Proofs.Tryz
theorem C8 {P:Program} {f:FuncId} {args:List DV} {d:DV}
  (h:∀ (E:En) (w:World) (vs:List Value),Env E [] w->RvL E args vs->Calls P f vs.toArray w fun e w'=>∃ v,e = .returned v/\Rv E d v/\Below w.heap.size w w'):aV P f args d:=by
 intro E w vs hE nH hv;refine (h E w vs hE hv).mono ?_;rintro e w' ⟨v,rfl,hr,hb⟩;exact ⟨v,rfl,⟨hb.os,hb.tape,hb.output,hb.size,fun k hk _=>hb.block k hk⟩,fun hf=>(by cases hf),d,[],E,hE.fx hb.block,rfl,rfl,Nw.refl hE,hr,rfl⟩
end Go.Proofs.YtfdedoiiahbnnaaGreat
set_option maxRecDepth 100000
namespace Go.Proofs.YtfdedoiiahbnnaaGreat
open Go Go.RowKit Dv Go.Proofs.Tryz
mutual
def rngT:Ty->Prop
 | .mk h ps=>NQ h.lo/\NQ h.hi/\NQ h.most/\rngP ps
def rngP:Pts->Prop
 | .nil=>True
 | .cons p t r=>NQ p.wide/\NQ p.cn/\rngT t/\rngP r
end
end Go.Proofs.YtfdedoiiahbnnaaGreat
namespace Go.Proofs.YtfdedoiiahbnnaaGreat
namespace Dv
open Go Go.RowKit
def TypFs (f:TypeId->List DV->Prop):List TypeId->List DV->Prop
 | [],ds=>ds=[]
 | t :: r,ds=>∃ a b,ds=a ++ b/\f t a/\TypFs f r b
def Typ (P:Program):Nat->TypeId->List DV->Prop
 | 0,_,_=>False
 | n + 1,t,ds=>
  match P.underlying t with
  | some .bool=>∃ b,ds=[.v (.bool b)]
  | some (.int k)=>∃ z,ds=[.v (.int k z)]/\(Lit.int k z).wf=true
  | some .string=>∃ s:ByteArray,ds=[.v (.string s)]
  | some (.slice e)=>∃ es,ds=[.sl (P.cellsOf e) es none]/\∀ cs∈es,Typ P n e cs
  | some (.struct fs)=>TypFs (Typ P n) (fs.toList.map (·.type)) ds
  | _=>False
mutual
def wgD:DV->Nat
 | .v (.string s)=>s.size + 64
 | .sl _ es _=>64 + wgEs es
 | _=>64
def wgL:List DV->Nat
 | []=>0
 | d :: r=>wgD d + wgL r
def wgEs:List (List DV)->Nat
 | []=>0
 | cs :: r=>wgL cs + wgEs r
end
theorem eF:∀ a b:List DV,wgL (a ++ b)=wgL a + wgL b
 | [],b=>by simp [wgL]
 | d :: r,b=>by simp only [List.cons_append,wgL,eF r b];omega
def laidF (P:Program) (S:List TypeId):Nat->List Field->Nat->Bool
 | off,[],n=>decide (off=n)
 | off,f :: r,n=>decide (f.offset=off) && S.contains f.type && laidF P S (off + P.cellsOf f.type) r n
def rn (P:Program) (S:List TypeId) (t:TypeId):Bool:=
 match P.underlying t with
 | some .bool=>decide (P.cellsOf t=1)
 | some (.int _)=>decide (P.cellsOf t=1)
 | some .string=>decide (P.cellsOf t=1)
 | some (.slice e)=>decide (P.cellsOf t=1) && S.contains e && decide (0 < P.cellsOf e)
 | some (.struct fs)=>laidF P S 0 fs.toList (P.cellsOf t)
 | _=>false
def bkS {H:Type} (bk:DataW H->Nat):List (DataW H)->Nat
 | []=>0
 | d :: r=>bk d + bkS bk r
structure Bk {H:Type} (bk:DataW H->Nat):Prop where
 str:∀ l:List UInt8,l.length + 1<=bk (.lit (.string l))
 lit:∀ l,1<=bk (.lit l)
 nil:1<=bk .nil
 slice:∀ es sp,1 + bkS bk es<=bk (.slice es sp)
 agg:∀ l,bkS bk l<=bk (.agg l)
def zV (w:World):En:=⟨fun a=>w.cell? a,[],[],[]⟩
theorem IW (w:World):Env (zV w) [] w where
 len:=rfl
 tl:=rfl
 dn:=by simp
 inj:=List.nodup_nil
 sub:=fun x u hx=>hx
 pc:=by simp [zV]
 b9:=by simp [zV]
 gp:=by simp [zV]
theorem C9 {w:World} {a:Addr} {k:Nat} {v:Value} (h:w.cell? (a.add k)=some v):w.cell? ⟨a.block,a.off + k,none⟩=some v:=by
 unfold Addr.add at h;split at h
 ·rename_i hk;subst hk;unfold World.cell? at h ⊢;split at h
  ·rename_i c e z he;split at h
   ·cases h
   ·simpa [he] using h
  ·cases h
 ·exact h
theorem Da {w:World} {a:Addr} {v:Value} (h:w.cell? a=some v):a.spot=none:=by
 unfold World.cell? at h;split at h
 ·split at h
  ·cases h
  ·rename_i hs;simpa using hs
 ·cases h
theorem rq {E:En} {b:Nat}:∀ {p:Nat} {ds:List DV} {vs:List Value},RvL E.cl ds vs->(∀ (j:Nat) v,vs[j]? = some v->E.c ⟨b,p + j,none⟩=some v/\v.oneCell'=true)->RvAt E.cl b p ds
 | p,[],vs,h,hc=>by simp only [RvAt]
 | p,d :: r,vs,h,hc=>by
  simp only [RvL] at h;obtain ⟨v,s,rfl,h1,h2⟩:=h;simp only [RvAt];obtain ⟨c1,c2⟩:=hc 0 v rfl;refine ⟨⟨v,c1,c2,h1⟩,rq (p:=p + 1) h2 fun j u hj=>?_⟩;have:=hc (j + 1) u hj;rw [show p + 1 + j=p + (j + 1) by omega];exact this
section
variable {H:Type} {enc:TypeId × Value->H} {P:Program} {w:World} {sp:Nat->Bool} {held:Bool} {S:List TypeId} {bk:DataW H->Nat}
def Rd (enc:TypeId × Value->H) (P:Program) (w:World) (bk:DataW H->Nat) (n:Nat) (t:TypeId) (cs:List Value) (d:DataW H):Prop:=
 ∃ ds,RvL (zV w) ds cs/\(∀ v∈cs,v.oneCell'=true)/\Typ P n t ds/\wgL ds<=64 * bk d/\cs.length=P.cellsOf t
theorem tY {n:Nat} (ih:∀ t cs x,t∈S->DataW.trod enc P w 0 sp held n t cs=some x->Rd enc P w bk n t cs x.1) (cs:List Value) :
  ∀ (fs:List Field) (off:Nat) (xs:List (DataW H × List MemPlace)),laidF P S off fs cs.length=true->xs.length=fs.length ->
   (∀ (i:Nat) f,fs[i]? = some f->DataW.trod enc P w 0 sp held n f.type ((cs.drop f.offset).take (P.cellsOf f.type))=xs[i]?) ->
   ∃ ds,RvL (zV w) ds (cs.drop off)/\(∀ v∈cs.drop off,v.oneCell'=true)/\TypFs (Typ P n) (fs.map (·.type)) ds/\wgL ds<=64 * bkS bk (xs.map (·.1))
 | [],off,xs,hl,w9,hx=>by
  simp only [laidF,decide_eq_true_eq] at hl;subst hl;simp only [List.length_nil,List.length_eq_zero_iff] at w9;subst w9;exact ⟨[],by simpa using bW _,by simp,by simp [TypFs],by simp [wgL]⟩
 | f :: r,off,xs,hl,w9,hx=>by
  simp only [laidF,bA,decide_eq_true_eq] at hl;obtain ⟨⟨hof,hS⟩,hl⟩:=hl
  match xs,w9 with
  | x :: xs,w9=>
   have h0:=hx 0 f rfl;rw [hof] at h0;simp only [List.getElem?_cons_zero] at h0;obtain ⟨ds0,r1,r2,r3,r4,r5⟩:=ih f.type _ x (sU hS) h0;obtain ⟨ds1,s1,s2,s3,s4⟩:=tY ih cs r (off + P.cellsOf f.type) xs hl (sU w9) (fun i g hg=>by simpa using hx (i + 1) g (sU hg))
   have F8:cs.drop off=(cs.drop off).take (P.cellsOf f.type) ++ cs.drop (off + P.cellsOf f.type):=by
    rw [<- List.drop_drop,List.take_append_drop]
   refine ⟨ds0 ++ ds1,?_,?_,?_,?_⟩
   ·rw [F8];exact RvL.append r1 s1
   ·rw [F8];intro v hv;rcases List.mem_append.1 hv with hv | hv
    ·exact r2 v hv
    ·exact s2 v hv
   ·simp only [List.map_cons,TypFs];exact ⟨ds0,ds1,rfl,r3,s3⟩
   ·rw [eF];simp only [List.map_cons,bkS];omega
theorem xT {n e:Nat} (ih:∀ t cs x,t∈S->DataW.trod enc P w 0 sp held n t cs=some x->Rd enc P w bk n t cs x.1) (he:e∈S) (a:Addr) :
  ∀ (xs:List (DataW H × List MemPlace)) (i0:Nat),(∀ i,i < xs.length->(w.cells? 0 (a.add ((i0 + i) * P.cellsOf e)) (P.cellsOf e)).bind (DataW.trod enc P w 0 sp held n e)=xs[i]?) ->
   ∃ es,es.length=xs.length/\RvEs (zV w) (P.cellsOf e) a.block (a.off + i0 * P.cellsOf e) es/\(∀ cs∈es,Typ P n e cs)/\wgEs es<=64 * bkS bk (xs.map (·.1))
 | [],i0,hx=>⟨[],rfl,by simp only [RvEs],by simp,by simp [wgEs]⟩
 | x :: xs,i0,hx=>by
  have h0:=hx 0 (by simp);simp only [Nat.add_zero,List.getElem?_cons_zero] at h0;obtain ⟨cs,cm,ht⟩:=Option.bind_eq_some_iff.1 h0;obtain ⟨_,hlen,mI⟩:=World.cells?_some cm;obtain ⟨ds0,r1,r2,r3,r4,r5⟩:=ih e cs x he ht
  obtain ⟨es,s1,s2,s3,s4⟩:=xT ih he a xs (i0 + 1) (fun i hi=>by
   have:=hx (i + 1) (sU hi);simp only [List.getElem?_cons_succ] at this;rw [show i0 + 1 + i=i0 + (i + 1) by omega]
   exact this)
  refine ⟨ds0 :: es,by simp [s1],?_,?_,?_⟩
  ·simp only [RvEs];refine ⟨by rw [<- r1.length,hlen],rq (E:=zV w) r1 fun j v hj=>⟨?_,r2 v (mG hj)⟩,?_⟩
   ·have pA:j < P.cellsOf e:=by rw [<- hlen];exact (gS hj).1
    have h1:=mI j pA;rw [hj,Deep.add_add] at h1;have h2:=C9 h1;show w.cell? _=_;rw [Nat.add_assoc];exact h2
   ·rw [Nat.add_assoc,show i0 * P.cellsOf e + P.cellsOf e=(i0 + 1) * P.cellsOf e by rw [Nat.add_mul,Nat.one_mul]];exact s2
  ·intro cs' hc;rcases cY hc with hc | hc
   ·subst hc;exact r3
   ·exact s3 cs' hc
  ·simp only [wgEs,List.map_cons,bkS];omega
theorem vC (HY:Bk bk) (hS:∀ t∈S,rn P S t=true):∀ (n:Nat) (t:TypeId) (cs:List Value) (x:DataW H × List MemPlace),t∈S->DataW.trod enc P w 0 sp held n t cs=some x->Rd enc P w bk n t cs x.1
 | 0,t,cs,x,_,h=>by simp [DataW.trod] at h
 | n + 1,t,cs,x,ht,h=>by
  have hf:=hS t ht;unfold rn at hf;unfold Rd
  cases hu:P.underlying t with
  | none=>rw [hu] at hf;cases hf
  | some D=>
   rw [hu] at hf
   cases D with
   | bool=>
    simp only [decide_eq_true_eq] at hf;obtain ⟨b,rfl,rfl⟩:=DataW.trod_bool hu h;have:=HY.lit (.bool b);exact ⟨[.v (.bool b)],rvL_one (by unfold Rv;exact ⟨rfl,rfl⟩),by simp [Value.oneCell'],by simp only [Typ,hu];exact ⟨b,rfl⟩,by simp only [wgL,wgD];omega,by simp [hf]⟩
   | int k=>
    simp only [decide_eq_true_eq] at hf;obtain ⟨z,rfl,rfl,hw⟩:=DataW.trod_int hu h;have:=HY.lit (.int k z);exact ⟨[.v (.int k z)],rvL_one (by unfold Rv;exact ⟨rfl,rfl⟩),by simp [Value.oneCell'],by simp only [Typ,hu];exact ⟨z,rfl,hw⟩,by simp only [wgL,wgD];omega,by simp [hf]⟩
   | string=>
    simp only [decide_eq_true_eq] at hf;obtain ⟨s,rfl,rfl,hw⟩:=DataW.trod_string hu h;have:=HY.str s.data.toList;have cR:s.data.toList.length=s.size:=by rw [Array.length_toList];all_goals rfl
    exact ⟨[.v (.string s)],rvL_one (by unfold Rv;exact ⟨rfl,rfl⟩),by simp [Value.oneCell'],by simp only [Typ,hu];exact ⟨s,rfl⟩,by simp only [wgL,wgD];omega,by simp [hf]⟩
   | slice e=>
    simp only [bA,decide_eq_true_eq] at hf;obtain ⟨⟨Ew,sM⟩,hf3⟩:=hf;rcases DataW.trod_slice hu h with ⟨rfl,rfl⟩ | ⟨a,len,cap,elems,rest,m,hm,rfl,rfl,_,NC,_,za,hx,_,_⟩
    ·have:=HY.nil;refine ⟨[.sl (P.cellsOf e) [] none],rvL_one ?_,by simp [Value.oneCell'],by simp only [Typ,hu];exact ⟨[],rfl,by simp⟩,by simp only [wgL,wgD,wgEs];omega,by simp [Ew]⟩;unfold Rv;exact ⟨none,0,0,rfl,⟨rfl,zLeR _⟩,fun hc=>absurd rfl hc,fun k hk=>by cases hk⟩
    ·simp only [Nat.add_right_cancel_iff] at hm;subst hm;obtain ⟨es,s1,s2,s3,s4⟩:=xT (fun t cs x=>vC HY hS n t cs x) (sU sM) a elems 0 (fun i hi=>by simpa using hx i (by omega));have hb:=HY.slice (elems.map (·.1)) (rest.map (·.1));refine ⟨[.sl (P.cellsOf e) es none],rvL_one ?_,by simp [Value.oneCell'],by simp only [Typ,hu];exact ⟨es,rfl,s3⟩,by simp only [wgL,wgD];omega,by simp [Ew]⟩;unfold Rv;refine ⟨some a,len,cap,rfl,⟨by omega,NC⟩,fun bi=>⟨?_,?_⟩,fun k hk=>by cases hk⟩
     ·have mH:0 < len:=by
       rw [<- za,<- s1];exact List.length_pos_iff.2 bi
      have h0:=hx 0 mH;rw [gE (by omega)] at h0;obtain ⟨cs,cm,_⟩:=Option.bind_eq_some_iff.1 h0;obtain ⟨_,hlen,mI⟩:=World.cells?_some cm;have h1:=mI 0 hf3;rw [gE (by omega),Deep.add_add] at h1;simp only [Nat.zero_mul,Nat.add_zero] at h1;exact Da (a:=a) h1
     ·have s2':RvEs (zV w) (P.cellsOf e) a.block a.off es:=sU s2;exact s2'
   | struct fs=>
    obtain ⟨xs,m,hm,rfl,hlen,w9,hx⟩:=DataW.trod_struct hu h;simp only [Nat.add_right_cancel_iff] at hm;subst hm;simp only at hf;obtain ⟨ds,s1,s2,s3,s4⟩:=tY (fun t cs x=>vC HY hS n t cs x) cs fs.toList 0 xs (by rw [hlen];exact hf) (sU w9) (fun i f hi=>hx i f (sU hi));have hb:=HY.agg (xs.map (·.1));refine ⟨ds,by simpa using s1,by simpa using s2,by simp only [Typ,hu];exact s3,by simp only;omega,hlen⟩
   | _=>cases hf
end
theorem BW {P:Program} {n:Nat} {t:TypeId} {k:IntKind} {ds:List DV} (hu:P.underlying t=some (.int k)) (h:Typ P n t ds):∃ z,ds=[.v (.int k z)]/\(Lit.int k z).wf=true:=by
 cases n with
 | zero=>exact h.elim
 | succ n=>simp only [Typ,hu] at h;exact h
theorem F9 {P:Program} {n:Nat} {t:TypeId} {ds:List DV} (hu:P.underlying t=some .bool) (h:Typ P n t ds):∃ b,ds=[.v (.bool b)]:=by
 cases n with
 | zero=>exact h.elim
 | succ n=>simp only [Typ,hu] at h;exact h
theorem IX {P:Program} {n:Nat} {t:TypeId} {ds:List DV} (hu:P.underlying t=some .string) (h:Typ P n t ds):∃ s:ByteArray,ds=[.v (.string s)]:=by
 cases n with
 | zero=>exact h.elim
 | succ n=>simp only [Typ,hu] at h;exact h
theorem vD {P:Program} {n:Nat} {t e:TypeId} {ds:List DV} (hu:P.underlying t=some (.slice e)) (h:Typ P n t ds):∃ m es,n=m + 1/\ds=[.sl (P.cellsOf e) es none]/\∀ cs∈es,Typ P m e cs:=by
 cases n with
 | zero=>exact h.elim
 | succ n=>
  simp only [Typ,hu] at h;obtain ⟨es,h1,h2⟩:=h;exact ⟨n,es,rfl,h1,h2⟩
theorem lU {P:Program} {n:Nat} {t:TypeId} {fs:Array Field} {ds:List DV} (hu:P.underlying t=some (.struct fs)) (h:Typ P n t ds):∃ m,n=m + 1/\TypFs (Typ P m) (fs.toList.map (·.type)) ds:=by
 cases n with
 | zero=>exact h.elim
 | succ n=>
  simp only [Typ,hu] at h;exact ⟨n,rfl,h⟩
theorem wf_i64 {z:Int} (h:(Lit.int .i64 z).wf=true) : -9223372036854775808<=z/\z<=9223372036854775807:=by
 simpa [Lit.wf,IntKind.min,IntKind.max,IntKind.signed,IntKind.bits] using h
end Dv
end Go.Proofs.YtfdedoiiahbnnaaGreat
set_option maxRecDepth 100000
namespace Go.Proofs.YtfdedoiiahbnnaaGreat
open Go Go.RowKit Dv Go.Proofs.Tryz
theorem zW:prog.cellsOf 34=2:=by kernel_rfl
theorem zX:prog.cellsOf 133=18:=by kernel_rfl
theorem od {n:Nat} {ds:List DV} (h:Typ prog n 34 ds):∃ w:Wd,ds=gm w/\w.wt<=wgL ds:=by
 obtain ⟨m,_,hf⟩:=lU Tryz.underlying34 h;obtain ⟨a,b,rfl,h1,c,d,rfl,h2,rfl⟩:=hf;obtain ⟨s,rfl⟩:=IX Tryz.underlying9 h1;obtain ⟨z,rfl,_⟩:=BW Tryz.underlying3 h2;exact ⟨⟨s,z⟩,rfl,by simp [wgL,wgD,Wd.wt]⟩
theorem Ga:∀ {m:Nat} {es:List (List DV)},(∀ cs∈es,Typ prog m 34 cs)->∃ l:List Wd,es=bm l/\wdsWt l<=wgEs es
 | m,[],h=>⟨[],rfl,by simp [wdsWt,wgEs]⟩
 | m,cs :: r,h=>by
  obtain ⟨w,rfl,hw⟩:=od (h cs (by simp));obtain ⟨l,rfl,hl⟩:=Ga (m:=m) (es:=r) (fun c hc=>h c (gA _ hc));exact ⟨w :: l,rfl,by simp only [wdsWt,wgEs];omega⟩
theorem pY {n:Nat} {ds:List DV} (h:Typ prog n 29 ds):∃ l:List Wd,ds=[.sl 2 (bm l) none]/\64 + wdsWt l<=wgL ds:=by
 obtain ⟨m,es,_,rfl,he⟩:=vD Tryz.underlying29 h;obtain ⟨l,rfl,hl⟩:=Ga he;rw [zW];exact ⟨l,rfl,by simp only [wgL,wgD];omega⟩
theorem mV {n:Nat} {ds:List DV} (h:Typ prog n 3 ds):∃ z,ds=[.v (.int .i64 z)]/\NQ z:=by
 obtain ⟨z,rfl,hw⟩:=BW Tryz.underlying3 h;exact ⟨z,rfl,wf_i64 hw⟩
theorem Gb {m:Nat} (ih:∀ k,k < m->∀ ds,Typ prog k 36 ds->∃ t:Ty,ds=cX t/\rngT t/\t.wt<=wgL ds) :
  ∀ {es:List (List DV)},(∀ cs∈es,Typ prog m 133 cs)->∃ ps:Pts,es=dY ps/\rngP ps/\ps.wt<=wgEs es
 | [],h=>⟨.nil,by simp [dY],by simp [rngP],by simp [Pts.wt]⟩
 | cs :: r,h=>by
  obtain ⟨ps,rfl,hr,hl⟩:=Gb ih (es:=r) (fun c hc=>h c (gA _ hc));obtain ⟨k,rfl,hf⟩:=lU Tryz.underlying133 (h cs (by simp));obtain ⟨a1,b1,rfl,h1,a2,b2,rfl,h2,a3,b3,rfl,h3,a4,b4,rfl,h4,a5,b5,rfl,h5,a6,b6,rfl,h6,rfl⟩:=hf;obtain ⟨nm,rfl,w1⟩:=od h1;obtain ⟨bare,rfl⟩:=F9 Tryz.underlying4 h2;obtain ⟨lab,rfl,w3⟩:=pY h3;obtain ⟨wide,rfl,r4⟩:=mV h4;obtain ⟨k5,_,hf5⟩:=lU Tryz.underlying131 h5;obtain ⟨c1,d1,rfl,g1,c2,d2,rfl,g2,c3,d3,rfl,g3,c4,d4,rfl,g4,rfl⟩:=hf5;obtain ⟨ck,rfl,_⟩:=mV g1;obtain ⟨cn,rfl,q2⟩:=mV g2;obtain ⟨ca,rfl,_⟩:=mV g3;obtain ⟨cl,rfl,w5⟩:=pY g4;obtain ⟨t,rfl,rt,wt⟩:=ih k (by omega) _ h6;refine ⟨.cons ⟨nm,bare,lab,wide,ck,cn,ca,cl⟩ t ps,?_,by simp only [rngP];exact ⟨r4,q2,rt,hr⟩,?_⟩
  ·grind [dY,zL,gm]
  ·grind [Pts.wt,Ph.wt,wgEs,eF,wgL,wgD,gm,Wd.wt]
theorem Gc:∀ (n:Nat) (ds:List DV),Typ prog n 36 ds->∃ t:Ty,ds=cX t/\rngT t/\t.wt<=wgL ds:=by
 intro n
 induction n using Nat.strongRecOn with
 | _ n ih=>
  intro ds h;obtain ⟨m,rfl,hf⟩:=lU Tryz.underlying36 h;obtain ⟨a1,b1,rfl,h1,a2,b2,rfl,h2,a3,b3,rfl,h3,a4,b4,rfl,h4,a5,b5,rfl,h5,a6,b6,rfl,h6,a7,b7,rfl,h7,a8,b8,rfl,h8,rfl⟩:=hf;obtain ⟨ai,rfl,_⟩:=mV h1;obtain ⟨cW,rfl,_⟩:=mV h2;obtain ⟨lo,rfl,r3⟩:=mV h3;obtain ⟨hi,rfl,r4⟩:=mV h4;obtain ⟨most,rfl,r5⟩:=mV h5;obtain ⟨af,rfl,w6⟩:=pY h6;obtain ⟨k,es,rfl,rfl,qC⟩:=vD Tryz.underlying32 h7;obtain ⟨ps,rfl,rp,wp⟩:=Gb (fun j hj=>ih j (by omega)) qC;obtain ⟨nm,rfl,w8⟩:=od h8;rw [zX];refine ⟨.mk ⟨ai,cW,lo,hi,most,af,nm⟩ ps,?_,by simp only [rngT];exact ⟨r3,r4,r5,rp⟩,?_⟩
  ·grind [cX,gm]
  ·grind [Ty.wt,Hd.wt,eF,wgL,wgD,gm,Wd.wt]
end Go.Proofs.YtfdedoiiahbnnaaGreat
namespace Go.Proofs.YtfdedoiiahbnnaaGreat
namespace Dv
open Go Go.RowKit Go.ChangeShapes Go.WideShapes Go.ChangeAt
open Go.ChangeMaps (open_string shut_string)
section
variable {H:Type} {enc:TypeId × Value->H} {P:Program}
theorem lD (hl:laidOutB P=true) {W W':World} (hb:Below W.heap.size W W'):∀ {ts:List TypeId} {vs:List Value} {ds:List (DataW H)} {ps:List MemPlace},(∀ t∈ts,P.readableRec t=true/\t < P.types.size) ->
  DataW.TrodAll enc P W 0 (fun _=>true) true ts vs ds ps->(∀ x∈ps,x.block < W.heap.size)->DataW.TrodAll enc P W' 0 (fun b=>decide (b < W.heap.size)) true ts vs ds ps
 | [],[],[],_,_,h,_=>h
 | t :: ts,v :: vs,d :: ds,_,ht,⟨p,q,h1,h2,e⟩,ap=>by
  subst e;obtain ⟨r1,r2⟩:=ht t (by simp);exact ⟨p,q,Below.trod hl r1 r2 h1 hb (fun x hx=>ap x (List.mem_append_left _ hx)),lD hl hb (fun t py=>ht t (by simp [py])) h2 (fun x hx=>ap x (List.mem_append_right _ hx)),rfl⟩
theorem law_post {f:Func} {s:ChangeSpec} {tb:TypeId} (hl:laidOutB P=true) (qH:f.resultTypes = #[tb]) (htb:P.underlying tb=some .bool) (hv:s.vars=[]) (hts:∀ t∈f.params.toList,P.readableRec t=true/\t < P.types.size)
  {W W':World} {args:Array Value} {ds gs:List (DataW H)} {before:List MemPlace} (hW:DataW.Whole enc P f.params.toList s.vars false W args.toList ds gs before) (pD:s.fn H ds={ results:=[.lit (.bool true)],args:=ds }) (hb:Below W.heap.size W W') :
  s.post enc P f false true false false W args (.bool true) W':=by
 have hW':=hW;obtain ⟨p,q,hA,hV,rfl,hfz,hnd⟩:=hW;rw [hv] at hV;obtain ⟨rfl,rfl⟩:=trodVars_none hV;refine ⟨ds,[],p ++ [],[],p,[],hW',?_,?_,?_,hb.frame _,fun h=>by cases h⟩
 ·rw [List.append_nil,pD,qH];exact trodAll_cons_mk (shut_bool htb _) trodAll_mk0
 ·rw [List.append_nil,pD];exact lD hl hb hts hA (fun x hx=>hW'.lt x (List.mem_append_left _ hx))
 ·rw [List.append_nil,pD,hv];rfl
theorem zY {w w':World} {Φ:DV->List (List DV)->List TkE->Prop} {v:Value} (h:wQ false (zV w) w Φ v w'):Below w.heap.size w w':=by
 obtain ⟨hm,_⟩:=h;refine ⟨hm.os,hm.tape,hm.output,hm.size,fun k hk=>hm.block k hk ?_⟩;rintro (h1 | ⟨y,h1,_⟩)
 ·simp [zV] at h1
 ·simp [zV] at h1
theorem calls_law {f:FuncId} {args:List DV} {vs:List Value} {w:World} (h:aV P f args (.v (.bool true))) (hv:RvL (zV w) args vs) :
  Calls P f vs.toArray w fun e w'=>e = .returned (.bool true)/\Below w.heap.size w w':=by
 refine (h (zV w) w vs (IW w) rfl hv).mono ?_;rintro e w' ⟨v,rfl,he⟩;have hb:=zY he;obtain ⟨_,_,d,os,E,_,_,_,_,hr,rfl⟩:=he;unfold Rv at hr;rw [hr.1];exact ⟨rfl,hb⟩
variable {W:World} {base:Nat} {S:List TypeId} {bk:DataW H->Nat}
theorem arg_st (HY:Bk bk) (hS:∀ t∈S,rn P S t=true) {t:TypeId} {fs:Array Field} {v:Value} {d:DataW H} {ps:List MemPlace} (ht:t∈S) (hu:P.underlying t=some (.struct fs))
  (hval:Value.okWide P W .any base t v) (h:DataW.Trod enc P W 0 (fun _=>true) true t v d ps):∃ n ds,Rv (zV W) (.agg ds) v/\Typ P n t ds/\wgL ds<=64 * bk d:=by
 unfold Value.okWide at hval;rw [hu] at hval;obtain ⟨cs,rfl,_,_⟩:=hval;obtain ⟨n,hn⟩:=h;obtain ⟨ds,h1,h2,h3,h4,_⟩:=vC HY hS n t _ _ ht hn;refine ⟨n,ds,?_,h3,h4⟩;unfold Rv;exact ⟨cs.toList,by simp,h1,h2⟩
end
end Dv
end Go.Proofs.YtfdedoiiahbnnaaGreat
namespace Go.Proofs.YtfdedoiiahbnnaaGreat
open Go Go.RowKit Dv
theorem zZ {H:Type}:∀ l:List (DataW H),bkS Rows.uptoBulk l=Rows.uptoBulkAll l
 | []=>by simp [bkS,Rows.uptoBulkAll]
 | d :: r=>by simp only [bkS,Rows.uptoBulkAll,zZ r]
theorem bk_ok {H:Type}:Bk (Rows.uptoBulk (H:=H)) where
 str:=fun l=>by simp [Rows.uptoBulk]
 lit:=fun l=>by cases l<;>simp [Rows.uptoBulk]
 nil:=by simp [Rows.uptoBulk]
 slice:=fun es sp=>by simp only [Rows.uptoBulk,zZ];omega
 agg:=fun l=>by simp only [Rows.uptoBulk,zZ];omega
theorem bulk_le {H:Type} {l:List (DataW H)} (hk:Rows.uptoSmall H l=true):Rows.uptoBulkAll l<=1048576:=of_decide_eq_true hk
theorem laid_out:laidOutB Tryz.prog=true:=by kernel_rfl
theorem own_knob:ownKnob Tryz.prog.godebug=none:=by kernel_rfl
def tyS:List TypeId:=[36,29,34,9,3,32,133,4,131]
end Go.Proofs.YtfdedoiiahbnnaaGreat
set_option maxRecDepth 100000
namespace Go.Proofs.YtfdedoiiahbnnaaGreat
open Go Go.RowKit Dv Go.Proofs.Tryz
def Pts.take:Nat->Pts->Pts
 | 0,_=>.nil
 | _ + 1,.nil=>.nil
 | e + 1,.cons p t r=>.cons p t (r.take e)
structure Sch where
 ae:List Wd
 order:List (Wd × Wd)
 types:List (Wd × Ty)
 root:Ty
def Ex (p:Wd × Wd):List DV:=[.v (.string p.1.s),.v (.int .i64 p.1.a),.v (.string p.2.s),.v (.int .i64 p.2.a)]
def j4 (l:List (Wd × Wd)):List (List DV):=l.map Ex
def Sx (x:Wd × Ty):List DV:=.v (.string x.1.s) :: .v (.int .i64 x.1.a) :: cX x.2
def dNms (l:List (Wd × Ty)):List (List DV):=l.map Sx
def cM (s:Sch):List DV:=.sl 2 (bm s.ae) none :: .sl 4 (j4 s.order) none :: .sl 11 (dNms s.types) none :: cX s.root
def prsWt:List (Wd × Wd)->Nat
 | []=>0
 | p :: r=>p.1.wt + p.2.wt + prsWt r
def nmsWt:List (Wd × Ty)->Nat
 | []=>0
 | p :: r=>p.1.wt + p.2.wt + nmsWt r
def Sch.wt (s:Sch):Nat:=wdsWt s.ae + prsWt s.order + nmsWt s.types + s.root.wt
theorem ej (l:List (Wd × Wd)):(j4 l).length=l.length:=by simp [j4]
theorem cO (l:List (Wd × Ty)):(dNms l).length=l.length:=by simp [dNms]
theorem eX {l:List (Wd × Wd)} {j:Nat} {p:Wd × Wd} (h:l[j]? = some p):(j4 l)[j]? = some (Ex p):=by simp [j4,h]
theorem dNms_get {l:List (Wd × Ty)} {j:Nat} {p:Wd × Ty} (h:l[j]? = some p):(dNms l)[j]? = some (Sx p):=by simp [dNms,h]
theorem fG:∀ l:List (Wd × Wd),128 * l.length<=prsWt l
 | []=>zLeR _
 | p :: r=>by have:=fG r;simp only [List.length_cons,prsWt,Wd.wt];omega
theorem gQ:∀ l:List (Wd × Ty),256 * l.length<=nmsWt l
 | []=>zLeR _
 | p :: r=>by have:=gQ r;have:=p.2.gv;simp only [List.length_cons,nmsWt,Wd.wt];omega
theorem eN:∀ {l:List (Wd × Ty)} {p:Wd × Ty},p∈l->p.1.wt + p.2.wt<=nmsWt l
 | x :: r,p,h=>by
  rcases cY h with h | h
  ·subst h;simp only [nmsWt];omega
  ·have:=eN h;simp only [nmsWt];omega
def Qh (s:Sch):Prop:=(∀ x∈s.types,rngT x.2)/\rngT s.root
theorem z6:prog.cellsOf 122=4:=by kernel_rfl
theorem xU:prog.cellsOf 93=11:=by kernel_rfl
theorem Mt {n:Nat} {ds:List DV} (h:Typ prog n 122 ds):∃ p:Wd × Wd,ds=Ex p/\p.1.wt + p.2.wt<=wgL ds:=by
 obtain ⟨m,_,hf⟩:=lU Tryz.underlying122 h;obtain ⟨a,b,rfl,h1,c,d,rfl,h2,rfl⟩:=hf;obtain ⟨x,rfl,w1⟩:=od h1;obtain ⟨y,rfl,w2⟩:=od h2;exact ⟨(x,y),rfl,by simp only [eF,wgL];omega⟩
theorem Mu {n:Nat} {ds:List DV} (h:Typ prog n 93 ds):∃ p:Wd × Ty,ds=Sx p/\rngT p.2/\p.1.wt + p.2.wt<=wgL ds:=by
 obtain ⟨m,_,hf⟩:=lU Tryz.underlying93 h;obtain ⟨a,b,rfl,h1,c,d,rfl,h2,rfl⟩:=hf;obtain ⟨x,rfl,w1⟩:=od h1;obtain ⟨y,rfl,r2,w2⟩:=Gc _ _ h2;exact ⟨(x,y),by simp [Sx,gm],r2,by simp only [eF,wgL];omega⟩
theorem Gd:∀ {m:Nat} {es:List (List DV)},(∀ cs∈es,Typ prog m 122 cs)->∃ l:List (Wd × Wd),es=j4 l/\prsWt l<=wgEs es
 | m,[],h=>⟨[],rfl,by simp [prsWt,wgEs]⟩
 | m,cs :: r,h=>by
  obtain ⟨w,rfl,hw⟩:=Mt (h cs (by simp));obtain ⟨l,rfl,hl⟩:=Gd (m:=m) (es:=r) (fun c hc=>h c (gA _ hc));exact ⟨w :: l,rfl,by simp only [prsWt,wgEs];omega⟩
theorem Ge:∀ {m:Nat} {es:List (List DV)},(∀ cs∈es,Typ prog m 93 cs)->∃ l:List (Wd × Ty),es=dNms l/\(∀ x∈l,rngT x.2)/\nmsWt l<=wgEs es
 | m,[],h=>⟨[],rfl,by simp,by simp [nmsWt,wgEs]⟩
 | m,cs :: r,h=>by
  obtain ⟨w,rfl,hr,hw⟩:=Mu (h cs (by simp));obtain ⟨l,rfl,hlr,hl⟩:=Ge (m:=m) (es:=r) (fun c hc=>h c (gA _ hc));refine ⟨w :: l,rfl,fun x hx=>?_,by simp only [nmsWt,wgEs];omega⟩;rcases cY hx with rfl | hx
  ·exact hr
  ·exact hlr x hx
theorem typ_sch {n:Nat} {ds:List DV} (h:Typ prog n 38 ds):∃ s:Sch,ds=cM s/\Qh s/\s.wt<=wgL ds:=by
 obtain ⟨m,_,hf⟩:=lU Tryz.underlying38 h;obtain ⟨a1,b1,rfl,h1,a2,b2,rfl,h2,a3,b3,rfl,h3,a4,b4,rfl,h4,rfl⟩:=hf;obtain ⟨l1,rfl,w1⟩:=pY h1;obtain ⟨m2,es2,_,rfl,he2⟩:=vD Tryz.underlying30 h2;obtain ⟨l2,rfl,w2⟩:=Gd he2;obtain ⟨m3,es3,_,rfl,he3⟩:=vD Tryz.underlying31 h3;obtain ⟨l3,rfl,r3,w3⟩:=Ge he3;obtain ⟨t,rfl,r4,w4⟩:=Gc _ _ h4;rw [z6,xU];refine ⟨⟨l1,l2,l3,t⟩,by simp [cM],⟨r3,r4⟩,?_⟩;simp only [Sch.wt,eF,wgL,wgD] at *;omega
end Go.Proofs.YtfdedoiiahbnnaaGreat
namespace Go.Proofs.YtfdedoiiahbnnaaGreat
open Go Go.RowKit Dv
def tySS:List TypeId:=38 :: 30 :: 122 :: 31 :: 93 :: tyS
theorem tySS_ok:∀ t∈tySS,rn Tryz.prog tySS t=true:=by
 have h:(tySS.all fun t=>rn Tryz.prog tySS t)=true:=by kernel_rfl
 exact fun t ht=>List.all_eq_true.1 h t ht
set_option maxRecDepth 100000
noncomputable abbrev PP:Program:=Tryz.pinned.checked.prog
def Ww:OpenClaim:={ program := "",sum := "",func := "",spec := "" }
theorem and_ok {a b:Bool} (ha:a=true) (hb:b=true):(a && b)=true:=by rw [ha,hb];all_goals rfl
theorem g_laid:laidOutB PP=true:=laid_out
theorem g_maps:mapsRowed PP=true:=by kernel_rfl
theorem g_stops:(PP.stops == [])=true:=by kernel_rfl
theorem g_knobs:(PP.stopKnobs == [])=true:=by kernel_rfl
theorem g_heard:PP.stopsHeard=true:=by kernel_rfl
theorem g_enter:PP.mayEnter=true:=by kernel_rfl
theorem g_lifts:(Ww.lifted == PP.liftsFinal)=true:=by kernel_rfl
theorem g_keys:(true == PP.plainKeys)=true:=by kernel_rfl
theorem g_make:(PP.make == some Ww.make)=true:=by kernel_rfl
end Go.Proofs.YtfdedoiiahbnnaaGreat
namespace Go.Proofs.YtfdedoiiahbnnaaGreat
namespace Dv
open Go Go.RowKit
section
variable {X:Ctx} {st:St} {k:List It} {E:En} {a:Act} {w:World}
def Wk (X:Ctx) (st st':St):Prop:=∀ E a w,Rel X E st a w->∃ E',Rel X E' st' a w
theorem Wk.refl (X:Ctx) (st:St):Wk X st st:=fun E _ _ h=>⟨E,h⟩
theorem Wk.trans {X:Ctx} {s1 s2 s3:St} (h1:Wk X s1 s2) (h2:Wk X s2 s3):Wk X s1 s3:=fun _ _ _ h=>by
 obtain ⟨E1,h3⟩:=h1 _ _ _ h;exact h2 _ _ _ h3
theorem Wk.Mv {X:Ctx} {s1 s2:St} (h:mL X.n0 X.m0 s1 s2):Wk X s1 s2:=fun _ _ _ hr=>qM hr h
theorem Db {f:FuncId} {args aZ:List DV} {os:List (List DV)} (n1 m1:Nat) (wT:Nat.ble n1 st.bx.length=true) (iw:Nat.ble m1 st.tk.length=true)
  (wY:jy [] n1 n1 m1 os (st.bx.take n1)) (ha:CcL [] n1 n1 m1 aZ args)
  {Φ:DV->List (List DV)->List TkE->Prop} (hc:Ti false X.P f aZ os (st.tk.take m1) X.bt Φ) (hst:X.still=false) {vs:List Value} (h:Rel X E st a w) (hv:RvL E args vs) :
  Calls X.P f vs.toArray w fun e w'=>∃ v r os' tk' E',e = .returned v/\Φ r os' tk' /\ os'.length=n1/\tk'.length=m1/\Rel X E' ⟨st.sl,os' ++ st.bx.drop n1,tk' ++ st.tk.drop m1⟩ a w' /\ Rv E' r v/\Ext E E' /\ E'.β=E.β /\
   ∀ (i:Nat) b,n1<=i->E.β[i]? = some b->w'.heap[b]? = w.heap[b]?:=by
 have wT:=nL wT;have iw:=nL iw;have hlen:=h.env.len;have lr:=h.env.tl;have nH:=h.tk;have htkl:E.tk.length=st.tk.length:=by rw [nH]
 let E1:En:=⟨E.c,E.β.take n1,E.tk.take m1,E.τ.take m1⟩
 have hfz:Em E E1 [] n1:=⟨fun _ _ h=>h,fun i cs _ hi=>by simp at hi⟩
 have vc:BC E E1 n1 m1:={
  β:=fun i b hi hb=>by show (E.β.take n1)[i]? = _;rw [bM,zIfP hi];exact hb
  tk:=fun k hk=>⟨by show (E.tk.take m1)[k]? = _;rw [bM,zIfP hk],by show (E.τ.take m1)[k]? = _;rw [bM,zIfP hk]⟩ }
 obtain ⟨iY,Ox⟩:=wY.get;have Um:os.length=n1:=by rw [iY,eP];omega
 have Qi:∀ (j:Nat) y,(E.τ.take m1)[j]? = some y->j < m1/\E.τ[j]? = some y:=fun j y hy=>by
  rw [bM] at hy;split at hy
  ·rename_i hj;exact ⟨hj,hy⟩
  ·cases hy
 have hkg:∀ (j:Nat) q,(E.tk.take m1)[j]? = some q->j < m1/\E.tk[j]? = some q:=fun j y hy=>by
  rw [bM] at hy;split at hy
  ·rename_i hj;exact ⟨hj,hy⟩
  ·cases hy
 have OQ:Env E1 os w:={
  len:=by show (E.β.take n1).length=_;rw [eP,Um];omega
  tl:=by show (E.τ.take m1).length=(E.tk.take m1).length;rw [eP,eP,lr]
  dn:=fun i cs' hi=>by
   obtain ⟨cs,cm,pV⟩:=Ox i cs' hi;rw [bM] at cm;split at cm
   ·rename_i ap;obtain ⟨b,ty,arr,hb,hw,hc⟩:=h.env.dn i cs cm;exact ⟨b,ty,arr,vc.β i b ap hb,hw,CcL.sound hfz vc pV hc.1,hc.2⟩
   ·cases cm
  inj:=h.env.inj.sublist (List.take_sublist _ _)
  sub:=h.env.sub
  pc:=fun x v hx hm=>h.env.pc x v hx (List.mem_of_mem_take hm)
  b9:=fun j q y hq hy=>by
   obtain ⟨_,hq⟩:=hkg j q hq;obtain ⟨_,hy⟩:=Qi j y hy;rcases h.env.b9 j q y hq hy with h1 | ⟨g,cap,cur,rfl,h1,h2,h3,h4,h5,h6⟩
   ·exact .inl h1
   ·exact .inr ⟨g,cap,cur,rfl,h1,h2,h3,h4,fun hm=>h5 (List.mem_of_mem_take hm),h6⟩
  gp:=fun j j' y y' g Bu hy fm=>h.env.gp j j' y y' g Bu (Qi j y hy).2 (Qi j' y' fm).2 }
 refine (hc E1 w _ OQ (by show E.tk.take m1=_;rw [nH]) (h.bt.sub n1) (CcL.sound hfz vc ha hv)).mono ?_;rintro e w' ⟨v,rfl,⟨hm,_,r,os',E2,he,hβ,vE,hn,LS,hΦ⟩,Un⟩;have vE:E2.tk.length=E1.tk.length:=vE;have Uo:E1.tk.length=m1:=by show (E.tk.take m1).length=_;rw [eP];omega
 have hE1τ:E1.τ.length=m1:=by show (E.τ.take m1).length=_;rw [eP];omega
 have Up:E1.β.length=n1:=by show (E.β.take n1).length=_;rw [eP];omega
 rw [Uo] at vE;have Sg:E2.τ.length=m1:=by rw [he.tl,vE]
 have Gf:os'.length=n1:=by rw [<- he.len,hβ,Up]
 have hS:∀ j,E1.S j->j∈E.β.take n1∨∃ i y,i < m1/\E.τ[i]? = some y/\y.ownBlock=some j:=fun j hj=>by
  rcases hj with h1 | ⟨y,h1,h2⟩
  ·exact .inl h1
  ·obtain ⟨i,hi,he⟩:=List.getElem_of_mem h1;have j9:E1.τ[i]? = some y:=by rw [gE hi,he]
   obtain ⟨h3,h4⟩:=Qi i y j9;exact .inr ⟨i,y,h3,h4,h2⟩
 have hh:∀ j,j < w.heap.size->¬ E1.S j->w'.heap[j]? = w.heap[j]?:=fun j hj bi=>hm.block j hj bi;have eA:∀ (i:Nat) y g,E.τ[i]? = some y->y.ownBlock=some g->g < w.heap.size/\g ∉ E.β:=fun i y g hy hg=>h.env.own (mG hy) hg
 have cG:∀ x v,E2.c x=some v->E.c x=some v∨w.heap.size<=x.block∨∃ i y,i < m1/\E.τ[i]? = some y/\y.ownBlock=some x.block:=fun x v hx=>by
  rcases hn.cn x v hx with h1 | h1 | ⟨y,h1,h2⟩
  ·exact .inl h1
  ·exact .inr (.inl h1)
  ·obtain ⟨i,hi,he⟩:=List.getElem_of_mem h1;have j9:E1.τ[i]? = some y:=by rw [gE hi,he]
   obtain ⟨h3,h4⟩:=Qi i y j9;exact .inr (.inr ⟨i,y,h3,h4,h2⟩)
 have nX:∀ (j:Nat) q,j < m1->E.tk[j]? = some q->∃ y q' y',E.τ[j]? = some y/\E2.tk[j]? = some q' /\ E2.τ[j]? = some y' /\ q.ty=q'.ty/\q.e=q'.e/\((q'.n=q.n/\y'=y)∨q.n < q'.n)/\(y'.ownBlock=y.ownBlock∨∀ g,y'.ownBlock=some g->w.heap.size<=g):=fun j q hj hq=>by
  have pA:j < E.τ.length:=by rw [lr];omega
  obtain ⟨q',y',h1,h2,h3⟩:=hn.tk j q E.τ[j] (by show (E.tk.take m1)[j]? = _;rw [bM,zIfP hj];exact hq) (by show (E.τ.take m1)[j]? = _;rw [bM,zIfP hj,gE pA]);exact ⟨_,q',y',gE pA,h1,h2,h3⟩
 have BX:∀ (j:Nat) y',j < m1->E2.τ[j]? = some y' -> ∃ y,E.τ[j]? = some y/\(y'.ownBlock=y.ownBlock∨∀ g,y'.ownBlock=some g->w.heap.size<=g):=fun j y' hj hy=>by
  have pA:j < E.tk.length:=by omega
  obtain ⟨y,q1,y1,h1,_,h3,_,_,_,h7⟩:=nX j _ hj (gE pA);rw [hy] at h3;simp only [oI] at h3;subst h3;exact ⟨y,h1,h7⟩
 let E':En:=⟨E2.c,E.β,E2.tk ++ E.tk.drop m1,E2.τ ++ E.τ.drop m1⟩
 have fl:∀ (j:Nat),m1<=j->E'.tk[j]? = E.tk[j]?:=fun j hj=>by
  show (E2.tk ++ E.tk.drop m1)[j]? = _;rw [List.getElem?_append_right (by omega),List.getElem?_drop,vE];congr 1;omega
 have Mw:∀ (j:Nat),m1<=j->E'.τ[j]? = E.τ[j]?:=fun j hj=>by
  show (E2.τ ++ E.τ.drop m1)[j]? = _;rw [List.getElem?_append_right (by omega),List.getElem?_drop,Sg];congr 1;omega
 have Fh:∀ (j:Nat),j < m1->E'.tk[j]? = E2.tk[j]?:=fun j hj=>by
  show (E2.tk ++ E.tk.drop m1)[j]? = _;rw [dF (by omega)]
 have HS:∀ (j:Nat),j < m1->E'.τ[j]? = E2.τ[j]?:=fun j hj=>by
  show (E2.τ ++ E.τ.drop m1)[j]? = _;rw [dF (by omega)]
 have hx:Ext E E':=⟨hn.c,fun _ _ h=>h,fun j q hq=>by
  rcases Nat.lt_or_ge j m1 with hj | hj
  ·obtain ⟨y,q',y',h1,h2,h3,_,_,h6,_⟩:=nX j q hj hq;refine ⟨q',by rw [Fh j hj];exact h2,?_⟩;rcases h6 with ⟨h6,rfl⟩ | h6
   ·exact .inl ⟨h6,by rw [HS j hj,h3,h1]⟩
   ·exact .inr h6
  ·exact ⟨q,by rw [fl j hj];exact hq,.inl ⟨rfl,Mw j hj⟩⟩⟩
 have CO:Ext E2 E':={
  c:=fun _ _ h=>h
  β:=fun j b hj=>by
   rw [hβ] at hj;have hj:(E.β.take n1)[j]? = some b:=hj;rw [bM] at hj;split at hj
   ·exact hj
   ·cases hj
  tk:=fun j q hq=>by
   have hj:j < m1:=by have:=(gS hq).1;omega
   exact ⟨q,by rw [Fh j hj];exact hq,.inl ⟨rfl,HS j hj⟩⟩ }
 have KO:∀ (i:Nat) b,n1<=i->E.β[i]? = some b->w'.heap[b]? = w.heap[b]?:=fun i b hi hb=>by
  refine hh b (h.env.aQ (mG hb)) fun hs=>?_;rcases hS b hs with h1 | ⟨i',y,_,h2,h3⟩
  ·obtain ⟨i',j9,LZ⟩:=List.getElem_of_mem h1;have h4:(E.β.take n1)[i']? = some b:=by rw [gE j9,LZ]
   rw [bM] at h4;split at h4
   ·rename_i ap;have:=(List.getElem?_inj (gS hb).1 h.env.inj).1 (hb.trans h4.symm);omega
   ·cases h4
  ·exact (eA i' y b h2 h3).2 (mG hb)
 have Uq:lm X.bt E.β w':=fun p hp b hb=>by
  rcases Nat.lt_or_ge p.1 n1 with ap | hge
  ·exact Un p hp b (by show (E.β.take n1)[p.1]? = _;rw [bM,zIfP ap];exact hb)
  ·obtain ⟨cs,cm⟩:=h.bt p hp b hb;exact ⟨cs,by rw [KO p.1 b hge hb];exact cm⟩
 have bD:Rel X E' ⟨st.sl,os' ++ st.bx.drop n1,E2.tk ++ st.tk.drop m1⟩ a w':=by
  refine cy h hx ?_ (by show E2.tk ++ E.tk.drop m1=_;rw [nH]) ?_ (h.fr.bN hm.os hm.tape hm.output hm.size fun j hj=>?_) (ln hst) Uq
  ·exact {
    len:=by show E.β.length=_;rw [List.length_append,List.length_drop,Gf,hlen];omega
    tl:=by show (E2.τ ++ E.τ.drop m1).length=(E2.tk ++ E.tk.drop m1).length;simp only [List.length_append,List.length_drop,Sg,vE,lr]
    dn:=fun i OR hi=>by
     rcases Nat.lt_or_ge i n1 with wH | wH
     ·rw [dF (by omega)] at hi;obtain ⟨b2,TC,Mb,iU,zp,mC⟩:=he.dn i OR hi;exact ⟨b2,TC,Mb,CO.β i b2 iU,zp,mC.mono CO⟩
     ·rw [List.getElem?_append_right (by omega),List.getElem?_drop,Gf] at hi;rw [show n1 + (i - n1)=i by omega] at hi;obtain ⟨bj,TD,Mc,Kf,OS,Ly⟩:=h.env.dn i OR hi;refine ⟨bj,TD,Mc,Kf,(hh bj (cI OS) ?_).trans OS,Ly.mono hx⟩;intro hs;rcases hS bj hs with h1 | ⟨i',y,_,h2,h3⟩
      ·obtain ⟨i',j9,LZ⟩:=List.getElem_of_mem h1;have h4:(E.β.take n1)[i']? = some bj:=by rw [gE j9,LZ]
       rw [bM] at h4;split at h4
       ·rename_i ap;have:=(List.getElem?_inj (gS Kf).1 h.env.inj).1 (Kf.trans h4.symm);omega
       ·cases h4
      ·exact (eA i' y bj h2 h3).2 (mG Kf)
    inj:=h.env.inj
    sub:=he.sub
    pc:=fun x v hc j1=>by
     rcases cG x v hc with h1 | h1 | ⟨i,y,_,h2,h3⟩
     ·exact h.env.pc x v h1 j1
     ·have:=h.env.aQ j1;omega
     ·exact (eA i y _ h2 h3).2 j1
    b9:=fun j q y hq hy=>by
     rcases Nat.lt_or_ge j m1 with hj | hj
     ·rw [Fh j hj] at hq;rw [HS j hj] at hy;rcases he.b9 j q y hq hy with h1 | ⟨g,cap,cur,rfl,h1,h2,h3,h4,h5,h6⟩
      ·exact .inl h1
      ·refine .inr ⟨g,cap,cur,rfl,h1,h2,h3,h4,fun j1=>?_,h6⟩;obtain ⟨y0,h7,h8⟩:=BX j _ hj hy;rcases h8 with h8 | h8
       ·exact (eA j y0 g h7 (by rw [<- h8];rfl)).2 j1
       ·have:=h8 g rfl;have:=h.env.aQ j1;omega
     ·rw [fl j hj] at hq;rw [Mw j hj] at hy;rcases h.env.b9 j q y hq hy with h1 | ⟨g,cap,cur,rfl,h1,h2,h3,h4,h5,h6⟩
      ·exact .inl h1
      ·have bi:∀ i y',i < m1->E.τ[i]? = some y' -> y'.ownBlock≠some g:=fun i y' hi fm=>h.env.gp j i _ y' g (by omega) hy fm rfl
       have zc:¬ E1.S g:=fun hs=>by
        rcases hS g hs with h7 | ⟨i,y',h7,h8,h9⟩
        ·exact h5 (List.mem_of_mem_take h7)
        ·exact bi i y' h7 h8 h9
       refine .inr ⟨g,cap,cur,rfl,by rw [hh g (cI h1) zc];exact h1,⟨h2.1,h2.2.mono hn.c⟩,h3,h4,h5,fun x v hc hg=>?_⟩
       ·rcases cG x v hc with h7 | h7 | ⟨i,y',h7,h8,h9⟩
        ·exact h6 x v h7 hg
        ·have:=cI h1;omega
        ·exact (bi i y' h7 h8 (by rw [h9,hg])).elim
    gp:=fun j j' y y' g Bu hy fm hg sK=>by
     rcases Nat.lt_or_ge j m1 with hj | hj
     ·rw [HS j hj] at hy;obtain ⟨y0,h7,h8⟩:=BX j _ hj hy;rcases Nat.lt_or_ge j' m1 with gN | gN
      ·rw [HS j' gN] at fm;exact he.gp j j' y y' g Bu hy fm hg sK
      ·rw [Mw j' gN] at fm;rcases h8 with h8 | h8
       ·exact h.env.gp j j' y0 y' g Bu h7 fm (by rw [<- h8];exact hg) sK
       ·have:=h8 g hg;have:=(eA j' y' g fm sK).1;omega
     ·rw [Mw j hj] at hy;rcases Nat.lt_or_ge j' m1 with gN | gN
      ·rw [HS j' gN] at fm;obtain ⟨y0,h7,h8⟩:=BX j' _ gN fm;rcases h8 with h8 | h8
       ·exact h.env.gp j j' y y0 g Bu hy h7 hg (by rw [<- h8];exact sK)
       ·have:=h8 g sK;have:=(eA j y g hy hg).1;omega
      ·rw [Mw j' gN] at fm
       exact h.env.gp j j' y y' g Bu hy fm hg sK }
  ·exact {
    c:=fun x v hc=>hn.c x v (h.nw.c x v hc)
    cn:=fun x v hc=>by
     rcases cG x v hc with h1 | h1 | ⟨i,y,_,h2,h3⟩
     ·exact h.nw.cn x v h1
     ·have:=h.fr.size;exact .inr (.inl (by omega))
     ·rcases h.nw.own h2 h3 with h4 | h4
      ·exact .inr (.inr h4)
      ·exact .inr (.inl h4)
    β:=h.nw.β
    tk:=fun j q0 y0 wU zo=>by
     obtain ⟨q1,y1,h1,h2,h3,h4,h5,h6⟩:=h.nw.tk j q0 y0 wU zo;rcases Nat.lt_or_ge j m1 with hj | hj
     ·obtain ⟨y,q',y',g1,g2,g3,g4,g5,g6,g7⟩:=nX j q1 hj h1;rw [h2] at g1;simp only [oI] at g1;subst g1;refine ⟨q',y',by rw [Fh j hj];exact g2,by rw [HS j hj];exact g3,h3.trans g4,h4.trans g5,?_,?_⟩
      ·rcases g6 with ⟨g6,rfl⟩ | g6
       ·rcases h5 with ⟨h5,rfl⟩ | h5
        ·exact .inl ⟨by omega,rfl⟩
        ·exact .inr (by omega)
       ·rcases h5 with ⟨h5,_⟩ | h5
        ·exact .inr (by omega)
        ·exact .inr (by omega)
      ·rcases g7 with g7 | g7
       ·rcases h6 with h6 | h6
        ·exact .inl (g7.trans h6)
        ·exact .inr fun g hg=>h6 g (by rw [<- g7];exact hg)
       ·refine .inr fun g hg=>?_;have:=g7 g hg;have:=h.fr.size;omega
     ·exact ⟨q1,y1,by rw [fl j hj];exact h1,by rw [Mw j hj];exact h2,h3,h4,h5,h6⟩
    tn:=fun j y g wX hy hg=>by
     rcases Nat.lt_or_ge j m1 with hj | hj
     ·rw [HS j hj] at hy;obtain ⟨y0,h7,h8⟩:=BX j _ hj hy;rcases h8 with h8 | h8
      ·exact h.nw.tn j y0 g wX h7 (by rw [<- h8];exact hg)
      ·have:=h8 g hg;have:=h.fr.size;omega
     ·rw [Mw j hj] at hy;exact h.nw.tn j y g wX hy hg
    l0:=h.nw.l0 }
  ·by_cases Wx:E1.S j
   ·left;rcases hS j Wx with h1 | ⟨i,y,_,h2,h3⟩
    ·have wF:=List.mem_of_mem_take h1;obtain ⟨r0,hr0,HX⟩:=h.nw.β;rw [hr0] at wF;rcases List.mem_append.1 wF with wF | wF
     ·exact .inl (.inl wF)
     ·exact .inr (HX j wF)
    ·rcases h.nw.own h2 h3 with h4 | h4
     ·exact .inl (.inr h4)
     ·exact .inr h4
   ·exact .inr (hh j hj Wx)
 exact ⟨v,r,os',E2.tk,E',rfl,hΦ,Gf,vE,bD,Rv.mono CO LS,hx,rfl,KO⟩
theorem rr {f:FuncId} {args aZ:List DV} {os:List (List DV)} (n1 m1:Nat) (wT:Nat.ble n1 st.bx.length=true) (iw:Nat.ble m1 st.tk.length=true)
  (wY:jy [] n1 n1 m1 os (st.bx.take n1)) (ha:CcL [] n1 n1 m1 aZ args)
  {Φ:DV->List (List DV)->List TkE->Prop} (hc:Ev X.P f aZ os (st.tk.take m1) Φ) (hst:X.still=false) (hX:X.bt=[]) {vs:List Value} (h:Rel X E st a w) (hv:RvL E args vs) :
  Calls X.P f vs.toArray w fun e w'=>∃ v r os' tk' E',e = .returned v/\Φ r os' tk' /\ os'.length=n1/\tk'.length=m1/\Rel X E' ⟨st.sl,os' ++ st.bx.drop n1,tk' ++ st.tk.drop m1⟩ a w' /\ Rv E' r v/\Ext E E' /\ E'.β=E.β /\
   ∀ (i:Nat) b,n1<=i->E.β[i]? = some b->w'.heap[b]? = w.heap[b]?:=
 Db n1 m1 (by exact wT) (by exact iw) wY ha (hc.Oz hX) hst h hv
theorem Gg {f:FuncId} {args aZ:List DV} {os:List (List DV)} {d:Nat} (n1 m1:Nat) (iW:Enters X.P f) (hd:eK X.nt st.sl (some d)=true) (wT:Nat.ble n1 st.bx.length=true) (iw:Nat.ble m1 st.tk.length=true)
  (wY:jy [] n1 n1 m1 os (st.bx.take n1)) (ha:CcL [] n1 n1 m1 aZ args)
  {Φ:DV->List (List DV)->List TkE->Prop} (hc:Ev X.P f aZ os (st.tk.take m1) Φ)
  (hk:∀ r os' tk',Φ r os' tk' -> os'.length=n1->tk'.length=m1->∃ st',Wk X ⟨(d,⟨[],r⟩) :: st.sl,os' ++ st.bx.drop n1,tk' ++ st.tk.drop m1⟩ st' /\ go X 4000 k st') (hst:X.still=false:=by exact rfl) (hX:X.bt=[]:=by exact rfl):CallG X f args (some d) k st:=by
 refine ⟨iW,hst,fun E a w vs h hv=>(rr n1 m1 wT iw wY ha hc hst hX h hv).mono ?_⟩;rintro e w' ⟨v,r,os',tk',E',rfl,hΦ,Gf,vE,bD,KI,_,_,_⟩;obtain ⟨st',Iq,qF⟩:=hk r os' tk' hΦ Gf vE;obtain ⟨E3,hr3⟩:=Iq _ _ _ (bl bD hd r v KI);exact go_sound 4000 _ _ qF E3 _ w' hr3
theorem ay {f:FuncId} {args aZ:List DV} {os:List (List DV)} {d:Nat} (n1 m1:Nat) (iW:Enters X.P f) (hd:eK X.nt st.sl (some d)=true) (wT:Nat.ble n1 st.bx.length=true) (iw:Nat.ble m1 st.tk.length=true)
  (wY:jy [] n1 n1 m1 os (st.bx.take n1)) (ha:CcL [] n1 n1 m1 aZ args)
  {Φ:DV->List (List DV)->List TkE->Prop} (hc:Ev X.P f aZ os (st.tk.take m1) Φ)
  (hk:∀ r os' tk',Φ r os' tk' -> os'.length=n1->tk'.length=m1->go X 4000 k ⟨(d,⟨[],r⟩) :: st.sl,os' ++ st.bx.drop n1,tk' ++ st.tk.drop m1⟩) (hst:X.still=false:=by exact rfl) (hX:X.bt=[]:=by exact rfl):CallG X f args (some d) k st:=
 Gg n1 m1 iW hd wT iw wY ha hc (fun r os' tk' h1 h2 h3=>⟨_,Wk.refl _ _,hk r os' tk' h1 h2 h3⟩) hst hX
theorem Dc {all:Array Oper} {o1 o2 o3:Oper} {r:List Oper} {d1 d2 kt t sT f off ft ty et e iQ m KQ nn:Nat} {bb:Bool} {zz:List Value} {z:Int} {kd:IntKind} {es:List (List DV)} {cs:List DV} {s ix x:Operand} {dv Qj:DV}
  (h1:o1.op = .indexAddr t s ix/\o1.dst=some d1) (h2:o2.op = .fieldAddr sT (.tmp d1) f/\o2.dst=some d2/\o2.guard=none) (h3:o3.op = .store ty (.tmp d2) x/\o3.dst=none/\o3.guard=none)
  (ze:eK X.nt st.sl (some d1)=true) (L3:eK X.nt ((d1,⟨[],.pt [] 0⟩) :: st.sl) (some d2)=true)
  (hs:rv st [] s=some (.sl 0 es (some kt))) (hi:rv st [] ix=some (.v (.int kd z))) (hx:rv ⟨(d2,⟨[],.pt [] 0⟩) :: (d1,⟨[],.pt [] 0⟩) :: st.sl,st.bx,st.tk⟩ [] x=some dv) (hdv:eraD dv=some Qj) (Qk:dv.cells=[dv])
  (hT:X.T.find t=some ⟨nn,bb,.sl et e iQ,zz⟩) (u7:X.T.off sT f=some (off,ft)) (cR:X.T.sz ty=some 1)
  (hq:st.tk[kt]? = some ⟨m,KQ,e,some cs⟩) (qC:es.length=m) (hz:0<=z/\z < m) (N6:off + 1<=e)
  (hk:go X 4000 (.ops all r :: k) ⟨(d2,⟨[],.pt [] 0⟩) :: (d1,⟨[],.pt [] 0⟩) :: st.sl,st.bx,st.tk.set kt ⟨m,KQ,e,some (cs.set (z.toNat * e + off) Qj)⟩⟩)
  (hst:X.still=false:=by exact rfl):EH X o1 (.ops all (o2 :: o3 :: r) :: k) st:=by
 intro E a w h;have iv:=h.rl;have e1:=aP iv hs;have e2:=bH (aP iv hi);unfold Rv at e1;obtain ⟨bs,ns,lN,e1,⟨zc,ES⟩,Sf,ET⟩:=e1;subst zc;obtain ⟨q',j3,_,On⟩:=ET kt rfl;have iR:E.tk[kt]? = some ⟨m,KQ,e,some cs⟩:=by rw [h.tk];exact hq
 rw [iR] at j3;simp only [oI] at j3;subst j3;have hy:=On qC;rw [e1,qC] at hy;rw [qC] at e1;have Ql:=h.env.b9 kt _ _ iR hy;rcases Ql with ⟨pz,ti,_⟩ | ⟨g,cap,cur,pz,hw0,⟨EV,EW⟩,CG,CH,gk,Ii⟩
 ·simp only at ti;omega
 injection pz with i1 i2 i3
 subst i1 i3;obtain ⟨hu,ii,zv,va,_,Ur,_,_⟩:=dV X.hT hT;have pB:fU X.P et=some e:=by rw [eQ va,Ur]
 have Qm:(execOp a.eval o1).run X.P w = .ok (.value (.pointer (some ⟨g,z.toNat * e,none⟩))) w:=by
  have bO:(Instr.indexAt t (.slice (some ⟨g,0,none⟩) m lN) (.int kd z)).run X.P w = .ok (.pointer (some ⟨g,z.toNat * e,none⟩)) w:=by
   simp [Instr.indexAt,asIntOf,run_underlying hu,hz.1,hz.2,aG pB,Addr.add_lit]
  simp only [execOp,h1.1,e1,e2,Sem.run_bind,bO,Result.andThen_ok,Sem.run_pure]
 refine iV Qm ?_;rw [h1.2];have hr1:Rel X E ⟨(d1,⟨[],.pt [] 0⟩) :: st.sl,st.bx,st.tk⟩ (a.put (some d1) (.pointer (some ⟨g,z.toNat * e,none⟩))) w:=bl h ze (.pt [] 0) _ (by unfold Rv;exact ⟨g,z.toNat * e,rfl,by simp only [RvAt]⟩);generalize ha1:a.put (some d1) (.pointer (some ⟨g,z.toNat * e,none⟩))=a1 at hr1
 have ht1:a1.eval (.tmp d1) = .pointer (some ⟨g,z.toNat * e,none⟩):=by
  subst ha1;simp only [eK,bA,Nat.blt_eq] at ze;simp [Act.eval,Act.put,h.sz,ze.1]
 show kq X (.ops all (o2 :: o3 :: r) :: k) .normal a1 w;simp only [kq,wpList,Region.wanted,h2.2.2,h3.2.2,if_true];refine .inl (iV (v:=.pointer (some ⟨g,z.toNat * e + off,none⟩)) (w':=w) ?_ ?_)
 ·simp only [execOp,h2.1,ht1,Sem.run_bind,gF (nP X.hT u7),Result.andThen_ok,Sem.run_pure]
 rw [h2.2.1];have lu:Rel X E ⟨(d2,⟨[],.pt [] 0⟩) :: (d1,⟨[],.pt [] 0⟩) :: st.sl,st.bx,st.tk⟩ (a1.put (some d2) (.pointer (some ⟨g,z.toNat * e + off,none⟩))) w:=bl hr1 L3 (.pt [] 0) _ (by unfold Rv;exact ⟨g,z.toNat * e + off,rfl,by simp only [RvAt]⟩);generalize Ig:a1.put (some d2) (.pointer (some ⟨g,z.toNat * e + off,none⟩))=a2 at lu
 have Us:a2.eval (.tmp d2) = .pointer (some ⟨g,z.toNat * e + off,none⟩):=by
  subst Ig;simp only [eK,bA,Nat.blt_eq] at L3;simp [Act.eval,Act.put,hr1.sz,L3.1]
 have e3:=aP lu.rl hx
 have gM:RvC E [dv] (a2.eval x).cells.toList:=by
  have:=e3.cells (gL (n:=1) (by rw [Qk];rfl) (by omega))
  rwa [Qk] at this
 have CF:(a2.eval x).cells.toList.length=1:=by rw [gM.1.length];all_goals rfl
 obtain ⟨xv,Sy⟩:∃ xv,(a2.eval x).cells.toList=[xv]:=by
  match hh:(a2.eval x).cells.toList,CF with
  | [y],_=>exact ⟨y,rfl⟩
 obtain ⟨h5,h6⟩:=EW cs rfl;simp only at h5 h6 EV hw0 CG;have Qn:cur.toList.length=lN * e:=sU EV;have Ut:m * e<=lN * e:=Nat.mul_le_mul_right _ CG
 have mH:z.toNat * e + off + 1<=m * e:=by
  have:(z.toNat + 1) * e<=m * e:=Nat.mul_le_mul_right _ (by omega);rw [Nat.add_mul] at this;omega
 have Oi:=jx (P:=X.P) (t:=ty) (off:=z.toNat * e + off) (n:=1) hw0 (Bq X.hT cR) CF (by rw [EV];omega) (List.all_eq_true.2 gM.2);refine .inl (Ih (w':=World.cS w g (.cells ((cur.toList.take (z.toNat * e + off) ++ (a2.eval x).cells.toList ++ cur.toList.drop (z.toNat * e + off + 1)).toArray) KQ (0,0))) ?_ ?_)
 ·simp only [execOp,h3.1,Us,Instr.storeAt,Instr.sureAddr,Sem.run_bind,Sem.run_pure,Result.andThen_ok,Oi]
 rw [h3.2.1]
 have LN:cur.toList.take (z.toNat * e + off) ++ (a2.eval x).cells.toList ++ cur.toList.drop (z.toNat * e + off + 1)=cur.toList.set (z.toNat * e + off) xv:=by
  rw [Sy,List.set_eq_take_append_cons_drop,zIfP (by omega)];simp
 rw [LN]
 have hx1:RvC E.cl [Qj] [xv]:=by
  rw [Sy] at gM;have h7:=gM.1;simp only [RvL] at h7;obtain ⟨v,s',h8,h9,tv⟩:=h7;simp only [List.cons.injEq] at h8;obtain ⟨rfl,rfl⟩:=h8;exact ⟨rvL_cons (qD hdv h9) (by simp only [RvL]),gM.2⟩
 have J9:zk (World.cS w g (.cells (cur.toList.set (z.toNat * e + off) xv).toArray KQ (0,0))) E.c E.β ⟨m,KQ,e,some (cs.set (z.toNat * e + off) Qj)⟩ (.slice (some ⟨g,0,none⟩) m lN):=by
  refine .inr ⟨g,lN,_,rfl,fV hw0,⟨by simpa using Qn,fun cs' Bs=>?_⟩,CG,CH,gk,Ii⟩;simp only [oI] at Bs;subst Bs;simp only;refine ⟨by rw [List.length_set];exact h5,?_⟩;rw [List.take_set];have ap:z.toNat * e + off < (cur.toList.take (m * e)).length:=by rw [eP];omega
  rw [List.set_eq_take_append_cons_drop,zIfP (by omega),List.set_eq_take_append_cons_drop,zIfP ap];have h8:=(RvC.take (z.toNat * e + off) h6).append (RvC.append hx1 (RvC.drop (z.toNat * e + off + 1) h6));simpa using h8
 have LY:some g≠some g->False:=fun h=>h rfl
 obtain ⟨bD,hext⟩:=Bv (q':=⟨m,KQ,e,some (cs.set (z.toNat * e + off) Qj)⟩) (w':=World.cS w g (.cells (cur.toList.set (z.toNat * e + off) xv).toArray KQ (0,0))) lu hst iR hy rfl rfl rfl (.inl ⟨rfl,rfl⟩) J9 (.inl rfl) rfl rfl rfl (by rw [eJ];exact zLeR _) (fun j _ bi=>cx (by
  rintro rfl
  exact bi rfl))
 exact go_sound 4000 _ _ hk _ _ _ bD
open Classical in
noncomputable def xV (E:En) (w:World) (y:Value) (n:Nat):Addr->Option Value:=
 fun x=>if y.ownBlock=some x.block/\x.spot=none/\x.off < n then w.cell? x else E.c x
theorem ie {y:Value} {n:Nat} {x:Addr} {v:Value} (h:xV E w y n x=some v):(y.ownBlock=some x.block/\x.spot=none/\x.off < n/\w.cell? x=some v)∨E.c x=some v:=by
 unfold xV at h
 grind
theorem IY (h:Rel X E st a w) {k n ty e:Nat} {cs:List DV} {ns:List (List DV)} (hq:st.tk[k]? = some ⟨n,ty,e,some cs⟩) (cm:cs=ns.flatten) (zc:∀ x∈ns,x.length=e) (fi:ns.length=n) :
  ∃ E',Rel X E' ⟨st.sl,st.bx,st.tk.set k ⟨n,ty,e,none⟩⟩ a w/\Ext E E' /\ ∀ es y,es.length=n->Rv E (.sl 0 es (some k)) y->Rv E' (.sl e ns (some k)) y:=by
 subst cm;have iR:E.tk[k]? = some ⟨n,ty,e,some ns.flatten⟩:=by rw [h.tk];exact hq
 have eo:=(gS iR).1;have Oh:k < E.τ.length:=by rw [h.env.tl];exact eo
 have hv:E.τ[k]? = some E.τ[k]:=gE Oh;generalize E.τ[k]=v at hv;have Ql:=h.env.b9 k _ v iR hv
 have fN:∀ x u,E.c x=some u->xV E w v (n * e) x=some u:=fun x u hx=>by
  unfold xV;split
  ·exact h.env.sub x u hx
  ·exact hx
 have hext:Ext E ⟨xV E w v (n * e),E.β,E.tk.set k ⟨n,ty,e,none⟩,E.τ⟩:=⟨fN,fun _ _ h=>h,fun j q Sz=>by
  by_cases hj:j=k
  ·subst hj;rw [iR] at Sz;simp only [oI] at Sz;subst Sz;exact ⟨_,fT eo,.inl ⟨rfl,rfl⟩⟩
  ·exact ⟨q,by rw [List.getElem?_set_ne (Ne.symm hj)];exact Sz,.inl ⟨rfl,rfl⟩⟩⟩
 refine ⟨⟨xV E w v (n * e),E.β,E.tk.set k ⟨n,ty,e,none⟩,E.τ⟩,cy h hext ?_ (by rw [h.tk]) ?_ h.fr h.sh h.bt,hext,?_⟩
 ·exact {
   len:=h.env.len
   tl:=by simp only [List.length_set];exact h.env.tl
   dn:=fun i cs hi=>by
    obtain ⟨b,t,arr,hb,hw,hc⟩:=h.env.dn i cs hi;exact ⟨b,t,arr,hb,hw,hc.mono hext⟩
   inj:=h.env.inj
   sub:=fun x u hx=>by
    rcases ie hx with ⟨_,_,_,h1⟩ | h1
    ·exact h1
    ·exact h.env.sub x u h1
   pc:=fun x u hx hm=>by
    rcases ie hx with ⟨h1,_⟩ | h1
    ·exact (fy Ql h1).2 hm
    ·exact h.env.pc x u h1 hm
   b9:=fun j q y hj hy=>by
    by_cases Uu:j=k
    ·subst Uu;have gN:(E.tk.set j ⟨n,ty,e,none⟩)[j]? = some q:=hj;rw [fT eo] at gN;have fm:E.τ[j]? = some y:=hy;rw [hv] at fm;simp only [oI] at gN fm;subst gN fm;rcases Ql with ⟨h1,h2,_⟩ | ⟨g,cap,cur,rfl,h1,h2,h3,h4,h5,h6⟩
     ·exact .inl ⟨h1,h2,fun cs hc=>by cases hc⟩
     ·refine .inr ⟨g,cap,cur,rfl,h1,⟨h2.1,my.none rfl⟩,h3,h4,h5,fun x u hx zs=>?_⟩;rcases ie hx with ⟨_,_,h7,_⟩ | h7
      ·exact h7
      ·have:=h6 x u h7 zs;simp only [TkE.kn] at this;omega
    ·have gN:E.tk[j]? = some q:=by
      have:(E.tk.set k ⟨n,ty,e,none⟩)[j]? = some q:=hj
      rwa [List.getElem?_set_ne (Ne.symm Uu)] at this
     rcases h.env.b9 j q y gN hy with h1 | ⟨g,cap,cur,rfl,h1,h2,h3,h4,h5,h6⟩
     ·exact .inl h1
     ·refine .inr ⟨g,cap,cur,rfl,h1,⟨h2.1,h2.2.mono fN⟩,h3,h4,h5,fun x u hx zs=>?_⟩;rcases ie hx with ⟨h7,_⟩ | h7
      ·exact (h.env.gp j k _ v g Uu hy hv rfl (by rw [h7,zs])).elim
      ·exact h6 x u h7 zs
   gp:=h.env.gp }
 ·exact {
   c:=fun x u hx=>fN x u (h.nw.c x u hx)
   cn:=fun x u hx=>by
    rcases ie hx with ⟨h1,_⟩ | h1
    ·rcases h.nw.own hv h1 with h2 | h2
     ·exact .inr (.inr h2)
     ·exact .inr (.inl h2)
    ·exact h.nw.cn x u h1
   β:=h.nw.β
   tk:=fun j q0 y0 wU zo=>by
    obtain ⟨q1,y1,h1,h2,h3,h4,h5,h6⟩:=h.nw.tk j q0 y0 wU zo;by_cases hj:j=k
    ·subst hj;rw [iR] at h1;simp only [oI] at h1;subst h1;exact ⟨_,y1,fT eo,h2,h3,h4,h5,h6⟩
    ·exact ⟨q1,y1,by rw [List.getElem?_set_ne (Ne.symm hj)];exact h1,h2,h3,h4,h5,h6⟩
   tn:=fun j y g hj hy=>h.nw.tn j y g hj hy
   l0:=h.nw.l0 }
 ·intro es y qC hy;unfold Rv at hy ⊢;obtain ⟨b,m,cap,rfl,⟨rfl,hmc⟩,hr,hst⟩:=hy;obtain ⟨q',j3,_,hτ⟩:=hst k rfl;rw [iR] at j3;simp only [oI] at j3;subst j3;have hy:=hτ qC;rw [hv] at hy;simp only [oI] at hy;subst hy;refine ⟨b,es.length,cap,rfl,⟨by omega,hmc⟩,fun bi=>?_,fun k' fl=>?_⟩
  ·rcases Ql with ⟨h1,h2,h3⟩ | ⟨g,Od,cur,h0,h1,h2,h3,h4,h5,h6⟩
   ·simp only at h2;exact (bi (List.eq_nil_of_length_eq_zero (by omega))).elim
   ·injection h0 with i1 i2 i3
    subst i1;refine ⟨rfl,?_⟩;obtain ⟨h7,h8⟩:=h2.2 _ rfl;refine rvEs_flat (h8.mono (E:=⟨E.c,[],[],[]⟩) ⟨fN,fun _ _ h=>by simp at h,fun _ _ h=>by simp at h⟩) zc fun j u hj=>?_;rw [bM] at hj;split at hj
    ·rename_i pA;show xV E w _ (n * e) _=_;unfold xV;rw [zIfP ⟨rfl,rfl,by simpa [ao] using pA⟩];simp only [ab,ao,Nat.zero_add];rw [bX h1];simpa using hj
    ·cases hj
  ·cases fl;exact ⟨_,fT eo,by simp only;omega,fun _=>hv⟩
theorem Mx {j o k n ty e:Nat} {Ey:List DV} {es ns:List (List DV)} (hq:st.tk[k]? = some ⟨n,ty,e,some ns.flatten⟩) (zc:∀ x∈ns,x.length=e) (fi:ns.length=n) (hj:st.bx[j]? = some Ey) (ho:Ey[o]? = some (.sl 0 es (some k))) (qC:es.length=n) :
  Wk X st ⟨st.sl,st.bx.set j (Ey.set o (.sl e ns none)),st.tk.set k ⟨n,ty,e,none⟩⟩:=by
 intro E a w h;obtain ⟨E',hr,hx,nX⟩:=IY h hq rfl zc fi;refine ⟨E',{ hr with env:=?_ }⟩
 exact { hr.env with
  len:=by simp only [List.length_set];exact hr.env.len
  dn:=fun i cs' hi=>by
   by_cases wy:i=j
   ·subst wy;have ap:=(gS hj).1;have j9:(st.bx.set i (Ey.set o (.sl e ns none)))[i]? = some cs':=hi;rw [fT ap] at j9;simp only [oI] at j9;subst j9;obtain ⟨b,t,arr,hb,hw,hc⟩:=hr.env.dn i Ey hj;obtain ⟨b0,t0,EZ,gk,hw0,Ii⟩:=h.env.dn i Ey hj;have lp:=hx.β i b0 gk;rw [hb] at lp;simp only [oI] at lp;subst lp;rw [hw] at hw0;simp only [oI,Obj.cells.injEq] at hw0
    have FQ:arr=EZ:=by
     have:=hw0.1;simpa using this
    subst FQ;refine ⟨b,t,arr,hb,hw,?_,hc.2⟩;obtain ⟨v,pU,Cz⟩:=Ii.1.get ho;have KI:=nX es v qC Cz;have iY:=(gS ho).1;have LJ:arr.length=Ey.length:=hc.1.length
    have h1:=(RvL.take o hc.1).append (rvL_cons (d:=.sl e ns none) (v:=v) (by
     unfold Rv at KI ⊢;obtain ⟨b,n,cap,g1,g2,g3,_⟩:=KI
     exact ⟨b,n,cap,g1,g2,g3,fun k hk=>by cases hk⟩) (RvL.drop (o + 1) hc.1))
    rw [List.set_eq_take_append_cons_drop,zIfP iY]
    have h2:arr.take o ++ v :: arr.drop (o + 1)=arr:=by
     have hoa:o < arr.length:=by omega
     have:arr[o]=v:=by grind
     rw [<- this];simp
    rwa [h2] at h1
   ·have j9:(st.bx.set j (Ey.set o (.sl e ns none)))[i]? = some cs':=hi;rw [List.getElem?_set_ne (Ne.symm wy)] at j9
    exact hr.env.dn i cs' j9 }
theorem Wk.zJ (i j:Nat) (S S':St) (he:S'=ei i j S) (EO:Nat.ble X.n0 i=true) (wX:Nat.ble X.n0 j=true) (hi:Nat.blt i S.bx.length=true) (hj:Nat.blt j S.bx.length=true) (hX:X.bt=[]:=by exact rfl):Wk X S' S:=fun E a w h=>by
 subst he;simp only [Nat.blt_eq] at hi hj;exact BI hX h (nL EO) (nL wX) hi hj
theorem z7 {c:Code} (I:Nat->St->Prop) (j0:Nat) (iB:St) (hw:Wk X st iB) (h0:I j0 iB)
  (hr:∀ j s,I j s->go X 4000 (.code c :: .y8 (fun s'=>∃ xj,Wk X s' xj /\ ∃ j',j' < j/\I j' xj) :: k) s):oU X c k st:=by
 intro E a w h;obtain ⟨E0,hr0⟩:=hw _ _ _ h
 classical
 let Inv:Act->World->Prop:=fun a w=>∃ j s E,Rel X E s a w/\I j s
 let μ:Act->World->Nat:=fun a w=>if hI:Inv a w then Classical.choose (least hI) else 0
 refine wp_loop Inv μ ⟨j0,iB,E0,hr0,h0⟩ ?_;intro a1 w1 hI;have tF:=(Classical.choose_spec (least hI)).1;obtain ⟨s,E1,bD,Tk⟩:=tF;have hs:=go_sound 4000 _ _ (hr _ s Tk) E1 a1 w1 bD;rw [c7] at hs;refine wp_mono hs ?_;intro e a2 w2 hq
 cases e with
 | normal=>
  obtain ⟨s',E2,xk,xj,Iq,j',gN,OA⟩:=hq;obtain ⟨E3,xl⟩:=Iq _ _ _ xk;have LU:Inv a2 w2:=⟨j',xj,E3,xl,OA⟩;refine ⟨LU,?_⟩;simp only [μ,dif_pos hI,dif_pos LU];exact Nat.lt_of_le_of_lt ((Classical.choose_spec (least LU)).2 j' ⟨xj,E3,xl,OA⟩) gN
 | exit id=>exact hq
 | goto l=>exact hq
 | ret=>exact hq
 | panic c=>exact hq
 | outgrown=>exact hq
mutual
def flatD:DV->Bool
 | .v _=>true
 | .agg l=>flatL l
 | .bS l=>flatL l
 | _=>false
def flatL:List DV->Bool
 | []=>true
 | d :: r=>flatD d && flatL r
end
mutual
theorem Rv.flat {E E':En}:∀ {d:DV} {v:Value},flatD d=true->Rv E d v->Rv E' d v
 | .v x,v,_,h=>by unfold Rv at h ⊢;exact h
 | .agg l,v,hf,h=>by
  simp only [flatD] at hf;simp only [Rv] at h ⊢;obtain ⟨vs,h1,h2,h3⟩:=h;exact ⟨vs,h1,RvL.flat hf h2,h3⟩
 | .bS l,v,hf,h=>by
  simp only [flatD] at hf;simp only [Rv] at h ⊢;obtain ⟨vs,h1,h2⟩:=h;exact ⟨vs,h1,RvL.flat hf h2⟩
 | .ud,_,hf,_=>by simp [flatD] at hf
 | .sl _ _ _,_,hf,_=>by simp [flatD] at hf
 | .pt _ _,_,hf,_=>by simp [flatD] at hf
 | .loc _ _,_,hf,_=>by simp [flatD] at hf
 | .el _ _,_,hf,_=>by simp [flatD] at hf
 | .ms _ _ _ _ _,_,hf,_=>by simp [flatD] at hf
 | .fn _ _ _,_,hf,_=>by simp [flatD] at hf
 | .lH _ _,_,hf,_=>by simp [flatD] at hf
theorem RvL.flat {E E':En}:∀ {l:List DV} {vs:List Value},flatL l=true->RvL E l vs->RvL E' l vs
 | [],vs,_,h=>by simpa only [RvL] using h
 | d :: r,vs,hf,h=>by
  simp only [flatL,bA] at hf;simp only [RvL] at h ⊢;obtain ⟨v,s,h1,h2,h3⟩:=h;exact ⟨v,s,h1,Rv.flat hf.1 h2,RvL.flat hf.2 h3⟩
end
theorem BZ {f:FuncId} {args aZ:List DV} {d:Nat} {y:DV} (iW:Enters X.P f) (hc:aV X.P f aZ y) (ha:CcL st.bx 0 0 0 aZ args) (hy:flatD y=true) (hd:eK X.nt st.sl (some d)=true)
  (hk:go X 4000 k ⟨(d,⟨[],y⟩) :: st.sl,st.bx,st.tk⟩) (hst:X.still=false:=by exact rfl):CallG X f args (some d) k st:=by
 refine ⟨iW,hst,fun E a w vs h hv=>(gI h.env hc ha hv).mono ?_⟩;rintro e w' ⟨v,E2,rfl,hr,hm,_⟩;have hh:∀ i,i < w.heap.size->w'.heap[i]? = w.heap[i]?:=fun i hi=>hm.block i hi (fun h=>h);have bD:Rel X E st a w':=cy h (Ext.refl E) (h.env.fx hh) h.tk h.nw (h.fr.bN hm.os hm.tape hm.output hm.size fun i hi=>.inr (hh i hi)) (ln hst) (h.bt.fx fun b hb=>hh b (h.env.aQ hb));exact go_sound 4000 _ _ hk E _ w' (bl bD hd y v (Rv.flat hy hr))
theorem mW {D:Dr} {c:Bool} {i:Nat} {s0:List (Nat × Sl)} {f:FuncId} {args aZ:List DV} {d:Nat} {y:DV} {r:List (Nat × Oper)} (iW:Enters X.P f) (hc:aV X.P f aZ y) (ha:CcL st.bx 0 0 0 aZ args) (hy:flatD y=true) (hd:(eK X.nt st.sl (some d) && eK X.nt s0 (some d))=true)
  (hk:put2 s0 st (some d) true [] y (goD X D 3000 c r)) (hst:X.still=false:=by exact rfl):tJ X D c i r f args (some d) s0 st:=by
 refine ⟨iW,fun hl E0 wr hD E a w vs h hv=>(gI h.rel.env hc ha hv).mono ?_⟩;rintro e w' ⟨v,E2,rfl,hr,hm,_⟩;have hh:∀ i,i < w.heap.size->w'.heap[i]? = w.heap[i]?:=fun i hi=>hm.block i hi (fun h=>h);have bD:Rel X E st a w':=cy h.rel (Ext.refl E) (h.rel.env.fx hh) h.rel.tk h.rel.nw (h.rel.fr.bN hm.os hm.tape hm.output hm.size fun i hi=>.inr (hh i hi)) (ln hst) (h.rel.bt.fx fun b hb=>hh b (h.rel.env.aQ hb));have hs:El none E w E w':=⟨Ext.refl E,⟨[],by simp⟩,fun j b hb _=>hh b (h.rel.env.aQ (mG hb))⟩;have hC:=BF h hs bD (fun j hj=>by cases hj);refine ⟨v,rfl,fun _=>hC,?_⟩;have xu:eB X ⟨D,E0,wr⟩ c E s0 st (a.put none v) w':=qR h hs bD (fun h1=>hC (h.cc h1)) (fun i x hx=>.inr ⟨hx,fun d hd=>by cases hd⟩) rfl;obtain ⟨s1,nI,mn,di⟩:=fW xu hd true [] y v (fun _ _ p hp=>by cases hp) (fun _=>Rv.flat hy hr) (fun _ _=>Rv.flat hy hr) (fun hn=>(hn (aM _)).elim) hk;exact eL (D:=⟨D,E0,wr⟩) hD 3000 c r _ _ mn hl E _ w' di
theorem CallG.zJ {S:St} {f:FuncId} {args aZ:List DV} {dst:Option Nat} (i j:Nat) (hS:st=ei i j S) (ha:args=renL (swp i j) aZ) (EO:Nat.ble X.n0 i=true) (wX:Nat.ble X.n0 j=true) (hi:Nat.blt i S.bx.length=true) (hj:Nat.blt j S.bx.length=true)
  (h:CallG X f aZ dst k S) (hX:X.bt=[]:=by exact rfl):CallG X f args dst k st:=by
 subst hS ha;simp only [Nat.blt_eq] at hi hj;refine ⟨h.1,h.2.1,fun E a w vs hr hv=>?_⟩
 have hlen:E.β.length=S.bx.length:=by
  rw [hr.env.len];simp only [ei,dH,dj]
 exact h.2.2 _ a w vs (xy hX hr (nL EO) (nL wX) hi hj) (RvL.zJ (by rw [hlen];exact hi) (by rw [hlen];exact hj) hv)
end
end Dv
end Go.Proofs.YtfdedoiiahbnnaaGreat
namespace Go.Proofs.YtfdedoiiahbnnaaGreat
namespace Dv
open Go Go.RowKit
section
variable {X:Ctx} {st:St} {k:List It} {E:En} {a:Act} {w:World} {ops:Array Oper} {W:Nat->Bool} {C:World->Prop} {Q:Act->World->Prop} {i:Nat} {r:List Nat} {o:Oper}
theorem fY (hg:o.guard=none):Region.wanted o (yielded ops a.tmps)=true:=by
 unfold Region.wanted;rw [hg]
theorem IZ {bx:List (List DV)} {wr:World} (h:Rel X E st a w) (hE:qQ E bx wr) (hC:∀ w',C w' -> CC E bx wr w'):Rl E bx C st.sl a where
 tm:=h.tm
 dn:=fun i cs hi=>by
  by_cases bi:cs=[]
  ·subst bi;have ap:i < E.β.length:=by rw [hE.len];exact (gS hi).1
   exact ⟨_,[],gE ap,⟨bW _,by simp⟩,fun w' _ j u hj=>by simp at hj⟩
  ·obtain ⟨b,ty,arr,hb,hw,hc⟩:=hE.dn i cs hi bi;exact ⟨b,arr,hb,hc,fun w' h' j u hj=>by rw [bX (((hC w' h').o i b cs hb hi bi).trans hw)];simpa using hj⟩
 cc:=fun x v hx w' h'=>(hC w' h').c x v hx
theorem I0 {bx:List (List DV)} (h:Env E bx w) (m:List Nat):qQ E (maskL m 0 bx) w:=⟨by rw [n5];exact h.len,fun i cs hi bi=>by
 rcases n7 m _ _ _ _ hi with h1 | h1
 ·exact (bi h1).elim
 ·exact h.dn i cs h1⟩
theorem jN (hR:Rel X E st a w) (ho:ops[i]? = some o) (hE:oX o.op=false) (hL:nQ o.op=false) (hg:o.guard=none) {s:DV} (hs:pureT X.P X.T ⟨st.sl,[],[]⟩ [] o.op=some s) (hd:eK X.nt st.sl o.dst=true)
  (hk:∀ a',Rel X E (st.put o.dst ⟨[],s⟩) a' w->runT X.P ops W C Q r a' w):runT X.P ops W C Q (i :: r) a w:=by
 have iv:Rl E [] (fun _=>False) st.sl a:=⟨hR.tm,fun i cs hi=>by simp at hi,fun _ _ _ _ h=>h.elim⟩;obtain ⟨v,hv,bO⟩:=fw (st:=⟨st.sl,[],[]⟩) X.hT iv (aM _) hs;simp only [runT,ho,hE,Bool.false_eq_true,if_false];exact ⟨v,.inl ⟨fY hg,fun w' _=>bO w' fun h=>by rw [hL] at h;cases h⟩,fun h=>(by rw [hL] at h;cases h),hk _ (bl hR hd s v hv)⟩
theorem I1 (hR:Rel X E st a w) (ho:ops[i]? = some o) {bx:List (List DV)} (iv:Rl E bx C st.sl a) (OG:C w) (hE:oX o.op=false) (hg:o.guard=none) {s:DV} (hs:pureT X.P X.T ⟨st.sl,bx,[]⟩ [] o.op=some s) (hd:eK X.nt st.sl o.dst=true)
  (hk:∀ a',Rel X E (st.put o.dst ⟨[],s⟩) a' w->runT X.P ops W C Q r a' w):runT X.P ops W C Q (i :: r) a w:=by
 obtain ⟨v,hv,bO⟩:=fw (st:=⟨st.sl,bx,[]⟩) X.hT iv (aM _) hs;simp only [runT,ho,hE,Bool.false_eq_true,if_false];exact ⟨v,.inl ⟨fY hg,fun w' h=>bO w' h⟩,fun _=>OG,hk _ (bl hR hd s v hv)⟩
theorem I2 (hR:Rel X E st a w) (ho:ops[i]? = some o) {t x d:Nat} {b p j:Nat} {n:Nat} {kd:TK} {z:List Value} (hb:E.β[j]? = some b) (pX:o.op = .load t (.tmp x)) (iJ:o.dst=some d) {i2 z8 b2:Nat} (iU:E.β[i2]? = some b2) (hx:rv st [] (.tmp x)=some (.loc i2 p)) (hT:X.T.find t=some ⟨n,false,kd,z⟩)
  (hC:∀ w',C w' -> w'.cell? ⟨b2,p,none⟩=some (.pointer (some ⟨b,z8,none⟩))) (OG:C w) (hg:o.guard=none) (hd:eK X.nt st.sl (some d)=true)
  (hk:∀ a',Rel X E ⟨(d,⟨[],.loc j z8⟩) :: st.sl,st.bx,st.tk⟩ a' w->runT X.P ops W C Q r a' w):runT X.P ops W C Q (i :: r) a w:=by
 have hE:oX o.op=false:=by rw [pX];all_goals rfl
 simp only [runT,ho,hE,Bool.false_eq_true,if_false];have hv:Rv E (.loc j z8) (.pointer (some ⟨b,z8,none⟩)):=by unfold Rv;exact ⟨b,hb,rfl⟩
 refine ⟨.pointer (some ⟨b,z8,none⟩),.inl ⟨fY hg,fun w' h=>?_⟩,fun _=>OG,?_⟩
 ·have Tn:=hC w' (h (by rw [pX];rfl));have e1:=aP hR.rl hx;unfold Rv at e1;obtain ⟨b3,HT,e1⟩:=e1;rw [iU] at HT;simp only [oI] at HT;subst HT;have Ia:=(te_parts X.hT hT).2.1
  have hl:(loadVar t ⟨b2,p,none⟩).run X.P w' = .ok (.pointer (some ⟨b,z8,none⟩)) w':=by
   simp [loadVar,gV Ia,Tn]
  simp only [execOp,pX,e1,Sem.run_bind,Instr.loadAt,Instr.sureAddr,Sem.run_pure,Result.andThen_ok,hl]
 ·rw [iJ];exact hk _ (bl hR hd (.loc j z8) _ hv)
theorem Dd (hR:Rel X E st a w) (ho:ops[i]? = some o) {dst:Option Nat} {f:Operand} {args:Array Operand} {SA:Array TypeId} (pX:o.op = .call ⟨.value f,args,SA⟩) (iJ:o.dst=dst) (hg:o.guard=none) {g:FuncId} {ds:List DV} (hf:rv st [] f=some (.fn g [] [])) (hl:argsV st [] args.toList=some ds) (iW:Enters X.P g)
  {K:Value->World->Prop} (hc:∀ vs,RvL E ds vs->Calls X.P g vs.toArray w fun e w'=>∃ v,e = .returned v/\K v w') (hk:∀ v w',K v w' -> (W i=false->C w->C w')/\runT X.P ops W C Q r (a.put dst v) w'):runT X.P ops W C Q (i :: r) a w:=by
 have hE:oX o.op=true:=by rw [pX];all_goals rfl
 have SB:=fY (ops:=ops) (a:=a) hg;have iv:=hR.rl;have e1:=aP iv hf;unfold Rv at e1;obtain ⟨l1,r1,e1,wz,hr1⟩:=e1;simp only [RvL] at wz hr1;subst wz hr1;have hargs:=fv iv (aM _) _ _ hl;simp only [runT,ho,hE,if_true,dD,SB];subst iJ;obtain ⟨dst,op,ty,pos,after,gu⟩:=o;simp only at pX;subst pX
 have hr:(execOp a.eval ⟨dst,.call ⟨.value f,args,SA⟩,ty,pos,after,gu⟩).run X.P w = .ok (.enter g (args.toList.map a.eval).toArray) w:=by
  have e3:(([]:List Value).toArray ++ args.map a.eval ++ ([]:List Value).toArray)=(args.toList.map a.eval).toArray:=by apply Array.ext';simp
  simp only [execOp,resolve,e1,Deferred.ofValue,Sem.run_bind,Sem.run_pure,Result.andThen_ok,invoke,e3];exact iW _ _
 unfold wq;rw [hr];refine (hc _ hargs).mono ?_;rintro e w' ⟨v,rfl,hK⟩;exact ⟨v,rfl,hk v w' hK⟩
theorem I3 (hR:Rel X E st a w) (ho:ops[i]? = some o) {dst:Option Nat} {f:Operand} {args:Array Operand} {SA:Array TypeId} (pX:o.op = .call ⟨.value f,args,SA⟩) (iJ:o.dst=dst) (hg:o.guard=none) {g:FuncId} {ds Mj:List DV} (hf:rv st [] f=some (.fn g [] [])) (hl:argsV st [] args.toList=some ds) (iW:Enters X.P g)
  {os:List (List DV)} (n1 m1:Nat) (wT:Nat.ble n1 st.bx.length=true) (iw:Nat.ble m1 st.tk.length=true) (wY:jy [] n1 n1 m1 os (st.bx.take n1)) (ha:CcL [] n1 n1 m1 Mj ds)
  {Φ:DV->List (List DV)->List TkE->Prop} (hc:Ev X.P g Mj os (st.tk.take m1) Φ) (hst:X.still=false) (hX:X.bt=[])
  (hk:∀ v r' os' tk' E' w',Φ r' os' tk' -> os'.length=n1->tk'.length=m1->Rel X E' ⟨st.sl,os' ++ st.bx.drop n1,tk' ++ st.tk.drop m1⟩ a w' -> Rv E' r' v->Ext E E' -> E'.β=E.β->(∀ (i:Nat) b,n1<=i->E.β[i]? = some b->w'.heap[b]? = w.heap[b]?) ->
   (W i=false->C w->C w')/\runT X.P ops W C Q r (a.put dst v) w'):runT X.P ops W C Q (i :: r) a w:=by
 refine Dd hR ho pX iJ hg hf hl iW (K:=fun v w'=>∃ r' os' tk' E',Φ r' os' tk' /\ os'.length=n1/\tk'.length=m1/\Rel X E' ⟨st.sl,os' ++ st.bx.drop n1,tk' ++ st.tk.drop m1⟩ a w' /\ Rv E' r' v/\Ext E E' /\ E'.β=E.β/\∀ (i:Nat) b,n1<=i->E.β[i]? = some b->w'.heap[b]? = w.heap[b]?)
  (fun vs hv=>?_) ?_
 ·refine (rr n1 m1 wT iw wY ha hc hst hX hR hv).mono ?_
  grind
 ·grind
theorem I4 (h:Rel X E st a w) (j o k:Nat) {n ty e:Nat} {Ey:List DV} {es ns:List (List DV)} (hq:st.tk[k]? = some ⟨n,ty,e,some ns.flatten⟩) (zc:∀ x∈ns,x.length=e) (fi:ns.length=n) (hj:st.bx[j]? = some Ey) (ho:Ey[o]? = some (.sl 0 es (some k))) (qC:es.length=n) :
  ∃ E',Rel X E' ⟨st.sl,st.bx.set j (Ey.set o (.sl e ns none)),st.tk.set k ⟨n,ty,e,none⟩⟩ a w:=Mx hq zc fi hj ho qC E a w h
theorem De (hR:Rel X E st a w) (ho:ops[i]? = some o) (hE:oX o.op=true) (hg:o.guard=none) (hW:W i=true) (hd:eK X.nt st.sl o.dst=true) {p:Prop} (hp:effC X st o (go X 4000 k)=some p) (h:p):runT X.P ops W C (fun a w=>kq X k .normal a w) [i] a w:=by
 have SB:=fY (ops:=ops) (a:=a) hg;simp only [runT,ho,hE,if_true,dD,SB];refine jD ?_ (jE hd hR hp h);rintro a' w' ⟨st',E',qF,hr,_⟩;exact ⟨(fun h=>by rw [hW] at h;cases h),go_sound 4000 _ _ qF _ _ _ hr⟩
mutual
theorem oe {i j:Nat}:∀ d:DV,renD (swp i j) (renD (swp i j) d)=d
 | .v x=>rfl
 | .ud=>rfl
 | .agg l=>by simp only [renD,gR]
 | .bS l=>by simp only [renD,gR]
 | .sl e es tk=>rfl
 | .pt cs o=>rfl
 | .loc k o=>by simp only [renD,jH]
 | .el k o=>by simp only [renD,jH]
 | .ms k e o l c=>by simp only [renD,jH]
 | .fn g l r=>by simp only [renD,gR]
 | .lH t x=>by simp only [renD,oe]
theorem gR {i j:Nat}:∀ l:List DV,renL (swp i j) (renL (swp i j) l)=l
 | []=>rfl
 | d :: r=>by simp only [renL,oe,gR]
end
theorem tZ {i j:Nat}:∀ l:List (Nat × Sl),renS (swp i j) (renS (swp i j) l)=l
 | []=>rfl
 | (k,⟨gs,s⟩) :: r=>by simp only [renS,oe,tZ]
theorem ua {i j:Nat}:∀ l:List (List DV),renO (swp i j) (renO (swp i j) l)=l
 | []=>rfl
 | c :: r=>by simp only [renO,gR,ua]
theorem Gh {i j:Nat} (f:Nat->Nat) (l:List (List DV)) (hi:i < l.length) (hj:j < l.length):renO f (swL i j l)=swL i j (renO f l):=by
 apply List.ext_getElem?
 grind [qW,er,dj]
theorem xW {i j:Nat} {S:St} (hi:i < S.bx.length) (hj:j < S.bx.length):ei i j (ei i j S)=S:=by
 obtain ⟨sl,bx,tk⟩:=S;simp only [ei,tZ];rw [Gh _ _ (by rw [dj];exact hi) (by rw [dj];exact hj),ua];congr 1;apply List.ext_getElem?
 grind [er,dH,jH]
theorem CallG.I5 {f:FuncId} {args:List DV} {dst:Option Nat} (i j:Nat) (EO:Nat.ble X.n0 i=true) (wX:Nat.ble X.n0 j=true) (hi:Nat.blt i st.bx.length=true) (hj:Nat.blt j st.bx.length=true)
  (h:CallG X f (renL (swp i j) args) dst k (ei i j st)) (hX:X.bt=[]:=by exact rfl):CallG X f args dst k st:=by
 have j9:=hi;have gN:=hj;simp only [Nat.blt_eq] at j9 gN;have hl:(ei i j st).bx.length=st.bx.length:=by simp only [ei,dH,dj]
 exact CallG.zJ i j (xW j9 gN).symm (gR args).symm EO wX (by rw [hl];exact hi) (by rw [hl];exact hj) h hX
theorem Aa {P:Program} {t e:TypeId} (hu:P.underlying t=some (.slice e)) (d:Nat) (x:Option Addr) (n c:Nat) (w:World):(Op.equalIn (d + 1) t (.slice x n c) (.slice none 0 0)).run P w = .ok x.isNone w:=by
 cases x<;>simp [Op.equalIn,run_underlying hu]
theorem Gi {P:Program} {t e:TypeId} (hu:P.underlying t=some (.slice e)) (x:Option Addr) (n c:Nat) (w:World):(Op.equal t (.slice x n c) (.slice none 0 0)).run P w = .ok x.isNone w:=Aa hu 9999 x n c w
theorem Gj {t d e:Nat} {x:Operand} {es:List (List DV)} {tk:Option Nat} {n et e' iQ:Nat} {bb:Bool} {z:List Value} (pX:∃ t',o.op = .binOp .eql t x (.const (.slice none 0 0)) t') (iJ:o.dst=some d) (hx:rv st [] x=some (.sl e es tk)) (hT:X.T.find t=some ⟨n,bb,.sl et e' iQ,z⟩) (hd:eK X.nt st.sl (some d)=true)
  (hk:∀ b:Bool,(es ≠ []->b=false)->go X 4000 k ⟨(d,⟨[],.v (.bool b)⟩) :: st.sl,st.bx,st.tk⟩):EH X o k st:=by
 intro E a w h;obtain ⟨t',pX⟩:=pX;have e1:=aP h.rl hx;unfold Rv at e1;obtain ⟨b,m,cap,e1,⟨rfl,_⟩,hr,_⟩:=e1;obtain ⟨hu,_⟩:=dV X.hT hT;have aD:=Gi hu b es.length cap w
 have bO:(execOp a.eval o).run X.P w = .ok (.value (.bool b.isNone)) w:=by
  have hc:a.eval (.const (.slice none 0 0)) = .slice none 0 0:=rfl;simp [execOp,pX,e1,hc,eqGuard,binOp,aD]
 refine iV bO ?_;rw [iJ];refine go_sound 4000 _ _ (hk b.isNone fun bi=>?_) E _ w (bl h hd (.v (.bool b.isNone)) _ (by unfold Rv;exact ⟨rfl,rfl⟩));have:=lL (hr bi).1;rw [this];rfl
theorem Qo {t d et e iQ n:Nat} {bb:Bool} {z:List Value} (pX:o.op = .buildSlice t 0 #[]) (iJ:o.dst=some d) (hT:X.T.find t=some ⟨n,bb,.sl et e iQ,z⟩) (hd:eK X.nt st.sl (some d)=true) (hst:X.still=false:=by exact rfl) (hX:X.bt=[]:=by exact rfl) :
  Tt X o st ⟨(d,⟨[],.sl e [] (some st.tk.length)⟩) :: st.sl,st.bx,st.tk ++ [⟨0,et,e,none⟩]⟩:=by
 intro E a w h;obtain ⟨hu,ii,zv,va,hz,cR,zj,EE⟩:=dV X.hT hT;have pB:fU X.P et=some e:=by rw [eQ va,cR]
 have bO:(execOp a.eval o).run X.P w = .ok (.value (.slice (some ⟨w.heap.size,0,none⟩) 0 0)) (w.alloc (.cells #[] et)):=by
  have h1:(Instr.buildSlice t 0 #[]).run X.P w = .ok (.slice (some ⟨w.heap.size,0,none⟩) 0 0) (w.alloc (.cells #[] et)):=by
   have h0:Array.range 0 = #[]:=rfl;simp [Instr.buildSlice,run_underlying hu,aG pB,Instr.fill,newRow,h0]
  simp only [execOp,pX,List.map_toArray,List.map_nil,Sem.run_bind,h1,Result.andThen_ok,Sem.run_pure]
 refine dA bO ?_;rw [iJ];have mn:=h.env.fx (w':=w.alloc (.cells #[] et)) fun i hi=>alloc_old w _ hi
 let E2:En:=⟨E.c,E.β,E.tk ++ [⟨0,et,e,none⟩],E.τ ++ [.slice (some ⟨w.heap.size,0,none⟩) 0 0]⟩
 have hext:Ext E E2:=⟨fun _ _ h=>h,fun _ _ h=>h,fun k q' hk=>by
  have ap:=(gS hk).1;refine ⟨q',by show (E.tk ++ _)[k]? = _;rw [dF ap];exact hk,.inl ⟨rfl,?_⟩⟩;show (E.τ ++ _)[k]? = _
  rw [dF (by rw [h.env.tl];exact ap)]⟩
 have hτ:∀ (k:Nat) y,E2.τ[k]? = some y->(k < E.τ.length/\E.τ[k]? = some y)∨(k=E.τ.length/\y = .slice (some ⟨w.heap.size,0,none⟩) 0 0):=fun k y hy=>by grind
 have eA:∀ (k:Nat) y g,E.τ[k]? = some y->y.ownBlock=some g->g < w.heap.size:=fun k y g hy hg=>(h.env.own (mG hy) hg).1
 have bD:Rel X E2 ⟨st.sl,st.bx,st.tk ++ [⟨0,et,e,none⟩]⟩ a (w.alloc (.cells #[] et)):=by
  refine cy h hext ?_ (by show E.tk ++ _=_;rw [h.tk]) ?_ (h.fr.alloc _) (ln hst) (.nil hX)
  ·exact {
    len:=h.env.len
    tl:=by show (E.τ ++ _).length=(E.tk ++ _).length;simp [h.env.tl]
    dn:=fun i cs hi=>by
     obtain ⟨b,t,arr,hb,hw,hc⟩:=mn.dn i cs hi;exact ⟨b,t,arr,hb,hw,hc.mono hext⟩
    inj:=h.env.inj
    sub:=mn.sub
    pc:=h.env.pc
    b9:=fun k q' y Qp hy=>by
     rcases hτ k y hy with ⟨ap,fm⟩ | ⟨rfl,rfl⟩
     ·have fl:(E.tk ++ [⟨0,et,e,none⟩])[k]? = some q':=Qp;rw [dF (by rw [<- h.env.tl];exact ap)] at fl;exact mn.b9 k q' y fl fm
     ·have fl:(E.tk ++ [⟨0,et,e,none⟩])[E.τ.length]? = some q':=Qp;rw [List.getElem?_append_right (by rw [h.env.tl];exact zLeR _),h.env.tl] at fl;simp only [Nat.sub_self,List.getElem?_cons_zero,oI] at fl;subst fl;refine .inr ⟨w.heap.size,0,#[],rfl,gK w _,⟨by simp,my.none rfl⟩,zLeR _,Nat.zero_le _,fun hm=>?_,fun x v hx zs=>?_⟩
      ·have:=h.env.aQ hm;omega
      ·have:=World.block_lt_of_cell? w x (h.env.sub x v hx);omega
    gp:=fun k k' y y' g CA hy fm hg sK=>by
     rcases hτ k y hy with ⟨_,sL⟩ | ⟨rfl,rfl⟩
     ·rcases hτ k' y' fm with ⟨_,jB⟩ | ⟨rfl,rfl⟩
      ·exact h.env.gp k k' y y' g CA sL jB hg sK
      ·have:=eA k y g sL hg;simp only [Value.ownBlock,oI] at sK;omega
     ·rcases hτ k' y' fm with ⟨_,jB⟩ | ⟨rfl,rfl⟩
      ·have:=eA k' y' g jB sK;simp only [Value.ownBlock,oI] at hg;omega
      ·exact CA rfl }
  ·exact {
    c:=h.nw.c
    cn:=h.nw.cn
    β:=h.nw.β
    tk:=fun j q0 y0 wU zo=>by
     obtain ⟨q',y',h1,h2,h3⟩:=h.nw.tk j q0 y0 wU zo
     grind
    tn:=fun j y g hj hy hg=>by
     rcases hτ j y hy with ⟨_,sL⟩ | ⟨_,rfl⟩
     ·exact h.nw.tn j y g hj sL hg
     ·simp only [Value.ownBlock,oI] at hg;have:=h.fr.size;omega
    l0:=h.nw.l0 }
 refine ⟨E2,bl bD hd (.sl e [] (some st.tk.length)) _ ?_,hext,⟨[],by simp [E2]⟩,fun i b hb _=>alloc_old w _ (h.env.aQ (mG hb))⟩;unfold Rv;refine ⟨_,0,0,rfl,⟨rfl,zLeR _⟩,fun hn=>(hn rfl).elim,fun k' fl=>?_⟩;cases fl;refine ⟨⟨0,et,e,none⟩,?_,zLeR _,fun _=>?_⟩
 ·show (E.tk ++ _)[st.tk.length]? = _;rw [h.tk];simp
 ·show (E.τ ++ _)[st.tk.length]? = _;rw [<- h.tk,<- h.env.tl];simp
theorem xX {t d et e iQ n:Nat} {bb:Bool} {z:List Value} (pX:o.op = .buildSlice t 0 #[]) (iJ:o.dst=some d) (hT:X.T.find t=some ⟨n,bb,.sl et e iQ,z⟩) (hd:eK X.nt st.sl (some d)=true) (hst:X.still=false:=by exact rfl) (hX:X.bt=[]:=by exact rfl)
  (hk:go X 4000 k ⟨(d,⟨[],.sl e [] (some st.tk.length)⟩) :: st.sl,st.bx,st.tk ++ [⟨0,et,e,none⟩]⟩):EH X o k st:=(Qo pX iJ hT hd hst hX).g hk
theorem Wk.zd {st':St} (N:Nat) (hN:Nat.ble X.n0 N=true) (zK:Nat.ble N st.bx.length=true) (kT:jy st.bx N N st.tk.length st'.bx (st.bx.take N)) (nH:st'.tk=st.tk) (nV:Fl st.bx N st.tk.length st.sl st'.sl):Wk X st st':=fun _ _ _ h=>
 BK h N (nL hN) (nL zK) kT nH nV
theorem EH.wk {st':St} {o:Oper} (hw:Wk X st st') (hd:eK X.nt st'.sl o.dst=true) {p:Prop} (hp:effC X st' o (go X 4000 k)=some p) (h:p):EH X o k st:=fun E a w hr=>by
 obtain ⟨E',kU⟩:=hw _ _ _ hr;refine wZ (jD ?_ (jE hd kU hp h));rintro a' w' ⟨CK,E2,qF,lu,_⟩;exact go_sound 4000 _ _ qF _ _ _ lu
theorem I6 (h:Rel X E st a w) (hst:X.still=false) (hX:X.bt=[]) {g n ty e cap:Nat} {cur:Array Value} (hw:w.heap[g]? = some (.cells cur ty (0,0))) (cR:cur.size=cap * e) (hn:n<=cap) (CE:cap<=maxLen) (hb:g ∉ E.β)
  (hc:∀ x v,E.c x=some v->x.block=g->x.off < n * e) (eA:∀ (k:Nat) y,E.τ[k]? = some y->y.ownBlock≠some g) (hg:X.w0.heap.size<=g) :
  Rel X ⟨E.c,E.β,E.tk ++ [⟨n,ty,e,none⟩],E.τ ++ [.slice (some ⟨g,0,none⟩) n cap]⟩ ⟨st.sl,st.bx,st.tk ++ [⟨n,ty,e,none⟩]⟩ a w:=by
 let E2:En:=⟨E.c,E.β,E.tk ++ [⟨n,ty,e,none⟩],E.τ ++ [.slice (some ⟨g,0,none⟩) n cap]⟩
 have hext:Ext E E2:=⟨fun _ _ h=>h,fun _ _ h=>h,fun k q' hk=>by
  have ap:=(gS hk).1;refine ⟨q',by show (E.tk ++ _)[k]? = _;rw [dF ap];exact hk,.inl ⟨rfl,?_⟩⟩;show (E.τ ++ _)[k]? = _
  rw [dF (by rw [h.env.tl];exact ap)]⟩
 have hτ:∀ (k:Nat) y,E2.τ[k]? = some y->(k < E.τ.length/\E.τ[k]? = some y)∨(k=E.τ.length/\y = .slice (some ⟨g,0,none⟩) n cap):=fun k y hy=>by grind
 refine cy h hext ?_ (by show E.tk ++ _=_;rw [h.tk]) ?_ h.fr (ln hst) (.nil hX)
 ·exact {
   len:=h.env.len
   tl:=by show (E.τ ++ _).length=(E.tk ++ _).length;simp [h.env.tl]
   dn:=fun i cs hi=>by
    obtain ⟨b,t,arr,hb,hw,hc⟩:=h.env.dn i cs hi;exact ⟨b,t,arr,hb,hw,hc.mono hext⟩
   inj:=h.env.inj
   sub:=h.env.sub
   pc:=h.env.pc
   b9:=fun k q' y Qp hy=>by
    rcases hτ k y hy with ⟨ap,fm⟩ | ⟨rfl,rfl⟩
    ·have fl:(E.tk ++ [⟨n,ty,e,none⟩])[k]? = some q':=Qp;rw [dF (by rw [<- h.env.tl];exact ap)] at fl;exact h.env.b9 k q' y fl fm
    ·have fl:(E.tk ++ [⟨n,ty,e,none⟩])[E.τ.length]? = some q':=Qp;rw [List.getElem?_append_right (by rw [h.env.tl];exact zLeR _),h.env.tl] at fl;simp only [Nat.sub_self,List.getElem?_cons_zero,oI] at fl;subst fl;exact .inr ⟨g,cap,cur,rfl,hw,⟨cR,fun cs h=>by cases h⟩,hn,CE,hb,hc⟩
   gp:=fun k k' y y' g' CA hy fm lx Kd=>by
    rcases hτ k y hy with ⟨_,sL⟩ | ⟨rfl,rfl⟩
    ·rcases hτ k' y' fm with ⟨_,jB⟩ | ⟨rfl,rfl⟩
     ·exact h.env.gp k k' y y' g' CA sL jB lx Kd
     ·simp only [Value.ownBlock,oI] at Kd;subst Kd;exact eA k y sL lx
    ·rcases hτ k' y' fm with ⟨_,jB⟩ | ⟨rfl,rfl⟩
     ·simp only [Value.ownBlock,oI] at lx;subst lx;exact eA k' y' jB Kd
     ·exact CA rfl }
 ·exact {
   c:=h.nw.c
   cn:=h.nw.cn
   β:=h.nw.β
   tk:=fun j q0 y0 wU zo=>by
    obtain ⟨q',y',h1,h2,h3⟩:=h.nw.tk j q0 y0 wU zo
    grind
   tn:=fun j y g' hj hy sK=>by
    rcases hτ j y hy with ⟨_,sL⟩ | ⟨_,rfl⟩
    ·exact h.nw.tn j y g' hj sL sK
    ·simp only [Value.ownBlock,oI] at sK;omega
   l0:=h.nw.l0 }
theorem My {t d et e iQ n len:Nat} {bb:Bool} {z:List Value} {parts:Array (Nat × Operand)} {es:List (List DV)} (pX:o.op = .buildSlice t len parts) (iJ:o.dst=some d) (hT:X.T.find t=some ⟨n,bb,.sl et e iQ,z⟩) (qC:litL e st parts.toList 0=some es)
  (hc:(Nat.beq es.length len && (Nat.blt 0 len && Nat.blt 0 e && Nat.ble (len * e) 16777216))=true) (hd:eK X.nt st.sl (some d)=true) (hst:X.still=false:=by exact rfl) (hX:X.bt=[]:=by exact rfl)
  (hk:go X 4000 k ⟨(d,⟨[],.sl e es (some st.tk.length)⟩) :: st.sl,st.bx,st.tk ++ [⟨len,et,e,none⟩]⟩):EH X o k st:=by
 intro E a w h;simp only [bA,Nat.beq_eq,Nat.ble_eq,Nat.blt_eq] at hc;obtain ⟨hlen,⟨mH,BA⟩,hsm⟩:=hc;obtain ⟨hu,ii,zv,va,hz,cR,zj,EE⟩:=dV X.hT hT;obtain ⟨xs,vs,hp,nW,CF,gM,Oj,za⟩:=lM h.rl BA qC;subst cR
 have EN:len * ii.size≠0:=by
  have:=Nat.mul_pos mH BA;omega
 have kf:Instr.fill (fun i=>some (i * ii.size,ii.size)) ((Array.range (len * ii.size)).map (zv.cells[·% zv.cells.size]!)) (parts.map fun (i,x)=>(i,a.eval x)).toList=some (cellsL vs).toArray:=by
  have h0:=qu ii.size vs 0 ((Array.range (len * ii.size)).map (zv.cells[·% zv.cells.size]!)).toList gM (by simp [CF,hlen])
  have h1:(parts.map fun (i,x)=>(i,a.eval x)).toList=enumF 0 vs:=by
   rw [Array.toList_map,hp,nW,<- nO]
  rw [h1];simp only [Array.toArray_toList] at h0;rw [h0];simp [CF,hlen]
 have bO:(execOp a.eval o).run X.P w = .ok (.value (.slice (some ⟨w.heap.size,0,none⟩) len len)) (w.alloc (.cells (cellsL vs).toArray et)):=by
  simp only [execOp,pX,Sem.run_bind,run_buildSlice w t et len _ _ ii zv hu va hz (by omega) EN kf,Result.andThen_ok,Sem.run_pure]
 refine iV bO ?_;rw [iJ];have hr:=tu (arr:=cellsL vs) h hst et
 have KR:(cellsL vs).length=len * ii.size:=by
  have:∀ l:List Value,(∀ v∈l,v.cells.toList.length=ii.size)->(cellsL l).length=l.length * ii.size:=by
   intro l
   induction l with
   | nil=>intro _;simp [cellsL]
   | cons v l ih=>grind [cellsL]
  rw [this vs gM,CF,hlen]
 have lu:=I6 (n:=len) (ty:=et) (e:=ii.size) (cap:=len) hr hst hX (g:=w.heap.size) (cur:=(cellsL vs).toArray) (gK w _) (by simp [KR]) (zLeR _) (by
   have:len<=len * ii.size:=Nat.le_mul_of_pos_right _ BA;unfold maxLen;omega) (fun hm=>by have:=h.env.aQ hm;omega) (fun x v hx zs=>by
   have hx:fj E.c (w.alloc (.cells (cellsL vs).toArray et)) w.heap.size (cellsL vs).length x=some v:=hx;unfold fj at hx;split at hx
   ·rename_i hc;rw [<- KR];exact hc.2.2
   ·have:=World.block_lt_of_cell? w x (h.env.sub x v hx);omega) (fun j y hy hg=>by
   have:=(h.env.own (mG hy) hg).1
   omega) (h.fr.size)
 refine go_sound 4000 _ _ hk _ _ _ (bl lu hd (.sl ii.size es (some st.tk.length)) _ ?_);unfold Rv;refine ⟨_,_,_,rfl,⟨hlen.symm,zLeR _⟩,fun bi=>⟨rfl,?_⟩,fun k' fl=>?_⟩
 ·have fN:∀ x v,E.c x=some v->fj E.c (w.alloc (.cells (cellsL vs).toArray et)) w.heap.size (cellsL vs).length x=some v:=fun x v hx=>by
   have ap:=World.block_lt_of_cell? w x (h.env.sub x v hx);unfold fj;rw [ah (by omega)];exact hx
  have hm:RvC (En.cl ⟨fj E.c (w.alloc (.cells (cellsL vs).toArray et)) w.heap.size (cellsL vs).length,E.β,E.tk,E.τ⟩) es.flatten (cellsL vs):=Oj.mono (Ext.Ls (E:=E) fN);refine rvEs_flat hm za fun j u hj=>?_;show fj _ _ _ _ _=_;have gN:=(gS hj).1;simp only [ab,ao,Nat.zero_add];rw [u6 gN,bX (gK w _)];simpa using hj
 ·cases fl;refine ⟨⟨len,et,ii.size,none⟩,?_,zLeR _,fun _=>?_⟩
  ·show (E.tk ++ _)[st.tk.length]? = _;rw [h.tk];simp
  ·show (E.τ ++ _)[st.tk.length]? = _;rw [<- h.tk,<- h.env.tl];simp
end
end Dv
end Go.Proofs.YtfdedoiiahbnnaaGreat
namespace Go.Proofs.YtfdedoiiahbnnaaGreat
namespace Dv
open Go Go.RowKit
mutual
def sbD (n:Nat):DV->DV
 | .agg l=>.agg (sbL n l)
 | .bS l=>.bS (sbL n l)
 | .loc i o=>.loc (n + i) o
 | .el i o=>.el (n + i) o
 | .ms i e o l c=>.ms (n + i) e o l c
 | .fn f a b=>.fn f (sbL n a) (sbL n b)
 | .lH t x=>.lH t (sbD n x)
 | .sl e es tk=>.sl e es (match tk with | some _=>none | none=>none)
 | .v x=>.v x
 | .ud=>.ud
 | .pt cs o=>.pt cs o
def sbL (n:Nat):List DV->List DV
 | []=>[]
 | d :: r=>sbD n d :: sbL n r
end
mutual
theorem og {n:Nat} {E2 E:En} (hc:E.c=E2.c) (hβ:∀ (i:Nat) b,E2.β[i]? = some b->E.β[n + i]? = some b):∀ {d:DV} {v:Value},Rv E2 d v->Rv E (sbD n d) v
 | .v x,v,h=>by simpa only [Rv,sbD] using h
 | .ud,v,h=>by simpa only [Rv,sbD] using h
 | .agg l,v,h=>by
  simp only [Rv,sbD] at h ⊢;obtain ⟨vs,h1,h2,h3⟩:=h;exact ⟨vs,h1,iZ hc hβ h2,h3⟩
 | .bS l,v,h=>by
  simp only [Rv,sbD] at h ⊢;obtain ⟨vs,h1,h2⟩:=h;exact ⟨vs,h1,iZ hc hβ h2⟩
 | .sl e es tk,v,h=>by
  have he:E.cl=E2.cl:=by simp [En.cl,hc]
  simp only [Rv,sbD] at h ⊢;obtain ⟨b,m,cap,h1,h2,h3,h4⟩:=h;refine ⟨b,m,cap,h1,h2,fun hn=>⟨(h3 hn).1,by rw [he];exact (h3 hn).2⟩,?_⟩;intro k hk;cases tk<;>cases hk
 | .pt cs off,v,h=>by
  have he:E.cl=E2.cl:=by simp [En.cl,hc]
  simp only [Rv,sbD] at h ⊢;rw [he];exact h
 | .loc i off,v,h=>by
  simp only [Rv,sbD] at h ⊢;obtain ⟨b,h1,h2⟩:=h;exact ⟨b,hβ i b h1,h2⟩
 | .el i off,v,h=>by
  simp only [Rv,sbD] at h ⊢;obtain ⟨b,h1,h2⟩:=h;exact ⟨b,hβ i b h1,h2⟩
 | .ms i e off len cap,v,h=>by
  simp only [Rv,sbD] at h ⊢;obtain ⟨b,a,h1,h2⟩:=h;exact ⟨b,a,hβ i b h1,h2⟩
 | .fn f a b,v,h=>by
  simp only [Rv,sbD] at h ⊢;obtain ⟨l,r,h1,h2,h3⟩:=h;exact ⟨l,r,h1,iZ hc hβ h2,iZ hc hβ h3⟩
 | .lH t x,v,h=>by
  simp only [Rv,sbD] at h ⊢;obtain ⟨z,h1,h2⟩:=h;exact ⟨z,h1,og hc hβ h2⟩
theorem iZ {n:Nat} {E2 E:En} (hc:E.c=E2.c) (hβ:∀ (i:Nat) b,E2.β[i]? = some b->E.β[n + i]? = some b):∀ {l:List DV} {vs:List Value},RvL E2 l vs->RvL E (sbL n l) vs
 | [],vs,h=>by simpa only [RvL,sbL] using h
 | d :: r,vs,h=>by
  simp only [RvL,sbL] at h ⊢;obtain ⟨v,s,h1,h2,h3⟩:=h;exact ⟨v,s,h1,og hc hβ h2,iZ hc hβ h3⟩
end
def Wy (P:Program) (f:FuncId) (args:List DV) (Φ:DV->List (List DV)->Prop):Prop:=
 ∀ (E:En) (w:World) (vs:List Value),Env E [] w->E.tk=[]->RvL E args vs->Calls P f vs.toArray w fun e w'=>∃ v,e = .returned v/\mv E.S w w' /\
  ∃ d os E',Env E' os w' /\ E'.tk=[]/\Nw E E' w/\(∀ cs∈os,clB.clL 0 0 cs=true)/\Rv E' d v/\Φ d os
section
variable {X:Ctx} {st:St} {k:List It} {E:En} {a:Act} {w:World}
theorem Ab (h:Rel X E st a w) (hst:X.still=false) {E2:En} {os:List (List DV)} {w':World} (hm:mv (E.cl).S w w') (he:Env E2 os w') (hn:Nw E.cl E2 w) (gM:∀ cs∈os,clB.clL 0 0 cs=true) (hbt:X.bt=[]) :
  Rel X ⟨E2.c,E.β ++ E2.β,E.tk,E.τ⟩ ⟨st.sl,st.bx ++ os,st.tk⟩ a w' /\ Ext E ⟨E2.c,E.β ++ E2.β,E.tk,E.τ⟩:=by
 have hh:∀ i,i < w.heap.size->w'.heap[i]? = w.heap[i]?:=fun i hi=>hm.block i hi (by
  rintro (h1 | ⟨y,h1,_⟩)
  ·simp [En.cl] at h1
  ·simp [En.cl] at h1)
 have cG:∀ x v,E2.c x=some v->E.c x=some v∨w.heap.size<=x.block:=fun x v hx=>by
  rcases hn.cn x v hx with h1 | h1 | ⟨y,h1,_⟩
  ·exact .inl h1
  ·exact .inr h1
  ·simp [En.cl] at h1
 have iU:∀ b∈E2.β,w.heap.size<=b:=by
  obtain ⟨r,hr,lu⟩:=hn.β;simp only [En.cl,List.nil_append] at hr;rw [hr];exact lu
 have hx:Ext E ⟨E2.c,E.β ++ E2.β,E.tk,E.τ⟩:=⟨hn.c,fun i b hb=>by
  show (E.β ++ E2.β)[i]? = _;rw [dF (gS hb).1]
  exact hb,fun _ q h=>⟨q,h,.inl ⟨rfl,rfl⟩⟩⟩
 have hk:=h.env.fx hh;refine ⟨cy h hx ?_ h.tk ?_ (h.fr.bN hm.os hm.tape hm.output hm.size fun i hi=>.inr (hh i hi)) (ln hst) (.nil hbt),hx⟩
 ·exact {
   len:=by
    show (E.β ++ E2.β).length=(st.bx ++ os).length;rw [List.length_append,List.length_append,h.env.len,he.len]
   tl:=h.env.tl
   dn:=fun i cs hi=>by
    rw [List.getElem?_append] at hi;split at hi
    ·obtain ⟨b,ty,arr,hb,hw,hc⟩:=hk.dn i cs hi;exact ⟨b,ty,arr,hx.β i b hb,hw,hc.mono hx⟩
    ·rename_i hge;obtain ⟨b,ty,arr,hb,hw,hc⟩:=he.dn _ cs hi;refine ⟨b,ty,arr,?_,hw,⟨RvL.mono (E:=E2.cut 0 0) ⟨fun _ _ h=>h,fun i b hb=>by simp [En.cut] at hb,fun k q hq=>by simp [En.cut] at hq⟩ (RvL.cut hc.1 (gM cs (mG hi))),hc.2⟩⟩;show (E.β ++ E2.β)[i]? = _;rw [List.getElem?_append_right (by rw [h.env.len];omega),h.env.len];exact hb
   inj:=by
    show (E.β ++ E2.β).Nodup;rw [List.nodup_append];refine ⟨h.env.inj,he.inj,fun x hx1 y sL Ep=>?_⟩;have:=h.env.aQ hx1;have:=iU y sL;omega
   sub:=he.sub
   pc:=fun x v hc j1=>by
    rcases List.mem_append.1 j1 with j1 | j1
    ·rcases cG x v hc with h1 | h1
     ·exact h.env.pc x v h1 j1
     ·have:=h.env.aQ j1;omega
    ·exact he.pc x v hc j1
   b9:=fun k q y hq hy=>by
    rcases hk.b9 k q y hq hy with h1 | ⟨g',cap,cur,rfl,h1,h2,h3,h4,h5,h6⟩
    ·exact .inl h1
    ·have hg:=(fy (h.env.b9 k q _ hq hy) (g:=g') rfl).1;refine .inr ⟨g',cap,cur,rfl,h1,⟨h2.1,h2.2.mono hn.c⟩,h3,h4,fun j1=>?_,fun x v hc sK=>?_⟩
     ·rcases List.mem_append.1 j1 with j1 | j1
      ·exact h5 j1
      ·have:=iU g' j1;omega
     ·rcases cG x v hc with h7 | h7
      ·exact h6 x v h7 sK
      ·omega
   gp:=h.env.gp }
 ·exact {
   c:=fun x v hc=>hn.c x v (h.nw.c x v hc)
   cn:=fun x v hc=>by
    rcases cG x v hc with h1 | h1
    ·exact h.nw.cn x v h1
    ·have:=h.fr.size;exact .inr (.inl (by omega))
   β:=by
    obtain ⟨r,hr,lu⟩:=h.nw.β;refine ⟨r ++ E2.β,by show E.β ++ E2.β=_;rw [hr,List.append_assoc],fun b hb=>?_⟩;rcases List.mem_append.1 hb with hb | hb
    ·exact lu b hb
    ·exact Nat.le_trans h.fr.size (iU b hb)
   tk:=h.nw.tk
   tn:=h.nw.tn
   l0:=h.nw.l0 }
theorem Mz {f:FuncId} {args aZ:List DV} {d:Nat} (iW:Enters X.P f) (hd:eK X.nt st.sl (some d)=true) {Φ:DV->List (List DV)->Prop} (hc:Wy X.P f aZ Φ) (ha:CcL [] 0 0 0 aZ args)
  (hk:∀ r os,Φ r os->go X 4000 k ⟨(d,⟨[],sbD st.bx.length r⟩) :: st.sl,st.bx ++ os,st.tk⟩) (hbt:X.bt=[]:=by exact rfl) (hst:X.still=false:=by exact rfl):CallG X f args (some d) k st:=by
 refine ⟨iW,hst,fun E a w vs h hv=>?_⟩;have Lq:RvL E.cl aZ vs:=CcL.sound (E:=E) (E':=E.cl) ⟨fun _ _ h=>h,fun i cs _ hi=>by simp at hi⟩ (BC.zero _ _) ha hv;refine (hc E.cl w vs (zA h.env) rfl Lq).mono ?_;rintro e w' ⟨v,rfl,hm,r,os,E2,he,_,hn,gM,hr,hΦ⟩;obtain ⟨bD,hx⟩:=Ab h hst hm he hn gM hbt;refine go_sound 4000 _ _ (hk r os hΦ) _ _ w' (bl bD hd _ v (og (E2:=E2) (E:=⟨E2.c,E.β ++ E2.β,E.tk,E.τ⟩) (n:=st.bx.length) rfl (fun i b hb=>?_) hr));show (E.β ++ E2.β)[_]? = _;rw [List.getElem?_append_right (by rw [h.env.len];omega),h.env.len];simpa using hb
theorem Df {c:Code} {Q:Exit->Act->World->Prop} (J:St->Prop) (n:Nat) (h:Rel X E st a w) (hg:go X n [.code c,.y8 J] st) (hΦ:∀ d os tk,¬ X.Φ d os tk) (hp:∀ st' E' a' w',Rel X E' st' a' w' -> J st' -> Q .normal a' w'):c.wp X.P Q a w:=by
 refine wp_mono (go_sound n _ _ hg E a w h) ?_;intro e a w hk
 cases e with
 | normal=>obtain ⟨st',E',h1,h2⟩:=hk;exact hp _ _ _ _ h1 h2
 | ret=>obtain ⟨_,v,_,⟨_,_,d,os,E2,_,_,_,_,_,h⟩,_⟩:=hk;exact (hΦ _ _ _ h).elim
 | exit _=>exact hk.elim
 | goto _=>exact hk.elim
 | panic _=>exact hk.elim
 | outgrown=>exact hk.elim
theorem I7 (h:Rel X E st a w) {d e:DV} (hr:resD X.T st X.rs=some [d,e]) {post:Ending->World->Prop} (hp:∀ v,Rv E (.bS [d,e]) v->post (.returned v) w):bodyPost X.P X.fn post .ret a w:=by
 have pD:X.fn.results=X.rs.toArray:=by rw [<- X.qw]
 obtain ⟨vs,nW,h1⟩:=hU h hr;have hl:=nW.length;have bi:¬ vs.toArray.size=1:=by simp at hl ⊢;omega
 have h2:(results X.fn a.tmps).run X.P w = .ok (if h:vs.toArray.size=1 then vs.toArray[0] else .tuple vs.toArray) w:=by
  rw [qG,pD]
  simp_all
 rw [dif_neg bi] at h2;exact ⟨h.df,_,h2,hp _ (by unfold Rv;exact ⟨vs,rfl,nW⟩)⟩
theorem Gk {bx:List (List DV)} (h:Env E bx w) {i b:Nat} {cs:List DV} (hi:bx[i]? = some cs) (hb:E.β[i]? = some b) (gM:clB.clL 0 0 cs=true):Env ⟨E.c,[b],[],[]⟩ [cs] w where
 len:=rfl
 tl:=rfl
 dn:=fun j cs' hj=>by
  cases j with
  | succ j=>simp at hj
  | zero=>
   simp only [List.getElem?_cons_zero,oI] at hj;subst hj;obtain ⟨b',ty,arr,ee,hw,hc⟩:=h.dn i cs hi;rw [hb] at ee;cases ee;exact ⟨b,ty,arr,rfl,hw,⟨RvL.mono (E:=E.cut 0 0) ⟨fun _ _ h=>h,fun i b hb=>by simp [En.cut] at hb,fun k q hq=>by simp [En.cut] at hq⟩ (RvL.cut hc.1 gM),hc.2⟩⟩
 inj:=by simp
 sub:=h.sub
 pc:=fun x v hc hm=>by
  simp only [List.mem_singleton] at hm;exact h.pc x v hc (hm ▸ mG hb)
 b9:=fun k q y hq=>by simp at hq
 gp:=fun k k' y y' g _ hy=>by simp at hy
end
end Dv
end Go.Proofs.YtfdedoiiahbnnaaGreat
set_option maxRecDepth 100000
namespace Go.Proofs.YtfdedoiiahbnnaaGreat
open Go Go.RowKit Dv Go.Proofs.Tryz
abbrev KS:List DV:=[.v (.int .i64 0),.v (.int .i64 0)]
structure oh where
 k:Int
 a:Int
 e:Int
 s:ByteArray
 n:Int
def ru (t:oh):List DV:=[.v (.int .i64 t.k),.v (.int .i64 t.a),.v (.int .i64 t.e),.v (.string t.s),.v (.int .i64 t.n)]
def fZ (l:List oh):List (List DV):=l.map ru
theorem fH (l:List oh):(fZ l).length=l.length:=List.length_map ..
theorem Dg {l:List oh} {i:Nat} {t:oh} (h:l[i]? = some t):(fZ l)[i]? = some (ru t):=by rw [fZ,List.getElem?_map,h];all_goals rfl
theorem lV (l:List oh) (t:oh):fZ l ++ [ru t]=fZ (l ++ [t]):=by simp [fZ]
def j5 (a:Int):oh:=⟨0,a,a,aJ,0⟩
structure aU where
 l:List oh
 p:Nat
 d:Nat
 f:Ft
def bg (c:aU):List DV:=[.sl 5 (fZ c.l) none,.v (.int .i64 c.p),.v (.int .i64 c.d),.v (.int .i64 c.f.1),.v (.int .i64 c.f.2)]
def aU.cF (c:aU):oh:=if c.f.1=0 then c.l[c.p]?.getD (j5 0) else j5 c.f.2
def aU.step (c:aU):aU:=if c.cF.k=0 then c else { c with p:=c.p + 1 }
def aU.is (c:aU) (k:Int) (s:ByteArray):Bool:=decide (c.cF.k=k) && decide (c.cF.s=s)
def aU.Ez (c:aU) (k:Int) (s:ByteArray):aU:=if c.is k s then c.step else c
def aU.tk (c:aU) (k:Int):Bool:=!decide (c.cF.k=0) && decide (c.cF.k=k)
def aU.EA (c:aU) (k:Int):oh:=if c.tk k then c.cF else ⟨0,0,0,aJ,0⟩
def aU.KT (c:aU) (k:Int):aU:=if c.tk k then c.step else c
def aU.gC (c:aU) (e a:Int):aU:=if c.f.1=0/\e≠0 then { c with f:=(e,a) } else c
def aU.fail (c:aU) (e:Int):aU:=c.gC e c.cF.a
def aU.wrong (c:aU):aU:=c.fail (if c.cF.k=0 then 5 else 4)
def aU.gJ (c:aU) (s:ByteArray):aU:=if c.is 4 s then c.step else c.wrong
def aU.enter (c:aU):Bool:=!decide (c.d=24)
def aU.ry (c:aU):aU:=if c.d=24 then c.fail 6 else { c with d:=c.d + 1 }
def aU.leave (c:aU):aU:={ c with d:=c.d - 1 }
structure aR (c:aU):Prop where
 lt:c.p < c.l.length
 nx:∀ (i:Nat) t,c.l[i]? = some t->t.k≠0->i + 1 < c.l.length
 len:c.l.length<=1099511627776
 dl:c.d<=24
theorem aR.cF {c:aU} (h:aR c) (h0:c.f.1=0):∃ t,c.l[c.p]? = some t/\c.cF=t:=by
 refine ⟨_,gE h.lt,?_⟩;rw [aU.cF,zIfP h0,gE h.lt];rfl
theorem aR.step {c:aU} (h:aR c):aR c.step:=by
 unfold aU.step;split
 ·exact h
 ·rename_i hk;refine ⟨?_,h.nx,h.len,h.dl⟩;by_cases h0:c.f.1=0
  ·obtain ⟨t,h1,h2⟩:=h.cF h0;rw [h2] at hk;exact h.nx _ t h1 hk
  ·exfalso;rw [aU.cF,ah h0] at hk;exact hk rfl
theorem aR.gC {c:aU} (h:aR c) (e a:Int):aR (c.gC e a):=by
 unfold aU.gC;split
 ·exact ⟨h.lt,h.nx,h.len,h.dl⟩
 ·exact h
theorem aR.wrong {c:aU} (h:aR c):aR c.wrong:=h.gC _ _
theorem aR.gJ {c:aU} (h:aR c) (s:ByteArray):aR (c.gJ s):=by
 unfold aU.gJ;split
 ·exact h.step
 ·exact h.wrong
theorem Gl {n u:Int} (hu:1<=u):(n.tmod u < 0->n.tmod u + u=n % u)/\(¬ n.tmod u < 0->n.tmod u=n % u):=by
 have h1:=Int.emod_nonneg n (show u≠0 by omega);have h2:=Int.emod_lt_of_pos n (show 0 < u by omega);have h3:=Int.tmod_eq_emod (a:=n) (b:=u);have h4:(u.natAbs:Int)=u:=Int.natAbs_of_nonneg (by omega);rw [h3];split<;>omega
theorem MA {q u l:Int} (hu:1<=u) (hl:l<=0):q < l.tdiv u↔q * u < l:=by
 have h1:=Int.mul_tdiv_add_tmod l u;rw [Int.mul_comm] at h1;have hm:=Gl (n:=l) (u:=u) hu;have h2:=Int.emod_nonneg l (show u≠0 by omega);have h3:=Int.emod_lt_of_pos l (show 0 < u by omega)
 have h4 : -u < l.tmod u/\l.tmod u<=0:=by
  have h5:(-l).tmod u = -(l.tmod u):=Int.neg_tmod ..;have h6:(-l).tmod u=(-l) % u:=Int.tmod_eq_emod_of_nonneg (by omega);have h7:=Int.emod_nonneg (-l) (show u≠0 by omega);have h8:=Int.emod_lt_of_pos (-l) (show 0 < u by omega);omega
 constructor
 ·intro h;have:=Int.mul_le_mul_of_nonneg_right (a:=q + 1) (b:=l.tdiv u) (c:=u) (by omega) (by omega);rw [Int.add_mul,Int.one_mul] at this;omega
 ·intro h;rcases Int.lt_or_le q (l.tdiv u) with h9 | h9
  ·exact h9
  ·have:=Int.mul_le_mul_of_nonneg_right (a:=l.tdiv u) (b:=q) (c:=u) (by omega) (by omega);omega
def kx (c:UInt8):Bool:=decide (48<=c.toNat) && decide (c.toNat<=57)
def digN:List UInt8->Nat
 | []=>0
 | c :: r=>if kx c=true then digN r + 1 else 0
def eH (l:List UInt8):Nat:=l.foldl (fun n c=>n * 10 + (c.toNat - 48)) 0
theorem B0:∀ l,digN l<=l.length
 | []=>zLeR _
 | c :: r=>by
  have:=B0 r;rw [digN,List.length_cons];split<;>omega
theorem xY:∀ (l:List UInt8) (c:UInt8),c∈l.take (digN l)->kx c=true
 | [],c,h=>by cases h
 | b :: r,c,h=>by
  rw [digN] at h;by_cases g:kx b=true
  ·rw [zIfP g,List.take_succ_cons,List.mem_cons] at h;rcases h with rfl | h
   ·exact g
   ·exact xY r c h
  ·rw [ah g] at h;cases h
theorem Dh (l:List UInt8) (c:UInt8):eH (l ++ [c])=eH l * 10 + (c.toNat - 48):=by simp [eH]
theorem rz (f:Nat->UInt8->Nat) (hf:∀ n c,n<=f n c):∀ (l:List UInt8) (n:Nat),n<=l.foldl f n
 | [],n=>zLeR _
 | c :: r,n=>Nat.le_trans (hf n c) (rz f hf r (f n c))
theorem Di (l r:List UInt8):eH l<=eH (l ++ r):=by
 unfold eH;rw [List.foldl_append];exact rz _ (fun n c=>by omega) r _
theorem Dj {l:List UInt8} {i:Nat} {c:UInt8} (h:l[i]? = some c):eH (l.take (i + 1))=eH (l.take i) * 10 + (c.toNat - 48):=by
 rw [List.take_add_one,h];exact Dh _ _
theorem I8 (l:List UInt8) (i:Nat):eH (l.take i)<=eH l:=by
 have:=Di (l.take i) (l.drop i)
 rwa [List.take_append_drop] at this
def pI (l:List UInt8) (m:Bool):Int × Bool:=
 if m=true then (if eH l<=9223372036854775808 then (-(eH l:Nat),true) else (0,false))
 else (if eH l<=9223372036854775807 then ((eH l:Nat),true) else (0,false))
theorem I9 {n d:Int} (hn:n<=0) (hd:0<=d/\d<=9):n < (-9223372036854775808 + d).tdiv 10↔9223372036854775808 < -n * 10 + d:=by
 rw [MA (by decide) (by omega)];omega
abbrev Uv (s:ByteArray) (e:Nat):St:=⟨[(0,⟨[],.v (.string s)⟩),aq 5 s.size,aq 6 e],[],[]⟩
theorem Dk (s:ByteArray) (hs:s.size<=4611686018427387904):aV prog 334 [.v (.string s)] (.v (.int .i64 (digN s.data.toList:Nat))):=by
 refine eG 23 [.tmp 2] func334 rfl ntmps334 rfl fun _ _ _ _=>?_;refine lI (fun j st=>∃ e:Nat,st=Uv s e/\e<=s.size/\e + digN (s.data.toList.drop e)=digN s.data.toList/\j=s.size - e) ⟨0,rfl,by omega,by simp,rfl⟩ (bc wB) ?_;rintro j st ⟨e,rfl,he,hinv,rfl⟩;refine br ?_ ?_<;>intro h
 ·have ap:e < s.size:=sU h;obtain ⟨c,hd,hb⟩:=gO ap;rw [hd,digN] at hinv;refine ⟨⟨by omega,by omega⟩,?_⟩
  have hno:kx c=false->DV.v (Value.int .i64 e) = .v (.int .i64 (digN s.data.toList:Nat)):=fun h=>by
   rw [ah (by rw [h];decide)] at hinv;rw [<- hinv];rfl
  refine br ?_ ?_<;>intro g
  ·have g:¬ c.toNat < 48:=by
    have:¬ ((bq s e:Nat):Int) < 48:=sU g;omega
   refine ⟨⟨by omega,by omega⟩,?_⟩;refine br ?_ ?_<;>intro g2
   ·have g2:57 < c.toNat:=by
     have:57 < ((bq s e:Nat):Int):=of_decide_eq_true g2;omega
    exact hno (by unfold kx;rw [decide_eq_false (p:=c.toNat<=57) (by omega),Bool.and_false])
   ·have g2:¬ 57 < c.toNat:=by
     have:¬ 57 < ((bq s e:Nat):Int):=of_decide_eq_false g2;omega
    rw [zIfP (by unfold kx;rw [decide_eq_true (by omega:48<=c.toNat),decide_eq_true (by omega:c.toNat<=57)];rfl)] at hinv;exact rE ⟨_,by omega,e + 1,rfl,by omega,by omega,rfl⟩ (bc (c8 (aT ap (by omega))))
  ·have g:c.toNat < 48:=by
    have:((bq s e:Nat):Int) < 48:=sU g;omega
   exact hno (by unfold kx;rw [decide_eq_false (by omega),Bool.false_and])
 ·have hge:e=s.size:=by simp at h;omega
  rw [mS (by omega)] at hinv;simp only [digN] at hinv;subst hge;refine congrArg (fun z=>DV.v (Value.int .i64 z)) ?_;omega
abbrev Uw (s:ByteArray) (m:Bool) (n:Int) (e:Nat):St:=⟨[(0,⟨[],.v (.string s)⟩),xm 1 m,aq 6 n,aq 10 s.size,aq 11 e],[],[]⟩
theorem Dl (s:ByteArray) (hs:s.size<=4611686018427387904) (m:Bool) (hd:∀ c∈s.data.toList,kx c=true):aV prog 335 [.v (.string s),.v (.bool m)] (.bS [.v (.int .i64 (pI s.data.toList m).1),.v (.bool (pI s.data.toList m).2)]):=by
 refine eG 35 [.tmp 4,.tmp 5] func335 rfl ntmps335 rfl fun _ _ _ _=>?_;refine lI (fun j st=>∃ e:Nat,st=Uw s m (-(eH (s.data.toList.take e):Nat)) e/\e<=s.size/\eH (s.data.toList.take e)<=9223372036854775808/\j=s.size - e) ⟨0,rfl,by omega,by simp [eH],rfl⟩ (bc wB) ?_;rintro j st ⟨e,rfl,he,fN,rfl⟩;refine br ?_ ?_<;>intro h
 ·have ap:e < s.size:=sU h;obtain ⟨c,SC,hb⟩:=gO ap
  have Qq:s.data.toList[e]? = some c:=by
   have:=congrArg List.head? SC
   rwa [List.head?_drop,List.head?_cons] at this
  have Qk:=hd c (mG Qq);unfold kx at Qk;simp only [bA,decide_eq_true_eq] at Qk;have hst:=Dj Qq;have Wz:=I8 s.data.toList (e + 1);refine ⟨⟨by omega,by omega⟩,?_⟩;have E6:bq s (e:Int).toNat=c.toNat:=hb
  have hw:IntKind.i64.wrap (IntKind.u8.wrap ((bq s (e:Int).toNat:Nat) - 48))=((c.toNat - 48:Nat):Int):=by
   rw [E6,IntKind.wrap_u8,wrap64 (by omega) (by omega)];omega
  have zp:IntKind.i64.wrap (-9223372036854775808 + ((c.toNat - 48:Nat):Int)) = -9223372036854775808 + ((c.toNat - 48:Nat):Int):=wrap64 (by omega) (by omega);have hq:=I9 (n:=-(eH (s.data.toList.take e):Nat)) (d:=((c.toNat - 48:Nat):Int)) (by omega) (by omega)
  have MB:(-9223372036854775808 + ((c.toNat - 48:Nat):Int)).tdiv 10 = -((9223372036854775808 - ((c.toNat - 48:Nat):Int)) / 10):=by
   rw [show -9223372036854775808 + ((c.toNat - 48:Nat):Int) = -(9223372036854775808 - ((c.toNat - 48:Nat):Int)) by omega,Int.neg_tdiv,Int.tdiv_eq_ediv_of_nonneg (by omega)]
  have Ek:IntKind.i64.wrap ((-9223372036854775808 + ((c.toNat - 48:Nat):Int)).tdiv 10)=(-9223372036854775808 + ((c.toNat - 48:Nat):Int)).tdiv 10:=by
   rw [MB];exact wrap64 (by omega) (by omega)
  refine ⟨⟨rfl,by decide⟩,?_⟩;refine br ?_ ?_<;>intro g
  ·have g:=of_decide_eq_true g;rw [hw,zp,Ek,hq] at g;have bI:9223372036854775808 < eH s.data.toList:=by omega
   have hv:pI s.data.toList m=(0,false):=by
    unfold pI;cases m
    ·rw [ah (by decide),ah (by omega)]
    ·rw [zIfP rfl,ah (by omega)]
   rw [hv];exact ⟨_,ax,rfl⟩
  ·have g:=of_decide_eq_false g;rw [hw,zp,Ek,hq] at g
   have tT:IntKind.i64.wrap (IntKind.i64.wrap (-(eH (s.data.toList.take e):Nat) * 10) - IntKind.i64.wrap (IntKind.u8.wrap ((bq s (e:Int).toNat:Nat) - 48))) = -(eH (s.data.toList.take (e + 1)):Nat):=by
    rw [hw,wrap64 (n:=-(eH (s.data.toList.take e):Nat) * 10) (by omega) (by omega),wrap64 (by omega) (by omega)];omega
   exact rE ⟨_,by omega,e + 1,rfl,by omega,by omega,rfl⟩ (bc (hY (aT ap (by omega)) tT))
 ·have hge:e=s.size:=by simp at h;omega
  subst hge;rw [List.take_of_length_le (by simp)] at fN ⊢
  cases m with
  | true=>
   have hv:pI s.data.toList true=(-((eH s.data.toList:Nat):Int),true):=by
    unfold pI;rw [zIfP rfl,zIfP (by omega)]
   rw [hv];exact ⟨_,ax,rfl⟩
  | false=>
   refine br ?_ ?_<;>intro g
   ·have g:=of_decide_eq_true g
    have hv:pI s.data.toList false=(0,false):=by
     unfold pI;rw [ah (by decide),ah (by omega)]
    rw [hv];exact ⟨_,ax,rfl⟩
   ·have g:=of_decide_eq_false g
    have hw:IntKind.i64.wrap (0 - -((eH s.data.toList:Nat):Int))=((eH s.data.toList:Nat):Int):=by
     rw [wrap64 (by omega) (by omega)];omega
    have hv:pI s.data.toList false=(IntKind.i64.wrap (0 - -((eH s.data.toList:Nat):Int)),true):=by
     rw [hw];unfold pI;rw [ah (by decide),zIfP (by omega)]
    rw [hv];exact ⟨_,ax,rfl⟩
theorem xZ (x b:Nat):(x:Int).fdiv (2 ^ b)=((x / 2 ^ b:Nat):Int):=by grind
theorem fI (m:Nat):BitVec.ofInt 64 (m:Int)=BitVec.ofNat 64 m:=by simp
theorem B2 {x b:Nat} (hb:b < 64) (hx:x < 18446744073709551616) :
  decide (IntKind.u64.wrap ((BitVec.ofInt 64 ((x:Int).fdiv (2 ^ (min b 64))) &&& BitVec.ofInt 64 1).toNat:Int)=1)=x.testBit b:=by
 rw [Nat.min_eq_left (by omega),xZ,fI,show (BitVec.ofInt 64 1)=BitVec.ofNat 64 1 by decide,BitVec.toNat_and,BitVec.toNat_ofNat,BitVec.toNat_ofNat,Nat.testBit_eq_decide_div_mod_eq];have h1:x / 2 ^ b < 18446744073709551616:=Nat.lt_of_le_of_lt (Nat.div_le_self _ _) hx;rw [Nat.mod_eq_of_lt h1,show (1 % 2 ^ 64:Nat)=1 by decide,Nat.and_one_is_mod];simp only [IntKind.wrap_u64];congr 1;apply propext;omega
theorem Ac {x b:Nat} (hb:b < 64) (hx:x < 18446744073709551616) :
  IntKind.u64.wrap ((BitVec.ofInt 64 (x:Int) ||| BitVec.ofInt 64 (IntKind.u64.wrap (1 * 2 ^ (min b 64)))).toNat:Int)=((x ||| 2 ^ b:Nat):Int):=by
 have h2:2 ^ b < 18446744073709551616:=by
  have:2 ^ b<=2 ^ 63:=Nat.pow_le_pow_right (by decide) (by omega);omega
 have e1:IntKind.u64.wrap (1 * 2 ^ (min b 64))=((2 ^ b:Nat):Int):=by
  rw [Nat.min_eq_left (by omega),Int.one_mul];have:((2:Int) ^ b)=((2 ^ b:Nat):Int):=by simp
  rw [this];generalize 2 ^ b=z at h2;simp only [IntKind.wrap_u64];omega
 rw [e1,fI,fI,BitVec.toNat_or,BitVec.toNat_ofNat,BitVec.toNat_ofNat,Nat.mod_eq_of_lt hx,Nat.mod_eq_of_lt h2];have h3:x ||| 2 ^ b < 18446744073709551616:=Nat.or_lt_two_pow (n:=64) hx h2
 simp only [IntKind.wrap_u64];omega
theorem Ja {x y:Nat} (hx:x < 18446744073709551616) (hy:y < 18446744073709551616) :
  IntKind.u64.wrap ((BitVec.ofInt 64 (x:Int) ||| BitVec.ofInt 64 (y:Int)).toNat:Int)=((x ||| y:Nat):Int):=by
 rw [fI,fI,BitVec.toNat_or,BitVec.toNat_ofNat,BitVec.toNat_ofNat,Nat.mod_eq_of_lt hx,Nat.mod_eq_of_lt hy];have h3:x ||| y < 18446744073709551616:=Nat.or_lt_two_pow (n:=64) hx hy
 simp only [IntKind.wrap_u64];omega
theorem ig (x a b:Nat):(x ||| 2 ^ b).testBit a=(x.testBit a || decide (b=a)):=by
 rw [Nat.testBit_or,Nat.testBit_two_pow]
def dU (rows:List Nat):List (List DV):=rows.map fun (x:Nat)=>[DV.v (.int .u64 (x:Int))]
theorem iM (rows:List Nat):(dU rows).length=rows.length:=by simp [dU]
theorem MC {rows:List Nat} {i:Nat} {x:Nat} (h:rows[i]? = some x):(dU rows)[i]? = some [DV.v (.int .u64 (x:Int))]:=by simp [dU,h]
abbrev j6 (rows:List Nat):DV:=.pt [.sl 1 (dU rows) none] 0
def dc (rows:List Nat):Prop:=rows.length<=64/\∀ x∈rows,x < 18446744073709551616
def aK (rows:List Nat) (a b:Nat):Bool:=(rows.getD a 0).testBit b
def hasB (rows:List Nat) (a b:Int):Bool:=decide (0<=a) && decide (a < rows.length) && decide (0<=b) && decide (b < rows.length) && aK rows a.toNat b.toNat
theorem ub (rows:List Nat):aV prog 208 [j6 rows] (.v (.int .i64 rows.length)):=by
 refine eG 10 [.tmp 2] func208 rfl ntmps208 rfl fun _ _ _ _=>?_;refine (qN ?_:);rw [iM]
theorem ja (rows:List Nat) (hr:dc rows) (a b:Int):aV prog 212 [j6 rows,.v (.int .i64 a),.v (.int .i64 b)] (.v (.bool (hasB rows a b))):=by
 have hl:=ub rows;refine eG 38 [.tmp 6] func212 rfl ntmps212 rfl fun _ _ _ _=>?_;refine br ?_ ?_<;>intro g1
 ·have g1:0<=a:=sU g1;refine cP FD hl ?_;refine br ?_ ?_<;>intro g2
  ·obtain ⟨g2,g3⟩:a < rows.length/\0<=b:=by grind [pickB]
   refine cP FD hl ?_;refine br ?_ ?_<;>intro g4
   ·have g4:b < rows.length:=by simpa [pickB,g2,g3] using g4
    obtain ⟨x,hx⟩:∃ x,rows[a.toNat]? = some x:=⟨_,gE (by omega)⟩;have CO:=hr.2 x (mG hx);have hr1:=hr.1;refine ⟨_,⟨g1,MC hx⟩,?_⟩;refine ⟨g3,?_⟩;refine (cj ?_:);have Kc:rows.getD a.toNat 0=x:=getD_some hx;have e1:hasB rows a b=x.testBit b.toNat:=by grind [hasB,aK]
    rw [e1];exact B2 (x:=x) (b:=b.toNat) (by omega) CO
   ·have g4:¬ b < rows.length:=by simpa [pickB,g2,g3] using g4
    refine (cj ?_:);simp [pickB,g2,g3,g4,hasB]
  ·have g5:¬ (a < rows.length/\0<=b):=by
    rintro ⟨h1,h2⟩;simp [pickB,h1,h2] at g2
   refine (cj ?_:);cases h:decide (a < (rows.length:Int))<;>simp [pickB,h,hasB] at g2 ⊢
   intro _ h0;omega
 ·have g1:¬ 0<=a:=sU g1;refine (cj ?_:);simp [g1,hasB]
def backN (rows:List Nat) (a:Nat):Nat->Nat
 | 0=>0
 | e + 1=>if aK rows a e && aK rows e a then backN rows a e ||| 2 ^ e else backN rows a e
theorem rA (rows:List Nat) (a:Nat):∀ e,backN rows a e < 2 ^ e
 | 0=>by simp [backN]
 | e + 1=>by
  have ih:=rA rows a e;have h2:2 ^ e < 2 ^ (e + 1):=Nat.pow_lt_pow_right (by decide) (by omega);simp only [backN];split
  ·exact Nat.or_lt_two_pow (by omega) h2
  ·omega
theorem oi (rows:List Nat) (a b:Nat):∀ e,(backN rows a e).testBit b=(decide (b < e) && (aK rows a b && aK rows b a))
 | 0=>by simp [backN]
 | e + 1=>by
  have ih:=oi rows a b e
  grind [backN,aK,ig]
abbrev MD (rows:List Nat) (a e:Nat):St:=
 ⟨[(0,⟨[],j6 rows⟩),aq 1 a,(5,⟨[],.v (.int .u64 (backN rows a e:Nat))⟩),aq 11 ((dU rows).length),aq 12 e],[],[]⟩
theorem mX {rows:List Nat} {a b:Nat} (ha:a < rows.length) (hb:b < rows.length):hasB rows a b=aK rows a b:=by
 simp [hasB,ha,hb]
theorem Ad (rows:List Nat) (hr:dc rows) (a:Nat) (ha:a < rows.length):aV prog 210 [j6 rows,.v (.int .i64 a)] (.v (.int .u64 (backN rows a rows.length:Nat))):=by
 have hr1:=hr.1;refine eG 31 [.tmp 4] func210 rfl ntmps210 rfl fun _ _ _ _=>?_;refine lJ (fun e=>MD rows a e) rows.length (bc wB) ?_;intro e he;refine br ?_ ?_<;>intro hL
 ·have ap:e < rows.length:=by have:=hL;simp [iM] at this;exact this
  have h1:=ja rows hr a e;have h2:=ja rows hr e a;rw [mX ha ap] at h1;rw [mX ap ha] at h2;have hbl:=rA rows a e
  have ME:backN rows a e < 18446744073709551616:=by
   have:2 ^ e<=2 ^ 64:=Nat.pow_le_pow_right (by decide) (by omega);omega
  have Qr:=Ac (x:=backN rows a e) (b:=e) (by omega) ME;have hs:backN rows a (e + 1)=if aK rows a e && aK rows e a then backN rows a e ||| 2 ^ e else backN rows a e:=rfl
  refine cP xC h1 ?_;refine br ?_ ?_<;>intro g1
  ·have g1:aK rows a e=true:=sU g1;refine cP xC h2 ?_;refine br ?_ ?_<;>intro g2
   ·have g2:aK rows e a=true:=by simpa [pickB,g1] using g2
    rw [g1,g2] at hs;have hs:backN rows a (e + 1)=backN rows a e ||| 2 ^ e:=hs
    refine ⟨by omega,?_⟩;exact rE ⟨_,by omega,e + 1,rfl,by omega,rfl⟩ (bc (by repeat' (first | exact trivial | exact au rfl | exact aw (aT ap (by omega)) | exact aw (Qr.trans (by rw [hs])) | refine ⟨⟨_,rfl,?_⟩,?_⟩)))
   ·have g2:aK rows e a=false:=by simpa [pickB,g1] using g2
    rw [g1,g2] at hs;have hs:backN rows a (e + 1)=backN rows a e:=hs;exact rE ⟨_,by omega,e + 1,rfl,by omega,rfl⟩ (bc (by repeat' (first | exact trivial | exact au rfl | exact aw (aT ap (by omega)) | exact aw (by rw [hs]) | refine ⟨⟨_,rfl,?_⟩,?_⟩)))
  ·have g1:aK rows a e=false:=sU g1;rw [g1] at hs;have hs:backN rows a (e + 1)=backN rows a e:=hs;exact rE ⟨_,by omega,e + 1,rfl,by omega,rfl⟩ (bc (by repeat' (first | exact trivial | exact au rfl | exact aw (aT ap (by omega)) | exact aw (by rw [hs]) | refine ⟨⟨_,rfl,?_⟩,?_⟩)))
 ·have hge:e=rows.length:=by have:=hL;simp [iM] at this;omega
  subst hge;exact (rfl:_=_)
def cU (rows:List Nat):List DV:=rows.map fun (x:Nat)=>DV.v (.int .u64 (x:Int))
theorem om (rows:List Nat):(cU rows).length=rows.length:=by simp [cU]
theorem Gm {rows:List Nat} {i x:Nat} (h:rows[i]? = some x):(cU rows)[i]? = some (DV.v (.int .u64 (x:Int))):=by simp [cU,h]
theorem Gn (rows:List Nat) (i x:Nat):(cU rows).set i (DV.v (.int .u64 (x:Int)))=cU (rows.set i x):=by simp [cU,List.map_set]
theorem mY (rows:List Nat):(dU rows).flatten=cU rows:=by
 induction rows with
 | nil=>rfl
 | cons x r ih=>simp only [dU,cU,List.map_cons,List.flatten_cons] at ih ⊢;rw [ih];all_goals rfl
theorem B3 {n m:Nat} {tk:List TkE}:∀ l:List Nat,WeL n m tk (cU l) (cU l)
 | []=>rfl
 | b :: r=>⟨_,_,rfl,au rfl,B3 r⟩
theorem vF {n m:Nat} {tk:List TkE} {l:List DV} {ds:List Nat} (h:l=cU ds):WeL n m tk l (cU ds):=by rw [h];exact B3 ds
def Ux (p:Nat × Nat):List DV:=[.v (.int .i64 (p.1:Int)),.v (.int .i64 (p.2:Int))]
def jO (l:List (Nat × Nat)):List (List DV):=l.map Ux
theorem eY (l:List (Nat × Nat)):(jO l).length=l.length:=by simp [jO]
theorem rB {l:List (Nat × Nat)} {i:Nat} {p:Nat × Nat} (h:l[i]? = some p):(jO l)[i]? = some (Ux p):=by simp [jO,h]
def rC (rows:List Nat) (p:Nat × Nat):List Nat:=rows.set p.1 (rows.getD p.1 0 ||| 2 ^ p.2)
def dL (n:Nat) (l:List (Nat × Nat)):List Nat:=l.foldl rC (List.replicate n 0)
theorem Dm (n:Nat) (l:List (Nat × Nat)) (e:Nat) {p:Nat × Nat} (h:l[e]? = some p):dL n (l.take (e + 1))=rC (dL n (l.take e)) p:=by
 unfold dL;rw [List.take_add_one,h];simp
theorem mZ (rows:List Nat) (p:Nat × Nat):(rC rows p).length=rows.length:=by simp [rC]
theorem ij (n:Nat):∀ (l:List (Nat × Nat)),(dL n l).length=n:=by
 intro l
 have:∀ (l:List (Nat × Nat)) (r:List Nat),(l.foldl rC r).length=r.length:=by
  intro l
  induction l with
  | nil=>intro r;rfl
  | cons p l ih=>intro r;rw [List.foldl_cons,ih,mZ]
 rw [dL,this];simp
theorem Jb {rows:List Nat} {p:Nat × Nat} (h:dc rows) (hp:p.1 < rows.length) (hq:p.2 < 64):dc (rC rows p):=by
 refine ⟨by rw [mZ];exact h.1,fun x hx=>?_⟩;rcases List.mem_or_eq_of_mem_set hx with hx | rfl
 ·exact h.2 x hx
 ·refine Nat.or_lt_two_pow (n:=64) ?_ (Nat.pow_lt_pow_right (by decide) hq);rw [dz,gE hp];exact h.2 _ (List.getElem_mem hp)
theorem vG {n:Nat} (hn:n<=64):∀ (l:List (Nat × Nat)),(∀ p∈l,p.1 < n/\p.2 < n)->dc (dL n l):=by
 intro l hl
 have:∀ (l:List (Nat × Nat)) (r:List Nat),r.length=n->dc r->(∀ p∈l,p.1 < n/\p.2 < n)->dc (l.foldl rC r):=by
  intro l
  induction l with
  | nil=>intro r _ h _;exact h
  | cons p l ih=>grind [mZ,Jb]
 refine this l _ (by simp) ⟨by simp [hn],fun x hx=>?_⟩ hl;rw [List.mem_replicate] at hx;omega
abbrev Gp (n:Nat) (l:List (Nat × Nat)) (rows:List Nat) (e:Nat):St:=
 ⟨[aq 0 n,aF 6 1,aS 19 2 (jO l),aq 20 ((jO l).length),aq 21 e],
  [cU rows,[.ms 0 1 0 n n]],[]⟩
theorem Dp (n:Nat) (hn:n<=64) (l:List (Nat × Nat)) (hl:∀ p∈l,p.1 < n/\p.2 < n) (hb:l.length<=1099511627776) :
  aV prog 127 [.v (.int .i64 n),.sl 2 (jO l) none] (.bS [j6 (dL n l),.v (.bool true)]):=by
 refine eG 60 [.tmp 4,.tmp 5] func127 rfl ntmps127 rfl fun _ _ _ _=>?_;refine br ?_ ?_<;>intro g
 ·exfalso;simp [aj] at g;omega
 refine ⟨⟨rfl,by omega,by omega,by omega⟩,?_⟩
 have h0:(List.replicate (n:Int).toNat [DV.v (.int .u64 0)]).flatten=cU (dL n (l.take 0)):=by
  simp [dL,cU]
 refine lJ (fun e=>Gp n l (dL n (l.take e)) e) l.length (ep 2 (by repeat' (first | exact rfl | exact au rfl | exact vF h0 | refine ⟨_,_,rfl,?_,?_⟩)) (by repeat' (first | exact trivial | exact au rfl | exact vF h0 | refine ⟨⟨_,rfl,?_⟩,?_⟩))) ?_;intro e he;refine br ?_ ?_<;>intro hL
 ·have ap:e < l.length:=by have:=hL;simp [eY] at this;exact this
  obtain ⟨p,hp⟩:=gX ap;obtain ⟨p1,p2⟩:=hl p (mG hp);refine iX (rB hp) ?_;refine ⟨⟨by decide,by decide⟩,?_⟩;refine ⟨⟨by decide,by decide⟩,?_⟩;refine br ?_ ?_<;>intro g
  ·refine ⟨⟨by decide,by decide⟩,?_⟩;refine ⟨⟨by decide,by decide⟩,?_⟩;refine br ?_ ?_<;>intro g2
   ·exfalso;simp [pickB] at g2;omega
   obtain ⟨x,hx⟩:∃ x,(dL n (l.take e))[p.1]? = some x:=⟨_,gE (by rw [ij];exact p1)⟩;have ef:=vG hn (l.take e) (fun q hq=>hl q (List.mem_of_mem_take hq));have CO:=ef.2 x (mG hx);have u7:0 + (p.1:Int).toNat * 1=p.1:=by omega
   refine dS ?_;refine ⟨⟨by decide,by decide⟩,?_⟩;refine ⟨⟨by omega,by omega⟩,?_⟩;refine ⟨_,(by rw [u7];exact Gm hx:(cU (dL n (l.take e)))[0 + (p.1:Int).toNat * 1]? = some _),?_⟩;refine ⟨⟨by decide,by decide⟩,?_⟩;refine ⟨by omega,?_⟩;refine ⟨⟨by omega,by omega⟩,?_⟩;refine ⟨by rw [u7,om,ij];omega,?_⟩
   have cm:(cU (dL n (l.take e))).set (0 + (p.1:Int).toNat * 1) (DV.v (.int .u64 (IntKind.u64.wrap ((BitVec.ofInt 64 (x:Int) ||| BitVec.ofInt 64 (IntKind.u64.wrap (1 * 2 ^ (min (p.2:Int).toNat 64)))).toNat:Int))))=cU (dL n (l.take (e + 1))):=by
    rw [u7,show ((p.2:Int).toNat)=p.2 by omega,Ac (by omega) CO,Gn,Dm n l e hp];simp only [rC];rw [getD_some hx]
   refine ⟨Gp n l (dL n (l.take (e + 1))) (e + 1),(ep 2 (by repeat' (first | exact rfl | exact au rfl | exact vF cm | exact aw (aT ap (by omega)) | refine ⟨_,_,rfl,?_,?_⟩)) (by repeat' (first | exact trivial | exact au rfl | exact vF cm | exact aw (aT ap (by omega)) | refine ⟨⟨_,rfl,?_⟩,?_⟩))),l.length - (e + 1),by omega,e + 1,rfl,by omega,rfl⟩
  ·exfalso;simp [pickB] at g;omega
 ·have hge:e=l.length:=by have:=hL;simp [eY] at this;omega
  subst hge;rw [List.take_length];refine ⟨_,?_,rfl⟩;have hlen:=ij n l;generalize dL n l=rows at hlen ⊢;refine ⟨_,rfl,_,_,rfl,.inr ⟨1,_,rfl,Nat.zero_le _,rfl,_,_,rfl,.inr (.inr (.inl ⟨0,0,n,cU rows,by rw [iM,hlen],Nat.zero_le _,rfl,?_,?_,?_⟩)),rfl⟩,_,_,rfl,rfl,rfl⟩
  ·grind [mY,iM,om]
  ·grind [dU]
  ·grind [mY,cU]
def ik (rows:List Nat) (k:Nat):List Nat:=rows.set k (rows.getD k 0 ||| 2 ^ k)
def lE (k:Nat) (rows:List Nat) (a:Nat):List Nat:=if aK rows a k then rows.set a (rows.getD a 0 ||| rows.getD k 0) else rows
def eZ (rows:List Nat) (k e:Nat):List Nat:=(List.range e).foldl (lE k) (ik rows k)
def closeR (rows:List Nat) (e:Nat):List Nat:=(List.range e).foldl (fun r k=>eZ r k r.length) rows
theorem Gq {rows:List Nat} {i x:Nat} (h:dc rows) (hx:x < 18446744073709551616):dc (rows.set i x):=by
 refine ⟨by rw [List.length_set];exact h.1,fun y hy=>?_⟩;rcases List.mem_or_eq_of_mem_set hy with hy | rfl
 ·exact h.2 y hy
 ·exact hx
theorem jP {rows:List Nat} (h:dc rows) (i:Nat):rows.getD i 0 < 18446744073709551616:=by
 rw [dz]
 cases hx:rows[i]? with
 | none=>simp
 | some x=>exact h.2 x (mG hx)
theorem Gr {rows:List Nat} {k:Nat} (h:dc rows) (hk:k < 64):dc (ik rows k):=
 Gq h (Nat.or_lt_two_pow (n:=64) (jP h k) (Nat.pow_lt_pow_right (by decide) hk))
theorem Dq (rows:List Nat) (k:Nat):(ik rows k).length=rows.length:=by simp [ik]
theorem Gs {rows:List Nat} {k a:Nat} (h:dc rows):dc (lE k rows a):=by
 unfold lE;split
 ·exact Gq h (Nat.or_lt_two_pow (n:=64) (jP h a) (jP h k))
 ·exact h
theorem Ds (rows:List Nat) (k a:Nat):(lE k rows a).length=rows.length:=by
 unfold lE;split<;>simp
theorem jQ (rows:List Nat) (k e:Nat):eZ rows k (e + 1)=lE k (eZ rows k e) e:=by simp [eZ,List.range_succ]
theorem la (rows:List Nat) (k:Nat):∀ e,(eZ rows k e).length=rows.length
 | 0=>by simp [eZ,Dq]
 | e + 1=>by rw [jQ,Ds,la]
theorem rD {rows:List Nat} {k:Nat} (h:dc rows) (hk:k < 64):∀ e,dc (eZ rows k e)
 | 0=>by simpa [eZ] using Gr h hk
 | e + 1=>by rw [jQ];exact Gs (rD h hk e)
theorem iE (rows:List Nat) (e:Nat):closeR rows (e + 1)=eZ (closeR rows e) e (closeR rows e).length:=by simp [closeR,List.range_succ]
theorem dM (rows:List Nat):∀ e,(closeR rows e).length=rows.length
 | 0=>by simp [closeR]
 | e + 1=>by rw [iE,la,dM]
theorem jb {rows:List Nat} (h:dc rows):∀ e,e<=64->dc (closeR rows e)
 | 0,_=>by simpa [closeR] using h
 | e + 1,he=>by rw [iE];exact rD (jb h e (by omega)) (by omega) _
def spU (m:Nat):List DV:=(List.replicate m (vL [Value.int .u64 0])).flatten
theorem rF {n m:Nat} {tk:List TkE}:∀ l:List DV,(∀ x∈l,∃ y,x = .v y)->WeL n m tk l l
 | [],_=>rfl
 | b :: r,h=>by
  obtain ⟨y,rfl⟩:=h b (by simp);exact ⟨_,_,rfl,au rfl,rF r (fun x hx=>h x (by simp [hx]))⟩
theorem dW {n m:Nat} {tk:List TkE} {l:List DV} {ds:List Nat} {k:Nat} (h:l=cU ds ++ spU k):WeL n m tk l (cU ds ++ spU k):=by
 rw [h];refine rF _ fun x hx=>?_;rcases List.mem_append.1 hx with hx | hx
 ·grind [cU]
 ·simp_all [spU,vL]
theorem vH {r:List Nat} {k i x:Nat} (h:r[i]? = some x):(cU r ++ spU k)[0 + (i:Int).toNat * 1]? = some (DV.v (.int .u64 (x:Int))):=by grind [om,Gm]
theorem Gt {r:List Nat} {k i x:Nat} (h:i < r.length):(cU r ++ spU k).set (0 + (i:Int).toNat * 1) (DV.v (.int .u64 (x:Int)))=cU (r.set i x) ++ spU k:=by grind [om,Gn]
theorem Gu {r:List Nat} {k i:Nat} (h:i < r.length):0 + (i:Int).toNat * 1 + 1<=(cU r ++ spU k).length:=by
 rw [List.length_append,om];omega
abbrev Uy (rows:List Nat) (cap:Nat) (r:List Nat) (e:Nat):St:=
 ⟨[aF 3 1,aq 19 ((dU rows).length),aq 20 e],[cU r ++ spU (cap - (dU rows).length),[.ms 0 1 0 (dU rows).length cap]],[]⟩
abbrev Qs (rows:List Nat) (cap:Nat) (r:List Nat) (e f:Nat):St:=
 ⟨[aF 3 1,aq 4 e,aq 19 ((dU rows).length),aq 20 e,aq 38 ((dU rows).length),aq 39 f],[cU r ++ spU (cap - (dU rows).length),[.ms 0 1 0 (dU rows).length cap]],[]⟩
theorem lW {l:List Nat} {i:Nat} (h:i < l.length):l[i]? = some (l.getD i 0):=ob h
theorem pe (rows:List Nat) (hr:dc rows) (h0:rows ≠ []):aV prog 129 [j6 rows] (j6 (closeR rows rows.length)):=by
 have hr1:=hr.1;have hN:=iM rows;have ti:0 < rows.length:=List.length_pos_iff.2 h0;refine vd (s:=false) (bt:=[]) (mu:=[12]) (hbt:=fun p hp=>by cases hp) (fr:=false) (P:=prog) tt tM 5000 72 [.tmp 2] func129 rfl ntmps129 rfl (nL rfl) (fun _ _ _ _=>?_);refine ⟨⟨by intro h;exact h0 (by simpa [dU] using h),by rw [iM];simp [maxLen];omega,by rw [iM];omega⟩,fun cap CE=>?_⟩
 have gk:(dU rows).flatten.append (List.replicate (cap - (dU rows).length) (vL [Value.int .u64 0])).flatten=cU (closeR rows 0) ++ spU (cap - (dU rows).length):=by
  show (dU rows).flatten ++ _=_;rw [mY];rfl
 refine lJ (fun e=>Uy rows cap (closeR rows e) e) rows.length (ep 2 (ve gk) (c8 gk)) ?_;intro e he;have ef:=jb hr e (by omega);have hlen:=dM rows e;have KU:=iE rows e;generalize Qq:closeR rows e=r at ef hlen KU ⊢;refine br ?_ ?_<;>intro hL
 ·have ap:e < rows.length:=by have:=hL;simp [hN] at this;exact this
  have hx:=lW (l:=r) (i:=e) (by omega);have Qr:=Ac (x:=r.getD e 0) (b:=e) (by omega) (jP ef e);refine dS ?_;refine ⟨⟨by omega,by omega⟩,?_⟩;refine ⟨_,vH hx,?_⟩;refine ⟨by omega,?_⟩;refine ⟨⟨by omega,by omega⟩,?_⟩;refine ⟨Gu (by omega),?_⟩
  have lp:(cU r ++ spU (cap - (dU rows).length)).set (0 + (e:Int).toNat * 1) (DV.v (.int .u64 (IntKind.u64.wrap ((BitVec.ofInt 64 ((r.getD e 0:Nat):Int) ||| BitVec.ofInt 64 (IntKind.u64.wrap (1 * 2 ^ (min (e:Int).toNat 64)))).toNat:Int))))=cU (eZ r e 0) ++ spU (cap - (dU rows).length):=by
   rw [show min (e:Int).toNat 64=min e 64 by omega,Qr,Gt (by omega)];rfl
  refine lJ (fun f=>Qs rows cap (eZ r e f) e f) rows.length (ep 2 (ve lp) (c8 lp)) ?_;intro f hf;have MF:=rD (k:=e) ef (by omega) f;have ml:=la r e f;have Sw:=jQ r e f;have cK:e < (eZ r e f).length:=by rw [ml];omega
  refine br ?_ ?_<;>intro hL
  ·have B4:f < rows.length:=by have:=hL;simp [hN] at this;exact this
   have SD:f < (eZ r e f).length:=by rw [ml];omega
   generalize eZ r e f=q at MF ml Sw cK SD ⊢;have hy:=lW SD;have hz:=lW cK;have Gv:=B2 (x:=q.getD f 0) (b:=e) (by omega) (jP MF f);have Qr:=Ja (jP MF f) (jP MF e);refine ⟨⟨by omega,by omega⟩,?_⟩;refine ⟨_,vH hy,?_⟩;refine ⟨by omega,?_⟩;refine br ?_ ?_<;>intro g
   ·have g:aK q f e=true:=Gv.symm.trans g;refine dS ?_;refine ⟨⟨by omega,by omega⟩,?_⟩;refine ⟨_,vH hy,?_⟩;refine ⟨⟨by omega,by omega⟩,?_⟩;refine ⟨_,vH hz,?_⟩;refine ⟨⟨by omega,by omega⟩,?_⟩;refine ⟨Gu SD,?_⟩
    have iU:(cU q ++ spU (cap - (dU rows).length)).set (0 + (f:Int).toNat * 1) (DV.v (.int .u64 (IntKind.u64.wrap ((BitVec.ofInt 64 ((q.getD f 0:Nat):Int) ||| BitVec.ofInt 64 ((q.getD e 0:Nat):Int)).toNat:Int))))=cU (eZ r e (f + 1)) ++ spU (cap - (dU rows).length):=by
     rw [Qr,Gt SD,Sw,lE,zIfP g]
    exact rE ⟨_,by omega,f + 1,rfl,by omega,rfl⟩ (ep 2 (zC iU (aT B4 (by omega))) (hY iU (aT B4 (by omega))))
   ·have g:aK q f e=false:=Gv.symm.trans g
    have iU:cU q ++ spU (cap - (dU rows).length)=cU (eZ r e (f + 1)) ++ spU (cap - (dU rows).length):=by
     rw [Sw,lE,ah (by rw [g];decide)]
    exact rE ⟨_,by omega,f + 1,rfl,by omega,rfl⟩ (ep 2 (zC iU (aT B4 (by omega))) (hY iU (aT B4 (by omega))))
  ·have hge:f=rows.length:=sW hN hL;subst hge
   have HT:cU (eZ r e rows.length) ++ spU (cap - (dU rows).length)=cU (closeR rows (e + 1)) ++ spU (cap - (dU rows).length):=by
    rw [KU,hlen]
   exact rE ⟨_,by omega,e + 1,rfl,by omega,rfl⟩ (ep 2 (zC HT (aT ap (by omega))) (hY HT (aT ap (by omega))))
 ·have hge:e=rows.length:=sW hN hL;subst hge;refine ⟨_,?_,rfl⟩;rw [Qq];refine .inr ⟨1,_,rfl,Nat.zero_le _,rfl,_,_,rfl,.inr (.inr (.inl ⟨0,0,cap,cU r ++ spU (cap - (dU rows).length),by rw [iM r,hlen,hN],Nat.zero_le _,rfl,?_,?_,?_⟩)),rfl⟩
  ·grind [mY,iM,om]
  ·grind [dU]
  ·grind [mY,cU]
theorem jc {a b c d:Nat} (ha:a < 256) (hb:b < 256):(a + 256 * c) &&& (b + 256 * d)=(a &&& b) + 256 * (c &&& d):=by
 have h1:a &&& b < 256:=Nat.and_lt_two_pow (n:=8) a hb;apply Nat.eq_of_testBit_eq;intro i
 have e (x y:Nat) (hx:x < 256):(x + 256 * y).testBit i=if i < 8 then x.testBit i else y.testBit (i - 8):=by
  rw [show x + 256 * y=2 ^ 8 * y + x by omega,Nat.testBit_two_pow_mul_add _ (sU hx)]
 grind
def b1 (x:Nat):Nat:=((x / 2) &&& 85) + (x &&& 85)
def b2 (x:Nat):Nat:=((x / 4) &&& 51) + (x &&& 51)
def b3 (x:Nat):Nat:=((x / 16) + x) &&& 15
def pop8 (x:Nat):Nat:=b3 (b2 (b1 x))
theorem B5:∀ x:Fin 256,b1 x.val < 256/\b2 (b1 x.val) < 120/\pop8 x.val<=8/\pop8 x.val=(((((((x.val.testBit 0).toNat + (x.val.testBit 1).toNat) + (x.val.testBit 2).toNat) + (x.val.testBit 3).toNat) + (x.val.testBit 4).toNat) + (x.val.testBit 5).toNat) + (x.val.testBit 6).toNat) + (x.val.testBit 7).toNat:=by decide +kernel
def valB:List Nat->Nat
 | []=>0
 | a :: r=>a + 256 * valB r
def rep (m:Nat):Nat->Nat
 | 0=>0
 | n + 1=>m + 256 * rep m n
theorem m1:∀ (a:Fin 256) (c:Fin 2),(a.val / 2 + 128 * c.val) &&& 85=(a.val / 2) &&& 85:=by decide +kernel
theorem m2:∀ (a:Fin 256) (c:Fin 4),(a.val / 4 + 64 * c.val) &&& 51=(a.val / 4) &&& 51:=by decide +kernel
theorem nI:∀ l:List Nat,(∀ a∈l,a < 256)->((valB l / 2) &&& rep 85 l.length) + (valB l &&& rep 85 l.length)=valB (l.map b1)
 | [],_=>rfl
 | a :: r,h=>by
  have ih:=nI r (fun x hx=>h x (by simp [hx]));have ha:=h a (by simp);have e1:(a + 256 * valB r) / 2=(a / 2 + 128 * (valB r % 2)) + 256 * (valB r / 2):=by omega
  have hm:=m1 ⟨a,ha⟩ ⟨valB r % 2,by omega⟩;simp only at hm;simp only [valB,List.length_cons,rep,List.map_cons,b1];rw [e1,jc (by omega) (by decide),jc ha (by decide),hm,<- ih];omega
theorem CK:∀ l:List Nat,(∀ a∈l,a < 256)->((valB l / 4) &&& rep 51 l.length) + (valB l &&& rep 51 l.length)=valB (l.map b2)
 | [],_=>rfl
 | a :: r,h=>by
  have ih:=CK r (fun x hx=>h x (by simp [hx]));have ha:=h a (by simp);have e1:(a + 256 * valB r) / 4=(a / 4 + 64 * (valB r % 4)) + 256 * (valB r / 4):=by omega
  have hm:=m2 ⟨a,ha⟩ ⟨valB r % 4,by omega⟩;simp only at hm;simp only [valB,List.length_cons,rep,List.map_cons,b2];rw [e1,jc (by omega) (by decide),jc ha (by decide),hm,<- ih];omega
theorem Qt (x y:Nat):(x + 16 * y) &&& 15=x &&& 15:=by
 have h (z:Nat):z &&& 15=z % 16:=Nat.and_two_pow_sub_one_eq_mod z 4;rw [h,h];omega
def x4 (a:Nat):Prop:=a < 70/\a % 16<=4
theorem WA:∀ l:List Nat,(∀ a∈l,x4 a)->((valB l / 16) + valB l) &&& rep 15 l.length=valB (l.map b3)
 | [],_=>rfl
 | a :: r,h=>by
  have ih:=WA r (fun x hx=>h x (by simp [hx]));have ha:=h a (by simp)
  have hc:valB r % 16<=4:=by
   cases r with
   | nil=>simp [valB]
   | cons b s=>
    have:=(h b (by simp)).2;simp only [valB];omega
  unfold x4 at ha;have e1:(a + 256 * valB r) / 16 + (a + 256 * valB r)=((a / 16 + a) + 16 * (valB r % 16)) + 256 * (valB r / 16 + valB r):=by omega
  simp only [valB,List.length_cons,rep,List.map_cons,b3];rw [e1,jc (by omega) (by decide),Qt,ih]
def dt (x:Nat):List Nat:=[x % 256,x / 256 % 256,x / 65536 % 256,x / 16777216 % 256,x / 4294967296 % 256,x / 1099511627776 % 256,x / 281474976710656 % 256,x / 72057594037927936 % 256]
theorem Ae {x:Nat} (h:x < 18446744073709551616):valB (dt x)=x:=by
 simp only [dt,valB];omega
theorem Dt (x:Nat):∀ a∈dt x,a < 256:=by
 intro a ha;simp only [dt,List.mem_cons,List.not_mem_nil,or_false] at ha;omega
def Af (x:Nat):Nat:=((dt x).map pop8).sum
theorem x5:∀ a:Fin 256,b1 a.val < 256/\b2 (b1 a.val) < 70/\b2 (b1 a.val) % 16<=4:=by decide +kernel
theorem vI {x m:Nat} (hx:x < 18446744073709551616) (hm:m < 18446744073709551616) :
  IntKind.u64.wrap ((BitVec.ofInt 64 (x:Int) &&& BitVec.ofInt 64 (m:Int)).toNat:Int)=((x &&& m:Nat):Int):=by
 rw [fI,fI,BitVec.toNat_and,BitVec.toNat_ofNat,BitVec.toNat_ofNat,Nat.mod_eq_of_lt hx,Nat.mod_eq_of_lt hm];have h3:x &&& m < 18446744073709551616:=Nat.and_lt_two_pow (n:=64) x hm;simp only [IntKind.wrap_u64];omega
theorem Ag {x:Nat} {k:Int} (hk:k.toNat < 64):(x:Int).fdiv (2 ^ min k.toNat IntKind.u64.bits)=((x / 2 ^ k.toNat:Nat):Int):=by
 rw [show min k.toNat IntKind.u64.bits=k.toNat from Nat.min_eq_left (by show k.toNat<=64;omega),xZ]
theorem vJ {y:Nat} (h:y < 18446744073709551616):IntKind.u64.wrap (y:Int)=(y:Int):=by
 simp only [IntKind.wrap_u64];omega
theorem Qu {k M:Int} {m x y:Nat} (hk:k.toNat < 64) (hx:x < 18446744073709551616) (hM:M=(m:Int)) (hm:m < 18446744073709551616) (hy:((x / 2 ^ k.toNat) &&& m) + (x &&& m)=y) (jB:y < 18446744073709551616) :
  IntKind.u64.wrap (IntKind.u64.wrap ((BitVec.ofInt IntKind.u64.bits ((x:Int).fdiv (2 ^ min k.toNat IntKind.u64.bits)) &&& BitVec.ofInt IntKind.u64.bits M).toNat:Int) + IntKind.u64.wrap ((BitVec.ofInt IntKind.u64.bits (x:Int) &&& BitVec.ofInt IntKind.u64.bits M).toNat:Int))=(y:Int):=by
 subst hM;have h1:x / 2 ^ k.toNat < 18446744073709551616:=Nat.lt_of_le_of_lt (Nat.div_le_self _ _) hx;have e1:IntKind.u64.wrap ((BitVec.ofInt IntKind.u64.bits ((x / 2 ^ k.toNat:Nat):Int) &&& BitVec.ofInt IntKind.u64.bits (m:Int)).toNat:Int)=_:=vI h1 hm;have e2:IntKind.u64.wrap ((BitVec.ofInt IntKind.u64.bits (x:Int) &&& BitVec.ofInt IntKind.u64.bits (m:Int)).toNat:Int)=_:=vI hx hm;rw [Ag hk,e1,e2,<- Int.natCast_add,hy,vJ jB]
theorem Uz {k M:Int} {m x y:Nat} (hk:k.toNat < 64) (hs:x / 2 ^ k.toNat + x < 18446744073709551616) (hM:M=(m:Int)) (hm:m < 18446744073709551616) (hy:((x / 2 ^ k.toNat) + x) &&& m=y) :
  IntKind.u64.wrap ((BitVec.ofInt IntKind.u64.bits (IntKind.u64.wrap ((x:Int).fdiv (2 ^ min k.toNat IntKind.u64.bits) + (x:Int))) &&& BitVec.ofInt IntKind.u64.bits M).toNat:Int)=(y:Int):=by
 subst hM;have e2:IntKind.u64.wrap ((BitVec.ofInt IntKind.u64.bits ((x / 2 ^ k.toNat + x:Nat):Int) &&& BitVec.ofInt IntKind.u64.bits (m:Int)).toNat:Int)=_:=vI hs hm;rw [Ag hk,<- Int.natCast_add,vJ hs,e2,hy]
theorem MG {k:Int} {x:Nat} (hk:k.toNat < 64) (hs:x + x / 2 ^ k.toNat < 18446744073709551616) :
  IntKind.u64.wrap ((x:Int) + (x:Int).fdiv (2 ^ min k.toNat IntKind.u64.bits))=((x + x / 2 ^ k.toNat:Nat):Int):=by
 rw [Ag hk,<- Int.natCast_add,vJ hs]
theorem B6:∀ l:List Nat,(∀ a∈l,a < 256)->valB l < 256 ^ l.length
 | [],_=>by simp [valB]
 | a :: r,h=>by
  have ih:=B6 r (fun x hx=>h x (by simp [hx]));have ha:=h a (by simp)
  grind [valB]
theorem Gw {x:Nat} (hx:x < 18446744073709551616):∃ y1 y2 y3:Nat,((x / 2) &&& 6148914691236517205) + (x &&& 6148914691236517205)=y1/\y1 < 18446744073709551616/\((y1 / 4) &&& 3689348814741910323) + (y1 &&& 3689348814741910323)=y2/\y2 / 16 + y2 < 18446744073709551616/\y2 < 18446744073709551616 /\
  ((y2 / 16) + y2) &&& 1085102592571150095=y3/\∃ p0 p1 p2 p3 p4 p5 p6 p7:Nat,y3=valB [p0,p1,p2,p3,p4,p5,p6,p7]/\(p0<=8/\p1<=8/\p2<=8/\p3<=8/\p4<=8/\p5<=8/\p6<=8/\p7<=8)/\Af x=p0 + p1 + p2 + p3 + p4 + p5 + p6 + p7:=by
 have hl:=Dt x;have s1:=nI (dt x) hl;rw [Ae hx] at s1
 have l1:∀ a∈(dt x).map b1,a < 256:=by
  intro a ha;obtain ⟨b,hb,rfl⟩:=List.mem_map.1 ha;exact (x5 ⟨b,hl b hb⟩).1
 have l2:∀ a∈((dt x).map b1).map b2,x4 a:=by
  intro a ha;obtain ⟨c,hc,rfl⟩:=List.mem_map.1 ha;obtain ⟨b,hb,rfl⟩:=List.mem_map.1 hc;exact (x5 ⟨b,hl b hb⟩).2
 have s2:=CK ((dt x).map b1) l1;have s3:=WA (((dt x).map b1).map b2) l2
 have v1:valB ((dt x).map b1) < 18446744073709551616:=by
  have:=B6 _ l1;rw [List.length_map,show (dt x).length=8 from rfl] at this;simpa using this
 rw [show rep 85 (dt x).length=6148914691236517205 from (by decide:rep 85 8=_)] at s1;rw [List.length_map,show rep 51 (dt x).length=3689348814741910323 from (by decide:rep 51 8=_)] at s2;rw [List.length_map,List.length_map,show rep 15 (dt x).length=1085102592571150095 from (by decide:rep 15 8=_)] at s3;refine ⟨_,_,_,s1,v1,s2,?_,?_,s3,_,_,_,_,_,_,_,_,rfl,?_,?_⟩
 ·have:=l2;simp only [dt,List.map_cons,List.map_nil,List.mem_cons,List.not_mem_nil,or_false,forall_eq_or_imp,forall_eq,x4,valB] at this ⊢;omega
 ·have:=l2;simp only [dt,List.map_cons,List.map_nil,List.mem_cons,List.not_mem_nil,or_false,forall_eq_or_imp,forall_eq,x4,valB] at this ⊢;omega
 ·have h (b:Nat) (hb:b < 256):=(B5 ⟨b,hb⟩).2.2.1;exact ⟨h _ (by omega),h _ (by omega),h _ (by omega),h _ (by omega),h _ (by omega),h _ (by omega),h _ (by omega),h _ (by omega)⟩
 ·simp only [Af,dt,List.map_cons,List.map_nil,List.sum_cons,List.sum_nil,pop8];omega
theorem dr1 {a r:Nat} (h:a < 256):(a + 256 * r) / 256=r:=by omega
theorem dr2 {a b r:Nat} (h:a < 256) (h2:b < 256):(a + 256 * (b + 256 * r)) / 65536=r:=by omega
theorem Gx {p0 p1 p2 p3 p4 p5 p6 p7:Nat} (hp:p0<=8/\p1<=8/\p2<=8/\p3<=8/\p4<=8/\p5<=8/\p6<=8/\p7<=8):∃ z1 z2 z3:Nat,
  (p0 + 256 * (p1 + 256 * (p2 + 256 * (p3 + 256 * (p4 + 256 * (p5 + 256 * (p6 + 256 * (p7 + 256 * 0)))))))) + (p0 + 256 * (p1 + 256 * (p2 + 256 * (p3 + 256 * (p4 + 256 * (p5 + 256 * (p6 + 256 * (p7 + 256 * 0)))))))) / 256=z1/\z1 < 18446744073709551616 /\
  z1 + z1 / 65536=z2/\z2 < 18446744073709551616/\z2 + z2 / 4294967296=z3/\z3 < 18446744073709551616/\z3 % 128=p0 + p1 + p2 + p3 + p4 + p5 + p6 + p7:=by
 refine ⟨(p0 + p1) + 256 * ((p1 + p2) + 256 * ((p2 + p3) + 256 * ((p3 + p4) + 256 * ((p4 + p5) + 256 * ((p5 + p6) + 256 * ((p6 + p7) + 256 * p7)))))),
  (p0 + p1 + p2 + p3) + 256 * ((p1 + p2 + p3 + p4) + 256 * ((p2 + p3 + p4 + p5) + 256 * ((p3 + p4 + p5 + p6) + 256 * ((p4 + p5 + p6 + p7) + 256 * ((p5 + p6 + p7) + 256 * ((p6 + p7) + 256 * p7)))))),
  (p0 + p1 + p2 + p3 + p4 + p5 + p6 + p7) + 256 * ((p1 + p2 + p3 + p4 + p5 + p6 + p7) + 256 * ((p2 + p3 + p4 + p5 + p6 + p7) + 256 * ((p3 + p4 + p5 + p6 + p7) + 256 * ((p4 + p5 + p6 + p7) + 256 * ((p5 + p6 + p7) + 256 * ((p6 + p7) + 256 * p7)))))),?_,by omega,?_,by omega,?_,by omega,by omega⟩
 ·rw [dr1 (by omega)];omega
 ·rw [dr2 (by omega) (by omega)];omega
 ·omega
theorem Gy {z:Nat} (h:z < 18446744073709551616):IntKind.i64.wrap ((BitVec.ofInt IntKind.i64.bits (IntKind.i64.wrap (z:Int)) &&& BitVec.ofInt IntKind.i64.bits 127).toNat:Int)=((z % 128:Nat):Int):=by
 have e1:BitVec.ofInt 64 (IntKind.i64.wrap (z:Int))=BitVec.ofNat 64 z:=by
  apply BitVec.eq_of_toNat_eq;rw [BitVec.toNat_ofInt,BitVec.toNat_ofNat,IntKind.wrap_i64];omega
 have e2:(BitVec.ofInt 64 (IntKind.i64.wrap (z:Int)) &&& BitVec.ofInt 64 127).toNat=z % 128:=by
  rw [e1,show BitVec.ofInt 64 127=BitVec.ofNat 64 127 by decide,BitVec.toNat_and,BitVec.toNat_ofNat,BitVec.toNat_ofNat,Nat.mod_eq_of_lt h];exact Nat.and_two_pow_sub_one_eq_mod z 7
 have e3:(BitVec.ofInt IntKind.i64.bits (IntKind.i64.wrap (z:Int)) &&& BitVec.ofInt IntKind.i64.bits 127).toNat=z % 128:=e2;rw [e3,IntKind.wrap_i64];omega
theorem Du (x:Nat) (hx:x < 18446744073709551616):aV prog 209 [.v (.int .u64 x)] (.v (.int .i64 (Af x:Nat))):=by
 obtain ⟨y1,y2,y3,h1,NM,h2,h2s,Tx,h3,p0,p1,p2,p3,p4,p5,p6,p7,h4,hp,h5⟩:=Gw hx;rw [h5];simp only [valB] at h4;refine eG 35 [.tmp 2] func209 rfl ntmps209 rfl fun _ _ _ _=>?_;refine ⟨by decide,?_⟩;refine ⟨by decide,?_⟩;refine ⟨by decide,?_⟩;refine ⟨by decide,?_⟩;refine ⟨by decide,?_⟩;refine ⟨by decide,?_⟩;refine (qN ?_:);rw [Qu (k:=1) (M:=6148914691236517205) (by decide) hx rfl (by decide) h1 NM,Qu (k:=2) (M:=3689348814741910323) (by decide) NM rfl (by decide) h2 Tx,Uz (k:=4) (M:=1085102592571150095) (by decide) h2s rfl (by decide) h3];obtain ⟨z1,z2,z3,g1,g1b,g2,g2b,g3,WB,g4⟩:=Gx hp;rw [<- h4] at g1;have k1:y3 + y3 / 2 ^ (8:Int).toNat=z1:=g1;rw [MG (k:=8) (by decide) (by rw [k1];exact g1b),k1];have k2:z1 + z1 / 2 ^ (16:Int).toNat=z2:=g2;rw [MG (k:=16) (by decide) (by rw [k2];exact g2b),k2];have k3:z2 + z2 / 2 ^ (32:Int).toNat=z3:=g3;rw [MG (k:=32) (by decide) (by rw [k3];exact WB),k3,<- g4];exact Gy WB
theorem gd (x k i:Nat) (hi:i < 8):(x / 2 ^ (8 * k) % 256).testBit i=x.testBit (8 * k + i):=by
 rw [show (256:Nat)=2 ^ 8 by decide,Nat.testBit_mod_two_pow,decide_eq_true hi,Bool.true_and,Nat.testBit_div_two_pow,Nat.add_comm]
theorem gf (x k:Nat):pop8 (x / 2 ^ (8 * k) % 256)=(((((((x.testBit (8 * k + 0)).toNat + (x.testBit (8 * k + 1)).toNat) + (x.testBit (8 * k + 2)).toNat) + (x.testBit (8 * k + 3)).toNat) + (x.testBit (8 * k + 4)).toNat) + (x.testBit (8 * k + 5)).toNat) + (x.testBit (8 * k + 6)).toNat) + (x.testBit (8 * k + 7)).toNat:=by
 have h:=(B5 ⟨x / 2 ^ (8 * k) % 256,Nat.mod_lt _ (by decide)⟩).2.2.2;simp only at h;rw [h,gd x k 0 (by decide),gd x k 1 (by decide),gd x k 2 (by decide),gd x k 3 (by decide),gd x k 4 (by decide),gd x k 5 (by decide),gd x k 6 (by decide),gd x k 7 (by decide)]
def sumB (x:Nat):Nat->Nat
 | 0=>0
 | n + 1=>sumB x n + (x.testBit n).toNat
theorem Gz (x:Nat):Af x=sumB x 64:=by
 have h0:=gf x 0;have h1:=gf x 1;have h2:=gf x 2;have h3:=gf x 3;have h4:=gf x 4;have h5:=gf x 5;have h6:=gf x 6;have h7:=gf x 7;simp only [Nat.mul_zero,Nat.pow_zero,Nat.div_one] at h0;simp only [Af,dt,List.map_cons,List.map_nil,List.sum_cons,List.sum_nil,sumB]
 grind
theorem rG (x:Nat):∀ n,0 < sumB x n↔∃ b,b < n/\x.testBit b=true
 | 0=>by simp [sumB]
 | n + 1=>by
  have ih:=rG x n
  grind [sumB]
theorem x6 (x a:Nat) (ha:x.testBit a=true):∀ n,a < n->(1 < sumB x n↔∃ b,b < n/\b≠a/\x.testBit b=true)
 | 0,h=>by omega
 | n + 1,h=>by
  simp only [sumB];by_cases hn:a=n
  ·grind [rG]
  ·have ih:=x6 x a ha n (by omega)
   grind [rG]
def bE (p:Nat->Bool) (n:Nat):Option Nat:=(List.range n).find? p
theorem cg {p:Nat->Bool} {n e:Nat} (he:e < n) (hp:p e=true) (h:∀ a,a < e->p a=false):bE p n=some e:=by simp_all [bE]
theorem cA {p:Nat->Bool} {n:Nat} (h:∀ a,a < n->p a=false):bE p n=none:=by grind [bE]
theorem dN {p:Nat->Bool} {n e:Nat} (h:bE p n=some e):e < n/\p e=true/\∀ a,a < e->p a=false:=by simp_all [bE]
def na (c:List Nat) (a:Nat):Bool:=decide (1 < Af (backN c a c.length))
def GA:Option Nat->DV
 | some a=>.bS [.v (.int .i64 (a:Int)),.v (.bool true)]
 | none=>.bS [.v (.int .i64 0),.v (.bool false)]
abbrev Jc (c:List Nat) (e:Nat):St:=
 ⟨[(4,⟨[],j6 c⟩),aq 9 c.length,aq 10 e],[],[]⟩
theorem Ah (rows:List Nat) (hr:dc rows) (h0:rows ≠ []):aV prog 128 [j6 rows] (GA (bE (na (closeR rows rows.length)) rows.length)):=by
 have hc:=pe rows hr h0;have ef:=jb hr rows.length hr.1;have hlen:=dM rows rows.length;have hr1:=hr.1;generalize closeR rows rows.length=c at hc ef hlen ⊢;rw [<- hlen];have hl:=ub c;refine eG 20 [.tmp 2,.tmp 3] func128 rfl ntmps128 rfl fun _ _ _ _=>?_;refine cP Kl hc ?_;refine cP FD hl ?_;refine lI (fun j st=>∃ e:Nat,st=Jc c e/\e<=c.length/\(∀ a,a < e->na c a=false)/\j=c.length - e) ⟨0,rfl,by omega,fun a h=>by omega,rfl⟩ (bc wB) ?_;rintro j st ⟨e,rfl,he,hno,rfl⟩;refine br ?_ ?_<;>intro hL
 ·have ap:e < c.length:=by have:=hL;simp at this;exact this
  have ME:backN c e c.length < 18446744073709551616:=by
   have h1:=rA c e c.length;have:2 ^ c.length<=2 ^ 64:=Nat.pow_le_pow_right (by decide) (by omega);omega
  refine cP Pw (Ad c ef e ap) ?_;refine cP Pv (Du _ ME) ?_;refine br ?_ ?_<;>intro g
  ·have g:na c e=true:=by
    simp at g;simp [na];omega
   rw [cg ap g hno];refine ⟨_,?_,rfl⟩;exact ax
  ·have g:na c e=false:=by
    simp at g;simp [na];omega
   exact rE ⟨_,by omega,e + 1,rfl,by omega,fun a ha=>by
    rcases ka ha with ha | rfl
    ·exact hno a ha
    ·exact g,rfl⟩ (bc (c8 (aT ap (by omega))))
 ·have hge:e=c.length:=by have:=hL;simp at this;omega
  subst hge;rw [cA hno];refine ⟨_,?_,rfl⟩;exact ax
end Go.Proofs.YtfdedoiiahbnnaaGreat
