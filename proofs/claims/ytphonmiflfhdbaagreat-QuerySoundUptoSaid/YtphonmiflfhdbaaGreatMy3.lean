/- Part 3 of the proof: Contracts: the reference's words, Plain, Same, Zero, own; Contracts: the reference's Same, Zero, own; Contracts: the reference's Label, listed, names, Size, with, coarse; What is wrong with a type: the plain function; the reference's Wrong and parts return it; The program's checks of types: bad, listed, label, words; The program's checks of types: label, coarse; The program's comparing of names and types; The program's Same; The program's own, empty; The program's empty, enum; kinds.Right, once the checker's check is known; Numbers in tens: the reference's Put; Numbers in tens: the program's Put; The text of a type, plain; the reference's Label and comma; The reference's text of a type: Label, comma, part, Type; The reference's text of a part; The reference's text of a type; The library's strings.Join, laid at this program by the kit's tool (lay-plain; wip/tools/lay.sh); The program's text of a label, of what stands behind a part's type, of lists; The program's text of a type: field, tag, kind; unparse.Type, once the checker's check is known; A type with which nothing is wrong is fine for its text; Readable data as data of the evaluator: what the statement's form reads of an argument is a datum of the evaluator, of the argument's type, no heavier than what was read; What is read of a type, as the plain data; From a contract over data to what a law's statement asks: the arguments are read, the call returns true, all that was there stays; What all laws' frames share: the bulk, the program's closed facts; Types without places: plain, and the program's kinds.Strip; Schemas: plain, as the evaluator has them, without places; What is read of a schema, as the plain data; What the frames of laws over schemas share; The program's closed facts, each by itself (all at once they ask more memory than a Lean process has); Relations as rows of bits: plain, and rel's functions that read; rel.back: who leads to a thing and is led to by it; rel.New: the rows of a list of pairs; rel.Close: the closure, by rows; The number of bits that are set, as the library reckons it; math/bits.OnesCount64; When two bits are set; rel.Loop: the least thing in a loop; The plain law of closeR: its bits are what is led to; The program's and the reference's check of names that must differ; The table's Find, whole; lattice.many, called, numbered; Rules for the evaluator: a call that is handed the caller's first objects and rows; rows whose cells nobody else knows; lattice.best, and the closures of bounds. No condition. -/
import Derived.Laws.StructEq
import Derived.Shelf.Strings.OnBuilder
import Derived.Deep.Slices
import Derived.ChangeArms
import Derived.DataReads
import Derived.WalkKit
import Derived.ProofKit
import Derived.OpenShut
import Derived.Carry
import Derived.JoinedCond
import Derived.Test.YtphonmiflfhdbaaGreatRows
import Derived.Test.YtphonmiflfhdbaaGreatMy2
set_option linter.all false
set_option maxRecDepth 100000
namespace Go.Proofs.YtphonmiflfhdbaaGreat
open Go Go.RowKit Dv Go.Proofs.Tryz
def sameWds:List Wd->List Wd->Bool
 | [],[]=>true
 | x :: r,y :: s=>decide (x.s=y.s) && sameWds r s
 | _,_=>false
theorem rA:∀ {a b:List Wd},a.length≠b.length->sameWds a b=false
 | [],[],h=>(h rfl).elim
 | x :: r,y :: s,h=>by
  have:r.length≠s.length:=sU h;simp [sameWds,rA this]
 | [],y :: s,_=>rfl
 | x :: r,[],_=>rfl
abbrev yY (a b:List Wd) (e:Nat):St:=
 ⟨[bc 0 2 (bw a),bc 1 2 (bw b),aw 5 e],[],[]⟩
theorem ld (a b:List Wd) (hs:a.length<=4611686018427387904) :
  EvP prog 236 [.sl 2 (bw a) none,.sl 2 (bw b) none] (.v (.bool (sameWds a b))):=by
 refine eG 28 [.tmp 4] func236 rfl ntmps236 rfl fun _ _ _ _=>?_;refine br ?_ ?_<;>intro h
 ·have bq:a.length≠b.length:=by have:=h;simp [az] at this;omega
  exact congrArg (fun b=>DV.v (.bool b)) (rA bq).symm
 ·have hl:a.length=b.length:=by have:=h;simp [az] at this;omega
  refine aY (fun j st=>∃ e:Nat,st=yY a b e/\e<=a.length/\sameWds a b=sameWds (a.drop e) (b.drop e)/\j=a.length - e) a.length
   (yY a b 0) (bl wB) ⟨0,rfl,by omega,rfl,by omega⟩ ?_
  rintro j st ⟨e,rfl,he,aP,rfl⟩;refine br ?_ ?_<;>intro h
  ·have ay:e < a.length:=by simpa [az] using h
   obtain ⟨x,hx⟩:=gX ay;obtain ⟨y,hy⟩:∃ y,b[e]? = some y:=⟨_,gE (hl ▸ ay)⟩;rw [drop_cons hx,drop_cons hy] at aP;refine dI ?_;refine ⟨jt x,⟨by omega,aR hx⟩,jt y,⟨by omega,aR hy⟩,?_⟩;refine br ?_ ?_<;>intro h
   ·have bq:x.s≠y.s:=sU h;refine (bA ?_:);rw [aP];simp [sameWds,bq]
   ·have bq:x.s=y.s:=sU h;refine ⟨yY a b (e + 1),(bl (cQ (nxt ay (by omega)))),a.length - (e + 1),by omega,e + 1,rfl,by omega,?_,rfl⟩;rw [aP];simp [sameWds,bq]
  ·have hge:e=a.length:=by have:=h;simp [az] at this;omega
   refine (bA ?_:);rw [aP,hge,hl];simp [sameWds];rw [<- hl];simp [sameWds]
def bW (p q:Ph):Bool:=(p.bare == q.bare) && decide (p.wide=q.wide) && sameWds p.label q.label && decide (p.ck=q.ck) && decide (p.cn=q.cn) && sameWds p.cl q.cl
theorem lg (p q:Ph) (tl tl':List DV) (hs:p.wt<=4611686018427387904) (ht:CcL [] 0 0 0 tl tl) (r9:CcL [] 0 0 0 tl' tl') :
  EvP prog 198 [.agg (Dk p tl),.agg (Dk q tl')] (.v (.bool (bW p q))):=by
 refine eG 51 [.tmp 4] func198 rfl ntmps198 rfl fun _ _ _ _=>?_;have h1:=bi p.label;have h2:=bi p.cl;simp only [Ph.wt] at hs;refine br ?_ ?_<;>intro h
 ·refine cP JW (ld p.label q.label (by omega)) ?_;refine br ?_ ?_<;>intro h2
  ·refine cP JW (ld p.cl q.cl (by omega)) ?_;refine (bA ?_:);simp [ah] at h h2;simp [bW,ah,h,h2]
  ·refine (bA ?_:);simp [ah] at h h2;simp [bW,ah,h]
   grind
 ·refine (bA ?_:);simp [ah] at h;simp [bW]
  grind
def j2 (h k:Hd):Bool:=decide (h.ag=k.ag) && decide (h.lo=k.lo) && decide (h.hi=k.hi) && decide (h.most=k.most) && decide (h.name.s=k.name.s) && sameWds h.af k.af
mutual
def sameTy:Ty->Ty->Bool
 | .mk h ps,.mk k qs=>j2 h k && samePts ps qs
def samePts:Pts->Pts->Bool
 | .nil,.nil=>true
 | .cons p t r,.cons q u s=>decide (p.name.s=q.name.s) && bW p q && sameTy t u && samePts r s
 | _,_=>false
end
theorem rB:∀ {a b:Pts},a.len≠b.len->samePts a b=false
 | .nil,.nil,h=>(h rfl).elim
 | .cons p t r,.cons q u s,h=>by
  have:r.len≠s.len:=by simpa [Pts.len] using h
  simp [samePts,rB this]
 | .nil,.cons _ _ _,_=>by simp [samePts]
 | .cons _ _ _,.nil,_=>by simp [samePts]
def iE (h:Hd):Hd:=
 ⟨h.ag,0,if h.ag=2 then h.lo else 0,if h.ag=2 then h.hi else 0,if h.ag=3∨h.ag=5 then h.most else 0,if h.ag=4 then h.af else [],if h.ag=9 then h.name else ⟨au,0⟩⟩
def mask:Ty->Ty
 | .mk h ps=>.mk (iE h) (if 4 < h.ag/\h.ag < 9 then ps else .nil)
theorem xf (bx:List (List DV)) (N n m:Nat) (t:Ty):CcL bx N n m (dB t) (dB t):=by
 obtain ⟨h,ps⟩:=t;simp only [dB,CcL,Cc]
 repeat' (first | exact rfl | exact trivial | exact Or.inr (Or.inl ⟨_,rfl⟩) | refine ⟨_,_,rfl,?_,?_⟩)
abbrev Ds (a b:Ty) (e:Nat):St:=
 ⟨[aF 2 0,aF 3 1,aw 5 e],[dB a,dB b],[]⟩
theorem mf:∀ (n:Nat) (a b:Ty),a.wt<=n->a.wt<=4611686018427387904 ->
  EvP prog 235 [.agg (dB a),.agg (dB b)] (.v (.bool (sameTy a b)))
 | 0,a,b,hn,_=>by have:=a.dE;omega
 | n + 1,.mk h ps,.mk k qs,hn,bO=>by
  simp only [Ty.wt,Hd.wt] at hn bO;have hl:=bi h.af;have ke:=ps.eV;refine eG 98 [.tmp 4] func235 rfl ntmps235 rfl fun _ _ _ _=>?_;refine br ?_ ?_<;>intro hA
  ·simp [aq] at hA;obtain ⟨⟨⟨⟨e1,e2⟩,e3⟩,e4⟩,e5⟩:=hA;refine cP JW (ld h.af k.af (by omega)) ?_;refine br ?_ ?_<;>intro hB
   ·refine (bA ?_:);simp [aq,e1,e2,e3,e4,e5,aJ] at hB;simp only [sameTy,j2];rcases hB with hB | hB
    ·simp [hB]
    ·have:ps.len≠qs.len:=by omega
     simp [rB this]
   ·simp [aq,e1,e2,e3,e4,e5,aJ] at hB;obtain ⟨e6,e7⟩:=hB;have e8:ps.len=qs.len:=by omega
    have eh:sameTy (.mk h ps) (.mk k qs)=samePts ps qs:=by simp [sameTy,j2,e1,e2,e3,e4,e5,e6]
    refine aY (fun j st=>∃ e:Nat,st=Ds (.mk h ps) (.mk k qs) e/\e<=ps.len/\samePts ps qs=samePts (ps.drop e) (qs.drop e)/\j=ps.len - e) ps.len
     (Ds (.mk h ps) (.mk k qs) 0) (bl wB) ⟨0,rfl,by omega,rfl,by omega⟩ ?_
    rintro j st ⟨e,rfl,he,aP,rfl⟩;refine br ?_ ?_<;>intro hL
    ·have ay:e < ps.len:=by simpa [aJ] using hL
     obtain ⟨p,t,hx⟩:=Pts.dO ay;obtain ⟨q,u,hy⟩:=Pts.dO (e8 ▸ ay);rw [Pts.drop_cons hx,Pts.drop_cons hy] at aP;have A5:=Pts.fD (mG hx);obtain ⟨t,ts⟩:=t;obtain ⟨u,us⟩:=u;apply mT (fun _=>false) 10 11 [0,1,2,3,4,5,6,7,8,9,10,11,12,13] [0,1,2,3,4,5,6,7,8,9,11,10,12,13] 2 3 mo (by decide +kernel)
     ·refine ⟨_,⟨by omega,bI hx⟩,_,⟨by omega,bI hy⟩,?_⟩;refine (?_:@Eq St _ _);exact rfl
     ·refine ⟨_,⟨by omega,bI hx⟩,_,⟨by omega,bI hy⟩,?_⟩;refine (⟨rfl,rfl,?_⟩:_/\_/\_)
      repeat' (first | exact trivial | refine ⟨rfl,?_⟩)
     ·rfl
     refine br ?_ ?_<;>intro hC
     ·have hC:p.name.s=q.name.s:=sU hC;refine cP JV (lg p q (dB (.mk t ts)) (dB (.mk u us)) (by omega) (xf _ _ _ _ _) (xf _ _ _ _ _)) ?_;refine br ?_ ?_<;>intro hD
      ·have hD:bW p q=true:=by simpa [aq,hC] using hD
       refine cP mc (mf n (.mk t ts) (.mk u us) (by omega) (by omega)) ?_;refine br ?_ ?_<;>intro hE
       ·refine (bA ?_:);rw [eh,aP];simp [aq,hC,hD] at hE;simp [samePts,hE]
       ·simp [aq,hC,hD] at hE;refine ⟨Ds (.mk h ps) (.mk k qs) (e + 1),(bl (cQ (nxt ay (by omega)))),ps.len - (e + 1),by omega,e + 1,rfl,by omega,?_,rfl⟩;rw [aP];simp [samePts,hC,hD,hE]
      ·have hD:bW p q=false:=by simpa [aq,hC] using hD
       refine (bA ?_:);rw [eh,aP];simp [samePts,hD]
     ·have hC:p.name.s≠q.name.s:=sU hC;refine (bA ?_:);rw [eh,aP];simp [samePts,hC]
    ·have hge:e=ps.len:=by have:=hL;simp [aJ] at this;omega
     refine (bA ?_:);rw [eh,aP,hge,Pts.cH,e8,Pts.cH];simp [samePts]
  ·refine (bA ?_:);simp [aq] at hA;simp only [sameTy,j2]
   grind
theorem A6 (t:Ty) (bO:t.wt<=4611686018427387904) :
  EvP prog 238 [.agg (dB t)] (.v (.bool (sameTy t cd))):=by
 obtain ⟨h,ps⟩:=t;refine eG 6 [.tmp 2] func238 rfl ntmps238 rfl fun _ _ _ _=>?_;refine cP mc (mf _ (.mk h ps) cd (aU _) bO) ?_;exact (rfl:_=_)
theorem Dt (t:Ty) (bO:t.wt<=4611686018427387904) :
  EvP prog 196 [.agg (dB t)] (.v (.bool (sameTy t (mask t)))):=by
 obtain ⟨h,ps⟩:=t
 have key:∀ (h':Hd) (ps':Pts),iE h=h' -> (if 4 < h.ag/\h.ag < 9 then ps else .nil)=ps' ->
   EvP prog 235 [.agg (dB (.mk h ps)),.agg (dB (.mk h' ps'))] (.v (.bool (sameTy (.mk h ps) (mask (.mk h ps))))):=by
  rintro h' ps' rfl rfl;exact mf _ (.mk h ps) _ (aU _) bO
 obtain ⟨ag,aK,lo,hi,most,af,name⟩:=h;by_cases hr:2<=ag/\ag<=9
 ·obtain hk | hk | hk | hk | hk | hk | hk | hk:ag=2∨ag=3∨ag=4∨ag=5∨ag=6∨ag=7∨ag=8∨ag=9:=by omega
  ·subst hk;refine eG 53 [.tmp 2] func196 rfl ntmps196 rfl fun _ _ _ _=>?_;refine cP mc (key ⟨2,0,lo,hi,0,[],⟨au,0⟩⟩ .nil (by simp [iE]) (by simp)) ?_;exact (rfl:_=_)
  ·subst hk;refine eG 53 [.tmp 2] func196 rfl ntmps196 rfl fun _ _ _ _=>?_;refine cP mc (key ⟨3,0,0,0,most,[],⟨au,0⟩⟩ .nil (by simp [iE]) (by simp)) ?_;exact (rfl:_=_)
  ·subst hk;refine eG 53 [.tmp 2] func196 rfl ntmps196 rfl fun _ _ _ _=>?_;refine cP mc (key ⟨4,0,0,0,0,af,⟨au,0⟩⟩ .nil (by simp [iE]) (by simp)) ?_;exact (rfl:_=_)
  ·subst hk;refine eG 53 [.tmp 2] func196 rfl ntmps196 rfl fun _ _ _ _=>?_;refine cP mc (key ⟨5,0,0,0,most,[],⟨au,0⟩⟩ ps (by simp [iE]) (by simp)) ?_;exact (rfl:_=_)
  ·subst hk;refine eG 53 [.tmp 2] func196 rfl ntmps196 rfl fun _ _ _ _=>?_;refine cP mc (key ⟨6,0,0,0,0,[],⟨au,0⟩⟩ ps (by simp [iE]) (by simp)) ?_;exact (rfl:_=_)
  ·subst hk;refine eG 53 [.tmp 2] func196 rfl ntmps196 rfl fun _ _ _ _=>?_;refine cP mc (key ⟨7,0,0,0,0,[],⟨au,0⟩⟩ ps (by simp [iE]) (by simp)) ?_;exact (rfl:_=_)
  ·subst hk;refine eG 53 [.tmp 2] func196 rfl ntmps196 rfl fun _ _ _ _=>?_;refine cP mc (key ⟨8,0,0,0,0,[],⟨au,0⟩⟩ ps (by simp [iE]) (by simp)) ?_;exact (rfl:_=_)
  ·subst hk;refine eG 53 [.tmp 2] func196 rfl ntmps196 rfl fun _ _ _ _=>?_;refine cP mc (key ⟨9,0,0,0,0,[],name⟩ .nil (by simp [iE]) (by simp)) ?_;exact (rfl:_=_)
 ·refine eG 53 [.tmp 2] func196 rfl ntmps196 rfl fun _ _ _ _=>?_;refine br (fun c=>?_) (fun c1=>?_)
  ·have:ag=2:=of_decide_eq_true c;omega
  refine br (fun c=>?_) (fun c2=>?_)
  ·simp [aq] at c;omega
  refine br (fun c=>?_) (fun c3=>?_)
  ·have:ag=4:=of_decide_eq_true c;omega
  refine br (fun c=>?_) (fun c4=>?_)
  ·simp [ah] at c;omega
  refine br (fun c=>?_) (fun c5=>?_)
  ·have:ag=9:=of_decide_eq_true c;omega
  have e1:¬ ag=2:=of_decide_eq_false c1;have e3:¬ ag=4:=of_decide_eq_false c3;have e5:¬ ag=9:=of_decide_eq_false c5;simp [aq,ah] at c2 c4;refine cP mc (key ⟨ag,0,0,0,0,[],⟨au,0⟩⟩ .nil (by simp [iE,e1,c2,e3,e5]) (by simp;omega)) ?_;exact (rfl:_=_)
abbrev Ft:Type:=Int × Int
def Ft.d (f:Ft):DV:=.agg [.v (.int .i64 f.1),.v (.int .i64 f.2)]
def badWd:List Wd->Ft
 | []=>(0,0)
 | w :: r=>if aZ w.s then badWd r else (9,w.a)
def bF (l:List Wd):Ft:=
 if l.length<=32 then badWd l else (8,((l[32]?).getD (⟨au,0⟩:Wd)).a)
abbrev yZ (l:List Wd) (e:Nat):St:=
 ⟨[bc 0 2 (bw l),aF 2 0,aw 3 e],[[.v (.int .i64 0),.v (.int .i64 0)]],[]⟩
theorem lh (l:List Wd) (hs:wdsWt l<=4611686018427387904) :
  EvP prog 194 [.sl 2 (bw l) none] (bF l).d:=by
 have oP:=bi l;refine eG 32 [.cell 2 44] func194 rfl ntmps194 rfl fun _ _ _ _=>?_;refine br ?_ ?_<;>intro h
 ·have ay:32 < l.length:=by simp [az] at h;omega
  obtain ⟨x,hx⟩:=gX ay;have:bF l=(8,x.a):=by simp [bF,Nat.not_le.2 ay,hx]
  refine ⟨jt x,⟨by omega,aR hx⟩,_,?_,rfl⟩;rw [this];exact ax
 ·have eM:l.length<=32:=by simp [az] at h;omega
  refine aY (fun j st=>∃ e:Nat,st=yZ l e/\e<=l.length/\badWd l=badWd (l.drop e)/\j=l.length - e) l.length
   (yZ l 0) (bl wB) ⟨0,rfl,by omega,rfl,by omega⟩ ?_
  rintro j st ⟨e,rfl,he,aP,rfl⟩;refine br ?_ ?_<;>intro hL
  ·have ay:e < l.length:=by simpa [az] using hL
   obtain ⟨x,hx⟩:=gX ay;rw [drop_cons hx] at aP;have CJ:=gK (mG hx);refine ⟨jt x,⟨by omega,aR hx⟩,?_⟩;refine cP FI (jL x.s (by omega)) ?_;refine br ?_ ?_<;>intro hN
   ·have hN:aZ x.s=false:=sU hN;have:bF l=(9,x.a):=by simp [bF,eM,aP,badWd,hN]
    refine ⟨jt x,⟨by omega,aR hx⟩,_,?_,rfl⟩;rw [this];exact ax
   ·have hN:aZ x.s=true:=sU hN;refine ⟨yZ l (e + 1),(bl (cQ (nxt ay (by omega)))),l.length - (e + 1),by omega,e + 1,rfl,by omega,?_,rfl⟩;rw [aP];simp [badWd,hN]
  ·have hge:e=l.length:=by simp [az] at hL;omega
   have:bF l=(0,0):=by simp [bF,eM,aP,hge,badWd]
   refine ⟨_,?_,rfl⟩;rw [this];exact ax
def bX (l:List Wd) (s:ByteArray):Bool:=l.any fun w=>decide (w.s=s)
def aG (l:List Wd) (i:Nat) (x:Wd):Int:=
 if aZ x.s then (if bX (l.take i) x.s then 10 else 0) else 9
abbrev tS (l:List Wd) (i e:Nat):St:=
 ⟨[bc 0 2 (bw l),aw 1 i,aw 5 e],[],[]⟩
theorem nI (l:List Wd) (i:Nat) (x:Wd) (hs:wdsWt l<=4611686018427387904) (hx:l[i]? = some x) :
  EvP prog 197 [.sl 2 (bw l) none,.v (.int .i64 i)] (.v (.int .i64 (aG l i x))):=by
 have oP:=bi l;have hi:=(gS hx).1;have CJ:=gK (mG hx);refine eG 29 [.tmp 4] func197 rfl ntmps197 rfl fun _ _ _ _=>?_;refine ⟨jt x,⟨by omega,aR hx⟩,?_⟩;refine cP FI (jL x.s (by omega)) ?_;refine br ?_ ?_<;>intro hN
 ·have hN:aZ x.s=false:=sU hN;refine (yM ?_:);simp [aG,hN]
 ·have hN:aZ x.s=true:=sU hN
  refine aY (fun j st=>∃ e:Nat,st=tS l i e/\e<=i/\bX (l.take e) x.s=false/\j=i - e) i
   (tS l i 0) (bl wB) ⟨0,rfl,by omega,rfl,by omega⟩ ?_
  rintro j st ⟨e,rfl,he,aP,rfl⟩;refine br ?_ ?_<;>intro hL
  ·have ay:e < i:=sU hL;obtain ⟨y,hy⟩:∃ y,l[e]? = some y:=⟨_,gE (by omega)⟩;refine dI ?_;refine ⟨jt y,⟨by omega,aR hy⟩,jt x,⟨by omega,aR hx⟩,?_⟩;refine br ?_ ?_<;>intro hE
   ·have hE:y.s=x.s:=sU hE;refine (yM ?_:)
    have:bX (l.take i) x.s=true:=by
     simp only [bX,List.any_eq_true];exact ⟨y,List.mem_take_iff_getElem.2 ⟨e,by omega,(gS hy).2⟩,by simpa using hE⟩
    simp [aG,hN,this]
   ·have hE:¬ y.s=x.s:=sU hE;refine ⟨tS l i (e + 1),(bl (cQ (nxt ay (by omega)))),i - (e + 1),by omega,e + 1,rfl,by omega,?_,rfl⟩;rw [List.take_add_one,hy];simp only [bX,List.any_append] at aP ⊢;simp [aP,hE]
  ·have hge:e=i:=by have:=of_decide_eq_false hL;omega
   refine (yM ?_:);subst hge;simp [aG,hN,aP]
def pNames:Pts->List Wd
 | .nil=>[]
 | .cons p _ r=>p.name :: pNames r
theorem fF:∀ ps:Pts,(pNames ps).length=ps.len
 | .nil=>rfl
 | .cons p t r=>by simp [pNames,Pts.len,fF r]
theorem fG:∀ {ps:Pts} {j:Nat} {p:Ph} {t:Ty},ps.toList[j]? = some (p,t)->(pNames ps)[j]? = some p.name
 | .nil,j,p,t,h=>by simp [Pts.toList] at h
 | .cons q u r,0,p,t,h=>by grind [Pts.toList,pNames]
 | .cons q u r,j + 1,p,t,h=>by
  simp only [Pts.toList,List.getElem?_cons_succ] at h;simp only [pNames,List.getElem?_cons_succ];exact fG h
theorem qB:∀ ps:Pts,wdsWt (pNames ps)<=ps.wt
 | .nil=>aU _
 | .cons p t r=>by
  have:=qB r
  grind [pNames,wdsWt,Pts.wt,Ph.wt]
abbrev y4 (ps:Pts) (l:List Wd) (n e:Nat):St:=
 ⟨[bc 0 18 (eW ps),(3,⟨[],.sl 2 (bw l) (some 0)⟩),aw 4 e],[],[⟨n,27,2,none⟩]⟩
theorem y5 (ps:Pts) (hs:ps.wt<=1099511627776):EvP prog 237 [.sl 18 (eW ps) none] (.sl 2 (bw (pNames ps)) none):=by
 have ke:=ps.eV;refine eG 20 [.tmp 2] func237 rfl ntmps237 rfl fun _ _ _ _=>?_
 refine aY (fun j st=>∃ (e:Nat),st=y4 ps ((pNames ps).take e) e e/\e<=ps.len/\j=ps.len - e) ps.len
  (y4 ps [] 0 0) (ff ⟨0,27,2,none⟩ rfl ⟨_,rfl⟩ rfl wA rfl rfl jX) ⟨0,by simp,by omega,by omega⟩ ?_
 rintro j st ⟨e,rfl,he,rfl⟩;refine br ?_ ?_<;>intro hL
 ·have ay:e < ps.len:=by simpa [aJ] using hL
  obtain ⟨p,t,hx⟩:=Pts.dO ay;refine iX (bI hx) ?_;refine ⟨by simp [az,fF];omega,⟨by simp [az,fF,maxLen];omega,by simp [az,fF];omega⟩,?_⟩;refine ⟨y4 ps ((pNames ps).take (e + 1)) (e + 1) (e + 1),(bl (wB2 (nxt ay (by omega)) (wZ (fG hx)))),ps.len - (e + 1),by omega,e + 1,rfl,by omega,rfl⟩
 ·have hge:e=ps.len:=by simp [aJ] at hL;omega
  rw [hge,List.take_of_length_le (by rw [fF];omega)];exact ⟨_,ax,rfl⟩
mutual
def Ty.cnt:Ty->Nat
 | .mk _ ps=>1 + ps.cnt
def Pts.cnt:Pts->Nat
 | .nil=>0
 | .cons p t r=>(if p.bare then 0 else t.cnt) + r.cnt
end
mutual
def Ty.deep:Ty->Nat
 | .mk _ ps=>ps.deep + 1
def Pts.deep:Pts->Nat
 | .nil=>0
 | .cons p t r=>max (if p.bare then 0 else t.deep) r.deep
end
mutual
theorem Ty.dP:∀ t:Ty,t.cnt<=t.wt
 | .mk h ps=>by have:=Pts.dP ps;simp only [Ty.cnt,Ty.wt,Hd.wt];omega
theorem Pts.dP:∀ ps:Pts,ps.cnt<=ps.wt
 | .nil=>aU _
 | .cons p t r=>by
  have:=Ty.dP t;have:=Pts.dP r;simp only [Pts.cnt,Pts.wt];split<;>omega
end
mutual
theorem Ty.mW:∀ t:Ty,t.deep<=t.wt
 | .mk h ps=>by have:=Pts.mW ps;simp only [Ty.deep,Ty.wt,Hd.wt];omega
theorem Pts.mW:∀ ps:Pts,ps.deep<=ps.wt
 | .nil=>aU _
 | .cons p t r=>by
  have:=Ty.mW t;have:=Pts.mW r
  grind [Pts.deep,Pts.wt]
end
abbrev y6 (t:Ty) (e n d:Nat):St:=
 ⟨[aF 1 0,aw 4 n,aw 5 d,aw 6 e],[dB t],[]⟩
theorem jN:∀ (k:Nat) (t:Ty),t.wt<=k->t.wt<=1099511627776 ->
  EvP prog 55 [.agg (dB t)] (.tup [.v (.int .i64 t.cnt),.v (.int .i64 t.deep)])
 | 0,t,hn,_=>by have:=t.dE;omega
 | k + 1,.mk h ps,hn,bO=>by
  simp only [Ty.wt,Hd.wt] at hn bO;have ke:=ps.eV;have hc:=ps.dP;have hdp:=ps.mW;refine eG 42 [.tmp 2,.tmp 3] func55 rfl ntmps55 rfl fun _ _ _ _=>?_
  refine aY (fun j st=>∃ (e n d:Nat),st=y6 (.mk h ps) e n d/\e<=ps.len/\n + (ps.drop e).cnt=1 + ps.cnt/\max d (ps.drop e).deep=ps.deep/\j=ps.len - e) ps.len
   (y6 (.mk h ps) 0 1 0) (bl wB) ⟨0,1,0,rfl,by omega,rfl,by simp [Pts.drop],by omega⟩ ?_
  rintro j st ⟨e,n,d,rfl,he,bq,Th,rfl⟩;refine br ?_ ?_<;>intro hL
  ·have ay:e < ps.len:=by simpa [aJ] using hL
   obtain ⟨p,t,hx⟩:=Pts.dO ay;have A5:=Pts.fD (mG hx);rw [Pts.drop_cons hx] at bq Th;simp only [Pts.cnt,Pts.deep] at bq Th;have hct:=t.dP;have hdt:=t.mW;refine iX (bI hx) ?_;refine br ?_ ?_<;>intro hB
   ·rw [ap hB] at bq Th;exact rE ⟨_,by omega,e + 1,n,d,rfl,by omega,by omega,by omega,rfl⟩ (bl (cQ (nxt ay (by omega))))
   ·rw [ai (by simp [hB])] at bq Th;obtain ⟨u,us⟩:=t;refine iX (bI hx) ?_;refine cP Nt (jN k (.mk u us) (by omega) (by omega)) ?_;have sD:IntKind.i64.wrap ((n:Int) + (Ty.mk u us).cnt)=((n + (Ty.mk u us).cnt:Nat):Int):=by rw [wrap64 (by omega) (by omega)];omega
    refine br ?_ ?_<;>intro hD
    ·have hD:d < (Ty.mk u us).deep:=sU hD;exact ⟨y6 (.mk h ps) (e + 1) (n + (Ty.mk u us).cnt) (Ty.mk u us).deep,(bl (wB2 sD (nxt ay (by omega)))),ps.len - (e + 1),by omega,e + 1,_,_,rfl,by omega,by omega,by omega,rfl⟩
    ·have hD:¬ d < (Ty.mk u us).deep:=sU hD;exact ⟨y6 (.mk h ps) (e + 1) (n + (Ty.mk u us).cnt) d,(bl (wB2 sD (nxt ay (by omega)))),ps.len - (e + 1),by omega,e + 1,_,_,rfl,by omega,by omega,by omega,rfl⟩
  ·have hge:e=ps.len:=by simp [aJ] at hL;omega
   rw [hge,Pts.cH] at bq Th;simp only [Pts.cnt,Pts.deep] at bq Th;have e1:IntKind.i64.wrap ((d:Int) + 1)=((Ty.mk h ps).deep:Int):=by rw [wrap64 (by omega) (by omega)];simp only [Ty.deep];omega
   have e2:(n:Int)=((Ty.mk h ps).cnt:Int):=by simp only [Ty.cnt];omega
   refine ⟨_,?_,rfl⟩;rw [<- e1,<- e2];exact ax
def wD (f:Ft) (n:Int):DV:=.agg [.v (.int .i64 f.1),.v (.int .i64 f.2),.v (.int .i64 n)]
theorem dL (f:Ft) (n e a:Int):EvP prog 195 [wD f n,.v (.int .i64 e),.v (.int .i64 a)] (wD (e,a) n):=by
 refine eG 13 [.cell 6 248] func195 rfl ntmps195 rfl fun _ _ _ _=>?_;exact ⟨_,ax,rfl⟩
def aV (p:Ph):Ft:=
 if p.ck=0 then (if p.cn=0/\p.cl=[] then (0,0) else (19,p.name.a))
 else if p.ck < 0∨3 < p.ck then (14,p.ca)
 else if (p.ck=1/\p.cn < 1)∨(p.ck=2/\(p.cn < 0∨4096 < p.cn))∨(p.ck=3/\p.cn≠0) then (20,p.ca)
 else bF p.cl
theorem wa (p:Ph) (tl:List DV) (hs:p.wt<=4611686018427387904) :
  EvP prog 239 [.agg (Dk p tl)] (aV p).d:=by
 simp only [Ph.wt] at hs;refine eG 73 [.cell 2 44] func239 rfl ntmps239 rfl fun _ _ _ _=>?_;refine br ?_ ?_<;>intro h0
 ·have h0:p.ck=0:=sU h0;refine br ?_ ?_<;>intro h1
  ·have:aV p=(19,p.name.a):=by grind [aq,az,aV]
   refine ⟨_,?_,rfl⟩;rw [this];exact ax
  ·have:aV p=(0,0):=by
    simp [aq,az] at h1;simp [aV,h0,h1.1,h1.2]
   refine ⟨_,?_,rfl⟩;rw [this];exact ax
 ·have h0:¬ p.ck=0:=sU h0;refine br ?_ ?_<;>intro h1
  ·have:aV p=(14,p.ca):=by grind [aq,aV]
   refine ⟨_,?_,rfl⟩;rw [this];exact ax
  ·simp [aq] at h1;refine br ?_ ?_<;>intro h2
   ·have:aV p=(20,p.ca):=by grind [aq,ah,aV]
    refine ⟨_,?_,rfl⟩;rw [this];exact ax
   ·have hc:aV p=bF p.cl:=by grind [aq,ah,aV]
    refine cP JU (lh p.cl (by omega)) ?_;refine ⟨_,?_,rfl⟩;rw [hc];exact ax
def enumL (all:List Wd):Nat->List Wd->Ft
 | _,[]=>(0,0)
 | i,x :: r=>if aG all i x≠0 then (aG all i x,x.a) else enumL all (i + 1) r
def gM (h:Hd):Ft:=
 if h.af=[] then (15,h.aK)
 else if 64 < h.af.length then (8,((h.af[64]?).getD (⟨au,0⟩:Wd)).a)
 else enumL h.af 0 h.af
def dr (p:Ph):Ft:=
 if p.wide < 0∨64 < p.wide then (20,p.name.a)
 else if (bF p.label).1≠0 then bF p.label
 else aV p
def tT (t:Ty):Bool:=sameTy t (mask t)
mutual
def wrong:Ty->Int->Int->Ft × Int
 | .mk h ps,depth,m=>
  if 24 < depth then ((6,h.aK),m + 1)
  else if 512 < m + 1 then ((8,h.aK),m + 1)
  else if h.ag < 1∨9 < h.ag then ((14,h.aK),m + 1)
  else if tT (.mk h ps)=false then ((19,h.aK),m + 1)
  else if (h.ag=2/\h.hi < h.lo)∨(h.ag=3/\(h.most < 0∨4096 < h.most)) then ((20,h.aK),m + 1)
  else if h.ag=9/\aZ h.name.s=false then ((9,h.name.a),m + 1)
  else if h.ag=4 then (gM h,m + 1)
  else if h.ag=5∨h.ag=6 then wrongOne h ps depth (m + 1)
  else if h.ag=7∨h.ag=8 then
   if h.ag=8/\ps.len=0 then ((15,h.aK),m + 1)
   else if 64 < ps.len then ((8,(((pNames ps)[64]?).getD (⟨au,0⟩:Wd)).a),m + 1)
   else wrongPts h.ag (pNames ps) 0 ps depth (m + 1)
  else ((0,0),m + 1)
def wrongOne:Hd->Pts->Int->Int->Ft × Int
 | h,.cons p t .nil,depth,m=>
  if p.name.s≠au∨bW p eB=false then ((19,h.aK),m)
  else if h.most < 0∨1024 < h.most then ((20,h.aK),m)
  else wrong t (depth + 1) m
 | h,_,_,m=>((19,h.aK),m)
def wrongPts (ag:Int) (all:List Wd):Nat->Pts->Int->Int->Ft × Int
 | _,.nil,_,m=>((0,0),m)
 | i,.cons p t r,depth,m=>
  if aG all i p.name≠0 then ((aG all i p.name,p.name.a),m)
  else if p.bare=true then
   if ag=7∨sameTy t cd=false∨bW p iD=false then ((19,p.name.a),m) else wrongPts ag all (i + 1) r depth m
  else if (dr p).1≠0 then (dr p,m)
  else if (wrong t (depth + 1) m).1.1≠0 then wrong t (depth + 1) m
  else wrongPts ag all (i + 1) r depth (wrong t (depth + 1) m).2
end
def y7 (k:Nat):Prop:=∀ (t:Ty) (depth m:Int),t.wt<=k->t.wt<=1099511627776->0<=depth->depth<=25->0<=m->m<=512 ->
 EvP prog 160 [wD (0,0) m,.agg (dB t),.v (.int .i64 depth)] (wD (wrong t depth m).1 (wrong t depth m).2)
abbrev FO (t:Ty) (e:Nat) (depth m:Int):St:=
 ⟨[aw 2 depth,aF 3 0,aF 4 1,aF 6 2,aw 7 e],[[.v (.int .i64 0),.v (.int .i64 0),.v (.int .i64 m)],dB t,[.v (.int .i64 0),.v (.int .i64 0),.v (.int .i64 0)]],[]⟩
def ei (h:Hd) (ps:Pts) (depth m:Int):Ft × Int:=
 if h.ag=8/\ps.len=0 then ((15,h.aK),m)
 else if 64 < ps.len then ((8,(((pNames ps)[64]?).getD (⟨au,0⟩:Wd)).a),m)
 else wrongPts h.ag (pNames ps) 0 ps depth m
theorem A7 (all:List Wd):∀ (l:List Wd) (i:Nat),(enumL all i l).1=0->enumL all i l=(0,0)
 | [],_,_=>rfl
 | x :: r,i,h=>by
  have ih:=A7 all r (i + 1)
  grind [enumL]
theorem xg (h:Hd) (he:(gM h).1=0):gM h=(0,0):=by grind [gM,A7]
mutual
theorem o7:∀ (t:Ty) (depth m:Int),0<=m->(wrong t depth m).1.1=0->(wrong t depth m).1=(0,0)/\0<=(wrong t depth m).2/\(wrong t depth m).2<=512
 | .mk h ps,depth,m,hm,he=>by
  have i1:=A8 h ps depth (m + 1) (by omega);have i2:=mg h.ag (pNames ps) ps 0 depth (m + 1) (by omega);have i3:=xg h;simp only [wrong] at he ⊢;by_cases c0:24 < depth
  ·rw [ap c0] at he;simp at he
  rw [ai c0] at he ⊢;by_cases c1:512 < m + 1
  ·rw [ap c1] at he;simp at he
  rw [ai c1] at he ⊢;by_cases c2:h.ag < 1∨9 < h.ag
  all_goals grind
theorem A8:∀ (h:Hd) (ps:Pts) (depth m:Int),0<=m->m<=512->(wrongOne h ps depth m).1.1=0->(wrongOne h ps depth m).1=(0,0)/\0<=(wrongOne h ps depth m).2/\(wrongOne h ps depth m).2<=512
 | h,.nil,depth,m,hm,_,he=>by simp [wrongOne] at he
 | h,.cons p t .nil,depth,m,hm,h5,he=>by
  have ih:=o7 t (depth + 1) m hm
  grind [wrongOne]
 | h,.cons p t (.cons _ _ _),depth,m,hm,_,he=>by simp [wrongOne] at he
theorem mg (ag:Int) (all:List Wd):∀ (ps:Pts) (i:Nat) (depth m:Int),0<=m->m<=512->(wrongPts ag all i ps depth m).1.1=0->(wrongPts ag all i ps depth m).1=(0,0)/\0<=(wrongPts ag all i ps depth m).2/\(wrongPts ag all i ps depth m).2<=512
 | .nil,i,depth,m,hm,h5,he=>by simp only [wrongPts];exact ⟨trivial,hm,h5⟩
 | .cons p t r,i,depth,m,hm,h5,he=>by
  have i1:=o7 t (depth + 1) m hm;simp only [wrongPts] at he ⊢;split at he
  ·rename_i h1;exact (h1 he).elim
  ·rename_i h1;rw [ai h1];split at he
   ·rename_i h2;rw [ap h2];split at he
    ·simp at he
    ·rename_i h3;rw [ai h3];exact mg ag all r (i + 1) depth m hm h5 he
   ·rename_i h2;rw [ai h2];split at he
    ·rename_i h3;exact (h3 he).elim
    ·rename_i h3;rw [ai h3];split at he
     ·rename_i h4;exact (h4 he).elim
     ·rename_i h4;rw [ai h4];have i2:=i1 (sU h4);exact mg ag all r (i + 1) depth _ i2.2.1 i2.2.2 he
end
theorem y8 (k:Nat) (ih:y7 k) (h:Hd) (ps:Pts) (depth m:Int) (hk:ps.wt<=k) (bO:(Ty.mk h ps).wt<=1099511627776) (xc:0<=depth) (CN:depth<=24) (nq:0<=m) (iI:m<=512) :
  EvP prog 199 [wD (0,0) m,.agg (dB (.mk h ps)),.v (.int .i64 depth)] (wD (ei h ps depth m).1 (ei h ps depth m).2):=by
 simp only [Ty.wt,Hd.wt] at bO;have ke:=ps.eV;have Rx:=qB ps;refine eG 126 [.cell 6 248] func199 rfl ntmps199 rfl fun _ _ _ _=>?_;refine br ?_ ?_<;>intro c1
 ·refine cP fN (dL (0,0) m 15 h.aK) ?_;have:ei h ps depth m=((15,h.aK),m):=by grind [ah,aJ,ei]
  refine ⟨_,?_,rfl⟩;rw [this];exact ax
 ·have c1':¬ (h.ag=8/\ps.len=0):=by
   simp [ah,aJ] at c1;omega
  refine br ?_ ?_<;>intro c2
  ·have ay:64 < ps.len:=by simp [aJ] at c2;omega
   obtain ⟨p,t,hx⟩:=Pts.dO ay;refine yQ (fun i=>Nat.beq i 8) mo (by decide +kernel) ?_;refine iX (bI hx) ?_;refine cD fN (dL (0,0) m 8 p.name.a) ?_;have:ei h ps depth m=((8,p.name.a),m):=by grind [ei,fG]
   refine ⟨_,?_,rfl⟩;rw [this];exact ax
  ·have c2':¬ 64 < ps.len:=by simp [aJ] at c2;omega
   have hF:ei h ps depth m=wrongPts h.ag (pNames ps) 0 ps depth m:=by simp only [ei,ai c1',ai c2']
   refine aY (fun j st=>∃ (e:Nat) (m':Int),st=FO (.mk h ps) e depth m' /\ e<=ps.len/\0<=m' /\ m' <= 512 /\
     wrongPts h.ag (pNames ps) 0 ps depth m=wrongPts h.ag (pNames ps) e (ps.drop e) depth m' /\ j=ps.len - e) ps.len
    (FO (.mk h ps) 0 depth m) (bl wB) ⟨0,m,rfl,by omega,nq,iI,rfl,by omega⟩ ?_
   rintro j st ⟨e,m',rfl,he,sf,A9,aP,rfl⟩;refine br ?_ ?_<;>intro hL
   ·have ay:e < ps.len:=by simpa [aJ] using hL
    obtain ⟨p,t,hx⟩:=Pts.dO ay;rw [Pts.drop_cons hx] at aP;have A5:=Pts.fD (mG hx);obtain ⟨u,us⟩:=t;refine iX (bI hx) ?_;refine cP Vq (y5 ps (by omega)) ?_;refine cP Pz (nI (pNames ps) e p.name (by omega) (fG hx)) ?_;refine br ?_ ?_<;>intro hl
    ·have hl:aG (pNames ps) e p.name≠0:=sU hl;refine cP fN (dL (0,0) m' _ p.name.a) ?_;have:ei h ps depth m=((aG (pNames ps) e p.name,p.name.a),m'):=by grind [wrongPts]
     refine ⟨_,?_,rfl⟩;rw [this];exact ax
    ·have hl:aG (pNames ps) e p.name=0:=sU hl;simp only [wrongPts] at aP;rw [ai (by simp [hl])] at aP;refine br ?_ ?_<;>intro hB
     ·rw [ap hB] at aP;refine br ?_ ?_<;>intro k7
      ·have k7:¬ h.ag=7:=sU k7;refine cP Vr (A6 (.mk u us) (by omega)) ?_;refine br ?_ ?_<;>intro z
       ·have z:sameTy (.mk u us) cd=true:=by simpa [aq,k7] using z
        refine cP JV (lg p iD (dB (.mk u us)) (dB cd) (by omega) (xf _ _ _ _ _) (xf _ _ _ _ _)) ?_;refine br ?_ ?_<;>intro q
        ·have q:bW p iD=false:=by simpa [aq,k7,z] using q
         refine cP fN (dL (0,0) m' 19 p.name.a) ?_;rw [ap (by simp [q])] at aP;refine ⟨_,?_,rfl⟩;rw [hF,aP];exact ax
        ·have q:bW p iD=true:=by simpa [aq,k7,z] using q
         rw [ai (by simp [k7,z,q])] at aP;exact rE ⟨_,by omega,e + 1,m',rfl,by omega,sf,A9,aP,rfl⟩ (bl (cQ (nxt ay (by omega))))
       ·have z:sameTy (.mk u us) cd=false:=by simpa [aq,k7] using z
        refine cP fN (dL (0,0) m' 19 p.name.a) ?_;rw [ap (by simp [z])] at aP;refine ⟨_,?_,rfl⟩;rw [hF,aP];exact ax
      ·have k7:h.ag=7:=sU k7;refine cP fN (dL (0,0) m' 19 p.name.a) ?_;rw [ap (by simp [k7])] at aP;refine ⟨_,?_,rfl⟩;rw [hF,aP];exact ax
     ·rw [ai (by simp [hB])] at aP;refine br ?_ ?_<;>intro hw
      ·have hP:dr p=(20,p.name.a):=by grind [aq,dr]
       rw [ap (by rw [hP];simp),hP] at aP;refine ⟨_,?_,rfl⟩;rw [hF,aP];exact ax
      ·have hw:¬ (p.wide < 0∨64 < p.wide):=by simp [aq] at hw;omega
       have hpw:p.wt<=ps.wt:=by omega
       simp only [Ph.wt] at hpw;refine cP JU (lh p.label (by omega)) ?_;refine br ?_ ?_<;>intro hb
       ·have hb:(bF p.label).1=0:=sU hb;have hP:dr p=aV p:=by simp only [dr,ai hw,hb,ne_eq,not_true_eq_false,if_false]
        rw [hP] at aP;refine cP Vs (wa p (dB (.mk u us)) (by omega)) ?_ (by repeat' (first | exact rfl | exact trivial | exact Or.inr (Or.inl ⟨_,rfl⟩) | exact Or.inr ⟨_,rfl⟩ | exact Or.inl ⟨rfl,rfl⟩ | exact Or.inl rfl | refine Or.inr ⟨_,_,rfl,Nat.zero_le _,rfl,?_⟩ | refine ⟨_,_,rfl,?_,?_⟩ | refine ⟨_,rfl,?_⟩ | exact congrArg DV.agg rfl| refine Or.inr (Or.inr (Or.inr ⟨_,_,rfl,?_⟩)) | exact Or.inl rfl | refine Or.inr ?_));refine br ?_ ?_<;>intro hc
        ·have hc:(aV p).1≠0:=sU hc;rw [ap hc] at aP;refine ⟨_,?_,rfl⟩;rw [hF,aP];exact ax
        ·have hc:(aV p).1=0:=sU hc;rw [ai (by simp [hc])] at aP;have CL:=ih (.mk u us) (depth + 1) m' (by omega) (by omega) (by omega) (by omega) sf A9;have bL:=o7 (.mk u us) (depth + 1) m' sf;generalize wrong (.mk u us) (depth + 1) m'=r at CL bL aP;obtain ⟨⟨fe,fa⟩,many⟩:=r;simp only at CL bL aP;refine cP JQ CL ?_ (by repeat' (first | exact rfl | exact trivial | exact Or.inr (Or.inl ⟨_,rfl⟩) | exact Or.inr ⟨_,rfl⟩ | exact Or.inl ⟨rfl,rfl⟩ | exact Or.inl rfl | refine Or.inr ⟨_,_,rfl,Nat.zero_le _,rfl,?_⟩ | refine ⟨_,_,rfl,?_,?_⟩ | refine ⟨_,rfl,?_⟩ | exact congrArg (fun z=>DV.v (.int .i64 z)) (wrap64 (by omega) (by omega))| refine Or.inr (Or.inr (Or.inr ⟨_,_,rfl,?_⟩)) | exact Or.inl rfl | refine Or.inr ?_));refine br ?_ ?_<;>intro hd
         ·have hd:fe≠0:=sU hd;rw [ap hd] at aP;refine ⟨_,?_,rfl⟩;rw [hF,aP];exact ax
         ·have hd:fe=0:=sU hd;subst hd;obtain ⟨h1,h2,h3⟩:=bL rfl;simp only [Prod.mk.injEq,true_and] at h1;subst h1;rw [ai (by simp)] at aP;exact rE ⟨_,by omega,e + 1,many,rfl,by omega,h2,h3,aP,rfl⟩ (bl (cQ (nxt ay (by omega))))
       ·have hb:¬ (bF p.label).1=0:=sU hb;have hP:dr p=bF p.label:=by simp only [dr,ai hw];rw [ap hb]
        rw [hP,ap hb] at aP;refine br ?_ ?_<;>intro hc
        ·refine ⟨_,?_,rfl⟩;rw [hF,aP];exact ax
        ·exact (hb (sU hc)).elim
   ·have hge:e=ps.len:=by simp [aJ] at hL;omega
    rw [hge,Pts.cH] at aP;refine ⟨_,?_,rfl⟩;rw [hF,aP];simp only [wrongPts];exact ax
theorem bp (e a:Int):EvP prog 174 [.v (.int .i64 e),.v (.int .i64 a)] (Ft.d (e,a)):=by
 refine eG 8 [.cell 4 44] func174 rfl ntmps174 rfl fun _ _ _ _=>?_;exact ⟨_,ax,rfl⟩
noncomputable def gf (L:List ByteArray) (x:ByteArray) (a:Int):Ft:=if aZ x=true then (if L.Nodup then (0,0) else (10,a)) else (9,a)
theorem rC (L:List ByteArray) (x:ByteArray) (a:Int) (hx:L[L.length - 1]? = some x) (hl:L.length<=1099511627776) (CJ:x.size<=4611686018427387904) :
  EvP prog 228 [.sl 1 (ee L) none,.v (.int .i64 a)] (gf L x a).d:=by
 have hN:=bQ L;have nU:=(gS hx).1;have hz:IntKind.i64.wrap (((ee L).length:Int) - 1)=((L.length - 1:Nat):Int):=by rw [hN,wrap64 (by omega) (by omega)];omega
 refine eG 23 [.cell 4 44] func228 rfl ntmps228 rfl fun _ _ _ _=>?_;refine ⟨[.v (.string x)],⟨by rw [hz];omega,by rw [hz];exact fx hx⟩,?_⟩;refine cP yS (eC x CJ) ?_;refine br ?_ ?_<;>intro h
 ·have h:aZ x=false:=sU h;refine cP dD (bp 9 a) ?_;refine ⟨_,?_,rfl⟩;rw [gf,ai (by rw [h];decide)];exact ax
 ·have h:aZ x=true:=sU h;refine cp Rm rfl (n8 L hl) ax (fun r hr=>?_);obtain ⟨z,rfl,hz⟩:=hr;refine br ?_ ?_<;>intro h2
  ·have h2:0<=z:=sU h2;refine cP dD (bp 10 a) ?_;refine ⟨_,?_,rfl⟩;rw [gf,ap h,ai (hz.1 h2)];exact ax
  ·have h2:¬ 0<=z:=sU h2;refine ⟨_,?_,rfl⟩;rw [gf,ap h,ap (Classical.byContradiction fun hn=>h2 (hz.2 hn))];exact ax
theorem Du {l:List Wd} {e:Nat} {x:Wd} (h:l[e]? = some x):bw ((l.map fun w=>(⟨w.s,0⟩:Wd)).take e) ++ [[.v (.string x.s),.v (.int .i64 0)]]=bw ((l.map fun w=>(⟨w.s,0⟩:Wd)).take (e + 1)):=by
 have h2:(l.map fun w=>(⟨w.s,0⟩:Wd))[e]? = some ⟨x.s,0⟩:=by simp [h]
 exact wZ h2
def gN (l:List Wd):List Wd:=l.map fun w=>⟨w.s,0⟩
abbrev Kc (l l':List Wd) (n e:Nat):St:=
 ⟨[bc 6 2 (bw l),aw 7 ((bw l).length),aw 8 e,(3,⟨[],.sl 2 (bw l') (some 0)⟩)],[],[⟨n,27,2,none⟩]⟩
theorem tU (l:List Wd) (hs:wdsWt l<=1099511627776):EvP prog 284 [.sl 2 (bw l) none] (.sl 2 (bw (gN l)) none):=by
 have hl:=bi l;refine eG 20 [.tmp 2] func284 rfl ntmps284 rfl fun _ _ _ _=>?_;refine aY (fun j st=>∃ e:Nat,st=Kc l ((gN l).take e) e e/\e<=l.length/\j=l.length - e) l.length (Kc l [] 0 0) (ff ⟨0,27,2,none⟩ rfl ⟨_,rfl⟩ rfl wA rfl rfl jX) ⟨0,by simp,by omega,by omega⟩ ?_;rintro j st ⟨e,rfl,he,rfl⟩;refine br ?_ ?_<;>intro h
 ·have ay:e < l.length:=by simpa [az] using h
  obtain ⟨w,hw⟩:=gX ay;refine ⟨jt w,⟨by omega,aR hw⟩,?_⟩;refine ⟨by simp [az,gN];omega,⟨by simp [az,gN,maxLen];omega,by simp [az,gN];omega⟩,?_⟩;refine ⟨Kc l ((gN l).take (e + 1)) (e + 1) (e + 1),(bl (wB2 (nxt ay (by omega)) (Du hw))),l.length - (e + 1),by omega,e + 1,rfl,by omega,rfl⟩
 ·have hge:e=l.length:=by
   have:=h;simp [az] at this;omega
  rw [hge,List.take_of_length_le (by simp [gN])];exact ⟨_,ax,rfl⟩
abbrev tV (l:List Wd) (e:Nat):St:=
 ⟨[bc 13 2 (bw l),aw 14 ((bw l).length),aF 2 0,aw 15 e],[[.v (.int .i64 0),.v (.int .i64 0)]],[]⟩
theorem ik (l:List Wd) (hs:wdsWt l<=1099511627776) :
  EvP prog 253 [.sl 2 (bw l) none] (bF l).d:=by
 have oP:=bi l;refine eG 28 [.cell 2 44] func253 rfl ntmps253 rfl fun _ _ _ _=>?_;refine br ?_ ?_<;>intro h
 ·have ay:32 < l.length:=by simp [az] at h;omega
  obtain ⟨x,hx⟩:=gX ay;have:bF l=(8,x.a):=by simp [bF,Nat.not_le.2 ay,hx]
  refine ⟨jt x,⟨by omega,aR hx⟩,?_⟩;refine cP dD (bp 8 x.a) ?_;refine ⟨_,?_,rfl⟩;rw [this];exact ax
 ·have eM:l.length<=32:=by simp [az] at h;omega
  refine aY (fun j st=>∃ e:Nat,st=tV l e/\e<=l.length/\badWd l=badWd (l.drop e)/\j=l.length - e) l.length
   (tV l 0) (bl wB) ⟨0,rfl,by omega,rfl,by omega⟩ ?_
  rintro j st ⟨e,rfl,he,aP,rfl⟩;refine br ?_ ?_<;>intro hL
  ·have ay:e < l.length:=by simpa [az] using hL
   obtain ⟨x,hx⟩:=gX ay;rw [drop_cons hx] at aP;have CJ:=gK (mG hx);refine ⟨jt x,⟨by omega,aR hx⟩,?_⟩;refine cP yS (eC x.s (by omega)) ?_;refine br ?_ ?_<;>intro hN
   ·have hN:aZ x.s=false:=sU hN;have:bF l=(9,x.a):=by simp [bF,eM,aP,badWd,hN]
    refine cP dD (bp 9 x.a) ?_;refine ⟨_,?_,rfl⟩;rw [this];exact ax
   ·have hN:aZ x.s=true:=sU hN;refine ⟨tV l (e + 1),(bl (cQ (nxt ay (by omega)))),l.length - (e + 1),by omega,e + 1,rfl,by omega,?_,rfl⟩;rw [aP];simp [badWd,hN]
  ·have hge:e=l.length:=by simp [az] at hL;omega
   have:bF l=(0,0):=by simp [bF,eM,aP,hge,badWd]
   refine ⟨_,?_,rfl⟩;rw [this];exact ax
theorem y9 (p:Ph) (tl:List DV) (t:Ty) (jv:tl=dB t) (hs:p.wt<=1099511627776) :
  EvP prog 254 [.agg (Dk p tl)] (aV p).d:=by
 subst jv;obtain ⟨u,us⟩:=t;simp only [Ph.wt] at hs;refine eG 55 [.cell 2 44] func254 rfl ntmps254 rfl fun _ _ _ _=>?_;refine br ?_ ?_<;>intro h0
 ·have h0:p.ck=0:=of_decide_eq_true h0;refine br ?_ ?_<;>intro h1
  ·have:aV p=(19,p.name.a):=by grind [aq,az,aV]
   refine cP dD (bp 19 p.name.a) ?_;refine ⟨_,?_,rfl⟩;rw [this];exact ax
  ·have j9:p.cl=[]:=by
    simp [aq,az] at h1;exact h1.2
   have:aV p=(0,0):=by grind [aq,az,aV]
   have h00:bF p.cl=(0,0):=by rw [j9];simp [bF,badWd]
   refine cP AV (ik p.cl (by omega)) ?_;refine ⟨_,?_,rfl⟩;rw [this,<- h00];exact ax
 have h0:¬ p.ck=0:=of_decide_eq_false h0;refine br ?_ ?_<;>intro h1
 ·have h1:p.ck=1:=of_decide_eq_true h1;refine br ?_ ?_<;>intro h2
  ·have:aV p=(20,p.ca):=by grind [ah,aV]
   refine cP dD (bp 20 p.ca) ?_;refine ⟨_,?_,rfl⟩;rw [this];exact ax
  ·have:aV p=bF p.cl:=by grind [ah,aV]
   refine cP AV (ik p.cl (by omega)) ?_;refine ⟨_,?_,rfl⟩;rw [this];exact ax
 have h1:¬ p.ck=1:=of_decide_eq_false h1;refine br ?_ ?_<;>intro h3
 ·have h3:p.ck=2:=of_decide_eq_true h3;refine br ?_ ?_<;>intro h2
  ·have:aV p=(20,p.ca):=by grind [ah,aV]
   refine cP dD (bp 20 p.ca) ?_;refine ⟨_,?_,rfl⟩;rw [this];exact ax
  ·have:aV p=bF p.cl:=by grind [ah,aV]
   refine cP AV (ik p.cl (by omega)) ?_;refine ⟨_,?_,rfl⟩;rw [this];exact ax
 have h3:¬ p.ck=2:=of_decide_eq_false h3;refine br ?_ ?_<;>intro h4
 ·have h4:p.ck=3:=of_decide_eq_true h4;refine br ?_ ?_<;>intro h2
  ·have:aV p=(20,p.ca):=by grind [ah,aV]
   refine cP dD (bp 20 p.ca) ?_;refine ⟨_,?_,rfl⟩;rw [this];exact ax
  ·have:aV p=bF p.cl:=by grind [ah,aV]
   refine cP AV (ik p.cl (by omega)) ?_;refine ⟨_,?_,rfl⟩;rw [this];exact ax
 have h4:¬ p.ck=3:=of_decide_eq_false h4;have:aV p=(14,p.ca):=by grind [aV]
 refine cP dD (bp 14 p.ca) ?_;refine ⟨_,?_,rfl⟩;rw [this];exact ax
theorem Kd (w:World) (x y:Operand) (vs vs':Array Value):(eqGuard .neq 27 x y (.agg vs) (.agg vs')).run prog w = .ok () w:=by
 have h:prog.eqGuardType prog.depth 27=false:=by kernel_rfl
 simp [eqGuard,run_program,h]
theorem Ry (a b:ByteArray) (p q:Int) (w:World):(binOp .neq 27 (.agg #[.string a,.int .i64 p]) (.agg #[.string b,.int .i64 q])).run prog w = .ok (.bool (!(decide (a=b) && decide (p=q)))) w:=by
 have hf:prog.underlying 27=some (.struct (prog.fieldsOf 27)):=by simp [Program.fieldsOf,Tryz.underlying27]
 have vY:(prog.fieldsOf 27).toList=[⟨ "Name",9,0,false, "", "",0⟩,⟨ "At",3,1,false, "", "",16⟩]:=by simp [Program.fieldsOf,Tryz.underlying27]
 have hs:prog.stoodInHeld 27=false:=by kernel_rfl
 have hm:∃ d,Op.maxDepth=d + 1 + 1:=⟨Op.maxDepth - 2,by decide⟩;obtain ⟨d,hm⟩:=hm
 have he:(Op.equal 27 (.agg #[.string a,.int .i64 p]) (.agg #[.string b,.int .i64 q])).run prog w = .ok (decide (a=b) && decide (p=q)) w:=by
  unfold Op.equal;rw [hm,run_equalIn_struct w (d + 1) 27 _ _ hf hs,vY]
  have e1:(a.toList == b.toList)=decide (a=b):=by
   rw [ByteArray.toList_eq,ByteArray.toList_eq];by_cases h:a=b
   ·subst h;simp
   ·have:¬ a.data=b.data:=fun e=>h (ByteArray.ext e);simp [h,this]
  have q9:∀ cs:Array Value,∀ off v,cs[off]? = some v->(part 9 cs off).run prog w = .ok v w:=fun cs off v h=>by
   simp [part,Tryz.isAgg9,h]
  have q3:∀ cs:Array Value,∀ off v,cs[off]? = some v->(part 3 cs off).run prog w = .ok v w:=fun cs off v h=>by
   simp [part,Tryz.isAgg3,h]
  simp only [Op.eqFields,ne_eq,String.reduceEq,not_false_eq_true,if_true,Sem.run_bind,q9 #[.string a,.int .i64 p] 0 (.string a) rfl,q9 #[.string b,.int .i64 q] 0 (.string b) rfl,Result.andThen_ok,run_equalIn_string w d 9 a b Tryz.underlying9,e1];by_cases h:a=b
  ·simp only [h,decide_true,Bool.not_true,Bool.false_eq_true,if_false,Sem.run_bind,q3 #[.string b,.int .i64 p] 1 (.int .i64 p) rfl,q3 #[.string b,.int .i64 q] 1 (.int .i64 q) rfl,Result.andThen_ok,run_equalIn_int w d 3 .i64 .i64 p q Tryz.underlying3];by_cases h2:p=q<;>simp [h2,Sem.run_pure]
  ·simp [h,Sem.run_pure]
 show ((do let r <- Op.equal 27 _ _;pure (Value.bool !r)):Sem Value).run prog w=_;simp only [Sem.run_bind,he,Result.andThen_ok,Sem.run_pure]
theorem NB (x y:Operand) (a b:Wd):CU prog .neq x y 27 (jt a) (jt b) (!(decide (a.s=b.s) && decide (a.a=b.a))):=
 ⟨[.string a.s,.int .i64 a.a],[.string b.s,.int .i64 b.a],rfl,rfl,fun w=>⟨Kd w x y _ _,Ry a.s b.s a.a b.a w⟩⟩
def eqWds:List Wd->List Wd->Bool
 | [],[]=>true
 | x :: r,y :: s=>(decide (x.s=y.s) && decide (x.a=y.a)) && eqWds r s
 | _,_=>false
theorem xi:∀ {a b:List Wd},a.length≠b.length->eqWds a b=false
 | [],[],h=>(h rfl).elim
 | [],_ :: _,_=>rfl
 | _ :: _,[],_=>rfl
 | x :: r,y :: s,h=>by
  simp only [eqWds];rw [xi (a:=r) (b:=s) (sU h),Bool.and_false]
theorem rD:∀ a b:List Wd,eqWds (gN a) (gN b)=sameWds a b
 | [],[]=>rfl
 | [],_ :: _=>rfl
 | _ :: _,[]=>rfl
 | x :: r,y :: s=>by
  have:=rD r s
  grind [gN,eqWds,sameWds]
abbrev Ke (a b:List Wd) (e:Nat):St:=
 ⟨[bc 0 2 (bw a),bc 1 2 (bw b),aw 12 ((bw a).length),aw 13 e],[],[]⟩
theorem Ba (a b:List Wd) (hs:a.length<=1099511627776) :
  EvP prog 283 [.sl 2 (bw a) none,.sl 2 (bw b) none] (.v (.bool (eqWds a b))):=by
 refine eG 26 [.tmp 4] func283 rfl ntmps283 rfl fun _ _ _ _=>?_;refine br ?_ ?_<;>intro h
 ·have bq:a.length≠b.length:=by have:=h;simp [az] at this;omega
  exact congrArg (fun b=>DV.v (.bool b)) (xi bq).symm
 ·have hl:a.length=b.length:=by have:=h;simp [az] at this;omega
  refine aY (fun j st=>∃ e:Nat,st=Ke a b e/\e<=a.length/\eqWds a b=eqWds (a.drop e) (b.drop e)/\j=a.length - e) a.length
   (Ke a b 0) (bl wB) ⟨0,rfl,by omega,rfl,by omega⟩ ?_
  rintro j st ⟨e,rfl,he,aP,rfl⟩;refine br ?_ ?_<;>intro h
  ·have ay:e < a.length:=by simpa [az] using h
   obtain ⟨x,hx⟩:=gX ay;obtain ⟨y,hy⟩:∃ y,b[e]? = some y:=⟨_,gE (hl ▸ ay)⟩;rw [drop_cons hx,drop_cons hy] at aP;refine dI ?_;refine ⟨jt x,⟨by omega,aR hx⟩,jt y,⟨by omega,aR hy⟩,_,NB _ _ x y,?_⟩;refine br ?_ ?_<;>intro h
   ·have bq:(decide (x.s=y.s) && decide (x.a=y.a))=false:=by grind
    refine (bA ?_:);rw [aP];simp only [eqWds,bq,Bool.false_and]
   ·have bq:(decide (x.s=y.s) && decide (x.a=y.a))=true:=by grind
    refine ⟨Ke a b (e + 1),(bl (cQ (nxt ay (by omega)))),a.length - (e + 1),by omega,e + 1,rfl,by omega,?_,rfl⟩;rw [aP];simp only [eqWds,bq,Bool.true_and]
  ·have hge:e=a.length:=by have:=h;simp [az] at this;omega
   refine (bA ?_:);rw [aP,hge,hl];simp [eqWds];rw [<- hl];simp [eqWds]
theorem gg (a b:List Wd) (ha:wdsWt a<=1099511627776) (hb:wdsWt b<=1099511627776) :
  EvP prog 271 [.sl 2 (bw a) none,.sl 2 (bw b) none] (.v (.bool (sameWds a b))):=by
 have hl:=bi a;refine eG 10 [.tmp 4] func271 rfl ntmps271 rfl fun _ _ _ _=>?_;refine cP PF (tU a ha) ?_;refine cP PF (tU b hb) ?_;refine cP VC (Ba (gN a) (gN b) (by simp [gN];omega)) ?_;refine (bA ?_:);exact rD a b
def eqPts (F:Ph->Ty->Ph->Ty->Bool):Pts->Pts->Bool
 | .nil,.nil=>true
 | .cons p t r,.cons q u s=>F p t q u && eqPts F r s
 | _,_=>false
theorem xj {F:Ph->Ty->Ph->Ty->Bool}:∀ {a b:Pts},a.len≠b.len->eqPts F a b=false
 | .nil,.nil,h=>(h rfl).elim
 | .cons p t r,.cons q u s,h=>by
  simp only [eqPts];rw [xj (a:=r) (b:=s) (by simpa [Pts.len] using h),Bool.and_false]
 | .nil,.cons _ _ _,_=>rfl
 | .cons _ _ _,.nil,_=>rfl
def cE (p:Ph) (t:Ty) (q:Ph) (u:Ty):Bool:=decide (p.name.s=q.name.s) && bW p q && sameTy t u
theorem tW:∀ a b:Pts,eqPts cE a b=samePts a b
 | .nil,.nil=>by simp [eqPts,samePts]
 | .cons p t r,.cons q u s=>by simp only [eqPts,samePts,cE,tW r s]
 | .nil,.cons _ _ _=>by simp [eqPts,samePts]
 | .cons _ _ _,.nil=>by simp [eqPts,samePts]
abbrev Kf (a b:Pts) (g e:Nat):St:=
 ⟨[bc 1 18 (eW b),(2,⟨[],.fn g [] []⟩),bc 15 18 (eW a),aw 16 ((eW a).length),aw 17 e],[],[]⟩
theorem Bb (g:Nat) (kV:Enters prog g) (F:Ph->Ty->Ph->Ty->Bool) (a b:Pts) (hs:a.wt<=1099511627776)
  (hF:∀ (e:Nat) p t q u,a.toList[e]? = some (p,t)->b.toList[e]? = some (q,u)->EvP prog g [.agg (Dk p (dB t)),.agg (Dk q (dB u))] (.v (.bool (F p t q u)))) :
  EvP prog 285 [.sl 18 (eW a) none,.sl 18 (eW b) none,.fn g [] []] (.v (.bool (eqPts F a b))):=by
 have GO:=a.eV;refine eG 32 [.tmp 6] func285 rfl ntmps285 rfl fun _ _ _ _=>?_;refine br ?_ ?_<;>intro h
 ·have bq:a.len≠b.len:=by have:=h;simp [aJ] at this;omega
  exact congrArg (fun b=>DV.v (.bool b)) (xj bq).symm
 ·have hl:a.len=b.len:=by have:=h;simp [aJ] at this;omega
  refine aY (fun j st=>∃ e:Nat,st=Kf a b g e/\e<=a.len/\eqPts F a b=eqPts F (a.drop e) (b.drop e)/\j=a.len - e) a.len
   (Kf a b g 0) (bl wB) ⟨0,rfl,by omega,rfl,by omega⟩ ?_
  rintro j st ⟨e,rfl,he,aP,rfl⟩;refine br ?_ ?_<;>intro h
  ·have ay:e < a.len:=by simpa [aJ] using h
   obtain ⟨p,t,hx⟩:=Pts.dO ay;obtain ⟨q,u,hy⟩:=Pts.dO (hl ▸ ay);rw [Pts.drop_cons hx,Pts.drop_cons hy] at aP;have Zb:=hF e p t q u hx hy;obtain ⟨t,ts⟩:=t;obtain ⟨u,us⟩:=u;refine iX (bI hx) ?_;refine iX (bI hy) ?_;refine cP kV Zb ?_;refine br ?_ ?_<;>intro h
   ·have bq:F p (.mk t ts) q (.mk u us)=false:=sU h;refine (bA ?_:);rw [aP];simp only [eqPts,bq,Bool.false_and]
   ·have bq:F p (.mk t ts) q (.mk u us)=true:=sU h;refine ⟨Kf a b g (e + 1),(bl (cQ (nxt ay (by omega)))),a.len - (e + 1),by omega,e + 1,rfl,by omega,?_,rfl⟩;rw [aP];simp only [eqPts,bq,Bool.true_and]
  ·have hge:e=a.len:=by have:=h;simp [aJ] at this;omega
   refine (bA ?_:);rw [aP,hge,Pts.cH,hl,Pts.cH];simp [eqPts]
theorem mh (p q:Ph) (t u:Ty) (hp:p.wt<=1099511627776) (hq:q.wt<=1099511627776)
  (ht:EvP prog 272 [.agg (dB t),.agg (dB u)] (.v (.bool (sameTy t u)))) :
  EvP prog 252 [.agg (Dk p (dB t)),.agg (Dk q (dB u))] (.v (.bool (cE p t q u))):=by
 simp only [Ph.wt] at hp hq;obtain ⟨th,tps⟩:=t;obtain ⟨uh,ups⟩:=u;refine eG 71 [.tmp 4] func252 rfl ntmps252 rfl fun _ _ _ _=>?_
 have e0:cE p (.mk th tps) q (.mk uh ups)=(((decide (p.name.s=q.name.s) && (p.bare == q.bare)) && decide (p.wide=q.wide)) && sameWds p.label q.label && ((decide (p.ck=q.ck) && decide (p.cn=q.cn)) && sameWds p.cl q.cl) && sameTy (.mk th tps) (.mk uh ups)):=by
  simp only [cE,bW,Bool.and_assoc]
 rw [e0];refine br ?_ ?_<;>intro hA
 ·simp only [ah] at hA;refine cP FK (gg p.label q.label (by omega) (by omega)) ?_;refine br ?_ ?_<;>intro hB
  ·simp only [ah] at hB;refine cP FK (gg p.cl q.cl (by omega) (by omega)) ?_;refine br ?_ ?_<;>intro hC
   ·refine cP Vz ht ?_;refine (bA ?_:);simp only [ah,Bool.true_and,Bool.and_true] at hC ⊢
    simp_all
   ·refine (bA ?_:);simp only [ah,Bool.true_and,Bool.and_true] at hC ⊢
    simp_all
  ·simp only [ah] at hB;refine br ?_ ?_<;>intro hC
   ·exfalso;simp [ah] at hC
   ·refine (bA ?_:)
    simp_all
 ·simp only [ah,beq_true] at hA;refine br ?_ ?_<;>intro hB
  ·refine cP FK (gg p.cl q.cl (by omega) (by omega)) ?_;refine (bA ?_:);rw [hA];rfl
  ·refine (bA ?_:);rw [hA];rfl
theorem xm:∀ (n:Nat) (a b:Ty),a.wt<=n->a.wt<=1099511627776->b.wt<=1099511627776 ->
  EvP prog 272 [.agg (dB a),.agg (dB b)] (.v (.bool (sameTy a b)))
 | 0,a,b,hn,_,_=>by have:=a.dE;omega
 | n + 1,.mk h ps,.mk k qs,hn,bO,VQ=>by
  have ih:=xm n;simp only [Ty.wt,Hd.wt] at hn bO VQ
  have hE:EvP prog 285 [.sl 18 (eW ps) none,.sl 18 (eW qs) none,.fn 252 [] []] (.v (.bool (samePts ps qs))):=by
   rw [<- tW];refine Bb 252 JX cE ps qs (by omega) fun e p t q u hx hy=>?_;have hw1:=Pts.fD (mG hx);have hw2:=Pts.fD (mG hy);exact mh p q t u (by omega) (by omega) (ih t u (by omega) (by omega) (by omega))
  refine eG 53 [.tmp 4] func272 rfl ntmps272 rfl fun _ _ _ _=>?_;refine br ?_ ?_<;>intro hA
  ·simp [aq] at hA;obtain ⟨⟨⟨⟨e1,e2⟩,e3⟩,e4⟩,e5⟩:=hA;refine cP FK (gg h.af k.af (by omega) (by omega)) ?_;refine br ?_ ?_<;>intro hB
   ·refine (bA ?_:);simp [aq,e1,e2,e3,e4,e5] at hB;simp [sameTy,j2,hB]
   ·simp [aq,e1,e2,e3,e4,e5] at hB;refine cP VD hE ?_;refine (bA ?_:);simp [sameTy,j2,e1,e2,e3,e4,e5,hB]
  ·refine (bA ?_:);simp [aq] at hA;simp only [sameTy,j2]
   grind
theorem tX (a b:Ty) (ha:a.wt<=1099511627776) (hb:b.wt<=1099511627776):EvP prog 272 [.agg (dB a),.agg (dB b)] (.v (.bool (sameTy a b))):=xm _ a b (aU _) ha hb
def tY (h:Hd) (ps:Pts):Bool:=
 (((((decide (h.ag=2) || (decide (h.lo=0) && decide (h.hi=0))) && ((decide (h.ag=3) || decide (h.ag=5)) || decide (h.most=0))) && (decide (ps.len=0) || (decide (5<=h.ag) && decide (h.ag<=8)))) &&
  (decide (h.af.length=0) || decide (h.ag=4))) && (decide (h.name.s=au) || decide (h.ag=9)))
theorem He (h:Hd) (ps:Pts):EvP prog 175 [.agg (dB (.mk h ps))] (.v (.bool (tY h ps))):=by
 have l1:(((eW ps).length:Int)=0)=(ps.len=0):=by rw [aJ];exact propext (by omega)
 have l2:(((bw h.af).length:Int)=0)=(h.af.length=0):=by rw [az];exact propext (by omega)
 have he:(⟨#[]⟩:ByteArray)=au:=rfl;refine eG 67 [.tmp 2] func175 rfl ntmps175 rfl fun _ _ _ _=>?_;refine br ?_ ?_<;>intro k2
 ·have k2:h.ag=2:=of_decide_eq_true k2;refine (bA ?_:);rw [Bool.eq_iff_iff];simp [ah,aq,tY,aJ,az,k2,he]
 have k2:¬ h.ag=2:=of_decide_eq_false k2;refine br ?_ ?_<;>intro k3
 ·have k3:h.ag=3:=of_decide_eq_true k3;refine br (fun _=>?_) (fun hf=>?_)
  ·refine (bA ?_:);rw [Bool.eq_iff_iff];simp [ah,aq,tY,aJ,az,k3,he]
  ·exact absurd k3 (of_decide_eq_false hf)
 have k3:¬ h.ag=3:=of_decide_eq_false k3;refine br ?_ ?_<;>intro k5
 ·have k5:h.ag=5:=of_decide_eq_true k5;refine (bA ?_:);rw [Bool.eq_iff_iff];simp [ah,aq,tY,aJ,az,k5,he]
 have k5:¬ h.ag=5:=of_decide_eq_false k5;refine (bA ?_:);rw [Bool.eq_iff_iff];simp [ah,aq,tY,aJ,az,k2,k3,k5,he]
theorem za:∀ ps:Pts,samePts ps ps=true:=by
 have wr:∀ l:List Wd,sameWds l l=true:=by
  intro l
  induction l with
  | nil=>rfl
  | cons x r ih=>simp [sameWds,ih]
 have key:∀ n,(∀ t:Ty,t.wt<=n->sameTy t t=true)/\(∀ ps:Pts,ps.wt<=n->samePts ps ps=true):=by
  intro n
  induction n using Nat.strongRecOn with
  | _ n ih=>
   have hp:∀ ps:Pts,ps.wt<=n->(∀ t:Ty,t.wt + 256<=n->sameTy t t=true)->samePts ps ps=true:=by
    intro ps
    induction ps using Pts.rec (motive_1:=fun _=>True) with
    | mk=>trivial
    | nil=>intros;simp [samePts]
    | cons p t r _ ihr=>
     intro hw ht;simp only [Pts.wt,Ph.wt] at hw;simp only [samePts];rw [ht t (by omega),ihr (by omega) ht];simp [bW,wr]
   refine ⟨fun t ht=>?_,fun ps Yi=>?_⟩
   ·obtain ⟨h,ps⟩:=t;simp only [Ty.wt,Hd.wt] at ht;simp only [sameTy,j2]
    grind
   all_goals grind
 exact fun ps=>(key ps.wt).2 ps (aU _)
theorem FP (h:Hd) (ps:Pts):tY h ps=sameTy (.mk h ps) (mask (.mk h ps)):=by
 have wr:∀ l:List Wd,sameWds l l=true:=by
  intro l
  induction l with
  | nil=>rfl
  | cons x r ih=>simp [sameWds,ih]
 have wn:∀ l:List Wd,sameWds l []=decide (l.length=0):=by
  intro l;cases l<;>simp [sameWds]
 have pn:∀ l:Pts,samePts l .nil=decide (l.len=0):=by
  intro l;cases l<;>simp [samePts,Pts.len]
 have pr:=za ps;simp only [mask,sameTy,j2,iE];have e5:samePts ps (if 4 < h.ag/\h.ag < 9 then ps else .nil)=(decide (ps.len=0) || (decide (5<=h.ag) && decide (h.ag<=8))):=by grind
 have e6:sameWds h.af (if h.ag=4 then h.af else [])=(decide (h.af.length=0) || decide (h.ag=4)):=by grind
 grind [tY]
theorem Bc (p:Ph) (t:Ty) (hp:p.wt<=1099511627776):EvP prog 229 [.agg (Dk p (dB t))] (.v (.bool (cE p cd eB cd))):=by
 obtain ⟨th,tps⟩:=t;refine eG 8 [.tmp 2] func229 rfl ntmps229 rfl fun _ _ _ _=>?_;refine cP JX (mh p eB cd cd hp (by decide) (tX cd cd (by decide) (by decide))) ?_;exact (rfl:_=_)
def aA (l:List Wd):List ByteArray:=l.map fun w=>w.s
noncomputable def enumP (l:List Wd):Nat->Ft
 | 0=>(0,0)
 | e + 1=>
  if (enumP l e).1≠0 then enumP l e
  else match l[e]? with
   | some w=>gf (aA (l.take (e + 1))) w.s w.a
   | none=>(0,0)
theorem n9 {l:List Wd} {e:Nat} (h:(enumP l e).1≠0):∀ d,enumP l (e + d)=enumP l e
 | 0=>rfl
 | d + 1=>by
  have ih:=n9 h d;rw [<- Nat.add_assoc,enumP,ih,ap h]
theorem zb {L:List ByteArray} {x:ByteArray} {a:Int} (h:(gf L x a).1=0):gf L x a=(0,0):=by
 unfold gf at *
 grind
theorem Dx {l:List Wd}:∀ {e:Nat},(enumP l e).1=0->enumP l e=(0,0)
 | 0,_=>rfl
 | e + 1,h=>by
  rw [enumP] at h ⊢
  grind [zb]
theorem tZ {l:List Wd} {e:Nat} {w:Wd} (h:(enumP l e).1=0) (hw:l[e]? = some w):enumP l (e + 1)=gf (aA (l.take (e + 1))) w.s w.a:=by
 rw [enumP,ai (by rw [h];simp),hw]
noncomputable def mi (h:Hd):Ft:=
 if h.af.length=0 then (15,h.aK) else if 64 < h.af.length then (8,((h.af[64]?).getD (⟨au,0⟩:Wd)).a) else enumP h.af h.af.length
abbrev Kg (h:Hd) (ps:Pts) (n e:Nat):St:=
 ⟨[aF 1 0,aF 2 1,bc 27 2 (bw h.af),aw 28 ((bw h.af).length),aw 29 e,(3,⟨[],.sl 1 (ee (aA (h.af.take e))) (some 0)⟩)],
  [dB (.mk h ps),[.v (.int .i64 0),.v (.int .i64 0)]],[⟨n,9,1,none⟩]⟩
theorem iY {l:List Wd} {e:Nat} {w:Wd} (h:l[e]? = some w):ee (aA (l.take e)) ++ [[DV.v (.string w.s)]]=ee (aA (l.take (e + 1))):=by
 rw [List.take_add_one,h];simp [ee,aA]
theorem Dy (h:Hd) (ps:Pts) (hs:wdsWt h.af<=1099511627776):EvP prog 176 [.agg (dB (.mk h ps))] (mi h).d:=by
 have hl:=bi h.af;refine eG 48 [.cell 2 44] func176 rfl ntmps176 rfl fun _ _ _ _=>?_;refine br ?_ ?_<;>intro h0
 ·have h0:h.af.length=0:=by have:=h0;simp [az] at this;simp [this]
  refine cP dD (bp 15 h.aK) ?_;refine ⟨_,?_,rfl⟩;rw [mi,ap h0];exact ax
 have h0:¬ h.af.length=0:=by have:=h0;simp [az] at this;simpa using this
 refine br ?_ ?_<;>intro h1
 ·have h1:64 < h.af.length:=by have:=h1;simp [az] at this;omega
  obtain ⟨x,hx⟩:∃ x,h.af[64]? = some x:=⟨_,gE h1⟩;refine ⟨jt x,⟨by omega,aR hx⟩,?_⟩;refine cP dD (bp 8 x.a) ?_;refine ⟨_,?_,rfl⟩;rw [mi,ai h0,ap h1,hx];exact ax
 have h1:¬ 64 < h.af.length:=by have:=h1;simp [az] at this;omega
 have hk:mi h=enumP h.af h.af.length:=by rw [mi,ai h0,ai h1]
 rw [hk];refine lI (fun j st=>∃ e:Nat,st=Kg h ps e e/\e<=h.af.length/\(enumP h.af e).1=0/\j=h.af.length - e) ⟨0,rfl,by omega,rfl,rfl⟩ (ff ⟨0,9,1,none⟩ rfl ⟨_,rfl⟩ rfl wA rfl rfl jX) ?_;rintro j st ⟨e,rfl,he,hz,rfl⟩;refine br ?_ ?_<;>intro hL
 ·have ay:e < h.af.length:=by simpa [az] using hL
  obtain ⟨w,hw⟩:=gX ay;have PN:=gK (mG hw);have ua:=tZ hz hw;have Kh:(aA (h.af.take (e + 1)))[(aA (h.af.take (e + 1))).length - 1]? = some w.s:=by grind [aA]
  refine ⟨jt w,⟨by omega,aR hw⟩,?_⟩;refine ⟨by simp [bQ,aA];omega,⟨by simp [bQ,aA,maxLen];omega,by simp [bQ,aA];omega⟩,?_⟩;have gO:=iY hw;have QH:=rC (aA (h.af.take (e + 1))) w.s w.a Kh (by simp [aA];omega) (by omega);rw [<- gO,<- ua] at QH;refine cP PB QH ?_;refine br ?_ ?_<;>intro hf
  ·have hf:(enumP h.af (e + 1)).1≠0:=sU hf;refine ⟨_,?_,rfl⟩;have bh:=n9 hf (h.af.length - (e + 1));rw [show e + 1 + (h.af.length - (e + 1))=h.af.length by omega] at bh;rw [bh];exact ax
  ·have hf:(enumP h.af (e + 1)).1=0:=sU hf;refine ⟨Kg h ps (e + 1) (e + 1),(bl (wB2 (nxt ay (by omega)) gO)),h.af.length - (e + 1),by omega,e + 1,rfl,by omega,hf,rfl⟩
 ·have hge:e=h.af.length:=by
   have:=hL;simp [az] at this;omega
  subst hge;have bh:=Dx hz;refine ⟨_,?_,rfl⟩;rw [bh];exact ax
def VR (t:Ty) (depth m:Int) (r:DV) (os:List (List DV)) (_:List TkE):Prop:=
 r=(wrong t depth m).1.d/\∃ z:Int,os=[[.v (.int .i64 z)]]/\((wrong t depth m).1.1=0->z=(wrong t depth m).2)
theorem Rz {t:Ty} {depth m:Int}:∀ r os tk,VR t depth m r os tk->clB 0 0 r=true/\∀ qz∈os,clB.clL 0 0 qz=true:=by
 rintro r os tk ⟨rfl,z,rfl,_⟩;refine ⟨rfl,fun qz h=>?_⟩;simp only [List.mem_singleton] at h;subst h;rfl
theorem Hf (t:Ty) (hc:Ev prog 123 [.loc 0 0,.agg (dB t),.v (.int .i64 1)] [[.v (.int .i64 0)]] [] (VR t 1 0)) :
  EvP prog 70 [.agg (dB t)] (wrong t 1 0).1.d:=by
 obtain ⟨h,ps⟩:=t;refine eG 9 [.cell 2 44] func70 rfl ntmps70 rfl fun _ _ _ _=>?_;refine k0 JP rfl rfl ax ax hc Rz (fun r qz hr=>?_);obtain ⟨rfl,z,hz,_⟩:=hr;simp only [List.cons.injEq,and_true] at hz;subst hz;exact ⟨_,ax,rfl⟩
theorem wr (z:Int) (h1 : -9223372036854775808<=z) (h2:z<=9223372036854775807):IntKind.i64.wrap z=z:=by
 rw [IntKind.wrap_i64];omega
abbrev ba (l:List UInt8):ByteArray:=⟨l.toArray⟩
def tx (s:ByteArray):List UInt8:=s.data.toList
theorem Dz {s:ByteArray} {l:List UInt8} (h:tx s=l):s=ba l:=by
 subst h;apply ByteArray.ext;simp [tx]
theorem xr (l:List UInt8):tx (ba l)=l:=by simp [tx]
theorem Ki (s:ByteArray):ba (tx s)=s:=(Dz rfl).symm
theorem gP (s:ByteArray):(tx s).length=s.size:=by simp [tx]
def nB (z:Int):Prop:=-9223372036854775808<=z/\z<=9223372036854775807
end Go.Proofs.YtphonmiflfhdbaaGreat
set_option maxRecDepth 100000
namespace Go.Proofs
open Go.Shelf
end Go.Proofs
namespace Go.Proofs.YtphonmiflfhdbaaGreat
open Go Go.RowKit Dv Go.Proofs.Tryz
theorem Hg {P:Program} {f:FuncId} {args:List DV} {d:DV}
  (h:∀ (E:En) (w:World) (vs:List Value),Env E [] w->RvL E args vs->Calls P f vs.toArray w fun e w'=>∃ v,e = .returned v/\Rv E d v/\Below w.heap.size w w'):EvP P f args d:=by
 intro E w vs hE l8 hv;refine (h E w vs hE hv).mono ?_;rintro e w' ⟨v,rfl,hr,hb⟩;exact ⟨v,rfl,⟨hb.os,hb.tape,hb.output,hb.size,fun k hk _=>hb.block k hk⟩,fun hf=>(by cases hf),d,[],E,hE.jW hb.block,rfl,rfl,Nw.refl hE,hr,rfl⟩
end Go.Proofs.YtphonmiflfhdbaaGreat
set_option maxRecDepth 100000
namespace Go.Proofs.YtphonmiflfhdbaaGreat
open Go Go.RowKit Dv Go.Proofs.Tryz
mutual
def rngT:Ty->Prop
 | .mk h ps=>nB h.lo/\nB h.hi/\nB h.most/\rngP ps
def rngP:Pts->Prop
 | .nil=>True
 | .cons p t r=>nB p.wide/\nB p.cn/\rngT t/\rngP r
end
end Go.Proofs.YtphonmiflfhdbaaGreat
namespace Go.Proofs.YtphonmiflfhdbaaGreat
namespace Dv
open Go Go.RowKit
def TypFs (f:TypeId->List DV->Prop):List TypeId->List DV->Prop
 | [],ds=>ds=[]
 | t :: r,ds=>∃ a b,ds=a ++ b/\f t a/\TypFs f r b
def Typ (P:Program):Nat->TypeId->List DV->Prop
 | 0,_,_=>False
 | n + 1,t,ds=>
  match P.underlying t with
  | some .bool=>∃ b,ds=[.v (.bool b)]
  | some (.int k)=>∃ z,ds=[.v (.int k z)]/\(Lit.int k z).wf=true
  | some .string=>∃ s:ByteArray,ds=[.v (.string s)]
  | some (.slice e)=>∃ es,ds=[.sl (P.cellsOf e) es none]/\∀ cs∈es,Typ P n e cs
  | some (.struct fs)=>TypFs (Typ P n) (fs.toList.map (·.type)) ds
  | _=>False
mutual
def wgD:DV->Nat
 | .v (.string s)=>s.size + 64
 | .sl _ es _=>64 + wgEs es
 | _=>64
def wgL:List DV->Nat
 | []=>0
 | d :: r=>wgD d + wgL r
def wgEs:List (List DV)->Nat
 | []=>0
 | cs :: r=>wgL cs + wgEs r
end
theorem cG:∀ a b:List DV,wgL (a ++ b)=wgL a + wgL b
 | [],b=>by simp [wgL]
 | d :: r,b=>by simp only [List.cons_append,wgL,cG r b];omega
def laidF (P:Program) (S:List TypeId):Nat->List Field->Nat->Bool
 | off,[],n=>decide (off=n)
 | off,f :: r,n=>decide (f.offset=off) && S.contains f.type && laidF P S (off + P.cellsOf f.type) r n
def lj (P:Program) (S:List TypeId) (t:TypeId):Bool:=
 match P.underlying t with
 | some .bool=>decide (P.cellsOf t=1)
 | some (.int _)=>decide (P.cellsOf t=1)
 | some .string=>decide (P.cellsOf t=1)
 | some (.slice e)=>decide (P.cellsOf t=1) && S.contains e && decide (0 < P.cellsOf e)
 | some (.struct fs)=>laidF P S 0 fs.toList (P.cellsOf t)
 | _=>false
def bkS {H:Type} (bk:DataW H->Nat):List (DataW H)->Nat
 | []=>0
 | d :: r=>bk d + bkS bk r
structure Bk {H:Type} (bk:DataW H->Nat):Prop where
 str:∀ l:List UInt8,l.length + 1<=bk (.lit (.string l))
 lit:∀ l,1<=bk (.lit l)
 nil:1<=bk .nil
 slice:∀ es sp,1 + bkS bk es<=bk (.slice es sp)
 agg:∀ l,bkS bk l<=bk (.agg l)
def DA (w:World):En:=⟨fun a=>w.cell? a,[],[],[]⟩
theorem NC (w:World):Env (DA w) [] w where
 len:=rfl
 tl:=rfl
 ey:=by simp
 inj:=List.nodup_nil
 sub:=fun x u hx=>hx
 pc:=by simp [DA]
 cC:=by simp [DA]
 ji:=by simp [DA]
theorem Hh {w:World} {a:Addr} {k:Nat} {v:Value} (h:w.cell? (a.add k)=some v):w.cell? ⟨a.block,a.off + k,none⟩=some v:=by
 unfold Addr.add at h;split at h
 ·rename_i hk;subst hk;unfold World.cell? at h ⊢;split at h
  ·rename_i c e z he;split at h
   ·cases h
   ·simpa [he] using h
  ·cases h
 ·exact h
theorem Hi {w:World} {a:Addr} {v:Value} (h:w.cell? a=some v):a.spot=none:=by
 unfold World.cell? at h;split at h
 ·split at h
  ·cases h
  ·rename_i hs;simpa using hs
 ·cases h
theorem ub {E:En} {b:Nat}:∀ {p:Nat} {ds:List DV} {vs:List Value},RvL E.cl ds vs->(∀ (j:Nat) v,vs[j]? = some v->E.c ⟨b,p + j,none⟩=some v/\v.oneCell'=true)->RvAt E.cl b p ds
 | p,[],vs,h,hc=>by simp only [RvAt]
 | p,d :: r,vs,h,hc=>by
  simp only [RvL] at h;obtain ⟨v,s,rfl,h1,h2⟩:=h;simp only [RvAt];obtain ⟨c1,c2⟩:=hc 0 v rfl;refine ⟨⟨v,c1,c2,h1⟩,ub (p:=p + 1) h2 fun j u hj=>?_⟩;have:=hc (j + 1) u hj;rw [show p + 1 + j=p + (j + 1) by omega];exact this
section
variable {H:Type} {enc:TypeId × Value->H} {P:Program} {w:World} {sp:Nat->Bool} {held:Bool} {S:List TypeId} {bk:DataW H->Nat}
def Rd (enc:TypeId × Value->H) (P:Program) (w:World) (bk:DataW H->Nat) (n:Nat) (t:TypeId) (cs:List Value) (d:DataW H):Prop:=
 ∃ ds,RvL (DA w) ds cs/\(∀ v∈cs,v.oneCell'=true)/\Typ P n t ds/\wgL ds<=64 * bk d/\cs.length=P.cellsOf t
theorem xu {n:Nat} (ih:∀ t cs x,t∈S->DataW.trod enc P w 0 sp held n t cs=some x->Rd enc P w bk n t cs x.1) (cs:List Value) :
  ∀ (fs:List Field) (off:Nat) (xs:List (DataW H × List MemPlace)),laidF P S off fs cs.length=true->xs.length=fs.length ->
   (∀ (i:Nat) f,fs[i]? = some f->DataW.trod enc P w 0 sp held n f.type ((cs.drop f.offset).take (P.cellsOf f.type))=xs[i]?) ->
   ∃ ds,RvL (DA w) ds (cs.drop off)/\(∀ v∈cs.drop off,v.oneCell'=true)/\TypFs (Typ P n) (fs.map (·.type)) ds/\wgL ds<=64 * bkS bk (xs.map (·.1))
 | [],off,xs,hl,yI,hx=>by
  simp only [laidF,decide_eq_true_eq] at hl;subst hl;simp only [List.length_nil,List.length_eq_zero_iff] at yI;subst yI;exact ⟨[],by simpa using cf _,by simp,by simp [TypFs],by simp [wgL]⟩
 | f :: r,off,xs,hl,yI,hx=>by
  simp only [laidF,aS,decide_eq_true_eq] at hl;obtain ⟨⟨hof,hS⟩,hl⟩:=hl
  match xs,yI with
  | x :: xs,yI=>
   have h0:=hx 0 f rfl;rw [hof] at h0;simp only [List.getElem?_cons_zero] at h0;obtain ⟨ds0,r1,r2,r3,r4,r5⟩:=ih f.type _ x (sU hS) h0;obtain ⟨ds1,s1,s2,s3,s4⟩:=xu ih cs r (off + P.cellsOf f.type) xs hl (sU yI) (fun i g hg=>by simpa using hx (i + 1) g (sU hg))
   have Kj:cs.drop off=(cs.drop off).take (P.cellsOf f.type) ++ cs.drop (off + P.cellsOf f.type):=by
    rw [<- List.drop_drop,List.take_append_drop]
   refine ⟨ds0 ++ ds1,?_,?_,?_,?_⟩
   ·rw [Kj];exact RvL.append r1 s1
   ·rw [Kj];intro v hv;rcases List.mem_append.1 hv with hv | hv
    ·exact r2 v hv
    ·exact s2 v hv
   ·simp only [List.map_cons,TypFs];exact ⟨ds0,ds1,rfl,r3,s3⟩
   ·rw [cG];simp only [List.map_cons,bkS];omega
theorem Bd {n e:Nat} (ih:∀ t cs x,t∈S->DataW.trod enc P w 0 sp held n t cs=some x->Rd enc P w bk n t cs x.1) (he:e∈S) (a:Addr) :
  ∀ (xs:List (DataW H × List MemPlace)) (i0:Nat),(∀ i,i < xs.length->(w.cells? 0 (a.add ((i0 + i) * P.cellsOf e)) (P.cellsOf e)).bind (DataW.trod enc P w 0 sp held n e)=xs[i]?) ->
   ∃ es,es.length=xs.length/\RvEs (DA w) (P.cellsOf e) a.block (a.off + i0 * P.cellsOf e) es/\(∀ cs∈es,Typ P n e cs)/\wgEs es<=64 * bkS bk (xs.map (·.1))
 | [],i0,hx=>⟨[],rfl,by simp only [RvEs],by simp,by simp [wgEs]⟩
 | x :: xs,i0,hx=>by
  have h0:=hx 0 (by simp);simp only [Nat.add_zero,List.getElem?_cons_zero] at h0;obtain ⟨cs,cT,ht⟩:=Option.bind_eq_some_iff.1 h0;obtain ⟨_,hlen,oQ⟩:=World.cells?_some cT;obtain ⟨ds0,r1,r2,r3,r4,r5⟩:=ih e cs x he ht
  obtain ⟨es,s1,s2,s3,s4⟩:=Bd ih he a xs (i0 + 1) (fun i hi=>by
   have:=hx (i + 1) (sU hi);simp only [List.getElem?_cons_succ] at this;rw [show i0 + 1 + i=i0 + (i + 1) by omega]
   exact this)
  refine ⟨ds0 :: es,by simp [s1],?_,?_,?_⟩
  ·simp only [RvEs];refine ⟨by rw [<- r1.length,hlen],ub (E:=DA w) r1 fun j v hj=>⟨?_,r2 v (mG hj)⟩,?_⟩
   ·have pX:j < P.cellsOf e:=by rw [<- hlen];exact (gS hj).1
    have h1:=oQ j pX;rw [hj,Deep.add_add] at h1;have h2:=Hh h1;show w.cell? _=_;rw [Nat.add_assoc];exact h2
   ·rw [Nat.add_assoc,show i0 * P.cellsOf e + P.cellsOf e=(i0 + 1) * P.cellsOf e by rw [Nat.add_mul,Nat.one_mul]];exact s2
  ·intro cs' hc;rcases cg hc with hc | hc
   ·subst hc;exact r3
   ·exact s3 cs' hc
  ·simp only [wgEs,List.map_cons,bkS];omega
theorem zc (FR:Bk bk) (hS:∀ t∈S,lj P S t=true):∀ (n:Nat) (t:TypeId) (cs:List Value) (x:DataW H × List MemPlace),t∈S->DataW.trod enc P w 0 sp held n t cs=some x->Rd enc P w bk n t cs x.1
 | 0,t,cs,x,_,h=>by simp [DataW.trod] at h
 | n + 1,t,cs,x,ht,h=>by
  have hf:=hS t ht;unfold lj at hf;unfold Rd
  cases hu:P.underlying t with
  | none=>rw [hu] at hf;cases hf
  | some D=>
   rw [hu] at hf
   cases D with
   | bool=>
    simp only [decide_eq_true_eq] at hf;obtain ⟨b,rfl,rfl⟩:=DataW.trod_bool hu h;have:=FR.lit (.bool b);exact ⟨[.v (.bool b)],rvL_one (by unfold Rv;exact ⟨rfl,rfl⟩),by simp [Value.oneCell'],by simp only [Typ,hu];exact ⟨b,rfl⟩,by simp only [wgL,wgD];omega,by simp [hf]⟩
   | int k=>
    simp only [decide_eq_true_eq] at hf;obtain ⟨z,rfl,rfl,hw⟩:=DataW.trod_int hu h;have:=FR.lit (.int k z);exact ⟨[.v (.int k z)],rvL_one (by unfold Rv;exact ⟨rfl,rfl⟩),by simp [Value.oneCell'],by simp only [Typ,hu];exact ⟨z,rfl,hw⟩,by simp only [wgL,wgD];omega,by simp [hf]⟩
   | string=>
    simp only [decide_eq_true_eq] at hf;obtain ⟨s,rfl,rfl,hw⟩:=DataW.trod_string hu h;have:=FR.str s.data.toList;have bY:s.data.toList.length=s.size:=by rw [Array.length_toList];all_goals rfl
    exact ⟨[.v (.string s)],rvL_one (by unfold Rv;exact ⟨rfl,rfl⟩),by simp [Value.oneCell'],by simp only [Typ,hu];exact ⟨s,rfl⟩,by simp only [wgL,wgD];omega,by simp [hf]⟩
   | slice e=>
    simp only [aS,decide_eq_true_eq] at hf;obtain ⟨⟨IM,vY⟩,hf3⟩:=hf;rcases DataW.trod_slice hu h with ⟨rfl,rfl⟩ | ⟨a,len,cap,elems,rest,m,hm,rfl,rfl,_,S5,_,ql,hx,_,_⟩
    ·have:=FR.nil;refine ⟨[.sl (P.cellsOf e) [] none],rvL_one ?_,by simp [Value.oneCell'],by simp only [Typ,hu];exact ⟨[],rfl,by simp⟩,by simp only [wgL,wgD,wgEs];omega,by simp [IM]⟩;unfold Rv;exact ⟨none,0,0,rfl,⟨rfl,aU _⟩,fun hc=>absurd rfl hc,fun k hk=>by cases hk⟩
    ·simp only [Nat.add_right_cancel_iff] at hm;subst hm;obtain ⟨es,s1,s2,s3,s4⟩:=Bd (fun t cs x=>zc FR hS n t cs x) (sU vY) a elems 0 (fun i hi=>by simpa using hx i (by omega));have hb:=FR.slice (elems.map (·.1)) (rest.map (·.1));refine ⟨[.sl (P.cellsOf e) es none],rvL_one ?_,by simp [Value.oneCell'],by simp only [Typ,hu];exact ⟨es,rfl,s3⟩,by simp only [wgL,wgD];omega,by simp [IM]⟩;unfold Rv;refine ⟨some a,len,cap,rfl,⟨by omega,S5⟩,fun bq=>⟨?_,?_⟩,fun k hk=>by cases hk⟩
     ·have nU:0 < len:=by
       rw [<- ql,<- s1];exact List.length_pos_iff.2 bq
      have h0:=hx 0 nU;rw [gE (by omega)] at h0;obtain ⟨cs,cT,_⟩:=Option.bind_eq_some_iff.1 h0;obtain ⟨_,hlen,oQ⟩:=World.cells?_some cT;have h1:=oQ 0 hf3;rw [gE (by omega),Deep.add_add] at h1;simp only [Nat.zero_mul,Nat.add_zero] at h1;exact Hi (a:=a) h1
     ·have s2':RvEs (DA w) (P.cellsOf e) a.block a.off es:=sU s2;exact s2'
   | struct fs=>
    obtain ⟨xs,m,hm,rfl,hlen,yI,hx⟩:=DataW.trod_struct hu h;simp only [Nat.add_right_cancel_iff] at hm;subst hm;simp only at hf;obtain ⟨ds,s1,s2,s3,s4⟩:=xu (fun t cs x=>zc FR hS n t cs x) cs fs.toList 0 xs (by rw [hlen];exact hf) (sU yI) (fun i f hi=>hx i f (sU hi));have hb:=FR.agg (xs.map (·.1));refine ⟨ds,by simpa using s1,by simpa using s2,by simp only [Typ,hu];exact s3,by simp only;omega,hlen⟩
   | _=>cases hf
end
theorem FT {P:Program} {n:Nat} {t:TypeId} {k:IntKind} {ds:List DV} (hu:P.underlying t=some (.int k)) (h:Typ P n t ds):∃ z,ds=[.v (.int k z)]/\(Lit.int k z).wf=true:=by
 cases n with
 | zero=>exact h.elim
 | succ n=>simp only [Typ,hu] at h;exact h
theorem Kk {P:Program} {n:Nat} {t:TypeId} {ds:List DV} (hu:P.underlying t=some .bool) (h:Typ P n t ds):∃ b,ds=[.v (.bool b)]:=by
 cases n with
 | zero=>exact h.elim
 | succ n=>simp only [Typ,hu] at h;exact h
theorem sE {P:Program} {n:Nat} {t:TypeId} {ds:List DV} (hu:P.underlying t=some .string) (h:Typ P n t ds):∃ s:ByteArray,ds=[.v (.string s)]:=by
 cases n with
 | zero=>exact h.elim
 | succ n=>simp only [Typ,hu] at h;exact h
theorem mj {P:Program} {n:Nat} {t e:TypeId} {ds:List DV} (hu:P.underlying t=some (.slice e)) (h:Typ P n t ds):∃ m es,n=m + 1/\ds=[.sl (P.cellsOf e) es none]/\∀ cs∈es,Typ P m e cs:=by
 cases n with
 | zero=>exact h.elim
 | succ n=>
  simp only [Typ,hu] at h;obtain ⟨es,h1,h2⟩:=h;exact ⟨n,es,rfl,h1,h2⟩
theorem iF {P:Program} {n:Nat} {t:TypeId} {fs:Array Field} {ds:List DV} (hu:P.underlying t=some (.struct fs)) (h:Typ P n t ds):∃ m,n=m + 1/\TypFs (Typ P m) (fs.toList.map (·.type)) ds:=by
 cases n with
 | zero=>exact h.elim
 | succ n=>
  simp only [Typ,hu] at h;exact ⟨n,rfl,h⟩
theorem wf_i64 {z:Int} (h:(Lit.int .i64 z).wf=true) : -9223372036854775808<=z/\z<=9223372036854775807:=by
 simpa [Lit.wf,IntKind.min,IntKind.max,IntKind.signed,IntKind.bits] using h
end Dv
end Go.Proofs.YtphonmiflfhdbaaGreat
set_option maxRecDepth 100000
namespace Go.Proofs.YtphonmiflfhdbaaGreat
open Go Go.RowKit Dv Go.Proofs.Tryz
theorem DB:prog.cellsOf 27=2:=by kernel_rfl
theorem DD:prog.cellsOf 136=18:=by kernel_rfl
theorem qC {n:Nat} {ds:List DV} (h:Typ prog n 27 ds):∃ w:Wd,ds=jt w/\w.wt<=wgL ds:=by
 obtain ⟨m,_,hf⟩:=iF Tryz.underlying27 h;obtain ⟨a,b,rfl,h1,c,d,rfl,h2,rfl⟩:=hf;obtain ⟨s,rfl⟩:=sE Tryz.underlying9 h1;obtain ⟨z,rfl,_⟩:=FT Tryz.underlying3 h2;exact ⟨⟨s,z⟩,rfl,by simp [wgL,wgD,Wd.wt]⟩
theorem Kl:∀ {m:Nat} {es:List (List DV)},(∀ cs∈es,Typ prog m 27 cs)->∃ l:List Wd,es=bw l/\wdsWt l<=wgEs es
 | m,[],h=>⟨[],rfl,by simp [wdsWt,wgEs]⟩
 | m,cs :: r,h=>by
  obtain ⟨w,rfl,hw⟩:=qC (h cs (by simp));obtain ⟨l,rfl,hl⟩:=Kl (m:=m) (es:=r) (fun c hc=>h c (fK _ hc));exact ⟨w :: l,rfl,by simp only [wdsWt,wgEs];omega⟩
theorem o8 {n:Nat} {ds:List DV} (h:Typ prog n 22 ds):∃ l:List Wd,ds=[.sl 2 (bw l) none]/\64 + wdsWt l<=wgL ds:=by
 obtain ⟨m,es,_,rfl,he⟩:=mj Tryz.underlying22 h;obtain ⟨l,rfl,hl⟩:=Kl he;rw [DB];exact ⟨l,rfl,by simp only [wgL,wgD];omega⟩
theorem gy {n:Nat} {ds:List DV} (h:Typ prog n 3 ds):∃ z,ds=[.v (.int .i64 z)]/\nB z:=by
 obtain ⟨z,rfl,hw⟩:=FT Tryz.underlying3 h;exact ⟨z,rfl,wf_i64 hw⟩
theorem Km {m:Nat} (ih:∀ k,k < m->∀ ds,Typ prog k 29 ds->∃ t:Ty,ds=dB t/\rngT t/\t.wt<=wgL ds) :
  ∀ {es:List (List DV)},(∀ cs∈es,Typ prog m 136 cs)->∃ ps:Pts,es=eW ps/\rngP ps/\ps.wt<=wgEs es
 | [],h=>⟨.nil,by simp [eW],by simp [rngP],by simp [Pts.wt]⟩
 | cs :: r,h=>by
  obtain ⟨ps,rfl,hr,hl⟩:=Km ih (es:=r) (fun c hc=>h c (fK _ hc));obtain ⟨k,rfl,hf⟩:=iF Tryz.underlying136 (h cs (by simp));obtain ⟨a1,b1,rfl,h1,a2,b2,rfl,h2,a3,b3,rfl,h3,a4,b4,rfl,h4,a5,b5,rfl,h5,a6,b6,rfl,h6,rfl⟩:=hf;obtain ⟨nm,rfl,w1⟩:=qC h1;obtain ⟨bare,rfl⟩:=Kk Tryz.underlying4 h2;obtain ⟨lab,rfl,w3⟩:=o8 h3;obtain ⟨wide,rfl,r4⟩:=gy h4;obtain ⟨k5,_,hf5⟩:=iF Tryz.underlying134 h5;obtain ⟨c1,d1,rfl,g1,c2,d2,rfl,g2,c3,d3,rfl,g3,c4,d4,rfl,g4,rfl⟩:=hf5;obtain ⟨ck,rfl,_⟩:=gy g1;obtain ⟨cn,rfl,q2⟩:=gy g2;obtain ⟨ca,rfl,_⟩:=gy g3;obtain ⟨cl,rfl,w5⟩:=o8 g4;obtain ⟨t,rfl,rt,wt⟩:=ih k (by omega) _ h6;refine ⟨.cons ⟨nm,bare,lab,wide,ck,cn,ca,cl⟩ t ps,?_,by simp only [rngP];exact ⟨r4,q2,rt,hr⟩,?_⟩
  ·grind [eW,Dk,jt]
  ·grind [Pts.wt,Ph.wt,wgEs,cG,wgL,wgD,jt,Wd.wt]
theorem Kn:∀ (n:Nat) (ds:List DV),Typ prog n 29 ds->∃ t:Ty,ds=dB t/\rngT t/\t.wt<=wgL ds:=by
 intro n
 induction n using Nat.strongRecOn with
 | _ n ih=>
  intro ds h;obtain ⟨m,rfl,hf⟩:=iF Tryz.underlying29 h;obtain ⟨a1,b1,rfl,h1,a2,b2,rfl,h2,a3,b3,rfl,h3,a4,b4,rfl,h4,a5,b5,rfl,h5,a6,b6,rfl,h6,a7,b7,rfl,h7,a8,b8,rfl,h8,rfl⟩:=hf;obtain ⟨ag,rfl,_⟩:=gy h1;obtain ⟨aK,rfl,_⟩:=gy h2;obtain ⟨lo,rfl,r3⟩:=gy h3;obtain ⟨hi,rfl,r4⟩:=gy h4;obtain ⟨most,rfl,r5⟩:=gy h5;obtain ⟨af,rfl,w6⟩:=o8 h6;obtain ⟨k,es,rfl,rfl,kg⟩:=mj Tryz.underlying25 h7;obtain ⟨ps,rfl,rp,wp⟩:=Km (fun j hj=>ih j (by omega)) kg;obtain ⟨nm,rfl,w8⟩:=qC h8;rw [DD];refine ⟨.mk ⟨ag,aK,lo,hi,most,af,nm⟩ ps,?_,by simp only [rngT];exact ⟨r3,r4,r5,rp⟩,?_⟩
  ·grind [dB,jt]
  ·grind [Ty.wt,Hd.wt,cG,wgL,wgD,jt,Wd.wt]
end Go.Proofs.YtphonmiflfhdbaaGreat
namespace Go.Proofs.YtphonmiflfhdbaaGreat
namespace Dv
open Go Go.RowKit Go.ChangeShapes Go.WideShapes Go.ChangeAt
open Go.ChangeMaps (open_string shut_string)
section
variable {H:Type} {enc:TypeId × Value->H} {P:Program}
theorem nJ (hl:laidOutB P=true) {W W':World} (hb:Below W.heap.size W W'):∀ {ts:List TypeId} {vs:List Value} {ds:List (DataW H)} {ps:List MemPlace},(∀ t∈ts,P.readableRec t=true/\t < P.types.size) ->
  DataW.TrodAll enc P W 0 (fun _=>true) true ts vs ds ps->(∀ x∈ps,x.block < W.heap.size)->DataW.TrodAll enc P W' 0 (fun b=>decide (b < W.heap.size)) true ts vs ds ps
 | [],[],[],_,_,h,_=>h
 | t :: ts,v :: vs,d :: ds,_,ht,⟨p,q,h1,h2,e⟩,ay=>by
  subst e;obtain ⟨r1,r2⟩:=ht t (by simp);exact ⟨p,q,Below.trod hl r1 r2 h1 hb (fun x hx=>ay x (List.mem_append_left _ hx)),nJ hl hb (fun t r9=>ht t (by simp [r9])) h2 (fun x hx=>ay x (List.mem_append_right _ hx)),rfl⟩
theorem law_post {f:Func} {s:ChangeSpec} {tb:TypeId} (hl:laidOutB P=true) (Jl:f.resultTypes = #[tb]) (htb:P.underlying tb=some .bool) (hv:s.vars=[]) (hts:∀ t∈f.params.toList,P.readableRec t=true/\t < P.types.size)
  {W W':World} {args:Array Value} {ds gs:List (DataW H)} {before:List MemPlace} (hW:DataW.Whole enc P f.params.toList s.vars false W args.toList ds gs before) (Ae:s.fn H ds={ results:=[.lit (.bool true)],args:=ds }) (hb:Below W.heap.size W W') :
  s.post enc P f false true false false W args (.bool true) W':=by
 have hW':=hW;obtain ⟨p,q,hA,hV,rfl,hfz,hnd⟩:=hW;rw [hv] at hV;obtain ⟨rfl,rfl⟩:=trodVars_none hV;refine ⟨ds,[],p ++ [],[],p,[],hW',?_,?_,?_,hb.frame _,fun h=>by cases h⟩
 ·rw [List.append_nil,Ae,Jl];exact trodAll_cons_mk (shut_bool htb _) trodAll_mk0
 ·rw [List.append_nil,Ae];exact nJ hl hb hts hA (fun x hx=>hW'.lt x (List.mem_append_left _ hx))
 ·rw [List.append_nil,Ae,hv];rfl
theorem DE {w w':World} {Φ:DV->List (List DV)->List TkE->Prop} {v:Value} (h:Ap false (DA w) w Φ v w'):Below w.heap.size w w':=by
 obtain ⟨hm,_⟩:=h;refine ⟨hm.os,hm.tape,hm.output,hm.size,fun k hk=>hm.block k hk ?_⟩;rintro (h1 | ⟨y,h1,_⟩)
 ·simp [DA] at h1
 ·simp [DA] at h1
theorem calls_law {f:FuncId} {args:List DV} {vs:List Value} {w:World} (h:EvP P f args (.v (.bool true))) (hv:RvL (DA w) args vs) :
  Calls P f vs.toArray w fun e w'=>e = .returned (.bool true)/\Below w.heap.size w w':=by
 refine (h (DA w) w vs (NC w) rfl hv).mono ?_;rintro e w' ⟨v,rfl,he⟩;have hb:=DE he;obtain ⟨_,_,d,os,E,_,_,_,_,hr,rfl⟩:=he;unfold Rv at hr;rw [hr.1];exact ⟨rfl,hb⟩
variable {W:World} {base:Nat} {S:List TypeId} {bk:DataW H->Nat}
theorem arg_st (FR:Bk bk) (hS:∀ t∈S,lj P S t=true) {t:TypeId} {fs:Array Field} {v:Value} {d:DataW H} {ps:List MemPlace} (ht:t∈S) (hu:P.underlying t=some (.struct fs))
  (hval:Value.okWide P W .any base t v) (h:DataW.Trod enc P W 0 (fun _=>true) true t v d ps):∃ n ds,Rv (DA W) (.agg ds) v/\Typ P n t ds/\wgL ds<=64 * bk d:=by
 unfold Value.okWide at hval;rw [hu] at hval;obtain ⟨cs,rfl,_,_⟩:=hval;obtain ⟨n,hn⟩:=h;obtain ⟨ds,h1,h2,h3,h4,_⟩:=zc FR hS n t _ _ ht hn;refine ⟨n,ds,?_,h3,h4⟩;unfold Rv;exact ⟨cs.toList,by simp,h1,h2⟩
end
end Dv
end Go.Proofs.YtphonmiflfhdbaaGreat
namespace Go.Proofs.YtphonmiflfhdbaaGreat
open Go Go.RowKit Dv
theorem DF {H:Type}:∀ l:List (DataW H),bkS Rows.uptoBulk l=Rows.uptoBulkAll l
 | []=>by simp [bkS,Rows.uptoBulkAll]
 | d :: r=>by simp only [bkS,Rows.uptoBulkAll,DF r]
theorem bk_ok {H:Type}:Bk (Rows.uptoBulk (H:=H)) where
 str:=fun l=>by simp [Rows.uptoBulk]
 lit:=fun l=>by cases l<;>simp [Rows.uptoBulk]
 nil:=by simp [Rows.uptoBulk]
 slice:=fun es sp=>by simp only [Rows.uptoBulk,DF];omega
 agg:=fun l=>by simp only [Rows.uptoBulk,DF];omega
theorem bulk_le {H:Type} {l:List (DataW H)} (hk:Rows.uptoSmall H l=true):Rows.uptoBulkAll l<=1048576:=of_decide_eq_true hk
theorem laid_out:laidOutB Tryz.prog=true:=by kernel_rfl
theorem own_knob:ownKnob Tryz.prog.godebug=none:=by kernel_rfl
def tyS:List TypeId:=[29,22,27,9,3,25,136,4,134]
end Go.Proofs.YtphonmiflfhdbaaGreat
set_option maxRecDepth 100000
namespace Go.Proofs.YtphonmiflfhdbaaGreat
open Go Go.RowKit Dv Go.Proofs.Tryz
def Pts.take:Nat->Pts->Pts
 | 0,_=>.nil
 | _ + 1,.nil=>.nil
 | e + 1,.cons p t r=>.cons p t (r.take e)
structure Sch where
 ae:List Wd
 order:List (Wd × Wd)
 types:List (Wd × Ty)
 root:Ty
def IP (p:Wd × Wd):List DV:=[.v (.string p.1.s),.v (.int .i64 p.1.a),.v (.string p.2.s),.v (.int .i64 p.2.a)]
def lU (l:List (Wd × Wd)):List (List DV):=l.map IP
def Yj (x:Wd × Ty):List DV:=.v (.string x.1.s) :: .v (.int .i64 x.1.a) :: dB x.2
def dNms (l:List (Wd × Ty)):List (List DV):=l.map Yj
def dQ (s:Sch):List DV:=.sl 2 (bw s.ae) none :: .sl 4 (lU s.order) none :: .sl 11 (dNms s.types) none :: dB s.root
def prsWt:List (Wd × Wd)->Nat
 | []=>0
 | p :: r=>p.1.wt + p.2.wt + prsWt r
def nmsWt:List (Wd × Ty)->Nat
 | []=>0
 | p :: r=>p.1.wt + p.2.wt + nmsWt r
def Sch.wt (s:Sch):Nat:=wdsWt s.ae + prsWt s.order + nmsWt s.types + s.root.wt
theorem fg (l:List (Wd × Wd)):(lU l).length=l.length:=by simp [lU]
theorem di (l:List (Wd × Ty)):(dNms l).length=l.length:=by simp [dNms]
theorem gh {l:List (Wd × Wd)} {j:Nat} {p:Wd × Wd} (h:l[j]? = some p):(lU l)[j]? = some (IP p):=by simp [lU,h]
theorem dNms_get {l:List (Wd × Ty)} {j:Nat} {p:Wd × Ty} (h:l[j]? = some p):(dNms l)[j]? = some (Yj p):=by simp [dNms,h]
theorem gQ:∀ l:List (Wd × Wd),128 * l.length<=prsWt l
 | []=>aU _
 | p :: r=>by have:=gQ r;simp only [List.length_cons,prsWt,Wd.wt];omega
theorem iZ:∀ l:List (Wd × Ty),256 * l.length<=nmsWt l
 | []=>aU _
 | p :: r=>by have:=iZ r;have:=p.2.dE;simp only [List.length_cons,nmsWt,Wd.wt];omega
theorem fO:∀ {l:List (Wd × Ty)} {p:Wd × Ty},p∈l->p.1.wt + p.2.wt<=nmsWt l
 | x :: r,p,h=>by
  rcases cg h with h | h
  ·subst h;simp only [nmsWt];omega
  ·have:=fO h;simp only [nmsWt];omega
def Ko (s:Sch):Prop:=(∀ x∈s.types,rngT x.2)/\rngT s.root
theorem DG:prog.cellsOf 138=4:=by kernel_rfl
theorem Be:prog.cellsOf 91=11:=by kernel_rfl
theorem RA {n:Nat} {ds:List DV} (h:Typ prog n 138 ds):∃ p:Wd × Wd,ds=IP p/\p.1.wt + p.2.wt<=wgL ds:=by
 obtain ⟨m,_,hf⟩:=iF Tryz.underlying138 h;obtain ⟨a,b,rfl,h1,c,d,rfl,h2,rfl⟩:=hf;obtain ⟨x,rfl,w1⟩:=qC h1;obtain ⟨y,rfl,w2⟩:=qC h2;exact ⟨(x,y),rfl,by simp only [cG,wgL];omega⟩
theorem RB {n:Nat} {ds:List DV} (h:Typ prog n 91 ds):∃ p:Wd × Ty,ds=Yj p/\rngT p.2/\p.1.wt + p.2.wt<=wgL ds:=by
 obtain ⟨m,_,hf⟩:=iF Tryz.underlying91 h;obtain ⟨a,b,rfl,h1,c,d,rfl,h2,rfl⟩:=hf;obtain ⟨x,rfl,w1⟩:=qC h1;obtain ⟨y,rfl,r2,w2⟩:=Kn _ _ h2;exact ⟨(x,y),by simp [Yj,jt],r2,by simp only [cG,wgL];omega⟩
theorem Kp:∀ {m:Nat} {es:List (List DV)},(∀ cs∈es,Typ prog m 138 cs)->∃ l:List (Wd × Wd),es=lU l/\prsWt l<=wgEs es
 | m,[],h=>⟨[],rfl,by simp [prsWt,wgEs]⟩
 | m,cs :: r,h=>by
  obtain ⟨w,rfl,hw⟩:=RA (h cs (by simp));obtain ⟨l,rfl,hl⟩:=Kp (m:=m) (es:=r) (fun c hc=>h c (fK _ hc));exact ⟨w :: l,rfl,by simp only [prsWt,wgEs];omega⟩
theorem Kq:∀ {m:Nat} {es:List (List DV)},(∀ cs∈es,Typ prog m 91 cs)->∃ l:List (Wd × Ty),es=dNms l/\(∀ x∈l,rngT x.2)/\nmsWt l<=wgEs es
 | m,[],h=>⟨[],rfl,by simp,by simp [nmsWt,wgEs]⟩
 | m,cs :: r,h=>by
  obtain ⟨w,rfl,hr,hw⟩:=RB (h cs (by simp));obtain ⟨l,rfl,hlr,hl⟩:=Kq (m:=m) (es:=r) (fun c hc=>h c (fK _ hc));refine ⟨w :: l,rfl,fun x hx=>?_,by simp only [nmsWt,wgEs];omega⟩;rcases cg hx with rfl | hx
  ·exact hr
  ·exact hlr x hx
theorem typ_sch {n:Nat} {ds:List DV} (h:Typ prog n 31 ds):∃ s:Sch,ds=dQ s/\Ko s/\s.wt<=wgL ds:=by
 obtain ⟨m,_,hf⟩:=iF Tryz.underlying31 h;obtain ⟨a1,b1,rfl,h1,a2,b2,rfl,h2,a3,b3,rfl,h3,a4,b4,rfl,h4,rfl⟩:=hf;obtain ⟨l1,rfl,w1⟩:=o8 h1;obtain ⟨m2,es2,_,rfl,he2⟩:=mj Tryz.underlying23 h2;obtain ⟨l2,rfl,w2⟩:=Kp he2;obtain ⟨m3,es3,_,rfl,he3⟩:=mj Tryz.underlying24 h3;obtain ⟨l3,rfl,r3,w3⟩:=Kq he3;obtain ⟨t,rfl,r4,w4⟩:=Kn _ _ h4;rw [DG,Be];refine ⟨⟨l1,l2,l3,t⟩,by simp [dQ],⟨r3,r4⟩,?_⟩;simp only [Sch.wt,cG,wgL,wgD] at *;omega
end Go.Proofs.YtphonmiflfhdbaaGreat
namespace Go.Proofs.YtphonmiflfhdbaaGreat
open Go Go.RowKit Dv
def tySS:List TypeId:=31 :: 23 :: 138 :: 24 :: 91 :: tyS
theorem tySS_ok:∀ t∈tySS,lj Tryz.prog tySS t=true:=by
 have h:(tySS.all fun t=>lj Tryz.prog tySS t)=true:=by kernel_rfl
 exact fun t ht=>List.all_eq_true.1 h t ht
set_option maxRecDepth 100000
noncomputable abbrev PP:Program:=Tryz.pinned.checked.prog
def dft:OpenClaim:={ program := "",sum := "",func := "",spec := "" }
theorem and_ok {a b:Bool} (ha:a=true) (hb:b=true):(a && b)=true:=by rw [ha,hb];all_goals rfl
theorem g_laid:laidOutB PP=true:=laid_out
theorem g_maps:mapsRowed PP=true:=by kernel_rfl
theorem g_stops:(PP.stops == [])=true:=by kernel_rfl
theorem g_knobs:(PP.stopKnobs == [])=true:=by kernel_rfl
theorem g_heard:PP.stopsHeard=true:=by kernel_rfl
theorem g_enter:PP.mayEnter=true:=by kernel_rfl
theorem g_lifts:(dft.lifted == PP.liftsFinal)=true:=by kernel_rfl
theorem g_keys:(true == PP.plainKeys)=true:=by kernel_rfl
theorem g_make:(PP.make == some dft.make)=true:=by kernel_rfl
end Go.Proofs.YtphonmiflfhdbaaGreat
set_option maxRecDepth 100000
namespace Go.Proofs.YtphonmiflfhdbaaGreat
open Go Go.RowKit Dv Go.Proofs.Tryz
theorem Bf (x b:Nat):(x:Int).fdiv (2 ^ b)=((x / 2 ^ b:Nat):Int):=by grind
theorem gR (m:Nat):BitVec.ofInt 64 (m:Int)=BitVec.ofNat 64 m:=by simp
theorem FU {x b:Nat} (hb:b < 64) (hx:x < 18446744073709551616) :
  decide (IntKind.u64.wrap ((BitVec.ofInt 64 ((x:Int).fdiv (2 ^ (min b 64))) &&& BitVec.ofInt 64 1).toNat:Int)=1)=x.testBit b:=by
 rw [Nat.min_eq_left (by omega),Bf,gR,show (BitVec.ofInt 64 1)=BitVec.ofNat 64 1 by decide,BitVec.toNat_and,BitVec.toNat_ofNat,BitVec.toNat_ofNat,Nat.testBit_eq_decide_div_mod_eq];have h1:x / 2 ^ b < 18446744073709551616:=Nat.lt_of_le_of_lt (Nat.div_le_self _ _) hx;rw [Nat.mod_eq_of_lt h1,show (1 % 2 ^ 64:Nat)=1 by decide,Nat.and_one_is_mod];simp only [IntKind.wrap_u64];congr 1;apply propext;omega
theorem DH {x b:Nat} (hb:b < 64) (hx:x < 18446744073709551616) :
  IntKind.u64.wrap ((BitVec.ofInt 64 (x:Int) ||| BitVec.ofInt 64 (IntKind.u64.wrap (1 * 2 ^ (min b 64)))).toNat:Int)=((x ||| 2 ^ b:Nat):Int):=by
 have h2:2 ^ b < 18446744073709551616:=by
  have:2 ^ b<=2 ^ 63:=Nat.pow_le_pow_right (by decide) (by omega);omega
 have e1:IntKind.u64.wrap (1 * 2 ^ (min b 64))=((2 ^ b:Nat):Int):=by
  rw [Nat.min_eq_left (by omega),Int.one_mul];have:((2:Int) ^ b)=((2 ^ b:Nat):Int):=by simp
  rw [this];generalize 2 ^ b=z at h2;simp only [IntKind.wrap_u64];omega
 rw [e1,gR,gR,BitVec.toNat_or,BitVec.toNat_ofNat,BitVec.toNat_ofNat,Nat.mod_eq_of_lt hx,Nat.mod_eq_of_lt h2];have h3:x ||| 2 ^ b < 18446744073709551616:=Nat.or_lt_two_pow (n:=64) hx h2
 simp only [IntKind.wrap_u64];omega
theorem NE {x y:Nat} (hx:x < 18446744073709551616) (hy:y < 18446744073709551616) :
  IntKind.u64.wrap ((BitVec.ofInt 64 (x:Int) ||| BitVec.ofInt 64 (y:Int)).toNat:Int)=((x ||| y:Nat):Int):=by
 rw [gR,gR,BitVec.toNat_or,BitVec.toNat_ofNat,BitVec.toNat_ofNat,Nat.mod_eq_of_lt hx,Nat.mod_eq_of_lt hy];have h3:x ||| y < 18446744073709551616:=Nat.or_lt_two_pow (n:=64) hx hy
 simp only [IntKind.wrap_u64];omega
theorem jw (x a b:Nat):(x ||| 2 ^ b).testBit a=(x.testBit a || decide (b=a)):=by
 rw [Nat.testBit_or,Nat.testBit_two_pow]
def dU (rows:List Nat):List (List DV):=rows.map fun (x:Nat)=>[DV.v (.int .u64 (x:Int))]
theorem j3 (rows:List Nat):(dU rows).length=rows.length:=by simp [dU]
theorem RC {rows:List Nat} {i:Nat} {x:Nat} (h:rows[i]? = some x):(dU rows)[i]? = some [DV.v (.int .u64 (x:Int))]:=by simp [dU,h]
abbrev lV (rows:List Nat):DV:=.pt [.sl 1 (dU rows) none] 0
def dG (rows:List Nat):Prop:=rows.length<=64/\∀ x∈rows,x < 18446744073709551616
def aT (rows:List Nat) (a b:Nat):Bool:=(rows.getD a 0).testBit b
def hasB (rows:List Nat) (a b:Int):Bool:=decide (0<=a) && decide (a < rows.length) && decide (0<=b) && decide (b < rows.length) && aT rows a.toNat b.toNat
theorem xx (rows:List Nat):EvP prog 105 [lV rows] (.v (.int .i64 rows.length)):=by
 refine eG 10 [.tmp 2] func105 rfl ntmps105 rfl fun _ _ _ _=>?_;refine (yM ?_:);rw [j3]
theorem ki (rows:List Nat) (hr:dG rows) (a b:Int):EvP prog 54 [lV rows,.v (.int .i64 a),.v (.int .i64 b)] (.v (.bool (hasB rows a b))):=by
 have hl:=xx rows;refine eG 38 [.tmp 6] func54 rfl ntmps54 rfl fun _ _ _ _=>?_;refine br ?_ ?_<;>intro g1
 ·have g1:0<=a:=sU g1;refine cP JJ hl ?_;refine br ?_ ?_<;>intro g2
  ·obtain ⟨g2,g3⟩:a < rows.length/\0<=b:=by grind [pickB]
   refine cP JJ hl ?_;refine br ?_ ?_<;>intro g4
   ·have g4:b < rows.length:=by simpa [pickB,g2,g3] using g4
    obtain ⟨x,hx⟩:∃ x,rows[a.toNat]? = some x:=⟨_,gE (by omega)⟩;have FG:=hr.2 x (mG hx);have hr1:=hr.1;refine ⟨_,⟨g1,RC hx⟩,?_⟩;refine ⟨g3,?_⟩;refine (bA ?_:);have Pd:rows.getD a.toNat 0=x:=getD_some hx;have e1:hasB rows a b=x.testBit b.toNat:=by grind [hasB,aT]
    rw [e1];exact FU (x:=x) (b:=b.toNat) (by omega) FG
   ·have g4:¬ b < rows.length:=by simpa [pickB,g2,g3] using g4
    refine (bA ?_:);simp [pickB,g2,g3,g4,hasB]
  ·have g5:¬ (a < rows.length/\0<=b):=by
    rintro ⟨h1,h2⟩;simp [pickB,h1,h2] at g2
   refine (bA ?_:);cases h:decide (a < (rows.length:Int))<;>simp [pickB,h,hasB] at g2 ⊢
   intro _ h0;omega
 ·have g1:¬ 0<=a:=sU g1;refine (bA ?_:);simp [g1,hasB]
def backN (rows:List Nat) (a:Nat):Nat->Nat
 | 0=>0
 | e + 1=>if aT rows a e && aT rows e a then backN rows a e ||| 2 ^ e else backN rows a e
theorem uc (rows:List Nat) (a:Nat):∀ e,backN rows a e < 2 ^ e
 | 0=>by simp [backN]
 | e + 1=>by
  have ih:=uc rows a e;have h2:2 ^ e < 2 ^ (e + 1):=Nat.pow_lt_pow_right (by decide) (by omega);simp only [backN];split
  ·exact Nat.or_lt_two_pow (by omega) h2
  ·omega
theorem qD (rows:List Nat) (a b:Nat):∀ e,(backN rows a e).testBit b=(decide (b < e) && (aT rows a b && aT rows b a))
 | 0=>by simp [backN]
 | e + 1=>by
  have ih:=qD rows a b e
  grind [backN,aT,jw]
abbrev RD (rows:List Nat) (a e:Nat):St:=
 ⟨[(0,⟨[],lV rows⟩),aw 1 a,(5,⟨[],.v (.int .u64 (backN rows a e:Nat))⟩),aw 11 ((dU rows).length),aw 12 e],[],[]⟩
theorem o9 {rows:List Nat} {a b:Nat} (ha:a < rows.length) (hb:b < rows.length):hasB rows a b=aT rows a b:=by
 simp [hasB,ha,hb]
theorem DI (rows:List Nat) (hr:dG rows) (a:Nat) (ha:a < rows.length):EvP prog 116 [lV rows,.v (.int .i64 a)] (.v (.int .u64 (backN rows a rows.length:Nat))):=by
 have hr1:=hr.1;refine eG 31 [.tmp 4] func116 rfl ntmps116 rfl fun _ _ _ _=>?_;refine lJ (fun e=>RD rows a e) rows.length (bl wB) ?_;intro e he;refine br ?_ ?_<;>intro hL
 ·have ay:e < rows.length:=by have:=hL;simp [j3] at this;exact this
  have h1:=ki rows hr a e;have h2:=ki rows hr e a;rw [o9 ha ay] at h1;rw [o9 ay ha] at h2;have hbl:=uc rows a e
  have RE:backN rows a e < 18446744073709551616:=by
   have:2 ^ e<=2 ^ 64:=Nat.pow_le_pow_right (by decide) (by omega);omega
  have RF:=DH (x:=backN rows a e) (b:=e) (by omega) RE;have hs:backN rows a (e + 1)=if aT rows a e && aT rows e a then backN rows a e ||| 2 ^ e else backN rows a e:=rfl
  refine cP JG h1 ?_;refine br ?_ ?_<;>intro g1
  ·have g1:aT rows a e=true:=sU g1;refine cP JG h2 ?_;refine br ?_ ?_<;>intro g2
   ·have g2:aT rows e a=true:=by simpa [pickB,g1] using g2
    rw [g1,g2] at hs;have hs:backN rows a (e + 1)=backN rows a e ||| 2 ^ e:=hs
    refine ⟨by omega,?_⟩;exact rE ⟨_,by omega,e + 1,rfl,by omega,rfl⟩ (bl (by repeat' (first | exact trivial | exact aE rfl | exact aD (nxt ay (by omega)) | exact aD (RF.trans (by rw [hs])) | refine ⟨⟨_,rfl,?_⟩,?_⟩)))
   ·have g2:aT rows e a=false:=by simpa [pickB,g1] using g2
    rw [g1,g2] at hs;have hs:backN rows a (e + 1)=backN rows a e:=hs;exact rE ⟨_,by omega,e + 1,rfl,by omega,rfl⟩ (bl (by repeat' (first | exact trivial | exact aE rfl | exact aD (nxt ay (by omega)) | exact aD (by rw [hs]) | refine ⟨⟨_,rfl,?_⟩,?_⟩)))
  ·have g1:aT rows a e=false:=sU g1;rw [g1] at hs;have hs:backN rows a (e + 1)=backN rows a e:=hs;exact rE ⟨_,by omega,e + 1,rfl,by omega,rfl⟩ (bl (by repeat' (first | exact trivial | exact aE rfl | exact aD (nxt ay (by omega)) | exact aD (by rw [hs]) | refine ⟨⟨_,rfl,?_⟩,?_⟩)))
 ·have hge:e=rows.length:=by have:=hL;simp [j3] at this;omega
  subst hge;exact (rfl:_=_)
def cU (rows:List Nat):List DV:=rows.map fun (x:Nat)=>DV.v (.int .u64 (x:Int))
theorem qE (rows:List Nat):(cU rows).length=rows.length:=by simp [cU]
theorem Kr {rows:List Nat} {i x:Nat} (h:rows[i]? = some x):(cU rows)[i]? = some (DV.v (.int .u64 (x:Int))):=by simp [cU,h]
theorem Ks (rows:List Nat) (i x:Nat):(cU rows).set i (DV.v (.int .u64 (x:Int)))=cU (rows.set i x):=by simp [cU,List.map_set]
theorem pa (rows:List Nat):(dU rows).flatten=cU rows:=by
 induction rows with
 | nil=>rfl
 | cons x r ih=>simp only [dU,cU,List.map_cons,List.flatten_cons] at ih ⊢;rw [ih];all_goals rfl
theorem FV {n m:Nat} {tk:List TkE}:∀ l:List Nat,WeL n m tk (cU l) (cU l)
 | []=>rfl
 | b :: r=>⟨_,_,rfl,aE rfl,FV r⟩
theorem zd {n m:Nat} {tk:List TkE} {l:List DV} {ds:List Nat} (h:l=cU ds):WeL n m tk l (cU ds):=by rw [h];exact FV ds
def dNP (p:Nat × Nat):List DV:=[.v (.int .i64 (p.1:Int)),.v (.int .i64 (p.2:Int))]
def lk (l:List (Nat × Nat)):List (List DV):=l.map dNP
theorem gj (l:List (Nat × Nat)):(lk l).length=l.length:=by simp [lk]
theorem ue {l:List (Nat × Nat)} {i:Nat} {p:Nat × Nat} (h:l[i]? = some p):(lk l)[i]? = some (dNP p):=by simp [lk,h]
def uf (rows:List Nat) (p:Nat × Nat):List Nat:=rows.set p.1 (rows.getD p.1 0 ||| 2 ^ p.2)
def eE (n:Nat) (l:List (Nat × Nat)):List Nat:=l.foldl uf (List.replicate n 0)
theorem Hj (n:Nat) (l:List (Nat × Nat)) (e:Nat) {p:Nat × Nat} (h:l[e]? = some p):eE n (l.take (e + 1))=uf (eE n (l.take e)) p:=by
 unfold eE;rw [List.take_add_one,h];simp
theorem pe (rows:List Nat) (p:Nat × Nat):(uf rows p).length=rows.length:=by simp [uf]
theorem jx (n:Nat):∀ (l:List (Nat × Nat)),(eE n l).length=n:=by
 intro l
 have:∀ (l:List (Nat × Nat)) (r:List Nat),(l.foldl uf r).length=r.length:=by
  intro l
  induction l with
  | nil=>intro r;rfl
  | cons p l ih=>intro r;rw [List.foldl_cons,ih,pe]
 rw [eE,this];simp
theorem NF {rows:List Nat} {p:Nat × Nat} (h:dG rows) (hp:p.1 < rows.length) (hq:p.2 < 64):dG (uf rows p):=by
 refine ⟨by rw [pe];exact h.1,fun x hx=>?_⟩;rcases List.mem_or_eq_of_mem_set hx with hx | rfl
 ·exact h.2 x hx
 ·refine Nat.or_lt_two_pow (n:=64) ?_ (Nat.pow_lt_pow_right (by decide) hq);rw [ek,gE hp];exact h.2 _ (List.getElem_mem hp)
theorem ze {n:Nat} (hn:n<=64):∀ (l:List (Nat × Nat)),(∀ p∈l,p.1 < n/\p.2 < n)->dG (eE n l):=by
 intro l hl
 have:∀ (l:List (Nat × Nat)) (r:List Nat),r.length=n->dG r->(∀ p∈l,p.1 < n/\p.2 < n)->dG (l.foldl uf r):=by
  intro l
  induction l with
  | nil=>intro r _ h _;exact h
  | cons p l ih=>grind [pe,NF]
 refine this l _ (by simp) ⟨by simp [hn],fun x hx=>?_⟩ hl;rw [List.mem_replicate] at hx;omega
abbrev Kt (n:Nat) (l:List (Nat × Nat)) (rows:List Nat) (e:Nat):St:=
 ⟨[aw 0 n,aF 6 1,bc 19 2 (lk l),aw 20 ((lk l).length),aw 21 e],
  [cU rows,[.ms 0 1 0 n n]],[]⟩
theorem Hk (n:Nat) (hn:n<=64) (l:List (Nat × Nat)) (hl:∀ p∈l,p.1 < n/\p.2 < n) (hb:l.length<=1099511627776) :
  EvP prog 64 [.v (.int .i64 n),.sl 2 (lk l) none] (.tup [lV (eE n l),.v (.bool true)]):=by
 refine eG 60 [.tmp 4,.tmp 5] func64 rfl ntmps64 rfl fun _ _ _ _=>?_;refine br ?_ ?_<;>intro g
 ·exfalso;simp [aq] at g;omega
 refine ⟨⟨rfl,by omega,by omega,by omega⟩,?_⟩
 have h0:(List.replicate (n:Int).toNat [DV.v (.int .u64 0)]).flatten=cU (eE n (l.take 0)):=by
  simp [eE,cU]
 refine lJ (fun e=>Kt n l (eE n (l.take e)) e) l.length (wkB 2 (by repeat' (first | exact rfl | exact aE rfl | exact zd h0 | refine ⟨_,_,rfl,?_,?_⟩)) (by repeat' (first | exact trivial | exact aE rfl | exact zd h0 | refine ⟨⟨_,rfl,?_⟩,?_⟩))) ?_;intro e he;refine br ?_ ?_<;>intro hL
 ·have ay:e < l.length:=by have:=hL;simp [gj] at this;exact this
  obtain ⟨p,hp⟩:=gX ay;obtain ⟨p1,p2⟩:=hl p (mG hp);refine iX (ue hp) ?_;refine ⟨⟨by decide,by decide⟩,?_⟩;refine ⟨⟨by decide,by decide⟩,?_⟩;refine br ?_ ?_<;>intro g
  ·refine ⟨⟨by decide,by decide⟩,?_⟩;refine ⟨⟨by decide,by decide⟩,?_⟩;refine br ?_ ?_<;>intro g2
   ·exfalso;simp [pickB] at g2;omega
   obtain ⟨x,hx⟩:∃ x,(eE n (l.take e))[p.1]? = some x:=⟨_,gE (by rw [jx];exact p1)⟩;have bL:=ze hn (l.take e) (fun q hq=>hl q (List.mem_of_mem_take hq));have FG:=bL.2 x (mG hx);have yF:0 + (p.1:Int).toNat * 1=p.1:=by omega
   refine dS ?_;refine ⟨⟨by decide,by decide⟩,?_⟩;refine ⟨⟨by omega,by omega⟩,?_⟩;refine ⟨_,(by rw [yF];exact Kr hx:(cU (eE n (l.take e)))[0 + (p.1:Int).toNat * 1]? = some _),?_⟩;refine ⟨⟨by decide,by decide⟩,?_⟩;refine ⟨by omega,?_⟩;refine ⟨⟨by omega,by omega⟩,?_⟩;refine ⟨by rw [yF,qE,jx];omega,?_⟩
   have cT:(cU (eE n (l.take e))).set (0 + (p.1:Int).toNat * 1) (DV.v (.int .u64 (IntKind.u64.wrap ((BitVec.ofInt 64 (x:Int) ||| BitVec.ofInt 64 (IntKind.u64.wrap (1 * 2 ^ (min (p.2:Int).toNat 64)))).toNat:Int))))=cU (eE n (l.take (e + 1))):=by
    rw [yF,show ((p.2:Int).toNat)=p.2 by omega,DH (by omega) FG,Ks,Hj n l e hp];simp only [uf];rw [getD_some hx]
   refine ⟨Kt n l (eE n (l.take (e + 1))) (e + 1),(wkB 2 (by repeat' (first | exact rfl | exact aE rfl | exact zd cT | exact aD (nxt ay (by omega)) | refine ⟨_,_,rfl,?_,?_⟩)) (by repeat' (first | exact trivial | exact aE rfl | exact zd cT | exact aD (nxt ay (by omega)) | refine ⟨⟨_,rfl,?_⟩,?_⟩))),l.length - (e + 1),by omega,e + 1,rfl,by omega,rfl⟩
  ·exfalso;simp [pickB] at g;omega
 ·have hge:e=l.length:=by have:=hL;simp [gj] at this;omega
  subst hge;rw [List.take_length];refine ⟨_,?_,rfl⟩;have hlen:=jx n l;generalize eE n l=rows at hlen ⊢;refine ⟨_,rfl,_,_,rfl,.inr ⟨1,_,rfl,Nat.zero_le _,rfl,_,_,rfl,.inr (.inr (.inl ⟨0,0,n,cU rows,by rw [j3,hlen],Nat.zero_le _,rfl,?_,?_,?_⟩)),rfl⟩,_,_,rfl,rfl,rfl⟩
  ·grind [pa,j3,qE]
  ·grind [dU]
  ·grind [pa,cU]
def jy (rows:List Nat) (k:Nat):List Nat:=rows.set k (rows.getD k 0 ||| 2 ^ k)
def nK (k:Nat) (rows:List Nat) (a:Nat):List Nat:=if aT rows a k then rows.set a (rows.getD a 0 ||| rows.getD k 0) else rows
def gk (rows:List Nat) (k e:Nat):List Nat:=(List.range e).foldl (nK k) (jy rows k)
def closeR (rows:List Nat) (e:Nat):List Nat:=(List.range e).foldl (fun r k=>gk r k r.length) rows
theorem Ku {rows:List Nat} {i x:Nat} (h:dG rows) (hx:x < 18446744073709551616):dG (rows.set i x):=by
 refine ⟨by rw [List.length_set];exact h.1,fun y hy=>?_⟩;rcases List.mem_or_eq_of_mem_set hy with hy | rfl
 ·exact h.2 y hy
 ·exact hx
theorem ll {rows:List Nat} (h:dG rows) (i:Nat):rows.getD i 0 < 18446744073709551616:=by
 rw [ek]
 cases hx:rows[i]? with
 | none=>simp
 | some x=>exact h.2 x (mG hx)
theorem Kv {rows:List Nat} {k:Nat} (h:dG rows) (hk:k < 64):dG (jy rows k):=
 Ku h (Nat.or_lt_two_pow (n:=64) (ll h k) (Nat.pow_lt_pow_right (by decide) hk))
theorem Hl (rows:List Nat) (k:Nat):(jy rows k).length=rows.length:=by simp [jy]
theorem Kw {rows:List Nat} {k a:Nat} (h:dG rows):dG (nK k rows a):=by
 unfold nK;split
 ·exact Ku h (Nat.or_lt_two_pow (n:=64) (ll h a) (ll h k))
 ·exact h
theorem Hm (rows:List Nat) (k a:Nat):(nK k rows a).length=rows.length:=by
 unfold nK;split<;>simp
theorem lm (rows:List Nat) (k e:Nat):gk rows k (e + 1)=nK k (gk rows k e) e:=by simp [gk,List.range_succ]
theorem mX (rows:List Nat) (k:Nat):∀ e,(gk rows k e).length=rows.length
 | 0=>by simp [gk,Hl]
 | e + 1=>by rw [lm,Hm,mX]
theorem ug {rows:List Nat} {k:Nat} (h:dG rows) (hk:k < 64):∀ e,dG (gk rows k e)
 | 0=>by simpa [gk] using Kv h hk
 | e + 1=>by rw [lm];exact Kw (ug h hk e)
theorem jO (rows:List Nat) (e:Nat):closeR rows (e + 1)=gk (closeR rows e) e (closeR rows e).length:=by simp [closeR,List.range_succ]
theorem eF (rows:List Nat):∀ e,(closeR rows e).length=rows.length
 | 0=>by simp [closeR]
 | e + 1=>by rw [jO,mX,eF]
theorem kj {rows:List Nat} (h:dG rows):∀ e,e<=64->dG (closeR rows e)
 | 0,_=>by simpa [closeR] using h
 | e + 1,he=>by rw [jO];exact ug (kj h e (by omega)) (by omega) _
def spU (m:Nat):List DV:=(List.replicate m (vL [Value.int .u64 0])).flatten
theorem ui {n m:Nat} {tk:List TkE}:∀ l:List DV,(∀ x∈l,∃ y,x = .v y)->WeL n m tk l l
 | [],_=>rfl
 | b :: r,h=>by
  obtain ⟨y,rfl⟩:=h b (by simp);exact ⟨_,_,rfl,aE rfl,ui r (fun x hx=>h x (by simp [hx]))⟩
theorem eU {n m:Nat} {tk:List TkE} {l:List DV} {ds:List Nat} {k:Nat} (h:l=cU ds ++ spU k):WeL n m tk l (cU ds ++ spU k):=by
 rw [h];refine ui _ fun x hx=>?_;rcases List.mem_append.1 hx with hx | hx
 ·grind [cU]
 ·simp_all [spU,vL]
theorem zf {r:List Nat} {k i x:Nat} (h:r[i]? = some x):(cU r ++ spU k)[0 + (i:Int).toNat * 1]? = some (DV.v (.int .u64 (x:Int))):=by grind [qE,Kr]
theorem Kx {r:List Nat} {k i x:Nat} (h:i < r.length):(cU r ++ spU k).set (0 + (i:Int).toNat * 1) (DV.v (.int .u64 (x:Int)))=cU (r.set i x) ++ spU k:=by grind [qE,Ks]
theorem Ky {r:List Nat} {k i:Nat} (h:i < r.length):0 + (i:Int).toNat * 1 + 1<=(cU r ++ spU k).length:=by
 rw [List.length_append,qE];omega
abbrev clSt (rows:List Nat) (cap:Nat) (r:List Nat) (e:Nat):St:=
 ⟨[aF 3 1,aw 19 ((dU rows).length),aw 20 e],[cU r ++ spU (cap - (dU rows).length),[.ms 0 1 0 (dU rows).length cap]],[]⟩
abbrev VS (rows:List Nat) (cap:Nat) (r:List Nat) (e f:Nat):St:=
 ⟨[aF 3 1,aw 4 e,aw 19 ((dU rows).length),aw 20 e,aw 38 ((dU rows).length),aw 39 f],[cU r ++ spU (cap - (dU rows).length),[.ms 0 1 0 (dU rows).length cap]],[]⟩
theorem oc {l:List Nat} {i:Nat} (h:i < l.length):l[i]? = some (l.getD i 0):=qA h
theorem rF (rows:List Nat) (hr:dG rows) (h0:rows ≠ []):EvP prog 66 [lV rows] (lV (closeR rows rows.length)):=by
 have hr1:=hr.1;have hN:=j3 rows;have wJ:0 < rows.length:=List.length_pos_iff.2 h0;refine yL (s:=false) (bt:=[]) (mu:=[12]) (hbt:=fun p hp=>by cases hp) (fr:=false) (P:=prog) tt AS 5000 72 [.tmp 2] func66 rfl ntmps66 rfl (nL rfl) (fun _ _ _ _=>?_);refine ⟨⟨by intro h;exact h0 (by simpa [dU] using h),by rw [j3];simp [maxLen];omega,by rw [j3];omega⟩,fun cap GN=>?_⟩
 have iy:(dU rows).flatten.append (List.replicate (cap - (dU rows).length) (vL [Value.int .u64 0])).flatten=cU (closeR rows 0) ++ spU (cap - (dU rows).length):=by
  show (dU rows).flatten ++ _=_;rw [pa];rfl
 refine lJ (fun e=>clSt rows cap (closeR rows e) e) rows.length (wkB 2 (nz iy) (cQ iy)) ?_;intro e he;have bL:=kj hr e (by omega);have hlen:=eF rows e;have PO:=jO rows e;generalize VT:closeR rows e=r at bL hlen PO ⊢;refine br ?_ ?_<;>intro hL
 ·have ay:e < rows.length:=by have:=hL;simp [hN] at this;exact this
  have hx:=oc (l:=r) (i:=e) (by omega);have RF:=DH (x:=r.getD e 0) (b:=e) (by omega) (ll bL e);refine dS ?_;refine ⟨⟨by omega,by omega⟩,?_⟩;refine ⟨_,zf hx,?_⟩;refine ⟨by omega,?_⟩;refine ⟨⟨by omega,by omega⟩,?_⟩;refine ⟨Ky (by omega),?_⟩
  have nV:(cU r ++ spU (cap - (dU rows).length)).set (0 + (e:Int).toNat * 1) (DV.v (.int .u64 (IntKind.u64.wrap ((BitVec.ofInt 64 ((r.getD e 0:Nat):Int) ||| BitVec.ofInt 64 (IntKind.u64.wrap (1 * 2 ^ (min (e:Int).toNat 64)))).toNat:Int))))=cU (gk r e 0) ++ spU (cap - (dU rows).length):=by
   rw [show min (e:Int).toNat 64=min e 64 by omega,RF,Kx (by omega)];rfl
  refine lJ (fun f=>VS rows cap (gk r e f) e f) rows.length (wkB 2 (nz nV) (cQ nV)) ?_;intro f hf;have Ym:=ug (k:=e) bL (by omega) f;have ke:=mX r e f;have Yi:=lm r e f;have de:e < (gk r e f).length:=by rw [ke];omega
  refine br ?_ ?_<;>intro hL
  ·have CO:f < rows.length:=by have:=hL;simp [hN] at this;exact this
   have Yo:f < (gk r e f).length:=by rw [ke];omega
   generalize gk r e f=q at Ym ke Yi de Yo ⊢;have hy:=oc Yo;have hz:=oc de;have Kz:=FU (x:=q.getD f 0) (b:=e) (by omega) (ll Ym f);have RF:=NE (ll Ym f) (ll Ym e);refine ⟨⟨by omega,by omega⟩,?_⟩;refine ⟨_,zf hy,?_⟩;refine ⟨by omega,?_⟩;refine br ?_ ?_<;>intro g
   ·have g:aT q f e=true:=Kz.symm.trans g;refine dS ?_;refine ⟨⟨by omega,by omega⟩,?_⟩;refine ⟨_,zf hy,?_⟩;refine ⟨⟨by omega,by omega⟩,?_⟩;refine ⟨_,zf hz,?_⟩;refine ⟨⟨by omega,by omega⟩,?_⟩;refine ⟨Ky Yo,?_⟩
    have lO:(cU q ++ spU (cap - (dU rows).length)).set (0 + (f:Int).toNat * 1) (DV.v (.int .u64 (IntKind.u64.wrap ((BitVec.ofInt 64 ((q.getD f 0:Nat):Int) ||| BitVec.ofInt 64 ((q.getD e 0:Nat):Int)).toNat:Int))))=cU (gk r e (f + 1)) ++ spU (cap - (dU rows).length):=by
     rw [RF,Kx Yo,Yi,nK,ap g]
    exact rE ⟨_,by omega,f + 1,rfl,by omega,rfl⟩ (wkB 2 (wA2 lO (nxt CO (by omega))) (wB2 lO (nxt CO (by omega))))
   ·have g:aT q f e=false:=Kz.symm.trans g
    have lO:cU q ++ spU (cap - (dU rows).length)=cU (gk r e (f + 1)) ++ spU (cap - (dU rows).length):=by
     rw [Yi,nK,ai (by rw [g];decide)]
    exact rE ⟨_,by omega,f + 1,rfl,by omega,rfl⟩ (wkB 2 (wA2 lO (nxt CO (by omega))) (wB2 lO (nxt CO (by omega))))
  ·have hge:f=rows.length:=sW hN hL;subst hge
   have Pb:cU (gk r e rows.length) ++ spU (cap - (dU rows).length)=cU (closeR rows (e + 1)) ++ spU (cap - (dU rows).length):=by
    rw [PO,hlen]
   exact rE ⟨_,by omega,e + 1,rfl,by omega,rfl⟩ (wkB 2 (wA2 Pb (nxt ay (by omega))) (wB2 Pb (nxt ay (by omega))))
 ·have hge:e=rows.length:=sW hN hL;subst hge;refine ⟨_,?_,rfl⟩;rw [VT];refine .inr ⟨1,_,rfl,Nat.zero_le _,rfl,_,_,rfl,.inr (.inr (.inl ⟨0,0,cap,cU r ++ spU (cap - (dU rows).length),by rw [j3 r,hlen,hN],Nat.zero_le _,rfl,?_,?_,?_⟩)),rfl⟩
  ·grind [pa,j3,qE]
  ·grind [dU]
  ·grind [pa,cU]
theorem kk {a b c d:Nat} (ha:a < 256) (hb:b < 256):(a + 256 * c) &&& (b + 256 * d)=(a &&& b) + 256 * (c &&& d):=by
 have h1:a &&& b < 256:=Nat.and_lt_two_pow (n:=8) a hb;apply Nat.eq_of_testBit_eq;intro i
 have e (x y:Nat) (hx:x < 256):(x + 256 * y).testBit i=if i < 8 then x.testBit i else y.testBit (i - 8):=by
  rw [show x + 256 * y=2 ^ 8 * y + x by omega,Nat.testBit_two_pow_mul_add _ (sU hx)]
 grind
def b1 (x:Nat):Nat:=((x / 2) &&& 85) + (x &&& 85)
def b2 (x:Nat):Nat:=((x / 4) &&& 51) + (x &&& 51)
def b3 (x:Nat):Nat:=((x / 16) + x) &&& 15
def pop8 (x:Nat):Nat:=b3 (b2 (b1 x))
theorem FW:∀ x:Fin 256,b1 x.val < 256/\b2 (b1 x.val) < 120/\pop8 x.val<=8/\pop8 x.val=(((((((x.val.testBit 0).toNat + (x.val.testBit 1).toNat) + (x.val.testBit 2).toNat) + (x.val.testBit 3).toNat) + (x.val.testBit 4).toNat) + (x.val.testBit 5).toNat) + (x.val.testBit 6).toNat) + (x.val.testBit 7).toNat:=by decide +kernel
def valB:List Nat->Nat
 | []=>0
 | a :: r=>a + 256 * valB r
def rep (m:Nat):Nat->Nat
 | 0=>0
 | n + 1=>m + 256 * rep m n
theorem m1:∀ (a:Fin 256) (c:Fin 2),(a.val / 2 + 128 * c.val) &&& 85=(a.val / 2) &&& 85:=by decide +kernel
theorem m2:∀ (a:Fin 256) (c:Fin 4),(a.val / 4 + 64 * c.val) &&& 51=(a.val / 4) &&& 51:=by decide +kernel
theorem qu:∀ l:List Nat,(∀ a∈l,a < 256)->((valB l / 2) &&& rep 85 l.length) + (valB l &&& rep 85 l.length)=valB (l.map b1)
 | [],_=>rfl
 | a :: r,h=>by
  have ih:=qu r (fun x hx=>h x (by simp [hx]));have ha:=h a (by simp);have e1:(a + 256 * valB r) / 2=(a / 2 + 128 * (valB r % 2)) + 256 * (valB r / 2):=by omega
  have hm:=m1 ⟨a,ha⟩ ⟨valB r % 2,by omega⟩;simp only at hm;simp only [valB,List.length_cons,rep,List.map_cons,b1];rw [e1,kk (by omega) (by decide),kk ha (by decide),hm,<- ih];omega
theorem GX:∀ l:List Nat,(∀ a∈l,a < 256)->((valB l / 4) &&& rep 51 l.length) + (valB l &&& rep 51 l.length)=valB (l.map b2)
 | [],_=>rfl
 | a :: r,h=>by
  have ih:=GX r (fun x hx=>h x (by simp [hx]));have ha:=h a (by simp);have e1:(a + 256 * valB r) / 4=(a / 4 + 64 * (valB r % 4)) + 256 * (valB r / 4):=by omega
  have hm:=m2 ⟨a,ha⟩ ⟨valB r % 4,by omega⟩;simp only at hm;simp only [valB,List.length_cons,rep,List.map_cons,b2];rw [e1,kk (by omega) (by decide),kk ha (by decide),hm,<- ih];omega
theorem VU (x y:Nat):(x + 16 * y) &&& 15=x &&& 15:=by
 have h (z:Nat):z &&& 15=z % 16:=Nat.and_two_pow_sub_one_eq_mod z 4;rw [h,h];omega
def Bg (a:Nat):Prop:=a < 70/\a % 16<=4
theorem st3:∀ l:List Nat,(∀ a∈l,Bg a)->((valB l / 16) + valB l) &&& rep 15 l.length=valB (l.map b3)
 | [],_=>rfl
 | a :: r,h=>by
  have ih:=st3 r (fun x hx=>h x (by simp [hx]));have ha:=h a (by simp)
  have hc:valB r % 16<=4:=by
   cases r with
   | nil=>simp [valB]
   | cons b s=>
    have:=(h b (by simp)).2;simp only [valB];omega
  unfold Bg at ha;have e1:(a + 256 * valB r) / 16 + (a + 256 * valB r)=((a / 16 + a) + 16 * (valB r % 16)) + 256 * (valB r / 16 + valB r):=by omega
  simp only [valB,List.length_cons,rep,List.map_cons,b3];rw [e1,kk (by omega) (by decide),VU,ih]
def dR (x:Nat):List Nat:=[x % 256,x / 256 % 256,x / 65536 % 256,x / 16777216 % 256,x / 4294967296 % 256,x / 1099511627776 % 256,x / 281474976710656 % 256,x / 72057594037927936 % 256]
theorem DJ {x:Nat} (h:x < 18446744073709551616):valB (dR x)=x:=by
 simp only [dR,valB];omega
theorem Hn (x:Nat):∀ a∈dR x,a < 256:=by
 intro a ha;simp only [dR,List.mem_cons,List.not_mem_nil,or_false] at ha;omega
def DK (x:Nat):Nat:=((dR x).map pop8).sum
theorem Bh:∀ a:Fin 256,b1 a.val < 256/\b2 (b1 a.val) < 70/\b2 (b1 a.val) % 16<=4:=by decide +kernel
theorem zg {x m:Nat} (hx:x < 18446744073709551616) (hm:m < 18446744073709551616) :
  IntKind.u64.wrap ((BitVec.ofInt 64 (x:Int) &&& BitVec.ofInt 64 (m:Int)).toNat:Int)=((x &&& m:Nat):Int):=by
 rw [gR,gR,BitVec.toNat_and,BitVec.toNat_ofNat,BitVec.toNat_ofNat,Nat.mod_eq_of_lt hx,Nat.mod_eq_of_lt hm];have h3:x &&& m < 18446744073709551616:=Nat.and_lt_two_pow (n:=64) x hm;simp only [IntKind.wrap_u64];omega
theorem DL {x:Nat} {k:Int} (hk:k.toNat < 64):(x:Int).fdiv (2 ^ min k.toNat IntKind.u64.bits)=((x / 2 ^ k.toNat:Nat):Int):=by
 rw [show min k.toNat IntKind.u64.bits=k.toNat from Nat.min_eq_left (by show k.toNat<=64;omega),Bf]
theorem zh {y:Nat} (h:y < 18446744073709551616):IntKind.u64.wrap (y:Int)=(y:Int):=by
 simp only [IntKind.wrap_u64];omega
theorem VV {k M:Int} {m x y:Nat} (hk:k.toNat < 64) (hx:x < 18446744073709551616) (hM:M=(m:Int)) (hm:m < 18446744073709551616) (hy:((x / 2 ^ k.toNat) &&& m) + (x &&& m)=y) (lR:y < 18446744073709551616) :
  IntKind.u64.wrap (IntKind.u64.wrap ((BitVec.ofInt IntKind.u64.bits ((x:Int).fdiv (2 ^ min k.toNat IntKind.u64.bits)) &&& BitVec.ofInt IntKind.u64.bits M).toNat:Int) + IntKind.u64.wrap ((BitVec.ofInt IntKind.u64.bits (x:Int) &&& BitVec.ofInt IntKind.u64.bits M).toNat:Int))=(y:Int):=by
 subst hM;have h1:x / 2 ^ k.toNat < 18446744073709551616:=Nat.lt_of_le_of_lt (Nat.div_le_self _ _) hx;have e1:IntKind.u64.wrap ((BitVec.ofInt IntKind.u64.bits ((x / 2 ^ k.toNat:Nat):Int) &&& BitVec.ofInt IntKind.u64.bits (m:Int)).toNat:Int)=_:=zg h1 hm;have e2:IntKind.u64.wrap ((BitVec.ofInt IntKind.u64.bits (x:Int) &&& BitVec.ofInt IntKind.u64.bits (m:Int)).toNat:Int)=_:=zg hx hm;rw [DL hk,e1,e2,<- Int.natCast_add,hy,zh lR]
theorem stgB {k M:Int} {m x y:Nat} (hk:k.toNat < 64) (hs:x / 2 ^ k.toNat + x < 18446744073709551616) (hM:M=(m:Int)) (hm:m < 18446744073709551616) (hy:((x / 2 ^ k.toNat) + x) &&& m=y) :
  IntKind.u64.wrap ((BitVec.ofInt IntKind.u64.bits (IntKind.u64.wrap ((x:Int).fdiv (2 ^ min k.toNat IntKind.u64.bits) + (x:Int))) &&& BitVec.ofInt IntKind.u64.bits M).toNat:Int)=(y:Int):=by
 subst hM;have e2:IntKind.u64.wrap ((BitVec.ofInt IntKind.u64.bits ((x / 2 ^ k.toNat + x:Nat):Int) &&& BitVec.ofInt IntKind.u64.bits (m:Int)).toNat:Int)=_:=zg hs hm;rw [DL hk,<- Int.natCast_add,zh hs,e2,hy]
theorem RG {k:Int} {x:Nat} (hk:k.toNat < 64) (hs:x + x / 2 ^ k.toNat < 18446744073709551616) :
  IntKind.u64.wrap ((x:Int) + (x:Int).fdiv (2 ^ min k.toNat IntKind.u64.bits))=((x + x / 2 ^ k.toNat:Nat):Int):=by
 rw [DL hk,<- Int.natCast_add,zh hs]
theorem FX:∀ l:List Nat,(∀ a∈l,a < 256)->valB l < 256 ^ l.length
 | [],_=>by simp [valB]
 | a :: r,h=>by
  have ih:=FX r (fun x hx=>h x (by simp [hx]));have ha:=h a (by simp)
  grind [valB]
theorem KA {x:Nat} (hx:x < 18446744073709551616):∃ y1 y2 y3:Nat,((x / 2) &&& 6148914691236517205) + (x &&& 6148914691236517205)=y1/\y1 < 18446744073709551616/\((y1 / 4) &&& 3689348814741910323) + (y1 &&& 3689348814741910323)=y2/\y2 / 16 + y2 < 18446744073709551616/\y2 < 18446744073709551616 /\
  ((y2 / 16) + y2) &&& 1085102592571150095=y3/\∃ p0 p1 p2 p3 p4 p5 p6 p7:Nat,y3=valB [p0,p1,p2,p3,p4,p5,p6,p7]/\(p0<=8/\p1<=8/\p2<=8/\p3<=8/\p4<=8/\p5<=8/\p6<=8/\p7<=8)/\DK x=p0 + p1 + p2 + p3 + p4 + p5 + p6 + p7:=by
 have hl:=Hn x;have s1:=qu (dR x) hl;rw [DJ hx] at s1
 have l1:∀ a∈(dR x).map b1,a < 256:=by
  intro a ha;obtain ⟨b,hb,rfl⟩:=List.mem_map.1 ha;exact (Bh ⟨b,hl b hb⟩).1
 have l2:∀ a∈((dR x).map b1).map b2,Bg a:=by
  intro a ha;obtain ⟨c,hc,rfl⟩:=List.mem_map.1 ha;obtain ⟨b,hb,rfl⟩:=List.mem_map.1 hc;exact (Bh ⟨b,hl b hb⟩).2
 have s2:=GX ((dR x).map b1) l1;have s3:=st3 (((dR x).map b1).map b2) l2
 have v1:valB ((dR x).map b1) < 18446744073709551616:=by
  have:=FX _ l1;rw [List.length_map,show (dR x).length=8 from rfl] at this;simpa using this
 rw [show rep 85 (dR x).length=6148914691236517205 from (by decide:rep 85 8=_)] at s1;rw [List.length_map,show rep 51 (dR x).length=3689348814741910323 from (by decide:rep 51 8=_)] at s2;rw [List.length_map,List.length_map,show rep 15 (dR x).length=1085102592571150095 from (by decide:rep 15 8=_)] at s3;refine ⟨_,_,_,s1,v1,s2,?_,?_,s3,_,_,_,_,_,_,_,_,rfl,?_,?_⟩
 ·have:=l2;simp only [dR,List.map_cons,List.map_nil,List.mem_cons,List.not_mem_nil,or_false,forall_eq_or_imp,forall_eq,Bg,valB] at this ⊢;omega
 ·have:=l2;simp only [dR,List.map_cons,List.map_nil,List.mem_cons,List.not_mem_nil,or_false,forall_eq_or_imp,forall_eq,Bg,valB] at this ⊢;omega
 ·have h (b:Nat) (hb:b < 256):=(FW ⟨b,hb⟩).2.2.1;exact ⟨h _ (by omega),h _ (by omega),h _ (by omega),h _ (by omega),h _ (by omega),h _ (by omega),h _ (by omega),h _ (by omega)⟩
 ·simp only [DK,dR,List.map_cons,List.map_nil,List.sum_cons,List.sum_nil,pop8];omega
theorem dr1 {a r:Nat} (h:a < 256):(a + 256 * r) / 256=r:=by omega
theorem dr2 {a b r:Nat} (h:a < 256) (h2:b < 256):(a + 256 * (b + 256 * r)) / 65536=r:=by omega
theorem KB {p0 p1 p2 p3 p4 p5 p6 p7:Nat} (hp:p0<=8/\p1<=8/\p2<=8/\p3<=8/\p4<=8/\p5<=8/\p6<=8/\p7<=8):∃ z1 z2 z3:Nat,
  (p0 + 256 * (p1 + 256 * (p2 + 256 * (p3 + 256 * (p4 + 256 * (p5 + 256 * (p6 + 256 * (p7 + 256 * 0)))))))) + (p0 + 256 * (p1 + 256 * (p2 + 256 * (p3 + 256 * (p4 + 256 * (p5 + 256 * (p6 + 256 * (p7 + 256 * 0)))))))) / 256=z1/\z1 < 18446744073709551616 /\
  z1 + z1 / 65536=z2/\z2 < 18446744073709551616/\z2 + z2 / 4294967296=z3/\z3 < 18446744073709551616/\z3 % 128=p0 + p1 + p2 + p3 + p4 + p5 + p6 + p7:=by
 refine ⟨(p0 + p1) + 256 * ((p1 + p2) + 256 * ((p2 + p3) + 256 * ((p3 + p4) + 256 * ((p4 + p5) + 256 * ((p5 + p6) + 256 * ((p6 + p7) + 256 * p7)))))),
  (p0 + p1 + p2 + p3) + 256 * ((p1 + p2 + p3 + p4) + 256 * ((p2 + p3 + p4 + p5) + 256 * ((p3 + p4 + p5 + p6) + 256 * ((p4 + p5 + p6 + p7) + 256 * ((p5 + p6 + p7) + 256 * ((p6 + p7) + 256 * p7)))))),
  (p0 + p1 + p2 + p3 + p4 + p5 + p6 + p7) + 256 * ((p1 + p2 + p3 + p4 + p5 + p6 + p7) + 256 * ((p2 + p3 + p4 + p5 + p6 + p7) + 256 * ((p3 + p4 + p5 + p6 + p7) + 256 * ((p4 + p5 + p6 + p7) + 256 * ((p5 + p6 + p7) + 256 * ((p6 + p7) + 256 * p7)))))),?_,by omega,?_,by omega,?_,by omega,by omega⟩
 ·rw [dr1 (by omega)];omega
 ·rw [dr2 (by omega) (by omega)];omega
 ·omega
theorem KC {z:Nat} (h:z < 18446744073709551616):IntKind.i64.wrap ((BitVec.ofInt IntKind.i64.bits (IntKind.i64.wrap (z:Int)) &&& BitVec.ofInt IntKind.i64.bits 127).toNat:Int)=((z % 128:Nat):Int):=by
 have e1:BitVec.ofInt 64 (IntKind.i64.wrap (z:Int))=BitVec.ofNat 64 z:=by
  apply BitVec.eq_of_toNat_eq;rw [BitVec.toNat_ofInt,BitVec.toNat_ofNat,IntKind.wrap_i64];omega
 have e2:(BitVec.ofInt 64 (IntKind.i64.wrap (z:Int)) &&& BitVec.ofInt 64 127).toNat=z % 128:=by
  rw [e1,show BitVec.ofInt 64 127=BitVec.ofNat 64 127 by decide,BitVec.toNat_and,BitVec.toNat_ofNat,BitVec.toNat_ofNat,Nat.mod_eq_of_lt h];exact Nat.and_two_pow_sub_one_eq_mod z 7
 have e3:(BitVec.ofInt IntKind.i64.bits (IntKind.i64.wrap (z:Int)) &&& BitVec.ofInt IntKind.i64.bits 127).toNat=z % 128:=e2;rw [e3,IntKind.wrap_i64];omega
theorem Ho (x:Nat) (hx:x < 18446744073709551616):EvP prog 115 [.v (.int .u64 x)] (.v (.int .i64 (DK x:Nat))):=by
 obtain ⟨y1,y2,y3,h1,Te,h2,h2s,Zt,h3,p0,p1,p2,p3,p4,p5,p6,p7,h4,hp,h5⟩:=KA hx;rw [h5];simp only [valB] at h4;refine eG 35 [.tmp 2] func115 rfl ntmps115 rfl fun _ _ _ _=>?_;refine ⟨by decide,?_⟩;refine ⟨by decide,?_⟩;refine ⟨by decide,?_⟩;refine ⟨by decide,?_⟩;refine ⟨by decide,?_⟩;refine ⟨by decide,?_⟩;refine (yM ?_:);rw [VV (k:=1) (M:=6148914691236517205) (by decide) hx rfl (by decide) h1 Te,VV (k:=2) (M:=3689348814741910323) (by decide) Te rfl (by decide) h2 Zt,stgB (k:=4) (M:=1085102592571150095) (by decide) h2s rfl (by decide) h3];obtain ⟨z1,z2,z3,g1,g1b,g2,g2b,g3,g3b,g4⟩:=KB hp;rw [<- h4] at g1;have k1:y3 + y3 / 2 ^ (8:Int).toNat=z1:=g1;rw [RG (k:=8) (by decide) (by rw [k1];exact g1b),k1];have k2:z1 + z1 / 2 ^ (16:Int).toNat=z2:=g2;rw [RG (k:=16) (by decide) (by rw [k2];exact g2b),k2];have k3:z2 + z2 / 2 ^ (32:Int).toNat=z3:=g3;rw [RG (k:=32) (by decide) (by rw [k3];exact g3b),k3,<- g4];exact KC g3b
theorem il (x k i:Nat) (hi:i < 8):(x / 2 ^ (8 * k) % 256).testBit i=x.testBit (8 * k + i):=by
 rw [show (256:Nat)=2 ^ 8 by decide,Nat.testBit_mod_two_pow,decide_eq_true hi,Bool.true_and,Nat.testBit_div_two_pow,Nat.add_comm]
theorem im (x k:Nat):pop8 (x / 2 ^ (8 * k) % 256)=(((((((x.testBit (8 * k + 0)).toNat + (x.testBit (8 * k + 1)).toNat) + (x.testBit (8 * k + 2)).toNat) + (x.testBit (8 * k + 3)).toNat) + (x.testBit (8 * k + 4)).toNat) + (x.testBit (8 * k + 5)).toNat) + (x.testBit (8 * k + 6)).toNat) + (x.testBit (8 * k + 7)).toNat:=by
 have h:=(FW ⟨x / 2 ^ (8 * k) % 256,Nat.mod_lt _ (by decide)⟩).2.2.2;simp only at h;rw [h,il x k 0 (by decide),il x k 1 (by decide),il x k 2 (by decide),il x k 3 (by decide),il x k 4 (by decide),il x k 5 (by decide),il x k 6 (by decide),il x k 7 (by decide)]
def sumB (x:Nat):Nat->Nat
 | 0=>0
 | n + 1=>sumB x n + (x.testBit n).toNat
theorem KD (x:Nat):DK x=sumB x 64:=by
 have h0:=im x 0;have h1:=im x 1;have h2:=im x 2;have h3:=im x 3;have h4:=im x 4;have h5:=im x 5;have h6:=im x 6;have h7:=im x 7;simp only [Nat.mul_zero,Nat.pow_zero,Nat.div_one] at h0;simp only [DK,dR,List.map_cons,List.map_nil,List.sum_cons,List.sum_nil,sumB]
 grind
theorem uj (x:Nat):∀ n,0 < sumB x n↔∃ b,b < n/\x.testBit b=true
 | 0=>by simp [sumB]
 | n + 1=>by
  have ih:=uj x n
  grind [sumB]
theorem Bi (x a:Nat) (ha:x.testBit a=true):∀ n,a < n->(1 < sumB x n↔∃ b,b < n/\b≠a/\x.testBit b=true)
 | 0,h=>by omega
 | n + 1,h=>by
  simp only [sumB];by_cases hn:a=n
  ·grind [uj]
  ·have ih:=Bi x a ha n (by omega)
   grind [uj]
def bg (p:Nat->Bool) (n:Nat):Option Nat:=(List.range n).find? p
theorem bZ {p:Nat->Bool} {n e:Nat} (he:e < n) (hp:p e=true) (h:∀ a,a < e->p a=false):bg p n=some e:=by simp_all [bg]
theorem b9 {p:Nat->Bool} {n:Nat} (h:∀ a,a < n->p a=false):bg p n=none:=by grind [bg]
theorem cx {p:Nat->Bool} {n e:Nat} (h:bg p n=some e):e < n/\p e=true/\∀ a,a < e->p a=false:=by simp_all [bg]
def pf (c:List Nat) (a:Nat):Bool:=decide (1 < DK (backN c a c.length))
def KF:Option Nat->DV
 | some a=>.tup [.v (.int .i64 (a:Int)),.v (.bool true)]
 | none=>.tup [.v (.int .i64 0),.v (.bool false)]
abbrev NG (c:List Nat) (e:Nat):St:=
 ⟨[(4,⟨[],lV c⟩),aw 9 c.length,aw 10 e],[],[]⟩
theorem DM (rows:List Nat) (hr:dG rows) (h0:rows ≠ []):EvP prog 65 [lV rows] (KF (bg (pf (closeR rows rows.length)) rows.length)):=by
 have hc:=rF rows hr h0;have bL:=kj hr rows.length hr.1;have hlen:=eF rows rows.length;have hr1:=hr.1;generalize closeR rows rows.length=c at hc bL hlen ⊢;rw [<- hlen];have hl:=xx c;refine eG 20 [.tmp 2,.tmp 3] func65 rfl ntmps65 rfl fun _ _ _ _=>?_;refine cP UC hc ?_;refine cP JJ hl ?_;refine lI (fun j st=>∃ e:Nat,st=NG c e/\e<=c.length/\(∀ a,a < e->pf c a=false)/\j=c.length - e) ⟨0,rfl,by omega,fun a h=>by omega,rfl⟩ (bl wB) ?_;rintro j st ⟨e,rfl,he,fM,rfl⟩;refine br ?_ ?_<;>intro hL
 ·have ay:e < c.length:=by have:=hL;simp at this;exact this
  have RE:backN c e c.length < 18446744073709551616:=by
   have h1:=uc c e c.length;have:2 ^ c.length<=2 ^ 64:=Nat.pow_le_pow_right (by decide) (by omega);omega
  refine cP UT (DI c bL e ay) ?_;refine cP US (Ho _ RE) ?_;refine br ?_ ?_<;>intro g
  ·have g:pf c e=true:=by
    simp at g;simp [pf];omega
   rw [bZ ay g fM];refine ⟨_,?_,rfl⟩;exact ax
  ·have g:pf c e=false:=by
    simp at g;simp [pf];omega
   exact rE ⟨_,by omega,e + 1,rfl,by omega,fun a ha=>by
    rcases jU ha with ha | rfl
    ·exact fM a ha
    ·exact g,rfl⟩ (bl (cQ (nxt ay (by omega))))
 ·have hge:e=c.length:=by have:=hL;simp at this;omega
  subst hge;rw [b9 fM];refine ⟨_,?_,rfl⟩;exact ax
theorem um {rows:List Nat} {i x a b:Nat} (hi:i < rows.length):aT (rows.set i x) a b=if a=i then x.testBit b else aT rows a b:=by grind [aT]
theorem mY {rows:List Nat} {k a b:Nat} (hk:k < rows.length):aT (jy rows k) a b=(aT rows a b || (decide (a=k) && decide (b=k))):=by
 unfold jy;rw [um hk];by_cases h:a=k
 ·subst h;rw [ap rfl,jw];simp only [decide_true,Bool.true_and];rw [show decide (a=b)=decide (b=a) from by simp only [eq_comm]];rfl
 ·rw [ai h];simp [h]
theorem Hp {rows:List Nat} {k i a b:Nat} (hi:i < rows.length):aT (nK k rows i) a b=(aT rows a b || (decide (a=i) && (aT rows a k && aT rows k b))):=by grind [nK,aT,um]
theorem xy {rows:List Nat} {k:Nat} (hk:k < rows.length):∀ e,e<=rows.length->∀ a b,aT (gk rows k e) a b=(aT (jy rows k) a b || (decide (a < e) && (aT (jy rows k) a k && aT (jy rows k) k b)))
 | 0,_,a,b=>by simp [gk]
 | e + 1,he,a,b=>by
  have ih:=xy hk e (by omega)
  grind [lm,Hp,mX,aT,jy,mY]
inductive sF (p:Nat->Nat->Prop):Nat->Nat->Prop
 | refl (a:Nat):sF p a a
 | step {a b c:Nat}:sF p a b->p b c->sF p a c
theorem sF.trans {p:Nat->Nat->Prop} {a b c:Nat} (h1:sF p a b) (h2:sF p b c):sF p a c:=by
 induction h2 with
 | refl=>exact h1
 | step _ h ih=>exact .step ih h
theorem sF.mono {p q:Nat->Nat->Prop} (h:∀ a b,p a b->sF q a b) {a b:Nat} (h1:sF p a b):sF q a b:=by
 induction h1 with
 | refl=>exact .refl _
 | step _ h2 ih=>exact ih.trans (h _ _ h2)
def wayQ (p:Nat->Nat->Prop):Nat->Nat->Nat->Prop
 | 0,a,b=>a=b∨p a b
 | k + 1,a,b=>wayQ p k a b∨(wayQ p k a k/\wayQ p k k b)
theorem xz {p:Nat->Nat->Prop} (a:Nat):∀ k,wayQ p k a a
 | 0=>.inl rfl
 | k + 1=>.inl (xz a k)
theorem xA {p:Nat->Nat->Prop} {a b:Nat} (h:p a b):∀ k,wayQ p k a b
 | 0=>.inr h
 | k + 1=>.inl (xA h k)
theorem pg {p:Nat->Nat->Prop}:∀ k a b,wayQ p k a b->sF p a b
 | 0,a,b,h=>by
  rcases h with rfl | h
  ·exact .refl _
  ·exact .step (.refl _) h
 | k + 1,a,b,h=>by
  rcases h with h | ⟨h1,h2⟩
  ·exact pg k a b h
  ·exact (pg k a k h1).trans (pg k k b h2)
theorem ln {p:Nat->Nat->Prop}:∀ k a m b,m < k->wayQ p k a m->wayQ p k m b->wayQ p k a b
 | 0,_,_,_,h,_,_=>by omega
 | k + 1,a,m,b,hm,h1,h2=>by
  by_cases Ti:m=k
  ·grind [wayQ]
  ·have r8:m < k:=by omega
   rcases h1 with h1 | ⟨h1,h3⟩
   ·rcases h2 with h2 | ⟨h2,h4⟩
    ·exact .inl (ln k a m b r8 h1 h2)
    ·exact .inr ⟨ln k a m k r8 h1 h2,h4⟩
   ·rcases h2 with h2 | ⟨h2,h4⟩
    ·exact .inr ⟨h1,ln k k m b r8 h3 h2⟩
    ·exact .inr ⟨h1,h4⟩
theorem uo {rows:List Nat}:∀ k,k<=rows.length->∀ a b,a < rows.length->((aT (closeR rows k) a b=true∨a=b)↔wayQ (fun x y=>aT rows x y=true) k a b)/\(a < k->aT (closeR rows k) a a=true)
 | 0,_,a,b,_=>by grind [closeR,wayQ]
 | k + 1,hk,a,b,ha=>by
  have ih:=uo (rows:=rows) k (by omega);have oD:k < (closeR rows k).length:=by rw [eF];omega
  have hb:∀ a b,a < rows.length->aT (closeR rows (k + 1)) a b=(aT (jy (closeR rows k) k) a b || (aT (jy (closeR rows k) k) a k && aT (jy (closeR rows k) k) k b)):=fun a b ha=>by grind [jO,xy,eF]
  have hself:∀ a b,(aT (jy (closeR rows k) k) a b=true∨a=b)↔(aT (closeR rows k) a b=true∨a=b):=fun a b=>by grind [mY]
  have vS:aT (jy (closeR rows k) k) k k=true:=by rw [mY oD];simp
  have key:∀ a b,a < rows.length->((aT (closeR rows (k + 1)) a b=true∨a=b)↔wayQ (fun x y=>aT rows x y=true) (k + 1) a b):=fun a b ha=>by grind [wayQ]
  refine ⟨key a b ha,fun hak=>?_⟩;rw [hb a a ha];by_cases h:a=k
  ·subst h;rw [vS];all_goals rfl
  ·have:=(ih a a ha).2 (by omega);rw [mY oD,this];all_goals rfl
theorem DN {rows:List Nat} (hb:∀ a b,a < rows.length->aT rows a b=true->b < rows.length) {a b:Nat} (ha:a < rows.length) (hbl:b < rows.length):aT (closeR rows rows.length) a b=true↔sF (fun x y=>x < rows.length/\aT rows x y=true) a b:=by
 have hw:=uo (rows:=rows) rows.length (aU _) a b ha;have h1:aT (closeR rows rows.length) a b=true↔wayQ (fun x y=>aT rows x y=true) rows.length a b:=by grind
 rw [h1];constructor
 ·intro h
  have ay:∀ {x},sF (fun x y=>aT rows x y=true) a x->sF (fun x y=>x < rows.length/\aT rows x y=true) a x/\x < rows.length:=by
   intro x hx
   induction hx with
   | refl=>exact ⟨.refl _,ha⟩
   | step _ h2 ih=>exact ⟨.step ih.1 ⟨ih.2,h2⟩,hb _ _ ih.2 h2⟩
  exact (ay (pg _ _ _ h)).1
 ·intro h
  have:wayQ (fun x y=>aT rows x y=true) rows.length a b/\b < rows.length:=by
   clear h1 hw hbl
   induction h with
   | refl=>exact ⟨xz _ _,ha⟩
   | step _ h2 ih=>exact ⟨ln _ _ _ _ ih.2 ih.1 (xA h2.2 _),hb _ _ h2.1 h2.2⟩
  exact this.1
theorem KG {rows:List Nat} {p:Nat × Nat} {a b:Nat} (hp:p.1 < rows.length):aT (uf rows p) a b=(aT rows a b || (decide (a=p.1) && decide (b=p.2))):=by
 unfold uf;rw [um hp];by_cases h:a=p.1
 ·subst h;rw [ap rfl,jw];simp only [decide_true,Bool.true_and];rw [show decide (p.2=b)=decide (b=p.2) from by simp only [eq_comm]];rfl
 ·rw [ai h];simp [h]
theorem xB:∀ (l:List (Nat × Nat)) (rows:List Nat) (a b:Nat),(∀ p∈l,p.1 < rows.length)->(aT (l.foldl uf rows) a b=true↔aT rows a b=true∨(a,b)∈l)
 | [],_,_,_,_=>by simp
 | p :: l,rows,a,b,h=>by
  rw [List.foldl_cons,xB l _ a b (fun q hq=>by rw [pe];exact h q (by simp [hq])),KG (h p (by simp))]
  grind
theorem uq {n:Nat} {l:List (Nat × Nat)} (h:∀ p∈l,p.1 < n) (a b:Nat):aT (eE n l) a b=true↔(a,b)∈l:=by grind [eE,xB,aT]
def dY (n:Nat) (l:List (Nat × Nat)) (a b:Nat):Bool:=aT (closeR (eE n l) n) a b
def qF (n:Nat) (l:List (Nat × Nat)):Prop:=∀ p∈l,p.1 < n/\p.2 < n
theorem ml {n:Nat} {l:List (Nat × Nat)} (h:qF n l) {a b:Nat} (ha:a < n) (hb:b < n):dY n l a b=true↔sF (fun x y=>(x,y)∈l) a b:=by
 have hlen:(eE n l).length=n:=jx n l;unfold dY
 have:=DN (rows:=eE n l) (fun a b _ Kz=>by
  rw [uq (fun p hp=>(h p hp).1)] at Kz
  rw [hlen];exact (h _ Kz).2) (a:=a) (b:=b) (by omega) (by omega)
 rw [hlen] at this;rw [this];constructor
 ·exact sF.mono fun x y GZ=>.step (.refl _) ((uq (fun p hp=>(h p hp).1) x y).1 GZ.2)
 ·exact sF.mono fun x y GZ=>.step (.refl _) ⟨(h _ GZ).1,(uq (fun p hp=>(h p hp).1) x y).2 GZ⟩
theorem qG {n:Nat} {l:List (Nat × Nat)} (h:qF n l) {a:Nat} (ha:a < n):dY n l a a=true:=(ml h ha ha).2 (.refl _)
theorem DO {n:Nat} {l:List (Nat × Nat)} (h:qF n l) {a b c:Nat} (ha:a < n) (hb:b < n) (hc:c < n) (h1:dY n l a b=true) (h2:dY n l b c=true):dY n l a c=true:=
 (ml h ha hc).2 (((ml h ha hb).1 h1).trans ((ml h hb hc).1 h2))
def jP (n:Nat) (f:Nat->Nat->Bool) (a:Nat):Bool:=(List.range n).any fun b=>decide (a≠b) && (f a b && f b a)
theorem KH {n:Nat} {l:List (Nat × Nat)} (hn:n<=64) (h:qF n l) {a:Nat} (ha:a < n):pf (closeR (eE n l) n) a=jP n (dY n l) a:=by
 have hlen:(closeR (eE n l) n).length=n:=by rw [eF,jx]
 unfold pf jP;rw [KD,hlen,Bool.eq_iff_iff,decide_eq_true_eq]
 have haa:(backN (closeR (eE n l) n) a n).testBit a=true:=by
  rw [qD];have:aT (closeR (eE n l) n) a a=true:=qG h ha;simp [ha,this]
 rw [Bi _ a haa 64 (by omega)];simp only [List.any_eq_true,List.mem_range,aS,decide_eq_true_eq,qD];constructor
 ·rintro ⟨b,_,bq,hb,h1,h2⟩;exact ⟨b,hb,fun e=>bq e.symm,h1,h2⟩
 ·rintro ⟨b,hb,bq,h1,h2⟩;exact ⟨b,by omega,fun e=>bq e.symm,hb,h1,h2⟩
theorem zi {p q:Nat->Bool} {n:Nat} (h:∀ a,a < n->p a=q a):bg p n=bg q n:=by
 unfold bg
 have:∀ (l:List Nat),(∀ a∈l,p a=q a)->l.find? p=l.find? q:=by
  intro l
  induction l with
  | nil=>intro _;rfl
  | cons x r ih=>grind
 grind
theorem NH {n:Nat} {l:List (Nat × Nat)} (hn:n<=64) (h:qF n l):bg (pf (closeR (eE n l) n)) n=bg (jP n (dY n l)) n:=
 zi fun _ ha=>KH hn h ha
def gl (r:List Bool) (p:Nat × Nat):List Bool:=if r.getD p.1 false then r.set p.2 true else r
def gT (l:List (Nat × Nat)) (r:List Bool):List Bool:=l.foldl gl r
def cq (l:List (Nat × Nat)) (r:List Bool) (k:Nat):List Bool:=(List.range k).foldl (fun r _=>gT l r) r
def sg (n:Nat) (l:List (Nat × Nat)) (a:Nat):List Bool:=cq l ((List.replicate n false).set a true) n
theorem dT (l:List (Nat × Nat)) (r:List Bool) (k:Nat):cq l r (k + 1)=gT l (cq l r k):=by simp [cq,List.range_succ]
theorem km (r:List Bool) (p:Nat × Nat):(gl r p).length=r.length:=by unfold gl;split<;>simp
theorem od (l:List (Nat × Nat)):∀ r,(gT l r).length=r.length:=by
 induction l with
 | nil=>intro r;rfl
 | cons p l ih=>intro r;simp only [gT,List.foldl_cons] at ih ⊢;rw [ih,km]
theorem eH (l:List (Nat × Nat)) (r:List Bool):∀ k,(cq l r k).length=r.length
 | 0=>by simp [cq]
 | k + 1=>by rw [dT,od,eH]
theorem ph (n:Nat) (l:List (Nat × Nat)) (a:Nat):(sg n l a).length=n:=by simp [sg,eH]
def NI (r s:List Bool):Prop:=∀ i:Nat,r.getD i false=true->s.getD i false=true
theorem jz {r:List Bool} {i j:Nat} (hi:i < r.length):(r.set i true).getD j false=(decide (j=i) || r.getD j false):=by grind
theorem Bj {r:List Bool} {p:Nat × Nat} (hp:p.2 < r.length):NI r (gl r p):=by
 intro i hi
 grind [gl,jz]
theorem mZ:∀ {l:List (Nat × Nat)} {r:List Bool},(∀ p∈l,p.2 < r.length)->NI r (gT l r)
 | [],r,_,i,hi=>hi
 | p :: l,r,h,i,hi=>by
  have:NI (gl r p) (gT l (gl r p)):=mZ fun q hq=>by rw [km];exact h q (by simp [hq])
  exact this i (Bj (h p (by simp)) i hi)
def ur (r:List Bool):Nat:=r.countP (fun x=>x)
theorem FY (r:List Bool):ur r<=r.length:=List.countP_le_length
theorem uu:∀ {r s:List Bool},r.length=s.length->NI r s->(r=s∨ur r < ur s)/\ur r<=ur s
 | [],[],_,_=>⟨.inl rfl,aU _⟩
 | x :: r,y :: s,hl,h=>by
  have Af:r.length=s.length:=sU hl;have ih:=uu Af (fun i hi=>by simpa using h (i + 1) (sU hi));have h0:x=true->y=true:=fun hx=>by simpa using h 0 (sU hx)
  grind [ur]
 | [],_ :: _,h,_=>by simp at h
 | _ :: _,[],h,_=>by simp at h
theorem Bl {r s:List Bool} (hl:r.length=s.length) (h1:NI r s) (h2:NI s r):r=s:=by
 rcases (uu hl h1).1 with h | h
 ·exact h
 ·have:=(uu hl.symm h2).2;omega
theorem uv:∀ {l:List (Nat × Nat)} {r:List Bool},(∀ p∈l,p.2 < r.length)->gT l r=r->∀ p∈l,r.getD p.1 false=true->r.getD p.2 false=true
 | [],_,_,_,p,hp,_=>by cases hp
 | q :: l,r,h,he,p,hp,h1=>by
  have hq:=h q (by simp);have hl:∀ p∈l,p.2 < (gl r q).length:=fun p hp=>by rw [km];exact h p (by simp [hp])
  have hs:gl r q=r:=by
   have h2:NI (gl r q) r:=by
    have:=mZ hl
    grind [gT,gl]
   grind [Bl,km,Bj]
  rcases cg hp with rfl | hp
  ·grind [gl,jz]
  ·have QZ:gT l r=r:=by grind [gT,gl]
   exact uv (fun p hp=>h p (by simp [hp])) QZ p hp h1
theorem rG {l:List (Nat × Nat)} {r:List Bool} (h:∀ p∈l,p.2 < r.length):∀ k,gT l (cq l r k)=cq l r k∨ur r + k<=ur (cq l r k)
 | 0=>.inr (by simp [cq])
 | k + 1=>by
  have hk:∀ p∈l,p.2 < (cq l r k).length:=fun p hp=>by rw [eH];exact h p hp
  rcases rG h k with h1 | h1
  ·left;rw [dT,h1,h1]
  ·rcases (uu (od l _).symm (mZ hk)).1 with h2 | h2
   ·left;rw [dT,<- h2,<- h2]
   ·right;rw [dT];omega
theorem Hq {l:List (Nat × Nat)} {a:Nat} {r:List Bool} {p:Nat × Nat} (hp:p∈l) (hl:p.2 < r.length) (h:∀ i,r.getD i false=true->sF (fun x y=>(x,y)∈l) a i):∀ i,(gl r p).getD i false=true->sF (fun x y=>(x,y)∈l) a i:=by
 intro i hi;unfold gl at hi;split at hi
 ·rename_i h1;rw [jz hl] at hi;simp only [Bool.or_eq_true,decide_eq_true_eq] at hi;rcases hi with rfl | hi
  ·exact .step (h _ h1) hp
  ·exact h i hi
 ·exact h i hi
theorem uw {l:List (Nat × Nat)} {a:Nat}:∀ (m:List (Nat × Nat)) {r:List Bool},(∀ p∈m,p∈l/\p.2 < r.length)->(∀ i,r.getD i false=true->sF (fun x y=>(x,y)∈l) a i)->∀ i,(gT m r).getD i false=true->sF (fun x y=>(x,y)∈l) a i
 | [],_,_,h=>h
 | p :: m,r,hm,h=>uw m (r:=gl r p) (fun q hq=>by rw [km];exact hm q (by simp [hq])) (Hq (hm p (by simp)).1 (hm p (by simp)).2 h)
theorem rH {l:List (Nat × Nat)} {a:Nat} {r:List Bool} (hl:∀ p∈l,p.2 < r.length) (h:∀ i,r.getD i false=true->sF (fun x y=>(x,y)∈l) a i):∀ k i,(cq l r k).getD i false=true->sF (fun x y=>(x,y)∈l) a i
 | 0=>by simpa [cq] using h
 | k + 1=>by
  rw [dT];exact uw l (fun p hp=>⟨hp,by rw [eH];exact hl p hp⟩) (rH hl h k)
theorem ux {l:List (Nat × Nat)} {r:List Bool} (hl:∀ p∈l,p.2 < r.length):∀ k,NI r (cq l r k)
 | 0=>by intro i hi;simpa [cq] using hi
 | k + 1=>fun i hi=>by
  rw [dT];exact mZ (fun p hp=>by rw [eH];exact hl p hp) i (ux hl k i hi)
theorem KI {n a:Nat} (ha:a < n):1<=ur ((List.replicate n false).set a true):=by grind [ur]
theorem KJ {n:Nat} {l:List (Nat × Nat)} (h:qF n l) {a b:Nat} (ha:a < n) (hb:b < n):(sg n l a).getD b false=dY n l a b:=by
 have hl:∀ p∈l,p.2 < ((List.replicate n false).set a true).length:=fun p hp=>by simp;exact (h p hp).2
 have v8:a < (List.replicate n false).length:=by simp [ha]
 rw [Bool.eq_iff_iff,ml h ha hb];constructor
 ·refine rH hl (fun i hi=>?_) n b;rw [jz v8] at hi;simp only [Bool.or_eq_true,decide_eq_true_eq] at hi;rcases hi with rfl | hi
  ·exact .refl _
  all_goals grind
 ·have hfix:gT l (sg n l a)=sg n l a:=by
   rcases rG hl n with h1 | h1
   ·exact h1
   ·grind [FY,cq,eH,KI]
  have j9:=uv (fun p hp=>by rw [ph];exact (h p hp).2) hfix;intro hr;have haa:(sg n l a).getD a false=true:=ux hl n a (by rw [jz v8];simp);clear hb
  induction hr with
  | refl=>exact haa
  | step _ h2 ih=>exact j9 _ h2 ih
def dz (n:Nat) (f:Nat->Nat->Bool):List (List Bool):=(List.range n).map fun a=>(List.range n).map (f a)
theorem NJ {n:Nat} {l:List (Nat × Nat)} (h:qF n l) {a:Nat} (ha:a < n):sg n l a=(List.range n).map (dY n l a):=by
 refine List.ext_getElem? fun i=>?_;by_cases hi:i < n
 ·have:=KJ h ha hi
  grind [ph]
 ·grind [ph]
theorem Bm {n:Nat} {f:Nat->Nat->Bool} {a:Nat} (ha:a < n):(dz n f)[a]? = some ((List.range n).map (f a)):=by
 simp [dz,List.getElem?_range ha]
theorem Hr {l:List Wd} {i:Nat} {x:Wd} (h:l[i]? = some x):aA (l.take (i + 1))=aA (l.take i) ++ [x.s]:=by
 rw [List.take_add_one,h];simp [aA]
theorem NK (l:List Wd) (s:ByteArray):bX l s=true↔s∈aA l:=by grind [bX,aA]
theorem lp {l:List Wd} {i:Nat} {x:Wd} (h:l[i]? = some x) (hn:(aA (l.take i)).Nodup):(aA (l.take (i + 1))).Nodup↔bX (l.take i) x.s=false:=by grind [Hr,bX,NK]
theorem xC {l:List Wd} {i:Nat} {x:Wd} (a:Int) (h:l[i]? = some x) (hn:(aA (l.take i)).Nodup) :
  gf (aA (l.take (i + 1))) x.s a=if aG l i x≠0 then (aG l i x,a) else (0,0):=by
 have hs:=lp h hn;unfold gf aG;by_cases h1:aZ x.s=true
 ·grind
 ·rw [ai h1,ai h1];all_goals rfl
theorem lr {l:List Wd} {i:Nat} {x:Wd} (h:l[i]? = some x) (hn:(aA (l.take i)).Nodup) (hz:aG l i x=0):(aA (l.take (i + 1))).Nodup:=by grind [lp,aG,aZ,bX]
theorem xD (l:List Wd):∀ (d e:Nat),e + d=l.length->(enumP l e)=(0,0)->(aA (l.take e)).Nodup->enumP l l.length=enumL l e (l.drop e)
 | 0,e,hd,hz,hn=>by
  have:e=l.length:=by omega
  subst this;rw [hz,List.drop_length];all_goals rfl
 | d + 1,e,hd,hz,hn=>by
  obtain ⟨x,hx⟩:∃ x,l[e]? = some x:=⟨_,gE (by omega)⟩;have h1:=tZ (by rw [hz]) hx;rw [xC x.a hx hn] at h1;rw [drop_cons hx];simp only [enumL];by_cases hf:aG l e x≠0
  ·rw [ap hf] at h1 ⊢;have bh:=n9 (l:=l) (e:=e + 1) (by rw [h1];exact hf) d
   grind
  ·rw [ai hf] at h1 ⊢;exact xD l d (e + 1) (by omega) h1 (lr hx hn (sU hf))
theorem KK (h:Hd):mi h=gM h:=by
 unfold mi gM;by_cases h0:h.af=[]
 ·rw [ap h0,ap (by simp [h0])]
 ·rw [ai h0,ai (sU h0)];by_cases h1:64 < h.af.length
  ·rw [ap h1,ap h1]
  ·rw [ai h1,ai h1];have:=xD h.af h.af.length 0 (by omega) rfl (by simp [aA]);simpa using this
def oe (p:Ph):Ph:=⟨p.name,true,[],0,0,0,0,[]⟩
theorem NL (p:Ph) (t:Ty):cE p t (oe p) cd=(bW p iD && sameTy t cd):=by grind [bW,oe,iD,cE]
theorem empty_eq (p:Ph):cE p cd eB cd=(decide (p.name.s=au) && bW p eB):=by
 have e:sameTy cd cd=true:=by simp [cd,JZ,sameTy,j2,samePts,sameWds]
 simp only [cE,e,Bool.and_true];rfl
def cy (L:List ByteArray) (s:ByteArray):Option Nat:=bg (fun i=>decide (L[i]? = some s)) L.length
theorem cF {L:List ByteArray} {s:ByteArray} {p:Nat} (h:cy L s=some p):p < L.length/\L[p]? = some s/\∀ j,L[j]? = some s->p<=j:=by
 obtain ⟨h1,h2,h3⟩:=cx h
 grind
theorem zj {L:List ByteArray} {s:ByteArray} {p:Nat} (h1:L[p]? = some s) (h2:∀ j,L[j]? = some s->p<=j):cy L s=some p:=by
 refine bZ (gS h1).1 (sU h1) fun a ha=>?_
 grind
theorem qH {L:List ByteArray} {s:ByteArray} (h:∀ j:Nat,L[j]? ≠ some s):cy L s=none:=b9 fun a _=>by simpa using h a
theorem wb {L:List ByteArray} {s:ByteArray}:cy L s=none↔s ∉ L:=by
 constructor
 ·intro h hm;obtain ⟨j,hj⟩:=List.mem_iff_getElem?.1 hm
  grind [cy,bg]
 ·grind [qH]
theorem gU (L:List ByteArray) (aH:List Nat) (s:ByteArray) (hT:gw L aH) (hl:aH.length<=1099511627776) :
  EvP prog 72 [.pt (cw L aH) 0,.v (.string s)] (KF (cy L s)):=by
 by_cases hm:s∈L
 ·obtain ⟨j,hj⟩:=List.mem_iff_getElem?.1 hm;obtain ⟨q,p,hq,hp⟩:=hT.all j s hj;rw [zj hp fun j' iV=>hT.fst q p j' s hq hp iV];exact find_spec L aH s q p hT hl hq hp
 rw [qH fun j hj=>hm (mG hj)]
 let pr:Nat->Prop:=fun i=>i=aH.length∨∃ p t,aH[i]? = some p/\L[p]? = some t/\yW t s=false
 obtain ⟨m,iI,yG⟩:=least (p:=pr) ⟨aH.length,.inl rfl⟩;have hmn:m<=aH.length:=yG _ (.inl rfl);refine eG 47 [.tmp 4,.tmp 5] func72 rfl ntmps72 rfl fun _ _ _ _=>?_
 have j9:∀ i:Nat,i < aH.length->EvP prog 125 [.v (.int .i64 i),.pt [.pt (cw L aH) 0] 0,.pt [.v (.string s)] 0] (.v (.bool (decide (m<=i)))):=by
  intro i hi;obtain ⟨p',vZ⟩:∃ p',aH[i]? = some p':=⟨_,gE hi⟩;obtain ⟨t,ht⟩:∃ t,L[p']? = some t:=⟨_,gE (hT.lt i p' vZ)⟩;have:=tN L aH s i p' t vZ ht
  have e:(!yW t s)=decide (m<=i):=by
   by_cases h:m<=i
   ·have:yW t s=false:=by
     rcases iI with iI | ⟨p,u,h1,h2,h3⟩
     ·omega
     ·rcases Nat.lt_or_eq_of_le h with h4 | h4
      ·have h5:=hT.Z0 m i p p' u t h4 h1 vZ h2 ht;cases h6:yW t s
       ·rfl
       ·grind [fy,yW]
      ·grind
    simp [this,h]
   ·grind
  rw [e] at this;exact this
 have hS:=rz 125 Pk [.pt [.pt (cw L aH) 0] 0,.pt [.v (.string s)] 0] aH.length m hl hmn ax rfl j9;refine yR Pj hS (pZ (bo aH)) rfl ?_;refine dI ?_;refine br ?_ ?_<;>intro h
 ·have ay:m < aH.length:=by grind [dInts,bo]
  rcases iI with iI | ⟨p,t,h1,h2,h3⟩
  ·omega
  refine iX (dF h1) ?_;refine iX (fx h2) ?_;refine br ?_ ?_<;>intro h4
  ·exact ⟨_,ax,rfl⟩
  ·grind [aq]
 ·exact ⟨_,ax,rfl⟩
def fh (l:List Wd) (o:List (Wd × Wd)):Ft:=
 if l=[] then (15,0)
 else if 32 < l.length then (8,((l[32]?).getD (⟨au,0⟩:Wd)).a)
 else if 256 < o.length then (8,((o[256]?).getD ((⟨au,0⟩,⟨au,0⟩):Wd × Wd)).1.a)
 else (0,0)
theorem Hs (l:List Wd) (o:List (Wd × Wd)):EvP prog 60 [.sl 2 (bw l) none,.sl 4 (lU o) none] (fh l o).d:=by
 refine eG 30 [.cell 4 44] func60 rfl ntmps60 rfl fun _ _ _ _=>?_;refine br ?_ ?_<;>intro h
 ·have h:l=[]:=by simpa [az] using h
  refine ⟨_,?_,rfl⟩;rw [fh,ap h];exact ax
 have h:¬ l=[]:=by simpa [az] using h
 refine br ?_ ?_<;>intro h1
 ·have h1:32 < l.length:=by simp [az] at h1;omega
  obtain ⟨x,hx⟩:∃ x,l[32]? = some x:=⟨_,gE h1⟩;refine ⟨jt x,⟨by omega,aR hx⟩,?_⟩;refine ⟨_,?_,rfl⟩;rw [fh,ai h,ap h1,hx];exact ax
 have h1:¬ 32 < l.length:=by simp [az] at h1;omega
 refine br ?_ ?_<;>intro h2
 ·have h2:256 < o.length:=by simp [fg] at h2;omega
  obtain ⟨x,hx⟩:∃ x,o[256]? = some x:=⟨_,gE h2⟩;refine ⟨IP x,⟨by omega,gh hx⟩,?_⟩;refine ⟨_,?_,rfl⟩;rw [fh,ai h,ai h1,ap h2,hx];exact ax
 have h2:¬ 256 < o.length:=by simp [fg] at h2;omega
 refine ⟨_,?_,rfl⟩;rw [fh,ai h,ai h1,ai h2];exact ax
def VW (f:Ft) (L:List ByteArray):DV:=.tup [if f.1=0 then .sl 1 (ee L) none else .v (.slice none 0 0),f.d]
abbrev PQ (l:List Wd) (n e:Nat):St:=
 ⟨[aF 3 0,(4,⟨[],.sl 1 (ee (aA (l.take e))) (some 0)⟩),bc 7 2 (bw l),aw 8 ((bw l).length),aw 9 e],[[.v (.int .i64 0),.v (.int .i64 0)]],[⟨n,9,1,none⟩]⟩
theorem og {all:List Wd} {e:Nat} {w:Wd} (h:all[e]? = some w):enumL all e (all.drop e)=if aG all e w≠0 then (aG all e w,w.a) else enumL all (e + 1) (all.drop (e + 1)):=by
 rw [drop_cons h,enumL]
theorem Bn (l:List Wd) (hs:wdsWt l<=1099511627776):EvP prog 61 [.sl 2 (bw l) none] (VW (enumL l 0 l) (aA l)):=by
 have oP:=bi l;refine eG 36 [.tmp 2,.cell 3 44] func61 rfl ntmps61 rfl fun _ _ _ _=>?_;refine lI (fun j st=>∃ e:Nat,st=PQ l e e/\e<=l.length/\(aA (l.take e)).Nodup/\enumL l 0 l=enumL l e (l.drop e)/\j=l.length - e) ⟨0,rfl,by omega,by simp [aA],rfl,rfl⟩ (ff ⟨0,9,1,none⟩ rfl ⟨_,rfl⟩ rfl wA rfl rfl jX) ?_;rintro j st ⟨e,rfl,he,hnd,aP,rfl⟩;rw [aP];refine br ?_ ?_<;>intro hL
 ·have ay:e < l.length:=by simpa [az] using hL
  obtain ⟨w,hw⟩:=gX ay;have PN:=gK (mG hw);have gO:=iY hw;have bh:=og hw;have CM:=lp hw hnd;have KL:=n8 (aA (l.take (e + 1))) (by simp [aA];omega);rw [<- gO] at KL;refine ⟨jt w,⟨by omega,aR hw⟩,?_⟩;refine ⟨by simp [bQ,aA];omega,⟨by simp [bQ,aA,maxLen];omega,by simp [bQ,aA];omega⟩,?_⟩;refine cP yS (eC w.s (by omega)) ?_;refine br ?_ ?_<;>intro hN
  ·have hN:aZ w.s=false:=sU hN;have hf:aG l e w=9:=by simp [aG,hN]
   rw [bh,hf,ap (by decide)];refine dS ?_;exact ⟨_,ax,rfl⟩
  ·have hN:aZ w.s=true:=sU hN;refine cp Rm rfl KL ax (fun r hr=>?_);obtain ⟨z,rfl,hz⟩:=hr;refine br ?_ ?_<;>intro h2
   ·have h2:0<=z:=sU h2;have hd:bX (l.take e) w.s=true:=by grind
    have hf:aG l e w=10:=by simp [aG,hN,hd]
    rw [bh,hf,ap (by decide)];refine dS ?_;exact ⟨_,ax,rfl⟩
   ·have h2:¬ 0<=z:=sU h2;have v7:(aA (l.take (e + 1))).Nodup:=Classical.byContradiction fun hn=>h2 (hz.2 hn);have hf:aG l e w=0:=by simp [aG,hN,CM.1 v7]
    rw [hf,ai (by simp)] at bh;refine ⟨PQ l (e + 1) (e + 1),(bl (wB2 (nxt ay (by omega)) gO)),l.length - (e + 1),by omega,e + 1,rfl,by omega,v7,bh,rfl⟩
 ·have hge:e=l.length:=by
   have:=hL;simp [az] at this;omega
  have h0:enumL l e (l.drop e)=(0,0):=by rw [hge,List.drop_length];all_goals rfl
  rw [h0];have ht:l.take e=l:=by rw [hge,List.take_length]
  rw [ht];exact ⟨_,ax,rfl⟩
def numF (L:List ByteArray):List (Wd × Wd)->Ft
 | []=>(0,0)
 | p :: r=>if cy L p.1.s=none then (17,p.1.a) else if cy L p.2.s=none then (17,p.2.a) else numF L r
def RH (L:List ByteArray) (p:Wd × Wd):Nat × Nat:=((cy L p.1.s).getD 0,(cy L p.2.s).getD 0)
def cM (L:List ByteArray) (o:List (Wd × Wd)):List (Nat × Nat):=o.map (RH L)
def VX (f:Ft) (l:List (Nat × Nat)):DV:=.tup [if f.1=0 then .sl 2 (lk l) none else .v (.slice none 0 0),f.d]
theorem xE {L:List ByteArray} {o:List (Wd × Wd)} {e a b:Nat} {x:Wd × Wd} (h:o[e]? = some x) (ha:cy L x.1.s=some a) (hb:cy L x.2.s=some b):lk (cM L (o.take e)) ++ [[DV.v (.int .i64 (a:Int)),DV.v (.int .i64 (b:Int))]]=lk (cM L (o.take (e + 1))):=by
 rw [List.take_add_one,h];simp [lk,cM,RH,ha,hb,dNP]
abbrev PR (L:List ByteArray) (aH:List Nat) (o:List (Wd × Wd)) (n e:Nat):St:=
 ⟨[nA 0 (cw L aH),aF 5 0,(6,⟨[],.sl 2 (lk (cM L (o.take e))) (some 0)⟩),bc 12 4 (lU o),aw 13 ((lU o).length),aw 14 e],[[.v (.int .i64 0),.v (.int .i64 0)]],[⟨n,212,2,none⟩]⟩
theorem we (L:List ByteArray) (aH:List Nat) (hT:gw L aH) (hl:aH.length<=1099511627776) (o:List (Wd × Wd)) (hs:prsWt o<=1099511627776) :
  EvP prog 63 [.pt (cw L aH) 0,.sl 4 (lU o) none] (VX (numF L o) (cM L o)):=by
 have oP:=gQ o;refine eG 55 [.tmp 4,.cell 5 44] func63 rfl ntmps63 rfl fun _ _ _ _=>?_;refine lI (fun j st=>∃ e:Nat,st=PR L aH o e e/\e<=o.length/\numF L o=numF L (o.drop e)/\j=o.length - e) ⟨0,rfl,by omega,rfl,rfl⟩ (ff ⟨0,212,2,none⟩ rfl ⟨_,rfl⟩ rfl wA rfl rfl jX) ?_;rintro j st ⟨e,rfl,he,aP,rfl⟩;rw [aP];refine br ?_ ?_<;>intro hL
 ·have ay:e < o.length:=by simpa [fg] using hL
  obtain ⟨w,hw⟩:=gX ay;have bh:numF L (o.drop e)=if cy L w.1.s=none then (17,w.1.a) else if cy L w.2.s=none then (17,w.2.a) else numF L (o.drop (e + 1)):=by rw [drop_cons hw,numF]
  have IM:=gU L aH w.1.s hT hl;have vY:=gU L aH w.2.s hT hl;refine ⟨IP w,⟨by omega,gh hw⟩,?_⟩
  cases ha:cy L w.1.s with
  | none=>
   rw [ha] at IM;refine cP tJ IM ?_;rw [bh,ap ha];refine dS ?_;exact ⟨_,ax,rfl⟩
  | some a=>
   rw [ha] at IM;refine cP tJ IM ?_
   cases hb:cy L w.2.s with
   | none=>
    rw [hb] at vY;refine cP tJ vY ?_;rw [bh,ai (by rw [ha];simp),ap hb];refine dS ?_;exact ⟨_,ax,rfl⟩
   | some b=>
    rw [hb] at vY;refine cP tJ vY ?_;rw [ai (by rw [ha];simp),ai (by rw [hb];simp)] at bh;refine ⟨by simp [gj,cM];omega,⟨by simp [gj,cM,maxLen];omega,by simp [gj,cM];omega⟩,?_⟩;refine ⟨PR L aH o (e + 1) (e + 1),(bl (wB2 (nxt ay (by omega)) (xE hw ha hb))),o.length - (e + 1),by omega,e + 1,rfl,by omega,bh,rfl⟩
 ·have hge:e=o.length:=by
   have:=hL;simp [fg] at this;omega
  have h0:numF L (o.drop e)=(0,0):=by rw [hge,List.drop_length];all_goals rfl
  rw [h0];have ht:o.take e=o:=by rw [hge,List.take_length]
  rw [ht];exact ⟨_,ax,rfl⟩
end Go.Proofs.YtphonmiflfhdbaaGreat
namespace Go.Proofs.YtphonmiflfhdbaaGreat
namespace Dv
open Go Go.RowKit
section
variable {X:Ctx} {st:St} {k:List It} {E:En} {a:Act} {w:World}
def Wk (X:Ctx) (st st':St):Prop:=∀ E a w,Rel X E st a w->∃ E',Rel X E' st' a w
theorem Wk.refl (X:Ctx) (st:St):Wk X st st:=fun E _ _ h=>⟨E,h⟩
theorem Wk.trans {X:Ctx} {s1 s2 s3:St} (h1:Wk X s1 s2) (h2:Wk X s2 s3):Wk X s1 s3:=fun _ _ _ h=>by
 obtain ⟨E1,h3⟩:=h1 _ _ _ h;exact h2 _ _ _ h3
theorem Wk.RI {X:Ctx} {s1 s2:St} (h:oT X.n0 X.m0 s1 s2):Wk X s1 s2:=fun _ _ _ hr=>tz hr h
theorem Ht {f:FuncId} {args bD:List DV} {os:List (List DV)} (n1 m1:Nat) (CW:Nat.ble n1 st.bx.length=true) (iI:Nat.ble m1 st.tk.length=true)
  (C3:lQ [] n1 n1 m1 os (st.bx.take n1)) (ha:CcL [] n1 n1 m1 bD args)
  {Φ:DV->List (List DV)->List TkE->Prop} (hc:Zg false X.P f bD os (st.tk.take m1) X.bt Φ) (bh:X.still=false) {vs:List Value} (h:Rel X E st a w) (hv:RvL E args vs) :
  Calls X.P f vs.toArray w fun e w'=>∃ v r iA cr E',e = .returned v/\Φ r iA cr /\ iA.length=n1/\cr.length=m1/\Rel X E' ⟨st.sl,iA ++ st.bx.drop n1,cr ++ st.tk.drop m1⟩ a w' /\ Rv E' r v/\Ext E E' /\ E'.β=E.β /\
   ∀ (i:Nat) b,n1<=i->E.β[i]? = some b->w'.heap[b]? = w.heap[b]?:=by
 have CW:=nL CW;have iI:=nL iI;have hlen:=h.env.len;have jv:=h.env.tl;have l8:=h.tk;have htkl:E.tk.length=st.tk.length:=by rw [l8]
 let E1:En:=⟨E.c,E.β.take n1,E.tk.take m1,E.τ.take m1⟩
 have hfz:IF E E1 [] n1:=⟨fun _ _ h=>h,fun i cs _ hi=>by simp at hi⟩
 have yK:GR E E1 n1 m1:={
  β:=fun i b hi hb=>by show (E.β.take n1)[i]? = _;rw [bT,ap hi];exact hb
  tk:=fun k hk=>⟨by show (E.tk.take m1)[k]? = _;rw [bT,ap hk],by show (E.τ.take m1)[k]? = _;rw [bT,ap hk]⟩ }
 obtain ⟨kL,T3⟩:=C3.get;have hosl:os.length=n1:=by rw [kL,eP];omega
 have VY:∀ (j:Nat) y,(E.τ.take m1)[j]? = some y->j < m1/\E.τ[j]? = some y:=fun j y hy=>by
  rw [bT] at hy;split at hy
  ·rename_i hj;exact ⟨hj,hy⟩
  ·cases hy
 have hkg:∀ (j:Nat) q,(E.tk.take m1)[j]? = some q->j < m1/\E.tk[j]? = some q:=fun j y hy=>by
  rw [bT] at hy;split at hy
  ·rename_i hj;exact ⟨hj,hy⟩
  ·cases hy
 have Zv:Env E1 os w:={
  len:=by show (E.β.take n1).length=_;rw [eP,hosl];omega
  tl:=by show (E.τ.take m1).length=(E.tk.take m1).length;rw [eP,eP,jv]
  ey:=fun i cs' hi=>by
   obtain ⟨cs,cT,AB⟩:=T3 i cs' hi;rw [bT] at cT;split at cT
   ·rename_i ay;obtain ⟨b,ty,arr,hb,hw,hc⟩:=h.env.ey i cs cT;exact ⟨b,ty,arr,yK.β i b ay hb,hw,CcL.sound hfz yK AB hc.1,hc.2⟩
   ·cases cT
  inj:=h.env.inj.sublist (List.take_sublist _ _)
  sub:=h.env.sub
  pc:=fun x v hx hm=>h.env.pc x v hx (List.mem_of_mem_take hm)
  cC:=fun j q y hq hy=>by
   obtain ⟨_,hq⟩:=hkg j q hq;obtain ⟨_,hy⟩:=VY j y hy;rcases h.env.cC j q y hq hy with h1 | ⟨g,cap,cur,rfl,h1,h2,h3,h4,h5,h6⟩
   ·exact .inl h1
   ·exact .inr ⟨g,cap,cur,rfl,h1,h2,h3,h4,fun hm=>h5 (List.mem_of_mem_take hm),h6⟩
  ji:=fun j j' y y' g Fm hy gv=>h.env.ji j j' y y' g Fm (VY j y hy).2 (VY j' y' gv).2 }
 refine (hc E1 w _ Zv (by show E.tk.take m1=_;rw [l8]) (h.bt.sub n1) (CcL.sound hfz yK ha hv)).mono ?_;rintro e w' ⟨v,rfl,⟨hm,_,r,iA,E2,he,hβ,zk,hn,QU,hΦ⟩,hbt2⟩;have zk:E2.tk.length=E1.tk.length:=zk;have hE1t:E1.tk.length=m1:=by show (E.tk.take m1).length=_;rw [eP];omega
 have hE1τ:E1.τ.length=m1:=by show (E.τ.take m1).length=_;rw [eP];omega
 have hE1β:E1.β.length=n1:=by show (E.β.take n1).length=_;rw [eP];omega
 rw [hE1t] at zk;have X5:E2.τ.length=m1:=by rw [he.tl,zk]
 have KM:iA.length=n1:=by rw [<- he.len,hβ,hE1β]
 have hS:∀ j,E1.S j->j∈E.β.take n1∨∃ i y,i < m1/\E.τ[i]? = some y/\y.ownBlock=some j:=fun j hj=>by
  rcases hj with h1 | ⟨y,h1,h2⟩
  ·exact .inl h1
  ·obtain ⟨i,hi,he⟩:=List.getElem_of_mem h1;have fX:E1.τ[i]? = some y:=by rw [gE hi,he]
   obtain ⟨h3,h4⟩:=VY i y fX;exact .inr ⟨i,y,h3,h4,h2⟩
 have hh:∀ j,j < w.heap.size->¬ E1.S j->w'.heap[j]? = w.heap[j]?:=fun j hj bq=>hm.block j hj bq;have fC:∀ (i:Nat) y g,E.τ[i]? = some y->y.ownBlock=some g->g < w.heap.size/\g ∉ E.β:=fun i y g hy hg=>h.env.own (mG hy) hg
 have dM:∀ x v,E2.c x=some v->E.c x=some v∨w.heap.size<=x.block∨∃ i y,i < m1/\E.τ[i]? = some y/\y.ownBlock=some x.block:=fun x v hx=>by
  rcases hn.cn x v hx with h1 | h1 | ⟨y,h1,h2⟩
  ·exact .inl h1
  ·exact .inr (.inl h1)
  ·obtain ⟨i,hi,he⟩:=List.getElem_of_mem h1;have fX:E1.τ[i]? = some y:=by rw [gE hi,he]
   obtain ⟨h3,h4⟩:=VY i y fX;exact .inr (.inr ⟨i,y,h3,h4,h2⟩)
 have qm:∀ (j:Nat) q,j < m1->E.tk[j]? = some q->∃ y q' y',E.τ[j]? = some y/\E2.tk[j]? = some q' /\ E2.τ[j]? = some y' /\ q.ty=q'.ty/\q.e=q'.e/\((q'.n=q.n/\y'=y)∨q.n < q'.n)/\(y'.ownBlock=y.ownBlock∨∀ g,y'.ownBlock=some g->w.heap.size<=g):=fun j q hj hq=>by
  have pX:j < E.τ.length:=by rw [jv];omega
  obtain ⟨q',y',h1,h2,h3⟩:=hn.tk j q E.τ[j] (by show (E.tk.take m1)[j]? = _;rw [bT,ap hj];exact hq) (by show (E.τ.take m1)[j]? = _;rw [bT,ap hj,gE pX]);exact ⟨_,q',y',gE pX,h1,h2,h3⟩
 have FZ:∀ (j:Nat) y',j < m1->E2.τ[j]? = some y' -> ∃ y,E.τ[j]? = some y/\(y'.ownBlock=y.ownBlock∨∀ g,y'.ownBlock=some g->w.heap.size<=g):=fun j y' hj hy=>by
  have pX:j < E.tk.length:=by omega
  obtain ⟨y,q1,y1,h1,_,h3,_,_,_,h7⟩:=qm j _ hj (gE pX);rw [hy] at h3;simp only [oI] at h3;subst h3;exact ⟨y,h1,h7⟩
 let E':En:=⟨E2.c,E.β,E2.tk ++ E.tk.drop m1,E2.τ ++ E.τ.drop m1⟩
 have gq:∀ (j:Nat),m1<=j->E'.tk[j]? = E.tk[j]?:=fun j hj=>by
  show (E2.tk ++ E.tk.drop m1)[j]? = _;rw [List.getElem?_append_right (by omega),List.getElem?_drop,zk];congr 1;omega
 have RJ:∀ (j:Nat),m1<=j->E'.τ[j]? = E.τ[j]?:=fun j hj=>by
  show (E2.τ ++ E.τ.drop m1)[j]? = _;rw [List.getElem?_append_right (by omega),List.getElem?_drop,X5];congr 1;omega
 have G1:∀ (j:Nat),j < m1->E'.tk[j]? = E2.tk[j]?:=fun j hj=>by
  show (E2.tk ++ E.tk.drop m1)[j]? = _;rw [eO (by omega)]
 have Mz:∀ (j:Nat),j < m1->E'.τ[j]? = E2.τ[j]?:=fun j hj=>by
  show (E2.τ ++ E.τ.drop m1)[j]? = _;rw [eO (by omega)]
 have hx:Ext E E':=⟨hn.c,fun _ _ h=>h,fun j q hq=>by
  rcases Nat.lt_or_ge j m1 with hj | hj
  ·obtain ⟨y,q',y',h1,h2,h3,_,_,h6,_⟩:=qm j q hj hq;refine ⟨q',by rw [G1 j hj];exact h2,?_⟩;rcases h6 with ⟨h6,rfl⟩ | h6
   ·exact .inl ⟨h6,by rw [Mz j hj,h3,h1]⟩
   ·exact .inr h6
  ·exact ⟨q,by rw [gq j hj];exact hq,.inl ⟨rfl,RJ j hj⟩⟩⟩
 have FG:Ext E2 E':={
  c:=fun _ _ h=>h
  β:=fun j b hj=>by
   rw [hβ] at hj;have hj:(E.β.take n1)[j]? = some b:=hj;rw [bT] at hj;split at hj
   ·exact hj
   ·cases hj
  tk:=fun j q hq=>by
   have hj:j < m1:=by have:=(gS hq).1;omega
   exact ⟨q,by rw [G1 j hj];exact hq,.inl ⟨rfl,Mz j hj⟩⟩ }
 have PS:∀ (i:Nat) b,n1<=i->E.β[i]? = some b->w'.heap[b]? = w.heap[b]?:=fun i b hi hb=>by
  refine hh b (h.env.bd (mG hb)) fun hs=>?_;rcases hS b hs with h1 | ⟨i',y,_,h2,h3⟩
  ·obtain ⟨i',fX,QZ⟩:=List.getElem_of_mem h1;have h4:(E.β.take n1)[i']? = some b:=by rw [gE fX,QZ]
   rw [bT] at h4;split at h4
   ·rename_i ay;have:=(List.getElem?_inj (gS hb).1 h.env.inj).1 (hb.trans h4.symm);omega
   ·cases h4
  ·exact (fC i' y b h2 h3).2 (mG hb)
 have hbt':nr X.bt E.β w':=fun p hp b hb=>by
  rcases Nat.lt_or_ge p.1 n1 with ay | hge
  ·exact hbt2 p hp b (by show (E.β.take n1)[p.1]? = _;rw [bT,ap ay];exact hb)
  ·obtain ⟨cs,cT⟩:=h.bt p hp b hb;exact ⟨cs,by rw [PS p.1 b hge hb];exact cT⟩
 have cu:Rel X E' ⟨st.sl,iA ++ st.bx.drop n1,E2.tk ++ st.tk.drop m1⟩ a w':=by
  refine cV h hx ?_ (by show E2.tk ++ E.tk.drop m1=_;rw [l8]) ?_ (h.fr.cm hm.os hm.tape hm.output hm.size fun j hj=>?_) (nQ bh) hbt'
  ·exact {
    len:=by show E.β.length=_;rw [List.length_append,List.length_drop,KM,hlen];omega
    tl:=by show (E2.τ ++ E.τ.drop m1).length=(E2.tk ++ E.tk.drop m1).length;simp only [List.length_append,List.length_drop,X5,zk,jv]
    ey:=fun i Uo hi=>by
     rcases Nat.lt_or_ge i n1 with v8 | v8
     ·rw [eO (by omega)] at hi;obtain ⟨b2,Zy,Rc,lO,hw2,qf⟩:=he.ey i Uo hi;exact ⟨b2,Zy,Rc,FG.β i b2 lO,hw2,qf.mono FG⟩
     ·rw [List.getElem?_append_right (by omega),List.getElem?_drop,KM] at hi;rw [show n1 + (i - n1)=i by omega] at hi;obtain ⟨bj,Zz,Re,Pf,Up,QD⟩:=h.env.ey i Uo hi;refine ⟨bj,Zz,Re,Pf,(hh bj (cY Up) ?_).trans Up,QD.mono hx⟩;intro hs;rcases hS bj hs with h1 | ⟨i',y,_,h2,h3⟩
      ·obtain ⟨i',fX,QZ⟩:=List.getElem_of_mem h1;have h4:(E.β.take n1)[i']? = some bj:=by rw [gE fX,QZ]
       rw [bT] at h4;split at h4
       ·rename_i ay;have:=(List.getElem?_inj (gS Pf).1 h.env.inj).1 (Pf.trans h4.symm);omega
       ·cases h4
      ·exact (fC i' y bj h2 h3).2 (mG Pf)
    inj:=h.env.inj
    sub:=he.sub
    pc:=fun x v hc r8=>by
     rcases dM x v hc with h1 | h1 | ⟨i,y,_,h2,h3⟩
     ·exact h.env.pc x v h1 r8
     ·have:=h.env.bd r8;omega
     ·exact (fC i y _ h2 h3).2 r8
    cC:=fun j q y hq hy=>by
     rcases Nat.lt_or_ge j m1 with hj | hj
     ·rw [G1 j hj] at hq;rw [Mz j hj] at hy;rcases he.cC j q y hq hy with h1 | ⟨g,cap,cur,rfl,h1,h2,h3,h4,h5,h6⟩
      ·exact .inl h1
      ·refine .inr ⟨g,cap,cur,rfl,h1,h2,h3,h4,fun r8=>?_,h6⟩;obtain ⟨y0,h7,h8⟩:=FZ j _ hj hy;rcases h8 with h8 | h8
       ·exact (fC j y0 g h7 (by rw [<- h8];rfl)).2 r8
       ·have:=h8 g rfl;have:=h.env.bd r8;omega
     ·rw [gq j hj] at hq;rw [RJ j hj] at hy;rcases h.env.cC j q y hq hy with h1 | ⟨g,cap,cur,rfl,h1,h2,h3,h4,h5,h6⟩
      ·exact .inl h1
      ·have bq:∀ i y',i < m1->E.τ[i]? = some y' -> y'.ownBlock≠some g:=fun i y' hi gv=>h.env.ji j i _ y' g (by omega) hy gv rfl
       have CM:¬ E1.S g:=fun hs=>by
        rcases hS g hs with h7 | ⟨i,y',h7,h8,h9⟩
        ·exact h5 (List.mem_of_mem_take h7)
        ·exact bq i y' h7 h8 h9
       refine .inr ⟨g,cap,cur,rfl,by rw [hh g (cY h1) CM];exact h1,⟨h2.1,h2.2.mono hn.c⟩,h3,h4,h5,fun x v hc hg=>?_⟩
       ·rcases dM x v hc with h7 | h7 | ⟨i,y',h7,h8,h9⟩
        ·exact h6 x v h7 hg
        ·have:=cY h1;omega
        ·exact (bq i y' h7 h8 (by rw [h9,hg])).elim
    ji:=fun j j' y y' g Fm hy gv hg yE=>by
     rcases Nat.lt_or_ge j m1 with hj | hj
     ·rw [Mz j hj] at hy;obtain ⟨y0,h7,h8⟩:=FZ j _ hj hy;rcases Nat.lt_or_ge j' m1 with iV | iV
      ·rw [Mz j' iV] at gv;exact he.ji j j' y y' g Fm hy gv hg yE
      ·rw [RJ j' iV] at gv;rcases h8 with h8 | h8
       ·exact h.env.ji j j' y0 y' g Fm h7 gv (by rw [<- h8];exact hg) yE
       ·have:=h8 g hg;have:=(fC j' y' g gv yE).1;omega
     ·rw [RJ j hj] at hy;rcases Nat.lt_or_ge j' m1 with iV | iV
      ·rw [Mz j' iV] at gv;obtain ⟨y0,h7,h8⟩:=FZ j' _ iV gv;rcases h8 with h8 | h8
       ·exact h.env.ji j j' y y0 g Fm hy h7 hg (by rw [<- h8];exact yE)
       ·have:=h8 g yE;have:=(fC j y g hy hg).1;omega
      ·rw [RJ j' iV] at gv
       exact h.env.ji j j' y y' g Fm hy gv hg yE }
  ·exact {
    c:=fun x v hc=>hn.c x v (h.nw.c x v hc)
    cn:=fun x v hc=>by
     rcases dM x v hc with h1 | h1 | ⟨i,y,_,h2,h3⟩
     ·exact h.nw.cn x v h1
     ·have:=h.fr.size;exact .inr (.inl (by omega))
     ·rcases h.nw.own h2 h3 with h4 | h4
      ·exact .inr (.inr h4)
      ·exact .inr (.inl h4)
    β:=h.nw.β
    tk:=fun j q0 y0 Au CZ=>by
     obtain ⟨q1,y1,h1,h2,h3,h4,h5,h6⟩:=h.nw.tk j q0 y0 Au CZ;rcases Nat.lt_or_ge j m1 with hj | hj
     ·obtain ⟨y,q',y',g1,g2,g3,g4,g5,g6,g7⟩:=qm j q1 hj h1;rw [h2] at g1;simp only [oI] at g1;subst g1;refine ⟨q',y',by rw [G1 j hj];exact g2,by rw [Mz j hj];exact g3,h3.trans g4,h4.trans g5,?_,?_⟩
      ·rcases g6 with ⟨g6,rfl⟩ | g6
       ·rcases h5 with ⟨h5,rfl⟩ | h5
        ·exact .inl ⟨by omega,rfl⟩
        ·exact .inr (by omega)
       ·rcases h5 with ⟨h5,_⟩ | h5
        ·exact .inr (by omega)
        ·exact .inr (by omega)
      ·rcases g7 with g7 | g7
       ·rcases h6 with h6 | h6
        ·exact .inl (g7.trans h6)
        ·exact .inr fun g hg=>h6 g (by rw [<- g7];exact hg)
       ·refine .inr fun g hg=>?_;have:=g7 g hg;have:=h.fr.size;omega
     ·exact ⟨q1,y1,by rw [gq j hj];exact h1,by rw [RJ j hj];exact h2,h3,h4,h5,h6⟩
    tn:=fun j y g Ay hy hg=>by
     rcases Nat.lt_or_ge j m1 with hj | hj
     ·rw [Mz j hj] at hy;obtain ⟨y0,h7,h8⟩:=FZ j _ hj hy;rcases h8 with h8 | h8
      ·exact h.nw.tn j y0 g Ay h7 (by rw [<- h8];exact hg)
      ·have:=h8 g hg;have:=h.fr.size;omega
     ·rw [RJ j hj] at hy;exact h.nw.tn j y g Ay hy hg
    l0:=h.nw.l0 }
  ·by_cases hjs:E1.S j
   ·left;rcases hS j hjs with h1 | ⟨i,y,_,h2,h3⟩
    ·have Ag:=List.mem_of_mem_take h1;obtain ⟨r0,hr0,Dh⟩:=h.nw.β;rw [hr0] at Ag;rcases List.mem_append.1 Ag with Ag | Ag
     ·exact .inl (.inl Ag)
     ·exact .inr (Dh j Ag)
    ·rcases h.nw.own h2 h3 with h4 | h4
     ·exact .inl (.inr h4)
     ·exact .inr h4
   ·exact .inr (hh j hj hjs)
 exact ⟨v,r,iA,E2.tk,E',rfl,hΦ,KM,zk,cu,Rv.mono FG QU,hx,rfl,PS⟩
theorem Bo {f:FuncId} {args bD:List DV} {os:List (List DV)} (n1 m1:Nat) (CW:Nat.ble n1 st.bx.length=true) (iI:Nat.ble m1 st.tk.length=true)
  (C3:lQ [] n1 n1 m1 os (st.bx.take n1)) (ha:CcL [] n1 n1 m1 bD args)
  {Φ:DV->List (List DV)->List TkE->Prop} (hc:Ev X.P f bD os (st.tk.take m1) Φ) (bh:X.still=false) (hX:X.bt=[]) {vs:List Value} (h:Rel X E st a w) (hv:RvL E args vs) :
  Calls X.P f vs.toArray w fun e w'=>∃ v r iA cr E',e = .returned v/\Φ r iA cr /\ iA.length=n1/\cr.length=m1/\Rel X E' ⟨st.sl,iA ++ st.bx.drop n1,cr ++ st.tk.drop m1⟩ a w' /\ Rv E' r v/\Ext E E' /\ E'.β=E.β /\
   ∀ (i:Nat) b,n1<=i->E.β[i]? = some b->w'.heap[b]? = w.heap[b]?:=
 Ht n1 m1 (by exact CW) (by exact iI) C3 ha (hc.T5 hX) bh h hv
theorem KN {f:FuncId} {args bD:List DV} {os:List (List DV)} {d:Nat} (n1 m1:Nat) (kV:Enters X.P f) (hd:fY X.nt st.sl (some d)=true) (CW:Nat.ble n1 st.bx.length=true) (iI:Nat.ble m1 st.tk.length=true)
  (C3:lQ [] n1 n1 m1 os (st.bx.take n1)) (ha:CcL [] n1 n1 m1 bD args)
  {Φ:DV->List (List DV)->List TkE->Prop} (hc:Ev X.P f bD os (st.tk.take m1) Φ)
  (hk:∀ r iA cr,Φ r iA cr -> iA.length=n1->cr.length=m1->∃ st',Wk X ⟨(d,⟨[],r⟩) :: st.sl,iA ++ st.bx.drop n1,cr ++ st.tk.drop m1⟩ st' /\ go X 4000 k st') (bh:X.still=false:=by exact rfl) (hX:X.bt=[]:=by exact rfl):CallG X f args (some d) k st:=by
 refine ⟨kV,bh,fun E a w vs h hv=>(Bo n1 m1 CW iI C3 ha hc bh hX h hv).mono ?_⟩;rintro e w' ⟨v,r,iA,cr,E',rfl,hΦ,KM,zk,cu,Ah,_,_,_⟩;obtain ⟨st',T7,l7⟩:=hk r iA cr hΦ KM zk;obtain ⟨E3,hr3⟩:=T7 _ _ _ (bu cu hd r v Ah);exact go_sound 4000 _ _ l7 E3 _ w' hr3
theorem cX {f:FuncId} {args bD:List DV} {os:List (List DV)} {d:Nat} (n1 m1:Nat) (kV:Enters X.P f) (hd:fY X.nt st.sl (some d)=true) (CW:Nat.ble n1 st.bx.length=true) (iI:Nat.ble m1 st.tk.length=true)
  (C3:lQ [] n1 n1 m1 os (st.bx.take n1)) (ha:CcL [] n1 n1 m1 bD args)
  {Φ:DV->List (List DV)->List TkE->Prop} (hc:Ev X.P f bD os (st.tk.take m1) Φ)
  (hk:∀ r iA cr,Φ r iA cr -> iA.length=n1->cr.length=m1->go X 4000 k ⟨(d,⟨[],r⟩) :: st.sl,iA ++ st.bx.drop n1,cr ++ st.tk.drop m1⟩) (bh:X.still=false:=by exact rfl) (hX:X.bt=[]:=by exact rfl):CallG X f args (some d) k st:=
 KN n1 m1 kV hd CW iI C3 ha hc (fun r iA cr h1 h2 h3=>⟨_,Wk.refl _ _,hk r iA cr h1 h2 h3⟩) bh hX
theorem Hu {all:Array Oper} {o1 o2 o3:Oper} {r:List Oper} {d1 d2 kt t sT f off ft ty et e j8 m PT nn:Nat} {bb:Bool} {zz:List Value} {z:Int} {kd:IntKind} {es:List (List DV)} {cs:List DV} {s ix x:Operand} {dv VZ:DV}
  (h1:o1.op = .indexAddr t s ix/\o1.dst=some d1) (h2:o2.op = .fieldAddr sT (.tmp d1) f/\o2.dst=some d2/\o2.guard=none) (h3:o3.op = .store ty (.tmp d2) x/\o3.dst=none/\o3.guard=none)
  (CN:fY X.nt st.sl (some d1)=true) (Db:fY X.nt ((d1,⟨[],.pt [] 0⟩) :: st.sl) (some d2)=true)
  (hs:rv st [] s=some (.sl 0 es (some kt))) (hi:rv st [] ix=some (.v (.int kd z))) (hx:rv ⟨(d2,⟨[],.pt [] 0⟩) :: (d1,⟨[],.pt [] 0⟩) :: st.sl,st.bx,st.tk⟩ [] x=some dv) (hdv:eraD dv=some VZ) (PU:dv.cells=[dv])
  (hT:X.T.find t=some ⟨nn,bb,.sl et e j8,zz⟩) (yF:X.T.off sT f=some (off,ft)) (bY:X.T.sz ty=some 1)
  (hq:st.tk[kt]? = some ⟨m,PT,e,some cs⟩) (kg:es.length=m) (hz:0<=z/\z < m) (eu:off + 1<=e)
  (hk:go X 4000 (.ops all r :: k) ⟨(d2,⟨[],.pt [] 0⟩) :: (d1,⟨[],.pt [] 0⟩) :: st.sl,st.bx,st.tk.set kt ⟨m,PT,e,some (cs.set (z.toNat * e + off) VZ)⟩⟩)
  (bh:X.still=false:=by exact rfl):I3 X o1 (.ops all (o2 :: o3 :: r) :: k) st:=by
 intro E a w h;have gn:=h.rl;have e1:=aW gn hs;have e2:=bN (aW gn hi);unfold Rv at e1;obtain ⟨bs,ns,nW,e1,⟨CM,QL⟩,S7,Jf⟩:=e1;subst CM;obtain ⟨q',lS,_,TX⟩:=Jf kt rfl;have ka:E.tk[kt]? = some ⟨m,PT,e,some cs⟩:=by rw [h.tk];exact hq
 rw [ka] at lS;simp only [oI] at lS;subst lS;have hy:=TX kg;rw [e1,kg] at hy;rw [kg] at e1;have V0:=h.env.cC kt _ _ ka hy;rcases V0 with ⟨sa,wJ,_⟩ | ⟨g,cap,cur,sa,hw0,⟨Jh,Ji⟩,GP,GQ,iy,Jj⟩
 ·simp only at wJ;omega
 injection sa with i1 i2 i3
 subst i1 i3;obtain ⟨hu,ii,zv,wO,_,hsz2,_,_⟩:=eT X.hT hT;have nu:ig X.P et=some e:=by rw [fZ wO,hsz2]
 have V1:(execOp a.eval o1).run X.P w = .ok (.value (.pointer (some ⟨g,z.toNat * e,none⟩))) w:=by
  have bU:(Instr.indexAt t (.slice (some ⟨g,0,none⟩) m nW) (.int kd z)).run X.P w = .ok (.pointer (some ⟨g,z.toNat * e,none⟩)) w:=by
   simp [Instr.indexAt,asIntOf,run_underlying hu,hz.1,hz.2,aO nu,Addr.add_lit]
  simp only [execOp,h1.1,e1,e2,Sem.run_bind,bU,Result.andThen_ok,Sem.run_pure]
 refine kh V1 ?_;rw [h1.2];have hr1:Rel X E ⟨(d1,⟨[],.pt [] 0⟩) :: st.sl,st.bx,st.tk⟩ (a.put (some d1) (.pointer (some ⟨g,z.toNat * e,none⟩))) w:=bu h CN (.pt [] 0) _ (by unfold Rv;exact ⟨g,z.toNat * e,rfl,by simp only [RvAt]⟩);generalize ha1:a.put (some d1) (.pointer (some ⟨g,z.toNat * e,none⟩))=a1 at hr1
 have ht1:a1.eval (.tmp d1) = .pointer (some ⟨g,z.toNat * e,none⟩):=by
  subst ha1;simp only [fY,aS,Nat.blt_eq] at CN;simp [Act.eval,Act.put,h.sz,CN.1]
 show kq X (.ops all (o2 :: o3 :: r) :: k) .normal a1 w;simp only [kq,wpList,Region.wanted,h2.2.2,h3.2.2,if_true];refine .inl (kh (v:=.pointer (some ⟨g,z.toNat * e + off,none⟩)) (w':=w) ?_ ?_)
 ·simp only [execOp,h2.1,ht1,Sem.run_bind,iL (qd X.hT yF),Result.andThen_ok,Sem.run_pure]
 rw [h2.2.1];have hr2:Rel X E ⟨(d2,⟨[],.pt [] 0⟩) :: (d1,⟨[],.pt [] 0⟩) :: st.sl,st.bx,st.tk⟩ (a1.put (some d2) (.pointer (some ⟨g,z.toNat * e + off,none⟩))) w:=bu hr1 Db (.pt [] 0) _ (by unfold Rv;exact ⟨g,z.toNat * e + off,rfl,by simp only [RvAt]⟩);generalize MV:a1.put (some d2) (.pointer (some ⟨g,z.toNat * e + off,none⟩))=a2 at hr2
 have ht2:a2.eval (.tmp d2) = .pointer (some ⟨g,z.toNat * e + off,none⟩):=by
  subst MV;simp only [fY,aS,Nat.blt_eq] at Db;simp [Act.eval,Act.put,hr1.sz,Db.1]
 have e3:=aW hr2.rl hx
 have j9:RvC E [dv] (a2.eval x).cells.toList:=by
  have:=e3.cells (iU (n:=1) (by rw [PU];rfl) (by omega))
  rwa [PU] at this
 have Fs:(a2.eval x).cells.toList.length=1:=by rw [j9.1.length];all_goals rfl
 obtain ⟨xv,Yp⟩:∃ xv,(a2.eval x).cells.toList=[xv]:=by
  match hh:(a2.eval x).cells.toList,Fs with
  | [y],_=>exact ⟨y,rfl⟩
 obtain ⟨h5,h6⟩:=Ji cs rfl;simp only at h5 h6 Jh hw0 GP;have V2:cur.toList.length=nW * e:=sU Jh;have hme:m * e<=nW * e:=Nat.mul_le_mul_right _ GP
 have nU:z.toNat * e + off + 1<=m * e:=by
  have:(z.toNat + 1) * e<=m * e:=Nat.mul_le_mul_right _ (by omega);rw [Nat.add_mul] at this;omega
 have TR:=kP (P:=X.P) (t:=ty) (off:=z.toNat * e + off) (n:=1) hw0 (Fk X.hT bY) Fs (by rw [Jh];omega) (List.all_eq_true.2 j9.2);refine .inl (MW (w':=World.dn w g (.cells ((cur.toList.take (z.toNat * e + off) ++ (a2.eval x).cells.toList ++ cur.toList.drop (z.toNat * e + off + 1)).toArray) PT (0,0))) ?_ ?_)
 ·simp only [execOp,h3.1,ht2,Instr.storeAt,Instr.sureAddr,Sem.run_bind,Sem.run_pure,Result.andThen_ok,TR]
 rw [h3.2.1]
 have QO:cur.toList.take (z.toNat * e + off) ++ (a2.eval x).cells.toList ++ cur.toList.drop (z.toNat * e + off + 1)=cur.toList.set (z.toNat * e + off) xv:=by
  rw [Yp,List.set_eq_take_append_cons_drop,ap (by omega)];simp
 rw [QO]
 have hx1:RvC E.cl [VZ] [xv]:=by
  rw [Yp] at j9;have h7:=j9.1;simp only [RvL] at h7;obtain ⟨v,s',h8,h9,vX⟩:=h7;simp only [List.cons.injEq] at h8;obtain ⟨rfl,rfl⟩:=h8;exact ⟨rvL_cons (tj hdv h9) (by simp only [RvL]),j9.2⟩
 have My:CS (World.dn w g (.cells (cur.toList.set (z.toNat * e + off) xv).toArray PT (0,0))) E.c E.β ⟨m,PT,e,some (cs.set (z.toNat * e + off) VZ)⟩ (.slice (some ⟨g,0,none⟩) m nW):=by
  refine .inr ⟨g,nW,_,rfl,ij hw0,⟨by simpa using V2,fun cs' Jb=>?_⟩,GP,GQ,iy,Jj⟩;simp only [oI] at Jb;subst Jb;simp only;refine ⟨by rw [List.length_set];exact h5,?_⟩;rw [List.take_set];have ay:z.toNat * e + off < (cur.toList.take (m * e)).length:=by rw [eP];omega
  rw [List.set_eq_take_append_cons_drop,ap (by omega),List.set_eq_take_append_cons_drop,ap ay];have h8:=(RvC.take (z.toNat * e + off) h6).append (RvC.append hx1 (RvC.drop (z.toNat * e + off + 1) h6));simpa using h8
 have QY:some g≠some g->False:=fun h=>h rfl
 obtain ⟨cu,hext⟩:=Fo (q':=⟨m,PT,e,some (cs.set (z.toNat * e + off) VZ)⟩) (w':=World.dn w g (.cells (cur.toList.set (z.toNat * e + off) xv).toArray PT (0,0))) hr2 bh ka hy rfl rfl rfl (.inl ⟨rfl,rfl⟩) My (.inl rfl) rfl rfl rfl (by rw [fL];exact aU _) (fun j _ bq=>cL (by
  rintro rfl
  exact bq rfl))
 exact go_sound 4000 _ _ hk _ _ _ cu
open Classical in
noncomputable def Bp (E:En) (w:World) (y:Value) (n:Nat):Addr->Option Value:=
 fun x=>if y.ownBlock=some x.block/\x.spot=none/\x.off < n then w.cell? x else E.c x
theorem jA {y:Value} {n:Nat} {x:Addr} {v:Value} (h:Bp E w y n x=some v):(y.ownBlock=some x.block/\x.spot=none/\x.off < n/\w.cell? x=some v)∨E.c x=some v:=by
 unfold Bp at h
 grind
theorem NM (h:Rel X E st a w) {k n ty e:Nat} {cs:List DV} {ns:List (List DV)} (hq:st.tk[k]? = some ⟨n,ty,e,some cs⟩) (cT:cs=ns.flatten) (CM:∀ x∈ns,x.length=e) (iJ:ns.length=n) :
  ∃ E',Rel X E' ⟨st.sl,st.bx,st.tk.set k ⟨n,ty,e,none⟩⟩ a w/\Ext E E' /\ ∀ es y,es.length=n->Rv E (.sl 0 es (some k)) y->Rv E' (.sl e ns (some k)) y:=by
 subst cT;have ka:E.tk[k]? = some ⟨n,ty,e,some ns.flatten⟩:=by rw [h.tk];exact hq
 have ic:=(gS ka).1;have TQ:k < E.τ.length:=by rw [h.env.tl];exact ic
 have hv:E.τ[k]? = some E.τ[k]:=gE TQ;generalize E.τ[k]=v at hv;have V0:=h.env.cC k _ v ka hv
 have eM:∀ x u,E.c x=some u->Bp E w v (n * e) x=some u:=fun x u hx=>by
  unfold Bp;split
  ·exact h.env.sub x u hx
  ·exact hx
 have hext:Ext E ⟨Bp E w v (n * e),E.β,E.tk.set k ⟨n,ty,e,none⟩,E.τ⟩:=⟨eM,fun _ _ h=>h,fun j q Yq=>by
  by_cases hj:j=k
  ·subst hj;rw [ka] at Yq;simp only [oI] at Yq;subst Yq;exact ⟨_,ie ic,.inl ⟨rfl,rfl⟩⟩
  ·exact ⟨q,by rw [List.getElem?_set_ne (Ne.symm hj)];exact Yq,.inl ⟨rfl,rfl⟩⟩⟩
 refine ⟨⟨Bp E w v (n * e),E.β,E.tk.set k ⟨n,ty,e,none⟩,E.τ⟩,cV h hext ?_ (by rw [h.tk]) ?_ h.fr h.sh h.bt,hext,?_⟩
 ·exact {
   len:=h.env.len
   tl:=by simp only [List.length_set];exact h.env.tl
   ey:=fun i cs hi=>by
    obtain ⟨b,t,arr,hb,hw,hc⟩:=h.env.ey i cs hi;exact ⟨b,t,arr,hb,hw,hc.mono hext⟩
   inj:=h.env.inj
   sub:=fun x u hx=>by
    rcases jA hx with ⟨_,_,_,h1⟩ | h1
    ·exact h1
    ·exact h.env.sub x u h1
   pc:=fun x u hx hm=>by
    rcases jA hx with ⟨h1,_⟩ | h1
    ·exact (iC V0 h1).2 hm
    ·exact h.env.pc x u h1 hm
   cC:=fun j q y hj hy=>by
    by_cases hjk:j=k
    ·subst hjk;have iV:(E.tk.set j ⟨n,ty,e,none⟩)[j]? = some q:=hj;rw [ie ic] at iV;have gv:E.τ[j]? = some y:=hy;rw [hv] at gv;simp only [oI] at iV gv;subst iV gv;rcases V0 with ⟨h1,h2,_⟩ | ⟨g,cap,cur,rfl,h1,h2,h3,h4,h5,h6⟩
     ·exact .inl ⟨h1,h2,fun cs hc=>by cases hc⟩
     ·refine .inr ⟨g,cap,cur,rfl,h1,⟨h2.1,oH.none rfl⟩,h3,h4,h5,fun x u hx C2=>?_⟩;rcases jA hx with ⟨_,_,h7,_⟩ | h7
      ·exact h7
      ·have:=h6 x u h7 C2;simp only [TkE.kn] at this;omega
    ·have iV:E.tk[j]? = some q:=by
      have:(E.tk.set k ⟨n,ty,e,none⟩)[j]? = some q:=hj
      rwa [List.getElem?_set_ne (Ne.symm hjk)] at this
     rcases h.env.cC j q y iV hy with h1 | ⟨g,cap,cur,rfl,h1,h2,h3,h4,h5,h6⟩
     ·exact .inl h1
     ·refine .inr ⟨g,cap,cur,rfl,h1,⟨h2.1,h2.2.mono eM⟩,h3,h4,h5,fun x u hx C2=>?_⟩;rcases jA hx with ⟨h7,_⟩ | h7
      ·exact (h.env.ji j k _ v g hjk hy hv rfl (by rw [h7,C2])).elim
      ·exact h6 x u h7 C2
   ji:=h.env.ji }
 ·exact {
   c:=fun x u hx=>eM x u (h.nw.c x u hx)
   cn:=fun x u hx=>by
    rcases jA hx with ⟨h1,_⟩ | h1
    ·rcases h.nw.own hv h1 with h2 | h2
     ·exact .inr (.inr h2)
     ·exact .inr (.inl h2)
    ·exact h.nw.cn x u h1
   β:=h.nw.β
   tk:=fun j q0 y0 Au CZ=>by
    obtain ⟨q1,y1,h1,h2,h3,h4,h5,h6⟩:=h.nw.tk j q0 y0 Au CZ;by_cases hj:j=k
    ·subst hj;rw [ka] at h1;simp only [oI] at h1;subst h1;exact ⟨_,y1,ie ic,h2,h3,h4,h5,h6⟩
    ·exact ⟨q1,y1,by rw [List.getElem?_set_ne (Ne.symm hj)];exact h1,h2,h3,h4,h5,h6⟩
   tn:=fun j y g hj hy=>h.nw.tn j y g hj hy
   l0:=h.nw.l0 }
 ·intro es y kg hy;unfold Rv at hy ⊢;obtain ⟨b,m,cap,rfl,⟨rfl,hmc⟩,hr,bh⟩:=hy;obtain ⟨q',lS,_,hτ⟩:=bh k rfl;rw [ka] at lS;simp only [oI] at lS;subst lS;have hy:=hτ kg;rw [hv] at hy;simp only [oI] at hy;subst hy;refine ⟨b,es.length,cap,rfl,⟨by omega,hmc⟩,fun bq=>?_,fun k' gq=>?_⟩
  ·rcases V0 with ⟨h1,h2,h3⟩ | ⟨g,TO,cur,h0,h1,h2,h3,h4,h5,h6⟩
   ·simp only at h2;exact (bq (List.eq_nil_of_length_eq_zero (by omega))).elim
   ·injection h0 with i1 i2 i3
    subst i1;refine ⟨rfl,?_⟩;obtain ⟨h7,h8⟩:=h2.2 _ rfl;refine rvEs_flat (h8.mono (E:=⟨E.c,[],[],[]⟩) ⟨eM,fun _ _ h=>by simp at h,fun _ _ h=>by simp at h⟩) CM fun j u hj=>?_;rw [bT] at hj;split at hj
    ·rename_i pX;show Bp E w _ (n * e) _=_;unfold Bp;rw [ap ⟨rfl,rfl,by simpa [ao] using pX⟩];simp only [ab,ao,Nat.zero_add];rw [ch h1];simpa using hj
    ·cases hj
  ·cases gq;exact ⟨_,ie ic,by simp only;omega,fun _=>hv⟩
theorem RL {j o k n ty e:Nat} {IQ:List DV} {es ns:List (List DV)} (hq:st.tk[k]? = some ⟨n,ty,e,some ns.flatten⟩) (CM:∀ x∈ns,x.length=e) (iJ:ns.length=n) (hj:st.bx[j]? = some IQ) (ho:IQ[o]? = some (.sl 0 es (some k))) (kg:es.length=n) :
  Wk X st ⟨st.sl,st.bx.set j (IQ.set o (.sl e ns none)),st.tk.set k ⟨n,ty,e,none⟩⟩:=by
 intro E a w h;obtain ⟨E',hr,hx,qm⟩:=NM h hq rfl CM iJ;refine ⟨E',{ hr with env:=?_ }⟩
 exact { hr.env with
  len:=by simp only [List.length_set];exact hr.env.len
  ey:=fun i cs' hi=>by
   by_cases Ad:i=j
   ·subst Ad;have ay:=(gS hj).1;have fX:(st.bx.set i (IQ.set o (.sl e ns none)))[i]? = some cs':=hi;rw [ie ay] at fX;simp only [oI] at fX;subst fX;obtain ⟨b,t,arr,hb,hw,hc⟩:=hr.env.ey i IQ hj;obtain ⟨b0,t0,Jk,iy,hw0,Jj⟩:=h.env.ey i IQ hj;have nV:=hx.β i b0 iy;rw [hb] at nV;simp only [oI] at nV;subst nV;rw [hw] at hw0;simp only [oI,Obj.cells.injEq] at hw0
    have J4:arr=Jk:=by
     have:=hw0.1;simpa using this
    subst J4;refine ⟨b,t,arr,hb,hw,?_,hc.2⟩;obtain ⟨v,sA,Mv⟩:=Jj.1.get ho;have Ah:=qm es v kg Mv;have kL:=(gS ho).1;have GO:arr.length=IQ.length:=hc.1.length
    have h1:=(RvL.take o hc.1).append (rvL_cons (d:=.sl e ns none) (v:=v) (by
     unfold Rv at Ah ⊢;obtain ⟨b,n,cap,g1,g2,g3,_⟩:=Ah
     exact ⟨b,n,cap,g1,g2,g3,fun k hk=>by cases hk⟩) (RvL.drop (o + 1) hc.1))
    rw [List.set_eq_take_append_cons_drop,ap kL]
    have h2:arr.take o ++ v :: arr.drop (o + 1)=arr:=by
     have hoa:o < arr.length:=by omega
     have:arr[o]=v:=by grind
     rw [<- this];simp
    rwa [h2] at h1
   ·have fX:(st.bx.set j (IQ.set o (.sl e ns none)))[i]? = some cs':=hi;rw [List.getElem?_set_ne (Ne.symm Ad)] at fX
    exact hr.env.ey i cs' fX }
theorem Wk.Dg (i j:Nat) (S S':St) (he:S'=ez i j S) (ID:Nat.ble X.n0 i=true) (Ay:Nat.ble X.n0 j=true) (hi:Nat.blt i S.bx.length=true) (hj:Nat.blt j S.bx.length=true) (hX:X.bt=[]:=by exact rfl):Wk X S' S:=fun E a w h=>by
 subst he;simp only [Nat.blt_eq] at hi hj;exact FB hX h (nL ID) (nL Ay) hi hj
theorem KO {c:Code} (I:Nat->St->Prop) (j0:Nat) (kM:St) (hw:Wk X st kM) (h0:I j0 kM)
  (hr:∀ j s,I j s->go X 4000 (.code c :: .CT (fun s'=>∃ AJ,Wk X s' AJ /\ ∃ j',j' < j/\I j' AJ) :: k) s):rj X c k st:=by
 intro E a w h;obtain ⟨E0,hr0⟩:=hw _ _ _ h
 classical
 let Inv:Act->World->Prop:=fun a w=>∃ j s E,Rel X E s a w/\I j s
 let μ:Act->World->Nat:=fun a w=>if hI:Inv a w then Classical.choose (least hI) else 0
 refine wp_loop Inv μ ⟨j0,kM,E0,hr0,h0⟩ ?_;intro a1 w1 hI;have wU:=(Classical.choose_spec (least hI)).1;obtain ⟨s,E1,cu,Zh⟩:=wU;have hs:=go_sound 4000 _ _ (hr _ s Zh) E1 a1 w1 cu;rw [dC] at hs;refine wp_mono hs ?_;intro e a2 w2 hq
 cases e with
 | normal=>
  obtain ⟨s',E2,AK,AJ,T7,j',iV,T8⟩:=hq;obtain ⟨E3,AL⟩:=T7 _ _ _ AK;have QV:Inv a2 w2:=⟨j',AJ,E3,AL,T8⟩;refine ⟨QV,?_⟩;simp only [μ,dif_pos hI,dif_pos QV];exact Nat.lt_of_le_of_lt ((Classical.choose_spec (least QV)).2 j' ⟨AJ,E3,AL,T8⟩) iV
 | exit id=>exact hq
 | goto l=>exact hq
 | ret=>exact hq
 | panic c=>exact hq
 | outgrown=>exact hq
mutual
def flatD:DV->Bool
 | .v _=>true
 | .agg l=>flatL l
 | .tup l=>flatL l
 | _=>false
def flatL:List DV->Bool
 | []=>true
 | d :: r=>flatD d && flatL r
end
mutual
theorem Rv.flat {E E':En}:∀ {d:DV} {v:Value},flatD d=true->Rv E d v->Rv E' d v
 | .v x,v,_,h=>by unfold Rv at h ⊢;exact h
 | .agg l,v,hf,h=>by
  simp only [flatD] at hf;simp only [Rv] at h ⊢;obtain ⟨vs,h1,h2,h3⟩:=h;exact ⟨vs,h1,RvL.flat hf h2,h3⟩
 | .tup l,v,hf,h=>by
  simp only [flatD] at hf;simp only [Rv] at h ⊢;obtain ⟨vs,h1,h2⟩:=h;exact ⟨vs,h1,RvL.flat hf h2⟩
 | .ud,_,hf,_=>by simp [flatD] at hf
 | .sl _ _ _,_,hf,_=>by simp [flatD] at hf
 | .pt _ _,_,hf,_=>by simp [flatD] at hf
 | .loc _ _,_,hf,_=>by simp [flatD] at hf
 | .el _ _,_,hf,_=>by simp [flatD] at hf
 | .ms _ _ _ _ _,_,hf,_=>by simp [flatD] at hf
 | .fn _ _ _,_,hf,_=>by simp [flatD] at hf
 | .ri _ _,_,hf,_=>by simp [flatD] at hf
theorem RvL.flat {E E':En}:∀ {l:List DV} {vs:List Value},flatL l=true->RvL E l vs->RvL E' l vs
 | [],vs,_,h=>by simpa only [RvL] using h
 | d :: r,vs,hf,h=>by
  simp only [flatL,aS] at hf;simp only [RvL] at h ⊢;obtain ⟨v,s,h1,h2,h3⟩:=h;exact ⟨v,s,h1,Rv.flat hf.1 h2,RvL.flat hf.2 h3⟩
end
theorem F0 {f:FuncId} {args bD:List DV} {d:Nat} {y:DV} (kV:Enters X.P f) (hc:EvP X.P f bD y) (ha:CcL st.bx 0 0 0 bD args) (hy:flatD y=true) (hd:fY X.nt st.sl (some d)=true)
  (hk:go X 4000 k ⟨(d,⟨[],y⟩) :: st.sl,st.bx,st.tk⟩) (bh:X.still=false:=by exact rfl):CallG X f args (some d) k st:=by
 refine ⟨kV,bh,fun E a w vs h hv=>(iO h.env hc ha hv).mono ?_⟩;rintro e w' ⟨v,E2,rfl,hr,hm,_⟩;have hh:∀ i,i < w.heap.size->w'.heap[i]? = w.heap[i]?:=fun i hi=>hm.block i hi (fun h=>h);have cu:Rel X E st a w':=cV h (Ext.refl E) (h.env.jW hh) h.tk h.nw (h.fr.cm hm.os hm.tape hm.output hm.size fun i hi=>.inr (hh i hi)) (nQ bh) (h.bt.jW fun b hb=>hh b (h.env.bd hb));exact go_sound 4000 _ _ hk E _ w' (bu cu hd y v (Rv.flat hy hr))
theorem pj {D:Dr} {c:Bool} {i:Nat} {s0:List (Nat × Sl)} {f:FuncId} {args bD:List DV} {d:Nat} {y:DV} {r:List (Nat × Oper)} (kV:Enters X.P f) (hc:EvP X.P f bD y) (ha:CcL st.bx 0 0 0 bD args) (hy:flatD y=true) (hd:(fY X.nt st.sl (some d) && fY X.nt s0 (some d))=true)
  (hk:put2 s0 st (some d) true [] y (goD X D 3000 c r)) (bh:X.still=false:=by exact rfl):AO X D c i r f args (some d) s0 st:=by
 refine ⟨kV,fun hl E0 wr hD E a w vs h hv=>(iO h.rel.env hc ha hv).mono ?_⟩;rintro e w' ⟨v,E2,rfl,hr,hm,_⟩;have hh:∀ i,i < w.heap.size->w'.heap[i]? = w.heap[i]?:=fun i hi=>hm.block i hi (fun h=>h);have cu:Rel X E st a w':=cV h.rel (Ext.refl E) (h.rel.env.jW hh) h.rel.tk h.rel.nw (h.rel.fr.cm hm.os hm.tape hm.output hm.size fun i hi=>.inr (hh i hi)) (nQ bh) (h.rel.bt.jW fun b hb=>hh b (h.rel.env.bd hb));have hs:fc none E w E w':=⟨Ext.refl E,⟨[],by simp⟩,fun j b hb _=>hh b (h.rel.env.bd (mG hb))⟩;have hC:=Fy h hs cu (fun j hj=>by cases hj);refine ⟨v,rfl,fun _=>hC,?_⟩;have Jx:fV X ⟨D,E0,wr⟩ c E s0 st (a.put none v) w':=tC h hs cu (fun h1=>hC (h.cc h1)) (fun i x hx=>.inr ⟨hx,fun d hd=>by cases hd⟩) rfl;obtain ⟨s1,qu,ru,ep⟩:=jr Jx hd true [] y v (fun _ _ p hp=>by cases hp) (fun _=>Rv.flat hy hr) (fun _ _=>Rv.flat hy hr) (fun hn=>(hn (bf _)).elim) hk;exact gJ (D:=⟨D,E0,wr⟩) hD 3000 c r _ _ ru hl E _ w' ep
theorem CallG.Dg {S:St} {f:FuncId} {args bD:List DV} {dst:Option Nat} (i j:Nat) (hS:st=ez i j S) (ha:args=renL (swp i j) bD) (ID:Nat.ble X.n0 i=true) (Ay:Nat.ble X.n0 j=true) (hi:Nat.blt i S.bx.length=true) (hj:Nat.blt j S.bx.length=true)
  (h:CallG X f bD dst k S) (hX:X.bt=[]:=by exact rfl):CallG X f args dst k st:=by
 subst hS ha;simp only [Nat.blt_eq] at hi hj;refine ⟨h.1,h.2.1,fun E a w vs hr hv=>?_⟩
 have hlen:E.β.length=S.bx.length:=by
  rw [hr.env.len];simp only [ez,eA,dK]
 exact h.2.2 _ a w vs (AR hX hr (nL ID) (nL Ay) hi hj) (RvL.Dg (by rw [hlen];exact hi) (by rw [hlen];exact hj) hv)
end
end Dv
end Go.Proofs.YtphonmiflfhdbaaGreat
set_option maxRecDepth 100000
namespace Go.Proofs.YtphonmiflfhdbaaGreat
open Go Go.RowKit Dv Go.Proofs.Tryz
def cZ (l:List Int):List DV:=l.map fun z=>DV.v (.int .i64 z)
def DP (af:List ByteArray) (tb lq:DV) (js:List Int):List DV:=.sl 1 (ee af) none :: tb :: lq :: cZ js
def oz:Option Nat->Int
 | none=>-1
 | some k=>(k:Int)
def Bq (pb:Nat->Nat->Bool) (e:Nat):Option Nat->Bool
 | none=>true
 | some o=>pb e o
def bestA (j4:Nat->Bool) (pb:Nat->Nat->Bool):Nat->Option Nat
 | 0=>none
 | e + 1=>if j4 e && Bq pb e (bestA j4 pb e) then some e else bestA j4 pb e
def mn (j4:Nat->Bool) (pb:Nat->Nat->Bool) (n:Nat):Option Nat:=
 match bestA j4 pb n with
 | none=>none
 | some o=>if (List.range n).any (fun c=>j4 c && !pb o c) then none else some o
theorem mq {j4:Nat->Bool} {pb:Nat->Nat->Bool}:∀ {e k:Nat},bestA j4 pb e=some k->k < e
 | 0,k,h=>by cases h
 | e + 1,k,h=>by
  rw [bestA] at h;split at h
  ·simp only [oI] at h;omega
  ·have:=mq h;omega
theorem qI (af:List ByteArray) (tb:DV) (rows:List Nat) (js:List Int) (hr:dG rows) (a b:Nat) (ha:a < rows.length) (hb:b < rows.length) :
  EvP prog 117 [.v (.int .i64 a),.v (.int .i64 b),.pt [.pt (DP af tb (lV rows) js) 0] 0] (.v (.bool (aT rows a b))):=by
 have h1:=ki rows hr a b;rw [o9 ha hb] at h1;refine eG 13 [.tmp 5] func117 rfl ntmps117 rfl fun _ _ _ _=>?_;refine cP JG h1 ?_;exact (rfl:_=_)
theorem qJ (af:List ByteArray) (tb:DV) (rows:List Nat) (js:List Int) (hr:dG rows) (a b:Nat) (ha:a < rows.length) (hb:b < rows.length) :
  EvP prog 118 [.v (.int .i64 a),.v (.int .i64 b),.pt [.pt (DP af tb (lV rows) js) 0] 0] (.v (.bool (aT rows b a))):=by
 have h1:=ki rows hr b a;rw [o9 hb ha] at h1;refine eG 13 [.tmp 5] func118 rfl ntmps118 rfl fun _ _ _ _=>?_;refine cP JG h1 ?_;exact (rfl:_=_)
abbrev PV (L:List DV):DV:=.fn 117 [] [.pt [.pt L 0] 0]
abbrev PW (L:List DV):DV:=.fn 118 [] [.pt [.pt L 0] 0]
theorem Hv (af:List ByteArray) (tb:DV) (rows:List Nat) (js:List Int) (hr:dG rows) (a b c:Nat) (ha:a < rows.length) (hb:b < rows.length) (hc:c < rows.length) :
  EvP prog 120 [.v (.int .i64 c),.pt [PV (DP af tb (lV rows) js)] 0,.pt [.v (.int .i64 a)] 0,.pt [.v (.int .i64 b)] 0] (.v (.bool (aT rows a c && aT rows b c))):=by
 have h1:=qI af tb rows js hr a c ha hc;have h2:=qI af tb rows js hr b c hb hc;refine eG 16 [.tmp 5] func120 rfl ntmps120 rfl fun _ _ _ _=>?_;refine cP JL h1 ?_;refine br ?_ ?_<;>intro g
 ·have g:aT rows a c=true:=sU g;refine cP JL h2 ?_;refine (bA ?_:);simp [g,pickB]
 ·have g:aT rows a c=false:=sU g;refine (bA ?_:);simp [g,pickB]
theorem Hw (af:List ByteArray) (tb:DV) (rows:List Nat) (js:List Int) (hr:dG rows) (a b c:Nat) (ha:a < rows.length) (hb:b < rows.length) (hc:c < rows.length) :
  EvP prog 121 [.v (.int .i64 c),.pt [PW (DP af tb (lV rows) js)] 0,.pt [.v (.int .i64 a)] 0,.pt [.v (.int .i64 b)] 0] (.v (.bool (aT rows c a && aT rows c b))):=by
 have h1:=qJ af tb rows js hr a c ha hc;have h2:=qJ af tb rows js hr b c hb hc;refine eG 16 [.tmp 5] func121 rfl ntmps121 rfl fun _ _ _ _=>?_;refine cP JN h1 ?_;refine br ?_ ?_<;>intro g
 ·have g:aT rows c a=true:=sU g;refine cP JN h2 ?_;refine (bA ?_:);simp [g,pickB]
 ·have g:aT rows c a=false:=sU g;refine (bA ?_:);simp [g,pickB]
abbrev RM (L:List DV) (gi gb:Nat) (ci cb:List DV) (n:Nat) (o:Int) (e:Nat):St:=
 ⟨[nA 0 L,(1,⟨[],.fn gi [] ci⟩),(2,⟨[],.fn gb [] cb⟩),aw 7 o,aw 14 n,aw 15 e],[],[]⟩
abbrev F1 (L:List DV) (gi gb:Nat) (ci cb:List DV) (n:Nat) (o:Int) (e:Nat):St:=
 ⟨[nA 0 L,(1,⟨[],.fn gi [] ci⟩),(2,⟨[],.fn gb [] cb⟩),aw 7 o,aw 37 n,aw 38 e],[],[]⟩
theorem xF (af:List ByteArray) (tb lq:DV) (js:List Int) (gi gb:Nat) (hei:Enters prog gi) (heb:Enters prog gb) (ci cb:List DV) (j4:Nat->Bool) (pb:Nat->Nat->Bool)
  (V3:CcL [] 0 0 0 ci ci) (V4:CcL [] 0 0 0 cb cb) (hcli:clB.clL 0 0 ci=true) (hclb:clB.clL 0 0 cb=true) (hn:af.length<=64)
  (v8:∀ c:Nat,c < af.length->EvP prog gi (.v (.int .i64 c) :: ci) (.v (.bool (j4 c))))
  (hpb:∀ a b:Nat,a < af.length->b < af.length->EvP prog gb (.v (.int .i64 a) :: .v (.int .i64 b) :: cb) (.v (.bool (pb a b)))) :
  EvP prog 119 [.pt (DP af tb lq js) 0,.fn gi [] ci,.fn gb [] cb] (.v (.int .i64 (oz (mn j4 pb af.length)))):=by
 have hN:=bQ af;have zl:clB 0 0 (.fn gi [] ci)=true:=by simp only [clB,aS];exact ⟨rfl,hcli⟩
 have F2:clB 0 0 (.fn gb [] cb)=true:=by simp only [clB,aS];exact ⟨rfl,hclb⟩
 refine eG 57 [.tmp 6] func119 rfl ntmps119 rfl fun _ _ _ _=>?_;refine lJ (fun e=>RM (DP af tb lq js) gi gb ci cb (ee af).length (oz (bestA j4 pb e)) e) af.length (bl (wB2 zl F2)) ?_;intro e he;refine br ?_ ?_<;>intro hL
 ·have ay:e < af.length:=by have:=hL;simp [hN] at this;exact this
  have hs:bestA j4 pb (e + 1)=if j4 e && Bq pb e (bestA j4 pb e) then some e else bestA j4 pb e:=rfl
  refine cP hei (v8 e ay) ?_ ⟨_,_,rfl,rfl,V3⟩
  cases hA:bestA j4 pb e with
  | none=>
   rw [hA] at hs;refine br ?_ ?_<;>intro g
   ·have g:j4 e=true:=by simpa [lastG] using g
    have hz:(e:Int)=oz (bestA j4 pb (e + 1)):=by rw [hs,g];all_goals rfl
    exact rE ⟨_,by omega,e + 1,rfl,by omega,rfl⟩ (bl (T9 zl F2 (nxt ay (by omega)) hz))
   ·have g:j4 e=false:=by simpa [lastG] using g
    have hz:oz none=oz (bestA j4 pb (e + 1)):=by rw [hs,g];all_goals rfl
    exact rE ⟨_,by omega,e + 1,rfl,by omega,rfl⟩ (bl (T9 zl F2 (nxt ay (by omega)) hz))
  | some k=>
   rw [hA] at hs;have hk:=mq hA;refine br ?_ ?_<;>intro g
   ·have g:j4 e=true:=by simpa [lastG] using g
    refine cP heb (hpb e k ay (by omega)) ?_ ⟨_,_,rfl,rfl,_,_,rfl,rfl,V4⟩;refine br ?_ ?_<;>intro g2
    ·have g2:pb e k=true:=by simpa [pickB,g,lastG] using g2
     have hz:(e:Int)=oz (bestA j4 pb (e + 1)):=by rw [hs,g,Bq,g2];all_goals rfl
     exact rE ⟨_,by omega,e + 1,rfl,by omega,rfl⟩ (bl (T9 zl F2 (nxt ay (by omega)) hz))
    ·have g2:pb e k=false:=by simpa [pickB,g,lastG] using g2
     have hz:oz (some k)=oz (bestA j4 pb (e + 1)):=by rw [hs,g,Bq,g2];all_goals rfl
     exact rE ⟨_,by omega,e + 1,rfl,by omega,rfl⟩ (bl (T9 zl F2 (nxt ay (by omega)) hz))
   ·have g:j4 e=false:=by simpa [lastG] using g
    have hz:oz (some k)=oz (bestA j4 pb (e + 1)):=by rw [hs,g];all_goals rfl
    exact rE ⟨_,by omega,e + 1,rfl,by omega,rfl⟩ (bl (T9 zl F2 (nxt ay (by omega)) hz))
 ·have hge:e=af.length:=sW hN hL;subst hge;refine lI (fun j st=>∃ e:Nat,st=F1 (DP af tb lq js) gi gb ci cb (ee af).length (oz (bestA j4 pb af.length)) e/\e<=af.length/\(∀ o,bestA j4 pb af.length=some o->∀ c,c < e->(j4 c && !pb o c)=false)/\j=af.length - e) ⟨0,rfl,by omega,fun _ _ c hc=>by omega,rfl⟩ (bl (wB2 zl F2)) ?_;rintro j st ⟨e,rfl,he,fM,rfl⟩;refine br ?_ ?_<;>intro hL
  ·have ay:e < af.length:=by have:=hL;simp [hN] at this;exact this
   cases hA:bestA j4 pb af.length with
   | none=>
    exact ⟨F1 (DP af tb lq js) gi gb ci cb (ee af).length (oz none) (e + 1),(bl (MA zl F2 (nxt ay (by omega)))),af.length - (e + 1),by omega,e + 1,rfl,by omega,(fun _ h=>by cases h),rfl⟩
   | some o=>
    have ho:=mq hA;have fM:=fM o hA;refine cP hei (v8 e ay) ?_ ⟨_,_,rfl,rfl,V3⟩;refine br ?_ ?_<;>intro g
    ·have g:j4 e=true:=by simpa [pickB] using g
     refine cP heb (hpb o e ho ay) ?_ ⟨_,_,rfl,rfl,_,_,rfl,rfl,V4⟩;refine br ?_ ?_<;>intro g2
     ·have g2:pb o e=false:=by simpa [pickB,g,lastG] using g2
      have:mn j4 pb af.length=none:=by
       rw [mn,hA];simp only;rw [ap];rw [List.any_eq_true];exact ⟨e,by simpa using ay,by simp [g,g2]⟩
      rw [this];exact (rfl:_=_)
     ·have g2:pb o e=true:=by simpa [pickB,g,lastG] using g2
      exact rE ⟨_,by omega,e + 1,rfl,by omega,fun o' O9 c hc=>by
       cases O9;rcases jU hc with hc | rfl
       ·exact fM c hc
       ·simp [g2],rfl⟩ (bl (MA zl F2 (nxt ay (by omega))))
    ·have g:j4 e=false:=by simpa [pickB] using g
     exact rE ⟨_,by omega,e + 1,rfl,by omega,fun o' O9 c hc=>by
       cases O9;rcases jU hc with hc | rfl
       ·exact fM c hc
       ·simp [g],rfl⟩ (bl (MA zl F2 (nxt ay (by omega))))
  ·have hge:e=af.length:=sW hN hL;subst hge
   have:mn j4 pb af.length=bestA j4 pb af.length:=by
    cases hA:bestA j4 pb af.length with
    | none=>rw [mn,hA]
    | some o=>
     rw [mn,hA];simp only;rw [ai];rw [List.any_eq_true];rintro ⟨c,hc,h2⟩;rw [fM o hA c (sU hc)] at h2;cases h2
   rw [this];exact (rfl:_=_)
end Go.Proofs.YtphonmiflfhdbaaGreat
