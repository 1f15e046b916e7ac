/- Part 3 of the proof: names.Twice: does a text stand earlier, too?; Contracts: the reference's words, Plain, Same, Zero, own; Contracts: the reference's Same, Zero, own; Contracts: the reference's Label, listed, names, Size, with, coarse; What is wrong with a type: the plain function; the reference's Wrong and parts return it; The program's checks of types: bad, listed, label, words; The program's checks of types: label, coarse; The program's comparing of names and types; The program's Same; The program's own, empty; The program's empty, enum; kinds.Right, once the checker's check is known; Numbers in tens: the reference's Put; Numbers in tens: the program's Put; The text of a type, plain; the reference's Label and comma; The reference's text of a type: Label, comma, part, Type; The reference's text of a part; The reference's text of a type; The library's strings.Join, laid at this program by the kit's tool (lay-plain; wip/tools/lay.sh); The program's text of a label, of what stands behind a part's type, of lists; The program's text of a type: field, tag, kind; unparse.Type, once the checker's check is known; A type with which nothing is wrong is fine for its text; Readable data as data of the evaluator: what the statement's form reads of an argument is a datum of the evaluator, of the argument's type, no heavier than what was read; What is read of a type, as the plain data; From a contract over data to what a law's statement asks: the arguments are read, the call returns true, all that was there stays; What all laws' frames share: the bulk, the program's closed facts; Types without places: plain, and the program's kinds.Strip; Schemas: plain, as the evaluator has them, without places; What is read of a schema, as the plain data; What the frames of laws over schemas share; The program's closed facts, each by itself (all at once they ask more memory than a Lean process has); Relations as rows of bits: plain, and rel's functions that read; rel.back: who leads to a thing and is led to by it; rel.New: the rows of a list of pairs; rel.Close: the closure, by rows; The number of bits that are set, as the library reckons it; math/bits.OnesCount64; When two bits are set; rel.Loop: the least thing in a loop; The plain law of closeR: its bits are what is led to; The program's and the reference's check of names that must differ; The table's Find, whole; lattice.many, called, numbered; Rules for the evaluator: a call that is handed the caller's first objects and rows; rows whose cells nobody else knows; lattice.best, and the closures of bounds. No condition. -/
import Derived.Laws.StructEq
import Derived.Shelf.Strings.OnBuilder
import Derived.Deep.Slices
import Derived.ChangeArms
import Derived.DataReads
import Derived.WalkKit
import Derived.ProofKit
import Derived.OpenShut
import Derived.Carry
import Derived.JoinedCond
import Derived.Test.YtphonmiflfhdbaaGreatRows
import Derived.Test.YtphonmiflfhdbaaGreatMx2
set_option linter.all false
set_option maxRecDepth 100000
namespace Go.Proofs.YtphonmiflfhdbaaGreat
open Go Go.RowKit Dv Go.Proofs.Tryz
abbrev Yn (L:List ByteArray) (aG:List Nat) (e:Nat):St:=
 ⟨[pz 3 (cL L aG),aZ 10 1 (eE L),au 11 ((eE L).length),au 12 e],[],[]⟩
theorem LI {α:Type}:∀ {l:List α},(∀ (i j:Nat) (x:α),j < i->l[i]? = some x->l[j]? ≠ some x)->l.Nodup
 | l,h=>by
  rw [List.nodup_iff_pairwise_ne,List.pairwise_iff_getElem];intro i j hi hj Bi he;exact h j i l[j] Bi (gE hj) (by rw [gE hi,he])
theorem oy (L:List ByteArray) (hl:L.length<=1099511627776) :
  Ev prog 69 [.sl 1 (eE L) none] [] [] (fun r _ _=>∃ z:Int,r = .v (.int .i64 z)/\(0<=z↔¬ L.Nodup)):=by
 have hN:=bW L;refine eG 28 [.tmp 2] func69 rfl ntmps69 rfl fun _ _ _ _=>?_;refine bG TB rfl (uW L hl) ax (fun r hr=>?_);obtain ⟨aG,hT,kX,rfl⟩:=hr;refine lI (fun j st=>∃ e:Nat,st=Yn L aG e/\e<=L.length/\(∀ (i j:Nat) (x:ByteArray),i < e->j < i->L[i]? = some x->L[j]? ≠ some x)/\j=L.length - e) ⟨0,rfl,by omega,fun i j x hi=>by omega,rfl⟩ (wkM wB) ?_;rintro j st ⟨e,rfl,he,hinv,rfl⟩;refine br ?_ ?_<;>intro h
 ·have av:e < L.length:=sV hN h;obtain ⟨s,hs⟩:=gX av;obtain ⟨q,p,hq,hp⟩:=hT.all e s hs;have dx:=hT.fst q p e s hq hp hs;refine iX (fh hs) ?_;refine cP uP (find_spec L aG s q p hT (by omega) hq hp) ?_;refine br ?_ ?_<;>intro h2
  ·have h2:p < e:=sU h2;refine ⟨(e:Int),rfl,⟨fun _ hnd=>?_,fun _=>by omega⟩⟩;rw [List.nodup_iff_pairwise_ne,List.pairwise_iff_getElem] at hnd;obtain ⟨h3,h4⟩:=List.getElem?_eq_some_iff.1 hp;obtain ⟨h5,h6⟩:=List.getElem?_eq_some_iff.1 hs;exact hnd p e h3 h5 h2 (by rw [h4,h6])
  ·have h2:¬ p < e:=sU h2;refine ⟨Yn L aG (e + 1),(wkM (wB1 (nxt av (by omega)))),L.length - (e + 1),by omega,e + 1,rfl,by omega,fun i j x hi hj hx hjx=>?_,rfl⟩;by_cases Ke:i=e
   ·subst Ke;rw [hs] at hx;simp only [oI] at hx;subst hx;have:=hT.fst q p j s hq hp hjx;omega
   ·exact hinv i j x (by omega) hj hx hjx
 ·have hge:e=L.length:=by grind
  subst hge;refine ⟨-1,rfl,⟨fun h3=>by omega,fun h3=>?_⟩⟩;exact absurd (LI fun i j x Bi hi hj=>hinv i j x (gS hi).1 Bi hi hj) h3
def sameWds:List Wd->List Wd->Bool
 | [],[]=>true
 | x :: r,y :: s=>decide (x.s=y.s) && sameWds r s
 | _,_=>false
theorem sx:∀ {a b:List Wd},a.length≠b.length->sameWds a b=false
 | [],[],h=>(h rfl).elim
 | x :: r,y :: s,h=>by
  have:r.length≠s.length:=sU h;simp [sameWds,sx this]
 | [],y :: s,_=>rfl
 | x :: r,[],_=>rfl
abbrev Aa (a b:List Wd) (e:Nat):St:=
 ⟨[aZ 0 2 (bA a),aZ 1 2 (bA b),au 5 e],[],[]⟩
theorem ly (a b:List Wd) (hs:a.length<=4611686018427387904) :
  EvP prog 236 [.sl 2 (bA a) none,.sl 2 (bA b) none] (.v (.bool (sameWds a b))):=by
 refine eG 28 [.tmp 4] func236 rfl ntmps236 rfl fun _ _ _ _=>?_;refine br ?_ ?_<;>intro h
 ·have bg:a.length≠b.length:=by have:=h;simp [ay] at this;omega
  exact congrArg (fun b=>DV.v (.bool b)) (sx bg).symm
 ·have hl:a.length=b.length:=by have:=h;simp [ay] at this;omega
  refine aP (fun j st=>∃ e:Nat,st=Aa a b e/\e<=a.length/\sameWds a b=sameWds (a.drop e) (b.drop e)/\j=a.length - e) a.length
   (Aa a b 0) (wkM wB) ⟨0,rfl,by omega,rfl,by omega⟩ ?_
  rintro j st ⟨e,rfl,he,aK,rfl⟩;refine br ?_ ?_<;>intro h
  ·have av:e < a.length:=by simpa [ay] using h
   obtain ⟨x,hx⟩:=gX av;obtain ⟨y,hy⟩:∃ y,b[e]? = some y:=⟨_,gE (hl ▸ av)⟩;rw [drop_cons hx,drop_cons hy] at aK;refine dI ?_;refine ⟨jL x,⟨by omega,aQ hx⟩,jL y,⟨by omega,aQ hy⟩,?_⟩;refine br ?_ ?_<;>intro h
   ·have bg:x.s≠y.s:=sU h;refine (bo ?_:);rw [aK];simp [sameWds,bg]
   ·have bg:x.s=y.s:=sU h;refine ⟨Aa a b (e + 1),(wkM (wB1 (nxt av (by omega)))),a.length - (e + 1),by omega,e + 1,rfl,by omega,?_,rfl⟩;rw [aK];simp [sameWds,bg]
  ·have hge:e=a.length:=by have:=h;simp [ay] at this;omega
   refine (bo ?_:);rw [aK,hge,hl];simp [sameWds];rw [<- hl];simp [sameWds]
def cm (p q:Ph):Bool:=(p.bare == q.bare) && decide (p.wide=q.wide) && sameWds p.label q.label && decide (p.ck=q.ck) && decide (p.cn=q.cn) && sameWds p.cl q.cl
theorem lz (p q:Ph) (tl tl':List DV) (hs:p.wt<=4611686018427387904) (ht:CcL [] 0 0 0 tl tl) (tg:CcL [] 0 0 0 tl' tl') :
  EvP prog 198 [.agg (EL p tl),.agg (EL q tl')] (.v (.bool (cm p q))):=by
 refine eG 51 [.tmp 4] func198 rfl ntmps198 rfl fun _ _ _ _=>?_;have h1:=bp p.label;have h2:=bp p.cl;simp only [Ph.wt] at hs;refine br ?_ ?_<;>intro h
 ·refine cP Lp (ly p.label q.label (by omega)) ?_;refine br ?_ ?_<;>intro h2
  ·refine cP Lp (ly p.cl q.cl (by omega)) ?_;refine (bo ?_:);simp [pickB_and] at h h2;simp [cm,pickB_and,h,h2]
  ·refine (bo ?_:);simp [pickB_and] at h h2;simp [cm,pickB_and,h]
   grind
 ·refine (bo ?_:);simp [pickB_and] at h;simp [cm]
  grind
def ki (h k:Hd):Bool:=decide (h.ag=k.ag) && decide (h.lo=k.lo) && decide (h.hi=k.hi) && decide (h.most=k.most) && decide (h.name.s=k.name.s) && sameWds h.af k.af
mutual
def sameTy:Ty->Ty->Bool
 | .mk h ps,.mk k qs=>ki h k && samePts ps qs
def samePts:Pts->Pts->Bool
 | .nil,.nil=>true
 | .cons p t r,.cons q u s=>decide (p.name.s=q.name.s) && cm p q && sameTy t u && samePts r s
 | _,_=>false
end
theorem sy:∀ {a b:Pts},a.len≠b.len->samePts a b=false
 | .nil,.nil,h=>(h rfl).elim
 | .cons p t r,.cons q u s,h=>by
  have:r.len≠s.len:=by simpa [Pts.len] using h
  simp [samePts,sy this]
 | .nil,.cons _ _ _,_=>by simp [samePts]
 | .cons _ _ _,.nil,_=>by simp [samePts]
def iY (h:Hd):Hd:=
 ⟨h.ag,0,if h.ag=2 then h.lo else 0,if h.ag=2 then h.hi else 0,if h.ag=3∨h.ag=5 then h.most else 0,if h.ag=4 then h.af else [],if h.ag=9 then h.name else ⟨aq,0⟩⟩
def mask:Ty->Ty
 | .mk h ps=>.mk (iY h) (if 4 < h.ag/\h.ag < 9 then ps else .nil)
theorem yw (bx:List (List DV)) (N n m:Nat) (t:Ty):CcL bx N n m (dK t) (dK t):=by
 obtain ⟨h,ps⟩:=t;simp only [dK,CcL,Cc]
 repeat' (first | exact rfl | exact trivial | exact Or.inr (Or.inl ⟨_,rfl⟩) | refine ⟨_,_,rfl,?_,?_⟩)
abbrev EQ (a b:Ty) (e:Nat):St:=
 ⟨[aD 2 0,aD 3 1,au 5 e],[dK a,dK b],[]⟩
theorem mC:∀ (n:Nat) (a b:Ty),a.wt<=n->a.wt<=4611686018427387904 ->
  EvP prog 235 [.agg (dK a),.agg (dK b)] (.v (.bool (sameTy a b)))
 | 0,a,b,hn,_=>by have:=a.dP;omega
 | n + 1,.mk h ps,.mk k qs,hn,bY=>by
  simp only [Ty.wt,Hd.wt] at hn bY;have hl:=bp h.af;have ky:=ps.fq;refine eG 98 [.tmp 4] func235 rfl ntmps235 rfl fun _ _ _ _=>?_;refine br ?_ ?_<;>intro hA
  ·simp [aj] at hA;obtain ⟨⟨⟨⟨e1,e2⟩,e3⟩,e4⟩,e5⟩:=hA;refine cP Lp (ly h.af k.af (by omega)) ?_;refine br ?_ ?_<;>intro hB
   ·refine (bo ?_:);simp [aj,e1,e2,e3,e4,e5,aH] at hB;simp only [sameTy,ki];rcases hB with hB | hB
    ·simp [hB]
    ·have:ps.len≠qs.len:=by omega
     simp [sy this]
   ·simp [aj,e1,e2,e3,e4,e5,aH] at hB;obtain ⟨e6,e7⟩:=hB;have e8:ps.len=qs.len:=by omega
    have eh:sameTy (.mk h ps) (.mk k qs)=samePts ps qs:=by simp [sameTy,ki,e1,e2,e3,e4,e5,e6]
    refine aP (fun j st=>∃ e:Nat,st=EQ (.mk h ps) (.mk k qs) e/\e<=ps.len/\samePts ps qs=samePts (ps.drop e) (qs.drop e)/\j=ps.len - e) ps.len
     (EQ (.mk h ps) (.mk k qs) 0) (wkM wB) ⟨0,rfl,by omega,rfl,by omega⟩ ?_
    rintro j st ⟨e,rfl,he,aK,rfl⟩;refine br ?_ ?_<;>intro hL
    ·have av:e < ps.len:=by simpa [aH] using hL
     obtain ⟨p,t,hx⟩:=Pts.ej av;obtain ⟨q,u,hy⟩:=Pts.ej (e8 ▸ av);rw [Pts.drop_cons hx,Pts.drop_cons hy] at aK;have Cb:=Pts.fW (mG hx);obtain ⟨t,ts⟩:=t;obtain ⟨u,us⟩:=u;apply np (fun _=>false) 10 11 [0,1,2,3,4,5,6,7,8,9,10,11,12,13] [0,1,2,3,4,5,6,7,8,9,11,10,12,13] 2 3 mo (by decide +kernel)
     ·refine ⟨_,⟨by omega,bO hx⟩,_,⟨by omega,bO hy⟩,?_⟩;refine (?_:@Eq St _ _);exact rfl
     ·refine ⟨_,⟨by omega,bO hx⟩,_,⟨by omega,bO hy⟩,?_⟩;refine (⟨rfl,rfl,?_⟩:_/\_/\_)
      repeat' (first | exact trivial | refine ⟨rfl,?_⟩)
     ·rfl
     refine br ?_ ?_<;>intro hC
     ·have hC:p.name.s=q.name.s:=sU hC;refine cP Lo (lz p q (dK (.mk t ts)) (dK (.mk u us)) (by omega) (yw _ _ _ _ _) (yw _ _ _ _ _)) ?_;refine br ?_ ?_<;>intro hD
      ·have hD:cm p q=true:=by simpa [aj,hC] using hD
       refine cP mB (mC n (.mk t ts) (.mk u us) (by omega) (by omega)) ?_;refine br ?_ ?_<;>intro hE
       ·refine (bo ?_:);rw [eh,aK];simp [aj,hC,hD] at hE;simp [samePts,hE]
       ·simp [aj,hC,hD] at hE;refine ⟨EQ (.mk h ps) (.mk k qs) (e + 1),(wkM (wB1 (nxt av (by omega)))),ps.len - (e + 1),by omega,e + 1,rfl,by omega,?_,rfl⟩;rw [aK];simp [samePts,hC,hD,hE]
      ·have hD:cm p q=false:=by simpa [aj,hC] using hD
       refine (bo ?_:);rw [eh,aK];simp [samePts,hD]
     ·have hC:p.name.s≠q.name.s:=sU hC;refine (bo ?_:);rw [eh,aK];simp [samePts,hC]
    ·have hge:e=ps.len:=by have:=hL;simp [aH] at this;omega
     refine (bo ?_:);rw [eh,aK,hge,Pts.cW,e8,Pts.cW];simp [samePts]
  ·refine (bo ?_:);simp [aj] at hA;simp only [sameTy,ki]
   grind
theorem Cd (t:Ty) (bY:t.wt<=4611686018427387904) :
  EvP prog 238 [.agg (dK t)] (.v (.bool (sameTy t cv))):=by
 obtain ⟨h,ps⟩:=t;refine eG 6 [.tmp 2] func238 rfl ntmps238 rfl fun _ _ _ _=>?_;refine cP mB (mC _ (.mk h ps) cv (aW _) bY) ?_;exact (rfl:_=_)
theorem ER (t:Ty) (bY:t.wt<=4611686018427387904) :
  EvP prog 196 [.agg (dK t)] (.v (.bool (sameTy t (mask t)))):=by
 obtain ⟨h,ps⟩:=t
 have key:∀ (h':Hd) (ps':Pts),iY h=h' -> (if 4 < h.ag/\h.ag < 9 then ps else .nil)=ps' ->
   EvP prog 235 [.agg (dK (.mk h ps)),.agg (dK (.mk h' ps'))] (.v (.bool (sameTy (.mk h ps) (mask (.mk h ps))))):=by
  rintro h' ps' rfl rfl;exact mC _ (.mk h ps) _ (aW _) bY
 obtain ⟨ag,aE,lo,hi,most,af,name⟩:=h;by_cases hr:2<=ag/\ag<=9
 ·obtain hk | hk | hk | hk | hk | hk | hk | hk:ag=2∨ag=3∨ag=4∨ag=5∨ag=6∨ag=7∨ag=8∨ag=9:=by omega
  ·subst hk;refine eG 53 [.tmp 2] func196 rfl ntmps196 rfl fun _ _ _ _=>?_;refine cP mB (key ⟨2,0,lo,hi,0,[],⟨aq,0⟩⟩ .nil (by simp [iY]) (by simp)) ?_;exact (rfl:_=_)
  ·subst hk;refine eG 53 [.tmp 2] func196 rfl ntmps196 rfl fun _ _ _ _=>?_;refine cP mB (key ⟨3,0,0,0,most,[],⟨aq,0⟩⟩ .nil (by simp [iY]) (by simp)) ?_;exact (rfl:_=_)
  ·subst hk;refine eG 53 [.tmp 2] func196 rfl ntmps196 rfl fun _ _ _ _=>?_;refine cP mB (key ⟨4,0,0,0,0,af,⟨aq,0⟩⟩ .nil (by simp [iY]) (by simp)) ?_;exact (rfl:_=_)
  ·subst hk;refine eG 53 [.tmp 2] func196 rfl ntmps196 rfl fun _ _ _ _=>?_;refine cP mB (key ⟨5,0,0,0,most,[],⟨aq,0⟩⟩ ps (by simp [iY]) (by simp)) ?_;exact (rfl:_=_)
  ·subst hk;refine eG 53 [.tmp 2] func196 rfl ntmps196 rfl fun _ _ _ _=>?_;refine cP mB (key ⟨6,0,0,0,0,[],⟨aq,0⟩⟩ ps (by simp [iY]) (by simp)) ?_;exact (rfl:_=_)
  ·subst hk;refine eG 53 [.tmp 2] func196 rfl ntmps196 rfl fun _ _ _ _=>?_;refine cP mB (key ⟨7,0,0,0,0,[],⟨aq,0⟩⟩ ps (by simp [iY]) (by simp)) ?_;exact (rfl:_=_)
  ·subst hk;refine eG 53 [.tmp 2] func196 rfl ntmps196 rfl fun _ _ _ _=>?_;refine cP mB (key ⟨8,0,0,0,0,[],⟨aq,0⟩⟩ ps (by simp [iY]) (by simp)) ?_;exact (rfl:_=_)
  ·subst hk;refine eG 53 [.tmp 2] func196 rfl ntmps196 rfl fun _ _ _ _=>?_;refine cP mB (key ⟨9,0,0,0,0,[],name⟩ .nil (by simp [iY]) (by simp)) ?_;exact (rfl:_=_)
 ·refine eG 53 [.tmp 2] func196 rfl ntmps196 rfl fun _ _ _ _=>?_;refine br (fun c=>?_) (fun c1=>?_)
  ·have:ag=2:=of_decide_eq_true c;omega
  refine br (fun c=>?_) (fun c2=>?_)
  ·simp [aj] at c;omega
  refine br (fun c=>?_) (fun c3=>?_)
  ·have:ag=4:=of_decide_eq_true c;omega
  refine br (fun c=>?_) (fun c4=>?_)
  ·simp [pickB_and] at c;omega
  refine br (fun c=>?_) (fun c5=>?_)
  ·have:ag=9:=of_decide_eq_true c;omega
  have e1:¬ ag=2:=of_decide_eq_false c1;have e3:¬ ag=4:=of_decide_eq_false c3;have e5:¬ ag=9:=of_decide_eq_false c5;simp [aj,pickB_and] at c2 c4;refine cP mB (key ⟨ag,0,0,0,0,[],⟨aq,0⟩⟩ .nil (by simp [iY,e1,c2,e3,e5]) (by simp;omega)) ?_;exact (rfl:_=_)
abbrev Ft:Type:=Int × Int
def Ft.d (f:Ft):DV:=.agg [.v (.int .i64 f.1),.v (.int .i64 f.2)]
def badWd:List Wd->Ft
 | []=>(0,0)
 | w :: r=>if aM w.s then badWd r else (9,w.a)
def bJ (l:List Wd):Ft:=
 if l.length<=32 then badWd l else (8,((l[32]?).getD (⟨aq,0⟩:Wd)).a)
abbrev Ab (l:List Wd) (e:Nat):St:=
 ⟨[aZ 0 2 (bA l),aD 2 0,au 3 e],[[.v (.int .i64 0),.v (.int .i64 0)]],[]⟩
theorem lA (l:List Wd) (hs:wdsWt l<=4611686018427387904) :
  EvP prog 194 [.sl 2 (bA l) none] (bJ l).d:=by
 have oZ:=bp l;refine eG 32 [.cell 2 44] func194 rfl ntmps194 rfl fun _ _ _ _=>?_;refine br ?_ ?_<;>intro h
 ·have av:32 < l.length:=by simp [ay] at h;omega
  obtain ⟨x,hx⟩:=gX av;have:bJ l=(8,x.a):=by simp [bJ,Nat.not_le.2 av,hx]
  refine ⟨jL x,⟨by omega,aQ hx⟩,_,?_,rfl⟩;rw [this];exact ax
 ·have fN:l.length<=32:=by simp [ay] at h;omega
  refine aP (fun j st=>∃ e:Nat,st=Ab l e/\e<=l.length/\badWd l=badWd (l.drop e)/\j=l.length - e) l.length
   (Ab l 0) (wkM wB) ⟨0,rfl,by omega,rfl,by omega⟩ ?_
  rintro j st ⟨e,rfl,he,aK,rfl⟩;refine br ?_ ?_<;>intro hL
  ·have av:e < l.length:=by simpa [ay] using hL
   obtain ⟨x,hx⟩:=gX av;rw [drop_cons hx] at aK;have D7:=ij (mG hx);refine ⟨jL x,⟨by omega,aQ hx⟩,?_⟩;refine cP su (gl x.s (by omega)) ?_;refine br ?_ ?_<;>intro hN
   ·have hN:aM x.s=false:=sU hN;have:bJ l=(9,x.a):=by simp [bJ,fN,aK,badWd,hN]
    refine ⟨jL x,⟨by omega,aQ hx⟩,_,?_,rfl⟩;rw [this];exact ax
   ·have hN:aM x.s=true:=sU hN;refine ⟨Ab l (e + 1),(wkM (wB1 (nxt av (by omega)))),l.length - (e + 1),by omega,e + 1,rfl,by omega,?_,rfl⟩;rw [aK];simp [badWd,hN]
  ·have hge:e=l.length:=by simp [ay] at hL;omega
   have:bJ l=(0,0):=by simp [bJ,fN,aK,hge,badWd]
   refine ⟨_,?_,rfl⟩;rw [this];exact ax
def cq (l:List Wd) (s:ByteArray):Bool:=l.any fun w=>decide (w.s=s)
def aF (l:List Wd) (i:Nat) (x:Wd):Int:=
 if aM x.s then (if cq (l.take i) x.s then 10 else 0) else 9
abbrev uX (l:List Wd) (i e:Nat):St:=
 ⟨[aZ 0 2 (bA l),au 1 i,au 5 e],[],[]⟩
theorem nX (l:List Wd) (i:Nat) (x:Wd) (hs:wdsWt l<=4611686018427387904) (hx:l[i]? = some x) :
  EvP prog 197 [.sl 2 (bA l) none,.v (.int .i64 i)] (.v (.int .i64 (aF l i x))):=by
 have oZ:=bp l;have hi:=(gS hx).1;have D7:=ij (mG hx);refine eG 29 [.tmp 4] func197 rfl ntmps197 rfl fun _ _ _ _=>?_;refine ⟨jL x,⟨by omega,aQ hx⟩,?_⟩;refine cP su (gl x.s (by omega)) ?_;refine br ?_ ?_<;>intro hN
 ·have hN:aM x.s=false:=sU hN;refine (qY ?_:);simp [aF,hN]
 ·have hN:aM x.s=true:=sU hN
  refine aP (fun j st=>∃ e:Nat,st=uX l i e/\e<=i/\cq (l.take e) x.s=false/\j=i - e) i
   (uX l i 0) (wkM wB) ⟨0,rfl,by omega,rfl,by omega⟩ ?_
  rintro j st ⟨e,rfl,he,aK,rfl⟩;refine br ?_ ?_<;>intro hL
  ·have av:e < i:=sU hL;obtain ⟨y,hy⟩:∃ y,l[e]? = some y:=⟨_,gE (by omega)⟩;refine dI ?_;refine ⟨jL y,⟨by omega,aQ hy⟩,jL x,⟨by omega,aQ hx⟩,?_⟩;refine br ?_ ?_<;>intro hE
   ·have hE:y.s=x.s:=sU hE;refine (qY ?_:)
    have:cq (l.take i) x.s=true:=by
     simp only [cq,List.any_eq_true];exact ⟨y,List.mem_take_iff_getElem.2 ⟨e,by omega,(gS hy).2⟩,by simpa using hE⟩
    simp [aF,hN,this]
   ·have hE:¬ y.s=x.s:=sU hE;refine ⟨uX l i (e + 1),(wkM (wB1 (nxt av (by omega)))),i - (e + 1),by omega,e + 1,rfl,by omega,?_,rfl⟩;rw [List.take_add_one,hy];simp only [cq,List.any_append] at aK ⊢;simp [aK,hE]
  ·have hge:e=i:=by have:=of_decide_eq_false hL;omega
   refine (qY ?_:);subst hge;simp [aF,hN,aK]
def pNames:Pts->List Wd
 | .nil=>[]
 | .cons p _ r=>p.name :: pNames r
theorem fX:∀ ps:Pts,(pNames ps).length=ps.len
 | .nil=>rfl
 | .cons p t r=>by simp [pNames,Pts.len,fX r]
theorem fY:∀ {ps:Pts} {j:Nat} {p:Ph} {t:Ty},ps.toList[j]? = some (p,t)->(pNames ps)[j]? = some p.name
 | .nil,j,p,t,h=>by simp [Pts.toList] at h
 | .cons q u r,0,p,t,h=>by grind [Pts.toList,pNames]
 | .cons q u r,j + 1,p,t,h=>by
  simp only [Pts.toList,List.getElem?_cons_succ] at h;simp only [pNames,List.getElem?_cons_succ];exact fY h
theorem ri:∀ ps:Pts,wdsWt (pNames ps)<=ps.wt
 | .nil=>aW _
 | .cons p t r=>by
  have:=ri r
  grind [pNames,wdsWt,Pts.wt,Ph.wt]
abbrev Ac (ps:Pts) (l:List Wd) (n e:Nat):St:=
 ⟨[aZ 0 18 (fu ps),(3,⟨[],.sl 2 (bA l) (some 0)⟩),au 4 e],[],[⟨n,27,2,none⟩]⟩
theorem Ad (ps:Pts) (hs:ps.wt<=1099511627776):EvP prog 237 [.sl 18 (fu ps) none] (.sl 2 (bA (pNames ps)) none):=by
 have ky:=ps.fq;refine eG 20 [.tmp 2] func237 rfl ntmps237 rfl fun _ _ _ _=>?_
 refine aP (fun j st=>∃ (e:Nat),st=Ac ps ((pNames ps).take e) e e/\e<=ps.len/\j=ps.len - e) ps.len
  (Ac ps [] 0 0) (fA ⟨0,27,2,none⟩ rfl ⟨_,rfl⟩ rfl wA rfl rfl gR) ⟨0,by simp,by omega,by omega⟩ ?_
 rintro j st ⟨e,rfl,he,rfl⟩;refine br ?_ ?_<;>intro hL
 ·have av:e < ps.len:=by simpa [aH] using hL
  obtain ⟨p,t,hx⟩:=Pts.ej av;refine iX (bO hx) ?_;refine ⟨by simp [ay,fX];omega,⟨by simp [ay,fX,maxLen];omega,by simp [ay,fX];omega⟩,?_⟩;refine ⟨Ac ps ((pNames ps).take (e + 1)) (e + 1) (e + 1),(wkM (wB2 (nxt av (by omega)) (yq (fY hx)))),ps.len - (e + 1),by omega,e + 1,rfl,by omega,rfl⟩
 ·have hge:e=ps.len:=by simp [aH] at hL;omega
  rw [hge,List.take_of_length_le (by rw [fX];omega)];exact ⟨_,ax,rfl⟩
mutual
def Ty.cnt:Ty->Nat
 | .mk _ ps=>1 + ps.cnt
def Pts.cnt:Pts->Nat
 | .nil=>0
 | .cons p t r=>(if p.bare then 0 else t.cnt) + r.cnt
end
mutual
def Ty.deep:Ty->Nat
 | .mk _ ps=>ps.deep + 1
def Pts.deep:Pts->Nat
 | .nil=>0
 | .cons p t r=>max (if p.bare then 0 else t.deep) r.deep
end
mutual
theorem Ty.ek:∀ t:Ty,t.cnt<=t.wt
 | .mk h ps=>by have:=Pts.ek ps;simp only [Ty.cnt,Ty.wt,Hd.wt];omega
theorem Pts.ek:∀ ps:Pts,ps.cnt<=ps.wt
 | .nil=>aW _
 | .cons p t r=>by
  have:=Ty.ek t;have:=Pts.ek r;simp only [Pts.cnt,Pts.wt];split<;>omega
end
mutual
theorem Ty.nu:∀ t:Ty,t.deep<=t.wt
 | .mk h ps=>by have:=Pts.nu ps;simp only [Ty.deep,Ty.wt,Hd.wt];omega
theorem Pts.nu:∀ ps:Pts,ps.deep<=ps.wt
 | .nil=>aW _
 | .cons p t r=>by
  have:=Ty.nu t;have:=Pts.nu r
  grind [Pts.deep,Pts.wt]
end
abbrev Ae (t:Ty) (e n d:Nat):St:=
 ⟨[aD 1 0,au 4 n,au 5 d,au 6 e],[dK t],[]⟩
theorem j5:∀ (k:Nat) (t:Ty),t.wt<=k->t.wt<=1099511627776 ->
  EvP prog 55 [.agg (dK t)] (.tup [.v (.int .i64 t.cnt),.v (.int .i64 t.deep)])
 | 0,t,hn,_=>by have:=t.dP;omega
 | k + 1,.mk h ps,hn,bY=>by
  simp only [Ty.wt,Hd.wt] at hn bY;have ky:=ps.fq;have hc:=ps.ek;have hdp:=ps.nu;refine eG 42 [.tmp 2,.tmp 3] func55 rfl ntmps55 rfl fun _ _ _ _=>?_
  refine aP (fun j st=>∃ (e n d:Nat),st=Ae (.mk h ps) e n d/\e<=ps.len/\n + (ps.drop e).cnt=1 + ps.cnt/\max d (ps.drop e).deep=ps.deep/\j=ps.len - e) ps.len
   (Ae (.mk h ps) 0 1 0) (wkM wB) ⟨0,1,0,rfl,by omega,rfl,by simp [Pts.drop],by omega⟩ ?_
  rintro j st ⟨e,n,d,rfl,he,bg,Vv,rfl⟩;refine br ?_ ?_<;>intro hL
  ·have av:e < ps.len:=by simpa [aH] using hL
   obtain ⟨p,t,hx⟩:=Pts.ej av;have Cb:=Pts.fW (mG hx);rw [Pts.drop_cons hx] at bg Vv;simp only [Pts.cnt,Pts.deep] at bg Vv;have hct:=t.ek;have hdt:=t.nu;refine iX (bO hx) ?_;refine br ?_ ?_<;>intro hB
   ·rw [ai hB] at bg Vv;exact rE ⟨_,by omega,e + 1,n,d,rfl,by omega,by omega,by omega,rfl⟩ (wkM (wB1 (nxt av (by omega))))
   ·rw [ah (by simp [hB])] at bg Vv;obtain ⟨u,us⟩:=t;refine iX (bO hx) ?_;refine cP Pf (j5 k (.mk u us) (by omega) (by omega)) ?_;have qI:IntKind.i64.wrap ((n:Int) + (Ty.mk u us).cnt)=((n + (Ty.mk u us).cnt:Nat):Int):=by rw [wrap64 (by omega) (by omega)];omega
    refine br ?_ ?_<;>intro hD
    ·have hD:d < (Ty.mk u us).deep:=sU hD;exact ⟨Ae (.mk h ps) (e + 1) (n + (Ty.mk u us).cnt) (Ty.mk u us).deep,(wkM (wB2 qI (nxt av (by omega)))),ps.len - (e + 1),by omega,e + 1,_,_,rfl,by omega,by omega,by omega,rfl⟩
    ·have hD:¬ d < (Ty.mk u us).deep:=sU hD;exact ⟨Ae (.mk h ps) (e + 1) (n + (Ty.mk u us).cnt) d,(wkM (wB2 qI (nxt av (by omega)))),ps.len - (e + 1),by omega,e + 1,_,_,rfl,by omega,by omega,by omega,rfl⟩
  ·have hge:e=ps.len:=by simp [aH] at hL;omega
   rw [hge,Pts.cW] at bg Vv;simp only [Pts.cnt,Pts.deep] at bg Vv;have e1:IntKind.i64.wrap ((d:Int) + 1)=((Ty.mk h ps).deep:Int):=by rw [wrap64 (by omega) (by omega)];simp only [Ty.deep];omega
   have e2:(n:Int)=((Ty.mk h ps).cnt:Int):=by simp only [Ty.cnt];omega
   refine ⟨_,?_,rfl⟩;rw [<- e1,<- e2];exact ax
def wD (f:Ft) (n:Int):DV:=.agg [.v (.int .i64 f.1),.v (.int .i64 f.2),.v (.int .i64 n)]
theorem dZ (f:Ft) (n e a:Int):EvP prog 195 [wD f n,.v (.int .i64 e),.v (.int .i64 a)] (wD (e,a) n):=by
 refine eG 13 [.cell 6 248] func195 rfl ntmps195 rfl fun _ _ _ _=>?_;exact ⟨_,ax,rfl⟩
def aU (p:Ph):Ft:=
 if p.ck=0 then (if p.cn=0/\p.cl=[] then (0,0) else (19,p.name.a))
 else if p.ck < 0∨3 < p.ck then (14,p.ca)
 else if (p.ck=1/\p.cn < 1)∨(p.ck=2/\(p.cn < 0∨4096 < p.cn))∨(p.ck=3/\p.cn≠0) then (20,p.ca)
 else bJ p.cl
theorem xO (p:Ph) (tl:List DV) (hs:p.wt<=4611686018427387904) :
  EvP prog 239 [.agg (EL p tl)] (aU p).d:=by
 simp only [Ph.wt] at hs;refine eG 73 [.cell 2 44] func239 rfl ntmps239 rfl fun _ _ _ _=>?_;refine br ?_ ?_<;>intro h0
 ·have h0:p.ck=0:=sU h0;refine br ?_ ?_<;>intro h1
  ·have:aU p=(19,p.name.a):=by grind [aj,ay,aU]
   refine ⟨_,?_,rfl⟩;rw [this];exact ax
  ·have:aU p=(0,0):=by
    simp [aj,ay] at h1;simp [aU,h0,h1.1,h1.2]
   refine ⟨_,?_,rfl⟩;rw [this];exact ax
 ·have h0:¬ p.ck=0:=sU h0;refine br ?_ ?_<;>intro h1
  ·have:aU p=(14,p.ca):=by grind [aj,aU]
   refine ⟨_,?_,rfl⟩;rw [this];exact ax
  ·simp [aj] at h1;refine br ?_ ?_<;>intro h2
   ·have:aU p=(20,p.ca):=by grind [aj,pickB_and,aU]
    refine ⟨_,?_,rfl⟩;rw [this];exact ax
   ·have hc:aU p=bJ p.cl:=by grind [aj,pickB_and,aU]
    refine cP Ln (lA p.cl (by omega)) ?_;refine ⟨_,?_,rfl⟩;rw [hc];exact ax
def enumL (all:List Wd):Nat->List Wd->Ft
 | _,[]=>(0,0)
 | i,x :: r=>if aF all i x≠0 then (aF all i x,x.a) else enumL all (i + 1) r
def il (h:Hd):Ft:=
 if h.af=[] then (15,h.aE)
 else if 64 < h.af.length then (8,((h.af[64]?).getD (⟨aq,0⟩:Wd)).a)
 else enumL h.af 0 h.af
def dF (p:Ph):Ft:=
 if p.wide < 0∨64 < p.wide then (20,p.name.a)
 else if (bJ p.label).1≠0 then bJ p.label
 else aU p
def uY (t:Ty):Bool:=sameTy t (mask t)
mutual
def wrong:Ty->Int->Int->Ft × Int
 | .mk h ps,depth,m=>
  if 24 < depth then ((6,h.aE),m + 1)
  else if 512 < m + 1 then ((8,h.aE),m + 1)
  else if h.ag < 1∨9 < h.ag then ((14,h.aE),m + 1)
  else if uY (.mk h ps)=false then ((19,h.aE),m + 1)
  else if (h.ag=2/\h.hi < h.lo)∨(h.ag=3/\(h.most < 0∨4096 < h.most)) then ((20,h.aE),m + 1)
  else if h.ag=9/\aM h.name.s=false then ((9,h.name.a),m + 1)
  else if h.ag=4 then (il h,m + 1)
  else if h.ag=5∨h.ag=6 then wrongOne h ps depth (m + 1)
  else if h.ag=7∨h.ag=8 then
   if h.ag=8/\ps.len=0 then ((15,h.aE),m + 1)
   else if 64 < ps.len then ((8,(((pNames ps)[64]?).getD (⟨aq,0⟩:Wd)).a),m + 1)
   else wrongPts h.ag (pNames ps) 0 ps depth (m + 1)
  else ((0,0),m + 1)
def wrongOne:Hd->Pts->Int->Int->Ft × Int
 | h,.cons p t .nil,depth,m=>
  if p.name.s≠aq∨cm p eU=false then ((19,h.aE),m)
  else if h.most < 0∨1024 < h.most then ((20,h.aE),m)
  else wrong t (depth + 1) m
 | h,_,_,m=>((19,h.aE),m)
def wrongPts (ag:Int) (all:List Wd):Nat->Pts->Int->Int->Ft × Int
 | _,.nil,_,m=>((0,0),m)
 | i,.cons p t r,depth,m=>
  if aF all i p.name≠0 then ((aF all i p.name,p.name.a),m)
  else if p.bare=true then
   if ag=7∨sameTy t cv=false∨cm p iW=false then ((19,p.name.a),m) else wrongPts ag all (i + 1) r depth m
  else if (dF p).1≠0 then (dF p,m)
  else if (wrong t (depth + 1) m).1.1≠0 then wrong t (depth + 1) m
  else wrongPts ag all (i + 1) r depth (wrong t (depth + 1) m).2
end
def Af (k:Nat):Prop:=∀ (t:Ty) (depth m:Int),t.wt<=k->t.wt<=1099511627776->0<=depth->depth<=25->0<=m->m<=512 ->
 EvP prog 160 [wD (0,0) m,.agg (dK t),.v (.int .i64 depth)] (wD (wrong t depth m).1 (wrong t depth m).2)
abbrev Hg (t:Ty) (e:Nat) (depth m:Int):St:=
 ⟨[au 2 depth,aD 3 0,aD 4 1,aD 6 2,au 7 e],[[.v (.int .i64 0),.v (.int .i64 0),.v (.int .i64 m)],dK t,[.v (.int .i64 0),.v (.int .i64 0),.v (.int .i64 0)]],[]⟩
def eI (h:Hd) (ps:Pts) (depth m:Int):Ft × Int:=
 if h.ag=8/\ps.len=0 then ((15,h.aE),m)
 else if 64 < ps.len then ((8,(((pNames ps)[64]?).getD (⟨aq,0⟩:Wd)).a),m)
 else wrongPts h.ag (pNames ps) 0 ps depth m
theorem Ce (all:List Wd):∀ (l:List Wd) (i:Nat),(enumL all i l).1=0->enumL all i l=(0,0)
 | [],_,_=>rfl
 | x :: r,i,h=>by
  have ih:=Ce all r (i + 1)
  grind [enumL]
theorem yx (h:Hd) (he:(il h).1=0):il h=(0,0):=by grind [il,Ce]
mutual
theorem pK:∀ (t:Ty) (depth m:Int),0<=m->(wrong t depth m).1.1=0->(wrong t depth m).1=(0,0)/\0<=(wrong t depth m).2/\(wrong t depth m).2<=512
 | .mk h ps,depth,m,hm,he=>by
  have i1:=Cf h ps depth (m + 1) (by omega);have i2:=mD h.ag (pNames ps) ps 0 depth (m + 1) (by omega);have i3:=yx h;simp only [wrong] at he ⊢;by_cases c0:24 < depth
  ·rw [ai c0] at he;simp at he
  rw [ah c0] at he ⊢;by_cases c1:512 < m + 1
  ·rw [ai c1] at he;simp at he
  rw [ah c1] at he ⊢;by_cases c2:h.ag < 1∨9 < h.ag
  all_goals grind
theorem Cf:∀ (h:Hd) (ps:Pts) (depth m:Int),0<=m->m<=512->(wrongOne h ps depth m).1.1=0->(wrongOne h ps depth m).1=(0,0)/\0<=(wrongOne h ps depth m).2/\(wrongOne h ps depth m).2<=512
 | h,.nil,depth,m,hm,_,he=>by simp [wrongOne] at he
 | h,.cons p t .nil,depth,m,hm,h5,he=>by
  have ih:=pK t (depth + 1) m hm
  grind [wrongOne]
 | h,.cons p t (.cons _ _ _),depth,m,hm,_,he=>by simp [wrongOne] at he
theorem mD (ag:Int) (all:List Wd):∀ (ps:Pts) (i:Nat) (depth m:Int),0<=m->m<=512->(wrongPts ag all i ps depth m).1.1=0->(wrongPts ag all i ps depth m).1=(0,0)/\0<=(wrongPts ag all i ps depth m).2/\(wrongPts ag all i ps depth m).2<=512
 | .nil,i,depth,m,hm,h5,he=>by simp only [wrongPts];exact ⟨trivial,hm,h5⟩
 | .cons p t r,i,depth,m,hm,h5,he=>by
  have i1:=pK t (depth + 1) m hm;simp only [wrongPts] at he ⊢;split at he
  ·rename_i h1;exact (h1 he).elim
  ·rename_i h1;rw [ah h1];split at he
   ·rename_i h2;rw [ai h2];split at he
    ·simp at he
    ·rename_i h3;rw [ah h3];exact mD ag all r (i + 1) depth m hm h5 he
   ·rename_i h2;rw [ah h2];split at he
    ·rename_i h3;exact (h3 he).elim
    ·rename_i h3;rw [ah h3];split at he
     ·rename_i h4;exact (h4 he).elim
     ·rename_i h4;rw [ah h4];have i2:=i1 (sU h4);exact mD ag all r (i + 1) depth _ i2.2.1 i2.2.2 he
end
theorem Ag (k:Nat) (ih:Af k) (h:Hd) (ps:Pts) (depth m:Int) (hk:ps.wt<=k) (bY:(Ty.mk h ps).wt<=1099511627776) (yt:0<=depth) (Eb:depth<=24) (l8:0<=m) (gM:m<=512) :
  EvP prog 199 [wD (0,0) m,.agg (dK (.mk h ps)),.v (.int .i64 depth)] (wD (eI h ps depth m).1 (eI h ps depth m).2):=by
 simp only [Ty.wt,Hd.wt] at bY;have ky:=ps.fq;have TN:=ri ps;refine eG 126 [.cell 6 248] func199 rfl ntmps199 rfl fun _ _ _ _=>?_;refine br ?_ ?_<;>intro c1
 ·refine cP gk (dZ (0,0) m 15 h.aE) ?_;have:eI h ps depth m=((15,h.aE),m):=by grind [pickB_and,aH,eI]
  refine ⟨_,?_,rfl⟩;rw [this];exact ax
 ·have c1':¬ (h.ag=8/\ps.len=0):=by
   simp [pickB_and,aH] at c1;omega
  refine br ?_ ?_<;>intro c2
  ·have av:64 < ps.len:=by simp [aH] at c2;omega
   obtain ⟨p,t,hx⟩:=Pts.ej av;refine zV (fun i=>Nat.beq i 8) mo (by decide +kernel) ?_;refine iX (bO hx) ?_;refine cD gk (dZ (0,0) m 8 p.name.a) ?_;have:eI h ps depth m=((8,p.name.a),m):=by grind [eI,fY]
   refine ⟨_,?_,rfl⟩;rw [this];exact ax
  ·have c2':¬ 64 < ps.len:=by simp [aH] at c2;omega
   have hF:eI h ps depth m=wrongPts h.ag (pNames ps) 0 ps depth m:=by simp only [eI,ah c1',ah c2']
   refine aP (fun j st=>∃ (e:Nat) (m':Int),st=Hg (.mk h ps) e depth m' /\ e<=ps.len/\0<=m' /\ m' <= 512 /\
     wrongPts h.ag (pNames ps) 0 ps depth m=wrongPts h.ag (pNames ps) e (ps.drop e) depth m' /\ j=ps.len - e) ps.len
    (Hg (.mk h ps) 0 depth m) (wkM wB) ⟨0,m,rfl,by omega,l8,gM,rfl,by omega⟩ ?_
   rintro j st ⟨e,m',rfl,he,tu,Cg,aK,rfl⟩;refine br ?_ ?_<;>intro hL
   ·have av:e < ps.len:=by simpa [aH] using hL
    obtain ⟨p,t,hx⟩:=Pts.ej av;rw [Pts.drop_cons hx] at aK;have Cb:=Pts.fW (mG hx);obtain ⟨u,us⟩:=t;refine iX (bO hx) ?_;refine cP XU (Ad ps (by omega)) ?_;refine cP Rz (nX (pNames ps) e p.name (by omega) (fY hx)) ?_;refine br ?_ ?_<;>intro hl
    ·have hl:aF (pNames ps) e p.name≠0:=sU hl;refine cP gk (dZ (0,0) m' _ p.name.a) ?_;have:eI h ps depth m=((aF (pNames ps) e p.name,p.name.a),m'):=by grind [wrongPts]
     refine ⟨_,?_,rfl⟩;rw [this];exact ax
    ·have hl:aF (pNames ps) e p.name=0:=sU hl;simp only [wrongPts] at aK;rw [ah (by simp [hl])] at aK;refine br ?_ ?_<;>intro hB
     ·rw [ai hB] at aK;refine br ?_ ?_<;>intro k7
      ·have k7:¬ h.ag=7:=sU k7;refine cP XV (Cd (.mk u us) (by omega)) ?_;refine br ?_ ?_<;>intro z
       ·have z:sameTy (.mk u us) cv=true:=by simpa [aj,k7] using z
        refine cP Lo (lz p iW (dK (.mk u us)) (dK cv) (by omega) (yw _ _ _ _ _) (yw _ _ _ _ _)) ?_;refine br ?_ ?_<;>intro q
        ·have q:cm p iW=false:=by simpa [aj,k7,z] using q
         refine cP gk (dZ (0,0) m' 19 p.name.a) ?_;rw [ai (by simp [q])] at aK;refine ⟨_,?_,rfl⟩;rw [hF,aK];exact ax
        ·have q:cm p iW=true:=by simpa [aj,k7,z] using q
         rw [ah (by simp [k7,z,q])] at aK;exact rE ⟨_,by omega,e + 1,m',rfl,by omega,tu,Cg,aK,rfl⟩ (wkM (wB1 (nxt av (by omega))))
       ·have z:sameTy (.mk u us) cv=false:=by simpa [aj,k7] using z
        refine cP gk (dZ (0,0) m' 19 p.name.a) ?_;rw [ai (by simp [z])] at aK;refine ⟨_,?_,rfl⟩;rw [hF,aK];exact ax
      ·have k7:h.ag=7:=sU k7;refine cP gk (dZ (0,0) m' 19 p.name.a) ?_;rw [ai (by simp [k7])] at aK;refine ⟨_,?_,rfl⟩;rw [hF,aK];exact ax
     ·rw [ah (by simp [hB])] at aK;refine br ?_ ?_<;>intro hw
      ·have hP:dF p=(20,p.name.a):=by grind [aj,dF]
       rw [ai (by rw [hP];simp),hP] at aK;refine ⟨_,?_,rfl⟩;rw [hF,aK];exact ax
      ·have hw:¬ (p.wide < 0∨64 < p.wide):=by simp [aj] at hw;omega
       have hpw:p.wt<=ps.wt:=by omega
       simp only [Ph.wt] at hpw;refine cP Ln (lA p.label (by omega)) ?_;refine br ?_ ?_<;>intro hb
       ·have hb:(bJ p.label).1=0:=sU hb;have hP:dF p=aU p:=by simp only [dF,ah hw,hb,ne_eq,not_true_eq_false,if_false]
        rw [hP] at aK;refine cP XW (xO p (dK (.mk u us)) (by omega)) ?_ (by repeat' (first | exact rfl | exact trivial | exact Or.inr (Or.inl ⟨_,rfl⟩) | exact Or.inr ⟨_,rfl⟩ | exact Or.inl ⟨rfl,rfl⟩ | exact Or.inl rfl | refine Or.inr ⟨_,_,rfl,Nat.zero_le _,rfl,?_⟩ | refine ⟨_,_,rfl,?_,?_⟩ | refine ⟨_,rfl,?_⟩ | exact congrArg DV.agg rfl| refine Or.inr (Or.inr (Or.inr ⟨_,_,rfl,?_⟩)) | exact Or.inl rfl | refine Or.inr ?_));refine br ?_ ?_<;>intro hc
        ·have hc:(aU p).1≠0:=sU hc;rw [ai hc] at aK;refine ⟨_,?_,rfl⟩;rw [hF,aK];exact ax
        ·have hc:(aU p).1=0:=sU hc;rw [ah (by simp [hc])] at aK;have D8:=ih (.mk u us) (depth + 1) m' (by omega) (by omega) (by omega) (by omega) tu Cg;have bF:=pK (.mk u us) (depth + 1) m' tu;generalize wrong (.mk u us) (depth + 1) m'=r at D8 bF aK;obtain ⟨⟨fe,fa⟩,many⟩:=r;simp only at D8 bF aK;refine cP Lj D8 ?_ (by repeat' (first | exact rfl | exact trivial | exact Or.inr (Or.inl ⟨_,rfl⟩) | exact Or.inr ⟨_,rfl⟩ | exact Or.inl ⟨rfl,rfl⟩ | exact Or.inl rfl | refine Or.inr ⟨_,_,rfl,Nat.zero_le _,rfl,?_⟩ | refine ⟨_,_,rfl,?_,?_⟩ | refine ⟨_,rfl,?_⟩ | exact congrArg (fun z=>DV.v (.int .i64 z)) (wrap64 (by omega) (by omega))| refine Or.inr (Or.inr (Or.inr ⟨_,_,rfl,?_⟩)) | exact Or.inl rfl | refine Or.inr ?_));refine br ?_ ?_<;>intro hd
         ·have hd:fe≠0:=sU hd;rw [ai hd] at aK;refine ⟨_,?_,rfl⟩;rw [hF,aK];exact ax
         ·have hd:fe=0:=sU hd;subst hd;obtain ⟨h1,h2,h3⟩:=bF rfl;simp only [Prod.mk.injEq,true_and] at h1;subst h1;rw [ah (by simp)] at aK;exact rE ⟨_,by omega,e + 1,many,rfl,by omega,h2,h3,aK,rfl⟩ (wkM (wB1 (nxt av (by omega))))
       ·have hb:¬ (bJ p.label).1=0:=sU hb;have hP:dF p=bJ p.label:=by simp only [dF,ah hw];rw [ai hb]
        rw [hP,ai hb] at aK;refine br ?_ ?_<;>intro hc
        ·refine ⟨_,?_,rfl⟩;rw [hF,aK];exact ax
        ·exact (hb (sU hc)).elim
   ·have hge:e=ps.len:=by simp [aH] at hL;omega
    rw [hge,Pts.cW] at aK;refine ⟨_,?_,rfl⟩;rw [hF,aK];simp only [wrongPts];exact ax
theorem bz (e a:Int):EvP prog 174 [.v (.int .i64 e),.v (.int .i64 a)] (Ft.d (e,a)):=by
 refine eG 8 [.cell 4 44] func174 rfl ntmps174 rfl fun _ _ _ _=>?_;exact ⟨_,ax,rfl⟩
noncomputable def gz (L:List ByteArray) (x:ByteArray) (a:Int):Ft:=if aM x=true then (if L.Nodup then (0,0) else (10,a)) else (9,a)
theorem sA (L:List ByteArray) (x:ByteArray) (a:Int) (hx:L[L.length - 1]? = some x) (hl:L.length<=1099511627776) (D7:x.size<=4611686018427387904) :
  EvP prog 228 [.sl 1 (eE L) none,.v (.int .i64 a)] (gz L x a).d:=by
 have hN:=bW L;have pq:=(gS hx).1;have hz:IntKind.i64.wrap (((eE L).length:Int) - 1)=((L.length - 1:Nat):Int):=by rw [hN,wrap64 (by omega) (by omega)];omega
 refine eG 23 [.cell 4 44] func228 rfl ntmps228 rfl fun _ _ _ _=>?_;refine ⟨[.v (.string x)],⟨by rw [hz];omega,by rw [hz];exact fh hx⟩,?_⟩;refine cP zX (eV x D7) ?_;refine br ?_ ?_<;>intro h
 ·have h:aM x=false:=sU h;refine cP dO (bz 9 a) ?_;refine ⟨_,?_,rfl⟩;rw [gz,ah (by rw [h];decide)];exact ax
 ·have h:aM x=true:=sU h;refine bG TC rfl (oy L hl) ax (fun r hr=>?_);obtain ⟨z,rfl,hz⟩:=hr;refine br ?_ ?_<;>intro h2
  ·have h2:0<=z:=sU h2;refine cP dO (bz 10 a) ?_;refine ⟨_,?_,rfl⟩;rw [gz,ai h,ah (hz.1 h2)];exact ax
  ·have h2:¬ 0<=z:=sU h2;refine ⟨_,?_,rfl⟩;rw [gz,ai h,ai (Classical.byContradiction fun hn=>h2 (hz.2 hn))];exact ax
theorem ES {l:List Wd} {e:Nat} {x:Wd} (h:l[e]? = some x):bA ((l.map fun w=>(⟨w.s,0⟩:Wd)).take e) ++ [[.v (.string x.s),.v (.int .i64 0)]]=bA ((l.map fun w=>(⟨w.s,0⟩:Wd)).take (e + 1)):=by
 have h2:(l.map fun w=>(⟨w.s,0⟩:Wd))[e]? = some ⟨x.s,0⟩:=by simp [h]
 exact yq h2
def im (l:List Wd):List Wd:=l.map fun w=>⟨w.s,0⟩
abbrev LJ (l l':List Wd) (n e:Nat):St:=
 ⟨[aZ 6 2 (bA l),au 7 ((bA l).length),au 8 e,(3,⟨[],.sl 2 (bA l') (some 0)⟩)],[],[⟨n,27,2,none⟩]⟩
theorem uZ (l:List Wd) (hs:wdsWt l<=1099511627776):EvP prog 284 [.sl 2 (bA l) none] (.sl 2 (bA (im l)) none):=by
 have hl:=bp l;refine eG 20 [.tmp 2] func284 rfl ntmps284 rfl fun _ _ _ _=>?_;refine aP (fun j st=>∃ e:Nat,st=LJ l ((im l).take e) e e/\e<=l.length/\j=l.length - e) l.length (LJ l [] 0 0) (fA ⟨0,27,2,none⟩ rfl ⟨_,rfl⟩ rfl wA rfl rfl gR) ⟨0,by simp,by omega,by omega⟩ ?_;rintro j st ⟨e,rfl,he,rfl⟩;refine br ?_ ?_<;>intro h
 ·have av:e < l.length:=by simpa [ay] using h
  obtain ⟨w,hw⟩:=gX av;refine ⟨jL w,⟨by omega,aQ hw⟩,?_⟩;refine ⟨by simp [ay,im];omega,⟨by simp [ay,im,maxLen];omega,by simp [ay,im];omega⟩,?_⟩;refine ⟨LJ l ((im l).take (e + 1)) (e + 1) (e + 1),(wkM (wB2 (nxt av (by omega)) (ES hw))),l.length - (e + 1),by omega,e + 1,rfl,by omega,rfl⟩
 ·have hge:e=l.length:=by
   have:=h;simp [ay] at this;omega
  rw [hge,List.take_of_length_le (by simp [im])];exact ⟨_,ax,rfl⟩
abbrev u0 (l:List Wd) (e:Nat):St:=
 ⟨[aZ 13 2 (bA l),au 14 ((bA l).length),aD 2 0,au 15 e],[[.v (.int .i64 0),.v (.int .i64 0)]],[]⟩
theorem iF (l:List Wd) (hs:wdsWt l<=1099511627776) :
  EvP prog 253 [.sl 2 (bA l) none] (bJ l).d:=by
 have oZ:=bp l;refine eG 28 [.cell 2 44] func253 rfl ntmps253 rfl fun _ _ _ _=>?_;refine br ?_ ?_<;>intro h
 ·have av:32 < l.length:=by simp [ay] at h;omega
  obtain ⟨x,hx⟩:=gX av;have:bJ l=(8,x.a):=by simp [bJ,Nat.not_le.2 av,hx]
  refine ⟨jL x,⟨by omega,aQ hx⟩,?_⟩;refine cP dO (bz 8 x.a) ?_;refine ⟨_,?_,rfl⟩;rw [this];exact ax
 ·have fN:l.length<=32:=by simp [ay] at h;omega
  refine aP (fun j st=>∃ e:Nat,st=u0 l e/\e<=l.length/\badWd l=badWd (l.drop e)/\j=l.length - e) l.length
   (u0 l 0) (wkM wB) ⟨0,rfl,by omega,rfl,by omega⟩ ?_
  rintro j st ⟨e,rfl,he,aK,rfl⟩;refine br ?_ ?_<;>intro hL
  ·have av:e < l.length:=by simpa [ay] using hL
   obtain ⟨x,hx⟩:=gX av;rw [drop_cons hx] at aK;have D7:=ij (mG hx);refine ⟨jL x,⟨by omega,aQ hx⟩,?_⟩;refine cP zX (eV x.s (by omega)) ?_;refine br ?_ ?_<;>intro hN
   ·have hN:aM x.s=false:=sU hN;have:bJ l=(9,x.a):=by simp [bJ,fN,aK,badWd,hN]
    refine cP dO (bz 9 x.a) ?_;refine ⟨_,?_,rfl⟩;rw [this];exact ax
   ·have hN:aM x.s=true:=sU hN;refine ⟨u0 l (e + 1),(wkM (wB1 (nxt av (by omega)))),l.length - (e + 1),by omega,e + 1,rfl,by omega,?_,rfl⟩;rw [aK];simp [badWd,hN]
  ·have hge:e=l.length:=by simp [ay] at hL;omega
   have:bJ l=(0,0):=by simp [bJ,fN,aK,hge,badWd]
   refine ⟨_,?_,rfl⟩;rw [this];exact ax
theorem Ah (p:Ph) (tl:List DV) (t:Ty) (gN:tl=dK t) (hs:p.wt<=1099511627776) :
  EvP prog 254 [.agg (EL p tl)] (aU p).d:=by
 subst gN;obtain ⟨u,us⟩:=t;simp only [Ph.wt] at hs;refine eG 55 [.cell 2 44] func254 rfl ntmps254 rfl fun _ _ _ _=>?_;refine br ?_ ?_<;>intro h0
 ·have h0:p.ck=0:=of_decide_eq_true h0;refine br ?_ ?_<;>intro h1
  ·have:aU p=(19,p.name.a):=by grind [aj,ay,aU]
   refine cP dO (bz 19 p.name.a) ?_;refine ⟨_,?_,rfl⟩;rw [this];exact ax
  ·have kr:p.cl=[]:=by
    simp [aj,ay] at h1;exact h1.2
   have:aU p=(0,0):=by grind [aj,ay,aU]
   have h00:bJ p.cl=(0,0):=by rw [kr];simp [bJ,badWd]
   refine cP B0 (iF p.cl (by omega)) ?_;refine ⟨_,?_,rfl⟩;rw [this,<- h00];exact ax
 have h0:¬ p.ck=0:=of_decide_eq_false h0;refine br ?_ ?_<;>intro h1
 ·have h1:p.ck=1:=of_decide_eq_true h1;refine br ?_ ?_<;>intro h2
  ·have:aU p=(20,p.ca):=by grind [pickB_and,aU]
   refine cP dO (bz 20 p.ca) ?_;refine ⟨_,?_,rfl⟩;rw [this];exact ax
  ·have:aU p=bJ p.cl:=by grind [pickB_and,aU]
   refine cP B0 (iF p.cl (by omega)) ?_;refine ⟨_,?_,rfl⟩;rw [this];exact ax
 have h1:¬ p.ck=1:=of_decide_eq_false h1;refine br ?_ ?_<;>intro h3
 ·have h3:p.ck=2:=of_decide_eq_true h3;refine br ?_ ?_<;>intro h2
  ·have:aU p=(20,p.ca):=by grind [pickB_and,aU]
   refine cP dO (bz 20 p.ca) ?_;refine ⟨_,?_,rfl⟩;rw [this];exact ax
  ·have:aU p=bJ p.cl:=by grind [pickB_and,aU]
   refine cP B0 (iF p.cl (by omega)) ?_;refine ⟨_,?_,rfl⟩;rw [this];exact ax
 have h3:¬ p.ck=2:=of_decide_eq_false h3;refine br ?_ ?_<;>intro h4
 ·have h4:p.ck=3:=of_decide_eq_true h4;refine br ?_ ?_<;>intro h2
  ·have:aU p=(20,p.ca):=by grind [pickB_and,aU]
   refine cP dO (bz 20 p.ca) ?_;refine ⟨_,?_,rfl⟩;rw [this];exact ax
  ·have:aU p=bJ p.cl:=by grind [pickB_and,aU]
   refine cP B0 (iF p.cl (by omega)) ?_;refine ⟨_,?_,rfl⟩;rw [this];exact ax
 have h4:¬ p.ck=3:=of_decide_eq_false h4;have:aU p=(14,p.ca):=by grind [aU]
 refine cP dO (bz 14 p.ca) ?_;refine ⟨_,?_,rfl⟩;rw [this];exact ax
theorem LK (w:World) (x y:Operand) (vs vs':Array Value):(eqGuard .neq 27 x y (.agg vs) (.agg vs')).run prog w = .ok () w:=by
 have h:prog.eqGuardType prog.depth 27=false:=by kernel_rfl
 simp [eqGuard,run_program,h]
theorem TO (a b:ByteArray) (p q:Int) (w:World):(binOp .neq 27 (.agg #[.string a,.int .i64 p]) (.agg #[.string b,.int .i64 q])).run prog w = .ok (.bool (!(decide (a=b) && decide (p=q)))) w:=by
 have hf:prog.underlying 27=some (.struct (prog.fieldsOf 27)):=by simp [Program.fieldsOf,Tryz.underlying27]
 have uw:(prog.fieldsOf 27).toList=[⟨ "Name",9,0,false, "", "",0⟩,⟨ "At",3,1,false, "", "",16⟩]:=by simp [Program.fieldsOf,Tryz.underlying27]
 have hs:prog.stoodInHeld 27=false:=by kernel_rfl
 have hm:∃ d,Op.maxDepth=d + 1 + 1:=⟨Op.maxDepth - 2,by decide⟩;obtain ⟨d,hm⟩:=hm
 have he:(Op.equal 27 (.agg #[.string a,.int .i64 p]) (.agg #[.string b,.int .i64 q])).run prog w = .ok (decide (a=b) && decide (p=q)) w:=by
  unfold Op.equal;rw [hm,run_equalIn_struct w (d + 1) 27 _ _ hf hs,uw]
  have e1:(a.toList == b.toList)=decide (a=b):=by
   rw [ByteArray.toList_eq,ByteArray.toList_eq];by_cases h:a=b
   ·subst h;simp
   ·have:¬ a.data=b.data:=fun e=>h (ByteArray.ext e);simp [h,this]
  have q9:∀ cs:Array Value,∀ off v,cs[off]? = some v->(part 9 cs off).run prog w = .ok v w:=fun cs off v h=>by
   simp [part,Tryz.isAgg9,h]
  have q3:∀ cs:Array Value,∀ off v,cs[off]? = some v->(part 3 cs off).run prog w = .ok v w:=fun cs off v h=>by
   simp [part,Tryz.isAgg3,h]
  simp only [Op.eqFields,ne_eq,String.reduceEq,not_false_eq_true,if_true,Sem.run_bind,q9 #[.string a,.int .i64 p] 0 (.string a) rfl,q9 #[.string b,.int .i64 q] 0 (.string b) rfl,Result.andThen_ok,run_equalIn_string w d 9 a b Tryz.underlying9,e1];by_cases h:a=b
  ·simp only [h,decide_true,Bool.not_true,Bool.false_eq_true,if_false,Sem.run_bind,q3 #[.string b,.int .i64 p] 1 (.int .i64 p) rfl,q3 #[.string b,.int .i64 q] 1 (.int .i64 q) rfl,Result.andThen_ok,run_equalIn_int w d 3 .i64 .i64 p q Tryz.underlying3];by_cases h2:p=q<;>simp [h2,Sem.run_pure]
  ·simp [h,Sem.run_pure]
 show ((do let r <- Op.equal 27 _ _;pure (Value.bool !r)):Sem Value).run prog w=_;simp only [Sem.run_bind,he,Result.andThen_ok,Sem.run_pure]
theorem Pq (x y:Operand) (a b:Wd):zG prog .neq x y 27 (jL a) (jL b) (!(decide (a.s=b.s) && decide (a.a=b.a))):=
 ⟨[.string a.s,.int .i64 a.a],[.string b.s,.int .i64 b.a],rfl,rfl,fun w=>⟨LK w x y _ _,TO a.s b.s a.a b.a w⟩⟩
def eqWds:List Wd->List Wd->Bool
 | [],[]=>true
 | x :: r,y :: s=>(decide (x.s=y.s) && decide (x.a=y.a)) && eqWds r s
 | _,_=>false
theorem yy:∀ {a b:List Wd},a.length≠b.length->eqWds a b=false
 | [],[],h=>(h rfl).elim
 | [],_ :: _,_=>rfl
 | _ :: _,[],_=>rfl
 | x :: r,y :: s,h=>by
  simp only [eqWds];rw [yy (a:=r) (b:=s) (sU h),Bool.and_false]
theorem sB:∀ a b:List Wd,eqWds (im a) (im b)=sameWds a b
 | [],[]=>rfl
 | [],_ :: _=>rfl
 | _ :: _,[]=>rfl
 | x :: r,y :: s=>by
  have:=sB r s
  grind [im,eqWds,sameWds]
abbrev LL (a b:List Wd) (e:Nat):St:=
 ⟨[aZ 0 2 (bA a),aZ 1 2 (bA b),au 12 ((bA a).length),au 13 e],[],[]⟩
theorem Ch (a b:List Wd) (hs:a.length<=1099511627776) :
  EvP prog 283 [.sl 2 (bA a) none,.sl 2 (bA b) none] (.v (.bool (eqWds a b))):=by
 refine eG 26 [.tmp 4] func283 rfl ntmps283 rfl fun _ _ _ _=>?_;refine br ?_ ?_<;>intro h
 ·have bg:a.length≠b.length:=by have:=h;simp [ay] at this;omega
  exact congrArg (fun b=>DV.v (.bool b)) (yy bg).symm
 ·have hl:a.length=b.length:=by have:=h;simp [ay] at this;omega
  refine aP (fun j st=>∃ e:Nat,st=LL a b e/\e<=a.length/\eqWds a b=eqWds (a.drop e) (b.drop e)/\j=a.length - e) a.length
   (LL a b 0) (wkM wB) ⟨0,rfl,by omega,rfl,by omega⟩ ?_
  rintro j st ⟨e,rfl,he,aK,rfl⟩;refine br ?_ ?_<;>intro h
  ·have av:e < a.length:=by simpa [ay] using h
   obtain ⟨x,hx⟩:=gX av;obtain ⟨y,hy⟩:∃ y,b[e]? = some y:=⟨_,gE (hl ▸ av)⟩;rw [drop_cons hx,drop_cons hy] at aK;refine dI ?_;refine ⟨jL x,⟨by omega,aQ hx⟩,jL y,⟨by omega,aQ hy⟩,_,Pq _ _ x y,?_⟩;refine br ?_ ?_<;>intro h
   ·have bg:(decide (x.s=y.s) && decide (x.a=y.a))=false:=by grind
    refine (bo ?_:);rw [aK];simp only [eqWds,bg,Bool.false_and]
   ·have bg:(decide (x.s=y.s) && decide (x.a=y.a))=true:=by grind
    refine ⟨LL a b (e + 1),(wkM (wB1 (nxt av (by omega)))),a.length - (e + 1),by omega,e + 1,rfl,by omega,?_,rfl⟩;rw [aK];simp only [eqWds,bg,Bool.true_and]
  ·have hge:e=a.length:=by have:=h;simp [ay] at this;omega
   refine (bo ?_:);rw [aK,hge,hl];simp [eqWds];rw [<- hl];simp [eqWds]
theorem gA (a b:List Wd) (ha:wdsWt a<=1099511627776) (hb:wdsWt b<=1099511627776) :
  EvP prog 271 [.sl 2 (bA a) none,.sl 2 (bA b) none] (.v (.bool (sameWds a b))):=by
 have hl:=bp a;refine eG 10 [.tmp 4] func271 rfl ntmps271 rfl fun _ _ _ _=>?_;refine cP RI (uZ a ha) ?_;refine cP RI (uZ b hb) ?_;refine cP X9 (Ch (im a) (im b) (by simp [im];omega)) ?_;refine (bo ?_:);exact sB a b
def eqPts (F:Ph->Ty->Ph->Ty->Bool):Pts->Pts->Bool
 | .nil,.nil=>true
 | .cons p t r,.cons q u s=>F p t q u && eqPts F r s
 | _,_=>false
theorem yz {F:Ph->Ty->Ph->Ty->Bool}:∀ {a b:Pts},a.len≠b.len->eqPts F a b=false
 | .nil,.nil,h=>(h rfl).elim
 | .cons p t r,.cons q u s,h=>by
  simp only [eqPts];rw [yz (a:=r) (b:=s) (by simpa [Pts.len] using h),Bool.and_false]
 | .nil,.cons _ _ _,_=>rfl
 | .cons _ _ _,.nil,_=>rfl
def cR (p:Ph) (t:Ty) (q:Ph) (u:Ty):Bool:=decide (p.name.s=q.name.s) && cm p q && sameTy t u
theorem u3:∀ a b:Pts,eqPts cR a b=samePts a b
 | .nil,.nil=>by simp [eqPts,samePts]
 | .cons p t r,.cons q u s=>by simp only [eqPts,samePts,cR,u3 r s]
 | .nil,.cons _ _ _=>by simp [eqPts,samePts]
 | .cons _ _ _,.nil=>by simp [eqPts,samePts]
abbrev LM (a b:Pts) (g e:Nat):St:=
 ⟨[aZ 1 18 (fu b),(2,⟨[],.fn g [] []⟩),aZ 15 18 (fu a),au 16 ((fu a).length),au 17 e],[],[]⟩
theorem Ci (g:Nat) (kv:Enters prog g) (F:Ph->Ty->Ph->Ty->Bool) (a b:Pts) (hs:a.wt<=1099511627776)
  (hF:∀ (e:Nat) p t q u,a.toList[e]? = some (p,t)->b.toList[e]? = some (q,u)->EvP prog g [.agg (EL p (dK t)),.agg (EL q (dK u))] (.v (.bool (F p t q u)))) :
  EvP prog 285 [.sl 18 (fu a) none,.sl 18 (fu b) none,.fn g [] []] (.v (.bool (eqPts F a b))):=by
 have ON:=a.fq;refine eG 32 [.tmp 6] func285 rfl ntmps285 rfl fun _ _ _ _=>?_;refine br ?_ ?_<;>intro h
 ·have bg:a.len≠b.len:=by have:=h;simp [aH] at this;omega
  exact congrArg (fun b=>DV.v (.bool b)) (yz bg).symm
 ·have hl:a.len=b.len:=by have:=h;simp [aH] at this;omega
  refine aP (fun j st=>∃ e:Nat,st=LM a b g e/\e<=a.len/\eqPts F a b=eqPts F (a.drop e) (b.drop e)/\j=a.len - e) a.len
   (LM a b g 0) (wkM wB) ⟨0,rfl,by omega,rfl,by omega⟩ ?_
  rintro j st ⟨e,rfl,he,aK,rfl⟩;refine br ?_ ?_<;>intro h
  ·have av:e < a.len:=by simpa [aH] using h
   obtain ⟨p,t,hx⟩:=Pts.ej av;obtain ⟨q,u,hy⟩:=Pts.ej (hl ▸ av);rw [Pts.drop_cons hx,Pts.drop_cons hy] at aK;have hev:=hF e p t q u hx hy;obtain ⟨t,ts⟩:=t;obtain ⟨u,us⟩:=u;refine iX (bO hx) ?_;refine iX (bO hy) ?_;refine cP kv hev ?_;refine br ?_ ?_<;>intro h
   ·have bg:F p (.mk t ts) q (.mk u us)=false:=sU h;refine (bo ?_:);rw [aK];simp only [eqPts,bg,Bool.false_and]
   ·have bg:F p (.mk t ts) q (.mk u us)=true:=sU h;refine ⟨LM a b g (e + 1),(wkM (wB1 (nxt av (by omega)))),a.len - (e + 1),by omega,e + 1,rfl,by omega,?_,rfl⟩;rw [aK];simp only [eqPts,bg,Bool.true_and]
  ·have hge:e=a.len:=by have:=h;simp [aH] at this;omega
   refine (bo ?_:);rw [aK,hge,Pts.cW,hl,Pts.cW];simp [eqPts]
theorem mE (p q:Ph) (t u:Ty) (hp:p.wt<=1099511627776) (hq:q.wt<=1099511627776)
  (ht:EvP prog 272 [.agg (dK t),.agg (dK u)] (.v (.bool (sameTy t u)))) :
  EvP prog 252 [.agg (EL p (dK t)),.agg (EL q (dK u))] (.v (.bool (cR p t q u))):=by
 simp only [Ph.wt] at hp hq;obtain ⟨th,tps⟩:=t;obtain ⟨uh,ups⟩:=u;refine eG 71 [.tmp 4] func252 rfl ntmps252 rfl fun _ _ _ _=>?_
 have e0:cR p (.mk th tps) q (.mk uh ups)=(((decide (p.name.s=q.name.s) && (p.bare == q.bare)) && decide (p.wide=q.wide)) && sameWds p.label q.label && ((decide (p.ck=q.ck) && decide (p.cn=q.cn)) && sameWds p.cl q.cl) && sameTy (.mk th tps) (.mk uh ups)):=by
  simp only [cR,cm,Bool.and_assoc]
 rw [e0];refine br ?_ ?_<;>intro hA
 ·simp only [pickB_and] at hA;refine cP Ha (gA p.label q.label (by omega) (by omega)) ?_;refine br ?_ ?_<;>intro hB
  ·simp only [pickB_and] at hB;refine cP Ha (gA p.cl q.cl (by omega) (by omega)) ?_;refine br ?_ ?_<;>intro hC
   ·refine cP X6 ht ?_;refine (bo ?_:);simp only [pickB_and,Bool.true_and,Bool.and_true] at hC ⊢
    simp_all
   ·refine (bo ?_:);simp only [pickB_and,Bool.true_and,Bool.and_true] at hC ⊢
    simp_all
  ·simp only [pickB_and] at hB;refine br ?_ ?_<;>intro hC
   ·exfalso;simp [pickB_and] at hC
   ·refine (bo ?_:)
    simp_all
 ·simp only [pickB_and,beq_true] at hA;refine br ?_ ?_<;>intro hB
  ·refine cP Ha (gA p.cl q.cl (by omega) (by omega)) ?_;refine (bo ?_:);rw [hA];rfl
  ·refine (bo ?_:);rw [hA];rfl
theorem yA:∀ (n:Nat) (a b:Ty),a.wt<=n->a.wt<=1099511627776->b.wt<=1099511627776 ->
  EvP prog 272 [.agg (dK a),.agg (dK b)] (.v (.bool (sameTy a b)))
 | 0,a,b,hn,_,_=>by have:=a.dP;omega
 | n + 1,.mk h ps,.mk k qs,hn,bY,Yo=>by
  have ih:=yA n;simp only [Ty.wt,Hd.wt] at hn bY Yo
  have hE:EvP prog 285 [.sl 18 (fu ps) none,.sl 18 (fu qs) none,.fn 252 [] []] (.v (.bool (samePts ps qs))):=by
   rw [<- u3];refine Ci 252 Lq cR ps qs (by omega) fun e p t q u hx hy=>?_;have hw1:=Pts.fW (mG hx);have hw2:=Pts.fW (mG hy);exact mE p q t u (by omega) (by omega) (ih t u (by omega) (by omega) (by omega))
  refine eG 53 [.tmp 4] func272 rfl ntmps272 rfl fun _ _ _ _=>?_;refine br ?_ ?_<;>intro hA
  ·simp [aj] at hA;obtain ⟨⟨⟨⟨e1,e2⟩,e3⟩,e4⟩,e5⟩:=hA;refine cP Ha (gA h.af k.af (by omega) (by omega)) ?_;refine br ?_ ?_<;>intro hB
   ·refine (bo ?_:);simp [aj,e1,e2,e3,e4,e5] at hB;simp [sameTy,ki,hB]
   ·simp [aj,e1,e2,e3,e4,e5] at hB;refine cP Ya hE ?_;refine (bo ?_:);simp [sameTy,ki,e1,e2,e3,e4,e5,hB]
  ·refine (bo ?_:);simp [aj] at hA;simp only [sameTy,ki]
   grind
theorem u4 (a b:Ty) (ha:a.wt<=1099511627776) (hb:b.wt<=1099511627776):EvP prog 272 [.agg (dK a),.agg (dK b)] (.v (.bool (sameTy a b))):=yA _ a b (aW _) ha hb
def u5 (h:Hd) (ps:Pts):Bool:=
 (((((decide (h.ag=2) || (decide (h.lo=0) && decide (h.hi=0))) && ((decide (h.ag=3) || decide (h.ag=5)) || decide (h.most=0))) && (decide (ps.len=0) || (decide (5<=h.ag) && decide (h.ag<=8)))) &&
  (decide (h.af.length=0) || decide (h.ag=4))) && (decide (h.name.s=aq) || decide (h.ag=9)))
theorem IK (h:Hd) (ps:Pts):EvP prog 175 [.agg (dK (.mk h ps))] (.v (.bool (u5 h ps))):=by
 have l1:(((fu ps).length:Int)=0)=(ps.len=0):=by rw [aH];exact propext (by omega)
 have l2:(((bA h.af).length:Int)=0)=(h.af.length=0):=by rw [ay];exact propext (by omega)
 have he:(⟨#[]⟩:ByteArray)=aq:=rfl;refine eG 67 [.tmp 2] func175 rfl ntmps175 rfl fun _ _ _ _=>?_;refine br ?_ ?_<;>intro k2
 ·have k2:h.ag=2:=of_decide_eq_true k2;refine (bo ?_:);rw [Bool.eq_iff_iff];simp [pickB_and,aj,u5,aH,ay,k2,he]
 have k2:¬ h.ag=2:=of_decide_eq_false k2;refine br ?_ ?_<;>intro k3
 ·have k3:h.ag=3:=of_decide_eq_true k3;refine br (fun _=>?_) (fun hf=>?_)
  ·refine (bo ?_:);rw [Bool.eq_iff_iff];simp [pickB_and,aj,u5,aH,ay,k3,he]
  ·exact absurd k3 (of_decide_eq_false hf)
 have k3:¬ h.ag=3:=of_decide_eq_false k3;refine br ?_ ?_<;>intro k5
 ·have k5:h.ag=5:=of_decide_eq_true k5;refine (bo ?_:);rw [Bool.eq_iff_iff];simp [pickB_and,aj,u5,aH,ay,k5,he]
 have k5:¬ h.ag=5:=of_decide_eq_false k5;refine (bo ?_:);rw [Bool.eq_iff_iff];simp [pickB_and,aj,u5,aH,ay,k2,k3,k5,he]
theorem Ai:∀ ps:Pts,samePts ps ps=true:=by
 have wr:∀ l:List Wd,sameWds l l=true:=by
  intro l
  induction l with
  | nil=>rfl
  | cons x r ih=>simp [sameWds,ih]
 have key:∀ n,(∀ t:Ty,t.wt<=n->sameTy t t=true)/\(∀ ps:Pts,ps.wt<=n->samePts ps ps=true):=by
  intro n
  induction n using Nat.strongRecOn with
  | _ n ih=>
   have hp:∀ ps:Pts,ps.wt<=n->(∀ t:Ty,t.wt + 256<=n->sameTy t t=true)->samePts ps ps=true:=by
    intro ps
    induction ps using Pts.rec (motive_1:=fun _=>True) with
    | mk=>trivial
    | nil=>intros;simp [samePts]
    | cons p t r _ ihr=>
     intro hw ht;simp only [Pts.wt,Ph.wt] at hw;simp only [samePts];rw [ht t (by omega),ihr (by omega) ht];simp [cm,wr]
   refine ⟨fun t ht=>?_,fun ps hps=>?_⟩
   ·obtain ⟨h,ps⟩:=t;simp only [Ty.wt,Hd.wt] at ht;simp only [sameTy,ki]
    grind
   all_goals grind
 exact fun ps=>(key ps.wt).2 ps (aW _)
theorem Hh (h:Hd) (ps:Pts):u5 h ps=sameTy (.mk h ps) (mask (.mk h ps)):=by
 have wr:∀ l:List Wd,sameWds l l=true:=by
  intro l
  induction l with
  | nil=>rfl
  | cons x r ih=>simp [sameWds,ih]
 have wn:∀ l:List Wd,sameWds l []=decide (l.length=0):=by
  intro l;cases l<;>simp [sameWds]
 have pn:∀ l:Pts,samePts l .nil=decide (l.len=0):=by
  intro l;cases l<;>simp [samePts,Pts.len]
 have pr:=Ai ps;simp only [mask,sameTy,ki,iY];have e5:samePts ps (if 4 < h.ag/\h.ag < 9 then ps else .nil)=(decide (ps.len=0) || (decide (5<=h.ag) && decide (h.ag<=8))):=by grind
 have e6:sameWds h.af (if h.ag=4 then h.af else [])=(decide (h.af.length=0) || decide (h.ag=4)):=by grind
 grind [u5]
theorem Cj (p:Ph) (t:Ty) (hp:p.wt<=1099511627776):EvP prog 229 [.agg (EL p (dK t))] (.v (.bool (cR p cv eU cv))):=by
 obtain ⟨th,tps⟩:=t;refine eG 8 [.tmp 2] func229 rfl ntmps229 rfl fun _ _ _ _=>?_;refine cP Lq (mE p eU cv cv hp (by decide) (u4 cv cv (by decide) (by decide))) ?_;exact (rfl:_=_)
def az (l:List Wd):List ByteArray:=l.map fun w=>w.s
noncomputable def enumP (l:List Wd):Nat->Ft
 | 0=>(0,0)
 | e + 1=>
  if (enumP l e).1≠0 then enumP l e
  else match l[e]? with
   | some w=>gz (az (l.take (e + 1))) w.s w.a
   | none=>(0,0)
theorem oA {l:List Wd} {e:Nat} (h:(enumP l e).1≠0):∀ d,enumP l (e + d)=enumP l e
 | 0=>rfl
 | d + 1=>by
  have ih:=oA h d;rw [<- Nat.add_assoc,enumP,ih,ai h]
theorem Aj {L:List ByteArray} {x:ByteArray} {a:Int} (h:(gz L x a).1=0):gz L x a=(0,0):=by
 unfold gz at *
 grind
theorem ET {l:List Wd}:∀ {e:Nat},(enumP l e).1=0->enumP l e=(0,0)
 | 0,_=>rfl
 | e + 1,h=>by
  rw [enumP] at h ⊢
  grind [Aj]
theorem u6 {l:List Wd} {e:Nat} {w:Wd} (h:(enumP l e).1=0) (hw:l[e]? = some w):enumP l (e + 1)=gz (az (l.take (e + 1))) w.s w.a:=by
 rw [enumP,ah (by rw [h];simp),hw]
noncomputable def mF (h:Hd):Ft:=
 if h.af.length=0 then (15,h.aE) else if 64 < h.af.length then (8,((h.af[64]?).getD (⟨aq,0⟩:Wd)).a) else enumP h.af h.af.length
abbrev LN (h:Hd) (ps:Pts) (n e:Nat):St:=
 ⟨[aD 1 0,aD 2 1,aZ 27 2 (bA h.af),au 28 ((bA h.af).length),au 29 e,(3,⟨[],.sl 1 (eE (az (h.af.take e))) (some 0)⟩)],
  [dK (.mk h ps),[.v (.int .i64 0),.v (.int .i64 0)]],[⟨n,9,1,none⟩]⟩
theorem jr {l:List Wd} {e:Nat} {w:Wd} (h:l[e]? = some w):eE (az (l.take e)) ++ [[DV.v (.string w.s)]]=eE (az (l.take (e + 1))):=by
 rw [List.take_add_one,h];simp [eE,az]
theorem EU (h:Hd) (ps:Pts) (hs:wdsWt h.af<=1099511627776):EvP prog 176 [.agg (dK (.mk h ps))] (mF h).d:=by
 have hl:=bp h.af;refine eG 48 [.cell 2 44] func176 rfl ntmps176 rfl fun _ _ _ _=>?_;refine br ?_ ?_<;>intro h0
 ·have h0:h.af.length=0:=by have:=h0;simp [ay] at this;simp [this]
  refine cP dO (bz 15 h.aE) ?_;refine ⟨_,?_,rfl⟩;rw [mF,ai h0];exact ax
 have h0:¬ h.af.length=0:=by have:=h0;simp [ay] at this;simpa using this
 refine br ?_ ?_<;>intro h1
 ·have h1:64 < h.af.length:=by have:=h1;simp [ay] at this;omega
  obtain ⟨x,hx⟩:∃ x,h.af[64]? = some x:=⟨_,gE h1⟩;refine ⟨jL x,⟨by omega,aQ hx⟩,?_⟩;refine cP dO (bz 8 x.a) ?_;refine ⟨_,?_,rfl⟩;rw [mF,ah h0,ai h1,hx];exact ax
 have h1:¬ 64 < h.af.length:=by have:=h1;simp [ay] at this;omega
 have hk:mF h=enumP h.af h.af.length:=by rw [mF,ah h0,ah h1]
 rw [hk];refine lI (fun j st=>∃ e:Nat,st=LN h ps e e/\e<=h.af.length/\(enumP h.af e).1=0/\j=h.af.length - e) ⟨0,rfl,by omega,rfl,rfl⟩ (fA ⟨0,9,1,none⟩ rfl ⟨_,rfl⟩ rfl wA rfl rfl gR) ?_;rintro j st ⟨e,rfl,he,hz,rfl⟩;refine br ?_ ?_<;>intro hL
 ·have av:e < h.af.length:=by simpa [ay] using hL
  obtain ⟨w,hw⟩:=gX av;have RQ:=ij (mG hw);have u7:=u6 hz hw;have LO:(az (h.af.take (e + 1)))[(az (h.af.take (e + 1))).length - 1]? = some w.s:=by grind [az]
  refine ⟨jL w,⟨by omega,aQ hw⟩,?_⟩;refine ⟨by simp [bW,az];omega,⟨by simp [bW,az,maxLen];omega,by simp [bW,az];omega⟩,?_⟩;have iq:=jr hw;have SX:=sA (az (h.af.take (e + 1))) w.s w.a LO (by simp [az];omega) (by omega);rw [<- iq,<- u7] at SX;refine cP RB SX ?_;refine br ?_ ?_<;>intro hf
  ·have hf:(enumP h.af (e + 1)).1≠0:=sU hf;refine ⟨_,?_,rfl⟩;have bi:=oA hf (h.af.length - (e + 1));rw [show e + 1 + (h.af.length - (e + 1))=h.af.length by omega] at bi;rw [bi];exact ax
  ·have hf:(enumP h.af (e + 1)).1=0:=sU hf;refine ⟨LN h ps (e + 1) (e + 1),(wkM (wB2 (nxt av (by omega)) iq)),h.af.length - (e + 1),by omega,e + 1,rfl,by omega,hf,rfl⟩
 ·have hge:e=h.af.length:=by
   have:=hL;simp [ay] at this;omega
  subst hge;have bi:=ET hz;refine ⟨_,?_,rfl⟩;rw [bi];exact ax
def Yp (t:Ty) (depth m:Int) (r:DV) (os:List (List DV)) (_:List TkE):Prop:=
 r=(wrong t depth m).1.d/\∃ z:Int,os=[[.v (.int .i64 z)]]/\((wrong t depth m).1.1=0->z=(wrong t depth m).2)
theorem TP {t:Ty} {depth m:Int}:∀ r os tk,Yp t depth m r os tk->clB 0 0 r=true/\∀ re∈os,clB.clL 0 0 re=true:=by
 rintro r os tk ⟨rfl,z,rfl,_⟩;refine ⟨rfl,fun re h=>?_⟩;simp only [List.mem_singleton] at h;subst h;rfl
theorem IL (t:Ty) (hc:Ev prog 123 [.loc 0 0,.agg (dK t),.v (.int .i64 1)] [[.v (.int .i64 0)]] [] (Yp t 1 0)) :
  EvP prog 70 [.agg (dK t)] (wrong t 1 0).1.d:=by
 obtain ⟨h,ps⟩:=t;refine eG 9 [.cell 2 44] func70 rfl ntmps70 rfl fun _ _ _ _=>?_;refine lu Li rfl rfl ax ax hc TP (fun r re hr=>?_);obtain ⟨rfl,z,hz,_⟩:=hr;simp only [List.cons.injEq,and_true] at hz;subst hz;exact ⟨_,ax,rfl⟩
theorem wr (z:Int) (h1 : -9223372036854775808<=z) (h2:z<=9223372036854775807):IntKind.i64.wrap z=z:=by
 rw [IntKind.wrap_i64];omega
abbrev ba (l:List UInt8):ByteArray:=⟨l.toArray⟩
def tx (s:ByteArray):List UInt8:=s.data.toList
theorem u9 {s:ByteArray} {l:List UInt8} (h:tx s=l):s=ba l:=by
 subst h;apply ByteArray.ext;simp [tx]
theorem LP (s t:ByteArray):tx (s ++ t)=tx s ++ tx t:=by simp [tx]
theorem mH (l:List UInt8):tx (ba l)=l:=by simp [tx]
theorem Ck (s:ByteArray):ba (tx s)=s:=(u9 rfl).symm
theorem bR (s:ByteArray):(tx s).length=s.size:=by simp [tx]
theorem Yq (l:List UInt8):(ba l).size=l.length:=rfl
def o7 (z:Int):Prop:=-9223372036854775808<=z/\z<=9223372036854775807
end Go.Proofs.YtphonmiflfhdbaaGreat
set_option maxRecDepth 100000
namespace Go.Proofs
open Go.Shelf
end Go.Proofs
namespace Go.Proofs.YtphonmiflfhdbaaGreat
open Go Go.RowKit Dv Go.Proofs.Tryz
theorem IM {P:Program} {f:FuncId} {args:List DV} {d:DV}
  (h:∀ (E:En) (w:World) (vs:List Value),Env E [] w->RvL E args vs->Calls P f vs.toArray w fun e w'=>∃ v,e = .returned v/\Rv E d v/\Below w.heap.size w w'):EvP P f args d:=by
 intro E w vs hE mc hv;refine (h E w vs hE hv).mono ?_;rintro e w' ⟨v,rfl,hr,hb⟩;exact ⟨v,rfl,⟨hb.os,hb.tape,hb.output,hb.size,fun k hk _=>hb.block k hk⟩,fun hf=>(by cases hf),d,[],E,hE.ke hb.block,rfl,rfl,Nw.refl hE,hr,rfl⟩
end Go.Proofs.YtphonmiflfhdbaaGreat
set_option maxRecDepth 100000
namespace Go.Proofs.YtphonmiflfhdbaaGreat
open Go Go.RowKit Dv Go.Proofs.Tryz
mutual
def rngT:Ty->Prop
 | .mk h ps=>o7 h.lo/\o7 h.hi/\o7 h.most/\rngP ps
def rngP:Pts->Prop
 | .nil=>True
 | .cons p t r=>o7 p.wide/\o7 p.cn/\rngT t/\rngP r
end
end Go.Proofs.YtphonmiflfhdbaaGreat
namespace Go.Proofs.YtphonmiflfhdbaaGreat
namespace Dv
open Go Go.RowKit
def TypFs (f:TypeId->List DV->Prop):List TypeId->List DV->Prop
 | [],ds=>ds=[]
 | t :: r,ds=>∃ a b,ds=a ++ b/\f t a/\TypFs f r b
def Typ (P:Program):Nat->TypeId->List DV->Prop
 | 0,_,_=>False
 | n + 1,t,ds=>
  match P.underlying t with
  | some .bool=>∃ b,ds=[.v (.bool b)]
  | some (.int k)=>∃ z,ds=[.v (.int k z)]/\(Lit.int k z).wf=true
  | some .string=>∃ s:ByteArray,ds=[.v (.string s)]
  | some (.slice e)=>∃ es,ds=[.sl (P.cellsOf e) es none]/\∀ cs∈es,Typ P n e cs
  | some (.struct fs)=>TypFs (Typ P n) (fs.toList.map (·.type)) ds
  | _=>False
mutual
def wgD:DV->Nat
 | .v (.string s)=>s.size + 64
 | .sl _ es _=>64 + wgEs es
 | _=>64
def wgL:List DV->Nat
 | []=>0
 | d :: r=>wgD d + wgL r
def wgEs:List (List DV)->Nat
 | []=>0
 | cs :: r=>wgL cs + wgEs r
end
theorem cT:∀ a b:List DV,wgL (a ++ b)=wgL a + wgL b
 | [],b=>by simp [wgL]
 | d :: r,b=>by simp only [List.cons_append,wgL,cT r b];omega
def laidF (P:Program) (S:List TypeId):Nat->List Field->Nat->Bool
 | off,[],n=>decide (off=n)
 | off,f :: r,n=>decide (f.offset=off) && S.contains f.type && laidF P S (off + P.cellsOf f.type) r n
def lB (P:Program) (S:List TypeId) (t:TypeId):Bool:=
 match P.underlying t with
 | some .bool=>decide (P.cellsOf t=1)
 | some (.int _)=>decide (P.cellsOf t=1)
 | some .string=>decide (P.cellsOf t=1)
 | some (.slice e)=>decide (P.cellsOf t=1) && S.contains e && decide (0 < P.cellsOf e)
 | some (.struct fs)=>laidF P S 0 fs.toList (P.cellsOf t)
 | _=>false
def bkS {H:Type} (bk:DataW H->Nat):List (DataW H)->Nat
 | []=>0
 | d :: r=>bk d + bkS bk r
structure Bk {H:Type} (bk:DataW H->Nat):Prop where
 str:∀ l:List UInt8,l.length + 1<=bk (.lit (.string l))
 lit:∀ l,1<=bk (.lit l)
 nil:1<=bk .nil
 slice:∀ es sp,1 + bkS bk es<=bk (.slice es sp)
 agg:∀ l,bkS bk l<=bk (.agg l)
def EV (w:World):En:=⟨fun a=>w.cell? a,[],[],[]⟩
theorem Pr (w:World):Env (EV w) [] w where
 len:=rfl
 tl:=rfl
 eQ:=by simp
 inj:=List.nodup_nil
 sub:=fun x u hx=>hx
 pc:=by simp [EV]
 cQ:=by simp [EV]
 jD:=by simp [EV]
theorem IP {w:World} {a:Addr} {k:Nat} {v:Value} (h:w.cell? (a.add k)=some v):w.cell? ⟨a.block,a.off + k,none⟩=some v:=by
 unfold Addr.add at h;split at h
 ·rename_i hk;subst hk;unfold World.cell? at h ⊢;split at h
  ·rename_i c e z he;split at h
   ·cases h
   ·simpa [he] using h
  ·cases h
 ·exact h
theorem IQ {w:World} {a:Addr} {v:Value} (h:w.cell? a=some v):a.spot=none:=by
 unfold World.cell? at h;split at h
 ·split at h
  ·cases h
  ·rename_i hs;simpa using hs
 ·cases h
theorem va {E:En} {b:Nat}:∀ {p:Nat} {ds:List DV} {vs:List Value},RvL E.cl ds vs->(∀ (j:Nat) v,vs[j]? = some v->E.c ⟨b,p + j,none⟩=some v/\v.oneCell'=true)->RvAt E.cl b p ds
 | p,[],vs,h,hc=>by simp only [RvAt]
 | p,d :: r,vs,h,hc=>by
  simp only [RvL] at h;obtain ⟨v,s,rfl,h1,h2⟩:=h;simp only [RvAt];obtain ⟨c1,c2⟩:=hc 0 v rfl;refine ⟨⟨v,c1,c2,h1⟩,va (p:=p + 1) h2 fun j u hj=>?_⟩;have:=hc (j + 1) u hj;rw [show p + 1 + j=p + (j + 1) by omega];exact this
section
variable {H:Type} {enc:TypeId × Value->H} {P:Program} {w:World} {sp:Nat->Bool} {held:Bool} {S:List TypeId} {bk:DataW H->Nat}
def Rd (enc:TypeId × Value->H) (P:Program) (w:World) (bk:DataW H->Nat) (n:Nat) (t:TypeId) (cs:List Value) (d:DataW H):Prop:=
 ∃ ds,RvL (EV w) ds cs/\(∀ v∈cs,v.oneCell'=true)/\Typ P n t ds/\wgL ds<=64 * bk d/\cs.length=P.cellsOf t
theorem yB {n:Nat} (ih:∀ t cs x,t∈S->DataW.trod enc P w 0 sp held n t cs=some x->Rd enc P w bk n t cs x.1) (cs:List Value) :
  ∀ (fs:List Field) (off:Nat) (xs:List (DataW H × List MemPlace)),laidF P S off fs cs.length=true->xs.length=fs.length ->
   (∀ (i:Nat) f,fs[i]? = some f->DataW.trod enc P w 0 sp held n f.type ((cs.drop f.offset).take (P.cellsOf f.type))=xs[i]?) ->
   ∃ ds,RvL (EV w) ds (cs.drop off)/\(∀ v∈cs.drop off,v.oneCell'=true)/\TypFs (Typ P n) (fs.map (·.type)) ds/\wgL ds<=64 * bkS bk (xs.map (·.1))
 | [],off,xs,hl,zP,hx=>by
  simp only [laidF,decide_eq_true_eq] at hl;subst hl;simp only [List.length_nil,List.length_eq_zero_iff] at zP;subst zP;exact ⟨[],by simpa using cx _,by simp,by simp [TypFs],by simp [wgL]⟩
 | f :: r,off,xs,hl,zP,hx=>by
  simp only [laidF,aO,decide_eq_true_eq] at hl;obtain ⟨⟨hof,hS⟩,hl⟩:=hl
  match xs,zP with
  | x :: xs,zP=>
   have h0:=hx 0 f rfl;rw [hof] at h0;simp only [List.getElem?_cons_zero] at h0;obtain ⟨ds0,r1,r2,r3,r4,r5⟩:=ih f.type _ x (sU hS) h0;obtain ⟨ds1,s1,s2,s3,s4⟩:=yB ih cs r (off + P.cellsOf f.type) xs hl (sU zP) (fun i g hg=>by simpa using hx (i + 1) g (sU hg))
   have LQ:cs.drop off=(cs.drop off).take (P.cellsOf f.type) ++ cs.drop (off + P.cellsOf f.type):=by
    rw [<- List.drop_drop,List.take_append_drop]
   refine ⟨ds0 ++ ds1,?_,?_,?_,?_⟩
   ·rw [LQ];exact RvL.append r1 s1
   ·rw [LQ];intro v hv;rcases List.mem_append.1 hv with hv | hv
    ·exact r2 v hv
    ·exact s2 v hv
   ·simp only [List.map_cons,TypFs];exact ⟨ds0,ds1,rfl,r3,s3⟩
   ·rw [cT];simp only [List.map_cons,bkS];omega
theorem Cl {n e:Nat} (ih:∀ t cs x,t∈S->DataW.trod enc P w 0 sp held n t cs=some x->Rd enc P w bk n t cs x.1) (he:e∈S) (a:Addr) :
  ∀ (xs:List (DataW H × List MemPlace)) (i0:Nat),(∀ i,i < xs.length->(w.cells? 0 (a.add ((i0 + i) * P.cellsOf e)) (P.cellsOf e)).bind (DataW.trod enc P w 0 sp held n e)=xs[i]?) ->
   ∃ es,es.length=xs.length/\RvEs (EV w) (P.cellsOf e) a.block (a.off + i0 * P.cellsOf e) es/\(∀ cs∈es,Typ P n e cs)/\wgEs es<=64 * bkS bk (xs.map (·.1))
 | [],i0,hx=>⟨[],rfl,by simp only [RvEs],by simp,by simp [wgEs]⟩
 | x :: xs,i0,hx=>by
  have h0:=hx 0 (by simp);simp only [Nat.add_zero,List.getElem?_cons_zero] at h0;obtain ⟨cs,cV,ht⟩:=Option.bind_eq_some_iff.1 h0;obtain ⟨_,hlen,pu⟩:=World.cells?_some cV;obtain ⟨ds0,r1,r2,r3,r4,r5⟩:=ih e cs x he ht
  obtain ⟨es,s1,s2,s3,s4⟩:=Cl ih he a xs (i0 + 1) (fun i hi=>by
   have:=hx (i + 1) (sU hi);simp only [List.getElem?_cons_succ] at this;rw [show i0 + 1 + i=i0 + (i + 1) by omega]
   exact this)
  refine ⟨ds0 :: es,by simp [s1],?_,?_,?_⟩
  ·simp only [RvEs];refine ⟨by rw [<- r1.length,hlen],va (E:=EV w) r1 fun j v hj=>⟨?_,r2 v (mG hj)⟩,?_⟩
   ·have og:j < P.cellsOf e:=by rw [<- hlen];exact (gS hj).1
    have h1:=pu j og;rw [hj,Deep.add_add] at h1;have h2:=IP h1;show w.cell? _=_;rw [Nat.add_assoc];exact h2
   ·rw [Nat.add_assoc,show i0 * P.cellsOf e + P.cellsOf e=(i0 + 1) * P.cellsOf e by rw [Nat.add_mul,Nat.one_mul]];exact s2
  ·intro cs' hc;rcases cr hc with hc | hc
   ·subst hc;exact r3
   ·exact s3 cs' hc
  ·simp only [wgEs,List.map_cons,bkS];omega
theorem Ak (Om:Bk bk) (hS:∀ t∈S,lB P S t=true):∀ (n:Nat) (t:TypeId) (cs:List Value) (x:DataW H × List MemPlace),t∈S->DataW.trod enc P w 0 sp held n t cs=some x->Rd enc P w bk n t cs x.1
 | 0,t,cs,x,_,h=>by simp [DataW.trod] at h
 | n + 1,t,cs,x,ht,h=>by
  have hf:=hS t ht;unfold lB at hf;unfold Rd
  cases hu:P.underlying t with
  | none=>rw [hu] at hf;cases hf
  | some D=>
   rw [hu] at hf
   cases D with
   | bool=>
    simp only [decide_eq_true_eq] at hf;obtain ⟨b,rfl,rfl⟩:=DataW.trod_bool hu h;have:=Om.lit (.bool b);exact ⟨[.v (.bool b)],rvL_one (by unfold Rv;exact ⟨rfl,rfl⟩),by simp [Value.oneCell'],by simp only [Typ,hu];exact ⟨b,rfl⟩,by simp only [wgL,wgD];omega,by simp [hf]⟩
   | int k=>
    simp only [decide_eq_true_eq] at hf;obtain ⟨z,rfl,rfl,hw⟩:=DataW.trod_int hu h;have:=Om.lit (.int k z);exact ⟨[.v (.int k z)],rvL_one (by unfold Rv;exact ⟨rfl,rfl⟩),by simp [Value.oneCell'],by simp only [Typ,hu];exact ⟨z,rfl,hw⟩,by simp only [wgL,wgD];omega,by simp [hf]⟩
   | string=>
    simp only [decide_eq_true_eq] at hf;obtain ⟨s,rfl,rfl,hw⟩:=DataW.trod_string hu h;have:=Om.str s.data.toList;have bL:s.data.toList.length=s.size:=by rw [Array.length_toList];all_goals rfl
    exact ⟨[.v (.string s)],rvL_one (by unfold Rv;exact ⟨rfl,rfl⟩),by simp [Value.oneCell'],by simp only [Typ,hu];exact ⟨s,rfl⟩,by simp only [wgL,wgD];omega,by simp [hf]⟩
   | slice e=>
    simp only [aO,decide_eq_true_eq] at hf;obtain ⟨⟨Kg,uw⟩,hf3⟩:=hf;rcases DataW.trod_slice hu h with ⟨rfl,rfl⟩ | ⟨a,len,cap,elems,rest,m,hm,rfl,rfl,_,Vi,_,mb,hx,_,_⟩
    ·have:=Om.nil;refine ⟨[.sl (P.cellsOf e) [] none],rvL_one ?_,by simp [Value.oneCell'],by simp only [Typ,hu];exact ⟨[],rfl,by simp⟩,by simp only [wgL,wgD,wgEs];omega,by simp [Kg]⟩;unfold Rv;exact ⟨none,0,0,rfl,⟨rfl,aW _⟩,fun hc=>absurd rfl hc,fun k hk=>by cases hk⟩
    ·simp only [Nat.add_right_cancel_iff] at hm;subst hm;obtain ⟨es,s1,s2,s3,s4⟩:=Cl (fun t cs x=>Ak Om hS n t cs x) (sU uw) a elems 0 (fun i hi=>by simpa using hx i (by omega));have hb:=Om.slice (elems.map (·.1)) (rest.map (·.1));refine ⟨[.sl (P.cellsOf e) es none],rvL_one ?_,by simp [Value.oneCell'],by simp only [Typ,hu];exact ⟨es,rfl,s3⟩,by simp only [wgL,wgD];omega,by simp [Kg]⟩;unfold Rv;refine ⟨some a,len,cap,rfl,⟨by omega,Vi⟩,fun bg=>⟨?_,?_⟩,fun k hk=>by cases hk⟩
     ·have pq:0 < len:=by
       rw [<- mb,<- s1];exact List.length_pos_iff.2 bg
      have h0:=hx 0 pq;rw [gE (by omega)] at h0;obtain ⟨cs,cV,_⟩:=Option.bind_eq_some_iff.1 h0;obtain ⟨_,hlen,pu⟩:=World.cells?_some cV;have h1:=pu 0 hf3;rw [gE (by omega),Deep.add_add] at h1;simp only [Nat.zero_mul,Nat.add_zero] at h1;exact IQ (a:=a) h1
     ·have s2':RvEs (EV w) (P.cellsOf e) a.block a.off es:=sU s2;exact s2'
   | struct fs=>
    obtain ⟨xs,m,hm,rfl,hlen,zP,hx⟩:=DataW.trod_struct hu h;simp only [Nat.add_right_cancel_iff] at hm;subst hm;simp only at hf;obtain ⟨ds,s1,s2,s3,s4⟩:=yB (fun t cs x=>Ak Om hS n t cs x) cs fs.toList 0 xs (by rw [hlen];exact hf) (sU zP) (fun i f hi=>hx i f (sU hi));have hb:=Om.agg (xs.map (·.1));refine ⟨ds,by simpa using s1,by simpa using s2,by simp only [Typ,hu];exact s3,by simp only;omega,hlen⟩
   | _=>cases hf
end
theorem Hi {P:Program} {n:Nat} {t:TypeId} {k:IntKind} {ds:List DV} (hu:P.underlying t=some (.int k)) (h:Typ P n t ds):∃ z,ds=[.v (.int k z)]/\(Lit.int k z).wf=true:=by
 cases n with
 | zero=>exact h.elim
 | succ n=>simp only [Typ,hu] at h;exact h
theorem LR {P:Program} {n:Nat} {t:TypeId} {ds:List DV} (hu:P.underlying t=some .bool) (h:Typ P n t ds):∃ b,ds=[.v (.bool b)]:=by
 cases n with
 | zero=>exact h.elim
 | succ n=>simp only [Typ,hu] at h;exact h
theorem tM {P:Program} {n:Nat} {t:TypeId} {ds:List DV} (hu:P.underlying t=some .string) (h:Typ P n t ds):∃ s:ByteArray,ds=[.v (.string s)]:=by
 cases n with
 | zero=>exact h.elim
 | succ n=>simp only [Typ,hu] at h;exact h
theorem mI {P:Program} {n:Nat} {t e:TypeId} {ds:List DV} (hu:P.underlying t=some (.slice e)) (h:Typ P n t ds):∃ m es,n=m + 1/\ds=[.sl (P.cellsOf e) es none]/\∀ cs∈es,Typ P m e cs:=by
 cases n with
 | zero=>exact h.elim
 | succ n=>
  simp only [Typ,hu] at h;obtain ⟨es,h1,h2⟩:=h;exact ⟨n,es,rfl,h1,h2⟩
theorem iZ {P:Program} {n:Nat} {t:TypeId} {fs:Array Field} {ds:List DV} (hu:P.underlying t=some (.struct fs)) (h:Typ P n t ds):∃ m,n=m + 1/\TypFs (Typ P m) (fs.toList.map (·.type)) ds:=by
 cases n with
 | zero=>exact h.elim
 | succ n=>
  simp only [Typ,hu] at h;exact ⟨n,rfl,h⟩
theorem wf_i64 {z:Int} (h:(Lit.int .i64 z).wf=true) : -9223372036854775808<=z/\z<=9223372036854775807:=by
 simpa [Lit.wf,IntKind.min,IntKind.max,IntKind.signed,IntKind.bits] using h
end Dv
end Go.Proofs.YtphonmiflfhdbaaGreat
set_option maxRecDepth 100000
namespace Go.Proofs.YtphonmiflfhdbaaGreat
open Go Go.RowKit Dv Go.Proofs.Tryz
theorem EW:prog.cellsOf 27=2:=by kernel_rfl
theorem EY:prog.cellsOf 136=18:=by kernel_rfl
theorem rj {n:Nat} {ds:List DV} (h:Typ prog n 27 ds):∃ w:Wd,ds=jL w/\w.wt<=wgL ds:=by
 obtain ⟨m,_,hf⟩:=iZ Tryz.underlying27 h;obtain ⟨a,b,rfl,h1,c,d,rfl,h2,rfl⟩:=hf;obtain ⟨s,rfl⟩:=tM Tryz.underlying9 h1;obtain ⟨z,rfl,_⟩:=Hi Tryz.underlying3 h2;exact ⟨⟨s,z⟩,rfl,by simp [wgL,wgD,Wd.wt]⟩
theorem LS:∀ {m:Nat} {es:List (List DV)},(∀ cs∈es,Typ prog m 27 cs)->∃ l:List Wd,es=bA l/\wdsWt l<=wgEs es
 | m,[],h=>⟨[],rfl,by simp [wdsWt,wgEs]⟩
 | m,cs :: r,h=>by
  obtain ⟨w,rfl,hw⟩:=rj (h cs (by simp));obtain ⟨l,rfl,hl⟩:=LS (m:=m) (es:=r) (fun c hc=>h c (gh _ hc));exact ⟨w :: l,rfl,by simp only [wdsWt,wgEs];omega⟩
theorem pL {n:Nat} {ds:List DV} (h:Typ prog n 22 ds):∃ l:List Wd,ds=[.sl 2 (bA l) none]/\64 + wdsWt l<=wgL ds:=by
 obtain ⟨m,es,_,rfl,he⟩:=mI Tryz.underlying22 h;obtain ⟨l,rfl,hl⟩:=LS he;rw [EW];exact ⟨l,rfl,by simp only [wgL,wgD];omega⟩
theorem gV {n:Nat} {ds:List DV} (h:Typ prog n 3 ds):∃ z,ds=[.v (.int .i64 z)]/\o7 z:=by
 obtain ⟨z,rfl,hw⟩:=Hi Tryz.underlying3 h;exact ⟨z,rfl,wf_i64 hw⟩
theorem LU {m:Nat} (ih:∀ k,k < m->∀ ds,Typ prog k 29 ds->∃ t:Ty,ds=dK t/\rngT t/\t.wt<=wgL ds) :
  ∀ {es:List (List DV)},(∀ cs∈es,Typ prog m 136 cs)->∃ ps:Pts,es=fu ps/\rngP ps/\ps.wt<=wgEs es
 | [],h=>⟨.nil,by simp [fu],by simp [rngP],by simp [Pts.wt]⟩
 | cs :: r,h=>by
  obtain ⟨ps,rfl,hr,hl⟩:=LU ih (es:=r) (fun c hc=>h c (gh _ hc));obtain ⟨k,rfl,hf⟩:=iZ Tryz.underlying136 (h cs (by simp));obtain ⟨a1,b1,rfl,h1,a2,b2,rfl,h2,a3,b3,rfl,h3,a4,b4,rfl,h4,a5,b5,rfl,h5,a6,b6,rfl,h6,rfl⟩:=hf;obtain ⟨nm,rfl,w1⟩:=rj h1;obtain ⟨bare,rfl⟩:=LR Tryz.underlying4 h2;obtain ⟨lab,rfl,w3⟩:=pL h3;obtain ⟨wide,rfl,r4⟩:=gV h4;obtain ⟨k5,_,hf5⟩:=iZ Tryz.underlying134 h5;obtain ⟨c1,d1,rfl,g1,c2,d2,rfl,g2,c3,d3,rfl,g3,c4,d4,rfl,g4,rfl⟩:=hf5;obtain ⟨ck,rfl,_⟩:=gV g1;obtain ⟨cn,rfl,q2⟩:=gV g2;obtain ⟨ca,rfl,_⟩:=gV g3;obtain ⟨cl,rfl,w5⟩:=pL g4;obtain ⟨t,rfl,rt,wt⟩:=ih k (by omega) _ h6;refine ⟨.cons ⟨nm,bare,lab,wide,ck,cn,ca,cl⟩ t ps,?_,by simp only [rngP];exact ⟨r4,q2,rt,hr⟩,?_⟩
  ·grind [fu,EL,jL]
  ·grind [Pts.wt,Ph.wt,wgEs,cT,wgL,wgD,jL,Wd.wt]
theorem LV:∀ (n:Nat) (ds:List DV),Typ prog n 29 ds->∃ t:Ty,ds=dK t/\rngT t/\t.wt<=wgL ds:=by
 intro n
 induction n using Nat.strongRecOn with
 | _ n ih=>
  intro ds h;obtain ⟨m,rfl,hf⟩:=iZ Tryz.underlying29 h;obtain ⟨a1,b1,rfl,h1,a2,b2,rfl,h2,a3,b3,rfl,h3,a4,b4,rfl,h4,a5,b5,rfl,h5,a6,b6,rfl,h6,a7,b7,rfl,h7,a8,b8,rfl,h8,rfl⟩:=hf;obtain ⟨ag,rfl,_⟩:=gV h1;obtain ⟨aE,rfl,_⟩:=gV h2;obtain ⟨lo,rfl,r3⟩:=gV h3;obtain ⟨hi,rfl,r4⟩:=gV h4;obtain ⟨most,rfl,r5⟩:=gV h5;obtain ⟨af,rfl,w6⟩:=pL h6;obtain ⟨k,es,rfl,rfl,ie⟩:=mI Tryz.underlying25 h7;obtain ⟨ps,rfl,rp,wp⟩:=LU (fun j hj=>ih j (by omega)) ie;obtain ⟨nm,rfl,w8⟩:=rj h8;rw [EY];refine ⟨.mk ⟨ag,aE,lo,hi,most,af,nm⟩ ps,?_,by simp only [rngT];exact ⟨r3,r4,r5,rp⟩,?_⟩
  ·grind [dK,jL]
  ·grind [Ty.wt,Hd.wt,cT,wgL,wgD,jL,Wd.wt]
end Go.Proofs.YtphonmiflfhdbaaGreat
namespace Go.Proofs.YtphonmiflfhdbaaGreat
namespace Dv
open Go Go.RowKit Go.ChangeShapes Go.WideShapes Go.ChangeAt
open Go.ChangeMaps (open_string shut_string)
section
variable {H:Type} {enc:TypeId × Value->H} {P:Program}
theorem nY (hl:laidOutB P=true) {W W':World} (hb:Below W.heap.size W W'):∀ {ts:List TypeId} {vs:List Value} {ds:List (DataW H)} {ps:List MemPlace},(∀ t∈ts,P.readableRec t=true/\t < P.types.size) ->
  DataW.TrodAll enc P W 0 (fun _=>true) true ts vs ds ps->(∀ x∈ps,x.block < W.heap.size)->DataW.TrodAll enc P W' 0 (fun b=>decide (b < W.heap.size)) true ts vs ds ps
 | [],[],[],_,_,h,_=>h
 | t :: ts,v :: vs,d :: ds,_,ht,⟨p,q,h1,h2,e⟩,av=>by
  subst e;obtain ⟨r1,r2⟩:=ht t (by simp);exact ⟨p,q,Below.trod hl r1 r2 h1 hb (fun x hx=>av x (List.mem_append_left _ hx)),nY hl hb (fun t tg=>ht t (by simp [tg])) h2 (fun x hx=>av x (List.mem_append_right _ hx)),rfl⟩
theorem law_post {f:Func} {s:ChangeSpec} {tb:TypeId} (hl:laidOutB P=true) (KL:f.resultTypes = #[tb]) (htb:P.underlying tb=some .bool) (hv:s.vars=[]) (hts:∀ t∈f.params.toList,P.readableRec t=true/\t < P.types.size)
  {W W':World} {args:Array Value} {ds gs:List (DataW H)} {before:List MemPlace} (hW:DataW.Whole enc P f.params.toList s.vars false W args.toList ds gs before) (Bl:s.fn H ds={ results:=[.lit (.bool true)],args:=ds }) (hb:Below W.heap.size W W') :
  s.post enc P f false true false false W args (.bool true) W':=by
 have hW':=hW;obtain ⟨p,q,hA,hV,rfl,hfz,hnd⟩:=hW;rw [hv] at hV;obtain ⟨rfl,rfl⟩:=trodVars_none hV;refine ⟨ds,[],p ++ [],[],p,[],hW',?_,?_,?_,hb.frame _,fun h=>by cases h⟩
 ·rw [List.append_nil,Bl,KL];exact trodAll_cons_mk (shut_bool htb _) trodAll_mk0
 ·rw [List.append_nil,Bl];exact nY hl hb hts hA (fun x hx=>hW'.lt x (List.mem_append_left _ hx))
 ·rw [List.append_nil,Bl,hv];rfl
theorem EZ {w w':World} {Φ:DV->List (List DV)->List TkE->Prop} {v:Value} (h:BA false (EV w) w Φ v w'):Below w.heap.size w w':=by
 obtain ⟨hm,_⟩:=h;refine ⟨hm.os,hm.tape,hm.output,hm.size,fun k hk=>hm.block k hk ?_⟩;rintro (h1 | ⟨y,h1,_⟩)
 ·simp [EV] at h1
 ·simp [EV] at h1
theorem calls_law {f:FuncId} {args:List DV} {vs:List Value} {w:World} (h:EvP P f args (.v (.bool true))) (hv:RvL (EV w) args vs) :
  Calls P f vs.toArray w fun e w'=>e = .returned (.bool true)/\Below w.heap.size w w':=by
 refine (h (EV w) w vs (Pr w) rfl hv).mono ?_;rintro e w' ⟨v,rfl,he⟩;have hb:=EZ he;obtain ⟨_,_,d,os,E,_,_,_,_,hr,rfl⟩:=he;unfold Rv at hr;rw [hr.1];exact ⟨rfl,hb⟩
variable {W:World} {base:Nat} {S:List TypeId} {bk:DataW H->Nat}
theorem arg_st (Om:Bk bk) (hS:∀ t∈S,lB P S t=true) {t:TypeId} {fs:Array Field} {v:Value} {d:DataW H} {ps:List MemPlace} (ht:t∈S) (hu:P.underlying t=some (.struct fs))
  (hval:Value.okWide P W .any base t v) (h:DataW.Trod enc P W 0 (fun _=>true) true t v d ps):∃ n ds,Rv (EV W) (.agg ds) v/\Typ P n t ds/\wgL ds<=64 * bk d:=by
 unfold Value.okWide at hval;rw [hu] at hval;obtain ⟨cs,rfl,_,_⟩:=hval;obtain ⟨n,hn⟩:=h;obtain ⟨ds,h1,h2,h3,h4,_⟩:=Ak Om hS n t _ _ ht hn;refine ⟨n,ds,?_,h3,h4⟩;unfold Rv;exact ⟨cs.toList,by simp,h1,h2⟩
end
end Dv
end Go.Proofs.YtphonmiflfhdbaaGreat
namespace Go.Proofs.YtphonmiflfhdbaaGreat
open Go Go.RowKit Dv
theorem E4 {H:Type}:∀ l:List (DataW H),bkS Rows.uptoBulk l=Rows.uptoBulkAll l
 | []=>by simp [bkS,Rows.uptoBulkAll]
 | d :: r=>by simp only [bkS,Rows.uptoBulkAll,E4 r]
theorem bk_ok {H:Type}:Bk (Rows.uptoBulk (H:=H)) where
 str:=fun l=>by simp [Rows.uptoBulk]
 lit:=fun l=>by cases l<;>simp [Rows.uptoBulk]
 nil:=by simp [Rows.uptoBulk]
 slice:=fun es sp=>by simp only [Rows.uptoBulk,E4];omega
 agg:=fun l=>by simp only [Rows.uptoBulk,E4];omega
theorem bulk_le {H:Type} {l:List (DataW H)} (hk:Rows.uptoSmall H l=true):Rows.uptoBulkAll l<=1048576:=of_decide_eq_true hk
theorem laid_out:laidOutB Tryz.prog=true:=by kernel_rfl
theorem own_knob:ownKnob Tryz.prog.godebug=none:=by kernel_rfl
def tyS:List TypeId:=[29,22,27,9,3,25,136,4,134]
end Go.Proofs.YtphonmiflfhdbaaGreat
set_option maxRecDepth 100000
namespace Go.Proofs.YtphonmiflfhdbaaGreat
open Go Go.RowKit Dv Go.Proofs.Tryz
def Pts.take:Nat->Pts->Pts
 | 0,_=>.nil
 | _ + 1,.nil=>.nil
 | e + 1,.cons p t r=>.cons p t (r.take e)
structure Sch where
 ae:List Wd
 order:List (Wd × Wd)
 types:List (Wd × Ty)
 root:Ty
def Kh (p:Wd × Wd):List DV:=[.v (.string p.1.s),.v (.int .i64 p.1.a),.v (.string p.2.s),.v (.int .i64 p.2.a)]
def mf (l:List (Wd × Wd)):List (List DV):=l.map Kh
def dNm (x:Wd × Ty):List DV:=.v (.string x.1.s) :: .v (.int .i64 x.1.a) :: dK x.2
def dNms (l:List (Wd × Ty)):List (List DV):=l.map dNm
def eB (s:Sch):List DV:=.sl 2 (bA s.ae) none :: .sl 4 (mf s.order) none :: .sl 11 (dNms s.types) none :: dK s.root
def prsWt:List (Wd × Wd)->Nat
 | []=>0
 | p :: r=>p.1.wt + p.2.wt + prsWt r
def nmsWt:List (Wd × Ty)->Nat
 | []=>0
 | p :: r=>p.1.wt + p.2.wt + nmsWt r
def Sch.wt (s:Sch):Nat:=wdsWt s.ae + prsWt s.order + nmsWt s.types + s.root.wt
theorem fB (l:List (Wd × Wd)):(mf l).length=l.length:=by simp [mf]
theorem dA (l:List (Wd × Ty)):(dNms l).length=l.length:=by simp [dNms]
theorem gB {l:List (Wd × Wd)} {j:Nat} {p:Wd × Wd} (h:l[j]? = some p):(mf l)[j]? = some (Kh p):=by simp [mf,h]
theorem dNms_get {l:List (Wd × Ty)} {j:Nat} {p:Wd × Ty} (h:l[j]? = some p):(dNms l)[j]? = some (dNm p):=by simp [dNms,h]
theorem ir:∀ l:List (Wd × Wd),128 * l.length<=prsWt l
 | []=>aW _
 | p :: r=>by have:=ir r;simp only [List.length_cons,prsWt,Wd.wt];omega
theorem jt:∀ l:List (Wd × Ty),256 * l.length<=nmsWt l
 | []=>aW _
 | p :: r=>by have:=jt r;have:=p.2.dP;simp only [List.length_cons,nmsWt,Wd.wt];omega
theorem gm:∀ {l:List (Wd × Ty)} {p:Wd × Ty},p∈l->p.1.wt + p.2.wt<=nmsWt l
 | x :: r,p,h=>by
  rcases cr h with h | h
  ·subst h;simp only [nmsWt];omega
  ·have:=gm h;simp only [nmsWt];omega
def Ps (s:Sch):Prop:=(∀ x∈s.types,rngT x.2)/\rngT s.root
theorem E5:prog.cellsOf 138=4:=by kernel_rfl
theorem Cm:prog.cellsOf 91=11:=by kernel_rfl
theorem TQ {n:Nat} {ds:List DV} (h:Typ prog n 138 ds):∃ p:Wd × Wd,ds=Kh p/\p.1.wt + p.2.wt<=wgL ds:=by
 obtain ⟨m,_,hf⟩:=iZ Tryz.underlying138 h;obtain ⟨a,b,rfl,h1,c,d,rfl,h2,rfl⟩:=hf;obtain ⟨x,rfl,w1⟩:=rj h1;obtain ⟨y,rfl,w2⟩:=rj h2;exact ⟨(x,y),rfl,by simp only [cT,wgL];omega⟩
theorem TR {n:Nat} {ds:List DV} (h:Typ prog n 91 ds):∃ p:Wd × Ty,ds=dNm p/\rngT p.2/\p.1.wt + p.2.wt<=wgL ds:=by
 obtain ⟨m,_,hf⟩:=iZ Tryz.underlying91 h;obtain ⟨a,b,rfl,h1,c,d,rfl,h2,rfl⟩:=hf;obtain ⟨x,rfl,w1⟩:=rj h1;obtain ⟨y,rfl,r2,w2⟩:=LV _ _ h2;exact ⟨(x,y),by simp [dNm,jL],r2,by simp only [cT,wgL];omega⟩
theorem LW:∀ {m:Nat} {es:List (List DV)},(∀ cs∈es,Typ prog m 138 cs)->∃ l:List (Wd × Wd),es=mf l/\prsWt l<=wgEs es
 | m,[],h=>⟨[],rfl,by simp [prsWt,wgEs]⟩
 | m,cs :: r,h=>by
  obtain ⟨w,rfl,hw⟩:=TQ (h cs (by simp));obtain ⟨l,rfl,hl⟩:=LW (m:=m) (es:=r) (fun c hc=>h c (gh _ hc));exact ⟨w :: l,rfl,by simp only [prsWt,wgEs];omega⟩
theorem LX:∀ {m:Nat} {es:List (List DV)},(∀ cs∈es,Typ prog m 91 cs)->∃ l:List (Wd × Ty),es=dNms l/\(∀ x∈l,rngT x.2)/\nmsWt l<=wgEs es
 | m,[],h=>⟨[],rfl,by simp,by simp [nmsWt,wgEs]⟩
 | m,cs :: r,h=>by
  obtain ⟨w,rfl,hr,hw⟩:=TR (h cs (by simp));obtain ⟨l,rfl,hlr,hl⟩:=LX (m:=m) (es:=r) (fun c hc=>h c (gh _ hc));refine ⟨w :: l,rfl,fun x hx=>?_,by simp only [nmsWt,wgEs];omega⟩;rcases cr hx with rfl | hx
  ·exact hr
  ·exact hlr x hx
theorem typ_sch {n:Nat} {ds:List DV} (h:Typ prog n 31 ds):∃ s:Sch,ds=eB s/\Ps s/\s.wt<=wgL ds:=by
 obtain ⟨m,_,hf⟩:=iZ Tryz.underlying31 h;obtain ⟨a1,b1,rfl,h1,a2,b2,rfl,h2,a3,b3,rfl,h3,a4,b4,rfl,h4,rfl⟩:=hf;obtain ⟨l1,rfl,w1⟩:=pL h1;obtain ⟨m2,es2,_,rfl,Yr⟩:=mI Tryz.underlying23 h2;obtain ⟨l2,rfl,w2⟩:=LW Yr;obtain ⟨m3,es3,_,rfl,he3⟩:=mI Tryz.underlying24 h3;obtain ⟨l3,rfl,r3,w3⟩:=LX he3;obtain ⟨t,rfl,r4,w4⟩:=LV _ _ h4;rw [E5,Cm];refine ⟨⟨l1,l2,l3,t⟩,by simp [eB],⟨r3,r4⟩,?_⟩;simp only [Sch.wt,cT,wgL,wgD] at *;omega
end Go.Proofs.YtphonmiflfhdbaaGreat
namespace Go.Proofs.YtphonmiflfhdbaaGreat
open Go Go.RowKit Dv
def tySS:List TypeId:=31 :: 23 :: 138 :: 24 :: 91 :: tyS
theorem tySS_ok:∀ t∈tySS,lB Tryz.prog tySS t=true:=by
 have h:(tySS.all fun t=>lB Tryz.prog tySS t)=true:=by kernel_rfl
 exact fun t ht=>List.all_eq_true.1 h t ht
set_option maxRecDepth 100000
noncomputable abbrev PP:Program:=Tryz.pinned.checked.prog
def dft:OpenClaim:={ program := "",sum := "",func := "",spec := "" }
theorem and_ok {a b:Bool} (ha:a=true) (hb:b=true):(a && b)=true:=by rw [ha,hb];all_goals rfl
theorem g_laid:laidOutB PP=true:=laid_out
theorem g_maps:mapsRowed PP=true:=by kernel_rfl
theorem g_stops:(PP.stops == [])=true:=by kernel_rfl
theorem g_knobs:(PP.stopKnobs == [])=true:=by kernel_rfl
theorem g_heard:PP.stopsHeard=true:=by kernel_rfl
theorem g_enter:PP.mayEnter=true:=by kernel_rfl
theorem g_lifts:(dft.lifted == PP.liftsFinal)=true:=by kernel_rfl
theorem g_keys:(true == PP.plainKeys)=true:=by kernel_rfl
theorem g_make:(PP.make == some dft.make)=true:=by kernel_rfl
end Go.Proofs.YtphonmiflfhdbaaGreat
set_option maxRecDepth 100000
namespace Go.Proofs.YtphonmiflfhdbaaGreat
open Go Go.RowKit Dv Go.Proofs.Tryz
theorem Cn (x b:Nat):(x:Int).fdiv (2 ^ b)=((x / 2 ^ b:Nat):Int):=by grind
theorem iu (m:Nat):BitVec.ofInt 64 (m:Int)=BitVec.ofNat 64 m:=by simp
theorem Hj {x b:Nat} (hb:b < 64) (hx:x < 18446744073709551616) :
  decide (IntKind.u64.wrap ((BitVec.ofInt 64 ((x:Int).fdiv (2 ^ (min b 64))) &&& BitVec.ofInt 64 1).toNat:Int)=1)=x.testBit b:=by
 rw [Nat.min_eq_left (by omega),Cn,iu,show (BitVec.ofInt 64 1)=BitVec.ofNat 64 1 by decide,BitVec.toNat_and,BitVec.toNat_ofNat,BitVec.toNat_ofNat,Nat.testBit_eq_decide_div_mod_eq];have h1:x / 2 ^ b < 18446744073709551616:=Nat.lt_of_le_of_lt (Nat.div_le_self _ _) hx;rw [Nat.mod_eq_of_lt h1,show (1 % 2 ^ 64:Nat)=1 by decide,Nat.and_one_is_mod];simp only [IntKind.wrap_u64];congr 1;apply propext;omega
theorem E6 {x b:Nat} (hb:b < 64) (hx:x < 18446744073709551616) :
  IntKind.u64.wrap ((BitVec.ofInt 64 (x:Int) ||| BitVec.ofInt 64 (IntKind.u64.wrap (1 * 2 ^ (min b 64)))).toNat:Int)=((x ||| 2 ^ b:Nat):Int):=by
 have h2:2 ^ b < 18446744073709551616:=by
  have:2 ^ b<=2 ^ 63:=Nat.pow_le_pow_right (by decide) (by omega);omega
 have e1:IntKind.u64.wrap (1 * 2 ^ (min b 64))=((2 ^ b:Nat):Int):=by
  rw [Nat.min_eq_left (by omega),Int.one_mul];have:((2:Int) ^ b)=((2 ^ b:Nat):Int):=by simp
  rw [this];generalize 2 ^ b=z at h2;simp only [IntKind.wrap_u64];omega
 rw [e1,iu,iu,BitVec.toNat_or,BitVec.toNat_ofNat,BitVec.toNat_ofNat,Nat.mod_eq_of_lt hx,Nat.mod_eq_of_lt h2];have h3:x ||| 2 ^ b < 18446744073709551616:=Nat.or_lt_two_pow (n:=64) hx h2
 simp only [IntKind.wrap_u64];omega
theorem Pt {x y:Nat} (hx:x < 18446744073709551616) (hy:y < 18446744073709551616) :
  IntKind.u64.wrap ((BitVec.ofInt 64 (x:Int) ||| BitVec.ofInt 64 (y:Int)).toNat:Int)=((x ||| y:Nat):Int):=by
 rw [iu,iu,BitVec.toNat_or,BitVec.toNat_ofNat,BitVec.toNat_ofNat,Nat.mod_eq_of_lt hx,Nat.mod_eq_of_lt hy];have h3:x ||| y < 18446744073709551616:=Nat.or_lt_two_pow (n:=64) hx hy
 simp only [IntKind.wrap_u64];omega
theorem jN (x a b:Nat):(x ||| 2 ^ b).testBit a=(x.testBit a || decide (b=a)):=by
 rw [Nat.testBit_or,Nat.testBit_two_pow]
def dU (rows:List Nat):List (List DV):=rows.map fun (x:Nat)=>[DV.v (.int .u64 (x:Int))]
theorem kj (rows:List Nat):(dU rows).length=rows.length:=by simp [dU]
theorem TS {rows:List Nat} {i:Nat} {x:Nat} (h:rows[i]? = some x):(dU rows)[i]? = some [DV.v (.int .u64 (x:Int))]:=by simp [dU,h]
abbrev mg (rows:List Nat):DV:=.pt [.sl 1 (dU rows) none] 0
def dR (rows:List Nat):Prop:=rows.length<=64/\∀ x∈rows,x < 18446744073709551616
def aS (rows:List Nat) (a b:Nat):Bool:=(rows.getD a 0).testBit b
def hasB (rows:List Nat) (a b:Int):Bool:=decide (0<=a) && decide (a < rows.length) && decide (0<=b) && decide (b < rows.length) && aS rows a.toNat b.toNat
theorem yC (rows:List Nat):EvP prog 105 [mg rows] (.v (.int .i64 rows.length)):=by
 refine eG 10 [.tmp 2] func105 rfl ntmps105 rfl fun _ _ _ _=>?_;refine (qY ?_:);rw [kj]
theorem kC (rows:List Nat) (hr:dR rows) (a b:Int):EvP prog 54 [mg rows,.v (.int .i64 a),.v (.int .i64 b)] (.v (.bool (hasB rows a b))):=by
 have hl:=yC rows;refine eG 38 [.tmp 6] func54 rfl ntmps54 rfl fun _ _ _ _=>?_;refine br ?_ ?_<;>intro g1
 ·have g1:0<=a:=sU g1;refine cP Ld hl ?_;refine br ?_ ?_<;>intro g2
  ·obtain ⟨g2,g3⟩:a < rows.length/\0<=b:=by grind [pickB]
   refine cP Ld hl ?_;refine br ?_ ?_<;>intro g4
   ·have g4:b < rows.length:=by simpa [pickB,g2,g3] using g4
    obtain ⟨x,hx⟩:∃ x,rows[a.toNat]? = some x:=⟨_,gE (by omega)⟩;have G3:=hr.2 x (mG hx);have hr1:=hr.1;refine ⟨_,⟨g1,TS hx⟩,?_⟩;refine ⟨g3,?_⟩;refine (bo ?_:);have Q6:rows.getD a.toNat 0=x:=getD_some hx;have e1:hasB rows a b=x.testBit b.toNat:=by grind [hasB,aS]
    rw [e1];exact Hj (x:=x) (b:=b.toNat) (by omega) G3
   ·have g4:¬ b < rows.length:=by simpa [pickB,g2,g3] using g4
    refine (bo ?_:);simp [pickB,g2,g3,g4,hasB]
  ·have g5:¬ (a < rows.length/\0<=b):=by
    rintro ⟨h1,h2⟩;simp [pickB,h1,h2] at g2
   refine (bo ?_:);cases h:decide (a < (rows.length:Int))<;>simp [pickB,h,hasB] at g2 ⊢
   intro _ h0;omega
 ·have g1:¬ 0<=a:=sU g1;refine (bo ?_:);simp [g1,hasB]
def backN (rows:List Nat) (a:Nat):Nat->Nat
 | 0=>0
 | e + 1=>if aS rows a e && aS rows e a then backN rows a e ||| 2 ^ e else backN rows a e
theorem vb (rows:List Nat) (a:Nat):∀ e,backN rows a e < 2 ^ e
 | 0=>by simp [backN]
 | e + 1=>by
  have ih:=vb rows a e;have h2:2 ^ e < 2 ^ (e + 1):=Nat.pow_lt_pow_right (by decide) (by omega);simp only [backN];split
  ·exact Nat.or_lt_two_pow (by omega) h2
  ·omega
theorem rm (rows:List Nat) (a b:Nat):∀ e,(backN rows a e).testBit b=(decide (b < e) && (aS rows a b && aS rows b a))
 | 0=>by simp [backN]
 | e + 1=>by
  have ih:=rm rows a b e
  grind [backN,aS,jN]
abbrev TU (rows:List Nat) (a e:Nat):St:=
 ⟨[(0,⟨[],mg rows⟩),au 1 a,(5,⟨[],.v (.int .u64 (backN rows a e:Nat))⟩),au 11 ((dU rows).length),au 12 e],[],[]⟩
theorem pM {rows:List Nat} {a b:Nat} (ha:a < rows.length) (hb:b < rows.length):hasB rows a b=aS rows a b:=by
 simp [hasB,ha,hb]
theorem E7 (rows:List Nat) (hr:dR rows) (a:Nat) (ha:a < rows.length):EvP prog 116 [mg rows,.v (.int .i64 a)] (.v (.int .u64 (backN rows a rows.length:Nat))):=by
 have hr1:=hr.1;refine eG 31 [.tmp 4] func116 rfl ntmps116 rfl fun _ _ _ _=>?_;refine lJ (fun e=>TU rows a e) rows.length (wkM wB) ?_;intro e he;refine br ?_ ?_<;>intro hL
 ·have av:e < rows.length:=by have:=hL;simp [kj] at this;exact this
  have h1:=kC rows hr a e;have h2:=kC rows hr e a;rw [pM ha av] at h1;rw [pM av ha] at h2;have hbl:=vb rows a e
  have TV:backN rows a e < 18446744073709551616:=by
   have:2 ^ e<=2 ^ 64:=Nat.pow_le_pow_right (by decide) (by omega);omega
  have Ys:=E6 (x:=backN rows a e) (b:=e) (by omega) TV;have hs:backN rows a (e + 1)=if aS rows a e && aS rows e a then backN rows a e ||| 2 ^ e else backN rows a e:=rfl
  refine cP K9 h1 ?_;refine br ?_ ?_<;>intro g1
  ·have g1:aS rows a e=true:=sU g1;refine cP K9 h2 ?_;refine br ?_ ?_<;>intro g2
   ·have g2:aS rows e a=true:=by simpa [pickB,g1] using g2
    rw [g1,g2] at hs;have hs:backN rows a (e + 1)=backN rows a e ||| 2 ^ e:=hs
    refine ⟨by omega,?_⟩;exact rE ⟨_,by omega,e + 1,rfl,by omega,rfl⟩ (wkM (by repeat' (first | exact trivial | exact aA rfl | exact aC (nxt av (by omega)) | exact aC (Ys.trans (by rw [hs])) | refine ⟨⟨_,rfl,?_⟩,?_⟩)))
   ·have g2:aS rows e a=false:=by simpa [pickB,g1] using g2
    rw [g1,g2] at hs;have hs:backN rows a (e + 1)=backN rows a e:=hs;exact rE ⟨_,by omega,e + 1,rfl,by omega,rfl⟩ (wkM (by repeat' (first | exact trivial | exact aA rfl | exact aC (nxt av (by omega)) | exact aC (by rw [hs]) | refine ⟨⟨_,rfl,?_⟩,?_⟩)))
  ·have g1:aS rows a e=false:=sU g1;rw [g1] at hs;have hs:backN rows a (e + 1)=backN rows a e:=hs;exact rE ⟨_,by omega,e + 1,rfl,by omega,rfl⟩ (wkM (by repeat' (first | exact trivial | exact aA rfl | exact aC (nxt av (by omega)) | exact aC (by rw [hs]) | refine ⟨⟨_,rfl,?_⟩,?_⟩)))
 ·have hge:e=rows.length:=by have:=hL;simp [kj] at this;omega
  subst hge;exact (rfl:_=_)
def cU (rows:List Nat):List DV:=rows.map fun (x:Nat)=>DV.v (.int .u64 (x:Int))
theorem rq (rows:List Nat):(cU rows).length=rows.length:=by simp [cU]
theorem LY {rows:List Nat} {i x:Nat} (h:rows[i]? = some x):(cU rows)[i]? = some (DV.v (.int .u64 (x:Int))):=by simp [cU,h]
theorem LZ (rows:List Nat) (i x:Nat):(cU rows).set i (DV.v (.int .u64 (x:Int)))=cU (rows.set i x):=by simp [cU,List.map_set]
theorem pN (rows:List Nat):(dU rows).flatten=cU rows:=by
 induction rows with
 | nil=>rfl
 | cons x r ih=>simp only [dU,cU,List.map_cons,List.flatten_cons] at ih ⊢;rw [ih];all_goals rfl
theorem Hk {n m:Nat} {tk:List TkE}:∀ l:List Nat,WeL n m tk (cU l) (cU l)
 | []=>rfl
 | b :: r=>⟨_,_,rfl,aA rfl,Hk r⟩
theorem Al {n m:Nat} {tk:List TkE} {l:List DV} {ds:List Nat} (h:l=cU ds):WeL n m tk l (cU ds):=by rw [h];exact Hk ds
def dNP (p:Nat × Nat):List DV:=[.v (.int .i64 (p.1:Int)),.v (.int .i64 (p.2:Int))]
def lC (l:List (Nat × Nat)):List (List DV):=l.map dNP
theorem gC (l:List (Nat × Nat)):(lC l).length=l.length:=by simp [lC]
theorem vc {l:List (Nat × Nat)} {i:Nat} {p:Nat × Nat} (h:l[i]? = some p):(lC l)[i]? = some (dNP p):=by simp [lC,h]
def vd (rows:List Nat) (p:Nat × Nat):List Nat:=rows.set p.1 (rows.getD p.1 0 ||| 2 ^ p.2)
def eX (n:Nat) (l:List (Nat × Nat)):List Nat:=l.foldl vd (List.replicate n 0)
theorem IU (n:Nat) (l:List (Nat × Nat)) (e:Nat) {p:Nat × Nat} (h:l[e]? = some p):eX n (l.take (e + 1))=vd (eX n (l.take e)) p:=by
 unfold eX;rw [List.take_add_one,h];simp
theorem pO (rows:List Nat) (p:Nat × Nat):(vd rows p).length=rows.length:=by simp [vd]
theorem jO (n:Nat):∀ (l:List (Nat × Nat)),(eX n l).length=n:=by
 intro l
 have:∀ (l:List (Nat × Nat)) (r:List Nat),(l.foldl vd r).length=r.length:=by
  intro l
  induction l with
  | nil=>intro r;rfl
  | cons p l ih=>intro r;rw [List.foldl_cons,ih,pO]
 rw [eX,this];simp
theorem Pu {rows:List Nat} {p:Nat × Nat} (h:dR rows) (hp:p.1 < rows.length) (hq:p.2 < 64):dR (vd rows p):=by
 refine ⟨by rw [pO];exact h.1,fun x hx=>?_⟩;rcases List.mem_or_eq_of_mem_set hx with hx | rfl
 ·exact h.2 x hx
 ·refine Nat.or_lt_two_pow (n:=64) ?_ (Nat.pow_lt_pow_right (by decide) hq);rw [eM,gE hp];exact h.2 _ (List.getElem_mem hp)
theorem Am {n:Nat} (hn:n<=64):∀ (l:List (Nat × Nat)),(∀ p∈l,p.1 < n/\p.2 < n)->dR (eX n l):=by
 intro l hl
 have:∀ (l:List (Nat × Nat)) (r:List Nat),r.length=n->dR r->(∀ p∈l,p.1 < n/\p.2 < n)->dR (l.foldl vd r):=by
  intro l
  induction l with
  | nil=>intro r _ h _;exact h
  | cons p l ih=>grind [pO,Pu]
 refine this l _ (by simp) ⟨by simp [hn],fun x hx=>?_⟩ hl;rw [List.mem_replicate] at hx;omega
abbrev L0 (n:Nat) (l:List (Nat × Nat)) (rows:List Nat) (e:Nat):St:=
 ⟨[au 0 n,aD 6 1,aZ 19 2 (lC l),au 20 ((lC l).length),au 21 e],
  [cU rows,[.ms 0 1 0 n n]],[]⟩
theorem IV (n:Nat) (hn:n<=64) (l:List (Nat × Nat)) (hl:∀ p∈l,p.1 < n/\p.2 < n) (hb:l.length<=1099511627776) :
  EvP prog 64 [.v (.int .i64 n),.sl 2 (lC l) none] (.tup [mg (eX n l),.v (.bool true)]):=by
 refine eG 60 [.tmp 4,.tmp 5] func64 rfl ntmps64 rfl fun _ _ _ _=>?_;refine br ?_ ?_<;>intro g
 ·exfalso;simp [aj] at g;omega
 refine ⟨⟨rfl,by omega,by omega,by omega⟩,?_⟩
 have h0:(List.replicate (n:Int).toNat [DV.v (.int .u64 0)]).flatten=cU (eX n (l.take 0)):=by
  simp [eX,cU]
 refine lJ (fun e=>L0 n l (eX n (l.take e)) e) l.length (wkB 2 (by repeat' (first | exact rfl | exact aA rfl | exact Al h0 | refine ⟨_,_,rfl,?_,?_⟩)) (by repeat' (first | exact trivial | exact aA rfl | exact Al h0 | refine ⟨⟨_,rfl,?_⟩,?_⟩))) ?_;intro e he;refine br ?_ ?_<;>intro hL
 ·have av:e < l.length:=by have:=hL;simp [gC] at this;exact this
  obtain ⟨p,hp⟩:=gX av;obtain ⟨p1,p2⟩:=hl p (mG hp);refine iX (vc hp) ?_;refine ⟨⟨by decide,by decide⟩,?_⟩;refine ⟨⟨by decide,by decide⟩,?_⟩;refine br ?_ ?_<;>intro g
  ·refine ⟨⟨by decide,by decide⟩,?_⟩;refine ⟨⟨by decide,by decide⟩,?_⟩;refine br ?_ ?_<;>intro g2
   ·exfalso;simp [pickB] at g2;omega
   obtain ⟨x,hx⟩:∃ x,(eX n (l.take e))[p.1]? = some x:=⟨_,gE (by rw [jO];exact p1)⟩;have bF:=Am hn (l.take e) (fun q hq=>hl q (List.mem_of_mem_take hq));have G3:=bF.2 x (mG hx);have zN:0 + (p.1:Int).toNat * 1=p.1:=by omega
   refine dS ?_;refine ⟨⟨by decide,by decide⟩,?_⟩;refine ⟨⟨by omega,by omega⟩,?_⟩;refine ⟨_,(by rw [zN];exact LY hx:(cU (eX n (l.take e)))[0 + (p.1:Int).toNat * 1]? = some _),?_⟩;refine ⟨⟨by decide,by decide⟩,?_⟩;refine ⟨by omega,?_⟩;refine ⟨⟨by omega,by omega⟩,?_⟩;refine ⟨by rw [zN,rq,jO];omega,?_⟩
   have cV:(cU (eX n (l.take e))).set (0 + (p.1:Int).toNat * 1) (DV.v (.int .u64 (IntKind.u64.wrap ((BitVec.ofInt 64 (x:Int) ||| BitVec.ofInt 64 (IntKind.u64.wrap (1 * 2 ^ (min (p.2:Int).toNat 64)))).toNat:Int))))=cU (eX n (l.take (e + 1))):=by
    rw [zN,show ((p.2:Int).toNat)=p.2 by omega,E6 (by omega) G3,LZ,IU n l e hp];simp only [vd];rw [getD_some hx]
   refine ⟨L0 n l (eX n (l.take (e + 1))) (e + 1),(wkB 2 (by repeat' (first | exact rfl | exact aA rfl | exact Al cV | exact aC (nxt av (by omega)) | refine ⟨_,_,rfl,?_,?_⟩)) (by repeat' (first | exact trivial | exact aA rfl | exact Al cV | exact aC (nxt av (by omega)) | refine ⟨⟨_,rfl,?_⟩,?_⟩))),l.length - (e + 1),by omega,e + 1,rfl,by omega,rfl⟩
  ·exfalso;simp [pickB] at g;omega
 ·have hge:e=l.length:=by have:=hL;simp [gC] at this;omega
  subst hge;rw [List.take_length];refine ⟨_,?_,rfl⟩;have hlen:=jO n l;generalize eX n l=rows at hlen ⊢;refine ⟨_,rfl,_,_,rfl,.inr ⟨1,_,rfl,Nat.zero_le _,rfl,_,_,rfl,.inr (.inr (.inl ⟨0,0,n,cU rows,by rw [kj,hlen],Nat.zero_le _,rfl,?_,?_,?_⟩)),rfl⟩,_,_,rfl,rfl,rfl⟩
  ·grind [pN,kj,rq]
  ·grind [dU]
  ·grind [pN,cU]
def jP (rows:List Nat) (k:Nat):List Nat:=rows.set k (rows.getD k 0 ||| 2 ^ k)
def nZ (k:Nat) (rows:List Nat) (a:Nat):List Nat:=if aS rows a k then rows.set a (rows.getD a 0 ||| rows.getD k 0) else rows
def gD (rows:List Nat) (k e:Nat):List Nat:=(List.range e).foldl (nZ k) (jP rows k)
def closeR (rows:List Nat) (e:Nat):List Nat:=(List.range e).foldl (fun r k=>gD r k r.length) rows
theorem L3 {rows:List Nat} {i x:Nat} (h:dR rows) (hx:x < 18446744073709551616):dR (rows.set i x):=by
 refine ⟨by rw [List.length_set];exact h.1,fun y hy=>?_⟩;rcases List.mem_or_eq_of_mem_set hy with hy | rfl
 ·exact h.2 y hy
 ·exact hx
theorem lD {rows:List Nat} (h:dR rows) (i:Nat):rows.getD i 0 < 18446744073709551616:=by
 rw [eM]
 cases hx:rows[i]? with
 | none=>simp
 | some x=>exact h.2 x (mG hx)
theorem L4 {rows:List Nat} {k:Nat} (h:dR rows) (hk:k < 64):dR (jP rows k):=
 L3 h (Nat.or_lt_two_pow (n:=64) (lD h k) (Nat.pow_lt_pow_right (by decide) hk))
theorem IW (rows:List Nat) (k:Nat):(jP rows k).length=rows.length:=by simp [jP]
theorem L5 {rows:List Nat} {k a:Nat} (h:dR rows):dR (nZ k rows a):=by
 unfold nZ;split
 ·exact L3 h (Nat.or_lt_two_pow (n:=64) (lD h a) (lD h k))
 ·exact h
theorem IX (rows:List Nat) (k a:Nat):(nZ k rows a).length=rows.length:=by
 unfold nZ;split<;>simp
theorem lE (rows:List Nat) (k e:Nat):gD rows k (e + 1)=nZ k (gD rows k e) e:=by simp [gD,List.range_succ]
theorem nv (rows:List Nat) (k:Nat):∀ e,(gD rows k e).length=rows.length
 | 0=>by simp [gD,IW]
 | e + 1=>by rw [lE,IX,nv]
theorem ve {rows:List Nat} {k:Nat} (h:dR rows) (hk:k < 64):∀ e,dR (gD rows k e)
 | 0=>by simpa [gD] using L4 h hk
 | e + 1=>by rw [lE];exact L5 (ve h hk e)
theorem j6 (rows:List Nat) (e:Nat):closeR rows (e + 1)=gD (closeR rows e) e (closeR rows e).length:=by simp [closeR,List.range_succ]
theorem eY (rows:List Nat):∀ e,(closeR rows e).length=rows.length
 | 0=>by simp [closeR]
 | e + 1=>by rw [j6,nv,eY]
theorem kD {rows:List Nat} (h:dR rows):∀ e,e<=64->dR (closeR rows e)
 | 0,_=>by simpa [closeR] using h
 | e + 1,he=>by rw [j6];exact ve (kD h e (by omega)) (by omega) _
def spU (m:Nat):List DV:=(List.replicate m (vL [Value.int .u64 0])).flatten
theorem vf {n m:Nat} {tk:List TkE}:∀ l:List DV,(∀ x∈l,∃ y,x = .v y)->WeL n m tk l l
 | [],_=>rfl
 | b :: r,h=>by
  obtain ⟨y,rfl⟩:=h b (by simp);exact ⟨_,_,rfl,aA rfl,vf r (fun x hx=>h x (by simp [hx]))⟩
theorem fp {n m:Nat} {tk:List TkE} {l:List DV} {ds:List Nat} {k:Nat} (h:l=cU ds ++ spU k):WeL n m tk l (cU ds ++ spU k):=by
 rw [h];refine vf _ fun x hx=>?_;rcases List.mem_append.1 hx with hx | hx
 ·grind [cU]
 ·simp_all [spU,vL]
theorem An {r:List Nat} {k i x:Nat} (h:r[i]? = some x):(cU r ++ spU k)[0 + (i:Int).toNat * 1]? = some (DV.v (.int .u64 (x:Int))):=by grind [rq,LY]
theorem L6 {r:List Nat} {k i x:Nat} (h:i < r.length):(cU r ++ spU k).set (0 + (i:Int).toNat * 1) (DV.v (.int .u64 (x:Int)))=cU (r.set i x) ++ spU k:=by grind [rq,LZ]
theorem L7 {r:List Nat} {k i:Nat} (h:i < r.length):0 + (i:Int).toNat * 1 + 1<=(cU r ++ spU k).length:=by
 rw [List.length_append,rq];omega
abbrev clSt (rows:List Nat) (cap:Nat) (r:List Nat) (e:Nat):St:=
 ⟨[aD 3 1,au 19 ((dU rows).length),au 20 e],[cU r ++ spU (cap - (dU rows).length),[.ms 0 1 0 (dU rows).length cap]],[]⟩
abbrev Yt (rows:List Nat) (cap:Nat) (r:List Nat) (e f:Nat):St:=
 ⟨[aD 3 1,au 4 e,au 19 ((dU rows).length),au 20 e,au 38 ((dU rows).length),au 39 f],[cU r ++ spU (cap - (dU rows).length),[.ms 0 1 0 (dU rows).length cap]],[]⟩
theorem oB {l:List Nat} {i:Nat} (h:i < l.length):l[i]? = some (l.getD i 0):=rf h
theorem sC (rows:List Nat) (hr:dR rows) (h0:rows ≠ []):EvP prog 66 [mg rows] (mg (closeR rows rows.length)):=by
 have hr1:=hr.1;have hN:=kj rows;have mj:0 < rows.length:=List.length_pos_iff.2 h0;refine zS (s:=false) (bt:=[]) (mu:=[12]) (hbt:=fun p hp=>by cases hp) (fr:=false) (P:=prog) tt BX 5000 72 [.tmp 2] func66 rfl ntmps66 rfl (nL rfl) (fun _ _ _ _=>?_);refine ⟨⟨by intro h;exact h0 (by simpa [dU] using h),by rw [kj];simp [maxLen];omega,by rw [kj];omega⟩,fun cap Il=>?_⟩
 have iP:(dU rows).flatten.append (List.replicate (cap - (dU rows).length) (vL [Value.int .u64 0])).flatten=cU (closeR rows 0) ++ spU (cap - (dU rows).length):=by
  show (dU rows).flatten ++ _=_;rw [pN];rfl
 refine lJ (fun e=>clSt rows cap (closeR rows e) e) rows.length (wkB 2 (mw iP) (wB1 iP)) ?_;intro e he;have bF:=kD hr e (by omega);have hlen:=eY rows e;have RR:=j6 rows e;generalize Yu:closeR rows e=r at bF hlen RR ⊢;refine br ?_ ?_<;>intro hL
 ·have av:e < rows.length:=by have:=hL;simp [hN] at this;exact this
  have hx:=oB (l:=r) (i:=e) (by omega);have Ys:=E6 (x:=r.getD e 0) (b:=e) (by omega) (lD bF e);refine dS ?_;refine ⟨⟨by omega,by omega⟩,?_⟩;refine ⟨_,An hx,?_⟩;refine ⟨by omega,?_⟩;refine ⟨⟨by omega,by omega⟩,?_⟩;refine ⟨L7 (by omega),?_⟩
  have om:(cU r ++ spU (cap - (dU rows).length)).set (0 + (e:Int).toNat * 1) (DV.v (.int .u64 (IntKind.u64.wrap ((BitVec.ofInt 64 ((r.getD e 0:Nat):Int) ||| BitVec.ofInt 64 (IntKind.u64.wrap (1 * 2 ^ (min (e:Int).toNat 64)))).toNat:Int))))=cU (gD r e 0) ++ spU (cap - (dU rows).length):=by
   rw [show min (e:Int).toNat 64=min e 64 by omega,Ys,L6 (by omega)];rfl
  refine lJ (fun f=>Yt rows cap (gD r e f) e f) rows.length (wkB 2 (mw om) (wB1 om)) ?_;intro f hf;have hpk:=ve (k:=e) bF (by omega) f;have ky:=nv r e f;have hps:=lE r e f;have dx:e < (gD r e f).length:=by rw [ky];omega
  refine br ?_ ?_<;>intro hL
  ·have Bp:f < rows.length:=by have:=hL;simp [hN] at this;exact this
   have hpf:f < (gD r e f).length:=by rw [ky];omega
   generalize gD r e f=q at hpk ky hps dx hpf ⊢;have hy:=oB hpf;have hz:=oB dx;have L8:=Hj (x:=q.getD f 0) (b:=e) (by omega) (lD hpk f);have Ys:=Pt (lD hpk f) (lD hpk e);refine ⟨⟨by omega,by omega⟩,?_⟩;refine ⟨_,An hy,?_⟩;refine ⟨by omega,?_⟩;refine br ?_ ?_<;>intro g
   ·have g:aS q f e=true:=L8.symm.trans g;refine dS ?_;refine ⟨⟨by omega,by omega⟩,?_⟩;refine ⟨_,An hy,?_⟩;refine ⟨⟨by omega,by omega⟩,?_⟩;refine ⟨_,An hz,?_⟩;refine ⟨⟨by omega,by omega⟩,?_⟩;refine ⟨L7 hpf,?_⟩
    have lZ:(cU q ++ spU (cap - (dU rows).length)).set (0 + (f:Int).toNat * 1) (DV.v (.int .u64 (IntKind.u64.wrap ((BitVec.ofInt 64 ((q.getD f 0:Nat):Int) ||| BitVec.ofInt 64 ((q.getD e 0:Nat):Int)).toNat:Int))))=cU (gD r e (f + 1)) ++ spU (cap - (dU rows).length):=by
     rw [Ys,L6 hpf,hps,nZ,ai g]
    exact rE ⟨_,by omega,f + 1,rfl,by omega,rfl⟩ (wkB 2 (wA2 lZ (nxt Bp (by omega))) (wB2 lZ (nxt Bp (by omega))))
   ·have g:aS q f e=false:=L8.symm.trans g
    have lZ:cU q ++ spU (cap - (dU rows).length)=cU (gD r e (f + 1)) ++ spU (cap - (dU rows).length):=by
     rw [hps,nZ,ah (by rw [g];decide)]
    exact rE ⟨_,by omega,f + 1,rfl,by omega,rfl⟩ (wkB 2 (wA2 lZ (nxt Bp (by omega))) (wB2 lZ (nxt Bp (by omega))))
  ·have hge:f=rows.length:=sW hN hL;subst hge
   have Q4:cU (gD r e rows.length) ++ spU (cap - (dU rows).length)=cU (closeR rows (e + 1)) ++ spU (cap - (dU rows).length):=by
    rw [RR,hlen]
   exact rE ⟨_,by omega,e + 1,rfl,by omega,rfl⟩ (wkB 2 (wA2 Q4 (nxt av (by omega))) (wB2 Q4 (nxt av (by omega))))
 ·have hge:e=rows.length:=sW hN hL;subst hge;refine ⟨_,?_,rfl⟩;rw [Yu];refine .inr ⟨1,_,rfl,Nat.zero_le _,rfl,_,_,rfl,.inr (.inr (.inl ⟨0,0,cap,cU r ++ spU (cap - (dU rows).length),by rw [kj r,hlen,hN],Nat.zero_le _,rfl,?_,?_,?_⟩)),rfl⟩
  ·grind [pN,kj,rq]
  ·grind [dU]
  ·grind [pN,cU]
theorem kE {a b c d:Nat} (ha:a < 256) (hb:b < 256):(a + 256 * c) &&& (b + 256 * d)=(a &&& b) + 256 * (c &&& d):=by
 have h1:a &&& b < 256:=Nat.and_lt_two_pow (n:=8) a hb;apply Nat.eq_of_testBit_eq;intro i
 have e (x y:Nat) (hx:x < 256):(x + 256 * y).testBit i=if i < 8 then x.testBit i else y.testBit (i - 8):=by
  rw [show x + 256 * y=2 ^ 8 * y + x by omega,Nat.testBit_two_pow_mul_add _ (sU hx)]
 grind
def b1 (x:Nat):Nat:=((x / 2) &&& 85) + (x &&& 85)
def b2 (x:Nat):Nat:=((x / 4) &&& 51) + (x &&& 51)
def b3 (x:Nat):Nat:=((x / 16) + x) &&& 15
def pop8 (x:Nat):Nat:=b3 (b2 (b1 x))
theorem Hl:∀ x:Fin 256,b1 x.val < 256/\b2 (b1 x.val) < 120/\pop8 x.val<=8/\pop8 x.val=(((((((x.val.testBit 0).toNat + (x.val.testBit 1).toNat) + (x.val.testBit 2).toNat) + (x.val.testBit 3).toNat) + (x.val.testBit 4).toNat) + (x.val.testBit 5).toNat) + (x.val.testBit 6).toNat) + (x.val.testBit 7).toNat:=by decide +kernel
def valB:List Nat->Nat
 | []=>0
 | a :: r=>a + 256 * valB r
def rep (m:Nat):Nat->Nat
 | 0=>0
 | n + 1=>m + 256 * rep m n
theorem m1:∀ (a:Fin 256) (c:Fin 2),(a.val / 2 + 128 * c.val) &&& 85=(a.val / 2) &&& 85:=by decide +kernel
theorem m2:∀ (a:Fin 256) (c:Fin 4),(a.val / 4 + 64 * c.val) &&& 51=(a.val / 4) &&& 51:=by decide +kernel
theorem qZ:∀ l:List Nat,(∀ a∈l,a < 256)->((valB l / 2) &&& rep 85 l.length) + (valB l &&& rep 85 l.length)=valB (l.map b1)
 | [],_=>rfl
 | a :: r,h=>by
  have ih:=qZ r (fun x hx=>h x (by simp [hx]));have ha:=h a (by simp);have e1:(a + 256 * valB r) / 2=(a / 2 + 128 * (valB r % 2)) + 256 * (valB r / 2):=by omega
  have hm:=m1 ⟨a,ha⟩ ⟨valB r % 2,by omega⟩;simp only at hm;simp only [valB,List.length_cons,rep,List.map_cons,b1];rw [e1,kE (by omega) (by decide),kE ha (by decide),hm,<- ih];omega
theorem Ix:∀ l:List Nat,(∀ a∈l,a < 256)->((valB l / 4) &&& rep 51 l.length) + (valB l &&& rep 51 l.length)=valB (l.map b2)
 | [],_=>rfl
 | a :: r,h=>by
  have ih:=Ix r (fun x hx=>h x (by simp [hx]));have ha:=h a (by simp);have e1:(a + 256 * valB r) / 4=(a / 4 + 64 * (valB r % 4)) + 256 * (valB r / 4):=by omega
  have hm:=m2 ⟨a,ha⟩ ⟨valB r % 4,by omega⟩;simp only at hm;simp only [valB,List.length_cons,rep,List.map_cons,b2];rw [e1,kE (by omega) (by decide),kE ha (by decide),hm,<- ih];omega
theorem Yv (x y:Nat):(x + 16 * y) &&& 15=x &&& 15:=by
 have h (z:Nat):z &&& 15=z % 16:=Nat.and_two_pow_sub_one_eq_mod z 4;rw [h,h];omega
def Co (a:Nat):Prop:=a < 70/\a % 16<=4
theorem st3:∀ l:List Nat,(∀ a∈l,Co a)->((valB l / 16) + valB l) &&& rep 15 l.length=valB (l.map b3)
 | [],_=>rfl
 | a :: r,h=>by
  have ih:=st3 r (fun x hx=>h x (by simp [hx]));have ha:=h a (by simp)
  have hc:valB r % 16<=4:=by
   cases r with
   | nil=>simp [valB]
   | cons b s=>
    have:=(h b (by simp)).2;simp only [valB];omega
  unfold Co at ha;have e1:(a + 256 * valB r) / 16 + (a + 256 * valB r)=((a / 16 + a) + 16 * (valB r % 16)) + 256 * (valB r / 16 + valB r):=by omega
  simp only [valB,List.length_cons,rep,List.map_cons,b3];rw [e1,kE (by omega) (by decide),Yv,ih]
def eo (x:Nat):List Nat:=[x % 256,x / 256 % 256,x / 65536 % 256,x / 16777216 % 256,x / 4294967296 % 256,x / 1099511627776 % 256,x / 281474976710656 % 256,x / 72057594037927936 % 256]
theorem E8 {x:Nat} (h:x < 18446744073709551616):valB (eo x)=x:=by
 simp only [eo,valB];omega
theorem IY (x:Nat):∀ a∈eo x,a < 256:=by
 intro a ha;simp only [eo,List.mem_cons,List.not_mem_nil,or_false] at ha;omega
def E9 (x:Nat):Nat:=((eo x).map pop8).sum
theorem Cp:∀ a:Fin 256,b1 a.val < 256/\b2 (b1 a.val) < 70/\b2 (b1 a.val) % 16<=4:=by decide +kernel
theorem Ao {x m:Nat} (hx:x < 18446744073709551616) (hm:m < 18446744073709551616) :
  IntKind.u64.wrap ((BitVec.ofInt 64 (x:Int) &&& BitVec.ofInt 64 (m:Int)).toNat:Int)=((x &&& m:Nat):Int):=by
 rw [iu,iu,BitVec.toNat_and,BitVec.toNat_ofNat,BitVec.toNat_ofNat,Nat.mod_eq_of_lt hx,Nat.mod_eq_of_lt hm];have h3:x &&& m < 18446744073709551616:=Nat.and_lt_two_pow (n:=64) x hm;simp only [IntKind.wrap_u64];omega
theorem Fa {x:Nat} {k:Int} (hk:k.toNat < 64):(x:Int).fdiv (2 ^ min k.toNat IntKind.u64.bits)=((x / 2 ^ k.toNat:Nat):Int):=by
 rw [show min k.toNat IntKind.u64.bits=k.toNat from Nat.min_eq_left (by show k.toNat<=64;omega),Cn]
theorem Ap {y:Nat} (h:y < 18446744073709551616):IntKind.u64.wrap (y:Int)=(y:Int):=by
 simp only [IntKind.wrap_u64];omega
theorem Yw {k M:Int} {m x y:Nat} (hk:k.toNat < 64) (hx:x < 18446744073709551616) (hM:M=(m:Int)) (hm:m < 18446744073709551616) (hy:((x / 2 ^ k.toNat) &&& m) + (x &&& m)=y) (l9:y < 18446744073709551616) :
  IntKind.u64.wrap (IntKind.u64.wrap ((BitVec.ofInt IntKind.u64.bits ((x:Int).fdiv (2 ^ min k.toNat IntKind.u64.bits)) &&& BitVec.ofInt IntKind.u64.bits M).toNat:Int) + IntKind.u64.wrap ((BitVec.ofInt IntKind.u64.bits (x:Int) &&& BitVec.ofInt IntKind.u64.bits M).toNat:Int))=(y:Int):=by
 subst hM;have h1:x / 2 ^ k.toNat < 18446744073709551616:=Nat.lt_of_le_of_lt (Nat.div_le_self _ _) hx;have e1:IntKind.u64.wrap ((BitVec.ofInt IntKind.u64.bits ((x / 2 ^ k.toNat:Nat):Int) &&& BitVec.ofInt IntKind.u64.bits (m:Int)).toNat:Int)=_:=Ao h1 hm;have e2:IntKind.u64.wrap ((BitVec.ofInt IntKind.u64.bits (x:Int) &&& BitVec.ofInt IntKind.u64.bits (m:Int)).toNat:Int)=_:=Ao hx hm;rw [Fa hk,e1,e2,<- Int.natCast_add,hy,Ap l9]
theorem stgB {k M:Int} {m x y:Nat} (hk:k.toNat < 64) (hs:x / 2 ^ k.toNat + x < 18446744073709551616) (hM:M=(m:Int)) (hm:m < 18446744073709551616) (hy:((x / 2 ^ k.toNat) + x) &&& m=y) :
  IntKind.u64.wrap ((BitVec.ofInt IntKind.u64.bits (IntKind.u64.wrap ((x:Int).fdiv (2 ^ min k.toNat IntKind.u64.bits) + (x:Int))) &&& BitVec.ofInt IntKind.u64.bits M).toNat:Int)=(y:Int):=by
 subst hM;have e2:IntKind.u64.wrap ((BitVec.ofInt IntKind.u64.bits ((x / 2 ^ k.toNat + x:Nat):Int) &&& BitVec.ofInt IntKind.u64.bits (m:Int)).toNat:Int)=_:=Ao hs hm;rw [Fa hk,<- Int.natCast_add,Ap hs,e2,hy]
theorem TW {k:Int} {x:Nat} (hk:k.toNat < 64) (hs:x + x / 2 ^ k.toNat < 18446744073709551616) :
  IntKind.u64.wrap ((x:Int) + (x:Int).fdiv (2 ^ min k.toNat IntKind.u64.bits))=((x + x / 2 ^ k.toNat:Nat):Int):=by
 rw [Fa hk,<- Int.natCast_add,Ap hs]
theorem Hm:∀ l:List Nat,(∀ a∈l,a < 256)->valB l < 256 ^ l.length
 | [],_=>by simp [valB]
 | a :: r,h=>by
  have ih:=Hm r (fun x hx=>h x (by simp [hx]));have ha:=h a (by simp)
  grind [valB]
theorem L9 {x:Nat} (hx:x < 18446744073709551616):∃ y1 y2 y3:Nat,((x / 2) &&& 6148914691236517205) + (x &&& 6148914691236517205)=y1/\y1 < 18446744073709551616/\((y1 / 4) &&& 3689348814741910323) + (y1 &&& 3689348814741910323)=y2/\y2 / 16 + y2 < 18446744073709551616/\y2 < 18446744073709551616 /\
  ((y2 / 16) + y2) &&& 1085102592571150095=y3/\∃ p0 p1 p2 p3 p4 p5 p6 p7:Nat,y3=valB [p0,p1,p2,p3,p4,p5,p6,p7]/\(p0<=8/\p1<=8/\p2<=8/\p3<=8/\p4<=8/\p5<=8/\p6<=8/\p7<=8)/\E9 x=p0 + p1 + p2 + p3 + p4 + p5 + p6 + p7:=by
 have hl:=IY x;have s1:=qZ (eo x) hl;rw [E8 hx] at s1
 have l1:∀ a∈(eo x).map b1,a < 256:=by
  intro a ha;obtain ⟨b,hb,rfl⟩:=List.mem_map.1 ha;exact (Cp ⟨b,hl b hb⟩).1
 have l2:∀ a∈((eo x).map b1).map b2,Co a:=by
  intro a ha;obtain ⟨c,hc,rfl⟩:=List.mem_map.1 ha;obtain ⟨b,hb,rfl⟩:=List.mem_map.1 hc;exact (Cp ⟨b,hl b hb⟩).2
 have s2:=Ix ((eo x).map b1) l1;have s3:=st3 (((eo x).map b1).map b2) l2
 have v1:valB ((eo x).map b1) < 18446744073709551616:=by
  have:=Hm _ l1;rw [List.length_map,show (eo x).length=8 from rfl] at this;simpa using this
 rw [show rep 85 (eo x).length=6148914691236517205 from (by decide:rep 85 8=_)] at s1;rw [List.length_map,show rep 51 (eo x).length=3689348814741910323 from (by decide:rep 51 8=_)] at s2;rw [List.length_map,List.length_map,show rep 15 (eo x).length=1085102592571150095 from (by decide:rep 15 8=_)] at s3;refine ⟨_,_,_,s1,v1,s2,?_,?_,s3,_,_,_,_,_,_,_,_,rfl,?_,?_⟩
 ·have:=l2;simp only [eo,List.map_cons,List.map_nil,List.mem_cons,List.not_mem_nil,or_false,forall_eq_or_imp,forall_eq,Co,valB] at this ⊢;omega
 ·have:=l2;simp only [eo,List.map_cons,List.map_nil,List.mem_cons,List.not_mem_nil,or_false,forall_eq_or_imp,forall_eq,Co,valB] at this ⊢;omega
 ·have h (b:Nat) (hb:b < 256):=(Hl ⟨b,hb⟩).2.2.1;exact ⟨h _ (by omega),h _ (by omega),h _ (by omega),h _ (by omega),h _ (by omega),h _ (by omega),h _ (by omega),h _ (by omega)⟩
 ·simp only [E9,eo,List.map_cons,List.map_nil,List.sum_cons,List.sum_nil,pop8];omega
theorem dr1 {a r:Nat} (h:a < 256):(a + 256 * r) / 256=r:=by omega
theorem dr2 {a b r:Nat} (h:a < 256) (h2:b < 256):(a + 256 * (b + 256 * r)) / 65536=r:=by omega
theorem Ma {p0 p1 p2 p3 p4 p5 p6 p7:Nat} (hp:p0<=8/\p1<=8/\p2<=8/\p3<=8/\p4<=8/\p5<=8/\p6<=8/\p7<=8):∃ z1 z2 z3:Nat,
  (p0 + 256 * (p1 + 256 * (p2 + 256 * (p3 + 256 * (p4 + 256 * (p5 + 256 * (p6 + 256 * (p7 + 256 * 0)))))))) + (p0 + 256 * (p1 + 256 * (p2 + 256 * (p3 + 256 * (p4 + 256 * (p5 + 256 * (p6 + 256 * (p7 + 256 * 0)))))))) / 256=z1/\z1 < 18446744073709551616 /\
  z1 + z1 / 65536=z2/\z2 < 18446744073709551616/\z2 + z2 / 4294967296=z3/\z3 < 18446744073709551616/\z3 % 128=p0 + p1 + p2 + p3 + p4 + p5 + p6 + p7:=by
 refine ⟨(p0 + p1) + 256 * ((p1 + p2) + 256 * ((p2 + p3) + 256 * ((p3 + p4) + 256 * ((p4 + p5) + 256 * ((p5 + p6) + 256 * ((p6 + p7) + 256 * p7)))))),
  (p0 + p1 + p2 + p3) + 256 * ((p1 + p2 + p3 + p4) + 256 * ((p2 + p3 + p4 + p5) + 256 * ((p3 + p4 + p5 + p6) + 256 * ((p4 + p5 + p6 + p7) + 256 * ((p5 + p6 + p7) + 256 * ((p6 + p7) + 256 * p7)))))),
  (p0 + p1 + p2 + p3 + p4 + p5 + p6 + p7) + 256 * ((p1 + p2 + p3 + p4 + p5 + p6 + p7) + 256 * ((p2 + p3 + p4 + p5 + p6 + p7) + 256 * ((p3 + p4 + p5 + p6 + p7) + 256 * ((p4 + p5 + p6 + p7) + 256 * ((p5 + p6 + p7) + 256 * ((p6 + p7) + 256 * p7)))))),?_,by omega,?_,by omega,?_,by omega,by omega⟩
 ·rw [dr1 (by omega)];omega
 ·rw [dr2 (by omega) (by omega)];omega
 ·omega
theorem Mb {z:Nat} (h:z < 18446744073709551616):IntKind.i64.wrap ((BitVec.ofInt IntKind.i64.bits (IntKind.i64.wrap (z:Int)) &&& BitVec.ofInt IntKind.i64.bits 127).toNat:Int)=((z % 128:Nat):Int):=by
 have e1:BitVec.ofInt 64 (IntKind.i64.wrap (z:Int))=BitVec.ofNat 64 z:=by
  apply BitVec.eq_of_toNat_eq;rw [BitVec.toNat_ofInt,BitVec.toNat_ofNat,IntKind.wrap_i64];omega
 have e2:(BitVec.ofInt 64 (IntKind.i64.wrap (z:Int)) &&& BitVec.ofInt 64 127).toNat=z % 128:=by
  rw [e1,show BitVec.ofInt 64 127=BitVec.ofNat 64 127 by decide,BitVec.toNat_and,BitVec.toNat_ofNat,BitVec.toNat_ofNat,Nat.mod_eq_of_lt h];exact Nat.and_two_pow_sub_one_eq_mod z 7
 have e3:(BitVec.ofInt IntKind.i64.bits (IntKind.i64.wrap (z:Int)) &&& BitVec.ofInt IntKind.i64.bits 127).toNat=z % 128:=e2;rw [e3,IntKind.wrap_i64];omega
theorem IZ (x:Nat) (hx:x < 18446744073709551616):EvP prog 115 [.v (.int .u64 x)] (.v (.int .i64 (E9 x:Nat))):=by
 obtain ⟨y1,y2,y3,h1,Vr,h2,h2s,h2b,h3,p0,p1,p2,p3,p4,p5,p6,p7,h4,hp,h5⟩:=L9 hx;rw [h5];simp only [valB] at h4;refine eG 35 [.tmp 2] func115 rfl ntmps115 rfl fun _ _ _ _=>?_;refine ⟨by decide,?_⟩;refine ⟨by decide,?_⟩;refine ⟨by decide,?_⟩;refine ⟨by decide,?_⟩;refine ⟨by decide,?_⟩;refine ⟨by decide,?_⟩;refine (qY ?_:);rw [Yw (k:=1) (M:=6148914691236517205) (by decide) hx rfl (by decide) h1 Vr,Yw (k:=2) (M:=3689348814741910323) (by decide) Vr rfl (by decide) h2 h2b,stgB (k:=4) (M:=1085102592571150095) (by decide) h2s rfl (by decide) h3];obtain ⟨z1,z2,z3,g1,g1b,g2,g2b,g3,g3b,g4⟩:=Ma hp;rw [<- h4] at g1;have k1:y3 + y3 / 2 ^ (8:Int).toNat=z1:=g1;rw [TW (k:=8) (by decide) (by rw [k1];exact g1b),k1];have k2:z1 + z1 / 2 ^ (16:Int).toNat=z2:=g2;rw [TW (k:=16) (by decide) (by rw [k2];exact g2b),k2];have k3:z2 + z2 / 2 ^ (32:Int).toNat=z3:=g3;rw [TW (k:=32) (by decide) (by rw [k3];exact g3b),k3,<- g4];exact Mb g3b
theorem iG (x k i:Nat) (hi:i < 8):(x / 2 ^ (8 * k) % 256).testBit i=x.testBit (8 * k + i):=by
 rw [show (256:Nat)=2 ^ 8 by decide,Nat.testBit_mod_two_pow,decide_eq_true hi,Bool.true_and,Nat.testBit_div_two_pow,Nat.add_comm]
theorem iH (x k:Nat):pop8 (x / 2 ^ (8 * k) % 256)=(((((((x.testBit (8 * k + 0)).toNat + (x.testBit (8 * k + 1)).toNat) + (x.testBit (8 * k + 2)).toNat) + (x.testBit (8 * k + 3)).toNat) + (x.testBit (8 * k + 4)).toNat) + (x.testBit (8 * k + 5)).toNat) + (x.testBit (8 * k + 6)).toNat) + (x.testBit (8 * k + 7)).toNat:=by
 have h:=(Hl ⟨x / 2 ^ (8 * k) % 256,Nat.mod_lt _ (by decide)⟩).2.2.2;simp only at h;rw [h,iG x k 0 (by decide),iG x k 1 (by decide),iG x k 2 (by decide),iG x k 3 (by decide),iG x k 4 (by decide),iG x k 5 (by decide),iG x k 6 (by decide),iG x k 7 (by decide)]
def sumB (x:Nat):Nat->Nat
 | 0=>0
 | n + 1=>sumB x n + (x.testBit n).toNat
theorem Mc (x:Nat):E9 x=sumB x 64:=by
 have h0:=iH x 0;have h1:=iH x 1;have h2:=iH x 2;have h3:=iH x 3;have h4:=iH x 4;have h5:=iH x 5;have h6:=iH x 6;have h7:=iH x 7;simp only [Nat.mul_zero,Nat.pow_zero,Nat.div_one] at h0;simp only [E9,eo,List.map_cons,List.map_nil,List.sum_cons,List.sum_nil,sumB]
 grind
theorem vg (x:Nat):∀ n,0 < sumB x n↔∃ b,b < n/\x.testBit b=true
 | 0=>by simp [sumB]
 | n + 1=>by
  have ih:=vg x n
  grind [sumB]
theorem Cq (x a:Nat) (ha:x.testBit a=true):∀ n,a < n->(1 < sumB x n↔∃ b,b < n/\b≠a/\x.testBit b=true)
 | 0,h=>by omega
 | n + 1,h=>by
  simp only [sumB];by_cases hn:a=n
  ·grind [vg]
  ·have ih:=Cq x a ha n (by omega)
   grind [vg]
def bc (p:Nat->Bool) (n:Nat):Option Nat:=(List.range n).find? p
theorem bP {p:Nat->Bool} {n e:Nat} (he:e < n) (hp:p e=true) (h:∀ a,a < e->p a=false):bc p n=some e:=by simp_all [bc]
theorem bZ {p:Nat->Bool} {n:Nat} (h:∀ a,a < n->p a=false):bc p n=none:=by grind [bc]
theorem cM {p:Nat->Bool} {n e:Nat} (h:bc p n=some e):e < n/\p e=true/\∀ a,a < e->p a=false:=by simp_all [bc]
def pP (c:List Nat) (a:Nat):Bool:=decide (1 < E9 (backN c a c.length))
def Md:Option Nat->DV
 | some a=>.tup [.v (.int .i64 (a:Int)),.v (.bool true)]
 | none=>.tup [.v (.int .i64 0),.v (.bool false)]
abbrev Pv (c:List Nat) (e:Nat):St:=
 ⟨[(4,⟨[],mg c⟩),au 9 c.length,au 10 e],[],[]⟩
theorem Fb (rows:List Nat) (hr:dR rows) (h0:rows ≠ []):EvP prog 65 [mg rows] (Md (bc (pP (closeR rows rows.length)) rows.length)):=by
 have hc:=sC rows hr h0;have bF:=kD hr rows.length hr.1;have hlen:=eY rows rows.length;have hr1:=hr.1;generalize closeR rows rows.length=c at hc bF hlen ⊢;rw [<- hlen];have hl:=yC c;refine eG 20 [.tmp 2,.tmp 3] func65 rfl ntmps65 rfl fun _ _ _ _=>?_;refine cP WT hc ?_;refine cP Ld hl ?_;refine lI (fun j st=>∃ e:Nat,st=Pv c e/\e<=c.length/\(∀ a,a < e->pP c a=false)/\j=c.length - e) ⟨0,rfl,by omega,fun a h=>by omega,rfl⟩ (wkM wB) ?_;rintro j st ⟨e,rfl,he,dE,rfl⟩;refine br ?_ ?_<;>intro hL
 ·have av:e < c.length:=by have:=hL;simp at this;exact this
  have TV:backN c e c.length < 18446744073709551616:=by
   have h1:=vb c e c.length;have:2 ^ c.length<=2 ^ 64:=Nat.pow_le_pow_right (by decide) (by omega);omega
  refine cP Xe (E7 c bF e av) ?_;refine cP Xd (IZ _ TV) ?_;refine br ?_ ?_<;>intro g
  ·have g:pP c e=true:=by
    simp at g;simp [pP];omega
   rw [bP av g dE];refine ⟨_,?_,rfl⟩;exact ax
  ·have g:pP c e=false:=by
    simp at g;simp [pP];omega
   exact rE ⟨_,by omega,e + 1,rfl,by omega,fun a ha=>by
    rcases jB ha with ha | rfl
    ·exact dE a ha
    ·exact g,rfl⟩ (wkM (wB1 (nxt av (by omega))))
 ·have hge:e=c.length:=by have:=hL;simp at this;omega
  subst hge;rw [bZ dE];refine ⟨_,?_,rfl⟩;exact ax
theorem vi {rows:List Nat} {i x a b:Nat} (hi:i < rows.length):aS (rows.set i x) a b=if a=i then x.testBit b else aS rows a b:=by grind [aS]
theorem ny {rows:List Nat} {k a b:Nat} (hk:k < rows.length):aS (jP rows k) a b=(aS rows a b || (decide (a=k) && decide (b=k))):=by
 unfold jP;rw [vi hk];by_cases h:a=k
 ·subst h;rw [ai rfl,jN];simp only [decide_true,Bool.true_and];rw [show decide (a=b)=decide (b=a) from by simp only [eq_comm]];rfl
 ·rw [ah h];simp [h]
theorem I0 {rows:List Nat} {k i a b:Nat} (hi:i < rows.length):aS (nZ k rows i) a b=(aS rows a b || (decide (a=i) && (aS rows a k && aS rows k b))):=by grind [nZ,aS,vi]
theorem yD {rows:List Nat} {k:Nat} (hk:k < rows.length):∀ e,e<=rows.length->∀ a b,aS (gD rows k e) a b=(aS (jP rows k) a b || (decide (a < e) && (aS (jP rows k) a k && aS (jP rows k) k b)))
 | 0,_,a,b=>by simp [gD]
 | e + 1,he,a,b=>by
  have ih:=yD hk e (by omega)
  grind [lE,I0,nv,aS,jP,ny]
inductive tN (p:Nat->Nat->Prop):Nat->Nat->Prop
 | refl (a:Nat):tN p a a
 | step {a b c:Nat}:tN p a b->p b c->tN p a c
theorem tN.trans {p:Nat->Nat->Prop} {a b c:Nat} (h1:tN p a b) (h2:tN p b c):tN p a c:=by
 induction h2 with
 | refl=>exact h1
 | step _ h ih=>exact .step ih h
theorem tN.mono {p q:Nat->Nat->Prop} (h:∀ a b,p a b->tN q a b) {a b:Nat} (h1:tN p a b):tN q a b:=by
 induction h1 with
 | refl=>exact .refl _
 | step _ h2 ih=>exact ih.trans (h _ _ h2)
def wayQ (p:Nat->Nat->Prop):Nat->Nat->Nat->Prop
 | 0,a,b=>a=b∨p a b
 | k + 1,a,b=>wayQ p k a b∨(wayQ p k a k/\wayQ p k k b)
theorem yE {p:Nat->Nat->Prop} (a:Nat):∀ k,wayQ p k a a
 | 0=>.inl rfl
 | k + 1=>.inl (yE a k)
theorem yF {p:Nat->Nat->Prop} {a b:Nat} (h:p a b):∀ k,wayQ p k a b
 | 0=>.inr h
 | k + 1=>.inl (yF h k)
theorem pQ {p:Nat->Nat->Prop}:∀ k a b,wayQ p k a b->tN p a b
 | 0,a,b,h=>by
  rcases h with rfl | h
  ·exact .refl _
  ·exact .step (.refl _) h
 | k + 1,a,b,h=>by
  rcases h with h | ⟨h1,h2⟩
  ·exact pQ k a b h
  ·exact (pQ k a k h1).trans (pQ k k b h2)
theorem lF {p:Nat->Nat->Prop}:∀ k a m b,m < k->wayQ p k a m->wayQ p k m b->wayQ p k a b
 | 0,_,_,_,h,_,_=>by omega
 | k + 1,a,m,b,hm,h1,h2=>by
  by_cases Vw:m=k
  ·grind [wayQ]
  ·have te:m < k:=by omega
   rcases h1 with h1 | ⟨h1,h3⟩
   ·rcases h2 with h2 | ⟨h2,h4⟩
    ·exact .inl (lF k a m b te h1 h2)
    ·exact .inr ⟨lF k a m k te h1 h2,h4⟩
   ·rcases h2 with h2 | ⟨h2,h4⟩
    ·exact .inr ⟨h1,lF k k m b te h3 h2⟩
    ·exact .inr ⟨h1,h4⟩
theorem vj {rows:List Nat}:∀ k,k<=rows.length->∀ a b,a < rows.length->((aS (closeR rows k) a b=true∨a=b)↔wayQ (fun x y=>aS rows x y=true) k a b)/\(a < k->aS (closeR rows k) a a=true)
 | 0,_,a,b,_=>by grind [closeR,wayQ]
 | k + 1,hk,a,b,ha=>by
  have ih:=vj (rows:=rows) k (by omega);have nN:k < (closeR rows k).length:=by rw [eY];omega
  have hb:∀ a b,a < rows.length->aS (closeR rows (k + 1)) a b=(aS (jP (closeR rows k) k) a b || (aS (jP (closeR rows k) k) a k && aS (jP (closeR rows k) k) k b)):=fun a b ha=>by grind [j6,yD,eY]
  have hself:∀ a b,(aS (jP (closeR rows k) k) a b=true∨a=b)↔(aS (closeR rows k) a b=true∨a=b):=fun a b=>by grind [ny]
  have xC:aS (jP (closeR rows k) k) k k=true:=by rw [ny nN];simp
  have key:∀ a b,a < rows.length->((aS (closeR rows (k + 1)) a b=true∨a=b)↔wayQ (fun x y=>aS rows x y=true) (k + 1) a b):=fun a b ha=>by grind [wayQ]
  refine ⟨key a b ha,fun hak=>?_⟩;rw [hb a a ha];by_cases h:a=k
  ·subst h;rw [xC];all_goals rfl
  ·have:=(ih a a ha).2 (by omega);rw [ny nN,this];all_goals rfl
theorem Fc {rows:List Nat} (hb:∀ a b,a < rows.length->aS rows a b=true->b < rows.length) {a b:Nat} (ha:a < rows.length) (hbl:b < rows.length):aS (closeR rows rows.length) a b=true↔tN (fun x y=>x < rows.length/\aS rows x y=true) a b:=by
 have hw:=vj (rows:=rows) rows.length (aW _) a b ha;have h1:aS (closeR rows rows.length) a b=true↔wayQ (fun x y=>aS rows x y=true) rows.length a b:=by grind
 rw [h1];constructor
 ·intro h
  have av:∀ {x},tN (fun x y=>aS rows x y=true) a x->tN (fun x y=>x < rows.length/\aS rows x y=true) a x/\x < rows.length:=by
   intro x hx
   induction hx with
   | refl=>exact ⟨.refl _,ha⟩
   | step _ h2 ih=>exact ⟨.step ih.1 ⟨ih.2,h2⟩,hb _ _ ih.2 h2⟩
  exact (av (pQ _ _ _ h)).1
 ·intro h
  have:wayQ (fun x y=>aS rows x y=true) rows.length a b/\b < rows.length:=by
   clear h1 hw hbl
   induction h with
   | refl=>exact ⟨yE _ _,ha⟩
   | step _ h2 ih=>exact ⟨lF _ _ _ _ ih.2 ih.1 (yF h2.2 _),hb _ _ h2.1 h2.2⟩
  exact this.1
theorem Me {rows:List Nat} {p:Nat × Nat} {a b:Nat} (hp:p.1 < rows.length):aS (vd rows p) a b=(aS rows a b || (decide (a=p.1) && decide (b=p.2))):=by
 unfold vd;rw [vi hp];by_cases h:a=p.1
 ·subst h;rw [ai rfl,jN];simp only [decide_true,Bool.true_and];rw [show decide (p.2=b)=decide (b=p.2) from by simp only [eq_comm]];rfl
 ·rw [ah h];simp [h]
theorem yG:∀ (l:List (Nat × Nat)) (rows:List Nat) (a b:Nat),(∀ p∈l,p.1 < rows.length)->(aS (l.foldl vd rows) a b=true↔aS rows a b=true∨(a,b)∈l)
 | [],_,_,_,_=>by simp
 | p :: l,rows,a,b,h=>by
  rw [List.foldl_cons,yG l _ a b (fun q hq=>by rw [pO];exact h q (by simp [hq])),Me (h p (by simp))]
  grind
theorem vl {n:Nat} {l:List (Nat × Nat)} (h:∀ p∈l,p.1 < n) (a b:Nat):aS (eX n l) a b=true↔(a,b)∈l:=by grind [eX,yG,aS]
def eC (n:Nat) (l:List (Nat × Nat)) (a b:Nat):Bool:=aS (closeR (eX n l) n) a b
def rr (n:Nat) (l:List (Nat × Nat)):Prop:=∀ p∈l,p.1 < n/\p.2 < n
theorem mJ {n:Nat} {l:List (Nat × Nat)} (h:rr n l) {a b:Nat} (ha:a < n) (hb:b < n):eC n l a b=true↔tN (fun x y=>(x,y)∈l) a b:=by
 have hlen:(eX n l).length=n:=jO n l;unfold eC
 have:=Fc (rows:=eX n l) (fun a b _ L8=>by
  rw [vl (fun p hp=>(h p hp).1)] at L8
  rw [hlen];exact (h _ L8).2) (a:=a) (b:=b) (by omega) (by omega)
 rw [hlen] at this;rw [this];constructor
 ·exact tN.mono fun x y K0=>.step (.refl _) ((vl (fun p hp=>(h p hp).1) x y).1 K0.2)
 ·exact tN.mono fun x y K0=>.step (.refl _) ⟨(h _ K0).1,(vl (fun p hp=>(h p hp).1) x y).2 K0⟩
theorem ru {n:Nat} {l:List (Nat × Nat)} (h:rr n l) {a:Nat} (ha:a < n):eC n l a a=true:=(mJ h ha ha).2 (.refl _)
theorem Fe {n:Nat} {l:List (Nat × Nat)} (h:rr n l) {a b c:Nat} (ha:a < n) (hb:b < n) (hc:c < n) (h1:eC n l a b=true) (h2:eC n l b c=true):eC n l a c=true:=
 (mJ h ha hc).2 (((mJ h ha hb).1 h1).trans ((mJ h hb hc).1 h2))
def j7 (n:Nat) (f:Nat->Nat->Bool) (a:Nat):Bool:=(List.range n).any fun b=>decide (a≠b) && (f a b && f b a)
theorem Mf {n:Nat} {l:List (Nat × Nat)} (hn:n<=64) (h:rr n l) {a:Nat} (ha:a < n):pP (closeR (eX n l) n) a=j7 n (eC n l) a:=by
 have hlen:(closeR (eX n l) n).length=n:=by rw [eY,jO]
 unfold pP j7;rw [Mc,hlen,Bool.eq_iff_iff,decide_eq_true_eq]
 have haa:(backN (closeR (eX n l) n) a n).testBit a=true:=by
  rw [rm];have:aS (closeR (eX n l) n) a a=true:=ru h ha;simp [ha,this]
 rw [Cq _ a haa 64 (by omega)];simp only [List.any_eq_true,List.mem_range,aO,decide_eq_true_eq,rm];constructor
 ·rintro ⟨b,_,bg,hb,h1,h2⟩;exact ⟨b,hb,fun e=>bg e.symm,h1,h2⟩
 ·rintro ⟨b,hb,bg,h1,h2⟩;exact ⟨b,by omega,fun e=>bg e.symm,hb,h1,h2⟩
theorem Aq {p q:Nat->Bool} {n:Nat} (h:∀ a,a < n->p a=q a):bc p n=bc q n:=by
 unfold bc
 have:∀ (l:List Nat),(∀ a∈l,p a=q a)->l.find? p=l.find? q:=by
  intro l
  induction l with
  | nil=>intro _;rfl
  | cons x r ih=>grind
 grind
theorem Pw {n:Nat} {l:List (Nat × Nat)} (hn:n<=64) (h:rr n l):bc (pP (closeR (eX n l) n)) n=bc (j7 n (eC n l)) n:=
 Aq fun _ ha=>Mf hn h ha
def gF (r:List Bool) (p:Nat × Nat):List Bool:=if r.getD p.1 false then r.set p.2 true else r
def iv (l:List (Nat × Nat)) (r:List Bool):List Bool:=l.foldl gF r
def cG (l:List (Nat × Nat)) (r:List Bool) (k:Nat):List Bool:=(List.range k).foldl (fun r _=>iv l r) r
def tv (n:Nat) (l:List (Nat × Nat)) (a:Nat):List Bool:=cG l ((List.replicate n false).set a true) n
theorem ep (l:List (Nat × Nat)) (r:List Bool) (k:Nat):cG l r (k + 1)=iv l (cG l r k):=by simp [cG,List.range_succ]
theorem kF (r:List Bool) (p:Nat × Nat):(gF r p).length=r.length:=by unfold gF;split<;>simp
theorem oC (l:List (Nat × Nat)):∀ r,(iv l r).length=r.length:=by
 induction l with
 | nil=>intro r;rfl
 | cons p l ih=>intro r;simp only [iv,List.foldl_cons] at ih ⊢;rw [ih,kF]
theorem eZ (l:List (Nat × Nat)) (r:List Bool):∀ k,(cG l r k).length=r.length
 | 0=>by simp [cG]
 | k + 1=>by rw [ep,oC,eZ]
theorem pS (n:Nat) (l:List (Nat × Nat)) (a:Nat):(tv n l a).length=n:=by simp [tv,eZ]
def Px (r s:List Bool):Prop:=∀ i:Nat,r.getD i false=true->s.getD i false=true
theorem jQ {r:List Bool} {i j:Nat} (hi:i < r.length):(r.set i true).getD j false=(decide (j=i) || r.getD j false):=by grind
theorem Cr {r:List Bool} {p:Nat × Nat} (hp:p.2 < r.length):Px r (gF r p):=by
 intro i hi
 grind [gF,jQ]
theorem nz:∀ {l:List (Nat × Nat)} {r:List Bool},(∀ p∈l,p.2 < r.length)->Px r (iv l r)
 | [],r,_,i,hi=>hi
 | p :: l,r,h,i,hi=>by
  have:Px (gF r p) (iv l (gF r p)):=nz fun q hq=>by rw [kF];exact h q (by simp [hq])
  exact this i (Cr (h p (by simp)) i hi)
def vm (r:List Bool):Nat:=r.countP (fun x=>x)
theorem Hn (r:List Bool):vm r<=r.length:=List.countP_le_length
theorem vo:∀ {r s:List Bool},r.length=s.length->Px r s->(r=s∨vm r < vm s)/\vm r<=vm s
 | [],[],_,_=>⟨.inl rfl,aW _⟩
 | x :: r,y :: s,hl,h=>by
  have Bm:r.length=s.length:=sU hl;have ih:=vo Bm (fun i hi=>by simpa using h (i + 1) (sU hi));have h0:x=true->y=true:=fun hx=>by simpa using h 0 (sU hx)
  grind [vm]
 | [],_ :: _,h,_=>by simp at h
 | _ :: _,[],h,_=>by simp at h
theorem Cs {r s:List Bool} (hl:r.length=s.length) (h1:Px r s) (h2:Px s r):r=s:=by
 rcases (vo hl h1).1 with h | h
 ·exact h
 ·have:=(vo hl.symm h2).2;omega
theorem vq:∀ {l:List (Nat × Nat)} {r:List Bool},(∀ p∈l,p.2 < r.length)->iv l r=r->∀ p∈l,r.getD p.1 false=true->r.getD p.2 false=true
 | [],_,_,_,p,hp,_=>by cases hp
 | q :: l,r,h,he,p,hp,h1=>by
  have hq:=h q (by simp);have hl:∀ p∈l,p.2 < (gF r q).length:=fun p hp=>by rw [kF];exact h p (by simp [hp])
  have hs:gF r q=r:=by
   have h2:Px (gF r q) r:=by
    have:=nz hl
    grind [iv,gF]
   grind [Cs,kF,Cr]
  rcases cr hp with rfl | hp
  ·grind [gF,jQ]
  ·have Td:iv l r=r:=by grind [iv,gF]
   exact vq (fun p hp=>h p (by simp [hp])) Td p hp h1
theorem sD {l:List (Nat × Nat)} {r:List Bool} (h:∀ p∈l,p.2 < r.length):∀ k,iv l (cG l r k)=cG l r k∨vm r + k<=vm (cG l r k)
 | 0=>.inr (by simp [cG])
 | k + 1=>by
  have hk:∀ p∈l,p.2 < (cG l r k).length:=fun p hp=>by rw [eZ];exact h p hp
  rcases sD h k with h1 | h1
  ·left;rw [ep,h1,h1]
  ·rcases (vo (oC l _).symm (nz hk)).1 with h2 | h2
   ·left;rw [ep,<- h2,<- h2]
   ·right;rw [ep];omega
theorem I1 {l:List (Nat × Nat)} {a:Nat} {r:List Bool} {p:Nat × Nat} (hp:p∈l) (hl:p.2 < r.length) (h:∀ i,r.getD i false=true->tN (fun x y=>(x,y)∈l) a i):∀ i,(gF r p).getD i false=true->tN (fun x y=>(x,y)∈l) a i:=by
 intro i hi;unfold gF at hi;split at hi
 ·rename_i h1;rw [jQ hl] at hi;simp only [Bool.or_eq_true,decide_eq_true_eq] at hi;rcases hi with rfl | hi
  ·exact .step (h _ h1) hp
  ·exact h i hi
 ·exact h i hi
theorem vt {l:List (Nat × Nat)} {a:Nat}:∀ (m:List (Nat × Nat)) {r:List Bool},(∀ p∈m,p∈l/\p.2 < r.length)->(∀ i,r.getD i false=true->tN (fun x y=>(x,y)∈l) a i)->∀ i,(iv m r).getD i false=true->tN (fun x y=>(x,y)∈l) a i
 | [],_,_,h=>h
 | p :: m,r,hm,h=>vt m (r:=gF r p) (fun q hq=>by rw [kF];exact hm q (by simp [hq])) (I1 (hm p (by simp)).1 (hm p (by simp)).2 h)
theorem sE {l:List (Nat × Nat)} {a:Nat} {r:List Bool} (hl:∀ p∈l,p.2 < r.length) (h:∀ i,r.getD i false=true->tN (fun x y=>(x,y)∈l) a i):∀ k i,(cG l r k).getD i false=true->tN (fun x y=>(x,y)∈l) a i
 | 0=>by simpa [cG] using h
 | k + 1=>by
  rw [ep];exact vt l (fun p hp=>⟨hp,by rw [eZ];exact hl p hp⟩) (sE hl h k)
theorem vu {l:List (Nat × Nat)} {r:List Bool} (hl:∀ p∈l,p.2 < r.length):∀ k,Px r (cG l r k)
 | 0=>by intro i hi;simpa [cG] using hi
 | k + 1=>fun i hi=>by
  rw [ep];exact nz (fun p hp=>by rw [eZ];exact hl p hp) i (vu hl k i hi)
theorem Mg {n a:Nat} (ha:a < n):1<=vm ((List.replicate n false).set a true):=by grind [vm]
theorem Mh {n:Nat} {l:List (Nat × Nat)} (h:rr n l) {a b:Nat} (ha:a < n) (hb:b < n):(tv n l a).getD b false=eC n l a b:=by
 have hl:∀ p∈l,p.2 < ((List.replicate n false).set a true).length:=fun p hp=>by simp;exact (h p hp).2
 have xN:a < (List.replicate n false).length:=by simp [ha]
 rw [Bool.eq_iff_iff,mJ h ha hb];constructor
 ·refine sE hl (fun i hi=>?_) n b;rw [jQ xN] at hi;simp only [Bool.or_eq_true,decide_eq_true_eq] at hi;rcases hi with rfl | hi
  ·exact .refl _
  all_goals grind
 ·have hfix:iv l (tv n l a)=tv n l a:=by
   rcases sD hl n with h1 | h1
   ·exact h1
   ·grind [Hn,cG,eZ,Mg]
  have kr:=vq (fun p hp=>by rw [pS];exact (h p hp).2) hfix;intro hr;have haa:(tv n l a).getD a false=true:=vu hl n a (by rw [jQ xN];simp);clear hb
  induction hr with
  | refl=>exact haa
  | step _ h2 ih=>exact kr _ h2 ih
def dt (n:Nat) (f:Nat->Nat->Bool):List (List Bool):=(List.range n).map fun a=>(List.range n).map (f a)
theorem Py {n:Nat} {l:List (Nat × Nat)} (h:rr n l) {a:Nat} (ha:a < n):tv n l a=(List.range n).map (eC n l a):=by
 refine List.ext_getElem? fun i=>?_;by_cases hi:i < n
 ·have:=Mh h ha hi
  grind [pS]
 ·grind [pS]
theorem Ct {n:Nat} {f:Nat->Nat->Bool} {a:Nat} (ha:a < n):(dt n f)[a]? = some ((List.range n).map (f a)):=by
 simp [dt,List.getElem?_range ha]
theorem I2 {l:List Wd} {i:Nat} {x:Wd} (h:l[i]? = some x):az (l.take (i + 1))=az (l.take i) ++ [x.s]:=by
 rw [List.take_add_one,h];simp [az]
theorem Pz (l:List Wd) (s:ByteArray):cq l s=true↔s∈az l:=by grind [cq,az]
theorem lG {l:List Wd} {i:Nat} {x:Wd} (h:l[i]? = some x) (hn:(az (l.take i)).Nodup):(az (l.take (i + 1))).Nodup↔cq (l.take i) x.s=false:=by grind [I2,cq,Pz]
theorem yH {l:List Wd} {i:Nat} {x:Wd} (a:Int) (h:l[i]? = some x) (hn:(az (l.take i)).Nodup) :
  gz (az (l.take (i + 1))) x.s a=if aF l i x≠0 then (aF l i x,a) else (0,0):=by
 have hs:=lG h hn;unfold gz aF;by_cases h1:aM x.s=true
 ·grind
 ·rw [ah h1,ah h1];all_goals rfl
theorem lH {l:List Wd} {i:Nat} {x:Wd} (h:l[i]? = some x) (hn:(az (l.take i)).Nodup) (hz:aF l i x=0):(az (l.take (i + 1))).Nodup:=by grind [lG,aF,aM,cq]
theorem yI (l:List Wd):∀ (d e:Nat),e + d=l.length->(enumP l e)=(0,0)->(az (l.take e)).Nodup->enumP l l.length=enumL l e (l.drop e)
 | 0,e,hd,hz,hn=>by
  have:e=l.length:=by omega
  subst this;rw [hz,List.drop_length];all_goals rfl
 | d + 1,e,hd,hz,hn=>by
  obtain ⟨x,hx⟩:∃ x,l[e]? = some x:=⟨_,gE (by omega)⟩;have h1:=u6 (by rw [hz]) hx;rw [yH x.a hx hn] at h1;rw [drop_cons hx];simp only [enumL];by_cases hf:aF l e x≠0
  ·rw [ai hf] at h1 ⊢;have bi:=oA (l:=l) (e:=e + 1) (by rw [h1];exact hf) d
   grind
  ·rw [ah hf] at h1 ⊢;exact yI l d (e + 1) (by omega) h1 (lH hx hn (sU hf))
theorem Mi (h:Hd):mF h=il h:=by
 unfold mF il;by_cases h0:h.af=[]
 ·rw [ai h0,ai (by simp [h0])]
 ·rw [ah h0,ah (sU h0)];by_cases h1:64 < h.af.length
  ·rw [ai h1,ai h1]
  ·rw [ah h1,ah h1];have:=yI h.af h.af.length 0 (by omega) rfl (by simp [az]);simpa using this
def oD (p:Ph):Ph:=⟨p.name,true,[],0,0,0,0,[]⟩
theorem PA (p:Ph) (t:Ty):cR p t (oD p) cv=(cm p iW && sameTy t cv):=by grind [cm,oD,iW,cR]
theorem empty_eq (p:Ph):cR p cv eU cv=(decide (p.name.s=aq) && cm p eU):=by
 have e:sameTy cv cv=true:=by simp [cv,Lt,sameTy,ki,samePts,sameWds]
 simp only [cR,e,Bool.and_true];rfl
def cO (L:List ByteArray) (s:ByteArray):Option Nat:=bc (fun i=>decide (L[i]? = some s)) L.length
theorem cS {L:List ByteArray} {s:ByteArray} {p:Nat} (h:cO L s=some p):p < L.length/\L[p]? = some s/\∀ j,L[j]? = some s->p<=j:=by
 obtain ⟨h1,h2,h3⟩:=cM h
 grind
theorem Ar {L:List ByteArray} {s:ByteArray} {p:Nat} (h1:L[p]? = some s) (h2:∀ j,L[j]? = some s->p<=j):cO L s=some p:=by
 refine bP (gS h1).1 (sU h1) fun a ha=>?_
 grind
theorem ry {L:List ByteArray} {s:ByteArray} (h:∀ j:Nat,L[j]? ≠ some s):cO L s=none:=bZ fun a _=>by simpa using h a
theorem xP {L:List ByteArray} {s:ByteArray}:cO L s=none↔s ∉ L:=by
 constructor
 ·intro h hm;obtain ⟨j,hj⟩:=List.mem_iff_getElem?.1 hm
  grind [cO,bc]
 ·grind [ry]
theorem iw (L:List ByteArray) (aG:List Nat) (s:ByteArray) (hT:gT L aG) (hl:aG.length<=1099511627776) :
  EvP prog 72 [.pt (cL L aG) 0,.v (.string s)] (Md (cO L s)):=by
 by_cases hm:s∈L
 ·obtain ⟨j,hj⟩:=List.mem_iff_getElem?.1 hm;obtain ⟨q,p,hq,hp⟩:=hT.all j s hj;rw [Ar hp fun j' jo=>hT.fst q p j' s hq hp jo];exact find_spec L aG s q p hT hl hq hp
 rw [ry fun j hj=>hm (mG hj)]
 let pr:Nat->Prop:=fun i=>i=aG.length∨∃ p t,aG[i]? = some p/\L[p]? = some t/\z7 t s=false
 obtain ⟨m,gM,tI⟩:=least (p:=pr) ⟨aG.length,.inl rfl⟩;have hmn:m<=aG.length:=tI _ (.inl rfl);refine eG 47 [.tmp 4,.tmp 5] func72 rfl ntmps72 rfl fun _ _ _ _=>?_
 have kr:∀ i:Nat,i < aG.length->EvP prog 125 [.v (.int .i64 i),.pt [.pt (cL L aG) 0] 0,.pt [.v (.string s)] 0] (.v (.bool (decide (m<=i)))):=by
  intro i hi;obtain ⟨p',xK⟩:∃ p',aG[i]? = some p':=⟨_,gE hi⟩;obtain ⟨t,ht⟩:∃ t,L[p']? = some t:=⟨_,gE (hT.lt i p' xK)⟩;have:=uS L aG s i p' t xK ht
  have e:(!z7 t s)=decide (m<=i):=by
   by_cases h:m<=i
   ·have:z7 t s=false:=by
     rcases gM with gM | ⟨p,u,h1,h2,h3⟩
     ·omega
     ·rcases Nat.lt_or_eq_of_le h with h4 | h4
      ·have h5:=hT.srt m i p p' u t h4 h1 xK h2 ht;cases h6:z7 t s
       ·rfl
       ·grind [fQ,z7]
      ·grind
    simp [this,h]
   ·grind
  rw [e] at this;exact this
 have hS:=sw 125 Rc [.pt [.pt (cL L aG) 0] 0,.pt [.v (.string s)] 0] aG.length m hl hmn ax rfl kr;refine zW Rb hS (o0 (bu aG)) rfl ?_;refine dI ?_;refine br ?_ ?_<;>intro h
 ·have av:m < aG.length:=by grind [dInts,bu]
  rcases gM with gM | ⟨p,t,h1,h2,h3⟩
  ·omega
  refine iX (dQ h1) ?_;refine iX (fh h2) ?_;refine br ?_ ?_<;>intro h4
  ·exact ⟨_,ax,rfl⟩
  ·grind [aj]
 ·exact ⟨_,ax,rfl⟩
def fC (l:List Wd) (o:List (Wd × Wd)):Ft:=
 if l=[] then (15,0)
 else if 32 < l.length then (8,((l[32]?).getD (⟨aq,0⟩:Wd)).a)
 else if 256 < o.length then (8,((o[256]?).getD ((⟨aq,0⟩,⟨aq,0⟩):Wd × Wd)).1.a)
 else (0,0)
theorem I3 (l:List Wd) (o:List (Wd × Wd)):EvP prog 60 [.sl 2 (bA l) none,.sl 4 (mf o) none] (fC l o).d:=by
 refine eG 30 [.cell 4 44] func60 rfl ntmps60 rfl fun _ _ _ _=>?_;refine br ?_ ?_<;>intro h
 ·have h:l=[]:=by simpa [ay] using h
  refine ⟨_,?_,rfl⟩;rw [fC,ai h];exact ax
 have h:¬ l=[]:=by simpa [ay] using h
 refine br ?_ ?_<;>intro h1
 ·have h1:32 < l.length:=by simp [ay] at h1;omega
  obtain ⟨x,hx⟩:∃ x,l[32]? = some x:=⟨_,gE h1⟩;refine ⟨jL x,⟨by omega,aQ hx⟩,?_⟩;refine ⟨_,?_,rfl⟩;rw [fC,ah h,ai h1,hx];exact ax
 have h1:¬ 32 < l.length:=by simp [ay] at h1;omega
 refine br ?_ ?_<;>intro h2
 ·have h2:256 < o.length:=by simp [fB] at h2;omega
  obtain ⟨x,hx⟩:∃ x,o[256]? = some x:=⟨_,gE h2⟩;refine ⟨Kh x,⟨by omega,gB hx⟩,?_⟩;refine ⟨_,?_,rfl⟩;rw [fC,ah h,ah h1,ai h2,hx];exact ax
 have h2:¬ 256 < o.length:=by simp [fB] at h2;omega
 refine ⟨_,?_,rfl⟩;rw [fC,ah h,ah h1,ah h2];exact ax
def Yx (f:Ft) (L:List ByteArray):DV:=.tup [if f.1=0 then .sl 1 (eE L) none else .v (.slice none 0 0),f.d]
abbrev RS (l:List Wd) (n e:Nat):St:=
 ⟨[aD 3 0,(4,⟨[],.sl 1 (eE (az (l.take e))) (some 0)⟩),aZ 7 2 (bA l),au 8 ((bA l).length),au 9 e],[[.v (.int .i64 0),.v (.int .i64 0)]],[⟨n,9,1,none⟩]⟩
theorem oE {all:List Wd} {e:Nat} {w:Wd} (h:all[e]? = some w):enumL all e (all.drop e)=if aF all e w≠0 then (aF all e w,w.a) else enumL all (e + 1) (all.drop (e + 1)):=by
 rw [drop_cons h,enumL]
theorem Cu (l:List Wd) (hs:wdsWt l<=1099511627776):EvP prog 61 [.sl 2 (bA l) none] (Yx (enumL l 0 l) (az l)):=by
 have oZ:=bp l;refine eG 36 [.tmp 2,.cell 3 44] func61 rfl ntmps61 rfl fun _ _ _ _=>?_;refine lI (fun j st=>∃ e:Nat,st=RS l e e/\e<=l.length/\(az (l.take e)).Nodup/\enumL l 0 l=enumL l e (l.drop e)/\j=l.length - e) ⟨0,rfl,by omega,by simp [az],rfl,rfl⟩ (fA ⟨0,9,1,none⟩ rfl ⟨_,rfl⟩ rfl wA rfl rfl gR) ?_;rintro j st ⟨e,rfl,he,hnd,aK,rfl⟩;rw [aK];refine br ?_ ?_<;>intro hL
 ·have av:e < l.length:=by simpa [ay] using hL
  obtain ⟨w,hw⟩:=gX av;have RQ:=ij (mG hw);have iq:=jr hw;have bi:=oE hw;have Ea:=lG hw hnd;have Mj:=oy (az (l.take (e + 1))) (by simp [az];omega);rw [<- iq] at Mj;refine ⟨jL w,⟨by omega,aQ hw⟩,?_⟩;refine ⟨by simp [bW,az];omega,⟨by simp [bW,az,maxLen];omega,by simp [bW,az];omega⟩,?_⟩;refine cP zX (eV w.s (by omega)) ?_;refine br ?_ ?_<;>intro hN
  ·have hN:aM w.s=false:=sU hN;have hf:aF l e w=9:=by simp [aF,hN]
   rw [bi,hf,ai (by decide)];refine dS ?_;exact ⟨_,ax,rfl⟩
  ·have hN:aM w.s=true:=sU hN;refine bG TC rfl Mj ax (fun r hr=>?_);obtain ⟨z,rfl,hz⟩:=hr;refine br ?_ ?_<;>intro h2
   ·have h2:0<=z:=sU h2;have hd:cq (l.take e) w.s=true:=by grind
    have hf:aF l e w=10:=by simp [aF,hN,hd]
    rw [bi,hf,ai (by decide)];refine dS ?_;exact ⟨_,ax,rfl⟩
   ·have h2:¬ 0<=z:=sU h2;have xL:(az (l.take (e + 1))).Nodup:=Classical.byContradiction fun hn=>h2 (hz.2 hn);have hf:aF l e w=0:=by simp [aF,hN,Ea.1 xL]
    rw [hf,ah (by simp)] at bi;refine ⟨RS l (e + 1) (e + 1),(wkM (wB2 (nxt av (by omega)) iq)),l.length - (e + 1),by omega,e + 1,rfl,by omega,xL,bi,rfl⟩
 ·have hge:e=l.length:=by
   have:=hL;simp [ay] at this;omega
  have h0:enumL l e (l.drop e)=(0,0):=by rw [hge,List.drop_length];all_goals rfl
  rw [h0];have ht:l.take e=l:=by rw [hge,List.take_length]
  rw [ht];exact ⟨_,ax,rfl⟩
def numF (L:List ByteArray):List (Wd × Wd)->Ft
 | []=>(0,0)
 | p :: r=>if cO L p.1.s=none then (17,p.1.a) else if cO L p.2.s=none then (17,p.2.a) else numF L r
def TX (L:List ByteArray) (p:Wd × Wd):Nat × Nat:=((cO L p.1.s).getD 0,(cO L p.2.s).getD 0)
def de (L:List ByteArray) (o:List (Wd × Wd)):List (Nat × Nat):=o.map (TX L)
def Yy (f:Ft) (l:List (Nat × Nat)):DV:=.tup [if f.1=0 then .sl 2 (lC l) none else .v (.slice none 0 0),f.d]
theorem yJ {L:List ByteArray} {o:List (Wd × Wd)} {e a b:Nat} {x:Wd × Wd} (h:o[e]? = some x) (ha:cO L x.1.s=some a) (hb:cO L x.2.s=some b):lC (de L (o.take e)) ++ [[DV.v (.int .i64 (a:Int)),DV.v (.int .i64 (b:Int))]]=lC (de L (o.take (e + 1))):=by
 rw [List.take_add_one,h];simp [lC,de,TX,ha,hb,dNP]
abbrev RT (L:List ByteArray) (aG:List Nat) (o:List (Wd × Wd)) (n e:Nat):St:=
 ⟨[pz 0 (cL L aG),aD 5 0,(6,⟨[],.sl 2 (lC (de L (o.take e))) (some 0)⟩),aZ 12 4 (mf o),au 13 ((mf o).length),au 14 e],[[.v (.int .i64 0),.v (.int .i64 0)]],[⟨n,212,2,none⟩]⟩
theorem xQ (L:List ByteArray) (aG:List Nat) (hT:gT L aG) (hl:aG.length<=1099511627776) (o:List (Wd × Wd)) (hs:prsWt o<=1099511627776) :
  EvP prog 63 [.pt (cL L aG) 0,.sl 4 (mf o) none] (Yy (numF L o) (de L o)):=by
 have oZ:=ir o;refine eG 55 [.tmp 4,.cell 5 44] func63 rfl ntmps63 rfl fun _ _ _ _=>?_;refine lI (fun j st=>∃ e:Nat,st=RT L aG o e e/\e<=o.length/\numF L o=numF L (o.drop e)/\j=o.length - e) ⟨0,rfl,by omega,rfl,rfl⟩ (fA ⟨0,212,2,none⟩ rfl ⟨_,rfl⟩ rfl wA rfl rfl gR) ?_;rintro j st ⟨e,rfl,he,aK,rfl⟩;rw [aK];refine br ?_ ?_<;>intro hL
 ·have av:e < o.length:=by simpa [fB] using hL
  obtain ⟨w,hw⟩:=gX av;have bi:numF L (o.drop e)=if cO L w.1.s=none then (17,w.1.a) else if cO L w.2.s=none then (17,w.2.a) else numF L (o.drop (e + 1)):=by rw [drop_cons hw,numF]
  have Kg:=iw L aG w.1.s hT hl;have uw:=iw L aG w.2.s hT hl;refine ⟨Kh w,⟨by omega,gB hw⟩,?_⟩
  cases ha:cO L w.1.s with
  | none=>
   rw [ha] at Kg;refine cP uP Kg ?_;rw [bi,ai ha];refine dS ?_;exact ⟨_,ax,rfl⟩
  | some a=>
   rw [ha] at Kg;refine cP uP Kg ?_
   cases hb:cO L w.2.s with
   | none=>
    rw [hb] at uw;refine cP uP uw ?_;rw [bi,ah (by rw [ha];simp),ai hb];refine dS ?_;exact ⟨_,ax,rfl⟩
   | some b=>
    rw [hb] at uw;refine cP uP uw ?_;rw [ah (by rw [ha];simp),ah (by rw [hb];simp)] at bi;refine ⟨by simp [gC,de];omega,⟨by simp [gC,de,maxLen];omega,by simp [gC,de];omega⟩,?_⟩;refine ⟨RT L aG o (e + 1) (e + 1),(wkM (wB2 (nxt av (by omega)) (yJ hw ha hb))),o.length - (e + 1),by omega,e + 1,rfl,by omega,bi,rfl⟩
 ·have hge:e=o.length:=by
   have:=hL;simp [fB] at this;omega
  have h0:numF L (o.drop e)=(0,0):=by rw [hge,List.drop_length];all_goals rfl
  rw [h0];have ht:o.take e=o:=by rw [hge,List.take_length]
  rw [ht];exact ⟨_,ax,rfl⟩
end Go.Proofs.YtphonmiflfhdbaaGreat
namespace Go.Proofs.YtphonmiflfhdbaaGreat
namespace Dv
open Go Go.RowKit
section
variable {X:Ctx} {st:St} {k:List It} {E:En} {a:Act} {w:World}
def Wk (X:Ctx) (st st':St):Prop:=∀ E a w,Rel X E st a w->∃ E',Rel X E' st' a w
theorem Wk.refl (X:Ctx) (st:St):Wk X st st:=fun E _ _ h=>⟨E,h⟩
theorem Wk.trans {X:Ctx} {s1 s2 s3:St} (h1:Wk X s1 s2) (h2:Wk X s2 s3):Wk X s1 s3:=fun _ _ _ h=>by
 obtain ⟨E1,h3⟩:=h1 _ _ _ h;exact h2 _ _ _ h3
theorem Wk.TY {X:Ctx} {s1 s2:St} (h:px X.n0 X.m0 s1 s2):Wk X s1 s2:=fun _ _ _ hr=>uE hr h
theorem I4 {f:FuncId} {args bI:List DV} {os:List (List DV)} (n1 m1:Nat) (Ej:Nat.ble n1 st.bx.length=true) (gM:Nat.ble m1 st.tk.length=true)
  (Et:l7 [] n1 n1 m1 os (st.bx.take n1)) (ha:CcL [] n1 n1 m1 bI args)
  {Φ:DV->List (List DV)->List TkE->Prop} (hc:EvT false X.P f bI os (st.tk.take m1) X.bt Φ) (bi:X.still=false) {vs:List Value} (h:Rel X E st a w) (hv:RvL E args vs) :
  Calls X.P f vs.toArray w fun e w'=>∃ v r iR cI E',e = .returned v/\Φ r iR cI /\ iR.length=n1/\cI.length=m1/\Rel X E' ⟨st.sl,iR ++ st.bx.drop n1,cI ++ st.tk.drop m1⟩ a w' /\ Rv E' r v/\Ext E E' /\ E'.β=E.β /\
   ∀ (i:Nat) b,n1<=i->E.β[i]? = some b->w'.heap[b]? = w.heap[b]?:=by
 have Ej:=nL Ej;have gM:=nL gM;have hlen:=h.env.len;have gN:=h.env.tl;have mc:=h.tk;have htkl:E.tk.length=st.tk.length:=by rw [mc]
 let E1:En:=⟨E.c,E.β.take n1,E.tk.take m1,E.τ.take m1⟩
 have hfz:Kc E E1 [] n1:=⟨fun _ _ h=>h,fun i cs _ hi=>by simp at hi⟩
 have zR:Iq E E1 n1 m1:={
  β:=fun i b hi hb=>by show (E.β.take n1)[i]? = _;rw [cg,ai hi];exact hb
  tk:=fun k hk=>⟨by show (E.tk.take m1)[k]? = _;rw [cg,ai hk],by show (E.τ.take m1)[k]? = _;rw [cg,ai hk]⟩ }
 obtain ⟨kX,Wi⟩:=Et.get;have hosl:os.length=n1:=by rw [kX,ez];omega
 have Yz:∀ (j:Nat) y,(E.τ.take m1)[j]? = some y->j < m1/\E.τ[j]? = some y:=fun j y hy=>by
  rw [cg] at hy;split at hy
  ·rename_i hj;exact ⟨hj,hy⟩
  ·cases hy
 have hkg:∀ (j:Nat) q,(E.tk.take m1)[j]? = some q->j < m1/\E.tk[j]? = some q:=fun j y hy=>by
  rw [cg] at hy;split at hy
  ·rename_i hj;exact ⟨hj,hy⟩
  ·cases hy
 have Vs:Env E1 os w:={
  len:=by show (E.β.take n1).length=_;rw [ez,hosl];omega
  tl:=by show (E.τ.take m1).length=(E.tk.take m1).length;rw [ez,ez,gN]
  eQ:=fun i cs' hi=>by
   obtain ⟨cs,cV,uz⟩:=Wi i cs' hi;rw [cg] at cV;split at cV
   ·rename_i av;obtain ⟨b,ty,arr,hb,hw,hc⟩:=h.env.eQ i cs cV;exact ⟨b,ty,arr,zR.β i b av hb,hw,CcL.sound hfz zR uz hc.1,hc.2⟩
   ·cases cV
  inj:=h.env.inj.sublist (List.take_sublist _ _)
  sub:=h.env.sub
  pc:=fun x v hx hm=>h.env.pc x v hx (List.mem_of_mem_take hm)
  cQ:=fun j q y hq hy=>by
   obtain ⟨_,hq⟩:=hkg j q hq;obtain ⟨_,hy⟩:=Yz j y hy;rcases h.env.cQ j q y hq hy with h1 | ⟨g,cap,cur,rfl,h1,h2,h3,h4,h5,h6⟩
   ·exact .inl h1
   ·exact .inr ⟨g,cap,cur,rfl,h1,h2,h3,h4,fun hm=>h5 (List.mem_of_mem_take hm),h6⟩
  jD:=fun j j' y y' g GO hy gQ=>h.env.jD j j' y y' g GO (Yz j y hy).2 (Yz j' y' gQ).2 }
 refine (hc E1 w _ Vs (by show E.tk.take m1=_;rw [mc]) (h.bt.sub n1) (CcL.sound hfz zR ha hv)).mono ?_;rintro e w' ⟨v,rfl,⟨hm,_,r,iR,E2,he,hβ,As,hn,S8,hΦ⟩,hbt2⟩;have As:E2.tk.length=E1.tk.length:=As;have hE1t:E1.tk.length=m1:=by show (E.tk.take m1).length=_;rw [ez];omega
 have hE1τ:E1.τ.length=m1:=by show (E.τ.take m1).length=_;rw [ez];omega
 have hE1β:E1.β.length=n1:=by show (E.β.take n1).length=_;rw [ez];omega
 rw [hE1t] at As;have hτ2:E2.τ.length=m1:=by rw [he.tl,As]
 have Mk:iR.length=n1:=by rw [<- he.len,hβ,hE1β]
 have hS:∀ j,E1.S j->j∈E.β.take n1∨∃ i y,i < m1/\E.τ[i]? = some y/\y.ownBlock=some j:=fun j hj=>by
  rcases hj with h1 | ⟨y,h1,h2⟩
  ·exact .inl h1
  ·obtain ⟨i,hi,he⟩:=List.getElem_of_mem h1;have dz:E1.τ[i]? = some y:=by rw [gE hi,he]
   obtain ⟨h3,h4⟩:=Yz i y dz;exact .inr ⟨i,y,h3,h4,h2⟩
 have hh:∀ j,j < w.heap.size->¬ E1.S j->w'.heap[j]? = w.heap[j]?:=fun j hj bg=>hm.block j hj bg;have fV:∀ (i:Nat) y g,E.τ[i]? = some y->y.ownBlock=some g->g < w.heap.size/\g ∉ E.β:=fun i y g hy hg=>h.env.own (mG hy) hg
 have ef:∀ x v,E2.c x=some v->E.c x=some v∨w.heap.size<=x.block∨∃ i y,i < m1/\E.τ[i]? = some y/\y.ownBlock=some x.block:=fun x v hx=>by
  rcases hn.cn x v hx with h1 | h1 | ⟨y,h1,h2⟩
  ·exact .inl h1
  ·exact .inr (.inl h1)
  ·obtain ⟨i,hi,he⟩:=List.getElem_of_mem h1;have dz:E1.τ[i]? = some y:=by rw [gE hi,he]
   obtain ⟨h3,h4⟩:=Yz i y dz;exact .inr (.inr ⟨i,y,h3,h4,h2⟩)
 have qV:∀ (j:Nat) q,j < m1->E.tk[j]? = some q->∃ y q' y',E.τ[j]? = some y/\E2.tk[j]? = some q' /\ E2.τ[j]? = some y' /\ q.ty=q'.ty/\q.e=q'.e/\((q'.n=q.n/\y'=y)∨q.n < q'.n)/\(y'.ownBlock=y.ownBlock∨∀ g,y'.ownBlock=some g->w.heap.size<=g):=fun j q hj hq=>by
  have og:j < E.τ.length:=by rw [gN];omega
  obtain ⟨q',y',h1,h2,h3⟩:=hn.tk j q E.τ[j] (by show (E.tk.take m1)[j]? = _;rw [cg,ai hj];exact hq) (by show (E.τ.take m1)[j]? = _;rw [cg,ai hj,gE og]);exact ⟨_,q',y',gE og,h1,h2,h3⟩
 have Ho:∀ (j:Nat) y',j < m1->E2.τ[j]? = some y' -> ∃ y,E.τ[j]? = some y/\(y'.ownBlock=y.ownBlock∨∀ g,y'.ownBlock=some g->w.heap.size<=g):=fun j y' hj hy=>by
  have og:j < E.tk.length:=by omega
  obtain ⟨y,q1,y1,h1,_,h3,_,_,_,h7⟩:=qV j _ hj (gE og);rw [hy] at h3;simp only [oI] at h3;subst h3;exact ⟨y,h1,h7⟩
 let E':En:=⟨E2.c,E.β,E2.tk ++ E.tk.drop m1,E2.τ ++ E.τ.drop m1⟩
 have gP:∀ (j:Nat),m1<=j->E'.tk[j]? = E.tk[j]?:=fun j hj=>by
  show (E2.tk ++ E.tk.drop m1)[j]? = _;rw [List.getElem?_append_right (by omega),List.getElem?_drop,As];congr 1;omega
 have TZ:∀ (j:Nat),m1<=j->E'.τ[j]? = E.τ[j]?:=fun j hj=>by
  show (E2.τ ++ E.τ.drop m1)[j]? = _;rw [List.getElem?_append_right (by omega),List.getElem?_drop,hτ2];congr 1;omega
 have K1:∀ (j:Nat),j < m1->E'.tk[j]? = E2.tk[j]?:=fun j hj=>by
  show (E2.tk ++ E.tk.drop m1)[j]? = _;rw [fk (by omega)]
 have Oe:∀ (j:Nat),j < m1->E'.τ[j]? = E2.τ[j]?:=fun j hj=>by
  show (E2.τ ++ E.τ.drop m1)[j]? = _;rw [fk (by omega)]
 have hx:Ext E E':=⟨hn.c,fun _ _ h=>h,fun j q hq=>by
  rcases Nat.lt_or_ge j m1 with hj | hj
  ·obtain ⟨y,q',y',h1,h2,h3,_,_,h6,_⟩:=qV j q hj hq;refine ⟨q',by rw [K1 j hj];exact h2,?_⟩;rcases h6 with ⟨h6,rfl⟩ | h6
   ·exact .inl ⟨h6,by rw [Oe j hj,h3,h1]⟩
   ·exact .inr h6
  ·exact ⟨q,by rw [gP j hj];exact hq,.inl ⟨rfl,TZ j hj⟩⟩⟩
 have G3:Ext E2 E':={
  c:=fun _ _ h=>h
  β:=fun j b hj=>by
   rw [hβ] at hj;have hj:(E.β.take n1)[j]? = some b:=hj;rw [cg] at hj;split at hj
   ·exact hj
   ·cases hj
  tk:=fun j q hq=>by
   have hj:j < m1:=by have:=(gS hq).1;omega
   exact ⟨q,by rw [K1 j hj];exact hq,.inl ⟨rfl,Oe j hj⟩⟩ }
 have RU:∀ (i:Nat) b,n1<=i->E.β[i]? = some b->w'.heap[b]? = w.heap[b]?:=fun i b hi hb=>by
  refine hh b (h.env.bf (mG hb)) fun hs=>?_;rcases hS b hs with h1 | ⟨i',y,_,h2,h3⟩
  ·obtain ⟨i',dz,Td⟩:=List.getElem_of_mem h1;have h4:(E.β.take n1)[i']? = some b:=by rw [gE dz,Td]
   rw [cg] at h4;split at h4
   ·rename_i av;have:=(List.getElem?_inj (gS hb).1 h.env.inj).1 (hb.trans h4.symm);omega
   ·cases h4
  ·exact (fV i' y b h2 h3).2 (mG hb)
 have hbt':nK X.bt E.β w':=fun p hp b hb=>by
  rcases Nat.lt_or_ge p.1 n1 with av | hge
  ·exact hbt2 p hp b (by show (E.β.take n1)[p.1]? = _;rw [cg,ai av];exact hb)
  ·obtain ⟨cs,cV⟩:=h.bt p hp b hb;exact ⟨cs,by rw [RU p.1 b hge hb];exact cV⟩
 have cJ:Rel X E' ⟨st.sl,iR ++ st.bx.drop n1,E2.tk ++ st.tk.drop m1⟩ a w':=by
  refine dm h hx ?_ (by show E2.tk ++ E.tk.drop m1=_;rw [mc]) ?_ (h.fr.cz hm.os hm.tape hm.output hm.size fun j hj=>?_) (od bi) hbt'
  ·exact {
    len:=by show E.β.length=_;rw [List.length_append,List.length_drop,Mk,hlen];omega
    tl:=by show (E2.τ ++ E.τ.drop m1).length=(E2.tk ++ E.tk.drop m1).length;simp only [List.length_append,List.length_drop,hτ2,As,gN]
    eQ:=fun i WC hi=>by
     rcases Nat.lt_or_ge i n1 with xN | xN
     ·rw [fk (by omega)] at hi;obtain ⟨b2,ty2,Tp,lZ,hw2,oc⟩:=he.eQ i WC hi;exact ⟨b2,ty2,Tp,G3.β i b2 lZ,hw2,oc.mono G3⟩
     ·rw [List.getElem?_append_right (by omega),List.getElem?_drop,Mk] at hi;rw [show n1 + (i - n1)=i by omega] at hi;obtain ⟨bj,tyj,Tq,Q9,WD,SR⟩:=h.env.eQ i WC hi;refine ⟨bj,tyj,Tq,Q9,(hh bj (du WD) ?_).trans WD,SR.mono hx⟩;intro hs;rcases hS bj hs with h1 | ⟨i',y,_,h2,h3⟩
      ·obtain ⟨i',dz,Td⟩:=List.getElem_of_mem h1;have h4:(E.β.take n1)[i']? = some bj:=by rw [gE dz,Td]
       rw [cg] at h4;split at h4
       ·rename_i av;have:=(List.getElem?_inj (gS Q9).1 h.env.inj).1 (Q9.trans h4.symm);omega
       ·cases h4
      ·exact (fV i' y bj h2 h3).2 (mG Q9)
    inj:=h.env.inj
    sub:=he.sub
    pc:=fun x v hc te=>by
     rcases ef x v hc with h1 | h1 | ⟨i,y,_,h2,h3⟩
     ·exact h.env.pc x v h1 te
     ·have:=h.env.bf te;omega
     ·exact (fV i y _ h2 h3).2 te
    cQ:=fun j q y hq hy=>by
     rcases Nat.lt_or_ge j m1 with hj | hj
     ·rw [K1 j hj] at hq;rw [Oe j hj] at hy;rcases he.cQ j q y hq hy with h1 | ⟨g,cap,cur,rfl,h1,h2,h3,h4,h5,h6⟩
      ·exact .inl h1
      ·refine .inr ⟨g,cap,cur,rfl,h1,h2,h3,h4,fun te=>?_,h6⟩;obtain ⟨y0,h7,h8⟩:=Ho j _ hj hy;rcases h8 with h8 | h8
       ·exact (fV j y0 g h7 (by rw [<- h8];rfl)).2 te
       ·have:=h8 g rfl;have:=h.env.bf te;omega
     ·rw [gP j hj] at hq;rw [TZ j hj] at hy;rcases h.env.cQ j q y hq hy with h1 | ⟨g,cap,cur,rfl,h1,h2,h3,h4,h5,h6⟩
      ·exact .inl h1
      ·have bg:∀ i y',i < m1->E.τ[i]? = some y' -> y'.ownBlock≠some g:=fun i y' hi gQ=>h.env.jD j i _ y' g (by omega) hy gQ rfl
       have Ea:¬ E1.S g:=fun hs=>by
        rcases hS g hs with h7 | ⟨i,y',h7,h8,h9⟩
        ·exact h5 (List.mem_of_mem_take h7)
        ·exact bg i y' h7 h8 h9
       refine .inr ⟨g,cap,cur,rfl,by rw [hh g (du h1) Ea];exact h1,⟨h2.1,h2.2.mono hn.c⟩,h3,h4,h5,fun x v hc hg=>?_⟩
       ·rcases ef x v hc with h7 | h7 | ⟨i,y',h7,h8,h9⟩
        ·exact h6 x v h7 hg
        ·have:=du h1;omega
        ·exact (bg i y' h7 h8 (by rw [h9,hg])).elim
    jD:=fun j j' y y' g GO hy gQ hg zM=>by
     rcases Nat.lt_or_ge j m1 with hj | hj
     ·rw [Oe j hj] at hy;obtain ⟨y0,h7,h8⟩:=Ho j _ hj hy;rcases Nat.lt_or_ge j' m1 with jo | jo
      ·rw [Oe j' jo] at gQ;exact he.jD j j' y y' g GO hy gQ hg zM
      ·rw [TZ j' jo] at gQ;rcases h8 with h8 | h8
       ·exact h.env.jD j j' y0 y' g GO h7 gQ (by rw [<- h8];exact hg) zM
       ·have:=h8 g hg;have:=(fV j' y' g gQ zM).1;omega
     ·rw [TZ j hj] at hy;rcases Nat.lt_or_ge j' m1 with jo | jo
      ·rw [Oe j' jo] at gQ;obtain ⟨y0,h7,h8⟩:=Ho j' _ jo gQ;rcases h8 with h8 | h8
       ·exact h.env.jD j j' y y0 g GO hy h7 hg (by rw [<- h8];exact zM)
       ·have:=h8 g zM;have:=(fV j y g hy hg).1;omega
      ·rw [TZ j' jo] at gQ
       exact h.env.jD j j' y y' g GO hy gQ hg zM }
  ·exact {
    c:=fun x v hc=>hn.c x v (h.nw.c x v hc)
    cn:=fun x v hc=>by
     rcases ef x v hc with h1 | h1 | ⟨i,y,_,h2,h3⟩
     ·exact h.nw.cn x v h1
     ·have:=h.fr.size;exact .inr (.inl (by omega))
     ·rcases h.nw.own h2 h3 with h4 | h4
      ·exact .inr (.inr h4)
      ·exact .inr (.inl h4)
    β:=h.nw.β
    tk:=fun j q0 y0 tf Em=>by
     obtain ⟨q1,y1,h1,h2,h3,h4,h5,h6⟩:=h.nw.tk j q0 y0 tf Em;rcases Nat.lt_or_ge j m1 with hj | hj
     ·obtain ⟨y,q',y',g1,g2,g3,g4,g5,g6,g7⟩:=qV j q1 hj h1;rw [h2] at g1;simp only [oI] at g1;subst g1;refine ⟨q',y',by rw [K1 j hj];exact g2,by rw [Oe j hj];exact g3,h3.trans g4,h4.trans g5,?_,?_⟩
      ·rcases g6 with ⟨g6,rfl⟩ | g6
       ·rcases h5 with ⟨h5,rfl⟩ | h5
        ·exact .inl ⟨by omega,rfl⟩
        ·exact .inr (by omega)
       ·rcases h5 with ⟨h5,_⟩ | h5
        ·exact .inr (by omega)
        ·exact .inr (by omega)
      ·rcases g7 with g7 | g7
       ·rcases h6 with h6 | h6
        ·exact .inl (g7.trans h6)
        ·exact .inr fun g hg=>h6 g (by rw [<- g7];exact hg)
       ·refine .inr fun g hg=>?_;have:=g7 g hg;have:=h.fr.size;omega
     ·exact ⟨q1,y1,by rw [gP j hj];exact h1,by rw [TZ j hj];exact h2,h3,h4,h5,h6⟩
    tn:=fun j y g BG hy hg=>by
     rcases Nat.lt_or_ge j m1 with hj | hj
     ·rw [Oe j hj] at hy;obtain ⟨y0,h7,h8⟩:=Ho j _ hj hy;rcases h8 with h8 | h8
      ·exact h.nw.tn j y0 g BG h7 (by rw [<- h8];exact hg)
      ·have:=h8 g hg;have:=h.fr.size;omega
     ·rw [TZ j hj] at hy;exact h.nw.tn j y g BG hy hg
    l0:=h.nw.l0 }
  ·by_cases hjs:E1.S j
   ·left;rcases hS j hjs with h1 | ⟨i,y,_,h2,h3⟩
    ·have Bo:=List.mem_of_mem_take h1;obtain ⟨r0,hr0,EK⟩:=h.nw.β;rw [hr0] at Bo;rcases List.mem_append.1 Bo with Bo | Bo
     ·exact .inl (.inl Bo)
     ·exact .inr (EK j Bo)
    ·rcases h.nw.own h2 h3 with h4 | h4
     ·exact .inl (.inr h4)
     ·exact .inr h4
   ·exact .inr (hh j hj hjs)
 exact ⟨v,r,iR,E2.tk,E',rfl,hΦ,Mk,As,cJ,Rv.mono G3 S8,hx,rfl,RU⟩
theorem Cv {f:FuncId} {args bI:List DV} {os:List (List DV)} (n1 m1:Nat) (Ej:Nat.ble n1 st.bx.length=true) (gM:Nat.ble m1 st.tk.length=true)
  (Et:l7 [] n1 n1 m1 os (st.bx.take n1)) (ha:CcL [] n1 n1 m1 bI args)
  {Φ:DV->List (List DV)->List TkE->Prop} (hc:Ev X.P f bI os (st.tk.take m1) Φ) (bi:X.still=false) (hX:X.bt=[]) {vs:List Value} (h:Rel X E st a w) (hv:RvL E args vs) :
  Calls X.P f vs.toArray w fun e w'=>∃ v r iR cI E',e = .returned v/\Φ r iR cI /\ iR.length=n1/\cI.length=m1/\Rel X E' ⟨st.sl,iR ++ st.bx.drop n1,cI ++ st.tk.drop m1⟩ a w' /\ Rv E' r v/\Ext E E' /\ E'.β=E.β /\
   ∀ (i:Nat) b,n1<=i->E.β[i]? = some b->w'.heap[b]? = w.heap[b]?:=
 I4 n1 m1 (by exact Ej) (by exact gM) Et ha (hc.Wl hX) bi h hv
theorem Ml {f:FuncId} {args bI:List DV} {os:List (List DV)} {d:Nat} (n1 m1:Nat) (kv:Enters X.P f) (hd:gw X.nt st.sl (some d)=true) (Ej:Nat.ble n1 st.bx.length=true) (gM:Nat.ble m1 st.tk.length=true)
  (Et:l7 [] n1 n1 m1 os (st.bx.take n1)) (ha:CcL [] n1 n1 m1 bI args)
  {Φ:DV->List (List DV)->List TkE->Prop} (hc:Ev X.P f bI os (st.tk.take m1) Φ)
  (hk:∀ r iR cI,Φ r iR cI -> iR.length=n1->cI.length=m1->∃ st',Wk X ⟨(d,⟨[],r⟩) :: st.sl,iR ++ st.bx.drop n1,cI ++ st.tk.drop m1⟩ st' /\ go X 4000 k st') (bi:X.still=false:=by exact rfl) (hX:X.bt=[]:=by exact rfl):CallG X f args (some d) k st:=by
 refine ⟨kv,bi,fun E a w vs h hv=>(Cv n1 m1 Ej gM Et ha hc bi hX h hv).mono ?_⟩;rintro e w' ⟨v,r,iR,cI,E',rfl,hΦ,Mk,As,cJ,Hc,_,_,_⟩;obtain ⟨st',Og,jc⟩:=hk r iR cI hΦ Mk As;obtain ⟨E3,hr3⟩:=Og _ _ _ (bB cJ hd r v Hc);exact go_sound 4000 _ _ jc E3 _ w' hr3
theorem dr {f:FuncId} {args bI:List DV} {os:List (List DV)} {d:Nat} (n1 m1:Nat) (kv:Enters X.P f) (hd:gw X.nt st.sl (some d)=true) (Ej:Nat.ble n1 st.bx.length=true) (gM:Nat.ble m1 st.tk.length=true)
  (Et:l7 [] n1 n1 m1 os (st.bx.take n1)) (ha:CcL [] n1 n1 m1 bI args)
  {Φ:DV->List (List DV)->List TkE->Prop} (hc:Ev X.P f bI os (st.tk.take m1) Φ)
  (hk:∀ r iR cI,Φ r iR cI -> iR.length=n1->cI.length=m1->go X 4000 k ⟨(d,⟨[],r⟩) :: st.sl,iR ++ st.bx.drop n1,cI ++ st.tk.drop m1⟩) (bi:X.still=false:=by exact rfl) (hX:X.bt=[]:=by exact rfl):CallG X f args (some d) k st:=
 Ml n1 m1 kv hd Ej gM Et ha hc (fun r iR cI h1 h2 h3=>⟨_,Wk.refl _ _,hk r iR cI h1 h2 h3⟩) bi hX
theorem I5 {all:Array Oper} {o1 o2 o3:Oper} {r:List Oper} {d1 d2 kt t sT f off ft ty et e kp m RV nn:Nat} {bb:Bool} {zz:List Value} {z:Int} {kd:IntKind} {es:List (List DV)} {cs:List DV} {s ix x:Operand} {dv YA:DV}
  (h1:o1.op = .indexAddr t s ix/\o1.dst=some d1) (h2:o2.op = .fieldAddr sT (.tmp d1) f/\o2.dst=some d2/\o2.guard=none) (h3:o3.op = .store ty (.tmp d2) x/\o3.dst=none/\o3.guard=none)
  (Eb:gw X.nt st.sl (some d1)=true) (ED:gw X.nt ((d1,⟨[],.pt [] 0⟩) :: st.sl) (some d2)=true)
  (hs:rv st [] s=some (.sl 0 es (some kt))) (hi:rv st [] ix=some (.v (.int kd z))) (hx:rv ⟨(d2,⟨[],.pt [] 0⟩) :: (d1,⟨[],.pt [] 0⟩) :: st.sl,st.bx,st.tk⟩ [] x=some dv) (hdv:eraD dv=some YA) (RW:dv.cells=[dv])
  (hT:X.T.find t=some ⟨nn,bb,.sl et e kp,zz⟩) (zN:X.T.off sT f=some (off,ft)) (bL:X.T.sz ty=some 1)
  (hq:st.tk[kt]? = some ⟨m,RV,e,some cs⟩) (ie:es.length=m) (hz:0<=z/\z < m) (zF:off + 1<=e)
  (hk:go X 4000 (.ops all r :: k) ⟨(d2,⟨[],.pt [] 0⟩) :: (d1,⟨[],.pt [] 0⟩) :: st.sl,st.bx,st.tk.set kt ⟨m,RV,e,some (cs.set (z.toNat * e + off) YA)⟩⟩)
  (bi:X.still=false:=by exact rfl):Ks X o1 (.ops all (o2 :: o3 :: r) :: k) st:=by
 intro E a w h;have fy:=h.rl;have e1:=aX fy hs;have e2:=bX (aX fy hi);unfold Rv at e1;obtain ⟨bs,ns,oo,e1,⟨Ea,Od⟩,Vk,KF⟩:=e1;subst Ea;obtain ⟨q',ma,_,Wa⟩:=KF kt rfl;have ku:E.tk[kt]? = some ⟨m,RV,e,some cs⟩:=by rw [h.tk];exact hq
 rw [ku] at ma;simp only [oI] at ma;subst ma;have hy:=Wa ie;rw [e1,ie] at hy;rw [ie] at e1;have YB:=h.env.cQ kt _ _ ku hy;rcases YB with ⟨ti,mj,_⟩ | ⟨g,cap,cur,ti,hw0,⟨KH,KI⟩,Io,Ip,iP,KJ⟩
 ·simp only at mj;omega
 injection ti with i1 i2 i3
 subst i1 i3;obtain ⟨hu,ii,zv,yb,_,hsz2,_,_⟩:=fo X.hT hT;have nM:iD X.P et=some e:=by rw [gx yb,hsz2]
 have YC:(execOp a.eval o1).run X.P w = .ok (.value (.pointer (some ⟨g,z.toNat * e,none⟩))) w:=by
  have ch:(Instr.indexAt t (.slice (some ⟨g,0,none⟩) m oo) (.int kd z)).run X.P w = .ok (.pointer (some ⟨g,z.toNat * e,none⟩)) w:=by
   simp [Instr.indexAt,asIntOf,run_underlying hu,hz.1,hz.2,aN nM,Addr.add_lit]
  simp only [execOp,h1.1,e1,e2,Sem.run_bind,ch,Result.andThen_ok,Sem.run_pure]
 refine kB YC ?_;rw [h1.2];have hr1:Rel X E ⟨(d1,⟨[],.pt [] 0⟩) :: st.sl,st.bx,st.tk⟩ (a.put (some d1) (.pointer (some ⟨g,z.toNat * e,none⟩))) w:=bB h Eb (.pt [] 0) _ (by unfold Rv;exact ⟨g,z.toNat * e,rfl,by simp only [RvAt]⟩);generalize ha1:a.put (some d1) (.pointer (some ⟨g,z.toNat * e,none⟩))=a1 at hr1
 have ht1:a1.eval (.tmp d1) = .pointer (some ⟨g,z.toNat * e,none⟩):=by
  subst ha1;simp only [gw,aO,Nat.blt_eq] at Eb;simp [Act.eval,Act.put,h.sz,Eb.1]
 show kq X (.ops all (o2 :: o3 :: r) :: k) .normal a1 w;simp only [kq,wpList,Region.wanted,h2.2.2,h3.2.2,if_true];refine .inl (kB (v:=.pointer (some ⟨g,z.toNat * e + off,none⟩)) (w':=w) ?_ ?_)
 ·simp only [execOp,h2.1,ht1,Sem.run_bind,jf (qP X.hT zN),Result.andThen_ok,Sem.run_pure]
 rw [h2.2.1];have hr2:Rel X E ⟨(d2,⟨[],.pt [] 0⟩) :: (d1,⟨[],.pt [] 0⟩) :: st.sl,st.bx,st.tk⟩ (a1.put (some d2) (.pointer (some ⟨g,z.toNat * e + off,none⟩))) w:=bB hr1 ED (.pt [] 0) _ (by unfold Rv;exact ⟨g,z.toNat * e + off,rfl,by simp only [RvAt]⟩);generalize OL:a1.put (some d2) (.pointer (some ⟨g,z.toNat * e + off,none⟩))=a2 at hr2
 have ht2:a2.eval (.tmp d2) = .pointer (some ⟨g,z.toNat * e + off,none⟩):=by
  subst OL;simp only [gw,aO,Nat.blt_eq] at ED;simp [Act.eval,Act.put,hr1.sz,ED.1]
 have e3:=aX hr2.rl hx
 have kr:RvC E [dv] (a2.eval x).cells.toList:=by
  have:=e3.cells (jm (n:=1) (by rw [RW];rfl) (by omega))
  rwa [RW] at this
 have Ew:(a2.eval x).cells.toList.length=1:=by rw [kr.1.length];all_goals rfl
 obtain ⟨xv,hxv⟩:∃ xv,(a2.eval x).cells.toList=[xv]:=by
  match hh:(a2.eval x).cells.toList,Ew with
  | [y],_=>exact ⟨y,rfl⟩
 obtain ⟨h5,h6⟩:=KI cs rfl;simp only at h5 h6 KH hw0 Io;have YD:cur.toList.length=oo * e:=sU KH;have Vx:m * e<=oo * e:=Nat.mul_le_mul_right _ Io
 have pq:z.toNat * e + off + 1<=m * e:=by
  have:(z.toNat + 1) * e<=m * e:=Nat.mul_le_mul_right _ (by omega);rw [Nat.add_mul] at this;omega
 have V6:=ld (P:=X.P) (t:=ty) (off:=z.toNat * e + off) (n:=1) hw0 (GM X.hT bL) Ew (by rw [KH];omega) (List.all_eq_true.2 kr.2);refine .inl (OM (w':=World.dD w g (.cells ((cur.toList.take (z.toNat * e + off) ++ (a2.eval x).cells.toList ++ cur.toList.drop (z.toNat * e + off + 1)).toArray) RV (0,0))) ?_ ?_)
 ·simp only [execOp,h3.1,ht2,Instr.storeAt,Instr.sureAddr,Sem.run_bind,Sem.run_pure,Result.andThen_ok,V6]
 rw [h3.2.1]
 have S2:cur.toList.take (z.toNat * e + off) ++ (a2.eval x).cells.toList ++ cur.toList.drop (z.toNat * e + off + 1)=cur.toList.set (z.toNat * e + off) xv:=by
  rw [hxv,List.set_eq_take_append_cons_drop,ai (by omega)];simp
 rw [S2]
 have hx1:RvC E.cl [YA] [xv]:=by
  rw [hxv] at kr;have h7:=kr.1;simp only [RvL] at h7;obtain ⟨v,s',h8,h9,kA⟩:=h7;simp only [List.cons.injEq] at h8;obtain ⟨rfl,rfl⟩:=h8;exact ⟨rvL_cons (ux hdv h9) (by simp only [RvL]),kr.2⟩
 have Oc:Eg (World.dD w g (.cells (cur.toList.set (z.toNat * e + off) xv).toArray RV (0,0))) E.c E.β ⟨m,RV,e,some (cs.set (z.toNat * e + off) YA)⟩ (.slice (some ⟨g,0,none⟩) m oo):=by
  refine .inr ⟨g,oo,_,rfl,iE hw0,⟨by simpa using YD,fun cs' KA=>?_⟩,Io,Ip,iP,KJ⟩;simp only [oI] at KA;subst KA;simp only;refine ⟨by rw [List.length_set];exact h5,?_⟩;rw [List.take_set];have av:z.toNat * e + off < (cur.toList.take (m * e)).length:=by rw [ez];omega
  rw [List.set_eq_take_append_cons_drop,ai (by omega),List.set_eq_take_append_cons_drop,ai av];have h8:=(RvC.take (z.toNat * e + off) h6).append (RvC.append hx1 (RvC.drop (z.toNat * e + off + 1) h6));simpa using h8
 have Tc:some g≠some g->False:=fun h=>h rfl
 obtain ⟨cJ,hext⟩:=GP (q':=⟨m,RV,e,some (cs.set (z.toNat * e + off) YA)⟩) (w':=World.dD w g (.cells (cur.toList.set (z.toNat * e + off) xv).toArray RV (0,0))) hr2 bi ku hy rfl rfl rfl (.inl ⟨rfl,rfl⟩) Oc (.inl rfl) rfl rfl rfl (by rw [gj];exact aW _) (fun j _ bg=>dc (by
  rintro rfl
  exact bg rfl))
 exact go_sound 4000 _ _ hk _ _ _ cJ
open Classical in
noncomputable def Cw (E:En) (w:World) (y:Value) (n:Nat):Addr->Option Value:=
 fun x=>if y.ownBlock=some x.block/\x.spot=none/\x.off < n then w.cell? x else E.c x
theorem jR {y:Value} {n:Nat} {x:Addr} {v:Value} (h:Cw E w y n x=some v):(y.ownBlock=some x.block/\x.spot=none/\x.off < n/\w.cell? x=some v)∨E.c x=some v:=by
 unfold Cw at h
 grind
theorem PB (h:Rel X E st a w) {k n ty e:Nat} {cs:List DV} {ns:List (List DV)} (hq:st.tk[k]? = some ⟨n,ty,e,some cs⟩) (cV:cs=ns.flatten) (Ea:∀ x∈ns,x.length=e) (jd:ns.length=n) :
  ∃ E',Rel X E' ⟨st.sl,st.bx,st.tk.set k ⟨n,ty,e,none⟩⟩ a w/\Ext E E' /\ ∀ es y,es.length=n->Rv E (.sl 0 es (some k)) y->Rv E' (.sl e ns (some k)) y:=by
 subst cV;have ku:E.tk[k]? = some ⟨n,ty,e,some ns.flatten⟩:=by rw [h.tk];exact hq
 have gL:=(gS ku).1;have V5:k < E.τ.length:=by rw [h.env.tl];exact gL
 have hv:E.τ[k]? = some E.τ[k]:=gE V5;generalize E.τ[k]=v at hv;have YB:=h.env.cQ k _ v ku hv
 have fN:∀ x u,E.c x=some u->Cw E w v (n * e) x=some u:=fun x u hx=>by
  unfold Cw;split
  ·exact h.env.sub x u hx
  ·exact hx
 have hext:Ext E ⟨Cw E w v (n * e),E.β,E.tk.set k ⟨n,ty,e,none⟩,E.τ⟩:=⟨fN,fun _ _ h=>h,fun j q hqj=>by
  by_cases hj:j=k
  ·subst hj;rw [ku] at hqj;simp only [oI] at hqj;subst hqj;exact ⟨_,iC gL,.inl ⟨rfl,rfl⟩⟩
  ·exact ⟨q,by rw [List.getElem?_set_ne (Ne.symm hj)];exact hqj,.inl ⟨rfl,rfl⟩⟩⟩
 refine ⟨⟨Cw E w v (n * e),E.β,E.tk.set k ⟨n,ty,e,none⟩,E.τ⟩,dm h hext ?_ (by rw [h.tk]) ?_ h.fr h.sh h.bt,hext,?_⟩
 ·exact {
   len:=h.env.len
   tl:=by simp only [List.length_set];exact h.env.tl
   eQ:=fun i cs hi=>by
    obtain ⟨b,t,arr,hb,hw,hc⟩:=h.env.eQ i cs hi;exact ⟨b,t,arr,hb,hw,hc.mono hext⟩
   inj:=h.env.inj
   sub:=fun x u hx=>by
    rcases jR hx with ⟨_,_,_,h1⟩ | h1
    ·exact h1
    ·exact h.env.sub x u h1
   pc:=fun x u hx hm=>by
    rcases jR hx with ⟨h1,_⟩ | h1
    ·exact (iV YB h1).2 hm
    ·exact h.env.pc x u h1 hm
   cQ:=fun j q y hj hy=>by
    by_cases hjk:j=k
    ·subst hjk;have jo:(E.tk.set j ⟨n,ty,e,none⟩)[j]? = some q:=hj;rw [iC gL] at jo;have gQ:E.τ[j]? = some y:=hy;rw [hv] at gQ;simp only [oI] at jo gQ;subst jo gQ;rcases YB with ⟨h1,h2,_⟩ | ⟨g,cap,cur,rfl,h1,h2,h3,h4,h5,h6⟩
     ·exact .inl ⟨h1,h2,fun cs hc=>by cases hc⟩
     ·refine .inr ⟨g,cap,cur,rfl,h1,⟨h2.1,pe.none rfl⟩,h3,h4,h5,fun x u hx Er=>?_⟩;rcases jR hx with ⟨_,_,h7,_⟩ | h7
      ·exact h7
      ·have:=h6 x u h7 Er;simp only [TkE.kn] at this;omega
    ·have jo:E.tk[j]? = some q:=by
      have:(E.tk.set k ⟨n,ty,e,none⟩)[j]? = some q:=hj
      rwa [List.getElem?_set_ne (Ne.symm hjk)] at this
     rcases h.env.cQ j q y jo hy with h1 | ⟨g,cap,cur,rfl,h1,h2,h3,h4,h5,h6⟩
     ·exact .inl h1
     ·refine .inr ⟨g,cap,cur,rfl,h1,⟨h2.1,h2.2.mono fN⟩,h3,h4,h5,fun x u hx Er=>?_⟩;rcases jR hx with ⟨h7,_⟩ | h7
      ·exact (h.env.jD j k _ v g hjk hy hv rfl (by rw [h7,Er])).elim
      ·exact h6 x u h7 Er
   jD:=h.env.jD }
 ·exact {
   c:=fun x u hx=>fN x u (h.nw.c x u hx)
   cn:=fun x u hx=>by
    rcases jR hx with ⟨h1,_⟩ | h1
    ·rcases h.nw.own hv h1 with h2 | h2
     ·exact .inr (.inr h2)
     ·exact .inr (.inl h2)
    ·exact h.nw.cn x u h1
   β:=h.nw.β
   tk:=fun j q0 y0 tf Em=>by
    obtain ⟨q1,y1,h1,h2,h3,h4,h5,h6⟩:=h.nw.tk j q0 y0 tf Em;by_cases hj:j=k
    ·subst hj;rw [ku] at h1;simp only [oI] at h1;subst h1;exact ⟨_,y1,iC gL,h2,h3,h4,h5,h6⟩
    ·exact ⟨q1,y1,by rw [List.getElem?_set_ne (Ne.symm hj)];exact h1,h2,h3,h4,h5,h6⟩
   tn:=fun j y g hj hy=>h.nw.tn j y g hj hy
   l0:=h.nw.l0 }
 ·intro es y ie hy;unfold Rv at hy ⊢;obtain ⟨b,m,cap,rfl,⟨rfl,hmc⟩,hr,bi⟩:=hy;obtain ⟨q',ma,_,hτ⟩:=bi k rfl;rw [ku] at ma;simp only [oI] at ma;subst ma;have hy:=hτ ie;rw [hv] at hy;simp only [oI] at hy;subst hy;refine ⟨b,es.length,cap,rfl,⟨by omega,hmc⟩,fun bg=>?_,fun k' gP=>?_⟩
  ·rcases YB with ⟨h1,h2,h3⟩ | ⟨g,V3,cur,h0,h1,h2,h3,h4,h5,h6⟩
   ·simp only at h2;exact (bg (List.eq_nil_of_length_eq_zero (by omega))).elim
   ·injection h0 with i1 i2 i3
    subst i1;refine ⟨rfl,?_⟩;obtain ⟨h7,h8⟩:=h2.2 _ rfl;refine rvEs_flat (h8.mono (E:=⟨E.c,[],[],[]⟩) ⟨fN,fun _ _ h=>by simp at h,fun _ _ h=>by simp at h⟩) Ea fun j u hj=>?_;rw [cg] at hj;split at hj
    ·rename_i og;show Cw E w _ (n * e) _=_;unfold Cw;rw [ai ⟨rfl,rfl,by simpa [ao] using og⟩];simp only [ab,ao,Nat.zero_add];rw [cy h1];simpa using hj
    ·cases hj
  ·cases gP;exact ⟨_,iC gL,by simp only;omega,fun _=>hv⟩
theorem T0 {j o k n ty e:Nat} {Ki:List DV} {es ns:List (List DV)} (hq:st.tk[k]? = some ⟨n,ty,e,some ns.flatten⟩) (Ea:∀ x∈ns,x.length=e) (jd:ns.length=n) (hj:st.bx[j]? = some Ki) (ho:Ki[o]? = some (.sl 0 es (some k))) (ie:es.length=n) :
  Wk X st ⟨st.sl,st.bx.set j (Ki.set o (.sl e ns none)),st.tk.set k ⟨n,ty,e,none⟩⟩:=by
 intro E a w h;obtain ⟨E',hr,hx,qV⟩:=PB h hq rfl Ea jd;refine ⟨E',{ hr with env:=?_ }⟩
 exact { hr.env with
  len:=by simp only [List.length_set];exact hr.env.len
  eQ:=fun i cs' hi=>by
   by_cases Bi:i=j
   ·subst Bi;have av:=(gS hj).1;have dz:(st.bx.set i (Ki.set o (.sl e ns none)))[i]? = some cs':=hi;rw [iC av] at dz;simp only [oI] at dz;subst dz;obtain ⟨b,t,arr,hb,hw,hc⟩:=hr.env.eQ i Ki hj;obtain ⟨b0,t0,KK,iP,hw0,KJ⟩:=h.env.eQ i Ki hj;have om:=hx.β i b0 iP;rw [hb] at om;simp only [oI] at om;subst om;rw [hw] at hw0;simp only [oI,Obj.cells.injEq] at hw0
    have Lz:arr=KK:=by
     have:=hw0.1;simpa using this
    subst Lz;refine ⟨b,t,arr,hb,hw,?_,hc.2⟩;obtain ⟨v,tH,N9⟩:=KJ.1.get ho;have Hc:=qV es v ie N9;have kX:=(gS ho).1;have ON:arr.length=Ki.length:=hc.1.length
    have h1:=(RvL.take o hc.1).append (rvL_cons (d:=.sl e ns none) (v:=v) (by
     unfold Rv at Hc ⊢;obtain ⟨b,n,cap,g1,g2,g3,_⟩:=Hc
     exact ⟨b,n,cap,g1,g2,g3,fun k hk=>by cases hk⟩) (RvL.drop (o + 1) hc.1))
    rw [List.set_eq_take_append_cons_drop,ai kX]
    have h2:arr.take o ++ v :: arr.drop (o + 1)=arr:=by
     have hoa:o < arr.length:=by omega
     have:arr[o]=v:=by grind
     rw [<- this];simp
    rwa [h2] at h1
   ·have dz:(st.bx.set j (Ki.set o (.sl e ns none)))[i]? = some cs':=hi;rw [List.getElem?_set_ne (Ne.symm Bi)] at dz
    exact hr.env.eQ i cs' dz }
theorem Wk.EJ (i j:Nat) (S S':St) (he:S'=eS i j S) (Ka:Nat.ble X.n0 i=true) (BG:Nat.ble X.n0 j=true) (hi:Nat.blt i S.bx.length=true) (hj:Nat.blt j S.bx.length=true) (hX:X.bt=[]:=by exact rfl):Wk X S' S:=fun E a w h=>by
 subst he;simp only [Nat.blt_eq] at hi hj;exact GZ hX h (nL Ka) (nL BG) hi hj
theorem Mm {c:Code} (I:Nat->St->Prop) (j0:Nat) (kY:St) (hw:Wk X st kY) (h0:I j0 kY)
  (hr:∀ j s,I j s->go X 4000 (.code c :: .Eh (fun s'=>∃ BO,Wk X s' BO /\ ∃ j',j' < j/\I j' BO) :: k) s):nS X c k st:=by
 intro E a w h;obtain ⟨E0,hr0⟩:=hw _ _ _ h
 classical
 let Inv:Act->World->Prop:=fun a w=>∃ j s E,Rel X E s a w/\I j s
 let μ:Act->World->Nat:=fun a w=>if hI:Inv a w then Classical.choose (least hI) else 0
 refine wp_loop Inv μ ⟨j0,kY,E0,hr0,h0⟩ ?_;intro a1 w1 hI;have yh:=(Classical.choose_spec (least hI)).1;obtain ⟨s,E1,cJ,hIs⟩:=yh;have hs:=go_sound 4000 _ _ (hr _ s hIs) E1 a1 w1 cJ;rw [dN] at hs;refine wp_mono hs ?_;intro e a2 w2 hq
 cases e with
 | normal=>
  obtain ⟨s',E2,BP,BO,Og,j',jo,Wn⟩:=hq;obtain ⟨E3,BQ⟩:=Og _ _ _ BP;have S9:Inv a2 w2:=⟨j',BO,E3,BQ,Wn⟩;refine ⟨S9,?_⟩;simp only [μ,dif_pos hI,dif_pos S9];exact Nat.lt_of_le_of_lt ((Classical.choose_spec (least S9)).2 j' ⟨BO,E3,BQ,Wn⟩) jo
 | exit id=>exact hq
 | goto l=>exact hq
 | ret=>exact hq
 | panic c=>exact hq
 | outgrown=>exact hq
mutual
def flatD:DV->Bool
 | .v _=>true
 | .agg l=>flatL l
 | .tup l=>flatL l
 | _=>false
def flatL:List DV->Bool
 | []=>true
 | d :: r=>flatD d && flatL r
end
mutual
theorem Rv.flat {E E':En}:∀ {d:DV} {v:Value},flatD d=true->Rv E d v->Rv E' d v
 | .v x,v,_,h=>by unfold Rv at h ⊢;exact h
 | .agg l,v,hf,h=>by
  simp only [flatD] at hf;simp only [Rv] at h ⊢;obtain ⟨vs,h1,h2,h3⟩:=h;exact ⟨vs,h1,RvL.flat hf h2,h3⟩
 | .tup l,v,hf,h=>by
  simp only [flatD] at hf;simp only [Rv] at h ⊢;obtain ⟨vs,h1,h2⟩:=h;exact ⟨vs,h1,RvL.flat hf h2⟩
 | .ud,_,hf,_=>by simp [flatD] at hf
 | .sl _ _ _,_,hf,_=>by simp [flatD] at hf
 | .pt _ _,_,hf,_=>by simp [flatD] at hf
 | .loc _ _,_,hf,_=>by simp [flatD] at hf
 | .el _ _,_,hf,_=>by simp [flatD] at hf
 | .ms _ _ _ _ _,_,hf,_=>by simp [flatD] at hf
 | .fn _ _ _,_,hf,_=>by simp [flatD] at hf
 | .sj _ _,_,hf,_=>by simp [flatD] at hf
theorem RvL.flat {E E':En}:∀ {l:List DV} {vs:List Value},flatL l=true->RvL E l vs->RvL E' l vs
 | [],vs,_,h=>by simpa only [RvL] using h
 | d :: r,vs,hf,h=>by
  simp only [flatL,aO] at hf;simp only [RvL] at h ⊢;obtain ⟨v,s,h1,h2,h3⟩:=h;exact ⟨v,s,h1,Rv.flat hf.1 h2,RvL.flat hf.2 h3⟩
end
theorem Hp {f:FuncId} {args bI:List DV} {d:Nat} {y:DV} (kv:Enters X.P f) (hc:EvP X.P f bI y) (ha:CcL st.bx 0 0 0 bI args) (hy:flatD y=true) (hd:gw X.nt st.sl (some d)=true)
  (hk:go X 4000 k ⟨(d,⟨[],y⟩) :: st.sl,st.bx,st.tk⟩) (bi:X.still=false:=by exact rfl):CallG X f args (some d) k st:=by
 refine ⟨kv,bi,fun E a w vs h hv=>(jj h.env hc ha hv).mono ?_⟩;rintro e w' ⟨v,E2,rfl,hr,hm,_⟩;have hh:∀ i,i < w.heap.size->w'.heap[i]? = w.heap[i]?:=fun i hi=>hm.block i hi (fun h=>h);have cJ:Rel X E st a w':=dm h (Ext.refl E) (h.env.ke hh) h.tk h.nw (h.fr.cz hm.os hm.tape hm.output hm.size fun i hi=>.inr (hh i hi)) (od bi) (h.bt.ke fun b hb=>hh b (h.env.bf hb));exact go_sound 4000 _ _ hk E _ w' (bB cJ hd y v (Rv.flat hy hr))
theorem pT {D:Dr} {c:Bool} {i:Nat} {s0:List (Nat × Sl)} {f:FuncId} {args bI:List DV} {d:Nat} {y:DV} {r:List (Nat × Oper)} (kv:Enters X.P f) (hc:EvP X.P f bI y) (ha:CcL st.bx 0 0 0 bI args) (hy:flatD y=true) (hd:(gw X.nt st.sl (some d) && gw X.nt s0 (some d))=true)
  (hk:put2 s0 st (some d) true [] y (goD X D 3000 c r)) (bi:X.still=false:=by exact rfl):BT X D c i r f args (some d) s0 st:=by
 refine ⟨kv,fun hl E0 wr hD E a w vs h hv=>(jj h.rel.env hc ha hv).mono ?_⟩;rintro e w' ⟨v,E2,rfl,hr,hm,_⟩;have hh:∀ i,i < w.heap.size->w'.heap[i]? = w.heap[i]?:=fun i hi=>hm.block i hi (fun h=>h);have cJ:Rel X E st a w':=dm h.rel (Ext.refl E) (h.rel.env.ke hh) h.rel.tk h.rel.nw (h.rel.fr.cz hm.os hm.tape hm.output hm.size fun i hi=>.inr (hh i hi)) (od bi) (h.rel.bt.ke fun b hb=>hh b (h.rel.env.bf hb));have hs:dX none E w E w':=⟨Ext.refl E,⟨[],by simp⟩,fun j b hb _=>hh b (h.rel.env.bf (mG hb))⟩;have hC:=GW h hs cJ (fun j hj=>by cases hj);refine ⟨v,rfl,fun _=>hC,?_⟩;have KZ:gq X ⟨D,E0,wr⟩ c E s0 st (a.put none v) w':=uI h hs cJ (fun h1=>hC (h.cc h1)) (fun i x hx=>.inr ⟨hx,fun d hd=>by cases hd⟩) rfl;obtain ⟨s1,qZ,o6,eO⟩:=jK KZ hd true [] y v (fun _ _ p hp=>by cases hp) (fun _=>Rv.flat hy hr) (fun _ _=>Rv.flat hy hr) (fun hn=>(hn (bh _)).elim) hk;exact ig (D:=⟨D,E0,wr⟩) hD 3000 c r _ _ o6 hl E _ w' eO
theorem CallG.EJ {S:St} {f:FuncId} {args bI:List DV} {dst:Option Nat} (i j:Nat) (hS:st=eS i j S) (ha:args=renL (swp i j) bI) (Ka:Nat.ble X.n0 i=true) (BG:Nat.ble X.n0 j=true) (hi:Nat.blt i S.bx.length=true) (hj:Nat.blt j S.bx.length=true)
  (h:CallG X f bI dst k S) (hX:X.bt=[]:=by exact rfl):CallG X f args dst k st:=by
 subst hS ha;simp only [Nat.blt_eq] at hi hj;refine ⟨h.1,h.2.1,fun E a w vs hr hv=>?_⟩
 have hlen:E.β.length=S.bx.length:=by
  rw [hr.env.len];simp only [eS,eT,dY]
 exact h.2.2 _ a w vs (BW hX hr (nL Ka) (nL BG) hi hj) (RvL.EJ (by rw [hlen];exact hi) (by rw [hlen];exact hj) hv)
end
end Dv
end Go.Proofs.YtphonmiflfhdbaaGreat
set_option maxRecDepth 100000
namespace Go.Proofs.YtphonmiflfhdbaaGreat
open Go Go.RowKit Dv Go.Proofs.Tryz
def cZ (l:List Int):List DV:=l.map fun z=>DV.v (.int .i64 z)
def Ff (af:List ByteArray) (tb lq:DV) (js:List Int):List DV:=.sl 1 (eE af) none :: tb :: lq :: cZ js
def oz:Option Nat->Int
 | none=>-1
 | some k=>(k:Int)
def Cx (pb:Nat->Nat->Bool) (e:Nat):Option Nat->Bool
 | none=>true
 | some o=>pb e o
def bestA (kk:Nat->Bool) (pb:Nat->Nat->Bool):Nat->Option Nat
 | 0=>none
 | e + 1=>if kk e && Cx pb e (bestA kk pb e) then some e else bestA kk pb e
def mK (kk:Nat->Bool) (pb:Nat->Nat->Bool) (n:Nat):Option Nat:=
 match bestA kk pb n with
 | none=>none
 | some o=>if (List.range n).any (fun c=>kk c && !pb o c) then none else some o
theorem mL {kk:Nat->Bool} {pb:Nat->Nat->Bool}:∀ {e k:Nat},bestA kk pb e=some k->k < e
 | 0,k,h=>by cases h
 | e + 1,k,h=>by
  rw [bestA] at h;split at h
  ·simp only [oI] at h;omega
  ·have:=mL h;omega
theorem rz (af:List ByteArray) (tb:DV) (rows:List Nat) (js:List Int) (hr:dR rows) (a b:Nat) (ha:a < rows.length) (hb:b < rows.length) :
  EvP prog 117 [.v (.int .i64 a),.v (.int .i64 b),.pt [.pt (Ff af tb (mg rows) js) 0] 0] (.v (.bool (aS rows a b))):=by
 have h1:=kC rows hr a b;rw [pM ha hb] at h1;refine eG 13 [.tmp 5] func117 rfl ntmps117 rfl fun _ _ _ _=>?_;refine cP K9 h1 ?_;exact (rfl:_=_)
theorem rA (af:List ByteArray) (tb:DV) (rows:List Nat) (js:List Int) (hr:dR rows) (a b:Nat) (ha:a < rows.length) (hb:b < rows.length) :
  EvP prog 118 [.v (.int .i64 a),.v (.int .i64 b),.pt [.pt (Ff af tb (mg rows) js) 0] 0] (.v (.bool (aS rows b a))):=by
 have h1:=kC rows hr b a;rw [pM hb ha] at h1;refine eG 13 [.tmp 5] func118 rfl ntmps118 rfl fun _ _ _ _=>?_;refine cP K9 h1 ?_;exact (rfl:_=_)
abbrev RX (L:List DV):DV:=.fn 117 [] [.pt [.pt L 0] 0]
abbrev RY (L:List DV):DV:=.fn 118 [] [.pt [.pt L 0] 0]
theorem I6 (af:List ByteArray) (tb:DV) (rows:List Nat) (js:List Int) (hr:dR rows) (a b c:Nat) (ha:a < rows.length) (hb:b < rows.length) (hc:c < rows.length) :
  EvP prog 120 [.v (.int .i64 c),.pt [RX (Ff af tb (mg rows) js)] 0,.pt [.v (.int .i64 a)] 0,.pt [.v (.int .i64 b)] 0] (.v (.bool (aS rows a c && aS rows b c))):=by
 have h1:=rz af tb rows js hr a c ha hc;have h2:=rz af tb rows js hr b c hb hc;refine eG 16 [.tmp 5] func120 rfl ntmps120 rfl fun _ _ _ _=>?_;refine cP Lf h1 ?_;refine br ?_ ?_<;>intro g
 ·have g:aS rows a c=true:=sU g;refine cP Lf h2 ?_;refine (bo ?_:);simp [g,pickB]
 ·have g:aS rows a c=false:=sU g;refine (bo ?_:);simp [g,pickB]
theorem I7 (af:List ByteArray) (tb:DV) (rows:List Nat) (js:List Int) (hr:dR rows) (a b c:Nat) (ha:a < rows.length) (hb:b < rows.length) (hc:c < rows.length) :
  EvP prog 121 [.v (.int .i64 c),.pt [RY (Ff af tb (mg rows) js)] 0,.pt [.v (.int .i64 a)] 0,.pt [.v (.int .i64 b)] 0] (.v (.bool (aS rows c a && aS rows c b))):=by
 have h1:=rA af tb rows js hr a c ha hc;have h2:=rA af tb rows js hr b c hb hc;refine eG 16 [.tmp 5] func121 rfl ntmps121 rfl fun _ _ _ _=>?_;refine cP Lg h1 ?_;refine br ?_ ?_<;>intro g
 ·have g:aS rows c a=true:=sU g;refine cP Lg h2 ?_;refine (bo ?_:);simp [g,pickB]
 ·have g:aS rows c a=false:=sU g;refine (bo ?_:);simp [g,pickB]
abbrev T1 (L:List DV) (gi gb:Nat) (ci cb:List DV) (n:Nat) (o:Int) (e:Nat):St:=
 ⟨[pz 0 L,(1,⟨[],.fn gi [] ci⟩),(2,⟨[],.fn gb [] cb⟩),au 7 o,au 14 n,au 15 e],[],[]⟩
abbrev Hq (L:List DV) (gi gb:Nat) (ci cb:List DV) (n:Nat) (o:Int) (e:Nat):St:=
 ⟨[pz 0 L,(1,⟨[],.fn gi [] ci⟩),(2,⟨[],.fn gb [] cb⟩),au 7 o,au 37 n,au 38 e],[],[]⟩
theorem yK (af:List ByteArray) (tb lq:DV) (js:List Int) (gi gb:Nat) (hei:Enters prog gi) (heb:Enters prog gb) (ci cb:List DV) (kk:Nat->Bool) (pb:Nat->Nat->Bool)
  (YE:CcL [] 0 0 0 ci ci) (YF:CcL [] 0 0 0 cb cb) (hcli:clB.clL 0 0 ci=true) (hclb:clB.clL 0 0 cb=true) (hn:af.length<=64)
  (xN:∀ c:Nat,c < af.length->EvP prog gi (.v (.int .i64 c) :: ci) (.v (.bool (kk c))))
  (hpb:∀ a b:Nat,a < af.length->b < af.length->EvP prog gb (.v (.int .i64 a) :: .v (.int .i64 b) :: cb) (.v (.bool (pb a b)))) :
  EvP prog 119 [.pt (Ff af tb lq js) 0,.fn gi [] ci,.fn gb [] cb] (.v (.int .i64 (oz (mK kk pb af.length)))):=by
 have hN:=bW af;have Au:clB 0 0 (.fn gi [] ci)=true:=by simp only [clB,aO];exact ⟨rfl,hcli⟩
 have Hr:clB 0 0 (.fn gb [] cb)=true:=by simp only [clB,aO];exact ⟨rfl,hclb⟩
 refine eG 57 [.tmp 6] func119 rfl ntmps119 rfl fun _ _ _ _=>?_;refine lJ (fun e=>T1 (Ff af tb lq js) gi gb ci cb (eE af).length (oz (bestA kk pb e)) e) af.length (wkM (wB2 Au Hr)) ?_;intro e he;refine br ?_ ?_<;>intro hL
 ·have av:e < af.length:=by have:=hL;simp [hN] at this;exact this
  have hs:bestA kk pb (e + 1)=if kk e && Cx pb e (bestA kk pb e) then some e else bestA kk pb e:=rfl
  refine cP hei (xN e av) ?_ ⟨_,_,rfl,rfl,YE⟩
  cases hA:bestA kk pb e with
  | none=>
   rw [hA] at hs;refine br ?_ ?_<;>intro g
   ·have g:kk e=true:=by simpa [lastG] using g
    have hz:(e:Int)=oz (bestA kk pb (e + 1)):=by rw [hs,g];all_goals rfl
    exact rE ⟨_,by omega,e + 1,rfl,by omega,rfl⟩ (wkM (Wo Au Hr (nxt av (by omega)) hz))
   ·have g:kk e=false:=by simpa [lastG] using g
    have hz:oz none=oz (bestA kk pb (e + 1)):=by rw [hs,g];all_goals rfl
    exact rE ⟨_,by omega,e + 1,rfl,by omega,rfl⟩ (wkM (Wo Au Hr (nxt av (by omega)) hz))
  | some k=>
   rw [hA] at hs;have hk:=mL hA;refine br ?_ ?_<;>intro g
   ·have g:kk e=true:=by simpa [lastG] using g
    refine cP heb (hpb e k av (by omega)) ?_ ⟨_,_,rfl,rfl,_,_,rfl,rfl,YF⟩;refine br ?_ ?_<;>intro g2
    ·have g2:pb e k=true:=by simpa [pickB,g,lastG] using g2
     have hz:(e:Int)=oz (bestA kk pb (e + 1)):=by rw [hs,g,Cx,g2];all_goals rfl
     exact rE ⟨_,by omega,e + 1,rfl,by omega,rfl⟩ (wkM (Wo Au Hr (nxt av (by omega)) hz))
    ·have g2:pb e k=false:=by simpa [pickB,g,lastG] using g2
     have hz:oz (some k)=oz (bestA kk pb (e + 1)):=by rw [hs,g,Cx,g2];all_goals rfl
     exact rE ⟨_,by omega,e + 1,rfl,by omega,rfl⟩ (wkM (Wo Au Hr (nxt av (by omega)) hz))
   ·have g:kk e=false:=by simpa [lastG] using g
    have hz:oz (some k)=oz (bestA kk pb (e + 1)):=by rw [hs,g];all_goals rfl
    exact rE ⟨_,by omega,e + 1,rfl,by omega,rfl⟩ (wkM (Wo Au Hr (nxt av (by omega)) hz))
 ·have hge:e=af.length:=sW hN hL;subst hge;refine lI (fun j st=>∃ e:Nat,st=Hq (Ff af tb lq js) gi gb ci cb (eE af).length (oz (bestA kk pb af.length)) e/\e<=af.length/\(∀ o,bestA kk pb af.length=some o->∀ c,c < e->(kk c && !pb o c)=false)/\j=af.length - e) ⟨0,rfl,by omega,fun _ _ c hc=>by omega,rfl⟩ (wkM (wB2 Au Hr)) ?_;rintro j st ⟨e,rfl,he,dE,rfl⟩;refine br ?_ ?_<;>intro hL
  ·have av:e < af.length:=by have:=hL;simp [hN] at this;exact this
   cases hA:bestA kk pb af.length with
   | none=>
    exact ⟨Hq (Ff af tb lq js) gi gb ci cb (eE af).length (oz none) (e + 1),(wkM (Oh Au Hr (nxt av (by omega)))),af.length - (e + 1),by omega,e + 1,rfl,by omega,(fun _ h=>by cases h),rfl⟩
   | some o=>
    have ho:=mL hA;have dE:=dE o hA;refine cP hei (xN e av) ?_ ⟨_,_,rfl,rfl,YE⟩;refine br ?_ ?_<;>intro g
    ·have g:kk e=true:=by simpa [pickB] using g
     refine cP heb (hpb o e ho av) ?_ ⟨_,_,rfl,rfl,_,_,rfl,rfl,YF⟩;refine br ?_ ?_<;>intro g2
     ·have g2:pb o e=false:=by simpa [pickB,g,lastG] using g2
      have:mK kk pb af.length=none:=by
       rw [mK,hA];simp only;rw [ai];rw [List.any_eq_true];exact ⟨e,by simpa using av,by simp [g,g2]⟩
      rw [this];exact (rfl:_=_)
     ·have g2:pb o e=true:=by simpa [pickB,g,lastG] using g2
      exact rE ⟨_,by omega,e + 1,rfl,by omega,fun o' QZ c hc=>by
       cases QZ;rcases jB hc with hc | rfl
       ·exact dE c hc
       ·simp [g2],rfl⟩ (wkM (Oh Au Hr (nxt av (by omega))))
    ·have g:kk e=false:=by simpa [pickB] using g
     exact rE ⟨_,by omega,e + 1,rfl,by omega,fun o' QZ c hc=>by
       cases QZ;rcases jB hc with hc | rfl
       ·exact dE c hc
       ·simp [g],rfl⟩ (wkM (Oh Au Hr (nxt av (by omega))))
  ·have hge:e=af.length:=sW hN hL;subst hge
   have:mK kk pb af.length=bestA kk pb af.length:=by
    cases hA:bestA kk pb af.length with
    | none=>rw [mK,hA]
    | some o=>
     rw [mK,hA];simp only;rw [ah];rw [List.any_eq_true];rintro ⟨c,hc,h2⟩;rw [dE o hA c (sU hc)] at h2;cases h2
   rw [this];exact (rfl:_=_)
end Go.Proofs.YtphonmiflfhdbaaGreat
