/- Part 5 of the proof: Readers of tokens: the document's, plain; Readers of tokens: the program's, plain; they read as the document's do; Readers of tokens: lists, parts, types, schemas: the program's as the document's; Readers of tokens: no schema is heavier than its tokens; A region that draws its order, in which a new object may come at any time among calls: its run with the object made at each of these times serves every order; A region that draws its order, run by a schedule: at each point all that may come and has an effect is tried; Rules for the evaluator: a small region that draws its order, of which more than one end may come: all orders are tried; The reader of values: enter, word, a value that is a word; The reader of values: a record's key and value; Rules for the evaluator: calls that hand back new objects; A new cursor; The reader of values: a record of one key; Parse of the example's text; Readers of tokens: the program's number, label; Readers of tokens: the program's coarse; Readers of tokens: the program's marks, field, tag; Rules for the evaluator: elements of rows whose cells nobody else knows, read and written whole; Steps of a drawn region: elements of rows whose cells nobody else knows, read and written whole; Rules for the evaluator: a region that draws its order; what each of its reads asks is told read by read; Rules for the evaluator: in a region that draws its order, an element and an object are written in either order; calls of closures; Readers of tokens: the program's parts; Readers of tokens: the document's Fine, Is, Wrong, On, Need, Mark, May, Any, Name; Readers of tokens: the document's label, number, coarse, marks; Readers of tokens: the document's marks; Readers of tokens: the document's names, part, parts; The reader of schemas: a list of which none may be there; parts; The reader of schemas: parts; a list of names onto a type; The reader of schemas: what stands behind a type's word; The reader of schemas: types; chains; The reader of schemas: a schema; Readers of tokens: the document's Kind; Readers of tokens: the document's order; Readers of tokens: the document's schema, Parse; All tokens of a text, or what is wrong: the program's Scan; Whole numbers in texts: the document's great, Take; Whole numbers in texts: digits compared; the document's Take; Typed values out of values as they are written: plain; Values as they are written, with their records the other way round: plain; Values as they are written, at another place: plain; The first edge of a name; Regions that draw their order, in which two new objects may come in either order; Regions that draw their order, in which several new objects may come in any order; Typed: bad, truth, number, text, enum, find, call; The least depths of the values of a plan's nodes: plain; Which nodes have several values: plain; How many unlike values nodes have: plain, as the document counts; The program's nodes, least depths; The document's least depths; fine; the chapter's example; The program's Depths. No condition. -/
import Derived.Lib.Hide
import Derived.Test.YtfdedoiiahbnnaaGreatNe2
import Derived.Test.YtfdedoiiahbnnaaGreatNe3
import Derived.Test.YtfdedoiiahbnnaaGreatNe4
set_option linter.all false
set_option maxRecDepth 100000
namespace Go.Proofs.YtfdedoiiahbnnaaGreat
open Go Go.RowKit Dv Go.Proofs.Tryz
abbrev IY:ByteArray:=⟨#[64]⟩
abbrev Ad:ByteArray:=⟨#[35]⟩
abbrev pU:ByteArray:=⟨#[126]⟩
abbrev aN:ByteArray:=⟨#[40]⟩
abbrev aX:ByteArray:=⟨#[41]⟩
abbrev cB:ByteArray:=⟨#[44]⟩
abbrev b9:ByteArray:=⟨#[58]⟩
abbrev Ae:ByteArray:=⟨#[43]⟩
abbrev dw:ByteArray:=⟨#[60]⟩
abbrev lh:ByteArray:=⟨#[61]⟩
abbrev fX:ByteArray:=⟨#[46,46]⟩
abbrev fK:ByteArray:=⟨#[102,108,111,111,114]⟩
abbrev gV:ByteArray:=⟨#[102,105,114,115,116]⟩
abbrev jy:ByteArray:=⟨#[99,111,117,110,116]⟩
abbrev CH:ByteArray:=⟨#[105,110,116]⟩
abbrev tC:ByteArray:=⟨#[116,101,120,116]⟩
abbrev tD:ByteArray:=⟨#[101,110,117,109]⟩
abbrev tE:ByteArray:=⟨#[108,105,115,116]⟩
abbrev CI:ByteArray:=⟨#[111,112,116]⟩
abbrev IZ:ByteArray:=⟨#[114,101,99,111,114,100]⟩
abbrev tF:ByteArray:=⟨#[117,110,105,111,110]⟩
abbrev CJ:ByteArray:=⟨#[114,101,102]⟩
abbrev RS:=List dj × Ft
namespace RS
def hd (q:RS):dj:=q.1.headD (gT 0)
def on (q:RS):RS:=(q.1.tail,q.2)
def wr (q:RS):RS:=if q.2.1=0 then (q.1,(if q.hd.k=0 then 5 else 4,q.hd.a)) else q
def is (q:RS) (k:Int) (s:ByteArray):Bool:=decide (q.hd.k=k) && decide (q.hd.s=s)
def ae (q:RS) (k:Int) (s:ByteArray):RS:=if q.2.1=0 then (if q.is k s=true then q.on else q.wr) else q
def nJ (q:RS) (s:ByteArray):Bool:=decide (q.2.1=0) && q.is 4 s
def may (q:RS) (s:ByteArray):RS:=if q.nJ s=true then q.on else q
def Lr (q:RS) (k:Int):Bool:=decide (q.2.1=0) && decide (q.hd.k=k)
def uM (q:RS) (k:Int):dj:=if q.Lr k=true then q.hd else gT 0
def any (q:RS) (k:Int):RS:=if q.Lr k=true then q.on else q.wr
def name (q:RS):Wd:=⟨(q.uM 1).s,(q.uM 1).a⟩
def eN (q:RS):RS:=q.any 1
end RS
def Xy (q:RS):List DV:=[.sl 5 (fv q.1) none,.v (.int .i64 q.2.1),.v (.int .i64 q.2.2)]
structure El (q:RS):Prop where
 ne:q.2.1=0->q.1 ≠ []
 nx:∀ (i:Nat) t,q.1[i]? = some t->t.k≠0->i + 1 < q.1.length
 len:q.1.length<=274877906944
theorem El.cons {q:RS} (h:El q) (h0:q.2.1=0):∃ t r,q.1=t :: r/\q.hd=t:=by
 have:=h.ne h0;unfold RS.hd
 cases hq:q.1 with
 | nil=>exact absurd hq this
 | cons t r=>exact ⟨t,r,rfl,rfl⟩
theorem El.on {q:RS} (h:El q) (h0:q.2.1=0) (hk:q.hd.k≠0):El q.on:=by
 obtain ⟨t,r,h1,h2⟩:=h.cons h0;have hn:=h.nx;have hl:=h.len;obtain ⟨l,f⟩:=q;simp only at h1 hn hl;subst h1;rw [h2] at hk;have h3:=hn 0 t rfl hk;simp only [List.length_cons] at h3 hl;refine ⟨fun _ he=>?_,fun i t' hi gD=>?_,?_⟩
 ·simp only [RS.on,List.tail_cons] at he;rw [he] at h3;simp at h3
 ·have:=hn (i + 1) t' (by simpa [RS.on] using hi) gD;simp only [List.length_cons] at this;show i + 1 < r.length;omega
 ·show r.length<=_;omega
theorem El.ff {q:RS} (h:El q) {e a:Int} (he:e≠0):El (q.1,(e,a)):=⟨fun h0=>absurd h0 he,h.nx,h.len⟩
def bigN:Nat:=274877906945
theorem dX:bigN=274877906945:=rfl
attribute [irreducible] bigN
def rLab:Nat->List Wd->RS->List Wd × RS
 | 0,l,q=>(l,q)
 | n + 1,l,q=>if q.eN.nJ Ae=true then rLab n (l ++ [q.name]) q.eN.on else (l ++ [q.name],q.eN)
def tG (q:RS):List Wd × RS:=rLab bigN [] q
def uN (q:RS):Int × RS:=(((q.ae 4 aN).uM 2).n,((q.ae 4 aN).any 2).ae 4 aX)
structure Cs where
 k:Int
 n:Int
 a:Int
 l:List Wd
def V0 (c:Cs):List DV:=[.v (.int .i64 c.k),.v (.int .i64 c.n),.v (.int .i64 c.a),.sl 2 (bZ c.l) none]
def tH (k n a:Int) (q:RS):Cs × RS:=if q.nJ IY=true then (⟨k,n,a,(tG q.on).1⟩,(tG q.on).2) else (⟨k,n,a,[]⟩,q)
def iu (q:RS):Cs × RS:=
 if q.2.1=0 then
  (if q.hd.k=1 then
   (if q.hd.s=fK then tH 1 (uN q.on).1 q.hd.a (uN q.on).2
    else if q.hd.s=gV then tH 2 (uN q.on).1 q.hd.a (uN q.on).2
    else if q.hd.s=jy then tH 3 0 q.hd.a q.on
    else (⟨0,0,q.hd.a,[]⟩,(q.1,(9,q.hd.a))))
   else (⟨0,0,q.hd.a,[]⟩,q.wr))
 else (⟨0,0,0,[]⟩,q)
def Ls (x:Ph) (q:RS):Ph × RS:=if q.nJ IY=true then ({ x with label:=(tG q.on).1 },(tG q.on).2) else (x,q)
def MZ (x:Ph) (q:RS):Ph × RS:=if q.nJ Ad=true then ({ x with wide:=(q.on.uM 2).n },q.on.any 2) else (x,q)
def PZ (x:Ph) (q:RS):Ph × RS:=if q.nJ pU=true then ({ x with ck:=(iu q.on).1.k,cn:=(iu q.on).1.n,ca:=(iu q.on).1.a,cl:=(iu q.on).1.l },(iu q.on).2) else (x,q)
def lP (x:Ph) (q:RS):Ph × RS:=PZ (MZ (Ls x q).1 (Ls x q).2).1 (MZ (Ls x q).1 (Ls x q).2).2
def iU (w:Wd) (b:Bool):Ph:=⟨w,b,[],0,0,0,0,[]⟩
def rLst {β:Type} (g:List β->RS->List β × RS) (e:ByteArray):Nat->List β->RS->List β × RS
 | 0,l,q=>(l,q)
 | n + 1,l,q=>if q.2.1=0 then (if (g l q).2.nJ e=true then ((g l q).1,(g l q).2.on) else rLst g e n (g l q).1 ((g l q).2.ae 4 cB)) else ([],q)
section
variable (K:RS->Ty × RS) (tag:Bool)
def I0 (q:RS):(Ph × Ty) × RS:=(((lP (iU q.name false) (K (q.eN.ae 4 b9)).2).1,(K (q.eN.ae 4 b9)).1),(lP (iU q.name false) (K (q.eN.ae 4 b9)).2).2)
def Pf (q:RS):(Ph × Ty) × RS:=
 if q.eN.nJ aN=true then (((lP (iU q.name false) ((K q.eN.on).2.ae 4 aX)).1,(K q.eN.on).1),(lP (iU q.name false) ((K q.eN.on).2.ae 4 aX)).2)
 else ((iU q.name true,bO),q.eN)
def Em (q:RS):(Ph × Ty) × RS:=if tag=true then Pf K q else I0 K q
def Xz (l:List (Ph × Ty)) (q:RS):List (Ph × Ty) × RS:=(l ++ [(Em K tag q).1],(Em K tag q).2)
def Lt:Nat->List (Ph × Ty)->RS->List (Ph × Ty) × RS:=rLst (Xz K tag) aU
def pV (q:RS):List (Ph × Ty) × RS:=
 if ((q.ae 4 bm).nJ aU && !tag)=true then ([],(q.ae 4 bm).on) else Lt K tag bigN [] (q.ae 4 bm)
end
def nmG (l:List Wd) (q:RS):List Wd × RS:=(l ++ [q.name],q.eN)
def xH (e:ByteArray):Nat->List Wd->RS->List Wd × RS:=rLst nmG e
def mkPts:List (Ph × Ty)->Pts
 | []=>.nil
 | p :: r=>.cons p.1 p.2 (mkPts r)
theorem xI:∀ l:List (Ph × Ty),eF (mkPts l)=l.map (fun p=>j9 p.1 (di p.2))
 | []=>rfl
 | p :: r=>by rw [mkPts,eF,xI r,List.map_cons]
def jz (k a:Int):Hd:=⟨k,a,0,0,0,[],⟨aY,0⟩⟩
def Eo (k a:Int):Ty:=.mk (jz k a) .nil
def Af (K:RS->Ty × RS) (w:ByteArray) (a:Int) (p:RS):Ty × RS:=
 if w=tA then (Eo 1 a,p)
 else if w=CH then (.mk { jz 2 a with lo:=((p.ae 4 aN).uM 2).n,hi:=((((p.ae 4 aN).any 2).ae 4 fX).uM 2).n } .nil,((((p.ae 4 aN).any 2).ae 4 fX).any 2).ae 4 aX)
 else if w=tC then (.mk { jz 3 a with most:=(uN p).1 } .nil,(uN p).2)
 else if w=tD then (.mk { jz 4 a with aD:=(xH aX bigN [] (p.ae 4 aN)).1 } .nil,(xH aX bigN [] (p.ae 4 aN)).2)
 else if w=tE then (.mk { jz 5 a with most:=(((K (p.ae 4 aN)).2.ae 4 cB).uM 2).n } (.cons cj (K (p.ae 4 aN)).1 .nil),((((K (p.ae 4 aN)).2.ae 4 cB).any 2).ae 4 aX))
 else if w=CI then (.mk (jz 6 a) (.cons cj (K (p.ae 4 aN)).1 .nil),(K (p.ae 4 aN)).2.ae 4 aX)
 else if w=IZ then (.mk (jz 7 a) (mkPts (pV K false p).1),(pV K false p).2)
 else if w=tF then (.mk (jz 8 a) (mkPts (pV K true p).1),(pV K true p).2)
 else if w=CJ then (.mk { jz 9 a with name:=(p.ae 4 aN).name } .nil,(p.ae 4 aN).eN.ae 4 aX)
 else (Eo 0 a,(p.1,(9,a)))
def rKind:Nat->RS->Ty × RS
 | 0,q=>if q.2.1=0 then (Eo 0 q.hd.a,(q.1,(6,q.hd.a))) else (bO,q)
 | n + 1,q=>if q.2.1=0 then (if q.hd.k=1 then Af (rKind n) q.hd.s q.hd.a q.on else (Eo 0 q.hd.a,q.wr)) else (bO,q)
def rChain:Nat->List (Wd × Wd)->Wd->RS->List (Wd × Wd) × RS
 | 0,l,_,q=>(l,q)
 | n + 1,l,lo,q=>if q.eN.nJ dw=true then rChain n (l ++ [(lo,q.name)]) q.name q.eN.on else (l ++ [(lo,q.name)],q.eN)
def rq (l:List (Wd × Wd)) (q:RS):List (Wd × Wd) × RS:=rChain bigN l q.name (q.eN.ae 4 dw)
def Lu:Nat->List (Wd × Wd)->RS->List (Wd × Wd) × RS:=rLst rq aU
def CK (q:RS):List (Wd × Wd) × RS:=if q.nJ aU=true then ([],q.on) else Lu bigN [] q
def RS.M0 (q:RS) (s:ByteArray):Bool:=decide (q.2.1=0) && q.is 1 s
def rTypes:Nat->List (Wd × Ty)->RS->List (Wd × Ty) × RS
 | 0,l,q=>(l,q)
 | n + 1,l,q=>if q.M0 oK=true then rTypes n (l ++ [(q.on.name,(rKind 24 (q.on.eN.ae 4 lh)).1)]) (rKind 24 (q.on.eN.ae 4 lh)).2 else (l,q)
def CL (q:RS):List Wd × RS:=xH aU bigN [] ((q.ae 1 cA).ae 4 bm)
def CM (q:RS):List (Wd × Wd) × RS:=if q.M0 lO=true then CK (q.on.ae 4 bm) else ([],q)
def Lv (q:RS):List (Wd × Ty) × RS:=rTypes bigN [] q
def Pg (q:RS):Ty × RS:=rKind 24 (q.ae 1 ez)
def Lw (q:RS):eW × RS:=(⟨(CL q).1,(CM (CL q).2).1,(Lv (CM (CL q).2).2).1,(Pg (Lv (CM (CL q).2).2).2).1⟩,(Pg (Lv (CM (CL q).2).2).2).2)
section
variable {K:RS->Ty × RS} (hK:∀ q,El q->El (K q).2)
include hK
end
end Go.Proofs.YtfdedoiiahbnnaaGreat
set_option maxRecDepth 100000
namespace Go.Proofs.YtfdedoiiahbnnaaGreat
open Go Go.RowKit Dv Go.Proofs.Tryz
def aq.fA (c:aq):Int:=(c.td 2).n
def aq.bq (c:aq):aq:=if c.tk 2 then c.step else c.wrong
def pLab:Nat->List Wd->aq->List Wd × aq
 | 0,l,c=>(l,c)
 | n + 1,l,c=>if c.ai.is 4 Ae=true then pLab n (l ++ [c.aH]) c.ai.step else (l ++ [c.aH],c.ai)
def dY (c:aq):List Wd × aq:=pLab bigN [] c
def gK (c:aq):Int × aq:=((c.ae aN).fA,(c.ae aN).bq.ae aX)
def dV (k n a:Int) (c:aq):Cs × aq:=if c.is 4 IY=true then (⟨k,n,a,(dY c.step).1⟩,(dY c.step).2) else (⟨k,n,a,[]⟩,c)
def bI (c:aq):Cs × aq:=
 if c.is 1 fK=true then dV 1 (gK c.step).1 c.aA.a (gK c.step).2
 else if c.is 1 gV=true then dV 2 (gK c.step).1 c.aA.a (gK c.step).2
 else if c.is 1 jy=true then dV 3 0 c.aA.a c.step
 else if c.aA.k=1 then dV 0 0 c.aA.a (c.fail 9)
 else dV 0 0 c.aA.a c.wrong
def oY (x:Ph) (c:aq):Ph × aq:=if c.is 4 IY=true then ({ x with label:=(dY c.step).1 },(dY c.step).2) else (x,c)
def tI (x:Ph) (c:aq):Ph × aq:=if c.is 4 Ad=true then ({ x with wide:=c.step.fA },c.step.bq) else (x,c)
def Ag (x:Ph) (c:aq):Ph × aq:=if c.is 4 pU=true then ({ x with ck:=(bI c.step).1.k,cn:=(bI c.step).1.n,ca:=(bI c.step).1.a,cl:=(bI c.step).1.l },(bI c.step).2) else (x,c)
def bB (x:Ph) (c:aq):Ph × aq:=Ag (tI (oY x c).1 (oY x c).2).1 (tI (oY x c).1 (oY x c).2).2
section
variable (K:aq->Ty × aq) (tag:Bool)
def iV (c:aq):(Ph × Ty) × aq:=(((bB (iU c.aH false) (K (c.ai.ae b9)).2).1,(K (c.ai.ae b9)).1),(bB (iU c.aH false) (K (c.ai.ae b9)).2).2)
def gW (c:aq):(Ph × Ty) × aq:=
 if c.ai.is 4 aN=true then (((bB (iU c.aH false) ((K c.ai.step).2.ae aX)).1,(K c.ai.step).1),(bB (iU c.aH false) ((K c.ai.step).2.ae aX)).2)
 else ((iU c.aH true,bO),c.ai)
def cq (c:aq):(Ph × Ty) × aq:=if tag=true then gW K c else iV K c
def jA (c:aq) (l:List (Ph × Ty)):aq × List (Ph × Ty):=((cq K tag c).2,l ++ [(cq K tag c).1])
def cd (c:aq):List (Ph × Ty) × aq:=
 if (!tag && (c.ae bm).is 4 aU)=true then ([],(c.ae bm).step) else ((listF (jA K tag) aU bigN (c.ae bm) []).2,(listF (jA K tag) aU bigN (c.ae bm) []).1)
end
def bJ (K:aq->Ty × aq) (w:ByteArray) (a:Int) (c:aq):Bool × Ty × aq:=
 if w=tA then (true,Eo 1 a,c)
 else if w=CH then (true,.mk { jz 2 a with lo:=(c.ae aN).fA,hi:=((c.ae aN).bq.ae fX).fA } .nil,((c.ae aN).bq.ae fX).bq.ae aX)
 else if w=tC then (true,.mk { jz 3 a with most:=(gK c).1 } .nil,(gK c).2)
 else if w=tD then (true,.mk { jz 4 a with aD:=(listF dP aX bigN (c.ae aN) []).2 } .nil,(listF dP aX bigN (c.ae aN) []).1)
 else if w=tE then (true,.mk { jz 5 a with most:=((K (c.ae aN)).2.ae cB).fA } (.cons cj (K (c.ae aN)).1 .nil),((K (c.ae aN)).2.ae cB).bq.ae aX)
 else if w=CI then (true,.mk (jz 6 a) (.cons cj (K (c.ae aN)).1 .nil),(K (c.ae aN)).2.ae aX)
 else if w=IZ then (true,.mk (jz 7 a) (mkPts (cd K false c).1),(cd K false c).2)
 else if w=tF then (true,.mk (jz 8 a) (mkPts (cd K true c).1),(cd K true c).2)
 else if w=CJ then (true,.mk { jz 9 a with name:=(c.ae aN).aH } .nil,(c.ae aN).ai.ae aX)
 else (false,Eo 0 a,c)
def aq.deep (c:aq):aq:={ c with d:=c.d + 1 }
def pKind:Nat->aq->Ty × aq
 | 0,c=>(Eo 0 c.aA.a,c.fail 6)
 | n + 1,c=>if c.deep.tk 1=true then (if (bJ (pKind n) c.deep.aA.s c.aA.a c.deep.step).1=true then ((bJ (pKind n) c.deep.aA.s c.aA.a c.deep.step).2.1,(bJ (pKind n) c.deep.aA.s c.aA.a c.deep.step).2.2.leave) else ((bJ (pKind n) c.deep.aA.s c.aA.a c.deep.step).2.1,((bJ (pKind n) c.deep.aA.s c.aA.a c.deep.step).2.2.cm 9 c.deep.aA.a).leave)) else (Eo 0 c.aA.a,c.deep.wrong.leave)
def pChain:Nat->List (Wd × Wd)->Wd->aq->List (Wd × Wd) × aq
 | 0,l,_,c=>(l,c)
 | n + 1,l,lo,c=>if c.ai.is 4 dw=true then pChain n (l ++ [(lo,c.aH)]) c.aH c.ai.step else (l ++ [(lo,c.aH)],c.ai)
def bX (c:aq):List (Wd × Wd) × aq:=pChain bigN [] c.aH (c.ai.ae dw)
def jb (c:aq) (l:List (Wd × Wd)):aq × List (Wd × Wd):=((bX c).2,l ++ (bX c).1)
def dq (c:aq):List (Wd × Wd) × aq:=if c.is 4 aU=true then ([],c.step) else ((listF jb aU bigN c []).2,(listF jb aU bigN c []).1)
def pTypes:Nat->List (Wd × Ty)->aq->List (Wd × Ty) × aq
 | 0,l,c=>(l,c)
 | n + 1,l,c=>if c.is 1 oK=true then pTypes n (l ++ [(c.step.aH,(pKind 24 (c.step.ai.ae lh)).1)]) (pKind 24 (c.step.ai.ae lh)).2 else (l,c)
def dc (c:aq):List Wd × aq:=((listF dP aU bigN ((c.kw cA).ae bm) []).2,(listF dP aU bigN ((c.kw cA).ae bm) []).1)
def eh (c:aq):List (Wd × Wd) × aq:=if c.is 1 lO=true then dq (c.step.ae bm) else ([],c)
def jc (c:aq):List (Wd × Ty) × aq:=pTypes bigN [] c
def F5 (c:aq):Ty × aq:=pKind 24 (c.kw ez)
def cY (c:aq):eW × aq:=(⟨(dc c).1,(eh (dc c).2).1,(jc (eh (dc c).2).2).1,(F5 (jc (eh (dc c).2).2).2).1⟩,(F5 (jc (eh (dc c).2).2).2).2)
structure Sm (c:aq) (q:RS):Prop where
 ok:av c
 SD:El q
 f:q.2=c.f
 l:c.f.1=0->q.1=c.l.drop c.p
namespace Sm
variable {c:aq} {q:RS} (h:Sm c q)
include h
theorem hd (h0:c.f.1=0):q.hd=c.aA:=by
 rw [RS.hd,aq.aA,aj h0,h.l h0,List.headD_eq_head?_getD,List.head?_drop]
theorem is (h0:c.f.1=0) (k:Int) (s:ByteArray):c.is k s=q.is k s:=by rw [aq.is,RS.is,h.hd h0]
theorem may (s:ByteArray):q.nJ s=c.is 4 s:=by
 rw [RS.nJ,h.f];by_cases h0:c.f.1=0
 ·rw [decide_eq_true h0,h.is h0,Bool.true_and]
 ·rw [decide_eq_false h0,eM h0 (by decide),Bool.false_and]
theorem M0 (s:ByteArray):q.M0 s=c.is 1 s:=by
 rw [RS.M0,h.f];by_cases h0:c.f.1=0
 ·rw [decide_eq_true h0,h.is h0,Bool.true_and]
 ·rw [decide_eq_false h0,eM h0 (by decide),Bool.false_and]
theorem tk {k:Int} (hk:k≠0):q.Lr k=c.tk k:=by
 rw [RS.Lr,h.f];by_cases h0:c.f.1=0
 ·rw [decide_eq_true h0,Bool.true_and,h.hd h0,aq.tk]
  grind
 ·rw [decide_eq_false h0,tu h0,Bool.false_and]
omit h in
theorem oM {k:Int} (ht:c.tk k=true):c.f.1=0:=Classical.byContradiction fun h0=>by rw [tu h0] at ht;cases ht
omit h in
theorem cZ {k:Int} (hk:k≠0) {s:ByteArray} (ht:c.is k s=true):c.f.1=0:=Classical.byContradiction fun h0=>by rw [eM h0 hk] at ht;cases ht
theorem td {k:Int} (hk:k≠0):q.uM k=c.td k:=by
 rw [RS.uM,aq.td,h.tk hk];by_cases ht:c.tk k=true
 ·rw [aj ht,aj ht,h.hd (Sm.oM ht)]
 ·rw [af ht,af ht];rfl
theorem aH:q.name=c.aH:=by rw [RS.name,aq.aH,h.td (by decide)]
theorem step (h0:c.f.1=0) (hk:c.aA.k≠0):Sm c.step q.on:=by
 have e:c.step={ c with p:=c.p + 1 }:=by rw [aq.step,af hk]
 refine ⟨h.ok.step,h.SD.on (by rw [h.f];exact h0) (by rw [h.hd h0];exact hk),?_,fun _=>?_⟩
 ·rw [e];exact h.f
 ·rw [e];show q.1.tail=c.l.drop (c.p + 1);rw [h.l h0,List.tail_drop]
theorem ic {k:Int} (hk:k≠0) {s:ByteArray} (hi:c.is k s=true):Sm c.step q.on:=by
 have h1:c.aA.k=k:=by
  simp only [aq.is,aZ,decide_eq_true_eq] at hi;exact hi.1
 exact h.step (Sm.cZ hk hi) (by rw [h1];exact hk)
theorem cm {e a:Int} (he:e≠0) (h0:c.f.1=0):Sm (c.cm e a) (q.1,(e,a)):=by
 have e1:c.cm e a={ c with f:=(e,a) }:=by rw [aq.cm,aj ⟨h0,he⟩]
 refine ⟨h.ok.cm _ _,h.SD.ff he,?_,fun h1=>?_⟩
 all_goals grind
theorem fail {e:Int} (he:e≠0) (h0:c.f.1=0):Sm (c.fail e) (q.1,(e,q.hd.a)):=by
 rw [h.hd h0];exact h.cm he h0
theorem wrong:Sm c.wrong q.wr:=by
 by_cases h0:c.f.1=0
 ·rw [RS.wr,aj (by rw [h.f];exact h0),h.hd h0];exact h.cm (by split<;>decide) h0
 ·rw [gw h0,RS.wr,af (by rw [h.f];exact h0)];exact h
theorem ae (s:ByteArray):Sm (c.ae s) (q.ae 4 s):=by
 by_cases h0:c.f.1=0
 ·rw [RS.ae,aj (by rw [h.f];exact h0),<- h.is h0,aq.ae];split
  ·rename_i hi;exact h.ic (by decide) hi
  ·exact h.wrong
 ·rw [cG h0,RS.ae,af (by rw [h.f];exact h0)];exact h
theorem kw (s:ByteArray):Sm (c.kw s) (q.ae 1 s):=by
 by_cases h0:c.f.1=0
 ·rw [RS.ae,aj (by rw [h.f];exact h0),<- h.is h0,aq.kw];split
  ·rename_i hi;exact h.ic (by decide) hi
  ·exact h.wrong
 ·rw [xF h0,RS.ae,af (by rw [h.f];exact h0)];exact h
theorem any {k:Int} (hk:k≠0):Sm (if c.tk k then c.step else c.wrong) (q.any k):=by
 rw [RS.any,h.tk hk];split
 ·rename_i ht;exact h.step (Sm.oM ht) (vX ht)
 ·exact h.wrong
theorem ai:Sm c.ai q.eN:=h.any (by decide)
theorem bq:Sm c.bq (q.any 2):=h.any (by decide)
theorem fA:(q.uM 2).n=c.fA:=by rw [aq.fA,h.td (by decide)]
end Sm
theorem jT {c:aq} (h:c.f.1≠0):c.bq=c:=by rw [aq.bq,tu h,af (by simp),gw h]
theorem Sm.self {c:aq} (h:av c):Sm c (c.l.drop c.p,c.f) where
 ok:=h
 SD:=⟨fun _ he=>by
   have h1:=congrArg List.length he;have h2:=h.lt;simp only [List.length_drop,List.length_nil] at h1;omega,fun i t hi hk=>by
   have h1:=h.nx (c.p + i) t (by rw [<- List.getElem?_drop];exact hi) hk;show i + 1 < (c.l.drop c.p).length;rw [List.length_drop];omega,by
   have h1:=h.len;show (c.l.drop c.p).length<=_;rw [List.length_drop]
   omega⟩
 f:=rfl
 l:=fun _=>rfl
structure aK (c c':aq):Prop where
 l:c'.l=c.l
 d:c'.d=c.d
 p:c.p<=c'.p
 g:c'.f.1=0->c'.f=c.f
theorem aK.refl (c:aq):aK c c:=⟨rfl,rfl,bn _,fun _=>rfl⟩
theorem aK.trans {a b c:aq} (h1:aK a b) (h2:aK b c):aK a c:=⟨h2.l.trans h1.l,h2.d.trans h1.d,Nat.le_trans h1.p h2.p,fun h0=>by
 have e:=h2.g h0;rw [e] at h0 ⊢
 exact h1.g h0⟩
theorem aK.step (c:aq):aK c c.step:=by
 unfold aq.step;split
 ·exact .refl _
 ·exact ⟨rfl,rfl,Nat.le_succ _,fun _=>rfl⟩
theorem aK.cm (c:aq) (e a:Int):aK c (c.cm e a):=by
 unfold aq.cm;split
 ·rename_i h;exact ⟨rfl,rfl,bn _,fun h0=>absurd h0 h.2⟩
 ·exact .refl _
theorem aK.wrong (c:aq):aK c c.wrong:=.cm _ _ _
theorem aK.ae (c:aq) (s:ByteArray):aK c (c.ae s):=by
 unfold aq.ae;split
 ·exact .step _
 ·exact .wrong _
theorem aK.kw (c:aq) (s:ByteArray):aK c (c.kw s):=by
 unfold aq.kw;split
 ·exact .step _
 ·exact .wrong _
theorem aK.ai (c:aq):aK c c.ai:=by
 unfold aq.ai;split
 ·exact .step _
 ·exact .wrong _
theorem aK.bq (c:aq):aK c c.bq:=by
 unfold aq.bq;split
 ·exact .step _
 ·exact .wrong _
structure Sx {α:Type} (c:aq) (x:α × aq) (y:α × RS):Prop where
 sm:Sm x.2 y.2
 bad:c.f.1≠0->x.2=c
 val:x.2.f.1=0->y.1=x.1
 st:aK c x.2
theorem Sx.fine {α:Type} {c:aq} {x:α × aq} {y:α × RS} (h:Sx c x y) (h0:x.2.f.1=0):c.f.1=0:=Classical.byContradiction fun h1=>by
 rw [h.bad h1] at h0;exact h1 h0
theorem bc {c:aq} {s:ByteArray} (h0:(c.ae s).f.1=0):c.f.1=0:=Classical.byContradiction fun h1=>by
 rw [cG h1] at h0;exact h1 h0
theorem Ai:∀ (n:Nat) (l:List Wd) (c:aq) (q:RS),Sm c q->(rLab n l q).1=(pLab n l c).1/\Sm (pLab n l c).2 (rLab n l q).2/\(c.f.1≠0->(pLab n l c).2=c)/\aK c (pLab n l c).2
 | 0,l,c,q,h=>⟨rfl,h,fun _=>rfl,.refl _⟩
 | n + 1,l,c,q,h=>by
  rw [rLab,pLab,h.ai.may,h.aH];split
  ·rename_i hi;have ih:=Ai n (l ++ [c.aH]) _ _ (h.ai.ic (by decide) hi);refine ⟨ih.1,ih.2.1,fun hb=>?_,((aK.ai c).trans (.step _)).trans ih.2.2.2⟩;rw [dN hb,eM hb (by decide)] at hi;cases hi
  ·exact ⟨rfl,h.ai,fun hb=>dN hb,.ai _⟩
theorem iW {c:aq} {q:RS} (h:Sm c q):Sx c (dY c) (tG q):=
 have h1:=Ai bigN [] c q h
 ⟨h1.2.1,h1.2.2.1,fun _=>h1.1,h1.2.2.2⟩
theorem jU {c:aq} {q:RS} (h:Sm c q):Sx c (gK c) (uN q):=
 ⟨(h.ae _).bq.ae _,fun hb=>by
  show ((c.ae aN).bq.ae aX)=c
  rw [cG hb,jT hb,cG hb],fun _=>(h.ae _).fA,((aK.ae c _).trans (.bq _)).trans (.ae _ _)⟩
theorem ek {k n a:Int} {c:aq} (hb:c.f.1≠0):(dV k n a c).2=c:=by rw [dV,eM hb (by decide),af (by simp)]
theorem vY {k n a:Int} {c:aq} {q:RS} (h:Sm c q):Sx c (dV k n a c) (tH k n a q):=by
 refine ⟨?_,ek,?_,?_⟩
 ·unfold dV tH;rw [h.may];split
  ·rename_i hi;exact (iW (h.ic (by decide) hi)).sm
  ·exact h
 ·unfold dV tH;rw [h.may];split
  ·rename_i hi;intro h0;rw [(iW (h.ic (by decide) hi)).val h0]
  ·intro _;rfl
 ·unfold dV;split
  ·rename_i hi;exact (aK.step c).trans (iW (h.ic (by decide) hi)).st
  ·exact .refl _
theorem xJ {c:aq} {k:Int} {s:ByteArray}:c.is k s=true↔c.aA.k=k/\c.aA.s=s:=by
 simp only [aq.is,aZ,decide_eq_true_eq]
theorem oN {c:aq} {e:Int} (he:e≠0):(c.fail e).f.1≠0:=by
 unfold aq.fail aq.cm
 grind
theorem jm {c:aq} (hb:c.f.1≠0):(bI c).2=c:=by
 unfold bI;rw [eM hb (by decide),eM hb (by decide),eM hb (by decide),af (by simp),af (by simp),af (by simp),gw hb,aq.fail,tv hb];split
 ·exact ek hb
 ·exact ek hb
theorem qF {c:aq} {q:RS} (h:Sm c q):Sx c (bI c) (iu q):=by
 by_cases h0:c.f.1=0
 ·have hh:=h.hd h0;by_cases h1:c.aA.k=1
  ·have hi:∀ s,c.is 1 s=true↔c.aA.s=s:=fun s=>⟨fun h=>(xJ.1 h).2,fun h=>xJ.2 ⟨h1,h⟩⟩;have bV:Sm c.step q.on:=h.step h0 (by rw [h1];decide);have hf:c.step.f.1=0:=by rw [aq.step,af (by rw [h1];decide)];exact h0
   rw [iu,aj (by rw [h.f];exact h0),hh,aj h1,bI];have hn:=jU bV
   have key:∀ k,Sx c (dV k (gK c.step).1 c.aA.a (gK c.step).2) (tH k (uN q.on).1 c.aA.a (uN q.on).2):=fun k=>by
    have e:(uN q.on).1=(gK c.step).1:=(bV.ae _).fA;rw [e];have ht:=@vY k (gK c.step).1 c.aA.a _ _ hn.sm;exact ⟨ht.sm,fun hb=>absurd h0 hb,ht.val,(aK.step c).trans (hn.st.trans ht.st)⟩
   by_cases e1:c.aA.s=fK
   ·grind
   rw [af e1,af (fun h=>e1 ((hi _).1 h))];by_cases e2:c.aA.s=gV
   ·grind
   rw [af e2,af (fun h=>e2 ((hi _).1 h))];by_cases e3:c.aA.s=jy
   ·rw [aj e3,aj ((hi _).2 e3)];have ht:=@vY 3 0 c.aA.a _ _ bV;exact ⟨ht.sm,fun hb=>absurd h0 hb,ht.val,(aK.step c).trans ht.st⟩
   ·rw [af e3,af (fun h=>e3 ((hi _).1 h)),aj h1];have DE:=h.fail (e:=9) (by decide) h0;rw [hh] at DE;have TO:(c.fail 9).f.1≠0:=oN (by decide);refine ⟨?_,fun hb=>absurd h0 hb,fun hg=>?_,?_⟩
    rotate_right
    ·rw [ek TO];exact .cm _ _ _
    ·rw [ek TO];exact DE
    ·rw [ek TO] at hg;exact absurd hg TO
  ·have hi:∀ s,¬ (c.is 1 s=true):=fun s hs=>h1 (xJ.1 hs).1;rw [iu,aj (by rw [h.f];exact h0),hh,af h1,bI,af (hi _),af (hi _),af (hi _),af h1];refine ⟨?_,fun hb=>absurd h0 hb,fun hg=>?_,?_⟩
   rotate_right
   ·rw [ek fj];exact .wrong _
   ·rw [ek fj];exact h.wrong
   ·rw [ek fj] at hg;exact absurd hg fj
 ·rw [iu,af (by rw [h.f];exact h0)];exact ⟨by rw [jm h0];exact h,fun hb=>jm hb,fun hg=>by rw [jm h0] at hg;exact absurd hg h0,by rw [jm h0];exact .refl _⟩
theorem Er {x:Ph} {c:aq} {q:RS} (h:Sm c q):Sx c (oY x c) (Ls x q):=by
 unfold oY Ls;rw [h.may];split
 ·rename_i hi;have hl:=iW (h.ic (by decide) hi);exact ⟨hl.sm,fun hb=>absurd (Sm.cZ (by decide) hi) hb,fun h0=>by show ({ x with label:=_ }:Ph)={ x with label:=_ };rw [hl.val h0],(aK.step c).trans hl.st⟩
 ·exact ⟨h,fun _=>rfl,fun _=>rfl,.refl _⟩
theorem Es {x:Ph} {c:aq} {q:RS} (h:Sm c q):Sx c (tI x c) (MZ x q):=by
 unfold tI MZ;rw [h.may];split
 ·rename_i hi;have hl:=h.ic (by decide) hi;exact ⟨hl.bq,fun hb=>absurd (Sm.cZ (by decide) hi) hb,fun h0=>by show ({ x with wide:=_ }:Ph)={ x with wide:=_ };rw [hl.fA],(aK.step c).trans (.bq _)⟩
 ·exact ⟨h,fun _=>rfl,fun _=>rfl,.refl _⟩
theorem Et {x:Ph} {c:aq} {q:RS} (h:Sm c q):Sx c (Ag x c) (PZ x q):=by
 unfold Ag PZ;rw [h.may];split
 ·rename_i hi;have hl:=qF (h.ic (by decide) hi)
  exact ⟨hl.sm,fun hb=>absurd (Sm.cZ (by decide) hi) hb,fun h0=>by
   show ({ x with ck:=_,cn:=_,ca:=_,cl:=_ }:Ph)={ x with ck:=_,cn:=_,ca:=_,cl:=_ }
   rw [hl.val h0],(aK.step c).trans hl.st⟩
 ·exact ⟨h,fun _=>rfl,fun _=>rfl,.refl _⟩
theorem Sx.comp {α β:Type} {c:aq} {x:α × aq} {y:α × RS} (h1:Sx c x y) {f:α->aq->β × aq} {g:α->RS->β × RS} (h2:∀ a,Sx x.2 (f a x.2) (g a y.2)) (h3:∀ a b,x.2.f.1≠0->(g a y.2).2=(g b y.2).2 ):Sx c (f x.1 x.2) (g y.1 y.2) where
 sm:=by
  by_cases h0:x.2.f.1=0
  ·rw [h1.val h0];exact (h2 _).sm
  ·rw [h3 y.1 x.1 h0];exact (h2 _).sm
 bad hb:=by
  have e:=h1.bad hb;have:=(h2 x.1).bad (by rw [e];exact hb);rw [this,e]
 val h0:=by
  have h4:=(h2 x.1).fine h0;rw [h1.val h4];exact (h2 _).val h0
 st:=h1.st.trans (h2 _).st
theorem Eu {x:Ph} {q:RS} (hb:q.2.1≠0):MZ x q=(x,q):=by
 unfold MZ RS.nJ
 grind
theorem Ew {x:Ph} {q:RS} (hb:q.2.1≠0):PZ x q=(x,q):=by
 unfold PZ RS.nJ
 grind
theorem gx {x:Ph} {c:aq} {q:RS} (h:Sm c q):Sx c (bB x c) (lP x q):=by
 have h1:=@Er x c q h
 have h2:=h1.comp (f:=tI) (g:=MZ) (fun a=>Es h1.sm) (fun a b hb=>by
  have hb:(Ls x q).2.2.1≠0:=by rw [h1.sm.f];exact hb
  rw [Eu hb,Eu hb])
 exact h2.comp (f:=Ag) (g:=PZ) (fun a=>Et h2.sm) (fun a b hb=>by
  have hb:(MZ (Ls x q).1 (Ls x q).2).2.2.1≠0:=by rw [h2.sm.f];exact hb
  rw [Ew hb,Ew hb])
theorem CN {x:Ph} {c:aq} (hb:c.f.1≠0):bB x c=(x,c):=by
 have e1:oY x c=(x,c):=by rw [oY,eM hb (by decide),af (by simp)]
 have e2:tI x c=(x,c):=by rw [tI,eM hb (by decide),af (by simp)]
 have e3:Ag x c=(x,c):=by rw [Ag,eM hb (by decide),af (by simp)]
 rw [bB,e1,e2,e3]
theorem oO {β:Type} {f:aq->List β->aq × List β} {g:List β->RS->List β × RS} {D:Nat} (XA:∀ c q l,Sm c q->c.d=D->Sx c ((f c l).2,(f c l).1) (g l q)) (e:ByteArray) :
  ∀ (n:Nat) (l:List β) (c:aq) (q:RS),Sm c q->c.d=D->Sx c ((listF f e n c l).2,(listF f e n c l).1) (rLst g e n l q)
 | 0,l,c,q,h,_=>⟨h,fun _=>rfl,fun _=>rfl,.refl _⟩
 | n + 1,l,c,q,h,hd=>by
  rw [listF,rLst];by_cases h0:c.f.1=0
  ·have hq:q.2.1=0:=by rw [h.f];exact h0
   rw [aj h0,aj hq];have h1:=XA c q l h hd;have h2:=h1.sm;have bV:=h1.st;have hv:=h1.val;simp only at h2 bV hv;rw [h2.may];split
   ·rename_i hi;exact ⟨h2.ic (by decide) hi,fun hb=>absurd h0 hb,fun _=>hv (Sm.cZ (by decide) hi),bV.trans (.step _)⟩
   ·have hn:=h2.ae cB;by_cases h3:(f c l).1.f.1=0
    ·have ih:=oO XA e n (f c l).2 _ _ hn (by rw [(aK.ae _ _).d,bV.d,hd]);rw [hv h3];exact ⟨ih.sm,fun hb=>absurd h0 hb,ih.val,bV.trans ((aK.ae _ _).trans ih.st)⟩
    ·have e1:(f c l).1.ae cB=(f c l).1:=cG h3 _
     have e2:∀ m,listF f e m (f c l).1 (f c l).2=((f c l).1,(f c l).2):=fun m=>by
      cases m with
      | zero=>rfl
      | succ m=>rw [listF,af h3]
     have h4:((g l q).2.ae 4 cB).2.1≠0:=by
      rw [hn.f,e1];exact h3
     have e3:∀ m,(rLst g e m (g l q).1 ((g l q).2.ae 4 cB)).2=(g l q).2.ae 4 cB:=fun m=>by
      cases m with
      | zero=>rfl
      | succ m=>rw [rLst,af h4]
     rw [e1] at hn;show Sx c ((listF f e n ((f c l).1.ae cB) (f c l).2).2,(listF f e n ((f c l).1.ae cB) (f c l).2).1) _;rw [e1,e2];exact ⟨by rw [e3];exact hn,fun hb=>absurd h0 hb,fun hg=>absurd hg h3,bV⟩
  ·have hq:¬ q.2.1=0:=by rw [h.f];exact h0
   rw [af h0,af hq];exact ⟨h,fun _=>rfl,fun hg=>absurd hg h0,.refl _⟩
theorem vZ {e:ByteArray} {n:Nat} {l:List Wd} {c:aq} {q:RS} (h:Sm c q):Sx c ((listF dP e n c l).2,(listF dP e n c l).1) (xH e n l q):=
 oO (D:=c.d) (fun c q l h _=>⟨h.ai,fun hb=>dN hb,fun _=>by show l ++ [q.name]=l ++ [c.aH];rw [h.aH],.ai _⟩) e n l c q h rfl
theorem Sx.of {α:Type} {c c1:aq} {x:α × aq} {y:α × RS} (h:Sx c1 x y) (hb:c.f.1≠0->c1=c) (hs:aK c c1):Sx c x y:=
 ⟨h.sm,fun h1=>by
  have e:=hb h1;rw [e] at h
  exact h.bad h1,h.val,hs.trans h.st⟩
section
variable {K:aq->Ty × aq} {K':RS->Ty × RS} {D:Nat} (hK:∀ c q,Sm c q->c.d=D->Sx c (K c) (K' q))
include hK
theorem CO {c:aq} {q:RS} (h:Sm c q) (hd:c.d=D):Sx c (iV K c) (I0 K' q):=by
 have h1:Sm (c.ai.ae b9) (q.eN.ae 4 b9):=h.ai.ae _;have s1:aK c (c.ai.ae b9):=(aK.ai c).trans (.ae _ _);have hk:=hK _ _ h1 (by rw [s1.d,hd]);have hm:=@gx (iU c.aH false) _ _ hk.sm;have hb:c.f.1≠0->c.ai.ae b9=c:=fun hb=>by rw [dN hb,cG hb]
 refine ⟨?_,fun h2=>?_,fun h0=>?_,s1.trans (hk.st.trans hm.st)⟩
 ·show Sm (bB _ _).2 (lP _ _).2;rw [h.aH];exact hm.sm
 ·show (bB _ _).2=c;have e1:=hb h2;have e2:=hk.bad (by rw [e1];exact h2);rw [e1] at e2;have e3:=hm.bad;rw [e1,e2] at e3;rw [e1,e2];exact e3 h2
 ·show ((lP _ _).1,(K' _).1)=((bB _ _).1,(K _).1);rw [h.aH,hm.val h0,hk.val (hm.fine h0)]
theorem I1 {c:aq} {q:RS} (h:Sm c q) (hd:c.d=D):Sx c (gW K c) (Pf K' q):=by
 unfold gW Pf;rw [h.ai.may,h.aH];split
 ·rename_i hi;have h1:=h.ai.ic (by decide) hi;have s1:aK c c.ai.step:=(aK.ai c).trans (.step _)
  have hf:¬ c.f.1≠0:=fun hb=>by
   rw [dN hb,eM hb (by decide)] at hi;cases hi
  have hk:=hK _ _ h1 (by rw [s1.d,hd]);have h3:=hk.sm.ae aX;have hm:=@gx (iU c.aH false) _ _ h3;refine ⟨hm.sm,fun h2=>absurd h2 hf,fun h0=>?_,s1.trans (hk.st.trans ((aK.ae _ _).trans hm.st))⟩;show ((lP _ _).1,(K' _).1)=((bB _ _).1,(K _).1);rw [hm.val h0,hk.val (bc (hm.fine h0))]
 ·exact ⟨h.ai,fun hb=>dN hb,fun _=>rfl,.ai _⟩
theorem v7 {tag:Bool} {c:aq} {q:RS} (h:Sm c q) (hd:c.d=D):Sx c (cq K tag c) (Em K' tag q):=by
 unfold cq Em;split
 ·exact I1 hK h hd
 ·exact CO hK h hd
theorem tJ {tag:Bool} {c:aq} {q:RS} (h:Sm c q) (hd:c.d=D):Sx c (cd K tag c) (pV K' tag q):=by
 unfold cd pV;have h1:=h.ae bm;rw [h1.may,Bool.and_comm];split
 ·rename_i hi
  have hi:(c.ae bm).is 4 aU=true:=by
   rw [aZ] at hi;exact hi.1
  exact ⟨h1.ic (by decide) hi,fun hb=>absurd hb (fun hb=>hb (bc (Sm.cZ (by decide) hi))),fun _=>rfl,(aK.ae _ _).trans (.step _)⟩
 ·have hl:=oO (f:=jA K tag) (g:=Xz K' tag) (D:=D) (fun c q l h hd=>by
   have hp:=@v7 K K' D hK tag c q h hd
   exact ⟨hp.sm,hp.bad,fun h0=>by
    show l ++ [_]=l ++ [_]
    rw [hp.val h0],hp.st⟩) aU bigN [] _ _ h1 (by rw [(aK.ae _ _).d,hd])
  exact hl.of (fun hb=>cG hb _) (.ae _ _)
theorem v8 {w:ByteArray} {a:Int} {c:aq} {q:RS} (h:Sm c q) (hd:c.d=D) (hb:(bJ K w a c).1=true):Sx c (bJ K w a c).2 (Af K' w a q):=by
 have h1:=h.ae aN;have s1:=aK.ae c aN;have d1:(c.ae aN).d=D:=by rw [s1.d,hd]
 have hk:=hK _ _ h1 d1;have b1:c.f.1≠0->c.ae aN=c:=fun hb=>cG hb _;unfold bJ at hb ⊢;unfold Af;split
 ·exact ⟨h,fun _=>rfl,fun _=>rfl,.refl _⟩
 rename_i e1;rw [af e1] at hb;split
 ·refine ⟨((h1.bq.ae _).bq.ae _),fun hb=>?_,fun _=>?_,s1.trans ((aK.bq _).trans ((aK.ae _ _).trans ((aK.bq _).trans (.ae _ _))))⟩
  ·show (((c.ae aN).bq.ae fX).bq.ae aX)=c;rw [b1 hb,jT hb,cG hb,jT hb,cG hb]
  ·show Ty.mk _ _=Ty.mk _ _;rw [h1.fA,(h1.bq.ae _).fA]
 rename_i e2;rw [af e2] at hb;split
 ·have hn:=jU h;exact ⟨hn.sm,hn.bad,fun h0=>by show Ty.mk _ _=Ty.mk _ _;rw [hn.val h0],hn.st⟩
 rename_i e3;rw [af e3] at hb;split
 ·have hn:=@vZ aX bigN [] _ _ h1
  exact ⟨hn.sm,fun h2=>(hn.of b1 s1).bad h2,fun h0=>by
   show Ty.mk _ _=Ty.mk _ _;have e:=hn.val h0;simp only at e
   rw [e],s1.trans hn.st⟩
 rename_i e4;rw [af e4] at hb;split
 ·have h2:=hk.sm.ae cB;refine ⟨h2.bq.ae _,fun h3=>?_,fun h0=>?_,s1.trans (hk.st.trans ((aK.ae _ _).trans ((aK.bq _).trans (.ae _ _))))⟩
  ·show (((K (c.ae aN)).2.ae cB).bq.ae aX)=c;have e:=(hk.of b1 s1).bad h3;rw [e,cG h3,jT h3,cG h3]
  ·have h3:((K (c.ae aN)).2.ae cB).f.1=0:=Classical.byContradiction fun h3=>by
    have h0:(((K (c.ae aN)).2.ae cB).bq.ae aX).f.1=0:=h0;rw [jT h3,cG h3] at h0;exact h3 h0
   show Ty.mk _ _=Ty.mk _ _;rw [h2.fA,hk.val (bc h3)]
 rename_i e5;rw [af e5] at hb;split
 ·refine ⟨hk.sm.ae _,fun h3=>?_,fun h0=>?_,s1.trans (hk.st.trans (.ae _ _))⟩
  ·show ((K (c.ae aN)).2.ae aX)=c;rw [(hk.of b1 s1).bad h3,cG h3]
  ·show Ty.mk _ _=Ty.mk _ _;rw [hk.val (bc h0)]
 rename_i e6;rw [af e6] at hb;split
 ·have hp:=@tJ K K' D hK false c q h hd;exact ⟨hp.sm,hp.bad,fun h0=>by show Ty.mk _ _=Ty.mk _ _;rw [hp.val h0],hp.st⟩
 rename_i e7;rw [af e7] at hb;split
 ·have hp:=@tJ K K' D hK true c q h hd;exact ⟨hp.sm,hp.bad,fun h0=>by show Ty.mk _ _=Ty.mk _ _;rw [hp.val h0],hp.st⟩
 rename_i e8;rw [af e8] at hb;split
 ·refine ⟨h1.ai.ae _,fun h3=>?_,fun h0=>?_,s1.trans ((aK.ai _).trans (.ae _ _))⟩
  ·show ((c.ae aN).ai.ae aX)=c;rw [b1 h3,dN h3,cG h3]
  ·show Ty.mk _ _=Ty.mk _ _;rw [h1.aH]
 rename_i e9;rw [af e9] at hb;cases hb
theorem tK {w:ByteArray} {a:Int} {c:aq} {q:RS} (hb:(bJ K w a c).1=false):(bJ K w a c).2=(Eo 0 a,c)/\Af K' w a q=(Eo 0 a,(q.1,(9,a))):=by
 unfold bJ at hb ⊢;unfold Af;split at hb
 all_goals grind
end
theorem Sm.deep {c:aq} {q:RS} (h:Sm c q) (hd:c.d < 24):Sm c.deep q:=⟨Ej h.ok hd,h.SD,h.f,h.l⟩
theorem CP (c:aq):c.deep.leave=c:=by
 obtain ⟨l,p,d,f⟩:=c;rfl
theorem Sm.leave {c:aq} {q:RS} (h:Sm c q):Sm c.leave q:=⟨h.ok.leave,h.SD,h.f,h.l⟩
theorem aK.leave {c x:aq} (h:aK c.deep x):aK c x.leave:=⟨h.l,by show x.d - 1=c.d;rw [h.d];rfl,h.p,h.g⟩
theorem iB:∀ (n:Nat) (c:aq) (q:RS),Sm c q->c.d=24 - n->n<=24->Sx c (pKind n c) (rKind n q)
 | 0,c,q,h,hd,_=>by
  rw [pKind,rKind];by_cases h0:c.f.1=0
  ·rw [aj (by rw [h.f];exact h0),h.hd h0];have hf:=h.fail (e:=6) (by decide) h0;rw [h.hd h0] at hf;exact ⟨hf,fun hb=>absurd h0 hb,fun _=>rfl,.cm _ _ _⟩
  ·rw [af (by rw [h.f];exact h0),aq.fail,tv h0];exact ⟨h,fun _=>rfl,fun hg=>absurd hg h0,.refl _⟩
 | n + 1,c,q,h,hd,hn=>by
  have U4:=h.deep (by omega);rw [pKind,rKind];by_cases h0:c.f.1=0
  ·have hq:q.2.1=0:=by rw [h.f];exact h0
   rw [aj hq,h.hd h0];have M1:c.deep.aA=c.aA:=rfl;by_cases h1:c.aA.k=1
   ·have ht:c.deep.tk 1=true:=by
     rw [aq.tk,M1,h1];rfl
    rw [aj ht,aj h1,M1];have hs:=U4.step h0 (by rw [M1,h1];decide);have ih:=fun c q h hd=>iB n c q h hd (by omega)
    have Ka:c.deep.step.d=24 - n:=by
     rw [(aK.step _).d];show c.d + 1=_;omega
    cases hB:(bJ (pKind n) c.aA.s c.aA.a c.deep.step).1 with
    | true=>
     have hb:=v8 ih (w:=c.aA.s) (a:=c.aA.a) hs Ka hB;rw [aj rfl];exact ⟨hb.sm.leave,fun h2=>absurd h0 h2,fun h2=>hb.val h2,((aK.step _).trans hb.st).leave⟩
    | false=>
     obtain ⟨e1,e2⟩:=tK ih (q:=q.on) hB;rw [af (by simp),e1,e2]
     have hf:=hs.cm (e:=9) (a:=c.aA.a) (by decide) (by
      rw [aq.step,af (by rw [M1,h1];decide)]
      exact h0)
     exact ⟨hf.leave,fun h2=>absurd h0 h2,fun _=>rfl,((aK.step _).trans (.cm _ _ _)).leave⟩
   ·have ht:¬ c.deep.tk 1=true:=by
     rw [aq.tk,M1];simp [h1]
    rw [af ht,af h1];exact ⟨U4.wrong.leave,fun h2=>absurd h0 h2,fun _=>rfl,(aK.wrong c.deep).leave⟩
  ·have e1:c.deep.tk 1=false:=tu (c:=c.deep) h0 1;have e2:c.deep.wrong=c.deep:=gw (c:=c.deep) h0;have hq:¬ q.2.1=0:=by rw [h.f];exact h0
   rw [af hq,e1,af (by simp),e2,CP];exact ⟨h,fun _=>rfl,fun hg=>absurd hg h0,.refl _⟩
theorem tL {c:aq} {q:RS} (h:Sm c q) (hd:c.d=0):Sx c (pKind 24 c) (rKind 24 q):=iB 24 c q h hd (bn _)
theorem nK:∀ (n:Nat) (l l':List (Wd × Wd)) (w:Wd) (c:aq) (q:RS),Sm c q->(rChain n (l' ++ l) w q).1=l' ++ (pChain n l w c).1/\Sm (pChain n l w c).2 (rChain n (l' ++ l) w q).2/\(c.f.1≠0->(pChain n l w c).2=c)/\aK c (pChain n l w c).2
 | 0,l,l',w,c,q,h=>⟨rfl,h,fun _=>rfl,.refl _⟩
 | n + 1,l,l',w,c,q,h=>by
  rw [rChain,pChain,h.ai.may,h.aH];split
  ·rename_i hi;have ih:=nK n (l ++ [(w,c.aH)]) l' c.aH _ _ (h.ai.ic (by decide) hi);rw [List.append_assoc];refine ⟨ih.1,ih.2.1,fun hb=>?_,((aK.ai c).trans (.step _)).trans ih.2.2.2⟩;rw [dN hb,eM hb (by decide)] at hi;cases hi
  ·exact ⟨List.append_assoc ..,h.ai,fun hb=>dN hb,.ai _⟩
theorem qG {l:List (Wd × Wd)} {c:aq} {q:RS} (h:Sm c q):Sx c ((jb c l).2,(jb c l).1) (rq l q):=by
 have h1:=nK bigN [] l c.aH _ _ (h.ai.ae dw);rw [List.append_nil,<- h.aH] at h1;rw [h.aH] at h1;unfold rq;rw [h.aH]
 exact ⟨h1.2.1,fun hb=>by
  show (pChain bigN [] c.aH (c.ai.ae dw)).2=c;have e:c.ai.ae dw=c:=by rw [dN hb,cG hb]
  have h2:=h1.2.2.1;rw [e] at h2 ⊢
  exact h2 hb,fun _=>h1.1,((aK.ai c).trans (.ae _ _)).trans h1.2.2.2⟩
theorem nM {c:aq} {q:RS} (h:Sm c q):Sx c (dq c) (CK q):=by
 unfold dq CK;rw [h.may];split
 ·rename_i hi;exact ⟨h.ic (by decide) hi,fun hb=>absurd (Sm.cZ (by decide) hi) hb,fun _=>rfl,.step _⟩
 ·exact oO (f:=jb) (g:=rq) (D:=c.d) (fun c q l h _=>qG h) aU bigN [] c q h rfl
theorem kG:∀ (n:Nat) (l:List (Wd × Ty)) (c:aq) (q:RS),Sm c q->c.d=0->Sx c (pTypes n l c) (rTypes n l q)
 | 0,l,c,q,h,_=>⟨h,fun _=>rfl,fun _=>rfl,.refl _⟩
 | n + 1,l,c,q,h,hd=>by
  rw [pTypes,rTypes,h.M0];split
  ·rename_i hi;have h1:=h.ic (by decide) hi;have h2:=h1.ai.ae lh;have s2:aK c (c.step.ai.ae lh):=(aK.step c).trans ((aK.ai _).trans (.ae _ _));have hk:=tL h2 (by rw [s2.d,hd]);rw [h1.aH];by_cases h0:(pKind 24 (c.step.ai.ae lh)).2.f.1=0
   ·have ih:=kG n (l ++ [(c.step.aH,(pKind 24 (c.step.ai.ae lh)).1)]) _ _ hk.sm (by rw [hk.st.d,s2.d,hd]);rw [hk.val h0];exact ⟨ih.sm,fun hb=>absurd (Sm.cZ (by decide) hi) hb,ih.val,s2.trans (hk.st.trans ih.st)⟩
   ·have e1:∀ m l,pTypes m l (pKind 24 (c.step.ai.ae lh)).2=(l,(pKind 24 (c.step.ai.ae lh)).2):=fun m l=>by
     cases m with
     | zero=>rfl
     | succ m=>rw [pTypes,eM h0 (by decide),af (by simp)]
    have e2:∀ m l,rTypes m l (rKind 24 (q.on.eN.ae 4 lh)).2=(l,(rKind 24 (q.on.eN.ae 4 lh)).2):=fun m l=>by
     cases m with
     | zero=>rfl
     | succ m=>rw [rTypes,hk.sm.M0,eM h0 (by decide),af (by simp)]
    rw [e1,e2];exact ⟨hk.sm,fun hb=>absurd (Sm.cZ (by decide) hi) hb,fun hg=>absurd hg h0,s2.trans hk.st⟩
  ·exact ⟨h,fun _=>rfl,fun _=>rfl,.refl _⟩
theorem tM {c:aq} {q:RS} (h:Sm c q):Sx c (dc c) (CL q):=
 (vZ ((h.kw _).ae _)).of (fun hb=>by rw [xF hb,cG hb]) ((aK.kw _ _).trans (.ae _ _))
theorem Aj {c:aq} {q:RS} (h:Sm c q):Sx c (eh c) (CM q):=by
 unfold eh CM;rw [h.M0];split
 ·rename_i hi;exact (nM ((h.ic (by decide) hi).ae _)).of (fun hb=>absurd (Sm.cZ (by decide) hi) hb) ((aK.step _).trans (.ae _ _))
 ·exact ⟨h,fun _=>rfl,fun _=>rfl,.refl _⟩
theorem I2 {c:aq} {q:RS} (h:Sm c q) (hd:c.d=0):Sx c (F5 c) (Pg q):=
 (tL (h.kw _) (by rw [(aK.kw _ _).d,hd])).of (fun hb=>xF hb _) (.kw _ _)
theorem qH {c:aq} {q:RS} (h:Sm c q) (hd:c.d=0):Sx c (cY c) (Lw q):=by
 have h1:=tM h;have h2:=Aj h1.sm;have h3:Sx _ (jc (eh (dc c).2).2) (Lv (CM (CL q).2).2):=kG bigN [] _ _ h2.sm (by rw [h2.st.d,h1.st.d,hd]);have h4:=I2 h3.sm (by rw [h3.st.d,h2.st.d,h1.st.d,hd]);refine ⟨h4.sm,fun hb=>?_,fun h0=>?_,h1.st.trans (h2.st.trans (h3.st.trans h4.st))⟩
 ·have e1:=h1.bad hb;have b1:(dc c).2.f.1≠0:=by rw [e1];exact hb
  have e2:=h2.bad b1;have b2:(eh (dc c).2).2.f.1≠0:=by rw [e2];exact b1
  have e3:=h3.bad b2;have b3:(jc (eh (dc c).2).2).2.f.1≠0:=by rw [e3];exact b2
  exact (h4.bad b3).trans (e3.trans (e2.trans e1))
 ·have f4:=h4.fine h0;have f3:=h3.fine f4;have f2:=h2.fine f3;show eW.mk _ _ _ _=eW.mk _ _ _ _;rw [h4.val h0,h3.val f4,h2.val f3,h1.val f2]
def M3 (t:dj):Nat:=1024 + 2 * (if t.k=1 then t.s.size else 0)
def muL:List dj->Nat
 | []=>0
 | t :: r=>M3 t + muL r
def dm (c:aq):Nat:=muL (c.l.drop c.p)
theorem rr {c:aq} (h:av c) (h0:c.f.1=0) (hk:c.aA.k≠0):dm c.step + M3 c.aA=dm c:=by
 obtain ⟨t,h1,h2⟩:=h.aA h0;have e:c.step={ c with p:=c.p + 1 }:=by rw [aq.step,af hk]
 rw [e,h2];show muL (c.l.drop (c.p + 1)) + M3 t=muL (c.l.drop c.p);rw [drop_cons h1,muL];omega
theorem gL {c:aq} (h:av c) {k:Int} (hk:k≠0) {s:ByteArray} (hi:c.is k s=true):dm c.step + 1024<=dm c:=by
 have h0:c.f.1=0:=Sm.cZ hk hi;have h1:=rr h h0 (by rw [(xJ.1 hi).1];exact hk);unfold M3 at h1;omega
theorem cI {c:aq} (h:av c) {s:ByteArray} (h0:(c.ae s).f.1=0):dm (c.ae s) + 1024<=dm c:=by
 unfold aq.ae at h0 ⊢;split at h0
 ·rename_i hi;rw [aj hi];exact gL h (by decide) hi
 ·exact absurd h0 fj
theorem M4 {c:aq} (h:av c) {s:ByteArray} (h0:(c.kw s).f.1=0):dm (c.kw s) + 1024<=dm c:=by
 unfold aq.kw at h0 ⊢;split at h0
 ·rename_i hi;rw [aj hi];exact gL h (by decide) hi
 ·exact absurd h0 fj
theorem V3 {c:aq} {k:Int} (h:c.tk k=true):c.aA.k=k:=by
 simp only [aq.tk,aZ,decide_eq_true_eq] at h;exact h.2
theorem fL {c:aq} (h:av c) (h0:c.ai.f.1=0):dm c.ai + 2 * c.aH.wt + 896=dm c:=by
 unfold aq.ai at h0 ⊢;split at h0
 ·rename_i ht;have h1:=rr h (Sm.oM ht) (vX ht);rw [aj ht,aq.aH,aq.td,aj ht];unfold M3 at h1;rw [aj (V3 ht)] at h1;simp only [Wd.wt];omega
 ·exact absurd h0 fj
theorem tN {c:aq} (h:av c) (h0:c.bq.f.1=0):dm c.bq + 1024<=dm c:=by
 unfold aq.bq at h0 ⊢;split at h0
 ·rename_i ht;have h1:=rr h (Sm.oM ht) (vX ht);rw [aj ht];unfold M3 at h1;omega
 ·exact absurd h0 fj
theorem we {c:aq} (h0:c.ai.f.1=0):c.f.1=0:=Classical.byContradiction fun h1=>by
 rw [dN h1] at h0;exact h1 h0
theorem iY {c:aq} (h0:c.bq.f.1=0):c.f.1=0:=Classical.byContradiction fun h1=>by
 rw [jT h1] at h0;exact h1 h0
theorem Ly {c:aq} {s:ByteArray} (h0:(c.kw s).f.1=0):c.f.1=0:=Classical.byContradiction fun h1=>by
 rw [xF h1] at h0;exact h1 h0
theorem av.bq {c:aq} (h:av c):av c.bq:=(Sm.self h).bq.ok
theorem nN (l:List Wd) (w:Wd):wdsWt (l ++ [w])=wdsWt l + w.wt:=by
 induction l with
 | nil=>simp [wdsWt]
 | cons x r ih=>simp only [List.cons_append,wdsWt,ih];omega
theorem tO (l:List (Wd × Wd)) (w:Wd × Wd):prsWt (l ++ [w])=prsWt l + (w.1.wt + w.2.wt):=by
 induction l with
 | nil=>simp [prsWt]
 | cons x r ih=>simp only [List.cons_append,prsWt,ih];omega
theorem CQ (l:List (Wd × Ty)) (w:Wd × Ty):nmsWt (l ++ [w])=nmsWt l + (w.1.wt + w.2.wt):=by
 induction l with
 | nil=>simp [nmsWt]
 | cons x r ih=>simp only [List.cons_append,nmsWt,ih];omega
theorem CR (l:List (Ph × Ty)) (x:Ph × Ty):(mkPts (l ++ [x])).wt=(mkPts l).wt + (x.1.wt + x.2.wt):=by
 induction l with
 | nil=>simp [mkPts,Pts.wt]
 | cons y r ih=>simp only [List.cons_append,mkPts,Pts.wt,ih];omega
theorem Ex:∀ (n:Nat) (l:List Wd) (c:aq),av c->(pLab n l c).2.f.1=0->wdsWt (pLab n l c).1 + dm (pLab n l c).2<=wdsWt l + dm c
 | 0,l,c,h,h0=>bn _
 | n + 1,l,c,h,h0=>by
  rw [pLab] at h0 ⊢;split at h0
  ·rename_i hi;rw [aj hi];have ih:=Ex n _ _ h.ai.step h0;have h1:=gL h.ai (by decide) hi;have h2:=fL h (Sm.cZ (by decide) hi);rw [nN] at ih;omega
  ·rename_i hi;rw [af hi];have h2:=fL h h0;show wdsWt (l ++ [_]) + _<=_;rw [nN];show _ + dm c.ai<=_;omega
theorem wg {c:aq} (h:av c) (h0:(dY c).2.f.1=0):wdsWt (dY c).1 + dm (dY c).2<=dm c:=by
 have:=Ex bigN [] c h h0;simp only [wdsWt] at this;unfold dY;omega
theorem xK {c:aq} (h:av c) (h0:(gK c).2.f.1=0):dm (gK c).2<=dm c:=by
 have h0:(((c.ae aN).bq).ae aX).f.1=0:=h0;have h1:=cI (h.ae aN).bq h0;have h2:=tN (h.ae aN) (bc h0);have h3:=cI h (iY (bc h0));show dm ((c.ae aN).bq.ae aX)<=_;omega
theorem tP {k n a:Int} {c:aq} (h:av c) (h0:(dV k n a c).2.f.1=0):wdsWt (dV k n a c).1.l + dm (dV k n a c).2<=dm c:=by
 unfold dV at h0 ⊢;split at h0
 ·rename_i hi;rw [aj hi];have h1:=wg h.step h0;have h2:=gL h (by decide) hi
  grind
 ·rename_i hi;rw [af hi];show 0 + dm c<=dm c;omega
theorem kH {k n a:Int} {c:aq} (h0:(dV k n a c).2.f.1=0):c.f.1=0:=Classical.byContradiction fun h1=>by
 rw [ek h1] at h0;exact h1 h0
theorem CS {c:aq} (h:av c) (h0:(bI c).2.f.1=0):wdsWt (bI c).1.l + dm (bI c).2<=dm c:=by
 unfold bI at h0 ⊢;split at h0
 ·rename_i hi;rw [aj hi];have h1:=tP (jU (Sm.self h.step)).sm.ok h0;have h2:=xK h.step (kH h0);have h3:=gL h (by decide) hi;omega
 rename_i hi;rw [af hi];split at h0
 ·rename_i hi;rw [aj hi];have h1:=tP (jU (Sm.self h.step)).sm.ok h0;have h2:=xK h.step (kH h0);have h3:=gL h (by decide) hi;omega
 rename_i hi;rw [af hi];split at h0
 ·rename_i hi;rw [aj hi];have h1:=tP h.step h0;have h3:=gL h (by decide) hi;omega
 ·exfalso;split at h0
  ·exact oN (by decide) (kH h0)
  ·exact fj (kH h0)
theorem Pj {x:Ph} {c:aq} (h:av c) (h0:(oY x c).2.f.1=0):(oY x c).1.wt + dm (oY x c).2<=x.wt + dm c:=by
 unfold oY at h0 ⊢;split at h0
 ·rename_i hi;rw [aj hi];have h1:=wg h.step h0;have h2:=gL h (by decide) hi;simp only [Ph.wt];omega
 all_goals grind
theorem Pk {x:Ph} {c:aq} (h:av c) (h0:(tI x c).2.f.1=0):(tI x c).1.wt + dm (tI x c).2<=x.wt + dm c:=by
 unfold tI at h0 ⊢;split at h0
 ·rename_i hi;rw [aj hi];have h1:=tN h.step h0;have h2:=gL h (by decide) hi;simp only [Ph.wt];omega
 all_goals grind
theorem Pm {x:Ph} {c:aq} (h:av c) (h0:(Ag x c).2.f.1=0):(Ag x c).1.wt + dm (Ag x c).2<=x.wt + dm c:=by
 unfold Ag at h0 ⊢;split at h0
 ·rename_i hi;rw [aj hi];have h1:=CS h.step h0;have h2:=gL h (by decide) hi;simp only [Ph.wt];omega
 all_goals grind
theorem wh {x:Ph} {c:aq} (h:av c) (h0:(bB x c).2.f.1=0):(bB x c).1.wt + dm (bB x c).2<=x.wt + dm c:=by
 have s1:=@Er x c _ (Sm.self h);have s2:=@Es (oY x c).1 _ _ (Sm.self s1.sm.ok);have s3:=@Et (tI (oY x c).1 (oY x c).2).1 _ _ (Sm.self s2.sm.ok);have h3:=Pm s2.sm.ok h0;have h2:=Pk s1.sm.ok (s3.fine h0);have h1:=Pj h (s2.fine (s3.fine h0));unfold bB;omega
theorem lQ {x:Ph} {c:aq} (h0:(bB x c).2.f.1=0):c.f.1=0:=Classical.byContradiction fun h1=>by
 rw [CN h1] at h0;exact h1 h0
theorem CT (w:Wd) (b:Bool):(iU w b).wt=256 + w.wt:=rfl
theorem F6:bO.wt=320:=rfl
structure CU (K:aq->Ty × aq) (D:Nat):Prop where
 SE:∃ K':RS->Ty × RS,∀ c q,Sm c q->c.d=D->Sx c (K c) (K' q)
 wt:∀ c,av c->c.d=D->(K c).2.f.1=0->(K c).1.wt + dm (K c).2<=dm c
section
variable {K:aq->Ty × aq} {D:Nat} (hK:CU K D)
include hK
theorem CU.ok {c:aq} (h:av c) (hd:c.d=D):av (K c).2:=by
 obtain ⟨K',h1⟩:=hK.SE;exact (h1 _ _ (Sm.self h) hd).sm.ok
theorem CU.fine {c:aq} (h:av c) (hd:c.d=D) (h0:(K c).2.f.1=0):c.f.1=0:=by
 obtain ⟨K',h1⟩:=hK.SE;exact (h1 _ _ (Sm.self h) hd).fine h0
theorem CU.st {c:aq} (h:av c) (hd:c.d=D):aK c (K c).2:=by
 obtain ⟨K',h1⟩:=hK.SE;exact (h1 _ _ (Sm.self h) hd).st
theorem F7 {c:aq} (h:av c) (hd:c.d=D) (h0:(iV K c).2.f.1=0):(iV K c).1.1.wt + (iV K c).1.2.wt + dm (iV K c).2<=dm c:=by
 have d1:(c.ai.ae b9).d=D:=by rw [(aK.ae _ _).d,(aK.ai _).d,hd]
 have o1:=h.ai.ae b9;have h0:(bB (iU c.aH false) (K (c.ai.ae b9)).2).2.f.1=0:=h0;have h1:=wh (hK.ok o1 d1) h0;have f1:=lQ h0;have h2:=hK.wt _ o1 d1 f1;have f2:=hK.fine o1 d1 f1;have h3:=cI h.ai f2;have h4:=fL h (bc f2);rw [CT] at h1;show (bB _ _).1.wt + (K _).1.wt + dm (bB _ _).2<=_;omega
theorem Lz {c:aq} (h:av c) (hd:c.d=D) (h0:(gW K c).2.f.1=0):(gW K c).1.1.wt + (gW K c).1.2.wt + dm (gW K c).2<=dm c:=by
 unfold gW at h0 ⊢;split at h0
 ·rename_i hi;rw [aj hi];have o1:av c.ai.step:=h.ai.step;have d1:c.ai.step.d=D:=by rw [(aK.step _).d,(aK.ai _).d,hd]
  have h0:(bB (iU c.aH false) ((K c.ai.step).2.ae aX)).2.f.1=0:=h0;have h1:=wh ((hK.ok o1 d1).ae _) h0;have f1:=lQ h0;have h5:=cI (hK.ok o1 d1) f1;have h2:=hK.wt _ o1 d1 (bc f1);have h3:=gL h.ai (by decide) hi;have h4:=fL h (Sm.cZ (by decide) hi);rw [CT] at h1
  grind
 ·rename_i hi;rw [af hi];have h4:=fL h h0;show (iU c.aH true).wt + bO.wt + dm c.ai<=_;rw [CT,F6];omega
theorem I3 {tag:Bool} {c:aq} (h:av c) (hd:c.d=D) (h0:(cq K tag c).2.f.1=0):(cq K tag c).1.1.wt + (cq K tag c).1.2.wt + dm (cq K tag c).2<=dm c:=by
 unfold cq at h0 ⊢;split
 ·rename_i hi;rw [aj hi] at h0;exact Lz hK h hd h0
 ·rename_i hi;rw [af hi] at h0;exact F7 hK h hd h0
theorem iC {tag:Bool} {c:aq} (h:av c) (hd:c.d=D):av (cq K tag c).2/\aK c (cq K tag c).2:=by
 obtain ⟨K',h1⟩:=hK.SE;have h2:=@v7 K K' D h1 tag c _ (Sm.self h) hd;exact ⟨h2.sm.ok,h2.st⟩
end
theorem mg {α:Type} {f:aq->α->aq × α} {e:ByteArray} {c:aq} (hb:c.f.1≠0) (n:Nat) (a:α):listF f e n c a=(c,a):=by
 cases n with
 | zero=>rfl
 | succ m=>rw [listF,af hb]
theorem ru {α:Type} {f:aq->α->aq × α} {W:α->Nat} {D:Nat} (kp:∀ c a,av c->c.d=D->av (f c a).1/\aK c (f c a).1)
  (hf:∀ c a,av c->c.d=D->(f c a).1.f.1=0->W (f c a).2 + dm (f c a).1<=W a + dm c) (e:ByteArray) :
  ∀ (n:Nat) (c:aq) (a:α),av c->c.d=D->(listF f e n c a).1.f.1=0->W (listF f e n c a).2 + dm (listF f e n c a).1<=W a + dm c
 | 0,c,a,_,_,_=>bn _
 | n + 1,c,a,h,hd,h0=>by
  rw [listF] at h0 ⊢;by_cases h1:c.f.1=0
  ·rw [aj h1] at h0 ⊢;have ho:=kp c a h hd;split at h0
   ·rename_i hi;rw [aj hi];have h2:=hf c a h hd (Sm.cZ (by decide) hi);have h3:=gL ho.1 (by decide) hi
    grind
   ·rename_i hi;rw [af hi];by_cases h2:((f c a).1.ae ⟨#[44]⟩).f.1=0
    ·have h3:=cI ho.1 h2;have h4:=hf c a h hd (bc h2);have ih:=ru kp hf e n _ (f c a).2 (ho.1.ae ⟨#[44]⟩) (by rw [(aK.ae _ _).d,ho.2.d,hd]) h0;omega
    ·rw [mg h2] at h0;exact absurd h0 h2
  all_goals grind
theorem Ak {e:ByteArray} {n:Nat} {l:List Wd} {c:aq} (h:av c) (h0:(listF dP e n c l).1.f.1=0):wdsWt (listF dP e n c l).2 + dm (listF dP e n c l).1<=wdsWt l + dm c:=
 ru (W:=wdsWt) (D:=c.d) (fun c a h _=>⟨h.ai,.ai _⟩) (fun c a h _ h0=>by
  have:=fL h h0;show wdsWt (a ++ [c.aH]) + dm c.ai<=_;rw [nN]
  omega) e n c l h rfl h0
section
variable {K:aq->Ty × aq} {D:Nat} (hK:CU K D)
include hK
theorem wi {tag:Bool} {c:aq} (h:av c) (hd:c.d=D) (h0:(cd K tag c).2.f.1=0):(mkPts (cd K tag c).1).wt + dm (cd K tag c).2<=dm c:=by
 unfold cd at h0 ⊢;split at h0
 ·rename_i hi;rw [aj hi];have hi:(c.ae bm).is 4 aU=true:=(aZ _ _ ▸ hi).2;have h1:=gL (h.ae bm) (by decide) hi;have h2:=cI h (Sm.cZ (by decide) hi);show 0 + dm (c.ae bm).step<=_;omega
 ·rename_i hi;rw [af hi]
  have h1:=ru (f:=jA K tag) (W:=fun l=>(mkPts l).wt) (D:=D) (fun c a h hd=>iC hK h hd) (fun c a h hd h0=>by
   have:=I3 hK h hd h0;show (mkPts (a ++ [(cq K tag c).1])).wt + dm (cq K tag c).2<=_;rw [CR]
   omega) aU bigN _ [] (h.ae bm) (by rw [(aK.ae _ _).d,hd]) h0
  have h2:(c.ae bm).f.1=0:=Classical.byContradiction fun hb=>by
   rw [mg hb] at h0;exact hb h0
  have h3:=cI h h2;have e0:(mkPts []).wt=0:=rfl;simp only [e0] at h1;show (mkPts (listF _ _ _ _ _).2).wt + dm (listF _ _ _ _ _).1<=_;omega
theorem I4 {w:ByteArray} {a:Int} {c:aq} (h:av c) (hd:c.d=D) (h0:(bJ K w a c).2.2.f.1=0):(bJ K w a c).2.1.wt + dm (bJ K w a c).2.2<=704 + dm c:=by
 have o1:=h.ae aN;have d1:(c.ae aN).d=D:=by rw [(aK.ae _ _).d,hd]
 have hz:cj.wt=320:=rfl;unfold bJ at h0 ⊢;split
 ·show 320 + dm c<=_;omega
 rename_i e1;rw [af e1] at h0;split
 ·rename_i e2;rw [aj e2] at h0;have h0:((((c.ae aN).bq.ae fX).bq).ae aX).f.1=0:=h0;have h1:=cI ((o1.bq.ae _).bq) h0;have h2:=tN (o1.bq.ae _) (bc h0);have h3:=cI o1.bq (iY (bc h0));have h4:=tN o1 (bc (iY (bc h0)));have h5:=cI h (iY (bc (iY (bc h0))));show 320 + dm ((((c.ae aN).bq.ae fX).bq).ae aX)<=_;omega
 rename_i e2;rw [af e2] at h0;split
 ·rename_i e3;rw [aj e3] at h0;have h1:=xK h h0;show 320 + dm (gK c).2<=_;omega
 rename_i e3;rw [af e3] at h0;split
 ·rename_i e4;rw [aj e4] at h0;have h1:=Ak o1 h0
  have f1:(c.ae aN).f.1=0:=Classical.byContradiction fun hb=>by
   rw [mg hb] at h0;exact hb h0
  have h2:=cI h f1;simp only [wdsWt,Nat.zero_add] at h1;show 256 + wdsWt (listF dP aX bigN (c.ae aN) []).2 + 64 + 0 + dm (listF dP aX bigN (c.ae aN) []).1<=_;omega
 rename_i e4;rw [af e4] at h0;split
 ·rename_i e5;rw [aj e5] at h0;have h0:(((K (c.ae aN)).2.ae cB).bq.ae aX).f.1=0:=h0;have h1:=cI ((hK.ok o1 d1).ae cB).bq h0;have h2:=tN ((hK.ok o1 d1).ae cB) (bc h0);have h3:=cI (hK.ok o1 d1) (iY (bc h0));have f1:=bc (iY (bc h0));have h4:=hK.wt _ o1 d1 f1;have h5:=cI h (hK.fine o1 d1 f1);show 320 + (cj.wt + (K (c.ae aN)).1.wt + 0) + dm (((K (c.ae aN)).2.ae cB).bq.ae aX)<=_;omega
 rename_i e5;rw [af e5] at h0;split
 ·rename_i e6;rw [aj e6] at h0;have h0:((K (c.ae aN)).2.ae aX).f.1=0:=h0;have h3:=cI (hK.ok o1 d1) h0;have f1:=bc h0;have h4:=hK.wt _ o1 d1 f1;have h5:=cI h (hK.fine o1 d1 f1);show 320 + (cj.wt + (K (c.ae aN)).1.wt + 0) + dm ((K (c.ae aN)).2.ae aX)<=_;omega
 rename_i e6;rw [af e6] at h0;split
 ·rename_i e7;rw [aj e7] at h0;have h1:=wi hK h hd h0;show 320 + (mkPts (cd K false c).1).wt + dm (cd K false c).2<=_;omega
 rename_i e7;rw [af e7] at h0;split
 ·rename_i e8;rw [aj e8] at h0;have h1:=wi hK h hd h0;show 320 + (mkPts (cd K true c).1).wt + dm (cd K true c).2<=_;omega
 rename_i e8;rw [af e8] at h0;split
 ·rename_i e9;rw [aj e9] at h0;have h0:((c.ae aN).ai.ae aX).f.1=0:=h0;have h1:=cI o1.ai h0;have h2:=fL o1 (bc h0);have h3:=cI h (we (bc h0));show 256 + 0 + (c.ae aN).aH.wt + 0 + dm ((c.ae aN).ai.ae aX)<=_;omega
 ·show 320 + dm c<=_;omega
end
theorem av.deep {c:aq} (h:av c) (hd:c.d < 24):av c.deep:=Ej h hd
theorem pW:∀ (n:Nat),n<=24->CU (pKind n) (24 - n)
 | 0,_=>⟨⟨rKind 0,fun c q h hd=>iB 0 c q h hd (by omega)⟩,fun c h hd h0=>by
  rw [pKind] at h0
  exact absurd h0 (oN (by decide))⟩
 | n + 1,hn=>⟨⟨rKind (n + 1),fun c q h hd=>iB (n + 1) c q h hd hn⟩,fun c h hd h0=>by
  have ih:=pW n (by omega);rw [pKind] at h0 ⊢;have o1:=h.deep (by omega);split
  ·rename_i ht;rw [aj ht] at h0;have o2:=o1.step
   have d2:c.deep.step.d=24 - n:=by
    rw [(aK.step _).d];show c.d + 1=_;omega
   have m1:=rr o1 (Sm.oM ht) (vX ht);unfold M3 at m1;have m1:dm c.deep.step + (1024 + 2 * if c.deep.aA.k=1 then c.deep.aA.s.size else 0)=dm c:=m1;split
   ·rename_i hB;rw [aj hB] at h0;have hb:=I4 ih (w:=c.deep.aA.s) (a:=c.aA.a) o2 d2 h0;show (bJ (pKind n) c.deep.aA.s c.aA.a c.deep.step).2.1.wt + dm (bJ (pKind n) c.deep.aA.s c.aA.a c.deep.step).2.2<=_;omega
   ·rename_i hB;rw [af hB] at h0;obtain ⟨K',hs⟩:=ih.SE;obtain ⟨e1,_⟩:=tK (K':=K') hs (q:=([],(0,0))) (by simpa using hB:(bJ (pKind n) c.deep.aA.s c.aA.a c.deep.step).1=false);rw [e1] at h0;exfalso;have h0:(c.deep.step.cm 9 c.deep.aA.a).f.1=0:=h0;unfold aq.cm at h0
    grind
  ·rename_i ht;rw [af ht] at h0
   exact absurd h0 (fj (c:=c.deep))⟩
theorem M5:CU (pKind 24) 0:=pW 24 (bn _)
theorem wj:∀ (n:Nat) (l:List (Wd × Wd)) (w:Wd) (c:aq),av c->(pChain n l w c).2.f.1=0->prsWt (pChain n l w c).1 + dm (pChain n l w c).2<=prsWt l + w.wt + dm c
 | 0,l,w,c,h,h0=>by
  show prsWt l + dm c<=_;omega
 | n + 1,l,w,c,h,h0=>by
  rw [pChain] at h0 ⊢;split at h0
  ·rename_i hi;rw [aj hi];have ih:=wj n _ _ _ h.ai.step h0;have h1:=gL h.ai (by decide) hi;have h2:=fL h (Sm.cZ (by decide) hi);rw [tO] at ih;simp only at ih;omega
  ·rename_i hi;rw [af hi];have h2:=fL h h0;show prsWt (l ++ [_]) + dm c.ai<=_;rw [tO];simp only;omega
theorem F8 (a b:List (Wd × Wd)):prsWt (a ++ b)=prsWt a + prsWt b:=by
 induction a with
 | nil=>simp [prsWt]
 | cons x r ih=>simp only [List.cons_append,prsWt,ih];omega
theorem CV {c:aq} (h:av c) (h0:(bX c).2.f.1=0):prsWt (bX c).1 + dm (bX c).2<=dm c:=by
 have h1:=wj bigN [] c.aH _ (h.ai.ae dw) h0;have hs:=nK bigN [] [] c.aH _ _ (Sm.self (h.ai.ae dw))
 have f1:(c.ai.ae dw).f.1=0:=Classical.byContradiction fun hb=>by
  have h0:(pChain bigN [] c.aH (c.ai.ae dw)).2.f.1=0:=h0;rw [hs.2.2.1 hb] at h0;exact hb h0
 have h2:=cI h.ai f1;have h3:=fL h (bc f1);simp only [prsWt] at h1;unfold bX;omega
theorem oP {c:aq} {l:List (Wd × Wd)} (h:av c):av (jb c l).1/\aK c (jb c l).1:=by
 have hs:=@qG l c _ (Sm.self h);exact ⟨hs.sm.ok,hs.st⟩
theorem F9 {c:aq} (h:av c) (h0:(dq c).2.f.1=0):prsWt (dq c).1 + dm (dq c).2<=dm c:=by
 unfold dq at h0 ⊢;split at h0
 ·rename_i hi;rw [aj hi];have:=gL h (by decide) hi;show 0 + dm c.step<=_;omega
 ·rename_i hi;rw [af hi]
  have h1:=ru (f:=jb) (W:=prsWt) (D:=c.d) (fun c a h _=>oP h) (fun c a h _ h0=>by
   have:=CV h h0;show prsWt (a ++ (bX c).1) + dm (bX c).2<=_;rw [F8]
   omega) aU bigN c [] h rfl h0
  simp only [prsWt,Nat.zero_add] at h1;exact h1
theorem wm:∀ (n:Nat) (l:List (Wd × Ty)) (c:aq),av c->c.d=0->(pTypes n l c).2.f.1=0->nmsWt (pTypes n l c).1 + dm (pTypes n l c).2<=nmsWt l + dm c
 | 0,l,c,h,_,h0=>bn _
 | n + 1,l,c,h,hd,h0=>by
  rw [pTypes] at h0 ⊢;split at h0
  ·rename_i hi;rw [aj hi];have o1:=h.step.ai.ae lh;have d1:(c.step.ai.ae lh).d=0:=by rw [(aK.ae _ _).d,(aK.ai _).d,(aK.step _).d,hd]
   have o2:=M5.ok o1 d1;have d2:(pKind 24 (c.step.ai.ae lh)).2.d=0:=by rw [(M5.st o1 d1).d,d1]
   have ih:=wm n _ _ o2 d2 h0;have f2:=(kG n (l ++ [(c.step.aH,(pKind 24 (c.step.ai.ae lh)).1)]) _ _ (Sm.self o2) d2).fine h0;have h1:=M5.wt _ o1 d1 f2;have f1:=M5.fine o1 d1 f2;have h2:=cI h.step.ai f1;have h3:=fL h.step (bc f1);have h4:=gL h (by decide) hi;rw [CQ] at ih;simp only at ih;omega
  all_goals grind
theorem CW {c:aq} (h:av c) (hd:c.d=0) (h0:(cY c).2.f.1=0):(cY c).1.wt<=dm c:=by
 have s1:=tM (Sm.self h);have o1:=s1.sm.ok;have s2:=Aj (Sm.self o1);have o2:=s2.sm.ok;have d2:(eh (dc c).2).2.d=0:=by rw [s2.st.d,s1.st.d,hd]
 have s3:Sx _ (jc (eh (dc c).2).2) _:=kG bigN [] _ _ (Sm.self o2) d2;have o3:=s3.sm.ok;have d3:(jc (eh (dc c).2).2).2.d=0:=by rw [s3.st.d,d2]
 have h0:(pKind 24 ((jc (eh (dc c).2).2).2.kw ez)).2.f.1=0:=h0;have o4:=o3.kw ez;have d4:((jc (eh (dc c).2).2).2.kw ez).d=0:=by rw [(aK.kw _ _).d,d3]
 have w4:=M5.wt _ o4 d4 h0;have f4:=M5.fine o4 d4 h0;have m4:=M4 o3 f4;have f3:=Ly f4;have w3:nmsWt (jc (eh (dc c).2).2).1 + dm (jc (eh (dc c).2).2).2<=nmsWt [] + dm (eh (dc c).2).2:=wm bigN [] _ o2 d2 f3;have f2:=s3.fine f3;have f1:=s2.fine f2
 have w2:prsWt (eh (dc c).2).1 + dm (eh (dc c).2).2<=dm (dc c).2:=by
  have f2:=f2;unfold eh at f2 ⊢;split at f2
  ·rename_i hi;rw [aj hi];have h1:=F9 (o1.step.ae bm) f2;have hf:=(nM (Sm.self (o1.step.ae bm))).fine f2;have h2:=cI o1.step hf;have h3:=gL o1 (by decide) hi;omega
  ·rename_i hi;rw [af hi];show 0 + dm (dc c).2<=dm (dc c).2;omega
 have w1:wdsWt (dc c).1 + dm (dc c).2<=dm c:=by
  have f1:(listF dP aU bigN ((c.kw cA).ae bm) []).1.f.1=0:=f1;have h1:=Ak ((h.kw cA).ae bm) f1
  have f0:((c.kw cA).ae bm).f.1=0:=Classical.byContradiction fun hb=>by
   rw [mg hb] at f1;exact hb f1
  have h2:=cI (h.kw cA) f0;have h3:=M4 h (bc f0);simp only [wdsWt,Nat.zero_add] at h1;show wdsWt (listF dP aU bigN ((c.kw cA).ae bm) []).2 + dm (listF dP aU bigN ((c.kw cA).ae bm) []).1<=_;omega
 have e3:nmsWt []=0:=rfl;show wdsWt (dc c).1 + prsWt (eh (dc c).2).1 + nmsWt (jc (eh (dc c).2).2).1 + (pKind 24 ((jc (eh (dc c).2).2).2.kw ez)).1.wt<=_;omega
end Go.Proofs.YtfdedoiiahbnnaaGreat
namespace Go.Proofs.YtfdedoiiahbnnaaGreat
namespace Dv
open Go Go.RowKit
inductive kO
 | fin
 | op (i:Nat) (t:kO)
 | ev (i:Nat) (t alt:kO)
 | stop
section
variable {P:Program} {ops:Array Oper} {C:World->Prop} {Q:Act->World->Prop} {W:Nat->Bool}
def rdy (ops:Array Oper) (rem:List Nat) (i:Nat):Bool:=
 match ops[i]? with
 | some o=>o.after.toList.all fun e=>!Region.binds .any e || !rem.contains e.on
 | none=>false
def LA (ops:Array Oper) (i:Nat):Bool:=match ops[i]? with | some o=>isE o.op | none=>false
def chkA (ops:Array Oper):kO->List Nat->Option (List Nat)->Bool
 | .fin,rem,m=>m.isNone && rem.isEmpty
 | .op i t,rem,m=>m.isNone && (rem.contains i && (!LA ops i && (rdy ops rem i && chkA ops t (rem.erase i) none)))
 | .ev i t alt,rem,m=>rem.contains i && (LA ops i && (rdy ops rem i && (chkA ops t (rem.erase i) none && chkA ops alt rem (some (i :: m.getD [])))))
 | .stop,rem,m=>match m with
  | some seen=>rem.all fun j=>!rdy ops rem j || seen.contains j
  | none=>false
def Cl (ops:Array Oper) (rem:List Nat):Prop:=∀ (k:Nat) o,ops[k]? = some o->k ∉ rem->∀ e∈o.after,Region.binds .any e=true->e.on ∉ rem
theorem jV {rem:List Nat} {i:Nat} (h:rdy ops rem i=true):∃ o,ops[i]? = some o/\∀ e∈o.after,Region.binds .any e=true->e.on ∉ rem:=by grind [rdy]
theorem mh {rem:List Nat} {i j:Nat} (h:rdy ops rem i=true):rdy ops (rem.erase j) i=true:=by grind [jV,rdy]
theorem tQ {rem:List Nat} (hn:rem.Nodup) (hc:Cl ops rem) {i:Nat} (h:rdy ops rem i=true):Cl ops (rem.erase i):=by
 intro k o ho hk e he hb hm;have lf:=List.mem_of_mem_erase hm;by_cases xZ:k=i
 ·grind [jV]
 ·exact hc k o ho (fun hkm=>hk ((List.mem_erase_of_ne xZ).2 hkm)) e he hb lf
theorem I5 {rem:List Nat} (hc:Cl ops rem):∀ (n:Nat) (j k:Nat) o,ops[k]? = some o->(∀ e∈o.after,Region.binds .any e=true->e.on ∉ rem)->ordB ops n j k=true->j ∉ rem
 | 0,j,k,o,_,_,h=>by simp [ordB] at h
 | n + 1,j,k,o,ho,kk,h=>by
  simp only [ordB,ho,List.any_eq_true,aZ,Bool.or_eq_true] at h;obtain ⟨e,he,hb,hj⟩:=h;have N4:e∈o.after:=sU he;have h1:=kk e N4 hb;rcases hj with hj | hj
  ·have:e.on=j:=sU hj;rw [<- this];exact h1
  ·cases N5:ops[e.on]? with
   | none=>
    cases n with
    | zero=>simp [ordB] at hj
    | succ n=>simp [ordB,N5] at hj
   | some o'=>exact I5 hc n j e.on o' N5 (hc e.on o' N5 h1) hj
theorem I6 {i:Nat} {o:Oper} (h:ops[i]? = some o):LA ops i=isE o.op:=by unfold LA;rw [h]
end
def SF (ops:Array Oper):Bool:=Region.noSelect ops && (List.range ops.size).all fun i=>match ops[i]? with | some o=>o.after.toList.all fun e=>!Region.binds .any e || Nat.blt e.on ops.size | none=>true
section
variable {X:Ctx} {D:Dw}
end
end Dv
end Go.Proofs.YtfdedoiiahbnnaaGreat
namespace Go.Proofs.YtfdedoiiahbnnaaGreat
namespace Dv
open Go Go.RowKit
section
variable {X:Ctx} {st:St} {k:List It} {o:Oper}
theorem I7:∀ l:List Value,(vL l).length=l.length
 | []=>rfl
 | v :: r=>by simp [vL,I7 r]
theorem I8 {E:En}:∀ l:List Value,(∀ v∈l,v.oneCell'=true)->RvL E (vL l) l
 | [],_=>cy E
 | v :: r,h=>rvL_cons (eo (h v (by simp))) (I8 r fun x hx=>h x (eB _ hx))
theorem I9 {t d et e j6 n:Nat} {bb:Bool} {z:List Value} (zs:List Value) (hop:o.op = .buildSlice t 1 #[(0,.const (.agg zs.toArray))]) (sf:o.dst=some d) (hT:X.T.find t=some ⟨n,bb,.sl et e j6,z⟩) (hz1:zs.all (fun v=>v.oneCell')=true)
  (hc:(Nat.beq zs.length e && (Nat.blt 0 e && Nat.ble e 16777216))=true) (hd:eZ X.nt st.sl (some d)=true) (bV:X.still=false:=by exact rfl) (hX:X.bt=[]:=by exact rfl)
  : WS X o st ⟨(d,⟨[],.sl e [vL zs] (some st.tk.length)⟩) :: st.sl,st.bx,st.tk ++ [⟨1,et,e,none⟩]⟩:=by
 simp only [aZ,Nat.beq_eq,Nat.ble_eq,Nat.blt_eq] at hc;obtain ⟨XB,yw,Up⟩:=hc;obtain ⟨hu,ii,zv,xe,hz,dp,uG,GY⟩:=fk X.hT hT;have hz1:∀ v∈zs,v.oneCell'=true:=fun v hv=>List.all_eq_true.1 hz1 v hv;have hvL:(vL zs).length=zs.length:=I7 zs;obtain ⟨len,Ey⟩:∃ len,len=1:=⟨1,rfl⟩;obtain ⟨es,Ja⟩:∃ es,es=[vL zs]:=⟨_,rfl⟩;obtain ⟨vs,LB⟩:∃ vs,vs=[Value.agg zs.toArray]:=⟨_,rfl⟩;rw [<- Ey,<- Ja];rw [<- Ey] at hop;have pk:0 < len:=by omega
 have hlen:es.length=len:=by rw [Ja,Ey];all_goals rfl
 have uZ:vs.length=es.length:=by rw [LB,Ja];all_goals rfl
 have fB:∀ v∈vs,v.cells.toList.length=e:=by
  rw [LB];intro v hv;simp only [List.mem_singleton] at hv;subst hv;simpa [Value.cells] using XB
 have GP:cellsL vs=zs:=by rw [LB];simp [cellsL,Value.cells]
 intro E a w h
 have NJ:RvC E.cl es.flatten (cellsL vs):=by
  rw [Ja,GP];refine ⟨?_,hz1⟩;simp only [List.flatten_cons,List.flatten_nil,List.append_nil];exact I8 zs hz1
 have Ha:∀ cs∈es,cs.length=e:=by
  rw [Ja];intro cs cr;simp only [List.mem_singleton] at cr;subst cr;rw [hvL];exact XB
 have Up:len * e<=16777216:=by rw [Ey];omega
 subst dp
 have EY:len * ii.size≠0:=by
  have:=Nat.mul_pos pk yw;omega
 have jG:Instr.fill (fun i=>some (i * ii.size,ii.size)) ((Array.range (len * ii.size)).map (zv.cells[·% zv.cells.size]!)) ((#[(0,Operand.const (Value.agg zs.toArray))]:Array (Nat × Operand)).map fun (i,x)=>(i,a.eval x)).toList=some (cellsL vs).toArray:=by
  have h0:=nV ii.size vs 0 ((Array.range (len * ii.size)).map (zv.cells[·% zv.cells.size]!)).toList fB (by simp [uZ,hlen])
  have h1:((#[(0,Operand.const (Value.agg zs.toArray))]:Array (Nat × Operand)).map fun (i,x)=>(i,a.eval x)).toList=enumF 0 vs:=by
   rw [LB];simp only [List.map_toArray,List.map_cons,List.map_nil];rfl
  rw [h1];simp only [Array.toArray_toList] at h0;rw [h0];simp [uZ,hlen]
 have cf:(execOp a.eval o).run X.P w = .ok (.value (.slice (some ⟨w.heap.size,0,none⟩) len len)) (w.alloc (.cells (cellsL vs).toArray et)):=by
  simp only [execOp,hop,Sem.run_bind,run_buildSlice w t et len _ _ ii zv hu xe hz (by omega) EY jG,Result.andThen_ok,Sem.run_pure]
 refine ed cf ?_;rw [sf];have hr:=pf (arr:=cellsL vs) h bV et
 have zM:(cellsL vs).length=len * ii.size:=by
  have:∀ l:List Value,(∀ v∈l,v.cells.toList.length=ii.size)->(cellsL l).length=l.length * ii.size:=by
   intro l
   induction l with
   | nil=>intro _;simp [cellsL]
   | cons v l ih=>grind [cellsL]
  rw [this vs fB,uZ,hlen]
 have la:=Ec (n:=len) (ty:=et) (e:=ii.size) (cap:=len) hr bV hX (g:=w.heap.size) (cur:=(cellsL vs).toArray) (fY w _) (by simp [zM]) (bn _) (by
   have:len<=len * ii.size:=Nat.le_mul_of_pos_right _ yw;unfold maxLen;omega) (fun hm=>by have:=h.env.bu hm;omega) (fun x v hx Bu=>by
   have hx:eb E.c (w.alloc (.cells (cellsL vs).toArray et)) w.heap.size (cellsL vs).length x=some v:=hx;unfold eb at hx;split at hx
   ·rename_i hc;rw [<- zM];exact hc.2.2
   ·have:=World.block_lt_of_cell? w x (h.env.sub x v hx);omega) (fun j y hy hg=>by
   have:=(h.env.own (mG hy) hg).1
   omega) (h.fr.size)
 have SG:Ext E ⟨eb E.c (w.alloc (.cells (cellsL vs).toArray et)) w.heap.size (cellsL vs).length,E.β,E.tk ++ [⟨len,et,ii.size,none⟩],E.τ ++ [.slice (some ⟨w.heap.size,0,none⟩) len len]⟩:=⟨fun x v hx=>by
  have aS:=World.block_lt_of_cell? w x (h.env.sub x v hx);show eb _ _ _ _ _=_;unfold eb;rw [af (by omega)];exact hx,fun _ _ h=>h,fun k q' hk=>by
  have aS:=(gS hk).1;refine ⟨q',by show (E.tk ++ _)[k]? = _;rw [eT aS];exact hk,.inl ⟨rfl,?_⟩⟩;show (E.τ ++ _)[k]? = _
  rw [eT (by rw [h.env.tl];exact aS)]⟩
 refine ⟨_,bF la hd (.sl ii.size es (some st.tk.length)) _ ?_,SG,⟨[],by simp⟩,fun i b hb _=>alloc_old w _ (h.env.bu (mG hb))⟩;unfold Rv;refine ⟨_,_,_,rfl,⟨hlen.symm,bn _⟩,fun bM=>⟨rfl,?_⟩,fun k' gD=>?_⟩
 ·have lk:∀ x v,E.c x=some v->eb E.c (w.alloc (.cells (cellsL vs).toArray et)) w.heap.size (cellsL vs).length x=some v:=fun x v hx=>by
   have aS:=World.block_lt_of_cell? w x (h.env.sub x v hx);unfold eb;rw [af (by omega)];exact hx
  have hm:RvC (En.cl ⟨eb E.c (w.alloc (.cells (cellsL vs).toArray et)) w.heap.size (cellsL vs).length,E.β,E.tk,E.τ⟩) es.flatten (cellsL vs):=NJ.mono (Ext.J5 (E:=E) lk);refine rvEs_flat hm Ha fun j u hj=>?_;show eb _ _ _ _ _=_;have jf:=(gS hj).1;simp only [ab,ao,Nat.zero_add];rw [ra jf,cJ (fY w _)];simpa using hj
 ·cases gD;refine ⟨⟨len,et,ii.size,none⟩,?_,bn _,fun _=>?_⟩
  ·show (E.tk ++ _)[st.tk.length]? = _;rw [h.tk];simp
  ·show (E.τ ++ _)[st.tk.length]? = _;rw [<- h.tk,<- h.env.tl];simp
end
section
variable {X:Ctx}
end
end Dv
end Go.Proofs.YtfdedoiiahbnnaaGreat
namespace Go.Proofs.YtfdedoiiahbnnaaGreat
namespace Dv
open Go Go.RowKit
mutual
def sbD (n:Nat):DV->DV
 | .agg l=>.agg (sbL n l)
 | .cp l=>.cp (sbL n l)
 | .loc i o=>.loc (n + i) o
 | .el i o=>.el (n + i) o
 | .ms i e o l c=>.ms (n + i) e o l c
 | .fn f a b=>.fn f (sbL n a) (sbL n b)
 | .nR t x=>.nR t (sbD n x)
 | .sl e es tk=>.sl e es (match tk with | some _=>none | none=>none)
 | .v x=>.v x
 | .ud=>.ud
 | .pt cs o=>.pt cs o
def sbL (n:Nat):List DV->List DV
 | []=>[]
 | d :: r=>sbD n d :: sbL n r
end
mutual
theorem pX {n:Nat} {E2 E:En} (hc:E.c=E2.c) (hβ:∀ (i:Nat) b,E2.β[i]? = some b->E.β[n + i]? = some b):∀ {d:DV} {v:Value},Rv E2 d v->Rv E (sbD n d) v
 | .v x,v,h=>by simpa only [Rv,sbD] using h
 | .ud,v,h=>by simpa only [Rv,sbD] using h
 | .agg l,v,h=>by
  simp only [Rv,sbD] at h ⊢;obtain ⟨vs,h1,h2,h3⟩:=h;exact ⟨vs,h1,jW hc hβ h2,h3⟩
 | .cp l,v,h=>by
  simp only [Rv,sbD] at h ⊢;obtain ⟨vs,h1,h2⟩:=h;exact ⟨vs,h1,jW hc hβ h2⟩
 | .sl e es tk,v,h=>by
  have he:E.cl=E2.cl:=by simp [En.cl,hc]
  simp only [Rv,sbD] at h ⊢;obtain ⟨b,m,cap,h1,h2,h3,h4⟩:=h;refine ⟨b,m,cap,h1,h2,fun hn=>⟨(h3 hn).1,by rw [he];exact (h3 hn).2⟩,?_⟩;intro k hk;cases tk<;>cases hk
 | .pt cs off,v,h=>by
  have he:E.cl=E2.cl:=by simp [En.cl,hc]
  simp only [Rv,sbD] at h ⊢;rw [he];exact h
 | .loc i off,v,h=>by
  simp only [Rv,sbD] at h ⊢;obtain ⟨b,h1,h2⟩:=h;exact ⟨b,hβ i b h1,h2⟩
 | .el i off,v,h=>by
  simp only [Rv,sbD] at h ⊢;obtain ⟨b,h1,h2⟩:=h;exact ⟨b,hβ i b h1,h2⟩
 | .ms i e off len cap,v,h=>by
  simp only [Rv,sbD] at h ⊢;obtain ⟨b,a,h1,h2⟩:=h;exact ⟨b,a,hβ i b h1,h2⟩
 | .fn f a b,v,h=>by
  simp only [Rv,sbD] at h ⊢;obtain ⟨l,r,h1,h2,h3⟩:=h;exact ⟨l,r,h1,jW hc hβ h2,jW hc hβ h3⟩
 | .nR t x,v,h=>by
  simp only [Rv,sbD] at h ⊢;obtain ⟨z,h1,h2⟩:=h;exact ⟨z,h1,pX hc hβ h2⟩
theorem jW {n:Nat} {E2 E:En} (hc:E.c=E2.c) (hβ:∀ (i:Nat) b,E2.β[i]? = some b->E.β[n + i]? = some b):∀ {l:List DV} {vs:List Value},RvL E2 l vs->RvL E (sbL n l) vs
 | [],vs,h=>by simpa only [RvL,sbL] using h
 | d :: r,vs,h=>by
  simp only [RvL,sbL] at h ⊢;obtain ⟨v,s,h1,h2,h3⟩:=h;exact ⟨v,s,h1,pX hc hβ h2,jW hc hβ h3⟩
end
def XC (P:Program) (f:FuncId) (args:List DV) (Φ:DV->List (List DV)->Prop):Prop:=
 ∀ (E:En) (w:World) (vs:List Value),Env E [] w->E.tk=[]->RvL E args vs->Calls P f vs.toArray w fun e w'=>∃ v,e = .returned v/\nW E.S w w' /\
  ∃ d os E',Env E' os w' /\ E'.tk=[]/\Nw E E' w/\(∀ cs∈os,clB.clL 0 0 cs=true)/\Rv E' d v/\Φ d os
section
variable {X:Ctx} {st:St} {k:List It} {E:En} {a:Act} {w:World}
theorem CY (h:Rel X E st a w) (bV:X.still=false) {E2:En} {os:List (List DV)} {w':World} (hm:nW (E.cl).S w w') (he:Env E2 os w') (hn:Nw E.cl E2 w) (fB:∀ cs∈os,clB.clL 0 0 cs=true) (hbt:X.bt=[]) :
  Rel X ⟨E2.c,E.β ++ E2.β,E.tk,E.τ⟩ ⟨st.sl,st.bx ++ os,st.tk⟩ a w' /\ Ext E ⟨E2.c,E.β ++ E2.β,E.tk,E.τ⟩:=by
 have hh:∀ i,i < w.heap.size->w'.heap[i]? = w.heap[i]?:=fun i hi=>hm.block i hi (by
  rintro (h1 | ⟨y,h1,_⟩)
  ·simp [En.cl] at h1
  ·simp [En.cl] at h1)
 have dn:∀ x v,E2.c x=some v->E.c x=some v∨w.heap.size<=x.block:=fun x v hx=>by
  rcases hn.cn x v hx with h1 | h1 | ⟨y,h1,_⟩
  ·exact .inl h1
  ·exact .inr h1
  ·simp [En.cl] at h1
 have jr:∀ b∈E2.β,w.heap.size<=b:=by
  obtain ⟨r,hr,la⟩:=hn.β;simp only [En.cl,List.nil_append] at hr;rw [hr];exact la
 have hx:Ext E ⟨E2.c,E.β ++ E2.β,E.tk,E.τ⟩:=⟨hn.c,fun i b hb=>by
  show (E.β ++ E2.β)[i]? = _;rw [eT (gS hb).1]
  exact hb,fun _ q h=>⟨q,h,.inl ⟨rfl,rfl⟩⟩⟩
 have hk:=h.env.jo hh;refine ⟨dt h hx ?_ h.tk ?_ (h.fr.ct hm.os hm.tape hm.output hm.size fun i hi=>.inr (hh i hi)) (my bV) (.nil hbt),hx⟩
 ·exact {
   len:=by
    show (E.β ++ E2.β).length=(st.bx ++ os).length;rw [List.length_append,List.length_append,h.env.len,he.len]
   tl:=h.env.tl
   dQ:=fun i cs hi=>by
    rw [List.getElem?_append] at hi;split at hi
    ·obtain ⟨b,ty,arr,hb,hw,hc⟩:=hk.dQ i cs hi;exact ⟨b,ty,arr,hx.β i b hb,hw,hc.mono hx⟩
    ·rename_i hge;obtain ⟨b,ty,arr,hb,hw,hc⟩:=he.dQ _ cs hi;refine ⟨b,ty,arr,?_,hw,⟨RvL.mono (E:=E2.cut 0 0) ⟨fun _ _ h=>h,fun i b hb=>by simp [En.cut] at hb,fun k q hq=>by simp [En.cut] at hq⟩ (RvL.cut hc.1 (fB cs (mG hi))),hc.2⟩⟩;show (E.β ++ E2.β)[i]? = _;rw [List.getElem?_append_right (by rw [h.env.len];omega),h.env.len];exact hb
   inj:=by
    show (E.β ++ E2.β).Nodup;rw [List.nodup_append];refine ⟨h.env.inj,he.inj,fun x hx1 y A9 hxy=>?_⟩;have:=h.env.bu hx1;have:=jr y A9;omega
   sub:=he.sub
   pc:=fun x v hc lf=>by
    rcases List.mem_append.1 lf with lf | lf
    ·rcases dn x v hc with h1 | h1
     ·exact h.env.pc x v h1 lf
     ·have:=h.env.bu lf;omega
    ·exact he.pc x v hc lf
   cN:=fun k q y hq hy=>by
    rcases hk.cN k q y hq hy with h1 | ⟨g',cap,cur,rfl,h1,h2,h3,h4,h5,h6⟩
    ·exact .inl h1
    ·have hg:=(gg (h.env.cN k q _ hq hy) (g:=g') rfl).1;refine .inr ⟨g',cap,cur,rfl,h1,⟨h2.1,h2.2.mono hn.c⟩,h3,h4,fun lf=>?_,fun x v hc wY=>?_⟩
     ·rcases List.mem_append.1 lf with lf | lf
      ·exact h5 lf
      ·have:=jr g' lf;omega
     ·rcases dn x v hc with h7 | h7
      ·exact h6 x v h7 wY
      ·omega
   gC:=h.env.gC }
 ·exact {
   c:=fun x v hc=>hn.c x v (h.nw.c x v hc)
   cn:=fun x v hc=>by
    rcases dn x v hc with h1 | h1
    ·exact h.nw.cn x v h1
    ·have:=h.fr.size;exact .inr (.inl (by omega))
   β:=by
    obtain ⟨r,hr,la⟩:=h.nw.β;refine ⟨r ++ E2.β,by show E.β ++ E2.β=_;rw [hr,List.append_assoc],fun b hb=>?_⟩;rcases List.mem_append.1 hb with hb | hb
    ·exact la b hb
    ·exact Nat.le_trans h.fr.size (jr b hb)
   tk:=h.nw.tk
   tn:=h.nw.tn
   l0:=h.nw.l0 }
theorem Pn {f:FuncId} {args bE:List DV} {d:Nat} (fN:Enters X.P f) (hd:eZ X.nt st.sl (some d)=true) {Φ:DV->List (List DV)->Prop} (hc:XC X.P f bE Φ) (ha:CcL [] 0 0 0 bE args)
  (hk:∀ r os,Φ r os->go X 4000 k ⟨(d,⟨[],sbD st.bx.length r⟩) :: st.sl,st.bx ++ os,st.tk⟩) (hbt:X.bt=[]:=by exact rfl) (bV:X.still=false:=by exact rfl):CallG X f args (some d) k st:=by
 refine ⟨fN,bV,fun E a w vs h hv=>?_⟩;have Nr:RvL E.cl bE vs:=CcL.sound (E:=E) (E':=E.cl) ⟨fun _ _ h=>h,fun i cs _ hi=>by simp at hi⟩ (DD.zero _ _) ha hv;refine (hc E.cl w vs (BG h.env) rfl Nr).mono ?_;rintro e w' ⟨v,rfl,hm,r,os,E2,he,_,hn,fB,hr,hΦ⟩;obtain ⟨cO,hx⟩:=CY h bV hm he hn fB hbt;refine go_sound 4000 _ _ (hk r os hΦ) _ _ w' (bF cO hd _ v (pX (E2:=E2) (E:=⟨E2.c,E.β ++ E2.β,E.tk,E.τ⟩) (n:=st.bx.length) rfl (fun i b hb=>?_) hr));show (E.β ++ E2.β)[_]? = _;rw [List.getElem?_append_right (by rw [h.env.len];omega),h.env.len];simpa using hb
theorem Ga {c:Code} {Q:Exit->Act->World->Prop} (J:St->Prop) (n:Nat) (h:Rel X E st a w) (hg:go X n [.code c,.JM J] st) (hΦ:∀ d os tk,¬ X.Φ d os tk) (hp:∀ st' E' a' w',Rel X E' st' a' w' -> J st' -> Q .normal a' w'):c.wp X.P Q a w:=by
 refine wp_mono (go_sound n _ _ hg E a w h) ?_;intro e a w hk
 cases e with
 | normal=>obtain ⟨st',E',h1,h2⟩:=hk;exact hp _ _ _ _ h1 h2
 | ret=>obtain ⟨_,v,_,⟨_,_,d,os,E2,_,_,_,_,_,h⟩,_⟩:=hk;exact (hΦ _ _ _ h).elim
 | exit _=>exact hk.elim
 | goto _=>exact hk.elim
 | panic _=>exact hk.elim
 | outgrown=>exact hk.elim
theorem LC (h:Rel X E st a w) {d e:DV} (hr:resD X.T st X.rs=some [d,e]) {post:Ending->World->Prop} (hp:∀ v,Rv E (.cp [d,e]) v->post (.returned v) w):bodyPost X.P X.fn post .ret a w:=by
 have ya:X.fn.results=X.rs.toArray:=by rw [<- X.qb]
 obtain ⟨vs,qR,h1⟩:=iI h hr;have hl:=qR.length;have bM:¬ vs.toArray.size=1:=by simp at hl ⊢;omega
 have h2:(results X.fn a.tmps).run X.P w = .ok (if h:vs.toArray.size=1 then vs.toArray[0] else .tuple vs.toArray) w:=by
  rw [rS,ya]
  simp_all
 rw [dif_neg bM] at h2;exact ⟨h.df,_,h2,hp _ (by unfold Rv;exact ⟨vs,rfl,qR⟩)⟩
theorem Jb {bx:List (List DV)} (h:Env E bx w) {i b:Nat} {cs:List DV} (hi:bx[i]? = some cs) (hb:E.β[i]? = some b) (fB:clB.clL 0 0 cs=true):Env ⟨E.c,[b],[],[]⟩ [cs] w where
 len:=rfl
 tl:=rfl
 dQ:=fun j cs' hj=>by
  cases j with
  | succ j=>simp at hj
  | zero=>
   simp only [List.getElem?_cons_zero,oI] at hj;subst hj;obtain ⟨b',ty,arr,dZ,hw,hc⟩:=h.dQ i cs hi;rw [hb] at dZ;cases dZ;exact ⟨b,ty,arr,rfl,hw,⟨RvL.mono (E:=E.cut 0 0) ⟨fun _ _ h=>h,fun i b hb=>by simp [En.cut] at hb,fun k q hq=>by simp [En.cut] at hq⟩ (RvL.cut hc.1 fB),hc.2⟩⟩
 inj:=by simp
 sub:=h.sub
 pc:=fun x v hc hm=>by
  simp only [List.mem_singleton] at hm;exact h.pc x v hc (hm ▸ mG hb)
 cN:=fun k q y hq=>by simp at hq
 gC:=fun k k' y y' g _ hy=>by simp at hy
end
end Dv
end Go.Proofs.YtfdedoiiahbnnaaGreat
set_option maxRecDepth 100000
namespace Go.Proofs.YtfdedoiiahbnnaaGreat
open Go Go.RowKit Go.Lib Dv Go.Proofs.Tryz
abbrev jX (l:List dj):aq:=⟨l,0,0,0,0⟩
set_option maxHeartbeats 4000000 in
theorem Po (s:ByteArray) (l:List dj) (qg:cw prog 157 [.v (.string s)] (.cp [.sl 5 (fv l) none,Ft.d (0,0)])) :
  XC prog 85 [.v (.string s)] (fun r os=>r = .cp [.loc 0 0,Ft.d (0,0)]/\os=[aJ (jX l)]):=by
 intro E w vs hE fl hv;simp only [RvL] at hv;obtain ⟨v1,s1,rfl,h1,rfl⟩:=hv;have h1:=bC h1;subst h1;have PJ:=BG hE;obtain ⟨c,β,tk,τ⟩:=E;change Env ⟨c,[],[],[]⟩ [] w at PJ;have mixed:=mo;obtain ⟨w1,DY⟩:∃ w1,w1=w.alloc (.cells #[.int .i64 0,.int .i64 0] 26 (0,0)):=⟨_,rfl⟩;have vd:∀ k,k < w.heap.size->w1.heap[k]? = w.heap[k]?:=fun k hk=>by rw [DY];exact Below.heap_alloc _ _ _ hk
 have uD:w1.heap[w.heap.size]? = some (.cells #[.int .i64 0,.int .i64 0] 26 (0,0)):=by rw [DY];exact Array.getElem?_push_size
 have QH:=PJ.jo vd;have Hv:=qg _ w1 [.string s] QH rfl (by simp only [RvL];exact ⟨_,_,rfl,eo rfl,rfl⟩)
 go_enter func85,ntmps85
 go_wp2_with (go_at_call 157;rw [<- DY];refine Hv.mono ?_)
 have V4:=Lib.hid DY;clear DY;intro e w2 v2 he LD;subst he;rw [<- V4.out] at LD;obtain ⟨JR,_,d2,VX,E2,XD,TP,ht2,JP,JO,rfl⟩:=LD;unfold Rv at JO;obtain ⟨vs,rfl,qR⟩:=JO;simp only [RvL] at qR;obtain ⟨x1,r1,rfl,hx1,x2,r2,rfl,Be,rfl⟩:=qR;unfold Ft.d Rv at Be;obtain ⟨vs2,rfl,Jc,_⟩:=Be;simp only [RvL] at Jc;obtain ⟨y1,r3,rfl,A9,y2,r4,rfl,mz,rfl⟩:=Jc;obtain rfl:=bC A9;obtain rfl:=bC mz;have SH:=hx1;unfold Rv at hx1;obtain ⟨bs,n,cap,rfl,⟨K5,_⟩,_,_⟩:=hx1;obtain rfl:n=(fv l).length:=K5;generalize (fv l).length=n at SH
 go_wp2
 obtain ⟨w3,x9⟩:∃ w3,w3=w2.alloc (.cells #[.int .i64 0,.int .i64 0] 26 (0,0)):=⟨_,rfl⟩;have hz1:w1.heap.size=w.heap.size + 1:=by rw [V4.out];simp
 have Tx:w1.heap.size<=w2.heap.size:=JR.size;have hz3:w3.heap.size=w2.heap.size + 1:=by rw [x9];simp
 have hb5:w3.heap[w2.heap.size]? = some (.cells #[.int .i64 0,.int .i64 0] 26 (0,0)):=by rw [x9];exact Array.getElem?_push_size
 have NO:w3.heap[w.heap.size]? = some (.cells #[.int .i64 0,.int .i64 0] 26 (0,0)):=by
  rw [x9,Below.heap_alloc _ _ _ (by omega),JR.block _ (by omega) (by
   rintro (h1 | ⟨y,h1,_⟩)
   ·simp at h1
   ·simp at h1)]
  exact uD
 rw [<- x9];have XE:=Lib.hid x9;clear x9;rename_i K hK
 have Hs:∀ x v,E2.c x=some v->x.block < w.heap.size∨(w1.heap.size<=x.block/\x.block < w2.heap.size):=fun x v hx=>by
  rcases JP.cn x v hx with h1 | h1 | ⟨y,h1,_⟩
  ·exact .inl (World.block_lt_of_cell? w x (PJ.sub x v h1))
  ·exact .inr ⟨h1,World.block_lt_of_cell? w2 x (XD.sub x v hx)⟩
  ·simp at h1
 have V5:∀ k,k < w2.heap.size->w3.heap[k]? = w2.heap[k]?:=fun k hk=>by rw [XE.out];exact Below.heap_alloc _ _ _ hk
 have XF:Env ⟨E2.c,[w.heap.size,w2.heap.size],[],[]⟩ [GR,GR] w3:={
  len:=rfl
  tl:=rfl
  dQ:=fun i cs hi=>by
   match i,hi with
   | 0,hi=>
    cases hi;exact ⟨_,_,[.int .i64 0,.int .i64 0],rfl,NO,by simp only [RvL];exact ⟨_,_,rfl,⟨rfl,rfl⟩,_,_,rfl,⟨rfl,rfl⟩,rfl⟩,by intro v hv;simp at hv;subst hv;rfl⟩
   | 1,hi=>
    cases hi;exact ⟨_,_,[.int .i64 0,.int .i64 0],rfl,hb5,by simp only [RvL];exact ⟨_,_,rfl,⟨rfl,rfl⟩,_,_,rfl,⟨rfl,rfl⟩,rfl⟩,by intro v hv;simp at hv;subst hv;rfl⟩
   | i + 2,hi=>simp at hi
  inj:=by simp;omega
  sub:=(XD.jo V5).sub
  pc:=fun x v hx hm=>by
   simp only [List.mem_cons,List.not_mem_nil,or_false] at hm;have:=Hs x v hx;omega
  cN:=fun k q y hq=>by simp at hq
  gC:=fun k k' y y' g _ hy=>by simp at hy }
 have Uj:E2.tk=[]:=List.eq_nil_of_length_eq_zero ht2;have hx4:Rv ⟨E2.c,[w.heap.size,w2.heap.size],[],[]⟩ (.sl 5 (fv l) none) (.slice bs n cap):=SH.mono (E:=E2) ⟨fun _ _ h=>h,fun i b hb=>by rw [TP] at hb;simp at hb,fun k q hq=>by rw [Uj] at hq;simp at hq⟩
 refine Ga (X:=⟨prog,tt,sn,Tryz.f85,19,[.tmp 2,.cell 3 26],rfl,w3,⟨E2.c,[w.heap.size,w2.heap.size],[],[]⟩,2,0,rfl,rfl,false,fun _ _ _=>False,[],[],false⟩)
  (E:=⟨E2.c,[w.heap.size,w2.heap.size],[],[]⟩) (st:=⟨[(2,⟨[],.v (.pointer none)⟩),cE 3 0,gh 4 5 (fv l),cE 5 1],[GR,GR],[]⟩)
  (fun st'=>resD tt st' [.tmp 2,.cell 3 26]=some [.loc 2 0,Ft.d (0,0)]/\st'.bx=[GR,GR,aJ (jX l)]) 4000
  {env:=XF
   tk:=rfl
   sz:=rfl
   tm:=by
    intro i x hx;simp only [dF] at hx;split at hx
    ·rename_i e;cases hx;subst e;exact ⟨fun _=>⟨_,rfl,rfl,rfl⟩,fun hn=>(hn (aV _)).elim⟩
    split at hx
    ·rename_i e;cases hx;subst e;exact ⟨fun _=>⟨_,rfl,w.heap.size,rfl,rfl⟩,fun hn=>(hn (aV _)).elim⟩
    split at hx
    ·rename_i e;cases hx;subst e;exact ⟨fun _=>⟨_,rfl,hx4⟩,fun hn=>(hn (aV _)).elim⟩
    split at hx
    ·rename_i e;cases hx;subst e;exact ⟨fun _=>⟨_,rfl,w2.heap.size,rfl,rfl⟩,fun hn=>(hn (aV _)).elim⟩
    ·cases hx
   df:=rfl
   nw:=Nw.refl XF
   fr:=⟨rfl,rfl,rfl,bn _,fun _ _ _=>rfl⟩
   sh:=fun h=>by cases h
   bt:=fun p hp=>by cases hp } ?_ (fun _ _ _ h=>h) ?_
 ·refine cz [0] (fun _=>false) mo (by decide +kernel) ?_;exact ⟨rfl,rfl⟩
 ·intro st' E' a' w' cO ⟨BE,kT⟩;have hβ':=cO.nw.β;obtain ⟨r,hr,la⟩:=hβ';have hr:E'.β=[w.heap.size,w2.heap.size] ++ r:=hr;have hlen:=cO.env.len;rw [hr,kT] at hlen
  match r,hlen with
  | [b],_=>
   have hb:E'.β[2]? = some b:=by rw [hr];all_goals rfl
   have Bc:w3.heap.size<=b:=la b (by simp);have SI:=Jb (i:=2) (cs:=aJ (jX l)) cO.env (by rw [kT];rfl) hb rfl
   have hold:∀ k,k < w.heap.size->w'.heap[k]? = w.heap[k]?:=fun k hk=>by
    rw [cO.fr.block k (by show k < w3.heap.size;omega) (by
     rintro (h1 | ⟨y,h1,_⟩)
     ·simp only [List.mem_cons,List.not_mem_nil,or_false] at h1;omega
     ·simp at h1),V5 k (by omega),JR.block k (by omega) (by
     rintro (h1 | ⟨y,h1,_⟩)
     ·simp at h1
     ·simp at h1),vd k hk]
   refine hK a' w' (wp_ret ?_);refine LC cO BE fun v hv=>?_;have h1:=cO.fr;have q1:w1.os=w.os/\w1.tape=w.tape/\w1.output=w.output:=by rw [V4.out];exact ⟨rfl,rfl,rfl⟩
   have q3:w3.os=w2.os/\w3.tape=w2.tape/\w3.output=w2.output:=by rw [XE.out];exact ⟨rfl,rfl,rfl⟩
   have hz4:w3.heap.size<=w'.heap.size:=h1.size;refine ⟨v,rfl,⟨?_,?_,?_,by omega,fun k hk _=>hold k hk⟩,_,_,_,SI,rfl,?_,?_,?_,rfl,rfl⟩
   ·rw [show w'.os=w3.os from h1.os,q3.1,JR.os,q1.1]
   ·rw [show w'.tape=w3.tape from h1.tape,q3.2.1,JR.tape,q1.2.1]
   ·rw [show w'.output=w3.output from h1.output,q3.2.2,JR.output,q1.2.2]
   ·have eβ:β=[]:=List.eq_nil_of_length_eq_zero hE.len;have eτ:τ=[]:=List.eq_nil_of_length_eq_zero (by have:=hE.tl;rw [this,fl];rfl);have etk:tk=[]:=fl;subst eβ eτ etk
    exact {
     c:=fun x v hx=>cO.nw.c x v (JP.c x v hx)
     cn:=fun x v hx=>by
      rcases cO.nw.cn x v hx with h2 | h2 | ⟨y,h2,_⟩
      ·rcases JP.cn x v h2 with h3 | h3 | ⟨y,h3,_⟩
       ·exact .inl h3
       ·exact .inr (.inl (by omega))
       ·simp at h3
      ·exact .inr (.inl (by have:w3.heap.size<=x.block:=h2;omega))
      ·simp at h2
     β:=⟨[b],rfl,fun x hx=>by
      simp only [List.mem_singleton] at hx;subst hx
      omega⟩
     tk:=fun k q y hq=>by simp at hq
     tn:=fun k y g _ hy=>by simp at hy
     l0:=rfl }
   ·intro cs cr;simp only [List.mem_singleton] at cr;subst cr;rfl
   ·unfold Rv at hv ⊢;obtain ⟨vs,h2,h3⟩:=hv;refine ⟨vs,h2,?_⟩;simp only [RvL] at h3 ⊢;obtain ⟨a1,s1,rfl,h4,a2,s2,rfl,h5,rfl⟩:=h3;refine ⟨a1,_,rfl,?_,a2,_,rfl,?_,rfl⟩
    ·unfold Rv at h4 ⊢;obtain ⟨b',h6,h7⟩:=h4;rw [hb] at h6;cases h6;exact ⟨b,rfl,h7⟩
    ·exact Rv.mono (E:=E'.cut 0 0) ⟨fun _ _ h=>h,fun i b hb=>by simp [En.cut] at hb,fun k q hq=>by simp [En.cut] at hq⟩ (Rv.cut h5 rfl)
end Go.Proofs.YtfdedoiiahbnnaaGreat
set_option maxRecDepth 100000
namespace Go.Proofs.YtfdedoiiahbnnaaGreat
open Go Go.RowKit Dv Go.Proofs.Tryz
theorem SJ {c:aq} {k:Int} {s:ByteArray} (h:c.is k s=true) (hk:k≠0):¬ c.aA.k=0:=by
 simp only [aq.is,aZ,decide_eq_true_eq] at h;omega
theorem ry {c:aq} {k:Int} {s:ByteArray} (h:c.is k s=true) (hk:k≠0):c.step={ c with p:=c.p + 1 }:=by rw [aq.step,af (SJ h hk)]
theorem jY (c:aq) (h:av c):Ev prog 294 [gI] [aJ c] [] (kN (.v (.int .i64 c.fA)) c.bq):=by
 have hm:=tj c h 2;have hw:=gJ c h;have hC:c.bq=if c.tk 2 then c.step else c.wrong:=rfl
 have hW:c.fA=(c.td 2).n:=rfl;have hM:c.PX 2=if c.tk 2 then c.step else c:=rfl
 rw [hM] at hm;generalize c.bq=C2 at hC ⊢;generalize c.fA=W at hW ⊢;generalize c.td 2=t at hm hW;obtain ⟨tk,ta,te,ts,tn⟩:=t;simp only at hW;rw [hW];generalize c.tk 2=B at hC hm
 cases B with
 | true=>
  rw [aj rfl] at hC hm;rw [hC];generalize c.step=C1 at hm ⊢;obtain ⟨l,p,d,f1,f2⟩:=c;obtain ⟨l1,p1,d1,f11,f21⟩:=C1;refine eG 17 [.tmp 2] func294 rfl ntmps294 rfl fun _ _ _ _=>?_;refine ak 1 vg hm ?_;exact ⟨.v (.int .i64 _),[aJ _],bU,bU,rfl,rfl,rfl⟩
 | false=>
  rw [af (by simp)] at hC hm;rw [hC];generalize c.wrong=C1 at hw ⊢;obtain ⟨l,p,d,f1,f2⟩:=c;obtain ⟨l1,p1,d1,f11,f21⟩:=C1;refine eG 17 [.tmp 2] func294 rfl ntmps294 rfl fun _ _ _ _=>?_;refine ak 1 vg hm ?_;refine ak 1 yN hw ?_;exact ⟨.v (.int .i64 _),[aJ _],bU,bU,rfl,rfl,rfl⟩
theorem nO (c:aq) (h:av c):Ev prog 295 [gI] [aJ c] [] (kN (.v (.int .i64 (gK c).1)) (gK c).2):=by
 have h1:=bR c h aN;have h2:=jY _ (h.ae aN);have h3:=bR _ (h.ae aN).bq aX;have hR:gK c=((c.ae aN).fA,(c.ae aN).bq.ae aX):=rfl;rw [hR];simp only;generalize (c.ae aN).bq.ae aX=c3 at h3 ⊢;generalize (c.ae aN).bq.is 4 aX=B3 at h3;generalize (c.ae aN).bq=c2 at h2 h3;generalize (c.ae aN).fA=n at h2 ⊢;generalize c.ae aN=c1 at h1 h2;generalize c.is 4 aN=B1 at h1;obtain ⟨l,p,d,f1,f2⟩:=c;obtain ⟨l1,p1,d1,f11,f21⟩:=c1;obtain ⟨l2,p2,d2,f12,f22⟩:=c2;obtain ⟨l3,p3,d3,f13,f23⟩:=c3;refine eG 13 [.tmp 2] func295 rfl ntmps295 rfl fun _ _ _ _=>?_;refine ak 1 eV h1 ?_;refine ak 1 yP h2 ?_;refine ak 1 eV h3 ?_;exact ⟨.v (.int .i64 _),[aJ _],bU,bU,rfl,rfl,rfl⟩
theorem wo (l:List Wd) (w:Wd):bZ l ++ [lg w]=bZ (l ++ [w]):=by simp [bZ]
abbrev Jd (c:aq) (l:List Wd) (n:Nat):St:=⟨[cE 1 1,(2,⟨[],.v (.slice none 0 0)⟩),(3,⟨[],.sl 2 (bZ l) (some 0)⟩)],[aJ c,jx],[⟨n,34,2,none⟩]⟩
theorem qI (c:aq) (h:av c):Ev prog 356 [gI] [aJ c] [] (kN (.sl 2 (bZ (dY c).1) none) (dY c).2):=by
 generalize hR:dY c=R;unfold dY at hR;have hb:=dX;obtain ⟨m,hm⟩:∃ m,bigN=m + 1:=⟨bigN - 1,by omega⟩;rw [hm,pLab] at hR;have hlen:=h.len;have h1:=dB c h;have bV:=aK.ai c;have qh:c.ai.l=c.l:=bV.l;have XG:=h.ai;generalize c.ai=C1 at h1 hR qh XG;generalize c.aH=W at h1 hR;obtain ⟨ws,wa⟩:=W;obtain ⟨l,p,d,f1,f2⟩:=c;obtain ⟨l1,p1,d1,f11,f21⟩:=C1;simp only at qh hlen;subst qh;refine DF (s:=false) (bt:=[]) (mu:=[6]) (hbt:=fun p hp=>by cases hp) (fr:=false) (P:=prog) tt sn 5000 16 [.tmp 2] func356 rfl ntmps356 rfl (nL rfl) (fun _ _ _ _=>?_);refine ak 1 lx h1 ?_;refine OP rfl rfl rfl rfl rfl rfl rfl rfl ?_;refine de (fun j st=>∃ (c1:aq) (l':List Wd) (n:Nat),st=Jd c1 l' n/\n=l'.length/\av c1/\(if c1.is 4 Ae=true then pLab j l' c1.step else (l',c1))=R/\c1.l.length<=c1.p + j/\l'.length + j<=bigN) m (Jd ⟨l1,p1,d1,f11,f21⟩ [⟨ws,wa⟩] 1) (yc 2 PD DH) ⟨⟨l1,p1,d1,f11,f21⟩,[⟨ws,wa⟩],1,rfl,rfl,XG,hR,by show l1.length<=p1 + m;omega,by simp;omega⟩ ?_;rintro j st ⟨c1,l',n,rfl,hn,Ko,qJ,aS,lk⟩;have hm:=ej c1 Ko Ae;unfold aq.mO at hm;have nS:=Ko.lt
 cases hB:c1.is 4 Ae with
 | false=>
  rw [hB,af (by simp)] at qJ hm;subst qJ;obtain ⟨l2,p2,d2,f12,f22⟩:=c1;refine ak 1 fD hm ?_;exact ⟨.sl 2 (bZ _) none,[aJ _],bU,bU,rfl,rfl,rfl⟩
 | true=>
  rw [hB,aj rfl] at qJ hm;obtain ⟨j,rfl⟩:∃ m,j=m + 1:=⟨j - 1,by omega⟩;rw [pLab] at qJ;have hs:=Ko.step;have bV:=ry hB (by decide);have h2:=dB _ hs;have SK:=aK.ai c1.step;have e1:c1.step.l=c1.l:=by rw [bV]
  have e2:c1.step.p=c1.p + 1:=by rw [bV]
  have e3:=SK.l;have e4:=SK.p;have hk:=hs.ai;generalize c1.step.ai=C3 at h2 qJ e3 e4 hk;generalize c1.step.aH=W3 at h2 qJ;generalize c1.step=C2 at hm h2 e1 e2 e3 e4;obtain ⟨us,ua⟩:=W3;obtain ⟨l2,p2,d2,f12,f22⟩:=c1;obtain ⟨l3,p3,d3,f13,f23⟩:=C2;obtain ⟨l4,p4,d4,f14,f24⟩:=C3;simp only at aS e1 e2 e3 e4 nS;subst e1 e2 e3;refine ak 1 fD hm ?_;refine ak 1 lx h2 ?_;refine ⟨by rw [aM];exact hn.symm,⟨by simp [maxLen,aM];omega,by simp [aM];omega⟩,?_⟩;exact ⟨Jd ⟨l4,p4,d4,f14,f24⟩ (l' ++ [⟨us,ua⟩]) (n + 1),(yc 2 (Qv (wo l' ⟨us,ua⟩)) (nc (wo l' ⟨us,ua⟩))),j,by omega,_,_,_,rfl,by simp [hn],hk,qJ,by show l4.length<=p4 + j;omega,by simp;omega⟩
set_option maxHeartbeats 1000000 in
theorem xL (c:aq) (h:av c):Ev prog 357 [gI] [aJ c] [] (kN (.agg (V0 (bI c).1)) (bI c).2):=by
 generalize hR:bI c=R;unfold bI at hR;have hp:=dM c h;cases e1:c.is 1 fK
 rotate_left
 rw [e1,aj rfl] at hR;have w1:=cQ c h fK;unfold aq.mO at w1;rw [e1,aj rfl] at w1;have hn:=nO _ h.step;have se:=(jU (Sm.self h.step)).sm.ok;generalize gK c.step=N at hn se hR;generalize c.step=C1 at w1 hn;generalize c.aA=t at hp hR;obtain ⟨tk,ta,te,ts,tn⟩:=t;obtain ⟨nn,nl,np,nd,M6,M7⟩:=N;obtain ⟨l1,p1,d1,f11,f21⟩:=C1;obtain ⟨l,p,d,f1,f2⟩:=c;simp only at hR se;refine eG 48 [.cell 2 131] func357 rfl ntmps357 rfl fun _ _ _ _=>?_;refine ak 1 hU hp ?_;refine ak 1 fU w1 ?_;refine ak 1 HH hn ?_
 rotate_right
 rw [e1,af (by simp)] at hR;cases e2:c.is 1 gV
 rotate_left
 rw [e2,aj rfl] at hR;have w1:=cQ c h fK;unfold aq.mO at w1;rw [e1,af (by simp)] at w1;have w2:=cQ c h gV;unfold aq.mO at w2;rw [e2,aj rfl] at w2;have hn:=nO _ h.step;have se:=(jU (Sm.self h.step)).sm.ok;generalize gK c.step=N at hn se hR;generalize c.step=C1 at w2 hn;generalize c.aA=t at hp hR;obtain ⟨tk,ta,te,ts,tn⟩:=t;obtain ⟨nn,nl,np,nd,M6,M7⟩:=N;obtain ⟨l1,p1,d1,f11,f21⟩:=C1;obtain ⟨l,p,d,f1,f2⟩:=c;simp only at hR se;refine eG 48 [.cell 2 131] func357 rfl ntmps357 rfl fun _ _ _ _=>?_;refine ak 1 hU hp ?_;refine ak 1 fU w1 ?_;refine ak 1 fU w2 ?_;refine ak 1 HH hn ?_
 rotate_right
 rw [e2,af (by simp)] at hR;cases e3:c.is 1 jy
 rotate_left
 rw [e3,aj rfl] at hR;have w1:=cQ c h fK;unfold aq.mO at w1;rw [e1,af (by simp)] at w1;have w2:=cQ c h gV;unfold aq.mO at w2;rw [e2,af (by simp)] at w2;have w3:=cQ c h jy;unfold aq.mO at w3;rw [e3,aj rfl] at w3;have se:=h.step;generalize c.step=C1 at w3 hR se;generalize c.aA=t at hp hR;obtain ⟨tk,ta,te,ts,tn⟩:=t;obtain ⟨nl,np,nd,M6,M7⟩:=C1;obtain ⟨l,p,d,f1,f2⟩:=c;simp only at hR;refine eG 48 [.cell 2 131] func357 rfl ntmps357 rfl fun _ _ _ _=>?_;refine ak 1 hU hp ?_;refine ak 1 fU w1 ?_;refine ak 1 fU w2 ?_;refine ak 1 fU w3 ?_
 rotate_right
 rw [e3,af (by simp)] at hR;by_cases e5:c.aA.k=1;rw [aj e5] at hR;have w1:=cQ c h fK;unfold aq.mO at w1;rw [e1,af (by simp)] at w1;have w2:=cQ c h gV;unfold aq.mO at w2;rw [e2,af (by simp)] at w2;have w3:=cQ c h jy;unfold aq.mO at w3;rw [e3,af (by simp)] at w3;have DE:=gv c h 9;have se:=h.cm 9 c.aA.a;have e0:c.fail 9=c.cm 9 c.aA.a:=rfl;rw [<- e0] at se;generalize c.fail 9=C1 at DE hR se;generalize c.aA=t at hp hR e5;obtain ⟨tk,ta,te,ts,tn⟩:=t;obtain ⟨nl,np,nd,M6,M7⟩:=C1;obtain ⟨l,p,d,f1,f2⟩:=c;simp only at hR e5;refine eG 48 [.cell 2 131] func357 rfl ntmps357 rfl fun _ _ _ _=>?_;refine ak 1 hU hp ?_;refine ak 1 fU w1 ?_;refine ak 1 fU w2 ?_;refine ak 1 fU w3 ?_;refine br (fun _=>?_) (fun g=>absurd e5 (sU g));refine ak 1 sq DE ?_
 rotate_left
 rw [af e5] at hR;have w1:=cQ c h fK;unfold aq.mO at w1;rw [e1,af (by simp)] at w1;have w2:=cQ c h gV;unfold aq.mO at w2;rw [e2,af (by simp)] at w2;have w3:=cQ c h jy;unfold aq.mO at w3;rw [e3,af (by simp)] at w3;have DE:=gJ c h;have se:=h.wrong;generalize c.wrong=C1 at DE hR se;generalize c.aA=t at hp hR e5;obtain ⟨tk,ta,te,ts,tn⟩:=t;obtain ⟨nl,np,nd,M6,M7⟩:=C1;obtain ⟨l,p,d,f1,f2⟩:=c;simp only at hR e5;refine eG 48 [.cell 2 131] func357 rfl ntmps357 rfl fun _ _ _ _=>?_;refine ak 1 hU hp ?_;refine ak 1 fU w1 ?_;refine ak 1 fU w2 ?_;refine ak 1 fU w3 ?_;refine br (fun g=>absurd (sU g) e5) (fun _=>?_);refine ak 1 yN DE ?_
 all_goals
  have hm:=ej ⟨nl,np,nd,M6,M7⟩ se IY;unfold aq.mO at hm;have RE:=qI _ (av.step se);unfold dV at hR;generalize aq.is ⟨nl,np,nd,M6,M7⟩ 4 IY=B at hm hR;generalize dY (aq.step ⟨nl,np,nd,M6,M7⟩)=L at RE hR;generalize aq.step ⟨nl,np,nd,M6,M7⟩=O at hm RE;obtain ⟨ol,op,od,of1,of2⟩:=O;obtain ⟨lw,ll,lp,ld,XH,XI⟩:=L
  cases B with
  | true=>
   rw [aj rfl] at hm hR;subst hR;refine ak 1 fD hm ?_;refine ak 1 MH RE ?_;exact ⟨.agg (V0 _),[aJ _],bU,bU,rfl,rfl,rfl⟩
  | false=>
   rw [af (by simp)] at hm hR;subst hR;refine ak 1 fD hm ?_;exact ⟨.agg (V0 _),[aJ _],bU,bU,rfl,rfl,rfl⟩
set_option maxHeartbeats 2000000 in
theorem qK (x:Ph) (t:Ty) (c:aq) (h:av c):Ev prog 339 [gI,.loc 1 0] [aJ c,j9 x (di t)] [] (fun r os tk=>r = .cp []/\os=[aJ (bB x c).2,j9 (bB x c).1 (di t)]/\tk=[]):=by
 generalize hR:bB x c=R;unfold bB at hR;obtain ⟨th,tp⟩:=t;obtain ⟨⟨ns,na⟩,bare,lb,wide,ck,cn,ca,cl⟩:=x;obtain ⟨l,p,d,f1,f2⟩:=c;refine eG 28 [] func339 rfl ntmps339 rfl fun _ _ _ _=>?_;generalize Pp:oY _ _=R1 at hR;unfold oY at Pp;have a1:=ej _ h IY;unfold aq.mO at a1;have k1:=av.step h;have b1:=qI _ k1;have p1:=(iW (Sm.self k1)).sm.ok;generalize aq.is _ 4 IY=B1 at a1 Pp;generalize dY (aq.step _)=L1 at b1 p1 Pp;generalize aq.step _=O1 at a1 b1;obtain ⟨ol1,op1,od1,of1,og1⟩:=O1;obtain ⟨lw1,ll1,lp1,ld1,XH,lg1⟩:=L1;cases B1;rw [af (by simp)] at a1 Pp;have o1:=h;subst Pp
 try simp only at hR
 refine ak 1 fD a1 ?_
 rotate_left
 rw [aj rfl] at a1 Pp;have o1:=p1;subst Pp
 try simp only at hR
 refine ak 1 fD a1 ?_;refine ak 1 MH b1 ?_
 all_goals
  generalize M8:tI _ _=R2 at hR;unfold tI at M8;have a2:=ej _ o1 Ad;unfold aq.mO at a2;have k2:=av.step o1;have b2:=jY _ k2;have p2:=av.bq k2;generalize aq.is _ 4 Ad=B2 at a2 M8;generalize aq.fA (aq.step _)=n2 at b2 M8;generalize aq.bq (aq.step _)=L2 at b2 M8 p2;generalize aq.step _=O2 at a2 b2;obtain ⟨ol2,op2,od2,of2,og2⟩:=O2;obtain ⟨ll2,lp2,ld2,XI,lg2⟩:=L2;cases B2;rw [af (by simp)] at a2 M8;have o2:=o1;subst M8
  try simp only at hR
  refine ak 1 fD a2 ?_
  rotate_left
  rw [aj rfl] at a2 M8;have o2:=p2;subst M8
  try simp only at hR
  refine ak 1 fD a2 ?_;refine ak 1 yP b2 ?_
  all_goals
   generalize Pq:Ag _ _=R3 at hR;unfold Ag at Pq;have a3:=ej _ o2 pU;unfold aq.mO at a3;have k3:=av.step o2;have b3:=xL _ k3;have p3:=(qF (Sm.self k3)).sm.ok;generalize aq.is _ 4 pU=B3 at a3 Pq;generalize bI (aq.step _)=L3 at b3 p3 Pq;generalize aq.step _=O3 at a3 b3;obtain ⟨ol3,op3,od3,of3,og3⟩:=O3;obtain ⟨⟨ck3,cn3,ca3,cl3⟩,ll3,lp3,ld3,lf3,lg3⟩:=L3;cases B3;rw [af (by simp)] at a3 Pq;have o3:=o2;subst Pq
   try simp only at hR
   refine ak 1 fD a3 ?_
   rotate_left
   rw [aj rfl] at a3 Pq;have o3:=p3;subst Pq
   try simp only at hR
   refine ak 1 fD a3 ?_;refine ak 1 Rx b3 ?_
   all_goals
    subst hR;exact ⟨.cp [],[aJ _,j9 _ _],bU,bU,rfl,rfl,rfl⟩
section
variable {K:aq->Ty × aq} {D:Nat} (hK:∀ c,av c->c.d=D->Ev prog 166 [gI] [aJ c] [] (kN (.agg (di (K c).1)) (K c).2)) (hk:CU K D)
include hK hk
theorem Am (c:aq) (h:av c) (hd:c.d=D):Ev prog 298 [gI] [aJ c] [] (kN (.agg (j9 (iV K c).1.1 (di (iV K c).1.2))) (iV K c).2):=by
 have hR:iV K c=(((bB (iU c.aH false) (K (c.ai.ae b9)).2).1,(K (c.ai.ae b9)).1),(bB (iU c.aH false) (K (c.ai.ae b9)).2).2):=rfl;rw [hR];simp only;have a1:=dB c h;have a2:=bR _ h.ai b9;have o2:=h.ai.ae b9;have d2:(c.ai.ae b9).d=D:=by rw [(aK.ae _ _).d,(aK.ai _).d,hd]
 have a3:=hK _ o2 d2;have o3:=hk.ok o2 d2;have a4:=qK (iU c.aH false) (K (c.ai.ae b9)).1 _ o3;generalize bB (iU c.aH false) (K (c.ai.ae b9)).2=M at a4 ⊢;generalize K (c.ai.ae b9)=T at a3 a4 ⊢;generalize c.ai.ae b9=c2 at a2 a3;generalize c.ai.is 4 b9=B2 at a2;generalize c.ai=c1 at a1 a2;generalize c.aH=W at a1 a4;obtain ⟨ws,wa⟩:=W;obtain ⟨l,p,d,f1,f2⟩:=c;obtain ⟨l1,p1,d1,f11,f21⟩:=c1;obtain ⟨l2,p2,d2,f12,f22⟩:=c2;obtain ⟨⟨th,tp⟩,l3,p3,d3,f13,f23⟩:=T;obtain ⟨⟨⟨ns,na⟩,bare,lb,wide,ck,cn,ca,cl⟩,l4,p4,d4,f14,f24⟩:=M;refine eG 16 [.cell 2 133] func298 rfl ntmps298 rfl fun _ _ _ _=>?_;refine ak 1 lx a1 ?_;refine ak 1 eV a2 ?_;refine ak 1 vf a3 ?_;refine CallG.Lb 1 3 rfl rfl rfl rfl ?_;refine ak 2 MG a4 ?_;exact ⟨.agg (j9 _ _),[aJ _],bU,bU,rfl,rfl,rfl⟩
theorem Gb (c:aq) (h:av c) (hd:c.d=D):Ev prog 299 [gI] [aJ c] [] (kN (.agg (j9 (gW K c).1.1 (di (gW K c).1.2))) (gW K c).2):=by
 generalize hR:gW K c=R;unfold gW at hR;have a1:=dB c h;have a2:=ej _ h.ai aN;unfold aq.mO at a2;have o2:=h.ai.step;have d2:c.ai.step.d=D:=by rw [(aK.step _).d,(aK.ai _).d,hd]
 have a3:=hK _ o2 d2;have o3:=hk.ok o2 d2;have a4:=bR _ o3 aX;have a5:=qK (iU c.aH false) (K c.ai.step).1 _ (o3.ae aX);generalize bB (iU c.aH false) ((K c.ai.step).2.ae aX)=M at a5 hR;generalize (K c.ai.step).2.ae aX=c4 at a4 a5;generalize (K c.ai.step).2.is 4 aX=B4 at a4;generalize K c.ai.step=T at a3 a4 a5 hR;generalize c.ai.step=c2 at a2 a3;generalize c.ai.is 4 aN=B2 at a2 hR;generalize c.ai=c1 at a1 a2 hR;generalize c.aH=W at a1 a5 hR;obtain ⟨ws,wa⟩:=W;obtain ⟨l,p,d,f1,f2⟩:=c;obtain ⟨l1,p1,d1,f11,f21⟩:=c1;obtain ⟨l2,p2,d2,f12,f22⟩:=c2;obtain ⟨⟨th,tp⟩,l3,p3,d3,f13,f23⟩:=T;obtain ⟨l5,p5,d5,f15,f25⟩:=c4;obtain ⟨⟨⟨ns,na⟩,bare,lb,wide,ck,cn,ca,cl⟩,l4,p4,d4,f14,f24⟩:=M
 cases B2 with
 | true=>
  rw [aj rfl] at a2 hR;subst hR;refine eG 22 [.cell 2 133] func299 rfl ntmps299 rfl fun _ _ _ _=>?_;refine ak 1 lx a1 ?_;refine ak 1 fD a2 ?_;refine ak 1 vf a3 ?_;refine ak 1 eV a4 ?_;refine CallG.Lb 1 3 rfl rfl rfl rfl ?_;refine ak 2 MG a5 ?_;exact ⟨.agg (j9 _ _),[aJ _],bU,bU,rfl,rfl,rfl⟩
 | false=>
  rw [af (by simp)] at a2 hR;subst hR;refine eG 22 [.cell 2 133] func299 rfl ntmps299 rfl fun _ _ _ _=>?_;refine ak 1 lx a1 ?_;refine ak 1 fD a2 ?_;exact ⟨.agg (j9 _ _),[aJ _],bU,bU,rfl,rfl,rfl⟩
end
end Go.Proofs.YtfdedoiiahbnnaaGreat
namespace Go.Proofs.YtfdedoiiahbnnaaGreat
namespace Dv
open Go Go.RowKit
section
variable {X:Ctx} {st:St} {k:List It} {E:En} {a:Act} {w:World}
theorem Ez (h:Rel X E st a w) {es:List (List DV)} {cs:List DV} {kt m EA e:Nat} {v:Value} (hv:Rv E (.sl 0 es (some kt)) v) (hq:st.tk[kt]? = some ⟨m,EA,e,some cs⟩) (ph:es.length=m) (hm:0 < m) :
  ∃ g cap,∃ cur:Array Value,v = .slice (some ⟨g,0,none⟩) m cap/\E.tk[kt]? = some ⟨m,EA,e,some cs⟩/\E.τ[kt]? = some v/\w.heap[g]? = some (.cells cur EA (0,0))/\cur.size=cap * e/\cs.length=m * e/\RvC E.cl cs (cur.toList.take (m * e))/\m<=cap/\cap<=maxLen/\g ∉ E.β/\∀ x u,E.c x=some u->x.block=g->x.off < 0:=by
 unfold Rv at hv;obtain ⟨bs,ns,oc,e1,⟨Kp,qg⟩,NK,xg⟩:=hv;subst Kp;obtain ⟨q',mD,_,Qj⟩:=xg kt rfl;have kR:E.tk[kt]? = some ⟨m,EA,e,some cs⟩:=by rw [h.tk];exact hq
 rw [kR] at mD;simp only [oI] at mD;subst mD;have hy:=Qj ph;rcases h.env.cN kt _ _ kR hy with ⟨_,rF,_⟩ | ⟨g,cap,cur,mT,hw0,⟨uE,He⟩,BC,yy,nT,Fa⟩
 ·simp only at rF;omega
 obtain ⟨h5,h6⟩:=He cs rfl;exact ⟨g,cap,cur,mT,kR,hy,hw0,uE,h5,h6,BC,yy,nT,Fa⟩
theorem LF {o1:Oper} {t et e j6 nn m g cap:Nat} {bb:Bool} {zz:List Value} {z:Int} {kd:IntKind} {s ix:Operand} (h1:o1.op = .indexAddr t s ix) (e1:a.eval s = .slice (some ⟨g,0,none⟩) m cap) (e2:a.eval ix = .int kd z)
  (hT:X.T.find t=some ⟨nn,bb,.sl et e j6,zz⟩) (hz:0<=z/\z < m) (w:World):(execOp a.eval o1).run X.P w = .ok (.value (.pointer (some ⟨g,z.toNat * e,none⟩))) w:=by
 obtain ⟨hu,ii,zv,xe,_,V6,_,_⟩:=fk X.hT hT;have ob:gN X.P et=some e:=by rw [ig xe,V6]
 have cf:(Instr.indexAt t (.slice (some ⟨g,0,none⟩) m cap) (.int kd z)).run X.P w = .ok (.pointer (some ⟨g,z.toNat * e,none⟩)) w:=by
  simp [Instr.indexAt,asIntOf,run_underlying hu,hz.1,hz.2,aR ob,Addr.add_lit]
 simp only [execOp,h1,e1,e2,Sem.run_bind,cf,Result.andThen_ok,Sem.run_pure]
theorem EB {o2:Oper} {d1 kt ty e m EA:Nat} {z:Int} {es:List (List DV)} {cs cs':List DV} {v:Value} {x:Operand} {dv:DV} {g cap:Nat}
  (hr1:Rel X E st a w) (h2:o2.op = .store ty (.tmp d1) x) (SL:a.eval (.tmp d1) = .pointer (some ⟨g,z.toNat * e,none⟩)) (hv:Rv E (.sl 0 es (some kt)) v) (XJ:v = .slice (some ⟨g,0,none⟩) m cap)
  (hx:rv st [] x=some dv) (TQ:eraL dv.cells (fun l=>some l)=some cs') (JW:dv.cells.length=e) (V7:0 < e)
  (dp:X.T.sz ty=some e) (hq:st.tk[kt]? = some ⟨m,EA,e,some cs⟩) (ph:es.length=m) (hz:0<=z/\z < m) (bV:X.still=false) :
  ∃ w' E',(execOp a.eval o2).run X.P w = .ok .skip w' /\ Rel X E' ⟨st.sl,st.bx,st.tk.set kt ⟨m,EA,e,some (cs.take (z.toNat * e) ++ cs' ++ cs.drop (z.toNat * e + e))⟩⟩ a w':=by
 obtain ⟨g',oc,cur,e1,kR,hy,hw0,uE,h5,h6,BC,yy,nT,Fa⟩:=Ez hr1 hv hq ph (by omega);rw [XJ] at e1;injection e1 with i1 i2 i3
 injection i1 with i1
 injection i1 with i1
 subst i1 i3;rw [XJ] at hy;have e3:=aW hr1.rl hx;have fB:RvC E dv.cells (a.eval x).cells.toList:=e3.cells (fZ (n:=e) JW (by omega));have uZ:(a.eval x).cells.toList.length=e:=by rw [fB.1.length];exact JW
 obtain ⟨l',qh,hx1,_⟩:=mW TQ fB;simp only [oI] at qh;rw [qh] at hx1;have hme:m * e<=cap * e:=Nat.mul_le_mul_right _ BC
 have pk:z.toNat * e + e<=m * e:=by
  have:(z.toNat + 1) * e<=m * e:=Nat.mul_le_mul_right _ (by omega);rw [Nat.add_mul] at this;omega
 have XK:cur.toList.length=cap * e:=sU uE;have Mh:=ie (P:=X.P) (t:=ty) (off:=z.toNat * e) (n:=e) hw0 (yp X.hT dp) uZ (by rw [uE];omega) (List.all_eq_true.2 fB.2);generalize hN:cur.toList.take (z.toNat * e) ++ (a.eval x).cells.toList ++ cur.toList.drop (z.toNat * e + e)=N at Mh;have hNl:N.length=cap * e:=by grind
 have hNt:N.take (m * e)=(cur.toList.take (m * e)).take (z.toNat * e) ++ (a.eval x).cells.toList ++ (cur.toList.take (m * e)).drop (z.toNat * e + e):=by
  subst hN;rw [List.take_append,List.take_append,List.take_take,List.take_take];have h1:(cur.toList.take (z.toNat * e)).length=z.toNat * e:=by rw [zLenT];omega
  rw [List.length_append,h1,uZ,Nat.min_eq_right (by omega),Nat.min_eq_left (by omega),List.take_of_length_le (l:=(a.eval x).cells.toList) (by rw [uZ];omega),List.drop_take]
 have JS:Bm (World.c7 w g (.cells N.toArray EA (0,0))) E.c E.β ⟨m,EA,e,some (cs.take (z.toNat * e) ++ cs' ++ cs.drop (z.toNat * e + e))⟩ (.slice (some ⟨g,0,none⟩) m cap):=by
  refine .inr ⟨g,cap,_,rfl,eC hw0,⟨by simpa using hNl,fun ql yr=>?_⟩,BC,yy,nT,Fa⟩;simp only [oI] at yr;subst yr;simp only;have h8:=((RvC.take (z.toNat * e) h6).append hx1).append (RvC.drop (z.toNat * e + e) h6);rw [<- hNt] at h8;have hl8:=h8.1.length;refine ⟨?_,by show RvC E.cl _ (N.toArray.toList.take (m * e));simpa using h8⟩;rw [<- hl8,zLenT,hNl];omega
 obtain ⟨cO,_⟩:=DA (q':=⟨m,EA,e,some (cs.take (z.toNat * e) ++ cs' ++ cs.drop (z.toNat * e + e))⟩) (w':=World.c7 w g (.cells N.toArray EA (0,0))) hr1 bV kR hy rfl rfl rfl (.inl ⟨rfl,rfl⟩) JS (.inl rfl) rfl rfl rfl (by rw [fq];exact bn _) (fun j _ bM=>cR (by
  rintro rfl
  exact bM rfl))
 refine ⟨_,_,?_,cO⟩;simp only [execOp,h2,SL,Instr.storeAt,Instr.sureAddr,Sem.run_bind,Sem.run_pure,Result.andThen_ok,Mh]
end
end Dv
end Go.Proofs.YtfdedoiiahbnnaaGreat
namespace Go.Proofs.YtfdedoiiahbnnaaGreat
namespace Dv
open Go Go.RowKit
section
variable {P:Program} {ops:Array Oper} {C:Nat->World->Prop} {Q:Act->World->Prop} {W:Nat->Nat->Bool}
def CZ (ops:Array Oper) (W:Nat->Nat->Bool) (j i:Nat):Bool:=qj ops (fun k=>W k j) j i
def wu (ops:Array Oper) (W:Nat->Nat->Bool):Bool:=
 (List.range ops.size).all fun i=>(List.range ops.size).all fun j=>
  Nat.beq i j || ordB ops ops.size i j || ordB ops ops.size j i || (LA ops i && LA ops j) || (CZ ops W j i && CZ ops W i j)
def runS2 (P:Program) (ops:Array Oper) (W:Nat->Nat->Bool) (C:Nat->World->Prop) (Q:Act->World->Prop):kO->Act->World->Prop
 | .fin,a,w=>Q a w
 | .op i t,a,w=>∃ o,ops[i]? = some o/\∃ v,Yl P ops (C i) o v a/\(isL o.op=true->C i w)/\runS2 P ops W C Q t (a.put o.dst v) w
 | .ev i t alt,a,w=>(∃ o,ops[i]? = some o/\dC P ops o a w fun a' w'=>(∀ j,W i j=false->C j w->C j w')/\runS2 P ops W C Q t a' w')/\runS2 P ops W C Q alt a w
 | .stop,_,_=>True
def EC (P:Program) (ops:Array Oper) (W:Nat->Nat->Bool) (C:Nat->World->Prop) (Q:Act->World->Prop) (rem:List Nat) (a:Act) (w:World):Prop:=∃ T,chkA ops T rem none=true/\runS2 P ops W C Q T a w
theorem wv {rem:List Nat} (hP:wu ops W=true) (hc:Cl ops rem) {i j:Nat} (hi:rdy ops rem i=true) (hj:rdy ops rem j=true) (yH:i∈rem) (M9:j∈rem) (rP:i≠j) (GK:LA ops i=false∨LA ops j=false):CZ ops W j i=true:=by
 obtain ⟨o,ho,ha⟩:=jV hi;obtain ⟨o',JN,MP⟩:=jV hj;simp only [wu,List.all_eq_true,List.mem_range] at hP;have h1:=hP i (Array.getElem?_eq_some_iff.1 ho).1 j (Array.getElem?_eq_some_iff.1 JN).1;simp only [Bool.or_eq_true,aZ,Nat.beq_eq] at h1
 grind [I5]
theorem tR (kU:∀ (j:Nat) (o:Oper) cs b,ops[j]? = some o->o.op ≠ .select cs b) (hP:wu ops W=true) {i:Nat} {o:Oper} (hi:ops[i]? = some o) (hE:isE o.op=false) :
  ∀ (T:kO) (rem:List Nat) (a:Act) (w:World),rem.Nodup->Cl ops rem->chkA ops T rem none=true->runS2 P ops W C Q T a w->i∈rem->rdy ops rem i=true ->
   ∃ v,Yl P ops (C i) o v a/\(isL o.op=true->C i w)/\EC P ops W C Q (rem.erase i) (a.put o.dst v) w
 | .fin,rem,a,w,_,_,hc,_,yH,_=>by grind [chkA]
 | .stop,rem,a,w,_,_,hc,_,_,_=>by simp [chkA] at hc
 | .ev j t alt,rem,a,w,hn,fB,hc,hr,yH,GO=>by
  exfalso
  have key:∀ (T:kO) (seen:List Nat),(∀ k∈seen,LA ops k=true)->chkA ops T rem (some seen)=true->False:=by
   intro T
   induction T with
   | fin=>intro seen _ h;simp [chkA] at h
   | op=>intro seen _ h;simp [chkA] at h
   | ev k t alt _ ih=>grind [chkA]
   | stop=>grind [chkA,I6]
  grind [chkA]
 | .op j t,rem,a,w,hn,fB,hc,hr,yH,GO=>by
  simp only [chkA,aZ,Bool.not_eq_true'] at hc;obtain ⟨_,M9,V8,SM,Ot⟩:=hc;have M9:j∈rem:=sU M9;simp only [runS2] at hr;obtain ⟨y,hy,v,V9,Wa,TR⟩:=hr;by_cases rP:i=j
  ·subst rP;rw [hi] at hy;simp only [oI] at hy;subst hy;exact ⟨v,V9,Wa,t,Ot,TR⟩
  ·have Fe:=wv hP fB GO SM yH M9 rP (.inr V8);obtain ⟨Mk,Qx,_,_⟩:=iJ Fe hy hi;obtain ⟨u,hu,huc,T',hT',P2⟩:=tR kU hP hi hE t (rem.erase j) (a.put y.dst v) w (hn.erase j) (tQ hn fB SM) Ot TR ((List.mem_erase_of_ne rP).2 yH) (mh GO);have PG:=fun cs b=>kU i o cs b hi;have XL:=fun cs b=>kU j y cs b hy;obtain ⟨_,SN,_⟩:=Oper.apart_spec Mk;refine ⟨u,(Yl.same Mk PG).1 hu,huc,.op j T',?_,?_⟩
   ·grind [chkA,mh]
   ·simp only [runS2];refine ⟨y,hy,v,(Yl.same Qx XL).2 V9,Wa,?_⟩;rw [<- Act.put_comm a v u SN];exact P2
theorem wx {e:Nat}:∀ (T:kO) (rem:List Nat) (seen:List Nat) (a:Act) (w:World),chkA ops T rem (some seen)=true->runS2 P ops W C Q T a w->e∈rem->rdy ops rem e=true->e ∉ seen ->
  ∃ o t,ops[e]? = some o/\chkA ops t (rem.erase e) none=true/\dC P ops o a w fun a' w'=>(∀ j,W e j=false->C j w->C j w')/\runS2 P ops W C Q t a' w'
 | .fin,rem,seen,a,w,hc,_,_,_,_=>by simp [chkA] at hc
 | .op _ _,rem,seen,a,w,hc,_,_,_,_=>by simp [chkA] at hc
 | .stop,rem,seen,a,w,hc,_,hm,hr,hs=>by
  simp only [chkA,List.all_eq_true,Bool.or_eq_true,Bool.not_eq_true'] at hc;rcases hc e hm with h | h
  ·rw [hr] at h;cases h
  ·exact (hs (sU h)).elim
 | .ev i t alt,rem,seen,a,w,hc,hr,hm,GO,hs=>by
  simp only [chkA,aZ,Option.getD_some] at hc;simp only [runS2] at hr;obtain ⟨⟨o,ho,bV⟩,Wb⟩:=hr;by_cases RB:i=e
  ·subst RB;exact ⟨o,t,ho,hc.2.2.2.1,bV⟩
  ·exact wx alt rem (i :: seen) a w hc.2.2.2.2 Wb hm GO (fun h=>by
    rcases fp h with h | h
    ·exact RB h.symm
    ·exact hs h)
theorem An (kU:∀ (j:Nat) (o:Oper) cs b,ops[j]? = some o->o.op ≠ .select cs b) (hP:wu ops W=true) {i:Nat} {o:Oper} (hi:ops[i]? = some o) (hE:isE o.op=true) :
  ∀ (T:kO) (rem:List Nat) (a:Act) (w:World),rem.Nodup->Cl ops rem->chkA ops T rem none=true->runS2 P ops W C Q T a w->i∈rem->rdy ops rem i=true ->
   dC P ops o a w (fun a' w'=>(∀ j,W i j=false->C j w->C j w')/\EC P ops W C Q (rem.erase i) a' w')
 | .fin,rem,a,w,_,_,hc,_,yH,_=>by grind [chkA]
 | .stop,rem,a,w,_,_,hc,_,_,_=>by simp [chkA] at hc
 | .ev j t alt,rem,a,w,hn,fB,hc,hr,yH,GO=>by
  simp only [chkA,aZ,Option.getD_none] at hc;simp only [runS2] at hr;obtain ⟨⟨y,hy,bV⟩,Wb⟩:=hr;by_cases rP:i=j
  ·subst rP;rw [hi] at hy;simp only [oI] at hy;subst hy;exact gi (fun a' w' h=>⟨h.1,t,hc.2.2.2.1,h.2⟩) bV
  ·obtain ⟨o',t',JN,Ot,hs⟩:=wx alt rem [j] a w hc.2.2.2.2 Wb yH GO (sU rP);rw [hi] at JN;simp only [oI] at JN;subst JN;exact gi (fun a' w' h=>⟨h.1,t',Ot,h.2⟩) hs
 | .op j t,rem,a,w,hn,fB,hc,hr,yH,GO=>by
  simp only [chkA,aZ,Bool.not_eq_true'] at hc;obtain ⟨_,M9,V8,SM,Ot⟩:=hc;have M9:j∈rem:=sU M9;simp only [runS2] at hr;obtain ⟨y,hy,v,V9,Wa,TR⟩:=hr;have rP:i≠j:=by grind [I6]
  have Fe:=wv hP fB GO SM yH M9 rP (.inr V8);obtain ⟨Mk,Qx,_,hLW⟩:=iJ Fe hy hi;have PG:=fun cs b=>kU i o cs b hi;have XL:=fun cs b=>kU j y cs b hy;have ih:=An kU hP hi hE t (rem.erase j) (a.put y.dst v) w (hn.erase j) (tQ hn fB SM) Ot TR ((List.mem_erase_of_ne rP).2 yH) (mh GO);refine gi ?_ (nf ((px Mk PG).1 ih));rintro a' w' ⟨⟨PH,T',hT',P2⟩,u,rfl⟩;refine ⟨PH,.op j T',?_,?_⟩
  ·grind [chkA,mh]
  ·grind [runS2,Yl.same]
theorem Gc {Q':Exit->Act->World->Prop} (kU:∀ (j:Nat) (o:Oper) cs b,ops[j]? = some o->o.op ≠ .select cs b) (hP:wu ops W=true) (hb:∀ (i:Nat) (o:Oper),ops[i]? = some o->∀ e∈o.after,Region.binds .any e=true->e.on < ops.size)
  (hQ:∀ a w,Q a w->Q' .normal a w):∀ (qS:Nat) (listed:Array Bool) (rem:List Nat) (a:Act) (w:World),
  listed.size=ops.size->(∀ i,i∈rem↔i < ops.size/\listed.getD i true=false)->rem.Nodup->Cl ops rem->rem.length<=qS->EC P ops W C Q rem a w->wpAny P .any ops Q' qS listed a w:=by
 have LG:∀ (listed:Array Bool) (rem:List Nat),listed.size=ops.size->(∀ i,i∈rem↔i < ops.size/\listed.getD i true=false)->∀ i,i∈Region.ready .any ops listed↔i∈rem/\rdy ops rem i=true:=by
  intro listed rem dp sc i;have hl:∀ k,k < ops.size->(listed.getD k false=true↔k ∉ rem):=fun k hk=>by grind
  rw [mem_ready]
  grind [rdy,jV]
 intro qS
 induction qS with
 | zero=>
  intro listed rem a w dp sc hn fB hlen hr;have:rem=[]:=List.length_eq_zero_iff.1 (by omega);subst this;obtain ⟨T,hT,P2⟩:=hr;refine ⟨?_,hQ _ _ ?_⟩
  ·rw [List.eq_nil_iff_forall_not_mem];intro i hi;cases ((LG listed [] dp sc i).1 hi).1
  ·cases T with
   | fin=>exact P2
   | op i t=>simp [chkA] at hT
   | ev i t alt=>simp [chkA] at hT
   | stop=>simp [chkA] at hT
 | succ qS ih=>
  intro listed rem a w dp sc hn fB hlen hr;obtain ⟨T,hT,P2⟩:=hr;refine ⟨fun h0=>?_,fun i hi=>?_⟩
  ·cases T with
   | fin=>exact hQ _ _ P2
   | op i t=>
    exfalso;simp only [chkA,aZ] at hT;have:=(LG listed rem dp sc i).2 ⟨by simpa using hT.2.1,hT.2.2.2.1⟩;rw [h0] at this;cases this
   | ev i t alt=>
    exfalso;simp only [chkA,aZ] at hT;have:=(LG listed rem dp sc i).2 ⟨by simpa using hT.1,hT.2.2.1⟩;rw [h0] at this;cases this
   | stop=>simp [chkA] at hT
  ·obtain ⟨yH,hir⟩:=(LG listed rem dp sc i).1 hi;obtain ⟨o,ho,_⟩:=jV hir;have mw:=(Array.getElem?_eq_some_iff.1 ho).1
   have XM:∀ k,k∈rem.erase i↔k < ops.size/\(listed.setIfInBounds i true).getD k true=false:=by
    intro k;rw [List.Nodup.mem_erase_iff hn];by_cases xZ:k=i
    ·subst xZ;simp [dp,mw]
    ·rw [getD_set_ne true (Ne.symm xZ)]
     grind
   grind [EC,tQ,Fg,isE,gi,An,tR,lr]
end
section
variable {X:Ctx} {st:St} {E:En} {a:Act} {w:World}
end
section
variable {X:Ctx} {st:St} {k:List It} {E:En} {a:Act} {w:World} {ops:Array Oper} {C:Nat->World->Prop} {Q:Act->World->Prop} {W:Nat->Nat->Bool} {T:kO}
theorem SO {i:Nat} {o:Oper} (hR:Rel X E st a w) (ho:ops[i]? = some o) (hL:isL o.op=false) (hg:o.guard=none) {s:DV} (hs:pureT X.P X.T ⟨st.sl,[],[]⟩ [] o.op=some s) (hd:eZ X.nt st.sl o.dst=true)
  (hk:∀ a',Rel X E (st.put o.dst ⟨[],s⟩) a' w->runS2 X.P ops W C Q T a' w):runS2 X.P ops W C Q (.op i T) a w:=by
 have kS:Rl E [] (fun _=>False) st.sl a:=⟨hR.tm,fun i cs hi=>by simp at hi,fun _ _ _ _ h=>h.elim⟩;obtain ⟨v,hv,cf⟩:=gf (st:=⟨st.sl,[],[]⟩) X.hT kS (aV _) hs;exact ⟨o,ho,v,.inl ⟨fu hg,fun w' _=>cf w' fun h=>by rw [hL] at h;cases h⟩,fun h=>(by rw [hL] at h;cases h),hk _ (bF hR hd s v hv)⟩
theorem Na {i:Nat} {o:Oper} (hR:Rel X E st a w) (ho:ops[i]? = some o) {bx:List (List DV)} (kS:Rl E bx (C i) st.sl a) (UD:C i w) (hg:o.guard=none) {s:DV} (hs:pureT X.P X.T ⟨st.sl,bx,[]⟩ [] o.op=some s) (hd:eZ X.nt st.sl o.dst=true)
  (hk:∀ a',Rel X E (st.put o.dst ⟨[],s⟩) a' w->runS2 X.P ops W C Q T a' w):runS2 X.P ops W C Q (.op i T) a w:=by
 obtain ⟨v,hv,cf⟩:=gf (st:=⟨st.sl,bx,[]⟩) X.hT kS (aV _) hs;exact ⟨o,ho,v,.inl ⟨fu hg,fun w' h=>cf w' h⟩,fun _=>UD,hk _ (bF hR hd s v hv)⟩
theorem drawG_2 {id:Nat} (W:Nat->Nat->Bool) (T:kO) (hm:X.P.follows .mixedOrders=true) (hc:(SF ops && wu ops W && chkA ops T (List.range ops.size) none)=true)
  (h:∀ E a w,Rel X E st a w->∃ C,runS2 X.P ops W C (kq X k .normal) T a w):rH X id ops k st:=by
 intro E a w hr;have Bd:=n9 hr;simp only [aZ] at hc;obtain ⟨⟨hN,hP⟩,hT⟩:=hc;simp only [SF,aZ,List.all_eq_true,List.mem_range] at hN;obtain ⟨C,cf⟩:=h E a w.drew Bd;refine wp_region_any hm ?_;refine Gc (C:=C) (Q:=kq X k .normal) (Region.noSelect_spec hN.1) hP (fun i o ho e he hb=>?_) (fun a w hq=>hq) ops.size (Array.replicate ops.size false) (List.range ops.size) a _ (by simp) ?_ List.nodup_range ?_ (by simp) ⟨T,hT,cf⟩
 ·have h1:=hN.2 i (Array.getElem?_eq_some_iff.1 ho).1;rw [ho] at h1;have h2:=List.all_eq_true.1 h1 e (sU he);rw [hb] at h2;simpa using h2
 ·simp_all
 ·intro k o ho hk
  grind
end
end Dv
end Go.Proofs.YtfdedoiiahbnnaaGreat
namespace Go.Proofs.YtfdedoiiahbnnaaGreat
namespace Dv
open Go Go.RowKit
section
variable {X:Ctx} {st:St} {E:En} {a:Act} {w:World}
theorem ED {o:Oper} {ty i off n:Nat} {p x:Operand} {d:DV} {cs:List DV} (h:Rel X E st a w) (ho:o.op = .store ty p x) (hp:rv st [] p=some (.loc i off)) (hx:rv st [] x=some d) (hn:X.T.sz ty=some n) (cr:st.bx[i]? = some cs)
  (hc:(Nat.blt 0 n && Nat.beq d.cells.length n && Nat.ble (off + n) cs.length)=true) (bV:X.still=false) :
  ∃ w',(execOp a.eval o).run X.P w = .ok .skip w' /\ Rel X E ⟨st.sl,st.bx.set i (cs.take off ++ d.cells ++ cs.drop (off + d.cells.length)),st.tk⟩ a w':=by
 have kS:=h.rl;simp only [aZ,Nat.beq_eq,Nat.ble_eq,Nat.blt_eq] at hc;have hn:=yp X.hT hn;have e1:=aW kS hp;unfold Rv at e1;obtain ⟨b,hb,e1⟩:=e1;have e2:=aW kS hx;have hvc:=e2.cells (fZ hc.1.2 (by omega));obtain ⟨b',x7,arr,dZ,hw,hca⟩:=h.env.dQ i cs cr;rw [hb] at dZ;simp only [oI] at dZ;subst dZ;have Qg:arr.length=cs.length:=hca.1.length;have uZ:(a.eval x).cells.toList.length=n:=by rw [hvc.1.length];exact hc.1.2
 have Mh:=ie (P:=X.P) (off:=off) hw hn uZ (by simp;omega) (List.all_eq_true.2 hvc.2);refine ⟨World.c7 w b (.cells ((arr.take off ++ (a.eval x).cells.toList ++ arr.drop (off + n)).toArray) x7 (0,0)),?_,?_⟩
 ·simp only [execOp,ho,e1,Instr.storeAt,Instr.sureAddr,Sem.run_bind,Sem.run_pure,Result.andThen_ok,Mh]
 ·have dn:RvC E (cs.take off ++ d.cells ++ cs.drop (off + d.cells.length)) (arr.take off ++ (a.eval x).cells.toList ++ arr.drop (off + n)):=by
   rw [hc.1.2];exact ((hca.take off).append hvc).append (hca.drop _)
  exact iv (ty:=x7) h bV hb dn ⟨_,hw⟩
end
section
variable {X:Ctx} {st:St} {E:En} {a:Act} {w:World}
theorem C0 {ops:Array Oper} {W:Nat->Nat->Bool} {C:Nat->World->Prop} {Q:Act->World->Prop} {T T':kO} {i:Nat} {o:Oper} (ho:ops[i]? = some o) (hg:o.guard=none) (h:wq X.P o a w fun a' w'=>(∀ j,W i j=false->C j w->C j w')/\runS2 X.P ops W C Q T a' w') (halt:runS2 X.P ops W C Q T' a w):runS2 X.P ops W C Q (.ev i T T') a w:=
 ⟨⟨o,ho,by unfold dC;rw [aj (fu hg)];exact h⟩,halt⟩
theorem LH {o:Oper} {f:Operand} {args:Array Operand} {TS:Array TypeId} {g:FuncId} {fi ca ds:List DV} {K:Act->World->Prop} (hR:Rel X E st a w) (hop:o.op = .call ⟨.value f,args,TS⟩) (hf:rv st [] f=some (.fn g fi ca)) (hl:argsV st [] args.toList=some ds) (fN:Enters X.P g)
  (hc:∀ vs,RvL E (fi ++ ds ++ ca) vs->Calls X.P g vs.toArray w fun e w'=>∃ v,e = .returned v/\K (a.put o.dst v) w'):wq X.P o a w K:=by
 have kS:=hR.rl;have e1:=aW kS hf;unfold Rv at e1;obtain ⟨l1,r1,e1,qh,hr1⟩:=e1;have hargs:=gd kS (aV _) _ _ hl;have kk:=(qh.append hargs).append hr1;obtain ⟨dst,op,ty,pos,after,gu⟩:=o;simp only at hop;subst hop
 have hr:(execOp a.eval ⟨dst,.call ⟨.value f,args,TS⟩,ty,pos,after,gu⟩).run X.P w = .ok (.enter g (l1 ++ args.toList.map a.eval ++ r1).toArray) w:=by
  have e3:(l1.toArray ++ args.map a.eval ++ r1.toArray)=(l1 ++ args.toList.map a.eval ++ r1).toArray:=by apply Array.ext';simp
  simp only [execOp,resolve,e1,Deferred.ofValue,Sem.run_bind,Sem.run_pure,Result.andThen_ok,invoke,e3];exact fN _ _
 unfold wq;rw [hr];exact hc _ kk
section
variable {ops:Array Oper} {W:Nat->Nat->Bool} {C:Nat->World->Prop} {Q:Act->World->Prop} {T T':kO} {i:Nat} {o:Oper}
theorem Je {st':St} (hR:Rel X E st a w) (ho:ops[i]? = some o) (hg:o.guard=none) (hop:WS X o st st') (hk:∀ a' E' w',Rel X E' st' a' w' -> DC none E w E' w' -> (∀ j,W i j=false->C j w->C j w')/\runS2 X.P ops W C Q T a' w') (halt:runS2 X.P ops W C Q T' a w):runS2 X.P ops W C Q (.ev i T T') a w:=
 C0 ho hg (lX (fun a' w' ⟨E',h1,h2⟩=>hk a' E' w' h1 h2) (hop E a w hR)) halt
theorem EE {S':St} {p:Prop} (hR:Rel X E st a w) (ho:ops[i]? = some o) (hg:o.guard=none) (hd:eZ X.nt st.sl o.dst=true) (hp:effC X st o (fun s=>s=S')=some p) (h:p) (hk:∀ a' E' w',Rel X E' S' a' w' -> DC (stObj st o.op) E w E' w' -> (∀ j,W i j=false->C j w->C j w')/\runS2 X.P ops W C Q T a' w') (halt:runS2 X.P ops W C Q T' a w):runS2 X.P ops W C Q (.ev i T T') a w:=
 C0 ho hg (lX (fun a' w' ⟨st',E',h1,h2,h3⟩=>hk a' E' w' (h1 ▸ h2) h3) (mY hd hR hp h)) halt
theorem EF {f:Operand} {args:Array Operand} {TS:Array TypeId} {g:FuncId} {fi ca ds bE:List DV} {os:List (List DV)} (hR:Rel X E st a w) (ho:ops[i]? = some o) (hg:o.guard=none) (hop:o.op = .call ⟨.value f,args,TS⟩) (hf:rv st [] f=some (.fn g fi ca)) (hl:argsV st [] args.toList=some ds) (fN:Enters X.P g)
  (n1 m1:Nat) (rN:Nat.ble n1 st.bx.length=true) (vC:Nat.ble m1 st.tk.length=true) (pg:ki [] n1 n1 m1 os (st.bx.take n1)) (ha:CcL [] n1 n1 m1 bE (fi ++ ds ++ ca)) {Φ:DV->List (List DV)->List TkE->Prop} (hc:Ev X.P g bE os (st.tk.take m1) Φ) (bV:X.still=false) (hX:X.bt=[])
  (hk:∀ v r' fM cK E' w',Φ r' fM cK -> fM.length=n1->cK.length=m1->Rel X E' ⟨st.sl,fM ++ st.bx.drop n1,cK ++ st.tk.drop m1⟩ a w' -> Rv E' r' v->Ext E E' -> E'.β=E.β->(∀ (i:Nat) b,n1<=i->E.β[i]? = some b->w'.heap[b]? = w.heap[b]?)->(∀ j,W i j=false->C j w->C j w')/\runS2 X.P ops W C Q T (a.put o.dst v) w')
  (halt:runS2 X.P ops W C Q T' a w):runS2 X.P ops W C Q (.ev i T T') a w:=
 C0 ho hg (LH hR hop hf hl fN (fun vs hv=>(sR n1 m1 rN vC pg ha hc bV hX hR hv).mono (fun e w' ⟨v,r',fM,cK,E',h1,h2,h3,h4,h5,h6,h7,h8,h9⟩=>⟨v,h1,hk v r' fM cK E' w' h2 h3 h4 h5 h6 h7 h8 h9⟩))) halt
end
theorem Jf {ops:Array Oper} {W:Nat->Nat->Bool} {C:Nat->World->Prop} {k:List It} {i6 i7 i8:Nat} {o6 o7 o8:Oper} {d1 kt t ty et e j6 m EA nn XN n8 i off:Nat} {bb:Bool} {zz:List Value} {z:Int} {kd:IntKind} {es:List (List DV)} {cs cs' TU:List DV} {s ix x p x8:Operand} {dv d8:DV}
  (hR:Rel X E st a w) (XO:∀ j,W i7 j=true) (XP:∀ j,W i8 j=true)
  (g6:ops[i6]? = some o6) (g7:ops[i7]? = some o7) (g8:ops[i8]? = some o8) (h6:o6.op = .indexAddr t s ix/\o6.dst=some d1/\o6.guard=none) (h7:o7.op = .store ty (.tmp d1) x/\o7.dst=none/\o7.guard=none) (h8:o8.op = .store XN p x8/\o8.dst=none/\o8.guard=none)
  (FU:eZ X.nt st.sl (some d1)=true) (hs:rv st [] s=some (.sl 0 es (some kt))) (hi:rv st [] ix=some (.v (.int kd z)))
  (hx:∀ bx,rv ⟨(d1,⟨[],.pt [] 0⟩) :: st.sl,bx,st.tk⟩ [] x=some dv) (TQ:eraL dv.cells (fun l=>some l)=some cs') (JW:dv.cells.length=e) (V7:0 < e)
  (hp:∀ tk,rv ⟨(d1,⟨[],.pt [] 0⟩) :: st.sl,st.bx,tk⟩ [] p=some (.loc i off)) (XQ:∀ tk,rv ⟨(d1,⟨[],.pt [] 0⟩) :: st.sl,st.bx,tk⟩ [] x8=some d8) (XR:X.T.sz XN=some n8) (SP:st.bx[i]? = some TU)
  (XS:(Nat.blt 0 n8 && Nat.beq d8.cells.length n8 && Nat.ble (off + n8) TU.length)=true)
  (hT:X.T.find t=some ⟨nn,bb,.sl et e j6,zz⟩) (dp:X.T.sz ty=some e) (hq:st.tk[kt]? = some ⟨m,EA,e,some cs⟩) (ph:es.length=m) (hz:0<=z/\z < m)
  (hk:go X 4000 k ⟨(d1,⟨[],.pt [] 0⟩) :: st.sl,st.bx.set i (TU.take off ++ d8.cells ++ TU.drop (off + d8.cells.length)),st.tk.set kt ⟨m,EA,e,some (cs.take (z.toNat * e) ++ cs' ++ cs.drop (z.toNat * e + e))⟩⟩)
  (bV:X.still=false:=by exact rfl):runS2 X.P ops W C (kq X k .normal) (.op i6 (.ev i7 (.ev i8 .fin .stop) (.ev i8 (.ev i7 .fin .stop) .stop))) a w:=by
 have kS:=hR.rl;have e2:=cx (aW kS hi);have hv:=aW kS hs;obtain ⟨g,cap,cur,e1,_⟩:=Ez hR hv hq ph (by omega);have hr1:Rel X E ⟨(d1,⟨[],.pt [] 0⟩) :: st.sl,st.bx,st.tk⟩ (a.put (some d1) (.pointer (some ⟨g,z.toNat * e,none⟩))) w:=bF hR FU (.pt [] 0) _ (by unfold Rv;exact ⟨g,z.toNat * e,rfl,by simp only [RvAt]⟩)
 have SL:(a.put (some d1) (.pointer (some ⟨g,z.toNat * e,none⟩))).eval (.tmp d1) = .pointer (some ⟨g,z.toNat * e,none⟩):=by
  simp only [eZ,aZ,Nat.blt_eq] at FU;simp [Act.eval,Act.put,hR.sz,FU.1]
 have hL1:isL o6.op=false:=by rw [h6.1];all_goals rfl
 simp only [runS2];refine ⟨_,g6,.pointer (some ⟨g,z.toNat * e,none⟩),.inl ⟨fu h6.2.2,fun w9 _=>LF h6.1 e1 e2 hT hz w9⟩,fun h9=>(by rw [hL1] at h9;cases h9),?_⟩;rw [h6.2.1];generalize a.put (some d1) (.pointer (some ⟨g,z.toNat * e,none⟩))=a1 at hr1 SL ⊢;have w7:=fu (ops:=ops) (a:=a1) h7.2.2;have w8:=fu (ops:=ops) (a:=a1) h8.2.2;refine ⟨⟨_,g7,?_⟩,⟨_,g8,?_⟩,trivial⟩
 ·unfold dC;rw [aj w7];obtain ⟨w1,E1,cf,la⟩:=EB hr1 h7.1 SL hv e1 (hx _) TQ JW V7 dp hq ph hz bV;refine lY cf ?_;rw [h7.2.1,show a1.put none undef=a1 from rfl];refine ⟨fun j hj=>(by rw [XO] at hj;cases hj),⟨_,g8,?_⟩,trivial⟩;rw [aj w8];obtain ⟨w2,Jg,OL⟩:=ED la h8.1 (hp _) (XQ _) XR SP XS bV;refine lY Jg ?_;rw [h8.2.1];exact ⟨fun j hj=>(by rw [XP] at hj;cases hj),go_sound 4000 _ _ hk _ _ _ OL⟩
 ·unfold dC;rw [aj w8];obtain ⟨w1,cf,la⟩:=ED hr1 h8.1 (hp _) (XQ _) XR SP XS bV;refine lY cf ?_;rw [h8.2.1,show a1.put none undef=a1 from rfl];refine ⟨fun j hj=>(by rw [XP] at hj;cases hj),⟨_,g7,?_⟩,trivial⟩;rw [aj w7];obtain ⟨w2,E2,Jg,OL⟩:=EB la h7.1 SL hv e1 (hx _) TQ JW V7 dp hq ph hz bV;refine lY Jg ?_;rw [h7.2.1];exact ⟨fun j hj=>(by rw [XO] at hj;cases hj),go_sound 4000 _ _ hk _ _ _ OL⟩
end
end Dv
end Go.Proofs.YtfdedoiiahbnnaaGreat
set_option maxRecDepth 100000
namespace Go.Proofs.YtfdedoiiahbnnaaGreat
open Go Go.RowKit Dv Go.Proofs.Tryz
abbrev yg (n:Nat):List DV:=[.sl 0 (List.replicate n []) (some 0)]
abbrev Bf (n:Nat) (cs:List DV):TkE:=⟨n,133,18,some cs⟩
abbrev oQ:List Value:=[.string ⟨#[]⟩,.int .i64 0,.bool false,.slice none 0 0,.int .i64 0,.int .i64 0,.int .i64 0,.int .i64 0,.slice none 0 0,.int .i64 0,.int .i64 0,.int .i64 0,.int .i64 0,.int .i64 0,.slice none 0 0,.slice none 0 0,.string ⟨#[]⟩,.int .i64 0]
theorem Ap (g:Nat) (fN:Enters prog g) (c C1:aq) (x:Ph) (t:Ty) (gR:Ev prog g [gI] [aJ c] [] (kN (.agg (j9 x (di t))) C1)) (n:Nat) (hn:n<=274877906945) (cs:List DV) (cr:cs.length=n * 18) :
  Ev prog 338 [.loc 3 0,.loc 2 0] [aJ c,jx,[.fn g [gI] []],yg n] [Bf n cs] (fun r os tk=>r = .cp []/\os=[aJ C1,jx,[.fn g [gI] []],yg (n + 1)]/\tk=[Bf (n + 1) (cs ++ j9 x (di t))]):=by
 obtain ⟨th,tp⟩:=t;obtain ⟨⟨ns,na⟩,bare,lb,wide,ck,cn,ca,cl⟩:=x;obtain ⟨l,p,d,f1,f2⟩:=c;obtain ⟨l1,p1,d1,f11,f21⟩:=C1;refine eG 9 [] func338 rfl ntmps338 rfl fun _ _ _ _=>?_
 have hE:(cs ++ [vL oQ].flatten).take (((List.replicate n ([]:List DV)).length:Int).toNat * 18) ++ j9 ⟨⟨ns,na⟩,bare,lb,wide,ck,cn,ca,cl⟩ (di (.mk th tp)) ++ (cs ++ [vL oQ].flatten).drop (((List.replicate n ([]:List DV)).length:Int).toNat * 18 + 18)=cs ++ j9 ⟨⟨ns,na⟩,bare,lb,wide,ck,cn,ca,cl⟩ (di (.mk th tp)):=by
  have hz : [vL oQ].flatten.length=18:=rfl;rw [List.length_replicate,mr,List.take_left' cr,List.drop_eq_nil_of_le (by rw [List.length_append,hz];omega),List.append_nil]
 refine drawG_2 (fun i _=>Nat.beq i 5 || Nat.beq i 7 || Nat.beq i 8) (.op 0 (.op 1 (.op 3 (.ev 2 (.ev 4 (.ev 5 (.op 6 (.ev 7 (.ev 8 .fin .stop) (.ev 8 (.ev 7 .fin .stop) .stop))) .stop) .stop) (.ev 4 (.ev 2 (.ev 5 (.op 6 (.ev 7 (.ev 8 .fin .stop) (.ev 8 (.ev 7 .fin .stop) .stop))) .stop) .stop) .stop))))) mo (by decide +kernel) (fun Ep ap wp hp=>⟨fun _ w'=>CC Ep [[],jx,[.fn g [gI] []],yg n] wp w',?_⟩);have N9:qT Ep [[],jx,[.fn g [gI] []],yg n] wp:=La hp.env [0];refine Na hp rfl (Eb hp N9 (fun w' h=>h)) ⟨fun _ _ _ _ _ _=>rfl,hp.env.sub⟩ rfl rfl rfl (fun a0 h0=>?_);refine Na h0 rfl (Eb h0 N9 (fun w' h=>h)) ⟨fun _ _ _ _ _ _=>rfl,hp.env.sub⟩ rfl rfl rfl (fun a1 h1=>?_);refine SO h1 rfl rfl rfl rfl rfl (fun a3 h3=>?_);refine EF h3 rfl rfl rfl rfl rfl fN 1 0 rfl rfl bU bU gR rfl rfl (fun v r fM cK E2 w2 hΦ _ _ SQ JT Be TP Wc=>?_) ?_
 ·obtain ⟨rfl,rfl,rfl⟩:=hΦ;refine ⟨fun j _ hC=>⟨fun i b cs' hb cr bM=>?_,fun x u hx=>SQ.env.sub x u (Be.c x u hx)⟩,?_⟩
  ·match i,cr with
   | 0,cr=>exact absurd (Option.some.inj cr).symm bM
   | i + 1,cr=>rw [Wc (i + 1) b (by omega) hb]
  have h2:=bF SQ (show eZ _ _ (some 4)=true from rfl) _ v JT;refine Je h2 rfl rfl (I9 oQ rfl rfl rfl rfl rfl rfl) (fun a4 E4 w4 SR Aq=>⟨fun j _ hC=>⟨fun i b cs' hb cr bM=>?_,fun x u hx=>SR.env.sub x u (Aq.x.c x u (Be.c x u hx))⟩,?_⟩) trivial
  ·rw [Aq.o i b (by rw [TP];exact hb) (by simp)];exact hC.o i b cs' hb cr bM
  refine EE (S':=⟨[(7,⟨[],.sl 0 (List.replicate (n + 1) []) (some 0)⟩),(6,⟨[],.sl 18 [vL oQ] (some 1)⟩),(4,⟨[],.agg (j9 ⟨⟨ns,na⟩,bare,lb,wide,ck,cn,ca,cl⟩ (di (.mk th tp)))⟩),bQ 5 ((List.replicate n ([]:List DV)).length),(3,⟨[],.fn g [gI] []⟩),(2,⟨[],.sl 0 (List.replicate n []) (some 0)⟩),cE 0 3,cE 1 2],[aJ ⟨l1,p1,d1,f11,f21⟩,jx,[.fn g [gI] []],yg n],[Bf (n + 1) (cs ++ [vL oQ].flatten),⟨1,133,18,none⟩]⟩) SR rfl rfl rfl rfl ?_ (fun a5 E5 w5 Wf Wg=>⟨fun j hj=>(by cases hj),?_⟩) trivial
  ·exact ⟨⟨⟨by simp,by simp⟩,by simp [maxLen];omega,by simp;omega⟩,rfl⟩
  refine Jf (kt:=0) Wf (fun _=>rfl) (fun _=>rfl) rfl rfl rfl ⟨rfl,rfl,rfl⟩ ⟨rfl,rfl,rfl⟩ ⟨rfl,rfl,rfl⟩ rfl rfl rfl (fun _=>rfl) rfl rfl (Nat.succ_pos 17) (fun _=>rfl) (fun _=>rfl) rfl rfl rfl rfl rfl rfl (by simp) ⟨by simp,by simp;omega⟩ ?_;exact ⟨.cp [],[aJ ⟨l1,p1,d1,f11,f21⟩,jx,[.fn g [gI] []],yg (n + 1)],bU,bU,rfl,rfl,congrArg (fun z=>[Bf (n + 1) z]) hE⟩
 ·refine Je h3 rfl rfl (I9 oQ rfl rfl rfl rfl rfl rfl) (fun a4 E4 w4 SR Aq=>⟨fun j _ hC=>⟨fun i b cs' hb cr bM=>?_,fun x u hx=>SR.env.sub x u (Aq.x.c x u hx)⟩,?_⟩) trivial
  ·rw [Aq.o i b hb (by simp)]
  obtain ⟨rβ,hβ4⟩:=Aq.β;refine EF SR rfl rfl rfl rfl rfl fN 1 0 rfl rfl bU bU gR rfl rfl (fun v r fM cK E2 w2 hΦ _ _ SQ JT Be TP Wc=>?_) trivial;obtain ⟨rfl,rfl,rfl⟩:=hΦ;refine ⟨fun j _ hC=>⟨fun i b cs' hb cr bM=>?_,fun x u hx=>SQ.env.sub x u (Be.c x u (Aq.x.c x u hx))⟩,?_⟩
  ·match i,cr with
   | 0,cr=>exact absurd (Option.some.inj cr).symm bM
   | i + 1,cr=>
    rw [Wc (i + 1) b (by omega) (Aq.x.β (i + 1) b hb)];exact hC.o (i + 1) b cs' hb cr bM
  have h2:=bF SQ (show eZ _ _ (some 4)=true from rfl) _ v JT;refine EE (S':=⟨[(7,⟨[],.sl 0 (List.replicate (n + 1) []) (some 0)⟩),(4,⟨[],.agg (j9 ⟨⟨ns,na⟩,bare,lb,wide,ck,cn,ca,cl⟩ (di (.mk th tp)))⟩),(6,⟨[],.sl 18 [vL oQ] (some 1)⟩),bQ 5 ((List.replicate n ([]:List DV)).length),(3,⟨[],.fn g [gI] []⟩),(2,⟨[],.sl 0 (List.replicate n []) (some 0)⟩),cE 0 3,cE 1 2],[aJ ⟨l1,p1,d1,f11,f21⟩,jx,[.fn g [gI] []],yg n],[Bf (n + 1) (cs ++ [vL oQ].flatten),⟨1,133,18,none⟩]⟩) h2 rfl rfl rfl rfl ?_ (fun a5 E5 w5 Wf Wg=>⟨fun j hj=>(by cases hj),?_⟩) trivial
  ·exact ⟨⟨⟨by simp,by simp⟩,by simp [maxLen];omega,by simp;omega⟩,rfl⟩
  refine Jf (kt:=0) Wf (fun _=>rfl) (fun _=>rfl) rfl rfl rfl ⟨rfl,rfl,rfl⟩ ⟨rfl,rfl,rfl⟩ ⟨rfl,rfl,rfl⟩ rfl rfl rfl (fun _=>rfl) rfl rfl (Nat.succ_pos 17) (fun _=>rfl) (fun _=>rfl) rfl rfl rfl rfl rfl rfl (by simp) ⟨by simp,by simp;omega⟩ ?_;exact ⟨.cp [],[aJ ⟨l1,p1,d1,f11,f21⟩,jx,[.fn g [gI] []],yg (n + 1)],bU,bU,rfl,rfl,congrArg (fun z=>[Bf (n + 1) z]) hE⟩
section
variable {K:RS->Ty × RS} {d:Int} (hK:∀ q,El q->cw prog 183 [.agg (Xy q),.v (.int .i64 d)] (.cp [.agg (di (K q).1),.agg (Xy (K q).2)])) (hk:∀ q,El q->El (K q).2)
include hK hk
end
def xM (l:List (Ph × Ty)):List (List DV):=l.map (fun p=>j9 p.1 (di p.2))
theorem EG (l:List (Ph × Ty)):(xM l).length=l.length:=List.length_map ..
theorem LI (l:List (Ph × Ty)) (p:Ph) (t:Ty):xM l ++ [j9 p (di t)]=xM (l ++ [(p,t)]):=by simp [xM]
abbrev mQ {α:Type} (f:aq->α->aq × α) (e:ByteArray) (N:Nat) (c:aq) (a:α):aq × α:=mP true f e N c a
theorem wy {α:Type} {A B C:α->List DV} {T:α->TkE} {f:aq->α->aq × α} {Inv:aq->α->Prop} {g i j:Nat} (hi:i < 4) (hj:j < 4) (hA:∀ a,clB.clL 4 1 (A a)=true) (hB:∀ a,clB.clL 4 1 (B a)=true) (hC:∀ a,clB.clL 4 1 (C a)=true) (fN:Enters prog g)
  (gR:∀ c a,av c->Inv c a->c.f.1=0->tw A B C T f Inv g i j c a) (z7:∀ c a,av c->Inv c a->Inv (c.ae ⟨#[44]⟩) a) (e:ByteArray) (N:Nat) (c:aq) (a:α) (hc:av c) (ha:Inv c a) (hN:c.l.length<=c.p + N) :
  Ev prog 160 [gI,.v (.string e),(.v (.bool true)),.fn g [] [.loc i 0,.loc j 0]] [aJ c,A a,B a,C a] [T a]
   (fun r os tk=>r = .cp []/\os=[aJ (mQ f e N c a).1,A (mQ f e N c a).2,B (mQ f e N c a).2,C (mQ f e N c a).2]/\tk=[T (mQ f e N c a).2]):=
 zZ (A:=A) (B:=B) (C:=C) (T:=T) (f:=f) (Inv:=Inv) true hi hj hA hB hC fN gR z7 e N c a hc ha hN
abbrev Wh (c:aq) (g:Nat) (tag:Bool):St:=⟨[NY 1 (!tag),cE 3 1,cE 5 2,cE 7 3],[aJ c,jx,[.fn g [gI] []],yg 0],[Bf 0 []]⟩
theorem LJ (p:Ph) (t:Ty):(j9 p (di t)).length=18:=by
 obtain ⟨h,ps⟩:=t;rfl
theorem Jh {l:List (Ph × Ty)}:∀ x∈xM l,x.length=18:=fun x hx=>by
 obtain ⟨y,_,rfl⟩:=List.mem_map.1 hx;exact LJ _ _
theorem Ji:∀ {l:List (List DV)},(∀ x∈l,x.length=18)->l.flatten.length=l.length * 18
 | [],_=>rfl
 | x :: r,h=>by
  rw [List.flatten_cons,List.length_append,h x (by simp),Ji (fun y hy=>h y (eB _ hy)),List.length_cons];omega
theorem Jj (l:List (Ph × Ty)):(xM l).flatten.length=l.length * 18:=by rw [Ji Jh,EG]
def Nb (c:aq) (a:List (Ph × Ty)):Prop:=a.length<=c.p∨(c.f.1≠0/\a.length<=c.p + 1)
theorem pY {c:aq} (h:c.ai.f.1=0):c.ai.p=c.p + 1:=by grind [aq.ai,aq.step,vX,fj]
section
variable {K:aq->Ty × aq} {D:Nat} (hk:CU K D)
include hk
theorem LK {tag:Bool} {c:aq} (h:av c) (hd:c.d=D) (h0:(cq K tag c).2.f.1=0):c.p + 1<=(cq K tag c).2.p:=by
 unfold cq at h0 ⊢
 cases tag with
 | true=>
  rw [aj rfl] at h0 ⊢;unfold gW at h0 ⊢;split at h0
  ·rename_i hi;rw [aj hi];have o1:av c.ai.step:=h.ai.step;have d1:c.ai.step.d=D:=by rw [(aK.step _).d,(aK.ai _).d,hd]
   have e1:=pY (Sm.cZ (by decide) hi);have e2:=(aK.step c.ai).p;have e3:=(hk.st o1 d1).p;have e4:=(aK.ae (K c.ai.step).2 aX).p;have e5:=(@gx (iU c.aH false) _ _ (Sm.self ((hk.ok o1 d1).ae aX))).st.p;show c.p + 1<=(bB _ _).2.p;omega
  ·grind [pY]
 | false=>
  rw [af (by simp)] at h0 ⊢;have d1:(c.ai.ae b9).d=D:=by rw [(aK.ae _ _).d,(aK.ai _).d,hd]
  have o1:=h.ai.ae b9;have h0:(bB (iU c.aH false) (K (c.ai.ae b9)).2).2.f.1=0:=h0;have f1:=hk.fine o1 d1 (lQ h0);have e1:=pY (bc f1);have e2:=(aK.ae c.ai b9).p;have e3:=(hk.st o1 d1).p;have e5:=(@gx (iU c.aH false) _ _ (Sm.self (hk.ok o1 d1))).st.p;show c.p + 1<=(bB _ _).2.p;omega
theorem Ar {tag:Bool} {g:Nat} (fN:Enters prog g) (hP:∀ c,av c->c.d=D->Ev prog g [gI] [aJ c] [] (kN (.agg (j9 (cq K tag c).1.1 (di (cq K tag c).1.2))) (cq K tag c).2)) (c:aq) (a:List (Ph × Ty)) (h:av c) (hi:Nb c a/\c.d=D) (hf:c.f.1=0) :
  tw (fun _=>jx) (fun _=>[.fn g [gI] []]) (fun a=>yg a.length) (fun a=>Bf a.length (xM a).flatten) (jA K tag) (fun c a=>Nb c a/\c.d=D) 338 3 2 c a where
 ok:=(iC hk h hi.2).1
 l:=(iC hk h hi.2).2.l
 p:=(iC hk h hi.2).2.p
 inv:=by
  refine ⟨?_,by rw [show (jA K tag c a).1=(cq K tag c).2 from rfl,(iC hk h hi.2).2.d];exact hi.2⟩
  have ha:a.length<=c.p:=by
   rcases hi.1 with h1 | h1
   ·exact h1
   ·exact absurd hf h1.1
  show Nb (cq K tag c).2 (a ++ [(cq K tag c).1]);unfold Nb;rw [List.length_append,List.length_singleton];have e1:=(iC (tag:=tag) hk h hi.2).2.p;by_cases h0:(cq K tag c).2.f.1=0
  ·grind [LK]
  ·exact .inr ⟨h0,by omega⟩
 ev:=by
  have h1:=h.lt;have h2:=h.len
  have hl:a.length<=c.p:=by
   rcases hi.1 with h1 | h1
   ·exact h1
   ·exact absurd hf h1.1
  have hp:=hP c h hi.2;have e:=Ap g fN c (cq K tag c).2 (cq K tag c).1.1 (cq K tag c).1.2 hp a.length (by omega) (xM a).flatten (Jj a)
  have e1:yg (jA K tag c a).2.length=yg (a.length + 1):=by
   show yg (a ++ [(cq K tag c).1]).length=_;rw [List.length_append,List.length_singleton]
  have e2:Bf (jA K tag c a).2.length (xM (jA K tag c a).2).flatten=Bf (a.length + 1) ((xM a).flatten ++ j9 (cq K tag c).1.1 (di (cq K tag c).1.2)):=by
   show Bf (a ++ [(cq K tag c).1]).length (xM (a ++ [(cq K tag c).1])).flatten=_;rw [List.length_append,List.length_singleton,<- LI];simp
  rw [e1,e2];exact e
omit hk in
theorem EH (c:aq) (a:List (Ph × Ty)) (_:av c) (hi:Nb c a/\c.d=D):Nb (c.ae ⟨#[44]⟩) a/\(c.ae ⟨#[44]⟩).d=D:=by
 refine ⟨?_,by rw [(aK.ae _ _).d];exact hi.2⟩;rcases hi.1 with h1 | ⟨h1,h2⟩
 ·exact .inl (Nat.le_trans h1 (pT c _))
 ·rw [cG h1];exact .inr ⟨h1,h2⟩
end
section
variable {K:aq->Ty × aq} {D:Nat} (hk:CU K D)
include hk
theorem As {tag:Bool} {g:Nat} (fN:Enters prog g) (hP:∀ c,av c->c.d=D->Ev prog g [gI] [aJ c] [] (kN (.agg (j9 (cq K tag c).1.1 (di (cq K tag c).1.2))) (cq K tag c).2)) (c:aq) (h:av c) (hd:c.d=D) :
  Ev prog 160 [gI,.v (.string aU),.v (.bool (!tag)),.fn 338 [] [.loc 3 0,.loc 2 0]] [aJ (c.ae bm),jx,[.fn g [gI] []],yg 0] [Bf 0 []]
   (fun r os tk=>r = .cp []/\os=[aJ (cd K tag c).2,jx,[.fn g [gI] []],yg (cd K tag c).1.length]/\tk=[Bf (cd K tag c).1.length (xM (cd K tag c).1).flatten]):=by
 have o2:=h.ae bm;have d2:(c.ae bm).d=D:=by rw [(aK.ae _ _).d,hd]
 have hlen:=o2.len;have hb:=dX
 cases tag with
 | true=>
  have e:=nI (A:=fun _=>jx) (B:=fun _=>[.fn g [gI] []]) (C:=fun a=>yg a.length) (T:=fun a=>Bf a.length (xM a).flatten) (f:=jA K true) (Inv:=fun c a=>Nb c a/\c.d=D) (i:=3) (j:=2) (by decide) (by decide) (fun _=>rfl) (fun _=>rfl) (fun _=>rfl) MF
   (fun c a hc hi hf=>Ar hk fN hP c a hc hi hf) EH aU bigN _ [] o2 ⟨.inl (Nat.zero_le _),d2⟩ (by omega)
  exact e
 | false=>
  have e:=wy (A:=fun _=>jx) (B:=fun _=>[.fn g [gI] []]) (C:=fun a=>yg a.length) (T:=fun a=>Bf a.length (xM a).flatten) (f:=jA K false) (Inv:=fun c a=>Nb c a/\c.d=D) (i:=3) (j:=2) (by decide) (by decide) (fun _=>rfl) (fun _=>rfl) (fun _=>rfl) MF
   (fun c a hc hi hf=>Ar hk fN hP c a hc hi hf) EH aU bigN _ [] o2 ⟨.inl (Nat.zero_le _),d2⟩ (by omega)
  have hR:cd K false c=((mQ (jA K false) aU bigN (c.ae bm) []).2,(mQ (jA K false) aU bigN (c.ae bm) []).1):=by grind [cd,mP]
  rw [hR];exact e
theorem qL {tag:Bool} {g:Nat} (fN:Enters prog g) (hP:∀ c,av c->c.d=D->Ev prog g [gI] [aJ c] [] (kN (.agg (j9 (cq K tag c).1.1 (di (cq K tag c).1.2))) (cq K tag c).2)) (c:aq) (h:av c) (hd:c.d=D) :
  Ev prog 297 [gI,.v (.bool (!tag)),.fn g [gI] []] [aJ c] [] (kN (.sl 18 (xM (cd K tag c).1) none) (cd K tag c).2):=by
 have h1:=bR c h bm;have h2:=As hk fN hP c h hd;generalize cd K tag c=R at h2 ⊢;generalize c.is 4 bm=B at h1;generalize c.ae bm=c2 at h1 h2;obtain ⟨L,lc,lp,ld,XH,XI⟩:=R;obtain ⟨l,p,d,f1,f2⟩:=c;obtain ⟨l2,p2,d2,f12,f22⟩:=c2;simp only at h2;refine eG 16 [.tmp 6] func297 rfl ntmps297 rfl fun _ _ _ _=>?_;refine ak 1 eV h1 ?_;refine tz (Bf 0 []) (Wh ⟨l2,p2,d2,f12,f22⟩ g tag) rfl ?_ rfl ?_ ?_ rfl rfl ?_
 ·repeat' (first | exact rfl | exact aQ rfl | refine ⟨_,_,rfl,?_,?_⟩)
 ·repeat' (first | exact rfl | exact aQ rfl | exact dz (bn _) rfl | refine ⟨_,_,rfl,?_,?_⟩)
 ·repeat' (first | exact trivial | exact aQ rfl | refine ⟨⟨_,rfl,?_⟩,?_⟩)
 refine sS 4 1 DN rfl rfl rfl bU bU h2 (fun r fM cK hΦ _ _=>?_);obtain ⟨rfl,rfl,rfl⟩:=hΦ;refine ⟨_,OM (j:=3) (o:=0) (k:=0) (ty:=133) (e:=18) (ocs:=yg L.length) (n:=L.length) (es:=List.replicate L.length []) (ns:=xM L) rfl Jh (EG L) rfl rfl (by simp),?_⟩;exact ⟨.sl 18 (xM L) none,[aJ _],bU,bU,rfl,rfl,rfl⟩
end
abbrev LL (a:Int) (l:List Wd):List DV:=[.v (.int .i64 4),.v (.int .i64 a),.v (.int .i64 0),.v (.int .i64 0),.v (.int .i64 0),.sl 2 (bZ l) (some 0),.v (.slice none 0 0),.v (.string ⟨#[]⟩),.v (.int .i64 0)]
abbrev Nc:List DV:=[.loc 1 0]
theorem Jk (a:Int) (l:List Wd) (w:Wd):LL a (l ++ [w])=[.v (.int .i64 4),.v (.int .i64 a),.v (.int .i64 0),.v (.int .i64 0),.v (.int .i64 0),.sl 2 (bZ l ++ [lg w]) (some 0),.v (.slice none 0 0),.v (.string ⟨#[]⟩),.v (.int .i64 0)]:=by simp [LL,bZ]
theorem C7 (c:aq) (h:av c) (dR:Int) (a:List Wd) (ha:a.length<=1099511627776):Ev prog 296 [.loc 3 0,.loc 2 0] [aJ c,LL dR a,jx,Nc] [vW a]
  (fun r os tk=>r = .cp []/\os=[aJ c.ai,LL dR (a ++ [c.aH]),jx,Nc]/\tk=[vW (a ++ [c.aH])]):=by
 have hn:=dB c h;have hl:(bZ a).length=a.length:=aM a;generalize c.aH=W at hn ⊢;generalize c.ai=C1 at hn ⊢;obtain ⟨l,p,d,f1,f2⟩:=c;obtain ⟨l1,p1,d1,f11,f21⟩:=C1;obtain ⟨ws,wa⟩:=W;refine eG 13 [] func296 rfl ntmps296 rfl fun _ _ _ _=>?_;refine cz [0] (fun i=>Nat.beq i 11) mo (by decide +kernel) ?_;refine ef 1 rfl lx rfl rfl bU bU hn (fun r fM hΦ _=>?_);obtain ⟨rfl,rfl,_⟩:=hΦ;refine ⟨hl,⟨by simp [maxLen,hl];omega,by simp [hl];omega⟩,?_⟩;rw [z8,Jk];exact ⟨.cp [],[aJ ⟨l1,p1,d1,f11,f21⟩,[.v (.int .i64 4),.v (.int .i64 dR),.v (.int .i64 0),.v (.int .i64 0),.v (.int .i64 0),.sl 2 (bZ a ++ [lg ⟨ws,wa⟩]) (some 0),.v (.slice none 0 0),.v (.string ⟨#[]⟩),.v (.int .i64 0)],jx,Nc],bU,bU,rfl,rfl,rfl⟩
theorem Jl (dR:Int) (c:aq) (a:List Wd) (h:av c) (hi:tB c a) (hf:c.f.1=0):tw (fun a=>LL dR a) (fun _=>jx) (fun _=>Nc) vW dP tB 296 3 2 c a where
 ok:=h.ai
 l:=(aK.ai c).l
 p:=(aK.ai c).p
 inv:=(Ek c a h hi hf).inv
 ev:=C7 c h dR a (by
  have h1:=h.lt;have h2:=h.len
  rcases hi with h3 | h3<;>omega)
theorem Gd (dR:Int) (c:aq) (h:av c):Ev prog 160 [gI,.v (.string aX),.v (.bool false),.fn 296 [] [.loc 3 0,.loc 2 0]] [aJ c,LL dR [],jx,Nc] [vW []]
  (fun r os tk=>r = .cp []/\os=[aJ (listF dP aX bigN c []).1,LL dR (listF dP aX bigN c []).2,jx,Nc]/\tk=[vW (listF dP aX bigN c []).2]):=by
 have hlen:=h.len;have hb:=dX;exact nI (A:=fun a=>LL dR a) (B:=fun _=>jx) (C:=fun _=>Nc) (T:=vW) (f:=dP) (Inv:=tB) (by decide) (by decide) (fun _=>rfl) (fun _=>rfl) (fun _=>rfl) Rg (fun c a hc hi hf=>Jl dR c a hc hi hf) Ab aX bigN c [] h (.inl (Nat.zero_le _)) (by omega)
abbrev SS (c:aq) (a:Int):St:=⟨[cE 3 2,cE 4 3],[aJ c,LL a [],jx,Nc],[vW []]⟩
section
variable {K:aq->Ty × aq} {D:Nat} (hK:∀ c,av c->c.d=D->Ev prog 166 [gI] [aJ c] [] (kN (.agg (di (K c).1)) (K c).2)) (hk:CU K D)
include hK hk
set_option maxHeartbeats 4000000 in
theorem C8 (w:ByteArray) (a:Int) (c:aq) (h:av c) (hd:c.d=D):Ev prog 249 [gI,.loc 1 0,.v (.string w)] [aJ c,tyO 0 a] []
  (fun r os tk=>r = .v (.bool (bJ K w a c).1)/\os=[aJ (bJ K w a c).2.2,di (bJ K w a c).2.1]/\tk=[]):=by
 have hPf:=fun c h hd=>qL (tag:=false) hk Rh (fun c h hd=>Am hK hk c h hd) c h hd;have hPt:=fun c h hd=>qL (tag:=true) hk Ri (fun c h hd=>Gb hK hk c h hd) c h hd;generalize hR:bJ K w a c=R;unfold bJ at hR;obtain ⟨l,p,d,f1,f2⟩:=c;refine eG 142 [.tmp 6] func249 rfl ntmps249 rfl fun _ _ _ _=>?_;by_cases e1:w=tA
 ·rw [aj e1] at hR;refine br (fun _=>?_) (fun g=>absurd e1 (sU g));subst hR;exact ⟨.v (.bool true),[aJ _,di _],bU,bU,rfl,rfl,rfl⟩
 refine br (fun g=>absurd (sU g) e1) (fun _=>?_);by_cases e2:w=CH
 ·rw [af e1,aj e2] at hR;have a1:=bR ⟨l,p,d,f1,f2⟩ h aN;have jI:=av.ae h aN;have wz:(aq.ae ⟨l,p,d,f1,f2⟩ aN).d=D:=((aK.ae _ _).d).trans hd;generalize aq.is ⟨l,p,d,f1,f2⟩ 4 aN=B1 at a1;generalize aq.ae ⟨l,p,d,f1,f2⟩ aN=c1 at a1 jI wz hR;obtain ⟨l1,p1,d1,f1,g1⟩:=c1;have a2:=jY ⟨l1,p1,d1,f1,g1⟩ jI;have C9:=av.bq jI;have GS:(aq.bq ⟨l1,p1,d1,f1,g1⟩).d=D:=((aK.bq _).d).trans wz;generalize aq.fA ⟨l1,p1,d1,f1,g1⟩=n2 at a2 hR;generalize aq.bq ⟨l1,p1,d1,f1,g1⟩=c2 at a2 C9 GS hR;obtain ⟨l2,p2,d2,f2,g2⟩:=c2;have a3:=bR ⟨l2,p2,d2,f2,g2⟩ C9 fX;have Jm:=av.ae C9 fX;have JY:(aq.ae ⟨l2,p2,d2,f2,g2⟩ fX).d=D:=((aK.ae _ _).d).trans GS;generalize aq.is ⟨l2,p2,d2,f2,g2⟩ 4 fX=B3 at a3;generalize aq.ae ⟨l2,p2,d2,f2,g2⟩ fX=c3 at a3 Jm JY hR;obtain ⟨l3,p3,d3,f3,g3⟩:=c3;have a4:=jY ⟨l3,p3,d3,f3,g3⟩ Jm;have Pr:=av.bq Jm;have SU:(aq.bq ⟨l3,p3,d3,f3,g3⟩).d=D:=((aK.bq _).d).trans JY;generalize aq.fA ⟨l3,p3,d3,f3,g3⟩=n4 at a4 hR;generalize aq.bq ⟨l3,p3,d3,f3,g3⟩=c4 at a4 Pr SU hR;obtain ⟨l4,p4,d4,f4,g4⟩:=c4;have a5:=bR ⟨l4,p4,d4,f4,g4⟩ Pr aX;have Wi:=av.ae Pr aX;have Wj:(aq.ae ⟨l4,p4,d4,f4,g4⟩ aX).d=D:=((aK.ae _ _).d).trans SU;generalize aq.is ⟨l4,p4,d4,f4,g4⟩ 4 aX=B5 at a5;generalize aq.ae ⟨l4,p4,d4,f4,g4⟩ aX=c5 at a5 Wi Wj hR;obtain ⟨l5,p5,d5,f5,g5⟩:=c5;refine br (fun _=>?_) (fun g=>absurd e2 (sU g));refine ak 1 eV a1 ?_;refine cz [0,1] (fun i=>Nat.beq i 5) mo (by decide +kernel) ?_;refine ef 1 rfl yP rfl rfl bU bU a2 (fun r fM hΦ _=>?_);obtain ⟨rfl,rfl,_⟩:=hΦ;refine ak 1 eV a3 ?_;refine cz [0,1] (fun i=>Nat.beq i 5) mo (by decide +kernel) ?_;refine ef 1 rfl yP rfl rfl bU bU a4 (fun r fM hΦ _=>?_);obtain ⟨rfl,rfl,_⟩:=hΦ;refine ak 1 eV a5 ?_;subst hR;exact ⟨.v (.bool true),[aJ _,di _],bU,bU,rfl,rfl,rfl⟩
 refine br (fun g=>absurd (sU g) e2) (fun _=>?_);by_cases e3:w=tC
 ·rw [af e1,af e2,aj e3] at hR;have a1:=nO _ h;generalize gK ⟨l,p,d,f1,f2⟩=c1 at a1 hR;obtain ⟨nn,l1,p1,d1,f1,g1⟩:=c1;refine br (fun _=>?_) (fun g=>absurd e3 (sU g));refine cz [0,1] (fun _=>false) mo (by decide +kernel) ?_;refine ef 1 rfl HH rfl rfl bU bU a1 (fun r fM hΦ _=>?_);obtain ⟨rfl,rfl,_⟩:=hΦ;subst hR;exact ⟨.v (.bool true),[aJ _,di _],bU,bU,rfl,rfl,rfl⟩
 refine br (fun g=>absurd (sU g) e3) (fun _=>?_);by_cases e4:w=tD
 ·rw [af e1,af e2,af e3,aj e4] at hR;have a1:=bR ⟨l,p,d,f1,f2⟩ h aN;have jI:=av.ae h aN;have wz:(aq.ae ⟨l,p,d,f1,f2⟩ aN).d=D:=((aK.ae _ _).d).trans hd;generalize aq.is ⟨l,p,d,f1,f2⟩ 4 aN=B1 at a1;generalize aq.ae ⟨l,p,d,f1,f2⟩ aN=c1 at a1 jI wz hR;obtain ⟨l1,p1,d1,f1,g1⟩:=c1;have a2:=Gd a ⟨l1,p1,d1,f1,g1⟩ jI;generalize listF dP aX bigN ⟨l1,p1,d1,f1,g1⟩ []=c2 at a2 hR;obtain ⟨⟨l2,p2,d2,f2',g2⟩,nl⟩:=c2;simp only at a2;refine br (fun _=>?_) (fun g=>absurd e4 (sU g));refine ak 1 eV a1 ?_;refine tz (vW []) (SS ⟨l1,p1,d1,f1,g1⟩ a) rfl ?_ rfl ?_ ?_ rfl rfl ?_
  ·repeat' (first | exact rfl | exact aQ rfl | refine ⟨_,_,rfl,?_,?_⟩)
  ·repeat' (first | exact rfl | exact aQ rfl | exact dz (bn _) rfl | refine ⟨_,_,rfl,?_,?_⟩)
  ·repeat' (first | exact trivial | exact aQ rfl | refine ⟨⟨_,rfl,?_⟩,?_⟩)
  refine rj 4 1 DN rfl rfl rfl bU bU a2 (fun r fM cK hΦ _ _=>?_);obtain ⟨rfl,rfl,rfl⟩:=hΦ;subst hR;exact ⟨.v (.bool true),[aJ _,di _],bU,bU,rfl,rfl,rfl⟩
 refine br (fun g=>absurd (sU g) e4) (fun _=>?_);by_cases e5:w=tE
 ·rw [af e1,af e2,af e3,af e4,aj e5] at hR;have a1:=bR ⟨l,p,d,f1,f2⟩ h aN;have jI:=av.ae h aN;have wz:(aq.ae ⟨l,p,d,f1,f2⟩ aN).d=D:=((aK.ae _ _).d).trans hd;generalize aq.is ⟨l,p,d,f1,f2⟩ 4 aN=B1 at a1;generalize aq.ae ⟨l,p,d,f1,f2⟩ aN=c1 at a1 jI wz hR;obtain ⟨l1,p1,d1,f1,g1⟩:=c1;have a2:=hK _ jI wz;have C9:=CU.ok hk jI wz;have GS:(K ⟨l1,p1,d1,f1,g1⟩).2.d=D:=((CU.st hk jI wz).d).trans wz;generalize K ⟨l1,p1,d1,f1,g1⟩=c2 at a2 C9 GS hR;obtain ⟨⟨th2,tp2⟩,l2,p2,d2,f2,g2⟩:=c2;have a3:=bR ⟨l2,p2,d2,f2,g2⟩ C9 cB;have Jm:=av.ae C9 cB;have JY:(aq.ae ⟨l2,p2,d2,f2,g2⟩ cB).d=D:=((aK.ae _ _).d).trans GS;generalize aq.is ⟨l2,p2,d2,f2,g2⟩ 4 cB=B3 at a3;generalize aq.ae ⟨l2,p2,d2,f2,g2⟩ cB=c3 at a3 Jm JY hR;obtain ⟨l3,p3,d3,f3,g3⟩:=c3;have a4:=jY ⟨l3,p3,d3,f3,g3⟩ Jm;have Pr:=av.bq Jm;have SU:(aq.bq ⟨l3,p3,d3,f3,g3⟩).d=D:=((aK.bq _).d).trans JY;generalize aq.fA ⟨l3,p3,d3,f3,g3⟩=n4 at a4 hR;generalize aq.bq ⟨l3,p3,d3,f3,g3⟩=c4 at a4 Pr SU hR;obtain ⟨l4,p4,d4,f4,g4⟩:=c4;have a5:=bR ⟨l4,p4,d4,f4,g4⟩ Pr aX;have Wi:=av.ae Pr aX;have Wj:(aq.ae ⟨l4,p4,d4,f4,g4⟩ aX).d=D:=((aK.ae _ _).d).trans SU;generalize aq.is ⟨l4,p4,d4,f4,g4⟩ 4 aX=B5 at a5;generalize aq.ae ⟨l4,p4,d4,f4,g4⟩ aX=c5 at a5 Wi Wj hR;obtain ⟨l5,p5,d5,f5,g5⟩:=c5;refine br (fun _=>?_) (fun g=>absurd e5 (sU g));refine ak 1 eV a1 ?_;refine cz [0,1] (fun i=>Nat.beq i 7) mo (by decide +kernel) ?_;refine ef 1 rfl vf rfl rfl bU bU a2 (fun r fM hΦ _=>?_);obtain ⟨rfl,rfl,_⟩:=hΦ;refine ak 1 eV a3 ?_;refine cz [0,1] (fun i=>Nat.beq i 5) mo (by decide +kernel) ?_;refine ef 1 rfl yP rfl rfl bU bU a4 (fun r fM hΦ _=>?_);obtain ⟨rfl,rfl,_⟩:=hΦ;refine ak 1 eV a5 ?_;subst hR;exact ⟨.v (.bool true),[aJ _,di _],bU,bU,rfl,rfl,rfl⟩
 refine br (fun g=>absurd (sU g) e5) (fun _=>?_);by_cases e6:w=CI
 ·rw [af e1,af e2,af e3,af e4,af e5,aj e6] at hR;have a1:=bR ⟨l,p,d,f1,f2⟩ h aN;have jI:=av.ae h aN;have wz:(aq.ae ⟨l,p,d,f1,f2⟩ aN).d=D:=((aK.ae _ _).d).trans hd;generalize aq.is ⟨l,p,d,f1,f2⟩ 4 aN=B1 at a1;generalize aq.ae ⟨l,p,d,f1,f2⟩ aN=c1 at a1 jI wz hR;obtain ⟨l1,p1,d1,f1,g1⟩:=c1;have a2:=hK _ jI wz;have C9:=CU.ok hk jI wz;have GS:(K ⟨l1,p1,d1,f1,g1⟩).2.d=D:=((CU.st hk jI wz).d).trans wz;generalize K ⟨l1,p1,d1,f1,g1⟩=c2 at a2 C9 GS hR;obtain ⟨⟨th2,tp2⟩,l2,p2,d2,f2,g2⟩:=c2;have a3:=bR ⟨l2,p2,d2,f2,g2⟩ C9 aX;have Jm:=av.ae C9 aX;have JY:(aq.ae ⟨l2,p2,d2,f2,g2⟩ aX).d=D:=((aK.ae _ _).d).trans GS;generalize aq.is ⟨l2,p2,d2,f2,g2⟩ 4 aX=B3 at a3;generalize aq.ae ⟨l2,p2,d2,f2,g2⟩ aX=c3 at a3 Jm JY hR;obtain ⟨l3,p3,d3,f3,g3⟩:=c3;refine br (fun _=>?_) (fun g=>absurd e6 (sU g));refine ak 1 eV a1 ?_;refine cz [0,1] (fun i=>Nat.beq i 7) mo (by decide +kernel) ?_;refine ef 1 rfl vf rfl rfl bU bU a2 (fun r fM hΦ _=>?_);obtain ⟨rfl,rfl,_⟩:=hΦ;refine ak 1 eV a3 ?_;subst hR;exact ⟨.v (.bool true),[aJ _,di _],bU,bU,rfl,rfl,rfl⟩
 refine br (fun g=>absurd (sU g) e6) (fun _=>?_);by_cases e7:w=CJ
 ·have Ps:¬ w=IZ:=by rw [e7];decide
  have Jn:¬ w=tF:=by rw [e7];decide
  rw [af e1,af e2,af e3,af e4,af e5,af e6,af Ps,af Jn,aj e7] at hR;have a1:=bR ⟨l,p,d,f1,f2⟩ h aN;have jI:=av.ae h aN;have wz:(aq.ae ⟨l,p,d,f1,f2⟩ aN).d=D:=((aK.ae _ _).d).trans hd;generalize aq.is ⟨l,p,d,f1,f2⟩ 4 aN=B1 at a1;generalize aq.ae ⟨l,p,d,f1,f2⟩ aN=c1 at a1 jI wz hR;obtain ⟨l1,p1,d1,f1,g1⟩:=c1;have a2:=dB ⟨l1,p1,d1,f1,g1⟩ jI;have C9:=av.ai jI;have GS:(aq.ai ⟨l1,p1,d1,f1,g1⟩).d=D:=((aK.ai _).d).trans wz;generalize aq.aH ⟨l1,p1,d1,f1,g1⟩=w2 at a2 hR;generalize aq.ai ⟨l1,p1,d1,f1,g1⟩=c2 at a2 C9 GS hR;obtain ⟨ws2,wa2⟩:=w2;obtain ⟨l2,p2,d2,f2,g2⟩:=c2;have a3:=bR ⟨l2,p2,d2,f2,g2⟩ C9 aX;have Jm:=av.ae C9 aX;have JY:(aq.ae ⟨l2,p2,d2,f2,g2⟩ aX).d=D:=((aK.ae _ _).d).trans GS;generalize aq.is ⟨l2,p2,d2,f2,g2⟩ 4 aX=B3 at a3;generalize aq.ae ⟨l2,p2,d2,f2,g2⟩ aX=c3 at a3 Jm JY hR;obtain ⟨l3,p3,d3,f3,g3⟩:=c3;refine br (fun _=>?_) (fun g=>absurd e7 (sU g));refine ak 1 eV a1 ?_;refine cz [0,1] (fun i=>Nat.beq i 5) mo (by decide +kernel) ?_;refine ef 1 rfl lx rfl rfl bU bU a2 (fun r fM hΦ _=>?_);obtain ⟨rfl,rfl,_⟩:=hΦ;refine ak 1 eV a3 ?_;subst hR;exact ⟨.v (.bool true),[aJ _,di _],bU,bU,rfl,rfl,rfl⟩
 refine br (fun g=>absurd (sU g) e7) (fun _=>?_);by_cases e8:w=IZ
 ·rw [af e1,af e2,af e3,af e4,af e5,af e6,aj e8] at hR;have a1:=hPf _ h hd;generalize cd K false ⟨l,p,d,f1,f2⟩=c1 at a1 hR;obtain ⟨pl,l1,p1,d1,f1,g1⟩:=c1;refine br (fun _=>?_) (fun g=>absurd e8 (sU g));refine cz [0,1] (fun _=>false) mo (by decide +kernel) ?_;refine ef 1 rfl MB rfl rfl bU bU a1 (fun r fM hΦ _=>?_);obtain ⟨rfl,rfl,_⟩:=hΦ;subst hR
  have hX:∀ bx N,CcE bx N (eF (mkPts pl)) (xM pl):=fun bx N=>by
   rw [xI];exact oe _
  exact ⟨.v (.bool true),[aJ _,di _],(rZ hX),(rZ hX),rfl,rfl,rfl⟩
 refine br (fun g=>absurd (sU g) e8) (fun _=>?_);by_cases e9:w=tF
 ·rw [af e1,af e2,af e3,af e4,af e5,af e6,af e8,aj e9] at hR;have a1:=hPt _ h hd;generalize cd K true ⟨l,p,d,f1,f2⟩=c1 at a1 hR;obtain ⟨pl,l1,p1,d1,f1,g1⟩:=c1;refine br (fun _=>?_) (fun g=>absurd e9 (sU g));refine cz [0,1] (fun _=>false) mo (by decide +kernel) ?_;refine ef 1 rfl MB rfl rfl bU bU a1 (fun r fM hΦ _=>?_);obtain ⟨rfl,rfl,_⟩:=hΦ;subst hR
  have hX:∀ bx N,CcE bx N (eF (mkPts pl)) (xM pl):=fun bx N=>by
   rw [xI];exact oe _
  exact ⟨.v (.bool true),[aJ _,di _],(rZ hX),(rZ hX),rfl,rfl,rfl⟩
 refine br (fun g=>absurd (sU g) e9) (fun _=>?_);rw [af e1,af e2,af e3,af e4,af e5,af e6,af e8,af e9,af e7] at hR;subst hR;exact ⟨.v (.bool false),[aJ _,di _],bU,bU,rfl,rfl,rfl⟩
end
theorem tS:∀ (n:Nat),n<=24->∀ c,av c->c.d=24 - n->Ev prog 166 [gI] [aJ c] [] (kN (.agg (di (pKind n c).1)) (pKind n c).2)
 | 0,_,c,h,hd=>by
  have hp:=dM c h;have he:=tq c h;have e1:c.enter=false:=by simp [aq.enter,hd]
  have e2:c.nG=c.fail 6:=by rw [aq.nG,aj hd]
  rw [e1,e2] at he;have hR:pKind 0 c=(Eo 0 c.aA.a,c.fail 6):=rfl;rw [hR];simp only;generalize c.fail 6=C1 at he ⊢;generalize c.aA=t at hp ⊢;obtain ⟨tk,ta,te,ts,tn⟩:=t;obtain ⟨l,p,d,f1,f2⟩:=c;obtain ⟨l1,p1,d1,f11,f21⟩:=C1;refine eG 42 [.cell 2 36] func166 rfl ntmps166 rfl fun _ _ _ _=>?_;refine ak 1 hU hp ?_;refine ak 1 HF he ?_;exact ⟨.agg (di _),[aJ _],bU,bU,rfl,rfl,rfl⟩
 | n + 1,hn,c,h,hd=>by
  have ih:=tS n (by omega);have hp:=dM c h;have he:=IX h (by omega);have JW:({ c with d:=c.d + 1 }:aq)=c.deep:=rfl;rw [JW] at he;have o1:=h.deep (show c.d < 24 by omega);have ht:=tj c.deep o1 1;have hT:c.deep.td 1=if c.deep.tk 1 then c.deep.aA else ⟨0,0,0,aY,0⟩:=rfl
  have hC:c.deep.PX 1=if c.deep.tk 1 then c.deep.step else c.deep:=rfl
  have M1:c.deep.aA=c.aA:=rfl;rw [hT,hC,M1] at ht
  have d2:c.deep.step.d=24 - n:=by
   rw [(aK.step _).d];show c.d + 1=_;omega
  have hb:=C8 ih (pW n (by omega)) c.aA.s c.aA.a c.deep.step o1.step d2;generalize hR:pKind (n + 1) c=R;rw [pKind,M1] at hR
  cases hB:c.deep.tk 1 with
  | false=>
   rw [hB,af (by simp)] at ht hR;rw [af (by simp)] at ht;subst hR;have hw:=gJ c.deep o1;have Nf:=nH c.deep.wrong o1.wrong;generalize c.deep.wrong.leave=C3 at Nf ⊢;generalize c.deep.wrong=C2 at hw Nf;generalize c.deep=C1 at he ht hw;generalize c.aA=t at hp ⊢;obtain ⟨tk,ta,te,ts,tn⟩:=t;obtain ⟨l,p,d,f1,f2⟩:=c;obtain ⟨l1,p1,d1,f11,f21⟩:=C1;obtain ⟨l2,p2,d2,f12,f22⟩:=C2;obtain ⟨l3,p3,d3,f13,f23⟩:=C3;refine eG 42 [.cell 2 36] func166 rfl ntmps166 rfl fun _ _ _ _=>?_;refine ak 1 hU hp ?_;refine ak 1 HF he ?_;refine ak 1 vg ht ?_;refine ak 1 yN hw ?_;refine ak 1 HE Nf ?_;exact ⟨.agg (di _),[aJ _],bU,bU,rfl,rfl,rfl⟩
  | true=>
   rw [hB,aj rfl] at ht hR;rw [aj rfl] at ht;have o2:=o1.step
   have TV:av (bJ (pKind n) c.aA.s c.aA.a c.deep.step).2.2:=by
    cases Pt:(bJ (pKind n) c.aA.s c.aA.a c.deep.step).1 with
    | true=>exact (v8 (fun c q h hd=>iB n c q h hd (by omega)) (Sm.self o2) d2 Pt).sm.ok
    | false=>
     rw [(tK (fun c q h hd=>iB n c q h hd (by omega)) (q:=([],(0,0))) Pt).1];exact o2
   generalize bJ (pKind n) c.aA.s c.aA.a c.deep.step=BB at hb hR TV;generalize c.deep.step=C2 at ht hb;obtain ⟨b,⟨th,tp⟩,C3⟩:=BB;simp only at hb hR TV;have DE:=qE C3 9 c.aA.a;have qh:=nH C3 TV;have Jc:=nH (C3.cm 9 c.aA.a) (TV.cm 9 c.aA.a);generalize (C3.cm 9 c.aA.a).leave=C6 at Jc hR;generalize C3.cm 9 c.aA.a=C5 at DE Jc;generalize C3.leave=C4 at qh hR;generalize c.deep=C1 at he ht;generalize c.aA=t at hp hb DE ht;obtain ⟨tk,ta,te,ts,tn⟩:=t;obtain ⟨l,p,d,f1,f2⟩:=c;obtain ⟨l1,p1,d1,f11,f21⟩:=C1;obtain ⟨l2,p2,GS,f12,f22⟩:=C2;obtain ⟨l3,p3,d3,f13,f23⟩:=C3;obtain ⟨l4,p4,d4,f14,f24⟩:=C4;obtain ⟨l5,p5,d5,f15,f25⟩:=C5;obtain ⟨l6,p6,d6,f16,f26⟩:=C6;refine eG 42 [.cell 2 36] func166 rfl ntmps166 rfl fun _ _ _ _=>?_;refine ak 1 hU hp ?_;refine ak 1 HF he ?_;refine ak 1 vg ht ?_;refine CallG.Lb 1 3 rfl rfl rfl rfl ?_;refine ak 2 Q9 hb ?_
   cases b with
   | true=>
    rw [aj rfl] at hR;subst hR;refine ak 1 HE qh ?_;exact ⟨.agg (di _),[aJ _],bU,bU,rfl,rfl,rfl⟩
   | false=>
    rw [af (by simp)] at hR;subst hR;refine ak 1 Mw DE ?_;refine ak 1 HE Jc ?_;exact ⟨.agg (di _),[aJ _],bU,bU,rfl,rfl,rfl⟩
theorem Ng (c:aq) (h:av c) (hd:c.d=0):Ev prog 166 [gI] [aJ c] [] (kN (.agg (di (pKind 24 c).1)) (pKind 24 c).2):=tS 24 (bn _) c h hd
abbrev Jo (c:aq) (lo:Wd) (l:List (Wd × Wd)) (n:Nat):St:=⟨[cE 1 1,(2,⟨[],.v (.slice none 0 0)⟩),(3,⟨[],.sl 4 (du l) (some 0)⟩),cE 4 2],[aJ c,jx,lg lo],[⟨n,122,4,none⟩]⟩
theorem pZ (l:List (Wd × Wd)) (a b:Wd):du l ++ [FF (a,b)]=du (l ++ [(a,b)]):=by simp [du]
theorem Au (c:aq) (h:av c):Ev prog 165 [gI] [aJ c] [] (fun r os tk=>r = .sl 4 (du (bX c).1) none/\os=[aJ (bX c).2]/\tk=[]):=by
 generalize hR:bX c=R;unfold bX at hR;have hb:=dX;have h1:=dB c h;have h2:=bR _ h.ai dw;have GN:=h.ai.ae dw;have hlen:=GN.len;generalize c.ai.ae dw=C2 at h2 GN hR hlen;generalize c.ai.is 4 dw=B2 at h2;generalize c.ai=C1 at h1 h2;generalize c.aH=W at h1 hR;obtain ⟨ws,wa⟩:=W;obtain ⟨l,p,d,f1,f2⟩:=c;obtain ⟨l1,p1,d1,f11,f21⟩:=C1;obtain ⟨l2,p2,d2,f12,f22⟩:=C2;refine eG 25 [.tmp 2] func165 rfl ntmps165 rfl fun _ _ _ _=>?_;refine ak 1 lx h1 ?_;refine ak 1 eV h2 ?_;refine de (fun j st=>∃ (c1:aq) (lo:Wd) (l':List (Wd × Wd)) (n:Nat),st=Jo c1 lo l' n/\n=l'.length/\av c1/\pChain j l' lo c1=R/\(c1.f.1=0->c1.l.length < c1.p + j)/\1<=j/\l'.length + j<=bigN) bigN (Jo ⟨l2,p2,d2,f12,f22⟩ ⟨ws,wa⟩ [] 0) (lZ 3 ⟨0,122,4,none⟩ rfl rfl rfl PD rfl rfl DH) ⟨⟨l2,p2,d2,f12,f22⟩,⟨ws,wa⟩,[],0,rfl,rfl,GN,hR,fun _=>by show l2.length < p2 + bigN;simp only at hlen;omega,by omega,by simp⟩ ?_;rintro j st ⟨c1,lo,l',n,rfl,hn,Ko,qJ,aS,hj,lk⟩;obtain ⟨j,rfl⟩:∃ m,j=m + 1:=⟨j - 1,by omega⟩;rw [pChain] at qJ;have r1:=dB c1 Ko;have r2:=ej _ Ko.ai dw;unfold aq.mO at r2;have e1:=(aK.ai c1).l;have e2:=@pY c1;have e3:=@we c1;have k1:=Ko.ai;have k2:=k1.step;have e4:c1.ai.is 4 dw=true->c1.ai.f.1=0/\c1.ai.step={ c1.ai with p:=c1.ai.p + 1 }:=fun hB=>⟨Sm.cZ (by decide) hB,ry hB (by decide)⟩;generalize c1.ai.is 4 dw=B at r2 qJ e4;generalize c1.ai.step=C4 at r2 qJ k2 e4;generalize c1.ai=C3 at r1 r2 qJ e1 e2 e3 k1 e4;generalize c1.aH=W at r1 qJ;obtain ⟨us,ua⟩:=W;obtain ⟨SV,SX⟩:=lo;obtain ⟨l3,p3,d3,f13,f23⟩:=c1;obtain ⟨l4,p4,d4,f14,f24⟩:=C3;obtain ⟨l5,p5,d5,f15,f25⟩:=C4;simp only at aS e1 e2 e3;refine ak 1 lx r1 ?_;refine ⟨by rw [cM];exact hn.symm,⟨by simp [maxLen,cM];omega,by simp [cM];omega⟩,?_⟩
 cases B with
 | true=>
  rw [aj rfl] at r2 qJ;obtain ⟨e5,e6⟩:=e4 rfl;have e2:=e2 e5;have aS:=aS (e3 e5);injection e6 with e7 e8 e9 e10
  have hl5:=k2.lt;simp only at hl5 e2 e7 e8;subst e7 e8 e1;refine ak 1 fD r2 ?_;exact ⟨Jo ⟨l5,p4 + 1,d5,f15,f25⟩ ⟨us,ua⟩ (l' ++ [(⟨SV,SX⟩,⟨us,ua⟩)]) (n + 1),(yc 3 (Qv (pZ l' ⟨SV,SX⟩ ⟨us,ua⟩)) (nc (pZ l' ⟨SV,SX⟩ ⟨us,ua⟩))),j,by omega,⟨l5,p4 + 1,d5,f15,f25⟩,_,_,_,rfl,by simp [hn],k2,qJ,fun _=>by show l5.length < p4 + 1 + j;omega,by omega,by simp;omega⟩
 | false=>
  rw [af (by simp)] at r2 qJ;subst qJ;refine ak 1 fD r2 ?_
  have hX:∀ bx N,CcE bx N (du (l' ++ [(⟨SV,SX⟩,⟨us,ua⟩)])) (du l' ++ [FF (⟨SV,SX⟩,⟨us,ua⟩)]):=fun bx N=>by
   rw [pZ];exact oe _
  exact ⟨.sl 4 (du _) none,[aJ _],(rZ hX),(rZ hX),rfl,rfl,rfl⟩
end Go.Proofs.YtfdedoiiahbnnaaGreat
set_option maxRecDepth 100000
namespace Go.Proofs.YtfdedoiiahbnnaaGreat
namespace Dv
open Go Go.RowKit
theorem wC {n0 m0:Nat} {st st':St} (n:Nat) (new:List TkE) (dn:∀ q∈new,q.new=true) (h3:st'.tk=new) (hm:m0=0) (hn:Nat.ble n st.bx.length=true) (h4:Nat.ble n0 n=true) (h2:WeLL n 0 new (st.bx.take n) st'.bx) (h:jJ n 0 new st.sl st'.sl):nb n0 m0 st st':=by
 have hl:(st.bx.take n).length=n:=by simp_all
 exact ⟨[],st.tk,new,st.bx.take n,st.bx.drop n,by simp [hm],by rw [hl];exact nL h4,rfl,by simpa using h3,dn,(List.take_append_drop n st.bx).symm,by rw [hl,h3];exact h2,by rw [hl,h3];exact h⟩
theorem LM {X:Ctx} {st st':St} (h:nb X.n0 X.m0 st st'):Wk X st st':=fun _ _ _ hr=>rX hr h
end Dv
open Go Go.RowKit Dv Go.Proofs.Tryz
theorem wD (l:List (Wd × Ty)) (w:Wd) (t:Ty):gm l ++ [JV (w,t)]=gm (l ++ [(w,t)]):=by simp [gm]
abbrev TW (lv:List Wd) (od ty:DV):List DV:=[.sl 2 (bZ lv) none,od,ty,.v (.int .i64 0),.v (.int .i64 0),.v (.int .i64 0),.v (.int .i64 0),.v (.int .i64 0),.v (.slice none 0 0),.v (.slice none 0 0),.v (.string ⟨#[]⟩),.v (.int .i64 0)]
abbrev LN (lv:List Wd) (od:List (Wd × Wd)):List DV:=TW lv (.sl 4 (du od) (some 0)) (.v (.slice none 0 0))
abbrev uO (a:List (Wd × Wd)):TkE:=⟨a.length,122,4,none⟩
abbrev SY (n:Nat):TkE:=⟨n,93,11,none⟩
abbrev Jp (c:aq) (lv:List Wd) (od:List (Wd × Wd)) (l:List (Wd × Ty)) (n:Nat):St:=⟨[cE 1 1,cE 2 2,cE 3 3],[aJ c,jx,xG,TW lv (.sl 4 (du od) none) (.sl 11 (gm l) (some 0))],[SY n]⟩
abbrev SZ (c:aq) (lv:List Wd):St:=⟨[cE 1 1,cE 2 2,cE 3 3],[aJ c,jx,xG,LN lv []],[uO []]⟩
theorem tT:∀ (n:Nat) (l:List (Wd × Wd)) (w:Wd) (c:aq),(pChain n l w c).1.length<=l.length + n
 | 0,_,_,_=>bn _
 | n + 1,l,w,c=>by
  rw [pChain];split
  ·have:=tT n (l ++ [(w,c.aH)]) c.aH c.ai.step
   grind
  ·show (l ++ [_]).length<=_;simp
theorem Av:∀ (n:Nat) (l:List (Wd × Wd)) (w:Wd) (c:aq),(pChain n l w c).2.f.1=0->(pChain n l w c).1.length + c.p<=l.length + (pChain n l w c).2.p
 | 0,_,_,_,_=>bn _
 | n + 1,l,w,c,h0=>by
  rw [pChain] at h0 ⊢;split at h0
  ·rename_i hi;rw [aj hi];have ih:=Av n _ _ _ h0;have e1:=pY (Sm.cZ (by decide) hi)
   grind [ry]
  ·grind [pY]
theorem wE:∀ (n:Nat) (l:List (Wd × Wd)) (w:Wd) (c:aq),0 < n->(pChain n l w c).1 ≠ []
 | 0,_,_,_,h=>absurd h (by decide)
 | 1,l,w,c,_=>by
  rw [pChain];split
  ·rw [pChain];simp
  ·simp
 | n + 2,l,w,c,_=>by
  rw [pChain];split
  ·exact wE (n + 1) _ _ _ (by omega)
  ·simp
def Jq (c:aq) (a:List (Wd × Wd)):Prop:=c.f.1=0->a.length<=c.p
theorem LO (lv:List Wd) (a b:List (Wd × Wd)):LN lv (a ++ b)=TW lv (.sl 4 (du a ++ du b) (some 0)) (.v (.slice none 0 0)):=by simp [LN,du]
theorem Jr (a b:List (Wd × Wd)):uO (a ++ b)=⟨a.length + (du b).length,122,4,none⟩:=by simp [uO,du]
theorem xN (lv:List Wd) (c:aq) (h:av c) (a:List (Wd × Wd)) (ha:a.length<=274877906944):Ev prog 164 [.loc 3 0,.loc 1 0] [aJ c,jx,xG,LN lv a] [uO a]
  (fun r os tk=>r = .cp []/\os=[aJ (bX c).2,jx,xG,LN lv (a ++ (bX c).1)]/\tk=[uO (a ++ (bX c).1)]):=by
 have hn:=Au c h;have hl:(du a).length=a.length:=cM a;have Jc:(du (bX c).1).length=(bX c).1.length:=cM _
 have hm:(bX c).1.length<=274877906945:=by
  have:=tT bigN [] c.aH (c.ai.ae dw);rw [dX] at this;unfold bX;rw [dX];simpa using this
 have bM:du (bX c).1 ≠ []:=fun he=>by grind [bX,du,wE,dX]
 generalize bX c=R at hn Jc hm bM ⊢;obtain ⟨L,l1,p1,d1,f11,f21⟩:=R;obtain ⟨l,p,d,f1,f2⟩:=c;simp only at Jc hm bM;refine eG 8 [] func164 rfl ntmps164 rfl fun _ _ _ _=>?_;refine cz [0] (fun i=>Nat.beq i 6) mo (by decide +kernel) ?_;refine ef 1 rfl QX rfl rfl bU bU hn (fun r fM hΦ _=>?_);obtain ⟨rfl,rfl,_⟩:=hΦ;refine ⟨hl,⟨by simp [maxLen,hl,Jc];omega,by simp [hl,Jc];omega⟩,?_⟩;rw [LO,Jr];exact ⟨.cp [],[aJ ⟨l1,p1,d1,f11,f21⟩,jx,xG,TW lv (.sl 4 (du a ++ du L) (some 0)) (.v (.slice none 0 0))],bU,bU,rfl,rfl,rfl⟩
theorem LP (lv:List Wd) (c:aq) (a:List (Wd × Wd)) (h:av c) (hi:Jq c a) (hf:c.f.1=0):tw (fun _=>jx) (fun _=>xG) (fun a=>LN lv a) uO jb Jq 164 3 1 c a where
 ok:=(oP (l:=a) h).1
 l:=(oP (l:=a) h).2.l
 p:=(oP (l:=a) h).2.p
 inv:=fun h0=>by
  have h0:(bX c).2.f.1=0:=h0;have e1:=Av bigN [] c.aH (c.ai.ae dw) h0;have e2:=((aK.ai c).trans (aK.ae c.ai dw)).p;have e3:=hi hf;show (a ++ (bX c).1).length<=(bX c).2.p;rw [List.length_append];unfold bX;simp only [List.length_nil] at e1;omega
 ev:=xN lv c h a (by
  have h1:=h.lt;have h2:=h.len;have h3:=hi hf
  omega)
theorem Js (c:aq) (a:List (Wd × Wd)) (_:av c) (hi:Jq c a):Jq (c.ae ⟨#[44]⟩) a:=fun h0=>Nat.le_trans (hi (bc h0)) (pT c _)
theorem Da (lv:List Wd) (c:aq) (h:av c):Ev prog 160 [gI,.v (.string aU),.v (.bool true),.fn 164 [] [.loc 3 0,.loc 1 0]] [aJ c,jx,xG,LN lv []] [uO []]
  (fun r os tk=>r = .cp []/\os=[aJ (dq c).2,jx,xG,LN lv (dq c).1]/\tk=[uO (dq c).1]):=by
 have hlen:=h.len;have hb:=dX;have e:=wy (A:=fun _=>jx) (B:=fun _=>xG) (C:=fun a=>LN lv a) (T:=uO) (f:=jb) (Inv:=Jq) (by decide) (by decide) (fun _=>rfl) (fun _=>rfl) (fun _=>rfl) QW (fun c a hc hi hf=>LP lv c a hc hi hf) Js aU bigN c [] h (fun _=>Nat.zero_le _) (by omega)
 have hR:dq c=((mQ jb aU bigN c []).2,(mQ jb aU bigN c []).1):=by
  unfold dq mQ mP;simp only [Bool.true_and];split<;>rfl
 rw [hR];exact e
theorem Aw (c:aq) (h:av c):Ev prog 160 [gI,.v (.string aU),.v (.bool false),.fn 161 [] [.loc 3 0,.loc 1 0]] [aJ c,jx,xG,F4 []] [vW []]
  (fun r os tk=>r = .cp []/\os=[aJ (listF dP aU bigN c []).1,jx,xG,F4 (listF dP aU bigN c []).2]/\tk=[vW (listF dP aU bigN c []).2]):=
 Ac bigN c h (by have:=h.len;have:=dX;omega) (.inl (Nat.zero_le _))
set_option maxHeartbeats 4000000 in
theorem xO (c:aq) (h:av c) (hd:c.d=0):Ev prog 86 [gI] [aJ c] [] (kN (.agg (fy (cY c).1)) (cY c).2):=by
 generalize hR:cY c=R;unfold cY F5 jc eh at hR;have hb:=dX;have s1:=tM (Sm.self h);have o1:=s1.sm.ok;have d1:(dc c).2.d=0:=by rw [s1.st.d,hd]
 have a1:=oJ c h cA;have a2:=bR _ (h.kw cA) bm;have a3:=Aw _ ((h.kw cA).ae bm);have hS1:dc c=((listF dP aU bigN ((c.kw cA).ae bm) []).2,(listF dP aU bigN ((c.kw cA).ae bm) []).1):=rfl;rw [hS1] at hR o1 d1;generalize listF dP aU bigN ((c.kw cA).ae bm) []=R1 at a3 o1 d1 hR;generalize (c.kw cA).ae bm=c2 at a2 a3;generalize (c.kw cA).is 4 bm=B1 at a2;generalize c.kw cA=c1 at a1 a2;obtain ⟨⟨Nh,Ni,Nj,Nk,Nl⟩,lv⟩:=R1;simp only at a3 o1 d1 hR;have b1:=cQ ⟨Nh,Ni,Nj,Nk,Nl⟩ o1 lO;unfold aq.mO at b1;have b2:=bR _ o1.step bm;have o2:=o1.step.ae bm;have s2:=nM (Sm.self o2);have o3:=s2.sm.ok;have d3:(dq ((aq.step ⟨Nh,Ni,Nj,Nk,Nl⟩).ae bm)).2.d=0:=by rw [s2.st.d,(aK.ae _ _).d,(aK.step _).d];exact d1
 have b3:=Da lv _ o2;generalize aq.is ⟨Nh,Ni,Nj,Nk,Nl⟩ 1 lO=B at b1 hR;generalize dq ((aq.step ⟨Nh,Ni,Nj,Nk,Nl⟩).ae bm)=R2 at b3 o3 d3 hR;generalize (aq.step ⟨Nh,Ni,Nj,Nk,Nl⟩).ae bm=c4 at b2 b3;generalize (aq.step ⟨Nh,Ni,Nj,Nk,Nl⟩).is 4 bm=B2 at b2;generalize aq.step ⟨Nh,Ni,Nj,Nk,Nl⟩=c3 at b1 b2;obtain ⟨l,p,d,f1,f2⟩:=c;obtain ⟨l1,p1,wz,f11,f21⟩:=c1;obtain ⟨l2,p2,d2,f12,f22⟩:=c2;obtain ⟨l3,p3,JY,f13,f23⟩:=c3;obtain ⟨l4,p4,d4,f14,f24⟩:=c4;obtain ⟨od,s2l,s2p,s2d,s2f,s2g⟩:=R2;simp only at b3 o3 d3 hR;refine eG 46 [.cell 2 38] func86 rfl ntmps86 rfl fun _ _ _ _=>?_;refine ak 1 Mo a1 ?_;refine ak 1 eV a2 ?_;refine tz (vW []) (VZ ⟨l2,p2,d2,f12,f22⟩ []) rfl ?_ rfl ?_ ?_ rfl rfl ?_
 ·repeat' (first | exact rfl | exact aQ rfl | refine ⟨_,_,rfl,?_,?_⟩)
 ·repeat' (first | exact rfl | exact aQ rfl | exact dz (bn _) rfl | refine ⟨_,_,rfl,?_,?_⟩)
 ·repeat' (first | exact trivial | exact aQ rfl | refine ⟨⟨_,rfl,?_⟩,?_⟩)
 refine sS 4 1 DN rfl rfl rfl bU bU a3 (fun r fM cK hΦ _ _=>?_);obtain ⟨rfl,rfl,rfl⟩:=hΦ;refine ⟨SZ ⟨Nh,Ni,Nj,Nk,Nl⟩ lv,LM (wC 4 [uO []] (by simp [TkE.new,Nat.beq]) rfl rfl rfl rfl (by repeat' (first | exact rfl | exact aQ rfl | exact dz (bn _) rfl | exact .inr (.inr (.inr (.inl ⟨_,_,_,rfl,rfl⟩))) | refine ⟨_,_,rfl,?_,?_⟩)) wB),?_⟩;cases B;rw [af (by simp)] at b1 hR;clear b2 b3 o3 d3;have o3:=o1;have d3:=d1
 let od:List (Wd × Wd):=[]
 simp only at hR;refine ak 1 fU b1 ?_
 rotate_left
 rw [aj rfl] at b1 hR;simp only at hR;refine ak 1 fU b1 ?_;refine ak 1 eV b2 ?_;refine rj 4 1 DN rfl rfl rfl bU bU b3 (fun r fM cK hΦ _ _=>?_);obtain ⟨rfl,rfl,rfl⟩:=hΦ
 all_goals
  have hlen:=av.len o3;generalize hR3:pTypes bigN [] _=R3 at hR;refine de (fun j st=>∃ (c1:aq) (l:List (Wd × Ty)) (n:Nat),st=Jp c1 lv od l n/\n=l.length/\av c1/\c1.d=0/\pTypes j l c1=R3/\(c1.f.1=0->c1.l.length < c1.p + j)/\1<=j/\l.length + j<=bigN) bigN (Jp _ lv od [] 0) (wC 4 [SY 0] (by simp [TkE.new,Nat.beq]) rfl rfl rfl rfl (by repeat' (first | exact rfl | exact aQ rfl | exact dz (bn _) rfl | exact .inr (.inr (.inr (.inl ⟨_,_,_,rfl,rfl⟩))) | refine ⟨_,_,rfl,?_,?_⟩)) wB) ⟨_,[],0,rfl,rfl,o3,d3,hR3,fun _=>by simp only at hlen ⊢;omega,by omega,by simp⟩ ?_;rintro j st ⟨c1,l,n,rfl,hn,h1,FU,qJ,aS,hj,lk⟩;obtain ⟨m,rfl⟩:∃ m,j=m + 1:=⟨j - 1,by omega⟩;rw [pTypes] at qJ;have r1:=cQ c1 h1 oK;unfold aq.mO at r1
  cases Pt:c1.is 1 oK with
  | true=>
   rw [Pt,aj rfl] at r1 qJ;have f1:c1.f.1=0:=Sm.cZ (by decide) Pt;have aS:=aS f1;have o1:=h1.step;have s1:=ry Pt (by decide);have qh:=o1.lt;rw [s1] at qh;have s2:=(aK.ai c1.step).trans (aK.ae c1.step.ai lh);have d2:(c1.step.ai.ae lh).d=0:=by rw [s2.d,(aK.step _).d,FU]
   have o2:=o1.ai.ae lh;have s3:=M5.st o2 d2;have o3:=M5.ok o2 d2;have r2:=dB _ o1;have r3:=bR _ o1.ai lh;have r4:=Ng _ o2 d2
   have Tn:c1.p + 1<=(pKind 24 (c1.step.ai.ae lh)).2.p:=by
    have:=s2.p;have:=s3.p;rw [s1] at *;simp only at *;omega
   have Wl:(pKind 24 (c1.step.ai.ae lh)).2.l=c1.l:=by rw [s3.l,s2.l,(aK.step _).l]
   have SN:(pKind 24 (c1.step.ai.ae lh)).2.d=0:=by rw [s3.d,d2]
   generalize pKind 24 (c1.step.ai.ae lh)=T at r4 qJ o3 Tn Wl SN;generalize c1.step.ai.is 4 lh=B3 at r3;generalize c1.step.ai.ae lh=v3 at r3 r4;generalize c1.step.ai=v2 at r2 r3;generalize c1.step.aH=W at r2 qJ;generalize c1.step=v1 at r1 r2;obtain ⟨x0,y0,z0,u0,t0⟩:=c1;obtain ⟨x1,y1,z1,u1,t1⟩:=v1;obtain ⟨x2,y2,z2,u2,t2⟩:=v2;obtain ⟨x3,y3,z3,u3,t3⟩:=v3;obtain ⟨ws,wa⟩:=W;obtain ⟨⟨th,tp⟩,x4,y4,z4,u4,t4⟩:=T;simp only at aS Tn Wl SN qJ o3 qh;refine ak 1 fU r1 ?_;refine ak 1 lx r2 ?_;refine ak 1 eV r3 ?_;refine ak 1 vf r4 ?_;refine ⟨by rw [cT];exact hn.symm,⟨by simp [maxLen,cT];omega,by simp [cT];omega⟩,?_⟩;exact ⟨Jp ⟨x4,y4,z4,u4,t4⟩ lv od (l ++ [(⟨ws,wa⟩,.mk th tp)]) (n + 1),(yc 4 (Qv (wD l ⟨ws,wa⟩ (.mk th tp))) (nc (wD l ⟨ws,wa⟩ (.mk th tp)))),m,by omega,_,_,_,rfl,by simp [hn],o3,SN,qJ,fun _=>by show x4.length < y4 + m;rw [Wl];omega,by omega,by simp;omega⟩
  | false=>
   rw [Pt,af (by simp)] at r1 qJ;subst qJ;simp only at hR;have r6:=oJ c1 h1 ez;have d5:(c1.kw ez).d=0:=by rw [(aK.kw _ _).d,FU]
   have r7:=Ng _ (h1.kw ez) d5;generalize pKind 24 (c1.kw ez)=T at r7 hR;generalize c1.kw ez=v5 at r6 r7;obtain ⟨x5,y5,z5,u5,t5⟩:=v5;obtain ⟨⟨th,tp⟩,x6,y6,z6,u6,t6⟩:=T;obtain ⟨x0,y0,z0,u0,t0⟩:=c1;simp only at hR;subst hR;refine ak 1 fU r1 ?_;refine ak 1 Mo r6 ?_;refine ak 1 vf r7 ?_;exact ⟨.agg (fy _),[aJ _],bU,bU,rfl,rfl,rfl⟩
end Go.Proofs.YtfdedoiiahbnnaaGreat
set_option maxRecDepth 100000
namespace Go.Proofs.YtfdedoiiahbnnaaGreat
open Go Go.RowKit Dv Go.Proofs.Tryz
def Ax (l:List dj) (f:Ft):DV:=if f.1=0 then .cp [.sl 5 (fv l) none,Ft.d f] else .cp [.v (.slice none 0 0),Ft.d f]
theorem tU (l:List dj):Ax l (0,0) = .cp [.sl 5 (fv l) none,Ft.d (0,0)]:=rfl
theorem jZ {l:List dj} {f:Ft} (h:¬ f.1=0):Ax l f = .cp [.v (.slice none 0 0),Ft.d f]:=by rw [Ax,af h]
theorem Jt (s:ByteArray) (h:65536 < s.size):cw prog 157 [.v (.string s)] (Ax [] (7,65536)):=by
 rw [jZ (by decide)];refine eG 63 [.tmp 2,.cell 3 26] func157 rfl ntmps157 rfl fun _ _ _ _=>?_;refine br (fun _=>?_) (fun g=>absurd (show 65536 < (s.size:Int) by omega) (of_decide_eq_false g));exact ⟨_,ax,rfl⟩
set_option maxHeartbeats 2000000 in
theorem tV (s:ByteArray) (hs:s.size<=65536) (l:List dj) (f:Ft) (hl:iT s 0 l f) (hf:f.1=0->f=(0,0)):cw prog 157 [.v (.string s)] (Ax (l ++ [gT s.size]) f):=by
 refine eG 63 [.tmp 2,.cell 3 26] func157 rfl ntmps157 rfl fun _ _ _ _=>?_;refine br (fun g=>absurd (show 65536 < s.size by have:=of_decide_eq_true g;omega) (by omega)) (fun _=>?_);refine lI (fun j st=>∃ (i q:Nat) (L r:List dj),st=O4 s L q i/\q=L.length/\iT s i r f/\(f.1=0->L ++ r=l)/\L.length<=i/\i<=s.size/\j=s.size - i) ⟨0,0,[],l,rfl,rfl,hl,fun _=>rfl,by simp,by omega,rfl⟩ (lZ 2 ⟨0,218,5,none⟩ rfl rfl rfl PD rfl rfl DH) ?_;rintro j st ⟨i,q,L,r,rfl,hq,hr,Pu,hLi,Tq,rfl⟩;refine br (fun aS=>?_) (fun hge=>?_)
 ·have aS:i < s.size:=sU aS;have hb:=CD (aE s i);obtain ⟨z,hz⟩:∃ z:Int,z=((aE s i:Nat):Int):=⟨_,rfl⟩;have mF:((aE s (i:Int).toNat:Nat):Int)=z:=by rw [mr,hz]
  rw [<- hz] at hb;refine ⟨⟨by omega,by omega⟩,?_⟩;rw [mF]
  cases hr with
  | nil=>omega
  | blank _ h1 h2=>
   rw [h1] at hb;refine cP yM hb ?_;exact ⟨O4 s L q (i + 1),(yc 2 (Qv (gy aS (by omega))) (nc (gy aS (by omega)))),s.size - (i + 1),by omega,i + 1,q,L,_,rfl,hq,h2,Pu,by omega,by omega,rfl⟩
  | @rem _ e _ _ _ JX Wm h4 h5 h6=>
   rw [JX] at hz;have hbl:gU (aE s i)=false:=by rw [JX];all_goals rfl
   rw [hbl] at hb;have qb:=qD s (by omega) i Tq;rw [Wm] at qb;refine cP yM hb ?_;refine ⟨⟨by omega,by omega⟩,?_⟩;rw [mF];refine br (fun _=>?_) (fun g=>absurd (show z=59 by omega) (sU g));refine cP Mt qb ?_;exact ⟨O4 s L q e,(yc 2 PD DH),s.size - e,by omega,e,q,L,_,rfl,hq,h6,Pu,by omega,h5,rfl⟩
  | @Lp _ e _ _ JX Wm h4=>
   rw [JX] at hz;have hbl:gU (aE s i)=false:=by rw [JX];all_goals rfl
   rw [hbl] at hb;have qb:=qD s (by omega) i Tq;rw [Wm] at qb;obtain ⟨f1,f2⟩:=f;rw [jZ h4];simp only at h4;refine cP yM hb ?_;refine ⟨⟨by omega,by omega⟩,?_⟩;rw [mF];refine br (fun _=>?_) (fun g=>absurd (show z=59 by omega) (sU g));refine cP Mt qb ?_;refine br (fun _=>?_) (fun g=>absurd g (by simp [h4]));refine br (fun _=>?_) (fun g=>absurd g (by simp [h4]));refine cz [0] (fun _=>false) mo (by decide +kernel) ?_;exact ⟨_,ax,rfl⟩
  | @tok _ e t l' _ _ h1 h2 h3 h4 h5 h6 h7=>
   rw [h1] at hb;have fl:=ti s (by omega) i aS;rw [h3] at fl;refine cP yM hb ?_;refine ⟨⟨by omega,by omega⟩,?_⟩;rw [mF];refine br (fun g=>absurd (show aE s i=59 by have:=of_decide_eq_true g;omega) h2) (fun _=>?_);obtain ⟨tk,ta,te,ts,tn⟩:=t;simp only at h4;subst h4;refine cP Mu fl ?_;refine ⟨(gq L).trans hq.symm,⟨by simp [maxLen,gq];omega,by simp [gq];omega⟩,?_⟩;exact rE ⟨_,by omega,e,q + 1,L ++ [⟨tk,ta,e,ts,tn⟩],l',rfl,by simp [hq],h7,fun h=>by simpa using Pu h,by simp;omega,h6,rfl⟩ (yc 2 (Qv (nF L ⟨tk,ta,e,ts,tn⟩)) (nc (nF L ⟨tk,ta,e,ts,tn⟩)))
  | @Lq _ t _ _ h1 h2 h3 h4=>
   rw [h1] at hb;have fl:=ti s (by omega) i aS;rw [h3] at fl;obtain ⟨f1,f2⟩:=f;rw [jZ h4];simp only at h4;obtain ⟨tk,ta,te,ts,tn⟩:=t;refine cP yM hb ?_;refine ⟨⟨by omega,by omega⟩,?_⟩;rw [mF];refine br (fun g=>absurd (show aE s i=59 by have:=of_decide_eq_true g;omega) h2) (fun _=>?_);refine cP Mu fl ?_;refine br (fun _=>?_) (fun g=>absurd g (by simp [h4]));refine br (fun _=>?_) (fun g=>absurd g (by simp [h4]));refine cz [0] (fun _=>false) mo (by decide +kernel) ?_;exact ⟨_,ax,rfl⟩
 ·have hge:s.size=i:=by
   have:=of_decide_eq_false hge;omega
  subst hge
  cases hr with
  | nil=>
   have Pu:=Pu rfl;rw [List.append_nil] at Pu;subst Pu;rw [tU];refine cz [0] (fun _=>false) mo (by decide +kernel) ?_;refine ⟨(gq L).trans hq.symm,⟨by simp [maxLen,gq];omega,by simp [gq];omega⟩,?_⟩;rw [<- nF];exact ⟨_,ax,rfl⟩
  | blank h=>exact absurd h (Nat.lt_irrefl _)
  | rem h=>exact absurd h (Nat.lt_irrefl _)
  | Lp h=>exact absurd h (Nat.lt_irrefl _)
  | tok h=>exact absurd h (Nat.lt_irrefl _)
  | Lq h=>exact absurd h (Nat.lt_irrefl _)
end Go.Proofs.YtfdedoiiahbnnaaGreat
