/- Part 3 of the proof: Contracts: the reference's Label, listed, names, Size, with, coarse; What is wrong with a type: the plain function; the reference's Wrong and parts return it; The program's checks of types: bad, listed, label, words; The program's checks of types: label, coarse; The program's comparing of names and types; The program's Same; The program's own, empty; The program's empty, enum; kinds.Right, once the checker's check is known; Numbers in tens: the reference's Put; Numbers in tens: the program's Put; The text of a type, plain; the reference's Label and comma; The reference's text of a type: Label, comma, part, Type; The reference's text of a part; The reference's text of a type; The library's strings.Join, laid at this program by the kit's tool (lay-plain; wip/tools/lay.sh); The program's text of a label, of what stands behind a part's type, of lists; The program's text of a type: field, tag, kind; unparse.Type, once the checker's check is known; A type with which nothing is wrong is fine for its text; Readable data as data of the evaluator: what the statement's form reads of an argument is a datum of the evaluator, of the argument's type, no heavier than what was read; What is read of a type, as the plain data; From a contract over data to what a law's statement asks: the arguments are read, the call returns true, all that was there stays; What all laws' frames share: the bulk, the program's closed facts; Types without places: plain, and the program's kinds.Strip; Schemas: plain, as the evaluator has them, without places; What is read of a schema, as the plain data; What the frames of laws over schemas share; The program's closed facts, each by itself (all at once they ask more memory than a Lean process has); The library's IndexByte, laid at this program; HasPrefix; The greatest multiple of a unit that is at most a number; UTF-8: the program's lead, value; UTF-8: the program's Decode; UTF-8: the document's reckoned, Scalar, Encode; UTF-8: the document's Scalar, Encode; UTF-8, plain: the document's well-formed bytes are the program's; a text's first units; UTF-8: the document's begins, left, Decode; Tables of runes; the unit at a place: the program's and the document's; The library's copyCheck of strings.Builder, laid at this program; The library's Builder at this program: what WriteString and String do to memory, exactly; Rules for the evaluator: the library's Builder, written and read; Rules for the evaluator: a call that is handed the caller's first objects and rows; rows whose cells nobody else knows; Rules for the evaluator: the library's Builder: WriteByte, WriteString of any text; a call that is handed a Builder; Texts in quotes: plain; numbers in sixteens; Relations as rows of bits: plain, and rel's functions that read. No condition. -/
import Derived.Laws.StructEq
import Derived.Shelf.Strings.OnBuilder
import Derived.Deep.Slices
import Derived.ChangeArms
import Derived.DataReads
import Derived.WalkKit
import Derived.ProofKit
import Derived.OpenShut
import Derived.Carry
import Derived.JoinedCond
import Derived.Test.YtfdedoiiahbnnaaGreatRows
import Derived.Shelf.Strings.Search1
import Derived.Shelf.RegionOpenPlain
import Derived.Lib.Strings
import Derived.Lib.Slices
import Derived.Lib.Walk
import Derived.Lib.Builder
import Derived.Lib.AppendStr
import Derived.Lib.UnsafeStr
import Derived.Laws.Externs
import Derived.Lib.Hide
import Derived.Test.YtfdedoiiahbnnaaGreatNf2
set_option linter.all false
set_option maxRecDepth 100000
namespace Go.Proofs.YtfdedoiiahbnnaaGreat
open Go Go.RowKit Dv Go.Proofs.Tryz
abbrev Ft:Type:=Int × Int
def Ft.d (f:Ft):DV:=.agg [.v (.int .i64 f.1),.v (.int .i64 f.2)]
def badWd:List Wd->Ft
 | []=>(0,0)
 | w :: r=>if ay w.s then badWd r else (9,w.a)
def du (l:List Wd):Ft:=
 if l.length<=32 then badWd l else (8,((l[32]?).getD (⟨aZ,0⟩:Wd)).a)
def eu (l:List Wd) (s:ByteArray):Bool:=l.any fun w=>decide (w.s=s)
def bd (l:List Wd) (i:Nat) (x:Wd):Int:=
 if ay x.s then (if eu (l.take i) x.s then 10 else 0) else 9
def pNames:Pts->List Wd
 | .nil=>[]
 | .cons p _ r=>p.name :: pNames r
theorem qg:∀ ps:Pts,(pNames ps).length=ps.len
 | .nil=>rfl
 | .cons p t r=>by simp [pNames,Pts.len,qg r]
theorem mT:∀ {ps:Pts} {j:Nat} {p:Ph} {t:Ty},ps.toList[j]? = some (p,t)->(pNames ps)[j]? = some p.name
 | .nil,j,p,t,h=>by simp [Pts.toList] at h
 | .cons q u r,0,p,t,h=>by grind [Pts.toList,pNames]
 | .cons q u r,j + 1,p,t,h=>by
  simp only [Pts.toList,List.getElem?_cons_succ] at h;simp only [pNames,List.getElem?_cons_succ];exact mT h
theorem Ah:∀ ps:Pts,wdsWt (pNames ps)<=ps.wt
 | .nil=>bn _
 | .cons p t r=>by
  have:=Ah r
  grind [pNames,wdsWt,Pts.wt,Ph.wt]
mutual
def Ty.cnt:Ty->Nat
 | .mk _ ps=>1 + ps.cnt
def Pts.cnt:Pts->Nat
 | .nil=>0
 | .cons p t r=>(if p.bare then 0 else t.cnt) + r.cnt
end
mutual
def Ty.deep:Ty->Nat
 | .mk _ ps=>ps.deep + 1
def Pts.deep:Pts->Nat
 | .nil=>0
 | .cons p t r=>max (if p.bare then 0 else t.deep) r.deep
end
mutual
theorem Ty.gD:∀ t:Ty,t.cnt<=t.wt
 | .mk h ps=>by have:=Pts.gD ps;simp only [Ty.cnt,Ty.wt,Hd.wt];omega
theorem Pts.gD:∀ ps:Pts,ps.cnt<=ps.wt
 | .nil=>bn _
 | .cons p t r=>by
  have:=Ty.gD t;have:=Pts.gD r;simp only [Pts.cnt,Pts.wt];split<;>omega
end
mutual
theorem Ty.oS:∀ t:Ty,t.deep<=t.wt
 | .mk h ps=>by have:=Pts.oS ps;simp only [Ty.deep,Ty.wt,Hd.wt];omega
theorem Pts.oS:∀ ps:Pts,ps.deep<=ps.wt
 | .nil=>bn _
 | .cons p t r=>by
  have:=Ty.oS t;have:=Pts.oS r
  grind [Pts.deep,Pts.wt]
end
abbrev Co (t:Ty) (e n d:Nat):St:=
 ⟨[bq 1 0,aJ 4 n,aJ 5 d,aJ 6 e],[dC t],[]⟩
theorem n9:∀ (k:Nat) (t:Ty),t.wt<=k->t.wt<=1099511627776 ->
  bA prog 39 [.agg (dC t)] (.bK [.v (.int .i64 t.cnt),.v (.int .i64 t.deep)])
 | 0,t,hn,_=>by have:=t.mR;omega
 | k + 1,.mk h ps,hn,cV=>by
  simp only [Ty.wt,Hd.wt] at hn cV;have kE:=ps.ki;have hc:=ps.gD;have hdp:=ps.oS;refine eG 42 [.tmp 2,.tmp 3] func39 rfl ntmps39 rfl fun _ _ _ _=>?_
  refine cH (fun j st=>∃ (e n d:Nat),st=Co (.mk h ps) e n d/\e<=ps.len/\n + (ps.drop e).cnt=1 + ps.cnt/\max d (ps.drop e).deep=ps.deep/\j=ps.len - e) ps.len
   (Co (.mk h ps) 0 1 0) (dg wB) ⟨0,1,0,rfl,by omega,rfl,by simp [Pts.drop],by omega⟩ ?_
  rintro j st ⟨e,n,d,rfl,he,bo,ZV,rfl⟩;refine br ?_ ?_<;>intro hL
  ·have aE:e < ps.len:=by simpa [bG] using hL
   obtain ⟨p,t,hx⟩:=Pts.jm aE;have Cp:=Pts.kj (mG hx);rw [Pts.drop_cons hx] at bo ZV;simp only [Pts.cnt,Pts.deep] at bo ZV;have Tq:=t.gD;have hdt:=t.oS;refine iX (er hx) ?_;refine br ?_ ?_<;>intro hB
   ·rw [ah hB] at bo ZV;exact rE ⟨_,by omega,e + 1,n,d,rfl,by omega,by omega,by omega,rfl⟩ (dg (gv (cR aE (by omega))))
   ·rw [ag (by simp [hB])] at bo ZV;obtain ⟨u,us⟩:=t;refine iX (er hx) ?_;refine cP XP (n9 k (.mk u us) (by omega) (by omega)) ?_;have Pa:IntKind.i64.wrap ((n:Int) + (Ty.mk u us).cnt)=((n + (Ty.mk u us).cnt:Nat):Int):=by rw [wrap64 (by omega) (by omega)];omega
    refine br ?_ ?_<;>intro hD
    ·have hD:d < (Ty.mk u us).deep:=sU hD;exact ⟨Co (.mk h ps) (e + 1) (n + (Ty.mk u us).cnt) (Ty.mk u us).deep,(dg (re Pa (cR aE (by omega)))),ps.len - (e + 1),by omega,e + 1,_,_,rfl,by omega,by omega,by omega,rfl⟩
    ·have hD:¬ d < (Ty.mk u us).deep:=sU hD;exact ⟨Co (.mk h ps) (e + 1) (n + (Ty.mk u us).cnt) d,(dg (re Pa (cR aE (by omega)))),ps.len - (e + 1),by omega,e + 1,_,_,rfl,by omega,by omega,by omega,rfl⟩
  ·have hge:e=ps.len:=by simp [bG] at hL;omega
   rw [hge,Pts.gm] at bo ZV;simp only [Pts.cnt,Pts.deep] at bo ZV;have e1:IntKind.i64.wrap ((d:Int) + 1)=((Ty.mk h ps).deep:Int):=by rw [wrap64 (by omega) (by omega)];simp only [Ty.deep];omega
   have e2:(n:Int)=((Ty.mk h ps).cnt:Int):=by simp only [Ty.cnt];omega
   refine ⟨_,?_,rfl⟩;rw [<- e1,<- e2];exact ax
def bW (p:Ph):Ft:=
 if p.ck=0 then (if p.cn=0/\p.cl=[] then (0,0) else (19,p.name.a))
 else if p.ck < 0∨3 < p.ck then (14,p.ca)
 else if (p.ck=1/\p.cn < 1)∨(p.ck=2/\(p.cn < 0∨4096 < p.cn))∨(p.ck=3/\p.cn≠0) then (20,p.ca)
 else du p.cl
def enumL (all:List Wd):Nat->List Wd->Ft
 | _,[]=>(0,0)
 | i,x :: r=>if bd all i x≠0 then (bd all i x,x.a) else enumL all (i + 1) r
def iE (h:Hd):Ft:=
 if h.af=[] then (15,h.dA)
 else if 64 < h.af.length then (8,((h.af[64]?).getD (⟨aZ,0⟩:Wd)).a)
 else enumL h.af 0 h.af
def dZ (p:Ph):Ft:=
 if p.wide < 0∨64 < p.wide then (20,p.name.a)
 else if (du p.label).1≠0 then du p.label
 else bW p
def pA (t:Ty):Bool:=sameTy t (mask t)
mutual
def wrong:Ty->Int->Int->Ft × Int
 | .mk h ps,depth,m=>
  if 24 < depth then ((6,h.dA),m + 1)
  else if 512 < m + 1 then ((8,h.dA),m + 1)
  else if h.al < 1∨9 < h.al then ((14,h.dA),m + 1)
  else if pA (.mk h ps)=false then ((19,h.dA),m + 1)
  else if (h.al=2/\h.hi < h.lo)∨(h.al=3/\(h.most < 0∨4096 < h.most)) then ((20,h.dA),m + 1)
  else if h.al=9/\ay h.name.s=false then ((9,h.name.a),m + 1)
  else if h.al=4 then (iE h,m + 1)
  else if h.al=5∨h.al=6 then wrongOne h ps depth (m + 1)
  else if h.al=7∨h.al=8 then
   if h.al=8/\ps.len=0 then ((15,h.dA),m + 1)
   else if 64 < ps.len then ((8,(((pNames ps)[64]?).getD (⟨aZ,0⟩:Wd)).a),m + 1)
   else wrongPts h.al (pNames ps) 0 ps depth (m + 1)
  else ((0,0),m + 1)
def wrongOne:Hd->Pts->Int->Int->Ft × Int
 | h,.cons p t .nil,depth,m=>
  if p.name.s≠aZ∨cw p cp=false then ((19,h.dA),m)
  else if h.most < 0∨1024 < h.most then ((20,h.dA),m)
  else wrong t (depth + 1) m
 | h,_,_,m=>((19,h.dA),m)
def wrongPts (al:Int) (all:List Wd):Nat->Pts->Int->Int->Ft × Int
 | _,.nil,_,m=>((0,0),m)
 | i,.cons p t r,depth,m=>
  if bd all i p.name≠0 then ((bd all i p.name,p.name.a),m)
  else if p.bare=true then
   if al=7∨sameTy t bX=false∨cw p hU=false then ((19,p.name.a),m) else wrongPts al all (i + 1) r depth m
  else if (dZ p).1≠0 then (dZ p,m)
  else if (wrong t (depth + 1) m).1.1≠0 then wrong t (depth + 1) m
  else wrongPts al all (i + 1) r depth (wrong t (depth + 1) m).2
end
def oa (h:Hd) (ps:Pts) (depth m:Int):Ft × Int:=
 if h.al=8/\ps.len=0 then ((15,h.dA),m)
 else if 64 < ps.len then ((8,(((pNames ps)[64]?).getD (⟨aZ,0⟩:Wd)).a),m)
 else wrongPts h.al (pNames ps) 0 ps depth m
theorem EF (all:List Wd):∀ (l:List Wd) (i:Nat),(enumL all i l).1=0->enumL all i l=(0,0)
 | [],_,_=>rfl
 | x :: r,i,h=>by
  have ih:=EF all r (i + 1)
  grind [enumL]
theorem Ai (h:Hd) (he:(iE h).1=0):iE h=(0,0):=by grind [iE,EF]
mutual
theorem wW:∀ (t:Ty) (depth m:Int),0<=m->(wrong t depth m).1.1=0->(wrong t depth m).1=(0,0)/\0<=(wrong t depth m).2/\(wrong t depth m).2<=512
 | .mk h ps,depth,m,hm,he=>by
  have i1:=EG h ps depth (m + 1) (by omega);have i2:=ob h.al (pNames ps) ps 0 depth (m + 1) (by omega);have i3:=Ai h;simp only [wrong] at he ⊢;by_cases c0:24 < depth
  ·rw [ah c0] at he;simp at he
  rw [ag c0] at he ⊢;by_cases c1:512 < m + 1
  ·rw [ah c1] at he;simp at he
  rw [ag c1] at he ⊢;by_cases c2:h.al < 1∨9 < h.al
  all_goals grind
theorem EG:∀ (h:Hd) (ps:Pts) (depth m:Int),0<=m->m<=512->(wrongOne h ps depth m).1.1=0->(wrongOne h ps depth m).1=(0,0)/\0<=(wrongOne h ps depth m).2/\(wrongOne h ps depth m).2<=512
 | h,.nil,depth,m,hm,_,he=>by simp [wrongOne] at he
 | h,.cons p t .nil,depth,m,hm,h5,he=>by
  have ih:=wW t (depth + 1) m hm
  grind [wrongOne]
 | h,.cons p t (.cons _ _ _),depth,m,hm,_,he=>by simp [wrongOne] at he
theorem ob (al:Int) (all:List Wd):∀ (ps:Pts) (i:Nat) (depth m:Int),0<=m->m<=512->(wrongPts al all i ps depth m).1.1=0->(wrongPts al all i ps depth m).1=(0,0)/\0<=(wrongPts al all i ps depth m).2/\(wrongPts al all i ps depth m).2<=512
 | .nil,i,depth,m,hm,h5,he=>by simp only [wrongPts];exact ⟨trivial,hm,h5⟩
 | .cons p t r,i,depth,m,hm,h5,he=>by
  have i1:=wW t (depth + 1) m hm;simp only [wrongPts] at he ⊢;split at he
  ·rename_i h1;exact (h1 he).elim
  ·rename_i h1;rw [ag h1];split at he
   ·rename_i h2;rw [ah h2];split at he
    ·simp at he
    ·rename_i h3;rw [ag h3];exact ob al all r (i + 1) depth m hm h5 he
   ·rename_i h2;rw [ag h2];split at he
    ·rename_i h3;exact (h3 he).elim
    ·rename_i h3;rw [ag h3];split at he
     ·rename_i h4;exact (h4 he).elim
     ·rename_i h4;rw [ag h4];have i2:=i1 (sU h4);exact ob al all r (i + 1) depth _ i2.2.1 i2.2.2 he
end
theorem bQ (e a:Int):bA prog 237 [.v (.int .i64 e),.v (.int .i64 a)] (Ft.d (e,a)):=by
 refine eG 8 [.cell 4 26] func237 rfl ntmps237 rfl fun _ _ _ _=>?_;exact ⟨_,ax,rfl⟩
noncomputable def ib (L:List ByteArray) (x:ByteArray) (a:Int):Ft:=if ay x=true then (if L.Nodup then (0,0) else (10,a)) else (9,a)
theorem ur (L:List ByteArray) (x:ByteArray) (a:Int) (hx:L[L.length - 1]? = some x) (hl:L.length<=1099511627776) (Jx:x.size<=4611686018427387904) :
  bA prog 285 [.sl 1 (fN L) none,.v (.int .i64 a)] (ib L x a).d:=by
 have hN:=cT L;have nK:=(gS hx).1;have hz:IntKind.i64.wrap (((fN L).length:Int) - 1)=((L.length - 1:Nat):Int):=by rw [hN,wrap64 (by omega) (by omega)];omega
 refine eG 23 [.cell 4 26] func285 rfl ntmps285 rfl fun _ _ _ _=>?_;refine ⟨[.v (.string x)],⟨by rw [hz];omega,by rw [hz];exact hZ hx⟩,?_⟩;refine cP Ek (fG x Jx) ?_;refine br ?_ ?_<;>intro h
 ·have h:ay x=false:=sU h;refine cP ep (bQ 9 a) ?_;refine ⟨_,?_,rfl⟩;rw [ib,ag (by rw [h];decide)];exact ax
 ·have h:ay x=true:=sU h;refine eo OJ rfl (qf L hl) ax (fun r hr=>?_);obtain ⟨z,rfl,hz⟩:=hr;refine br ?_ ?_<;>intro h2
  ·have h2:0<=z:=sU h2;refine cP ep (bQ 10 a) ?_;refine ⟨_,?_,rfl⟩;rw [ib,ah h,ag (hz.1 h2)];exact ax
  ·have h2:¬ 0<=z:=sU h2;refine ⟨_,?_,rfl⟩;rw [ib,ah h,ah (Classical.byContradiction fun hn=>h2 (hz.2 hn))];exact ax
theorem HC {l:List Wd} {e:Nat} {x:Wd} (h:l[e]? = some x):cd ((l.map fun w=>(⟨w.s,0⟩:Wd)).take e) ++ [[.v (.string x.s),.v (.int .i64 0)]]=cd ((l.map fun w=>(⟨w.s,0⟩:Wd)).take (e + 1)):=by
 have h2:(l.map fun w=>(⟨w.s,0⟩:Wd))[e]? = some ⟨x.s,0⟩:=by simp [h]
 exact Lz h2
def aw (l:List Wd):List Wd:=l.map fun w=>⟨w.s,0⟩
abbrev Pb (l l':List Wd) (n e:Nat):St:=
 ⟨[dH 6 2 (cd l),aJ 7 ((cd l).length),aJ 8 e,(3,⟨[],.sl 2 (cd l') (some 0)⟩)],[],[⟨n,34,2,none⟩]⟩
theorem wX (l:List Wd) (hs:wdsWt l<=1099511627776):bA prog 251 [.sl 2 (cd l) none] (.sl 2 (cd (aw l)) none):=by
 have hl:=cE l;refine eG 20 [.tmp 2] func251 rfl ntmps251 rfl fun _ _ _ _=>?_;refine cH (fun j st=>∃ e:Nat,st=Pb l ((aw l).take e) e e/\e<=l.length/\j=l.length - e) l.length (Pb l [] 0 0) (gk ⟨0,34,2,none⟩ rfl ⟨_,rfl⟩ rfl wA rfl rfl vb) ⟨0,by simp,by omega,by omega⟩ ?_;rintro j st ⟨e,rfl,he,rfl⟩;refine br ?_ ?_<;>intro h
 ·have aE:e < l.length:=by simpa [aM] using h
  obtain ⟨w,hw⟩:=gX aE;refine ⟨nD w,⟨by omega,dy hw⟩,?_⟩;refine ⟨by simp [aM,aw];omega,⟨by simp [aM,aw,maxLen];omega,by simp [aM,aw];omega⟩,?_⟩;refine ⟨Pb l ((aw l).take (e + 1)) (e + 1) (e + 1),(dg (re (cR aE (by omega)) (HC hw))),l.length - (e + 1),by omega,e + 1,rfl,by omega,rfl⟩
 ·have hge:e=l.length:=by
   have:=h;simp [aM] at this;omega
  rw [hge,List.take_of_length_le (by simp [aw])];exact ⟨_,ax,rfl⟩
abbrev wY (l:List Wd) (e:Nat):St:=
 ⟨[dH 13 2 (cd l),aJ 14 ((cd l).length),bq 2 0,aJ 15 e],[[.v (.int .i64 0),.v (.int .i64 0)]],[]⟩
theorem iZ (l:List Wd) (hs:wdsWt l<=1099511627776) :
  bA prog 327 [.sl 2 (cd l) none] (du l).d:=by
 have v8:=cE l;refine eG 28 [.cell 2 26] func327 rfl ntmps327 rfl fun _ _ _ _=>?_;refine br ?_ ?_<;>intro h
 ·have aE:32 < l.length:=by simp [aM] at h;omega
  obtain ⟨x,hx⟩:=gX aE;have:du l=(8,x.a):=by simp [du,Nat.not_le.2 aE,hx]
  refine ⟨nD x,⟨by omega,dy hx⟩,?_⟩;refine cP ep (bQ 8 x.a) ?_;refine ⟨_,?_,rfl⟩;rw [this];exact ax
 ·have jk:l.length<=32:=by simp [aM] at h;omega
  refine cH (fun j st=>∃ e:Nat,st=wY l e/\e<=l.length/\badWd l=badWd (l.drop e)/\j=l.length - e) l.length
   (wY l 0) (dg wB) ⟨0,rfl,by omega,rfl,by omega⟩ ?_
  rintro j st ⟨e,rfl,he,bN,rfl⟩;refine br ?_ ?_<;>intro hL
  ·have aE:e < l.length:=by simpa [aM] using hL
   obtain ⟨x,hx⟩:=gX aE;rw [drop_cons hx] at bN;have Jx:=lQ (mG hx);refine ⟨nD x,⟨by omega,dy hx⟩,?_⟩;refine cP Ek (fG x.s (by omega)) ?_;refine br ?_ ?_<;>intro hN
   ·have hN:ay x.s=false:=sU hN;have:du l=(9,x.a):=by simp [du,jk,bN,badWd,hN]
    refine cP ep (bQ 9 x.a) ?_;refine ⟨_,?_,rfl⟩;rw [this];exact ax
   ·have hN:ay x.s=true:=sU hN;refine ⟨wY l (e + 1),(dg (gv (cR aE (by omega)))),l.length - (e + 1),by omega,e + 1,rfl,by omega,?_,rfl⟩;rw [bN];simp [badWd,hN]
  ·have hge:e=l.length:=by simp [aM] at hL;omega
   have:du l=(0,0):=by simp [du,jk,bN,hge,badWd]
   refine ⟨_,?_,rfl⟩;rw [this];exact ax
theorem Cq (p:Ph) (tl:List DV) (t:Ty) (nE:tl=dC t) (hs:p.wt<=1099511627776) :
  bA prog 328 [.agg (lR p tl)] (bW p).d:=by
 subst nE;obtain ⟨u,us⟩:=t;simp only [Ph.wt] at hs;refine eG 55 [.cell 2 26] func328 rfl ntmps328 rfl fun _ _ _ _=>?_;refine br ?_ ?_<;>intro h0
 ·have h0:p.ck=0:=of_decide_eq_true h0;refine br ?_ ?_<;>intro h1
  ·have:bW p=(19,p.name.a):=by grind [aD,aM,bW]
   refine cP ep (bQ 19 p.name.a) ?_;refine ⟨_,?_,rfl⟩;rw [this];exact ax
  ·have fD:p.cl=[]:=by
    simp [aD,aM] at h1;exact h1.2
   have:bW p=(0,0):=by grind [aD,aM,bW]
   have h00:du p.cl=(0,0):=by rw [fD];simp [du,badWd]
   refine cP Ew (iZ p.cl (by omega)) ?_;refine ⟨_,?_,rfl⟩;rw [this,<- h00];exact ax
 have h0:¬ p.ck=0:=of_decide_eq_false h0;refine br ?_ ?_<;>intro h1
 ·have h1:p.ck=1:=of_decide_eq_true h1;refine br ?_ ?_<;>intro h2
  ·have:bW p=(20,p.ca):=by grind [aC,bW]
   refine cP ep (bQ 20 p.ca) ?_;refine ⟨_,?_,rfl⟩;rw [this];exact ax
  ·have:bW p=du p.cl:=by grind [aC,bW]
   refine cP Ew (iZ p.cl (by omega)) ?_;refine ⟨_,?_,rfl⟩;rw [this];exact ax
 have h1:¬ p.ck=1:=of_decide_eq_false h1;refine br ?_ ?_<;>intro h3
 ·have h3:p.ck=2:=of_decide_eq_true h3;refine br ?_ ?_<;>intro h2
  ·have:bW p=(20,p.ca):=by grind [aC,bW]
   refine cP ep (bQ 20 p.ca) ?_;refine ⟨_,?_,rfl⟩;rw [this];exact ax
  ·have:bW p=du p.cl:=by grind [aC,bW]
   refine cP Ew (iZ p.cl (by omega)) ?_;refine ⟨_,?_,rfl⟩;rw [this];exact ax
 have h3:¬ p.ck=2:=of_decide_eq_false h3;refine br ?_ ?_<;>intro h4
 ·have h4:p.ck=3:=of_decide_eq_true h4;refine br ?_ ?_<;>intro h2
  ·have:bW p=(20,p.ca):=by grind [aC,bW]
   refine cP ep (bQ 20 p.ca) ?_;refine ⟨_,?_,rfl⟩;rw [this];exact ax
  ·have:bW p=du p.cl:=by grind [aC,bW]
   refine cP Ew (iZ p.cl (by omega)) ?_;refine ⟨_,?_,rfl⟩;rw [this];exact ax
 have h4:¬ p.ck=3:=of_decide_eq_false h4;have:bW p=(14,p.ca):=by grind [bW]
 refine cP ep (bQ 14 p.ca) ?_;refine ⟨_,?_,rfl⟩;rw [this];exact ax
theorem Pc (w:World) (x y:Operand) (vs vs':Array Value):(eqGuard .neq 34 x y (.agg vs) (.agg vs')).run prog w = .ok () w:=by
 have h:prog.eqGuardType prog.depth 34=false:=by kernel_rfl
 simp [eqGuard,run_program,h]
theorem XY (a b:ByteArray) (p q:Int) (w:World):(binOp .neq 34 (.agg #[.string a,.int .i64 p]) (.agg #[.string b,.int .i64 q])).run prog w = .ok (.bool (!(decide (a=b) && decide (p=q)))) w:=by
 have hf:prog.underlying 34=some (.struct (prog.fieldsOf 34)):=by simp [Program.fieldsOf,Tryz.underlying34]
 have G1:(prog.fieldsOf 34).toList=[⟨ "Name",9,0,false, "", "",0⟩,⟨ "At",3,1,false, "", "",16⟩]:=by simp [Program.fieldsOf,Tryz.underlying34]
 have hs:prog.stoodInHeld 34=false:=by kernel_rfl
 have hm:∃ d,Op.maxDepth=d + 1 + 1:=⟨Op.maxDepth - 2,by decide⟩;obtain ⟨d,hm⟩:=hm
 have he:(Op.equal 34 (.agg #[.string a,.int .i64 p]) (.agg #[.string b,.int .i64 q])).run prog w = .ok (decide (a=b) && decide (p=q)) w:=by
  unfold Op.equal;rw [hm,run_equalIn_struct w (d + 1) 34 _ _ hf hs,G1]
  have e1:(a.toList == b.toList)=decide (a=b):=by
   rw [ByteArray.toList_eq,ByteArray.toList_eq];by_cases h:a=b
   ·subst h;simp
   ·have:¬ a.data=b.data:=fun e=>h (ByteArray.ext e);simp [h,this]
  have q9:∀ cs:Array Value,∀ off v,cs[off]? = some v->(part 9 cs off).run prog w = .ok v w:=fun cs off v h=>by
   simp [part,Tryz.isAgg9,h]
  have q3:∀ cs:Array Value,∀ off v,cs[off]? = some v->(part 3 cs off).run prog w = .ok v w:=fun cs off v h=>by
   simp [part,Tryz.isAgg3,h]
  simp only [Op.eqFields,ne_eq,String.reduceEq,not_false_eq_true,if_true,Sem.run_bind,q9 #[.string a,.int .i64 p] 0 (.string a) rfl,q9 #[.string b,.int .i64 q] 0 (.string b) rfl,Result.andThen_ok,run_equalIn_string w d 9 a b Tryz.underlying9,e1];by_cases h:a=b
  ·simp only [h,decide_true,Bool.not_true,Bool.false_eq_true,if_false,Sem.run_bind,q3 #[.string b,.int .i64 p] 1 (.int .i64 p) rfl,q3 #[.string b,.int .i64 q] 1 (.int .i64 q) rfl,Result.andThen_ok,run_equalIn_int w d 3 .i64 .i64 p q Tryz.underlying3];by_cases h2:p=q<;>simp [h2,Sem.run_pure]
  ·simp [h,Sem.run_pure]
 show ((do let r <- Op.equal 34 _ _;pure (Value.bool !r)):Sem Value).run prog w=_;simp only [Sem.run_bind,he,Result.andThen_ok,Sem.run_pure]
theorem Tr (x y:Operand) (a b:Wd):N7 prog .neq x y 34 (nD a) (nD b) (!(decide (a.s=b.s) && decide (a.a=b.a))):=
 ⟨[.string a.s,.int .i64 a.a],[.string b.s,.int .i64 b.a],rfl,rfl,fun w=>⟨Pc w x y _ _,XY a.s b.s a.a b.a w⟩⟩
def eqWds:List Wd->List Wd->Bool
 | [],[]=>true
 | x :: r,y :: s=>(decide (x.s=y.s) && decide (x.a=y.a)) && eqWds r s
 | _,_=>false
theorem Aj:∀ {a b:List Wd},a.length≠b.length->eqWds a b=false
 | [],[],h=>(h rfl).elim
 | [],_ :: _,_=>rfl
 | _ :: _,[],_=>rfl
 | x :: r,y :: s,h=>by
  simp only [eqWds];rw [Aj (a:=r) (b:=s) (sU h),Bool.and_false]
theorem uu:∀ a b:List Wd,eqWds (aw a) (aw b)=sameWds a b
 | [],[]=>rfl
 | [],_ :: _=>rfl
 | _ :: _,[]=>rfl
 | x :: r,y :: s=>by
  have:=uu r s
  grind [aw,eqWds,sameWds]
abbrev Pd (a b:List Wd) (e:Nat):St:=
 ⟨[dH 0 2 (cd a),dH 1 2 (cd b),aJ 12 ((cd a).length),aJ 13 e],[],[]⟩
theorem EH (a b:List Wd) (hs:a.length<=1099511627776) :
  bA prog 89 [.sl 2 (cd a) none,.sl 2 (cd b) none] (.v (.bool (eqWds a b))):=by
 refine eG 26 [.tmp 4] func89 rfl ntmps89 rfl fun _ _ _ _=>?_;refine br ?_ ?_<;>intro h
 ·have bo:a.length≠b.length:=by have:=h;simp [aM] at this;omega
  exact congrArg (fun b=>DV.v (.bool b)) (Aj bo).symm
 ·have hl:a.length=b.length:=by have:=h;simp [aM] at this;omega
  refine cH (fun j st=>∃ e:Nat,st=Pd a b e/\e<=a.length/\eqWds a b=eqWds (a.drop e) (b.drop e)/\j=a.length - e) a.length
   (Pd a b 0) (dg wB) ⟨0,rfl,by omega,rfl,by omega⟩ ?_
  rintro j st ⟨e,rfl,he,bN,rfl⟩;refine br ?_ ?_<;>intro h
  ·have aE:e < a.length:=by simpa [aM] using h
   obtain ⟨x,hx⟩:=gX aE;obtain ⟨y,hy⟩:∃ y,b[e]? = some y:=⟨_,gE (hl ▸ aE)⟩;rw [drop_cons hx,drop_cons hy] at bN;refine dI ?_;refine ⟨nD x,⟨by omega,dy hx⟩,nD y,⟨by omega,dy hy⟩,_,Tr _ _ x y,?_⟩;refine br ?_ ?_<;>intro h
   ·have bo:(decide (x.s=y.s) && decide (x.a=y.a))=false:=by grind
    refine (dP ?_:);rw [bN];simp only [eqWds,bo,Bool.false_and]
   ·have bo:(decide (x.s=y.s) && decide (x.a=y.a))=true:=by grind
    refine ⟨Pd a b (e + 1),(dg (gv (cR aE (by omega)))),a.length - (e + 1),by omega,e + 1,rfl,by omega,?_,rfl⟩;rw [bN];simp only [eqWds,bo,Bool.true_and]
  ·have hge:e=a.length:=by have:=h;simp [aM] at this;omega
   refine (dP ?_:);rw [bN,hge,hl];simp [eqWds];rw [<- hl];simp [eqWds]
theorem ic (a b:List Wd) (ha:wdsWt a<=1099511627776) (hb:wdsWt b<=1099511627776) :
  bA prog 170 [.sl 2 (cd a) none,.sl 2 (cd b) none] (.v (.bool (sameWds a b))):=by
 have hl:=cE a;refine eG 10 [.tmp 4] func170 rfl ntmps170 rfl fun _ _ _ _=>?_;refine cP VO (wX a ha) ?_;refine cP VO (wX b hb) ?_;refine cP en89 (EH (aw a) (aw b) (by simp [aw];omega)) ?_;refine (dP ?_:);exact uu a b
def eqPts (F:Ph->Ty->Ph->Ty->Bool):Pts->Pts->Bool
 | .nil,.nil=>true
 | .cons p t r,.cons q u s=>F p t q u && eqPts F r s
 | _,_=>false
theorem Ak {F:Ph->Ty->Ph->Ty->Bool}:∀ {a b:Pts},a.len≠b.len->eqPts F a b=false
 | .nil,.nil,h=>(h rfl).elim
 | .cons p t r,.cons q u s,h=>by
  simp only [eqPts];rw [Ak (a:=r) (b:=s) (by simpa [Pts.len] using h),Bool.and_false]
 | .nil,.cons _ _ _,_=>rfl
 | .cons _ _ _,.nil,_=>rfl
def dt (p:Ph) (t:Ty) (q:Ph) (u:Ty):Bool:=decide (p.name.s=q.name.s) && cw p q && sameTy t u
theorem wZ:∀ a b:Pts,eqPts dt a b=samePts a b
 | .nil,.nil=>by simp [eqPts,samePts]
 | .cons p t r,.cons q u s=>by simp only [eqPts,samePts,dt,wZ r s]
 | .nil,.cons _ _ _=>by simp [eqPts,samePts]
 | .cons _ _ _,.nil=>by simp [eqPts,samePts]
abbrev Pe (a b:Pts) (g e:Nat):St:=
 ⟨[dH 1 18 (eX b),(2,⟨[],.fn g [] []⟩),dH 15 18 (eX a),aJ 16 ((eX a).length),aJ 17 e],[],[]⟩
theorem EI (g:Nat) (gh:Enters prog g) (F:Ph->Ty->Ph->Ty->Bool) (a b:Pts) (hs:a.wt<=1099511627776)
  (hF:∀ (e:Nat) p t q u,a.toList[e]? = some (p,t)->b.toList[e]? = some (q,u)->bA prog g [.agg (lR p (dC t)),.agg (lR q (dC u))] (.v (.bool (F p t q u)))) :
  bA prog 171 [.sl 18 (eX a) none,.sl 18 (eX b) none,.fn g [] []] (.v (.bool (eqPts F a b))):=by
 have ZA:=a.ki;refine eG 32 [.tmp 6] func171 rfl ntmps171 rfl fun _ _ _ _=>?_;refine br ?_ ?_<;>intro h
 ·have bo:a.len≠b.len:=by have:=h;simp [bG] at this;omega
  exact congrArg (fun b=>DV.v (.bool b)) (Ak bo).symm
 ·have hl:a.len=b.len:=by have:=h;simp [bG] at this;omega
  refine cH (fun j st=>∃ e:Nat,st=Pe a b g e/\e<=a.len/\eqPts F a b=eqPts F (a.drop e) (b.drop e)/\j=a.len - e) a.len
   (Pe a b g 0) (dg wB) ⟨0,rfl,by omega,rfl,by omega⟩ ?_
  rintro j st ⟨e,rfl,he,bN,rfl⟩;refine br ?_ ?_<;>intro h
  ·have aE:e < a.len:=by simpa [bG] using h
   obtain ⟨p,t,hx⟩:=Pts.jm aE;obtain ⟨q,u,hy⟩:=Pts.jm (hl ▸ aE);rw [Pts.drop_cons hx,Pts.drop_cons hy] at bN;have SA:=hF e p t q u hx hy;obtain ⟨t,ts⟩:=t;obtain ⟨u,us⟩:=u;refine iX (er hx) ?_;refine iX (er hy) ?_;refine cP gh SA ?_;refine br ?_ ?_<;>intro h
   ·have bo:F p (.mk t ts) q (.mk u us)=false:=sU h;refine (dP ?_:);rw [bN];simp only [eqPts,bo,Bool.false_and]
   ·have bo:F p (.mk t ts) q (.mk u us)=true:=sU h;refine ⟨Pe a b g (e + 1),(dg (gv (cR aE (by omega)))),a.len - (e + 1),by omega,e + 1,rfl,by omega,?_,rfl⟩;rw [bN];simp only [eqPts,bo,Bool.true_and]
  ·have hge:e=a.len:=by have:=h;simp [bG] at this;omega
   refine (dP ?_:);rw [bN,hge,Pts.gm,hl,Pts.gm];simp [eqPts]
theorem oc (p q:Ph) (t u:Ty) (hp:p.wt<=1099511627776) (hq:q.wt<=1099511627776)
  (ht:bA prog 91 [.agg (dC t),.agg (dC u)] (.v (.bool (sameTy t u)))) :
  bA prog 172 [.agg (lR p (dC t)),.agg (lR q (dC u))] (.v (.bool (dt p t q u))):=by
 simp only [Ph.wt] at hp hq;obtain ⟨th,ZW⟩:=t;obtain ⟨uh,ups⟩:=u;refine eG 71 [.tmp 4] func172 rfl ntmps172 rfl fun _ _ _ _=>?_
 have e0:dt p (.mk th ZW) q (.mk uh ups)=(((decide (p.name.s=q.name.s) && (p.bare == q.bare)) && decide (p.wide=q.wide)) && sameWds p.label q.label && ((decide (p.ck=q.ck) && decide (p.cn=q.cn)) && sameWds p.cl q.cl) && sameTy (.mk th ZW) (.mk uh ups)):=by
  simp only [dt,cw,Bool.and_assoc]
 rw [e0];refine br ?_ ?_<;>intro hA
 ·simp only [aC] at hA;refine cP JO (ic p.label q.label (by omega) (by omega)) ?_;refine br ?_ ?_<;>intro hB
  ·simp only [aC] at hB;refine cP JO (ic p.cl q.cl (by omega) (by omega)) ?_;refine br ?_ ?_<;>intro hC
   ·refine cP en91 ht ?_;refine (dP ?_:);simp only [aC,Bool.true_and,Bool.and_true] at hC ⊢
    simp_all
   ·refine (dP ?_:);simp only [aC,Bool.true_and,Bool.and_true] at hC ⊢
    simp_all
  ·simp only [aC] at hB;refine br ?_ ?_<;>intro hC
   ·exfalso;simp [aC] at hC
   ·refine (dP ?_:)
    simp_all
 ·simp only [aC,beq_true] at hA;refine br ?_ ?_<;>intro hB
  ·refine cP JO (ic p.cl q.cl (by omega) (by omega)) ?_;refine (dP ?_:);rw [hA];rfl
  ·refine (dP ?_:);rw [hA];rfl
theorem Al:∀ (n:Nat) (a b:Ty),a.wt<=n->a.wt<=1099511627776->b.wt<=1099511627776 ->
  bA prog 91 [.agg (dC a),.agg (dC b)] (.v (.bool (sameTy a b)))
 | 0,a,b,hn,_,_=>by have:=a.mR;omega
 | n + 1,.mk h ps,.mk k qs,hn,cV,abY=>by
  have ih:=Al n;simp only [Ty.wt,Hd.wt] at hn cV abY
  have hE:bA prog 171 [.sl 18 (eX ps) none,.sl 18 (eX qs) none,.fn 172 [] []] (.v (.bool (samePts ps qs))):=by
   rw [<- wZ];refine EI 172 OM dt ps qs (by omega) fun e p t q u hx hy=>?_;have zA:=Pts.kj (mG hx);have lL:=Pts.kj (mG hy);exact oc p q t u (by omega) (by omega) (ih t u (by omega) (by omega) (by omega))
  refine eG 53 [.tmp 4] func91 rfl ntmps91 rfl fun _ _ _ _=>?_;refine br ?_ ?_<;>intro hA
  ·simp [aD] at hA;obtain ⟨⟨⟨⟨e1,e2⟩,e3⟩,e4⟩,e5⟩:=hA;refine cP JO (ic h.af k.af (by omega) (by omega)) ?_;refine br ?_ ?_<;>intro hB
   ·refine (dP ?_:);simp [aD,e1,e2,e3,e4,e5] at hB;simp [sameTy,lg,hB]
   ·simp [aD,e1,e2,e3,e4,e5] at hB;refine cP aa9 hE ?_;refine (dP ?_:);simp [sameTy,lg,e1,e2,e3,e4,e5,hB]
  ·refine (dP ?_:);simp [aD] at hA;simp only [sameTy,lg]
   grind
theorem xa (a b:Ty) (ha:a.wt<=1099511627776) (hb:b.wt<=1099511627776):bA prog 91 [.agg (dC a),.agg (dC b)] (.v (.bool (sameTy a b))):=Al _ a b (bn _) ha hb
def pB (h:Hd) (ps:Pts):Bool:=
 (((((decide (h.al=2) || (decide (h.lo=0) && decide (h.hi=0))) && ((decide (h.al=3) || decide (h.al=5)) || decide (h.most=0))) && (decide (ps.len=0) || (decide (5<=h.al) && decide (h.al<=8)))) &&
  (decide (h.af.length=0) || decide (h.al=4))) && (decide (h.name.s=aZ) || decide (h.al=9)))
theorem LL (h:Hd) (ps:Pts):bA prog 238 [.agg (dC (.mk h ps))] (.v (.bool (pB h ps))):=by
 have l1:(((eX ps).length:Int)=0)=(ps.len=0):=by rw [bG];exact propext (by omega)
 have l2:(((cd h.af).length:Int)=0)=(h.af.length=0):=by rw [aM];exact propext (by omega)
 have he:(⟨#[]⟩:ByteArray)=aZ:=rfl;refine eG 67 [.tmp 2] func238 rfl ntmps238 rfl fun _ _ _ _=>?_;refine br ?_ ?_<;>intro k2
 ·have k2:h.al=2:=of_decide_eq_true k2;refine (dP ?_:);rw [Bool.eq_iff_iff];simp [aC,aD,pB,bG,aM,k2,he]
 have k2:¬ h.al=2:=of_decide_eq_false k2;refine br ?_ ?_<;>intro k3
 ·have k3:h.al=3:=of_decide_eq_true k3;refine br (fun _=>?_) (fun hf=>?_)
  ·refine (dP ?_:);rw [Bool.eq_iff_iff];simp [aC,aD,pB,bG,aM,k3,he]
  ·exact absurd k3 (of_decide_eq_false hf)
 have k3:¬ h.al=3:=of_decide_eq_false k3;refine br ?_ ?_<;>intro k5
 ·have k5:h.al=5:=of_decide_eq_true k5;refine (dP ?_:);rw [Bool.eq_iff_iff];simp [aC,aD,pB,bG,aM,k5,he]
 have k5:¬ h.al=5:=of_decide_eq_false k5;refine (dP ?_:);rw [Bool.eq_iff_iff];simp [aC,aD,pB,bG,aM,k2,k3,k5,he]
theorem Cr:∀ ps:Pts,samePts ps ps=true:=by
 have wr:∀ l:List Wd,sameWds l l=true:=by
  intro l
  induction l with
  | nil=>rfl
  | cons x r ih=>simp [sameWds,ih]
 have key:∀ n,(∀ t:Ty,t.wt<=n->sameTy t t=true)/\(∀ ps:Pts,ps.wt<=n->samePts ps ps=true):=by
  intro n
  induction n using Nat.strongRecOn with
  | _ n ih=>
   have hp:∀ ps:Pts,ps.wt<=n->(∀ t:Ty,t.wt + 256<=n->sameTy t t=true)->samePts ps ps=true:=by
    intro ps
    induction ps using Pts.rec (motive_1:=fun _=>True) with
    | mk=>trivial
    | nil=>intros;simp [samePts]
    | cons p t r _ ihr=>
     intro hw ht;simp only [Pts.wt,Ph.wt] at hw;simp only [samePts];rw [ht t (by omega),ihr (by omega) ht];simp [cw,wr]
   refine ⟨fun t ht=>?_,fun ps LM=>?_⟩
   ·obtain ⟨h,ps⟩:=t;simp only [Ty.wt,Hd.wt] at ht;simp only [sameTy,lg]
    grind
   all_goals grind
 exact fun ps=>(key ps.wt).2 ps (bn _)
theorem rm (h:Hd) (ps:Pts):pB h ps=sameTy (.mk h ps) (mask (.mk h ps)):=by
 have wr:∀ l:List Wd,sameWds l l=true:=by
  intro l
  induction l with
  | nil=>rfl
  | cons x r ih=>simp [sameWds,ih]
 have wn:∀ l:List Wd,sameWds l []=decide (l.length=0):=by
  intro l;cases l<;>simp [sameWds]
 have pn:∀ l:Pts,samePts l .nil=decide (l.len=0):=by
  intro l;cases l<;>simp [samePts,Pts.len]
 have pr:=Cr ps;simp only [mask,sameTy,lg,HA];have e5:samePts ps (if 4 < h.al/\h.al < 9 then ps else .nil)=(decide (ps.len=0) || (decide (5<=h.al) && decide (h.al<=8))):=by grind
 have e6:sameWds h.af (if h.al=4 then h.af else [])=(decide (h.af.length=0) || decide (h.al=4)):=by grind
 grind [pB]
theorem EJ (p:Ph) (t:Ty) (hp:p.wt<=1099511627776):bA prog 286 [.agg (lR p (dC t))] (.v (.bool (dt p bX cp bX))):=by
 obtain ⟨th,ZW⟩:=t;refine eG 8 [.tmp 2] func286 rfl ntmps286 rfl fun _ _ _ _=>?_;refine cP OM (oc p cp bX bX hp (by decide) (xa bX bX (by decide) (by decide))) ?_;exact (rfl:_=_)
def aO (l:List Wd):List ByteArray:=l.map fun w=>w.s
noncomputable def enumP (l:List Wd):Nat->Ft
 | 0=>(0,0)
 | e + 1=>
  if (enumP l e).1≠0 then enumP l e
  else match l[e]? with
   | some w=>ib (aO (l.take (e + 1))) w.s w.a
   | none=>(0,0)
theorem qh {l:List Wd} {e:Nat} (h:(enumP l e).1≠0):∀ d,enumP l (e + d)=enumP l e
 | 0=>rfl
 | d + 1=>by
  have ih:=qh h d;rw [<- Nat.add_assoc,enumP,ih,ah h]
theorem Ct {L:List ByteArray} {x:ByteArray} {a:Int} (h:(ib L x a).1=0):ib L x a=(0,0):=by
 unfold ib at *
 grind
theorem HD {l:List Wd}:∀ {e:Nat},(enumP l e).1=0->enumP l e=(0,0)
 | 0,_=>rfl
 | e + 1,h=>by
  rw [enumP] at h ⊢
  grind [Ct]
theorem xc {l:List Wd} {e:Nat} {w:Wd} (h:(enumP l e).1=0) (hw:l[e]? = some w):enumP l (e + 1)=ib (aO (l.take (e + 1))) w.s w.a:=by
 rw [enumP,ag (by rw [h];simp),hw]
noncomputable def oe (h:Hd):Ft:=
 if h.af.length=0 then (15,h.dA) else if 64 < h.af.length then (8,((h.af[64]?).getD (⟨aZ,0⟩:Wd)).a) else enumP h.af h.af.length
abbrev Pf (h:Hd) (ps:Pts) (n e:Nat):St:=
 ⟨[bq 1 0,bq 2 1,dH 27 2 (cd h.af),aJ 28 ((cd h.af).length),aJ 29 e,(3,⟨[],.sl 1 (fN (aO (h.af.take e))) (some 0)⟩)],
  [dC (.mk h ps),[.v (.int .i64 0),.v (.int .i64 0)]],[⟨n,9,1,none⟩]⟩
theorem lT {l:List Wd} {e:Nat} {w:Wd} (h:l[e]? = some w):fN (aO (l.take e)) ++ [[DV.v (.string w.s)]]=fN (aO (l.take (e + 1))):=by
 rw [List.take_add_one,h];simp [fN,aO]
theorem HE (h:Hd) (ps:Pts) (hs:wdsWt h.af<=1099511627776):bA prog 239 [.agg (dC (.mk h ps))] (oe h).d:=by
 have hl:=cE h.af;refine eG 48 [.cell 2 26] func239 rfl ntmps239 rfl fun _ _ _ _=>?_;refine br ?_ ?_<;>intro h0
 ·have h0:h.af.length=0:=by have:=h0;simp [aM] at this;simp [this]
  refine cP ep (bQ 15 h.dA) ?_;refine ⟨_,?_,rfl⟩;rw [oe,ah h0];exact ax
 have h0:¬ h.af.length=0:=by have:=h0;simp [aM] at this;simpa using this
 refine br ?_ ?_<;>intro h1
 ·have h1:64 < h.af.length:=by have:=h1;simp [aM] at this;omega
  obtain ⟨x,hx⟩:∃ x,h.af[64]? = some x:=⟨_,gE h1⟩;refine ⟨nD x,⟨by omega,dy hx⟩,?_⟩;refine cP ep (bQ 8 x.a) ?_;refine ⟨_,?_,rfl⟩;rw [oe,ag h0,ah h1,hx];exact ax
 have h1:¬ 64 < h.af.length:=by have:=h1;simp [aM] at this;omega
 have hk:oe h=enumP h.af h.af.length:=by rw [oe,ag h0,ag h1]
 rw [hk];refine lI (fun j st=>∃ e:Nat,st=Pf h ps e e/\e<=h.af.length/\(enumP h.af e).1=0/\j=h.af.length - e) ⟨0,rfl,by omega,rfl,rfl⟩ (gk ⟨0,9,1,none⟩ rfl ⟨_,rfl⟩ rfl wA rfl rfl vb) ?_;rintro j st ⟨e,rfl,he,hz,rfl⟩;refine br ?_ ?_<;>intro hL
 ·have aE:e < h.af.length:=by simpa [aM] using hL
  obtain ⟨w,hw⟩:=gX aE;have LN:=lQ (mG hw);have abZ:=xc hz hw;have Pg:(aO (h.af.take (e + 1)))[(aO (h.af.take (e + 1))).length - 1]? = some w.s:=by grind [aO]
  refine ⟨nD w,⟨by omega,dy hw⟩,?_⟩;refine ⟨by simp [cT,aO];omega,⟨by simp [cT,aO,maxLen];omega,by simp [cT,aO];omega⟩,?_⟩;have zn:=lT hw;have Xe:=ur (aO (h.af.take (e + 1))) w.s w.a Pg (by simp [aO];omega) (by omega);rw [<- zn,<- abZ] at Xe;refine cP VQ Xe ?_;refine br ?_ ?_<;>intro hf
  ·have hf:(enumP h.af (e + 1)).1≠0:=sU hf;refine ⟨_,?_,rfl⟩;have bp:=qh hf (h.af.length - (e + 1));rw [show e + 1 + (h.af.length - (e + 1))=h.af.length by omega] at bp;rw [bp];exact ax
  ·have hf:(enumP h.af (e + 1)).1=0:=sU hf;refine ⟨Pf h ps (e + 1) (e + 1),(dg (re (cR aE (by omega)) zn)),h.af.length - (e + 1),by omega,e + 1,rfl,by omega,hf,rfl⟩
 ·have hge:e=h.af.length:=by
   have:=hL;simp [aM] at this;omega
  subst hge;have bp:=HD hz;refine ⟨_,?_,rfl⟩;rw [bp];exact ax
def ab0 (t:Ty) (depth m:Int) (r:DV) (os:List (List DV)) (_:List TkE):Prop:=
 r=(wrong t depth m).1.d/\∃ z:Int,os=[[.v (.int .i64 z)]]/\((wrong t depth m).1.1=0->z=(wrong t depth m).2)
theorem XZ {t:Ty} {depth m:Int}:∀ r os tk,ab0 t depth m r os tk->clB 0 0 r=true/\∀ sk∈os,clB.clL 0 0 sk=true:=by
 rintro r os tk ⟨rfl,z,rfl,_⟩;refine ⟨rfl,fun sk h=>?_⟩;simp only [List.mem_singleton] at h;subst h;rfl
theorem LO (t:Ty) (hc:Ev prog 156 [.loc 0 0,.agg (dC t),.v (.int .i64 1)] [[.v (.int .i64 0)]] [] (ab0 t 1 0)) :
  bA prog 84 [.agg (dC t)] (wrong t 1 0).1.d:=by
 obtain ⟨h,ps⟩:=t;refine eG 9 [.cell 2 26] func84 rfl ntmps84 rfl fun _ _ _ _=>?_;refine mQ OL rfl rfl ax ax hc XZ (fun r sk hr=>?_);obtain ⟨rfl,z,hz,_⟩:=hr;simp only [List.cons.injEq,and_true] at hz;subst hz;exact ⟨_,ax,rfl⟩
def fQ (n:Nat):List UInt8:=if n < 10 then [UInt8.ofNat (48 + n)] else fQ (n / 10) ++ [UInt8.ofNat (48 + n % 10)]
termination_by n
decreasing_by omega
theorem kS {n:Nat} (h:n < 10):fQ n=[UInt8.ofNat (48 + n)]:=by rw [fQ,ah h]
theorem oT {n:Nat} (h:¬ n < 10):fQ n=fQ (n / 10) ++ [UInt8.ofNat (48 + n % 10)]:=by rw [fQ,ag h]
theorem EK:∀ (k n:Nat),n < 10 ^ (k + 1)->(fQ n).length<=k + 1
 | 0,n,h=>by grind [kS]
 | k + 1,n,h=>by
  by_cases hn:n < 10
  ·rw [kS hn];simp
  ·rw [oT hn];have h2:n / 10 < 10 ^ (k + 1):=by omega
   have:=EK k (n / 10) h2
   grind
theorem digs_20 {n:Nat} (h:n<=18446744073709551616):(fQ n).length<=20:=EK 19 n (by omega)
def fI (z:Int):List UInt8:=if z < 0 then 45 :: fQ z.natAbs else fQ z.natAbs
def LP (z:Int):ByteArray:=⟨(fI z).toArray⟩
theorem lU {z:Int} (h1 : -9223372036854775808<=z) (h2:z<=9223372036854775807):(fI z).length<=21:=by grind [digs_20,fI]
theorem lV {z:Int} (h1 : -9223372036854775808<=z) (h2:z<=9223372036854775807):(LP z).size<=21:=lU h1 h2
theorem X0 (a b:List UInt8):(⟨a.toArray⟩:ByteArray) ++ ⟨b.toArray⟩=⟨(a ++ b).toArray⟩:=by
 apply ByteArray.ext;simp
theorem wr (z:Int) (h1 : -9223372036854775808<=z) (h2:z<=9223372036854775807):IntKind.i64.wrap z=z:=by
 rw [IntKind.wrap_i64];omega
theorem Ts {z:Int} (h:0<=z):fI z=fQ z.toNat:=by grind [fI]
theorem EL {z:Int} (h:z < 0):fI z=45 :: fQ z.natAbs:=by unfold fI;rw [ah h]
theorem rn:∀ bs:List UInt8,u8L bs=bs.map fun b=>DV.v (.int .u8 (b.toNat:Int))
 | []=>rfl
 | b :: r=>by simp [u8L,rn r]
theorem Cu (bs:List UInt8):(u8L bs).length=bs.length:=by simp [rn]
theorem JX (a b:List UInt8):u8L (a ++ b)=u8L a ++ u8L b:=by simp [rn]
theorem Pj (n:Nat) (a:List UInt8):u8L (a.take n)=(u8L a).take n:=by simp [rn,List.map_take]
theorem EM (n:Nat) (a:List UInt8):u8L (a.drop n)=(u8L a).drop n:=by simp [rn,List.map_drop]
theorem JY {n m:Nat} {tk:List TkE}:∀ bs:List UInt8,WeL n m tk (u8L bs) (u8L bs)
 | []=>rfl
 | b :: r=>⟨_,_,rfl,az rfl,JY r⟩
theorem sQ {n m:Nat} {tk:List TkE} {l:List DV} {bs:List UInt8} (h:l=u8L bs):WeL n m tk l (u8L bs):=by rw [h];exact JY bs
theorem Pk (n:Nat):0 < (fQ n).length:=by
 rw [fQ];split<;>simp
abbrev EN (m:Bool) (u a:Nat) (bs:List UInt8):St:=⟨[Oq 3 m,(4,⟨[],.v (.int .u64 u)⟩),bq 5 0,aJ 6 a],[u8L bs],[]⟩
def X1 (m:Bool) (N j:Nat) (st:St):Prop:=∃ (u a:Nat) (bs:List UInt8),st=EN m u a bs/\bs.length=20/\a<=20/\u < 18446744073709551616 /\
 ((a < 20/\u=0/\fQ N=bs.drop a)∨((a=20∨0 < u)/\fQ N=fQ u ++ bs.drop a))/\j=a
theorem putI_0 (m:Bool) (N:Nat) (h:N < 18446744073709551616):X1 m N 20 (EN m N 20 (List.replicate 20 0)):=
 ⟨N,20,_,rfl,by simp,bn _,h,.inr ⟨.inl rfl,by simp⟩,rfl⟩
theorem dz (z:Int) (h1 : -9223372036854775808<=z) (h2:z<=9223372036854775807):bA prog 119 [.v (.int .i64 z)] (.v (.string (LP z))):=by
 have hN:z.natAbs<=9223372036854775808:=by omega
 refine eG 38 [.tmp 2] func119 rfl ntmps119 rfl fun _ _ _ _=>?_;refine br ?_ ?_<;>intro h
 case' refine_1=>
  have hz:z < 0:=sU h
  have hu:IntKind.u64.wrap (0 - IntKind.u64.wrap z)=(z.natAbs:Int):=by
   simp only [IntKind.wrap_u64];omega
  refine cH (X1 (decide (z < 0)) z.natAbs) 20 (EN (decide (z < 0)) z.natAbs 20 (List.replicate 20 0)) (Cf ⟨_,rfl⟩ (by repeat' (first | exact rfl | exact az rfl | exact sQ rfl | refine ⟨_,_,rfl,?_,?_⟩)) rfl rfl rfl (by repeat' (first | exact trivial | exact az rfl | exact aP hu | exact sQ rfl | refine ⟨⟨_,rfl,?_⟩,?_⟩))) (putI_0 _ _ (by omega)) ?_
 case' refine_2=>
  have hz:¬ z < 0:=sU h
  have hu:IntKind.u64.wrap z=(z.natAbs:Int):=by
   simp only [IntKind.wrap_u64];omega
  refine cH (X1 (decide (z < 0)) z.natAbs) 20 (EN (decide (z < 0)) z.natAbs 20 (List.replicate 20 0)) (Cf ⟨_,rfl⟩ (by repeat' (first | exact rfl | exact az rfl | exact sQ rfl | refine ⟨_,_,rfl,?_,?_⟩)) rfl rfl rfl (by repeat' (first | exact trivial | exact az rfl | exact aP hu | exact sQ rfl | refine ⟨⟨_,rfl,?_⟩,?_⟩))) (putI_0 _ _ (by omega)) ?_
 all_goals
  clear hu hz h;rintro a st ⟨u,j,bs,rfl,hbl,ha,hu64,hinv,rfl⟩;refine br ?_ ?_<;>intro h
  ·have hc:a=20∨0 < u:=by
    simp [aD] at h;omega
   have hd:fQ z.natAbs=fQ u ++ bs.drop a:=by grind
   have hp:0 < a:=by grind [Pk,digs_20]
   have V6:IntKind.i64.wrap ((a:Int) - 1)=((a - 1:Nat):Int):=by rw [wr _ (by omega) (by omega)];omega
   have hb:IntKind.u8.wrap (48 + IntKind.u8.wrap ((u:Int).tmod 10))=((UInt8.ofNat (48 + u % 10)).toNat:Int):=by
    rw [Int.tmod_eq_emod_of_nonneg (by omega),UInt8.toNat_ofNat',IntKind.wrap_u8',IntKind.wrap_u8'];omega
   have hq:IntKind.u64.wrap ((u:Int).tdiv 10)=((u / 10:Nat):Int):=by
    rw [Int.tdiv_eq_ediv_of_nonneg (by omega),IntKind.wrap_u64];omega
   refine ⟨⟨rfl,by decide⟩,?_⟩;refine ⟨⟨by rw [V6];omega,by rw [V6];omega⟩,?_⟩;have u7:0 + (IntKind.i64.wrap ((a:Int) - 1)).toNat * 1=a - 1:=by rw [V6];omega
   refine ⟨by rw [u7,Cu,hbl];omega,?_⟩;refine ⟨⟨rfl,by decide⟩,?_⟩
   have cx:(u8L bs).set (0 + (IntKind.i64.wrap ((a:Int) - 1)).toNat * 1) (DV.v (.int .u8 (IntKind.u8.wrap (48 + IntKind.u8.wrap ((u:Int).tmod 10)))))=u8L (bs.take (a - 1) ++ [UInt8.ofNat (48 + u % 10)] ++ bs.drop a):=by
    rw [u7,hb,List.set_eq_take_append_cons_drop,ah (by rw [Cu,hbl];omega),JX,JX,Pj,EM,show a - 1 + 1=a by omega];simp [u8L]
   refine ⟨EN (decide (z < 0)) (u / 10) (a - 1) (bs.take (a - 1) ++ [UInt8.ofNat (48 + u % 10)] ++ bs.drop a),(kD 1 (by repeat' (first | exact rfl | exact az rfl | exact sQ cx | exact aP V6 | exact aP hq | refine ⟨_,_,rfl,?_,?_⟩)) (by repeat' (first | exact trivial | exact az rfl | exact sQ cx | exact aP V6 | exact aP hq | refine ⟨⟨_,rfl,?_⟩,?_⟩))),a - 1,by omega,u / 10,a - 1,_,rfl,by simp;omega,by omega,by omega,?_,rfl⟩;have ab1:(bs.take (a - 1) ++ [UInt8.ofNat (48 + u % 10)] ++ bs.drop a).drop (a - 1)=UInt8.ofNat (48 + u % 10) :: bs.drop a:=by grind
   rw [ab1,hd];by_cases u9:u < 10
   ·grind [kS]
   ·grind [oT]
  ·have hc:a≠20/\u=0:=by
    simp [aD] at h;omega
   have hd:fQ z.natAbs=bs.drop a:=by grind
   have hdu:((u8L bs).drop (0 + (a:Int).toNat * 1)).take (((20:Nat):Int).toNat - (a:Int).toNat)=u8L (bs.drop a):=by grind [EM,Cu]
   have hl:(bs.drop a).length=((20:Nat):Int).toNat - (a:Int).toNat:=by simp [hbl]
   refine br ?_ ?_<;>intro hz
   ·have hz:z < 0:=sU hz;refine ⟨⟨by omega,by omega,by omega⟩,?_⟩;refine ⟨bs.drop a,hdu,hl,?_⟩;refine ⟨by show 1 + (bs.drop a).length<=_;rw [hl];omega,?_⟩;refine (congrArg (fun s=>DV.v (.string s)) ?_:_=_);rw [<- hd,LP,EL hz];exact X0 [45] _
   ·have hz:¬ z < 0:=sU hz;refine ⟨⟨by omega,by omega,by omega⟩,?_⟩;refine ⟨bs.drop a,hdu,hl,?_⟩;refine (congrArg (fun s=>DV.v (.string s)) ?_:_=_);rw [<- hd,LP,Ts (by omega),show z.toNat=z.natAbs by omega]
abbrev ba (l:List UInt8):ByteArray:=⟨l.toArray⟩
def tx (s:ByteArray):List UInt8:=s.data.toList
theorem cW {s:ByteArray} {l:List UInt8} (h:tx s=l):s=ba l:=by
 subst h;apply ByteArray.ext;simp [tx]
theorem ey (s t:ByteArray):tx (s ++ t)=tx s ++ tx t:=by simp [tx]
theorem nF (l:List UInt8):tx (ba l)=l:=by simp [tx]
theorem fY (a:Array UInt8):tx ⟨a⟩=a.toList:=rfl
theorem JZ (s:ByteArray):ba (tx s)=s:=(cW rfl).symm
theorem gy (z:Int):tx (LP z)=fI z:=by simp [tx,LP]
theorem bH (s:ByteArray):(tx s).length=s.size:=by simp [tx]
theorem aG (s t:ByteArray):(s ++ t).size=s.size + t.size:=by simp
theorem aS (l:List UInt8):(ba l).size=l.length:=rfl
def joinT (f s:List UInt8):List (List UInt8)->List UInt8
 | []=>[]
 | x :: r=>f ++ x ++ r.flatMap fun y=>s ++ y
def jl:List (List UInt8)->Nat
 | []=>0
 | x :: r=>x.length + 2 + jl r
theorem EO {s:List UInt8} (hs:s.length<=2):∀ r:List (List UInt8),(r.flatMap fun y=>s ++ y).length<=jl r
 | []=>bn _
 | x :: r=>by
  have:=EO hs r
  grind [jl]
theorem ez {f s:List UInt8} (hf:f.length<=2) (hs:s.length<=2):∀ l:List (List UInt8),(joinT f s l).length<=jl l
 | []=>bn _
 | x :: r=>by grind [EO,joinT,jl]
def mD (w:Wd):List UInt8:=tx w.s
def iF (l:List Wd):List UInt8:=joinT [32,64] [43] (l.map mD)
theorem qi:∀ l:List Wd,jl (l.map mD)<=wdsWt l
 | []=>bn _
 | w :: r=>by
  have:=qi r
  grind [jl,wdsWt,Wd.wt,mD,bH]
theorem qj (l:List Wd):(iF l).length<=wdsWt l:=Nat.le_trans (ez (by simp) (by simp) _) (qi l)
def fu (p:Ph):List UInt8:=
 if p.ck=1 then [32,126,102,108,111,111,114,40] ++ fI p.cn ++ [41]
 else if p.ck=2 then [32,126,102,105,114,115,116,40] ++ fI p.cn ++ [41]
 else if p.ck=3 then [32,126,99,111,117,110,116] else []
def kT (p:Ph):List UInt8:=if 0 < p.wide then [32,35] ++ fI p.wide else []
def eA (p:Ph):List UInt8:=iF p.label ++ kT p ++ fu p ++ iF p.cl
def ie (tag:Bool) (p:Ph) (u:List UInt8):List UInt8:=
 tx p.name.s ++ (if p.bare=true then [] else (if tag=true then [40] ++ u ++ [41] else [58,32] ++ u) ++ eA p)
def fv (h:Hd) (u:List UInt8) (l:List (List UInt8)):List UInt8:=
 if h.al=1 then [98,111,111,108]
 else if h.al=2 then [105,110,116,40] ++ fI h.lo ++ [46,46] ++ fI h.hi ++ [41]
 else if h.al=3 then [116,101,120,116,40] ++ fI h.most ++ [41]
 else if h.al=5 then [108,105,115,116,40] ++ u ++ [44,32] ++ fI h.most ++ [41]
 else if h.al=6 then [111,112,116,40] ++ u ++ [41]
 else if h.al=9 then [114,101,102,40] ++ tx h.name.s ++ [41]
 else if h.al=8 then [117,110,105,111,110,123] ++ joinT [] [44,32] l ++ [125]
 else if h.al=7 then [114,101,99,111,114,100,123] ++ joinT [] [44,32] l ++ [125]
 else [101,110,117,109,40] ++ joinT [] [44,32] (h.af.map mD) ++ [41]
mutual
def tyT:Ty->List UInt8
 | .mk h ps=>fv h (firstT ps) (jI (decide (h.al=8)) ps)
def firstT:Pts->List UInt8
 | .nil=>[]
 | .cons _ t _=>tyT t
def jI (tag:Bool):Pts->List (List UInt8)
 | .nil=>[]
 | .cons p t r=>ie tag p (tyT t) :: jI tag r
end
def kH (z:Int):Prop:=-9223372036854775808<=z/\z<=9223372036854775807
mutual
def lW:Ty->Prop
 | .mk h ps=>kH h.lo/\kH h.hi/\kH h.most/\(1<=h.al/\h.al<=9)/\(h.al=5∨h.al=6->ps.len=1)/\jy h.al ps
def jy (k:Int):Pts->Prop
 | .nil=>True
 | .cons p t r=>kH p.wide/\kH p.cn/\(p.bare=true->k=8)/\(p.bare=false->0<=p.wide/\lW t)/\jy k r
end
theorem EP {p:Ph} (h:kH p.cn):(fu p).length<=30:=by
 have:=lU h.1 h.2;unfold fu;split
 ·simp_all
 ·split
  ·simp_all
  ·split<;>simp
theorem LQ {p:Ph} (h:kH p.wide):(kT p).length<=23:=by
 have:=lU h.1 h.2
 grind [kT]
theorem qk {p:Ph} (h1:kH p.wide) (h2:kH p.cn):(eA p).length<=wdsWt p.label + wdsWt p.cl + 53:=by grind [qj,EP,LQ,eA]
theorem LR {p:Ph} {u:List UInt8} {tag:Bool} (h1:kH p.wide) (h2:kH p.cn):(ie tag p u).length<=p.wt + (if p.bare=true then 0 else u.length) - 100:=by grind [qk,ie,Ph.wt,Wd.wt,bH]
theorem LS {h:Hd} {u:List UInt8} {l:List (List UInt8)} (h1:kH h.lo) (h2:kH h.hi) (h3:kH h.most):(fv h u l).length + 100<=h.wt + (if h.al=5∨h.al=6 then u.length else 0) + (if h.al=7∨h.al=8 then jl l else 0):=by
 have e1:=lU h1.1 h1.2;have e2:=lU h2.1 h2.2;have e3:=lU h3.1 h3.2;have e4:=qi h.af;have e5:=ez (f:=[]) (s:=[44,32]) (by simp) (by simp) (h.af.map mD);have e6:=ez (f:=[]) (s:=[44,32]) (by simp) (by simp) l;unfold fv;simp only [Hd.wt,Wd.wt];split
 ·grind
 ·split
  ·grind
  ·split
   ·grind
   ·split
    ·grind
    ·split
     ·grind
     ·split
      ·grind [bH]
      ·split
       ·rename_i hk;rw [ah (c:=h.al=7∨h.al=8) (.inr hk)];simp only [List.length_append,List.length_cons,List.length_nil];omega
       ·split
        ·rename_i hk;rw [ah (c:=h.al=7∨h.al=8) (.inl hk)];simp only [List.length_append,List.length_cons,List.length_nil];omega
        ·simp only [List.length_append,List.length_cons,List.length_nil];omega
mutual
theorem jJ:∀ {t:Ty},lW t->(tyT t).length + 100<=t.wt
 | .mk h ps,hf=>by
  simp only [lW] at hf;obtain ⟨h1,h2,h3,h4,h5,h6⟩:=hf;have e1:=LS (u:=firstT ps) (l:=jI (decide (h.al=8)) ps) h1 h2 h3;have e2:=xe (tag:=decide (h.al=8)) h6;simp only [tyT,Ty.wt];by_cases hk:h.al=5∨h.al=6
  ·rw [ah hk,ag (by omega)] at e1
   have e3:(firstT ps).length<=ps.wt:=by
    match ps,h5 hk,h6 with
    | .cons p t r,_,h6=>
     simp only [jy] at h6;have hb:p.bare=false:=by grind
     have:=jJ (h6.2.2.2.1 hb).2;simp only [firstT,Pts.wt];omega
   omega
  all_goals grind
theorem xe {tag:Bool} {k:Int}:∀ {ps:Pts},jy k ps->jl (jI tag ps)<=ps.wt
 | .nil,_=>bn _
 | .cons p t r,hf=>by
  simp only [jy] at hf;obtain ⟨h1,h2,h3,h4,h5⟩:=hf;have e1:=xe (tag:=tag) h5;have e2:=LR (tag:=tag) (u:=tyT t) h1 h2;simp only [jI,jl,Pts.wt];have e4:p.wt ≥ 256:=by simp only [Ph.wt];omega
  cases hb:p.bare
  ·have e3:=jJ (h4 hb).2
   grind
  all_goals grind
end
theorem xf {tag:Bool}:∀ {ps:Pts} {e:Nat} {p:Ph} {t:Ty},ps.toList[e]? = some (p,t)->(jI tag ps)[e]? = some (ie tag p (tyT t))
 | .nil,e,p,t,h=>by simp [Pts.toList] at h
 | .cons q u r,0,p,t,h=>by grind [Pts.toList,jI]
 | .cons q u r,e + 1,p,t,h=>by
  simp only [Pts.toList,List.getElem?_cons_succ] at h;simp only [jI,List.getElem?_cons_succ];exact xf h
theorem og {tag:Bool}:∀ ps:Pts,(jI tag ps).length=ps.len
 | .nil=>rfl
 | .cons p t r=>by simp [jI,Pts.len,og r]
theorem Am {k:Int}:∀ {ps:Pts} {e:Nat} {p:Ph} {t:Ty},jy k ps->ps.toList[e]? = some (p,t)->kH p.wide/\kH p.cn/\(p.bare=true->k=8)/\(p.bare=false->0<=p.wide/\lW t)
 | .nil,e,p,t,_,h=>by simp [Pts.toList] at h
 | .cons q u r,0,p,t,hf,h=>by grind [Pts.toList,jy]
 | .cons q u r,e + 1,p,t,hf,h=>by
  simp only [Pts.toList,List.getElem?_cons_succ] at h;simp only [jy] at hf;exact Am hf.2.2.2.2 h
end Go.Proofs.YtfdedoiiahbnnaaGreat
set_option maxRecDepth 100000
namespace Go.Proofs
open Go.Shelf
def Tryz.lays156_ren:Go.Shelf.Ren:=⟨fun | 156=>118 | 165=>204 | 166=>54 | 169=>60 | 240=>117 | 241=>274 | 276=>203 | 277=>307 | n=>n,fun | 31=>79 | 9=>9 | 3=>3 | 4=>4 | 0=>0 | 20=>20 | 72=>113 | 76=>116 | 70=>110 | 37=>111 | 75=>115 | 127=>199 | 164=>287 | 5=>5 | 80=>125 | n=>n,fun | n=>n⟩
theorem Tryz.lays156:Go.Proofs.Lays.n156 prog Tryz.lays156_ren:={
 mixed:=by kernel_rfl
 f156:=func118.trans (congrArg some (by kernel_rfl))
 f165:=func204.trans (congrArg some (by kernel_rfl))
 f166:=func54.trans (congrArg some (by kernel_rfl))
 f169:=func60.trans (congrArg some (by kernel_rfl))
 f240:=func117.trans (congrArg some (by kernel_rfl))
 f241:=func274.trans (congrArg some (by kernel_rfl))
 f276:=func203.trans (congrArg some (by kernel_rfl))
 f277:=func307.trans (congrArg some (by kernel_rfl))
 t0:=Tryz.underlying0
 a0:=Tryz.isAgg0
 z0:=Tryz.sizeOf0
 v0:=Tryz.zeroValue0
 t3:=Tryz.underlying3
 a3:=Tryz.isAgg3
 z3:=Tryz.sizeOf3
 v3:=Tryz.zeroValue3
 t4:=Tryz.underlying4
 a4:=Tryz.isAgg4
 z4:=Tryz.sizeOf4
 v4:=Tryz.zeroValue4
 t9:=Tryz.underlying9
 a9:=Tryz.isAgg9
 z9:=Tryz.sizeOf9
 v9:=Tryz.zeroValue9
 t20:=Tryz.underlying20
 a20:=Tryz.isAgg20
 z20:=Tryz.sizeOf20
 v20:=Tryz.zeroValue20
 t31:=Tryz.underlying79
 a31:=Tryz.isAgg79
 z31:=Tryz.sizeOf79
 v31:=Tryz.zeroValue79
 t37:=Tryz.underlying111
 a37:=Tryz.isAgg111
 z37:=Tryz.sizeOf111
 v37:=Tryz.zeroValue111
 t70:=Tryz.underlying110
 a70:=Tryz.isAgg110
 z70:=Tryz.sizeOf110
 v70:=Tryz.zeroValue110
 t72:=Tryz.underlying113
 a72:=Tryz.isAgg113
 z72:=Tryz.sizeOf113
 v72:=Tryz.zeroValue113
 t75:=Tryz.underlying115
 a75:=Tryz.isAgg115
 z75:=Tryz.sizeOf115
 v75:=Tryz.zeroValue115
 t76:=Tryz.underlying116
 a76:=Tryz.isAgg116
 z76:=Tryz.sizeOf116
 v76:=Tryz.zeroValue116
 t127:=Tryz.underlying199
 a127:=Tryz.isAgg199
 z127:=Tryz.sizeOf199
 v127:=Tryz.zeroValue199
 t164:=Tryz.underlying287
 a164:=Tryz.isAgg287
 z164:=Tryz.sizeOf287
 v164:=Tryz.zeroValue287 }
theorem Tryz.Builder_Extra_156:Builder.Extra prog Tryz.lays156_ren:={
 sizeBuilder:=by kernel_rfl
 liesBuilder:=by kernel_rfl
 t5:=Tryz.underlying5
 a5:=Tryz.isAgg5
 z5:=Tryz.sizeOf5
 v5:=Tryz.zeroValue5
 infoByte:=by kernel_rfl
 cellsByte:=by kernel_rfl
 sizeByte:=by kernel_rfl
 neB5:=by decide }
end Go.Proofs
namespace Go.Proofs.YtfdedoiiahbnnaaGreat
open Go Go.RowKit Dv Go.Proofs.Tryz
theorem An {P:Program} {f:FuncId} {args:List DV} {d:DV}
  (h:∀ (E:En) (w:World) (vs:List Value),Env E [] w->RvL E args vs->Calls P f vs.toArray w fun e w'=>∃ v,e = .returned v/\Rv E d v/\Below w.heap.size w w'):bA P f args d:=by
 intro E w vs hE gj hv;refine (h E w vs hE hv).mono ?_;rintro e w' ⟨v,rfl,hr,hb⟩;exact ⟨v,rfl,⟨hb.os,hb.tape,hb.output,hb.size,fun k hk _=>hb.block k hk⟩,fun hf=>(by cases hf),d,[],E,hE.gW hb.block,rfl,rfl,Nw.refl hE,hr,rfl⟩
def jz (l:List (List UInt8)):List (List DV):=l.map fun x=>[.v (.string (ba x))]
theorem c7 (l:List (List UInt8)):(jz l).length=l.length:=by simp [jz]
theorem EQ {E:En}:∀ {ls:List (List UInt8)} {arr:List Value},RvL E (jz ls).flatten arr->arr=ls.map fun x=>Value.string (ba x)
 | [],arr,h=>by simpa [jz,RvL] using h
 | x :: r,arr,h=>by
  simp only [jz,List.map_cons,List.flatten_cons,List.cons_append,List.nil_append,RvL] at h;obtain ⟨v,s,rfl,h1,h2⟩:=h;unfold Rv at h1;rw [h1.1,EQ (ls:=r) h2];rfl
theorem LU (s:List UInt8):∀ l:List (List UInt8),joinT [] s l=Lib.join l s
 | []=>rfl
 | x :: r=>by
  rw [Lib.join_cons];simp [joinT,Lib.joinTail,List.flatMap]
theorem oU (ls:List (List UInt8)) (sep:ByteArray) (hN:ls.length<=140737488355328) (hlen:(joinT [] (tx sep) ls).length<=140737488355328) :
  bA prog 118 [.sl 1 (jz ls) none,.v (.string sep)] (.v (.string (ba (joinT [] (tx sep) ls)))):=by
 refine An fun E w vs hE hv=>?_;simp only [RvL] at hv;obtain ⟨v1,s1,rfl,h1,v2,s2,rfl,h2,rfl⟩:=hv;have h2:=bL h2;subst h2;unfold Rv at h1;obtain ⟨b,n,cap,rfl,⟨rfl,B9⟩,hr,_⟩:=h1;rw [c7] at B9;rw [LU] at hlen ⊢
 have hd:(ls.map ba).map (·.data.toList)=ls:=by
  rw [List.map_map]
  conv=>rhs;rw [<- List.map_id ls]
  rfl
 by_cases bo:ls=[]
 ·subst bo;refine (Any.strings_Join_none Tryz.lays156 Tryz.Builder_Extra_156 b cap sep w).mono ?_;rintro e w' ⟨rfl,rfl⟩;exact ⟨_,rfl,fm rfl,Below.refl _ _⟩
 ·have Xf:jz ls ≠ []:=by grind [c7]
  obtain ⟨jh,px⟩:=hr Xf;obtain ⟨arr,ha1,Sy,SX⟩:=px.uY;have Hy:=EQ ha1.1;have hb:=nT jh
  have kO:∀ (j:Nat) x,(ls.map ba)[j]? = some x->w.cell? ⟨ab b,ao b + j,none⟩=some (.string x):=by
   intro j x hx;refine hE.sub _ _ (SX j _ ?_);rw [Hy];rw [List.getElem?_map] at hx ⊢
   cases hl:ls[j]? with
   | none=>rw [hl] at hx;cases hx
   | some y=>rw [hl] at hx;simp only [Option.map_some,oI] at hx ⊢;rw [hx]
  have uv:ab b < w.heap.size:=by
   cases hl:ls with
   | nil=>exact (bo hl).elim
   | cons y r=>exact World.block_lt_of_cell? w _ (kO 0 (ba y) (by rw [hl];rfl))
  rw [hb,c7];have hJ:=Any.strings_Join Tryz.lays156 Tryz.Builder_Extra_156 (ab b) (ao b) cap (ls.map ba) sep w kO uv (sU hN) (sU B9) (by rw [hd];exact hlen);rw [hd,List.length_map] at hJ;refine hJ.mono ?_;rintro e w' ⟨rfl,G2⟩;exact ⟨_,rfl,fm rfl,G2⟩
end Go.Proofs.YtfdedoiiahbnnaaGreat
set_option maxRecDepth 100000
namespace Go.Proofs.YtfdedoiiahbnnaaGreat
open Go Go.RowKit Dv Go.Proofs.Tryz
theorem HF {L:List (List UInt8)} {e:Nat} {s:ByteArray} (h:L[e]? = some (tx s)):jz (L.take e) ++ [[DV.v (.string s)]]=jz (L.take (e + 1)):=by
 rw [List.take_add_one,h];simp [jz,JZ]
theorem oh {L:List (List UInt8)} {e:Nat} {x:List UInt8} (h:L[e]? = some x):jz (L.take e) ++ [[DV.v (.string (ba x))]]=jz (L.take (e + 1)):=by
 rw [List.take_add_one,h];simp [jz]
theorem ER (l:List Wd) (h:l ≠ []):iF l=[32,64] ++ joinT [] [43] (l.map mD):=by
 cases l with
 | nil=>exact (h rfl).elim
 | cons x r=>simp [iF,joinT]
abbrev Pm (l:List Wd) (n e:Nat):St:=
 ⟨[dH 6 2 (cd l),aJ 7 ((cd l).length),aJ 8 e,(3,⟨[],.sl 1 (jz ((l.map mD).take e)) (some 0)⟩)],[],[⟨n,9,1,none⟩]⟩
theorem dw (l:List Wd) (hs:wdsWt l<=1099511627776):bA prog 275 [.sl 2 (cd l) none] (.v (.string (ba (iF l)))):=by
 have hl:=cE l;have hj:=ez (f:=[]) (s:=[43]) (by simp) (by simp) (l.map mD);have hj2:=qi l;refine eG 24 [.tmp 2] func275 rfl ntmps275 rfl fun _ _ _ _=>?_;refine lJ (fun e=>Pm l e e) l.length (gk ⟨0,9,1,none⟩ rfl ⟨_,rfl⟩ rfl wA rfl rfl vb) ?_;intro e he;refine br ?_ ?_<;>intro h
 ·have aE:e < l.length:=by simpa [aM] using h
  obtain ⟨w,hw⟩:=gX aE;have lL:(l.map mD)[e]? = some (tx w.s):=by simp [hw,mD]
  refine ⟨nD w,⟨by omega,dy hw⟩,?_⟩;refine ⟨by simp [c7];omega,⟨by simp [c7,maxLen];omega,by simp [c7];omega⟩,?_⟩;refine ⟨Pm l (e + 1) (e + 1),(dg (re (cR aE (by omega)) (HF lL))),l.length - (e + 1),by omega,e + 1,rfl,by omega,rfl⟩
 ·have hge:e=l.length:=by
   have:=h;simp [aM] at this;omega
  have gj:(l.map mD).take e=l.map mD:=List.take_of_length_le (by simp;omega);refine br ?_ ?_<;>intro h0
  ·have h0:l=[]:=by
    have:=h0;rw [gj] at this;simp [c7] at this;exact this
   refine (congrArg (fun s=>DV.v (.string s)) (cW ?_):_=_);subst h0;simp [iF,joinT,fY]
  ·have h0:l ≠ []:=by
    rintro rfl;simp [jz] at h0
   rw [gj];refine cP JJ (oU (l.map mD) (ba [43]) (by simp;omega) (by rw [nF];omega)) ?_;refine ⟨by rw [nF];(simp only [aG,aS,List.length_cons,List.length_nil];omega),?_⟩;refine (congrArg (fun s=>DV.v (.string s)) (cW ?_):_=_);rw [ER l h0];simp [ey,fY]
theorem LV (w:Wd):bA prog 56 [.agg (nD w)] (.v (.string (ba (mD w)))):=by
 refine eG 5 [.tmp 2] func56 rfl ntmps56 rfl fun _ _ _ _=>?_;refine (congrArg (fun s=>DV.v (.string s)) ?_:_=_);exact (JZ w.s).symm
theorem xg (p:Ph) (t:Ty) (hp:p.wt<=1099511627776) (hw:kH p.wide) (hc:kH p.cn) (h0:0<=p.wide) :
  bA prog 205 [.agg (lR p (dC t))] (.v (.string (ba (eA p)))):=by
 obtain ⟨⟨ns,na⟩,bare,label,wide,ck,cn,ca,cl⟩:=p;simp only [Ph.wt,Wd.wt] at hp;simp only at hw hc h0;have l1:=qj label;have l2:=qj cl;have l3:=lV hw.1 hw.2;have l4:=lV hc.1 hc.2;obtain ⟨th,ZW⟩:=t;have hck:ck=1∨ck=2∨ck=3∨(ck≠1/\ck≠2/\ck≠3):=by omega
 rcases hck with rfl | rfl | rfl | ⟨k1,k2,k3⟩
 ·refine eG 48 [.tmp 2] func205 rfl ntmps205 rfl fun _ _ _ _=>?_;refine cP nC (dw label (by omega)) ?_;refine br ?_ ?_<;>intro ql
  ·have ql:0 < wide:=by
    have:=ql;simp at this;omega
   refine cP jx (dz wide hw.1 hw.2) ?_;refine ⟨by (simp only [aG,aS,List.length_cons,List.length_nil];omega),?_⟩;refine ⟨by (simp only [aG,aS,List.length_cons,List.length_nil];omega),?_⟩;refine cP jx (dz cn hc.1 hc.2) ?_;refine ⟨by (simp only [aG,aS,List.length_cons,List.length_nil];omega),?_⟩;refine ⟨by (simp only [aG,aS,List.length_cons,List.length_nil];omega),?_⟩;refine ⟨by (simp only [aG,aS,List.length_cons,List.length_nil];omega),?_⟩;refine ⟨by (simp only [aG,aS,List.length_cons,List.length_nil];omega),?_⟩;refine cP nC (dw cl (by omega)) ?_;refine ⟨by (simp only [aG,aS,List.length_cons,List.length_nil];omega),?_⟩;refine (congrArg (fun s=>DV.v (.string s)) (cW ?_):_=_);simp [eA,kT,fu,ey,fY,gy,ql]
  ·have ql:¬ 0 < wide:=by
    have:=ql;simp at this;omega
   refine cP jx (dz cn hc.1 hc.2) ?_;refine ⟨by (simp only [aG,aS,List.length_cons,List.length_nil];omega),?_⟩;refine ⟨by (simp only [aG,aS,List.length_cons,List.length_nil];omega),?_⟩;refine ⟨by (simp only [aG,aS,List.length_cons,List.length_nil];omega),?_⟩;refine ⟨by (simp only [aG,aS,List.length_cons,List.length_nil];omega),?_⟩;refine cP nC (dw cl (by omega)) ?_;refine ⟨by (simp only [aG,aS,List.length_cons,List.length_nil];omega),?_⟩;refine (congrArg (fun s=>DV.v (.string s)) (cW ?_):_=_);simp [eA,kT,fu,ey,fY,gy,ql]
 ·refine eG 48 [.tmp 2] func205 rfl ntmps205 rfl fun _ _ _ _=>?_;refine cP nC (dw label (by omega)) ?_;refine br ?_ ?_<;>intro ql
  ·have ql:0 < wide:=by
    have:=ql;simp at this;omega
   refine cP jx (dz wide hw.1 hw.2) ?_;refine ⟨by (simp only [aG,aS,List.length_cons,List.length_nil];omega),?_⟩;refine ⟨by (simp only [aG,aS,List.length_cons,List.length_nil];omega),?_⟩;refine cP jx (dz cn hc.1 hc.2) ?_;refine ⟨by (simp only [aG,aS,List.length_cons,List.length_nil];omega),?_⟩;refine ⟨by (simp only [aG,aS,List.length_cons,List.length_nil];omega),?_⟩;refine ⟨by (simp only [aG,aS,List.length_cons,List.length_nil];omega),?_⟩;refine ⟨by (simp only [aG,aS,List.length_cons,List.length_nil];omega),?_⟩;refine cP nC (dw cl (by omega)) ?_;refine ⟨by (simp only [aG,aS,List.length_cons,List.length_nil];omega),?_⟩;refine (congrArg (fun s=>DV.v (.string s)) (cW ?_):_=_);simp [eA,kT,fu,ey,fY,gy,ql]
  ·have ql:¬ 0 < wide:=by
    have:=ql;simp at this;omega
   refine cP jx (dz cn hc.1 hc.2) ?_;refine ⟨by (simp only [aG,aS,List.length_cons,List.length_nil];omega),?_⟩;refine ⟨by (simp only [aG,aS,List.length_cons,List.length_nil];omega),?_⟩;refine ⟨by (simp only [aG,aS,List.length_cons,List.length_nil];omega),?_⟩;refine ⟨by (simp only [aG,aS,List.length_cons,List.length_nil];omega),?_⟩;refine cP nC (dw cl (by omega)) ?_;refine ⟨by (simp only [aG,aS,List.length_cons,List.length_nil];omega),?_⟩;refine (congrArg (fun s=>DV.v (.string s)) (cW ?_):_=_);simp [eA,kT,fu,ey,fY,gy,ql]
 ·refine eG 48 [.tmp 2] func205 rfl ntmps205 rfl fun _ _ _ _=>?_;refine cP nC (dw label (by omega)) ?_;refine br ?_ ?_<;>intro ql
  ·have ql:0 < wide:=by
    have:=ql;simp at this;omega
   refine cP jx (dz wide hw.1 hw.2) ?_;refine ⟨by (simp only [aG,aS,List.length_cons,List.length_nil];omega),?_⟩;refine ⟨by (simp only [aG,aS,List.length_cons,List.length_nil];omega),?_⟩;refine cP jx (dz cn hc.1 hc.2) ?_;refine ⟨by (simp only [aG,aS,List.length_cons,List.length_nil];omega),?_⟩;refine ⟨by (simp only [aG,aS,List.length_cons,List.length_nil];omega),?_⟩;refine ⟨by (simp only [aG,aS,List.length_cons,List.length_nil];omega),?_⟩;refine cP nC (dw cl (by omega)) ?_;refine ⟨by (simp only [aG,aS,List.length_cons,List.length_nil];omega),?_⟩;refine (congrArg (fun s=>DV.v (.string s)) (cW ?_):_=_);simp [eA,kT,fu,ey,fY,gy,ql]
  ·have ql:¬ 0 < wide:=by
    have:=ql;simp at this;omega
   refine cP jx (dz cn hc.1 hc.2) ?_;refine ⟨by (simp only [aG,aS,List.length_cons,List.length_nil];omega),?_⟩;refine ⟨by (simp only [aG,aS,List.length_cons,List.length_nil];omega),?_⟩;refine ⟨by (simp only [aG,aS,List.length_cons,List.length_nil];omega),?_⟩;refine cP nC (dw cl (by omega)) ?_;refine ⟨by (simp only [aG,aS,List.length_cons,List.length_nil];omega),?_⟩;refine (congrArg (fun s=>DV.v (.string s)) (cW ?_):_=_);simp [eA,kT,fu,ey,fY,gy,ql]
 ·refine eG 48 [.tmp 2] func205 rfl ntmps205 rfl fun _ _ _ _=>?_;refine cP nC (dw label (by omega)) ?_;refine br ?_ ?_<;>intro ql
  ·have ql:0 < wide:=by
    have:=ql;simp at this;omega
   refine cP jx (dz wide hw.1 hw.2) ?_;refine ⟨by (simp only [aG,aS,List.length_cons,List.length_nil];omega),?_⟩;refine ⟨by (simp only [aG,aS,List.length_cons,List.length_nil];omega),?_⟩;refine cP jx (dz cn hc.1 hc.2) ?_;refine ⟨by (simp only [aG,aS,List.length_cons,List.length_nil];omega),?_⟩;refine ⟨by (simp only [aG,aS,List.length_cons,List.length_nil];omega),?_⟩;refine br (fun h=>absurd (of_decide_eq_true h) k1) (fun _=>?_);refine br (fun h=>absurd (of_decide_eq_true h) k2) (fun _=>?_);refine br (fun h=>absurd (of_decide_eq_true h) k3) (fun _=>?_);refine cP nC (dw cl (by omega)) ?_;refine ⟨by (simp only [aG,aS,List.length_cons,List.length_nil];omega),?_⟩;refine (congrArg (fun s=>DV.v (.string s)) (cW ?_):_=_);simp [eA,kT,fu,ey,fY,gy,ql,k1,k2,k3]
  ·have ql:¬ 0 < wide:=by
    have:=ql;simp at this;omega
   refine cP jx (dz cn hc.1 hc.2) ?_;refine ⟨by (simp only [aG,aS,List.length_cons,List.length_nil];omega),?_⟩;refine ⟨by (simp only [aG,aS,List.length_cons,List.length_nil];omega),?_⟩;refine br (fun h=>absurd (of_decide_eq_true h) k1) (fun _=>?_);refine br (fun h=>absurd (of_decide_eq_true h) k2) (fun _=>?_);refine br (fun h=>absurd (of_decide_eq_true h) k3) (fun _=>?_);refine cP nC (dw cl (by omega)) ?_;refine ⟨by (simp only [aG,aS,List.length_cons,List.length_nil];omega),?_⟩;refine (congrArg (fun s=>DV.v (.string s)) (cW ?_):_=_);simp [eA,kT,fu,ey,fY,gy,ql,k1,k2,k3]
abbrev sR (d:Nat) (es:List (List DV)) (g:Nat) (L:List (List UInt8)) (n e:Nat):St:=
 ⟨[dH 8 d es,aJ 9 es.length,aJ 10 e,(1,⟨[],.fn g [] []⟩),(5,⟨[],.sl 1 (jz (L.take e)) (some 0)⟩)],[],[⟨n,9,1,none⟩]⟩
theorem xi (l:List Wd) (hs:wdsWt l<=1099511627776):bA prog 55 [.sl 2 (cd l) none,.fn 56 [] []] (.v (.string (ba (joinT [] [44,32] (l.map mD))))):=by
 have hl:=cE l;have hj:=ez (f:=[]) (s:=[44,32]) (by simp) (by simp) (l.map mD);have hj2:=qi l;refine eG 23 [.tmp 4] func55 rfl ntmps55 rfl fun _ _ _ _=>?_;refine lJ (fun e=>sR 2 (cd l) 56 (l.map mD) e e) l.length (gk ⟨0,9,1,none⟩ rfl ⟨_,rfl⟩ rfl wA rfl rfl vb) ?_;intro e he;refine br ?_ ?_<;>intro h
 ·have aE:e < l.length:=by simpa [aM] using h
  obtain ⟨w,hw⟩:=gX aE;have lL:(l.map mD)[e]? = some (mD w):=by simp [hw]
  refine ⟨nD w,⟨by omega,dy hw⟩,?_⟩;refine cP en56 (LV w) ?_;refine ⟨by simp [c7];omega,⟨by simp [c7,maxLen];omega,by simp [c7];omega⟩,?_⟩;refine ⟨sR 2 (cd l) 56 (l.map mD) (e + 1) (e + 1),(dg (re (cR aE (by omega)) (oh lL))),l.length - (e + 1),by omega,e + 1,rfl,by omega,rfl⟩
 ·have hge:e=l.length:=by
   have:=h;simp [aM] at this;omega
  have gj:(l.map mD).take e=l.map mD:=List.take_of_length_le (by simp;omega);rw [gj];refine cP JJ (oU (l.map mD) (ba [44,32]) (by simp;omega) (by rw [nF];omega)) ?_;rw [nF];exact (rfl:_=_)
theorem xj (g:Nat) (gh:Enters prog g) (ps:Pts) (L:List (List UInt8)) (hs:ps.wt<=1099511627776) (hL:L.length=ps.len) (vZ:jl L<=1099511627776)
  (hF:∀ (e:Nat) p t,ps.toList[e]? = some (p,t)->∃ x,L[e]? = some x/\bA prog g [.agg (lR p (dC t))] (.v (.string (ba x)))) :
  bA prog 120 [.sl 18 (eX ps) none,.fn g [] []] (.v (.string (ba (joinT [] [44,32] L)))):=by
 have hl:=ps.ki;have hj:=ez (f:=[]) (s:=[44,32]) (by simp) (by simp) L;refine eG 23 [.tmp 4] func120 rfl ntmps120 rfl fun _ _ _ _=>?_;refine lJ (fun e=>sR 18 (eX ps) g L e e) ps.len (gk ⟨0,9,1,none⟩ rfl ⟨_,rfl⟩ rfl wA rfl rfl vb) ?_;intro e he;refine br ?_ ?_<;>intro h
 ·have aE:e < ps.len:=by simpa [bG] using h
  obtain ⟨p,⟨u,us⟩,hx⟩:=Pts.jm aE;obtain ⟨x,Aa,SA⟩:=hF e p _ hx;refine ⟨lR p (dC (.mk u us)),⟨by omega,er hx⟩,?_⟩;refine cP gh SA ?_;refine ⟨by simp [c7];omega,⟨by simp [c7,maxLen];omega,by simp [c7];omega⟩,?_⟩;refine ⟨sR 18 (eX ps) g L (e + 1) (e + 1),(dg (re (cR aE (by omega)) (oh Aa))),ps.len - (e + 1),by omega,e + 1,rfl,by omega,rfl⟩
 ·have hge:e=ps.len:=by
   have:=h;simp [bG] at this;omega
  have gj:L.take e=L:=List.take_of_length_le (by omega);rw [gj];refine cP JJ (oU L (ba [44,32]) (by omega) (by rw [nF];omega)) ?_;rw [nF];exact (rfl:_=_)
theorem HG (p:Ph) (t:Ty) (hb:p.bare=false) (hp:p.wt<=1099511627776) (hw:kH p.wide) (hc:kH p.cn) (h0:0<=p.wide) (hl:(tyT t).length<=1099511627776)
  (ht:bA prog 59 [.agg (dC t)] (.v (.string (ba (tyT t))))) :
  bA prog 121 [.agg (lR p (dC t))] (.v (.string (ba (ie false p (tyT t))))):=by
 have hm:=xg p t hp hw hc h0;have l1:=qk hw hc;obtain ⟨⟨ns,na⟩,bare,label,wide,ck,cn,ca,cl⟩:=p;simp only [Ph.wt,Wd.wt] at hp l1;simp only at hb;subst hb;obtain ⟨th,ZW⟩:=t;refine eG 14 [.tmp 2] func121 rfl ntmps121 rfl fun _ _ _ _=>?_;refine dI ?_;refine ⟨by (simp only [aG,aS,List.length_cons,List.length_nil];omega),?_⟩;refine cD Ly ht ?_;refine ⟨by (simp only [aG,aS,List.length_cons,List.length_nil];omega),?_⟩;refine cD VF hm ?_;refine ⟨by (simp only [aG,aS,List.length_cons,List.length_nil];omega),?_⟩;refine (congrArg (fun s=>DV.v (.string s)) (cW ?_):_=_);simp [ie,ey,fY]
theorem Pn (p:Ph) (t:Ty) (hp:p.wt<=1099511627776) (hw:kH p.wide) (hc:kH p.cn) (h0:p.bare=false->0<=p.wide) (hl:p.bare=false->(tyT t).length<=1099511627776)
  (ht:p.bare=false->bA prog 59 [.agg (dC t)] (.v (.string (ba (tyT t))))) :
  bA prog 122 [.agg (lR p (dC t))] (.v (.string (ba (ie true p (tyT t))))):=by
 have hm:=fun hb=>xg p t hp hw hc (h0 hb);have l1:=qk hw hc;obtain ⟨⟨ns,na⟩,bare,label,wide,ck,cn,ca,cl⟩:=p;simp only [Ph.wt,Wd.wt] at hp l1;simp only at h0 hl ht hm;obtain ⟨th,ZW⟩:=t;cases bare
 ·have hl:=hl rfl;have ht:=ht rfl;have hm:=hm rfl;refine eG 20 [.tmp 2] func122 rfl ntmps122 rfl fun _ _ _ _=>?_;refine dI ?_;refine ⟨by (simp only [aG,aS,List.length_cons,List.length_nil];omega),?_⟩;refine cD Ly ht ?_;refine ⟨by (simp only [aG,aS,List.length_cons,List.length_nil];omega),?_⟩;refine ⟨by (simp only [aG,aS,List.length_cons,List.length_nil];omega),?_⟩;refine cD VF hm ?_;refine ⟨by (simp only [aG,aS,List.length_cons,List.length_nil];omega),?_⟩;refine (congrArg (fun s=>DV.v (.string s)) (cW ?_):_=_);simp [ie,ey,fY]
 ·refine eG 20 [.tmp 2] func122 rfl ntmps122 rfl fun _ _ _ _=>?_;refine (congrArg (fun s=>DV.v (.string s)) (cW ?_):_=_);simp [ie]
theorem ES:∀ (k:Nat) (t:Ty),t.wt<=k->t.wt<=1099511627776->lW t ->
  bA prog 59 [.agg (dC t)] (.v (.string (ba (tyT t))))
 | 0,t,hn,_,_=>by have:=t.mR;omega
 | k + 1,.mk h ps,hn,cV,hf=>by
  have ih:=ES k;have hlen:=jJ hf;simp only [Ty.wt,Hd.wt,Wd.wt] at hn cV hlen;simp only [lW] at hf;obtain ⟨f1,f2,f3,f4,f5,f6⟩:=hf;have l1:=lV f1.1 f1.2;have l2:=lV f2.1 f2.2;have l3:=lV f3.1 f3.2;have lp:=Pts.ki ps;have lw:=cE h.af;have j3:=qi h.af;have j1:=ez (f:=[]) (s:=[44,32]) (by simp) (by simp) (h.af.map mD);have jp:=fun tag=>xe (tag:=tag) f6;have jq:=fun tag=>ez (f:=[]) (s:=[44,32]) (by simp) (by simp) (jI tag ps);obtain ⟨al,dA,lo,hi,most,af,name⟩:=h;simp only at hn cV hlen f1 f2 f3 f4 f5 f6 l1 l2 l3 lw j3 j1;refine eG 77 [.tmp 2] func59 rfl ntmps59 rfl fun _ _ _ _=>?_;refine br ?_ ?_<;>intro k1
  ·have k1:al=1:=of_decide_eq_true k1;subst k1;refine (congrArg (fun s=>DV.v (.string s)) (cW ?_):_=_);simp [tyT,fv,fY]
  have k1:¬ al=1:=of_decide_eq_false k1;refine br ?_ ?_<;>intro k2
  ·have k2:al=2:=of_decide_eq_true k2;subst k2;refine dI ?_;refine cD jx (dz lo f1.1 f1.2) ?_;refine ⟨by (simp only [aG,aS,List.length_cons,List.length_nil];omega),?_⟩;refine ⟨by (simp only [aG,aS,List.length_cons,List.length_nil];omega),?_⟩;refine cD jx (dz hi f2.1 f2.2) ?_;refine ⟨by (simp only [aG,aS,List.length_cons,List.length_nil];omega),?_⟩;refine ⟨by (simp only [aG,aS,List.length_cons,List.length_nil];omega),?_⟩;refine (congrArg (fun s=>DV.v (.string s)) (cW ?_):_=_);simp [tyT,fv,ey,fY,gy]
  have k2:¬ al=2:=of_decide_eq_false k2;refine br ?_ ?_<;>intro k3
  ·have k3:al=3:=of_decide_eq_true k3;subst k3;refine cP jx (dz most f3.1 f3.2) ?_;refine ⟨by (simp only [aG,aS,List.length_cons,List.length_nil];omega),?_⟩;refine ⟨by (simp only [aG,aS,List.length_cons,List.length_nil];omega),?_⟩;refine (congrArg (fun s=>DV.v (.string s)) (cW ?_):_=_);simp [tyT,fv,ey,fY,gy]
  have k3:¬ al=3:=of_decide_eq_false k3;refine br ?_ ?_<;>intro k4
  ·have k4:al=4:=of_decide_eq_true k4;subst k4;refine cP aaR (xi af (by omega)) ?_;refine ⟨by (simp only [aG,aS,List.length_cons,List.length_nil];omega),?_⟩;refine ⟨by (simp only [aG,aS,List.length_cons,List.length_nil];omega),?_⟩;refine (congrArg (fun s=>DV.v (.string s)) (cW ?_):_=_);simp [tyT,fv,ey,fY]
  have k4:¬ al=4:=of_decide_eq_false k4
  have jo:al=5∨al=6->∃ p u us,ps = .cons p (.mk u us) .nil/\lW (.mk u us):=by
   intro hk
   match ps,f5 hk,f6 with
   | .cons p (.mk u us) .nil,_,f6=>
    simp only [jy] at f6
    have hb:p.bare=false:=by
     cases hb:p.bare
     ·rfl
     ·have:=f6.2.2.1 hb;omega
    exact ⟨p,u,us,rfl,(f6.2.2.2.1 hb).2⟩
   | .cons p t (.cons q u r),h,_=>simp [Pts.len] at h
  refine br ?_ ?_<;>intro k5
  ·have k5:al=5:=of_decide_eq_true k5;subst k5;obtain ⟨p,u,us,rfl,hfu⟩:=jo (.inl rfl);have hlu:=jJ hfu;simp only [Pts.wt] at hn cV;refine dI ?_;refine ⟨lR p (dC (.mk u us)),⟨by omega,rfl⟩,?_⟩;refine cD Ly (ih (.mk u us) (by omega) (by omega) hfu) ?_;refine ⟨by (simp only [aG,aS,List.length_cons,List.length_nil];omega),?_⟩;refine ⟨by (simp only [aG,aS,List.length_cons,List.length_nil];omega),?_⟩;refine cD jx (dz most f3.1 f3.2) ?_;refine ⟨by (simp only [aG,aS,List.length_cons,List.length_nil];omega),?_⟩;refine ⟨by (simp only [aG,aS,List.length_cons,List.length_nil];omega),?_⟩;refine (congrArg (fun s=>DV.v (.string s)) (cW ?_):_=_);simp [tyT.eq_1 ⟨5,dA,lo,hi,most,af,name⟩,fv,firstT,ey,fY,gy]
  have k5:¬ al=5:=of_decide_eq_false k5;refine br ?_ ?_<;>intro k6
  ·have k6:al=6:=of_decide_eq_true k6;subst k6;obtain ⟨p,u,us,rfl,hfu⟩:=jo (.inr rfl);have hlu:=jJ hfu;simp only [Pts.wt] at hn cV;refine ⟨lR p (dC (.mk u us)),⟨by omega,rfl⟩,?_⟩;refine cP Ly (ih (.mk u us) (by omega) (by omega) hfu) ?_;refine ⟨by (simp only [aG,aS,List.length_cons,List.length_nil];omega),?_⟩;refine ⟨by (simp only [aG,aS,List.length_cons,List.length_nil];omega),?_⟩;refine (congrArg (fun s=>DV.v (.string s)) (cW ?_):_=_);simp [tyT.eq_1 ⟨6,dA,lo,hi,most,af,name⟩,fv,firstT,ey,fY,gy]
  have k6:¬ al=6:=of_decide_eq_false k6
  have W4:∀ (e:Nat) p t,ps.toList[e]? = some (p,t)->p.wt<=1099511627776/\kH p.wide/\kH p.cn/\(p.bare=true->al=8)/\(p.bare=false->0<=p.wide)/\(p.bare=false->(tyT t).length<=1099511627776) /\
    (p.bare=false->bA prog 59 [.agg (dC t)] (.v (.string (ba (tyT t))))):=by
   intro e p t hx;have hpw:=Pts.kj (mG hx);obtain ⟨g1,g2,g3,g4⟩:=Am f6 hx;exact ⟨by omega,g1,g2,g3,fun hb=>(g4 hb).1,fun hb=>by have:=jJ (g4 hb).2;omega,fun hb=>ih t (by omega) (by omega) (g4 hb).2⟩
  refine br ?_ ?_<;>intro k7
  ·have k7:al=7:=of_decide_eq_true k7;subst k7;have jp:=jp false;have jq:=jq false;refine cP Vw (xj 121 aaZ ps (jI false ps) (by omega) (og ps) (by omega) (fun e p t hx=>⟨_,xf hx,by obtain ⟨g1,g2,g3,g4,g5,g6,g7⟩:=W4 e p t hx;have hb:p.bare=false:=Bool.eq_false_iff.2 (fun hb=>absurd (g4 hb) (by decide));exact HG p t hb g1 g2 g3 (g5 hb) (g6 hb) (g7 hb)⟩)) ?_;refine ⟨by (simp only [aG,aS,List.length_cons,List.length_nil];omega),?_⟩;refine ⟨by (simp only [aG,aS,List.length_cons,List.length_nil];omega),?_⟩;refine (congrArg (fun s=>DV.v (.string s)) (cW ?_):_=_);simp [tyT,fv,ey,fY]
  have k7:¬ al=7:=of_decide_eq_false k7;refine br ?_ ?_<;>intro k8
  ·have k8:al=8:=of_decide_eq_true k8;subst k8;have jp:=jp true;have jq:=jq true;refine cP Vw (xj 122 aa0 ps (jI true ps) (by omega) (og ps) (by omega) (fun e p t hx=>⟨_,xf hx,by obtain ⟨g1,g2,g3,g4,g5,g6,g7⟩:=W4 e p t hx;exact Pn p t g1 g2 g3 g5 g6 g7⟩)) ?_;refine ⟨by (simp only [aG,aS,List.length_cons,List.length_nil];omega),?_⟩;refine ⟨by (simp only [aG,aS,List.length_cons,List.length_nil];omega),?_⟩;refine (congrArg (fun s=>DV.v (.string s)) (cW ?_):_=_);simp [tyT,fv,ey,fY]
  have k8:¬ al=8:=of_decide_eq_false k8;have k9:al=9:=by omega
  subst k9;refine ⟨by (simp only [aG,aS,List.length_cons,List.length_nil];omega),?_⟩;refine ⟨by (simp only [aG,aS,List.length_cons,List.length_nil];omega),?_⟩;refine (congrArg (fun s=>DV.v (.string s)) (cW ?_):_=_);simp [tyT,fv,ey,fY]
theorem Ao (t:Ty) (cV:t.wt<=1099511627776) (hf:lW t):bA prog 59 [.agg (dC t)] (.v (.string (ba (tyT t)))):=ES _ t (bn _) cV hf
mutual
def rngT:Ty->Prop
 | .mk h ps=>kH h.lo/\kH h.hi/\kH h.most/\rngP ps
def rngP:Pts->Prop
 | .nil=>True
 | .cons p t r=>kH p.wide/\kH p.cn/\rngT t/\rngP r
end
theorem Tt {h:Hd} {ps:Pts} (ho:¬ pA (.mk h ps)=false):ps.len=0∨(5<=h.al/\h.al<=8):=by
 have h1:pB h ps=true:=by
  rw [rm];cases hb:sameTy (.mk h ps) (mask (.mk h ps))
  ·exact absurd hb ho
  ·rfl
 grind [pB]
mutual
theorem mU:∀ (t:Ty) (depth m:Int),rngT t->(wrong t depth m).1.1=0->lW t
 | .mk h ps,depth,m,hr,he=>by
  simp only [rngT] at hr;obtain ⟨r1,r2,r3,r4⟩:=hr;have i1:=zB h ps depth (m + 1) r4;have i2:=pN h.al (pNames ps) ps 0 depth (m + 1) r4;simp only [wrong] at he;by_cases c0:24 < depth
  ·rw [ah c0] at he;simp at he
  rw [ag c0] at he;by_cases c1:512 < m + 1
  ·rw [ah c1] at he;simp at he
  rw [ag c1] at he;by_cases c2:h.al < 1∨9 < h.al
  ·rw [ah c2] at he;simp at he
  rw [ag c2] at he;by_cases c3:pA (.mk h ps)=false
  ·rw [ah c3] at he;simp at he
  rw [ag c3] at he;have ho:=Tt c3;by_cases c4:(h.al=2/\h.hi < h.lo)∨(h.al=3/\(h.most < 0∨4096 < h.most))
  ·rw [ah c4] at he;simp at he
  rw [ag c4] at he;by_cases c5:h.al=9/\ay h.name.s=false
  ·rw [ah c5] at he;simp at he
  rw [ag c5] at he
  have ab3:¬ (5<=h.al/\h.al<=8)->jy h.al ps:=by
   intro hk;have:ps.len=0:=ho.resolve_right hk
   cases ps with
   | nil=>simp [jy]
   | cons p t r=>simp [Pts.len] at this
  grind [lW]
theorem zB:∀ (h:Hd) (ps:Pts) (depth m:Int),rngP ps->(wrongOne h ps depth m).1.1=0->ps.len=1/\∀ k:Int,jy k ps
 | h,.cons p t .nil,depth,m,hr,he=>by
  simp only [rngP] at hr;have i:=mU t (depth + 1) m hr.2.2.1;simp only [wrongOne] at he;by_cases c0:p.name.s≠aZ∨cw p cp=false
  ·rw [ah c0] at he;simp at he
  rw [ag c0] at he;by_cases c1:h.most < 0∨1024 < h.most
  ·rw [ah c1] at he;simp at he
  rw [ag c1] at he;have hp:cw p cp=true:=by grind
  simp only [cw,cp,bg,decide_eq_true_eq,beq_iff_eq] at hp;refine ⟨rfl,fun k=>?_⟩
  grind [jy]
 | h,.nil,depth,m,hr,he=>by simp [wrongOne] at he
 | h,.cons p t (.cons q u r),depth,m,hr,he=>by simp [wrongOne] at he
theorem pN:∀ (al:Int) (all:List Wd) (ps:Pts) (i:Nat) (depth m:Int),rngP ps->(al=7∨al=8)->(wrongPts al all i ps depth m).1.1=0->jy al ps
 | al,all,.nil,i,depth,m,hr,hk,he=>by simp [jy]
 | al,all,.cons p t r,i,depth,m,hr,hk,he=>by
  simp only [rngP] at hr;have i1:=mU t (depth + 1) m hr.2.2.1;have i2:=fun m'=>pN al all r (i + 1) depth m' hr.2.2.2 hk
  grind [wrongPts,jy,bd,sameTy,bX,cw,hU,dZ]
end
end Go.Proofs.YtfdedoiiahbnnaaGreat
namespace Go.Proofs.YtfdedoiiahbnnaaGreat
namespace Dv
open Go Go.RowKit
def TypFs (f:TypeId->List DV->Prop):List TypeId->List DV->Prop
 | [],ds=>ds=[]
 | t :: r,ds=>∃ a b,ds=a ++ b/\f t a/\TypFs f r b
def Typ (P:Program):Nat->TypeId->List DV->Prop
 | 0,_,_=>False
 | n + 1,t,ds=>
  match P.underlying t with
  | some .bool=>∃ b,ds=[.v (.bool b)]
  | some (.int k)=>∃ z,ds=[.v (.int k z)]/\(Lit.int k z).wf=true
  | some .string=>∃ s:ByteArray,ds=[.v (.string s)]
  | some (.slice e)=>∃ es,ds=[.sl (P.cellsOf e) es none]/\∀ cs∈es,Typ P n e cs
  | some (.struct fs)=>TypFs (Typ P n) (fs.toList.map (·.type)) ds
  | _=>False
mutual
def wgD:DV->Nat
 | .v (.string s)=>s.size + 64
 | .sl _ es _=>64 + wgEs es
 | _=>64
def wgL:List DV->Nat
 | []=>0
 | d :: r=>wgD d + wgL r
def wgEs:List (List DV)->Nat
 | []=>0
 | cs :: r=>wgL cs + wgEs r
end
theorem gF:∀ a b:List DV,wgL (a ++ b)=wgL a + wgL b
 | [],b=>by simp [wgL]
 | d :: r,b=>by simp only [List.cons_append,wgL,gF r b];omega
def laidF (P:Program) (S:List TypeId):Nat->List Field->Nat->Bool
 | off,[],n=>decide (off=n)
 | off,f :: r,n=>decide (f.offset=off) && S.contains f.type && laidF P S (off + P.cellsOf f.type) r n
def xk (P:Program) (S:List TypeId) (t:TypeId):Bool:=
 match P.underlying t with
 | some .bool=>decide (P.cellsOf t=1)
 | some (.int _)=>decide (P.cellsOf t=1)
 | some .string=>decide (P.cellsOf t=1)
 | some (.slice e)=>decide (P.cellsOf t=1) && S.contains e && decide (0 < P.cellsOf e)
 | some (.struct fs)=>laidF P S 0 fs.toList (P.cellsOf t)
 | _=>false
def bkS {H:Type} (bk:DataW H->Nat):List (DataW H)->Nat
 | []=>0
 | d :: r=>bk d + bkS bk r
structure Bk {H:Type} (bk:DataW H->Nat):Prop where
 str:∀ l:List UInt8,l.length + 1<=bk (.lit (.string l))
 lit:∀ l,1<=bk (.lit l)
 nil:1<=bk .nil
 slice:∀ es sp,1 + bkS bk es<=bk (.slice es sp)
 agg:∀ l,bkS bk l<=bk (.agg l)
def HH (w:World):En:=⟨fun a=>w.cell? a,[],[],[]⟩
theorem Tu (w:World):Env (HH w) [] w where
 len:=rfl
 tl:=rfl
 dY:=by simp
 inj:=List.nodup_nil
 sub:=fun x u hx=>hx
 pc:=by simp [HH]
 c9:=by simp [HH]
 iB:=by simp [HH]
theorem LW {w:World} {a:Addr} {k:Nat} {v:Value} (h:w.cell? (a.add k)=some v):w.cell? ⟨a.block,a.off + k,none⟩=some v:=by
 unfold Addr.add at h;split at h
 ·rename_i hk;subst hk;unfold World.cell? at h ⊢;split at h
  ·rename_i c e z he;split at h
   ·cases h
   ·simpa [he] using h
  ·cases h
 ·exact h
theorem LX {w:World} {a:Addr} {v:Value} (h:w.cell? a=some v):a.spot=none:=by
 unfold World.cell? at h;split at h
 ·split at h
  ·cases h
  ·rename_i hs;simpa using hs
 ·cases h
theorem xl {E:En} {b:Nat}:∀ {p:Nat} {ds:List DV} {vs:List Value},RvL E.cl ds vs->(∀ (j:Nat) v,vs[j]? = some v->E.c ⟨b,p + j,none⟩=some v/\v.oneCell'=true)->RvAt E.cl b p ds
 | p,[],vs,h,hc=>by simp only [RvAt]
 | p,d :: r,vs,h,hc=>by
  simp only [RvL] at h;obtain ⟨v,s,rfl,h1,h2⟩:=h;simp only [RvAt];obtain ⟨c1,c2⟩:=hc 0 v rfl;refine ⟨⟨v,c1,c2,h1⟩,xl (p:=p + 1) h2 fun j u hj=>?_⟩;have:=hc (j + 1) u hj;rw [show p + 1 + j=p + (j + 1) by omega];exact this
section
variable {H:Type} {enc:TypeId × Value->H} {P:Program} {w:World} {sp:Nat->Bool} {held:Bool} {S:List TypeId} {bk:DataW H->Nat}
def Rd (enc:TypeId × Value->H) (P:Program) (w:World) (bk:DataW H->Nat) (n:Nat) (t:TypeId) (cs:List Value) (d:DataW H):Prop:=
 ∃ ds,RvL (HH w) ds cs/\(∀ v∈cs,v.oneCell'=true)/\Typ P n t ds/\wgL ds<=64 * bk d/\cs.length=P.cellsOf t
theorem Ap {n:Nat} (ih:∀ t cs x,t∈S->DataW.trod enc P w 0 sp held n t cs=some x->Rd enc P w bk n t cs x.1) (cs:List Value) :
  ∀ (fs:List Field) (off:Nat) (xs:List (DataW H × List MemPlace)),laidF P S off fs cs.length=true->xs.length=fs.length ->
   (∀ (i:Nat) f,fs[i]? = some f->DataW.trod enc P w 0 sp held n f.type ((cs.drop f.offset).take (P.cellsOf f.type))=xs[i]?) ->
   ∃ ds,RvL (HH w) ds (cs.drop off)/\(∀ v∈cs.drop off,v.oneCell'=true)/\TypFs (Typ P n) (fs.map (·.type)) ds/\wgL ds<=64 * bkS bk (xs.map (·.1))
 | [],off,xs,hl,wg,hx=>by
  simp only [laidF,decide_eq_true_eq] at hl;subst hl;simp only [List.length_nil,List.length_eq_zero_iff] at wg;subst wg;exact ⟨[],by simpa using cO _,by simp,by simp [TypFs],by simp [wgL]⟩
 | f :: r,off,xs,hl,wg,hx=>by
  simp only [laidF,bg,decide_eq_true_eq] at hl;obtain ⟨⟨hof,hS⟩,hl⟩:=hl
  match xs,wg with
  | x :: xs,wg=>
   have h0:=hx 0 f rfl;rw [hof] at h0;simp only [List.getElem?_cons_zero] at h0;obtain ⟨ds0,r1,r2,r3,r4,r5⟩:=ih f.type _ x (sU hS) h0;obtain ⟨ds1,s1,s2,s3,s4⟩:=Ap ih cs r (off + P.cellsOf f.type) xs hl (sU wg) (fun i g hg=>by simpa using hx (i + 1) g (sU hg))
   have Po:cs.drop off=(cs.drop off).take (P.cellsOf f.type) ++ cs.drop (off + P.cellsOf f.type):=by
    rw [<- List.drop_drop,List.take_append_drop]
   refine ⟨ds0 ++ ds1,?_,?_,?_,?_⟩
   ·rw [Po];exact RvL.append r1 s1
   ·rw [Po];intro v hv;rcases List.mem_append.1 hv with hv | hv
    ·exact r2 v hv
    ·exact s2 v hv
   ·simp only [List.map_cons,TypFs];exact ⟨ds0,ds1,rfl,r3,s3⟩
   ·rw [gF];simp only [List.map_cons,bkS];omega
theorem ET {n e:Nat} (ih:∀ t cs x,t∈S->DataW.trod enc P w 0 sp held n t cs=some x->Rd enc P w bk n t cs x.1) (he:e∈S) (a:Addr) :
  ∀ (xs:List (DataW H × List MemPlace)) (i0:Nat),(∀ i,i < xs.length->(w.cells? 0 (a.add ((i0 + i) * P.cellsOf e)) (P.cellsOf e)).bind (DataW.trod enc P w 0 sp held n e)=xs[i]?) ->
   ∃ es,es.length=xs.length/\RvEs (HH w) (P.cellsOf e) a.block (a.off + i0 * P.cellsOf e) es/\(∀ cs∈es,Typ P n e cs)/\wgEs es<=64 * bkS bk (xs.map (·.1))
 | [],i0,hx=>⟨[],rfl,by simp only [RvEs],by simp,by simp [wgEs]⟩
 | x :: xs,i0,hx=>by
  have h0:=hx 0 (by simp);simp only [Nat.add_zero,List.getElem?_cons_zero] at h0;obtain ⟨cs,cx,ht⟩:=Option.bind_eq_some_iff.1 h0;obtain ⟨_,hlen,kO⟩:=World.cells?_some cx;obtain ⟨ds0,r1,r2,r3,r4,r5⟩:=ih e cs x he ht
  obtain ⟨es,s1,s2,s3,s4⟩:=ET ih he a xs (i0 + 1) (fun i hi=>by
   have:=hx (i + 1) (sU hi);simp only [List.getElem?_cons_succ] at this;rw [show i0 + 1 + i=i0 + (i + 1) by omega]
   exact this)
  refine ⟨ds0 :: es,by simp [s1],?_,?_,?_⟩
  ·simp only [RvEs];refine ⟨by rw [<- r1.length,hlen],xl (E:=HH w) r1 fun j v hj=>⟨?_,r2 v (mG hj)⟩,?_⟩
   ·have vZ:j < P.cellsOf e:=by rw [<- hlen];exact (gS hj).1
    have h1:=kO j vZ;rw [hj,Deep.add_add] at h1;have h2:=LW h1;show w.cell? _=_;rw [Nat.add_assoc];exact h2
   ·rw [Nat.add_assoc,show i0 * P.cellsOf e + P.cellsOf e=(i0 + 1) * P.cellsOf e by rw [Nat.add_mul,Nat.one_mul]];exact s2
  ·intro cs' hc;rcases dM hc with hc | hc
   ·subst hc;exact r3
   ·exact s3 cs' hc
  ·simp only [wgEs,List.map_cons,bkS];omega
theorem Cv (uv:Bk bk) (hS:∀ t∈S,xk P S t=true):∀ (n:Nat) (t:TypeId) (cs:List Value) (x:DataW H × List MemPlace),t∈S->DataW.trod enc P w 0 sp held n t cs=some x->Rd enc P w bk n t cs x.1
 | 0,t,cs,x,_,h=>by simp [DataW.trod] at h
 | n + 1,t,cs,x,ht,h=>by
  have hf:=hS t ht;unfold xk at hf;unfold Rd
  cases hu:P.underlying t with
  | none=>rw [hu] at hf;cases hf
  | some D=>
   rw [hu] at hf
   cases D with
   | bool=>
    simp only [decide_eq_true_eq] at hf;obtain ⟨b,rfl,rfl⟩:=DataW.trod_bool hu h;have:=uv.lit (.bool b);exact ⟨[.v (.bool b)],rvL_one (by unfold Rv;exact ⟨rfl,rfl⟩),by simp [Value.oneCell'],by simp only [Typ,hu];exact ⟨b,rfl⟩,by simp only [wgL,wgD];omega,by simp [hf]⟩
   | int k=>
    simp only [decide_eq_true_eq] at hf;obtain ⟨z,rfl,rfl,hw⟩:=DataW.trod_int hu h;have:=uv.lit (.int k z);exact ⟨[.v (.int k z)],rvL_one (by unfold Rv;exact ⟨rfl,rfl⟩),by simp [Value.oneCell'],by simp only [Typ,hu];exact ⟨z,rfl,hw⟩,by simp only [wgL,wgD];omega,by simp [hf]⟩
   | string=>
    simp only [decide_eq_true_eq] at hf;obtain ⟨s,rfl,rfl,hw⟩:=DataW.trod_string hu h;have:=uv.str s.data.toList;have di:s.data.toList.length=s.size:=by rw [Array.length_toList];all_goals rfl
    exact ⟨[.v (.string s)],rvL_one (by unfold Rv;exact ⟨rfl,rfl⟩),by simp [Value.oneCell'],by simp only [Typ,hu];exact ⟨s,rfl⟩,by simp only [wgL,wgD];omega,by simp [hf]⟩
   | slice e=>
    simp only [bg,decide_eq_true_eq] at hf;obtain ⟨⟨Tv,G1⟩,hf3⟩:=hf;rcases DataW.trod_slice hu h with ⟨rfl,rfl⟩ | ⟨a,len,cap,elems,rest,m,hm,rfl,rfl,_,Zy,_,Hh,hx,_,_⟩
    ·have:=uv.nil;refine ⟨[.sl (P.cellsOf e) [] none],rvL_one ?_,by simp [Value.oneCell'],by simp only [Typ,hu];exact ⟨[],rfl,by simp⟩,by simp only [wgL,wgD,wgEs];omega,by simp [Tv]⟩;unfold Rv;exact ⟨none,0,0,rfl,⟨rfl,bn _⟩,fun hc=>absurd rfl hc,fun k hk=>by cases hk⟩
    ·simp only [Nat.add_right_cancel_iff] at hm;subst hm;obtain ⟨es,s1,s2,s3,s4⟩:=ET (fun t cs x=>Cv uv hS n t cs x) (sU G1) a elems 0 (fun i hi=>by simpa using hx i (by omega));have hb:=uv.slice (elems.map (·.1)) (rest.map (·.1));refine ⟨[.sl (P.cellsOf e) es none],rvL_one ?_,by simp [Value.oneCell'],by simp only [Typ,hu];exact ⟨es,rfl,s3⟩,by simp only [wgL,wgD];omega,by simp [Tv]⟩;unfold Rv;refine ⟨some a,len,cap,rfl,⟨by omega,Zy⟩,fun bo=>⟨?_,?_⟩,fun k hk=>by cases hk⟩
     ·have nK:0 < len:=by
       rw [<- Hh,<- s1];exact List.length_pos_iff.2 bo
      have h0:=hx 0 nK;rw [gE (by omega)] at h0;obtain ⟨cs,cx,_⟩:=Option.bind_eq_some_iff.1 h0;obtain ⟨_,hlen,kO⟩:=World.cells?_some cx;have h1:=kO 0 hf3;rw [gE (by omega),Deep.add_add] at h1;simp only [Nat.zero_mul,Nat.add_zero] at h1;exact LX (a:=a) h1
     ·have s2':RvEs (HH w) (P.cellsOf e) a.block a.off es:=sU s2;exact s2'
   | struct fs=>
    obtain ⟨xs,m,hm,rfl,hlen,wg,hx⟩:=DataW.trod_struct hu h;simp only [Nat.add_right_cancel_iff] at hm;subst hm;simp only at hf;obtain ⟨ds,s1,s2,s3,s4⟩:=Ap (fun t cs x=>Cv uv hS n t cs x) cs fs.toList 0 xs (by rw [hlen];exact hf) (sU wg) (fun i f hi=>hx i f (sU hi));have hb:=uv.agg (xs.map (·.1));refine ⟨ds,by simpa using s1,by simpa using s2,by simp only [Typ,hu];exact s3,by simp only;omega,hlen⟩
   | _=>cases hf
end
theorem J0 {P:Program} {n:Nat} {t:TypeId} {k:IntKind} {ds:List DV} (hu:P.underlying t=some (.int k)) (h:Typ P n t ds):∃ z,ds=[.v (.int k z)]/\(Lit.int k z).wf=true:=by
 cases n with
 | zero=>exact h.elim
 | succ n=>simp only [Typ,hu] at h;exact h
theorem Pp {P:Program} {n:Nat} {t:TypeId} {ds:List DV} (hu:P.underlying t=some .bool) (h:Typ P n t ds):∃ b,ds=[.v (.bool b)]:=by
 cases n with
 | zero=>exact h.elim
 | succ n=>simp only [Typ,hu] at h;exact h
theorem Tw {P:Program} {n:Nat} {t:TypeId} {ds:List DV} (hu:P.underlying t=some .string) (h:Typ P n t ds):∃ s:ByteArray,ds=[.v (.string s)]:=by
 cases n with
 | zero=>exact h.elim
 | succ n=>simp only [Typ,hu] at h;exact h
theorem Cw {P:Program} {n:Nat} {t e:TypeId} {ds:List DV} (hu:P.underlying t=some (.slice e)) (h:Typ P n t ds):∃ m es,n=m + 1/\ds=[.sl (P.cellsOf e) es none]/\∀ cs∈es,Typ P m e cs:=by
 cases n with
 | zero=>exact h.elim
 | succ n=>
  simp only [Typ,hu] at h;obtain ⟨es,h1,h2⟩:=h;exact ⟨n,es,rfl,h1,h2⟩
theorem qm {P:Program} {n:Nat} {t:TypeId} {fs:Array Field} {ds:List DV} (hu:P.underlying t=some (.struct fs)) (h:Typ P n t ds):∃ m,n=m + 1/\TypFs (Typ P m) (fs.toList.map (·.type)) ds:=by
 cases n with
 | zero=>exact h.elim
 | succ n=>
  simp only [Typ,hu] at h;exact ⟨n,rfl,h⟩
theorem wf_i64 {z:Int} (h:(Lit.int .i64 z).wf=true) : -9223372036854775808<=z/\z<=9223372036854775807:=by
 simpa [Lit.wf,IntKind.min,IntKind.max,IntKind.signed,IntKind.bits] using h
end Dv
end Go.Proofs.YtfdedoiiahbnnaaGreat
set_option maxRecDepth 100000
namespace Go.Proofs.YtfdedoiiahbnnaaGreat
open Go Go.RowKit Dv Go.Proofs.Tryz
theorem HI:prog.cellsOf 34=2:=by kernel_rfl
theorem HJ:prog.cellsOf 133=18:=by kernel_rfl
theorem sS {n:Nat} {ds:List DV} (h:Typ prog n 34 ds):∃ w:Wd,ds=nD w/\w.wt<=wgL ds:=by
 obtain ⟨m,_,hf⟩:=qm Tryz.underlying34 h;obtain ⟨a,b,rfl,h1,c,d,rfl,h2,rfl⟩:=hf;obtain ⟨s,rfl⟩:=Tw Tryz.underlying9 h1;obtain ⟨z,rfl,_⟩:=J0 Tryz.underlying3 h2;exact ⟨⟨s,z⟩,rfl,by simp [wgL,wgD,Wd.wt]⟩
theorem Pq:∀ {m:Nat} {es:List (List DV)},(∀ cs∈es,Typ prog m 34 cs)->∃ l:List Wd,es=cd l/\wdsWt l<=wgEs es
 | m,[],h=>⟨[],rfl,by simp [wdsWt,wgEs]⟩
 | m,cs :: r,h=>by
  obtain ⟨w,rfl,hw⟩:=sS (h cs (by simp));obtain ⟨l,rfl,hl⟩:=Pq (m:=m) (es:=r) (fun c hc=>h c (fA _ hc));exact ⟨w :: l,rfl,by simp only [wdsWt,wgEs];omega⟩
theorem vy {n:Nat} {ds:List DV} (h:Typ prog n 29 ds):∃ l:List Wd,ds=[.sl 2 (cd l) none]/\64 + wdsWt l<=wgL ds:=by
 obtain ⟨m,es,_,rfl,he⟩:=Cw Tryz.underlying29 h;obtain ⟨l,rfl,hl⟩:=Pq he;rw [HI];exact ⟨l,rfl,by simp only [wgL,wgD];omega⟩
theorem rq {n:Nat} {ds:List DV} (h:Typ prog n 3 ds):∃ z,ds=[.v (.int .i64 z)]/\kH z:=by
 obtain ⟨z,rfl,hw⟩:=J0 Tryz.underlying3 h;exact ⟨z,rfl,wf_i64 hw⟩
theorem Pr {m:Nat} (ih:∀ k,k < m->∀ ds,Typ prog k 36 ds->∃ t:Ty,ds=dC t/\rngT t/\t.wt<=wgL ds) :
  ∀ {es:List (List DV)},(∀ cs∈es,Typ prog m 133 cs)->∃ ps:Pts,es=eX ps/\rngP ps/\ps.wt<=wgEs es
 | [],h=>⟨.nil,by simp [eX],by simp [rngP],by simp [Pts.wt]⟩
 | cs :: r,h=>by
  obtain ⟨ps,rfl,hr,hl⟩:=Pr ih (es:=r) (fun c hc=>h c (fA _ hc));obtain ⟨k,rfl,hf⟩:=qm Tryz.underlying133 (h cs (by simp));obtain ⟨a1,b1,rfl,h1,a2,b2,rfl,h2,a3,b3,rfl,h3,a4,b4,rfl,h4,a5,b5,rfl,h5,a6,b6,rfl,h6,rfl⟩:=hf;obtain ⟨nm,rfl,w1⟩:=sS h1;obtain ⟨bare,rfl⟩:=Pp Tryz.underlying4 h2;obtain ⟨lab,rfl,w3⟩:=vy h3;obtain ⟨wide,rfl,r4⟩:=rq h4;obtain ⟨k5,_,hf5⟩:=qm Tryz.underlying131 h5;obtain ⟨c1,d1,rfl,g1,c2,d2,rfl,g2,c3,d3,rfl,g3,c4,d4,rfl,g4,rfl⟩:=hf5;obtain ⟨ck,rfl,_⟩:=rq g1;obtain ⟨cn,rfl,q2⟩:=rq g2;obtain ⟨ca,rfl,_⟩:=rq g3;obtain ⟨cl,rfl,w5⟩:=vy g4;obtain ⟨t,rfl,rt,wt⟩:=ih k (by omega) _ h6;refine ⟨.cons ⟨nm,bare,lab,wide,ck,cn,ca,cl⟩ t ps,?_,by simp only [rngP];exact ⟨r4,q2,rt,hr⟩,?_⟩
  ·grind [eX,lR,nD]
  ·grind [Pts.wt,Ph.wt,wgEs,gF,wgL,wgD,nD,Wd.wt]
theorem Ps:∀ (n:Nat) (ds:List DV),Typ prog n 36 ds->∃ t:Ty,ds=dC t/\rngT t/\t.wt<=wgL ds:=by
 intro n
 induction n using Nat.strongRecOn with
 | _ n ih=>
  intro ds h;obtain ⟨m,rfl,hf⟩:=qm Tryz.underlying36 h;obtain ⟨a1,b1,rfl,h1,a2,b2,rfl,h2,a3,b3,rfl,h3,a4,b4,rfl,h4,a5,b5,rfl,h5,a6,b6,rfl,h6,a7,b7,rfl,h7,a8,b8,rfl,h8,rfl⟩:=hf;obtain ⟨al,rfl,_⟩:=rq h1;obtain ⟨dA,rfl,_⟩:=rq h2;obtain ⟨lo,rfl,r3⟩:=rq h3;obtain ⟨hi,rfl,r4⟩:=rq h4;obtain ⟨most,rfl,r5⟩:=rq h5;obtain ⟨af,rfl,w6⟩:=vy h6;obtain ⟨k,es,rfl,rfl,px⟩:=Cw Tryz.underlying32 h7;obtain ⟨ps,rfl,rp,wp⟩:=Pr (fun j hj=>ih j (by omega)) px;obtain ⟨nm,rfl,w8⟩:=sS h8;rw [HJ];refine ⟨.mk ⟨al,dA,lo,hi,most,af,nm⟩ ps,?_,by simp only [rngT];exact ⟨r3,r4,r5,rp⟩,?_⟩
  ·grind [dC,nD]
  ·grind [Ty.wt,Hd.wt,gF,wgL,wgD,nD,Wd.wt]
end Go.Proofs.YtfdedoiiahbnnaaGreat
namespace Go.Proofs.YtfdedoiiahbnnaaGreat
namespace Dv
open Go Go.RowKit Go.ChangeShapes Go.WideShapes Go.ChangeAt
open Go.ChangeMaps (open_string shut_string)
section
variable {H:Type} {enc:TypeId × Value->H} {P:Program}
theorem pO (hl:laidOutB P=true) {W W':World} (hb:Below W.heap.size W W'):∀ {ts:List TypeId} {vs:List Value} {ds:List (DataW H)} {ps:List MemPlace},(∀ t∈ts,P.readableRec t=true/\t < P.types.size) ->
  DataW.TrodAll enc P W 0 (fun _=>true) true ts vs ds ps->(∀ x∈ps,x.block < W.heap.size)->DataW.TrodAll enc P W' 0 (fun b=>decide (b < W.heap.size)) true ts vs ds ps
 | [],[],[],_,_,h,_=>h
 | t :: ts,v :: vs,d :: ds,_,ht,⟨p,q,h1,h2,e⟩,aE=>by
  subst e;obtain ⟨r1,r2⟩:=ht t (by simp);exact ⟨p,q,Below.trod hl r1 r2 h1 hb (fun x hx=>aE x (List.mem_append_left _ hx)),pO hl hb (fun t si=>ht t (by simp [si])) h2 (fun x hx=>aE x (List.mem_append_right _ hx)),rfl⟩
theorem law_post {f:Func} {s:ChangeSpec} {tb:TypeId} (hl:laidOutB P=true) (Hj:f.resultTypes = #[tb]) (htb:P.underlying tb=some .bool) (hv:s.vars=[]) (hts:∀ t∈f.params.toList,P.readableRec t=true/\t < P.types.size)
  {W W':World} {args:Array Value} {ds gs:List (DataW H)} {before:List MemPlace} (hW:DataW.Whole enc P f.params.toList s.vars false W args.toList ds gs before) (wv:s.fn H ds={ results:=[.lit (.bool true)],args:=ds }) (hb:Below W.heap.size W W') :
  s.post enc P f false true false false W args (.bool true) W':=by
 have hW':=hW;obtain ⟨p,q,hA,hV,rfl,hfz,hnd⟩:=hW;rw [hv] at hV;obtain ⟨rfl,rfl⟩:=trodVars_none hV;refine ⟨ds,[],p ++ [],[],p,[],hW',?_,?_,?_,hb.frame _,fun h=>by cases h⟩
 ·rw [List.append_nil,wv,Hj];exact trodAll_cons_mk (shut_bool htb _) trodAll_mk0
 ·rw [List.append_nil,wv];exact pO hl hb hts hA (fun x hx=>hW'.lt x (List.mem_append_left _ hx))
 ·rw [List.append_nil,wv,hv];rfl
theorem HK {w w':World} {Φ:DV->List (List DV)->List TkE->Prop} {v:Value} (h:DM false (HH w) w Φ v w'):Below w.heap.size w w':=by
 obtain ⟨hm,_⟩:=h;refine ⟨hm.os,hm.tape,hm.output,hm.size,fun k hk=>hm.block k hk ?_⟩;rintro (h1 | ⟨y,h1,_⟩)
 ·simp [HH] at h1
 ·simp [HH] at h1
theorem calls_law {f:FuncId} {args:List DV} {vs:List Value} {w:World} (h:bA P f args (.v (.bool true))) (hv:RvL (HH w) args vs) :
  Calls P f vs.toArray w fun e w'=>e = .returned (.bool true)/\Below w.heap.size w w':=by
 refine (h (HH w) w vs (Tu w) rfl hv).mono ?_;rintro e w' ⟨v,rfl,he⟩;have hb:=HK he;obtain ⟨_,_,d,os,E,_,_,_,_,hr,rfl⟩:=he;unfold Rv at hr;rw [hr.1];exact ⟨rfl,hb⟩
variable {W:World} {base:Nat} {S:List TypeId} {bk:DataW H->Nat}
theorem arg_st (uv:Bk bk) (hS:∀ t∈S,xk P S t=true) {t:TypeId} {fs:Array Field} {v:Value} {d:DataW H} {ps:List MemPlace} (ht:t∈S) (hu:P.underlying t=some (.struct fs))
  (hval:Value.okWide P W .any base t v) (h:DataW.Trod enc P W 0 (fun _=>true) true t v d ps):∃ n ds,Rv (HH W) (.agg ds) v/\Typ P n t ds/\wgL ds<=64 * bk d:=by
 unfold Value.okWide at hval;rw [hu] at hval;obtain ⟨cs,rfl,_,_⟩:=hval;obtain ⟨n,hn⟩:=h;obtain ⟨ds,h1,h2,h3,h4,_⟩:=Cv uv hS n t _ _ ht hn;refine ⟨n,ds,?_,h3,h4⟩;unfold Rv;exact ⟨cs.toList,by simp,h1,h2⟩
end
end Dv
end Go.Proofs.YtfdedoiiahbnnaaGreat
namespace Go.Proofs.YtfdedoiiahbnnaaGreat
open Go Go.RowKit Dv
theorem HL {H:Type}:∀ l:List (DataW H),bkS Rows.uptoBulk l=Rows.uptoBulkAll l
 | []=>by simp [bkS,Rows.uptoBulkAll]
 | d :: r=>by simp only [bkS,Rows.uptoBulkAll,HL r]
theorem bk_ok {H:Type}:Bk (Rows.uptoBulk (H:=H)) where
 str:=fun l=>by simp [Rows.uptoBulk]
 lit:=fun l=>by cases l<;>simp [Rows.uptoBulk]
 nil:=by simp [Rows.uptoBulk]
 slice:=fun es sp=>by simp only [Rows.uptoBulk,HL];omega
 agg:=fun l=>by simp only [Rows.uptoBulk,HL];omega
theorem bulk_le {H:Type} {l:List (DataW H)} (hk:Rows.uptoSmall H l=true):Rows.uptoBulkAll l<=1048576:=of_decide_eq_true hk
theorem laid_out:laidOutB Tryz.prog=true:=by kernel_rfl
theorem own_knob:ownKnob Tryz.prog.godebug=none:=by kernel_rfl
def tyS:List TypeId:=[36,29,34,9,3,32,133,4,131]
end Go.Proofs.YtfdedoiiahbnnaaGreat
set_option maxRecDepth 100000
namespace Go.Proofs.YtfdedoiiahbnnaaGreat
open Go Go.RowKit Dv Go.Proofs.Tryz
def bZ (w:Wd):Wd:=⟨w.s,0⟩
def bw (h:Hd):Hd:=⟨h.al,0,h.lo,h.hi,h.most,aw h.af,bZ h.name⟩
def aY (p:Ph):Ph:=⟨bZ p.name,p.bare,aw p.label,p.wide,p.ck,p.cn,0,aw p.cl⟩
mutual
def stripT:Ty->Ty
 | .mk h ps=>.mk (bw h) (stripP ps)
def stripP:Pts->Pts
 | .nil=>.nil
 | .cons p t r=>.cons (aY p) (stripT t) (stripP r)
end
theorem sX (l:List Wd):wdsWt (aw l)=wdsWt l:=by
 induction l with
 | nil=>rfl
 | cons w r ih=>simp only [aw,List.map_cons,wdsWt,Wd.wt] at ih ⊢;rw [ih]
mutual
theorem sY:∀ t:Ty,(stripT t).wt=t.wt
 | .mk h ps=>by simp only [stripT,Ty.wt,Hd.wt,bw,bZ,Wd.wt,sX,Aq ps]
theorem Aq:∀ ps:Pts,(stripP ps).wt=ps.wt
 | .nil=>by simp only [stripP]
 | .cons p t r=>by simp only [stripP,Pts.wt,Ph.wt,aY,bZ,Wd.wt,sX,sY t,Aq r]
end
theorem qp:∀ ps:Pts,(stripP ps).len=ps.len
 | .nil=>by simp only [stripP]
 | .cons p t r=>by simp only [stripP,Pts.len,qp r]
def Pts.take:Nat->Pts->Pts
 | 0,_=>.nil
 | _ + 1,.nil=>.nil
 | e + 1,.cons p t r=>.cons p t (r.take e)
structure Sch where
 ae:List Wd
 order:List (Wd × Wd)
 types:List (Wd × Ty)
 root:Ty
def Tx (p:Wd × Wd):List DV:=[.v (.string p.1.s),.v (.int .i64 p.1.a),.v (.string p.2.s),.v (.int .i64 p.2.a)]
def eY (l:List (Wd × Wd)):List (List DV):=l.map Tx
def dNm (x:Wd × Ty):List DV:=.v (.string x.1.s) :: .v (.int .i64 x.1.a) :: dC x.2
def dNms (l:List (Wd × Ty)):List (List DV):=l.map dNm
def iG (s:Sch):List DV:=.sl 2 (cd s.ae) none :: .sl 4 (eY s.order) none :: .sl 11 (dNms s.types) none :: dC s.root
def prsWt:List (Wd × Wd)->Nat
 | []=>0
 | p :: r=>p.1.wt + p.2.wt + prsWt r
def nmsWt:List (Wd × Ty)->Nat
 | []=>0
 | p :: r=>p.1.wt + p.2.wt + nmsWt r
def Sch.wt (s:Sch):Nat:=wdsWt s.ae + prsWt s.order + nmsWt s.types + s.root.wt
theorem eB (l:List (Wd × Wd)):(eY l).length=l.length:=by simp [eY]
theorem dN (l:List (Wd × Ty)):(dNms l).length=l.length:=by simp [dNms]
theorem rr {l:List (Wd × Wd)} {j:Nat} {p:Wd × Wd} (h:l[j]? = some p):(eY l)[j]? = some (Tx p):=by simp [eY,h]
theorem dNms_get {l:List (Wd × Ty)} {j:Nat} {p:Wd × Ty} (h:l[j]? = some p):(dNms l)[j]? = some (dNm p):=by simp [dNms,h]
theorem iH:∀ l:List (Wd × Wd),128 * l.length<=prsWt l
 | []=>bn _
 | p :: r=>by have:=iH r;simp only [List.length_cons,prsWt,Wd.wt];omega
theorem jU:∀ l:List (Wd × Ty),256 * l.length<=nmsWt l
 | []=>bn _
 | p :: r=>by have:=jU r;have:=p.2.mR;simp only [List.length_cons,nmsWt,Wd.wt];omega
theorem sZ:∀ {l:List (Wd × Wd)} {p:Wd × Wd},p∈l->p.1.wt + p.2.wt<=prsWt l
 | x :: r,p,h=>by
  rcases dM h with h | h
  ·subst h;simp only [prsWt];omega
  ·have:=sZ h;simp only [prsWt];omega
theorem gM:∀ {l:List (Wd × Ty)} {p:Wd × Ty},p∈l->p.1.wt + p.2.wt<=nmsWt l
 | x :: r,p,h=>by
  rcases dM h with h | h
  ·subst h;simp only [nmsWt];omega
  ·have:=gM h;simp only [nmsWt];omega
def cg (p:Wd × Wd):Wd × Wd:=(bZ p.1,bZ p.2)
def bR (p:Wd × Ty):Wd × Ty:=(bZ p.1,stripT p.2)
def aQ (s:Sch):Sch:=⟨aw s.ae,s.order.map cg,s.types.map bR,stripT s.root⟩
def s5 (s:Sch):Prop:=(∀ x∈s.types,rngT x.2)/\rngT s.root
theorem HM:prog.cellsOf 122=4:=by kernel_rfl
theorem EU:prog.cellsOf 93=11:=by kernel_rfl
theorem X2 {n:Nat} {ds:List DV} (h:Typ prog n 122 ds):∃ p:Wd × Wd,ds=Tx p/\p.1.wt + p.2.wt<=wgL ds:=by
 obtain ⟨m,_,hf⟩:=qm Tryz.underlying122 h;obtain ⟨a,b,rfl,h1,c,d,rfl,h2,rfl⟩:=hf;obtain ⟨x,rfl,w1⟩:=sS h1;obtain ⟨y,rfl,w2⟩:=sS h2;exact ⟨(x,y),rfl,by simp only [gF,wgL];omega⟩
theorem X3 {n:Nat} {ds:List DV} (h:Typ prog n 93 ds):∃ p:Wd × Ty,ds=dNm p/\rngT p.2/\p.1.wt + p.2.wt<=wgL ds:=by
 obtain ⟨m,_,hf⟩:=qm Tryz.underlying93 h;obtain ⟨a,b,rfl,h1,c,d,rfl,h2,rfl⟩:=hf;obtain ⟨x,rfl,w1⟩:=sS h1;obtain ⟨y,rfl,r2,w2⟩:=Ps _ _ h2;exact ⟨(x,y),by simp [dNm,nD],r2,by simp only [gF,wgL];omega⟩
theorem Pt:∀ {m:Nat} {es:List (List DV)},(∀ cs∈es,Typ prog m 122 cs)->∃ l:List (Wd × Wd),es=eY l/\prsWt l<=wgEs es
 | m,[],h=>⟨[],rfl,by simp [prsWt,wgEs]⟩
 | m,cs :: r,h=>by
  obtain ⟨w,rfl,hw⟩:=X2 (h cs (by simp));obtain ⟨l,rfl,hl⟩:=Pt (m:=m) (es:=r) (fun c hc=>h c (fA _ hc));exact ⟨w :: l,rfl,by simp only [prsWt,wgEs];omega⟩
theorem Pu:∀ {m:Nat} {es:List (List DV)},(∀ cs∈es,Typ prog m 93 cs)->∃ l:List (Wd × Ty),es=dNms l/\(∀ x∈l,rngT x.2)/\nmsWt l<=wgEs es
 | m,[],h=>⟨[],rfl,by simp,by simp [nmsWt,wgEs]⟩
 | m,cs :: r,h=>by
  obtain ⟨w,rfl,hr,hw⟩:=X3 (h cs (by simp));obtain ⟨l,rfl,hlr,hl⟩:=Pu (m:=m) (es:=r) (fun c hc=>h c (fA _ hc));refine ⟨w :: l,rfl,fun x hx=>?_,by simp only [nmsWt,wgEs];omega⟩;rcases dM hx with rfl | hx
  ·exact hr
  ·exact hlr x hx
theorem typ_sch {n:Nat} {ds:List DV} (h:Typ prog n 38 ds):∃ s:Sch,ds=iG s/\s5 s/\s.wt<=wgL ds:=by
 obtain ⟨m,_,hf⟩:=qm Tryz.underlying38 h;obtain ⟨a1,b1,rfl,h1,a2,b2,rfl,h2,a3,b3,rfl,h3,a4,b4,rfl,h4,rfl⟩:=hf;obtain ⟨l1,rfl,w1⟩:=vy h1;obtain ⟨m2,es2,_,rfl,he2⟩:=Cw Tryz.underlying30 h2;obtain ⟨l2,rfl,w2⟩:=Pt he2;obtain ⟨m3,es3,_,rfl,he3⟩:=Cw Tryz.underlying31 h3;obtain ⟨l3,rfl,r3,w3⟩:=Pu he3;obtain ⟨t,rfl,r4,w4⟩:=Ps _ _ h4;rw [HM,EU];refine ⟨⟨l1,l2,l3,t⟩,by simp [iG],⟨r3,r4⟩,?_⟩;simp only [Sch.wt,gF,wgL,wgD] at *;omega
end Go.Proofs.YtfdedoiiahbnnaaGreat
namespace Go.Proofs.YtfdedoiiahbnnaaGreat
open Go Go.RowKit Dv
def tySS:List TypeId:=38 :: 30 :: 122 :: 31 :: 93 :: tyS
theorem tySS_ok:∀ t∈tySS,xk Tryz.prog tySS t=true:=by
 have h:(tySS.all fun t=>xk Tryz.prog tySS t)=true:=by kernel_rfl
 exact fun t ht=>List.all_eq_true.1 h t ht
set_option maxRecDepth 100000
noncomputable abbrev PP:Program:=Tryz.pinned.checked.prog
def dft:OpenClaim:={ program := "",sum := "",func := "",spec := "" }
theorem and_ok {a b:Bool} (ha:a=true) (hb:b=true):(a && b)=true:=by rw [ha,hb];all_goals rfl
theorem g_laid:laidOutB PP=true:=laid_out
theorem g_maps:mapsRowed PP=true:=by kernel_rfl
theorem g_stops:(PP.stops == [])=true:=by kernel_rfl
theorem g_knobs:(PP.stopKnobs == [])=true:=by kernel_rfl
theorem g_heard:PP.stopsHeard=true:=by kernel_rfl
theorem g_enter:PP.mayEnter=true:=by kernel_rfl
theorem g_lifts:(dft.lifted == PP.liftsFinal)=true:=by kernel_rfl
theorem g_keys:(true == PP.plainKeys)=true:=by kernel_rfl
theorem g_make:(PP.make == some dft.make)=true:=by kernel_rfl
end Go.Proofs.YtfdedoiiahbnnaaGreat
set_option maxRecDepth 100000
namespace Go.Proofs
open Go.Shelf
def Tryz.lays217_ren:Go.Shelf.Ren:=⟨fun | 217=>353 | 266=>361 | n=>n,fun | 9=>9 | 3=>3 | 5=>5 | n=>n,fun | n=>n⟩
theorem Tryz.lays217:Go.Proofs.Lays.n217 prog Tryz.lays217_ren:={
 mixed:=by kernel_rfl
 f217:=func353.trans (congrArg some (by kernel_rfl))
 f266:=func361.trans (congrArg some (by kernel_rfl))
 t3:=Tryz.underlying3
 a3:=Tryz.isAgg3
 z3:=Tryz.sizeOf3
 v3:=Tryz.zeroValue3
 t5:=Tryz.underlying5
 a5:=Tryz.isAgg5
 z5:=Tryz.sizeOf5
 v5:=Tryz.zeroValue5
 t9:=Tryz.underlying9
 a9:=Tryz.isAgg9
 z9:=Tryz.sizeOf9
 v9:=Tryz.zeroValue9 }
end Go.Proofs
namespace Go.Proofs.YtfdedoiiahbnnaaGreat
open Go Go.RowKit Dv Go.Proofs.Tryz
theorem LY (s:ByteArray) (c:Int):bA prog 353 [.v (.string s),.v (.int .u8 c)] (.v (.int .i64 (Lib.indexByte (tx s) c.toNat.toUInt8))):=by
 refine An fun E w vs hE hv=>?_;simp only [RvL] at hv;obtain ⟨v1,s1,rfl,h1,v2,s2,rfl,h2,rfl⟩:=hv;have h1:=bL h1;have h2:=bL h2;subst h1 h2;refine (Any.stringslite_IndexByte Tryz.lays217 s c w).mono ?_;rintro e w' ⟨rfl,rfl⟩;exact ⟨_,rfl,fm rfl,Below.refl _ _⟩
theorem EV (s:ByteArray) (c:Int):bA prog 333 [.v (.string s),.v (.int .u8 c)] (.v (.int .i64 (Lib.indexByte (tx s) c.toNat.toUInt8))):=by
 refine eG 8 [.tmp 4] func333 rfl ntmps333 rfl fun _ _ _ _=>?_;refine cP abE (LY s c) ?_;exact (rfl:_=_)
def xm (s p:ByteArray):Bool:=decide (p.size<=s.size) && decide (s.extract 0 p.size=p)
theorem HN (s p:ByteArray) (hs:s.size<=4611686018427387904):bA prog 352 [.v (.string s),.v (.string p)] (.v (.bool (xm s p))):=by
 refine eG 18 [.tmp 4] func352 rfl ntmps352 rfl fun _ _ _ _=>?_;refine br ?_ ?_<;>intro g
 ·have g1:p.size<=s.size:=sU g;refine ⟨⟨by omega,by omega,by omega⟩,?_⟩;refine congrArg (fun z=>DV.v (Value.bool z)) ?_;unfold xm;rw [decide_eq_true g1,Bool.true_and];rfl
 ·have g1:¬ p.size<=s.size:=sU g;refine congrArg (fun z=>DV.v (Value.bool z)) ?_;unfold xm;rw [decide_eq_false g1,Bool.false_and]
theorem LZ (s p:ByteArray) (hs:s.size<=4611686018427387904):bA prog 332 [.v (.string s),.v (.string p)] (.v (.bool (xm s p))):=by
 refine eG 8 [.tmp 4] func332 rfl ntmps332 rfl fun _ _ _ _=>?_;refine cP abD (HN s p hs) ?_;exact (rfl:_=_)
end Go.Proofs.YtfdedoiiahbnnaaGreat
set_option maxRecDepth 100000
namespace Go.Proofs.YtfdedoiiahbnnaaGreat
open Go Go.RowKit Dv Go.Proofs.Tryz
theorem Pv {n u:Int} (hu:1<=u):(n.tmod u < 0->n.tmod u + u=n % u)/\(¬ n.tmod u < 0->n.tmod u=n % u):=by
 have h1:=Int.emod_nonneg n (show u≠0 by omega);have h2:=Int.emod_lt_of_pos n (show 0 < u by omega);have h3:=Int.tmod_eq_emod (a:=n) (b:=u);have h4:(u.natAbs:Int)=u:=Int.natAbs_of_nonneg (by omega);rw [h3];split<;>omega
theorem X4 {q u l:Int} (hu:1<=u) (hl:l<=0):q < l.tdiv u↔q * u < l:=by
 have h1:=Int.mul_tdiv_add_tmod l u;rw [Int.mul_comm] at h1;have hm:=Pv (n:=l) (u:=u) hu;have h2:=Int.emod_nonneg l (show u≠0 by omega);have h3:=Int.emod_lt_of_pos l (show 0 < u by omega)
 have h4 : -u < l.tmod u/\l.tmod u<=0:=by
  have h5:(-l).tmod u = -(l.tmod u):=Int.neg_tmod ..;have h6:(-l).tmod u=(-l) % u:=Int.tmod_eq_emod_of_nonneg (by omega);have h7:=Int.emod_nonneg (-l) (show u≠0 by omega);have h8:=Int.emod_lt_of_pos (-l) (show 0 < u by omega);omega
 constructor
 ·intro h;have:=Int.mul_le_mul_of_nonneg_right (a:=q + 1) (b:=l.tdiv u) (c:=u) (by omega) (by omega);rw [Int.add_mul,Int.one_mul] at this;omega
 ·intro h;rcases Int.lt_or_le q (l.tdiv u) with h9 | h9
  ·exact h9
  ·have:=Int.mul_le_mul_of_nonneg_right (a:=l.tdiv u) (b:=q) (c:=u) (by omega) (by omega);omega
def cq (c:Nat):Nat:=if c < 128 then 1 else if 194<=c/\c<=223 then 2 else if 224<=c/\c<=239 then 3 else if 240<=c/\c<=244 then 4 else 0
def lX (c:Nat):Nat:=if c=224 then 160 else if c=240 then 144 else 128
def lY (c:Nat):Nat:=if c=237 then 159 else if c=244 then 143 else 191
theorem L0 (c:Nat):bA prog 329 [.v (.int .u8 c)] (.bK [.v (.int .i64 (cq c:Nat)),.v (.int .u8 (lX c:Nat)),.v (.int .u8 (lY c:Nat))]):=by
 have hN:cq c=if c < 128 then 1 else if 194<=c/\c<=223 then 2 else if 224<=c/\c<=239 then 3 else if 240<=c/\c<=244 then 4 else 0:=rfl
 have hL:lX c=if c=224 then 160 else if c=240 then 144 else 128:=rfl
 have hH:lY c=if c=237 then 159 else if c=244 then 143 else 191:=rfl
 generalize cq c=N at hN ⊢;generalize lX c=L at hL ⊢;generalize lY c=H at hH ⊢;refine eG 41 [.tmp 2,.tmp 3,.tmp 4] func329 rfl ntmps329 rfl fun _ _ _ _=>?_;refine br ?_ ?_<;>intro c1
 ·have c1:(c:Int) < 128:=sU c1;refine br ?_ ?_<;>intro g
  ·have g:(c:Int)=224:=sU g
   have hn:N=1:=by
    rw [hN]
    repeat' split
    all_goals omega
   have hl:L=160:=by
    rw [hL]
    repeat' split
    all_goals omega
   have hh:H=191:=by
    rw [hH]
    repeat' split
    all_goals omega
   rw [hn,hl,hh];exact ⟨_,ax,rfl⟩
  have Tz:¬ (c:Int)=224:=sU g;refine br ?_ ?_<;>intro g
  ·have g:(c:Int)=237:=sU g
   have hn:N=1:=by
    rw [hN]
    repeat' split
    all_goals omega
   have hl:L=128:=by
    rw [hL]
    repeat' split
    all_goals omega
   have hh:H=159:=by
    rw [hH]
    repeat' split
    all_goals omega
   rw [hn,hl,hh];exact ⟨_,ax,rfl⟩
  have TA:¬ (c:Int)=237:=sU g;refine br ?_ ?_<;>intro g
  ·have g:(c:Int)=240:=sU g
   have hn:N=1:=by
    rw [hN]
    repeat' split
    all_goals omega
   have hl:L=144:=by
    rw [hL]
    repeat' split
    all_goals omega
   have hh:H=191:=by
    rw [hH]
    repeat' split
    all_goals omega
   rw [hn,hl,hh];exact ⟨_,ax,rfl⟩
  have TB:¬ (c:Int)=240:=sU g;refine br ?_ ?_<;>intro g
  ·have g:(c:Int)=244:=sU g
   have hn:N=1:=by
    rw [hN]
    repeat' split
    all_goals omega
   have hl:L=128:=by
    rw [hL]
    repeat' split
    all_goals omega
   have hh:H=143:=by
    rw [hH]
    repeat' split
    all_goals omega
   rw [hn,hl,hh];exact ⟨_,ax,rfl⟩
  have TC:¬ (c:Int)=244:=sU g
  have hn:N=1:=by
   rw [hN]
   repeat' split
   all_goals omega
  have hl:L=128:=by
   rw [hL]
   repeat' split
   all_goals omega
  have hh:H=191:=by
   rw [hH]
   repeat' split
   all_goals omega
  rw [hn,hl,hh];exact ⟨_,ax,rfl⟩
 have c1:¬ (c:Int) < 128:=sU c1;refine br ?_ ?_<;>intro k
 ·have k:194<=(c:Int)/\(c:Int)<=223:=by simpa [aC] using k
  refine br ?_ ?_<;>intro g
  ·have g:(c:Int)=224:=sU g
   have hn:N=2:=by
    rw [hN]
    repeat' split
    all_goals omega
   have hl:L=160:=by
    rw [hL]
    repeat' split
    all_goals omega
   have hh:H=191:=by
    rw [hH]
    repeat' split
    all_goals omega
   rw [hn,hl,hh];exact ⟨_,ax,rfl⟩
  have Tz:¬ (c:Int)=224:=sU g;refine br ?_ ?_<;>intro g
  ·have g:(c:Int)=237:=sU g
   have hn:N=2:=by
    rw [hN]
    repeat' split
    all_goals omega
   have hl:L=128:=by
    rw [hL]
    repeat' split
    all_goals omega
   have hh:H=159:=by
    rw [hH]
    repeat' split
    all_goals omega
   rw [hn,hl,hh];exact ⟨_,ax,rfl⟩
  have TA:¬ (c:Int)=237:=sU g;refine br ?_ ?_<;>intro g
  ·have g:(c:Int)=240:=sU g
   have hn:N=2:=by
    rw [hN]
    repeat' split
    all_goals omega
   have hl:L=144:=by
    rw [hL]
    repeat' split
    all_goals omega
   have hh:H=191:=by
    rw [hH]
    repeat' split
    all_goals omega
   rw [hn,hl,hh];exact ⟨_,ax,rfl⟩
  have TB:¬ (c:Int)=240:=sU g;refine br ?_ ?_<;>intro g
  ·have g:(c:Int)=244:=sU g
   have hn:N=2:=by
    rw [hN]
    repeat' split
    all_goals omega
   have hl:L=128:=by
    rw [hL]
    repeat' split
    all_goals omega
   have hh:H=143:=by
    rw [hH]
    repeat' split
    all_goals omega
   rw [hn,hl,hh];exact ⟨_,ax,rfl⟩
  have TC:¬ (c:Int)=244:=sU g
  have hn:N=2:=by
   rw [hN]
   repeat' split
   all_goals omega
  have hl:L=128:=by
   rw [hL]
   repeat' split
   all_goals omega
  have hh:H=191:=by
   rw [hH]
   repeat' split
   all_goals omega
  rw [hn,hl,hh];exact ⟨_,ax,rfl⟩
 have k194:¬ (194<=(c:Int)/\(c:Int)<=223):=by simpa [aC] using k
 refine br ?_ ?_<;>intro k
 ·have k:224<=(c:Int)/\(c:Int)<=239:=by simpa [aC] using k
  refine br ?_ ?_<;>intro g
  ·have g:(c:Int)=224:=sU g
   have hn:N=3:=by
    rw [hN]
    repeat' split
    all_goals omega
   have hl:L=160:=by
    rw [hL]
    repeat' split
    all_goals omega
   have hh:H=191:=by
    rw [hH]
    repeat' split
    all_goals omega
   rw [hn,hl,hh];exact ⟨_,ax,rfl⟩
  have Tz:¬ (c:Int)=224:=sU g;refine br ?_ ?_<;>intro g
  ·have g:(c:Int)=237:=sU g
   have hn:N=3:=by
    rw [hN]
    repeat' split
    all_goals omega
   have hl:L=128:=by
    rw [hL]
    repeat' split
    all_goals omega
   have hh:H=159:=by
    rw [hH]
    repeat' split
    all_goals omega
   rw [hn,hl,hh];exact ⟨_,ax,rfl⟩
  have TA:¬ (c:Int)=237:=sU g;refine br ?_ ?_<;>intro g
  ·have g:(c:Int)=240:=sU g
   have hn:N=3:=by
    rw [hN]
    repeat' split
    all_goals omega
   have hl:L=144:=by
    rw [hL]
    repeat' split
    all_goals omega
   have hh:H=191:=by
    rw [hH]
    repeat' split
    all_goals omega
   rw [hn,hl,hh];exact ⟨_,ax,rfl⟩
  have TB:¬ (c:Int)=240:=sU g;refine br ?_ ?_<;>intro g
  ·have g:(c:Int)=244:=sU g
   have hn:N=3:=by
    rw [hN]
    repeat' split
    all_goals omega
   have hl:L=128:=by
    rw [hL]
    repeat' split
    all_goals omega
   have hh:H=143:=by
    rw [hH]
    repeat' split
    all_goals omega
   rw [hn,hl,hh];exact ⟨_,ax,rfl⟩
  have TC:¬ (c:Int)=244:=sU g
  have hn:N=3:=by
   rw [hN]
   repeat' split
   all_goals omega
  have hl:L=128:=by
   rw [hL]
   repeat' split
   all_goals omega
  have hh:H=191:=by
   rw [hH]
   repeat' split
   all_goals omega
  rw [hn,hl,hh];exact ⟨_,ax,rfl⟩
 have k224:¬ (224<=(c:Int)/\(c:Int)<=239):=by simpa [aC] using k
 refine br ?_ ?_<;>intro k
 ·have k:240<=(c:Int)/\(c:Int)<=244:=by simpa [aC] using k
  refine br ?_ ?_<;>intro g
  ·have g:(c:Int)=224:=sU g
   have hn:N=4:=by
    rw [hN]
    repeat' split
    all_goals omega
   have hl:L=160:=by
    rw [hL]
    repeat' split
    all_goals omega
   have hh:H=191:=by
    rw [hH]
    repeat' split
    all_goals omega
   rw [hn,hl,hh];exact ⟨_,ax,rfl⟩
  have Tz:¬ (c:Int)=224:=sU g;refine br ?_ ?_<;>intro g
  ·have g:(c:Int)=237:=sU g
   have hn:N=4:=by
    rw [hN]
    repeat' split
    all_goals omega
   have hl:L=128:=by
    rw [hL]
    repeat' split
    all_goals omega
   have hh:H=159:=by
    rw [hH]
    repeat' split
    all_goals omega
   rw [hn,hl,hh];exact ⟨_,ax,rfl⟩
  have TA:¬ (c:Int)=237:=sU g;refine br ?_ ?_<;>intro g
  ·have g:(c:Int)=240:=sU g
   have hn:N=4:=by
    rw [hN]
    repeat' split
    all_goals omega
   have hl:L=144:=by
    rw [hL]
    repeat' split
    all_goals omega
   have hh:H=191:=by
    rw [hH]
    repeat' split
    all_goals omega
   rw [hn,hl,hh];exact ⟨_,ax,rfl⟩
  have TB:¬ (c:Int)=240:=sU g;refine br ?_ ?_<;>intro g
  ·have g:(c:Int)=244:=sU g
   have hn:N=4:=by
    rw [hN]
    repeat' split
    all_goals omega
   have hl:L=128:=by
    rw [hL]
    repeat' split
    all_goals omega
   have hh:H=143:=by
    rw [hH]
    repeat' split
    all_goals omega
   rw [hn,hl,hh];exact ⟨_,ax,rfl⟩
  have TC:¬ (c:Int)=244:=sU g
  have hn:N=4:=by
   rw [hN]
   repeat' split
   all_goals omega
  have hl:L=128:=by
   rw [hL]
   repeat' split
   all_goals omega
  have hh:H=191:=by
   rw [hH]
   repeat' split
   all_goals omega
  rw [hn,hl,hh];exact ⟨_,ax,rfl⟩
 have k240:¬ (240<=(c:Int)/\(c:Int)<=244):=by simpa [aC] using k
 refine br ?_ ?_<;>intro g
 ·have g:(c:Int)=224:=sU g
  have hn:N=0:=by
   rw [hN]
   repeat' split
   all_goals omega
  have hl:L=160:=by
   rw [hL]
   repeat' split
   all_goals omega
  have hh:H=191:=by
   rw [hH]
   repeat' split
   all_goals omega
  rw [hn,hl,hh];exact ⟨_,ax,rfl⟩
 have Tz:¬ (c:Int)=224:=sU g;refine br ?_ ?_<;>intro g
 ·have g:(c:Int)=237:=sU g
  have hn:N=0:=by
   rw [hN]
   repeat' split
   all_goals omega
  have hl:L=128:=by
   rw [hL]
   repeat' split
   all_goals omega
  have hh:H=159:=by
   rw [hH]
   repeat' split
   all_goals omega
  rw [hn,hl,hh];exact ⟨_,ax,rfl⟩
 have TA:¬ (c:Int)=237:=sU g;refine br ?_ ?_<;>intro g
 ·have g:(c:Int)=240:=sU g
  have hn:N=0:=by
   rw [hN]
   repeat' split
   all_goals omega
  have hl:L=144:=by
   rw [hL]
   repeat' split
   all_goals omega
  have hh:H=191:=by
   rw [hH]
   repeat' split
   all_goals omega
  rw [hn,hl,hh];exact ⟨_,ax,rfl⟩
 have TB:¬ (c:Int)=240:=sU g;refine br ?_ ?_<;>intro g
 ·have g:(c:Int)=244:=sU g
  have hn:N=0:=by
   rw [hN]
   repeat' split
   all_goals omega
  have hl:L=128:=by
   rw [hL]
   repeat' split
   all_goals omega
  have hh:H=143:=by
   rw [hH]
   repeat' split
   all_goals omega
  rw [hn,hl,hh];exact ⟨_,ax,rfl⟩
 have TC:¬ (c:Int)=244:=sU g
 have hn:N=0:=by
  rw [hN]
  repeat' split
  all_goals omega
 have hl:L=128:=by
  rw [hL]
  repeat' split
  all_goals omega
 have hh:H=191:=by
  rw [hH]
  repeat' split
  all_goals omega
 rw [hn,hl,hh];exact ⟨_,ax,rfl⟩
def recV:List UInt8->Int
 | [a]=>a.toNat
 | [a,b]=>(a.toNat - 192) * 64 + (b.toNat - 128)
 | [a,b,c]=>(a.toNat - 224) * 4096 + (b.toNat - 128) * 64 + (c.toNat - 128)
 | [a,b,c,d]=>(a.toNat - 240) * 262144 + (b.toNat - 128) * 4096 + (c.toNat - 128) * 64 + (d.toNat - 128)
 | _=>0
def TD:List UInt8->Bool
 | [a]=>decide (a.toNat < 128)
 | [a,b]=>decide (192<=a.toNat/\a.toNat < 224/\128<=b.toNat/\b.toNat < 192)
 | [a,b,c]=>decide (224<=a.toNat/\a.toNat < 240/\128<=b.toNat/\b.toNat < 192/\128<=c.toNat/\c.toNat < 192)
 | [a,b,c,d]=>decide (240<=a.toNat/\a.toNat < 248/\128<=b.toNat/\b.toNat < 192/\128<=c.toNat/\c.toNat < 192/\128<=d.toNat/\d.toNat < 192)
 | _=>false
theorem EW {n:Int} (h1 : -2147483648<=n) (h2:n<=2147483647):IntKind.i32.wrap n=n:=by
 simp [IntKind.wrap,IntKind.min,IntKind.max,IntKind.signed,IntKind.bits];omega
theorem Pw {x:Nat} (h:x < 4294967296):(BitVec.ofInt 32 (x:Int)).toNat=x:=by
 rw [BitVec.toNat_ofInt];omega
theorem Px {x m:Nat} (k:Nat) (hk:m=2 ^ k - 1) (hm:m < 256) (h:x < 256):IntKind.i32.wrap ((BitVec.ofInt IntKind.i32.bits (IntKind.i32.wrap (x:Int)) &&& BitVec.ofInt IntKind.i32.bits (m:Int)).toNat:Nat)=((x % 2 ^ k:Nat):Int):=by
 rw [EW (n:=(x:Int)) (by omega) (by omega)];show IntKind.i32.wrap ((BitVec.ofInt 32 (x:Int) &&& BitVec.ofInt 32 (m:Int)).toNat:Nat)=_;rw [BitVec.toNat_and,Pw (by omega),Pw (by omega),hk,Nat.and_two_pow_sub_one_eq_mod];have:=Nat.mod_le x (2 ^ k);exact EW (by omega) (by omega)
theorem Ar {x:Nat} (hx:x < 256):IntKind.i32.wrap (IntKind.u8.wrap ((BitVec.ofInt IntKind.u8.bits (x:Int) &&& BitVec.ofInt IntKind.u8.bits 63).toNat:Nat))=((x % 64:Nat):Int):=by
 show IntKind.i32.wrap (IntKind.u8.wrap ((BitVec.ofInt 8 (x:Int) &&& BitVec.ofInt 8 63).toNat:Nat))=_;have e:(BitVec.ofInt 8 (x:Int)).toNat=x:=by rw [BitVec.toNat_ofInt];omega
 rw [BitVec.toNat_and,e,show (BitVec.ofInt 8 63).toNat=2 ^ 6 - 1 from rfl,Nat.and_two_pow_sub_one_eq_mod];rw [IntKind.wrap_u8'];rw [EW (by omega) (by omega)];omega
theorem L4 {x y:Nat} (h:x < 1000000) (hy:y < 64):IntKind.i32.wrap ((BitVec.ofInt IntKind.i32.bits (IntKind.i32.wrap ((x:Int) * 2 ^ min (Int.toNat 6) IntKind.i32.bits)) ||| BitVec.ofInt IntKind.i32.bits (y:Int)).toNat:Nat)=((x * 64 + y:Nat):Int):=by
 show IntKind.i32.wrap ((BitVec.ofInt 32 (IntKind.i32.wrap ((x:Int) * 64)) ||| BitVec.ofInt 32 (y:Int)).toNat:Nat)=_;rw [EW (n:=(x:Int) * 64) (by omega) (by omega),show (x:Int) * 64=((x * 64:Nat):Int) by omega,BitVec.toNat_or,Pw (by omega),Pw (by omega)];have:=Nat.shiftLeft_add_eq_or_of_lt (i:=6) (b:=y) hy x;rw [Nat.shiftLeft_eq] at this
 grind [EW]
theorem xn {s:ByteArray} {l:List UInt8} (hl:tx s=l) {z:Int} (k:Nat) (hz:z.toNat=k):aA s z.toNat=(l.getD k 0).toNat:=by
 rw [hz,<- hl];all_goals rfl
theorem HO (s:ByteArray) (h:1<=s.size/\s.size<=4):Ev prog 330 [.v (.string s)] [] [] (fun r _ _=>∃ z:Int,r = .v (.int .i32 z)/\(TD (tx s)=true->z=recV (tx s))):=by
 have nE:=bH s;refine eG 57 [.tmp 2] func330 rfl ntmps330 rfl fun _ _ _ _=>?_;refine br ?_ ?_<;>intro c1
 ·refine ⟨⟨by omega,by omega⟩,?_⟩;have c1:s.size=1:=by have:=of_decide_eq_true c1;omega
  obtain ⟨a,hl⟩:∃ a,tx s=[a]:=by
   rw [c1] at nE
   match tx s,nE with
   | [a],_=>exact ⟨a,rfl⟩
  refine ⟨_,rfl,fun _=>?_⟩;have ha:=a.toNat_lt;rw [xn hl 0 rfl,hl];exact EW (by show _<=(a.toNat:Int);omega) (by show (a.toNat:Int)<=_;omega)
 ·refine dI ?_;refine ⟨⟨by omega,by omega⟩,?_⟩;have hw7:IntKind.i64.wrap (7 - (s.size:Int))=7 - s.size:=wrap64 (by omega) (by omega);have lL:IntKind.i64.wrap (1 + 1)=2:=rfl;have DA:IntKind.i64.wrap (IntKind.i64.wrap (1 + 1) + 1)=3:=rfl
  have c1:¬ s.size=1:=by
   have:=of_decide_eq_false c1;omega
  refine ⟨by rw [hw7];omega,?_⟩;refine br ?_ ?_<;>intro c4
  ·have c4:s.size=4:=by have:=of_decide_eq_true c4;omega
   refine ⟨by omega,?_⟩;refine ⟨⟨by first | omega | (rw [lL];omega),by first | omega | (rw [lL];omega)⟩,?_⟩;refine ⟨by omega,?_⟩;refine ⟨⟨by first | omega | (rw [lL];omega),by first | omega | (rw [lL];omega)⟩,?_⟩;refine ⟨by omega,?_⟩;refine ⟨⟨by first | omega | (rw [DA];omega),by first | omega | (rw [DA];omega)⟩,?_⟩
   obtain ⟨a,b,c,d,hl⟩:∃ a b c d,tx s=[a,b,c,d]:=by
    rw [c4] at nE
    match tx s,nE with
    | [a,b,c,d],_=>exact ⟨a,b,c,d,rfl⟩
   refine ⟨_,rfl,fun hi=>?_⟩;have ha:=a.toNat_lt;have hb:=b.toNat_lt;have hc:=c.toNat_lt;have hd:=d.toNat_lt;have hm:IntKind.i32.wrap (IntKind.i32.wrap (1 * 2 ^ min (IntKind.i64.wrap (7 - (s.size:Int))).toNat IntKind.i32.bits) - 1)=((7:Nat):Int):=by rw [c4];all_goals rfl
   rw [hm,xn hl 0 rfl,xn hl 1 rfl,xn hl 2 rfl,xn hl 3 rfl];simp only [List.getD_cons_zero,List.getD_cons_succ];rw [Px 3 rfl (by omega) ha,Ar hb,L4 (by omega) (by omega),Ar hc,L4 (by omega) (by omega),Ar hd,L4 (by omega) (by omega)];rw [hl] at hi ⊢;rw [TD,decide_eq_true_iff] at hi;simp only [recV];omega
  have c4:¬ s.size=4:=by have:=of_decide_eq_false c4;omega
  refine br ?_ ?_<;>intro c3
  ·have c3:s.size=3:=by have:=of_decide_eq_true c3;omega
   refine ⟨by omega,?_⟩;refine ⟨⟨by first | omega | (rw [lL];omega),by first | omega | (rw [lL];omega)⟩,?_⟩;refine ⟨by omega,?_⟩;refine ⟨⟨by first | omega | (rw [lL];omega),by first | omega | (rw [lL];omega)⟩,?_⟩
   obtain ⟨a,b,c,hl⟩:∃ a b c,tx s=[a,b,c]:=by
    rw [c3] at nE
    match tx s,nE with
    | [a,b,c],_=>exact ⟨a,b,c,rfl⟩
   refine ⟨_,rfl,fun hi=>?_⟩;have ha:=a.toNat_lt;have hb:=b.toNat_lt;have hc:=c.toNat_lt;have hm:IntKind.i32.wrap (IntKind.i32.wrap (1 * 2 ^ min (IntKind.i64.wrap (7 - (s.size:Int))).toNat IntKind.i32.bits) - 1)=((15:Nat):Int):=by rw [c3];all_goals rfl
   rw [hm,xn hl 0 rfl,xn hl 1 rfl,xn hl 2 rfl];simp only [List.getD_cons_zero,List.getD_cons_succ];rw [Px 4 rfl (by omega) ha,Ar hb,L4 (by omega) (by omega),Ar hc,L4 (by omega) (by omega)];rw [hl] at hi ⊢;rw [TD,decide_eq_true_iff] at hi;simp only [recV];omega
  have c3:¬ s.size=3:=by have:=of_decide_eq_false c3;omega
  refine br ?_ ?_<;>intro c2
  ·have c2:s.size=2:=by have:=of_decide_eq_true c2;omega
   refine ⟨by omega,?_⟩;refine ⟨⟨by first | omega | (rw [lL];omega),by first | omega | (rw [lL];omega)⟩,?_⟩
   obtain ⟨a,b,hl⟩:∃ a b,tx s=[a,b]:=by
    rw [c2] at nE
    match tx s,nE with
    | [a,b],_=>exact ⟨a,b,rfl⟩
   refine ⟨_,rfl,fun hi=>?_⟩;have ha:=a.toNat_lt;have hb:=b.toNat_lt;have hm:IntKind.i32.wrap (IntKind.i32.wrap (1 * 2 ^ min (IntKind.i64.wrap (7 - (s.size:Int))).toNat IntKind.i32.bits) - 1)=((31:Nat):Int):=by rw [c2];all_goals rfl
   rw [hm,xn hl 0 rfl,xn hl 1 rfl];simp only [List.getD_cons_zero,List.getD_cons_succ];rw [Px 5 rfl (by omega) ha,Ar hb,L4 (by omega) (by omega)];rw [hl] at hi ⊢;rw [TD,decide_eq_true_iff] at hi;simp only [recV];omega
  ·exfalso;have:=of_decide_eq_false c2;omega
def As (c i b:Nat):Bool:=if i=0 then decide (lX c<=b) && decide (b<=lY c) else decide (128<=b) && decide (b<=191)
def allC (c:Nat) (r:List UInt8) (k:Nat):Bool:=(List.range k).all fun i=>match r[i]? with
 | some b=>As c i b.toNat
 | none=>false
theorem L5 (c:Nat) (r:List UInt8) (k:Nat):allC c r (k + 1)=(allC c r k && match r[k]? with | some b=>As c k b.toNat | none=>false):=by grind [allC]
theorem vz {c:Nat} {r:List UInt8} {k n:Nat} (h:k < n) (hk:(match r[k]? with | some b=>As c k b.toNat | none=>false)=false):allC c r n=false:=by grind [allC]
def okU:List UInt8->Bool
 | []=>false
 | c :: r=>decide (1<=cq c.toNat) && allC c.toNat r (cq c.toNat - 1)
def jK:List UInt8->Nat
 | []=>0
 | c :: r=>if okU (c :: r)=true then cq c.toNat else 1
theorem X5 {c:UInt8} {r:List UInt8} (h:okU (c :: r)=true):TD ((c :: r).take (cq c.toNat))=true:=by
 unfold okU at h;rw [bg,decide_eq_true_iff] at h;obtain ⟨h1,h2⟩:=h;have hb:∀ i,i < cq c.toNat - 1->∃ b:UInt8,r[i]? = some b/\128<=b.toNat/\b.toNat < 192:=fun i hi=>by grind [allC,As,lX,lY]
 have hn:(cq c.toNat=1/\c.toNat < 128)∨(cq c.toNat=2/\192<=c.toNat/\c.toNat < 224)∨(cq c.toNat=3/\224<=c.toNat/\c.toNat < 240)∨(cq c.toNat=4/\240<=c.toNat/\c.toNat < 248):=by grind [cq]
 rcases hn with ⟨hn,hc⟩ | ⟨hn,hc⟩ | ⟨hn,hc⟩ | ⟨hn,hc⟩<;>rw [hn] at hb ⊢
 ·simp [TD,hc]
 ·obtain ⟨b,h5,h6⟩:=hb 0 (by omega)
  match r,h5 with
  | x :: r,h5=>grind [TD]
 ·obtain ⟨b,h5,h6⟩:=hb 0 (by omega);obtain ⟨b',h7,h8⟩:=hb 1 (by omega)
  match r,h5,h7 with
  | x :: y :: r,h5,h7=>grind [TD]
 ·obtain ⟨b,h5,h6⟩:=hb 0 (by omega);obtain ⟨b',h7,h8⟩:=hb 1 (by omega);obtain ⟨b2,h9,u9⟩:=hb 2 (by omega)
  match r,h5,h7,h9 with
  | x :: y :: v :: r,h5,h7,h9=>simp_all [TD]
set_option maxHeartbeats 4000000 in
theorem s6 (s:ByteArray) (dA:Nat) (hs:s.size<=1099511627776) (c:UInt8) (r:List UInt8) (h:(tx s).drop dA=c :: r) :
  Ev prog 288 [.v (.string s),.v (.int .i64 dA)] [] [] (fun d _ _=>∃ (z:Int) (n:Nat),d = .bK [.v (.int .i32 z),.v (.int .i64 n),.v (.bool (okU (c :: r)))]/\(okU (c :: r)=true->n=cq c.toNat/\z=recV ((c :: r).take n))/\1<=n):=by
 have hlen:dA < s.size:=by
  have:=congrArg List.length h;rw [List.length_drop,bH] at this;simp at this;omega
 have hB:tx (s.extract (dA:Int).toNat (s.size:Int).toNat)=c :: r:=by
  rw [<- h];simp [tx,lD];exact List.take_of_length_le (by rw [List.length_drop];have:=bH s;unfold tx at this;omega)
 have di:(s.extract (dA:Int).toNat (s.size:Int).toNat).size=r.length + 1:=by rw [<- bH,hB];all_goals rfl
 have NK:∀ (k:Nat) b,r[k]? = some b->aA (s.extract (dA:Int).toNat (s.size:Int).toNat) (k + 1)=b.toNat:=fun k b hk=>by
  show ((tx _).getD (k + 1) 0).toNat=_;rw [hB];simp [nz,hk]
 have hld:bA prog 329 [.v (.int .u8 (aA (s.extract (dA:Int).toNat (s.size:Int).toNat) 0:Nat))] (.bK [.v (.int .i64 (cq c.toNat:Nat)),.v (.int .u8 (lX c.toNat:Nat)),.v (.int .u8 (lY c.toNat:Nat))]):=by
  have:aA (s.extract (dA:Int).toNat (s.size:Int).toNat) 0=c.toNat:=by
   show ((tx _).getD 0 0).toNat=_;rw [hB];rfl
  rw [this];exact L0 c.toNat
 have hv:=fun (k:Nat) (h1:1<=k) (h2:k<=4) (h3:k<=r.length + 1)=>HO ((s.extract (dA:Int).toNat (s.size:Int).toNat).extract 0 k) (by
  have:((s.extract (dA:Int).toNat (s.size:Int).toNat).extract 0 k).size=k:=by
   rw [ByteArray.size_extract,di];omega
  omega)
 have hu:okU (c :: r)=(decide (1<=cq c.toNat) && allC c.toNat r (cq c.toNat - 1)):=rfl;have JV:=X5 (c:=c) (r:=r);generalize okU (c :: r)=U at hu JV ⊢
 have hn4:cq c.toNat<=4:=by
  unfold cq
  repeat' split
  all_goals omega
 refine eG 60 [.tmp 4,.tmp 5,.tmp 6] func288 rfl ntmps288 rfl fun _ _ _ _=>?_;refine br (fun c=>absurd c (by simp [aD];omega)) (fun _=>?_);refine ⟨⟨by omega,by omega,by omega⟩,?_⟩;refine ⟨⟨by omega,by rw [di];omega⟩,?_⟩;refine cP abv hld ?_;refine br ?_ ?_<;>intro g
 ·have g:cq c.toNat=0:=by have:=of_decide_eq_true g;omega
  have jh:U=false:=by rw [hu,g];all_goals rfl
  subst jh;exact ⟨.bK [.v (.int .i32 0),.v (.int .i64 (1:Nat)),.v (.bool false)],ax,0,1,rfl,fun h=>(by cases h),by omega⟩
 have g:1<=cq c.toNat:=by have:=of_decide_eq_false g;omega
 refine cH (fun j st=>∃ i:Nat,st=⟨[(0,⟨[],.v (.string (s.extract (dA:Int).toNat (s.size:Int).toNat))⟩),aJ 7 (cq c.toNat:Nat),(8,⟨[],.v (.int .u8 ((if i=0 then lX c.toNat else 128:Nat):Int))⟩),(9,⟨[],.v (.int .u8 ((if i=0 then lY c.toNat else 191:Nat):Int))⟩),aJ 10 ((i + 1:Nat):Int)],[],[]⟩/\i + 1<=cq c.toNat/\allC c.toNat r i=true/\j=cq c.toNat - (i + 1)) (cq c.toNat - (0 + 1))
  ⟨[(0,⟨[],.v (.string (s.extract (dA:Int).toNat (s.size:Int).toNat))⟩),aJ 7 (cq c.toNat:Nat),(8,⟨[],.v (.int .u8 ((if 0=0 then lX c.toNat else 128:Nat):Int))⟩),(9,⟨[],.v (.int .u8 ((if 0=0 then lY c.toNat else 191:Nat):Int))⟩),aJ 10 ((0 + 1:Nat):Int)],[],[]⟩ (dg vb) ⟨0,rfl,by omega,rfl,by omega⟩ ?_
 rintro j st ⟨i,rfl,hi,ha,rfl⟩;refine br ?_ ?_<;>intro hL
 ·have aE:i + 1 < cq c.toNat:=by have:=of_decide_eq_true hL;omega
  refine br ?_ ?_<;>intro k
  ·have k:i < r.length:=by
    have:=k;have nJ:(s.extract dA s.size).size=r.length + 1:=di;simp [nJ] at this;omega
   obtain ⟨b,hb⟩:∃ b,r[i]? = some b:=⟨_,gE k⟩;have SB:=NK i b hb;refine ⟨⟨by omega,by rw [di];omega⟩,?_⟩
   have hcb:As c.toNat i b.toNat=(decide ((if i=0 then lX c.toNat else 128)<=b.toNat) && decide (b.toNat<=(if i=0 then lY c.toNat else 191))):=by
    unfold As;split<;>rfl
   have has:=L5 c.toNat r i;rw [ha,hb,Bool.true_and] at has;simp only [hcb] at has;have e:aA (s.extract (dA:Int).toNat (s.size:Int).toNat) (((i + 1:Nat):Int)).toNat=b.toNat:=SB;refine br ?_ ?_<;>intro k2
   ·have k2:(if i=0 then lX c.toNat else 128)<=b.toNat:=by
     have k3:=k2;rw [e] at k3;generalize (if i=0 then lX c.toNat else 128)=lo at k3 ⊢;simp [aD] at k3;omega
    refine ⟨⟨by omega,by rw [di];omega⟩,?_⟩;refine br ?_ ?_<;>intro k4
    ·have k4:¬ b.toNat<=(if i=0 then lY c.toNat else 191):=by
      have k3:=k4;rw [e] at k3;generalize (if i=0 then lY c.toNat else 191)=hi at k3 ⊢;simp [aD] at k3;omega
     have hf:=vz (c:=c.toNat) (r:=r) (k:=i) (n:=cq c.toNat - 1) (by omega) (by rw [hb];simp only [hcb];simp [k4]);rw [hf,Bool.and_false] at hu;subst hu;exact ⟨.bK [.v (.int .i32 0),.v (.int .i64 ((i + 1:Nat):Int)),.v (.bool false)],ax,0,i + 1,rfl,fun h=>(by cases h),by omega⟩
    ·have k4:b.toNat<=(if i=0 then lY c.toNat else 191):=by
      have k3:=k4;rw [e] at k3;generalize (if i=0 then lY c.toNat else 191)=hi at k3 ⊢;simp [aD] at k3;omega
     rw [decide_eq_true k2,decide_eq_true k4] at has;exact rE ⟨_,by omega,i + 1,rfl,by omega,has,rfl⟩ (dg (gv (cR aE (by omega))))
   ·have k2:¬ (if i=0 then lX c.toNat else 128)<=b.toNat:=by
     have k3:=k2;rw [e] at k3;generalize (if i=0 then lX c.toNat else 128)=lo at k3 ⊢;simp [aD] at k3;omega
    have hf:=vz (c:=c.toNat) (r:=r) (k:=i) (n:=cq c.toNat - 1) (by omega) (by rw [hb];simp only [hcb];simp [k2]);rw [hf,Bool.and_false] at hu;subst hu;exact ⟨.bK [.v (.int .i32 0),.v (.int .i64 ((i + 1:Nat):Int)),.v (.bool false)],ax,0,i + 1,rfl,fun h=>(by cases h),by omega⟩
  ·have k:r.length<=i:=by
    have:=k;have nJ:(s.extract dA s.size).size=r.length + 1:=di;simp [nJ] at this;omega
   have hf:=vz (c:=c.toNat) (r:=r) (k:=i) (n:=cq c.toNat - 1) (by omega) (by rw [zK k]);rw [hf,Bool.and_false] at hu;subst hu;exact ⟨.bK [.v (.int .i32 0),.v (.int .i64 ((i + 1:Nat):Int)),.v (.bool false)],ax,0,i + 1,rfl,fun h=>(by cases h),by omega⟩
 ·have hge:i + 1=cq c.toNat:=by have:=of_decide_eq_false hL;omega
  have hu1:U=true:=by
   rw [hu,<- hge];simp [ha]
  subst hu1
  have gY:cq c.toNat<=r.length + 1:=by
   rcases Nat.lt_or_ge r.length (cq c.toNat - 1) with h | h
   ·have hf:=vz (c:=c.toNat) (r:=r) (k:=r.length) (n:=cq c.toNat - 1) h (by rw [zK (bn _)]);rw [<- hge,Nat.add_sub_cancel,ha] at hf;cases hf
   ·omega
  have hv:=hv (cq c.toNat) (by omega) hn4 gY;refine ⟨⟨by omega,by omega,by rw [di];omega⟩,?_⟩;refine eo abw rfl hv ax (fun q hq=>?_);obtain ⟨z,rfl,hz⟩:=hq;rw [show tx ((s.extract (dA:Int).toNat (s.size:Int).toNat).extract 0 (cq c.toNat))=(c :: r).take (cq c.toNat) from by rw [<- hB,(by simp [tx]:∀ (B:ByteArray) k,tx (B.extract 0 k)=(tx B).take k)]] at hz;exact ⟨.bK [.v (.int .i32 z),.v (.int .i64 (cq c.toNat:Nat)),.v (.bool true)],ax,z,cq c.toNat,rfl,fun _=>⟨rfl,hz (JV rfl)⟩,by omega⟩
def Au (z:Int):Bool:=decide (0<=z) && decide (z<=1114111) && (decide (z < 55296) || decide (57343 < z))
def L6 (n:Nat):List UInt8:=
 if n < 128 then [UInt8.ofNat n] else if n < 2048 then [UInt8.ofNat (192 + n / 64),UInt8.ofNat (128 + n % 64)]
 else if n < 65536 then [UInt8.ofNat (224 + n / 4096),UInt8.ofNat (128 + n / 64 % 64),UInt8.ofNat (128 + n % 64)]
 else [UInt8.ofNat (240 + n / 262144),UInt8.ofNat (128 + n / 4096 % 64),UInt8.ofNat (128 + n / 64 % 64),UInt8.ofNat (128 + n % 64)]
def EY (z:Int):List UInt8:=if Au z=true then L6 z.toNat else []
theorem b8 {x:Int} {k:Nat} (hx:x=k) (hk:k < 256):IntKind.u8.wrap x=((UInt8.ofNat k).toNat:Int):=by
 rw [hx,UInt8.toNat_ofNat',IntKind.wrap_u8'];omega
theorem TF {l:List UInt8} (h:okU l=true):∃ c r,l=c :: r/\1<=cq c.toNat/\cq c.toNat<=l.length/\jK l=cq c.toNat:=by
 cases l with
 | nil=>cases h
 | cons c r=>
  refine ⟨c,r,rfl,?_,?_,?_⟩
  ·grind [okU]
  ·have h0:=h;unfold okU at h;rw [bg] at h;rcases Nat.lt_or_ge r.length (cq c.toNat - 1) with g | g
   ·have h2:=h.2;unfold allC at h2;rw [List.all_eq_true] at h2;have:=h2 r.length (List.mem_range.2 g)
    grind
   ·rw [List.length_cons];omega
  ·show (if _ then _ else _)=_;rw [ah h]
theorem kU {l:List UInt8} (h:l ≠ []):1<=jK l/\jK l<=l.length:=by
 cases l with
 | nil=>exact absurd rfl h
 | cons c r=>
  show 1<=(if _ then _ else _)/\(if _ then _ else _)<=_
  grind [TF]
theorem J1 (s:ByteArray) (n:Nat):tx (s.extract 0 n)=(tx s).take n:=by simp [tx]
def spB:List DV->Bool
 | [.v (.int .i32 _),.v (.int .i32 _)]=>true
 | _=>false
theorem Py {cs:List DV} (h:spB cs=true):∃ a b:Int,cs=[.v (.int .i32 a),.v (.int .i32 b)]:=by
 unfold spB at h;split at h
 ·exact ⟨_,_,rfl⟩
 ·cases h
theorem ab6 {es:List (List DV)} (h:es.all spB=true) {i:Nat} (hi:i < es.length):∃ a b:Int,es[i]? = some [.v (.int .i32 a),.v (.int .i32 b)]:=by
 rw [List.all_eq_true] at h;obtain ⟨a,b,Af⟩:=Py (h es[i] (List.getElem_mem hi))
 grind
def vj (z:Int):List DV->Bool
 | [.v (.int .i32 a),.v (.int .i32 b)]=>decide (a<=z) && decide (z<=b)
 | _=>false
def srtB:Int->List (List DV)->Bool
 | _,[]=>true
 | m,[.v (.int .i32 a),.v (.int .i32 b)] :: r=>decide (m < a) && decide (a<=b) && srtB b r
 | _,_=>false
theorem xq {m:Int} {x:List DV} {r:List (List DV)} (h:srtB m (x :: r)=true):∃ a b:Int,x=[.v (.int .i32 a),.v (.int .i32 b)]/\m < a/\a<=b/\srtB b r=true:=by
 unfold srtB at h
 grind
theorem vA:∀ {es:List (List DV)} {m:Int} (_:srtB m es=true) {i:Nat} {a b:Int} (_:es[i]? = some [.v (.int .i32 a),.v (.int .i32 b)]),m < a/\a<=b/\srtB b (es.drop (i + 1))=true
 | [],_,_,i,_,_,hi=>by simp at hi
 | x :: r,m,h,i,a,b,hi=>by
  obtain ⟨a0,b0,rfl,h1,h2,h3⟩:=xq h
  cases i with
  | zero=>grind
  | succ i=>
   obtain ⟨g1,g2,g3⟩:=vA h3 (i:=i) (sU hi);exact ⟨by omega,g2,g3⟩
theorem Pz {z:Int}:∀ {es:List (List DV)} {m:Int} (_:srtB m es=true) (_:z<=m),es.any (vj z)=false
 | [],_,_,_=>rfl
 | x :: r,m,h,hz=>by
  obtain ⟨a0,b0,rfl,h1,h2,h3⟩:=xq h;rw [List.any_cons,Pz h3 (by omega),Bool.or_false]
  grind [vj]
theorem X6 {z m:Int} {es:List (List DV)} (h:srtB m es=true) {i:Nat} {a b:Int} (hi:es[i]? = some [.v (.int .i32 a),.v (.int .i32 b)]) (hz:z < a):(es.drop i).any (vj z)=false:=by
 obtain ⟨g1,g2,g3⟩:=vA h hi;rw [drop_cons hi,List.any_cons,Pz g3 (by omega),Bool.or_false]
 grind [vj]
theorem PA {z:Int}:∀ {es:List (List DV)} {m:Int} (_:srtB m es=true) {i:Nat} {a b:Int} (_:es[i]? = some [.v (.int .i32 a),.v (.int .i32 b)]) (_:b < z),(es.take (i + 1)).any (vj z)=false
 | [],_,_,i,_,_,hi,_=>by simp at hi
 | x :: r,m,h,i,a,b,hi,hz=>by
  obtain ⟨a0,b0,rfl,h1,h2,h3⟩:=xq h
  cases i with
  | zero=>grind [vj]
  | succ i=>
   have hi:r[i]? = some [.v (.int .i32 a),.v (.int .i32 b)]:=sU hi;have g1:=(vA h3 hi).1;have g2:=(vA h3 hi).2.1;rw [List.take_succ_cons,List.any_cons,PA h3 hi hz,Bool.or_false]
   grind [vj]
theorem TG {es:List (List DV)} {z a b:Int} {i:Nat} (hi:es[i]? = some [.v (.int .i32 a),.v (.int .i32 b)]) (h1:a<=z) (h2:z<=b):es.any (vj z)=true:=
 List.any_eq_true.2 ⟨_,mG hi,by simp only [vj,bg,decide_eq_true_iff];omega⟩
abbrev X7 (es:List (List DV)) (z:Int) (lo hi:Nat):St:=⟨[dH 0 2 es,(1,⟨[],.v (.int .i32 z)⟩),aJ 5 lo,aJ 6 hi],[],[]⟩
theorem TH (es:List (List DV)) (z:Int) (hl:es.length<=1000) (hs:es.all spB=true):Ev prog 347 [.sl 2 es none,.v (.int .i32 z)] [] [] (fun d _ _=>∃ b:Bool,d = .v (.bool b)/\∀ m,srtB m es=true->b=es.any (vj z)):=by
 refine eG 38 [.tmp 4] func347 rfl ntmps347 rfl fun _ _ _ _=>?_;refine lI (fun j st=>∃ lo hi:Nat,st=X7 es z lo hi/\lo<=hi/\hi<=es.length/\(∀ m,srtB m es=true->(es.take lo).any (vj z)=false/\(es.drop hi).any (vj z)=false)/\j=hi - lo) ⟨0,es.length,rfl,by omega,by omega,fun _ _=>⟨rfl,by rw [List.drop_length];rfl⟩,rfl⟩ (dg vb) ?_;rintro j st ⟨lo,hi,rfl,h1,h2,hiv,rfl⟩;refine br ?_ ?_<;>intro hL
 rotate_left
 ·have hge:lo=hi:=by have:=of_decide_eq_false hL;omega
  refine ⟨_,rfl,fun m hm=>?_⟩;obtain ⟨g1,g2⟩:=hiv m hm;rw [<- hge] at g2;rw [<- List.take_append_drop lo es,List.any_append,g1,g2];all_goals rfl
 have aE:lo < hi:=by have:=of_decide_eq_true hL;omega
 have hm:IntKind.i64.wrap ((lo:Int) + IntKind.i64.wrap ((IntKind.i64.wrap ((hi:Int) - lo)).tdiv 2))=((lo + (hi - lo) / 2:Nat):Int):=by grind [wrap64]
 obtain ⟨a,b,Af⟩:=ab6 hs (i:=lo + (hi - lo) / 2) (by omega);refine ⟨⟨rfl,by decide⟩,?_⟩;refine ⟨_,⟨by rw [hm];omega,by rw [hm,lD];exact Af⟩,?_⟩;refine br ?_ ?_<;>intro c
 ·exact ⟨X7 es z lo (lo + (hi - lo) / 2),(dg (gv hm)),lo + (hi - lo) / 2 - lo,by omega,_,_,rfl,by omega,by omega,fun m hm=>⟨(hiv m hm).1,X6 hm Af (sU c)⟩,rfl⟩
 ·refine ⟨_,⟨by rw [hm];omega,by rw [hm,lD];exact Af⟩,?_⟩;have c0:=c;refine br ?_ ?_<;>intro c
  ·have DR:IntKind.i64.wrap (IntKind.i64.wrap ((lo:Int) + IntKind.i64.wrap ((IntKind.i64.wrap ((hi:Int) - lo)).tdiv 2)) + 1)=((lo + (hi - lo) / 2 + 1:Nat):Int):=by
    rw [hm,wrap64 (by omega) (by omega)];omega
   exact ⟨X7 es z (lo + (hi - lo) / 2 + 1) hi,(dg (gv DR)),hi - (lo + (hi - lo) / 2 + 1),by omega,_,_,rfl,by omega,by omega,fun m hm=>⟨PA hm Af (sU c),(hiv m hm).2⟩,rfl⟩
  ·exact ⟨_,rfl,fun _ _=>(TG Af (sU c0) (sU c)).symm⟩
end Go.Proofs.YtfdedoiiahbnnaaGreat
set_option maxRecDepth 100000
namespace Go.Proofs
open Go.Shelf
def Tryz.laysB_ren:Go.Shelf.Ren:=⟨fun | 240=>117 | 276=>203 | n=>n,fun | 9=>9 | 4=>4 | 0=>0 | 20=>20 | 72=>113 | 70=>110 | 37=>111 | 164=>287 | 5=>5 | n=>n,fun | n=>n⟩
theorem Tryz.laysB:Go.Proofs.Lays.n240 Tryz.prog Tryz.laysB_ren:={
 mixed:=by kernel_rfl
 f240:=Tryz.func117.trans (congrArg some (by kernel_rfl))
 f276:=Tryz.func203.trans (congrArg some (by kernel_rfl))
 t0:=Tryz.underlying0
 a0:=Tryz.isAgg0
 z0:=Tryz.sizeOf0
 v0:=Tryz.zeroValue0
 t4:=Tryz.underlying4
 a4:=Tryz.isAgg4
 z4:=Tryz.sizeOf4
 v4:=Tryz.zeroValue4
 t9:=Tryz.underlying9
 a9:=Tryz.isAgg9
 z9:=Tryz.sizeOf9
 v9:=Tryz.zeroValue9
 t20:=Tryz.underlying20
 a20:=Tryz.isAgg20
 z20:=Tryz.sizeOf20
 v20:=Tryz.zeroValue20
 t70:=Tryz.underlying110
 a70:=Tryz.isAgg110
 z70:=Tryz.sizeOf110
 v70:=Tryz.zeroValue110
 t72:=Tryz.underlying113
 a72:=Tryz.isAgg113
 z72:=Tryz.sizeOf113
 v72:=Tryz.zeroValue113
 t164:=Tryz.underlying287
 a164:=Tryz.isAgg287
 z164:=Tryz.sizeOf287
 v164:=Tryz.zeroValue287 }
theorem Tryz.laysBX:Builder.Extra Tryz.prog Tryz.laysB_ren:={
 sizeBuilder:=by kernel_rfl
 liesBuilder:=by kernel_rfl
 t5:=Tryz.underlying5
 a5:=Tryz.isAgg5
 z5:=Tryz.sizeOf5
 v5:=Tryz.zeroValue5
 infoByte:=by kernel_rfl
 cellsByte:=by kernel_rfl
 sizeByte:=by kernel_rfl
 neB5:=by decide }
end Go.Proofs
set_option maxRecDepth 100000
namespace Go.Proofs.YtfdedoiiahbnnaaGreat
open Go Go.RowKit Go.Lib Dv Go.Proofs.Tryz
theorem mV {P:Program} (w:World) (t u ty e:TypeId) (i:TypeInfo) (ht:P.underlying t=some (.slice e)) (hu:P.underlying u=some .string) (hi:P.info? e=some i) (hz:i.zero=some (.int .u8 0))
  (lF:i.size=1) (zh:i.bytes=1) (v:Value) (n:Nat) (xs:List Value) (dG:w.ownsRow 0 e 1 v n xs) (s:ByteArray) (Sr:n + s.size<=maxLen) (mF:n + s.size<=140737488355328) (hs:0 < s.size) :
  ∃ g cap w',(Builtin.append_ #[t,u] ty #[v,.string s]).run P w = .ok (.slice (some ⟨g,0,none⟩) (n + s.size) cap) w' /\ w'.ownsRow 0 e 1 (.slice (some ⟨g,0,none⟩) (n + s.size) cap) (n + s.size) (xs ++ strCells s)/\w.grownBy w' v.ownBlock /\
   ((v.ownBlock=some g)∨(w.heap.size<=g/\∀ k,k < w.heap.size->w'.heap[k]? = w.heap[k]?)):=by
 obtain ⟨v',w',hr,h2,h3,h4⟩:=Lib.run_append_own_string (P:=P) w 0 t u ty e i ht hu hi hz lF zh v n xs dG s Sr mF (Nat.zero_le _);have N5:n + s.size<=9223372036854775807:=by simp only [maxLen] at Sr;omega
 have wg:xs.length=n:=by simpa using dG.1
 rcases dG.2 with ⟨rfl,rfl⟩ | ⟨g,cap,cur,rfl,hbg,hg,zj,hcm,cx,htake⟩
 ·have j8:=run_append_nil_string (P:=P) w t u ty e i (.int .u8 0) ht hu hi hz s hs (by omega) (by rw [zh];omega);rw [j8] at hr;injection hr with e1 e2
  subst e1;simp only [Nat.zero_add] at *;exact ⟨_,_,w',by rw [j8,e2],h2,h3,.inr ⟨bn _,fun k hk=>by rw [<- e2];exact Below.heap_alloc w.drew _ k hk⟩⟩
 ·by_cases Jl:n + s.size<=cap
  ·have hcs':cur.size=cap:=sU cx;have j8:=Lib.run_append_room_string (P:=P) w t u ty e i ht hu hi lF g n cap cur hg s Jl (by omega);rw [j8] at hr;injection hr with e1 e2
   subst e1;exact ⟨_,_,w',by rw [j8,e2],h2,h3,.inl rfl⟩
  ·have holds:∀ j u,xs[j]? = some u->w.cell? ((⟨g,0,none⟩:Addr).add j)=some u:=dG.cells (g:=g) rfl;have j8:=Lib.run_append_grow_string (P:=P) w t u ty e i (.int .u8 0) ht hu hi hz ⟨g,0,none⟩ n cap xs (by rw [lF];simpa using wg) holds s (by omega) (by omega) (by rw [zh];exact growslice_fits (by omega) (by omega));rw [j8] at hr;injection hr with e1 e2
   subst e1;exact ⟨_,_,w',by rw [j8,e2],h2,h3,.inr ⟨bn _,fun k hk=>by rw [<- e2];exact Below.heap_alloc w.drew _ k hk⟩⟩
theorem EZ {w:World} {b:Nat} {o:Obj} (h:w.heap[b]? = some o):World.c8 w b o=w:=by
 obtain ⟨hb,hg⟩:=Array.getElem?_eq_some_iff.1 h;have e:w.heap.setIfInBounds b o=w.heap:=by grind
 show { w with heap:=w.heap.setIfInBounds b o }=w;rw [e]
abbrev s7 (w:World) (b:Nat) (v:Value):World:=World.c8 w b (.cells #[.pointer (some ⟨b,0,none⟩),v] 113 (0,0))
theorem PB (b:Nat) (p v:Value) (w:World) (hp:p = .pointer none∨p = .pointer (some ⟨b,0,none⟩)) (uv:w.heap[b]? = some (.cells #[p,v] 113 (0,0))) :
  Calls prog 117 #[.pointer (some ⟨b,0,none⟩)] w fun e w'=>e = .returned (.tuple #[])/\w'=s7 w b v:=by
 rcases hp with rfl | rfl
 ·refine (Any.Builder_copyCheck_fresh Tryz.laysB Tryz.laysBX.toX72 b w (by rw [Lib.cell_of_heap uv];rfl) (by simp [World.shape?,uv,Tryz.laysB_ren]) (by simp [World.frozen?,uv])).mono ?_;rintro e w' ⟨rfl,rfl⟩;exact ⟨rfl,by rw [j7 uv];rfl⟩
 ·refine (Any.Builder_copyCheck_used Tryz.laysB Tryz.laysBX.toX72 b w (by rw [Lib.cell_of_heap uv];rfl)).mono ?_;rintro e w' ⟨rfl,rfl⟩;exact ⟨rfl,(EZ uv).symm⟩
theorem qq {P:Program} {w:World} {ops:Array Oper} {rest:List Oper} {o:Oper} {a:Act} {Q:Exit->Act->World->Prop} (Vn:o.guard=none) (sl x:Operand) (t u:TypeId)
  (ho:o.op = .call { callee:=.builtin .append,args:=#[sl,x],argTypes:=#[t,u] })
  (e:TypeId) (i:TypeInfo) (ht:P.underlying t=some (.slice e)) (hu:P.underlying u=some .string) (hi:P.info? e=some i) (hz:i.zero=some (.int .u8 0))
  (lF:i.size=1) (zh:i.bytes=1)
  (v:Value) (n:Nat) (xs:List Value) (hs:a.eval sl=v) (dG:w.ownsRow 0 e 1 v n xs) (s:ByteArray) (hx:a.eval x = .string s)
  (Sr:n + s.size<=maxLen) (mF:n + s.size<=140737488355328) (nK:0 < s.size)
  (h:∀ g cap w',w'.ownsRow 0 e 1 (.slice (some ⟨g,0,none⟩) (n + s.size) cap) (n + s.size) (xs ++ strCells s)->w.grownBy w' v.ownBlock->((v.ownBlock=some g)∨(w.heap.size<=g/\∀ k,k < w.heap.size->w'.heap[k]? = w.heap[k]?)) ->
   wpList P ops Q rest (a.put o.dst (.slice (some ⟨g,0,none⟩) (n + s.size) cap)) w'):wpList P ops Q (o :: rest) a w:=by
 refine wpList_plain Vn fun K hK=>?_;obtain ⟨g,cap,w',hr,h2,h3,h4⟩:=mV (P:=P) w t u o.type e i ht hu hi hz lF zh v n xs dG s Sr mF nK;unfold Oper.wp execOp;simp only [ho,resolve,invoke,builtin,Sem.run_bind,Sem.run_pure,Result.andThen_ok,List.map_toArray,List.map_cons,List.map_nil,hs,hx,hr];exact hK _ _ (h g cap w' h2 h3 h4)
def PD (ret:Value) (w:World) (b:Nat) (v:Value) (n:Nat) (xs:List Value) (s:ByteArray) (e:Ending) (w':World):Prop:=
 e = .returned ret/\∃ g cap w2,w2.ownsRow 0 5 1 (.slice (some ⟨g,0,none⟩) (n + s.size) cap) (n + s.size) (xs ++ strCells s)/\(s7 w b v).grownBy w2 v.ownBlock /\
  ((v.ownBlock=some g)∨((s7 w b v).heap.size<=g/\∀ k,k < (s7 w b v).heap.size->w2.heap[k]? = (s7 w b v).heap[k]?)) /\
  w'=World.c8 w2 b (.cells #[.pointer (some ⟨b,0,none⟩),.slice (some ⟨g,0,none⟩) (n + s.size) cap] 113 (0,0))
theorem J2 {w:World} {b e n:Nat} {v:Value} {xs:List Value} {o:Obj} (h:w.ownsRow 0 e 1 v n xs) (bo:v.ownBlock≠some b):(World.c8 w b o).ownsRow 0 e 1 v n xs:=by
 refine ⟨h.1,?_⟩;rcases h.2 with h | ⟨g,cap,cur,rfl,h1,h2,h3⟩
 ·exact .inl h
 ·refine .inr ⟨g,cap,cur,rfl,h1,?_,h3⟩;rw [cS]
  ·exact h2
  ·rintro rfl;exact bo rfl
set_option maxHeartbeats 2000000 in
theorem X8 (b:Nat) (p v:Value) (n:Nat) (xs:List Value) (s:ByteArray) (w:World) (hp:p = .pointer none∨p = .pointer (some ⟨b,0,none⟩)) (uv:w.heap[b]? = some (.cells #[p,v] 113 (0,0)))
  (dG:w.ownsRow 0 5 1 v n xs) (bo:v.ownBlock≠some b) (hs:0 < s.size) (hlen:n + s.size<=140737488355328) :
  Calls prog 54 #[.pointer (some ⟨b,0,none⟩),.string s] w (PD (.tuple #[.int .i64 s.size,.nilIface]) w b v n xs s):=by
 obtain ⟨i0,hi,hz0,hz1,hz2⟩:=info_parts Tryz.laysBX.infoByte
 go_enter func54,ntmps54
 go_wp2_with (go_at_call 117;refine (PB b p v _ hp uv).mono ?_)
 rintro e w1 ⟨rfl,rfl⟩;have nU:(s7 w b v).heap[b]? = some (.cells #[.pointer (some ⟨b,0,none⟩),v] 113 (0,0)):=eI uv;have V7:(s7 w b v).ownsRow 0 5 1 v n xs:=J2 dG bo;have c0:(s7 w b v).cell? ⟨b,0,none⟩=some (.pointer (some ⟨b,0,none⟩)):=by rw [Lib.cell_of_heap nU];all_goals rfl
 have c1:(s7 w b v).cell? ⟨b,1,none⟩=some v:=by rw [Lib.cell_of_heap nU];all_goals rfl
 have aE:b < (s7 w b v).heap.size:=dq nU;obtain ⟨W1,hW1⟩:∃ W1,W1=s7 w b v:=⟨_,rfl⟩;rw [<- hW1] at nU V7 c0 c1 aE ⊢;have HW:=Lib.hid hW1;clear hW1
 go_wp2_with (at_builtin;refine qq rfl _ _ 111 9 rfl 5 i0 Tryz.underlying111 Tryz.underlying9 hi hz0 hz1 hz2 _ _ _ rfl V7 s rfl ?c3 ?c4 hs ?_)
 case c3=>unfold maxLen;omega
 case c4=>omega
 intro g cap w2 ab7 E6 Ll
 have iW:w2.heap[b]? = some (.cells #[.pointer (some ⟨b,0,none⟩),v] 113 (0,0)):=by
  rw [E6.block b aE (fun e=>bo e.symm)];exact nU
 have d0:w2.cell? ⟨b,0,none⟩=some (.pointer (some ⟨b,0,none⟩)):=by rw [Lib.cell_of_heap iW];all_goals rfl
 have d1:w2.cell? ⟨b,1,none⟩=some v:=by rw [Lib.cell_of_heap iW];all_goals rfl
 have f1:w2.frozen? ⟨b,1,none⟩=false:=Lib.frozen_of_heap iW 1
 go_wp2
 go_ret2
 refine ⟨rfl,g,cap,w2,ab7,by rw [<- HW.out];exact E6,by rw [<- HW.out];exact Ll,?_⟩;rw [j7 iW];rfl
set_option maxHeartbeats 1000000 in
theorem PE (b g cap:Nat) (p:Value) (l:List UInt8) (cur:Array Value) (w:World) (h0:l ≠ []) (uv:w.heap[b]? = some (.cells #[p,.slice (some ⟨g,0,none⟩) l.length cap] 113 (0,0)))
  (hg:w.heap[g]? = some (.cells cur 5 (0,0))) (zj:l.length<=cap) (hcm:cap<=maxLen) (cx:cur.size=cap * 1) (htake:cur.toList.take (l.length * 1)=Lib.byteCells l) :
  Calls prog 60 #[.pointer (some ⟨b,0,none⟩)] w fun e w'=>e = .returned (.string ⟨l.toArray⟩)/\w'=w.drew.freeze ⟨g,0,none⟩ l.length:=by
 have zm:l.length≠0:=sU h0;have dG:w.ownsRow 0 5 1 (.slice (some ⟨g,0,none⟩) l.length cap) l.length (Lib.byteCells l):=⟨by rw [Lib.byteCells_length,Nat.mul_one],.inr ⟨g,cap,cur,rfl,Nat.zero_le _,hg,zj,hcm,cx,htake⟩⟩
 have c1:w.drew.cell? ⟨b,1,none⟩=some (.slice (some ⟨g,0,none⟩) l.length cap):=by
  have:w.drew.heap[b]? = some (.cells #[p,.slice (some ⟨g,0,none⟩) l.length cap] 113 (0,0)):=uv;rw [Lib.cell_of_heap this];all_goals rfl
 have hSD:(Builtin.unsafeSliceData_ #[111] 199 #[.slice (some ⟨g,0,none⟩) l.length cap]).run prog w.drew = .ok (.pointer (some ⟨g,0,none⟩)) w.drew:=
  Lib.run_unsafeSliceData_row _ _ _ _ _ _ (by omega)
 have hUS:(Builtin.unsafeString_ #[199,3] 9 #[.pointer (some ⟨g,0,none⟩),.int .i64 l.length]).run prog w.drew = .ok (.string ⟨l.toArray⟩) (w.drew.freeze ⟨g,0,none⟩ l.length):=by
  refine Lib.run_unsafeString_row w.drew 199 3 9 5 Tryz.underlying199 (by kernel_rfl) g cur.size (by have vY:w.drew.heap[g]? = some (.cells cur 5 (0,0)):=hg;simp [World.shape?,vY]) l h0 (by omega) (by unfold maxLen at hcm;omega) ?_;intro j x hx;have:=dG.cells (g:=g) rfl j (.int .u8 x.toNat) (by simp [Lib.byteCells,hx]);exact this
 clear dG htake cx hg;have mixed:=mo
 go_enter func60,ntmps60
 go_wp2
 go_region_o
 all_goals (go_wp2;go_ret;exact ⟨rfl,rfl⟩)
end Go.Proofs.YtfdedoiiahbnnaaGreat
set_option maxRecDepth 100000
namespace Go.Proofs.YtfdedoiiahbnnaaGreat
open Go Go.RowKit Dv Go.Proofs.Tryz
def bD (l:List UInt8):List (List DV):=l.map fun c=>[DV.v (.int .u8 c.toNat)]
theorem s8 (l:List UInt8):(bD l).length=l.length:=by simp [bD]
theorem PF {E:En}:∀ l:List UInt8,RvC E (bD l).flatten (Lib.byteCells l)
 | []=>⟨cO _,by simp [Lib.byteCells]⟩
 | c :: r=>by
  obtain ⟨h1,h2⟩:=PF (E:=E) r;refine ⟨?_,fun v hv=>?_⟩
  ·simp only [bD,List.map_cons,List.flatten_cons,List.cons_append,List.nil_append,Lib.byteCells];exact rvL_cons (by unfold Rv;exact ⟨rfl,rfl⟩) h1
  ·simp only [Lib.byteCells,List.map_cons,List.mem_cons] at hv;rcases hv with rfl | hv
   ·rfl
   ·exact h2 v hv
theorem J3 {E:En}:∀ {l:List UInt8} {arr:List Value},RvL E (bD l).flatten arr->arr=Lib.byteCells l
 | [],arr,h=>by simpa [bD,RvL,Lib.byteCells] using h
 | c :: r,arr,h=>by
  simp only [bD,List.map_cons,List.flatten_cons,List.cons_append,List.nil_append,RvL] at h;obtain ⟨v,s,rfl,h1,h2⟩:=h;unfold Rv at h1;rw [h1.1,J3 (l:=r) h2];rfl
theorem strCells_eq (s:ByteArray):Lib.strCells s=Lib.byteCells s.data.toList:=rfl
theorem HP {X:Ctx} {E:En} {st:St} {a:Act} {w:World} (h:Rel X E st a w) {kt:Nat} {l:List UInt8} {cv:Value} (hl:l ≠ []) (gj:st.tk[kt]? = some ⟨l.length,5,1,none⟩) (hv:Rv E (.sl 1 (bD l) (some kt)) cv) :
  ∃ g cap cur,cv = .slice (some ⟨g,0,none⟩) l.length cap/\w.heap[g]? = some (.cells cur 5 (0,0))/\l.length<=cap/\cap<=maxLen/\cur.size=cap * 1/\cur.toList.take (l.length * 1)=Lib.byteCells l/\g ∉ E.β/\E.τ[kt]? = some cv:=by
 have bo:bD l ≠ []:=by grind [s8]
 have nK:0 < l.length:=List.length_pos_iff.2 hl;unfold Rv at hv;obtain ⟨bs,ns,lN,rfl,⟨rfl,wh⟩,Vl,wi⟩:=hv;rw [s8] at wh;obtain ⟨q,hq,_,hτ⟩:=wi kt rfl;rw [h.tk,gj] at hq;simp only [oI] at hq;subst hq;have hy:=hτ (s8 l);rcases h.env.c9 kt _ _ (by rw [h.tk];exact gj) hy with ⟨oN,tX⟩ | ⟨g,cap,cur,oN,hw0,q7,zj,hcm,iT,D0⟩
 ·simp only at tX;omega
 ·injection oN with i1 i2 i3
  subst i1 i3;refine ⟨g,lN,cur,by rw [s8],hw0,zj,hcm,q7.1,?_,iT,by rw [hy]⟩;obtain ⟨_,SZ⟩:=Vl bo;obtain ⟨Lo,nU,iW,Jy⟩:=SZ.uY;have ha:=J3 nU.1;subst ha;apply List.ext_getElem?;intro j;rw [s8] at iW;rcases Nat.lt_or_ge j (Lib.byteCells l).length with hj | hj
  ·have h5:=h.env.sub _ _ (Jy j _ (gE hj));simp only [ab,ao,Nat.zero_add] at h5;rw [cJ hw0] at h5;rw [cQ,ah (by omega),gE hj];simpa using h5
  ·grind
theorem TI {X:Ctx} {E:En} {st:St} {a:Act} {w:World} (h:Rel X E st a w) {kt:Nat} {l:List UInt8} {cv:Value} (gj:st.tk[kt]? = some ⟨l.length,5,1,none⟩) (hv:Rv E (.sl 1 (bD l) (some kt)) cv) :
  w.ownsRow 0 5 1 cv l.length (Lib.byteCells l)/\E.τ[kt]? = some cv/\∀ b∈E.β,cv.ownBlock≠some b:=by
 cases l with
 | cons c r=>
  obtain ⟨g,cap,cur,rfl,hg,zj,hcm,cx,htake,ZC,hτ⟩:=HP h (List.cons_ne_nil c r) gj hv;refine ⟨⟨by rw [Lib.byteCells_length,Nat.mul_one],.inr ⟨g,cap,cur,rfl,Nat.zero_le _,hg,zj,hcm,cx,htake⟩⟩,hτ,fun b hb he=>?_⟩;simp only [Value.ownBlock,oI] at he;exact ZC (he ▸ hb)
 | nil=>
  unfold Rv at hv;obtain ⟨bs,ns,lN,rfl,⟨rfl,wh⟩,Vl,wi⟩:=hv;obtain ⟨q,hq,_,hτ⟩:=wi kt rfl;rw [h.tk,gj] at hq;simp only [oI] at hq;subst hq;have hy:=hτ rfl;rcases h.env.c9 kt _ _ (by rw [h.tk];exact gj) hy with ⟨oN,tX⟩ | ⟨g,cap,cur,oN,hw0,q7,zj,hcm,iT,D0⟩
  ·rw [oN] at hy ⊢;exact ⟨⟨rfl,.inl ⟨rfl,rfl⟩⟩,hy,fun b _ he=>by simp [Value.ownBlock] at he⟩
  ·rw [oN] at hy ⊢;refine ⟨⟨rfl,.inr ⟨g,cap,cur,rfl,Nat.zero_le _,hw0,zj,hcm,q7.1,by simp [Lib.byteCells]⟩⟩,hy,fun b hb he=>?_⟩;simp only [Value.ownBlock,oI] at he;exact iT (he ▸ hb)
theorem PG {f:FuncId} {xd rd:DV} {ret:Value} {X:Ctx} {st:St} {k:List It} (hP:X.P=prog) {i kt d:Nat} {p c:DV} {l:List UInt8} {s:ByteArray} {cA:List TkE} (hbt:(i,113)∈X.bt) (kN:st.bx[i]? = some [p,c])
  (hp:p = .v (.pointer none)∨p = .loc i 0)
  (hc:(c = .v (.slice none 0 0)/\l=[]/\kt=st.tk.length/\cA=st.tk ++ [⟨s.size,5,1,none⟩])∨(c = .sl 1 (bD l) (some kt)/\st.tk[kt]? = some ⟨l.length,5,1,none⟩/\cA=st.tk.set kt ⟨l.length + s.size,5,1,none⟩))
  (gh:Enters prog f) (NT:∀ E,Rv E rd ret)
  (SR:∀ (E:En) (b n:Nat) (p v x:Value) (xs:List Value) (w:World),Rv E xd x->p = .pointer none∨p = .pointer (some ⟨b,0,none⟩)->w.heap[b]? = some (.cells #[p,v] 113 (0,0))->w.ownsRow 0 5 1 v n xs->v.ownBlock≠some b->n + s.size<=140737488355328->Calls prog f #[.pointer (some ⟨b,0,none⟩),x] w (PD ret w b v n xs s))
  (hs:0 < s.size) (hlen:l.length + s.size<=140737488355328) (hd:eV X.nt st.sl (some d)=true)
  (hk:go X 4000 k ⟨(d,⟨[],rd⟩) :: st.sl,st.bx.set i [.loc i 0,.sl 1 (bD (l ++ s.data.toList)) (some kt)],cA⟩)
  (bp:X.still=false:=by exact rfl):CallG X f [.loc i 0,xd] (some d) k st:=by
 refine ⟨?_,bp,fun E a w vs h hv=>?_⟩
 ·rw [hP];exact gh
 rw [hP];simp only [RvL] at hv;obtain ⟨v1,vr,rfl,h1,v2,vr2,rfl,h2,rfl⟩:=hv;unfold Rv at h1;obtain ⟨b,hb,rfl⟩:=h1;obtain ⟨b',ty,arr,ef,hw,pJ⟩:=h.env.dY i _ kN;rw [hb] at ef;simp only [oI] at ef;subst ef;obtain ⟨Th,qu⟩:=h.bt _ hbt b hb;rw [hw] at qu;simp only [oI,Obj.cells.injEq] at qu;have Lm:ty=113:=qu.2.1;subst Lm;obtain ⟨hr,ho⟩:=pJ;simp only [RvL] at hr;obtain ⟨pv,r1,rfl,ZX,cv,r2,rfl,NU,rfl⟩:=hr
 have hpv':pv = .pointer none∨pv = .pointer (some ⟨b,0,none⟩):=by
  rcases hp with rfl | rfl
  ·exact .inl (bL ZX)
  ·unfold Rv at ZX;obtain ⟨b2,iW,rfl⟩:=ZX;rw [hb] at iW;simp only [oI] at iW;subst iW;exact .inr rfl
 have z8:b∈E.β:=mG hb;have J4:st.tk.length=E.tk.length:=by rw [h.tk]
 have key:∃ xs:List Value,xs=Lib.byteCells l/\w.ownsRow 0 5 1 cv l.length xs/\cv.ownBlock≠some b /\
   ((∃ q,E.tk[kt]? = some q/\E.τ[kt]? = some cv/\q.n=l.length/\q.ty=5/\q.e=1/\q.own=none)∨(E.tk[kt]? = none/\E.τ[kt]? = none/\cv = .slice none 0 0/\l.length=0)) /\
   cA[kt]? = some ⟨l.length + s.size,5,1,none⟩/\(∀ j,j≠kt->cA[j]? = E.tk[j]?)/\(∀ y:Value,∃ τ':List Value,τ'[kt]? = some y/\τ'.length=cA.length/\∀ j,j≠kt->τ'[j]? = E.τ[j]?):=by
  rcases hc with ⟨rfl,rfl,rfl,rfl⟩ | ⟨rfl,gj,rfl⟩
  ·have:=bL NU;subst this;refine ⟨_,rfl,⟨rfl,.inl ⟨rfl,rfl⟩⟩,by simp [Value.ownBlock],.inr ⟨?_,?_,rfl,rfl⟩,?_,?_,?_⟩
   ·rw [J4];simp
   ·rw [J4,<- h.env.tl];simp
   ·simp
   ·intro j hj;rw [h.tk];rcases Nat.lt_or_ge j st.tk.length with h1 | h1
    ·rw [ei h1]
    ·grind
   ·intro y;refine ⟨E.τ ++ [y],?_,by simp [h.env.tl,h.tk],fun j hj=>?_⟩
    ·rw [J4,<- h.env.tl];simp
    ·rcases Nat.lt_or_ge j E.τ.length with h1 | h1
     ·rw [ei h1]
     ·rw [zK (l:=E.τ) h1];have:=h.env.tl;exact zK (by simp;omega)
  ·obtain ⟨dG,hτ,hob⟩:=TI h gj NU;have D6:=(gS gj).1;refine ⟨_,rfl,dG,hob b z8,.inl ⟨_,by rw [h.tk];exact gj,hτ,rfl,rfl,rfl,rfl⟩,?_,?_,?_⟩
   ·rw [j5 D6]
   ·intro j hj;rw [List.getElem?_set_ne (Ne.symm hj),h.tk]
   ·intro y;refine ⟨E.τ.set kt y,?_,by simp [h.env.tl,h.tk],fun j hj=>List.getElem?_set_ne (Ne.symm hj)⟩;rw [j5];rw [h.env.tl,<- J4];exact D6
 obtain ⟨xs,rfl,dG,bo,GY,ab8,xr,hτ⟩:=key;refine (SR E b l.length pv cv v2 (Lib.byteCells l) w h2 hpv' hw dG bo hlen).mono ?_;rintro e w' ⟨rfl,g,cap,w2,V8,E6,Ll,rfl⟩;obtain ⟨τ',hτ1,ZB,NM⟩:=hτ (.slice (some ⟨g,0,none⟩) (l.length + s.size) cap);have V9:Rv E (.loc i 0) (.pointer (some ⟨b,0,none⟩)):=by unfold Rv;exact ⟨b,hb,rfl⟩
 have r1:Rel X E ⟨st.sl,st.bx.set i [.loc i 0,c],st.tk⟩ a (s7 w b cv):=
  jT h bp hb (cs':=[.loc i 0,c]) (arr':=[.pointer (some ⟨b,0,none⟩),cv]) ⟨rvL_cons V9 (rvL_one NU),by
   intro v hv;simp only [List.mem_cons,List.not_mem_nil,or_false] at hv;rcases hv with rfl | rfl
   ·rfl
   ·exact ho v (by simp)⟩ ⟨_,hw⟩
 obtain ⟨r2,hext,kO⟩:=DQ r1 bp GY hs (by omega) ab8 hτ1 ZB xr NM (J2 dG bo) V8 E6 Ll;have iW:(s7 w b cv).heap[b]? = some (.cells #[.pointer (some ⟨b,0,none⟩),cv] 113 (0,0)):=eI hw
 have Jy:w2.heap[b]? = some (.cells #[.pointer (some ⟨b,0,none⟩),cv] 113 (0,0)):=by
  rw [E6.block b (dq iW) (fun e=>bo e.symm)];exact iW
 have X9:Rv (⟨eW E.c w2 g ((l.length + s.size) * 1),E.β,cA,τ'⟩:En) (.sl 1 (bD (l ++ s.data.toList)) (some kt)) (.slice (some ⟨g,0,none⟩) (l.length + s.size) cap):=by
  have v8:s.data.toList.length=s.size:=by rw [Array.length_toList];all_goals rfl
  unfold Rv;refine ⟨_,_,_,rfl,⟨by rw [s8,List.length_append,v8],?_⟩,fun _=>⟨rfl,?_⟩,?_⟩
  ·rcases V8.2 with ⟨hv,_⟩ | ⟨_,_,_,hv,_,_,zj,_⟩
   ·cases hv
   ·injection hv with _ _ i3
    omega
  ·refine rvEs_flat (arr:=Lib.byteCells (l ++ s.data.toList)) (PF _) (fun cs hcm=>?_) fun j u hj=>?_
   ·grind [bD]
   ·simp only [ab,ao,Nat.zero_add];refine kO j u ?_;rw [strCells_eq];simpa [Lib.byteCells] using hj
  ·intro k' gU;cases gU;exact ⟨_,ab8,bn _,fun _=>hτ1⟩
 have r3:=jT r2 bp (i:=i) (b:=b) hb (cs':=[.loc i 0,.sl 1 (bD (l ++ s.data.toList)) (some kt)]) (arr':=[.pointer (some ⟨b,0,none⟩),.slice (some ⟨g,0,none⟩) (l.length + s.size) cap])
  ⟨rvL_cons (by unfold Rv;exact ⟨b,hb,rfl⟩) (rvL_one X9),by
   intro v hv;simp only [List.mem_cons,List.not_mem_nil,or_false] at hv
   rcases hv with rfl | rfl<;>rfl⟩ ⟨_,Jy⟩
 simp only [List.set_set] at r3;exact go_sound 4000 _ _ hk _ _ _ (bh r3 hd rd _ (NT _))
theorem TJ {X:Ctx} {st:St} {k:List It} (hP:X.P=prog) {i kt d:Nat} {p c:DV} {l:List UInt8} {s:ByteArray} {cA:List TkE} (hbt:(i,113)∈X.bt) (kN:st.bx[i]? = some [p,c])
  (hp:p = .v (.pointer none)∨p = .loc i 0)
  (hc:(c = .v (.slice none 0 0)/\l=[]/\kt=st.tk.length/\cA=st.tk ++ [⟨s.size,5,1,none⟩])∨(c = .sl 1 (bD l) (some kt)/\l ≠ []/\st.tk[kt]? = some ⟨l.length,5,1,none⟩/\cA=st.tk.set kt ⟨l.length + s.size,5,1,none⟩))
  (hs:0 < s.size) (hlen:l.length + s.size<=140737488355328) (hd:eV X.nt st.sl (some d)=true)
  (hk:go X 4000 k ⟨(d,⟨[],.bK [.v (.int .i64 s.size),.v .nilIface]⟩) :: st.sl,st.bx.set i [.loc i 0,.sl 1 (bD (l ++ s.data.toList)) (some kt)],cA⟩)
  (bp:X.still=false:=by exact rfl):CallG X 54 [.loc i 0,.v (.string s)] (some d) k st:=
 PG hP hbt kN hp (hc.imp_right fun h=>⟨h.1,h.2.2⟩) en54 (fun E=>by unfold Rv;exact ⟨_,rfl,rvL_cons (by unfold Rv;exact ⟨rfl,rfl⟩) (rvL_one (by unfold Rv;exact ⟨rfl,rfl⟩))⟩)
  (fun E b n p v x xs w hx h1 h2 h3 h4 h5=>by
   have:=bL hx;subst this
   exact X8 b p v n xs s w h1 h2 h3 h4 hs h5) hs hlen hd hk bp
theorem ja {X:Ctx} {st:St} {k:List It} (hP:X.P=prog) {i kt d:Nat} {p c:DV} {l:List UInt8} {s:ByteArray} {cA:List TkE} (l':List UInt8) (wE:l'=l ++ s.data.toList) (hbt:(i,113)∈X.bt) (kN:st.bx[i]? = some [p,c])
  (hp:p = .v (.pointer none)∨p = .loc i 0)
  (hc:(c = .v (.slice none 0 0)/\l=[]/\kt=st.tk.length/\cA=st.tk ++ [⟨l'.length,5,1,none⟩])∨(c = .sl 1 (bD l) (some kt)/\l ≠ []/\st.tk[kt]? = some ⟨l.length,5,1,none⟩/\cA=st.tk.set kt ⟨l'.length,5,1,none⟩))
  (hs:0 < s.size) (hlen:l'.length<=140737488355328) (hd:eV X.nt st.sl (some d)=true)
  (hk:go X 4000 k ⟨(d,⟨[],.bK [.v (.int .i64 s.size),.v .nilIface]⟩) :: st.sl,st.bx.set i [.loc i 0,.sl 1 (bD l') (some kt)],cA⟩)
  (bp:X.still=false:=by exact rfl):CallG X 54 [.loc i 0,.v (.string s)] (some d) k st:=by
 have hn:l'.length=l.length + s.size:=by rw [wE,List.length_append,Array.length_toList];all_goals rfl
 subst wE;refine TJ hP hbt kN hp ?_ hs (by omega) hd hk bp;rcases hc with ⟨h1,h2,h3,h4⟩ | ⟨h1,h2,h3,h4⟩
 ·grind
 ·exact .inr ⟨h1,h2,h3,by rw [h4,hn]⟩
theorem uw {w:World} {g n:Nat} (x:Addr):(w.freeze ⟨g,0,none⟩ n).cell? x=w.cell? x:=by
 unfold World.freeze;split
 ·rfl
 ·simp only [World.cell?,Array.getElem?_modify]
  grind
theorem ru {w:World} {g n k:Nat} (h:k≠g):(w.freeze ⟨g,0,none⟩ n).heap[k]? = w.heap[k]?:=by
 unfold World.freeze
 grind
theorem ry {w:World} {g n:Nat}:(w.freeze ⟨g,0,none⟩ n).os=w.os/\(w.freeze ⟨g,0,none⟩ n).tape=w.tape/\(w.freeze ⟨g,0,none⟩ n).output=w.output/\(w.freeze ⟨g,0,none⟩ n).heap.size=w.heap.size:=by
 unfold World.freeze
 grind
theorem TL {X:Ctx} {st:St} {k:List It} (hP:X.P=prog) {i kt d:Nat} {p:DV} {l:List UInt8} (hbt:(i,113)∈X.bt) (kN:st.bx[i]? = some [p,.sl 1 (bD l) (some kt)])
  (hl:l ≠ []) (gj:st.tk[kt]? = some ⟨l.length,5,1,none⟩) (tX:X.n0=0) (pu:X.m0=0) (hd:eV X.nt st.sl (some d)=true)
  (hk:go X 4000 k ⟨[(d,⟨[],.v (.string ⟨l.toArray⟩)⟩)],[],[]⟩) (bp:X.still=false:=by exact rfl):CallG X 60 [.loc i 0] (some d) k st:=by
 refine ⟨?_,bp,fun E a w vs h hv=>?_⟩
 ·rw [hP];exact XQ
 rw [hP];simp only [RvL] at hv;obtain ⟨v1,vr,rfl,h1,rfl⟩:=hv;unfold Rv at h1;obtain ⟨b,hb,rfl⟩:=h1;obtain ⟨b',ty,arr,ef,hw,pJ⟩:=h.env.dY i _ kN;rw [hb] at ef;simp only [oI] at ef;subst ef;obtain ⟨Th,qu⟩:=h.bt _ hbt b hb;rw [hw] at qu;simp only [oI,Obj.cells.injEq] at qu;have Lm:ty=113:=qu.2.1;subst Lm;obtain ⟨hr,ho⟩:=pJ;simp only [RvL] at hr;obtain ⟨pv,r1,rfl,ZX,cv,r2,rfl,NU,rfl⟩:=hr;obtain ⟨g,cap,cur,rfl,hg,zj,hcm,cx,htake,ZC,hτ⟩:=HP h hl gj NU;refine (PE b g cap pv l cur w hl hw hg zj hcm cx htake).mono ?_;rintro e w' ⟨rfl,rfl⟩;obtain ⟨k1,k2,k3,k4⟩:=ry (w:=w.drew) (g:=g) (n:=l.length);have ZK:X.E0.β=[]:=List.eq_nil_of_length_eq_zero (by rw [X.tX,tX]);have hT0:X.E0.tk=[]:=List.eq_nil_of_length_eq_zero (by rw [X.pu,pu]);have B6:X.w0.heap.size<=g:=h.nw.tn kt _ g (by rw [hT0];exact Nat.zero_le _) hτ rfl
 let E':En:=⟨E.c,[],[],[]⟩
 have cm:Rel X E' ⟨[],[],[]⟩ a (w.drew.freeze ⟨g,0,none⟩ l.length):={
  env:={
   len:=rfl
   tl:=rfl
   dY:=by simp
   inj:=List.nodup_nil
   sub:=fun x v hx=>by rw [uw];exact h.env.sub x v hx
   pc:=by simp [E']
   c9:=by simp [E']
   iB:=by simp [E'] }
  tk:=rfl
  sz:=h.sz
  tm:=fun i x hx=>by cases hx
  df:=h.df
  nw:={
   c:=fun x v hx=>h.nw.c x v hx
   cn:=fun x v hx=>h.nw.cn x v hx
   β:=⟨[],by rw [ZK];rfl,by simp⟩
   tk:=fun k q y hq _=>by rw [hT0] at hq;simp at hq
   tn:=fun k y g' _ hy _=>by simp [E'] at hy
   l0:=h.nw.l0 }
  fr:=h.fr.cu k1 k2 k3 (by rw [k4];exact bn _) fun j hj=>by
   by_cases hjg:j=g
   ·left;exact .inr (hjg ▸ B6)
   ·right;exact ru hjg
  sh:=mJ bp
  bt:=fun p hp b hb=>by simp [E'] at hb }
 have zl:eV X.nt ([]:List (Nat × Sl)) (some d)=true:=by
  simp only [eV,bg] at hd ⊢;exact ⟨hd.1,rfl⟩
 exact go_sound 4000 _ _ hk _ _ _ (bh (st:=⟨[],[],[]⟩) cm zl (.v (.string ⟨l.toArray⟩)) _ (by unfold Rv;exact ⟨rfl,rfl⟩))
end Go.Proofs.YtfdedoiiahbnnaaGreat
namespace Go.Proofs.YtfdedoiiahbnnaaGreat
namespace Dv
open Go Go.RowKit
section
variable {X:Ctx} {st:St} {k:List It} {E:En} {a:Act} {w:World}
def Wk (X:Ctx) (st st':St):Prop:=∀ E a w,Rel X E st a w->∃ E',Rel X E' st' a w
theorem Wk.refl (X:Ctx) (st:St):Wk X st st:=fun E _ _ h=>⟨E,h⟩
theorem Wk.trans {X:Ctx} {s1 s2 s3:St} (h1:Wk X s1 s2) (h2:Wk X s2 s3):Wk X s1 s3:=fun _ _ _ h=>by
 obtain ⟨E1,h3⟩:=h1 _ _ _ h;exact h2 _ _ _ h3
theorem Wk.Ya {X:Ctx} {s1 s2:St} (h:pz X.n0 X.m0 s1 s2):Wk X s1 s2:=fun _ _ _ hr=>rc hr h
theorem L7 {f:FuncId} {args bF:List DV} {os:List (List DV)} (n1 m1:Nat) (uZ:Nat.ble n1 st.bx.length=true) (mC:Nat.ble m1 st.tk.length=true)
  (qZ:kZ [] n1 n1 m1 os (st.bx.take n1)) (ha:CcL [] n1 n1 m1 bF args)
  {Φ:DV->List (List DV)->List TkE->Prop} (hc:EvT false X.P f bF os (st.tk.take m1) X.bt Φ) (bp:X.still=false) {vs:List Value} (h:Rel X E st a w) (hv:RvL E args vs) :
  Calls X.P f vs.toArray w fun e w'=>∃ v r eO cA E',e = .returned v/\Φ r eO cA /\ eO.length=n1/\cA.length=m1/\Rel X E' ⟨st.sl,eO ++ st.bx.drop n1,cA ++ st.tk.drop m1⟩ a w' /\ Rv E' r v/\Ext E E' /\ E'.β=E.β /\
   ∀ (i:Nat) b,n1<=i->E.β[i]? = some b->w'.heap[b]? = w.heap[b]?:=by
 have uZ:=nL uZ;have mC:=nL mC;have hlen:=h.env.len;have nE:=h.env.tl;have gj:=h.tk;have htkl:E.tk.length=st.tk.length:=by rw [gj]
 let E1:En:=⟨E.c,E.β.take n1,E.tk.take m1,E.τ.take m1⟩
 have hfz:NN E E1 [] n1:=⟨fun _ _ h=>h,fun i cs _ hi=>by simp at hi⟩
 have Cb:Jz E E1 n1 m1:={
  β:=fun i b hi hb=>by show (E.β.take n1)[i]? = _;rw [cQ,ah hi];exact hb
  tk:=fun k hk=>⟨by show (E.tk.take m1)[k]? = _;rw [cQ,ah hk],by show (E.τ.take m1)[k]? = _;rw [cQ,ah hk]⟩ }
 obtain ⟨mB,hog⟩:=qZ.get;have hosl:os.length=n1:=by rw [mB,zLenT];omega
 have hτg:∀ (j:Nat) y,(E.τ.take m1)[j]? = some y->j < m1/\E.τ[j]? = some y:=fun j y hy=>by
  rw [cQ] at hy;split at hy
  ·rename_i hj;exact ⟨hj,hy⟩
  ·cases hy
 have hkg:∀ (j:Nat) q,(E.tk.take m1)[j]? = some q->j < m1/\E.tk[j]? = some q:=fun j y hy=>by
  rw [cQ] at hy;split at hy
  ·rename_i hj;exact ⟨hj,hy⟩
  ·cases hy
 have hE1:Env E1 os w:={
  len:=by show (E.β.take n1).length=_;rw [zLenT,hosl];omega
  tl:=by show (E.τ.take m1).length=(E.tk.take m1).length;rw [zLenT,zLenT,nE]
  dY:=fun i cs' hi=>by
   obtain ⟨cs,cx,pJ⟩:=hog i cs' hi;rw [cQ] at cx;split at cx
   ·rename_i aE;obtain ⟨b,ty,arr,hb,hw,hc⟩:=h.env.dY i cs cx;exact ⟨b,ty,arr,Cb.β i b aE hb,hw,CcL.sound hfz Cb pJ hc.1,hc.2⟩
   ·cases cx
  inj:=h.env.inj.sublist (List.take_sublist _ _)
  sub:=h.env.sub
  pc:=fun x v hx hm=>h.env.pc x v hx (List.mem_of_mem_take hm)
  c9:=fun j q y hq hy=>by
   obtain ⟨_,hq⟩:=hkg j q hq;obtain ⟨_,hy⟩:=hτg j y hy;rcases h.env.c9 j q y hq hy with h1 | ⟨g,cap,cur,rfl,h1,h2,h3,h4,h5,h6⟩
   ·exact .inl h1
   ·exact .inr ⟨g,cap,cur,rfl,h1,h2,h3,h4,fun hm=>h5 (List.mem_of_mem_take hm),h6⟩
  iB:=fun j j' y y' g Ju hy iv=>h.env.iB j j' y y' g Ju (hτg j y hy).2 (hτg j' y' iv).2 }
 refine (hc E1 w _ hE1 (by show E.tk.take m1=_;rw [gj]) (h.bt.sub n1) (CcL.sound hfz Cb ha hv)).mono ?_;rintro e w' ⟨v,rfl,⟨hm,_,r,eO,E2,he,hβ,xr,hn,Xr,hΦ⟩,hbt2⟩;have xr:E2.tk.length=E1.tk.length:=xr;have hE1t:E1.tk.length=m1:=by show (E.tk.take m1).length=_;rw [zLenT];omega
 have hE1τ:E1.τ.length=m1:=by show (E.τ.take m1).length=_;rw [zLenT];omega
 have hE1β:E1.β.length=n1:=by show (E.β.take n1).length=_;rw [zLenT];omega
 rw [hE1t] at xr;have ZB:E2.τ.length=m1:=by rw [he.tl,xr]
 have PH:eO.length=n1:=by rw [<- he.len,hβ,hE1β]
 have hS:∀ j,E1.S j->j∈E.β.take n1∨∃ i y,i < m1/\E.τ[i]? = some y/\y.ownBlock=some j:=fun j hj=>by
  rcases hj with h1 | ⟨y,h1,h2⟩
  ·exact .inl h1
  ·obtain ⟨i,hi,he⟩:=List.getElem_of_mem h1;have nB:E1.τ[i]? = some y:=by rw [gE hi,he]
   obtain ⟨h3,h4⟩:=hτg i y nB;exact .inr ⟨i,y,h3,h4,h2⟩
 have hh:∀ j,j < w.heap.size->¬ E1.S j->w'.heap[j]? = w.heap[j]?:=fun j hj bo=>hm.block j hj bo;have dG:∀ (i:Nat) y g,E.τ[i]? = some y->y.ownBlock=some g->g < w.heap.size/\g ∉ E.β:=fun i y g hy hg=>h.env.own (mG hy) hg
 have dB:∀ x v,E2.c x=some v->E.c x=some v∨w.heap.size<=x.block∨∃ i y,i < m1/\E.τ[i]? = some y/\y.ownBlock=some x.block:=fun x v hx=>by
  rcases hn.cn x v hx with h1 | h1 | ⟨y,h1,h2⟩
  ·exact .inl h1
  ·exact .inr (.inl h1)
  ·obtain ⟨i,hi,he⟩:=List.getElem_of_mem h1;have nB:E1.τ[i]? = some y:=by rw [gE hi,he]
   obtain ⟨h3,h4⟩:=hτg i y nB;exact .inr (.inr ⟨i,y,h3,h4,h2⟩)
 have wj:∀ (j:Nat) q,j < m1->E.tk[j]? = some q->∃ y q' y',E.τ[j]? = some y/\E2.tk[j]? = some q' /\ E2.τ[j]? = some y' /\ q.ty=q'.ty/\q.e=q'.e/\((q'.n=q.n/\y'=y)∨q.n < q'.n)/\(y'.ownBlock=y.ownBlock∨∀ g,y'.ownBlock=some g->w.heap.size<=g):=fun j q hj hq=>by
  have vZ:j < E.τ.length:=by rw [nE];omega
  obtain ⟨q',y',h1,h2,h3⟩:=hn.tk j q E.τ[j] (by show (E.tk.take m1)[j]? = _;rw [cQ,ah hj];exact hq) (by show (E.τ.take m1)[j]? = _;rw [cQ,ah hj,gE vZ]);exact ⟨_,q',y',gE vZ,h1,h2,h3⟩
 have J5:∀ (j:Nat) y',j < m1->E2.τ[j]? = some y' -> ∃ y,E.τ[j]? = some y/\(y'.ownBlock=y.ownBlock∨∀ g,y'.ownBlock=some g->w.heap.size<=g):=fun j y' hj hy=>by
  have vZ:j < E.tk.length:=by omega
  obtain ⟨y,q1,y1,h1,_,h3,_,_,_,h7⟩:=wj j _ hj (gE vZ);rw [hy] at h3;simp only [oI] at h3;subst h3;exact ⟨y,h1,h7⟩
 let E':En:=⟨E2.c,E.β,E2.tk ++ E.tk.drop m1,E2.τ ++ E.τ.drop m1⟩
 have gU:∀ (j:Nat),m1<=j->E'.tk[j]? = E.tk[j]?:=fun j hj=>by
  show (E2.tk ++ E.tk.drop m1)[j]? = _;rw [List.getElem?_append_right (by omega),List.getElem?_drop,xr];congr 1;omega
 have Yb:∀ (j:Nat),m1<=j->E'.τ[j]? = E.τ[j]?:=fun j hj=>by
  show (E2.τ ++ E.τ.drop m1)[j]? = _;rw [List.getElem?_append_right (by omega),List.getElem?_drop,ZB];congr 1;omega
 have G3:∀ (j:Nat),j < m1->E'.tk[j]? = E2.tk[j]?:=fun j hj=>by
  show (E2.tk ++ E.tk.drop m1)[j]? = _;rw [ei (by omega)]
 have NM:∀ (j:Nat),j < m1->E'.τ[j]? = E2.τ[j]?:=fun j hj=>by
  show (E2.τ ++ E.τ.drop m1)[j]? = _;rw [ei (by omega)]
 have hx:Ext E E':=⟨hn.c,fun _ _ h=>h,fun j q hq=>by
  rcases Nat.lt_or_ge j m1 with hj | hj
  ·obtain ⟨y,q',y',h1,h2,h3,_,_,h6,_⟩:=wj j q hj hq;refine ⟨q',by rw [G3 j hj];exact h2,?_⟩;rcases h6 with ⟨h6,rfl⟩ | h6
   ·exact .inl ⟨h6,by rw [NM j hj,h3,h1]⟩
   ·exact .inr h6
  ·exact ⟨q,by rw [gU j hj];exact hq,.inl ⟨rfl,Yb j hj⟩⟩⟩
 have Aa:Ext E2 E':={
  c:=fun _ _ h=>h
  β:=fun j b hj=>by
   rw [hβ] at hj;have hj:(E.β.take n1)[j]? = some b:=hj;rw [cQ] at hj;split at hj
   ·exact hj
   ·cases hj
  tk:=fun j q hq=>by
   have hj:j < m1:=by have:=(gS hq).1;omega
   exact ⟨q,by rw [G3 j hj];exact hq,.inl ⟨rfl,NM j hj⟩⟩ }
 have Wa:∀ (i:Nat) b,n1<=i->E.β[i]? = some b->w'.heap[b]? = w.heap[b]?:=fun i b hi hb=>by
  refine hh b (h.env.bm (mG hb)) fun hs=>?_;rcases hS b hs with h1 | ⟨i',y,_,h2,h3⟩
  ·obtain ⟨i',nB,Xx⟩:=List.getElem_of_mem h1;have h4:(E.β.take n1)[i']? = some b:=by rw [gE nB,Xx]
   rw [cQ] at h4;split at h4
   ·rename_i aE;have:=(List.getElem?_inj (gS hb).1 h.env.inj).1 (hb.trans h4.symm);omega
   ·cases h4
  ·exact (dG i' y b h2 h3).2 (mG hb)
 have hbt':pw X.bt E.β w':=fun p hp b hb=>by
  rcases Nat.lt_or_ge p.1 n1 with aE | hge
  ·exact hbt2 p hp b (by show (E.β.take n1)[p.1]? = _;rw [cQ,ah aE];exact hb)
  ·obtain ⟨cs,cx⟩:=h.bt p hp b hb;exact ⟨cs,by rw [Wa p.1 b hge hb];exact cx⟩
 have cm:Rel X E' ⟨st.sl,eO ++ st.bx.drop n1,E2.tk ++ st.tk.drop m1⟩ a w':=by
  refine dr h hx ?_ (by show E2.tk ++ E.tk.drop m1=_;rw [gj]) ?_ (h.fr.cu hm.os hm.tape hm.output hm.size fun j hj=>?_) (mJ bp) hbt'
  ·exact {
    len:=by show E.β.length=_;rw [List.length_append,List.length_drop,PH,hlen];omega
    tl:=by show (E2.τ ++ E.τ.drop m1).length=(E2.tk ++ E.tk.drop m1).length;simp only [List.length_append,List.length_drop,ZB,xr,nE]
    dY:=fun i Th hi=>by
     rcases Nat.lt_or_ge i n1 with JV | JV
     ·rw [ei (by omega)] at hi;obtain ⟨b2,ty2,XJ,iW,lL,qU⟩:=he.dY i Th hi;exact ⟨b2,ty2,XJ,Aa.β i b2 iW,lL,qU.mono Aa⟩
     ·rw [List.getElem?_append_right (by omega),List.getElem?_drop,PH] at hi;rw [show n1 + (i - n1)=i by omega] at hi;obtain ⟨bj,tyj,XK,Vu,hwj,Xa⟩:=h.env.dY i Th hi;refine ⟨bj,tyj,XK,Vu,(hh bj (dq hwj) ?_).trans hwj,Xa.mono hx⟩;intro hs;rcases hS bj hs with h1 | ⟨i',y,_,h2,h3⟩
      ·obtain ⟨i',nB,Xx⟩:=List.getElem_of_mem h1;have h4:(E.β.take n1)[i']? = some bj:=by rw [gE nB,Xx]
       rw [cQ] at h4;split at h4
       ·rename_i aE;have:=(List.getElem?_inj (gS Vu).1 h.env.inj).1 (Vu.trans h4.symm);omega
       ·cases h4
      ·exact (dG i' y bj h2 h3).2 (mG Vu)
    inj:=h.env.inj
    sub:=he.sub
    pc:=fun x v hc mA=>by
     rcases dB x v hc with h1 | h1 | ⟨i,y,_,h2,h3⟩
     ·exact h.env.pc x v h1 mA
     ·have:=h.env.bm mA;omega
     ·exact (dG i y _ h2 h3).2 mA
    c9:=fun j q y hq hy=>by
     rcases Nat.lt_or_ge j m1 with hj | hj
     ·rw [G3 j hj] at hq;rw [NM j hj] at hy;rcases he.c9 j q y hq hy with h1 | ⟨g,cap,cur,rfl,h1,h2,h3,h4,h5,h6⟩
      ·exact .inl h1
      ·refine .inr ⟨g,cap,cur,rfl,h1,h2,h3,h4,fun mA=>?_,h6⟩;obtain ⟨y0,h7,h8⟩:=J5 j _ hj hy;rcases h8 with h8 | h8
       ·exact (dG j y0 g h7 (by rw [<- h8];rfl)).2 mA
       ·have:=h8 g rfl;have:=h.env.bm mA;omega
     ·rw [gU j hj] at hq;rw [Yb j hj] at hy;rcases h.env.c9 j q y hq hy with h1 | ⟨g,cap,cur,rfl,h1,h2,h3,h4,h5,h6⟩
      ·exact .inl h1
      ·have bo:∀ i y',i < m1->E.τ[i]? = some y' -> y'.ownBlock≠some g:=fun i y' hi iv=>h.env.iB j i _ y' g (by omega) hy iv rfl
       have DC:¬ E1.S g:=fun hs=>by
        rcases hS g hs with h7 | ⟨i,y',h7,h8,h9⟩
        ·exact h5 (List.mem_of_mem_take h7)
        ·exact bo i y' h7 h8 h9
       refine .inr ⟨g,cap,cur,rfl,by rw [hh g (dq h1) DC];exact h1,⟨h2.1,h2.2.mono hn.c⟩,h3,h4,h5,fun x v hc hg=>?_⟩
       ·rcases dB x v hc with h7 | h7 | ⟨i,y',h7,h8,h9⟩
        ·exact h6 x v h7 hg
        ·have:=dq h1;omega
        ·exact (bo i y' h7 h8 (by rw [h9,hg])).elim
    iB:=fun j j' y y' g Ju hy iv hg vY=>by
     rcases Nat.lt_or_ge j m1 with hj | hj
     ·rw [NM j hj] at hy;obtain ⟨y0,h7,h8⟩:=J5 j _ hj hy;rcases Nat.lt_or_ge j' m1 with jw | jw
      ·rw [NM j' jw] at iv;exact he.iB j j' y y' g Ju hy iv hg vY
      ·rw [Yb j' jw] at iv;rcases h8 with h8 | h8
       ·exact h.env.iB j j' y0 y' g Ju h7 iv (by rw [<- h8];exact hg) vY
       ·have:=h8 g hg;have:=(dG j' y' g iv vY).1;omega
     ·rw [Yb j hj] at hy;rcases Nat.lt_or_ge j' m1 with jw | jw
      ·rw [NM j' jw] at iv;obtain ⟨y0,h7,h8⟩:=J5 j' _ jw iv;rcases h8 with h8 | h8
       ·exact h.env.iB j j' y y0 g Ju hy h7 hg (by rw [<- h8];exact vY)
       ·have:=h8 g vY;have:=(dG j y g hy hg).1;omega
      ·rw [Yb j' jw] at iv
       exact h.env.iB j j' y y' g Ju hy iv hg vY }
  ·exact {
    c:=fun x v hc=>hn.c x v (h.nw.c x v hc)
    cn:=fun x v hc=>by
     rcases dB x v hc with h1 | h1 | ⟨i,y,_,h2,h3⟩
     ·exact h.nw.cn x v h1
     ·have:=h.fr.size;exact .inr (.inl (by omega))
     ·rcases h.nw.own h2 h3 with h4 | h4
      ·exact .inr (.inr h4)
      ·exact .inr (.inl h4)
    β:=h.nw.β
    tk:=fun j q0 y0 DP Hc=>by
     obtain ⟨q1,y1,h1,h2,h3,h4,h5,h6⟩:=h.nw.tk j q0 y0 DP Hc;rcases Nat.lt_or_ge j m1 with hj | hj
     ·obtain ⟨y,q',y',g1,g2,g3,g4,g5,g6,g7⟩:=wj j q1 hj h1;rw [h2] at g1;simp only [oI] at g1;subst g1;refine ⟨q',y',by rw [G3 j hj];exact g2,by rw [NM j hj];exact g3,h3.trans g4,h4.trans g5,?_,?_⟩
      ·rcases g6 with ⟨g6,rfl⟩ | g6
       ·rcases h5 with ⟨h5,rfl⟩ | h5
        ·exact .inl ⟨by omega,rfl⟩
        ·exact .inr (by omega)
       ·rcases h5 with ⟨h5,_⟩ | h5
        ·exact .inr (by omega)
        ·exact .inr (by omega)
      ·rcases g7 with g7 | g7
       ·rcases h6 with h6 | h6
        ·exact .inl (g7.trans h6)
        ·exact .inr fun g hg=>h6 g (by rw [<- g7];exact hg)
       ·refine .inr fun g hg=>?_;have:=g7 g hg;have:=h.fr.size;omega
     ·exact ⟨q1,y1,by rw [gU j hj];exact h1,by rw [Yb j hj];exact h2,h3,h4,h5,h6⟩
    tn:=fun j y g DU hy hg=>by
     rcases Nat.lt_or_ge j m1 with hj | hj
     ·rw [NM j hj] at hy;obtain ⟨y0,h7,h8⟩:=J5 j _ hj hy;rcases h8 with h8 | h8
      ·exact h.nw.tn j y0 g DU h7 (by rw [<- h8];exact hg)
      ·have:=h8 g hg;have:=h.fr.size;omega
     ·rw [Yb j hj] at hy;exact h.nw.tn j y g DU hy hg
    l0:=h.nw.l0 }
  ·by_cases hjs:E1.S j
   ·left;rcases hS j hjs with h1 | ⟨i,y,_,h2,h3⟩
    ·have z8:=List.mem_of_mem_take h1;obtain ⟨r0,hr0,zm⟩:=h.nw.β;rw [hr0] at z8;rcases List.mem_append.1 z8 with z8 | z8
     ·exact .inl (.inl z8)
     ·exact .inr (zm j z8)
    ·rcases h.nw.own h2 h3 with h4 | h4
     ·exact .inl (.inr h4)
     ·exact .inr h4
   ·exact .inr (hh j hj hjs)
 exact ⟨v,r,eO,E2.tk,E',rfl,hΦ,PH,xr,cm,Rv.mono Aa Xr,hx,rfl,Wa⟩
theorem rz {f:FuncId} {args bF:List DV} {os:List (List DV)} (n1 m1:Nat) (uZ:Nat.ble n1 st.bx.length=true) (mC:Nat.ble m1 st.tk.length=true)
  (qZ:kZ [] n1 n1 m1 os (st.bx.take n1)) (ha:CcL [] n1 n1 m1 bF args)
  {Φ:DV->List (List DV)->List TkE->Prop} (hc:Ev X.P f bF os (st.tk.take m1) Φ) (bp:X.still=false) (hX:X.bt=[]) {vs:List Value} (h:Rel X E st a w) (hv:RvL E args vs) :
  Calls X.P f vs.toArray w fun e w'=>∃ v r eO cA E',e = .returned v/\Φ r eO cA /\ eO.length=n1/\cA.length=m1/\Rel X E' ⟨st.sl,eO ++ st.bx.drop n1,cA ++ st.tk.drop m1⟩ a w' /\ Rv E' r v/\Ext E E' /\ E'.β=E.β /\
   ∀ (i:Nat) b,n1<=i->E.β[i]? = some b->w'.heap[b]? = w.heap[b]?:=
 L7 n1 m1 (by exact uZ) (by exact mC) qZ ha (hc.aav hX) bp h hv
theorem xu {f:FuncId} {args bF:List DV} {os:List (List DV)} {d:Nat} (n1 m1:Nat) (gh:Enters X.P f) (hd:eV X.nt st.sl (some d)=true) (uZ:Nat.ble n1 st.bx.length=true) (mC:Nat.ble m1 st.tk.length=true)
  (qZ:kZ [] n1 n1 m1 os (st.bx.take n1)) (ha:CcL [] n1 n1 m1 bF args)
  {Φ:DV->List (List DV)->List TkE->Prop} (hc:Ev X.P f bF os (st.tk.take m1) Φ)
  (hk:∀ r eO cA,Φ r eO cA -> eO.length=n1->cA.length=m1->∃ st',Wk X ⟨(d,⟨[],r⟩) :: st.sl,eO ++ st.bx.drop n1,cA ++ st.tk.drop m1⟩ st' /\ go X 4000 k st') (bp:X.still=false:=by exact rfl) (hX:X.bt=[]:=by exact rfl):CallG X f args (some d) k st:=by
 refine ⟨gh,bp,fun E a w vs h hv=>(rz n1 m1 uZ mC qZ ha hc bp hX h hv).mono ?_⟩;rintro e w' ⟨v,r,eO,cA,E',rfl,hΦ,PH,xr,cm,NS,_,_,_⟩;obtain ⟨st',S7,zu⟩:=hk r eO cA hΦ PH xr;obtain ⟨E3,Yc⟩:=S7 _ _ _ (bh cm hd r v NS);exact go_sound 4000 _ _ zu E3 _ w' Yc
theorem fw {f:FuncId} {args bF:List DV} {os:List (List DV)} {d:Nat} (n1 m1:Nat) (gh:Enters X.P f) (hd:eV X.nt st.sl (some d)=true) (uZ:Nat.ble n1 st.bx.length=true) (mC:Nat.ble m1 st.tk.length=true)
  (qZ:kZ [] n1 n1 m1 os (st.bx.take n1)) (ha:CcL [] n1 n1 m1 bF args)
  {Φ:DV->List (List DV)->List TkE->Prop} (hc:Ev X.P f bF os (st.tk.take m1) Φ)
  (hk:∀ r eO cA,Φ r eO cA -> eO.length=n1->cA.length=m1->go X 4000 k ⟨(d,⟨[],r⟩) :: st.sl,eO ++ st.bx.drop n1,cA ++ st.tk.drop m1⟩) (bp:X.still=false:=by exact rfl) (hX:X.bt=[]:=by exact rfl):CallG X f args (some d) k st:=
 xu n1 m1 gh hd uZ mC qZ ha hc (fun r eO cA h1 h2 h3=>⟨_,Wk.refl _ _,hk r eO cA h1 h2 h3⟩) bp hX
theorem L8 {all:Array Oper} {o1 o2 o3:Oper} {r:List Oper} {d1 d2 kt t sT f off ft ty et e jS m xx nn:Nat} {bb:Bool} {zz:List Value} {z:Int} {kd:IntKind} {es:List (List DV)} {cs:List DV} {s ix x:Operand} {dv dv':DV}
  (h1:o1.op = .indexAddr t s ix/\o1.dst=some d1) (h2:o2.op = .fieldAddr sT (.tmp d1) f/\o2.dst=some d2/\o2.guard=none) (h3:o3.op = .store ty (.tmp d2) x/\o3.dst=none/\o3.guard=none)
  (E7:eV X.nt st.sl (some d1)=true) (XC:eV X.nt ((d1,⟨[],.pt [] 0⟩) :: st.sl) (some d2)=true)
  (hs:rv st [] s=some (.sl 0 es (some kt))) (hi:rv st [] ix=some (.v (.int kd z))) (hx:rv ⟨(d2,⟨[],.pt [] 0⟩) :: (d1,⟨[],.pt [] 0⟩) :: st.sl,st.bx,st.tk⟩ [] x=some dv) (ZY:eraD dv=some dv') (L9:dv.cells=[dv])
  (hT:X.T.find t=some ⟨nn,bb,.sl et e jS,zz⟩) (u7:X.T.off sT f=some (off,ft)) (di:X.T.sz ty=some 1)
  (hq:st.tk[kt]? = some ⟨m,xx,e,some cs⟩) (px:es.length=m) (hz:0<=z/\z < m) (aad:off + 1<=e)
  (hk:go X 4000 (.ops all r :: k) ⟨(d2,⟨[],.pt [] 0⟩) :: (d1,⟨[],.pt [] 0⟩) :: st.sl,st.bx,st.tk.set kt ⟨m,xx,e,some (cs.set (z.toNat * e + off) dv')⟩⟩)
  (bp:X.still=false:=by exact rfl):W0 X o1 (.ops all (o2 :: o3 :: r) :: k) st:=by
 intro E a w h;have gY:=h.rl;have e1:=bc gY hs;have e2:=cC (bc gY hi);unfold Rv at e1;obtain ⟨bs,ns,lN,e1,⟨DC,wh⟩,Vl,wi⟩:=e1;subst DC;obtain ⟨q',nQ,_,Xj⟩:=wi kt rfl;have kF:E.tk[kt]? = some ⟨m,xx,e,some cs⟩:=by rw [h.tk];exact hq
 rw [kF] at nQ;simp only [oI] at nQ;subst nQ;have hy:=Xj px;rw [e1,px] at hy;rw [px] at e1;have Yd:=h.env.c9 kt _ _ kF hy;rcases Yd with ⟨oN,tX,_⟩ | ⟨g,cap,cur,oN,hw0,⟨q7,DZ⟩,wm,zw,iT,D0⟩
 ·simp only at tX;omega
 injection oN with i1 i2 i3
 subst i1 i3;obtain ⟨hu,ii,zv,v7,_,Ye,_,_⟩:=fo X.hT hT;have nJ:iA X.P et=some e:=by rw [fO v7,Ye]
 have acd:(execOp a.eval o1).run X.P w = .ok (.value (.pointer (some ⟨g,z.toNat * e,none⟩))) w:=by
  have bS:(Instr.indexAt t (.slice (some ⟨g,0,none⟩) m lN) (.int kd z)).run X.P w = .ok (.pointer (some ⟨g,z.toNat * e,none⟩)) w:=by
   simp [Instr.indexAt,asIntOf,run_underlying hu,hz.1,hz.2,aV nJ,Addr.add_lit]
  simp only [execOp,h1.1,e1,e2,Sem.run_bind,bS,Result.andThen_ok,Sem.run_pure]
 refine lM acd ?_;rw [h1.2];have hr1:Rel X E ⟨(d1,⟨[],.pt [] 0⟩) :: st.sl,st.bx,st.tk⟩ (a.put (some d1) (.pointer (some ⟨g,z.toNat * e,none⟩))) w:=bh h E7 (.pt [] 0) _ (by unfold Rv;exact ⟨g,z.toNat * e,rfl,by simp only [RvAt]⟩);generalize ha1:a.put (some d1) (.pointer (some ⟨g,z.toNat * e,none⟩))=a1 at hr1
 have Yf:a1.eval (.tmp d1) = .pointer (some ⟨g,z.toNat * e,none⟩):=by
  subst ha1;simp only [eV,bg,Nat.blt_eq] at E7;simp [Act.eval,Act.put,h.sz,E7.1]
 show kq X (.ops all (o2 :: o3 :: r) :: k) .normal a1 w;simp only [kq,wpList,Region.wanted,h2.2.2,h3.2.2,if_true];refine .inl (lM (v:=.pointer (some ⟨g,z.toNat * e + off,none⟩)) (w':=w) ?_ ?_)
 ·simp only [execOp,h2.1,Yf,Sem.run_bind,jD (sx X.hT u7),Result.andThen_ok,Sem.run_pure]
 rw [h2.2.1];have j8:Rel X E ⟨(d2,⟨[],.pt [] 0⟩) :: (d1,⟨[],.pt [] 0⟩) :: st.sl,st.bx,st.tk⟩ (a1.put (some d2) (.pointer (some ⟨g,z.toNat * e + off,none⟩))) w:=bh hr1 XC (.pt [] 0) _ (by unfold Rv;exact ⟨g,z.toNat * e + off,rfl,by simp only [RvAt]⟩);generalize Sy:a1.put (some d2) (.pointer (some ⟨g,z.toNat * e + off,none⟩))=a2 at j8
 have ht2:a2.eval (.tmp d2) = .pointer (some ⟨g,z.toNat * e + off,none⟩):=by
  subst Sy;simp only [eV,bg,Nat.blt_eq] at XC;simp [Act.eval,Act.put,hr1.sz,XC.1]
 have e3:=bc j8.rl hx
 have fD:RvC E [dv] (a2.eval x).cells.toList:=by
  have:=e3.cells (gJ (n:=1) (by rw [L9];rfl) (by omega))
  rwa [L9] at this
 have we:(a2.eval x).cells.toList.length=1:=by rw [fD.1.length];all_goals rfl
 obtain ⟨xv,hxv⟩:∃ xv,(a2.eval x).cells.toList=[xv]:=by
  match hh:(a2.eval x).cells.toList,we with
  | [y],_=>exact ⟨y,rfl⟩
 obtain ⟨h5,h6⟩:=DZ cs rfl;simp only at h5 h6 q7 hw0 wm;have Wb:cur.toList.length=lN * e:=sU q7;have hme:m * e<=lN * e:=Nat.mul_le_mul_right _ wm
 have nK:z.toNat * e + off + 1<=m * e:=by
  have:(z.toNat + 1) * e<=m * e:=Nat.mul_le_mul_right _ (by omega);rw [Nat.add_mul] at this;omega
 have Sz:=gV (P:=X.P) (t:=ty) (off:=z.toNat * e + off) (n:=1) hw0 (zN X.hT di) we (by rw [q7];omega) (List.all_eq_true.2 fD.2);refine .inl (SY (w':=World.c8 w g (.cells ((cur.toList.take (z.toNat * e + off) ++ (a2.eval x).cells.toList ++ cur.toList.drop (z.toNat * e + off + 1)).toArray) xx (0,0))) ?_ ?_)
 ·simp only [execOp,h3.1,ht2,Instr.storeAt,Instr.sureAddr,Sem.run_bind,Sem.run_pure,Result.andThen_ok,Sz]
 rw [h3.2.1]
 have Xm:cur.toList.take (z.toNat * e + off) ++ (a2.eval x).cells.toList ++ cur.toList.drop (z.toNat * e + off + 1)=cur.toList.set (z.toNat * e + off) xv:=by
  rw [hxv,List.set_eq_take_append_cons_drop,ah (by omega)];simp
 rw [Xm]
 have hx1:RvC E.cl [dv'] [xv]:=by
  rw [hxv] at fD;have h7:=fD.1;simp only [RvL] at h7;obtain ⟨v,s',h8,h9,u9⟩:=h7;simp only [List.cons.injEq] at h8;obtain ⟨rfl,rfl⟩:=h8;exact ⟨rvL_cons (wb ZY h9) (by simp only [RvL]),fD.2⟩
 have NK:DK (World.c8 w g (.cells (cur.toList.set (z.toNat * e + off) xv).toArray xx (0,0))) E.c E.β ⟨m,xx,e,some (cs.set (z.toNat * e + off) dv')⟩ (.slice (some ⟨g,0,none⟩) m lN):=by
  refine .inr ⟨g,lN,_,rfl,eI hw0,⟨by simpa using Wb,fun cs' zR=>?_⟩,wm,zw,iT,D0⟩;simp only [oI] at zR;subst zR;simp only;refine ⟨by rw [List.length_set];exact h5,?_⟩;rw [List.take_set];have aE:z.toNat * e + off < (cur.toList.take (m * e)).length:=by rw [zLenT];omega
  rw [List.set_eq_take_append_cons_drop,ah (by omega),List.set_eq_take_append_cons_drop,ah aE];have h8:=(RvC.take (z.toNat * e + off) h6).append (RvC.append hx1 (RvC.drop (z.toNat * e + off + 1) h6));simpa using h8
 have Vq:some g≠some g->False:=fun h=>h rfl
 obtain ⟨cm,hext⟩:=B7 (q':=⟨m,xx,e,some (cs.set (z.toNat * e + off) dv')⟩) (w':=World.c8 w g (.cells (cur.toList.set (z.toNat * e + off) xv).toArray xx (0,0))) j8 bp kF hy rfl rfl rfl (.inl ⟨rfl,rfl⟩) NK (.inl rfl) rfl rfl rfl (by rw [fB];exact bn _) (fun j _ bo=>cS (by
  rintro rfl
  exact bo rfl))
 exact go_sound 4000 _ _ hk _ _ _ cm
open Classical in
noncomputable def E8 (E:En) (w:World) (y:Value) (n:Nat):Addr->Option Value:=
 fun x=>if y.ownBlock=some x.block/\x.spot=none/\x.off < n then w.cell? x else E.c x
theorem ko {y:Value} {n:Nat} {x:Addr} {v:Value} (h:E8 E w y n x=some v):(y.ownBlock=some x.block/\x.spot=none/\x.off < n/\w.cell? x=some v)∨E.c x=some v:=by
 unfold E8 at h
 grind
theorem TM (h:Rel X E st a w) {k n ty e:Nat} {cs:List DV} {ns:List (List DV)} (hq:st.tk[k]? = some ⟨n,ty,e,some cs⟩) (cx:cs=ns.flatten) (DC:∀ x∈ns,x.length=e) (kR:ns.length=n) :
  ∃ E',Rel X E' ⟨st.sl,st.bx,st.tk.set k ⟨n,ty,e,none⟩⟩ a w/\Ext E E' /\ ∀ es y,es.length=n->Rv E (.sl 0 es (some k)) y->Rv E' (.sl e ns (some k)) y:=by
 subst cx;have kF:E.tk[k]? = some ⟨n,ty,e,some ns.flatten⟩:=by rw [h.tk];exact hq
 have DW:=(gS kF).1;have hkτ:k < E.τ.length:=by rw [h.env.tl];exact DW
 have hv:E.τ[k]? = some E.τ[k]:=gE hkτ;generalize E.τ[k]=v at hv;have Yd:=h.env.c9 k _ v kF hv
 have jk:∀ x u,E.c x=some u->E8 E w v (n * e) x=some u:=fun x u hx=>by
  unfold E8;split
  ·exact h.env.sub x u hx
  ·exact hx
 have hext:Ext E ⟨E8 E w v (n * e),E.β,E.tk.set k ⟨n,ty,e,none⟩,E.τ⟩:=⟨jk,fun _ _ h=>h,fun j q hqj=>by
  by_cases hj:j=k
  ·subst hj;rw [kF] at hqj;simp only [oI] at hqj;subst hqj;exact ⟨_,j5 DW,.inl ⟨rfl,rfl⟩⟩
  ·exact ⟨q,by rw [List.getElem?_set_ne (Ne.symm hj)];exact hqj,.inl ⟨rfl,rfl⟩⟩⟩
 refine ⟨⟨E8 E w v (n * e),E.β,E.tk.set k ⟨n,ty,e,none⟩,E.τ⟩,dr h hext ?_ (by rw [h.tk]) ?_ h.fr h.sh h.bt,hext,?_⟩
 ·exact {
   len:=h.env.len
   tl:=by simp only [List.length_set];exact h.env.tl
   dY:=fun i cs hi=>by
    obtain ⟨b,t,arr,hb,hw,hc⟩:=h.env.dY i cs hi;exact ⟨b,t,arr,hb,hw,hc.mono hext⟩
   inj:=h.env.inj
   sub:=fun x u hx=>by
    rcases ko hx with ⟨_,_,_,h1⟩ | h1
    ·exact h1
    ·exact h.env.sub x u h1
   pc:=fun x u hx hm=>by
    rcases ko hx with ⟨h1,_⟩ | h1
    ·exact (iD Yd h1).2 hm
    ·exact h.env.pc x u h1 hm
   c9:=fun j q y hj hy=>by
    by_cases hjk:j=k
    ·subst hjk;have jw:(E.tk.set j ⟨n,ty,e,none⟩)[j]? = some q:=hj;rw [j5 DW] at jw;have iv:E.τ[j]? = some y:=hy;rw [hv] at iv;simp only [oI] at jw iv;subst jw iv;rcases Yd with ⟨h1,h2,_⟩ | ⟨g,cap,cur,rfl,h1,h2,h3,h4,h5,h6⟩
     ·exact .inl ⟨h1,h2,fun cs hc=>by cases hc⟩
     ·refine .inr ⟨g,cap,cur,rfl,h1,⟨h2.1,qR.none rfl⟩,h3,h4,h5,fun x u hx GZ=>?_⟩;rcases ko hx with ⟨_,_,h7,_⟩ | h7
      ·exact h7
      ·have:=h6 x u h7 GZ;simp only [TkE.kn] at this;omega
    ·have jw:E.tk[j]? = some q:=by
      have:(E.tk.set k ⟨n,ty,e,none⟩)[j]? = some q:=hj
      rwa [List.getElem?_set_ne (Ne.symm hjk)] at this
     rcases h.env.c9 j q y jw hy with h1 | ⟨g,cap,cur,rfl,h1,h2,h3,h4,h5,h6⟩
     ·exact .inl h1
     ·refine .inr ⟨g,cap,cur,rfl,h1,⟨h2.1,h2.2.mono jk⟩,h3,h4,h5,fun x u hx GZ=>?_⟩;rcases ko hx with ⟨h7,_⟩ | h7
      ·exact (h.env.iB j k _ v g hjk hy hv rfl (by rw [h7,GZ])).elim
      ·exact h6 x u h7 GZ
   iB:=h.env.iB }
 ·exact {
   c:=fun x u hx=>jk x u (h.nw.c x u hx)
   cn:=fun x u hx=>by
    rcases ko hx with ⟨h1,_⟩ | h1
    ·rcases h.nw.own hv h1 with h2 | h2
     ·exact .inr (.inr h2)
     ·exact .inr (.inl h2)
    ·exact h.nw.cn x u h1
   β:=h.nw.β
   tk:=fun j q0 y0 DP Hc=>by
    obtain ⟨q1,y1,h1,h2,h3,h4,h5,h6⟩:=h.nw.tk j q0 y0 DP Hc;by_cases hj:j=k
    ·subst hj;rw [kF] at h1;simp only [oI] at h1;subst h1;exact ⟨_,y1,j5 DW,h2,h3,h4,h5,h6⟩
    ·exact ⟨q1,y1,by rw [List.getElem?_set_ne (Ne.symm hj)];exact h1,h2,h3,h4,h5,h6⟩
   tn:=fun j y g hj hy=>h.nw.tn j y g hj hy
   l0:=h.nw.l0 }
 ·intro es y px hy;unfold Rv at hy ⊢;obtain ⟨b,m,cap,rfl,⟨rfl,hmc⟩,hr,bp⟩:=hy;obtain ⟨q',nQ,_,hτ⟩:=bp k rfl;rw [kF] at nQ;simp only [oI] at nQ;subst nQ;have hy:=hτ px;rw [hv] at hy;simp only [oI] at hy;subst hy;refine ⟨b,es.length,cap,rfl,⟨by omega,hmc⟩,fun bo=>?_,fun k' gU=>?_⟩
  ·rcases Yd with ⟨h1,h2,h3⟩ | ⟨g,aaj,cur,h0,h1,h2,h3,h4,h5,h6⟩
   ·simp only at h2;exact (bo (List.eq_nil_of_length_eq_zero (by omega))).elim
   ·injection h0 with i1 i2 i3
    subst i1;refine ⟨rfl,?_⟩;obtain ⟨h7,h8⟩:=h2.2 _ rfl;refine rvEs_flat (h8.mono (E:=⟨E.c,[],[],[]⟩) ⟨jk,fun _ _ h=>by simp at h,fun _ _ h=>by simp at h⟩) DC fun j u hj=>?_;rw [cQ] at hj;split at hj
    ·rename_i vZ;show E8 E w _ (n * e) _=_;unfold E8;rw [ah ⟨rfl,rfl,by simpa [ao] using vZ⟩];simp only [ab,ao,Nat.zero_add];rw [cJ h1];simpa using hj
    ·cases hj
  ·cases gU;exact ⟨_,j5 DW,by simp only;omega,fun _=>hv⟩
theorem PI {j o k n ty e:Nat} {ocs:List DV} {es ns:List (List DV)} (hq:st.tk[k]? = some ⟨n,ty,e,some ns.flatten⟩) (DC:∀ x∈ns,x.length=e) (kR:ns.length=n) (hj:st.bx[j]? = some ocs) (ho:ocs[o]? = some (.sl 0 es (some k))) (px:es.length=n) :
  Wk X st ⟨st.sl,st.bx.set j (ocs.set o (.sl e ns none)),st.tk.set k ⟨n,ty,e,none⟩⟩:=by
 intro E a w h;obtain ⟨E',hr,hx,wj⟩:=TM h hq rfl DC kR;refine ⟨E',{ hr with env:=?_ }⟩
 exact { hr.env with
  len:=by simp only [List.length_set];exact hr.env.len
  dY:=fun i cs' hi=>by
   by_cases qX:i=j
   ·subst qX;have aE:=(gS hj).1;have nB:(st.bx.set i (ocs.set o (.sl e ns none)))[i]? = some cs':=hi;rw [j5 aE] at nB;simp only [oI] at nB;subst nB;obtain ⟨b,t,arr,hb,hw,hc⟩:=hr.env.dY i ocs hj;obtain ⟨b0,t0,Lo,iT,hw0,D0⟩:=h.env.dY i ocs hj;have nU:=hx.β i b0 iT;rw [hb] at nU;simp only [oI] at nU;subst nU;rw [hw] at hw0;simp only [oI,Obj.cells.injEq] at hw0
    have Hy:arr=Lo:=by
     have:=hw0.1;simpa using this
    subst Hy;refine ⟨b,t,arr,hb,hw,?_,hc.2⟩;obtain ⟨v,Dy,Ss⟩:=D0.1.get ho;have NS:=wj es v px Ss;have mB:=(gS ho).1;have ZA:arr.length=ocs.length:=hc.1.length
    have h1:=(RvL.take o hc.1).append (rvL_cons (d:=.sl e ns none) (v:=v) (by
     unfold Rv at NS ⊢;obtain ⟨b,n,cap,g1,g2,g3,_⟩:=NS
     exact ⟨b,n,cap,g1,g2,g3,fun k hk=>by cases hk⟩) (RvL.drop (o + 1) hc.1))
    rw [List.set_eq_take_append_cons_drop,ah mB]
    have h2:arr.take o ++ v :: arr.drop (o + 1)=arr:=by
     have hoa:o < arr.length:=by omega
     have:arr[o]=v:=by grind
     rw [<- this];simp
    rwa [h2] at h1
   ·have nB:(st.bx.set j (ocs.set o (.sl e ns none)))[i]? = some cs':=hi;rw [List.getElem?_set_ne (Ne.symm qX)] at nB
    exact hr.env.dY i cs' nB }
theorem Wk.Ht (i j:Nat) (S S':St) (he:S'=gl i j S) (Od:Nat.ble X.n0 i=true) (DU:Nat.ble X.n0 j=true) (hi:Nat.blt i S.bx.length=true) (hj:Nat.blt j S.bx.length=true) (hX:X.bt=[]:=by exact rfl):Wk X S' S:=fun E a w h=>by
 subst he;simp only [Nat.blt_eq] at hi hj;exact JG hX h (nL Od) (nL DU) hi hj
theorem PJ {c:Code} (I:Nat->St->Prop) (j0:Nat) (kP:St) (hw:Wk X st kP) (h0:I j0 kP)
  (hr:∀ j s,I j s->go X 4000 (.code c :: .GX (fun s'=>∃ D7,Wk X s' D7 /\ ∃ j',j' < j/\I j' D7) :: k) s):tY X c k st:=by
 intro E a w h;obtain ⟨E0,hr0⟩:=hw _ _ _ h
 classical
 let Inv:Act->World->Prop:=fun a w=>∃ j s E,Rel X E s a w/\I j s
 let μ:Act->World->Nat:=fun a w=>if hI:Inv a w then Classical.choose (least hI) else 0
 refine wp_loop Inv μ ⟨j0,kP,E0,hr0,h0⟩ ?_;intro a1 w1 hI;have zW:=(Classical.choose_spec (least hI)).1;obtain ⟨s,E1,cm,hIs⟩:=zW;have hs:=go_sound 4000 _ _ (hr _ s hIs) E1 a1 w1 cm;rw [ek] at hs;refine wp_mono hs ?_;intro e a2 w2 hq
 cases e with
 | normal=>
  obtain ⟨s',E2,D8,D7,S7,j',jw,hI'⟩:=hq;obtain ⟨E3,D9⟩:=S7 _ _ _ D8;have Xt:Inv a2 w2:=⟨j',D7,E3,D9,hI'⟩;refine ⟨Xt,?_⟩;simp only [μ,dif_pos hI,dif_pos Xt];exact Nat.lt_of_le_of_lt ((Classical.choose_spec (least Xt)).2 j' ⟨D7,E3,D9,hI'⟩) jw
 | exit id=>exact hq
 | goto l=>exact hq
 | ret=>exact hq
 | panic c=>exact hq
 | outgrown=>exact hq
mutual
def flatD:DV->Bool
 | .v _=>true
 | .agg l=>flatL l
 | .bK l=>flatL l
 | _=>false
def flatL:List DV->Bool
 | []=>true
 | d :: r=>flatD d && flatL r
end
mutual
theorem Rv.flat {E E':En}:∀ {d:DV} {v:Value},flatD d=true->Rv E d v->Rv E' d v
 | .v x,v,_,h=>by unfold Rv at h ⊢;exact h
 | .agg l,v,hf,h=>by
  simp only [flatD] at hf;simp only [Rv] at h ⊢;obtain ⟨vs,h1,h2,h3⟩:=h;exact ⟨vs,h1,RvL.flat hf h2,h3⟩
 | .bK l,v,hf,h=>by
  simp only [flatD] at hf;simp only [Rv] at h ⊢;obtain ⟨vs,h1,h2⟩:=h;exact ⟨vs,h1,RvL.flat hf h2⟩
 | .ud,_,hf,_=>by simp [flatD] at hf
 | .sl _ _ _,_,hf,_=>by simp [flatD] at hf
 | .pt _ _,_,hf,_=>by simp [flatD] at hf
 | .loc _ _,_,hf,_=>by simp [flatD] at hf
 | .el _ _,_,hf,_=>by simp [flatD] at hf
 | .ms _ _ _ _ _,_,hf,_=>by simp [flatD] at hf
 | .fn _ _ _,_,hf,_=>by simp [flatD] at hf
 | .pY _ _,_,hf,_=>by simp [flatD] at hf
theorem RvL.flat {E E':En}:∀ {l:List DV} {vs:List Value},flatL l=true->RvL E l vs->RvL E' l vs
 | [],vs,_,h=>by simpa only [RvL] using h
 | d :: r,vs,hf,h=>by
  simp only [flatL,bg] at hf;simp only [RvL] at h ⊢;obtain ⟨v,s,h1,h2,h3⟩:=h;exact ⟨v,s,h1,Rv.flat hf.1 h2,RvL.flat hf.2 h3⟩
end
theorem J6 {f:FuncId} {args bF:List DV} {d:Nat} {y:DV} (gh:Enters X.P f) (hc:bA X.P f bF y) (ha:CcL st.bx 0 0 0 bF args) (hy:flatD y=true) (hd:eV X.nt st.sl (some d)=true)
  (hk:go X 4000 k ⟨(d,⟨[],y⟩) :: st.sl,st.bx,st.tk⟩) (bp:X.still=false:=by exact rfl):CallG X f args (some d) k st:=by
 refine ⟨gh,bp,fun E a w vs h hv=>(jF h.env hc ha hv).mono ?_⟩;rintro e w' ⟨v,E2,rfl,hr,hm,_⟩;have hh:∀ i,i < w.heap.size->w'.heap[i]? = w.heap[i]?:=fun i hi=>hm.block i hi (fun h=>h);have cm:Rel X E st a w':=dr h (Ext.refl E) (h.env.gW hh) h.tk h.nw (h.fr.cu hm.os hm.tape hm.output hm.size fun i hi=>.inr (hh i hi)) (mJ bp) (h.bt.gW fun b hb=>hh b (h.env.bm hb));exact go_sound 4000 _ _ hk E _ w' (bh cm hd y v (Rv.flat hy hr))
theorem rA {D:Dr} {c:Bool} {i:Nat} {s0:List (Nat × Sl)} {f:FuncId} {args bF:List DV} {d:Nat} {y:DV} {r:List (Nat × Oper)} (gh:Enters X.P f) (hc:bA X.P f bF y) (ha:CcL st.bx 0 0 0 bF args) (hy:flatD y=true) (hd:(eV X.nt st.sl (some d) && eV X.nt s0 (some d))=true)
  (hk:put2 s0 st (some d) true [] y (goD X D 3000 c r)) (bp:X.still=false:=by exact rfl):wF X D c i r f args (some d) s0 st:=by
 refine ⟨gh,fun hl E0 wr hD E a w vs h hv=>(jF h.rel.env hc ha hv).mono ?_⟩;rintro e w' ⟨v,E2,rfl,hr,hm,_⟩;have hh:∀ i,i < w.heap.size->w'.heap[i]? = w.heap[i]?:=fun i hi=>hm.block i hi (fun h=>h);have cm:Rel X E st a w':=dr h.rel (Ext.refl E) (h.rel.env.gW hh) h.rel.tk h.rel.nw (h.rel.fr.cu hm.os hm.tape hm.output hm.size fun i hi=>.inr (hh i hi)) (mJ bp) (h.rel.bt.gW fun b hb=>hh b (h.rel.env.bm hb));have hs:Hg none E w E w':=⟨Ext.refl E,⟨[],by simp⟩,fun j b hb _=>hh b (h.rel.env.bm (mG hb))⟩;have hC:=JD h hs cm (fun j hj=>by cases hj);refine ⟨v,rfl,fun _=>hC,?_⟩;have Eg:gB X ⟨D,E0,wr⟩ c E s0 st (a.put none v) w':=wG h hs cm (fun h1=>hC (h.cc h1)) (fun i x hx=>.inr ⟨hx,fun d hd=>by cases hd⟩) rfl;obtain ⟨s1,sj,qL,eJ⟩:=iY Eg hd true [] y v (fun _ _ p hp=>by cases hp) (fun _=>Rv.flat hy hr) (fun _ _=>Rv.flat hy hr) (fun hn=>(hn (aX _)).elim) hk;exact gK (D:=⟨D,E0,wr⟩) hD 3000 c r _ _ qL hl E _ w' eJ
theorem CallG.Ht {S:St} {f:FuncId} {args bF:List DV} {dst:Option Nat} (i j:Nat) (hS:st=gl i j S) (ha:args=renL (swp i j) bF) (Od:Nat.ble X.n0 i=true) (DU:Nat.ble X.n0 j=true) (hi:Nat.blt i S.bx.length=true) (hj:Nat.blt j S.bx.length=true)
  (h:CallG X f bF dst k S) (hX:X.bt=[]:=by exact rfl):CallG X f args dst k st:=by
 subst hS ha;simp only [Nat.blt_eq] at hi hj;refine ⟨h.1,h.2.1,fun E a w vs hr hv=>?_⟩
 have hlen:E.β.length=S.bx.length:=by
  rw [hr.env.len];simp only [gl,fF,eK]
 exact h.2.2 _ a w vs (Ej hX hr (nL Od) (nL DU) hi hj) (RvL.Ht (by rw [hlen];exact hi) (by rw [hlen];exact hj) hv)
end
end Dv
end Go.Proofs.YtfdedoiiahbnnaaGreat
set_option maxRecDepth 100000
namespace Go.Proofs.YtfdedoiiahbnnaaGreat
open Go Go.RowKit Dv Go.Proofs.Tryz
def Ma:List (List DV):=[[.v (.int .i32 0),.v (.int .i32 31)],[.v (.int .i32 127),.v (.int .i32 159)]]
def Mb:List (List DV):=[[.v (.int .i32 8232),.v (.int .i32 8233)]]
def Av:List (List DV):=[(1564,1564),(8206,8207),(8234,8238),(8294,8297)].map fun p:Int × Int=>[DV.v (.int .i32 p.1),DV.v (.int .i32 p.2)]
def Mc:List (List DV):=[(173,173),(1536,1541),(1757,1757),(1807,1807),(2274,2274),(6158,6158),(8203,8205),(8288,8292),(8298,8303),(65279,65279),(65529,65531),(69821,69821),(69837,69837),(113824,113827),(119155,119162),(917505,917505),(917536,917631)].map fun p:Int × Int=>[DV.v (.int .i32 p.1),DV.v (.int .i32 p.2)]
def pD (z:Int):Bool:=((Ma.any (vj z) || Av.any (vj z)) || Mc.any (vj z)) || Mb.any (vj z)
theorem E9 (x b:Nat):(x:Int).fdiv (2 ^ b)=((x / 2 ^ b:Nat):Int):=by grind
theorem iI (m:Nat):BitVec.ofInt 64 (m:Int)=BitVec.ofNat 64 m:=by simp
theorem J7 {x b:Nat} (hb:b < 64) (hx:x < 18446744073709551616) :
  decide (IntKind.u64.wrap ((BitVec.ofInt 64 ((x:Int).fdiv (2 ^ (min b 64))) &&& BitVec.ofInt 64 1).toNat:Int)=1)=x.testBit b:=by
 rw [Nat.min_eq_left (by omega),E9,iI,show (BitVec.ofInt 64 1)=BitVec.ofNat 64 1 by decide,BitVec.toNat_and,BitVec.toNat_ofNat,BitVec.toNat_ofNat,Nat.testBit_eq_decide_div_mod_eq];have h1:x / 2 ^ b < 18446744073709551616:=Nat.lt_of_le_of_lt (Nat.div_le_self _ _) hx;rw [Nat.mod_eq_of_lt h1,show (1 % 2 ^ 64:Nat)=1 by decide,Nat.and_one_is_mod];simp only [IntKind.wrap_u64];congr 1;apply propext;omega
theorem HQ {x b:Nat} (hb:b < 64) (hx:x < 18446744073709551616) :
  IntKind.u64.wrap ((BitVec.ofInt 64 (x:Int) ||| BitVec.ofInt 64 (IntKind.u64.wrap (1 * 2 ^ (min b 64)))).toNat:Int)=((x ||| 2 ^ b:Nat):Int):=by
 have h2:2 ^ b < 18446744073709551616:=by
  have:2 ^ b<=2 ^ 63:=Nat.pow_le_pow_right (by decide) (by omega);omega
 have e1:IntKind.u64.wrap (1 * 2 ^ (min b 64))=((2 ^ b:Nat):Int):=by
  rw [Nat.min_eq_left (by omega),Int.one_mul];have:((2:Int) ^ b)=((2 ^ b:Nat):Int):=by simp
  rw [this];generalize 2 ^ b=z at h2;simp only [IntKind.wrap_u64];omega
 rw [e1,iI,iI,BitVec.toNat_or,BitVec.toNat_ofNat,BitVec.toNat_ofNat,Nat.mod_eq_of_lt hx,Nat.mod_eq_of_lt h2];have h3:x ||| 2 ^ b < 18446744073709551616:=Nat.or_lt_two_pow (n:=64) hx h2
 simp only [IntKind.wrap_u64];omega
theorem TN {x y:Nat} (hx:x < 18446744073709551616) (hy:y < 18446744073709551616) :
  IntKind.u64.wrap ((BitVec.ofInt 64 (x:Int) ||| BitVec.ofInt 64 (y:Int)).toNat:Int)=((x ||| y:Nat):Int):=by
 rw [iI,iI,BitVec.toNat_or,BitVec.toNat_ofNat,BitVec.toNat_ofNat,Nat.mod_eq_of_lt hx,Nat.mod_eq_of_lt hy];have h3:x ||| y < 18446744073709551616:=Nat.or_lt_two_pow (n:=64) hx hy
 simp only [IntKind.wrap_u64];omega
theorem kp (x a b:Nat):(x ||| 2 ^ b).testBit a=(x.testBit a || decide (b=a)):=by
 rw [Nat.testBit_or,Nat.testBit_two_pow]
def dU (rows:List Nat):List (List DV):=rows.map fun (x:Nat)=>[DV.v (.int .u64 (x:Int))]
theorem lh (rows:List Nat):(dU rows).length=rows.length:=by simp [dU]
theorem Yg {rows:List Nat} {i:Nat} {x:Nat} (h:rows[i]? = some x):(dU rows)[i]? = some [DV.v (.int .u64 (x:Int))]:=by simp [dU,h]
abbrev nM (rows:List Nat):DV:=.pt [.sl 1 (dU rows) none] 0
def eC (rows:List Nat):Prop:=rows.length<=64/\∀ x∈rows,x < 18446744073709551616
def bf (rows:List Nat) (a b:Nat):Bool:=(rows.getD a 0).testBit b
def hasB (rows:List Nat) (a b:Int):Bool:=decide (0<=a) && decide (a < rows.length) && decide (0<=b) && decide (b < rows.length) && bf rows a.toNat b.toNat
theorem Aw (rows:List Nat):bA prog 208 [nM rows] (.v (.int .i64 rows.length)):=by
 refine eG 10 [.tmp 2] func208 rfl ntmps208 rfl fun _ _ _ _=>?_;refine (Eb ?_:);rw [lh]
theorem lZ (rows:List Nat) (hr:eC rows) (a b:Int):bA prog 212 [nM rows,.v (.int .i64 a),.v (.int .i64 b)] (.v (.bool (hasB rows a b))):=by
 have hl:=Aw rows;refine eG 38 [.tmp 6] func212 rfl ntmps212 rfl fun _ _ _ _=>?_;refine br ?_ ?_<;>intro g1
 ·have g1:0<=a:=sU g1;refine cP ON hl ?_;refine br ?_ ?_<;>intro g2
  ·obtain ⟨g2,g3⟩:a < rows.length/\0<=b:=by grind [pickB]
   refine cP ON hl ?_;refine br ?_ ?_<;>intro g4
   ·have g4:b < rows.length:=by simpa [pickB,g2,g3] using g4
    obtain ⟨x,hx⟩:∃ x,rows[a.toNat]? = some x:=⟨_,gE (by omega)⟩;have Aa:=hr.2 x (mG hx);have hr1:=hr.1;refine ⟨_,⟨g1,Yg hx⟩,?_⟩;refine ⟨g3,?_⟩;refine (dP ?_:);have Vn:rows.getD a.toNat 0=x:=getD_some hx;have e1:hasB rows a b=x.testBit b.toNat:=by grind [hasB,bf]
    rw [e1];exact J7 (x:=x) (b:=b.toNat) (by omega) Aa
   ·have g4:¬ b < rows.length:=by simpa [pickB,g2,g3] using g4
    refine (dP ?_:);simp [pickB,g2,g3,g4,hasB]
  ·have g5:¬ (a < rows.length/\0<=b):=by
    rintro ⟨h1,h2⟩;simp [pickB,h1,h2] at g2
   refine (dP ?_:);cases h:decide (a < (rows.length:Int))<;>simp [pickB,h,hasB] at g2 ⊢
   intro _ h0;omega
 ·have g1:¬ 0<=a:=sU g1;refine (dP ?_:);simp [g1,hasB]
end Go.Proofs.YtfdedoiiahbnnaaGreat
