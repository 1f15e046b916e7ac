/- Part 3 of the proof: Contracts: the reference's Label, listed, names, Size, with, coarse; What is wrong with a type: the plain function; the reference's Wrong and parts return it; The program's checks of types: bad, listed, label, words; The program's checks of types: label, coarse; The program's comparing of names and types; The program's Same; The program's own, empty; The program's empty, enum; kinds.Right, once the checker's check is known; Numbers in tens: the reference's Put; Numbers in tens: the program's Put; The text of a type, plain; the reference's Label and comma; The reference's text of a type: Label, comma, part, Type; The reference's text of a part; The reference's text of a type; The library's strings.Join, laid at this program by the kit's tool (lay-plain; wip/tools/lay.sh); The program's text of a label, of what stands behind a part's type, of lists; The program's text of a type: field, tag, kind; unparse.Type, once the checker's check is known; A type with which nothing is wrong is fine for its text; Readable data as data of the evaluator: what the statement's form reads of an argument is a datum of the evaluator, of the argument's type, no heavier than what was read; What is read of a type, as the plain data; From a contract over data to what a law's statement asks: the arguments are read, the call returns true, all that was there stays; What all laws' frames share: the bulk, the program's closed facts; Types without places: plain, and the program's kinds.Strip; Schemas: plain, as the evaluator has them, without places; What is read of a schema, as the plain data; What the frames of laws over schemas share; The program's closed facts, each by itself (all at once they ask more memory than a Lean process has); Relations as rows of bits: plain, and rel's functions that read; rel.back: who leads to a thing and is led to by it; rel.New: the rows of a list of pairs; rel.Close: the closure, by rows; The number of bits that are set, as the library reckons it; math/bits.OnesCount64; When two bits are set; rel.Loop: the least thing in a loop; The plain law of closeR: its bits are what is led to; The program's and the reference's check of names that must differ; The table's Find, whole; lattice.many, called, numbered; Rules for the evaluator: a call that is handed the caller's first objects and rows; rows whose cells nobody else knows; lattice.best, and the closures of bounds; lattice.bounds: all joins and meets; lattice.Build; Reading a lattice: Len, has, Name, Find, Join, Meet, Bottom; labels.Of; The checker's part, once check is known for lighter types. No condition. -/
import Derived.Laws.StructEq
import Derived.Shelf.Strings.OnBuilder
import Derived.Deep.Slices
import Derived.ChangeArms
import Derived.DataReads
import Derived.WalkKit
import Derived.ProofKit
import Derived.OpenShut
import Derived.Carry
import Derived.JoinedCond
import Derived.Test.YtfdedoiiahbnnaaGreatRows
import Derived.Test.YtfdedoiiahbnnaaGreatNc2
set_option linter.all false
set_option maxRecDepth 100000
namespace Go.Proofs.YtfdedoiiahbnnaaGreat
open Go Go.RowKit Dv Go.Proofs.Tryz
abbrev Ft:Type:=Int × Int
def Ft.d (f:Ft):DV:=.agg [.v (.int .i64 f.1),.v (.int .i64 f.2)]
def badWd:List Wd->Ft
 | []=>(0,0)
 | w :: r=>if bG w.s then badWd r else (9,w.a)
def cK (l:List Wd):Ft:=
 if l.length<=32 then badWd l else (8,((l[32]?).getD (⟨al,0⟩:Wd)).a)
def eu (l:List Wd) (s:ByteArray):Bool:=l.any fun w=>decide (w.s=s)
def aQ (l:List Wd) (i:Nat) (x:Wd):Int:=
 if bG x.s then (if eu (l.take i) x.s then 10 else 0) else 9
def pNames:Pts->List Wd
 | .nil=>[]
 | .cons p _ r=>p.name :: pNames r
theorem ld:∀ ps:Pts,(pNames ps).length=ps.len
 | .nil=>rfl
 | .cons p t r=>by simp [pNames,Pts.len,ld r]
theorem iY:∀ {ps:Pts} {j:Nat} {p:Ph} {t:Ty},ps.toList[j]? = some (p,t)->(pNames ps)[j]? = some p.name
 | .nil,j,p,t,h=>by simp [Pts.toList] at h
 | .cons q u r,0,p,t,h=>by grind [Pts.toList,pNames]
 | .cons q u r,j + 1,p,t,h=>by
  simp only [Pts.toList,List.getElem?_cons_succ] at h;simp only [pNames,List.getElem?_cons_succ];exact iY h
theorem sq:∀ ps:Pts,wdsWt (pNames ps)<=ps.wt
 | .nil=>bd _
 | .cons p t r=>by
  have:=sq r
  grind [pNames,wdsWt,Pts.wt,Ph.wt]
mutual
def Ty.cnt:Ty->Nat
 | .mk _ ps=>1 + ps.cnt
def Pts.cnt:Pts->Nat
 | .nil=>0
 | .cons p t r=>(if p.bare then 0 else t.cnt) + r.cnt
end
mutual
def Ty.deep:Ty->Nat
 | .mk _ ps=>ps.deep + 1
def Pts.deep:Pts->Nat
 | .nil=>0
 | .cons p t r=>max (if p.bare then 0 else t.deep) r.deep
end
mutual
theorem Ty.ek:∀ t:Ty,t.cnt<=t.wt
 | .mk h ps=>by have:=Pts.ek ps;simp only [Ty.cnt,Ty.wt,Hd.wt];omega
theorem Pts.ek:∀ ps:Pts,ps.cnt<=ps.wt
 | .nil=>bd _
 | .cons p t r=>by
  have:=Ty.ek t;have:=Pts.ek r;simp only [Pts.cnt,Pts.wt];split<;>omega
end
mutual
theorem Ty.kp:∀ t:Ty,t.deep<=t.wt
 | .mk h ps=>by have:=Pts.kp ps;simp only [Ty.deep,Ty.wt,Hd.wt];omega
theorem Pts.kp:∀ ps:Pts,ps.deep<=ps.wt
 | .nil=>bd _
 | .cons p t r=>by
  have:=Ty.kp t;have:=Pts.kp r
  grind [Pts.deep,Pts.wt]
end
abbrev uc (t:Ty) (e n d:Nat):St:=
 ⟨[aS 1 0,aA 4 n,aA 5 d,aA 6 e],[gd t],[]⟩
theorem jL:∀ (k:Nat) (t:Ty),t.wt<=k->t.wt<=1099511627776 ->
  bh prog 39 [.agg (gd t)] (.cj [.v (.int .i64 t.cnt),.v (.int .i64 t.deep)])
 | 0,t,hn,_=>by have:=t.gA;omega
 | k + 1,.mk h ps,hn,cE=>by
  simp only [Ty.wt,Hd.wt] at hn cE;have u2:=ps.iU;have hc:=ps.ek;have hdp:=ps.kp;refine eG 42 [.tmp 2,.tmp 3] func39 rfl ntmps39 rfl fun _ _ _ _=>?_
  refine b9 (fun j st=>∃ (e n d:Nat),st=uc (.mk h ps) e n d/\e<=ps.len/\n + (ps.drop e).cnt=1 + ps.cnt/\max d (ps.drop e).deep=ps.deep/\j=ps.len - e) ps.len
   (uc (.mk h ps) 0 1 0) (cL wB) ⟨0,1,0,rfl,by omega,rfl,by simp [Pts.drop],by omega⟩ ?_
  rintro j st ⟨e,n,d,rfl,he,aY,HD,rfl⟩;refine br ?_ ?_<;>intro hL
  ·have av:e < ps.len:=by simpa [aU] using hL
   obtain ⟨p,t,hx⟩:=Pts.gB av;have Jv:=Pts.gZ (mG hx);rw [Pts.drop_cons hx] at aY HD;simp only [Pts.cnt,Pts.deep] at aY HD;have x7:=t.ek;have hdt:=t.kp;refine iX (dc hx) ?_;refine br ?_ ?_<;>intro hB
   ·rw [aj hB] at aY HD;exact rE ⟨_,by omega,e + 1,n,d,rfl,by omega,by omega,by omega,rfl⟩ (cL (iG (bV av (by omega))))
   ·rw [ah (by simp [hB])] at aY HD;obtain ⟨u,us⟩:=t;refine iX (dc hx) ?_;refine cP KR (jL k (.mk u us) (by omega) (by omega)) ?_;have HE:IntKind.i64.wrap ((n:Int) + (Ty.mk u us).cnt)=((n + (Ty.mk u us).cnt:Nat):Int):=by rw [wrap64 (by omega) (by omega)];omega
    refine br ?_ ?_<;>intro hD
    ·have hD:d < (Ty.mk u us).deep:=sU hD;exact ⟨uc (.mk h ps) (e + 1) (n + (Ty.mk u us).cnt) (Ty.mk u us).deep,(cL (q5 HE (bV av (by omega)))),ps.len - (e + 1),by omega,e + 1,_,_,rfl,by omega,by omega,by omega,rfl⟩
    ·have hD:¬ d < (Ty.mk u us).deep:=sU hD;exact ⟨uc (.mk h ps) (e + 1) (n + (Ty.mk u us).cnt) d,(cL (q5 HE (bV av (by omega)))),ps.len - (e + 1),by omega,e + 1,_,_,rfl,by omega,by omega,by omega,rfl⟩
  ·have bO:e=ps.len:=by simp [aU] at hL;omega
   rw [bO,Pts.dQ] at aY HD;simp only [Pts.cnt,Pts.deep] at aY HD;have e1:IntKind.i64.wrap ((d:Int) + 1)=((Ty.mk h ps).deep:Int):=by rw [wrap64 (by omega) (by omega)];simp only [Ty.deep];omega
   have e2:(n:Int)=((Ty.mk h ps).cnt:Int):=by simp only [Ty.cnt];omega
   refine ⟨_,?_,rfl⟩;rw [<- e1,<- e2];exact ax
def bn (p:Ph):Ft:=
 if p.ck=0 then (if p.cn=0/\p.cl=[] then (0,0) else (19,p.name.a))
 else if p.ck < 0∨3 < p.ck then (14,p.ca)
 else if (p.ck=1/\p.cn < 1)∨(p.ck=2/\(p.cn < 0∨4096 < p.cn))∨(p.ck=3/\p.cn≠0) then (20,p.ca)
 else cK p.cl
def enumL (all:List Wd):Nat->List Wd->Ft
 | _,[]=>(0,0)
 | i,x :: r=>if aQ all i x≠0 then (aQ all i x,x.a) else enumL all (i + 1) r
def iZ (h:Hd):Ft:=
 if h.af=[] then (15,h.cF)
 else if 64 < h.af.length then (8,((h.af[64]?).getD (⟨al,0⟩:Wd)).a)
 else enumL h.af 0 h.af
def eo (p:Ph):Ft:=
 if p.wide < 0∨64 < p.wide then (20,p.name.a)
 else if (cK p.label).1≠0 then cK p.label
 else bn p
def yF (t:Ty):Bool:=sameTy t (mask t)
mutual
def wrong:Ty->Int->Int->Ft × Int
 | .mk h ps,depth,m=>
  if 24 < depth then ((6,h.cF),m + 1)
  else if 512 < m + 1 then ((8,h.cF),m + 1)
  else if h.ai < 1∨9 < h.ai then ((14,h.cF),m + 1)
  else if yF (.mk h ps)=false then ((19,h.cF),m + 1)
  else if (h.ai=2/\h.hi < h.lo)∨(h.ai=3/\(h.most < 0∨4096 < h.most)) then ((20,h.cF),m + 1)
  else if h.ai=9/\bG h.name.s=false then ((9,h.name.a),m + 1)
  else if h.ai=4 then (iZ h,m + 1)
  else if h.ai=5∨h.ai=6 then wrongOne h ps depth (m + 1)
  else if h.ai=7∨h.ai=8 then
   if h.ai=8/\ps.len=0 then ((15,h.cF),m + 1)
   else if 64 < ps.len then ((8,(((pNames ps)[64]?).getD (⟨al,0⟩:Wd)).a),m + 1)
   else wrongPts h.ai (pNames ps) 0 ps depth (m + 1)
  else ((0,0),m + 1)
def wrongOne:Hd->Pts->Int->Int->Ft × Int
 | h,.cons p t .nil,depth,m=>
  if p.name.s≠al∨cW p eF=false then ((19,h.cF),m)
  else if h.most < 0∨1024 < h.most then ((20,h.cF),m)
  else wrong t (depth + 1) m
 | h,_,_,m=>((19,h.cF),m)
def wrongPts (ai:Int) (all:List Wd):Nat->Pts->Int->Int->Ft × Int
 | _,.nil,_,m=>((0,0),m)
 | i,.cons p t r,depth,m=>
  if aQ all i p.name≠0 then ((aQ all i p.name,p.name.a),m)
  else if p.bare=true then
   if ai=7∨sameTy t ct=false∨cW p iV=false then ((19,p.name.a),m) else wrongPts ai all (i + 1) r depth m
  else if (eo p).1≠0 then (eo p,m)
  else if (wrong t (depth + 1) m).1.1≠0 then wrong t (depth + 1) m
  else wrongPts ai all (i + 1) r depth (wrong t (depth + 1) m).2
end
def jM (h:Hd) (ps:Pts) (depth m:Int):Ft × Int:=
 if h.ai=8/\ps.len=0 then ((15,h.cF),m)
 else if 64 < ps.len then ((8,(((pNames ps)[64]?).getD (⟨al,0⟩:Wd)).a),m)
 else wrongPts h.ai (pNames ps) 0 ps depth m
theorem wg (all:List Wd):∀ (l:List Wd) (i:Nat),(enumL all i l).1=0->enumL all i l=(0,0)
 | [],_,_=>rfl
 | x :: r,i,h=>by
  have ih:=wg all r (i + 1)
  grind [enumL]
theorem sr (h:Hd) (he:(iZ h).1=0):iZ h=(0,0):=by grind [iZ,wg]
mutual
theorem pM:∀ (t:Ty) (depth m:Int),0<=m->(wrong t depth m).1.1=0->(wrong t depth m).1=(0,0)/\0<=(wrong t depth m).2/\(wrong t depth m).2<=512
 | .mk h ps,depth,m,hm,he=>by
  have i1:=wh h ps depth (m + 1) (by omega);have i2:=jN h.ai (pNames ps) ps 0 depth (m + 1) (by omega);have i3:=sr h;simp only [wrong] at he ⊢;by_cases c0:24 < depth
  ·rw [aj c0] at he;simp at he
  rw [ah c0] at he ⊢;by_cases c1:512 < m + 1
  ·rw [aj c1] at he;simp at he
  rw [ah c1] at he ⊢;by_cases c2:h.ai < 1∨9 < h.ai
  all_goals grind
theorem wh:∀ (h:Hd) (ps:Pts) (depth m:Int),0<=m->m<=512->(wrongOne h ps depth m).1.1=0->(wrongOne h ps depth m).1=(0,0)/\0<=(wrongOne h ps depth m).2/\(wrongOne h ps depth m).2<=512
 | h,.nil,depth,m,hm,_,he=>by simp [wrongOne] at he
 | h,.cons p t .nil,depth,m,hm,h5,he=>by
  have ih:=pM t (depth + 1) m hm
  grind [wrongOne]
 | h,.cons p t (.cons _ _ _),depth,m,hm,_,he=>by simp [wrongOne] at he
theorem jN (ai:Int) (all:List Wd):∀ (ps:Pts) (i:Nat) (depth m:Int),0<=m->m<=512->(wrongPts ai all i ps depth m).1.1=0->(wrongPts ai all i ps depth m).1=(0,0)/\0<=(wrongPts ai all i ps depth m).2/\(wrongPts ai all i ps depth m).2<=512
 | .nil,i,depth,m,hm,h5,he=>by simp only [wrongPts];exact ⟨trivial,hm,h5⟩
 | .cons p t r,i,depth,m,hm,h5,he=>by
  have i1:=pM t (depth + 1) m hm;simp only [wrongPts] at he ⊢;split at he
  ·rename_i h1;exact (h1 he).elim
  ·rename_i h1;rw [ah h1];split at he
   ·rename_i h2;rw [aj h2];split at he
    ·simp at he
    ·rename_i h3;rw [ah h3];exact jN ai all r (i + 1) depth m hm h5 he
   ·rename_i h2;rw [ah h2];split at he
    ·rename_i h3;exact (h3 he).elim
    ·rename_i h3;rw [ah h3];split at he
     ·rename_i h4;exact (h4 he).elim
     ·rename_i h4;rw [ah h4];have i2:=i1 (sU h4);exact jN ai all r (i + 1) depth _ i2.2.1 i2.2.2 he
end
theorem aX (e a:Int):bh prog 237 [.v (.int .i64 e),.v (.int .i64 a)] (Ft.d (e,a)):=by
 refine eG 8 [.cell 4 26] func237 rfl ntmps237 rfl fun _ _ _ _=>?_;exact ⟨_,ax,rfl⟩
noncomputable def eI (L:List ByteArray) (x:ByteArray) (a:Int):Ft:=if bG x=true then (if L.Nodup then (0,0) else (10,a)) else (9,a)
theorem nT (L:List ByteArray) (x:ByteArray) (a:Int) (hx:L[L.length - 1]? = some x) (hl:L.length<=1099511627776) (DG:x.size<=4611686018427387904) :
  bh prog 285 [.sl 1 (dj L) none,.v (.int .i64 a)] (eI L x a).d:=by
 have hN:=bz L;have mQ:=(gS hx).1;have hz:IntKind.i64.wrap (((dj L).length:Int) - 1)=((L.length - 1:Nat):Int):=by rw [hN,wrap64 (by omega) (by omega)];omega
 refine eG 23 [.cell 4 26] func285 rfl ntmps285 rfl fun _ _ _ _=>?_;refine ⟨[.v (.string x)],⟨by rw [hz];omega,by rw [hz];exact dX hx⟩,?_⟩;refine cP BL (e9 x DG) ?_;refine br ?_ ?_<;>intro h
 ·have h:bG x=false:=sU h;refine cP cJ (aX 9 a) ?_;refine ⟨_,?_,rfl⟩;rw [eI,ah (by rw [h];decide)];exact ax
 ·have h:bG x=true:=sU h;refine gW D3 rfl (k0 L hl) ax (fun r hr=>?_);obtain ⟨z,rfl,hz⟩:=hr;refine br ?_ ?_<;>intro h2
  ·have h2:0<=z:=sU h2;refine cP cJ (aX 10 a) ?_;refine ⟨_,?_,rfl⟩;rw [eI,aj h,ah (hz.1 h2)];exact ax
  ·have h2:¬ 0<=z:=sU h2;refine ⟨_,?_,rfl⟩;rw [eI,aj h,aj (Classical.byContradiction fun hn=>h2 (hz.2 hn))];exact ax
theorem yG {l:List Wd} {e:Nat} {x:Wd} (h:l[e]? = some x):bf ((l.map fun w=>(⟨w.s,0⟩:Wd)).take e) ++ [[.v (.string x.s),.v (.int .i64 0)]]=bf ((l.map fun w=>(⟨w.s,0⟩:Wd)).take (e + 1)):=by
 have h2:(l.map fun w=>(⟨w.s,0⟩:Wd))[e]? = some ⟨x.s,0⟩:=by simp [h]
 exact BM h2
def fb (l:List Wd):List Wd:=l.map fun w=>⟨w.s,0⟩
abbrev Ez (l l':List Wd) (n e:Nat):St:=
 ⟨[dJ 6 2 (bf l),aA 7 ((bf l).length),aA 8 e,(3,⟨[],.sl 2 (bf l') (some 0)⟩)],[],[⟨n,34,2,none⟩]⟩
theorem pN (l:List Wd) (hs:wdsWt l<=1099511627776):bh prog 251 [.sl 2 (bf l) none] (.sl 2 (bf (fb l)) none):=by
 have hl:=bQ l;refine eG 20 [.tmp 2] func251 rfl ntmps251 rfl fun _ _ _ _=>?_;refine b9 (fun j st=>∃ e:Nat,st=Ez l ((fb l).take e) e e/\e<=l.length/\j=l.length - e) l.length (Ez l [] 0 0) (jG ⟨0,34,2,none⟩ rfl ⟨_,rfl⟩ rfl wA rfl rfl tU) ⟨0,by simp,by omega,by omega⟩ ?_;rintro j st ⟨e,rfl,he,rfl⟩;refine br ?_ ?_<;>intro h
 ·have av:e < l.length:=by simpa [aE] using h
  obtain ⟨w,hw⟩:=gX av;refine ⟨kj w,⟨by omega,cz hw⟩,?_⟩;refine ⟨by simp [aE,fb];omega,⟨by simp [aE,fb,maxLen];omega,by simp [aE,fb];omega⟩,?_⟩;refine ⟨Ez l ((fb l).take (e + 1)) (e + 1) (e + 1),(cL (q5 (bV av (by omega)) (yG hw))),l.length - (e + 1),by omega,e + 1,rfl,by omega,rfl⟩
 ·have bO:e=l.length:=by
   have:=h;simp [aE] at this;omega
  rw [bO,List.take_of_length_le (by simp [fb])];exact ⟨_,ax,rfl⟩
abbrev pO (l:List Wd) (e:Nat):St:=
 ⟨[dJ 13 2 (bf l),aA 14 ((bf l).length),aS 2 0,aA 15 e],[[.v (.int .i64 0),.v (.int .i64 0)]],[]⟩
theorem fq (l:List Wd) (hs:wdsWt l<=1099511627776) :
  bh prog 327 [.sl 2 (bf l) none] (cK l).d:=by
 have yj:=bQ l;refine eG 28 [.cell 2 26] func327 rfl ntmps327 rfl fun _ _ _ _=>?_;refine br ?_ ?_<;>intro h
 ·have av:32 < l.length:=by simp [aE] at h;omega
  obtain ⟨x,hx⟩:=gX av;have:cK l=(8,x.a):=by simp [cK,Nat.not_le.2 av,hx]
  refine ⟨kj x,⟨by omega,cz hx⟩,?_⟩;refine cP cJ (aX 8 x.a) ?_;refine ⟨_,?_,rfl⟩;rw [this];exact ax
 ·have jv:l.length<=32:=by simp [aE] at h;omega
  refine b9 (fun j st=>∃ e:Nat,st=pO l e/\e<=l.length/\badWd l=badWd (l.drop e)/\j=l.length - e) l.length
   (pO l 0) (cL wB) ⟨0,rfl,by omega,rfl,by omega⟩ ?_
  rintro j st ⟨e,rfl,he,bL,rfl⟩;refine br ?_ ?_<;>intro hL
  ·have av:e < l.length:=by simpa [aE] using hL
   obtain ⟨x,hx⟩:=gX av;rw [drop_cons hx] at bL;have DG:=ki (mG hx);refine ⟨kj x,⟨by omega,cz hx⟩,?_⟩;refine cP BL (e9 x.s (by omega)) ?_;refine br ?_ ?_<;>intro hN
   ·have hN:bG x.s=false:=sU hN;have:cK l=(9,x.a):=by simp [cK,jv,bL,badWd,hN]
    refine cP cJ (aX 9 x.a) ?_;refine ⟨_,?_,rfl⟩;rw [this];exact ax
   ·have hN:bG x.s=true:=sU hN;refine ⟨pO l (e + 1),(cL (iG (bV av (by omega)))),l.length - (e + 1),by omega,e + 1,rfl,by omega,?_,rfl⟩;rw [bL];simp [badWd,hN]
  ·have bO:e=l.length:=by simp [aE] at hL;omega
   have:cK l=(0,0):=by simp [cK,jv,bL,bO,badWd]
   refine ⟨_,?_,rfl⟩;rw [this];exact ax
theorem ue (p:Ph) (tl:List DV) (t:Ty) (BW:tl=gd t) (hs:p.wt<=1099511627776) :
  bh prog 328 [.agg (Dh p tl)] (bn p).d:=by
 subst BW;obtain ⟨u,us⟩:=t;simp only [Ph.wt] at hs;refine eG 55 [.cell 2 26] func328 rfl ntmps328 rfl fun _ _ _ _=>?_;refine br ?_ ?_<;>intro h0
 ·have h0:p.ck=0:=of_decide_eq_true h0;refine br ?_ ?_<;>intro h1
  ·have:bn p=(19,p.name.a):=by grind [aF,aE,bn]
   refine cP cJ (aX 19 p.name.a) ?_;refine ⟨_,?_,rfl⟩;rw [this];exact ax
  ·have cC:p.cl=[]:=by
    simp [aF,aE] at h1;exact h1.2
   have:bn p=(0,0):=by grind [aF,aE,bn]
   have h00:cK p.cl=(0,0):=by rw [cC];simp [cK,badWd]
   refine cP vX (fq p.cl (by omega)) ?_;refine ⟨_,?_,rfl⟩;rw [this,<- h00];exact ax
 have h0:¬ p.ck=0:=of_decide_eq_false h0;refine br ?_ ?_<;>intro h1
 ·have h1:p.ck=1:=of_decide_eq_true h1;refine br ?_ ?_<;>intro h2
  ·have:bn p=(20,p.ca):=by grind [aH,bn]
   refine cP cJ (aX 20 p.ca) ?_;refine ⟨_,?_,rfl⟩;rw [this];exact ax
  ·have:bn p=cK p.cl:=by grind [aH,bn]
   refine cP vX (fq p.cl (by omega)) ?_;refine ⟨_,?_,rfl⟩;rw [this];exact ax
 have h1:¬ p.ck=1:=of_decide_eq_false h1;refine br ?_ ?_<;>intro h3
 ·have h3:p.ck=2:=of_decide_eq_true h3;refine br ?_ ?_<;>intro h2
  ·have:bn p=(20,p.ca):=by grind [aH,bn]
   refine cP cJ (aX 20 p.ca) ?_;refine ⟨_,?_,rfl⟩;rw [this];exact ax
  ·have:bn p=cK p.cl:=by grind [aH,bn]
   refine cP vX (fq p.cl (by omega)) ?_;refine ⟨_,?_,rfl⟩;rw [this];exact ax
 have h3:¬ p.ck=2:=of_decide_eq_false h3;refine br ?_ ?_<;>intro h4
 ·have h4:p.ck=3:=of_decide_eq_true h4;refine br ?_ ?_<;>intro h2
  ·have:bn p=(20,p.ca):=by grind [aH,bn]
   refine cP cJ (aX 20 p.ca) ?_;refine ⟨_,?_,rfl⟩;rw [this];exact ax
  ·have:bn p=cK p.cl:=by grind [aH,bn]
   refine cP vX (fq p.cl (by omega)) ?_;refine ⟨_,?_,rfl⟩;rw [this];exact ax
 have h4:¬ p.ck=3:=of_decide_eq_false h4;have:bn p=(14,p.ca):=by grind [bn]
 refine cP cJ (aX 14 p.ca) ?_;refine ⟨_,?_,rfl⟩;rw [this];exact ax
theorem EA (w:World) (x y:Operand) (vs vs':Array Value):(eqGuard .neq 34 x y (.agg vs) (.agg vs')).run prog w = .ok () w:=by
 have h:prog.eqGuardType prog.depth 34=false:=by kernel_rfl
 simp [eqGuard,run_program,h]
theorem K1 (a b:ByteArray) (p q:Int) (w:World):(binOp .neq 34 (.agg #[.string a,.int .i64 p]) (.agg #[.string b,.int .i64 q])).run prog w = .ok (.bool (!(decide (a=b) && decide (p=q)))) w:=by
 have hf:prog.underlying 34=some (.struct (prog.fieldsOf 34)):=by simp [Program.fieldsOf,Tryz.underlying34]
 have u4:(prog.fieldsOf 34).toList=[⟨ "Name",9,0,false, "", "",0⟩,⟨ "At",3,1,false, "", "",16⟩]:=by simp [Program.fieldsOf,Tryz.underlying34]
 have hs:prog.stoodInHeld 34=false:=by kernel_rfl
 have hm:∃ d,Op.maxDepth=d + 1 + 1:=⟨Op.maxDepth - 2,by decide⟩;obtain ⟨d,hm⟩:=hm
 have he:(Op.equal 34 (.agg #[.string a,.int .i64 p]) (.agg #[.string b,.int .i64 q])).run prog w = .ok (decide (a=b) && decide (p=q)) w:=by
  unfold Op.equal;rw [hm,run_equalIn_struct w (d + 1) 34 _ _ hf hs,u4]
  have e1:(a.toList == b.toList)=decide (a=b):=by
   rw [ByteArray.toList_eq,ByteArray.toList_eq];by_cases h:a=b
   ·subst h;simp
   ·have:¬ a.data=b.data:=fun e=>h (ByteArray.ext e);simp [h,this]
  have q9:∀ cs:Array Value,∀ off v,cs[off]? = some v->(part 9 cs off).run prog w = .ok v w:=fun cs off v h=>by
   simp [part,Tryz.isAgg9,h]
  have q3:∀ cs:Array Value,∀ off v,cs[off]? = some v->(part 3 cs off).run prog w = .ok v w:=fun cs off v h=>by
   simp [part,Tryz.isAgg3,h]
  simp only [Op.eqFields,ne_eq,String.reduceEq,not_false_eq_true,if_true,Sem.run_bind,q9 #[.string a,.int .i64 p] 0 (.string a) rfl,q9 #[.string b,.int .i64 q] 0 (.string b) rfl,Result.andThen_ok,run_equalIn_string w d 9 a b Tryz.underlying9,e1];by_cases h:a=b
  ·simp only [h,decide_true,Bool.not_true,Bool.false_eq_true,if_false,Sem.run_bind,q3 #[.string b,.int .i64 p] 1 (.int .i64 p) rfl,q3 #[.string b,.int .i64 q] 1 (.int .i64 q) rfl,Result.andThen_ok,run_equalIn_int w d 3 .i64 .i64 p q Tryz.underlying3];by_cases h2:p=q<;>simp [h2,Sem.run_pure]
  ·simp [h,Sem.run_pure]
 show ((do let r <- Op.equal 34 _ _;pure (Value.bool !r)):Sem Value).run prog w=_;simp only [Sem.run_bind,he,Result.andThen_ok,Sem.run_pure]
theorem HF (x y:Operand) (a b:Wd):yb prog .neq x y 34 (kj a) (kj b) (!(decide (a.s=b.s) && decide (a.a=b.a))):=
 ⟨[.string a.s,.int .i64 a.a],[.string b.s,.int .i64 b.a],rfl,rfl,fun w=>⟨EA w x y _ _,K1 a.s b.s a.a b.a w⟩⟩
def eqWds:List Wd->List Wd->Bool
 | [],[]=>true
 | x :: r,y :: s=>(decide (x.s=y.s) && decide (x.a=y.a)) && eqWds r s
 | _,_=>false
theorem ss:∀ {a b:List Wd},a.length≠b.length->eqWds a b=false
 | [],[],h=>(h rfl).elim
 | [],_ :: _,_=>rfl
 | _ :: _,[],_=>rfl
 | x :: r,y :: s,h=>by
  simp only [eqWds];rw [ss (a:=r) (b:=s) (sU h),Bool.and_false]
theorem nU:∀ a b:List Wd,eqWds (fb a) (fb b)=sameWds a b
 | [],[]=>rfl
 | [],_ :: _=>rfl
 | _ :: _,[]=>rfl
 | x :: r,y :: s=>by
  have:=nU r s
  grind [fb,eqWds,sameWds]
abbrev EB (a b:List Wd) (e:Nat):St:=
 ⟨[dJ 0 2 (bf a),dJ 1 2 (bf b),aA 12 ((bf a).length),aA 13 e],[],[]⟩
theorem wi (a b:List Wd) (hs:a.length<=1099511627776) :
  bh prog 89 [.sl 2 (bf a) none,.sl 2 (bf b) none] (.v (.bool (eqWds a b))):=by
 refine eG 26 [.tmp 4] func89 rfl ntmps89 rfl fun _ _ _ _=>?_;refine br ?_ ?_<;>intro h
 ·have aY:a.length≠b.length:=by have:=h;simp [aE] at this;omega
  exact congrArg (fun b=>DV.v (.bool b)) (ss aY).symm
 ·have hl:a.length=b.length:=by have:=h;simp [aE] at this;omega
  refine b9 (fun j st=>∃ e:Nat,st=EB a b e/\e<=a.length/\eqWds a b=eqWds (a.drop e) (b.drop e)/\j=a.length - e) a.length
   (EB a b 0) (cL wB) ⟨0,rfl,by omega,rfl,by omega⟩ ?_
  rintro j st ⟨e,rfl,he,bL,rfl⟩;refine br ?_ ?_<;>intro h
  ·have av:e < a.length:=by simpa [aE] using h
   obtain ⟨x,hx⟩:=gX av;obtain ⟨y,hy⟩:∃ y,b[e]? = some y:=⟨_,gE (hl ▸ av)⟩;rw [drop_cons hx,drop_cons hy] at bL;refine dI ?_;refine ⟨kj x,⟨by omega,cz hx⟩,kj y,⟨by omega,cz hy⟩,_,HF _ _ x y,?_⟩;refine br ?_ ?_<;>intro h
   ·have aY:(decide (x.s=y.s) && decide (x.a=y.a))=false:=by grind
    refine (dH ?_:);rw [bL];simp only [eqWds,aY,Bool.false_and]
   ·have aY:(decide (x.s=y.s) && decide (x.a=y.a))=true:=by grind
    refine ⟨EB a b (e + 1),(cL (iG (bV av (by omega)))),a.length - (e + 1),by omega,e + 1,rfl,by omega,?_,rfl⟩;rw [bL];simp only [eqWds,aY,Bool.true_and]
  ·have bO:e=a.length:=by have:=h;simp [aE] at this;omega
   refine (dH ?_:);rw [bL,bO,hl];simp [eqWds];rw [<- hl];simp [eqWds]
theorem eJ (a b:List Wd) (ha:wdsWt a<=1099511627776) (hb:wdsWt b<=1099511627776) :
  bh prog 170 [.sl 2 (bf a) none,.sl 2 (bf b) none] (.v (.bool (sameWds a b))):=by
 have hl:=bQ a;refine eG 10 [.tmp 4] func170 rfl ntmps170 rfl fun _ _ _ _=>?_;refine cP Jj (pN a ha) ?_;refine cP Jj (pN b hb) ?_;refine cP Rj (wi (fb a) (fb b) (by simp [fb];omega)) ?_;refine (dH ?_:);exact nU a b
def eqPts (F:Ph->Ty->Ph->Ty->Bool):Pts->Pts->Bool
 | .nil,.nil=>true
 | .cons p t r,.cons q u s=>F p t q u && eqPts F r s
 | _,_=>false
theorem su {F:Ph->Ty->Ph->Ty->Bool}:∀ {a b:Pts},a.len≠b.len->eqPts F a b=false
 | .nil,.nil,h=>(h rfl).elim
 | .cons p t r,.cons q u s,h=>by
  simp only [eqPts];rw [su (a:=r) (b:=s) (by simpa [Pts.len] using h),Bool.and_false]
 | .nil,.cons _ _ _,_=>rfl
 | .cons _ _ _,.nil,_=>rfl
def bR (p:Ph) (t:Ty) (q:Ph) (u:Ty):Bool:=decide (p.name.s=q.name.s) && cW p q && sameTy t u
theorem pP:∀ a b:Pts,eqPts bR a b=samePts a b
 | .nil,.nil=>by simp [eqPts,samePts]
 | .cons p t r,.cons q u s=>by simp only [eqPts,samePts,bR,pP r s]
 | .nil,.cons _ _ _=>by simp [eqPts,samePts]
 | .cons _ _ _,.nil=>by simp [eqPts,samePts]
abbrev EC (a b:Pts) (g e:Nat):St:=
 ⟨[dJ 1 18 (ej b),(2,⟨[],.fn g [] []⟩),dJ 15 18 (ej a),aA 16 ((ej a).length),aA 17 e],[],[]⟩
theorem wj (g:Nat) (gV:Enters prog g) (F:Ph->Ty->Ph->Ty->Bool) (a b:Pts) (hs:a.wt<=1099511627776)
  (hF:∀ (e:Nat) p t q u,a.toList[e]? = some (p,t)->b.toList[e]? = some (q,u)->bh prog g [.agg (Dh p (gd t)),.agg (Dh q (gd u))] (.v (.bool (F p t q u)))) :
  bh prog 171 [.sl 18 (ej a) none,.sl 18 (ej b) none,.fn g [] []] (.v (.bool (eqPts F a b))):=by
 have rm:=a.iU;refine eG 32 [.tmp 6] func171 rfl ntmps171 rfl fun _ _ _ _=>?_;refine br ?_ ?_<;>intro h
 ·have aY:a.len≠b.len:=by have:=h;simp [aU] at this;omega
  exact congrArg (fun b=>DV.v (.bool b)) (su aY).symm
 ·have hl:a.len=b.len:=by have:=h;simp [aU] at this;omega
  refine b9 (fun j st=>∃ e:Nat,st=EC a b g e/\e<=a.len/\eqPts F a b=eqPts F (a.drop e) (b.drop e)/\j=a.len - e) a.len
   (EC a b g 0) (cL wB) ⟨0,rfl,by omega,rfl,by omega⟩ ?_
  rintro j st ⟨e,rfl,he,bL,rfl⟩;refine br ?_ ?_<;>intro h
  ·have av:e < a.len:=by simpa [aU] using h
   obtain ⟨p,t,hx⟩:=Pts.gB av;obtain ⟨q,u,hy⟩:=Pts.gB (hl ▸ av);rw [Pts.drop_cons hx,Pts.drop_cons hy] at bL;have MA:=hF e p t q u hx hy;obtain ⟨t,ts⟩:=t;obtain ⟨u,us⟩:=u;refine iX (dc hx) ?_;refine iX (dc hy) ?_;refine cP gV MA ?_;refine br ?_ ?_<;>intro h
   ·have aY:F p (.mk t ts) q (.mk u us)=false:=sU h;refine (dH ?_:);rw [bL];simp only [eqPts,aY,Bool.false_and]
   ·have aY:F p (.mk t ts) q (.mk u us)=true:=sU h;refine ⟨EC a b g (e + 1),(cL (iG (bV av (by omega)))),a.len - (e + 1),by omega,e + 1,rfl,by omega,?_,rfl⟩;rw [bL];simp only [eqPts,aY,Bool.true_and]
  ·have bO:e=a.len:=by have:=h;simp [aU] at this;omega
   refine (dH ?_:);rw [bL,bO,Pts.dQ,hl,Pts.dQ];simp [eqPts]
theorem jO (p q:Ph) (t u:Ty) (hp:p.wt<=1099511627776) (hq:q.wt<=1099511627776)
  (ht:bh prog 91 [.agg (gd t),.agg (gd u)] (.v (.bool (sameTy t u)))) :
  bh prog 172 [.agg (Dh p (gd t)),.agg (Dh q (gd u))] (.v (.bool (bR p t q u))):=by
 simp only [Ph.wt] at hp hq;obtain ⟨th,RD⟩:=t;obtain ⟨uh,TV⟩:=u;refine eG 71 [.tmp 4] func172 rfl ntmps172 rfl fun _ _ _ _=>?_
 have e0:bR p (.mk th RD) q (.mk uh TV)=(((decide (p.name.s=q.name.s) && (p.bare == q.bare)) && decide (p.wide=q.wide)) && sameWds p.label q.label && ((decide (p.ck=q.ck) && decide (p.cn=q.cn)) && sameWds p.cl q.cl) && sameTy (.mk th RD) (.mk uh TV)):=by
  simp only [bR,cW,Bool.and_assoc]
 rw [e0];refine br ?_ ?_<;>intro hA
 ·simp only [aH] at hA;refine cP Ax (eJ p.label q.label (by omega) (by omega)) ?_;refine br ?_ ?_<;>intro hB
  ·simp only [aH] at hB;refine cP Ax (eJ p.cl q.cl (by omega) (by omega)) ?_;refine br ?_ ?_<;>intro hC
   ·refine cP Rm ht ?_;refine (dH ?_:);simp only [aH,Bool.true_and,Bool.and_true] at hC ⊢
    simp_all
   ·refine (dH ?_:);simp only [aH,Bool.true_and,Bool.and_true] at hC ⊢
    simp_all
  ·simp only [aH] at hB;refine br ?_ ?_<;>intro hC
   ·exfalso;simp [aH] at hC
   ·refine (dH ?_:)
    simp_all
 ·simp only [aH,beq_true] at hA;refine br ?_ ?_<;>intro hB
  ·refine cP Ax (eJ p.cl q.cl (by omega) (by omega)) ?_;refine (dH ?_:);rw [hA];rfl
  ·refine (dH ?_:);rw [hA];rfl
theorem sv:∀ (n:Nat) (a b:Ty),a.wt<=n->a.wt<=1099511627776->b.wt<=1099511627776 ->
  bh prog 91 [.agg (gd a),.agg (gd b)] (.v (.bool (sameTy a b)))
 | 0,a,b,hn,_,_=>by have:=a.gA;omega
 | n + 1,.mk h ps,.mk k qs,hn,cE,N4=>by
  have ih:=sv n;simp only [Ty.wt,Hd.wt] at hn cE N4
  have hE:bh prog 171 [.sl 18 (ej ps) none,.sl 18 (ej qs) none,.fn 172 [] []] (.v (.bool (samePts ps qs))):=by
   rw [<- pP];refine wj 172 D8 bR ps qs (by omega) fun e p t q u hx hy=>?_;have hw1:=Pts.gZ (mG hx);have qX:=Pts.gZ (mG hy);exact jO p q t u (by omega) (by omega) (ih t u (by omega) (by omega) (by omega))
  refine eG 53 [.tmp 4] func91 rfl ntmps91 rfl fun _ _ _ _=>?_;refine br ?_ ?_<;>intro hA
  ·simp [aF] at hA;obtain ⟨⟨⟨⟨e1,e2⟩,e3⟩,e4⟩,e5⟩:=hA;refine cP Ax (eJ h.af k.af (by omega) (by omega)) ?_;refine br ?_ ?_<;>intro hB
   ·refine (dH ?_:);simp [aF,e1,e2,e3,e4,e5] at hB;simp [sameTy,la,hB]
   ·simp [aF,e1,e2,e3,e4,e5] at hB;refine cP Nf hE ?_;refine (dH ?_:);simp [sameTy,la,e1,e2,e3,e4,e5,hB]
  ·refine (dH ?_:);simp [aF] at hA;simp only [sameTy,la]
   grind
theorem pQ (a b:Ty) (ha:a.wt<=1099511627776) (hb:b.wt<=1099511627776):bh prog 91 [.agg (gd a),.agg (gd b)] (.v (.bool (sameTy a b))):=sv _ a b (bd _) ha hb
def pS (h:Hd) (ps:Pts):Bool:=
 (((((decide (h.ai=2) || (decide (h.lo=0) && decide (h.hi=0))) && ((decide (h.ai=3) || decide (h.ai=5)) || decide (h.most=0))) && (decide (ps.len=0) || (decide (5<=h.ai) && decide (h.ai<=8)))) &&
  (decide (h.af.length=0) || decide (h.ai=4))) && (decide (h.name.s=al) || decide (h.ai=9)))
theorem BX (h:Hd) (ps:Pts):bh prog 238 [.agg (gd (.mk h ps))] (.v (.bool (pS h ps))):=by
 have l1:(((ej ps).length:Int)=0)=(ps.len=0):=by rw [aU];exact propext (by omega)
 have l2:(((bf h.af).length:Int)=0)=(h.af.length=0):=by rw [aE];exact propext (by omega)
 have he:(⟨#[]⟩:ByteArray)=al:=rfl;refine eG 67 [.tmp 2] func238 rfl ntmps238 rfl fun _ _ _ _=>?_;refine br ?_ ?_<;>intro k2
 ·have k2:h.ai=2:=of_decide_eq_true k2;refine (dH ?_:);rw [Bool.eq_iff_iff];simp [aH,aF,pS,aU,aE,k2,he]
 have k2:¬ h.ai=2:=of_decide_eq_false k2;refine br ?_ ?_<;>intro k3
 ·have k3:h.ai=3:=of_decide_eq_true k3;refine br (fun _=>?_) (fun hf=>?_)
  ·refine (dH ?_:);rw [Bool.eq_iff_iff];simp [aH,aF,pS,aU,aE,k3,he]
  ·exact absurd k3 (of_decide_eq_false hf)
 have k3:¬ h.ai=3:=of_decide_eq_false k3;refine br ?_ ?_<;>intro k5
 ·have k5:h.ai=5:=of_decide_eq_true k5;refine (dH ?_:);rw [Bool.eq_iff_iff];simp [aH,aF,pS,aU,aE,k5,he]
 have k5:¬ h.ai=5:=of_decide_eq_false k5;refine (dH ?_:);rw [Bool.eq_iff_iff];simp [aH,aF,pS,aU,aE,k2,k3,k5,he]
theorem uf:∀ ps:Pts,samePts ps ps=true:=by
 have wr:∀ l:List Wd,sameWds l l=true:=by
  intro l
  induction l with
  | nil=>rfl
  | cons x r ih=>simp [sameWds,ih]
 have key:∀ n,(∀ t:Ty,t.wt<=n->sameTy t t=true)/\(∀ ps:Pts,ps.wt<=n->samePts ps ps=true):=by
  intro n
  induction n using Nat.strongRecOn with
  | _ n ih=>
   have hp:∀ ps:Pts,ps.wt<=n->(∀ t:Ty,t.wt + 256<=n->sameTy t t=true)->samePts ps ps=true:=by
    intro ps
    induction ps using Pts.rec (motive_1:=fun _=>True) with
    | mk=>trivial
    | nil=>intros;simp [samePts]
    | cons p t r _ ihr=>
     intro hw ht;simp only [Pts.wt,Ph.wt] at hw;simp only [samePts];rw [ht t (by omega),ihr (by omega) ht];simp [cW,wr]
   refine ⟨fun t ht=>?_,fun ps PN=>?_⟩
   ·obtain ⟨h,ps⟩:=t;simp only [Ty.wt,Hd.wt] at ht;simp only [sameTy,la]
    grind
   all_goals grind
 exact fun ps=>(key ps.wt).2 ps (bd _)
theorem AG (h:Hd) (ps:Pts):pS h ps=sameTy (.mk h ps) (mask (.mk h ps)):=by
 have wr:∀ l:List Wd,sameWds l l=true:=by
  intro l
  induction l with
  | nil=>rfl
  | cons x r ih=>simp [sameWds,ih]
 have wn:∀ l:List Wd,sameWds l []=decide (l.length=0):=by
  intro l;cases l<;>simp [sameWds]
 have pn:∀ l:Pts,samePts l .nil=decide (l.len=0):=by
  intro l;cases l<;>simp [samePts,Pts.len]
 have pr:=uf ps;simp only [mask,sameTy,la,Eu];have e5:samePts ps (if 4 < h.ai/\h.ai < 9 then ps else .nil)=(decide (ps.len=0) || (decide (5<=h.ai) && decide (h.ai<=8))):=by grind
 have e6:sameWds h.af (if h.ai=4 then h.af else [])=(decide (h.af.length=0) || decide (h.ai=4)):=by grind
 grind [pS]
theorem wm (p:Ph) (t:Ty) (hp:p.wt<=1099511627776):bh prog 286 [.agg (Dh p (gd t))] (.v (.bool (bR p ct eF ct))):=by
 obtain ⟨th,RD⟩:=t;refine eG 8 [.tmp 2] func286 rfl ntmps286 rfl fun _ _ _ _=>?_;refine cP D8 (jO p eF ct ct hp (by decide) (pQ ct ct (by decide) (by decide))) ?_;exact (rfl:_=_)
def aw (l:List Wd):List ByteArray:=l.map fun w=>w.s
noncomputable def enumP (l:List Wd):Nat->Ft
 | 0=>(0,0)
 | e + 1=>
  if (enumP l e).1≠0 then enumP l e
  else match l[e]? with
   | some w=>eI (aw (l.take (e + 1))) w.s w.a
   | none=>(0,0)
theorem lf {l:List Wd} {e:Nat} (h:(enumP l e).1≠0):∀ d,enumP l (e + d)=enumP l e
 | 0=>rfl
 | d + 1=>by
  have ih:=lf h d;rw [<- Nat.add_assoc,enumP,ih,aj h]
theorem ug {L:List ByteArray} {x:ByteArray} {a:Int} (h:(eI L x a).1=0):eI L x a=(0,0):=by
 unfold eI at *
 grind
theorem yH {l:List Wd}:∀ {e:Nat},(enumP l e).1=0->enumP l e=(0,0)
 | 0,_=>rfl
 | e + 1,h=>by
  rw [enumP] at h ⊢
  grind [ug]
theorem pT {l:List Wd} {e:Nat} {w:Wd} (h:(enumP l e).1=0) (hw:l[e]? = some w):enumP l (e + 1)=eI (aw (l.take (e + 1))) w.s w.a:=by
 rw [enumP,ah (by rw [h];simp),hw]
noncomputable def jP (h:Hd):Ft:=
 if h.af.length=0 then (15,h.cF) else if 64 < h.af.length then (8,((h.af[64]?).getD (⟨al,0⟩:Wd)).a) else enumP h.af h.af.length
abbrev ED (h:Hd) (ps:Pts) (n e:Nat):St:=
 ⟨[aS 1 0,aS 2 1,dJ 27 2 (bf h.af),aA 28 ((bf h.af).length),aA 29 e,(3,⟨[],.sl 1 (dj (aw (h.af.take e))) (some 0)⟩)],
  [gd (.mk h ps),[.v (.int .i64 0),.v (.int .i64 0)]],[⟨n,9,1,none⟩]⟩
theorem il {l:List Wd} {e:Nat} {w:Wd} (h:l[e]? = some w):dj (aw (l.take e)) ++ [[DV.v (.string w.s)]]=dj (aw (l.take (e + 1))):=by
 rw [List.take_add_one,h];simp [dj,aw]
theorem yI (h:Hd) (ps:Pts) (hs:wdsWt h.af<=1099511627776):bh prog 239 [.agg (gd (.mk h ps))] (jP h).d:=by
 have hl:=bQ h.af;refine eG 48 [.cell 2 26] func239 rfl ntmps239 rfl fun _ _ _ _=>?_;refine br ?_ ?_<;>intro h0
 ·have h0:h.af.length=0:=by have:=h0;simp [aE] at this;simp [this]
  refine cP cJ (aX 15 h.cF) ?_;refine ⟨_,?_,rfl⟩;rw [jP,aj h0];exact ax
 have h0:¬ h.af.length=0:=by have:=h0;simp [aE] at this;simpa using this
 refine br ?_ ?_<;>intro h1
 ·have h1:64 < h.af.length:=by have:=h1;simp [aE] at this;omega
  obtain ⟨x,hx⟩:∃ x,h.af[64]? = some x:=⟨_,gE h1⟩;refine ⟨kj x,⟨by omega,cz hx⟩,?_⟩;refine cP cJ (aX 8 x.a) ?_;refine ⟨_,?_,rfl⟩;rw [jP,ah h0,aj h1,hx];exact ax
 have h1:¬ 64 < h.af.length:=by have:=h1;simp [aE] at this;omega
 have hk:jP h=enumP h.af h.af.length:=by rw [jP,ah h0,ah h1]
 rw [hk];refine lI (fun j st=>∃ e:Nat,st=ED h ps e e/\e<=h.af.length/\(enumP h.af e).1=0/\j=h.af.length - e) ⟨0,rfl,by omega,rfl,rfl⟩ (jG ⟨0,9,1,none⟩ rfl ⟨_,rfl⟩ rfl wA rfl rfl tU) ?_;rintro j st ⟨e,rfl,he,hz,rfl⟩;refine br ?_ ?_<;>intro hL
 ·have av:e < h.af.length:=by simpa [aE] using hL
  obtain ⟨w,hw⟩:=gX av;have RE:=ki (mG hw);have N5:=pT hz hw;have EE:(aw (h.af.take (e + 1)))[(aw (h.af.take (e + 1))).length - 1]? = some w.s:=by grind [aw]
  refine ⟨kj w,⟨by omega,cz hw⟩,?_⟩;refine ⟨by simp [bz,aw];omega,⟨by simp [bz,aw,maxLen];omega,by simp [bz,aw];omega⟩,?_⟩;have lA:=il hw;have Kj:=nT (aw (h.af.take (e + 1))) w.s w.a EE (by simp [aw];omega) (by omega);rw [<- lA,<- N5] at Kj;refine cP Jk Kj ?_;refine br ?_ ?_<;>intro hf
  ·have hf:(enumP h.af (e + 1)).1≠0:=sU hf;refine ⟨_,?_,rfl⟩;have bo:=lf hf (h.af.length - (e + 1));rw [show e + 1 + (h.af.length - (e + 1))=h.af.length by omega] at bo;rw [bo];exact ax
  ·have hf:(enumP h.af (e + 1)).1=0:=sU hf;refine ⟨ED h ps (e + 1) (e + 1),(cL (q5 (bV av (by omega)) lA)),h.af.length - (e + 1),by omega,e + 1,rfl,by omega,hf,rfl⟩
 ·have bO:e=h.af.length:=by
   have:=hL;simp [aE] at this;omega
  subst bO;have bo:=yH hz;refine ⟨_,?_,rfl⟩;rw [bo];exact ax
def N6 (t:Ty) (depth m:Int) (r:DV) (os:List (List DV)) (_:List TkE):Prop:=
 r=(wrong t depth m).1.d/\∃ z:Int,os=[[.v (.int .i64 z)]]/\((wrong t depth m).1.1=0->z=(wrong t depth m).2)
theorem K2 {t:Ty} {depth m:Int}:∀ r os tk,N6 t depth m r os tk->clB 0 0 r=true/\∀ mD∈os,clB.clL 0 0 mD=true:=by
 rintro r os tk ⟨rfl,z,rfl,_⟩;refine ⟨rfl,fun mD h=>?_⟩;simp only [List.mem_singleton] at h;subst h;rfl
theorem BZ (t:Ty) (hc:Ev prog 156 [.loc 0 0,.agg (gd t),.v (.int .i64 1)] [[.v (.int .i64 0)]] [] (N6 t 1 0)) :
  bh prog 84 [.agg (gd t)] (wrong t 1 0).1.d:=by
 obtain ⟨h,ps⟩:=t;refine eG 9 [.cell 2 26] func84 rfl ntmps84 rfl fun _ _ _ _=>?_;refine iT D6 rfl rfl ax ax hc K2 (fun r mD hr=>?_);obtain ⟨rfl,z,hz,_⟩:=hr;simp only [List.cons.injEq,and_true] at hz;subst hz;exact ⟨_,ax,rfl⟩
theorem wr (z:Int) (h1 : -9223372036854775808<=z) (h2:z<=9223372036854775807):IntKind.i64.wrap z=z:=by
 rw [IntKind.wrap_i64];omega
def tx (s:ByteArray):List UInt8:=s.data.toList
def Md (z:Int):Prop:=-9223372036854775808<=z/\z<=9223372036854775807
end Go.Proofs.YtfdedoiiahbnnaaGreat
set_option maxRecDepth 100000
namespace Go.Proofs
open Go.Shelf
end Go.Proofs
namespace Go.Proofs.YtfdedoiiahbnnaaGreat
open Go Go.RowKit Dv Go.Proofs.Tryz
theorem B0 {P:Program} {f:FuncId} {args:List DV} {d:DV}
  (h:∀ (E:En) (w:World) (vs:List Value),Env E [] w->RvL E args vs->Calls P f vs.toArray w fun e w'=>∃ v,e = .returned v/\Rv E d v/\Below w.heap.size w w'):bh P f args d:=by
 intro E w vs hE oo hv;refine (h E w vs hE hv).mono ?_;rintro e w' ⟨v,rfl,hr,hb⟩;exact ⟨v,rfl,⟨hb.os,hb.tape,hb.output,hb.size,fun k hk _=>hb.block k hk⟩,fun hf=>(by cases hf),d,[],E,hE.fX hb.block,rfl,rfl,Nw.refl hE,hr,rfl⟩
end Go.Proofs.YtfdedoiiahbnnaaGreat
set_option maxRecDepth 100000
namespace Go.Proofs.YtfdedoiiahbnnaaGreat
open Go Go.RowKit Dv Go.Proofs.Tryz
mutual
def rngT:Ty->Prop
 | .mk h ps=>Md h.lo/\Md h.hi/\Md h.most/\rngP ps
def rngP:Pts->Prop
 | .nil=>True
 | .cons p t r=>Md p.wide/\Md p.cn/\rngT t/\rngP r
end
end Go.Proofs.YtfdedoiiahbnnaaGreat
namespace Go.Proofs.YtfdedoiiahbnnaaGreat
namespace Dv
open Go Go.RowKit
def TypFs (f:TypeId->List DV->Prop):List TypeId->List DV->Prop
 | [],ds=>ds=[]
 | t :: r,ds=>∃ a b,ds=a ++ b/\f t a/\TypFs f r b
def Typ (P:Program):Nat->TypeId->List DV->Prop
 | 0,_,_=>False
 | n + 1,t,ds=>
  match P.underlying t with
  | some .bool=>∃ b,ds=[.v (.bool b)]
  | some (.int k)=>∃ z,ds=[.v (.int k z)]/\(Lit.int k z).wf=true
  | some .string=>∃ s:ByteArray,ds=[.v (.string s)]
  | some (.slice e)=>∃ es,ds=[.sl (P.cellsOf e) es none]/\∀ cs∈es,Typ P n e cs
  | some (.struct fs)=>TypFs (Typ P n) (fs.toList.map (·.type)) ds
  | _=>False
mutual
def wgD:DV->Nat
 | .v (.string s)=>s.size + 64
 | .sl _ es _=>64 + wgEs es
 | _=>64
def wgL:List DV->Nat
 | []=>0
 | d :: r=>wgD d + wgL r
def wgEs:List (List DV)->Nat
 | []=>0
 | cs :: r=>wgL cs + wgEs r
end
theorem dB:∀ a b:List DV,wgL (a ++ b)=wgL a + wgL b
 | [],b=>by simp [wgL]
 | d :: r,b=>by simp only [List.cons_append,wgL,dB r b];omega
def laidF (P:Program) (S:List TypeId):Nat->List Field->Nat->Bool
 | off,[],n=>decide (off=n)
 | off,f :: r,n=>decide (f.offset=off) && S.contains f.type && laidF P S (off + P.cellsOf f.type) r n
def lg (P:Program) (S:List TypeId) (t:TypeId):Bool:=
 match P.underlying t with
 | some .bool=>decide (P.cellsOf t=1)
 | some (.int _)=>decide (P.cellsOf t=1)
 | some .string=>decide (P.cellsOf t=1)
 | some (.slice e)=>decide (P.cellsOf t=1) && S.contains e && decide (0 < P.cellsOf e)
 | some (.struct fs)=>laidF P S 0 fs.toList (P.cellsOf t)
 | _=>false
def bkS {H:Type} (bk:DataW H->Nat):List (DataW H)->Nat
 | []=>0
 | d :: r=>bk d + bkS bk r
structure Bk {H:Type} (bk:DataW H->Nat):Prop where
 str:∀ l:List UInt8,l.length + 1<=bk (.lit (.string l))
 lit:∀ l,1<=bk (.lit l)
 nil:1<=bk .nil
 slice:∀ es sp,1 + bkS bk es<=bk (.slice es sp)
 agg:∀ l,bkS bk l<=bk (.agg l)
def yJ (w:World):En:=⟨fun a=>w.cell? a,[],[],[]⟩
theorem HG (w:World):Env (yJ w) [] w where
 len:=rfl
 tl:=rfl
 cM:=by simp
 inj:=List.nodup_nil
 sub:=fun x u hx=>hx
 pc:=by simp [yJ]
 bN:=by simp [yJ]
 fH:=by simp [yJ]
theorem B1 {w:World} {a:Addr} {k:Nat} {v:Value} (h:w.cell? (a.add k)=some v):w.cell? ⟨a.block,a.off + k,none⟩=some v:=by
 unfold Addr.add at h;split at h
 ·rename_i hk;subst hk;unfold World.cell? at h ⊢;split at h
  ·rename_i c e z he;split at h
   ·cases h
   ·simpa [he] using h
  ·cases h
 ·exact h
theorem B2 {w:World} {a:Addr} {v:Value} (h:w.cell? a=some v):a.spot=none:=by
 unfold World.cell? at h;split at h
 ·split at h
  ·cases h
  ·rename_i hs;simpa using hs
 ·cases h
theorem pU {E:En} {b:Nat}:∀ {p:Nat} {ds:List DV} {vs:List Value},RvL E.cl ds vs->(∀ (j:Nat) v,vs[j]? = some v->E.c ⟨b,p + j,none⟩=some v/\v.oneCell'=true)->RvAt E.cl b p ds
 | p,[],vs,h,hc=>by simp only [RvAt]
 | p,d :: r,vs,h,hc=>by
  simp only [RvL] at h;obtain ⟨v,s,rfl,h1,h2⟩:=h;simp only [RvAt];obtain ⟨c1,c2⟩:=hc 0 v rfl;refine ⟨⟨v,c1,c2,h1⟩,pU (p:=p + 1) h2 fun j u hj=>?_⟩;have:=hc (j + 1) u hj;rw [show p + 1 + j=p + (j + 1) by omega];exact this
section
variable {H:Type} {enc:TypeId × Value->H} {P:Program} {w:World} {sp:Nat->Bool} {held:Bool} {S:List TypeId} {bk:DataW H->Nat}
def Rd (enc:TypeId × Value->H) (P:Program) (w:World) (bk:DataW H->Nat) (n:Nat) (t:TypeId) (cs:List Value) (d:DataW H):Prop:=
 ∃ ds,RvL (yJ w) ds cs/\(∀ v∈cs,v.oneCell'=true)/\Typ P n t ds/\wgL ds<=64 * bk d/\cs.length=P.cellsOf t
theorem sw {n:Nat} (ih:∀ t cs x,t∈S->DataW.trod enc P w 0 sp held n t cs=some x->Rd enc P w bk n t cs x.1) (cs:List Value) :
  ∀ (fs:List Field) (off:Nat) (xs:List (DataW H × List MemPlace)),laidF P S off fs cs.length=true->xs.length=fs.length ->
   (∀ (i:Nat) f,fs[i]? = some f->DataW.trod enc P w 0 sp held n f.type ((cs.drop f.offset).take (P.cellsOf f.type))=xs[i]?) ->
   ∃ ds,RvL (yJ w) ds (cs.drop off)/\(∀ v∈cs.drop off,v.oneCell'=true)/\TypFs (Typ P n) (fs.map (·.type)) ds/\wgL ds<=64 * bkS bk (xs.map (·.1))
 | [],off,xs,hl,vD,hx=>by
  simp only [laidF,decide_eq_true_eq] at hl;subst hl;simp only [List.length_nil,List.length_eq_zero_iff] at vD;subst vD;exact ⟨[],by simpa using bE _,by simp,by simp [TypFs],by simp [wgL]⟩
 | f :: r,off,xs,hl,vD,hx=>by
  simp only [laidF,aP,decide_eq_true_eq] at hl;obtain ⟨⟨hof,hS⟩,hl⟩:=hl
  match xs,vD with
  | x :: xs,vD=>
   have h0:=hx 0 f rfl;rw [hof] at h0;simp only [List.getElem?_cons_zero] at h0;obtain ⟨ds0,r1,r2,r3,r4,r5⟩:=ih f.type _ x (sU hS) h0;obtain ⟨ds1,s1,s2,s3,s4⟩:=sw ih cs r (off + P.cellsOf f.type) xs hl (sU vD) (fun i g hg=>by simpa using hx (i + 1) g (sU hg))
   have EF:cs.drop off=(cs.drop off).take (P.cellsOf f.type) ++ cs.drop (off + P.cellsOf f.type):=by
    rw [<- List.drop_drop,List.take_append_drop]
   refine ⟨ds0 ++ ds1,?_,?_,?_,?_⟩
   ·rw [EF];exact RvL.append r1 s1
   ·rw [EF];intro v hv;rcases List.mem_append.1 hv with hv | hv
    ·exact r2 v hv
    ·exact s2 v hv
   ·simp only [List.map_cons,TypFs];exact ⟨ds0,ds1,rfl,r3,s3⟩
   ·rw [dB];simp only [List.map_cons,bkS];omega
theorem wo {n e:Nat} (ih:∀ t cs x,t∈S->DataW.trod enc P w 0 sp held n t cs=some x->Rd enc P w bk n t cs x.1) (he:e∈S) (a:Addr) :
  ∀ (xs:List (DataW H × List MemPlace)) (i0:Nat),(∀ i,i < xs.length->(w.cells? 0 (a.add ((i0 + i) * P.cellsOf e)) (P.cellsOf e)).bind (DataW.trod enc P w 0 sp held n e)=xs[i]?) ->
   ∃ es,es.length=xs.length/\RvEs (yJ w) (P.cellsOf e) a.block (a.off + i0 * P.cellsOf e) es/\(∀ cs∈es,Typ P n e cs)/\wgEs es<=64 * bkS bk (xs.map (·.1))
 | [],i0,hx=>⟨[],rfl,by simp only [RvEs],by simp,by simp [wgEs]⟩
 | x :: xs,i0,hx=>by
  have h0:=hx 0 (by simp);simp only [Nat.add_zero,List.getElem?_cons_zero] at h0;obtain ⟨cs,bP,ht⟩:=Option.bind_eq_some_iff.1 h0;obtain ⟨_,hlen,lR⟩:=World.cells?_some bP;obtain ⟨ds0,r1,r2,r3,r4,r5⟩:=ih e cs x he ht
  obtain ⟨es,s1,s2,s3,s4⟩:=wo ih he a xs (i0 + 1) (fun i hi=>by
   have:=hx (i + 1) (sU hi);simp only [List.getElem?_cons_succ] at this;rw [show i0 + 1 + i=i0 + (i + 1) by omega]
   exact this)
  refine ⟨ds0 :: es,by simp [s1],?_,?_,?_⟩
  ·simp only [RvEs];refine ⟨by rw [<- r1.length,hlen],pU (E:=yJ w) r1 fun j v hj=>⟨?_,r2 v (mG hj)⟩,?_⟩
   ·have qY:j < P.cellsOf e:=by rw [<- hlen];exact (gS hj).1
    have h1:=lR j qY;rw [hj,Deep.add_add] at h1;have h2:=B1 h1;show w.cell? _=_;rw [Nat.add_assoc];exact h2
   ·rw [Nat.add_assoc,show i0 * P.cellsOf e + P.cellsOf e=(i0 + 1) * P.cellsOf e by rw [Nat.add_mul,Nat.one_mul]];exact s2
  ·intro cs' hc;rcases bX hc with hc | hc
   ·subst hc;exact r3
   ·exact s3 cs' hc
  ·simp only [wgEs,List.map_cons,bkS];omega
theorem ui (GP:Bk bk) (hS:∀ t∈S,lg P S t=true):∀ (n:Nat) (t:TypeId) (cs:List Value) (x:DataW H × List MemPlace),t∈S->DataW.trod enc P w 0 sp held n t cs=some x->Rd enc P w bk n t cs x.1
 | 0,t,cs,x,_,h=>by simp [DataW.trod] at h
 | n + 1,t,cs,x,ht,h=>by
  have hf:=hS t ht;unfold lg at hf;unfold Rd
  cases hu:P.underlying t with
  | none=>rw [hu] at hf;cases hf
  | some D=>
   rw [hu] at hf
   cases D with
   | bool=>
    simp only [decide_eq_true_eq] at hf;obtain ⟨b,rfl,rfl⟩:=DataW.trod_bool hu h;have:=GP.lit (.bool b);exact ⟨[.v (.bool b)],rvL_one (by unfold Rv;exact ⟨rfl,rfl⟩),by simp [Value.oneCell'],by simp only [Typ,hu];exact ⟨b,rfl⟩,by simp only [wgL,wgD];omega,by simp [hf]⟩
   | int k=>
    simp only [decide_eq_true_eq] at hf;obtain ⟨z,rfl,rfl,hw⟩:=DataW.trod_int hu h;have:=GP.lit (.int k z);exact ⟨[.v (.int k z)],rvL_one (by unfold Rv;exact ⟨rfl,rfl⟩),by simp [Value.oneCell'],by simp only [Typ,hu];exact ⟨z,rfl,hw⟩,by simp only [wgL,wgD];omega,by simp [hf]⟩
   | string=>
    simp only [decide_eq_true_eq] at hf;obtain ⟨s,rfl,rfl,hw⟩:=DataW.trod_string hu h;have:=GP.str s.data.toList;have cf:s.data.toList.length=s.size:=by rw [Array.length_toList];all_goals rfl
    exact ⟨[.v (.string s)],rvL_one (by unfold Rv;exact ⟨rfl,rfl⟩),by simp [Value.oneCell'],by simp only [Typ,hu];exact ⟨s,rfl⟩,by simp only [wgL,wgD];omega,by simp [hf]⟩
   | slice e=>
    simp only [aP,decide_eq_true_eq] at hf;obtain ⟨⟨HH,u4⟩,hf3⟩:=hf;rcases DataW.trod_slice hu h with ⟨rfl,rfl⟩ | ⟨a,len,cap,elems,rest,m,hm,rfl,rfl,_,L1,_,q4,hx,_,_⟩
    ·have:=GP.nil;refine ⟨[.sl (P.cellsOf e) [] none],rvL_one ?_,by simp [Value.oneCell'],by simp only [Typ,hu];exact ⟨[],rfl,by simp⟩,by simp only [wgL,wgD,wgEs];omega,by simp [HH]⟩;unfold Rv;exact ⟨none,0,0,rfl,⟨rfl,bd _⟩,fun hc=>absurd rfl hc,fun k hk=>by cases hk⟩
    ·simp only [Nat.add_right_cancel_iff] at hm;subst hm;obtain ⟨es,s1,s2,s3,s4⟩:=wo (fun t cs x=>ui GP hS n t cs x) (sU u4) a elems 0 (fun i hi=>by simpa using hx i (by omega));have hb:=GP.slice (elems.map (·.1)) (rest.map (·.1));refine ⟨[.sl (P.cellsOf e) es none],rvL_one ?_,by simp [Value.oneCell'],by simp only [Typ,hu];exact ⟨es,rfl,s3⟩,by simp only [wgL,wgD];omega,by simp [HH]⟩;unfold Rv;refine ⟨some a,len,cap,rfl,⟨by omega,L1⟩,fun aY=>⟨?_,?_⟩,fun k hk=>by cases hk⟩
     ·have mQ:0 < len:=by
       rw [<- q4,<- s1];exact List.length_pos_iff.2 aY
      have h0:=hx 0 mQ;rw [gE (by omega)] at h0;obtain ⟨cs,bP,_⟩:=Option.bind_eq_some_iff.1 h0;obtain ⟨_,hlen,lR⟩:=World.cells?_some bP;have h1:=lR 0 hf3;rw [gE (by omega),Deep.add_add] at h1;simp only [Nat.zero_mul,Nat.add_zero] at h1;exact B2 (a:=a) h1
     ·have s2':RvEs (yJ w) (P.cellsOf e) a.block a.off es:=sU s2;exact s2'
   | struct fs=>
    obtain ⟨xs,m,hm,rfl,hlen,vD,hx⟩:=DataW.trod_struct hu h;simp only [Nat.add_right_cancel_iff] at hm;subst hm;simp only at hf;obtain ⟨ds,s1,s2,s3,s4⟩:=sw (fun t cs x=>ui GP hS n t cs x) cs fs.toList 0 xs (by rw [hlen];exact hf) (sU vD) (fun i f hi=>hx i f (sU hi));have hb:=GP.agg (xs.map (·.1));refine ⟨ds,by simpa using s1,by simpa using s2,by simp only [Typ,hu];exact s3,by simp only;omega,hlen⟩
   | _=>cases hf
end
theorem AH {P:Program} {n:Nat} {t:TypeId} {k:IntKind} {ds:List DV} (hu:P.underlying t=some (.int k)) (h:Typ P n t ds):∃ z,ds=[.v (.int k z)]/\(Lit.int k z).wf=true:=by
 cases n with
 | zero=>exact h.elim
 | succ n=>simp only [Typ,hu] at h;exact h
theorem EG {P:Program} {n:Nat} {t:TypeId} {ds:List DV} (hu:P.underlying t=some .bool) (h:Typ P n t ds):∃ b,ds=[.v (.bool b)]:=by
 cases n with
 | zero=>exact h.elim
 | succ n=>simp only [Typ,hu] at h;exact h
theorem AJ {P:Program} {n:Nat} {t:TypeId} {ds:List DV} (hu:P.underlying t=some .string) (h:Typ P n t ds):∃ s:ByteArray,ds=[.v (.string s)]:=by
 cases n with
 | zero=>exact h.elim
 | succ n=>simp only [Typ,hu] at h;exact h
theorem pV {P:Program} {n:Nat} {t e:TypeId} {ds:List DV} (hu:P.underlying t=some (.slice e)) (h:Typ P n t ds):∃ m es,n=m + 1/\ds=[.sl (P.cellsOf e) es none]/\∀ cs∈es,Typ P m e cs:=by
 cases n with
 | zero=>exact h.elim
 | succ n=>
  simp only [Typ,hu] at h;obtain ⟨es,h1,h2⟩:=h;exact ⟨n,es,rfl,h1,h2⟩
theorem jQ {P:Program} {n:Nat} {t:TypeId} {fs:Array Field} {ds:List DV} (hu:P.underlying t=some (.struct fs)) (h:Typ P n t ds):∃ m,n=m + 1/\TypFs (Typ P m) (fs.toList.map (·.type)) ds:=by
 cases n with
 | zero=>exact h.elim
 | succ n=>
  simp only [Typ,hu] at h;exact ⟨n,rfl,h⟩
theorem wf_i64 {z:Int} (h:(Lit.int .i64 z).wf=true) : -9223372036854775808<=z/\z<=9223372036854775807:=by
 simpa [Lit.wf,IntKind.min,IntKind.max,IntKind.signed,IntKind.bits] using h
end Dv
end Go.Proofs.YtfdedoiiahbnnaaGreat
set_option maxRecDepth 100000
namespace Go.Proofs.YtfdedoiiahbnnaaGreat
open Go Go.RowKit Dv Go.Proofs.Tryz
theorem yK:prog.cellsOf 34=2:=by kernel_rfl
theorem yL:prog.cellsOf 133=18:=by kernel_rfl
theorem nd {n:Nat} {ds:List DV} (h:Typ prog n 34 ds):∃ w:Wd,ds=kj w/\w.wt<=wgL ds:=by
 obtain ⟨m,_,hf⟩:=jQ Tryz.underlying34 h;obtain ⟨a,b,rfl,h1,c,d,rfl,h2,rfl⟩:=hf;obtain ⟨s,rfl⟩:=AJ Tryz.underlying9 h1;obtain ⟨z,rfl,_⟩:=AH Tryz.underlying3 h2;exact ⟨⟨s,z⟩,rfl,by simp [wgL,wgD,Wd.wt]⟩
theorem EH:∀ {m:Nat} {es:List (List DV)},(∀ cs∈es,Typ prog m 34 cs)->∃ l:List Wd,es=bf l/\wdsWt l<=wgEs es
 | m,[],h=>⟨[],rfl,by simp [wdsWt,wgEs]⟩
 | m,cs :: r,h=>by
  obtain ⟨w,rfl,hw⟩:=nd (h cs (by simp));obtain ⟨l,rfl,hl⟩:=EH (m:=m) (es:=r) (fun c hc=>h c (dn _ hc));exact ⟨w :: l,rfl,by simp only [wdsWt,wgEs];omega⟩
theorem l8 {n:Nat} {ds:List DV} (h:Typ prog n 29 ds):∃ l:List Wd,ds=[.sl 2 (bf l) none]/\64 + wdsWt l<=wgL ds:=by
 obtain ⟨m,es,_,rfl,he⟩:=pV Tryz.underlying29 h;obtain ⟨l,rfl,hl⟩:=EH he;rw [yK];exact ⟨l,rfl,by simp only [wgL,wgD];omega⟩
theorem ju {n:Nat} {ds:List DV} (h:Typ prog n 3 ds):∃ z,ds=[.v (.int .i64 z)]/\Md z:=by
 obtain ⟨z,rfl,hw⟩:=AH Tryz.underlying3 h;exact ⟨z,rfl,wf_i64 hw⟩
theorem EI {m:Nat} (ih:∀ k,k < m->∀ ds,Typ prog k 36 ds->∃ t:Ty,ds=gd t/\rngT t/\t.wt<=wgL ds) :
  ∀ {es:List (List DV)},(∀ cs∈es,Typ prog m 133 cs)->∃ ps:Pts,es=ej ps/\rngP ps/\ps.wt<=wgEs es
 | [],h=>⟨.nil,by simp [ej],by simp [rngP],by simp [Pts.wt]⟩
 | cs :: r,h=>by
  obtain ⟨ps,rfl,hr,hl⟩:=EI ih (es:=r) (fun c hc=>h c (dn _ hc));obtain ⟨k,rfl,hf⟩:=jQ Tryz.underlying133 (h cs (by simp));obtain ⟨a1,b1,rfl,h1,a2,b2,rfl,h2,a3,b3,rfl,h3,a4,b4,rfl,h4,a5,b5,rfl,h5,a6,b6,rfl,h6,rfl⟩:=hf;obtain ⟨nm,rfl,w1⟩:=nd h1;obtain ⟨bare,rfl⟩:=EG Tryz.underlying4 h2;obtain ⟨lab,rfl,w3⟩:=l8 h3;obtain ⟨wide,rfl,r4⟩:=ju h4;obtain ⟨k5,_,hf5⟩:=jQ Tryz.underlying131 h5;obtain ⟨c1,d1,rfl,g1,c2,d2,rfl,g2,c3,d3,rfl,g3,c4,d4,rfl,g4,rfl⟩:=hf5;obtain ⟨ck,rfl,_⟩:=ju g1;obtain ⟨cn,rfl,q2⟩:=ju g2;obtain ⟨ca,rfl,_⟩:=ju g3;obtain ⟨cl,rfl,w5⟩:=l8 g4;obtain ⟨t,rfl,rt,wt⟩:=ih k (by omega) _ h6;refine ⟨.cons ⟨nm,bare,lab,wide,ck,cn,ca,cl⟩ t ps,?_,by simp only [rngP];exact ⟨r4,q2,rt,hr⟩,?_⟩
  ·grind [ej,Dh,kj]
  ·grind [Pts.wt,Ph.wt,wgEs,dB,wgL,wgD,kj,Wd.wt]
theorem EJ:∀ (n:Nat) (ds:List DV),Typ prog n 36 ds->∃ t:Ty,ds=gd t/\rngT t/\t.wt<=wgL ds:=by
 intro n
 induction n using Nat.strongRecOn with
 | _ n ih=>
  intro ds h;obtain ⟨m,rfl,hf⟩:=jQ Tryz.underlying36 h;obtain ⟨a1,b1,rfl,h1,a2,b2,rfl,h2,a3,b3,rfl,h3,a4,b4,rfl,h4,a5,b5,rfl,h5,a6,b6,rfl,h6,a7,b7,rfl,h7,a8,b8,rfl,h8,rfl⟩:=hf;obtain ⟨ai,rfl,_⟩:=ju h1;obtain ⟨cF,rfl,_⟩:=ju h2;obtain ⟨lo,rfl,r3⟩:=ju h3;obtain ⟨hi,rfl,r4⟩:=ju h4;obtain ⟨most,rfl,r5⟩:=ju h5;obtain ⟨af,rfl,w6⟩:=l8 h6;obtain ⟨k,es,rfl,rfl,gU⟩:=pV Tryz.underlying32 h7;obtain ⟨ps,rfl,rp,wp⟩:=EI (fun j hj=>ih j (by omega)) gU;obtain ⟨nm,rfl,w8⟩:=nd h8;rw [yL];refine ⟨.mk ⟨ai,cF,lo,hi,most,af,nm⟩ ps,?_,by simp only [rngT];exact ⟨r3,r4,r5,rp⟩,?_⟩
  ·grind [gd,kj]
  ·grind [Ty.wt,Hd.wt,dB,wgL,wgD,kj,Wd.wt]
end Go.Proofs.YtfdedoiiahbnnaaGreat
namespace Go.Proofs.YtfdedoiiahbnnaaGreat
namespace Dv
open Go Go.RowKit Go.ChangeShapes Go.WideShapes Go.ChangeAt
open Go.ChangeMaps (open_string shut_string)
section
variable {H:Type} {enc:TypeId × Value->H} {P:Program}
theorem kM (hl:laidOutB P=true) {W W':World} (hb:Below W.heap.size W W'):∀ {ts:List TypeId} {vs:List Value} {ds:List (DataW H)} {ps:List MemPlace},(∀ t∈ts,P.readableRec t=true/\t < P.types.size) ->
  DataW.TrodAll enc P W 0 (fun _=>true) true ts vs ds ps->(∀ x∈ps,x.block < W.heap.size)->DataW.TrodAll enc P W' 0 (fun b=>decide (b < W.heap.size)) true ts vs ds ps
 | [],[],[],_,_,h,_=>h
 | t :: ts,v :: vs,d :: ds,_,ht,⟨p,q,h1,h2,e⟩,av=>by
  subst e;obtain ⟨r1,r2⟩:=ht t (by simp);exact ⟨p,q,Below.trod hl r1 r2 h1 hb (fun x hx=>av x (List.mem_append_left _ hx)),kM hl hb (fun t oK=>ht t (by simp [oK])) h2 (fun x hx=>av x (List.mem_append_right _ hx)),rfl⟩
theorem law_post {f:Func} {s:ChangeSpec} {tb:TypeId} (hl:laidOutB P=true) (yo:f.resultTypes = #[tb]) (htb:P.underlying tb=some .bool) (hv:s.vars=[]) (hts:∀ t∈f.params.toList,P.readableRec t=true/\t < P.types.size)
  {W W':World} {args:Array Value} {ds gs:List (DataW H)} {before:List MemPlace} (hW:DataW.Whole enc P f.params.toList s.vars false W args.toList ds gs before) (u5:s.fn H ds={ results:=[.lit (.bool true)],args:=ds }) (hb:Below W.heap.size W W') :
  s.post enc P f false true false false W args (.bool true) W':=by
 have hW':=hW;obtain ⟨p,q,hA,hV,rfl,hfz,hnd⟩:=hW;rw [hv] at hV;obtain ⟨rfl,rfl⟩:=trodVars_none hV;refine ⟨ds,[],p ++ [],[],p,[],hW',?_,?_,?_,hb.frame _,fun h=>by cases h⟩
 ·rw [List.append_nil,u5,yo];exact trodAll_cons_mk (shut_bool htb _) trodAll_mk0
 ·rw [List.append_nil,u5];exact kM hl hb hts hA (fun x hx=>hW'.lt x (List.mem_append_left _ hx))
 ·rw [List.append_nil,u5,hv];rfl
theorem yM {w w':World} {Φ:DV->List (List DV)->List TkE->Prop} {v:Value} (h:vo false (yJ w) w Φ v w'):Below w.heap.size w w':=by
 obtain ⟨hm,_⟩:=h;refine ⟨hm.os,hm.tape,hm.output,hm.size,fun k hk=>hm.block k hk ?_⟩;rintro (h1 | ⟨y,h1,_⟩)
 ·simp [yJ] at h1
 ·simp [yJ] at h1
theorem calls_law {f:FuncId} {args:List DV} {vs:List Value} {w:World} (h:bh P f args (.v (.bool true))) (hv:RvL (yJ w) args vs) :
  Calls P f vs.toArray w fun e w'=>e = .returned (.bool true)/\Below w.heap.size w w':=by
 refine (h (yJ w) w vs (HG w) rfl hv).mono ?_;rintro e w' ⟨v,rfl,he⟩;have hb:=yM he;obtain ⟨_,_,d,os,E,_,_,_,_,hr,rfl⟩:=he;unfold Rv at hr;rw [hr.1];exact ⟨rfl,hb⟩
variable {W:World} {base:Nat} {S:List TypeId} {bk:DataW H->Nat}
theorem arg_st (GP:Bk bk) (hS:∀ t∈S,lg P S t=true) {t:TypeId} {fs:Array Field} {v:Value} {d:DataW H} {ps:List MemPlace} (ht:t∈S) (hu:P.underlying t=some (.struct fs))
  (hval:Value.okWide P W .any base t v) (h:DataW.Trod enc P W 0 (fun _=>true) true t v d ps):∃ n ds,Rv (yJ W) (.agg ds) v/\Typ P n t ds/\wgL ds<=64 * bk d:=by
 unfold Value.okWide at hval;rw [hu] at hval;obtain ⟨cs,rfl,_,_⟩:=hval;obtain ⟨n,hn⟩:=h;obtain ⟨ds,h1,h2,h3,h4,_⟩:=ui GP hS n t _ _ ht hn;refine ⟨n,ds,?_,h3,h4⟩;unfold Rv;exact ⟨cs.toList,by simp,h1,h2⟩
end
end Dv
end Go.Proofs.YtfdedoiiahbnnaaGreat
namespace Go.Proofs.YtfdedoiiahbnnaaGreat
open Go Go.RowKit Dv
theorem yN {H:Type}:∀ l:List (DataW H),bkS Rows.uptoBulk l=Rows.uptoBulkAll l
 | []=>by simp [bkS,Rows.uptoBulkAll]
 | d :: r=>by simp only [bkS,Rows.uptoBulkAll,yN r]
theorem bk_ok {H:Type}:Bk (Rows.uptoBulk (H:=H)) where
 str:=fun l=>by simp [Rows.uptoBulk]
 lit:=fun l=>by cases l<;>simp [Rows.uptoBulk]
 nil:=by simp [Rows.uptoBulk]
 slice:=fun es sp=>by simp only [Rows.uptoBulk,yN];omega
 agg:=fun l=>by simp only [Rows.uptoBulk,yN];omega
theorem bulk_le {H:Type} {l:List (DataW H)} (hk:Rows.uptoSmall H l=true):Rows.uptoBulkAll l<=1048576:=of_decide_eq_true hk
theorem laid_out:laidOutB Tryz.prog=true:=by kernel_rfl
theorem own_knob:ownKnob Tryz.prog.godebug=none:=by kernel_rfl
def tyS:List TypeId:=[36,29,34,9,3,32,133,4,131]
end Go.Proofs.YtfdedoiiahbnnaaGreat
set_option maxRecDepth 100000
namespace Go.Proofs.YtfdedoiiahbnnaaGreat
open Go Go.RowKit Dv Go.Proofs.Tryz
def Pts.take:Nat->Pts->Pts
 | 0,_=>.nil
 | _ + 1,.nil=>.nil
 | e + 1,.cons p t r=>.cons p t (r.take e)
structure Sch where
 ae:List Wd
 order:List (Wd × Wd)
 types:List (Wd × Ty)
 root:Ty
def N7 (p:Wd × Wd):List DV:=[.v (.string p.1.s),.v (.int .i64 p.1.a),.v (.string p.2.s),.v (.int .i64 p.2.a)]
def oy (l:List (Wd × Wd)):List (List DV):=l.map N7
def PO (x:Wd × Ty):List DV:=.v (.string x.1.s) :: .v (.int .i64 x.1.a) :: gd x.2
def dNms (l:List (Wd × Ty)):List (List DV):=l.map PO
def yO (s:Sch):List DV:=.sl 2 (bf s.ae) none :: .sl 4 (oy s.order) none :: .sl 11 (dNms s.types) none :: gd s.root
def prsWt:List (Wd × Wd)->Nat
 | []=>0
 | p :: r=>p.1.wt + p.2.wt + prsWt r
def nmsWt:List (Wd × Ty)->Nat
 | []=>0
 | p :: r=>p.1.wt + p.2.wt + nmsWt r
def Sch.wt (s:Sch):Nat:=wdsWt s.ae + prsWt s.order + nmsWt s.types + s.root.wt
theorem l9 (l:List (Wd × Wd)):(oy l).length=l.length:=by simp [oy]
theorem fu (l:List (Wd × Ty)):(dNms l).length=l.length:=by simp [dNms]
theorem wu {l:List (Wd × Wd)} {j:Nat} {p:Wd × Wd} (h:l[j]? = some p):(oy l)[j]? = some (N7 p):=by simp [oy,h]
theorem dNms_get {l:List (Wd × Ty)} {j:Nat} {p:Wd × Ty} (h:l[j]? = some p):(dNms l)[j]? = some (PO p):=by simp [dNms,h]
theorem kr:∀ l:List (Wd × Wd),128 * l.length<=prsWt l
 | []=>bd _
 | p :: r=>by have:=kr r;simp only [List.length_cons,prsWt,Wd.wt];omega
theorem ku:∀ l:List (Wd × Ty),256 * l.length<=nmsWt l
 | []=>bd _
 | p :: r=>by have:=ku r;have:=p.2.gA;simp only [List.length_cons,nmsWt,Wd.wt];omega
theorem gj:∀ {l:List (Wd × Ty)} {p:Wd × Ty},p∈l->p.1.wt + p.2.wt<=nmsWt l
 | x :: r,p,h=>by
  rcases bX h with h | h
  ·subst h;simp only [nmsWt];omega
  ·have:=gj h;simp only [nmsWt];omega
def N8 (s:Sch):Prop:=(∀ x∈s.types,rngT x.2)/\rngT s.root
theorem yP:prog.cellsOf 122=4:=by kernel_rfl
theorem wv:prog.cellsOf 93=11:=by kernel_rfl
theorem K3 {n:Nat} {ds:List DV} (h:Typ prog n 122 ds):∃ p:Wd × Wd,ds=N7 p/\p.1.wt + p.2.wt<=wgL ds:=by
 obtain ⟨m,_,hf⟩:=jQ Tryz.underlying122 h;obtain ⟨a,b,rfl,h1,c,d,rfl,h2,rfl⟩:=hf;obtain ⟨x,rfl,w1⟩:=nd h1;obtain ⟨y,rfl,w2⟩:=nd h2;exact ⟨(x,y),rfl,by simp only [dB,wgL];omega⟩
theorem K4 {n:Nat} {ds:List DV} (h:Typ prog n 93 ds):∃ p:Wd × Ty,ds=PO p/\rngT p.2/\p.1.wt + p.2.wt<=wgL ds:=by
 obtain ⟨m,_,hf⟩:=jQ Tryz.underlying93 h;obtain ⟨a,b,rfl,h1,c,d,rfl,h2,rfl⟩:=hf;obtain ⟨x,rfl,w1⟩:=nd h1;obtain ⟨y,rfl,r2,w2⟩:=EJ _ _ h2;exact ⟨(x,y),by simp [PO,kj],r2,by simp only [dB,wgL];omega⟩
theorem EK:∀ {m:Nat} {es:List (List DV)},(∀ cs∈es,Typ prog m 122 cs)->∃ l:List (Wd × Wd),es=oy l/\prsWt l<=wgEs es
 | m,[],h=>⟨[],rfl,by simp [prsWt,wgEs]⟩
 | m,cs :: r,h=>by
  obtain ⟨w,rfl,hw⟩:=K3 (h cs (by simp));obtain ⟨l,rfl,hl⟩:=EK (m:=m) (es:=r) (fun c hc=>h c (dn _ hc));exact ⟨w :: l,rfl,by simp only [prsWt,wgEs];omega⟩
theorem EL:∀ {m:Nat} {es:List (List DV)},(∀ cs∈es,Typ prog m 93 cs)->∃ l:List (Wd × Ty),es=dNms l/\(∀ x∈l,rngT x.2)/\nmsWt l<=wgEs es
 | m,[],h=>⟨[],rfl,by simp,by simp [nmsWt,wgEs]⟩
 | m,cs :: r,h=>by
  obtain ⟨w,rfl,hr,hw⟩:=K4 (h cs (by simp));obtain ⟨l,rfl,hlr,hl⟩:=EL (m:=m) (es:=r) (fun c hc=>h c (dn _ hc));refine ⟨w :: l,rfl,fun x hx=>?_,by simp only [nmsWt,wgEs];omega⟩;rcases bX hx with rfl | hx
  ·exact hr
  ·exact hlr x hx
theorem typ_sch {n:Nat} {ds:List DV} (h:Typ prog n 38 ds):∃ s:Sch,ds=yO s/\N8 s/\s.wt<=wgL ds:=by
 obtain ⟨m,_,hf⟩:=jQ Tryz.underlying38 h;obtain ⟨a1,b1,rfl,h1,a2,b2,rfl,h2,a3,b3,rfl,h3,a4,b4,rfl,h4,rfl⟩:=hf;obtain ⟨l1,rfl,w1⟩:=l8 h1;obtain ⟨m2,es2,_,rfl,EM⟩:=pV Tryz.underlying30 h2;obtain ⟨l2,rfl,w2⟩:=EK EM;obtain ⟨m3,es3,_,rfl,he3⟩:=pV Tryz.underlying31 h3;obtain ⟨l3,rfl,r3,w3⟩:=EL he3;obtain ⟨t,rfl,r4,w4⟩:=EJ _ _ h4;rw [yP,wv];refine ⟨⟨l1,l2,l3,t⟩,by simp [yO],⟨r3,r4⟩,?_⟩;simp only [Sch.wt,dB,wgL,wgD] at *;omega
end Go.Proofs.YtfdedoiiahbnnaaGreat
namespace Go.Proofs.YtfdedoiiahbnnaaGreat
open Go Go.RowKit Dv
def tySS:List TypeId:=38 :: 30 :: 122 :: 31 :: 93 :: tyS
theorem tySS_ok:∀ t∈tySS,lg Tryz.prog tySS t=true:=by
 have h:(tySS.all fun t=>lg Tryz.prog tySS t)=true:=by kernel_rfl
 exact fun t ht=>List.all_eq_true.1 h t ht
set_option maxRecDepth 100000
noncomputable abbrev PP:Program:=Tryz.pinned.checked.prog
def TW:OpenClaim:={ program := "",sum := "",func := "",spec := "" }
theorem and_ok {a b:Bool} (ha:a=true) (hb:b=true):(a && b)=true:=by rw [ha,hb];all_goals rfl
theorem g_laid:laidOutB PP=true:=laid_out
theorem g_maps:mapsRowed PP=true:=by kernel_rfl
theorem g_stops:(PP.stops == [])=true:=by kernel_rfl
theorem g_knobs:(PP.stopKnobs == [])=true:=by kernel_rfl
theorem g_heard:PP.stopsHeard=true:=by kernel_rfl
theorem g_enter:PP.mayEnter=true:=by kernel_rfl
theorem g_lifts:(TW.lifted == PP.liftsFinal)=true:=by kernel_rfl
theorem g_keys:(true == PP.plainKeys)=true:=by kernel_rfl
theorem g_make:(PP.make == some TW.make)=true:=by kernel_rfl
end Go.Proofs.YtfdedoiiahbnnaaGreat
set_option maxRecDepth 100000
namespace Go.Proofs.YtfdedoiiahbnnaaGreat
open Go Go.RowKit Dv Go.Proofs.Tryz
theorem wx (x b:Nat):(x:Int).fdiv (2 ^ b)=((x / 2 ^ b:Nat):Int):=by grind
theorem fc (m:Nat):BitVec.ofInt 64 (m:Int)=BitVec.ofNat 64 m:=by simp
theorem AK {x b:Nat} (hb:b < 64) (hx:x < 18446744073709551616) :
  decide (IntKind.u64.wrap ((BitVec.ofInt 64 ((x:Int).fdiv (2 ^ (min b 64))) &&& BitVec.ofInt 64 1).toNat:Int)=1)=x.testBit b:=by
 rw [Nat.min_eq_left (by omega),wx,fc,show (BitVec.ofInt 64 1)=BitVec.ofNat 64 1 by decide,BitVec.toNat_and,BitVec.toNat_ofNat,BitVec.toNat_ofNat,Nat.testBit_eq_decide_div_mod_eq];have h1:x / 2 ^ b < 18446744073709551616:=Nat.lt_of_le_of_lt (Nat.div_le_self _ _) hx;rw [Nat.mod_eq_of_lt h1,show (1 % 2 ^ 64:Nat)=1 by decide,Nat.and_one_is_mod];simp only [IntKind.wrap_u64];congr 1;apply propext;omega
theorem yQ {x b:Nat} (hb:b < 64) (hx:x < 18446744073709551616) :
  IntKind.u64.wrap ((BitVec.ofInt 64 (x:Int) ||| BitVec.ofInt 64 (IntKind.u64.wrap (1 * 2 ^ (min b 64)))).toNat:Int)=((x ||| 2 ^ b:Nat):Int):=by
 have h2:2 ^ b < 18446744073709551616:=by
  have:2 ^ b<=2 ^ 63:=Nat.pow_le_pow_right (by decide) (by omega);omega
 have e1:IntKind.u64.wrap (1 * 2 ^ (min b 64))=((2 ^ b:Nat):Int):=by
  rw [Nat.min_eq_left (by omega),Int.one_mul];have:((2:Int) ^ b)=((2 ^ b:Nat):Int):=by simp
  rw [this];generalize 2 ^ b=z at h2;simp only [IntKind.wrap_u64];omega
 rw [e1,fc,fc,BitVec.toNat_or,BitVec.toNat_ofNat,BitVec.toNat_ofNat,Nat.mod_eq_of_lt hx,Nat.mod_eq_of_lt h2];have h3:x ||| 2 ^ b < 18446744073709551616:=Nat.or_lt_two_pow (n:=64) hx h2
 simp only [IntKind.wrap_u64];omega
theorem HI {x y:Nat} (hx:x < 18446744073709551616) (hy:y < 18446744073709551616) :
  IntKind.u64.wrap ((BitVec.ofInt 64 (x:Int) ||| BitVec.ofInt 64 (y:Int)).toNat:Int)=((x ||| y:Nat):Int):=by
 rw [fc,fc,BitVec.toNat_or,BitVec.toNat_ofNat,BitVec.toNat_ofNat,Nat.mod_eq_of_lt hx,Nat.mod_eq_of_lt hy];have h3:x ||| y < 18446744073709551616:=Nat.or_lt_two_pow (n:=64) hx hy
 simp only [IntKind.wrap_u64];omega
theorem gD (x a b:Nat):(x ||| 2 ^ b).testBit a=(x.testBit a || decide (b=a)):=by
 rw [Nat.testBit_or,Nat.testBit_two_pow]
def dU (rows:List Nat):List (List DV):=rows.map fun (x:Nat)=>[DV.v (.int .u64 (x:Int))]
theorem hZ (rows:List Nat):(dU rows).length=rows.length:=by simp [dU]
theorem K5 {rows:List Nat} {i:Nat} {x:Nat} (h:rows[i]? = some x):(dU rows)[i]? = some [DV.v (.int .u64 (x:Int))]:=by simp [dU,h]
abbrev jx (rows:List Nat):DV:=.pt [.sl 1 (dU rows) none] 0
def de (rows:List Nat):Prop:=rows.length<=64/\∀ x∈rows,x < 18446744073709551616
def aM (rows:List Nat) (a b:Nat):Bool:=(rows.getD a 0).testBit b
def hasB (rows:List Nat) (a b:Int):Bool:=decide (0<=a) && decide (a < rows.length) && decide (0<=b) && decide (b < rows.length) && aM rows a.toNat b.toNat
theorem sx (rows:List Nat):bh prog 208 [jx rows] (.v (.int .i64 rows.length)):=by
 refine eG 10 [.tmp 2] func208 rfl ntmps208 rfl fun _ _ _ _=>?_;refine (BD ?_:);rw [hZ]
theorem kv (rows:List Nat) (hr:de rows) (a b:Int):bh prog 212 [jx rows,.v (.int .i64 a),.v (.int .i64 b)] (.v (.bool (hasB rows a b))):=by
 have hl:=sx rows;refine eG 38 [.tmp 6] func212 rfl ntmps212 rfl fun _ _ _ _=>?_;refine br ?_ ?_<;>intro g1
 ·have g1:0<=a:=sU g1;refine cP D9 hl ?_;refine br ?_ ?_<;>intro g2
  ·obtain ⟨g2,g3⟩:a < rows.length/\0<=b:=by grind [pickB]
   refine cP D9 hl ?_;refine br ?_ ?_<;>intro g4
   ·have g4:b < rows.length:=by simpa [pickB,g2,g3] using g4
    obtain ⟨x,hx⟩:∃ x,rows[a.toNat]? = some x:=⟨_,gE (by omega)⟩;have BK:=hr.2 x (mG hx);have hr1:=hr.1;refine ⟨_,⟨g1,K5 hx⟩,?_⟩;refine ⟨g3,?_⟩;refine (dH ?_:);have GJ:rows.getD a.toNat 0=x:=getD_some hx;have e1:hasB rows a b=x.testBit b.toNat:=by grind [hasB,aM]
    rw [e1];exact AK (x:=x) (b:=b.toNat) (by omega) BK
   ·have g4:¬ b < rows.length:=by simpa [pickB,g2,g3] using g4
    refine (dH ?_:);simp [pickB,g2,g3,g4,hasB]
  ·have g5:¬ (a < rows.length/\0<=b):=by
    rintro ⟨h1,h2⟩;simp [pickB,h1,h2] at g2
   refine (dH ?_:);cases h:decide (a < (rows.length:Int))<;>simp [pickB,h,hasB] at g2 ⊢
   intro _ h0;omega
 ·have g1:¬ 0<=a:=sU g1;refine (dH ?_:);simp [g1,hasB]
def backN (rows:List Nat) (a:Nat):Nat->Nat
 | 0=>0
 | e + 1=>if aM rows a e && aM rows e a then backN rows a e ||| 2 ^ e else backN rows a e
theorem pW (rows:List Nat) (a:Nat):∀ e,backN rows a e < 2 ^ e
 | 0=>by simp [backN]
 | e + 1=>by
  have ih:=pW rows a e;have h2:2 ^ e < 2 ^ (e + 1):=Nat.pow_lt_pow_right (by decide) (by omega);simp only [backN];split
  ·exact Nat.or_lt_two_pow (by omega) h2
  ·omega
theorem nf (rows:List Nat) (a b:Nat):∀ e,(backN rows a e).testBit b=(decide (b < e) && (aM rows a b && aM rows b a))
 | 0=>by simp [backN]
 | e + 1=>by
  have ih:=nf rows a b e
  grind [backN,aM,gD]
abbrev K6 (rows:List Nat) (a e:Nat):St:=
 ⟨[(0,⟨[],jx rows⟩),aA 1 a,(5,⟨[],.v (.int .u64 (backN rows a e:Nat))⟩),aA 11 ((dU rows).length),aA 12 e],[],[]⟩
theorem ma {rows:List Nat} {a b:Nat} (ha:a < rows.length) (hb:b < rows.length):hasB rows a b=aM rows a b:=by
 simp [hasB,ha,hb]
theorem yR (rows:List Nat) (hr:de rows) (a:Nat) (ha:a < rows.length):bh prog 210 [jx rows,.v (.int .i64 a)] (.v (.int .u64 (backN rows a rows.length:Nat))):=by
 have hr1:=hr.1;refine eG 31 [.tmp 4] func210 rfl ntmps210 rfl fun _ _ _ _=>?_;refine lJ (fun e=>K6 rows a e) rows.length (cL wB) ?_;intro e he;refine br ?_ ?_<;>intro hL
 ·have av:e < rows.length:=by have:=hL;simp [hZ] at this;exact this
  have h1:=kv rows hr a e;have h2:=kv rows hr e a;rw [ma ha av] at h1;rw [ma av ha] at h2;have hbl:=pW rows a e
  have K7:backN rows a e < 18446744073709551616:=by
   have:2 ^ e<=2 ^ 64:=Nat.pow_le_pow_right (by decide) (by omega);omega
  have N9:=yQ (x:=backN rows a e) (b:=e) (by omega) K7;have hs:backN rows a (e + 1)=if aM rows a e && aM rows e a then backN rows a e ||| 2 ^ e else backN rows a e:=rfl
  refine cP Az h1 ?_;refine br ?_ ?_<;>intro g1
  ·have g1:aM rows a e=true:=sU g1;refine cP Az h2 ?_;refine br ?_ ?_<;>intro g2
   ·have g2:aM rows e a=true:=by simpa [pickB,g1] using g2
    rw [g1,g2] at hs;have hs:backN rows a (e + 1)=backN rows a e ||| 2 ^ e:=hs
    refine ⟨by omega,?_⟩;exact rE ⟨_,by omega,e + 1,rfl,by omega,rfl⟩ (cL (by repeat' (first | exact trivial | exact au rfl | exact az (bV av (by omega)) | exact az (N9.trans (by rw [hs])) | refine ⟨⟨_,rfl,?_⟩,?_⟩)))
   ·have g2:aM rows e a=false:=by simpa [pickB,g1] using g2
    rw [g1,g2] at hs;have hs:backN rows a (e + 1)=backN rows a e:=hs;exact rE ⟨_,by omega,e + 1,rfl,by omega,rfl⟩ (cL (by repeat' (first | exact trivial | exact au rfl | exact az (bV av (by omega)) | exact az (by rw [hs]) | refine ⟨⟨_,rfl,?_⟩,?_⟩)))
  ·have g1:aM rows a e=false:=sU g1;rw [g1] at hs;have hs:backN rows a (e + 1)=backN rows a e:=hs;exact rE ⟨_,by omega,e + 1,rfl,by omega,rfl⟩ (cL (by repeat' (first | exact trivial | exact au rfl | exact az (bV av (by omega)) | exact az (by rw [hs]) | refine ⟨⟨_,rfl,?_⟩,?_⟩)))
 ·have bO:e=rows.length:=by have:=hL;simp [hZ] at this;omega
  subst bO;exact (rfl:_=_)
def cU (rows:List Nat):List DV:=rows.map fun (x:Nat)=>DV.v (.int .u64 (x:Int))
theorem ng (rows:List Nat):(cU rows).length=rows.length:=by simp [cU]
theorem EN {rows:List Nat} {i x:Nat} (h:rows[i]? = some x):(cU rows)[i]? = some (DV.v (.int .u64 (x:Int))):=by simp [cU,h]
theorem EO (rows:List Nat) (i x:Nat):(cU rows).set i (DV.v (.int .u64 (x:Int)))=cU (rows.set i x):=by simp [cU,List.map_set]
theorem mb (rows:List Nat):(dU rows).flatten=cU rows:=by
 induction rows with
 | nil=>rfl
 | cons x r ih=>simp only [dU,cU,List.map_cons,List.flatten_cons] at ih ⊢;rw [ih];all_goals rfl
theorem AL {n m:Nat} {tk:List TkE}:∀ l:List Nat,WeL n m tk (cU l) (cU l)
 | []=>rfl
 | b :: r=>⟨_,_,rfl,au rfl,AL r⟩
theorem uj {n m:Nat} {tk:List TkE} {l:List DV} {ds:List Nat} (h:l=cU ds):WeL n m tk l (cU ds):=by rw [h];exact AL ds
def RF (p:Nat × Nat):List DV:=[.v (.int .i64 (p.1:Int)),.v (.int .i64 (p.2:Int))]
def oA (l:List (Nat × Nat)):List (List DV):=l.map RF
theorem jR (l:List (Nat × Nat)):(oA l).length=l.length:=by simp [oA]
theorem EP {l:List (Nat × Nat)} {i:Nat} {p:Nat × Nat} (h:l[i]? = some p):(oA l)[i]? = some (RF p):=by simp [oA,h]
def pX (rows:List Nat) (p:Nat × Nat):List Nat:=rows.set p.1 (rows.getD p.1 0 ||| 2 ^ p.2)
def dM (n:Nat) (l:List (Nat × Nat)):List Nat:=l.foldl pX (List.replicate n 0)
theorem B3 (n:Nat) (l:List (Nat × Nat)) (e:Nat) {p:Nat × Nat} (h:l[e]? = some p):dM n (l.take (e + 1))=pX (dM n (l.take e)) p:=by
 unfold dM;rw [List.take_add_one,h];simp
theorem mc (rows:List Nat) (p:Nat × Nat):(pX rows p).length=rows.length:=by simp [pX]
theorem im (n:Nat):∀ (l:List (Nat × Nat)),(dM n l).length=n:=by
 intro l
 have:∀ (l:List (Nat × Nat)) (r:List Nat),(l.foldl pX r).length=r.length:=by
  intro l
  induction l with
  | nil=>intro r;rfl
  | cons p l ih=>intro r;rw [List.foldl_cons,ih,mc]
 rw [dM,this];simp
theorem HJ {rows:List Nat} {p:Nat × Nat} (h:de rows) (hp:p.1 < rows.length) (hq:p.2 < 64):de (pX rows p):=by
 refine ⟨by rw [mc];exact h.1,fun x hx=>?_⟩;rcases List.mem_or_eq_of_mem_set hx with hx | rfl
 ·exact h.2 x hx
 ·refine Nat.or_lt_two_pow (n:=64) ?_ (Nat.pow_lt_pow_right (by decide) hq);rw [jl,gE hp];exact h.2 _ (List.getElem_mem hp)
theorem AM {n:Nat} (hn:n<=64):∀ (l:List (Nat × Nat)),(∀ p∈l,p.1 < n/\p.2 < n)->de (dM n l):=by
 intro l hl
 have:∀ (l:List (Nat × Nat)) (r:List Nat),r.length=n->de r->(∀ p∈l,p.1 < n/\p.2 < n)->de (l.foldl pX r):=by
  intro l
  induction l with
  | nil=>intro r _ h _;exact h
  | cons p l ih=>grind [mc,HJ]
 refine this l _ (by simp) ⟨by simp [hn],fun x hx=>?_⟩ hl;rw [List.mem_replicate] at hx;omega
abbrev EQ (n:Nat) (l:List (Nat × Nat)) (rows:List Nat) (e:Nat):St:=
 ⟨[aA 0 n,aS 6 1,dJ 19 2 (oA l),aA 20 ((oA l).length),aA 21 e],
  [cU rows,[.ms 0 1 0 n n]],[]⟩
theorem B4 (n:Nat) (hn:n<=64) (l:List (Nat × Nat)) (hl:∀ p∈l,p.1 < n/\p.2 < n) (hb:l.length<=1099511627776) :
  bh prog 127 [.v (.int .i64 n),.sl 2 (oA l) none] (.cj [jx (dM n l),.v (.bool true)]):=by
 refine eG 60 [.tmp 4,.tmp 5] func127 rfl ntmps127 rfl fun _ _ _ _=>?_;refine br ?_ ?_<;>intro g
 ·exfalso;simp [aF] at g;omega
 refine ⟨⟨rfl,by omega,by omega,by omega⟩,?_⟩
 have h0:(List.replicate (n:Int).toNat [DV.v (.int .u64 0)]).flatten=cU (dM n (l.take 0)):=by
  simp [dM,cU]
 refine lJ (fun e=>EQ n l (dM n (l.take e)) e) l.length (jy 2 (by repeat' (first | exact rfl | exact au rfl | exact uj h0 | refine ⟨_,_,rfl,?_,?_⟩)) (by repeat' (first | exact trivial | exact au rfl | exact uj h0 | refine ⟨⟨_,rfl,?_⟩,?_⟩))) ?_;intro e he;refine br ?_ ?_<;>intro hL
 ·have av:e < l.length:=by have:=hL;simp [jR] at this;exact this
  obtain ⟨p,hp⟩:=gX av;obtain ⟨p1,p2⟩:=hl p (mG hp);refine iX (EP hp) ?_;refine ⟨⟨by decide,by decide⟩,?_⟩;refine ⟨⟨by decide,by decide⟩,?_⟩;refine br ?_ ?_<;>intro g
  ·refine ⟨⟨by decide,by decide⟩,?_⟩;refine ⟨⟨by decide,by decide⟩,?_⟩;refine br ?_ ?_<;>intro g2
   ·exfalso;simp [pickB] at g2;omega
   obtain ⟨x,hx⟩:∃ x,(dM n (l.take e))[p.1]? = some x:=⟨_,gE (by rw [im];exact p1)⟩;have fM:=AM hn (l.take e) (fun q hq=>hl q (List.mem_of_mem_take hq));have BK:=fM.2 x (mG hx);have tN:0 + (p.1:Int).toNat * 1=p.1:=by omega
   refine dS ?_;refine ⟨⟨by decide,by decide⟩,?_⟩;refine ⟨⟨by omega,by omega⟩,?_⟩;refine ⟨_,(by rw [tN];exact EN hx:(cU (dM n (l.take e)))[0 + (p.1:Int).toNat * 1]? = some _),?_⟩;refine ⟨⟨by decide,by decide⟩,?_⟩;refine ⟨by omega,?_⟩;refine ⟨⟨by omega,by omega⟩,?_⟩;refine ⟨by rw [tN,ng,im];omega,?_⟩
   have bP:(cU (dM n (l.take e))).set (0 + (p.1:Int).toNat * 1) (DV.v (.int .u64 (IntKind.u64.wrap ((BitVec.ofInt 64 (x:Int) ||| BitVec.ofInt 64 (IntKind.u64.wrap (1 * 2 ^ (min (p.2:Int).toNat 64)))).toNat:Int))))=cU (dM n (l.take (e + 1))):=by
    rw [tN,show ((p.2:Int).toNat)=p.2 by omega,yQ (by omega) BK,EO,B3 n l e hp];simp only [pX];rw [getD_some hx]
   refine ⟨EQ n l (dM n (l.take (e + 1))) (e + 1),(jy 2 (by repeat' (first | exact rfl | exact au rfl | exact uj bP | exact az (bV av (by omega)) | refine ⟨_,_,rfl,?_,?_⟩)) (by repeat' (first | exact trivial | exact au rfl | exact uj bP | exact az (bV av (by omega)) | refine ⟨⟨_,rfl,?_⟩,?_⟩))),l.length - (e + 1),by omega,e + 1,rfl,by omega,rfl⟩
  ·exfalso;simp [pickB] at g;omega
 ·have bO:e=l.length:=by have:=hL;simp [jR] at this;omega
  subst bO;rw [List.take_length];refine ⟨_,?_,rfl⟩;have hlen:=im n l;generalize dM n l=rows at hlen ⊢;refine ⟨_,rfl,_,_,rfl,.inr ⟨1,_,rfl,Nat.zero_le _,rfl,_,_,rfl,.inr (.inr (.inl ⟨0,0,n,cU rows,by rw [hZ,hlen],Nat.zero_le _,rfl,?_,?_,?_⟩)),rfl⟩,_,_,rfl,rfl,rfl⟩
  ·grind [mb,hZ,ng]
  ·grind [dU]
  ·grind [mb,cU]
def gF (rows:List Nat) (k:Nat):List Nat:=rows.set k (rows.getD k 0 ||| 2 ^ k)
def kN (k:Nat) (rows:List Nat) (a:Nat):List Nat:=if aM rows a k then rows.set a (rows.getD a 0 ||| rows.getD k 0) else rows
def eK (rows:List Nat) (k e:Nat):List Nat:=(List.range e).foldl (kN k) (gF rows k)
def closeR (rows:List Nat) (e:Nat):List Nat:=(List.range e).foldl (fun r k=>eK r k r.length) rows
theorem ER {rows:List Nat} {i x:Nat} (h:de rows) (hx:x < 18446744073709551616):de (rows.set i x):=by
 refine ⟨by rw [List.length_set];exact h.1,fun y hy=>?_⟩;rcases List.mem_or_eq_of_mem_set hy with hy | rfl
 ·exact h.2 y hy
 ·exact hx
theorem ja {rows:List Nat} (h:de rows) (i:Nat):rows.getD i 0 < 18446744073709551616:=by
 rw [jl]
 cases hx:rows[i]? with
 | none=>simp
 | some x=>exact h.2 x (mG hx)
theorem ES {rows:List Nat} {k:Nat} (h:de rows) (hk:k < 64):de (gF rows k):=
 ER h (Nat.or_lt_two_pow (n:=64) (ja h k) (Nat.pow_lt_pow_right (by decide) hk))
theorem B5 (rows:List Nat) (k:Nat):(gF rows k).length=rows.length:=by simp [gF]
theorem ET {rows:List Nat} {k a:Nat} (h:de rows):de (kN k rows a):=by
 unfold kN;split
 ·exact ER h (Nat.or_lt_two_pow (n:=64) (ja h a) (ja h k))
 ·exact h
theorem B6 (rows:List Nat) (k a:Nat):(kN k rows a).length=rows.length:=by
 unfold kN;split<;>simp
theorem jb (rows:List Nat) (k e:Nat):eK rows k (e + 1)=kN k (eK rows k e) e:=by simp [eK,List.range_succ]
theorem kx (rows:List Nat) (k:Nat):∀ e,(eK rows k e).length=rows.length
 | 0=>by simp [eK,B5]
 | e + 1=>by rw [jb,B6,kx]
theorem pY {rows:List Nat} {k:Nat} (h:de rows) (hk:k < 64):∀ e,de (eK rows k e)
 | 0=>by simpa [eK] using ES h hk
 | e + 1=>by rw [jb];exact ET (pY h hk e)
theorem gR (rows:List Nat) (e:Nat):closeR rows (e + 1)=eK (closeR rows e) e (closeR rows e).length:=by simp [closeR,List.range_succ]
theorem ep (rows:List Nat):∀ e,(closeR rows e).length=rows.length
 | 0=>by simp [closeR]
 | e + 1=>by rw [gR,kx,ep]
theorem ky {rows:List Nat} (h:de rows):∀ e,e<=64->de (closeR rows e)
 | 0,_=>by simpa [closeR] using h
 | e + 1,he=>by rw [gR];exact pY (ky h e (by omega)) (by omega) _
def spU (m:Nat):List DV:=(List.replicate m (vL [Value.int .u64 0])).flatten
theorem uk {n m:Nat} {tk:List TkE}:∀ l:List DV,(∀ x∈l,∃ y,x = .v y)->WeL n m tk l l
 | [],_=>rfl
 | b :: r,h=>by
  obtain ⟨y,rfl⟩:=h b (by simp);exact ⟨_,_,rfl,au rfl,uk r (fun x hx=>h x (by simp [hx]))⟩
theorem e8 {n m:Nat} {tk:List TkE} {l:List DV} {ds:List Nat} {k:Nat} (h:l=cU ds ++ spU k):WeL n m tk l (cU ds ++ spU k):=by
 rw [h];refine uk _ fun x hx=>?_;rcases List.mem_append.1 hx with hx | hx
 ·grind [cU]
 ·simp_all [spU,vL]
theorem um {r:List Nat} {k i x:Nat} (h:r[i]? = some x):(cU r ++ spU k)[0 + (i:Int).toNat * 1]? = some (DV.v (.int .u64 (x:Int))):=by grind [ng,EN]
theorem EU {r:List Nat} {k i x:Nat} (h:i < r.length):(cU r ++ spU k).set (0 + (i:Int).toNat * 1) (DV.v (.int .u64 (x:Int)))=cU (r.set i x) ++ spU k:=by grind [ng,EO]
theorem EV {r:List Nat} {k i:Nat} (h:i < r.length):0 + (i:Int).toNat * 1 + 1<=(cU r ++ spU k).length:=by
 rw [List.length_append,ng];omega
abbrev RG (rows:List Nat) (cap:Nat) (r:List Nat) (e:Nat):St:=
 ⟨[aS 3 1,aA 19 ((dU rows).length),aA 20 e],[cU r ++ spU (cap - (dU rows).length),[.ms 0 1 0 (dU rows).length cap]],[]⟩
abbrev Oa (rows:List Nat) (cap:Nat) (r:List Nat) (e f:Nat):St:=
 ⟨[aS 3 1,aA 4 e,aA 19 ((dU rows).length),aA 20 e,aA 38 ((dU rows).length),aA 39 f],[cU r ++ spU (cap - (dU rows).length),[.ms 0 1 0 (dU rows).length cap]],[]⟩
theorem lh {l:List Nat} {i:Nat} (h:i < l.length):l[i]? = some (l.getD i 0):=nc h
theorem nV (rows:List Nat) (hr:de rows) (h0:rows ≠ []):bh prog 129 [jx rows] (jx (closeR rows rows.length)):=by
 have hr1:=hr.1;have hN:=hZ rows;have tG:0 < rows.length:=List.length_pos_iff.2 h0;refine tT (s:=false) (bt:=[]) (mu:=[12]) (hbt:=fun p hp=>by cases hp) (fr:=false) (P:=prog) tt si 5000 72 [.tmp 2] func129 rfl ntmps129 rfl (nL rfl) (fun _ _ _ _=>?_);refine ⟨⟨by intro h;exact h0 (by simpa [dU] using h),by rw [hZ];simp [maxLen];omega,by rw [hZ];omega⟩,fun cap vA=>?_⟩
 have fI:(dU rows).flatten.append (List.replicate (cap - (dU rows).length) (vL [Value.int .u64 0])).flatten=cU (closeR rows 0) ++ spU (cap - (dU rows).length):=by
  show (dU rows).flatten ++ _=_;rw [mb];rfl
 refine lJ (fun e=>RG rows cap (closeR rows e) e) rows.length (jy 2 (GK fI) (iG fI)) ?_;intro e he;have fM:=ky hr e (by omega);have hlen:=ep rows e;have Jw:=gR rows e;generalize hce:closeR rows e=r at fM hlen Jw ⊢;refine br ?_ ?_<;>intro hL
 ·have av:e < rows.length:=by have:=hL;simp [hN] at this;exact this
  have hx:=lh (l:=r) (i:=e) (by omega);have N9:=yQ (x:=r.getD e 0) (b:=e) (by omega) (ja fM e);refine dS ?_;refine ⟨⟨by omega,by omega⟩,?_⟩;refine ⟨_,um hx,?_⟩;refine ⟨by omega,?_⟩;refine ⟨⟨by omega,by omega⟩,?_⟩;refine ⟨EV (by omega),?_⟩
  have mR:(cU r ++ spU (cap - (dU rows).length)).set (0 + (e:Int).toNat * 1) (DV.v (.int .u64 (IntKind.u64.wrap ((BitVec.ofInt 64 ((r.getD e 0:Nat):Int) ||| BitVec.ofInt 64 (IntKind.u64.wrap (1 * 2 ^ (min (e:Int).toNat 64)))).toNat:Int))))=cU (eK r e 0) ++ spU (cap - (dU rows).length):=by
   rw [show min (e:Int).toNat 64=min e 64 by omega,N9,EU (by omega)];rfl
  refine lJ (fun f=>Oa rows cap (eK r e f) e f) rows.length (jy 2 (GK mR) (iG mR)) ?_;intro f hf;have GQ:=pY (k:=e) fM (by omega) f;have u2:=kx r e f;have PN:=jb r e f;have cx:e < (eK r e f).length:=by rw [u2];omega
  refine br ?_ ?_<;>intro hL
  ·have PQ:f < rows.length:=by have:=hL;simp [hN] at this;exact this
   have PR:f < (eK r e f).length:=by rw [u2];omega
   generalize eK r e f=q at GQ u2 PN cx PR ⊢;have hy:=lh PR;have hz:=lh cx;have EW:=AK (x:=q.getD f 0) (b:=e) (by omega) (ja GQ f);have N9:=HI (ja GQ f) (ja GQ e);refine ⟨⟨by omega,by omega⟩,?_⟩;refine ⟨_,um hy,?_⟩;refine ⟨by omega,?_⟩;refine br ?_ ?_<;>intro g
   ·have g:aM q f e=true:=EW.symm.trans g;refine dS ?_;refine ⟨⟨by omega,by omega⟩,?_⟩;refine ⟨_,um hy,?_⟩;refine ⟨⟨by omega,by omega⟩,?_⟩;refine ⟨_,um hz,?_⟩;refine ⟨⟨by omega,by omega⟩,?_⟩;refine ⟨EV PR,?_⟩
    have kR:(cU q ++ spU (cap - (dU rows).length)).set (0 + (f:Int).toNat * 1) (DV.v (.int .u64 (IntKind.u64.wrap ((BitVec.ofInt 64 ((q.getD f 0:Nat):Int) ||| BitVec.ofInt 64 ((q.getD e 0:Nat):Int)).toNat:Int))))=cU (eK r e (f + 1)) ++ spU (cap - (dU rows).length):=by
     rw [N9,EU PR,PN,kN,aj g]
    exact rE ⟨_,by omega,f + 1,rfl,by omega,rfl⟩ (jy 2 (Hh kR (bV PQ (by omega))) (q5 kR (bV PQ (by omega))))
   ·have g:aM q f e=false:=EW.symm.trans g
    have kR:cU q ++ spU (cap - (dU rows).length)=cU (eK r e (f + 1)) ++ spU (cap - (dU rows).length):=by
     rw [PN,kN,ah (by rw [g];decide)]
    exact rE ⟨_,by omega,f + 1,rfl,by omega,rfl⟩ (jy 2 (Hh kR (bV PQ (by omega))) (q5 kR (bV PQ (by omega))))
  ·have bO:f=rows.length:=sW hN hL;subst bO
   have GI:cU (eK r e rows.length) ++ spU (cap - (dU rows).length)=cU (closeR rows (e + 1)) ++ spU (cap - (dU rows).length):=by
    rw [Jw,hlen]
   exact rE ⟨_,by omega,e + 1,rfl,by omega,rfl⟩ (jy 2 (Hh GI (bV av (by omega))) (q5 GI (bV av (by omega))))
 ·have bO:e=rows.length:=sW hN hL;subst bO;refine ⟨_,?_,rfl⟩;rw [hce];refine .inr ⟨1,_,rfl,Nat.zero_le _,rfl,_,_,rfl,.inr (.inr (.inl ⟨0,0,cap,cU r ++ spU (cap - (dU rows).length),by rw [hZ r,hlen,hN],Nat.zero_le _,rfl,?_,?_,?_⟩)),rfl⟩
  ·grind [mb,hZ,ng]
  ·grind [dU]
  ·grind [mb,cU]
theorem iq {a b c d:Nat} (ha:a < 256) (hb:b < 256):(a + 256 * c) &&& (b + 256 * d)=(a &&& b) + 256 * (c &&& d):=by
 have h1:a &&& b < 256:=Nat.and_lt_two_pow (n:=8) a hb;apply Nat.eq_of_testBit_eq;intro i
 have e (x y:Nat) (hx:x < 256):(x + 256 * y).testBit i=if i < 8 then x.testBit i else y.testBit (i - 8):=by
  rw [show x + 256 * y=2 ^ 8 * y + x by omega,Nat.testBit_two_pow_mul_add _ (sU hx)]
 grind
def b1 (x:Nat):Nat:=((x / 2) &&& 85) + (x &&& 85)
def b2 (x:Nat):Nat:=((x / 4) &&& 51) + (x &&& 51)
def b3 (x:Nat):Nat:=((x / 16) + x) &&& 15
def pop8 (x:Nat):Nat:=b3 (b2 (b1 x))
theorem AN:∀ x:Fin 256,b1 x.val < 256/\b2 (b1 x.val) < 120/\pop8 x.val<=8/\pop8 x.val=(((((((x.val.testBit 0).toNat + (x.val.testBit 1).toNat) + (x.val.testBit 2).toNat) + (x.val.testBit 3).toNat) + (x.val.testBit 4).toNat) + (x.val.testBit 5).toNat) + (x.val.testBit 6).toNat) + (x.val.testBit 7).toNat:=by decide +kernel
def valB:List Nat->Nat
 | []=>0
 | a :: r=>a + 256 * valB r
def rep (m:Nat):Nat->Nat
 | 0=>0
 | n + 1=>m + 256 * rep m n
theorem m1:∀ (a:Fin 256) (c:Fin 2),(a.val / 2 + 128 * c.val) &&& 85=(a.val / 2) &&& 85:=by decide +kernel
theorem m2:∀ (a:Fin 256) (c:Fin 4),(a.val / 4 + 64 * c.val) &&& 51=(a.val / 4) &&& 51:=by decide +kernel
theorem lz:∀ l:List Nat,(∀ a∈l,a < 256)->((valB l / 2) &&& rep 85 l.length) + (valB l &&& rep 85 l.length)=valB (l.map b1)
 | [],_=>rfl
 | a :: r,h=>by
  have ih:=lz r (fun x hx=>h x (by simp [hx]));have ha:=h a (by simp);have e1:(a + 256 * valB r) / 2=(a / 2 + 128 * (valB r % 2)) + 256 * (valB r / 2):=by omega
  have hm:=m1 ⟨a,ha⟩ ⟨valB r % 2,by omega⟩;simp only at hm;simp only [valB,List.length_cons,rep,List.map_cons,b1];rw [e1,iq (by omega) (by decide),iq ha (by decide),hm,<- ih];omega
theorem Df:∀ l:List Nat,(∀ a∈l,a < 256)->((valB l / 4) &&& rep 51 l.length) + (valB l &&& rep 51 l.length)=valB (l.map b2)
 | [],_=>rfl
 | a :: r,h=>by
  have ih:=Df r (fun x hx=>h x (by simp [hx]));have ha:=h a (by simp);have e1:(a + 256 * valB r) / 4=(a / 4 + 64 * (valB r % 4)) + 256 * (valB r / 4):=by omega
  have hm:=m2 ⟨a,ha⟩ ⟨valB r % 4,by omega⟩;simp only at hm;simp only [valB,List.length_cons,rep,List.map_cons,b2];rw [e1,iq (by omega) (by decide),iq ha (by decide),hm,<- ih];omega
theorem Ob (x y:Nat):(x + 16 * y) &&& 15=x &&& 15:=by
 have h (z:Nat):z &&& 15=z % 16:=Nat.and_two_pow_sub_one_eq_mod z 4;rw [h,h];omega
def wy (a:Nat):Prop:=a < 70/\a % 16<=4
theorem TX:∀ l:List Nat,(∀ a∈l,wy a)->((valB l / 16) + valB l) &&& rep 15 l.length=valB (l.map b3)
 | [],_=>rfl
 | a :: r,h=>by
  have ih:=TX r (fun x hx=>h x (by simp [hx]));have ha:=h a (by simp)
  have hc:valB r % 16<=4:=by
   cases r with
   | nil=>simp [valB]
   | cons b s=>
    have:=(h b (by simp)).2;simp only [valB];omega
  unfold wy at ha;have e1:(a + 256 * valB r) / 16 + (a + 256 * valB r)=((a / 16 + a) + 16 * (valB r % 16)) + 256 * (valB r / 16 + valB r):=by omega
  simp only [valB,List.length_cons,rep,List.map_cons,b3];rw [e1,iq (by omega) (by decide),Ob,ih]
def cX (x:Nat):List Nat:=[x % 256,x / 256 % 256,x / 65536 % 256,x / 16777216 % 256,x / 4294967296 % 256,x / 1099511627776 % 256,x / 281474976710656 % 256,x / 72057594037927936 % 256]
theorem yS {x:Nat} (h:x < 18446744073709551616):valB (cX x)=x:=by
 simp only [cX,valB];omega
theorem B7 (x:Nat):∀ a∈cX x,a < 256:=by
 intro a ha;simp only [cX,List.mem_cons,List.not_mem_nil,or_false] at ha;omega
def yT (x:Nat):Nat:=((cX x).map pop8).sum
theorem wz:∀ a:Fin 256,b1 a.val < 256/\b2 (b1 a.val) < 70/\b2 (b1 a.val) % 16<=4:=by decide +kernel
theorem uo {x m:Nat} (hx:x < 18446744073709551616) (hm:m < 18446744073709551616) :
  IntKind.u64.wrap ((BitVec.ofInt 64 (x:Int) &&& BitVec.ofInt 64 (m:Int)).toNat:Int)=((x &&& m:Nat):Int):=by
 rw [fc,fc,BitVec.toNat_and,BitVec.toNat_ofNat,BitVec.toNat_ofNat,Nat.mod_eq_of_lt hx,Nat.mod_eq_of_lt hm];have h3:x &&& m < 18446744073709551616:=Nat.and_lt_two_pow (n:=64) x hm;simp only [IntKind.wrap_u64];omega
theorem yU {x:Nat} {k:Int} (hk:k.toNat < 64):(x:Int).fdiv (2 ^ min k.toNat IntKind.u64.bits)=((x / 2 ^ k.toNat:Nat):Int):=by
 rw [show min k.toNat IntKind.u64.bits=k.toNat from Nat.min_eq_left (by show k.toNat<=64;omega),wx]
theorem uq {y:Nat} (h:y < 18446744073709551616):IntKind.u64.wrap (y:Int)=(y:Int):=by
 simp only [IntKind.wrap_u64];omega
theorem Oc {k M:Int} {m x y:Nat} (hk:k.toNat < 64) (hx:x < 18446744073709551616) (hM:M=(m:Int)) (hm:m < 18446744073709551616) (hy:((x / 2 ^ k.toNat) &&& m) + (x &&& m)=y) (iL:y < 18446744073709551616) :
  IntKind.u64.wrap (IntKind.u64.wrap ((BitVec.ofInt IntKind.u64.bits ((x:Int).fdiv (2 ^ min k.toNat IntKind.u64.bits)) &&& BitVec.ofInt IntKind.u64.bits M).toNat:Int) + IntKind.u64.wrap ((BitVec.ofInt IntKind.u64.bits (x:Int) &&& BitVec.ofInt IntKind.u64.bits M).toNat:Int))=(y:Int):=by
 subst hM;have h1:x / 2 ^ k.toNat < 18446744073709551616:=Nat.lt_of_le_of_lt (Nat.div_le_self _ _) hx;have e1:IntKind.u64.wrap ((BitVec.ofInt IntKind.u64.bits ((x / 2 ^ k.toNat:Nat):Int) &&& BitVec.ofInt IntKind.u64.bits (m:Int)).toNat:Int)=_:=uo h1 hm;have e2:IntKind.u64.wrap ((BitVec.ofInt IntKind.u64.bits (x:Int) &&& BitVec.ofInt IntKind.u64.bits (m:Int)).toNat:Int)=_:=uo hx hm;rw [yU hk,e1,e2,<- Int.natCast_add,hy,uq iL]
theorem RH {k M:Int} {m x y:Nat} (hk:k.toNat < 64) (hs:x / 2 ^ k.toNat + x < 18446744073709551616) (hM:M=(m:Int)) (hm:m < 18446744073709551616) (hy:((x / 2 ^ k.toNat) + x) &&& m=y) :
  IntKind.u64.wrap ((BitVec.ofInt IntKind.u64.bits (IntKind.u64.wrap ((x:Int).fdiv (2 ^ min k.toNat IntKind.u64.bits) + (x:Int))) &&& BitVec.ofInt IntKind.u64.bits M).toNat:Int)=(y:Int):=by
 subst hM;have e2:IntKind.u64.wrap ((BitVec.ofInt IntKind.u64.bits ((x / 2 ^ k.toNat + x:Nat):Int) &&& BitVec.ofInt IntKind.u64.bits (m:Int)).toNat:Int)=_:=uo hs hm;rw [yU hk,<- Int.natCast_add,uq hs,e2,hy]
theorem K8 {k:Int} {x:Nat} (hk:k.toNat < 64) (hs:x + x / 2 ^ k.toNat < 18446744073709551616) :
  IntKind.u64.wrap ((x:Int) + (x:Int).fdiv (2 ^ min k.toNat IntKind.u64.bits))=((x + x / 2 ^ k.toNat:Nat):Int):=by
 rw [yU hk,<- Int.natCast_add,uq hs]
theorem AO:∀ l:List Nat,(∀ a∈l,a < 256)->valB l < 256 ^ l.length
 | [],_=>by simp [valB]
 | a :: r,h=>by
  have ih:=AO r (fun x hx=>h x (by simp [hx]));have ha:=h a (by simp)
  grind [valB]
theorem EX {x:Nat} (hx:x < 18446744073709551616):∃ y1 y2 y3:Nat,((x / 2) &&& 6148914691236517205) + (x &&& 6148914691236517205)=y1/\y1 < 18446744073709551616/\((y1 / 4) &&& 3689348814741910323) + (y1 &&& 3689348814741910323)=y2/\y2 / 16 + y2 < 18446744073709551616/\y2 < 18446744073709551616 /\
  ((y2 / 16) + y2) &&& 1085102592571150095=y3/\∃ p0 p1 p2 p3 p4 p5 p6 p7:Nat,y3=valB [p0,p1,p2,p3,p4,p5,p6,p7]/\(p0<=8/\p1<=8/\p2<=8/\p3<=8/\p4<=8/\p5<=8/\p6<=8/\p7<=8)/\yT x=p0 + p1 + p2 + p3 + p4 + p5 + p6 + p7:=by
 have hl:=B7 x;have s1:=lz (cX x) hl;rw [yS hx] at s1
 have l1:∀ a∈(cX x).map b1,a < 256:=by
  intro a ha;obtain ⟨b,hb,rfl⟩:=List.mem_map.1 ha;exact (wz ⟨b,hl b hb⟩).1
 have l2:∀ a∈((cX x).map b1).map b2,wy a:=by
  intro a ha;obtain ⟨c,hc,rfl⟩:=List.mem_map.1 ha;obtain ⟨b,hb,rfl⟩:=List.mem_map.1 hc;exact (wz ⟨b,hl b hb⟩).2
 have s2:=Df ((cX x).map b1) l1;have s3:=TX (((cX x).map b1).map b2) l2
 have v1:valB ((cX x).map b1) < 18446744073709551616:=by
  have:=AO _ l1;rw [List.length_map,show (cX x).length=8 from rfl] at this;simpa using this
 rw [show rep 85 (cX x).length=6148914691236517205 from (by decide:rep 85 8=_)] at s1;rw [List.length_map,show rep 51 (cX x).length=3689348814741910323 from (by decide:rep 51 8=_)] at s2;rw [List.length_map,List.length_map,show rep 15 (cX x).length=1085102592571150095 from (by decide:rep 15 8=_)] at s3;refine ⟨_,_,_,s1,v1,s2,?_,?_,s3,_,_,_,_,_,_,_,_,rfl,?_,?_⟩
 ·have:=l2;simp only [cX,List.map_cons,List.map_nil,List.mem_cons,List.not_mem_nil,or_false,forall_eq_or_imp,forall_eq,wy,valB] at this ⊢;omega
 ·have:=l2;simp only [cX,List.map_cons,List.map_nil,List.mem_cons,List.not_mem_nil,or_false,forall_eq_or_imp,forall_eq,wy,valB] at this ⊢;omega
 ·have h (b:Nat) (hb:b < 256):=(AN ⟨b,hb⟩).2.2.1;exact ⟨h _ (by omega),h _ (by omega),h _ (by omega),h _ (by omega),h _ (by omega),h _ (by omega),h _ (by omega),h _ (by omega)⟩
 ·simp only [yT,cX,List.map_cons,List.map_nil,List.sum_cons,List.sum_nil,pop8];omega
theorem dr1 {a r:Nat} (h:a < 256):(a + 256 * r) / 256=r:=by omega
theorem dr2 {a b r:Nat} (h:a < 256) (h2:b < 256):(a + 256 * (b + 256 * r)) / 65536=r:=by omega
theorem EY {p0 p1 p2 p3 p4 p5 p6 p7:Nat} (hp:p0<=8/\p1<=8/\p2<=8/\p3<=8/\p4<=8/\p5<=8/\p6<=8/\p7<=8):∃ z1 z2 z3:Nat,
  (p0 + 256 * (p1 + 256 * (p2 + 256 * (p3 + 256 * (p4 + 256 * (p5 + 256 * (p6 + 256 * (p7 + 256 * 0)))))))) + (p0 + 256 * (p1 + 256 * (p2 + 256 * (p3 + 256 * (p4 + 256 * (p5 + 256 * (p6 + 256 * (p7 + 256 * 0)))))))) / 256=z1/\z1 < 18446744073709551616 /\
  z1 + z1 / 65536=z2/\z2 < 18446744073709551616/\z2 + z2 / 4294967296=z3/\z3 < 18446744073709551616/\z3 % 128=p0 + p1 + p2 + p3 + p4 + p5 + p6 + p7:=by
 refine ⟨(p0 + p1) + 256 * ((p1 + p2) + 256 * ((p2 + p3) + 256 * ((p3 + p4) + 256 * ((p4 + p5) + 256 * ((p5 + p6) + 256 * ((p6 + p7) + 256 * p7)))))),
  (p0 + p1 + p2 + p3) + 256 * ((p1 + p2 + p3 + p4) + 256 * ((p2 + p3 + p4 + p5) + 256 * ((p3 + p4 + p5 + p6) + 256 * ((p4 + p5 + p6 + p7) + 256 * ((p5 + p6 + p7) + 256 * ((p6 + p7) + 256 * p7)))))),
  (p0 + p1 + p2 + p3 + p4 + p5 + p6 + p7) + 256 * ((p1 + p2 + p3 + p4 + p5 + p6 + p7) + 256 * ((p2 + p3 + p4 + p5 + p6 + p7) + 256 * ((p3 + p4 + p5 + p6 + p7) + 256 * ((p4 + p5 + p6 + p7) + 256 * ((p5 + p6 + p7) + 256 * ((p6 + p7) + 256 * p7)))))),?_,by omega,?_,by omega,?_,by omega,by omega⟩
 ·rw [dr1 (by omega)];omega
 ·rw [dr2 (by omega) (by omega)];omega
 ·omega
theorem EZ {z:Nat} (h:z < 18446744073709551616):IntKind.i64.wrap ((BitVec.ofInt IntKind.i64.bits (IntKind.i64.wrap (z:Int)) &&& BitVec.ofInt IntKind.i64.bits 127).toNat:Int)=((z % 128:Nat):Int):=by
 have e1:BitVec.ofInt 64 (IntKind.i64.wrap (z:Int))=BitVec.ofNat 64 z:=by
  apply BitVec.eq_of_toNat_eq;rw [BitVec.toNat_ofInt,BitVec.toNat_ofNat,IntKind.wrap_i64];omega
 have e2:(BitVec.ofInt 64 (IntKind.i64.wrap (z:Int)) &&& BitVec.ofInt 64 127).toNat=z % 128:=by
  rw [e1,show BitVec.ofInt 64 127=BitVec.ofNat 64 127 by decide,BitVec.toNat_and,BitVec.toNat_ofNat,BitVec.toNat_ofNat,Nat.mod_eq_of_lt h];exact Nat.and_two_pow_sub_one_eq_mod z 7
 have e3:(BitVec.ofInt IntKind.i64.bits (IntKind.i64.wrap (z:Int)) &&& BitVec.ofInt IntKind.i64.bits 127).toNat=z % 128:=e2;rw [e3,IntKind.wrap_i64];omega
theorem B8 (x:Nat) (hx:x < 18446744073709551616):bh prog 209 [.v (.int .u64 x)] (.v (.int .i64 (yT x:Nat))):=by
 obtain ⟨y1,y2,y3,h1,L9,h2,h2s,QS,h3,p0,p1,p2,p3,p4,p5,p6,p7,h4,hp,h5⟩:=EX hx;rw [h5];simp only [valB] at h4;refine eG 35 [.tmp 2] func209 rfl ntmps209 rfl fun _ _ _ _=>?_;refine ⟨by decide,?_⟩;refine ⟨by decide,?_⟩;refine ⟨by decide,?_⟩;refine ⟨by decide,?_⟩;refine ⟨by decide,?_⟩;refine ⟨by decide,?_⟩;refine (BD ?_:);rw [Oc (k:=1) (M:=6148914691236517205) (by decide) hx rfl (by decide) h1 L9,Oc (k:=2) (M:=3689348814741910323) (by decide) L9 rfl (by decide) h2 QS,RH (k:=4) (M:=1085102592571150095) (by decide) h2s rfl (by decide) h3];obtain ⟨z1,z2,z3,g1,g1b,g2,g2b,g3,TY,g4⟩:=EY hp;rw [<- h4] at g1;have k1:y3 + y3 / 2 ^ (8:Int).toNat=z1:=g1;rw [K8 (k:=8) (by decide) (by rw [k1];exact g1b),k1];have k2:z1 + z1 / 2 ^ (16:Int).toNat=z2:=g2;rw [K8 (k:=16) (by decide) (by rw [k2];exact g2b),k2];have k3:z2 + z2 / 2 ^ (32:Int).toNat=z3:=g3;rw [K8 (k:=32) (by decide) (by rw [k3];exact TY),k3,<- g4];exact EZ TY
theorem fv (x k i:Nat) (hi:i < 8):(x / 2 ^ (8 * k) % 256).testBit i=x.testBit (8 * k + i):=by
 rw [show (256:Nat)=2 ^ 8 by decide,Nat.testBit_mod_two_pow,decide_eq_true hi,Bool.true_and,Nat.testBit_div_two_pow,Nat.add_comm]
theorem fw (x k:Nat):pop8 (x / 2 ^ (8 * k) % 256)=(((((((x.testBit (8 * k + 0)).toNat + (x.testBit (8 * k + 1)).toNat) + (x.testBit (8 * k + 2)).toNat) + (x.testBit (8 * k + 3)).toNat) + (x.testBit (8 * k + 4)).toNat) + (x.testBit (8 * k + 5)).toNat) + (x.testBit (8 * k + 6)).toNat) + (x.testBit (8 * k + 7)).toNat:=by
 have h:=(AN ⟨x / 2 ^ (8 * k) % 256,Nat.mod_lt _ (by decide)⟩).2.2.2;simp only at h;rw [h,fv x k 0 (by decide),fv x k 1 (by decide),fv x k 2 (by decide),fv x k 3 (by decide),fv x k 4 (by decide),fv x k 5 (by decide),fv x k 6 (by decide),fv x k 7 (by decide)]
def sumB (x:Nat):Nat->Nat
 | 0=>0
 | n + 1=>sumB x n + (x.testBit n).toNat
theorem E4 (x:Nat):yT x=sumB x 64:=by
 have h0:=fw x 0;have h1:=fw x 1;have h2:=fw x 2;have h3:=fw x 3;have h4:=fw x 4;have h5:=fw x 5;have h6:=fw x 6;have h7:=fw x 7;simp only [Nat.mul_zero,Nat.pow_zero,Nat.div_one] at h0;simp only [yT,cX,List.map_cons,List.map_nil,List.sum_cons,List.sum_nil,sumB]
 grind
theorem pZ (x:Nat):∀ n,0 < sumB x n↔∃ b,b < n/\x.testBit b=true
 | 0=>by simp [sumB]
 | n + 1=>by
  have ih:=pZ x n
  grind [sumB]
theorem wC (x a:Nat) (ha:x.testBit a=true):∀ n,a < n->(1 < sumB x n↔∃ b,b < n/\b≠a/\x.testBit b=true)
 | 0,h=>by omega
 | n + 1,h=>by
  simp only [sumB];by_cases hn:a=n
  ·grind [pZ]
  ·have ih:=wC x a ha n (by omega)
   grind [pZ]
def bq (p:Nat->Bool) (n:Nat):Option Nat:=(List.range n).find? p
theorem cQ {p:Nat->Bool} {n e:Nat} (he:e < n) (hp:p e=true) (h:∀ a,a < e->p a=false):bq p n=some e:=by simp_all [bq]
theorem dC {p:Nat->Bool} {n:Nat} (h:∀ a,a < n->p a=false):bq p n=none:=by grind [bq]
theorem ey {p:Nat->Bool} {n e:Nat} (h:bq p n=some e):e < n/\p e=true/\∀ a,a < e->p a=false:=by simp_all [bq]
def me (c:List Nat) (a:Nat):Bool:=decide (1 < yT (backN c a c.length))
def E5:Option Nat->DV
 | some a=>.cj [.v (.int .i64 (a:Int)),.v (.bool true)]
 | none=>.cj [.v (.int .i64 0),.v (.bool false)]
abbrev HK (c:List Nat) (e:Nat):St:=
 ⟨[(4,⟨[],jx c⟩),aA 9 c.length,aA 10 e],[],[]⟩
theorem yV (rows:List Nat) (hr:de rows) (h0:rows ≠ []):bh prog 128 [jx rows] (E5 (bq (me (closeR rows rows.length)) rows.length)):=by
 have hc:=nV rows hr h0;have fM:=ky hr rows.length hr.1;have hlen:=ep rows rows.length;have hr1:=hr.1;generalize closeR rows rows.length=c at hc fM hlen ⊢;rw [<- hlen];have hl:=sx c;refine eG 20 [.tmp 2,.tmp 3] func128 rfl ntmps128 rfl fun _ _ _ _=>?_;refine cP I6 hc ?_;refine cP D9 hl ?_;refine lI (fun j st=>∃ e:Nat,st=HK c e/\e<=c.length/\(∀ a,a < e->me c a=false)/\j=c.length - e) ⟨0,rfl,by omega,fun a h=>by omega,rfl⟩ (cL wB) ?_;rintro j st ⟨e,rfl,he,gQ,rfl⟩;refine br ?_ ?_<;>intro hL
 ·have av:e < c.length:=by have:=hL;simp at this;exact this
  have K7:backN c e c.length < 18446744073709551616:=by
   have h1:=pW c e c.length;have:2 ^ c.length<=2 ^ 64:=Nat.pow_le_pow_right (by decide) (by omega);omega
  refine cP Ni (yR c fM e av) ?_;refine cP Nh (B8 _ K7) ?_;refine br ?_ ?_<;>intro g
  ·have g:me c e=true:=by
    simp at g;simp [me];omega
   rw [cQ av g gQ];refine ⟨_,?_,rfl⟩;exact ax
  ·have g:me c e=false:=by
    simp at g;simp [me];omega
   exact rE ⟨_,by omega,e + 1,rfl,by omega,fun a ha=>by
    rcases q7 ha with ha | rfl
    ·exact gQ a ha
    ·exact g,rfl⟩ (cL (iG (bV av (by omega))))
 ·have bO:e=c.length:=by have:=hL;simp at this;omega
  subst bO;rw [dC gQ];refine ⟨_,?_,rfl⟩;exact ax
theorem p8 {rows:List Nat} {i x a b:Nat} (hi:i < rows.length):aM (rows.set i x) a b=if a=i then x.testBit b else aM rows a b:=by grind [aM]
theorem kz {rows:List Nat} {k a b:Nat} (hk:k < rows.length):aM (gF rows k) a b=(aM rows a b || (decide (a=k) && decide (b=k))):=by
 unfold gF;rw [p8 hk];by_cases h:a=k
 ·subst h;rw [aj rfl,gD];simp only [decide_true,Bool.true_and];rw [show decide (a=b)=decide (b=a) from by simp only [eq_comm]];rfl
 ·rw [ah h];simp [h]
theorem B9 {rows:List Nat} {k i a b:Nat} (hi:i < rows.length):aM (kN k rows i) a b=(aM rows a b || (decide (a=i) && (aM rows a k && aM rows k b))):=by grind [kN,aM,p8]
theorem sy {rows:List Nat} {k:Nat} (hk:k < rows.length):∀ e,e<=rows.length->∀ a b,aM (eK rows k e) a b=(aM (gF rows k) a b || (decide (a < e) && (aM (gF rows k) a k && aM (gF rows k) k b)))
 | 0,_,a,b=>by simp [eK]
 | e + 1,he,a,b=>by
  have ih:=sy hk e (by omega)
  grind [jb,B9,kx,aM,gF,kz]
inductive u9 (p:Nat->Nat->Prop):Nat->Nat->Prop
 | refl (a:Nat):u9 p a a
 | step {a b c:Nat}:u9 p a b->p b c->u9 p a c
theorem u9.trans {p:Nat->Nat->Prop} {a b c:Nat} (h1:u9 p a b) (h2:u9 p b c):u9 p a c:=by
 induction h2 with
 | refl=>exact h1
 | step _ h ih=>exact .step ih h
theorem u9.mono {p q:Nat->Nat->Prop} (h:∀ a b,p a b->u9 q a b) {a b:Nat} (h1:u9 p a b):u9 q a b:=by
 induction h1 with
 | refl=>exact .refl _
 | step _ h2 ih=>exact ih.trans (h _ _ h2)
def wayQ (p:Nat->Nat->Prop):Nat->Nat->Nat->Prop
 | 0,a,b=>a=b∨p a b
 | k + 1,a,b=>wayQ p k a b∨(wayQ p k a k/\wayQ p k k b)
theorem sA {p:Nat->Nat->Prop} (a:Nat):∀ k,wayQ p k a a
 | 0=>.inl rfl
 | k + 1=>.inl (sA a k)
theorem sB {p:Nat->Nat->Prop} {a b:Nat} (h:p a b):∀ k,wayQ p k a b
 | 0=>.inr h
 | k + 1=>.inl (sB h k)
theorem mf {p:Nat->Nat->Prop}:∀ k a b,wayQ p k a b->u9 p a b
 | 0,a,b,h=>by
  rcases h with rfl | h
  ·exact .refl _
  ·exact .step (.refl _) h
 | k + 1,a,b,h=>by
  rcases h with h | ⟨h1,h2⟩
  ·exact mf k a b h
  ·exact (mf k a k h1).trans (mf k k b h2)
theorem jc {p:Nat->Nat->Prop}:∀ k a m b,m < k->wayQ p k a m->wayQ p k m b->wayQ p k a b
 | 0,_,_,_,h,_,_=>by omega
 | k + 1,a,m,b,hm,h1,h2=>by
  by_cases Od:m=k
  ·grind [wayQ]
  ·have iE:m < k:=by omega
   rcases h1 with h1 | ⟨h1,h3⟩
   ·rcases h2 with h2 | ⟨h2,h4⟩
    ·exact .inl (jc k a m b iE h1 h2)
    ·exact .inr ⟨jc k a m k iE h1 h2,h4⟩
   ·rcases h2 with h2 | ⟨h2,h4⟩
    ·exact .inr ⟨h1,jc k k m b iE h3 h2⟩
    ·exact .inr ⟨h1,h4⟩
theorem p9 {rows:List Nat}:∀ k,k<=rows.length->∀ a b,a < rows.length->((aM (closeR rows k) a b=true∨a=b)↔wayQ (fun x y=>aM rows x y=true) k a b)/\(a < k->aM (closeR rows k) a a=true)
 | 0,_,a,b,_=>by grind [closeR,wayQ]
 | k + 1,hk,a,b,ha=>by
  have ih:=p9 (rows:=rows) k (by omega);have mV:k < (closeR rows k).length:=by rw [ep];omega
  have hb:∀ a b,a < rows.length->aM (closeR rows (k + 1)) a b=(aM (gF (closeR rows k) k) a b || (aM (gF (closeR rows k) k) a k && aM (gF (closeR rows k) k) k b)):=fun a b ha=>by grind [gR,sy,ep]
  have TZ:∀ a b,(aM (gF (closeR rows k) k) a b=true∨a=b)↔(aM (closeR rows k) a b=true∨a=b):=fun a b=>by grind [kz]
  have rW:aM (gF (closeR rows k) k) k k=true:=by rw [kz mV];simp
  have key:∀ a b,a < rows.length->((aM (closeR rows (k + 1)) a b=true∨a=b)↔wayQ (fun x y=>aM rows x y=true) (k + 1) a b):=fun a b ha=>by grind [wayQ]
  refine ⟨key a b ha,fun hak=>?_⟩;rw [hb a a ha];by_cases h:a=k
  ·subst h;rw [rW];all_goals rfl
  ·have:=(ih a a ha).2 (by omega);rw [kz mV,this];all_goals rfl
theorem yW {rows:List Nat} (hb:∀ a b,a < rows.length->aM rows a b=true->b < rows.length) {a b:Nat} (ha:a < rows.length) (hbl:b < rows.length):aM (closeR rows rows.length) a b=true↔u9 (fun x y=>x < rows.length/\aM rows x y=true) a b:=by
 have hw:=p9 (rows:=rows) rows.length (bd _) a b ha;have h1:aM (closeR rows rows.length) a b=true↔wayQ (fun x y=>aM rows x y=true) rows.length a b:=by grind
 rw [h1];constructor
 ·intro h
  have av:∀ {x},u9 (fun x y=>aM rows x y=true) a x->u9 (fun x y=>x < rows.length/\aM rows x y=true) a x/\x < rows.length:=by
   intro x hx
   induction hx with
   | refl=>exact ⟨.refl _,ha⟩
   | step _ h2 ih=>exact ⟨.step ih.1 ⟨ih.2,h2⟩,hb _ _ ih.2 h2⟩
  exact (av (mf _ _ _ h)).1
 ·intro h
  have:wayQ (fun x y=>aM rows x y=true) rows.length a b/\b < rows.length:=by
   clear h1 hw hbl
   induction h with
   | refl=>exact ⟨sA _ _,ha⟩
   | step _ h2 ih=>exact ⟨jc _ _ _ _ ih.2 ih.1 (sB h2.2 _),hb _ _ h2.1 h2.2⟩
  exact this.1
theorem E6 {rows:List Nat} {p:Nat × Nat} {a b:Nat} (hp:p.1 < rows.length):aM (pX rows p) a b=(aM rows a b || (decide (a=p.1) && decide (b=p.2))):=by
 unfold pX;rw [p8 hp];by_cases h:a=p.1
 ·subst h;rw [aj rfl,gD];simp only [decide_true,Bool.true_and];rw [show decide (p.2=b)=decide (b=p.2) from by simp only [eq_comm]];rfl
 ·rw [ah h];simp [h]
theorem sD:∀ (l:List (Nat × Nat)) (rows:List Nat) (a b:Nat),(∀ p∈l,p.1 < rows.length)->(aM (l.foldl pX rows) a b=true↔aM rows a b=true∨(a,b)∈l)
 | [],_,_,_,_=>by simp
 | p :: l,rows,a,b,h=>by
  rw [List.foldl_cons,sD l _ a b (fun q hq=>by rw [mc];exact h q (by simp [hq])),E6 (h p (by simp))]
  grind
theorem qa {n:Nat} {l:List (Nat × Nat)} (h:∀ p∈l,p.1 < n) (a b:Nat):aM (dM n l) a b=true↔(a,b)∈l:=by grind [dM,sD,aM]
def gN (n:Nat) (l:List (Nat × Nat)) (a b:Nat):Bool:=aM (closeR (dM n l) n) a b
def Ca (n:Nat) (l:List (Nat × Nat)):Prop:=∀ p∈l,p.1 < n/\p.2 < n
theorem mg {n:Nat} {l:List (Nat × Nat)} (h:Ca n l) {a b:Nat} (ha:a < n) (hb:b < n):gN n l a b=true↔u9 (fun x y=>(x,y)∈l) a b:=by
 have hlen:(dM n l).length=n:=im n l;unfold gN
 have:=yW (rows:=dM n l) (fun a b _ EW=>by
  rw [qa (fun p hp=>(h p hp).1)] at EW
  rw [hlen];exact (h _ EW).2) (a:=a) (b:=b) (by omega) (by omega)
 rw [hlen] at this;rw [this];constructor
 ·exact u9.mono fun x y Dg=>.step (.refl _) ((qa (fun p hp=>(h p hp).1) x y).1 Dg.2)
 ·exact u9.mono fun x y Dg=>.step (.refl _) ⟨(h _ Dg).1,(qa (fun p hp=>(h p hp).1) x y).2 Dg⟩
theorem sE {n:Nat} {l:List (Nat × Nat)} (h:Ca n l) {a:Nat} (ha:a < n):gN n l a a=true:=(mg h ha ha).2 (.refl _)
theorem yX {n:Nat} {l:List (Nat × Nat)} (h:Ca n l) {a b c:Nat} (ha:a < n) (hb:b < n) (hc:c < n) (h1:gN n l a b=true) (h2:gN n l b c=true):gN n l a c=true:=
 (mg h ha hc).2 (((mg h ha hb).1 h1).trans ((mg h hb hc).1 h2))
def qb (n:Nat) (f:Nat->Nat->Bool) (a:Nat):Bool:=(List.range n).any fun b=>decide (a≠b) && (f a b && f b a)
theorem E7 {n:Nat} {l:List (Nat × Nat)} (hn:n<=64) (h:Ca n l) {a:Nat} (ha:a < n):me (closeR (dM n l) n) a=qb n (gN n l) a:=by
 have hlen:(closeR (dM n l) n).length=n:=by rw [ep,im]
 unfold me qb;rw [E4,hlen,Bool.eq_iff_iff,decide_eq_true_eq]
 have haa:(backN (closeR (dM n l) n) a n).testBit a=true:=by
  rw [nf];have:aM (closeR (dM n l) n) a a=true:=sE h ha;simp [ha,this]
 rw [wC _ a haa 64 (by omega)];simp only [List.any_eq_true,List.mem_range,aP,decide_eq_true_eq,nf];constructor
 ·rintro ⟨b,_,aY,hb,h1,h2⟩;exact ⟨b,hb,fun e=>aY e.symm,h1,h2⟩
 ·rintro ⟨b,hb,aY,h1,h2⟩;exact ⟨b,by omega,fun e=>aY e.symm,hb,h1,h2⟩
theorem ur {p q:Nat->Bool} {n:Nat} (h:∀ a,a < n->p a=q a):bq p n=bq q n:=by
 unfold bq
 have:∀ (l:List Nat),(∀ a∈l,p a=q a)->l.find? p=l.find? q:=by
  intro l
  induction l with
  | nil=>intro _;rfl
  | cons x r ih=>grind
 grind
theorem HL {n:Nat} {l:List (Nat × Nat)} (hn:n<=64) (h:Ca n l):bq (me (closeR (dM n l) n)) n=bq (qb n (gN n l)) n:=
 ur fun _ ha=>E7 hn h ha
theorem Cb {l:List Wd} {i:Nat} {x:Wd} (h:l[i]? = some x):aw (l.take (i + 1))=aw (l.take i) ++ [x.s]:=by
 rw [List.take_add_one,h];simp [aw]
theorem HM (l:List Wd) (s:ByteArray):eu l s=true↔s∈aw l:=by grind [eu,aw]
theorem jd {l:List Wd} {i:Nat} {x:Wd} (h:l[i]? = some x) (hn:(aw (l.take i)).Nodup):(aw (l.take (i + 1))).Nodup↔eu (l.take i) x.s=false:=by grind [Cb,eu,HM]
theorem sF {l:List Wd} {i:Nat} {x:Wd} (a:Int) (h:l[i]? = some x) (hn:(aw (l.take i)).Nodup) :
  eI (aw (l.take (i + 1))) x.s a=if aQ l i x≠0 then (aQ l i x,a) else (0,0):=by
 have hs:=jd h hn;unfold eI aQ;by_cases h1:bG x.s=true
 ·grind
 ·rw [ah h1,ah h1];all_goals rfl
theorem je {l:List Wd} {i:Nat} {x:Wd} (h:l[i]? = some x) (hn:(aw (l.take i)).Nodup) (hz:aQ l i x=0):(aw (l.take (i + 1))).Nodup:=by grind [jd,aQ,bG,eu]
theorem sG (l:List Wd):∀ (d e:Nat),e + d=l.length->(enumP l e)=(0,0)->(aw (l.take e)).Nodup->enumP l l.length=enumL l e (l.drop e)
 | 0,e,hd,hz,hn=>by
  have:e=l.length:=by omega
  subst this;rw [hz,List.drop_length];all_goals rfl
 | d + 1,e,hd,hz,hn=>by
  obtain ⟨x,hx⟩:∃ x,l[e]? = some x:=⟨_,gE (by omega)⟩;have h1:=pT (by rw [hz]) hx;rw [sF x.a hx hn] at h1;rw [drop_cons hx];simp only [enumL];by_cases hf:aQ l e x≠0
  ·rw [aj hf] at h1 ⊢;have bo:=lf (l:=l) (e:=e + 1) (by rw [h1];exact hf) d
   grind
  ·rw [ah hf] at h1 ⊢;exact sG l d (e + 1) (by omega) h1 (je hx hn (sU hf))
theorem E8 (h:Hd):jP h=iZ h:=by
 unfold jP iZ;by_cases h0:h.af=[]
 ·rw [aj h0,aj (by simp [h0])]
 ·rw [ah h0,ah (sU h0)];by_cases h1:64 < h.af.length
  ·rw [aj h1,aj h1]
  ·rw [ah h1,ah h1];have:=sG h.af h.af.length 0 (by omega) rfl (by simp [aw]);simpa using this
def lj (p:Ph):Ph:=⟨p.name,true,[],0,0,0,0,[]⟩
theorem HN (p:Ph) (t:Ty):bR p t (lj p) ct=(cW p iV && sameTy t ct):=by grind [cW,lj,iV,bR]
theorem empty_eq (p:Ph):bR p ct eF ct=(decide (p.name.s=al) && cW p eF):=by
 have e:sameTy ct ct=true:=by simp [ct,Ef,sameTy,la,samePts,sameWds]
 simp only [bR,e,Bool.and_true];rfl
def cY (L:List ByteArray) (s:ByteArray):Option Nat:=bq (fun i=>decide (L[i]? = some s)) L.length
theorem dN {L:List ByteArray} {s:ByteArray} {p:Nat} (h:cY L s=some p):p < L.length/\L[p]? = some s/\∀ j,L[j]? = some s->p<=j:=by
 obtain ⟨h1,h2,h3⟩:=ey h
 grind
theorem HO {L:List ByteArray} {s:ByteArray} {p:Nat} (h1:L[p]? = some s) (h2:∀ j,L[j]? = some s->p<=j):cY L s=some p:=by
 refine cQ (gS h1).1 (sU h1) fun a ha=>?_
 grind
theorem Cd {L:List ByteArray} {s:ByteArray} (h:∀ j:Nat,L[j]? ≠ some s):cY L s=none:=dC fun a _=>by simpa using h a
theorem ff (L:List ByteArray) (ay:List Nat) (s:ByteArray) (hT:eT L ay) (hl:ay.length<=1099511627776) :
  bh prog 112 [.pt (bW L ay) 0,.v (.string s)] (E5 (cY L s)):=by
 by_cases hm:s∈L
 ·obtain ⟨j,hj⟩:=List.mem_iff_getElem?.1 hm;obtain ⟨q,p,hq,hp⟩:=hT.all j s hj;rw [HO hp fun j' eQ=>hT.fst q p j' s hq hp eQ];exact find_spec L ay s q p hT hl hq hp
 rw [Cd fun j hj=>hm (mG hj)]
 let pr:Nat->Prop:=fun i=>i=ay.length∨∃ p t,ay[i]? = some p/\L[p]? = some t/\ub t s=false
 obtain ⟨m,iH,vv⟩:=least (p:=pr) ⟨ay.length,.inl rfl⟩;have hmn:m<=ay.length:=vv _ (.inl rfl);refine eG 47 [.tmp 4,.tmp 5] func112 rfl ntmps112 rfl fun _ _ _ _=>?_
 have cC:∀ i:Nat,i < ay.length->bh prog 201 [.v (.int .i64 i),.pt [.pt (bW L ay) 0] 0,.pt [.v (.string s)] 0] (.v (.bool (decide (m<=i)))):=by
  intro i hi;obtain ⟨p',rz⟩:∃ p',ay[i]? = some p':=⟨_,gE hi⟩;obtain ⟨t,ht⟩:∃ t,L[p']? = some t:=⟨_,gE (hT.lt i p' rz)⟩;have:=pH L ay s i p' t rz ht
  have e:(!ub t s)=decide (m<=i):=by
   by_cases h:m<=i
   ·have:ub t s=false:=by
     rcases iH with iH | ⟨p,u,h1,h2,h3⟩
     ·omega
     ·rcases Nat.lt_or_eq_of_le h with h4 | h4
      ·have h5:=hT.Rq m i p p' u t h4 h1 rz h2 ht;cases h6:ub t s
       ·rfl
       ·grind [dY,ub]
      ·grind
    simp [this,h]
   ·grind
  rw [e] at this;exact this
 have hS:=nS 201 Ja [.pt [.pt (bW L ay) 0] 0,.pt [.v (.string s)] 0] ay.length m hl hmn ax rfl cC;refine na I9 hS (r9 (bI ay)) rfl ?_;refine dI ?_;refine br ?_ ?_<;>intro h
 ·have av:m < ay.length:=by grind [dInts,bI]
  rcases iH with iH | ⟨p,t,h1,h2,h3⟩
  ·omega
  refine iX (dL h1) ?_;refine iX (dX h2) ?_;refine br ?_ ?_<;>intro h4
  ·exact ⟨_,ax,rfl⟩
  ·grind [aF]
 ·exact ⟨_,ax,rfl⟩
def ir (l:List Wd) (o:List (Wd × Wd)):Ft:=
 if l=[] then (15,0)
 else if 32 < l.length then (8,((l[32]?).getD (⟨al,0⟩:Wd)).a)
 else if 256 < o.length then (8,((o[256]?).getD ((⟨al,0⟩,⟨al,0⟩):Wd × Wd)).1.a)
 else (0,0)
theorem Ce (l:List Wd) (o:List (Wd × Wd)):bh prog 123 [.sl 2 (bf l) none,.sl 4 (oy o) none] (ir l o).d:=by
 refine eG 30 [.cell 4 26] func123 rfl ntmps123 rfl fun _ _ _ _=>?_;refine br ?_ ?_<;>intro h
 ·have h:l=[]:=by simpa [aE] using h
  refine ⟨_,?_,rfl⟩;rw [ir,aj h];exact ax
 have h:¬ l=[]:=by simpa [aE] using h
 refine br ?_ ?_<;>intro h1
 ·have h1:32 < l.length:=by simp [aE] at h1;omega
  obtain ⟨x,hx⟩:∃ x,l[32]? = some x:=⟨_,gE h1⟩;refine ⟨kj x,⟨by omega,cz hx⟩,?_⟩;refine ⟨_,?_,rfl⟩;rw [ir,ah h,aj h1,hx];exact ax
 have h1:¬ 32 < l.length:=by simp [aE] at h1;omega
 refine br ?_ ?_<;>intro h2
 ·have h2:256 < o.length:=by simp [l9] at h2;omega
  obtain ⟨x,hx⟩:∃ x,o[256]? = some x:=⟨_,gE h2⟩;refine ⟨N7 x,⟨by omega,wu hx⟩,?_⟩;refine ⟨_,?_,rfl⟩;rw [ir,ah h,ah h1,aj h2,hx];exact ax
 have h2:¬ 256 < o.length:=by simp [l9] at h2;omega
 refine ⟨_,?_,rfl⟩;rw [ir,ah h,ah h1,ah h2];exact ax
def Oe (f:Ft) (L:List ByteArray):DV:=.cj [if f.1=0 then .sl 1 (dj L) none else .v (.slice none 0 0),f.d]
abbrev Jx (l:List Wd) (n e:Nat):St:=
 ⟨[aS 3 0,(4,⟨[],.sl 1 (dj (aw (l.take e))) (some 0)⟩),dJ 7 2 (bf l),aA 8 ((bf l).length),aA 9 e],[[.v (.int .i64 0),.v (.int .i64 0)]],[⟨n,9,1,none⟩]⟩
theorem qc {all:List Wd} {e:Nat} {w:Wd} (h:all[e]? = some w):enumL all e (all.drop e)=if aQ all e w≠0 then (aQ all e w,w.a) else enumL all (e + 1) (all.drop (e + 1)):=by
 rw [drop_cons h,enumL]
theorem wD (l:List Wd) (hs:wdsWt l<=1099511627776):bh prog 124 [.sl 2 (bf l) none] (Oe (enumL l 0 l) (aw l)):=by
 have yj:=bQ l;refine eG 36 [.tmp 2,.cell 3 26] func124 rfl ntmps124 rfl fun _ _ _ _=>?_;refine lI (fun j st=>∃ e:Nat,st=Jx l e e/\e<=l.length/\(aw (l.take e)).Nodup/\enumL l 0 l=enumL l e (l.drop e)/\j=l.length - e) ⟨0,rfl,by omega,by simp [aw],rfl,rfl⟩ (jG ⟨0,9,1,none⟩ rfl ⟨_,rfl⟩ rfl wA rfl rfl tU) ?_;rintro j st ⟨e,rfl,he,hnd,bL,rfl⟩;rw [bL];refine br ?_ ?_<;>intro hL
 ·have av:e < l.length:=by simpa [aE] using hL
  obtain ⟨w,hw⟩:=gX av;have RE:=ki (mG hw);have lA:=il hw;have bo:=qc hw;have u6:=jd hw hnd;have Me:=k0 (aw (l.take (e + 1))) (by simp [aw];omega);rw [<- lA] at Me;refine ⟨kj w,⟨by omega,cz hw⟩,?_⟩;refine ⟨by simp [bz,aw];omega,⟨by simp [bz,aw,maxLen];omega,by simp [bz,aw];omega⟩,?_⟩;refine cP BL (e9 w.s (by omega)) ?_;refine br ?_ ?_<;>intro hN
  ·have hN:bG w.s=false:=sU hN;have hf:aQ l e w=9:=by simp [aQ,hN]
   rw [bo,hf,aj (by decide)];refine dS ?_;exact ⟨_,ax,rfl⟩
  ·have hN:bG w.s=true:=sU hN;refine gW D3 rfl Me ax (fun r hr=>?_);obtain ⟨z,rfl,hz⟩:=hr;refine br ?_ ?_<;>intro h2
   ·have h2:0<=z:=sU h2;have hd:eu (l.take e) w.s=true:=by grind
    have hf:aQ l e w=10:=by simp [aQ,hN,hd]
    rw [bo,hf,aj (by decide)];refine dS ?_;exact ⟨_,ax,rfl⟩
   ·have h2:¬ 0<=z:=sU h2;have rA:(aw (l.take (e + 1))).Nodup:=Classical.byContradiction fun hn=>h2 (hz.2 hn);have hf:aQ l e w=0:=by simp [aQ,hN,u6.1 rA]
    rw [hf,ah (by simp)] at bo;refine ⟨Jx l (e + 1) (e + 1),(cL (q5 (bV av (by omega)) lA)),l.length - (e + 1),by omega,e + 1,rfl,by omega,rA,bo,rfl⟩
 ·have bO:e=l.length:=by
   have:=hL;simp [aE] at this;omega
  have h0:enumL l e (l.drop e)=(0,0):=by rw [bO,List.drop_length];all_goals rfl
  rw [h0];have ht:l.take e=l:=by rw [bO,List.take_length]
  rw [ht];exact ⟨_,ax,rfl⟩
def numF (L:List ByteArray):List (Wd × Wd)->Ft
 | []=>(0,0)
 | p :: r=>if cY L p.1.s=none then (17,p.1.a) else if cY L p.2.s=none then (17,p.2.a) else numF L r
def K9 (L:List ByteArray) (p:Wd × Wd):Nat × Nat:=((cY L p.1.s).getD 0,(cY L p.2.s).getD 0)
def fg (L:List ByteArray) (o:List (Wd × Wd)):List (Nat × Nat):=o.map (K9 L)
def Og (f:Ft) (l:List (Nat × Nat)):DV:=.cj [if f.1=0 then .sl 2 (oA l) none else .v (.slice none 0 0),f.d]
theorem Cf {L:List ByteArray} {o:List (Wd × Wd)} {e a b:Nat} {x:Wd × Wd} (h:o[e]? = some x) (ha:cY L x.1.s=some a) (hb:cY L x.2.s=some b):oA (fg L (o.take e)) ++ [[DV.v (.int .i64 (a:Int)),DV.v (.int .i64 (b:Int))]]=oA (fg L (o.take (e + 1))):=by
 rw [List.take_add_one,h];simp [oA,fg,K9,ha,hb,RF]
abbrev Jy (L:List ByteArray) (ay:List Nat) (o:List (Wd × Wd)) (n e:Nat):St:=
 ⟨[ry 0 (bW L ay),aS 5 0,(6,⟨[],.sl 2 (oA (fg L (o.take e))) (some 0)⟩),dJ 12 4 (oy o),aA 13 ((oy o).length),aA 14 e],[[.v (.int .i64 0),.v (.int .i64 0)]],[⟨n,285,2,none⟩]⟩
theorem rB (L:List ByteArray) (ay:List Nat) (hT:eT L ay) (hl:ay.length<=1099511627776) (o:List (Wd × Wd)) (hs:prsWt o<=1099511627776) :
  bh prog 126 [.pt (bW L ay) 0,.sl 4 (oy o) none] (Og (numF L o) (fg L o)):=by
 have yj:=kr o;refine eG 55 [.tmp 4,.cell 5 26] func126 rfl ntmps126 rfl fun _ _ _ _=>?_;refine lI (fun j st=>∃ e:Nat,st=Jy L ay o e e/\e<=o.length/\numF L o=numF L (o.drop e)/\j=o.length - e) ⟨0,rfl,by omega,rfl,rfl⟩ (jG ⟨0,285,2,none⟩ rfl ⟨_,rfl⟩ rfl wA rfl rfl tU) ?_;rintro j st ⟨e,rfl,he,bL,rfl⟩;rw [bL];refine br ?_ ?_<;>intro hL
 ·have av:e < o.length:=by simpa [l9] using hL
  obtain ⟨w,hw⟩:=gX av;have bo:numF L (o.drop e)=if cY L w.1.s=none then (17,w.1.a) else if cY L w.2.s=none then (17,w.2.a) else numF L (o.drop (e + 1)):=by rw [drop_cons hw,numF]
  have HH:=ff L ay w.1.s hT hl;have u4:=ff L ay w.2.s hT hl;refine ⟨N7 w,⟨by omega,wu hw⟩,?_⟩
  cases ha:cY L w.1.s with
  | none=>
   rw [ha] at HH;refine cP jK HH ?_;rw [bo,aj ha];refine dS ?_;exact ⟨_,ax,rfl⟩
  | some a=>
   rw [ha] at HH;refine cP jK HH ?_
   cases hb:cY L w.2.s with
   | none=>
    rw [hb] at u4;refine cP jK u4 ?_;rw [bo,ah (by rw [ha];simp),aj hb];refine dS ?_;exact ⟨_,ax,rfl⟩
   | some b=>
    rw [hb] at u4;refine cP jK u4 ?_;rw [ah (by rw [ha];simp),ah (by rw [hb];simp)] at bo;refine ⟨by simp [jR,fg];omega,⟨by simp [jR,fg,maxLen];omega,by simp [jR,fg];omega⟩,?_⟩;refine ⟨Jy L ay o (e + 1) (e + 1),(cL (q5 (bV av (by omega)) (Cf hw ha hb))),o.length - (e + 1),by omega,e + 1,rfl,by omega,bo,rfl⟩
 ·have bO:e=o.length:=by
   have:=hL;simp [l9] at this;omega
  have h0:numF L (o.drop e)=(0,0):=by rw [bO,List.drop_length];all_goals rfl
  rw [h0];have ht:o.take e=o:=by rw [bO,List.take_length]
  rw [ht];exact ⟨_,ax,rfl⟩
end Go.Proofs.YtfdedoiiahbnnaaGreat
namespace Go.Proofs.YtfdedoiiahbnnaaGreat
namespace Dv
open Go Go.RowKit
section
variable {X:Ctx} {st:St} {k:List It} {E:En} {a:Act} {w:World}
def Wk (X:Ctx) (st aJ:St):Prop:=∀ E a w,Rel X E st a w->∃ E',Rel X E' aJ a w
theorem Wk.refl (X:Ctx) (st:St):Wk X st st:=fun E _ _ h=>⟨E,h⟩
theorem Wk.trans {X:Ctx} {s1 s2 s3:St} (h1:Wk X s1 s2) (h2:Wk X s2 s3):Wk X s1 s3:=fun _ _ _ h=>by
 obtain ⟨E1,h3⟩:=h1 _ _ _ h;exact h2 _ _ _ h3
theorem Wk.La {X:Ctx} {s1 s2:St} (h:kG X.n0 X.m0 s1 s2):Wk X s1 s2:=fun _ _ _ hr=>px hr h
theorem Cg {f:FuncId} {args aV:List DV} {os:List (List DV)} (n1 m1:Nat) (vu:Nat.ble n1 st.bx.length=true) (iH:Nat.ble m1 st.tk.length=true)
  (vz:jw [] n1 n1 m1 os (st.bx.take n1)) (ha:CcL [] n1 n1 m1 aV args)
  {Φ:DV->List (List DV)->List TkE->Prop} (hc:QG false X.P f aV os (st.tk.take m1) X.bt Φ) (bo:X.still=false) {vs:List Value} (h:Rel X E st a w) (hv:RvL E args vs) :
  Calls X.P f vs.toArray w fun e w'=>∃ v r cg bl E',e = .returned v/\Φ r cg bl /\ cg.length=n1/\bl.length=m1/\Rel X E' ⟨st.sl,cg ++ st.bx.drop n1,bl ++ st.tk.drop m1⟩ a w' /\ Rv E' r v/\Ext E E' /\ E'.β=E.β /\
   ∀ (i:Nat) b,n1<=i->E.β[i]? = some b->w'.heap[b]? = w.heap[b]?:=by
 have vu:=nL vu;have iH:=nL iH;have hlen:=h.env.len;have BW:=h.env.tl;have oo:=h.tk;have htkl:E.tk.length=st.tk.length:=by rw [oo]
 let E1:En:=⟨E.c,E.β.take n1,E.tk.take m1,E.τ.take m1⟩
 have hfz:Dc E E1 [] n1:=⟨fun _ _ h=>h,fun i cs _ hi=>by simp at hi⟩
 have tS:Al E E1 n1 m1:={
  β:=fun i b hi hb=>by show (E.β.take n1)[i]? = _;rw [bJ,aj hi];exact hb
  tk:=fun k hk=>⟨by show (E.tk.take m1)[k]? = _;rw [bJ,aj hk],by show (E.τ.take m1)[k]? = _;rw [bJ,aj hk]⟩ }
 obtain ⟨gM,MF⟩:=vz.get;have RI:os.length=n1:=by rw [gM,zLenT];omega
 have Oh:∀ (j:Nat) y,(E.τ.take m1)[j]? = some y->j < m1/\E.τ[j]? = some y:=fun j y hy=>by
  rw [bJ] at hy;split at hy
  ·rename_i hj;exact ⟨hj,hy⟩
  ·cases hy
 have hkg:∀ (j:Nat) q,(E.tk.take m1)[j]? = some q->j < m1/\E.tk[j]? = some q:=fun j y hy=>by
  rw [bJ] at hy;split at hy
  ·rename_i hj;exact ⟨hj,hy⟩
  ·cases hy
 have KN:Env E1 os w:={
  len:=by show (E.β.take n1).length=_;rw [zLenT,RI];omega
  tl:=by show (E.τ.take m1).length=(E.tk.take m1).length;rw [zLenT,zLenT,BW]
  cM:=fun i cs' hi=>by
   obtain ⟨cs,bP,nN⟩:=MF i cs' hi;rw [bJ] at bP;split at bP
   ·rename_i av;obtain ⟨b,ty,arr,hb,hw,hc⟩:=h.env.cM i cs bP;exact ⟨b,ty,arr,tS.β i b av hb,hw,CcL.sound hfz tS nN hc.1,hc.2⟩
   ·cases bP
  inj:=h.env.inj.sublist (List.take_sublist _ _)
  sub:=h.env.sub
  pc:=fun x v hx hm=>h.env.pc x v hx (List.mem_of_mem_take hm)
  bN:=fun j q y hq hy=>by
   obtain ⟨_,hq⟩:=hkg j q hq;obtain ⟨_,hy⟩:=Oh j y hy;rcases h.env.bN j q y hq hy with h1 | ⟨g,cap,cur,rfl,h1,h2,h3,h4,h5,h6⟩
   ·exact .inl h1
   ·exact .inr ⟨g,cap,cur,rfl,h1,h2,h3,h4,fun hm=>h5 (List.mem_of_mem_take hm),h6⟩
  fH:=fun j j' y y' g Ai hy eS=>h.env.fH j j' y y' g Ai (Oh j y hy).2 (Oh j' y' eS).2 }
 refine (hc E1 w _ KN (by show E.tk.take m1=_;rw [oo]) (h.bt.sub n1) (CcL.sound hfz tS ha hv)).mono ?_;rintro e w' ⟨v,rfl,⟨hm,_,r,cg,E2,he,hβ,uu,hn,Kx,hΦ⟩,RJ⟩;have uu:E2.tk.length=E1.tk.length:=uu;have RL:E1.tk.length=m1:=by show (E.tk.take m1).length=_;rw [zLenT];omega
 have hE1τ:E1.τ.length=m1:=by show (E.τ.take m1).length=_;rw [zLenT];omega
 have RM:E1.β.length=n1:=by show (E.β.take n1).length=_;rw [zLenT];omega
 rw [RL] at uu;have PA:E2.τ.length=m1:=by rw [he.tl,uu]
 have E9:cg.length=n1:=by rw [<- he.len,hβ,RM]
 have hS:∀ j,E1.S j->j∈E.β.take n1∨∃ i y,i < m1/\E.τ[i]? = some y/\y.ownBlock=some j:=fun j hj=>by
  rcases hj with h1 | ⟨y,h1,h2⟩
  ·exact .inl h1
  ·obtain ⟨i,hi,he⟩:=List.getElem_of_mem h1;have iF:E1.τ[i]? = some y:=by rw [gE hi,he]
   obtain ⟨h3,h4⟩:=Oh i y iF;exact .inr ⟨i,y,h3,h4,h2⟩
 have hh:∀ j,j < w.heap.size->¬ E1.S j->w'.heap[j]? = w.heap[j]?:=fun j hj aY=>hm.block j hj aY;have ed:∀ (i:Nat) y g,E.τ[i]? = some y->y.ownBlock=some g->g < w.heap.size/\g ∉ E.β:=fun i y g hy hg=>h.env.own (mG hy) hg
 have cm:∀ x v,E2.c x=some v->E.c x=some v∨w.heap.size<=x.block∨∃ i y,i < m1/\E.τ[i]? = some y/\y.ownBlock=some x.block:=fun x v hx=>by
  rcases hn.cn x v hx with h1 | h1 | ⟨y,h1,h2⟩
  ·exact .inl h1
  ·exact .inr (.inl h1)
  ·obtain ⟨i,hi,he⟩:=List.getElem_of_mem h1;have iF:E1.τ[i]? = some y:=by rw [gE hi,he]
   obtain ⟨h3,h4⟩:=Oh i y iF;exact .inr (.inr ⟨i,y,h3,h4,h2⟩)
 have ph:∀ (j:Nat) q,j < m1->E.tk[j]? = some q->∃ y q' y',E.τ[j]? = some y/\E2.tk[j]? = some q' /\ E2.τ[j]? = some y' /\ q.ty=q'.ty/\q.e=q'.e/\((q'.n=q.n/\y'=y)∨q.n < q'.n)/\(y'.ownBlock=y.ownBlock∨∀ g,y'.ownBlock=some g->w.heap.size<=g):=fun j q hj hq=>by
  have qY:j < E.τ.length:=by rw [BW];omega
  obtain ⟨q',y',h1,h2,h3⟩:=hn.tk j q E.τ[j] (by show (E.tk.take m1)[j]? = _;rw [bJ,aj hj];exact hq) (by show (E.τ.take m1)[j]? = _;rw [bJ,aj hj,gE qY]);exact ⟨_,q',y',gE qY,h1,h2,h3⟩
 have AP:∀ (j:Nat) y',j < m1->E2.τ[j]? = some y' -> ∃ y,E.τ[j]? = some y/\(y'.ownBlock=y.ownBlock∨∀ g,y'.ownBlock=some g->w.heap.size<=g):=fun j y' hj hy=>by
  have qY:j < E.tk.length:=by omega
  obtain ⟨y,q1,y1,h1,_,h3,_,_,_,h7⟩:=ph j _ hj (gE qY);rw [hy] at h3;simp only [oI] at h3;subst h3;exact ⟨y,h1,h7⟩
 let E':En:=⟨E2.c,E.β,E2.tk ++ E.tk.drop m1,E2.τ ++ E.τ.drop m1⟩
 have fF:∀ (j:Nat),m1<=j->E'.tk[j]? = E.tk[j]?:=fun j hj=>by
  show (E2.tk ++ E.tk.drop m1)[j]? = _;rw [List.getElem?_append_right (by omega),List.getElem?_drop,uu];congr 1;omega
 have Lb:∀ (j:Nat),m1<=j->E'.τ[j]? = E.τ[j]?:=fun j hj=>by
  show (E2.τ ++ E.τ.drop m1)[j]? = _;rw [List.getElem?_append_right (by omega),List.getElem?_drop,PA];congr 1;omega
 have DT:∀ (j:Nat),j < m1->E'.tk[j]? = E2.tk[j]?:=fun j hj=>by
  show (E2.tk ++ E.tk.drop m1)[j]? = _;rw [c9 (by omega)]
 have GH:∀ (j:Nat),j < m1->E'.τ[j]? = E2.τ[j]?:=fun j hj=>by
  show (E2.τ ++ E.τ.drop m1)[j]? = _;rw [c9 (by omega)]
 have hx:Ext E E':=⟨hn.c,fun _ _ h=>h,fun j q hq=>by
  rcases Nat.lt_or_ge j m1 with hj | hj
  ·obtain ⟨y,q',y',h1,h2,h3,_,_,h6,_⟩:=ph j q hj hq;refine ⟨q',by rw [DT j hj];exact h2,?_⟩;rcases h6 with ⟨h6,rfl⟩ | h6
   ·exact .inl ⟨h6,by rw [GH j hj,h3,h1]⟩
   ·exact .inr h6
  ·exact ⟨q,by rw [fF j hj];exact hq,.inl ⟨rfl,Lb j hj⟩⟩⟩
 have BK:Ext E2 E':={
  c:=fun _ _ h=>h
  β:=fun j b hj=>by
   rw [hβ] at hj;have hj:(E.β.take n1)[j]? = some b:=hj;rw [bJ] at hj;split at hj
   ·exact hj
   ·cases hj
  tk:=fun j q hq=>by
   have hj:j < m1:=by have:=(gS hq).1;omega
   exact ⟨q,by rw [DT j hj];exact hq,.inl ⟨rfl,GH j hj⟩⟩ }
 have Jz:∀ (i:Nat) b,n1<=i->E.β[i]? = some b->w'.heap[b]? = w.heap[b]?:=fun i b hi hb=>by
  refine hh b (h.env.aN (mG hb)) fun hs=>?_;rcases hS b hs with h1 | ⟨i',y,_,h2,h3⟩
  ·obtain ⟨i',iF,KD⟩:=List.getElem_of_mem h1;have h4:(E.β.take n1)[i']? = some b:=by rw [gE iF,KD]
   rw [bJ] at h4;split at h4
   ·rename_i av;have:=(List.getElem?_inj (gS hb).1 h.env.inj).1 (hb.trans h4.symm);omega
   ·cases h4
  ·exact (ed i' y b h2 h3).2 (mG hb)
 have RN:kE X.bt E.β w':=fun p hp b hb=>by
  rcases Nat.lt_or_ge p.1 n1 with av | bO
  ·exact RJ p hp b (by show (E.β.take n1)[p.1]? = _;rw [bJ,aj av];exact hb)
  ·obtain ⟨cs,bP⟩:=h.bt p hp b hb;exact ⟨cs,by rw [Jz p.1 b bO hb];exact bP⟩
 have ba:Rel X E' ⟨st.sl,cg ++ st.bx.drop n1,E2.tk ++ st.tk.drop m1⟩ a w':=by
  refine bU h hx ?_ (by show E2.tk ++ E.tk.drop m1=_;rw [oo]) ?_ (h.fr.bF hm.os hm.tape hm.output hm.size fun j hj=>?_) (kF bo) RN
  ·exact {
    len:=by show E.β.length=_;rw [List.length_append,List.length_drop,E9,hlen];omega
    tl:=by show (E2.τ ++ E.τ.drop m1).length=(E2.tk ++ E.tk.drop m1).length;simp only [List.length_append,List.length_drop,PA,uu,BW]
    cM:=fun i MW hi=>by
     rcases Nat.lt_or_ge i n1 with Er | Er
     ·rw [c9 (by omega)] at hi;obtain ⟨b2,QW,KO,kR,qX,jD⟩:=he.cM i MW hi;exact ⟨b2,QW,KO,BK.β i b2 kR,qX,jD.mono BK⟩
     ·rw [List.getElem?_append_right (by omega),List.getElem?_drop,E9] at hi;rw [show n1 + (i - n1)=i by omega] at hi;obtain ⟨bj,QX,KP,I2,MX,Ke⟩:=h.env.cM i MW hi;refine ⟨bj,QX,KP,I2,(hh bj (cv MX) ?_).trans MX,Ke.mono hx⟩;intro hs;rcases hS bj hs with h1 | ⟨i',y,_,h2,h3⟩
      ·obtain ⟨i',iF,KD⟩:=List.getElem_of_mem h1;have h4:(E.β.take n1)[i']? = some bj:=by rw [gE iF,KD]
       rw [bJ] at h4;split at h4
       ·rename_i av;have:=(List.getElem?_inj (gS I2).1 h.env.inj).1 (I2.trans h4.symm);omega
       ·cases h4
      ·exact (ed i' y bj h2 h3).2 (mG I2)
    inj:=h.env.inj
    sub:=he.sub
    pc:=fun x v hc iE=>by
     rcases cm x v hc with h1 | h1 | ⟨i,y,_,h2,h3⟩
     ·exact h.env.pc x v h1 iE
     ·have:=h.env.aN iE;omega
     ·exact (ed i y _ h2 h3).2 iE
    bN:=fun j q y hq hy=>by
     rcases Nat.lt_or_ge j m1 with hj | hj
     ·rw [DT j hj] at hq;rw [GH j hj] at hy;rcases he.bN j q y hq hy with h1 | ⟨g,cap,cur,rfl,h1,h2,h3,h4,h5,h6⟩
      ·exact .inl h1
      ·refine .inr ⟨g,cap,cur,rfl,h1,h2,h3,h4,fun iE=>?_,h6⟩;obtain ⟨y0,h7,h8⟩:=AP j _ hj hy;rcases h8 with h8 | h8
       ·exact (ed j y0 g h7 (by rw [<- h8];rfl)).2 iE
       ·have:=h8 g rfl;have:=h.env.aN iE;omega
     ·rw [fF j hj] at hq;rw [Lb j hj] at hy;rcases h.env.bN j q y hq hy with h1 | ⟨g,cap,cur,rfl,h1,h2,h3,h4,h5,h6⟩
      ·exact .inl h1
      ·have aY:∀ i y',i < m1->E.τ[i]? = some y' -> y'.ownBlock≠some g:=fun i y' hi eS=>h.env.fH j i _ y' g (by omega) hy eS rfl
       have u6:¬ E1.S g:=fun hs=>by
        rcases hS g hs with h7 | ⟨i,y',h7,h8,h9⟩
        ·exact h5 (List.mem_of_mem_take h7)
        ·exact aY i y' h7 h8 h9
       refine .inr ⟨g,cap,cur,rfl,by rw [hh g (cv h1) u6];exact h1,⟨h2.1,h2.2.mono hn.c⟩,h3,h4,h5,fun x v hc hg=>?_⟩
       ·rcases cm x v hc with h7 | h7 | ⟨i,y',h7,h8,h9⟩
        ·exact h6 x v h7 hg
        ·have:=cv h1;omega
        ·exact (aY i y' h7 h8 (by rw [h9,hg])).elim
    fH:=fun j j' y y' g Ai hy eS hg om=>by
     rcases Nat.lt_or_ge j m1 with hj | hj
     ·rw [GH j hj] at hy;obtain ⟨y0,h7,h8⟩:=AP j _ hj hy;rcases Nat.lt_or_ge j' m1 with eQ | eQ
      ·rw [GH j' eQ] at eS;exact he.fH j j' y y' g Ai hy eS hg om
      ·rw [Lb j' eQ] at eS;rcases h8 with h8 | h8
       ·exact h.env.fH j j' y0 y' g Ai h7 eS (by rw [<- h8];exact hg) om
       ·have:=h8 g hg;have:=(ed j' y' g eS om).1;omega
     ·rw [Lb j hj] at hy;rcases Nat.lt_or_ge j' m1 with eQ | eQ
      ·rw [GH j' eQ] at eS;obtain ⟨y0,h7,h8⟩:=AP j' _ eQ eS;rcases h8 with h8 | h8
       ·exact h.env.fH j j' y y0 g Ai hy h7 hg (by rw [<- h8];exact om)
       ·have:=h8 g om;have:=(ed j y g hy hg).1;omega
      ·rw [Lb j' eQ] at eS
       exact h.env.fH j j' y y' g Ai hy eS hg om }
  ·exact {
    c:=fun x v hc=>hn.c x v (h.nw.c x v hc)
    cn:=fun x v hc=>by
     rcases cm x v hc with h1 | h1 | ⟨i,y,_,h2,h3⟩
     ·exact h.nw.cn x v h1
     ·have:=h.fr.size;exact .inr (.inl (by omega))
     ·rcases h.nw.own h2 h3 with h4 | h4
      ·exact .inr (.inr h4)
      ·exact .inr (.inl h4)
    β:=h.nw.β
    tk:=fun j q0 y0 rX rf=>by
     obtain ⟨q1,y1,h1,h2,h3,h4,h5,h6⟩:=h.nw.tk j q0 y0 rX rf;rcases Nat.lt_or_ge j m1 with hj | hj
     ·obtain ⟨y,q',y',g1,g2,g3,g4,g5,g6,g7⟩:=ph j q1 hj h1;rw [h2] at g1;simp only [oI] at g1;subst g1;refine ⟨q',y',by rw [DT j hj];exact g2,by rw [GH j hj];exact g3,h3.trans g4,h4.trans g5,?_,?_⟩
      ·rcases g6 with ⟨g6,rfl⟩ | g6
       ·rcases h5 with ⟨h5,rfl⟩ | h5
        ·exact .inl ⟨by omega,rfl⟩
        ·exact .inr (by omega)
       ·rcases h5 with ⟨h5,_⟩ | h5
        ·exact .inr (by omega)
        ·exact .inr (by omega)
      ·rcases g7 with g7 | g7
       ·rcases h6 with h6 | h6
        ·exact .inl (g7.trans h6)
        ·exact .inr fun g hg=>h6 g (by rw [<- g7];exact hg)
       ·refine .inr fun g hg=>?_;have:=g7 g hg;have:=h.fr.size;omega
     ·exact ⟨q1,y1,by rw [fF j hj];exact h1,by rw [Lb j hj];exact h2,h3,h4,h5,h6⟩
    tn:=fun j y g vy hy hg=>by
     rcases Nat.lt_or_ge j m1 with hj | hj
     ·rw [GH j hj] at hy;obtain ⟨y0,h7,h8⟩:=AP j _ hj hy;rcases h8 with h8 | h8
      ·exact h.nw.tn j y0 g vy h7 (by rw [<- h8];exact hg)
      ·have:=h8 g hg;have:=h.fr.size;omega
     ·rw [Lb j hj] at hy;exact h.nw.tn j y g vy hy hg
    l0:=h.nw.l0 }
  ·by_cases T0:E1.S j
   ·left;rcases hS j T0 with h1 | ⟨i,y,_,h2,h3⟩
    ·have u7:=List.mem_of_mem_take h1;obtain ⟨r0,hr0,GO⟩:=h.nw.β;rw [hr0] at u7;rcases List.mem_append.1 u7 with u7 | u7
     ·exact .inl (.inl u7)
     ·exact .inr (GO j u7)
    ·rcases h.nw.own h2 h3 with h4 | h4
     ·exact .inl (.inr h4)
     ·exact .inr h4
   ·exact .inr (hh j hj T0)
 exact ⟨v,r,cg,E2.tk,E',rfl,hΦ,E9,uu,ba,Rv.mono BK Kx,hx,rfl,Jz⟩
theorem qd {f:FuncId} {args aV:List DV} {os:List (List DV)} (n1 m1:Nat) (vu:Nat.ble n1 st.bx.length=true) (iH:Nat.ble m1 st.tk.length=true)
  (vz:jw [] n1 n1 m1 os (st.bx.take n1)) (ha:CcL [] n1 n1 m1 aV args)
  {Φ:DV->List (List DV)->List TkE->Prop} (hc:Ev X.P f aV os (st.tk.take m1) Φ) (bo:X.still=false) (hX:X.bt=[]) {vs:List Value} (h:Rel X E st a w) (hv:RvL E args vs) :
  Calls X.P f vs.toArray w fun e w'=>∃ v r cg bl E',e = .returned v/\Φ r cg bl /\ cg.length=n1/\bl.length=m1/\Rel X E' ⟨st.sl,cg ++ st.bx.drop n1,bl ++ st.tk.drop m1⟩ a w' /\ Rv E' r v/\Ext E E' /\ E'.β=E.β /\
   ∀ (i:Nat) b,n1<=i->E.β[i]? = some b->w'.heap[b]? = w.heap[b]?:=
 Cg n1 m1 (by exact vu) (by exact iH) vz ha (hc.MH hX) bo h hv
theorem Fa {f:FuncId} {args aV:List DV} {os:List (List DV)} {d:Nat} (n1 m1:Nat) (gV:Enters X.P f) (hd:dF X.nt st.sl (some d)=true) (vu:Nat.ble n1 st.bx.length=true) (iH:Nat.ble m1 st.tk.length=true)
  (vz:jw [] n1 n1 m1 os (st.bx.take n1)) (ha:CcL [] n1 n1 m1 aV args)
  {Φ:DV->List (List DV)->List TkE->Prop} (hc:Ev X.P f aV os (st.tk.take m1) Φ)
  (hk:∀ r cg bl,Φ r cg bl -> cg.length=n1->bl.length=m1->∃ aJ,Wk X ⟨(d,⟨[],r⟩) :: st.sl,cg ++ st.bx.drop n1,bl ++ st.tk.drop m1⟩ aJ /\ go X 4000 k aJ) (bo:X.still=false:=by exact rfl) (hX:X.bt=[]:=by exact rfl):CallG X f args (some d) k st:=by
 refine ⟨gV,bo,fun E a w vs h hv=>(qd n1 m1 vu iH vz ha hc bo hX h hv).mono ?_⟩;rintro e w' ⟨v,r,cg,bl,E',rfl,hΦ,E9,uu,ba,Jm,_,_,_⟩;obtain ⟨aJ,MI,rr⟩:=hk r cg bl hΦ E9 uu;obtain ⟨E3,hr3⟩:=MI _ _ _ (aO ba hd r v Jm);exact go_sound 4000 _ _ rr E3 _ w' hr3
theorem aC {f:FuncId} {args aV:List DV} {os:List (List DV)} {d:Nat} (n1 m1:Nat) (gV:Enters X.P f) (hd:dF X.nt st.sl (some d)=true) (vu:Nat.ble n1 st.bx.length=true) (iH:Nat.ble m1 st.tk.length=true)
  (vz:jw [] n1 n1 m1 os (st.bx.take n1)) (ha:CcL [] n1 n1 m1 aV args)
  {Φ:DV->List (List DV)->List TkE->Prop} (hc:Ev X.P f aV os (st.tk.take m1) Φ)
  (hk:∀ r cg bl,Φ r cg bl -> cg.length=n1->bl.length=m1->go X 4000 k ⟨(d,⟨[],r⟩) :: st.sl,cg ++ st.bx.drop n1,bl ++ st.tk.drop m1⟩) (bo:X.still=false:=by exact rfl) (hX:X.bt=[]:=by exact rfl):CallG X f args (some d) k st:=
 Fa n1 m1 gV hd vu iH vz ha hc (fun r cg bl h1 h2 h3=>⟨_,Wk.refl _ _,hk r cg bl h1 h2 h3⟩) bo hX
theorem Ch {all:Array Oper} {o1 o2 o3:Oper} {r:List Oper} {d1 d2 kt t sT f off ft ty et e gg m oB nn:Nat} {bb:Bool} {zz:List Value} {z:Int} {kd:IntKind} {es:List (List DV)} {cs:List DV} {s ix x:Operand} {dv Oi:DV}
  (h1:o1.op = .indexAddr t s ix/\o1.dst=some d1) (h2:o2.op = .fieldAddr sT (.tmp d1) f/\o2.dst=some d2/\o2.guard=none) (h3:o3.op = .store ty (.tmp d2) x/\o3.dst=none/\o3.guard=none)
  (vb:dF X.nt st.sl (some d1)=true) (BG:dF X.nt ((d1,⟨[],.pt [] 0⟩) :: st.sl) (some d2)=true)
  (hs:rv st [] s=some (.sl 0 es (some kt))) (hi:rv st [] ix=some (.v (.int kd z))) (hx:rv ⟨(d2,⟨[],.pt [] 0⟩) :: (d1,⟨[],.pt [] 0⟩) :: st.sl,st.bx,st.tk⟩ [] x=some dv) (Oj:eraD dv=some Oi) (Lc:dv.cells=[dv])
  (hT:X.T.find t=some ⟨nn,bb,.sl et e gg,zz⟩) (tN:X.T.off sT f=some (off,ft)) (cf:X.T.sz ty=some 1)
  (hq:st.tk[kt]? = some ⟨m,oB,e,some cs⟩) (gU:es.length=m) (hz:0<=z/\z < m) (Mn:off + 1<=e)
  (hk:go X 4000 (.ops all r :: k) ⟨(d2,⟨[],.pt [] 0⟩) :: (d1,⟨[],.pt [] 0⟩) :: st.sl,st.bx,st.tk.set kt ⟨m,oB,e,some (cs.set (z.toNat * e + off) Oi)⟩⟩)
  (bo:X.still=false:=by exact rfl):L0 X o1 (.ops all (o2 :: o3 :: r) :: k) st:=by
 intro E a w h;have fN:=h.rl;have e1:=aK fN hs;have e2:=bm (aK fN hi);unfold Rv at e1;obtain ⟨bs,ns,jF,e1,⟨u6,GG⟩,G9,yl⟩:=e1;subst u6;obtain ⟨q',jq,_,Ko⟩:=yl kt rfl;have gh:E.tk[kt]? = some ⟨m,oB,e,some cs⟩:=by rw [h.tk];exact hq
 rw [gh] at jq;simp only [oI] at jq;subst jq;have hy:=Ko gU;rw [e1,gU] at hy;rw [gU] at e1;have Ol:=h.env.bN kt _ _ gh hy;rcases Ol with ⟨mO,tG,_⟩ | ⟨g,cap,cur,mO,hw0,⟨vE,vF⟩,pj,ru,fI,hc0⟩
 ·simp only at tG;omega
 injection mO with i1 i2 i3
 subst i1 i3;obtain ⟨hu,ii,zv,rj,_,Ld,_,_⟩:=dt X.hT hT;have lQ:eW X.P et=some e:=by rw [dG rj,Ld]
 have Om:(execOp a.eval o1).run X.P w = .ok (.value (.pointer (some ⟨g,z.toNat * e,none⟩))) w:=by
  have bg:(Instr.indexAt t (.slice (some ⟨g,0,none⟩) m jF) (.int kd z)).run X.P w = .ok (.pointer (some ⟨g,z.toNat * e,none⟩)) w:=by
   simp [Instr.indexAt,asIntOf,run_underlying hu,hz.1,hz.2,aD lQ,Addr.add_lit]
  simp only [execOp,h1.1,e1,e2,Sem.run_bind,bg,Result.andThen_ok,Sem.run_pure]
 refine ij Om ?_;rw [h1.2];have hr1:Rel X E ⟨(d1,⟨[],.pt [] 0⟩) :: st.sl,st.bx,st.tk⟩ (a.put (some d1) (.pointer (some ⟨g,z.toNat * e,none⟩))) w:=aO h vb (.pt [] 0) _ (by unfold Rv;exact ⟨g,z.toNat * e,rfl,by simp only [RvAt]⟩);generalize ha1:a.put (some d1) (.pointer (some ⟨g,z.toNat * e,none⟩))=a1 at hr1
 have ht1:a1.eval (.tmp d1) = .pointer (some ⟨g,z.toNat * e,none⟩):=by
  subst ha1;simp only [dF,aP,Nat.blt_eq] at vb;simp [Act.eval,Act.put,h.sz,vb.1]
 show kq X (.ops all (o2 :: o3 :: r) :: k) .normal a1 w;simp only [kq,wpList,Region.wanted,h2.2.2,h3.2.2,if_true];refine .inl (ij (v:=.pointer (some ⟨g,z.toNat * e + off,none⟩)) (w':=w) ?_ ?_)
 ·simp only [execOp,h2.1,ht1,Sem.run_bind,fV (mK X.hT tN),Result.andThen_ok,Sem.run_pure]
 rw [h2.2.1];have ly:Rel X E ⟨(d2,⟨[],.pt [] 0⟩) :: (d1,⟨[],.pt [] 0⟩) :: st.sl,st.bx,st.tk⟩ (a1.put (some d2) (.pointer (some ⟨g,z.toNat * e + off,none⟩))) w:=aO hr1 BG (.pt [] 0) _ (by unfold Rv;exact ⟨g,z.toNat * e + off,rfl,by simp only [RvAt]⟩);generalize G6:a1.put (some d2) (.pointer (some ⟨g,z.toNat * e + off,none⟩))=a2 at ly
 have yY:a2.eval (.tmp d2) = .pointer (some ⟨g,z.toNat * e + off,none⟩):=by
  subst G6;simp only [dF,aP,Nat.blt_eq] at BG;simp [Act.eval,Act.put,hr1.sz,BG.1]
 have e3:=aK ly.rl hx
 have cC:RvC E [dv] (a2.eval x).cells.toList:=by
  have:=e3.cells (eX (n:=1) (by rw [Lc];rfl) (by omega))
  rwa [Lc] at this
 have vB:(a2.eval x).cells.toList.length=1:=by rw [cC.1.length];all_goals rfl
 obtain ⟨xv,PS⟩:∃ xv,(a2.eval x).cells.toList=[xv]:=by
  match hh:(a2.eval x).cells.toList,vB with
  | [y],_=>exact ⟨y,rfl⟩
 obtain ⟨h5,h6⟩:=vF cs rfl;simp only at h5 h6 vE hw0 pj;have JA:cur.toList.length=jF * e:=sU vE;have hme:m * e<=jF * e:=Nat.mul_le_mul_right _ pj
 have mQ:z.toNat * e + off + 1<=m * e:=by
  have:(z.toNat + 1) * e<=m * e:=Nat.mul_le_mul_right _ (by omega);rw [Nat.add_mul] at this;omega
 have IX:=fW (P:=X.P) (t:=ty) (off:=z.toNat * e + off) (n:=1) hw0 (vq X.hT cf) vB (by rw [vE];omega) (List.all_eq_true.2 cC.2);refine .inl (G7 (w':=World.bZ w g (.cells ((cur.toList.take (z.toNat * e + off) ++ (a2.eval x).cells.toList ++ cur.toList.drop (z.toNat * e + off + 1)).toArray) oB (0,0))) ?_ ?_)
 ·simp only [execOp,h3.1,yY,Instr.storeAt,Instr.sureAddr,Sem.run_bind,Sem.run_pure,Result.andThen_ok,IX]
 rw [h3.2.1]
 have Ks:cur.toList.take (z.toNat * e + off) ++ (a2.eval x).cells.toList ++ cur.toList.drop (z.toNat * e + off + 1)=cur.toList.set (z.toNat * e + off) xv:=by
  rw [PS,List.set_eq_take_append_cons_drop,aj (by omega)];simp
 rw [Ks]
 have hx1:RvC E.cl [Oi] [xv]:=by
  rw [PS] at cC;have h7:=cC.1;simp only [RvL] at h7;obtain ⟨v,s',h8,h9,qZ⟩:=h7;simp only [List.cons.injEq] at h8;obtain ⟨rfl,rfl⟩:=h8;exact ⟨rvL_cons (pf Oj h9) (by simp only [RvL]),cC.2⟩
 have ri:vm (World.bZ w g (.cells (cur.toList.set (z.toNat * e + off) xv).toArray oB (0,0))) E.c E.β ⟨m,oB,e,some (cs.set (z.toNat * e + off) Oi)⟩ (.slice (some ⟨g,0,none⟩) m jF):=by
  refine .inr ⟨g,jF,_,rfl,er hw0,⟨by simpa using JA,fun cs' Af=>?_⟩,pj,ru,fI,hc0⟩;simp only [oI] at Af;subst Af;simp only;refine ⟨by rw [List.length_set];exact h5,?_⟩;rw [List.take_set];have av:z.toNat * e + off < (cur.toList.take (m * e)).length:=by rw [zLenT];omega
  rw [List.set_eq_take_append_cons_drop,aj (by omega),List.set_eq_take_append_cons_drop,aj av];have h8:=(RvC.take (z.toNat * e + off) h6).append (RvC.append hx1 (RvC.drop (z.toNat * e + off + 1) h6));simpa using h8
 have De:some g≠some g->False:=fun h=>h rfl
 obtain ⟨ba,hext⟩:=tO (q':=⟨m,oB,e,some (cs.set (z.toNat * e + off) Oi)⟩) (w':=World.bZ w g (.cells (cur.toList.set (z.toNat * e + off) xv).toArray oB (0,0))) ly bo gh hy rfl rfl rfl (.inl ⟨rfl,rfl⟩) ri (.inl rfl) rfl rfl rfl (by rw [dp];exact bd _) (fun j _ aY=>bB (by
  rintro rfl
  exact aY rfl))
 exact go_sound 4000 _ _ hk _ _ _ ba
open Classical in
noncomputable def wE (E:En) (w:World) (y:Value) (n:Nat):Addr->Option Value:=
 fun x=>if y.ownBlock=some x.block/\x.spot=none/\x.off < n then w.cell? x else E.c x
theorem gG {y:Value} {n:Nat} {x:Addr} {v:Value} (h:wE E w y n x=some v):(y.ownBlock=some x.block/\x.spot=none/\x.off < n/\w.cell? x=some v)∨E.c x=some v:=by
 unfold wE at h
 grind
theorem HP (h:Rel X E st a w) {k n ty e:Nat} {cs:List DV} {ns:List (List DV)} (hq:st.tk[k]? = some ⟨n,ty,e,some cs⟩) (bP:cs=ns.flatten) (u6:∀ x∈ns,x.length=e) (ox:ns.length=n) :
  ∃ E',Rel X E' ⟨st.sl,st.bx,st.tk.set k ⟨n,ty,e,none⟩⟩ a w/\Ext E E' /\ ∀ es y,es.length=n->Rv E (.sl 0 es (some k)) y->Rv E' (.sl e ns (some k)) y:=by
 subst bP;have gh:E.tk[k]? = some ⟨n,ty,e,some ns.flatten⟩:=by rw [h.tk];exact hq
 have DE:=(gS gh).1;have Mw:k < E.τ.length:=by rw [h.env.tl];exact DE
 have hv:E.τ[k]? = some E.τ[k]:=gE Mw;generalize E.τ[k]=v at hv;have Ol:=h.env.bN k _ v gh hv
 have jv:∀ x u,E.c x=some u->wE E w v (n * e) x=some u:=fun x u hx=>by
  unfold wE;split
  ·exact h.env.sub x u hx
  ·exact hx
 have hext:Ext E ⟨wE E w v (n * e),E.β,E.tk.set k ⟨n,ty,e,none⟩,E.τ⟩:=⟨jv,fun _ _ h=>h,fun j q PT=>by
  by_cases hj:j=k
  ·subst hj;rw [gh] at PT;simp only [oI] at PT;subst PT;exact ⟨_,gm DE,.inl ⟨rfl,rfl⟩⟩
  ·exact ⟨q,by rw [List.getElem?_set_ne (Ne.symm hj)];exact PT,.inl ⟨rfl,rfl⟩⟩⟩
 refine ⟨⟨wE E w v (n * e),E.β,E.tk.set k ⟨n,ty,e,none⟩,E.τ⟩,bU h hext ?_ (by rw [h.tk]) ?_ h.fr h.sh h.bt,hext,?_⟩
 ·exact {
   len:=h.env.len
   tl:=by simp only [List.length_set];exact h.env.tl
   cM:=fun i cs hi=>by
    obtain ⟨b,t,arr,hb,hw,hc⟩:=h.env.cM i cs hi;exact ⟨b,t,arr,hb,hw,hc.mono hext⟩
   inj:=h.env.inj
   sub:=fun x u hx=>by
    rcases gG hx with ⟨_,_,_,h1⟩ | h1
    ·exact h1
    ·exact h.env.sub x u h1
   pc:=fun x u hx hm=>by
    rcases gG hx with ⟨h1,_⟩ | h1
    ·exact (e7 Ol h1).2 hm
    ·exact h.env.pc x u h1 hm
   bN:=fun j q y hj hy=>by
    by_cases RO:j=k
    ·subst RO;have eQ:(E.tk.set j ⟨n,ty,e,none⟩)[j]? = some q:=hj;rw [gm DE] at eQ;have eS:E.τ[j]? = some y:=hy;rw [hv] at eS;simp only [oI] at eQ eS;subst eQ eS;rcases Ol with ⟨h1,h2,_⟩ | ⟨g,cap,cur,rfl,h1,h2,h3,h4,h5,h6⟩
     ·exact .inl ⟨h1,h2,fun cs hc=>by cases hc⟩
     ·refine .inr ⟨g,cap,cur,rfl,h1,⟨h2.1,lH.none rfl⟩,h3,h4,h5,fun x u hx yh=>?_⟩;rcases gG hx with ⟨_,_,h7,_⟩ | h7
      ·exact h7
      ·have:=h6 x u h7 yh;simp only [TkE.kn] at this;omega
    ·have eQ:E.tk[j]? = some q:=by
      have:(E.tk.set k ⟨n,ty,e,none⟩)[j]? = some q:=hj
      rwa [List.getElem?_set_ne (Ne.symm RO)] at this
     rcases h.env.bN j q y eQ hy with h1 | ⟨g,cap,cur,rfl,h1,h2,h3,h4,h5,h6⟩
     ·exact .inl h1
     ·refine .inr ⟨g,cap,cur,rfl,h1,⟨h2.1,h2.2.mono jv⟩,h3,h4,h5,fun x u hx yh=>?_⟩;rcases gG hx with ⟨h7,_⟩ | h7
      ·exact (h.env.fH j k _ v g RO hy hv rfl (by rw [h7,yh])).elim
      ·exact h6 x u h7 yh
   fH:=h.env.fH }
 ·exact {
   c:=fun x u hx=>jv x u (h.nw.c x u hx)
   cn:=fun x u hx=>by
    rcases gG hx with ⟨h1,_⟩ | h1
    ·rcases h.nw.own hv h1 with h2 | h2
     ·exact .inr (.inr h2)
     ·exact .inr (.inl h2)
    ·exact h.nw.cn x u h1
   β:=h.nw.β
   tk:=fun j q0 y0 rX rf=>by
    obtain ⟨q1,y1,h1,h2,h3,h4,h5,h6⟩:=h.nw.tk j q0 y0 rX rf;by_cases hj:j=k
    ·subst hj;rw [gh] at h1;simp only [oI] at h1;subst h1;exact ⟨_,y1,gm DE,h2,h3,h4,h5,h6⟩
    ·exact ⟨q1,y1,by rw [List.getElem?_set_ne (Ne.symm hj)];exact h1,h2,h3,h4,h5,h6⟩
   tn:=fun j y g hj hy=>h.nw.tn j y g hj hy
   l0:=h.nw.l0 }
 ·intro es y gU hy;unfold Rv at hy ⊢;obtain ⟨b,m,cap,rfl,⟨rfl,hmc⟩,hr,bo⟩:=hy;obtain ⟨q',jq,_,hτ⟩:=bo k rfl;rw [gh] at jq;simp only [oI] at jq;subst jq;have hy:=hτ gU;rw [hv] at hy;simp only [oI] at hy;subst hy;refine ⟨b,es.length,cap,rfl,⟨by omega,hmc⟩,fun aY=>?_,fun k' fF=>?_⟩
  ·rcases Ol with ⟨h1,h2,h3⟩ | ⟨g,Mt,cur,h0,h1,h2,h3,h4,h5,h6⟩
   ·simp only at h2;exact (aY (List.eq_nil_of_length_eq_zero (by omega))).elim
   ·injection h0 with i1 i2 i3
    subst i1;refine ⟨rfl,?_⟩;obtain ⟨h7,h8⟩:=h2.2 _ rfl;refine rvEs_flat (h8.mono (E:=⟨E.c,[],[],[]⟩) ⟨jv,fun _ _ h=>by simp at h,fun _ _ h=>by simp at h⟩) u6 fun j u hj=>?_;rw [bJ] at hj;split at hj
    ·rename_i qY;show wE E w _ (n * e) _=_;unfold wE;rw [aj ⟨rfl,rfl,by simpa [ao] using qY⟩];simp only [ab,ao,Nat.zero_add];rw [bD h1];simpa using hj
    ·cases hj
  ·cases fF;exact ⟨_,gm DE,by simp only;omega,fun _=>hv⟩
theorem yZ {j o k n ty e:Nat} {Di:List DV} {es ns:List (List DV)} (hq:st.tk[k]? = some ⟨n,ty,e,some ns.flatten⟩) (u6:∀ x∈ns,x.length=e) (ox:ns.length=n) (hj:st.bx[j]? = some Di) (ho:Di[o]? = some (.sl 0 es (some k))) (gU:es.length=n) :
  Wk X st ⟨st.sl,st.bx.set j (Di.set o (.sl e ns none)),st.tk.set k ⟨n,ty,e,none⟩⟩:=by
 intro E a w h;obtain ⟨E',hr,hx,ph⟩:=HP h hq rfl u6 ox;refine ⟨E',{ hr with env:=?_ }⟩
 exact { hr.env with
  len:=by simp only [List.length_set];exact hr.env.len
  cM:=fun i cs' hi=>by
   by_cases fL:i=j
   ·subst fL;have av:=(gS hj).1;have iF:(st.bx.set i (Di.set o (.sl e ns none)))[i]? = some cs':=hi;rw [gm av] at iF;simp only [oI] at iF;subst iF;obtain ⟨b,t,arr,hb,hw,hc⟩:=hr.env.cM i Di hj;obtain ⟨b0,t0,DI,fI,hw0,hc0⟩:=h.env.cM i Di hj;have mR:=hx.β i b0 fI;rw [hb] at mR;simp only [oI] at mR;subst mR;rw [hw] at hw0;simp only [oI,Obj.cells.injEq] at hw0
    have El:arr=DI:=by
     have:=hw0.1;simpa using this
    subst El;refine ⟨b,t,arr,hb,hw,?_,hc.2⟩;obtain ⟨v,u3,Da⟩:=hc0.1.get ho;have Jm:=ph es v gU Da;have gM:=(gS ho).1;have rm:arr.length=Di.length:=hc.1.length
    have h1:=(RvL.take o hc.1).append (rvL_cons (d:=.sl e ns none) (v:=v) (by
     unfold Rv at Jm ⊢;obtain ⟨b,n,cap,g1,g2,g3,_⟩:=Jm
     exact ⟨b,n,cap,g1,g2,g3,fun k hk=>by cases hk⟩) (RvL.drop (o + 1) hc.1))
    rw [List.set_eq_take_append_cons_drop,aj gM]
    have h2:arr.take o ++ v :: arr.drop (o + 1)=arr:=by
     have hoa:o < arr.length:=by omega
     have:arr[o]=v:=by grind
     rw [<- this];simp
    rwa [h2] at h1
   ·have iF:(st.bx.set j (Di.set o (.sl e ns none)))[i]? = some cs':=hi;rw [List.getElem?_set_ne (Ne.symm fL)] at iF
    exact hr.env.cM i cs' iF }
theorem Wk.yA (i j:Nat) (S S':St) (he:S'=ch i j S) (DB:Nat.ble X.n0 i=true) (vy:Nat.ble X.n0 j=true) (hi:Nat.blt i S.bx.length=true) (hj:Nat.blt j S.bx.length=true) (hX:X.bt=[]:=by exact rfl):Wk X S' S:=fun E a w h=>by
 subst he;simp only [Nat.blt_eq] at hi hj;exact tY hX h (nL DB) (nL vy) hi hj
theorem Le {c:Code} (I:Nat->St->Prop) (j0:Nat) (fY:St) (hw:Wk X st fY) (h0:I j0 fY)
  (hr:∀ j s,I j s->go X 4000 (.code c :: .mC (fun s'=>∃ vK,Wk X s' vK /\ ∃ j',j' < j/\I j' vK) :: k) s):kI X c k st:=by
 intro E a w h;obtain ⟨E0,hr0⟩:=hw _ _ _ h
 classical
 let Inv:Act->World->Prop:=fun a w=>∃ j s E,Rel X E s a w/\I j s
 let μ:Act->World->Nat:=fun a w=>if hI:Inv a w then Classical.choose (least hI) else 0
 refine wp_loop Inv μ ⟨j0,fY,E0,hr0,h0⟩ ?_;intro a1 w1 hI;have du:=(Classical.choose_spec (least hI)).1;obtain ⟨s,E1,ba,QI⟩:=du;have hs:=go_sound 4000 _ _ (hr _ s QI) E1 a1 w1 ba;rw [cH] at hs;refine wp_mono hs ?_;intro e a2 w2 hq
 cases e with
 | normal=>
  obtain ⟨s',E2,lU,vK,MI,j',eQ,MJ⟩:=hq;obtain ⟨E3,vM⟩:=MI _ _ _ lU;have Kz:Inv a2 w2:=⟨j',vK,E3,vM,MJ⟩;refine ⟨Kz,?_⟩;simp only [μ,dif_pos hI,dif_pos Kz];exact Nat.lt_of_le_of_lt ((Classical.choose_spec (least Kz)).2 j' ⟨vK,E3,vM,MJ⟩) eQ
 | exit id=>exact hq
 | goto l=>exact hq
 | ret=>exact hq
 | panic c=>exact hq
 | outgrown=>exact hq
mutual
def flatD:DV->Bool
 | .v _=>true
 | .agg l=>flatL l
 | .cj l=>flatL l
 | _=>false
def flatL:List DV->Bool
 | []=>true
 | d :: r=>flatD d && flatL r
end
mutual
theorem Rv.flat {E E':En}:∀ {d:DV} {v:Value},flatD d=true->Rv E d v->Rv E' d v
 | .v x,v,_,h=>by unfold Rv at h ⊢;exact h
 | .agg l,v,hf,h=>by
  simp only [flatD] at hf;simp only [Rv] at h ⊢;obtain ⟨vs,h1,h2,h3⟩:=h;exact ⟨vs,h1,RvL.flat hf h2,h3⟩
 | .cj l,v,hf,h=>by
  simp only [flatD] at hf;simp only [Rv] at h ⊢;obtain ⟨vs,h1,h2⟩:=h;exact ⟨vs,h1,RvL.flat hf h2⟩
 | .ud,_,hf,_=>by simp [flatD] at hf
 | .sl _ _ _,_,hf,_=>by simp [flatD] at hf
 | .pt _ _,_,hf,_=>by simp [flatD] at hf
 | .loc _ _,_,hf,_=>by simp [flatD] at hf
 | .el _ _,_,hf,_=>by simp [flatD] at hf
 | .ms _ _ _ _ _,_,hf,_=>by simp [flatD] at hf
 | .fn _ _ _,_,hf,_=>by simp [flatD] at hf
 | .lF _ _,_,hf,_=>by simp [flatD] at hf
theorem RvL.flat {E E':En}:∀ {l:List DV} {vs:List Value},flatL l=true->RvL E l vs->RvL E' l vs
 | [],vs,_,h=>by simpa only [RvL] using h
 | d :: r,vs,hf,h=>by
  simp only [flatL,aP] at hf;simp only [RvL] at h ⊢;obtain ⟨v,s,h1,h2,h3⟩:=h;exact ⟨v,s,h1,Rv.flat hf.1 h2,RvL.flat hf.2 h3⟩
end
theorem AQ {f:FuncId} {args aV:List DV} {d:Nat} {y:DV} (gV:Enters X.P f) (hc:bh X.P f aV y) (ha:CcL st.bx 0 0 0 aV args) (hy:flatD y=true) (hd:dF X.nt st.sl (some d)=true)
  (hk:go X 4000 k ⟨(d,⟨[],y⟩) :: st.sl,st.bx,st.tk⟩) (bo:X.still=false:=by exact rfl):CallG X f args (some d) k st:=by
 refine ⟨gV,bo,fun E a w vs h hv=>(fZ h.env hc ha hv).mono ?_⟩;rintro e w' ⟨v,E2,rfl,hr,hm,_⟩;have hh:∀ i,i < w.heap.size->w'.heap[i]? = w.heap[i]?:=fun i hi=>hm.block i hi (fun h=>h);have ba:Rel X E st a w':=bU h (Ext.refl E) (h.env.fX hh) h.tk h.nw (h.fr.bF hm.os hm.tape hm.output hm.size fun i hi=>.inr (hh i hi)) (kF bo) (h.bt.fX fun b hb=>hh b (h.env.aN hb));exact go_sound 4000 _ _ hk E _ w' (aO ba hd y v (Rv.flat hy hr))
theorem mh {D:Dr} {c:Bool} {i:Nat} {s0:List (Nat × Sl)} {f:FuncId} {args aV:List DV} {d:Nat} {y:DV} {r:List (Nat × Oper)} (gV:Enters X.P f) (hc:bh X.P f aV y) (ha:CcL st.bx 0 0 0 aV args) (hy:flatD y=true) (hd:(dF X.nt st.sl (some d) && dF X.nt s0 (some d))=true)
  (hk:put2 s0 st (some d) true [] y (goD X D 3000 c r)) (bo:X.still=false:=by exact rfl):sc X D c i r f args (some d) s0 st:=by
 refine ⟨gV,fun hl E0 wr hD E a w vs h hv=>(fZ h.rel.env hc ha hv).mono ?_⟩;rintro e w' ⟨v,E2,rfl,hr,hm,_⟩;have hh:∀ i,i < w.heap.size->w'.heap[i]? = w.heap[i]?:=fun i hi=>hm.block i hi (fun h=>h);have ba:Rel X E st a w':=bU h.rel (Ext.refl E) (h.rel.env.fX hh) h.rel.tk h.rel.nw (h.rel.fr.bF hm.os hm.tape hm.output hm.size fun i hi=>.inr (hh i hi)) (kF bo) (h.rel.bt.fX fun b hb=>hh b (h.rel.env.aN hb));have hs:Bu none E w E w':=⟨Ext.refl E,⟨[],by simp⟩,fun j b hb _=>hh b (h.rel.env.aN (mG hb))⟩;have hC:=vR h hs ba (fun j hj=>by cases hj);refine ⟨v,rfl,fun _=>hC,?_⟩;have vS:dy X ⟨D,E0,wr⟩ c E s0 st (a.put none v) w':=lW h hs ba (fun h1=>hC (h.cc h1)) (fun i x hx=>.inr ⟨hx,fun d hd=>by cases hd⟩) rfl;obtain ⟨s1,lz,gL,cN⟩:=fo vS hd true [] y v (fun _ _ p hp=>by cases hp) (fun _=>Rv.flat hy hr) (fun _ _=>Rv.flat hy hr) (fun hn=>(hn (aG _)).elim) hk;exact dh (D:=⟨D,E0,wr⟩) hD 3000 c r _ _ gL hl E _ w' cN
theorem CallG.yA {S:St} {f:FuncId} {args aV:List DV} {dst:Option Nat} (i j:Nat) (hS:st=ch i j S) (ha:args=renL (swp i j) aV) (DB:Nat.ble X.n0 i=true) (vy:Nat.ble X.n0 j=true) (hi:Nat.blt i S.bx.length=true) (hj:Nat.blt j S.bx.length=true)
  (h:CallG X f aV dst k S) (hX:X.bt=[]:=by exact rfl):CallG X f args dst k st:=by
 subst hS ha;simp only [Nat.blt_eq] at hi hj;refine ⟨h.1,h.2.1,fun E a w vs hr hv=>?_⟩
 have hlen:E.β.length=S.bx.length:=by
  rw [hr.env.len];simp only [ch,dz,cO]
 exact h.2.2 _ a w vs (vU hX hr (nL DB) (nL vy) hi hj) (RvL.yA (by rw [hlen];exact hi) (by rw [hlen];exact hj) hv)
end
end Dv
end Go.Proofs.YtfdedoiiahbnnaaGreat
set_option maxRecDepth 100000
namespace Go.Proofs.YtfdedoiiahbnnaaGreat
open Go Go.RowKit Dv Go.Proofs.Tryz
def cZ (l:List Int):List DV:=l.map fun z=>DV.v (.int .i64 z)
def y4 (af:List ByteArray) (tb lq:DV) (js:List Int):List DV:=.sl 1 (dj af) none :: tb :: lq :: cZ js
def oz:Option Nat->Int
 | none=>-1
 | some k=>(k:Int)
def AR (pb:Nat->Nat->Bool) (e:Nat):Option Nat->Bool
 | none=>true
 | some o=>pb e o
def bestA (ia:Nat->Bool) (pb:Nat->Nat->Bool):Nat->Option Nat
 | 0=>none
 | e + 1=>if ia e && AR pb e (bestA ia pb e) then some e else bestA ia pb e
def kO (ia:Nat->Bool) (pb:Nat->Nat->Bool) (n:Nat):Option Nat:=
 match bestA ia pb n with
 | none=>none
 | some o=>if (List.range n).any (fun c=>ia c && !pb o c) then none else some o
theorem mi {ia:Nat->Bool} {pb:Nat->Nat->Bool}:∀ {e k:Nat},bestA ia pb e=some k->k < e
 | 0,k,h=>by cases h
 | e + 1,k,h=>by
  rw [bestA] at h;split at h
  ·simp only [oI] at h;omega
  ·have:=mi h;omega
theorem nh (af:List ByteArray) (tb:DV) (rows:List Nat) (js:List Int) (hr:de rows) (a b:Nat) (ha:a < rows.length) (hb:b < rows.length) :
  bh prog 211 [.v (.int .i64 a),.v (.int .i64 b),.pt [.pt (y4 af tb (jx rows) js) 0] 0] (.v (.bool (aM rows a b))):=by
 have h1:=kv rows hr a b;rw [ma ha hb] at h1;refine eG 13 [.tmp 5] func211 rfl ntmps211 rfl fun _ _ _ _=>?_;refine cP Az h1 ?_;exact (rfl:_=_)
theorem ni (af:List ByteArray) (tb:DV) (rows:List Nat) (js:List Int) (hr:de rows) (a b:Nat) (ha:a < rows.length) (hb:b < rows.length) :
  bh prog 213 [.v (.int .i64 a),.v (.int .i64 b),.pt [.pt (y4 af tb (jx rows) js) 0] 0] (.v (.bool (aM rows b a))):=by
 have h1:=kv rows hr b a;rw [ma hb ha] at h1;refine eG 13 [.tmp 5] func213 rfl ntmps213 rfl fun _ _ _ _=>?_;refine cP Az h1 ?_;exact (rfl:_=_)
abbrev JB (L:List DV):DV:=.fn 211 [] [.pt [.pt L 0] 0]
abbrev JC (L:List DV):DV:=.fn 213 [] [.pt [.pt L 0] 0]
theorem Ci (af:List ByteArray) (tb:DV) (rows:List Nat) (js:List Int) (hr:de rows) (a b c:Nat) (ha:a < rows.length) (hb:b < rows.length) (hc:c < rows.length) :
  bh prog 215 [.v (.int .i64 c),.pt [JB (y4 af tb (jx rows) js)] 0,.pt [.v (.int .i64 a)] 0,.pt [.v (.int .i64 b)] 0] (.v (.bool (aM rows a c && aM rows b c))):=by
 have h1:=nh af tb rows js hr a c ha hc;have h2:=nh af tb rows js hr b c hb hc;refine eG 16 [.tmp 5] func215 rfl ntmps215 rfl fun _ _ _ _=>?_;refine cP Ea h1 ?_;refine br ?_ ?_<;>intro g
 ·have g:aM rows a c=true:=sU g;refine cP Ea h2 ?_;refine (dH ?_:);simp [g,pickB]
 ·have g:aM rows a c=false:=sU g;refine (dH ?_:);simp [g,pickB]
theorem Cj (af:List ByteArray) (tb:DV) (rows:List Nat) (js:List Int) (hr:de rows) (a b c:Nat) (ha:a < rows.length) (hb:b < rows.length) (hc:c < rows.length) :
  bh prog 216 [.v (.int .i64 c),.pt [JC (y4 af tb (jx rows) js)] 0,.pt [.v (.int .i64 a)] 0,.pt [.v (.int .i64 b)] 0] (.v (.bool (aM rows c a && aM rows c b))):=by
 have h1:=ni af tb rows js hr a c ha hc;have h2:=ni af tb rows js hr b c hb hc;refine eG 16 [.tmp 5] func216 rfl ntmps216 rfl fun _ _ _ _=>?_;refine cP Eb h1 ?_;refine br ?_ ?_<;>intro g
 ·have g:aM rows c a=true:=sU g;refine cP Eb h2 ?_;refine (dH ?_:);simp [g,pickB]
 ·have g:aM rows c a=false:=sU g;refine (dH ?_:);simp [g,pickB]
abbrev Lf (L:List DV) (gi gb:Nat) (ci cb:List DV) (n:Nat) (o:Int) (e:Nat):St:=
 ⟨[ry 0 L,(1,⟨[],.fn gi [] ci⟩),(2,⟨[],.fn gb [] cb⟩),aA 7 o,aA 14 n,aA 15 e],[],[]⟩
abbrev AS (L:List DV) (gi gb:Nat) (ci cb:List DV) (n:Nat) (o:Int) (e:Nat):St:=
 ⟨[ry 0 L,(1,⟨[],.fn gi [] ci⟩),(2,⟨[],.fn gb [] cb⟩),aA 7 o,aA 37 n,aA 38 e],[],[]⟩
theorem sH (af:List ByteArray) (tb lq:DV) (js:List Int) (gi gb:Nat) (T1:Enters prog gi) (T3:Enters prog gb) (ci cb:List DV) (ia:Nat->Bool) (pb:Nat->Nat->Bool)
  (On:CcL [] 0 0 0 ci ci) (Oo:CcL [] 0 0 0 cb cb) (RP:clB.clL 0 0 ci=true) (RQ:clB.clL 0 0 cb=true) (hn:af.length<=64)
  (Er:∀ c:Nat,c < af.length->bh prog gi (.v (.int .i64 c) :: ci) (.v (.bool (ia c))))
  (T4:∀ a b:Nat,a < af.length->b < af.length->bh prog gb (.v (.int .i64 a) :: .v (.int .i64 b) :: cb) (.v (.bool (pb a b)))) :
  bh prog 214 [.pt (y4 af tb lq js) 0,.fn gi [] ci,.fn gb [] cb] (.v (.int .i64 (oz (kO ia pb af.length)))):=by
 have hN:=bz af;have y5:clB 0 0 (.fn gi [] ci)=true:=by simp only [clB,aP];exact ⟨rfl,RP⟩
 have GR:clB 0 0 (.fn gb [] cb)=true:=by simp only [clB,aP];exact ⟨rfl,RQ⟩
 refine eG 57 [.tmp 6] func214 rfl ntmps214 rfl fun _ _ _ _=>?_;refine lJ (fun e=>Lf (y4 af tb lq js) gi gb ci cb (dj af).length (oz (bestA ia pb e)) e) af.length (cL (q5 y5 GR)) ?_;intro e he;refine br ?_ ?_<;>intro hL
 ·have av:e < af.length:=by have:=hL;simp [hN] at this;exact this
  have hs:bestA ia pb (e + 1)=if ia e && AR pb e (bestA ia pb e) then some e else bestA ia pb e:=rfl
  refine cP T1 (Er e av) ?_ ⟨_,_,rfl,rfl,On⟩
  cases hA:bestA ia pb e with
  | none=>
   rw [hA] at hs;refine br ?_ ?_<;>intro g
   ·have g:ia e=true:=by simpa [lastG] using g
    have hz:(e:Int)=oz (bestA ia pb (e + 1)):=by rw [hs,g];all_goals rfl
    exact rE ⟨_,by omega,e + 1,rfl,by omega,rfl⟩ (cL (ML y5 GR (bV av (by omega)) hz))
   ·have g:ia e=false:=by simpa [lastG] using g
    have hz:oz none=oz (bestA ia pb (e + 1)):=by rw [hs,g];all_goals rfl
    exact rE ⟨_,by omega,e + 1,rfl,by omega,rfl⟩ (cL (ML y5 GR (bV av (by omega)) hz))
  | some k=>
   rw [hA] at hs;have hk:=mi hA;refine br ?_ ?_<;>intro g
   ·have g:ia e=true:=by simpa [lastG] using g
    refine cP T3 (T4 e k av (by omega)) ?_ ⟨_,_,rfl,rfl,_,_,rfl,rfl,Oo⟩;refine br ?_ ?_<;>intro g2
    ·have g2:pb e k=true:=by simpa [pickB,g,lastG] using g2
     have hz:(e:Int)=oz (bestA ia pb (e + 1)):=by rw [hs,g,AR,g2];all_goals rfl
     exact rE ⟨_,by omega,e + 1,rfl,by omega,rfl⟩ (cL (ML y5 GR (bV av (by omega)) hz))
    ·have g2:pb e k=false:=by simpa [pickB,g,lastG] using g2
     have hz:oz (some k)=oz (bestA ia pb (e + 1)):=by rw [hs,g,AR,g2];all_goals rfl
     exact rE ⟨_,by omega,e + 1,rfl,by omega,rfl⟩ (cL (ML y5 GR (bV av (by omega)) hz))
   ·have g:ia e=false:=by simpa [lastG] using g
    have hz:oz (some k)=oz (bestA ia pb (e + 1)):=by rw [hs,g];all_goals rfl
    exact rE ⟨_,by omega,e + 1,rfl,by omega,rfl⟩ (cL (ML y5 GR (bV av (by omega)) hz))
 ·have bO:e=af.length:=sW hN hL;subst bO;refine lI (fun j st=>∃ e:Nat,st=AS (y4 af tb lq js) gi gb ci cb (dj af).length (oz (bestA ia pb af.length)) e/\e<=af.length/\(∀ o,bestA ia pb af.length=some o->∀ c,c < e->(ia c && !pb o c)=false)/\j=af.length - e) ⟨0,rfl,by omega,fun _ _ c hc=>by omega,rfl⟩ (cL (q5 y5 GR)) ?_;rintro j st ⟨e,rfl,he,gQ,rfl⟩;refine br ?_ ?_<;>intro hL
  ·have av:e < af.length:=by have:=hL;simp [hN] at this;exact this
   cases hA:bestA ia pb af.length with
   | none=>
    exact ⟨AS (y4 af tb lq js) gi gb ci cb (dj af).length (oz none) (e + 1),(cL (MK y5 GR (bV av (by omega)))),af.length - (e + 1),by omega,e + 1,rfl,by omega,(fun _ h=>by cases h),rfl⟩
   | some o=>
    have ho:=mi hA;have gQ:=gQ o hA;refine cP T1 (Er e av) ?_ ⟨_,_,rfl,rfl,On⟩;refine br ?_ ?_<;>intro g
    ·have g:ia e=true:=by simpa [pickB] using g
     refine cP T3 (T4 o e ho av) ?_ ⟨_,_,rfl,rfl,_,_,rfl,rfl,Oo⟩;refine br ?_ ?_<;>intro g2
     ·have g2:pb o e=false:=by simpa [pickB,g,lastG] using g2
      have:kO ia pb af.length=none:=by
       rw [kO,hA];simp only;rw [aj];rw [List.any_eq_true];exact ⟨e,by simpa using av,by simp [g,g2]⟩
      rw [this];exact (rfl:_=_)
     ·have g2:pb o e=true:=by simpa [pickB,g,lastG] using g2
      exact rE ⟨_,by omega,e + 1,rfl,by omega,fun o' rR c hc=>by
       cases rR;rcases q7 hc with hc | rfl
       ·exact gQ c hc
       ·simp [g2],rfl⟩ (cL (MK y5 GR (bV av (by omega))))
    ·have g:ia e=false:=by simpa [pickB] using g
     exact rE ⟨_,by omega,e + 1,rfl,by omega,fun o' rR c hc=>by
       cases rR;rcases q7 hc with hc | rfl
       ·exact gQ c hc
       ·simp [g],rfl⟩ (cL (MK y5 GR (bV av (by omega))))
  ·have bO:e=af.length:=sW hN hL;subst bO
   have:kO ia pb af.length=bestA ia pb af.length:=by
    cases hA:bestA ia pb af.length with
    | none=>rw [kO,hA]
    | some o=>
     rw [kO,hA];simp only;rw [ah];rw [List.any_eq_true];rintro ⟨c,hc,h2⟩;rw [gQ o hA c (sU hc)] at h2;cases h2
   rw [this];exact (rfl:_=_)
theorem nj (js:List Int) (bx:List (List DV)) (N n m:Nat):CcL bx N n m (cZ js) (cZ js):=by
 induction js with
 | nil=>exact rfl
 | cons z r ih=>exact ⟨_,_,rfl,rfl,ih⟩
theorem py {n m:Nat} {tk:List TkE} (js:List Int):WeL n m tk (cZ js) (cZ js):=uk _ fun x hx=>by
 obtain ⟨z,_,rfl⟩:=List.mem_map.1 hx;exact ⟨_,rfl⟩
theorem Lg (f:Nat->Nat) (js:List Int):renL f (cZ js)=cZ js:=by
 induction js with
 | nil=>rfl
 | cons z r ih=>simp only [cZ,List.map_cons,renL,renD] at ih ⊢;rw [ih]
theorem Lh (js:List Int):(cZ js).length=js.length:=by simp [cZ]
theorem Fb (js:List Int) (i:Nat) (z:Int):(cZ js).set i (.v (.int .i64 z))=cZ (js.set i z):=by simp [cZ,List.map_set]
abbrev fk (af:List ByteArray) (tc:List DV) (rows:List Nat) (js:List Int):List DV:=y4 af (.pt tc 0) (jx rows) js
theorem HQ (af:List ByteArray) (tc:List DV) (rows:List Nat) (js:List Int):(fk af tc rows js).length=js.length + 3:=by simp [y4,cZ]
theorem oL {af:List ByteArray} {tc:List DV} {rows:List Nat} {js:List Int} {i k:Nat} {z:Int} (h:k=i + 3):(fk af tc rows js).set k (.v (.int .i64 z))=fk af tc rows (js.set i z):=by grind [y4,Fb]
theorem HR (f:Nat->Nat) (af:List ByteArray) (tc:List DV) (rows:List Nat) (js:List Int):renL f (fk af tc rows js)=fk af tc rows js:=by
 simp only [y4,renL,Lg];rfl
theorem AU {n m:Nat} {tk:List TkE} {l:List DV} {af:List ByteArray} {tc:List DV} {rows:List Nat} {js:List Int} (h:l=fk af tc rows js):WeL n m tk l (fk af tc rows js):=by
 subst h;exact ⟨_,_,rfl,au rfl,_,_,rfl,au rfl,_,_,rfl,au rfl,py js⟩
def fx (f:Nat->Nat->Bool) (n a b:Nat):Option Nat:=kO (fun c=>f a c && f b c) f n
def fO (f:Nat->Nat->Bool) (n a b:Nat):Option Nat:=kO (fun c=>f c a && f c b) (fun x y=>f y x) n
theorem qf (f:Nat->Nat->Bool) (n a b:Nat):fx f n a b=fx f n b a:=by grind [fx]
theorem qg (f:Nat->Nat->Bool) (n a b:Nat):fO f n a b=fO f n b a:=by grind [fO]
def jS (f:Nat->Nat->Bool) (n a b:Nat):Bool:=(fx f n a b).isNone || (fO f n a b).isNone
def mj (f:Nat->Nat->Bool) (n b:Nat):Bool:=(List.range (b + 1)).any fun a=>jS f n a b
def JM (f:Nat->Nat->Bool) (n:Nat) (js:List Int) (a b:Nat):Prop:=js[a * 32 + b]? = some (oz (fx f n a b))/\js[1024 + (a * 32 + b)]? = some (oz (fO f n a b))
def rC (js:List Int) (a b:Nat) (j m:Int):List Int:=(((js.set (a * 32 + b) j).set (b * 32 + a) j).set (1024 + (a * 32 + b)) m).set (1024 + (b * 32 + a)) m
theorem Fc (js:List Int) (a b:Nat) (j m:Int):(rC js a b j m).length=js.length:=by simp [rC]
theorem lk {js:List Int} {i k:Nat} {z:Int} (h:k≠i):(js.set k z)[i]? = js[i]?:=List.getElem?_set_ne h
theorem AV {f:Nat->Nat->Bool} {n:Nat} {js:List Int} (hl:js.length=2048) {a b:Nat} (ha:a < 32) (hb:b < 32) {x y:Nat} (hx:x < 32) (hy:y < 32)
  (h:JM f n js x y∨(x=a/\y=b)∨(x=b/\y=a)):JM f n (rC js a b (oz (fx f n a b)) (oz (fO f n a b))) x y:=by
 have key:(x=a/\y=b)∨(x=b/\y=a)∨(JM f n js x y/\¬ (x=a/\y=b)/\¬ (x=b/\y=a)):=by grind
 rcases key with ⟨rfl,rfl⟩ | ⟨rfl,rfl⟩ | ⟨h,h1,h2⟩
 ·grind [JM,rC,lk]
 ·grind [JM,rC,qf,qg,lk]
 ·grind [JM,rC,lk]
abbrev JD (af:List ByteArray) (tc:List DV) (rows:List Nat) (js:List Int) (e:Nat):St:=
 ⟨[aS 1 1,aS 3 2,aS 4 3,aA 15 ((dj af).length),aA 16 e],
  [fk af tc rows js,[.loc 0 0],[.fn 211 [] [.loc 1 0]],[.fn 213 [] [.loc 1 0]]],[]⟩
abbrev y6 (af:List ByteArray) (tc:List DV) (rows:List Nat) (js:List Int) (e f:Nat):St:=
 ⟨[aS 1 1,aS 3 2,aS 4 3,aA 15 ((dj af).length),aA 16 e,aS 5 4,aS 6 5],
  [fk af tc rows js,[.loc 0 0],[.fn 211 [] [.loc 1 0]],[.fn 213 [] [.loc 1 0]],[.v (.int .i64 e)],[.v (.int .i64 f)]],[]⟩
abbrev Fe (af:List ByteArray) (tc:List DV) (rows:List Nat) (js:List Int) (e f:Nat):St:=
 ⟨[aS 1 1,aS 3 2,aS 4 3,aA 15 ((dj af).length),aA 16 e,aS 5 4,aS 6 6],
  [fk af tc rows js,[.loc 0 0],[.fn 211 [] [.loc 1 0]],[.fn 213 [] [.loc 1 0]],[.v (.int .i64 e)],[.v (.int .i64 f)],[.v (.int .i64 (f + 1:Nat))]],[]⟩
abbrev Ff (af:List ByteArray) (tc:List DV) (rows:List Nat) (js:List Int) (e f:Nat):St:=
 ⟨[aS 1 1,aS 3 2,aS 4 3,aA 15 ((dj af).length),aA 16 e,aS 5 4,aS 6 5],
  [fk af tc rows js,[.loc 0 0],[.fn 211 [] [.loc 1 0]],[.fn 213 [] [.loc 1 0]],[.v (.int .i64 e)],[.v (.int .i64 (f + 1:Nat))],[.v (.int .i64 f)]],[]⟩
theorem HS (af:List ByteArray) (tc:List DV) (rows:List Nat) (js:List Int) (e f:Nat):Fe af tc rows js e f=ch 5 6 (Ff af tc rows js e f):=by
 simp only [ch,renO,HR];rfl
def RR (af:List ByteArray) (tc:List DV) (rows:List Nat) (r:DV) (os:List (List DV)) (_:List TkE):Prop:=
 ∃ Li,os=[fk af tc rows Li]/\Li.length=2048/\r = .v (.int .i64 (oz (bq (mj (aM rows) af.length) af.length))) /\
  (bq (mj (aM rows) af.length) af.length=none->∀ x y,x < af.length->y < af.length->JM (aM rows) af.length Li x y)
theorem wF (af:List ByteArray) (tc:List DV) (rows:List Nat) (js:List Int) (hr:de rows) (hlen:rows.length=af.length) (hn:af.length<=32) (hj:js.length=2048) :
  Ev prog 130 [.loc 0 0] [fk af tc rows js] [] (RR af tc rows):=by
 have hN:=bz af;refine eG 73 [.tmp 2] func130 rfl ntmps130 rfl fun _ _ _ _=>?_;refine lI (fun j st=>∃ (e:Nat) (js:List Int),st=JD af tc rows js e/\e<=af.length/\js.length=2048/\(∀ b,b < e->mj (aM rows) af.length b=false)/\(∀ x y,x < e->y < e->JM (aM rows) af.length js x y)/\j=af.length - e) ⟨0,js,rfl,by omega,hj,fun _ h=>by omega,fun _ _ h=>by omega,rfl⟩ (jy 4 BC tU) ?_;rintro j st ⟨e,js,rfl,he,hj,gQ,mE,rfl⟩;refine br ?_ ?_<;>intro hL
 ·have av:e < af.length:=by have:=hL;simp [hN] at this;exact this
  refine Le (fun j st=>∃ (f:Nat) (js:List Int),st=y6 af tc rows js e f/\f<=e + 1/\js.length=2048/\(∀ a,a < f->jS (aM rows) af.length a e=false)/\(∀ x y,x < e->y < e->JM (aM rows) af.length js x y)/\(∀ x,x < f->JM (aM rows) af.length js x e/\JM (aM rows) af.length js e x)/\j=e + 1 - f) (e + 1) (y6 af tc rows js e 0) (.La (jy 6 BC tU)) ⟨0,js,rfl,by omega,hj,fun _ h=>by omega,mE,fun _ h=>by omega,by omega⟩ ?_;clear mE hj;rintro j st ⟨f,js,rfl,hf,hj,Pw,mE,JE,rfl⟩;refine br ?_ ?_<;>intro JF
  ·have IW:f<=e:=by have:=JF;simp at this;exact this
   have mR:=sH af (.pt tc 0) (jx rows) js 215 211 Nj Ea
    [.pt [JB (fk af tc rows js)] 0,.pt [.v (.int .i64 f)] 0,.pt [.v (.int .i64 e)] 0] [.pt [.pt (fk af tc rows js) 0] 0] (fun c=>aM rows f c && aM rows e c) (aM rows) ax ax rfl rfl (by omega)
    (fun c hc=>Ci af (.pt tc 0) rows js hr f e c (by omega) (by omega) (by omega)) (fun a b ha hb=>nh af (.pt tc 0) rows js hr a b (by omega) (by omega))
   have kR:=sH af (.pt tc 0) (jx rows) js 216 213 Nk Eb
    [.pt [JC (fk af tc rows js)] 0,.pt [.v (.int .i64 f)] 0,.pt [.v (.int .i64 e)] 0] [.pt [.pt (fk af tc rows js) 0] 0] (fun c=>aM rows c f && aM rows c e) (fun x y=>aM rows y x) ax ax rfl rfl (by omega)
    (fun c hc=>Cj af (.pt tc 0) rows js hr f e c (by omega) (by omega) (by omega)) (fun a b ha hb=>ni af (.pt tc 0) rows js hr a b (by omega) (by omega))
   refine na Jb mR (by repeat' (first | exact rfl | exact trivial | exact Or.inr (Or.inl ⟨_,rfl⟩) | exact Or.inr ⟨_,rfl⟩ | exact Or.inl ⟨rfl,rfl⟩ | exact Or.inl rfl | refine Or.inr ⟨_,_,rfl,Nat.zero_le _,rfl,?_⟩ | refine ⟨_,_,rfl,?_,?_⟩ | refine ⟨_,rfl,?_⟩ | exact nj _ _ _ _ _ | refine Or.inr (Or.inr (Or.inr ⟨_,_,rfl,?_⟩)) | exact Or.inl rfl | refine Or.inr ?_)) rfl ?_;refine na Jb kR (by repeat' (first | exact rfl | exact trivial | exact Or.inr (Or.inl ⟨_,rfl⟩) | exact Or.inr ⟨_,rfl⟩ | exact Or.inl ⟨rfl,rfl⟩ | exact Or.inl rfl | refine Or.inr ⟨_,_,rfl,Nat.zero_le _,rfl,?_⟩ | refine ⟨_,_,rfl,?_,?_⟩ | refine ⟨_,rfl,?_⟩ | exact nj _ _ _ _ _ | refine Or.inr (Or.inr (Or.inr ⟨_,_,rfl,?_⟩)) | exact Or.inl rfl | refine Or.inr ?_)) rfl ?_
   have Oq:pickB (decide (oz (fx (aM rows) af.length f e) = -1)) true (decide (oz (fO (aM rows) af.length f e) = -1))=jS (aM rows) af.length f e:=by
    unfold jS
    cases fx (aM rows) af.length f e with
    | none=>rfl
    | some j=>
     have:decide (oz (some j) = -1)=false:=by simp [oz]
     rw [this]
     cases fO (aM rows) af.length f e with
     | none=>rfl
     | some m=>
      have:decide (oz (some m) = -1)=false:=by simp [oz]
      rw [this];rfl
   refine br ?_ ?_<;>intro g
   ·have g:jS (aM rows) af.length f e=true:=Oq.symm.trans g;have hb:mj (aM rows) af.length e=true:=by grind [mj]
    have u5:=cQ (p:=mj (aM rows) af.length) av hb gQ;refine ⟨.v (.int .i64 e),[fk af tc rows js],ax,(by repeat' (first | exact rfl | exact trivial | exact Or.inr (Or.inl ⟨_,rfl⟩) | exact Or.inr ⟨_,rfl⟩ | exact Or.inl ⟨rfl,rfl⟩ | exact Or.inl rfl | refine Or.inr ⟨_,_,rfl,Nat.zero_le _,rfl,?_⟩ | refine ⟨_,_,rfl,?_,?_⟩ | refine ⟨_,rfl,?_⟩ | exact nj _ _ _ _ _ | refine Or.inr (Or.inr (Or.inr ⟨_,_,rfl,?_⟩)) | exact Or.inl rfl | refine Or.inr ?_)),js,rfl,hj,?_,fun h=>by rw [u5] at h;cases h⟩;rw [u5];rfl
   ·have g:jS (aM rows) af.length f e=false:=Oq.symm.trans g;refine cy [0] (fun _=>false) mo (by decide +kernel) ?_;have sn:=HQ af tc rows js;refine ⟨⟨by omega,by omega⟩,?_⟩;refine ⟨⟨by omega,by omega⟩,?_⟩;refine ⟨by rw [sn];omega,?_⟩;refine ⟨⟨by omega,by omega⟩,?_⟩;refine ⟨⟨by omega,by omega⟩,?_⟩;refine ⟨by rw [List.length_set,sn];omega,?_⟩;refine cy [0] (fun _=>false) mo (by decide +kernel) ?_;refine ⟨⟨by omega,by omega⟩,?_⟩;refine ⟨⟨by omega,by omega⟩,?_⟩;refine ⟨by rw [List.length_set,List.length_set,sn];omega,?_⟩;refine ⟨⟨by omega,by omega⟩,?_⟩;refine ⟨⟨by omega,by omega⟩,?_⟩;refine ⟨by rw [List.length_set,List.length_set,List.length_set,sn];omega,?_⟩
    have fI:((((fk af tc rows js).set (0 + 0 + 3 + (f:Int).toNat * 32 + (e:Int).toNat * 1) (DV.v (.int .i64 (oz (fx (aM rows) af.length f e))))).set (0 + 0 + 3 + (e:Int).toNat * 32 + (f:Int).toNat * 1) (DV.v (.int .i64 (oz (fx (aM rows) af.length f e))))).set (0 + 0 + 1027 + (f:Int).toNat * 32 + (e:Int).toNat * 1) (DV.v (.int .i64 (oz (fO (aM rows) af.length f e))))).set (0 + 0 + 1027 + (e:Int).toNat * 32 + (f:Int).toNat * 1) (DV.v (.int .i64 (oz (fO (aM rows) af.length f e))))=fk af tc rows (rC js f e (oz (fx (aM rows) af.length f e)) (oz (fO (aM rows) af.length f e))):=by
     rw [oL (i:=f * 32 + e) (by omega),oL (i:=e * 32 + f) (by omega),oL (i:=1024 + (f * 32 + e)) (by omega),oL (i:=1024 + (e * 32 + f)) (by omega)];rfl
    refine ⟨y6 af tc rows (rC js f e (oz (fx (aM rows) af.length f e)) (oz (fO (aM rows) af.length f e))) e (f + 1),
     .trans (.La (s2:=Fe af tc rows (rC js f e (oz (fx (aM rows) af.length f e)) (oz (fO (aM rows) af.length f e))) e f) (jy 7 (by repeat' (first | exact rfl | exact au rfl | exact AU fI | exact az (bV (n:=e + 1) (by omega) (by omega)) | refine ⟨_,_,rfl,?_,?_⟩)) (by repeat' (first | exact trivial | exact au rfl | exact AU fI | exact az (bV (n:=e + 1) (by omega) (by omega)) | refine ⟨⟨_,rfl,?_⟩,?_⟩))))
      (.trans (.yA 5 6 (Ff af tc rows (rC js f e (oz (fx (aM rows) af.length f e)) (oz (fO (aM rows) af.length f e))) e f) _ (HS _ _ _ _ _ _) rfl rfl rfl rfl) (.La (jy 6 BC tU))),
     e + 1 - (f + 1),by omega,f + 1,_,rfl,by omega,by rw [Fc];exact hj,fun a ha=>?_,fun x y hx hy=>?_,fun x hx=>?_,rfl⟩
    ·grind
    ·grind [AV]
    ·grind [AV]
  ·have IW:f=e + 1:=by have:=JF;simp at this;omega
   subst IW;have hb:mj (aM rows) af.length e=false:=by grind [mj]
   refine ⟨JD af tc rows js (e + 1),(jy 4 (GK (bV av (by omega))) (iG (bV av (by omega)))),af.length - (e + 1),by omega,e + 1,js,rfl,by omega,hj,fun b ee=>?_,fun x y hx hy=>?_,rfl⟩
   ·grind
   ·grind
 ·have bO:e=af.length:=sW hN hL;subst bO;refine ⟨.v (.int .i64 (-1)),[fk af tc rows js],ax,(by repeat' (first | exact rfl | exact trivial | exact Or.inr (Or.inl ⟨_,rfl⟩) | exact Or.inr ⟨_,rfl⟩ | exact Or.inl ⟨rfl,rfl⟩ | exact Or.inl rfl | refine Or.inr ⟨_,_,rfl,Nat.zero_le _,rfl,?_⟩ | refine ⟨_,_,rfl,?_,?_⟩ | refine ⟨_,rfl,?_⟩ | exact nj _ _ _ _ _ | refine Or.inr (Or.inr (Or.inr ⟨_,_,rfl,?_⟩)) | exact Or.inl rfl | refine Or.inr ?_)),js,rfl,hj,?_,fun _=>mE⟩;rw [dC gQ];rfl
def Mf (l:List Wd) (k:Nat):Int:=((l[k]?).getD (⟨al,0⟩:Wd)).a
def latF (l:List Wd) (o:List (Wd × Wd)):Ft:=
 if (ir l o).1≠0 then ir l o
 else if (enumL l 0 l).1≠0 then enumL l 0 l
 else if (numF (aw l) o).1≠0 then numF (aw l) o
 else match bq (qb l.length (gN l.length (fg (aw l) o))) l.length with
  | some a=>(11,Mf l a)
  | none=>
   match bq (mj (gN l.length (fg (aw l) o)) l.length) l.length with
   | some b=>(12,Mf l b)
   | none=>(0,0)
def Lj (l:List Wd) (o:List (Wd × Wd)) (d:DV):Prop:=
 ∃ ay js,eT (aw l) ay/\ay.length<=l.length/\js.length=2048/\(∀ x y,x < l.length->y < l.length->JM (gN l.length (fg (aw l) o)) l.length js x y) /\
  d = .pt (fk (aw l) (bW (aw l) ay) (closeR (dM l.length (fg (aw l) o)) l.length) js) 0
def y7 (l:List Wd) (o:List (Wd × Wd)) (r:DV) (_:List (List DV)) (_:List TkE):Prop:=
 if (latF l o).1≠0 then r = .cj [.v (.pointer none),(latF l o).d] else ∃ d,Lj l o d/\r = .cj [d,(latF l o).d]
theorem uv {L:List ByteArray}:∀ {o:List (Wd × Wd)},(numF L o).1=0->Ca L.length (fg L o)
 | [],_=>by intro p hp;simp [fg] at hp
 | q :: r,h=>by
  rw [numF] at h;split at h
  ·cases h
  ·rename_i h1;split at h
   ·cases h
   ·rename_i h2;have ih:=uv (o:=r) h;intro p hp;simp only [fg,List.map_cons,List.mem_cons] at hp;rcases hp with rfl | hp
    ·obtain ⟨a,ha⟩:=Option.ne_none_iff_exists'.1 h1;obtain ⟨b,hb⟩:=Option.ne_none_iff_exists'.1 h2;simp only [K9,ha,hb,Option.getD_some];exact ⟨(dN ha).1,(dN hb).1⟩
    ·exact ih p hp
theorem fy (l:List Wd):(aw l).length=l.length:=by simp [aw]
theorem qh {all:List Wd}:∀ {l:List Wd} {i:Nat},(enumL all i l).1=0->enumL all i l=(0,0)
 | [],_,_=>rfl
 | x :: r,i,h=>by
  rw [enumL] at h ⊢;split at h
  ·rename_i h1;exact (h1 h).elim
  ·rename_i h1;rw [ah h1];exact qh h
theorem sI {L:List ByteArray}:∀ {o:List (Wd × Wd)},(numF L o).1=0->numF L o=(0,0)
 | [],_=>rfl
 | q :: r,h=>by
  rw [numF] at h ⊢;split at h
  ·cases h
  ·rename_i h1;split at h
   ·cases h
   ·rename_i h2;rw [ah h1,ah h2];exact sI h
theorem oM {l:List Wd} {k:Nat} {w:Wd} (h:l[k]? = some w):Mf l k=w.a:=by simp [Mf,h]
theorem Lk (n:Nat):vL (List.replicate n (.int .i64 0))=cZ (List.replicate n 0):=by
 induction n with
 | zero=>rfl
 | succ n ih=>simp only [List.replicate_succ,vL,cZ,List.map_cons] at ih ⊢;rw [ih]
theorem jT {l:List Wd} {o:List (Wd × Wd)} {f:Ft} {os:List (List DV)} {tk:List TkE} (h:latF l o=f) (hf:f.1≠0):y7 l o (.cj [.v (.pointer none),f.d]) os tk:=by
 unfold y7;rw [h,aj hf]
theorem HT {l:List Wd} {o:List (Wd × Wd)} {d:DV} {os:List (List DV)} {tk:List TkE} (h:latF l o=(0,0)) (hd:Lj l o d):y7 l o (.cj [d,Ft.d (0,0)]) os tk:=by grind [y7]
theorem HU (n m:Nat) (af:List ByteArray) (tc:List DV) (rows:List Nat) (js:List Int):clB.clL n m (fk af tc rows js)=true:=by
 have h:∀ l:List Int,clB.clL n m (cZ l)=true:=by
  intro l
  induction l with
  | nil=>rfl
  | cons z r ih=>simp only [cZ,List.map_cons,clB.clL,clB,Bool.true_and] at ih ⊢;exact ih
 simp only [y4,clB.clL,clB,h,jx,Bool.and_self]
theorem wG (l:List Wd) (o:List (Wd × Wd)) (hs:wdsWt l<=1099511627776) (Ah:prsWt o<=1099511627776) :
  Ev prog 61 [.sl 2 (bf l) none,.sl 4 (oy o) none] [] [] (y7 l o):=by
 have yj:=bQ l;have De:=kr o;have ox:=fy l;have hF:=latF.eq_1 l o;refine eG 86 [.tmp 4,.cell 5 26] func61 rfl ntmps61 rfl fun _ _ _ _=>?_;refine cP M7 (Ce l o) ?_;by_cases hm:(ir l o).1≠0
 ·rw [aj hm] at hF;refine br ?_ ?_<;>intro h
  ·refine dS ?_;exact ⟨_,ax,jT (os:=[]) (tk:=[]) hF hm⟩
  ·exfalso;simp at h;exact hm h
 rw [ah hm] at hF;refine br (fun h=>?_) (fun _=>?_)
 ·exfalso;simp at h;exact hm h
 have GO:l ≠ []:=by
  rintro rfl;simp [ir] at hm
 have hl32:l.length<=32:=by grind [ir]
 have ov:=wD l hs;unfold Oe at ov;by_cases hE:(enumL l 0 l).1≠0
 ·rw [ah hE] at ov;rw [aj hE] at hF;refine cP I3 ov ?_;refine br ?_ ?_<;>intro h
  ·refine dS ?_;exact ⟨_,ax,jT (os:=[]) (tk:=[]) hF hE⟩
  ·exfalso;simp at h;exact hE h
 rw [ah hE] at hF;have hE:(enumL l 0 l).1=0:=sU hE;rw [aj hE] at ov;rw [qh hE] at ov;refine cP I3 ov ?_;refine gW D2 rfl (pL (aw l) (by omega)) ax (fun r hr=>?_);obtain ⟨ay,hT,gM,rfl⟩:=hr;have y8:=rB (aw l) ay hT (by omega) o Ah;unfold Og at y8;by_cases hN:(numF (aw l) o).1≠0
 ·rw [ah hN] at y8;rw [aj hN] at hF;refine cP I4 y8 ?_;refine br ?_ ?_<;>intro h
  ·refine dS ?_;exact ⟨_,ax,jT (os:=[]) (tk:=[]) hF hN⟩
  ·exfalso;simp at h;exact hN h
 rw [ah hN] at hF;have hN:(numF (aw l) o).1=0:=sU hN;rw [aj hN] at y8;rw [sI hN] at y8;have hP:=uv hN;rw [ox] at hP;have hPl:(fg (aw l) o).length=o.length:=by simp [fg]
 generalize T5:fg (aw l) o=P at y8 hF hP hPl;refine cP I4 y8 ?_;have hLn:(dj (aw l)).length=l.length:=by rw [bz,ox]
 have hPb:P.length<=1099511627776:=by omega
 have RS:=AM (n:=l.length) (by omega) P hP;have fN:=im l.length P;have hr0:dM l.length P ≠ []:=fun h=>GO (List.eq_nil_of_length_eq_zero (by rw [<- fN,h];rfl));refine cP M8 (B4 l.length (by omega) P hP hPb) ?_ (r9 hLn);have hlo:=yV _ RS hr0;rw [fN,HL (by omega) hP] at hlo
 cases hA:bq (qb l.length (gN l.length P)) l.length with
 | some a=>
  rw [hA] at hlo hF;simp only at hF;have rm:=(ey hA).1;obtain ⟨w,hw⟩:∃ w,l[a]? = some w:=⟨_,gE rm⟩;rw [oM hw] at hF;refine cP I5 hlo ?_;refine dS ?_;refine ⟨kj w,⟨by omega,cz hw⟩,?_⟩;exact ⟨_,ax,jT (os:=[]) (tk:=[]) hF (by simp)⟩
 | none=>
 rw [hA] at hlo hF;simp only at hF;refine cP I5 hlo ?_;have cC:=nV _ RS hr0;rw [fN] at cC;have RT:=ky RS l.length (by omega);have Ot:=ep (dM l.length P) l.length;rw [fN] at Ot;refine cP I6 cC ?_;have nk:(List.replicate 2048 (0:Int)).length=2048:=List.length_replicate
 have bP:CcL [] 0 0 0 (fk (aw l) (bW (aw l) ay) (closeR (dM l.length P) l.length) (List.replicate 2048 0)) (.sl 1 (dj (aw l)) none :: .pt (bW (aw l) ay) 0 :: jx (closeR (dM l.length P) l.length) :: vL (List.replicate 2048 (.int .i64 0))):=by
  refine ⟨_,_,rfl,Or.inr (Or.inl ⟨_,rfl⟩),_,_,rfl,Or.inl rfl,_,_,rfl,Or.inl rfl,?_⟩;rw [Lk];exact nj _ _ _ _ _
 have hbn:=wF (aw l) (bW (aw l) ay) _ (List.replicate 2048 0) RT (by omega) (by omega) nk;refine iT M9 rfl rfl bP ax hbn (fun r os tk h=>?_) (fun r mD h=>?_)
 ·obtain ⟨Li,rfl,_,rfl,_⟩:=h;refine ⟨rfl,fun mD h=>?_⟩;rw [List.mem_singleton.1 h];exact HU _ _ _ _ _ _
 obtain ⟨Li,h1,hj2,hr,mE⟩:=h;simp only [List.cons.injEq,and_true] at h1;subst h1
 have hB:bq (mj (aM (closeR (dM l.length P) l.length)) (aw l).length) (aw l).length=bq (mj (gN l.length P) l.length) l.length:=by
  rw [ox];rfl
 rw [hB] at hr mE
 cases hb:bq (mj (gN l.length P) l.length) l.length with
 | some b=>
  rw [hb] at hr hF;subst hr;simp only at hF;have hbl:=(ey hb).1;obtain ⟨w,hw⟩:∃ w,l[b]? = some w:=⟨_,gE hbl⟩;rw [oM hw] at hF;refine dS ?_;refine ⟨kj w,⟨by simp only [oz];omega,cz hw⟩,?_⟩;exact ⟨_,ax,jT (os:=[]) (tk:=[]) hF (by simp)⟩
 | none=>
  rw [hb] at hr hF;subst hr;simp only at hF;refine ⟨.cj [.pt (fk (aw l) (bW (aw l) ay) (closeR (dM l.length P) l.length) Li) 0,Ft.d (0,0)],(by repeat' (first | exact rfl | exact trivial | exact Or.inr (Or.inl ⟨_,rfl⟩) | exact Or.inr ⟨_,rfl⟩ | exact Or.inl ⟨rfl,rfl⟩ | exact Or.inl rfl | refine Or.inr ⟨_,_,rfl,Nat.zero_le _,rfl,?_⟩ | refine ⟨_,_,rfl,?_,?_⟩ | refine ⟨_,rfl,?_⟩ | exact nj _ _ _ _ _ | refine Or.inr (Or.inr (Or.inr ⟨_,_,rfl,?_⟩)) | exact Or.inl rfl | refine Or.inr ?_)),HT (os:=[]) (tk:=[]) hF ⟨ay,Li,hT,by omega,hj2,?_,by rw [T5]⟩⟩;rw [T5];rw [ox] at mE;exact mE hb
section
variable (af:List ByteArray) (tc:List DV) (rows:List Nat) (js:List Int)
theorem sJ:bh prog 110 [.pt (fk af tc rows js) 0] (.v (.int .i64 af.length)):=by
 refine eG 10 [.tmp 2] func110 rfl ntmps110 rfl fun _ _ _ _=>?_;refine (BD ?_:);rw [bz]
theorem Ck (i:Int):bh prog 199 [.pt (fk af tc rows js) 0,.v (.int .i64 i)] (.v (.bool (decide (0<=i) && decide (i < af.length)))):=by
 refine eG 13 [.tmp 4] func199 rfl ntmps199 rfl fun _ _ _ _=>?_;refine br ?_ ?_<;>intro g
 ·have g:decide (0<=i)=true:=sU g;refine cP D1 (sJ af tc rows js) ?_;refine (dH ?_:);simp [g,pickB]
 ·have g:decide (0<=i)=false:=sU g;refine (dH ?_:);simp [g,pickB]
theorem ml {a:Nat} (h:a < af.length):bh prog 199 [.pt (fk af tc rows js) 0,.v (.int .i64 a)] (.v (.bool true)):=by
 have:=Ck af tc rows js a;have e:(decide (0<=(a:Int)) && decide ((a:Int) < af.length))=true:=by simp [h]
 rw [e] at this;exact this
end
theorem y9 (af:List ByteArray) (ay rows:List Nat) (js:List Int) (s:ByteArray) (hT:eT af ay) (hl:ay.length<=1099511627776) :
  bh prog 47 [.pt (fk af (bW af ay) rows js) 0,.v (.string s)] (E5 (cY af s)):=by
 have h:=ff af ay s hT hl;refine eG 16 [.tmp 4,.tmp 5] func47 rfl ntmps47 rfl fun _ _ _ _=>?_
 cases hx:cY af s with
 | none=>
  rw [hx] at h;refine cP jK h ?_;exact ⟨_,ax,rfl⟩
 | some k=>
  rw [hx] at h;refine cP jK h ?_;exact ⟨_,ax,rfl⟩
theorem wH {l:List DV} {k b:Nat} {x:DV} (hb:b < 32) (h:l[k + b]? = some x):(((l.drop k).take 32).drop b).take 1=[x]:=by
 have h1:((l.drop k).take 32)[b]? = some x:=by grind
 rw [List.drop_eq_getElem_cons (gS h1).1]
 grind
section
variable (af:List ByteArray) (tc:List DV) (rows:List Nat) (js:List Int)
theorem za (a b:Nat) (z:Int) (ha:a < af.length) (hb:b < af.length) (hn:af.length<=32) (hz:js[a * 32 + b]? = some z) :
  bh prog 217 [.pt (fk af tc rows js) 0,.v (.int .i64 a),.v (.int .i64 b)] (.v (.int .i64 z)):=by
 refine eG 25 [.tmp 6] func217 rfl ntmps217 rfl fun _ _ _ _=>?_;refine cP Ay (ml af tc rows js ha) ?_;refine cP Ay (ml af tc rows js hb) ?_;refine ⟨_,⟨⟨by omega,by omega⟩,rfl⟩,?_⟩;refine ⟨_,⟨⟨by omega,by omega⟩,wH (x:=.v (.int .i64 z)) (by omega) ?_⟩,?_⟩
 ·grind [y4,cZ]
 exact (rfl:_=_)
theorem zb (a b:Nat) (z:Int) (ha:a < af.length) (hb:b < af.length) (hn:af.length<=32) (hz:js[1024 + (a * 32 + b)]? = some z) :
  bh prog 111 [.pt (fk af tc rows js) 0,.v (.int .i64 a),.v (.int .i64 b)] (.v (.int .i64 z)):=by
 refine eG 25 [.tmp 6] func111 rfl ntmps111 rfl fun _ _ _ _=>?_;refine cP Ay (ml af tc rows js ha) ?_;refine cP Ay (ml af tc rows js hb) ?_;refine ⟨_,⟨⟨by omega,by omega⟩,rfl⟩,?_⟩;refine ⟨_,⟨⟨by omega,by omega⟩,wH (x:=.v (.int .i64 z)) (by omega) ?_⟩,?_⟩
 ·grind [y4,cZ]
 exact (rfl:_=_)
end
theorem sK {ia:Nat->Bool} {pb:Nat->Nat->Bool}:∀ {e k:Nat},bestA ia pb e=some k->ia k=true
 | 0,k,h=>by cases h
 | e + 1,k,h=>by
  rw [bestA] at h;split at h
  ·grind
  ·exact sK h
theorem qi {ia:Nat->Bool} {pb:Nat->Nat->Bool} {n k:Nat} (h:kO ia pb n=some k):k < n/\ia k=true/\∀ c,c < n->ia c=true->pb k c=true:=by grind [kO,mi,sK]
structure jU (f:Nat->Nat->Bool) (n:Nat):Prop where
 pos:0 < n
 rfl':∀ a,a < n->f a a=true
 tr:∀ a b c,a < n->b < n->c < n->f a b=true->f b c=true->f a c=true
 Ou:∀ a b,a < n->b < n->f a b=true->f b a=true->a=b
 jn:∀ a b,a < n->b < n->∃ k,fx f n a b=some k
 mt:∀ a b,a < n->b < n->∃ k,fO f n a b=some k
theorem zc {f:Nat->Nat->Bool} {n a b k:Nat} (h:fx f n a b=some k):k < n/\f a k=true/\f b k=true/\∀ c,c < n->f a c=true->f b c=true->f k c=true:=by
 obtain ⟨h1,h2,h3⟩:=qi h
 grind
theorem ll {f:Nat->Nat->Bool} {n a b k:Nat} (h:fO f n a b=some k):k < n/\f k a=true/\f k b=true/\∀ c,c < n->f c a=true->f c b=true->f c k=true:=by
 obtain ⟨h1,h2,h3⟩:=qi h
 grind
def nW (f:Nat->Nat->Bool) (l:List Nat) (c:Nat):Bool:=l.all fun i=>f i c
def Fg (f:Nat->Nat->Bool) (n:Nat) (l:List Nat) (c:Nat):Bool:=nW f l c && (List.range n).all fun d=>!nW f l d || f c d
def gH (f:Nat->Nat->Bool) (n:Nat) (l:List Nat):Option Nat:=bq (Fg f n l) n
theorem jV {f:Nat->Nat->Bool} {n:Nat} {l:List Nat} {c:Nat}:Fg f n l c=true↔nW f l c=true/\∀ d,d < n->nW f l d=true->f c d=true:=by grind [Fg,nW]
theorem sL {f:Nat->Nat->Bool} {n:Nat} (hL:jU f n) {l:List Nat} {c:Nat} (hc:c < n) (h:Fg f n l c=true):gH f n l=some c:=by
 refine cQ hc h fun a ha=>?_;cases h2:Fg f n l a
 ·rfl
 ·obtain ⟨h3,h4⟩:=jV.1 h;obtain ⟨h5,h6⟩:=jV.1 h2;have:=hL.Ou a c (by omega) hc (h6 c hc h3) (h4 a (by omega) h5);omega
theorem lm {f:Nat->Nat->Bool} {n c:Nat} (hL:jU f n) (hc:c < n) (h:∀ d,d < n->f c d=true):gH f n []=some c:=
 sL hL hc (jV.2 ⟨rfl,fun d hd _=>h d hd⟩)
theorem nX {f:Nat->Nat->Bool} {n c k i:Nat} {l:List Nat} (hL:jU f n) (hl:∀ x∈l,x < n) (hi:i < n) (h:gH f n l=some c) (hk:fx f n c i=some k):gH f n (l ++ [i])=some k:=by
 obtain ⟨h1,h2,_⟩:=ey h;obtain ⟨h3,h4⟩:=jV.1 h2;obtain ⟨g1,g2,g3,g4⟩:=zc hk;simp only [nW,List.all_eq_true] at h3;refine sL hL g1 (jV.2 ⟨?_,fun d hd ho=>?_⟩)
 ·simp only [nW,List.all_eq_true,List.mem_append,List.mem_singleton];rintro x (hx | rfl)
  ·exact hL.tr x c k (hl x hx) h1 g1 (h3 x hx) g2
  ·exact g3
 ·grind [nW]
theorem np {f:Nat->Nat->Bool} {n c:Nat} {l:List Nat} (h:gH f n l=some c):c < n:=(ey h).1
abbrev JG (L:List DV) (n b e:Nat):St:=
 ⟨[ry 0 L,aA 3 b,aA 9 n,aA 10 e],[],[]⟩
theorem uw (af:List ByteArray) (tc:List DV) (rows:List Nat) (js:List Int) {f:Nat->Nat->Bool} (hL:jU f af.length) (hn:af.length<=32) (hj:∀ x y,x < af.length->y < af.length->JM f af.length js x y) :
  bh prog 46 [.pt (fk af tc rows js) 0] (.v (.int .i64 (oz (gH f af.length [])))):=by
 have hlen:=sJ af tc rows js;have mQ:=hL.pos;refine eG 19 [.tmp 2] func46 rfl ntmps46 rfl fun _ _ _ _=>?_;refine cP D1 hlen ?_;refine br ?_ ?_<;>intro g
 ·exfalso;simp at g;simp [g] at mQ
 refine cP D1 hlen ?_;refine lI (fun j st=>∃ e b:Nat,st=JG (fk af tc rows js) af.length b e/\e<=af.length/\b < af.length/\(∀ x,x < e->f b x=true)/\j=af.length - e) ⟨0,0,rfl,by omega,by omega,fun _ h=>by omega,rfl⟩ (cL wB) ?_;rintro j st ⟨e,b,rfl,he,hb,jv,rfl⟩;refine br ?_ ?_<;>intro RU
 ·have av:e < af.length:=by have:=RU;simp at this;exact this
  obtain ⟨k,hk⟩:=hL.mt b e hb av;obtain ⟨g1,g2,g3,g4⟩:=ll hk;have hz:=(hj b e hb av).2;rw [hk] at hz;refine cP M6 (zb af tc rows js b e k hb av hn hz) ?_;refine ⟨JG (fk af tc rows js) af.length k (e + 1),(cL (iG (bV av (by omega)))),af.length - (e + 1),by omega,e + 1,k,rfl,by omega,g1,fun x hx=>?_,rfl⟩;rcases q7 hx with hx | rfl
  ·exact hL.tr k b x g1 hb (by omega) g2 (jv x hx)
  ·exact g3
 ·have bO:e=af.length:=by have:=RU;simp at this;omega
  subst bO;rw [lm hL hb jv];exact (rfl:_=_)
def labW (L:List ByteArray):List Wd->Ft
 | []=>(0,0)
 | w :: r=>if cY L w.s=none then (17,w.a) else labW L r
def ux (L:List ByteArray) (l:List Wd):List Nat:=l.map fun w=>(cY L w.s).getD 0
def zd (f:Nat->Nat->Bool) (L:List ByteArray) (l:List Wd):Int:=if (labW L l).1=0 then oz (gH f L.length (ux L l)) else 0
def Ll (f:Nat->Nat->Bool) (L:List ByteArray) (l:List Wd):DV:=.cj [.v (.int .i64 (zd f L l)),(labW L l).d]
theorem Cm {L:List ByteArray} {l:List Wd} {e:Nat} {w:Wd} (h:l[e]? = some w):labW L (l.drop e)=if cY L w.s=none then (17,w.a) else labW L (l.drop (e + 1)):=by
 rw [drop_cons h,labW]
theorem sM {L:List ByteArray} {l:List Wd} {e i:Nat} {w:Wd} (h:l[e]? = some w) (hi:cY L w.s=some i):ux L (l.take (e + 1))=ux L (l.take e) ++ [i]:=by
 rw [List.take_add_one,h];simp [ux,hi]
abbrev JH (L:List DV) (l:List Wd) (b e:Nat):St:=
 ⟨[ry 0 L,aS 5 0,aA 6 b,dJ 16 2 (bf l),aA 17 ((bf l).length),aA 18 e],[[.v (.int .i64 0),.v (.int .i64 0)]],[]⟩
theorem Fh (af:List ByteArray) (ay rows:List Nat) (js:List Int) (hT:eT af ay) (gM:ay.length<=1099511627776) {f:Nat->Nat->Bool} (hL:jU f af.length) (hn:af.length<=32) (hj:∀ x y,x < af.length->y < af.length->JM f af.length js x y)
  (l:List Wd) (hs:wdsWt l<=1099511627776) :
  bh prog 133 [.pt (fk af (bW af ay) rows js) 0,.sl 2 (bf l) none] (Ll f af l):=by
 have yj:=bQ l;have Ov:=uw af (bW af ay) rows js hL hn hj
 have nO:∃ b,gH f af.length []=some b:=by
  have:∀ e,e<=af.length->∃ b,b < af.length/\∀ x,x < e->f b x=true:=by
   intro e
   induction e with
   | zero=>intro _;exact ⟨0,hL.pos,fun _ h=>by omega⟩
   | succ e ih=>
    intro he;obtain ⟨b,hb,jv⟩:=ih (by omega);obtain ⟨k,hk⟩:=hL.mt b e hb (by omega);obtain ⟨g1,g2,g3,_⟩:=ll hk;refine ⟨k,g1,fun x hx=>?_⟩;rcases q7 hx with hx | rfl
    ·exact hL.tr k b x g1 hb (by omega) g2 (jv x hx)
    ·exact g3
  obtain ⟨b,hb,jv⟩:=this af.length (bd _);exact ⟨b,lm hL hb jv⟩
 obtain ⟨b0,fI⟩:=nO;rw [fI] at Ov;refine eG 41 [.tmp 4,.cell 5 26] func133 rfl ntmps133 rfl fun _ _ _ _=>?_;refine cP Q0 Ov ?_;refine lI (fun j st=>∃ e b:Nat,st=JH (fk af (bW af ay) rows js) l b e/\e<=l.length/\labW af l=labW af (l.drop e)/\gH f af.length (ux af (l.take e))=some b/\(∀ x∈ux af (l.take e),x < af.length)/\j=l.length - e) ⟨0,b0,rfl,by omega,rfl,fI,by simp [ux],rfl⟩ (cL wB) ?_;rintro j st ⟨e,b,rfl,he,bL,Hz,mY,rfl⟩;have hb:=np Hz;refine br ?_ ?_<;>intro Ow
 ·have av:e < l.length:=by simpa [aE] using Ow
  obtain ⟨w,hw⟩:=gX av;have bo:=Cm (L:=af) hw;have y5:=y9 af ay rows js w.s hT gM;refine ⟨kj w,⟨by omega,cz hw⟩,?_⟩
  cases hx:cY af w.s with
  | none=>
   rw [hx] at y5;refine cP M1 y5 ?_;rw [aj hx] at bo;have h1:labW af l=(17,w.a):=bL.trans bo;refine dS ?_;refine ⟨_,?_,rfl⟩;rw [Ll,zd,h1,ah (by simp)];exact ax
  | some i=>
   rw [hx] at y5;refine cP M1 y5 ?_;rw [ah (by rw [hx];simp)] at bo;have hi:=(dN hx).1;obtain ⟨k,hk⟩:=hL.jn b i hb hi;have hz:=(hj b i hb hi).1;rw [hk] at hz;refine cP Nl (za af (bW af ay) rows js b i k hb hi hn hz) ?_;refine ⟨JH (fk af (bW af ay) rows js) l k (e + 1),(cL (iG (bV av (by omega)))),l.length - (e + 1),by omega,e + 1,k,rfl,by omega,bL.trans bo,?_,?_,rfl⟩
   ·rw [sM hw hx];exact nX hL mY hi Hz hk
   ·rw [sM hw hx];intro x hm;rcases List.mem_append.1 hm with hm | hm
    ·exact mY x hm
    ·rw [List.mem_singleton.1 hm];exact hi
 ·have bO:e=l.length:=by
   have:=Ow;simp [aE] at this;omega
  subst bO;rw [List.drop_length] at bL;rw [List.take_length] at Hz;have h1:labW af l=(0,0):=bL;refine ⟨_,?_,rfl⟩;rw [Ll,zd,h1,aj rfl,Hz];exact ax
def ze (x:Ft × Int) (r:DV) (os:List (List DV)) (_:List TkE):Prop:=
 r=x.1.d/\∃ z:Int,os=[[.v (.int .i64 z)]]/\(x.1.1=0->z=x.2)
theorem jf {x:Ft × Int}:∀ r os tk,ze x r os tk->clB 0 0 r=true/\∀ mD∈os,clB.clL 0 0 mD=true:=by
 rintro r os tk ⟨rfl,z,rfl,_⟩;refine ⟨rfl,fun mD h=>?_⟩;simp only [List.mem_singleton] at h;subst h;rfl
def Fi (k:Nat):Prop:=∀ (t:Ty) (depth m:Int),t.wt<=k->t.wt<=1099511627776->0<=depth->depth<=25->0<=m->m<=512 ->
 Ev prog 156 [.loc 0 0,.agg (gd t),.v (.int .i64 depth)] [[.v (.int .i64 m)]] [] (ze (wrong t depth m))
def iu (p:Ph) (t:Ty) (un:Bool) (depth m:Int):Ft × Int:=
 if p.bare=true then (if un=false∨bR p t (lj p) ct=false then ((19,p.name.a),m) else ((0,0),m))
 else if (eo p).1≠0 then (eo p,m)
 else wrong t (depth + 1) m
theorem aW {x:Ft × Int} {f:Ft} {m z:Int} (h:x=(f,m)) (hz:f.1=0->z=m) {tk:List TkE}:ze x f.d [[.v (.int .i64 z)]] tk:=by
 subst h;exact ⟨rfl,z,rfl,hz⟩
theorem zf (k:Nat) (ih:Fi k) (p:Ph) (t:Ty) (un:Bool) (depth m:Int) (hk:t.wt<=k) (hp:p.wt<=1099511627776) (cE:t.wt<=1099511627776) (BO:0<=depth) (vb:depth<=24) (q8:0<=m) (iH:m<=512) :
  Ev prog 287 [.loc 0 0,.agg (Dh p (gd t)),.v (.bool un),.v (.int .i64 depth)] [[.v (.int .i64 m)]] [] (ze (iu p t un depth m)):=by
 have rz:=hp;simp only [Ph.wt] at rz;have vw:=jO p (lj p) t ct hp (by simp only [Ph.wt,lj,wdsWt];omega) (pQ t ct cE (by decide));have Dd:=ih t (depth + 1) m hk cE (by omega) (by omega) q8 iH;obtain ⟨u,us⟩:=t;have RV:=ue p (gd (.mk u us)) (.mk u us) rfl hp;have hS:=iu.eq_def p (.mk u us) un depth m;generalize iu p (.mk u us) un depth m=F at hS ⊢;obtain ⟨nm,bare,lab,wide,ck,cn,ca,cl⟩:=p;simp only at hS rz vw
 cases bare with
 | true=>
  rw [aj rfl] at hS
  cases un with
  | true=>
   refine eG 68 [.cell 8 26] func287 rfl ntmps287 rfl fun _ _ _ _=>?_;refine cP D8 vw ?_;refine br ?_ ?_<;>intro q
   ·have q:bR ⟨nm,true,lab,wide,ck,cn,ca,cl⟩ (.mk u us) (lj ⟨nm,true,lab,wide,ck,cn,ca,cl⟩) ct=false:=by simpa [show (lastG (21,false) [(18,true)]).snd=true from rfl,pickB] using q
    rw [aj (.inr q)] at hS;refine cP cJ (aX 19 nm.a) ?_;exact ⟨_,_,ax,ax,aW (tk:=[]) (f:=(19,nm.a)) hS (fun _=>rfl)⟩
   ·have q:bR ⟨nm,true,lab,wide,ck,cn,ca,cl⟩ (.mk u us) (lj ⟨nm,true,lab,wide,ck,cn,ca,cl⟩) ct=true:=by simpa [show (lastG (21,false) [(18,true)]).snd=true from rfl,pickB] using q
    rw [ah (by simp [q])] at hS;exact ⟨_,_,ax,ax,aW (tk:=[]) (f:=(0,0)) hS (fun _=>rfl)⟩
  | false=>
   refine eG 68 [.cell 8 26] func287 rfl ntmps287 rfl fun _ _ _ _=>?_;rw [aj (.inl rfl)] at hS;refine cP cJ (aX 19 nm.a) ?_;exact ⟨_,_,ax,ax,aW (tk:=[]) (f:=(19,nm.a)) hS (fun _=>rfl)⟩
 | false=>
  rw [ah (by simp)] at hS;refine eG 68 [.cell 8 26] func287 rfl ntmps287 rfl fun _ _ _ _=>?_;refine br ?_ ?_<;>intro hw
  ·have hw:wide < 0∨64 < wide:=by simpa [aF] using hw
   have hP:eo ⟨nm,false,lab,wide,ck,cn,ca,cl⟩=(20,nm.a):=by simp only [eo,aj hw]
   rw [hP,aj (by simp)] at hS;refine cP cJ (aX 20 nm.a) ?_;exact ⟨_,_,ax,ax,aW (tk:=[]) (f:=(20,nm.a)) hS (fun _=>rfl)⟩
  have hw:¬ (wide < 0∨64 < wide):=by simp [aF] at hw;omega
  refine cP vX (fq lab (by omega)) ?_;refine br ?_ ?_<;>intro hb
  ·have hb:(cK lab).1≠0:=sU hb;have hP:eo ⟨nm,false,lab,wide,ck,cn,ca,cl⟩=cK lab:=by simp only [eo,ah hw,aj hb]
   rw [hP,aj hb] at hS;exact ⟨_,_,ax,ax,aW (tk:=[]) (f:=cK lab) hS (fun _=>rfl)⟩
  have hb:(cK lab).1=0:=sU hb;have hP:eo ⟨nm,false,lab,wide,ck,cn,ca,cl⟩=bn ⟨nm,false,lab,wide,ck,cn,ca,cl⟩:=by simp only [eo,ah hw];rw [ah (by simp [hb])]
  rw [hP] at hS;refine cP NI RV ?_;refine br ?_ ?_<;>intro hc
  ·have hc:(bn ⟨nm,false,lab,wide,ck,cn,ca,cl⟩).1≠0:=sU hc;rw [aj hc] at hS;exact ⟨_,_,ax,ax,aW (tk:=[]) (f:=bn ⟨nm,false,lab,wide,ck,cn,ca,cl⟩) hS (fun _=>rfl)⟩
  have hc:(bn ⟨nm,false,lab,wide,ck,cn,ca,cl⟩).1=0:=sU hc;rw [ah (by simp [hc])] at hS;refine iT D6 rfl rfl ax (by repeat' (first | exact rfl | exact trivial | exact Or.inr (Or.inl ⟨_,rfl⟩) | exact Or.inr ⟨_,rfl⟩ | exact Or.inl ⟨rfl,rfl⟩ | exact Or.inl rfl | refine Or.inr ⟨_,_,rfl,Nat.zero_le _,rfl,?_⟩ | refine ⟨_,_,rfl,?_,?_⟩ | refine ⟨_,rfl,?_⟩ | exact congrArg (fun z=>DV.v (.int .i64 z)) (wrap64 (by omega) (by omega)) | refine Or.inr (Or.inr (Or.inr ⟨_,_,rfl,?_⟩)) | exact Or.inl rfl | refine Or.inr ?_)) Dd jf (fun r mD hr=>?_);obtain ⟨rfl,z,hz,vC⟩:=hr;simp only [List.cons.injEq,and_true] at hz;subst hz;exact ⟨_,_,ax,ax,aW (tk:=[]) (f:=(wrong (.mk u us) (depth + 1) m).1) hS vC⟩
end Go.Proofs.YtfdedoiiahbnnaaGreat
