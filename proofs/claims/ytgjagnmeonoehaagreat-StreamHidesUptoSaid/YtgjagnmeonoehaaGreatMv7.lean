/- Part 7 of the proof: Which values may be what is seen of one: the program's fits, Fits, the document's Fits, Seeable; Conditions that are asked of values: plain; Conditions that are asked of values: the program's literal, right, word, numbers; Conditions that are asked of values: the program's plain, floor, units, first; Conditions that are asked of values: the program's step, end; Rules for the evaluator: the library's Builder: WriteByte, WriteString of any text; a call that is handed a Builder; Texts in quotes: plain; numbers in sixteens; Texts in quotes: numbers in sixteens, which runes may steer a terminal; Texts in quotes: short escapes, kinds of runes; Texts in quotes: the unit at a place, as it is written; Texts in quotes: the document's unit; the program's and the document's Quote; Texts in quotes: the program's and the document's Quote; How what is seen of values is written: plain; The library's strings.Repeat, laid at this program by the kit's tool (lay-plain; wip/tools/plain2tpl.py); How values without names are written: the program's and the document's Leaf; How what is seen of values is written: the program's plain, word, of; What is known of values that are written; how long their texts are: plain; tree: walk, Paths; What is different between two values: plain; How what is seen of values is written: the program's write; How what is seen of values is written: Compact; the document's open, end, Text; How what is seen of values is written: the document's Text; what is seen may be written; Documents: plain (as values); the program's Text, Line, Soft, Cat, Nest, Group; The law of what may be seen; What is seen may be written; the example of chapter 33; the laws of Leaf and Compact; The example of chapter 33; the laws of Leaf and Compact: the calls return true; The document of what is seen of a value: plain, and the program's; What is different between two values: the program's near, step, to, own; Regions that draw their order, in which two new objects may come in either order; What is different between two values: the program's walk; The program's rows of an audit: step, sees, row; The program's rows of an audit: walk, Rows; How kinds of types, and ways of seeing, are called; The program's rows of an audit: Rows; What is different between two values: the program's Diff; the document's Changes; What is different between two values: the example's texts; What is different between two values: the document's Changes; What is different between two values: the chapter's example; the law of Diff; What is different between two values: the law of Diff; A change is applied: the closure that puts a value in another's place; Rules for the evaluator: a slice literal without elements, its cells known; A clone of values; the closure that lengthens or shortens a list; A change is applied: plain; tree: put, Set; Rules for the evaluator: an element of a row whose cells nobody else knows is written, the state weakened behind it; A change is applied: the program's at; How what stands where a node is seen is written: the program's alike, Kid; Changes lead from one value to the other: plain; What is seen of a view: the program's narrow, the document's Narrow; The program's Narrow, the document's Narrow; the law; Changes lead from one value to the other: plain; A text in quotes, and a value's, is of one line: plain; A change's line; The first edge of a name; The law of what is narrowed; The level above all; what is known of views; the law of the steps of erasing; Steps of a drawn region: elements of rows whose cells nobody else knows, read and written whole; The reference of chapters 15 and 17 on schemas: Placeless, Same, Great; The law of a type's text: the call returns true; The law of schemas without places: the call returns true; What is wrong with a schema without places; the nodes of its plan; Nodes whose edges may be written: slices.Clone, Plan.Node; The law that a plan's edges lead to nodes: rows of edges, with and without places; slices.Reverse of a row of steps that nobody else knows; Alike: the program's sees, edge, step, coarsely, differ; Alike: the program's differ; Alike: the program's both, Differ, Alike; The laws of Alike and Differ; The law of being alike, without the document's answer; What steps lead to unseen, plain; the program's Unseen; Where a change is: its steps go by the edges; Conditions that are asked of values: the program's walk, Eval, All. No condition. -/
import Derived.Shelf.Strings.Repeat
import Derived.Test.YtgjagnmeonoehaaGreatMv2
import Derived.Test.YtgjagnmeonoehaaGreatMv3
import Derived.Test.YtgjagnmeonoehaaGreatMv4
import Derived.Test.YtgjagnmeonoehaaGreatMv5
import Derived.Test.YtgjagnmeonoehaaGreatMv6
set_option linter.all false
set_option maxRecDepth 100000
namespace Go.Proofs.YtgjagnmeonoehaaGreat
open Go Go.RowKit Dv Go.Proofs.Tryz
def edW (w:Int):Ed:=⟨av,false,0,0,0,w,0,0,0,0⟩
theorem XF (w:Int) (d:Nd) (v:Val):iQ (edW w) d v=cX v 9 w av:=by
 rw [mayF_0 (by rintro ⟨h,_⟩;cases h) (by rintro ⟨h,_⟩;cases h) (by rintro ⟨h,_⟩;cases h)];rfl
theorem IG {N:Nat} {ND:List Nd} {d:Nd} (hN:dt N ND.length d) {v:Val} (h:shellF d v=true) (c:d.ag=8) {m:Nat} (hm:m < v.ks.length):(0<=v.n/\v.n < d.aw.length)/\m=0:=by grind [shellF_8]
def kidS (ND:List Nd) (f:Nat->Nat->Bool) (L obs:Nat) (d:Nd) (e:Ed) (a:Nat) (x:Val):Bool:=if kR f L obs d e a=2 then seeV ND f L obs x e.to (gA f L d e a) else if kR f L obs d e a=1 then (match bV ND e.to with | none=>false | some t=>iQ e t x) else cX x 9 e.wide av
theorem Ma {ND:List Nd} {f:Nat->Nat->Bool} {L obs:Nat} {ks:List Val} {d:Nd} {z:Int} {a j m:Nat} {x:Val} {e:Ed} (h:ks[m]? = some x) (he:bH d z j=some e):seeVs ND f L obs (ks.drop m) d z a j=(kidS ND f L obs d e a x && seeVs ND f L obs (ks.drop (m + 1)) d z a (j + 1)):=by
 rw [IB h,he];rfl
abbrev Mb (PC LC:List DV) (obs a:Nat) (v:Val) (d:Nd) (e:Nat):St:=
 ⟨[ay 2 a,aE 4 0,aE 7 1,aE 9 2,bh 38 4 (dVals v.ks),ay 39 ((dVals v.ks).length),ay 40 e],[Vm PC LC obs,aZ v,kO d],[]⟩
theorem tQ {S:Sch} {ND:List Nd} {PC LC:List DV} (hP:eT S ND PC) (hR:pA S.ae.length (aK S) (aA S.ae) LC) (H4:∀ n∈ND,xU n) (bZ:∀ n∈ND,n.aw.length<=1099511627776) (obs:Nat) (ho:obs < S.ae.length) :
  ∀ (k:Nat) (v:Val),v.wt<=k->v.wt<=1099511627776->rngW v->∀ (i a:Nat),a < S.ae.length->i < ND.length ->
   EvP prog 125 [.agg (Vm PC LC obs),.v (.int .i64 i),.v (.int .i64 a),.agg (aZ v)] (.v (.bool (seeV ND (aK S) S.ae.length obs v i a)))
 | 0,v,h,_=>by have:=v.dy;omega
 | k + 1,v,h,hb=>fun hr i a ha hi=>by
  have ih:=tQ hP hR H4 bZ obs ho k;have hL:=hR.ok;obtain ⟨d,hg⟩:∃ d,ND[i]? = some d:=⟨_,gE hi⟩;have hnd:bV ND (i:Int)=some d:=by grind [bV]
  have lP:=mG hg;have hN:=hP.ok d lP;have dE:=hP.ah i d hg;have L8:=bZ d lP;have Qq:=H4 d lP;have Vd:=kg hP _ v (aQ _) hb i;have yX:=fun h5=>FN d v h5 hN.k8 L8 hb;have XG:=fun h5 hs m hm=>sN hN h5 (v:=v) hs (m:=m) hm;have XH:=fun hs c m hm=>IG hN (v:=v) hs c (m:=m) hm
  have hV:seeV ND (aK S) S.ae.length obs v i a=if d.ag < 5 then fitV ND v i else shellF d v && seeVs ND (aK S) S.ae.length obs v.ks d v.n a 0:=by
   obtain ⟨q,z,s,ks⟩:=v;rw [seeV,hnd];rfl
  have hV1:d.ag < 5->seeV ND (aK S) S.ae.length obs v i a=fitV ND v i:=fun c=>by rw [hV,ap c]
  have Th:¬ d.ag < 5->seeV ND (aK S) S.ae.length obs v i a=(shellF d v && seeVs ND (aK S) S.ae.length obs v.ks d v.n a 0):=fun c=>by rw [hV,aj c]
  clear hV;generalize seeV ND (aK S) S.ae.length obs v i a=B at hV1 Th ⊢;generalize fitV ND v i=F at Vd hV1;generalize shellF d v=SH at yX XG XH Th;obtain ⟨vk,vn,vs,ks⟩:=v;have lG:=cG ks;have de:=bl ks;rw [Val.wt] at h hb;have XB:=my hr;simp only [Val.ks,Val.n] at Th XB XG XH;obtain ⟨ag,at',lo,gK,most,af,es⟩:=d;refine eG 90 [.tmp 8] func125 rfl ntmps125 rfl fun _ _ _ _=>?_;refine cP mR dE ?_;refine br ?_ ?_<;>intro c
  ·have c:ag < 5:=sU c;rw [hV1 c];refine cP NF Vd ?_;exact (rfl:_=_)
  have c5:¬ ag < 5:=sU c;have Th:=Th c5;have h5:5<=ag:=by omega
  have yX:=yX h5;refine cP ZN yX ?_
  cases SH with
  | false=>
   rw [Bool.false_and] at Th;rw [Th];exact (rfl:_=_)
  | true=>
   rw [Bool.true_and] at Th;refine lI (fun t st=>∃ e:Nat,st=Mb PC LC obs a (.mk vk vn vs ks) ⟨ag,at',lo,gK,most,af,es⟩ e/\e<=ks.length/\B=seeVs ND (aK S) S.ae.length obs (ks.drop e) ⟨ag,at',lo,gK,most,af,es⟩ vn a e/\t=ks.length - e) ⟨0,rfl,by omega,Th,rfl⟩ (dj 3 pP kj) ?_;rintro t st ⟨e,rfl,he,hE,rfl⟩;refine br ?_ ?_<;>intro nD
   ·have au:e < ks.length:=by simpa [de,Val.ks] using nD
    obtain ⟨x,hx⟩:=gX au;obtain ⟨ed,hK⟩:=XG h5 rfl e au;have hm:=mG hx;have XC:=du hm;have mU:=di XB hm;obtain ⟨h1,t2,h2⟩:=Fp hN hK.mem hK.bare;obtain ⟨_,ML⟩:=bJ h2;have gl:=(gS ML).1;have qM:ed.to=(ed.to.toNat:Nat):=by omega
    have Ti:=H4 t2 (mG ML);have Qw:=hP.ah ed.to.toNat t2 ML;rw [<- qM] at Qw;rw [Ma hx hK.fD] at hE;have kz:=xX hR PC obs a ha ⟨ag,at',lo,gK,most,af,es⟩ (.mk vk vn vs ks) e ed hK.fD hK.mem hN h5 (fun c=>XH rfl c e au) L8;have hU:=Ce hL hN hK.mem ha;have nT:=pG hR PC obs (gA (aK S) S.ae.length ⟨ag,at',lo,gK,most,af,es⟩ ed a) ho hU;have hco:=nS hR PC obs a ho ha ⟨ag,at',lo,gK,most,af,es⟩ ed hN hK.mem;have hcnr:=Qq.2.2 ed hK.mem;have hcn1:=(hN.fD ed hK.mem).cn.2.1;have acM:=AA ed t2 x hcn1 (sJ mU) Ti.1 Ti.2.1 hcnr (by omega);have Qx:=AA (edW ed.wide) t2 x (fun h=>by cases h) (sJ mU) Ti.1 Ti.2.1 ⟨by show (-9223372036854775808:Int)<=0;decide,by show (0:Int)<=9223372036854775807;decide⟩ (by omega);rw [XF] at Qx;have hrec:=ih x (by omega) (by omega) mU ed.to.toNat (gA (aK S) S.ae.length ⟨ag,at',lo,gK,most,af,es⟩ ed a) hU gl;rw [<- qM] at hrec
    have Mc:kidS ND (aK S) S.ae.length obs ⟨ag,at',lo,gK,most,af,es⟩ ed a x=if aK S (gA (aK S) S.ae.length ⟨ag,at',lo,gK,most,af,es⟩ ed a) obs=true then seeV ND (aK S) S.ae.length obs x ed.to (gA (aK S) S.ae.length ⟨ag,at',lo,gK,most,af,es⟩ ed a) else if (decide (ed.ck≠0) && aK S (yD (aK S) S.ae.length a ed.seen.toNat) obs)=true then iQ ed t2 x else cX x 9 ed.wide av:=by
     unfold kidS;rw [Cd,h2];by_cases g1:aK S (gA (aK S) S.ae.length ⟨ag,at',lo,gK,most,af,es⟩ ed a) obs=true
     ·simp only [ap g1,reduceIte]
     ·grind
    generalize kidS ND (aK S) S.ae.length obs ⟨ag,at',lo,gK,most,af,es⟩ ed a x=KS at hE Mc;generalize gA (aK S) S.ae.length ⟨ag,at',lo,gK,most,af,es⟩ ed a=U at kz nT hrec Mc;generalize aK S U obs=b1 at nT Mc;generalize (decide (ed.ck≠0) && aK S (yD (aK S) S.ae.length a ed.seen.toNat) obs)=b2 at hco Mc;generalize seeV ND (aK S) S.ae.length obs x ed.to U=R1 at hrec Mc;generalize iQ ed t2 x=R2 at acM Mc;generalize cX x 9 ed.wide av=R3 at Qx Mc;have LL:KS=false->B=false:=fun h=>by rw [hE,h,Bool.false_and]
    have nc:KS=true->∃ j',j' < ks.length - e/\∃ e',Mb PC LC obs a (.mk vk vn vs ks) ⟨ag,at',lo,gK,most,af,es⟩ (e + 1)=Mb PC LC obs a (.mk vk vn vs ks) ⟨ag,at',lo,gK,most,af,es⟩ e' /\ e' <= ks.length/\B=seeVs ND (aK S) S.ae.length obs (ks.drop e') ⟨ag,at',lo,gK,most,af,es⟩ vn a e' /\ j'=ks.length - e':=fun h=>⟨ks.length - (e + 1),by omega,e + 1,rfl,by omega,by rw [hE,h,Bool.true_and],rfl⟩;obtain ⟨xk,xn,xs,sM⟩:=x;obtain ⟨en,eb,ea,et,q4,ew,eU,ic,rD,iV⟩:=ed;obtain ⟨kind2,at2,lo2,yv,most2,agv,es2⟩:=t2;clear hE;refine iX (cp hx) ?_;refine cP T7 kz ?_;refine cP mR Qw ?_;refine cP NK nT ?_
    cases b1 with
    | true=>
     refine cP T6 hrec ?_
     cases R1 with
     | false=>
      have hB:=LL (by rw [Mc];rfl);rw [hB];exact (rfl:_=_)
     | true=>
      obtain ⟨j',g1,g2⟩:=nc (by rw [Mc];rfl);exact ⟨Mb PC LC obs a (.mk vk vn vs ks) ⟨ag,at',lo,gK,most,af,es⟩ (e + 1),(dj 3 (kH (aN au (by omega))) (cY (aN au (by omega)))),j',g1,g2⟩
    | false=>
     refine cP en141 hco ?_
     cases b2 with
     | true=>
      refine cP Ue acM ?_
      cases R2 with
      | false=>
       have hB:=LL (by rw [Mc];rfl);rw [hB];exact (rfl:_=_)
      | true=>
       obtain ⟨j',g1,g2⟩:=nc (by rw [Mc];rfl);exact ⟨Mb PC LC obs a (.mk vk vn vs ks) ⟨ag,at',lo,gK,most,af,es⟩ (e + 1),(dj 3 (kH (aN au (by omega))) (cY (aN au (by omega)))),j',g1,g2⟩
     | false=>
      refine cP Ue Qx ?_
      cases R3 with
      | false=>
       have hB:=LL (by rw [Mc];rfl);rw [hB];exact (rfl:_=_)
      | true=>
       obtain ⟨j',g1,g2⟩:=nc (by rw [Mc];rfl);exact ⟨Mb PC LC obs a (.mk vk vn vs ks) ⟨ag,at',lo,gK,most,af,es⟩ (e + 1),(dj 3 (kH (aN au (by omega))) (cY (aN au (by omega)))),j',g1,g2⟩
   ·have hge:e=ks.length:=by have:=nD;simp [de,Val.ks] at this;omega
    subst hge;rw [List.drop_length,seeVs] at hE;rw [hE];exact (rfl:_=_)
def uC (ND:List Nd) (f:Nat->Nat->Bool) (n rt:Nat) (o:Int) (v:Val):Bool:=decide (0<=o/\o < n) && seeV ND f n o.toNat v rt (ib f n)
theorem tR {S:Sch} {ND:List Nd} {PC LC:List DV} (hP:eT S ND PC) (ej:EvP prog 72 [.pt PC 0] (.pt LC 0)) (hR:pA S.ae.length (aK S) (aA S.ae) LC) (yW:∀ n∈ND,xU n) (bZ:∀ n∈ND,n.aw.length<=1099511627776) (rt:Nat) (oS:cr S=rt) (eM:rt < ND.length) (o:Int) (v:Val) (hv:v.wt<=1099511627776) (Bn:rngW v) :
  EvP prog 58 [.pt PC 0,.v (.int .i64 o),.agg (aZ v)] (.v (.bool (uC ND (aK S) S.ae.length rt o v))):=by
 have Ey:=x4 ej hR o;have cW:=hP.root;rw [oS] at cW;have qJ:=hR.bot;have hs:=fun (obs:Nat) (ho:obs < S.ae.length)=>tQ hP hR yW bZ obs ho _ v (aQ _) hv Bn rt (ib (aK S) S.ae.length) (u1 hR.ok) eM;have hS:uC ND (aK S) S.ae.length rt o v=(decide (0<=o/\o < S.ae.length) && seeV ND (aK S) S.ae.length o.toNat v rt (ib (aK S) S.ae.length)):=rfl;generalize uC ND (aK S) S.ae.length rt o v=SF at hS ⊢;by_cases ho:0<=o/\o < S.ae.length
 ·obtain ⟨ob,rfl⟩:∃ n:Nat,o=n:=⟨_,(Int.toNat_of_nonneg ho.1).symm⟩;have hs:=hs ob (by omega);rw [show decide (0<=(ob:Int)/\(ob:Int) < (S.ae.length:Int))=true from decide_eq_true ho] at Ey hS;rw [kS,Bool.true_and] at hS;rw [<- hS] at hs;generalize ib (aK S) S.ae.length=bt at qJ hs;obtain ⟨k,n,s,ks⟩:=v;refine eG 26 [.tmp 6] func58 rfl ntmps58 rfl fun _ _ _ _=>?_;refine cP RY Ey ?_;refine dI ?_;refine cD uu cW ?_;refine cD NG qJ ?_;refine cD T6 hs ?_;exact (rfl:_=_)
 ·rw [show decide (0<=o/\o < (S.ae.length:Int))=false from decide_eq_false ho] at Ey hS;rw [Bool.false_and] at hS;rw [hS];obtain ⟨k,n,s,ks⟩:=v;refine eG 26 [.tmp 6] func58 rfl ntmps58 rfl fun _ _ _ _=>?_;refine cP RY Ey ?_;refine dI ?_;exact (rfl:_=_)
structure jf where
 p:List Stp
 op:Int
 lit:Rw
def Rw.k:Rw->Int | .mk k _ _ _ _ _=>k
def Rw.a:Rw->Int | .mk _ a _ _ _ _=>a
def Rw.n:Rw->Int | .mk _ _ n _ _ _=>n
def Rw.s:Rw->ByteArray | .mk _ _ _ s _ _=>s
def Rw.keys:Rw->List Wd | .mk _ _ _ _ l _=>l
def Rw.ks:Rw->List Rw | .mk _ _ _ _ _ l=>l
def rb (c:jf):List DV:=[.sl 3 (cz c.p) none,.v (.int .i64 c.op)] ++ dRw c.lit
def dR (l:List jf):List (List DV):=l.map rb
theorem AB (l:List jf):(dR l).length=l.length:=by simp [dR]
theorem AD {l:List jf} {i:Nat} {c:jf} (h:l[i]? = some c):(dR l)[i]? = some (rb c):=by simp [dR,h]
def Md (r:Rw):Bool:=decide (r.a=0) && (decide (r.keys.length + r.ks.length=0) && (if r.k=2 then decide (r.s=av) else if r.k=3 then decide (r.n=0) else decide (r.k=1) && (decide (r.n=0) && bd r.s)))
def sP (c:jf):Bool:=nO c.p && (decide (1<=c.op) && (decide (c.op<=4) && Md c.lit))
def mJ (b:Bool):Int:=if b=true then 1 else 0
def FR (d:Nd) (u:Val):ByteArray:=
 if u.k=1 then (if u.n=1 then ba [116,114,117,101] else ba [102,97,108,115,101])
 else if u.k=4 then (d.af[u.n.toNat]?).getD av
 else if u.k=8 then (match d.aw[u.n.toNat]? with | some e=>e.name | none=>av)
 else if u.k=6 then (if u.ks=[] then ba [110,111,110,101] else ba [115,111,109,101])
 else av
def FT (lo hi:Int) (c:jf):Int:=
 if c.op=1 then (if c.lit.k≠2∨(c.lit.n < lo∨hi < c.lit.n) then 0 else if lo=hi/\lo=c.lit.n then 1 else 2)
 else if c.op=2 then (if c.lit.k≠2∨c.lit.n<=lo then 0 else if hi < c.lit.n then 1 else 2)
 else if c.op=3 then (if c.lit.k≠2∨hi<=c.lit.n then 0 else if c.lit.n < lo then 1 else 2)
 else 0
def nV (d:Nd) (u:Val) (c:jf):Int:=
 if u.k=2 then FT u.n u.n c
 else if c.op=4 then mJ (decide (u.k=5) && (decide (c.lit.k=2) && decide (c.lit.n=u.ks.length)))
 else if c.op≠1 then 0
 else if u.k=3 then mJ (decide (c.lit.k=3) && decide (c.lit.s=u.s))
 else mJ (decide (c.lit.k=1) && decide (FR d u=c.lit.s))
def IH (a b:Int):Option Int:=if (0 < b/\9223372036854775807 - b < a)∨(b < 0/\a < -9223372036854775808 - b) then none else some (a + b)
def Cv (e:Ed) (td:Nd) (u:Val) (c:jf):Int:=FT (max u.n td.lo) (min ((IH u.n (e.cn - 1)).getD td.hi) td.hi) c
def cntU:Nat->List UInt8->Nat
 | 0,_=>0
 | k + 1,l=>if l=[] then 0 else 1 + cntU k (l.drop (dV l))
def x6:Nd:=⟨0,0,0,0,0,[],[]⟩
def x7 (e:Ed) (u:Val) (c:jf):Int:=
 if (cntU u.s.size (tx u.s):Int) < e.cn then nV x6 (.mk 3 0 u.s []) c
 else if c.op=1/\c.lit.k=3/\headL e.cn.toNat (tx c.lit.s)=tx u.s then 2 else 0
def Qy (d:Nd) (e:Ed) (u:Val) (c:jf):Int:=
 if u.k=9 then 2 else if u.k=10 then Cv e d u c else if u.k=11 then x7 e u c
 else if u.k=12 then mJ (decide (c.op=4) && (decide (c.lit.k=2) && decide (c.lit.n=u.n)))
 else nV d u c
def Cw (x:Val) (j:Nat):Nat:=if x.k=7 then j else if x.k=8 then x.n.toNat else 0
def II (d:Nd) (x:Val) (s:Stp) (j:Nat):Bool:=
 if x.k=7 then decide (s.k=1) && (match d.aw[j]? with | some e=>decide (e.name=s.s) | none=>false)
 else if x.k=8 then decide (s.k=5) && (match d.aw[x.n.toNat]? with | some e=>decide (e.name=s.s) | none=>false)
 else if x.k=5 then decide (s.k=2) && decide (s.n=(j:Int))
 else if x.k=6 then decide (s.k=4) else false
def jv:Ed:=⟨av,false,0,0,0,0,0,0,0,0⟩
def walkQ (ND:List Nd) (c:jf):List Stp->Int->Ed->Val->Int
 | [],i,e,u=>Qy ((bV ND i).getD x6) e u c
 | s :: p,i,_,u=>
  if u.k=9 then 2 else if u.k=12/\s.k=2/\s.n < u.n then 2
  else match bV ND i with
  | none=>0
  | some d=>match bB (II d u s) u.ks.length with
   | none=>0
   | some j=>match u.ks[j]?,d.aw[Cw u j]? with
    | some v,some e=>walkQ ND c p e.to e v
    | _,_=>0
def Kz (ND:List Nd) (f:Nat->Nat->Bool) (n rt:Nat) (o:Int) (x:Val) (c:jf):Int:=
 if sP c=true/\uC ND f n rt o x=true/\(walkV ND f n c.p rt (ib f n)).isSome=true then walkQ ND c c.p rt jv x else 0
def allQ (E:jf->Int):List jf->Int->Int
 | [],out=>out
 | c :: r,out=>if E c=0 then 0 else allQ E r (if E c=2 then 2 else out)
theorem AE (b:Bool):EvP prog 350 [.v (.bool b)] (.v (.int .i64 (mJ b))):=by
 cases b
 all_goals
  refine eG 4 [.tmp 2] func350 rfl ntmps350 rfl fun _ _ _ _=>?_;exact (rfl:_=_)
theorem IJ (r:Rw) (hs:r.s.size<=1099511627776) (hk:r.keys.length + r.ks.length<=1099511627776):EvP prog 314 [.agg (dRw r)] (.v (.bool (Md r))):=by
 have hn:=gv r.s (by omega);obtain ⟨rk,ra,rn,rs,bW,kD⟩:=r;have hF:Md (.mk rk ra rn rs bW kD)=(decide (ra=0) && (decide (bW.length + kD.length=0) && (if rk=2 then decide (rs=av) else if rk=3 then decide (rn=0) else decide (rk=1) && (decide (rn=0) && bd rs)))):=rfl;generalize Md (.mk rk ra rn rs bW kD)=F at hF ⊢;have h1:=aC bW;have h2:=Fh kD;simp only [Rw.s,Rw.keys,Rw.ks] at hn hk
 have hw:IntKind.i64.wrap (((bG bW).length:Int) + (dRws kD).length)=((bW.length + kD.length:Nat):Int):=by
  rw [wrap64 (by omega) (by omega)];omega
 generalize bd rs=b at hn hF;refine eG 41 [.tmp 2] func314 rfl ntmps314 rfl fun _ _ _ _=>?_;refine br ?_ ?_<;>intro g
 ·refine congrArg (fun z=>DV.v (Value.bool z)) ?_;simp only [aq,ai,Bool.or_eq_true,Bool.or_eq_false_iff,aP,Bool.and_eq_false_iff,Bool.not_eq_true',Bool.not_eq_false',decide_eq_true_eq,decide_eq_false_iff_not,hw] at g;rw [hF];rcases g with g | g
  ·rw [decide_eq_false g];all_goals rfl
  ·rw [decide_eq_false (p:=bW.length + kD.length=0) (by omega),Bool.false_and,Bool.and_false]
 simp only [aq,ai,Bool.or_eq_true,Bool.or_eq_false_iff,aP,Bool.and_eq_false_iff,Bool.not_eq_true',Bool.not_eq_false',decide_eq_true_eq,decide_eq_false_iff_not,hw] at g;rw [decide_eq_true (by omega:ra=0),decide_eq_true (by omega:bW.length + kD.length=0),Bool.true_and,Bool.true_and] at hF;refine br ?_ ?_<;>intro g2
 ·rw [ap (of_decide_eq_true g2)] at hF;rw [hF];exact (rfl:_=_)
 rw [aj (of_decide_eq_false g2)] at hF;refine br ?_ ?_<;>intro g3
 ·rw [ap (of_decide_eq_true g3)] at hF;rw [hF];exact (rfl:_=_)
 rw [aj (of_decide_eq_false g3)] at hF;refine br ?_ ?_<;>intro g4
 ·refine cP tf hn ?_;refine congrArg (fun z=>DV.v (Value.bool z)) ?_;rw [ai] at g4;have g4:(decide (rk=1) && decide (rn=0))=true:=sU g4;rw [hF,<- Bool.and_assoc,g4];cases b<;>rfl
 ·refine congrArg (fun z=>DV.v (Value.bool z)) ?_;rw [ai] at g4;have g4:(decide (rk=1) && decide (rn=0))=false:=sU g4;rw [hF,<- Bool.and_assoc,g4];rfl
theorem Cx (c:jf) (hs:∀ s∈c.p,s.s.size<=1099511627776) (hl:c.lit.s.size<=1099511627776) (hk:c.lit.keys.length + c.lit.ks.length<=1099511627776):EvP prog 273 [.agg (rb c)] (.v (.bool (sP c))):=by
 have h1:=tJ c.p (fun s h=>by have:=hs s h;omega);have h2:=IJ c.lit hl hk;obtain ⟨p,op,rk,ra,rn,rs,bW,kD⟩:=c;have hF:sP ⟨p,op,.mk rk ra rn rs bW kD⟩=(nO p && (decide (1<=op) && (decide (op<=4) && Md (.mk rk ra rn rs bW kD)))):=rfl;generalize sP ⟨p,op,.mk rk ra rn rs bW kD⟩=F at hF ⊢;simp only at h1 h2;generalize Md (.mk rk ra rn rs bW kD)=b at h2 hF;generalize nO p=b0 at h1 hF
 cases b0 with
 | false=>
  refine eG 21 [.tmp 2] func273 rfl ntmps273 rfl fun _ _ _ _=>?_;refine cP JC h1 ?_;rw [hF];exact (rfl:_=_)
 | true=>
  refine eG 21 [.tmp 2] func273 rfl ntmps273 rfl fun _ _ _ _=>?_;refine cP JC h1 ?_;refine br ?_ ?_<;>intro g
  ·refine cP aad h2 ?_;rw [ai] at g;have g:(decide (1<=op) && decide (op<=4))=true:=by simpa [pickB] using g
   rw [hF,Bool.true_and,<- Bool.and_assoc,g];exact (rfl:_=_)
  ·rw [ai] at g;have g:(decide (1<=op) && decide (op<=4))=false:=by simpa [pickB] using g
   rw [hF,Bool.true_and,<- Bool.and_assoc,g];exact (rfl:_=_)
theorem FU (d:Nd) (u:Val) (h4:u.k=4->0<=u.n/\u.n < d.af.length) (h8:u.k=8->0<=u.n/\u.n < d.aw.length):EvP prog 369 [.agg (kO d),.agg (aZ u)] (.v (.string (FR d u))):=by
 obtain ⟨ag,at',lo,hi,most,af,es⟩:=d;obtain ⟨uk,un,us,ul⟩:=u
 have hF:FR ⟨ag,at',lo,hi,most,af,es⟩ (.mk uk un us ul)=(if uk=1 then (if un=1 then ba [116,114,117,101] else ba [102,97,108,115,101])
  else if uk=4 then (af[un.toNat]?).getD av
  else if uk=8 then (match es[un.toNat]? with | some e=>e.name | none=>av)
  else if uk=6 then (if ul=[] then ba [110,111,110,101] else ba [115,111,109,101])
  else av):=rfl
 generalize FR ⟨ag,at',lo,hi,most,af,es⟩ (.mk uk un us ul)=F at hF ⊢;have hul:=bl ul;simp only [Val.k,Val.n] at h4 h8;refine eG 35 [.tmp 4] func369 rfl ntmps369 rfl fun _ _ _ _=>?_;refine br ?_ ?_<;>intro g
 ·have g:=of_decide_eq_true g;subst g;rw [ap rfl] at hF;refine br ?_ ?_<;>intro g
  ·rw [ap (of_decide_eq_true g)] at hF;rw [hF];exact (rfl:_=_)
  ·rw [aj (of_decide_eq_false g)] at hF;rw [hF];exact (rfl:_=_)
 have g:=of_decide_eq_false g;rw [aj g] at hF;refine br ?_ ?_<;>intro g2
 ·have g2:=of_decide_eq_true g2;obtain ⟨n1,n2⟩:=h4 g2;rw [ap g2] at hF;obtain ⟨s,hs⟩:∃ s,af[un.toNat]? = some s:=⟨_,gE (by omega)⟩;rw [hs] at hF;refine ⟨_,⟨n1,fc hs⟩,?_⟩;rw [hF];exact (rfl:_=_)
 have g2:=of_decide_eq_false g2;rw [aj g2] at hF;refine br ?_ ?_<;>intro g3
 ·have g3:=of_decide_eq_true g3;obtain ⟨n1,n2⟩:=h8 g3;rw [ap g3] at hF;obtain ⟨e,he⟩:∃ e,es[un.toNat]? = some e:=⟨_,gE (by omega)⟩;rw [he] at hF;refine ⟨_,⟨n1,bm he⟩,?_⟩;rw [hF];exact (rfl:_=_)
 have g3:=of_decide_eq_false g3;rw [aj g3] at hF;refine br ?_ ?_<;>intro g4
 ·rw [ap (of_decide_eq_true g4)] at hF;refine br ?_ ?_<;>intro g5
  ·rw [aj (by rintro rfl;simp [dVals] at g5)] at hF;rw [hF];exact (rfl:_=_)
  ·rw [ap (by
    have:ul.length=0:=by
     have:=of_decide_eq_false g5;omega
    exact List.eq_nil_of_length_eq_zero this)] at hF
   rw [hF];exact (rfl:_=_)
 rw [aj (of_decide_eq_false g4)] at hF;rw [hF];exact (rfl:_=_)
theorem tS (lo hi:Int) (c:jf):EvP prog 367 [.v (.int .i64 lo),.v (.int .i64 hi),.agg (rb c)] (.v (.int .i64 (FT lo hi c))):=by
 obtain ⟨p,op,rk,ra,rn,rs,bW,kD⟩:=c
 have hF:FT lo hi ⟨p,op,.mk rk ra rn rs bW kD⟩=(if op=1 then (if rk≠2∨(rn < lo∨hi < rn) then 0 else if lo=hi/\lo=rn then 1 else 2)
  else if op=2 then (if rk≠2∨rn<=lo then 0 else if hi < rn then 1 else 2)
  else if op=3 then (if rk≠2∨hi<=rn then 0 else if rn < lo then 1 else 2)
  else 0):=rfl
 generalize FT lo hi ⟨p,op,.mk rk ra rn rs bW kD⟩=F at hF ⊢;refine eG 59 [.tmp 6] func367 rfl ntmps367 rfl fun _ _ _ _=>?_;refine br ?_ ?_<;>intro g
 ·refine br ?_ ?_<;>intro g2
  ·refine congrArg (fun z=>DV.v (Value.int .i64 z)) ?_
   grind [ai,aq]
  ·refine br ?_ ?_<;>intro g3
   all_goals
    refine congrArg (fun z=>DV.v (Value.int .i64 z)) ?_
    grind [ai,aq]
 refine br ?_ ?_<;>intro g0
 ·refine br ?_ ?_<;>intro g2
  ·refine congrArg (fun z=>DV.v (Value.int .i64 z)) ?_
   grind [ai,aq]
  ·refine br ?_ ?_<;>intro g3
   all_goals
    refine congrArg (fun z=>DV.v (Value.int .i64 z)) ?_
    grind [ai,aq]
 refine br ?_ ?_<;>intro g1
 ·refine br ?_ ?_<;>intro g2
  ·refine congrArg (fun z=>DV.v (Value.int .i64 z)) ?_
   grind [ai,aq]
  ·refine br ?_ ?_<;>intro g3
   all_goals
    refine congrArg (fun z=>DV.v (Value.int .i64 z)) ?_
    grind [ai,aq]
 ·refine congrArg (fun z=>DV.v (Value.int .i64 z)) ?_
  grind
def acN (o:Option Int):DV:=match o with
 | some z=>.tup [.v (.int .i64 z),.v (.bool true)]
 | none=>.tup [.v (.int .i64 0),.v (.bool false)]
theorem Me (a b:Int) (ha:mH a) (hb:mH b):EvP prog 366 [.v (.int .i64 a),.v (.int .i64 b)] (acN (IH a b)):=by
 unfold mH at ha hb;have hF:IH a b=if (0 < b/\9223372036854775807 - b < a)∨(b < 0/\a < -9223372036854775808 - b) then none else some (a + b):=rfl
 generalize IH a b=F at hF ⊢;have w1:0 < b->IntKind.i64.wrap (9223372036854775807 - b)=9223372036854775807 - b:=fun h=>wrap64 (by omega) (by omega);have w2:b < 0->IntKind.i64.wrap (-9223372036854775808 - b) = -9223372036854775808 - b:=fun h=>wrap64 (by omega) (by omega);refine eG 27 [.tmp 4,.tmp 5] func366 rfl ntmps366 rfl fun _ _ _ _=>?_;refine br ?_ ?_<;>intro g
 ·simp only [aq,ai,Bool.or_eq_true,Bool.or_eq_false_iff,aP,Bool.and_eq_false_iff,Bool.not_eq_true',Bool.not_eq_false',decide_eq_true_eq,decide_eq_false_iff_not] at g;rw [ap (by omega)] at hF;rw [hF];exact ⟨_,ax,rfl⟩
 ·simp only [aq,ai,Bool.or_eq_true,Bool.or_eq_false_iff,aP,Bool.and_eq_false_iff,Bool.not_eq_true',Bool.not_eq_false',decide_eq_true_eq,decide_eq_false_iff_not] at g;rw [aj (by omega)] at hF;have w3:IntKind.i64.wrap (a + b)=a + b:=wrap64 (by omega) (by omega);have h2:acN (some (a + b))=DV.tup [DV.v (.int .i64 (IntKind.i64.wrap (a + b))),.v (.bool true)]:=by rw [w3];all_goals rfl
  rw [hF];exact ⟨_,ax,h2.symm⟩
theorem rc (d:Nd) (u:Val) (c:jf) (h4:u.k=4->0<=u.n/\u.n < d.af.length) (h8:u.k=8->0<=u.n/\u.n < d.aw.length) :
  EvP prog 351 [.agg (kO d),.agg (aZ u),.agg (rb c)] (.v (.int .i64 (nV d u c))):=by
 have hw:=FU d u h4 h8;have Rq:=tS u.n u.n c;obtain ⟨W,hW⟩:∃ W,W=FR d u:=⟨_,rfl⟩;rw [<- hW] at hw;obtain ⟨ag,at',lo,hi,most,af,es⟩:=d;obtain ⟨uk,un,us,ul⟩:=u;obtain ⟨p,op,rk,ra,rn,rs,bW,kD⟩:=c
 have hF:nV ⟨ag,at',lo,hi,most,af,es⟩ (.mk uk un us ul) ⟨p,op,.mk rk ra rn rs bW kD⟩=(if uk=2 then FT un un ⟨p,op,.mk rk ra rn rs bW kD⟩
 else if op=4 then mJ (decide (uk=5) && (decide (rk=2) && decide (rn=ul.length)))
 else if op≠1 then 0
 else if uk=3 then mJ (decide (rk=3) && decide (rs=us))
 else mJ (decide (rk=1) && decide (W=rs))):=by rw [hW];all_goals rfl
 generalize nV ⟨ag,at',lo,hi,most,af,es⟩ (.mk uk un us ul) ⟨p,op,.mk rk ra rn rs bW kD⟩=F at hF ⊢;simp only [Val.k,Val.n] at h4 h8 Rq;generalize FT un un ⟨p,op,.mk rk ra rn rs bW kD⟩=Q at Rq hF;have hul:=bl ul;have Yw:=AE;refine eG 75 [.tmp 6] func351 rfl ntmps351 rfl fun _ _ _ _=>?_;refine br ?_ ?_<;>intro g
 ·rw [ap (of_decide_eq_true g)] at hF;rw [hF];refine cP N2 Rq ?_;exact (rfl:_=_)
 rw [aj (of_decide_eq_false g)] at hF;refine br ?_ ?_<;>intro g
 ·rw [ap (of_decide_eq_true g)] at hF;rw [hF];refine cP DQ (Yw _) ?_;refine congrArg (fun b=>DV.v (Value.int .i64 (mJ b))) ?_
  grind [ai]
 rw [aj (of_decide_eq_false g)] at hF;refine br ?_ ?_<;>intro g
 ·rw [ap (by grind)] at hF;rw [hF];exact (rfl:_=_)
 rw [aj (by grind)] at hF;refine br ?_ ?_<;>intro g
 ·rw [ap (of_decide_eq_true g)] at hF;rw [hF];refine cP DQ (Yw _) ?_;refine congrArg (fun b=>DV.v (Value.int .i64 (mJ b))) ?_
  grind [ai]
 rw [aj (of_decide_eq_false g)] at hF;by_cases h1:rk=1
 ·subst h1;rw [hF];refine dI ?_;refine cD aax hw ?_;refine cD DQ (Yw _) ?_;exact (rfl:_=_)
 ·rw [decide_eq_false h1,Bool.false_and] at hF;rw [hF];refine dI ?_;refine br ?_ ?_<;>intro g
  ·exact (h1 (by grind)).elim
  refine cD DQ (Yw _) ?_;exact (rfl:_=_)
theorem Cy (e:Ed) (d:Nd) (u:Val) (c:jf) (hu:mH u.n) (he : -9223372036854775808 < e.cn/\e.cn<=9223372036854775807) :
  EvP prog 348 [.agg (nF e),.agg (kO d),.agg (aZ u),.agg (rb c)] (.v (.int .i64 (Cv e d u c))):=by
 have ha:=Me u.n (e.cn - 1) hu (by unfold mH;omega);have Rq:=tS (max u.n d.lo) (min ((IH u.n (e.cn - 1)).getD d.hi) d.hi) c;have hF:Cv e d u c=FT (max u.n d.lo) (min ((IH u.n (e.cn - 1)).getD d.hi) d.hi) c:=rfl;rw [hF];have hw:IntKind.i64.wrap (e.cn - 1)=e.cn - 1:=wrap64 (by omega) (by omega);clear hF;generalize IH u.n (e.cn - 1)=A at ha Rq ⊢;obtain ⟨ag,at',lo,hi,most,af,es⟩:=d;obtain ⟨uk,un,us,ul⟩:=u;obtain ⟨p,op,rk,ra,rn,rs,bW,kD⟩:=c;obtain ⟨en,eb,ea,et,el,ew,eU,ic,AF,iV⟩:=e;simp only [Val.n] at ha Rq hw ⊢;rw [<- hw] at ha
 cases A with
 | none=>
  simp only [Option.getD_none] at Rq ⊢;refine eG 35 [.tmp 8] func348 rfl ntmps348 rfl fun _ _ _ _=>?_;refine cP Uw ha ?_;refine cP N2 Rq ?_;exact (rfl:_=_)
 | some z=>
  simp only [Option.getD_some] at Rq ⊢;refine eG 35 [.tmp 8] func348 rfl ntmps348 rfl fun _ _ _ _=>?_;refine cP Uw ha ?_;refine cP N2 Rq ?_;exact (rfl:_=_)
theorem AG:∀ (k m:Nat) (l:List UInt8),l.length<=k->l.length<=m->cntU k l=cntU m l
 | 0,0,_,_,_=>rfl
 | 0,m + 1,l,h,_=>by
  have:l=[]:=List.eq_nil_of_length_eq_zero (by omega);subst this;simp [cntU]
 | k + 1,0,l,_,h=>by
  have:l=[]:=List.eq_nil_of_length_eq_zero (by omega);subst this;simp [cntU]
 | k + 1,m + 1,l,h1,h2=>by
  rw [cntU,cntU];split
  ·rfl
  ·rename_i hl;have:=dZ hl;rw [AG k m (l.drop (dV l)) (by rw [List.length_drop];omega) (by rw [List.length_drop];omega)]
theorem Mf {k:Nat} {l:List UInt8} (hl:l ≠ []) (hk:l.length<=k):cntU k l=1 + cntU k (l.drop (dV l)):=by
 have hp:=dZ hl;have h0:0 < l.length:=List.length_pos_iff.2 hl;obtain ⟨m,rfl⟩:∃ m,k=m + 1:=⟨k - 1,by omega⟩;rw [cntU,aj hl,AG m (m + 1) _ (by rw [List.length_drop];omega) (by rw [List.length_drop];omega)]
abbrev acO (s:ByteArray) (m:Int) (all en at':Int):St:=⟨[(0,⟨[],.v (.string s)⟩),ay 1 m,ay 4 all,ay 5 en,ay 6 at'],[],[]⟩
theorem re (s:ByteArray) (hs:s.size<=1099511627776) (m:Int):EvP prog 368 [.v (.string s),.v (.int .i64 m)] (.tup [.v (.int .i64 (cntU s.size (tx s):Nat)),.v (.int .i64 ((headL m.toNat (tx s)).length:Nat))]):=by
 have mW:=cE s;generalize hC:cntU s.size (tx s)=C;generalize hE:(headL m.toNat (tx s)).length=En;refine eG 35 [.tmp 4,.tmp 5] func368 rfl ntmps368 rfl fun _ _ _ _=>?_;refine lI (fun j st=>∃ (at' all en:Nat),st=acO s m all en at' /\ at' <= s.size/\all<=at' /\ all + cntU s.size ((tx s).drop at')=C/\((all:Int)<=m->at' + (headL (m.toNat - all) ((tx s).drop at')).length=En)/\(m < all->en=En)/\j=s.size - at') ⟨0,0,0,rfl,by omega,by omega,by rw [List.drop_zero];omega,fun h=>by rw [List.drop_zero,Nat.sub_zero];omega,fun h=>by rw [<- hE,show m.toNat=0 by omega];rfl,rfl⟩ (bp wB) ?_;rintro _ st ⟨at',all,en,rfl,h1,h0,h2,h3,h4,rfl⟩;refine br ?_ ?_<;>intro hL
 ·have au:at' < s.size:=sU hL
  have bf:(tx s).drop at' ≠ []:=by
   intro h;have:=congrArg List.length h;rw [List.length_drop,List.length_nil] at this;omega
  have hu:=oC s at' hs h1;have aW:=Mf (k:=s.size) bf (by rw [List.length_drop];omega);rw [aW,List.drop_drop] at h2;have Rg:=dZ bf;have fF:dV ((tx s).drop at') + at' <= s.size:=by grind [dZ]
  have mF:∀ k,headL (k + 1) ((tx s).drop at')=((tx s).drop at').take (dV ((tx s).drop at')) ++ headL k ((tx s).drop (at' + dV ((tx s).drop at'))):=fun k=>by rw [headL,List.drop_drop]
  have h5:(all:Int) < m->at' + dV ((tx s).drop at') + (headL (m.toNat - (all + 1)) ((tx s).drop (at' + dV ((tx s).drop at')))).length=En:=fun h=>by
   have:=h3 (by omega);rw [show m.toNat - all=(m.toNat - (all + 1)) + 1 by omega,mF,List.length_append,zLenT,List.length_drop] at this;omega
  have h6:(all:Int)=m->at'=En:=fun h=>by
   have:=h3 (by omega);rw [show m.toNat - all=0 by omega,headL,List.length_nil] at this;omega
  generalize dV ((tx s).drop at')=n at hu h2 h5 fF Rg
  have hw:IntKind.i64.wrap ((at':Int) + n)=((at' + n:Nat):Int):=by
   rw [wrap64 (by omega) (by omega)];omega
  have Xf:IntKind.i64.wrap ((all:Int) + 1)=((all + 1:Nat):Int):=by
   rw [wrap64 (by omega) (by omega)];omega
  refine br ?_ ?_<;>intro g
  ·have g:=of_decide_eq_true g;refine bS DO rfl hu ax (fun q hq=>?_);obtain ⟨z1,rfl⟩:=hq;exact ⟨acO s m (all + 1:Nat) at' (at' + n:Nat),(bp (iT hw Xf)),s.size - (at' + n),by omega,at' + n,all + 1,at',rfl,by omega,by omega,by omega,fun h=>by omega,fun _=>h6 g,rfl⟩
  ·have g:=of_decide_eq_false g;refine bS DO rfl hu ax (fun q hq=>?_);obtain ⟨z1,rfl⟩:=hq;exact rE ⟨_,by omega,at' + n,all + 1,en,rfl,by omega,by omega,by omega,fun h=>h5 (by omega),fun h=>h4 (by omega),rfl⟩ (bp (iT hw Xf))
 ·have hge:at'=s.size:=by
   have h2:=hL;simp at h2;omega
  subst hge;have Fj:(tx s).drop s.size=[]:=List.drop_eq_nil_of_le (by omega);rw [Fj] at h2 h3
  have Dm:cntU s.size []=0:=by
   cases s.size with
   | zero=>rfl
   | succ _=>simp [cntU]
  rw [Dm,Nat.add_zero] at h2;subst h2;refine br ?_ ?_<;>intro g
  ·have g:=of_decide_eq_true g;have:=h3 g;rw [ov,List.length_nil,Nat.add_zero] at this;subst this;exact ⟨_,ax,rfl⟩
  ·have g:=of_decide_eq_false g;have:=h4 (by omega);subst this;exact ⟨_,ax,rfl⟩
theorem Cz (e:Ed) (u:Val) (c:jf) (hu:u.s.size<=1099511627776) (hc:c.lit.s.size<=1099511627776) :
  EvP prog 349 [.agg (nF e),.agg (aZ u),.agg (rb c)] (.v (.int .i64 (x7 e u c))):=by
 obtain ⟨uk,un,us,ul⟩:=u;obtain ⟨p,op,rk,ra,rn,rs,bW,kD⟩:=c;obtain ⟨en,eb,ea,et,el,ew,eU,ic,AF,iV⟩:=e;have h1:=re us hu ic;have h2:=re rs hc ic;have hp:=rc x6 (.mk 3 0 us []) ⟨p,op,.mk rk ra rn rs bW kD⟩ (fun h=>absurd (show (3:Int)=4 from h) (by decide)) (fun h=>absurd (show (3:Int)=8 from h) (by decide));have acP:=ow ic.toNat (tx rs)
 have hF:x7 ⟨en,eb,ea,et,el,ew,eU,ic,AF,iV⟩ (.mk uk un us ul) ⟨p,op,.mk rk ra rn rs bW kD⟩=(if (cntU us.size (tx us):Int) < ic then nV x6 (.mk 3 0 us []) ⟨p,op,.mk rk ra rn rs bW kD⟩
  else if op=1/\rk=3/\headL ic.toNat (tx rs)=tx us then 2 else 0):=rfl
 generalize x7 ⟨en,eb,ea,et,el,ew,eU,ic,AF,iV⟩ (.mk uk un us ul) ⟨p,op,.mk rk ra rn rs bW kD⟩=F at hF ⊢;generalize nV x6 (.mk 3 0 us []) ⟨p,op,.mk rk ra rn rs bW kD⟩=P at hp hF;generalize cntU us.size (tx us)=n1 at h1 hF;generalize (headL ic.toNat (tx us)).length=e1 at h1;generalize cntU rs.size (tx rs)=n2 at h2;have mW:=cE rs;have hple:=acP.length_le;have ig:=List.prefix_iff_eq_take.1 acP;generalize headL ic.toNat (tx rs)=H at h2 hF hple ig;refine eG 57 [.tmp 6] func349 rfl ntmps349 rfl fun _ _ _ _=>?_;refine cP Ux h1 ?_;refine br ?_ ?_<;>intro g
 ·rw [ap (of_decide_eq_true g)] at hF;rw [hF];refine cP Uv hp ?_;exact (rfl:_=_)
 rw [aj (of_decide_eq_false g)] at hF;refine cP Ux h2 ?_
 have hx:rs.extract 0 H.length=ba H:=pf (by
  simp [tx] at ig ⊢
  exact ig.symm)
 refine dI ?_;refine br ?_ ?_<;>intro g1
 ·have g1:op=1/\rk=3:=by simpa [ai] using g1
  refine ⟨⟨by omega,by omega,by omega⟩,?_⟩;refine br ?_ ?_<;>intro g2
  ·have g2:=of_decide_eq_true g2
   rw [ap ⟨g1.1,g1.2,by
    have:=congrArg tx (hx.symm.trans g2)
    rwa [qx] at this⟩] at hF
   rw [hF];exact (rfl:_=_)
  ·have g2:=of_decide_eq_false g2;rw [aj (fun h=>g2 (hx.trans (by rw [h.2.2];exact zE us)))] at hF;rw [hF];exact (rfl:_=_)
 ·have g1:¬ (op=1/\rk=3):=by simpa [ai] using g1
  rw [aj (fun h=>g1 ⟨h.1,h.2.1⟩)] at hF;rw [hF];exact (rfl:_=_)
def pK (d:Nd) (x:Val) (s:Stp):DV:=match bB (II d x s) x.ks.length with
 | none=>.tup [.agg (nF jv),.v (.int .i64 0),.v (.bool false)]
 | some j=>.tup [.agg (nF ((d.aw[Cw x j]?).getD jv)),.v (.int .i64 j),.v (.bool true)]
abbrev acQ (d:Nd) (x:Val) (s:Stp) (e:Nat):St:=
 ⟨[aE 3 0,aE 4 1,aE 5 2,aE 6 3,ay 7 0,DB 8 false,ay 14 ((dVals x.ks).length),ay 15 e],[kO d,aZ x,ju s,nF jv],[]⟩
set_option maxHeartbeats 1000000 in
theorem FV (d:Nd) (x:Val) (s:Stp) (h7:x.k=7->x.ks.length<=d.aw.length) (h8:x.k=8->0<=x.n/\x.n < d.aw.length) (h5:x.k=5∨x.k=6->0 < d.aw.length) (yx:x.ks.length<=1099511627776) :
  EvP prog 315 [.agg (kO d),.agg (aZ x),.agg (ju s)] (pK d x s):=by
 obtain ⟨ag,at',lo,hi,most,af,es⟩:=d;obtain ⟨xk,xn,xs,xl⟩:=x;obtain ⟨sk,sn,ss⟩:=s
 have hR:pK ⟨ag,at',lo,hi,most,af,es⟩ (.mk xk xn xs xl) ⟨sk,sn,ss⟩=(match bB (II ⟨ag,at',lo,hi,most,af,es⟩ (.mk xk xn xs xl) ⟨sk,sn,ss⟩) xl.length with
  | none=>.tup [.agg (nF jv),.v (.int .i64 0),.v (.bool false)]
  | some j=>.tup [.agg (nF ((es[Cw (.mk xk xn xs xl) j]?).getD jv)),.v (.int .i64 j),.v (.bool true)]):=rfl
 generalize pK ⟨ag,at',lo,hi,most,af,es⟩ (.mk xk xn xs xl) ⟨sk,sn,ss⟩=R at hR ⊢;have de:(dVals (Val.mk xk xn xs xl).ks).length=xl.length:=bl xl;have hE:=cF es
 have hfq:∀ j,II ⟨ag,at',lo,hi,most,af,es⟩ (.mk xk xn xs xl) ⟨sk,sn,ss⟩ j=(if xk=7 then decide (sk=1) && (match es[j]? with | some e=>decide (e.name=ss) | none=>false)
 else if xk=8 then decide (sk=5) && (match es[xn.toNat]? with | some e=>decide (e.name=ss) | none=>false)
 else if xk=5 then decide (sk=2) && decide (sn=(j:Int))
 else if xk=6 then decide (sk=4) else false):=fun j=>rfl
 have hke:∀ j,Cw (.mk xk xn xs xl) j=(if xk=7 then j else if xk=8 then xn.toNat else 0):=fun j=>rfl;generalize II ⟨ag,at',lo,hi,most,af,es⟩ (.mk xk xn xs xl) ⟨sk,sn,ss⟩=FQ at *;generalize Cw (.mk xk xn xs xl)=KE at *;simp only [Val.k,Val.n,Val.ks] at h7 h8 h5 yx;refine eG 80 [.cell 6 193,.tmp 7,.tmp 8] func315 rfl ntmps315 rfl fun _ _ _ _=>?_;refine lI (fun j st=>∃ e:Nat,st=acQ ⟨ag,at',lo,hi,most,af,es⟩ (.mk xk xn xs xl) ⟨sk,sn,ss⟩ e/\e<=xl.length/\(∀ a,a < e->FQ a=false)/\j=xl.length - e) ⟨0,rfl,by omega,by omega,rfl⟩ (dj 4 pP kj) ?_;rintro _ st ⟨e,rfl,he,hn,rfl⟩;refine br ?_ ?_<;>intro hL
 ·have au:e < xl.length:=sV de hL;have mP:=hfq e;have pN:=hke e
  have nc:FQ e=false->∀ a,a < e + 1->FQ a=false:=fun h a ha=>by
   rcases kE ha with ha | rfl
   ·exact hn a ha
   ·exact h
  have mK:FQ e=true->∀ ed,es[KE e]? = some ed->R = .tup [.agg (nF ed),.v (.int .i64 e),.v (.bool true)]:=fun h ed x8=>by
   rw [hR,cI au h hn];simp only;rw [x8];rfl
  refine br ?_ ?_<;>intro g7
  ·have g7:=of_decide_eq_true g7;rw [ap g7] at mP pN;obtain ⟨ed,x8⟩:∃ ed,es[e]? = some ed:=⟨_,gE (by have:=h7 g7;omega)⟩;rw [x8] at mP;have mK:=fun h=>mK h ed (by rw [pN];exact x8);have Tj:=bm x8;obtain ⟨en,eb,ea,et,el,ew,eU,ic,AF,iV⟩:=ed;refine dI ?_;refine br ?_ ?_<;>intro g
   ·have g:sk=1:=sU g;rw [decide_eq_true g,Bool.true_and] at mP;refine ⟨_,⟨by omega,Tj⟩,?_⟩;refine br ?_ ?_<;>intro g2
    ·refine ⟨_,⟨by omega,Tj⟩,?_⟩;rw [mK (mP.trans g2)];exact ⟨_,ax,rfl⟩
    ·exact rE ⟨_,by omega,e + 1,rfl,by omega,nc (mP.trans g2),rfl⟩ (dj 4 (kH (aN au (by omega))) (cY (aN au (by omega))))
   ·have g:¬ sk=1:=sU g;rw [decide_eq_false g,Bool.false_and] at mP;exact rE ⟨_,by omega,e + 1,rfl,by omega,nc (mP),rfl⟩ (dj 4 (kH (aN au (by omega))) (cY (aN au (by omega))))
  have g7:=of_decide_eq_false g7;rw [aj g7] at mP pN;refine br ?_ ?_<;>intro g8
  ·have g8:=of_decide_eq_true g8;rw [ap g8] at mP pN;obtain ⟨ed,x8⟩:∃ ed,es[xn.toNat]? = some ed:=⟨_,gE (by have:=h8 g8;omega)⟩;rw [x8] at mP;have mK:=fun h=>mK h ed (by rw [pN];exact x8);have Tj:=bm x8;obtain ⟨en,eb,ea,et,el,ew,eU,ic,AF,iV⟩:=ed;refine dI ?_;refine br ?_ ?_<;>intro g
   ·have g:sk=5:=sU g;rw [decide_eq_true g,Bool.true_and] at mP;refine ⟨_,⟨(h8 g8).1,Tj⟩,?_⟩;refine br ?_ ?_<;>intro g2
    ·refine ⟨_,⟨(h8 g8).1,Tj⟩,?_⟩;rw [mK (mP.trans g2)];exact ⟨_,ax,rfl⟩
    ·exact rE ⟨_,by omega,e + 1,rfl,by omega,nc (mP.trans g2),rfl⟩ (dj 4 (kH (aN au (by omega))) (cY (aN au (by omega))))
   ·have g:¬ sk=5:=sU g;rw [decide_eq_false g,Bool.false_and] at mP;exact rE ⟨_,by omega,e + 1,rfl,by omega,nc (mP),rfl⟩ (dj 4 (kH (aN au (by omega))) (cY (aN au (by omega))))
  have g8:=of_decide_eq_false g8;rw [aj g8] at mP pN;refine br ?_ ?_<;>intro g5
  ·have g5:=of_decide_eq_true g5;rw [ap g5] at mP;obtain ⟨ed,x8⟩:∃ ed,es[0]? = some ed:=⟨_,gE (h5 (.inl g5))⟩;have mK:=fun h=>mK h ed (by rw [pN];exact x8);have Tj:=bm x8;obtain ⟨en,eb,ea,et,el,ew,eU,ic,AF,iV⟩:=ed;refine br ?_ ?_<;>intro g2
   ·refine ⟨_,⟨by omega,Tj⟩,?_⟩;rw [mK (by rw [mP];rw [ai] at g2;exact g2)];exact ⟨_,ax,rfl⟩
   ·exact rE ⟨_,by omega,e + 1,rfl,by omega,nc (by rw [mP];rw [ai] at g2;exact g2),rfl⟩ (dj 4 (kH (aN au (by omega))) (cY (aN au (by omega))))
  have g5:=of_decide_eq_false g5;rw [aj g5] at mP;refine br ?_ ?_<;>intro g6
  ·have g6:=of_decide_eq_true g6;rw [ap g6] at mP;obtain ⟨ed,x8⟩:∃ ed,es[0]? = some ed:=⟨_,gE (h5 (.inr g6))⟩;have mK:=fun h=>mK h ed (by rw [pN];exact x8);have Tj:=bm x8;obtain ⟨en,eb,ea,et,el,ew,eU,ic,AF,iV⟩:=ed;refine br ?_ ?_<;>intro g2
   ·refine ⟨_,⟨by omega,Tj⟩,?_⟩;rw [mK (by rw [mP];exact g2)];exact ⟨_,ax,rfl⟩
   ·exact rE ⟨_,by omega,e + 1,rfl,by omega,nc (by rw [mP];exact g2),rfl⟩ (dj 4 (kH (aN au (by omega))) (cY (aN au (by omega))))
  have g6:=of_decide_eq_false g6;rw [aj g6] at mP;exact rE ⟨_,by omega,e + 1,rfl,by omega,nc (mP),rfl⟩ (dj 4 (kH (aN au (by omega))) (cY (aN au (by omega))))
 ·have hge:xl.length<=e:=sV de hL;rw [hR,cT fun a ha=>hn a (by omega)];exact ⟨_,ax,rfl⟩
def dPl (i:Int) (e:Ed) (u:Val):List DV:=[.v (.int .i64 i)] ++ (nF e ++ aZ u)
theorem IK {S:Sch} {ND:List Nd} {PC:List DV} (hP:eT S ND PC) (i:Nat) (d:Nd) (hd:ND[i]? = some d) (e:Ed) (u:Val) (c:jf) (h4:u.k=4->0<=u.n/\u.n < d.af.length) (h8:u.k=8->0<=u.n/\u.n < d.aw.length)
  (hu:mH u.n) (hus:u.s.size<=1099511627776) (he : -9223372036854775808 < e.cn/\e.cn<=9223372036854775807) (hc:c.lit.s.size<=1099511627776) :
  EvP prog 316 [.pt PC 0,.agg (dPl i e u),.agg (rb c)] (.v (.int .i64 (Qy d e u c))):=by
 have hnd:=hP.ah i d hd;have h1:=rc d u c h4 h8;have h2:=Cy e d u c hu he;have h3:=Cz e u c hus hc;have Yw:=AE;obtain ⟨ag,at',lo,hi,most,af,es⟩:=d;obtain ⟨uk,un,us,ul⟩:=u;obtain ⟨p,op,rk,ra,rn,rs,bW,kD⟩:=c;obtain ⟨en,eb,ea,et,el,ew,eU,ic,AF,iV⟩:=e;obtain ⟨Q1,hQ1⟩:∃ Q,Q=nV ⟨ag,at',lo,hi,most,af,es⟩ (.mk uk un us ul) ⟨p,op,.mk rk ra rn rs bW kD⟩:=⟨_,rfl⟩;obtain ⟨Q2,hQ2⟩:∃ Q,Q=Cv ⟨en,eb,ea,et,el,ew,eU,ic,AF,iV⟩ ⟨ag,at',lo,hi,most,af,es⟩ (.mk uk un us ul) ⟨p,op,.mk rk ra rn rs bW kD⟩:=⟨_,rfl⟩;obtain ⟨Q3,hQ3⟩:∃ Q,Q=x7 ⟨en,eb,ea,et,el,ew,eU,ic,AF,iV⟩ (.mk uk un us ul) ⟨p,op,.mk rk ra rn rs bW kD⟩:=⟨_,rfl⟩;rw [<- hQ1] at h1;rw [<- hQ2] at h2;rw [<- hQ3] at h3
 have hF:Qy ⟨ag,at',lo,hi,most,af,es⟩ ⟨en,eb,ea,et,el,ew,eU,ic,AF,iV⟩ (.mk uk un us ul) ⟨p,op,.mk rk ra rn rs bW kD⟩=(if uk=9 then 2 else if uk=10 then Q2 else if uk=11 then Q3
 else if uk=12 then mJ (decide (op=4) && (decide (rk=2) && decide (rn=un)))
 else Q1):=by rw [hQ1,hQ2,hQ3];all_goals rfl
 generalize Qy ⟨ag,at',lo,hi,most,af,es⟩ ⟨en,eb,ea,et,el,ew,eU,ic,AF,iV⟩ (.mk uk un us ul) ⟨p,op,.mk rk ra rn rs bW kD⟩=F at hF ⊢;refine eG 64 [.tmp 6] func316 rfl ntmps316 rfl fun _ _ _ _=>?_;refine cP mR hnd ?_;refine br ?_ ?_<;>intro g
 ·rw [ap (of_decide_eq_true g)] at hF;rw [hF];exact (rfl:_=_)
 rw [aj (of_decide_eq_false g)] at hF;refine br ?_ ?_<;>intro g
 ·rw [ap (of_decide_eq_true g)] at hF;rw [hF];refine cP aap h2 ?_;exact (rfl:_=_)
 rw [aj (of_decide_eq_false g)] at hF;refine br ?_ ?_<;>intro g
 ·rw [ap (of_decide_eq_true g)] at hF;rw [hF];refine cP aaq h3 ?_;exact (rfl:_=_)
 rw [aj (of_decide_eq_false g)] at hF;refine br ?_ ?_<;>intro g
 ·rw [ap (of_decide_eq_true g)] at hF;rw [hF];refine cP DQ (Yw _) ?_;refine congrArg (fun b=>DV.v (Value.int .i64 (mJ b))) ?_
  grind [ai]
 rw [aj (of_decide_eq_false g)] at hF;rw [hF];refine cP Uv h1 ?_;exact (rfl:_=_)
end Go.Proofs.YtgjagnmeonoehaaGreat
set_option maxRecDepth 100000
namespace Go.Proofs.YtgjagnmeonoehaaGreat
open Go Go.RowKit Go.Lib Dv Go.Proofs.Tryz
theorem sQ {P:Program} {w:World} {ops:Array Oper} {rest:List Oper} {o:Oper} {a:Act} {Q:Exit->Act->World->Prop} (MK:o.guard=none) (s x:Operand) (t:TypeId)
  (ho:o.op = .call { callee:=.builtin .append,args:=#[s,x],argTypes:=#[t,t] })
  (e:TypeId) (i:TypeInfo) (z:Value) (ht:P.underlying t=some (.slice e)) (hi:P.info? e=some i) (hz:i.zero=some z) (jR:i.size=1) (uc:i.bytes=1) (KM:z.cells.size=1)
  (v:Value) (n:Nat) (xs:List Value) (hs:a.eval s=v) (dc:w.ownsRow 0 e 1 v n xs)
  (ad:Addr) (m c:Nat) (news:List Value) (hx:a.eval x = .slice (some ad) m c) (hl:news.length=m * 1) (pU:∀ j u,news[j]? = some u->w.cell? (ad.add j)=some u) (h1:∀ u∈news,u.oneCell'=true)
  (hm:0 < m) (MC:n + m<=maxLen) (jS:(n + m) * 1<=140737488355328)
  (h:∀ g cap w',w'.ownsRow 0 e 1 (.slice (some ⟨g,0,none⟩) (n + m) cap) (n + m) (xs ++ news)->w.grownBy w' v.ownBlock->((v.ownBlock=some g)∨(w.heap.size<=g/\∀ k,k < w.heap.size->w'.heap[k]? = w.heap[k]?)) ->
   wpList P ops Q rest (a.put o.dst (.slice (some ⟨g,0,none⟩) (n + m) cap)) w'):wpList P ops Q (o :: rest) a w:=by
 refine wpList_plain MK fun K hK=>?_;obtain ⟨g,cap,w',hr,h2,h3,h4⟩:=gh (P:=P) (w:=w) t o.type e i z 1 1 ht hi hz jR uc KM (by omega) v n xs dc ad m c news hl pU h1 hm MC jS;unfold Oper.wp execOp;simp only [ho,resolve,invoke,builtin,Sem.run_bind,Sem.run_pure,Result.andThen_ok,List.map_toArray,List.map_cons,List.map_nil,hs,hx,hr];exact hK _ _ (h g cap w' h2 h3 h4)
theorem Vq (w:World) (o:Obj):(w.alloc o).heap.size=w.heap.size + 1:=World.size_alloc w o
set_option maxHeartbeats 2000000 in
theorem XI (b:Nat) (p v:Value) (n:Nat) (xs:List Value) (c:UInt8) (w:World) (hp:p = .pointer none∨p = .pointer (some ⟨b,0,none⟩)) (nu:w.heap[b]? = some (.cells #[p,v] 160 (0,0)))
  (dc:w.ownsRow 0 5 1 v n xs) (bf:v.ownBlock≠some b) (hlen:n + 1<=140737488355328) :
  Calls prog 341 #[.pointer (some ⟨b,0,none⟩),.int .u8 c.toNat] w (Iy .nilIface w b v n xs (ba [c])):=by
 obtain ⟨i0,hi,hz0,hz1,Yd⟩:=info_parts Tryz.laysBX.infoByte
 go_enter func341,ntmps341
 go_wp2_with (go_at_call 149;refine (xZ b p v _ hp nu).mono ?_)
 rintro e w1 ⟨rfl,rfl⟩;have iD:(iO w b v).heap[b]? = some (.cells #[.pointer (some ⟨b,0,none⟩),v] 160 (0,0)):=dA nu;have FH:(iO w b v).ownsRow 0 5 1 v n xs:=Co dc bf;have c0:(iO w b v).cell? ⟨b,0,none⟩=some (.pointer (some ⟨b,0,none⟩)):=by rw [Lib.cell_of_heap iD];all_goals rfl
 have c1:(iO w b v).cell? ⟨b,1,none⟩=some v:=by rw [Lib.cell_of_heap iD];all_goals rfl
 have au:b < (iO w b v).heap.size:=cL iD;obtain ⟨W1,Ql⟩:∃ W1,W1=iO w b v:=⟨_,rfl⟩;rw [<- Ql] at iD FH c0 c1 au ⊢;have HW:=Lib.hid Ql;clear Ql
 go_wp2_with (at_builtin;refine sQ rfl _ _ 158 rfl 5 i0 (.int .u8 0) Tryz.underlying158 hi hz0 hz1 Yd rfl _ _ _ rfl (FH.alloc _) ⟨W1.heap.size,0,none⟩ 1 1 [.int .u8 c.toNat] rfl rfl ?c1 ?c2 (by omega) ?c3 ?c4 ?_)
 case c1=>
  intro j u hj
  match j,hj with
  | 0,hj=>simp at hj;subst hj;simp [Addr.add]
 case c2=>intro u hu;simp at hu;subst hu;rfl
 case c3=>unfold maxLen;omega
 case c4=>omega
 intro g cap w2 Qm mI Dc;have Qz:W1.grownBy w2 v.ownBlock:=⟨mI.os,mI.tape,mI.output,by have:=mI.size;rw [Vq] at this;omega,fun k hk bf=>(mI.block k (by rw [Vq];omega) bf).trans (Lib.alloc_old W1 _ k hk)⟩;have hdi2:(v.ownBlock=some g)∨(W1.heap.size<=g/\∀ k,k < W1.heap.size->w2.heap[k]? = W1.heap[k]?):=Dc.imp_right fun ⟨h1,h2⟩=>⟨by omega,fun k hk=>(h2 k (by omega)).trans (Lib.alloc_old W1 _ k hk)⟩
 have gF:w2.heap[b]? = some (.cells #[.pointer (some ⟨b,0,none⟩),v] 160 (0,0)):=by
  rw [Qz.block b au (fun e=>bf e.symm)];exact iD
 have d0:w2.cell? ⟨b,0,none⟩=some (.pointer (some ⟨b,0,none⟩)):=by rw [Lib.cell_of_heap gF];all_goals rfl
 have d1:w2.cell? ⟨b,1,none⟩=some v:=by rw [Lib.cell_of_heap gF];all_goals rfl
 have f1:w2.frozen? ⟨b,1,none⟩=false:=Lib.frozen_of_heap gF 1;clear mI Dc
 go_wp2
 go_ret
 refine ⟨rfl,g,cap,w2,Qm,by rw [<- HW.out];exact Qz,by rw [<- HW.out];exact hdi2,?_⟩;rw [fi gF];rfl
set_option maxHeartbeats 2000000 in
theorem Tk (b g n cap:Nat) (p:Value) (cur:Array Value) (w:World) (hp:p = .pointer none∨p = .pointer (some ⟨b,0,none⟩)) (nu:w.heap[b]? = some (.cells #[p,.slice (some ⟨g,0,none⟩) n cap] 160 (0,0)))
  (hg:w.heap[g]? = some (.cells cur 5 (0,0))) (ue:n<=cap) (hcs:cur.size=cap) (bf:g≠b) :
  Calls prog 74 #[.pointer (some ⟨b,0,none⟩),.string ⟨#[]⟩] w fun e w'=>e = .returned (.tuple #[.int .i64 0,.nilIface])/\w'=iO w b (.slice (some ⟨g,0,none⟩) n cap):=by
 obtain ⟨i0,hi,hz0,hz1,Yd⟩:=info_parts Tryz.laysBX.infoByte
 go_enter func74,ntmps74
 go_wp2_with (go_at_call 149;refine (xZ b p _ _ hp nu).mono ?_)
 rintro e w1 ⟨rfl,rfl⟩;obtain ⟨v,hv⟩:∃ v,v=Value.slice (some ⟨g,0,none⟩) n cap:=⟨_,rfl⟩;rw [<- hv] at nu ⊢;have iD:(iO w b v).heap[b]? = some (.cells #[.pointer (some ⟨b,0,none⟩),v] 160 (0,0)):=dA nu;have nb:(iO w b v).heap[g]? = some (.cells cur 5 (0,0)):=by rw [b9 bf];exact hg
 have c0:(iO w b v).cell? ⟨b,0,none⟩=some (.pointer (some ⟨b,0,none⟩)):=by rw [Lib.cell_of_heap iD];all_goals rfl
 have c1:(iO w b v).cell? ⟨b,1,none⟩=some v:=by rw [Lib.cell_of_heap iD];all_goals rfl
 have f1:(iO w b v).frozen? ⟨b,1,none⟩=false:=Lib.frozen_of_heap iD 1;obtain ⟨W1,Ql⟩:∃ W1,W1=iO w b v:=⟨_,rfl⟩;rw [<- Ql] at iD nb c0 c1 f1 ⊢;have HW:=Lib.hid Ql;clear Ql
 go_wp2_with (at_builtin;refine IL rfl _ _ 158 9 rfl 5 i0 Tryz.underlying158 Tryz.underlying9 hi hz1 g n cap cur hv nb ue hcs rfl ?_)
 rw [<- hv]
 go_wp2
 go_ret2
 refine ⟨rfl,?_⟩;rw [fi iD];exact (tN iD).trans HW.out
theorem QA {X:Ctx} {st:St} {k:List It} (hP:X.P=prog) {i kt d:Nat} {p:DV} {l:List UInt8} (hbt:(i,160)∈X.bt) (kG:st.bx[i]? = some [p,.sl 1 (bD l) (some kt)])
  (hp:p = .v (.pointer none)∨p = .loc i 0) (hl:l ≠ []) (ig:st.tk[kt]? = some ⟨l.length,5,1,none⟩) (hd:ez X.nt st.sl (some d)=true)
  (hk:go X 4000 k ⟨(d,⟨[],.tup [.v (.int .i64 0),.v .nilIface]⟩) :: st.sl,st.bx.set i [.loc i 0,.sl 1 (bD l) (some kt)],st.tk⟩)
  (aW:X.still=false:=by exact rfl):CallG X 74 [.loc i 0,.v (.string ⟨#[]⟩)] (some d) k st:=by
 refine ⟨by rw [hP];exact Zg,aW,fun E a w vs h hv=>?_⟩;rw [hP];simp only [RvL] at hv;obtain ⟨v1,vr,rfl,h1,v2,vr2,rfl,h2,rfl⟩:=hv;have h2:=bq h2;subst h2;unfold Rv at h1;obtain ⟨b,hb,rfl⟩:=h1;obtain ⟨b',ty,arr,eo,hw,vi⟩:=h.env.bxs i _ kG;rw [hb] at eo;simp only [oI] at eo;subst eo;obtain ⟨RU,pI⟩:=h.bt _ hbt b hb;rw [hw] at pI;simp only [oI,Obj.cells.injEq] at pI;have RA:ty=160:=pI.2.1;subst RA;obtain ⟨hr,ho⟩:=vi;simp only [RvL] at hr;obtain ⟨pv,r1,rfl,Td,cv,r2,rfl,hcv,rfl⟩:=hr;have JV:Rv E (.loc i 0) (.pointer (some ⟨b,0,none⟩)):=by unfold Rv;exact ⟨b,hb,rfl⟩
 have Xz:pv = .pointer none∨pv = .pointer (some ⟨b,0,none⟩):=by
  rcases hp with rfl | rfl
  ·exact .inl (bq Td)
  ·unfold Rv at Td;obtain ⟨b2,gF,rfl⟩:=Td;rw [hb] at gF;simp only [oI] at gF;subst gF;exact .inr rfl
 obtain ⟨g,cap,cur,rfl,hg,ue,hcm,hcs,htake,VR,hτ⟩:=Iz h hl ig hcv;refine (Tk b g l.length cap pv cur w Xz hw hg ue (by omega) (fun e=>VR (e ▸ mG hb))).mono ?_;rintro e w' ⟨rfl,rfl⟩
 have r1:Rel X E ⟨st.sl,st.bx.set i [.loc i 0,.sl 1 (bD l) (some kt)],st.tk⟩ a (iO w b (.slice (some ⟨g,0,none⟩) l.length cap)):=
  jG h aW hb (cs':=[.loc i 0,.sl 1 (bD l) (some kt)]) (arr':=[.pointer (some ⟨b,0,none⟩),.slice (some ⟨g,0,none⟩) l.length cap]) ⟨rvL_cons JV (rvL_one hcv),by
   intro v hv;simp only [List.mem_cons,List.not_mem_nil,or_false] at hv
   rcases hv with rfl | rfl<;>rfl⟩ ⟨_,hw⟩
 exact go_sound 4000 _ _ hk _ _ _ (aX r1 hd (.tup [.v (.int .i64 0),.v .nilIface]) _ (by unfold Rv;exact ⟨_,rfl,rvL_cons (by unfold Rv;exact ⟨rfl,rfl⟩) (rvL_one (by unfold Rv;exact ⟨rfl,rfl⟩))⟩))
theorem jg {X:Ctx} {st:St} {k:List It} (hP:X.P=prog) {i kt d:Nat} {p:DV} {l:List UInt8} {s:ByteArray} (l':List UInt8) (zl:l'=l ++ s.data.toList) (hbt:(i,160)∈X.bt) (kG:st.bx[i]? = some [p,.sl 1 (bD l) (some kt)])
  (hp:p = .v (.pointer none)∨p = .loc i 0) (ig:st.tk[kt]? = some ⟨l.length,5,1,none⟩) (hs:l' ≠ []) (hlen:l'.length<=140737488355328) (hd:ez X.nt st.sl (some d)=true)
  (hk:∀ n:Int,go X 4000 k ⟨(d,⟨[],.tup [.v (.int .i64 n),.v .nilIface]⟩) :: st.sl,st.bx.set i [.loc i 0,.sl 1 (bD l') (some kt)],st.tk.set kt ⟨l'.length,5,1,none⟩⟩)
  (aW:X.still=false:=by exact rfl):CallG X 74 [.loc i 0,.v (.string s)] (some d) k st:=by
 subst zl;have mW:s.data.toList.length=s.size:=by rw [Array.length_toList];all_goals rfl
 have lG:=(gS ig);rcases Nat.eq_zero_or_pos s.size with h0 | h0
 ·have vm:s=⟨#[]⟩:=by
   apply ByteArray.ext;apply Array.eq_empty_of_size_eq_zero;exact h0
  subst vm;have hr:=hk 0;simp only [List.append_nil] at hr hs;rw [show st.tk.set kt ⟨l.length,5,1,none⟩=st.tk by rw [<- lG.2];exact List.set_getElem_self lG.1] at hr;exact QA hP hbt kG hp hs ig hd hr aW
 ·refine FI (s:=s) hP hbt kG hp (.inr ⟨rfl,ig,rfl⟩) Zg (rd:=.tup [.v (.int .i64 s.size),.v .nilIface]) (ret:=.tuple #[.int .i64 s.size,.nilIface]) (fun E=>by unfold Rv;exact ⟨_,rfl,rvL_cons (by unfold Rv;exact ⟨rfl,rfl⟩) (rvL_one (by unfold Rv;exact ⟨rfl,rfl⟩))⟩)
   (fun E b n p v x xs w hx h1 h2 h3 h4 h5=>by
    have:=bq hx;subst this
    exact Xx b p v n xs s w h1 h2 h3 h4 h0 h5) h0 (by rw [List.length_append,mW] at hlen;exact hlen) hd ?_ aW
  have hr:=hk s.size;rw [List.length_append,mW] at hr;exact hr
theorem KA {X:Ctx} {st:St} {k:List It} (hP:X.P=prog) {i kt d:Nat} {p:DV} {l:List UInt8} {c:UInt8} {z:Int} (hz:z=c.toNat) (hbt:(i,160)∈X.bt) (kG:st.bx[i]? = some [p,.sl 1 (bD l) (some kt)])
  (hp:p = .v (.pointer none)∨p = .loc i 0) (ig:st.tk[kt]? = some ⟨l.length,5,1,none⟩) (hlen:l.length + 1<=140737488355328) (hd:ez X.nt st.sl (some d)=true)
  (hk:go X 4000 k ⟨(d,⟨[],.v .nilIface⟩) :: st.sl,st.bx.set i [.loc i 0,.sl 1 (bD (l ++ [c])) (some kt)],st.tk.set kt ⟨l.length + 1,5,1,none⟩⟩)
  (aW:X.still=false:=by exact rfl):CallG X 341 [.loc i 0,.v (.int .u8 z)] (some d) k st:=by
 subst hz
 refine FI (s:=ba [c]) hP hbt kG hp (.inr ⟨rfl,ig,rfl⟩) aan (rd:=.v .nilIface) (ret:=.nilIface) (fun E=>by unfold Rv;exact ⟨rfl,rfl⟩)
  (fun E b n p v x xs w hx h1 h2 h3 h4 h5=>by
   have:=bq hx;subst this
   exact XI b p v n xs c w h1 h2 h3 h4 h5) Nat.one_pos hlen hd hk aW
theorem rf {X:Ctx} {f:FuncId} {args:List DV} {dst:Option Nat} {k:List It} {st:St} (q:TkE) (st':St) (hq:q.new=true) (ha:WeL st.bx.length st.tk.length (st.tk ++ [q]) args args) (h3:st'.tk=st.tk ++ [q]) (h2:WeLL st.bx.length st.tk.length (st.tk ++ [q]) st.bx st'.bx)
  (h:nd st.bx.length st.tk.length (st.tk ++ [q]) st.sl st'.sl) (hn:Nat.ble X.n0 st.bx.length=true) (hm:Nat.ble X.m0 st.tk.length=true) (hk:CallG X f args dst k st'):CallG X f args dst k st:=by
 obtain ⟨k1,k2,k3⟩:=hk;refine ⟨k1,k2,fun E a w vs hR hv=>?_⟩;have hr:=zh (st':=st') hR (kept:=st.tk) (dropped:=[]) (new:=[q]) (b0:=st.bx) (r:=[]) ⟨nL hm,nL hn,by simp,h3,by simpa using hq,by simp,by rw [h3];exact h2,by rw [h3];exact h⟩;exact k3 _ a w vs hr (rO (dropped:=[]) (by rw [hR.tk];simp) hR.env.tl (sU hq) ha hv)
end Go.Proofs.YtgjagnmeonoehaaGreat
set_option maxRecDepth 100000
namespace Go.Proofs.YtgjagnmeonoehaaGreat
open Go Go.RowKit Dv Go.Proofs.Tryz
def uD (n:Nat):UInt8:=if n < 10 then UInt8.ofNat (48 + n) else UInt8.ofNat (87 + n)
def yY (n:Nat):List UInt8:=if n=0 then [] else yY (n / 16) ++ [uD (n % 16)]
termination_by n
decreasing_by omega
def yZ (n:Nat):List UInt8:=yY (n / 16) ++ [uD (n % 16)]
theorem hexP_0:yY 0=[]:=by rw [yY,ap rfl]
theorem XJ {n:Nat} (h:n≠0):yY n=yZ n:=by rw [yY,aj h];all_goals rfl
theorem FW:∀ (k n:Nat),n < 16 ^ k->(yY n).length<=k
 | 0,n,h=>by grind [hexP_0]
 | k + 1,n,h=>by
  by_cases hn:n=0
  ·rw [hn,hexP_0];simp
  ·rw [yY,aj hn,List.length_append];have:=FW k (n / 16) (by rw [Nat.div_lt_iff_lt_mul (by decide)];rw [Nat.pow_succ] at h;exact h)
   grind
theorem x9 {n:Nat} (h:n<=4294967295):(yZ n).length<=8:=by
 have:=FW 7 (n / 16) (by omega)
 grind [yZ]
def Mg:List (List DV):=[[.v (.int .i32 0),.v (.int .i32 31)],[.v (.int .i32 127),.v (.int .i32 159)]]
def Mh:List (List DV):=[[.v (.int .i32 8232),.v (.int .i32 8233)]]
def AH:List (List DV):=[(1564,1564),(8206,8207),(8234,8238),(8294,8297)].map fun p:Int × Int=>[DV.v (.int .i32 p.1),DV.v (.int .i32 p.2)]
def Mi:List (List DV):=[(173,173),(1536,1541),(1757,1757),(1807,1807),(2274,2274),(6158,6158),(8203,8205),(8288,8292),(8298,8303),(65279,65279),(65529,65531),(69821,69821),(69837,69837),(113824,113827),(119155,119162),(917505,917505),(917536,917631)].map fun p:Int × Int=>[DV.v (.int .i32 p.1),DV.v (.int .i32 p.2)]
def Mj (z:Int):Bool:=((Mg.any (uB z) || AH.any (uB z)) || Mi.any (uB z)) || Mh.any (uB z)
def FX (z:Int) (u:List UInt8):List UInt8:=
 if z=34 then [92,34] else if z=92 then [92,92] else if z=9 then [92,116] else if z=10 then [92,110] else if z=13 then [92,114]
 else if Mj z=true then [92,117,123] ++ yZ z.toNat ++ [125] else u
def unT:List UInt8->List UInt8
 | []=>[]
 | c :: r=>if okU (c :: r)=true then FX (recV ((c :: r).take (dV (c :: r)))) ((c :: r).take (dV (c :: r))) else [92,120,uD (c.toNat / 16),uD (c.toNat % 16)]
def quoU:Nat->List UInt8->List UInt8
 | 0,_=>[]
 | k + 1,l=>unT l ++ quoU k (l.drop (dV l))
def ya (l:List UInt8):List UInt8:=34 :: (quoU l.length l ++ [34])
theorem FY (k:Nat):quoU k []=[]:=by
 induction k with
 | zero=>rfl
 | succ k ih=>show [] ++ quoU k ([].drop _)=[];rw [List.drop_nil,ih];all_goals rfl
theorem sR:∀ (n:Nat) (l:List UInt8),l.length<=n->quoU n l=quoU l.length l
 | 0,l,h=>by grind
 | n + 1,l,h=>by
  cases l with
  | nil=>rw [FY,FY]
  | cons c r=>
   obtain ⟨h1,h2⟩:=dZ (l:=c :: r) (by simp);have hl:((c :: r).drop (dV (c :: r))).length=r.length + 1 - dV (c :: r):=by rw [List.length_drop,List.length_cons]
   rw [List.length_cons] at h h2;show unT _ ++ quoU n _=unT _ ++ quoU r.length _;rw [sR n _ (by omega),sR r.length _ (by omega)]
theorem Mk {l:List UInt8} (h:l ≠ []):quoU l.length l=unT l ++ quoU (l.drop (dV l)).length (l.drop (dV l)):=by
 cases l with
 | nil=>exact absurd rfl h
 | cons c r=>grind [dZ,unT,quoU,sR]
theorem KB {l:List UInt8} (h:PK l=true):0<=recV l/\recV l<=2097151:=by
 unfold PK at h
 grind [recV]
theorem Tl (l:List UInt8):(unT l).length<=12:=by
 cases l with
 | nil=>exact Nat.zero_le _
 | cons c r=>
  show (if okU (c :: r)=true then FX (recV ((c :: r).take (dV (c :: r)))) ((c :: r).take (dV (c :: r))) else [92,120,uD (c.toNat / 16),uD (c.toNat % 16)]:List UInt8).length<=12;split
  ·rename_i h;have hi:=Ic h;obtain ⟨_,_,hcr,h1,h2,h3⟩:=u0 h;injection hcr with Nu nZ
   subst Nu nZ;rw [h3];have h4:=Ca c.toNat;have:=KB hi;have:=x9 (n:=(recV ((c :: r).take (bc c.toNat))).toNat) (by omega);unfold FX
   repeat' split
   all_goals simp only [List.length_append,List.length_cons,List.length_nil,zLenT]
   all_goals omega
  ·simp
theorem FZ:∀ (n:Nat) (l:List UInt8),(quoU n l).length<=12 * n
 | 0,l=>Nat.zero_le _
 | n + 1,l=>by
  have h1:=Tl l;have h2:=FZ n (l.drop (dV l))
  grind [unT,quoU,dV]
theorem yb (l:List UInt8):(ya l).length<=12 * l.length + 2:=by grind [FZ,ya]
theorem CA {s:ByteArray} (hs:s=ba [48,49,50,51,52,53,54,55,56,57,97,98,99,100,101,102]) {k:Nat} (hk:k < 16) {a b:Int} (ha:a=k) (hb:b=k + 1):s.extract a.toNat b.toNat=ba [uD k]:=by
 subst hs ha hb;refine pf ?_;have:∀ k:Fin 16,tx ((ba [48,49,50,51,52,53,54,55,56,57,97,98,99,100,101,102]).extract k.val (k.val + 1))=[uD k.val]:=by decide +kernel
 exact this ⟨k,hk⟩
theorem CB {n:Int} (h1:0<=n) (h2:n<=4294967295):IntKind.u32.wrap n=n:=by
 simp [IntKind.wrap,IntKind.min,IntKind.max,IntKind.signed,IntKind.bits];omega
theorem mL (n:Nat):(n:Int).tmod 16=((n % 16:Nat):Int):=by grind
theorem Vr (n:Nat):(n:Int).tdiv 16=((n / 16:Nat):Int):=by grind
theorem QB {x:ByteArray} {c:UInt8} {l:List UInt8} (h:x=ba [c]):x ++ ba l=ba (c :: l):=by
 rw [h];exact l9 [c] l
abbrev XK (m:Nat) (l:List UInt8):St:=⟨[(0,⟨[],.v (.int .u32 m)⟩),(3,⟨[],.v (.string (ba l))⟩)],[],[]⟩
theorem QC (n:Nat) (hn:n<=4294967295):EvP prog 361 [.v (.int .u32 n)] (.v (.string (ba (yZ n)))):=by
 have hu:∀ m:Nat,m<=4294967295->IntKind.u32.wrap ((m:Int).tdiv 16)=((m / 16:Nat):Int):=fun m h=>by rw [Vr,CB (by omega) (by omega)]
 have hr:∀ m:Nat,IntKind.u32.wrap ((m:Int).tmod 16 + 1)=((m % 16:Nat):Int) + 1:=fun m=>by rw [mL,CB (by omega) (by omega)]
 have hlen:=x9 hn;refine eG 25 [.tmp 2] func361 rfl ntmps361 rfl fun _ _ _ _=>?_;refine ⟨⟨rfl,by decide⟩,?_⟩;refine ⟨⟨rfl,by decide⟩,?_⟩;refine ⟨⟨by rw [mL];omega,by rw [hr,mL];omega,by rw [hr];show _<=((16:Nat):Int);omega⟩,?_⟩;refine ⟨⟨rfl,by decide⟩,?_⟩;refine aV (fun j st=>∃ (m:Nat) (l:List UInt8),st=XK m l/\yY m ++ l=yZ n/\m<=n/\j=m) (n / 16) (XK (n / 16) [uD (n % 16)]) (bp (by repeat' (first | exact trivial | exact az rfl | exact aD (hu n hn) | exact Ox (CA rfl (by omega) (mL n) (hr n)) | refine ⟨⟨_,rfl,?_⟩,?_⟩))) ⟨n / 16,_,rfl,rfl,by omega,rfl⟩ ?_;rintro m st ⟨_,l,rfl,ht,hm,rfl⟩;refine br ?_ ?_<;>intro hL
 ·have jX:m≠0:=by simp at hL;omega
  have UY:l.length + (yY m).length<=8:=by
   rw [<- ht,List.length_append] at hlen;omega
  rw [XJ jX] at ht;refine ⟨⟨rfl,by decide⟩,?_⟩;refine ⟨⟨rfl,by decide⟩,?_⟩;refine ⟨⟨by rw [mL];omega,by rw [hr,mL];omega,by rw [hr];show _<=((16:Nat):Int);omega⟩,?_⟩;have hx:=CA (s:=ba [48,49,50,51,52,53,54,55,56,57,97,98,99,100,101,102]) rfl (k:=m % 16) (by omega) (mL m) (hr m)
  refine ⟨by
   have h1:(ByteArray.extract (ba [48,49,50,51,52,53,54,55,56,57,97,98,99,100,101,102]) ((m:Int).tmod 16).toNat (IntKind.u32.wrap ((m:Int).tmod 16 + 1)).toNat).size=1:=by rw [hx];all_goals rfl
   have h2:(ba l).size=l.length:=v7 l;have h3:∀ a b:Nat,a=1->b<=8->a + b<=9223372036854775807:=by omega
   exact h3 _ _ h1 (by rw [h2];omega),?_⟩
  refine ⟨⟨rfl,by decide⟩,?_⟩;exact ⟨XK (m / 16) (uD (m % 16) :: l),(bp (by repeat' (first | exact trivial | exact az rfl | exact aD (hu m (by omega)) | exact Ox (QB hx) | refine ⟨⟨_,rfl,?_⟩,?_⟩))),m / 16,by omega,m / 16,_,rfl,by rw [<- ht];simp [yZ],by omega,rfl⟩
 ·have h0:m=0:=by simp at hL;omega
  subst h0;rw [hexP_0,List.nil_append] at ht;rw [<- ht];exact (rfl:_=_)
def mB (z:Int):List UInt8:=if z=34 then [92,34] else if z=92 then [92,92] else if z=9 then [92,116] else if z=10 then [92,110] else if z=13 then [92,114] else []
theorem IM (z:Int):EvP prog 359 [.v (.int .i32 z)] (.v (.string (ba (mB z)))):=by
 unfold mB;refine eG 14 [.tmp 2] func359 rfl ntmps359 rfl fun _ _ _ _=>?_;refine br ?_ ?_<;>intro c
 ·rw [ap (sU c)];exact (rfl:_=_)
 rw [aj (sU c)];refine br ?_ ?_<;>intro c
 ·rw [ap (sU c)];exact (rfl:_=_)
 rw [aj (sU c)];refine br ?_ ?_<;>intro c
 ·rw [ap (sU c)];exact (rfl:_=_)
 rw [aj (sU c)];refine br ?_ ?_<;>intro c
 ·rw [ap (sU c)];exact (rfl:_=_)
 rw [aj (sU c)];refine br ?_ ?_<;>intro c
 ·rw [ap (sU c)];exact (rfl:_=_)
 rw [aj (sU c)];exact (rfl:_=_)
theorem IP {z:Int} {u:List UInt8} (h:mB z ≠ []):FX z u=mB z:=by grind [FX,mB]
theorem Ml {z:Int} {u:List UInt8} (h:mB z=[]):FX z u=if Mj z=true then [92,117,123] ++ yZ z.toNat ++ [125] else u:=by grind [FX,mB]
theorem CD:EvP prog 376 [] (.sl 2 Mg none):=by
 refine eG 4 [.tmp 0] func376 rfl ntmps376 rfl fun _ _ _ _=>?_;exact ⟨_,ax,rfl⟩
theorem Mm:EvP prog 377 [] (.sl 2 AH none):=by
 refine eG 6 [.tmp 0] func377 rfl ntmps377 rfl fun _ _ _ _=>?_;exact ⟨_,ax,rfl⟩
theorem F0:EvP prog 378 [] (.sl 2 Mi none):=by
 refine eG 19 [.tmp 0] func378 rfl ntmps378 rfl fun _ _ _ _=>?_;exact ⟨_,ax,rfl⟩
theorem yc:EvP prog 379 [] (.sl 2 Mh none):=by
 refine eG 3 [.tmp 0] func379 rfl ntmps379 rfl fun _ _ _ _=>?_;exact ⟨_,ax,rfl⟩
theorem ri (es:List (List DV)) (z:Int) (hl:es.length<=1000) (hs:es.all spB=true) (m:Int) (ho:srtB m es=true):EvP prog 356 [.sl 2 es none,.v (.int .i32 z)] (.v (.bool (es.any (uB z)))):=
 (Cg es z hl hs).mono fun d _ _ ⟨b,h1,h2⟩=>by rw [h1,h2 m ho]
theorem F3 (z:Int):EvP prog 360 [.v (.int .i32 z)] (.v (.bool (Mj z))):=by
 have hk:Ev prog 373 [.v (.int .i32 z)] [] [] (fun d _ _=>∃ k:Int,d = .v (.int .i64 k)/\(!decide (k=0))=Mj z):=by
  have h1:=ri Mg z (by decide) (by decide) (-1) (by decide);have h2:=ri AH z (by decide) (by decide) (-1) (by decide);have h3:=ri Mi z (by decide) (by decide) (-1) (by decide);have h4:=ri Mh z (by decide) (by decide) (-1) (by decide);have hB:Mj z=(((Mg.any (uB z) || AH.any (uB z)) || Mi.any (uB z)) || Mh.any (uB z)):=rfl;rw [hB];generalize Mg.any (uB z)=b1 at h1;generalize AH.any (uB z)=b2 at h2;generalize Mi.any (uB z)=b3 at h3;generalize Mh.any (uB z)=b4 at h4;generalize hT1:Mg=T1 at h1;generalize hT2:AH=T2 at h2;generalize hT3:Mi=T3 at h3;generalize hT4:Mh=T4 at h4;have c1:=CD;have c2:=Mm;have c3:=F0;have c4:=yc;rw [hT1] at c1;rw [hT2] at c2;rw [hT3] at c3;rw [hT4] at c4;refine eG 19 [.tmp 2] func373 rfl ntmps373 rfl fun _ _ _ _=>?_;refine cP aaB c1 ?_;refine cP zs h1 ?_
  cases b1 with
  | true=>exact ⟨_,rfl,rfl⟩
  | false=>
  refine cP aaC c2 ?_;refine cP zs h2 ?_
  cases b2 with
  | true=>exact ⟨_,rfl,rfl⟩
  | false=>
  refine cP aaD c3 ?_;refine cP zs h3 ?_
  cases b3 with
  | true=>exact ⟨_,rfl,rfl⟩
  | false=>
  refine cP aaE c4 ?_;refine cP zs h4 ?_
  cases b4 with
  | true=>exact ⟨_,rfl,rfl⟩
  | false=>exact ⟨_,rfl,rfl⟩
 refine eG 6 [.tmp 2] func360 rfl ntmps360 rfl fun _ _ _ _=>?_;refine bS aaA rfl hk ax (fun q hq=>?_);obtain ⟨k,rfl,hk⟩:=hq;refine (bF ?_:);exact hk
theorem IQ {n:Int} (h1:0<=n) (h2:n<=255):IntKind.u8.wrap n=n:=by
 simp [IntKind.wrap,IntKind.min,IntKind.max,IntKind.signed,IntKind.bits];omega
theorem QD {s:ByteArray} {at':Nat} (h:at' < s.size):∃ c r,(tx s).drop at'=c :: r/\eW s at'=c.toNat/\r.length + 1 + at'=s.size/\∀ n,n<=r.length + 1->s.extract at' (at' + n)=ba ((c :: r).take n):=by
 have hl:=cE s
 cases hd:(tx s).drop at' with
 | nil=>
  have:=congrArg List.length hd
  grind
 | cons c r=>
  refine ⟨c,r,rfl,?_,?_,fun n hn=>?_⟩
  ·show ((tx s).getD at' 0).toNat=_
   have:(tx s)[at']? = some c:=by
    have:=congrArg (fun l=>l[0]?) hd;simpa [List.getElem?_drop] using this
   simp [eN,this]
  ·have:=congrArg List.length hd
   grind
  ·refine pf ?_;rw [<- hd];simp [tx,List.take_drop]
theorem Tm {x y:ByteArray} {c d:UInt8} (hx:x=ba [c]) (hy:y=ba [d]):(ba [92,120] ++ x) ++ y=ba [92,120,c,d]:=by
 rw [hx,hy];exact (congrArg (·++ ba [d]) (l9 [92,120] [c])).trans (l9 _ _)
theorem Tn (l:List UInt8):(ba [92,117,123] ++ ba l) ++ ba [125]=ba ([92,117,123] ++ l ++ [125]):=
 (congrArg (·++ ba [125]) (l9 [92,117,123] l)).trans (l9 _ _)
theorem IU {a b:ByteArray} {d:DV} (h:a=b):DV.tup [.v (.string a),d]=DV.tup [.v (.string b),d]:=by rw [h]
set_option maxHeartbeats 1000000 in
theorem IV (s:ByteArray) (at':Nat) (hs:s.size<=1099511627776) (h:at' < s.size) :
  EvP prog 342 [.v (.string s),.v (.int .i64 at')] (.tup [.v (.string (ba (unT ((tx s).drop at')))),.v (.int .i64 (dV ((tx s).drop at'):Nat))]):=by
 obtain ⟨c,r,hd,hb,eM,hex⟩:=QD h;have hu:=Am s at' hs c r hd;rw [hd];have Rg:dV (c :: r)=if okU (c :: r)=true then bc c.toNat else 1:=rfl
 have hut:unT (c :: r)=if okU (c :: r)=true then FX (recV ((c :: r).take (dV (c :: r)))) ((c :: r).take (dV (c :: r))) else [92,120,uD (c.toNat / 16),uD (c.toNat % 16)]:=rfl
 have uL:=Ic (c:=c) (r:=r);have bI:=fun g=>u0 (l:=c :: r) g;have jH:=c.toNat_lt;rw [Rg] at hut;rw [Rg,hut];generalize okU (c :: r)=ok at hu uL bI ⊢;refine eG 62 [.tmp 4,.tmp 5] func342 rfl ntmps342 rfl fun _ _ _ _=>?_;refine bS NY rfl hu ax (fun q hq=>?_);obtain ⟨z,n,rfl,hn,hp⟩:=hq;refine br (fun g=>absurd g (by simp;omega)) (fun _=>?_)
 cases ok with
 | false=>
  rw [aj (by simp),aj (by simp)];have e1:IntKind.u8.wrap ((c.toNat:Int).tdiv 16)=((c.toNat / 16:Nat):Int):=by rw [Vr,IQ (by omega) (by omega)]
  have e2:IntKind.u8.wrap (((c.toNat / 16:Nat):Int) + 1)=((c.toNat / 16:Nat):Int) + 1:=IQ (by omega) (by omega);have e3:IntKind.u8.wrap (((c.toNat % 16:Nat):Int) + 1)=((c.toNat % 16:Nat):Int) + 1:=IQ (by omega) (by omega);refine ⟨⟨by omega,by omega⟩,?_⟩;rw [show eW s ((at':Int)).toNat=c.toNat from hb];have x1:=CA (s:=ba [48,49,50,51,52,53,54,55,56,57,97,98,99,100,101,102]) rfl (k:=c.toNat / 16) (by omega) e1 ((congrArg (fun z=>IntKind.u8.wrap (z + 1)) e1).trans e2);have x2:=CA (s:=ba [48,49,50,51,52,53,54,55,56,57,97,98,99,100,101,102]) rfl (k:=c.toNat % 16) (by omega) (mL c.toNat) ((congrArg (fun z=>IntKind.u8.wrap (z + 1)) (mL c.toNat)).trans e3);have l1:=congrArg ByteArray.size x1;have l2:=congrArg ByteArray.size x2;rw [v7] at l1 l2;refine dI ?_;refine ⟨⟨rfl,by decide⟩,?_⟩;refine ⟨⟨rfl,by decide⟩,?_⟩;refine ⟨⟨by rw [e1];omega,by rw [e1,e2];omega,by rw [e1,e2];show _<=((16:Nat):Int);omega⟩,?_⟩;refine ⟨Nat.le_trans (Nat.le_of_eq (congrArg (2 + ·) l1)) (by show 2 + 1<=9223372036854775807;decide),?_⟩;refine ⟨⟨rfl,by decide⟩,?_⟩;refine ⟨⟨rfl,by decide⟩,?_⟩;refine ⟨⟨by rw [mL];omega,by rw [mL,e3];omega,by rw [mL,e3];show _<=((16:Nat):Int);omega⟩,?_⟩;refine ⟨by rw [j4];exact Nat.le_trans (Nat.le_of_eq (congr (congrArg HAdd.hAdd (congrArg (2 + ·) l1)) l2)) (by show 2 + 1 + 1<=9223372036854775807;decide),?_⟩;refine ⟨.tup [.v (.string _),.v (.int .i64 _)],ax,?_⟩;exact IU (Tm x1 x2)
 | true=>
  obtain ⟨rfl,hz⟩:=hn rfl;have hnn:=KB (uL rfl);rw [<- hz] at hnn;obtain ⟨_,_,hcr,h1,h2,_⟩:=bI rfl;injection hcr with Nu nZ
  subst Nu nZ;rw [List.length_cons] at h2;rw [ap rfl,ap rfl,<- hz];refine cP aau (IM z) ?_;refine br ?_ ?_<;>intro g
  ·have bf:mB z ≠ []:=by
    intro e;rw [e] at g;simp at g
   rw [IP bf];exact ⟨_,ax,rfl⟩
  ·have he:mB z=[]:=by grind
   rw [Ml he];refine cP aav (F3 z) ?_
   cases Mj z with
   | true=>
    rw [ap rfl];have hz32:IntKind.u32.wrap z=(z.toNat:Nat):=by rw [CB (by omega) (by omega)];omega
    have hx:=QC z.toNat (by omega);rw [<- hz32] at hx;have hl:=x9 (n:=z.toNat) (by omega);refine cP aaw hx ?_;refine ⟨by show 3 + (yZ z.toNat).length<=_;omega,?_⟩;refine ⟨by rw [j4];show 3 + (yZ z.toNat).length + 1<=_;omega,?_⟩;refine ⟨.tup [.v (.string _),.v (.int .i64 _)],ax,?_⟩;exact IU (Tn _)
   | false=>
    rw [aj (by simp)];have hw:IntKind.i64.wrap ((at':Int) + (bc c.toNat:Nat))=((at' + bc c.toNat:Nat):Int):=by rw [wrap64 (by omega) (by omega)];omega
    refine ⟨⟨by omega,by rw [hw];omega,by rw [hw];omega⟩,?_⟩;refine ⟨.tup [.v (.string _),.v (.int .i64 _)],ax,?_⟩;refine IU ?_;rw [hw];exact hex _ (by omega)
theorem CE {s:ByteArray} {e:Nat} (h:¬ e < s.size):(tx s).drop e=[]:=List.drop_of_length_le (by rw [cE];omega)
theorem QE {s:ByteArray} {e:Nat} (h:e < s.size):quoU ((tx s).drop e).length ((tx s).drop e)=unT ((tx s).drop e) ++ quoU ((tx s).drop (e + dV ((tx s).drop e))).length ((tx s).drop (e + dV ((tx s).drop e))) /\
  1<=dV ((tx s).drop e)/\e + dV ((tx s).drop e)<=s.size:=by
 have bf:(tx s).drop e ≠ []:=by
  intro hc;have:=congrArg List.length hc
  grind [cE]
 obtain ⟨h1,h2⟩:=dZ bf;rw [List.length_drop,cE] at h2;refine ⟨?_,h1,by omega⟩;rw [Mk bf,List.drop_drop]
abbrev acR (s:ByteArray) (l:List UInt8) (p:DV) (e:Nat):St:=
 ⟨[(0,⟨[],.v (.string s)⟩),aE 3 0,ay 4 e],[[p,.sl 1 (bD l) (some 0)]],[⟨l.length,5,1,none⟩]⟩
theorem IW (s:ByteArray) (hs:s.size<=1099511627776):EvP prog 310 [.v (.string s)] (.v (.string (ba (ya (tx s))))):=by
 have hlen:=yb (tx s);rw [cE] at hlen;refine lX (s:=false) (bt:=[(0,160)]) (hbt:=fun p hp=>Nat.zero_le _) (P:=prog) tt fo 5000 25 [.tmp 2] func310 rfl ntmps310 rfl (nL rfl) (fun _ _ _ _=>?_);refine rf ⟨0,5,1,none⟩ ⟨[(0,⟨[],.v (.string s)⟩),aE 3 0],[[.v (.pointer none),.sl 1 [] (some 0)]],[⟨0,5,1,none⟩]⟩ rfl ⟨_,_,rfl,az rfl,_,_,rfl,az rfl,rfl⟩ rfl ⟨_,_,rfl,⟨_,_,rfl,az rfl,_,_,rfl,bL (aQ _) rfl,rfl⟩,rfl⟩ ⟨⟨_,rfl,az rfl⟩,⟨_,rfl,az rfl⟩,trivial⟩ rfl rfl ?_;refine KA (c:=34) (kt:=0) (l:=[]) rfl rfl (.head _) rfl (.inl rfl) rfl (by decide) rfl ?_;refine lI (fun j st=>∃ (e:Nat) (l:List UInt8),st=acR s l (.loc 0 0) e/\e<=s.size/\l ≠ []/\ya (tx s)=l ++ (quoU ((tx s).drop e).length ((tx s).drop e) ++ [34])/\j=s.size - e) ⟨0,[34],rfl,by omega,by simp,by rw [List.drop_zero];rfl,rfl⟩ (bp kj) ?_;rintro _ st ⟨e,l,rfl,he,bf,hq,rfl⟩;have BR:=congrArg List.length hq;rw [List.length_append,List.length_append] at BR;refine br ?_ ?_<;>intro hL
 ·have au:e < s.size:=by simp at hL;omega
  obtain ⟨aW,h1,h2⟩:=QE au;have hu:=IV s e hs au;rw [aW] at hq BR;rw [List.length_append] at BR;generalize hU:unT ((tx s).drop e)=U at hu hq BR;generalize hN:dV ((tx s).drop e)=n at hu hq BR h1 h2;have hw:IntKind.i64.wrap ((e:Int) + (n:Nat))=((e + n:Nat):Int):=by rw [wrap64 (by omega) (by omega)];omega
  refine cP aao hu ?_;refine jg rfl (l ++ U) (l:=l) (kt:=0) rfl (.head _) rfl (.inr rfl) rfl (by simp [bf]) (by rw [List.length_append];omega) rfl (fun n9=>?_);exact ⟨acR s (l ++ U) (.loc 0 0) (e + n),(bp (cY hw)),s.size - (e + n),by omega,e + n,_,rfl,h2,by simp [bf],by rw [hq];simp only [List.append_assoc],rfl⟩
 ·have hge:¬ e < s.size:=by simp at hL;omega
  rw [CE hge] at hq BR;refine KA (c:=34) (kt:=0) (l:=l) rfl rfl (.head _) rfl (.inr rfl) rfl (by simp only [List.length_nil,List.length_cons] at BR;omega) rfl ?_;refine u3 rfl (kt:=0) (l:=l ++ [34]) (.head _) rfl (by simp) (by simp) rfl rfl rfl ?_;rw [hq];exact (rfl:_=_)
def dF (v:Val):Bool:=decide (v.k=2) || (decide (v.k=3) || ((decide (v.k=9) && (decide (1<=v.n) && decide (v.n<=64))) || (decide (10<=v.k) && decide (v.k<=12))))
def oT (v:Val):List UInt8:=
 if v.k=2 then jE v.n else if v.k=3 then ya (tx v.s) else if v.k=9 then 60 :: (List.replicate v.n.toNat 42 ++ [62])
 else if v.k=10 then [60,126] ++ jE v.n ++ [62] else if v.k=11 then [60] ++ ya (tx v.s) ++ [46,46,62] else [60,35] ++ jE v.n ++ [62]
def ey (v:Val):List UInt8:=if dF v=true then oT v else []
def nmE (d:Nd) (j:Nat):List UInt8:=match d.aw[j]? with | some e=>tx e.name | none=>[]
def opnT (d:Nd) (v:Val):List UInt8:=
 if v.k=1 then (if v.n=1 then [116,114,117,101] else [102,97,108,115,101])
 else if v.k=4 then (match d.af[v.n.toNat]? with | some s=>tx s | none=>[])
 else if v.k=5 then [91] else if v.k=6 then (if v.ks=[] then [110,111,110,101] else [115,111,109,101,40]) else if v.k=7 then [123]
 else if v.k=8 then (if v.ks=[] then nmE d v.n.toNat else nmE d v.n.toNat ++ [40])
 else ey v
def nW (v:Val):List UInt8:=if v.k=5 then [93] else if v.k=7 then [125] else if v.ks=[] then [] else [41]
section
variable (ND:List Nd)
mutual
def textV:Val->Int->List UInt8
 | .mk k n s ks,i=>match bV ND i with
  | none=>[]
  | some d=>opnT d (.mk k n s ks) ++ textVs ks d n 0 ++ nW (.mk k n s ks)
def textVs:List Val->Nd->Int->Nat->List UInt8
 | [],_,_,_=>[]
 | x :: r,d,z,j=>((if j=0 then [] else [44,32]) ++ (match bH d z j with
  | none=>[]
  | some e=>(if d.ag=7 then tx e.name ++ [58,32] else []) ++ textV x e.to)) ++ textVs r d z (j + 1)
end
mutual
def ie:Val->Int->Bool
 | .mk k n s ks,i=>match bV ND i with
  | none=>false
  | some d=>if 9<=k then dF (.mk k n s ks) && decide (ks=[]) else if k≠d.ag then false else if d.ag < 5 then decide (ks=[]) && (decide (k≠4) || decide (0<=n/\n < d.af.length)) else shellF d (.mk k n s ks) && gZ ks d n 0
def gZ:List Val->Nd->Int->Nat->Bool
 | [],_,_,_=>true
 | x :: r,d,z,j=>(match bH d z j with
  | none=>false
  | some e=>ie x e.to) && gZ r d z (j + 1)
end
end
section
variable {ND:List Nd}
theorem tT:∀ {l:List Val} {d:Nd} {z:Int} {j:Nat} {x:Val},textVs ND (l ++ [x]) d z j=textVs ND l d z j ++ ((if j + l.length=0 then [] else [44,32]) ++ (match bH d z (j + l.length) with
  | none=>[]
  | some e=>(if d.ag=7 then tx e.name ++ [58,32] else []) ++ textV ND x e.to))
 | [],d,z,j,x=>by simp only [List.nil_append,textVs,List.append_nil,List.length_nil,Nat.add_zero]
 | y :: r,d,z,j,x=>by
  rw [List.cons_append,textVs,textVs,tT];simp only [List.length_cons]
  grind
theorem tU {ks:List Val} {d:Nd} {z:Int} {e:Nat} {x:Val} {ed:Ed} (h:ks[e]? = some x) (he:bH d z e=some ed) :
  textVs ND (ks.take (e + 1)) d z 0=textVs ND (ks.take e) d z 0 ++ ((if e=0 then [] else [44,32]) ++ ((if d.ag=7 then tx ed.name ++ [58,32] else []) ++ textV ND x ed.to)):=by
 have hl:(ks.take e).length=e:=by rw [zLenT];have:=(gS h).1;omega
 rw [List.take_add_one,h];show textVs ND (ks.take e ++ [x]) d z 0=_;rw [tT,hl,Nat.zero_add,he]
theorem lD:∀ {ks:List Val} {d:Nd} {z:Int} {j m:Nat} {x:Val},gZ ND ks d z j=true->ks[m]? = some x->∃ e,bH d z (j + m)=some e/\ie ND x e.to=true
 | [],_,_,_,_,_,_,h=>by simp at h
 | y :: r,d,z,j,m,x,hw,h=>by
  rw [gZ,aP] at hw
  cases m with
  | zero=>grind
  | succ m=>
   rw [show j + (m + 1)=j + 1 + m by omega];exact lD hw.2 (sU h)
theorem KC {z:Int} (h:mH z):(jE z).length<=21:=vZ h.1 h.2
theorem Mn {v:Val} (h:mH v.n) (hk:dF v=true):(oT v).length<=24 + 64 + 12 * v.s.size:=by grind [KC,yb,tx,cE,oT,dF]
end
end Go.Proofs.YtgjagnmeonoehaaGreat
set_option maxRecDepth 100000
namespace Go.Proofs
open Go.Shelf
def Tryz.lays105_ren:Go.Shelf.Ren:=⟨fun | 105=>311 | 212=>343 | 99=>344 | 165=>267 | 166=>74 | 170=>345 | 169=>76 | 263=>362 | 264=>363 | 206=>364 | 240=>149 | 241=>312 | 276=>217 | 277=>346 | n=>n,fun | 9=>9 | 3=>3 | 4=>4 | 20=>20 | 0=>0 | 46=>346 | 109=>422 | 5=>5 | 72=>160 | 76=>163 | 51=>384 | 146=>439 | 53=>295 | 148=>441 | 70=>157 | 37=>158 | 75=>162 | 127=>258 | 164=>316 | 80=>166 | n=>n,fun | n=>n⟩
theorem Tryz.lays105:Go.Proofs.Lays.n105 prog Tryz.lays105_ren:={
 mixed:=by kernel_rfl
 f99:=func344.trans (congrArg some (by kernel_rfl))
 f105:=func311.trans (congrArg some (by kernel_rfl))
 f165:=func267.trans (congrArg some (by kernel_rfl))
 f166:=func74.trans (congrArg some (by kernel_rfl))
 f169:=func76.trans (congrArg some (by kernel_rfl))
 f170:=func345.trans (congrArg some (by kernel_rfl))
 f206:=func364.trans (congrArg some (by kernel_rfl))
 f212:=func343.trans (congrArg some (by kernel_rfl))
 f240:=func149.trans (congrArg some (by kernel_rfl))
 f241:=func312.trans (congrArg some (by kernel_rfl))
 f263:=func362.trans (congrArg some (by kernel_rfl))
 f264:=func363.trans (congrArg some (by kernel_rfl))
 f276:=func217.trans (congrArg some (by kernel_rfl))
 f277:=func346.trans (congrArg some (by kernel_rfl))
 t0:=Tryz.underlying0
 a0:=Tryz.isAgg0
 z0:=Tryz.sizeOf0
 v0:=Tryz.zeroValue0
 t3:=Tryz.underlying3
 a3:=Tryz.isAgg3
 z3:=Tryz.sizeOf3
 v3:=Tryz.zeroValue3
 t4:=Tryz.underlying4
 a4:=Tryz.isAgg4
 z4:=Tryz.sizeOf4
 v4:=Tryz.zeroValue4
 t5:=Tryz.underlying5
 a5:=Tryz.isAgg5
 z5:=Tryz.sizeOf5
 v5:=Tryz.zeroValue5
 t9:=Tryz.underlying9
 a9:=Tryz.isAgg9
 z9:=Tryz.sizeOf9
 v9:=Tryz.zeroValue9
 t20:=Tryz.underlying20
 a20:=Tryz.isAgg20
 z20:=Tryz.sizeOf20
 v20:=Tryz.zeroValue20
 t37:=Tryz.underlying158
 a37:=Tryz.isAgg158
 z37:=Tryz.sizeOf158
 v37:=Tryz.zeroValue158
 t46:=Tryz.underlying346
 a46:=Tryz.isAgg346
 z46:=Tryz.sizeOf346
 v46:=Tryz.zeroValue346
 t51:=Tryz.underlying384
 a51:=Tryz.isAgg384
 z51:=Tryz.sizeOf384
 v51:=Tryz.zeroValue384
 t53:=Tryz.underlying295
 a53:=Tryz.isAgg295
 z53:=Tryz.sizeOf295
 v53:=Tryz.zeroValue295
 t70:=Tryz.underlying157
 a70:=Tryz.isAgg157
 z70:=Tryz.sizeOf157
 v70:=Tryz.zeroValue157
 t72:=Tryz.underlying160
 a72:=Tryz.isAgg160
 z72:=Tryz.sizeOf160
 v72:=Tryz.zeroValue160
 t75:=Tryz.underlying162
 a75:=Tryz.isAgg162
 z75:=Tryz.sizeOf162
 v75:=Tryz.zeroValue162
 t76:=Tryz.underlying163
 a76:=Tryz.isAgg163
 z76:=Tryz.sizeOf163
 v76:=Tryz.zeroValue163
 t109:=Tryz.underlying422
 a109:=Tryz.isAgg422
 z109:=Tryz.sizeOf422
 v109:=Tryz.zeroValue422
 t127:=Tryz.underlying258
 a127:=Tryz.isAgg258
 z127:=Tryz.sizeOf258
 v127:=Tryz.zeroValue258
 t146:=Tryz.underlying439
 a146:=Tryz.isAgg439
 z146:=Tryz.sizeOf439
 v146:=Tryz.zeroValue439
 t148:=Tryz.underlying441
 a148:=Tryz.isAgg441
 z148:=Tryz.sizeOf441
 v148:=Tryz.zeroValue441
 t164:=Tryz.underlying316
 a164:=Tryz.isAgg316
 z164:=Tryz.sizeOf316
 v164:=Tryz.zeroValue316 }
theorem Tryz.Builder_Extra_105:Builder.Extra prog Tryz.lays105_ren:={
 sizeBuilder:=by kernel_rfl
 liesBuilder:=by kernel_rfl
 t5:=Tryz.underlying5
 a5:=Tryz.isAgg5
 z5:=Tryz.sizeOf5
 v5:=Tryz.zeroValue5
 infoByte:=by kernel_rfl
 cellsByte:=by kernel_rfl
 sizeByte:=by kernel_rfl
 neB5:=by decide }
end Go.Proofs
namespace Go.Proofs.YtgjagnmeonoehaaGreat
open Go Go.RowKit Dv Go.Proofs.Tryz
theorem repeatL_one (c:UInt8):∀ n:Nat,Lib.repeatL [c] n=List.replicate n c
 | 0=>rfl
 | n + 1=>by
  have:=repeatL_one c n;simp [Lib.repeatL,List.replicate_succ] at this ⊢;exact this
theorem F4 (c:UInt8) (n:Nat) (hn:n<=64):EvP prog 311 [.v (.string (ba [c])),.v (.int .i64 n)] (.v (.string (ba (List.replicate n c)))):=by
 refine zG fun E w vs hE hv=>?_;simp only [RvL] at hv;obtain ⟨v1,s1,rfl,h1,v2,s2,rfl,h2,rfl⟩:=hv;have h1:=bq h1;have h2:=bq h2;subst h1 h2;refine (Any.strings_Repeat Tryz.lays105 Tryz.Builder_Extra_105 (ba [c]) n w (by omega) (by show 1 * n<=_;omega)).mono ?_;rintro e w' ⟨rfl,hw⟩;refine ⟨_,rfl,?_,hw⟩;unfold Rv;refine ⟨?_,rfl⟩;rw [show (ba [c]).data.toList=[c] from rfl,repeatL_one]
end Go.Proofs.YtgjagnmeonoehaaGreat
set_option maxRecDepth 100000
namespace Go.Proofs.YtgjagnmeonoehaaGreat
open Go Go.RowKit Dv Go.Proofs.Tryz
theorem Tp (a b c:List UInt8):(ba a ++ ba b) ++ ba c=ba (a ++ b ++ c):=(congrArg (·++ ba c) (l9 a b)).trans (l9 _ _)
section
variable {v:Val}
theorem lf_2 (h:v.k=2):dF v=true/\ey v=jE v.n:=by grind [dF,ey,oT]
theorem lf_3 (h:v.k=3):dF v=true/\ey v=ya (tx v.s):=by grind [dF,ey,oT]
theorem lf_9 (h:v.k=9) (h1:1<=v.n) (h2:v.n<=64):dF v=true/\ey v=60 :: (List.replicate v.n.toNat 42 ++ [62]):=by grind [dF,ey,oT]
theorem acS (h:v.k=9) (h1:¬ (1<=v.n/\v.n<=64)):dF v=false/\ey v=[]:=by grind [dF,ey]
theorem lf_10 (h:v.k=10):dF v=true/\ey v=[60,126] ++ jE v.n ++ [62]:=by grind [dF,ey,oT]
theorem lf_11 (h:v.k=11):dF v=true/\ey v=[60] ++ ya (tx v.s) ++ [46,46,62]:=by grind [dF,ey,oT]
theorem lf_12 (h:v.k=12):dF v=true/\ey v=[60,35] ++ jE v.n ++ [62]:=by grind [dF,ey,oT]
theorem acT (h:v.k≠2/\v.k≠3/\v.k≠9/\v.k≠10/\v.k≠11/\v.k≠12):dF v=false/\ey v=[]:=by grind [dF,ey]
end
theorem tV (v:Val) (hs:v.s.size<=1099511627776) (hn:mH v.n):EvP prog 261 [.agg (aZ v)] (.tup [.v (.string (ba (ey v))),.v (.bool (dF v))]):=by
 have hp:=Eb v.n hn.1 hn.2;have gn:=KC hn;have hq:=IW v.s hs;have hql:=yb (tx v.s);rw [cE] at hql;have hr:=fun (_:1<=v.n) (h2:v.n<=64)=>F4 42 v.n.toNat (by omega);have h2:=@lf_2 v;have h3:=@lf_3 v;have h9:=@lf_9 v;have h9n:=@acS v;have td:=@lf_10 v;have h11:=@lf_11 v;have h12:=@lf_12 v;have gO:=@acT v;generalize ey v=S at *;generalize dF v=B at *;obtain ⟨k,n,s,ks⟩:=v;simp only [Val.k,Val.n,Val.s] at *;refine eG 52 [.tmp 2,.tmp 3] func261 rfl ntmps261 rfl fun _ _ _ _=>?_;refine br ?_ ?_<;>intro c
 ·obtain ⟨rfl,rfl⟩:=h2 (sU c);refine cP JB hp ?_;exact ⟨.tup [.v (.string _),.v (.bool _)],ax,rfl⟩
 have c2:¬ k=2:=sU c;refine br ?_ ?_<;>intro c
 ·obtain ⟨rfl,rfl⟩:=h3 (sU c);refine cP Ut hq ?_;exact ⟨.tup [.v (.string _),.v (.bool _)],ax,rfl⟩
 have c3:¬ k=3:=sU c;refine br ?_ ?_<;>intro c
 ·have c9:k=9:=sU c;refine br ?_ ?_<;>intro g
  ·obtain ⟨rfl,rfl⟩:=h9n c9 (by simp [aq] at g;omega);exact ⟨.tup [.v (.string _),.v (.bool _)],ax,rfl⟩
  ·have g:1<=n/\n<=64:=by simp [aq] at g;omega
   obtain ⟨rfl,rfl⟩:=h9 c9 g.1 g.2;have hr:=hr g.1 g.2;rw [show ((n.toNat:Nat):Int)=n by omega] at hr;refine cP aac hr ?_;refine ⟨by show 1 + (List.replicate n.toNat (42:UInt8)).length<=_;rw [List.length_replicate];omega,?_⟩;refine ⟨by rw [j4];show 1 + (List.replicate n.toNat (42:UInt8)).length + 1<=_;rw [List.length_replicate];omega,?_⟩;refine ⟨.tup [.v (.string _),.v (.bool _)],ax,?_⟩;exact IU (Tp [60] _ [62])
 have c9:¬ k=9:=sU c;refine br ?_ ?_<;>intro c
 ·obtain ⟨rfl,rfl⟩:=td (sU c);refine cP JB hp ?_;refine ⟨by show 2 + (jE n).length<=_;omega,?_⟩;refine ⟨by rw [j4];show 2 + (jE n).length + 1<=_;omega,?_⟩;refine ⟨.tup [.v (.string _),.v (.bool _)],ax,?_⟩;exact IU (Tp [60,126] _ [62])
 have c10:¬ k=10:=sU c;refine br ?_ ?_<;>intro c
 ·obtain ⟨rfl,rfl⟩:=h11 (sU c);refine cP Ut hq ?_;refine ⟨by show 1 + (ya (tx s)).length<=_;omega,?_⟩;refine ⟨by rw [j4];show 1 + (ya (tx s)).length + 3<=_;omega,?_⟩;refine ⟨.tup [.v (.string _),.v (.bool _)],ax,?_⟩;exact IU (Tp [60] _ [46,46,62])
 have c11:¬ k=11:=sU c;refine br ?_ ?_<;>intro c
 ·obtain ⟨rfl,rfl⟩:=h12 (sU c);refine cP JB hp ?_;refine ⟨by show 2 + (jE n).length<=_;omega,?_⟩;refine ⟨by rw [j4];show 2 + (jE n).length + 1<=_;omega,?_⟩;refine ⟨.tup [.v (.string _),.v (.bool _)],ax,?_⟩;exact IU (Tp [60,35] _ [62])
 have XL:¬ k=12:=sU c;obtain ⟨rfl,rfl⟩:=gO ⟨c2,c3,c9,c10,c11,XL⟩;exact ⟨.tup [.v (.string _),.v (.bool _)],ax,rfl⟩
namespace Dv
section
variable {X:Ctx} {st:St} {k:List It}
theorem Vs {o:Oper} {t d e:Nat} {x:Operand} {es:List (List DV)} {tk:Option Nat} {n et e' jh:Nat} {bb:Bool} {z:List Value} (oK:∃ t',o.op = .binOp .neq t x (.const (.slice none 0 0)) t') (jm:o.dst=some d) (hx:rv st [] x=some (.sl e es tk)) (bf:es ≠ []) (hT:X.T.find t=some ⟨n,bb,.sl et e' jh,z⟩) (hd:ez X.nt st.sl (some d)=true)
  (hk:go X 4000 k ⟨(d,⟨[],.v (.bool true)⟩) :: st.sl,st.bx,st.tk⟩):KO X o k st:=by
 intro E a w h;obtain ⟨t',oK⟩:=oK;have e1:=aR h.rl hx;unfold Rv at e1;obtain ⟨b,m,cap,e1,⟨rfl,_⟩,hr,_⟩:=e1;obtain ⟨hu,_⟩:=eA X.hT hT;have aO:=wS hu b es.length cap w;have hb:b.isNone=false:=by rw [lQ (hr bf).1];all_goals rfl
 have cd:(execOp a.eval o).run X.P w = .ok (.value (.bool true)) w:=by
  have hc:a.eval (.const (.slice none 0 0)) = .slice none 0 0:=rfl;rw [hb] at aO;simp [execOp,oK,e1,hc,eqGuard,binOp,aO]
 refine iW cd ?_;rw [jm];exact go_sound 4000 _ _ hk E _ w (aX h hd (.v (.bool true)) _ (by unfold Rv;exact ⟨rfl,rfl⟩))
theorem QF {o:Oper} {t d et e' jh n:Nat} {x:Operand} {bb:Bool} {z:List Value} (oK:∃ t',o.op = .binOp .neq t x (.const (.slice none 0 0)) t') (jm:o.dst=some d) (hx:rv st [] x=some (.v (.slice none 0 0))) (hT:X.T.find t=some ⟨n,bb,.sl et e' jh,z⟩) (hd:ez X.nt st.sl (some d)=true)
  (hk:go X 4000 k ⟨(d,⟨[],.v (.bool false)⟩) :: st.sl,st.bx,st.tk⟩):KO X o k st:=by
 intro E a w h;obtain ⟨t',oK⟩:=oK;have e1:=aR h.rl hx;unfold Rv at e1;obtain ⟨hu,_⟩:=eA X.hT hT;have aO:=wS hu none 0 0 w
 have cd:(execOp a.eval o).run X.P w = .ok (.value (.bool false)) w:=by
  have hc:a.eval (.const (.slice none 0 0)) = .slice none 0 0:=rfl;simp [execOp,oK,e1.1,hc,eqGuard,binOp,aO]
 refine iW cd ?_;rw [jm];exact go_sound 4000 _ _ hk E _ w (aX h hd (.v (.bool false)) _ (by unfold Rv;exact ⟨rfl,rfl⟩))
end
end Dv
theorem rj (v:Val):EvP prog 262 [.agg (aZ v)] (.v (.bool (decide (v.k < 5) || decide (8 < v.k)))):=by
 obtain ⟨k,n,s,ks⟩:=v;refine eG 11 [.tmp 2] func262 rfl ntmps262 rfl fun _ _ _ _=>?_;refine (bF ?_:);simp only [aq,Val.k];rfl
section
variable {d:Nd} {v:Val}
theorem opn_1 (h:v.k=1) (g:v.n=1):opnT d v=[116,114,117,101]:=by rw [opnT,ap h,ap g]
theorem QG (h:v.k=1) (g:¬ v.n=1):opnT d v=[102,97,108,115,101]:=by rw [opnT,ap h,aj g]
theorem opn_4 {x:ByteArray} (h:v.k=4) (g:d.af[v.n.toNat]? = some x):opnT d v=tx x:=by rw [opnT,aj (by omega),ap h,g]
theorem opn_5 (h:v.k=5):opnT d v=[91]:=by rw [opnT,aj (by omega),aj (by omega),ap h]
theorem opn_6 (h:v.k=6):opnT d v=if v.ks=[] then [110,111,110,101] else [115,111,109,101,40]:=by rw [opnT,aj (by omega),aj (by omega),aj (by omega),ap h]
theorem QH (h:v.k=6) (g:v.ks=[]):opnT d v=[110,111,110,101]:=by rw [opn_6 h,ap g]
theorem QI (h:v.k=6) (g:v.ks ≠ []):opnT d v=[115,111,109,101,40]:=by rw [opn_6 h,aj g]
theorem opn_7 (h:v.k=7):opnT d v=[123]:=by rw [opnT,aj (by omega),aj (by omega),aj (by omega),aj (by omega),ap h]
theorem opn_8 {e:Ed} (h:v.k=8) (g:d.aw[v.n.toNat]? = some e):opnT d v=if v.ks=[] then tx e.name else tx e.name ++ [40]:=by grind [opnT,nmE]
theorem QJ {e:Ed} (h:v.k=8) (g:d.aw[v.n.toNat]? = some e) (c:v.ks=[]):opnT d v=tx e.name:=by rw [opn_8 h g,ap c]
theorem QK {e:Ed} (h:v.k=8) (g:d.aw[v.n.toNat]? = some e) (c:v.ks ≠ []):opnT d v=tx e.name ++ [40]:=by rw [opn_8 h g,aj c]
theorem QL (h:v.k≠1/\v.k≠4/\v.k≠5/\v.k≠6/\v.k≠7/\v.k≠8):opnT d v=ey v:=by grind [opnT]
theorem end_5 (h:v.k=5):nW v=[93]:=by rw [nW,ap h]
theorem end_7 (h:v.k=7):nW v=[125]:=by rw [nW,aj (by omega),ap h]
theorem Vt (h:v.k≠5/\v.k≠7):nW v=if v.ks=[] then [] else [41]:=by rw [nW,aj h.1,aj h.2]
theorem Vu (h:v.k≠5/\v.k≠7) (g:v.ks=[]):nW v=[]:=by rw [Vt h,ap g]
theorem acU (h:v.k≠5/\v.k≠7) (g:v.ks ≠ []):nW v=[41]:=by rw [Vt h,aj g]
end
theorem F5 (d:Nd) (v:Val) (hs:v.s.size<=1099511627776) (hn:mH v.n) (hk:v.k<=4∨9<=v.k) (h4:v.k=4->0<=v.n/\v.n < d.af.length) :
  EvP prog 264 [.agg (kO d),.agg (aZ v)] (.v (.string (ba (opnT d v)))):=by
 have hl:=tV v hs hn;have o1:=@opn_1 d v;have o2:=@QG d v;have o3:=fun x=>@opn_4 d v x;have o4:=@QL d v;generalize opnT d v=O at *;generalize ey v=S at *;generalize dF v=B at *;obtain ⟨ag,at',lo,hi,most,af,es⟩:=d;obtain ⟨k,n,s,ks⟩:=v;simp only [Val.k,Val.n] at *;refine eG 28 [.tmp 4] func264 rfl ntmps264 rfl fun _ _ _ _=>?_;refine br ?_ ?_<;>intro c
 ·have c:k=1:=sU c;refine br ?_ ?_<;>intro g
  ·rw [o1 c (sU g)];exact (rfl:_=_)
  ·rw [o2 c (sU g)];exact (rfl:_=_)
 have c1:¬ k=1:=sU c;refine br ?_ ?_<;>intro c
 ·have c4:k=4:=sU c;obtain ⟨h0,h1⟩:=h4 c4;obtain ⟨x,hx⟩:∃ x,af[n.toNat]? = some x:=⟨_,gE (by omega)⟩;rw [o3 x c4 hx];refine iX (fc hx) ?_;exact congrArg (fun q=>DV.v (.string q)) (zE x).symm
 have c4:¬ k=4:=sU c;rw [o4 (by omega)];refine cP Uo hl ?_;exact (rfl:_=_)
def tosL (d:Nd) (v:Val) (m:Nat):List Int:=(List.range m).map fun j=>match bH d v.n j with | some e=>e.to | none=>0
theorem F6 (d:Nd) (v:Val) (m:Nat):(tosL d v m).length=m:=by simp [tosL]
theorem F7 {d:Nd} {v:Val} {m j:Nat} {e:Ed} (h:bH d v.n j=some e) (hj:j < m):(tosL d v m)[j]? = some e.to:=by
 simp [tosL,hj,h]
theorem Mo {d:Nd} {v:Val} {m:Nat} {e:Ed} (h:bH d v.n m=some e):tosL d v (m + 1)=tosL d v m ++ [e.to]:=by
 simp [tosL,List.range_succ,h]
def F8 (d:Nd) (m:Nat):List (List UInt8):=(d.aw.take m).map fun e=>tx e.name ++ [58,32]
theorem QM {d:Nd} {m:Nat} {e:Ed} (h:d.aw[m]? = some e):F8 d (m + 1)=F8 d m ++ [tx e.name ++ [58,32]]:=by
 simp [F8,List.take_add_one,h]
def F9 (d:Nd):DV:=if d.ag=7 then .sl 1 (fH (F8 d d.aw.length)) none else .v (.slice none 0 0)
abbrev zF:List DV:=[.v (.string av),.v (.string av),.v (.slice none 0 0)]
abbrev IX (d:Nd) (v:Val) (l:List Int) (q e:Nat):St:=
 ⟨[aE 2 0,aE 3 1,aE 4 2,aE 6 3,(7,⟨[],.sl 1 (ox l) (some 0)⟩),ay 14 ((dVals v.ks).length),ay 15 e],[kO d,aZ v,zF,zF],[⟨q,3,1,none⟩]⟩
abbrev acV (d:Nd) (v:Val) (l:List Int) (q u:Nat):St:=
 ⟨[aE 2 0,aE 3 1,aE 4 2,aE 6 3,(7,⟨[],.sl 1 (ox l) (some 0)⟩),bh 54 10 (fN d.aw),ay 55 ((fN d.aw).length),ay 56 u],
  [kO d,aZ v,zF,[.v (.string (ba [123])),.v (.string (ba [125])),.sl 1 (fH (F8 d u)) (some 1)]],[⟨q,3,1,none⟩,⟨u,9,1,none⟩]⟩
theorem KD (d:Nd) (m:Nat) (h:m<=d.aw.length):(F8 d m).length=m:=by simp [F8];omega
theorem QN (x:ByteArray) (l:List UInt8):x ++ ba l=ba (tx x ++ l):=(congrArg (·++ ba l) (zE x)).symm.trans (l9 (tx x) l)
set_option maxHeartbeats 2000000 in
theorem AJ {L N:Nat} {d:Nd} (hN:dt L N d) (h5:5<=d.ag) (v:Val) (hv:v.wt<=1099511627776) (hk:v.k=d.ag) (x8:∀ m,m < v.ks.length->∃ e,bH d v.n m=some e) (h8:d.ag=8->0<=v.n/\v.n < d.aw.length) :
  EvP prog 263 [.agg (kO d),.agg (aZ v)] (.tup [.agg [.v (.string (ba (opnT d v))),.v (.string (ba (nW v))),F9 d],.sl 1 (ox (tosL d v v.ks.length)) none]):=by
 have Ko:=hN.k8;have Fg:=hN.many;have o5:=@opn_5 d v;have o6n:=@QH d v;have o6s:=@QI d v;have o7:=@opn_7 d v;have o8n:=fun e=>@QJ d v e;have o8s:=fun e=>@QK d v e;have e5:=@end_5 v;have e7:=@end_7 v;have en:=@Vu v;have es9:=@acU v;have hn7:d.ag=7->F9 d = .sl 1 (fH (F8 d d.aw.length)) none:=fun h=>by rw [F9,ap h]
 have hnn:d.ag≠7->F9 d = .v (.slice none 0 0):=fun h=>by rw [F9,aj h]
 have hts:=fun m e=>@Mo d v m e;have gl:=F6 d v;have uq:=fun m e=>@QM d m e;have hZ:=KD d;have hed1:∀ m e,bH d v.n m=some e->d.aw[(if d.ag=7 then (m:Int) else if d.ag=8 then v.n else 0).toNat]? = some e:=fun m e h=>by grind [bH]
 have oJ:=cF d.aw;generalize opnT d v=O at *;generalize nW v=Z at *;generalize F9 d=ND at *;have ht0:tosL d v 0=[]:=rfl;have oH:F8 d 0=[]:=rfl;generalize tosL d v=T at *;generalize Tq:F8 d=NM at *;have CF:d.ag=7∨d.ag=8->∀ e∈d.aw,e.name.size<=32:=fun h e he=>iP ((Fg h).2.2.2 e he);obtain ⟨ag,at',lo,hi,most,af,es⟩:=d;obtain ⟨k,n,s,ks⟩:=v;have de:=bl ks;have lG:=cG ks;rw [Val.wt] at hv;simp only [Val.k,Val.n,Val.ks] at *;subst hk;refine eG 90 [.cell 4 358,.tmp 5] func263 rfl ntmps263 rfl fun _ _ _ _=>?_;refine aV (fun j st=>∃ e:Nat,st=IX ⟨k,at',lo,hi,most,af,es⟩ (.mk k n s ks) (T e) e e/\e<=ks.length/\j=ks.length - e) ks.length (IX ⟨k,at',lo,hi,most,af,es⟩ (.mk k n s ks) [] 0 0) (dx 4 ⟨0,3,1,none⟩ rfl rfl rfl pP rfl rfl kj) ⟨0,by rw [ht0],by omega,by omega⟩ ?_;rintro _ st ⟨e,rfl,he,rfl⟩;refine br ?_ ?_<;>intro hL
 ·have au:e < ks.length:=by simpa [de,Val.ks] using hL
  obtain ⟨ed,IY⟩:=x8 e au;have uj:=hed1 e ed IY;have ek:ox (T e) ++ [[DV.v (.int .i64 ed.to)]]=ox (T (e + 1)):=by rw [hts e ed IY,qY]
  have CG:(ox (T e)).length=e:=by rw [kC,gl]
  have oF:∃ j',j' < ks.length - e/\∃ e':Nat,IX ⟨k,at',lo,hi,most,af,es⟩ (.mk k n s ks) (T (e + 1)) (e + 1) (e + 1)=IX ⟨k,at',lo,hi,most,af,es⟩ (.mk k n s ks) (T e') e' e' /\ e' <= ks.length/\j'=ks.length - e':=⟨ks.length - (e + 1),by omega,e + 1,rfl,by omega,rfl⟩;have GP:=(gS uj).1;refine br ?_ ?_<;>intro c
  ·have c:k=7:=sU c;rw [ap c] at uj GP;refine iX (bm uj) ?_;refine ⟨CG,⟨by rw [CG];simp [maxLen];omega,by rw [CG];simp;omega⟩,?_⟩;obtain ⟨j',h1,h2⟩:=oF;exact ⟨IX ⟨k,at',lo,hi,most,af,es⟩ (.mk k n s ks) (T (e + 1)) (e + 1) (e + 1),(dj 4 (yy (aN au (by omega)) ek) (iT (aN au (by omega)) ek)),j',h1,h2⟩
  ·have c7:¬ k=7:=sU c;rw [aj c7] at uj GP;refine br ?_ ?_<;>intro c
   ·have c:k=8:=sU c;have h8:=h8 c;rw [ap c] at uj GP;refine iX (bm uj) ?_;refine ⟨CG,⟨by rw [CG];simp [maxLen];omega,by rw [CG];simp;omega⟩,?_⟩;obtain ⟨j',h1,h2⟩:=oF;exact ⟨IX ⟨k,at',lo,hi,most,af,es⟩ (.mk k n s ks) (T (e + 1)) (e + 1) (e + 1),(dj 4 (yy (aN au (by omega)) ek) (iT (aN au (by omega)) ek)),j',h1,h2⟩
   ·have c8:¬ k=8:=sU c;rw [aj c8] at uj GP;refine ⟨_,⟨by simp at GP;omega,bm uj⟩,?_⟩;refine ⟨CG,⟨by rw [CG];simp [maxLen];omega,by rw [CG];simp;omega⟩,?_⟩;obtain ⟨j',h1,h2⟩:=oF;exact ⟨IX ⟨k,at',lo,hi,most,af,es⟩ (.mk k n s ks) (T (e + 1)) (e + 1) (e + 1),(dj 4 (yy (aN au (by omega)) ek) (iT (aN au (by omega)) ek)),j',h1,h2⟩
 have hge:e=ks.length:=by grind [Val.ks]
 subst hge;refine br ?_ ?_<;>intro c
 ·have c:k=5:=sU c;rw [hnn (by omega),o5 c,e5 c];exact ⟨_,ax,rfl⟩
 have c5:¬ k=5:=sU c;refine br ?_ ?_<;>intro c
 ·have c:k=6:=sU c;rw [hnn (by omega)];refine br ?_ ?_<;>intro g
  ·have g:ks ≠ []:=by rintro rfl;simp [de] at g
   rw [o6s c g,es9 (by omega) g];exact ⟨_,ax,rfl⟩
  ·have g:ks=[]:=sV de g;rw [o6n c g,en (by omega) g];exact ⟨_,ax,rfl⟩
 have c6:¬ k=6:=sU c;refine br ?_ ?_<;>intro c
 ·have c:k=7:=sU c;rw [hn7 c,o7 c,e7 c];have gL:=(Fg (.inl c)).1;subst Tq;refine lJ (fun u=>acV ⟨k,at',lo,hi,most,af,es⟩ (.mk k n s ks) (T ks.length) ks.length u) es.length (dx 4 ⟨0,9,1,none⟩ rfl rfl rfl pP rfl rfl kj) ?_;intro u hu;refine br ?_ ?_<;>intro hL
  ·have au:u < es.length:=sV oJ hL;obtain ⟨x,hx⟩:=gX au;have CW:=CF (.inl c) x (mG hx);have fg:(fH (F8 ⟨k,at',lo,hi,most,af,es⟩ u)).length=u:=by rw [k0,hZ u (by omega)]
   have ek:fH (F8 ⟨k,at',lo,hi,most,af,es⟩ u) ++ [[DV.v (.string (x.name ++ ba [58,32]))]]=fH (F8 ⟨k,at',lo,hi,most,af,es⟩ (u + 1)):=by grind [fH,QN]
   refine iX (bm hx) ?_;refine ⟨by show x.name.size + 2<=_;omega,?_⟩;refine ⟨fg,⟨by rw [fg];simp [maxLen];omega,by rw [fg];simp;omega⟩,?_⟩;exact rE ⟨_,by omega,u + 1,rfl,by omega,rfl⟩ (dj 4 (yy (aN au (by omega)) ek) (iT (aN au (by omega)) ek))
  ·have hge:u=es.length:=sW oJ hL;subst hge;exact ⟨_,ax,rfl⟩
 have c7:¬ k=7:=sU c;have c8:k=8:=by omega
 refine br (fun _=>?_) (fun g=>absurd c8 (sU g));have h8:=h8 c8;obtain ⟨x,hx⟩:∃ x,es[n.toNat]? = some x:=⟨_,gE (by omega)⟩;have CW:=CF (.inr c8) x (mG hx);rw [hnn (by omega)];refine iX (bm hx) ?_;refine br ?_ ?_<;>intro g
 ·have g:ks ≠ []:=by rintro rfl;simp [de] at g
  rw [o8s x c8 hx g,es9 (by omega) g,<- QN];refine ⟨by show x.name.size + 1<=_;omega,?_⟩;exact ⟨_,ax,rfl⟩
 ·have g:ks=[]:=sV de g;rw [o8n x c8 hx g,en (by omega) g,zE];exact ⟨_,ax,rfl⟩
section
variable {ND:List Nd}
theorem kh {v:Val} {i:Int} (h:ie ND v i=true):∃ d,bV ND i=some d/\((9<=v.k/\dF v=true/\v.ks=[])∨(v.k=d.ag/\d.ag < 5/\v.ks=[]/\(v.k=4->0<=v.n/\v.n < d.af.length))∨(v.k=d.ag/\5<=d.ag/\shellF d v=true/\gZ ND v.ks d v.n 0=true)):=by
 obtain ⟨k,n,s,ks⟩:=v;unfold ie at h
 cases hd:bV ND i with
 | none=>rw [hd] at h;cases h
 | some d=>
  rw [hd] at h;refine ⟨d,rfl,?_⟩;simp only at h;split at h
  ·rename_i c;rw [aP,decide_eq_true_iff] at h;exact .inl ⟨c,h.1,h.2⟩
  ·split at h
   ·cases h
   ·rename_i c;have c:k=d.ag:=Decidable.not_not.1 c;split at h
    ·rename_i c5;rw [aP,Bool.or_eq_true,decide_eq_true_iff,decide_eq_true_iff,decide_eq_true_iff] at h;exact .inr (.inl ⟨c,c5,h.1,fun c4=>h.2.resolve_left (fun g=>g c4)⟩)
    ·rename_i c5;rw [aP] at h;exact .inr (.inr ⟨c,by omega,h.1,h.2⟩)
theorem shell_8 {d:Nd} {v:Val} (h:shellF d v=true) (h8:d.ag=8):0<=v.n/\v.n < d.aw.length:=by grind [shellF]
theorem Ga {d:Nd} {z:Int} {j:Nat} {e:Ed} (h:bH d z j=some e):e∈d.aw:=by grind [bH]
theorem Tr (n:Nat):kK n ≠ []:=by
 by_cases h:n < 10
 ·rw [uN h];simp
 ·rw [BB h];simp
theorem Ts (z:Int):jE z ≠ []:=by
 unfold jE;split
 ·simp
 ·exact Tr _
theorem Gb {v:Val} (h:dF v=true):ey v ≠ []:=by grind [ey,oT,Ts,ya]
theorem AL {v:Val} (hn:mH v.n) (h:dF v=true):(ey v).length<=88 + 12 * v.s.size:=by
 rw [ey,ap h];exact Mn hn h
theorem CH {L N:Nat} {d:Nd} {v:Val} (hN:dt L N d) (hn:mH v.n) (h:(9<=v.k/\dF v=true/\v.ks=[])∨(v.k=d.ag/\d.ag < 5/\v.ks=[]/\(v.k=4->0<=v.n/\v.n < d.af.length))∨(v.k=d.ag/\5<=d.ag/\shellF d v=true/\gZ ND v.ks d v.n 0=true)) :
  opnT d v ≠ []/\(opnT d v).length<=88 + 12 * v.s.size:=by
 have pQ:=hN.k1;have Ko:=hN.k8;rcases h with ⟨h9,hb,_⟩ | ⟨hk,h5,_,h4⟩ | ⟨hk,h5,hs,_⟩
 ·grind [QL,Gb,AL]
 ·by_cases c1:v.k=1
  ·by_cases c:v.n=1
   ·rw [opn_1 c1 c];simp;omega
   ·rw [QG c1 c];simp;omega
  by_cases c4:v.k=4
  ·obtain ⟨g0,g1⟩:=h4 c4;obtain ⟨x,hx⟩:∃ x,d.af[v.n.toNat]? = some x:=⟨_,gE (by omega)⟩;have bI:=(hN.af (by omega)).2.2.2 x (mG hx);have Po:=iP bI;have jX:0 < x.size:=by simp [bd] at bI;exact bI.1
   rw [opn_4 c4 hx]
   grind [cE]
  ·grind [QL,dF,Gb,AL]
 ·have:v.k=5∨v.k=6∨v.k=7∨v.k=8:=by omega
  rcases this with c | c | c | c
  ·rw [opn_5 c];simp;omega
  ·by_cases g:v.ks=[]
   ·rw [QH c g];simp;omega
   ·rw [QI c g];simp;omega
  ·rw [opn_7 c];simp;omega
  ·obtain ⟨g0,g1⟩:=shell_8 hs (by omega);obtain ⟨x,hx⟩:∃ x,d.aw[v.n.toNat]? = some x:=⟨_,gE (by omega)⟩;have bI:=(hN.many (.inr (by omega))).2.2.2 x (mG hx);have Po:=iP bI;have jX:0 < x.name.size:=by simp [bd] at bI;exact bI.1
   have hl:=cE x.name;by_cases g:v.ks=[]
   ·grind [QJ]
   ·grind [QK]
theorem KF (v:Val):(nW v).length<=1:=by
 unfold nW
 repeat' split
 all_goals simp
end
section
variable {ND:List Nd} {L:Nat}
mutual
theorem lE (bI:∀ d∈ND,dt L ND.length d):∀ (v:Val) (i:Int),rngW v->ie ND v i=true->(textV ND v i).length + 36<=50 * v.wt
 | .mk k n s ks,i,hr,hw=>by
  obtain ⟨d,hd,hc⟩:=kh hw;have hN:=bI d (mG (bJ hd).2);rw [rngW] at hr;have h1:=(CH (v:=.mk k n s ks) hN hr.2.1 hc).2;have h2:=KF (.mk k n s ks);have hs:(Val.mk k n s ks).s=s:=rfl;rw [hs] at h1;rw [textV,hd,Val.wt];simp only [List.length_append];rcases hc with ⟨_,_,h0⟩ | ⟨_,_,h0,_⟩ | ⟨_,h5,_,h0⟩
  ·have h0:ks=[]:=h0
   grind [textVs,ch]
  ·have h0:ks=[]:=h0
   grind [textVs,ch]
  ·have:=pL bI ks d n 0 hN h5 hr.2.2 h0;omega
theorem pL (bI:∀ d∈ND,dt L ND.length d):∀ (l:List Val) (d:Nd) (z:Int) (j:Nat),dt L ND.length d->5<=d.ag->rngWs l->gZ ND l d z j=true->(textVs ND l d z j).length<=50 * ch l
 | [],d,z,j,_,_,_,_=>by rw [textVs];exact Nat.zero_le _
 | x :: r,d,z,j,hN,h5,hr,hw=>by
  rw [gZ,aP] at hw;rw [rngWs] at hr;rw [textVs,ch]
  cases he:bH d z j with
  | none=>rw [he] at hw;exact absurd hw.1 (by simp)
  | some e=>
   rw [he] at hw;have h1:=lE bI x e.to hr.1 hw.1;have h2:=pL bI r d z (j + 1) hN h5 hr.2 hw.2
   have h3:(if d.ag=7 then tx e.name ++ [58,32] else []).length<=34:=by
    split
    ·rename_i c;have:=iP ((hN.many (.inl c)).2.2.2 e (Ga he));rw [List.length_append,cE];simp;omega
    ·simp
   grind
end
theorem AM:∀ {ks:List Val} {e:Nat} {x:Val},ks[e]? = some x->ch (ks.take e) + x.wt<=ch ks
 | [],e,x,h=>by simp at h
 | y :: r,e,x,h=>by
  cases e with
  | zero=>grind [ch]
  | succ e=>
   have:=AM (ks:=r) (e:=e) (x:=x) (sU h);rw [List.take_succ_cons,ch,ch];omega
theorem KG:∀ (ks:List Val) (e:Nat),ch (ks.take e)<=ch ks
 | [],e=>by rw [List.take_nil];exact aQ _
 | y :: r,0=>by rw [List.take_zero,ch];exact Nat.zero_le _
 | y :: r,e + 1=>by
  have:=KG r e;rw [List.take_succ_cons,ch,ch];omega
theorem Gc:∀ {ks:List Val} {d:Nd} {z:Int} {j:Nat} (e:Nat),gZ ND ks d z j=true->gZ ND (ks.take e) d z j=true
 | [],_,_,_,e,h=>by rw [List.take_nil];exact h
 | y :: r,_,_,_,0,h=>by rw [List.take_zero,gZ]
 | y :: r,d,z,j,e + 1,h=>by
  rw [gZ,aP] at h;rw [List.take_succ_cons,gZ,aP];exact ⟨h.1,Gc e h.2⟩
theorem Gd:∀ {ks:List Val} (e:Nat),rngWs ks->rngWs (ks.take e)
 | [],e,h=>by rw [List.take_nil];exact h
 | y :: r,0,h=>by rw [List.take_zero,rngWs];trivial
 | y :: r,e + 1,h=>by
  rw [rngWs] at h;rw [List.take_succ_cons,rngWs];exact ⟨h.1,Gd e h.2⟩
end
structure Chg where
 k:Int
 p:List Stp
 x:Option Val
 y:Option Val
def itmS (j:Nat):Stp:=⟨2,j,av⟩
def addC (p:List Stp):List Val->Nat->List Chg
 | [],_=>[]
 | y :: r,j=>⟨2,p ++ [itmS j],none,some y⟩ :: addC p r (j + 1)
section
variable (ND:List Nd)
end
end Go.Proofs.YtgjagnmeonoehaaGreat
set_option maxRecDepth 100000
namespace Go.Proofs.YtgjagnmeonoehaaGreat
open Go Go.RowKit Dv Tryz
abbrev bO (p:DV) (l:List UInt8):List DV:=[p,.sl 1 (bD l) (some 0)]
abbrev bT (l:List UInt8):List TkE:=[⟨l.length,5,1,none⟩]
def XM (y:Val) (l:List UInt8) (r:DV) (os:List (List DV)) (bY:List TkE):Prop:=r = .tup []/\os=[aZ y,bO (.loc 1 0) l]/\bY=bT l
abbrev AN (y:Val) (PC:List DV) (d:Nd) (v:Val) (O Z:List UInt8) (NM:DV) (T:List Int) (L:List UInt8) (e:Nat):St:=
 ⟨[(0,⟨[],.loc 1 0⟩),(1,⟨[],.pt PC 0⟩),(10,⟨[],.loc 4 0⟩),(11,⟨[],.sl 1 (ox T) none⟩),(38,⟨[],.sl 4 (dVals v.ks) none⟩),(39,⟨[],.v (.int .i64 (dVals v.ks).length)⟩),(40,⟨[],.v (.int .i64 e)⟩)],
  [aZ y,bO (.loc 1 0) L,aZ v,kO d,[.v (.string (ba O)),.v (.string (ba Z)),NM]],bT L⟩
theorem mC {S:Sch} {ND:List Nd} {PC:List DV} (hP:eT S ND PC) (y:Val):∀ (k:Nat) (v:Val),v.wt<=k->v.wt<=1099511627776->rngW v->∀ i:Int,ie ND v i=true->∀ (l:List UInt8) (p:DV),p = .v (.pointer none)∨p = .loc 1 0->l.length + 50 * v.wt<=140737488355328 ->
  RJ false Tryz.prog 219 [.loc 1 0,.pt PC 0,.v (.int .i64 i),.agg (aZ v)] [aZ y,bO p l] (bT l) [(1,160)] (XM y (l ++ textV ND v i))
 | 0,v,h,_=>by have:=v.dy;omega
 | k + 1,v,h,hb=>fun hr i hw l p hp hl=>by
  have ih:=mC hP y k;obtain ⟨yk,yn,ys,yl⟩:=y;obtain ⟨d,hd,hc⟩:=kh hw;obtain ⟨h0,hg⟩:=bJ hd;obtain ⟨j,rfl⟩:∃ j:Nat,i=j:=⟨i.toNat,by omega⟩;have hg:ND[j]? = some d:=by simpa using hg
  have hN:=hP.ok d (mG hg);have pQ:=hN.k1;have Ko:=hN.k8;have dE:=hP.ah j d hg;have gn:=rj v;obtain ⟨hon,kZ⟩:=CH hN (by obtain ⟨_,_,_,_⟩:=v;rw [rngW] at hr;exact hr.2.1) hc;have hol2:(opnT d v).length + 1<=50 * (64 + v.s.size):=by omega
  have gl:=lE hP.ok v j hr hw
  have hT:textV ND v j=opnT d v ++ textVs ND v.ks d v.n 0 ++ nW v:=by
   obtain ⟨q,z,s,ks⟩:=v;rw [textV,hd];rfl
  have hvw:v.wt=64 + v.s.size + ch v.ks:=by obtain ⟨q,z,s,ks⟩:=v;rfl
  have KH:=fun a b=>F5 d v (by omega) (by obtain ⟨_,_,_,_⟩:=v;rw [rngW] at hr;exact hr.2.1) a b;by_cases c9:v.k < 5∨8 < v.k
  ·have hk0:v.ks=[]:=by grind
   have h4:v.k=4->0<=v.n/\v.n < d.af.length:=by omega
   have KH:=KH (by omega) h4;have oF:nW v=[]:=Vu (by omega) hk0;rw [hk0,oF,textVs,List.append_nil,List.append_nil] at hT;rw [hT] at gl ⊢;rw [show (decide (v.k < 5) || decide (8 < v.k))=true by simpa using c9] at gn;generalize opnT d v=O at *;clear hc hT;obtain ⟨q,z,s,ks⟩:=v;obtain ⟨ag,at',lo,hi,most,af,es⟩:=d;refine lW (s:=false) (bt:=[(1,160)]) (mu:=[]) (fr:=false) (P:=Tryz.prog) tt fo 5000 72 [] Tryz.func219 rfl Tryz.ntmps219 rfl (nL rfl) (fun E9 w9 hn9 hm9=>?_);refine call_p mR (dE) ax rfl ?_;refine call_p JF (gn) ax rfl ?_;refine call_p Z1 (KH) ax rfl ?_;refine jg rfl (l ++ O) (l:=l) (kt:=0) rfl (.head _) rfl hp rfl (by simp [hon]) (by rw [List.length_append];omega) rfl (fun n9=>?_);exact ⟨.tup [],[aZ ⟨yk,yn,ys,yl⟩,bO (.loc 1 0) (l ++ O)],aL,aL,rfl,rfl,rfl⟩
  ·obtain ⟨hk,h5,yX,FO⟩:v.k=d.ag/\5<=d.ag/\shellF d v=true/\gZ ND v.ks d v.n 0=true:=by grind
   clear KH;have x8:∀ m,m < v.ks.length->∃ e,bH d v.n m=some e/\ie ND (v.ks[m]?.getD v) e.to=true:=fun m hm=>by grind [lD]
   have UH:=AJ hN h5 v hb hk (fun m hm=>(x8 m hm).imp fun e h=>h.1) (fun c=>shell_8 yX c);rw [show (decide (v.k < 5) || decide (8 < v.k))=false by simp;omega] at gn;have mW:=fun e (he:e<=v.ks.length)=>pL hP.ok (v.ks.take e) d v.n 0 hN h5 (Gd e (by obtain ⟨_,_,_,_⟩:=v;rw [rngW] at hr;exact hr.2.2)) (Gc e FO);have VY:=KG v.ks;have oJ:=KF v;have hT7:d.ag=7->F9 d = .sl 1 (fH (F8 d d.aw.length)) none:=fun c=>by rw [F9,if_pos c]
   have hTn:d.ag≠7->F9 d = .v (.slice none 0 0):=fun c=>by rw [F9,if_neg c]
   have acW:∀ (n m:Nat) (tk:List TkE),We n m tk (F9 d) (F9 d):=fun n m tk=>by
    by_cases c:d.ag=7
    ·rw [hT7 c];exact az rfl
    ·rw [hTn c];exact az rfl
   have htg:=fun m e h1 h2=>@F7 d v v.ks.length m e h1 h2;have hNL:=KD d d.aw.length (Nat.le_refl _);have hNg:∀ (m:Nat) (e:Ed),d.ag=7->bH d v.n m=some e->(fH (F8 d d.aw.length))[m]? = some [.v (.string (ba (tx e.name ++ [58,32])))]:=fun m e c h=>by grind [bH,fH,F8]
   have uq:∀ e∈d.aw,d.ag=7->e.name.size<=32:=fun e he c=>iP ((hN.many (.inl c)).2.2.2 e he);have hXs:=fun e x ed (h1:v.ks[e]? = some x) (h2:bH d v.n e=some ed)=>tU (ND:=ND) h1 h2;have hX0:textVs ND (v.ks.take 0) d v.n 0=[]:=by rw [List.take_zero,textVs]
   have hXf:textVs ND (v.ks.take v.ks.length) d v.n 0=textVs ND v.ks d v.n 0:=by rw [List.take_length]
   rw [hT] at gl ⊢;rw [<- hXf];generalize W2:(fun e=>textVs ND (v.ks.take e) d v.n 0)=X at *;have hX:∀ e,textVs ND (v.ks.take e) d v.n 0=X e:=fun e=>by rw [<- W2]
   simp only [hX] at hXs hX0 mW ⊢;generalize opnT d v=O at *;generalize nW v=Z at *;generalize F9 d=NM at *;generalize tosL d v v.ks.length=T at *;generalize F8 d d.aw.length=M at *;clear hc hT hXf yX gl hX W2;obtain ⟨q,z,s,ks⟩:=v;obtain ⟨ag,at',lo,hi,most,af,es⟩:=d;have de:=bl ks;have lG:=cG ks;simp only [Val.k,Val.n,Val.s,Val.ks] at *;refine lW (s:=false) (bt:=[(1,160)]) (mu:=[]) (fr:=false) (P:=Tryz.prog) tt fo 5000 72 [] Tryz.func219 rfl Tryz.ntmps219 rfl (nL rfl) (fun E9 w9 hn9 hm9=>?_);refine call_p mR (dE) ax rfl ?_;refine call_p JF (gn) ax rfl ?_;refine call_p Up (UH) ax rfl ?_;refine jg rfl (l ++ O) (l:=l) (kt:=0) rfl (.head _) rfl hp rfl (by simp [hon]) (by rw [List.length_append];omega) rfl (fun n9=>?_);refine aV (fun j st=>∃ e:Nat,st=AN ⟨yk,yn,ys,yl⟩ PC ⟨ag,at',lo,hi,most,af,es⟩ (.mk q z s ks) O Z NM T (l ++ O ++ X e) e/\e<=ks.length/\j=ks.length - e) ks.length (AN ⟨yk,yn,ys,yl⟩ PC ⟨ag,at',lo,hi,most,af,es⟩ (.mk q z s ks) O Z NM T (l ++ O) 0) (weak_b 5 rfl (by repeat' (first | exact rfl | exact az rfl | exact acW _ _ _ | refine ⟨_,_,rfl,?_,?_⟩)) rfl rfl rfl (by repeat' (first | exact trivial | exact az rfl | exact acW _ _ _ | refine ⟨⟨_,rfl,?_⟩,?_⟩))) ⟨0,by rw [hX0,List.append_nil],by omega,by omega⟩ ?_;rintro _ st ⟨e,rfl,he,rfl⟩;have hXl:=mW e he;refine br (fun hL=>?_) (fun hL=>?_)
   ·have au:e < ks.length:=by simpa [de,Val.ks] using hL
    obtain ⟨ed,IY,XC⟩:=x8 e au;obtain ⟨x,hx⟩:∃ x,ks[e]? = some x:=⟨_,gE au⟩;rw [hx] at XC;have UW:=du (mG hx);have hxt:=AM hx;have YH:rngW x:=by rw [rngW] at hr;exact di hr.2.2 (mG hx)
    have yz:=fun (L1:List UInt8) h1=>ih x (by omega) (by omega) YH ed.to XC L1 (.loc 1 0) (.inr rfl) h1;have QO:=hXs e x ed hx IY;have hTg:=htg e ed IY au;have Ci:=fun c=>hNg e ed c IY;have Tt:=uq ed (Ga IY);generalize textV ND x ed.to=t at yz QO;obtain ⟨xk,xn,xs,xl⟩:=x;refine ⟨_,⟨by omega,cp (by simpa [Val.ks] using hx)⟩,?_⟩;refine br (fun c=>?_) (fun c=>?_)
    ·have c:e≠0:=by rintro rfl;simp at c
     rw [if_neg c] at QO;refine jg rfl (l ++ O ++ X e ++ [44,32]) (l:=l ++ O ++ X e) (kt:=0) rfl (.head _) rfl (.inr rfl) rfl (by simp) (by simp only [List.length_append,List.length_cons,List.length_nil];omega) rfl (fun n9=>?_);by_cases c7:ag=7
     ·have Ci:=Ci c7;have Tt:=Tt c7;have Tq:=hT7 c7;subst Tq;rw [if_pos c7] at QO;refine Vs ⟨_,rfl⟩ rfl rfl (by intro h9;rw [h9] at Ci;simp at Ci) rfl rfl ?_;refine ⟨_,⟨by omega,Ci⟩,?_⟩;refine jg rfl ((l ++ O ++ X e ++ [44,32]) ++ (tx ed.name ++ [58,32])) (l:=(l ++ O ++ X e ++ [44,32])) (kt:=0) rfl (.head _) rfl (.inr rfl) rfl (by simp) (by simp only [List.length_append,List.length_cons,List.length_nil,cE];omega) rfl (fun n9=>?_);refine e9 (fun i=>Nat.beq i 7) mo (by decide +kernel) ?_;refine ⟨_,⟨by omega,oy hTg⟩,?_⟩;have XN:(l ++ O ++ X e ++ [44,32]) ++ (tx ed.name ++ [58,32]) ++ t=l ++ O ++ X (e + 1):=by rw [QO];simp only [List.append_assoc]
      refine eD rfl (fx 2 1 zr rfl rfl rfl aL aL (yz ((l ++ O ++ X e ++ [44,32]) ++ (tx ed.name ++ [58,32])) (by simp only [List.length_append,List.length_cons,List.length_nil,cE];omega)) (fun r fX bX hΦ h1 h2=>?_));rw [XN] at hΦ;obtain ⟨rfl,rfl,rfl⟩:=hΦ;exact ⟨AN ⟨yk,yn,ys,yl⟩ PC ⟨ag,at',lo,hi,most,af,es⟩ (.mk q z s ks) O Z _ T (l ++ O ++ X (e + 1)) (e + 1),(weak_b 5 rfl (wNA au) rfl rfl rfl (wNB au)),ks.length - (e + 1),by omega,e + 1,rfl,by omega,rfl⟩
     ·have Tq:=hTn c7;subst Tq;rw [if_neg c7,List.nil_append] at QO;refine QF ⟨_,rfl⟩ rfl rfl rfl rfl ?_;refine e9 (fun i=>Nat.beq i 7) mo (by decide +kernel) ?_;refine ⟨_,⟨by omega,oy hTg⟩,?_⟩;have XN:(l ++ O ++ X e ++ [44,32]) ++ t=l ++ O ++ X (e + 1):=by rw [QO];simp only [List.append_assoc]
      refine eD rfl (fx 2 1 zr rfl rfl rfl aL aL (yz (l ++ O ++ X e ++ [44,32]) (by simp only [List.length_append,List.length_cons,List.length_nil];omega)) (fun r fX bX hΦ h1 h2=>?_));rw [XN] at hΦ;obtain ⟨rfl,rfl,rfl⟩:=hΦ;exact ⟨AN ⟨yk,yn,ys,yl⟩ PC ⟨ag,at',lo,hi,most,af,es⟩ (.mk q z s ks) O Z _ T (l ++ O ++ X (e + 1)) (e + 1),(weak_b 5 rfl (wNA au) rfl rfl rfl (wNB au)),ks.length - (e + 1),by omega,e + 1,rfl,by omega,rfl⟩
    ·have c:e=0:=by simp at c;omega
     rw [if_pos c,List.nil_append] at QO;by_cases c7:ag=7
     ·have Ci:=Ci c7;have Tt:=Tt c7;have Tq:=hT7 c7;subst Tq;rw [if_pos c7] at QO;refine Vs ⟨_,rfl⟩ rfl rfl (by intro h9;rw [h9] at Ci;simp at Ci) rfl rfl ?_;refine ⟨_,⟨by omega,Ci⟩,?_⟩;refine jg rfl ((l ++ O ++ X e) ++ (tx ed.name ++ [58,32])) (l:=(l ++ O ++ X e)) (kt:=0) rfl (.head _) rfl (.inr rfl) rfl (by simp) (by simp only [List.length_append,List.length_cons,List.length_nil,cE];omega) rfl (fun n9=>?_);refine e9 (fun i=>Nat.beq i 7) mo (by decide +kernel) ?_;refine ⟨_,⟨by omega,oy hTg⟩,?_⟩;have XN:(l ++ O ++ X e) ++ (tx ed.name ++ [58,32]) ++ t=l ++ O ++ X (e + 1):=by rw [QO];simp only [List.append_assoc]
      refine eD rfl (fx 2 1 zr rfl rfl rfl aL aL (yz ((l ++ O ++ X e) ++ (tx ed.name ++ [58,32])) (by simp only [List.length_append,List.length_cons,List.length_nil,cE];omega)) (fun r fX bX hΦ h1 h2=>?_));rw [XN] at hΦ;obtain ⟨rfl,rfl,rfl⟩:=hΦ;exact ⟨AN ⟨yk,yn,ys,yl⟩ PC ⟨ag,at',lo,hi,most,af,es⟩ (.mk q z s ks) O Z _ T (l ++ O ++ X (e + 1)) (e + 1),(weak_b 5 rfl (wNA au) rfl rfl rfl (wNB au)),ks.length - (e + 1),by omega,e + 1,rfl,by omega,rfl⟩
     ·have Tq:=hTn c7;subst Tq;rw [if_neg c7,List.nil_append] at QO;refine QF ⟨_,rfl⟩ rfl rfl rfl rfl ?_;refine e9 (fun i=>Nat.beq i 7) mo (by decide +kernel) ?_;refine ⟨_,⟨by omega,oy hTg⟩,?_⟩;have XN:(l ++ O ++ X e) ++ t=l ++ O ++ X (e + 1):=by rw [QO];simp only [List.append_assoc]
      refine eD rfl (fx 2 1 zr rfl rfl rfl aL aL (yz (l ++ O ++ X e) (by simp only [List.length_append,List.length_cons,List.length_nil];omega)) (fun r fX bX hΦ h1 h2=>?_));rw [XN] at hΦ;obtain ⟨rfl,rfl,rfl⟩:=hΦ;exact ⟨AN ⟨yk,yn,ys,yl⟩ PC ⟨ag,at',lo,hi,most,af,es⟩ (.mk q z s ks) O Z _ T (l ++ O ++ X (e + 1)) (e + 1),(weak_b 5 rfl (wNA au) rfl rfl rfl (wNB au)),ks.length - (e + 1),by omega,e + 1,rfl,by omega,rfl⟩
   ·have hge:e=ks.length:=by grind [Val.ks]
    subst hge;have hw9:=VY ks.length;rw [<- List.append_assoc,<- List.append_assoc];refine jg rfl (l ++ O ++ X ks.length ++ Z) (l:=l ++ O ++ X ks.length) (kt:=0) rfl (.head _) rfl (.inr rfl) rfl (by simp [hon]) (by simp only [List.length_append];omega) rfl (fun n9=>?_);exact ⟨.tup [],[aZ ⟨yk,yn,ys,yl⟩,bO (.loc 1 0) (l ++ O ++ X ks.length ++ Z)],aL,aL,rfl,rfl,rfl⟩
end Go.Proofs.YtgjagnmeonoehaaGreat
set_option maxRecDepth 100000
namespace Go.Proofs.YtgjagnmeonoehaaGreat
open Go Go.RowKit Dv Go.Proofs.Tryz
theorem CI {v:Val} (h:rngW v):mH v.n:=by obtain ⟨_,_,_,_⟩:=v;rw [rngW] at h;exact h.2.1
theorem Ge {L:Nat} {ND:List Nd} (bI:∀ d∈ND,dt L ND.length d) {v:Val} {i:Int} (hr:rngW v) (h:ie ND v i=true):textV ND v i ≠ []:=by
 obtain ⟨d,hd,hc⟩:=kh h;have h1:=(CH (bI d (mG (bJ hd).2)) (CI hr) hc).1;obtain ⟨k,n,s,ks⟩:=v;rw [textV,hd];simp [h1]
def Tu (ND:List Nd) (x:Val) (i:Int) (B:Bool):List UInt8:=if B=true then textV ND x i else []
theorem CJ {S:Sch} {ND:List Nd} {PC:List DV} (hP:eT S ND PC) (x:Val) (hx:x.wt<=1099511627776) (mU:rngW x) (o:Int) (B:Bool) (fT:EvP prog 58 [.pt PC 0,.v (.int .i64 o),.agg (aZ x)] (.v (.bool B))) (hw:B=true->ie ND x (cr S)=true) :
  EvP prog 226 [.pt PC 0,.v (.int .i64 o),.agg (aZ x)] (.tup [.v (.string (ba (Tu ND x (cr S) B))),.v (.bool B)]):=by
 have cW:=hP.root;have bf:=fun h=>Ge hP.ok mU (hw h);have HI:=fun h p hp=>mC hP x x.wt x (aQ _) hx mU (cr S) (hw h) [] p hp (by rw [List.length_nil];omega);unfold Tu;simp only [List.nil_append] at HI;generalize textV ND x (cr S)=T at *;generalize cr S=rt at *;clear hw;obtain ⟨k,n,s,ks⟩:=x;refine lX (s:=false) (bt:=[(1,160)]) (hbt:=fun p hp=>Nat.zero_le _) (P:=prog) tt fo 5000 20 [.tmp 6,.tmp 7] func226 rfl ntmps226 rfl (nL rfl) (fun _ _ _ _=>?_);refine cP RX fT ?_
 cases B with
 | false=>
  rw [aj (by simp)];exact ⟨.tup [.v (.string _),.v (.bool _)],ax,rfl⟩
 | true=>
  rw [ap rfl];refine e9 (fun i=>Nat.beq i 4) mo (by decide +kernel) ?_;refine cD uu cW ?_;refine eD rfl (rf ⟨0,5,1,none⟩ ⟨[aE 8 1],[aZ (.mk k n s ks),[.v (.pointer none),.sl 1 [] (some 0)]],[⟨0,5,1,none⟩]⟩ rfl ?_ rfl ?_ ⟨⟨_,rfl,az rfl⟩,trivial⟩ rfl rfl ?_)
  ·repeat' (first | exact rfl | exact az rfl | refine ⟨_,_,rfl,?_,?_⟩)
  ·repeat' (first | exact rfl | exact az rfl | exact bL (aQ _) rfl | refine ⟨_,_,rfl,?_,?_⟩)
  refine fx 2 1 zr rfl rfl rfl fA fA (HI rfl (.v (.pointer none)) (.inl rfl)) (fun r fX bX hΦ h1 h2=>?_);obtain ⟨rfl,rfl,rfl⟩:=hΦ;refine u3 rfl (kt:=0) (l:=T) (.head _) rfl (bf rfl) rfl rfl rfl rfl ?_;exact ⟨.tup [.v (.string _),.v (.bool _)],ax,rfl⟩
section
variable {ND:List Nd} {f:Nat->Nat->Bool} {L obs:Nat}
theorem Tv {v:Val} {i:Int} {d:Nd} (hd:bV ND i=some d) (h9:9<=v.k) (hb:dF v=true) (hk:v.ks=[]):ie ND v i=true:=by
 obtain ⟨k,n,s,ks⟩:=v;have hk:ks=[]:=hk;subst hk;have h9:9<=k:=h9
 grind [ie]
theorem yd {v:Val} {i:Int} {d:Nd} {k n:Int} {s:ByteArray} (hd:bV ND i=some d) (h:cX v k n s=true) (hk:(k=9/\1<=n/\n<=64)∨k=10∨k=11∨k=12):ie ND v i=true:=by
 rw [pJ.1 h];refine Tv hd (by show 9<=k;omega) ?_ rfl
 grind [dF,Val.k,Val.n]
theorem Tw {v:Val} {i:Int} {d:Nd} {e:Ed} {t:Nd} (hd:bV ND i=some d) (hw:1<=e.wide/\e.wide<=64) (h:iQ e t v=true):ie ND v i=true:=by grind [iQ,yd]
mutual
theorem KI (bI:∀ n∈ND,dt L ND.length n):∀ (v:Val) (i:Int) (a:Nat),seeV ND f L obs v i a=true->ie ND v i=true
 | .mk k n s ks,i,a,h=>by
  rw [seeV] at h
  cases hd:bV ND i with
  | none=>rw [hd] at h;cases h
  | some d=>
   rw [hd] at h;simp only at h;have hN:=bI d (mG (bJ hd).2);have Ko:=hN.k8;rw [ie,hd];simp only;split at h
   ·rename_i c5;obtain ⟨d',hF⟩:=dL bI h;have Vk:=hF.ah;rw [hd] at Vk;injection Vk with Vk
    subst Vk;have h1:k=d.ag:=hF.k;have h2:ks=[]:=hF.leaf c5;have h3:=hF.enum;rw [aj (by omega),aj (by omega),ap c5,h2];simp only [decide_true,Bool.true_and,Bool.or_eq_true,decide_eq_true_iff];by_cases c4:k=4
    ·exact .inr (h3 (by omega))
    ·exact .inl c4
   ·rename_i c5;rw [aP] at h
    have hk:k=d.ag:=by
     by_cases c:k=d.ag
     ·exact c
     ·have:=h.1;unfold shellF at this;rw [ap (.inl c)] at this;cases this
    rw [aj (by omega),aj (by omega),aj c5,aP];exact ⟨h.1,Gf bI ks d n a 0 hN (fun m hm=>by rw [Nat.zero_add];exact sN hN (by omega) h.1 hm) h.2⟩
theorem Gf (bI:∀ n∈ND,dt L ND.length n):∀ (l:List Val) (d:Nd) (z:Int) (a j:Nat),dt L ND.length d->(∀ m,m < l.length->∃ e,acG ND d z (j + m) e)->seeVs ND f L obs l d z a j=true->gZ ND l d z j=true
 | [],_,_,_,_,_,_,_=>by rw [gZ]
 | x :: r,d,z,a,j,hN,hK,h=>by
  rw [seeVs,aP] at h;rw [gZ,aP];refine ⟨?_,Gf bI r d z a (j + 1) hN (fun m hm=>by have:=hK (m + 1) (by rw [List.length_cons];omega);rwa [show j + (m + 1)=j + 1 + m by omega] at this) h.2⟩;obtain ⟨e,hE⟩:=hK 0 (by simp);have he:=hE.fD;rw [Nat.add_zero] at he;have h1:=h.1;rw [he] at h1 ⊢;simp only at h1 ⊢;obtain ⟨g1,t,ht⟩:=Fp hN hE.mem hE.bare;have hw:=(hN.fD e hE.mem).wide;split at h1
  ·exact KI bI x e.to _ h1
  ·grind [Tw,yd]
end
theorem rm (bI:∀ n∈ND,dt L ND.length n) {rt:Nat} {o:Int} {v:Val} (h:uC ND f L rt o v=true):ie ND v (rt:Nat)=true:=by grind [uC,KI]
end
theorem CK {S:Sch} {ND:List Nd} {PC LC:List DV} (hP:eT S ND PC) (ej:EvP prog 72 [.pt PC 0] (.pt LC 0)) (hR:pA S.ae.length (aK S) (aA S.ae) LC) (yW:∀ n∈ND,xU n) (bZ:∀ n∈ND,n.aw.length<=1099511627776) (rt:Nat) (oS:cr S=rt) (eM:rt < ND.length) (o:Int) (x:Val) (hx:x.wt<=1099511627776) (mU:rngW x) :
  EvP prog 226 [.pt PC 0,.v (.int .i64 o),.agg (aZ x)] (.tup [.v (.string (ba (Tu ND x (rt:Nat) (uC ND (aK S) S.ae.length rt o x)))),.v (.bool (uC ND (aK S) S.ae.length rt o x))]):=by
 rw [<- oS];exact CJ hP x hx mU o _ (tR hP ej hR yW bZ rt oS eM o x hx mU) (fun h=>by rw [oS];exact rm hP.ok h)
end Go.Proofs.YtgjagnmeonoehaaGreat
set_option maxRecDepth 100000
namespace Go.Proofs.YtgjagnmeonoehaaGreat
open Go Go.RowKit
namespace Dv
section
variable {X:Ctx} {st:St}
theorem xe {i j:Nat} {s S:St} (h:o9 s (fk i j S):=by refine (⟨rfl,rfl,?_⟩:_/\_/\_);repeat' (first | exact trivial | refine ⟨rfl,?_⟩)):(s=S∨o9 s S)∨o9 s (fk i j S):=.inr h
end
end Dv
end Go.Proofs.YtgjagnmeonoehaaGreat
set_option maxRecDepth 100000
namespace Go.Proofs.YtgjagnmeonoehaaGreat
open Go Go.RowKit Dv Go.Proofs.Tryz
def MY (x:Val) (a:Nat) (k:Val):Val:=.mk x.k x.n x.s (x.ks.set a k)
theorem shell_67 {d:Nd} {v:Val} (h:shellF d v=true):(d.ag=6->v.ks.length < 2)/\(d.ag=7->v.ks.length=d.aw.length)/\(d.ag=8->v.ks.length < 2/\∃ e,d.aw[v.n.toNat]? = some e/\decide (v.ks.length=0)=e.bare):=by
 refine ⟨fun c=>?_,fun c=>?_,fun c=>?_⟩
 ·rw [shellF_567 (.inr (.inl c))] at h;simp [c] at h;omega
 ·rw [shellF_567 (.inr (.inr c))] at h;simp [c] at h;omega
 ·rw [shellF_8 c] at h;split at h
  ·cases h
  ·cases hg:d.aw[v.n.toNat]? with
   | none=>rw [hg] at h;cases h
   | some e=>
    rw [hg] at h;simp only [aP,beq_iff_eq,decide_eq_true_eq] at h;exact ⟨h.2,e,rfl,h.1⟩
abbrev alSt (PC:List DV) (d:Nd) (v:Val) (T:List Int) (e:Nat):St:=
 ⟨[mQ 0 PC,aE 5 0,aE 7 1,bh 12 1 (ox T),bh 143 4 (dVals v.ks),ay 144 ((dVals v.ks).length),ay 145 e],[aZ v,kO d],[]⟩
theorem rq {S:Sch} {ND:List Nd} {PC:List DV} (hP:eT S ND PC):∀ (k:Nat) (v:Val),v.wt<=k->v.wt<=1099511627776->rngW v->∀ i:Int,ie ND v i=true ->
  EvP prog 218 [.pt PC 0,.v (.int .i64 i),.agg (aZ v)] (.v (.bool true))
 | 0,v,h,_=>by have:=v.dy;omega
 | k + 1,v,h,hb=>fun hr i hw=>by
  have ih:=rq hP k;obtain ⟨d,hd,hc⟩:=kh hw;obtain ⟨h0,hg⟩:=bJ hd;obtain ⟨j,rfl⟩:∃ j:Nat,i=j:=⟨i.toNat,by omega⟩;have hg:ND[j]? = some d:=sU hg;have hN:=hP.ok d (mG hg);have Ko:=hN.k8;have dE:=hP.ah j d hg;have gn:=rj v;have hvw:v.wt=64 + v.s.size + ch v.ks:=by obtain ⟨q,z,s,ks⟩:=v;rfl
  have lG:=cG v.ks;have yC:=tV v (by omega) (CI hr);have XB:=my hr;have de:=bl v.ks;have oJ:=cF d.aw;have hZ:=cg d.af;by_cases c9:9<=v.k
  ·obtain ⟨hB,FO⟩:dF v=true/\v.ks=[]:=by
    rcases hc with h | h | h
    ·exact h.2
    ·omega
    ·omega
   rw [hB] at yC;generalize ey v=T at yC;obtain ⟨ag,at',lo,hi,most,af,es⟩:=d;obtain ⟨q,z,s,ks⟩:=v;simp only [Val.ks,Val.k] at FO c9;subst FO;refine eG 159 [.tmp 6] func218 rfl ntmps218 rfl fun _ _ _ _=>?_;refine cP mR dE ?_;refine br (fun _=>?_) (fun g=>?_)
   rotate_left
   ·exfalso;simp at g;omega
   refine cP Uo yC ?_;exact (rfl:_=_)
  ·have pN:v.k=d.ag:=by
    rcases hc with h | h | h
    ·omega
    ·exact h.1
    ·exact h.1
   by_cases c5:d.ag < 5
   ·obtain ⟨FO,h4⟩:v.ks=[]/\(v.k=4->0<=v.n/\v.n < d.af.length):=by
     rcases hc with h | h | h
     ·omega
     ·exact h.2.2
     ·omega
    rw [show (decide (v.k < 5) || decide (8 < v.k))=true by simp;omega] at gn;clear hc yC;obtain ⟨ag,at',lo,hi,most,af,es⟩:=d;obtain ⟨q,z,s,ks⟩:=v;simp only [Val.ks,Val.k,Val.n] at *;subst FO pN;refine eG 159 [.tmp 6] func218 rfl ntmps218 rfl fun _ _ _ _=>?_;refine cP mR dE ?_;refine br (fun g=>?_) (fun _=>?_)
    ·exfalso;simp at g;omega
    refine br (fun g=>?_) (fun _=>?_)
    ·exfalso;simp [pickB] at g
    refine br (fun g=>?_) (fun _=>?_)
    ·exfalso;simp [aq,ai,hZ] at g;rcases g with ⟨g1,g2⟩ | ⟨g1,_⟩
     ·have:=h4 g1;omega
     ·omega
    refine cP JF gn ?_;exact (rfl:_=_)
   ·obtain ⟨yX,Gz⟩:shellF d v=true/\gZ ND v.ks d v.n 0=true:=by
     rcases hc with h | h | h
     ·omega
     ·omega
     ·exact h.2.2
    obtain ⟨s6,s7,s8⟩:=shell_67 yX;have s9:=shell_8 yX
    have UH:=AJ hN (by omega) v hb pN (fun m hm=>by
     obtain ⟨x,hx⟩:∃ x,v.ks[m]? = some x:=⟨_,gE hm⟩;obtain ⟨e,he,_⟩:=lD Gz hx;rw [Nat.zero_add] at he
     exact ⟨e,he⟩) s9
    have Cr:∀ (m:Nat) x,v.ks[m]? = some x->∃ e,(tosL d v v.ks.length)[m]? = some e/\ie ND x e=true:=fun m x hx=>by
     obtain ⟨e,he,h2⟩:=lD Gz hx;rw [Nat.zero_add] at he;exact ⟨e.to,F7 he (gS hx).1,h2⟩
    rw [show (decide (v.k < 5) || decide (8 < v.k))=false by simp;omega] at gn;have gl:=F6 d v v.ks.length;generalize tosL d v v.ks.length=T at *;generalize opnT d v=OT at UH;generalize nW v=ET at UH
    have hnmd:F9 d = .v (.slice none 0 0)∨∃ l,F9 d = .sl 1 l none:=by
     unfold F9;split
     ·exact .inr ⟨_,rfl⟩
     ·exact .inl rfl
    generalize F9 d=NM at UH hnmd;clear hc yC yX Gz;obtain ⟨ag,at',lo,hi,most,af,es⟩:=d;obtain ⟨q,z,s,ks⟩:=v;simp only [Val.ks,Val.k,Val.n,Val.s] at *;subst pN;refine eG 159 [.tmp 6] func218 rfl ntmps218 rfl fun _ _ _ _=>?_;refine cP mR dE ?_;refine br (fun g=>?_) (fun _=>?_)
    ·exfalso;simp at g;omega
    refine br (fun g=>?_) (fun _=>?_)
    ·exfalso;simp [pickB] at g
    refine br (fun g=>?_) (fun _=>?_)
    ·exfalso;simp [aq,ai,oJ] at g;rcases g with ⟨g1,_⟩ | ⟨g1,g2⟩
     ·omega
     ·have:=s9 g1;omega
    refine cP JF gn ?_;refine br (fun g=>?_) (fun _=>?_)
    ·exfalso;simp [aq,ai,oJ,de] at g;rcases g with ⟨g1,g2⟩ | ⟨⟨g1,g2⟩,g3⟩
     ·exact g2 (by rw [s7 g1])
     ·by_cases q6:q=6
      ·have:=s6 q6;omega
      ·have:=(s8 (by omega)).1;omega
    refine dI ?_;refine br (fun g=>?pp) (fun g=>?nn)
    case' pp=>
     have g8:q=8:=sU g;obtain ⟨_,e,he,hb⟩:=s8 g8;have h9:=s9 g8;refine iX (bm he) ?_;refine br (fun g=>?_) (fun _=>?_)
     ·exfalso;simp [pickB,de] at g;simp [<- hb] at g
    all_goals
     refine cP Up UH ?_;refine lJ (fun e=>alSt PC ⟨q,at',lo,hi,most,af,es⟩ (.mk q z s ks) T e) ks.length (dj 2 pP kj) ?_;intro e he;refine br ?_ ?_<;>intro nD
     ·have au:e < ks.length:=by
       have h2:=nD;simp at h2;have h2:e < (dVals ks).length:=h2;omega
      obtain ⟨x,hx⟩:=gX au;obtain ⟨u,hu,hwu⟩:=Cr e x hx;have UW:=du (mG hx);have hrec:=ih x (by omega) (by omega) (di XB (mG hx)) u hwu;obtain ⟨xk,xn,xs,xl⟩:=x;refine iX (cp hx) ?_;refine dI ?_;refine iX (oy hu) ?_;refine cD Ui hrec ?_;exact rE ⟨_,by omega,e + 1,rfl,by omega,rfl⟩ (dj 2 (kH (aN au (by omega))) (cY (aN au (by omega))))
     ·exact (rfl:_=_)
theorem IZ {S:Sch} {ND:List Nd} {PC:List DV} (hP:eT S ND PC) (x:Val) (hx:x.wt<=1099511627776) (mU:rngW x) (i:Int) (hw:ie ND x i=true) :
  EvP prog 150 [.pt PC 0,.v (.int .i64 i),.agg (aZ x)] (.v (.string (ba (textV ND x i)))):=by
 have ha:=rq hP _ x (aQ _) hx mU i hw;have bf:=Ge hP.ok mU hw;have HI:=fun p hp=>mC hP x x.wt x (aQ _) hx mU i hw [] p hp (by rw [List.length_nil];omega);simp only [List.nil_append] at HI;generalize textV ND x i=T at *;obtain ⟨xk,xn,xs,xl⟩:=x;refine lX (s:=false) (bt:=[(1,160)]) (hbt:=fun p hp=>Nat.zero_le _) (P:=prog) tt fo 5000 18 [.tmp 6] func150 rfl ntmps150 rfl (nL rfl) (fun _ _ _ _=>?_);refine cP Ui ha ?_;refine rf ⟨0,5,1,none⟩ ⟨[aE 7 1],[aZ (.mk xk xn xs xl),[.v (.pointer none),.sl 1 [] (some 0)]],[⟨0,5,1,none⟩]⟩ rfl ?_ rfl ?_ ⟨⟨_,rfl,az rfl⟩,trivial⟩ rfl rfl ?_
 ·repeat' (first | exact rfl | exact az rfl | refine ⟨_,_,rfl,?_,?_⟩)
 ·repeat' (first | exact rfl | exact az rfl | exact bL (aQ _) rfl | refine ⟨_,_,rfl,?_,?_⟩)
 refine fx 2 1 zr rfl rfl rfl fA fA (HI (.v (.pointer none)) (.inl rfl)) (fun r fX bX hΦ h1 h2=>?_);obtain ⟨rfl,rfl,rfl⟩:=hΦ;refine u3 rfl (kt:=0) (l:=T) (.head _) rfl bf rfl rfl rfl rfl ?_;exact (rfl:_=_)
def no10 (l:List UInt8):Prop:=∀ b∈l,b≠10
instance (l:List UInt8):Decidable (no10 l):=inferInstanceAs (Decidable (∀ b∈l,b≠10))
section
variable {ND:List Nd} {L:Nat}
end
theorem Gg {e:Ed} {x:Val} (hw:1<=e.wide/\e.wide<=64) (hx:rngW x) (UW:x.wt<=1099511627776):rngW (bE e x):=by
 have hn:=sJ hx;unfold bE;split
 ·rename_i h;have h3:=h.2.2;by_cases hu:e.cn < 1
  ·grind [aJ]
  ·rw [q7 (by omega)] at h3 ⊢;have:=Int.emod_nonneg x.n (show e.cn≠0 by omega);split at h3
   ·cases h3
   rename_i hc;rw [aj hc,rngW];exact ⟨by unfold mH;omega,by unfold mH;simp only;omega,trivial⟩
 ·split
  ·rw [rngW];exact ⟨by unfold mH;omega,by unfold mH;omega,trivial⟩
  ·split
   ·rw [rngW]
    have:x.ks.length<=1099511627776:=by
     obtain ⟨k,n,s,ks⟩:=x
     grind [cG,Val.wt,Val.ks]
    exact ⟨by unfold mH;omega,by unfold mH;omega,trivial⟩
   ·rw [oG,rngW];exact ⟨by unfold mH;omega,by unfold mH;omega,trivial⟩
theorem Mp {d:Nd} {z:Int} {j:Nat} {e:Ed} (h:bH d z j=some e):e∈d.aw:=by grind [bH]
section
variable {ND:List Nd} {f:Nat->Nat->Bool} {L obs:Nat}
mutual
theorem ye (bI:∀ n∈ND,dt L ND.length n):∀ (v:Val) (i:Int) (a:Nat),rngW v->v.wt<=1099511627776->rngW (eraseV ND f L obs v i a)
 | .mk k n s ks,i,a,h,hw=>by
  rw [rngW] at h;rw [Val.wt] at hw;rw [eraseV]
  cases hd:bV ND i with
  | none=>rw [rngW];exact ⟨h.1,h.2.1,trivial⟩
  | some d=>
   have hN:=bI d (mG (bJ hd).2);rw [rngW];exact ⟨h.1,h.2.1,tW bI ks d n a 0 hN h.2.2 (by omega)⟩
theorem tW (bI:∀ n∈ND,dt L ND.length n):∀ (ks:List Val) (d:Nd) (z:Int) (a j:Nat),dt L ND.length d->rngWs ks->ch ks<=1099511627776->rngWs (eraseVs ND f L obs ks d z a j)
 | [],_,_,_,_,_,_,_=>by rw [eraseVs];trivial
 | x :: r,d,z,a,j,hN,h,hw=>by
  rw [rngWs] at h;rw [ch] at hw;have h1:=tW bI r d z a (j + 1) hN h.2 (by omega);rw [eraseVs,rngWs];refine ⟨?_,h1⟩
  cases he:bH d z j with
  | none=>exact h.1
  | some e=>
   have Yj:=(hN.fD e (Mp he)).wide;simp only;split
   ·exact ye bI x _ _ h.1 (by omega)
   ·split
    ·exact Gg Yj h.1 (by omega)
    ·rw [oG,rngW];exact ⟨by unfold mH;omega,by unfold mH;omega,trivial⟩
end
end
end Go.Proofs.YtgjagnmeonoehaaGreat
namespace Go.Proofs.YtgjagnmeonoehaaGreat
namespace Dv
open Go Go.RowKit
section
variable {X:Ctx} {st:St} {k:List It} {E:En} {a:Act} {w:World} {ops:Array Oper} {C:World->Prop} {Q:Act->World->Prop} {W:Nat->Bool} {r:List Nat}
theorem tX {o1 o2:Oper} {i1 i2 d1 d2 kt t ty et e jh m ux nn:Nat} {bb:Bool} {zz:List Value} {z:Int} {kd:IntKind} {es:List (List DV)} {cs:List DV} {s ix:Operand} {d':DV}
  (hR:Rel X E st a w) (g1:ops[i1]? = some o1) (g2:ops[i2]? = some o2) (h1:o1.op = .indexAddr t s ix/\o1.dst=some d1/\o1.guard=none) (h2:o2.op = .load ty (.tmp d1)/\o2.dst=some d2/\o2.guard=none)
  (uM:ez X.nt st.sl (some d1)=true) (DF:ez X.nt ((d1,⟨[],.pt [] 0⟩) :: st.sl) (some d2)=true)
  (hs:rv st [] s=some (.sl 0 es (some kt))) (hi:rv st [] ix=some (.v (.int kd z))) (hT:X.T.find t=some ⟨nn,bb,.sl et e jh,zz⟩) (hq:st.tk[kt]? = some ⟨m,ux,e,some cs⟩) (gL:es.length=m) (hz:0<=z/\z < m)
  (hl:cellsT X.T ty cs (z.toNat * e)=some d') (hC:∀ w',C w' -> w'=w) (V3:C w)
  (hk:∀ a',Rel X E ⟨(d2,⟨[],d'⟩) :: (d1,⟨[],.pt [] 0⟩) :: st.sl,st.bx,st.tk⟩ a' w->runT X.P ops W C Q r a' w):runT X.P ops W C Q (i1 :: i2 :: r) a w:=by
 have eM:=hR.rl;have e2:=bR (aR eM hi);obtain ⟨g,cap,cur,e1,jB,hy,hw0,vm,jH,VN,ue,hcm,VR,hgc⟩:=Cn hR (aR eM hs) hq gL (by omega);have zp:isE o1.op=false:=by rw [h1.1];all_goals rfl
 have Vv:qa o1.op=false:=by rw [h1.1];all_goals rfl
 have hE2:isE o2.op=false:=by rw [h2.1];all_goals rfl
 have hr1:Rel X E ⟨(d1,⟨[],.pt [] 0⟩) :: st.sl,st.bx,st.tk⟩ (a.put (some d1) (.pointer (some ⟨g,z.toNat * e,none⟩))) w:=aX hR uM (.pt [] 0) _ (by unfold Rv;exact ⟨g,z.toNat * e,rfl,by simp only [RvAt]⟩)
 have ht1:(a.put (some d1) (.pointer (some ⟨g,z.toNat * e,none⟩))).eval (.tmp d1) = .pointer (some ⟨g,z.toNat * e,none⟩):=by
  simp only [ez,aP,Nat.blt_eq] at uM;simp [Act.eval,Act.put,hR.sz,uM.1]
 simp only [runT,g1,zp,Bool.false_eq_true,if_false];refine ⟨.pointer (some ⟨g,z.toNat * e,none⟩),.inl ⟨dO h1.2.2,fun w9 _=>Kw h1.1 e1 e2 hT hz w9⟩,fun h9=>(by rw [Vv] at h9;cases h9),?_⟩;rw [h1.2.1];generalize a.put (some d1) (.pointer (some ⟨g,z.toNat * e,none⟩))=a1 at hr1 ht1;obtain ⟨v,hv,J9⟩:=jT X.hT VN (b:=g) (p:=0) hl;have J9:=J9 w fun j u hj=>by grind [cm]
 rw [Nat.zero_add] at J9;simp only [g2,hE2,Bool.false_eq_true,if_false];refine ⟨v,.inl ⟨dO h2.2.2,fun w9 h9=>?_⟩,fun _=>V3,?_⟩
 ·have td:=hC w9 (h9 (by rw [h2.1];rfl));subst td;simp only [execOp,h2.1,ht1,Sem.run_bind,Instr.loadAt,Instr.sureAddr,Sem.run_pure,Result.andThen_ok,J9]
 ·rw [h2.2.1];exact hk _ (aX hr1 DF d' v (Rv.mono (Ext.Jn E) hv))
theorem tY {o1 o2:Oper} {i1 i2 d1 kt t ty et e jh m ux nn:Nat} {bb:Bool} {zz:List Value} {z:Int} {kd:IntKind} {es:List (List DV)} {cs cs':List DV} {s ix x:Operand} {dv:DV}
  (hR:Rel X E st a w) (g1:ops[i1]? = some o1) (g2:ops[i2]? = some o2) (h1:o1.op = .indexAddr t s ix/\o1.dst=some d1/\o1.guard=none) (h2:o2.op = .store ty (.tmp d1) x/\o2.dst=none/\o2.guard=none)
  (uM:ez X.nt st.sl (some d1)=true)
  (hs:rv st [] s=some (.sl 0 es (some kt))) (hi:rv st [] ix=some (.v (.int kd z))) (hx:rv ⟨(d1,⟨[],.pt [] 0⟩) :: st.sl,st.bx,st.tk⟩ [] x=some dv) (hdv:eraL dv.cells (fun l=>some l)=some cs') (Ri:dv.cells.length=e) (he0:0 < e)
  (hT:X.T.find t=some ⟨nn,bb,.sl et e jh,zz⟩) (bZ:X.T.sz ty=some e) (hq:st.tk[kt]? = some ⟨m,ux,e,some cs⟩) (gL:es.length=m) (hz:0<=z/\z < m) (hW2:W i2=true)
  (hk:∀ a' E' w',Rel X E' ⟨(d1,⟨[],.pt [] 0⟩) :: st.sl,st.bx,st.tk.set kt ⟨m,ux,e,some (cs.take (z.toNat * e) ++ cs' ++ cs.drop (z.toNat * e + e))⟩⟩ a' w' -> runT X.P ops W C Q r a' w')
  (aW:X.still=false:=by exact rfl):runT X.P ops W C Q (i1 :: i2 :: r) a w:=by
 have eM:=hR.rl;have e2:=bR (aR eM hi);have hv:=aR eM hs;obtain ⟨g,cap,cur,e1,_⟩:=Cn hR hv hq gL (by omega);have zp:isE o1.op=false:=by rw [h1.1];all_goals rfl
 have Vv:qa o1.op=false:=by rw [h1.1];all_goals rfl
 have hE2:isE o2.op=true:=by rw [h2.1];all_goals rfl
 have hr1:Rel X E ⟨(d1,⟨[],.pt [] 0⟩) :: st.sl,st.bx,st.tk⟩ (a.put (some d1) (.pointer (some ⟨g,z.toNat * e,none⟩))) w:=aX hR uM (.pt [] 0) _ (by unfold Rv;exact ⟨g,z.toNat * e,rfl,by simp only [RvAt]⟩)
 have ht1:(a.put (some d1) (.pointer (some ⟨g,z.toNat * e,none⟩))).eval (.tmp d1) = .pointer (some ⟨g,z.toNat * e,none⟩):=by
  simp only [ez,aP,Nat.blt_eq] at uM;simp [Act.eval,Act.put,hR.sz,uM.1]
 simp only [runT,g1,zp,Bool.false_eq_true,if_false];refine ⟨.pointer (some ⟨g,z.toNat * e,none⟩),.inl ⟨dO h1.2.2,fun w9 _=>Kw h1.1 e1 e2 hT hz w9⟩,fun h9=>(by rw [Vv] at h9;cases h9),?_⟩;rw [h1.2.1];generalize a.put (some d1) (.pointer (some ⟨g,z.toNat * e,none⟩))=a1 at hr1 ht1;have Yf:=dO (ops:=ops) (a:=a1) h2.2.2;simp only [g2,hE2,if_true,eP,Yf];obtain ⟨w2,E2,cd,vx⟩:=Tb hr1 h2.1 ht1 hv e1 hx hdv Ri he0 bZ hq gL hz aW;refine Ba cd ?_;rw [h2.2.1];exact ⟨(fun hw=>by rw [hW2] at hw;cases hw),hk _ _ _ vx⟩
theorem Tz {t k n ty e:Nat} {es ns:List (List DV)} (hq:st.tk[k]? = some ⟨n,ty,e,some ns.flatten⟩) (uq:∀ x∈ns,x.length=e) (hZ:ns.length=n) (ht:get st.sl t=some ⟨[],.sl 0 es (some k)⟩) (gL:es.length=n) :
  Wk X st ⟨(t,⟨[],.sl e ns none⟩) :: st.sl,st.bx,st.tk.set k ⟨n,ty,e,none⟩⟩:=by
 intro E a w h;obtain ⟨E',hr,hx,oY⟩:=J1 h hq rfl uq hZ;refine ⟨E',{ hr with tm:=?_ }⟩;intro i y hy;rw [dm] at hy;split at hy
 ·rename_i hti;subst hti;simp only [oI] at hy;subst hy;refine ⟨fun _=>?_,fun hn=>(hn (bg _)).elim⟩;obtain ⟨v,hv,Bn⟩:=(h.tm t _ ht).1 (bg _);refine ⟨v,hv,?_⟩;have:=oY es v gL Bn;unfold Rv at this ⊢;obtain ⟨b,m,cap,g1,g2,g3,_⟩:=this;exact ⟨b,m,cap,g1,g2,g3,fun k hk=>by cases hk⟩
 ·exact hr.tm i y hy
end
end Dv
end Go.Proofs.YtgjagnmeonoehaaGreat
set_option maxRecDepth 100000
namespace Go.Proofs.YtgjagnmeonoehaaGreat
open Go Go.RowKit Dv Go.Proofs.Tryz
def rvK (p:List Stp) (e:Nat):List Stp:=(List.range p.length).map fun i=>(if i < e∨p.length - e<=i then p[p.length - 1 - i]? else p[i]?).getD ⟨0,0,av⟩
theorem rr (p:List Stp) (e:Nat):(rvK p e).length=p.length:=by simp [rvK]
theorem u5 (p:List Stp) (e i:Nat) (hi:i < p.length):(rvK p e)[i]? = if i < e∨p.length - e<=i then p[p.length - 1 - i]? else p[i]?:=by grind [rvK]
theorem QP (p:List Stp):rvK p 0=p:=by
 apply List.ext_getElem?
 grind [u5,rr]
theorem TA (p:List Stp) (e:Nat) (h:p.length<=2 * e + 1) (he:e<=p.length):rvK p e=p.reverse:=by
 apply List.ext_getElem?
 grind [u5,rr]
theorem QQ (p:List Stp) (e:Nat) (h:2 * e + 1 < p.length) {x y:Stp} (hx:p[p.length - 1 - e]? = some x) (hy:p[e]? = some y):((rvK p e).set e x).set (p.length - 1 - e) y=rvK p (e + 1):=by
 apply List.ext_getElem?
 grind [u5,rr]
theorem XO (p:List Stp) (e:Nat) (h:2 * e + 1 < p.length):(rvK p e)[e]? = p[e]? /\ (rvK p e)[p.length - 1 - e]? = p[p.length - 1 - e]?:=by grind [u5]
theorem CL:∀ (L:List Stp) (i:Nat) (x:Stp),i < L.length->(cz L).flatten.take (i * 3) ++ ju x ++ (cz L).flatten.drop (i * 3 + 3)=(cz (L.set i x)).flatten
 | [],i,x,h=>by simp at h
 | y :: L,0,x,_=>by grind [ju,cz]
 | y :: L,i + 1,x,h=>by
  have:=CL L i x (sU h)
  grind [ju,cz]
theorem Gh:∀ {L:List Stp} {k:Nat} {x:Stp},L[k]? = some x->((cz L).flatten.drop (k * 3)).take 3=ju x/\3<=((cz L).flatten.drop (k * 3)).length
 | [],_,_,h=>by simp at h
 | y :: L,0,x,h=>by grind [ju,cz]
 | y :: L,k + 1,x,h=>by
  have:=Gh (L:=L) (k:=k) (x:=x) (sU h)
  grind [ju,cz]
theorem AO {L:List Stp} {k:Nat} {x:Stp} (h:L[k]? = some x):cellsT tt 141 (cz L).flatten ((k:Int).toNat * 3)=some (.agg (ju x)):=by
 have hf:∃ a b,tt.find 141=some ⟨3,true,a,b⟩:=⟨_,_,rfl⟩;obtain ⟨a,b,hf⟩:=hf;unfold cellsT;rw [hf];simp only;rw [pX,kS,(Gh h).1];rfl
abbrev XP (n:Nat) (cs:List DV) (i:Nat) (j:Nat):St:=⟨[(0,⟨[],.sl 0 (List.replicate n []) (some 0)⟩),ay 2 i,ay 3 j],[],[⟨n,141,3,some cs⟩]⟩
theorem CM (p:List Stp) (bf:p ≠ []) (hl:p.length<=1099511627776):Ev prog 153 [.sl 0 (List.replicate p.length []) (some 0)] [] [⟨p.length,141,3,some (cz p).flatten⟩] (fun _ _ tk=>tk=[⟨p.length,141,3,some (cz p.reverse).flatten⟩]):=by
 have jX:0 < p.length:=List.length_pos_iff.2 bf;have BM:(List.replicate p.length ([]:List DV)).length=p.length:=List.length_replicate;refine eG 28 [] func153 rfl ntmps153 rfl fun _ _ _ _=>?_
 have hj:IntKind.i64.wrap ((p.length:Int) - 1)=((p.length - 1:Nat):Int):=by
  rw [wrap64 (by omega) (by omega)];omega
 have jw:IntKind.i64.wrap (((List.replicate p.length ([]:List DV)).length:Int) - 1)=((p.length - 1:Nat):Int):=by rw [BM];exact hj
 refine aV (fun t st=>∃ (e:Nat) (cs:List DV),st=XP p.length cs e (p.length - 1 - e)/\cs=(cz (rvK p e)).flatten/\2 * e<=p.length/\t=p.length - 2 * e) p.length (XP p.length (cz p).flatten 0 (p.length - 1)) (bp (cY jw)) ⟨0,_,rfl,by rw [QP],by omega,by omega⟩ ?_;rintro t st ⟨e,cs,rfl,hcs,he,rfl⟩;refine br ?_ ?_<;>intro nD
 rotate_left
 ·have hge:p.length<=2 * e + 1:=by have:=of_decide_eq_false nD;omega
  rw [TA p e hge (by omega)] at hcs;subst hcs;exact ⟨.tup [],[],ax,rfl,rfl⟩
 have au:2 * e + 1 < p.length:=by have:=of_decide_eq_true nD;omega
 obtain ⟨hA,hB⟩:=XO p e au;obtain ⟨x,hx⟩:∃ x,p[p.length - 1 - e]? = some x:=⟨_,gE (by omega)⟩;obtain ⟨y,hy⟩:∃ y,p[e]? = some y:=⟨_,gE (by omega)⟩;have hsuc:=QQ p e au hx hy;rw [hx] at hB;rw [hy] at hA;have SV:=AO hB;have hcy:=AO hA;have Rx:=CL (rvK p e) e x (by rw [rr];omega);have CV:=CL ((rvK p e).set e x) (p.length - 1 - e) y (by rw [List.length_set,rr];omega);rw [hsuc] at CV;rw [<- hcs] at SV hcy Rx;obtain ⟨xk,xn,xs⟩:=x;obtain ⟨yk,yn,ys⟩:=y;intro E a w hr;have mX:=kW hr;refine iU (C:=fun w'=>w'=w.drew) (W:=fun i=>Nat.beq i 13 || Nat.beq i 15) (Q:=fun a w=>kq _ _ .normal a w) mo (by decide +kernel) (fun _ _ h=>h) rfl ?_;show Go.Proofs.YtgjagnmeonoehaaGreat.Dv.runT _ _ _ _ _ [0,1,2,3,4,5,6,7,8,9,10,11,12,13,14,15] _ _;refine eL mX rfl rfl rfl rfl rfl rfl (fun a0 h0=>?_);refine eL h0 rfl rfl rfl rfl rfl rfl (fun a1 h1=>?_);refine eL h1 rfl rfl rfl rfl rfl rfl (fun a2 h2=>?_);refine eL h2 rfl rfl rfl rfl rfl rfl (fun a3 h3=>?_);refine eL h3 rfl rfl rfl rfl rfl rfl (fun a4 h4=>?_);refine eL h4 rfl rfl rfl rfl rfl rfl (fun a5 h5=>?_);refine tX (kt:=0) h5 rfl rfl ⟨rfl,rfl,rfl⟩ ⟨rfl,rfl,rfl⟩ rfl rfl rfl rfl rfl rfl BM ⟨by omega,by omega⟩ SV (fun _ h=>h) rfl (fun a7 h7=>?_);refine eL h7 rfl rfl rfl rfl rfl rfl (fun a8 h8=>?_);refine eL h8 rfl rfl rfl rfl rfl rfl (fun a9 h9=>?_);refine tX (kt:=0) h9 rfl rfl ⟨rfl,rfl,rfl⟩ ⟨rfl,rfl,rfl⟩ rfl rfl rfl rfl rfl rfl BM ⟨by omega,by omega⟩ hcy (fun _ h=>h) rfl (fun a11 h11=>?_);refine tY (kt:=0) h11 rfl rfl ⟨rfl,rfl,rfl⟩ ⟨rfl,rfl,rfl⟩ rfl rfl rfl rfl rfl rfl (Nat.succ_pos 2) rfl rfl rfl BM ⟨by omega,by omega⟩ rfl (fun a13 E13 w13 h13=>?_);refine tY (kt:=0) h13 rfl rfl ⟨rfl,rfl,rfl⟩ ⟨rfl,rfl,rfl⟩ rfl rfl rfl rfl rfl rfl (Nat.succ_pos 2) rfl rfl rfl BM ⟨by omega,by omega⟩ rfl (fun a15 E15 w15 h15=>?_);refine go_sound 4000 _ _ ?_ E15 a15 w15 h15
 have hw1:IntKind.i64.wrap (((p.length - 1 - e:Nat):Int) - 1)=((p.length - 1 - (e + 1):Nat):Int):=by
  rw [wrap64 (by omega) (by omega)];omega
 have hw2:IntKind.i64.wrap ((e:Int) + 1)=((e + 1:Nat):Int):=by
  rw [wrap64 (by omega) (by omega)];omega
 generalize Nu:cs.take (e * 3) ++ ju ⟨xk,xn,xs⟩ ++ cs.drop (e * 3 + 3)=c1 at Rx
 have nZ:c1.take ((p.length - 1 - e) * 3) ++ ju ⟨yk,yn,ys⟩ ++ c1.drop ((p.length - 1 - e) * 3 + 3)=(cz (rvK p (e + 1))).flatten:=by
  rw [Rx];exact CV
 rw [<- Nu] at nZ;exact ⟨XP p.length ((cs.take (e * 3) ++ ju ⟨xk,xn,xs⟩ ++ cs.drop (e * 3 + 3)).take ((p.length - 1 - e) * 3) ++ ju ⟨yk,yn,ys⟩ ++ (cs.take (e * 3) ++ ju ⟨xk,xn,xs⟩ ++ cs.drop (e * 3 + 3)).drop ((p.length - 1 - e) * 3 + 3)) (e + 1) (p.length - 1 - (e + 1)),(bp (iT hw2 hw1)),p.length - 2 * (e + 1),by omega,e + 1,_,rfl,nZ,by omega,rfl⟩
abbrev eyD (PC LC:List DV) (obs:Nat):List DV:=[.pt PC 0,.pt LC 0,.v (.int .i64 obs)]
section
variable {n:Nat} {f:Nat->Nat->Bool} {af:List ByteArray} {LC:List DV} (hR:pA n f af LC) (PC:List DV)
include hR
theorem yf (obs a:Nat) (ho:obs < n) (ha:a < n):EvP prog 222 [.agg (eyD PC LC obs),.v (.int .i64 a)] (.v (.bool (f a obs))):=by
 have hq:=hR.leq a obs;rw [Fk ha ho] at hq;refine eG 11 [.tmp 4] func222 rfl ntmps222 rfl fun _ _ _ _=>?_;refine cP Zk hq ?_;exact (rfl:_=_)
theorem I0 {ND:List Nd} (obs a:Nat) (ha:a < n) (d:Nd) (v:Val) (j:Nat) (e:Ed) (h:bH d v.n j=some e) (hm:e∈d.aw) (hN:dt n ND.length d) (h5:5<=d.ag) (hz:d.ag=8->0<=v.n/\v.n < d.aw.length) (gL:d.aw.length<=1099511627776) :
  EvP prog 221 [.agg (eyD PC LC obs),.agg (kO d),.agg (aZ v),.v (.int .i64 j),.v (.int .i64 a)] (.tup [.agg (nF e),.v (.int .i64 (gA f n d e a:Nat))]):=by
 obtain ⟨_,⟨h2,Rk⟩,_⟩:=gJ hN hm;have hj:=hR.join a e.label.toNat ha Rk;rw [<- h2] at hj;have hU:gA f n d e a=if d.ag < 7 then a else yD f n a e.label.toNat:=rfl
 generalize gA f n d e a=U at hU ⊢;have h8:=hN.k8;obtain ⟨ag,at',lo,hi,most,Cl,es⟩:=d;obtain ⟨k,z,s,ks⟩:=v;simp only [Val.n] at h hz gL hU h5 h8;have oJ:=cF es;unfold bH at h;simp only at h;have hd:∃ en eb ea et q4 ew eU ic rD iV,e=⟨en,eb,ea,et,q4,ew,eU,ic,rD,iV⟩:=⟨_,_,_,_,_,_,_,_,_,_,rfl⟩;refine eG 42 [.cell 10 193,.tmp 11] func221 rfl ntmps221 rfl fun _ _ _ _=>?_;refine br ?_ ?_<;>intro c
 ·have c:ag=7:=sU c;rw [ap c] at h;rw [aj (by omega)] at hU;subst hU;have pO:=(gS h).1;obtain ⟨en,eb,ea,et,q4,ew,eU,ic,rD,iV,rfl⟩:=hd;refine dS ?_;refine iX (bm h) ?_;refine iX (bm h) ?_;refine cD tg hj ?_;exact ⟨_,ax,rfl⟩
 have c7:¬ ag=7:=sU c;rw [aj c7] at h;refine br ?_ ?_<;>intro c
 ·have c:ag=8:=sU c;rw [ap c] at h;have hz:=hz c;rw [aj (by omega)] at hU;subst hU;obtain ⟨en,eb,ea,et,q4,ew,eU,ic,rD,iV,rfl⟩:=hd;refine dS ?_;refine iX (bm h) ?_;refine iX (bm h) ?_;refine cD tg hj ?_;exact ⟨_,ax,rfl⟩
 have c8:¬ ag=8:=sU c;rw [aj c8] at h;rw [ap (by omega)] at hU;subst hU;obtain ⟨en,eb,ea,et,q4,ew,eU,ic,rD,iV,rfl⟩:=hd;refine iX (bm h) ?_;exact ⟨_,ax,rfl⟩
end
theorem astepP_spec (d:Nd) (v:Val) (j:Nat) (h5:5<=d.ag) (h8:d.ag<=8) (h7:d.ag=7->j < d.aw.length) (hz:d.ag=8->0<=v.n/\v.n < d.aw.length) :
  EvP prog 224 [.agg (kO d),.agg (aZ v),.v (.int .i64 j)] (.agg (ju (Fo d v.n j))):=by
 have hS:Fo d v.n j=if d.ag=5 then ⟨2,j,av⟩ else if d.ag=6 then ⟨4,0,av⟩ else if d.ag=7 then ⟨1,0,match d.aw[j]? with | some e=>e.name | none=>av⟩ else ⟨5,0,match d.aw[v.n.toNat]? with | some e=>e.name | none=>av⟩:=rfl
 generalize Fo d v.n j=SZ at hS ⊢;obtain ⟨ag,at',lo,hi,most,Cl,es⟩:=d;obtain ⟨k,z,s,ks⟩:=v;simp only [Val.n] at h5 h8 h7 hz hS;have oJ:=cF es;refine eG 33 [.cell 6 141] func224 rfl ntmps224 rfl fun _ _ _ _=>?_;refine br ?_ ?_<;>intro c
 ·have c:ag=7:=sU c;subst c;have h7:=h7 rfl;obtain ⟨e,he⟩:∃ e,es[j]? = some e:=⟨_,gE h7⟩;rw [aj (by decide),aj (by decide),ap rfl,he] at hS;subst hS;refine iX (bm he) ?_;exact ⟨_,ax,rfl⟩
 have c7:¬ ag=7:=sU c;refine br ?_ ?_<;>intro c
 ·have c:ag=8:=sU c;subst c;have hz:=hz rfl;obtain ⟨e,he⟩:∃ e,es[z.toNat]? = some e:=⟨_,gE (by omega)⟩;rw [aj (by decide),aj (by decide),aj (by decide),he] at hS;subst hS;refine iX (bm he) ?_;exact ⟨_,ax,rfl⟩
 have c8:¬ ag=8:=sU c;refine br ?_ ?_<;>intro c
 ·have c:ag=5:=sU c;rw [ap c] at hS;subst hS;exact ⟨_,ax,rfl⟩
 have c5:¬ ag=5:=sU c;rw [aj c5,ap (by omega)] at hS;subst hS;exact ⟨_,ax,rfl⟩
theorem CN (e:Ed) (x y:Val) (hx:rngW x) (hy:rngW y) (XC:x.wt<=1099511627776) (hwy:y.wt<=1099511627776) (hc : -9223372036854775808<=e.cn/\e.cn<=9223372036854775807) :
  EvP prog 223 [.agg (nF e),.agg (aZ x),.agg (aZ y)] (.v (.bool (nP e x y))):=by
 have hf:=FA x.n y.n e.cn (sJ hx) (sJ hy) hc
 have hS:nP e x y=if e.ck=1/\x.k=2 then decide (aJ x.n e.cn=aJ y.n e.cn)
  else if e.ck=2/\x.k=3 then headsL e.cn.toNat (tx x.s) (tx y.s)
  else if e.ck=3/\x.k=5 then decide (x.ks.length=y.ks.length)
  else true:=rfl
 have bZ:∀ v:Val,v.wt<=1099511627776->v.s.size<=1099511627776:=fun v hv=>by
  obtain ⟨k,n,s,ks⟩:=v;rw [Val.wt] at hv;show s.size<=_;omega
 have hh:=Iu x.s y.s (bZ x XC) (bZ y hwy) e.cn hc.2;have hA:e.ck=1/\x.k=2->nP e x y=decide (aJ x.n e.cn=aJ y.n e.cn):=fun h=>by rw [hS,ap h]
 have hB:e.ck=2/\x.k=3->nP e x y=headsL e.cn.toNat (tx x.s) (tx y.s):=fun h=>by rw [hS,aj (by omega),ap h]
 have hC:e.ck=3/\x.k=5->nP e x y=decide (x.ks.length=y.ks.length):=fun h=>by rw [hS,aj (by omega),aj (by omega),ap h]
 have hD:¬ (e.ck=1/\x.k=2)->¬ (e.ck=2/\x.k=3)->¬ (e.ck=3/\x.k=5)->nP e x y=true:=fun h1 h2 h3=>by rw [hS,aj h1,aj h2,aj h3]
 clear hS;generalize nP e x y=B at hA hB hC hD ⊢;obtain ⟨en,eb,ea,et,q4,ew,eU,ic,rD,iV⟩:=e;obtain ⟨xk,xn,xs,sM⟩:=x;obtain ⟨yk,yn,ys,Ay⟩:=y;simp only [Val.k,Val.n,Val.s,Val.ks] at hA hB hC hD hf hh;have hdx:=bl sM;have hdy:=bl Ay;refine eG 55 [.tmp 6] func223 rfl ntmps223 rfl fun _ _ _ _=>?_;refine br ?_ ?_<;>intro c
 ·have c:eU=1/\xk=2:=by simpa [ai] using c
  rw [hA c];refine cP Z2 hf ?_;exact (rfl:_=_)
 have c1:¬ (eU=1/\xk=2):=by simpa [ai] using c
 refine br ?_ ?_<;>intro c
 ·have c:eU=2/\xk=3:=by simpa [ai] using c
  rw [hB c];refine cP Z3 hh ?_;exact (rfl:_=_)
 have c2:¬ (eU=2/\xk=3):=by simpa [ai] using c
 refine br ?_ ?_<;>intro c
 ·have c:eU=3/\xk=5:=by simpa [ai] using c
  rw [hC c];refine (bF ?_:);simp only [hdx,hdy];exact decide_eq_decide.2 ⟨fun h=>by omega,fun h=>by omega⟩
 have c3:¬ (eU=3/\xk=5):=by simpa [ai] using c
 rw [hD c1 c2 c3];exact (rfl:_=_)
def dfP (o:Option (List Stp)) (r:DV) (bY:List TkE):Prop:=match o with
 | none=>r = .tup [.v (.slice none 0 0),.v (.bool false)]/\bY=[]
 | some []=>r = .tup [.v (.slice none 0 0),.v (.bool true)]/\bY=[]
 | some (s :: p)=>r = .tup [.sl 0 (List.replicate (p.length + 1) []) (some 0),.v (.bool true)]/\bY=[⟨p.length + 1,141,3,some (cz (s :: p).reverse).flatten⟩]
abbrev adSt (PC LC:List DV) (obs a:Nat) (x y:Val) (d:Nd) (e:Nat):St:=
 ⟨[ay 2 a,aE 5 0,aE 8 1,aE 9 2,aE 12 3,bh 49 4 (dVals x.ks),ay 50 ((dVals x.ks).length),ay 51 e],[eyD PC LC obs,aZ x,aZ y,kO d],[]⟩
section
variable {ND:List Nd} {f:Nat->Nat->Bool} {L obs:Nat}
mutual
theorem sS:∀ (x y:Val) (i:Int) (a:Nat) (p:List Stp),diffV ND f L obs x y i a=some p->64 * p.length + 64<=x.wt
 | .mk k n s ks,.mk k' n' s' CZ,i,a,p,h=>by
  rw [diffV] at h;rw [Val.wt];split at h
  ·cases h;simp;omega
  ·cases hd:bV ND i with
   | none=>rw [hd] at h;cases h
   | some d=>
    rw [hd] at h;have:=yg ks CZ d n a 0 p h;omega
theorem yg:∀ (ks ls:List Val) (d:Nd) (z:Int) (a j:Nat) (p:List Stp),diffVs ND f L obs ks ls d z a j=some p->64 * p.length<=ch ks
 | [],[],_,_,_,_,p,h=>by rw [diffVs] at h;cases h;all_goals simp
 | [],_ :: _,_,_,_,_,p,h=>by rw [diffVs] at h;cases h;all_goals simp
 | _ :: _,[],_,_,_,_,p,h=>by rw [diffVs] at h;cases h;all_goals simp
 | x :: r,y :: t,d,z,a,j,p,h=>by
  have hw:=x.dy;rw [diffVs] at h;rw [ch]
  cases he:bH d z j with
  | none=>rw [he] at h;cases h
  | some e=>
   rw [he] at h;simp only at h;split at h
   ·rename_i q hq;cases h;rw [List.length_cons];split at hq
    ·have:=sS x y e.to _ q hq;omega
    all_goals grind
   ·have:=yg r t d z a (j + 1) p h;omega
end
end
theorem QR (s:Stp) (L:List Stp):(cz L.reverse).flatten ++ [ju s].flatten=(cz (s :: L).reverse).flatten:=by
 rw [List.reverse_cons];simp [cz]
set_option maxHeartbeats 2000000 in
theorem ru {S:Sch} {ND:List Nd} {PC LC:List DV} (hP:eT S ND PC) (hR:pA S.ae.length (aK S) (aA S.ae) LC) (yW:∀ n∈ND,xU n) (bZ:∀ n∈ND,n.aw.length<=1099511627776) (obs:Nat) (ho:obs < S.ae.length) :
  ∀ (k:Nat) (x:Val),x.wt<=k->x.wt<=1099511627776->rngW x->∀ (y:Val),y.wt<=1099511627776->rngW y->∀ (i:Int) (a:Nat),a < S.ae.length->fitV ND x i=true->fitV ND y i=true ->
   EvF prog 152 [.agg (eyD PC LC obs),.v (.int .i64 i),.v (.int .i64 a),.agg (aZ x),.agg (aZ y)] [] [] (fun r _ bY=>dfP (diffV ND (aK S) S.ae.length obs x y i a) r bY)
 | 0,x,h=>by have:=x.dy;omega
 | k + 1,x,h=>fun kG mU y uc hry i a ha Xq hfy=>by
  have ih:=ru hP hR yW bZ obs ho k;have hL:=hR.ok;obtain ⟨d,hF⟩:=dL hP.ok Xq;obtain ⟨d',S4⟩:=dL hP.ok hfy;have Vk:d'=d:=by have:=hF.ah;rw [S4.ah] at this;cases this;rfl
  subst Vk;have Vw:=fun {m:Nat} {x:Val}=>mv (m:=m) (x:=x) hP.ok Xq hF;have Vx:=fun {m:Nat} {x:Val}=>mv (m:=m) (x:=x) hP.ok hfy S4;obtain ⟨h0,hg⟩:=bJ hF.ah;obtain ⟨j,rfl⟩:∃ j:Nat,i=j:=⟨i.toNat,by omega⟩;have hg:ND[j]? = some d':=sU hg;have pO:=(gS hg).1;have lP:=mG hg;have hN:=hP.ok d' lP;have L8:=bZ d' lP;have Qq:=yW d' lP;have dE:=hP.ah j d' hg;have Qr:=hF.leaf;have hnd:=hF.ah;obtain ⟨xk,xn,xs,sM⟩:=x;obtain ⟨yk,yn,ys,Ay⟩:=y;rw [Val.wt] at h kG uc;have XQ:=my mU;have XR:=my hry;simp only [Val.ks,Val.n] at Vw Vx Qr XQ XR;have yx:=cG sM;have hyl:=cG Ay;have hdx:=bl sM;have hdy:=bl Ay;by_cases hc:xn≠yn∨xs≠ys∨sM.length≠Ay.length
  ·have hD:diffV ND (aK S) S.ae.length obs (.mk xk xn xs sM) (.mk yk yn ys Ay) j a=some []:=by rw [diffV,ap hc]
   rw [hD];refine qg (s:=false) (bt:=[]) (mu:=[]) (hbt:=fun p hp=>by cases hp) (fr:=true) (P:=prog) tt fo 5000 115 [.tmp 10,.tmp 11] func152 rfl ntmps152 rfl (nL rfl) (fun _ _ _ _=>?_);refine br (fun _=>?_) (fun c=>?_)
   ·exact ⟨_,[],ax,rfl,rfl,rfl⟩
   ·grind [aq]
  ·have hD:diffV ND (aK S) S.ae.length obs (.mk xk xn xs sM) (.mk yk yn ys Ay) j a=diffVs ND (aK S) S.ae.length obs sM Ay d' xn a 0:=by rw [diffV,aj hc,hnd]
   rw [hD];simp at hc;obtain ⟨rfl,rfl,BR⟩:=hc;obtain ⟨ag,at',lo,hi,most,Cl,es⟩:=d';refine qg (s:=false) (bt:=[]) (mu:=[]) (hbt:=fun p hp=>by cases hp) (fr:=true) (P:=prog) tt fo 5000 115 [.tmp 10,.tmp 11] func152 rfl ntmps152 rfl (nL rfl) (fun _ _ _ _=>?_);refine br (fun c=>absurd c (by simp [aq,hdx,hdy,BR])) (fun _=>?_);refine cP mR dE ?_;refine lI (fun t st=>∃ e:Nat,st=adSt PC LC obs a (.mk xk xn xs sM) (.mk yk xn xs Ay) ⟨ag,at',lo,hi,most,Cl,es⟩ e/\e<=sM.length/\diffVs ND (aK S) S.ae.length obs (sM.drop e) (Ay.drop e) ⟨ag,at',lo,hi,most,Cl,es⟩ xn a e=diffVs ND (aK S) S.ae.length obs sM Ay ⟨ag,at',lo,hi,most,Cl,es⟩ xn a 0/\t=sM.length - e) ⟨0,rfl,by omega,rfl,rfl⟩ (dj 4 pP kj) ?_;rintro t st ⟨e,rfl,he,hE,rfl⟩;refine br ?_ ?_<;>intro nD
   ·have au:e < sM.length:=by simpa [hdx,Val.ks] using nD
    obtain ⟨x,hx⟩:=gX au;obtain ⟨y,hy⟩:∃ y,Ay[e]? = some y:=⟨_,gE (by omega)⟩;have Rp:=mG hx;have hmy:=mG hy;have XC:=du Rp;have hwy:=du hmy;obtain ⟨ed,hK⟩:=Vw hx;obtain ⟨I1,hK2⟩:=Vx hy;have uj:I1=ed:=by have:=hK.fD;rw [hK2.fD] at this;cases this;rfl
    subst uj;have h5:5<=ag:=by grind
    obtain ⟨qM,_⟩:=Fp hN hK.mem hK.bare;have Ko:=Ku hK.to' qM;rw [List.drop_eq_getElem_cons au,show sM[e]=x from (gS hx).2,List.drop_eq_getElem_cons (show e < Ay.length by omega),show Ay[e]=y from (gS hy).2,diffVs,hK.fD] at hE;simp only at hE;have hU:=Ce hL hN hK.mem ha;have hSn:=S5 hL hN hK.mem ha;have kz:=I0 hR PC obs a ha ⟨ag,at',lo,hi,most,Cl,es⟩ (.mk xk xn xs sM) e I1 hK.fD hK.mem hN h5 Ko L8;have nT:=yf hR PC obs (gA (aK S) S.ae.length ⟨ag,at',lo,hi,most,Cl,es⟩ I1 a) ho hU;have CO:=yf hR PC obs (yD (aK S) S.ae.length a I1.seen.toNat) ho hSn;have hcs:=CN I1 x y (di XQ Rp) (di XR hmy) (by omega) (by omega) (Qq.2.2 I1 hK.mem);have hrec:=ih x (by omega) (by omega) (di XQ Rp) y (by omega) (di XR hmy) I1.to (gA (aK S) S.ae.length ⟨ag,at',lo,hi,most,Cl,es⟩ I1 a) hU hK.fit hK2.fit
    have QS:=astepP_spec ⟨ag,at',lo,hi,most,Cl,es⟩ (.mk xk xn xs sM) e h5 hN.k8 (fun c7=>by
     have:=hK.fD;unfold bH at this;rw [ap c7] at this
     exact (gS this).1) Ko
    obtain ⟨_,_,h3,S9⟩:=gJ hN hK.mem;have hj:=hR.join a I1.seen.toNat ha S9;rw [<- h3] at hj;rw [Cd] at hE;have acZ:=fun i' a' p=>sS (ND:=ND) (f:=aK S) (L:=S.ae.length) (obs:=obs) x y i' a' p;generalize gA (aK S) S.ae.length ⟨ag,at',lo,hi,most,Cl,es⟩ I1 a=U at hU kz nT hrec hE;generalize yD (aK S) S.ae.length a I1.seen.toNat=SN at hj CO hSn hE;rw [show Fo ⟨ag,at',lo,hi,most,Cl,es⟩ (Val.mk xk xn xs sM).n e=Fo ⟨ag,at',lo,hi,most,Cl,es⟩ xn e from rfl] at QS;generalize Fo ⟨ag,at',lo,hi,most,Cl,es⟩ xn e=sp at QS hE;have gn:=acZ I1.to U;clear acZ;generalize diffV ND (aK S) S.ae.length obs x y I1.to U=R at hrec hE gn;generalize nP I1 x y=SC at hcs hE;generalize aK S U obs=b1 at nT hE;generalize aK S SN obs=b2 at CO hE;obtain ⟨ak,an,as',aks⟩:=x;obtain ⟨bk,bn,bs,bks⟩:=y;obtain ⟨en,eb,ea,et,q4,ew,eU,ic,rD,iV⟩:=I1;obtain ⟨sk,sn,ss⟩:=sp;refine iX (cp hx) ?_;refine cP ZO kz ?_;refine cP NR nT ?_
    cases b1 with
    | true=>
     simp only [reduceIte] at hE;refine dI ?_;refine iX (cp hy) ?_;refine Kv T8 rfl hrec ax (fun yA bY hr=>?_)
     match R,hr,hE,gn with
     | none,hr,hE,_=>
      obtain ⟨rfl,rfl⟩:=hr;simp only at hE;exact rE ⟨_,by omega,e + 1,rfl,by omega,hE,rfl⟩ (dj 4 (kH (aN au (by omega))) (cY (aN au (by omega))))
     | some [],hr,hE,_=>
      obtain ⟨rfl,rfl⟩:=hr;simp only at hE;rw [<- hE];refine qF (os:=[]) 0 0 NS rfl rfl rfl rfl ax QS (fun r fX bX hr h1 h2=>?_);subst hr;obtain rfl:=List.eq_nil_of_length_eq_zero h1;obtain rfl:=List.eq_nil_of_length_eq_zero h2;refine ⟨⟨[(111,⟨[],.agg (ju ⟨sk,sn,ss⟩)⟩),(107,⟨[],.sl 0 [] (some 0)⟩)],[],[⟨0,141,3,some []⟩]⟩,Wk.O2 (dx 0 ⟨0,141,3,some []⟩ rfl rfl rfl pP rfl rfl kj),?_⟩;refine ⟨⟨⟨rfl,by simp⟩,by simp [maxLen],by simp⟩,?_⟩;exact ⟨.tup [.sl 0 (List.replicate 1 []) (some 0),.v (.bool true)],[],fA,rfl,rfl,rfl⟩
     | some (s0 :: p0),hr,hE,gn=>
      obtain ⟨rfl,rfl⟩:=hr;simp only at hE;rw [<- hE];refine cP NS QS ?_;have gn:=gn (s0 :: p0) rfl;rw [List.length_cons] at gn;refine ⟨⟨⟨by simp,by simp⟩,by simp [maxLen];omega,by simp;omega⟩,?_⟩;refine ⟨.tup [.sl 0 (List.replicate (p0.length + 1 + 1) []) (some 0),.v (.bool true)],[],fA,rfl,rfl,?_⟩;exact congrArg (fun l=>[(⟨p0.length + 1 + 1,141,3,some l⟩:TkE)]) (QR ⟨sk,sn,ss⟩ (s0 :: p0))
    | false=>
     by_cases FE:eU=0
     ·subst FE;simp at hE;refine dI ?_;exact rE ⟨_,by omega,e + 1,rfl,by omega,hE,rfl⟩ (dj 4 (kH (aN au (by omega))) (cY (aN au (by omega))))
     ·cases b2 with
      | false=>
       simp at hE;refine dI ?_;refine br (fun _=>?_) (fun g=>absurd g (by simp [FE]));refine cD tg hj ?_;refine cD NR CO ?_;exact rE ⟨_,by omega,e + 1,rfl,by omega,hE,rfl⟩ (dj 4 (kH (aN au (by omega))) (cY (aN au (by omega))))
      | true=>
       simp [FE] at hE;refine dI ?_;refine br (fun _=>?_) (fun g=>absurd g (by simp [FE]));refine cD tg hj ?_;refine cD NR CO ?_;refine dI ?_;refine iX (cp hy) ?_;refine cD ZP hcs ?_
       cases SC with
       | true=>
        simp at hE;exact rE ⟨_,by omega,e + 1,rfl,by omega,hE,rfl⟩ (dj 4 (kH (aN au (by omega))) (cY (aN au (by omega))))
       | false=>
        simp at hE;rw [<- hE];refine qF (os:=[]) 0 0 NS rfl rfl rfl rfl ax QS (fun r fX bX hr h1 h2=>?_);subst hr;obtain rfl:=List.eq_nil_of_length_eq_zero h1;obtain rfl:=List.eq_nil_of_length_eq_zero h2;refine ⟨⟨[(111,⟨[],.agg (ju ⟨sk,sn,ss⟩)⟩),(107,⟨[],.sl 0 [] (some 0)⟩)],[],[⟨0,141,3,some []⟩]⟩,Wk.O2 (dx 0 ⟨0,141,3,some []⟩ rfl rfl rfl pP rfl rfl kj),?_⟩;refine ⟨⟨⟨rfl,by simp⟩,by simp [maxLen],by simp⟩,?_⟩;exact ⟨.tup [.sl 0 (List.replicate 1 []) (some 0),.v (.bool true)],[],fA,rfl,rfl,rfl⟩
   ·have hge:e=sM.length:=by have:=nD;simp [hdx,Val.ks] at this;omega
    subst hge;rw [List.drop_length] at hE;rw [<- hE,show diffVs ND (aK S) S.ae.length obs ([]:List Val) (Ay.drop sM.length) ⟨ag,at',lo,hi,most,Cl,es⟩ xn a sM.length=none by rw [diffVs];simp];exact ⟨_,[],ax,rfl,rfl,rfl⟩
theorem reverse_nil:Ev prog 153 [.v (.slice none 0 0)] [] [] (fun _ _ _=>True):=by
 refine eG 28 [] func153 rfl ntmps153 rfl fun _ _ _ _=>?_;refine lI (fun t st=>st=⟨[(0,⟨[],.v (.slice none 0 0)⟩),ay 2 0,ay 3 (-1)],[],[]⟩/\t=0) ⟨rfl,rfl⟩ (bp kj) ?_;rintro t st ⟨rfl,rfl⟩;exact ⟨.tup [],ax,trivial⟩
section
variable {S:Sch} {ND:List Nd} {PC LC:List DV} (hP:eT S ND PC) (ej:EvP prog 72 [.pt PC 0] (.pt LC 0)) (hR:pA S.ae.length (aK S) (aA S.ae) LC) (yW:∀ n∈ND,xU n) (bZ:∀ n∈ND,n.aw.length<=1099511627776) (rt:Nat) (oS:cr S=rt)
include hP ej hR oS
theorem AP (o:Int) (x y:Val) (hx:x.wt<=1099511627776) (hy:y.wt<=1099511627776) :
  EvP prog 78 [.pt PC 0,.v (.int .i64 o),.agg (aZ x),.agg (aZ y)] (.v (.bool (decide (0<=o/\o < S.ae.length) && fitV ND x rt && fitV ND y rt))):=by
 have hlen:=hR.len;have cW:=hP.root;rw [oS] at cW;have h1:=kg hP _ x (aQ _) hx rt;have h2:=kg hP _ y (aQ _) hy rt;generalize fitV ND x rt=F1 at h1 ⊢;generalize fitV ND y rt=F2 at h2 ⊢;obtain ⟨xk,xn,xs,sM⟩:=x;obtain ⟨yk,yn,ys,Ay⟩:=y;refine eG 32 [.tmp 8] func78 rfl ntmps78 rfl fun _ _ _ _=>?_;refine dI ?_;refine br ?_ ?_<;>intro c
 ·have c:0<=o:=sU c;refine cD Bi ej ?_;refine cD DL hlen ?_;refine br ?_ ?_<;>intro g
  ·have g:o < S.ae.length:=by simpa [pickB] using g
   refine cD uu cW ?_;refine cD NF h1 ?_;rw [show decide (0<=o/\o < (S.ae.length:Int))=true from decide_eq_true ⟨c,g⟩]
   cases F1 with
   | false=>exact (rfl:_=_)
   | true=>
    refine cD uu cW ?_;refine cD NF h2 ?_;exact (rfl:_=_)
  ·have g:¬ o < S.ae.length:=by simpa [pickB] using g
   rw [show decide (0<=o/\o < (S.ae.length:Int))=false from decide_eq_false (fun h=>g h.2)];exact (rfl:_=_)
 ·have c:¬ 0<=o:=sU c;rw [show decide (0<=o/\o < (S.ae.length:Int))=false from decide_eq_false (fun h=>c h.1)];exact (rfl:_=_)
include yW bZ
theorem I2 (eM:rt < ND.length) (o:Int) (x y:Val) (hx:x.wt<=1099511627776) (hy:y.wt<=1099511627776) (mU:rngW x) (hry:rngW y) :
  EvP prog 77 [.pt PC 0,.v (.int .i64 o),.agg (aZ x),.agg (aZ y)] (dfD (Yo ND (aK S) S.ae.length rt o x y)):=by
 have hb:=AP hP ej hR rt oS o x y hx hy;have cW:=hP.root;rw [oS] at cW;have qJ:=hR.bot;have hD:Yo ND (aK S) S.ae.length rt o x y=if 0<=o/\o < S.ae.length/\fitV ND x rt=true/\fitV ND y rt=true then diffV ND (aK S) S.ae.length o.toNat x y rt (ib (aK S) S.ae.length) else none:=rfl
 generalize Yo ND (aK S) S.ae.length rt o x y=D at hD ⊢;by_cases hc:0<=o/\o < S.ae.length/\fitV ND x rt=true/\fitV ND y rt=true
 ·rw [ap hc] at hD;rw [show decide (0<=o/\o < (S.ae.length:Int))=true from decide_eq_true ⟨hc.1,hc.2.1⟩,hc.2.2.1,hc.2.2.2] at hb;obtain ⟨ob,rfl⟩:∃ n:Nat,o=n:=⟨_,(Int.toNat_of_nonneg hc.1).symm⟩;rw [kS] at hD;have hdf:=ru hP hR yW bZ ob (by omega) _ x (aQ _) hx mU y hy hry rt (ib (aK S) S.ae.length) (u1 hR.ok) hc.2.2.1 hc.2.2.2;rw [<- hD] at hdf;have gn:=fun p h=>sS (ND:=ND) (f:=aK S) (L:=S.ae.length) (obs:=ob) x y rt (ib (aK S) S.ae.length) p h;rw [<- hD] at gn;generalize ib (aK S) S.ae.length=bt at qJ hdf;obtain ⟨xk,xn,xs,sM⟩:=x;obtain ⟨yk,yn,ys,Ay⟩:=y;refine eG 40 [.tmp 8,.tmp 9] func77 rfl ntmps77 rfl fun _ _ _ _=>?_;refine cP RZ hb ?_;refine cP Bi ej ?_;refine dI ?_;refine cD uu cW ?_;refine cD NG qJ ?_;refine Kv T8 rfl hdf ax (fun yA bY hr=>?_)
  match D,hr,gn with
  | none,hr,_=>
   obtain ⟨rfl,rfl⟩:=hr;refine bS NL rfl reverse_nil ax (fun q _=>?_);exact ⟨_,ax,rfl⟩
  | some [],hr,_=>
   obtain ⟨rfl,rfl⟩:=hr;refine bS NL rfl reverse_nil ax (fun q _=>?_);exact ⟨.tup [.sl 3 (cz []) none,.v (.bool true)],ax,rfl⟩
  | some (s :: p),hr,gn=>
   obtain ⟨rfl,rfl⟩:=hr;have gn:=gn (s :: p) rfl;have eM:(s :: p).reverse.length=p.length + 1:=by rw [List.length_reverse,List.length_cons]
   have Bn:=CM (s :: p).reverse (by simp) (by rw [eM];rw [List.length_cons] at gn;omega);rw [eM,List.reverse_reverse] at Bn
   have uq:∀ x∈cz (s :: p),x.length=3:=fun x hx=>by
    obtain ⟨y,_,rfl⟩:=List.mem_map.1 hx;rfl
   have hZ:(cz (s :: p)).length=p.length + 1:=by rw [oA,List.length_cons]
   have BM:(List.replicate (p.length + 1) ([]:List DV)).length=p.length + 1:=List.length_replicate;refine qF (os:=[]) 0 1 NL rfl rfl rfl rfl fA Bn (fun r fX bX hr h1 h2=>?_);subst hr;obtain rfl:=List.eq_nil_of_length_eq_zero h1;refine ⟨_,Tz (t:=11) (k:=0) (ns:=cz (s :: p)) rfl uq hZ rfl BM,?_⟩;exact ⟨.tup [.sl 3 (cz (s :: p)) none,.v (.bool true)],ax,rfl⟩
 ·rw [aj hc] at hD;subst hD;have hf:(decide (0<=o/\o < S.ae.length) && fitV ND x rt && fitV ND y rt)=false:=by grind
  rw [hf] at hb;obtain ⟨xk,xn,xs,sM⟩:=x;obtain ⟨yk,yn,ys,Ay⟩:=y;refine eG 40 [.tmp 8,.tmp 9] func77 rfl ntmps77 rfl fun _ _ _ _=>?_;refine cP RZ hb ?_;exact ⟨_,ax,rfl⟩
theorem Gi (eM:rt < ND.length) (o:Int) (x y:Val) (hx:x.wt<=1099511627776) (hy:y.wt<=1099511627776) (mU:rngW x) (hry:rngW y) :
  EvP prog 21 [.pt PC 0,.v (.int .i64 o),.agg (aZ x),.agg (aZ y)] (.v (.bool (Yp ND (aK S) S.ae.length rt o x y))):=by
 have hb:=AP hP ej hR rt oS o x y hx hy;have hd:=I2 hP ej hR yW bZ rt oS eM o x y hx hy mU hry;have hA:Yp ND (aK S) S.ae.length rt o x y=(decide (0<=o/\o < S.ae.length) && fitV ND x rt && fitV ND y rt && (diffV ND (aK S) S.ae.length o.toNat x y rt (ib (aK S) S.ae.length)).isNone):=rfl;have hD:Yo ND (aK S) S.ae.length rt o x y=if 0<=o/\o < S.ae.length/\fitV ND x rt=true/\fitV ND y rt=true then diffV ND (aK S) S.ae.length o.toNat x y rt (ib (aK S) S.ae.length) else none:=rfl
 have hE:Yp ND (aK S) S.ae.length rt o x y=(decide (0<=o/\o < S.ae.length) && fitV ND x rt && fitV ND y rt && !(Yo ND (aK S) S.ae.length rt o x y).isSome):=by grind
 rw [hE];clear hE hD hA;generalize Yo ND (aK S) S.ae.length rt o x y=D at hd ⊢;generalize (decide (0<=o/\o < S.ae.length) && fitV ND x rt && fitV ND y rt)=B at hb ⊢;obtain ⟨xk,xn,xs,sM⟩:=x;obtain ⟨yk,yn,ys,Ay⟩:=y
 cases D with
 | none=>
  refine eG 28 [.tmp 8] func21 rfl ntmps21 rfl fun _ _ _ _=>?_;refine cP Zi hd ?_;refine cP RZ hb ?_;cases B<;>exact (rfl:_=_)
 | some p=>
  refine eG 28 [.tmp 8] func21 rfl ntmps21 rfl fun _ _ _ _=>?_;refine cP Zi hd ?_;refine cP RZ hb ?_;cases B<;>exact (rfl:_=_)
end
theorem TB {ND:List Nd} {L:Nat} (bI:∀ n∈ND,dt L ND.length n) {x:Val} {i:Int} {d:Nd} (hw:ie ND x i=true) (hd:bV ND i=some d) {j:Nat} {a:Val} (ha:x.ks[j]? = some a) :
  5<=d.ag/\x.k=d.ag/\shellF d x=true/\∃ e,bH d x.n j=some e/\e.bare=false/\ie ND a e.to=true:=by
 have hN:=bI d (mG (bJ hd).2);obtain ⟨k,n,s,ks⟩:=x;simp only [Val.ks] at ha;have bf:ks ≠ []:=by rintro rfl;cases ha
 rw [ie,hd] at hw;simp only at hw;split at hw
 ·simp [bf] at hw
 split at hw
 ·cases hw
 rename_i hk;split at hw
 ·simp [bf] at hw
 rw [aP] at hw;obtain ⟨e,he,YP⟩:=lD hw.2 ha;rw [Nat.zero_add] at he;obtain ⟨e',hK⟩:=sN hN (by omega) hw.1 (m:=j) (gS ha).1;have:=hK.fD;simp only [Val.n] at this;rw [he] at this;cases this;exact ⟨by omega,by simp only [Val.k];omega,hw.1,e,he,hK.bare,YP⟩
structure QT (c:jf):Prop where
 p:c.p.length<=1099511627776
 s:∀ s∈c.p,s.s.size<=1099511627776
 l:c.lit.s.size<=1099511627776
 k:c.lit.keys.length + c.lit.ks.length<=1099511627776
theorem ac0 {ND:List Nd} {L:Nat} (bI:∀ n∈ND,dt L ND.length n) {u:Val} {i:Int} (hw:ie ND u i=true):∃ d,bV ND i=some d/\(u.k=4->0<=u.n/\u.n < d.af.length)/\(u.k=8->0<=u.n/\u.n < d.aw.length)/\(u.k=7->u.ks.length<=d.aw.length)/\(u.k=5∨u.k=6->0 < d.aw.length)/\(u.k < 5∨9<=u.k->u.ks=[]):=by
 obtain ⟨d,hd,hc⟩:=kh hw;have hN:=bI d (mG (bJ hd).2);refine ⟨d,hd,?_⟩;rcases hc with ⟨h1,h2,h3⟩ | ⟨h1,h2,h3,h4⟩ | ⟨h1,h2,h3,h4⟩
 ·exact ⟨fun h=>by omega,fun h=>by omega,fun h=>by omega,fun h=>by omega,fun _=>h3⟩
 ·exact ⟨h4,fun h=>by omega,fun h=>by omega,fun h=>by omega,fun _=>h3⟩
 ·refine ⟨fun h=>by omega,fun h=>shell_8 h3 (by omega),fun h=>?_,fun h=>?_,fun h=>?_⟩
  ·have:d.ag=7:=by omega
   grind [shellF]
  ·obtain ⟨e,he,_⟩:=hN.one (by omega);rw [he];simp
  ·have:=hN.k8;omega
abbrev QU (PC:List DV) (c:jf) (i:Int) (e:Ed) (u:Val) (j:Nat):St:=
 ⟨[mQ 0 PC,aE 4 0,aE 5 1,bh 15 3 (cz c.p),ay 16 ((cz c.p).length),ay 17 j],[dPl i e u,rb c],[]⟩
set_option maxHeartbeats 2000000 in
theorem Gj {S:Sch} {ND:List Nd} {PC:List DV} (hP:eT S ND PC) (H4:∀ n∈ND,xU n) (c:jf) (hc:QT c) (i:Int) (e:Ed) (u:Val) (hu:u.wt<=1099511627776) (TC:rngW u) (hw:ie ND u i=true) (he : -9223372036854775808 < e.cn/\e.cn<=9223372036854775807) :
  EvP prog 274 [.pt PC 0,.agg (dPl i e u),.agg (rb c)] (.v (.int .i64 (walkQ ND c c.p i e u))):=by
 have ki:=fun i d e u (hd:ND[i]? = some d) h4 h8 hu hus he=>IK hP i d hd e u c h4 h8 hu hus he hc.l;have U4:walkQ ND c (c.p.drop 0) i e u=walkQ ND c c.p i e u:=rfl;generalize walkQ ND c c.p i e u=F at U4 ⊢;have gn:=hc.p;have de:=oA c.p;obtain ⟨p,op,rk,ra,rn,rs,bW,kD⟩:=c;obtain ⟨uk,un,us,ul⟩:=u;obtain ⟨en,eb,ea,et,el,ew,eU,ic,AF,iV⟩:=e;have gn:p.length<=1099511627776:=gn;refine eG 77 [.tmp 6] func274 rfl ntmps274 rfl fun _ _ _ _=>?_
 refine aV (fun j st=>∃ (q:Nat) (i:Int) (e:Ed) (u:Val),st=QU PC ⟨p,op,.mk rk ra rn rs bW kD⟩ i e u q/\q<=p.length/\walkQ ND ⟨p,op,.mk rk ra rn rs bW kD⟩ (p.drop q) i e u=F/\u.wt<=1099511627776/\rngW u/\ie ND u i=true/\(-9223372036854775808 < e.cn/\e.cn<=9223372036854775807)/\j=p.length - q) p.length
  (QU PC ⟨p,op,.mk rk ra rn rs bW kD⟩ i ⟨en,eb,ea,et,el,ew,eU,ic,AF,iV⟩ (.mk uk un us ul) 0) (dj 2 pP kj) ⟨0,_,_,_,rfl,by omega,U4,hu,TC,hw,he,by omega⟩ ?_
 clear hw U4 TC hu he i uk un us ul en eb ea et el ew eU ic AF iV;rintro _ st ⟨q,i,e,u,rfl,hq,hF,hu,TC,hw,he,rfl⟩;obtain ⟨d,hd,w4,w8,w7,w5,wl⟩:=ac0 hP.ok hw;obtain ⟨ME,Rf⟩:=bJ hd;have hnd:=hP.ah i.toNat d Rf;rw [show ((i.toNat:Nat):Int)=i by omega] at hnd;refine br ?_ ?_<;>intro hL
 ·have au:q < p.length:=sV de hL;obtain ⟨s,hs⟩:=gX au
  have hdr:p.drop q=s :: p.drop (q + 1):=by
   obtain ⟨h1,h2⟩:=List.getElem?_eq_some_iff.1 hs;rw [List.drop_eq_getElem_cons h1,h2]
  have FO:u.ks.length<=1099511627776:=by
   have h2:=cG u.ks;have hw:u.wt=64 + u.s.size + ch u.ks:=by obtain ⟨_,_,_,_⟩:=u;rfl
   omega
  have aW:=FV d u s w7 w8 w5 FO
  have hS:pK d u s=(match bB (II d u s) u.ks.length with
   | none=>.tup [.agg (nF jv),.v (.int .i64 0),.v (.bool false)]
   | some j=>.tup [.agg (nF ((d.aw[Cw u j]?).getD jv)),.v (.int .i64 j),.v (.bool true)]):=rfl
  rw [hdr,walkQ,hd] at hF;simp only at hF
  have Cr:∀ j a,u.ks[j]? = some a->∃ x,d.aw[Cw u j]? = some x/\ie ND a x.to=true/\(-9223372036854775808 < x.cn/\x.cn<=9223372036854775807):=fun j a ha=>by
   obtain ⟨h5,hk,yX,x,hx,hb,hwa⟩:=TB hP.ok hw hd ha
   have Jx:d.aw[Cw u j]? = some x:=by
    unfold bH at hx;unfold Cw;rw [hk];split
    ·rename_i c;rw [ap c] at hx;exact hx
    ·rename_i c;rw [aj c] at hx;split
     ·rename_i c2;rw [ap c2] at hx;exact hx
     ·rename_i c2;rw [aj c2] at hx;exact hx
   have hN:=hP.ok d (mG Rf);have hE:=hN.fD x (mG Jx);have hr:=H4 d (mG Rf);have Vp:=hE.cn;have FE:=hE.ck;have:=(hr.2.2 x (mG Jx));unfold mH at this;exact ⟨x,Jx,hwa,by omega,by omega⟩
  have bZ:∀ a∈u.ks,a.wt<=1099511627776:=fun a ha=>by
   have h2:=du ha;have hw:u.wt=64 + u.s.size + ch u.ks:=by obtain ⟨_,_,_,_⟩:=u;rfl
   omega
  have Kb:∀ a∈u.ks,rngW a:=fun a ha=>di (my TC) ha;obtain ⟨ag,at',lo,hi,most,af,es⟩:=d;obtain ⟨sk,sn,ss⟩:=s;have Uz:=oB hs;clear w4 w8 w7 w5 wl ki hd Rf hw TC hu hS;by_cases c9:u.k=9
  ·rw [ap c9] at hF;obtain ⟨uk,un,us,ul⟩:=u;obtain ⟨en,eb,ea,et,el,ew,eU,ic,AF,iV⟩:=e;have c9:uk=9:=c9;subst c9;refine ⟨_,⟨by omega,Uz⟩,?_⟩;rw [<- hF];exact (rfl:_=_)
  rw [aj c9] at hF;by_cases XL:u.k=12/\sk=2/\sn < u.n
  ·rw [ap XL] at hF;obtain ⟨uk,un,us,ul⟩:=u;obtain ⟨en,eb,ea,et,el,ew,eU,ic,AF,iV⟩:=e;obtain ⟨c1,rfl,c3⟩:=XL;have c1:uk=12:=c1;have c3:sn < un:=c3;subst c1;refine ⟨_,⟨by omega,Uz⟩,?_⟩;refine br (fun g=>?_) (fun g=>absurd c3 (of_decide_eq_false g));rw [<- hF];exact (rfl:_=_)
  rw [aj XL] at hF;have TD:∀ R,pK ⟨ag,at',lo,hi,most,af,es⟩ u ⟨sk,sn,ss⟩=R->EvP prog 315 [.agg (kO ⟨ag,at',lo,hi,most,af,es⟩),.agg (aZ u),.agg (ju ⟨sk,sn,ss⟩)] R:=fun R h=>h ▸ aW;clear aW
  cases hf:bB (II ⟨ag,at',lo,hi,most,af,es⟩ u ⟨sk,sn,ss⟩) u.ks.length with
  | none=>
   rw [hf] at hF;have aW:=TD (.tup [.agg (nF jv),.v (.int .i64 0),.v (.bool false)]) (by rw [pK,hf]);clear TD hf;obtain ⟨uk,un,us,ul⟩:=u;obtain ⟨en,eb,ea,et,el,ew,eU,ic,AF,iV⟩:=e;refine ⟨_,⟨by omega,Uz⟩,?_⟩;refine br (fun g=>absurd (of_decide_eq_true g) c9) (fun g=>?_);refine br (fun g=>(XL ?_).elim) (fun g=>?_)
   ·rw [ai,ai] at g;simp only [aP,decide_eq_true_eq] at g;exact ⟨g.1.1,g.1.2,g.2⟩
   refine cP mR hnd ?_;refine cP Uu aW ?_;rw [<- hF];exact (rfl:_=_)
  | some j=>
   obtain ⟨hj,_,_⟩:=dN hf;obtain ⟨a,ha⟩:∃ a,u.ks[j]? = some a:=⟨_,gE hj⟩;obtain ⟨x,hx,hwa,hxc⟩:=Cr j a ha;have ham:=mG ha;have haw:=bZ a ham;have har:=Kb a ham;rw [hf] at hF;simp only at hF;rw [ha,hx] at hF;simp only at hF;have aW:=TD (.tup [.agg (nF x),.v (.int .i64 j),.v (.bool true)]) (by rw [pK,hf];simp only;rw [hx];rfl);clear TD hf Cr bZ Kb;obtain ⟨uk,un,us,ul⟩:=u;have M6:=cp (show ul[j]? = some a from ha);obtain ⟨en,eb,ea,et,el,ew,eU,ic,AF,iV⟩:=e;obtain ⟨xn,xb,xa,xt,xl,xw,xck,xcn,xsn,xca⟩:=x;obtain ⟨ak,an,as',al⟩:=a;refine ⟨_,⟨by omega,Uz⟩,?_⟩;refine br (fun g=>absurd (of_decide_eq_true g) c9) (fun g=>?_);refine br (fun g=>(XL ?_).elim) (fun g=>?_)
   ·rw [ai,ai] at g;simp only [aP,decide_eq_true_eq] at g;exact ⟨g.1.1,g.1.2,g.2⟩
   refine cP mR hnd ?_;refine cP Uu aW ?_;refine dS ?_;refine ⟨_,⟨by omega,M6⟩,?_⟩;exact ⟨QU PC ⟨p,op,.mk rk ra rn rs bW kD⟩ xt ⟨xn,xb,xa,xt,xl,xw,xck,xcn,xsn,xca⟩ (.mk ak an as' al) (q + 1),(dj 2 (kH (aN au (by omega))) (cY (aN au (by omega)))),p.length - (q + 1),by omega,q + 1,_,_,_,rfl,by omega,hF,haw,har,hwa,hxc,rfl⟩
 ·have hge:p.length<=q:=sV de hL;rw [List.drop_eq_nil_of_le hge,walkQ,hd] at hF;have hF:Qy d e u ⟨p,op,.mk rk ra rn rs bW kD⟩=F:=hF
  have hE:=ki i.toNat d e u Rf w4 w8 (CI TC) (by
   have hw:u.wt=64 + u.s.size + ch u.ks:=by obtain ⟨_,_,_,_⟩:=u;rfl
   omega) he
  rw [show ((i.toNat:Nat):Int)=i by omega,hF] at hE;clear hF ki hnd;obtain ⟨uk,un,us,ul⟩:=u;obtain ⟨en,eb,ea,et,el,ew,eU,ic,AF,iV⟩:=e;refine cP aae hE ?_;exact (rfl:_=_)
theorem Gk {S:Sch} {ND:List Nd} {PC LC:List DV} (hP:eT S ND PC) (ej:EvP prog 72 [.pt PC 0] (.pt LC 0)) (hR:pA S.ae.length (aK S) (aA S.ae) LC) (H4:∀ n∈ND,xU n) (bZ:∀ n∈ND,n.aw.length<=1099511627776) (rt:Nat) (oS:cr S=rt) (eM:rt < ND.length) (o:Int) (c:jf) (hc:QT c) (u:Val) (hu:u.wt<=1099511627776) (TC:rngW u) :
  EvP prog 239 [.pt PC 0,.v (.int .i64 o),.agg (aZ u),.agg (rb c)] (.v (.int .i64 (Kz ND (aK S) S.ae.length rt o u c))):=by
 have h1:=Cx c hc.s hc.l hc.k;have h2:=tR hP ej hR H4 bZ rt oS eM o u hu TC;have h3:=Is hP c.p hc.p (fun s h=>by have:=hc.s s h;omega) rt oS eM;have h4:=fun hw=>Gj hP H4 c hc rt jv u hu TC hw (by decide);have hw:=fun h=>@rm ND (aK S) S.ae.length hP.ok rt o u h;have cW:=hP.root;rw [oS] at cW;have hF:Kz ND (aK S) S.ae.length rt o u c=if sP c=true/\uC ND (aK S) S.ae.length rt o u=true/\(walkV ND (aK S) S.ae.length c.p rt (ib (aK S) S.ae.length)).isSome=true then walkQ ND c c.p rt jv u else 0:=rfl
 generalize Kz ND (aK S) S.ae.length rt o u c=F at hF ⊢;generalize walkQ ND c c.p rt jv u=Q at h4 hF;generalize sP c=b1 at h1 hF;generalize uC ND (aK S) S.ae.length rt o u=b2 at h2 hw hF;generalize walkV ND (aK S) S.ae.length c.p rt (ib (aK S) S.ae.length)=W at h3 hF;obtain ⟨p,op,rk,ra,rn,rs,bW,kD⟩:=c;obtain ⟨uk,un,us,ul⟩:=u
 cases b1 with
 | false=>
  rw [aj (by simp)] at hF;subst hF;refine eG 39 [.tmp 8] func239 rfl ntmps239 rfl fun _ _ _ _=>?_;refine cP JG h1 ?_;exact (rfl:_=_)
 | true=>
  cases b2 with
  | false=>
   rw [aj (by simp)] at hF;subst hF;refine eG 39 [.tmp 8] func239 rfl ntmps239 rfl fun _ _ _ _=>?_;refine cP JG h1 ?_;refine cP RX h2 ?_;exact (rfl:_=_)
  | true=>
   cases W with
   | none=>
    rw [aj (by simp)] at hF;subst hF;refine eG 39 [.tmp 8] func239 rfl ntmps239 rfl fun _ _ _ _=>?_;refine cP JG h1 ?_;refine cP RX h2 ?_;refine cP Zj h3 ?_;exact (rfl:_=_)
   | some jb=>
    obtain ⟨j,b⟩:=jb;rw [ap (by simp)] at hF;subst hF;have h4:=h4 (hw rfl);refine eG 39 [.tmp 8] func239 rfl ntmps239 rfl fun _ _ _ _=>?_;refine cP JG h1 ?_;refine cP RX h2 ?_;refine cP Zj h3 ?_;refine dI ?_;refine cD uu cW ?_;refine cD Z4 h4 ?_;exact (rfl:_=_)
abbrev I3 (PC:List DV) (o:Int) (u:Val) (l:List jf) (out:Int) (e:Nat):St:=
 ⟨[mQ 0 PC,ay 1 o,aE 6 0,ay 9 out,bh 12 8 (dR l),ay 13 ((dR l).length),ay 14 e],[aZ u],[]⟩
theorem I4 (PC:List DV) (o:Int) (u:Val) (l:List jf) (hl:l.length<=1099511627776) (E:jf->Int) (hE:∀ c∈l,EvP prog 239 [.pt PC 0,.v (.int .i64 o),.agg (aZ u),.agg (rb c)] (.v (.int .i64 (E c)))) :
  EvP prog 184 [.pt PC 0,.v (.int .i64 o),.agg (aZ u),.sl 8 (dR l) none] (.v (.int .i64 (allQ E l 1))):=by
 have de:=AB l;have U4:allQ E (l.drop 0) 1=allQ E l 1:=rfl;generalize allQ E l 1=F at U4 ⊢;obtain ⟨uk,un,us,ul⟩:=u;refine eG 29 [.tmp 8] func184 rfl ntmps184 rfl fun _ _ _ _=>?_;refine lI (fun j st=>∃ (e:Nat) (out:Int),st=I3 PC o (.mk uk un us ul) l out e/\e<=l.length/\allQ E (l.drop e) out=F/\j=l.length - e) ⟨0,1,rfl,by omega,U4,rfl⟩ (dj 1 pP kj) ?_;rintro _ st ⟨e,out,rfl,he,hF,rfl⟩;refine br ?_ ?_<;>intro hL
 ·have au:e < l.length:=sV de hL;obtain ⟨c,hc⟩:=gX au
  have hdr:l.drop e=c :: l.drop (e + 1):=by
   obtain ⟨h1,h2⟩:=List.getElem?_eq_some_iff.1 hc;rw [List.drop_eq_getElem_cons h1,h2]
  have hEc:=hE c (mG hc);rw [hdr,allQ] at hF;generalize E c=z at hEc hF;have hcg:=AD hc;obtain ⟨p,op,rk,ra,rn,rs,bW,kD⟩:=c;refine ⟨_,⟨by omega,hcg⟩,?_⟩;refine cP ZT hEc ?_;refine br ?_ ?_<;>intro g
  ·rw [ap (of_decide_eq_true g)] at hF;subst hF;exact (rfl:_=_)
  rw [aj (of_decide_eq_false g)] at hF;refine br ?_ ?_<;>intro g2
  ·rw [ap (of_decide_eq_true g2)] at hF;exact ⟨I3 PC o (.mk uk un us ul) l 2 (e + 1),(dj 1 (kH (aN au (by omega))) (cY (aN au (by omega)))),l.length - (e + 1),by omega,e + 1,_,rfl,by omega,hF,rfl⟩
  ·rw [aj (of_decide_eq_false g2)] at hF;exact ⟨I3 PC o (.mk uk un us ul) l out (e + 1),(dj 1 (kH (aN au (by omega))) (cY (aN au (by omega)))),l.length - (e + 1),by omega,e + 1,_,rfl,by omega,hF,rfl⟩
 ·have hge:l.length<=e:=sV de hL;rw [List.drop_eq_nil_of_le hge,allQ] at hF;subst hF;exact (rfl:_=_)
end Go.Proofs.YtgjagnmeonoehaaGreat
