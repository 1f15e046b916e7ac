/- Part 7 of the proof: Which values may be what is seen of one: the program's fits, Fits, the document's Fits, Seeable; Conditions that are asked of values: plain; Conditions that are asked of values: the program's literal, right, word, numbers; Conditions that are asked of values: the program's plain, floor, units, first; Conditions that are asked of values: the program's step, end; Rules for the evaluator: the library's Builder: WriteByte, WriteString of any text; a call that is handed a Builder; Texts in quotes: plain; numbers in sixteens; Texts in quotes: numbers in sixteens, which runes may steer a terminal; Texts in quotes: short escapes, kinds of runes; Texts in quotes: the unit at a place, as it is written; Texts in quotes: the document's unit; the program's and the document's Quote; Texts in quotes: the program's and the document's Quote; How what is seen of values is written: plain; The library's strings.Repeat, laid at this program by the kit's tool (lay-plain; wip/tools/plain2tpl.py); How values without names are written: the program's and the document's Leaf; How what is seen of values is written: the program's plain, word, of; What is known of values that are written; how long their texts are: plain; tree: walk, Paths; What is different between two values: plain; How what is seen of values is written: the program's write; How what is seen of values is written: Compact; the document's open, end, Text; How what is seen of values is written: the document's Text; what is seen may be written; Documents: plain (as values); the program's Text, Line, Soft, Cat, Nest, Group; The law of what may be seen; What is seen may be written; the example of chapter 33; the laws of Leaf and Compact; The example of chapter 33; the laws of Leaf and Compact: the calls return true; The document of what is seen of a value: plain, and the program's; What is different between two values: the program's near, step, to, own; Regions that draw their order, in which two new objects may come in either order; What is different between two values: the program's walk; The program's rows of an audit: step, sees, row; The program's rows of an audit: walk, Rows; How kinds of types, and ways of seeing, are called; The program's rows of an audit: Rows; What is different between two values: the program's Diff; the document's Changes; What is different between two values: the example's texts; What is different between two values: the document's Changes; What is different between two values: the chapter's example; the law of Diff; What is different between two values: the law of Diff; A change is applied: the closure that puts a value in another's place; Rules for the evaluator: a slice literal without elements, its cells known; A clone of values; the closure that lengthens or shortens a list; A change is applied: plain; tree: put, Set; Rules for the evaluator: an element of a row whose cells nobody else knows is written, the state weakened behind it; A change is applied: the program's at; How what stands where a node is seen is written: the program's alike, Kid; Changes lead from one value to the other: plain; What is seen of a view: the program's narrow, the document's Narrow; The program's Narrow, the document's Narrow; the law; Changes lead from one value to the other: plain; A text in quotes, and a value's, is of one line: plain; A change's line; The first edge of a name; The law of what is narrowed; The level above all; what is known of views; the law of the steps of erasing; Steps of a drawn region: elements of rows whose cells nobody else knows, read and written whole; The reference of chapters 15 and 17 on schemas: Placeless, Same, Great; The law of a type's text: the call returns true; The law of schemas without places: the call returns true; What is wrong with a schema without places; the nodes of its plan; Nodes whose edges may be written: slices.Clone, Plan.Node; The law that a plan's edges lead to nodes: rows of edges, with and without places; slices.Reverse of a row of steps that nobody else knows; Alike: the program's sees, edge, step, coarsely, differ; Alike: the program's differ; Alike: the program's both, Differ, Alike; The laws of Alike and Differ; The law of being alike, without the document's answer; What steps lead to unseen, plain; the program's Unseen; Where a change is: its steps go by the edges; Conditions that are asked of values: the program's walk, Eval, All; What the document says of conditions, plain; What the document says of conditions: number, answer, floor, units, Holds, end; What is seen, by an edge, at a node; Values as they are written: how big they are; what is read of them; What the document says may be asked for; Conditions that are asked of what is seen: who sees less says no more. Plain; Conditions that are asked of what is seen: all of a value is said; who sees less says no more. Plain; What the document says of a condition: along, Eval; What is read of steps, and of steps with a value; Conditions: how heavy they are; what is read of them; What the document says of a condition: along, Eval; How a list that came in is read; How values in a list, and arrays of three ints, that came in are read; Conditions: what the laws ask of their arguments; The law of what may be said of conditions, given the example; Whole numbers in texts, plain; Whole numbers in texts: the program's run, value, Take; Whole numbers in texts: the program's Take of a number that there is; The example's path is read; The library's IndexByte, laid at this program; HasPrefix; The reader of conditions, where nothing is wrong: wrong, sign, path; The reader of conditions, where nothing is wrong: lit; The example of the chapter on conditions, plain; The reader of conditions, where nothing is wrong: cond. No condition. -/
import Derived.Shelf.Strings.Repeat
import Derived.Shelf.Strings.Search1
import Derived.Test.YtphonmiflfhdbaaGreatMx2
import Derived.Test.YtphonmiflfhdbaaGreatMx3
import Derived.Test.YtphonmiflfhdbaaGreatMx4
import Derived.Test.YtphonmiflfhdbaaGreatMx5
import Derived.Test.YtphonmiflfhdbaaGreatMx6
set_option linter.all false
set_option maxRecDepth 100000
namespace Go.Proofs.YtphonmiflfhdbaaGreat
open Go Go.RowKit Dv Go.Proofs.Tryz
def edW (w:Int):Ed:=⟨aq,false,0,0,0,w,0,0,0,0⟩
theorem U2 (w:Int) (d:Nd) (v:Val):fK (edW w) d v=bU v 9 w aq:=by
 rw [mayF_0 (by rintro ⟨h,_⟩;cases h) (by rintro ⟨h,_⟩;cases h) (by rintro ⟨h,_⟩;cases h)];rfl
theorem oU {N:Nat} {ND:List Nd} {d:Nd} (hN:dg N ND.length d) {v:Val} (h:shellF d v=true) (c:d.ag=8) {m:Nat} (hm:m < v.ks.length):(0<=v.n/\v.n < d.aw.length)/\m=0:=by grind [shellF_8]
def kidS (ND:List Nd) (f:Nat->Nat->Bool) (L obs:Nat) (d:Nd) (e:Ed) (a:Nat) (x:Val):Bool:=if mX f L obs d e a=2 then seeV ND f L obs x e.to (jZ f L d e a) else if mX f L obs d e a=1 then (match cu ND e.to with | none=>false | some t=>fK e t x) else bU x 9 e.wide aq
theorem zq {ND:List Nd} {f:Nat->Nat->Bool} {L obs:Nat} {ks:List Val} {d:Nd} {z:Int} {a j m:Nat} {x:Val} {e:Ed} (h:ks[m]? = some x) (he:dW d z j=some e):seeVs ND f L obs (ks.drop m) d z a j=(kidS ND f L obs d e a x && seeVs ND f L obs (ks.drop (m + 1)) d z a (j + 1)):=by
 rw [Gn h,he];rfl
abbrev JO (PC LC:List DV) (obs a:Nat) (v:Val) (d:Nd) (e:Nat):St:=
 ⟨[au 2 a,aD 4 0,aD 7 1,aD 9 2,aZ 38 4 (dVals v.ks),au 39 ((dVals v.ks).length),au 40 e],[SD PC LC obs,bD v,iS d],[]⟩
theorem sY {S:Sch} {ND:List Nd} {PC LC:List DV} (hP:jX S ND PC) (hR:F6 S.ae.length (aV S) (az S.ae) LC) (o8:∀ n∈ND,qw n) (bL:∀ n∈ND,n.aw.length<=1099511627776) (obs:Nat) (ho:obs < S.ae.length) :
  ∀ (k:Nat) (v:Val),v.wt<=k->v.wt<=1099511627776->rngW v->∀ (i a:Nat),a < S.ae.length->i < ND.length ->
   EvP prog 92 [.agg (SD PC LC obs),.v (.int .i64 i),.v (.int .i64 a),.agg (bD v)] (.v (.bool (seeV ND (aV S) S.ae.length obs v i a)))
 | 0,v,h,_=>by have:=v.dP;omega
 | k + 1,v,h,hb=>fun hr i a ha hi=>by
  have ih:=sY hP hR o8 bL obs ho k;have hL:=hR.ok;obtain ⟨d,hg⟩:∃ d,ND[i]? = some d:=⟨_,gE hi⟩;have hnd:cu ND (i:Int)=some d:=by grind [cu]
  have mv:=mG hg;have hN:=hP.ok d mv;have gW:=hP.ap i d hg;have A0:=bL d mv;have NH:=o8 d mv;have Kl:=oN hP _ v (aW _) hb i;have Ox:=fun h5=>DI d v h5 hN.k8 A0 hb;have Gs:=fun h5 hs m hm=>kT hN h5 (v:=v) hs (m:=m) hm;have Gt:=fun hs c m hm=>oU hN (v:=v) hs c (m:=m) hm
  have hV:seeV ND (aV S) S.ae.length obs v i a=if d.ag < 5 then fitV ND v i else shellF d v && seeVs ND (aV S) S.ae.length obs v.ks d v.n a 0:=by
   obtain ⟨q,z,s,ks⟩:=v;rw [seeV,hnd];rfl
  have U3:d.ag < 5->seeV ND (aV S) S.ae.length obs v i a=fitV ND v i:=fun c=>by rw [hV,ai c]
  have A4:¬ d.ag < 5->seeV ND (aV S) S.ae.length obs v i a=(shellF d v && seeVs ND (aV S) S.ae.length obs v.ks d v.n a 0):=fun c=>by rw [hV,ah c]
  clear hV;generalize seeV ND (aV S) S.ae.length obs v i a=B at U3 A4 ⊢;generalize fitV ND v i=F at Kl U3;generalize shellF d v=SH at Ox Gs Gt A4;obtain ⟨vk,vn,vs,ks⟩:=v;have nN:=dV ks;have cw:=bK ks;rw [Val.wt] at h hb;have SG:=qv hr;simp only [Val.ks,Val.n] at A4 SG Gs Gt;obtain ⟨ag,aE,lo,dz,most,af,es⟩:=d;refine eG 90 [.tmp 8] func92 rfl ntmps92 rfl fun _ _ _ _=>?_;refine cP zY gW ?_;refine br ?_ ?_<;>intro c
  ·have c:ag < 5:=sU c;rw [U3 c];refine cP TA Kl ?_;exact (rfl:_=_)
  have c5:¬ ag < 5:=sU c;have A4:=A4 c5;have h5:5<=ag:=by omega
  have Ox:=Ox h5;refine cP Xp Ox ?_
  cases SH with
  | false=>
   rw [Bool.false_and] at A4;rw [A4];exact (rfl:_=_)
  | true=>
   rw [Bool.true_and] at A4;refine lI (fun t st=>∃ e:Nat,st=JO PC LC obs a (.mk vk vn vs ks) ⟨ag,aE,lo,dz,most,af,es⟩ e/\e<=ks.length/\B=seeVs ND (aV S) S.ae.length obs (ks.drop e) ⟨ag,aE,lo,dz,most,af,es⟩ vn a e/\t=ks.length - e) ⟨0,rfl,by omega,A4,rfl⟩ (wkB 3 kZ gR) ?_;rintro t st ⟨e,rfl,he,hE,rfl⟩;refine br ?_ ?_<;>intro CE
   ·have av:e < ks.length:=by simpa [cw,Val.ks] using CE
    obtain ⟨x,hx⟩:=gX av;obtain ⟨ed,hK⟩:=Gs h5 rfl e av;have hm:=mG hx;have hwx:=gH hm;have xE:=jz SG hm;obtain ⟨h1,t2,h2⟩:=Dj hN hK.mem hK.bare;obtain ⟨_,D9⟩:=cC h2;have gN:=(gS D9).1;have nD:ed.to=(ed.to.toNat:Nat):=by omega
    have Gu:=o8 t2 (mG D9);have NL:=hP.ap ed.to.toNat t2 D9;rw [<- nD] at NL;rw [zq hx hK.fZ] at hE;have kJ:=wU hR PC obs a ha ⟨ag,aE,lo,dz,most,af,es⟩ (.mk vk vn vs ks) e ed hK.fZ hK.mem hN h5 (fun c=>Gt rfl c e av) A0;have hU:=AR hL hN hK.mem ha;have wW:=oT hR PC obs (jZ (aV S) S.ae.length ⟨ag,aE,lo,dz,most,af,es⟩ ed a) ho hU;have hco:=na hR PC obs a ho ha ⟨ag,aE,lo,dz,most,af,es⟩ ed hN hK.mem;have U4:=NH.2.2 ed hK.mem;have U5:=(hN.fZ ed hK.mem).cn.2.1;have NM:=zo ed t2 x U5 (AV xE) Gu.1 Gu.2.1 U4 (by omega);have NN:=zo (edW ed.wide) t2 x (fun h=>by cases h) (AV xE) Gu.1 Gu.2.1 ⟨by show (-9223372036854775808:Int)<=0;decide,by show (0:Int)<=9223372036854775807;decide⟩ (by omega);rw [U2] at NN;have hrec:=ih x (by omega) (by omega) xE ed.to.toNat (jZ (aV S) S.ae.length ⟨ag,aE,lo,dz,most,af,es⟩ ed a) hU gN;rw [<- nD] at hrec
    have qA:kidS ND (aV S) S.ae.length obs ⟨ag,aE,lo,dz,most,af,es⟩ ed a x=if aV S (jZ (aV S) S.ae.length ⟨ag,aE,lo,dz,most,af,es⟩ ed a) obs=true then seeV ND (aV S) S.ae.length obs x ed.to (jZ (aV S) S.ae.length ⟨ag,aE,lo,dz,most,af,es⟩ ed a) else if (decide (ed.ck≠0) && aV S (qm (aV S) S.ae.length a ed.seen.toNat) obs)=true then fK ed t2 x else bU x 9 ed.wide aq:=by
     unfold kidS;rw [HS,h2];by_cases g1:aV S (jZ (aV S) S.ae.length ⟨ag,aE,lo,dz,most,af,es⟩ ed a) obs=true
     ·simp only [ai g1,reduceIte]
     ·grind
    generalize kidS ND (aV S) S.ae.length obs ⟨ag,aE,lo,dz,most,af,es⟩ ed a x=KS at hE qA;generalize jZ (aV S) S.ae.length ⟨ag,aE,lo,dz,most,af,es⟩ ed a=U at kJ wW hrec qA;generalize aV S U obs=b1 at wW qA;generalize (decide (ed.ck≠0) && aV S (qm (aV S) S.ae.length a ed.seen.toNat) obs)=b2 at hco qA;generalize seeV ND (aV S) S.ae.length obs x ed.to U=R1 at hrec qA;generalize fK ed t2 x=R2 at NM qA;generalize bU x 9 ed.wide aq=R3 at NN qA;have rN:KS=false->B=false:=fun h=>by rw [hE,h,Bool.false_and]
    have jc:KS=true->∃ j',j' < ks.length - e/\∃ e',JO PC LC obs a (.mk vk vn vs ks) ⟨ag,aE,lo,dz,most,af,es⟩ (e + 1)=JO PC LC obs a (.mk vk vn vs ks) ⟨ag,aE,lo,dz,most,af,es⟩ e' /\ e' <= ks.length/\B=seeVs ND (aV S) S.ae.length obs (ks.drop e') ⟨ag,aE,lo,dz,most,af,es⟩ vn a e' /\ j'=ks.length - e':=fun h=>⟨ks.length - (e + 1),by omega,e + 1,rfl,by omega,by rw [hE,h,Bool.true_and],rfl⟩;obtain ⟨xk,xn,xs,Z8⟩:=x;obtain ⟨en,eb,ea,et,qK,ew,dM,cY,sQ,gv⟩:=ed;obtain ⟨kind2,at2,lo2,yb,most2,aee,es2⟩:=t2;clear hE;refine iX (eF hx) ?_;refine cP W4 kJ ?_;refine cP zY NL ?_;refine cP Lc wW ?_
    cases b1 with
    | true=>
     refine cP W2 hrec ?_
     cases R1 with
     | false=>
      have hB:=rN (by rw [qA];rfl);rw [hB];exact (rfl:_=_)
     | true=>
      obtain ⟨j',g1,g2⟩:=jc (by rw [qA];rfl);exact ⟨JO PC LC obs a (.mk vk vn vs ks) ⟨ag,aE,lo,dz,most,af,es⟩ (e + 1),(wkB 3 (mw (nxt av (by omega))) (wB1 (nxt av (by omega)))),j',g1,g2⟩
    | false=>
     refine cP en101 hco ?_
     cases b2 with
     | true=>
      refine cP Ri NM ?_
      cases R2 with
      | false=>
       have hB:=rN (by rw [qA];rfl);rw [hB];exact (rfl:_=_)
      | true=>
       obtain ⟨j',g1,g2⟩:=jc (by rw [qA];rfl);exact ⟨JO PC LC obs a (.mk vk vn vs ks) ⟨ag,aE,lo,dz,most,af,es⟩ (e + 1),(wkB 3 (mw (nxt av (by omega))) (wB1 (nxt av (by omega)))),j',g1,g2⟩
     | false=>
      refine cP Ri NN ?_
      cases R3 with
      | false=>
       have hB:=rN (by rw [qA];rfl);rw [hB];exact (rfl:_=_)
      | true=>
       obtain ⟨j',g1,g2⟩:=jc (by rw [qA];rfl);exact ⟨JO PC LC obs a (.mk vk vn vs ks) ⟨ag,aE,lo,dz,most,af,es⟩ (e + 1),(wkB 3 (mw (nxt av (by omega))) (wB1 (nxt av (by omega)))),j',g1,g2⟩
   ·have hge:e=ks.length:=by have:=CE;simp [cw,Val.ks] at this;omega
    subst hge;rw [List.drop_length,seeVs] at hE;rw [hE];exact (rfl:_=_)
def nP (ND:List Nd) (f:Nat->Nat->Bool) (n rt:Nat) (o:Int) (v:Val):Bool:=decide (0<=o/\o < n) && seeV ND f n o.toNat v rt (iM f n)
theorem DK {S:Sch} {ND:List Nd} {PC LC:List DV} (hP:jX S ND PC) (lQ:EvP prog 15 [.pt PC 0] (.pt LC 0)) (hR:F6 S.ae.length (aV S) (az S.ae) LC) (VI:∀ n∈ND,qw n) (bL:∀ n∈ND,n.aw.length<=1099511627776) (rt:Nat) (Gd:dL S=rt) (fy:rt < ND.length) (o:Int) (v:Val) (hv:v.wt<=1099511627776) (Hc:rngW v) :
  EvP prog 44 [.pt PC 0,.v (.int .i64 o),.agg (bD v)] (.v (.bool (nP ND (aV S) S.ae.length rt o v))):=by
 have CA:=wX lQ hR o;have fD:=hP.root;rw [Gd] at fD;have vA:=hR.bot;have hs:=fun (obs:Nat) (ho:obs < S.ae.length)=>sY hP hR VI bL obs ho _ v (aW _) hv Hc rt (iM (aV S) S.ae.length) (qp hR.ok) fy;have hS:nP ND (aV S) S.ae.length rt o v=(decide (0<=o/\o < S.ae.length) && seeV ND (aV S) S.ae.length o.toNat v rt (iM (aV S) S.ae.length)):=rfl;generalize nP ND (aV S) S.ae.length rt o v=SF at hS ⊢;by_cases ho:0<=o/\o < S.ae.length
 ·obtain ⟨ob,rfl⟩:∃ n:Nat,o=n:=⟨_,(Int.toNat_of_nonneg ho.1).symm⟩;have hs:=hs ob (by omega);rw [show decide (0<=(ob:Int)/\(ob:Int) < (S.ae.length:Int))=true from decide_eq_true ho] at CA hS;rw [iT,Bool.true_and] at hS;rw [<- hS] at hs;generalize iM (aV S) S.ae.length=bt at vA hs;obtain ⟨k,n,s,ks⟩:=v;refine eG 26 [.tmp 6] func44 rfl ntmps44 rfl fun _ _ _ _=>?_;refine cP Pc CA ?_;refine dI ?_;refine cD K8 fD ?_;refine cD Pd vA ?_;refine cD W2 hs ?_;exact (rfl:_=_)
 ·rw [show decide (0<=o/\o < (S.ae.length:Int))=false from decide_eq_false ho] at CA hS;rw [Bool.false_and] at hS;rw [hS];obtain ⟨k,n,s,ks⟩:=v;refine eG 26 [.tmp 6] func44 rfl ntmps44 rfl fun _ _ _ _=>?_;refine cP Pc CA ?_;refine dI ?_;exact (rfl:_=_)
abbrev r7 (W:List DV) (v:Val) (obs a:Nat) (d:Nd) (e:Nat):St:=
 ⟨[au 1 obs,au 3 a,aD 5 0,aD 9 1,aD 11 2,au 12 e],[W,bD v,iS d],[]⟩
theorem sZ (lv:List Wd) (f:Nat->Nat->Bool) (ND:List Nd) (z:Int) (hL:dG f lv.length) (hn:lv.length<=32) (bF:∀ n∈ND,dg lv.length ND.length n) (bL:∀ n∈ND,n.aw.length<=1099511627776) (o8:∀ n∈ND,qw n) (obs:Nat) (ho:obs < lv.length) :
  ∀ (k:Nat) (v:Val),v.wt<=k->v.wt<=1099511627776->rngW v->∀ (i a:Nat),a < lv.length->i < ND.length ->
   EvP prog 84 [.agg (wL lv f ND z),.v (.int .i64 obs),.v (.int .i64 i),.v (.int .i64 a),.agg (bD v)] (.v (.bool (seeV ND f lv.length obs v i a)))
 | 0,v,h,_=>by have:=v.dP;omega
 | k + 1,v,h,hb=>fun hr i a ha hi=>by
  have ih:=sZ lv f ND z hL hn bF bL o8 obs ho k;obtain ⟨d,hg⟩:∃ d,ND[i]? = some d:=⟨_,gE hi⟩;have hnd:cu ND (i:Int)=some d:=by grind [cu]
  have mv:=mG hg;have hN:=bF d mv;have A0:=bL d mv;have NH:=o8 d mv;have Kl:=sR 2 1 (bA lv) (cH (dt lv.length f)) z bF v.wt v (aW _) hb i;rw [<- M8 bF] at Kl;have Ox:=fun h5=>A1 d v h5 hN.k8 A0 hb;have Gs:=fun h5 hs m hm=>kT hN h5 (v:=v) hs (m:=m) hm;have Gt:=fun hs c m hm=>oU hN (v:=v) hs c (m:=m) hm
  have hV:seeV ND f lv.length obs v i a=if d.ag < 5 then fitV ND v i else shellF d v && seeVs ND f lv.length obs v.ks d v.n a 0:=by
   obtain ⟨q,z,s,ks⟩:=v;rw [seeV,hnd];rfl
  have U3:d.ag < 5->seeV ND f lv.length obs v i a=fitV ND v i:=fun c=>by rw [hV,ai c]
  have A4:¬ d.ag < 5->seeV ND f lv.length obs v i a=(shellF d v && seeVs ND f lv.length obs v.ks d v.n a 0):=fun c=>by rw [hV,ah c]
  clear hV;generalize seeV ND f lv.length obs v i a=B at U3 A4 ⊢;generalize fitV ND v i=F at Kl U3;generalize shellF d v=SH at Ox Gs Gt A4;obtain ⟨vk,vn,vs,ks⟩:=v;have nN:=dV ks;have cw:=bK ks;rw [Val.wt] at h hb;have SG:=qv hr;simp only [Val.ks,Val.n] at A4 SG Gs Gt;have U6:=fun e (he:e∈d.aw)=>qx lv f ND z hL hn d e a ha hN he;have hhow:=fun e (he:e∈d.aw)=>Gk lv f ND z hL hn d e obs a ho ha hN he;obtain ⟨ag,aE,lo,dz,most,af,es⟩:=d;refine eG 90 [.tmp 10] func84 rfl ntmps84 rfl fun _ _ _ _=>?_;refine iX (cp hg) ?_;refine br ?_ ?_<;>intro c
  ·have c:ag < 5:=sU c;rw [U3 c];refine cP Rf Kl ?_;exact (rfl:_=_)
  have c5:¬ ag < 5:=sU c;have A4:=A4 c5;have h5:5<=ag:=by omega
  have Ox:=Ox h5;refine cP Xj Ox ?_
  cases SH with
  | false=>
   rw [Bool.false_and] at A4;rw [A4];exact (rfl:_=_)
  | true=>
   rw [Bool.true_and] at A4;refine lI (fun t st=>∃ e:Nat,st=r7 (wL lv f ND z) (.mk vk vn vs ks) obs a ⟨ag,aE,lo,dz,most,af,es⟩ e/\e<=ks.length/\B=seeVs ND f lv.length obs (ks.drop e) ⟨ag,aE,lo,dz,most,af,es⟩ vn a e/\t=ks.length - e) ⟨0,rfl,by omega,A4,rfl⟩ (wkB 3 kZ gR) ?_;rintro t st ⟨e,rfl,he,hE,rfl⟩;refine br ?_ ?_<;>intro CE
   ·have av:e < ks.length:=by simpa [cw,Val.ks] using CE
    obtain ⟨x,hx⟩:=gX av;obtain ⟨ed,hK⟩:=Gs h5 rfl e av;have hm:=mG hx;have hwx:=gH hm;have xE:=jz SG hm;obtain ⟨h1,t2,h2⟩:=Dj hN hK.mem hK.bare;obtain ⟨_,D9⟩:=cC h2;have gN:=(gS D9).1;have nD:ed.to=(ed.to.toNat:Nat):=by omega
    have Gu:=o8 t2 (mG D9);rw [zq hx hK.fZ] at hE;have kJ:=sS ⟨ag,aE,lo,dz,most,af,es⟩ (.mk vk vn vs ks) e ed hK.fZ (fun c=>(Gt rfl c e av).1) A0;have Bn:=U6 ed hK.mem;have hho:=hhow ed hK.mem;have U4:=NH.2.2 ed hK.mem;have U5:=(hN.fZ ed hK.mem).cn.2.1;have NM:=Gr ed t2 x U5 (AV xE) Gu.1 Gu.2.1 U4 (by omega);have ky:=gJ x 9 ed.wide aq;have hrec:=ih x (by omega) (by omega) xE ed.to.toNat (jZ f lv.length ⟨ag,aE,lo,dz,most,af,es⟩ ed a) (AR hL hN hK.mem ha) gN;rw [<- nD] at hrec
    have qA:kidS ND f lv.length obs ⟨ag,aE,lo,dz,most,af,es⟩ ed a x=if mX f lv.length obs ⟨ag,aE,lo,dz,most,af,es⟩ ed a=2 then seeV ND f lv.length obs x ed.to (jZ f lv.length ⟨ag,aE,lo,dz,most,af,es⟩ ed a) else if mX f lv.length obs ⟨ag,aE,lo,dz,most,af,es⟩ ed a=1 then fK ed t2 x else bU x 9 ed.wide aq:=by
     unfold kidS;rw [h2]
    generalize kidS ND f lv.length obs ⟨ag,aE,lo,dz,most,af,es⟩ ed a x=KS at hE qA;generalize mX f lv.length obs ⟨ag,aE,lo,dz,most,af,es⟩ ed a=H at hho qA;generalize seeV ND f lv.length obs x ed.to (jZ f lv.length ⟨ag,aE,lo,dz,most,af,es⟩ ed a)=R1 at hrec qA;generalize fK ed t2 x=R2 at NM qA;generalize bU x 9 ed.wide aq=R3 at ky qA;have rN:KS=false->B=false:=fun h=>by rw [hE,h,Bool.false_and]
    have jc:KS=true->∃ j',j' < ks.length - e/\∃ e',r7 (wL lv f ND z) (.mk vk vn vs ks) obs a ⟨ag,aE,lo,dz,most,af,es⟩ (e + 1)=r7 (wL lv f ND z) (.mk vk vn vs ks) obs a ⟨ag,aE,lo,dz,most,af,es⟩ e' /\ e' <= ks.length/\B=seeVs ND f lv.length obs (ks.drop e') ⟨ag,aE,lo,dz,most,af,es⟩ vn a e' /\ j'=ks.length - e':=fun h=>⟨ks.length - (e + 1),by omega,e + 1,rfl,by omega,by rw [hE,h,Bool.true_and],rfl⟩;obtain ⟨xk,xn,xs,Z8⟩:=x;clear hE;refine cP W1 kJ ?_;refine dI ?_;refine iX (eF hx) ?_;refine cD yo ky ?_;refine cP Xk hho ?_;refine br ?_ ?_<;>intro c
    ·have c:H=2:=by
      have:=of_decide_eq_true c;omega
     rw [ai c] at qA;refine dI ?_;refine cD Rg Bn ?_;refine iX (eF hx) ?_;refine cD WY hrec ?_
     cases R1 with
     | false=>
      have hB:=rN (by rw [qA]);rw [hB];exact (rfl:_=_)
     | true=>
      obtain ⟨j',g1,g2⟩:=jc (by rw [qA]);exact ⟨r7 (wL lv f ND z) (.mk vk vn vs ks) obs a ⟨ag,aE,lo,dz,most,af,es⟩ (e + 1),(wkB 3 (mw (nxt av (by omega))) (wB1 (nxt av (by omega)))),j',g1,g2⟩
    ·have c2:¬ H=2:=by
      have:=of_decide_eq_false c;omega
     rw [ah c2] at qA;refine br ?_ ?_<;>intro c
     ·have c:H=1:=by
       have:=of_decide_eq_true c;omega
      rw [ai c] at qA;refine dI ?_;refine iX (cp D9) ?_;refine iX (eF hx) ?_;refine cD Xl NM ?_
      cases R2 with
      | false=>
       have hB:=rN (by rw [qA]);rw [hB];exact (rfl:_=_)
      | true=>
       obtain ⟨j',g1,g2⟩:=jc (by rw [qA]);exact ⟨r7 (wL lv f ND z) (.mk vk vn vs ks) obs a ⟨ag,aE,lo,dz,most,af,es⟩ (e + 1),(wkB 3 (mw (nxt av (by omega))) (wB1 (nxt av (by omega)))),j',g1,g2⟩
     ·have c1:¬ H=1:=by
       have:=of_decide_eq_false c;omega
      rw [ah c1] at qA
      cases R3 with
      | false=>
       have hB:=rN (by rw [qA]);rw [hB];exact (rfl:_=_)
      | true=>
       obtain ⟨j',g1,g2⟩:=jc (by rw [qA]);exact ⟨r7 (wL lv f ND z) (.mk vk vn vs ks) obs a ⟨ag,aE,lo,dz,most,af,es⟩ (e + 1),(wkB 3 (mw (nxt av (by omega))) (wB1 (nxt av (by omega)))),j',g1,g2⟩
   ·have hge:e=ks.length:=by have:=CE;simp [cw,Val.ks] at this;omega
    subst hge;rw [List.drop_length,seeVs] at hE;rw [hE];exact (rfl:_=_)
theorem w9 (lv:List Wd) (f:Nat->Nat->Bool) (ND:List Nd) (rt:Nat) (fy:rt < ND.length) (hL:dG f lv.length) (hn:lv.length<=32) (bF:∀ n∈ND,dg lv.length ND.length n) (bL:∀ n∈ND,n.aw.length<=1099511627776) (o8:∀ n∈ND,qw n) (o:Int) (v:Val) (hv:v.wt<=1099511627776) (Hc:rngW v) :
  EvP prog 39 [.agg (wL lv f ND (rt:Nat)),.v (.int .i64 o),.agg (bD v)] (.v (.bool (nP ND f lv.length rt o v))):=by
 have hb:=n7 lv.length f (by omega);rw [nI hL] at hb;have ey:=gn lv.length f;have hs:=fun (obs:Nat) (ho:obs < lv.length)=>sZ lv f ND (rt:Nat) hL hn bF bL o8 obs ho _ v (aW _) hv Hc rt (iM f lv.length) (qp hL) fy;have hS:nP ND f lv.length rt o v=(decide (0<=o/\o < lv.length) && seeV ND f lv.length o.toNat v rt (iM f lv.length)):=rfl;generalize nP ND f lv.length rt o v=SF at hS ⊢;by_cases ho:0<=o/\o < lv.length
 ·obtain ⟨ob,rfl⟩:∃ n:Nat,o=n:=⟨_,(Int.toNat_of_nonneg ho.1).symm⟩;have hs:=hs ob (by omega);rw [show decide (0<=(ob:Int)/\(ob:Int) < (lv.length:Int))=true from decide_eq_true ho,iT,Bool.true_and] at hS;rw [<- hS] at hs;obtain ⟨k,n,s,ks⟩:=v;refine eG 27 [.tmp 6] func39 rfl ntmps39 rfl fun _ _ _ _=>?_;refine dI ?_;refine br (fun _=>?_) (fun c=>absurd c (by simp [pickB_and,ey];omega));refine cD Tx hb ?_;refine cD WY hs ?_;exact (rfl:_=_)
 ·rw [show decide (0<=o/\o < (lv.length:Int))=false from decide_eq_false ho,Bool.false_and] at hS;rw [hS];obtain ⟨k,n,s,ks⟩:=v;refine eG 27 [.tmp 6] func39 rfl ntmps39 rfl fun _ _ _ _=>?_;refine dI ?_;refine br (fun c=>absurd c (by simp [pickB_and,ey];omega)) (fun _=>?_);exact (rfl:_=_)
structure fU where
 p:List dX
 op:Int
 lit:Rw
def Rw.k:Rw->Int | .mk k _ _ _ _ _=>k
def Rw.a:Rw->Int | .mk _ a _ _ _ _=>a
def Rw.n:Rw->Int | .mk _ _ n _ _ _=>n
def Rw.s:Rw->ByteArray | .mk _ _ _ s _ _=>s
def Rw.keys:Rw->List Wd | .mk _ _ _ _ l _=>l
def Rw.ks:Rw->List Rw | .mk _ _ _ _ _ l=>l
def eL (c:fU):List DV:=[.sl 3 (cF c.p) none,.v (.int .i64 c.op)] ++ dRw c.lit
def fL (l:List fU):List (List DV):=l.map eL
theorem r8 (l:List fU):(fL l).length=l.length:=by simp [fL]
theorem sa {l:List fU} {i:Nat} {c:fU} (h:l[i]? = some c):(fL l)[i]? = some (eL c):=by simp [fL,h]
def Gv (r:Rw):Bool:=decide (r.a=0) && (decide (r.keys.length + r.ks.length=0) && (if r.k=2 then decide (r.s=aq) else if r.k=3 then decide (r.n=0) else decide (r.k=1) && (decide (r.n=0) && aM r.s)))
def gK (c:fU):Bool:=gI c.p && (decide (1<=c.op) && (decide (c.op<=4) && Gv c.lit))
def ee (b:Bool):Int:=if b=true then 1 else 0
def wordQ (d:Nd) (u:Val):ByteArray:=
 if u.k=1 then (if u.n=1 then ba [116,114,117,101] else ba [102,97,108,115,101])
 else if u.k=4 then (d.af[u.n.toNat]?).getD aq
 else if u.k=8 then (match d.aw[u.n.toNat]? with | some e=>e.name | none=>aq)
 else if u.k=6 then (if u.ks=[] then ba [110,111,110,101] else ba [115,111,109,101])
 else aq
def nQ (lo hi:Int) (c:fU):Int:=
 if c.op=1 then (if c.lit.k≠2∨(c.lit.n < lo∨hi < c.lit.n) then 0 else if lo=hi/\lo=c.lit.n then 1 else 2)
 else if c.op=2 then (if c.lit.k≠2∨c.lit.n<=lo then 0 else if hi < c.lit.n then 1 else 2)
 else if c.op=3 then (if c.lit.k≠2∨hi<=c.lit.n then 0 else if c.lit.n < lo then 1 else 2)
 else 0
def j1 (d:Nd) (u:Val) (c:fU):Int:=
 if u.k=2 then nQ u.n u.n c
 else if c.op=4 then ee (decide (u.k=5) && (decide (c.lit.k=2) && decide (c.lit.n=u.ks.length)))
 else if c.op≠1 then 0
 else if u.k=3 then ee (decide (c.lit.k=3) && decide (c.lit.s=u.s))
 else ee (decide (c.lit.k=1) && decide (wordQ d u=c.lit.s))
def xc (a b:Int):Option Int:=if (0 < b/\9223372036854775807 - b < a)∨(b < 0/\a < -9223372036854775808 - b) then none else some (a + b)
def sc (e:Ed) (td:Nd) (u:Val) (c:fU):Int:=nQ (max u.n td.lo) (min ((xc u.n (e.cn - 1)).getD td.hi) td.hi) c
def cntU:Nat->List UInt8->Nat
 | 0,_=>0
 | k + 1,l=>if l=[] then 0 else 1 + cntU k (l.drop (jk l))
def xd:Nd:=⟨0,0,0,0,0,[],[]⟩
def oV (e:Ed) (u:Val) (c:fU):Int:=
 if (cntU u.s.size (tx u.s):Int) < e.cn then j1 xd (.mk 3 0 u.s []) c
 else if c.op=1/\c.lit.k=3/\headL e.cn.toNat (tx c.lit.s)=tx u.s then 2 else 0
def xZ (d:Nd) (e:Ed) (u:Val) (c:fU):Int:=
 if u.k=9 then 2 else if u.k=10 then sc e d u c else if u.k=11 then oV e u c
 else if u.k=12 then ee (decide (c.op=4) && (decide (c.lit.k=2) && decide (c.lit.n=u.n)))
 else j1 d u c
def tB (x:Val) (j:Nat):Nat:=if x.k=7 then j else if x.k=8 then x.n.toNat else 0
def se (d:Nd) (x:Val) (s:dX) (j:Nat):Bool:=
 if x.k=7 then decide (s.k=1) && (match d.aw[j]? with | some e=>decide (e.name=s.s) | none=>false)
 else if x.k=8 then decide (s.k=5) && (match d.aw[x.n.toNat]? with | some e=>decide (e.name=s.s) | none=>false)
 else if x.k=5 then decide (s.k=2) && decide (s.n=(j:Int))
 else if x.k=6 then decide (s.k=4) else false
def fg:Ed:=⟨aq,false,0,0,0,0,0,0,0,0⟩
def walkQ (ND:List Nd) (c:fU):List dX->Int->Ed->Val->Int
 | [],i,e,u=>xZ ((cu ND i).getD xd) e u c
 | s :: p,i,_,u=>
  if u.k=9 then 2 else if u.k=12/\s.k=2/\s.n < u.n then 2
  else match cu ND i with
  | none=>0
  | some d=>match bc (se d u s) u.ks.length with
   | none=>0
   | some j=>match u.ks[j]?,d.aw[tB u j]? with
    | some v,some e=>walkQ ND c p e.to e v
    | _,_=>0
def nc (ND:List Nd) (f:Nat->Nat->Bool) (n rt:Nat) (o:Int) (x:Val) (c:fU):Int:=
 if gK c=true/\nP ND f n rt o x=true/\(walkV ND f n c.p rt (iM f n)).isSome=true then walkQ ND c c.p rt fg x else 0
def allQ (E:fU->Int):List fU->Int->Int
 | [],out=>out
 | c :: r,out=>if E c=0 then 0 else allQ E r (if E c=2 then 2 else out)
theorem zr (b:Bool):EvP prog 153 [.v (.bool b)] (.v (.int .i64 (ee b))):=by
 cases b
 all_goals
  refine eG 4 [.tmp 2] func153 rfl ntmps153 rfl fun _ _ _ _=>?_;exact (rfl:_=_)
theorem Gw (r:Rw) (hs:r.s.size<=1099511627776) (hk:r.keys.length + r.ks.length<=1099511627776):EvP prog 91 [.agg (dRw r)] (.v (.bool (Gv r))):=by
 have hn:=eV r.s (by omega);obtain ⟨rk,ra,rn,rs,aJ,dC⟩:=r;have hF:Gv (.mk rk ra rn rs aJ dC)=(decide (ra=0) && (decide (aJ.length + dC.length=0) && (if rk=2 then decide (rs=aq) else if rk=3 then decide (rn=0) else decide (rk=1) && (decide (rn=0) && aM rs)))):=rfl;generalize Gv (.mk rk ra rn rs aJ dC)=F at hF ⊢;have h1:=ay aJ;have h2:=wF dC;simp only [Rw.s,Rw.keys,Rw.ks] at hn hk
 have hw:IntKind.i64.wrap (((bA aJ).length:Int) + (dRws dC).length)=((aJ.length + dC.length:Nat):Int):=by
  rw [wrap64 (by omega) (by omega)];omega
 generalize aM rs=b at hn hF;refine eG 41 [.tmp 2] func91 rfl ntmps91 rfl fun _ _ _ _=>?_;refine br ?_ ?_<;>intro g
 ·refine congrArg (fun z=>DV.v (Value.bool z)) ?_;simp only [aj,pickB_and,Bool.or_eq_true,Bool.or_eq_false_iff,aO,Bool.and_eq_false_iff,Bool.not_eq_true',Bool.not_eq_false',decide_eq_true_eq,decide_eq_false_iff_not,hw] at g;rw [hF];rcases g with g | g
  ·rw [decide_eq_false g];all_goals rfl
  ·rw [decide_eq_false (p:=aJ.length + dC.length=0) (by omega),Bool.false_and,Bool.and_false]
 simp only [aj,pickB_and,Bool.or_eq_true,Bool.or_eq_false_iff,aO,Bool.and_eq_false_iff,Bool.not_eq_true',Bool.not_eq_false',decide_eq_true_eq,decide_eq_false_iff_not,hw] at g;rw [decide_eq_true (by omega:ra=0),decide_eq_true (by omega:aJ.length + dC.length=0),Bool.true_and,Bool.true_and] at hF;refine br ?_ ?_<;>intro g2
 ·rw [ai (of_decide_eq_true g2)] at hF;rw [hF];exact (rfl:_=_)
 rw [ah (of_decide_eq_false g2)] at hF;refine br ?_ ?_<;>intro g3
 ·rw [ai (of_decide_eq_true g3)] at hF;rw [hF];exact (rfl:_=_)
 rw [ah (of_decide_eq_false g3)] at hF;refine br ?_ ?_<;>intro g4
 ·refine cP zX hn ?_;refine congrArg (fun z=>DV.v (Value.bool z)) ?_;rw [pickB_and] at g4;have g4:(decide (rk=1) && decide (rn=0))=true:=sU g4;rw [hF,<- Bool.and_assoc,g4];cases b<;>rfl
 ·refine congrArg (fun z=>DV.v (Value.bool z)) ?_;rw [pickB_and] at g4;have g4:(decide (rk=1) && decide (rn=0))=false:=sU g4;rw [hF,<- Bool.and_assoc,g4];rfl
theorem A5 (c:fU) (hs:∀ s∈c.p,s.s.size<=1099511627776) (hl:c.lit.s.size<=1099511627776) (hk:c.lit.keys.length + c.lit.ks.length<=1099511627776):EvP prog 43 [.agg (eL c)] (.v (.bool (gK c))):=by
 have h1:=sM c.p (fun s h=>by have:=hs s h;omega);have h2:=Gw c.lit hl hk;obtain ⟨p,op,rk,ra,rn,rs,aJ,dC⟩:=c;have hF:gK ⟨p,op,.mk rk ra rn rs aJ dC⟩=(gI p && (decide (1<=op) && (decide (op<=4) && Gv (.mk rk ra rn rs aJ dC)))):=rfl;generalize gK ⟨p,op,.mk rk ra rn rs aJ dC⟩=F at hF ⊢;simp only at h1 h2;generalize Gv (.mk rk ra rn rs aJ dC)=b at h2 hF;generalize gI p=b0 at h1 hF
 cases b0 with
 | false=>
  refine eG 21 [.tmp 2] func43 rfl ntmps43 rfl fun _ _ _ _=>?_;refine cP Pj h1 ?_;rw [hF];exact (rfl:_=_)
 | true=>
  refine eG 21 [.tmp 2] func43 rfl ntmps43 rfl fun _ _ _ _=>?_;refine cP Pj h1 ?_;refine br ?_ ?_<;>intro g
  ·refine cP en91 h2 ?_;rw [pickB_and] at g;have g:(decide (1<=op) && decide (op<=4))=true:=by simpa [pickB] using g
   rw [hF,Bool.true_and,<- Bool.and_assoc,g];exact (rfl:_=_)
  ·rw [pickB_and] at g;have g:(decide (1<=op) && decide (op<=4))=false:=by simpa [pickB] using g
   rw [hF,Bool.true_and,<- Bool.and_assoc,g];exact (rfl:_=_)
theorem DL (d:Nd) (u:Val) (h4:u.k=4->0<=u.n/\u.n < d.af.length) (h8:u.k=8->0<=u.n/\u.n < d.aw.length):EvP prog 190 [.agg (iS d),.agg (bD u)] (.v (.string (wordQ d u))):=by
 obtain ⟨ag,aE,lo,hi,most,af,es⟩:=d;obtain ⟨uk,un,us,ul⟩:=u
 have hF:wordQ ⟨ag,aE,lo,hi,most,af,es⟩ (.mk uk un us ul)=(if uk=1 then (if un=1 then ba [116,114,117,101] else ba [102,97,108,115,101])
  else if uk=4 then (af[un.toNat]?).getD aq
  else if uk=8 then (match es[un.toNat]? with | some e=>e.name | none=>aq)
  else if uk=6 then (if ul=[] then ba [110,111,110,101] else ba [115,111,109,101])
  else aq):=rfl
 generalize wordQ ⟨ag,aE,lo,hi,most,af,es⟩ (.mk uk un us ul)=F at hF ⊢;have H3:=bK ul;simp only [Val.k,Val.n] at h4 h8;refine eG 35 [.tmp 4] func190 rfl ntmps190 rfl fun _ _ _ _=>?_;refine br ?_ ?_<;>intro g
 ·have g:=of_decide_eq_true g;subst g;rw [ai rfl] at hF;refine br ?_ ?_<;>intro g
  ·rw [ai (of_decide_eq_true g)] at hF;rw [hF];exact (rfl:_=_)
  ·rw [ah (of_decide_eq_false g)] at hF;rw [hF];exact (rfl:_=_)
 have g:=of_decide_eq_false g;rw [ah g] at hF;refine br ?_ ?_<;>intro g2
 ·have g2:=of_decide_eq_true g2;obtain ⟨n1,n2⟩:=h4 g2;rw [ai g2] at hF;obtain ⟨s,hs⟩:∃ s,af[un.toNat]? = some s:=⟨_,gE (by omega)⟩;rw [hs] at hF;refine ⟨_,⟨n1,fh hs⟩,?_⟩;rw [hF];exact (rfl:_=_)
 have g2:=of_decide_eq_false g2;rw [ah g2] at hF;refine br ?_ ?_<;>intro g3
 ·have g3:=of_decide_eq_true g3;obtain ⟨n1,n2⟩:=h8 g3;rw [ai g3] at hF;obtain ⟨e,he⟩:∃ e,es[un.toNat]? = some e:=⟨_,gE (by omega)⟩;rw [he] at hF;refine ⟨_,⟨n1,bm he⟩,?_⟩;rw [hF];exact (rfl:_=_)
 have g3:=of_decide_eq_false g3;rw [ah g3] at hF;refine br ?_ ?_<;>intro g4
 ·rw [ai (of_decide_eq_true g4)] at hF;refine br ?_ ?_<;>intro g5
  ·rw [ah (by rintro rfl;simp [dVals] at g5)] at hF;rw [hF];exact (rfl:_=_)
  ·rw [ai (by
    have:ul.length=0:=by
     have:=of_decide_eq_false g5;omega
    exact List.eq_nil_of_length_eq_zero this)] at hF
   rw [hF];exact (rfl:_=_)
 rw [ah (of_decide_eq_false g4)] at hF;rw [hF];exact (rfl:_=_)
theorem s5 (lo hi:Int) (c:fU):EvP prog 188 [.v (.int .i64 lo),.v (.int .i64 hi),.agg (eL c)] (.v (.int .i64 (nQ lo hi c))):=by
 obtain ⟨p,op,rk,ra,rn,rs,aJ,dC⟩:=c
 have hF:nQ lo hi ⟨p,op,.mk rk ra rn rs aJ dC⟩=(if op=1 then (if rk≠2∨(rn < lo∨hi < rn) then 0 else if lo=hi/\lo=rn then 1 else 2)
  else if op=2 then (if rk≠2∨rn<=lo then 0 else if hi < rn then 1 else 2)
  else if op=3 then (if rk≠2∨hi<=rn then 0 else if rn < lo then 1 else 2)
  else 0):=rfl
 generalize nQ lo hi ⟨p,op,.mk rk ra rn rs aJ dC⟩=F at hF ⊢;refine eG 59 [.tmp 6] func188 rfl ntmps188 rfl fun _ _ _ _=>?_;refine br ?_ ?_<;>intro g
 ·refine br ?_ ?_<;>intro g2
  ·refine congrArg (fun z=>DV.v (Value.int .i64 z)) ?_
   grind [pickB_and,aj]
  ·refine br ?_ ?_<;>intro g3
   all_goals
    refine congrArg (fun z=>DV.v (Value.int .i64 z)) ?_
    grind [pickB_and,aj]
 refine br ?_ ?_<;>intro g0
 ·refine br ?_ ?_<;>intro g2
  ·refine congrArg (fun z=>DV.v (Value.int .i64 z)) ?_
   grind [pickB_and,aj]
  ·refine br ?_ ?_<;>intro g3
   all_goals
    refine congrArg (fun z=>DV.v (Value.int .i64 z)) ?_
    grind [pickB_and,aj]
 refine br ?_ ?_<;>intro g1
 ·refine br ?_ ?_<;>intro g2
  ·refine congrArg (fun z=>DV.v (Value.int .i64 z)) ?_
   grind [pickB_and,aj]
  ·refine br ?_ ?_<;>intro g3
   all_goals
    refine congrArg (fun z=>DV.v (Value.int .i64 z)) ?_
    grind [pickB_and,aj]
 ·refine congrArg (fun z=>DV.v (Value.int .i64 z)) ?_
  grind
def aaj (o:Option Int):DV:=match o with
 | some z=>.tup [.v (.int .i64 z),.v (.bool true)]
 | none=>.tup [.v (.int .i64 0),.v (.bool false)]
theorem JP (a b:Int) (ha:o7 a) (hb:o7 b):EvP prog 187 [.v (.int .i64 a),.v (.int .i64 b)] (aaj (xc a b)):=by
 unfold o7 at ha hb;have hF:xc a b=if (0 < b/\9223372036854775807 - b < a)∨(b < 0/\a < -9223372036854775808 - b) then none else some (a + b):=rfl
 generalize xc a b=F at hF ⊢;have w1:0 < b->IntKind.i64.wrap (9223372036854775807 - b)=9223372036854775807 - b:=fun h=>wrap64 (by omega) (by omega);have w2:b < 0->IntKind.i64.wrap (-9223372036854775808 - b) = -9223372036854775808 - b:=fun h=>wrap64 (by omega) (by omega);refine eG 27 [.tmp 4,.tmp 5] func187 rfl ntmps187 rfl fun _ _ _ _=>?_;refine br ?_ ?_<;>intro g
 ·simp only [aj,pickB_and,Bool.or_eq_true,Bool.or_eq_false_iff,aO,Bool.and_eq_false_iff,Bool.not_eq_true',Bool.not_eq_false',decide_eq_true_eq,decide_eq_false_iff_not] at g;rw [ai (by omega)] at hF;rw [hF];exact ⟨_,ax,rfl⟩
 ·simp only [aj,pickB_and,Bool.or_eq_true,Bool.or_eq_false_iff,aO,Bool.and_eq_false_iff,Bool.not_eq_true',Bool.not_eq_false',decide_eq_true_eq,decide_eq_false_iff_not] at g;rw [ah (by omega)] at hF;have w3:IntKind.i64.wrap (a + b)=a + b:=wrap64 (by omega) (by omega);have h2:aaj (some (a + b))=DV.tup [DV.v (.int .i64 (IntKind.i64.wrap (a + b))),.v (.bool true)]:=by rw [w3];all_goals rfl
  rw [hF];exact ⟨_,ax,h2.symm⟩
theorem qB (d:Nd) (u:Val) (c:fU) (h4:u.k=4->0<=u.n/\u.n < d.af.length) (h8:u.k=8->0<=u.n/\u.n < d.aw.length) :
  EvP prog 154 [.agg (iS d),.agg (bD u),.agg (eL c)] (.v (.int .i64 (j1 d u c))):=by
 have hw:=DL d u h4 h8;have H6:=s5 u.n u.n c;obtain ⟨W,hW⟩:∃ W,W=wordQ d u:=⟨_,rfl⟩;rw [<- hW] at hw;obtain ⟨ag,aE,lo,hi,most,af,es⟩:=d;obtain ⟨uk,un,us,ul⟩:=u;obtain ⟨p,op,rk,ra,rn,rs,aJ,dC⟩:=c
 have hF:j1 ⟨ag,aE,lo,hi,most,af,es⟩ (.mk uk un us ul) ⟨p,op,.mk rk ra rn rs aJ dC⟩=(if uk=2 then nQ un un ⟨p,op,.mk rk ra rn rs aJ dC⟩
 else if op=4 then ee (decide (uk=5) && (decide (rk=2) && decide (rn=ul.length)))
 else if op≠1 then 0
 else if uk=3 then ee (decide (rk=3) && decide (rs=us))
 else ee (decide (rk=1) && decide (W=rs))):=by rw [hW];all_goals rfl
 generalize j1 ⟨ag,aE,lo,hi,most,af,es⟩ (.mk uk un us ul) ⟨p,op,.mk rk ra rn rs aJ dC⟩=F at hF ⊢;simp only [Val.k,Val.n] at h4 h8 H6;generalize nQ un un ⟨p,op,.mk rk ra rn rs aJ dC⟩=Q at H6 hF;have H3:=bK ul;have VU:=zr;refine eG 75 [.tmp 6] func154 rfl ntmps154 rfl fun _ _ _ _=>?_;refine br ?_ ?_<;>intro g
 ·rw [ai (of_decide_eq_true g)] at hF;rw [hF];refine cP Ll H6 ?_;exact (rfl:_=_)
 rw [ah (of_decide_eq_false g)] at hF;refine br ?_ ?_<;>intro g
 ·rw [ai (of_decide_eq_true g)] at hF;rw [hF];refine cP BZ (VU _) ?_;refine congrArg (fun b=>DV.v (Value.int .i64 (ee b))) ?_
  grind [pickB_and]
 rw [ah (of_decide_eq_false g)] at hF;refine br ?_ ?_<;>intro g
 ·rw [ai (by grind)] at hF;rw [hF];exact (rfl:_=_)
 rw [ah (by grind)] at hF;refine br ?_ ?_<;>intro g
 ·rw [ai (of_decide_eq_true g)] at hF;rw [hF];refine cP BZ (VU _) ?_;refine congrArg (fun b=>DV.v (Value.int .i64 (ee b))) ?_
  grind [pickB_and]
 rw [ah (of_decide_eq_false g)] at hF;by_cases h1:rk=1
 ·subst h1;rw [hF];refine dI ?_;refine cD XG hw ?_;refine cD BZ (VU _) ?_;exact (rfl:_=_)
 ·rw [decide_eq_false h1,Bool.false_and] at hF;rw [hF];refine dI ?_;refine br ?_ ?_<;>intro g
  ·exact (h1 (by grind)).elim
  refine cD BZ (VU _) ?_;exact (rfl:_=_)
theorem A6 (e:Ed) (d:Nd) (u:Val) (c:fU) (hu:o7 u.n) (he : -9223372036854775808 < e.cn/\e.cn<=9223372036854775807) :
  EvP prog 151 [.agg (jv e),.agg (iS d),.agg (bD u),.agg (eL c)] (.v (.int .i64 (sc e d u c))):=by
 have ha:=JP u.n (e.cn - 1) hu (by unfold o7;omega);have H6:=s5 (max u.n d.lo) (min ((xc u.n (e.cn - 1)).getD d.hi) d.hi) c;have hF:sc e d u c=nQ (max u.n d.lo) (min ((xc u.n (e.cn - 1)).getD d.hi) d.hi) c:=rfl;rw [hF];have hw:IntKind.i64.wrap (e.cn - 1)=e.cn - 1:=wrap64 (by omega) (by omega);clear hF;generalize xc u.n (e.cn - 1)=A at ha H6 ⊢;obtain ⟨ag,aE,lo,hi,most,af,es⟩:=d;obtain ⟨uk,un,us,ul⟩:=u;obtain ⟨p,op,rk,ra,rn,rs,aJ,dC⟩:=c;obtain ⟨en,eb,ea,et,el,ew,dM,cY,qC,gv⟩:=e;simp only [Val.n] at ha H6 hw ⊢;rw [<- hw] at ha
 cases A with
 | none=>
  simp only [Option.getD_none] at H6 ⊢;refine eG 35 [.tmp 8] func151 rfl ntmps151 rfl fun _ _ _ _=>?_;refine cP Rx ha ?_;refine cP Ll H6 ?_;exact (rfl:_=_)
 | some z=>
  simp only [Option.getD_some] at H6 ⊢;refine eG 35 [.tmp 8] func151 rfl ntmps151 rfl fun _ _ _ _=>?_;refine cP Rx ha ?_;refine cP Ll H6 ?_;exact (rfl:_=_)
theorem sf:∀ (k m:Nat) (l:List UInt8),l.length<=k->l.length<=m->cntU k l=cntU m l
 | 0,0,_,_,_=>rfl
 | 0,m + 1,l,h,_=>by
  have:l=[]:=List.eq_nil_of_length_eq_zero (by omega);subst this;simp [cntU]
 | k + 1,0,l,_,h=>by
  have:l=[]:=List.eq_nil_of_length_eq_zero (by omega);subst this;simp [cntU]
 | k + 1,m + 1,l,h1,h2=>by
  rw [cntU,cntU];split
  ·rfl
  ·rename_i hl;have:=lT hl;rw [sf k m (l.drop (jk l)) (by rw [List.length_drop];omega) (by rw [List.length_drop];omega)]
theorem zs {k:Nat} {l:List UInt8} (hl:l ≠ []) (hk:l.length<=k):cntU k l=1 + cntU k (l.drop (jk l)):=by
 have hp:=lT hl;have h0:0 < l.length:=List.length_pos_iff.2 hl;obtain ⟨m,rfl⟩:∃ m,k=m + 1:=⟨k - 1,by omega⟩;rw [cntU,ah hl,sf m (m + 1) _ (by rw [List.length_drop];omega) (by rw [List.length_drop];omega)]
abbrev aak (s:ByteArray) (m:Int) (all en aE:Int):St:=⟨[(0,⟨[],.v (.string s)⟩),au 1 m,au 4 all,au 5 en,au 6 aE],[],[]⟩
theorem qD (s:ByteArray) (hs:s.size<=1099511627776) (m:Int):EvP prog 189 [.v (.string s),.v (.int .i64 m)] (.tup [.v (.int .i64 (cntU s.size (tx s):Nat)),.v (.int .i64 ((headL m.toNat (tx s)).length:Nat))]):=by
 have oZ:=bR s;generalize hC:cntU s.size (tx s)=C;generalize hE:(headL m.toNat (tx s)).length=En;refine eG 35 [.tmp 4,.tmp 5] func189 rfl ntmps189 rfl fun _ _ _ _=>?_;refine lI (fun j st=>∃ (aE all en:Nat),st=aak s m all en aE /\ aE <= s.size/\all<=aE /\ all + cntU s.size ((tx s).drop aE)=C/\((all:Int)<=m->aE + (headL (m.toNat - all) ((tx s).drop aE)).length=En)/\(m < all->en=En)/\j=s.size - aE) ⟨0,0,0,rfl,by omega,by omega,by rw [List.drop_zero];omega,fun h=>by rw [List.drop_zero,Nat.sub_zero];omega,fun h=>by rw [<- hE,show m.toNat=0 by omega];rfl,rfl⟩ (wkM wB) ?_;rintro _ st ⟨aE,all,en,rfl,h1,h0,h2,h3,h4,rfl⟩;refine br ?_ ?_<;>intro hL
 ·have av:aE < s.size:=sU hL
  have bg:(tx s).drop aE ≠ []:=by
   intro h;have:=congrArg List.length h;rw [List.length_drop,List.length_nil] at this;omega
  have hu:=zj s aE hs h1;have bi:=zs (k:=s.size) bg (by rw [List.length_drop];omega);rw [bi,List.drop_drop] at h2;have Bn:=lT bg;have fN:jk ((tx s).drop aE) + aE <= s.size:=by grind [lT]
  have u7:∀ k,headL (k + 1) ((tx s).drop aE)=((tx s).drop aE).take (jk ((tx s).drop aE)) ++ headL k ((tx s).drop (aE + jk ((tx s).drop aE))):=fun k=>by rw [headL,List.drop_drop]
  have h5:(all:Int) < m->aE + jk ((tx s).drop aE) + (headL (m.toNat - (all + 1)) ((tx s).drop (aE + jk ((tx s).drop aE)))).length=En:=fun h=>by
   have:=h3 (by omega);rw [show m.toNat - all=(m.toNat - (all + 1)) + 1 by omega,u7,List.length_append,ez,List.length_drop] at this;omega
  have h6:(all:Int)=m->aE=En:=fun h=>by
   have:=h3 (by omega);rw [show m.toNat - all=0 by omega,headL,List.length_nil] at this;omega
  generalize jk ((tx s).drop aE)=n at hu h2 h5 fN Bn
  have hw:IntKind.i64.wrap ((aE:Int) + n)=((aE + n:Nat):Int):=by
   rw [wrap64 (by omega) (by omega)];omega
  have ZE:IntKind.i64.wrap ((all:Int) + 1)=((all + 1:Nat):Int):=by
   rw [wrap64 (by omega) (by omega)];omega
  refine br ?_ ?_<;>intro g
  ·have g:=of_decide_eq_true g;refine bG Lm rfl hu ax (fun q hq=>?_);obtain ⟨z1,rfl⟩:=hq;exact ⟨aak s m (all + 1:Nat) aE (aE + n:Nat),(wkM (wB2 hw ZE)),s.size - (aE + n),by omega,aE + n,all + 1,aE,rfl,by omega,by omega,by omega,fun h=>by omega,fun _=>h6 g,rfl⟩
  ·have g:=of_decide_eq_false g;refine bG Lm rfl hu ax (fun q hq=>?_);obtain ⟨z1,rfl⟩:=hq;exact rE ⟨_,by omega,aE + n,all + 1,en,rfl,by omega,by omega,by omega,fun h=>h5 (by omega),fun h=>h4 (by omega),rfl⟩ (wkM (wB2 hw ZE))
 ·have hge:aE=s.size:=by
   have h2:=hL;simp at h2;omega
  subst hge;have UN:(tx s).drop s.size=[]:=List.drop_eq_nil_of_le (by omega);rw [UN] at h2 h3
  have KJ:cntU s.size []=0:=by
   cases s.size with
   | zero=>rfl
   | succ _=>simp [cntU]
  rw [KJ,Nat.add_zero] at h2;subst h2;refine br ?_ ?_<;>intro g
  ·have g:=of_decide_eq_true g;have:=h3 g;rw [rX,List.length_nil,Nat.add_zero] at this;subst this;exact ⟨_,ax,rfl⟩
  ·have g:=of_decide_eq_false g;have:=h4 (by omega);subst this;exact ⟨_,ax,rfl⟩
theorem A7 (e:Ed) (u:Val) (c:fU) (hu:u.s.size<=1099511627776) (hc:c.lit.s.size<=1099511627776) :
  EvP prog 152 [.agg (jv e),.agg (bD u),.agg (eL c)] (.v (.int .i64 (oV e u c))):=by
 obtain ⟨uk,un,us,ul⟩:=u;obtain ⟨p,op,rk,ra,rn,rs,aJ,dC⟩:=c;obtain ⟨en,eb,ea,et,el,ew,dM,cY,qC,gv⟩:=e;have h1:=qD us hu cY;have h2:=qD rs hc cY;have hp:=qB xd (.mk 3 0 us []) ⟨p,op,.mk rk ra rn rs aJ dC⟩ (fun h=>absurd (show (3:Int)=4 from h) (by decide)) (fun h=>absurd (show (3:Int)=8 from h) (by decide));have aal:=ze cY.toNat (tx rs)
 have hF:oV ⟨en,eb,ea,et,el,ew,dM,cY,qC,gv⟩ (.mk uk un us ul) ⟨p,op,.mk rk ra rn rs aJ dC⟩=(if (cntU us.size (tx us):Int) < cY then j1 xd (.mk 3 0 us []) ⟨p,op,.mk rk ra rn rs aJ dC⟩
  else if op=1/\rk=3/\headL cY.toNat (tx rs)=tx us then 2 else 0):=rfl
 generalize oV ⟨en,eb,ea,et,el,ew,dM,cY,qC,gv⟩ (.mk uk un us ul) ⟨p,op,.mk rk ra rn rs aJ dC⟩=F at hF ⊢;generalize j1 xd (.mk 3 0 us []) ⟨p,op,.mk rk ra rn rs aJ dC⟩=P at hp hF;generalize cntU us.size (tx us)=n1 at h1 hF;generalize (headL cY.toNat (tx us)).length=e1 at h1;generalize cntU rs.size (tx rs)=n2 at h2;have oZ:=bR rs;have hple:=aal.length_le;have mc:=List.prefix_iff_eq_take.1 aal;generalize headL cY.toNat (tx rs)=H at h2 hF hple mc;refine eG 57 [.tmp 6] func152 rfl ntmps152 rfl fun _ _ _ _=>?_;refine cP Ry h1 ?_;refine br ?_ ?_<;>intro g
 ·rw [ai (of_decide_eq_true g)] at hF;rw [hF];refine cP Rn hp ?_;exact (rfl:_=_)
 rw [ah (of_decide_eq_false g)] at hF;refine cP Ry h2 ?_
 have hx:rs.extract 0 H.length=ba H:=u9 (by
  simp [tx] at mc ⊢
  exact mc.symm)
 refine dI ?_;refine br ?_ ?_<;>intro g1
 ·have g1:op=1/\rk=3:=by simpa [pickB_and] using g1
  refine ⟨⟨by omega,by omega,by omega⟩,?_⟩;refine br ?_ ?_<;>intro g2
  ·have g2:=of_decide_eq_true g2
   rw [ai ⟨g1.1,g1.2,by
    have:=congrArg tx (hx.symm.trans g2)
    rwa [mH] at this⟩] at hF
   rw [hF];exact (rfl:_=_)
  ·have g2:=of_decide_eq_false g2;rw [ah (fun h=>g2 (hx.trans (by rw [h.2.2];exact Ck us)))] at hF;rw [hF];exact (rfl:_=_)
 ·have g1:¬ (op=1/\rk=3):=by simpa [pickB_and] using g1
  rw [ah (fun h=>g1 ⟨h.1,h.2.1⟩)] at hF;rw [hF];exact (rfl:_=_)
def oW (d:Nd) (x:Val) (s:dX):DV:=match bc (se d x s) x.ks.length with
 | none=>.tup [.agg (jv fg),.v (.int .i64 0),.v (.bool false)]
 | some j=>.tup [.agg (jv ((d.aw[tB x j]?).getD fg)),.v (.int .i64 j),.v (.bool true)]
abbrev aam (d:Nd) (x:Val) (s:dX) (e:Nat):St:=
 ⟨[aD 3 0,aD 4 1,aD 5 2,aD 6 3,au 7 0,uF 8 false,au 14 ((dVals x.ks).length),au 15 e],[iS d,bD x,jY s,jv fg],[]⟩
set_option maxHeartbeats 1000000 in
theorem DM (d:Nd) (x:Val) (s:dX) (h7:x.k=7->x.ks.length<=d.aw.length) (h8:x.k=8->0<=x.n/\x.n < d.aw.length) (h5:x.k=5∨x.k=6->0 < d.aw.length) (zP:x.ks.length<=1099511627776) :
  EvP prog 95 [.agg (iS d),.agg (bD x),.agg (jY s)] (oW d x s):=by
 obtain ⟨ag,aE,lo,hi,most,af,es⟩:=d;obtain ⟨xk,xn,xs,xl⟩:=x;obtain ⟨sk,sn,ss⟩:=s
 have hR:oW ⟨ag,aE,lo,hi,most,af,es⟩ (.mk xk xn xs xl) ⟨sk,sn,ss⟩=(match bc (se ⟨ag,aE,lo,hi,most,af,es⟩ (.mk xk xn xs xl) ⟨sk,sn,ss⟩) xl.length with
  | none=>.tup [.agg (jv fg),.v (.int .i64 0),.v (.bool false)]
  | some j=>.tup [.agg (jv ((es[tB (.mk xk xn xs xl) j]?).getD fg)),.v (.int .i64 j),.v (.bool true)]):=rfl
 generalize oW ⟨ag,aE,lo,hi,most,af,es⟩ (.mk xk xn xs xl) ⟨sk,sn,ss⟩=R at hR ⊢;have cw:(dVals (Val.mk xk xn xs xl).ks).length=xl.length:=bK xl;have hE:=bT es
 have hfq:∀ j,se ⟨ag,aE,lo,hi,most,af,es⟩ (.mk xk xn xs xl) ⟨sk,sn,ss⟩ j=(if xk=7 then decide (sk=1) && (match es[j]? with | some e=>decide (e.name=ss) | none=>false)
 else if xk=8 then decide (sk=5) && (match es[xn.toNat]? with | some e=>decide (e.name=ss) | none=>false)
 else if xk=5 then decide (sk=2) && decide (sn=(j:Int))
 else if xk=6 then decide (sk=4) else false):=fun j=>rfl
 have hke:∀ j,tB (.mk xk xn xs xl) j=(if xk=7 then j else if xk=8 then xn.toNat else 0):=fun j=>rfl;generalize se ⟨ag,aE,lo,hi,most,af,es⟩ (.mk xk xn xs xl) ⟨sk,sn,ss⟩=FQ at *;generalize tB (.mk xk xn xs xl)=KE at *;simp only [Val.k,Val.n,Val.ks] at h7 h8 h5 zP;refine eG 80 [.cell 6 115,.tmp 7,.tmp 8] func95 rfl ntmps95 rfl fun _ _ _ _=>?_;refine lI (fun j st=>∃ e:Nat,st=aam ⟨ag,aE,lo,hi,most,af,es⟩ (.mk xk xn xs xl) ⟨sk,sn,ss⟩ e/\e<=xl.length/\(∀ a,a < e->FQ a=false)/\j=xl.length - e) ⟨0,rfl,by omega,by omega,rfl⟩ (wkB 4 kZ gR) ?_;rintro _ st ⟨e,rfl,he,hn,rfl⟩;refine br ?_ ?_<;>intro hL
 ·have av:e < xl.length:=sV cw hL;have jh:=hfq e;have xC:=hke e
  have jc:FQ e=false->∀ a,a < e + 1->FQ a=false:=fun h a ha=>by
   rcases jB ha with ha | rfl
   ·exact hn a ha
   ·exact h
  have l6:FQ e=true->∀ ed,es[KE e]? = some ed->R = .tup [.agg (jv ed),.v (.int .i64 e),.v (.bool true)]:=fun h ed xX=>by
   rw [hR,bP av h hn];simp only;rw [xX];rfl
  refine br ?_ ?_<;>intro g7
  ·have g7:=of_decide_eq_true g7;rw [ai g7] at jh xC;obtain ⟨ed,xX⟩:∃ ed,es[e]? = some ed:=⟨_,gE (by have:=h7 g7;omega)⟩;rw [xX] at jh;have l6:=fun h=>l6 h ed (by rw [xC];exact xX);have Qz:=bm xX;obtain ⟨en,eb,ea,et,el,ew,dM,cY,qC,gv⟩:=ed;refine dI ?_;refine br ?_ ?_<;>intro g
   ·have g:sk=1:=sU g;rw [decide_eq_true g,Bool.true_and] at jh;refine ⟨_,⟨by omega,Qz⟩,?_⟩;refine br ?_ ?_<;>intro g2
    ·refine ⟨_,⟨by omega,Qz⟩,?_⟩;rw [l6 (jh.trans g2)];exact ⟨_,ax,rfl⟩
    ·exact rE ⟨_,by omega,e + 1,rfl,by omega,jc (jh.trans g2),rfl⟩ (wkB 4 (mw (nxt av (by omega))) (wB1 (nxt av (by omega))))
   ·have g:¬ sk=1:=sU g;rw [decide_eq_false g,Bool.false_and] at jh;exact rE ⟨_,by omega,e + 1,rfl,by omega,jc (jh),rfl⟩ (wkB 4 (mw (nxt av (by omega))) (wB1 (nxt av (by omega))))
  have g7:=of_decide_eq_false g7;rw [ah g7] at jh xC;refine br ?_ ?_<;>intro g8
  ·have g8:=of_decide_eq_true g8;rw [ai g8] at jh xC;obtain ⟨ed,xX⟩:∃ ed,es[xn.toNat]? = some ed:=⟨_,gE (by have:=h8 g8;omega)⟩;rw [xX] at jh;have l6:=fun h=>l6 h ed (by rw [xC];exact xX);have Qz:=bm xX;obtain ⟨en,eb,ea,et,el,ew,dM,cY,qC,gv⟩:=ed;refine dI ?_;refine br ?_ ?_<;>intro g
   ·have g:sk=5:=sU g;rw [decide_eq_true g,Bool.true_and] at jh;refine ⟨_,⟨(h8 g8).1,Qz⟩,?_⟩;refine br ?_ ?_<;>intro g2
    ·refine ⟨_,⟨(h8 g8).1,Qz⟩,?_⟩;rw [l6 (jh.trans g2)];exact ⟨_,ax,rfl⟩
    ·exact rE ⟨_,by omega,e + 1,rfl,by omega,jc (jh.trans g2),rfl⟩ (wkB 4 (mw (nxt av (by omega))) (wB1 (nxt av (by omega))))
   ·have g:¬ sk=5:=sU g;rw [decide_eq_false g,Bool.false_and] at jh;exact rE ⟨_,by omega,e + 1,rfl,by omega,jc (jh),rfl⟩ (wkB 4 (mw (nxt av (by omega))) (wB1 (nxt av (by omega))))
  have g8:=of_decide_eq_false g8;rw [ah g8] at jh xC;refine br ?_ ?_<;>intro g5
  ·have g5:=of_decide_eq_true g5;rw [ai g5] at jh;obtain ⟨ed,xX⟩:∃ ed,es[0]? = some ed:=⟨_,gE (h5 (.inl g5))⟩;have l6:=fun h=>l6 h ed (by rw [xC];exact xX);have Qz:=bm xX;obtain ⟨en,eb,ea,et,el,ew,dM,cY,qC,gv⟩:=ed;refine br ?_ ?_<;>intro g2
   ·refine ⟨_,⟨by omega,Qz⟩,?_⟩;rw [l6 (by rw [jh];rw [pickB_and] at g2;exact g2)];exact ⟨_,ax,rfl⟩
   ·exact rE ⟨_,by omega,e + 1,rfl,by omega,jc (by rw [jh];rw [pickB_and] at g2;exact g2),rfl⟩ (wkB 4 (mw (nxt av (by omega))) (wB1 (nxt av (by omega))))
  have g5:=of_decide_eq_false g5;rw [ah g5] at jh;refine br ?_ ?_<;>intro g6
  ·have g6:=of_decide_eq_true g6;rw [ai g6] at jh;obtain ⟨ed,xX⟩:∃ ed,es[0]? = some ed:=⟨_,gE (h5 (.inr g6))⟩;have l6:=fun h=>l6 h ed (by rw [xC];exact xX);have Qz:=bm xX;obtain ⟨en,eb,ea,et,el,ew,dM,cY,qC,gv⟩:=ed;refine br ?_ ?_<;>intro g2
   ·refine ⟨_,⟨by omega,Qz⟩,?_⟩;rw [l6 (by rw [jh];exact g2)];exact ⟨_,ax,rfl⟩
   ·exact rE ⟨_,by omega,e + 1,rfl,by omega,jc (by rw [jh];exact g2),rfl⟩ (wkB 4 (mw (nxt av (by omega))) (wB1 (nxt av (by omega))))
  have g6:=of_decide_eq_false g6;rw [ah g6] at jh;exact rE ⟨_,by omega,e + 1,rfl,by omega,jc (jh),rfl⟩ (wkB 4 (mw (nxt av (by omega))) (wB1 (nxt av (by omega))))
 ·have hge:xl.length<=e:=sV cw hL;rw [hR,bZ fun a ha=>hn a (by omega)];exact ⟨_,ax,rfl⟩
def dPl (i:Int) (e:Ed) (u:Val):List DV:=[.v (.int .i64 i)] ++ (jv e ++ bD u)
theorem Gx {S:Sch} {ND:List Nd} {PC:List DV} (hP:jX S ND PC) (i:Nat) (d:Nd) (hd:ND[i]? = some d) (e:Ed) (u:Val) (c:fU) (h4:u.k=4->0<=u.n/\u.n < d.af.length) (h8:u.k=8->0<=u.n/\u.n < d.aw.length)
  (hu:o7 u.n) (U7:u.s.size<=1099511627776) (he : -9223372036854775808 < e.cn/\e.cn<=9223372036854775807) (hc:c.lit.s.size<=1099511627776) :
  EvP prog 96 [.pt PC 0,.agg (dPl i e u),.agg (eL c)] (.v (.int .i64 (xZ d e u c))):=by
 have hnd:=hP.ap i d hd;have h1:=qB d u c h4 h8;have h2:=A6 e d u c hu he;have h3:=A7 e u c U7 hc;have VU:=zr;obtain ⟨ag,aE,lo,hi,most,af,es⟩:=d;obtain ⟨uk,un,us,ul⟩:=u;obtain ⟨p,op,rk,ra,rn,rs,aJ,dC⟩:=c;obtain ⟨en,eb,ea,et,el,ew,dM,cY,qC,gv⟩:=e;obtain ⟨Q1,hQ1⟩:∃ Q,Q=j1 ⟨ag,aE,lo,hi,most,af,es⟩ (.mk uk un us ul) ⟨p,op,.mk rk ra rn rs aJ dC⟩:=⟨_,rfl⟩;obtain ⟨Q2,hQ2⟩:∃ Q,Q=sc ⟨en,eb,ea,et,el,ew,dM,cY,qC,gv⟩ ⟨ag,aE,lo,hi,most,af,es⟩ (.mk uk un us ul) ⟨p,op,.mk rk ra rn rs aJ dC⟩:=⟨_,rfl⟩;obtain ⟨Q3,hQ3⟩:∃ Q,Q=oV ⟨en,eb,ea,et,el,ew,dM,cY,qC,gv⟩ (.mk uk un us ul) ⟨p,op,.mk rk ra rn rs aJ dC⟩:=⟨_,rfl⟩;rw [<- hQ1] at h1;rw [<- hQ2] at h2;rw [<- hQ3] at h3
 have hF:xZ ⟨ag,aE,lo,hi,most,af,es⟩ ⟨en,eb,ea,et,el,ew,dM,cY,qC,gv⟩ (.mk uk un us ul) ⟨p,op,.mk rk ra rn rs aJ dC⟩=(if uk=9 then 2 else if uk=10 then Q2 else if uk=11 then Q3
 else if uk=12 then ee (decide (op=4) && (decide (rk=2) && decide (rn=un)))
 else Q1):=by rw [hQ1,hQ2,hQ3];all_goals rfl
 generalize xZ ⟨ag,aE,lo,hi,most,af,es⟩ ⟨en,eb,ea,et,el,ew,dM,cY,qC,gv⟩ (.mk uk un us ul) ⟨p,op,.mk rk ra rn rs aJ dC⟩=F at hF ⊢;refine eG 64 [.tmp 6] func96 rfl ntmps96 rfl fun _ _ _ _=>?_;refine cP zY hnd ?_;refine br ?_ ?_<;>intro g
 ·rw [ai (of_decide_eq_true g)] at hF;rw [hF];exact (rfl:_=_)
 rw [ah (of_decide_eq_false g)] at hF;refine br ?_ ?_<;>intro g
 ·rw [ai (of_decide_eq_true g)] at hF;rw [hF];refine cP Xr h2 ?_;exact (rfl:_=_)
 rw [ah (of_decide_eq_false g)] at hF;refine br ?_ ?_<;>intro g
 ·rw [ai (of_decide_eq_true g)] at hF;rw [hF];refine cP Xs h3 ?_;exact (rfl:_=_)
 rw [ah (of_decide_eq_false g)] at hF;refine br ?_ ?_<;>intro g
 ·rw [ai (of_decide_eq_true g)] at hF;rw [hF];refine cP BZ (VU _) ?_;refine congrArg (fun b=>DV.v (Value.int .i64 (ee b))) ?_
  grind [pickB_and]
 rw [ah (of_decide_eq_false g)] at hF;rw [hF];refine cP Rn h1 ?_;exact (rfl:_=_)
def H7 (v:Val):Bool:=decide (v.k=2) || (decide (v.k=3) || ((decide (v.k=9) && (decide (1<=v.n) && decide (v.n<=64))) || (decide (10<=v.k) && decide (v.k<=12))))
section
variable (ND:List Nd)
mutual
def lW:Val->Int->Bool
 | .mk k n s ks,i=>match cu ND i with
  | none=>false
  | some d=>if 9<=k then H7 (.mk k n s ks) && decide (ks=[]) else if k≠d.ag then false else if d.ag < 5 then decide (ks=[]) && (decide (k≠4) || decide (0<=n/\n < d.af.length)) else shellF d (.mk k n s ks) && s6 ks d n 0
def s6:List Val->Nd->Int->Nat->Bool
 | [],_,_,_=>true
 | x :: r,d,z,j=>(match dW d z j with
  | none=>false
  | some e=>lW x e.to) && s6 r d z (j + 1)
end
end
section
variable {ND:List Nd}
theorem DN:∀ {ks:List Val} {d:Nd} {z:Int} {j m:Nat} {x:Val},s6 ND ks d z j=true->ks[m]? = some x->∃ e,dW d z (j + m)=some e/\lW ND x e.to=true
 | [],_,_,_,_,_,_,h=>by simp at h
 | y :: r,d,z,j,m,x,hw,h=>by
  rw [s6,aO] at hw
  cases m with
  | zero=>grind
  | succ m=>
   rw [show j + (m + 1)=j + 1 + m by omega];exact DN hw.2 (sU h)
end
section
variable {ND:List Nd}
theorem DO {v:Val} {i:Int} (h:lW ND v i=true):∃ d,cu ND i=some d/\((9<=v.k/\H7 v=true/\v.ks=[])∨(v.k=d.ag/\d.ag < 5/\v.ks=[]/\(v.k=4->0<=v.n/\v.n < d.af.length))∨(v.k=d.ag/\5<=d.ag/\shellF d v=true/\s6 ND v.ks d v.n 0=true)):=by
 obtain ⟨k,n,s,ks⟩:=v;unfold lW at h
 cases hd:cu ND i with
 | none=>rw [hd] at h;cases h
 | some d=>
  rw [hd] at h;refine ⟨d,rfl,?_⟩;simp only at h;split at h
  ·rename_i c;rw [aO,decide_eq_true_iff] at h;exact .inl ⟨c,h.1,h.2⟩
  ·split at h
   ·cases h
   ·rename_i c;have c:k=d.ag:=Decidable.not_not.1 c;split at h
    ·rename_i c5;rw [aO,Bool.or_eq_true,decide_eq_true_iff,decide_eq_true_iff,decide_eq_true_iff] at h;exact .inr (.inl ⟨c,c5,h.1,fun c4=>h.2.resolve_left (fun g=>g c4)⟩)
    ·rename_i c5;rw [aO] at h;exact .inr (.inr ⟨c,by omega,h.1,h.2⟩)
theorem shell_8 {d:Nd} {v:Val} (h:shellF d v=true) (h8:d.ag=8):0<=v.n/\v.n < d.aw.length:=by grind [shellF]
end
section
variable {ND:List Nd} {L:Nat}
end
structure Chg where
 k:Int
 p:List dX
 x:Option Val
 y:Option Val
def itmS (j:Nat):dX:=⟨2,j,aq⟩
def addC (p:List dX):List Val->Nat->List Chg
 | [],_=>[]
 | y :: r,j=>⟨2,p ++ [itmS j],none,some y⟩ :: addC p r (j + 1)
section
variable (ND:List Nd)
end
theorem A8 {v:Val} (h:rngW v):o7 v.n:=by obtain ⟨_,_,_,_⟩:=v;rw [rngW] at h;exact h.2.1
section
variable {ND:List Nd} {f:Nat->Nat->Bool} {L obs:Nat}
theorem QA {v:Val} {i:Int} {d:Nd} (hd:cu ND i=some d) (h9:9<=v.k) (hb:H7 v=true) (hk:v.ks=[]):lW ND v i=true:=by
 obtain ⟨k,n,s,ks⟩:=v;have hk:ks=[]:=hk;subst hk;have h9:9<=k:=h9
 grind [lW]
theorem oX {v:Val} {i:Int} {d:Nd} {k n:Int} {s:ByteArray} (hd:cu ND i=some d) (h:bU v k n s=true) (hk:(k=9/\1<=n/\n<=64)∨k=10∨k=11∨k=12):lW ND v i=true:=by
 rw [cE.1 h];refine QA hd (by show 9<=k;omega) ?_ rfl
 grind [H7,Val.k,Val.n]
theorem A9 {v:Val} {i:Int} {d:Nd} {e:Ed} {t:Nd} (hd:cu ND i=some d) (hw:1<=e.wide/\e.wide<=64) (h:fK e t v=true):lW ND v i=true:=by grind [fK,oX]
mutual
theorem ua (bF:∀ n∈ND,dg L ND.length n):∀ (v:Val) (i:Int) (a:Nat),seeV ND f L obs v i a=true->lW ND v i=true
 | .mk k n s ks,i,a,h=>by
  rw [seeV] at h
  cases hd:cu ND i with
  | none=>rw [hd] at h;cases h
  | some d=>
   rw [hd] at h;simp only at h;have hN:=bF d (mG (cC hd).2);have Ou:=hN.k8;rw [lW,hd];simp only;split at h
   ·rename_i c5;obtain ⟨d',hF⟩:=nH bF h;have SI:=hF.ap;rw [hd] at SI;injection SI with SI
    subst SI;have h1:k=d.ag:=hF.k;have h2:ks=[]:=hF.leaf c5;have h3:=hF.enum;rw [ah (by omega),ah (by omega),ai c5,h2];simp only [decide_true,Bool.true_and,Bool.or_eq_true,decide_eq_true_iff];by_cases c4:k=4
    ·exact .inr (h3 (by omega))
    ·exact .inl c4
   ·rename_i c5;rw [aO] at h
    have hk:k=d.ag:=by
     by_cases c:k=d.ag
     ·exact c
     ·have:=h.1;unfold shellF at this;rw [ai (.inl c)] at this;cases this
    rw [ah (by omega),ah (by omega),ah c5,aO];exact ⟨h.1,DP bF ks d n a 0 hN (fun m hm=>by rw [Nat.zero_add];exact kT hN (by omega) h.1 hm) h.2⟩
theorem DP (bF:∀ n∈ND,dg L ND.length n):∀ (l:List Val) (d:Nd) (z:Int) (a j:Nat),dg L ND.length d->(∀ m,m < l.length->∃ e,UZ ND d z (j + m) e)->seeVs ND f L obs l d z a j=true->s6 ND l d z j=true
 | [],_,_,_,_,_,_,_=>by rw [s6]
 | x :: r,d,z,a,j,hN,hK,h=>by
  rw [seeVs,aO] at h;rw [s6,aO];refine ⟨?_,DP bF r d z a (j + 1) hN (fun m hm=>by have:=hK (m + 1) (by rw [List.length_cons];omega);rwa [show j + (m + 1)=j + 1 + m by omega] at this) h.2⟩;obtain ⟨e,hE⟩:=hK 0 (by simp);have he:=hE.fZ;rw [Nat.add_zero] at he;have h1:=h.1;rw [he] at h1 ⊢;simp only at h1 ⊢;obtain ⟨g1,t,ht⟩:=Dj hN hE.mem hE.bare;have hw:=(hN.fZ e hE.mem).wide;split at h1
  ·exact ua bF x e.to _ h1
  ·grind [A9,oX]
end
theorem NO (bF:∀ n∈ND,dg L ND.length n) {rt:Nat} {o:Int} {v:Val} (h:nP ND f L rt o v=true):lW ND v (rt:Nat)=true:=by grind [nP,ua]
end
end Go.Proofs.YtphonmiflfhdbaaGreat
set_option maxRecDepth 100000
namespace Go.Proofs.YtphonmiflfhdbaaGreat
open Go Go.RowKit
namespace Dv
section
variable {X:Ctx} {st:St}
theorem vR {i j:Nat} {s S:St} (h:ox s (eS i j S):=by refine (⟨rfl,rfl,?_⟩:_/\_/\_);repeat' (first | exact trivial | refine ⟨rfl,?_⟩)):(s=S∨ox s S)∨ox s (eS i j S):=.inr h
end
end Dv
end Go.Proofs.YtphonmiflfhdbaaGreat
set_option maxRecDepth 100000
namespace Go.Proofs.YtphonmiflfhdbaaGreat
open Go Go.RowKit Dv Go.Proofs.Tryz
def Kr (x:Val) (a:Nat) (k:Val):Val:=.mk x.k x.n x.s (x.ks.set a k)
section
variable {ND:List Nd} {f:Nat->Nat->Bool} {L obs o:Nat}
theorem DQ:∀ {ks:List Val} {d:Nd} {z:Int} {a j m:Nat} {x:Val},seeVs ND f L obs ks d z a j=true->ks[m]? = some x->∃ e,dW d z (j + m)=some e/\kidS ND f L obs d e a x=true
 | [],_,_,_,_,_,_,_,h=>by cases h
 | y :: r,d,z,a,j,m,x,h,hx=>by
  rw [seeVs,aO] at h
  cases m with
  | zero=>
   cases hx
   cases he:dW d z j with
   | none=>rw [he] at h;exact absurd h.1 (by simp)
   | some e=>rw [he] at h;exact ⟨e,rfl,h.1⟩
  | succ m=>
   have:=DQ (m:=m) h.2 (sU hx)
   grind
structure aao (ND:List Nd) (f:Nat->Nat->Bool) (L obs:Nat) (d:Nd) (z:Int) (a m:Nat) (x:Val) (e:Ed):Prop where
 Ow:UZ ND d z m e
 k5:5<=d.ag
 k8:d.ag=8->(0<=z/\z < d.aw.length)/\m=0
 see:kidS ND f L obs d e a x=true
theorem JQ (bF:∀ n∈ND,dg L ND.length n) {v:Val} {i:Int} {a:Nat} {d:Nd} (h:seeV ND f L obs v i a=true) (hd:cu ND i=some d) {m:Nat} {x:Val} (hx:v.ks[m]? = some x):∃ e,aao ND f L obs d v.n a m x e:=by
 have hN:=bF d (mG (cC hd).2);obtain ⟨k,n,s,ks⟩:=v;rw [seeV,hd] at h;simp only [Val.ks] at h hx;by_cases h5:d.ag < 5
 ·rw [ai h5] at h;obtain ⟨d',hF⟩:=nH bF h;have SI:d'=d:=by have:=hF.ap;rw [hd] at this;cases this;rfl
  subst SI;have:=hF.leaf h5
  grind [Val.ks]
 ·rw [ah h5,aO] at h;have hm:m < ks.length:=(gS hx).1;obtain ⟨e,hK⟩:=kT hN (by omega) h.1 (m:=m) hm;obtain ⟨e2,Yr,hs⟩:=DQ h.2 hx;rw [Nat.zero_add] at Yr;have:=hK.fZ;simp only [Val.n] at this;rw [Yr] at this;have D6:e2=e:=Option.some.inj this;exact ⟨e,hK,by omega,fun c=>oU hN h.1 c hm,D6 ▸ hs⟩
theorem SJ (bF:∀ n∈ND,dg L ND.length n) {v:Val} {i:Int} {a:Nat} (h:seeV ND f L obs v i a=true):v.k < 9:=by
 obtain ⟨k,n,s,ks⟩:=v;rw [seeV] at h
 cases hd:cu ND i with
 | none=>rw [hd] at h;cases h
 | some d=>
  have hN:=bF d (mG (cC hd).2);have h8:=hN.k8;rw [hd] at h;simp only at h;by_cases h5:d.ag < 5
  ·rw [ai h5] at h;obtain ⟨d',hF⟩:=nH bF h;have SI:d'=d:=by have:=hF.ap;rw [hd] at this;cases this;rfl
   subst SI;have:=hF.k;simp only [Val.k] at this ⊢;omega
  ·grind [shellF]
theorem zt {e:Ed} {d:Nd} {v:Val} (h:fK e d v=true):v=Di e∨v.k=10∨v.k=11∨v.k=12:=by
 by_cases c1:e.ck=1/\d.ag=2
 ·rw [mayF_1 c1] at h;split at h
  ·rename_i g;exact .inl (cE.1 g)
  ·simp only [aO] at h;have:=cE.1 h.1.1.1.1;exact .inr (.inl (by rw [this];rfl))
 by_cases c2:e.ck=2/\d.ag=3
 ·rw [mayF_2 c2] at h;simp only [aO] at h;have:=cE.1 h.1.1;exact .inr (.inr (.inl (by rw [this];rfl)))
 by_cases c3:e.ck=3/\d.ag=5
 ·rw [mayF_3 c3] at h;simp only [aO] at h;have:=cE.1 h.1.1;exact .inr (.inr (.inr (by rw [this];rfl)))
 rw [mayF_0 c1 c2 c3] at h;exact .inl (cE.1 h)
end
theorem QB {ND:List Nd} {f:Nat->Nat->Bool} {n rt:Nat} {o:Int} {v:Val} (h:nP ND f n rt o v=true):(0<=o/\o < n)/\seeV ND f n o.toNat v rt (iM f n)=true:=by grind [nP]
def no10 (l:List UInt8):Prop:=∀ b∈l,b≠10
instance (l:List UInt8):Decidable (no10 l):=inferInstanceAs (Decidable (∀ b∈l,b≠10))
section
variable {ND:List Nd} {L:Nat}
end
theorem Ba {ND:List Nd} {L:Nat} (bF:∀ n∈ND,dg L ND.length n) {x:Val} {i:Int} {d:Nd} (hw:lW ND x i=true) (hd:cu ND i=some d) {j:Nat} {a:Val} (ha:x.ks[j]? = some a) :
  5<=d.ag/\x.k=d.ag/\shellF d x=true/\∃ e,dW d x.n j=some e/\e.bare=false/\lW ND a e.to=true:=by
 have hN:=bF d (mG (cC hd).2);obtain ⟨k,n,s,ks⟩:=x;simp only [Val.ks] at ha;have bg:ks ≠ []:=by rintro rfl;cases ha
 rw [lW,hd] at hw;simp only at hw;split at hw
 ·simp [bg] at hw
 split at hw
 ·cases hw
 rename_i hk;split at hw
 ·simp [bg] at hw
 rw [aO] at hw;obtain ⟨e,he,Wm⟩:=DN hw.2 ha;rw [Nat.zero_add] at he;obtain ⟨e',hK⟩:=kT hN (by omega) hw.1 (m:=j) (gS ha).1;have:=hK.fZ;simp only [Val.n] at this;rw [he] at this;cases this;exact ⟨by omega,by simp only [Val.k];omega,hw.1,e,he,hK.bare,Wm⟩
structure H8 (c:fU):Prop where
 p:c.p.length<=1099511627776
 s:∀ s∈c.p,s.s.size<=1099511627776
 l:c.lit.s.size<=1099511627776
 k:c.lit.keys.length + c.lit.ks.length<=1099511627776
theorem NP {ND:List Nd} {L:Nat} (bF:∀ n∈ND,dg L ND.length n) {u:Val} {i:Int} (hw:lW ND u i=true):∃ d,cu ND i=some d/\(u.k=4->0<=u.n/\u.n < d.af.length)/\(u.k=8->0<=u.n/\u.n < d.aw.length)/\(u.k=7->u.ks.length<=d.aw.length)/\(u.k=5∨u.k=6->0 < d.aw.length)/\(u.k < 5∨9<=u.k->u.ks=[]):=by
 obtain ⟨d,hd,hc⟩:=DO hw;have hN:=bF d (mG (cC hd).2);refine ⟨d,hd,?_⟩;rcases hc with ⟨h1,h2,h3⟩ | ⟨h1,h2,h3,h4⟩ | ⟨h1,h2,h3,h4⟩
 ·exact ⟨fun h=>by omega,fun h=>by omega,fun h=>by omega,fun h=>by omega,fun _=>h3⟩
 ·exact ⟨h4,fun h=>by omega,fun h=>by omega,fun h=>by omega,fun _=>h3⟩
 ·refine ⟨fun h=>by omega,fun h=>shell_8 h3 (by omega),fun h=>?_,fun h=>?_,fun h=>?_⟩
  ·have:d.ag=7:=by omega
   grind [shellF]
  ·obtain ⟨e,he,_⟩:=hN.one (by omega);rw [he];simp
  ·have:=hN.k8;omega
abbrev NQ (PC:List DV) (c:fU) (i:Int) (e:Ed) (u:Val) (j:Nat):St:=
 ⟨[pz 0 PC,aD 4 0,aD 5 1,aZ 15 3 (cF c.p),au 16 ((cF c.p).length),au 17 j],[dPl i e u,eL c],[]⟩
set_option maxHeartbeats 2000000 in
theorem DR {S:Sch} {ND:List Nd} {PC:List DV} (hP:jX S ND PC) (o8:∀ n∈ND,qw n) (c:fU) (hc:H8 c) (i:Int) (e:Ed) (u:Val) (hu:u.wt<=1099511627776) (Ec:rngW u) (hw:lW ND u i=true) (he : -9223372036854775808 < e.cn/\e.cn<=9223372036854775807) :
  EvP prog 46 [.pt PC 0,.agg (dPl i e u),.agg (eL c)] (.v (.int .i64 (walkQ ND c c.p i e u))):=by
 have kv:=fun i d e u (hd:ND[i]? = some d) h4 h8 hu U7 he=>Gx hP i d hd e u c h4 h8 hu U7 he hc.l;have Se:walkQ ND c (c.p.drop 0) i e u=walkQ ND c c.p i e u:=rfl;generalize walkQ ND c c.p i e u=F at Se ⊢;have ky:=hc.p;have cw:=iA c.p;obtain ⟨p,op,rk,ra,rn,rs,aJ,dC⟩:=c;obtain ⟨uk,un,us,ul⟩:=u;obtain ⟨en,eb,ea,et,el,ew,dM,cY,qC,gv⟩:=e;have ky:p.length<=1099511627776:=ky;refine eG 77 [.tmp 6] func46 rfl ntmps46 rfl fun _ _ _ _=>?_
 refine aP (fun j st=>∃ (q:Nat) (i:Int) (e:Ed) (u:Val),st=NQ PC ⟨p,op,.mk rk ra rn rs aJ dC⟩ i e u q/\q<=p.length/\walkQ ND ⟨p,op,.mk rk ra rn rs aJ dC⟩ (p.drop q) i e u=F/\u.wt<=1099511627776/\rngW u/\lW ND u i=true/\(-9223372036854775808 < e.cn/\e.cn<=9223372036854775807)/\j=p.length - q) p.length
  (NQ PC ⟨p,op,.mk rk ra rn rs aJ dC⟩ i ⟨en,eb,ea,et,el,ew,dM,cY,qC,gv⟩ (.mk uk un us ul) 0) (wkB 2 kZ gR) ⟨0,_,_,_,rfl,by omega,Se,hu,Ec,hw,he,by omega⟩ ?_
 clear hw Se Ec hu he i uk un us ul en eb ea et el ew dM cY qC gv;rintro _ st ⟨q,i,e,u,rfl,hq,hF,hu,Ec,hw,he,rfl⟩;obtain ⟨d,hd,w4,w8,w7,w5,wl⟩:=NP hP.ok hw;obtain ⟨Ka,Oj⟩:=cC hd;have hnd:=hP.ap i.toNat d Oj;rw [show ((i.toNat:Nat):Int)=i by omega] at hnd;refine br ?_ ?_<;>intro hL
 ·have av:q < p.length:=sV cw hL;obtain ⟨s,hs⟩:=gX av
  have zl:p.drop q=s :: p.drop (q + 1):=by
   obtain ⟨h1,h2⟩:=List.getElem?_eq_some_iff.1 hs;rw [List.drop_eq_getElem_cons h1,h2]
  have F1:u.ks.length<=1099511627776:=by
   have h2:=dV u.ks;have hw:u.wt=64 + u.s.size + iL u.ks:=by obtain ⟨_,_,_,_⟩:=u;rfl
   omega
  have bi:=DM d u s w7 w8 w5 F1
  have hS:oW d u s=(match bc (se d u s) u.ks.length with
   | none=>.tup [.agg (jv fg),.v (.int .i64 0),.v (.bool false)]
   | some j=>.tup [.agg (jv ((d.aw[tB u j]?).getD fg)),.v (.int .i64 j),.v (.bool true)]):=rfl
  rw [zl,walkQ,hd] at hF;simp only at hF
  have AZ:∀ j a,u.ks[j]? = some a->∃ x,d.aw[tB u j]? = some x/\lW ND a x.to=true/\(-9223372036854775808 < x.cn/\x.cn<=9223372036854775807):=fun j a ha=>by
   obtain ⟨h5,hk,Ox,x,hx,hb,hwa⟩:=Ba hP.ok hw hd ha
   have G3:d.aw[tB u j]? = some x:=by
    unfold dW at hx;unfold tB;rw [hk];split
    ·rename_i c;rw [ai c] at hx;exact hx
    ·rename_i c;rw [ah c] at hx;split
     ·rename_i c2;rw [ai c2] at hx;exact hx
     ·rename_i c2;rw [ah c2] at hx;exact hx
   have hN:=hP.ok d (mG Oj);have hE:=hN.fZ x (mG G3);have hr:=o8 d (mG Oj);have Bq:=hE.cn;have Km:=hE.ck;have:=(hr.2.2 x (mG G3));unfold o7 at this;exact ⟨x,G3,hwa,by omega,by omega⟩
  have bL:∀ a∈u.ks,a.wt<=1099511627776:=fun a ha=>by
   have h2:=gH ha;have hw:u.wt=64 + u.s.size + iL u.ks:=by obtain ⟨_,_,_,_⟩:=u;rfl
   omega
  have Jf:∀ a∈u.ks,rngW a:=fun a ha=>jz (qv Ec) ha;obtain ⟨ag,aE,lo,hi,most,af,es⟩:=d;obtain ⟨sk,sn,ss⟩:=s;have Pk:=eH hs;clear w4 w8 w7 w5 wl kv hd Oj hw Ec hu hS;by_cases c9:u.k=9
  ·rw [ai c9] at hF;obtain ⟨uk,un,us,ul⟩:=u;obtain ⟨en,eb,ea,et,el,ew,dM,cY,qC,gv⟩:=e;have c9:uk=9:=c9;subst c9;refine ⟨_,⟨by omega,Pk⟩,?_⟩;rw [<- hF];exact (rfl:_=_)
  rw [ah c9] at hF;by_cases Oy:u.k=12/\sk=2/\sn < u.n
  ·rw [ai Oy] at hF;obtain ⟨uk,un,us,ul⟩:=u;obtain ⟨en,eb,ea,et,el,ew,dM,cY,qC,gv⟩:=e;obtain ⟨c1,rfl,c3⟩:=Oy;have c1:uk=12:=c1;have c3:sn < un:=c3;subst c1;refine ⟨_,⟨by omega,Pk⟩,?_⟩;refine br (fun g=>?_) (fun g=>absurd c3 (of_decide_eq_false g));rw [<- hF];exact (rfl:_=_)
  rw [ah Oy] at hF;have QC:∀ R,oW ⟨ag,aE,lo,hi,most,af,es⟩ u ⟨sk,sn,ss⟩=R->EvP prog 95 [.agg (iS ⟨ag,aE,lo,hi,most,af,es⟩),.agg (bD u),.agg (jY ⟨sk,sn,ss⟩)] R:=fun R h=>h ▸ bi;clear bi
  cases hf:bc (se ⟨ag,aE,lo,hi,most,af,es⟩ u ⟨sk,sn,ss⟩) u.ks.length with
  | none=>
   rw [hf] at hF;have bi:=QC (.tup [.agg (jv fg),.v (.int .i64 0),.v (.bool false)]) (by rw [oW,hf]);clear QC hf;obtain ⟨uk,un,us,ul⟩:=u;obtain ⟨en,eb,ea,et,el,ew,dM,cY,qC,gv⟩:=e;refine ⟨_,⟨by omega,Pk⟩,?_⟩;refine br (fun g=>absurd (of_decide_eq_true g) c9) (fun g=>?_);refine br (fun g=>(Oy ?_).elim) (fun g=>?_)
   ·rw [pickB_and,pickB_and] at g;simp only [aO,decide_eq_true_eq] at g;exact ⟨g.1.1,g.1.2,g.2⟩
   refine cP zY hnd ?_;refine cP W3 bi ?_;rw [<- hF];exact (rfl:_=_)
  | some j=>
   obtain ⟨hj,_,_⟩:=cM hf;obtain ⟨a,ha⟩:∃ a,u.ks[j]? = some a:=⟨_,gE hj⟩;obtain ⟨x,hx,hwa,hxc⟩:=AZ j a ha;have ham:=mG ha;have haw:=bL a ham;have har:=Jf a ham;rw [hf] at hF;simp only at hF;rw [ha,hx] at hF;simp only at hF;have bi:=QC (.tup [.agg (jv x),.v (.int .i64 j),.v (.bool true)]) (by rw [oW,hf];simp only;rw [hx];rfl);clear QC hf AZ bL Jf;obtain ⟨uk,un,us,ul⟩:=u;have Ky:=eF (show ul[j]? = some a from ha);obtain ⟨en,eb,ea,et,el,ew,dM,cY,qC,gv⟩:=e;obtain ⟨xn,xb,xa,xt,xl,xw,xck,xcn,xsn,xca⟩:=x;obtain ⟨ak,an,as',al⟩:=a;refine ⟨_,⟨by omega,Pk⟩,?_⟩;refine br (fun g=>absurd (of_decide_eq_true g) c9) (fun g=>?_);refine br (fun g=>(Oy ?_).elim) (fun g=>?_)
   ·rw [pickB_and,pickB_and] at g;simp only [aO,decide_eq_true_eq] at g;exact ⟨g.1.1,g.1.2,g.2⟩
   refine cP zY hnd ?_;refine cP W3 bi ?_;refine dS ?_;refine ⟨_,⟨by omega,Ky⟩,?_⟩;exact ⟨NQ PC ⟨p,op,.mk rk ra rn rs aJ dC⟩ xt ⟨xn,xb,xa,xt,xl,xw,xck,xcn,xsn,xca⟩ (.mk ak an as' al) (q + 1),(wkB 2 (mw (nxt av (by omega))) (wB1 (nxt av (by omega)))),p.length - (q + 1),by omega,q + 1,_,_,_,rfl,by omega,hF,haw,har,hwa,hxc,rfl⟩
 ·have hge:p.length<=q:=sV cw hL;rw [List.drop_eq_nil_of_le hge,walkQ,hd] at hF;have hF:xZ d e u ⟨p,op,.mk rk ra rn rs aJ dC⟩=F:=hF
  have hE:=kv i.toNat d e u Oj w4 w8 (A8 Ec) (by
   have hw:u.wt=64 + u.s.size + iL u.ks:=by obtain ⟨_,_,_,_⟩:=u;rfl
   omega) he
  rw [show ((i.toNat:Nat):Int)=i by omega,hF] at hE;clear hF kv hnd;obtain ⟨uk,un,us,ul⟩:=u;obtain ⟨en,eb,ea,et,el,ew,dM,cY,qC,gv⟩:=e;refine cP en96 hE ?_;exact (rfl:_=_)
theorem s7 {S:Sch} {ND:List Nd} {PC LC:List DV} (hP:jX S ND PC) (lQ:EvP prog 15 [.pt PC 0] (.pt LC 0)) (hR:F6 S.ae.length (aV S) (az S.ae) LC) (o8:∀ n∈ND,qw n) (bL:∀ n∈ND,n.aw.length<=1099511627776) (rt:Nat) (Gd:dL S=rt) (fy:rt < ND.length) (o:Int) (c:fU) (hc:H8 c) (u:Val) (hu:u.wt<=1099511627776) (Ec:rngW u) :
  EvP prog 12 [.pt PC 0,.v (.int .i64 o),.agg (bD u),.agg (eL c)] (.v (.int .i64 (nc ND (aV S) S.ae.length rt o u c))):=by
 have h1:=A5 c hc.s hc.l hc.k;have h2:=DK hP lQ hR o8 bL rt Gd fy o u hu Ec;have h3:=Gc hP c.p hc.p (fun s h=>by have:=hc.s s h;omega) rt Gd fy;have h4:=fun hw=>DR hP o8 c hc rt fg u hu Ec hw (by decide);have hw:=fun h=>@NO ND (aV S) S.ae.length hP.ok rt o u h;have fD:=hP.root;rw [Gd] at fD;have hF:nc ND (aV S) S.ae.length rt o u c=if gK c=true/\nP ND (aV S) S.ae.length rt o u=true/\(walkV ND (aV S) S.ae.length c.p rt (iM (aV S) S.ae.length)).isSome=true then walkQ ND c c.p rt fg u else 0:=rfl
 generalize nc ND (aV S) S.ae.length rt o u c=F at hF ⊢;generalize walkQ ND c c.p rt fg u=Q at h4 hF;generalize gK c=b1 at h1 hF;generalize nP ND (aV S) S.ae.length rt o u=b2 at h2 hw hF;generalize walkV ND (aV S) S.ae.length c.p rt (iM (aV S) S.ae.length)=W at h3 hF;obtain ⟨p,op,rk,ra,rn,rs,aJ,dC⟩:=c;obtain ⟨uk,un,us,ul⟩:=u
 cases b1 with
 | false=>
  rw [ah (by simp)] at hF;subst hF;refine eG 39 [.tmp 8] func12 rfl ntmps12 rfl fun _ _ _ _=>?_;refine cP Pb h1 ?_;exact (rfl:_=_)
 | true=>
  cases b2 with
  | false=>
   rw [ah (by simp)] at hF;subst hF;refine eG 39 [.tmp 8] func12 rfl ntmps12 rfl fun _ _ _ _=>?_;refine cP Pb h1 ?_;refine cP Tz h2 ?_;exact (rfl:_=_)
  | true=>
   cases W with
   | none=>
    rw [ah (by simp)] at hF;subst hF;refine eG 39 [.tmp 8] func12 rfl ntmps12 rfl fun _ _ _ _=>?_;refine cP Pb h1 ?_;refine cP Tz h2 ?_;refine cP WM h3 ?_;exact (rfl:_=_)
   | some jb=>
    obtain ⟨j,b⟩:=jb;rw [ai (by simp)] at hF;subst hF;have h4:=h4 (hw rfl);refine eG 39 [.tmp 8] func12 rfl ntmps12 rfl fun _ _ _ _=>?_;refine cP Pb h1 ?_;refine cP Tz h2 ?_;refine cP WM h3 ?_;refine dI ?_;refine cD K8 fD ?_;refine cD en46 h4 ?_;exact (rfl:_=_)
abbrev Gy (PC:List DV) (o:Int) (u:Val) (l:List fU) (out:Int) (e:Nat):St:=
 ⟨[pz 0 PC,au 1 o,aD 6 0,au 9 out,aZ 12 8 (fL l),au 13 ((fL l).length),au 14 e],[bD u],[]⟩
theorem xe (PC:List DV) (o:Int) (u:Val) (l:List fU) (hl:l.length<=1099511627776) (E:fU->Int) (hE:∀ c∈l,EvP prog 12 [.pt PC 0,.v (.int .i64 o),.agg (bD u),.agg (eL c)] (.v (.int .i64 (E c)))) :
  EvP prog 13 [.pt PC 0,.v (.int .i64 o),.agg (bD u),.sl 8 (fL l) none] (.v (.int .i64 (allQ E l 1))):=by
 have cw:=r8 l;have Se:allQ E (l.drop 0) 1=allQ E l 1:=rfl;generalize allQ E l 1=F at Se ⊢;obtain ⟨uk,un,us,ul⟩:=u;refine eG 29 [.tmp 8] func13 rfl ntmps13 rfl fun _ _ _ _=>?_;refine lI (fun j st=>∃ (e:Nat) (out:Int),st=Gy PC o (.mk uk un us ul) l out e/\e<=l.length/\allQ E (l.drop e) out=F/\j=l.length - e) ⟨0,1,rfl,by omega,Se,rfl⟩ (wkB 1 kZ gR) ?_;rintro _ st ⟨e,out,rfl,he,hF,rfl⟩;refine br ?_ ?_<;>intro hL
 ·have av:e < l.length:=sV cw hL;obtain ⟨c,hc⟩:=gX av
  have zl:l.drop e=c :: l.drop (e + 1):=by
   obtain ⟨h1,h2⟩:=List.getElem?_eq_some_iff.1 hc;rw [List.drop_eq_getElem_cons h1,h2]
  have hEc:=hE c (mG hc);rw [zl,allQ] at hF;generalize E c=z at hEc hF;have hcg:=sa hc;obtain ⟨p,op,rk,ra,rn,rs,aJ,dC⟩:=c;refine ⟨_,⟨by omega,hcg⟩,?_⟩;refine cP O6 hEc ?_;refine br ?_ ?_<;>intro g
  ·rw [ai (of_decide_eq_true g)] at hF;subst hF;exact (rfl:_=_)
  rw [ah (of_decide_eq_false g)] at hF;refine br ?_ ?_<;>intro g2
  ·rw [ai (of_decide_eq_true g2)] at hF;exact ⟨Gy PC o (.mk uk un us ul) l 2 (e + 1),(wkB 1 (mw (nxt av (by omega))) (wB1 (nxt av (by omega)))),l.length - (e + 1),by omega,e + 1,_,rfl,by omega,hF,rfl⟩
  ·rw [ah (of_decide_eq_false g2)] at hF;exact ⟨Gy PC o (.mk uk un us ul) l out (e + 1),(wkB 1 (mw (nxt av (by omega))) (wB1 (nxt av (by omega)))),l.length - (e + 1),by omega,e + 1,_,rfl,by omega,hF,rfl⟩
 ·have hge:l.length<=e:=sV cw hL;rw [List.drop_eq_nil_of_le hge,allQ] at hF;subst hF;exact (rfl:_=_)
def mi (n:Int) (c:fU):Bool:=decide (c.lit.k=2) && (((decide (c.op=1) && decide (n=c.lit.n)) || (decide (c.op=2) && decide (n < c.lit.n))) || (decide (c.op=3) && decide (c.lit.n < n)))
def flB (lo hi:Int) (c:fU):Bool:=decide (mi lo c=mi hi c) && ((((!decide (c.op=1) || decide (lo=hi)) || !decide (c.lit.k=2)) || decide (c.lit.n < lo)) || decide (hi < c.lit.n))
theorem QD (lo hi:Int) (h:lo<=hi) (c:fU):nQ lo hi c=if flB lo hi c=true then ee (mi lo c) else 2:=by
 obtain ⟨p,op,rk,ra,rn,rs,aJ,dC⟩:=c
 have h1:nQ lo hi ⟨p,op,.mk rk ra rn rs aJ dC⟩=(if op=1 then (if rk≠2∨(rn < lo∨hi < rn) then 0 else if lo=hi/\lo=rn then 1 else 2)
  else if op=2 then (if rk≠2∨rn<=lo then 0 else if hi < rn then 1 else 2)
  else if op=3 then (if rk≠2∨hi<=rn then 0 else if rn < lo then 1 else 2) else 0):=rfl
 have h2:∀ n,mi n ⟨p,op,.mk rk ra rn rs aJ dC⟩=(decide (rk=2) && (((decide (op=1) && decide (n=rn)) || (decide (op=2) && decide (n < rn))) || (decide (op=3) && decide (rn < n)))):=fun _=>rfl;have h3:flB lo hi ⟨p,op,.mk rk ra rn rs aJ dC⟩=(decide (mi lo ⟨p,op,.mk rk ra rn rs aJ dC⟩=mi hi ⟨p,op,.mk rk ra rn rs aJ dC⟩) && ((((!decide (op=1) || decide (lo=hi)) || !decide (rk=2)) || decide (rn < lo)) || decide (hi < rn))):=rfl;rw [h3,h1,h2,h2];unfold ee;by_cases hk:rk=2
 ·by_cases o1:op=1
  ·subst hk o1;simp only [decide_true,Bool.true_and,show ((1:Int)=2)=False by simp,show ((1:Int)=3)=False by simp,decide_false,Bool.false_and,Bool.or_false,if_true,ne_eq,not_true_eq_false,false_or,Bool.not_true,Bool.false_or];by_cases c1:rn < lo
   ·grind
   by_cases c2:hi < rn
   ·grind
   by_cases c3:lo=hi<;>grind
  ·by_cases o2:op=2
   ·subst hk o2
    grind
   ·by_cases o3:op=3
    ·subst hk o3
     grind
    ·simp [o1,o2,o3]
 ·simp [hk]
def zu (d:Nd) (u:Val) (c:fU):Bool:=
 if u.k=2 then mi u.n c
 else if u.k=5 then decide (c.op=4) && (decide (c.lit.k=2) && decide (c.lit.n=u.ks.length))
 else if c.op≠1 then false
 else if u.k=3 then decide (c.lit.k=3) && decide (c.lit.s=u.s)
 else decide (c.lit.k=1) && (!decide (wordQ d u=aq) && decide (c.lit.s=wordQ d u))
theorem QE (d:Nd) (u:Val) (c:fU) (hn:c.lit.k=1->c.lit.s≠aq):j1 d u c=ee (zu d u c):=by
 have h5:u.k=5->wordQ d u=aq:=fun h=>by
  obtain ⟨uk,un,us,ul⟩:=u;have h:uk=5:=h;subst h;rfl
 have hnn:nQ u.n u.n c=ee (mi u.n c):=by
  obtain ⟨p,op,rk,ra,rn,rs,aJ,dC⟩:=c
  have h1:nQ u.n u.n ⟨p,op,.mk rk ra rn rs aJ dC⟩=(if op=1 then (if rk≠2∨(rn < u.n∨u.n < rn) then 0 else if u.n=u.n/\u.n=rn then 1 else 2)
   else if op=2 then (if rk≠2∨rn<=u.n then 0 else if u.n < rn then 1 else 2)
   else if op=3 then (if rk≠2∨u.n<=rn then 0 else if rn < u.n then 1 else 2) else 0):=rfl
  have h2:mi u.n ⟨p,op,.mk rk ra rn rs aJ dC⟩=(decide (rk=2) && (((decide (op=1) && decide (u.n=rn)) || (decide (op=2) && decide (u.n < rn))) || (decide (op=3) && decide (rn < u.n)))):=rfl;rw [h1,h2];generalize u.n=n;unfold ee;by_cases hk:rk=2
  ·by_cases o1:op=1
   ·subst hk o1;grind
   ·by_cases o2:op=2
    ·subst hk o2;grind
    ·by_cases o3:op=3
     ·subst hk o3;grind
     ·simp [o1,o2,o3]
  ·simp [hk]
 unfold j1 zu;rw [hnn];generalize wordQ d u=W at h5 ⊢;generalize c.lit.s=ls at hn ⊢;split
 ·rfl
 ·rename_i h2;by_cases c5:u.k=5
  ·rw [ai c5,h5 c5];by_cases o4:c.op=4
   ·rw [ai o4,o4,c5];simp
   ·rw [ah o4,decide_eq_false o4,Bool.false_and];split
    ·rfl
    ·rw [ah (by omega)];by_cases c1:c.lit.k=1
     ·have:=hn c1;rw [decide_eq_false (show ¬ aq=ls from fun h=>this h.symm),Bool.and_false]
     ·rw [decide_eq_false c1,Bool.false_and]
  ·rw [ah c5,decide_eq_false c5,Bool.false_and];by_cases o4:c.op=4
   ·rw [ai o4,ai (by omega)]
   ·rw [ah o4];split
    ·rfl
    ·split
     ·rfl
     ·by_cases c1:c.lit.k=1
      ·have:=hn c1;rw [decide_eq_true c1,Bool.true_and,Bool.true_and];by_cases hw:W=aq
       ·rw [decide_eq_true hw,Bool.not_true,Bool.false_and,hw,decide_eq_false (fun h=>this h.symm)]
       ·rw [decide_eq_false hw,Bool.not_false,Bool.true_and];congr 1;simp only [decide_eq_decide];exact eq_comm
      ·rw [decide_eq_false c1,Bool.false_and,Bool.false_and]
theorem U8 (d:Nd) (u:Val) (s:dX) (hk:u.k=d.ag) (h5:5<=d.ag/\d.ag<=8) (h7:d.ag=7->u.ks.length<=d.aw.length) (h8:d.ag=8->0<=u.n/\u.n < d.aw.length) (hs:cd s=true):JN d u s=bc (se d u s) u.ks.length:=by
 unfold JN bc
 have key:∀ e∈List.range u.ks.length,nO (stpR d u e) s=se d u s e:=fun e he=>by
  have he:=List.mem_range.1 he;obtain ⟨sk,sn,ss⟩:=s;unfold nO stpR se;unfold cd at hs;simp only at hs ⊢;rw [hk];by_cases c5:d.ag=5
  ·rw [ai c5,ah (by omega),ah (by omega),ai c5];simp only;by_cases k2:sk=2
   ·subst k2;rw [ah (by omega),ai rfl,aO] at hs;have h2:ss=aq:=of_decide_eq_true hs.2;subst h2;simp [eq_comm]
   ·rw [decide_eq_false (fun h=>k2 h.symm),decide_eq_false k2,Bool.false_and,Bool.false_and]
  rw [ah c5];by_cases c6:d.ag=6
  ·rw [ai c6,ah (by omega),ah (by omega),ah c5,ai c6];simp only;by_cases k2:sk=4
   ·subst k2;rw [ah (by omega),ah (by omega),ai (by omega),aO] at hs;have h1:sn=0:=of_decide_eq_true hs.1;have h2:ss=aq:=of_decide_eq_true hs.2;subst h1 h2;simp
   ·rw [decide_eq_false (fun h=>k2 h.symm),decide_eq_false k2,Bool.false_and]
  rw [ah c6];by_cases c7:d.ag=7
  ·rw [ai c7,ai c7];obtain ⟨x,hx⟩:∃ x,d.aw[e]? = some x:=⟨_,gE (by have:=h7 c7;omega)⟩;rw [hx];simp only;by_cases k2:sk=1
   ·subst k2;rw [ai (by omega),aO] at hs;have h1:sn=0:=of_decide_eq_true hs.1;subst h1;simp
   ·rw [decide_eq_false (fun h=>k2 h.symm),decide_eq_false k2,Bool.false_and,Bool.false_and]
  ·have c8:d.ag=8:=by omega
   rw [ah c7,ah c7,ai c8];obtain ⟨x,hx⟩:∃ x,d.aw[u.n.toNat]? = some x:=⟨_,gE (by have:=h8 c8;omega)⟩;rw [hx];simp only;by_cases k2:sk=5
   ·subst k2;rw [ai (by omega),aO] at hs;have h1:sn=0:=of_decide_eq_true hs.1;subst h1;simp
   ·rw [decide_eq_false (fun h=>k2 h.symm),decide_eq_false k2,Bool.false_and,Bool.false_and]
 generalize hl:List.range u.ks.length=l at key ⊢;clear hl
 induction l with
 | nil=>rfl
 | cons a r ih=>
  rw [List.find?_cons,List.find?_cons,key a (by simp),ih fun e he=>key e (by simp [he])]
structure U9 (e:Ed) (d:Nd) (n:Int):Prop where
 cn:1<=e.cn
 hi:n<=d.hi
 lh:d.lo<=d.hi
 lo:d.lo<=n + (e.cn - 1)
theorem may_10 {L N:Nat} {e:Ed} (he:Qf L N e) {d:Nd} (hd:dg L N d) (hr:o7 d.lo/\o7 d.hi) {v:Val} (hv:o7 v.n) (h:fK e d v=true) (kA:v.k=10):U9 e d v.n:=by
 by_cases c1:e.ck=1/\d.ag=2
 ·have Bq:=he.cn.2.1 c1.1;have hlh:=hd.ZF c1.2;rw [mayF_1 c1] at h;split at h
  ·rename_i g;rw [cE.1 g] at kA;exact absurd kA (by simp [Val.k])
  ·simp only [aO,decide_eq_true_eq,Bool.or_eq_true,Bool.not_eq_true'] at h;obtain ⟨⟨⟨_,h3⟩,h4⟩,h5⟩:=h;refine ⟨Bq,?_,hlh,?_⟩
   ·have h6:=(wY Bq h3).1;have:=Int.emod_nonneg d.hi (show e.cn≠0 by omega);omega
   ·have h7:=Int.emod_nonneg d.lo (show e.cn≠0 by omega);have h8:=Int.emod_lt_of_pos d.lo (show 0 < e.cn by omega);rcases h5 with h5 | h5
    ·rw [wZ Bq] at h5;have:=hv.1;split at h5
     ·omega
     ·cases h5
    ·by_cases g:(aY d.lo e.cn).2=true
     ·have h6:=(wY Bq g).1;omega
     ·rw [wZ Bq] at g;have:=hv.1;split at g
      ·omega
      ·exact absurd rfl g
 ·by_cases c2:e.ck=2/\d.ag=3
  ·unfold fK at h;rw [ah c1,ai c2] at h;simp only [aO] at h;rw [cE.1 h.1.1] at kA;exact absurd kA (by simp [Val.k])
  ·unfold fK at h;rw [ah c1,ah c2] at h;split at h
   ·simp only [aO] at h;rw [cE.1 h.1.1] at kA;exact absurd kA (by simp [Val.k])
   ·rw [cE.1 h] at kA;exact absurd kA (by simp [Val.k])
theorem oY (n:Int) (c:fU):EvP prog 184 [.v (.int .i64 n),.agg (eL c)] (.v (.bool (mi n c))):=by
 obtain ⟨p,op,rk,ra,rn,rs,aJ,dC⟩:=c;have hF:mi n ⟨p,op,.mk rk ra rn rs aJ dC⟩=(decide (rk=2) && (((decide (op=1) && decide (n=rn)) || (decide (op=2) && decide (n < rn))) || (decide (op=3) && decide (rn < n)))):=rfl;generalize mi n ⟨p,op,.mk rk ra rn rs aJ dC⟩=F at hF ⊢;refine eG 43 [.tmp 4] func184 rfl ntmps184 rfl fun _ _ _ _=>?_;refine br ?_ ?_<;>intro g
 ·have g:¬ rk=2:=sU g;rw [decide_eq_false g,Bool.false_and] at hF;rw [hF];exact (rfl:_=_)
 ·have g:rk=2:=sU g;rw [decide_eq_true g,Bool.true_and] at hF;rw [hF];refine congrArg (fun z=>DV.v (Value.bool z)) ?_;simp only [pickB_and,aj]
theorem xf (b:Bool):EvP prog 140 [.v (.bool b)] (.v (.int .i64 (ee b))):=by
 cases b
 all_goals
  refine eG 4 [.tmp 2] func140 rfl ntmps140 rfl fun _ _ _ _=>?_;exact (rfl:_=_)
theorem JR (lo hi:Int) (h:lo<=hi) (c:fU):EvP prog 138 [.v (.int .i64 lo),.v (.int .i64 hi),.agg (eL c)] (.v (.int .i64 (nQ lo hi c))):=by
 have h1:=oY lo c;have h2:=oY hi c;have hF:=QD lo hi h c;generalize nQ lo hi c=F at hF ⊢;have hB:flB lo hi c=(decide (mi lo c=mi hi c) && ((((!decide (c.op=1) || decide (lo=hi)) || !decide (c.lit.k=2)) || decide (c.lit.n < lo)) || decide (hi < c.lit.n))):=rfl;generalize flB lo hi c=B at hF hB;generalize mi lo c=b1 at *;generalize mi hi c=b2 at *;have h3:=xf b1;have Vn:(b1 == b2)=decide (b1=b2):=by cases b1<;>cases b2<;>rfl
 obtain ⟨p,op,rk,ra,rn,rs,aJ,dC⟩:=c;have hB:B=(decide (b1=b2) && ((((!decide (op=1) || decide (lo=hi)) || !decide (rk=2)) || decide (rn < lo)) || decide (hi < rn))):=hB;refine eG 48 [.tmp 6] func138 rfl ntmps138 rfl fun _ _ _ _=>?_;refine dI ?_;refine cD G9 h1 ?_;refine cD G9 h2 ?_;refine br ?_ ?_<;>intro g
 ·have g2:B=true:=by
   rw [hB,<- Vn];simpa only [pickB_and,aj] using g
  rw [ai g2] at hF;rw [hF];refine cP G9 h1 ?_;refine cP G6 h3 ?_;exact (rfl:_=_)
 ·have g2:¬ B=true:=by
   rw [hB,<- Vn];simp only [pickB_and,aj] at g;rw [g];decide
  rw [ah g2] at hF;rw [hF];exact (rfl:_=_)
theorem NR {l:List UInt8} (h:l ≠ []):headL 1 l=l.take (jk l):=by
 have hD:headL 1 l=l.take (jk l) ++ headL 0 (l.drop (jk l)):=rfl;rw [hD];simp [headL]
theorem zw:∀ (k:Nat) (s:ByteArray),s.size<=k->s.size<=1099511627776->EvP prog 139 [.v (.string s)] (.v (.int .i64 (cntU s.size (tx s):Nat)))
 | k,s,hk,hs=>by
  by_cases he:s=⟨#[]⟩
  ·subst he;refine eG 12 [.tmp 2] func139 rfl ntmps139 rfl fun _ _ _ _=>?_;exact (rfl:_=_)
  have bg:tx s ≠ []:=fun h=>he ((zk s).2 h);obtain ⟨h1,h2⟩:=lT bg;rw [bR] at h2;obtain ⟨k,rfl⟩:∃ m,k=m + 1:=⟨k - 1,by omega⟩;have hh:=kb 1 s hs 1 (by decide) rfl;have zl:=qu s (jk (tx s)) hs;rw [NR bg] at hh
  have bL:(ba ((tx s).take (jk (tx s)))).size=jk (tx s):=by
   rw [Yq,ez,bR];omega
  have bi:=zs (k:=s.size) bg (by rw [bR];omega);have cw:(s.extract (jk (tx s)) (s.size:Int).toNat).size=s.size - jk (tx s):=by rw [<- bR,qu _ _ hs,List.length_drop,bR]
  have ih:=zw k (s.extract (jk (tx s)) (s.size:Int).toNat) (by omega) (by omega);rw [zl,cw,sf (s.size - jk (tx s)) s.size _ (by rw [List.length_drop,bR];omega) (by rw [List.length_drop,bR];omega)] at ih
  have fN:cntU s.size ((tx s).drop (jk (tx s)))<=1099511627776:=by
   have key:∀ (k:Nat) (l:List UInt8),cntU k l<=k:=fun k=>by
    induction k with
    | zero=>intro l;simp [cntU]
    | succ k ih=>
     intro l;rw [cntU];split
     ·omega
     ·have:=ih (l.drop (jk l));omega
   have:=key s.size ((tx s).drop (jk (tx s)));omega
  rw [bi];generalize cntU s.size ((tx s).drop (jk (tx s)))=C at ih fN ⊢;generalize (tx s).take (jk (tx s))=hd at hh bL;generalize jk (tx s)=n at ih bL h1 h2 zl;subst bL;refine eG 12 [.tmp 2] func139 rfl ntmps139 rfl fun _ _ _ _=>?_;refine br (fun c=>absurd c (sU he)) (fun _=>?_);refine cP G7 hh ?_;refine ⟨⟨by omega,by omega,by omega⟩,?_⟩;refine cP Rh ih ?_;refine congrArg (fun z=>DV.v (Value.int .i64 z)) ?_;rw [wrap64 (by omega) (by omega)];omega
theorem Bb (d:Nd) (u:Val) (c:fU) (h4:u.k=4->0<=u.n/\u.n < d.af.length) (h8:u.k=8->0<=u.n/\u.n < d.aw.length) (h6:u.k=6->u.ks.length<=1) :
  EvP prog 142 [.agg (iS d),.agg (bD u),.agg (eL c)] (.v (.bool (zu d u c))):=by
 have H6:=oY u.n c;obtain ⟨ag,aE,lo,hi,most,af,es⟩:=d;obtain ⟨uk,un,us,ul⟩:=u;obtain ⟨p,op,rk,ra,rn,rs,aJ,dC⟩:=c;obtain ⟨W,hW⟩:∃ W,W=wordQ ⟨ag,aE,lo,hi,most,af,es⟩ (.mk uk un us ul):=⟨_,rfl⟩
 have hF:zu ⟨ag,aE,lo,hi,most,af,es⟩ (.mk uk un us ul) ⟨p,op,.mk rk ra rn rs aJ dC⟩=(if uk=2 then mi un ⟨p,op,.mk rk ra rn rs aJ dC⟩
  else if uk=5 then decide (op=4) && (decide (rk=2) && decide (rn=ul.length))
  else if op≠1 then false
  else if uk=3 then decide (rk=3) && decide (rs=us)
  else decide (rk=1) && (!decide (W=aq) && decide (rs=W))):=by rw [hW];all_goals rfl
 have s8:wordQ ⟨ag,aE,lo,hi,most,af,es⟩ (.mk uk un us ul)=(if uk=1 then (if un=1 then ba [116,114,117,101] else ba [102,97,108,115,101])
  else if uk=4 then (af[un.toNat]?).getD aq
  else if uk=8 then (match es[un.toNat]? with | some e=>e.name | none=>aq)
  else if uk=6 then (if ul=[] then ba [110,111,110,101] else ba [115,111,109,101])
  else aq):=rfl
 rw [<- hW] at s8;generalize zu ⟨ag,aE,lo,hi,most,af,es⟩ (.mk uk un us ul) ⟨p,op,.mk rk ra rn rs aJ dC⟩=F at hF ⊢;simp only [Val.k,Val.n,Val.ks] at h4 h8 h6 H6;generalize mi un ⟨p,op,.mk rk ra rn rs aJ dC⟩=Q at H6 hF;clear hW;have H3:=bK ul
 have last:∀ w:ByteArray,W=w->pickB (pickB (decide (rk=1)) (!decide (w=⟨#[]⟩)) false) (decide (rs=w)) false=(decide (rk=1) && (!decide (W=aq) && decide (rs=W))):=fun w h=>by
  rw [h,pickB_and,pickB_and,Bool.and_assoc];rfl
 by_cases k2:uk=2
 ·subst k2;rw [ai rfl] at hF;rw [hF];refine eG 101 [.tmp 6] func142 rfl ntmps142 rfl fun _ _ _ _=>?_;refine cP G9 H6 ?_;exact (rfl:_=_)
 rw [ah k2] at hF;by_cases k5:uk=5
 ·subst k5;rw [ai rfl] at hF;rw [hF];refine eG 101 [.tmp 6] func142 rfl ntmps142 rfl fun _ _ _ _=>?_;refine congrArg (fun z=>DV.v (Value.bool z)) ?_;simp only [pickB_and,H3,Bool.and_assoc]
 rw [ah k5] at hF;by_cases o1:op=1
 rotate_left
 ·rw [ai o1] at hF;rw [hF];refine eG 101 [.tmp 6] func142 rfl ntmps142 rfl fun _ _ _ _=>?_;refine br (fun g=>absurd (of_decide_eq_true g) k2) (fun _=>?_);refine br (fun g=>absurd (of_decide_eq_true g) k5) (fun _=>?_);refine br (fun _=>(rfl:_=_)) (fun g=>absurd (sU g) o1)
 subst o1;rw [ah (by decide)] at hF;by_cases k3:uk=3
 ·subst k3;rw [ai rfl] at hF;rw [hF];refine eG 101 [.tmp 6] func142 rfl ntmps142 rfl fun _ _ _ _=>?_;refine congrArg (fun z=>DV.v (Value.bool z)) ?_;simp only [pickB_and]
 rw [ah k3] at hF;by_cases k1:uk=1
 ·subst k1;rw [ai rfl] at s8;by_cases n1:un=1
  ·subst n1;rw [ai rfl] at s8;rw [hF,<- last _ s8];refine eG 101 [.tmp 6] func142 rfl ntmps142 rfl fun _ _ _ _=>?_;exact (rfl:_=_)
  ·rw [ah n1] at s8;rw [hF,<- last _ s8];refine eG 101 [.tmp 6] func142 rfl ntmps142 rfl fun _ _ _ _=>?_;refine br (fun g=>absurd (of_decide_eq_true g) n1) (fun _=>?_);exact (rfl:_=_)
 rw [ah k1] at s8;by_cases k4:uk=4
 ·subst k4;rw [ai rfl] at s8;obtain ⟨n1,n2⟩:=h4 rfl;obtain ⟨w,hw⟩:∃ w,af[un.toNat]? = some w:=⟨_,gE (by omega)⟩;rw [hw,Option.getD_some] at s8;rw [hF,<- last _ s8];refine eG 101 [.tmp 6] func142 rfl ntmps142 rfl fun _ _ _ _=>?_;refine ⟨_,⟨n1,fh hw⟩,?_⟩;exact (rfl:_=_)
 rw [ah k4] at s8;by_cases k8:uk=8
 ·subst k8;rw [ai rfl] at s8;obtain ⟨n1,n2⟩:=h8 rfl;obtain ⟨e,he⟩:∃ e,es[un.toNat]? = some e:=⟨_,gE (by omega)⟩;rw [he] at s8;have xX:=bm he;obtain ⟨en,eb,ea,et,el,ew,dM,cY,qC,gv⟩:=e;simp only at s8;rw [hF,<- last _ s8];refine eG 101 [.tmp 6] func142 rfl ntmps142 rfl fun _ _ _ _=>?_;refine ⟨_,⟨n1,xX⟩,?_⟩;exact (rfl:_=_)
 rw [ah k8] at s8;by_cases k6:uk=6
 ·subst k6;rw [ai rfl] at s8;have h61:=h6 rfl
  match ul,h61,H3,s8 with
  | [],_,H3,s8=>
   rw [ai rfl] at s8;rw [hF,<- last _ s8];refine eG 101 [.tmp 6] func142 rfl ntmps142 rfl fun _ _ _ _=>?_;exact (rfl:_=_)
  | [x],_,H3,s8=>
   rw [ah (by simp)] at s8;rw [hF,<- last _ s8];refine eG 101 [.tmp 6] func142 rfl ntmps142 rfl fun _ _ _ _=>?_;exact (rfl:_=_)
 rw [ah k6] at s8;rw [hF,<- last _ s8];refine eG 101 [.tmp 6] func142 rfl ntmps142 rfl fun _ _ _ _=>?_;refine br (fun g=>absurd (of_decide_eq_true g) k2) (fun _=>?_);refine br (fun g=>absurd (of_decide_eq_true g) k5) (fun _=>?_);refine br (fun g=>absurd (of_decide_eq_true g) k3) (fun _=>?_);refine br (fun g=>absurd (of_decide_eq_true g) k1) (fun _=>?_);refine br (fun g=>absurd (of_decide_eq_true g) k4) (fun _=>?_);refine br (fun g=>absurd (of_decide_eq_true g) k6) (fun _=>?_);refine br (fun g=>absurd (of_decide_eq_true g) k8) (fun _=>?_);exact (rfl:_=_)
theorem DS (d:Nd) (e:Ed) (u:Val) (c:fU) (h4:u.k=4->0<=u.n/\u.n < d.af.length) (h8:u.k=8->0<=u.n/\u.n < d.aw.length) (h6:u.k=6->u.ks.length<=1) (hn:c.lit.k=1->c.lit.s≠aq)
  (kA:u.k=10->U9 e d u.n) (hu:o7 u.n) (hlo:o7 d.lo) (kW:o7 d.hi) (Bq:e.cn<=9223372036854775807) (U7:u.s.size<=1099511627776) (cV:c.lit.s.size<=1099511627776) :
  EvP prog 87 [.agg (iS d),.agg (jv e),.agg (bD u),.agg (eL c)] (.v (.int .i64 (xZ d e u c))):=by
 have hho:=Bb d u c h4 h8 h6;have ky:=QE d u c hn;have han:=xf;have Bn:=zw u.s.size u.s (aW _) U7;have hhd:=kb e.cn.toNat c.lit.s cV e.cn Bq rfl;have Ir:=fun lo hi h=>JR lo hi h c
 have hF:xZ d e u c=(if u.k=9 then 2 else if u.k=10 then sc e d u c else if u.k=11 then oV e u c
  else if u.k=12 then ee (decide (c.op=4) && (decide (c.lit.k=2) && decide (c.lit.n=u.n)))
  else j1 d u c):=rfl
 have hFl:sc e d u c=nQ (max u.n d.lo) (min ((xc u.n (e.cn - 1)).getD d.hi) d.hi) c:=rfl
 have hFi:oV e u c=(if (cntU u.s.size (tx u.s):Int) < e.cn then (if c.op=4 then 0 else if c.op≠1 then 0 else ee (decide (c.lit.k=3) && decide (c.lit.s=u.s)))
  else if c.op=1/\c.lit.k=3/\headL e.cn.toNat (tx c.lit.s)=tx u.s then 2 else 0):=rfl
 rw [ky,hFl,hFi] at hF;generalize xZ d e u c=F at hF ⊢;generalize zu d u c=HB at hho hF;generalize cntU u.s.size (tx u.s)=CU at Bn hF;obtain ⟨ag,aE,lo,hi,most,af,es⟩:=d;obtain ⟨en,eb,ea,et,el,ew,dM,cY,qC,gv⟩:=e;obtain ⟨uk,un,us,ul⟩:=u;have hnq:=Ir;obtain ⟨p,op,rk,ra,rn,rs,aJ,dC⟩:=c
 have hF:F=(if uk=9 then 2 else if uk=10 then nQ (max un lo) (min ((xc un (cY - 1)).getD hi) hi) ⟨p,op,.mk rk ra rn rs aJ dC⟩ else if uk=11 then (if (CU:Int) < cY then (if op=4 then 0 else if op≠1 then 0 else ee (decide (rk=3) && decide (rs=us)))
   else if op=1/\rk=3/\headL cY.toNat (tx rs)=tx us then 2 else 0)
  else if uk=12 then ee (decide (op=4) && (decide (rk=2) && decide (rn=un)))
  else ee HB):=hF
 simp only [Val.k,Val.n,Val.s,Rw.k,Rw.n,Rw.s] at kA hu hlo kW Bq Bn hhd;by_cases k9:uk=9
 ·subst k9;rw [ai rfl] at hF;rw [hF];refine eG 127 [.tmp 8] func87 rfl ntmps87 rfl fun _ _ _ _=>?_;exact (rfl:_=_)
 rw [ah k9] at hF;by_cases k10:uk=10
 ·subst k10;rw [ai rfl] at hF;obtain ⟨o1,o2,o3,o4⟩:=kA rfl;simp only at o1 o2 o3 o4;obtain ⟨u1,u2⟩:=hu;obtain ⟨l1,l2⟩:=hlo;obtain ⟨g1,g2⟩:=kW;have w1:IntKind.i64.wrap (cY - 1)=cY - 1:=wrap64 (by omega) (by omega);have w2:IntKind.i64.wrap (9223372036854775807 - IntKind.i64.wrap (cY - 1))=9223372036854775807 - (cY - 1):=by rw [w1];exact wrap64 (by omega) (by omega)
  have w3:un<=9223372036854775807 - (cY - 1)->IntKind.i64.wrap (un + IntKind.i64.wrap (cY - 1))=un + (cY - 1):=fun h=>by rw [w1];exact wrap64 (by omega) (by omega)
  have hB:pickB (decide (un<=IntKind.i64.wrap (9223372036854775807 - IntKind.i64.wrap (cY - 1)))) (decide (IntKind.i64.wrap (un + IntKind.i64.wrap (cY - 1)) < hi)) false=decide (un<=9223372036854775807 - (cY - 1)/\un + (cY - 1) < hi):=by
   rw [pickB_and,w2];by_cases h:un<=9223372036854775807 - (cY - 1)
   ·rw [w3 h,decide_eq_true h,Bool.true_and];exact decide_eq_decide.2 ⟨fun q=>⟨h,q⟩,fun q=>q.2⟩
   ·rw [decide_eq_false h,Bool.false_and];exact (decide_eq_false fun q=>h q.1).symm
  have hA:xc un (cY - 1)=if 9223372036854775807 - (cY - 1) < un then none else some (un + (cY - 1)):=by
   unfold xc;by_cases h:9223372036854775807 - (cY - 1) < un
   ·rw [ai h,ai (by omega)]
   ·rw [ah h,ah (by omega)]
  rw [hA] at hF;refine eG 127 [.tmp 8] func87 rfl ntmps87 rfl fun _ _ _ _=>?_;refine dI ?_;refine br ?_ ?_<;>intro g
  ·have g:pickB (decide (un<=IntKind.i64.wrap (9223372036854775807 - IntKind.i64.wrap (cY - 1)))) (decide (IntKind.i64.wrap (un + IntKind.i64.wrap (cY - 1)) < hi)) false=true:=g;rw [hB] at g;obtain ⟨g,g'⟩:=of_decide_eq_true g;have w3:=w3 g;rw [ah (by omega),Option.getD_some] at hF;refine br ?_ ?_<;>intro q
   ·have q:un < lo:=of_decide_eq_true q;have e:=hnq lo (IntKind.i64.wrap (un + IntKind.i64.wrap (cY - 1))) (by rw [w3];omega);rw [w3] at e;rw [show max un lo=lo by omega,show min (un + (cY - 1)) hi=un + (cY - 1) by omega] at hF;rw [hF];rw [<- w3] at e;refine cP G5 e ?_;rw [w3];exact (rfl:_=_)
   ·have q:¬ un < lo:=of_decide_eq_false q;have e:=hnq un (IntKind.i64.wrap (un + IntKind.i64.wrap (cY - 1))) (by rw [w3];omega);rw [show max un lo=un by omega,show min (un + (cY - 1)) hi=un + (cY - 1) by omega] at hF;rw [hF];refine cP G5 e ?_;rw [w3];exact (rfl:_=_)
  ·have g:pickB (decide (un<=IntKind.i64.wrap (9223372036854775807 - IntKind.i64.wrap (cY - 1)))) (decide (IntKind.i64.wrap (un + IntKind.i64.wrap (cY - 1)) < hi)) false=false:=g;rw [hB] at g;have g:=of_decide_eq_false g
   have hm:min ((if 9223372036854775807 - (cY - 1) < un then none else some (un + (cY - 1))).getD hi) hi=hi:=by
    split
    ·rw [Option.getD_none];omega
    ·rw [Option.getD_some];omega
   rw [hm] at hF;refine br ?_ ?_<;>intro q
   ·have q:un < lo:=of_decide_eq_true q;have e:=hnq lo hi o3;rw [show max un lo=lo by omega] at hF;rw [hF];refine cP G5 e ?_;exact (rfl:_=_)
   ·have q:¬ un < lo:=of_decide_eq_false q;have e:=hnq un hi o2;rw [show max un lo=un by omega] at hF;rw [hF];refine cP G5 e ?_;exact (rfl:_=_)
 rw [ah k10] at hF;by_cases k11:uk=11
 ·subst k11;rw [ai rfl] at hF;refine eG 127 [.tmp 8] func87 rfl ntmps87 rfl fun _ _ _ _=>?_;refine dI ?_;refine cD Rh Bn ?_;refine br ?_ ?_<;>intro g
  ·have g:(CU:Int) < cY:=of_decide_eq_true g;rw [ai g] at hF;refine cP G6 (han _) ?_;rw [hF];by_cases o1:op=1
   ·subst o1;rw [ah (by decide),ah (by decide)];refine congrArg (fun b=>DV.v (Value.int .i64 (ee b))) ?_;simp only [pickB_and,decide_true,Bool.true_and]
   ·have:pickB (pickB (decide (op=1)) (decide (rk=3)) false) (decide (rs=us)) false=false:=by
     rw [pickB_and,pickB_and,decide_eq_false o1,Bool.false_and,Bool.false_and]
    refine congrArg (fun z=>DV.v (Value.int .i64 z)) ?_;refine (congrArg ee this).trans ?_;by_cases o4:op=4
    ·rw [ai o4];all_goals rfl
    ·rw [ah o4,ai o1];all_goals rfl
  ·have g:¬ (CU:Int) < cY:=of_decide_eq_false g;rw [ah g] at hF;refine dI ?_;refine br ?_ ?_<;>intro g2
   ·have g2:op=1/\rk=3:=by simpa [pickB_and] using g2
    refine cD G7 hhd ?_;refine br ?_ ?_<;>intro g3
    ·have g3:ba (headL cY.toNat (tx rs))=us:=of_decide_eq_true g3;rw [ai ⟨g2.1,g2.2,by rw [<- g3];exact (mH _).symm⟩] at hF;rw [hF];exact (rfl:_=_)
    ·have g3:¬ ba (headL cY.toNat (tx rs))=us:=of_decide_eq_false g3;rw [ah fun h=>g3 (by rw [h.2.2,Ck])] at hF;rw [hF];exact (rfl:_=_)
   ·rw [ah fun h=>by
     rw [decide_eq_true h.1,decide_eq_true h.2.1] at g2
     cases g2] at hF
    rw [hF];exact (rfl:_=_)
 rw [ah k11] at hF;by_cases k12:uk=12
 ·subst k12;rw [ai rfl] at hF;refine eG 127 [.tmp 8] func87 rfl ntmps87 rfl fun _ _ _ _=>?_;refine cP G6 (han _) ?_;rw [hF];refine congrArg (fun b=>DV.v (Value.int .i64 (ee b))) ?_;simp only [pickB_and,Bool.and_assoc]
 rw [ah k12] at hF;rw [hF];refine eG 127 [.tmp 8] func87 rfl ntmps87 rfl fun _ _ _ _=>?_;refine br (fun g=>absurd (of_decide_eq_true g) k9) (fun _=>?_);refine br (fun g=>absurd (of_decide_eq_true g) k10) (fun _=>?_);refine br (fun g=>absurd (of_decide_eq_true g) k11) (fun _=>?_);refine br (fun g=>absurd (of_decide_eq_true g) k12) (fun _=>?_);refine cP Xm hho ?_;refine cP G6 (han _) ?_;exact (rfl:_=_)
section
variable {ND:List Nd} {f:Nat->Nat->Bool} {L obs:Nat}
def JS (ND:List Nd) (f:Nat->Nat->Bool) (L obs:Nat) (i:Nat) (e:Ed) (u:Val):Prop:=
 (∃ a,seeV ND f L obs u i a=true)∨(∃ d,ND[i]? = some d/\Qf L ND.length e/\fK e d u=true)∨(Qf L ND.length e/\bU u 9 e.wide aq=true)
theorem jA {i:Nat} {d:Nd} (hd:ND[i]? = some d):cu ND i=some d:=by
 unfold cu;rw [ah (by omega),iT,hd]
theorem NS (bF:∀ n∈ND,dg L ND.length n) {i:Nat} {d:Nd} (hd:ND[i]? = some d) {e:Ed} {u:Val} (h:JS ND f L obs i e u):lW ND u i=true:=by
 rcases h with ⟨a,h⟩ | ⟨t,ht,he,h⟩ | ⟨he,h⟩
 ·exact ua bF u i a h
 ·exact A9 (jA ht) he.wide h
 ·exact oX (jA hd) h (.inl ⟨rfl,he.wide⟩)
theorem seeK_10 (bF:∀ n∈ND,dg L ND.length n) (o8:∀ n∈ND,qw n) {i:Nat} {d:Nd} (hd:ND[i]? = some d) {e:Ed} {u:Val} (hu:o7 u.n) (h:JS ND f L obs i e u) (kA:u.k=10):U9 e d u.n:=by
 rcases h with ⟨a,h⟩ | ⟨t,ht,he,h⟩ | ⟨he,h⟩
 ·have:=SJ bF h;omega
 ·rw [hd] at ht;cases ht;have hm:=mG hd;have:=o8 d hm;exact may_10 he (bF d hm) ⟨this.1,this.2.1⟩ hu h kA
 ·rw [cE.1 h] at kA;exact absurd kA (by simp [Val.k])
theorem Gz {d:Nd} {u:Val} (hk:u.k=d.ag) (j:Nat):dW d u.n j=d.aw[tB u j]?:=by
 unfold dW tB;rw [hk];by_cases h7:d.ag=7
 ·rw [ai h7,ai h7]
 ·rw [ah h7,ah h7];by_cases h8:d.ag=8
  ·rw [ai h8,ai h8]
  ·rw [ah h8,ah h8]
theorem NT (bF:∀ n∈ND,dg L ND.length n) {i:Nat} {d:Nd} (hd:ND[i]? = some d) {e:Ed} {u:Val} (h:JS ND f L obs i e u) {j:Nat} {x:Val} (hx:u.ks[j]? = some x) :
  ∃ (b:Ed) (t:Nat),dW d u.n j=some b/\d.aw[tB u j]? = some b/\b∈d.aw/\b.to=t/\t < ND.length/\JS ND f L obs t b x:=by
 have hN:=bF d (mG hd);have hnd:=jA hd;rcases h with ⟨a,h⟩ | ⟨t,ht,he,h⟩ | ⟨he,h⟩
 ·obtain ⟨b,hs⟩:=JQ bF h hnd hx;obtain ⟨hk5,hke,_,_⟩:=Ba bF (ua bF u i a h) hnd hx;obtain ⟨g1,d',g2⟩:=Dj hN hs.Ow.mem hs.Ow.bare;obtain ⟨t,ht,av⟩:=(hN.fZ b hs.Ow.mem).to1 hs.Ow.bare;refine ⟨b,t,hs.Ow.fZ,by rw [<- Gz hke];exact hs.Ow.fZ,hs.Ow.mem,ht,av,?_⟩;have JA:=hs.see;unfold kidS at JA;rw [ht] at JA;split at JA
  ·exact .inl ⟨_,JA⟩
  ·split at JA
   ·obtain ⟨c,hc⟩:=gX av;rw [jA hc] at JA;exact .inr (.inl ⟨c,hc,hN.fZ b hs.Ow.mem,JA⟩)
   ·exact .inr (.inr ⟨hN.fZ b hs.Ow.mem,JA⟩)
 ·exfalso;have hw:=A9 (jA ht) he.wide h;obtain ⟨_,_,_,_,_,_,wl⟩:=NP bF hw
  have hk:9<=u.k:=by
   rcases zt h with h | h | h | h
   ·rw [h];exact Int.le_refl _
   ·omega
   ·omega
   ·omega
  rw [wl (.inr hk)] at hx;cases hx
 ·rw [cE.1 h] at hx;cases hx
end
mutual
def xg:Rw->Nat
 | .mk _ _ _ s keys ks=>64 + s.size + wdsWt keys + lX ks
def lX:List Rw->Nat
 | []=>0
 | v :: r=>xg v + lX r
end
theorem DT:∀ {l:List Rw} {x:Rw},x∈l->xg x<=lX l
 | v :: r,x,h=>by
  rw [lX];rcases cr h with rfl | h
  ·omega
  ·have:=DT h;omega
theorem Bc:∀ r:Rw,64<=xg r
 | .mk _ _ _ _ _ _=>by rw [xg];omega
theorem xi:∀ l:List Rw,l.length<=lX l
 | []=>aW _
 | v :: r=>by
  have:=xi r;have:=Bc v;rw [lX,List.length_cons];omega
mutual
def sg:Rw->Nat
 | .mk _ _ _ _ _ ks=>hZ ks + 1
def hZ:List Rw->Nat
 | []=>0
 | v :: r=>max (sg v) (hZ r)
end
mutual
theorem H9:∀ v:Rw,oO v<=xg v/\sg v<=xg v
 | .mk _ _ _ _ _ ks=>by
  have:=xj ks;rw [oO,sg,xg];omega
theorem xj:∀ l:List Rw,kS l<=lX l/\hZ l<=lX l
 | []=>⟨aW _,aW _⟩
 | v :: r=>by
  have h1:=H9 v;have h2:=xj r;rw [kS,hZ,lX];omega
end
theorem xm:∀ (l:List Rw) (x:Rw),kS (l ++ [x])=kS l + oO x
 | [],x=>by simp [kS]
 | v :: r,x=>by rw [List.cons_append,kS,kS,xm r];omega
theorem xr:∀ (l:List Rw) (x:Rw),hZ (l ++ [x])=max (hZ l) (sg x)
 | [],x=>by simp [hZ]
 | v :: r,x=>by rw [List.cons_append,hZ,hZ,xr r];omega
theorem GA (l:List Rw):∀ e,kS (l.take e)<=lX l/\hZ (l.take e)<=lX l:=fun e=>by
 have h1:=xj (l.take e)
 have h2:∀ (l:List Rw) e,lX (l.take e)<=lX l:=by
  intro l
  induction l with
  | nil=>intro e;simp [lX]
  | cons v r ih=>
   intro e
   cases e with
   | zero=>simp [lX]
   | succ e=>have:=ih e;simp only [List.take_succ_cons,lX];omega
 have:=h2 l e;omega
abbrev aaq (v:Rw) (n d e:Nat):St:=
 ⟨[aD 1 0,au 4 n,au 5 d,au 6 e],[dRw v],[]⟩
theorem nd:∀ (k:Nat) (v:Rw),xg v<=k->xg v<=1099511627776->EvP prog 22 [.agg (dRw v)] (.tup [.v (.int .i64 (oO v:Nat)),.v (.int .i64 (sg v:Nat))])
 | 0,v,h,_=>by have:=Bc v;omega
 | k + 1,.mk q a n s keys ks,h,hb=>by
  have ih:=nd k;have cw:=wF ks;have nN:=xi ks;have mc:=GA ks;rw [xg] at h hb;rw [oO,sg];refine eG 35 [.tmp 2,.tmp 3] func22 rfl ntmps22 rfl fun _ _ _ _=>?_;refine lJ (fun e=>aaq (.mk q a n s keys ks) (1 + kS (ks.take e)) (hZ (ks.take e)) e) ks.length (wkM wB) ?_;intro e he;refine br ?_ ?_<;>intro hL
  ·have av:e < ks.length:=by have:=hL;simp [cw] at this;exact this
   obtain ⟨x,hx⟩:=gX av;have Ug:=DT (mG hx);have hc:=xm (ks.take e) x;have hd:=xr (ks.take e) x;rw [<- rW hx] at hc hd;have h1:=mc (e + 1);have hi:=ih x (by omega) (by omega);have hcx:=H9 x;obtain ⟨xk,xa,xn,xs,xq,xl⟩:=x;refine iX (Ng hx) ?_;refine cP Ts hi ?_;have hw:IntKind.i64.wrap (((1 + kS (ks.take e):Nat):Int) + ((oO (.mk xk xa xn xs xq xl):Nat):Int))=((1 + kS (ks.take (e + 1)):Nat):Int):=by rw [wrap64 (by omega) (by omega)];omega
   refine br ?_ ?_<;>intro g
   ·have g:hZ (ks.take e) < sg (.mk xk xa xn xs xq xl):=sU g;have ED:((sg (.mk xk xa xn xs xq xl):Nat):Int)=((hZ (ks.take (e + 1)):Nat):Int):=by omega
    exact rE ⟨_,by omega,e + 1,rfl,by omega,rfl⟩ (wkM (Oh hw ED (nxt av (by omega))))
   ·have g:¬ hZ (ks.take e) < sg (.mk xk xa xn xs xq xl):=sU g;have ED:((hZ (ks.take e):Nat):Int)=((hZ (ks.take (e + 1)):Nat):Int):=by omega
    exact rE ⟨_,by omega,e + 1,rfl,by omega,rfl⟩ (wkM (Oh hw ED (nxt av (by omega))))
  ·have hge:e=ks.length:=sW cw hL;subst hge;have h1:=mc ks.length;rw [List.take_length] at h1 ⊢;have hw:IntKind.i64.wrap (((hZ ks:Nat):Int) + 1)=((hZ ks + 1:Nat):Int):=by rw [wrap64 (by omega) (by omega)];omega
   refine ⟨_,(o0 hw),rfl⟩
theorem JT:prog.cellsOf 56=6:=by kernel_rfl
theorem Ia {m:Nat} (ih:∀ k,k<=m->∀ ds,Typ prog k 56 ds->∃ v:Rw,ds=dRw v/\xg v<=wgL ds) :
  ∀ {es:List (List DV)},(∀ cs∈es,Typ prog m 56 cs)->∃ l:List Rw,es=dRws l/\lX l<=wgEs es
 | [],h=>⟨[],rfl,by simp [lX]⟩
 | cs :: r,h=>by
  obtain ⟨l,rfl,hl⟩:=Ia ih (es:=r) (fun c hc=>h c (gh _ hc));obtain ⟨v,rfl,hv⟩:=ih m (aW _) cs (h cs (by simp));exact ⟨v :: l,rfl,by simp only [lX,wgEs];omega⟩
theorem QF:∀ (n:Nat) (ds:List DV),Typ prog n 56 ds->∃ v:Rw,ds=dRw v/\xg v<=wgL ds:=by
 intro n
 induction n using Nat.strongRecOn with
 | _ n ih=>
  intro ds h;obtain ⟨m,rfl,hf⟩:=iZ Tryz.underlying56 h;obtain ⟨a1,b1,rfl,h1,a2,b2,rfl,h2,a3,b3,rfl,h3,a4,b4,rfl,h4,a5,b5,rfl,h5,a6,b6,rfl,h6,rfl⟩:=hf;obtain ⟨k,rfl,_⟩:=gV h1;obtain ⟨a,rfl,_⟩:=gV h2;obtain ⟨z,rfl,_⟩:=gV h3;obtain ⟨s,rfl⟩:=tM Tryz.underlying9 h4;obtain ⟨keys,rfl,hw⟩:=pL h5;obtain ⟨j,es,rfl,rfl,ie⟩:=mI Tryz.underlying54 h6;obtain ⟨l,rfl,wl⟩:=Ia (fun i hi=>ih i (by omega)) ie;rw [JT];refine ⟨.mk k a z s keys l,rfl,?_⟩;simp only [xg,cT,wgL,wgD] at *;omega
abbrev JU (k a n:Int) (s:ByteArray):List DV:=[.v (.int .i64 k),.v (.int .i64 a),.v (.int .i64 n),.v (.string s),.v (.slice none 0 0),.v (.slice none 0 0)]
abbrev NU (u v:List DV):St:=⟨[aD 2 0,aD 3 1,au 5 (0:Nat)],[u,v],[]⟩
abbrev NV (u v:List DV):St:=⟨[aD 2 0,aD 3 1,au 6 (0:Nat)],[u,v],[]⟩
theorem xu (k a n:Int) (s:ByteArray):EvP prog 181 [.agg (JU k a n s),.agg (dRw (.mk k a n s [] []))] (.v (.bool true)):=by
 refine eG 88 [.tmp 4] func181 rfl ntmps181 rfl fun _ _ _ _=>?_;refine br (fun g=>?_) (fun _=>?_)
 ·exfalso;simp [aj,bA,dRws] at g
 refine aP (fun j st=>st=NU (JU k a n s) (dRw (.mk k a n s [] []))) 0 (NU (JU k a n s) (dRw (.mk k a n s [] []))) (wkB 2 kZ gR) rfl ?_;rintro j st rfl;refine aP (fun j st=>st=NV (JU k a n s) (dRw (.mk k a n s [] []))) 0 (NV (JU k a n s) (dRw (.mk k a n s [] []))) (wkB 2 kZ gR) rfl ?_;rintro j st rfl;exact (rfl:_=_)
theorem xx (k a n vn:Int) (s vs:ByteArray) (NW:List Wd) (vks:List Rw) (h:¬ (n=vn/\s=vs/\NW=[]/\vks=[])):EvP prog 181 [.agg (JU k a n s),.agg (dRw (.mk k a vn vs NW vks))] (.v (.bool false)):=by
 have h1:=ay NW;have h2:=wF vks;refine eG 88 [.tmp 4] func181 rfl ntmps181 rfl fun _ _ _ _=>?_;refine br (fun _=>?_) (fun g=>?_)
 ·exact (rfl:_=_)
 ·exfalso;simp [aj] at g;refine h ⟨by omega,by grind,?_,?_⟩
  ·exact List.eq_nil_of_length_eq_zero (by omega)
  ·exact List.eq_nil_of_length_eq_zero (by omega)
def x4 (r:Rw):Bool:=if r.k=1 then aM r.s && decide (r.n=0/\r.keys=[]/\r.ks=[]) else if r.k=2 then decide (r.s=aq/\r.keys=[]/\r.ks=[]) else decide (r.n=0/\r.keys=[]/\r.ks=[])
abbrev zx (r:List DV):St:=⟨[aD 1 0,au 4 (0:Nat)],[r],[]⟩
abbrev zy (r:List DV):St:=⟨[aD 1 0,au 5 (0:Nat)],[r],[]⟩
theorem GB (r:Rw) (hk:1<=r.k/\r.k<=3) (hs:r.s.size<=1099511627776):EvP prog 131 [.agg (dRw r)] (.v (.bool (x4 r))):=by
 have hn:=gl r.s (by omega);obtain ⟨k,a,n,s,keys,ks⟩:=r;have hF:x4 (.mk k a n s keys ks)=(if k=1 then aM s && decide (n=0/\keys=[]/\ks=[]) else if k=2 then decide (s=aq/\keys=[]/\ks=[]) else decide (n=0/\keys=[]/\ks=[])):=rfl;generalize x4 (.mk k a n s keys ks)=F at hF ⊢;simp only [Rw.k,Rw.s] at hk hn;by_cases k1:k=1
 ·subst k1;rw [ai rfl] at hF;generalize aM s=b at hn hF
  cases b with
  | false=>
   rw [Bool.false_and] at hF;rw [hF];refine eG 104 [.tmp 2] func131 rfl ntmps131 rfl fun _ _ _ _=>?_;refine cP su hn ?_;exact (rfl:_=_)
  | true=>
   rw [Bool.true_and] at hF;by_cases h:n=0/\keys=[]/\ks=[]
   ·rw [decide_eq_true h] at hF;obtain ⟨rfl,rfl,rfl⟩:=h;have Im:=xu 1 a 0 s;rw [hF];refine eG 104 [.tmp 2] func131 rfl ntmps131 rfl fun _ _ _ _=>?_;refine cP su hn ?_;refine cP yp Im ?_;refine aP (fun j st=>st=zx (dRw (.mk 1 a 0 s [] []))) 0 (zx (dRw (.mk 1 a 0 s [] []))) (wkB 1 kZ gR) rfl ?_;rintro j st rfl;refine aP (fun j st=>st=zy (dRw (.mk 1 a 0 s [] []))) 0 (zy (dRw (.mk 1 a 0 s [] []))) (wkB 1 kZ gR) rfl ?_;rintro j st rfl;exact (rfl:_=_)
   ·rw [decide_eq_false h] at hF;have Im:=xx 1 a 0 n s s keys ks (fun g=>h ⟨g.1.symm,g.2.2⟩);rw [hF];refine eG 104 [.tmp 2] func131 rfl ntmps131 rfl fun _ _ _ _=>?_;refine cP su hn ?_;refine cP yp Im ?_;exact (rfl:_=_)
 rw [ah k1] at hF;by_cases k2:k=2
 ·subst k2;rw [ai rfl] at hF;by_cases h:s=aq/\keys=[]/\ks=[]
  ·rw [decide_eq_true h] at hF;obtain ⟨rfl,rfl,rfl⟩:=h;have Im:=xu 2 a n aq;rw [hF];refine eG 104 [.tmp 2] func131 rfl ntmps131 rfl fun _ _ _ _=>?_;refine cP yp Im ?_;refine aP (fun j st=>st=zx (dRw (.mk 2 a n aq [] []))) 0 (zx (dRw (.mk 2 a n aq [] []))) (wkB 1 kZ gR) rfl ?_;rintro j st rfl;refine aP (fun j st=>st=zy (dRw (.mk 2 a n aq [] []))) 0 (zy (dRw (.mk 2 a n aq [] []))) (wkB 1 kZ gR) rfl ?_;rintro j st rfl;exact (rfl:_=_)
  ·rw [decide_eq_false h] at hF;have Im:=xx 2 a n n aq s keys ks (fun g=>h ⟨g.2.1.symm,g.2.2⟩);rw [hF];refine eG 104 [.tmp 2] func131 rfl ntmps131 rfl fun _ _ _ _=>?_;refine cP yp Im ?_;exact (rfl:_=_)
 rw [ah k2] at hF;have k3:k=3:=by omega
 subst k3;by_cases h:n=0/\keys=[]/\ks=[]
 ·rw [decide_eq_true h] at hF;obtain ⟨rfl,rfl,rfl⟩:=h;have Im:=xu 3 a 0 s;rw [hF];refine eG 104 [.tmp 2] func131 rfl ntmps131 rfl fun _ _ _ _=>?_;refine cP yp Im ?_;refine aP (fun j st=>st=zx (dRw (.mk 3 a 0 s [] []))) 0 (zx (dRw (.mk 3 a 0 s [] []))) (wkB 1 kZ gR) rfl ?_;rintro j st rfl;refine aP (fun j st=>st=zy (dRw (.mk 3 a 0 s [] []))) 0 (zy (dRw (.mk 3 a 0 s [] []))) (wkB 1 kZ gR) rfl ?_;rintro j st rfl;exact (rfl:_=_)
 ·rw [decide_eq_false h] at hF;have Im:=xx 3 a 0 n s s keys ks (fun g=>h ⟨g.1.symm,g.2.2⟩);rw [hF];refine eG 104 [.tmp 2] func131 rfl ntmps131 rfl fun _ _ _ _=>?_;refine cP yp Im ?_;exact (rfl:_=_)
theorem QG {r:Rw} (h:r.ks=[]):sg r=1:=by
 obtain ⟨k,a,n,s,keys,ks⟩:=r;have h:ks=[]:=h;subst h;rfl
theorem QH {r:Rw} (h:r.ks=[]):oO r=1:=by
 obtain ⟨k,a,n,s,keys,ks⟩:=r;have h:ks=[]:=h;subst h;rfl
theorem NX {r:Rw} (h:x4 r=true):r.ks=[]:=by
 unfold x4 at h;split at h
 ·rw [aO] at h;exact (of_decide_eq_true h.2).2.2
 ·split at h
  ·exact (of_decide_eq_true h).2.2
  ·exact (of_decide_eq_true h).2.2
theorem Bd (r:Rw) (hk:1<=r.k/\r.k<=3) (hw:xg r<=1099511627776):EvP prog 83 [.agg (dRw r)] (.v (.bool (x4 r))):=by
 have h1:=nd (xg r) r (aW _) hw;have h2:=GB r hk (by obtain ⟨k,a,n,s,keys,ks⟩:=r;rw [xg] at hw;show s.size<=_;omega)
 have hb:x4 r=true->((oO r:Nat):Int)=1/\((sg r:Nat):Int)=1:=fun h=>by
  rw [QH (NX h),QG (NX h)];exact ⟨rfl,rfl⟩
 generalize x4 r=b at h2 hb ⊢;generalize ((oO r:Nat):Int)=cn at h1 hb;generalize ((sg r:Nat):Int)=dn at h1 hb;obtain ⟨k,a,n,s,keys,ks⟩:=r;clear hw hk;refine eG 20 [.tmp 2] func83 rfl ntmps83 rfl fun _ _ _ _=>?_;refine cP Ts h1 ?_;refine br ?_ ?_<;>intro g
 ·refine cP Xi h2 ?_;refine congrArg (fun z=>DV.v (Value.bool z)) ?_;cases b<;>rfl
 ·refine congrArg (fun z=>DV.v (Value.bool z)) ?_;have g:pickB (decide (cn < 4097)) (decide (dn < 25)) false=false:=sU g
  cases b with
  | false=>rfl
  | true=>
   obtain ⟨rfl,rfl⟩:=hb rfl;exact absurd g (by decide)
theorem x5 (c:fU) (hs:∀ s∈c.p,s.s.size<=1099511627776) (hw:xg c.lit<=1099511627776):EvP prog 38 [.agg (eL c)] (.v (.bool (gK c))):=by
 have h1:=qq c.p (fun s h=>by have:=hs s h;omega);have h2:=fun hk=>Bd c.lit hk hw;obtain ⟨p,op,rk,ra,rn,rs,aJ,dC⟩:=c;have hF:gK ⟨p,op,.mk rk ra rn rs aJ dC⟩=(gI p && (decide (1<=op) && (decide (op<=4) && (decide (ra=0) && (decide (aJ.length + dC.length=0) && (if rk=2 then decide (rs=aq) else if rk=3 then decide (rn=0) else decide (rk=1) && (decide (rn=0) && aM rs))))))):=rfl;have hO:x4 (.mk rk ra rn rs aJ dC)=(if rk=1 then aM rs && decide (rn=0/\aJ=[]/\dC=[]) else if rk=2 then decide (rs=aq/\aJ=[]/\dC=[]) else decide (rn=0/\aJ=[]/\dC=[])):=rfl
 have h0:aJ.length + dC.length=0↔aJ=[]/\dC=[]:=by
  rw [<- List.length_eq_zero_iff,<- List.length_eq_zero_iff];omega
 generalize gK ⟨p,op,.mk rk ra rn rs aJ dC⟩=F at hF ⊢;simp only [Rw.k] at h2;generalize x4 (.mk rk ra rn rs aJ dC)=b at h2 hO;generalize aM rs=nb at hF hO;generalize gI p=b0 at h1 hF
 have hFb:F=(b0 && (decide (0 < op) && (decide (op < 5) && (decide (0 < rk) && (decide (rk < 4) && (decide (ra=0) && b)))))):=by
  rw [hF,hO];by_cases k1:rk=1
  ·subst k1;by_cases hz:aJ=[]/\dC=[]
   ·rw [decide_eq_true (h0.2 hz)]
    grind
   ·rw [decide_eq_false (fun h=>hz (h0.1 h))]
    grind
  ·by_cases k2:rk=2
   ·subst k2;by_cases hz:aJ=[]/\dC=[]
    ·rw [decide_eq_true (h0.2 hz)]
     grind
    ·rw [decide_eq_false (fun h=>hz (h0.1 h))]
     grind
   ·by_cases k3:rk=3
    ·subst k3;by_cases hz:aJ=[]/\dC=[]
     ·rw [decide_eq_true (h0.2 hz)]
      grind
     ·rw [decide_eq_false (fun h=>hz (h0.1 h))]
      grind
    ·have:(decide (0 < rk) && decide (rk < 4))=false:=by
      rw [Bool.and_eq_false_iff,decide_eq_false_iff_not,decide_eq_false_iff_not];omega
     rw [ah k2,ah k3,decide_eq_false k1]
     grind
 clear hF hO;rw [hFb];refine eG 39 [.tmp 2] func38 rfl ntmps38 rfl fun _ _ _ _=>?_;refine cP WX h1 ?_;refine br ?_ ?_<;>intro g
 ·have g:b0=true/\(0 < op/\op < 5)/\(0 < rk/\rk < 4)/\ra=0:=by
   simp only [pickB_and,aO,decide_eq_true_eq,beq_iff_eq] at g
   grind
  have h2:=h2 (by omega);refine cP en83 h2 ?_;refine congrArg (fun z=>DV.v (Value.bool z)) ?_;obtain ⟨rfl,⟨g1,g2⟩,⟨g3,g4⟩,rfl⟩:=g;simp [pickB_and,g1,g2,g3,g4]
 ·refine congrArg (fun z=>DV.v (Value.bool z)) ?_;simp only [pickB_and] at g ⊢
  grind
section
variable {ND:List Nd} {f:Nat->Nat->Bool} {L:Nat}
theorem NY (c:fU) (i:Int) {d:Nd} (hd:cu ND i=some d) (e:Ed) (u:Val):walkQ ND c [] i e u=xZ d e u c:=by
 rw [walkQ,hd];rfl
end
section
variable {ND:List Nd} {f:Nat->Nat->Bool} {L:Nat}
theorem JV {c:fU} (h:gK c=true):(c.lit.k=1->c.lit.s≠aq)/\∀ s∈c.p,cd s=true:=by
 unfold gK gI Gv at h;simp only [aO,List.all_eq_true] at h;refine ⟨fun h1 hs=>?_,h.1.2⟩;have h2:=h.2.2.2.2.2;rw [ah (by omega),ah (by omega),aO,aO,hs] at h2;have h3:=h2.2.2
 revert h3
 decide
end
section
variable (lv:List Wd) (f:Nat->Nat->Bool) (ND:List Nd) (z:Int) (i:Nat) (d:Nd) (hd:ND[i]? = some d) (e:Ed) (u:Val) (c:fU) (s:dX) (p:List dX) (hp:p.length<=1099511627776)
include hd hp
theorem SK (h8:u.k=10∨u.k=11):EvP prog 42 [.agg (wL lv f ND z),.v (.int .i64 i),.agg (jv e),.agg (bD u),.sl 3 (cF (s :: p)) none,.agg (eL c)] (.v (.int .i64 0)):=by
 have xM:=eD ND;obtain ⟨uk,un,us,ul⟩:=u;have h8:uk=10∨uk=11:=h8;obtain ⟨ag,aE,lo,dz,most,af,es⟩:=d;obtain ⟨en,eb,ea,et,el,ew,dM,cY,qC,gv⟩:=e;obtain ⟨q,op,rk,ra,rn,rs,aJ,dC⟩:=c;obtain ⟨sk,sn,ss⟩:=s;rcases h8 with rfl | rfl
 all_goals
  refine eG 81 [.tmp 12] func42 rfl ntmps42 rfl fun _ _ _ _=>?_;refine iX (cp hd) ?_;refine dI ?_;exact (rfl:_=_)
theorem al_12 (h12:u.k=12) (hsk:1<=s.k/\s.k<=5) (dE:¬ (s.k=2/\s.n < u.n)):EvP prog 42 [.agg (wL lv f ND z),.v (.int .i64 i),.agg (jv e),.agg (bD u),.sl 3 (cF (s :: p)) none,.agg (eL c)] (.v (.int .i64 0)):=by
 have xM:=eD ND;have Bj:=eH (l:=s :: p) (e:=0) rfl;obtain ⟨uk,un,us,ul⟩:=u;obtain rfl:uk=12:=h12;obtain ⟨ag,aE,lo,dz,most,af,es⟩:=d;obtain ⟨en,eb,ea,et,el,ew,dM,cY,qC,gv⟩:=e;obtain ⟨q,op,rk,ra,rn,rs,aJ,dC⟩:=c;obtain ⟨sk,sn,ss⟩:=s;have dE:¬ (sk=2/\sn < un):=dE;by_cases k2:sk=2
 ·subst k2;refine eG 81 [.tmp 12] func42 rfl ntmps42 rfl fun _ _ _ _=>?_;refine iX (cp hd) ?_;refine dI ?_;refine ⟨_,⟨by omega,Bj⟩,?_⟩;refine ⟨_,⟨by omega,Bj⟩,?_⟩;refine br (fun g=>absurd ⟨rfl,of_decide_eq_true g⟩ dE) (fun _=>?_);exact (rfl:_=_)
 ·have hsk:sk=1∨sk=3∨sk=4∨sk=5:=by
   have:1<=sk/\sk<=5:=hsk;omega
  rcases hsk with rfl | rfl | rfl | rfl
  all_goals
   refine eG 81 [.tmp 12] func42 rfl ntmps42 rfl fun _ _ _ _=>?_;refine iX (cp hd) ?_;refine dI ?_;refine ⟨_,⟨by omega,Bj⟩,?_⟩;exact (rfl:_=_)
theorem QI (h8:1<=u.k/\u.k<=8) (hK:EvP prog 88 [.agg (iS d),.agg (bD u),.agg (jY s)] (.v (.int .i64 (-1)))):EvP prog 42 [.agg (wL lv f ND z),.v (.int .i64 i),.agg (jv e),.agg (bD u),.sl 3 (cF (s :: p)) none,.agg (eL c)] (.v (.int .i64 0)):=by
 have xM:=eD ND;have Bj:=eH (l:=s :: p) (e:=0) rfl;obtain ⟨uk,un,us,ul⟩:=u
 have h8:uk=1∨uk=2∨uk=3∨uk=4∨uk=5∨uk=6∨uk=7∨uk=8:=by
  have h8:1<=uk/\uk<=8:=h8;omega
 obtain ⟨ag,aE,lo,dz,most,af,es⟩:=d;obtain ⟨en,eb,ea,et,el,ew,dM,cY,qC,gv⟩:=e;obtain ⟨q,op,rk,ra,rn,rs,aJ,dC⟩:=c;obtain ⟨sk,sn,ss⟩:=s;rcases h8 with rfl | rfl | rfl | rfl | rfl | rfl | rfl | rfl
 all_goals
  refine eG 81 [.tmp 12] func42 rfl ntmps42 rfl fun _ _ _ _=>?_;refine iX (cp hd) ?_;refine dI ?_;refine dI ?_;refine ⟨_,⟨by omega,Bj⟩,?_⟩;refine cD W0 hK ?_;exact (rfl:_=_)
set_option maxHeartbeats 4000000 in
theorem QJ (h8:1<=u.k/\u.k<=8) (H3:u.ks.length<=1099511627776) (j:Nat) (x:Val) (hx:u.ks[j]? = some x) (hK:EvP prog 88 [.agg (iS d),.agg (bD u),.agg (jY s)] (.v (.int .i64 j))) (b:Ed) (t:Nat) (ht:b.to=t)
  (hE:EvP prog 89 [.agg (iS d),.agg (bD u),.v (.int .i64 j)] (.agg (jv b))) (F:Int) (hA:EvP prog 42 [.agg (wL lv f ND z),.v (.int .i64 t),.agg (jv b),.agg (bD x),.sl 3 (cF p) none,.agg (eL c)] (.v (.int .i64 F))) :
  EvP prog 42 [.agg (wL lv f ND z),.v (.int .i64 i),.agg (jv e),.agg (bD u),.sl 3 (cF (s :: p)) none,.agg (eL c)] (.v (.int .i64 F)):=by
 have xM:=eD ND;have Bj:=eH (l:=s :: p) (e:=0) rfl;have HW:=Nq s p;have Nr:=iA (s :: p);rw [List.length_cons] at Nr;obtain ⟨uk,un,us,ul⟩:=u;have hdx:=eF (show ul[j]? = some x from hx);have Ew:=bK ul;have H3:ul.length<=1099511627776:=H3
 have h8:uk=1∨uk=2∨uk=3∨uk=4∨uk=5∨uk=6∨uk=7∨uk=8:=by
  have h8:1<=uk/\uk<=8:=h8;omega
 obtain ⟨ag,aE,lo,dz,most,af,es⟩:=d;obtain ⟨en,eb,ea,et,el,ew,dM,cY,qC,gv⟩:=e;obtain ⟨bn,bb,ba',bt,bl,bw,bck,bcn,bsn,bca⟩:=b;obtain rfl:bt=t:=ht;obtain ⟨xk,xn,xs,xl⟩:=x;obtain ⟨q,op,rk,ra,rn,rs,aJ,dC⟩:=c;obtain ⟨sk,sn,ss⟩:=s;rcases h8 with rfl | rfl | rfl | rfl | rfl | rfl | rfl | rfl
 all_goals
  refine eG 81 [.tmp 12] func42 rfl ntmps42 rfl fun _ _ _ _=>?_;refine iX (cp hd) ?_;refine dI ?_;refine dI ?_;refine ⟨_,⟨by omega,Bj⟩,?_⟩;refine cD W0 hK ?_;refine cP W1 hE ?_;refine dI ?_;refine ⟨_,⟨by omega,hdx⟩,?_⟩;refine ⟨⟨by omega,by omega,by omega⟩,?_⟩;refine cD WL hA ?_ (o0 HW);exact (rfl:_=_)
end
theorem GC:prog.cellsOf 176=3:=by kernel_rfl
def NZ (p:List dX):Prop:=∀ s∈p,(-9223372036854775808<=s.k/\s.k<=9223372036854775807)/\(-9223372036854775808<=s.n/\s.n<=9223372036854775807)
def wtStp:List dX->Nat
 | []=>0
 | s :: p=>64 + s.s.size + wtStp p
theorem zA:∀ p:List dX,64 * p.length<=wtStp p
 | []=>aW _
 | s :: p=>by
  have:=zA p;rw [wtStp,List.length_cons];omega
theorem zB:∀ {p:List dX} {s:dX},s∈p->s.s.size<=wtStp p
 | s :: p,x,h=>by
  rcases cr h with rfl | h
  ·rw [wtStp];omega
  ·have:=zB h;rw [wtStp];omega
theorem DU {m:Nat}:∀ {es:List (List DV)},(∀ cs∈es,Typ prog m 176 cs)->∃ p:List dX,es=cF p/\NZ p/\wtStp p<=wgEs es
 | [],h=>⟨[],rfl,(fun _ h=>by cases h),by simp [wtStp]⟩
 | cs :: r,h=>by
  obtain ⟨p,rfl,hr,hl⟩:=DU (es:=r) (fun c hc=>h c (gh _ hc));obtain ⟨m',rfl,hf⟩:=iZ Tryz.underlying176 (h cs (by simp));obtain ⟨a1,b1,rfl,h1,a2,b2,rfl,h2,a3,b3,rfl,h3,rfl⟩:=hf;obtain ⟨k,rfl,hk⟩:=gV h1;obtain ⟨z,rfl,hz⟩:=gV h2;obtain ⟨s,rfl⟩:=tM Tryz.underlying9 h3;refine ⟨⟨k,z,s⟩ :: p,rfl,fun x hx=>?_,?_⟩
  ·rcases cr hx with rfl | hx
   ·exact ⟨hk,hz⟩
   ·exact hr x hx
  ·grind [wtStp,wgEs,cT,wgL,wgD]
theorem N1 {n:Nat} {ds:List DV} (h:Typ prog n 53 ds):∃ p:List dX,ds=[.sl 3 (cF p) none]/\NZ p/\wtStp p<=wgL ds:=by
 obtain ⟨j,es,rfl,rfl,ie⟩:=mI Tryz.underlying53 h;obtain ⟨p,rfl,hr,hl⟩:=DU ie;rw [GC];exact ⟨p,rfl,hr,by simp only [wgL,wgD];omega⟩
def cndW:List fU->Nat
 | []=>0
 | c :: r=>wtStp c.p + xg c.lit + cndW r
theorem qE:∀ {l:List fU} {c:fU},c∈l->wtStp c.p + xg c.lit<=cndW l
 | x :: r,c,h=>by
  rw [cndW];rcases cr h with rfl | h
  ·omega
  ·have:=qE h;omega
theorem DW:∀ l:List fU,64 * l.length<=cndW l
 | []=>aW _
 | c :: r=>by
  have:=DW r;have:=Bc c.lit;rw [cndW,List.length_cons];omega
theorem xy {c:fU} (h:wtStp c.p + xg c.lit<=1099511627776):H8 c:=by
 have h1:=zA c.p;obtain ⟨p,op,k,a,n,s,keys,ks⟩:=c;rw [xg] at h;have h2:=bp keys;have h3:=xi ks;simp only at h h1;refine ⟨by show p.length<=_;omega,fun x hx=>?_,by show s.size<=_;omega,by show keys.length + ks.length<=_;omega⟩;have:=zB (show x∈p from hx);omega
theorem N2 {m:Nat}:∀ {es:List (List DV)},(∀ cs∈es,Typ prog m 60 cs)->∃ L:List fU,es=fL L/\cndW L<=wgEs es
 | [],_=>⟨[],rfl,by simp [cndW]⟩
 | cs :: r,h=>by
  obtain ⟨L,rfl,hr⟩:=N2 (es:=r) (fun c hc=>h c (gh _ hc));obtain ⟨m',rfl,hf⟩:=iZ Tryz.underlying60 (h cs (by simp));obtain ⟨a1,b1,rfl,h1,a2,b2,rfl,h2,a3,b3,rfl,h3,rfl⟩:=hf;obtain ⟨p,rfl,r2,w2⟩:=N1 h1;obtain ⟨op,rfl,r1⟩:=gV h2;obtain ⟨x,rfl,w3⟩:=QF _ _ h3;refine ⟨⟨p,op,x⟩ :: L,?_,?_⟩
  ·simp [fL,eL]
  ·simp only [cndW,wgEs,cT] at *;omega
theorem JW:prog.cellsOf 60=8:=by kernel_rfl
theorem QK {ND:List Nd} {f:Nat->Nat->Bool} {L obs:Nat} (bF:∀ n∈ND,dg L ND.length n) {i:Nat} {e:Ed} {u:Val} (h:JS ND f L obs i e u) (h8:8 < u.k):u.k=9∨u.k=10∨u.k=11∨u.k=12:=by
 rcases h with ⟨a,h⟩ | ⟨t,ht,he,h⟩ | ⟨he,h⟩
 ·have:=SJ bF h;omega
 ·rcases zt h with h | h | h | h
  ·rw [h];exact .inl rfl
  ·omega
  ·omega
  ·omega
 ·rw [cE.1 h];exact .inl rfl
theorem QL {s:dX} (h:cd s=true):1<=s.k/\s.k<=5:=by
 unfold cd at h;split at h
 ·omega
 ·split at h
  ·omega
  ·split at h
   ·omega
   ·cases h
set_option maxHeartbeats 2000000 in
theorem qF (lv:List Wd) (f:Nat->Nat->Bool) (ND:List Nd) (z:Int) (obs:Nat) (bF:∀ n∈ND,dg lv.length ND.length n) (bL:∀ n∈ND,n.aw.length<=1099511627776) (o8:∀ n∈ND,qw n) (c:fU) (hn:c.lit.k=1->c.lit.s≠aq) (cV:c.lit.s.size<=1099511627776) :
  ∀ (p:List dX),p.length<=1099511627776->(∀ s∈p,cd s=true)->∀ (i:Nat) (e:Ed) (u:Val),i < ND.length->u.wt<=1099511627776->rngW u->JS ND f lv.length obs i e u->e.cn<=9223372036854775807 ->
   EvP prog 42 [.agg (wL lv f ND z),.v (.int .i64 i),.agg (jv e),.agg (bD u),.sl 3 (cF p) none,.agg (eL c)] (.v (.int .i64 (walkQ ND c p i e u)))
 | p,hp,hs,i,e,u,hi,hu,Ec,JX,Bq=>by
  obtain ⟨d,hd⟩:∃ d,ND[i]? = some d:=⟨_,gE hi⟩;have hdm:=mG hd;have hN:=bF d hdm;have hnd:=jA hd;have zl:=o8 d hdm;have hw:=NS bF hd JX;have Sa:=DO hw;have kW:=QK bF JX;obtain ⟨d',EF,w4,w8,w7,w5,wl⟩:=NP bF hw;rw [hnd] at EF;cases EF;have kA:=seeK_10 bF o8 hd (A8 Ec) JX;have AZ:=fun j x (h:u.ks[j]? = some x)=>NT bF hd JX h;have Og:=fun j x (h:u.ks[j]? = some x)=>Ba bF hw hnd h;have xM:=eD ND
  have H3:u.ks.length<=1099511627776:=by
   have h2:=dV u.ks;have hw:u.wt=64 + u.s.size + iL u.ks:=by obtain ⟨_,_,_,_⟩:=u;rfl
   omega
  have U7:u.s.size<=1099511627776:=by
   have hw:u.wt=64 + u.s.size + iL u.ks:=by obtain ⟨_,_,_,_⟩:=u;rfl
   omega
  have h6:u.k=6->u.ks.length<=1:=fun h=>by
   by_cases bg:u.ks=[]
   ·rw [bg];simp
   ·obtain ⟨x,hx⟩:∃ x,u.ks[0]? = some x:=⟨_,gE (List.length_pos_iff.2 bg)⟩;obtain ⟨_,q1,q2,_⟩:=Og 0 x hx;unfold shellF at q2;split at q2
    ·cases q2
    ·rw [ah (by omega),ai (by omega)] at q2;have:=of_decide_eq_true q2;omega
  cases p with
  | nil=>
   have hE:=DS d e u c w4 w8 h6 hn kA (A8 Ec) zl.1 zl.2.1 Bq U7 cV;rw [NY c i hnd];generalize xZ d e u c=F at hE ⊢;obtain ⟨ag,aE,lo,dz,most,af,es⟩:=d;obtain ⟨uk,un,us,ul⟩:=u;obtain ⟨en,eb,ea,et,el,ew,dM,cY,qC,gv⟩:=e;obtain ⟨q,op,rk,ra,rn,rs,aJ,dC⟩:=c;refine eG 81 [.tmp 12] func42 rfl ntmps42 rfl fun _ _ _ _=>?_;refine iX (cp hd) ?_;refine cP en87 hE ?_;exact (rfl:_=_)
  | cons s p=>
   rw [List.length_cons] at hp;have ih:=qF lv f ND z obs bF bL o8 c hn cV p (by omega) (fun x hx=>hs x (by simp [hx]));have P5:=hs s (by simp);have HW:=Nq s p;have Bj:=eH (l:=s :: p) (e:=0) rfl;have Nr:=iA (s :: p);rw [List.length_cons] at Nr;rw [walkQ,hnd];simp only;by_cases c9:u.k=9
   ·rw [ai c9];clear ih AZ Og JX kA hw w4 w8 w7 w5 wl h6 Sa kW;obtain ⟨uk,un,us,ul⟩:=u;have c9:uk=9:=c9;subst c9;obtain ⟨ag,aE,lo,dz,most,af,es⟩:=d;obtain ⟨en,eb,ea,et,el,ew,dM,cY,qC,gv⟩:=e;obtain ⟨q,op,rk,ra,rn,rs,aJ,dC⟩:=c;refine eG 81 [.tmp 12] func42 rfl ntmps42 rfl fun _ _ _ _=>?_;refine iX (cp hd) ?_;refine dI ?_;exact (rfl:_=_)
   rw [ah c9];by_cases Oy:u.k=12/\s.k=2/\s.n < u.n
   ·rw [ai Oy];clear ih AZ Og JX kA hw w4 w8 w7 w5 wl h6 Sa kW;obtain ⟨uk,un,us,ul⟩:=u;obtain ⟨sk,sn,ss⟩:=s;obtain ⟨rfl,rfl,c3⟩:uk=12/\sk=2/\sn < un:=Oy;obtain ⟨ag,aE,lo,dz,most,af,es⟩:=d;obtain ⟨en,eb,ea,et,el,ew,dM,cY,qC,gv⟩:=e;obtain ⟨q,op,rk,ra,rn,rs,aJ,dC⟩:=c;refine eG 81 [.tmp 12] func42 rfl ntmps42 rfl fun _ _ _ _=>?_;refine iX (cp hd) ?_;refine dI ?_;refine ⟨_,⟨by omega,Bj⟩,?_⟩;refine ⟨_,⟨by omega,Bj⟩,?_⟩;refine br (fun g=>?_) (fun g=>absurd c3 (of_decide_eq_false g));exact (rfl:_=_)
   rw [ah Oy];have Jf:=QL P5;by_cases h8:8 < u.k
   ·have F1:u.ks=[]:=wl (.inr (by omega));have h0:bc (se d u s) u.ks.length=none:=by rw [F1];all_goals rfl
    rw [h0];rcases kW h8 with h | h | h | h
    ·exact absurd h c9
    ·exact SK lv f ND z i d hd e u c s p (by omega) (.inl h)
    ·exact SK lv f ND z i d hd e u c s p (by omega) (.inr h)
    ·exact al_12 lv f ND z i d hd e u c s p (by omega) h Jf (fun g=>Oy ⟨h,g⟩)
   ·have Kj:u.k=d.ag:=by
     obtain ⟨d',EF,hc⟩:=Sa;rw [hnd] at EF;cases EF;rcases hc with h | h | h
     ·omega
     ·exact h.1
     ·exact h.1
    have o6:=hN.k1;have A0:=bL d hdm
    have hK:=Gm d u s hu (fun j hj=>by
     obtain ⟨x,hx⟩:∃ x,u.ks[j]? = some x:=⟨_,gE hj⟩;obtain ⟨q5,_,_⟩:=Og j x hx;refine Df d u j (fun h=>?_) (fun g5 g6 g7=>?_)
     ·have:=w7 (by omega);omega
     ·have:=hN.k8
      exact w8 (by omega))
    have hke:JN d u s=bc (se d u s) u.ks.length:=by
     by_cases h5:5<=d.ag
     ·exact U8 d u s Kj ⟨h5,hN.k8⟩ (fun h=>w7 (by omega)) (fun h=>w8 (by omega)) P5
     ·have F1:u.ks=[]:=wl (.inl (by omega));unfold JN bc;rw [F1];rfl
    rw [hke] at hK
    cases hf:bc (se d u s) u.ks.length with
    | none=>
     rw [hf] at hK;exact QI lv f ND z i d hd e u c s p (by omega) (by omega) hK
    | some j=>
     rw [hf] at hK;obtain ⟨hj,_,_⟩:=cM hf;obtain ⟨x,hx⟩:∃ x,u.ks[j]? = some x:=⟨_,gE hj⟩;obtain ⟨b,t,q1,q2,q3,q4,q5,q6⟩:=AZ j x hx;simp only;rw [hx,q2];simp only
     have Ug:x.wt<=1099511627776:=by
      have h2:=gH (mG hx);have hw:u.wt=64 + u.s.size + iL u.ks:=by obtain ⟨_,_,_,_⟩:=u;rfl
      omega
     have hbn:b.cn<=9223372036854775807:=by
      have:=(zl.2.2 b q3);exact this.2
     rw [q4];exact QJ lv f ND z i d hd e u c s p (by omega) (by omega) H3 j x hx hK b t q4 (sS d u j b q1 (fun h=>w8 (by omega)) A0) _ (ih t b x q5 Ug (jz (qv Ec) (mG hx)) q6 hbn)
theorem Be (lv:List Wd) (f:Nat->Nat->Bool) (ND:List Nd) (rt:Nat) (fy:rt < ND.length) (hL:dG f lv.length) (hn:lv.length<=32) (bF:∀ n∈ND,dg lv.length ND.length n) (bL:∀ n∈ND,n.aw.length<=1099511627776) (o8:∀ n∈ND,qw n) (o:Int) (u:Val) (hu:u.wt<=1099511627776) (Ec:rngW u) (c:fU) (hc:wtStp c.p + xg c.lit<=1099511627776) :
  EvP prog 10 [.agg (wL lv f ND (rt:Nat)),.v (.int .i64 o),.agg (bD u),.agg (eL c)] (.v (.int .i64 (nc ND f lv.length rt o u c))):=by
 have uz:=xy hc;have h1:=x5 c uz.s (by omega);have h2:=w9 lv f ND rt fy hL hn bF bL o8 o u hu Ec;have hb:=n7 lv.length f (by omega);rw [nI hL] at hb;have h3:=sP lv f ND (rt:Nat) hL hn bF bL c.p uz.p (fun s h=>by have:=uz.s s h;omega) rt (iM f lv.length) fy (qp hL)
 have h4:gK c=true->nP ND f lv.length rt o u=true->EvP prog 42 [.agg (wL lv f ND (rt:Nat)),.v (.int .i64 (rt:Nat)),.agg (jv fg),.agg (bD u),.sl 3 (cF c.p) none,.agg (eL c)] (.v (.int .i64 (walkQ ND c c.p rt fg u))):=fun hr hs=>by
  obtain ⟨r1,r2⟩:=JV hr;exact qF lv f ND (rt:Nat) o.toNat bF bL o8 c r1 uz.l c.p uz.p r2 rt fg u fy hu Ec (.inl ⟨_,(QB hs).2⟩) (by decide)
 have hF:nc ND f lv.length rt o u c=if gK c=true/\nP ND f lv.length rt o u=true/\(walkV ND f lv.length c.p rt (iM f lv.length)).isSome=true then walkQ ND c c.p rt fg u else 0:=rfl
 generalize nc ND f lv.length rt o u c=F at hF ⊢;generalize walkQ ND c c.p rt fg u=Q at h4 hF;generalize gK c=b1 at h1 hF h4;generalize nP ND f lv.length rt o u=b2 at h2 h4 hF;generalize walkV ND f lv.length c.p rt (iM f lv.length)=W at h3 hF;obtain ⟨p,op,rk,ra,rn,rs,aJ,dC⟩:=c;obtain ⟨uk,un,us,ul⟩:=u
 cases b1 with
 | false=>
  rw [ah (by simp)] at hF;subst hF;refine eG 44 [.tmp 8] func10 rfl ntmps10 rfl fun _ _ _ _=>?_;refine cP Pa h1 ?_;exact (rfl:_=_)
 | true=>
  cases b2 with
  | false=>
   rw [ah (by simp)] at hF;subst hF;refine eG 44 [.tmp 8] func10 rfl ntmps10 rfl fun _ _ _ _=>?_;refine cP Pa h1 ?_;refine cP Tv h2 ?_;exact (rfl:_=_)
  | true=>
   cases W with
   | none=>
    rw [ah (by simp)] at hF;subst hF;refine eG 44 [.tmp 8] func10 rfl ntmps10 rfl fun _ _ _ _=>?_;refine cP Pa h1 ?_;refine cP Tv h2 ?_;refine dI ?_;refine cD Tx hb ?_;refine cD Tw h3 ?_;exact (rfl:_=_)
   | some jb=>
    obtain ⟨j,b⟩:=jb;rw [ai (by simp)] at hF;subst hF;have h4:=h4 rfl rfl;refine eG 44 [.tmp 8] func10 rfl ntmps10 rfl fun _ _ _ _=>?_;refine cP Pa h1 ?_;refine cP Tv h2 ?_;refine dI ?_;refine cD Tx hb ?_;refine cD Tw h3 ?_;refine cP WL h4 ?_;exact (rfl:_=_)
def Va (o:Int) (ask:List fU):List DV:=[.v (.int .i64 o),.sl 8 (fL ask) none]
theorem typ_q40 {n:Nat} {ds:List DV} (h:Typ prog n 37 ds):∃ o ask,ds=Va o ask/\cndW ask<=wgL ds:=by
 obtain ⟨m,rfl,hf⟩:=iZ Tryz.underlying37 h;obtain ⟨a1,b1,rfl,h1,a2,b2,rfl,h2,rfl⟩:=hf;obtain ⟨o,rfl,_⟩:=gV h1;obtain ⟨j,es,rfl,rfl,ie⟩:=mI Tryz.underlying35 h2;obtain ⟨L,rfl,hL⟩:=N2 ie;rw [JW];refine ⟨o,L,rfl,?_⟩;simp only [cT,wgL,wgD] at *;omega
def tyQ40:List TypeId:=[37,35,60,53,176,56,54,22,27,9,3]
theorem tyQ40_ok:∀ t∈tyQ40,lB prog tyQ40 t=true:=by
 have h:(tyQ40.all fun t=>lB prog tyQ40 t)=true:=by kernel_rfl
 exact fun t ht=>List.all_eq_true.1 h t ht
theorem DX (S:Sch) (hS:S.wt<=1099511627776) (x:Val) (hx:x.wt<=1099511627776) :
  Ev prog 5 [.agg (eB S),.agg (bD x)] [] [] (fun r _ _=>∃ b:Bool,r = .v (.bool b)/\(b=true->wT S)):=by
 have ga:=AB S hS;have hf:=DF S hS;have h1:=sI x.wt x (aW _) hx;generalize C7 x=c1 at h1;generalize xU x=d1 at h1;obtain ⟨ae,order,types,⟨rh,rp⟩⟩:=S;obtain ⟨xk,xn,xs,Z8⟩:=x;refine eG 23 [.tmp 4] func5 rfl ntmps5 rfl fun _ _ _ _=>?_;refine cP WG h1 ?_;refine br ?_ ?_<;>intro c
 ·refine bG en20 rfl ga ax (fun r hr=>?_);obtain ⟨g,rfl⟩:=hr
  cases g with
  | true=>
   refine ⟨false,?_,fun h=>by cases h⟩;refine (bo ?_:);simp only [pickB_and,Bool.not_true,Bool.and_false,Bool.false_and]
  | false=>
   refine bG en21 rfl hf ax (fun r hr=>?_);obtain ⟨b,rfl,hb⟩:=hr;exact ⟨b,rfl,hb⟩
 ·exact ⟨false,rfl,fun h=>by cases h⟩
abbrev Vb (L:List fU) (e:Nat):St:=⟨[aZ 0 8 (fL L),au 3 e],[],[]⟩
def aar (L:List fU):Prop:=L.length<=30/\∀ c∈L,oO c.lit<=100
theorem Bf (L:List fU) (hw:cndW L<=1099511627776) :
  Ev prog 6 [.sl 8 (fL L) none] [] [] (fun r _ _=>∃ b:Bool,r = .v (.bool b)/\(b=true->aar L)):=by
 have cw:=r8 L;refine eG 45 [.tmp 2] func6 rfl ntmps6 rfl fun _ _ _ _=>?_;refine br (fun g=>⟨false,rfl,fun h=>by cases h⟩) (fun g=>?_)
 have h30:L.length<=30:=by
  have h2:=g;simp [cw] at h2;omega
 refine lI (fun j st=>∃ e:Nat,st=Vb L e/\e<=L.length/\(∀ c∈L.take e,oO c.lit<=100)/\j=L.length - e) ⟨0,rfl,by omega,by simp,rfl⟩ (wkB 0 kZ gR) ?_;rintro _ st ⟨e,rfl,he,N3,rfl⟩;refine br ?_ ?_<;>intro CE
 ·have av:e < L.length:=sV cw CE;obtain ⟨c,hc⟩:=gX av;have KV:=qE (mG hc);have h1:=nd _ c.lit (aW _) (by omega);have hcg:=sa hc
  have cV:oO c.lit<=100->∀ u∈L.take (e + 1),oO u.lit<=100:=fun h u hu=>by
   rw [List.take_add_one,hc] at hu;rcases List.mem_append.1 hu with hu | hu
   ·exact N3 u hu
   ·simp at hu;rw [hu];exact h
  generalize oO c.lit=ct at h1 cV;generalize sg c.lit=dp at h1;obtain ⟨p,op,rk,ra,rn,rs,aJ,dC⟩:=c;have hi:(0:Int)<=e/\(fL L)[((e:Nat):Int).toNat]? = some (eL ⟨p,op,.mk rk ra rn rs aJ dC⟩):=⟨by omega,hcg⟩;refine ⟨_,hi,?_⟩;refine cP Ts h1 ?_;refine br ?_ ?_<;>intro g1
  ·refine ⟨_,hi,?_⟩;refine br ?_ ?_<;>intro g2
   ·refine ⟨_,hi,?_⟩;refine br ?_ ?_<;>intro g3
    ·exact ⟨false,rfl,fun h=>by cases h⟩
    ·exact rE ⟨_,by omega,e + 1,rfl,by omega,cV (by simp at g1;omega),rfl⟩ (wkB 0 (mw (nxt av (by omega))) (wB1 (nxt av (by omega))))
   ·exact ⟨false,rfl,fun h=>by cases h⟩
  ·exact ⟨false,rfl,fun h=>by cases h⟩
 ·have hge:L.length<=e:=by
   have h2:=CE;simp [cw] at h2;omega
  rw [List.take_of_length_le hge] at N3;exact ⟨true,rfl,fun _=>⟨h30,N3⟩⟩
theorem DY (c:fU):EvP prog 11 [.agg (eL c)] (.agg (eL c)):=by
 obtain ⟨p,op,rk,ra,rn,rs,aJ,dC⟩:=c;refine eG 10 [.cell 2 58] func11 rfl ntmps11 rfl fun _ _ _ _=>?_;exact ⟨_,ax,rfl⟩
def foldE (E:fU->Int):List fU->Int->Int
 | [],a=>a
 | c :: r,a=>foldE E r (if E c=0∨(E c=2/\a=1) then E c else a)
theorem fold_0 (E:fU->Int):∀ l,foldE E l 0=0
 | []=>rfl
 | c :: r=>by
  rw [foldE];by_cases h:E c=0
  ·rw [ai (.inl h),h];exact fold_0 E r
  ·rw [ah (fun g=>g.elim h (fun q=>absurd q.2 (by decide)))];exact fold_0 E r
theorem qG (E:fU->Int):∀ (l:List fU) (a:Int),(a=1∨a=2)->foldE E l a=allQ E l a
 | [],_,_=>rfl
 | c :: r,a,h=>by
  rw [foldE,allQ];by_cases h0:E c=0
  ·rw [ai (.inl h0),ai h0,h0];exact fold_0 E r
  ·rw [ah h0];by_cases h2:E c=2
   ·rw [ai h2];by_cases ha:a=1
    ·rw [ai (.inr ⟨h2,ha⟩),h2];exact qG E r 2 (.inr rfl)
    ·rw [ah (fun g=>g.elim h0 (fun q=>ha q.2)),show a=2 by omega];exact qG E r 2 (.inr rfl)
   ·rw [ah (fun g=>g.elim h0 (fun q=>h2 q.1)),ah h2];exact qG E r a h
abbrev aas (PC S:List DV) (x:Val) (o:Int) (L:List fU) (W:List DV) (a:Int) (e:Nat):St:=
 ⟨[aD 4 1,aD 5 2,pz 7 PC,aD 9 4,au 10 a,au 11 e],[S,bD x,Va o L,[.v (.int .i64 0),.v (.int .i64 0)],W],[]⟩
set_option maxHeartbeats 4000000 in
theorem evals40_law (R6:EvP prog 7 [] (.v (.bool true))) (S:Sch) (hS:S.wt<=1099511627776) (VI:Ps S) (x:Val) (hx:x.wt<=1099511627776) (xE:rngW x) (o:Int) (L:List fU) (hL:cndW L<=1099511627776) :
  EvP prog 3 [.agg (eB S),.agg (bD x),.agg (Va o L)] (.v (.bool true)):=by
 have hf:=DX S hS x hx;have av:=Bf L hL;have hb:=(vK S hS).mono (Ψ:=fun r _ _=>FW S r) fun _ _ _ h=>zc hS h;have hw:=fun h=>qd S hS h;have Oq:=@FV S;have hRr:=fun n (hn:n∈aR S)=>wS VI hn;have Vc:∀ n∈aR S,n.aw.length<=1099511627776:=fun n hn=>(kN hn hS).2;have Uf:=DW L;have cw:=r8 L
 have key:wT S->∀ PC,jX S (aR S) PC->∃ (root:Nat) (E:fU->Int),dL S=root /\
   (∀ c∈L,EvP prog 12 [.pt PC 0,.v (.int .i64 o),.agg (bD x),.agg (eL c)] (.v (.int .i64 (E c)))) /\
   (∀ c∈L,EvP prog 10 [.agg (wL S.ae (aV S) (aR S) (root:Nat)),.v (.int .i64 o),.agg (bD x),.agg (eL c)] (.v (.int .i64 (E c)))) /\
   EvP prog 13 [.pt PC 0,.v (.int .i64 o),.agg (bD x),.sl 8 (fL L) none] (.v (.int .i64 (allQ E L 1))):=fun h0 PC hP=>by
  obtain ⟨root,Gd,fy⟩:=Oq (qc h0.EH);obtain ⟨LC,lQ,hR⟩:=hP.Qq
  have hE:∀ c∈L,EvP prog 12 [.pt PC 0,.v (.int .i64 o),.agg (bD x),.agg (eL c)] (.v (.int .i64 (nc (aR S) (aV S) S.ae.length root o x c))):=fun c hc=>
   s7 hP lQ hR hRr Vc root Gd fy o c (xy (by have:=qE hc;omega)) x hx xE
  exact ⟨root,nc (aR S) (aV S) S.ae.length root o x,Gd,hE,fun c hc=>Be S.ae (aV S) (aR S) root fy hR.ok hR.n32 hP.ok Vc hRr o x hx xE c (by have:=qE hc;omega),xe PC o x L (by omega) _ hE⟩
 obtain ⟨ae,order,types,⟨rh,rp⟩⟩:=S;obtain ⟨xk,xn,xs,Z8⟩:=x;refine eG 84 [.tmp 6] func3 rfl ntmps3 rfl fun _ _ _ _=>?_;refine bG en5 rfl hf ax (fun r hr=>?_);obtain ⟨b,rfl,h0⟩:=hr
 cases b with
 | false=>
  refine cP en7 R6 ?_;exact (rfl:_=_)
 | true=>
  have hF:=h0 rfl;have h0:=hF.EH;have hw:=hw h0;refine bG en6 rfl av ax (fun r hr=>?_);obtain ⟨b,rfl,hLi⟩:=hr
  cases b with
  | false=>
   refine cP en7 R6 ?_;exact (rfl:_=_)
  | true=>
   refine bG en8 rfl hb ax (fun r hr=>?_);rcases hr with ⟨hr,_⟩ | ⟨_,PC,hP,rfl⟩
   ·exact (hr h0).elim
   obtain ⟨root,E,Gd,hE,hR,hA⟩:=key hF PC hP;rw [Gd] at hw;have Sn:=qG E L 1 (.inl rfl);have Sn:foldE E (L.drop 0) 1=allQ E L 1:=Sn;generalize allQ E L 1=F at Sn hA;clear key hf av hb Oq hRr Vc;refine cP en9 hw ?_;refine lI (fun j st=>∃ (a:Int) (e:Nat),st=aas PC (eB ⟨ae,order,types,.mk rh rp⟩) (.mk xk xn xs Z8) o L (wL ae (aV ⟨ae,order,types,.mk rh rp⟩) (aR ⟨ae,order,types,.mk rh rp⟩) (root:Nat)) a e/\e<=L.length/\foldE E (L.drop e) a=F/\j=L.length - e) ⟨1,0,rfl,by omega,Sn,rfl⟩ (wkB 5 kZ gR) ?_;rintro j st ⟨a,e,rfl,he,jh,rfl⟩;refine br ?_ ?_<;>intro CE
   ·have av:e < L.length:=sV cw CE;obtain ⟨c,hc⟩:=gX av;have hm:=mG hc;have Vs:=hE c hm;have hR1:=hR c hm;have Tg:=DY c
    have zl:L.drop e=c :: L.drop (e + 1):=by
     obtain ⟨h1,h2⟩:=List.getElem?_eq_some_iff.1 hc;rw [List.drop_eq_getElem_cons h1,h2]
    rw [zl,foldE] at jh;have hcg:=sa hc;generalize E c=n at Vs hR1 jh;have hi:(0:Int)<=e/\(fL L)[((e:Nat):Int).toNat]? = some (eL c):=⟨by omega,hcg⟩;clear hE hR Sn hw h0 hF hLi;obtain ⟨p,op,rk,ra,rn,rs,aJ,dC⟩:=c;refine dI ?_;refine ⟨_,hi,?_⟩;refine cD en11 Tg ?_;refine cD en10 hR1 ?_;refine dI ?_;refine ⟨_,hi,?_⟩;refine cD O6 Vs ?_;refine br (fun g=>?_) (fun _=>?_)
    ·exfalso;simp at g
    refine br ?_ ?_<;>intro g
    ·have g:n=0∨(n=2/\a=1):=by simpa [aj,pickB_and] using g
     rw [ai g] at jh;exact rE ⟨_,by omega,n,e + 1,rfl,by omega,jh,rfl⟩ (wkB 5 (mw (nxt av (by omega))) (wB1 (nxt av (by omega))))
    ·have g:¬ (n=0∨(n=2/\a=1)):=by simpa [aj,pickB_and] using g
     rw [ah g] at jh;exact rE ⟨_,by omega,a,e + 1,rfl,by omega,jh,rfl⟩ (wkB 5 (mw (nxt av (by omega))) (wB1 (nxt av (by omega))))
   ·have hge:L.length<=e:=sV cw CE;rw [List.drop_eq_nil_of_le hge,foldE] at jh;subst jh;refine cP WE hA ?_;refine br (fun _=>?_) (fun g=>?_)
    ·refine cP en7 R6 ?_;refine congrArg (fun z=>DV.v (Value.bool z)) ?_;simp [pickB_and]
    ·exfalso;simp at g
def nf (c:UInt8):Bool:=decide (48<=c.toNat) && decide (c.toNat<=57)
def digN:List UInt8->Nat
 | []=>0
 | c :: r=>if nf c=true then digN r + 1 else 0
def fM (l:List UInt8):Nat:=l.foldl (fun n c=>n * 10 + (c.toNat - 48)) 0
theorem Ib:∀ l,digN l<=l.length
 | []=>aW _
 | c :: r=>by
  have:=Ib r;rw [digN,List.length_cons];split<;>omega
theorem DZ:∀ (l:List UInt8) (c:UInt8),c∈l.take (digN l)->nf c=true
 | [],c,h=>by cases h
 | b :: r,c,h=>by
  rw [digN] at h;by_cases g:nf b=true
  ·rw [ai g,List.take_succ_cons,List.mem_cons] at h;rcases h with rfl | h
   ·exact g
   ·exact DZ r c h
  ·rw [ah g] at h;cases h
theorem JY (l:List UInt8) (c:UInt8):fM (l ++ [c])=fM l * 10 + (c.toNat - 48):=by simp [fM]
theorem xz (f:Nat->UInt8->Nat) (hf:∀ n c,n<=f n c):∀ (l:List UInt8) (n:Nat),n<=l.foldl f n
 | [],n=>aW _
 | c :: r,n=>Nat.le_trans (hf n c) (xz f hf r (f n c))
theorem JZ (l r:List UInt8):fM l<=fM (l ++ r):=by
 unfold fM;rw [List.foldl_append];exact xz _ (fun n c=>by omega) r _
theorem J0 {l:List UInt8} {i:Nat} {c:UInt8} (h:l[i]? = some c):fM (l.take (i + 1))=fM (l.take i) * 10 + (c.toNat - 48):=by
 rw [List.take_add_one,h];exact JY _ _
theorem QM (l:List UInt8) (i:Nat):fM (l.take i)<=fM l:=by
 have:=JZ (l.take i) (l.drop i)
 rwa [List.take_append_drop] at this
def tC (l:List UInt8) (m:Bool):Int × Bool:=
 if m=true then (if fM l<=9223372036854775808 then (-(fM l:Nat),true) else (0,false))
 else (if fM l<=9223372036854775807 then ((fM l:Nat),true) else (0,false))
theorem QN {n d:Int} (hn:n<=0) (hd:0<=d/\d<=9):n < (-9223372036854775808 + d).tdiv 10↔9223372036854775808 < -n * 10 + d:=by
 rw [wo (by decide) (by omega)];omega
abbrev rnSt (s:ByteArray) (e:Nat):St:=⟨[(0,⟨[],.v (.string s)⟩),au 5 s.size,au 6 e],[],[]⟩
theorem J1 (s:ByteArray) (hs:s.size<=4611686018427387904):EvP prog 207 [.v (.string s)] (.v (.int .i64 (digN s.data.toList:Nat))):=by
 refine eG 23 [.tmp 2] func207 rfl ntmps207 rfl fun _ _ _ _=>?_;refine lI (fun j st=>∃ e:Nat,st=rnSt s e/\e<=s.size/\e + digN (s.data.toList.drop e)=digN s.data.toList/\j=s.size - e) ⟨0,rfl,by omega,by simp,rfl⟩ (wkM wB) ?_;rintro j st ⟨e,rfl,he,hinv,rfl⟩;refine br ?_ ?_<;>intro h
 ·have av:e < s.size:=sU h;obtain ⟨c,hd,hb⟩:=jq av;rw [hd,digN] at hinv;refine ⟨⟨by omega,by omega⟩,?_⟩
  have dE:nf c=false->DV.v (Value.int .i64 e) = .v (.int .i64 (digN s.data.toList:Nat)):=fun h=>by
   rw [ah (by rw [h];decide)] at hinv;rw [<- hinv];rfl
  refine br ?_ ?_<;>intro g
  ·have g:¬ c.toNat < 48:=by
    have:¬ ((bd s e:Nat):Int) < 48:=sU g;omega
   refine ⟨⟨by omega,by omega⟩,?_⟩;refine br ?_ ?_<;>intro g2
   ·have g2:57 < c.toNat:=by
     have:57 < ((bd s e:Nat):Int):=of_decide_eq_true g2;omega
    exact dE (by unfold nf;rw [decide_eq_false (p:=c.toNat<=57) (by omega),Bool.and_false])
   ·have g2:¬ 57 < c.toNat:=by
     have:¬ 57 < ((bd s e:Nat):Int):=of_decide_eq_false g2;omega
    rw [ai (by unfold nf;rw [decide_eq_true (by omega:48<=c.toNat),decide_eq_true (by omega:c.toNat<=57)];rfl)] at hinv;exact rE ⟨_,by omega,e + 1,rfl,by omega,by omega,rfl⟩ (wkM (wB1 (nxt av (by omega))))
  ·have g:c.toNat < 48:=by
    have:((bd s e:Nat):Int) < 48:=sU g;omega
   exact dE (by unfold nf;rw [decide_eq_false (by omega),Bool.false_and])
 ·have hge:e=s.size:=by simp at h;omega
  rw [pH (by omega)] at hinv;simp only [digN] at hinv;subst hge;refine congrArg (fun z=>DV.v (Value.int .i64 z)) ?_;omega
abbrev vlSt (s:ByteArray) (m:Bool) (n:Int) (e:Nat):St:=⟨[(0,⟨[],.v (.string s)⟩),uF 1 m,au 6 n,au 10 s.size,au 11 e],[],[]⟩
theorem J2 (s:ByteArray) (hs:s.size<=4611686018427387904) (m:Bool) (hd:∀ c∈s.data.toList,nf c=true):EvP prog 208 [.v (.string s),.v (.bool m)] (.tup [.v (.int .i64 (tC s.data.toList m).1),.v (.bool (tC s.data.toList m).2)]):=by
 refine eG 35 [.tmp 4,.tmp 5] func208 rfl ntmps208 rfl fun _ _ _ _=>?_;refine lI (fun j st=>∃ e:Nat,st=vlSt s m (-(fM (s.data.toList.take e):Nat)) e/\e<=s.size/\fM (s.data.toList.take e)<=9223372036854775808/\j=s.size - e) ⟨0,rfl,by omega,by simp [fM],rfl⟩ (wkM wB) ?_;rintro j st ⟨e,rfl,he,fN,rfl⟩;refine br ?_ ?_<;>intro h
 ·have av:e < s.size:=sU h;obtain ⟨c,zl,hb⟩:=jq av
  have Yu:s.data.toList[e]? = some c:=by
   have:=congrArg List.head? zl
   rwa [List.head?_drop,List.head?_cons] at this
  have RW:=hd c (mG Yu);unfold nf at RW;simp only [aO,decide_eq_true_eq] at RW;have bi:=J0 Yu;have hmono:=QM s.data.toList (e + 1);refine ⟨⟨by omega,by omega⟩,?_⟩;have Q7:bd s (e:Int).toNat=c.toNat:=hb
  have hw:IntKind.i64.wrap (IntKind.u8.wrap ((bd s (e:Int).toNat:Nat) - 48))=((c.toNat - 48:Nat):Int):=by
   rw [Q7,IntKind.wrap_u8,wrap64 (by omega) (by omega)];omega
  have hw2:IntKind.i64.wrap (-9223372036854775808 + ((c.toNat - 48:Nat):Int)) = -9223372036854775808 + ((c.toNat - 48:Nat):Int):=wrap64 (by omega) (by omega);have hq:=QN (n:=-(fM (s.data.toList.take e):Nat)) (d:=((c.toNat - 48:Nat):Int)) (by omega) (by omega)
  have Ub:(-9223372036854775808 + ((c.toNat - 48:Nat):Int)).tdiv 10 = -((9223372036854775808 - ((c.toNat - 48:Nat):Int)) / 10):=by
   rw [show -9223372036854775808 + ((c.toNat - 48:Nat):Int) = -(9223372036854775808 - ((c.toNat - 48:Nat):Int)) by omega,Int.neg_tdiv,Int.tdiv_eq_ediv_of_nonneg (by omega)]
  have Ij:IntKind.i64.wrap ((-9223372036854775808 + ((c.toNat - 48:Nat):Int)).tdiv 10)=(-9223372036854775808 + ((c.toNat - 48:Nat):Int)).tdiv 10:=by
   rw [Ub];exact wrap64 (by omega) (by omega)
  refine ⟨⟨rfl,by decide⟩,?_⟩;refine br ?_ ?_<;>intro g
  ·have g:=of_decide_eq_true g;rw [hw,hw2,Ij,hq] at g;have bY:9223372036854775808 < fM s.data.toList:=by omega
   have hv:tC s.data.toList m=(0,false):=by
    unfold tC;cases m
    ·rw [ah (by decide),ah (by omega)]
    ·rw [ai rfl,ah (by omega)]
   rw [hv];exact ⟨_,ax,rfl⟩
  ·have g:=of_decide_eq_false g;rw [hw,hw2,Ij,hq] at g
   have qI:IntKind.i64.wrap (IntKind.i64.wrap (-(fM (s.data.toList.take e):Nat) * 10) - IntKind.i64.wrap (IntKind.u8.wrap ((bd s (e:Int).toNat:Nat) - 48))) = -(fM (s.data.toList.take (e + 1)):Nat):=by
    rw [hw,wrap64 (n:=-(fM (s.data.toList.take e):Nat) * 10) (by omega) (by omega),wrap64 (by omega) (by omega)];omega
   exact rE ⟨_,by omega,e + 1,rfl,by omega,by omega,rfl⟩ (wkM (wB2 (nxt av (by omega)) qI))
 ·have hge:e=s.size:=by simp at h;omega
  subst hge;rw [List.take_of_length_le (by simp)] at fN ⊢
  cases m with
  | true=>
   have hv:tC s.data.toList true=(-((fM s.data.toList:Nat):Int),true):=by
    unfold tC;rw [ai rfl,ai (by omega)]
   rw [hv];exact ⟨_,ax,rfl⟩
  | false=>
   refine br ?_ ?_<;>intro g
   ·have g:=of_decide_eq_true g
    have hv:tC s.data.toList false=(0,false):=by
     unfold tC;rw [ah (by decide),ah (by omega)]
    rw [hv];exact ⟨_,ax,rfl⟩
   ·have g:=of_decide_eq_false g
    have hw:IntKind.i64.wrap (0 - -((fM s.data.toList:Nat):Int))=((fM s.data.toList:Nat):Int):=by
     rw [wrap64 (by omega) (by omega)];omega
    have hv:tC s.data.toList false=(IntKind.i64.wrap (0 - -((fM s.data.toList:Nat):Int)),true):=by
     rw [hw];unfold tC;rw [ah (by decide),ai (by omega)]
    rw [hv];exact ⟨_,ax,rfl⟩
theorem D0 (s:ByteArray) (hs:s.size<=1099511627776) (i:Nat) (hi:i < s.size) (c:UInt8) (hc:s.data.toList[i]? = some c) (hd:nf c=true) (hz:c.toNat=48->digN (s.data.toList.drop i)=1) (hv:fM ((s.data.toList.drop i).take (digN (s.data.toList.drop i)))<=9223372036854775807) :
  EvP prog 166 [.v (.string s),.v (.int .i64 i)] (.tup [.v (.int .i64 (fM ((s.data.toList.drop i).take (digN (s.data.toList.drop i))):Nat)),.v (.int .i64 ((i + digN (s.data.toList.drop i):Nat):Int)),Ft.d (0,0)]):=by
 obtain ⟨c',zl,hb⟩:=jq hi
 have uz:c'=c:=by
  have:=congrArg List.head? zl;rw [List.head?_drop,List.head?_cons,hc] at this;exact (Option.some.inj this).symm
 subst uz;have hbi:bd s (i:Int).toNat=c'.toNat:=hb
 have h1:1<=digN (s.data.toList.drop i):=by
  rw [zl,digN,ai hd];omega
 have h2:=Ib (s.data.toList.drop i);rw [List.length_drop] at h2;have oZ:s.data.toList.length=s.size:=by simp
 unfold nf at hd;simp only [aO,decide_eq_true_eq] at hd;have hx:(s.extract i (s.size:Int).toNat).data.toList=s.data.toList.drop i:=qu s i hs
 have ch:=J1 (s.extract i (s.size:Int).toNat) (by
  have:=congrArg List.length hx;rw [List.length_drop] at this;have h3:(s.extract i (s.size:Int).toNat).data.toList.length=(s.extract i (s.size:Int).toNat).size:=by simp
  omega)
 rw [hx] at ch;have jg:=DZ (s.data.toList.drop i);generalize hK:digN (s.data.toList.drop i)=k at *
 have hy:(s.extract i (i + k)).data.toList=(s.data.toList.drop i).take k:=by
  have h3:i + k<=s.size:=by omega
  simp
  all_goals omega
 have hval:=J2 (s.extract i (i + k)) (by
  have:=congrArg List.length hy;rw [ez,List.length_drop] at this;have h3:(s.extract i (i + k)).data.toList.length=(s.extract i (i + k)).size:=by rw [Array.length_toList,ByteArray.size_data]
  omega) false (by rw [hy];exact jg)
 rw [hy] at hval;generalize (s.data.toList.drop i).take k=L at hval hv ⊢
 have hR:tC L false=(((fM L:Nat):Int),true):=by
  unfold tC;rw [ah (by decide),ai hv]
 rw [hR] at hval;generalize fM L=V at hval hv ⊢;clear hR jg hx hy
 have hw:IntKind.i64.wrap ((i:Int) + k)=((i + k:Nat):Int):=by
  rw [wrap64 (by omega) (by omega)];omega
 rw [<- hw];refine eG 88 [.tmp 4,.tmp 5,.cell 6 44] func166 rfl ntmps166 rfl fun _ _ _ _=>?_;refine br (fun g=>?_) (fun _=>?_)
 ·exfalso;simp [aj] at g;omega
 refine br (fun _=>?_) (fun g=>absurd (show (i:Int) < s.size by omega) (sU g));refine ⟨⟨by omega,by omega⟩,?_⟩;have h45:¬ ((bd s (i:Int).toNat:Nat):Int)=45:=by omega
 refine br (fun g=>?_) (fun _=>?_)
 ·exfalso;exact h45 (by simpa [pickB] using g)
 refine ⟨⟨by omega,by omega,by omega⟩,?_⟩;refine cP XN ch ?_;refine br (fun g=>?_) (fun _=>?_)
 ·exfalso;have g:((k:Nat):Int)=0/\(i:Int)=s.size:=by simpa [pickB_and] using g
  omega
 refine br (fun g=>?_) (fun _=>?_)
 ·exfalso;have g:((k:Nat):Int)=0:=of_decide_eq_true g;omega
 refine ⟨⟨by omega,by omega⟩,?_⟩;refine br (fun g=>?_) (fun _=>?_)
 ·exfalso;simp [pickB_and,aj] at g;have h48:bd s i=48:=by omega
  have:=hz (by omega);omega
 have hval:EvP prog 208 [.v (.string (s.extract (i:Int).toNat (IntKind.i64.wrap ((i:Int) + k)).toNat)),.v (.bool (decide (((bd s (i:Int).toNat:Nat):Int)=45)))] (.tup [.v (.int .i64 V),.v (.bool true)]):=by
  rw [hw,decide_eq_false h45];exact hval
 refine ⟨⟨by omega,by omega,by omega⟩,?_⟩;refine cP XO hval ?_;exact ⟨_,ax,rfl⟩
abbrev Oz:ByteArray:=⟨#[46,110]⟩
abbrev si:dX:=⟨1,0,⟨#[110]⟩⟩
theorem QO:EvP prog 240 [.v (.string Oz),.v (.int .i64 1),.v (.int .i64 1)] (.tup [.agg (jY si),.v (.int .i64 2),Ft.d (0,0)]):=by
 have h1:=yr Oz 1 (by decide) (by decide);have h2:=eV ⟨#[110]⟩ (by decide);rw [show Oz.extract 1 (1 + dq (Oz.data.toList.drop 1))=⟨#[110]⟩ by decide +kernel,show 1 + dq (Oz.data.toList.drop 1)=2 by decide +kernel] at h1;rw [show aM ⟨#[110]⟩=true by decide +kernel] at h2;refine eG 28 [.cell 6 176,.tmp 7,.cell 8 44] func240 rfl ntmps240 rfl fun _ _ _ _=>?_;refine cP Lh h1 ?_;refine cP zX h2 ?_;exact ⟨_,ax,rfl⟩
theorem Vd:EvP prog 201 [.v (.string Oz),.v (.int .i64 0)] (.tup [.agg (jY si),.v (.int .i64 2),Ft.d (0,0)]):=by
 have h:=QO;have hb:bd Oz 0=46:=by decide +kernel
 refine eG 46 [.cell 4 176,.tmp 5,.cell 6 44] func201 rfl ntmps201 rfl fun _ _ _ _=>?_;refine ⟨⟨by decide,by decide⟩,?_⟩;refine cP XX h ?_;exact ⟨_,ax,rfl⟩
abbrev nJ:List DV:=[.v (.int .i64 0),.v (.int .i64 0)]
abbrev QP (l:List dX) (q:Nat) (e:Int):St:=⟨[(0,⟨[],.v (.string Oz)⟩),aD 3 0,(4,⟨[],.sl 3 (cF l) (some 0)⟩),aD 5 1,au 6 e],[nJ,nJ],[⟨q,176,3,none⟩]⟩
theorem QQ:EvP prog 163 [.v (.string Oz)] (.tup [.sl 3 (cF [si]) none,Ft.d (0,0)]):=by
 have h:=Vd;refine eG 41 [.tmp 2,.cell 3 44] func163 rfl ntmps163 rfl fun _ _ _ _=>?_;refine aP (fun j st=>(st=QP [] 0 0/\j=1)∨(st=QP [si] 1 2/\j=0)) 1 (QP [] 0 0) (dJ 2 ⟨0,176,3,none⟩ rfl rfl rfl kZ rfl rfl gR) (.inl ⟨rfl,rfl⟩) ?_;rintro j st (⟨rfl,rfl⟩ | ⟨rfl,rfl⟩)
 ·refine cP XL h ?_;refine ⟨rfl,⟨by simp [maxLen,cF],by simp [cF]⟩,?_⟩;exact ⟨QP [si] 1 2,(wkB 2 kZ gR),0,by omega,.inr ⟨rfl,rfl⟩⟩
 ·refine dS ?_;exact ⟨_,ax,rfl⟩
end Go.Proofs.YtphonmiflfhdbaaGreat
set_option maxRecDepth 100000
namespace Go.Proofs
open Go.Shelf
def Tryz.lays217_ren:Go.Shelf.Ren:=⟨fun | 217=>202 | 266=>242 | n=>n,fun | 9=>9 | 3=>3 | 5=>5 | n=>n,fun | n=>n⟩
theorem Tryz.lays217:Go.Proofs.Lays.n217 prog Tryz.lays217_ren:={
 mixed:=by kernel_rfl
 f217:=func202.trans (congrArg some (by kernel_rfl))
 f266:=func242.trans (congrArg some (by kernel_rfl))
 t3:=Tryz.underlying3
 a3:=Tryz.isAgg3
 z3:=Tryz.sizeOf3
 v3:=Tryz.zeroValue3
 t5:=Tryz.underlying5
 a5:=Tryz.isAgg5
 z5:=Tryz.sizeOf5
 v5:=Tryz.zeroValue5
 t9:=Tryz.underlying9
 a9:=Tryz.isAgg9
 z9:=Tryz.sizeOf9
 v9:=Tryz.zeroValue9 }
end Go.Proofs
namespace Go.Proofs.YtphonmiflfhdbaaGreat
open Go Go.RowKit Dv Go.Proofs.Tryz
theorem J3 (s:ByteArray) (c:Int):EvP prog 202 [.v (.string s),.v (.int .u8 c)] (.v (.int .i64 (Lib.indexByte (tx s) c.toNat.toUInt8))):=by
 refine IM fun E w vs hE hv=>?_;simp only [RvL] at hv;obtain ⟨v1,s1,rfl,h1,v2,s2,rfl,h2,rfl⟩:=hv;have h1:=bQ h1;have h2:=bQ h2;subst h1 h2;refine (Any.stringslite_IndexByte Tryz.lays217 s c w).mono ?_;rintro e w' ⟨rfl,rfl⟩;exact ⟨_,rfl,fm rfl,Below.refl _ _⟩
theorem N4 (s:ByteArray) (c:Int):EvP prog 164 [.v (.string s),.v (.int .u8 c)] (.v (.int .i64 (Lib.indexByte (tx s) c.toNat.toUInt8))):=by
 refine eG 8 [.tmp 4] func164 rfl ntmps164 rfl fun _ _ _ _=>?_;refine cP XM (J3 s c) ?_;exact (rfl:_=_)
def N5 (s p:ByteArray):Bool:=decide (p.size<=s.size) && decide (s.extract 0 p.size=p)
theorem GD (s p:ByteArray) (hs:s.size<=4611686018427387904):EvP prog 112 [.v (.string s),.v (.string p)] (.v (.bool (N5 s p))):=by
 refine eG 18 [.tmp 4] func112 rfl ntmps112 rfl fun _ _ _ _=>?_;refine br ?_ ?_<;>intro g
 ·have g1:p.size<=s.size:=sU g;refine ⟨⟨by omega,by omega,by omega⟩,?_⟩;refine congrArg (fun z=>DV.v (Value.bool z)) ?_;unfold N5;rw [decide_eq_true g1,Bool.true_and];rfl
 ·have g1:¬ p.size<=s.size:=sU g;refine congrArg (fun z=>DV.v (Value.bool z)) ?_;unfold N5;rw [decide_eq_false g1,Bool.false_and]
theorem J4 (s p:ByteArray) (hs:s.size<=4611686018427387904):EvP prog 59 [.v (.string s),.v (.string p)] (.v (.bool (N5 s p))):=by
 refine eG 8 [.tmp 4] func59 rfl ntmps59 rfl fun _ _ _ _=>?_;refine cP Xb (GD s p hs) ?_;exact (rfl:_=_)
end Go.Proofs.YtphonmiflfhdbaaGreat
set_option maxRecDepth 100000
namespace Go.Proofs.YtphonmiflfhdbaaGreat
open Go Go.RowKit Dv Go.Proofs.Tryz
abbrev n9 (s:ByteArray) (aE:Nat):List DV:=[.v (.string s),.v (.int .i64 aE),.v (.int .i64 0),.v (.int .i64 0)]
theorem zC (s:ByteArray) (aE:Nat) (z:Int):Ev prog 57 [.loc 1 0,.v (.int .i64 0),.v (.int .i64 z)] [nJ,n9 s aE] [] (fun r os tk=>r = .tup []/\os=[nJ,n9 s aE]/\tk=[]):=by
 refine eG 22 [] func57 rfl ntmps57 rfl fun _ _ _ _=>?_;exact ⟨.tup [],[nJ,n9 s aE],gp,gp,rfl,rfl,rfl⟩
theorem kU (s some:ByteArray) (aE:Nat) (hs:s.size<=1099511627776) (h:aE < s.size) (k:Nat) (hk:Lib.indexByte (tx some) ((bd s aE:Nat):Int).toNat.toUInt8=k) :
  Ev prog 110 [.loc 1 0,.v (.string some)] [nJ,n9 s aE] [] (fun r os tk=>r = .v (.int .i64 k)/\os=[nJ,n9 s (aE + 1)]/\tk=[]):=by
 have hi:=N4 some (bd s (aE:Int).toNat:Nat);rw [show bd s (aE:Int).toNat=bd s aE from rfl,hk] at hi
 have hw:IntKind.i64.wrap ((aE:Int) + 1)=((aE + 1:Nat):Int):=by
  rw [wrap64 (by omega) (by omega)];omega
 have hX:=congrArg (fun z=>DV.v (Value.int .i64 z)) hw;refine eG 50 [.tmp 4] func110 rfl ntmps110 rfl fun _ _ _ _=>?_;refine dI ?_;refine br (fun g=>absurd (of_decide_eq_true g) (by omega)) (fun _=>?_);refine dI ?_;refine ⟨⟨by omega,by omega⟩,?_⟩;refine cD Xx hi ?_;exact ⟨.v (.int .i64 k),[nJ,n9 s (aE + 1)],(by repeat' (first | exact rfl | exact trivial | exact Or.inr (Or.inl ⟨_,rfl⟩) | exact Or.inr ⟨_,rfl⟩ | exact Or.inl ⟨rfl,rfl⟩ | exact Or.inl rfl | refine Or.inr ⟨_,_,rfl,Nat.zero_le _,rfl,?_⟩ | refine ⟨_,_,rfl,?_,?_⟩ | refine ⟨_,rfl,?_⟩ | exact hX | exact ⟨nL rfl,rfl⟩ | refine Or.inr (Or.inr (Or.inr ⟨_,_,rfl,?_⟩)) | exact Or.inl rfl | refine Or.inr ?_)),(by repeat' (first | exact rfl | exact trivial | exact Or.inr (Or.inl ⟨_,rfl⟩) | exact Or.inr ⟨_,rfl⟩ | exact Or.inl ⟨rfl,rfl⟩ | exact Or.inl rfl | refine Or.inr ⟨_,_,rfl,Nat.zero_le _,rfl,?_⟩ | refine ⟨_,_,rfl,?_,?_⟩ | refine ⟨_,rfl,?_⟩ | exact hX | exact ⟨nL rfl,rfl⟩ | refine Or.inr (Or.inr (Or.inr ⟨_,_,rfl,?_⟩)) | exact Or.inl rfl | refine Or.inr ?_)),rfl,rfl,rfl⟩
abbrev rpSt (s:ByteArray) (a e:Nat):St:=⟨[aD 0 1,au 3 a],[nJ,n9 s e],[]⟩
theorem D1 (s:ByteArray) (hs:s.size<=1099511627776) (a:Nat) (h:a + 2 < s.size) (b0:bd s a≠32) (b1:bd s (a + 1)≠32) (b2:bd s (a + 2)=32) (hx:s.extract a (a + 2)=Oz) :
  Ev prog 109 [.loc 1 0] [nJ,n9 s a] [] (fun r os tk=>r = .sl 3 (cF [si]) none/\os=[nJ,n9 s (a + 2)]/\tk=[]):=by
 have hp:=QQ;rw [<- hx] at hp;refine eG 87 [.tmp 2] func109 rfl ntmps109 rfl fun _ _ _ _=>?_;refine dI ?_;refine br (fun g=>absurd (of_decide_eq_true g) (by omega)) (fun _=>?_);refine lJ (fun e=>rpSt s a (a + e)) 2 (wkB 2 kZ gR) ?_;intro e he;have av:a + e < s.size:=by omega
 have hw:IntKind.i64.wrap (((a + e:Nat):Int) + 1)=((a + (e + 1):Nat):Int):=by
  rw [wrap64 (by omega) (by omega)];omega
 refine dI ?_;refine br (fun _=>?_) (fun g=>absurd (show ((a + e:Nat):Int) < s.size by omega) (sU g));refine ⟨⟨by omega,by omega⟩,?_⟩;refine br ?_ ?_<;>intro g
 ·have Yr:e < 2:=by
   rcases Nat.lt_or_ge e 2 with h | h
   ·exact h
   ·exfalso;obtain rfl:e=2:=by omega
    have g:¬ ((bd s ((a + 2:Nat):Int).toNat:Nat):Int)=32:=by simpa [pickB] using g
    rw [iT,b2] at g;exact g rfl
  exact rE ⟨_,by omega,e + 1,rfl,by omega,rfl⟩ (wkB 2 (mw hw) (wB1 hw))
 ·have g:((bd s ((a + e:Nat):Int).toNat:Nat):Int)=32:=by simpa [pickB] using g
  rw [iT] at g
  obtain rfl:e=2:=by
   have:e=0∨e=1∨e=2:=by omega
   rcases this with rfl | rfl | rfl
   ·exact absurd (show bd s a=32 by rw [Nat.add_zero] at g;omega) b0
   ·exact absurd (show bd s (a + 1)=32 by omega) b1
   ·rfl
  have Jg:=zC s (a + 2);refine dI ?_;refine ⟨⟨by omega,by omega,by omega⟩,?_⟩;refine br (fun g=>?_) (fun _=>?_)
  ·exfalso;have g:s.extract a (a + 2)=⟨#[]⟩:=of_decide_eq_true g;rw [hx] at g;exact absurd g (by decide)
  refine br (fun g=>?_) (fun _=>?_)
  ·exfalso;have g:s.extract a (a + 2)=⟨#[46]⟩:=of_decide_eq_true g;rw [hx] at g;exact absurd g (by decide)
  refine cP Xw hp ?_;refine dr 2 0 WN rfl rfl rfl gp gp (Jg _) (fun r iR cI hΦ _ _=>?_);obtain ⟨rfl,rfl,rfl⟩:=hΦ;exact ⟨.sl 3 (cF [si]) none,[nJ,n9 s (a + 2)],gp,gp,rfl,rfl,rfl⟩
theorem Ic (s:ByteArray) (hs:s.size<=1099511627776) (a:Nat) (h:a < s.size) (hd:48<=bd s a/\bd s a<=57) (V:Int) (E:Nat) (hT:EvP prog 166 [.v (.string s),.v (.int .i64 a)] (.tup [.v (.int .i64 V),.v (.int .i64 E),Ft.d (0,0)])) :
  Ev prog 111 [.loc 1 0] [nJ,n9 s a] [] (fun r os tk=>r = .agg (dRw (.mk 2 0 V aq [] []))/\os=[nJ,n9 s E]/\tk=[]):=by
 have Jg:=zC s a 0;refine eG 125 [.cell 2 56] func111 rfl ntmps111 rfl fun _ _ _ _=>?_;refine dI ?_;refine br (fun g=>absurd (of_decide_eq_true g) (by omega)) (fun _=>?_);refine dI ?_;refine ⟨⟨by omega,by omega⟩,?_⟩;refine br (fun g=>?_) (fun _=>?_)
 ·exfalso;have g:((bd s (a:Int).toNat:Nat):Int)=34:=of_decide_eq_true g;rw [iT] at g;omega
 refine br (fun _=>?_) (fun g=>?_)
 rotate_left
 ·exfalso;simp [aj,pickB_and] at g;omega
 refine dS ?_;refine cD Xy hT ?_;refine dr 2 0 WN rfl rfl rfl gp gp Jg (fun r iR cI hΦ h1 h2=>?_);obtain ⟨rfl,rfl,rfl⟩:=hΦ;exact ⟨.agg (dRw (.mk 2 0 V aq [] [])),[nJ,n9 s E],(by repeat' (first | exact rfl | exact trivial | exact Or.inr (Or.inl ⟨_,rfl⟩) | exact Or.inr ⟨_,rfl⟩ | exact Or.inl ⟨rfl,rfl⟩ | exact Or.inl rfl | refine Or.inr ⟨_,_,rfl,Nat.zero_le _,rfl,?_⟩ | refine ⟨_,_,rfl,?_,?_⟩ | refine ⟨_,rfl,?_⟩ | exact ⟨nL rfl,rfl⟩ | exact exact .inr (.inl ⟨none,rfl⟩) | refine Or.inr (Or.inr (Or.inr ⟨_,_,rfl,?_⟩)) | exact Or.inl rfl | refine Or.inr ?_)),gp,rfl,rfl,rfl⟩
abbrev aat:Wd:=⟨⟨#[108,111,119]⟩,0⟩
abbrev N6:Wd:=⟨⟨#[104,105,103,104]⟩,0⟩
def iN:Sch:=⟨[aat,N6],[(aat,N6)],[],.mk ⟨7,0,0,0,0,[],⟨aq,0⟩⟩ (.cons ⟨⟨⟨#[110]⟩,0⟩,false,[N6],0,1,10,0,[]⟩ (.mk ⟨2,0,0,99,0,[],⟨aq,0⟩⟩ .nil) .nil)⟩
def Ie:Val:=.mk 7 0 aq [.mk 2 7 aq []]
def s9:Val:=.mk 7 0 aq [.mk 10 0 aq []]
def iO (n:Int):fU:=⟨[⟨1,0,⟨#[110]⟩⟩],2,.mk 2 0 n aq [] []⟩
theorem J5:(km iN).1=0:=by decide +kernel
theorem zD:dL iN=(0:Nat):=by decide +kernel
theorem N7:0 < (aR iN).length:=by decide +kernel
theorem QR:nc (aR iN) (aV iN) iN.ae.length 0 0 s9 (iO 10)=1:=by decide +kernel
theorem QS:nc (aR iN) (aV iN) iN.ae.length 0 0 s9 (iO 5)=2:=by decide +kernel
theorem N8:allQ (nc (aR iN) (aV iN) iN.ae.length 0 0 s9) [iO 10,iO 5] 1=2:=by decide +kernel
theorem J6:DG (aR iN) (aV iN) iN.ae.length 0 0 Ie=some s9:=by rfl
abbrev D2:ByteArray:=⟨#[32]⟩
abbrev QT:ByteArray:=⟨#[61,60,62,35]⟩
abbrev mkL9:List (List DV):=[[.v (.string D2)],[.v (.string QT)],[.v (.string D2)]]
abbrev zC9:List DV:=[.v (.slice none 0 0),.v (.int .i64 0),.v (.int .i64 0),.v (.int .i64 0),.v (.int .i64 0),.v (.string aq),.v (.slice none 0 0),.v (.slice none 0 0)]
abbrev cC9 (op:Int):List DV:=[.sl 3 (cF [si]) none,.v (.int .i64 op),.v (.int .i64 0),.v (.int .i64 0),.v (.int .i64 0),.v (.string aq),.v (.slice none 0 0),.v (.slice none 0 0)]
abbrev D3 (s:ByteArray) (a:Nat) (op:Int) (e:Nat):St:=⟨[aD 0 1,aD 2 2,aD 3 3,aZ 10 1 mkL9,au 11 3,au 12 e],[nJ,n9 s (a + e),zC9,cC9 op],[]⟩
theorem D4 (s:ByteArray) (a:Nat) (V:Int) (E:Nat)
  (hp:Ev prog 109 [.loc 1 0] [nJ,n9 s a] [] (fun r os tk=>r = .sl 3 (cF [si]) none/\os=[nJ,n9 s (a + 2)]/\tk=[]))
  (h1:Ev prog 110 [.loc 1 0,.v (.string D2)] [nJ,n9 s (a + 2)] [] (fun r os tk=>r = .v (.int .i64 (0:Nat))/\os=[nJ,n9 s (a + 2 + 1)]/\tk=[]))
  (h2:Ev prog 110 [.loc 1 0,.v (.string QT)] [nJ,n9 s (a + 3)] [] (fun r os tk=>r = .v (.int .i64 (1:Nat))/\os=[nJ,n9 s (a + 3 + 1)]/\tk=[]))
  (h3:Ev prog 110 [.loc 1 0,.v (.string D2)] [nJ,n9 s (a + 4)] [] (fun r os tk=>r = .v (.int .i64 (0:Nat))/\os=[nJ,n9 s (a + 4 + 1)]/\tk=[]))
  (hl:Ev prog 111 [.loc 1 0] [nJ,n9 s (a + 5)] [] (fun r os tk=>r = .agg (dRw (.mk 2 0 V aq [] []))/\os=[nJ,n9 s E]/\tk=[])) :
  Ev prog 58 [.loc 1 0] [nJ,n9 s a] [] (fun r os tk=>r = .agg (eL ⟨[si],2,.mk 2 0 V aq [] []⟩)/\os=[nJ,n9 s E]/\tk=[]):=by
 refine eG 42 [.cell 2 60] func58 rfl ntmps58 rfl fun _ _ _ _=>?_;refine dr 2 0 W9 rfl rfl rfl gp gp hp (fun r iR cI hΦ _ _=>?_);obtain ⟨rfl,rfl,rfl⟩:=hΦ;refine aP (fun j st=>(st=D3 s (a + 2) 0 0/\j=3)∨(st=D3 s (a + 2) 0 1/\j=2)∨(st=D3 s (a + 2) 2 2/\j=1)∨(st=D3 s (a + 2) 2 3/\j=0)) 3 (D3 s (a + 2) 0 0) (wkB 4 kZ gR) (.inl ⟨rfl,rfl⟩) ?_;rintro j st (⟨rfl,rfl⟩ | ⟨rfl,rfl⟩ | ⟨rfl,rfl⟩ | ⟨rfl,rfl⟩)
 ·refine ⟨_,⟨by decide,rfl⟩,?_⟩;refine dr 2 0 Le rfl rfl rfl gp gp h1 (fun r iR cI hΦ _ _=>?_);obtain ⟨rfl,rfl,rfl⟩:=hΦ;exact ⟨D3 s (a + 2) 0 1,(wkB 4 kZ gR),2,by omega,.inr (.inl ⟨rfl,rfl⟩)⟩
 ·refine ⟨_,⟨by decide,rfl⟩,?_⟩;refine dr 2 0 Le rfl rfl rfl gp gp h2 (fun r iR cI hΦ _ _=>?_);obtain ⟨rfl,rfl,rfl⟩:=hΦ;exact ⟨D3 s (a + 2) 2 2,(wkB 4 kZ gR),1,by omega,.inr (.inr (.inl ⟨rfl,rfl⟩))⟩
 ·refine ⟨_,⟨by decide,rfl⟩,?_⟩;refine dr 2 0 Le rfl rfl rfl gp gp h3 (fun r iR cI hΦ _ _=>?_);obtain ⟨rfl,rfl,rfl⟩:=hΦ;exact ⟨D3 s (a + 2) 2 3,(wkB 4 kZ gR),0,by omega,.inr (.inr (.inr ⟨rfl,rfl⟩))⟩
 ·refine dr 2 0 Xa rfl rfl rfl gp gp hl (fun r iR cI hΦ _ _=>?_);obtain ⟨rfl,rfl,rfl⟩:=hΦ;exact ⟨.agg (eL ⟨[si],2,.mk 2 0 V aq [] []⟩),[nJ,n9 s E],gp,gp,rfl,rfl,rfl⟩
end Go.Proofs.YtphonmiflfhdbaaGreat
