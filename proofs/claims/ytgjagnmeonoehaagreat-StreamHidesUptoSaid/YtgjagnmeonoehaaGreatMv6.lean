/- Part 6 of the proof: UTF-8, plain: the document's well-formed bytes are the program's; a text's first units; Values that are the same; Which values fit which nodes: plain, as the program finds it and as the document says it; tree's leaf, kids, Fits; tree.Fits; the document's To, Fits; Values as they are written: plain; tree.write, Raw; Paths: data, Step compared with itself; ref09.Begins, Same on the same path; ref25.Step; A lattice, as its readers know it; Leq; joins are the document's; Where steps lead in a plan, and how places are seen, plain; What is seen of values, and where that differs, plain; The document's Bottom, Right of paths; the program's Right of paths; The least depths of the values of a plan's nodes: plain; The program's nodes, least depths; A region that draws its order, in which a new object may come at any time among calls: its run with the object made at each of these times serves every order; Where steps lead: the document's Edge, Walk; the program's; The program's way along steps: fits, step, Walk; UTF-8: the document's begins, left, Decode; Tables of runes; the unit at a place: the program's and the document's; A text's first units: the document's Head, the program's heads, floors; Reading of values whose numbers are ints, and of arrays of two; The numbers of a plan's nodes are ints; The document's least depths; fine; the chapter's example; The program's Depths; The law of least depths: fine, the example, the call returns true; With which schemas nothing is wrong: the document's Wrong of chapters 20, 21; the law's fine; Which levels see a place: the program's Who; A region that draws its order, run by a schedule: at each point all that may come and has an effect is tried; The document's rows of an audit: With, Under, How, Rows; The document's Fits; What is seen of a value: the document's Edge, Coarse, Erase, Seen; What is seen of a value: the program's look, sees, coarsely, edge, coarse; Paths of a value: plain; tree.steps; Where steps lead in a value, and that value with another one there: plain; Rules for the evaluator: calls that hand back fresh rows; Rules for the evaluator: elements of rows whose cells nobody else knows, read and written whole; tree: slices.Index of steps, kid, clone, Get; tree.write, Raw; Written values: well formed; the document's Same on the same value; its Raw; The document's Kid, Get, Set of a value that fits; The document's Same of values, Set; ref25.Paths; The library's copyCheck of strings.Builder, laid at this program; The library's Builder at this program: what WriteString and String do to memory, exactly; Rules for the evaluator: the library's Builder, written and read; Rules for the evaluator: String of a Builder that holds nothing; The text of a path, of a row: plain, the program's, the document's; The document's rows of an audit; All rows of an audit, by the document; the law's bounds; Alike, differ: the document's; What is seen of a value: the program's erase, Erase, Hidden; Which values may be what is seen of one, plain; Which values may be what is seen of one: shell, May, outer, plain, the document's May. No condition. -/
import Derived.OpenShut
import Derived.Shelf.Strings.OnBuilder
import Derived.Shelf.RegionOpenPlain
import Derived.Lib.Strings
import Derived.Lib.Slices
import Derived.Lib.Walk
import Derived.Lib.Builder
import Derived.Lib.AppendStr
import Derived.Lib.UnsafeStr
import Derived.WalkKit
import Derived.Laws.Externs
import Derived.Lib.Hide
import Derived.Test.YtgjagnmeonoehaaGreatMv2
import Derived.Test.YtgjagnmeonoehaaGreatMv3
import Derived.Test.YtgjagnmeonoehaaGreatMv4
import Derived.Test.YtgjagnmeonoehaaGreatMv5
set_option linter.all false
set_option maxRecDepth 100000
namespace Go.Proofs.YtgjagnmeonoehaaGreat
open Go Go.RowKit Dv Go.Proofs.Tryz
theorem qW (c:UInt8) (r:List UInt8):okU (c :: r)=(decide (1<=bc c.toNat) && allC c.toNat r (bc c.toNat - 1)):=rfl
def Xj (l:List UInt8):Bool:=PM (recV l) && decide (acd (recV l)=l)
theorem kB {k:Nat} {a:UInt8} (hk:k < 256):UInt8.ofNat k=a↔k=a.toNat:=by
 constructor
 ·rintro rfl;rw [UInt8.toNat_ofNat'];omega
 ·rintro rfl;exact UInt8.ofNat_toNat
theorem uZ (l:List UInt8) {v:Int} (hv:recV l=v):Xj l=true↔(0<=v/\v<=1114111/\(v < 55296∨57343 < v))/\LZ v.toNat=l:=by grind [Xj,acd,PM,recV]
theorem ly (c:Nat):(c=224/\iu c=160)∨(c=240/\iu c=144)∨(c≠224/\c≠240/\iu c=128):=by
 unfold iu
 repeat' split
 all_goals omega
theorem lz (c:Nat):(c=237/\iv c=159)∨(c=244/\iv c=143)∨(c≠237/\c≠244/\iv c=191):=by
 unfold iv
 repeat' split
 all_goals omega
theorem contB_0 (c b:Nat):jx c 0 b=true↔iu c<=b/\b<=iv c:=by grind [jx]
theorem qX (c k b:Nat):jx c (k + 1) b=true↔128<=b/\b<=191:=by grind [jx]
theorem allC_1 (c:Nat) (b:UInt8) (r:List UInt8):allC c (b :: r) 1=jx c 0 b.toNat:=by simp [allC,List.range_succ]
theorem allC_2 (c:Nat) (b d:UInt8) (r:List UInt8):allC c (b :: d :: r) 2=(jx c 0 b.toNat && jx c 1 d.toNat):=by simp [allC,List.range_succ]
theorem allC_3 (c:Nat) (b d e:UInt8) (r:List UInt8):allC c (b :: d :: e :: r) 3=(jx c 0 b.toNat && jx c 1 d.toNat && jx c 2 e.toNat):=by simp [allC,List.range_succ,Bool.and_assoc]
theorem lead_1 (a:Nat):bc a=1↔a < 128:=by
 unfold bc;repeat' split
 all_goals omega
theorem lead_2 (a:Nat):bc a=2↔194<=a/\a<=223:=by
 unfold bc;repeat' split
 all_goals omega
theorem lead_3 (a:Nat):bc a=3↔224<=a/\a<=239:=by
 unfold bc;repeat' split
 all_goals omega
theorem lead_4 (a:Nat):bc a=4↔240<=a/\a<=244:=by
 unfold bc;repeat' split
 all_goals omega
theorem wf_1 (a:UInt8) (r:List UInt8):Xj [a]=true↔okU (a :: r)=true/\bc a.toNat=1:=by
 have ha:=a.toNat_lt;rw [uZ _ (v:=(a.toNat:Int)) rfl];rw [kS];unfold LZ;rw [qW];constructor
 ·intro ⟨h1,h2⟩;have:a.toNat < 128:=by grind
  have:=(lead_1 _).2 this;rw [this];exact ⟨rfl,rfl⟩
 ·intro ⟨_,h2⟩;have h2:=(lead_1 _).1 h2;rw [ap h2];exact ⟨by omega,by rw [UInt8.ofNat_toNat]⟩
theorem wf_2 (a b:UInt8) (r:List UInt8):Xj [a,b]=true↔okU (a :: b :: r)=true/\bc a.toNat=2:=by
 have ha:=a.toNat_lt;have hb:=b.toNat_lt;rw [uZ _ (v:=((a.toNat:Int) - 192) * 64 + ((b.toNat:Int) - 128)) rfl];unfold LZ;rw [qW];constructor
 ·grind [kB,lead_2,allC,allC_1,contB_0,ly,lz]
 ·intro ⟨h1,h2⟩;rw [h2] at h1;have h1:(true && allC _ _ 1)=true:=h1;rw [Bool.true_and,allC_1,contB_0] at h1;have hL:=ly a.toNat;have hH:=lz a.toNat
  grind [lead_2,kB]
theorem wf_3 (a b c:UInt8) (r:List UInt8):Xj [a,b,c]=true↔okU (a :: b :: c :: r)=true/\bc a.toNat=3:=by
 have ha:=a.toNat_lt;have hb:=b.toNat_lt;have hc:=c.toNat_lt;rw [uZ _ (v:=((a.toNat:Int) - 224) * 4096 + ((b.toNat:Int) - 128) * 64 + ((c.toNat:Int) - 128)) rfl];unfold LZ;rw [qW];constructor
 ·intro ⟨h1,h2⟩;generalize hn:((((a.toNat:Int) - 224) * 4096 + ((b.toNat:Int) - 128) * 64 + ((c.toNat:Int) - 128))).toNat=n at h2
  repeat' split at h2
  any_goals (simp at h2;done)
  simp only [List.cons.injEq,and_true] at h2;rw [kB (by omega),kB (by omega),kB (by omega)] at h2
  grind [lead_3,allC,allC_2,contB_0,qX,ly,lz]
 ·intro ⟨h1,h2⟩;rw [h2] at h1;have h1:(true && allC _ _ 2)=true:=h1;rw [Bool.true_and,allC_2,aP,contB_0,qX _ 0] at h1;have hL:=ly a.toNat;have hH:=lz a.toNat;have h2:=(lead_3 _).1 h2;rw [aj (by omega),aj (by omega),ap (by omega)];simp only [List.cons.injEq,and_true]
  grind [kB]
theorem wf_4 (a b c d:UInt8) (r:List UInt8):Xj [a,b,c,d]=true↔okU (a :: b :: c :: d :: r)=true/\bc a.toNat=4:=by
 have ha:=a.toNat_lt;have hb:=b.toNat_lt;have hc:=c.toNat_lt;have hd:=d.toNat_lt;rw [uZ _ (v:=((a.toNat:Int) - 240) * 262144 + ((b.toNat:Int) - 128) * 4096 + ((c.toNat:Int) - 128) * 64 + ((d.toNat:Int) - 128)) rfl];unfold LZ;rw [qW];constructor
 ·intro ⟨h1,h2⟩;generalize hn:((((a.toNat:Int) - 240) * 262144 + ((b.toNat:Int) - 128) * 4096 + ((c.toNat:Int) - 128) * 64 + ((d.toNat:Int) - 128))).toNat=n at h2
  repeat' split at h2
  any_goals (simp at h2;done)
  simp only [List.cons.injEq,and_true] at h2;rw [kB (by omega),kB (by omega),kB (by omega),kB (by omega)] at h2
  grind [lead_4,allC,allC_3,contB_0,qX,ly,lz]
 ·intro ⟨h1,h2⟩;rw [h2] at h1;have h1:(true && allC _ _ 3)=true:=h1;rw [Bool.true_and,allC_3,aP,aP,contB_0,qX _ 0,qX _ 1] at h1;have hL:=ly a.toNat;have hH:=lz a.toNat;have h2:=(lead_4 _).1 h2;rw [aj (by omega),aj (by omega),aj (by omega)];simp only [List.cons.injEq,and_true];rw [kB (by omega),kB (by omega),kB (by omega),kB (by omega)];omega
theorem Ca (a:Nat):bc a<=4:=by
 unfold bc;repeat' split
 all_goals omega
theorem u0 {l:List UInt8} (h:okU l=true):∃ c r,l=c :: r/\1<=bc c.toNat/\bc c.toNat<=l.length/\dV l=bc c.toNat:=by
 cases l with
 | nil=>cases h
 | cons c r=>
  refine ⟨c,r,rfl,?_,?_,?_⟩
  ·grind [okU]
  ·have h0:=h;unfold okU at h;rw [aP] at h;rcases Nat.lt_or_ge r.length (bc c.toNat - 1) with g | g
   ·have h2:=h.2;unfold allC at h2;rw [List.all_eq_true] at h2;have:=h2 r.length (List.mem_range.2 g)
    grind
   ·rw [List.length_cons];omega
  ·show (if _ then _ else _)=_;rw [ap h]
theorem ach (c:UInt8) (r:List UInt8) (n:Nat) (h1:1<=n) (h4:n<=4) (hl:n<=r.length + 1):Xj ((c :: r).take n)=(okU (c :: r) && decide (bc c.toNat=n)):=by
 apply Bool.eq_iff_iff.2;rw [aP,decide_eq_true_iff]
 match n,h1,h4,hl with
 | 1,_,_,_=>exact wf_1 c r
 | 2,_,_,h=>match r,h with
  | b :: r,_=>exact wf_2 c b r
 | 3,_,_,h=>match r,h with
  | b :: d :: r,_=>exact wf_3 c b d r
 | 4,_,_,h=>match r,h with
  | b :: d :: e :: r,_=>exact wf_4 c b d e r
theorem dZ {l:List UInt8} (h:l ≠ []):1<=dV l/\dV l<=l.length:=by
 cases l with
 | nil=>exact absurd rfl h
 | cons c r=>
  show 1<=(if _ then _ else _)/\(if _ then _ else _)<=_
  grind [u0]
theorem nN {a b:List UInt8} (hb:2<=dV b) (h:a.take (dV b)=b.take (dV b)):dV a=dV b:=by
 have bI:okU b=true:=by
  cases b with
  | nil=>exact absurd hb (by decide)
  | cons c r=>grind [okU,dV]
 obtain ⟨c,r,rfl,h1,h2,h3⟩:=u0 bI;rw [h3] at h ⊢
 have hl:bc c.toNat<=a.length:=by
  have:=congrArg List.length h
  grind
 have hw:=ach c r (bc c.toNat) h1 (Ca _) h2;rw [bI,decide_eq_true rfl,<- h] at hw
 cases a with
 | nil=>exact absurd hl (by rw [List.length_nil];omega)
 | cons d s=>
  rw [ach d s (bc c.toNat) h1 (Ca _) hl] at hw;rw [Bool.true_and,aP,decide_eq_true_iff] at hw;show (if _ then _ else _)=_;rw [ap hw.1];exact hw.2
def headL:Nat->List UInt8->List UInt8
 | 0,_=>[]
 | u + 1,l=>l.take (dV l) ++ headL u (l.drop (dV l))
theorem ov (u:Nat):headL u []=[]:=by
 induction u with
 | zero=>rfl
 | succ u ih=>show [].take _ ++ headL u ([].drop _)=[];rw [List.take_nil,List.drop_nil,ih];all_goals rfl
theorem ow (u:Nat) (l:List UInt8):headL u l <+: l:=by
 induction u generalizing l with
 | zero=>exact List.nil_prefix
 | succ u ih=>
  obtain ⟨t,ht⟩:=ih (l.drop (dV l));refine ⟨t,?_⟩;show (_ ++ _) ++ t=l
  simp_all
def headsL:Nat->List UInt8->List UInt8->Bool
 | 0,_,_=>true
 | u + 1,a,b=>decide (dV a=dV b) && decide (a.take (dV a)=b.take (dV b)) && headsL u (a.drop (dV a)) (b.drop (dV b))
theorem Ff (u:Nat) {a b:List UInt8} (au:dV a < dV b):headL (u + 1) a≠headL (u + 1) b:=by
 intro h;have hbn:b ≠ []:=by grind [dV]
 obtain ⟨iD,gF⟩:=dZ hbn
 cases a with
 | nil=>grind [ov,headL,dV]
 | cons c r=>
  obtain ⟨ha1,M9⟩:=dZ (l:=c :: r) (by simp);obtain ⟨t,ht⟩:=ow (u + 1) (c :: r)
  grind [headL,dV,nN]
theorem PU (u:Nat) (a b:List UInt8):headsL u a b=decide (headL u a=headL u b):=by
 induction u generalizing a b with
 | zero=>simp [headsL,headL]
 | succ u ih=>
  rcases Nat.lt_trichotomy (dV a) (dV b) with h | h | h
  ·grind [Ff,headsL]
  ·show (decide (dV a=dV b) && decide (a.take (dV a)=b.take (dV b)) && headsL u (a.drop (dV a)) (b.drop (dV b)))=_;rw [ih,show headL (u + 1) b=b.take (dV b) ++ headL u (b.drop (dV b)) from rfl,show headL (u + 1) a=a.take (dV a) ++ headL u (a.drop (dV a)) from rfl,<- h,decide_eq_true rfl,Bool.true_and];apply Bool.eq_iff_iff.2;rw [aP,decide_eq_true_iff,decide_eq_true_iff,decide_eq_true_iff];constructor
   ·intro ⟨h1,h2⟩;rw [h1,h2]
   ·intro h1;refine List.append_inj h1 ?_
    grind [dV,dZ]
  ·grind [Ff,headsL]
mutual
def sameV:Val->Val->Bool
 | .mk k n s ks,.mk k' n' s' CZ=>decide (k=k') && decide (n=n') && decide (s=s') && sameVs ks CZ
def sameVs:List Val->List Val->Bool
 | [],[]=>true
 | v :: r,w :: q=>sameV v w && sameVs r q
 | _,_=>false
end
mutual
theorem jP:∀ {a b:Val},sameV a b=true↔a=b
 | .mk k n s ks,.mk k' n' s' CZ=>by
  have:=@xG ks CZ;simp only [sameV,aP,decide_eq_true_eq,this,Val.mk.injEq,and_assoc]
theorem xG:∀ {a b:List Val},sameVs a b=true↔a=b
 | [],[]=>by simp [sameVs]
 | v :: r,w :: q=>by
  have h1:=@jP v w;have h2:=@xG r q;simp only [sameVs,aP,h1,h2,List.cons.injEq]
 | [],_ :: _=>by simp [sameVs]
 | _ :: _,[]=>by simp [sameVs]
end
theorem xH (v:Val):sameV v v=true:=jP.2 rfl
def tI (n:Nd) (v:Val):Bool:=
 if 0 < v.ks.length∨(v.k≠3/\v.s≠av)∨(v.k=3/\v.n≠0) then false
 else if n.ag=1 then decide (v.k=1) && (decide (v.n=0) || decide (v.n=1))
 else if n.ag=2 then decide (v.k=2) && decide (n.lo<=v.n) && decide (v.n<=n.hi)
 else if n.ag=3 then decide (v.k=3) && decide ((v.s.size:Int)<=n.most)
 else decide (v.k=4) && decide (0<=v.n) && decide (v.n < n.af.length)
def gz (v:Val):Bool:=decide (v.s=av) && (decide (v.n=0) || decide (v.k=8))
def to0 (n:Nd):Int:=match n.aw[0]? with | some e=>e.to | none=>0
def yT (n:Nd) (v:Val):Option Ed:=if v.k=8/\0<=v.n/\v.n < n.aw.length then n.aw[v.n.toNat]? else none
def kidsL (n:Nd) (v:Val):List Int:=
 if n.ag=5∨n.ag=6 then List.replicate v.ks.length (to0 n)
 else if n.ag=7 then n.aw.map Ed.to
 else match yT n v with | none=>[] | some e=>if e.bare=true then [] else [e.to]
def fI (n:Nd) (v:Val):Bool:=
 if n.ag=5∨n.ag=6 then gz v && decide (v.k=n.ag) && decide ((v.ks.length:Int)<=if n.ag=6 then 1 else n.most)
 else if n.ag=7 then gz v && decide (v.k=7) && decide (n.aw.length=v.ks.length)
 else match yT n v with | none=>false | some _=>gz v && decide ((kidsL n v).length=v.ks.length)
def bV (ND:List Nd) (i:Int):Option Nd:=if i < 0 then none else ND[i.toNat]?
mutual
def fitV (ND:List Nd):Val->Int->Bool
 | .mk k n s ks,i=>match bV ND i with
  | none=>false
  | some d=>if d.ag < 5 then tI d (.mk k n s ks) else fI d (.mk k n s ks) && fitVs ND ks (kidsL d (.mk k n s ks))
def fitVs (ND:List Nd):List Val->List Int->Bool
 | v :: r,i :: l=>fitV ND v i && fitVs ND r l
 | _,_=>true
end
def Ro (n:Nd) (v:Val) (j:Nat):Int:=
 if n.ag=5 then (if (j:Int) < n.most then to0 n else -1)
 else if n.ag=6 then (if j < 1 then to0 n else -1)
 else if n.ag=7 then (match n.aw[j]? with | some e=>e.to | none=>-1)
 else if n.ag=8 then (if j < 1/\0<=v.n/\v.n < n.aw.length then (match n.aw[v.n.toNat]? with | some e=>e.to | none=>-1) else -1)
 else -1
def ox (l:List Int):List (List DV):=l.map fun z=>[DV.v (.int .i64 z)]
theorem kC (l:List Int):(ox l).length=l.length:=by simp [ox]
theorem oy {l:List Int} {i:Nat} {z:Int} (h:l[i]? = some z):(ox l)[i]? = some [DV.v (.int .i64 z)]:=by simp [ox,h]
theorem qY (l:List Int) (z:Int):ox l ++ [[DV.v (.int .i64 z)]]=ox (l ++ [z]):=by simp [ox]
theorem An:(⟨#[]⟩:ByteArray)=av:=rfl
theorem L0 (n:Nd) (v:Val):EvP prog 137 [.agg (kO n),.agg (aZ v)] (.v (.bool (tI n v))):=by
 have hbl:=cg n.af;obtain ⟨ag,at',lo,hi,most,af,es⟩:=n;obtain ⟨q,z,s,ks⟩:=v;have de:=bl ks;simp only at hbl
 have hF:tI ⟨ag,at',lo,hi,most,af,es⟩ (.mk q z s ks)=if 0 < ks.length∨(q≠3/\s≠av)∨(q=3/\z≠0) then false
  else if ag=1 then decide (q=1) && (decide (z=0) || decide (z=1))
  else if ag=2 then decide (q=2) && decide (lo<=z) && decide (z<=hi)
  else if ag=3 then decide (q=3) && decide ((s.size:Int)<=most)
  else decide (q=4) && decide (0<=z) && decide (z < af.length):=rfl
 have hc:∀ b:Bool,b=pickB (pickB (decide (0 < ((dVals ks).length:Int))) true (pickB (!decide (q=3)) (!decide (s=⟨#[]⟩)) false)) true (pickB (decide (q=3)) (!decide (z=0)) false)->b=decide (0 < ks.length∨(q≠3/\s≠av)∨(q=3/\z≠0)):=fun b h=>by grind [An,aq,ai]
 rw [hF];refine eG 94 [.tmp 4] func137 rfl ntmps137 rfl fun _ _ _ _=>?_;refine br ?_ ?_<;>intro c
 ·have c:=of_decide_eq_true ((hc _ rfl).symm.trans c);rw [ap c];exact (rfl:_=_)
 have c:=of_decide_eq_false ((hc _ rfl).symm.trans c);rw [aj c];refine br ?_ ?_<;>intro c1
 ·have c1:ag=1:=sU c1;refine (bF ?_:);simp [c1,ai,aq]
 have c1:¬ ag=1:=sU c1;refine br ?_ ?_<;>intro c2
 ·have c2:ag=2:=sU c2;refine (bF ?_:);simp [c2,ai,aq]
 have c2:¬ ag=2:=sU c2;refine br ?_ ?_<;>intro c3
 ·have c3:ag=3:=sU c3;refine (bF ?_:);simp [c3,ai,aq]
 have c3:¬ ag=3:=sU c3;refine (bF ?_:);simp [c1,c2,c3,ai,aq,hbl]
abbrev Vj (n:Nd) (v:Val) (l:List Int) (p:Bool) (kd mo:Int) (q e:Nat):St:=
 ⟨[aE 2 0,aE 3 1,(6,⟨[],.sl 1 (ox l) (some 0)⟩),DB 7 p,ay 8 kd,ay 9 mo,ay 38 v.ks.length,ay 39 e],[kO n,aZ v],[⟨q,3,1,none⟩]⟩
abbrev aci (n:Nd) (v:Val) (l:List Int) (p:Bool) (q e:Nat):St:=
 ⟨[aE 2 0,aE 3 1,(6,⟨[],.sl 1 (ox l) (some 0)⟩),DB 7 p,bh 67 10 (fN n.aw),ay 68 ((fN n.aw).length),ay 69 e],[kO n,aZ v],[⟨q,3,1,none⟩]⟩
theorem kids_spec {L N:Nat} {n:Nd} (hn:dt L N n) (h5:5<=n.ag) (v:Val) (hv:v.wt<=1099511627776) :
  EvP prog 138 [.agg (kO n),.agg (aZ v)] (.tup [.sl 1 (ox (kidsL n v)) none,.v (.bool (fI n v))]):=by
 have Ko:=hn.k8;have Xk:=hn.one;have Fg:=hn.many;obtain ⟨ag,at',lo,hi,most,af,es⟩:=n;obtain ⟨q,z,s,ks⟩:=v;have de:=bl ks;have oJ:=cF es;have lG:=cG ks;rw [Val.wt] at hv;simp only at Ko h5 Xk Fg
 have hp:∀ b:Bool,b=pickB (decide (s=⟨#[]⟩)) (pickB (decide (z=0)) true (decide (q=8))) false->b=gz (.mk q z s ks):=fun b h=>by
  rw [h];rw [ai,aq,An];all_goals rfl
 refine eG 134 [.tmp 4,.tmp 5] func138 rfl ntmps138 rfl fun _ _ _ _=>?_;refine br ?_ ?_<;>intro c
 ·have c:ag=5:=sU c;have Xl:ag=5∨ag=6:=.inl c;obtain ⟨x,gL,_,_⟩:=Xk Xl;refine br (fun _=>?_) (fun h=>absurd h (by simp [c]));refine dI ?_;refine br (fun h=>absurd h (by simp [c])) (fun _=>?_);obtain ⟨kd,mo,h1,h2,h3,h4⟩:∃ kd mo:Int,5=kd/\most=mo/\kd=ag/\mo=(if ag=6 then 1 else most):=⟨5,most,rfl,rfl,c.symm,by rw [aj (by omega)]⟩;have A4:(fN es)[0]? = some (nF x):=by rw [gL];all_goals rfl
  have ht0:to0 ⟨ag,at',lo,hi,most,af,es⟩=x.to:=by simp [to0,gL]
  refine lJ (fun e=>Vj ⟨ag,at',lo,hi,most,af,es⟩ (.mk q z s ks) (List.replicate e x.to) (gz (.mk q z s ks)) kd mo e e) ks.length (dx 2 ⟨0,3,1,none⟩ rfl rfl rfl (by repeat' (first | exact rfl | exact az rfl | exact cq (hp _ rfl) | exact aD h1 | exact aD h2 | exact aD (congrArg Nat.cast de) | exact bL (aQ _) rfl | exact bL (aQ _) rfl | refine ⟨_,_,rfl,?_,?_⟩)) rfl rfl (by repeat' (first | exact trivial | exact az rfl | exact cq (hp _ rfl) | exact aD h1 | exact aD h2 | exact aD (congrArg Nat.cast de) | exact bL (aQ _) rfl | refine ⟨⟨_,rfl,?_⟩,?_⟩))) ?_;intro e he;refine br ?_ ?_<;>intro hL
  ·have au:e < ks.length:=by have:=hL;simp [Val.ks] at this;exact this
   have fg:(ox (List.replicate e x.to)).length=e:=by rw [kC,List.length_replicate]
   have ek:ox (List.replicate e x.to) ++ [[DV.v (.int .i64 x.to)]]=ox (List.replicate (e + 1) x.to):=by rw [qY,List.replicate_succ']
   refine ⟨_,⟨by omega,A4⟩,?_⟩;refine ⟨fg,⟨by rw [fg];simp [maxLen];omega,by rw [fg];simp;omega⟩,?_⟩;exact rE ⟨_,by omega,e + 1,rfl,by omega,rfl⟩ (dj 2 (yy (aN au (by omega)) ek) (iT (aN au (by omega)) ek))
  ·have hge:e=ks.length:=by have:=hL;simp [Val.ks] at this;omega
   subst hge;have yU:kidsL ⟨ag,at',lo,hi,most,af,es⟩ (.mk q z s ks)=List.replicate ks.length x.to:=by unfold kidsL;rw [ap Xl,ht0];all_goals rfl
   have fg:(ox (List.replicate ks.length x.to)).length=ks.length:=by rw [kC,List.length_replicate]
   have hB:pickB (pickB (gz (.mk q z s ks)) (decide (q=kd)) false) (decide (((ox (List.replicate ks.length x.to)).length:Int)<=mo)) false=fI ⟨ag,at',lo,hi,most,af,es⟩ (.mk q z s ks):=by
    rw [fg,h3,h4,ai,ai];unfold fI;rw [ap Xl];rfl
   rw [yU];exact ⟨_,(rz hB),rfl⟩
 have c5:¬ ag=5:=sU c;refine br ?_ ?_<;>intro c
 ·have c:ag=6:=sU c;have Xl:ag=5∨ag=6:=.inr c;obtain ⟨x,gL,_,_⟩:=Xk Xl;refine dI ?_;refine br (fun _=>?_) (fun h=>absurd h (by simp [c]));obtain ⟨kd,mo,h1,h2,h3,h4⟩:∃ kd mo:Int,6=kd/\1=mo/\kd=ag/\mo=(if ag=6 then 1 else most):=⟨6,1,rfl,rfl,c.symm,by rw [ap c]⟩;have A4:(fN es)[0]? = some (nF x):=by rw [gL];all_goals rfl
  have ht0:to0 ⟨ag,at',lo,hi,most,af,es⟩=x.to:=by simp [to0,gL]
  refine lJ (fun e=>Vj ⟨ag,at',lo,hi,most,af,es⟩ (.mk q z s ks) (List.replicate e x.to) (gz (.mk q z s ks)) kd mo e e) ks.length (dx 2 ⟨0,3,1,none⟩ rfl rfl rfl (by repeat' (first | exact rfl | exact az rfl | exact cq (hp _ rfl) | exact aD h1 | exact aD h2 | exact aD (congrArg Nat.cast de) | exact bL (aQ _) rfl | exact bL (aQ _) rfl | refine ⟨_,_,rfl,?_,?_⟩)) rfl rfl (by repeat' (first | exact trivial | exact az rfl | exact cq (hp _ rfl) | exact aD h1 | exact aD h2 | exact aD (congrArg Nat.cast de) | exact bL (aQ _) rfl | refine ⟨⟨_,rfl,?_⟩,?_⟩))) ?_;intro e he;refine br ?_ ?_<;>intro hL
  ·have au:e < ks.length:=by have:=hL;simp [Val.ks] at this;exact this
   have fg:(ox (List.replicate e x.to)).length=e:=by rw [kC,List.length_replicate]
   have ek:ox (List.replicate e x.to) ++ [[DV.v (.int .i64 x.to)]]=ox (List.replicate (e + 1) x.to):=by rw [qY,List.replicate_succ']
   refine ⟨_,⟨by omega,A4⟩,?_⟩;refine ⟨fg,⟨by rw [fg];simp [maxLen];omega,by rw [fg];simp;omega⟩,?_⟩;exact rE ⟨_,by omega,e + 1,rfl,by omega,rfl⟩ (dj 2 (yy (aN au (by omega)) ek) (iT (aN au (by omega)) ek))
  ·have hge:e=ks.length:=by have:=hL;simp [Val.ks] at this;omega
   subst hge;have yU:kidsL ⟨ag,at',lo,hi,most,af,es⟩ (.mk q z s ks)=List.replicate ks.length x.to:=by unfold kidsL;rw [ap Xl,ht0];all_goals rfl
   have fg:(ox (List.replicate ks.length x.to)).length=ks.length:=by rw [kC,List.length_replicate]
   have hB:pickB (pickB (gz (.mk q z s ks)) (decide (q=kd)) false) (decide (((ox (List.replicate ks.length x.to)).length:Int)<=mo)) false=fI ⟨ag,at',lo,hi,most,af,es⟩ (.mk q z s ks):=by
    rw [fg,h3,h4,ai,ai];unfold fI;rw [ap Xl];rfl
   rw [yU];exact ⟨_,(rz hB),rfl⟩
 have c6:¬ ag=6:=sU c;obtain ⟨hm64,hm8,_,_⟩:=Fg (by omega);refine br ?_ ?_<;>intro c
 ·have c7:ag=7:=sU c;refine lJ (fun e=>aci ⟨ag,at',lo,hi,most,af,es⟩ (.mk q z s ks) ((es.take e).map Ed.to) (gz (.mk q z s ks)) e e) es.length (dx 2 ⟨0,3,1,none⟩ rfl rfl rfl (by repeat' (first | exact rfl | exact az rfl | exact cq (hp _ rfl) | exact bL (aQ _) rfl | exact bL (aQ _) rfl | refine ⟨_,_,rfl,?_,?_⟩)) rfl rfl (by repeat' (first | exact trivial | exact az rfl | exact cq (hp _ rfl) | exact bL (aQ _) rfl | refine ⟨⟨_,rfl,?_⟩,?_⟩))) ?_;intro e he;refine br ?_ ?_<;>intro hL
  ·have au:e < es.length:=by have:=hL;simp [oJ] at this;exact this
   obtain ⟨x,hx⟩:=gX au;have fg:(ox ((es.take e).map Ed.to)).length=e:=by rw [kC,List.length_map,zLenT];omega
   have ek:ox ((es.take e).map Ed.to) ++ [[DV.v (.int .i64 x.to)]]=ox ((es.take (e + 1)).map Ed.to):=by rw [qY,sH hx,List.map_append];all_goals rfl
   refine iX (bm hx) ?_;refine ⟨fg,⟨by rw [fg];simp [maxLen];omega,by rw [fg];simp;omega⟩,?_⟩;exact rE ⟨_,by omega,e + 1,rfl,by omega,rfl⟩ (dj 2 (yy (aN au (by omega)) ek) (iT (aN au (by omega)) ek))
  ·have hge:e=es.length:=sW oJ hL;subst hge;rw [List.take_length];have yU:kidsL ⟨ag,at',lo,hi,most,af,es⟩ (.mk q z s ks)=es.map Ed.to:=by unfold kidsL;rw [aj (by simp only;omega),ap c7]
   have fg:(ox (es.map Ed.to)).length=es.length:=by rw [kC,List.length_map]
   have hB:pickB (pickB (gz (.mk q z s ks)) (decide (q=7)) false) (decide (((ox (es.map Ed.to)).length:Int)=((dVals ks).length:Int))) false=fI ⟨ag,at',lo,hi,most,af,es⟩ (.mk q z s ks):=by grind [ai,fI,Val.k,Val.ks]
   rw [yU];refine dI ?_;exact ⟨_,(rz hB),rfl⟩
 have c7:¬ ag=7:=sU c;have yU:kidsL ⟨ag,at',lo,hi,most,af,es⟩ (.mk q z s ks)=(match yT ⟨ag,at',lo,hi,most,af,es⟩ (.mk q z s ks) with | none=>[] | some e=>if e.bare=true then [] else [e.to]):=by unfold kidsL;rw [aj (by simp only;omega),aj c7];all_goals rfl
 have acj:fI ⟨ag,at',lo,hi,most,af,es⟩ (.mk q z s ks)=(match yT ⟨ag,at',lo,hi,most,af,es⟩ (.mk q z s ks) with | none=>false | some _=>gz (.mk q z s ks) && decide ((kidsL ⟨ag,at',lo,hi,most,af,es⟩ (.mk q z s ks)).length=ks.length)):=by unfold fI;rw [aj (by simp only;omega),aj c7];all_goals rfl
 have hc:∀ b:Bool,b=pickB (pickB (!decide (q=8)) true (decide (z < 0))) true (decide (((fN es).length:Int)<=z))->b = !decide (q=8/\0<=z/\z < es.length):=fun b h=>by grind [aq]
 refine br ?_ ?_<;>intro c
 ·have c:¬ (q=8/\0<=z/\z < es.length):=by have:=(hc _ rfl).symm.trans c;simpa only [Bool.not_eq_true',decide_eq_false_iff_not] using this
  have ht:yT ⟨ag,at',lo,hi,most,af,es⟩ (.mk q z s ks)=none:=by show (if q=8/\0<=z/\z < es.length then es[z.toNat]? else none)=_;rw [aj c]
  rw [acj,yU,ht];exact ⟨_,ax,rfl⟩
 ·have c:q=8/\0<=z/\z < es.length:=by have:=(hc _ rfl).symm.trans c;simpa only [Bool.not_eq_false',decide_eq_true_eq] using this
  obtain ⟨x,hx⟩:∃ x,es[z.toNat]? = some x:=⟨_,gE (by omega)⟩;have ht:yT ⟨ag,at',lo,hi,most,af,es⟩ (.mk q z s ks)=some x:=by show (if q=8/\0<=z/\z < es.length then es[z.toNat]? else none)=_;rw [ap c];exact hx
  rw [ht] at acj yU;refine iX (bm hx) ?_;refine br ?_ ?_<;>intro hb
  ·have hb:x.bare=false:=sU hb;have Xm:kidsL ⟨ag,at',lo,hi,most,af,es⟩ (.mk q z s ks)=[x.to]:=by rw [yU];simp [hb]
   have hB:pickB (gz (.mk q z s ks)) (decide ((1:Int)=((dVals ks).length:Int))) false=fI ⟨ag,at',lo,hi,most,af,es⟩ (.mk q z s ks):=by grind [ai]
   rw [Xm,<- hB];refine ⟨⟨by simp [maxLen],by simp⟩,?_⟩;refine dI ?_;exact ⟨_,(by repeat' (first | exact rfl | exact trivial | exact Or.inr (Or.inl ⟨_,rfl⟩) | exact Or.inr ⟨_,rfl⟩ | exact Or.inl ⟨rfl,rfl⟩ | exact Or.inl rfl | refine Or.inr ⟨_,_,rfl,Nat.zero_le _,rfl,?_⟩ | refine ⟨_,_,rfl,?_,?_⟩ | refine ⟨_,rfl,?_⟩ | exact congrArg (fun b=>DV.v (.bool (pickB b _ false))) (hp _ rfl) | refine Or.inr (Or.inr (Or.inr ⟨_,_,rfl,?_⟩)) | exact Or.inl rfl | refine Or.inr ?_)),rfl⟩
  ·have hb:x.bare=true:=sU hb;have Xm:kidsL ⟨ag,at',lo,hi,most,af,es⟩ (.mk q z s ks)=[]:=by rw [yU];simp [hb]
   have hB:pickB (gz (.mk q z s ks)) (decide ((0:Int)=((dVals ks).length:Int))) false=fI ⟨ag,at',lo,hi,most,af,es⟩ (.mk q z s ks):=by grind [ai]
   rw [Xm,<- hB];refine dI ?_;exact ⟨_,(by repeat' (first | exact rfl | exact trivial | exact Or.inr (Or.inl ⟨_,rfl⟩) | exact Or.inr ⟨_,rfl⟩ | exact Or.inl ⟨rfl,rfl⟩ | exact Or.inl rfl | refine Or.inr ⟨_,_,rfl,Nat.zero_le _,rfl,?_⟩ | refine ⟨_,_,rfl,?_,?_⟩ | refine ⟨_,rfl,?_⟩ | exact congrArg (fun b=>DV.v (.bool (pickB b _ false))) (hp _ rfl) | refine Or.inr (Or.inr (Or.inr ⟨_,_,rfl,?_⟩)) | exact Or.inl rfl | refine Or.inr ?_)),rfl⟩
theorem Ao {n:Nd} {v:Val} (hk:5<=n.ag) (h:fI n v=true):(kidsL n v).length=v.ks.length:=by grind [fI,kidsL,yT]
theorem Ig {ND:List Nd} {ks:List Val} {l:List Int} {e:Nat} {x:Val} {i:Int} (h1:ks[e]? = some x) (h2:l[e]? = some i):fitVs ND (ks.drop e) (l.drop e)=(fitV ND x i && fitVs ND (ks.drop (e + 1)) (l.drop (e + 1))):=by
 rw [drop_cons h1,drop_cons h2,fitVs]
theorem bJ {ND:List Nd} {i:Int} {d:Nd} (h:bV ND i=some d):0<=i/\ND[i.toNat]? = some d:=by grind [bV]
theorem Ih {ND:List Nd} {i:Int} (h:bV ND i=none):i < 0∨(ND.length:Int)<=i:=by grind [bV]
abbrev tfSt (PC:List DV) (v:Val) (l:List Int) (e:Nat):St:=
 ⟨[mQ 0 PC,aE 5 0,bh 36 1 (ox l),ay 37 l.length,ay 38 e],[aZ v],[]⟩
theorem kg {S:Sch} {ND:List Nd} {PC:List DV} (hP:eT S ND PC):∀ (k:Nat) (v:Val),v.wt<=k->v.wt<=1099511627776->∀ i:Int,EvP prog 68 [.pt PC 0,.v (.int .i64 i),.agg (aZ v)] (.v (.bool (fitV ND v i)))
 | 0,v,h,_=>by have:=v.dy;omega
 | k + 1,.mk q z s ks,h,hb=>fun i=>by
  have ih:=kg hP k;have lG:=cG ks;have de:=bl ks;have eo:=hb;rw [Val.wt] at h hb;rw [fitV];have dE:=hP.ah;have Xn:=hP.Vg;have bI:=hP.ok
  cases hd:bV ND i with
  | none=>
   refine eG 53 [.tmp 6] func68 rfl ntmps68 rfl fun _ _ _ _=>?_;refine cP mR (Xn i (Ih hd)) ?_;exact (rfl:_=_)
  | some d=>
   obtain ⟨h0,hg⟩:=bJ hd;obtain ⟨j,rfl⟩:∃ j:Nat,i=j:=⟨i.toNat,by omega⟩;have hg:ND[j]? = some d:=sU hg;have hN:=bI d (mG hg);have yC:=L0 d (.mk q z s ks);have MS:=fun h5=>kids_spec hN h5 (.mk q z s ks) eo;have hlen:=fun h5=>Ao (n:=d) (v:=.mk q z s ks) h5;simp only;obtain ⟨ag,at',lo,hi,most,af,es⟩:=d;simp only at MS hlen;refine eG 53 [.tmp 6] func68 rfl ntmps68 rfl fun _ _ _ _=>?_;refine cP mR (dE j _ hg) ?_;refine br ?_ ?_<;>intro c
   ·have c:ag < 5:=sU c;rw [ap c];refine cP Zx yC ?_;exact (rfl:_=_)
   have c:¬ ag < 5:=sU c;rw [aj c];have MS:=MS (by omega);have hlen:=hlen (by omega);generalize kidsL ⟨ag,at',lo,hi,most,af,es⟩ (.mk q z s ks)=l at MS hlen ⊢;have hzl:=kC l;refine cP Zy MS ?_
   cases hB:fI ⟨ag,at',lo,hi,most,af,es⟩ (.mk q z s ks) with
   | false=>
    exact (rfl:_=_)
   | true=>
    have hlen:l.length=ks.length:=hlen hB;rw [Bool.true_and];refine lI (fun j st=>∃ e:Nat,st=tfSt PC (.mk q z s ks) l e/\e<=l.length/\fitVs ND ks l=fitVs ND (ks.drop e) (l.drop e)/\j=l.length - e) ⟨0,rfl,by omega,rfl,rfl⟩ (bp (cY hzl)) ?_;rintro _ st ⟨e,rfl,he,aO,rfl⟩;refine br ?_ ?_<;>intro hL
    ·have au:e < l.length:=by have:=hL;simp at this;exact this
     obtain ⟨x,hx⟩:∃ x,ks[e]? = some x:=⟨_,gE (by omega)⟩;obtain ⟨y,hy⟩:=gX au;have UW:=du (mG hx);rw [Ig hx hy] at aO;have gK:=ih x (by omega) (by omega) y;obtain ⟨xk,xn,xs,xl⟩:=x;refine iX (oy hy) ?_;refine iX (cp hx) ?_;refine cP NF gK ?_;refine br ?_ ?_<;>intro g
     ·have g:fitV ND (.mk xk xn xs xl) y=false:=sU g;rw [aO,g];exact (rfl:_=_)
     ·have g:fitV ND (.mk xk xn xs xl) y=true:=sU g;rw [g,Bool.true_and] at aO;exact rE ⟨_,by omega,e + 1,rfl,by omega,aO,rfl⟩ (bp (cY (aN au (by omega))))
    ·have hge:e=l.length:=by have:=hL;simp at this;omega
     rw [List.drop_of_length_le (by omega),List.drop_of_length_le (by omega)] at aO;rw [aO];exact (rfl:_=_)
inductive Rw where
 | mk (k at' n:Int) (s:ByteArray) (keys:List Wd) (ks:List Rw)
mutual
def dRw:Rw->List DV
 | .mk k a n s keys ks=>[.v (.int .i64 k),.v (.int .i64 a),.v (.int .i64 n),.v (.string s),.sl 2 (bG keys) none,.sl 6 (dRws ks) none]
def dRws:List Rw->List (List DV)
 | []=>[]
 | v :: r=>dRw v :: dRws r
end
theorem xI:∀ l:List Rw,dRws l=l.map dRw
 | []=>rfl
 | v :: r=>by rw [dRws,xI r];all_goals rfl
theorem Fh (l:List Rw):(dRws l).length=l.length:=by rw [xI,List.length_map]
theorem PV {l:List Rw} {e:Nat} {x:Rw} (h:l[e]? = some x):(dRws l)[e]? = some (dRw x):=by rw [xI,List.getElem?_map,h];all_goals rfl
mutual
def Fi:Rw->Nat
 | .mk _ _ _ _ _ ks=>1 + lA ks
def lA:List Rw->Nat
 | []=>0
 | v :: r=>Fi v + lA r
end
structure PW (ND:List Nd) (v:Val) (i:Int) (d:Nd):Prop where
 ah:bV ND i=some d
 k:v.k=d.ag
 leaf:d.ag < 5->v.ks=[]
 enum:d.ag=4->0<=v.n/\v.n < d.af.length
 kids:5<=d.ag->(kidsL d v).length=v.ks.length/\fitVs ND v.ks (kidsL d v)=true
 tag:d.ag=8->∃ e,yT d v=some e/\d.aw[v.n.toNat]? = some e/\0<=v.n/\v.n < d.aw.length/\(e.bare=true↔v.ks=[])
 opt:d.ag=6->v.ks.length<=1
theorem dL {L:Nat} {ND:List Nd} (bI:∀ n∈ND,dt L ND.length n) {v:Val} {i:Int} (h:fitV ND v i=true):∃ d,PW ND v i d:=by
 obtain ⟨k,n,s,ks⟩:=v;rw [fitV] at h
 cases hd:bV ND i with
 | none=>rw [hd] at h;cases h
 | some d=>
  rw [hd] at h;simp only at h;have hN:=bI d (mG (bJ hd).2);have pQ:=hN.k1;have Ko:=hN.k8;by_cases h5:d.ag < 5
  ·rw [ap h5] at h;unfold tI at h;by_cases hc:0 < (Val.mk k n s ks).ks.length∨((Val.mk k n s ks).k≠3/\(Val.mk k n s ks).s≠av)∨((Val.mk k n s ks).k=3/\(Val.mk k n s ks).n≠0)
   ·rw [ap hc] at h;cases h
   rw [aj hc] at h;have Fj:ks=[]:=by grind [Val.ks]
   have hk:k=d.ag/\(d.ag=4->0<=n/\n < d.af.length):=by grind [Val.k,Val.n]
   exact ⟨d,{ ah:=hd,k:=hk.1,leaf:=fun _=>Fj,enum:=hk.2,kids:=fun h=>by omega,tag:=fun h=>by omega,opt:=fun h=>by omega }⟩
  ·rw [aj h5,aP] at h;obtain ⟨hB,hf⟩:=h;have hlen:=Ao (by omega) hB;have hB2:=hB;unfold fI at hB;by_cases c:d.ag=5∨d.ag=6
   ·rw [ap c] at hB;simp only [aP,decide_eq_true_eq] at hB;exact ⟨d,{ ah:=hd,k:=hB.1.2,leaf:=fun h=>by omega,enum:=fun h=>by omega,kids:=fun _=>⟨hlen,hf⟩,tag:=fun h=>by omega,opt:=fun h=>by have:=hB.2;rw [ap h] at this;omega }⟩
   rw [aj c] at hB;by_cases c7:d.ag=7
   ·rw [ap c7] at hB;simp only [aP,decide_eq_true_eq] at hB;exact ⟨d,{ ah:=hd,k:=by rw [c7];exact hB.1.2,leaf:=fun h=>by omega,enum:=fun h=>by omega,kids:=fun _=>⟨hlen,hf⟩,tag:=fun h=>by omega,opt:=fun h=>by omega }⟩
   rw [aj c7] at hB
   cases ht:yT d (.mk k n s ks) with
   | none=>rw [ht] at hB;cases hB
   | some e=>
    have ht2:=ht;unfold yT at ht2;split at ht2
    ·rename_i hr;have lG:kidsL d (.mk k n s ks)=if e.bare=true then [] else [e.to]:=by unfold kidsL;rw [aj c,aj c7,ht]
     refine ⟨d,{ ah:=hd,k:=by have:=hr.1;omega,leaf:=fun h=>by omega,enum:=fun h=>by omega,kids:=fun _=>⟨hlen,hf⟩,tag:=fun _=>⟨e,ht,ht2,hr.2.1,hr.2.2,?_⟩,opt:=fun h=>by omega }⟩
     grind
    ·cases ht2
theorem qZ {ND:List Nd}:∀ {ks:List Val} {l:List Int} {e:Nat} {x:Val} {i:Int},fitVs ND ks l=true->ks[e]? = some x->l[e]? = some i->fitV ND x i=true
 | [],_,e,x,i,_,h,_=>by simp at h
 | _ :: _,[],e,x,i,_,_,h=>by simp at h
 | v :: r,j :: l,0,x,i,h,h1,h2=>by grind [fitVs]
 | v :: r,j :: l,e + 1,x,i,h,h1,h2=>by
  simp only [List.getElem?_cons_succ] at h1 h2;rw [fitVs,aP] at h;exact qZ h.2 h1 h2
structure Stp where
 k:Int
 n:Int
 s:ByteArray
def ju (x:Stp):List DV:=[.v (.int .i64 x.k),.v (.int .i64 x.n),.v (.string x.s)]
def cz (l:List Stp):List (List DV):=l.map ju
theorem oA (l:List Stp):(cz l).length=l.length:=by simp [cz]
theorem oB {l:List Stp} {e:Nat} {x:Stp} (h:l[e]? = some x):(cz l)[e]? = some (ju x):=by simp [cz,h]
def stpR (d:Nd) (v:Val) (j:Nat):Stp:=
 if d.ag=5 then ⟨2,j,av⟩
 else if d.ag=6 then ⟨4,0,av⟩
 else if d.ag=7 then ⟨1,0,match d.aw[j]? with | some e=>e.name | none=>av⟩
 else ⟨5,0,match d.aw[v.n.toNat]? with | some e=>e.name | none=>av⟩
def PX (f:Nat->Nat->Bool) (n:Nat) (a b:Int):Bool:=decide (0<=a) && decide (a < n) && decide (0<=b) && decide (b < n) && f a.toNat b.toNat
def yD (f:Nat->Nat->Bool) (n a b:Nat):Nat:=(ff f n a b).getD 0
def ib (f:Nat->Nat->Bool) (n:Nat):Nat:=(fM f n []).getD 0
theorem Fk {f:Nat->Nat->Bool} {n a b:Nat} (ha:a < n) (hb:b < n):PX f n a b=f a b:=by simp [PX,ha,hb]
theorem Fl {f:Nat->Nat->Bool} {n a b:Nat} (h:fY f n) (ha:a < n) (hb:b < n):ff f n a b=some (yD f n a b):=by
 obtain ⟨k,hk⟩:=h.jn a b ha hb;simp [yD,hk]
theorem Cb {f:Nat->Nat->Bool} {n a b:Nat} (h:fY f n) (ha:a < n) (hb:b < n):yD f n a b < n:=(pq (Fl h ha hb)).1
theorem Ap {f:Nat->Nat->Bool} {n:Nat} (h:fY f n):fM f n []=some (ib f n):=by
 obtain ⟨c,hc⟩:=tF h [] (fun _ h=>by cases h);simp [ib,hc]
theorem u1 {f:Nat->Nat->Bool} {n:Nat} (h:fY f n):ib f n < n:=om (Ap h)
section
variable (af:List ByteArray) (tc:List DV) (rows:List Nat) (js:List Int)
theorem L3 (hr:ei rows) (hl:rows.length=af.length) (a b:Int) :
  EvP prog 88 [.pt (im af tc rows js) 0,.v (.int .i64 a),.v (.int .i64 b)] (.v (.bool (hasB rows a b))):=by
 have h1:=sg af tc rows js;have h2:=la rows hr a b;have hB:hasB rows a b=(decide (0<=a) && decide (a < af.length) && decide (0<=b) && decide (b < af.length) && aU rows a.toNat b.toNat):=by rw [<- hl];all_goals rfl
 generalize hasB rows a b=h at h2 hB ⊢;refine eG 24 [.tmp 6] func88 rfl ntmps88 rfl fun _ _ _ _=>?_;refine cP vH (h1 a) ?_;refine br ?_ ?_<;>intro g
 ·refine cP vH (h1 b) ?_;refine br ?_ ?_<;>intro g2
  ·refine cP DN h2 ?_;exact (rfl:_=_)
  ·refine (bF ?_:);rw [hB];simp only [Bool.and_assoc] at g g2 ⊢;cases hx:decide (0<=b)<;>cases hy:decide (b < af.length)<;>simp_all [pickB]
 ·refine (bF ?_:);rw [hB];cases hx:decide (0<=a)<;>cases hy:decide (a < af.length)<;>simp_all [pickB]
end
structure pA (n:Nat) (f:Nat->Nat->Bool) (af:List ByteArray) (LC:List DV):Prop where
 ok:fY f n
 n32:n<=32
 nl:af.length=n
 len:EvP prog 73 [.pt LC 0] (.v (.int .i64 n))
 leq:∀ a b:Int,EvP prog 88 [.pt LC 0,.v (.int .i64 a),.v (.int .i64 b)] (.v (.bool (PX f n a b)))
 join:∀ a b:Nat,a < n->b < n->EvP prog 203 [.pt LC 0,.v (.int .i64 a),.v (.int .i64 b)] (.v (.int .i64 (yD f n a b:Nat)))
 bot:EvP prog 70 [.pt LC 0] (.v (.int .i64 (ib f n:Nat)))
 name:∀ (i:Nat) s,af[i]? = some s->EvP prog 157 [.pt LC 0,.v (.int .i64 i)] (.v (.string s))
abbrev aK (S:Sch):Nat->Nat->Bool:=eQ S.ae.length (dz (aA S.ae) S.order)
theorem eT.S3 {S:Sch} {ND:List Nd} {PC:List DV} (hP:eT S ND PC):∃ LC,EvP prog 72 [.pt PC 0] (.pt LC 0)/\pA S.ae.length (aK S) (aA S.ae) LC:=by
 obtain ⟨aF,js,hX,hl⟩:=hP.lat;have hZ:=dD S.ae;have yC:=(hP.fine).lat;obtain ⟨hL,Po⟩:=ll yC;have hpr:∀ p∈dz (aA S.ae) S.order,p.1 < S.ae.length/\p.2 < S.ae.length:=by have:=oi (mq yC).2.2.1;rwa [dD] at this
 have eM:(dB S aF js).rows.length=S.ae.length:=by
  show (closeR (fu S.ae.length (dz (aA S.ae) S.order)) S.ae.length).length=_;rw [fv,j6]
 have hr:ei (dB S aF js).rows:=ld (BE (by omega) _ hpr) _ (by omega)
 refine ⟨_,hl,{
  ok:=hL,n32:=Po,nl:=hZ
  len:=?_
  leq:=fun a b=>?_
  join:=fun a b ha hb=>?_
  bot:=?_
  name:=fun i s hs=>?_
  }⟩
 ·have:=sf (dB S aF js).af (cQ (dB S aF js).af (dB S aF js).aF) (dB S aF js).rows (dB S aF js).js
  rwa [show (dB S aF js).af.length=S.ae.length from hZ] at this
 ·have:=L3 (dB S aF js).af (cQ (dB S aF js).af (dB S aF js).aF) (dB S aF js).rows (dB S aF js).js hr (by rw [eM];exact hZ.symm) a b
  have he:hasB (dB S aF js).rows a b=PX (aK S) S.ae.length a b:=by
   unfold hasB PX;rw [eM];all_goals rfl
  rwa [he] at this
 ·have hz:=(hX.hj a b (by rw [show (dB S aF js).af.length=S.ae.length from hZ];exact ha) (by rw [show (dB S aF js).af.length=S.ae.length from hZ];exact hb)).1;rw [show (dB S aF js).af.length=S.ae.length from hZ,show (dB S aF js).f=aK S from rfl,Fl hL ha hb] at hz;exact wI (dB S aF js).af (cQ (dB S aF js).af (dB S aF js).aF) (dB S aF js).rows (dB S aF js).js a b _ (by rw [show (dB S aF js).af.length=S.ae.length from hZ];exact ha) (by rw [show (dB S aF js).af.length=S.ae.length from hZ];exact hb) hX.hn hz
 ·have:=qI (dB S aF js).af (cQ (dB S aF js).af (dB S aF js).aF) (dB S aF js).rows (dB S aF js).js hX.hL hX.hn hX.hj
  rwa [show (dB S aF js).af.length=S.ae.length from hZ,show (dB S aF js).f=aK S from rfl,Ap hL] at this
 ·have:=Ht (dB S aF js).af (cQ (dB S aF js).af (dB S aF js).aF) (dB S aF js).rows (dB S aF js).js i;have au:=(gS hs).1;rw [ap ⟨by omega,by rw [show (dB S aF js).af=aA S.ae from rfl];omega⟩,kS,show (dB S aF js).af=aA S.ae from rfl,hs] at this;exact this
def eY (s:Stp):Bool:=
 if s.k=1∨s.k=5 then decide (s.n=0) && bd s.s
 else if s.k=2 then decide (0<=s.n) && decide (s.s=⟨#[]⟩)
 else if s.k=3∨s.k=4 then decide (s.n=0) && decide (s.s=⟨#[]⟩) else false
def nO (l:List Stp):Bool:=decide (l.length<=64) && l.all eY
theorem Ii (s:Stp):nO [s]=eY s:=by simp [nO]
def xJ (d:Nd) (s:Stp) (e:Ed):Bool:=
 (decide (s.k=1) && decide (d.ag=7) && (decide (e.name=s.s) && !e.bare)) || (decide (s.k=5) && decide (d.ag=8) && (decide (e.name=s.s) && !e.bare)) ||
  ((decide (s.k=2) || decide (s.k=3)) && decide (d.ag=5) && decide (s.n < d.most)) || (decide (s.k=4) && decide (d.ag=6))
def Ij (d:Nd) (s:Stp) (e:Ed):Bool:=
 if s.k=1 then decide (d.ag=7) && decide (e.name=s.s)
 else if s.k=5 then decide (d.ag=8) && decide (e.name=s.s) && !e.bare
 else if s.k=2 then decide (d.ag=5) && decide (s.n < d.most)
 else if s.k=3 then decide (d.ag=5) && decide (0 < d.most)
 else decide (d.ag=6)
theorem PY {s:Stp} (h:eY s=true):s.k=1∨s.k=2∨s.k=3∨s.k=4∨s.k=5:=by grind [eY]
theorem Kp {L N:Nat} {d:Nd} (hN:dt L N d) {s:Stp} (hr:eY s=true) {e:Ed} (he:e∈d.aw):Ij d s e=xJ d s e:=by
 have hk:=PY hr;have hb:=hN.bare e he
 grind [Ij,xJ,eY]
def edgeP (d:Nd) (s:Stp) (k:Nat):Bool:=match d.aw[k]? with | some e=>xJ d s e | none=>false
def xK (d:Nd) (s:Stp):Option Nat:=if eY s=true then bB (edgeP d s) d.aw.length else none
theorem Ik {d:Nd} {s:Stp} {k:Nat} (h:xK d s=some k):∃ e,d.aw[k]? = some e/\xJ d s e=true/\eY s=true:=by
 unfold xK at h;split at h
 ·rename_i hr;obtain ⟨h1,h2,_⟩:=dN h
  grind [edgeP]
 ·cases h
def walkV (ND:List Nd) (f:Nat->Nat->Bool) (n:Nat):List Stp->Nat->Nat->Option (Nat × Nat)
 | [],i,a=>some (i,a)
 | s :: p,i,a=>match ND[i]? with
  | none=>none
  | some d=>match xK d s with
   | none=>none
   | some k=>match d.aw[k]? with
    | none=>none
    | some e=>walkV ND f n p e.to.toNat (yD f n a e.label.toNat)
theorem xL {L N:Nat} {d:Nd} (hN:dt L N d) {s:Stp} {e:Ed} (he:e∈d.aw) (h:xJ d s e=true):e.bare=false:=by
 cases hb:e.bare
 ·rfl
 ·have h8:=hN.bare e he hb;unfold xJ at h;simp [hb,h8] at h
theorem gJ {L:Nat} {ND:List Nd} {d:Nd} (hN:dt L ND.length d) {e:Ed} (he:e∈d.aw):(e.bare=false->e.to=(e.to.toNat:Nat)/\e.to.toNat < ND.length)/\(e.label=(e.label.toNat:Nat)/\e.label.toNat < L)/\(e.seen=(e.seen.toNat:Nat)/\e.seen.toNat < L):=by
 have hE:=hN.fD e he;refine ⟨fun hb=>?_,?_,?_⟩
 ·obtain ⟨k,h1,h2⟩:=hE.to1 hb;rw [h1];exact ⟨by simp,by simpa using h2⟩
 ·obtain ⟨k,h1,h2⟩:=hE.lab;rw [h1];exact ⟨by simp,by simpa using h2⟩
 ·obtain ⟨k,h1,h2⟩:=hE.seen;rw [h1];exact ⟨by simp,by simpa using h2⟩
theorem Fm {f:Nat->Nat->Bool} {L:Nat} (hL:fY f L) {ND:List Nd} (bI:∀ n∈ND,dt L ND.length n):∀ (p:List Stp) (i a:Nat) {j b:Nat},i < ND.length->a < L->walkV ND f L p i a=some (j,b)->j < ND.length/\b < L
 | [],i,a,j,b,hi,ha,h=>by grind [walkV]
 | s :: p,i,a,j,b,hi,ha,h=>by
  rw [walkV,gE hi] at h;simp only at h;split at h
  ·cases h
  ·rename_i k hk;obtain ⟨e,he,hB,_⟩:=Ik hk;rw [he] at h;simp only at h;have hm:=mG he;have hd:=bI _ (List.getElem_mem hi);obtain ⟨h1,h2,_⟩:=gJ hd hm;exact Fm hL bI p _ _ (h1 (xL hd hm hB)).2 (Cb hL ha h2.2) h
def kR (f:Nat->Nat->Bool) (n obs:Nat) (d:Nd) (e:Ed) (a:Nat):Nat:=
 if f (if d.ag < 7 then a else yD f n a e.label.toNat) obs=true then 2 else if e.ck≠0/\f (yD f n a e.seen.toNat) obs=true then 1 else 0
section
variable (ND:List Nd) (f:Nat->Nat->Bool) (n obs dep:Nat)
end
def bH (d:Nd) (z:Int) (j:Nat):Option Ed:=if d.ag=7 then d.aw[j]? else if d.ag=8 then d.aw[z.toNat]? else d.aw[0]?
def gA (f:Nat->Nat->Bool) (n:Nat) (d:Nd) (e:Ed) (a:Nat):Nat:=if d.ag < 7 then a else yD f n a e.label.toNat
def oG (e:Ed):Val:=.mk 9 e.wide av []
def bE (e:Ed) (v:Val):Val:=
 if e.ck=1/\v.k=2/\(aJ v.n e.cn).2=true then .mk 10 (aJ v.n e.cn).1 av []
 else if e.ck=2/\v.k=3 then .mk 11 0 (ba (headL e.cn.toNat (tx v.s))) []
 else if e.ck=3/\v.k=5 then .mk 12 v.ks.length av []
 else oG e
def nP (e:Ed) (x y:Val):Bool:=
 if e.ck=1/\x.k=2 then decide (aJ x.n e.cn=aJ y.n e.cn)
 else if e.ck=2/\x.k=3 then headsL e.cn.toNat (tx x.s) (tx y.s)
 else if e.ck=3/\x.k=5 then decide (x.ks.length=y.ks.length)
 else true
theorem L4 (n u:Int) (h:(aJ n u).2=false):aJ n u=(0,false):=by grind [aJ]
theorem PZ (e:Ed) {x y:Val} (h:x.k=y.k):nP e x y=sameV (bE e x) (bE e y):=by grind [jP,nP,bE,aJ,L4,oG,PU,tx]
def Fo (d:Nd) (z:Int) (j:Nat):Stp:=stpR d (.mk 0 z av []) j
section
variable (ND:List Nd) (f:Nat->Nat->Bool) (L obs:Nat)
mutual
def eraseV:Val->Int->Nat->Val
 | .mk k n s ks,i,a=>match bV ND i with
  | none=>.mk k n s []
  | some d=>.mk k n s (eraseVs ks d n a 0)
def eraseVs:List Val->Nd->Int->Nat->Nat->List Val
 | [],_,_,_,_=>[]
 | x :: r,d,z,a,j=>(match bH d z j with
  | none=>x
  | some e=>if kR f L obs d e a=2 then eraseV x e.to (gA f L d e a) else if kR f L obs d e a=1 then bE e x else oG e) :: eraseVs r d z a (j + 1)
end
mutual
def diffV:Val->Val->Int->Nat->Option (List Stp)
 | .mk _ n s ks,.mk _ n' s' CZ,i,a=>if n≠n' ∨ s≠s' ∨ ks.length≠CZ.length then some [] else match bV ND i with
  | none=>none
  | some d=>diffVs ks CZ d n a 0
def diffVs:List Val->List Val->Nd->Int->Nat->Nat->Option (List Stp)
 | x :: r,y :: t,d,z,a,j=>match bH d z j with
  | none=>none
  | some e=>match (if kR f L obs d e a=2 then diffV x y e.to (gA f L d e a) else if kR f L obs d e a=1 then (if nP e x y=true then none else some []) else none) with
   | some p=>some (Fo d z j :: p)
   | none=>diffVs r t d z a (j + 1)
 | _,_,_,_,_,_=>none
end
mutual
def refD:Val->Val->Int->Option (List Stp)
 | .mk k n s ks,.mk k' n' s' CZ,i=>if k≠k' ∨ n≠n' ∨ s≠s' ∨ ks.length≠CZ.length then some [] else match bV ND i with
  | none=>none
  | some d=>refDs ks CZ d n 0
def refDs:List Val->List Val->Nd->Int->Nat->Option (List Stp)
 | x :: r,y :: t,d,z,j=>match bH d z j with
  | none=>none
  | some e=>match refD x y e.to with
   | some p=>some (Fo d z j :: p)
   | none=>refDs r t d z (j + 1)
 | _,_,_,_,_=>none
end
mutual
def vwB:Val->Int->Bool
 | .mk _ n _ ks,i=>match bV ND i with
  | none=>false
  | some d=>vwBs ks d n 0
def vwBs:List Val->Nd->Int->Nat->Bool
 | [],_,_,_=>true
 | x :: r,d,z,j=>match bH d z j with
  | none=>false
  | some e=>decide (Ro d (.mk 0 z av []) j=e.to) && decide (0<=e.to) && vwB x e.to && vwBs r d z (j + 1)
end
end
section
variable {ND:List Nd} {f:Nat->Nat->Bool} {L obs:Nat}
theorem je:∀ (ks:List Val) (d:Nd) (z:Int) (a j:Nat),(eraseVs ND f L obs ks d z a j).length=ks.length
 | [],_,_,_,_=>by rw [eraseVs]
 | x :: r,d,z,a,j=>by rw [eraseVs,List.length_cons,List.length_cons,je r]
theorem xM (v:Val) (i:Int) (a:Nat):(eraseV ND f L obs v i a).k=v.k/\(eraseV ND f L obs v i a).n=v.n/\(eraseV ND f L obs v i a).s=v.s:=by
 obtain ⟨k,n,s,ks⟩:=v;rw [eraseV];cases bV ND i<;>exact ⟨rfl,rfl,rfl⟩
theorem Aq (u:Nat) (l:List UInt8):(headL u l).length<=l.length:=(ow u l).length_le
theorem Il (e:Ed) (v:Val):(bE e v).wt<=v.wt:=by
 have h1:=v.dy;unfold bE
 repeat' split
 ·rw [Val.wt,ch];show 64 + 0 + 0<=_;omega
 ·obtain ⟨k,n,s,ks⟩:=v;have h2:=Aq e.cn.toNat (tx s);rw [cE] at h2;rw [Val.wt,ch,Val.wt];have:(ba (headL e.cn.toNat (tx s))).size=(headL e.cn.toNat (tx s)).length:=by rw [<- cE,qx]
  show 64 + (ba (headL e.cn.toNat (tx s))).size + 0<=_;omega
 ·rw [Val.wt,ch];show 64 + 0 + 0<=_;omega
 ·rw [oG,Val.wt,ch];show 64 + 0 + 0<=_;omega
mutual
theorem Ar:∀ (v:Val) (i:Int) (a:Nat),(eraseV ND f L obs v i a).wt<=v.wt
 | .mk k n s ks,i,a=>by
  rw [eraseV]
  cases bV ND i with
  | none=>rw [Val.wt,Val.wt,ch];omega
  | some d=>
   have:=xN ks d n a 0;simp only;rw [Val.wt,Val.wt];omega
theorem xN:∀ (ks:List Val) (d:Nd) (z:Int) (a j:Nat),ch (eraseVs ND f L obs ks d z a j)<=ch ks
 | [],_,_,_,_=>by rw [eraseVs];exact aQ _
 | x :: r,d,z,a,j=>by
  have h1:=xN r d z a (j + 1);rw [eraseVs,ch,ch]
  have:(match bH d z j with
   | none=>x
   | some e=>if kR f L obs d e a=2 then eraseV ND f L obs x e.to (gA f L d e a) else if kR f L obs d e a=1 then bE e x else oG e).wt<=x.wt:=by
   cases bH d z j with
   | none=>exact aQ _
   | some e=>
    simp only;split
    ·exact Ar x _ _
    ·split
     ·exact Il e x
     ·have:=x.dy;rw [oG,Val.wt,ch];show 64 + 0 + 0<=_;omega
  omega
end
theorem xO:∀ {ks:List Val} {d:Nd} {z:Int} {a j m:Nat} {x:Val},ks[m]? = some x->(eraseVs ND f L obs ks d z a j)[m]? = some (match bH d z (j + m) with
  | none=>x
  | some e=>if kR f L obs d e a=2 then eraseV ND f L obs x e.to (gA f L d e a) else if kR f L obs d e a=1 then bE e x else oG e)
 | [],_,_,_,_,_,_,h=>by cases h
 | y :: r,d,z,a,j,0,x,h=>by
  rw [eraseVs];cases h;rfl
 | y :: r,d,z,a,j,m + 1,x,h=>by
  rw [eraseVs,List.getElem?_cons_succ,xO (ks:=r) (m:=m) (x:=x) h,show j + 1 + m=j + (m + 1) by omega]
theorem P4 {N:Nat} (bI:∀ n∈ND,dt N ND.length n) {v:Val} {i:Int} {d:Nd} (fT:fitV ND v i=true) (hF:PW ND v i d) {m:Nat} {x:Val} (hx:v.ks[m]? = some x) :
  ∃ e,bH d v.n m=some e/\e∈d.aw/\e.bare=false/\fitV ND x e.to=true/\Ro d v m=e.to/\5<=d.ag:=by
 have hN:=bI d (mG (bJ hF.ah).2);have hm:m < v.ks.length:=(gS hx).1;have h8:=hN.k8;have h1:=hN.k1;by_cases h5:d.ag < 5
 ·rw [hF.leaf h5] at hx;cases hx
 obtain ⟨lG,hkf⟩:=hF.kids (by omega);rcases (show (d.ag=5∨d.ag=6)∨d.ag=7∨d.ag=8 by omega) with c | c | c
 ·obtain ⟨e,he,hb,_⟩:=hN.one c;have ht0:to0 d=e.to:=by unfold to0;rw [he];all_goals rfl
  have hl:(kidsL d v)[m]? = some e.to:=by grind [kidsL]
  refine ⟨e,?_,by rw [he];exact List.mem_singleton_self e,hb,qZ hkf hx hl,?_,by omega⟩
  ·grind [bH]
  ·unfold Ro;rw [ht0];rcases c with c | c
   ·rw [ap c,ap];have h2:=fT;obtain ⟨q,z,s,ks⟩:=v;rw [fitV,hF.ah] at h2
    grind [fI]
   ·have:=hF.opt c;omega
 ·have CY:(kidsL d v)=d.aw.map Ed.to:=by grind [kidsL]
  have fg:m < d.aw.length:=by
   rw [CY,List.length_map] at lG;omega
  obtain ⟨e,he⟩:∃ e,d.aw[m]? = some e:=⟨_,gE fg⟩;have hl:(kidsL d v)[m]? = some e.to:=by rw [CY,List.getElem?_map,he];all_goals rfl
  have lP:=mG he;refine ⟨e,?_,lP,?_,qZ hkf hx hl,?_,by omega⟩
  ·unfold bH;rw [ap c,he]
  ·cases hb:e.bare
   ·rfl
   ·have:=hN.bare e lP hb;omega
  ·grind [Ro]
 ·obtain ⟨e,ht,he,h0,au,hb⟩:=hF.tag c
  grind [kidsL,qZ,bH,Ro]
structure Kq (ND:List Nd) (d:Nd) (z:Int) (j:Nat) (x:Val) (e:Ed):Prop where
 fD:bH d z j=some e
 mem:e∈d.aw
 bare:e.bare=false
 fit:fitV ND x e.to=true
 to':Ro d (.mk 0 z av []) j=e.to
theorem mv {N:Nat} (bI:∀ n∈ND,dt N ND.length n) {v:Val} {i:Int} {d:Nd} (fT:fitV ND v i=true) (hF:PW ND v i d) {m:Nat} {x:Val} (hx:v.ks[m]? = some x):∃ e,Kq ND d v.n m x e:=by
 obtain ⟨e,h1,h2,h3,h4,h5,_⟩:=P4 bI fT hF hx;exact ⟨e,⟨h1,h2,h3,h4,h5⟩⟩
theorem Fp {N:Nat} {d:Nd} {e:Ed} (hN:dt N ND.length d) (he:e∈d.aw) (hb:e.bare=false):0<=e.to/\∃ d',bV ND e.to=some d':=by
 obtain ⟨k,hk,au⟩:=(hN.fD e he).to1 hb;refine ⟨by omega,ND[k],?_⟩
 grind [bV]
theorem pB (e:Ed) (v:Val):(bE e v).ks=[]:=by
 unfold bE
 repeat' split
 all_goals rfl
theorem Fq {x y:Val} {i:Int} (hx:x.ks=[]) (hy:y.ks=[]):refD ND x y i=if sameV x y=true then none else some []:=by
 obtain ⟨k,n,s,ks⟩:=x;obtain ⟨k',n',s',CZ⟩:=y
 grind [Val.ks,refD,jP,xH,bV,refDs]
mutual
theorem diff_eq {N:Nat} (bI:∀ n∈ND,dt N ND.length n):∀ (x y:Val) (i:Int) (a:Nat),fitV ND x i=true->fitV ND y i=true ->
  refD ND (eraseV ND f L obs x i a) (eraseV ND f L obs y i a) i=diffV ND f L obs x y i a
 | .mk k n s ks,.mk k' n' s' CZ,i,a,hx,hy=>by
  obtain ⟨d,hF⟩:=dL bI hx;obtain ⟨d',S4⟩:=dL bI hy;have Vk:d'=d:=by have:=hF.ah;rw [S4.ah] at this;cases this;rfl
  subst Vk;have pN:k=k':=hF.k.trans S4.k.symm;subst pN;rw [eraseV,eraseV,diffV,hF.ah];simp only;rw [refD,hF.ah];simp only;rw [je,je];by_cases h:n≠n' ∨ s≠s' ∨ ks.length≠CZ.length
  ·rw [ap h,ap (.inr h)]
  ·rw [aj h,aj (sU h)];simp at h;obtain ⟨rfl,rfl,hl⟩:=h
   exact Fs bI ks CZ d' n a 0 hl (bI d' (mG (bJ hF.ah).2)) (fun m x y hx1 A2=>by
    obtain ⟨e,he⟩:=mv bI hx hF hx1;obtain ⟨e',KW⟩:=mv bI hy S4 A2;have h1:=he.fD;have h2:=KW.fD;simp only [Val.n] at h1 h2;rw [h1] at h2;cases h2
    exact ⟨e,by rw [Nat.zero_add];exact he,KW.fit⟩)
theorem Fs {N:Nat} (bI:∀ n∈ND,dt N ND.length n):∀ (ks ls:List Val) (d:Nd) (z:Int) (a j:Nat),ks.length=ls.length->dt N ND.length d->(∀ m x y,ks[m]? = some x->ls[m]? = some y->∃ e,Kq ND d z (j + m) x e/\fitV ND y e.to=true) ->
  refDs ND (eraseVs ND f L obs ks d z a j) (eraseVs ND f L obs ls d z a j) d z j=diffVs ND f L obs ks ls d z a j
 | [],[],_,_,_,_,_,_,_=>by rw [eraseVs,refDs,diffVs]<;>simp
 | x :: r,y :: t,d,z,a,j,hl,hN,hk=>by
  obtain ⟨e,he,hfy⟩:=hk 0 x y rfl rfl;rw [Nat.add_zero] at he
  have ih:=Fs bI r t d z a (j + 1) (sU hl) hN (fun m x y h1 h2=>by
   have:=hk (m + 1) x y h1 h2
   rwa [show j + (m + 1)=j + 1 + m by omega] at this)
  rw [eraseVs,eraseVs,refDs,diffVs,he.fD];simp only;rw [ih]
  have hxk:x.k=y.k:=by
   obtain ⟨d1,hF1⟩:=dL bI he.fit;obtain ⟨d2,hF2⟩:=dL bI hfy;have:=hF1.ah;rw [hF2.ah] at this;cases this;exact hF1.k.trans hF2.k.symm
  by_cases c2:kR f L obs d e a=2
  ·rw [ap c2,ap c2,ap c2,diff_eq bI x y e.to (gA f L d e a) he.fit hfy]
  ·rw [aj c2,aj c2,aj c2];by_cases c1:kR f L obs d e a=1
   ·rw [ap c1,ap c1,ap c1,Fq (pB e x) (pB e y),PZ e hxk]
   ·rw [aj c1,aj c1,aj c1,Fq (x:=oG e) (y:=oG e) rfl rfl,ap (xH _)]
 | [],_ :: _,_,_,_,_,hl,_,_=>by simp at hl
 | _ :: _,[],_,_,_,_,hl,_,_=>by simp at hl
end
mutual
theorem As:∀ (x y:Val) (i:Int),vwB ND x i=true->(refD ND x y i=none↔x=y)
 | .mk k n s ks,.mk k' n' s' CZ,i,hx=>by
  rw [vwB] at hx;rw [refD];by_cases h:k≠k' ∨ n≠n' ∨ s≠s' ∨ ks.length≠CZ.length
  ·rw [ap h];constructor
   ·intro e;cases e
   ·intro e;cases e;simp at h
  ·rw [aj h];simp at h;obtain ⟨rfl,rfl,rfl,hl⟩:=h
   cases hd:bV ND i with
   | none=>rw [hd] at hx;cases hx
   | some d=>
    rw [hd] at hx;simp only at hx ⊢;rw [xP ks CZ d n 0 hl hx];constructor
    ·rintro rfl;rfl
    ·intro e;cases e;rfl
theorem xP:∀ (ks ls:List Val) (d:Nd) (z:Int) (j:Nat),ks.length=ls.length->vwBs ND ks d z j=true->(refDs ND ks ls d z j=none↔ks=ls)
 | [],[],_,_,_,_,_=>by rw [refDs]<;>simp
 | x :: r,y :: t,d,z,j,hl,hx=>by
  rw [vwBs] at hx;rw [refDs]
  cases he:bH d z j with
  | none=>rw [he] at hx;cases hx
  | some e=>
   rw [he] at hx;simp only [aP] at hx ⊢;have h1:=As x y e.to hx.1.2;have h2:=xP r t d z (j + 1) (sU hl) hx.2
   cases hr:refD ND x y e.to with
   | none=>
    have:=h1.1 hr;subst this;simp only;rw [h2];constructor
    ·rintro rfl;rfl
    ·intro e;cases e;rfl
   | some p=>
    simp only;constructor
    ·intro e;cases e
    ·intro e;cases e;rw [h1.2 rfl] at hr;cases hr
 | [],_ :: _,_,_,_,hl,_=>by simp at hl
 | _ :: _,[],_,_,_,hl,_=>by simp at hl
end
mutual
theorem Fu {N:Nat} (bI:∀ n∈ND,dt N ND.length n):∀ (x:Val) (i:Int) (a:Nat),fitV ND x i=true->vwB ND (eraseV ND f L obs x i a) i=true
 | .mk k n s ks,i,a,hx=>by
  obtain ⟨d,hF⟩:=dL bI hx;rw [eraseV,hF.ah];simp only;rw [vwB,hF.ah];simp only;exact Au bI ks d n a 0 (bI d (mG (bJ hF.ah).2)) (fun m x hx1=>by rw [Nat.zero_add];exact mv bI hx hF hx1)
theorem Au {N:Nat} (bI:∀ n∈ND,dt N ND.length n):∀ (ks:List Val) (d:Nd) (z:Int) (a j:Nat),dt N ND.length d->(∀ m x,ks[m]? = some x->∃ e,Kq ND d z (j + m) x e) ->
  vwBs ND (eraseVs ND f L obs ks d z a j) d z j=true
 | [],_,_,_,_,_,_=>by rw [eraseVs,vwBs]
 | x :: r,d,z,a,j,hN,hk=>by
  obtain ⟨e,he⟩:=hk 0 x rfl;rw [Nat.add_zero] at he
  have ih:=Au bI r d z a (j + 1) hN (fun m x h1=>by
   have:=hk (m + 1) x h1
   rwa [show j + (m + 1)=j + 1 + m by omega] at this)
  obtain ⟨h0,d',yJ⟩:=Fp hN he.mem he.bare
  have Fj:∀ w:Val,w.ks=[]->vwB ND w e.to=true:=by
   intro ⟨k,n,s,ks⟩ h;simp only [Val.ks] at h;subst h;rw [vwB,yJ];simp only;rw [vwBs]
  rw [eraseVs,vwBs,he.fD];simp only;rw [ih,he.to',decide_eq_true rfl,decide_eq_true h0];simp only [Bool.true_and,Bool.and_true];by_cases c2:kR f L obs d e a=2
  ·rw [ap c2];exact Fu bI x e.to (gA f L d e a) he.fit
  ·rw [aj c2];by_cases c1:kR f L obs d e a=1
   ·rw [ap c1];exact Fj _ (pB e x)
   ·rw [aj c1];exact Fj _ rfl
end
theorem P5 {N:Nat} (bI:∀ n∈ND,dt N ND.length n) {x y:Val} {i:Int} {a:Nat} (hx:fitV ND x i=true) (hy:fitV ND y i=true) :
  sameV (eraseV ND f L obs x i a) (eraseV ND f L obs y i a)=(diffV ND f L obs x y i a).isNone:=by
 apply Bool.eq_iff_iff.2;rw [jP,<- As _ _ i (Fu bI x i a hx),diff_eq bI x y i a hx hy];cases diffV ND f L obs x y i a<;>simp
end
section
variable (ND:List Nd) (f:Nat->Nat->Bool) (L obs:Nat)
end
section
variable {ND:List Nd} {f:Nat->Nat->Bool} {L obs:Nat}
theorem Cd (d:Nd) (e:Ed) (a:Nat):kR f L obs d e a=if f (gA f L d e a) obs=true then 2 else if e.ck≠0/\f (yD f L a e.seen.toNat) obs=true then 1 else 0:=rfl
theorem Ce {N:Nat} {d:Nd} {e:Ed} {a:Nat} (hL:fY f L) (hN:dt L N d) (hm:e∈d.aw) (ha:a < L):gA f L d e a < L:=by
 obtain ⟨k,hk,hl⟩:=(hN.fD e hm).lab;unfold gA;split
 ·exact ha
 ·exact Cb hL ha (by rw [hk,kS];exact hl)
theorem S5 {N:Nat} {d:Nd} {e:Ed} {a:Nat} (hL:fY f L) (hN:dt L N d) (hm:e∈d.aw) (ha:a < L):yD f L a e.seen.toNat < L:=by
 obtain ⟨k,hk,hl⟩:=(hN.fD e hm).seen;exact Cb hL ha (by rw [hk,kS];exact hl)
theorem Im (v:Val) (i:Int) (a:Nat) {d:Nd} (hd:bV ND i=some d):(eraseV ND f L obs v i a).ks.length=v.ks.length:=by
 obtain ⟨k,n,s,ks⟩:=v;rw [eraseV,hd];exact je ks d n a 0
end
theorem P6 {α:Type} {l:List α} {e:Nat} {x:α} {p:α->Bool} (h:l[e]? = some x):(l.drop e).all p=(p x && (l.drop (e + 1)).all p):=by
 obtain ⟨h1,h2⟩:=List.getElem?_eq_some_iff.1 h;rw [List.drop_eq_getElem_cons h1,h2,List.all_cons]
theorem Cf (s:Stp) (hs:s.s.size<=4611686018427387904):EvP prog 231 [.agg (ju s)] (.v (.bool (eY s))):=by
 have hr:=gv s.s hs;obtain ⟨k,n,t⟩:=s;have hF:eY ⟨k,n,t⟩=if k=1∨k=5 then decide (n=0) && bd t else if k=2 then decide (0<=n) && decide (t=⟨#[]⟩) else if k=3∨k=4 then decide (n=0) && decide (t=⟨#[]⟩) else false:=rfl
 generalize eY ⟨k,n,t⟩=F at hF ⊢;refine eG 39 [.tmp 2] func231 rfl ntmps231 rfl fun _ _ _ _=>?_;refine br ?_ ?_<;>intro c
 ·have c:k=1:=sU c;rw [ap (.inl c)] at hF;refine br (fun _=>?_) (fun g=>absurd g (by simp [c]));refine br ?_ ?_<;>intro g
  ·have g:n=0:=sU g;refine cP tf hr ?_;refine (bF ?_:);rw [hF];simp [g,pickB]
  ·have g:¬ n=0:=sU g;refine (bF ?_:);rw [hF];simp [g,pickB]
 have c1:¬ k=1:=sU c;refine br ?_ ?_<;>intro c
 ·have c:k=5:=sU c;rw [ap (.inr c)] at hF;refine br ?_ ?_<;>intro g
  ·have g:n=0:=sU g;refine cP tf hr ?_;refine (bF ?_:);rw [hF];simp [g,pickB]
  ·have g:¬ n=0:=sU g;refine (bF ?_:);rw [hF];simp [g,pickB]
 have c5:¬ k=5:=sU c;rw [aj (by omega)] at hF;refine br ?_ ?_<;>intro c
 ·have c:k=2:=sU c;rw [ap c] at hF;refine (bF ?_:);rw [hF];cases decide (0<=n)<;>rfl
 have c2:¬ k=2:=sU c;rw [aj c2] at hF;refine br ?_ ?_<;>intro c
 ·have c:k=3:=sU c;rw [ap (.inl c)] at hF;refine br (fun _=>?_) (fun g=>absurd g (by simp [c]));refine (bF ?_:);rw [hF];cases decide (n=0)<;>rfl
 have c3:¬ k=3:=sU c;refine br ?_ ?_<;>intro c
 ·have c:k=4:=sU c;rw [ap (.inr c)] at hF;refine (bF ?_:);rw [hF];cases decide (n=0)<;>rfl
 have c4:¬ k=4:=sU c;rw [aj (by omega)] at hF;subst hF;exact (rfl:_=_)
abbrev prSt (l:List Stp) (e:Nat):St:=⟨[bh 8 3 (cz l),ay 9 ((cz l).length),ay 10 e],[],[]⟩
theorem tJ (l:List Stp) (hs:∀ s∈l,s.s.size<=4611686018427387904):EvP prog 166 [.sl 3 (cz l) none] (.v (.bool (nO l))):=by
 have de:=oA l;have hF:nO l=(decide (l.length<=64) && l.all eY):=rfl;generalize nO l=F at hF ⊢;refine eG 18 [.tmp 2] func166 rfl ntmps166 rfl fun _ _ _ _=>?_;refine br ?_ ?_<;>intro g
 ·have:¬ l.length<=64:=by simp [de] at g;omega
  rw [decide_eq_false this,Bool.false_and] at hF;subst hF;exact (rfl:_=_)
 have fF:l.length<=64:=by simp [de] at g;omega
 rw [decide_eq_true fF,Bool.true_and] at hF;refine lI (fun j st=>∃ e:Nat,st=prSt l e/\e<=l.length/\F=(l.drop e).all eY/\j=l.length - e) ⟨0,rfl,by omega,hF,rfl⟩ (bp wB) ?_;rintro j st ⟨e,rfl,he,aO,rfl⟩;refine br ?_ ?_<;>intro hL
 ·have au:e < l.length:=sV de hL;obtain ⟨x,hx⟩:=gX au;have h1:=Cf x (hs x (mG hx));rw [P6 hx] at aO;obtain ⟨xk,xn,xs⟩:=x;refine iX (oB hx) ?_;refine cP ZS h1 ?_;refine br ?_ ?_<;>intro g
  ·have g:eY ⟨xk,xn,xs⟩=false:=sU g;rw [g,Bool.false_and] at aO;subst aO;exact (rfl:_=_)
  ·have g:eY ⟨xk,xn,xs⟩=true:=sU g;rw [g,Bool.true_and] at aO;exact rE ⟨_,by omega,e + 1,rfl,by omega,aO,rfl⟩ (bp (cY (aN au (by omega))))
 ·have hge:l.length<=e:=sV de hL;rw [List.drop_eq_nil_of_le hge] at aO;subst aO;exact (rfl:_=_)
def pD (K:List Nat) (e:Ed):Nat:=K.getD e.to.toNat 0
def leastR (K:List Nat):List Ed->Nat->Nat
 | [],m=>m + 1
 | e :: r,m=>if pD K e=0 then 0 else leastR K r (max m (pD K e))
def eZ (K:List Nat):List Ed->Nat->Nat
 | [],b=>if b=0 then 0 else b + 1
 | e :: r,b=>if e.bare=true then 1 else if 0 < pD K e/\(b=0∨pD K e < b) then eZ K r (pD K e) else eZ K r b
def gB (n:Nd) (K:List Nat):Nat:=if n.ag=7 then leastR K n.aw 0 else if n.ag=8 then eZ K n.aw 0 else 1
def depN (ND:List Nd):Nat->List Nat
 | 0=>List.replicate ND.length 0
 | d + 1=>ND.map fun n=>gB n (depN ND d)
theorem gf (ND:List Nd):∀ d,(depN ND d).length=ND.length
 | 0=>by simp [depN]
 | d + 1=>by simp [depN]
theorem depN_get (ND:List Nd) (d j:Nat):(depN ND (d + 1)).getD j 0=match ND[j]? with | none=>0 | some n=>gB n (depN ND d):=by grind [depN]
def L5 (d:Nat) (A B:List Nat):Prop:=∀ j:Nat,(0 < A.getD j 0->B.getD j 0=A.getD j 0/\A.getD j 0<=d)/\(A.getD j 0=0->B.getD j 0=0∨B.getD j 0=d + 1)
theorem Kr {d:Nat} {A B:List Nat} (h:L5 d A B) (j:Nat):B.getD j 0<=d + 1:=by
 obtain ⟨h1,h2⟩:=h j;omega
theorem nQ {K:List Nat}:∀ {es:List Ed} {m:Nat},leastR K es m=0↔∃ e∈es,pD K e=0
 | [],m=>by simp [leastR]
 | e :: r,m=>by
  rw [leastR];by_cases h:pD K e=0
  ·grind
  ·rw [aj h,nQ]
   grind
theorem tK {d:Nat} {A B:List Nat} (hR:L5 d A B):∀ {es:List Ed} {m:Nat},0 < leastR A es m->leastR B es m=leastR A es m
 | [],m,_=>rfl
 | e :: r,m,h=>by
  rw [leastR] at h ⊢;rw [leastR];by_cases h0:pD A e=0
  ·rw [ap h0] at h;omega
  rw [aj h0] at h ⊢;have h1:pD B e=pD A e:=((hR e.to.toNat).1 (by unfold pD at h0;omega)).1;rw [h1,aj h0];exact tK hR h
theorem xQ {d:Nat} {A B:List Nat} (hR:L5 d A B):∀ {es:List Ed} {m:Nat},m<=d + 1->(m=d + 1∨∃ e∈es,pD A e=0)->leastR B es m=0∨leastR B es m=d + 2
 | [],m,_,h=>by grind [leastR]
 | e :: r,m,hm,h=>by
  rw [leastR];by_cases h0:pD B e=0
  ·rw [ap h0];exact .inl rfl
  rw [aj h0];have fF:pD B e<=d + 1:=Kr hR _;refine xQ hR (by omega) ?_;rcases h with h | ⟨x,hx,h⟩
  ·left;omega
  ·rcases cO hx with rfl | hx
   ·left;have:=(hR x.to.toNat).2 h;unfold pD at h0 fF ⊢;omega
   ·exact .inr ⟨x,hx,h⟩
theorem mw {d:Nat} {A B:List Nat} (hR:L5 d A B):∀ {es:List Ed} {a b:Nat},(0 < a->b=a/\a<=d)->(a=0->b=0∨b=d + 1) ->
  (0 < eZ A es a->eZ B es b=eZ A es a)/\(eZ A es a=0->eZ B es b=0∨eZ B es b=d + 2)
 | [],a,b,h1,h2=>by grind [eZ]
 | e :: r,a,b,h1,h2=>by
  rw [eZ,eZ];by_cases hb:e.bare=true
  ·grind
  rw [aj hb,aj hb];obtain ⟨g1,g2⟩:=hR e.to.toNat;change (0 < pD A e->pD B e=pD A e/\pD A e<=d) at g1;change (pD A e=0->pD B e=0∨pD B e=d + 1) at g2;by_cases c1:0 < pD A e/\(a=0∨pD A e < a)<;>by_cases c2:0 < pD B e/\(b=0∨pD B e < b)
  ·rw [ap c1,ap c2];exact mw hR (by omega) (by omega)
  ·omega
  ·rw [aj c1,ap c2];exact mw hR (by omega) (by omega)
  ·rw [aj c1,aj c2];exact mw hR (by omega) (by omega)
theorem Io {d:Nat} {A B:List Nat} (hR:L5 d A B) (n:Nd):(0 < gB n A->gB n B=gB n A)/\(gB n A=0->gB n B=0∨gB n B=d + 2):=by
 unfold gB;by_cases h7:n.ag=7
 ·rw [ap h7,ap h7];exact ⟨tK hR,fun h=>xQ hR (by omega) (.inr (nQ.1 h))⟩
 grind [mw]
theorem Fv (N:Nat) (e:Ed):pD (List.replicate N 0) e=0:=by grind [pD]
theorem tM (N:Nat):∀ es:List Ed,eZ (List.replicate N 0) es 0=0∨eZ (List.replicate N 0) es 0=1
 | []=>.inl rfl
 | e :: r=>by
  rw [eZ,Fv];by_cases hb:e.bare=true
  ·rw [ap hb];exact .inr rfl
  ·rw [aj hb,aj (by omega)];exact tM N r
theorem Fw (N:Nat) (n:Nd):gB n (List.replicate N 0)=0∨gB n (List.replicate N 0)=1:=by
 unfold gB;by_cases h7:n.ag=7
 ·rw [ap h7]
  cases h:n.aw with
  | nil=>right;rfl
  | cons e r=>left;rw [leastR,Fv,ap rfl]
 grind [tM]
theorem L6 (ND:List Nd) (j:Nat):(depN ND 0).getD j 0=0:=by grind [depN]
theorem Fx (ND:List Nd):∀ d,L5 d (depN ND d) (depN ND (d + 1))
 | 0=>fun j=>by
  refine ⟨fun h=>by rw [L6] at h;omega,fun _=>?_⟩;rw [depN_get]
  cases ND[j]? with
  | none=>exact .inl rfl
  | some n=>exact Fw _ n
 | d + 1=>fun j=>by
  have ih:=Fx ND d
  grind [depN_get,Io,Kr]
def gg (K:List Nat):List Bool:=K.map fun k=>decide (0 < k)
theorem xR (K:List Nat) (j:Nat):(gg K).getD j false=decide (0 < K.getD j 0):=by grind [gg]
theorem nR (K:List Nat):(gg K).length=K.length:=by simp [gg]
theorem P7 {A B:List Nat} (hl:A.length=B.length) (h:∀ j,A.getD j 0=B.getD j 0):A=B:=by
 refine List.ext_getElem hl fun j h1 h2=>?_;have:=h j
 grind
def uA (K:List Bool) (e:Ed):Bool:=e.bare || K.getD e.to.toNat false
def Ks (n:Nd) (K:List Bool):Bool:=if n.ag < 7 then true else if n.ag=7 then n.aw.all (uA K) else n.aw.any (uA K)
theorem pF {K:List Nat}:∀ {es:List Ed} {b:Nat},0 < eZ K es b↔(0 < b∨es.any (uA (gg K))=true)
 | [],b=>by grind [eZ]
 | e :: r,b=>by
  have hg:(gg K).getD e.to.toNat false=decide (0 < pD K e):=xR K _;rw [eZ,List.any_cons];by_cases hb:e.bare=true
  ·rw [ap hb];simp [uA,hb]
  ·rw [aj hb]
   have uL:uA (gg K) e=decide (0 < pD K e):=by
    unfold uA;rw [hg];simp [hb]
   rw [uL,Bool.or_eq_true,decide_eq_true_eq];split
   ·rename_i h1;rw [pF];omega
   ·rename_i h1;rw [pF]
    grind
theorem Ip {n:Nd} {K:List Nat} (h8:n.ag<=8) (hb:∀ e∈n.aw,e.bare=true->n.ag=8):(0 < gB n K)↔Ks n (gg K)=true:=by
 unfold gB Ks
 grind [leastR,nQ,pD,gg,xR,uA,pF]
theorem P8 {ND:List Nd} (hN:∀ n∈ND,n.ag<=8/\∀ e∈n.aw,e.bare=true->n.ag=8) (d:Nat) {i:Nat} {n:Nd} (h:ND[i]? = some n) :
  (depN ND (d + 1)).getD i 0=(if Ks n (gg (depN ND d))=true/\(depN ND d).getD i 0=0 then d + 1 else (depN ND d).getD i 0) /\
  (gg (depN ND (d + 1))).getD i false=Ks n (gg (depN ND d)):=by
 obtain ⟨h8,hb⟩:=hN n (mG h);have hp:=Ip (K:=depN ND d) h8 hb;have hg:(depN ND (d + 1)).getD i 0=gB n (depN ND d):=by rw [depN_get,h]
 obtain ⟨h1,h2⟩:=(Fx ND d) i;refine ⟨?_,?_⟩
 ·grind
 ·grind [xR]
def cN (l:List Nat):List DV:=l.map fun (z:Nat)=>DV.v (.int .i64 (z:Int))
theorem P9 (l:List Nat):(cN l).length=l.length:=by simp [cN]
theorem Xo {l:List Nat} {i z:Nat} (h:l[i]? = some z):(cN l)[i]? = some (DV.v (.int .i64 (z:Int))):=by simp [cN,h]
theorem Xp (l:List Nat) (i z:Nat):(cN l).set i (DV.v (.int .i64 (z:Int)))=cN (l.set i z):=by simp [cN,List.map_set]
theorem xS (l:List Nat):(dInts l).flatten=cN l:=by
 induction l with
 | nil=>rfl
 | cons b r ih=>simp only [dInts,cN,List.map_cons,List.flatten_cons] at ih ⊢;rw [ih];all_goals rfl
theorem repN (n:Nat):(List.replicate n (vL [Value.int .i64 0])).flatten=cN (List.replicate n 0):=by
 induction n with
 | zero=>rfl
 | succ n ih=>simp only [List.replicate_succ,List.flatten_cons,ih];rfl
theorem cS {n m:Nat} {tk:List TkE} {l:List DV} {r:List Nat} (h:l=cN r):WeL n m tk l (cN r):=by
 subst h;refine wh _ fun x hx=>?_;obtain ⟨z,_,rfl⟩:=List.mem_map.1 hx;exact ⟨_,rfl⟩
theorem ms_n {bx:List (List DV)} {N n0 m0 n i:Nat} {r:List Nat} (hr:r.length=n) (hN:N<=i) (hb:bx[i]? = some (cN r)):Cc bx N n0 m0 (.sl 1 (dInts r) none) (.ms i 1 0 n n):=by
 simp only [Cc];refine Or.inr (Or.inr (Or.inl ⟨i,0,n,_,by rw [bz,hr],hN,hb,?_,?_,?_⟩))
 ·grind [xS,P9,bz]
 ·grind [dInts]
 ·intro x hx;rw [xS] at hx;obtain ⟨_,_,rfl⟩:=List.mem_map.1 hx;exact .inl ⟨_,rfl⟩
abbrev wL (lv:List Wd) (f:Nat->Nat->Bool) (ND:List Nd) (z:Int):List DV:=[.sl 2 (bG lv) none,.sl 1 (dr (dW lv.length f)) none,.sl 7 (dq ND) none,.v (.int .i64 z)]
theorem Iq (d:Nd) (e:Ed) (s:Stp):EvP prog 232 [.agg (kO d),.agg (nF e),.agg (ju s)] (.v (.bool (Ij d s e))):=by
 obtain ⟨ag,at',lo,hi,most,af,es⟩:=d;obtain ⟨en,eb,ea,et,q4,ew,eU,ic,rD,iV⟩:=e;obtain ⟨k,n,t⟩:=s
 have hF:Ij ⟨ag,at',lo,hi,most,af,es⟩ ⟨k,n,t⟩ ⟨en,eb,ea,et,q4,ew,eU,ic,rD,iV⟩=if k=1 then decide (ag=7) && decide (en=t)
  else if k=5 then decide (ag=8) && decide (en=t) && !eb
  else if k=2 then decide (ag=5) && decide (n < most)
  else if k=3 then decide (ag=5) && decide (0 < most)
  else decide (ag=6):=rfl
 generalize Ij ⟨ag,at',lo,hi,most,af,es⟩ ⟨k,n,t⟩ ⟨en,eb,ea,et,q4,ew,eU,ic,rD,iV⟩=F at hF ⊢;refine eG 63 [.tmp 6] func232 rfl ntmps232 rfl fun _ _ _ _=>?_;refine br ?_ ?_<;>intro c
 ·have c:k=1:=sU c;rw [ap c] at hF;refine (bF ?_:);rw [hF];simp only [ai]
 have c1:¬ k=1:=sU c;rw [aj c1] at hF;refine br ?_ ?_<;>intro c
 ·have c:k=5:=sU c;rw [ap c] at hF;refine (bF ?_:);rw [hF];simp only [ai]
 have c5:¬ k=5:=sU c;rw [aj c5] at hF;refine br ?_ ?_<;>intro c
 ·have c:k=2:=sU c;rw [ap c] at hF;refine (bF ?_:);rw [hF];simp only [ai]
 have c2:¬ k=2:=sU c;rw [aj c2] at hF;refine br ?_ ?_<;>intro c
 ·have c:k=3:=sU c;rw [ap c] at hF;refine (bF ?_:);rw [hF];simp only [ai]
 have c3:¬ k=3:=sU c;rw [aj c3] at hF;refine (bF ?_:);rw [hF]
def estW (ND:List Nd) (f:Nat->Nat->Bool) (n:Nat) (s:Stp) (i a:Nat):Option (Nat × Nat):=match ND[i]? with
 | none=>none
 | some d=>match xK d s with
  | none=>none
  | some k=>match d.aw[k]? with
   | none=>none
   | some e=>some (e.to.toNat,yD f n a e.label.toNat)
theorem walkV_drop (ND:List Nd) (f:Nat->Nat->Bool) (n:Nat) (p:List Stp) (e i a:Nat):walkV ND f n (p.drop e) i a=match p[e]? with
  | none=>some (i,a)
  | some s=>match estW ND f n s i a with
   | none=>none
   | some (j,b)=>walkV ND f n (p.drop (e + 1)) j b:=by
 cases hs:p[e]? with
 | none=>rw [List.drop_eq_nil_of_le (List.getElem?_eq_none_iff.1 hs)];all_goals rfl
 | some s=>
  obtain ⟨h1,h2⟩:=List.getElem?_eq_some_iff.1 hs;rw [List.drop_eq_getElem_cons h1,h2,walkV]
  unfold estW;cases ND[i]? with
  | none=>rfl
  | some d=>
   simp only
   cases xK d s with
   | none=>rfl
   | some k=>
    simp only
    cases d.aw[k]? with
    | none=>rfl
    | some e=>rfl
theorem S6 {f:Nat->Nat->Bool} {L:Nat} (hL:fY f L) {ND:List Nd} (bI:∀ n∈ND,dt L ND.length n) {s:Stp} {i a j b:Nat} (hi:i < ND.length) (ha:a < L) (h:estW ND f L s i a=some (j,b)):j < ND.length/\b < L:=by
 have hw:=walkV_drop ND f L [s] 0 i a;simp only [List.getElem?_cons_zero,h] at hw;exact Fm hL bI [s] i a hi ha hw
def acm (o:Option (Nat × Nat)):DV:=match o with
 | some (j,b)=>.tup [.agg [.v (.int .i64 (j:Nat)),.v (.int .i64 (b:Nat))],.v (.bool true)]
 | none=>.tup [.agg [.v (.int .i64 0),.v (.int .i64 0)],.v (.bool false)]
abbrev acn (PC:List DV) (i a:Nat) (s:Stp) (d:Nd) (e:Nat):St:=
 ⟨[mQ 0 PC,aE 4 0,aE 5 1,aE 6 2,aE 8 3,bh 20 10 (fN d.aw),ay 21 ((fN d.aw).length),ay 22 e],
  [[.v (.int .i64 i),.v (.int .i64 a)],ju s,[.v (.int .i64 0),.v (.int .i64 0)],kO d],[]⟩
theorem Ir {S:Sch} {ND:List Nd} {PC:List DV} (hP:eT S ND PC) (s:Stp) (hr:eY s=true) (i a:Nat) (hi:i < ND.length) (ha:a < S.ae.length) :
  EvP prog 167 [.pt PC 0,.agg [.v (.int .i64 i),.v (.int .i64 a)],.agg (ju s)] (acm (estW ND (aK S) S.ae.length s i a)):=by
 obtain ⟨LC,ej,hLR⟩:=hP.S3;obtain ⟨d,hd⟩:∃ d,ND[i]? = some d:=⟨_,gE hi⟩;have hN:=hP.ok d (mG hd);have dE:=hP.ah i d hd
 have oJ:d.aw.length<=1099511627776:=by
  have:=lr (S:=S) (n:=d) (by rw [<- hP.BS];exact mG hd) hP.wt;exact this.2
 have hjn:=fun b hb=>hLR.join a b ha hb
 have hW:estW ND (aK S) S.ae.length s i a=match bB (edgeP d s) d.aw.length with
  | none=>none
  | some k=>match d.aw[k]? with
   | none=>none
   | some e=>some (e.to.toNat,yD (aK S) S.ae.length a e.label.toNat):=by
  unfold estW;simp only [hd,xK,ap hr]
 have hPe:∀ (e:Nat) x,d.aw[e]? = some x->edgeP d s e=Ij d s x:=fun e x h=>by
  rw [Kp hN hr (mG h)];unfold edgeP;rw [h]
 have RC:=fun x=>Iq d x s;have yP:=fun (e:Ed) (he:e∈d.aw) (h:xJ d s e=true)=>And.intro ((gJ hN he).1 (xL hN he h)) (gJ hN he).2.1;have mP:=fun x hx=>Kp hN hr (e:=x) hx;generalize estW ND (aK S) S.ae.length s i a=R at hW ⊢;generalize edgeP d s=pE at hW hPe;generalize yD (aK S) S.ae.length a=jn at hW hjn;obtain ⟨ag,at',lo,gK,most,af,es⟩:=d;obtain ⟨k,n,t⟩:=s;have de:=cF es;simp only at hW hPe oJ;refine eG 42 [.cell 6 272,.tmp 7] func167 rfl ntmps167 rfl fun _ _ _ _=>?_;refine cP mR dE ?_;refine lI (fun j st=>∃ e:Nat,st=acn PC i a ⟨k,n,t⟩ ⟨ag,at',lo,gK,most,af,es⟩ e/\e<=es.length/\(∀ c,c < e->pE c=false)/\j=es.length - e) ⟨0,rfl,by omega,fun _ h=>by omega,rfl⟩ (bp wB) ?_;rintro j st ⟨e,rfl,he,gO,rfl⟩;refine br ?_ ?_<;>intro hL
 ·have au:e < es.length:=sV de hL;obtain ⟨x,hx⟩:=gX au;have hPx:=hPe e x hx;have Xq:=RC x;have Rp:=mG hx;have Hy:=yP x Rp;have Xr:=mP x Rp
  cases hv:Ij ⟨ag,at',lo,gK,most,af,es⟩ ⟨k,n,t⟩ x with
  | true=>
   rw [hv] at hPx Xq Xr;obtain ⟨⟨h1,_⟩,h2,h3⟩:=Hy Xr.symm;rw [cI au hPx gO] at hW;simp only [hx] at hW;clear yP mP Hy Xr RC;obtain ⟨en,eb,ea,et,q4,ew,eU,ic,rD,iV⟩:=x;simp only at h1 h2 h3;obtain ⟨lb,rfl⟩:∃ n:Nat,q4=n:=⟨_,h2⟩;obtain ⟨tn,rfl⟩:∃ n:Nat,et=n:=⟨_,h1⟩;simp only [kS] at h3 hW;have hj:=hjn lb h3;subst hW;refine iX (bm hx) ?_;refine cP Uj Xq ?_;refine dS ?_;refine cD Bi ej ?_;refine cD tg hj ?_;exact ⟨_,ax,rfl⟩
  | false=>
   rw [hv] at hPx Xq;obtain ⟨en,eb,ea,et,q4,ew,eU,ic,rD,iV⟩:=x;refine iX (bm hx) ?_;refine cP Uj Xq ?_
   exact rE ⟨_,by omega,e + 1,rfl,by omega,fun c hc=>by
    rcases kE hc with h | h
    ·exact gO c h
    ·rw [h];exact hPx,rfl⟩ (dj 4 (kH (aN au (by omega))) (cY (aN au (by omega))))
 ·have hge:e=es.length:=sW de hL;subst hge;rw [cT gO] at hW;simp only at hW;subst hW;exact ⟨_,ax,rfl⟩
def acp (o:Option (Nat × Nat)):DV:=match o with
 | some (j,b)=>.tup [.v (.int .i64 (j:Nat)),.v (.int .i64 (b:Nat)),.v (.bool true)]
 | none=>.tup [.v (.int .i64 (-1)),.v (.int .i64 (-1)),.v (.bool false)]
abbrev acq (PC:List DV) (p:List Stp) (i a e:Nat):St:=
 ⟨[mQ 0 PC,aE 7 0,bh 18 3 (cz p),ay 19 ((cz p).length),ay 20 e],[[.v (.int .i64 i),.v (.int .i64 a)]],[]⟩
theorem Is {S:Sch} {ND:List Nd} {PC:List DV} (hP:eT S ND PC) (p:List Stp) (hp:p.length<=1099511627776) (hs:∀ s∈p,s.s.size<=4611686018427387904) (rt:Nat) (oS:cr S=rt) (eM:rt < ND.length) :
  EvP prog 87 [.pt PC 0,.sl 3 (cz p) none] (acp (walkV ND (aK S) S.ae.length p rt (ib (aK S) S.ae.length))):=by
 obtain ⟨LC,ej,hLR⟩:=hP.S3;have cW:=hP.root;rw [oS] at cW;have qJ:=hLR.bot;have hbl:=u1 hLR.ok;have aW:=fun s hr i a hi ha=>Ir hP s hr i a hi ha;have Yj:=walkV_drop ND (aK S) S.ae.length p;have bI:=fun {s i a j b}=>@S6 _ _ hLR.ok _ hP.ok s i a j b;have de:=oA p;have Rb:∀ s i a,eY s=false->estW ND (aK S) S.ae.length s i a=none:=fun s i a h=>by grind [estW,xK]
 generalize hR:walkV ND (aK S) S.ae.length p rt (ib (aK S) S.ae.length)=R;have hR0:walkV ND (aK S) S.ae.length (p.drop 0) rt (ib (aK S) S.ae.length)=R:=by rw [List.drop_zero];exact hR
 clear hR;generalize ib (aK S) S.ae.length=bt at qJ hbl hR0;refine eG 42 [.tmp 4,.tmp 5,.tmp 6] func87 rfl ntmps87 rfl fun _ _ _ _=>?_;refine cP uu cW ?_;refine cP Bi ej ?_;refine cP NG qJ ?_;refine lI (fun j st=>∃ e i a:Nat,st=acq PC p i a e/\e<=p.length/\i < ND.length/\a < S.ae.length/\walkV ND (aK S) S.ae.length (p.drop e) i a=R/\j=p.length - e) ⟨0,rt,bt,rfl,by omega,eM,hbl,hR0,rfl⟩ (bp wB) ?_;rintro j st ⟨e,i,a,rfl,he,hi,ha,hw,rfl⟩;rw [Yj] at hw;refine br ?_ ?_<;>intro hL
 ·have au:e < p.length:=sV de hL;obtain ⟨x,hx⟩:=gX au;have CW:=hs x (mG hx);have hr:=tJ [x] (sU CW);rw [Ii] at hr;rw [hx] at hw;simp only at hw
  cases mU:eY x with
  | false=>
   rw [Rb x i a mU] at hw;simp only at hw;subst hw;rw [mU] at hr;obtain ⟨xk,xn,xt⟩:=x;refine iX (oB hx) ?_;refine cP JC hr ?_;exact ⟨_,ax,rfl⟩
  | true=>
   have hsx:=aW x mU i a hi ha;have hkx:=@bI x i a;rw [mU] at hr;generalize estW ND (aK S) S.ae.length x i a=o at hw hsx hkx;obtain ⟨xk,xn,xt⟩:=x;refine iX (oB hx) ?_;refine cP JC hr ?_;refine cP ZD hsx ?_
   cases o with
   | none=>
    simp only at hw;subst hw;exact ⟨_,ax,rfl⟩
   | some r=>
    obtain ⟨j,b⟩:=r;simp only at hw;obtain ⟨h1,h2⟩:=hkx hi ha rfl;exact rE ⟨_,by omega,e + 1,j,b,rfl,by omega,h1,h2,hw,rfl⟩ (dj 1 (kH (aN au (by omega))) (cY (aN au (by omega))))
 ·have hge:p.length<=e:=sV de hL;rw [kT hge] at hw;simp only at hw;subst hw;refine dI ?_;exact ⟨_,ax,rfl⟩
theorem S7 (s:ByteArray) (n:Nat):tx (s.extract 0 n)=(tx s).take n:=by simp [tx]
def spB:List DV->Bool
 | [.v (.int .i32 _),.v (.int .i32 _)]=>true
 | _=>false
theorem Qa {cs:List DV} (h:spB cs=true):∃ a b:Int,cs=[.v (.int .i32 a),.v (.int .i32 b)]:=by
 unfold spB at h;split at h
 ·exact ⟨_,_,rfl⟩
 ·cases h
theorem acr {es:List (List DV)} (h:es.all spB=true) {i:Nat} (hi:i < es.length):∃ a b:Int,es[i]? = some [.v (.int .i32 a),.v (.int .i32 b)]:=by
 rw [List.all_eq_true] at h;obtain ⟨a,b,MO⟩:=Qa (h es[i] (List.getElem_mem hi))
 grind
def uB (z:Int):List DV->Bool
 | [.v (.int .i32 a),.v (.int .i32 b)]=>decide (a<=z) && decide (z<=b)
 | _=>false
def srtB:Int->List (List DV)->Bool
 | _,[]=>true
 | m,[.v (.int .i32 a),.v (.int .i32 b)] :: r=>decide (m < a) && decide (a<=b) && srtB b r
 | _,_=>false
theorem xT {m:Int} {x:List DV} {r:List (List DV)} (h:srtB m (x :: r)=true):∃ a b:Int,x=[.v (.int .i32 a),.v (.int .i32 b)]/\m < a/\a<=b/\srtB b r=true:=by
 unfold srtB at h
 grind
theorem u2:∀ {es:List (List DV)} {m:Int} (_:srtB m es=true) {i:Nat} {a b:Int} (_:es[i]? = some [.v (.int .i32 a),.v (.int .i32 b)]),m < a/\a<=b/\srtB b (es.drop (i + 1))=true
 | [],_,_,i,_,_,hi=>by simp at hi
 | x :: r,m,h,i,a,b,hi=>by
  obtain ⟨a0,b0,rfl,h1,h2,h3⟩:=xT h
  cases i with
  | zero=>grind
  | succ i=>
   obtain ⟨g1,g2,g3⟩:=u2 h3 (i:=i) (sU hi);exact ⟨by omega,g2,g3⟩
theorem Qb {z:Int}:∀ {es:List (List DV)} {m:Int} (_:srtB m es=true) (_:z<=m),es.any (uB z)=false
 | [],_,_,_=>rfl
 | x :: r,m,h,hz=>by
  obtain ⟨a0,b0,rfl,h1,h2,h3⟩:=xT h;rw [List.any_cons,Qb h3 (by omega),Bool.or_false]
  grind [uB]
theorem Xs {z m:Int} {es:List (List DV)} (h:srtB m es=true) {i:Nat} {a b:Int} (hi:es[i]? = some [.v (.int .i32 a),.v (.int .i32 b)]) (hz:z < a):(es.drop i).any (uB z)=false:=by
 obtain ⟨g1,g2,g3⟩:=u2 h hi;rw [drop_cons hi,List.any_cons,Qb g3 (by omega),Bool.or_false]
 grind [uB]
theorem Qc {z:Int}:∀ {es:List (List DV)} {m:Int} (_:srtB m es=true) {i:Nat} {a b:Int} (_:es[i]? = some [.v (.int .i32 a),.v (.int .i32 b)]) (_:b < z),(es.take (i + 1)).any (uB z)=false
 | [],_,_,i,_,_,hi,_=>by simp at hi
 | x :: r,m,h,i,a,b,hi,hz=>by
  obtain ⟨a0,b0,rfl,h1,h2,h3⟩:=xT h
  cases i with
  | zero=>grind [uB]
  | succ i=>
   have hi:r[i]? = some [.v (.int .i32 a),.v (.int .i32 b)]:=sU hi;have g1:=(u2 h3 hi).1;have g2:=(u2 h3 hi).2.1;rw [List.take_succ_cons,List.any_cons,Qc h3 hi hz,Bool.or_false]
   grind [uB]
theorem S8 {es:List (List DV)} {z a b:Int} {i:Nat} (hi:es[i]? = some [.v (.int .i32 a),.v (.int .i32 b)]) (h1:a<=z) (h2:z<=b):es.any (uB z)=true:=
 List.any_eq_true.2 ⟨_,mG hi,by simp only [uB,aP,decide_eq_true_iff];omega⟩
def acs (d:DV) (_:List (List DV)) (_:List TkE):Prop:=∃ es:List (List DV),d = .sl 2 es none/\(Nat.ble es.length 1000 && es.all spB)=true
set_option maxHeartbeats 4000000 in
theorem Qd:Ev prog 357 [] [] [] acs:=by
 refine eG 118 [.tmp 0] func357 rfl ntmps357 rfl fun _ _ _ _=>?_;exact ⟨_,ax,_,rfl,rfl⟩
set_option maxHeartbeats 4000000 in
theorem Qe:Ev prog 358 [] [] [] acs:=by
 refine eG 84 [.tmp 0] func358 rfl ntmps358 rfl fun _ _ _ _=>?_;exact ⟨_,ax,_,rfl,rfl⟩
abbrev Xt (es:List (List DV)) (z:Int) (lo hi:Nat):St:=⟨[bh 0 2 es,(1,⟨[],.v (.int .i32 z)⟩),ay 5 lo,ay 6 hi],[],[]⟩
theorem Cg (es:List (List DV)) (z:Int) (hl:es.length<=1000) (hs:es.all spB=true):Ev prog 356 [.sl 2 es none,.v (.int .i32 z)] [] [] (fun d _ _=>∃ b:Bool,d = .v (.bool b)/\∀ m,srtB m es=true->b=es.any (uB z)):=by
 refine eG 38 [.tmp 4] func356 rfl ntmps356 rfl fun _ _ _ _=>?_;refine lI (fun j st=>∃ lo hi:Nat,st=Xt es z lo hi/\lo<=hi/\hi<=es.length/\(∀ m,srtB m es=true->(es.take lo).any (uB z)=false/\(es.drop hi).any (uB z)=false)/\j=hi - lo) ⟨0,es.length,rfl,by omega,by omega,fun _ _=>⟨rfl,by rw [List.drop_length];rfl⟩,rfl⟩ (bp kj) ?_;rintro j st ⟨lo,hi,rfl,h1,h2,hiv,rfl⟩;refine br ?_ ?_<;>intro hL
 rotate_left
 ·have hge:lo=hi:=by have:=of_decide_eq_false hL;omega
  refine ⟨_,rfl,fun m hm=>?_⟩;obtain ⟨g1,g2⟩:=hiv m hm;rw [<- hge] at g2;rw [<- List.take_append_drop lo es,List.any_append,g1,g2];all_goals rfl
 have au:lo < hi:=by have:=of_decide_eq_true hL;omega
 have hm:IntKind.i64.wrap ((lo:Int) + IntKind.i64.wrap ((IntKind.i64.wrap ((hi:Int) - lo)).tdiv 2))=((lo + (hi - lo) / 2:Nat):Int):=by grind [wrap64]
 obtain ⟨a,b,MO⟩:=acr hs (i:=lo + (hi - lo) / 2) (by omega);refine ⟨⟨rfl,by decide⟩,?_⟩;refine ⟨_,⟨by rw [hm];omega,by rw [hm,kS];exact MO⟩,?_⟩;refine br ?_ ?_<;>intro c
 ·exact ⟨Xt es z lo (lo + (hi - lo) / 2),(bp (cY hm)),lo + (hi - lo) / 2 - lo,by omega,_,_,rfl,by omega,by omega,fun m hm=>⟨(hiv m hm).1,Xs hm MO (sU c)⟩,rfl⟩
 ·refine ⟨_,⟨by rw [hm];omega,by rw [hm,kS];exact MO⟩,?_⟩;have c0:=c;refine br ?_ ?_<;>intro c
  ·have A5:IntKind.i64.wrap (IntKind.i64.wrap ((lo:Int) + IntKind.i64.wrap ((IntKind.i64.wrap ((hi:Int) - lo)).tdiv 2)) + 1)=((lo + (hi - lo) / 2 + 1:Nat):Int):=by
    rw [hm,wrap64 (by omega) (by omega)];omega
   exact ⟨Xt es z (lo + (hi - lo) / 2 + 1) hi,(bp (cY A5)),hi - (lo + (hi - lo) / 2 + 1),by omega,_,_,rfl,by omega,by omega,fun m hm=>⟨Qc hm MO (sU c),(hiv m hm).2⟩,rfl⟩
  ·exact ⟨_,rfl,fun _ _=>(S8 MO (sU c0) (sU c)).symm⟩
theorem Fy (z:Int):Ev prog 339 [.v (.int .i32 z)] [] [] (fun d _ _=>∃ b:Bool,d = .v (.bool b)):=by
 refine eG 6 [.tmp 2] func339 rfl ntmps339 rfl fun _ _ _ _=>?_;refine bS aas rfl Qd ax (fun q hq=>?_);obtain ⟨es,rfl,he⟩:=hq;rw [aP,Nat.ble_eq] at he;refine bS zs rfl (Cg es z he.1 he.2) ax (fun q hq=>?_);obtain ⟨b,rfl,_⟩:=hq;exact ⟨_,rfl⟩
theorem Fz (z:Int):Ev prog 340 [.v (.int .i32 z)] [] [] (fun d _ _=>∃ b:Bool,d = .v (.bool b)):=by
 refine eG 6 [.tmp 2] func340 rfl ntmps340 rfl fun _ _ _ _=>?_;refine bS aat rfl Qe ax (fun q hq=>?_);obtain ⟨es,rfl,he⟩:=hq;rw [aP,Nat.ble_eq] at he;refine bS zs rfl (Cg es z he.1 he.2) ax (fun q hq=>?_);obtain ⟨b,rfl,_⟩:=hq;exact ⟨_,rfl⟩
theorem L7 (z:Int):Ev prog 309 [.v (.int .i32 z)] [] [] (fun d _ _=>∃ n:Int,d = .v (.int .i64 n)):=by
 refine eG 9 [.tmp 2] func309 rfl ntmps309 rfl fun _ _ _ _=>?_;refine bS aal rfl (Fy z) ax (fun q hq=>?_);obtain ⟨b,rfl⟩:=hq
 cases b with
 | true=>exact ⟨_,rfl⟩
 | false=>
  refine bS aam rfl (Fz z) ax (fun q hq=>?_);obtain ⟨b,rfl⟩:=hq
  cases b with
  | true=>exact ⟨_,rfl⟩
  | false=>exact ⟨_,rfl⟩
theorem Qf (s:ByteArray) (hs:s.size<=1099511627776):EvP prog 308 [.v (.string s),.v (.int .i64 (s.size:Nat))] (.tup [.v (.int .i32 0),.v (.int .i64 0),.v (.bool false)]):=by
 refine eG 60 [.tmp 4,.tmp 5,.tmp 6] func308 rfl ntmps308 rfl fun _ _ _ _=>?_;refine br (fun _=>?_) (fun c=>absurd c (by simp [aq]));exact ⟨_,ax,rfl⟩
theorem oC (s:ByteArray) (at':Nat) (hs:s.size<=1099511627776) (h:at' <= s.size):Ev prog 260 [.v (.string s),.v (.int .i64 at')] [] [] (fun d _ _=>∃ c:Int,d = .tup [.v (.int .i64 c),.v (.int .i64 (dV ((tx s).drop at'):Nat))]):=by
 cases hd:(tx s).drop at' with
 | nil=>
  have he:at'=s.size:=by
   have:=congrArg List.length hd;rw [List.length_drop,cE,List.length_nil] at this;omega
  subst he;refine eG 24 [.tmp 4,.tmp 5] func260 rfl ntmps260 rfl fun _ _ _ _=>?_;refine cP NY (Qf s hs) ?_;exact ⟨.tup [.v (.int .i64 0),.v (.int .i64 ((0:Nat):Int))],ax,_,rfl⟩
 | cons c r=>
  have hu:=Am s at' hs c r hd;have Rg:dV (c :: r)=if okU (c :: r)=true then bc c.toNat else 1:=rfl
  rw [Rg];generalize okU (c :: r)=ok at hu ⊢;refine eG 24 [.tmp 4,.tmp 5] func260 rfl ntmps260 rfl fun _ _ _ _=>?_;refine bS NY rfl hu ax (fun q hq=>?_);obtain ⟨z,n,rfl,hn,hp⟩:=hq
  cases ok with
  | true=>
   have:=(hn rfl).1;subst this;refine bS aab rfl (L7 z) ax (fun q hq=>?_);obtain ⟨m,rfl⟩:=hq;exact ⟨.tup [.v (.int .i64 m),.v (.int .i64 (bc c.toNat:Nat))],ax,_,rfl⟩
  | false=>
   refine br (fun _=>?_) (fun g=>absurd g (by simp;omega));exact ⟨.tup [.v (.int .i64 1),.v (.int .i64 ((1:Nat):Int))],ax,_,rfl⟩
abbrev acu (a b:ByteArray) (at':Nat) (m:Int) (e:Nat):St:=⟨[(0,⟨[],.v (.string a)⟩),(1,⟨[],.v (.string b)⟩),ay 7 at',ay 12 m,ay 13 e],[],[]⟩
theorem Iu (a b:ByteArray) (ha:a.size<=1099511627776) (hb:b.size<=1099511627776) (m:Int) (hm:m<=9223372036854775807):EvP prog 266 [.v (.string a),.v (.string b),.v (.int .i64 m)] (.v (.bool (headsL m.toNat (tx a) (tx b)))):=by
 refine eG 49 [.tmp 6] func266 rfl ntmps266 rfl fun _ _ _ _=>?_;refine lI (fun j st=>∃ e at':Nat,st=acu a b at' m e/\(e:Int)<=max m 0/\at' <= a.size/\at' <= b.size/\headsL (m.toNat - e) ((tx a).drop at') ((tx b).drop at')=headsL m.toNat (tx a) (tx b)/\j=m.toNat - e) ⟨0,0,rfl,by omega,by omega,by omega,rfl,rfl⟩ (bp kj) ?_;rintro j st ⟨e,at',rfl,he,h1,h2,hE,rfl⟩;refine br ?_ ?_<;>intro hL
 rotate_left
 ·have hge:m.toNat - e=0:=by have:=of_decide_eq_false hL;omega
  rw [hge] at hE;rw [<- hE];exact (rfl:_=_)
 have au:(e:Int) < m:=of_decide_eq_true hL;obtain ⟨k,hk⟩:∃ k,m.toNat - e=k + 1:=⟨m.toNat - e - 1,by omega⟩;have mF:headsL (k + 1) ((tx a).drop at') ((tx b).drop at')=(decide (dV ((tx a).drop at')=dV ((tx b).drop at')) && decide (((tx a).drop at').take (dV ((tx a).drop at'))=((tx b).drop at').take (dV ((tx b).drop at'))) && headsL k (((tx a).drop at').drop (dV ((tx a).drop at'))) (((tx b).drop at').drop (dV ((tx b).drop at')))):=rfl;rw [hk,mF] at hE;have hua:=oC a at' ha h1;have hub:=oC b at' hb h2
 have XW:dV ((tx a).drop at') + at' <= a.size:=by
  have:=cE a;by_cases c:(tx a).drop at'=[]
  ·rw [c];show 0 + at' <= _;omega
  ·grind [dZ]
 have N9:dV ((tx b).drop at') + at' <= b.size:=by
  have:=cE b;by_cases c:(tx b).drop at'=[]
  ·rw [c];show 0 + at' <= _;omega
  ·grind [dZ]
 refine bS DO rfl hua ax (fun q hq=>?_);obtain ⟨z1,rfl⟩:=hq;refine bS DO rfl hub ax (fun q hq=>?_);obtain ⟨z2,rfl⟩:=hq;generalize dV ((tx a).drop at')=n at hE XW ⊢;generalize dV ((tx b).drop at')=m' at hE N9 ⊢;refine dI ?_;refine br ?_ ?_<;>intro c
 ·have c:n=m':=by grind
  subst c;rw [decide_eq_true rfl,Bool.true_and] at hE
  have hw:IntKind.i64.wrap ((at':Int) + n)=((at' + n:Nat):Int):=by
   rw [wrap64 (by omega) (by omega)];omega
  have Xf:IntKind.i64.wrap ((e:Int) + 1)=((e + 1:Nat):Int):=by
   rw [wrap64 (by omega) (by omega)];omega
  have hx:∀ s:ByteArray,s.extract at' (IntKind.i64.wrap ((at':Int) + n)).toNat=ba (((tx s).drop at').take n):=fun s=>pf (by
   rw [hw,kS]
   simp [tx])
  refine ⟨⟨by omega,by rw [hw];omega,by rw [hw];omega⟩,?_⟩;refine ⟨⟨by omega,by rw [hw];omega,by rw [hw];omega⟩,?_⟩;refine br ?_ ?_<;>intro c
  ·have c:¬ ((tx a).drop at').take n=((tx b).drop at').take n:=by grind [pickB]
   rw [decide_eq_false c] at hE;rw [<- hE];exact (rfl:_=_)
  ·have c:((tx a).drop at').take n=((tx b).drop at').take n:=by grind [pickB]
   rw [decide_eq_true c,Bool.true_and,List.drop_drop,List.drop_drop] at hE;exact rE ⟨_,by omega,e + 1,at' + n,rfl,by omega,by omega,by omega,by rw [show m.toNat - (e + 1)=k by omega];exact hE,rfl⟩ (bp (iT hw Xf))
 ·have c:¬ n=m':=by grind
  rw [decide_eq_false c] at hE;rw [<- hE];exact (rfl:_=_)
theorem FA (a b u:Int) (ha : -9223372036854775808<=a/\a<=9223372036854775807) (hb : -9223372036854775808<=b/\b<=9223372036854775807) (hu : -9223372036854775808<=u/\u<=9223372036854775807) :
  EvP prog 265 [.v (.int .i64 a),.v (.int .i64 b),.v (.int .i64 u)] (.v (.bool (decide (aJ a u=aJ b u)))):=by
 have h1:=iN a u ha hu;have h2:=iN b u hb hu;unfold B9 at h1 h2;generalize aJ a u=x at h1 ⊢;generalize aJ b u=y at h2 ⊢;obtain ⟨x1,x2⟩:=x;obtain ⟨y1,y2⟩:=y;refine eG 31 [.tmp 6] func265 rfl ntmps265 rfl fun _ _ _ _=>?_;refine cP zq h1 ?_;refine cP zq h2 ?_;refine (congrArg (fun z=>DV.v (.bool z)) ?_:_=_);simp only [ai,Prod.mk.injEq,Bool.decide_and];cases x2<;>cases y2<;>rfl
mutual
def rngW:Val->Prop
 | .mk k n _ ks=>mH k/\mH n/\rngWs ks
def rngWs:List Val->Prop
 | []=>True
 | v :: r=>rngW v/\rngWs r
end
theorem di:∀ {l:List Val} {x:Val},rngWs l->x∈l->rngW x
 | v :: r,x,h,hm=>by
  rw [rngWs] at h;rcases cO hm with rfl | hm
  ·exact h.1
  ·exact di h.2 hm
theorem sJ {v:Val} (h:rngW v) : -9223372036854775808<=v.n/\v.n<=9223372036854775807:=by
 obtain ⟨k,n,s,ks⟩:=v;rw [rngW] at h;exact h.2.1
theorem my {v:Val} (h:rngW v):rngWs v.ks:=by
 obtain ⟨k,n,s,ks⟩:=v;rw [rngW] at h;exact h.2.2
theorem Ch {m:Nat} (ih:∀ k,k<=m->∀ ds,Typ prog k 34 ds->∃ v:Val,ds=aZ v/\rngW v/\v.wt<=wgL ds) :
  ∀ {es:List (List DV)},(∀ cs∈es,Typ prog m 34 cs)->∃ l:List Val,es=dVals l/\rngWs l/\ch l<=wgEs es
 | [],h=>⟨[],rfl,by simp [rngWs],by simp [ch]⟩
 | cs :: r,h=>by
  obtain ⟨l,rfl,hr,hl⟩:=Ch ih (es:=r) (fun c hc=>h c (gC _ hc));obtain ⟨v,rfl,hr2,hv⟩:=ih m (aQ _) cs (h cs (by simp));exact ⟨v :: l,rfl,by rw [rngWs];exact ⟨hr2,hr⟩,by simp only [ch,wgEs];omega⟩
theorem Qg:∀ (n:Nat) (ds:List DV),Typ prog n 34 ds->∃ v:Val,ds=aZ v/\rngW v/\v.wt<=wgL ds:=by
 intro n
 induction n using Nat.strongRecOn with
 | _ n ih=>
  intro ds h;obtain ⟨m,rfl,hf⟩:=jr Tryz.underlying34 h;obtain ⟨a1,b1,rfl,h1,a2,b2,rfl,h2,a3,b3,rfl,h3,a4,b4,rfl,h4,rfl⟩:=hf;obtain ⟨k,rfl,r1⟩:=il h1;obtain ⟨z,rfl,r2⟩:=il h2;obtain ⟨s,rfl⟩:=uP Tryz.underlying9 h3;obtain ⟨j,es,rfl,rfl,gL⟩:=ma Tryz.underlying32 h4;obtain ⟨l,rfl,r3,wl⟩:=Ch (fun i hi=>ih i (by omega)) gL;rw [tH];refine ⟨.mk k z s l,rfl,by rw [rngW];exact ⟨r1,r2,r3⟩,?_⟩;simp only [Val.wt,cM,wgL,wgD] at *;omega
namespace Dv
end Dv
mutual
theorem Av:∀ (t:Ty),rngT t->∀ u∈flatT t,rngT u
 | .mk h ps,hr,u,hu=>by
  rw [flatT] at hu;split at hu
  ·cases hu
  ·rcases cO hu with rfl | hu
   ·exact hr
   ·rw [rngT] at hr;exact Aw ps hr.2.2.2 u hu
theorem Aw:∀ (ps:Pts),rngP ps->∀ u∈flatP ps,rngT u
 | .nil,_,u,hu=>by cases hu
 | .cons p v r,hr,u,hu=>by
  rw [flatP] at hu;rw [rngP] at hr;rcases List.mem_append.1 hu with hu | hu
  ·split at hu
   ·cases hu
   ·exact Av v hr.2.2.1 u hu
  ·exact Aw r hr.2.2.2 u hu
end
theorem FB {lev:List Wd->Int} {s:Sch}:∀ (ps:Pts) (k:Nat),rngP ps->∀ e∈edsP lev s ps k,mH e.cn
 | .nil,_,_,e,he=>by cases he
 | .cons p v r,k,hr,e,he=>by
  rw [edsP] at he;rw [rngP] at hr;rcases cO he with rfl | he
  ·exact hr.2.1
  ·exact FB r _ hr.2.2.2 e he
def xU (n:Nd):Prop:=mH n.lo/\mH n.hi/\∀ e∈n.aw,mH e.cn
theorem xV {S:Sch} (hr:Lh S) {n:Nd} (h:n∈aS S):xU n:=by
 rw [jO] at h;obtain ⟨t,ht,u,hu,k,rfl⟩:=xB h
 have h1:rngT t:=by
  rcases List.mem_append.1 ht with h | h
  ·obtain ⟨x,hx,rfl⟩:=List.mem_map.1 h;exact hr.1 x hx
  ·simp only [List.mem_singleton] at h;subst h;exact hr.2
 have h2:=Av t h1 u hu;obtain ⟨uh,us⟩:=u;rw [rngT] at h2;exact ⟨h2.1,h2.2.1,FB us _ h2.2.2.2⟩
abbrev Vl (n:Nd) (K:List Bool) (s v:Bool) (e:Nat):St:=
 ⟨[bh 1 1 (wW K),aE 2 0,DB 5 s,DB 6 v,ay 7 e],[kO n],[]⟩
theorem Iv {L:Nat} {n:Nd} (K:List Bool) (hK:K.length<=1099511627776) (hn:dt L K.length n) (oJ:n.aw.length<=1099511627776) :
  EvP prog 244 [.agg (kO n),.sl 1 (wW K) none] (.v (.bool (Ks n K))):=by
 have kz:=hn.fD;have acv:=hn.bare;have Ko:=hn.k8;obtain ⟨ag,at',lo,hi,most,af,es⟩:=n;simp only at kz acv oJ Ko;refine eG 50 [.tmp 4] func244 rfl ntmps244 rfl fun _ _ _ _=>?_;refine br ?_ ?_<;>intro h7
 ·have h7:ag < 7:=sU h7;refine (bF ?_:);simp [Ks,h7]
 have h7:¬ ag < 7:=sU h7;refine aV (fun j st=>∃ e:Nat,st=Vl ⟨ag,at',lo,hi,most,af,es⟩ K ((es.take e).any (uA K)) ((es.take e).all (uA K)) e/\e<=es.length/\j=es.length - e) es.length (Vl ⟨ag,at',lo,hi,most,af,es⟩ K false true 0) (bp wB) ⟨0,by simp,by omega,by omega⟩ ?_;rintro j st ⟨e,rfl,he,rfl⟩;refine br ?_ ?_<;>intro hL
 ·have au:e < es.length:=by have:=hL;simp [cF] at this;exact this
  obtain ⟨x,hx⟩:=gX au;refine iX (bm hx) ?_;have hs:(es.take (e + 1)).any (uA K)=((es.take e).any (uA K) || uA K x):=by rw [List.take_add_one,hx];simp
  have hv:(es.take (e + 1)).all (uA K)=((es.take e).all (uA K) && uA K x):=by rw [List.take_add_one,hx];simp
  generalize (es.take e).any (uA K)=s at hs ⊢;generalize (es.take e).all (uA K)=v at hv ⊢;refine br ?_ ?_<;>intro hb
  ·have hb:x.bare=false:=sU hb;obtain ⟨k,hk,lG⟩:=(kz x (mG hx)).to1 hb;obtain ⟨b,iD⟩:∃ b,K[k]? = some b:=⟨_,gE lG⟩;have hg:(wW K)[(max x.to 0).toNat]? = some [DV.v (.bool b)]:=by rw [show (max x.to 0).toNat=k by omega];exact Kc iD
   have hik:uA K x=b:=by unfold uA;rw [hb,hk];simp [eN,iD]
   rw [hik] at hs hv;refine iX (bm hx) ?_;refine ⟨_,⟨by omega,hg⟩,?_⟩;have e5:pickB s true b=(es.take (e + 1)).any (uA K):=by rw [hs,aq]
   have e6:pickB v b false=(es.take (e + 1)).all (uA K):=by rw [hv,ai]
   exact rE ⟨_,by omega,e + 1,rfl,by omega,rfl⟩ (bp (Rc e5 e6 (aN au (by omega))))
  ·have hb:x.bare=true:=sU hb;have hik:uA K x=true:=by unfold uA;rw [hb];all_goals rfl
   rw [hik] at hs hv;have e5:pickB s true true=(es.take (e + 1)).any (uA K):=by rw [hs,aq]
   have e6:pickB v true false=(es.take (e + 1)).all (uA K):=by rw [hv,ai]
   exact rE ⟨_,by omega,e + 1,rfl,by omega,rfl⟩ (bp (Rc e5 e6 (aN au (by omega))))
 ·have hge:e=es.length:=by have:=hL;simp [cF] at this;omega
  subst hge;rw [List.take_length];refine br ?_ ?_<;>intro g
  ·have g:ag=7:=sU g;refine (bF ?_:);simp [Ks,g]
  ·have g:¬ ag=7:=sU g;refine (bF ?_:);simp [Ks,g,h7]
theorem acw {bx:List (List DV)} {N n0 m0 n i:Nat} {r:List Bool} (hr:r.length=n) (hN:N<=i) (hb:bx[i]? = some (cB r)):Cc bx N n0 m0 (.sl 1 (wW r) none) (.ms i 1 0 n n):=by
 simp only [Cc];refine Or.inr (Or.inr (Or.inl ⟨i,0,n,_,by rw [uV,hr],hN,hb,?_,?_,?_⟩))
 ·grind [qQ,sw,uV]
 ·grind [wW]
 ·intro x hx;rw [qQ] at hx;obtain ⟨_,_,rfl⟩:=List.mem_map.1 hx;exact .inl ⟨_,rfl⟩
theorem Qh (l:List Nat) (bx:List (List DV)) (N n m:Nat):CcL bx N n m (cN l) (cN l):=by
 induction l with
 | nil=>rfl
 | cons a r ih=>exact ⟨_,_,rfl,rfl,ih⟩
abbrev wG (a b:Nat) (A B:List (List DV)) (ND:List Nd) (z:Int):List DV:=[.sl a A none,.sl b B none,.sl 7 (dq ND) none,.v (.int .i64 z)]
abbrev Qi (W:List DV) (O:List Nat) (K:List Bool) (n d:Nat):St:=
 ⟨[aE 1 0,(3,⟨[],.ms 1 1 0 n n⟩),bh 4 1 (wW K),ay 5 d],[W,cN O],[]⟩
abbrev FC (W:List DV) (O:List Nat) (K:List Bool) (M:List Bool) (n d e:Nat):St:=
 ⟨[aE 1 0,(3,⟨[],.ms 1 1 0 n n⟩),bh 4 1 (wW K),ay 5 d,(6,⟨[],.ms 2 1 0 n n⟩),ay 7 e],[W,cN O,cB M],[]⟩
theorem yV (a b:Nat) (A B:List (List DV)) {ND:List Nd} {L:Nat} (z:Int) (bI:∀ n∈ND,dt L ND.length n) (hZ:ND.length<=1099511627776) (bZ:∀ n∈ND,n.aw.length<=1099511627776) :
  EvP prog 186 [.agg (wG a b A B ND z)] (.sl 1 (dInts (depN ND ND.length)) none):=by
 have de:=nI ND;refine eG 61 [.tmp 2] func186 rfl ntmps186 rfl fun _ _ _ _=>?_;refine ⟨⟨rfl,by omega,by rw [de];omega,by rw [de];omega⟩,?_⟩;refine ⟨⟨rfl,by omega,by rw [de];omega,by rw [de];omega⟩,?_⟩;refine O4 (fun j st=>∃ d:Nat,st=Qi (wG a b A B ND z) (depN ND d) (gg (depN ND d)) (dq ND).length (d + 1)/\d<=ND.length/\j=ND.length - d) ND.length (Qi (wG a b A B ND z) (depN ND 0) (gg (depN ND 0)) (dq ND).length 1) (.Jv 2 rfl rfl ?_ rfl ?_) ⟨0,rfl,by omega,by omega⟩ ?_
 ·refine ⟨_,_,rfl,ax,_,_,rfl,?_,rfl⟩;rw [repN,de];exact Qh _ _ _ _ _
 ·refine ⟨⟨_,rfl,fA⟩,⟨_,rfl,fA⟩,⟨_,rfl,acw (by rw [nR,gf,de];omega) (aQ _) ?_⟩,⟨_,rfl,ax⟩,trivial⟩;refine congrArg some ?_;rw [LJ,de];simp [gg,depN]
 rintro j st ⟨d,rfl,hd,rfl⟩;have gn:(gg (depN ND d)).length=ND.length:=by rw [nR,gf]
 refine br ?_ ?_<;>intro hc
 ·have au:d < ND.length:=sW de hc;refine ⟨⟨rfl,by omega,by rw [de];omega,by rw [de];omega⟩,?_⟩;refine aV (fun j st=>∃ (e:Nat) (O:List Nat) (M:List Bool),st=FC (wG a b A B ND z) O (gg (depN ND d)) M (dq ND).length (d + 1) e/\e<=ND.length/\O.length=ND.length/\M.length=ND.length/\(∀ i:Nat,i < e->O.getD i 0=(depN ND (d + 1)).getD i 0/\M.getD i false=(gg (depN ND (d + 1))).getD i false)/\(∀ i:Nat,e<=i->O.getD i 0=(depN ND d).getD i 0)/\j=ND.length - e) ND.length (FC (wG a b A B ND z) (depN ND d) (gg (depN ND d)) (List.replicate ((dq ND).length:Int).toNat false) (dq ND).length (d + 1) 0) (dj 3 (by repeat' (first | exact rfl | exact az rfl | exact cS rfl | exact cu (LJ _) | refine ⟨_,_,rfl,?_,?_⟩)) (by repeat' (first | exact trivial | exact az rfl | exact cS rfl | exact cu (LJ _) | refine ⟨⟨_,rfl,?_⟩,?_⟩))) ⟨0,_,_,rfl,by omega,by rw [gf],by rw [List.length_replicate,de];omega,fun i hi=>by omega,fun i _=>rfl,by omega⟩ ?_;rintro j st ⟨e,O,M,rfl,he,hO,hM,uI,Q8,rfl⟩;refine br ?_ ?_<;>intro hL
  ·have fF:e < ND.length:=by have:=hL;simp [de] at this;exact this
   obtain ⟨n,hn⟩:∃ n,ND[e]? = some n:=⟨_,gE fF⟩;have Ci:=mG hn;have h1:=Iv (gg (depN ND d)) (by rw [gn];exact hZ) (n:=n) (by rw [gn];exact bI n Ci) (bZ n Ci);obtain ⟨r1,r2⟩:=P8 (fun m hm=>⟨(bI m hm).k8,(bI m hm).bare⟩) d hn;refine iX (nJ hn) ?_;refine cP ZW h1 ?_
   have aW:(cB M).set (0 + (e:Int).toNat * 1) (DV.v (.bool (Ks n (gg (depN ND d)))))=cB (M.set e (Ks n (gg (depN ND d)))):=by
    rw [show 0 + (e:Int).toNat * 1=e by omega,BV]
   have J9:(cB (M.set e (Ks n (gg (depN ND d)))))[0 + (e:Int).toNat * 1]? = some (DV.v (.bool (Ks n (gg (depN ND d))))):=by
    rw [show 0 + (e:Int).toNat * 1=e by omega];exact Pv (gN (by omega))
   obtain ⟨q,hq⟩:∃ q,O[e]? = some q:=⟨_,gE (by omega)⟩;have hqd:(depN ND d).getD e 0=q:=by rw [<- Q8 e (aQ _),eN,hq];all_goals rfl
   rw [hqd] at r1
   have hMs:∀ i:Nat,i < e + 1->(M.set e (Ks n (gg (depN ND d)))).getD i false=(gg (depN ND (d + 1))).getD i false:=fun i hi=>by
    by_cases MN:i=e
    ·subst MN;rw [r2,eN,gN (by omega)];all_goals rfl
    ·rw [eN,List.getElem?_set_ne (Ne.symm MN),<- eN];exact (uI i (by omega)).2
   generalize Ks n (gg (depN ND d))=h at aW J9 r1 hMs ⊢;refine ⟨⟨by omega,by rw [de];omega⟩,?_⟩;refine ⟨by rw [sw];omega,?_⟩;refine ⟨⟨by omega,by rw [de];omega⟩,?_⟩;refine ⟨DV.v (.bool h),(by rw [aW];exact J9),?_⟩
   have hOs:∀ v,v=(depN ND (d + 1)).getD e 0->∀ i:Nat,i < e + 1->(O.set e v).getD i 0=(depN ND (d + 1)).getD i 0:=fun v hv i hi=>by
    by_cases MN:i=e
    ·subst MN;rw [<- hv,eN,gN (by omega)];all_goals rfl
    ·rw [eN,List.getElem?_set_ne (Ne.symm MN),<- eN];exact (uI i (by omega)).1
   have hOr:∀ v:Nat,∀ i:Nat,e + 1<=i->(O.set e v).getD i 0=(depN ND d).getD i 0:=fun v i hi=>by
    rw [eN,List.getElem?_set_ne (by omega),<- eN];exact Q8 i (by omega)
   have hOq:O.set e q=O:=List.ext_getElem? fun i=>by
    by_cases MN:e=i
    ·subst MN;rw [gN (by omega),hq]
    ·rw [List.getElem?_set_ne MN]
   refine br ?_ ?_<;>intro g
   ·have g:h=true:=sU g;refine ⟨⟨by omega,by rw [de];omega⟩,?_⟩;refine ⟨DV.v (.int .i64 (q:Int)),(by rw [show 0 + (e:Int).toNat * 1=e by omega];exact Xo hq),?_⟩;refine br ?_ ?_<;>intro g2
    ·have g2:q=0:=by simpa [pickB,pickD] using g2
     rw [ap ⟨g,g2⟩] at r1;refine ⟨⟨by omega,by rw [de];omega⟩,?_⟩;refine ⟨by rw [P9];omega,?_⟩
     have V1:(cN O).set (0 + (e:Int).toNat * 1) (DV.v (.int .i64 ((d + 1:Nat):Int)))=cN (O.set e (d + 1)):=by
      rw [show 0 + (e:Int).toNat * 1=e by omega,Xp]
     exact ⟨FC (wG a b A B ND z) (O.set e (d + 1)) (gg (depN ND d)) (M.set e h) (dq ND).length (d + 1) (e + 1),(dj 3 (wA3 V1 aW (aN fF (by omega))) (Rc V1 aW (aN fF (by omega)))),ND.length - (e + 1),by omega,e + 1,_,_,rfl,by omega,by simp [hO],by rw [List.length_set];exact hM,fun i hi=>⟨hOs _ r1.symm i hi,hMs i hi⟩,hOr (d + 1),rfl⟩
    ·have g2:¬ q=0:=by simpa [pickB,pickD] using g2
     rw [aj (fun h=>g2 h.2)] at r1;exact ⟨FC (wG a b A B ND z) (O.set e q) (gg (depN ND d)) (M.set e h) (dq ND).length (d + 1) (e + 1),(dj 3 (by repeat' (first | exact rfl | exact az rfl | exact cS (by rw [hOq]) | exact cu aW | exact aD (aN fF (by omega)) | refine ⟨_,_,rfl,?_,?_⟩)) (by repeat' (first | exact trivial | exact az rfl | exact cS (by rw [hOq]) | exact cu aW | exact aD (aN fF (by omega)) | refine ⟨⟨_,rfl,?_⟩,?_⟩))),ND.length - (e + 1),by omega,e + 1,_,_,rfl,by omega,by simp [hO],by rw [List.length_set];exact hM,fun i hi=>⟨hOs _ r1.symm i hi,hMs i hi⟩,hOr q,rfl⟩
   ·have g:h=false:=sU g;rw [aj (by rw [g];simp)] at r1;exact ⟨FC (wG a b A B ND z) (O.set e q) (gg (depN ND d)) (M.set e h) (dq ND).length (d + 1) (e + 1),(dj 3 (by repeat' (first | exact rfl | exact az rfl | exact cS (by rw [hOq]) | exact cu aW | exact aD (aN fF (by omega)) | refine ⟨_,_,rfl,?_,?_⟩)) (by repeat' (first | exact trivial | exact az rfl | exact cS (by rw [hOq]) | exact cu aW | exact aD (aN fF (by omega)) | refine ⟨⟨_,rfl,?_⟩,?_⟩))),ND.length - (e + 1),by omega,e + 1,_,_,rfl,by omega,by simp [hO],by rw [List.length_set];exact hM,fun i hi=>⟨hOs _ r1.symm i hi,hMs i hi⟩,hOr q,rfl⟩
  ·have hge:e=ND.length:=sW de hL;subst hge
   have hO2:O=depN ND (d + 1):=P7 (by rw [hO,gf]) fun j=>by
    rcases Nat.lt_or_ge j ND.length with hj | hj
    ·exact (uI j hj).1
    ·simp only [eN];rw [kT (by omega),kT (by rw [gf];omega)]
   have hM2:M=gg (depN ND (d + 1)):=El (by rw [hM,nR,gf]) (fun j hj=>by
     rcases Nat.lt_or_ge j ND.length with h | h
     ·rw [<- (uI j h).2];exact hj
     ·rw [eN,kT (by omega)] at hj;cases hj) (fun j hj=>by
     rcases Nat.lt_or_ge j ND.length with h | h
     ·rw [(uI j h).2];exact hj
     ·rw [eN,kT (by rw [nR,gf];omega)] at hj;cases hj)
   subst hO2 hM2;refine ⟨Qi (wG a b A B ND z) (depN ND (d + 1)) (gg (depN ND (d + 1))) (dq ND).length (d + 1 + 1),.Jv 2 rfl rfl ⟨_,_,rfl,ax,_,_,rfl,Qh _ _ _ _ _,rfl⟩ rfl ⟨⟨_,rfl,fA⟩,⟨_,rfl,fA⟩,⟨_,rfl,acw (by rw [nR,gf,de]) (aQ _) rfl⟩,⟨_,rfl,?_⟩,trivial⟩,ND.length - (d + 1),by omega,d + 1,rfl,by omega,rfl⟩;exact congrArg (fun z=>DV.v (Value.int .i64 z)) (aN (n:=1099511627777) (by omega) (by omega))
 ·have hge:d=ND.length:=sW de hc;subst hge;exact ⟨_,ms_n (by rw [gf,de]) (Nat.zero_le _) rfl,rfl⟩
theorem FD {S:Sch} (hF:tE S) {i:Nat} {n:Nd} (h:(aS S)[i]? = some n) {e:Ed} (he:e∈n.aw) (hb:e.bare=true):e.ck=0:=by
 have Ko:=(sG hF h).bare e he hb;rw [jO] at h;obtain ⟨t,ht,u,hu,rfl,jX⟩:=xA h;have HI:=xz t ⟨_,_,hF.wr t ht⟩ u hu;have hT:=H5 HI;obtain ⟨uh,us⟩:=u;simp only [Ty.h,Ty.ps] at hT;obtain ⟨p,v,k',h1,rfl,_⟩:=qV he;obtain ⟨j,hj⟩:=List.mem_iff_getElem?.1 h1;obtain ⟨_,hP⟩:=(hT.many (.inr Ko)).2.2 j p v hj;rcases hP with ⟨_,_,_,gn⟩ | ⟨eo,_⟩
 ·exact (ou gn).2.2.1
 ·have:p.bare=true:=hb;rw [eo] at this;cases this
def Kt (ck:Int):Int:=if ck=3 then 5 else if ck=2 then 3 else 2
def Iw (f:Nat->Nat->Bool) (ND:List Nd) (e:Ed):Prop:=e.ck≠0->(∃ m,ND[e.to.toNat]? = some m/\m.ag=Kt e.ck)/\f e.seen.toNat e.label.toNat=true/\f e.label.toNat e.seen.toNat=false
def Qj (f:Nat->Nat->Bool) (ND:List Nd):Prop:=∀ n∈ND,∀ e∈n.aw,Iw f ND e
abbrev acx (W:List DV) (e:Nat):St:=⟨[aE 1 0,aE 2 1,ay 3 e],[W,[.v (.int .i64 0),.v (.int .i64 0)]],[]⟩
abbrev Xu (W:List DV) (es:List Ed) (e k:Nat):St:=⟨[aE 1 0,aE 2 1,ay 3 e,bh 4 10 (fN es),ay 5 k],[W,[.v (.int .i64 0),.v (.int .i64 0)]],[]⟩
def W20Φ (f:Nat->Nat->Bool) (ND:List Nd) (r:DV):Prop:=∃ ft:Ft,r=ft.d/\(ft.1=0->Qj f ND)
theorem Cj (lv:List Wd) (f:Nat->Nat->Bool) (ND:List Nd) (z:Int) (hn:lv.length<=32) (bI:∀ n∈ND,dt lv.length ND.length n) (hZ:ND.length<=1099511627776) (bZ:∀ n∈ND,n.aw.length<=1099511627776) (hbr:∀ n∈ND,∀ e∈n.aw,e.bare=true->e.ck=0) :
  Ev prog 187 [.agg (wL lv f ND z)] [] [] (fun r _ _=>W20Φ f ND r):=by
 have hNl:=nI ND;refine eG 79 [.cell 2 44] func187 rfl ntmps187 rfl fun _ _ _ _=>?_;refine lI (fun j st=>∃ e:Nat,st=acx (wL lv f ND z) e/\e<=ND.length/\(∀ c n,c < e->ND[c]? = some n->∀ x∈n.aw,Iw f ND x)/\j=ND.length - e) ⟨0,rfl,by omega,fun _ _ h=>by omega,rfl⟩ (bp wB) ?_;rintro j st ⟨e,rfl,he,gO,rfl⟩;refine br ?_ ?_<;>intro hL
 ·have au:e < ND.length:=sV hNl hL;obtain ⟨d,hd⟩:=gX au;have hm:=mG hd;have hN:=bI d hm;have oJ:=bZ d hm;have de:=cF d.aw;have hbd:=hbr d hm;refine iX (nJ hd) ?_;refine lI (fun j st=>∃ k:Nat,st=Xu (wL lv f ND z) d.aw e k/\k<=d.aw.length/\(∀ c x,c < k->d.aw[c]? = some x->Iw f ND x)/\j=d.aw.length - k) ⟨0,rfl,by omega,fun _ _ h=>by omega,rfl⟩ (bp wB) ?_;rintro j st ⟨k,rfl,hk,Px,rfl⟩;refine br ?_ ?_<;>intro oQ
  ·have iS:k < d.aw.length:=sV de oQ;obtain ⟨x,hx⟩:∃ x,d.aw[k]? = some x:=⟨_,gE iS⟩;have Rp:=mG hx;obtain ⟨qM,⟨h2,Rk⟩,h3,S9⟩:=gJ hN Rp;have kG:=hbd x Rp;have FE:=(hN.fD x Rp).ck
   have Qk:Iw f ND x->∀ c y,c < k + 1->d.aw[c]? = some y->Iw f ND y:=fun h c y hc hy=>by
    rcases kE hc with h1 | h1
    ·exact Px c y h1 hy
    ·rw [h1,hx] at hy;simp only [oI] at hy;rw [<- hy];exact h
   have hE:Iw f ND x=(x.ck≠0->(∃ m,ND[x.to.toNat]? = some m/\m.ag=Kt x.ck)/\f x.seen.toNat x.label.toNat=true/\f x.label.toNat x.seen.toNat=false):=rfl;generalize Iw f ND x=EX at hE Qk;obtain ⟨en,eb,ea,et,q4,ew,eU,ic,rD,iV⟩:=x;simp only at h2 Rk h3 S9 qM kG FE hE;obtain ⟨lb,rfl⟩:∃ n:Nat,q4=n:=⟨_,h2⟩;obtain ⟨sn,rfl⟩:∃ n:Nat,rD=n:=⟨_,h3⟩;simp only [kS] at Rk S9 hE;refine iX (bm hx) ?_;refine br ?_ ?_<;>intro g
   ·have g:eU=0:=sU g;exact rE ⟨_,by omega,k + 1,rfl,by omega,Qk (by rw [hE];intro h;exact absurd g h),rfl⟩ (dj 2 (kH (aN iS (by omega))) (cY (aN iS (by omega))))
   have g:¬ eU=0:=sU g
   obtain ⟨h1,vf⟩:=qM (by
    cases hb:eb
    ·rfl
    ·exact absurd (kG hb) g)
   obtain ⟨tn,rfl⟩:∃ n:Nat,et=n:=⟨_,h1⟩;simp only [kS] at vf hE;obtain ⟨m,hmt⟩:∃ m,ND[tn]? = some m:=⟨_,gE vf⟩
   have hW:∀ w:Int,w=Kt eU->(m.ag=w/\f sn lb=true/\f lb sn=false)->EX:=fun w h1 h2=>by
    rw [hE];exact fun _=>⟨⟨m,hmt,by rw [<- h1];exact h2.1⟩,h2.2⟩
   have h3c:eU=1∨eU=2∨eU=3:=by omega
   rcases h3c with rfl | rfl | rfl
   all_goals
    refine ⟨_,⟨C1 _,nJ hmt⟩,?_⟩;refine br ?_ ?_<;>intro c1
    ·exact ⟨Ft.d (14,iV),ax,(14,iV),rfl,fun h=>by simp at h⟩
    refine dI ?_;refine ⟨_,⟨C1 _,eS S9⟩,?_⟩;refine ⟨_,⟨C1 _,dK Rk⟩,?_⟩;refine br ?_ ?_<;>intro c2
    ·refine ⟨_,⟨C1 _,eS Rk⟩,?_⟩;refine ⟨_,⟨C1 _,dK S9⟩,?_⟩;refine br ?_ ?_<;>intro c3
     ·exact ⟨Ft.d (18,iV),ax,(18,iV),rfl,fun h=>by simp at h⟩
     ·have hx:=Qk (hW _ rfl ⟨by simpa [Kt] using c1,by simpa using c2,by simpa [pickB] using c3⟩);exact rE ⟨_,by omega,k + 1,rfl,by omega,hx,rfl⟩ (dj 2 (kH (aN iS (by omega))) (cY (aN iS (by omega))))
    ·exact ⟨Ft.d (18,iV),ax,(18,iV),rfl,fun h=>by simp at h⟩
  ·have hge:k=d.aw.length:=sW de oQ;subst hge
   exact rE ⟨_,by omega,e + 1,rfl,by omega,fun c n hc hn x Yh=>by
    rcases kE hc with h1 | h1
    ·exact gO c n h1 hn x Yh
    ·rw [h1,hd] at hn;simp only [oI] at hn;rw [<- hn] at Yh;obtain ⟨q,hq⟩:=List.mem_iff_getElem?.1 Yh
     exact Px q x (gS hq).1 hq,rfl⟩ (bp (cY (aN au (by omega))))
 ·have hge:e=ND.length:=sW hNl hL;subst hge
  exact ⟨Ft.d (0,0),ax,(0,0),rfl,fun _ n hn x hx=>by
   obtain ⟨q,hq⟩:=List.mem_iff_getElem?.1 hn
   exact gO q n (gS hq).1 hq x hx⟩
structure xW (S:Sch):Prop where
 yA:(kP S).1=0
 live:∀ i:Nat,i < (aS S).length->(depN (aS S) (aS S).length).getD i 0≠0
 eff:Qj (aK S) (aS S)
abbrev acz (S:Sch) (a b:Int) (W:List DV) (D:List Nat) (e:Nat):St:=
 ⟨[aE 1 0,aE 3 1,aE 5 3,bh 6 1 (dInts D),ay 7 e],[eH S,[.v (.int .i64 0),.v (.int .i64 0)],[.v (.int .i64 a),.v (.int .i64 b)],W],[]⟩
theorem Ck (S:Sch) (hS:S.wt<=1099511627776):Ev prog 102 [.agg (eH S)] [] [] (fun r _ _=>∃ (z:Int) (ft:Ft),r = .tup [.v (.int .i64 z),ft.d]/\(z=0->xW S)):=by
 have HI:=B3 S hS;have hw:=fun h=>B6 S hS h;generalize hR:kP S=R at HI;obtain ⟨ae,order,types,⟨rh,rp⟩⟩:=S;refine eG 44 [.tmp 2,.cell 3 44] func102 rfl ntmps102 rfl fun _ _ _ _=>?_;refine cP ZE HI ?_;refine br ?_ ?_<;>intro g
 ·refine dS ?_;exact ⟨.tup [.v (.int .i64 2),Ft.d R],ax,2,R,rfl,fun h=>by simp at h⟩
 have g:R.1=0:=sU g;have h0:(kP ⟨ae,order,types,.mk rh rp⟩).1=0:=by rw [hR];exact g
 have hF:=qU h0;have hw:=hw h0;obtain ⟨aca,Po⟩:=ll hF.lat;have bI:=fun n (hn:n∈aS ⟨ae,order,types,.mk rh rp⟩)=>(List.mem_iff_getElem?.1 hn).elim fun i hi=>sG hF hi;have hZ:(aS ⟨ae,order,types,.mk rh rp⟩).length<=1099511627776:=by rw [mr];exact Nat.le_trans (H3 _) hS
 have bZ:=fun n (hn:n∈aS ⟨ae,order,types,.mk rh rp⟩)=>(lr hn hS).2;have hbr:=fun n (hn:n∈aS ⟨ae,order,types,.mk rh rp⟩)=>(List.mem_iff_getElem?.1 hn).elim fun i hi e he hb=>FD hF hi (e:=e) he hb;have h19:=fun A B=>yV 2 1 A B (cr ⟨ae,order,types,.mk rh rp⟩) bI hZ bZ;have h20:=Cj ae (aK ⟨ae,order,types,.mk rh rp⟩) (aS ⟨ae,order,types,.mk rh rp⟩) (cr ⟨ae,order,types,.mk rh rp⟩) Po bI hZ bZ hbr;have Yc:(∀ i:Nat,i < (aS ⟨ae,order,types,.mk rh rp⟩).length->(depN (aS ⟨ae,order,types,.mk rh rp⟩) (aS ⟨ae,order,types,.mk rh rp⟩).length).getD i 0≠0)->Qj (aK ⟨ae,order,types,.mk rh rp⟩) (aS ⟨ae,order,types,.mk rh rp⟩)->xW ⟨ae,order,types,.mk rh rp⟩:=fun h1 h2=>⟨h0,h1,h2⟩;have Oa:=gf (aS ⟨ae,order,types,.mk rh rp⟩) (aS ⟨ae,order,types,.mk rh rp⟩).length;generalize depN (aS ⟨ae,order,types,.mk rh rp⟩) (aS ⟨ae,order,types,.mk rh rp⟩).length=D at h19 Yc Oa;unfold aK at h20 Yc;generalize eQ (Sch.mk ae order types (.mk rh rp)).ae.length (dz (aA (Sch.mk ae order types (.mk rh rp)).ae) (Sch.mk ae order types (.mk rh rp)).order)=f at hw h20 Yc;generalize aS ⟨ae,order,types,.mk rh rp⟩=ND at hw h19 h20 Yc Oa hZ bZ hbr bI;generalize cr ⟨ae,order,types,.mk rh rp⟩=rt at hw h19 h20;have Dc:=bz D;obtain ⟨R1,R2⟩:=R;simp only at g;subst g;refine cP en12 hw ?_;refine cP ZF (h19 _ _) ?_;refine lI (fun j st=>∃ e:Nat,st=acz ⟨ae,order,types,.mk rh rp⟩ 0 R2 (wL ae f ND rt) D e/\e<=D.length/\(∀ i < e,D.getD i 0≠0)/\j=D.length - e) ⟨0,rfl,by omega,fun _ h=>by omega,rfl⟩ (bp wB) ?_;rintro j st ⟨e,rfl,he,gO,rfl⟩;refine br ?_ ?_<;>intro hL
 ·have au:e < D.length:=sV Dc hL;obtain ⟨x,hx⟩:=gX au;obtain ⟨d,hd⟩:∃ d,ND[e]? = some d:=⟨_,gE (by omega)⟩;refine iX (ef hx) ?_;refine br ?_ ?_<;>intro c
  ·refine dS ?_;refine iX (nJ hd) ?_;exact ⟨.tup [.v (.int .i64 3),Ft.d (11,d.at')],ax,3,(11,d.at'),rfl,fun h=>by simp at h⟩
  ·have c:x≠0:=by simp at c;omega
   exact rE ⟨_,by omega,e + 1,rfl,by omega,fun i hi=>by
    rcases kE hi with h1 | h1
    ·exact gO i h1
    ·rw [h1,eN,hx];exact c,rfl⟩ (dj 4 (kH (aN au (by omega))) (cY (aN au (by omega))))
 ·have hge:e=D.length:=sW Dc hL;subst hge;refine bS ZG rfl h20 ax (fun r hr=>?_);obtain ⟨ft,rfl,Vd⟩:=hr;refine br ?_ ?_<;>intro c
  ·refine dS ?_;exact ⟨.tup [.v (.int .i64 4),Ft.d ft],ax,4,ft,rfl,fun h=>by simp at h⟩
  ·have c:ft.1=0:=sU c;exact ⟨.tup [.v (.int .i64 0),Ft.d (0,0)],ax,0,(0,0),rfl,fun _=>Yc (fun i hi=>gO i (by omega)) (Vd c)⟩
theorem FG (S:Sch) (hS:S.wt<=1099511627776):Ev prog 44 [.agg (eH S)] [] [] (fun r _ _=>∃ b:Bool,r = .v (.bool b)/\(b=true->xW S)):=by
 have hw:=Ck S hS;obtain ⟨ae,order,types,⟨rh,rp⟩⟩:=S;refine eG 12 [.tmp 2] func44 rfl ntmps44 rfl fun _ _ _ _=>?_;refine bS Zp rfl hw ax (fun r hr=>?_);obtain ⟨z,ft,rfl,hz⟩:=hr;exact ⟨_,rfl,fun h=>hz (sU h)⟩
theorem Ku {d:Nd} {z:Int} {j:Nat} {e:Ed} (h:Ro d (.mk 0 z av []) j=e.to) (h0:0<=e.to) (c:d.ag=8):0<=z/\z < d.aw.length:=by
 unfold Ro at h;rw [aj (by omega),aj (by omega),aj (by omega),ap c] at h;split at h
 ·rename_i g;exact ⟨g.2.1,g.2.2⟩
 ·omega
abbrev Vm (PC LC:List DV) (obs:Int):List DV:=[.pt PC 0,.pt LC 0,.v (.int .i64 obs)]
section
variable {n:Nat} {f:Nat->Nat->Bool} {af:List ByteArray} {LC:List DV} (hR:pA n f af LC) (PC:List DV)
include hR
theorem pG (obs a:Nat) (ho:obs < n) (ha:a < n):EvP prog 140 [.agg (Vm PC LC obs),.v (.int .i64 a)] (.v (.bool (f a obs))):=by
 have hq:=hR.leq a obs;rw [Fk ha ho] at hq;refine eG 11 [.tmp 4] func140 rfl ntmps140 rfl fun _ _ _ _=>?_;refine cP Zk hq ?_;exact (rfl:_=_)
theorem nS {ND:List Nd} (obs a:Nat) (ho:obs < n) (ha:a < n) (d:Nd) (e:Ed) (hN:dt n ND.length d) (hm:e∈d.aw):EvP prog 141 [.agg (Vm PC LC obs),.agg (nF e),.v (.int .i64 a)] (.v (.bool (decide (e.ck≠0) && f (yD f n a e.seen.toNat) obs))):=by
 obtain ⟨_,_,h3,S9⟩:=gJ hN hm;have hj:=hR.join a e.seen.toNat ha S9;rw [<- h3] at hj;have hs:=pG hR PC obs (yD f n a e.seen.toNat) ho (Cb hR.ok ha S9);obtain ⟨en,eb,ea,et,q4,ew,eU,ic,rD,iV⟩:=e;refine eG 20 [.tmp 6] func141 rfl ntmps141 rfl fun _ _ _ _=>?_;refine dI ?_;refine br ?_ ?_<;>intro c
 ·have c:eU≠0:=sU c;refine cD tg hj ?_;refine cD NK hs ?_;rw [show decide ((⟨en,eb,ea,et,q4,ew,eU,ic,rD,iV⟩:Ed).ck≠0)=true from decide_eq_true c,Bool.true_and];exact (rfl:_=_)
 ·have c:¬ eU≠0:=sU c;rw [show decide ((⟨en,eb,ea,et,q4,ew,eU,ic,rD,iV⟩:Ed).ck≠0)=false from decide_eq_false c,Bool.false_and];exact (rfl:_=_)
theorem xX {ND:List Nd} (obs:Int) (a:Nat) (ha:a < n) (d:Nd) (v:Val) (j:Nat) (e:Ed) (h:bH d v.n j=some e) (hm:e∈d.aw) (hN:dt n ND.length d) (h5:5<=d.ag) (hz:d.ag=8->(0<=v.n/\v.n < d.aw.length)/\j=0) (gL:d.aw.length<=1099511627776) :
  EvP prog 139 [.agg (Vm PC LC obs),.agg (kO d),.agg (aZ v),.v (.int .i64 j),.v (.int .i64 a)] (.tup [.agg (nF e),.v (.int .i64 (gA f n d e a:Nat))]):=by
 obtain ⟨_,⟨h2,Rk⟩,_⟩:=gJ hN hm;have hj:=hR.join a e.label.toNat ha Rk;rw [<- h2] at hj;have hU:gA f n d e a=if d.ag < 7 then a else yD f n a e.label.toNat:=rfl
 generalize gA f n d e a=U at hU ⊢;have h8:=hN.k8;obtain ⟨ag,at',lo,hi,most,Cl,es⟩:=d;obtain ⟨k,z,s,ks⟩:=v;simp only [Val.n] at h hz gL hU h5 h8;have oJ:=cF es;unfold bH at h;simp only at h;have hd:∃ en eb ea et q4 ew eU ic rD iV,e=⟨en,eb,ea,et,q4,ew,eU,ic,rD,iV⟩:=⟨_,_,_,_,_,_,_,_,_,_,rfl⟩
 have Xv:∃ (l:List (List DV)) (b:Bool),EvP prog 213 [.agg (kO ⟨ag,at',lo,hi,most,Cl,es⟩),.agg (aZ (.mk k z s ks))] (.tup [.sl 10 l none,.v (.bool b)])/\(if ag < 7 then b=false/\l[0]? = some (nF e) else b=true/\l[j]? = some (nF e)):=by
  by_cases c7:ag=7
  ·rw [ap c7] at h;refine ⟨fN es,true,?_,by rw [aj (by omega)];exact ⟨rfl,bm h⟩⟩;refine eG 24 [.tmp 4,.tmp 5] func213 rfl ntmps213 rfl fun _ _ _ _=>?_;refine br (fun _=>?_) (fun c=>absurd c7 (sU c));exact ⟨_,ax,rfl⟩
  rw [aj c7] at h;by_cases c8:ag=8
  ·rw [ap c8] at h;have hz:=hz c8;have hw:IntKind.i64.wrap (z + 1)=z + 1:=wrap64 (by omega) (by omega);refine ⟨((fN es).take (IntKind.i64.wrap (z + 1)).toNat).drop z.toNat,true,?_,by rw [aj (by omega),hz.2,List.getElem?_drop,cx,ap (by rw [hw];omega)];exact ⟨rfl,bm h⟩⟩;refine eG 24 [.tmp 4,.tmp 5] func213 rfl ntmps213 rfl fun _ _ _ _=>?_;refine br (fun c=>absurd (sU c) c7) (fun _=>?_);refine br (fun _=>?_) (fun c=>absurd c8 (sU c));refine ⟨⟨by omega,by rw [hw];omega,by rw [hw,cF];simp only;omega⟩,?_⟩;exact ⟨_,ax,rfl⟩
  ·rw [aj c8] at h;refine ⟨fN es,false,?_,by rw [ap (by omega)];exact ⟨rfl,bm h⟩⟩;refine eG 24 [.tmp 4,.tmp 5] func213 rfl ntmps213 rfl fun _ _ _ _=>?_;refine br (fun c=>absurd (sU c) c7) (fun _=>?_);refine br (fun c=>absurd (sU c) c8) (fun _=>?_);exact ⟨_,ax,rfl⟩
 obtain ⟨l,b,hE,hl⟩:=Xv;by_cases c:ag < 7
 ·rw [ap c] at hl hU;obtain ⟨rfl,hl⟩:=hl;subst hU;obtain ⟨en,eb,ea,et,q4,ew,eU,ic,rD,iV,rfl⟩:=hd;refine eG 38 [.cell 10 193,.tmp 11] func139 rfl ntmps139 rfl fun _ _ _ _=>?_;refine cP Ug hE ?_;refine ⟨_,⟨by omega,hl⟩,?_⟩;exact ⟨_,ax,rfl⟩
 ·rw [aj c] at hl hU;obtain ⟨rfl,hl⟩:=hl;subst hU;obtain ⟨en,eb,ea,et,q4,ew,eU,ic,rD,iV,rfl⟩:=hd;refine eG 38 [.cell 10 193,.tmp 11] func139 rfl ntmps139 rfl fun _ _ _ _=>?_;refine cP Ug hE ?_;refine ⟨_,⟨by omega,hl⟩,?_⟩;refine dS ?_;refine cD tg hj ?_;exact ⟨_,ax,rfl⟩
end
theorem q5 (e:Ed):EvP prog 143 [.agg (nF e)] (.agg (aZ (oG e))):=by
 obtain ⟨en,eb,ea,et,q4,ew,eU,ic,rD,iV⟩:=e;refine eG 6 [.cell 2 34] func143 rfl ntmps143 rfl fun _ _ _ _=>?_;exact ⟨_,ax,rfl⟩
abbrev acB (a:ByteArray) (at':Nat) (m:Int) (e:Nat):St:=⟨[(0,⟨[],.v (.string a)⟩),ay 5 at',ay 8 m,ay 9 e],[],[]⟩
theorem xY (a:ByteArray) (ha:a.size<=1099511627776) (m:Int) (hm:m<=9223372036854775807):EvP prog 215 [.v (.string a),.v (.int .i64 m)] (.v (.string (ba (headL m.toNat (tx a))))):=by
 refine eG 28 [.tmp 4] func215 rfl ntmps215 rfl fun _ _ _ _=>?_;refine lI (fun j st=>∃ e at':Nat,st=acB a at' m e/\(e:Int)<=max m 0/\at' <= a.size/\(tx a).take at' ++ headL (m.toNat - e) ((tx a).drop at')=headL m.toNat (tx a)/\j=m.toNat - e) ⟨0,0,rfl,by omega,by omega,by simp,rfl⟩ (bp kj) ?_;rintro j st ⟨e,at',rfl,he,h1,hE,rfl⟩;have gl:=cE a;have acC:headL (m.toNat - e) ((tx a).drop at')=[]->a.extract 0 at'=ba (headL m.toNat (tx a)):=fun h=>by grind [pf,S7]
 refine br ?_ ?_<;>intro hL
 rotate_left
 ·have hge:m.toNat - e=0:=by have:=of_decide_eq_false hL;omega
  refine ⟨⟨by omega,by omega,by omega⟩,?_⟩;exact (congrArg (fun z=>DV.v (.string z)) (acC (by rw [hge];rfl)):_=_)
 have au:(e:Int) < m:=of_decide_eq_true hL;refine br ?_ ?_<;>intro c
 ·have c:at'=a.size:=by have:=of_decide_eq_true c;omega
  refine ⟨⟨by omega,by omega,by omega⟩,?_⟩;exact (congrArg (fun z=>DV.v (.string z)) (acC (by rw [List.drop_of_length_le (by omega),ov])):_=_)
 have c:at' < a.size:=by have:=of_decide_eq_false c;omega
 have hua:=oC a at' ha h1
 have bf:(tx a).drop at' ≠ []:=fun h=>by
  have:=congrArg List.length h;rw [List.length_drop,List.length_nil] at this;omega
 have hup:=dZ bf;rw [List.length_drop] at hup;obtain ⟨k,hk⟩:∃ k,m.toNat - e=k + 1:=⟨m.toNat - e - 1,by omega⟩;rw [hk,show headL (k + 1) ((tx a).drop at')=((tx a).drop at').take (dV ((tx a).drop at')) ++ headL k (((tx a).drop at').drop (dV ((tx a).drop at'))) from rfl,<- List.append_assoc,List.drop_drop,<- List.take_add] at hE;generalize dV ((tx a).drop at')=w at hua hup hE;refine bS DO rfl hua ax (fun q hq=>?_);obtain ⟨z1,rfl⟩:=hq
 have hw:IntKind.i64.wrap ((at':Int) + w)=((at' + w:Nat):Int):=by
  rw [wrap64 (by omega) (by omega)];omega
 have Xf:IntKind.i64.wrap ((e:Int) + 1)=((e + 1:Nat):Int):=by
  rw [wrap64 (by omega) (by omega)];omega
 exact rE ⟨_,by omega,e + 1,at' + w,rfl,by omega,by omega,by rw [show m.toNat - (e + 1)=k by omega];exact hE,rfl⟩ (bp (iT hw Xf))
theorem Cm (e:Ed) (v:Val) (hn : -9223372036854775808<=v.n/\v.n<=9223372036854775807) (hs:v.wt<=1099511627776) (hc : -9223372036854775808<=e.cn/\e.cn<=9223372036854775807) :
  EvP prog 142 [.agg (nF e),.agg (aZ v)] (.agg (aZ (bE e v))):=by
 have hw:v.s.size<=1099511627776/\v.ks.length<=1099511627776:=by
  obtain ⟨k,n,s,ks⟩:=v;have:=cG ks;rw [Val.wt] at hs;show s.size<=_/\ks.length<=_;omega
 have hf:=iN v.n e.cn hn hc;have hh:=xY v.s hw.1 e.cn hc.2;have Xw:=q5 e
 have hA:e.ck=1->v.k=2->(aJ v.n e.cn).2=true->bE e v = .mk 10 (aJ v.n e.cn).1 av []:=fun h1 h2 h3=>by
  unfold bE;rw [ap ⟨h1,h2,h3⟩]
 have hB:e.ck=2->v.k=3->bE e v = .mk 11 0 (ba (headL e.cn.toNat (tx v.s))) []:=fun h1 h2=>by grind [bE]
 have hC:e.ck=3->v.k=5->bE e v = .mk 12 v.ks.length av []:=fun h1 h2=>by grind [bE]
 have hD:¬ (e.ck=1/\v.k=2/\(aJ v.n e.cn).2=true)->¬ (e.ck=2/\v.k=3)->¬ (e.ck=3/\v.k=5)->bE e v=oG e:=fun h1 h2 h3=>by grind [bE]
 generalize bE e v=C at hA hB hC hD ⊢;generalize hH:oG e=HV at Xw hD;obtain ⟨hvk,hvn,yw,uJ⟩:=HV;clear hH;obtain ⟨en,eb,ea,et,q4,ew,eU,ic,rD,iV⟩:=e;obtain ⟨k,n,s,ks⟩:=v;simp only [Val.k,Val.n,Val.s,Val.ks] at hA hB hC hD hf hh hw;have de:=bl ks;generalize aJ n ic=fl at hf hA hD;obtain ⟨fz,fb⟩:=fl;unfold B9 at hf;simp only at hA hD;generalize headL ic.toNat (tx s)=H at hh hB;refine eG 57 [.cell 4 34] func142 rfl ntmps142 rfl fun _ _ _ _=>?_;refine br ?_ ?_<;>intro c
 ·have c:eU=1/\k=2:=by simpa [ai] using c
  refine cP zq hf ?_
  cases fb with
  | true=>
   rw [hA c.1 c.2 rfl];exact ⟨_,ax,rfl⟩
  | false=>
   rw [hD (by simp) (by omega) (by omega)];refine cP en143 Xw ?_;exact ⟨_,ax,rfl⟩
 have c1:¬ (eU=1/\k=2):=by simpa [ai] using c
 refine br ?_ ?_<;>intro c
 ·have c:eU=2/\k=3:=by simpa [ai] using c
  refine cP Uh hh ?_;rw [hB c.1 c.2];exact ⟨_,ax,rfl⟩
 have c2:¬ (eU=2/\k=3):=by simpa [ai] using c
 refine br ?_ ?_<;>intro c
 ·have c:eU=3/\k=5:=by simpa [ai] using c
  rw [hC c.1 c.2,<- de];exact ⟨_,ax,rfl⟩
 have c3:¬ (eU=3/\k=5):=by simpa [ai] using c
 rw [hD (fun h=>c1 ⟨h.1,h.2.1⟩) c2 c3];refine cP en143 Xw ?_;exact ⟨_,ax,rfl⟩
end Go.Proofs.YtgjagnmeonoehaaGreat
namespace Go.Proofs.YtgjagnmeonoehaaGreat
namespace Dv
open Go Go.RowKit
mutual
def shD (m:Nat):DV->DV
 | .agg l=>.agg (shL m l)
 | .tup l=>.tup (shL m l)
 | .sl e es tk=>.sl e es (match tk with | some k=>some (m + k) | none=>none)
 | .fn f a b=>.fn f (shL m a) (shL m b)
 | .pV t x=>.pV t (shD m x)
 | .v x=>.v x
 | .ud=>.ud
 | .pt cs o=>.pt cs o
 | .loc i o=>.loc i o
 | .el i o=>.el i o
 | .ms i e o l c=>.ms i e o l c
def shL (m:Nat):List DV->List DV
 | []=>[]
 | d :: r=>shD m d :: shL m r
end
mutual
theorem sK {m:Nat} {E2 E:En} (hβ:E2.β=[]) (hc:E.c=E2.c) (ht:∀ (k:Nat) q,E2.tk[k]? = some q->E.tk[m + k]? = some q/\E.τ[m + k]? = E2.τ[k]?):∀ {d:DV} {v:Value},Rv E2 d v->Rv E (shD m d) v
 | .v x,v,h=>by simpa only [Rv,shD] using h
 | .ud,v,h=>by simpa only [Rv,shD] using h
 | .agg l,v,h=>by
  simp only [Rv,shD] at h ⊢;obtain ⟨vs,h1,h2,h3⟩:=h;exact ⟨vs,h1,lB hβ hc ht h2,h3⟩
 | .tup l,v,h=>by
  simp only [Rv,shD] at h ⊢;obtain ⟨vs,h1,h2⟩:=h;exact ⟨vs,h1,lB hβ hc ht h2⟩
 | .sl e es tk,v,h=>by
  have he:E.cl=E2.cl:=by simp [En.cl,hc]
  simp only [Rv,shD] at h ⊢;obtain ⟨b,n,cap,h1,h2,h3,h4⟩:=h;refine ⟨b,n,cap,h1,h2,fun hn=>⟨(h3 hn).1,by rw [he];exact (h3 hn).2⟩,?_⟩;intro k' gD
  cases tk with
  | none=>cases gD
  | some k=>
   simp only [oI] at gD;subst gD;obtain ⟨q,g1,g2,g3⟩:=h4 k rfl
   grind
 | .pt cs off,v,h=>by grind [En.cl,Rv,shD]
 | .loc i off,v,h=>by grind [Rv]
 | .el i off,v,h=>by grind [Rv]
 | .ms i e off len cap,v,h=>by grind [Rv]
 | .fn f a b,v,h=>by
  simp only [Rv,shD] at h ⊢;obtain ⟨l,r,h1,h2,h3⟩:=h;exact ⟨l,r,h1,lB hβ hc ht h2,lB hβ hc ht h3⟩
 | .pV t x,v,h=>by
  simp only [Rv,shD] at h ⊢;obtain ⟨z,h1,h2⟩:=h;exact ⟨z,h1,sK hβ hc ht h2⟩
theorem lB {m:Nat} {E2 E:En} (hβ:E2.β=[]) (hc:E.c=E2.c) (ht:∀ (k:Nat) q,E2.tk[k]? = some q->E.tk[m + k]? = some q/\E.τ[m + k]? = E2.τ[k]?):∀ {l:List DV} {vs:List Value},RvL E2 l vs->RvL E (shL m l) vs
 | [],vs,h=>by simpa only [RvL,shL] using h
 | d :: r,vs,h=>by
  simp only [RvL,shL] at h ⊢;obtain ⟨v,s,h1,h2,h3⟩:=h;exact ⟨v,s,h1,sK hβ hc ht h2,lB hβ hc ht h3⟩
end
section
variable {X:Ctx} {st:St} {k:List It} {E:En} {a:Act} {w:World}
theorem Ix (h:Rel X E st a w) (aW:X.still=false) {E2:En} {w':World} (hm:pW (E.cl).S w w') (he:Env E2 [] w') (hn:Nw E.cl E2 w):Rel X ⟨E2.c,E.β,E.tk ++ E2.tk,E.τ ++ E2.τ⟩ ⟨st.sl,st.bx,st.tk ++ E2.tk⟩ a w':=by
 have hq:=zg h aW hm he hn;have X2:∀ (j:Nat) y g,E2.τ[j]? = some y->y.ownBlock=some g->w.heap.size<=g:=fun j y g hy hg=>hn.tn j y g (Nat.zero_le _) hy hg;have hold:∀ (k:Nat) y g,E.τ[k]? = some y->y.ownBlock=some g->g < w.heap.size:=fun k y g hy hg=>(h.env.own (mG hy) hg).1;have gl:E.τ.length=E.tk.length:=h.env.tl
 have hτ:∀ (k:Nat) y,(E.τ ++ E2.τ)[k]? = some y->(k < E.τ.length/\E.τ[k]? = some y)∨(E.τ.length<=k/\E2.τ[k - E.τ.length]? = some y):=fun k y hy=>by
  rw [List.getElem?_append] at hy;split at hy
  ·rename_i hk;exact .inl ⟨hk,hy⟩
  ·rename_i hk;exact .inr ⟨by omega,hy⟩
 have hx:Ext ⟨E2.c,E.β,E.tk,E.τ⟩ ⟨E2.c,E.β,E.tk ++ E2.tk,E.τ ++ E2.τ⟩:=⟨fun _ _ h=>h,fun _ _ h=>h,fun j q hj=>by
  have hj:E.tk[j]? = some q:=hj;have au:=(gS hj).1;refine ⟨q,by show (E.tk ++ _)[j]? = _;rw [dC au];exact hj,.inl ⟨rfl,?_⟩⟩;show (E.τ ++ _)[j]? = _
  rw [dC (by rw [gl];exact au)]⟩
 refine dw hq hx ?_ (by show E.tk ++ _=_;rw [h.tk]) ?_ hq.fr (mM aW) hq.bt
 ·exact {
   len:=h.env.len
   tl:=by show (E.τ ++ _).length=(E.tk ++ _).length;simp [gl,he.tl]
   bxs:=fun i cs hi=>by
    obtain ⟨b,t,arr,hb,hw,hc⟩:=hq.env.bxs i cs hi;exact ⟨b,t,arr,hb,hw,hc.mono hx⟩
   inj:=h.env.inj
   sub:=he.sub
   pc:=hq.env.pc
   bY:=fun j q y O3 hy=>by
    have O3:(E.tk ++ E2.tk)[j]? = some q:=O3;rcases hτ j y hy with ⟨au,fG⟩ | ⟨fF,fG⟩
    ·rw [dC (by rw [<- gl];exact au)] at O3;exact hq.env.bY j q y O3 fG
    ·rw [List.getElem?_append_right (by rw [<- gl];exact fF),<- gl] at O3;rcases he.bY _ q y O3 fG with h1 | ⟨g,cap,cur,rfl,h1,h2,h3,h4,_,h6⟩
     ·exact .inl h1
     ·refine .inr ⟨g,cap,cur,rfl,h1,h2,h3,h4,fun rL=>?_,h6⟩;have:=X2 _ _ g fG rfl;have:=h.env.bi rL;omega
   ji:=fun i j y y' g za hy fG hg ta=>by
    rcases hτ i y hy with ⟨_,h1⟩ | ⟨h0,h1⟩
    ·rcases hτ j y' fG with ⟨_,h2⟩ | ⟨_,h2⟩
     ·exact h.env.ji i j y y' g za h1 h2 hg ta
     ·have:=hold i y g h1 hg;have:=X2 _ y' g h2 ta;omega
    ·rcases hτ j y' fG with ⟨_,h2⟩ | ⟨h00,h2⟩
     ·have:=hold j y' g h2 ta;have:=X2 _ y g h1 hg;omega
     ·exact he.ji _ _ y y' g (by omega) h1 h2 hg ta }
 ·exact {
   c:=hq.nw.c
   cn:=hq.nw.cn
   β:=h.nw.β
   tk:=fun j q0 y0 A3 Dd=>by
    obtain ⟨q',y',h1,h2,h3⟩:=h.nw.tk j q0 y0 A3 Dd;exact ⟨q',y',by show (E.tk ++ _)[j]? = _;rw [dC (gS h1).1];exact h1,by show (E.τ ++ _)[j]? = _;rw [dC (gS h2).1];exact h2,h3⟩
   tn:=fun j y g hj hy hg=>by
    rcases hτ j y hy with ⟨_,h1⟩ | ⟨_,h1⟩
    ·exact h.nw.tn j y g hj h1 hg
    ·exact Nat.le_trans h.fr.size (X2 _ y g h1 hg)
   l0:=h.nw.l0 }
theorem Ta {P:Program} (h:Rel X E st a w) (aW:X.still=false) {f:FuncId} {args bo:List DV} {vs:List Value} {Φ:DV->List (List DV)->List TkE->Prop} (hc:EvF P f bo [] [] Φ) (ha:CcL [] 0 0 0 bo args) (hv:RvL E args vs) :
  Calls P f vs.toArray w fun e w'=>∃ v E' d bY,e = .returned v/\Rel X E' ⟨st.sl,st.bx,st.tk ++ bY⟩ a w' /\ Rv E' (shD st.tk.length d) v/\Φ d [] bY/\pW E.cl.S w w' /\ Ext E E' /\ E'.β=E.β:=by
 have Vz:RvL E.cl bo vs:=CcL.sound (E:=E) (E':=E.cl) ⟨fun _ _ h=>h,fun i cs _ hi=>by simp at hi⟩ (Jm.zero _ _) ha hv;refine (hc E.cl w vs (Nk h.env) rfl Vz).mono ?_;rintro e w' ⟨v,rfl,hm,_,d,os,E2,he,hβ,_,hn,RK,hΦ⟩;have hβ:E2.β=[]:=hβ
 have A7:os=[]:=by
  have:=he.len;rw [hβ] at this;exact List.eq_nil_of_length_eq_zero this.symm
 subst A7;have gl:E.τ.length=E.tk.length:=h.env.tl
 have hx:Ext E ⟨E2.c,E.β,E.tk ++ E2.tk,E.τ ++ E2.τ⟩:=⟨hn.c,fun _ _ h=>h,fun j q hj=>by
  have au:=(gS hj).1;refine ⟨q,by show (E.tk ++ _)[j]? = _;rw [dC au];exact hj,.inl ⟨rfl,?_⟩⟩;show (E.τ ++ _)[j]? = _
  rw [dC (by rw [gl];exact au)]⟩
 refine ⟨v,_,d,E2.tk,rfl,Ix h aW hm he hn,sK (E2:=E2) (E:=⟨E2.c,E.β,E.tk ++ E2.tk,E.τ ++ E2.τ⟩) (m:=st.tk.length) hβ rfl (fun k q hq=>?_) RK,hΦ,hm,hx,rfl⟩;rw [<- h.tk];constructor
 ·show (E.tk ++ E2.tk)[_]? = _;rw [List.getElem?_append_right (by omega)];simpa using hq
 ·show (E.τ ++ E2.τ)[_]? = _;rw [List.getElem?_append_right (by omega),gl];simp
theorem Kv {D:Dr} {c:Bool} {i:Nat} {s0:List (Nat × Sl)} {f:FuncId} {args bo:List DV} {d:Nat} {r:List (Nat × Oper)} (ki:Enters X.P f) (hd:(ez X.nt st.sl (some d) && ez X.nt s0 (some d))=true) {Φ:DV->List (List DV)->List TkE->Prop} (hc:EvF X.P f bo [] [] Φ) (ha:CcL [] 0 0 0 bo args)
  (hk:∀ yA bY,Φ yA [] bY->put2 s0 ⟨st.sl,st.bx,st.tk ++ bY⟩ (some d) false [] (shD st.tk.length yA) (goD X D 3000 c r)) (aW:X.still=false:=by exact rfl):vA X D c i r f args (some d) s0 st:=by
 refine ⟨ki,fun hl E0 wr hD E a w vs h hv=>(Ta h.rel aW hc ha hv).mono ?_⟩;rintro e w' ⟨v,E',yA,bY,rfl,cf,hr,hΦ,hm,hx,hβ⟩
 have hh:∀ b,b < w.heap.size->w'.heap[b]? = w.heap[b]?:=fun b hb=>hm.block b hb (by
  rintro (h1 | ⟨y,h1,_⟩)
  ·simp [En.cl] at h1
  ·simp [En.cl] at h1)
 have hs:Stp none E w E' w':=⟨hx,⟨[],by rw [hβ];simp⟩,fun j b hb _=>hh b (h.rel.env.bi (mG hb))⟩;have hC:=DH h hs cf (fun j hj=>by cases hj);refine ⟨v,rfl,fun _=>hC,?_⟩;have DI:gp X ⟨D,E0,wr⟩ c E' s0 ⟨st.sl,st.bx,st.tk ++ bY⟩ (a.put none v) w':=qm h hs cf (fun h1=>hC (h.cc h1)) (fun i x hx=>.inr ⟨hx,fun d hd=>by cases hd⟩) rfl;obtain ⟨s1,rA,pQ,ep⟩:=iY DI hd false [] _ v (fun _ _ p hp=>by cases hp) (fun _=>hr) (fun hb=>by cases hb) (fun hn=>(hn (bg _)).elim) (hk yA bY hΦ);exact gG (D:=⟨D,E0,wr⟩) hD 3000 c r _ _ pQ hl E' _ w' ep
end
end Dv
end Go.Proofs.YtgjagnmeonoehaaGreat
namespace Go.Proofs.YtgjagnmeonoehaaGreat
namespace Dv
open Go Go.RowKit
section
variable {X:Ctx} {st:St} {k:List It} {E:En} {a:Act} {w:World}
theorem Cn (h:Rel X E st a w) {es:List (List DV)} {cs:List DV} {kt m ux e:Nat} {v:Value} (hv:Rv E (.sl 0 es (some kt)) v) (hq:st.tk[kt]? = some ⟨m,ux,e,some cs⟩) (gL:es.length=m) (hm:0 < m) :
  ∃ g cap,∃ cur:Array Value,v = .slice (some ⟨g,0,none⟩) m cap/\E.tk[kt]? = some ⟨m,ux,e,some cs⟩/\E.τ[kt]? = some v/\w.heap[g]? = some (.cells cur ux (0,0))/\cur.size=cap * e/\cs.length=m * e/\RvC E.cl cs (cur.toList.take (m * e))/\m<=cap/\cap<=maxLen/\g ∉ E.β/\∀ x u,E.c x=some u->x.block=g->x.off < 0:=by
 unfold Rv at hv;obtain ⟨bs,ns,kY,e1,⟨uq,Nc⟩,Rb,vj⟩:=hv;subst uq;obtain ⟨q',kX,_,VO⟩:=vj kt rfl;have jB:E.tk[kt]? = some ⟨m,ux,e,some cs⟩:=by rw [h.tk];exact hq
 rw [jB] at kX;simp only [oI] at kX;subst kX;have hy:=VO gL;rcases h.env.bY kt _ _ jB hy with ⟨_,oH,_⟩ | ⟨g,cap,cur,n5,hw0,⟨vm,Dl⟩,vo,yH,gM,Dm⟩
 ·simp only at oH;omega
 obtain ⟨h5,h6⟩:=Dl cs rfl;exact ⟨g,cap,cur,n5,jB,hy,hw0,vm,h5,h6,vo,yH,gM,Dm⟩
theorem Kw {o1:Oper} {t et e jh nn m g cap:Nat} {bb:Bool} {zz:List Value} {z:Int} {kd:IntKind} {s ix:Operand} (h1:o1.op = .indexAddr t s ix) (e1:a.eval s = .slice (some ⟨g,0,none⟩) m cap) (e2:a.eval ix = .int kd z)
  (hT:X.T.find t=some ⟨nn,bb,.sl et e jh,zz⟩) (hz:0<=z/\z < m) (w:World):(execOp a.eval o1).run X.P w = .ok (.value (.pointer (some ⟨g,z.toNat * e,none⟩))) w:=by
 obtain ⟨hu,ii,zv,yv,_,Lt,_,_⟩:=eA X.hT hT;have mO:iy X.P et=some e:=by rw [fC yv,Lt]
 have cd:(Instr.indexAt t (.slice (some ⟨g,0,none⟩) m cap) (.int kd z)).run X.P w = .ok (.pointer (some ⟨g,z.toNat * e,none⟩)) w:=by
  simp [Instr.indexAt,asIntOf,run_underlying hu,hz.1,hz.2,aM mO,Addr.add_lit]
 simp only [execOp,h1,e1,e2,Sem.run_bind,cd,Result.andThen_ok,Sem.run_pure]
theorem Tb {o2:Oper} {d1 kt ty e m ux:Nat} {z:Int} {es:List (List DV)} {cs cs':List DV} {v:Value} {x:Operand} {dv:DV} {g cap:Nat}
  (hr1:Rel X E st a w) (h2:o2.op = .store ty (.tmp d1) x) (ht1:a.eval (.tmp d1) = .pointer (some ⟨g,z.toNat * e,none⟩)) (hv:Rv E (.sl 0 es (some kt)) v) (hvg:v = .slice (some ⟨g,0,none⟩) m cap)
  (hx:rv st [] x=some dv) (hdv:eraL dv.cells (fun l=>some l)=some cs') (Ri:dv.cells.length=e) (he0:0 < e)
  (bZ:X.T.sz ty=some e) (hq:st.tk[kt]? = some ⟨m,ux,e,some cs⟩) (gL:es.length=m) (hz:0<=z/\z < m) (aW:X.still=false) :
  ∃ w' E',(execOp a.eval o2).run X.P w = .ok .skip w' /\ Rel X E' ⟨st.sl,st.bx,st.tk.set kt ⟨m,ux,e,some (cs.take (z.toNat * e) ++ cs' ++ cs.drop (z.toNat * e + e))⟩⟩ a w':=by
 obtain ⟨g',kY,cur,e1,jB,hy,hw0,vm,h5,h6,vo,yH,gM,Dm⟩:=Cn hr1 hv hq gL (by omega);rw [hvg] at e1;injection e1 with i1 i2 i3
 injection i1 with i1
 injection i1 with i1
 subst i1 i3;rw [hvg] at hy;have e3:=aR hr1.rl hx;have jH:RvC E dv.cells (a.eval x).cells.toList:=e3.cells (iz (n:=e) Ri (by omega));have uJ:(a.eval x).cells.toList.length=e:=by rw [jH.1.length];exact Ri
 obtain ⟨l',Dp,hx1,_⟩:=oW hdv jH;simp only [oI] at Dp;rw [Dp] at hx1;have hme:m * e<=cap * e:=Nat.mul_le_mul_right _ vo
 have jX:z.toNat * e + e<=m * e:=by
  have:(z.toNat + 1) * e<=m * e:=Nat.mul_le_mul_right _ (by omega);rw [Nat.add_mul] at this;omega
 have UN:cur.toList.length=cap * e:=sU vm;have TP:=jz (P:=X.P) (t:=ty) (off:=z.toNat * e) (n:=e) hw0 (C9 X.hT bZ) uJ (by rw [vm];omega) (List.all_eq_true.2 jH.2);generalize hN:cur.toList.take (z.toNat * e) ++ (a.eval x).cells.toList ++ cur.toList.drop (z.toNat * e + e)=N at TP;have hNl:N.length=cap * e:=by grind
 have hNt:N.take (m * e)=(cur.toList.take (m * e)).take (z.toNat * e) ++ (a.eval x).cells.toList ++ (cur.toList.take (m * e)).drop (z.toNat * e + e):=by
  subst hN;rw [List.take_append,List.take_append,List.take_take,List.take_take];have h1:(cur.toList.take (z.toNat * e)).length=z.toNat * e:=by rw [zLenT];omega
  rw [List.length_append,h1,uJ,Nat.min_eq_right (by omega),Nat.min_eq_left (by omega),List.take_of_length_le (l:=(a.eval x).cells.toList) (by rw [uJ];omega),List.drop_take]
 have MG:C6 (World.cK w g (.cells N.toArray ux (0,0))) E.c E.β ⟨m,ux,e,some (cs.take (z.toNat * e) ++ cs' ++ cs.drop (z.toNat * e + e))⟩ (.slice (some ⟨g,0,none⟩) m cap):=by
  refine .inr ⟨g,cap,_,rfl,dA hw0,⟨by simpa using hNl,fun rB Ji=>?_⟩,vo,yH,gM,Dm⟩;simp only [oI] at Ji;subst Ji;simp only;have h8:=((RvC.take (z.toNat * e) h6).append hx1).append (RvC.drop (z.toNat * e + e) h6);rw [<- hNt] at h8;have hl8:=h8.1.length;refine ⟨?_,by show RvC E.cl _ (N.toArray.toList.take (m * e));simpa using h8⟩;rw [<- hl8,zLenT,hNl];omega
 obtain ⟨cf,_⟩:=A6 (q':=⟨m,ux,e,some (cs.take (z.toNat * e) ++ cs' ++ cs.drop (z.toNat * e + e))⟩) (w':=World.cK w g (.cells N.toArray ux (0,0))) hr1 aW jB hy rfl rfl rfl (.inl ⟨rfl,rfl⟩) MG (.inl rfl) rfl rfl rfl (by rw [fh];exact aQ _) (fun j _ bf=>b9 (by
  rintro rfl
  exact bf rfl))
 refine ⟨_,_,?_,cf⟩;simp only [execOp,h2,ht1,Instr.storeAt,Instr.sureAddr,Sem.run_bind,Sem.run_pure,Result.andThen_ok,TP]
end
end Dv
end Go.Proofs.YtgjagnmeonoehaaGreat
set_option maxRecDepth 100000
namespace Go.Proofs
open Go.Shelf
def Tryz.laysB_ren:Go.Shelf.Ren:=⟨fun | 240=>149 | 276=>217 | n=>n,fun | 9=>9 | 4=>4 | 0=>0 | 20=>20 | 72=>160 | 70=>157 | 37=>158 | 164=>316 | 5=>5 | n=>n,fun | n=>n⟩
theorem Tryz.laysB:Go.Proofs.Lays.n240 Tryz.prog Tryz.laysB_ren:={
 mixed:=by kernel_rfl
 f240:=Tryz.func149.trans (congrArg some (by kernel_rfl))
 f276:=Tryz.func217.trans (congrArg some (by kernel_rfl))
 t0:=Tryz.underlying0
 a0:=Tryz.isAgg0
 z0:=Tryz.sizeOf0
 v0:=Tryz.zeroValue0
 t4:=Tryz.underlying4
 a4:=Tryz.isAgg4
 z4:=Tryz.sizeOf4
 v4:=Tryz.zeroValue4
 t9:=Tryz.underlying9
 a9:=Tryz.isAgg9
 z9:=Tryz.sizeOf9
 v9:=Tryz.zeroValue9
 t20:=Tryz.underlying20
 a20:=Tryz.isAgg20
 z20:=Tryz.sizeOf20
 v20:=Tryz.zeroValue20
 t70:=Tryz.underlying157
 a70:=Tryz.isAgg157
 z70:=Tryz.sizeOf157
 v70:=Tryz.zeroValue157
 t72:=Tryz.underlying160
 a72:=Tryz.isAgg160
 z72:=Tryz.sizeOf160
 v72:=Tryz.zeroValue160
 t164:=Tryz.underlying316
 a164:=Tryz.isAgg316
 z164:=Tryz.sizeOf316
 v164:=Tryz.zeroValue316 }
theorem Tryz.laysBX:Builder.Extra Tryz.prog Tryz.laysB_ren:={
 sizeBuilder:=by kernel_rfl
 liesBuilder:=by kernel_rfl
 t5:=Tryz.underlying5
 a5:=Tryz.isAgg5
 z5:=Tryz.sizeOf5
 v5:=Tryz.zeroValue5
 infoByte:=by kernel_rfl
 cellsByte:=by kernel_rfl
 sizeByte:=by kernel_rfl
 neB5:=by decide }
end Go.Proofs
set_option maxRecDepth 100000
namespace Go.Proofs.YtgjagnmeonoehaaGreat
open Go Go.RowKit Go.Lib Dv Go.Proofs.Tryz
theorem mz {P:Program} (w:World) (t u ty e:TypeId) (i:TypeInfo) (ht:P.underlying t=some (.slice e)) (hu:P.underlying u=some .string) (hi:P.info? e=some i) (hz:i.zero=some (.int .u8 0))
  (jR:i.size=1) (uc:i.bytes=1) (v:Value) (n:Nat) (xs:List Value) (dc:w.ownsRow 0 e 1 v n xs) (s:ByteArray) (MC:n + s.size<=maxLen) (jS:n + s.size<=140737488355328) (hs:0 < s.size) :
  ∃ g cap w',(Builtin.append_ #[t,u] ty #[v,.string s]).run P w = .ok (.slice (some ⟨g,0,none⟩) (n + s.size) cap) w' /\ w'.ownsRow 0 e 1 (.slice (some ⟨g,0,none⟩) (n + s.size) cap) (n + s.size) (xs ++ strCells s)/\w.grownBy w' v.ownBlock /\
   ((v.ownBlock=some g)∨(w.heap.size<=g/\∀ k,k < w.heap.size->w'.heap[k]? = w.heap[k]?)):=by
 obtain ⟨v',w',hr,h2,h3,h4⟩:=Lib.run_append_own_string (P:=P) w 0 t u ty e i ht hu hi hz jR uc v n xs dc s MC jS (Nat.zero_le _);have MW:n + s.size<=9223372036854775807:=by simp only [maxLen] at MC;omega
 have yx:xs.length=n:=by simpa using dc.1
 rcases dc.2 with ⟨rfl,rfl⟩ | ⟨g,cap,cur,rfl,hbg,hg,ue,hcm,hcs,htake⟩
 ·have hr2:=run_append_nil_string (P:=P) w t u ty e i (.int .u8 0) ht hu hi hz s hs (by omega) (by rw [uc];omega);rw [hr2] at hr;injection hr with e1 e2
  subst e1;simp only [Nat.zero_add] at *;exact ⟨_,_,w',by rw [hr2,e2],h2,h3,.inr ⟨aQ _,fun k hk=>by rw [<- e2];exact Below.heap_alloc w.drew _ k hk⟩⟩
 ·by_cases I9:n + s.size<=cap
  ·have hcs':cur.size=cap:=sU hcs;have hr2:=Lib.run_append_room_string (P:=P) w t u ty e i ht hu hi jR g n cap cur hg s I9 (by omega);rw [hr2] at hr;injection hr with e1 e2
   subst e1;exact ⟨_,_,w',by rw [hr2,e2],h2,h3,.inl rfl⟩
  ·have holds:∀ j u,xs[j]? = some u->w.cell? ((⟨g,0,none⟩:Addr).add j)=some u:=dc.cells (g:=g) rfl;have hr2:=Lib.run_append_grow_string (P:=P) w t u ty e i (.int .u8 0) ht hu hi hz ⟨g,0,none⟩ n cap xs (by rw [jR];simpa using yx) holds s (by omega) (by omega) (by rw [uc];exact growslice_fits (by omega) (by omega));rw [hr2] at hr;injection hr with e1 e2
   subst e1;exact ⟨_,_,w',by rw [hr2,e2],h2,h3,.inr ⟨aQ _,fun k hk=>by rw [<- e2];exact Below.heap_alloc w.drew _ k hk⟩⟩
theorem tN {w:World} {b:Nat} {o:Obj} (h:w.heap[b]? = some o):World.cK w b o=w:=by
 obtain ⟨hb,hg⟩:=Array.getElem?_eq_some_iff.1 h;have e:w.heap.setIfInBounds b o=w.heap:=by grind
 show { w with heap:=w.heap.setIfInBounds b o }=w;rw [e]
abbrev iO (w:World) (b:Nat) (v:Value):World:=World.cK w b (.cells #[.pointer (some ⟨b,0,none⟩),v] 160 (0,0))
theorem xZ (b:Nat) (p v:Value) (w:World) (hp:p = .pointer none∨p = .pointer (some ⟨b,0,none⟩)) (nu:w.heap[b]? = some (.cells #[p,v] 160 (0,0))) :
  Calls prog 149 #[.pointer (some ⟨b,0,none⟩)] w fun e w'=>e = .returned (.tuple #[])/\w'=iO w b v:=by
 rcases hp with rfl | rfl
 ·refine (Any.Builder_copyCheck_fresh Tryz.laysB Tryz.laysBX.toX72 b w (by rw [Lib.cell_of_heap nu];rfl) (by simp [World.shape?,nu,Tryz.laysB_ren]) (by simp [World.frozen?,nu])).mono ?_;rintro e w' ⟨rfl,rfl⟩;exact ⟨rfl,by rw [fi nu];rfl⟩
 ·refine (Any.Builder_copyCheck_used Tryz.laysB Tryz.laysBX.toX72 b w (by rw [Lib.cell_of_heap nu];rfl)).mono ?_;rintro e w' ⟨rfl,rfl⟩;exact ⟨rfl,(tN nu).symm⟩
theorem pH {P:Program} {w:World} {ops:Array Oper} {rest:List Oper} {o:Oper} {a:Act} {Q:Exit->Act->World->Prop} (MK:o.guard=none) (sl x:Operand) (t u:TypeId)
  (ho:o.op = .call { callee:=.builtin .append,args:=#[sl,x],argTypes:=#[t,u] })
  (e:TypeId) (i:TypeInfo) (ht:P.underlying t=some (.slice e)) (hu:P.underlying u=some .string) (hi:P.info? e=some i) (hz:i.zero=some (.int .u8 0))
  (jR:i.size=1) (uc:i.bytes=1)
  (v:Value) (n:Nat) (xs:List Value) (hs:a.eval sl=v) (dc:w.ownsRow 0 e 1 v n xs) (s:ByteArray) (hx:a.eval x = .string s)
  (MC:n + s.size<=maxLen) (jS:n + s.size<=140737488355328) (jX:0 < s.size)
  (h:∀ g cap w',w'.ownsRow 0 e 1 (.slice (some ⟨g,0,none⟩) (n + s.size) cap) (n + s.size) (xs ++ strCells s)->w.grownBy w' v.ownBlock->((v.ownBlock=some g)∨(w.heap.size<=g/\∀ k,k < w.heap.size->w'.heap[k]? = w.heap[k]?)) ->
   wpList P ops Q rest (a.put o.dst (.slice (some ⟨g,0,none⟩) (n + s.size) cap)) w'):wpList P ops Q (o :: rest) a w:=by
 refine wpList_plain MK fun K hK=>?_;obtain ⟨g,cap,w',hr,h2,h3,h4⟩:=mz (P:=P) w t u o.type e i ht hu hi hz jR uc v n xs dc s MC jS jX;unfold Oper.wp execOp;simp only [ho,resolve,invoke,builtin,Sem.run_bind,Sem.run_pure,Result.andThen_ok,List.map_toArray,List.map_cons,List.map_nil,hs,hx,hr];exact hK _ _ (h g cap w' h2 h3 h4)
def Iy (ret:Value) (w:World) (b:Nat) (v:Value) (n:Nat) (xs:List Value) (s:ByteArray) (e:Ending) (w':World):Prop:=
 e = .returned ret/\∃ g cap w2,w2.ownsRow 0 5 1 (.slice (some ⟨g,0,none⟩) (n + s.size) cap) (n + s.size) (xs ++ strCells s)/\(iO w b v).grownBy w2 v.ownBlock /\
  ((v.ownBlock=some g)∨((iO w b v).heap.size<=g/\∀ k,k < (iO w b v).heap.size->w2.heap[k]? = (iO w b v).heap[k]?)) /\
  w'=World.cK w2 b (.cells #[.pointer (some ⟨b,0,none⟩),.slice (some ⟨g,0,none⟩) (n + s.size) cap] 160 (0,0))
theorem Co {w:World} {b e n:Nat} {v:Value} {xs:List Value} {o:Obj} (h:w.ownsRow 0 e 1 v n xs) (bf:v.ownBlock≠some b):(World.cK w b o).ownsRow 0 e 1 v n xs:=by
 refine ⟨h.1,?_⟩;rcases h.2 with h | ⟨g,cap,cur,rfl,h1,h2,h3⟩
 ·exact .inl h
 ·refine .inr ⟨g,cap,cur,rfl,h1,?_,h3⟩;rw [b9]
  ·exact h2
  ·rintro rfl;exact bf rfl
set_option maxHeartbeats 2000000 in
theorem Xx (b:Nat) (p v:Value) (n:Nat) (xs:List Value) (s:ByteArray) (w:World) (hp:p = .pointer none∨p = .pointer (some ⟨b,0,none⟩)) (nu:w.heap[b]? = some (.cells #[p,v] 160 (0,0)))
  (dc:w.ownsRow 0 5 1 v n xs) (bf:v.ownBlock≠some b) (hs:0 < s.size) (hlen:n + s.size<=140737488355328) :
  Calls prog 74 #[.pointer (some ⟨b,0,none⟩),.string s] w (Iy (.tuple #[.int .i64 s.size,.nilIface]) w b v n xs s):=by
 obtain ⟨i0,hi,hz0,hz1,Yd⟩:=info_parts Tryz.laysBX.infoByte
 go_enter func74,ntmps74
 go_wp2_with (go_at_call 149;refine (xZ b p v _ hp nu).mono ?_)
 rintro e w1 ⟨rfl,rfl⟩;have iD:(iO w b v).heap[b]? = some (.cells #[.pointer (some ⟨b,0,none⟩),v] 160 (0,0)):=dA nu;have FH:(iO w b v).ownsRow 0 5 1 v n xs:=Co dc bf;have c0:(iO w b v).cell? ⟨b,0,none⟩=some (.pointer (some ⟨b,0,none⟩)):=by rw [Lib.cell_of_heap iD];all_goals rfl
 have c1:(iO w b v).cell? ⟨b,1,none⟩=some v:=by rw [Lib.cell_of_heap iD];all_goals rfl
 have au:b < (iO w b v).heap.size:=cL iD;obtain ⟨W1,Ql⟩:∃ W1,W1=iO w b v:=⟨_,rfl⟩;rw [<- Ql] at iD FH c0 c1 au ⊢;have HW:=Lib.hid Ql;clear Ql
 go_wp2_with (at_builtin;refine pH rfl _ _ 158 9 rfl 5 i0 Tryz.underlying158 Tryz.underlying9 hi hz0 hz1 Yd _ _ _ rfl FH s rfl ?c3 ?c4 hs ?_)
 case c3=>unfold maxLen;omega
 case c4=>omega
 intro g cap w2 Qm mI Dc
 have gF:w2.heap[b]? = some (.cells #[.pointer (some ⟨b,0,none⟩),v] 160 (0,0)):=by
  rw [mI.block b au (fun e=>bf e.symm)];exact iD
 have d0:w2.cell? ⟨b,0,none⟩=some (.pointer (some ⟨b,0,none⟩)):=by rw [Lib.cell_of_heap gF];all_goals rfl
 have d1:w2.cell? ⟨b,1,none⟩=some v:=by rw [Lib.cell_of_heap gF];all_goals rfl
 have f1:w2.frozen? ⟨b,1,none⟩=false:=Lib.frozen_of_heap gF 1
 go_wp2
 go_ret2
 refine ⟨rfl,g,cap,w2,Qm,by rw [<- HW.out];exact mI,by rw [<- HW.out];exact Dc,?_⟩;rw [fi gF];rfl
set_option maxHeartbeats 1000000 in
theorem Xy (b g cap:Nat) (p:Value) (l:List UInt8) (cur:Array Value) (w:World) (h0:l ≠ []) (nu:w.heap[b]? = some (.cells #[p,.slice (some ⟨g,0,none⟩) l.length cap] 160 (0,0)))
  (hg:w.heap[g]? = some (.cells cur 5 (0,0))) (ue:l.length<=cap) (hcm:cap<=maxLen) (hcs:cur.size=cap * 1) (htake:cur.toList.take (l.length * 1)=Lib.byteCells l) :
  Calls prog 76 #[.pointer (some ⟨b,0,none⟩)] w fun e w'=>e = .returned (.string ⟨l.toArray⟩)/\w'=w.drew.freeze ⟨g,0,none⟩ l.length:=by
 have CY:l.length≠0:=sU h0;have dc:w.ownsRow 0 5 1 (.slice (some ⟨g,0,none⟩) l.length cap) l.length (Lib.byteCells l):=⟨by rw [Lib.byteCells_length,Nat.mul_one],.inr ⟨g,cap,cur,rfl,Nat.zero_le _,hg,ue,hcm,hcs,htake⟩⟩
 have c1:w.drew.cell? ⟨b,1,none⟩=some (.slice (some ⟨g,0,none⟩) l.length cap):=by
  have:w.drew.heap[b]? = some (.cells #[p,.slice (some ⟨g,0,none⟩) l.length cap] 160 (0,0)):=nu;rw [Lib.cell_of_heap this];all_goals rfl
 have hSD:(Builtin.unsafeSliceData_ #[158] 258 #[.slice (some ⟨g,0,none⟩) l.length cap]).run prog w.drew = .ok (.pointer (some ⟨g,0,none⟩)) w.drew:=
  Lib.run_unsafeSliceData_row _ _ _ _ _ _ (by omega)
 have hUS:(Builtin.unsafeString_ #[258,3] 9 #[.pointer (some ⟨g,0,none⟩),.int .i64 l.length]).run prog w.drew = .ok (.string ⟨l.toArray⟩) (w.drew.freeze ⟨g,0,none⟩ l.length):=by
  refine Lib.run_unsafeString_row w.drew 258 3 9 5 Tryz.underlying258 (by kernel_rfl) g cur.size (by have ta:w.drew.heap[g]? = some (.cells cur 5 (0,0)):=hg;simp [World.shape?,ta]) l h0 (by omega) (by unfold maxLen at hcm;omega) ?_;intro j x hx;have:=dc.cells (g:=g) rfl j (.int .u8 x.toNat) (by simp [Lib.byteCells,hx]);exact this
 clear dc htake hcs hg;have mixed:=mo
 go_enter func76,ntmps76
 go_wp2
 go_region_o
 all_goals (go_wp2;go_ret;exact ⟨rfl,rfl⟩)
end Go.Proofs.YtgjagnmeonoehaaGreat
set_option maxRecDepth 100000
namespace Go.Proofs.YtgjagnmeonoehaaGreat
open Go Go.RowKit Dv Go.Proofs.Tryz
def bD (l:List UInt8):List (List DV):=l.map fun c=>[DV.v (.int .u8 c.toNat)]
theorem sL (l:List UInt8):(bD l).length=l.length:=by simp [bD]
theorem Qn {E:En}:∀ l:List UInt8,RvC E (bD l).flatten (Lib.byteCells l)
 | []=>⟨cA _,by simp [Lib.byteCells]⟩
 | c :: r=>by
  obtain ⟨h1,h2⟩:=Qn (E:=E) r;refine ⟨?_,fun v hv=>?_⟩
  ·simp only [bD,List.map_cons,List.flatten_cons,List.cons_append,List.nil_append,Lib.byteCells];exact rvL_cons (by unfold Rv;exact ⟨rfl,rfl⟩) h1
  ·simp only [Lib.byteCells,List.map_cons,List.mem_cons] at hv;rcases hv with rfl | hv
   ·rfl
   ·exact h2 v hv
theorem Kx {E:En}:∀ {l:List UInt8} {arr:List Value},RvL E (bD l).flatten arr->arr=Lib.byteCells l
 | [],arr,h=>by simpa [bD,RvL,Lib.byteCells] using h
 | c :: r,arr,h=>by
  simp only [bD,List.map_cons,List.flatten_cons,List.cons_append,List.nil_append,RvL] at h;obtain ⟨v,s,rfl,h1,h2⟩:=h;unfold Rv at h1;rw [h1.1,Kx (l:=r) h2];rfl
theorem strCells_eq (s:ByteArray):Lib.strCells s=Lib.byteCells s.data.toList:=rfl
theorem Iz {X:Ctx} {E:En} {st:St} {a:Act} {w:World} (h:Rel X E st a w) {kt:Nat} {l:List UInt8} {cv:Value} (hl:l ≠ []) (ig:st.tk[kt]? = some ⟨l.length,5,1,none⟩) (hv:Rv E (.sl 1 (bD l) (some kt)) cv) :
  ∃ g cap cur,cv = .slice (some ⟨g,0,none⟩) l.length cap/\w.heap[g]? = some (.cells cur 5 (0,0))/\l.length<=cap/\cap<=maxLen/\cur.size=cap * 1/\cur.toList.take (l.length * 1)=Lib.byteCells l/\g ∉ E.β/\E.τ[kt]? = some cv:=by
 have bf:bD l ≠ []:=by grind [sL]
 have jX:0 < l.length:=List.length_pos_iff.2 hl;unfold Rv at hv;obtain ⟨bs,ns,kY,rfl,⟨rfl,Nc⟩,Rb,vj⟩:=hv;rw [sL] at Nc;obtain ⟨q,hq,_,hτ⟩:=vj kt rfl;rw [h.tk,ig] at hq;simp only [oI] at hq;subst hq;have hy:=hτ (sL l);rcases h.env.bY kt _ _ (by rw [h.tk];exact ig) hy with ⟨n5,oH⟩ | ⟨g,cap,cur,n5,hw0,vm,ue,hcm,gM,Dm⟩
 ·simp only at oH;omega
 ·injection n5 with i1 i2 i3
  subst i1 i3;refine ⟨g,kY,cur,by rw [sL],hw0,ue,hcm,vm.1,?_,gM,by rw [hy]⟩;obtain ⟨_,RF⟩:=Rb bf;obtain ⟨KU,iD,gF,MI⟩:=RF.uf;have ha:=Kx iD.1;subst ha;apply List.ext_getElem?;intro j;rw [sL] at gF;rcases Nat.lt_or_ge j (Lib.byteCells l).length with hj | hj
  ·have h5:=h.env.sub _ _ (MI j _ (gE hj));simp only [ab,ao,Nat.zero_add] at h5;rw [cm hw0] at h5;rw [cx,ap (by omega),gE hj];simpa using h5
  ·grind
theorem Tc {X:Ctx} {E:En} {st:St} {a:Act} {w:World} (h:Rel X E st a w) {kt:Nat} {l:List UInt8} {cv:Value} (ig:st.tk[kt]? = some ⟨l.length,5,1,none⟩) (hv:Rv E (.sl 1 (bD l) (some kt)) cv) :
  w.ownsRow 0 5 1 cv l.length (Lib.byteCells l)/\E.τ[kt]? = some cv/\∀ b∈E.β,cv.ownBlock≠some b:=by
 cases l with
 | cons c r=>
  obtain ⟨g,cap,cur,rfl,hg,ue,hcm,hcs,htake,VR,hτ⟩:=Iz h (List.cons_ne_nil c r) ig hv;refine ⟨⟨by rw [Lib.byteCells_length,Nat.mul_one],.inr ⟨g,cap,cur,rfl,Nat.zero_le _,hg,ue,hcm,hcs,htake⟩⟩,hτ,fun b hb he=>?_⟩;simp only [Value.ownBlock,oI] at he;exact VR (he ▸ hb)
 | nil=>
  unfold Rv at hv;obtain ⟨bs,ns,kY,rfl,⟨rfl,Nc⟩,Rb,vj⟩:=hv;obtain ⟨q,hq,_,hτ⟩:=vj kt rfl;rw [h.tk,ig] at hq;simp only [oI] at hq;subst hq;have hy:=hτ rfl;rcases h.env.bY kt _ _ (by rw [h.tk];exact ig) hy with ⟨n5,oH⟩ | ⟨g,cap,cur,n5,hw0,vm,ue,hcm,gM,Dm⟩
  ·rw [n5] at hy ⊢;exact ⟨⟨rfl,.inl ⟨rfl,rfl⟩⟩,hy,fun b _ he=>by simp [Value.ownBlock] at he⟩
  ·rw [n5] at hy ⊢;refine ⟨⟨rfl,.inr ⟨g,cap,cur,rfl,Nat.zero_le _,hw0,ue,hcm,vm.1,by simp [Lib.byteCells]⟩⟩,hy,fun b hb he=>?_⟩;simp only [Value.ownBlock,oI] at he;exact gM (he ▸ hb)
theorem FI {f:FuncId} {xd rd:DV} {ret:Value} {X:Ctx} {st:St} {k:List It} (hP:X.P=prog) {i kt d:Nat} {p c:DV} {l:List UInt8} {s:ByteArray} {bX:List TkE} (hbt:(i,160)∈X.bt) (kG:st.bx[i]? = some [p,c])
  (hp:p = .v (.pointer none)∨p = .loc i 0)
  (hc:(c = .v (.slice none 0 0)/\l=[]/\kt=st.tk.length/\bX=st.tk ++ [⟨s.size,5,1,none⟩])∨(c = .sl 1 (bD l) (some kt)/\st.tk[kt]? = some ⟨l.length,5,1,none⟩/\bX=st.tk.set kt ⟨l.length + s.size,5,1,none⟩))
  (ki:Enters prog f) (hrd:∀ E,Rv E rd ret)
  (lP:∀ (E:En) (b n:Nat) (p v x:Value) (xs:List Value) (w:World),Rv E xd x->p = .pointer none∨p = .pointer (some ⟨b,0,none⟩)->w.heap[b]? = some (.cells #[p,v] 160 (0,0))->w.ownsRow 0 5 1 v n xs->v.ownBlock≠some b->n + s.size<=140737488355328->Calls prog f #[.pointer (some ⟨b,0,none⟩),x] w (Iy ret w b v n xs s))
  (hs:0 < s.size) (hlen:l.length + s.size<=140737488355328) (hd:ez X.nt st.sl (some d)=true)
  (hk:go X 4000 k ⟨(d,⟨[],rd⟩) :: st.sl,st.bx.set i [.loc i 0,.sl 1 (bD (l ++ s.data.toList)) (some kt)],bX⟩)
  (aW:X.still=false:=by exact rfl):CallG X f [.loc i 0,xd] (some d) k st:=by
 refine ⟨?_,aW,fun E a w vs h hv=>?_⟩
 ·rw [hP];exact ki
 rw [hP];simp only [RvL] at hv;obtain ⟨v1,vr,rfl,h1,v2,vr2,rfl,h2,rfl⟩:=hv;unfold Rv at h1;obtain ⟨b,hb,rfl⟩:=h1;obtain ⟨b',ty,arr,eo,hw,vi⟩:=h.env.bxs i _ kG;rw [hb] at eo;simp only [oI] at eo;subst eo;obtain ⟨RU,pI⟩:=h.bt _ hbt b hb;rw [hw] at pI;simp only [oI,Obj.cells.injEq] at pI;have RA:ty=160:=pI.2.1;subst RA;obtain ⟨hr,ho⟩:=vi;simp only [RvL] at hr;obtain ⟨pv,r1,rfl,Td,cv,r2,rfl,hcv,rfl⟩:=hr
 have Xz:pv = .pointer none∨pv = .pointer (some ⟨b,0,none⟩):=by
  rcases hp with rfl | rfl
  ·exact .inl (bq Td)
  ·unfold Rv at Td;obtain ⟨b2,gF,rfl⟩:=Td;rw [hb] at gF;simp only [oI] at gF;subst gF;exact .inr rfl
 have zo:b∈E.β:=mG hb;have Ky:st.tk.length=E.tk.length:=by rw [h.tk]
 have key:∃ xs:List Value,xs=Lib.byteCells l/\w.ownsRow 0 5 1 cv l.length xs/\cv.ownBlock≠some b /\
   ((∃ q,E.tk[kt]? = some q/\E.τ[kt]? = some cv/\q.n=l.length/\q.ty=5/\q.e=1/\q.own=none)∨(E.tk[kt]? = none/\E.τ[kt]? = none/\cv = .slice none 0 0/\l.length=0)) /\
   bX[kt]? = some ⟨l.length + s.size,5,1,none⟩/\(∀ j,j≠kt->bX[j]? = E.tk[j]?)/\(∀ y:Value,∃ τ':List Value,τ'[kt]? = some y/\τ'.length=bX.length/\∀ j,j≠kt->τ'[j]? = E.τ[j]?):=by
  rcases hc with ⟨rfl,rfl,rfl,rfl⟩ | ⟨rfl,ig,rfl⟩
  ·have:=bq hcv;subst this;refine ⟨_,rfl,⟨rfl,.inl ⟨rfl,rfl⟩⟩,by simp [Value.ownBlock],.inr ⟨?_,?_,rfl,rfl⟩,?_,?_,?_⟩
   ·rw [Ky];simp
   ·rw [Ky,<- h.env.tl];simp
   ·simp
   ·intro j hj;rw [h.tk];rcases Nat.lt_or_ge j st.tk.length with h1 | h1
    ·rw [dC h1]
    ·grind
   ·intro y;refine ⟨E.τ ++ [y],?_,by simp [h.env.tl,h.tk],fun j hj=>?_⟩
    ·rw [Ky,<- h.env.tl];simp
    ·rcases Nat.lt_or_ge j E.τ.length with h1 | h1
     ·rw [dC h1]
     ·rw [kT (l:=E.τ) h1];have:=h.env.tl;exact kT (by simp;omega)
  ·obtain ⟨dc,hτ,hob⟩:=Tc h ig hcv;have lG:=(gS ig).1;refine ⟨_,rfl,dc,hob b zo,.inl ⟨_,by rw [h.tk];exact ig,hτ,rfl,rfl,rfl,rfl⟩,?_,?_,?_⟩
   ·rw [gN lG]
   ·intro j hj;rw [List.getElem?_set_ne (Ne.symm hj),h.tk]
   ·intro y;refine ⟨E.τ.set kt y,?_,by simp [h.env.tl,h.tk],fun j hj=>List.getElem?_set_ne (Ne.symm hj)⟩;rw [gN];rw [h.env.tl,<- Ky];exact lG
 obtain ⟨xs,rfl,dc,bf,pN,acD,sa,hτ⟩:=key;refine (lP E b l.length pv cv v2 (Lib.byteCells l) w h2 Xz hw dc bf hlen).mono ?_;rintro e w' ⟨rfl,g,cap,w2,Vn,mI,Dc,rfl⟩;obtain ⟨τ',YK,X0,MH⟩:=hτ (.slice (some ⟨g,0,none⟩) (l.length + s.size) cap);have JV:Rv E (.loc i 0) (.pointer (some ⟨b,0,none⟩)):=by unfold Rv;exact ⟨b,hb,rfl⟩
 have r1:Rel X E ⟨st.sl,st.bx.set i [.loc i 0,c],st.tk⟩ a (iO w b cv):=
  jG h aW hb (cs':=[.loc i 0,c]) (arr':=[.pointer (some ⟨b,0,none⟩),cv]) ⟨rvL_cons JV (rvL_one hcv),by
   intro v hv;simp only [List.mem_cons,List.not_mem_nil,or_false] at hv;rcases hv with rfl | rfl
   ·rfl
   ·exact ho v (by simp)⟩ ⟨_,hw⟩
 obtain ⟨r2,hext,ko⟩:=De r1 aW pN hs (by omega) acD YK X0 sa MH (Co dc bf) Vn mI Dc;have gF:(iO w b cv).heap[b]? = some (.cells #[.pointer (some ⟨b,0,none⟩),cv] 160 (0,0)):=dA hw
 have MI:w2.heap[b]? = some (.cells #[.pointer (some ⟨b,0,none⟩),cv] 160 (0,0)):=by
  rw [mI.block b (cL gF) (fun e=>bf e.symm)];exact gF
 have XA:Rv (⟨addC E.c w2 g ((l.length + s.size) * 1),E.β,bX,τ'⟩:En) (.sl 1 (bD (l ++ s.data.toList)) (some kt)) (.slice (some ⟨g,0,none⟩) (l.length + s.size) cap):=by
  have mW:s.data.toList.length=s.size:=by rw [Array.length_toList];all_goals rfl
  unfold Rv;refine ⟨_,_,_,rfl,⟨by rw [sL,List.length_append,mW],?_⟩,fun _=>⟨rfl,?_⟩,?_⟩
  ·rcases Vn.2 with ⟨hv,_⟩ | ⟨_,_,_,hv,_,_,ue,_⟩
   ·cases hv
   ·injection hv with _ _ i3
    omega
  ·refine rvEs_flat (arr:=Lib.byteCells (l ++ s.data.toList)) (Qn _) (fun cs hcm=>?_) fun j u hj=>?_
   ·grind [bD]
   ·simp only [ab,ao,Nat.zero_add];refine ko j u ?_;rw [strCells_eq];simpa [Lib.byteCells] using hj
  ·intro k' gD;cases gD;exact ⟨_,acD,aQ _,fun _=>YK⟩
 have r3:=jG r2 aW (i:=i) (b:=b) hb (cs':=[.loc i 0,.sl 1 (bD (l ++ s.data.toList)) (some kt)]) (arr':=[.pointer (some ⟨b,0,none⟩),.slice (some ⟨g,0,none⟩) (l.length + s.size) cap])
  ⟨rvL_cons (by unfold Rv;exact ⟨b,hb,rfl⟩) (rvL_one XA),by
   intro v hv;simp only [List.mem_cons,List.not_mem_nil,or_false] at hv
   rcases hv with rfl | rfl<;>rfl⟩ ⟨_,MI⟩
 simp only [List.set_set] at r3;exact go_sound 4000 _ _ hk _ _ _ (aX r3 hd rd _ (hrd _))
theorem FJ {w:World} {g n:Nat} (x:Addr):(w.freeze ⟨g,0,none⟩ n).cell? x=w.cell? x:=by
 unfold World.freeze;split
 ·rfl
 ·simp only [World.cell?,Array.getElem?_modify]
  grind
theorem Cp {w:World} {g n k:Nat} (h:k≠g):(w.freeze ⟨g,0,none⟩ n).heap[k]? = w.heap[k]?:=by
 unfold World.freeze
 grind
theorem Cq {w:World} {g n:Nat}:(w.freeze ⟨g,0,none⟩ n).os=w.os/\(w.freeze ⟨g,0,none⟩ n).tape=w.tape/\(w.freeze ⟨g,0,none⟩ n).output=w.output/\(w.freeze ⟨g,0,none⟩ n).heap.size=w.heap.size:=by
 unfold World.freeze
 grind
theorem u3 {X:Ctx} {st:St} {k:List It} (hP:X.P=prog) {i kt d:Nat} {p:DV} {l:List UInt8} (hbt:(i,160)∈X.bt) (kG:st.bx[i]? = some [p,.sl 1 (bD l) (some kt)])
  (hl:l ≠ []) (ig:st.tk[kt]? = some ⟨l.length,5,1,none⟩) (oH:X.n0=0) (lN:X.m0=0) (hd:ez X.nt st.sl (some d)=true)
  (hk:go X 4000 k ⟨[(d,⟨[],.v (.string ⟨l.toArray⟩)⟩)],[],[]⟩) (aW:X.still=false:=by exact rfl):CallG X 76 [.loc i 0] (some d) k st:=by
 refine ⟨?_,aW,fun E a w vs h hv=>?_⟩
 ·rw [hP];exact Zh
 rw [hP];simp only [RvL] at hv;obtain ⟨v1,vr,rfl,h1,rfl⟩:=hv;unfold Rv at h1;obtain ⟨b,hb,rfl⟩:=h1;obtain ⟨b',ty,arr,eo,hw,vi⟩:=h.env.bxs i _ kG;rw [hb] at eo;simp only [oI] at eo;subst eo;obtain ⟨RU,pI⟩:=h.bt _ hbt b hb;rw [hw] at pI;simp only [oI,Obj.cells.injEq] at pI;have RA:ty=160:=pI.2.1;subst RA;obtain ⟨hr,ho⟩:=vi;simp only [RvL] at hr;obtain ⟨pv,r1,rfl,Td,cv,r2,rfl,hcv,rfl⟩:=hr;obtain ⟨g,cap,cur,rfl,hg,ue,hcm,hcs,htake,VR,hτ⟩:=Iz h hl ig hcv;refine (Xy b g cap pv l cur w hl hw hg ue hcm hcs htake).mono ?_;rintro e w' ⟨rfl,rfl⟩;obtain ⟨k1,k2,k3,k4⟩:=Cq (w:=w.drew) (g:=g) (n:=l.length);have hE0:X.E0.β=[]:=List.eq_nil_of_length_eq_zero (by rw [X.oH,oH]);have hT0:X.E0.tk=[]:=List.eq_nil_of_length_eq_zero (by rw [X.lN,lN]);have A4:X.w0.heap.size<=g:=h.nw.tn kt _ g (by rw [hT0];exact Nat.zero_le _) hτ rfl
 let E':En:=⟨E.c,[],[],[]⟩
 have cf:Rel X E' ⟨[],[],[]⟩ a (w.drew.freeze ⟨g,0,none⟩ l.length):={
  env:={
   len:=rfl
   tl:=rfl
   bxs:=by simp
   inj:=List.nodup_nil
   sub:=fun x v hx=>by rw [FJ];exact h.env.sub x v hx
   pc:=by simp [E']
   bY:=by simp [E']
   ji:=by simp [E'] }
  tk:=rfl
  sz:=h.sz
  tm:=fun i x hx=>by cases hx
  df:=h.df
  nw:={
   c:=fun x v hx=>h.nw.c x v hx
   cn:=fun x v hx=>h.nw.cn x v hx
   β:=⟨[],by rw [hE0];rfl,by simp⟩
   tk:=fun k q y hq _=>by rw [hT0] at hq;simp at hq
   tn:=fun k y g' _ hy _=>by simp [E'] at hy
   l0:=h.nw.l0 }
  fr:=h.fr.cj k1 k2 k3 (by rw [k4];exact aQ _) fun j hj=>by
   by_cases hjg:j=g
   ·left;exact .inr (hjg ▸ A4)
   ·right;exact Cp hjg
  sh:=mM aW
  bt:=fun p hp b hb=>by simp [E'] at hb }
 have yJ:ez X.nt ([]:List (Nat × Sl)) (some d)=true:=by
  simp only [ez,aP] at hd ⊢;exact ⟨hd.1,rfl⟩
 exact go_sound 4000 _ _ hk _ _ _ (aX (st:=⟨[],[],[]⟩) cf yJ (.v (.string ⟨l.toArray⟩)) _ (by unfold Rv;exact ⟨rfl,rfl⟩))
theorem Te (b:Nat) (p:Value) (w:World) (nu:w.heap[b]? = some (.cells #[p,.slice none 0 0] 160 (0,0))) :
  Calls prog 76 #[.pointer (some ⟨b,0,none⟩)] w fun e w'=>e = .returned (.string ⟨#[]⟩)/\w'=w.drew:=by
 have c1:w.drew.cell? ⟨b,1,none⟩=some (.slice none 0 0):=by
  have:w.drew.heap[b]? = some (.cells #[p,.slice none 0 0] 160 (0,0)):=nu;rw [Lib.cell_of_heap this];all_goals rfl
 have hSD:(Builtin.unsafeSliceData_ #[158] 258 #[.slice none 0 0]).run prog w.drew = .ok (.pointer none) w.drew:=
  Lib.run_unsafeSliceData_nil _ _ _ _ _
 have hUS:(Builtin.unsafeString_ #[258,3] 9 #[.pointer none,.int .i64 0]).run prog w.drew = .ok (.string ⟨#[]⟩) w.drew:=
  Lib.run_unsafeString_none w.drew 258 3 9 none
 have mixed:=mo
 go_enter func76,ntmps76
 go_wp2
 go_region_o
 all_goals (go_wp2;go_ret;exact ⟨rfl,rfl⟩)
theorem Qo {X:Ctx} {st:St} {k:List It} (hP:X.P=prog) {i d:Nat} {p:DV} (hbt:(i,160)∈X.bt) (kG:st.bx[i]? = some [p,.v (.slice none 0 0)])
  (oH:X.n0=0) (lN:X.m0=0) (hd:ez X.nt st.sl (some d)=true)
  (hk:go X 4000 k ⟨[(d,⟨[],.v (.string ⟨#[]⟩)⟩)],[],[]⟩) (aW:X.still=false:=by exact rfl):CallG X 76 [.loc i 0] (some d) k st:=by
 refine ⟨?_,aW,fun E a w vs h hv=>?_⟩
 ·rw [hP];exact Zh
 rw [hP];simp only [RvL] at hv;obtain ⟨v1,vr,rfl,h1,rfl⟩:=hv;unfold Rv at h1;obtain ⟨b,hb,rfl⟩:=h1;obtain ⟨b',ty,arr,eo,hw,vi⟩:=h.env.bxs i _ kG;rw [hb] at eo;simp only [oI] at eo;subst eo;obtain ⟨RU,pI⟩:=h.bt _ hbt b hb;rw [hw] at pI;simp only [oI,Obj.cells.injEq] at pI;have RA:ty=160:=pI.2.1;subst RA;obtain ⟨hr,ho⟩:=vi;simp only [RvL] at hr;obtain ⟨pv,r1,rfl,Td,cv,r2,rfl,hcv,rfl⟩:=hr;unfold Rv at hcv;obtain ⟨rfl,_⟩:=hcv;refine (Te b pv w hw).mono ?_;rintro e w' ⟨rfl,rfl⟩;have hE0:X.E0.β=[]:=List.eq_nil_of_length_eq_zero (by rw [X.oH,oH]);have hT0:X.E0.tk=[]:=List.eq_nil_of_length_eq_zero (by rw [X.lN,lN])
 let E':En:=⟨E.c,[],[],[]⟩
 have cf:Rel X E' ⟨[],[],[]⟩ a w.drew:={
  env:={
   len:=rfl
   tl:=rfl
   bxs:=by simp
   inj:=List.nodup_nil
   sub:=fun x v hx=>h.env.sub x v hx
   pc:=by simp [E']
   bY:=by simp [E']
   ji:=by simp [E'] }
  tk:=rfl
  sz:=h.sz
  tm:=fun i x hx=>by cases hx
  df:=h.df
  nw:={
   c:=fun x v hx=>h.nw.c x v hx
   cn:=fun x v hx=>h.nw.cn x v hx
   β:=⟨[],by rw [hE0];rfl,by simp⟩
   tk:=fun k q y hq _=>by rw [hT0] at hq;simp at hq
   tn:=fun k y g' _ hy _=>by simp [E'] at hy
   l0:=h.nw.l0 }
  fr:=h.fr.cj rfl rfl rfl (aQ _) fun j hj=>Or.inr rfl
  sh:=mM aW
  bt:=fun p hp b hb=>by simp [E'] at hb }
 have yJ:ez X.nt ([]:List (Nat × Sl)) (some d)=true:=by
  simp only [ez,aP] at hd ⊢;exact ⟨hd.1,rfl⟩
 exact go_sound 4000 _ _ hk _ _ _ (aX (st:=⟨[],[],[]⟩) cf yJ (.v (.string ⟨#[]⟩)) _ (by unfold Rv;exact ⟨rfl,rfl⟩))
theorem iP {s:ByteArray} (h:bd s=true):s.size<=32:=by grind [bd]
def dfD:Option (List Stp)->DV
 | some p=>.tup [.sl 3 (cz p) none,.v (.bool true)]
 | none=>.tup [.v (.slice none 0 0),.v (.bool false)]
def tO (ND:List Nd) (f:Nat->Nat->Bool) (n rt:Nat) (o:Int) (v:Val):Option Val:=if 0<=o/\o < n/\fitV ND v rt=true then some (eraseV ND f n o.toNat v rt (ib f n)) else none
def FK:Option Val->DV
 | some y=>.tup [.agg (aZ y),.v (.bool true)]
 | none=>.tup [.agg (aZ (.mk 0 0 av [])),.v (.bool false)]
section
variable (lv:List Wd) (f:Nat->Nat->Bool) (ND:List Nd) (rt:Nat) (hL:fY f lv.length) (hn:lv.length<=32) (bI:∀ n∈ND,dt lv.length ND.length n) (bZ:∀ n∈ND,n.aw.length<=1099511627776) (H4:∀ n∈ND,xU n)
include hL hn bI bZ H4
def Yo (ND:List Nd) (f:Nat->Nat->Bool) (n rt:Nat) (o:Int) (a b:Val):Option (List Stp):=if 0<=o/\o < n/\fitV ND a rt=true/\fitV ND b rt=true then diffV ND f n o.toNat a b rt (ib f n) else none
def Yp (ND:List Nd) (f:Nat->Nat->Bool) (n rt:Nat) (o:Int) (a b:Val):Bool:=decide (0<=o/\o < n) && fitV ND a rt && fitV ND b rt && (diffV ND f n o.toNat a b rt (ib f n)).isNone
end
end Go.Proofs.YtgjagnmeonoehaaGreat
set_option maxRecDepth 100000
namespace Go.Proofs.YtgjagnmeonoehaaGreat
open Go Go.RowKit Dv Tryz
theorem Qp {d:Nd} {z:Int} {j:Nat} {e:Ed} (h:Ro d (.mk 0 z av []) j=e.to) (h0:0<=e.to) (c:d.ag=8):(0<=z/\z < d.aw.length)/\j=0:=by
 refine ⟨Ku h h0 c,?_⟩
 grind [Ro]
abbrev erPSt (PC LC:List DV) (obs a:Nat) (v:Val) (d:Nd) (o:List Val) (q e:Nat):St:=
 ⟨[(2,⟨[],.v (.int .i64 a)⟩),(4,⟨[],.loc 0 0⟩),(7,⟨[],.loc 1 0⟩),(8,⟨[],.loc 2 0⟩),(9,⟨[],.loc 3 0⟩),(11,⟨[],.loc 4 0⟩),(31,⟨[],.sl 4 (dVals v.ks) none⟩),(32,⟨[],.v (.int .i64 (dVals v.ks).length)⟩),(33,⟨[],.v (.int .i64 e)⟩)],
  [Vm PC LC obs,aZ v,[.v (.int .i64 0),.v (.int .i64 0),.v (.string av),.v (.slice none 0 0)],kO d,[.v (.int .i64 v.k),.v (.int .i64 v.n),.v (.string v.s),.sl 4 (dVals o) (some 0)]],[⟨q,34,4,none⟩]⟩
theorem tP {S:Sch} {ND:List Nd} {PC LC:List DV} (hP:eT S ND PC) (hR:pA S.ae.length (aK S) (aA S.ae) LC) (H4:∀ n∈ND,xU n) (bZ:∀ n∈ND,n.aw.length<=1099511627776) (obs:Nat) (ho:obs < S.ae.length) :
  ∀ (k:Nat) (v:Val),v.wt<=k->v.wt<=1099511627776->rngW v->∀ (i:Int) (a:Nat),a < S.ae.length->fitV ND v i=true ->
   EvP Tryz.prog 69 [.agg (Vm PC LC obs),.v (.int .i64 i),.v (.int .i64 a),.agg (aZ v)] (.agg (aZ (eraseV ND (aK S) S.ae.length obs v i a)))
 | 0,v,h,_=>by have:=v.dy;omega
 | k + 1,v,h,hb=>fun hr i a ha fT=>by
  have ih:=tP hP hR H4 bZ obs ho k;have hL:=hR.ok;obtain ⟨d,hF⟩:=dL hP.ok fT;obtain ⟨h0,hg⟩:=bJ hF.ah;obtain ⟨j,rfl⟩:∃ j:Nat,i=j:=⟨i.toNat,by omega⟩;have hg:ND[j]? = some d:=by simpa using hg
  have lP:=mG hg;have hN:=hP.ok d lP;have dE:=hP.ah j d hg;have Cr:=fun {m:Nat} {x:Val}=>mv (m:=m) (x:=x) hP.ok fT hF;have L8:=bZ d lP;have Qq:=H4 d lP;have Qr:=hF.leaf
  have hE:eraseV ND (aK S) S.ae.length obs v j a = .mk v.k v.n v.s (eraseVs ND (aK S) S.ae.length obs v.ks d v.n a 0):=by
   obtain ⟨q,z,s,ks⟩:=v;rw [eraseV,hF.ah];rfl
  rw [hE];have hOl:=je (ND:=ND) (f:=aK S) (L:=S.ae.length) (obs:=obs) v.ks d v.n a 0;have hOa:=fun {m:Nat} {x:Val}=>xO (ND:=ND) (f:=aK S) (L:=S.ae.length) (obs:=obs) (ks:=v.ks) (d:=d) (z:=v.n) (a:=a) (j:=0) (m:=m) (x:=x);generalize eraseVs ND (aK S) S.ae.length obs v.ks d v.n a 0=O at hOl hOa ⊢;obtain ⟨vk,vn,vs,ks⟩:=v;have lG:=cG ks;have de:=bl ks;rw [Val.wt] at h hb;have XB:=my hr;simp only [Val.ks,Val.n,Val.k,Val.s] at Cr hOl hOa XB Qr ⊢;obtain ⟨ag,at',lo,hi,most,af,es⟩:=d;refine Dx (P:=Tryz.prog) tt fo 5000 75 [.cell 8 34] Tryz.func69 rfl Tryz.ntmps69 rfl (nL rfl) (fun E9 w9 hn9 hm9=>?_);refine call_p mR (dE) ax rfl ?_;refine aV (fun t st=>∃ e q:Nat,st=erPSt PC LC obs a (.mk vk vn vs ks) ⟨ag,at',lo,hi,most,af,es⟩ (O.take e) q e/\q=e/\e<=ks.length/\t=ks.length - e) ks.length (erPSt PC LC obs a (.mk vk vn vs ks) ⟨ag,at',lo,hi,most,af,es⟩ [] 0 0) (dx 5 ⟨0,34,4,none⟩ rfl rfl rfl (by repeat' (first | exact rfl | exact az rfl | exact aD rfl | exact bL (Nat.le_refl _) rfl | exact bL (Nat.le_refl _) rfl | refine ⟨_,_,rfl,?_,?_⟩)) rfl rfl (by repeat' (first | exact trivial | exact az rfl | exact aD rfl | exact bL (Nat.le_refl _) rfl | refine ⟨⟨_,rfl,?_⟩,?_⟩))) ⟨0,0,by rw [List.take_zero],rfl,by omega,by omega⟩ ?_;rintro t st ⟨e,q,rfl,hq,he,rfl⟩;refine br (fun nD=>?_) (fun nD=>?_)
  ·have au:e < ks.length:=by simpa [de,Val.ks] using nD
   obtain ⟨x,hx⟩:∃ x,ks[e]? = some x:=⟨_,gE au⟩;obtain ⟨ed,hK⟩:=Cr hx;have hm:=mG hx;have XC:=du hm;have mU:=di XB hm;have hxe:=hOa hx;rw [Nat.zero_add,hK.fD] at hxe;simp only at hxe;obtain ⟨h1,h2⟩:=Fp hN hK.mem hK.bare;have h5:5<=ag:=by grind
   have kz:=xX hR PC obs a ha ⟨ag,at',lo,hi,most,af,es⟩ (.mk vk vn vs ks) e ed hK.fD hK.mem hN h5 (Qp hK.to' h1) L8;have hU:=Ce hL hN hK.mem ha;have nT:=pG hR PC obs (gA (aK S) S.ae.length ⟨ag,at',lo,hi,most,af,es⟩ ed a) ho hU;have hco:=nS hR PC obs a ho ha ⟨ag,at',lo,hi,most,af,es⟩ ed hN hK.mem;have hcv:=Cm ed x (sJ mU) (by omega) (Qq.2.2 ed hK.mem);have hhv:=q5 ed;have hrec:=ih x (by omega) (by omega) mU ed.to (gA (aK S) S.ae.length ⟨ag,at',lo,hi,most,af,es⟩ ed a) hU hK.fit;have hOl':(O.take e).length=e:=by rw [List.length_take];omega
   have hdOl:(dVals (O.take e)).length=e:=by rw [bl,hOl']
   have oF:∀ y:Val,O[e]? = some y->dVals (O.take e) ++ [aZ y]=dVals (O.take (e + 1)):=fun y hy=>H9 hy;rw [Cd] at hxe;generalize gA (aK S) S.ae.length ⟨ag,at',lo,hi,most,af,es⟩ ed a=U at kz nT hrec hxe;generalize aK S U obs=b1 at nT hxe;generalize gF:aK S (yD (aK S) S.ae.length a ed.seen.toNat) obs=b2 at hco hxe;generalize Ri:decide (ed.ck≠0)=DC at hco;generalize eraseV ND (aK S) S.ae.length obs x ed.to U=Y1 at hrec hxe;generalize bE ed x=Y2 at hcv hxe;generalize oG ed=Y3 at hhv hxe;obtain ⟨xk,xn,xs,sM⟩:=x;obtain ⟨y1k,y1n,y1s,y1ks⟩:=Y1;obtain ⟨y2k,y2n,y2s,y2ks⟩:=Y2;obtain ⟨y3k,y3n,y3s,y3ks⟩:=Y3;obtain ⟨en,eb,ea,et,q4,ew,eU,ic,rD,iV⟩:=ed;refine ⟨_,⟨by omega,cp hx⟩,?_⟩;refine call_p T7 (kz) ax rfl ?_;refine call_p NK (nT) ax rfl ?_
   cases b1 with
   | true=>
    simp only [reduceIte] at hxe;have ek:=oF _ hxe;refine call_p en69 (hrec) ax rfl ?_;refine ⟨by rw [hdOl,hq],⟨by simp [maxLen,hdOl];omega,by simp [hdOl];omega⟩,?_⟩;exact ⟨erPSt PC LC obs a (.mk vk vn vs ks) ⟨ag,at',lo,hi,most,af,es⟩ (O.take (e + 1)) (q + 1) (e + 1),(weak_b 5 rfl (wSA au ek) rfl rfl rfl (wSB au ek)),ks.length - (e + 1),by omega,e + 1,q + 1,rfl,by omega,by omega,rfl⟩
   | false=>
    cases DC with
    | false=>
     have FE:eU=0:=by simpa using of_decide_eq_false Ri
     simp [FE] at hxe;have ek:=oF _ hxe;refine call_p en141 (hco) ax rfl ?_;refine call_p en143 (hhv) ax rfl ?_;refine ⟨by rw [hdOl,hq],⟨by simp [maxLen,hdOl];omega,by simp [hdOl];omega⟩,?_⟩;exact ⟨erPSt PC LC obs a (.mk vk vn vs ks) ⟨ag,at',lo,hi,most,af,es⟩ (O.take (e + 1)) (q + 1) (e + 1),(weak_b 5 rfl (wSA au ek) rfl rfl rfl (wSB au ek)),ks.length - (e + 1),by omega,e + 1,q + 1,rfl,by omega,by omega,rfl⟩
    | true=>
     have FE:=of_decide_eq_true Ri
     cases b2 with
     | false=>
      simp at hxe;have ek:=oF _ hxe;refine call_p en141 (hco) ax rfl ?_;refine call_p en143 (hhv) ax rfl ?_;refine ⟨by rw [hdOl,hq],⟨by simp [maxLen,hdOl];omega,by simp [hdOl];omega⟩,?_⟩;exact ⟨erPSt PC LC obs a (.mk vk vn vs ks) ⟨ag,at',lo,hi,most,af,es⟩ (O.take (e + 1)) (q + 1) (e + 1),(weak_b 5 rfl (wSA au ek) rfl rfl rfl (wSB au ek)),ks.length - (e + 1),by omega,e + 1,q + 1,rfl,by omega,by omega,rfl⟩
     | true=>
      have hck':¬ eU=0:=FE;simp [hck'] at hxe;have ek:=oF _ hxe;refine call_p en141 (hco) ax rfl ?_;refine call_p en142 (hcv) ax rfl ?_;refine ⟨by rw [hdOl,hq],⟨by simp [maxLen,hdOl];omega,by simp [hdOl];omega⟩,?_⟩;exact ⟨erPSt PC LC obs a (.mk vk vn vs ks) ⟨ag,at',lo,hi,most,af,es⟩ (O.take (e + 1)) (q + 1) (e + 1),(weak_b 5 rfl (wSA au ek) rfl rfl rfl (wSB au ek)),ks.length - (e + 1),by omega,e + 1,q + 1,rfl,by omega,by omega,rfl⟩
  ·have hge:e=ks.length:=by have:=nD;simp [de,Val.ks] at this;omega
   subst hge;rw [List.take_of_length_le (by omega)];exact ⟨_,ax,rfl⟩
section
variable {S:Sch} {ND:List Nd} {PC LC:List DV} (hP:eT S ND PC) (ej:EvP Tryz.prog 72 [.pt PC 0] (.pt LC 0)) (hR:pA S.ae.length (aK S) (aA S.ae) LC) (yW:∀ n∈ND,xU n) (bZ:∀ n∈ND,n.aw.length<=1099511627776) (rt:Nat) (oS:cr S=rt)
include ej hR
theorem x4 (o:Int):EvP Tryz.prog 67 [.pt PC 0,.v (.int .i64 o)] (.tup [.agg (Vm PC LC o),.v (.bool (decide (0<=o/\o < S.ae.length)))]):=by
 have hlen:=hR.len;refine Dx (P:=Tryz.prog) tt fo 5000 21 [.cell 4 148,.tmp 5] Tryz.func67 rfl Tryz.ntmps67 rfl (nL rfl) (fun E9 w9 hn9 hm9=>?_);refine call_p Bi (ej) ax rfl ?_;refine br (fun c=>?_) (fun c=>?_)
 ·have c:0<=o:=by simpa using c
  refine call_p DL (hlen) ax rfl ?_;have hd:decide (0<=o/\o < (S.ae.length:Int))=decide (o < (S.ae.length:Int)):=decide_eq_decide.2 ⟨fun h=>h.2,fun h=>⟨c,h⟩⟩;rw [hd];exact ⟨_,ax,rfl⟩
 ·have c:¬ 0<=o:=by simpa using c
  rw [show decide (0<=o/\o < (S.ae.length:Int))=false from decide_eq_false (fun h=>c h.1)];exact ⟨_,ax,rfl⟩
include hP yW bZ oS
theorem FL (o:Int) (v:Val) (hv:v.wt<=1099511627776) (Bn:rngW v) :
  EvP Tryz.prog 18 [.pt PC 0,.v (.int .i64 o),.agg (aZ v)] (FK (tO ND (aK S) S.ae.length rt o v)):=by
 have Ey:=x4 ej hR o;have cW:=hP.root;rw [oS] at cW;have qJ:=hR.bot;have hf:=kg hP _ v (Nat.le_refl _) hv rt;have hs:=fun (obs:Nat) (ho:obs < S.ae.length)=>tP hP hR yW bZ obs ho _ v (Nat.le_refl _) hv Bn rt (ib (aK S) S.ae.length) (u1 hR.ok);have hS:tO ND (aK S) S.ae.length rt o v=if 0<=o/\o < S.ae.length/\fitV ND v rt=true then some (eraseV ND (aK S) S.ae.length o.toNat v rt (ib (aK S) S.ae.length)) else none:=rfl
 generalize tO ND (aK S) S.ae.length rt o v=SF at hS ⊢;generalize fitV ND v rt=F at hf hs hS;obtain ⟨k,n,s,ks⟩:=v;by_cases ho:0<=o/\o < S.ae.length
 ·obtain ⟨ob,rfl⟩:∃ n:Nat,o=n:=⟨_,(Int.toNat_of_nonneg ho.1).symm⟩;have hs:=hs ob (by omega);rw [Int.toNat_natCast] at hS;rw [show decide (0<=(ob:Int)/\(ob:Int) < (S.ae.length:Int))=true from decide_eq_true ho] at Ey;generalize eraseV ND (aK S) S.ae.length ob (.mk k n s ks) rt (ib (aK S) S.ae.length)=Y at hs hS;generalize ib (aK S) S.ae.length=bt at qJ hs;obtain ⟨yk,yn,ys,Ay⟩:=Y;refine Dx (P:=Tryz.prog) tt fo 5000 35 [.cell 6 34,.tmp 7] Tryz.func18 rfl Tryz.ntmps18 rfl (nL rfl) (fun E9 w9 hn9 hm9=>?_);refine call_p RY (Ey) ax rfl ?_;refine e9 (fun _=>false) mo (by decide +kernel) ?_;refine n7 uu (cW) ax rfl ?_;refine n7 NF (hf) ax rfl ?_
  cases F with
  | true=>
   have hs:=hs rfl;rw [if_pos ⟨by omega,by omega,rfl⟩] at hS;rw [hS];refine Jq mo (by decide +kernel) ?_;refine n7 uu (cW) ax rfl ?_;refine n7 NG (qJ) ax rfl ?_;refine n7 en69 (hs) ax rfl ?_;exact ⟨_,ax,rfl⟩
  | false=>
   rw [if_neg (by simp)] at hS;rw [hS];exact ⟨_,ax,rfl⟩
 ·rw [if_neg (fun h=>ho ⟨h.1,h.2.1⟩)] at hS;rw [hS];rw [show decide (0<=o/\o < (S.ae.length:Int))=false from decide_eq_false ho] at Ey;refine Dx (P:=Tryz.prog) tt fo 5000 35 [.cell 6 34,.tmp 7] Tryz.func18 rfl Tryz.ntmps18 rfl (nL rfl) (fun E9 w9 hn9 hm9=>?_);refine call_p RY (Ey) ax rfl ?_;refine e9 (fun _=>false) mo (by decide +kernel) ?_;exact ⟨_,ax,rfl⟩
end
end Go.Proofs.YtgjagnmeonoehaaGreat
set_option maxRecDepth 100000
namespace Go.Proofs.YtgjagnmeonoehaaGreat
open Go Go.RowKit Dv Go.Proofs.Tryz
theorem Tf {p l:List UInt8} (hp:p <+: l) (hpn:p ≠ []) (ht:p.take (dV l)=l.take (dV l)):dV p=dV l:=by
 have Vo:l ≠ []:=by
  rintro rfl;exact hpn (List.prefix_nil.1 hp)
 obtain ⟨a1,a2⟩:=dZ hpn;obtain ⟨b1,b2⟩:=dZ Vo;by_cases h:2<=dV l
 ·exact nN h ht
 ·by_cases g:2<=dV p
  ·obtain ⟨t,rfl⟩:=hp
   grind [nN]
  ·omega
theorem IA (u:Nat) (l:List UInt8):headL u (headL u l)=headL u l:=by
 induction u generalizing l with
 | zero=>rfl
 | succ u ih=>grind [ov,b1,b2,dZ,ow,headL,dV,Tf]
def cX (v:Val) (k n:Int) (s:ByteArray):Bool:=decide (v.k=k) && decide (v.n=n) && decide (v.s=s) && decide (v.ks.length=0)
def iQ (e:Ed) (d:Nd) (v:Val):Bool:=
 if e.ck=1/\d.ag=2 then
  (if cX v 9 e.wide av=true then !(aJ d.lo e.cn).2
   else cX v 10 v.n av && decide (v.n % e.cn=0) && (aJ d.hi e.cn).2 && decide (v.n<=(aJ d.hi e.cn).1) && (!(aJ d.lo e.cn).2 || decide ((aJ d.lo e.cn).1<=v.n)))
 else if e.ck=2/\d.ag=3 then cX v 11 0 v.s && decide ((v.s.size:Int)<=d.most) && decide (headL e.cn.toNat (tx v.s)=tx v.s)
 else if e.ck=3/\d.ag=5 then cX v 12 v.n av && decide (0<=v.n) && decide (v.n<=d.most)
 else cX v 9 e.wide av
def shellF (d:Nd) (v:Val):Bool:=
 if v.k≠d.ag∨v.s≠av∨(d.ag≠8/\v.n≠0) then false
 else if d.ag=5 then decide ((v.ks.length:Int)<=d.most)
 else if d.ag=6 then decide (v.ks.length < 2)
 else if d.ag=7 then decide (v.ks.length=d.aw.length)
 else if v.n < 0∨(d.aw.length:Int)<=v.n then false
 else match d.aw[v.n.toNat]? with
  | none=>false
  | some e=>if e.bare=true then decide (v.ks.length=0) else decide (v.ks.length=1)
section
variable (ND:List Nd) (f:Nat->Nat->Bool) (L obs:Nat)
mutual
def seeV:Val->Int->Nat->Bool
 | .mk k n s ks,i,a=>match bV ND i with
  | none=>false
  | some d=>if d.ag < 5 then fitV ND (.mk k n s ks) i else shellF d (.mk k n s ks) && seeVs ks d n a 0
def seeVs:List Val->Nd->Int->Nat->Nat->Bool
 | [],_,_,_,_=>true
 | x :: r,d,z,a,j=>(match bH d z j with
  | none=>false
  | some e=>if kR f L obs d e a=2 then seeV x e.to (gA f L d e a) else if kR f L obs d e a=1 then (match bV ND e.to with | none=>false | some t=>iQ e t x) else cX x 9 e.wide av) && seeVs r d z a (j + 1)
end
end
section
variable {ND:List Nd} {f:Nat->Nat->Bool} {L obs:Nat}
theorem IB {ks:List Val} {d:Nd} {z:Int} {a j m:Nat} {x:Val} (h:ks[m]? = some x):seeVs ND f L obs (ks.drop m) d z a j=((match bH d z j with
  | none=>false
  | some e=>if kR f L obs d e a=2 then seeV ND f L obs x e.to (gA f L d e a) else if kR f L obs d e a=1 then (match bV ND e.to with | none=>false | some t=>iQ e t x) else cX x 9 e.wide av) && seeVs ND f L obs (ks.drop (m + 1)) d z a (j + 1)):=by
 obtain ⟨hm,rfl⟩:=List.getElem?_eq_some_iff.1 h;rw [List.drop_eq_getElem_cons hm,seeVs]
structure acG (ND:List Nd) (d:Nd) (z:Int) (j:Nat) (e:Ed):Prop where
 fD:bH d z j=some e
 mem:e∈d.aw
 bare:e.bare=false
theorem sN {N:Nat} {d:Nd} (hN:dt N ND.length d) (h5:5<=d.ag) {v:Val} (h:shellF d v=true) {m:Nat} (hm:m < v.ks.length):∃ e,acG ND d v.n m e:=by
 have h8:=hN.k8;unfold shellF at h;split at h
 ·cases h
 rename_i hc;have Nu:v.k=d.ag:=by omega
 rcases (show (d.ag=5∨d.ag=6)∨d.ag=7∨d.ag=8 by omega) with c | c | c
 ·obtain ⟨e,he,hb,_⟩:=hN.one c;refine ⟨e,?_,by rw [he];exact List.mem_singleton_self e,hb⟩
  grind [bH]
 ·rw [aj (by omega),aj (by omega),ap c,decide_eq_true_iff] at h;obtain ⟨e,he⟩:∃ e,d.aw[m]? = some e:=⟨_,gE (by omega)⟩;refine ⟨e,?_,mG he,?_⟩
  ·unfold bH;rw [ap c,he]
  ·cases hb:e.bare
   ·rfl
   ·have:=hN.bare e (mG he) hb;omega
 ·rw [aj (by omega),aj (by omega),aj (by omega)] at h;split at h
  ·cases h
  cases he:d.aw[v.n.toNat]? with
  | none=>rw [he] at h;cases h
  | some e=>
   rw [he] at h;simp only at h;refine ⟨e,?_,mG he,?_⟩
   ·grind [bH]
   all_goals grind
theorem IC {n u:Int} (hu:1<=u):(aJ n u).2=true->(aJ n u).1=n - n % u/\(aJ n u).1 % u=0:=by
 unfold aJ;rw [aj (by omega)];split
 ·intro h;cases h
 ·intro _;refine ⟨rfl,?_⟩;show (n - n % u) % u=0;rw [Int.sub_emod];simp
theorem pJ {v:Val} {k n:Int} {s:ByteArray}:cX v k n s=true↔v = .mk k n s []:=by
 unfold cX;rw [aP,aP,aP,decide_eq_true_iff,decide_eq_true_iff,decide_eq_true_iff,decide_eq_true_iff,List.length_eq_zero_iff];obtain ⟨q,z,t,ks⟩:=v;rw [Val.mk.injEq];constructor
 ·intro ⟨⟨⟨a,b⟩,c⟩,d⟩;exact ⟨a,b,c,d⟩
 ·intro ⟨a,b,c,d⟩;exact ⟨⟨⟨a,b⟩,c⟩,d⟩
theorem lC (k n:Int) (s:ByteArray):cX (.mk k n s []) k n s=true:=pJ.2 rfl
theorem q7 {n u:Int} (hu:1<=u):aJ n u=if n - n % u < -9223372036854775808 then (0,false) else (n - n % u,true):=by
 unfold aJ;rw [aj (by omega)]
theorem nU {x y u:Int} (hu:1<=u) (KZ:x<=y) (h:(aJ x u).2=true):(aJ y u).2=true/\(aJ x u).1<=(aJ y u).1:=by
 have hm:x - x % u<=y - y % u:=by
  have h3:=Int.mul_ediv_add_emod x u;have h4:=Int.mul_ediv_add_emod y u;have h5:x / u<=y / u:=Int.ediv_le_ediv (by omega) KZ;have h6:u * (x / u)<=u * (y / u):=Int.mul_le_mul_of_nonneg_left h5 (by omega);omega
 rw [q7 hu] at h ⊢;rw [q7 hu];by_cases c:x - x % u < -9223372036854775808
 ·rw [ap c] at h;cases h
 ·grind
theorem ID {e:Ed} {d:Nd} {N:Nat} (he:ab6 L N e) {v:Val} (hF:PW ND v e.to d) (fT:fitV ND v e.to=true):iQ e d (bE e v)=true:=by
 have Vp:=he.cn;have hk:=hF.k
 have fT:(if d.ag < 5 then tI d v else fI d v && fitVs ND v.ks (kidsL d v))=true:=by
  obtain ⟨q,z,s,ks⟩:=v;rw [fitV,hF.ah] at fT;exact fT
 by_cases c1:e.ck=1/\v.k=2
 ·have hu:=Vp.2.1 c1.1;rw [ap (by omega)] at fT;unfold tI at fT;split at fT
  ·cases fT
  rw [aj (by omega),ap (by omega),aP,aP,decide_eq_true_iff,decide_eq_true_iff,decide_eq_true_iff] at fT;obtain ⟨⟨_,hlo⟩,oE⟩:=fT;unfold iQ;rw [ap ⟨c1.1,by omega⟩];by_cases hz:(aJ v.n e.cn).2=true
  ·have hcv:bE e v = .mk 10 (aJ v.n e.cn).1 av []:=by
    unfold bE;rw [ap ⟨c1.1,c1.2,hz⟩]
   rw [hcv,aj (by rw [pJ,Val.mk.injEq];omega)];show (cX _ 10 (aJ v.n e.cn).1 av && _ && _ && _ && _)=true;rw [lC];have h1:=nU hu oE hz;have h2:=(IC hu hz).2;have h3:(Val.mk 10 (aJ v.n e.cn).1 av []).n=(aJ v.n e.cn).1:=rfl;rw [h3,decide_eq_true h2,h1.1,decide_eq_true h1.2]
   grind [aJ,nU]
  ·have hcv:bE e v = .mk 9 e.wide av []:=by
    unfold bE;rw [aj (fun h=>hz h.2.2),aj (by omega),aj (by omega)];rfl
   rw [hcv,ap (lC 9 e.wide av)];cases hl:(aJ d.lo e.cn).2
   ·rfl
   ·exact absurd (nU hu hlo hl).1 hz
 by_cases c2:e.ck=2/\v.k=3
 ·have hcv:bE e v = .mk 11 0 (ba (headL e.cn.toNat (tx v.s))) []:=by grind [bE]
  rw [ap (by omega)] at fT;unfold tI at fT;split at fT
  ·cases fT
  rw [aj (by omega),aj (by omega),ap (by omega),aP,decide_eq_true_iff,decide_eq_true_iff] at fT;have h1:=Aq e.cn.toNat (tx v.s);rw [cE] at h1;have h3:=IA e.cn.toNat (tx v.s);have h2:(ba (headL e.cn.toNat (tx v.s))).size=(headL e.cn.toNat (tx v.s)).length:=by rw [<- cE,qx]
  rw [hcv];generalize headL e.cn.toNat (tx v.s)=H at h1 h2 h3;unfold iQ;rw [aj (by omega),ap ⟨c2.1,by omega⟩,aP,aP,decide_eq_true_iff,decide_eq_true_iff];refine ⟨⟨lC 11 0 (ba H),?_⟩,?_⟩
  ·show ((ba H).size:Int)<=_;omega
  ·show headL e.cn.toNat (tx (ba H))=tx (ba H);rw [qx];exact h3
 grind [bE,av,fI,iQ,cX,lC,oG]
theorem FM {v:Val} {i:Int} {a:Nat} {d:Nd} (fT:fitV ND v i=true) (hF:PW ND v i d) (h5:5<=d.ag) (h8:d.ag<=8):shellF d (eraseV ND f L obs v i a)=true:=by
 obtain ⟨h1,h2,h3⟩:=xM (ND:=ND) (f:=f) (L:=L) (obs:=obs) v i a;have h4:=Im (f:=f) (L:=L) (obs:=obs) v i a hF.ah
 have fT:(if d.ag < 5 then tI d v else fI d v && fitVs ND v.ks (kidsL d v))=true:=by
  obtain ⟨q,z,s,ks⟩:=v;rw [fitV,hF.ah] at fT;exact fT
 rw [aj (by omega),aP] at fT;have hB:=fT.1;have hk:=hF.k
 have hp:v.s=av/\(v.n=0∨v.k=8):=by
  have:gz v=true:=by
   unfold fI at hB;split at hB
   ·rw [aP,aP] at hB;exact hB.1.1
   split at hB
   ·rw [aP,aP] at hB;exact hB.1.1
   split at hB
   ·cases hB
   ·rw [aP] at hB;exact hB.1
  unfold gz at this;rw [aP,Bool.or_eq_true,decide_eq_true_iff,decide_eq_true_iff,decide_eq_true_iff] at this;exact this
 unfold shellF
 rw [h1,h2,h3,h4,aj (by
  rintro (h | h | ⟨ha,hb⟩)
  ·exact h hk
  ·exact h hp.1
  ·rcases hp.2 with h | h<;>omega)]
 unfold fI at hB;rcases (show d.ag=5∨d.ag=6∨d.ag=7∨d.ag=8 by omega) with c | c | c | c
 ·rw [ap (.inl c),aj (by omega),aP,decide_eq_true_iff] at hB;rw [ap c];exact decide_eq_true hB.2
 ·rw [aj (by omega),ap c];exact decide_eq_true (by have:=hF.opt c;omega)
 ·rw [aj (by omega),ap c,aP,decide_eq_true_iff] at hB;rw [aj (by omega),aj (by omega),ap c];exact decide_eq_true hB.2.symm
 ·obtain ⟨e,ht,he,h0,au,hb⟩:=hF.tag c;rw [aj (by omega),aj (by omega),aj (by omega),aj (by omega),he];simp only;have lG:=(hF.kids h5).1
  have CY:kidsL d v=if e.bare=true then [] else [e.to]:=by
   unfold kidsL;rw [aj (by omega),aj (by omega),ht]
  rw [CY] at lG;by_cases X4:e.bare=true
  ·rw [ap X4] at lG ⊢;exact decide_eq_true lG.symm
  ·rw [aj X4] at lG ⊢;exact decide_eq_true lG.symm
mutual
theorem Az (bI:∀ n∈ND,dt L ND.length n):∀ (x:Val) (i:Int) (a:Nat),fitV ND x i=true->seeV ND f L obs (eraseV ND f L obs x i a) i a=true
 | .mk k n s ks,i,a,hx=>by
  obtain ⟨d,hF⟩:=dL bI hx;have hN:=bI d (mG (bJ hF.ah).2);have h8:=hN.k8;have yX:=fun h5=>FM (f:=f) (L:=L) (obs:=obs) (a:=a) hx hF h5 h8;rw [eraseV,hF.ah] at yX ⊢;simp only at yX ⊢;rw [seeV,hF.ah];simp only;by_cases h5:d.ag < 5
  ·rw [ap h5];have:=hF.leaf h5
   grind [Val.ks,eraseVs]
  ·rw [aj h5,yX (by omega),Bool.true_and];exact x5 bI ks d n a 0 hN (fun m x hx1=>by rw [Nat.zero_add];exact mv bI hx hF hx1)
theorem x5 (bI:∀ n∈ND,dt L ND.length n):∀ (ks:List Val) (d:Nd) (z:Int) (a j:Nat),dt L ND.length d->(∀ m x,ks[m]? = some x->∃ e,Kq ND d z (j + m) x e) ->
  seeVs ND f L obs (eraseVs ND f L obs ks d z a j) d z a j=true
 | [],_,_,_,_,_,_=>by rw [eraseVs,seeVs]
 | x :: r,d,z,a,j,hN,hk=>by
  obtain ⟨e,he⟩:=hk 0 x rfl;rw [Nat.add_zero] at he
  have ih:=x5 bI r d z a (j + 1) hN (fun m x h1=>by
   have:=hk (m + 1) x h1
   rwa [show j + (m + 1)=j + 1 + m by omega] at this)
  obtain ⟨t,S4⟩:=dL bI he.fit;rw [eraseVs,seeVs,he.fD];simp only;rw [ih,Bool.and_true];by_cases c2:kR f L obs d e a=2
  ·rw [ap c2,ap c2];exact Az bI x e.to (gA f L d e a) he.fit
  ·rw [aj c2,aj c2];by_cases c1:kR f L obs d e a=1
   ·rw [ap c1,ap c1,S4.ah];exact ID (hN.fD e he.mem) S4 he.fit
   ·rw [aj c1,aj c1];exact lC 9 e.wide av
end
end
theorem shellF_567 {d:Nd} {v:Val} (c:d.ag=5∨d.ag=6∨d.ag=7):shellF d v=(decide (v.s=av) && decide (v.k=d.ag) && decide (v.n=0) && (if d.ag=5 then decide ((v.ks.length:Int)<=d.most) else if d.ag=6 then decide (v.ks.length < 2) else decide (v.ks.length=d.aw.length))):=by grind [shellF,av]
theorem shellF_8 {d:Nd} {v:Val} (c:d.ag=8):shellF d v=if v.s≠av∨v.k≠8∨v.n < 0∨(d.aw.length:Int)<=v.n then false else match d.aw[v.n.toNat]? with
  | none=>false
  | some e=>(decide (v.ks.length=0) == e.bare) && decide (v.ks.length < 2):=by
 unfold shellF;rw [c];by_cases h1:v.s=av
 ·grind
 ·grind
theorem FN (d:Nd) (v:Val) (h5:5<=d.ag) (h8:d.ag<=8) (gL:d.aw.length<=1099511627776) (hv:v.wt<=1099511627776):EvP prog 207 [.agg (kO d),.agg (aZ v)] (.v (.bool (shellF d v))):=by
 have hA:=fun c=>shellF_567 (d:=d) (v:=v) c;have hB:=fun c=>shellF_8 (d:=d) (v:=v) c;have hA5:d.ag=5->shellF d v=(decide (v.s=av) && decide (v.k=5) && decide (v.n=0) && decide ((v.ks.length:Int)<=d.most)):=fun c=>by rw [hA (.inl c),ap c,c]
 have hA6:d.ag=6->shellF d v=(decide (v.s=av) && decide (v.k=6) && decide (v.n=0) && decide (v.ks.length < 2)):=fun c=>by rw [hA (.inr (.inl c)),aj (by omega),ap c,c]
 have hA7:d.ag=7->shellF d v=(decide (v.s=av) && decide (v.k=7) && decide (v.n=0) && decide (v.ks.length=d.aw.length)):=fun c=>by rw [hA (.inr (.inr c)),aj (by omega),aj (by omega),c]
 have hB1:d.ag=8->(v.s≠av∨v.k≠8∨v.n < 0∨(d.aw.length:Int)<=v.n)->shellF d v=false:=fun c h=>by rw [hB c,ap h]
 have hB2:d.ag=8->¬ (v.s≠av∨v.k≠8∨v.n < 0∨(d.aw.length:Int)<=v.n)->∀ e,d.aw[v.n.toNat]? = some e->shellF d v=((decide (v.ks.length=0) == e.bare) && decide (v.ks.length < 2)):=fun c h e he=>by rw [hB c,aj h,he]
 clear hA hB;generalize shellF d v=B at hA5 hA6 hA7 hB1 hB2 ⊢;obtain ⟨ag,at',lo,hi,most,Cl,es⟩:=d;obtain ⟨k,z,s,ks⟩:=v;simp only [Val.k,Val.n,Val.s,Val.ks] at hA5 hA6 hA7 hB1 hB2 h5 h8 gL;have oJ:=cF es;have de:=bl ks;refine eG 111 [.tmp 4] func207 rfl ntmps207 rfl fun _ _ _ _=>?_;refine br ?_ ?_<;>intro c
 ·have c:ag=5:=sU c;subst c;rw [hA5 rfl];refine (bF ?_:);simp only [ai,de];rfl
 have c5:¬ ag=5:=sU c;refine br ?_ ?_<;>intro c
 ·have c:ag=6:=sU c;subst c;rw [hA6 rfl];refine (bF ?_:);simp only [ai,de];rw [show decide ((ks.length:Int)<=1)=decide (ks.length < 2) from decide_eq_decide.2 ⟨fun h=>by omega,fun h=>by omega⟩];rfl
 have c6:¬ ag=6:=sU c;refine br ?_ ?_<;>intro c
 ·have c:ag=7:=sU c;subst c;rw [hA7 rfl];refine (bF ?_:);simp only [ai,de,oJ];rw [show decide ((ks.length:Int)=es.length)=decide (ks.length=es.length) from decide_eq_decide.2 ⟨fun h=>by omega,fun h=>by omega⟩];rfl
 have c7:¬ ag=7:=sU c;refine br ?_ ?_<;>intro c
 ·have c:s≠av∨k≠8∨z < 0∨(es.length:Int)<=z:=by
   simp [aq,oJ] at c;rcases c with ((c | c) | c) | c
   ·exact .inl c
   ·exact .inr (.inl c)
   ·exact .inr (.inr (.inl c))
   ·exact .inr (.inr (.inr c))
  rw [hB1 (by omega) c];exact (rfl:_=_)
 ·have c:¬ (s≠av∨k≠8∨z < 0∨(es.length:Int)<=z):=by
   simp [aq,oJ] at c;rintro (h | h | h | h)
   ·exact h c.1.1.1
   ·exact h c.1.1.2
   ·omega
   ·omega
  obtain ⟨e,he⟩:∃ e,es[z.toNat]? = some e:=⟨_,gE (by omega)⟩;rw [hB2 (by omega) c e he];obtain ⟨en,eb,ea,et,q4,ew,eU,ic,rD,iV⟩:=e;refine dI ?_;refine iX (bm he) ?_;refine (bF ?_:);simp only [ai,de];rw [show decide ((ks.length:Int)=0)=decide (ks.length=0) from decide_eq_decide.2 ⟨fun h=>by omega,fun h=>by omega⟩,show decide ((ks.length:Int) < 2)=decide (ks.length < 2) from decide_eq_decide.2 ⟨fun h=>by omega,fun h=>by omega⟩];rfl
theorem IE {v:Val} {k n:Int} {s:ByteArray} (h:0 < v.ks.length):cX v k n s=false:=by grind [cX]
theorem IF {z u:Int} (hz : -9223372036854775808<=z) (hu:1<=u):((aJ z u).2 && decide ((aJ z u).1=z))=decide (z % u=0):=by
 rw [q7 hu];have h1:=Int.emod_nonneg z (b:=u) (by omega);by_cases c:z - z % u < -9223372036854775808
 ·rw [ap c,decide_eq_false (show ¬ z % u=0 by omega)];rfl
 ·rw [aj c];show (true && decide (z - z % u=z))=_;rw [Bool.true_and];exact decide_eq_decide.2 ⟨fun h=>by omega,fun h=>by omega⟩
theorem mayF_1 {e:Ed} {d:Nd} {v:Val} (c:e.ck=1/\d.ag=2):iQ e d v=if cX v 9 e.wide av=true then !(aJ d.lo e.cn).2
  else cX v 10 v.n av && decide (v.n % e.cn=0) && (aJ d.hi e.cn).2 && decide (v.n<=(aJ d.hi e.cn).1) && (!(aJ d.lo e.cn).2 || decide ((aJ d.lo e.cn).1<=v.n)):=by
 unfold iQ;rw [ap c]
theorem mayF_2 {e:Ed} {d:Nd} {v:Val} (c:e.ck=2/\d.ag=3):iQ e d v=(cX v 11 0 v.s && decide ((v.s.size:Int)<=d.most) && decide (headL e.cn.toNat (tx v.s)=tx v.s)):=by grind [iQ]
theorem mayF_3 {e:Ed} {d:Nd} {v:Val} (c:e.ck=3/\d.ag=5):iQ e d v=(cX v 12 v.n av && decide (0<=v.n) && decide (v.n<=d.most)):=by grind [iQ]
theorem mayF_0 {e:Ed} {d:Nd} {v:Val} (c1:¬ (e.ck=1/\d.ag=2)) (c2:¬ (e.ck=2/\d.ag=3)) (c3:¬ (e.ck=3/\d.ag=5)):iQ e d v=cX v 9 e.wide av:=by grind [iQ]
theorem Qs {e:Ed} {d:Nd} {v:Val} (h:0 < v.ks.length):iQ e d v=false:=by grind [mayF_1,IE,mayF_2,mayF_3,mayF_0]
theorem q8 {v:Val} {k n:Int} {s:ByteArray} (h:v.ks=[]):cX v k n s=(decide (v.k=k) && decide (v.n=n) && decide (v.s=s)):=by
 unfold cX;rw [h];exact Bool.and_true _
theorem mayF_9 {e:Ed} {d:Nd} {v:Val} (c:e.ck=1/\d.ag=2) (FO:v.ks=[]) (h:v.k=9):iQ e d v=(!(aJ d.lo e.cn).2 && decide (v.n=e.wide) && decide (v.s=av)):=by grind [mayF_1,q8,av]
theorem mayF_10 {e:Ed} {d:Nd} {v:Val} (c:e.ck=1/\d.ag=2) (FO:v.ks=[]) (h:¬ v.k=9) (hn : -9223372036854775808<=v.n) (Vp:1<=e.cn) :
  iQ e d v=(decide (v.k=10) && decide (v.s=av) && (aJ v.n e.cn).2 && decide ((aJ v.n e.cn).1=v.n) && (aJ d.hi e.cn).2 && (!(aJ d.lo e.cn).2 || decide ((aJ d.lo e.cn).1<=v.n)) && decide (v.n<=(aJ d.hi e.cn).1)):=by
 rw [mayF_1 c,q8 FO,q8 FO,decide_eq_false h,<- IF hn Vp];generalize (aJ v.n e.cn).2=b1;generalize decide ((aJ v.n e.cn).1=v.n)=b2;generalize (aJ d.hi e.cn).2=b3;generalize decide (v.n<=(aJ d.hi e.cn).1)=b4;generalize (!(aJ d.lo e.cn).2 || decide ((aJ d.lo e.cn).1<=v.n))=b5;generalize decide (v.k=10)=b6;generalize decide (v.s=av)=b7;rw [show decide (v.n=v.n)=true from decide_eq_true rfl];cases b1<;>cases b2<;>cases b3<;>cases b4<;>cases b5<;>cases b6<;>cases b7<;>rfl
theorem Cs (e:Ed) (d:Nd) (v:Val) (FO:v.ks=[]) (FE:e.ck=1/\d.ag=2) (Vp:1<=e.cn) (hn : -9223372036854775808<=v.n/\v.n<=9223372036854775807) (hlo : -9223372036854775808<=d.lo/\d.lo<=9223372036854775807) (oE : -9223372036854775808<=d.hi/\d.hi<=9223372036854775807) (hc : -9223372036854775808<=e.cn/\e.cn<=9223372036854775807) :
  EvP prog 258 [.agg (nF e),.agg (kO d),.agg (aZ v)] (.v (.bool (iQ e d v))):=by
 have h1:=iN d.lo e.cn hlo hc;have h2:=iN v.n e.cn hn hc;have h3:=iN d.hi e.cn oE hc;have jk:=mayF_9 FE FO;have A5:=fun h=>mayF_10 FE FO h hn.1 Vp;generalize iQ e d v=B at jk A5 ⊢;unfold B9 at h1 h2 h3;generalize aJ d.lo e.cn=L at h1 jk A5;generalize aJ v.n e.cn=M at h2 A5;generalize aJ d.hi e.cn=H at h3 A5;obtain ⟨L1,L2⟩:=L;obtain ⟨M1,M2⟩:=M;obtain ⟨H1,H2⟩:=H;obtain ⟨q,z,s,ks⟩:=v;obtain ⟨en,eb,ea,et,q4,ew,eU,ic,rD,iV⟩:=e;obtain ⟨ag,at',lo,hi,most,Cl,es⟩:=d;refine eG 90 [.tmp 6] func258 rfl ntmps258 rfl fun _ _ _ _=>?_;refine cP zq h1 ?_;refine br ?_ ?_<;>intro c
 ·have c:q=9:=sU c;rw [jk c];refine (bF ?_:);simp only [ai];rfl
 ·have c:¬ q=9:=sU c;rw [A5 c];refine cP zq h2 ?_;refine cP zq h3 ?_;refine (bF ?_:);simp only [ai,aq];rfl
theorem AA (e:Ed) (d:Nd) (v:Val) (Vp:e.ck=1->1<=e.cn) (hn : -9223372036854775808<=v.n/\v.n<=9223372036854775807) (hlo : -9223372036854775808<=d.lo/\d.lo<=9223372036854775807) (oE : -9223372036854775808<=d.hi/\d.hi<=9223372036854775807) (hc : -9223372036854775808<=e.cn/\e.cn<=9223372036854775807) (hv:v.wt<=1099511627776) :
  EvP prog 208 [.agg (nF e),.agg (kO d),.agg (aZ v)] (.v (.bool (iQ e d v))):=by
 have Ng:=fun FO FE=>Cs e d v FO FE (Vp FE.1) hn hlo oE hc
 have bZ:v.s.size<=1099511627776/\v.ks.length<=1099511627776:=by
  obtain ⟨k,n,s,ks⟩:=v;have:=cG ks;rw [Val.wt] at hv;exact ⟨by show s.size<=_;omega,by show ks.length<=_;omega⟩
 have hh:=xY v.s bZ.1 e.cn hc.2;have hlen:=fun h=>Qs (e:=e) (d:=d) (v:=v) h;have A5:=fun c=>mayF_2 (e:=e) (d:=d) (v:=v) c;have hm3:=fun c=>mayF_3 (e:=e) (d:=d) (v:=v) c;have lN:=fun a b c=>mayF_0 (e:=e) (d:=d) (v:=v) a b c;have gn:=fun k n s h=>q8 (v:=v) (k:=k) (n:=n) (s:=s) h;generalize iQ e d v=B at Ng hlen A5 hm3 lN ⊢;have XD:(e.ck=2/\d.ag=3)->v.ks=[]->B=(decide (v.k=11) && decide (v.n=0) && decide ((v.s.size:Int)<=d.most) && decide (headL e.cn.toNat (tx v.s)=tx v.s)):=fun c h=>by grind
 have acH:(e.ck=3/\d.ag=5)->v.ks=[]->B=(decide (v.k=12) && decide (v.s=av) && decide (0<=v.n) && decide (v.n<=d.most)):=fun c h=>by grind
 have uv:¬ (e.ck=1/\d.ag=2)->¬ (e.ck=2/\d.ag=3)->¬ (e.ck=3/\d.ag=5)->v.ks=[]->B=(decide (v.k=9) && decide (v.n=e.wide) && decide (v.s=av)):=fun a b c h=>by
  rw [lN a b c,gn _ _ _ h]
 clear A5 hm3 lN gn;generalize headL e.cn.toNat (tx v.s)=HD at hh XD;obtain ⟨q,z,s,ks⟩:=v;simp only [Val.ks,Val.s] at Ng hlen XD acH uv hh bZ;have de:=bl ks;obtain ⟨en,eb,ea,et,q4,ew,eU,ic,rD,iV⟩:=e;obtain ⟨ag,at',lo,hi,most,Cl,es⟩:=d;refine eG 104 [.tmp 6] func208 rfl ntmps208 rfl fun _ _ _ _=>?_;refine br ?_ ?_<;>intro c
 ·have c:0 < ks.length:=sV de c;rw [hlen c];exact (rfl:_=_)
 have c0:ks=[]:=by simp_all
 refine br ?_ ?_<;>intro c
 ·have c:eU=1/\ag=2:=by simpa [ai] using c
  have Ng:=Ng c0 c;refine cP Z0 Ng ?_;exact (rfl:_=_)
 have c1:¬ (eU=1/\ag=2):=by simpa [ai] using c
 refine br ?_ ?_<;>intro c
 ·have c:eU=2/\ag=3:=by simpa [ai] using c
  have hB:B=((decide (q=11) && decide (z=0) && decide ((s.size:Int)<=most)) && decide (HD=tx s)):=XD c c0;have hbt:decide (ba HD=s)=decide (HD=tx s):=decide_eq_decide.2 ⟨fun h=>by rw [<- h,qx],fun h=>by rw [h,zE]⟩;refine dI ?_;refine br ?_ ?_<;>intro g
  ·have g:(decide (q=11) && decide (z=0) && decide ((s.size:Int)<=most))=true:=by simpa [ai] using g
   rw [g,Bool.true_and] at hB;refine cD Uh hh ?_;refine (bF ?_:);rw [hB,<- hbt];rfl
  ·have g:(decide (q=11) && decide (z=0) && decide ((s.size:Int)<=most))=false:=by simpa [ai] using g
   rw [g,Bool.false_and] at hB;rw [hB];exact (rfl:_=_)
 have c2:¬ (eU=2/\ag=3):=by simpa [ai] using c
 refine br ?_ ?_<;>intro c
 ·have c:eU=3/\ag=5:=by simpa [ai] using c
  rw [acH c c0];refine (bF ?_:);simp only [ai];rfl
 have c3:¬ (eU=3/\ag=5):=by simpa [ai] using c
 rw [uv c1 c2 c3 c0];refine (bF ?_:);simp only [ai];rfl
end Go.Proofs.YtgjagnmeonoehaaGreat
