/- Part 6 of the proof: UTF-8, plain: the document's well-formed bytes are the program's; a text's first units; UTF-8: the document's begins, left, Decode; Tables of runes; the unit at a place: the program's and the document's; The library's copyCheck of strings.Builder, laid at this program; The library's Builder at this program: what WriteString and String do to memory, exactly; Rules for the evaluator: the library's Builder, written and read; Rules for the evaluator: the library's Builder: WriteByte, WriteString of any text; a call that is handed a Builder; Texts in quotes: plain; numbers in sixteens; Texts in quotes: numbers in sixteens, which runes may steer a terminal; Texts in quotes: short escapes, kinds of runes; Texts in quotes: the unit at a place, as it is written; Texts in quotes: the document's unit; the program's and the document's Quote; Texts in quotes: the program's and the document's Quote; Values that are the same; Which values fit which nodes: plain, as the program finds it and as the document says it; tree's leaf, kids, Fits; tree.Fits; the document's To, Fits; Values as they are written: plain; tree.write, Raw; Paths: data, Step compared with itself; ref09.Begins, Same on the same path; ref25.Step; A lattice, as its readers know it; Leq; joins are the document's; Where steps lead in a plan, and how places are seen, plain; What is seen of values, and where that differs, plain; Which values may be what is seen of one, plain; How what is seen of values is written: plain; The library's strings.Repeat, laid at this program by the kit's tool (lay-plain; wip/tools/plain2tpl.py); How values without names are written: the program's and the document's Leaf; The document's Bottom, Right of paths; the program's Right of paths; Rules for the evaluator: String of a Builder that holds nothing; The text of a path, of a row: plain, the program's, the document's; How what is seen of values is written: the program's plain, word, of; Reading of values whose numbers are ints, and of arrays of two; What is known of values that are written; how long their texts are: plain; Paths of a value: plain; tree.steps; Where steps lead in a value, and that value with another one there: plain; Rules for the evaluator: calls that hand back fresh rows; Rules for the evaluator: elements of rows whose cells nobody else knows, read and written whole; tree: slices.Index of steps, kid, clone, Get; tree.write, Raw. No condition. -/
import Derived.Shelf.Strings.OnBuilder
import Derived.Shelf.RegionOpenPlain
import Derived.Lib.Strings
import Derived.Lib.Slices
import Derived.Lib.Walk
import Derived.Lib.Builder
import Derived.Lib.AppendStr
import Derived.Lib.UnsafeStr
import Derived.WalkKit
import Derived.Laws.Externs
import Derived.Lib.Hide
import Derived.Shelf.Strings.Repeat
import Derived.OpenShut
import Derived.Test.YtgjagnmeonoehaaGreatMu2
import Derived.Test.YtgjagnmeonoehaaGreatMu3
import Derived.Test.YtgjagnmeonoehaaGreatMu4
import Derived.Test.YtgjagnmeonoehaaGreatMu5
set_option linter.all false
set_option maxRecDepth 100000
namespace Go.Proofs.YtgjagnmeonoehaaGreat
open Go Go.RowKit Dv Go.Proofs.Tryz
theorem sj (c:UInt8) (r:List UInt8):okU (c :: r)=(decide (1<=bm c.toNat) && allC c.toNat r (bm c.toNat - 1)):=rfl
def ZB (l:List UInt8):Bool:=RN (recV l) && decide (aet (recV l)=l)
theorem ly {k:Nat} {a:UInt8} (hk:k < 256):UInt8.ofNat k=a↔k=a.toNat:=by
 constructor
 ·rintro rfl;rw [UInt8.toNat_ofNat'];omega
 ·rintro rfl;exact UInt8.ofNat_toNat
theorem wv (l:List UInt8) {v:Int} (hv:recV l=v):ZB l=true↔(0<=v/\v<=1114111/\(v < 55296∨57343 < v))/\NL v.toNat=l:=by grind [ZB,aet,RN,recV]
theorem mf (c:Nat):(c=224/\iZ c=160)∨(c=240/\iZ c=144)∨(c≠224/\c≠240/\iZ c=128):=by
 unfold iZ
 repeat' split
 all_goals omega
theorem mg (c:Nat):(c=237/\ja c=159)∨(c=244/\ja c=143)∨(c≠237/\c≠244/\ja c=191):=by
 unfold ja
 repeat' split
 all_goals omega
theorem contB_0 (c b:Nat):j2 c 0 b=true↔iZ c<=b/\b<=ja c:=by grind [j2]
theorem sm (c k b:Nat):j2 c (k + 1) b=true↔128<=b/\b<=191:=by grind [j2]
theorem allC_1 (c:Nat) (b:UInt8) (r:List UInt8):allC c (b :: r) 1=j2 c 0 b.toNat:=by simp [allC,List.range_succ]
theorem allC_2 (c:Nat) (b d:UInt8) (r:List UInt8):allC c (b :: d :: r) 2=(j2 c 0 b.toNat && j2 c 1 d.toNat):=by simp [allC,List.range_succ]
theorem allC_3 (c:Nat) (b d e:UInt8) (r:List UInt8):allC c (b :: d :: e :: r) 3=(j2 c 0 b.toNat && j2 c 1 d.toNat && j2 c 2 e.toNat):=by simp [allC,List.range_succ,Bool.and_assoc]
theorem lead_1 (a:Nat):bm a=1↔a < 128:=by
 unfold bm;repeat' split
 all_goals omega
theorem lead_2 (a:Nat):bm a=2↔194<=a/\a<=223:=by
 unfold bm;repeat' split
 all_goals omega
theorem lead_3 (a:Nat):bm a=3↔224<=a/\a<=239:=by
 unfold bm;repeat' split
 all_goals omega
theorem lead_4 (a:Nat):bm a=4↔240<=a/\a<=244:=by
 unfold bm;repeat' split
 all_goals omega
theorem wf_1 (a:UInt8) (r:List UInt8):ZB [a]=true↔okU (a :: r)=true/\bm a.toNat=1:=by
 have ha:=a.toNat_lt;rw [wv _ (v:=(a.toNat:Int)) rfl];rw [lK];unfold NL;rw [sj];constructor
 ·intro ⟨h1,h2⟩;have:a.toNat < 128:=by grind
  have:=(lead_1 _).2 this;rw [this];exact ⟨rfl,rfl⟩
 ·intro ⟨_,h2⟩;have h2:=(lead_1 _).1 h2;rw [aj h2];exact ⟨by omega,by rw [UInt8.ofNat_toNat]⟩
theorem wf_2 (a b:UInt8) (r:List UInt8):ZB [a,b]=true↔okU (a :: b :: r)=true/\bm a.toNat=2:=by
 have ha:=a.toNat_lt;have hb:=b.toNat_lt;rw [wv _ (v:=((a.toNat:Int) - 192) * 64 + ((b.toNat:Int) - 128)) rfl];unfold NL;rw [sj];constructor
 ·grind [ly,lead_2,allC,allC_1,contB_0,mf,mg]
 ·intro ⟨h1,h2⟩;rw [h2] at h1;have h1:(true && allC _ _ 1)=true:=h1;rw [Bool.true_and,allC_1,contB_0] at h1;have hL:=mf a.toNat;have hH:=mg a.toNat
  grind [lead_2,ly]
theorem wf_3 (a b c:UInt8) (r:List UInt8):ZB [a,b,c]=true↔okU (a :: b :: c :: r)=true/\bm a.toNat=3:=by
 have ha:=a.toNat_lt;have hb:=b.toNat_lt;have hc:=c.toNat_lt;rw [wv _ (v:=((a.toNat:Int) - 224) * 4096 + ((b.toNat:Int) - 128) * 64 + ((c.toNat:Int) - 128)) rfl];unfold NL;rw [sj];constructor
 ·intro ⟨h1,h2⟩;generalize hn:((((a.toNat:Int) - 224) * 4096 + ((b.toNat:Int) - 128) * 64 + ((c.toNat:Int) - 128))).toNat=n at h2
  repeat' split at h2
  any_goals (simp at h2;done)
  simp only [List.cons.injEq,and_true] at h2;rw [ly (by omega),ly (by omega),ly (by omega)] at h2
  grind [lead_3,allC,allC_2,contB_0,sm,mf,mg]
 ·intro ⟨h1,h2⟩;rw [h2] at h1;have h1:(true && allC _ _ 2)=true:=h1;rw [Bool.true_and,allC_2,aO,contB_0,sm _ 0] at h1;have hL:=mf a.toNat;have hH:=mg a.toNat;have h2:=(lead_3 _).1 h2;rw [ai (by omega),ai (by omega),aj (by omega)];simp only [List.cons.injEq,and_true]
  grind [ly]
theorem wf_4 (a b c d:UInt8) (r:List UInt8):ZB [a,b,c,d]=true↔okU (a :: b :: c :: d :: r)=true/\bm a.toNat=4:=by
 have ha:=a.toNat_lt;have hb:=b.toNat_lt;have hc:=c.toNat_lt;have hd:=d.toNat_lt;rw [wv _ (v:=((a.toNat:Int) - 240) * 262144 + ((b.toNat:Int) - 128) * 4096 + ((c.toNat:Int) - 128) * 64 + ((d.toNat:Int) - 128)) rfl];unfold NL;rw [sj];constructor
 ·intro ⟨h1,h2⟩;generalize hn:((((a.toNat:Int) - 240) * 262144 + ((b.toNat:Int) - 128) * 4096 + ((c.toNat:Int) - 128) * 64 + ((d.toNat:Int) - 128))).toNat=n at h2
  repeat' split at h2
  any_goals (simp at h2;done)
  simp only [List.cons.injEq,and_true] at h2;rw [ly (by omega),ly (by omega),ly (by omega),ly (by omega)] at h2
  grind [lead_4,allC,allC_3,contB_0,sm,mf,mg]
 ·intro ⟨h1,h2⟩;rw [h2] at h1;have h1:(true && allC _ _ 3)=true:=h1;rw [Bool.true_and,allC_3,aO,aO,contB_0,sm _ 0,sm _ 1] at h1;have hL:=mf a.toNat;have hH:=mg a.toNat;have h2:=(lead_4 _).1 h2;rw [ai (by omega),ai (by omega),ai (by omega)];simp only [List.cons.injEq,and_true];rw [ly (by omega),ly (by omega),ly (by omega),ly (by omega)];omega
theorem Dm (a:Nat):bm a<=4:=by
 unfold bm;repeat' split
 all_goals omega
theorem wx {l:List UInt8} (h:okU l=true):∃ c r,l=c :: r/\1<=bm c.toNat/\bm c.toNat<=l.length/\eW l=bm c.toNat:=by
 cases l with
 | nil=>cases h
 | cons c r=>
  refine ⟨c,r,rfl,?_,?_,?_⟩
  ·grind [okU]
  ·have h0:=h;unfold okU at h;rw [aO] at h;rcases Nat.lt_or_ge r.length (bm c.toNat - 1) with g | g
   ·have h2:=h.2;unfold allC at h2;rw [List.all_eq_true] at h2;have:=h2 r.length (List.mem_range.2 g)
    grind
   ·rw [List.length_cons];omega
  ·show (if _ then _ else _)=_;rw [aj h]
theorem aez (c:UInt8) (r:List UInt8) (n:Nat) (h1:1<=n) (h4:n<=4) (hl:n<=r.length + 1):ZB ((c :: r).take n)=(okU (c :: r) && decide (bm c.toNat=n)):=by
 apply Bool.eq_iff_iff.2;rw [aO,decide_eq_true_iff]
 match n,h1,h4,hl with
 | 1,_,_,_=>exact wf_1 c r
 | 2,_,_,h=>match r,h with
  | b :: r,_=>exact wf_2 c b r
 | 3,_,_,h=>match r,h with
  | b :: d :: r,_=>exact wf_3 c b d r
 | 4,_,_,h=>match r,h with
  | b :: d :: e :: r,_=>exact wf_4 c b d e r
theorem gW {l:List UInt8} (h:l ≠ []):1<=eW l/\eW l<=l.length:=by
 cases l with
 | nil=>exact absurd rfl h
 | cons c r=>
  show 1<=(if _ then _ else _)/\(if _ then _ else _)<=_
  grind [wx]
theorem oQ {a b:List UInt8} (hb:2<=eW b) (h:a.take (eW b)=b.take (eW b)):eW a=eW b:=by
 have bA:okU b=true:=by
  cases b with
  | nil=>exact absurd hb (by decide)
  | cons c r=>grind [okU,eW]
 obtain ⟨c,r,rfl,h1,h2,h3⟩:=wx bA;rw [h3] at h ⊢
 have hl:bm c.toNat<=a.length:=by
  have:=congrArg List.length h
  grind
 have hw:=aez c r (bm c.toNat) h1 (Dm _) h2;rw [bA,decide_eq_true rfl,<- h] at hw
 cases a with
 | nil=>exact absurd hl (by rw [List.length_nil];omega)
 | cons d s=>
  rw [aez d s (bm c.toNat) h1 (Dm _) hl] at hw;rw [Bool.true_and,aO,decide_eq_true_iff] at hw;show (if _ then _ else _)=_;rw [aj hw.1];exact hw.2
def headL:Nat->List UInt8->List UInt8
 | 0,_=>[]
 | u + 1,l=>l.take (eW l) ++ headL u (l.drop (eW l))
theorem ui (u:Nat):headL u []=[]:=by
 induction u with
 | zero=>rfl
 | succ u ih=>show [].take _ ++ headL u ([].drop _)=[];rw [List.take_nil,List.drop_nil,ih];all_goals rfl
theorem uj (u:Nat) (l:List UInt8):headL u l <+: l:=by
 induction u generalizing l with
 | zero=>exact List.nil_prefix
 | succ u ih=>
  obtain ⟨t,ht⟩:=ih (l.drop (eW l));refine ⟨t,?_⟩;show (_ ++ _) ++ t=l
  simp_all
def headsL:Nat->List UInt8->List UInt8->Bool
 | 0,_,_=>true
 | u + 1,a,b=>decide (eW a=eW b) && decide (a.take (eW a)=b.take (eW b)) && headsL u (a.drop (eW a)) (b.drop (eW b))
theorem Gu (u:Nat) {a b:List UInt8} (aw:eW a < eW b):headL (u + 1) a≠headL (u + 1) b:=by
 intro h;have hbn:b ≠ []:=by grind [eW]
 obtain ⟨fx,eP⟩:=gW hbn
 cases a with
 | nil=>grind [ui,headL,eW]
 | cons c r=>
  obtain ⟨ha1,Tz⟩:=gW (l:=c :: r) (by simp);obtain ⟨t,ht⟩:=uj (u + 1) (c :: r)
  grind [headL,eW,oQ]
theorem RS (u:Nat) (a b:List UInt8):headsL u a b=decide (headL u a=headL u b):=by
 induction u generalizing a b with
 | zero=>simp [headsL,headL]
 | succ u ih=>
  rcases Nat.lt_trichotomy (eW a) (eW b) with h | h | h
  ·grind [Gu,headsL]
  ·show (decide (eW a=eW b) && decide (a.take (eW a)=b.take (eW b)) && headsL u (a.drop (eW a)) (b.drop (eW b)))=_;rw [ih,show headL (u + 1) b=b.take (eW b) ++ headL u (b.drop (eW b)) from rfl,show headL (u + 1) a=a.take (eW a) ++ headL u (a.drop (eW a)) from rfl,<- h,decide_eq_true rfl,Bool.true_and];apply Bool.eq_iff_iff.2;rw [aO,decide_eq_true_iff,decide_eq_true_iff,decide_eq_true_iff];constructor
   ·intro ⟨h1,h2⟩;rw [h1,h2]
   ·intro h1;refine List.append_inj h1 ?_
    grind [eW,gW]
  ·grind [Gu,headsL]
theorem Vj (s:ByteArray) (n:Nat):tx (s.extract 0 n)=(tx s).take n:=by simp [tx]
def spB:List DV->Bool
 | [.v (.int .i32 _),.v (.int .i32 _)]=>true
 | _=>false
theorem RT {cs:List DV} (h:spB cs=true):∃ a b:Int,cs=[.v (.int .i32 a),.v (.int .i32 b)]:=by
 unfold spB at h;split at h
 ·exact ⟨_,_,rfl⟩
 ·cases h
theorem aeA {es:List (List DV)} (h:es.all spB=true) {i:Nat} (hi:i < es.length):∃ a b:Int,es[i]? = some [.v (.int .i32 a),.v (.int .i32 b)]:=by
 rw [List.all_eq_true] at h;obtain ⟨a,b,OS⟩:=RT (h es[i] (List.getElem_mem hi))
 grind
def vM (z:Int):List DV->Bool
 | [.v (.int .i32 a),.v (.int .i32 b)]=>decide (a<=z) && decide (z<=b)
 | _=>false
def srtB:Int->List (List DV)->Bool
 | _,[]=>true
 | m,[.v (.int .i32 a),.v (.int .i32 b)] :: r=>decide (m < a) && decide (a<=b) && srtB b r
 | _,_=>false
theorem yW {m:Int} {x:List DV} {r:List (List DV)} (h:srtB m (x :: r)=true):∃ a b:Int,x=[.v (.int .i32 a),.v (.int .i32 b)]/\m < a/\a<=b/\srtB b r=true:=by
 unfold srtB at h
 grind
theorem wy:∀ {es:List (List DV)} {m:Int} (_:srtB m es=true) {i:Nat} {a b:Int} (_:es[i]? = some [.v (.int .i32 a),.v (.int .i32 b)]),m < a/\a<=b/\srtB b (es.drop (i + 1))=true
 | [],_,_,i,_,_,hi=>by simp at hi
 | x :: r,m,h,i,a,b,hi=>by
  obtain ⟨a0,b0,rfl,h1,h2,h3⟩:=yW h
  cases i with
  | zero=>grind
  | succ i=>
   obtain ⟨g1,g2,g3⟩:=wy h3 (i:=i) (sU hi);exact ⟨by omega,g2,g3⟩
theorem RU {z:Int}:∀ {es:List (List DV)} {m:Int} (_:srtB m es=true) (_:z<=m),es.any (vM z)=false
 | [],_,_,_=>rfl
 | x :: r,m,h,hz=>by
  obtain ⟨a0,b0,rfl,h1,h2,h3⟩:=yW h;rw [List.any_cons,RU h3 (by omega),Bool.or_false]
  grind [vM]
theorem ZC {z m:Int} {es:List (List DV)} (h:srtB m es=true) {i:Nat} {a b:Int} (hi:es[i]? = some [.v (.int .i32 a),.v (.int .i32 b)]) (hz:z < a):(es.drop i).any (vM z)=false:=by
 obtain ⟨g1,g2,g3⟩:=wy h hi;rw [drop_cons hi,List.any_cons,RU g3 (by omega),Bool.or_false]
 grind [vM]
theorem RV {z:Int}:∀ {es:List (List DV)} {m:Int} (_:srtB m es=true) {i:Nat} {a b:Int} (_:es[i]? = some [.v (.int .i32 a),.v (.int .i32 b)]) (_:b < z),(es.take (i + 1)).any (vM z)=false
 | [],_,_,i,_,_,hi,_=>by simp at hi
 | x :: r,m,h,i,a,b,hi,hz=>by
  obtain ⟨a0,b0,rfl,h1,h2,h3⟩:=yW h
  cases i with
  | zero=>grind [vM]
  | succ i=>
   have hi:r[i]? = some [.v (.int .i32 a),.v (.int .i32 b)]:=sU hi;have g1:=(wy h3 hi).1;have g2:=(wy h3 hi).2.1;rw [List.take_succ_cons,List.any_cons,RV h3 hi hz,Bool.or_false]
   grind [vM]
theorem Vk {es:List (List DV)} {z a b:Int} {i:Nat} (hi:es[i]? = some [.v (.int .i32 a),.v (.int .i32 b)]) (h1:a<=z) (h2:z<=b):es.any (vM z)=true:=
 List.any_eq_true.2 ⟨_,mG hi,by simp only [vM,aO,decide_eq_true_iff];omega⟩
def aeB (d:DV) (_:List (List DV)) (_:List TkE):Prop:=∃ es:List (List DV),d = .sl 2 es none/\(Nat.ble es.length 1000 && es.all spB)=true
set_option maxHeartbeats 4000000 in
theorem RW:Ev prog 357 [] [] [] aeB:=by
 refine eG 118 [.tmp 0] func357 rfl ntmps357 rfl fun _ _ _ _=>?_;exact ⟨_,ax,_,rfl,rfl⟩
set_option maxHeartbeats 4000000 in
theorem RX:Ev prog 358 [] [] [] aeB:=by
 refine eG 84 [.tmp 0] func358 rfl ntmps358 rfl fun _ _ _ _=>?_;exact ⟨_,ax,_,rfl,rfl⟩
abbrev ZD (es:List (List DV)) (z:Int) (lo hi:Nat):St:=⟨[bi 0 2 es,(1,⟨[],.v (.int .i32 z)⟩),ay 5 lo,ay 6 hi],[],[]⟩
theorem Dp (es:List (List DV)) (z:Int) (hl:es.length<=1000) (hs:es.all spB=true):Ev prog 356 [.sl 2 es none,.v (.int .i32 z)] [] [] (fun d _ _=>∃ b:Bool,d = .v (.bool b)/\∀ m,srtB m es=true->b=es.any (vM z)):=by
 refine eG 38 [.tmp 4] func356 rfl ntmps356 rfl fun _ _ _ _=>?_;refine lI (fun j st=>∃ lo hi:Nat,st=ZD es z lo hi/\lo<=hi/\hi<=es.length/\(∀ m,srtB m es=true->(es.take lo).any (vM z)=false/\(es.drop hi).any (vM z)=false)/\j=hi - lo) ⟨0,es.length,rfl,by omega,by omega,fun _ _=>⟨rfl,by rw [List.drop_length];rfl⟩,rfl⟩ (bG j8) ?_;rintro j st ⟨lo,hi,rfl,h1,h2,hiv,rfl⟩;refine br ?_ ?_<;>intro hL
 rotate_left
 ·have hge:lo=hi:=by have:=of_decide_eq_false hL;omega
  refine ⟨_,rfl,fun m hm=>?_⟩;obtain ⟨g1,g2⟩:=hiv m hm;rw [<- hge] at g2;rw [<- List.take_append_drop lo es,List.any_append,g1,g2];all_goals rfl
 have aw:lo < hi:=by have:=of_decide_eq_true hL;omega
 have hm:IntKind.i64.wrap ((lo:Int) + IntKind.i64.wrap ((IntKind.i64.wrap ((hi:Int) - lo)).tdiv 2))=((lo + (hi - lo) / 2:Nat):Int):=by grind [wrap64]
 obtain ⟨a,b,OS⟩:=aeA hs (i:=lo + (hi - lo) / 2) (by omega);refine ⟨⟨rfl,by decide⟩,?_⟩;refine ⟨_,⟨by rw [hm];omega,by rw [hm,lK];exact OS⟩,?_⟩;refine br ?_ ?_<;>intro c
 ·exact ⟨ZD es z lo (lo + (hi - lo) / 2),(bG (dH hm)),lo + (hi - lo) / 2 - lo,by omega,_,_,rfl,by omega,by omega,fun m hm=>⟨(hiv m hm).1,ZC hm OS (sU c)⟩,rfl⟩
 ·refine ⟨_,⟨by rw [hm];omega,by rw [hm,lK];exact OS⟩,?_⟩;have c0:=c;refine br ?_ ?_<;>intro c
  ·have Cj:IntKind.i64.wrap (IntKind.i64.wrap ((lo:Int) + IntKind.i64.wrap ((IntKind.i64.wrap ((hi:Int) - lo)).tdiv 2)) + 1)=((lo + (hi - lo) / 2 + 1:Nat):Int):=by
    rw [hm,wrap64 (by omega) (by omega)];omega
   exact ⟨ZD es z (lo + (hi - lo) / 2 + 1) hi,(bG (dH Cj)),hi - (lo + (hi - lo) / 2 + 1),by omega,_,_,rfl,by omega,by omega,fun m hm=>⟨RV hm OS (sU c),(hiv m hm).2⟩,rfl⟩
  ·exact ⟨_,rfl,fun _ _=>(Vk OS (sU c0) (sU c)).symm⟩
theorem Gv (z:Int):Ev prog 339 [.v (.int .i32 z)] [] [] (fun d _ _=>∃ b:Bool,d = .v (.bool b)):=by
 refine eG 6 [.tmp 2] func339 rfl ntmps339 rfl fun _ _ _ _=>?_;refine cE acR rfl RW ax (fun q hq=>?_);obtain ⟨es,rfl,he⟩:=hq;rw [aO,Nat.ble_eq] at he;refine cE AJ rfl (Dp es z he.1 he.2) ax (fun q hq=>?_);obtain ⟨b,rfl,_⟩:=hq;exact ⟨_,rfl⟩
theorem Gw (z:Int):Ev prog 340 [.v (.int .i32 z)] [] [] (fun d _ _=>∃ b:Bool,d = .v (.bool b)):=by
 refine eG 6 [.tmp 2] func340 rfl ntmps340 rfl fun _ _ _ _=>?_;refine cE acS rfl RX ax (fun q hq=>?_);obtain ⟨es,rfl,he⟩:=hq;rw [aO,Nat.ble_eq] at he;refine cE AJ rfl (Dp es z he.1 he.2) ax (fun q hq=>?_);obtain ⟨b,rfl,_⟩:=hq;exact ⟨_,rfl⟩
theorem NN (z:Int):Ev prog 309 [.v (.int .i32 z)] [] [] (fun d _ _=>∃ n:Int,d = .v (.int .i64 n)):=by
 refine eG 9 [.tmp 2] func309 rfl ntmps309 rfl fun _ _ _ _=>?_;refine cE acM rfl (Gv z) ax (fun q hq=>?_);obtain ⟨b,rfl⟩:=hq
 cases b with
 | true=>exact ⟨_,rfl⟩
 | false=>
  refine cE acN rfl (Gw z) ax (fun q hq=>?_);obtain ⟨b,rfl⟩:=hq
  cases b with
  | true=>exact ⟨_,rfl⟩
  | false=>exact ⟨_,rfl⟩
theorem RY (s:ByteArray) (hs:s.size<=1099511627776):EvP prog 308 [.v (.string s),.v (.int .i64 (s.size:Nat))] (.tup [.v (.int .i32 0),.v (.int .i64 0),.v (.bool false)]):=by
 refine eG 60 [.tmp 4,.tmp 5,.tmp 6] func308 rfl ntmps308 rfl fun _ _ _ _=>?_;refine br (fun _=>?_) (fun c=>absurd c (by simp [au]));exact ⟨_,ax,rfl⟩
theorem um (s:ByteArray) (at':Nat) (hs:s.size<=1099511627776) (h:at' <= s.size):Ev prog 260 [.v (.string s),.v (.int .i64 at')] [] [] (fun d _ _=>∃ c:Int,d = .tup [.v (.int .i64 c),.v (.int .i64 (eW ((tx s).drop at'):Nat))]):=by
 cases hd:(tx s).drop at' with
 | nil=>
  have he:at'=s.size:=by
   have:=congrArg List.length hd;rw [List.length_drop,dg,List.length_nil] at this;omega
  subst he;refine eG 24 [.tmp 4,.tmp 5] func260 rfl ntmps260 rfl fun _ _ _ _=>?_;refine cP P8 (RY s hs) ?_;exact ⟨.tup [.v (.int .i64 0),.v (.int .i64 ((0:Nat):Int))],ax,_,rfl⟩
 | cons c r=>
  have hu:=Bz s at' hs c r hd;have Wf:eW (c :: r)=if okU (c :: r)=true then bm c.toNat else 1:=rfl
  rw [Wf];generalize okU (c :: r)=ok at hu ⊢;refine eG 24 [.tmp 4,.tmp 5] func260 rfl ntmps260 rfl fun _ _ _ _=>?_;refine cE P8 rfl hu ax (fun q hq=>?_);obtain ⟨z,n,rfl,hn,hp⟩:=hq
  cases ok with
  | true=>
   have:=(hn rfl).1;subst this;refine cE acE rfl (NN z) ax (fun q hq=>?_);obtain ⟨m,rfl⟩:=hq;exact ⟨.tup [.v (.int .i64 m),.v (.int .i64 (bm c.toNat:Nat))],ax,_,rfl⟩
  | false=>
   refine br (fun _=>?_) (fun g=>absurd g (by simp;omega));exact ⟨.tup [.v (.int .i64 1),.v (.int .i64 ((1:Nat):Int))],ax,_,rfl⟩
end Go.Proofs.YtgjagnmeonoehaaGreat
set_option maxRecDepth 100000
namespace Go.Proofs
open Go.Shelf
def Tryz.laysB_ren:Go.Shelf.Ren:=⟨fun | 240=>149 | 276=>217 | n=>n,fun | 9=>9 | 4=>4 | 0=>0 | 20=>20 | 72=>160 | 70=>157 | 37=>158 | 164=>316 | 5=>5 | n=>n,fun | n=>n⟩
theorem Tryz.laysB:Go.Proofs.Lays.n240 Tryz.prog Tryz.laysB_ren:={
 mixed:=by kernel_rfl
 f240:=Tryz.func149.trans (congrArg some (by kernel_rfl))
 f276:=Tryz.func217.trans (congrArg some (by kernel_rfl))
 t0:=Tryz.underlying0
 a0:=Tryz.isAgg0
 z0:=Tryz.sizeOf0
 v0:=Tryz.zeroValue0
 t4:=Tryz.underlying4
 a4:=Tryz.isAgg4
 z4:=Tryz.sizeOf4
 v4:=Tryz.zeroValue4
 t9:=Tryz.underlying9
 a9:=Tryz.isAgg9
 z9:=Tryz.sizeOf9
 v9:=Tryz.zeroValue9
 t20:=Tryz.underlying20
 a20:=Tryz.isAgg20
 z20:=Tryz.sizeOf20
 v20:=Tryz.zeroValue20
 t70:=Tryz.underlying157
 a70:=Tryz.isAgg157
 z70:=Tryz.sizeOf157
 v70:=Tryz.zeroValue157
 t72:=Tryz.underlying160
 a72:=Tryz.isAgg160
 z72:=Tryz.sizeOf160
 v72:=Tryz.zeroValue160
 t164:=Tryz.underlying316
 a164:=Tryz.isAgg316
 z164:=Tryz.sizeOf316
 v164:=Tryz.zeroValue316 }
theorem Tryz.laysBX:Builder.Extra Tryz.prog Tryz.laysB_ren:={
 sizeBuilder:=by kernel_rfl
 liesBuilder:=by kernel_rfl
 t5:=Tryz.underlying5
 a5:=Tryz.isAgg5
 z5:=Tryz.sizeOf5
 v5:=Tryz.zeroValue5
 infoByte:=by kernel_rfl
 cellsByte:=by kernel_rfl
 sizeByte:=by kernel_rfl
 neB5:=by decide }
end Go.Proofs
set_option maxRecDepth 100000
namespace Go.Proofs.YtgjagnmeonoehaaGreat
open Go Go.RowKit Go.Lib Dv Go.Proofs.Tryz
theorem nr {P:Program} (w:World) (t u ty e:TypeId) (i:TypeInfo) (ht:P.underlying t=some (.slice e)) (hu:P.underlying u=some .string) (hi:P.info? e=some i) (hz:i.zero=some (.int .u8 0))
  (kp:i.size=1) (qh:i.bytes=1) (v:Value) (n:Nat) (xs:List Value) (dm:w.ownsRow 0 e 1 v n xs) (s:ByteArray) (OH:n + s.size<=maxLen) (kr:n + s.size<=140737488355328) (hs:0 < s.size) :
  ∃ g cap w',(Builtin.append_ #[t,u] ty #[v,.string s]).run P w = .ok (.slice (some ⟨g,0,none⟩) (n + s.size) cap) w' /\ w'.ownsRow 0 e 1 (.slice (some ⟨g,0,none⟩) (n + s.size) cap) (n + s.size) (xs ++ strCells s)/\w.grownBy w' v.ownBlock /\
   ((v.ownBlock=some g)∨(w.heap.size<=g/\∀ k,k < w.heap.size->w'.heap[k]? = w.heap[k]?)):=by
 obtain ⟨v',w',hr,h2,h3,h4⟩:=Lib.run_append_own_string (P:=P) w 0 t u ty e i ht hu hi hz kp qh v n xs dm s OH kr (Nat.zero_le _);have O6:n + s.size<=9223372036854775807:=by simp only [maxLen] at OH;omega
 have vY:xs.length=n:=by simpa using dm.1
 rcases dm.2 with ⟨rfl,rfl⟩ | ⟨g,cap,cur,rfl,hbg,hg,vq,hcm,hcs,htake⟩
 ·have nO:=run_append_nil_string (P:=P) w t u ty e i (.int .u8 0) ht hu hi hz s hs (by omega) (by rw [qh];omega);rw [nO] at hr;injection hr with e1 e2
  subst e1;simp only [Nat.zero_add] at *;exact ⟨_,_,w',by rw [nO,e2],h2,h3,.inr ⟨aR _,fun k hk=>by rw [<- e2];exact Below.heap_alloc w.drew _ k hk⟩⟩
 ·by_cases KB:n + s.size<=cap
  ·have hcs':cur.size=cap:=sU hcs;have nO:=Lib.run_append_room_string (P:=P) w t u ty e i ht hu hi kp g n cap cur hg s KB (by omega);rw [nO] at hr;injection hr with e1 e2
   subst e1;exact ⟨_,_,w',by rw [nO,e2],h2,h3,.inl rfl⟩
  ·have holds:∀ j u,xs[j]? = some u->w.cell? ((⟨g,0,none⟩:Addr).add j)=some u:=dm.cells (g:=g) rfl;have nO:=Lib.run_append_grow_string (P:=P) w t u ty e i (.int .u8 0) ht hu hi hz ⟨g,0,none⟩ n cap xs (by rw [kp];simpa using vY) holds s (by omega) (by omega) (by rw [qh];exact growslice_fits (by omega) (by omega));rw [nO] at hr;injection hr with e1 e2
   subst e1;exact ⟨_,_,w',by rw [nO,e2],h2,h3,.inr ⟨aR _,fun k hk=>by rw [<- e2];exact Below.heap_alloc w.drew _ k hk⟩⟩
theorem oR {w:World} {b:Nat} {o:Obj} (h:w.heap[b]? = some o):World.di w b o=w:=by
 obtain ⟨hb,hg⟩:=Array.getElem?_eq_some_iff.1 h;have e:w.heap.setIfInBounds b o=w.heap:=by grind
 show { w with heap:=w.heap.setIfInBounds b o }=w;rw [e]
abbrev gh (w:World) (b:Nat) (v:Value):World:=World.di w b (.cells #[.pointer (some ⟨b,0,none⟩),v] 160 (0,0))
theorem sq (b:Nat) (p v:Value) (w:World) (hp:p = .pointer none∨p = .pointer (some ⟨b,0,none⟩)) (na:w.heap[b]? = some (.cells #[p,v] 160 (0,0))) :
  Calls prog 149 #[.pointer (some ⟨b,0,none⟩)] w fun e w'=>e = .returned (.tuple #[])/\w'=gh w b v:=by
 rcases hp with rfl | rfl
 ·refine (Any.Builder_copyCheck_fresh Tryz.laysB Tryz.laysBX.toX72 b w (by rw [Lib.cell_of_heap na];rfl) (by simp [World.shape?,na,Tryz.laysB_ren]) (by simp [World.frozen?,na])).mono ?_;rintro e w' ⟨rfl,rfl⟩;exact ⟨rfl,by rw [eF na];rfl⟩
 ·refine (Any.Builder_copyCheck_used Tryz.laysB Tryz.laysBX.toX72 b w (by rw [Lib.cell_of_heap na];rfl)).mono ?_;rintro e w' ⟨rfl,rfl⟩;exact ⟨rfl,(oR na).symm⟩
theorem qN {P:Program} {w:World} {ops:Array Oper} {rest:List Oper} {o:Oper} {a:Act} {Q:Exit->Act->World->Prop} (OQ:o.guard=none) (sl x:Operand) (t u:TypeId)
  (ho:o.op = .call { callee:=.builtin .append,args:=#[sl,x],argTypes:=#[t,u] })
  (e:TypeId) (i:TypeInfo) (ht:P.underlying t=some (.slice e)) (hu:P.underlying u=some .string) (hi:P.info? e=some i) (hz:i.zero=some (.int .u8 0))
  (kp:i.size=1) (qh:i.bytes=1)
  (v:Value) (n:Nat) (xs:List Value) (hs:a.eval sl=v) (dm:w.ownsRow 0 e 1 v n xs) (s:ByteArray) (hx:a.eval x = .string s)
  (OH:n + s.size<=maxLen) (kr:n + s.size<=140737488355328) (kB:0 < s.size)
  (h:∀ g cap w',w'.ownsRow 0 e 1 (.slice (some ⟨g,0,none⟩) (n + s.size) cap) (n + s.size) (xs ++ strCells s)->w.grownBy w' v.ownBlock->((v.ownBlock=some g)∨(w.heap.size<=g/\∀ k,k < w.heap.size->w'.heap[k]? = w.heap[k]?)) ->
   wpList P ops Q rest (a.put o.dst (.slice (some ⟨g,0,none⟩) (n + s.size) cap)) w'):wpList P ops Q (o :: rest) a w:=by
 refine wpList_plain OQ fun K hK=>?_;obtain ⟨g,cap,w',hr,h2,h3,h4⟩:=nr (P:=P) w t u o.type e i ht hu hi hz kp qh v n xs dm s OH kr kB;unfold Oper.wp execOp;simp only [ho,resolve,invoke,builtin,Sem.run_bind,Sem.run_pure,Result.andThen_ok,List.map_toArray,List.map_cons,List.map_nil,hs,hx,hr];exact hK _ _ (h g cap w' h2 h3 h4)
def JC (ret:Value) (w:World) (b:Nat) (v:Value) (n:Nat) (xs:List Value) (s:ByteArray) (e:Ending) (w':World):Prop:=
 e = .returned ret/\∃ g cap w2,w2.ownsRow 0 5 1 (.slice (some ⟨g,0,none⟩) (n + s.size) cap) (n + s.size) (xs ++ strCells s)/\(gh w b v).grownBy w2 v.ownBlock /\
  ((v.ownBlock=some g)∨((gh w b v).heap.size<=g/\∀ k,k < (gh w b v).heap.size->w2.heap[k]? = (gh w b v).heap[k]?)) /\
  w'=World.di w2 b (.cells #[.pointer (some ⟨b,0,none⟩),.slice (some ⟨g,0,none⟩) (n + s.size) cap] 160 (0,0))
theorem Dq {w:World} {b e n:Nat} {v:Value} {xs:List Value} {o:Obj} (h:w.ownsRow 0 e 1 v n xs) (aY:v.ownBlock≠some b):(World.di w b o).ownsRow 0 e 1 v n xs:=by
 refine ⟨h.1,?_⟩;rcases h.2 with h | ⟨g,cap,cur,rfl,h1,h2,h3⟩
 ·exact .inl h
 ·refine .inr ⟨g,cap,cur,rfl,h1,?_,h3⟩;rw [cG]
  ·exact h2
  ·rintro rfl;exact aY rfl
set_option maxHeartbeats 2000000 in
theorem RZ (b:Nat) (p v:Value) (n:Nat) (xs:List Value) (s:ByteArray) (w:World) (hp:p = .pointer none∨p = .pointer (some ⟨b,0,none⟩)) (na:w.heap[b]? = some (.cells #[p,v] 160 (0,0)))
  (dm:w.ownsRow 0 5 1 v n xs) (aY:v.ownBlock≠some b) (hs:0 < s.size) (hlen:n + s.size<=140737488355328) :
  Calls prog 74 #[.pointer (some ⟨b,0,none⟩),.string s] w (JC (.tuple #[.int .i64 s.size,.nilIface]) w b v n xs s):=by
 obtain ⟨i0,hi,TM,hz1,Y8⟩:=info_parts Tryz.laysBX.infoByte
 go_enter func74,ntmps74
 go_wp2_with (go_at_call 149;refine (sq b p v _ hp na).mono ?_)
 rintro e w1 ⟨rfl,rfl⟩;have fx:(gh w b v).heap[b]? = some (.cells #[.pointer (some ⟨b,0,none⟩),v] 160 (0,0)):=du na;have Gx:(gh w b v).ownsRow 0 5 1 v n xs:=Dq dm aY;have c0:(gh w b v).cell? ⟨b,0,none⟩=some (.pointer (some ⟨b,0,none⟩)):=by rw [Lib.cell_of_heap fx];all_goals rfl
 have c1:(gh w b v).cell? ⟨b,1,none⟩=some v:=by rw [Lib.cell_of_heap fx];all_goals rfl
 have aw:b < (gh w b v).heap.size:=dj fx;obtain ⟨W1,JD⟩:∃ W1,W1=gh w b v:=⟨_,rfl⟩;rw [<- JD] at fx Gx c0 c1 aw ⊢;have HW:=Lib.hid JD;clear JD
 go_wp2_with (at_builtin;refine qN rfl _ _ 158 9 rfl 5 i0 Tryz.underlying158 Tryz.underlying9 hi TM hz1 Y8 _ _ _ rfl Gx s rfl ?c3 ?c4 hs ?_)
 case c3=>unfold maxLen;omega
 case c4=>omega
 intro g cap w2 R0 nK Ew
 have eP:w2.heap[b]? = some (.cells #[.pointer (some ⟨b,0,none⟩),v] 160 (0,0)):=by
  rw [nK.block b aw (fun e=>aY e.symm)];exact fx
 have d0:w2.cell? ⟨b,0,none⟩=some (.pointer (some ⟨b,0,none⟩)):=by rw [Lib.cell_of_heap eP];all_goals rfl
 have d1:w2.cell? ⟨b,1,none⟩=some v:=by rw [Lib.cell_of_heap eP];all_goals rfl
 have f1:w2.frozen? ⟨b,1,none⟩=false:=Lib.frozen_of_heap eP 1
 go_wp2
 go_ret2
 refine ⟨rfl,g,cap,w2,R0,by rw [<- HW.out];exact nK,by rw [<- HW.out];exact Ew,?_⟩;rw [eF eP];rfl
set_option maxHeartbeats 1000000 in
theorem ZE (b g cap:Nat) (p:Value) (l:List UInt8) (cur:Array Value) (w:World) (h0:l ≠ []) (na:w.heap[b]? = some (.cells #[p,.slice (some ⟨g,0,none⟩) l.length cap] 160 (0,0)))
  (hg:w.heap[g]? = some (.cells cur 5 (0,0))) (vq:l.length<=cap) (hcm:cap<=maxLen) (hcs:cur.size=cap * 1) (htake:cur.toList.take (l.length * 1)=Lib.byteCells l) :
  Calls prog 76 #[.pointer (some ⟨b,0,none⟩)] w fun e w'=>e = .returned (.string ⟨l.toArray⟩)/\w'=w.drew.freeze ⟨g,0,none⟩ l.length:=by
 have HR:l.length≠0:=sU h0;have dm:w.ownsRow 0 5 1 (.slice (some ⟨g,0,none⟩) l.length cap) l.length (Lib.byteCells l):=⟨by rw [Lib.byteCells_length,Nat.mul_one],.inr ⟨g,cap,cur,rfl,Nat.zero_le _,hg,vq,hcm,hcs,htake⟩⟩
 have c1:w.drew.cell? ⟨b,1,none⟩=some (.slice (some ⟨g,0,none⟩) l.length cap):=by
  have:w.drew.heap[b]? = some (.cells #[p,.slice (some ⟨g,0,none⟩) l.length cap] 160 (0,0)):=na;rw [Lib.cell_of_heap this];all_goals rfl
 have hSD:(Builtin.unsafeSliceData_ #[158] 258 #[.slice (some ⟨g,0,none⟩) l.length cap]).run prog w.drew = .ok (.pointer (some ⟨g,0,none⟩)) w.drew:=
  Lib.run_unsafeSliceData_row _ _ _ _ _ _ (by omega)
 have hUS:(Builtin.unsafeString_ #[258,3] 9 #[.pointer (some ⟨g,0,none⟩),.int .i64 l.length]).run prog w.drew = .ok (.string ⟨l.toArray⟩) (w.drew.freeze ⟨g,0,none⟩ l.length):=by
  refine Lib.run_unsafeString_row w.drew 258 3 9 5 Tryz.underlying258 (by kernel_rfl) g cur.size (by have qX:w.drew.heap[g]? = some (.cells cur 5 (0,0)):=hg;simp [World.shape?,qX]) l h0 (by omega) (by unfold maxLen at hcm;omega) ?_;intro j x hx;have:=dm.cells (g:=g) rfl j (.int .u8 x.toNat) (by simp [Lib.byteCells,hx]);exact this
 clear dm htake hcs hg;have mixed:=mo
 go_enter func76,ntmps76
 go_wp2
 go_region_o
 all_goals (go_wp2;go_ret;exact ⟨rfl,rfl⟩)
end Go.Proofs.YtgjagnmeonoehaaGreat
set_option maxRecDepth 100000
namespace Go.Proofs.YtgjagnmeonoehaaGreat
open Go Go.RowKit Dv Go.Proofs.Tryz
def bD (l:List UInt8):List (List DV):=l.map fun c=>[DV.v (.int .u8 c.toNat)]
theorem uo (l:List UInt8):(bD l).length=l.length:=by simp [bD]
theorem R4 {E:En}:∀ l:List UInt8,RvC E (bD l).flatten (Lib.byteCells l)
 | []=>⟨cS _,by simp [Lib.byteCells]⟩
 | c :: r=>by
  obtain ⟨h1,h2⟩:=R4 (E:=E) r;refine ⟨?_,fun v hv=>?_⟩
  ·simp only [bD,List.map_cons,List.flatten_cons,List.cons_append,List.nil_append,Lib.byteCells];exact rvL_cons (by unfold Rv;exact ⟨rfl,rfl⟩) h1
  ·simp only [Lib.byteCells,List.map_cons,List.mem_cons] at hv;rcases hv with rfl | hv
   ·rfl
   ·exact h2 v hv
theorem LS {E:En}:∀ {l:List UInt8} {arr:List Value},RvL E (bD l).flatten arr->arr=Lib.byteCells l
 | [],arr,h=>by simpa [bD,RvL,Lib.byteCells] using h
 | c :: r,arr,h=>by
  simp only [bD,List.map_cons,List.flatten_cons,List.cons_append,List.nil_append,RvL] at h;obtain ⟨v,s,rfl,h1,h2⟩:=h;unfold Rv at h1;rw [h1.1,LS (l:=r) h2];rfl
theorem strCells_eq (s:ByteArray):Lib.strCells s=Lib.byteCells s.data.toList:=rfl
theorem JE {X:Ctx} {E:En} {st:St} {a:Act} {w:World} (h:Rel X E st a w) {kt:Nat} {l:List UInt8} {cv:Value} (hl:l ≠ []) (jG:st.tk[kt]? = some ⟨l.length,5,1,none⟩) (hv:Rv E (.sl 1 (bD l) (some kt)) cv) :
  ∃ g cap cur,cv = .slice (some ⟨g,0,none⟩) l.length cap/\w.heap[g]? = some (.cells cur 5 (0,0))/\l.length<=cap/\cap<=maxLen/\cur.size=cap * 1/\cur.toList.take (l.length * 1)=Lib.byteCells l/\g ∉ E.β/\E.τ[kt]? = some cv:=by
 have aY:bD l ≠ []:=by grind [uo]
 have kB:0 < l.length:=List.length_pos_iff.2 hl;unfold Rv at hv;obtain ⟨bs,ns,lR,rfl,⟨rfl,Mz⟩,OM,wW⟩:=hv;rw [uo] at Mz;obtain ⟨q,hq,_,hτ⟩:=wW kt rfl;rw [h.tk,jG] at hq;simp only [oI] at hq;subst hq;have hy:=hτ (uo l);rcases h.env.bU kt _ _ (by rw [h.tk];exact jG) hy with ⟨pj,ku⟩ | ⟨g,cap,cur,pj,hw0,sK,vq,hcm,iC,H7⟩
 ·simp only at ku;omega
 ·injection pj with i1 i2 i3
  subst i1 i3;refine ⟨g,lR,cur,by rw [uo],hw0,vq,hcm,sK.1,?_,iC,by rw [hy]⟩;obtain ⟨_,T9⟩:=OM aY;obtain ⟨MB,fx,eP,Ee⟩:=T9.wO;have ha:=LS fx.1;subst ha;apply List.ext_getElem?;intro j;rw [uo] at eP;rcases Nat.lt_or_ge j (Lib.byteCells l).length with hj | hj
  ·have h5:=h.env.sub _ _ (Ee j _ (gE hj));simp only [ab,ao,Nat.zero_add] at h5;rw [cL hw0] at h5;rw [cI,aj (by omega),gE hj];simpa using h5
  ·grind
theorem Vl {X:Ctx} {E:En} {st:St} {a:Act} {w:World} (h:Rel X E st a w) {kt:Nat} {l:List UInt8} {cv:Value} (jG:st.tk[kt]? = some ⟨l.length,5,1,none⟩) (hv:Rv E (.sl 1 (bD l) (some kt)) cv) :
  w.ownsRow 0 5 1 cv l.length (Lib.byteCells l)/\E.τ[kt]? = some cv/\∀ b∈E.β,cv.ownBlock≠some b:=by
 cases l with
 | cons c r=>
  obtain ⟨g,cap,cur,rfl,hg,vq,hcm,hcs,htake,Yb,hτ⟩:=JE h (List.cons_ne_nil c r) jG hv;refine ⟨⟨by rw [Lib.byteCells_length,Nat.mul_one],.inr ⟨g,cap,cur,rfl,Nat.zero_le _,hg,vq,hcm,hcs,htake⟩⟩,hτ,fun b hb he=>?_⟩;simp only [Value.ownBlock,oI] at he;exact Yb (he ▸ hb)
 | nil=>
  unfold Rv at hv;obtain ⟨bs,ns,lR,rfl,⟨rfl,Mz⟩,OM,wW⟩:=hv;obtain ⟨q,hq,_,hτ⟩:=wW kt rfl;rw [h.tk,jG] at hq;simp only [oI] at hq;subst hq;have hy:=hτ rfl;rcases h.env.bU kt _ _ (by rw [h.tk];exact jG) hy with ⟨pj,ku⟩ | ⟨g,cap,cur,pj,hw0,sK,vq,hcm,iC,H7⟩
  ·rw [pj] at hy ⊢;exact ⟨⟨rfl,.inl ⟨rfl,rfl⟩⟩,hy,fun b _ he=>by simp [Value.ownBlock] at he⟩
  ·rw [pj] at hy ⊢;refine ⟨⟨rfl,.inr ⟨g,cap,cur,rfl,Nat.zero_le _,hw0,vq,hcm,sK.1,by simp [Lib.byteCells]⟩⟩,hy,fun b hb he=>?_⟩;simp only [Value.ownBlock,oI] at he;exact iC (he ▸ hb)
theorem yX {f:FuncId} {xd rd:DV} {ret:Value} {X:Ctx} {st:St} {k:List It} (hP:X.P=prog) {i kt d:Nat} {p c:DV} {l:List UInt8} {s:ByteArray} {cC:List TkE} (hbt:(i,160)∈X.bt) (jA:st.bx[i]? = some [p,c])
  (hp:p = .v (.pointer none)∨p = .loc i 0)
  (hc:(c = .v (.slice none 0 0)/\l=[]/\kt=st.tk.length/\cC=st.tk ++ [⟨s.size,5,1,none⟩])∨(c = .sl 1 (bD l) (some kt)/\st.tk[kt]? = some ⟨l.length,5,1,none⟩/\cC=st.tk.set kt ⟨l.length + s.size,5,1,none⟩))
  (kY:Enters prog f) (O1:∀ E,Rv E rd ret)
  (kX:∀ (E:En) (b n:Nat) (p v x:Value) (xs:List Value) (w:World),Rv E xd x->p = .pointer none∨p = .pointer (some ⟨b,0,none⟩)->w.heap[b]? = some (.cells #[p,v] 160 (0,0))->w.ownsRow 0 5 1 v n xs->v.ownBlock≠some b->n + s.size<=140737488355328->Calls prog f #[.pointer (some ⟨b,0,none⟩),x] w (JC ret w b v n xs s))
  (hs:0 < s.size) (hlen:l.length + s.size<=140737488355328) (hd:ep X.nt st.sl (some d)=true)
  (hk:go X 4000 k ⟨(d,⟨[],rd⟩) :: st.sl,st.bx.set i [.loc i 0,.sl 1 (bD (l ++ s.data.toList)) (some kt)],cC⟩)
  (bd:X.still=false:=by exact rfl):CallG X f [.loc i 0,xd] (some d) k st:=by
 refine ⟨?_,bd,fun E a w vs h hv=>?_⟩
 ·rw [hP];exact kY
 rw [hP];simp only [RvL] at hv;obtain ⟨v1,vr,rfl,h1,v2,vr2,rfl,h2,rfl⟩:=hv;unfold Rv at h1;obtain ⟨b,hb,rfl⟩:=h1;obtain ⟨b',ty,arr,eD,hw,vx⟩:=h.env.ey i _ jA;rw [hb] at eD;simp only [oI] at eD;subst eD;obtain ⟨TF,nu⟩:=h.bt _ hbt b hb;rw [hw] at nu;simp only [oI,Obj.cells.injEq] at nu;have Pg:ty=160:=nu.2.1;subst Pg;obtain ⟨hr,ho⟩:=vx;simp only [RvL] at hr;obtain ⟨pv,r1,rfl,NO,cv,r2,rfl,hcv,rfl⟩:=hr
 have R5:pv = .pointer none∨pv = .pointer (some ⟨b,0,none⟩):=by
  rcases hp with rfl | rfl
  ·exact .inl (bB NO)
  ·unfold Rv at NO;obtain ⟨b2,eP,rfl⟩:=NO;rw [hb] at eP;simp only [oI] at eP;subst eP;exact .inr rfl
 have AD:b∈E.β:=mG hb;have LU:st.tk.length=E.tk.length:=by rw [h.tk]
 have key:∃ xs:List Value,xs=Lib.byteCells l/\w.ownsRow 0 5 1 cv l.length xs/\cv.ownBlock≠some b /\
   ((∃ q,E.tk[kt]? = some q/\E.τ[kt]? = some cv/\q.n=l.length/\q.ty=5/\q.e=1/\q.own=none)∨(E.tk[kt]? = none/\E.τ[kt]? = none/\cv = .slice none 0 0/\l.length=0)) /\
   cC[kt]? = some ⟨l.length + s.size,5,1,none⟩/\(∀ j,j≠kt->cC[j]? = E.tk[j]?)/\(∀ y:Value,∃ τ':List Value,τ'[kt]? = some y/\τ'.length=cC.length/\∀ j,j≠kt->τ'[j]? = E.τ[j]?):=by
  rcases hc with ⟨rfl,rfl,rfl,rfl⟩ | ⟨rfl,jG,rfl⟩
  ·have:=bB hcv;subst this;refine ⟨_,rfl,⟨rfl,.inl ⟨rfl,rfl⟩⟩,by simp [Value.ownBlock],.inr ⟨?_,?_,rfl,rfl⟩,?_,?_,?_⟩
   ·rw [LU];simp
   ·rw [LU,<- h.env.tl];simp
   ·simp
   ·intro j hj;rw [h.tk];rcases Nat.lt_or_ge j st.tk.length with h1 | h1
    ·rw [dn h1]
    ·grind
   ·intro y;refine ⟨E.τ ++ [y],?_,by simp [h.env.tl,h.tk],fun j hj=>?_⟩
    ·rw [LU,<- h.env.tl];simp
    ·rcases Nat.lt_or_ge j E.τ.length with h1 | h1
     ·rw [dn h1]
     ·rw [nX (l:=E.τ) h1];have:=h.env.tl;exact nX (by simp;omega)
  ·obtain ⟨dm,hτ,hob⟩:=Vl h jG hcv;have lf:=(gS jG).1;refine ⟨_,rfl,dm,hob b AD,.inl ⟨_,by rw [h.tk];exact jG,hτ,rfl,rfl,rfl,rfl⟩,?_,?_,?_⟩
   ·rw [gz lf]
   ·intro j hj;rw [List.getElem?_set_ne (Ne.symm hj),h.tk]
   ·intro y;refine ⟨E.τ.set kt y,?_,by simp [h.env.tl,h.tk],fun j hj=>List.getElem?_set_ne (Ne.symm hj)⟩;rw [gz];rw [h.env.tl,<- LU];exact lf
 obtain ⟨xs,rfl,dm,aY,uK,aeC,tI,hτ⟩:=key;refine (kX E b l.length pv cv v2 (Lib.byteCells l) w h2 R5 hw dm aY hlen).mono ?_;rintro e w' ⟨rfl,g,cap,w2,Xy,nK,Ew,rfl⟩;obtain ⟨τ',hτ1,hτ2,ON⟩:=hτ (.slice (some ⟨g,0,none⟩) (l.length + s.size) cap);have AZ:Rv E (.loc i 0) (.pointer (some ⟨b,0,none⟩)):=by unfold Rv;exact ⟨b,hb,rfl⟩
 have r1:Rel X E ⟨st.sl,st.bx.set i [.loc i 0,c],st.tk⟩ a (gh w b cv):=
  jh h bd hb (cs':=[.loc i 0,c]) (arr':=[.pointer (some ⟨b,0,none⟩),cv]) ⟨rvL_cons AZ (rvL_one hcv),by
   intro v hv;simp only [List.mem_cons,List.not_mem_nil,or_false] at hv;rcases hv with rfl | rfl
   ·rfl
   ·exact ho v (by simp)⟩ ⟨_,hw⟩
 obtain ⟨r2,hext,n8⟩:=Ex r1 bd uK hs (by omega) aeC hτ1 hτ2 tI ON (Dq dm aY) Xy nK Ew;have eP:(gh w b cv).heap[b]? = some (.cells #[.pointer (some ⟨b,0,none⟩),cv] 160 (0,0)):=du hw
 have Ee:w2.heap[b]? = some (.cells #[.pointer (some ⟨b,0,none⟩),cv] 160 (0,0)):=by
  rw [nK.block b (dj eP) (fun e=>aY e.symm)];exact eP
 have ZF:Rv (⟨addC E.c w2 g ((l.length + s.size) * 1),E.β,cC,τ'⟩:En) (.sl 1 (bD (l ++ s.data.toList)) (some kt)) (.slice (some ⟨g,0,none⟩) (l.length + s.size) cap):=by
  have nW:s.data.toList.length=s.size:=by rw [Array.length_toList];all_goals rfl
  unfold Rv;refine ⟨_,_,_,rfl,⟨by rw [uo,List.length_append,nW],?_⟩,fun _=>⟨rfl,?_⟩,?_⟩
  ·rcases Xy.2 with ⟨hv,_⟩ | ⟨_,_,_,hv,_,_,vq,_⟩
   ·cases hv
   ·injection hv with _ _ i3
    omega
  ·refine rvEs_flat (arr:=Lib.byteCells (l ++ s.data.toList)) (R4 _) (fun cs hcm=>?_) fun j u hj=>?_
   ·grind [bD]
   ·simp only [ab,ao,Nat.zero_add];refine n8 j u ?_;rw [strCells_eq];simpa [Lib.byteCells] using hj
  ·intro k' fC;cases fC;exact ⟨_,aeC,aR _,fun _=>hτ1⟩
 have r3:=jh r2 bd (i:=i) (b:=b) hb (cs':=[.loc i 0,.sl 1 (bD (l ++ s.data.toList)) (some kt)]) (arr':=[.pointer (some ⟨b,0,none⟩),.slice (some ⟨g,0,none⟩) (l.length + s.size) cap])
  ⟨rvL_cons (by unfold Rv;exact ⟨b,hb,rfl⟩) (rvL_one ZF),by
   intro v hv;simp only [List.mem_cons,List.not_mem_nil,or_false] at hv
   rcases hv with rfl | rfl<;>rfl⟩ ⟨_,Ee⟩
 simp only [List.set_set] at r3;exact go_sound 4000 _ _ hk _ _ _ (bc r3 hd rd _ (O1 _))
theorem Vm {X:Ctx} {st:St} {k:List It} (hP:X.P=prog) {i kt d:Nat} {p c:DV} {l:List UInt8} {s:ByteArray} {cC:List TkE} (hbt:(i,160)∈X.bt) (jA:st.bx[i]? = some [p,c])
  (hp:p = .v (.pointer none)∨p = .loc i 0)
  (hc:(c = .v (.slice none 0 0)/\l=[]/\kt=st.tk.length/\cC=st.tk ++ [⟨s.size,5,1,none⟩])∨(c = .sl 1 (bD l) (some kt)/\l ≠ []/\st.tk[kt]? = some ⟨l.length,5,1,none⟩/\cC=st.tk.set kt ⟨l.length + s.size,5,1,none⟩))
  (hs:0 < s.size) (hlen:l.length + s.size<=140737488355328) (hd:ep X.nt st.sl (some d)=true)
  (hk:go X 4000 k ⟨(d,⟨[],.tup [.v (.int .i64 s.size),.v .nilIface]⟩) :: st.sl,st.bx.set i [.loc i 0,.sl 1 (bD (l ++ s.data.toList)) (some kt)],cC⟩)
  (bd:X.still=false:=by exact rfl):CallG X 74 [.loc i 0,.v (.string s)] (some d) k st:=
 yX hP hbt jA hp (hc.imp_right fun h=>⟨h.1,h.2.2⟩) Uq (fun E=>by unfold Rv;exact ⟨_,rfl,rvL_cons (by unfold Rv;exact ⟨rfl,rfl⟩) (rvL_one (by unfold Rv;exact ⟨rfl,rfl⟩))⟩)
  (fun E b n p v x xs w hx h1 h2 h3 h4 h5=>by
   have:=bB hx;subst this
   exact RZ b p v n xs s w h1 h2 h3 h4 hs h5) hs hlen hd hk bd
theorem yY {X:Ctx} {st:St} {k:List It} (hP:X.P=prog) {i kt d:Nat} {p c:DV} {l:List UInt8} {s:ByteArray} {cC:List TkE} (l':List UInt8) (xf:l'=l ++ s.data.toList) (hbt:(i,160)∈X.bt) (jA:st.bx[i]? = some [p,c])
  (hp:p = .v (.pointer none)∨p = .loc i 0)
  (hc:(c = .v (.slice none 0 0)/\l=[]/\kt=st.tk.length/\cC=st.tk ++ [⟨l'.length,5,1,none⟩])∨(c = .sl 1 (bD l) (some kt)/\l ≠ []/\st.tk[kt]? = some ⟨l.length,5,1,none⟩/\cC=st.tk.set kt ⟨l'.length,5,1,none⟩))
  (hs:0 < s.size) (hlen:l'.length<=140737488355328) (hd:ep X.nt st.sl (some d)=true)
  (hk:go X 4000 k ⟨(d,⟨[],.tup [.v (.int .i64 s.size),.v .nilIface]⟩) :: st.sl,st.bx.set i [.loc i 0,.sl 1 (bD l') (some kt)],cC⟩)
  (bd:X.still=false:=by exact rfl):CallG X 74 [.loc i 0,.v (.string s)] (some d) k st:=by
 have hn:l'.length=l.length + s.size:=by rw [xf,List.length_append,Array.length_toList];all_goals rfl
 subst xf;refine Vm hP hbt jA hp ?_ hs (by omega) hd hk bd;rcases hc with ⟨h1,h2,h3,h4⟩ | ⟨h1,h2,h3,h4⟩
 ·grind
 ·exact .inr ⟨h1,h2,h3,by rw [h4,hn]⟩
theorem Gy {w:World} {g n:Nat} (x:Addr):(w.freeze ⟨g,0,none⟩ n).cell? x=w.cell? x:=by
 unfold World.freeze;split
 ·rfl
 ·simp only [World.cell?,Array.getElem?_modify]
  grind
theorem Ds {w:World} {g n k:Nat} (h:k≠g):(w.freeze ⟨g,0,none⟩ n).heap[k]? = w.heap[k]?:=by
 unfold World.freeze
 grind
theorem Dt {w:World} {g n:Nat}:(w.freeze ⟨g,0,none⟩ n).os=w.os/\(w.freeze ⟨g,0,none⟩ n).tape=w.tape/\(w.freeze ⟨g,0,none⟩ n).output=w.output/\(w.freeze ⟨g,0,none⟩ n).heap.size=w.heap.size:=by
 unfold World.freeze
 grind
theorem pJ {X:Ctx} {st:St} {k:List It} (hP:X.P=prog) {i kt d:Nat} {p:DV} {l:List UInt8} (hbt:(i,160)∈X.bt) (jA:st.bx[i]? = some [p,.sl 1 (bD l) (some kt)])
  (hl:l ≠ []) (jG:st.tk[kt]? = some ⟨l.length,5,1,none⟩) (ku:X.n0=0) (mH:X.m0=0) (hd:ep X.nt st.sl (some d)=true)
  (hk:go X 4000 k ⟨[(d,⟨[],.v (.string ⟨l.toArray⟩)⟩)],[],[]⟩) (bd:X.still=false:=by exact rfl):CallG X 76 [.loc i 0] (some d) k st:=by
 refine ⟨?_,bd,fun E a w vs h hv=>?_⟩
 ·rw [hP];exact abN
 rw [hP];simp only [RvL] at hv;obtain ⟨v1,vr,rfl,h1,rfl⟩:=hv;unfold Rv at h1;obtain ⟨b,hb,rfl⟩:=h1;obtain ⟨b',ty,arr,eD,hw,vx⟩:=h.env.ey i _ jA;rw [hb] at eD;simp only [oI] at eD;subst eD;obtain ⟨TF,nu⟩:=h.bt _ hbt b hb;rw [hw] at nu;simp only [oI,Obj.cells.injEq] at nu;have Pg:ty=160:=nu.2.1;subst Pg;obtain ⟨hr,ho⟩:=vx;simp only [RvL] at hr;obtain ⟨pv,r1,rfl,NO,cv,r2,rfl,hcv,rfl⟩:=hr;obtain ⟨g,cap,cur,rfl,hg,vq,hcm,hcs,htake,Yb,hτ⟩:=JE h hl jG hcv;refine (ZE b g cap pv l cur w hl hw hg vq hcm hcs htake).mono ?_;rintro e w' ⟨rfl,rfl⟩;obtain ⟨k1,k2,k3,k4⟩:=Dt (w:=w.drew) (g:=g) (n:=l.length);have hE0:X.E0.β=[]:=List.eq_nil_of_length_eq_zero (by rw [X.ku,ku]);have ZG:X.E0.tk=[]:=List.eq_nil_of_length_eq_zero (by rw [X.mH,mH]);have Ci:X.w0.heap.size<=g:=h.nw.tn kt _ g (by rw [ZG];exact Nat.zero_le _) hτ rfl
 let E':En:=⟨E.c,[],[],[]⟩
 have bY:Rel X E' ⟨[],[],[]⟩ a (w.drew.freeze ⟨g,0,none⟩ l.length):={
  env:={
   len:=rfl
   tl:=rfl
   ey:=by simp
   inj:=List.nodup_nil
   sub:=fun x v hx=>by rw [Gy];exact h.env.sub x v hx
   pc:=by simp [E']
   bU:=by simp [E']
   jc:=by simp [E'] }
  tk:=rfl
  sz:=h.sz
  tm:=fun i x hx=>by cases hx
  df:=h.df
  nw:={
   c:=fun x v hx=>h.nw.c x v hx
   cn:=fun x v hx=>h.nw.cn x v hx
   β:=⟨[],by rw [hE0];rfl,by simp⟩
   tk:=fun k q y hq _=>by rw [ZG] at hq;simp at hq
   tn:=fun k y g' _ hy _=>by simp [E'] at hy
   l0:=h.nw.l0 }
  fr:=h.fr.cK k1 k2 k3 (by rw [k4];exact aR _) fun j hj=>by
   by_cases hjg:j=g
   ·left;exact .inr (hjg ▸ Ci)
   ·right;exact Ds hjg
  sh:=mJ bd
  bt:=fun p hp b hb=>by simp [E'] at hb }
 have uM:ep X.nt ([]:List (Nat × Sl)) (some d)=true:=by
  simp only [ep,aO] at hd ⊢;exact ⟨hd.1,rfl⟩
 exact go_sound 4000 _ _ hk _ _ _ (bc (st:=⟨[],[],[]⟩) bY uM (.v (.string ⟨l.toArray⟩)) _ (by unfold Rv;exact ⟨rfl,rfl⟩))
end Go.Proofs.YtgjagnmeonoehaaGreat
set_option maxRecDepth 100000
namespace Go.Proofs.YtgjagnmeonoehaaGreat
open Go Go.RowKit Go.Lib Dv Go.Proofs.Tryz
theorem uq {P:Program} {w:World} {ops:Array Oper} {rest:List Oper} {o:Oper} {a:Act} {Q:Exit->Act->World->Prop} (OQ:o.guard=none) (s x:Operand) (t:TypeId)
  (ho:o.op = .call { callee:=.builtin .append,args:=#[s,x],argTypes:=#[t,t] })
  (e:TypeId) (i:TypeInfo) (z:Value) (ht:P.underlying t=some (.slice e)) (hi:P.info? e=some i) (hz:i.zero=some z) (kp:i.size=1) (qh:i.bytes=1) (KA:z.cells.size=1)
  (v:Value) (n:Nat) (xs:List Value) (hs:a.eval s=v) (dm:w.ownsRow 0 e 1 v n xs)
  (ad:Addr) (m c:Nat) (news:List Value) (hx:a.eval x = .slice (some ad) m c) (hl:news.length=m * 1) (rb:∀ j u,news[j]? = some u->w.cell? (ad.add j)=some u) (h1:∀ u∈news,u.oneCell'=true)
  (hm:0 < m) (OH:n + m<=maxLen) (kr:(n + m) * 1<=140737488355328)
  (h:∀ g cap w',w'.ownsRow 0 e 1 (.slice (some ⟨g,0,none⟩) (n + m) cap) (n + m) (xs ++ news)->w.grownBy w' v.ownBlock->((v.ownBlock=some g)∨(w.heap.size<=g/\∀ k,k < w.heap.size->w'.heap[k]? = w.heap[k]?)) ->
   wpList P ops Q rest (a.put o.dst (.slice (some ⟨g,0,none⟩) (n + m) cap)) w'):wpList P ops Q (o :: rest) a w:=by
 refine wpList_plain OQ fun K hK=>?_;obtain ⟨g,cap,w',hr,h2,h3,h4⟩:=gP (P:=P) (w:=w) t o.type e i z 1 1 ht hi hz kp qh KA (by omega) v n xs dm ad m c news hl rb h1 hm OH kr;unfold Oper.wp execOp;simp only [ho,resolve,invoke,builtin,Sem.run_bind,Sem.run_pure,Result.andThen_ok,List.map_toArray,List.map_cons,List.map_nil,hs,hx,hr];exact hK _ _ (h g cap w' h2 h3 h4)
theorem Xz (w:World) (o:Obj):(w.alloc o).heap.size=w.heap.size + 1:=World.size_alloc w o
set_option maxHeartbeats 2000000 in
theorem ZH (b:Nat) (p v:Value) (n:Nat) (xs:List Value) (c:UInt8) (w:World) (hp:p = .pointer none∨p = .pointer (some ⟨b,0,none⟩)) (na:w.heap[b]? = some (.cells #[p,v] 160 (0,0)))
  (dm:w.ownsRow 0 5 1 v n xs) (aY:v.ownBlock≠some b) (hlen:n + 1<=140737488355328) :
  Calls prog 341 #[.pointer (some ⟨b,0,none⟩),.int .u8 c.toNat] w (JC .nilIface w b v n xs (ba [c])):=by
 obtain ⟨i0,hi,TM,hz1,Y8⟩:=info_parts Tryz.laysBX.infoByte
 go_enter func341,ntmps341
 go_wp2_with (go_at_call 149;refine (sq b p v _ hp na).mono ?_)
 rintro e w1 ⟨rfl,rfl⟩;have fx:(gh w b v).heap[b]? = some (.cells #[.pointer (some ⟨b,0,none⟩),v] 160 (0,0)):=du na;have Gx:(gh w b v).ownsRow 0 5 1 v n xs:=Dq dm aY;have c0:(gh w b v).cell? ⟨b,0,none⟩=some (.pointer (some ⟨b,0,none⟩)):=by rw [Lib.cell_of_heap fx];all_goals rfl
 have c1:(gh w b v).cell? ⟨b,1,none⟩=some v:=by rw [Lib.cell_of_heap fx];all_goals rfl
 have aw:b < (gh w b v).heap.size:=dj fx;obtain ⟨W1,JD⟩:∃ W1,W1=gh w b v:=⟨_,rfl⟩;rw [<- JD] at fx Gx c0 c1 aw ⊢;have HW:=Lib.hid JD;clear JD
 go_wp2_with (at_builtin;refine uq rfl _ _ 158 rfl 5 i0 (.int .u8 0) Tryz.underlying158 hi TM hz1 Y8 rfl _ _ _ rfl (Gx.alloc _) ⟨W1.heap.size,0,none⟩ 1 1 [.int .u8 c.toNat] rfl rfl ?c1 ?c2 (by omega) ?c3 ?c4 ?_)
 case c1=>
  intro j u hj
  match j,hj with
  | 0,hj=>simp at hj;subst hj;simp [Addr.add]
 case c2=>intro u hu;simp at hu;subst hu;rfl
 case c3=>unfold maxLen;omega
 case c4=>omega
 intro g cap w2 R0 nK Ew;have R6:W1.grownBy w2 v.ownBlock:=⟨nK.os,nK.tape,nK.output,by have:=nK.size;rw [Xz] at this;omega,fun k hk aY=>(nK.block k (by rw [Xz];omega) aY).trans (Lib.alloc_old W1 _ k hk)⟩;have hdi2:(v.ownBlock=some g)∨(W1.heap.size<=g/\∀ k,k < W1.heap.size->w2.heap[k]? = W1.heap[k]?):=Ew.imp_right fun ⟨h1,h2⟩=>⟨by omega,fun k hk=>(h2 k (by omega)).trans (Lib.alloc_old W1 _ k hk)⟩
 have eP:w2.heap[b]? = some (.cells #[.pointer (some ⟨b,0,none⟩),v] 160 (0,0)):=by
  rw [R6.block b aw (fun e=>aY e.symm)];exact fx
 have d0:w2.cell? ⟨b,0,none⟩=some (.pointer (some ⟨b,0,none⟩)):=by rw [Lib.cell_of_heap eP];all_goals rfl
 have d1:w2.cell? ⟨b,1,none⟩=some v:=by rw [Lib.cell_of_heap eP];all_goals rfl
 have f1:w2.frozen? ⟨b,1,none⟩=false:=Lib.frozen_of_heap eP 1;clear nK Ew
 go_wp2
 go_ret
 refine ⟨rfl,g,cap,w2,R0,by rw [<- HW.out];exact R6,by rw [<- HW.out];exact hdi2,?_⟩;rw [eF eP];rfl
set_option maxHeartbeats 2000000 in
theorem Vn (b g n cap:Nat) (p:Value) (cur:Array Value) (w:World) (hp:p = .pointer none∨p = .pointer (some ⟨b,0,none⟩)) (na:w.heap[b]? = some (.cells #[p,.slice (some ⟨g,0,none⟩) n cap] 160 (0,0)))
  (hg:w.heap[g]? = some (.cells cur 5 (0,0))) (vq:n<=cap) (hcs:cur.size=cap) (aY:g≠b) :
  Calls prog 74 #[.pointer (some ⟨b,0,none⟩),.string ⟨#[]⟩] w fun e w'=>e = .returned (.tuple #[.int .i64 0,.nilIface])/\w'=gh w b (.slice (some ⟨g,0,none⟩) n cap):=by
 obtain ⟨i0,hi,TM,hz1,Y8⟩:=info_parts Tryz.laysBX.infoByte
 go_enter func74,ntmps74
 go_wp2_with (go_at_call 149;refine (sq b p _ _ hp na).mono ?_)
 rintro e w1 ⟨rfl,rfl⟩;obtain ⟨v,hv⟩:∃ v,v=Value.slice (some ⟨g,0,none⟩) n cap:=⟨_,rfl⟩;rw [<- hv] at na ⊢;have fx:(gh w b v).heap[b]? = some (.cells #[.pointer (some ⟨b,0,none⟩),v] 160 (0,0)):=du na;have n5:(gh w b v).heap[g]? = some (.cells cur 5 (0,0)):=by rw [cG aY];exact hg
 have c0:(gh w b v).cell? ⟨b,0,none⟩=some (.pointer (some ⟨b,0,none⟩)):=by rw [Lib.cell_of_heap fx];all_goals rfl
 have c1:(gh w b v).cell? ⟨b,1,none⟩=some v:=by rw [Lib.cell_of_heap fx];all_goals rfl
 have f1:(gh w b v).frozen? ⟨b,1,none⟩=false:=Lib.frozen_of_heap fx 1;obtain ⟨W1,JD⟩:∃ W1,W1=gh w b v:=⟨_,rfl⟩;rw [<- JD] at fx n5 c0 c1 f1 ⊢;have HW:=Lib.hid JD;clear JD
 go_wp2_with (at_builtin;refine JF rfl _ _ 158 9 rfl 5 i0 Tryz.underlying158 Tryz.underlying9 hi hz1 g n cap cur hv n5 vq hcs rfl ?_)
 rw [<- hv]
 go_wp2
 go_ret2
 refine ⟨rfl,?_⟩;rw [eF fx];exact (oR fx).trans HW.out
theorem R7 {X:Ctx} {st:St} {k:List It} (hP:X.P=prog) {i kt d:Nat} {p:DV} {l:List UInt8} (hbt:(i,160)∈X.bt) (jA:st.bx[i]? = some [p,.sl 1 (bD l) (some kt)])
  (hp:p = .v (.pointer none)∨p = .loc i 0) (hl:l ≠ []) (jG:st.tk[kt]? = some ⟨l.length,5,1,none⟩) (hd:ep X.nt st.sl (some d)=true)
  (hk:go X 4000 k ⟨(d,⟨[],.tup [.v (.int .i64 0),.v .nilIface]⟩) :: st.sl,st.bx.set i [.loc i 0,.sl 1 (bD l) (some kt)],st.tk⟩)
  (bd:X.still=false:=by exact rfl):CallG X 74 [.loc i 0,.v (.string ⟨#[]⟩)] (some d) k st:=by
 refine ⟨by rw [hP];exact Uq,bd,fun E a w vs h hv=>?_⟩;rw [hP];simp only [RvL] at hv;obtain ⟨v1,vr,rfl,h1,v2,vr2,rfl,h2,rfl⟩:=hv;have h2:=bB h2;subst h2;unfold Rv at h1;obtain ⟨b,hb,rfl⟩:=h1;obtain ⟨b',ty,arr,eD,hw,vx⟩:=h.env.ey i _ jA;rw [hb] at eD;simp only [oI] at eD;subst eD;obtain ⟨TF,nu⟩:=h.bt _ hbt b hb;rw [hw] at nu;simp only [oI,Obj.cells.injEq] at nu;have Pg:ty=160:=nu.2.1;subst Pg;obtain ⟨hr,ho⟩:=vx;simp only [RvL] at hr;obtain ⟨pv,r1,rfl,NO,cv,r2,rfl,hcv,rfl⟩:=hr;have AZ:Rv E (.loc i 0) (.pointer (some ⟨b,0,none⟩)):=by unfold Rv;exact ⟨b,hb,rfl⟩
 have R5:pv = .pointer none∨pv = .pointer (some ⟨b,0,none⟩):=by
  rcases hp with rfl | rfl
  ·exact .inl (bB NO)
  ·unfold Rv at NO;obtain ⟨b2,eP,rfl⟩:=NO;rw [hb] at eP;simp only [oI] at eP;subst eP;exact .inr rfl
 obtain ⟨g,cap,cur,rfl,hg,vq,hcm,hcs,htake,Yb,hτ⟩:=JE h hl jG hcv;refine (Vn b g l.length cap pv cur w R5 hw hg vq (by omega) (fun e=>Yb (e ▸ mG hb))).mono ?_;rintro e w' ⟨rfl,rfl⟩
 have r1:Rel X E ⟨st.sl,st.bx.set i [.loc i 0,.sl 1 (bD l) (some kt)],st.tk⟩ a (gh w b (.slice (some ⟨g,0,none⟩) l.length cap)):=
  jh h bd hb (cs':=[.loc i 0,.sl 1 (bD l) (some kt)]) (arr':=[.pointer (some ⟨b,0,none⟩),.slice (some ⟨g,0,none⟩) l.length cap]) ⟨rvL_cons AZ (rvL_one hcv),by
   intro v hv;simp only [List.mem_cons,List.not_mem_nil,or_false] at hv
   rcases hv with rfl | rfl<;>rfl⟩ ⟨_,hw⟩
 exact go_sound 4000 _ _ hk _ _ _ (bc r1 hd (.tup [.v (.int .i64 0),.v .nilIface]) _ (by unfold Rv;exact ⟨_,rfl,rvL_cons (by unfold Rv;exact ⟨rfl,rfl⟩) (rvL_one (by unfold Rv;exact ⟨rfl,rfl⟩))⟩))
theorem gK {X:Ctx} {st:St} {k:List It} (hP:X.P=prog) {i kt d:Nat} {p:DV} {l:List UInt8} {s:ByteArray} (l':List UInt8) (xf:l'=l ++ s.data.toList) (hbt:(i,160)∈X.bt) (jA:st.bx[i]? = some [p,.sl 1 (bD l) (some kt)])
  (hp:p = .v (.pointer none)∨p = .loc i 0) (jG:st.tk[kt]? = some ⟨l.length,5,1,none⟩) (hs:l' ≠ []) (hlen:l'.length<=140737488355328) (hd:ep X.nt st.sl (some d)=true)
  (hk:∀ n:Int,go X 4000 k ⟨(d,⟨[],.tup [.v (.int .i64 n),.v .nilIface]⟩) :: st.sl,st.bx.set i [.loc i 0,.sl 1 (bD l') (some kt)],st.tk.set kt ⟨l'.length,5,1,none⟩⟩)
  (bd:X.still=false:=by exact rfl):CallG X 74 [.loc i 0,.v (.string s)] (some d) k st:=by
 subst xf;have nW:s.data.toList.length=s.size:=by rw [Array.length_toList];all_goals rfl
 have lf:=(gS jG);rcases Nat.eq_zero_or_pos s.size with h0 | h0
 ·have sK:s=⟨#[]⟩:=by
   apply ByteArray.ext;apply Array.eq_empty_of_size_eq_zero;exact h0
  subst sK;have hr:=hk 0;simp only [List.append_nil] at hr hs;rw [show st.tk.set kt ⟨l.length,5,1,none⟩=st.tk by rw [<- lf.2];exact List.set_getElem_self lf.1] at hr;exact R7 hP hbt jA hp hs jG hd hr bd
 ·refine yX (s:=s) hP hbt jA hp (.inr ⟨rfl,jG,rfl⟩) Uq (rd:=.tup [.v (.int .i64 s.size),.v .nilIface]) (ret:=.tuple #[.int .i64 s.size,.nilIface]) (fun E=>by unfold Rv;exact ⟨_,rfl,rvL_cons (by unfold Rv;exact ⟨rfl,rfl⟩) (rvL_one (by unfold Rv;exact ⟨rfl,rfl⟩))⟩)
   (fun E b n p v x xs w hx h1 h2 h3 h4 h5=>by
    have:=bB hx;subst this
    exact RZ b p v n xs s w h1 h2 h3 h4 h0 h5) h0 (by rw [List.length_append,nW] at hlen;exact hlen) hd ?_ bd
  have hr:=hk s.size;rw [List.length_append,nW] at hr;exact hr
theorem LV {X:Ctx} {st:St} {k:List It} (hP:X.P=prog) {i kt d:Nat} {p:DV} {l:List UInt8} {c:UInt8} {z:Int} (hz:z=c.toNat) (hbt:(i,160)∈X.bt) (jA:st.bx[i]? = some [p,.sl 1 (bD l) (some kt)])
  (hp:p = .v (.pointer none)∨p = .loc i 0) (jG:st.tk[kt]? = some ⟨l.length,5,1,none⟩) (hlen:l.length + 1<=140737488355328) (hd:ep X.nt st.sl (some d)=true)
  (hk:go X 4000 k ⟨(d,⟨[],.v .nilIface⟩) :: st.sl,st.bx.set i [.loc i 0,.sl 1 (bD (l ++ [c])) (some kt)],st.tk.set kt ⟨l.length + 1,5,1,none⟩⟩)
  (bd:X.still=false:=by exact rfl):CallG X 341 [.loc i 0,.v (.int .u8 z)] (some d) k st:=by
 subst hz
 refine yX (s:=ba [c]) hP hbt jA hp (.inr ⟨rfl,jG,rfl⟩) acO (rd:=.v .nilIface) (ret:=.nilIface) (fun E=>by unfold Rv;exact ⟨rfl,rfl⟩)
  (fun E b n p v x xs w hx h1 h2 h3 h4 h5=>by
   have:=bB hx;subst this
   exact ZH b p v n xs c w h1 h2 h3 h4 h5) Nat.one_pos hlen hd hk bd
theorem yZ {X:Ctx} {f:FuncId} {args:List DV} {dst:Option Nat} {k:List It} {st:St} (q:TkE) (st':St) (hq:q.new=true) (ha:WeL st.bx.length st.tk.length (st.tk ++ [q]) args args) (h3:st'.tk=st.tk ++ [q]) (h2:WeLL st.bx.length st.tk.length (st.tk ++ [q]) st.bx st'.bx)
  (h:oa st.bx.length st.tk.length (st.tk ++ [q]) st.sl st'.sl) (hn:Nat.ble X.n0 st.bx.length=true) (hm:Nat.ble X.m0 st.tk.length=true) (hk:CallG X f args dst k st'):CallG X f args dst k st:=by
 obtain ⟨k1,k2,k3⟩:=hk;refine ⟨k1,k2,fun E a w vs hR hv=>?_⟩;have hr:=Aw (st':=st') hR (kept:=st.tk) (dropped:=[]) (new:=[q]) (b0:=st.bx) (r:=[]) ⟨nL hm,nL hn,by simp,h3,by simpa using hq,by simp,by rw [h3];exact h2,by rw [h3];exact h⟩;exact k3 _ a w vs hr (tg (dropped:=[]) (by rw [hR.tk];simp) hR.env.tl (sU hq) ha hv)
end Go.Proofs.YtgjagnmeonoehaaGreat
set_option maxRecDepth 100000
namespace Go.Proofs.YtgjagnmeonoehaaGreat
open Go Go.RowKit Dv Go.Proofs.Tryz
def ur (n:Nat):UInt8:=if n < 10 then UInt8.ofNat (48 + n) else UInt8.ofNat (87 + n)
def vN (n:Nat):List UInt8:=if n=0 then [] else vN (n / 16) ++ [ur (n % 16)]
termination_by n
decreasing_by omega
def y4 (n:Nat):List UInt8:=vN (n / 16) ++ [ur (n % 16)]
theorem hexP_0:vN 0=[]:=by rw [vN,aj rfl]
theorem ZI {n:Nat} (h:n≠0):vN n=y4 n:=by rw [vN,ai h];all_goals rfl
theorem Gz:∀ (k n:Nat),n < 16 ^ k->(vN n).length<=k
 | 0,n,h=>by grind [hexP_0]
 | k + 1,n,h=>by
  by_cases hn:n=0
  ·rw [hn,hexP_0];simp
  ·rw [vN,ai hn,List.length_append];have:=Gz k (n / 16) (by rw [Nat.div_lt_iff_lt_mul (by decide)];rw [Nat.pow_succ] at h;exact h)
   grind
theorem y5 {n:Nat} (h:n<=4294967295):(y4 n).length<=8:=by
 have:=Gz 7 (n / 16) (by omega)
 grind [y4]
def NP:List (List DV):=[[.v (.int .i32 0),.v (.int .i32 31)],[.v (.int .i32 127),.v (.int .i32 159)]]
def NQ:List (List DV):=[[.v (.int .i32 8232),.v (.int .i32 8233)]]
def BA:List (List DV):=[(1564,1564),(8206,8207),(8234,8238),(8294,8297)].map fun p:Int × Int=>[DV.v (.int .i32 p.1),DV.v (.int .i32 p.2)]
def NR:List (List DV):=[(173,173),(1536,1541),(1757,1757),(1807,1807),(2274,2274),(6158,6158),(8203,8205),(8288,8292),(8298,8303),(65279,65279),(65529,65531),(69821,69821),(69837,69837),(113824,113827),(119155,119162),(917505,917505),(917536,917631)].map fun p:Int × Int=>[DV.v (.int .i32 p.1),DV.v (.int .i32 p.2)]
def NS (z:Int):Bool:=((NP.any (vM z) || BA.any (vM z)) || NR.any (vM z)) || NQ.any (vM z)
def Du (z:Int) (u:List UInt8):List UInt8:=
 if z=34 then [92,34] else if z=92 then [92,92] else if z=9 then [92,116] else if z=10 then [92,110] else if z=13 then [92,114]
 else if NS z=true then [92,117,123] ++ y4 z.toNat ++ [125] else u
def unT:List UInt8->List UInt8
 | []=>[]
 | c :: r=>if okU (c :: r)=true then Du (recV ((c :: r).take (eW (c :: r)))) ((c :: r).take (eW (c :: r))) else [92,120,ur (c.toNat / 16),ur (c.toNat % 16)]
def quoU:Nat->List UInt8->List UInt8
 | 0,_=>[]
 | k + 1,l=>unT l ++ quoU k (l.drop (eW l))
def vO (l:List UInt8):List UInt8:=34 :: (quoU l.length l ++ [34])
theorem GA (k:Nat):quoU k []=[]:=by
 induction k with
 | zero=>rfl
 | succ k ih=>show [] ++ quoU k ([].drop _)=[];rw [List.drop_nil,ih];all_goals rfl
theorem uu:∀ (n:Nat) (l:List UInt8),l.length<=n->quoU n l=quoU l.length l
 | 0,l,h=>by grind
 | n + 1,l,h=>by
  cases l with
  | nil=>rw [GA,GA]
  | cons c r=>
   obtain ⟨h1,h2⟩:=gW (l:=c :: r) (by simp);have hl:((c :: r).drop (eW (c :: r))).length=r.length + 1 - eW (c :: r):=by rw [List.length_drop,List.length_cons]
   rw [List.length_cons] at h h2;show unT _ ++ quoU n _=unT _ ++ quoU r.length _;rw [uu n _ (by omega),uu r.length _ (by omega)]
theorem NT {l:List UInt8} (h:l ≠ []):quoU l.length l=unT l ++ quoU (l.drop (eW l)).length (l.drop (eW l)):=by
 cases l with
 | nil=>exact absurd rfl h
 | cons c r=>grind [gW,unT,quoU,uu]
theorem LW {l:List UInt8} (h:O0 l=true):0<=recV l/\recV l<=2097151:=by
 unfold O0 at h
 grind [recV]
theorem Vo (l:List UInt8):(unT l).length<=12:=by
 cases l with
 | nil=>exact Nat.zero_le _
 | cons c r=>
  show (if okU (c :: r)=true then Du (recV ((c :: r).take (eW (c :: r)))) ((c :: r).take (eW (c :: r))) else [92,120,ur (c.toNat / 16),ur (c.toNat % 16)]:List UInt8).length<=12;split
  ·rename_i h;have hi:=Dl h;obtain ⟨_,_,hcr,h1,h2,h3⟩:=wx h;injection hcr with Il nV
   subst Il nV;rw [h3];have h4:=Dm c.toNat;have:=LW hi;have:=y5 (n:=(recV ((c :: r).take (bm c.toNat))).toNat) (by omega);unfold Du
   repeat' split
   all_goals simp only [List.length_append,List.length_cons,List.length_nil,zLenT]
   all_goals omega
  ·simp
theorem GB:∀ (n:Nat) (l:List UInt8),(quoU n l).length<=12 * n
 | 0,l=>Nat.zero_le _
 | n + 1,l=>by
  have h1:=Vo l;have h2:=GB n (l.drop (eW l))
  grind [unT,quoU,eW]
theorem y6 (l:List UInt8):(vO l).length<=12 * l.length + 2:=by grind [GB,vO]
theorem Dx {s:ByteArray} (hs:s=ba [48,49,50,51,52,53,54,55,56,57,97,98,99,100,101,102]) {k:Nat} (hk:k < 16) {a b:Int} (ha:a=k) (hb:b=k + 1):s.extract a.toNat b.toNat=ba [ur k]:=by
 subst hs ha hb;refine ov ?_;have:∀ k:Fin 16,tx ((ba [48,49,50,51,52,53,54,55,56,57,97,98,99,100,101,102]).extract k.val (k.val + 1))=[ur k.val]:=by decide +kernel
 exact this ⟨k,hk⟩
theorem Dy {n:Int} (h1:0<=n) (h2:n<=4294967295):IntKind.u32.wrap n=n:=by
 simp [IntKind.wrap,IntKind.min,IntKind.max,IntKind.signed,IntKind.bits];omega
theorem nM (n:Nat):(n:Int).tmod 16=((n % 16:Nat):Int):=by grind
theorem XA (n:Nat):(n:Int).tdiv 16=((n / 16:Nat):Int):=by grind
theorem R8 {x:ByteArray} {c:UInt8} {l:List UInt8} (h:x=ba [c]):x ++ ba l=ba (c :: l):=by
 rw [h];exact mY [c] l
abbrev ZJ (m:Nat) (l:List UInt8):St:=⟨[(0,⟨[],.v (.int .u32 m)⟩),(3,⟨[],.v (.string (ba l))⟩)],[],[]⟩
theorem R9 (n:Nat) (hn:n<=4294967295):EvP prog 361 [.v (.int .u32 n)] (.v (.string (ba (y4 n)))):=by
 have hu:∀ m:Nat,m<=4294967295->IntKind.u32.wrap ((m:Int).tdiv 16)=((m / 16:Nat):Int):=fun m h=>by rw [XA,Dy (by omega) (by omega)]
 have hr:∀ m:Nat,IntKind.u32.wrap ((m:Int).tmod 16 + 1)=((m % 16:Nat):Int) + 1:=fun m=>by rw [nM,Dy (by omega) (by omega)]
 have hlen:=y5 hn;refine eG 25 [.tmp 2] func361 rfl ntmps361 rfl fun _ _ _ _=>?_;refine ⟨⟨rfl,by decide⟩,?_⟩;refine ⟨⟨rfl,by decide⟩,?_⟩;refine ⟨⟨by rw [nM];omega,by rw [hr,nM];omega,by rw [hr];show _<=((16:Nat):Int);omega⟩,?_⟩;refine ⟨⟨rfl,by decide⟩,?_⟩;refine aT (fun j st=>∃ (m:Nat) (l:List UInt8),st=ZJ m l/\vN m ++ l=y4 n/\m<=n/\j=m) (n / 16) (ZJ (n / 16) [ur (n % 16)]) (bG (by repeat' (first | exact trivial | exact aA rfl | exact aD (hu n hn) | exact Qz (Dx rfl (by omega) (nM n) (hr n)) | refine ⟨⟨_,rfl,?_⟩,?_⟩))) ⟨n / 16,_,rfl,rfl,by omega,rfl⟩ ?_;rintro m st ⟨_,l,rfl,ht,hm,rfl⟩;refine br ?_ ?_<;>intro hL
 ·have kB:m≠0:=by simp at hL;omega
  have Xb:l.length + (vN m).length<=8:=by
   rw [<- ht,List.length_append] at hlen;omega
  rw [ZI kB] at ht;refine ⟨⟨rfl,by decide⟩,?_⟩;refine ⟨⟨rfl,by decide⟩,?_⟩;refine ⟨⟨by rw [nM];omega,by rw [hr,nM];omega,by rw [hr];show _<=((16:Nat):Int);omega⟩,?_⟩;have hx:=Dx (s:=ba [48,49,50,51,52,53,54,55,56,57,97,98,99,100,101,102]) rfl (k:=m % 16) (by omega) (nM m) (hr m)
  refine ⟨by
   have h1:(ByteArray.extract (ba [48,49,50,51,52,53,54,55,56,57,97,98,99,100,101,102]) ((m:Int).tmod 16).toNat (IntKind.u32.wrap ((m:Int).tmod 16 + 1)).toNat).size=1:=by rw [hx];all_goals rfl
   have h2:(ba l).size=l.length:=uV l;have h3:∀ a b:Nat,a=1->b<=8->a + b<=9223372036854775807:=by omega
   exact h3 _ _ h1 (by rw [h2];omega),?_⟩
  refine ⟨⟨rfl,by decide⟩,?_⟩;exact ⟨ZJ (m / 16) (ur (m % 16) :: l),(bG (by repeat' (first | exact trivial | exact aA rfl | exact aD (hu m (by omega)) | exact Qz (R8 hx) | refine ⟨⟨_,rfl,?_⟩,?_⟩))),m / 16,by omega,m / 16,_,rfl,by rw [<- ht];simp [y4],by omega,rfl⟩
 ·have h0:m=0:=by simp at hL;omega
  subst h0;rw [hexP_0,List.nil_append] at ht;rw [<- ht];exact (rfl:_=_)
def nv (z:Int):List UInt8:=if z=34 then [92,34] else if z=92 then [92,92] else if z=9 then [92,116] else if z=10 then [92,110] else if z=13 then [92,114] else []
theorem JG (z:Int):EvP prog 359 [.v (.int .i32 z)] (.v (.string (ba (nv z)))):=by
 unfold nv;refine eG 14 [.tmp 2] func359 rfl ntmps359 rfl fun _ _ _ _=>?_;refine br ?_ ?_<;>intro c
 ·rw [aj (sU c)];exact (rfl:_=_)
 rw [ai (sU c)];refine br ?_ ?_<;>intro c
 ·rw [aj (sU c)];exact (rfl:_=_)
 rw [ai (sU c)];refine br ?_ ?_<;>intro c
 ·rw [aj (sU c)];exact (rfl:_=_)
 rw [ai (sU c)];refine br ?_ ?_<;>intro c
 ·rw [aj (sU c)];exact (rfl:_=_)
 rw [ai (sU c)];refine br ?_ ?_<;>intro c
 ·rw [aj (sU c)];exact (rfl:_=_)
 rw [ai (sU c)];exact (rfl:_=_)
theorem JH {z:Int} {u:List UInt8} (h:nv z ≠ []):Du z u=nv z:=by grind [Du,nv]
theorem NU {z:Int} {u:List UInt8} (h:nv z=[]):Du z u=if NS z=true then [92,117,123] ++ y4 z.toNat ++ [125] else u:=by grind [Du,nv]
theorem Dz:EvP prog 376 [] (.sl 2 NP none):=by
 refine eG 4 [.tmp 0] func376 rfl ntmps376 rfl fun _ _ _ _=>?_;exact ⟨_,ax,rfl⟩
theorem NV:EvP prog 377 [] (.sl 2 BA none):=by
 refine eG 6 [.tmp 0] func377 rfl ntmps377 rfl fun _ _ _ _=>?_;exact ⟨_,ax,rfl⟩
theorem GC:EvP prog 378 [] (.sl 2 NR none):=by
 refine eG 19 [.tmp 0] func378 rfl ntmps378 rfl fun _ _ _ _=>?_;exact ⟨_,ax,rfl⟩
theorem y7:EvP prog 379 [] (.sl 2 NQ none):=by
 refine eG 3 [.tmp 0] func379 rfl ntmps379 rfl fun _ _ _ _=>?_;exact ⟨_,ax,rfl⟩
theorem su (es:List (List DV)) (z:Int) (hl:es.length<=1000) (hs:es.all spB=true) (m:Int) (ho:srtB m es=true):EvP prog 356 [.sl 2 es none,.v (.int .i32 z)] (.v (.bool (es.any (vM z)))):=
 (Dp es z hl hs).mono fun d _ _ ⟨b,h1,h2⟩=>by rw [h1,h2 m ho]
theorem GD (z:Int):EvP prog 360 [.v (.int .i32 z)] (.v (.bool (NS z))):=by
 have hk:Ev prog 373 [.v (.int .i32 z)] [] [] (fun d _ _=>∃ k:Int,d = .v (.int .i64 k)/\(!decide (k=0))=NS z):=by
  have h1:=su NP z (by decide) (by decide) (-1) (by decide);have h2:=su BA z (by decide) (by decide) (-1) (by decide);have h3:=su NR z (by decide) (by decide) (-1) (by decide);have h4:=su NQ z (by decide) (by decide) (-1) (by decide);have hB:NS z=(((NP.any (vM z) || BA.any (vM z)) || NR.any (vM z)) || NQ.any (vM z)):=rfl;rw [hB];generalize NP.any (vM z)=b1 at h1;generalize BA.any (vM z)=b2 at h2;generalize NR.any (vM z)=b3 at h3;generalize NQ.any (vM z)=b4 at h4;generalize hT1:NP=T1 at h1;generalize hT2:BA=T2 at h2;generalize hT3:NR=T3 at h3;generalize hT4:NQ=T4 at h4;have c1:=Dz;have c2:=NV;have c3:=GC;have c4:=y7;rw [hT1] at c1;rw [hT2] at c2;rw [hT3] at c3;rw [hT4] at c4;refine eG 19 [.tmp 2] func373 rfl ntmps373 rfl fun _ _ _ _=>?_;refine cP acZ c1 ?_;refine cP AJ h1 ?_
  cases b1 with
  | true=>exact ⟨_,rfl,rfl⟩
  | false=>
  refine cP ac0 c2 ?_;refine cP AJ h2 ?_
  cases b2 with
  | true=>exact ⟨_,rfl,rfl⟩
  | false=>
  refine cP ac1 c3 ?_;refine cP AJ h3 ?_
  cases b3 with
  | true=>exact ⟨_,rfl,rfl⟩
  | false=>
  refine cP ac2 c4 ?_;refine cP AJ h4 ?_
  cases b4 with
  | true=>exact ⟨_,rfl,rfl⟩
  | false=>exact ⟨_,rfl,rfl⟩
 refine eG 6 [.tmp 2] func360 rfl ntmps360 rfl fun _ _ _ _=>?_;refine cE acY rfl hk ax (fun q hq=>?_);obtain ⟨k,rfl,hk⟩:=hq;refine (bK ?_:);exact hk
theorem JI {n:Int} (h1:0<=n) (h2:n<=255):IntKind.u8.wrap n=n:=by
 simp [IntKind.wrap,IntKind.min,IntKind.max,IntKind.signed,IntKind.bits];omega
theorem Sa {s:ByteArray} {at':Nat} (h:at' < s.size):∃ c r,(tx s).drop at'=c :: r/\eX s at'=c.toNat/\r.length + 1 + at'=s.size/\∀ n,n<=r.length + 1->s.extract at' (at' + n)=ba ((c :: r).take n):=by
 have hl:=dg s
 cases hd:(tx s).drop at' with
 | nil=>
  have:=congrArg List.length hd
  grind
 | cons c r=>
  refine ⟨c,r,rfl,?_,?_,fun n hn=>?_⟩
  ·show ((tx s).getD at' 0).toNat=_
   have:(tx s)[at']? = some c:=by
    have:=congrArg (fun l=>l[0]?) hd;simpa [List.getElem?_drop] using this
   simp [eO,this]
  ·have:=congrArg List.length hd
   grind
  ·refine ov ?_;rw [<- hd];simp [tx,List.take_drop]
theorem Vp {x y:ByteArray} {c d:UInt8} (hx:x=ba [c]) (hy:y=ba [d]):(ba [92,120] ++ x) ++ y=ba [92,120,c,d]:=by
 rw [hx,hy];exact (congrArg (·++ ba [d]) (mY [92,120] [c])).trans (mY _ _)
theorem Vq (l:List UInt8):(ba [92,117,123] ++ ba l) ++ ba [125]=ba ([92,117,123] ++ l ++ [125]):=
 (congrArg (·++ ba [125]) (mY [92,117,123] l)).trans (mY _ _)
theorem JJ {a b:ByteArray} {d:DV} (h:a=b):DV.tup [.v (.string a),d]=DV.tup [.v (.string b),d]:=by rw [h]
set_option maxHeartbeats 1000000 in
theorem JK (s:ByteArray) (at':Nat) (hs:s.size<=1099511627776) (h:at' < s.size) :
  EvP prog 342 [.v (.string s),.v (.int .i64 at')] (.tup [.v (.string (ba (unT ((tx s).drop at')))),.v (.int .i64 (eW ((tx s).drop at'):Nat))]):=by
 obtain ⟨c,r,hd,hb,fm,hex⟩:=Sa h;have hu:=Bz s at' hs c r hd;rw [hd];have Wf:eW (c :: r)=if okU (c :: r)=true then bm c.toNat else 1:=rfl
 have hut:unT (c :: r)=if okU (c :: r)=true then Du (recV ((c :: r).take (eW (c :: r)))) ((c :: r).take (eW (c :: r))) else [92,120,ur (c.toNat / 16),ur (c.toNat % 16)]:=rfl
 have v7:=Dl (c:=c) (r:=r);have bA:=fun g=>wx (l:=c :: r) g;have gQ:=c.toNat_lt;rw [Wf] at hut;rw [Wf,hut];generalize okU (c :: r)=ok at hu v7 bA ⊢;refine eG 62 [.tmp 4,.tmp 5] func342 rfl ntmps342 rfl fun _ _ _ _=>?_;refine cE P8 rfl hu ax (fun q hq=>?_);obtain ⟨z,n,rfl,hn,hp⟩:=hq;refine br (fun g=>absurd g (by simp;omega)) (fun _=>?_)
 cases ok with
 | false=>
  rw [ai (by simp),ai (by simp)];have e1:IntKind.u8.wrap ((c.toNat:Int).tdiv 16)=((c.toNat / 16:Nat):Int):=by rw [XA,JI (by omega) (by omega)]
  have e2:IntKind.u8.wrap (((c.toNat / 16:Nat):Int) + 1)=((c.toNat / 16:Nat):Int) + 1:=JI (by omega) (by omega);have e3:IntKind.u8.wrap (((c.toNat % 16:Nat):Int) + 1)=((c.toNat % 16:Nat):Int) + 1:=JI (by omega) (by omega);refine ⟨⟨by omega,by omega⟩,?_⟩;rw [show eX s ((at':Int)).toNat=c.toNat from hb];have x1:=Dx (s:=ba [48,49,50,51,52,53,54,55,56,57,97,98,99,100,101,102]) rfl (k:=c.toNat / 16) (by omega) e1 ((congrArg (fun z=>IntKind.u8.wrap (z + 1)) e1).trans e2);have x2:=Dx (s:=ba [48,49,50,51,52,53,54,55,56,57,97,98,99,100,101,102]) rfl (k:=c.toNat % 16) (by omega) (nM c.toNat) ((congrArg (fun z=>IntKind.u8.wrap (z + 1)) (nM c.toNat)).trans e3);have l1:=congrArg ByteArray.size x1;have l2:=congrArg ByteArray.size x2;rw [uV] at l1 l2;refine dI ?_;refine ⟨⟨rfl,by decide⟩,?_⟩;refine ⟨⟨rfl,by decide⟩,?_⟩;refine ⟨⟨by rw [e1];omega,by rw [e1,e2];omega,by rw [e1,e2];show _<=((16:Nat):Int);omega⟩,?_⟩;refine ⟨Nat.le_trans (Nat.le_of_eq (congrArg (2 + ·) l1)) (by show 2 + 1<=9223372036854775807;decide),?_⟩;refine ⟨⟨rfl,by decide⟩,?_⟩;refine ⟨⟨rfl,by decide⟩,?_⟩;refine ⟨⟨by rw [nM];omega,by rw [nM,e3];omega,by rw [nM,e3];show _<=((16:Nat):Int);omega⟩,?_⟩;refine ⟨by rw [jX];exact Nat.le_trans (Nat.le_of_eq (congr (congrArg HAdd.hAdd (congrArg (2 + ·) l1)) l2)) (by show 2 + 1 + 1<=9223372036854775807;decide),?_⟩;refine ⟨.tup [.v (.string _),.v (.int .i64 _)],ax,?_⟩;exact JJ (Vp x1 x2)
 | true=>
  obtain ⟨rfl,hz⟩:=hn rfl;have hnn:=LW (v7 rfl);rw [<- hz] at hnn;obtain ⟨_,_,hcr,h1,h2,_⟩:=bA rfl;injection hcr with Il nV
  subst Il nV;rw [List.length_cons] at h2;rw [aj rfl,aj rfl,<- hz];refine cP acT (JG z) ?_;refine br ?_ ?_<;>intro g
  ·have aY:nv z ≠ []:=by
    intro e;rw [e] at g;simp at g
   rw [JH aY];exact ⟨_,ax,rfl⟩
  ·have he:nv z=[]:=by grind
   rw [NU he];refine cP acU (GD z) ?_
   cases NS z with
   | true=>
    rw [aj rfl];have hz32:IntKind.u32.wrap z=(z.toNat:Nat):=by rw [Dy (by omega) (by omega)];omega
    have hx:=R9 z.toNat (by omega);rw [<- hz32] at hx;have hl:=y5 (n:=z.toNat) (by omega);refine cP acV hx ?_;refine ⟨by show 3 + (y4 z.toNat).length<=_;omega,?_⟩;refine ⟨by rw [jX];show 3 + (y4 z.toNat).length + 1<=_;omega,?_⟩;refine ⟨.tup [.v (.string _),.v (.int .i64 _)],ax,?_⟩;exact JJ (Vq _)
   | false=>
    rw [ai (by simp)];have hw:IntKind.i64.wrap ((at':Int) + (bm c.toNat:Nat))=((at' + bm c.toNat:Nat):Int):=by rw [wrap64 (by omega) (by omega)];omega
    refine ⟨⟨by omega,by rw [hw];omega,by rw [hw];omega⟩,?_⟩;refine ⟨.tup [.v (.string _),.v (.int .i64 _)],ax,?_⟩;refine JJ ?_;rw [hw];exact hex _ (by omega)
theorem DA {s:ByteArray} {e:Nat} (h:¬ e < s.size):(tx s).drop e=[]:=List.drop_of_length_le (by rw [dg];omega)
theorem Sb {s:ByteArray} {e:Nat} (h:e < s.size):quoU ((tx s).drop e).length ((tx s).drop e)=unT ((tx s).drop e) ++ quoU ((tx s).drop (e + eW ((tx s).drop e))).length ((tx s).drop (e + eW ((tx s).drop e))) /\
  1<=eW ((tx s).drop e)/\e + eW ((tx s).drop e)<=s.size:=by
 have aY:(tx s).drop e ≠ []:=by
  intro hc;have:=congrArg List.length hc
  grind [dg]
 obtain ⟨h1,h2⟩:=gW aY;rw [List.length_drop,dg] at h2;refine ⟨?_,h1,by omega⟩;rw [NT aY,List.drop_drop]
abbrev aeD (s:ByteArray) (l:List UInt8) (p:DV) (e:Nat):St:=
 ⟨[(0,⟨[],.v (.string s)⟩),aF 3 0,ay 4 e],[[p,.sl 1 (bD l) (some 0)]],[⟨l.length,5,1,none⟩]⟩
theorem JL (s:ByteArray) (hs:s.size<=1099511627776):EvP prog 310 [.v (.string s)] (.v (.string (ba (vO (tx s))))):=by
 have hlen:=y6 (tx s);rw [dg] at hlen;refine jB (s:=false) (bt:=[(0,160)]) (hbt:=fun p hp=>Nat.zero_le _) (P:=prog) tt eT 5000 25 [.tmp 2] func310 rfl ntmps310 rfl (nL rfl) (fun _ _ _ _=>?_);refine yZ ⟨0,5,1,none⟩ ⟨[(0,⟨[],.v (.string s)⟩),aF 3 0],[[.v (.pointer none),.sl 1 [] (some 0)]],[⟨0,5,1,none⟩]⟩ rfl ⟨_,_,rfl,aA rfl,_,_,rfl,aA rfl,rfl⟩ rfl ⟨_,_,rfl,⟨_,_,rfl,aA rfl,_,_,rfl,ch (aR _) rfl,rfl⟩,rfl⟩ ⟨⟨_,rfl,aA rfl⟩,⟨_,rfl,aA rfl⟩,trivial⟩ rfl rfl ?_;refine LV (c:=34) (kt:=0) (l:=[]) rfl rfl (.head _) rfl (.inl rfl) rfl (by decide) rfl ?_;refine lI (fun j st=>∃ (e:Nat) (l:List UInt8),st=aeD s l (.loc 0 0) e/\e<=s.size/\l ≠ []/\vO (tx s)=l ++ (quoU ((tx s).drop e).length ((tx s).drop e) ++ [34])/\j=s.size - e) ⟨0,[34],rfl,by omega,by simp,by rw [List.drop_zero];rfl,rfl⟩ (bG j8) ?_;rintro _ st ⟨e,l,rfl,he,aY,hq,rfl⟩;have zV:=congrArg List.length hq;rw [List.length_append,List.length_append] at zV;refine br ?_ ?_<;>intro hL
 ·have aw:e < s.size:=by simp at hL;omega
  obtain ⟨bd,h1,h2⟩:=Sb aw;have hu:=JK s e hs aw;rw [bd] at hq zV;rw [List.length_append] at zV;generalize hU:unT ((tx s).drop e)=U at hu hq zV;generalize hN:eW ((tx s).drop e)=n at hu hq zV h1 h2;have hw:IntKind.i64.wrap ((e:Int) + (n:Nat))=((e + n:Nat):Int):=by rw [wrap64 (by omega) (by omega)];omega
  refine cP acP hu ?_;refine gK rfl (l ++ U) (l:=l) (kt:=0) rfl (.head _) rfl (.inr rfl) rfl (by simp [aY]) (by rw [List.length_append];omega) rfl (fun n9=>?_);exact ⟨aeD s (l ++ U) (.loc 0 0) (e + n),(bG (dH hw)),s.size - (e + n),by omega,e + n,_,rfl,h2,by simp [aY],by rw [hq];simp only [List.append_assoc],rfl⟩
 ·have hge:¬ e < s.size:=by simp at hL;omega
  rw [DA hge] at hq zV;refine LV (c:=34) (kt:=0) (l:=l) rfl rfl (.head _) rfl (.inr rfl) rfl (by simp only [List.length_nil,List.length_cons] at zV;omega) rfl ?_;refine pJ rfl (kt:=0) (l:=l ++ [34]) (.head _) rfl (by simp) (by simp) rfl rfl rfl ?_;rw [hq];exact (rfl:_=_)
mutual
def sameV:Val->Val->Bool
 | .mk k n s ks,.mk k' n' s' Eg=>decide (k=k') && decide (n=n') && decide (s=s') && sameVs ks Eg
def sameVs:List Val->List Val->Bool
 | [],[]=>true
 | v :: r,w :: q=>sameV v w && sameVs r q
 | _,_=>false
end
theorem qO:∀ {a b:List Val},a.length≠b.length->sameVs a b=false
 | [],[],h=>(h rfl).elim
 | v :: r,w :: q,h=>by rw [sameVs,qO (a:=r) (b:=q) (sU h),Bool.and_false]
 | [],_ :: _,_=>by simp [sameVs]
 | _ :: _,[],_=>by simp [sameVs]
mutual
theorem km:∀ {a b:Val},sameV a b=true↔a=b
 | .mk k n s ks,.mk k' n' s' Eg=>by
  have:=@y8 ks Eg;simp only [sameV,aO,decide_eq_true_eq,this,Val.mk.injEq,and_assoc]
theorem y8:∀ {a b:List Val},sameVs a b=true↔a=b
 | [],[]=>by simp [sameVs]
 | v :: r,w :: q=>by
  have h1:=@km v w;have h2:=@y8 r q;simp only [sameVs,aO,h1,h2,List.cons.injEq]
 | [],_ :: _=>by simp [sameVs]
 | _ :: _,[]=>by simp [sameVs]
end
theorem kN (v:Val):sameV v v=true:=km.2 rfl
abbrev XB (a b:List Val) (g e:Nat):St:=
 ⟨[bi 1 4 (dVals b),(2,⟨[],.fn g [] []⟩),bi 15 4 (dVals a),ay 16 ((dVals a).length),ay 17 e],[],[]⟩
theorem GF (g:Nat) (kY:Enters prog g) (a b:List Val) (hs:cu a<=1099511627776)
  (hF:∀ x∈a,∀ y,EvP prog g [.agg (aG x),.agg (aG y)] (.v (.bool (sameV x y)))) :
  EvP prog 209 [.sl 4 (dVals a) none,.sl 4 (dVals b) none,.fn g [] []] (.v (.bool (sameVs a b))):=by
 have My:=cq a;have h1:=aU a;have h2:=aU b;refine eG 32 [.tmp 6] func209 rfl ntmps209 rfl fun _ _ _ _=>?_;refine br ?_ ?_<;>intro h
 ·have aY:a.length≠b.length:=by have:=h;simp [h1,h2] at this;omega
  exact congrArg (fun b=>DV.v (.bool b)) (qO aY).symm
 ·have hl:a.length=b.length:=by have:=h;simp [h1,h2] at this;omega
  refine aT (fun j st=>∃ e:Nat,st=XB a b g e/\e<=a.length/\sameVs a b=sameVs (a.drop e) (b.drop e)/\j=a.length - e) a.length
   (XB a b g 0) (bG wB) ⟨0,rfl,by omega,rfl,by omega⟩ ?_
  rintro j st ⟨e,rfl,he,aP,rfl⟩;refine br ?_ ?_<;>intro h
  ·have aw:e < a.length:=sV h1 h;obtain ⟨x,hx⟩:=gX aw;obtain ⟨y,hy⟩:∃ y,b[e]? = some y:=⟨_,gE (hl ▸ aw)⟩;rw [drop_cons hx,drop_cons hy,sameVs] at aP;have V8:=hF x (mG hx) y;obtain ⟨xk,xn,xs,xl⟩:=x;obtain ⟨yk,yn,ys,yl⟩:=y;refine iX (bJ hx) ?_;refine iX (bJ hy) ?_;refine cP kY V8 ?_;refine br ?_ ?_<;>intro h
   ·have aY:sameV (.mk xk xn xs xl) (.mk yk yn ys yl)=false:=sU h;refine (bK ?_:);rw [aP,aY,Bool.false_and]
   ·have aY:sameV (.mk xk xn xs xl) (.mk yk yn ys yl)=true:=sU h;rw [aY,Bool.true_and] at aP;exact rE ⟨_,by omega,e + 1,rfl,by omega,aP,rfl⟩ (bG (dH (aX aw (by omega))))
  ·have hge:e=a.length:=sW h1 h;rw [List.drop_of_length_le (by omega),List.drop_of_length_le (by omega)] at aP;refine (bK ?_:);rw [aP];simp [sameVs]
theorem qP:∀ (k:Nat) (a:Val),a.wt<=k->a.wt<=1099511627776->∀ b:Val,EvP prog 128 [.agg (aG a),.agg (aG b)] (.v (.bool (sameV a b)))
 | 0,v,h,_=>by have:=v.cT;omega
 | k + 1,.mk q n s ks,h,hb=>fun b=>by
  have ih:=qP k;rw [Val.wt] at h hb;obtain ⟨bk,bn,bs,bl⟩:=b
  have he:=GF 128 PL ks bl (by omega) fun x hx y=>by
   have:=cz hx;exact ih x (by omega) (by omega) y
  rw [sameV];refine eG 31 [.tmp 4] func128 rfl ntmps128 rfl fun _ _ _ _=>?_;refine br ?_ ?_<;>intro c
  ·have c:pickB (pickB (decide (q=bk)) (decide (n=bn)) false) (decide (s=bs)) false=true:=sU c;refine cP ach he ?_;refine (bK ?_:);simp only [aq] at c ⊢;rw [c]
  ·have c:pickB (pickB (decide (q=bk)) (decide (n=bn)) false) (decide (s=bs)) false=false:=sU c;refine (bK ?_:);simp only [aq] at c ⊢;rw [c];all_goals rfl
def u5 (n:Nd) (v:Val):Bool:=
 if 0 < v.ks.length∨(v.k≠3/\v.s≠av)∨(v.k=3/\v.n≠0) then false
 else if n.ag=1 then decide (v.k=1) && (decide (v.n=0) || decide (v.n=1))
 else if n.ag=2 then decide (v.k=2) && decide (n.lo<=v.n) && decide (v.n<=n.hi)
 else if n.ag=3 then decide (v.k=3) && decide ((v.s.size:Int)<=n.most)
 else decide (v.k=4) && decide (0<=v.n) && decide (v.n < n.af.length)
def ig (v:Val):Bool:=decide (v.s=av) && (decide (v.n=0) || decide (v.k=8))
def to0 (n:Nd):Int:=match n.az[0]? with | some e=>e.to | none=>0
def Ag (n:Nd) (v:Val):Option Ed:=if v.k=8/\0<=v.n/\v.n < n.az.length then n.az[v.n.toNat]? else none
def kidsL (n:Nd) (v:Val):List Int:=
 if n.ag=5∨n.ag=6 then List.replicate v.ks.length (to0 n)
 else if n.ag=7 then n.az.map Ed.to
 else match Ag n v with | none=>[] | some e=>if e.bare=true then [] else [e.to]
def gl (n:Nd) (v:Val):Bool:=
 if n.ag=5∨n.ag=6 then ig v && decide (v.k=n.ag) && decide ((v.ks.length:Int)<=if n.ag=6 then 1 else n.most)
 else if n.ag=7 then ig v && decide (v.k=7) && decide (n.az.length=v.ks.length)
 else match Ag n v with | none=>false | some _=>ig v && decide ((kidsL n v).length=v.ks.length)
def bR (ND:List Nd) (i:Int):Option Nd:=if i < 0 then none else ND[i.toNat]?
mutual
def fitV (ND:List Nd):Val->Int->Bool
 | .mk k n s ks,i=>match bR ND i with
  | none=>false
  | some d=>if d.ag < 5 then u5 d (.mk k n s ks) else gl d (.mk k n s ks) && fitVs ND ks (kidsL d (.mk k n s ks))
def fitVs (ND:List Nd):List Val->List Int->Bool
 | v :: r,i :: l=>fitV ND v i && fitVs ND r l
 | _,_=>true
end
def TN (n:Nd) (v:Val) (j:Nat):Int:=
 if n.ag=5 then (if (j:Int) < n.most then to0 n else -1)
 else if n.ag=6 then (if j < 1 then to0 n else -1)
 else if n.ag=7 then (match n.az[j]? with | some e=>e.to | none=>-1)
 else if n.ag=8 then (if j < 1/\0<=v.n/\v.n < n.az.length then (match n.az[v.n.toNat]? with | some e=>e.to | none=>-1) else -1)
 else -1
def pK (l:List Int):List (List DV):=l.map fun z=>[DV.v (.int .i64 z)]
theorem lz (l:List Int):(pK l).length=l.length:=by simp [pK]
theorem pL {l:List Int} {i:Nat} {z:Int} (h:l[i]? = some z):(pK l)[i]? = some [DV.v (.int .i64 z)]:=by simp [pK,h]
theorem sv (l:List Int) (z:Int):pK l ++ [[DV.v (.int .i64 z)]]=pK (l ++ [z]):=by simp [pK]
theorem BB:(⟨#[]⟩:ByteArray)=av:=rfl
theorem NW (n:Nd) (v:Val):EvP prog 137 [.agg (kg n),.agg (aG v)] (.v (.bool (u5 n v))):=by
 have hbl:=cH n.af;obtain ⟨ag,at',lo,hi,most,af,es⟩:=n;obtain ⟨q,z,s,ks⟩:=v;have cw:=aU ks;simp only at hbl
 have hF:u5 ⟨ag,at',lo,hi,most,af,es⟩ (.mk q z s ks)=if 0 < ks.length∨(q≠3/\s≠av)∨(q=3/\z≠0) then false
  else if ag=1 then decide (q=1) && (decide (z=0) || decide (z=1))
  else if ag=2 then decide (q=2) && decide (lo<=z) && decide (z<=hi)
  else if ag=3 then decide (q=3) && decide ((s.size:Int)<=most)
  else decide (q=4) && decide (0<=z) && decide (z < af.length):=rfl
 have hc:∀ b:Bool,b=pickB (pickB (decide (0 < ((dVals ks).length:Int))) true (pickB (!decide (q=3)) (!decide (s=⟨#[]⟩)) false)) true (pickB (decide (q=3)) (!decide (z=0)) false)->b=decide (0 < ks.length∨(q≠3/\s≠av)∨(q=3/\z≠0)):=fun b h=>by grind [BB,au,aq]
 rw [hF];refine eG 94 [.tmp 4] func137 rfl ntmps137 rfl fun _ _ _ _=>?_;refine br ?_ ?_<;>intro c
 ·have c:=of_decide_eq_true ((hc _ rfl).symm.trans c);rw [aj c];exact (rfl:_=_)
 have c:=of_decide_eq_false ((hc _ rfl).symm.trans c);rw [ai c];refine br ?_ ?_<;>intro c1
 ·have c1:ag=1:=sU c1;refine (bK ?_:);simp [c1,aq,au]
 have c1:¬ ag=1:=sU c1;refine br ?_ ?_<;>intro c2
 ·have c2:ag=2:=sU c2;refine (bK ?_:);simp [c2,aq,au]
 have c2:¬ ag=2:=sU c2;refine br ?_ ?_<;>intro c3
 ·have c3:ag=3:=sU c3;refine (bK ?_:);simp [c3,aq,au]
 have c3:¬ ag=3:=sU c3;refine (bK ?_:);simp [c1,c2,c3,aq,au,hbl]
abbrev XC (n:Nd) (v:Val) (l:List Int) (p:Bool) (kd mo:Int) (q e:Nat):St:=
 ⟨[aF 2 0,aF 3 1,(6,⟨[],.sl 1 (pK l) (some 0)⟩),Cu 7 p,ay 8 kd,ay 9 mo,ay 38 v.ks.length,ay 39 e],[kg n,aG v],[⟨q,3,1,none⟩]⟩
abbrev aeE (n:Nd) (v:Val) (l:List Int) (p:Bool) (q e:Nat):St:=
 ⟨[aF 2 0,aF 3 1,(6,⟨[],.sl 1 (pK l) (some 0)⟩),Cu 7 p,bi 67 10 (iM n.az),ay 68 ((iM n.az).length),ay 69 e],[kg n,aG v],[⟨q,3,1,none⟩]⟩
theorem kids_spec {L N:Nat} {n:Nd} (hn:cr L N n) (h5:5<=n.ag) (v:Val) (hv:v.wt<=1099511627776) :
  EvP prog 138 [.agg (kg n),.agg (aG v)] (.tup [.sl 1 (pK (kidsL n v)) none,.v (.bool (gl n v))]):=by
 have GG:=hn.k8;have NX:=hn.one;have GH:=hn.many;obtain ⟨ag,at',lo,hi,most,af,es⟩:=n;obtain ⟨q,z,s,ks⟩:=v;have cw:=aU ks;have pU:=cW es;have lf:=cq ks;rw [Val.wt] at hv;simp only at GG h5 NX GH
 have hp:∀ b:Bool,b=pickB (decide (s=⟨#[]⟩)) (pickB (decide (z=0)) true (decide (q=8))) false->b=ig (.mk q z s ks):=fun b h=>by
  rw [h];rw [aq,au,BB];all_goals rfl
 refine eG 134 [.tmp 4,.tmp 5] func138 rfl ntmps138 rfl fun _ _ _ _=>?_;refine br ?_ ?_<;>intro c
 ·have c:ag=5:=sU c;have ZK:ag=5∨ag=6:=.inl c;obtain ⟨x,jF,_,_⟩:=NX ZK;refine br (fun _=>?_) (fun h=>absurd h (by simp [c]));refine dI ?_;refine br (fun h=>absurd h (by simp [c])) (fun _=>?_);obtain ⟨kd,mo,h1,h2,h3,h4⟩:∃ kd mo:Int,5=kd/\most=mo/\kd=ag/\mo=(if ag=6 then 1 else most):=⟨5,most,rfl,rfl,c.symm,by rw [ai (by omega)]⟩;have Ci:(iM es)[0]? = some (zW x):=by rw [jF];all_goals rfl
  have ht0:to0 ⟨ag,at',lo,hi,most,af,es⟩=x.to:=by simp [to0,jF]
  refine lJ (fun e=>XC ⟨ag,at',lo,hi,most,af,es⟩ (.mk q z s ks) (List.replicate e x.to) (ig (.mk q z s ks)) kd mo e e) ks.length (dq 2 ⟨0,3,1,none⟩ rfl rfl rfl (by repeat' (first | exact rfl | exact aA rfl | exact cM (hp _ rfl) | exact aD h1 | exact aD h2 | exact aD (congrArg Nat.cast cw) | exact ch (aR _) rfl | exact ch (aR _) rfl | refine ⟨_,_,rfl,?_,?_⟩)) rfl rfl (by repeat' (first | exact trivial | exact aA rfl | exact cM (hp _ rfl) | exact aD h1 | exact aD h2 | exact aD (congrArg Nat.cast cw) | exact ch (aR _) rfl | refine ⟨⟨_,rfl,?_⟩,?_⟩))) ?_;intro e he;refine br ?_ ?_<;>intro hL
  ·have aw:e < ks.length:=by have:=hL;simp [Val.ks] at this;exact this
   have fA:(pK (List.replicate e x.to)).length=e:=by rw [lz,List.length_replicate]
   have eK:pK (List.replicate e x.to) ++ [[DV.v (.int .i64 x.to)]]=pK (List.replicate (e + 1) x.to):=by rw [sv,List.replicate_succ']
   refine ⟨_,⟨by omega,Ci⟩,?_⟩;refine ⟨fA,⟨by rw [fA];simp [maxLen];omega,by rw [fA];simp;omega⟩,?_⟩;exact rE ⟨_,by omega,e + 1,rfl,by omega,rfl⟩ (dz 2 (oc (aX aw (by omega)) eK) (gC (aX aw (by omega)) eK))
  ·have hge:e=ks.length:=by have:=hL;simp [Val.ks] at this;omega
   subst hge;have vP:kidsL ⟨ag,at',lo,hi,most,af,es⟩ (.mk q z s ks)=List.replicate ks.length x.to:=by unfold kidsL;rw [aj ZK,ht0];all_goals rfl
   have fA:(pK (List.replicate ks.length x.to)).length=ks.length:=by rw [lz,List.length_replicate]
   have hB:pickB (pickB (ig (.mk q z s ks)) (decide (q=kd)) false) (decide (((pK (List.replicate ks.length x.to)).length:Int)<=mo)) false=gl ⟨ag,at',lo,hi,most,af,es⟩ (.mk q z s ks):=by
    rw [fA,h3,h4,aq,aq];unfold gl;rw [aj ZK];rfl
   rw [vP];exact ⟨_,(rA hB),rfl⟩
 have c5:¬ ag=5:=sU c;refine br ?_ ?_<;>intro c
 ·have c:ag=6:=sU c;have ZK:ag=5∨ag=6:=.inr c;obtain ⟨x,jF,_,_⟩:=NX ZK;refine dI ?_;refine br (fun _=>?_) (fun h=>absurd h (by simp [c]));obtain ⟨kd,mo,h1,h2,h3,h4⟩:∃ kd mo:Int,6=kd/\1=mo/\kd=ag/\mo=(if ag=6 then 1 else most):=⟨6,1,rfl,rfl,c.symm,by rw [aj c]⟩;have Ci:(iM es)[0]? = some (zW x):=by rw [jF];all_goals rfl
  have ht0:to0 ⟨ag,at',lo,hi,most,af,es⟩=x.to:=by simp [to0,jF]
  refine lJ (fun e=>XC ⟨ag,at',lo,hi,most,af,es⟩ (.mk q z s ks) (List.replicate e x.to) (ig (.mk q z s ks)) kd mo e e) ks.length (dq 2 ⟨0,3,1,none⟩ rfl rfl rfl (by repeat' (first | exact rfl | exact aA rfl | exact cM (hp _ rfl) | exact aD h1 | exact aD h2 | exact aD (congrArg Nat.cast cw) | exact ch (aR _) rfl | exact ch (aR _) rfl | refine ⟨_,_,rfl,?_,?_⟩)) rfl rfl (by repeat' (first | exact trivial | exact aA rfl | exact cM (hp _ rfl) | exact aD h1 | exact aD h2 | exact aD (congrArg Nat.cast cw) | exact ch (aR _) rfl | refine ⟨⟨_,rfl,?_⟩,?_⟩))) ?_;intro e he;refine br ?_ ?_<;>intro hL
  ·have aw:e < ks.length:=by have:=hL;simp [Val.ks] at this;exact this
   have fA:(pK (List.replicate e x.to)).length=e:=by rw [lz,List.length_replicate]
   have eK:pK (List.replicate e x.to) ++ [[DV.v (.int .i64 x.to)]]=pK (List.replicate (e + 1) x.to):=by rw [sv,List.replicate_succ']
   refine ⟨_,⟨by omega,Ci⟩,?_⟩;refine ⟨fA,⟨by rw [fA];simp [maxLen];omega,by rw [fA];simp;omega⟩,?_⟩;exact rE ⟨_,by omega,e + 1,rfl,by omega,rfl⟩ (dz 2 (oc (aX aw (by omega)) eK) (gC (aX aw (by omega)) eK))
  ·have hge:e=ks.length:=by have:=hL;simp [Val.ks] at this;omega
   subst hge;have vP:kidsL ⟨ag,at',lo,hi,most,af,es⟩ (.mk q z s ks)=List.replicate ks.length x.to:=by unfold kidsL;rw [aj ZK,ht0];all_goals rfl
   have fA:(pK (List.replicate ks.length x.to)).length=ks.length:=by rw [lz,List.length_replicate]
   have hB:pickB (pickB (ig (.mk q z s ks)) (decide (q=kd)) false) (decide (((pK (List.replicate ks.length x.to)).length:Int)<=mo)) false=gl ⟨ag,at',lo,hi,most,af,es⟩ (.mk q z s ks):=by
    rw [fA,h3,h4,aq,aq];unfold gl;rw [aj ZK];rfl
   rw [vP];exact ⟨_,(rA hB),rfl⟩
 have c6:¬ ag=6:=sU c;obtain ⟨hm64,hm8,_,_⟩:=GH (by omega);refine br ?_ ?_<;>intro c
 ·have c7:ag=7:=sU c;refine lJ (fun e=>aeE ⟨ag,at',lo,hi,most,af,es⟩ (.mk q z s ks) ((es.take e).map Ed.to) (ig (.mk q z s ks)) e e) es.length (dq 2 ⟨0,3,1,none⟩ rfl rfl rfl (by repeat' (first | exact rfl | exact aA rfl | exact cM (hp _ rfl) | exact ch (aR _) rfl | exact ch (aR _) rfl | refine ⟨_,_,rfl,?_,?_⟩)) rfl rfl (by repeat' (first | exact trivial | exact aA rfl | exact cM (hp _ rfl) | exact ch (aR _) rfl | refine ⟨⟨_,rfl,?_⟩,?_⟩))) ?_;intro e he;refine br ?_ ?_<;>intro hL
  ·have aw:e < es.length:=by have:=hL;simp [pU] at this;exact this
   obtain ⟨x,hx⟩:=gX aw;have fA:(pK ((es.take e).map Ed.to)).length=e:=by rw [lz,List.length_map,zLenT];omega
   have eK:pK ((es.take e).map Ed.to) ++ [[DV.v (.int .i64 x.to)]]=pK ((es.take (e + 1)).map Ed.to):=by rw [sv,Bv hx,List.map_append];all_goals rfl
   refine iX (bH hx) ?_;refine ⟨fA,⟨by rw [fA];simp [maxLen];omega,by rw [fA];simp;omega⟩,?_⟩;exact rE ⟨_,by omega,e + 1,rfl,by omega,rfl⟩ (dz 2 (oc (aX aw (by omega)) eK) (gC (aX aw (by omega)) eK))
  ·have hge:e=es.length:=sW pU hL;subst hge;rw [List.take_length];have vP:kidsL ⟨ag,at',lo,hi,most,af,es⟩ (.mk q z s ks)=es.map Ed.to:=by unfold kidsL;rw [ai (by simp only;omega),aj c7]
   have fA:(pK (es.map Ed.to)).length=es.length:=by rw [lz,List.length_map]
   have hB:pickB (pickB (ig (.mk q z s ks)) (decide (q=7)) false) (decide (((pK (es.map Ed.to)).length:Int)=((dVals ks).length:Int))) false=gl ⟨ag,at',lo,hi,most,af,es⟩ (.mk q z s ks):=by grind [aq,gl,Val.k,Val.ks]
   rw [vP];refine dI ?_;exact ⟨_,(rA hB),rfl⟩
 have c7:¬ ag=7:=sU c;have vP:kidsL ⟨ag,at',lo,hi,most,af,es⟩ (.mk q z s ks)=(match Ag ⟨ag,at',lo,hi,most,af,es⟩ (.mk q z s ks) with | none=>[] | some e=>if e.bare=true then [] else [e.to]):=by unfold kidsL;rw [ai (by simp only;omega),ai c7];all_goals rfl
 have aeF:gl ⟨ag,at',lo,hi,most,af,es⟩ (.mk q z s ks)=(match Ag ⟨ag,at',lo,hi,most,af,es⟩ (.mk q z s ks) with | none=>false | some _=>ig (.mk q z s ks) && decide ((kidsL ⟨ag,at',lo,hi,most,af,es⟩ (.mk q z s ks)).length=ks.length)):=by unfold gl;rw [ai (by simp only;omega),ai c7];all_goals rfl
 have hc:∀ b:Bool,b=pickB (pickB (!decide (q=8)) true (decide (z < 0))) true (decide (((iM es).length:Int)<=z))->b = !decide (q=8/\0<=z/\z < es.length):=fun b h=>by grind [au]
 refine br ?_ ?_<;>intro c
 ·have c:¬ (q=8/\0<=z/\z < es.length):=by have:=(hc _ rfl).symm.trans c;simpa only [Bool.not_eq_true',decide_eq_false_iff_not] using this
  have ht:Ag ⟨ag,at',lo,hi,most,af,es⟩ (.mk q z s ks)=none:=by show (if q=8/\0<=z/\z < es.length then es[z.toNat]? else none)=_;rw [ai c]
  rw [aeF,vP,ht];exact ⟨_,ax,rfl⟩
 ·have c:q=8/\0<=z/\z < es.length:=by have:=(hc _ rfl).symm.trans c;simpa only [Bool.not_eq_false',decide_eq_true_eq] using this
  obtain ⟨x,hx⟩:∃ x,es[z.toNat]? = some x:=⟨_,gE (by omega)⟩;have ht:Ag ⟨ag,at',lo,hi,most,af,es⟩ (.mk q z s ks)=some x:=by show (if q=8/\0<=z/\z < es.length then es[z.toNat]? else none)=_;rw [aj c];exact hx
  rw [ht] at aeF vP;refine iX (bH hx) ?_;refine br ?_ ?_<;>intro hb
  ·have hb:x.bare=false:=sU hb;have ZL:kidsL ⟨ag,at',lo,hi,most,af,es⟩ (.mk q z s ks)=[x.to]:=by rw [vP];simp [hb]
   have hB:pickB (ig (.mk q z s ks)) (decide ((1:Int)=((dVals ks).length:Int))) false=gl ⟨ag,at',lo,hi,most,af,es⟩ (.mk q z s ks):=by grind [aq]
   rw [ZL,<- hB];refine ⟨⟨by simp [maxLen],by simp⟩,?_⟩;refine dI ?_;exact ⟨_,(by repeat' (first | exact rfl | exact trivial | exact Or.inr (Or.inl ⟨_,rfl⟩) | exact Or.inr ⟨_,rfl⟩ | exact Or.inl ⟨rfl,rfl⟩ | exact Or.inl rfl | refine Or.inr ⟨_,_,rfl,Nat.zero_le _,rfl,?_⟩ | refine ⟨_,_,rfl,?_,?_⟩ | refine ⟨_,rfl,?_⟩ | exact congrArg (fun b=>DV.v (.bool (pickB b _ false))) (hp _ rfl) | refine Or.inr (Or.inr (Or.inr ⟨_,_,rfl,?_⟩)) | exact Or.inl rfl | refine Or.inr ?_)),rfl⟩
  ·have hb:x.bare=true:=sU hb;have ZL:kidsL ⟨ag,at',lo,hi,most,af,es⟩ (.mk q z s ks)=[]:=by rw [vP];simp [hb]
   have hB:pickB (ig (.mk q z s ks)) (decide ((0:Int)=((dVals ks).length:Int))) false=gl ⟨ag,at',lo,hi,most,af,es⟩ (.mk q z s ks):=by grind [aq]
   rw [ZL,<- hB];refine dI ?_;exact ⟨_,(by repeat' (first | exact rfl | exact trivial | exact Or.inr (Or.inl ⟨_,rfl⟩) | exact Or.inr ⟨_,rfl⟩ | exact Or.inl ⟨rfl,rfl⟩ | exact Or.inl rfl | refine Or.inr ⟨_,_,rfl,Nat.zero_le _,rfl,?_⟩ | refine ⟨_,_,rfl,?_,?_⟩ | refine ⟨_,rfl,?_⟩ | exact congrArg (fun b=>DV.v (.bool (pickB b _ false))) (hp _ rfl) | refine Or.inr (Or.inr (Or.inr ⟨_,_,rfl,?_⟩)) | exact Or.inl rfl | refine Or.inr ?_)),rfl⟩
theorem BC {n:Nd} {v:Val} (hk:5<=n.ag) (h:gl n v=true):(kidsL n v).length=v.ks.length:=by grind [gl,kidsL,Ag]
theorem JN {ND:List Nd} {ks:List Val} {l:List Int} {e:Nat} {x:Val} {i:Int} (h1:ks[e]? = some x) (h2:l[e]? = some i):fitVs ND (ks.drop e) (l.drop e)=(fitV ND x i && fitVs ND (ks.drop (e + 1)) (l.drop (e + 1))):=by
 rw [drop_cons h1,drop_cons h2,fitVs]
theorem bu {ND:List Nd} {i:Int} {d:Nd} (h:bR ND i=some d):0<=i/\ND[i.toNat]? = some d:=by grind [bR]
theorem JO {ND:List Nd} {i:Int} (h:bR ND i=none):i < 0∨(ND.length:Int)<=i:=by grind [bR]
abbrev tfSt (PC:List DV) (v:Val) (l:List Int) (e:Nat):St:=
 ⟨[iQ 0 PC,aF 5 0,bi 36 1 (pK l),ay 37 l.length,ay 38 e],[aG v],[]⟩
theorem kO {S:Sch} {ND:List Nd} {PC:List DV} (hP:dM S ND PC):∀ (k:Nat) (v:Val),v.wt<=k->v.wt<=1099511627776->∀ i:Int,EvP prog 68 [.pt PC 0,.v (.int .i64 i),.agg (aG v)] (.v (.bool (fitV ND v i)))
 | 0,v,h,_=>by have:=v.cT;omega
 | k + 1,.mk q z s ks,h,hb=>fun i=>by
  have ih:=kO hP k;have lf:=cq ks;have cw:=aU ks;have eD:=hb;rw [Val.wt] at h hb;rw [fitV];have cJ:=hP.ah;have ZM:=hP.Xw;have bA:=hP.ok
  cases hd:bR ND i with
  | none=>
   refine eG 53 [.tmp 6] func68 rfl ntmps68 rfl fun _ _ _ _=>?_;refine cP mT (ZM i (JO hd)) ?_;exact (rfl:_=_)
  | some d=>
   obtain ⟨h0,hg⟩:=bu hd;obtain ⟨j,rfl⟩:∃ j:Nat,i=j:=⟨i.toNat,by omega⟩;have hg:ND[j]? = some d:=sU hg;have hN:=bA d (mG hg);have zU:=NW d (.mk q z s ks);have Ly:=fun h5=>kids_spec hN h5 (.mk q z s ks) eD;have hlen:=fun h5=>BC (n:=d) (v:=.mk q z s ks) h5;simp only;obtain ⟨ag,at',lo,hi,most,af,es⟩:=d;simp only at Ly hlen;refine eG 53 [.tmp 6] func68 rfl ntmps68 rfl fun _ _ _ _=>?_;refine cP mT (cJ j _ hg) ?_;refine br ?_ ?_<;>intro c
   ·have c:ag < 5:=sU c;rw [aj c];refine cP ab2 zU ?_;exact (rfl:_=_)
   have c:¬ ag < 5:=sU c;rw [ai c];have Ly:=Ly (by omega);have hlen:=hlen (by omega);generalize kidsL ⟨ag,at',lo,hi,most,af,es⟩ (.mk q z s ks)=l at Ly hlen ⊢;have hzl:=lz l;refine cP ab3 Ly ?_
   cases hB:gl ⟨ag,at',lo,hi,most,af,es⟩ (.mk q z s ks) with
   | false=>
    exact (rfl:_=_)
   | true=>
    have hlen:l.length=ks.length:=hlen hB;rw [Bool.true_and];refine lI (fun j st=>∃ e:Nat,st=tfSt PC (.mk q z s ks) l e/\e<=l.length/\fitVs ND ks l=fitVs ND (ks.drop e) (l.drop e)/\j=l.length - e) ⟨0,rfl,by omega,rfl,rfl⟩ (bG (dH hzl)) ?_;rintro _ st ⟨e,rfl,he,aP,rfl⟩;refine br ?_ ?_<;>intro hL
    ·have aw:e < l.length:=by have:=hL;simp at this;exact this
     obtain ⟨x,hx⟩:∃ x,ks[e]? = some x:=⟨_,gE (by omega)⟩;obtain ⟨y,hy⟩:=gX aw;have Rj:=cz (mG hx);rw [JN hx hy] at aP;have ik:=ih x (by omega) (by omega) y;obtain ⟨xk,xn,xs,xl⟩:=x;refine iX (pL hy) ?_;refine iX (bJ hx) ?_;refine cP PF ik ?_;refine br ?_ ?_<;>intro g
     ·have g:fitV ND (.mk xk xn xs xl) y=false:=sU g;rw [aP,g];exact (rfl:_=_)
     ·have g:fitV ND (.mk xk xn xs xl) y=true:=sU g;rw [g,Bool.true_and] at aP;exact rE ⟨_,by omega,e + 1,rfl,by omega,aP,rfl⟩ (bG (dH (aX aw (by omega))))
    ·have hge:e=l.length:=by have:=hL;simp at this;omega
     rw [List.drop_of_length_le (by omega),List.drop_of_length_le (by omega)] at aP;rw [aP];exact (rfl:_=_)
structure Sc (ND:List Nd) (v:Val) (i:Int) (d:Nd):Prop where
 ah:bR ND i=some d
 k:v.k=d.ag
 leaf:d.ag < 5->v.ks=[]
 enum:d.ag=4->0<=v.n/\v.n < d.af.length
 kids:5<=d.ag->(kidsL d v).length=v.ks.length/\fitVs ND v.ks (kidsL d v)=true
 tag:d.ag=8->∃ e,Ag d v=some e/\d.az[v.n.toNat]? = some e/\0<=v.n/\v.n < d.az.length/\(e.bare=true↔v.ks=[])
 opt:d.ag=6->v.ks.length<=1
theorem dT {L:Nat} {ND:List Nd} (bA:∀ n∈ND,cr L ND.length n) {v:Val} {i:Int} (h:fitV ND v i=true):∃ d,Sc ND v i d:=by
 obtain ⟨k,n,s,ks⟩:=v;rw [fitV] at h
 cases hd:bR ND i with
 | none=>rw [hd] at h;cases h
 | some d=>
  rw [hd] at h;simp only at h;have hN:=bA d (mG (bu hd).2);have og:=hN.k1;have GG:=hN.k8;by_cases h5:d.ag < 5
  ·rw [aj h5] at h;unfold u5 at h;by_cases hc:0 < (Val.mk k n s ks).ks.length∨((Val.mk k n s ks).k≠3/\(Val.mk k n s ks).s≠av)∨((Val.mk k n s ks).k=3/\(Val.mk k n s ks).n≠0)
   ·rw [aj hc] at h;cases h
   rw [ai hc] at h;have NY:ks=[]:=by grind [Val.ks]
   have hk:k=d.ag/\(d.ag=4->0<=n/\n < d.af.length):=by grind [Val.k,Val.n]
   exact ⟨d,{ ah:=hd,k:=hk.1,leaf:=fun _=>NY,enum:=hk.2,kids:=fun h=>by omega,tag:=fun h=>by omega,opt:=fun h=>by omega }⟩
  ·rw [ai h5,aO] at h;obtain ⟨hB,hf⟩:=h;have hlen:=BC (by omega) hB;have hB2:=hB;unfold gl at hB;by_cases c:d.ag=5∨d.ag=6
   ·rw [aj c] at hB;simp only [aO,decide_eq_true_eq] at hB;exact ⟨d,{ ah:=hd,k:=hB.1.2,leaf:=fun h=>by omega,enum:=fun h=>by omega,kids:=fun _=>⟨hlen,hf⟩,tag:=fun h=>by omega,opt:=fun h=>by have:=hB.2;rw [aj h] at this;omega }⟩
   rw [ai c] at hB;by_cases c7:d.ag=7
   ·rw [aj c7] at hB;simp only [aO,decide_eq_true_eq] at hB;exact ⟨d,{ ah:=hd,k:=by rw [c7];exact hB.1.2,leaf:=fun h=>by omega,enum:=fun h=>by omega,kids:=fun _=>⟨hlen,hf⟩,tag:=fun h=>by omega,opt:=fun h=>by omega }⟩
   rw [ai c7] at hB
   cases ht:Ag d (.mk k n s ks) with
   | none=>rw [ht] at hB;cases hB
   | some e=>
    have ht2:=ht;unfold Ag at ht2;split at ht2
    ·rename_i hr;have lf:kidsL d (.mk k n s ks)=if e.bare=true then [] else [e.to]:=by unfold kidsL;rw [ai c,ai c7,ht]
     refine ⟨d,{ ah:=hd,k:=by have:=hr.1;omega,leaf:=fun h=>by omega,enum:=fun h=>by omega,kids:=fun _=>⟨hlen,hf⟩,tag:=fun _=>⟨e,ht,ht2,hr.2.1,hr.2.2,?_⟩,opt:=fun h=>by omega }⟩
     grind
    ·cases ht2
theorem sw {ND:List Nd}:∀ {ks:List Val} {l:List Int} {e:Nat} {x:Val} {i:Int},fitVs ND ks l=true->ks[e]? = some x->l[e]? = some i->fitV ND x i=true
 | [],_,e,x,i,_,h,_=>by simp at h
 | _ :: _,[],e,x,i,_,_,h=>by simp at h
 | v :: r,j :: l,0,x,i,h,h1,h2=>by grind [fitVs]
 | v :: r,j :: l,e + 1,x,i,h,h1,h2=>by
  simp only [List.getElem?_cons_succ] at h1 h2;rw [fitVs,aO] at h;exact sw h.2 h1 h2
structure Stp where
 k:Int
 n:Int
 s:ByteArray
def fT (x:Stp):List DV:=[.v (.int .i64 x.k),.v (.int .i64 x.n),.v (.string x.s)]
def bf (l:List Stp):List (List DV):=l.map fT
theorem eM (l:List Stp):(bf l).length=l.length:=by simp [bf]
theorem iu {l:List Stp} {e:Nat} {x:Stp} (h:l[e]? = some x):(bf l)[e]? = some (fT x):=by simp [bf,h]
def jN (a b:Stp):Bool:=decide (a.k=b.k) && (decide (a.n=b.n) && decide (a.s=b.s))
theorem GI {a b:Stp}:jN a b=true↔a=b:=by
 obtain ⟨k,n,s⟩:=a;obtain ⟨k',n',s'⟩:=b
 grind [jN]
theorem uv (a:Stp):jN a a=true:=GI.2 rfl
def DB (a:Stp):Array Value:=#[.int .i64 a.k,.int .i64 a.n,.string a.s]
theorem BD (a b:Stp) (w:World):(Op.equal 141 (.agg (DB a)) (.agg (DB b))).run prog w = .ok (jN a b) w:=by
 have hf:prog.underlying 141=some (.struct (prog.fieldsOf 141)):=by simp [Program.fieldsOf,Tryz.underlying141]
 have sJ:(prog.fieldsOf 141).toList=[⟨ "Kind",3,0,false, "", "",0⟩,⟨ "N",3,1,false, "", "",8⟩,⟨ "Name",9,2,false, "", "",16⟩]:=by simp [Program.fieldsOf,Tryz.underlying141]
 have hs:prog.stoodInHeld 141=false:=by kernel_rfl
 obtain ⟨d,hm⟩:∃ d,Op.maxDepth=d + 1 + 1:=⟨Op.maxDepth - 2,by decide⟩
 have q9:∀ cs:Array Value,∀ off v,cs[off]? = some v->(part 9 cs off).run prog w = .ok v w:=fun cs off v h=>by
  simp [part,Tryz.isAgg9,h]
 have q3:∀ cs:Array Value,∀ off v,cs[off]? = some v->(part 3 cs off).run prog w = .ok v w:=fun cs off v h=>by
  simp [part,Tryz.isAgg3,h]
 have g0:=fun x:Stp=>q3 (DB x) 0 (.int .i64 x.k) rfl;have g1:=fun x:Stp=>q3 (DB x) 1 (.int .i64 x.n) rfl;have g2:=fun x:Stp=>q9 (DB x) 2 (.string x.s) rfl;have r9:=fun a b=>run_equalIn_string w d 9 a b Tryz.underlying9;have r3:=fun a b=>run_equalIn_int w d 3 .i64 .i64 a b Tryz.underlying3
 have e1:(a.s.toList == b.s.toList)=decide (a.s=b.s):=by
  rw [ByteArray.toList_eq,ByteArray.toList_eq];by_cases h:a.s=b.s
  ·rw [h];simp
  ·have:¬ a.s.data=b.s.data:=fun e=>h (ByteArray.ext e);simp [h,this]
 unfold Op.equal;rw [hm,run_equalIn_struct w (d + 1) 141 _ _ hf hs,sJ];simp only [Op.eqFields,ne_eq,String.reduceEq,not_false_eq_true,if_true,Sem.run_bind,g0,g1,g2,r9,r3,Result.andThen_ok];by_cases h1:a.k=b.k
 ·by_cases h2:a.n=b.n
  ·by_cases h3:a.s=b.s
   ·simp_all [jN]
   ·simp_all [jN]
  ·simp [h1,h2,jN,Sem.run_pure,r3,g1]
 ·simp [h1,jN,Sem.run_pure]
theorem BE (o:BinOp) (ho:o = .eql∨o = .neq) (w:World) (x y:Operand) (vs vs':Array Value):(eqGuard o 141 x y (.agg vs) (.agg vs')).run prog w = .ok () w:=by
 have h:prog.eqGuardType prog.depth 141=false:=by kernel_rfl
 rcases ho with rfl | rfl<;>simp [eqGuard,run_program,h]
theorem Vr (x y:Operand) (a b:Stp):Ca prog .neq x y 141 (fT a) (fT b) (!jN a b):=
 ⟨[.int .i64 a.k,.int .i64 a.n,.string a.s],[.int .i64 b.k,.int .i64 b.n,.string b.s],rfl,rfl,fun w=>⟨BE _ (.inr rfl) w x y _ _,by
  show ((do let r <- Op.equal 141 (.agg (DB a)) (.agg (DB b));pure (Value.bool !r)):Sem Value).run prog w=_
  simp only [Sem.run_bind,BD,Result.andThen_ok,Sem.run_pure]⟩⟩
theorem Vs (x y:Operand) (a b:Stp):Ca prog .eql x y 141 (fT a) (fT b) (jN a b):=
 ⟨[.int .i64 a.k,.int .i64 a.n,.string a.s],[.int .i64 b.k,.int .i64 b.n,.string b.s],rfl,rfl,fun w=>⟨BE _ (.inl rfl) w x y _ _,by
  show ((do let r <- Op.equal 141 (.agg (DB a)) (.agg (DB b));pure (Value.bool r)):Sem Value).run prog w=_
  simp only [Sem.run_bind,BD,Result.andThen_ok,Sem.run_pure]⟩⟩
def stpR (d:Nd) (v:Val) (j:Nat):Stp:=
 if d.ag=5 then ⟨2,j,av⟩
 else if d.ag=6 then ⟨4,0,av⟩
 else if d.ag=7 then ⟨1,0,match d.az[j]? with | some e=>e.name | none=>av⟩
 else ⟨5,0,match d.az[v.n.toNat]? with | some e=>e.name | none=>av⟩
def Sd (f:Nat->Nat->Bool) (n:Nat) (a b:Int):Bool:=decide (0<=a) && decide (a < n) && decide (0<=b) && decide (b < n) && f a.toNat b.toNat
def y9 (f:Nat->Nat->Bool) (n a b:Nat):Nat:=(fy f n a b).getD 0
def eC (f:Nat->Nat->Bool) (n:Nat):Nat:=(gv f n []).getD 0
theorem GJ {f:Nat->Nat->Bool} {n a b:Nat} (ha:a < n) (hb:b < n):Sd f n a b=f a b:=by simp [Sd,ha,hb]
theorem GK {f:Nat->Nat->Bool} {n a b:Nat} (h:gH f n) (ha:a < n) (hb:b < n):fy f n a b=some (y9 f n a b):=by
 obtain ⟨k,hk⟩:=h.jn a b ha hb;simp [y9,hk]
theorem DD {f:Nat->Nat->Bool} {n a b:Nat} (h:gH f n) (ha:a < n) (hb:b < n):y9 f n a b < n:=(qG (GK h ha hb)).1
theorem BF {f:Nat->Nat->Bool} {n:Nat} (h:gH f n):gv f n []=some (eC f n):=by
 obtain ⟨c,hc⟩:=u4 h [] (fun _ h=>by cases h);simp [eC,hc]
theorem wz {f:Nat->Nat->Bool} {n:Nat} (h:gH f n):eC f n < n:=pF (BF h)
section
variable (af:List ByteArray) (tc:List DV) (rows:List Nat) (js:List Int)
theorem NZ (hr:eL rows) (hl:rows.length=af.length) (a b:Int) :
  EvP prog 88 [.pt (iV af tc rows js) 0,.v (.int .i64 a),.v (.int .i64 b)] (.v (.bool (hasB rows a b))):=by
 have h1:=tP af tc rows js;have h2:=lU rows hr a b;have hB:hasB rows a b=(decide (0<=a) && decide (a < af.length) && decide (0<=b) && decide (b < af.length) && bh rows a.toNat b.toNat):=by rw [<- hl];all_goals rfl
 generalize hasB rows a b=h at h2 hB ⊢;refine eG 24 [.tmp 6] func88 rfl ntmps88 rfl fun _ _ _ _=>?_;refine cP xz (h1 a) ?_;refine br ?_ ?_<;>intro g
 ·refine cP xz (h1 b) ?_;refine br ?_ ?_<;>intro g2
  ·refine cP E6 h2 ?_;exact (rfl:_=_)
  ·refine (bK ?_:);rw [hB];simp only [Bool.and_assoc] at g g2 ⊢;cases hx:decide (0<=b)<;>cases hy:decide (b < af.length)<;>simp_all [pickB]
 ·refine (bK ?_:);rw [hB];cases hx:decide (0<=a)<;>cases hy:decide (a < af.length)<;>simp_all [pickB]
end
structure za (n:Nat) (f:Nat->Nat->Bool) (af:List ByteArray) (LC:List DV):Prop where
 ok:gH f n
 n32:n<=32
 nl:af.length=n
 len:EvP prog 73 [.pt LC 0] (.v (.int .i64 n))
 leq:∀ a b:Int,EvP prog 88 [.pt LC 0,.v (.int .i64 a),.v (.int .i64 b)] (.v (.bool (Sd f n a b)))
 join:∀ a b:Nat,a < n->b < n->EvP prog 203 [.pt LC 0,.v (.int .i64 a),.v (.int .i64 b)] (.v (.int .i64 (y9 f n a b:Nat)))
 bot:EvP prog 70 [.pt LC 0] (.v (.int .i64 (eC f n:Nat)))
 name:∀ (i:Nat) s,af[i]? = some s->EvP prog 157 [.pt LC 0,.v (.int .i64 i)] (.v (.string s))
abbrev aH (S:Sch):Nat->Nat->Bool:=fo S.ae.length (dN (aC S.ae) S.order)
theorem dM.Vt {S:Sch} {ND:List Nd} {PC:List DV} (hP:dM S ND PC):∃ LC,EvP prog 72 [.pt PC 0] (.pt LC 0)/\za S.ae.length (aH S) (aC S.ae) LC:=by
 obtain ⟨aJ,js,hX,hl⟩:=hP.lat;have gR:=dV S.ae;have zU:=(hP.fine).lat;obtain ⟨hL,Ro⟩:=l8 zU;have hpr:∀ p∈dN (aC S.ae) S.order,p.1 < S.ae.length/\p.2 < S.ae.length:=by have:=pD (qK zU).2.2.1;rwa [dV] at this
 have fm:(dR S aJ js).rows.length=S.ae.length:=by
  show (closeR (fM S.ae.length (dN (aC S.ae) S.order)) S.ae.length).length=_;rw [fN,kG]
 have hr:eL (dR S aJ js).rows:=lV (CR (by omega) _ hpr) _ (by omega)
 refine ⟨_,hl,{
  ok:=hL,n32:=Ro,nl:=gR
  len:=?_
  leq:=fun a b=>?_
  join:=fun a b ha hb=>?_
  bot:=?_
  name:=fun i s hs=>?_
  }⟩
 ·have:=tN (dR S aJ js).af (dr (dR S aJ js).af (dR S aJ js).aJ) (dR S aJ js).rows (dR S aJ js).js
  rwa [show (dR S aJ js).af.length=S.ae.length from gR] at this
 ·have:=NZ (dR S aJ js).af (dr (dR S aJ js).af (dR S aJ js).aJ) (dR S aJ js).rows (dR S aJ js).js hr (by rw [fm];exact gR.symm) a b
  have he:hasB (dR S aJ js).rows a b=Sd (aH S) S.ae.length a b:=by
   unfold hasB Sd;rw [fm];all_goals rfl
  rwa [he] at this
 ·have hz:=(hX.hj a b (by rw [show (dR S aJ js).af.length=S.ae.length from gR];exact ha) (by rw [show (dR S aJ js).af.length=S.ae.length from gR];exact hb)).1;rw [show (dR S aJ js).af.length=S.ae.length from gR,show (dR S aJ js).f=aH S from rfl,GK hL ha hb] at hz;exact yg (dR S aJ js).af (dr (dR S aJ js).af (dR S aJ js).aJ) (dR S aJ js).rows (dR S aJ js).js a b _ (by rw [show (dR S aJ js).af.length=S.ae.length from gR];exact ha) (by rw [show (dR S aJ js).af.length=S.ae.length from gR];exact hb) hX.hn hz
 ·have:=rW (dR S aJ js).af (dr (dR S aJ js).af (dR S aJ js).aJ) (dR S aJ js).rows (dR S aJ js).js hX.hL hX.hn hX.hj
  rwa [show (dR S aJ js).af.length=S.ae.length from gR,show (dR S aJ js).f=aH S from rfl,BF hL] at this
 ·have:=I1 (dR S aJ js).af (dr (dR S aJ js).af (dR S aJ js).aJ) (dR S aJ js).rows (dR S aJ js).js i;have aw:=(gS hs).1;rw [aj ⟨by omega,by rw [show (dR S aJ js).af=aC S.ae from rfl];omega⟩,lK,show (dR S aJ js).af=aC S.ae from rfl,hs] at this;exact this
def bI (s:Stp):Bool:=
 if s.k=1∨s.k=5 then decide (s.n=0) && aZ s.s
 else if s.k=2 then decide (0<=s.n) && decide (s.s=⟨#[]⟩)
 else if s.k=3∨s.k=4 then decide (s.n=0) && decide (s.s=⟨#[]⟩) else false
def fU (l:List Stp):Bool:=decide (l.length<=64) && l.all bI
theorem JP (s:Stp):fU [s]=bI s:=by simp [fU]
def kP (d:Nd) (s:Stp) (e:Ed):Bool:=
 (decide (s.k=1) && decide (d.ag=7) && (decide (e.name=s.s) && !e.bare)) || (decide (s.k=5) && decide (d.ag=8) && (decide (e.name=s.s) && !e.bare)) ||
  ((decide (s.k=2) || decide (s.k=3)) && decide (d.ag=5) && decide (s.n < d.most)) || (decide (s.k=4) && decide (d.ag=6))
def JQ (d:Nd) (s:Stp) (e:Ed):Bool:=
 if s.k=1 then decide (d.ag=7) && decide (e.name=s.s)
 else if s.k=5 then decide (d.ag=8) && decide (e.name=s.s) && !e.bare
 else if s.k=2 then decide (d.ag=5) && decide (s.n < d.most)
 else if s.k=3 then decide (d.ag=5) && decide (0 < d.most)
 else decide (d.ag=6)
theorem GL {s:Stp} (h:bI s=true):s.k=1∨s.k=2∨s.k=3∨s.k=4∨s.k=5:=by grind [bI]
theorem LX {L N:Nat} {d:Nd} (hN:cr L N d) {s:Stp} (hr:bI s=true) {e:Ed} (he:e∈d.az):JQ d s e=kP d s e:=by
 have hk:=GL hr;have hb:=hN.bare e he
 grind [JQ,kP,bI]
def edgeP (d:Nd) (s:Stp) (k:Nat):Bool:=match d.az[k]? with | some e=>kP d s e | none=>false
def oS (d:Nd) (s:Stp):Option Nat:=if bI s=true then cm (edgeP d s) d.az.length else none
theorem JR {d:Nd} {s:Stp} {k:Nat} (h:oS d s=some k):∃ e,d.az[k]? = some e/\kP d s e=true/\bI s=true:=by
 unfold oS at h;split at h
 ·rename_i hr;obtain ⟨h1,h2,_⟩:=eV h
  grind [edgeP]
 ·cases h
def walkV (ND:List Nd) (f:Nat->Nat->Bool) (n:Nat):List Stp->Nat->Nat->Option (Nat × Nat)
 | [],i,a=>some (i,a)
 | s :: p,i,a=>match ND[i]? with
  | none=>none
  | some d=>match oS d s with
   | none=>none
   | some k=>match d.az[k]? with
    | none=>none
    | some e=>walkV ND f n p e.to.toNat (y9 f n a e.label.toNat)
theorem zb {L N:Nat} {d:Nd} (hN:cr L N d) {s:Stp} {e:Ed} (he:e∈d.az) (h:kP d s e=true):e.bare=false:=by
 cases hb:e.bare
 ·rfl
 ·have h8:=hN.bare e he hb;unfold kP at h;simp [hb,h8] at h
theorem iv {L:Nat} {ND:List Nd} {d:Nd} (hN:cr L ND.length d) {e:Ed} (he:e∈d.az):(e.bare=false->e.to=(e.to.toNat:Nat)/\e.to.toNat < ND.length)/\(e.label=(e.label.toNat:Nat)/\e.label.toNat < L)/\(e.seen=(e.seen.toNat:Nat)/\e.seen.toNat < L):=by
 have hE:=hN.gq e he;refine ⟨fun hb=>?_,?_,?_⟩
 ·obtain ⟨k,h1,h2⟩:=hE.to1 hb;rw [h1];exact ⟨by simp,by simpa using h2⟩
 ·obtain ⟨k,h1,h2⟩:=hE.lab;rw [h1];exact ⟨by simp,by simpa using h2⟩
 ·obtain ⟨k,h1,h2⟩:=hE.seen;rw [h1];exact ⟨by simp,by simpa using h2⟩
theorem GM {f:Nat->Nat->Bool} {L:Nat} (hL:gH f L) {ND:List Nd} (bA:∀ n∈ND,cr L ND.length n):∀ (p:List Stp) (i a:Nat) {j b:Nat},i < ND.length->a < L->walkV ND f L p i a=some (j,b)->j < ND.length/\b < L
 | [],i,a,j,b,hi,ha,h=>by grind [walkV]
 | s :: p,i,a,j,b,hi,ha,h=>by
  rw [walkV,gE hi] at h;simp only at h;split at h
  ·cases h
  ·rename_i k hk;obtain ⟨e,he,hB,_⟩:=JR hk;rw [he] at h;simp only at h;have hm:=mG he;have hd:=bA _ (List.getElem_mem hi);obtain ⟨h1,h2,_⟩:=iv hd hm;exact GM hL bA p _ _ (h1 (zb hd hm hB)).2 (DD hL ha h2.2) h
def jZ (f:Nat->Nat->Bool) (n obs:Nat) (d:Nd) (e:Ed) (a:Nat):Nat:=
 if f (if d.ag < 7 then a else y9 f n a e.label.toNat) obs=true then 2 else if e.ck≠0/\f (y9 f n a e.seen.toNat) obs=true then 1 else 0
section
variable (ND:List Nd) (f:Nat->Nat->Bool) (n obs dep:Nat)
end
def aW (d:Nd) (z:Int) (j:Nat):Option Ed:=if d.ag=7 then d.az[j]? else if d.ag=8 then d.az[z.toNat]? else d.az[0]?
def gy (f:Nat->Nat->Bool) (n:Nat) (d:Nd) (e:Ed) (a:Nat):Nat:=if d.ag < 7 then a else y9 f n a e.label.toNat
def oT (e:Ed):Val:=.mk 9 e.wide av []
def bS (e:Ed) (v:Val):Val:=
 if e.ck=1/\v.k=2/\(aN v.n e.cn).2=true then .mk 10 (aN v.n e.cn).1 av []
 else if e.ck=2/\v.k=3 then .mk 11 0 (ba (headL e.cn.toNat (tx v.s))) []
 else if e.ck=3/\v.k=5 then .mk 12 v.ks.length av []
 else oT e
def oU (e:Ed) (x y:Val):Bool:=
 if e.ck=1/\x.k=2 then decide (aN x.n e.cn=aN y.n e.cn)
 else if e.ck=2/\x.k=3 then headsL e.cn.toNat (tx x.s) (tx y.s)
 else if e.ck=3/\x.k=5 then decide (x.ks.length=y.ks.length)
 else true
theorem N1 (n u:Int) (h:(aN n u).2=false):aN n u=(0,false):=by grind [aN]
theorem Se (e:Ed) {x y:Val} (h:x.k=y.k):oU e x y=sameV (bS e x) (bS e y):=by grind [km,oU,bS,aN,N1,oT,RS,tx]
def GN (d:Nd) (z:Int) (j:Nat):Stp:=stpR d (.mk 0 z av []) j
section
variable (ND:List Nd) (f:Nat->Nat->Bool) (L obs:Nat)
mutual
def eraseV:Val->Int->Nat->Val
 | .mk k n s ks,i,a=>match bR ND i with
  | none=>.mk k n s []
  | some d=>.mk k n s (eraseVs ks d n a 0)
def eraseVs:List Val->Nd->Int->Nat->Nat->List Val
 | [],_,_,_,_=>[]
 | x :: r,d,z,a,j=>(match aW d z j with
  | none=>x
  | some e=>if jZ f L obs d e a=2 then eraseV x e.to (gy f L d e a) else if jZ f L obs d e a=1 then bS e x else oT e) :: eraseVs r d z a (j + 1)
end
mutual
def diffV:Val->Val->Int->Nat->Option (List Stp)
 | .mk _ n s ks,.mk _ n' s' Eg,i,a=>if n≠n' ∨ s≠s' ∨ ks.length≠Eg.length then some [] else match bR ND i with
  | none=>none
  | some d=>diffVs ks Eg d n a 0
def diffVs:List Val->List Val->Nd->Int->Nat->Nat->Option (List Stp)
 | x :: r,y :: t,d,z,a,j=>match aW d z j with
  | none=>none
  | some e=>match (if jZ f L obs d e a=2 then diffV x y e.to (gy f L d e a) else if jZ f L obs d e a=1 then (if oU e x y=true then none else some []) else none) with
   | some p=>some (GN d z j :: p)
   | none=>diffVs r t d z a (j + 1)
 | _,_,_,_,_,_=>none
end
mutual
def refD:Val->Val->Int->Option (List Stp)
 | .mk k n s ks,.mk k' n' s' Eg,i=>if k≠k' ∨ n≠n' ∨ s≠s' ∨ ks.length≠Eg.length then some [] else match bR ND i with
  | none=>none
  | some d=>refDs ks Eg d n 0
def refDs:List Val->List Val->Nd->Int->Nat->Option (List Stp)
 | x :: r,y :: t,d,z,j=>match aW d z j with
  | none=>none
  | some e=>match refD x y e.to with
   | some p=>some (GN d z j :: p)
   | none=>refDs r t d z (j + 1)
 | _,_,_,_,_=>none
end
mutual
def vwB:Val->Int->Bool
 | .mk _ n _ ks,i=>match bR ND i with
  | none=>false
  | some d=>vwBs ks d n 0
def vwBs:List Val->Nd->Int->Nat->Bool
 | [],_,_,_=>true
 | x :: r,d,z,j=>match aW d z j with
  | none=>false
  | some e=>decide (TN d (.mk 0 z av []) j=e.to) && decide (0<=e.to) && vwB x e.to && vwBs r d z (j + 1)
end
end
section
variable {ND:List Nd} {f:Nat->Nat->Bool} {L obs:Nat}
theorem jO:∀ (ks:List Val) (d:Nd) (z:Int) (a j:Nat),(eraseVs ND f L obs ks d z a j).length=ks.length
 | [],_,_,_,_=>by rw [eraseVs]
 | x :: r,d,z,a,j=>by rw [eraseVs,List.length_cons,List.length_cons,jO r]
theorem JS (v:Val) (i:Int) (a:Nat):(eraseV ND f L obs v i a).k=v.k/\(eraseV ND f L obs v i a).n=v.n/\(eraseV ND f L obs v i a).s=v.s:=by
 obtain ⟨k,n,s,ks⟩:=v;rw [eraseV];cases bR ND i<;>exact ⟨rfl,rfl,rfl⟩
theorem BG (u:Nat) (l:List UInt8):(headL u l).length<=l.length:=(uj u l).length_le
theorem JT (e:Ed) (v:Val):(bS e v).wt<=v.wt:=by
 have h1:=v.cT;unfold bS
 repeat' split
 ·rw [Val.wt,cu];show 64 + 0 + 0<=_;omega
 ·obtain ⟨k,n,s,ks⟩:=v;have h2:=BG e.cn.toNat (tx s);rw [dg] at h2;rw [Val.wt,cu,Val.wt];have:(ba (headL e.cn.toNat (tx s))).size=(headL e.cn.toNat (tx s)).length:=by rw [<- dg,uU]
  show 64 + (ba (headL e.cn.toNat (tx s))).size + 0<=_;omega
 ·rw [Val.wt,cu];show 64 + 0 + 0<=_;omega
 ·rw [oT,Val.wt,cu];show 64 + 0 + 0<=_;omega
mutual
theorem BH:∀ (v:Val) (i:Int) (a:Nat),(eraseV ND f L obs v i a).wt<=v.wt
 | .mk k n s ks,i,a=>by
  rw [eraseV]
  cases bR ND i with
  | none=>rw [Val.wt,Val.wt,cu];omega
  | some d=>
   have:=zc ks d n a 0;simp only;rw [Val.wt,Val.wt];omega
theorem zc:∀ (ks:List Val) (d:Nd) (z:Int) (a j:Nat),cu (eraseVs ND f L obs ks d z a j)<=cu ks
 | [],_,_,_,_=>by rw [eraseVs];exact aR _
 | x :: r,d,z,a,j=>by
  have h1:=zc r d z a (j + 1);rw [eraseVs,cu,cu]
  have:(match aW d z j with
   | none=>x
   | some e=>if jZ f L obs d e a=2 then eraseV ND f L obs x e.to (gy f L d e a) else if jZ f L obs d e a=1 then bS e x else oT e).wt<=x.wt:=by
   cases aW d z j with
   | none=>exact aR _
   | some e=>
    simp only;split
    ·exact BH x _ _
    ·split
     ·exact JT e x
     ·have:=x.cT;rw [oT,Val.wt,cu];show 64 + 0 + 0<=_;omega
  omega
end
theorem zd:∀ {ks:List Val} {d:Nd} {z:Int} {a j m:Nat} {x:Val},ks[m]? = some x->(eraseVs ND f L obs ks d z a j)[m]? = some (match aW d z (j + m) with
  | none=>x
  | some e=>if jZ f L obs d e a=2 then eraseV ND f L obs x e.to (gy f L d e a) else if jZ f L obs d e a=1 then bS e x else oT e)
 | [],_,_,_,_,_,_,h=>by cases h
 | y :: r,d,z,a,j,0,x,h=>by
  rw [eraseVs];cases h;rfl
 | y :: r,d,z,a,j,m + 1,x,h=>by
  rw [eraseVs,List.getElem?_cons_succ,zd (ks:=r) (m:=m) (x:=x) h,show j + 1 + m=j + (m + 1) by omega]
theorem Sf {N:Nat} (bA:∀ n∈ND,cr N ND.length n) {v:Val} {i:Int} {d:Nd} (iz:fitV ND v i=true) (hF:Sc ND v i d) {m:Nat} {x:Val} (hx:v.ks[m]? = some x) :
  ∃ e,aW d v.n m=some e/\e∈d.az/\e.bare=false/\fitV ND x e.to=true/\TN d v m=e.to/\5<=d.ag:=by
 have hN:=bA d (mG (bu hF.ah).2);have hm:m < v.ks.length:=(gS hx).1;have h8:=hN.k8;have h1:=hN.k1;by_cases h5:d.ag < 5
 ·rw [hF.leaf h5] at hx;cases hx
 obtain ⟨lf,hkf⟩:=hF.kids (by omega);rcases (show (d.ag=5∨d.ag=6)∨d.ag=7∨d.ag=8 by omega) with c | c | c
 ·obtain ⟨e,he,hb,_⟩:=hN.one c;have ht0:to0 d=e.to:=by unfold to0;rw [he];all_goals rfl
  have hl:(kidsL d v)[m]? = some e.to:=by grind [kidsL]
  refine ⟨e,?_,by rw [he];exact List.mem_singleton_self e,hb,sw hkf hx hl,?_,by omega⟩
  ·grind [aW]
  ·unfold TN;rw [ht0];rcases c with c | c
   ·rw [aj c,aj];have h2:=iz;obtain ⟨q,z,s,ks⟩:=v;rw [fitV,hF.ah] at h2
    grind [gl]
   ·have:=hF.opt c;omega
 ·have HR:(kidsL d v)=d.az.map Ed.to:=by grind [kidsL]
  have fA:m < d.az.length:=by
   rw [HR,List.length_map] at lf;omega
  obtain ⟨e,he⟩:∃ e,d.az[m]? = some e:=⟨_,gE fA⟩;have hl:(kidsL d v)[m]? = some e.to:=by rw [HR,List.getElem?_map,he];all_goals rfl
  have kX:=mG he;refine ⟨e,?_,kX,?_,sw hkf hx hl,?_,by omega⟩
  ·unfold aW;rw [aj c,he]
  ·cases hb:e.bare
   ·rfl
   ·have:=hN.bare e kX hb;omega
  ·grind [TN]
 ·obtain ⟨e,ht,he,h0,aw,hb⟩:=hF.tag c
  grind [kidsL,sw,aW,TN]
structure LY (ND:List Nd) (d:Nd) (z:Int) (j:Nat) (x:Val) (e:Ed):Prop where
 gq:aW d z j=some e
 mem:e∈d.az
 bare:e.bare=false
 fit:fitV ND x e.to=true
 to':TN d (.mk 0 z av []) j=e.to
theorem ny {N:Nat} (bA:∀ n∈ND,cr N ND.length n) {v:Val} {i:Int} {d:Nd} (iz:fitV ND v i=true) (hF:Sc ND v i d) {m:Nat} {x:Val} (hx:v.ks[m]? = some x):∃ e,LY ND d v.n m x e:=by
 obtain ⟨e,h1,h2,h3,h4,h5,_⟩:=Sf bA iz hF hx;exact ⟨e,⟨h1,h2,h3,h4,h5⟩⟩
theorem GO {N:Nat} {d:Nd} {e:Ed} (hN:cr N ND.length d) (he:e∈d.az) (hb:e.bare=false):0<=e.to/\∃ d',bR ND e.to=some d':=by
 obtain ⟨k,hk,aw⟩:=(hN.gq e he).to1 hb;refine ⟨by omega,ND[k],?_⟩
 grind [bR]
theorem nz (e:Ed) (v:Val):(bS e v).ks=[]:=by
 unfold bS
 repeat' split
 all_goals rfl
theorem GP {x y:Val} {i:Int} (hx:x.ks=[]) (hy:y.ks=[]):refD ND x y i=if sameV x y=true then none else some []:=by
 obtain ⟨k,n,s,ks⟩:=x;obtain ⟨k',n',s',Eg⟩:=y
 grind [Val.ks,refD,km,kN,bR,refDs]
mutual
theorem diff_eq {N:Nat} (bA:∀ n∈ND,cr N ND.length n):∀ (x y:Val) (i:Int) (a:Nat),fitV ND x i=true->fitV ND y i=true ->
  refD ND (eraseV ND f L obs x i a) (eraseV ND f L obs y i a) i=diffV ND f L obs x y i a
 | .mk k n s ks,.mk k' n' s' Eg,i,a,hx,hy=>by
  obtain ⟨d,hF⟩:=dT bA hx;obtain ⟨d',Vu⟩:=dT bA hy;have O2:d'=d:=by have:=hF.ah;rw [Vu.ah] at this;cases this;rfl
  subst O2;have uK:k=k':=hF.k.trans Vu.k.symm;subst uK;rw [eraseV,eraseV,diffV,hF.ah];simp only;rw [refD,hF.ah];simp only;rw [jO,jO];by_cases h:n≠n' ∨ s≠s' ∨ ks.length≠Eg.length
  ·rw [aj h,aj (.inr h)]
  ·rw [ai h,ai (sU h)];simp at h;obtain ⟨rfl,rfl,hl⟩:=h
   exact GQ bA ks Eg d' n a 0 hl (bA d' (mG (bu hF.ah).2)) (fun m x y hx1 vt=>by
    obtain ⟨e,he⟩:=ny bA hx hF hx1;obtain ⟨e',Ih⟩:=ny bA hy Vu vt;have h1:=he.gq;have h2:=Ih.gq;simp only [Val.n] at h1 h2;rw [h1] at h2;cases h2
    exact ⟨e,by rw [Nat.zero_add];exact he,Ih.fit⟩)
theorem GQ {N:Nat} (bA:∀ n∈ND,cr N ND.length n):∀ (ks ls:List Val) (d:Nd) (z:Int) (a j:Nat),ks.length=ls.length->cr N ND.length d->(∀ m x y,ks[m]? = some x->ls[m]? = some y->∃ e,LY ND d z (j + m) x e/\fitV ND y e.to=true) ->
  refDs ND (eraseVs ND f L obs ks d z a j) (eraseVs ND f L obs ls d z a j) d z j=diffVs ND f L obs ks ls d z a j
 | [],[],_,_,_,_,_,_,_=>by rw [eraseVs,refDs,diffVs]<;>simp
 | x :: r,y :: t,d,z,a,j,hl,hN,hk=>by
  obtain ⟨e,he,hfy⟩:=hk 0 x y rfl rfl;rw [Nat.add_zero] at he
  have ih:=GQ bA r t d z a (j + 1) (sU hl) hN (fun m x y h1 h2=>by
   have:=hk (m + 1) x y h1 h2
   rwa [show j + (m + 1)=j + 1 + m by omega] at this)
  rw [eraseVs,eraseVs,refDs,diffVs,he.gq];simp only;rw [ih]
  have hxk:x.k=y.k:=by
   obtain ⟨d1,hF1⟩:=dT bA he.fit;obtain ⟨d2,hF2⟩:=dT bA hfy;have:=hF1.ah;rw [hF2.ah] at this;cases this;exact hF1.k.trans hF2.k.symm
  by_cases c2:jZ f L obs d e a=2
  ·rw [aj c2,aj c2,aj c2,diff_eq bA x y e.to (gy f L d e a) he.fit hfy]
  ·rw [ai c2,ai c2,ai c2];by_cases c1:jZ f L obs d e a=1
   ·rw [aj c1,aj c1,aj c1,GP (nz e x) (nz e y),Se e hxk]
   ·rw [ai c1,ai c1,ai c1,GP (x:=oT e) (y:=oT e) rfl rfl,aj (kN _)]
 | [],_ :: _,_,_,_,_,hl,_,_=>by simp at hl
 | _ :: _,[],_,_,_,_,hl,_,_=>by simp at hl
end
mutual
theorem BI:∀ (x y:Val) (i:Int),vwB ND x i=true->(refD ND x y i=none↔x=y)
 | .mk k n s ks,.mk k' n' s' Eg,i,hx=>by
  rw [vwB] at hx;rw [refD];by_cases h:k≠k' ∨ n≠n' ∨ s≠s' ∨ ks.length≠Eg.length
  ·rw [aj h];constructor
   ·intro e;cases e
   ·intro e;cases e;simp at h
  ·rw [ai h];simp at h;obtain ⟨rfl,rfl,rfl,hl⟩:=h
   cases hd:bR ND i with
   | none=>rw [hd] at hx;cases hx
   | some d=>
    rw [hd] at hx;simp only at hx ⊢;rw [ze ks Eg d n 0 hl hx];constructor
    ·rintro rfl;rfl
    ·intro e;cases e;rfl
theorem ze:∀ (ks ls:List Val) (d:Nd) (z:Int) (j:Nat),ks.length=ls.length->vwBs ND ks d z j=true->(refDs ND ks ls d z j=none↔ks=ls)
 | [],[],_,_,_,_,_=>by rw [refDs]<;>simp
 | x :: r,y :: t,d,z,j,hl,hx=>by
  rw [vwBs] at hx;rw [refDs]
  cases he:aW d z j with
  | none=>rw [he] at hx;cases hx
  | some e=>
   rw [he] at hx;simp only [aO] at hx ⊢;have h1:=BI x y e.to hx.1.2;have h2:=ze r t d z (j + 1) (sU hl) hx.2
   cases hr:refD ND x y e.to with
   | none=>
    have:=h1.1 hr;subst this;simp only;rw [h2];constructor
    ·rintro rfl;rfl
    ·intro e;cases e;rfl
   | some p=>
    simp only;constructor
    ·intro e;cases e
    ·intro e;cases e;rw [h1.2 rfl] at hr;cases hr
 | [],_ :: _,_,_,_,hl,_=>by simp at hl
 | _ :: _,[],_,_,_,hl,_=>by simp at hl
end
mutual
theorem GR {N:Nat} (bA:∀ n∈ND,cr N ND.length n):∀ (x:Val) (i:Int) (a:Nat),fitV ND x i=true->vwB ND (eraseV ND f L obs x i a) i=true
 | .mk k n s ks,i,a,hx=>by
  obtain ⟨d,hF⟩:=dT bA hx;rw [eraseV,hF.ah];simp only;rw [vwB,hF.ah];simp only;exact BJ bA ks d n a 0 (bA d (mG (bu hF.ah).2)) (fun m x hx1=>by rw [Nat.zero_add];exact ny bA hx hF hx1)
theorem BJ {N:Nat} (bA:∀ n∈ND,cr N ND.length n):∀ (ks:List Val) (d:Nd) (z:Int) (a j:Nat),cr N ND.length d->(∀ m x,ks[m]? = some x->∃ e,LY ND d z (j + m) x e) ->
  vwBs ND (eraseVs ND f L obs ks d z a j) d z j=true
 | [],_,_,_,_,_,_=>by rw [eraseVs,vwBs]
 | x :: r,d,z,a,j,hN,hk=>by
  obtain ⟨e,he⟩:=hk 0 x rfl;rw [Nat.add_zero] at he
  have ih:=BJ bA r d z a (j + 1) hN (fun m x h1=>by
   have:=hk (m + 1) x h1
   rwa [show j + (m + 1)=j + 1 + m by omega] at this)
  obtain ⟨h0,d',uM⟩:=GO hN he.mem he.bare
  have NY:∀ w:Val,w.ks=[]->vwB ND w e.to=true:=by
   intro ⟨k,n,s,ks⟩ h;simp only [Val.ks] at h;subst h;rw [vwB,uM];simp only;rw [vwBs]
  rw [eraseVs,vwBs,he.gq];simp only;rw [ih,he.to',decide_eq_true rfl,decide_eq_true h0];simp only [Bool.true_and,Bool.and_true];by_cases c2:jZ f L obs d e a=2
  ·rw [aj c2];exact GR bA x e.to (gy f L d e a) he.fit
  ·rw [ai c2];by_cases c1:jZ f L obs d e a=1
   ·rw [aj c1];exact NY _ (nz e x)
   ·rw [ai c1];exact NY _ rfl
end
theorem Sg {N:Nat} (bA:∀ n∈ND,cr N ND.length n) {x y:Val} {i:Int} {a:Nat} (hx:fitV ND x i=true) (hy:fitV ND y i=true) :
  sameV (eraseV ND f L obs x i a) (eraseV ND f L obs y i a)=(diffV ND f L obs x y i a).isNone:=by
 apply Bool.eq_iff_iff.2;rw [km,<- BI _ _ i (GR bA x i a hx),diff_eq bA x y i a hx hy];cases diffV ND f L obs x y i a<;>simp
end
section
variable (ND:List Nd) (f:Nat->Nat->Bool) (L obs:Nat)
end
section
variable {ND:List Nd} {f:Nat->Nat->Bool} {L obs:Nat}
theorem DE (d:Nd) (e:Ed) (a:Nat):jZ f L obs d e a=if f (gy f L d e a) obs=true then 2 else if e.ck≠0/\f (y9 f L a e.seen.toNat) obs=true then 1 else 0:=rfl
theorem DF {N:Nat} {d:Nd} {e:Ed} {a:Nat} (hL:gH f L) (hN:cr L N d) (hm:e∈d.az) (ha:a < L):gy f L d e a < L:=by
 obtain ⟨k,hk,hl⟩:=(hN.gq e hm).lab;unfold gy;split
 ·exact ha
 ·exact DD hL ha (by rw [hk,lK];exact hl)
theorem Vv {N:Nat} {d:Nd} {e:Ed} {a:Nat} (hL:gH f L) (hN:cr L N d) (hm:e∈d.az) (ha:a < L):y9 f L a e.seen.toNat < L:=by
 obtain ⟨k,hk,hl⟩:=(hN.gq e hm).seen;exact DD hL ha (by rw [hk,lK];exact hl)
theorem JU (v:Val) (i:Int) (a:Nat) {d:Nd} (hd:bR ND i=some d):(eraseV ND f L obs v i a).ks.length=v.ks.length:=by
 obtain ⟨k,n,s,ks⟩:=v;rw [eraseV,hd];exact jO ks d n a 0
end
theorem Vw {p l:List UInt8} (hp:p <+: l) (hpn:p ≠ []) (ht:p.take (eW l)=l.take (eW l)):eW p=eW l:=by
 have N2:l ≠ []:=by
  rintro rfl;exact hpn (List.prefix_nil.1 hp)
 obtain ⟨a1,a2⟩:=gW hpn;obtain ⟨b1,b2⟩:=gW N2;by_cases h:2<=eW l
 ·exact oQ h ht
 ·by_cases g:2<=eW p
  ·obtain ⟨t,rfl⟩:=hp
   grind [oQ]
  ·omega
theorem JV (u:Nat) (l:List UInt8):headL u (headL u l)=headL u l:=by
 induction u generalizing l with
 | zero=>rfl
 | succ u ih=>grind [ui,b1,b2,gW,uj,headL,eW,Vw]
def dh (v:Val) (k n:Int) (s:ByteArray):Bool:=decide (v.k=k) && decide (v.n=n) && decide (v.s=s) && decide (v.ks.length=0)
def iS (e:Ed) (d:Nd) (v:Val):Bool:=
 if e.ck=1/\d.ag=2 then
  (if dh v 9 e.wide av=true then !(aN d.lo e.cn).2
   else dh v 10 v.n av && decide (v.n % e.cn=0) && (aN d.hi e.cn).2 && decide (v.n<=(aN d.hi e.cn).1) && (!(aN d.lo e.cn).2 || decide ((aN d.lo e.cn).1<=v.n)))
 else if e.ck=2/\d.ag=3 then dh v 11 0 v.s && decide ((v.s.size:Int)<=d.most) && decide (headL e.cn.toNat (tx v.s)=tx v.s)
 else if e.ck=3/\d.ag=5 then dh v 12 v.n av && decide (0<=v.n) && decide (v.n<=d.most)
 else dh v 9 e.wide av
def shellF (d:Nd) (v:Val):Bool:=
 if v.k≠d.ag∨v.s≠av∨(d.ag≠8/\v.n≠0) then false
 else if d.ag=5 then decide ((v.ks.length:Int)<=d.most)
 else if d.ag=6 then decide (v.ks.length < 2)
 else if d.ag=7 then decide (v.ks.length=d.az.length)
 else if v.n < 0∨(d.az.length:Int)<=v.n then false
 else match d.az[v.n.toNat]? with
  | none=>false
  | some e=>if e.bare=true then decide (v.ks.length=0) else decide (v.ks.length=1)
section
variable (ND:List Nd) (f:Nat->Nat->Bool) (L obs:Nat)
mutual
def seeV:Val->Int->Nat->Bool
 | .mk k n s ks,i,a=>match bR ND i with
  | none=>false
  | some d=>if d.ag < 5 then fitV ND (.mk k n s ks) i else shellF d (.mk k n s ks) && seeVs ks d n a 0
def seeVs:List Val->Nd->Int->Nat->Nat->Bool
 | [],_,_,_,_=>true
 | x :: r,d,z,a,j=>(match aW d z j with
  | none=>false
  | some e=>if jZ f L obs d e a=2 then seeV x e.to (gy f L d e a) else if jZ f L obs d e a=1 then (match bR ND e.to with | none=>false | some t=>iS e t x) else dh x 9 e.wide av) && seeVs r d z a (j + 1)
end
end
section
variable {ND:List Nd} {f:Nat->Nat->Bool} {L obs:Nat}
theorem JW {ks:List Val} {d:Nd} {z:Int} {a j m:Nat} {x:Val} (h:ks[m]? = some x):seeVs ND f L obs (ks.drop m) d z a j=((match aW d z j with
  | none=>false
  | some e=>if jZ f L obs d e a=2 then seeV ND f L obs x e.to (gy f L d e a) else if jZ f L obs d e a=1 then (match bR ND e.to with | none=>false | some t=>iS e t x) else dh x 9 e.wide av) && seeVs ND f L obs (ks.drop (m + 1)) d z a (j + 1)):=by
 obtain ⟨hm,rfl⟩:=List.getElem?_eq_some_iff.1 h;rw [List.drop_eq_getElem_cons hm,seeVs]
structure aeH (ND:List Nd) (d:Nd) (z:Int) (j:Nat) (e:Ed):Prop where
 gq:aW d z j=some e
 mem:e∈d.az
 bare:e.bare=false
theorem uw {N:Nat} {d:Nd} (hN:cr N ND.length d) (h5:5<=d.ag) {v:Val} (h:shellF d v=true) {m:Nat} (hm:m < v.ks.length):∃ e,aeH ND d v.n m e:=by
 have h8:=hN.k8;unfold shellF at h;split at h
 ·cases h
 rename_i hc;have Il:v.k=d.ag:=by omega
 rcases (show (d.ag=5∨d.ag=6)∨d.ag=7∨d.ag=8 by omega) with c | c | c
 ·obtain ⟨e,he,hb,_⟩:=hN.one c;refine ⟨e,?_,by rw [he];exact List.mem_singleton_self e,hb⟩
  grind [aW]
 ·rw [ai (by omega),ai (by omega),aj c,decide_eq_true_iff] at h;obtain ⟨e,he⟩:∃ e,d.az[m]? = some e:=⟨_,gE (by omega)⟩;refine ⟨e,?_,mG he,?_⟩
  ·unfold aW;rw [aj c,he]
  ·cases hb:e.bare
   ·rfl
   ·have:=hN.bare e (mG he) hb;omega
 ·rw [ai (by omega),ai (by omega),ai (by omega)] at h;split at h
  ·cases h
  cases he:d.az[v.n.toNat]? with
  | none=>rw [he] at h;cases h
  | some e=>
   rw [he] at h;simp only at h;refine ⟨e,?_,mG he,?_⟩
   ·grind [aW]
   all_goals grind
theorem JX {n u:Int} (hu:1<=u):(aN n u).2=true->(aN n u).1=n - n % u/\(aN n u).1 % u=0:=by
 unfold aN;rw [ai (by omega)];split
 ·intro h;cases h
 ·intro _;refine ⟨rfl,?_⟩;show (n - n % u) % u=0;rw [Int.sub_emod];simp
theorem qQ {v:Val} {k n:Int} {s:ByteArray}:dh v k n s=true↔v = .mk k n s []:=by
 unfold dh;rw [aO,aO,aO,decide_eq_true_iff,decide_eq_true_iff,decide_eq_true_iff,decide_eq_true_iff,List.length_eq_zero_iff];obtain ⟨q,z,t,ks⟩:=v;rw [Val.mk.injEq];constructor
 ·intro ⟨⟨⟨a,b⟩,c⟩,d⟩;exact ⟨a,b,c,d⟩
 ·intro ⟨a,b,c,d⟩;exact ⟨⟨⟨a,b⟩,c⟩,d⟩
theorem mh (k n:Int) (s:ByteArray):dh (.mk k n s []) k n s=true:=qQ.2 rfl
theorem sx {n u:Int} (hu:1<=u):aN n u=if n - n % u < -9223372036854775808 then (0,false) else (n - n % u,true):=by
 unfold aN;rw [ai (by omega)]
theorem oW {x y u:Int} (hu:1<=u) (MG:x<=y) (h:(aN x u).2=true):(aN y u).2=true/\(aN x u).1<=(aN y u).1:=by
 have hm:x - x % u<=y - y % u:=by
  have h3:=Int.mul_ediv_add_emod x u;have h4:=Int.mul_ediv_add_emod y u;have h5:x / u<=y / u:=Int.ediv_le_ediv (by omega) MG;have h6:u * (x / u)<=u * (y / u):=Int.mul_le_mul_of_nonneg_left h5 (by omega);omega
 rw [sx hu] at h ⊢;rw [sx hu];by_cases c:x - x % u < -9223372036854775808
 ·rw [aj c] at h;cases h
 ·grind
theorem JY {e:Ed} {d:Nd} {N:Nat} (he:aen L N e) {v:Val} (hF:Sc ND v e.to d) (iz:fitV ND v e.to=true):iS e d (bS e v)=true:=by
 have N3:=he.cn;have hk:=hF.k
 have iz:(if d.ag < 5 then u5 d v else gl d v && fitVs ND v.ks (kidsL d v))=true:=by
  obtain ⟨q,z,s,ks⟩:=v;rw [fitV,hF.ah] at iz;exact iz
 by_cases c1:e.ck=1/\v.k=2
 ·have hu:=N3.2.1 c1.1;rw [aj (by omega)] at iz;unfold u5 at iz;split at iz
  ·cases iz
  rw [ai (by omega),aj (by omega),aO,aO,decide_eq_true_iff,decide_eq_true_iff,decide_eq_true_iff] at iz;obtain ⟨⟨_,hlo⟩,pT⟩:=iz;unfold iS;rw [aj ⟨c1.1,by omega⟩];by_cases hz:(aN v.n e.cn).2=true
  ·have hcv:bS e v = .mk 10 (aN v.n e.cn).1 av []:=by
    unfold bS;rw [aj ⟨c1.1,c1.2,hz⟩]
   rw [hcv,ai (by rw [qQ,Val.mk.injEq];omega)];show (dh _ 10 (aN v.n e.cn).1 av && _ && _ && _ && _)=true;rw [mh];have h1:=oW hu pT hz;have h2:=(JX hu hz).2;have h3:(Val.mk 10 (aN v.n e.cn).1 av []).n=(aN v.n e.cn).1:=rfl;rw [h3,decide_eq_true h2,h1.1,decide_eq_true h1.2]
   grind [aN,oW]
  ·have hcv:bS e v = .mk 9 e.wide av []:=by
    unfold bS;rw [ai (fun h=>hz h.2.2),ai (by omega),ai (by omega)];rfl
   rw [hcv,aj (mh 9 e.wide av)];cases hl:(aN d.lo e.cn).2
   ·rfl
   ·exact absurd (oW hu hlo hl).1 hz
 by_cases c2:e.ck=2/\v.k=3
 ·have hcv:bS e v = .mk 11 0 (ba (headL e.cn.toNat (tx v.s))) []:=by grind [bS]
  rw [aj (by omega)] at iz;unfold u5 at iz;split at iz
  ·cases iz
  rw [ai (by omega),ai (by omega),aj (by omega),aO,decide_eq_true_iff,decide_eq_true_iff] at iz;have h1:=BG e.cn.toNat (tx v.s);rw [dg] at h1;have h3:=JV e.cn.toNat (tx v.s);have h2:(ba (headL e.cn.toNat (tx v.s))).size=(headL e.cn.toNat (tx v.s)).length:=by rw [<- dg,uU]
  rw [hcv];generalize headL e.cn.toNat (tx v.s)=H at h1 h2 h3;unfold iS;rw [ai (by omega),aj ⟨c2.1,by omega⟩,aO,aO,decide_eq_true_iff,decide_eq_true_iff];refine ⟨⟨mh 11 0 (ba H),?_⟩,?_⟩
  ·show ((ba H).size:Int)<=_;omega
  ·show headL e.cn.toNat (tx (ba H))=tx (ba H);rw [uU];exact h3
 grind [bS,av,gl,iS,dh,mh,oT]
theorem GS {v:Val} {i:Int} {a:Nat} {d:Nd} (iz:fitV ND v i=true) (hF:Sc ND v i d) (h5:5<=d.ag) (h8:d.ag<=8):shellF d (eraseV ND f L obs v i a)=true:=by
 obtain ⟨h1,h2,h3⟩:=JS (ND:=ND) (f:=f) (L:=L) (obs:=obs) v i a;have h4:=JU (f:=f) (L:=L) (obs:=obs) v i a hF.ah
 have iz:(if d.ag < 5 then u5 d v else gl d v && fitVs ND v.ks (kidsL d v))=true:=by
  obtain ⟨q,z,s,ks⟩:=v;rw [fitV,hF.ah] at iz;exact iz
 rw [ai (by omega),aO] at iz;have hB:=iz.1;have hk:=hF.k
 have hp:v.s=av/\(v.n=0∨v.k=8):=by
  have:ig v=true:=by
   unfold gl at hB;split at hB
   ·rw [aO,aO] at hB;exact hB.1.1
   split at hB
   ·rw [aO,aO] at hB;exact hB.1.1
   split at hB
   ·cases hB
   ·rw [aO] at hB;exact hB.1
  unfold ig at this;rw [aO,Bool.or_eq_true,decide_eq_true_iff,decide_eq_true_iff,decide_eq_true_iff] at this;exact this
 unfold shellF
 rw [h1,h2,h3,h4,ai (by
  rintro (h | h | ⟨ha,hb⟩)
  ·exact h hk
  ·exact h hp.1
  ·rcases hp.2 with h | h<;>omega)]
 unfold gl at hB;rcases (show d.ag=5∨d.ag=6∨d.ag=7∨d.ag=8 by omega) with c | c | c | c
 ·rw [aj (.inl c),ai (by omega),aO,decide_eq_true_iff] at hB;rw [aj c];exact decide_eq_true hB.2
 ·rw [ai (by omega),aj c];exact decide_eq_true (by have:=hF.opt c;omega)
 ·rw [ai (by omega),aj c,aO,decide_eq_true_iff] at hB;rw [ai (by omega),ai (by omega),aj c];exact decide_eq_true hB.2.symm
 ·obtain ⟨e,ht,he,h0,aw,hb⟩:=hF.tag c;rw [ai (by omega),ai (by omega),ai (by omega),ai (by omega),he];simp only;have lf:=(hF.kids h5).1
  have HR:kidsL d v=if e.bare=true then [] else [e.to]:=by
   unfold kidsL;rw [ai (by omega),ai (by omega),ht]
  rw [HR] at lf;by_cases hbb:e.bare=true
  ·rw [aj hbb] at lf ⊢;exact decide_eq_true lf.symm
  ·rw [ai hbb] at lf ⊢;exact decide_eq_true lf.symm
mutual
theorem BK (bA:∀ n∈ND,cr L ND.length n):∀ (x:Val) (i:Int) (a:Nat),fitV ND x i=true->seeV ND f L obs (eraseV ND f L obs x i a) i a=true
 | .mk k n s ks,i,a,hx=>by
  obtain ⟨d,hF⟩:=dT bA hx;have hN:=bA d (mG (bu hF.ah).2);have h8:=hN.k8;have Ah:=fun h5=>GS (f:=f) (L:=L) (obs:=obs) (a:=a) hx hF h5 h8;rw [eraseV,hF.ah] at Ah ⊢;simp only at Ah ⊢;rw [seeV,hF.ah];simp only;by_cases h5:d.ag < 5
  ·rw [aj h5];have:=hF.leaf h5
   grind [Val.ks,eraseVs]
  ·rw [ai h5,Ah (by omega),Bool.true_and];exact zf bA ks d n a 0 hN (fun m x hx1=>by rw [Nat.zero_add];exact ny bA hx hF hx1)
theorem zf (bA:∀ n∈ND,cr L ND.length n):∀ (ks:List Val) (d:Nd) (z:Int) (a j:Nat),cr L ND.length d->(∀ m x,ks[m]? = some x->∃ e,LY ND d z (j + m) x e) ->
  seeVs ND f L obs (eraseVs ND f L obs ks d z a j) d z a j=true
 | [],_,_,_,_,_,_=>by rw [eraseVs,seeVs]
 | x :: r,d,z,a,j,hN,hk=>by
  obtain ⟨e,he⟩:=hk 0 x rfl;rw [Nat.add_zero] at he
  have ih:=zf bA r d z a (j + 1) hN (fun m x h1=>by
   have:=hk (m + 1) x h1
   rwa [show j + (m + 1)=j + 1 + m by omega] at this)
  obtain ⟨t,Vu⟩:=dT bA he.fit;rw [eraseVs,seeVs,he.gq];simp only;rw [ih,Bool.and_true];by_cases c2:jZ f L obs d e a=2
  ·rw [aj c2,aj c2];exact BK bA x e.to (gy f L d e a) he.fit
  ·rw [ai c2,ai c2];by_cases c1:jZ f L obs d e a=1
   ·rw [aj c1,aj c1,Vu.ah];exact JY (hN.gq e he.mem) Vu he.fit
   ·rw [ai c1,ai c1];exact mh 9 e.wide av
end
end
def dQ (v:Val):Bool:=decide (v.k=2) || (decide (v.k=3) || ((decide (v.k=9) && (decide (1<=v.n) && decide (v.n<=64))) || (decide (10<=v.k) && decide (v.k<=12))))
def mi (v:Val):List UInt8:=
 if v.k=2 then ic v.n else if v.k=3 then vO (tx v.s) else if v.k=9 then 60 :: (List.replicate v.n.toNat 42 ++ [62])
 else if v.k=10 then [60,126] ++ ic v.n ++ [62] else if v.k=11 then [60] ++ vO (tx v.s) ++ [46,46,62] else [60,35] ++ ic v.n ++ [62]
def eA (v:Val):List UInt8:=if dQ v=true then mi v else []
def nmE (d:Nd) (j:Nat):List UInt8:=match d.az[j]? with | some e=>tx e.name | none=>[]
def opnT (d:Nd) (v:Val):List UInt8:=
 if v.k=1 then (if v.n=1 then [116,114,117,101] else [102,97,108,115,101])
 else if v.k=4 then (match d.af[v.n.toNat]? with | some s=>tx s | none=>[])
 else if v.k=5 then [91] else if v.k=6 then (if v.ks=[] then [110,111,110,101] else [115,111,109,101,40]) else if v.k=7 then [123]
 else if v.k=8 then (if v.ks=[] then nmE d v.n.toNat else nmE d v.n.toNat ++ [40])
 else eA v
def mj (v:Val):List UInt8:=if v.k=5 then [93] else if v.k=7 then [125] else if v.ks=[] then [] else [41]
section
variable (ND:List Nd)
mutual
def textV:Val->Int->List UInt8
 | .mk k n s ks,i=>match bR ND i with
  | none=>[]
  | some d=>opnT d (.mk k n s ks) ++ textVs ks d n 0 ++ mj (.mk k n s ks)
def textVs:List Val->Nd->Int->Nat->List UInt8
 | [],_,_,_=>[]
 | x :: r,d,z,j=>((if j=0 then [] else [44,32]) ++ (match aW d z j with
  | none=>[]
  | some e=>(if d.ag=7 then tx e.name ++ [58,32] else []) ++ textV x e.to)) ++ textVs r d z (j + 1)
end
mutual
def dW:Val->Int->Bool
 | .mk k n s ks,i=>match bR ND i with
  | none=>false
  | some d=>if 9<=k then dQ (.mk k n s ks) && decide (ks=[]) else if k≠d.ag then false else if d.ag < 5 then decide (ks=[]) && (decide (k≠4) || decide (0<=n/\n < d.af.length)) else shellF d (.mk k n s ks) && iw ks d n 0
def iw:List Val->Nd->Int->Nat->Bool
 | [],_,_,_=>true
 | x :: r,d,z,j=>(match aW d z j with
  | none=>false
  | some e=>dW x e.to) && iw r d z (j + 1)
end
end
section
variable {ND:List Nd}
theorem u6:∀ {l:List Val} {d:Nd} {z:Int} {j:Nat} {x:Val},textVs ND (l ++ [x]) d z j=textVs ND l d z j ++ ((if j + l.length=0 then [] else [44,32]) ++ (match aW d z (j + l.length) with
  | none=>[]
  | some e=>(if d.ag=7 then tx e.name ++ [58,32] else []) ++ textV ND x e.to))
 | [],d,z,j,x=>by simp only [List.nil_append,textVs,List.append_nil,List.length_nil,Nat.add_zero]
 | y :: r,d,z,j,x=>by
  rw [List.cons_append,textVs,textVs,u6];simp only [List.length_cons]
  grind
theorem GU {ks:List Val} {d:Nd} {z:Int} {e:Nat} {x:Val} {ed:Ed} (h:ks[e]? = some x) (he:aW d z e=some ed) :
  textVs ND (ks.take (e + 1)) d z 0=textVs ND (ks.take e) d z 0 ++ ((if e=0 then [] else [44,32]) ++ ((if d.ag=7 then tx ed.name ++ [58,32] else []) ++ textV ND x ed.to)):=by
 have hl:(ks.take e).length=e:=by rw [zLenT];have:=(gS h).1;omega
 rw [List.take_add_one,h];show textVs ND (ks.take e ++ [x]) d z 0=_;rw [u6,hl,Nat.zero_add,he]
theorem kQ:∀ {ks:List Val} {d:Nd} {z:Int} {j m:Nat} {x:Val},iw ND ks d z j=true->ks[m]? = some x->∃ e,aW d z (j + m)=some e/\dW ND x e.to=true
 | [],_,_,_,_,_,_,h=>by simp at h
 | y :: r,d,z,j,m,x,hw,h=>by
  rw [iw,aO] at hw
  cases m with
  | zero=>grind
  | succ m=>
   rw [show j + (m + 1)=j + 1 + m by omega];exact kQ hw.2 (sU h)
theorem LZ {z:Int} (h:mZ z):(ic z).length<=21:=xR h.1 h.2
theorem N4 {v:Val} (h:mZ v.n) (hk:dQ v=true):(mi v).length<=24 + 64 + 12 * v.s.size:=by grind [LZ,y6,tx,dg,mi,dQ]
end
end Go.Proofs.YtgjagnmeonoehaaGreat
set_option maxRecDepth 100000
namespace Go.Proofs
open Go.Shelf
def Tryz.lays105_ren:Go.Shelf.Ren:=⟨fun | 105=>311 | 212=>343 | 99=>344 | 165=>267 | 166=>74 | 170=>345 | 169=>76 | 263=>362 | 264=>363 | 206=>364 | 240=>149 | 241=>312 | 276=>217 | 277=>346 | n=>n,fun | 9=>9 | 3=>3 | 4=>4 | 20=>20 | 0=>0 | 46=>346 | 109=>422 | 5=>5 | 72=>160 | 76=>163 | 51=>384 | 146=>439 | 53=>295 | 148=>441 | 70=>157 | 37=>158 | 75=>162 | 127=>258 | 164=>316 | 80=>166 | n=>n,fun | n=>n⟩
theorem Tryz.lays105:Go.Proofs.Lays.n105 prog Tryz.lays105_ren:={
 mixed:=by kernel_rfl
 f99:=func344.trans (congrArg some (by kernel_rfl))
 f105:=func311.trans (congrArg some (by kernel_rfl))
 f165:=func267.trans (congrArg some (by kernel_rfl))
 f166:=func74.trans (congrArg some (by kernel_rfl))
 f169:=func76.trans (congrArg some (by kernel_rfl))
 f170:=func345.trans (congrArg some (by kernel_rfl))
 f206:=func364.trans (congrArg some (by kernel_rfl))
 f212:=func343.trans (congrArg some (by kernel_rfl))
 f240:=func149.trans (congrArg some (by kernel_rfl))
 f241:=func312.trans (congrArg some (by kernel_rfl))
 f263:=func362.trans (congrArg some (by kernel_rfl))
 f264:=func363.trans (congrArg some (by kernel_rfl))
 f276:=func217.trans (congrArg some (by kernel_rfl))
 f277:=func346.trans (congrArg some (by kernel_rfl))
 t0:=Tryz.underlying0
 a0:=Tryz.isAgg0
 z0:=Tryz.sizeOf0
 v0:=Tryz.zeroValue0
 t3:=Tryz.underlying3
 a3:=Tryz.isAgg3
 z3:=Tryz.sizeOf3
 v3:=Tryz.zeroValue3
 t4:=Tryz.underlying4
 a4:=Tryz.isAgg4
 z4:=Tryz.sizeOf4
 v4:=Tryz.zeroValue4
 t5:=Tryz.underlying5
 a5:=Tryz.isAgg5
 z5:=Tryz.sizeOf5
 v5:=Tryz.zeroValue5
 t9:=Tryz.underlying9
 a9:=Tryz.isAgg9
 z9:=Tryz.sizeOf9
 v9:=Tryz.zeroValue9
 t20:=Tryz.underlying20
 a20:=Tryz.isAgg20
 z20:=Tryz.sizeOf20
 v20:=Tryz.zeroValue20
 t37:=Tryz.underlying158
 a37:=Tryz.isAgg158
 z37:=Tryz.sizeOf158
 v37:=Tryz.zeroValue158
 t46:=Tryz.underlying346
 a46:=Tryz.isAgg346
 z46:=Tryz.sizeOf346
 v46:=Tryz.zeroValue346
 t51:=Tryz.underlying384
 a51:=Tryz.isAgg384
 z51:=Tryz.sizeOf384
 v51:=Tryz.zeroValue384
 t53:=Tryz.underlying295
 a53:=Tryz.isAgg295
 z53:=Tryz.sizeOf295
 v53:=Tryz.zeroValue295
 t70:=Tryz.underlying157
 a70:=Tryz.isAgg157
 z70:=Tryz.sizeOf157
 v70:=Tryz.zeroValue157
 t72:=Tryz.underlying160
 a72:=Tryz.isAgg160
 z72:=Tryz.sizeOf160
 v72:=Tryz.zeroValue160
 t75:=Tryz.underlying162
 a75:=Tryz.isAgg162
 z75:=Tryz.sizeOf162
 v75:=Tryz.zeroValue162
 t76:=Tryz.underlying163
 a76:=Tryz.isAgg163
 z76:=Tryz.sizeOf163
 v76:=Tryz.zeroValue163
 t109:=Tryz.underlying422
 a109:=Tryz.isAgg422
 z109:=Tryz.sizeOf422
 v109:=Tryz.zeroValue422
 t127:=Tryz.underlying258
 a127:=Tryz.isAgg258
 z127:=Tryz.sizeOf258
 v127:=Tryz.zeroValue258
 t146:=Tryz.underlying439
 a146:=Tryz.isAgg439
 z146:=Tryz.sizeOf439
 v146:=Tryz.zeroValue439
 t148:=Tryz.underlying441
 a148:=Tryz.isAgg441
 z148:=Tryz.sizeOf441
 v148:=Tryz.zeroValue441
 t164:=Tryz.underlying316
 a164:=Tryz.isAgg316
 z164:=Tryz.sizeOf316
 v164:=Tryz.zeroValue316 }
theorem Tryz.Builder_Extra_105:Builder.Extra prog Tryz.lays105_ren:={
 sizeBuilder:=by kernel_rfl
 liesBuilder:=by kernel_rfl
 t5:=Tryz.underlying5
 a5:=Tryz.isAgg5
 z5:=Tryz.sizeOf5
 v5:=Tryz.zeroValue5
 infoByte:=by kernel_rfl
 cellsByte:=by kernel_rfl
 sizeByte:=by kernel_rfl
 neB5:=by decide }
end Go.Proofs
namespace Go.Proofs.YtgjagnmeonoehaaGreat
open Go Go.RowKit Dv Go.Proofs.Tryz
theorem repeatL_one (c:UInt8):∀ n:Nat,Lib.repeatL [c] n=List.replicate n c
 | 0=>rfl
 | n + 1=>by
  have:=repeatL_one c n;simp [Lib.repeatL,List.replicate_succ] at this ⊢;exact this
theorem GV (c:UInt8) (n:Nat) (hn:n<=64):EvP prog 311 [.v (.string (ba [c])),.v (.int .i64 n)] (.v (.string (ba (List.replicate n c)))):=by
 refine MX fun E w vs hE hv=>?_;simp only [RvL] at hv;obtain ⟨v1,s1,rfl,h1,v2,s2,rfl,h2,rfl⟩:=hv;have h1:=bB h1;have h2:=bB h2;subst h1 h2;refine (Any.strings_Repeat Tryz.lays105 Tryz.Builder_Extra_105 (ba [c]) n w (by omega) (by show 1 * n<=_;omega)).mono ?_;rintro e w' ⟨rfl,hw⟩;refine ⟨_,rfl,?_,hw⟩;unfold Rv;refine ⟨?_,rfl⟩;rw [show (ba [c]).data.toList=[c] from rfl,repeatL_one]
end Go.Proofs.YtgjagnmeonoehaaGreat
set_option maxRecDepth 100000
namespace Go.Proofs.YtgjagnmeonoehaaGreat
open Go Go.RowKit Dv Go.Proofs.Tryz
theorem Vx (a b c:List UInt8):(ba a ++ ba b) ++ ba c=ba (a ++ b ++ c):=(congrArg (·++ ba c) (mY a b)).trans (mY _ _)
section
variable {v:Val}
theorem lf_2 (h:v.k=2):dQ v=true/\eA v=ic v.n:=by grind [dQ,eA,mi]
theorem lf_3 (h:v.k=3):dQ v=true/\eA v=vO (tx v.s):=by grind [dQ,eA,mi]
theorem lf_9 (h:v.k=9) (h1:1<=v.n) (h2:v.n<=64):dQ v=true/\eA v=60 :: (List.replicate v.n.toNat 42 ++ [62]):=by grind [dQ,eA,mi]
theorem aeI (h:v.k=9) (h1:¬ (1<=v.n/\v.n<=64)):dQ v=false/\eA v=[]:=by grind [dQ,eA]
theorem lf_10 (h:v.k=10):dQ v=true/\eA v=[60,126] ++ ic v.n ++ [62]:=by grind [dQ,eA,mi]
theorem lf_11 (h:v.k=11):dQ v=true/\eA v=[60] ++ vO (tx v.s) ++ [46,46,62]:=by grind [dQ,eA,mi]
theorem lf_12 (h:v.k=12):dQ v=true/\eA v=[60,35] ++ ic v.n ++ [62]:=by grind [dQ,eA,mi]
theorem aeJ (h:v.k≠2/\v.k≠3/\v.k≠9/\v.k≠10/\v.k≠11/\v.k≠12):dQ v=false/\eA v=[]:=by grind [dQ,eA]
end
theorem u7 (v:Val) (hs:v.s.size<=1099511627776) (hn:mZ v.n):EvP prog 261 [.agg (aG v)] (.tup [.v (.string (ba (eA v))),.v (.bool (dQ v))]):=by
 have hp:=Fz v.n hn.1 hn.2;have fV:=LZ hn;have hq:=JL v.s hs;have hql:=y6 (tx v.s);rw [dg] at hql;have hr:=fun (_:1<=v.n) (h2:v.n<=64)=>GV 42 v.n.toNat (by omega);have h2:=@lf_2 v;have h3:=@lf_3 v;have h9:=@lf_9 v;have h9n:=@aeI v;have qZ:=@lf_10 v;have h11:=@lf_11 v;have h12:=@lf_12 v;have iA:=@aeJ v;generalize eA v=S at *;generalize dQ v=B at *;obtain ⟨k,n,s,ks⟩:=v;simp only [Val.k,Val.n,Val.s] at *;refine eG 52 [.tmp 2,.tmp 3] func261 rfl ntmps261 rfl fun _ _ _ _=>?_;refine br ?_ ?_<;>intro c
 ·obtain ⟨rfl,rfl⟩:=h2 (sU c);refine cP K5 hp ?_;exact ⟨.tup [.v (.string _),.v (.bool _)],ax,rfl⟩
 have c2:¬ k=2:=sU c;refine br ?_ ?_<;>intro c
 ·obtain ⟨rfl,rfl⟩:=h3 (sU c);refine cP WR hq ?_;exact ⟨.tup [.v (.string _),.v (.bool _)],ax,rfl⟩
 have c3:¬ k=3:=sU c;refine br ?_ ?_<;>intro c
 ·have c9:k=9:=sU c;refine br ?_ ?_<;>intro g
  ·obtain ⟨rfl,rfl⟩:=h9n c9 (by simp [au] at g;omega);exact ⟨.tup [.v (.string _),.v (.bool _)],ax,rfl⟩
  ·have g:1<=n/\n<=64:=by simp [au] at g;omega
   obtain ⟨rfl,rfl⟩:=h9 c9 g.1 g.2;have hr:=hr g.1 g.2;rw [show ((n.toNat:Nat):Int)=n by omega] at hr;refine cP acF hr ?_;refine ⟨by show 1 + (List.replicate n.toNat (42:UInt8)).length<=_;rw [List.length_replicate];omega,?_⟩;refine ⟨by rw [jX];show 1 + (List.replicate n.toNat (42:UInt8)).length + 1<=_;rw [List.length_replicate];omega,?_⟩;refine ⟨.tup [.v (.string _),.v (.bool _)],ax,?_⟩;exact JJ (Vx [60] _ [62])
 have c9:¬ k=9:=sU c;refine br ?_ ?_<;>intro c
 ·obtain ⟨rfl,rfl⟩:=qZ (sU c);refine cP K5 hp ?_;refine ⟨by show 2 + (ic n).length<=_;omega,?_⟩;refine ⟨by rw [jX];show 2 + (ic n).length + 1<=_;omega,?_⟩;refine ⟨.tup [.v (.string _),.v (.bool _)],ax,?_⟩;exact JJ (Vx [60,126] _ [62])
 have c10:¬ k=10:=sU c;refine br ?_ ?_<;>intro c
 ·obtain ⟨rfl,rfl⟩:=h11 (sU c);refine cP WR hq ?_;refine ⟨by show 1 + (vO (tx s)).length<=_;omega,?_⟩;refine ⟨by rw [jX];show 1 + (vO (tx s)).length + 3<=_;omega,?_⟩;refine ⟨.tup [.v (.string _),.v (.bool _)],ax,?_⟩;exact JJ (Vx [60] _ [46,46,62])
 have c11:¬ k=11:=sU c;refine br ?_ ?_<;>intro c
 ·obtain ⟨rfl,rfl⟩:=h12 (sU c);refine cP K5 hp ?_;refine ⟨by show 2 + (ic n).length<=_;omega,?_⟩;refine ⟨by rw [jX];show 2 + (ic n).length + 1<=_;omega,?_⟩;refine ⟨.tup [.v (.string _),.v (.bool _)],ax,?_⟩;exact JJ (Vx [60,35] _ [62])
 have c12:¬ k=12:=sU c;obtain ⟨rfl,rfl⟩:=iA ⟨c2,c3,c9,c10,c11,c12⟩;exact ⟨.tup [.v (.string _),.v (.bool _)],ax,rfl⟩
theorem GW {α:Type} {l:List α} {e:Nat} {x:α} {p:α->Bool} (h:l[e]? = some x):(l.drop e).all p=(p x && (l.drop (e + 1)).all p):=by
 obtain ⟨h1,h2⟩:=List.getElem?_eq_some_iff.1 h;rw [List.drop_eq_getElem_cons h1,h2,List.all_cons]
theorem DG (s:Stp) (hs:s.s.size<=4611686018427387904):EvP prog 231 [.agg (fT s)] (.v (.bool (bI s))):=by
 have hr:=jk s.s hs;obtain ⟨k,n,t⟩:=s;have hF:bI ⟨k,n,t⟩=if k=1∨k=5 then decide (n=0) && aZ t else if k=2 then decide (0<=n) && decide (t=⟨#[]⟩) else if k=3∨k=4 then decide (n=0) && decide (t=⟨#[]⟩) else false:=rfl
 generalize bI ⟨k,n,t⟩=F at hF ⊢;refine eG 39 [.tmp 2] func231 rfl ntmps231 rfl fun _ _ _ _=>?_;refine br ?_ ?_<;>intro c
 ·have c:k=1:=sU c;rw [aj (.inl c)] at hF;refine br (fun _=>?_) (fun g=>absurd g (by simp [c]));refine br ?_ ?_<;>intro g
  ·have g:n=0:=sU g;refine cP xx hr ?_;refine (bK ?_:);rw [hF];simp [g,pickB]
  ·have g:¬ n=0:=sU g;refine (bK ?_:);rw [hF];simp [g,pickB]
 have c1:¬ k=1:=sU c;refine br ?_ ?_<;>intro c
 ·have c:k=5:=sU c;rw [aj (.inr c)] at hF;refine br ?_ ?_<;>intro g
  ·have g:n=0:=sU g;refine cP xx hr ?_;refine (bK ?_:);rw [hF];simp [g,pickB]
  ·have g:¬ n=0:=sU g;refine (bK ?_:);rw [hF];simp [g,pickB]
 have c5:¬ k=5:=sU c;rw [ai (by omega)] at hF;refine br ?_ ?_<;>intro c
 ·have c:k=2:=sU c;rw [aj c] at hF;refine (bK ?_:);rw [hF];cases decide (0<=n)<;>rfl
 have c2:¬ k=2:=sU c;rw [ai c2] at hF;refine br ?_ ?_<;>intro c
 ·have c:k=3:=sU c;rw [aj (.inl c)] at hF;refine br (fun _=>?_) (fun g=>absurd g (by simp [c]));refine (bK ?_:);rw [hF];cases decide (n=0)<;>rfl
 have c3:¬ k=3:=sU c;refine br ?_ ?_<;>intro c
 ·have c:k=4:=sU c;rw [aj (.inr c)] at hF;refine (bK ?_:);rw [hF];cases decide (n=0)<;>rfl
 have c4:¬ k=4:=sU c;rw [ai (by omega)] at hF;subst hF;exact (rfl:_=_)
abbrev prSt (l:List Stp) (e:Nat):St:=⟨[bi 8 3 (bf l),ay 9 ((bf l).length),ay 10 e],[],[]⟩
theorem u9 (l:List Stp) (hs:∀ s∈l,s.s.size<=4611686018427387904):EvP prog 166 [.sl 3 (bf l) none] (.v (.bool (fU l))):=by
 have cw:=eM l;have hF:fU l=(decide (l.length<=64) && l.all bI):=rfl;generalize fU l=F at hF ⊢;refine eG 18 [.tmp 2] func166 rfl ntmps166 rfl fun _ _ _ _=>?_;refine br ?_ ?_<;>intro g
 ·have:¬ l.length<=64:=by simp [cw] at g;omega
  rw [decide_eq_false this,Bool.false_and] at hF;subst hF;exact (rfl:_=_)
 have gk:l.length<=64:=by simp [cw] at g;omega
 rw [decide_eq_true gk,Bool.true_and] at hF;refine lI (fun j st=>∃ e:Nat,st=prSt l e/\e<=l.length/\F=(l.drop e).all bI/\j=l.length - e) ⟨0,rfl,by omega,hF,rfl⟩ (bG wB) ?_;rintro j st ⟨e,rfl,he,aP,rfl⟩;refine br ?_ ?_<;>intro hL
 ·have aw:e < l.length:=sV cw hL;obtain ⟨x,hx⟩:=gX aw;have h1:=DG x (hs x (mG hx));rw [GW hx] at aP;obtain ⟨xk,xn,xs⟩:=x;refine iX (iu hx) ?_;refine cP acm h1 ?_;refine br ?_ ?_<;>intro g
  ·have g:bI ⟨xk,xn,xs⟩=false:=sU g;rw [g,Bool.false_and] at aP;subst aP;exact (rfl:_=_)
  ·have g:bI ⟨xk,xn,xs⟩=true:=sU g;rw [g,Bool.true_and] at aP;exact rE ⟨_,by omega,e + 1,rfl,by omega,aP,rfl⟩ (bG (dH (aX aw (by omega))))
 ·have hge:l.length<=e:=sV cw hL;rw [List.drop_eq_nil_of_le hge] at aP;subst aP;exact (rfl:_=_)
abbrev aeL (l:List Stp) (e:Nat):St:=⟨[bi 0 3 (bf l),ay 3 e],[],[]⟩
theorem DH (l:List Stp) (hs:∀ s∈l,s.s.size<=4611686018427387904):EvP prog 79 [.sl 3 (bf l) none] (.v (.bool (fU l))):=by
 have cw:=eM l;have hF:fU l=(decide (l.length<=64) && l.all bI):=rfl;generalize fU l=F at hF ⊢;refine eG 66 [.tmp 2] func79 rfl ntmps79 rfl fun _ _ _ _=>?_;refine br ?_ ?_<;>intro g
 ·have:¬ l.length<=64:=by simp [cw] at g;omega
  rw [decide_eq_false this,Bool.false_and] at hF;subst hF;exact (rfl:_=_)
 have gk:l.length<=64:=by simp [cw] at g;omega
 rw [decide_eq_true gk,Bool.true_and] at hF;refine lI (fun j st=>∃ e:Nat,st=aeL l e/\e<=l.length/\F=(l.drop e).all bI/\j=l.length - e) ⟨0,rfl,by omega,hF,rfl⟩ (bG wB) ?_;rintro j st ⟨e,rfl,he,aP,rfl⟩;refine br ?_ ?_<;>intro hL
 ·have aw:e < l.length:=sV cw hL;obtain ⟨x,hx⟩:=gX aw;have h1:=jI x.s (hs x (mG hx));rw [GW hx] at aP;have hFr:∀ k n t,bI ⟨k,n,t⟩=if k=1∨k=5 then decide (n=0) && aZ t else if k=2 then decide (0<=n) && decide (t=⟨#[]⟩) else if k=3∨k=4 then decide (n=0) && decide (t=⟨#[]⟩) else false:=fun _ _ _=>rfl
  obtain ⟨xk,xn,xs⟩:=x;rw [hFr] at aP;refine iX (iu hx) ?_
  have aY:aZ xs=true->xs≠⟨#[]⟩:=by
   intro h e;rw [e] at h
   revert h
   decide
  have hk:xk=1∨xk=5∨xk=2∨xk=3∨xk=4∨(xk < 1/\¬ 5 < xk/\¬ xk=1/\¬ xk=2/\¬ xk=3/\¬ xk=4/\¬ xk=5)∨(¬ xk < 1/\5 < xk/\¬ xk=1/\¬ xk=2/\¬ xk=3/\¬ xk=4/\¬ xk=5):=by omega
  have hd:(xn < 0)↔¬ (0<=xn):=by omega
  have kV:∀ b,(if xk=1∨xk=5 then decide (xn=0) && aZ xs else if xk=2 then decide (0<=xn) && decide (xs=⟨#[]⟩) else if xk=3∨xk=4 then decide (xn=0) && decide (xs=⟨#[]⟩) else false)=b->F=(b && (l.drop (e + 1)).all bI):=fun b h=>by rw [aP,h]
  refine br ?_ ?_<;>intro g1
  ·refine br ?_ ?_<;>intro g2
   ·refine cP E5 h1 ?_;refine br ?_ ?_<;>intro g3
    ·have hF:=kV false (by
      clear aP kV hFr h1 hx
      rcases hk with rfl | rfl | rfl | rfl | rfl | ⟨k1,k2,k3,k4,k5,k6,k7⟩ | ⟨k1,k2,k3,k4,k5,k6,k7⟩<;>by_cases h0:xs=⟨#[]⟩<;>by_cases hz:xn=0<;>by_cases ku:0<=xn<;>cases nS:aZ xs<;>first | (exact absurd h0 (aY nS)) | (simp [lastG,pickB,hd,h0,hz,ku,nS,k1,k2,k3,k4,k5,k6,k7] at g1 g2 g3 ⊢;done) | (simp [lastG,pickB,hd,h0,hz,ku,nS] at g1 g2 g3 ⊢;done) | omega)
     rw [hF,Bool.false_and];exact (rfl:_=_)
    ·have hF:=kV true (by
      clear aP kV hFr h1 hx
      rcases hk with rfl | rfl | rfl | rfl | rfl | ⟨k1,k2,k3,k4,k5,k6,k7⟩ | ⟨k1,k2,k3,k4,k5,k6,k7⟩<;>by_cases h0:xs=⟨#[]⟩<;>by_cases hz:xn=0<;>by_cases ku:0<=xn<;>cases nS:aZ xs<;>first | (exact absurd h0 (aY nS)) | (simp [lastG,pickB,hd,h0,hz,ku,nS,k1,k2,k3,k4,k5,k6,k7] at g1 g2 g3 ⊢;done) | (simp [lastG,pickB,hd,h0,hz,ku,nS] at g1 g2 g3 ⊢;done) | omega)
     rw [Bool.true_and] at hF;exact rE ⟨_,by omega,e + 1,rfl,by omega,hF,rfl⟩ (bG (dH (aX aw (by omega))))
   ·refine br ?_ ?_<;>intro g3
    ·have hF:=kV false (by
      clear aP kV hFr h1 hx
      rcases hk with rfl | rfl | rfl | rfl | rfl | ⟨k1,k2,k3,k4,k5,k6,k7⟩ | ⟨k1,k2,k3,k4,k5,k6,k7⟩<;>by_cases h0:xs=⟨#[]⟩<;>by_cases hz:xn=0<;>by_cases ku:0<=xn<;>cases nS:aZ xs<;>first | (exact absurd h0 (aY nS)) | (simp [lastG,pickB,hd,h0,hz,ku,nS,k1,k2,k3,k4,k5,k6,k7] at g1 g2 g3 ⊢;done) | (simp [lastG,pickB,hd,h0,hz,ku,nS] at g1 g2 g3 ⊢;done) | omega)
     rw [hF,Bool.false_and];exact (rfl:_=_)
    ·have hF:=kV true (by
      clear aP kV hFr h1 hx
      rcases hk with rfl | rfl | rfl | rfl | rfl | ⟨k1,k2,k3,k4,k5,k6,k7⟩ | ⟨k1,k2,k3,k4,k5,k6,k7⟩<;>by_cases h0:xs=⟨#[]⟩<;>by_cases hz:xn=0<;>by_cases ku:0<=xn<;>cases nS:aZ xs<;>first | (exact absurd h0 (aY nS)) | (simp [lastG,pickB,hd,h0,hz,ku,nS,k1,k2,k3,k4,k5,k6,k7] at g1 g2 g3 ⊢;done) | (simp [lastG,pickB,hd,h0,hz,ku,nS] at g1 g2 g3 ⊢;done) | omega)
     rw [Bool.true_and] at hF;exact rE ⟨_,by omega,e + 1,rfl,by omega,hF,rfl⟩ (bG (dH (aX aw (by omega))))
  ·have g2:=g1;have g3:=g1
   have hF:=kV false (by
     clear aP kV hFr h1 hx
     rcases hk with rfl | rfl | rfl | rfl | rfl | ⟨k1,k2,k3,k4,k5,k6,k7⟩ | ⟨k1,k2,k3,k4,k5,k6,k7⟩<;>by_cases h0:xs=⟨#[]⟩<;>by_cases hz:xn=0<;>by_cases ku:0<=xn<;>cases nS:aZ xs<;>first | (exact absurd h0 (aY nS)) | (simp [lastG,pickB,hd,h0,hz,ku,nS,k1,k2,k3,k4,k5,k6,k7] at g1 g2 g3 ⊢;done) | (simp [lastG,pickB,hd,h0,hz,ku,nS] at g1 g2 g3 ⊢;done) | omega)
   rw [hF,Bool.false_and];exact (rfl:_=_)
 ·have hge:l.length<=e:=sV cw hL;rw [List.drop_eq_nil_of_le hge] at aP;subst aP;exact (rfl:_=_)
theorem Vy (b:Nat) (p:Value) (w:World) (na:w.heap[b]? = some (.cells #[p,.slice none 0 0] 160 (0,0))) :
  Calls prog 76 #[.pointer (some ⟨b,0,none⟩)] w fun e w'=>e = .returned (.string ⟨#[]⟩)/\w'=w.drew:=by
 have c1:w.drew.cell? ⟨b,1,none⟩=some (.slice none 0 0):=by
  have:w.drew.heap[b]? = some (.cells #[p,.slice none 0 0] 160 (0,0)):=na;rw [Lib.cell_of_heap this];all_goals rfl
 have hSD:(Builtin.unsafeSliceData_ #[158] 258 #[.slice none 0 0]).run prog w.drew = .ok (.pointer none) w.drew:=
  Lib.run_unsafeSliceData_nil _ _ _ _ _
 have hUS:(Builtin.unsafeString_ #[258,3] 9 #[.pointer none,.int .i64 0]).run prog w.drew = .ok (.string ⟨#[]⟩) w.drew:=
  Lib.run_unsafeString_none w.drew 258 3 9 none
 have mixed:=mo
 go_enter func76,ntmps76
 go_wp2
 go_region_o
 all_goals (go_wp2;go_ret;exact ⟨rfl,rfl⟩)
theorem GX {X:Ctx} {st:St} {k:List It} (hP:X.P=prog) {i d:Nat} {p:DV} (hbt:(i,160)∈X.bt) (jA:st.bx[i]? = some [p,.v (.slice none 0 0)])
  (ku:X.n0=0) (mH:X.m0=0) (hd:ep X.nt st.sl (some d)=true)
  (hk:go X 4000 k ⟨[(d,⟨[],.v (.string ⟨#[]⟩)⟩)],[],[]⟩) (bd:X.still=false:=by exact rfl):CallG X 76 [.loc i 0] (some d) k st:=by
 refine ⟨?_,bd,fun E a w vs h hv=>?_⟩
 ·rw [hP];exact abN
 rw [hP];simp only [RvL] at hv;obtain ⟨v1,vr,rfl,h1,rfl⟩:=hv;unfold Rv at h1;obtain ⟨b,hb,rfl⟩:=h1;obtain ⟨b',ty,arr,eD,hw,vx⟩:=h.env.ey i _ jA;rw [hb] at eD;simp only [oI] at eD;subst eD;obtain ⟨TF,nu⟩:=h.bt _ hbt b hb;rw [hw] at nu;simp only [oI,Obj.cells.injEq] at nu;have Pg:ty=160:=nu.2.1;subst Pg;obtain ⟨hr,ho⟩:=vx;simp only [RvL] at hr;obtain ⟨pv,r1,rfl,NO,cv,r2,rfl,hcv,rfl⟩:=hr;unfold Rv at hcv;obtain ⟨rfl,_⟩:=hcv;refine (Vy b pv w hw).mono ?_;rintro e w' ⟨rfl,rfl⟩;have hE0:X.E0.β=[]:=List.eq_nil_of_length_eq_zero (by rw [X.ku,ku]);have ZG:X.E0.tk=[]:=List.eq_nil_of_length_eq_zero (by rw [X.mH,mH])
 let E':En:=⟨E.c,[],[],[]⟩
 have bY:Rel X E' ⟨[],[],[]⟩ a w.drew:={
  env:={
   len:=rfl
   tl:=rfl
   ey:=by simp
   inj:=List.nodup_nil
   sub:=fun x v hx=>h.env.sub x v hx
   pc:=by simp [E']
   bU:=by simp [E']
   jc:=by simp [E'] }
  tk:=rfl
  sz:=h.sz
  tm:=fun i x hx=>by cases hx
  df:=h.df
  nw:={
   c:=fun x v hx=>h.nw.c x v hx
   cn:=fun x v hx=>h.nw.cn x v hx
   β:=⟨[],by rw [hE0];rfl,by simp⟩
   tk:=fun k q y hq _=>by rw [ZG] at hq;simp at hq
   tn:=fun k y g' _ hy _=>by simp [E'] at hy
   l0:=h.nw.l0 }
  fr:=h.fr.cK rfl rfl rfl (aR _) fun j hj=>Or.inr rfl
  sh:=mJ bd
  bt:=fun p hp b hb=>by simp [E'] at hb }
 have uM:ep X.nt ([]:List (Nat × Sl)) (some d)=true:=by
  simp only [ep,aO] at hd ⊢;exact ⟨hd.1,rfl⟩
 exact go_sound 4000 _ _ hk _ _ _ (bc (st:=⟨[],[],[]⟩) bY uM (.v (.string ⟨#[]⟩)) _ (by unfold Rv;exact ⟨rfl,rfl⟩))
def stepT (s:Stp):List UInt8:=if s.k=1 then 46 :: tx s.s else if s.k=2 then 91 :: (ic s.n ++ [93]) else if s.k=3 then [91,93] else if s.k=4 then [63] else 33 :: tx s.s
def jP (l:List Stp):List UInt8:=if fU l=true then (l.map stepT).flatten else []
def JZ (s:Stp):Prop:=(-9223372036854775808<=s.n/\s.n<=9223372036854775807)/\s.s.size<=1099511627776
theorem GY (s:Stp):stepT s ≠ []:=by
 unfold stepT
 repeat' split
 all_goals simp
theorem jw {s:ByteArray} (h:aZ s=true):s.size<=32:=by grind [aZ]
theorem N5 {s:Stp} (hi:JZ s) (h:bI s=true):(stepT s).length<=33:=by
 have hp:=xR hi.1.1 hi.1.2
 grind [bI,stepT,jw,dg]
theorem BL:∀ {l:List Stp},(∀ s∈l,JZ s)->l.all bI=true->((l.map stepT).flatten).length<=33 * l.length
 | [],_,_=>by simp
 | s :: r,hi,h=>by
  simp only [List.all_cons,aO] at h;have h1:=N5 (hi s (by simp)) h.1;have h2:=BL (l:=r) (fun x hx=>hi x (by simp [hx])) h.2
  grind
theorem zg (s:Stp) (hi:JZ s):EvP prog 220 [.agg (fT s)] (.v (.string (ba (stepT s)))):=by
 have hp:=Fz s.n hi.1.1 hi.1.2;have fV:=MW hi.1.1 hi.1.2;obtain ⟨k,n,t⟩:=s;have hs:=hi.2;simp only at hs hp fV;have hF:stepT ⟨k,n,t⟩=if k=1 then 46 :: tx t else if k=2 then 91 :: (ic n ++ [93]) else if k=3 then [91,93] else if k=4 then [63] else 33 :: tx t:=rfl
 generalize stepT ⟨k,n,t⟩=F at hF ⊢;refine eG 24 [.tmp 2] func220 rfl ntmps220 rfl fun _ _ _ _=>?_;refine br ?_ ?_<;>intro c
 ·have c:k=1:=sU c;rw [aj c] at hF;subst hF;refine ⟨by (simp only [jX,uV,List.length_cons,List.length_nil];omega),?_⟩;refine (congrArg (fun s=>DV.v (.string s)) (ov ?_):_=_);simp [IE,Qy]
 have c1:¬ k=1:=sU c;rw [ai c1] at hF;refine br ?_ ?_<;>intro c
 ·have c:k=2:=sU c;rw [aj c] at hF;subst hF;refine cP K5 hp ?_;refine ⟨by (simp only [jX,uV,List.length_cons,List.length_nil];omega),?_⟩;refine ⟨by (simp only [jX,uV,List.length_cons,List.length_nil];omega),?_⟩;refine (congrArg (fun s=>DV.v (.string s)) (ov ?_):_=_);simp [IE,Qy,Uy]
 have c2:¬ k=2:=sU c;rw [ai c2] at hF;refine br ?_ ?_<;>intro c
 ·have c:k=3:=sU c;rw [aj c] at hF;subst hF;exact (rfl:_=_)
 have c3:¬ k=3:=sU c;rw [ai c3] at hF;refine br ?_ ?_<;>intro c
 ·have c:k=4:=sU c;rw [aj c] at hF;subst hF;exact (rfl:_=_)
 have c4:¬ k=4:=sU c;rw [ai c4] at hF;subst hF;refine ⟨by (simp only [jX,uV,List.length_cons,List.length_nil];omega),?_⟩;refine (congrArg (fun s=>DV.v (.string s)) (ov ?_):_=_);simp [IE,Qy]
def lA (l:List Stp) (e:Nat):List UInt8:=((l.take e).map stepT).flatten
theorem zh {l:List Stp} {e:Nat} {x:Stp} (h:l[e]? = some x):lA l (e + 1)=lA l e ++ stepT x:=by
 unfold lA;rw [List.take_add_one,h];simp
theorem BM {l:List Stp} (hi:∀ s∈l,JZ s) (hr:l.all bI=true) (hl:l.length<=64) (e:Nat):(lA l e).length<=2112:=by grind [BL,lA]
theorem va {l:List Stp} (h:fU l=true):jP l=lA l l.length:=by unfold jP lA;rw [aj h,List.take_length]
theorem nA {l:List Stp} (h:fU l=true):l.length<=64/\l.all bI=true:=by grind [fU]
abbrev XD (l:List Stp):St:=⟨[aF 3 0,bi 9 3 (bf l),ay 10 ((bf l).length),ay 11 (0:Nat)],[[.v (.pointer none),.v (.slice none 0 0)]],[]⟩
abbrev ZN (l:List Stp) (T:List UInt8) (e:Nat):St:=⟨[aF 3 0,bi 9 3 (bf l),ay 10 ((bf l).length),ay 11 e],[[.loc 0 0,.sl 1 (bD T) (some 0)]],[⟨T.length,5,1,none⟩]⟩
theorem ux (l:List Stp) (hi:∀ s∈l,JZ s):EvP prog 151 [.sl 3 (bf l) none] (.v (.string (ba (jP l)))):=by
 have DI:=u9 l (fun s hs=>by have:=(hi s hs).2;omega);have cw:=eM l
 cases hR:fU l with
 | false=>
  rw [hR] at DI;have hF:jP l=[]:=by unfold jP;rw [hR];all_goals rfl
  rw [hF];refine jB (s:=false) (bt:=[(0,160)]) (hbt:=fun p hp=>Nat.zero_le _) (P:=prog) tt eT 5000 20 [.tmp 2] func151 rfl ntmps151 rfl (nL rfl) (fun _ _ _ _=>?_);refine cP K6 DI ?_;exact (rfl:_=_)
 | true=>
 rw [hR] at DI;obtain ⟨U9,iO⟩:=nA hR;have hF:=va hR;have fV:=BM hi iO U9;rw [hF];refine jB (s:=false) (bt:=[(0,160)]) (hbt:=fun p hp=>Nat.zero_le _) (P:=prog) tt eT 5000 20 [.tmp 2] func151 rfl ntmps151 rfl (nL rfl) (fun _ _ _ _=>?_);refine cP K6 DI ?_;refine aT (fun j st=>∃ e:Nat,((e=0/\st=XD l)∨(lA l e ≠ []/\st=ZN l (lA l e) e))/\e<=l.length/\j=l.length - e) l.length (XD l) (bG wB) ⟨0,.inl ⟨rfl,rfl⟩,by omega,by omega⟩ ?_;rintro j st ⟨e,(⟨rfl,rfl⟩ | ⟨ZG,rfl⟩),he,rfl⟩
 ·refine br ?_ ?_<;>intro hL
  ·have aw:0 < l.length:=sV cw hL;obtain ⟨x,hx⟩:=gX aw;have hxi:=hi x (mG hx);have ht:=zg x hxi;have eK:=zh hx;have aY:=GY x;have hp0:lA l 0=[]:=rfl;rw [hp0,List.nil_append] at eK;have Ar:=fV (0 + 1);rw [eK] at Ar;have vY:0 < (stepT x).length:=List.length_pos_iff.2 aY;obtain ⟨xk,xn,xs⟩:=x;refine iX (iu hx) ?_;refine cP WE ht ?_;refine yY rfl (stepT ⟨xk,xn,xs⟩) (l:=[]) (kt:=0) (by simp [uU]) (.head _) rfl (.inl rfl) (.inl ⟨rfl,rfl,rfl,rfl⟩) (by (simp only [jX,uV,List.length_cons,List.length_nil];omega)) (by omega) rfl ?_;refine ⟨ZN l (stepT ⟨xk,xn,xs⟩) 1,(bG (dH (aX aw (by omega)))),l.length - 1,by omega,1,.inr ⟨by rw [eK];exact aY,by rw [eK]⟩,by omega,rfl⟩
  ·have hge:l.length=0:=by have:=hL;simp [cw] at this;first | omega | simp [this]
   rw [hge];refine GX rfl (.head _) rfl rfl rfl rfl ?_;exact (rfl:_=_)
 ·refine br ?_ ?_<;>intro hL
  ·have aw:e < l.length:=sV cw hL;obtain ⟨x,hx⟩:=gX aw;have hxi:=hi x (mG hx);have ht:=zg x hxi;have eK:=zh hx;have aY:=GY x;have Ar:=fV (e + 1);have vY:0 < (stepT x).length:=List.length_pos_iff.2 aY;obtain ⟨xk,xn,xs⟩:=x;refine iX (iu hx) ?_;refine cP WE ht ?_;refine yY rfl (lA l (e + 1)) (l:=lA l e) (kt:=0) (by rw [eK];all_goals simp [uU]) (.head _) rfl (.inr rfl) (.inr ⟨rfl,ZG,rfl,rfl⟩) (by (simp only [jX,uV,List.length_cons,List.length_nil];omega)) (by omega) rfl ?_;refine ⟨ZN l (lA l (e + 1)) (e + 1),(bG (dH (aX aw (by omega)))),l.length - (e + 1),by omega,e + 1,.inr ⟨by rw [eK];simp [aY],rfl⟩,by omega,rfl⟩
  ·have hge:e=l.length:=sW cw hL;subst hge;refine pJ rfl (l:=lA l l.length) (kt:=0) (.head _) rfl ZG rfl rfl rfl rfl ?_;exact (rfl:_=_)
namespace Dv
section
variable {X:Ctx} {st:St} {k:List It}
theorem XE {o:Oper} {t d e:Nat} {x:Operand} {es:List (List DV)} {tk:Option Nat} {n et e' iB:Nat} {bb:Bool} {z:List Value} (mB:∃ t',o.op = .binOp .neq t x (.const (.slice none 0 0)) t') (gZ:o.dst=some d) (hx:rv st [] x=some (.sl e es tk)) (aY:es ≠ []) (hT:X.T.find t=some ⟨n,bb,.sl et e' iB,z⟩) (hd:ep X.nt st.sl (some d)=true)
  (hk:go X 4000 k ⟨(d,⟨[],.v (.bool true)⟩) :: st.sl,st.bx,st.tk⟩):HO X o k st:=by
 intro E a w h;obtain ⟨t',mB⟩:=mB;have e1:=aV h.rl hx;unfold Rv at e1;obtain ⟨b,m,cap,e1,⟨rfl,_⟩,hr,_⟩:=e1;obtain ⟨hu,_⟩:=er X.hT hT;have aP:=r8 hu b es.length cap w;have hb:b.isNone=false:=by rw [n7 (hr aY).1];all_goals rfl
 have cd:(execOp a.eval o).run X.P w = .ok (.value (.bool true)) w:=by
  have hc:a.eval (.const (.slice none 0 0)) = .slice none 0 0:=rfl;rw [hb] at aP;simp [execOp,mB,e1,hc,eqGuard,binOp,aP]
 refine gB cd ?_;rw [gZ];exact go_sound 4000 _ _ hk E _ w (bc h hd (.v (.bool true)) _ (by unfold Rv;exact ⟨rfl,rfl⟩))
theorem Sh {o:Oper} {t d et e' iB n:Nat} {x:Operand} {bb:Bool} {z:List Value} (mB:∃ t',o.op = .binOp .neq t x (.const (.slice none 0 0)) t') (gZ:o.dst=some d) (hx:rv st [] x=some (.v (.slice none 0 0))) (hT:X.T.find t=some ⟨n,bb,.sl et e' iB,z⟩) (hd:ep X.nt st.sl (some d)=true)
  (hk:go X 4000 k ⟨(d,⟨[],.v (.bool false)⟩) :: st.sl,st.bx,st.tk⟩):HO X o k st:=by
 intro E a w h;obtain ⟨t',mB⟩:=mB;have e1:=aV h.rl hx;unfold Rv at e1;obtain ⟨hu,_⟩:=er X.hT hT;have aP:=r8 hu none 0 0 w
 have cd:(execOp a.eval o).run X.P w = .ok (.value (.bool false)) w:=by
  have hc:a.eval (.const (.slice none 0 0)) = .slice none 0 0:=rfl;simp [execOp,mB,e1.1,hc,eqGuard,binOp,aP]
 refine gB cd ?_;rw [gZ];exact go_sound 4000 _ _ hk E _ w (bc h hd (.v (.bool false)) _ (by unfold Rv;exact ⟨rfl,rfl⟩))
end
end Dv
theorem nB (v:Val):EvP prog 262 [.agg (aG v)] (.v (.bool (decide (v.k < 5) || decide (8 < v.k)))):=by
 obtain ⟨k,n,s,ks⟩:=v;refine eG 11 [.tmp 2] func262 rfl ntmps262 rfl fun _ _ _ _=>?_;refine (bK ?_:);simp only [au,Val.k];rfl
section
variable {d:Nd} {v:Val}
theorem opn_1 (h:v.k=1) (g:v.n=1):opnT d v=[116,114,117,101]:=by rw [opnT,aj h,aj g]
theorem Si (h:v.k=1) (g:¬ v.n=1):opnT d v=[102,97,108,115,101]:=by rw [opnT,aj h,ai g]
theorem opn_4 {x:ByteArray} (h:v.k=4) (g:d.af[v.n.toNat]? = some x):opnT d v=tx x:=by rw [opnT,ai (by omega),aj h,g]
theorem opn_5 (h:v.k=5):opnT d v=[91]:=by rw [opnT,ai (by omega),ai (by omega),aj h]
theorem opn_6 (h:v.k=6):opnT d v=if v.ks=[] then [110,111,110,101] else [115,111,109,101,40]:=by rw [opnT,ai (by omega),ai (by omega),ai (by omega),aj h]
theorem Sj (h:v.k=6) (g:v.ks=[]):opnT d v=[110,111,110,101]:=by rw [opn_6 h,aj g]
theorem Sk (h:v.k=6) (g:v.ks ≠ []):opnT d v=[115,111,109,101,40]:=by rw [opn_6 h,ai g]
theorem opn_7 (h:v.k=7):opnT d v=[123]:=by rw [opnT,ai (by omega),ai (by omega),ai (by omega),ai (by omega),aj h]
theorem opn_8 {e:Ed} (h:v.k=8) (g:d.az[v.n.toNat]? = some e):opnT d v=if v.ks=[] then tx e.name else tx e.name ++ [40]:=by grind [opnT,nmE]
theorem Sm {e:Ed} (h:v.k=8) (g:d.az[v.n.toNat]? = some e) (c:v.ks=[]):opnT d v=tx e.name:=by rw [opn_8 h g,aj c]
theorem Sn {e:Ed} (h:v.k=8) (g:d.az[v.n.toNat]? = some e) (c:v.ks ≠ []):opnT d v=tx e.name ++ [40]:=by rw [opn_8 h g,ai c]
theorem Sp (h:v.k≠1/\v.k≠4/\v.k≠5/\v.k≠6/\v.k≠7/\v.k≠8):opnT d v=eA v:=by grind [opnT]
theorem end_5 (h:v.k=5):mj v=[93]:=by rw [mj,aj h]
theorem end_7 (h:v.k=7):mj v=[125]:=by rw [mj,ai (by omega),aj h]
theorem XF (h:v.k≠5/\v.k≠7):mj v=if v.ks=[] then [] else [41]:=by rw [mj,ai h.1,ai h.2]
theorem XG (h:v.k≠5/\v.k≠7) (g:v.ks=[]):mj v=[]:=by rw [XF h,aj g]
theorem aeM (h:v.k≠5/\v.k≠7) (g:v.ks ≠ []):mj v=[41]:=by rw [XF h,ai g]
end
theorem GZ (d:Nd) (v:Val) (hs:v.s.size<=1099511627776) (hn:mZ v.n) (hk:v.k<=4∨9<=v.k) (h4:v.k=4->0<=v.n/\v.n < d.af.length) :
  EvP prog 264 [.agg (kg d),.agg (aG v)] (.v (.string (ba (opnT d v)))):=by
 have hl:=u7 v hs hn;have o1:=@opn_1 d v;have o2:=@Si d v;have o3:=fun x=>@opn_4 d v x;have o4:=@Sp d v;generalize opnT d v=O at *;generalize eA v=S at *;generalize dQ v=B at *;obtain ⟨ag,at',lo,hi,most,af,es⟩:=d;obtain ⟨k,n,s,ks⟩:=v;simp only [Val.k,Val.n] at *;refine eG 28 [.tmp 4] func264 rfl ntmps264 rfl fun _ _ _ _=>?_;refine br ?_ ?_<;>intro c
 ·have c:k=1:=sU c;refine br ?_ ?_<;>intro g
  ·rw [o1 c (sU g)];exact (rfl:_=_)
  ·rw [o2 c (sU g)];exact (rfl:_=_)
 have c1:¬ k=1:=sU c;refine br ?_ ?_<;>intro c
 ·have c4:k=4:=sU c;obtain ⟨h0,h1⟩:=h4 c4;obtain ⟨x,hx⟩:∃ x,af[n.toNat]? = some x:=⟨_,gE (by omega)⟩;rw [o3 x c4 hx];refine iX (gd hx) ?_;exact congrArg (fun q=>DV.v (.string q)) (Lf x).symm
 have c4:¬ k=4:=sU c;rw [o4 (by omega)];refine cP WL hl ?_;exact (rfl:_=_)
def tosL (d:Nd) (v:Val) (m:Nat):List Int:=(List.range m).map fun j=>match aW d v.n j with | some e=>e.to | none=>0
theorem G0 (d:Nd) (v:Val) (m:Nat):(tosL d v m).length=m:=by simp [tosL]
theorem G1 {d:Nd} {v:Val} {m j:Nat} {e:Ed} (h:aW d v.n j=some e) (hj:j < m):(tosL d v m)[j]? = some e.to:=by
 simp [tosL,hj,h]
theorem N6 {d:Nd} {v:Val} {m:Nat} {e:Ed} (h:aW d v.n m=some e):tosL d v (m + 1)=tosL d v m ++ [e.to]:=by
 simp [tosL,List.range_succ,h]
def G2 (d:Nd) (m:Nat):List (List UInt8):=(d.az.take m).map fun e=>tx e.name ++ [58,32]
theorem Sq {d:Nd} {m:Nat} {e:Ed} (h:d.az[m]? = some e):G2 d (m + 1)=G2 d m ++ [tx e.name ++ [58,32]]:=by
 simp [G2,List.take_add_one,h]
def G3 (d:Nd):DV:=if d.ag=7 then .sl 1 (nH (G2 d d.az.length)) none else .v (.slice none 0 0)
abbrev zF:List DV:=[.v (.string av),.v (.string av),.v (.slice none 0 0)]
abbrev J0 (d:Nd) (v:Val) (l:List Int) (q e:Nat):St:=
 ⟨[aF 2 0,aF 3 1,aF 4 2,aF 6 3,(7,⟨[],.sl 1 (pK l) (some 0)⟩),ay 14 ((dVals v.ks).length),ay 15 e],[kg d,aG v,zF,zF],[⟨q,3,1,none⟩]⟩
abbrev aeN (d:Nd) (v:Val) (l:List Int) (q u:Nat):St:=
 ⟨[aF 2 0,aF 3 1,aF 4 2,aF 6 3,(7,⟨[],.sl 1 (pK l) (some 0)⟩),bi 54 10 (iM d.az),ay 55 ((iM d.az).length),ay 56 u],
  [kg d,aG v,zF,[.v (.string (ba [123])),.v (.string (ba [125])),.sl 1 (nH (G2 d u)) (some 1)]],[⟨q,3,1,none⟩,⟨u,9,1,none⟩]⟩
theorem L0 (d:Nd) (m:Nat) (h:m<=d.az.length):(G2 d m).length=m:=by simp [G2];omega
theorem Sr (x:ByteArray) (l:List UInt8):x ++ ba l=ba (tx x ++ l):=(congrArg (·++ ba l) (Lf x)).symm.trans (mY (tx x) l)
theorem BN {L N:Nat} {d:Nd} (hN:cr L N d) (h5:5<=d.ag) (v:Val) (hv:v.wt<=1099511627776) (hk:v.k=d.ag) (hed:∀ m,m < v.ks.length->∃ e,aW d v.n m=some e) (h8:d.ag=8->0<=v.n/\v.n < d.az.length) :
  EvP prog 263 [.agg (kg d),.agg (aG v)] (.tup [.agg [.v (.string (ba (opnT d v))),.v (.string (ba (mj v))),G3 d],.sl 1 (pK (tosL d v v.ks.length)) none]):=by
 have GG:=hN.k8;have GH:=hN.many;have o5:=@opn_5 d v;have o6n:=@Sj d v;have o6s:=@Sk d v;have o7:=@opn_7 d v;have o8n:=fun e=>@Sm d v e;have o8s:=fun e=>@Sn d v e;have e5:=@end_5 v;have e7:=@end_7 v;have en:=@XG v;have es9:=@aeM v;have hn7:d.ag=7->G3 d = .sl 1 (nH (G2 d d.az.length)) none:=fun h=>by rw [G3,aj h]
 have hnn:d.ag≠7->G3 d = .v (.slice none 0 0):=fun h=>by rw [G3,ai h]
 have hts:=fun m e=>@N6 d v m e;have gD:=G0 d v;have vE:=fun m e=>@Sq d m e;have gR:=L0 d;have hed1:∀ m e,aW d v.n m=some e->d.az[(if d.ag=7 then (m:Int) else if d.ag=8 then v.n else 0).toNat]? = some e:=fun m e h=>by grind [aW]
 have pU:=cW d.az;generalize opnT d v=O at *;generalize mj v=Z at *;generalize G3 d=ND at *;have ht0:tosL d v 0=[]:=rfl;have ku:G2 d 0=[]:=rfl;generalize tosL d v=T at *;generalize Vz:G2 d=NM at *;have DJ:d.ag=7∨d.ag=8->∀ e∈d.az,e.name.size<=32:=fun h e he=>jw ((GH h).2.2.2 e he);obtain ⟨ag,at',lo,hi,most,af,es⟩:=d;obtain ⟨k,n,s,ks⟩:=v;have cw:=aU ks;have lf:=cq ks;rw [Val.wt] at hv;simp only [Val.k,Val.n,Val.ks] at *;subst hk;refine eG 90 [.cell 4 358,.tmp 5] func263 rfl ntmps263 rfl fun _ _ _ _=>?_;refine aT (fun j st=>∃ e:Nat,st=J0 ⟨k,at',lo,hi,most,af,es⟩ (.mk k n s ks) (T e) e e/\e<=ks.length/\j=ks.length - e) ks.length (J0 ⟨k,at',lo,hi,most,af,es⟩ (.mk k n s ks) [] 0 0) (dq 4 ⟨0,3,1,none⟩ rfl rfl rfl pV rfl rfl j8) ⟨0,by rw [ht0],by omega,by omega⟩ ?_;rintro _ st ⟨e,rfl,he,rfl⟩;refine br ?_ ?_<;>intro hL
 ·have aw:e < ks.length:=by simpa [cw,Val.ks] using hL
  obtain ⟨ed,J1⟩:=hed e aw;have vw:=hed1 e ed J1;have eK:pK (T e) ++ [[DV.v (.int .i64 ed.to)]]=pK (T (e + 1)):=by rw [hts e ed J1,sv]
  have DK:(pK (T e)).length=e:=by rw [lz,gD]
  have pW:∃ j',j' < ks.length - e/\∃ e':Nat,J0 ⟨k,at',lo,hi,most,af,es⟩ (.mk k n s ks) (T (e + 1)) (e + 1) (e + 1)=J0 ⟨k,at',lo,hi,most,af,es⟩ (.mk k n s ks) (T e') e' e' /\ e' <= ks.length/\j'=ks.length - e':=⟨ks.length - (e + 1),by omega,e + 1,rfl,by omega,rfl⟩;have Ii:=(gS vw).1;refine br ?_ ?_<;>intro c
  ·have c:k=7:=sU c;rw [aj c] at vw Ii;refine iX (bH vw) ?_;refine ⟨DK,⟨by rw [DK];simp [maxLen];omega,by rw [DK];simp;omega⟩,?_⟩;obtain ⟨j',h1,h2⟩:=pW;exact ⟨J0 ⟨k,at',lo,hi,most,af,es⟩ (.mk k n s ks) (T (e + 1)) (e + 1) (e + 1),(dz 4 (oc (aX aw (by omega)) eK) (gC (aX aw (by omega)) eK)),j',h1,h2⟩
  ·have c7:¬ k=7:=sU c;rw [ai c7] at vw Ii;refine br ?_ ?_<;>intro c
   ·have c:k=8:=sU c;have h8:=h8 c;rw [aj c] at vw Ii;refine iX (bH vw) ?_;refine ⟨DK,⟨by rw [DK];simp [maxLen];omega,by rw [DK];simp;omega⟩,?_⟩;obtain ⟨j',h1,h2⟩:=pW;exact ⟨J0 ⟨k,at',lo,hi,most,af,es⟩ (.mk k n s ks) (T (e + 1)) (e + 1) (e + 1),(dz 4 (oc (aX aw (by omega)) eK) (gC (aX aw (by omega)) eK)),j',h1,h2⟩
   ·have c8:¬ k=8:=sU c;rw [ai c8] at vw Ii;refine ⟨_,⟨by simp at Ii;omega,bH vw⟩,?_⟩;refine ⟨DK,⟨by rw [DK];simp [maxLen];omega,by rw [DK];simp;omega⟩,?_⟩;obtain ⟨j',h1,h2⟩:=pW;exact ⟨J0 ⟨k,at',lo,hi,most,af,es⟩ (.mk k n s ks) (T (e + 1)) (e + 1) (e + 1),(dz 4 (oc (aX aw (by omega)) eK) (gC (aX aw (by omega)) eK)),j',h1,h2⟩
 have hge:e=ks.length:=by grind [Val.ks]
 subst hge;refine br ?_ ?_<;>intro c
 ·have c:k=5:=sU c;rw [hnn (by omega),o5 c,e5 c];exact ⟨_,ax,rfl⟩
 have c5:¬ k=5:=sU c;refine br ?_ ?_<;>intro c
 ·have c:k=6:=sU c;rw [hnn (by omega)];refine br ?_ ?_<;>intro g
  ·have g:ks ≠ []:=by rintro rfl;simp [cw] at g
   rw [o6s c g,es9 (by omega) g];exact ⟨_,ax,rfl⟩
  ·have g:ks=[]:=sV cw g;rw [o6n c g,en (by omega) g];exact ⟨_,ax,rfl⟩
 have c6:¬ k=6:=sU c;refine br ?_ ?_<;>intro c
 ·have c:k=7:=sU c;rw [hn7 c,o7 c,e7 c];have jF:=(GH (.inl c)).1;subst Vz;refine lJ (fun u=>aeN ⟨k,at',lo,hi,most,af,es⟩ (.mk k n s ks) (T ks.length) ks.length u) es.length (dq 4 ⟨0,9,1,none⟩ rfl rfl rfl pV rfl rfl j8) ?_;intro u hu;refine br ?_ ?_<;>intro hL
  ·have aw:u < es.length:=sV pU hL;obtain ⟨x,hx⟩:=gX aw;have Ec:=DJ (.inl c) x (mG hx);have fA:(nH (G2 ⟨k,at',lo,hi,most,af,es⟩ u)).length=u:=by rw [MY,gR u (by omega)]
   have eK:nH (G2 ⟨k,at',lo,hi,most,af,es⟩ u) ++ [[DV.v (.string (x.name ++ ba [58,32]))]]=nH (G2 ⟨k,at',lo,hi,most,af,es⟩ (u + 1)):=by grind [nH,Sr]
   refine iX (bH hx) ?_;refine ⟨by show x.name.size + 2<=_;omega,?_⟩;refine ⟨fA,⟨by rw [fA];simp [maxLen];omega,by rw [fA];simp;omega⟩,?_⟩;exact rE ⟨_,by omega,u + 1,rfl,by omega,rfl⟩ (dz 4 (oc (aX aw (by omega)) eK) (gC (aX aw (by omega)) eK))
  ·have hge:u=es.length:=sW pU hL;subst hge;exact ⟨_,ax,rfl⟩
 have c7:¬ k=7:=sU c;have c8:k=8:=by omega
 refine br (fun _=>?_) (fun g=>absurd c8 (sU g));have h8:=h8 c8;obtain ⟨x,hx⟩:∃ x,es[n.toNat]? = some x:=⟨_,gE (by omega)⟩;have Ec:=DJ (.inr c8) x (mG hx);rw [hnn (by omega)];refine iX (bH hx) ?_;refine br ?_ ?_<;>intro g
 ·have g:ks ≠ []:=by rintro rfl;simp [cw] at g
  rw [o8s x c8 hx g,es9 (by omega) g,<- Sr];refine ⟨by show x.name.size + 1<=_;omega,?_⟩;exact ⟨_,ax,rfl⟩
 ·have g:ks=[]:=sV cw g;rw [o8n x c8 hx g,en (by omega) g,Lf];exact ⟨_,ax,rfl⟩
mutual
def rngW:Val->Prop
 | .mk k n _ ks=>mZ k/\mZ n/\rngWs ks
def rngWs:List Val->Prop
 | []=>True
 | v :: r=>rngW v/\rngWs r
end
theorem eN:∀ {l:List Val} {x:Val},rngWs l->x∈l->rngW x
 | v :: r,x,h,hm=>by
  rw [rngWs] at h;rcases dB hm with rfl | hm
  ·exact h.1
  ·exact eN h.2 hm
theorem uy {v:Val} (h:rngW v) : -9223372036854775808<=v.n/\v.n<=9223372036854775807:=by
 obtain ⟨k,n,s,ks⟩:=v;rw [rngW] at h;exact h.2.1
theorem pM {v:Val} (h:rngW v):rngWs v.ks:=by
 obtain ⟨k,n,s,ks⟩:=v;rw [rngW] at h;exact h.2.2
theorem L3 {m:Nat} (ih:∀ k,k<=m->∀ ds,Typ prog k 34 ds->∃ v:Val,ds=aG v/\rngW v/\v.wt<=wgL ds) :
  ∀ {es:List (List DV)},(∀ cs∈es,Typ prog m 34 cs)->∃ l:List Val,es=dVals l/\rngWs l/\cu l<=wgEs es
 | [],h=>⟨[],rfl,by simp [rngWs],by simp [cu]⟩
 | cs :: r,h=>by
  obtain ⟨l,rfl,hr,hl⟩:=L3 ih (es:=r) (fun c hc=>h c (jD _ hc));obtain ⟨v,rfl,nO,hv⟩:=ih m (aR _) cs (h cs (by simp));exact ⟨v :: l,rfl,by rw [rngWs];exact ⟨nO,hr⟩,by simp only [cu,wgEs];omega⟩
theorem typ_valr:∀ (n:Nat) (ds:List DV),Typ prog n 34 ds->∃ v:Val,ds=aG v/\rngW v/\v.wt<=wgL ds:=by
 intro n
 induction n using Nat.strongRecOn with
 | _ n ih=>
  intro ds h;obtain ⟨m,rfl,hf⟩:=ox Tryz.underlying34 h;obtain ⟨a1,b1,rfl,h1,a2,b2,rfl,h2,a3,b3,rfl,h3,a4,b4,rfl,h4,rfl⟩:=hf;obtain ⟨k,rfl,r1⟩:=oy h1;obtain ⟨z,rfl,r2⟩:=oy h2;obtain ⟨s,rfl⟩:=Lh Tryz.underlying9 h3;obtain ⟨j,es,rfl,rfl,jF⟩:=xT Tryz.underlying32 h4;obtain ⟨l,rfl,r3,wl⟩:=L3 (fun i hi=>ih i (by omega)) jF;rw [Gq];refine ⟨.mk k z s l,rfl,by rw [rngW];exact ⟨r1,r2,r3⟩,?_⟩;simp only [Val.wt,fL,wgL,wgD] at *;omega
namespace Dv
theorem arg_ar2 {H:Type} {enc:TypeId × Value->H} {P:Program} {W:World} {base:Nat} {S:List TypeId} {bk:DataW H->Nat} (na:Bk bk) (hS:∀ t∈S,ow P S t=true) {t e:TypeId} {v:Value} {d:DataW H} {ps:List MemPlace} (he:e∈S) (hu:P.underlying t=some (.array 2 e)) (hc:P.cellsOf t=2 * P.cellsOf e)
  (hval:Value.okWide P W .any base t v) (h:DataW.Trod enc P W 0 (fun _=>true) true t v d ps):∃ n a b,Rv (HT W) (.agg (a ++ b)) v/\Typ P n e a/\Typ P n e b/\wgL a + wgL b<=64 * bk d:=by
 unfold Value.okWide at hval;rw [hu] at hval;obtain ⟨cs,rfl,_,_⟩:=hval;obtain ⟨n,hn⟩:=h;obtain ⟨xs,m,rfl,hx,hlen,vY,hf⟩:=DataW.trod_array hu hn
 match xs,vY with
 | [x,y],_=>
  obtain ⟨a,a1,a2,a3,a4,a5⟩:=rM na hS m e _ x he (hf 0 (by omega));obtain ⟨b,b1,b2,b3,b4,b5⟩:=rM na hS m e _ y he (hf 1 (by omega));cases hx;have hb:=na.agg [x.1,y.1];rw [hc] at hlen
  have hcs:cs.toList=(cs.toList.drop (0 * P.cellsOf e)).take (P.cellsOf e) ++ (cs.toList.drop (1 * P.cellsOf e)).take (P.cellsOf e):=by
   have h1:(Value.agg cs).cells.toList=cs.toList:=rfl;rw [h1] at hlen;rw [Nat.zero_mul,Nat.one_mul,List.drop_zero,List.take_of_length_le (l:=cs.toList.drop (P.cellsOf e)) (by rw [List.length_drop];omega),List.take_append_drop]
  refine ⟨m,a,b,?_,a3,b3,?_⟩
  ·unfold Rv;refine ⟨cs.toList,by simp,?_,?_⟩
   ·rw [hcs];exact RvL.append a1 b1
   ·rw [hcs];intro v hv;rcases List.mem_append.1 hv with hv | hv
    ·exact a2 v hv
    ·exact b2 v hv
  ·grind [bkS]
end Dv
section
variable {ND:List Nd}
theorem gL {v:Val} {i:Int} (h:dW ND v i=true):∃ d,bR ND i=some d/\((9<=v.k/\dQ v=true/\v.ks=[])∨(v.k=d.ag/\d.ag < 5/\v.ks=[]/\(v.k=4->0<=v.n/\v.n < d.af.length))∨(v.k=d.ag/\5<=d.ag/\shellF d v=true/\iw ND v.ks d v.n 0=true)):=by
 obtain ⟨k,n,s,ks⟩:=v;unfold dW at h
 cases hd:bR ND i with
 | none=>rw [hd] at h;cases h
 | some d=>
  rw [hd] at h;refine ⟨d,rfl,?_⟩;simp only at h;split at h
  ·rename_i c;rw [aO,decide_eq_true_iff] at h;exact .inl ⟨c,h.1,h.2⟩
  ·split at h
   ·cases h
   ·rename_i c;have c:k=d.ag:=Decidable.not_not.1 c;split at h
    ·rename_i c5;rw [aO,Bool.or_eq_true,decide_eq_true_iff,decide_eq_true_iff,decide_eq_true_iff] at h;exact .inr (.inl ⟨c,c5,h.1,fun c4=>h.2.resolve_left (fun g=>g c4)⟩)
    ·rename_i c5;rw [aO] at h;exact .inr (.inr ⟨c,by omega,h.1,h.2⟩)
theorem shell_8 {d:Nd} {v:Val} (h:shellF d v=true) (h8:d.ag=8):0<=v.n/\v.n < d.az.length:=by grind [shellF]
theorem G4 {d:Nd} {z:Int} {j:Nat} {e:Ed} (h:aW d z j=some e):e∈d.az:=by grind [aW]
theorem VA (n:Nat):k0 n ≠ []:=by
 by_cases h:n < 10
 ·rw [rK h];simp
 ·rw [v8 h];simp
theorem VB (z:Int):ic z ≠ []:=by
 unfold ic;split
 ·simp
 ·exact VA _
theorem G5 {v:Val} (h:dQ v=true):eA v ≠ []:=by grind [eA,mi,VB,vO]
theorem BO {v:Val} (hn:mZ v.n) (h:dQ v=true):(eA v).length<=88 + 12 * v.s.size:=by
 rw [eA,aj h];exact N4 hn h
theorem DL {L N:Nat} {d:Nd} {v:Val} (hN:cr L N d) (hn:mZ v.n) (h:(9<=v.k/\dQ v=true/\v.ks=[])∨(v.k=d.ag/\d.ag < 5/\v.ks=[]/\(v.k=4->0<=v.n/\v.n < d.af.length))∨(v.k=d.ag/\5<=d.ag/\shellF d v=true/\iw ND v.ks d v.n 0=true)) :
  opnT d v ≠ []/\(opnT d v).length<=88 + 12 * v.s.size:=by
 have og:=hN.k1;have GG:=hN.k8;rcases h with ⟨h9,hb,_⟩ | ⟨hk,h5,_,h4⟩ | ⟨hk,h5,hs,_⟩
 ·grind [Sp,G5,BO]
 ·by_cases c1:v.k=1
  ·by_cases c:v.n=1
   ·rw [opn_1 c1 c];simp;omega
   ·rw [Si c1 c];simp;omega
  by_cases c4:v.k=4
  ·obtain ⟨g0,g1⟩:=h4 c4;obtain ⟨x,hx⟩:∃ x,d.af[v.n.toNat]? = some x:=⟨_,gE (by omega)⟩;have bA:=(hN.af (by omega)).2.2.2 x (mG hx);have Ro:=jw bA;have kB:0 < x.size:=by simp [aZ] at bA;exact bA.1
   rw [opn_4 c4 hx]
   grind [dg]
  ·grind [Sp,dQ,G5,BO]
 ·have:v.k=5∨v.k=6∨v.k=7∨v.k=8:=by omega
  rcases this with c | c | c | c
  ·rw [opn_5 c];simp;omega
  ·by_cases g:v.ks=[]
   ·rw [Sj c g];simp;omega
   ·rw [Sk c g];simp;omega
  ·rw [opn_7 c];simp;omega
  ·obtain ⟨g0,g1⟩:=shell_8 hs (by omega);obtain ⟨x,hx⟩:∃ x,d.az[v.n.toNat]? = some x:=⟨_,gE (by omega)⟩;have bA:=(hN.many (.inr (by omega))).2.2.2 x (mG hx);have Ro:=jw bA;have kB:0 < x.name.size:=by simp [aZ] at bA;exact bA.1
   have hl:=dg x.name;by_cases g:v.ks=[]
   ·grind [Sm]
   ·grind [Sn]
theorem L4 (v:Val):(mj v).length<=1:=by
 unfold mj
 repeat' split
 all_goals simp
end
section
variable {ND:List Nd} {L:Nat}
mutual
theorem uz (bA:∀ d∈ND,cr L ND.length d):∀ (v:Val) (i:Int),rngW v->dW ND v i=true->(textV ND v i).length + 36<=50 * v.wt
 | .mk k n s ks,i,hr,hw=>by
  obtain ⟨d,hd,hc⟩:=gL hw;have hN:=bA d (mG (bu hd).2);rw [rngW] at hr;have h1:=(DL (v:=.mk k n s ks) hN hr.2.1 hc).2;have h2:=L4 (.mk k n s ks);have hs:(Val.mk k n s ks).s=s:=rfl;rw [hs] at h1;rw [textV,hd,Val.wt];simp only [List.length_append];rcases hc with ⟨_,_,h0⟩ | ⟨_,_,h0,_⟩ | ⟨_,h5,_,h0⟩
  ·have h0:ks=[]:=h0
   grind [textVs,cu]
  ·have h0:ks=[]:=h0
   grind [textVs,cu]
  ·have:=qR bA ks d n 0 hN h5 hr.2.2 h0;omega
theorem qR (bA:∀ d∈ND,cr L ND.length d):∀ (l:List Val) (d:Nd) (z:Int) (j:Nat),cr L ND.length d->5<=d.ag->rngWs l->iw ND l d z j=true->(textVs ND l d z j).length<=50 * cu l
 | [],d,z,j,_,_,_,_=>by rw [textVs];exact Nat.zero_le _
 | x :: r,d,z,j,hN,h5,hr,hw=>by
  rw [iw,aO] at hw;rw [rngWs] at hr;rw [textVs,cu]
  cases he:aW d z j with
  | none=>rw [he] at hw;exact absurd hw.1 (by simp)
  | some e=>
   rw [he] at hw;have h1:=uz bA x e.to hr.1 hw.1;have h2:=qR bA r d z (j + 1) hN h5 hr.2 hw.2
   have h3:(if d.ag=7 then tx e.name ++ [58,32] else []).length<=34:=by
    split
    ·rename_i c;have:=jw ((hN.many (.inl c)).2.2.2 e (G4 he));rw [List.length_append,dg];simp;omega
    ·simp
   grind
end
theorem BP:∀ {ks:List Val} {e:Nat} {x:Val},ks[e]? = some x->cu (ks.take e) + x.wt<=cu ks
 | [],e,x,h=>by simp at h
 | y :: r,e,x,h=>by
  cases e with
  | zero=>grind [cu]
  | succ e=>
   have:=BP (ks:=r) (e:=e) (x:=x) (sU h);rw [List.take_succ_cons,cu,cu];omega
theorem DM:∀ (ks:List Val) (e:Nat),cu (ks.take e)<=cu ks
 | [],e=>by rw [List.take_nil];exact aR _
 | y :: r,0=>by rw [List.take_zero,cu];exact Nat.zero_le _
 | y :: r,e + 1=>by
  have:=DM r e;rw [List.take_succ_cons,cu,cu];omega
theorem G6:∀ {ks:List Val} {d:Nd} {z:Int} {j:Nat} (e:Nat),iw ND ks d z j=true->iw ND (ks.take e) d z j=true
 | [],_,_,_,e,h=>by rw [List.take_nil];exact h
 | y :: r,_,_,_,0,h=>by rw [List.take_zero,iw]
 | y :: r,d,z,j,e + 1,h=>by
  rw [iw,aO] at h;rw [List.take_succ_cons,iw,aO];exact ⟨h.1,G6 e h.2⟩
theorem zi:∀ {ks:List Val} (e:Nat),rngWs ks->rngWs (ks.take e)
 | [],e,h=>by rw [List.take_nil];exact h
 | y :: r,0,h=>by rw [List.take_zero,rngWs];trivial
 | y :: r,e + 1,h=>by
  rw [rngWs] at h;rw [List.take_succ_cons,rngWs];exact ⟨h.1,zi e h.2⟩
end
def zj (d:Nd) (v:Val) (s:Stp):Option Nat:=(List.range v.ks.length).find? fun e=>jN (stpR d v e) s
section
variable {L:Nat} {ND:List Nd} (bA:∀ n∈ND,cr L ND.length n)
include bA
end
theorem G7:∀ {l:List Val} {e:Nat} {x y:Val},l[e]? = some x->cu (l.set e y) + x.wt=cu l + y.wt
 | [],e,x,y,h=>by simp at h
 | v :: r,0,x,y,h=>by grind [cu]
 | v :: r,e + 1,x,y,h=>by
  simp only [List.getElem?_cons_succ] at h;have:=G7 (y:=y) h;simp only [List.set_cons_succ,cu];omega
section
variable {L:Nat} {ND:List Nd} (bA:∀ n∈ND,cr L ND.length n)
include bA
end
end Go.Proofs.YtgjagnmeonoehaaGreat
namespace Go.Proofs.YtgjagnmeonoehaaGreat
namespace Dv
open Go Go.RowKit
mutual
def shD (m:Nat):DV->DV
 | .agg l=>.agg (shL m l)
 | .tup l=>.tup (shL m l)
 | .sl e es tk=>.sl e es (match tk with | some k=>some (m + k) | none=>none)
 | .fn f a b=>.fn f (shL m a) (shL m b)
 | .rc t x=>.rc t (shD m x)
 | .v x=>.v x
 | .ud=>.ud
 | .pt cs o=>.pt cs o
 | .loc i o=>.loc i o
 | .el i o=>.el i o
 | .ms i e o l c=>.ms i e o l c
def shL (m:Nat):List DV->List DV
 | []=>[]
 | d :: r=>shD m d :: shL m r
end
mutual
theorem uA {m:Nat} {E2 E:En} (hβ:E2.β=[]) (hc:E.c=E2.c) (ht:∀ (k:Nat) q,E2.tk[k]? = some q->E.tk[m + k]? = some q/\E.τ[m + k]? = E2.τ[k]?):∀ {d:DV} {v:Value},Rv E2 d v->Rv E (shD m d) v
 | .v x,v,h=>by simpa only [Rv,shD] using h
 | .ud,v,h=>by simpa only [Rv,shD] using h
 | .agg l,v,h=>by
  simp only [Rv,shD] at h ⊢;obtain ⟨vs,h1,h2,h3⟩:=h;exact ⟨vs,h1,ml hβ hc ht h2,h3⟩
 | .tup l,v,h=>by
  simp only [Rv,shD] at h ⊢;obtain ⟨vs,h1,h2⟩:=h;exact ⟨vs,h1,ml hβ hc ht h2⟩
 | .sl e es tk,v,h=>by
  have he:E.cl=E2.cl:=by simp [En.cl,hc]
  simp only [Rv,shD] at h ⊢;obtain ⟨b,n,cap,h1,h2,h3,h4⟩:=h;refine ⟨b,n,cap,h1,h2,fun hn=>⟨(h3 hn).1,by rw [he];exact (h3 hn).2⟩,?_⟩;intro k' fC
  cases tk with
  | none=>cases fC
  | some k=>
   simp only [oI] at fC;subst fC;obtain ⟨q,g1,g2,g3⟩:=h4 k rfl
   grind
 | .pt cs off,v,h=>by grind [En.cl,Rv,shD]
 | .loc i off,v,h=>by grind [Rv]
 | .el i off,v,h=>by grind [Rv]
 | .ms i e off len cap,v,h=>by grind [Rv]
 | .fn f a b,v,h=>by
  simp only [Rv,shD] at h ⊢;obtain ⟨l,r,h1,h2,h3⟩:=h;exact ⟨l,r,h1,ml hβ hc ht h2,ml hβ hc ht h3⟩
 | .rc t x,v,h=>by
  simp only [Rv,shD] at h ⊢;obtain ⟨z,h1,h2⟩:=h;exact ⟨z,h1,uA hβ hc ht h2⟩
theorem ml {m:Nat} {E2 E:En} (hβ:E2.β=[]) (hc:E.c=E2.c) (ht:∀ (k:Nat) q,E2.tk[k]? = some q->E.tk[m + k]? = some q/\E.τ[m + k]? = E2.τ[k]?):∀ {l:List DV} {vs:List Value},RvL E2 l vs->RvL E (shL m l) vs
 | [],vs,h=>by simpa only [RvL,shL] using h
 | d :: r,vs,h=>by
  simp only [RvL,shL] at h ⊢;obtain ⟨v,s,h1,h2,h3⟩:=h;exact ⟨v,s,h1,uA hβ hc ht h2,ml hβ hc ht h3⟩
end
section
variable {X:Ctx} {st:St} {k:List It} {E:En} {a:Act} {w:World}
theorem J2 (h:Rel X E st a w) (bd:X.still=false) {E2:En} {w':World} (hm:re (E.cl).S w w') (he:Env E2 [] w') (hn:Nw E.cl E2 w):Rel X ⟨E2.c,E.β,E.tk ++ E2.tk,E.τ ++ E2.τ⟩ ⟨st.sl,st.bx,st.tk ++ E2.tk⟩ a w':=by
 have hq:=Av h bd hm he hn;have hfr:∀ (j:Nat) y g,E2.τ[j]? = some y->y.ownBlock=some g->w.heap.size<=g:=fun j y g hy hg=>hn.tn j y g (Nat.zero_le _) hy hg;have hold:∀ (k:Nat) y g,E.τ[k]? = some y->y.ownBlock=some g->g < w.heap.size:=fun k y g hy hg=>(h.env.own (mG hy) hg).1;have gD:E.τ.length=E.tk.length:=h.env.tl
 have hτ:∀ (k:Nat) y,(E.τ ++ E2.τ)[k]? = some y->(k < E.τ.length/\E.τ[k]? = some y)∨(E.τ.length<=k/\E2.τ[k - E.τ.length]? = some y):=fun k y hy=>by
  rw [List.getElem?_append] at hy;split at hy
  ·rename_i hk;exact .inl ⟨hk,hy⟩
  ·rename_i hk;exact .inr ⟨by omega,hy⟩
 have hx:Ext ⟨E2.c,E.β,E.tk,E.τ⟩ ⟨E2.c,E.β,E.tk ++ E2.tk,E.τ ++ E2.τ⟩:=⟨fun _ _ h=>h,fun _ _ h=>h,fun j q hj=>by
  have hj:E.tk[j]? = some q:=hj;have aw:=(gS hj).1;refine ⟨q,by show (E.tk ++ _)[j]? = _;rw [dn aw];exact hj,.inl ⟨rfl,?_⟩⟩;show (E.τ ++ _)[j]? = _
  rw [dn (by rw [gD];exact aw)]⟩
 refine dC hq hx ?_ (by show E.tk ++ _=_;rw [h.tk]) ?_ hq.fr (mJ bd) hq.bt
 ·exact {
   len:=h.env.len
   tl:=by show (E.τ ++ _).length=(E.tk ++ _).length;simp [gD,he.tl]
   ey:=fun i cs hi=>by
    obtain ⟨b,t,arr,hb,hw,hc⟩:=hq.env.ey i cs hi;exact ⟨b,t,arr,hb,hw,hc.mono hx⟩
   inj:=h.env.inj
   sub:=he.sub
   pc:=hq.env.pc
   bU:=fun j q y Q2 hy=>by
    have Q2:(E.tk ++ E2.tk)[j]? = some q:=Q2;rcases hτ j y hy with ⟨aw,fW⟩ | ⟨gk,fW⟩
    ·rw [dn (by rw [<- gD];exact aw)] at Q2;exact hq.env.bU j q y Q2 fW
    ·rw [List.getElem?_append_right (by rw [<- gD];exact gk),<- gD] at Q2;rcases he.bU _ q y Q2 fW with h1 | ⟨g,cap,cur,rfl,h1,h2,h3,h4,_,h6⟩
     ·exact .inl h1
     ·refine .inr ⟨g,cap,cur,rfl,h1,h2,h3,h4,fun rq=>?_,h6⟩;have:=hfr _ _ g fW rfl;have:=h.env.bp rq;omega
   jc:=fun i j y y' g qj hy fW hg qX=>by
    rcases hτ i y hy with ⟨_,h1⟩ | ⟨h0,h1⟩
    ·rcases hτ j y' fW with ⟨_,h2⟩ | ⟨_,h2⟩
     ·exact h.env.jc i j y y' g qj h1 h2 hg qX
     ·have:=hold i y g h1 hg;have:=hfr _ y' g h2 qX;omega
    ·rcases hτ j y' fW with ⟨_,h2⟩ | ⟨h00,h2⟩
     ·have:=hold j y' g h2 qX;have:=hfr _ y g h1 hg;omega
     ·exact he.jc _ _ y y' g (by omega) h1 h2 hg qX }
 ·exact {
   c:=hq.nw.c
   cn:=hq.nw.cn
   β:=h.nw.β
   tk:=fun j q0 y0 zZ Ch=>by
    obtain ⟨q',y',h1,h2,h3⟩:=h.nw.tk j q0 y0 zZ Ch;exact ⟨q',y',by show (E.tk ++ _)[j]? = _;rw [dn (gS h1).1];exact h1,by show (E.τ ++ _)[j]? = _;rw [dn (gS h2).1];exact h2,h3⟩
   tn:=fun j y g hj hy hg=>by
    rcases hτ j y hy with ⟨_,h1⟩ | ⟨_,h1⟩
    ·exact h.nw.tn j y g hj h1 hg
    ·exact Nat.le_trans h.fr.size (hfr _ y g h1 hg)
   l0:=h.nw.l0 }
theorem L5 {P:Program} (h:Rel X E st a w) (bd:X.still=false) {f:FuncId} {args bE:List DV} {vs:List Value} {Φ:DV->List (List DV)->List TkE->Prop} (hc:TB P f bE [] [] Φ) (ha:CcL [] 0 0 0 bE args) (hv:RvL E args vs) :
  Calls P f vs.toArray w fun e w'=>∃ v E' d bU,e = .returned v/\Rel X E' ⟨st.sl,st.bx,st.tk ++ bU⟩ a w' /\ Rv E' (shD st.tk.length d) v/\Φ d [] bU/\re E.cl.S w w' /\ Ext E E' /\ E'.β=E.β:=by
 have XS:RvL E.cl bE vs:=CcL.sound (E:=E) (E':=E.cl) ⟨fun _ _ h=>h,fun i cs _ hi=>by simp at hi⟩ (KR.zero _ _) ha hv;refine (hc E.cl w vs (Pq h.env) rfl XS).mono ?_;rintro e w' ⟨v,rfl,hm,_,d,os,E2,he,hβ,_,hn,Ud,hΦ⟩;have hβ:E2.β=[]:=hβ
 have Cm:os=[]:=by
  have:=he.len;rw [hβ] at this;exact List.eq_nil_of_length_eq_zero this.symm
 subst Cm;have gD:E.τ.length=E.tk.length:=h.env.tl
 have hx:Ext E ⟨E2.c,E.β,E.tk ++ E2.tk,E.τ ++ E2.τ⟩:=⟨hn.c,fun _ _ h=>h,fun j q hj=>by
  have aw:=(gS hj).1;refine ⟨q,by show (E.tk ++ _)[j]? = _;rw [dn aw];exact hj,.inl ⟨rfl,?_⟩⟩;show (E.τ ++ _)[j]? = _
  rw [dn (by rw [gD];exact aw)]⟩
 refine ⟨v,_,d,E2.tk,rfl,J2 h bd hm he hn,uA (E2:=E2) (E:=⟨E2.c,E.β,E.tk ++ E2.tk,E.τ ++ E2.τ⟩) (m:=st.tk.length) hβ rfl (fun k q hq=>?_) Ud,hΦ,hm,hx,rfl⟩;rw [<- h.tk];constructor
 ·show (E.tk ++ E2.tk)[_]? = _;rw [List.getElem?_append_right (by omega)];simpa using hq
 ·show (E.τ ++ E2.τ)[_]? = _;rw [List.getElem?_append_right (by omega),gD];simp
theorem ZO {f:FuncId} {args bE:List DV} {d:Nat} (kY:Enters X.P f) (hd:ep X.nt st.sl (some d)=true) {Φ:DV->List (List DV)->List TkE->Prop} (hc:TB X.P f bE [] [] Φ) (ha:CcL [] 0 0 0 bE args)
  (hk:∀ r bU,Φ r [] bU->go X 4000 k ⟨(d,⟨[],shD st.tk.length r⟩) :: st.sl,st.bx,st.tk ++ bU⟩) (bd:X.still=false:=by exact rfl):CallG X f args (some d) k st:=by
 refine ⟨kY,bd,fun E a w vs h hv=>(L5 h bd hc ha hv).mono ?_⟩;rintro e w' ⟨v,E',r,bU,rfl,bY,hr,hΦ,_⟩;exact go_sound 4000 _ _ (hk r bU hΦ) E' _ w' (bc bY hd _ v hr)
theorem sy {D:Dr} {c:Bool} {i:Nat} {s0:List (Nat × Sl)} {f:FuncId} {args bE:List DV} {d:Nat} {r:List (Nat × Oper)} (kY:Enters X.P f) (hd:(ep X.nt st.sl (some d) && ep X.nt s0 (some d))=true) {Φ:DV->List (List DV)->List TkE->Prop} (hc:TB X.P f bE [] [] Φ) (ha:CcL [] 0 0 0 bE args)
  (hk:∀ tu bU,Φ tu [] bU->put2 s0 ⟨st.sl,st.bx,st.tk ++ bU⟩ (some d) false [] (shD st.tk.length tu) (goD X D 3000 c r)) (bd:X.still=false:=by exact rfl):xg X D c i r f args (some d) s0 st:=by
 refine ⟨kY,fun hl E0 wr hD E a w vs h hv=>(L5 h.rel bd hc ha hv).mono ?_⟩;rintro e w' ⟨v,E',tu,bU,rfl,bY,hr,hΦ,hm,hx,hβ⟩
 have hh:∀ b,b < w.heap.size->w'.heap[b]? = w.heap[b]?:=fun b hb=>hm.block b hb (by
  rintro (h1 | ⟨y,h1,_⟩)
  ·simp [En.cl] at h1
  ·simp [En.cl] at h1)
 have hs:Stp none E w E' w':=⟨hx,⟨[],by rw [hβ];simp⟩,fun j b hb _=>hh b (h.rel.env.bp (mG hb))⟩;have hC:=EQ h hs bY (fun j hj=>by cases hj);refine ⟨v,rfl,fun _=>hC,?_⟩;have ER:fX X ⟨D,E0,wr⟩ c E' s0 ⟨st.sl,st.bx,st.tk ++ bU⟩ (a.put none v) w':=rD h hs bY (fun h1=>hC (h.cc h1)) (fun i x hx=>.inr ⟨hx,fun d hd=>by cases hd⟩) rfl;obtain ⟨s1,rF,og,eQ⟩:=jH ER hd false [] _ v (fun _ _ p hp=>by cases hp) (fun _=>hr) (fun hb=>by cases hb) (fun hn=>(hn (bz _)).elim) (hk tu bU hΦ);exact fY (D:=⟨D,E0,wr⟩) hD 3000 c r _ _ og hl E' _ w' eQ
theorem VC {o:Oper} {t d et e' iB n:Nat} {x:Operand} {bb:Bool} {z:List Value} (mB:∃ t',o.op = .binOp .eql t x (.const (.slice none 0 0)) t') (gZ:o.dst=some d) (hx:rv st [] x=some (.v (.slice none 0 0))) (hT:X.T.find t=some ⟨n,bb,.sl et e' iB,z⟩) (hd:ep X.nt st.sl (some d)=true)
  (hk:go X 4000 k ⟨(d,⟨[],.v (.bool true)⟩) :: st.sl,st.bx,st.tk⟩):HO X o k st:=by
 intro E a w h;obtain ⟨t',mB⟩:=mB;have e1:=aV h.rl hx;unfold Rv at e1;obtain ⟨hu,_⟩:=er X.hT hT;have aP:=r8 hu none 0 0 w
 have cd:(execOp a.eval o).run X.P w = .ok (.value (.bool true)) w:=by
  have hc:a.eval (.const (.slice none 0 0)) = .slice none 0 0:=rfl;simp [execOp,mB,e1.1,hc,eqGuard,binOp,aP]
 refine gB cd ?_;rw [gZ];exact go_sound 4000 _ _ hk E _ w (bc h hd (.v (.bool true)) _ (by unfold Rv;exact ⟨rfl,rfl⟩))
end
end Dv
end Go.Proofs.YtgjagnmeonoehaaGreat
namespace Go.Proofs.YtgjagnmeonoehaaGreat
namespace Dv
open Go Go.RowKit
section
variable {X:Ctx} {st:St} {k:List It} {E:En} {a:Act} {w:World}
theorem wE (h:Rel X E st a w) {es:List (List DV)} {cs:List DV} {kt m sN e:Nat} {v:Value} (hv:Rv E (.sl 0 es (some kt)) v) (hq:st.tk[kt]? = some ⟨m,sN,e,some cs⟩) (jF:es.length=m) (hm:0 < m) :
  ∃ g cap,∃ cur:Array Value,v = .slice (some ⟨g,0,none⟩) m cap/\E.tk[kt]? = some ⟨m,sN,e,some cs⟩/\E.τ[kt]? = some v/\w.heap[g]? = some (.cells cur sN (0,0))/\cur.size=cap * e/\cs.length=m * e/\RvC E.cl cs (cur.toList.take (m * e))/\m<=cap/\cap<=maxLen/\g ∉ E.β/\∀ x u,E.c x=some u->x.block=g->x.off < 0:=by
 unfold Rv at hv;obtain ⟨bs,ns,lR,e1,⟨vE,Mz⟩,OM,wW⟩:=hv;subst vE;obtain ⟨q',lP,_,X8⟩:=wW kt rfl;have j5:E.tk[kt]? = some ⟨m,sN,e,some cs⟩:=by rw [h.tk];exact hq
 rw [j5] at lP;simp only [oI] at lP;subst lP;have hy:=X8 jF;rcases h.env.bU kt _ _ j5 hy with ⟨_,ku,_⟩ | ⟨g,cap,cur,pj,hw0,⟨sK,EE⟩,wX,z6,iC,H7⟩
 ·simp only at ku;omega
 obtain ⟨h5,h6⟩:=EE cs rfl;exact ⟨g,cap,cur,pj,j5,hy,hw0,sK,h5,h6,wX,z6,iC,H7⟩
theorem DN {o1:Oper} {t et e iB nn m g cap:Nat} {bb:Bool} {zz:List Value} {z:Int} {kd:IntKind} {s ix:Operand} (h1:o1.op = .indexAddr t s ix) (e1:a.eval s = .slice (some ⟨g,0,none⟩) m cap) (e2:a.eval ix = .int kd z)
  (hT:X.T.find t=some ⟨nn,bb,.sl et e iB,zz⟩) (hz:0<=z/\z < m) (w:World):(execOp a.eval o1).run X.P w = .ok (.value (.pointer (some ⟨g,z.toNat * e,none⟩))) w:=by
 obtain ⟨hu,ii,zv,vX,_,YX,_,_⟩:=er X.hT hT;have lQ:iN X.P et=some e:=by rw [eZ vX,YX]
 have cd:(Instr.indexAt t (.slice (some ⟨g,0,none⟩) m cap) (.int kd z)).run X.P w = .ok (.pointer (some ⟨g,z.toNat * e,none⟩)) w:=by
  simp [Instr.indexAt,asIntOf,run_underlying hu,hz.1,hz.2,aS lQ,Addr.add_lit]
 simp only [execOp,h1,e1,e2,Sem.run_bind,cd,Result.andThen_ok,Sem.run_pure]
theorem L6 {o2:Oper} {d1 kt ty e m sN:Nat} {z:Int} {es:List (List DV)} {cs cs':List DV} {v:Value} {x:Operand} {dv:DV} {g cap:Nat}
  (hr1:Rel X E st a w) (h2:o2.op = .store ty (.tmp d1) x) (ht1:a.eval (.tmp d1) = .pointer (some ⟨g,z.toNat * e,none⟩)) (hv:Rv E (.sl 0 es (some kt)) v) (hvg:v = .slice (some ⟨g,0,none⟩) m cap)
  (hx:rv st [] x=some dv) (YW:eraL dv.cells (fun l=>some l)=some cs') (OY:dv.cells.length=e) (he0:0 < e)
  (cf:X.T.sz ty=some e) (hq:st.tk[kt]? = some ⟨m,sN,e,some cs⟩) (jF:es.length=m) (hz:0<=z/\z < m) (bd:X.still=false) :
  ∃ w' E',(execOp a.eval o2).run X.P w = .ok .skip w' /\ Rel X E' ⟨st.sl,st.bx,st.tk.set kt ⟨m,sN,e,some (cs.take (z.toNat * e) ++ cs' ++ cs.drop (z.toNat * e + e))⟩⟩ a w':=by
 obtain ⟨g',lR,cur,e1,j5,hy,hw0,sK,h5,h6,wX,z6,iC,H7⟩:=wE hr1 hv hq jF (by omega);rw [hvg] at e1;injection e1 with i1 i2 i3
 injection i1 with i1
 injection i1 with i1
 subst i1 i3;rw [hvg] at hy;have e3:=aV hr1.rl hx;have gQ:RvC E dv.cells (a.eval x).cells.toList:=e3.cells (jd (n:=e) OY (by omega));have Eb:(a.eval x).cells.toList.length=e:=by rw [gQ.1.length];exact OY
 obtain ⟨l',Ar,hx1,_⟩:=ql YW gQ;simp only [oI] at Ar;rw [Ar] at hx1;have hme:m * e<=cap * e:=Nat.mul_le_mul_right _ wX
 have kB:z.toNat * e + e<=m * e:=by
  have:(z.toNat + 1) * e<=m * e:=Nat.mul_le_mul_right _ (by omega);rw [Nat.add_mul] at this;omega
 have W3:cur.toList.length=cap * e:=sU sK;have V7:=j4 (P:=X.P) (t:=ty) (off:=z.toNat * e) (n:=e) hw0 (Er X.hT cf) Eb (by rw [sK];omega) (List.all_eq_true.2 gQ.2);generalize hN:cur.toList.take (z.toNat * e) ++ (a.eval x).cells.toList ++ cur.toList.drop (z.toNat * e + e)=N at V7;have hNl:N.length=cap * e:=by grind
 have hNt:N.take (m * e)=(cur.toList.take (m * e)).take (z.toNat * e) ++ (a.eval x).cells.toList ++ (cur.toList.take (m * e)).drop (z.toNat * e + e):=by
  subst hN;rw [List.take_append,List.take_append,List.take_take,List.take_take];have h1:(cur.toList.take (z.toNat * e)).length=z.toNat * e:=by rw [zLenT];omega
  rw [List.length_append,h1,Eb,Nat.min_eq_right (by omega),Nat.min_eq_left (by omega),List.take_of_length_le (l:=(a.eval x).cells.toList) (by rw [Eb];omega),List.drop_take]
 have KN:Em (World.di w g (.cells N.toArray sN (0,0))) E.c E.β ⟨m,sN,e,some (cs.take (z.toNat * e) ++ cs' ++ cs.drop (z.toNat * e + e))⟩ (.slice (some ⟨g,0,none⟩) m cap):=by
  refine .inr ⟨g,cap,_,rfl,du hw0,⟨by simpa using hNl,fun sL KK=>?_⟩,wX,z6,iC,H7⟩;simp only [oI] at KK;subst KK;simp only;have h8:=((RvC.take (z.toNat * e) h6).append hx1).append (RvC.drop (z.toNat * e + e) h6);rw [<- hNt] at h8;have hl8:=h8.1.length;refine ⟨?_,by show RvC E.cl _ (N.toArray.toList.take (m * e));simpa using h8⟩;rw [<- hl8,zLenT,hNl];omega
 obtain ⟨bY,_⟩:=Ck (q':=⟨m,sN,e,some (cs.take (z.toNat * e) ++ cs' ++ cs.drop (z.toNat * e + e))⟩) (w':=World.di w g (.cells N.toArray sN (0,0))) hr1 bd j5 hy rfl rfl rfl (.inl ⟨rfl,rfl⟩) KN (.inl rfl) rfl rfl rfl (by rw [fB];exact aR _) (fun j _ aY=>cG (by
  rintro rfl
  exact aY rfl))
 refine ⟨_,_,?_,bY⟩;simp only [execOp,h2,ht1,Instr.storeAt,Instr.sureAddr,Sem.run_bind,Sem.run_pure,Result.andThen_ok,V7]
end
end Dv
end Go.Proofs.YtgjagnmeonoehaaGreat
set_option maxRecDepth 100000
namespace Go.Proofs.YtgjagnmeonoehaaGreat
open Go Go.RowKit Dv Go.Proofs.Tryz
abbrev zeroV:Val:=.mk 0 0 av []
theorem VD (s:Stp) (p:List Stp):DV.sl 3 (((bf (s :: p)).take (((bf (s :: p)).length:Nat):Int).toNat).drop (1:Int).toNat) none = .sl 3 (bf p) none:=by
 rw [lK,List.take_length];all_goals rfl
end Go.Proofs.YtgjagnmeonoehaaGreat
