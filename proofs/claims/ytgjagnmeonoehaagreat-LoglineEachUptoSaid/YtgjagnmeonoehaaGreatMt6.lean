/- Part 6 of the proof: UTF-8: the document's reckoned, Scalar, Encode; UTF-8: the document's Scalar, Encode; UTF-8, plain: the document's well-formed bytes are the program's; a text's first units; Values that are the same; Which values fit which nodes: plain, as the program finds it and as the document says it; tree's leaf, kids, Fits; tree.Fits; the document's To, Fits; Values as they are written: plain; tree.write, Raw; Paths: data, Step compared with itself; ref09.Begins, Same on the same path; ref25.Step; A lattice, as its readers know it; Leq; joins are the document's; Where steps lead in a plan, and how places are seen, plain; What is seen of values, and where that differs, plain; Reading of values whose numbers are ints, and of arrays of two; What is read of steps, and of steps with a value; How a list that came in is read; How values in a list, and arrays of three ints, that came in are read; UTF-8: the document's begins, left, Decode; Tables of runes; the unit at a place: the program's and the document's; The library's copyCheck of strings.Builder, laid at this program; The library's Builder at this program: what WriteString and String do to memory, exactly; Rules for the evaluator: the library's Builder, written and read; Rules for the evaluator: the library's Builder: WriteByte, WriteString of any text; a call that is handed a Builder; Texts in quotes: plain; numbers in sixteens; Texts in quotes: numbers in sixteens, which runes may steer a terminal; Texts in quotes: short escapes, kinds of runes; Texts in quotes: the unit at a place, as it is written; Texts in quotes: the document's unit; the program's and the document's Quote; Texts in quotes: the program's and the document's Quote; Which values may be what is seen of one, plain; How what is seen of values is written: plain; The library's strings.Repeat, laid at this program by the kit's tool (lay-plain; wip/tools/plain2tpl.py); How values without names are written: the program's and the document's Leaf; The document's Bottom, Right of paths; the program's Right of paths; Rules for the evaluator: String of a Builder that holds nothing; The text of a path, of a row: plain, the program's, the document's; How what is seen of values is written: the program's plain, word, of; What is known of values that are written; how long their texts are: plain. No condition. -/
import Derived.OpenShut
import Derived.Shelf.Strings.OnBuilder
import Derived.Shelf.RegionOpenPlain
import Derived.Lib.Strings
import Derived.Lib.Slices
import Derived.Lib.Walk
import Derived.Lib.Builder
import Derived.Lib.AppendStr
import Derived.Lib.UnsafeStr
import Derived.WalkKit
import Derived.Laws.Externs
import Derived.Lib.Hide
import Derived.Shelf.Strings.Repeat
import Derived.Test.YtgjagnmeonoehaaGreatMt2
import Derived.Test.YtgjagnmeonoehaaGreatMt3
import Derived.Test.YtgjagnmeonoehaaGreatMt4
import Derived.Test.YtgjagnmeonoehaaGreatMt5
set_option linter.all false
set_option maxRecDepth 100000
namespace Go.Proofs.YtgjagnmeonoehaaGreat
open Go Go.RowKit Dv Go.Proofs.Tryz
def recC (l:List UInt8) (e j:Nat):Int:=if j < e then ((l.getD j 0).toNat:Int) - 128 else 0
abbrev DW (l:List UInt8) (e:Nat):List DV:=[.v (.int .i64 (recC l e 0)),.v (.int .i64 (recC l e 1)),.v (.int .i64 (recC l e 2)),.v (.int .i64 (recC l e 3))]
abbrev ZO (s:ByteArray) (e:Nat):St:=⟨[(0,⟨[],.v (.string s)⟩),aw 3 0,ap 4 e],[DW (tx s) e],[]⟩
theorem N6 (l:List UInt8) (e:Nat) (h:e < 4) (z:Int) (hz:z=((l.getD e 0).toNat:Int) - 128):(DW l e).set e (.v (.int .i64 z))=DW l (e + 1):=by
 subst hz;have c:e=0∨e=1∨e=2∨e=3:=by omega
 rcases c with rfl | rfl | rfl | rfl<;>simp [DW,recC]
theorem I4 {n m:Nat} {tk:List TkE} {l:List DV} {bs:List UInt8} {e:Nat} (h:l=DW bs e):WeL n m tk l (DW bs e):=by
 subst h;exact ⟨_,_,rfl,we_rfl rfl,_,_,rfl,we_rfl rfl,_,_,rfl,we_rfl rfl,_,_,rfl,we_rfl rfl,rfl⟩
theorem rec_1 (a:UInt8):IntKind.i64.wrap (((a.toNat:Int) - 128) + 128)=recV [a]:=by
 have ga:=a.toNat_lt
 grind [recV,wrap64]
theorem rec_2 (a b:UInt8):IntKind.i64.wrap (IntKind.i64.wrap (IntKind.i64.wrap (((a.toNat:Int) - 128) - 64) * 64) + ((b.toNat:Int) - 128))=recV [a,b]:=by
 have ga:=a.toNat_lt;have gb:=b.toNat_lt
 grind [recV,wrap64]
theorem rec_3 (a b c:UInt8):IntKind.i64.wrap (IntKind.i64.wrap (IntKind.i64.wrap (IntKind.i64.wrap (((a.toNat:Int) - 128) - 96) * 4096) + IntKind.i64.wrap (((b.toNat:Int) - 128) * 64)) + ((c.toNat:Int) - 128))=recV [a,b,c]:=by
 have ga:=a.toNat_lt;have gb:=b.toNat_lt;have gc:=c.toNat_lt
 grind [recV,wrap64]
theorem rec_4 (a b c d:UInt8):IntKind.i64.wrap (IntKind.i64.wrap (IntKind.i64.wrap (IntKind.i64.wrap (IntKind.i64.wrap (((a.toNat:Int) - 128) - 112) * 262144) + IntKind.i64.wrap (((b.toNat:Int) - 128) * 4096)) + IntKind.i64.wrap (((c.toNat:Int) - 128) * 64)) + ((d.toNat:Int) - 128))=recV [a,b,c,d]:=by
 have ga:=a.toNat_lt;have gb:=b.toNat_lt;have gc:=c.toNat_lt;have gd:=d.toNat_lt
 grind [recV,wrap64]
theorem oZ (s:ByteArray) (h:1<=s.size/\s.size<=4):EvP prog 330 [.v (.string s)] (.v (.int .i64 (recV (tx s)))):=by
 have eN:=bf s;refine eG 63 [.tmp 2] func330 rfl ntmps330 rfl fun _ _ _ _=>?_;refine lJ (fun e=>ZO s e) s.size (wkB 1 tH jT) ?_;intro e he;refine br ?_ ?_<;>intro hL
 ·have al:e < s.size:=by have:=of_decide_eq_true hL;omega
  refine ⟨⟨by omega,by omega⟩,?_⟩;refine ⟨⟨by omega,by omega⟩,?_⟩;have hb:dn s e=((tx s).getD e 0).toNat:=rfl
  have hz:IntKind.i64.wrap (IntKind.i64.wrap (dn s ((e:Int).toNat):Nat) - 128)=(((tx s).getD e 0).toNat:Int) - 128:=by
   have h1:=((tx s).getD e 0).toNat_lt;have h2:dn s ((e:Int).toNat)=((tx s).getD e 0).toNat:=rfl;rw [h2,wrap64 (n:=(((tx s).getD e 0).toNat:Int)) (by omega) (by omega)];exact wrap64 (by omega) (by omega)
  have cx:(DW (tx s) e).set (0 + (e:Int).toNat * 1) (.v (.int .i64 (IntKind.i64.wrap (IntKind.i64.wrap (dn s ((e:Int).toNat):Nat) - 128))))=DW (tx s) (e + 1):=by grind [N6]
  refine ⟨by simp;omega,?_⟩;exact rE ⟨_,by omega,e + 1,rfl,by omega,rfl⟩ (wkB 1 (by repeat' (first | exact rfl | exact we_rfl rfl | exact I4 cx | exact we_int (nxt al (by omega)) | refine ⟨_,_,rfl,?_,?_⟩)) (by repeat' (first | exact trivial | exact we_rfl rfl | exact I4 cx | exact we_int (nxt al (by omega)) | refine ⟨⟨_,rfl,?_⟩,?_⟩)))
 ·have aM:e=s.size:=by have:=of_decide_eq_false hL;omega
  subst aM;refine br ?_ ?_<;>intro cn
  ·have cn:s.size=1:=by have:=of_decide_eq_true cn;omega
   obtain ⟨a,hl⟩:∃ a,tx s=[a]:=by
    rw [cn] at eN
    match tx s,eN with
    | [a],_=>exact ⟨a,rfl⟩
   have ha:recC (tx s) s.size 0=(a.toNat:Int) - 128:=by rw [hl,cn];all_goals rfl
   have ga:=a.toNat_lt;refine ⟨⟨by omega,by omega⟩,?_⟩;refine (rb ?_:);rw [ha,hl];exact rec_1 a
  have c1:¬ s.size=1:=by have:=of_decide_eq_false cn;omega
  refine br ?_ ?_<;>intro cn
  ·have cn:s.size=2:=by have:=of_decide_eq_true cn;omega
   obtain ⟨a,b,hl⟩:∃ a b,tx s=[a,b]:=by
    rw [cn] at eN
    match tx s,eN with
    | [a,b],_=>exact ⟨a,b,rfl⟩
   have ha:recC (tx s) s.size 0=(a.toNat:Int) - 128:=by rw [hl,cn];all_goals rfl
   have ga:=a.toNat_lt;have hb:recC (tx s) s.size 1=(b.toNat:Int) - 128:=by rw [hl,cn];all_goals rfl
   have gb:=b.toNat_lt;refine ⟨⟨by omega,by omega⟩,?_⟩;refine ⟨⟨by omega,by omega⟩,?_⟩;refine (rb ?_:);rw [ha,hb,hl];exact rec_2 a b
  have c2:¬ s.size=2:=by have:=of_decide_eq_false cn;omega
  refine br ?_ ?_<;>intro cn
  ·have cn:s.size=3:=by have:=of_decide_eq_true cn;omega
   obtain ⟨a,b,c,hl⟩:∃ a b c,tx s=[a,b,c]:=by
    rw [cn] at eN
    match tx s,eN with
    | [a,b,c],_=>exact ⟨a,b,c,rfl⟩
   have ha:recC (tx s) s.size 0=(a.toNat:Int) - 128:=by rw [hl,cn];all_goals rfl
   have ga:=a.toNat_lt;have hb:recC (tx s) s.size 1=(b.toNat:Int) - 128:=by rw [hl,cn];all_goals rfl
   have gb:=b.toNat_lt;have hc:recC (tx s) s.size 2=(c.toNat:Int) - 128:=by rw [hl,cn];all_goals rfl
   have gc:=c.toNat_lt;refine ⟨⟨by omega,by omega⟩,?_⟩;refine ⟨⟨by omega,by omega⟩,?_⟩;refine ⟨⟨by omega,by omega⟩,?_⟩;refine (rb ?_:);rw [ha,hb,hc,hl];exact rec_3 a b c
  have c3:¬ s.size=3:=by have:=of_decide_eq_false cn;omega
  have cn:s.size=4:=by omega
  obtain ⟨a,b,c,d,hl⟩:∃ a b c d,tx s=[a,b,c,d]:=by
   rw [cn] at eN
   match tx s,eN with
   | [a,b,c,d],_=>exact ⟨a,b,c,d,rfl⟩
  have ha:recC (tx s) s.size 0=(a.toNat:Int) - 128:=by rw [hl,cn];all_goals rfl
  have ga:=a.toNat_lt;have hb:recC (tx s) s.size 1=(b.toNat:Int) - 128:=by rw [hl,cn];all_goals rfl
  have gb:=b.toNat_lt;have hc:recC (tx s) s.size 2=(c.toNat:Int) - 128:=by rw [hl,cn];all_goals rfl
  have gc:=c.toNat_lt;have hd:recC (tx s) s.size 3=(d.toNat:Int) - 128:=by rw [hl,cn];all_goals rfl
  have gd:=d.toNat_lt;refine ⟨⟨by omega,by omega⟩,?_⟩;refine ⟨⟨by omega,by omega⟩,?_⟩;refine ⟨⟨by omega,by omega⟩,?_⟩;refine ⟨⟨by omega,by omega⟩,?_⟩;refine (rb ?_:);rw [ha,hb,hc,hd,hl];exact rec_4 a b c d
def kW (z:Int):Bool:=decide (0<=z) && decide (z<=1114111) && (decide (z < 55296) || decide (57343 < z))
theorem sQ (z:Int):EvP prog 331 [.v (.int .i32 z)] (.v (.bool (kW z))):=by
 refine eG 17 [.tmp 2] func331 rfl ntmps331 rfl fun _ _ _ _=>?_;refine (bH ?_:);simp only [pickB_and,ak,kW]
def yi (n:Nat):List UInt8:=
 if n < 128 then [UInt8.ofNat n] else if n < 2048 then [UInt8.ofNat (192 + n / 64),UInt8.ofNat (128 + n % 64)]
 else if n < 65536 then [UInt8.ofNat (224 + n / 4096),UInt8.ofNat (128 + n / 64 % 64),UInt8.ofNat (128 + n % 64)]
 else [UInt8.ofNat (240 + n / 262144),UInt8.ofNat (128 + n / 4096 % 64),UInt8.ofNat (128 + n / 64 % 64),UInt8.ofNat (128 + n % 64)]
def DX (z:Int):List UInt8:=if kW z=true then yi z.toNat else []
theorem b8 {x:Int} {k:Nat} (hx:x=k) (hk:k < 256):IntKind.u8.wrap x=((UInt8.ofNat k).toNat:Int):=by
 rw [hx,UInt8.toNat_ofNat',IntKind.wrap_u8'];omega
theorem UR {n k:Nat} (hn:n<=1114111):IntKind.i64.wrap ((n:Int).tdiv (k:Int))=((n / k:Nat):Int):=by
 rw [Int.tdiv_eq_ediv_of_nonneg (by omega),<- Int.natCast_ediv];have:=Nat.div_le_self n k
 grind [wrap64]
theorem N7 {n:Nat} (hn:n<=1114111):IntKind.i64.wrap ((n:Int).tdiv 64)=((n / 64:Nat):Int):=UR hn
theorem I5 {n:Nat} (hn:n<=1114111):IntKind.i64.wrap ((n:Int).tdiv 4096)=((n / 4096:Nat):Int):=UR hn
theorem KE {n:Nat} (hn:n<=1114111):IntKind.i64.wrap ((n:Int).tdiv 262144)=((n / 262144:Nat):Int):=UR hn
theorem wT (z:Int):EvP prog 332 [.v (.int .i32 z)] (.v (.string (ba (DX z)))):=by
 have hs:=sQ z;have hE:DX z=if kW z=true then yi z.toNat else []:=rfl
 have hB:kW z=(decide (0<=z) && decide (z<=1114111) && (decide (z < 55296) || decide (57343 < z))):=rfl;generalize DX z=E at hE ⊢;generalize kW z=B at hs hE hB;refine eG 64 [.tmp 2] func332 rfl ntmps332 rfl fun _ _ _ _=>?_;refine cP RN hs ?_
 cases B with
 | false=>
  rw [ai (by simp)] at hE;subst hE;exact (rfl:_=_)
 | true=>
  rw [aj rfl] at hE;have hB:=hB.symm;simp at hB;obtain ⟨n,rfl⟩:∃ n:Nat,z=n:=⟨z.toNat,by omega⟩;rw [jU] at hE;have hn:n<=1114111:=by omega
  have oe:IntKind.i64.wrap (n:Int)=n:=wrap64 (by omega) (by omega);unfold yi at hE;refine br ?_ ?_<;>intro c
  ·have c:n < 128:=by have:=of_decide_eq_true c;omega
   rw [aj c] at hE;refine ⟨[UInt8.ofNat (n)],?_,?_⟩
   ·grind [u8L,b8]
   ·rw [hE];exact (rfl:_=_)
  have c1:¬ n < 128:=by have:=of_decide_eq_false c;omega
  rw [ai c1] at hE;refine br ?_ ?_<;>intro c
  ·have c:n < 2048:=by have:=of_decide_eq_true c;omega
   rw [aj c] at hE;refine ⟨⟨rfl,by decide⟩,?_⟩;refine ⟨⟨rfl,by decide⟩,?_⟩;refine ⟨[UInt8.ofNat (192 + n / 64),UInt8.ofNat (128 + n % 64)],?_,?_⟩
   ·grind [u8L,b8,N7,wrap64]
   ·rw [hE];exact (rfl:_=_)
  have c2:¬ n < 2048:=by have:=of_decide_eq_false c;omega
  rw [ai c2] at hE;refine br ?_ ?_<;>intro c
  ·have c:n < 65536:=by have:=of_decide_eq_true c;omega
   rw [aj c] at hE;refine ⟨⟨rfl,by decide⟩,?_⟩;refine ⟨⟨rfl,by decide⟩,?_⟩;refine ⟨⟨rfl,by decide⟩,?_⟩;refine ⟨⟨rfl,by decide⟩,?_⟩;refine ⟨[UInt8.ofNat (224 + n / 4096),UInt8.ofNat (128 + n / 64 % 64),UInt8.ofNat (128 + n % 64)],?_,?_⟩
   ·grind [u8L,b8,I5,wrap64,N7]
   ·rw [hE];exact (rfl:_=_)
  have c3:¬ n < 65536:=by have:=of_decide_eq_false c;omega
  rw [ai c3] at hE;refine ⟨⟨rfl,by decide⟩,?_⟩;refine ⟨⟨rfl,by decide⟩,?_⟩;refine ⟨⟨rfl,by decide⟩,?_⟩;refine ⟨⟨rfl,by decide⟩,?_⟩;refine ⟨⟨rfl,by decide⟩,?_⟩;refine ⟨⟨rfl,by decide⟩,?_⟩;refine ⟨[UInt8.ofNat (240 + n / 262144),UInt8.ofNat (128 + n / 4096 % 64),UInt8.ofNat (128 + n / 64 % 64),UInt8.ofNat (128 + n % 64)],?_,?_⟩
  ·simp only [List.flatten_cons,List.flatten_nil,List.append_nil,List.cons_append,List.nil_append,u8L,List.cons.injEq,and_true,DV.v.injEq,Value.int.injEq,true_and];refine ⟨?_,?_,?_,?_⟩
   ·grind [b8,KE,wrap64]
   ·grind [b8,I5,wrap64]
   ·grind [b8,N7,wrap64]
   ·grind [b8,wrap64]
  ·rw [hE];exact (rfl:_=_)
theorem qw (c:UInt8) (r:List UInt8):okU (c :: r)=(decide (1<=aE c.toNat) && allC c.toNat r (aE c.toNat - 1)):=rfl
def SG (l:List UInt8):Bool:=kW (recV l) && decide (DX (recV l)=l)
theorem ke {k:Nat} {a:UInt8} (hk:k < 256):UInt8.ofNat k=a↔k=a.toNat:=by
 constructor
 ·rintro rfl;rw [UInt8.toNat_ofNat'];omega
 ·rintro rfl;exact UInt8.ofNat_toNat
theorem qx (l:List UInt8) {v:Int} (hv:recV l=v):SG l=true↔(0<=v/\v<=1114111/\(v < 55296∨57343 < v))/\yi v.toNat=l:=by grind [SG,DX,kW,recV]
theorem kX (c:Nat):(c=224/\gN c=160)∨(c=240/\gN c=144)∨(c≠224/\c≠240/\gN c=128):=by
 unfold gN
 repeat' split
 all_goals omega
theorem kY (c:Nat):(c=237/\gO c=159)∨(c=244/\gO c=143)∨(c≠237/\c≠244/\gO c=191):=by
 unfold gO
 repeat' split
 all_goals omega
theorem contB_0 (c b:Nat):iN c 0 b=true↔gN c<=b/\b<=gO c:=by grind [iN]
theorem qy (c k b:Nat):iN c (k + 1) b=true↔128<=b/\b<=191:=by grind [iN]
theorem allC_1 (c:Nat) (b:UInt8) (r:List UInt8):allC c (b :: r) 1=iN c 0 b.toNat:=by simp [allC,List.range_succ]
theorem allC_2 (c:Nat) (b d:UInt8) (r:List UInt8):allC c (b :: d :: r) 2=(iN c 0 b.toNat && iN c 1 d.toNat):=by simp [allC,List.range_succ]
theorem allC_3 (c:Nat) (b d e:UInt8) (r:List UInt8):allC c (b :: d :: e :: r) 3=(iN c 0 b.toNat && iN c 1 d.toNat && iN c 2 e.toNat):=by simp [allC,List.range_succ,Bool.and_assoc]
theorem lead_1 (a:Nat):aE a=1↔a < 128:=by
 unfold aE;repeat' split
 all_goals omega
theorem lead_2 (a:Nat):aE a=2↔194<=a/\a<=223:=by
 unfold aE;repeat' split
 all_goals omega
theorem lead_3 (a:Nat):aE a=3↔224<=a/\a<=239:=by
 unfold aE;repeat' split
 all_goals omega
theorem lead_4 (a:Nat):aE a=4↔240<=a/\a<=244:=by
 unfold aE;repeat' split
 all_goals omega
theorem wf_1 (a:UInt8) (r:List UInt8):SG [a]=true↔okU (a :: r)=true/\aE a.toNat=1:=by
 have ha:=a.toNat_lt;rw [qx _ (v:=(a.toNat:Int)) rfl];rw [jU];unfold yi;rw [qw];constructor
 ·intro ⟨h1,h2⟩;have:a.toNat < 128:=by grind
  have:=(lead_1 _).2 this;rw [this];exact ⟨rfl,rfl⟩
 ·intro ⟨_,h2⟩;have h2:=(lead_1 _).1 h2;rw [aj h2];exact ⟨by omega,by rw [UInt8.ofNat_toNat]⟩
theorem wf_2 (a b:UInt8) (r:List UInt8):SG [a,b]=true↔okU (a :: b :: r)=true/\aE a.toNat=2:=by
 have ha:=a.toNat_lt;have hb:=b.toNat_lt;rw [qx _ (v:=((a.toNat:Int) - 192) * 64 + ((b.toNat:Int) - 128)) rfl];unfold yi;rw [qw];constructor
 ·grind [ke,lead_2,allC,allC_1,contB_0,kX,kY]
 ·intro ⟨h1,h2⟩;rw [h2] at h1;have h1:(true && allC _ _ 1)=true:=h1;rw [Bool.true_and,allC_1,contB_0] at h1;have hL:=kX a.toNat;have hH:=kY a.toNat
  grind [lead_2,ke]
theorem wf_3 (a b c:UInt8) (r:List UInt8):SG [a,b,c]=true↔okU (a :: b :: c :: r)=true/\aE a.toNat=3:=by
 have ha:=a.toNat_lt;have hb:=b.toNat_lt;have hc:=c.toNat_lt;rw [qx _ (v:=((a.toNat:Int) - 224) * 4096 + ((b.toNat:Int) - 128) * 64 + ((c.toNat:Int) - 128)) rfl];unfold yi;rw [qw];constructor
 ·intro ⟨h1,h2⟩;generalize hn:((((a.toNat:Int) - 224) * 4096 + ((b.toNat:Int) - 128) * 64 + ((c.toNat:Int) - 128))).toNat=n at h2
  repeat' split at h2
  any_goals (simp at h2;done)
  simp only [List.cons.injEq,and_true] at h2;rw [ke (by omega),ke (by omega),ke (by omega)] at h2
  grind [lead_3,allC,allC_2,contB_0,qy,kX,kY]
 ·intro ⟨h1,h2⟩;rw [h2] at h1;have h1:(true && allC _ _ 2)=true:=h1;rw [Bool.true_and,allC_2,aO,contB_0,qy _ 0] at h1;have hL:=kX a.toNat;have hH:=kY a.toNat;have h2:=(lead_3 _).1 h2;rw [ai (by omega),ai (by omega),aj (by omega)];simp only [List.cons.injEq,and_true]
  grind [ke]
theorem wf_4 (a b c d:UInt8) (r:List UInt8):SG [a,b,c,d]=true↔okU (a :: b :: c :: d :: r)=true/\aE a.toNat=4:=by
 have ha:=a.toNat_lt;have hb:=b.toNat_lt;have hc:=c.toNat_lt;have hd:=d.toNat_lt;rw [qx _ (v:=((a.toNat:Int) - 240) * 262144 + ((b.toNat:Int) - 128) * 4096 + ((c.toNat:Int) - 128) * 64 + ((d.toNat:Int) - 128)) rfl];unfold yi;rw [qw];constructor
 ·intro ⟨h1,h2⟩;generalize hn:((((a.toNat:Int) - 240) * 262144 + ((b.toNat:Int) - 128) * 4096 + ((c.toNat:Int) - 128) * 64 + ((d.toNat:Int) - 128))).toNat=n at h2
  repeat' split at h2
  any_goals (simp at h2;done)
  simp only [List.cons.injEq,and_true] at h2;rw [ke (by omega),ke (by omega),ke (by omega),ke (by omega)] at h2
  grind [lead_4,allC,allC_3,contB_0,qy,kX,kY]
 ·intro ⟨h1,h2⟩;rw [h2] at h1;have h1:(true && allC _ _ 3)=true:=h1;rw [Bool.true_and,allC_3,aO,aO,contB_0,qy _ 0,qy _ 1] at h1;have hL:=kX a.toNat;have hH:=kY a.toNat;have h2:=(lead_4 _).1 h2;rw [ai (by omega),ai (by omega),ai (by omega)];simp only [List.cons.injEq,and_true];rw [ke (by omega),ke (by omega),ke (by omega),ke (by omega)];omega
theorem qz (a:Nat):aE a<=4:=by
 unfold aE;repeat' split
 all_goals omega
theorem l7 {l:List UInt8} (h:okU l=true):∃ c r,l=c :: r/\1<=aE c.toNat/\aE c.toNat<=l.length/\gf l=aE c.toNat:=by
 cases l with
 | nil=>cases h
 | cons c r=>
  refine ⟨c,r,rfl,?_,?_,?_⟩
  ·grind [okU]
  ·have h0:=h;unfold okU at h;rw [aO] at h;rcases Nat.lt_or_ge r.length (aE c.toNat - 1) with g | g
   ·have h2:=h.2;unfold allC at h2;rw [List.all_eq_true] at h2;have:=h2 r.length (List.mem_range.2 g)
    grind
   ·rw [List.length_cons];omega
  ·show (if _ then _ else _)=_;rw [aj h]
theorem QJ (c:UInt8) (r:List UInt8) (n:Nat) (h1:1<=n) (h4:n<=4) (hl:n<=r.length + 1):SG ((c :: r).take n)=(okU (c :: r) && decide (aE c.toNat=n)):=by
 apply Bool.eq_iff_iff.2;rw [aO,decide_eq_true_iff]
 match n,h1,h4,hl with
 | 1,_,_,_=>exact wf_1 c r
 | 2,_,_,h=>match r,h with
  | b :: r,_=>exact wf_2 c b r
 | 3,_,_,h=>match r,h with
  | b :: d :: r,_=>exact wf_3 c b d r
 | 4,_,_,h=>match r,h with
  | b :: d :: e :: r,_=>exact wf_4 c b d e r
theorem kf {l:List UInt8} (h:l ≠ []):1<=gf l/\gf l<=l.length:=by
 cases l with
 | nil=>exact absurd rfl h
 | cons c r=>
  show 1<=(if _ then _ else _)/\(if _ then _ else _)<=_
  grind [l7]
theorem sR {a b:List UInt8} (hb:2<=gf b) (h:a.take (gf b)=b.take (gf b)):gf a=gf b:=by
 have bu:okU b=true:=by
  cases b with
  | nil=>exact absurd hb (by decide)
  | cons c r=>grind [okU,gf]
 obtain ⟨c,r,rfl,h1,h2,h3⟩:=l7 bu;rw [h3] at h ⊢
 have hl:aE c.toNat<=a.length:=by
  have:=congrArg List.length h
  grind
 have hw:=QJ c r (aE c.toNat) h1 (qz _) h2;rw [bu,decide_eq_true rfl,<- h] at hw
 cases a with
 | nil=>exact absurd hl (by rw [List.length_nil];omega)
 | cons d s=>
  rw [QJ d s (aE c.toNat) h1 (qz _) hl] at hw;rw [Bool.true_and,aO,decide_eq_true_iff] at hw;show (if _ then _ else _)=_;rw [aj hw.1];exact hw.2
def headL:Nat->List UInt8->List UInt8
 | 0,_=>[]
 | u + 1,l=>l.take (gf l) ++ headL u (l.drop (gf l))
theorem sc (u:Nat):headL u []=[]:=by
 induction u with
 | zero=>rfl
 | succ u ih=>show [].take _ ++ headL u ([].drop _)=[];rw [List.take_nil,List.drop_nil,ih];all_goals rfl
theorem zN (u:Nat) (l:List UInt8):headL u l <+: l:=by
 induction u generalizing l with
 | zero=>exact List.nil_prefix
 | succ u ih=>
  obtain ⟨t,ht⟩:=ih (l.drop (gf l));refine ⟨t,?_⟩;show (_ ++ _) ++ t=l
  simp_all
def oA (n:Nd) (v:Val):Bool:=
 if 0 < v.ks.length∨(v.k≠3/\v.s≠emptyB)∨(v.k=3/\v.n≠0) then false
 else if n.ag=1 then decide (v.k=1) && (decide (v.n=0) || decide (v.n=1))
 else if n.ag=2 then decide (v.k=2) && decide (n.lo<=v.n) && decide (v.n<=n.hi)
 else if n.ag=3 then decide (v.k=3) && decide ((v.s.size:Int)<=n.most)
 else decide (v.k=4) && decide (0<=v.n) && decide (v.n < n.af.length)
def dN (v:Val):Bool:=decide (v.s=emptyB) && (decide (v.n=0) || decide (v.k=8))
def to0 (n:Nd):Int:=match n.aq[0]? with | some e=>e.to | none=>0
def qA (n:Nd) (v:Val):Option Ed:=if v.k=8/\0<=v.n/\v.n < n.aq.length then n.aq[v.n.toNat]? else none
def kidsL (n:Nd) (v:Val):List Int:=
 if n.ag=5∨n.ag=6 then List.replicate v.ks.length (to0 n)
 else if n.ag=7 then n.aq.map Ed.to
 else match qA n v with | none=>[] | some e=>if e.bare=true then [] else [e.to]
def cY (n:Nd) (v:Val):Bool:=
 if n.ag=5∨n.ag=6 then dN v && decide (v.k=n.ag) && decide ((v.ks.length:Int)<=if n.ag=6 then 1 else n.most)
 else if n.ag=7 then dN v && decide (v.k=7) && decide (n.aq.length=v.ks.length)
 else match qA n v with | none=>false | some _=>dN v && decide ((kidsL n v).length=v.ks.length)
def cm (ND:List Nd) (i:Int):Option Nd:=if i < 0 then none else ND[i.toNat]?
mutual
def fitV (ND:List Nd):Val->Int->Bool
 | .mk k n s ks,i=>match cm ND i with
  | none=>false
  | some d=>if d.ag < 5 then oA d (.mk k n s ks) else cY d (.mk k n s ks) && fitVs ND ks (kidsL d (.mk k n s ks))
def fitVs (ND:List Nd):List Val->List Int->Bool
 | v :: r,i :: l=>fitV ND v i && fitVs ND r l
 | _,_=>true
end
def wU (n:Nd) (v:Val) (j:Nat):Int:=
 if n.ag=5 then (if (j:Int) < n.most then to0 n else -1)
 else if n.ag=6 then (if j < 1 then to0 n else -1)
 else if n.ag=7 then (match n.aq[j]? with | some e=>e.to | none=>-1)
 else if n.ag=8 then (if j < 1/\0<=v.n/\v.n < n.aq.length then (match n.aq[v.n.toNat]? with | some e=>e.to | none=>-1) else -1)
 else -1
def Bj (n:Nd) (v:Val):Bool:=decide (v.k≠n.ag) || (decide (v.k≠3) && decide (v.s≠emptyB)) || (decide (0 < v.s.size) && decide (n.most < (v.s.size:Int)))
def I6 (n:Nd) (v:Val):Bool:=
 if n.ag=1 then decide (v.n=0) || decide (v.n=1)
 else if n.ag=2 then decide (n.lo<=v.n) && decide (v.n<=n.hi)
 else if n.ag=4 then decide (0<=v.n) && decide (v.n < n.af.length)
 else if n.ag=7 then decide (v.n=0) && decide (v.ks.length=n.aq.length)
 else if n.ag=8 then (if 0<=v.n/\v.n < n.aq.length then (match n.aq[v.n.toNat]? with | some e=>decide (decide (v.ks.length=0)=e.bare) | none=>false) else false)
 else decide (v.n=0)
mutual
def wV (ND:List Nd):Val->Int->Bool
 | .mk k n s ks,i=>match cm ND i with
  | none=>false
  | some d=>if Bj d (.mk k n s ks)=true then false else I6 d (.mk k n s ks) && refVs ND ks (wU d (.mk k n s ks)) 0
def refVs (ND:List Nd):List Val->(Nat->Int)->Nat->Bool
 | [],_,_=>true
 | v :: r,f,j=>wV ND v (f j) && refVs ND r f (j + 1)
end
theorem zO (ND:List Nd) (v:Val):wV ND v (-1)=false:=by
 obtain ⟨k,n,s,ks⟩:=v;rw [wV];rfl
theorem GN {ND:List Nd}:∀ {ks:List Val} {f:Nat->Int} {j:Nat},f j = -1->refVs ND ks f j=decide (ks=[])
 | [],f,j,h=>by simp [refVs]
 | v :: r,f,j,h=>by rw [refVs,h,zO];simp
theorem nk {ND:List Nd}:∀ {ks:List Val} {f:Nat->Int} {l:List Int} {j:Nat},(∀ v∈ks,∀ i,fitV ND v i=wV ND v i)->l.length=ks.length->(∀ e i,l[e]? = some i->f (j + e)=i)->refVs ND ks f j=fitVs ND ks l
 | [],f,[],j,_,_,_=>by simp [refVs,fitVs]
 | v :: r,f,i :: l,j,ih,hl,h=>by
  have h0:=h 0 i rfl;rw [Nat.add_zero] at h0
  rw [refVs,fitVs,h0,ih v (by simp) i,nk (fun x hx=>ih x (by simp [hx])) (sU hl) fun e i' he=>by
   have:=h (e + 1) i' (sU he)
   rwa [show j + 1 + e=j + (e + 1) by omega]]
 | [],f,_ :: _,j,_,hl,_=>by simp at hl
 | _ :: _,f,[],j,_,hl,_=>by simp at hl
theorem nX {ND:List Nd}:∀ {ks:List Val} {f:Nat->Int} {j m:Nat},j<=m->f m = -1->m < j + ks.length->refVs ND ks f j=false
 | [],f,j,m,h1,_,h3=>by simp at h3;omega
 | v :: r,f,j,m,h1,h2,h3=>by
  rw [refVs];by_cases h:j=m
  ·subst h;rw [h2,zO];all_goals rfl
  ·rw [nX (m:=m) (by omega) h2 (by simp at h3;omega),Bool.and_false]
theorem N8 {L:Nat} {ND:List Nd} {d:Nd} (hd:dB L ND.length d) (v:Val) (ih:∀ x∈v.ks,∀ i,fitV ND x i=wV ND x i) :
  (if d.ag < 5 then oA d v else cY d v && fitVs ND v.ks (kidsL d v))=if Bj d v=true then false else I6 d v && refVs ND v.ks (wU d v) 0:=by
 have oi:=hd.k1;have GO:=hd.k8;have he:(emptyB:ByteArray).size=0:=rfl;have hse:v.s=emptyB->v.s.size=0:=fun h=>by rw [h];all_goals rfl
 by_cases h5:d.ag < 5
 ·rw [aj h5];have ox:wU d v 0 = -1:=by grind [wU]
  rw [GN ox];unfold oA Bj I6;have hif:∀ (P:Prop) [Decidable P] (b:Bool),(if P then false else b)=(!decide P && b):=fun P _ b=>by split<;>simp_all
  have zP:(0 < v.ks.length)↔v.ks ≠ []:=List.length_pos_iff;have hif2:∀ (P b:Bool),(if P=true then false else b)=(!P && b):=fun P b=>by cases P<;>rfl
  rw [hif2,hif];have hm3:=hd.Sz
  grind
 rw [ai h5];rcases Decidable.em (¬ v.k=d.ag) with ZP | ZP
 ·grind [Bj,cY,qA]
 have ZP:v.k=d.ag:=Decidable.not_not.1 ZP;rcases Decidable.em (¬ v.s=emptyB) with hs | hs
 ·grind [Bj,dN,cY]
 have hs:v.s=emptyB:=Decidable.not_not.1 hs
 have hb:Bj d v=false:=by
  have:=hse hs;simp [Bj,ZP,hs,he]
 rw [ai (by rw [hb];simp)];by_cases c5:d.ag=5
 ·have hm:=hd.SA c5;have bu:I6 d v=decide (v.n=0):=by grind [I6]
  have PM:cY d v=(decide (v.n=0) && decide ((v.ks.length:Int)<=d.most)):=by grind [cY,dN]
  have iT:kidsL d v=List.replicate v.ks.length (to0 d):=by unfold kidsL;rw [aj (.inl c5)]
  rw [bu,PM,iT];by_cases fW:(v.ks.length:Int)<=d.most
  ·grind [nk,to0,wU]
  ·rw [nX (m:=d.most.toNat) (by omega) (by unfold wU;rw [aj c5,ai (by omega)]) (by omega)];simp [fW]
 by_cases c6:d.ag=6
 ·have bu:I6 d v=decide (v.n=0):=by grind [I6]
  have PM:cY d v=(decide (v.n=0) && decide (v.ks.length<=1)):=by grind [cY,dN]
  have iT:kidsL d v=List.replicate v.ks.length (to0 d):=by unfold kidsL;rw [aj (.inr c6)]
  rw [bu,PM,iT];by_cases fW:v.ks.length<=1
  ·grind [nk,to0,wU]
  ·rw [nX (m:=1) (by omega) (by unfold wU;rw [ai c5,aj c6,ai (by omega)]) (by omega)];simp [fW]
 by_cases c7:d.ag=7
 ·grind [I6,cY,dN,kidsL,nk,wU]
 have c8:d.ag=8:=by omega
 have bu:I6 d v=(if 0<=v.n/\v.n < d.aq.length then (match d.aq[v.n.toNat]? with | some e=>decide (decide (v.ks.length=0)=e.bare) | none=>false) else false):=by grind [I6]
 rcases Decidable.em (¬ (0<=v.n/\v.n < d.aq.length)) with hr | hr
 ·grind [qA,cY]
 have hr:0<=v.n/\v.n < d.aq.length:=Decidable.not_not.1 hr;obtain ⟨e,hx⟩:∃ e,d.aq[v.n.toNat]? = some e:=⟨_,gE (by omega)⟩;have ht:qA d v=some e:=by unfold qA;rw [aj ⟨by omega,hr⟩,hx]
 have iT:kidsL d v=if e.bare=true then [] else [e.to]:=by unfold kidsL;rw [ai (by omega),ai c7,ht]
 have PM:cY d v=decide ((kidsL d v).length=v.ks.length):=by grind [cY,dN]
 have htr:∀ j,wU d v j=if j < 1 then e.to else -1:=fun j=>by grind [wU]
 rw [PM,bu,aj hr,hx,iT];simp only
 cases ZQ:e.bare with
 | true=>grind [fitVs,refVs]
 | false=>
  simp only [Bool.false_eq_true,if_false];by_cases hl:v.ks.length=1
  ·grind [nk]
  ·have h1:¬ ([e.to]:List Int).length=v.ks.length:=by simpa using fun h=>hl h.symm
   by_cases hz:v.ks.length=0
   ·simp [hz]
   ·rw [nX (m:=1) (by omega) (by rw [htr];simp) (by omega)]
    grind
mutual
theorem N9 {L:Nat} {ND:List Nd} (bu:∀ n∈ND,dB L ND.length n):∀ (v:Val) (i:Int),fitV ND v i=wV ND v i
 | .mk k n s ks,i=>by
  have ih:=I7 bu ks;rw [fitV,wV];unfold cm;split
  ·rfl
  ·rename_i h;split at h
   ·cases h
   ·exact N8 (bu _ (mG h)) (.mk k n s ks) ih
theorem I7 {L:Nat} {ND:List Nd} (bu:∀ n∈ND,dB L ND.length n):∀ (ks:List Val),∀ x∈ks,∀ i:Int,fitV ND x i=wV ND x i
 | [],x,hx,_=>by cases hx
 | v :: r,x,hx,i=>by
  rcases dg hx with hx | hx
  ·rw [hx];exact N9 bu v i
  ·exact I7 bu r x hx i
end
def nY (l:List Int):List (List DV):=l.map fun z=>[DV.v (.int .i64 z)]
theorem kg (l:List Int):(nY l).length=l.length:=by simp [nY]
theorem nZ {l:List Int} {i:Nat} {z:Int} (h:l[i]? = some z):(nY l)[i]? = some [DV.v (.int .i64 z)]:=by simp [nY,h]
theorem qB (l:List Int) (z:Int):nY l ++ [[DV.v (.int .i64 z)]]=nY (l ++ [z]):=by simp [nY]
theorem se:(⟨#[]⟩:ByteArray)=emptyB:=rfl
theorem KF (n:Nd) (v:Val):EvP prog 137 [.agg (kN n),.agg (dVal v)] (.v (.bool (oA n v))):=by
 have hbl:=bL n.af;obtain ⟨ag,at',lo,hi,most,af,es⟩:=n;obtain ⟨q,z,s,ks⟩:=v;have dc:=aX ks;simp only at hbl
 have hF:oA ⟨ag,at',lo,hi,most,af,es⟩ (.mk q z s ks)=if 0 < ks.length∨(q≠3/\s≠emptyB)∨(q=3/\z≠0) then false
  else if ag=1 then decide (q=1) && (decide (z=0) || decide (z=1))
  else if ag=2 then decide (q=2) && decide (lo<=z) && decide (z<=hi)
  else if ag=3 then decide (q=3) && decide ((s.size:Int)<=most)
  else decide (q=4) && decide (0<=z) && decide (z < af.length):=rfl
 have hc:∀ b:Bool,b=pickB (pickB (decide (0 < ((dVals ks).length:Int))) true (pickB (!decide (q=3)) (!decide (s=⟨#[]⟩)) false)) true (pickB (decide (q=3)) (!decide (z=0)) false)->b=decide (0 < ks.length∨(q≠3/\s≠emptyB)∨(q=3/\z≠0)):=fun b h=>by grind [se,ak,pickB_and]
 rw [hF];refine eG 94 [.tmp 4] func137 rfl ntmps137 rfl fun _ _ _ _=>?_;refine br ?_ ?_<;>intro c
 ·have c:=of_decide_eq_true ((hc _ rfl).symm.trans c);rw [aj c];exact (rfl:_=_)
 have c:=of_decide_eq_false ((hc _ rfl).symm.trans c);rw [ai c];refine br ?_ ?_<;>intro c1
 ·have c1:ag=1:=sU c1;refine (bH ?_:);simp [c1,pickB_and,ak]
 have c1:¬ ag=1:=sU c1;refine br ?_ ?_<;>intro c2
 ·have c2:ag=2:=sU c2;refine (bH ?_:);simp [c2,pickB_and,ak]
 have c2:¬ ag=2:=sU c2;refine br ?_ ?_<;>intro c3
 ·have c3:ag=3:=sU c3;refine (bH ?_:);simp [c3,pickB_and,ak]
 have c3:¬ ag=3:=sU c3;refine (bH ?_:);simp [c1,c2,c3,pickB_and,ak,hbl]
abbrev SI (n:Nd) (v:Val) (l:List Int) (p:Bool) (kd mo:Int) (q e:Nat):St:=
 ⟨[aw 2 0,aw 3 1,(6,⟨[],.sl 1 (nY l) (some 0)⟩),Ar 7 p,ap 8 kd,ap 9 mo,ap 38 v.ks.length,ap 39 e],[kN n,dVal v],[⟨q,3,1,none⟩]⟩
abbrev ZR (n:Nd) (v:Val) (l:List Int) (p:Bool) (q e:Nat):St:=
 ⟨[aw 2 0,aw 3 1,(6,⟨[],.sl 1 (nY l) (some 0)⟩),Ar 7 p,aU 67 10 (eM n.aq),ap 68 ((eM n.aq).length),ap 69 e],[kN n,dVal v],[⟨q,3,1,none⟩]⟩
theorem kids_spec {L N:Nat} {n:Nd} (hn:dB L N n) (h5:5<=n.ag) (v:Val) (hv:v.wt<=1099511627776) :
  EvP prog 138 [.agg (kN n),.agg (dVal v)] (.tup [.sl 1 (nY (kidsL n v)) none,.v (.bool (cY n v))]):=by
 have GO:=hn.k8;have GP:=hn.one;have sS:=hn.many;obtain ⟨ag,at',lo,hi,most,af,es⟩:=n;obtain ⟨q,z,s,ks⟩:=v;have dc:=aX ks;have mn:=cj es;have iT:=cw ks;rw [Val.wt] at hv;simp only at GO h5 GP sS
 have hp:∀ b:Bool,b=pickB (decide (s=⟨#[]⟩)) (pickB (decide (z=0)) true (decide (q=8))) false->b=dN (.mk q z s ks):=fun b h=>by
  rw [h];rw [pickB_and,ak,se];all_goals rfl
 refine eG 134 [.tmp 4,.tmp 5] func138 rfl ntmps138 rfl fun _ _ _ _=>?_;refine br ?_ ?_<;>intro c
 ·have c:ag=5:=sU c;have US:ag=5∨ag=6:=.inl c;obtain ⟨x,iR,_,_⟩:=GP US;refine br (fun _=>?_) (fun h=>absurd h (by simp [c]));refine dI ?_;refine br (fun h=>absurd h (by simp [c])) (fun _=>?_);obtain ⟨kd,mo,h1,h2,h3,h4⟩:∃ kd mo:Int,5=kd/\most=mo/\kd=ag/\mo=(if ag=6 then 1 else most):=⟨5,most,rfl,rfl,c.symm,by rw [ai (by omega)]⟩;have uL:(eM es)[0]? = some (tQ x):=by rw [iR];all_goals rfl
  have ht0:to0 ⟨ag,at',lo,hi,most,af,es⟩=x.to:=by simp [to0,iR]
  refine lJ (fun e=>SI ⟨ag,at',lo,hi,most,af,es⟩ (.mk q z s ks) (List.replicate e x.to) (dN (.mk q z s ks)) kd mo e e) ks.length (de 2 ⟨0,3,1,none⟩ rfl rfl rfl (by repeat' (first | exact rfl | exact we_rfl rfl | exact bQ (hp _ rfl) | exact we_int h1 | exact we_int h2 | exact we_int (congrArg Nat.cast dc) | exact bN (aJ _) rfl | exact bN (aJ _) rfl | refine ⟨_,_,rfl,?_,?_⟩)) rfl rfl (by repeat' (first | exact trivial | exact we_rfl rfl | exact bQ (hp _ rfl) | exact we_int h1 | exact we_int h2 | exact we_int (congrArg Nat.cast dc) | exact bN (aJ _) rfl | refine ⟨⟨_,rfl,?_⟩,?_⟩))) ?_;intro e he;refine br ?_ ?_<;>intro hL
  ·have al:e < ks.length:=by have:=hL;simp [Val.ks] at this;exact this
   have dF:(nY (List.replicate e x.to)).length=e:=by rw [kg,List.length_replicate]
   have di:nY (List.replicate e x.to) ++ [[DV.v (.int .i64 x.to)]]=nY (List.replicate (e + 1) x.to):=by rw [qB,List.replicate_succ']
   refine ⟨_,⟨by omega,uL⟩,?_⟩;refine ⟨dF,⟨by rw [dF];simp [maxLen];omega,by rw [dF];simp;omega⟩,?_⟩;exact rE ⟨_,by omega,e + 1,rfl,by omega,rfl⟩ (wkB 2 (wA2 (nxt al (by omega)) di) (wB2 (nxt al (by omega)) di))
  ·have aM:e=ks.length:=by have:=hL;simp [Val.ks] at this;omega
   subst aM;have yj:kidsL ⟨ag,at',lo,hi,most,af,es⟩ (.mk q z s ks)=List.replicate ks.length x.to:=by unfold kidsL;rw [aj US,ht0];all_goals rfl
   have dF:(nY (List.replicate ks.length x.to)).length=ks.length:=by rw [kg,List.length_replicate]
   have hB:pickB (pickB (dN (.mk q z s ks)) (decide (q=kd)) false) (decide (((nY (List.replicate ks.length x.to)).length:Int)<=mo)) false=cY ⟨ag,at',lo,hi,most,af,es⟩ (.mk q z s ks):=by
    rw [dF,h3,h4,pickB_and,pickB_and];unfold cY;rw [aj US];rfl
   rw [yj];exact ⟨_,(ra hB),rfl⟩
 have c5:¬ ag=5:=sU c;refine br ?_ ?_<;>intro c
 ·have c:ag=6:=sU c;have US:ag=5∨ag=6:=.inr c;obtain ⟨x,iR,_,_⟩:=GP US;refine dI ?_;refine br (fun _=>?_) (fun h=>absurd h (by simp [c]));obtain ⟨kd,mo,h1,h2,h3,h4⟩:∃ kd mo:Int,6=kd/\1=mo/\kd=ag/\mo=(if ag=6 then 1 else most):=⟨6,1,rfl,rfl,c.symm,by rw [aj c]⟩;have uL:(eM es)[0]? = some (tQ x):=by rw [iR];all_goals rfl
  have ht0:to0 ⟨ag,at',lo,hi,most,af,es⟩=x.to:=by simp [to0,iR]
  refine lJ (fun e=>SI ⟨ag,at',lo,hi,most,af,es⟩ (.mk q z s ks) (List.replicate e x.to) (dN (.mk q z s ks)) kd mo e e) ks.length (de 2 ⟨0,3,1,none⟩ rfl rfl rfl (by repeat' (first | exact rfl | exact we_rfl rfl | exact bQ (hp _ rfl) | exact we_int h1 | exact we_int h2 | exact we_int (congrArg Nat.cast dc) | exact bN (aJ _) rfl | exact bN (aJ _) rfl | refine ⟨_,_,rfl,?_,?_⟩)) rfl rfl (by repeat' (first | exact trivial | exact we_rfl rfl | exact bQ (hp _ rfl) | exact we_int h1 | exact we_int h2 | exact we_int (congrArg Nat.cast dc) | exact bN (aJ _) rfl | refine ⟨⟨_,rfl,?_⟩,?_⟩))) ?_;intro e he;refine br ?_ ?_<;>intro hL
  ·have al:e < ks.length:=by have:=hL;simp [Val.ks] at this;exact this
   have dF:(nY (List.replicate e x.to)).length=e:=by rw [kg,List.length_replicate]
   have di:nY (List.replicate e x.to) ++ [[DV.v (.int .i64 x.to)]]=nY (List.replicate (e + 1) x.to):=by rw [qB,List.replicate_succ']
   refine ⟨_,⟨by omega,uL⟩,?_⟩;refine ⟨dF,⟨by rw [dF];simp [maxLen];omega,by rw [dF];simp;omega⟩,?_⟩;exact rE ⟨_,by omega,e + 1,rfl,by omega,rfl⟩ (wkB 2 (wA2 (nxt al (by omega)) di) (wB2 (nxt al (by omega)) di))
  ·have aM:e=ks.length:=by have:=hL;simp [Val.ks] at this;omega
   subst aM;have yj:kidsL ⟨ag,at',lo,hi,most,af,es⟩ (.mk q z s ks)=List.replicate ks.length x.to:=by unfold kidsL;rw [aj US,ht0];all_goals rfl
   have dF:(nY (List.replicate ks.length x.to)).length=ks.length:=by rw [kg,List.length_replicate]
   have hB:pickB (pickB (dN (.mk q z s ks)) (decide (q=kd)) false) (decide (((nY (List.replicate ks.length x.to)).length:Int)<=mo)) false=cY ⟨ag,at',lo,hi,most,af,es⟩ (.mk q z s ks):=by
    rw [dF,h3,h4,pickB_and,pickB_and];unfold cY;rw [aj US];rfl
   rw [yj];exact ⟨_,(ra hB),rfl⟩
 have c6:¬ ag=6:=sU c;obtain ⟨hm64,hm8,_,_⟩:=sS (by omega);refine br ?_ ?_<;>intro c
 ·have c7:ag=7:=sU c;refine lJ (fun e=>ZR ⟨ag,at',lo,hi,most,af,es⟩ (.mk q z s ks) ((es.take e).map Ed.to) (dN (.mk q z s ks)) e e) es.length (de 2 ⟨0,3,1,none⟩ rfl rfl rfl (by repeat' (first | exact rfl | exact we_rfl rfl | exact bQ (hp _ rfl) | exact bN (aJ _) rfl | exact bN (aJ _) rfl | refine ⟨_,_,rfl,?_,?_⟩)) rfl rfl (by repeat' (first | exact trivial | exact we_rfl rfl | exact bQ (hp _ rfl) | exact bN (aJ _) rfl | refine ⟨⟨_,rfl,?_⟩,?_⟩))) ?_;intro e he;refine br ?_ ?_<;>intro hL
  ·have al:e < es.length:=by have:=hL;simp [mn] at this;exact this
   obtain ⟨x,hx⟩:=gX al;have dF:(nY ((es.take e).map Ed.to)).length=e:=by rw [kg,List.length_map,dE];omega
   have di:nY ((es.take e).map Ed.to) ++ [[DV.v (.int .i64 x.to)]]=nY ((es.take (e + 1)).map Ed.to):=by rw [qB,zK hx,List.map_append];all_goals rfl
   refine iX (bn hx) ?_;refine ⟨dF,⟨by rw [dF];simp [maxLen];omega,by rw [dF];simp;omega⟩,?_⟩;exact rE ⟨_,by omega,e + 1,rfl,by omega,rfl⟩ (wkB 2 (wA2 (nxt al (by omega)) di) (wB2 (nxt al (by omega)) di))
  ·have aM:e=es.length:=sW mn hL;subst aM;rw [List.take_length];have yj:kidsL ⟨ag,at',lo,hi,most,af,es⟩ (.mk q z s ks)=es.map Ed.to:=by unfold kidsL;rw [ai (by simp only;omega),aj c7]
   have dF:(nY (es.map Ed.to)).length=es.length:=by rw [kg,List.length_map]
   have hB:pickB (pickB (dN (.mk q z s ks)) (decide (q=7)) false) (decide (((nY (es.map Ed.to)).length:Int)=((dVals ks).length:Int))) false=cY ⟨ag,at',lo,hi,most,af,es⟩ (.mk q z s ks):=by grind [pickB_and,cY,Val.k,Val.ks]
   rw [yj];refine dI ?_;exact ⟨_,(ra hB),rfl⟩
 have c7:¬ ag=7:=sU c;have yj:kidsL ⟨ag,at',lo,hi,most,af,es⟩ (.mk q z s ks)=(match qA ⟨ag,at',lo,hi,most,af,es⟩ (.mk q z s ks) with | none=>[] | some e=>if e.bare=true then [] else [e.to]):=by unfold kidsL;rw [ai (by simp only;omega),ai c7];all_goals rfl
 have ZS:cY ⟨ag,at',lo,hi,most,af,es⟩ (.mk q z s ks)=(match qA ⟨ag,at',lo,hi,most,af,es⟩ (.mk q z s ks) with | none=>false | some _=>dN (.mk q z s ks) && decide ((kidsL ⟨ag,at',lo,hi,most,af,es⟩ (.mk q z s ks)).length=ks.length)):=by unfold cY;rw [ai (by simp only;omega),ai c7];all_goals rfl
 have hc:∀ b:Bool,b=pickB (pickB (!decide (q=8)) true (decide (z < 0))) true (decide (((eM es).length:Int)<=z))->b = !decide (q=8/\0<=z/\z < es.length):=fun b h=>by grind [ak]
 refine br ?_ ?_<;>intro c
 ·have c:¬ (q=8/\0<=z/\z < es.length):=by have:=(hc _ rfl).symm.trans c;simpa only [Bool.not_eq_true',decide_eq_false_iff_not] using this
  have ht:qA ⟨ag,at',lo,hi,most,af,es⟩ (.mk q z s ks)=none:=by show (if q=8/\0<=z/\z < es.length then es[z.toNat]? else none)=_;rw [ai c]
  rw [ZS,yj,ht];exact ⟨_,ax,rfl⟩
 ·have c:q=8/\0<=z/\z < es.length:=by have:=(hc _ rfl).symm.trans c;simpa only [Bool.not_eq_false',decide_eq_true_eq] using this
  obtain ⟨x,hx⟩:∃ x,es[z.toNat]? = some x:=⟨_,gE (by omega)⟩;have ht:qA ⟨ag,at',lo,hi,most,af,es⟩ (.mk q z s ks)=some x:=by show (if q=8/\0<=z/\z < es.length then es[z.toNat]? else none)=_;rw [aj c];exact hx
  rw [ht] at ZS yj;refine iX (bn hx) ?_;refine br ?_ ?_<;>intro hb
  ·have hb:x.bare=false:=sU hb;have UT:kidsL ⟨ag,at',lo,hi,most,af,es⟩ (.mk q z s ks)=[x.to]:=by rw [yj];simp [hb]
   have hB:pickB (dN (.mk q z s ks)) (decide ((1:Int)=((dVals ks).length:Int))) false=cY ⟨ag,at',lo,hi,most,af,es⟩ (.mk q z s ks):=by grind [pickB_and]
   rw [UT,<- hB];refine ⟨⟨by simp [maxLen],by simp⟩,?_⟩;refine dI ?_;exact ⟨_,(by repeat' (first | exact rfl | exact trivial | exact Or.inr (Or.inl ⟨_,rfl⟩) | exact Or.inr ⟨_,rfl⟩ | exact Or.inl ⟨rfl,rfl⟩ | exact Or.inl rfl | refine Or.inr ⟨_,_,rfl,Nat.zero_le _,rfl,?_⟩ | refine ⟨_,_,rfl,?_,?_⟩ | refine ⟨_,rfl,?_⟩ | exact congrArg (fun b=>DV.v (.bool (pickB b _ false))) (hp _ rfl) | refine Or.inr (Or.inr (Or.inr ⟨_,_,rfl,?_⟩)) | exact Or.inl rfl | refine Or.inr ?_)),rfl⟩
  ·have hb:x.bare=true:=sU hb;have UT:kidsL ⟨ag,at',lo,hi,most,af,es⟩ (.mk q z s ks)=[]:=by rw [yj];simp [hb]
   have hB:pickB (dN (.mk q z s ks)) (decide ((0:Int)=((dVals ks).length:Int))) false=cY ⟨ag,at',lo,hi,most,af,es⟩ (.mk q z s ks):=by grind [pickB_and]
   rw [UT,<- hB];refine dI ?_;exact ⟨_,(by repeat' (first | exact rfl | exact trivial | exact Or.inr (Or.inl ⟨_,rfl⟩) | exact Or.inr ⟨_,rfl⟩ | exact Or.inl ⟨rfl,rfl⟩ | exact Or.inl rfl | refine Or.inr ⟨_,_,rfl,Nat.zero_le _,rfl,?_⟩ | refine ⟨_,_,rfl,?_,?_⟩ | refine ⟨_,rfl,?_⟩ | exact congrArg (fun b=>DV.v (.bool (pickB b _ false))) (hp _ rfl) | refine Or.inr (Or.inr (Or.inr ⟨_,_,rfl,?_⟩)) | exact Or.inl rfl | refine Or.inr ?_)),rfl⟩
theorem zQ {n:Nd} {v:Val} (hk:5<=n.ag) (h:cY n v=true):(kidsL n v).length=v.ks.length:=by grind [cY,kidsL,qA]
theorem GQ {ND:List Nd} {ks:List Val} {l:List Int} {e:Nat} {x:Val} {i:Int} (h1:ks[e]? = some x) (h2:l[e]? = some i):fitVs ND (ks.drop e) (l.drop e)=(fitV ND x i && fitVs ND (ks.drop (e + 1)) (l.drop (e + 1))):=by
 rw [drop_cons h1,drop_cons h2,fitVs]
theorem bR {ND:List Nd} {i:Int} {d:Nd} (h:cm ND i=some d):0<=i/\ND[i.toNat]? = some d:=by grind [cm]
theorem wW {ND:List Nd} {i:Int} (h:cm ND i=none):i < 0∨(ND.length:Int)<=i:=by grind [cm]
abbrev tfSt (PC:List DV) (v:Val) (l:List Int) (e:Nat):St:=
 ⟨[oJ 0 PC,aw 5 0,aU 36 1 (nY l),ap 37 l.length,ap 38 e],[dVal v],[]⟩
theorem o0 {S:Sch} {ND:List Nd} {PC:List DV} (hP:iM S ND PC):∀ (k:Nat) (v:Val),v.wt<=k->v.wt<=1099511627776->∀ i:Int,EvP prog 68 [.pt PC 0,.v (.int .i64 i),.agg (dVal v)] (.v (.bool (fitV ND v i)))
 | 0,v,h,_=>by have:=v.cT;omega
 | k + 1,.mk q z s ks,h,hb=>fun i=>by
  have ih:=o0 hP k;have iT:=cw ks;have dc:=aX ks;have ep:=hb;rw [Val.wt] at h hb;rw [fitV];have dM:=hP.ah;have UU:=hP.SB;have bu:=hP.ok
  cases hd:cm ND i with
  | none=>
   refine eG 53 [.tmp 6] func68 rfl ntmps68 rfl fun _ _ _ _=>?_;refine cP rm (UU i (wW hd)) ?_;exact (rfl:_=_)
  | some d=>
   obtain ⟨h0,hg⟩:=bR hd;obtain ⟨j,rfl⟩:∃ j:Nat,i=j:=⟨i.toNat,by omega⟩;have hg:ND[j]? = some d:=sU hg;have hN:=bu d (mG hg);have ue:=KF d (.mk q z s ks);have Gd:=fun h5=>kids_spec hN h5 (.mk q z s ks) ep;have hlen:=fun h5=>zQ (n:=d) (v:=.mk q z s ks) h5;simp only;obtain ⟨ag,at',lo,hi,most,af,es⟩:=d;simp only at Gd hlen;refine eG 53 [.tmp 6] func68 rfl ntmps68 rfl fun _ _ _ _=>?_;refine cP rm (dM j _ hg) ?_;refine br ?_ ?_<;>intro c
   ·have c:ag < 5:=sU c;rw [aj c];refine cP W3 ue ?_;exact (rfl:_=_)
   have c:¬ ag < 5:=sU c;rw [ai c];have Gd:=Gd (by omega);have hlen:=hlen (by omega);generalize kidsL ⟨ag,at',lo,hi,most,af,es⟩ (.mk q z s ks)=l at Gd hlen ⊢;have hzl:=kg l;refine cP W4 Gd ?_
   cases hB:cY ⟨ag,at',lo,hi,most,af,es⟩ (.mk q z s ks) with
   | false=>
    exact (rfl:_=_)
   | true=>
    have hlen:l.length=ks.length:=hlen hB;rw [Bool.true_and];refine lI (fun j st=>∃ e:Nat,st=tfSt PC (.mk q z s ks) l e/\e<=l.length/\fitVs ND ks l=fitVs ND (ks.drop e) (l.drop e)/\j=l.length - e) ⟨0,rfl,by omega,rfl,rfl⟩ (wkM (wB1 hzl)) ?_;rintro _ st ⟨e,rfl,he,aG,rfl⟩;refine br ?_ ?_<;>intro hL
    ·have al:e < l.length:=by have:=hL;simp at this;exact this
     obtain ⟨x,hx⟩:∃ x,ks[e]? = some x:=⟨_,gE (by omega)⟩;obtain ⟨y,hy⟩:=gX al;have O4:=cJ (mG hx);rw [GQ hx hy] at aG;have gk:=ih x (by omega) (by omega) y;obtain ⟨xk,xn,xs,xl⟩:=x;refine iX (nZ hy) ?_;refine iX (dVals_get hx) ?_;refine cP TL gk ?_;refine br ?_ ?_<;>intro g
     ·have g:fitV ND (.mk xk xn xs xl) y=false:=sU g;rw [aG,g];exact (rfl:_=_)
     ·have g:fitV ND (.mk xk xn xs xl) y=true:=sU g;rw [g,Bool.true_and] at aG;exact rE ⟨_,by omega,e + 1,rfl,by omega,aG,rfl⟩ (wkM (wB1 (nxt al (by omega))))
    ·have aM:e=l.length:=by have:=hL;simp at this;omega
     rw [List.drop_of_length_le (by omega),List.drop_of_length_le (by omega)] at aG;rw [aG];exact (rfl:_=_)
theorem to25_spec {L N:Nat} {n:Nd} (hn:dB L N n) (v:Val) (j:Nat):EvP prog 158 [.agg (kN n),.agg (dVal v),.v (.int .i64 j)] (.v (.int .i64 (wU n v j))):=by
 have GP:=hn.one;obtain ⟨ag,at',lo,hi,most,af,es⟩:=n;obtain ⟨q,z,s,ks⟩:=v;have mn:=cj es;simp only at GP
 have hF:wU ⟨ag,at',lo,hi,most,af,es⟩ (.mk q z s ks) j=if ag=5 then (if (j:Int) < most then to0 ⟨ag,at',lo,hi,most,af,es⟩ else -1)
  else if ag=6 then (if j < 1 then to0 ⟨ag,at',lo,hi,most,af,es⟩ else -1)
  else if ag=7 then (match es[j]? with | some e=>e.to | none=>-1)
  else if ag=8 then (if j < 1/\0<=z/\z < es.length then (match es[z.toNat]? with | some e=>e.to | none=>-1) else -1)
  else -1:=rfl
 rw [hF];refine eG 66 [.tmp 6] func158 rfl ntmps158 rfl fun _ _ _ _=>?_;refine br ?_ ?_<;>intro c
 ·have c:ag=5:=sU c;rw [aj c];obtain ⟨x,iR,_,_⟩:=GP (.inl c);have uL:(eM es)[0]? = some (tQ x):=by rw [iR];all_goals rfl
  have ht0:to0 ⟨ag,at',lo,hi,most,af,es⟩=x.to:=by simp [to0,iR]
  refine br ?_ ?_<;>intro g
  ·have g:(j:Int) < most:=sU g;rw [aj g,ht0];refine ⟨_,⟨by omega,uL⟩,?_⟩;exact (rfl:_=_)
  ·have g:¬ (j:Int) < most:=sU g;rw [ai g];exact (rfl:_=_)
 have c5:¬ ag=5:=sU c;rw [ai c5];refine br ?_ ?_<;>intro c
 ·have c:ag=6:=sU c;rw [aj c];obtain ⟨x,iR,_,_⟩:=GP (.inr c);have uL:(eM es)[0]? = some (tQ x):=by rw [iR];all_goals rfl
  have ht0:to0 ⟨ag,at',lo,hi,most,af,es⟩=x.to:=by simp [to0,iR]
  refine br ?_ ?_<;>intro g
  ·have g:j < 1:=by have:=g;simp at this;omega
   rw [aj g,ht0];refine ⟨_,⟨by omega,uL⟩,?_⟩;exact (rfl:_=_)
  ·have g:¬ j < 1:=by have:=g;simp at this;omega
   rw [ai g];exact (rfl:_=_)
 have c6:¬ ag=6:=sU c;rw [ai c6];refine br ?_ ?_<;>intro c
 ·have c:ag=7:=sU c;rw [aj c];refine br ?_ ?_<;>intro g
  ·have g:j < es.length:=by have:=g;simp [mn] at this;exact this
   obtain ⟨x,hx⟩:∃ x,es[j]? = some x:=⟨_,gE g⟩;refine iX (bn hx) ?_;rw [hx];exact (rfl:_=_)
  ·have g:es.length<=j:=sW mn g;rw [mB g];exact (rfl:_=_)
 have c7:¬ ag=7:=sU c;rw [ai c7];refine br ?_ ?_<;>intro c
 ·have c:ag=8:=sU c;rw [aj c];have hc:∀ b:Bool,b=pickB (pickB (decide ((j:Int) < 1)) (decide (0<=z)) false) (decide (z < ((eM es).length:Int))) false->b=decide (j < 1/\0<=z/\z < es.length):=fun b h=>by grind [pickB_and]
  refine br ?_ ?_<;>intro g
  ·have g:=of_decide_eq_true ((hc _ rfl).symm.trans g);obtain ⟨x,hx⟩:∃ x,es[z.toNat]? = some x:=⟨_,gE (by omega)⟩;rw [aj g,hx];refine iX (bn hx) ?_;exact (rfl:_=_)
  ·have g:=of_decide_eq_false ((hc _ rfl).symm.trans g);rw [ai g];exact (rfl:_=_)
 ·have c8:¬ ag=8:=sU c;rw [ai c8];exact (rfl:_=_)
structure Oa (ND:List Nd) (v:Val) (i:Int) (d:Nd):Prop where
 ah:cm ND i=some d
 k:v.k=d.ag
 leaf:d.ag < 5->v.ks=[]
 enum:d.ag=4->0<=v.n/\v.n < d.af.length
 kids:5<=d.ag->(kidsL d v).length=v.ks.length/\fitVs ND v.ks (kidsL d v)=true
 tag:d.ag=8->∃ e,qA d v=some e/\d.aq[v.n.toNat]? = some e/\0<=v.n/\v.n < d.aq.length/\(e.bare=true↔v.ks=[])
 opt:d.ag=6->v.ks.length<=1
theorem jk {L:Nat} {ND:List Nd} (bu:∀ n∈ND,dB L ND.length n) {v:Val} {i:Int} (h:fitV ND v i=true):∃ d,Oa ND v i d:=by
 obtain ⟨k,n,s,ks⟩:=v;rw [fitV] at h
 cases hd:cm ND i with
 | none=>rw [hd] at h;cases h
 | some d=>
  rw [hd] at h;simp only at h;have hN:=bu d (mG (bR hd).2);have oi:=hN.k1;have GO:=hN.k8;by_cases h5:d.ag < 5
  ·rw [aj h5] at h;unfold oA at h;by_cases hc:0 < (Val.mk k n s ks).ks.length∨((Val.mk k n s ks).k≠3/\(Val.mk k n s ks).s≠emptyB)∨((Val.mk k n s ks).k=3/\(Val.mk k n s ks).n≠0)
   ·rw [aj hc] at h;cases h
   rw [ai hc] at h;have hnil:ks=[]:=by grind [Val.ks]
   have hk:k=d.ag/\(d.ag=4->0<=n/\n < d.af.length):=by grind [Val.k,Val.n]
   exact ⟨d,{ ah:=hd,k:=hk.1,leaf:=fun _=>hnil,enum:=hk.2,kids:=fun h=>by omega,tag:=fun h=>by omega,opt:=fun h=>by omega }⟩
  ·rw [ai h5,aO] at h;obtain ⟨hB,hf⟩:=h;have hlen:=zQ (by omega) hB;have hB2:=hB;unfold cY at hB;by_cases c:d.ag=5∨d.ag=6
   ·rw [aj c] at hB;simp only [aO,decide_eq_true_eq] at hB;exact ⟨d,{ ah:=hd,k:=hB.1.2,leaf:=fun h=>by omega,enum:=fun h=>by omega,kids:=fun _=>⟨hlen,hf⟩,tag:=fun h=>by omega,opt:=fun h=>by have:=hB.2;rw [aj h] at this;omega }⟩
   rw [ai c] at hB;by_cases c7:d.ag=7
   ·rw [aj c7] at hB;simp only [aO,decide_eq_true_eq] at hB;exact ⟨d,{ ah:=hd,k:=by rw [c7];exact hB.1.2,leaf:=fun h=>by omega,enum:=fun h=>by omega,kids:=fun _=>⟨hlen,hf⟩,tag:=fun h=>by omega,opt:=fun h=>by omega }⟩
   rw [ai c7] at hB
   cases ht:qA d (.mk k n s ks) with
   | none=>rw [ht] at hB;cases hB
   | some e=>
    have VH:=ht;unfold qA at VH;split at VH
    ·rename_i hr;have iT:kidsL d (.mk k n s ks)=if e.bare=true then [] else [e.to]:=by unfold kidsL;rw [ai c,ai c7,ht]
     refine ⟨d,{ ah:=hd,k:=by have:=hr.1;omega,leaf:=fun h=>by omega,enum:=fun h=>by omega,kids:=fun _=>⟨hlen,hf⟩,tag:=fun _=>⟨e,ht,VH,hr.2.1,hr.2.2,?_⟩,opt:=fun h=>by omega }⟩
     grind
    ·cases VH
theorem qC {ND:List Nd}:∀ {ks:List Val} {l:List Int} {e:Nat} {x:Val} {i:Int},fitVs ND ks l=true->ks[e]? = some x->l[e]? = some i->fitV ND x i=true
 | [],_,e,x,i,_,h,_=>by simp at h
 | _ :: _,[],e,x,i,_,_,h=>by simp at h
 | v :: r,j :: l,0,x,i,h,h1,h2=>by grind [fitVs]
 | v :: r,j :: l,e + 1,x,i,h,h1,h2=>by
  simp only [List.getElem?_cons_succ] at h1 h2;rw [fitVs,aO] at h;exact qC h.2 h1 h2
structure K9 where
 k:Int
 n:Int
 s:ByteArray
def Ob (f:Nat->Nat->Bool) (n:Nat) (a b:Int):Bool:=decide (0<=a) && decide (a < n) && decide (0<=b) && decide (b < n) && f a.toNat b.toNat
def wX (f:Nat->Nat->Bool) (n a b:Nat):Nat:=(eK f n a b).getD 0
def iV (f:Nat->Nat->Bool) (n:Nat):Nat:=(ei f n []).getD 0
theorem Oc {f:Nat->Nat->Bool} {n a b:Nat} (ha:a < n) (hb:b < n):Ob f n a b=f a b:=by simp [Ob,ha,hb]
theorem wY {f:Nat->Nat->Bool} {n a b:Nat} (h:eY f n) (ha:a < n) (hb:b < n):eK f n a b=some (wX f n a b):=by
 obtain ⟨k,hk⟩:=h.jn a b ha hb;simp [wX,hk]
theorem Bl {f:Nat->Nat->Bool} {n a b:Nat} (h:eY f n) (ha:a < n) (hb:b < n):wX f n a b < n:=(oU (wY h ha hb)).1
theorem DY {f:Nat->Nat->Bool} {n:Nat} (h:eY f n):O6 f n:=⟨h.rfl',h.Ga⟩
theorem wZ {f:Nat->Nat->Bool} {n a b:Nat} (h:eY f n) (ha:a < n) (hb:b < n):jM f n a b=some (wX f n a b):=by
 have h1:=wY h ha hb;have h2:=l4 (n:=n) (a:=a) (b:=b) (DY h);rw [h1] at h2
 cases hr:jM f n a b with
 | none=>rw [hr] at h2;simp at h2
 | some c=>
  obtain ⟨h3,h4,_⟩:=dT hr
  grind [DI,DY]
theorem sf {f:Nat->Nat->Bool} {n:Nat} (h:eY f n):ei f n []=some (iV f n):=by
 obtain ⟨c,hc⟩:=sN h [] (fun _ h=>by cases h);simp [iV,hc]
theorem Bm {f:Nat->Nat->Bool} {n:Nat} (h:eY f n):iV f n < n:=nS (sf h)
section
variable (af:List ByteArray) (tc:List DV) (rows:List Nat) (js:List Int)
theorem KG (hr:dL rows) (hl:rows.length=af.length) (a b:Int) :
  EvP prog 88 [.pt (gL af tc rows js) 0,.v (.int .i64 a),.v (.int .i64 b)] (.v (.bool (hasB rows a b))):=by
 have h1:=rN af tc rows js;have h2:=kG rows hr a b;have hB:hasB rows a b=(decide (0<=a) && decide (a < af.length) && decide (0<=b) && decide (b < af.length) && aN rows a.toNat b.toNat):=by rw [<- hl];all_goals rfl
 generalize hasB rows a b=h at h2 hB ⊢;refine eG 24 [.tmp 6] func88 rfl ntmps88 rfl fun _ _ _ _=>?_;refine cP u5 (h1 a) ?_;refine br ?_ ?_<;>intro g
 ·refine cP u5 (h1 b) ?_;refine br ?_ ?_<;>intro g2
  ·refine cP CF h2 ?_;exact (rfl:_=_)
  ·refine (bH ?_:);rw [hB];simp only [Bool.and_assoc] at g g2 ⊢;cases hx:decide (0<=b)<;>cases hy:decide (b < af.length)<;>simp_all [pickB]
 ·refine (bH ?_:);rw [hB];cases hx:decide (0<=a)<;>cases hy:decide (a < af.length)<;>simp_all [pickB]
end
structure DZ (n:Nat) (f:Nat->Nat->Bool) (af:List ByteArray) (LC:List DV):Prop where
 ok:eY f n
 n32:n<=32
 nl:af.length=n
 len:EvP prog 73 [.pt LC 0] (.v (.int .i64 n))
 leq:∀ a b:Int,EvP prog 88 [.pt LC 0,.v (.int .i64 a),.v (.int .i64 b)] (.v (.bool (Ob f n a b)))
 join:∀ a b:Nat,a < n->b < n->EvP prog 203 [.pt LC 0,.v (.int .i64 a),.v (.int .i64 b)] (.v (.int .i64 (wX f n a b:Nat)))
 bot:EvP prog 70 [.pt LC 0] (.v (.int .i64 (iV f n:Nat)))
 name:∀ (i:Nat) s,af[i]? = some s->EvP prog 157 [.pt LC 0,.v (.int .i64 i)] (.v (.string s))
abbrev aS (S:Sch):Nat->Nat->Bool:=ee S.ae.length (cW (au S.ae) S.order)
theorem iM.ZT {S:Sch} {ND:List Nd} {PC:List DV} (hP:iM S ND PC):∃ LC,EvP prog 72 [.pt PC 0] (.pt LC 0)/\DZ S.ae.length (aS S) (au S.ae) LC:=by
 obtain ⟨az,js,hX,hl⟩:=hP.lat;have gW:=dq S.ae;have ue:=(hP.fine).lat;obtain ⟨hL,Kn⟩:=kQ ue;have hpr:∀ p∈cW (au S.ae) S.order,p.1 < S.ae.length/\p.2 < S.ae.length:=by have:=nR (lZ ue).2.2.1;rwa [dq] at this
 have gD:(dm S az js).rows.length=S.ae.length:=by
  show (closeR (eV S.ae.length (cW (au S.ae) S.order)) S.ae.length).length=_;rw [eW,jE]
 have hr:dL (dm S az js).rows:=kH (AO (by omega) _ hpr) _ (by omega)
 refine ⟨_,hl,{
  ok:=hL,n32:=Kn,nl:=gW
  len:=?_
  leq:=fun a b=>?_
  join:=fun a b ha hb=>?_
  bot:=?_
  name:=fun i s hs=>?_
  }⟩
 ·have:=rM (dm S az js).af (cC (dm S az js).af (dm S az js).az) (dm S az js).rows (dm S az js).js
  rwa [show (dm S az js).af.length=S.ae.length from gW] at this
 ·have:=KG (dm S az js).af (cC (dm S az js).af (dm S az js).az) (dm S az js).rows (dm S az js).js hr (by rw [gD];exact gW.symm) a b
  have he:hasB (dm S az js).rows a b=Ob (aS S) S.ae.length a b:=by
   unfold hasB Ob;rw [gD];all_goals rfl
  rwa [he] at this
 ·have hz:=(hX.hj a b (by rw [show (dm S az js).af.length=S.ae.length from gW];exact ha) (by rw [show (dm S az js).af.length=S.ae.length from gW];exact hb)).1;rw [show (dm S az js).af.length=S.ae.length from gW,show (dm S az js).f=aS S from rfl,wY hL ha hb] at hz;exact vR (dm S az js).af (cC (dm S az js).af (dm S az js).az) (dm S az js).rows (dm S az js).js a b _ (by rw [show (dm S az js).af.length=S.ae.length from gW];exact ha) (by rw [show (dm S az js).af.length=S.ae.length from gW];exact hb) hX.hn hz
 ·have:=qc (dm S az js).af (cC (dm S az js).af (dm S az js).az) (dm S az js).rows (dm S az js).js hX.hL hX.hn hX.hj
  rwa [show (dm S az js).af.length=S.ae.length from gW,show (dm S az js).f=aS S from rfl,sf hL] at this
 ·have:=F7 (dm S az js).af (cC (dm S az js).af (dm S az js).az) (dm S az js).rows (dm S az js).js i;have al:=(gS hs).1;rw [aj ⟨by omega,by rw [show (dm S az js).af=au S.ae from rfl];omega⟩,jU,show (dm S az js).af=au S.ae from rfl,hs] at this;exact this
theorem kZ {L:Nat} {ND:List Nd} {d:Nd} (hN:dB L ND.length d) {e:Ed} (he:e∈d.aq):(e.bare=false->e.to=(e.to.toNat:Nat)/\e.to.toNat < ND.length)/\(e.label=(e.label.toNat:Nat)/\e.label.toNat < L)/\(e.seen=(e.seen.toNat:Nat)/\e.seen.toNat < L):=by
 have hE:=hN.jV e he;refine ⟨fun hb=>?_,?_,?_⟩
 ·obtain ⟨k,h1,h2⟩:=hE.to1 hb;rw [h1];exact ⟨by simp,by simpa using h2⟩
 ·obtain ⟨k,h1,h2⟩:=hE.lab;rw [h1];exact ⟨by simp,by simpa using h2⟩
 ·obtain ⟨k,h1,h2⟩:=hE.seen;rw [h1];exact ⟨by simp,by simpa using h2⟩
def k0 (f:Nat->Nat->Bool) (n obs:Nat) (d:Nd) (e:Ed) (a:Nat):Nat:=
 if f (if d.ag < 7 then a else wX f n a e.label.toNat) obs=true then 2 else if e.ck≠0/\f (wX f n a e.seen.toNat) obs=true then 1 else 0
section
variable (ND:List Nd) (f:Nat->Nat->Bool) (n obs dep:Nat)
end
def bG (d:Nd) (z:Int) (j:Nat):Option Ed:=if d.ag=7 then d.aq[j]? else if d.ag=8 then d.aq[z.toNat]? else d.aq[0]?
def iL (f:Nat->Nat->Bool) (n:Nat) (d:Nd) (e:Ed) (a:Nat):Nat:=if d.ag < 7 then a else wX f n a e.label.toNat
def sg (e:Ed):Val:=.mk 9 e.wide emptyB []
def aW (e:Ed) (v:Val):Val:=
 if e.ck=1/\v.k=2/\(aF v.n e.cn).2=true then .mk 10 (aF v.n e.cn).1 emptyB []
 else if e.ck=2/\v.k=3 then .mk 11 0 (ba (headL e.cn.toNat (tx v.s))) []
 else if e.ck=3/\v.k=5 then .mk 12 v.ks.length emptyB []
 else sg e
section
variable (ND:List Nd) (f:Nat->Nat->Bool) (L obs:Nat)
mutual
def eraseV:Val->Int->Nat->Val
 | .mk k n s ks,i,a=>match cm ND i with
  | none=>.mk k n s []
  | some d=>.mk k n s (eraseVs ks d n a 0)
def eraseVs:List Val->Nd->Int->Nat->Nat->List Val
 | [],_,_,_,_=>[]
 | x :: r,d,z,a,j=>(match bG d z j with
  | none=>x
  | some e=>if k0 f L obs d e a=2 then eraseV x e.to (iL f L d e a) else if k0 f L obs d e a=1 then aW e x else sg e) :: eraseVs r d z a (j + 1)
end
end
section
variable {ND:List Nd} {f:Nat->Nat->Bool} {L obs:Nat}
theorem kh:∀ (ks:List Val) (d:Nd) (z:Int) (a j:Nat),(eraseVs ND f L obs ks d z a j).length=ks.length
 | [],_,_,_,_=>by rw [eraseVs]
 | x :: r,d,z,a,j=>by rw [eraseVs,List.length_cons,List.length_cons,kh r]
theorem w7 (v:Val) (i:Int) (a:Nat):(eraseV ND f L obs v i a).k=v.k/\(eraseV ND f L obs v i a).n=v.n/\(eraseV ND f L obs v i a).s=v.s:=by
 obtain ⟨k,n,s,ks⟩:=v;rw [eraseV];cases cm ND i<;>exact ⟨rfl,rfl,rfl⟩
theorem si (u:Nat) (l:List UInt8):(headL u l).length<=l.length:=(zN u l).length_le
theorem GR (e:Ed) (v:Val):(aW e v).wt<=v.wt:=by
 have h1:=v.cT;unfold aW
 repeat' split
 ·rw [Val.wt,cF];show 64 + 0 + 0<=_;omega
 ·obtain ⟨k,n,s,ks⟩:=v;have h2:=si e.cn.toNat (tx s);rw [bf] at h2;rw [Val.wt,cF,Val.wt];have:(ba (headL e.cn.toNat (tx s))).size=(headL e.cn.toNat (tx s)).length:=by rw [<- bf,fh]
  show 64 + (ba (headL e.cn.toNat (tx s))).size + 0<=_;omega
 ·rw [Val.wt,cF];show 64 + 0 + 0<=_;omega
 ·rw [sg,Val.wt,cF];show 64 + 0 + 0<=_;omega
mutual
theorem zR:∀ (v:Val) (i:Int) (a:Nat),(eraseV ND f L obs v i a).wt<=v.wt
 | .mk k n s ks,i,a=>by
  rw [eraseV]
  cases cm ND i with
  | none=>rw [Val.wt,Val.wt,cF];omega
  | some d=>
   have:=xa ks d n a 0;simp only;rw [Val.wt,Val.wt];omega
theorem xa:∀ (ks:List Val) (d:Nd) (z:Int) (a j:Nat),cF (eraseVs ND f L obs ks d z a j)<=cF ks
 | [],_,_,_,_=>by rw [eraseVs];exact aJ _
 | x :: r,d,z,a,j=>by
  have h1:=xa r d z a (j + 1);rw [eraseVs,cF,cF]
  have:(match bG d z j with
   | none=>x
   | some e=>if k0 f L obs d e a=2 then eraseV ND f L obs x e.to (iL f L d e a) else if k0 f L obs d e a=1 then aW e x else sg e).wt<=x.wt:=by
   cases bG d z j with
   | none=>exact aJ _
   | some e=>
    simp only;split
    ·exact zR x _ _
    ·split
     ·exact GR e x
     ·have:=x.cT;rw [sg,Val.wt,cF];show 64 + 0 + 0<=_;omega
  omega
end
theorem o6:∀ {ks:List Val} {d:Nd} {z:Int} {a j m:Nat} {x:Val},ks[m]? = some x->(eraseVs ND f L obs ks d z a j)[m]? = some (match bG d z (j + m) with
  | none=>x
  | some e=>if k0 f L obs d e a=2 then eraseV ND f L obs x e.to (iL f L d e a) else if k0 f L obs d e a=1 then aW e x else sg e)
 | [],_,_,_,_,_,_,h=>by cases h
 | y :: r,d,z,a,j,0,x,h=>by
  rw [eraseVs];cases h;rfl
 | y :: r,d,z,a,j,m + 1,x,h=>by
  rw [eraseVs,List.getElem?_cons_succ,o6 (ks:=r) (m:=m) (x:=x) h,show j + 1 + m=j + (m + 1) by omega]
theorem Od {N:Nat} (bu:∀ n∈ND,dB N ND.length n) {v:Val} {i:Int} {d:Nd} (eB:fitV ND v i=true) (hF:Oa ND v i d) {m:Nat} {x:Val} (hx:v.ks[m]? = some x) :
  ∃ e,bG d v.n m=some e/\e∈d.aq/\e.bare=false/\fitV ND x e.to=true/\wU d v m=e.to/\5<=d.ag:=by
 have hN:=bu d (mG (bR hF.ah).2);have hm:m < v.ks.length:=(gS hx).1;have h8:=hN.k8;have h1:=hN.k1;by_cases h5:d.ag < 5
 ·rw [hF.leaf h5] at hx;cases hx
 obtain ⟨iT,hkf⟩:=hF.kids (by omega);rcases (show (d.ag=5∨d.ag=6)∨d.ag=7∨d.ag=8 by omega) with c | c | c
 ·obtain ⟨e,he,hb,_⟩:=hN.one c;have ht0:to0 d=e.to:=by unfold to0;rw [he];all_goals rfl
  have hl:(kidsL d v)[m]? = some e.to:=by grind [kidsL]
  refine ⟨e,?_,by rw [he];exact List.mem_singleton_self e,hb,qC hkf hx hl,?_,by omega⟩
  ·grind [bG]
  ·unfold wU;rw [ht0];rcases c with c | c
   ·rw [aj c,aj];have h2:=eB;obtain ⟨q,z,s,ks⟩:=v;rw [fitV,hF.ah] at h2
    grind [cY]
   ·have:=hF.opt c;omega
 ·have u4:(kidsL d v)=d.aq.map Ed.to:=by grind [kidsL]
  have dF:m < d.aq.length:=by
   rw [u4,List.length_map] at iT;omega
  obtain ⟨e,he⟩:∃ e,d.aq[m]? = some e:=⟨_,gE dF⟩;have hl:(kidsL d v)[m]? = some e.to:=by rw [u4,List.getElem?_map,he];all_goals rfl
  have lp:=mG he;refine ⟨e,?_,lp,?_,qC hkf hx hl,?_,by omega⟩
  ·unfold bG;rw [aj c,he]
  ·cases hb:e.bare
   ·rfl
   ·have:=hN.bare e lp hb;omega
  ·grind [wU]
 ·obtain ⟨e,ht,he,h0,al,hb⟩:=hF.tag c
  grind [kidsL,qC,bG,wU]
structure SJ (ND:List Nd) (d:Nd) (z:Int) (j:Nat) (x:Val) (e:Ed):Prop where
 jV:bG d z j=some e
 mem:e∈d.aq
 bare:e.bare=false
 fit:fitV ND x e.to=true
 to':wU d (.mk 0 z emptyB []) j=e.to
theorem Bn {N:Nat} (bu:∀ n∈ND,dB N ND.length n) {v:Val} {i:Int} {d:Nd} (eB:fitV ND v i=true) (hF:Oa ND v i d) {m:Nat} {x:Val} (hx:v.ks[m]? = some x):∃ e,SJ ND d v.n m x e:=by
 obtain ⟨e,h1,h2,h3,h4,h5,_⟩:=Od bu eB hF hx;exact ⟨e,⟨h1,h2,h3,h4,h5⟩⟩
theorem I8 {N:Nat} {d:Nd} {e:Ed} (hN:dB N ND.length d) (he:e∈d.aq) (hb:e.bare=false):0<=e.to/\∃ d',cm ND e.to=some d':=by
 obtain ⟨k,hk,al⟩:=(hN.jV e he).to1 hb;refine ⟨by omega,ND[k],?_⟩
 grind [cm]
end
section
variable (ND:List Nd) (f:Nat->Nat->Bool) (L obs:Nat)
end
section
variable {ND:List Nd} {f:Nat->Nat->Bool} {L obs:Nat}
theorem Bo (d:Nd) (e:Ed) (a:Nat):k0 f L obs d e a=if f (iL f L d e a) obs=true then 2 else if e.ck≠0/\f (wX f L a e.seen.toNat) obs=true then 1 else 0:=rfl
theorem Bp {N:Nat} {d:Nd} {e:Ed} {a:Nat} (hL:eY f L) (hN:dB L N d) (hm:e∈d.aq) (ha:a < L):iL f L d e a < L:=by
 obtain ⟨k,hk,hl⟩:=(hN.jV e hm).lab;unfold iL;split
 ·exact ha
 ·exact Bl hL ha (by rw [hk,jU];exact hl)
theorem GS (v:Val) (i:Int) (a:Nat) {d:Nd} (hd:cm ND i=some d):(eraseV ND f L obs v i a).ks.length=v.ks.length:=by
 obtain ⟨k,n,s,ks⟩:=v;rw [eraseV,hd];exact kh ks d n a 0
end
mutual
def rngW:Val->Prop
 | .mk k n _ ks=>od k/\od n/\rngWs ks
def rngWs:List Val->Prop
 | []=>True
 | v :: r=>rngW v/\rngWs r
end
theorem dO:∀ {l:List Val} {x:Val},rngWs l->x∈l->rngW x
 | v :: r,x,h,hm=>by
  rw [rngWs] at h;rcases dg hm with rfl | hm
  ·exact h.1
  ·exact dO h.2 hm
theorem xc {v:Val} (h:rngW v) : -9223372036854775808<=v.n/\v.n<=9223372036854775807:=by
 obtain ⟨k,n,s,ks⟩:=v;rw [rngW] at h;exact h.2.1
theorem n4 {v:Val} (h:rngW v):rngWs v.ks:=by
 obtain ⟨k,n,s,ks⟩:=v;rw [rngW] at h;exact h.2.2
theorem Bq {m:Nat} (ih:∀ k,k<=m->∀ ds,Typ prog k 34 ds->∃ v:Val,ds=dVal v/\rngW v/\v.wt<=wgL ds) :
  ∀ {es:List (List DV)},(∀ cs∈es,Typ prog m 34 cs)->∃ l:List Val,es=dVals l/\rngWs l/\cF l<=wgEs es
 | [],h=>⟨[],rfl,by simp [rngWs],by simp [cF]⟩
 | cs :: r,h=>by
  obtain ⟨l,rfl,hr,hl⟩:=Bq ih (es:=r) (fun c hc=>h c (ir _ hc));obtain ⟨v,rfl,hr2,hv⟩:=ih m (aJ _) cs (h cs (by simp));exact ⟨v :: l,rfl,by rw [rngWs];exact ⟨hr2,hr⟩,by simp only [cF,wgEs];omega⟩
theorem Oe:∀ (n:Nat) (ds:List DV),Typ prog n 34 ds->∃ v:Val,ds=dVal v/\rngW v/\v.wt<=wgL ds:=by
 intro n
 induction n using Nat.strongRecOn with
 | _ n ih=>
  intro ds h;obtain ⟨m,rfl,hf⟩:=mW Tryz.underlying34 h;obtain ⟨a1,b1,rfl,h1,a2,b2,rfl,h2,a3,b3,rfl,h3,a4,b4,rfl,h4,rfl⟩:=hf;obtain ⟨k,rfl,r1⟩:=j6 h1;obtain ⟨z,rfl,r2⟩:=j6 h2;obtain ⟨s,rfl⟩:=Is Tryz.underlying9 h3;obtain ⟨j,es,rfl,rfl,iR⟩:=rA Tryz.underlying32 h4;obtain ⟨l,rfl,r3,wl⟩:=Bq (fun i hi=>ih i (by omega)) iR;rw [sP];refine ⟨.mk k z s l,rfl,by rw [rngW];exact ⟨r1,r2,r3⟩,?_⟩;simp only [Val.wt,eU,wgL,wgD] at *;omega
namespace Dv
end Dv
namespace Dv
open Go.ChangeShapes Go.WideShapes Go.ChangeAt
theorem arg_sl {H:Type} {enc:TypeId × Value->H} {P:Program} {W:World} {base:Nat} {S:List TypeId} {bk:DataW H->Nat} (mr:Bk bk) (hS:∀ t∈S,lN P S t=true) {t e:TypeId} {v:Value} {d:DataW H} {ps:List MemPlace} (ht:t∈S) (hu:P.underlying t=some (.slice e))
  (hval:Value.okWide P W .any base t v) (h:DataW.Trod enc P W 0 (fun _=>true) true t v d ps):∃ n x,Rv (B1 W) x v/\Typ P n t [x]/\wgL [x]<=64 * bk d:=by
 obtain ⟨a,len,cap,rfl⟩:=okWide_slice hu hval;obtain ⟨n,hn⟩:=h;obtain ⟨ds,h1,h2,h3,h4,h5⟩:=lO mr hS n t _ _ ht hn
 cases ds with
 | nil=>simp only [RvL,Value.cells] at h1;cases h1
 | cons x r=>
  simp only [RvL,Value.cells] at h1;obtain ⟨u,s,h6,h7,h8⟩:=h1;have h6:Value.slice a len cap=u/\s=[]:=by simpa [eq_comm] using h6
  obtain ⟨rfl,rfl⟩:=h6
  cases r with
  | nil=>exact ⟨n,x,h7,h3,h4⟩
  | cons y r=>grind [RvL]
end Dv
theorem typ_vals {n:Nat} {ds:List DV} (h:Typ prog n 32 ds):∃ l:List Val,ds=[.sl 4 (dVals l) none]/\rngWs l/\cF l<=wgL ds:=by
 obtain ⟨j,es,rfl,rfl,iR⟩:=rA Tryz.underlying32 h;obtain ⟨l,rfl,r3,wl⟩:=Bq (fun i _=>Oe i) iR;rw [sP];exact ⟨l,rfl,r3,by simp only [wgL,wgD];omega⟩
namespace Dv
open Go.ChangeShapes Go.WideShapes Go.ChangeAt
theorem QK {H:Type} {enc:TypeId × Value->H} {P:Program} {W:World} {base:Nat} {S:List TypeId} {bk:DataW H->Nat} (mr:Bk bk) (hS:∀ t∈S,lN P S t=true) {t e:TypeId} {v:Value} {d:DataW H} {ps:List MemPlace} (he:e∈S) (hu:P.underlying t=some (.array 3 e)) (hc:P.cellsOf e=1) (HK:P.cellsOf t=3)
  (hval:Value.okWide P W .any base t v) (h:DataW.Trod enc P W 0 (fun _=>true) true t v d ps):∃ n a b c,Rv (B1 W) (.agg (a ++ (b ++ c))) v/\Typ P n e a/\Typ P n e b/\Typ P n e c:=by
 unfold Value.okWide at hval;rw [hu] at hval;obtain ⟨cs,rfl,_,_⟩:=hval;obtain ⟨n,hn⟩:=h;obtain ⟨xs,m,rfl,hx,hlen,uP,hf⟩:=DataW.trod_array hu hn
 match xs,uP with
 | [x,y,z],_=>
  obtain ⟨a,a1,a2,a3,_,_⟩:=lO mr hS m e _ x he (hf 0 (by omega));obtain ⟨b,b1,b2,b3,_,_⟩:=lO mr hS m e _ y he (hf 1 (by omega));obtain ⟨c,c1,c2,c3,_,_⟩:=lO mr hS m e _ z he (hf 2 (by omega));cases hx;rw [HK] at hlen;have h1:(Value.agg cs).cells.toList=cs.toList:=rfl;rw [h1] at hlen
  have cx:cs.toList=(cs.toList.drop (0 * P.cellsOf e)).take (P.cellsOf e) ++ ((cs.toList.drop (1 * P.cellsOf e)).take (P.cellsOf e) ++ (cs.toList.drop (2 * P.cellsOf e)).take (P.cellsOf e)):=by
   rw [hc]
   match hL:cs.toList,hlen with
   | [p,q,r],_=>rfl
  refine ⟨m,a,b,c,?_,a3,b3,c3⟩;unfold Rv;refine ⟨cs.toList,by simp,?_,?_⟩
  ·rw [cx];exact RvL.append a1 (RvL.append b1 c1)
  ·rw [cx];intro v hv;rcases List.mem_append.1 hv with hv | hv
   ·exact a2 v hv
   ·rcases List.mem_append.1 hv with hv | hv
    ·exact b2 v hv
    ·exact c2 v hv
end Dv
theorem arg_i3 {H:Type} {enc:TypeId × Value->H} {W:World} {base:Nat} {v:Value} {d:DataW H} {ps:List MemPlace}
  (hval:Value.okWide prog W .any base 70 v) (h:DataW.Trod enc prog W 0 (fun _=>true) true 70 v d ps):∃ x y z:Int,Rv (B1 W) (.agg [.v (.int .i64 x),.v (.int .i64 y),.v (.int .i64 z)]) v:=by
 obtain ⟨n,a,b,c,hr,ha,hb,hc⟩:=QK (e:=3) bk_ok tyVS_ok (by simp [tyVS]) Tryz.underlying70 (by kernel_rfl) (by kernel_rfl) hval h;obtain ⟨x,rfl,_⟩:=j6 ha;obtain ⟨y,rfl,_⟩:=j6 hb;obtain ⟨z,rfl,_⟩:=j6 hc;exact ⟨x,y,z,hr⟩
theorem oB (n:Int) (p:ByteArray):Ev prog 355 [.v (.int .i64 n),.v (.string p)] [] [] (fun d _ _=>∃ b:Bool,d = .v (.bool b)):=by
 have hc:=wT (IntKind.i32.wrap n);refine eG 22 [.tmp 4] func355 rfl ntmps355 rfl fun _ _ _ _=>?_;refine cP RO hc ?_;refine br ?_ ?_<;>intro c
 ·refine ⟨⟨by omega,by omega,by simp at c;omega⟩,?_⟩;exact ⟨_,rfl⟩
 ·exact ⟨_,rfl⟩
abbrev lf01St (p a z:ByteArray) (e:Nat):St:=⟨[(0,⟨[],.v (.string p)⟩),(3,⟨[],.v (.string a)⟩),(4,⟨[],.v (.string z)⟩),ap 5 e],[],[]⟩
theorem size_app (a b:ByteArray):(a ++ b).size=a.size + b.size:=by rw [<- bf,lM,List.length_append,bf,bf]
theorem D0 (p:ByteArray) (hp:1<=p.size/\p.size<=3):Ev prog 333 [.v (.string p)] [] [] (fun d _ _=>∃ b:Bool,d = .v (.bool b)):=by
 refine eG 40 [.tmp 2] func333 rfl ntmps333 rfl fun _ _ _ _=>?_;refine lI (fun j st=>∃ (e:Nat) (a z:ByteArray),st=lf01St p a z e/\e<=4/\p.size<=a.size/\a.size<=4/\z.size=a.size/\j=4 - e) ⟨0,p,p,rfl,by omega,by omega,by omega,rfl,rfl⟩ (wkM jT) ?_;rintro j st ⟨e,a,z,rfl,he,ha,ha4,hz,rfl⟩;have hra:=oZ a (by omega);have hrz:=oZ z (by omega);have hba:=oB (recV (tx a)) p;have hbz:=oB (recV (tx z)) p;refine br ?_ ?_<;>intro hL
 rotate_left
 ·exact ⟨_,rfl⟩
 have al:e < 4:=by have:=of_decide_eq_true hL;omega
 have fx:∀ (a' z':ByteArray),p.size<=a'.size->a'.size<=4->z'.size=a'.size->∃ j',j' < 4 - e/\∃ (e':Nat) (a'' z'':ByteArray),lf01St p a' z' (e + 1)=lf01St p a'' z'' e' /\ e' <= 4/\p.size<=a''.size/\a''.size<=4/\z''.size=a''.size/\j'=4 - e':=fun a' z' h1 h2 h3=>⟨4 - (e + 1),by omega,e + 1,a',z',rfl,by omega,h1,h2,h3,rfl⟩;refine br ?_ ?_<;>intro c
 ·refine cP Mo hra ?_;refine bp RQ rfl hba ax (fun q hq=>?_);obtain ⟨b1,rfl⟩:=hq
  cases b1 with
  | true=>
   exact ⟨_,rfl⟩
  | false=>
   refine cP Mo hrz ?_;refine bp RQ rfl hbz ax (fun q hq=>?_);obtain ⟨b2,rfl⟩:=hq
   cases b2 with
   | true=>
     exact ⟨_,rfl⟩
   | false=>
    refine br ?_ ?_<;>intro g
    ·refine ⟨[128],rfl,?_⟩;refine ⟨by show a.size + 1<=_;omega,?_⟩;refine ⟨[191],rfl,?_⟩;refine ⟨by show z.size + 1<=_;omega,?_⟩;obtain ⟨j',h1,h2⟩:=fx (a ++ ba [128]) (z ++ ba [191]) (by rw [size_app];omega) (by rw [size_app];have:=of_decide_eq_true g;show _ + 1<=4;omega) (by rw [size_app,size_app,hz];rfl);exact ⟨lf01St p (a ++ ba [128]) (z ++ ba [191]) (e + 1),(wkM (wB1 (nxt al (by omega)))),j',h1,h2⟩
    ·obtain ⟨j',h1,h2⟩:=fx a z ha ha4 hz;exact ⟨lf01St p a z (e + 1),(wkM (wB1 (nxt al (by omega)))),j',h1,h2⟩
 ·refine br ?_ ?_<;>intro g
  ·refine ⟨[128],rfl,?_⟩;refine ⟨by show a.size + 1<=_;omega,?_⟩;refine ⟨[191],rfl,?_⟩;refine ⟨by show z.size + 1<=_;omega,?_⟩;obtain ⟨j',h1,h2⟩:=fx (a ++ ba [128]) (z ++ ba [191]) (by rw [size_app];omega) (by rw [size_app];have:=of_decide_eq_true g;show _ + 1<=4;omega) (by rw [size_app,size_app,hz];rfl);exact ⟨lf01St p (a ++ ba [128]) (z ++ ba [191]) (e + 1),(wkM (wB1 (nxt al (by omega)))),j',h1,h2⟩
  ·obtain ⟨j',h1,h2⟩:=fx a z ha ha4 hz;exact ⟨lf01St p a z (e + 1),(wkM (wB1 (nxt al (by omega)))),j',h1,h2⟩
theorem wrap32 {n:Int} (h1 : -2147483648<=n) (h2:n<=2147483647):IntKind.i32.wrap n=n:=by
 simp [IntKind.wrap,IntKind.min,IntKind.max,IntKind.signed,IntKind.bits];omega
abbrev xe (s:ByteArray) (e:Nat):St:=⟨[(0,⟨[],.v (.string s)⟩),ap 7 ((e + 1:Nat):Int)],[],[]⟩
abbrev GU (s:ByteArray) (m:Int) (e:Nat):St:=⟨[(0,⟨[],.v (.string s)⟩),ap 9 m,ap 10 ((e + 2:Nat):Int)],[],[]⟩
theorem Og (l:List UInt8) : -2147483648<=recV l/\recV l<=2147483647:=by
 have hb:=fun x:UInt8=>x.toNat_lt
 match l with
 | []=>simp [recV]
 | [a]=>have:=hb a;simp only [recV];omega
 | [a,b]=>have:=hb a;have:=hb b;simp only [recV];omega
 | [a,b,c]=>have:=hb a;have:=hb b;have:=hb c;simp only [recV];omega
 | [a,b,c,d]=>have:=hb a;have:=hb b;have:=hb c;have:=hb d;simp only [recV];omega
 | _ :: _ :: _ :: _ :: _ :: _=>simp [recV]
theorem uw (s:ByteArray) (n:Nat):tx (s.extract 0 n)=(tx s).take n:=by simp [tx]
theorem Oh {s:ByteArray} {l:List UInt8} {k:Nat} (hB:tx s=l):s.extract 0 k=ba (l.take k):=mU (by rw [uw,hB])
theorem Oi {a b:List UInt8}:ba a=ba b↔a=b:=⟨fun h=>by have:=congrArg tx h;rwa [fh,fh] at this,fun h=>by rw [h]⟩
theorem xf (s:ByteArray) (at':Nat) (hs:s.size<=1099511627776) (c:UInt8) (r:List UInt8) (h:(tx s).drop at'=c :: r) :
  Ev prog 306 [.v (.string s),.v (.int .i64 at')] [] [] (fun d _ _=>∃ (z:Int) (n:Int),d = .tup [.v (.int .i32 z),.v (.int .i64 n),.v (.bool (okU (c :: r)))]/\(okU (c :: r)=true->n=aE c.toNat/\z=recV ((c :: r).take (aE c.toNat))/\kW z=true)):=by
 have hlen:at' < s.size:=by
  have:=congrArg List.length h;rw [List.length_drop,bf] at this;simp at this;omega
 have hB:tx (s.extract (at':Int).toNat (s.size:Int).toNat)=c :: r:=by
  rw [<- h];simp [tx,jU];exact List.take_of_length_le (by rw [List.length_drop];have:=bf s;unfold tx at this;omega)
 have bM:(s.extract (at':Int).toNat (s.size:Int).toNat).size=r.length + 1:=by rw [<- bf,hB];all_goals rfl
 have hwf:=fun n=>QJ c r n;have bu:=fun (h:okU (c :: r)=true)=>l7 h;refine eG 65 [.tmp 4,.tmp 5,.tmp 6] func306 rfl ntmps306 rfl fun _ _ _ _=>?_;refine br (fun c=>absurd c (by simp [ak];omega)) (fun _=>?_);refine ⟨⟨by omega,by omega,by omega⟩,?_⟩;generalize s.extract (at':Int).toNat (s.size:Int).toNat=b at hB bM ⊢;refine lI (fun j st=>∃ e:Nat,st=xe b e/\e<=4/\(okU (c :: r)=true->e < aE c.toNat)/\j=4 - e) ⟨0,rfl,by omega,fun h=>by obtain ⟨_,_,h1,h2,_⟩:=bu h;cases h1;omega,rfl⟩ (wkM jT) ?_;rintro j st ⟨e,rfl,he,aT,rfl⟩;refine br ?_ ?_<;>intro hL
 ·have hL:e < 4/\e<=r.length:=by
   simp [pickB_and,bM] at hL;omega
  have hx:(b.extract 0 (((e + 1:Nat):Int)).toNat)=ba ((c :: r).take (e + 1)):=Oh hB;have hbl:(ba ((c :: r).take (e + 1))).size=e + 1:=by rw [<- bf,fh,dE,List.length_cons];omega
  have hrec:=oZ (b.extract 0 (((e + 1:Nat):Int)).toNat) (by rw [hx];omega);rw [show tx (b.extract 0 (((e + 1:Nat):Int)).toNat)=(c :: r).take (e + 1) from by rw [hx,fh]] at hrec;have hri:=Og ((c :: r).take (e + 1));have hw:=hwf (e + 1) (by omega) (by omega) (by omega);have UG:SG ((c :: r).take (e + 1))=(kW (recV ((c :: r).take (e + 1))) && decide (DX (recV ((c :: r).take (e + 1)))=(c :: r).take (e + 1))):=rfl;rw [UG] at hw;have Pn:b.size=r.length + 1:=bM;generalize u4:(c :: r).take (e + 1)=l at hrec hri hw hx;generalize VS:recV l=z at hrec hri hw;have hzr:z=recV ((c :: r).take (e + 1)):=by rw [u4,VS]
  have QL:IntKind.i32.wrap z=z:=by
   exact wrap32 (by omega) (by omega)
  have Fh:EvP prog 331 [.v (.int .i32 (IntKind.i32.wrap z))] (.v (.bool (kW z))):=by
   rw [QL];exact sQ z
  have jS:EvP prog 332 [.v (.int .i32 (IntKind.i32.wrap z))] (.v (.string (ba (DX z)))):=by
   rw [QL];exact wT z
  generalize hsb:kW z=sb at Fh hw;generalize DX z=en at jS hw;refine ⟨⟨by omega,by omega,by omega⟩,?_⟩;refine cP Mo hrec ?_
  have zS:okU (c :: r)=false∨e + 1≠aE c.toNat->∃ j',j' < 4 - e/\∃ e',xe b (e + 1)=xe b e' /\ e' <= 4/\(okU (c :: r)=true->e' < aE c.toNat)/\j'=4 - e':=fun h=>⟨4 - (e + 1),by omega,e + 1,rfl,by omega,fun h2=>by
   have:=aT h2;rcases h with h | h
   ·rw [h] at h2;cases h2
   ·omega,rfl⟩
  have A4:(sb && decide (en=l))=false->okU (c :: r)=false∨e + 1≠aE c.toNat:=fun h=>by
   rw [h] at hw;cases ho:okU (c :: r)
   ·exact .inl rfl
   ·rw [ho] at hw;simp at hw;exact .inr fun h=>hw h.symm
  refine dI ?_;refine cD RN Fh ?_
  cases sb with
  | false=>
   obtain ⟨j',h1,h2⟩:=zS (A4 rfl);exact ⟨xe b (e + 1),(wkM (by repeat' (first | exact trivial | exact we_rfl rfl | exact we_int (nxt (by omega:e + 1 < 5) (by omega)) | refine ⟨⟨_,rfl,?_⟩,?_⟩))),j',h1,h2⟩
  | true=>
   refine cD RO jS ?_;refine ⟨⟨by omega,by omega,by omega⟩,?_⟩;refine br ?_ ?_<;>intro cc
   ·have hT:(true && decide (en=l))=true:=by
     have c1:ba en=b.extract 0 (((e + 1:Nat):Int)).toNat:=by simpa [pickB] using cc
     rw [hx,Oi] at c1;simp [c1]
    rw [hT] at hw;have hu:=hw.symm;rw [aO,decide_eq_true_iff] at hu;rw [hu.1];exact ⟨.tup [.v (.int .i32 (IntKind.i32.wrap z)),.v (.int .i64 ((e + 1:Nat):Int)),.v (.bool true)],ax,_,_,rfl,fun _=>⟨by rw [hu.2],by rw [QL,hzr,hu.2],by rw [QL,hsb]⟩⟩
   ·have hF:(true && decide (en=l))=false:=by
     have c1:¬ ba en=b.extract 0 (((e + 1:Nat):Int)).toNat:=by simpa [pickB] using cc
     rw [hx,Oi] at c1;simp [c1]
    obtain ⟨j',h1,h2⟩:=zS (A4 hF);exact ⟨xe b (e + 1),(wkM (by repeat' (first | exact trivial | exact we_rfl rfl | exact we_int (nxt (by omega:e + 1 < 5) (by omega)) | refine ⟨⟨_,rfl,?_⟩,?_⟩))),j',h1,h2⟩
 ·have fH:okU (c :: r)=false:=by
   cases ho:okU (c :: r)
   ·rfl
   ·obtain ⟨_,_,h1,h2,h3,_⟩:=bu ho;cases h1;have h4:=aT ho;have h5:=qz c.toNat;rw [List.length_cons] at h3;simp [pickB_and,bM] at hL;omega
  rw [fH];refine lI (fun j st=>∃ (e:Nat) (m:Int),st=GU b m e/\e<=2/\j=2 - e) ⟨0,1,rfl,by omega,rfl⟩ (wkM jT) ?_;rintro j st ⟨e,m,rfl,he,rfl⟩;refine br ?_ ?_<;>intro hL
  ·have hL:e < 2/\e + 1<=r.length:=by
    simp [pickB_and,bM] at hL;omega
   have hx:(b.extract 0 (((e + 2:Nat):Int)).toNat)=ba ((c :: r).take (e + 2)):=Oh hB;have hbl:(ba ((c :: r).take (e + 2))).size=e + 2:=by rw [<- bf,fh,dE,List.length_cons];omega
   have ue:=D0 (b.extract 0 (((e + 2:Nat):Int)).toNat) (by rw [hx];omega);refine ⟨⟨by omega,by omega,by rw [bM];omega⟩,?_⟩;refine bp XM rfl ue ax (fun q hq=>?_);obtain ⟨b1,rfl⟩:=hq
   cases b1 with
   | true=>exact ⟨GU b ((e + 2:Nat):Int) (e + 1),(wkM (by repeat' (first | exact trivial | exact we_rfl rfl | exact we_int (nxt (by omega:e + 2 < 4) (by omega)) | refine ⟨⟨_,rfl,?_⟩,?_⟩))),2 - (e + 1),by omega,e + 1,_,rfl,by omega,rfl⟩
   | false=>exact ⟨GU b m (e + 1),(wkM (by repeat' (first | exact trivial | exact we_rfl rfl | exact we_int (nxt (by omega:e + 2 < 4) (by omega)) | refine ⟨⟨_,rfl,?_⟩,?_⟩))),2 - (e + 1),by omega,e + 1,_,rfl,by omega,rfl⟩
  ·exact ⟨.tup [.v (.int .i32 0),.v (.int .i64 m),.v (.bool false)],ax,_,_,rfl,fun h=>by cases h⟩
def spB:List DV->Bool
 | [.v (.int .i32 _),.v (.int .i32 _)]=>true
 | _=>false
theorem Oj {cs:List DV} (h:spB cs=true):∃ a b:Int,cs=[.v (.int .i32 a),.v (.int .i32 b)]:=by
 unfold spB at h;split at h
 ·exact ⟨_,_,rfl⟩
 ·cases h
theorem SK {es:List (List DV)} (h:es.all spB=true) {i:Nat} (hi:i < es.length):∃ a b:Int,es[i]? = some [.v (.int .i32 a),.v (.int .i32 b)]:=by
 rw [List.all_eq_true] at h;obtain ⟨a,b,CL⟩:=Oj (h es[i] (List.getElem_mem hi))
 grind
def kz (z:Int):List DV->Bool
 | [.v (.int .i32 a),.v (.int .i32 b)]=>decide (a<=z) && decide (z<=b)
 | _=>false
def srtB:Int->List (List DV)->Bool
 | _,[]=>true
 | m,[.v (.int .i32 a),.v (.int .i32 b)] :: r=>decide (m < a) && decide (a<=b) && srtB b r
 | _,_=>false
theorem xg {m:Int} {x:List DV} {r:List (List DV)} (h:srtB m (x :: r)=true):∃ a b:Int,x=[.v (.int .i32 a),.v (.int .i32 b)]/\m < a/\a<=b/\srtB b r=true:=by
 unfold srtB at h
 grind
theorem ux:∀ {es:List (List DV)} {m:Int} (_:srtB m es=true) {i:Nat} {a b:Int} (_:es[i]? = some [.v (.int .i32 a),.v (.int .i32 b)]),m < a/\a<=b/\srtB b (es.drop (i + 1))=true
 | [],_,_,i,_,_,hi=>by simp at hi
 | x :: r,m,h,i,a,b,hi=>by
  obtain ⟨a0,b0,rfl,h1,h2,h3⟩:=xg h
  cases i with
  | zero=>grind
  | succ i=>
   obtain ⟨g1,g2,g3⟩:=ux h3 (i:=i) (sU hi);exact ⟨by omega,g2,g3⟩
theorem Ol {z:Int}:∀ {es:List (List DV)} {m:Int} (_:srtB m es=true) (_:z<=m),es.any (kz z)=false
 | [],_,_,_=>rfl
 | x :: r,m,h,hz=>by
  obtain ⟨a0,b0,rfl,h1,h2,h3⟩:=xg h;rw [List.any_cons,Ol h3 (by omega),Bool.or_false]
  grind [kz]
theorem UW {z m:Int} {es:List (List DV)} (h:srtB m es=true) {i:Nat} {a b:Int} (hi:es[i]? = some [.v (.int .i32 a),.v (.int .i32 b)]) (hz:z < a):(es.drop i).any (kz z)=false:=by
 obtain ⟨g1,g2,g3⟩:=ux h hi;rw [drop_cons hi,List.any_cons,Ol g3 (by omega),Bool.or_false]
 grind [kz]
theorem Om {z:Int}:∀ {es:List (List DV)} {m:Int} (_:srtB m es=true) {i:Nat} {a b:Int} (_:es[i]? = some [.v (.int .i32 a),.v (.int .i32 b)]) (_:b < z),(es.take (i + 1)).any (kz z)=false
 | [],_,_,i,_,_,hi,_=>by simp at hi
 | x :: r,m,h,i,a,b,hi,hz=>by
  obtain ⟨a0,b0,rfl,h1,h2,h3⟩:=xg h
  cases i with
  | zero=>grind [kz]
  | succ i=>
   have hi:r[i]? = some [.v (.int .i32 a),.v (.int .i32 b)]:=sU hi;have g1:=(ux h3 hi).1;have g2:=(ux h3 hi).2.1;rw [List.take_succ_cons,List.any_cons,Om h3 hi hz,Bool.or_false]
   grind [kz]
theorem I9 {es:List (List DV)} {z a b:Int} {i:Nat} (hi:es[i]? = some [.v (.int .i32 a),.v (.int .i32 b)]) (h1:a<=z) (h2:z<=b):es.any (kz z)=true:=
 List.any_eq_true.2 ⟨_,mG hi,by simp only [kz,aO,decide_eq_true_iff];omega⟩
def QM (d:DV) (_:List (List DV)) (_:List TkE):Prop:=∃ es:List (List DV),d = .sl 2 es none/\(Nat.ble es.length 1000 && es.all spB)=true
set_option maxHeartbeats 4000000 in
theorem On:Ev prog 357 [] [] [] QM:=by
 refine eG 118 [.tmp 0] func357 rfl ntmps357 rfl fun _ _ _ _=>?_;exact ⟨_,ax,_,rfl,rfl⟩
set_option maxHeartbeats 4000000 in
theorem Oo:Ev prog 358 [] [] [] QM:=by
 refine eG 84 [.tmp 0] func358 rfl ntmps358 rfl fun _ _ _ _=>?_;exact ⟨_,ax,_,rfl,rfl⟩
set_option maxHeartbeats 4000000 in
theorem GV:Ev prog 335 [] [] [] QM:=by
 refine eG 118 [.tmp 0] func335 rfl ntmps335 rfl fun _ _ _ _=>?_;exact ⟨_,ax,_,rfl,rfl⟩
set_option maxHeartbeats 4000000 in
theorem GW:Ev prog 336 [] [] [] QM:=by
 refine eG 84 [.tmp 0] func336 rfl ntmps336 rfl fun _ _ _ _=>?_;exact ⟨_,ax,_,rfl,rfl⟩
abbrev hasSt (es:List (List DV)) (z:Int) (e:Nat):St:=⟨[aU 0 2 es,(1,⟨[],.v (.int .i32 z)⟩),ap 5 e],[],[]⟩
theorem o8 (es:List (List DV)) (z:Int) (hl:es.length<=1000) (hs:es.all spB=true):Ev prog 334 [.sl 2 es none,.v (.int .i32 z)] [] [] (fun d _ _=>∃ b:Bool,d = .v (.bool b)/\(0<=z->z<=1114111->b=es.any (kz z))):=by
 refine eG 36 [.tmp 4] func334 rfl ntmps334 rfl fun _ _ _ _=>?_;refine lI (fun j st=>∃ e:Nat,st=hasSt es z e/\e<=es.length/\(0<=z->z<=1114111->es.any (kz z)=(es.drop e).any (kz z))/\j=es.length - e) ⟨0,rfl,by omega,fun _ _=>rfl,rfl⟩ (wkM jT) ?_;rintro j st ⟨e,rfl,he,VT,rfl⟩;refine br ?_ ?_<;>intro hL
 rotate_left
 ·have aM:e=es.length:=by have:=of_decide_eq_false hL;omega
  refine ⟨_,rfl,fun h1 h2=>?_⟩;rw [VT h1 h2,aM,List.drop_length];all_goals rfl
 have al:e < es.length:=by have:=of_decide_eq_true hL;omega
 obtain ⟨a,b,CL⟩:=SK hs al
 have fx:(0<=z->z<=1114111->¬ (a<=z/\z<=b))->∃ j',j' < es.length - e/\∃ e':Nat,hasSt es z (e + 1)=hasSt es z e' /\ e' <= es.length/\(0<=z->z<=1114111->es.any (kz z)=(es.drop e').any (kz z))/\j'=es.length - e':=fun fH=>⟨es.length - (e + 1),by omega,e + 1,rfl,by omega,fun h1 h2=>by
  rw [VT h1 h2,drop_cons CL,List.any_cons];have:kz z [.v (.int .i32 a),.v (.int .i32 b)]=false:=by grind [kz]
  rw [this,Bool.false_or],rfl⟩
 refine br ?_ ?_<;>intro c1
 ·refine ⟨_,⟨by omega,CL⟩,?_⟩;refine br ?_ ?_<;>intro c2
  ·have c2:a<=z:=by simpa [pickB_and] using c2
   refine ⟨_,⟨by omega,CL⟩,?_⟩;refine br ?_ ?_<;>intro c3
   ·exact ⟨_,rfl,fun _ _=>(I9 CL c2 (by simpa [pickB_and] using c3)).symm⟩
   ·obtain ⟨j',h1,h2⟩:=fx (fun _ _=>by simp [pickB_and] at c3;omega);exact ⟨hasSt es z (e + 1),(wkM (wB1 (nxt al (by omega)))),j',h1,h2⟩
  ·obtain ⟨j',h1,h2⟩:=fx (fun _ _=>by simp [pickB_and] at c2;omega);exact ⟨hasSt es z (e + 1),(wkM (wB1 (nxt al (by omega)))),j',h1,h2⟩
 ·obtain ⟨j',h1,h2⟩:=fx (fun _ _=>by simp [pickB_and] at c1;omega);exact ⟨hasSt es z (e + 1),(wkM (wB1 (nxt al (by omega)))),j',h1,h2⟩
abbrev UX (es:List (List DV)) (z:Int) (lo hi:Nat):St:=⟨[aU 0 2 es,(1,⟨[],.v (.int .i32 z)⟩),ap 5 lo,ap 6 hi],[],[]⟩
theorem Bs (es:List (List DV)) (z:Int) (hl:es.length<=1000) (hs:es.all spB=true):Ev prog 356 [.sl 2 es none,.v (.int .i32 z)] [] [] (fun d _ _=>∃ b:Bool,d = .v (.bool b)/\∀ m,srtB m es=true->b=es.any (kz z)):=by
 refine eG 38 [.tmp 4] func356 rfl ntmps356 rfl fun _ _ _ _=>?_;refine lI (fun j st=>∃ lo hi:Nat,st=UX es z lo hi/\lo<=hi/\hi<=es.length/\(∀ m,srtB m es=true->(es.take lo).any (kz z)=false/\(es.drop hi).any (kz z)=false)/\j=hi - lo) ⟨0,es.length,rfl,by omega,by omega,fun _ _=>⟨rfl,by rw [List.drop_length];rfl⟩,rfl⟩ (wkM jT) ?_;rintro j st ⟨lo,hi,rfl,h1,h2,VT,rfl⟩;refine br ?_ ?_<;>intro hL
 rotate_left
 ·have aM:lo=hi:=by have:=of_decide_eq_false hL;omega
  refine ⟨_,rfl,fun m hm=>?_⟩;obtain ⟨g1,g2⟩:=VT m hm;rw [<- aM] at g2;rw [<- List.take_append_drop lo es,List.any_append,g1,g2];all_goals rfl
 have al:lo < hi:=by have:=of_decide_eq_true hL;omega
 have hm:IntKind.i64.wrap ((lo:Int) + IntKind.i64.wrap ((IntKind.i64.wrap ((hi:Int) - lo)).tdiv 2))=((lo + (hi - lo) / 2:Nat):Int):=by grind [wrap64]
 obtain ⟨a,b,CL⟩:=SK hs (i:=lo + (hi - lo) / 2) (by omega);refine ⟨⟨rfl,by decide⟩,?_⟩;refine ⟨_,⟨by rw [hm];omega,by rw [hm,jU];exact CL⟩,?_⟩;refine br ?_ ?_<;>intro c
 ·exact ⟨UX es z lo (lo + (hi - lo) / 2),(wkM (wB1 hm)),lo + (hi - lo) / 2 - lo,by omega,_,_,rfl,by omega,by omega,fun m hm=>⟨(VT m hm).1,UW hm CL (sU c)⟩,rfl⟩
 ·refine ⟨_,⟨by rw [hm];omega,by rw [hm,jU];exact CL⟩,?_⟩;have c0:=c;refine br ?_ ?_<;>intro c
  ·have Ai:IntKind.i64.wrap (IntKind.i64.wrap ((lo:Int) + IntKind.i64.wrap ((IntKind.i64.wrap ((hi:Int) - lo)).tdiv 2)) + 1)=((lo + (hi - lo) / 2 + 1:Nat):Int):=by
    rw [hm,wrap64 (by omega) (by omega)];omega
   exact ⟨UX es z (lo + (hi - lo) / 2 + 1) hi,(wkM (wB1 Ai)),hi - (lo + (hi - lo) / 2 + 1),by omega,_,_,rfl,by omega,by omega,fun m hm=>⟨Om hm CL (sU c),(VT m hm).2⟩,rfl⟩
  ·exact ⟨_,rfl,fun _ _=>(I9 CL (sU c0) (sU c)).symm⟩
theorem D1 (z:Int):Ev prog 339 [.v (.int .i32 z)] [] [] (fun d _ _=>∃ b:Bool,d = .v (.bool b)):=by
 refine eG 6 [.tmp 2] func339 rfl ntmps339 rfl fun _ _ _ _=>?_;refine bp XW rfl On ax (fun q hq=>?_);obtain ⟨es,rfl,he⟩:=hq;rw [aO,Nat.ble_eq] at he;refine bp yV rfl (Bs es z he.1 he.2) ax (fun q hq=>?_);obtain ⟨b,rfl,_⟩:=hq;exact ⟨_,rfl⟩
theorem D2 (z:Int):Ev prog 340 [.v (.int .i32 z)] [] [] (fun d _ _=>∃ b:Bool,d = .v (.bool b)):=by
 refine eG 6 [.tmp 2] func340 rfl ntmps340 rfl fun _ _ _ _=>?_;refine bp XX rfl Oo ax (fun q hq=>?_);obtain ⟨es,rfl,he⟩:=hq;rw [aO,Nat.ble_eq] at he;refine bp yV rfl (Bs es z he.1 he.2) ax (fun q hq=>?_);obtain ⟨b,rfl,_⟩:=hq;exact ⟨_,rfl⟩
theorem KH (z:Int):Ev prog 309 [.v (.int .i32 z)] [] [] (fun d _ _=>∃ n:Int,d = .v (.int .i64 n)):=by
 refine eG 9 [.tmp 2] func309 rfl ntmps309 rfl fun _ _ _ _=>?_;refine bp XR rfl (D1 z) ax (fun q hq=>?_);obtain ⟨b,rfl⟩:=hq
 cases b with
 | true=>exact ⟨_,rfl⟩
 | false=>
  refine bp XS rfl (D2 z) ax (fun q hq=>?_);obtain ⟨b,rfl⟩:=hq
  cases b with
  | true=>exact ⟨_,rfl⟩
  | false=>exact ⟨_,rfl⟩
theorem D3 (z:Int):Ev prog 307 [.v (.int .i32 z)] [] [] (fun d _ _=>∃ n:Int,d = .v (.int .i64 n)):=by
 refine eG 9 [.tmp 2] func307 rfl ntmps307 rfl fun _ _ _ _=>?_;refine bp XN rfl GV ax (fun q hq=>?_);obtain ⟨es,rfl,he⟩:=hq;rw [aO,Nat.ble_eq] at he;refine bp Ie rfl (o8 es z he.1 he.2) ax (fun q hq=>?_);obtain ⟨b,rfl,_⟩:=hq
 cases b with
 | true=>exact ⟨_,rfl⟩
 | false=>
  refine bp XO rfl GW ax (fun q hq=>?_);obtain ⟨es,rfl,he⟩:=hq;rw [aO,Nat.ble_eq] at he;refine bp Ie rfl (o8 es z he.1 he.2) ax (fun q hq=>?_);obtain ⟨b,rfl,_⟩:=hq
  cases b with
  | true=>exact ⟨_,rfl⟩
  | false=>exact ⟨_,rfl⟩
theorem Oq (s:ByteArray) (hs:s.size<=1099511627776):EvP prog 308 [.v (.string s),.v (.int .i64 (s.size:Nat))] (.tup [.v (.int .i32 0),.v (.int .i64 0),.v (.bool false)]):=by
 refine eG 60 [.tmp 4,.tmp 5,.tmp 6] func308 rfl ntmps308 rfl fun _ _ _ _=>?_;refine br (fun _=>?_) (fun c=>absurd c (by simp [ak]));exact ⟨_,ax,rfl⟩
theorem KI (s:ByteArray) (at':Nat) (hs:s.size<=1099511627776) (h:at' <= s.size):Ev prog 260 [.v (.string s),.v (.int .i64 at')] [] [] (fun d _ _=>∃ c:Int,d = .tup [.v (.int .i64 c),.v (.int .i64 (gf ((tx s).drop at'):Nat))]):=by
 cases hd:(tx s).drop at' with
 | nil=>
  have he:at'=s.size:=by
   have:=congrArg List.length hd;rw [List.length_drop,bf,List.length_nil] at this;omega
  subst he;refine eG 24 [.tmp 4,.tmp 5] func260 rfl ntmps260 rfl fun _ _ _ _=>?_;refine cP Ml (Oq s hs) ?_;exact ⟨.tup [.v (.int .i64 0),.v (.int .i64 ((0:Nat):Int))],ax,_,rfl⟩
 | cons c r=>
  have hu:=zM s at' hs c r hd;have hun:gf (c :: r)=if okU (c :: r)=true then aE c.toNat else 1:=rfl
  rw [hun];generalize okU (c :: r)=ok at hu ⊢;refine eG 24 [.tmp 4,.tmp 5] func260 rfl ntmps260 rfl fun _ _ _ _=>?_;refine bp Ml rfl hu ax (fun q hq=>?_);obtain ⟨z,n,rfl,hn,hp⟩:=hq
  cases ok with
  | true=>
   have:=(hn rfl).1;subst this;refine bp XF rfl (KH z) ax (fun q hq=>?_);obtain ⟨m,rfl⟩:=hq;exact ⟨.tup [.v (.int .i64 m),.v (.int .i64 (aE c.toNat:Nat))],ax,_,rfl⟩
  | false=>
   refine br (fun _=>?_) (fun g=>absurd g (by simp;omega));exact ⟨.tup [.v (.int .i64 1),.v (.int .i64 ((1:Nat):Int))],ax,_,rfl⟩
theorem D4 (s:ByteArray) (hs:s.size<=1099511627776) (h:0 < s.size):Ev prog 259 [.v (.string s),.v (.int .i64 0)] [] [] (fun d _ _=>∃ c:Int,d = .tup [.v (.int .i64 c),.v (.int .i64 (gf (tx s):Nat))]):=by
 cases hd:tx s with
 | nil=>grind [bf]
 | cons c r=>
  have hu:=xf s 0 hs c r (by rw [List.drop_zero];exact hd);have hun:gf (c :: r)=if okU (c :: r)=true then aE c.toNat else 1:=rfl
  rw [hun];generalize okU (c :: r)=ok at hu ⊢;refine eG 21 [.tmp 4,.tmp 5] func259 rfl ntmps259 rfl fun _ _ _ _=>?_;refine bp RL rfl hu ax (fun q hq=>?_);obtain ⟨z,n,rfl,hn⟩:=hq
  cases ok with
  | true=>
   have:=(hn rfl).1;subst this;refine bp XE rfl (D3 z) ax (fun q hq=>?_);obtain ⟨m,rfl⟩:=hq;exact ⟨.tup [.v (.int .i64 m),.v (.int .i64 (aE c.toNat:Nat))],ax,_,rfl⟩
  | false=>
   exact ⟨.tup [.v (.int .i64 1),.v (.int .i64 ((1:Nat):Int))],ax,_,rfl⟩
end Go.Proofs.YtgjagnmeonoehaaGreat
set_option maxRecDepth 100000
namespace Go.Proofs
open Go.Shelf
def Tryz.laysB_ren:Go.Shelf.Ren:=⟨fun | 240=>149 | 276=>217 | n=>n,fun | 9=>9 | 4=>4 | 0=>0 | 20=>20 | 72=>160 | 70=>157 | 37=>158 | 164=>316 | 5=>5 | n=>n,fun | n=>n⟩
theorem Tryz.laysB:Go.Proofs.Lays.n240 Tryz.prog Tryz.laysB_ren:={
 mixed:=by kernel_rfl
 f240:=Tryz.func149.trans (congrArg some (by kernel_rfl))
 f276:=Tryz.func217.trans (congrArg some (by kernel_rfl))
 t0:=Tryz.underlying0
 a0:=Tryz.isAgg0
 z0:=Tryz.sizeOf0
 v0:=Tryz.zeroValue0
 t4:=Tryz.underlying4
 a4:=Tryz.isAgg4
 z4:=Tryz.sizeOf4
 v4:=Tryz.zeroValue4
 t9:=Tryz.underlying9
 a9:=Tryz.isAgg9
 z9:=Tryz.sizeOf9
 v9:=Tryz.zeroValue9
 t20:=Tryz.underlying20
 a20:=Tryz.isAgg20
 z20:=Tryz.sizeOf20
 v20:=Tryz.zeroValue20
 t70:=Tryz.underlying157
 a70:=Tryz.isAgg157
 z70:=Tryz.sizeOf157
 v70:=Tryz.zeroValue157
 t72:=Tryz.underlying160
 a72:=Tryz.isAgg160
 z72:=Tryz.sizeOf160
 v72:=Tryz.zeroValue160
 t164:=Tryz.underlying316
 a164:=Tryz.isAgg316
 z164:=Tryz.sizeOf316
 v164:=Tryz.zeroValue316 }
theorem Tryz.laysBX:Builder.Extra Tryz.prog Tryz.laysB_ren:={
 sizeBuilder:=by kernel_rfl
 liesBuilder:=by kernel_rfl
 t5:=Tryz.underlying5
 a5:=Tryz.isAgg5
 z5:=Tryz.sizeOf5
 v5:=Tryz.zeroValue5
 infoByte:=by kernel_rfl
 cellsByte:=by kernel_rfl
 sizeByte:=by kernel_rfl
 neB5:=by decide }
end Go.Proofs
set_option maxRecDepth 100000
namespace Go.Proofs.YtgjagnmeonoehaaGreat
open Go Go.RowKit Go.Lib Dv Go.Proofs.Tryz
theorem l8 {P:Program} (w:World) (t u ty e:TypeId) (i:TypeInfo) (ht:P.underlying t=some (.slice e)) (hu:P.underlying u=some .string) (hi:P.info? e=some i) (hz:i.zero=some (.int .u8 0))
  (jm:i.size=1) (uB:i.bytes=1) (v:Value) (n:Nat) (xs:List Value) (cL:w.ownsRow 0 e 1 v n xs) (s:ByteArray) (K7:n + s.size<=maxLen) (jo:n + s.size<=140737488355328) (hs:0 < s.size) :
  ∃ g cap w',(Builtin.append_ #[t,u] ty #[v,.string s]).run P w = .ok (.slice (some ⟨g,0,none⟩) (n + s.size) cap) w' /\ w'.ownsRow 0 e 1 (.slice (some ⟨g,0,none⟩) (n + s.size) cap) (n + s.size) (xs ++ strCells s)/\w.grownBy w' v.ownBlock /\
   ((v.ownBlock=some g)∨(w.heap.size<=g/\∀ k,k < w.heap.size->w'.heap[k]? = w.heap[k]?)):=by
 obtain ⟨v',w',hr,h2,h3,h4⟩:=Lib.run_append_own_string (P:=P) w 0 t u ty e i ht hu hi hz jm uB v n xs cL s K7 jo (Nat.zero_le _);have Lp:n + s.size<=9223372036854775807:=by simp only [maxLen] at K7;omega
 have uP:xs.length=n:=by simpa using cL.1
 rcases cL.2 with ⟨rfl,rfl⟩ | ⟨g,cap,cur,rfl,hbg,hg,tT,hcm,cx,htake⟩
 ·have hr2:=run_append_nil_string (P:=P) w t u ty e i (.int .u8 0) ht hu hi hz s hs (by omega) (by rw [uB];omega);rw [hr2] at hr;injection hr with e1 e2
  subst e1;simp only [Nat.zero_add] at *;exact ⟨_,_,w',by rw [hr2,e2],h2,h3,.inr ⟨aJ _,fun k hk=>by rw [<- e2];exact Below.heap_alloc w.drew _ k hk⟩⟩
 ·by_cases Hz:n + s.size<=cap
  ·have hcs':cur.size=cap:=sU cx;have hr2:=Lib.run_append_room_string (P:=P) w t u ty e i ht hu hi jm g n cap cur hg s Hz (by omega);rw [hr2] at hr;injection hr with e1 e2
   subst e1;exact ⟨_,_,w',by rw [hr2,e2],h2,h3,.inl rfl⟩
  ·have holds:∀ j u,xs[j]? = some u->w.cell? ((⟨g,0,none⟩:Addr).add j)=some u:=cL.cells (g:=g) rfl;have hr2:=Lib.run_append_grow_string (P:=P) w t u ty e i (.int .u8 0) ht hu hi hz ⟨g,0,none⟩ n cap xs (by rw [jm];simpa using uP) holds s (by omega) (by omega) (by rw [uB];exact growslice_fits (by omega) (by omega));rw [hr2] at hr;injection hr with e1 e2
   subst e1;exact ⟨_,_,w',by rw [hr2,e2],h2,h3,.inr ⟨aJ _,fun k hk=>by rw [<- e2];exact Below.heap_alloc w.drew _ k hk⟩⟩
theorem sX {w:World} {b:Nat} {o:Obj} (h:w.heap[b]? = some o):World.cS w b o=w:=by
 obtain ⟨hb,hg⟩:=Array.getElem?_eq_some_iff.1 h;have e:w.heap.setIfInBounds b o=w.heap:=by grind
 show { w with heap:=w.heap.setIfInBounds b o }=w;rw [e]
abbrev il (w:World) (b:Nat) (v:Value):World:=World.cS w b (.cells #[.pointer (some ⟨b,0,none⟩),v] 160 (0,0))
theorem xi (b:Nat) (p v:Value) (w:World) (hp:p = .pointer none∨p = .pointer (some ⟨b,0,none⟩)) (mr:w.heap[b]? = some (.cells #[p,v] 160 (0,0))) :
  Calls prog 149 #[.pointer (some ⟨b,0,none⟩)] w fun e w'=>e = .returned (.tuple #[])/\w'=il w b v:=by
 rcases hp with rfl | rfl
 ·refine (Any.Builder_copyCheck_fresh Tryz.laysB Tryz.laysBX.toX72 b w (by rw [Lib.cell_of_heap mr];rfl) (by simp [World.shape?,mr,Tryz.laysB_ren]) (by simp [World.frozen?,mr])).mono ?_;rintro e w' ⟨rfl,rfl⟩;exact ⟨rfl,by rw [eO mr];rfl⟩
 ·refine (Any.Builder_copyCheck_used Tryz.laysB Tryz.laysBX.toX72 b w (by rw [Lib.cell_of_heap mr];rfl)).mono ?_;rintro e w' ⟨rfl,rfl⟩;exact ⟨rfl,(sX mr).symm⟩
theorem o9 {P:Program} {w:World} {ops:Array Oper} {rest:List Oper} {o:Oper} {a:Act} {Q:Exit->Act->World->Prop} (Ld:o.guard=none) (sl x:Operand) (t u:TypeId)
  (ho:o.op = .call { callee:=.builtin .append,args:=#[sl,x],argTypes:=#[t,u] })
  (e:TypeId) (i:TypeInfo) (ht:P.underlying t=some (.slice e)) (hu:P.underlying u=some .string) (hi:P.info? e=some i) (hz:i.zero=some (.int .u8 0))
  (jm:i.size=1) (uB:i.bytes=1)
  (v:Value) (n:Nat) (xs:List Value) (hs:a.eval sl=v) (cL:w.ownsRow 0 e 1 v n xs) (s:ByteArray) (hx:a.eval x = .string s)
  (K7:n + s.size<=maxLen) (jo:n + s.size<=140737488355328) (kk:0 < s.size)
  (h:∀ g cap w',w'.ownsRow 0 e 1 (.slice (some ⟨g,0,none⟩) (n + s.size) cap) (n + s.size) (xs ++ strCells s)->w.grownBy w' v.ownBlock->((v.ownBlock=some g)∨(w.heap.size<=g/\∀ k,k < w.heap.size->w'.heap[k]? = w.heap[k]?)) ->
   wpList P ops Q rest (a.put o.dst (.slice (some ⟨g,0,none⟩) (n + s.size) cap)) w'):wpList P ops Q (o :: rest) a w:=by
 refine wpList_plain Ld fun K hK=>?_;obtain ⟨g,cap,w',hr,h2,h3,h4⟩:=l8 (P:=P) w t u o.type e i ht hu hi hz jm uB v n xs cL s K7 jo kk;unfold Oper.wp execOp;simp only [ho,resolve,invoke,builtin,Sem.run_bind,Sem.run_pure,Result.andThen_ok,List.map_toArray,List.map_cons,List.map_nil,hs,hx,hr];exact hK _ _ (h g cap w' h2 h3 h4)
def GX (ret:Value) (w:World) (b:Nat) (v:Value) (n:Nat) (xs:List Value) (s:ByteArray) (e:Ending) (w':World):Prop:=
 e = .returned ret/\∃ g cap w2,w2.ownsRow 0 5 1 (.slice (some ⟨g,0,none⟩) (n + s.size) cap) (n + s.size) (xs ++ strCells s)/\(il w b v).grownBy w2 v.ownBlock /\
  ((v.ownBlock=some g)∨((il w b v).heap.size<=g/\∀ k,k < (il w b v).heap.size->w2.heap[k]? = (il w b v).heap[k]?)) /\
  w'=World.cS w2 b (.cells #[.pointer (some ⟨b,0,none⟩),.slice (some ⟨g,0,none⟩) (n + s.size) cap] 160 (0,0))
theorem Bt {w:World} {b e n:Nat} {v:Value} {xs:List Value} {o:Obj} (h:w.ownsRow 0 e 1 v n xs) (aT:v.ownBlock≠some b):(World.cS w b o).ownsRow 0 e 1 v n xs:=by
 refine ⟨h.1,?_⟩;rcases h.2 with h | ⟨g,cap,cur,rfl,h1,h2,h3⟩
 ·exact .inl h
 ·refine .inr ⟨g,cap,cur,rfl,h1,?_,h3⟩;rw [b9]
  ·exact h2
  ·rintro rfl;exact aT rfl
set_option maxHeartbeats 2000000 in
theorem UY (b:Nat) (p v:Value) (n:Nat) (xs:List Value) (s:ByteArray) (w:World) (hp:p = .pointer none∨p = .pointer (some ⟨b,0,none⟩)) (mr:w.heap[b]? = some (.cells #[p,v] 160 (0,0)))
  (cL:w.ownsRow 0 5 1 v n xs) (aT:v.ownBlock≠some b) (hs:0 < s.size) (hlen:n + s.size<=140737488355328) :
  Calls prog 74 #[.pointer (some ⟨b,0,none⟩),.string s] w (GX (.tuple #[.int .i64 s.size,.nilIface]) w b v n xs s):=by
 obtain ⟨i0,hi,VS,hz1,Qc⟩:=info_parts Tryz.laysBX.infoByte
 go_enter func74,ntmps74
 go_wp2_with (go_at_call 149;refine (xi b p v _ hp mr).mono ?_)
 rintro e w1 ⟨rfl,rfl⟩;have gT:(il w b v).heap[b]? = some (.cells #[.pointer (some ⟨b,0,none⟩),v] 160 (0,0)):=dy mr;have D5:(il w b v).ownsRow 0 5 1 v n xs:=Bt cL aT;have c0:(il w b v).cell? ⟨b,0,none⟩=some (.pointer (some ⟨b,0,none⟩)):=by rw [Lib.cell_of_heap gT];all_goals rfl
 have c1:(il w b v).cell? ⟨b,1,none⟩=some v:=by rw [Lib.cell_of_heap gT];all_goals rfl
 have al:b < (il w b v).heap.size:=cy gT;obtain ⟨W1,Ot⟩:∃ W1,W1=il w b v:=⟨_,rfl⟩;rw [<- Ot] at gT D5 c0 c1 al ⊢;have HW:=Lib.hid Ot;clear Ot
 go_wp2_with (at_builtin;refine o9 rfl _ _ 158 9 rfl 5 i0 Tryz.underlying158 Tryz.underlying9 hi VS hz1 Qc _ _ _ rfl D5 s rfl ?c3 ?c4 hs ?_)
 case c3=>unfold maxLen;omega
 case c4=>omega
 intro g cap w2 Ou mi Ce
 have gg:w2.heap[b]? = some (.cells #[.pointer (some ⟨b,0,none⟩),v] 160 (0,0)):=by
  rw [mi.block b al (fun e=>aT e.symm)];exact gT
 have d0:w2.cell? ⟨b,0,none⟩=some (.pointer (some ⟨b,0,none⟩)):=by rw [Lib.cell_of_heap gg];all_goals rfl
 have d1:w2.cell? ⟨b,1,none⟩=some v:=by rw [Lib.cell_of_heap gg];all_goals rfl
 have f1:w2.frozen? ⟨b,1,none⟩=false:=Lib.frozen_of_heap gg 1
 go_wp2
 go_ret2
 refine ⟨rfl,g,cap,w2,Ou,by rw [<- HW.out];exact mi,by rw [<- HW.out];exact Ce,?_⟩;rw [eO gg];rfl
set_option maxHeartbeats 1000000 in
theorem UZ (b g cap:Nat) (p:Value) (l:List UInt8) (cur:Array Value) (w:World) (h0:l ≠ []) (mr:w.heap[b]? = some (.cells #[p,.slice (some ⟨g,0,none⟩) l.length cap] 160 (0,0)))
  (hg:w.heap[g]? = some (.cells cur 5 (0,0))) (tT:l.length<=cap) (hcm:cap<=maxLen) (cx:cur.size=cap * 1) (htake:cur.toList.take (l.length * 1)=Lib.byteCells l) :
  Calls prog 76 #[.pointer (some ⟨b,0,none⟩)] w fun e w'=>e = .returned (.string ⟨l.toArray⟩)/\w'=w.drew.freeze ⟨g,0,none⟩ l.length:=by
 have u4:l.length≠0:=sU h0;have cL:w.ownsRow 0 5 1 (.slice (some ⟨g,0,none⟩) l.length cap) l.length (Lib.byteCells l):=⟨by rw [Lib.byteCells_length,Nat.mul_one],.inr ⟨g,cap,cur,rfl,Nat.zero_le _,hg,tT,hcm,cx,htake⟩⟩
 have c1:w.drew.cell? ⟨b,1,none⟩=some (.slice (some ⟨g,0,none⟩) l.length cap):=by
  have:w.drew.heap[b]? = some (.cells #[p,.slice (some ⟨g,0,none⟩) l.length cap] 160 (0,0)):=mr;rw [Lib.cell_of_heap this];all_goals rfl
 have hSD:(Builtin.unsafeSliceData_ #[158] 258 #[.slice (some ⟨g,0,none⟩) l.length cap]).run prog w.drew = .ok (.pointer (some ⟨g,0,none⟩)) w.drew:=
  Lib.run_unsafeSliceData_row _ _ _ _ _ _ (by omega)
 have hUS:(Builtin.unsafeString_ #[258,3] 9 #[.pointer (some ⟨g,0,none⟩),.int .i64 l.length]).run prog w.drew = .ok (.string ⟨l.toArray⟩) (w.drew.freeze ⟨g,0,none⟩ l.length):=by
  refine Lib.run_unsafeString_row w.drew 258 3 9 5 Tryz.underlying258 (by kernel_rfl) g cur.size (by have x4:w.drew.heap[g]? = some (.cells cur 5 (0,0)):=hg;simp [World.shape?,x4]) l h0 (by omega) (by unfold maxLen at hcm;omega) ?_;intro j x hx;have:=cL.cells (g:=g) rfl j (.int .u8 x.toNat) (by simp [Lib.byteCells,hx]);exact this
 clear cL htake cx hg;have mixed:=mo
 go_enter func76,ntmps76
 go_wp2
 go_region_o
 all_goals (go_wp2;go_ret;exact ⟨rfl,rfl⟩)
end Go.Proofs.YtgjagnmeonoehaaGreat
set_option maxRecDepth 100000
namespace Go.Proofs.YtgjagnmeonoehaaGreat
open Go Go.RowKit Dv Go.Proofs.Tryz
def bD (l:List UInt8):List (List DV):=l.map fun c=>[DV.v (.int .u8 c.toNat)]
theorem sj (l:List UInt8):(bD l).length=l.length:=by simp [bD]
theorem Ov {E:En}:∀ l:List UInt8,RvC E (bD l).flatten (Lib.byteCells l)
 | []=>⟨cf _,by simp [Lib.byteCells]⟩
 | c :: r=>by
  obtain ⟨h1,h2⟩:=Ov (E:=E) r;refine ⟨?_,fun v hv=>?_⟩
  ·simp only [bD,List.map_cons,List.flatten_cons,List.cons_append,List.nil_append,Lib.byteCells];exact rvL_cons (by unfold Rv;exact ⟨rfl,rfl⟩) h1
  ·simp only [Lib.byteCells,List.map_cons,List.mem_cons] at hv;rcases hv with rfl | hv
   ·rfl
   ·exact h2 v hv
theorem Ja {E:En}:∀ {l:List UInt8} {arr:List Value},RvL E (bD l).flatten arr->arr=Lib.byteCells l
 | [],arr,h=>by simpa [bD,RvL,Lib.byteCells] using h
 | c :: r,arr,h=>by
  simp only [bD,List.map_cons,List.flatten_cons,List.cons_append,List.nil_append,RvL] at h;obtain ⟨v,s,rfl,h1,h2⟩:=h;unfold Rv at h1;rw [h1.1,Ja (l:=r) h2];rfl
theorem strCells_eq (s:ByteArray):Lib.strCells s=Lib.byteCells s.data.toList:=rfl
theorem GY {X:Ctx} {E:En} {st:St} {a:Act} {w:World} (h:Rel X E st a w) {kt:Nat} {l:List UInt8} {cv:Value} (hl:l ≠ []) (iG:st.tk[kt]? = some ⟨l.length,5,1,none⟩) (hv:Rv E (.sl 1 (bD l) (some kt)) cv) :
  ∃ g cap cur,cv = .slice (some ⟨g,0,none⟩) l.length cap/\w.heap[g]? = some (.cells cur 5 (0,0))/\l.length<=cap/\cap<=maxLen/\cur.size=cap * 1/\cur.toList.take (l.length * 1)=Lib.byteCells l/\g ∉ E.β/\E.τ[kt]? = some cv:=by
 have aT:bD l ≠ []:=by grind [sj]
 have kk:0 < l.length:=List.length_pos_iff.2 hl;unfold Rv at hv;obtain ⟨bs,ns,mq,rfl,⟨rfl,Fh⟩,Tf,Al⟩:=hv;rw [sj] at Fh;obtain ⟨q,hq,_,hτ⟩:=Al kt rfl;rw [h.tk,iG] at hq;simp only [oI] at hq;subst hq;have hy:=hτ (sj l);rcases h.env.cA kt _ _ (by rw [h.tk];exact iG) hy with ⟨oh,oe⟩ | ⟨g,cap,cur,oh,hw0,Co,tT,hcm,gI,LH⟩
 ·simp only at oe;omega
 ·injection oh with i1 i2 i3
  subst i1 i3;refine ⟨g,mq,cur,by rw [sj],hw0,tT,hcm,Co.1,?_,gI,by rw [hy]⟩;obtain ⟨_,Pr⟩:=Tf aT;obtain ⟨Jz,gT,gg,Lb⟩:=Pr.tC;have ha:=Ja gT.1;subst ha;apply List.ext_getElem?;intro j;rw [sj] at gg;rcases Nat.lt_or_ge j (Lib.byteCells l).length with hj | hj
  ·have h5:=h.env.sub _ _ (Lb j _ (gE hj));simp only [ab,ao,Nat.zero_add] at h5;rw [cd hw0] at h5;rw [bY,aj (by omega),gE hj];simpa using h5
  ·grind
theorem QN {X:Ctx} {E:En} {st:St} {a:Act} {w:World} (h:Rel X E st a w) {kt:Nat} {l:List UInt8} {cv:Value} (iG:st.tk[kt]? = some ⟨l.length,5,1,none⟩) (hv:Rv E (.sl 1 (bD l) (some kt)) cv) :
  w.ownsRow 0 5 1 cv l.length (Lib.byteCells l)/\E.τ[kt]? = some cv/\∀ b∈E.β,cv.ownBlock≠some b:=by
 cases l with
 | cons c r=>
  obtain ⟨g,cap,cur,rfl,hg,tT,hcm,cx,htake,Vt,hτ⟩:=GY h (List.cons_ne_nil c r) iG hv;refine ⟨⟨by rw [Lib.byteCells_length,Nat.mul_one],.inr ⟨g,cap,cur,rfl,Nat.zero_le _,hg,tT,hcm,cx,htake⟩⟩,hτ,fun b hb he=>?_⟩;simp only [Value.ownBlock,oI] at he;exact Vt (he ▸ hb)
 | nil=>
  unfold Rv at hv;obtain ⟨bs,ns,mq,rfl,⟨rfl,Fh⟩,Tf,Al⟩:=hv;obtain ⟨q,hq,_,hτ⟩:=Al kt rfl;rw [h.tk,iG] at hq;simp only [oI] at hq;subst hq;have hy:=hτ rfl;rcases h.env.cA kt _ _ (by rw [h.tk];exact iG) hy with ⟨oh,oe⟩ | ⟨g,cap,cur,oh,hw0,Co,tT,hcm,gI,LH⟩
  ·rw [oh] at hy ⊢;exact ⟨⟨rfl,.inl ⟨rfl,rfl⟩⟩,hy,fun b _ he=>by simp [Value.ownBlock] at he⟩
  ·rw [oh] at hy ⊢;refine ⟨⟨rfl,.inr ⟨g,cap,cur,rfl,Nat.zero_le _,hw0,tT,hcm,Co.1,by simp [Lib.byteCells]⟩⟩,hy,fun b hb he=>?_⟩;simp only [Value.ownBlock,oI] at he;exact gI (he ▸ hb)
theorem D6 {f:FuncId} {xd rd:DV} {ret:Value} {X:Ctx} {st:St} {k:List It} (hP:X.P=prog) {i kt d:Nat} {p c:DV} {l:List UInt8} {s:ByteArray} {bP:List TkE} (hbt:(i,160)∈X.bt) (lz:st.bx[i]? = some [p,c])
  (hp:p = .v (.pointer none)∨p = .loc i 0)
  (hc:(c = .v (.slice none 0 0)/\l=[]/\kt=st.tk.length/\bP=st.tk ++ [⟨s.size,5,1,none⟩])∨(c = .sl 1 (bD l) (some kt)/\st.tk[kt]? = some ⟨l.length,5,1,none⟩/\bP=st.tk.set kt ⟨l.length + s.size,5,1,none⟩))
  (jS:Enters prog f) (hrd:∀ E,Rv E rd ret)
  (lp:∀ (E:En) (b n:Nat) (p v x:Value) (xs:List Value) (w:World),Rv E xd x->p = .pointer none∨p = .pointer (some ⟨b,0,none⟩)->w.heap[b]? = some (.cells #[p,v] 160 (0,0))->w.ownsRow 0 5 1 v n xs->v.ownBlock≠some b->n + s.size<=140737488355328->Calls prog f #[.pointer (some ⟨b,0,none⟩),x] w (GX ret w b v n xs s))
  (hs:0 < s.size) (hlen:l.length + s.size<=140737488355328) (hd:e9 X.nt st.sl (some d)=true)
  (hk:go X 4000 k ⟨(d,⟨[],rd⟩) :: st.sl,st.bx.set i [.loc i 0,.sl 1 (bD (l ++ s.data.toList)) (some kt)],bP⟩)
  (aY:X.still=false:=by exact rfl):CallG X f [.loc i 0,xd] (some d) k st:=by
 refine ⟨?_,aY,fun E a w vs h hv=>?_⟩
 ·rw [hP];exact jS
 rw [hP];simp only [RvL] at hv;obtain ⟨v1,vr,rfl,h1,v2,vr2,rfl,h2,rfl⟩:=hv;unfold Rv at h1;obtain ⟨b,hb,rfl⟩:=h1;obtain ⟨b',ty,arr,ep,hw,hcc⟩:=h.env.eo i _ lz;rw [hb] at ep;simp only [oI] at ep;subst ep;obtain ⟨Rc,xj⟩:=h.bt _ hbt b hb;rw [hw] at xj;simp only [oI,Obj.cells.injEq] at xj;have Tc:ty=160:=xj.2.1;subst Tc;obtain ⟨hr,ho⟩:=hcc;simp only [RvL] at hr;obtain ⟨pv,r1,rfl,SL,cv,r2,rfl,hcv,rfl⟩:=hr
 have U0:pv = .pointer none∨pv = .pointer (some ⟨b,0,none⟩):=by
  rcases hp with rfl | rfl
  ·exact .inl (bg SL)
  ·unfold Rv at SL;obtain ⟨b2,gg,rfl⟩:=SL;rw [hb] at gg;simp only [oI] at gg;subst gg;exact .inr rfl
 have yT:b∈E.β:=mG hb;have Jb:st.tk.length=E.tk.length:=by rw [h.tk]
 have key:∃ xs:List Value,xs=Lib.byteCells l/\w.ownsRow 0 5 1 cv l.length xs/\cv.ownBlock≠some b /\
   ((∃ q,E.tk[kt]? = some q/\E.τ[kt]? = some cv/\q.n=l.length/\q.ty=5/\q.e=1/\q.own=none)∨(E.tk[kt]? = none/\E.τ[kt]? = none/\cv = .slice none 0 0/\l.length=0)) /\
   bP[kt]? = some ⟨l.length + s.size,5,1,none⟩/\(∀ j,j≠kt->bP[j]? = E.tk[j]?)/\(∀ y:Value,∃ τ':List Value,τ'[kt]? = some y/\τ'.length=bP.length/\∀ j,j≠kt->τ'[j]? = E.τ[j]?):=by
  rcases hc with ⟨rfl,rfl,rfl,rfl⟩ | ⟨rfl,iG,rfl⟩
  ·have:=bg hcv;subst this;refine ⟨_,rfl,⟨rfl,.inl ⟨rfl,rfl⟩⟩,by simp [Value.ownBlock],.inr ⟨?_,?_,rfl,rfl⟩,?_,?_,?_⟩
   ·rw [Jb];simp
   ·rw [Jb,<- h.env.tl];simp
   ·simp
   ·intro j hj;rw [h.tk];rcases Nat.lt_or_ge j st.tk.length with h1 | h1
    ·rw [eF h1]
    ·grind
   ·intro y;refine ⟨E.τ ++ [y],?_,by simp [h.env.tl,h.tk],fun j hj=>?_⟩
    ·rw [Jb,<- h.env.tl];simp
    ·rcases Nat.lt_or_ge j E.τ.length with h1 | h1
     ·rw [eF h1]
     ·rw [mB (l:=E.τ) h1];have:=h.env.tl;exact mB (by simp;omega)
  ·obtain ⟨cL,hτ,hob⟩:=QN h iG hcv;have iT:=(gS iG).1;refine ⟨_,rfl,cL,hob b yT,.inl ⟨_,by rw [h.tk];exact iG,hτ,rfl,rfl,rfl,rfl⟩,?_,?_,?_⟩
   ·rw [gj iT]
   ·intro j hj;rw [List.getElem?_set_ne (Ne.symm hj),h.tk]
   ·intro y;refine ⟨E.τ.set kt y,?_,by simp [h.env.tl,h.tk],fun j hj=>List.getElem?_set_ne (Ne.symm hj)⟩;rw [gj];rw [h.env.tl,<- Jb];exact iT
 obtain ⟨xs,rfl,cL,aT,yC,ZU,rI,hτ⟩:=key;refine (lp E b l.length pv cv v2 (Lib.byteCells l) w h2 U0 hw cL aT hlen).mono ?_;rintro e w' ⟨rfl,g,cap,w2,SM,mi,Ce,rfl⟩;obtain ⟨τ',Wf,Vs,La⟩:=hτ (.slice (some ⟨g,0,none⟩) (l.length + s.size) cap);have Iy:Rv E (.loc i 0) (.pointer (some ⟨b,0,none⟩)):=by unfold Rv;exact ⟨b,hb,rfl⟩
 have r1:Rel X E ⟨st.sl,st.bx.set i [.loc i 0,c],st.tk⟩ a (il w b cv):=
  jc h aY hb (cs':=[.loc i 0,c]) (arr':=[.pointer (some ⟨b,0,none⟩),cv]) ⟨rvL_cons Iy (rvL_one hcv),by
   intro v hv;simp only [List.mem_cons,List.not_mem_nil,or_false] at hv;rcases hv with rfl | rfl
   ·rfl
   ·exact ho v (by simp)⟩ ⟨_,hw⟩
 obtain ⟨r2,hext,j2⟩:=Cg r1 aY yC hs (by omega) ZU Wf Vs rI La (Bt cL aT) SM mi Ce;have gg:(il w b cv).heap[b]? = some (.cells #[.pointer (some ⟨b,0,none⟩),cv] 160 (0,0)):=dy hw
 have Lb:w2.heap[b]? = some (.cells #[.pointer (some ⟨b,0,none⟩),cv] 160 (0,0)):=by
  rw [mi.block b (cy gg) (fun e=>aT e.symm)];exact gg
 have U1:Rv (⟨gl E.c w2 g ((l.length + s.size) * 1),E.β,bP,τ'⟩:En) (.sl 1 (bD (l ++ s.data.toList)) (some kt)) (.slice (some ⟨g,0,none⟩) (l.length + s.size) cap):=by
  have mh:s.data.toList.length=s.size:=by rw [Array.length_toList];all_goals rfl
  unfold Rv;refine ⟨_,_,_,rfl,⟨by rw [sj,List.length_append,mh],?_⟩,fun _=>⟨rfl,?_⟩,?_⟩
  ·rcases SM.2 with ⟨hv,_⟩ | ⟨_,_,_,hv,_,_,tT,_⟩
   ·cases hv
   ·injection hv with _ _ i3
    omega
  ·refine rvEs_flat (arr:=Lib.byteCells (l ++ s.data.toList)) (Ov _) (fun cs hcm=>?_) fun j u hj=>?_
   ·grind [bD]
   ·simp only [ab,ao,Nat.zero_add];refine j2 j u ?_;rw [strCells_eq];simpa [Lib.byteCells] using hj
  ·intro k' gB;cases gB;exact ⟨_,ZU,aJ _,fun _=>Wf⟩
 have r3:=jc r2 aY (i:=i) (b:=b) hb (cs':=[.loc i 0,.sl 1 (bD (l ++ s.data.toList)) (some kt)]) (arr':=[.pointer (some ⟨b,0,none⟩),.slice (some ⟨g,0,none⟩) (l.length + s.size) cap])
  ⟨rvL_cons (by unfold Rv;exact ⟨b,hb,rfl⟩) (rvL_one U1),by
   intro v hv;simp only [List.mem_cons,List.not_mem_nil,or_false] at hv
   rcases hv with rfl | rfl<;>rfl⟩ ⟨_,Lb⟩
 simp only [List.set_set] at r3;exact go_sound 4000 _ _ hk _ _ _ (aV r3 hd rd _ (hrd _))
theorem D7 {w:World} {g n:Nat} (x:Addr):(w.freeze ⟨g,0,none⟩ n).cell? x=w.cell? x:=by
 unfold World.freeze;split
 ·rfl
 ·simp only [World.cell?,Array.getElem?_modify]
  grind
theorem Bu {w:World} {g n k:Nat} (h:k≠g):(w.freeze ⟨g,0,none⟩ n).heap[k]? = w.heap[k]?:=by
 unfold World.freeze
 grind
theorem Bv {w:World} {g n:Nat}:(w.freeze ⟨g,0,none⟩ n).os=w.os/\(w.freeze ⟨g,0,none⟩ n).tape=w.tape/\(w.freeze ⟨g,0,none⟩ n).output=w.output/\(w.freeze ⟨g,0,none⟩ n).heap.size=w.heap.size:=by
 unfold World.freeze
 grind
theorem Bw {X:Ctx} {st:St} {k:List It} (hP:X.P=prog) {i kt d:Nat} {p:DV} {l:List UInt8} (hbt:(i,160)∈X.bt) (lz:st.bx[i]? = some [p,.sl 1 (bD l) (some kt)])
  (hl:l ≠ []) (iG:st.tk[kt]? = some ⟨l.length,5,1,none⟩) (oe:X.n0=0) (mz:X.m0=0) (hd:e9 X.nt st.sl (some d)=true)
  (hk:go X 4000 k ⟨[(d,⟨[],.v (.string ⟨l.toArray⟩)⟩)],[],[]⟩) (aY:X.still=false:=by exact rfl):CallG X 76 [.loc i 0] (some d) k st:=by
 refine ⟨?_,aY,fun E a w vs h hv=>?_⟩
 ·rw [hP];exact en76
 rw [hP];simp only [RvL] at hv;obtain ⟨v1,vr,rfl,h1,rfl⟩:=hv;unfold Rv at h1;obtain ⟨b,hb,rfl⟩:=h1;obtain ⟨b',ty,arr,ep,hw,hcc⟩:=h.env.eo i _ lz;rw [hb] at ep;simp only [oI] at ep;subst ep;obtain ⟨Rc,xj⟩:=h.bt _ hbt b hb;rw [hw] at xj;simp only [oI,Obj.cells.injEq] at xj;have Tc:ty=160:=xj.2.1;subst Tc;obtain ⟨hr,ho⟩:=hcc;simp only [RvL] at hr;obtain ⟨pv,r1,rfl,SL,cv,r2,rfl,hcv,rfl⟩:=hr;obtain ⟨g,cap,cur,rfl,hg,tT,hcm,cx,htake,Vt,hτ⟩:=GY h hl iG hcv;refine (UZ b g cap pv l cur w hl hw hg tT hcm cx htake).mono ?_;rintro e w' ⟨rfl,rfl⟩;obtain ⟨k1,k2,k3,k4⟩:=Bv (w:=w.drew) (g:=g) (n:=l.length);have hE0:X.E0.β=[]:=List.eq_nil_of_length_eq_zero (by rw [X.oe,oe]);have hT0:X.E0.tk=[]:=List.eq_nil_of_length_eq_zero (by rw [X.mz,mz]);have uL:X.w0.heap.size<=g:=h.nw.tn kt _ g (by rw [hT0];exact Nat.zero_le _) hτ rfl
 let E':En:=⟨E.c,[],[],[]⟩
 have cq:Rel X E' ⟨[],[],[]⟩ a (w.drew.freeze ⟨g,0,none⟩ l.length):={
  env:={
   len:=rfl
   tl:=rfl
   eo:=by simp
   inj:=List.nodup_nil
   sub:=fun x v hx=>by rw [D7];exact h.env.sub x v hx
   pc:=by simp [E']
   cA:=by simp [E']
   ja:=by simp [E'] }
  tk:=rfl
  sz:=h.sz
  tm:=fun i x hx=>by cases hx
  df:=h.df
  nw:={
   c:=fun x v hx=>h.nw.c x v hx
   cn:=fun x v hx=>h.nw.cn x v hx
   β:=⟨[],by rw [hE0];rfl,by simp⟩
   tk:=fun k q y hq _=>by rw [hT0] at hq;simp at hq
   tn:=fun k y g' _ hy _=>by simp [E'] at hy
   l0:=h.nw.l0 }
  fr:=h.fr.cg k1 k2 k3 (by rw [k4];exact aJ _) fun j hj=>by
   by_cases hjg:j=g
   ·left;exact .inr (hjg ▸ uL)
   ·right;exact Bu hjg
  sh:=n7 aY
  bt:=fun p hp b hb=>by simp [E'] at hb }
 have yR:e9 X.nt ([]:List (Nat × Sl)) (some d)=true:=by
  simp only [e9,aO] at hd ⊢;exact ⟨hd.1,rfl⟩
 exact go_sound 4000 _ _ hk _ _ _ (aV (st:=⟨[],[],[]⟩) cq yR (.v (.string ⟨l.toArray⟩)) _ (by unfold Rv;exact ⟨rfl,rfl⟩))
end Go.Proofs.YtgjagnmeonoehaaGreat
set_option maxRecDepth 100000
namespace Go.Proofs.YtgjagnmeonoehaaGreat
open Go Go.RowKit Go.Lib Dv Go.Proofs.Tryz
theorem sk {P:Program} {w:World} {ops:Array Oper} {rest:List Oper} {o:Oper} {a:Act} {Q:Exit->Act->World->Prop} (Ld:o.guard=none) (s x:Operand) (t:TypeId)
  (ho:o.op = .call { callee:=.builtin .append,args:=#[s,x],argTypes:=#[t,t] })
  (e:TypeId) (i:TypeInfo) (z:Value) (ht:P.underlying t=some (.slice e)) (hi:P.info? e=some i) (hz:i.zero=some z) (jm:i.size=1) (uB:i.bytes=1) (Js:z.cells.size=1)
  (v:Value) (n:Nat) (xs:List Value) (hs:a.eval s=v) (cL:w.ownsRow 0 e 1 v n xs)
  (ad:Addr) (m c:Nat) (news:List Value) (hx:a.eval x = .slice (some ad) m c) (hl:news.length=m * 1) (pq:∀ j u,news[j]? = some u->w.cell? (ad.add j)=some u) (h1:∀ u∈news,u.oneCell'=true)
  (hm:0 < m) (K7:n + m<=maxLen) (jo:(n + m) * 1<=140737488355328)
  (h:∀ g cap w',w'.ownsRow 0 e 1 (.slice (some ⟨g,0,none⟩) (n + m) cap) (n + m) (xs ++ news)->w.grownBy w' v.ownBlock->((v.ownBlock=some g)∨(w.heap.size<=g/\∀ k,k < w.heap.size->w'.heap[k]? = w.heap[k]?)) ->
   wpList P ops Q rest (a.put o.dst (.slice (some ⟨g,0,none⟩) (n + m) cap)) w'):wpList P ops Q (o :: rest) a w:=by
 refine wpList_plain Ld fun K hK=>?_;obtain ⟨g,cap,w',hr,h2,h3,h4⟩:=fG (P:=P) (w:=w) t o.type e i z 1 1 ht hi hz jm uB Js (by omega) v n xs cL ad m c news hl pq h1 hm K7 jo;unfold Oper.wp execOp;simp only [ho,resolve,invoke,builtin,Sem.run_bind,Sem.run_pure,Result.andThen_ok,List.map_toArray,List.map_cons,List.map_nil,hs,hx,hr];exact hK _ _ (h g cap w' h2 h3 h4)
theorem SN (w:World) (o:Obj):(w.alloc o).heap.size=w.heap.size + 1:=World.size_alloc w o
set_option maxHeartbeats 2000000 in
theorem U2 (b:Nat) (p v:Value) (n:Nat) (xs:List Value) (c:UInt8) (w:World) (hp:p = .pointer none∨p = .pointer (some ⟨b,0,none⟩)) (mr:w.heap[b]? = some (.cells #[p,v] 160 (0,0)))
  (cL:w.ownsRow 0 5 1 v n xs) (aT:v.ownBlock≠some b) (hlen:n + 1<=140737488355328) :
  Calls prog 341 #[.pointer (some ⟨b,0,none⟩),.int .u8 c.toNat] w (GX .nilIface w b v n xs (ba [c])):=by
 obtain ⟨i0,hi,VS,hz1,Qc⟩:=info_parts Tryz.laysBX.infoByte
 go_enter func341,ntmps341
 go_wp2_with (go_at_call 149;refine (xi b p v _ hp mr).mono ?_)
 rintro e w1 ⟨rfl,rfl⟩;have gT:(il w b v).heap[b]? = some (.cells #[.pointer (some ⟨b,0,none⟩),v] 160 (0,0)):=dy mr;have D5:(il w b v).ownsRow 0 5 1 v n xs:=Bt cL aT;have c0:(il w b v).cell? ⟨b,0,none⟩=some (.pointer (some ⟨b,0,none⟩)):=by rw [Lib.cell_of_heap gT];all_goals rfl
 have c1:(il w b v).cell? ⟨b,1,none⟩=some v:=by rw [Lib.cell_of_heap gT];all_goals rfl
 have al:b < (il w b v).heap.size:=cy gT;obtain ⟨W1,Ot⟩:∃ W1,W1=il w b v:=⟨_,rfl⟩;rw [<- Ot] at gT D5 c0 c1 al ⊢;have HW:=Lib.hid Ot;clear Ot
 go_wp2_with (at_builtin;refine sk rfl _ _ 158 rfl 5 i0 (.int .u8 0) Tryz.underlying158 hi VS hz1 Qc rfl _ _ _ rfl (D5.alloc _) ⟨W1.heap.size,0,none⟩ 1 1 [.int .u8 c.toNat] rfl rfl ?c1 ?c2 (by omega) ?c3 ?c4 ?_)
 case c1=>
  intro j u hj
  match j,hj with
  | 0,hj=>simp at hj;subst hj;simp [Addr.add]
 case c2=>intro u hu;simp at hu;subst hu;rfl
 case c3=>unfold maxLen;omega
 case c4=>omega
 intro g cap w2 Ou mi Ce;have Ow:W1.grownBy w2 v.ownBlock:=⟨mi.os,mi.tape,mi.output,by have:=mi.size;rw [SN] at this;omega,fun k hk aT=>(mi.block k (by rw [SN];omega) aT).trans (Lib.alloc_old W1 _ k hk)⟩;have hdi2:(v.ownBlock=some g)∨(W1.heap.size<=g/\∀ k,k < W1.heap.size->w2.heap[k]? = W1.heap[k]?):=Ce.imp_right fun ⟨h1,h2⟩=>⟨by omega,fun k hk=>(h2 k (by omega)).trans (Lib.alloc_old W1 _ k hk)⟩
 have gg:w2.heap[b]? = some (.cells #[.pointer (some ⟨b,0,none⟩),v] 160 (0,0)):=by
  rw [Ow.block b al (fun e=>aT e.symm)];exact gT
 have d0:w2.cell? ⟨b,0,none⟩=some (.pointer (some ⟨b,0,none⟩)):=by rw [Lib.cell_of_heap gg];all_goals rfl
 have d1:w2.cell? ⟨b,1,none⟩=some v:=by rw [Lib.cell_of_heap gg];all_goals rfl
 have f1:w2.frozen? ⟨b,1,none⟩=false:=Lib.frozen_of_heap gg 1;clear mi Ce
 go_wp2
 go_ret
 refine ⟨rfl,g,cap,w2,Ou,by rw [<- HW.out];exact Ow,by rw [<- HW.out];exact hdi2,?_⟩;rw [eO gg];rfl
set_option maxHeartbeats 2000000 in
theorem QO (b g n cap:Nat) (p:Value) (cur:Array Value) (w:World) (hp:p = .pointer none∨p = .pointer (some ⟨b,0,none⟩)) (mr:w.heap[b]? = some (.cells #[p,.slice (some ⟨g,0,none⟩) n cap] 160 (0,0)))
  (hg:w.heap[g]? = some (.cells cur 5 (0,0))) (tT:n<=cap) (cx:cur.size=cap) (aT:g≠b) :
  Calls prog 74 #[.pointer (some ⟨b,0,none⟩),.string ⟨#[]⟩] w fun e w'=>e = .returned (.tuple #[.int .i64 0,.nilIface])/\w'=il w b (.slice (some ⟨g,0,none⟩) n cap):=by
 obtain ⟨i0,hi,VS,hz1,Qc⟩:=info_parts Tryz.laysBX.infoByte
 go_enter func74,ntmps74
 go_wp2_with (go_at_call 149;refine (xi b p _ _ hp mr).mono ?_)
 rintro e w1 ⟨rfl,rfl⟩;obtain ⟨v,hv⟩:∃ v,v=Value.slice (some ⟨g,0,none⟩) n cap:=⟨_,rfl⟩;rw [<- hv] at mr ⊢;have gT:(il w b v).heap[b]? = some (.cells #[.pointer (some ⟨b,0,none⟩),v] 160 (0,0)):=dy mr;have mI:(il w b v).heap[g]? = some (.cells cur 5 (0,0)):=by rw [b9 aT];exact hg
 have c0:(il w b v).cell? ⟨b,0,none⟩=some (.pointer (some ⟨b,0,none⟩)):=by rw [Lib.cell_of_heap gT];all_goals rfl
 have c1:(il w b v).cell? ⟨b,1,none⟩=some v:=by rw [Lib.cell_of_heap gT];all_goals rfl
 have f1:(il w b v).frozen? ⟨b,1,none⟩=false:=Lib.frozen_of_heap gT 1;obtain ⟨W1,Ot⟩:∃ W1,W1=il w b v:=⟨_,rfl⟩;rw [<- Ot] at gT mI c0 c1 f1 ⊢;have HW:=Lib.hid Ot;clear Ot
 go_wp2_with (at_builtin;refine GZ rfl _ _ 158 9 rfl 5 i0 Tryz.underlying158 Tryz.underlying9 hi hz1 g n cap cur hv mI tT cx rfl ?_)
 rw [<- hv]
 go_wp2
 go_ret2
 refine ⟨rfl,?_⟩;rw [eO gT];exact (sX gT).trans HW.out
theorem Ox {X:Ctx} {st:St} {k:List It} (hP:X.P=prog) {i kt d:Nat} {p:DV} {l:List UInt8} (hbt:(i,160)∈X.bt) (lz:st.bx[i]? = some [p,.sl 1 (bD l) (some kt)])
  (hp:p = .v (.pointer none)∨p = .loc i 0) (hl:l ≠ []) (iG:st.tk[kt]? = some ⟨l.length,5,1,none⟩) (hd:e9 X.nt st.sl (some d)=true)
  (hk:go X 4000 k ⟨(d,⟨[],.tup [.v (.int .i64 0),.v .nilIface]⟩) :: st.sl,st.bx.set i [.loc i 0,.sl 1 (bD l) (some kt)],st.tk⟩)
  (aY:X.still=false:=by exact rfl):CallG X 74 [.loc i 0,.v (.string ⟨#[]⟩)] (some d) k st:=by
 refine ⟨by rw [hP];exact WM,aY,fun E a w vs h hv=>?_⟩;rw [hP];simp only [RvL] at hv;obtain ⟨v1,vr,rfl,h1,v2,vr2,rfl,h2,rfl⟩:=hv;have h2:=bg h2;subst h2;unfold Rv at h1;obtain ⟨b,hb,rfl⟩:=h1;obtain ⟨b',ty,arr,ep,hw,hcc⟩:=h.env.eo i _ lz;rw [hb] at ep;simp only [oI] at ep;subst ep;obtain ⟨Rc,xj⟩:=h.bt _ hbt b hb;rw [hw] at xj;simp only [oI,Obj.cells.injEq] at xj;have Tc:ty=160:=xj.2.1;subst Tc;obtain ⟨hr,ho⟩:=hcc;simp only [RvL] at hr;obtain ⟨pv,r1,rfl,SL,cv,r2,rfl,hcv,rfl⟩:=hr;have Iy:Rv E (.loc i 0) (.pointer (some ⟨b,0,none⟩)):=by unfold Rv;exact ⟨b,hb,rfl⟩
 have U0:pv = .pointer none∨pv = .pointer (some ⟨b,0,none⟩):=by
  rcases hp with rfl | rfl
  ·exact .inl (bg SL)
  ·unfold Rv at SL;obtain ⟨b2,gg,rfl⟩:=SL;rw [hb] at gg;simp only [oI] at gg;subst gg;exact .inr rfl
 obtain ⟨g,cap,cur,rfl,hg,tT,hcm,cx,htake,Vt,hτ⟩:=GY h hl iG hcv;refine (QO b g l.length cap pv cur w U0 hw hg tT (by omega) (fun e=>Vt (e ▸ mG hb))).mono ?_;rintro e w' ⟨rfl,rfl⟩
 have r1:Rel X E ⟨st.sl,st.bx.set i [.loc i 0,.sl 1 (bD l) (some kt)],st.tk⟩ a (il w b (.slice (some ⟨g,0,none⟩) l.length cap)):=
  jc h aY hb (cs':=[.loc i 0,.sl 1 (bD l) (some kt)]) (arr':=[.pointer (some ⟨b,0,none⟩),.slice (some ⟨g,0,none⟩) l.length cap]) ⟨rvL_cons Iy (rvL_one hcv),by
   intro v hv;simp only [List.mem_cons,List.not_mem_nil,or_false] at hv
   rcases hv with rfl | rfl<;>rfl⟩ ⟨_,hw⟩
 exact go_sound 4000 _ _ hk _ _ _ (aV r1 hd (.tup [.v (.int .i64 0),.v .nilIface]) _ (by unfold Rv;exact ⟨_,rfl,rvL_cons (by unfold Rv;exact ⟨rfl,rfl⟩) (rvL_one (by unfold Rv;exact ⟨rfl,rfl⟩))⟩))
theorem jO {X:Ctx} {st:St} {k:List It} (hP:X.P=prog) {i kt d:Nat} {p:DV} {l:List UInt8} {s:ByteArray} (l':List UInt8) (yO:l'=l ++ s.data.toList) (hbt:(i,160)∈X.bt) (lz:st.bx[i]? = some [p,.sl 1 (bD l) (some kt)])
  (hp:p = .v (.pointer none)∨p = .loc i 0) (iG:st.tk[kt]? = some ⟨l.length,5,1,none⟩) (hs:l' ≠ []) (hlen:l'.length<=140737488355328) (hd:e9 X.nt st.sl (some d)=true)
  (hk:∀ n:Int,go X 4000 k ⟨(d,⟨[],.tup [.v (.int .i64 n),.v .nilIface]⟩) :: st.sl,st.bx.set i [.loc i 0,.sl 1 (bD l') (some kt)],st.tk.set kt ⟨l'.length,5,1,none⟩⟩)
  (aY:X.still=false:=by exact rfl):CallG X 74 [.loc i 0,.v (.string s)] (some d) k st:=by
 subst yO;have mh:s.data.toList.length=s.size:=by rw [Array.length_toList];all_goals rfl
 have iT:=(gS iG);rcases Nat.eq_zero_or_pos s.size with h0 | h0
 ·have Co:s=⟨#[]⟩:=by
   apply ByteArray.ext;apply Array.eq_empty_of_size_eq_zero;exact h0
  subst Co;have hr:=hk 0;simp only [List.append_nil] at hr hs;rw [show st.tk.set kt ⟨l.length,5,1,none⟩=st.tk by rw [<- iT.2];exact List.set_getElem_self iT.1] at hr;exact Ox hP hbt lz hp hs iG hd hr aY
 ·refine D6 (s:=s) hP hbt lz hp (.inr ⟨rfl,iG,rfl⟩) WM (rd:=.tup [.v (.int .i64 s.size),.v .nilIface]) (ret:=.tuple #[.int .i64 s.size,.nilIface]) (fun E=>by unfold Rv;exact ⟨_,rfl,rvL_cons (by unfold Rv;exact ⟨rfl,rfl⟩) (rvL_one (by unfold Rv;exact ⟨rfl,rfl⟩))⟩)
   (fun E b n p v x xs w hx h1 h2 h3 h4 h5=>by
    have:=bg hx;subst this
    exact UY b p v n xs s w h1 h2 h3 h4 h0 h5) h0 (by rw [List.length_append,mh] at hlen;exact hlen) hd ?_ aY
  have hr:=hk s.size;rw [List.length_append,mh] at hr;exact hr
theorem Jc {X:Ctx} {st:St} {k:List It} (hP:X.P=prog) {i kt d:Nat} {p:DV} {l:List UInt8} {c:UInt8} {z:Int} (hz:z=c.toNat) (hbt:(i,160)∈X.bt) (lz:st.bx[i]? = some [p,.sl 1 (bD l) (some kt)])
  (hp:p = .v (.pointer none)∨p = .loc i 0) (iG:st.tk[kt]? = some ⟨l.length,5,1,none⟩) (hlen:l.length + 1<=140737488355328) (hd:e9 X.nt st.sl (some d)=true)
  (hk:go X 4000 k ⟨(d,⟨[],.v .nilIface⟩) :: st.sl,st.bx.set i [.loc i 0,.sl 1 (bD (l ++ [c])) (some kt)],st.tk.set kt ⟨l.length + 1,5,1,none⟩⟩)
  (aY:X.still=false:=by exact rfl):CallG X 341 [.loc i 0,.v (.int .u8 z)] (some d) k st:=by
 subst hz
 refine D6 (s:=ba [c]) hP hbt lz hp (.inr ⟨rfl,iG,rfl⟩) XT (rd:=.v .nilIface) (ret:=.nilIface) (fun E=>by unfold Rv;exact ⟨rfl,rfl⟩)
  (fun E b n p v x xs w hx h1 h2 h3 h4 h5=>by
   have:=bg hx;subst this
   exact U2 b p v n xs c w h1 h2 h3 h4 h5) Nat.one_pos hlen hd hk aY
theorem xm {X:Ctx} {f:FuncId} {args:List DV} {dst:Option Nat} {k:List It} {st:St} (q:TkE) (st':St) (hq:q.new=true) (ha:WeL st.bx.length st.tk.length (st.tk ++ [q]) args args) (h3:st'.tk=st.tk ++ [q]) (h2:WeLL st.bx.length st.tk.length (st.tk ++ [q]) st.bx st'.bx)
  (h:mK st.bx.length st.tk.length (st.tk ++ [q]) st.sl st'.sl) (hn:Nat.ble X.n0 st.bx.length=true) (hm:Nat.ble X.m0 st.tk.length=true) (hk:CallG X f args dst k st'):CallG X f args dst k st:=by
 obtain ⟨k1,k2,k3⟩:=hk;refine ⟨k1,k2,fun E a w vs hR hv=>?_⟩;have hr:=yJ (st':=st') hR (kept:=st.tk) (dropped:=[]) (new:=[q]) (b0:=st.bx) (r:=[]) ⟨nL hm,nL hn,by simp,h3,by simpa using hq,by simp,by rw [h3];exact h2,by rw [h3];exact h⟩;exact k3 _ a w vs hr (q5 (dropped:=[]) (by rw [hR.tk];simp) hR.env.tl (sU hq) ha hv)
end Go.Proofs.YtgjagnmeonoehaaGreat
set_option maxRecDepth 100000
namespace Go.Proofs.YtgjagnmeonoehaaGreat
open Go Go.RowKit Dv Go.Proofs.Tryz
def np (n:Nat):UInt8:=if n < 10 then UInt8.ofNat (48 + n) else UInt8.ofNat (87 + n)
def ym (n:Nat):List UInt8:=if n=0 then [] else ym (n / 16) ++ [np (n % 16)]
termination_by n
decreasing_by omega
def jW (n:Nat):List UInt8:=ym (n / 16) ++ [np (n % 16)]
theorem hexP_0:ym 0=[]:=by rw [ym,aj rfl]
theorem Oy {n:Nat} (h:n≠0):ym n=jW n:=by rw [ym,ai h];all_goals rfl
theorem D8:∀ (k n:Nat),n < 16 ^ k->(ym n).length<=k
 | 0,n,h=>by grind [hexP_0]
 | k + 1,n,h=>by
  by_cases hn:n=0
  ·rw [hn,hexP_0];simp
  ·rw [ym,ai hn,List.length_append];have:=D8 k (n / 16) (by rw [Nat.div_lt_iff_lt_mul (by decide)];rw [Nat.pow_succ] at h;exact h)
   grind
theorem nq {n:Nat} (h:n<=4294967295):(jW n).length<=8:=by
 have:=D8 7 (n / 16) (by omega)
 grind [jW]
def Bz:List (List DV):=[[.v (.int .i32 0),.v (.int .i32 31)],[.v (.int .i32 127),.v (.int .i32 159)]]
def BA:List (List DV):=[[.v (.int .i32 8232),.v (.int .i32 8233)]]
def nr:List (List DV):=[(1564,1564),(8206,8207),(8234,8238),(8294,8297)].map fun p:Int × Int=>[DV.v (.int .i32 p.1),DV.v (.int .i32 p.2)]
def xq:List (List DV):=[(173,173),(1536,1541),(1757,1757),(1807,1807),(2274,2274),(6158,6158),(8203,8205),(8288,8292),(8298,8303),(65279,65279),(65529,65531),(69821,69821),(69837,69837),(113824,113827),(119155,119162),(917505,917505),(917536,917631)].map fun p:Int × Int=>[DV.v (.int .i32 p.1),DV.v (.int .i32 p.2)]
def BB (z:Int):Bool:=((Bz.any (kz z) || nr.any (kz z)) || xq.any (kz z)) || BA.any (kz z)
def yo (z:Int) (u:List UInt8):List UInt8:=
 if z=34 then [92,34] else if z=92 then [92,92] else if z=9 then [92,116] else if z=10 then [92,110] else if z=13 then [92,114]
 else if BB z=true then [92,117,123] ++ jW z.toNat ++ [125] else u
def unT:List UInt8->List UInt8
 | []=>[]
 | c :: r=>if okU (c :: r)=true then yo (recV ((c :: r).take (gf (c :: r)))) ((c :: r).take (gf (c :: r))) else [92,120,np (c.toNat / 16),np (c.toNat % 16)]
def quoU:Nat->List UInt8->List UInt8
 | 0,_=>[]
 | k + 1,l=>unT l ++ quoU k (l.drop (gf l))
def pa (l:List UInt8):List UInt8:=34 :: (quoU l.length l ++ [34])
theorem D9 (k:Nat):quoU k []=[]:=by
 induction k with
 | zero=>rfl
 | succ k ih=>show [] ++ quoU k ([].drop _)=[];rw [List.drop_nil,ih];all_goals rfl
theorem sm:∀ (n:Nat) (l:List UInt8),l.length<=n->quoU n l=quoU l.length l
 | 0,l,h=>by grind
 | n + 1,l,h=>by
  cases l with
  | nil=>rw [D9,D9]
  | cons c r=>
   obtain ⟨h1,h2⟩:=kf (l:=c :: r) (by simp);have hl:((c :: r).drop (gf (c :: r))).length=r.length + 1 - gf (c :: r):=by rw [List.length_drop,List.length_cons]
   rw [List.length_cons] at h h2;show unT _ ++ quoU n _=unT _ ++ quoU r.length _;rw [sm n _ (by omega),sm r.length _ (by omega)]
theorem KJ {l:List UInt8} (h:l ≠ []):quoU l.length l=unT l ++ quoU (l.drop (gf l)).length (l.drop (gf l)):=by
 cases l with
 | nil=>exact absurd rfl h
 | cons c r=>grind [kf,unT,quoU,sm]
theorem BC {l:List UInt8} (h:NZ l=true):0<=recV l/\recV l<=2097151:=by
 unfold NZ at h
 grind [recV]
theorem QP (l:List UInt8):(unT l).length<=12:=by
 cases l with
 | nil=>exact Nat.zero_le _
 | cons c r=>
  show (if okU (c :: r)=true then yo (recV ((c :: r).take (gf (c :: r)))) ((c :: r).take (gf (c :: r))) else [92,120,np (c.toNat / 16),np (c.toNat % 16)]:List UInt8).length<=12;split
  ·rename_i h;have hi:=Bi h;obtain ⟨_,_,U3,h1,h2,h3⟩:=l7 h;injection U3 with JF mE
   subst JF mE;rw [h3];have h4:=qz c.toNat;have:=BC hi;have:=nq (n:=(recV ((c :: r).take (aE c.toNat))).toNat) (by omega);unfold yo
   repeat' split
   all_goals simp only [List.length_append,List.length_cons,List.length_nil,dE]
   all_goals omega
  ·simp
theorem Ea:∀ (n:Nat) (l:List UInt8),(quoU n l).length<=12 * n
 | 0,l=>Nat.zero_le _
 | n + 1,l=>by
  have h1:=QP l;have h2:=Ea n (l.drop (gf l))
  grind [unT,quoU,gf]
theorem nu (l:List UInt8):(pa l).length<=12 * l.length + 2:=by grind [Ea,pa]
theorem sq {s:ByteArray} (hs:s=ba [48,49,50,51,52,53,54,55,56,57,97,98,99,100,101,102]) {k:Nat} (hk:k < 16) {a b:Int} (ha:a=k) (hb:b=k + 1):s.extract a.toNat b.toNat=ba [np k]:=by
 subst hs ha hb;refine mU ?_;have:∀ k:Fin 16,tx ((ba [48,49,50,51,52,53,54,55,56,57,97,98,99,100,101,102]).extract k.val (k.val + 1))=[np k.val]:=by decide +kernel
 exact this ⟨k,hk⟩
theorem BD {n:Int} (h1:0<=n) (h2:n<=4294967295):IntKind.u32.wrap n=n:=by
 simp [IntKind.wrap,IntKind.min,IntKind.max,IntKind.signed,IntKind.bits];omega
theorem iB (n:Nat):(n:Int).tmod 16=((n % 16:Nat):Int):=by grind
theorem Jd (n:Nat):(n:Int).tdiv 16=((n / 16:Nat):Int):=by grind
theorem Oz {x:ByteArray} {c:UInt8} {l:List UInt8} (h:x=ba [c]):x ++ ba l=ba (c :: l):=by
 rw [h];exact bX [c] l
abbrev U4 (m:Nat) (l:List UInt8):St:=⟨[(0,⟨[],.v (.int .u32 m)⟩),(3,⟨[],.v (.string (ba l))⟩)],[],[]⟩
theorem OA (n:Nat) (hn:n<=4294967295):EvP prog 361 [.v (.int .u32 n)] (.v (.string (ba (jW n)))):=by
 have hu:∀ m:Nat,m<=4294967295->IntKind.u32.wrap ((m:Int).tdiv 16)=((m / 16:Nat):Int):=fun m h=>by rw [Jd,BD (by omega) (by omega)]
 have hr:∀ m:Nat,IntKind.u32.wrap ((m:Int).tmod 16 + 1)=((m % 16:Nat):Int) + 1:=fun m=>by rw [iB,BD (by omega) (by omega)]
 have hlen:=nq hn;refine eG 25 [.tmp 2] func361 rfl ntmps361 rfl fun _ _ _ _=>?_;refine ⟨⟨rfl,by decide⟩,?_⟩;refine ⟨⟨rfl,by decide⟩,?_⟩;refine ⟨⟨by rw [iB];omega,by rw [hr,iB];omega,by rw [hr];show _<=((16:Nat):Int);omega⟩,?_⟩;refine ⟨⟨rfl,by decide⟩,?_⟩;refine aQ (fun j st=>∃ (m:Nat) (l:List UInt8),st=U4 m l/\ym m ++ l=jW n/\m<=n/\j=m) (n / 16) (U4 (n / 16) [np (n % 16)]) (wkM (by repeat' (first | exact trivial | exact we_rfl rfl | exact we_int (hu n hn) | exact iJ (sq rfl (by omega) (iB n) (hr n)) | refine ⟨⟨_,rfl,?_⟩,?_⟩))) ⟨n / 16,_,rfl,rfl,by omega,rfl⟩ ?_;rintro m st ⟨_,l,rfl,ht,hm,rfl⟩;refine br ?_ ?_<;>intro hL
 ·have kk:m≠0:=by simp at hL;omega
  have Sg:l.length + (ym m).length<=8:=by
   rw [<- ht,List.length_append] at hlen;omega
  rw [Oy kk] at ht;refine ⟨⟨rfl,by decide⟩,?_⟩;refine ⟨⟨rfl,by decide⟩,?_⟩;refine ⟨⟨by rw [iB];omega,by rw [hr,iB];omega,by rw [hr];show _<=((16:Nat):Int);omega⟩,?_⟩;have hx:=sq (s:=ba [48,49,50,51,52,53,54,55,56,57,97,98,99,100,101,102]) rfl (k:=m % 16) (by omega) (iB m) (hr m)
  refine ⟨by
   have h1:(ByteArray.extract (ba [48,49,50,51,52,53,54,55,56,57,97,98,99,100,101,102]) ((m:Int).tmod 16).toNat (IntKind.u32.wrap ((m:Int).tmod 16 + 1)).toNat).size=1:=by rw [hx];all_goals rfl
   have h2:(ba l).size=l.length:=fY l;have h3:∀ a b:Nat,a=1->b<=8->a + b<=9223372036854775807:=by omega
   exact h3 _ _ h1 (by rw [h2];omega),?_⟩
  refine ⟨⟨rfl,by decide⟩,?_⟩;exact ⟨U4 (m / 16) (np (m % 16) :: l),(wkM (by repeat' (first | exact trivial | exact we_rfl rfl | exact we_int (hu m (by omega)) | exact iJ (Oz hx) | refine ⟨⟨_,rfl,?_⟩,?_⟩))),m / 16,by omega,m / 16,_,rfl,by rw [<- ht];simp [jW],by omega,rfl⟩
 ·have h0:m=0:=by simp at hL;omega
  subst h0;rw [hexP_0,List.nil_append] at ht;rw [<- ht];exact (rfl:_=_)
def l9 (z:Int):List UInt8:=if z=34 then [92,34] else if z=92 then [92,92] else if z=9 then [92,116] else if z=10 then [92,110] else if z=13 then [92,114] else []
theorem G0 (z:Int):EvP prog 359 [.v (.int .i32 z)] (.v (.string (ba (l9 z)))):=by
 unfold l9;refine eG 14 [.tmp 2] func359 rfl ntmps359 rfl fun _ _ _ _=>?_;refine br ?_ ?_<;>intro c
 ·rw [aj (sU c)];exact (rfl:_=_)
 rw [ai (sU c)];refine br ?_ ?_<;>intro c
 ·rw [aj (sU c)];exact (rfl:_=_)
 rw [ai (sU c)];refine br ?_ ?_<;>intro c
 ·rw [aj (sU c)];exact (rfl:_=_)
 rw [ai (sU c)];refine br ?_ ?_<;>intro c
 ·rw [aj (sU c)];exact (rfl:_=_)
 rw [ai (sU c)];refine br ?_ ?_<;>intro c
 ·rw [aj (sU c)];exact (rfl:_=_)
 rw [ai (sU c)];exact (rfl:_=_)
theorem G1 {z:Int} {u:List UInt8} (h:l9 z ≠ []):yo z u=l9 z:=by grind [yo,l9]
theorem KK {z:Int} {u:List UInt8} (h:l9 z=[]):yo z u=if BB z=true then [92,117,123] ++ jW z.toNat ++ [125] else u:=by grind [yo,l9]
theorem BE:EvP prog 376 [] (.sl 2 Bz none):=by
 refine eG 4 [.tmp 0] func376 rfl ntmps376 rfl fun _ _ _ _=>?_;exact ⟨_,ax,rfl⟩
theorem KL:EvP prog 377 [] (.sl 2 nr none):=by
 refine eG 6 [.tmp 0] func377 rfl ntmps377 rfl fun _ _ _ _=>?_;exact ⟨_,ax,rfl⟩
theorem Eb:EvP prog 378 [] (.sl 2 xq none):=by
 refine eG 19 [.tmp 0] func378 rfl ntmps378 rfl fun _ _ _ _=>?_;exact ⟨_,ax,rfl⟩
theorem xr:EvP prog 379 [] (.sl 2 BA none):=by
 refine eG 3 [.tmp 0] func379 rfl ntmps379 rfl fun _ _ _ _=>?_;exact ⟨_,ax,rfl⟩
theorem Ec:EvP prog 380 [] (.sl 2 nr none):=by
 refine eG 6 [.tmp 0] func380 rfl ntmps380 rfl fun _ _ _ _=>?_;exact ⟨_,ax,rfl⟩
theorem yp:EvP prog 381 [] (.sl 2 xq none):=by
 refine eG 19 [.tmp 0] func381 rfl ntmps381 rfl fun _ _ _ _=>?_;exact ⟨_,ax,rfl⟩
theorem qD (es:List (List DV)) (z:Int) (hl:es.length<=1000) (hs:es.all spB=true) (m:Int) (ho:srtB m es=true):EvP prog 356 [.sl 2 es none,.v (.int .i32 z)] (.v (.bool (es.any (kz z)))):=
 (Bs es z hl hs).mono fun d _ _ ⟨b,h1,h2⟩=>by rw [h1,h2 m ho]
theorem zT (es:List (List DV)) (z:Int) (hl:es.length<=1000) (hs:es.all spB=true) (h0:0<=z) (h1:z<=1114111):EvP prog 334 [.sl 2 es none,.v (.int .i32 z)] (.v (.bool (es.any (kz z)))):=
 (o8 es z hl hs).mono fun d _ _ ⟨b,h2,h3⟩=>by rw [h2,h3 h0 h1]
theorem Ee (z:Int):EvP prog 360 [.v (.int .i32 z)] (.v (.bool (BB z))):=by
 have hk:Ev prog 373 [.v (.int .i32 z)] [] [] (fun d _ _=>∃ k:Int,d = .v (.int .i64 k)/\(!decide (k=0))=BB z):=by
  have h1:=qD Bz z (by decide) (by decide) (-1) (by decide);have h2:=qD nr z (by decide) (by decide) (-1) (by decide);have h3:=qD xq z (by decide) (by decide) (-1) (by decide);have h4:=qD BA z (by decide) (by decide) (-1) (by decide);have hB:BB z=(((Bz.any (kz z) || nr.any (kz z)) || xq.any (kz z)) || BA.any (kz z)):=rfl;rw [hB];generalize Bz.any (kz z)=b1 at h1;generalize nr.any (kz z)=b2 at h2;generalize xq.any (kz z)=b3 at h3;generalize BA.any (kz z)=b4 at h4;generalize hT1:Bz=T1 at h1;generalize hT2:nr=T2 at h2;generalize hT3:xq=T3 at h3;generalize hT4:BA=T4 at h4;have c1:=BE;have c2:=KL;have c3:=Eb;have c4:=xr;rw [hT1] at c1;rw [hT2] at c2;rw [hT3] at c3;rw [hT4] at c4;refine eG 19 [.tmp 2] func373 rfl ntmps373 rfl fun _ _ _ _=>?_;refine cP X6 c1 ?_;refine cP yV h1 ?_
  cases b1 with
  | true=>exact ⟨_,rfl,rfl⟩
  | false=>
  refine cP X7 c2 ?_;refine cP yV h2 ?_
  cases b2 with
  | true=>exact ⟨_,rfl,rfl⟩
  | false=>
  refine cP X8 c3 ?_;refine cP yV h3 ?_
  cases b3 with
  | true=>exact ⟨_,rfl,rfl⟩
  | false=>
  refine cP X9 c4 ?_;refine cP yV h4 ?_
  cases b4 with
  | true=>exact ⟨_,rfl,rfl⟩
  | false=>exact ⟨_,rfl,rfl⟩
 refine eG 6 [.tmp 2] func360 rfl ntmps360 rfl fun _ _ _ _=>?_;refine bp X4 rfl hk ax (fun q hq=>?_);obtain ⟨k,rfl,hk⟩:=hq;refine (bH ?_:);exact hk
theorem Ef (z:Int) (h0:0<=z) (h1:z<=1114111):Ev prog 375 [.v (.int .i32 z)] [] [] (fun d _ _=>∃ k:Int,d = .v (.int .i64 k)/\(!decide (k=0))=BB z):=by
 have h2:=zT nr z (by decide) (by decide) h0 h1;have h3:=zT xq z (by decide) (by decide) h0 h1;have hB:BB z=(((Bz.any (kz z) || nr.any (kz z)) || xq.any (kz z)) || BA.any (kz z)):=rfl;have e1:Bz.any (kz z)=(decide (0<=z) && decide (z < 32) || decide (126 < z) && decide (z < 160)):=by grind [Bz,kz]
 have e4:BA.any (kz z)=(decide (z=8232) || decide (z=8233)):=by grind [BA,kz]
 rw [hB,e1,e4];generalize nr.any (kz z)=b2 at h2;generalize xq.any (kz z)=b3 at h3;generalize hT2:nr=T2 at h2;generalize hT3:xq=T3 at h3;have c2:=Ec;have c3:=yp;rw [hT2] at c2;rw [hT3] at c3;refine eG 29 [.tmp 2] func375 rfl ntmps375 rfl fun _ _ _ _=>?_;refine br ?_ ?_<;>intro c
 ·refine ⟨_,rfl,?_⟩;simp only [pickB_and,ak] at c;rw [c];all_goals rfl
 simp only [pickB_and,ak] at c;rw [c];refine cP Ya c2 ?_;refine cP Ie h2 ?_
 cases b2 with
 | true=>exact ⟨_,rfl,rfl⟩
 | false=>
 refine cP Yb c3 ?_;refine cP Ie h3 ?_
 cases b3 with
 | true=>exact ⟨_,rfl,rfl⟩
 | false=>
 refine br ?_ ?_<;>intro c
 ·refine ⟨_,rfl,?_⟩;simp only [ak] at c;rw [c];all_goals rfl
 ·refine ⟨_,rfl,?_⟩;simp only [ak] at c;rw [c];all_goals rfl
theorem ma:∀ (k n:Nat),n<=k->n<=4294967295->EvP prog 374 [.v (.int .i64 n)] (.v (.string (ba (jW n))))
 | k,n,hk,hn=>by
  have hlen:=nq hn;have hq:IntKind.i64.wrap ((n:Int).tdiv 16)=((n / 16:Nat):Int):=by rw [Jd];exact wrap64 (by omega) (by omega)
  have hr:IntKind.i64.wrap ((n:Int).tmod 16 + 1)=((n % 16:Nat):Int) + 1:=by rw [iB];exact wrap64 (by omega) (by omega)
  have hw:IntKind.i64.wrap ((n:Int) + 1)=(n:Int) + 1:=wrap64 (by omega) (by omega);refine eG 22 [.tmp 2] func374 rfl ntmps374 rfl fun _ _ _ _=>?_;refine br ?_ ?_<;>intro c
  ·have c:n < 16:=by simp at c;omega
   refine ⟨⟨by omega,by rw [hw];omega,by rw [hw];show _<=((16:Nat):Int);omega⟩,?_⟩;refine (congrArg (fun s=>DV.v (.string s)) ?_:_=_);refine (sq rfl c rfl hw).trans ?_;have:n / 16=0:=by omega
   rw [jW,this,hexP_0,Nat.mod_eq_of_lt c];all_goals rfl
  ·have c:¬ n < 16:=by simp at c;omega
   match k,hk with
   | 0,hk=>omega
   | k + 1,hk=>
    have ih:=ma k (n / 16) (by omega) (by omega);rw [<- hq] at ih;have hx:=sq (s:=ba [48,49,50,51,52,53,54,55,56,57,97,98,99,100,101,102]) rfl (k:=n % 16) (by omega) (iB n) hr;have he:jW n=jW (n / 16) ++ [np (n % 16)]:=by rw [<- Oy (n:=n / 16) (by omega)];all_goals rfl
    rw [he,List.length_append] at hlen;refine dI ?_;refine ⟨⟨rfl,by decide⟩,?_⟩;refine cD Ih ih ?_;refine ⟨⟨rfl,by decide⟩,?_⟩;refine ⟨⟨rfl,by decide⟩,?_⟩;refine ⟨⟨by rw [iB];omega,by rw [hr,iB];omega,by rw [hr];show _<=((16:Nat):Int);omega⟩,?_⟩
    refine ⟨by
     have h1:=congrArg ByteArray.size hx;rw [fY] at h1;have h3:∀ a b:Nat,b=1->a<=8->a + b<=9223372036854775807:=by omega
     exact h3 _ _ h1 (by rw [fY];omega),?_⟩
    refine (congrArg (fun s=>DV.v (.string s)) ?_:_=_);rw [he];refine (congrArg (fun s=>ba (jW (n / 16)) ++ s) hx).trans ?_;exact bX _ _
theorem G2 {n:Int} (h1:0<=n) (h2:n<=255):IntKind.u8.wrap n=n:=by
 simp [IntKind.wrap,IntKind.min,IntKind.max,IntKind.signed,IntKind.bits];omega
theorem Eg {s:ByteArray} {at':Nat} (h:at' < s.size):∃ c r,(tx s).drop at'=c :: r/\dn s at'=c.toNat/\r.length + 1 + at'=s.size/\∀ n,n<=r.length + 1->s.extract at' (at' + n)=ba ((c :: r).take n):=by
 have hl:=bf s
 cases hd:(tx s).drop at' with
 | nil=>
  have:=congrArg List.length hd
  grind
 | cons c r=>
  refine ⟨c,r,rfl,?_,?_,fun n hn=>?_⟩
  ·show ((tx s).getD at' 0).toNat=_
   have:(tx s)[at']? = some c:=by
    have:=congrArg (fun l=>l[0]?) hd;simpa [List.getElem?_drop] using this
   simp [ek,this]
  ·have:=congrArg List.length hd
   grind
  ·refine mU ?_;rw [<- hd];simp [tx,List.take_drop]
theorem Je {x y:ByteArray} {c d:UInt8} (hx:x=ba [c]) (hy:y=ba [d]):(ba [92,120] ++ x) ++ y=ba [92,120,c,d]:=by
 rw [hx,hy];exact (congrArg (·++ ba [d]) (bX [92,120] [c])).trans (bX _ _)
theorem Jf (l:List UInt8):(ba [92,117,123] ++ ba l) ++ ba [125]=ba ([92,117,123] ++ l ++ [125]):=
 (congrArg (·++ ba [125]) (bX [92,117,123] l)).trans (bX _ _)
theorem pe {a b:ByteArray} {d:DV} (h:a=b):DV.tup [.v (.string a),d]=DV.tup [.v (.string b),d]:=by rw [h]
set_option maxHeartbeats 1000000 in
theorem G3 (s:ByteArray) (at':Nat) (hs:s.size<=1099511627776) (h:at' < s.size) :
  EvP prog 342 [.v (.string s),.v (.int .i64 at')] (.tup [.v (.string (ba (unT ((tx s).drop at')))),.v (.int .i64 (gf ((tx s).drop at'):Nat))]):=by
 obtain ⟨c,r,hd,hb,gD,hex⟩:=Eg h;have hu:=zM s at' hs c r hd;rw [hd];have hun:gf (c :: r)=if okU (c :: r)=true then aE c.toNat else 1:=rfl
 have ZV:unT (c :: r)=if okU (c :: r)=true then yo (recV ((c :: r).take (gf (c :: r)))) ((c :: r).take (gf (c :: r))) else [92,120,np (c.toNat / 16),np (c.toNat % 16)]:=rfl
 have ru:=Bi (c:=c) (r:=r);have bu:=fun g=>l7 (l:=c :: r) g;have j1:=c.toNat_lt;rw [hun] at ZV;rw [hun,ZV];generalize okU (c :: r)=ok at hu ru bu ⊢;refine eG 62 [.tmp 4,.tmp 5] func342 rfl ntmps342 rfl fun _ _ _ _=>?_;refine bp Ml rfl hu ax (fun q hq=>?_);obtain ⟨z,n,rfl,hn,hp⟩:=hq;refine br (fun g=>absurd g (by simp;omega)) (fun _=>?_)
 cases ok with
 | false=>
  rw [ai (by simp),ai (by simp)];have e1:IntKind.u8.wrap ((c.toNat:Int).tdiv 16)=((c.toNat / 16:Nat):Int):=by rw [Jd,G2 (by omega) (by omega)]
  have e2:IntKind.u8.wrap (((c.toNat / 16:Nat):Int) + 1)=((c.toNat / 16:Nat):Int) + 1:=G2 (by omega) (by omega);have e3:IntKind.u8.wrap (((c.toNat % 16:Nat):Int) + 1)=((c.toNat % 16:Nat):Int) + 1:=G2 (by omega) (by omega);refine ⟨⟨by omega,by omega⟩,?_⟩;rw [show dn s ((at':Int)).toNat=c.toNat from hb];have x1:=sq (s:=ba [48,49,50,51,52,53,54,55,56,57,97,98,99,100,101,102]) rfl (k:=c.toNat / 16) (by omega) e1 ((congrArg (fun z=>IntKind.u8.wrap (z + 1)) e1).trans e2);have x2:=sq (s:=ba [48,49,50,51,52,53,54,55,56,57,97,98,99,100,101,102]) rfl (k:=c.toNat % 16) (by omega) (iB c.toNat) ((congrArg (fun z=>IntKind.u8.wrap (z + 1)) (iB c.toNat)).trans e3);have l1:=congrArg ByteArray.size x1;have l2:=congrArg ByteArray.size x2;rw [fY] at l1 l2;refine dI ?_;refine ⟨⟨rfl,by decide⟩,?_⟩;refine ⟨⟨rfl,by decide⟩,?_⟩;refine ⟨⟨by rw [e1];omega,by rw [e1,e2];omega,by rw [e1,e2];show _<=((16:Nat):Int);omega⟩,?_⟩;refine ⟨Nat.le_trans (Nat.le_of_eq (congrArg (2 + ·) l1)) (by show 2 + 1<=9223372036854775807;decide),?_⟩;refine ⟨⟨rfl,by decide⟩,?_⟩;refine ⟨⟨rfl,by decide⟩,?_⟩;refine ⟨⟨by rw [iB];omega,by rw [iB,e3];omega,by rw [iB,e3];show _<=((16:Nat):Int);omega⟩,?_⟩;refine ⟨by rw [bI];exact Nat.le_trans (Nat.le_of_eq (congr (congrArg HAdd.hAdd (congrArg (2 + ·) l1)) l2)) (by show 2 + 1 + 1<=9223372036854775807;decide),?_⟩;refine ⟨.tup [.v (.string _),.v (.int .i64 _)],ax,?_⟩;exact pe (Je x1 x2)
 | true=>
  obtain ⟨rfl,hz⟩:=hn rfl;have hnn:=BC (ru rfl);rw [<- hz] at hnn;obtain ⟨_,_,U3,h1,h2,_⟩:=bu rfl;injection U3 with JF mE
  subst JF mE;rw [List.length_cons] at h2;rw [aj rfl,aj rfl,<- hz];refine cP XY (G0 z) ?_;refine br ?_ ?_<;>intro g
  ·have aT:l9 z ≠ []:=by
    intro e;rw [e] at g;simp at g
   rw [G1 aT];exact ⟨_,ax,rfl⟩
  ·have he:l9 z=[]:=by grind
   rw [KK he];refine cP XZ (Ee z) ?_
   cases BB z with
   | true=>
    rw [aj rfl];have hz32:IntKind.u32.wrap z=(z.toNat:Nat):=by rw [BD (by omega) (by omega)];omega
    have hx:=OA z.toNat (by omega);rw [<- hz32] at hx;have hl:=nq (n:=z.toNat) (by omega);refine cP X0 hx ?_;refine ⟨by show 3 + (jW z.toNat).length<=_;omega,?_⟩;refine ⟨by rw [bI];show 3 + (jW z.toNat).length + 1<=_;omega,?_⟩;refine ⟨.tup [.v (.string _),.v (.int .i64 _)],ax,?_⟩;exact pe (Jf _)
   | false=>
    rw [ai (by simp)];have hw:IntKind.i64.wrap ((at':Int) + (aE c.toNat:Nat))=((at' + aE c.toNat:Nat):Int):=by rw [wrap64 (by omega) (by omega)];omega
    refine ⟨⟨by omega,by rw [hw];omega,by rw [hw];omega⟩,?_⟩;refine ⟨.tup [.v (.string _),.v (.int .i64 _)],ax,?_⟩;refine pe ?_;rw [hw];exact hex _ (by omega)
theorem QQ {c:UInt8} {r:List UInt8} (h:okU (c :: r)=true) {z:Int} (hz:recV ((c :: r).take (aE c.toNat))=z) (hlo:z < 128):aE c.toNat=1/\(c.toNat:Int)=z:=by
 obtain ⟨_,_,U3,h1,h2,_⟩:=l7 h;injection U3 with JF mE
 subst JF mE;have hw:=QJ c r (aE c.toNat) h1 (qz _) h2;rw [h,decide_eq_true rfl,Bool.and_true,qx _ hz] at hw;obtain ⟨_,he⟩:=hw;have hl:=congrArg List.length he;rw [dE,Nat.min_eq_left h2] at hl
 have h5:yi z.toNat=[UInt8.ofNat z.toNat]:=by
  unfold yi;rw [aj (by omega)]
 rw [h5] at he hl;have hl:aE c.toNat=1:=by simpa using hl.symm
 refine ⟨hl,?_⟩;rw [hl] at hz;exact hz
set_option maxHeartbeats 1000000 in
theorem Eh (s:ByteArray) (at':Nat) (hs:s.size<=1099511627776) (h:at' < s.size) :
  EvP prog 365 [.v (.string s),.v (.int .i64 at')] (.tup [.v (.string (ba (unT ((tx s).drop at')))),.v (.int .i64 (gf ((tx s).drop at'):Nat))]):=by
 obtain ⟨c,r,hd,hb,gD,hex⟩:=Eg h;have hu:=xf s at' hs c r hd;rw [hd];have hun:gf (c :: r)=if okU (c :: r)=true then aE c.toNat else 1:=rfl
 have ZV:unT (c :: r)=if okU (c :: r)=true then yo (recV ((c :: r).take (gf (c :: r)))) ((c :: r).take (gf (c :: r))) else [92,120,np (c.toNat / 16),np (c.toNat % 16)]:=rfl
 have ru:=Bi (c:=c) (r:=r);have bu:=fun g=>l7 (l:=c :: r) g;have U5:=fun g=>@QQ c r g;have j1:=c.toNat_lt;rw [hun] at ZV;rw [hun,ZV];generalize okU (c :: r)=ok at hu ru bu U5 ⊢;refine eG 65 [.tmp 4,.tmp 5] func365 rfl ntmps365 rfl fun _ _ _ _=>?_;refine bp RL rfl hu ax (fun q hq=>?_);obtain ⟨z,n,rfl,hn⟩:=hq
 cases ok with
 | false=>
  rw [ai (by simp),ai (by simp)];have e0:IntKind.i64.wrap (c.toNat:Int)=c.toNat:=wrap64 (by omega) (by omega);have e1:IntKind.i64.wrap ((IntKind.i64.wrap (c.toNat:Int)).tdiv 16)=((c.toNat / 16:Nat):Int):=by rw [e0,Jd,wrap64 (by omega) (by omega)]
  have e2:(IntKind.i64.wrap (c.toNat:Int)).tmod 16=((c.toNat % 16:Nat):Int):=by rw [e0,iB]
  have g1:=ma _ (c.toNat / 16) (aJ _) (by omega);have g2:=ma _ (c.toNat % 16) (aJ _) (by omega);rw [<- e1] at g1;rw [<- e2] at g2;have t1:jW (c.toNat / 16)=[np (c.toNat / 16)]:=by grind [jW,hexP_0]
  have t2:jW (c.toNat % 16)=[np (c.toNat % 16)]:=by
   have:c.toNat % 16 / 16=0:=by omega
   rw [jW,this,hexP_0,Nat.mod_eq_of_lt (by omega)];all_goals rfl
  rw [t1] at g1;rw [t2] at g2;refine ⟨⟨by omega,by omega⟩,?_⟩;rw [show dn s ((at':Int)).toNat=c.toNat from hb];refine ⟨⟨rfl,by decide⟩,?_⟩;refine cP Ih g1 ?_;refine ⟨by show 2 + 1<=_;omega,?_⟩;refine ⟨⟨rfl,by decide⟩,?_⟩;refine cP Ih g2 ?_;refine ⟨by rw [bI];show 2 + 1 + 1<=_;omega,?_⟩;refine ⟨.tup [.v (.string _),.v (.int .i64 _)],ax,?_⟩;exact pe (Je rfl rfl)
 | true=>
  obtain ⟨rfl,hz,Fh⟩:=hn rfl;have hnn:=BC (ru rfl);rw [<- hz] at hnn;obtain ⟨_,_,U3,h1,h2,_⟩:=bu rfl;injection U3 with JF mE
  subst JF mE;rw [List.length_cons] at h2;have U5:=U5 rfl hz.symm;rw [aj rfl,aj rfl,<- hz];unfold yo;have hw1:IntKind.i64.wrap ((at':Int) + 1)=((at' + 1:Nat):Int):=by rw [wrap64 (by omega) (by omega)];omega
  refine br ?_ ?_<;>intro g
  ·have g:z=34∨z=92:=by simpa [ak] using g
   obtain ⟨k1,k2⟩:=U5 (by omega)
   have k3:(if z=34 then [92,34] else if z=92 then [92,92] else if z=9 then [92,116] else if z=10 then [92,110] else if z=13 then [92,114]
     else if BB z=true then [92,117,123] ++ jW z.toNat ++ [125] else (c :: r).take (aE c.toNat))=[92,c]:=by
    have hc:∀ k:UInt8,(c.toNat:Int)=k.toNat->c=k:=fun k hk=>UInt8.toNat_inj.1 (by omega);rcases g with g | g
    ·rw [aj g,hc 34 (by rw [k2,g];rfl)]
    ·rw [ai (by omega),aj g,hc 92 (by rw [k2,g];rfl)]
   rw [k3,k1];have hx:=hex 1 (by omega);refine ⟨⟨by omega,by rw [hw1];omega,by rw [hw1];omega⟩,?_⟩;have JL:s.extract ((at':Int)).toNat (IntKind.i64.wrap ((at':Int) + 1)).toNat=ba [c]:=by rw [hw1];exact hx
   refine ⟨Nat.le_trans (Nat.le_of_eq (congrArg (fun q:ByteArray=>1 + q.size) JL)) (by show 1 + 1<=9223372036854775807;decide),?_⟩;refine ⟨.tup [.v (.string _),.v (.int .i64 _)],ax,?_⟩;exact pe ((congrArg (fun q=>ba [92] ++ q) JL).trans (bX [92] [c]))
  have g:¬ z=34/\¬ z=92:=by simpa [ak] using g
  rw [ai g.1,ai g.2];refine br ?_ ?_<;>intro g
  ·have g:z=9:=sU g;have k1:=(U5 (by omega)).1;rw [aj g,k1];exact ⟨.tup [.v (.string _),.v (.int .i64 _)],ax,rfl⟩
  rw [ai (sU g)];refine br ?_ ?_<;>intro g
  ·have g:z=10:=sU g;have k1:=(U5 (by omega)).1;rw [aj g,k1];exact ⟨.tup [.v (.string _),.v (.int .i64 _)],ax,rfl⟩
  rw [ai (sU g)];refine br ?_ ?_<;>intro g
  ·have g:z=13:=sU g;have k1:=(U5 (by omega)).1;rw [aj g,k1];exact ⟨.tup [.v (.string _),.v (.int .i64 _)],ax,rfl⟩
  rw [ai (sU g)];have hz1:z<=1114111:=by simp [kW] at Fh;omega
  refine bp X5 rfl (Ef z hnn.1 hz1) ax (fun q hq=>?_);obtain ⟨k,rfl,hk⟩:=hq;refine br ?_ ?_<;>intro g
  ·rw [aj (by rw [<- hk];simpa using g)];have hz64:IntKind.i64.wrap z=(z.toNat:Nat):=by rw [wrap64 (by omega) (by omega)];omega
   have hx:=ma _ z.toNat (aJ _) (by omega);rw [<- hz64] at hx;have hl:=nq (n:=z.toNat) (by omega);refine cP Ih hx ?_;refine ⟨by show 3 + (jW z.toNat).length<=_;omega,?_⟩;refine ⟨by rw [bI];show 3 + (jW z.toNat).length + 1<=_;omega,?_⟩;refine ⟨.tup [.v (.string _),.v (.int .i64 _)],ax,?_⟩;exact pe (Jf _)
  ·rw [ai (by rw [<- hk];simpa using g)];have hw:IntKind.i64.wrap ((at':Int) + (aE c.toNat:Nat))=((at' + aE c.toNat:Nat):Int):=by rw [wrap64 (by omega) (by omega)];omega
   refine ⟨⟨by omega,by rw [hw];omega,by rw [hw];omega⟩,?_⟩;refine ⟨.tup [.v (.string _),.v (.int .i64 _)],ax,?_⟩;refine pe ?_;rw [hw];exact hex _ (by omega)
theorem qE {s:ByteArray} {e:Nat} (h:¬ e < s.size):(tx s).drop e=[]:=List.drop_of_length_le (by rw [bf];omega)
theorem Ei {s:ByteArray} {e:Nat} (h:e < s.size):quoU ((tx s).drop e).length ((tx s).drop e)=unT ((tx s).drop e) ++ quoU ((tx s).drop (e + gf ((tx s).drop e))).length ((tx s).drop (e + gf ((tx s).drop e))) /\
  1<=gf ((tx s).drop e)/\e + gf ((tx s).drop e)<=s.size:=by
 have aT:(tx s).drop e ≠ []:=by
  intro hc;have:=congrArg List.length hc
  grind [bf]
 obtain ⟨h1,h2⟩:=kf aT;rw [List.length_drop,bf] at h2;refine ⟨?_,h1,by omega⟩;rw [KJ aT,List.drop_drop]
abbrev SO (s:ByteArray) (l:List UInt8) (e:Nat):St:=⟨[(0,⟨[],.v (.string s)⟩),(3,⟨[],.v (.string (ba l))⟩),ap 4 e],[],[]⟩
theorem BF (s:ByteArray) (hs:s.size<=1099511627776):EvP prog 347 [.v (.string s)] (.v (.string (ba (pa (tx s))))):=by
 have hlen:=nu (tx s);rw [bf] at hlen;refine eG 25 [.tmp 2] func347 rfl ntmps347 rfl fun _ _ _ _=>?_;refine lI (fun j st=>∃ (e:Nat) (l:List UInt8),st=SO s l e/\e<=s.size/\pa (tx s)=l ++ (quoU ((tx s).drop e).length ((tx s).drop e) ++ [34])/\j=s.size - e) ⟨0,[34],rfl,by omega,by rw [List.drop_zero];rfl,rfl⟩ (wkM jT) ?_;rintro _ st ⟨e,l,rfl,he,hq,rfl⟩;have uj:=congrArg List.length hq;rw [List.length_append,List.length_append] at uj;refine br ?_ ?_<;>intro hL
 ·have al:e < s.size:=by simp at hL;omega
  obtain ⟨aY,h1,h2⟩:=Ei al;have hu:=Eh s e hs al;rw [aY] at hq uj;rw [List.length_append] at uj;generalize hU:unT ((tx s).drop e)=U at hu hq uj;generalize hN:gf ((tx s).drop e)=n at hu hq uj h1 h2;have hw:IntKind.i64.wrap ((e:Int) + (n:Nat))=((e + n:Nat):Int):=by rw [wrap64 (by omega) (by omega)];omega
  refine cP X1 hu ?_;refine ⟨by show l.length + U.length<=_;omega,?_⟩;exact ⟨SO s (l ++ U) (e + n),(wkM (by repeat' (first | exact trivial | exact we_rfl rfl | exact we_int hw | exact iJ (bX l U) | refine ⟨⟨_,rfl,?_⟩,?_⟩))),s.size - (e + n),by omega,e + n,_,rfl,h2,by rw [hq];simp only [List.append_assoc],rfl⟩
 ·have aM:¬ e < s.size:=by simp at hL;omega
  rw [qE aM] at hq uj;refine ⟨by show l.length + 1<=_;simp only [List.length_nil,List.length_cons] at uj;omega,?_⟩;rw [hq];exact congrArg (fun q=>DV.v (.string q)) (bX l [34])
abbrev ZW (s:ByteArray) (l:List UInt8) (p:DV) (e:Nat):St:=
 ⟨[(0,⟨[],.v (.string s)⟩),aw 3 0,ap 4 e],[[p,.sl 1 (bD l) (some 0)]],[⟨l.length,5,1,none⟩]⟩
theorem G4 (s:ByteArray) (hs:s.size<=1099511627776):EvP prog 310 [.v (.string s)] (.v (.string (ba (pa (tx s))))):=by
 have hlen:=nu (tx s);rw [bf] at hlen;refine tZ (s:=false) (bt:=[(0,160)]) (hbt:=fun p hp=>Nat.zero_le _) (P:=prog) tt om 5000 25 [.tmp 2] func310 rfl ntmps310 rfl (nL rfl) (fun _ _ _ _=>?_);refine xm ⟨0,5,1,none⟩ ⟨[(0,⟨[],.v (.string s)⟩),aw 3 0],[[.v (.pointer none),.sl 1 [] (some 0)]],[⟨0,5,1,none⟩]⟩ rfl ⟨_,_,rfl,we_rfl rfl,_,_,rfl,we_rfl rfl,rfl⟩ rfl ⟨_,_,rfl,⟨_,_,rfl,we_rfl rfl,_,_,rfl,bN (aJ _) rfl,rfl⟩,rfl⟩ ⟨⟨_,rfl,we_rfl rfl⟩,⟨_,rfl,we_rfl rfl⟩,trivial⟩ rfl rfl ?_;refine Jc (c:=34) (kt:=0) (l:=[]) rfl rfl (.head _) rfl (.inl rfl) rfl (by decide) rfl ?_;refine lI (fun j st=>∃ (e:Nat) (l:List UInt8),st=ZW s l (.loc 0 0) e/\e<=s.size/\l ≠ []/\pa (tx s)=l ++ (quoU ((tx s).drop e).length ((tx s).drop e) ++ [34])/\j=s.size - e) ⟨0,[34],rfl,by omega,by simp,by rw [List.drop_zero];rfl,rfl⟩ (wkM jT) ?_;rintro _ st ⟨e,l,rfl,he,aT,hq,rfl⟩;have uj:=congrArg List.length hq;rw [List.length_append,List.length_append] at uj;refine br ?_ ?_<;>intro hL
 ·have al:e < s.size:=by simp at hL;omega
  obtain ⟨aY,h1,h2⟩:=Ei al;have hu:=G3 s e hs al;rw [aY] at hq uj;rw [List.length_append] at uj;generalize hU:unT ((tx s).drop e)=U at hu hq uj;generalize hN:gf ((tx s).drop e)=n at hu hq uj h1 h2;have hw:IntKind.i64.wrap ((e:Int) + (n:Nat))=((e + n:Nat):Int):=by rw [wrap64 (by omega) (by omega)];omega
  refine cP XU hu ?_;refine jO rfl (l ++ U) (l:=l) (kt:=0) rfl (.head _) rfl (.inr rfl) rfl (by simp [aT]) (by rw [List.length_append];omega) rfl (fun n9=>?_);exact ⟨ZW s (l ++ U) (.loc 0 0) (e + n),(wkM (wB1 hw)),s.size - (e + n),by omega,e + n,_,rfl,h2,by simp [aT],by rw [hq];simp only [List.append_assoc],rfl⟩
 ·have aM:¬ e < s.size:=by simp at hL;omega
  rw [qE aM] at hq uj;refine Jc (c:=34) (kt:=0) (l:=l) rfl rfl (.head _) rfl (.inr rfl) rfl (by simp only [List.length_nil,List.length_cons] at uj;omega) rfl ?_;refine Bw rfl (kt:=0) (l:=l ++ [34]) (.head _) rfl (by simp) (by simp) rfl rfl rfl ?_;rw [hq];exact (rfl:_=_)
theorem QR {p l:List UInt8} (hp:p <+: l) (hpn:p ≠ []) (ht:p.take (gf l)=l.take (gf l)):gf p=gf l:=by
 have ZX:l ≠ []:=by
  rintro rfl;exact hpn (List.prefix_nil.1 hp)
 obtain ⟨a1,a2⟩:=kf hpn;obtain ⟨b1,b2⟩:=kf ZX;by_cases h:2<=gf l
 ·exact sR h ht
 ·by_cases g:2<=gf p
  ·obtain ⟨t,rfl⟩:=hp
   grind [sR]
  ·omega
theorem G5 (u:Nat) (l:List UInt8):headL u (headL u l)=headL u l:=by
 induction u generalizing l with
 | zero=>rfl
 | succ u ih=>grind [sc,b1,b2,kf,zN,headL,gf,QR]
def cK (v:Val) (k n:Int) (s:ByteArray):Bool:=decide (v.k=k) && decide (v.n=n) && decide (v.s=s) && decide (v.ks.length=0)
def im (e:Ed) (d:Nd) (v:Val):Bool:=
 if e.ck=1/\d.ag=2 then
  (if cK v 9 e.wide emptyB=true then !(aF d.lo e.cn).2
   else cK v 10 v.n emptyB && decide (v.n % e.cn=0) && (aF d.hi e.cn).2 && decide (v.n<=(aF d.hi e.cn).1) && (!(aF d.lo e.cn).2 || decide ((aF d.lo e.cn).1<=v.n)))
 else if e.ck=2/\d.ag=3 then cK v 11 0 v.s && decide ((v.s.size:Int)<=d.most) && decide (headL e.cn.toNat (tx v.s)=tx v.s)
 else if e.ck=3/\d.ag=5 then cK v 12 v.n emptyB && decide (0<=v.n) && decide (v.n<=d.most)
 else cK v 9 e.wide emptyB
def shellF (d:Nd) (v:Val):Bool:=
 if v.k≠d.ag∨v.s≠emptyB∨(d.ag≠8/\v.n≠0) then false
 else if d.ag=5 then decide ((v.ks.length:Int)<=d.most)
 else if d.ag=6 then decide (v.ks.length < 2)
 else if d.ag=7 then decide (v.ks.length=d.aq.length)
 else if v.n < 0∨(d.aq.length:Int)<=v.n then false
 else match d.aq[v.n.toNat]? with
  | none=>false
  | some e=>if e.bare=true then decide (v.ks.length=0) else decide (v.ks.length=1)
section
variable (ND:List Nd) (f:Nat->Nat->Bool) (L obs:Nat)
mutual
def seeV:Val->Int->Nat->Bool
 | .mk k n s ks,i,a=>match cm ND i with
  | none=>false
  | some d=>if d.ag < 5 then fitV ND (.mk k n s ks) i else shellF d (.mk k n s ks) && seeVs ks d n a 0
def seeVs:List Val->Nd->Int->Nat->Nat->Bool
 | [],_,_,_,_=>true
 | x :: r,d,z,a,j=>(match bG d z j with
  | none=>false
  | some e=>if k0 f L obs d e a=2 then seeV x e.to (iL f L d e a) else if k0 f L obs d e a=1 then (match cm ND e.to with | none=>false | some t=>im e t x) else cK x 9 e.wide emptyB) && seeVs r d z a (j + 1)
end
end
section
variable {ND:List Nd} {f:Nat->Nat->Bool} {L obs:Nat}
theorem G6 {ks:List Val} {d:Nd} {z:Int} {a j m:Nat} {x:Val} (h:ks[m]? = some x):seeVs ND f L obs (ks.drop m) d z a j=((match bG d z j with
  | none=>false
  | some e=>if k0 f L obs d e a=2 then seeV ND f L obs x e.to (iL f L d e a) else if k0 f L obs d e a=1 then (match cm ND e.to with | none=>false | some t=>im e t x) else cK x 9 e.wide emptyB) && seeVs ND f L obs (ks.drop (m + 1)) d z a (j + 1)):=by
 obtain ⟨hm,rfl⟩:=List.getElem?_eq_some_iff.1 h;rw [List.drop_eq_getElem_cons hm,seeVs]
structure ZY (ND:List Nd) (d:Nd) (z:Int) (j:Nat) (e:Ed):Prop where
 jV:bG d z j=some e
 mem:e∈d.aq
 bare:e.bare=false
theorem zU {N:Nat} {d:Nd} (hN:dB N ND.length d) (h5:5<=d.ag) {v:Val} (h:shellF d v=true) {m:Nat} (hm:m < v.ks.length):∃ e,ZY ND d v.n m e:=by
 have h8:=hN.k8;unfold shellF at h;split at h
 ·cases h
 rename_i hc;have JF:v.k=d.ag:=by omega
 rcases (show (d.ag=5∨d.ag=6)∨d.ag=7∨d.ag=8 by omega) with c | c | c
 ·obtain ⟨e,he,hb,_⟩:=hN.one c;refine ⟨e,?_,by rw [he];exact List.mem_singleton_self e,hb⟩
  grind [bG]
 ·rw [ai (by omega),ai (by omega),aj c,decide_eq_true_iff] at h;obtain ⟨e,he⟩:∃ e,d.aq[m]? = some e:=⟨_,gE (by omega)⟩;refine ⟨e,?_,mG he,?_⟩
  ·unfold bG;rw [aj c,he]
  ·cases hb:e.bare
   ·rfl
   ·have:=hN.bare e (mG he) hb;omega
 ·rw [ai (by omega),ai (by omega),ai (by omega)] at h;split at h
  ·cases h
  cases he:d.aq[v.n.toNat]? with
  | none=>rw [he] at h;cases h
  | some e=>
   rw [he] at h;simp only at h;refine ⟨e,?_,mG he,?_⟩
   ·grind [bG]
   all_goals grind
theorem G7 {n u:Int} (hu:1<=u):(aF n u).2=true->(aF n u).1=n - n % u/\(aF n u).1 % u=0:=by
 unfold aF;rw [ai (by omega)];split
 ·intro h;cases h
 ·intro _;refine ⟨rfl,?_⟩;show (n - n % u) % u=0;rw [Int.sub_emod];simp
theorem pf {v:Val} {k n:Int} {s:ByteArray}:cK v k n s=true↔v = .mk k n s []:=by
 unfold cK;rw [aO,aO,aO,decide_eq_true_iff,decide_eq_true_iff,decide_eq_true_iff,decide_eq_true_iff,List.length_eq_zero_iff];obtain ⟨q,z,t,ks⟩:=v;rw [Val.mk.injEq];constructor
 ·intro ⟨⟨⟨a,b⟩,c⟩,d⟩;exact ⟨a,b,c,d⟩
 ·intro ⟨a,b,c,d⟩;exact ⟨⟨⟨a,b⟩,c⟩,d⟩
theorem la (k n:Int) (s:ByteArray):cK (.mk k n s []) k n s=true:=pf.2 rfl
theorem qF {n u:Int} (hu:1<=u):aF n u=if n - n % u < -9223372036854775808 then (0,false) else (n - n % u,true):=by
 unfold aF;rw [ai (by omega)]
theorem nv {x y u:Int} (hu:1<=u) (JH:x<=y) (h:(aF x u).2=true):(aF y u).2=true/\(aF x u).1<=(aF y u).1:=by
 have hm:x - x % u<=y - y % u:=by
  have h3:=Int.mul_ediv_add_emod x u;have h4:=Int.mul_ediv_add_emod y u;have h5:x / u<=y / u:=Int.ediv_le_ediv (by omega) JH;have h6:u * (x / u)<=u * (y / u):=Int.mul_le_mul_of_nonneg_left h5 (by omega);omega
 rw [qF hu] at h ⊢;rw [qF hu];by_cases c:x - x % u < -9223372036854775808
 ·rw [aj c] at h;cases h
 ·grind
theorem G8 {e:Ed} {d:Nd} {N:Nat} (he:ZF L N e) {v:Val} (hF:Oa ND v e.to d) (eB:fitV ND v e.to=true):im e d (aW e v)=true:=by
 have U6:=he.cn;have hk:=hF.k
 have eB:(if d.ag < 5 then oA d v else cY d v && fitVs ND v.ks (kidsL d v))=true:=by
  obtain ⟨q,z,s,ks⟩:=v;rw [fitV,hF.ah] at eB;exact eB
 by_cases c1:e.ck=1/\v.k=2
 ·have hu:=U6.2.1 c1.1;rw [aj (by omega)] at eB;unfold oA at eB;split at eB
  ·cases eB
  rw [ai (by omega),aj (by omega),aO,aO,decide_eq_true_iff,decide_eq_true_iff,decide_eq_true_iff] at eB;obtain ⟨⟨_,hlo⟩,oc⟩:=eB;unfold im;rw [aj ⟨c1.1,by omega⟩];by_cases hz:(aF v.n e.cn).2=true
  ·have hcv:aW e v = .mk 10 (aF v.n e.cn).1 emptyB []:=by
    unfold aW;rw [aj ⟨c1.1,c1.2,hz⟩]
   rw [hcv,ai (by rw [pf,Val.mk.injEq];omega)];show (cK _ 10 (aF v.n e.cn).1 emptyB && _ && _ && _ && _)=true;rw [la];have h1:=nv hu oc hz;have h2:=(G7 hu hz).2;have h3:(Val.mk 10 (aF v.n e.cn).1 emptyB []).n=(aF v.n e.cn).1:=rfl;rw [h3,decide_eq_true h2,h1.1,decide_eq_true h1.2]
   grind [aF,nv]
  ·have hcv:aW e v = .mk 9 e.wide emptyB []:=by
    unfold aW;rw [ai (fun h=>hz h.2.2),ai (by omega),ai (by omega)];rfl
   rw [hcv,aj (la 9 e.wide emptyB)];cases hl:(aF d.lo e.cn).2
   ·rfl
   ·exact absurd (nv hu hlo hl).1 hz
 by_cases c2:e.ck=2/\v.k=3
 ·have hcv:aW e v = .mk 11 0 (ba (headL e.cn.toNat (tx v.s))) []:=by grind [aW]
  rw [aj (by omega)] at eB;unfold oA at eB;split at eB
  ·cases eB
  rw [ai (by omega),ai (by omega),aj (by omega),aO,decide_eq_true_iff,decide_eq_true_iff] at eB;have h1:=si e.cn.toNat (tx v.s);rw [bf] at h1;have h3:=G5 e.cn.toNat (tx v.s);have h2:(ba (headL e.cn.toNat (tx v.s))).size=(headL e.cn.toNat (tx v.s)).length:=by rw [<- bf,fh]
  rw [hcv];generalize headL e.cn.toNat (tx v.s)=H at h1 h2 h3;unfold im;rw [ai (by omega),aj ⟨c2.1,by omega⟩,aO,aO,decide_eq_true_iff,decide_eq_true_iff];refine ⟨⟨la 11 0 (ba H),?_⟩,?_⟩
  ·show ((ba H).size:Int)<=_;omega
  ·show headL e.cn.toNat (tx (ba H))=tx (ba H);rw [fh];exact h3
 grind [aW,emptyB,cY,im,cK,la,sg]
theorem Ej {v:Val} {i:Int} {a:Nat} {d:Nd} (eB:fitV ND v i=true) (hF:Oa ND v i d) (h5:5<=d.ag) (h8:d.ag<=8):shellF d (eraseV ND f L obs v i a)=true:=by
 obtain ⟨h1,h2,h3⟩:=w7 (ND:=ND) (f:=f) (L:=L) (obs:=obs) v i a;have h4:=GS (f:=f) (L:=L) (obs:=obs) v i a hF.ah
 have eB:(if d.ag < 5 then oA d v else cY d v && fitVs ND v.ks (kidsL d v))=true:=by
  obtain ⟨q,z,s,ks⟩:=v;rw [fitV,hF.ah] at eB;exact eB
 rw [ai (by omega),aO] at eB;have hB:=eB.1;have hk:=hF.k
 have hp:v.s=emptyB/\(v.n=0∨v.k=8):=by
  have:dN v=true:=by
   unfold cY at hB;split at hB
   ·rw [aO,aO] at hB;exact hB.1.1
   split at hB
   ·rw [aO,aO] at hB;exact hB.1.1
   split at hB
   ·cases hB
   ·rw [aO] at hB;exact hB.1
  unfold dN at this;rw [aO,Bool.or_eq_true,decide_eq_true_iff,decide_eq_true_iff,decide_eq_true_iff] at this;exact this
 unfold shellF
 rw [h1,h2,h3,h4,ai (by
  rintro (h | h | ⟨ha,hb⟩)
  ·exact h hk
  ·exact h hp.1
  ·rcases hp.2 with h | h<;>omega)]
 unfold cY at hB;rcases (show d.ag=5∨d.ag=6∨d.ag=7∨d.ag=8 by omega) with c | c | c | c
 ·rw [aj (.inl c),ai (by omega),aO,decide_eq_true_iff] at hB;rw [aj c];exact decide_eq_true hB.2
 ·rw [ai (by omega),aj c];exact decide_eq_true (by have:=hF.opt c;omega)
 ·rw [ai (by omega),aj c,aO,decide_eq_true_iff] at hB;rw [ai (by omega),ai (by omega),aj c];exact decide_eq_true hB.2.symm
 ·obtain ⟨e,ht,he,h0,al,hb⟩:=hF.tag c;rw [ai (by omega),ai (by omega),ai (by omega),ai (by omega),he];simp only;have iT:=(hF.kids h5).1
  have u4:kidsL d v=if e.bare=true then [] else [e.to]:=by
   unfold kidsL;rw [ai (by omega),ai (by omega),ht]
  rw [u4] at iT;by_cases Vx:e.bare=true
  ·rw [aj Vx] at iT ⊢;exact decide_eq_true iT.symm
  ·rw [ai Vx] at iT ⊢;exact decide_eq_true iT.symm
mutual
theorem zV (bu:∀ n∈ND,dB L ND.length n):∀ (x:Val) (i:Int) (a:Nat),fitV ND x i=true->seeV ND f L obs (eraseV ND f L obs x i a) i a=true
 | .mk k n s ks,i,a,hx=>by
  obtain ⟨d,hF⟩:=jk bu hx;have hN:=bu d (mG (bR hF.ah).2);have h8:=hN.k8;have xu:=fun h5=>Ej (f:=f) (L:=L) (obs:=obs) (a:=a) hx hF h5 h8;rw [eraseV,hF.ah] at xu ⊢;simp only at xu ⊢;rw [seeV,hF.ah];simp only;by_cases h5:d.ag < 5
  ·rw [aj h5];have:=hF.leaf h5
   grind [Val.ks,eraseVs]
  ·rw [ai h5,xu (by omega),Bool.true_and];exact xx bu ks d n a 0 hN (fun m x hx1=>by rw [Nat.zero_add];exact Bn bu hx hF hx1)
theorem xx (bu:∀ n∈ND,dB L ND.length n):∀ (ks:List Val) (d:Nd) (z:Int) (a j:Nat),dB L ND.length d->(∀ m x,ks[m]? = some x->∃ e,SJ ND d z (j + m) x e) ->
  seeVs ND f L obs (eraseVs ND f L obs ks d z a j) d z a j=true
 | [],_,_,_,_,_,_=>by rw [eraseVs,seeVs]
 | x :: r,d,z,a,j,hN,hk=>by
  obtain ⟨e,he⟩:=hk 0 x rfl;rw [Nat.add_zero] at he
  have ih:=xx bu r d z a (j + 1) hN (fun m x h1=>by
   have:=hk (m + 1) x h1
   rwa [show j + (m + 1)=j + 1 + m by omega] at this)
  obtain ⟨t,hF'⟩:=jk bu he.fit;rw [eraseVs,seeVs,he.jV];simp only;rw [ih,Bool.and_true];by_cases c2:k0 f L obs d e a=2
  ·rw [aj c2,aj c2];exact zV bu x e.to (iL f L d e a) he.fit
  ·rw [ai c2,ai c2];by_cases c1:k0 f L obs d e a=1
   ·rw [aj c1,aj c1,hF'.ah];exact G8 (hN.jV e he.mem) hF' he.fit
   ·rw [ai c1,ai c1];exact la 9 e.wide emptyB
end
end
def cR (v:Val):Bool:=decide (v.k=2) || (decide (v.k=3) || ((decide (v.k=9) && (decide (1<=v.n) && decide (v.n<=64))) || (decide (10<=v.k) && decide (v.k<=12))))
def oC (v:Val):List UInt8:=
 if v.k=2 then fQ v.n else if v.k=3 then pa (tx v.s) else if v.k=9 then 60 :: (List.replicate v.n.toNat 42 ++ [62])
 else if v.k=10 then [60,126] ++ fQ v.n ++ [62] else if v.k=11 then [60] ++ pa (tx v.s) ++ [46,46,62] else [60,35] ++ fQ v.n ++ [62]
def dC (v:Val):List UInt8:=if cR v=true then oC v else []
def nmE (d:Nd) (j:Nat):List UInt8:=match d.aq[j]? with | some e=>tx e.name | none=>[]
def opnT (d:Nd) (v:Val):List UInt8:=
 if v.k=1 then (if v.n=1 then [116,114,117,101] else [102,97,108,115,101])
 else if v.k=4 then (match d.af[v.n.toNat]? with | some s=>tx s | none=>[])
 else if v.k=5 then [91] else if v.k=6 then (if v.ks=[] then [110,111,110,101] else [115,111,109,101,40]) else if v.k=7 then [123]
 else if v.k=8 then (if v.ks=[] then nmE d v.n.toNat else nmE d v.n.toNat ++ [40])
 else dC v
def jX (v:Val):List UInt8:=if v.k=5 then [93] else if v.k=7 then [125] else if v.ks=[] then [] else [41]
section
variable (ND:List Nd)
mutual
def textV:Val->Int->List UInt8
 | .mk k n s ks,i=>match cm ND i with
  | none=>[]
  | some d=>opnT d (.mk k n s ks) ++ textVs ks d n 0 ++ jX (.mk k n s ks)
def textVs:List Val->Nd->Int->Nat->List UInt8
 | [],_,_,_=>[]
 | x :: r,d,z,j=>((if j=0 then [] else [44,32]) ++ (match bG d z j with
  | none=>[]
  | some e=>(if d.ag=7 then tx e.name ++ [58,32] else []) ++ textV x e.to)) ++ textVs r d z (j + 1)
end
mutual
def iW:Val->Int->Bool
 | .mk k n s ks,i=>match cm ND i with
  | none=>false
  | some d=>if 9<=k then cR (.mk k n s ks) && decide (ks=[]) else if k≠d.ag then false else if d.ag < 5 then decide (ks=[]) && (decide (k≠4) || decide (0<=n/\n < d.af.length)) else shellF d (.mk k n s ks) && fC ks d n 0
def fC:List Val->Nd->Int->Nat->Bool
 | [],_,_,_=>true
 | x :: r,d,z,j=>(match bG d z j with
  | none=>false
  | some e=>iW x e.to) && fC r d z (j + 1)
end
end
section
variable {ND:List Nd}
theorem sY:∀ {l:List Val} {d:Nd} {z:Int} {j:Nat} {x:Val},textVs ND (l ++ [x]) d z j=textVs ND l d z j ++ ((if j + l.length=0 then [] else [44,32]) ++ (match bG d z (j + l.length) with
  | none=>[]
  | some e=>(if d.ag=7 then tx e.name ++ [58,32] else []) ++ textV ND x e.to))
 | [],d,z,j,x=>by simp only [List.nil_append,textVs,List.append_nil,List.length_nil,Nat.add_zero]
 | y :: r,d,z,j,x=>by
  rw [List.cons_append,textVs,textVs,sY];simp only [List.length_cons]
  grind
theorem ny {ks:List Val} {d:Nd} {z:Int} {e:Nat} {x:Val} {ed:Ed} (h:ks[e]? = some x) (he:bG d z e=some ed) :
  textVs ND (ks.take (e + 1)) d z 0=textVs ND (ks.take e) d z 0 ++ ((if e=0 then [] else [44,32]) ++ ((if d.ag=7 then tx ed.name ++ [58,32] else []) ++ textV ND x ed.to)):=by
 have hl:(ks.take e).length=e:=by rw [dE];have:=(gS h).1;omega
 rw [List.take_add_one,h];show textVs ND (ks.take e ++ [x]) d z 0=_;rw [sY,hl,Nat.zero_add,he]
theorem jP:∀ {ks:List Val} {d:Nd} {z:Int} {j m:Nat} {x:Val},fC ND ks d z j=true->ks[m]? = some x->∃ e,bG d z (j + m)=some e/\iW ND x e.to=true
 | [],_,_,_,_,_,_,h=>by simp at h
 | y :: r,d,z,j,m,x,hw,h=>by
  rw [fC,aO] at hw
  cases m with
  | zero=>grind
  | succ m=>
   rw [show j + (m + 1)=j + 1 + m by omega];exact jP hw.2 (sU h)
theorem BG {z:Int} (h:od z):(fQ z).length<=21:=pS h.1 h.2
theorem KM {v:Val} (h:od v.n) (hk:cR v=true):(oC v).length<=24 + 64 + 12 * v.s.size:=by grind [BG,nu,tx,bf,oC,cR]
end
end Go.Proofs.YtgjagnmeonoehaaGreat
set_option maxRecDepth 100000
namespace Go.Proofs
open Go.Shelf
def Tryz.lays105_ren:Go.Shelf.Ren:=⟨fun | 105=>311 | 212=>343 | 99=>344 | 165=>267 | 166=>74 | 170=>345 | 169=>76 | 263=>362 | 264=>363 | 206=>364 | 240=>149 | 241=>312 | 276=>217 | 277=>346 | n=>n,fun | 9=>9 | 3=>3 | 4=>4 | 20=>20 | 0=>0 | 46=>346 | 109=>422 | 5=>5 | 72=>160 | 76=>163 | 51=>384 | 146=>439 | 53=>295 | 148=>441 | 70=>157 | 37=>158 | 75=>162 | 127=>258 | 164=>316 | 80=>166 | n=>n,fun | n=>n⟩
theorem Tryz.lays105:Go.Proofs.Lays.n105 prog Tryz.lays105_ren:={
 mixed:=by kernel_rfl
 f99:=func344.trans (congrArg some (by kernel_rfl))
 f105:=func311.trans (congrArg some (by kernel_rfl))
 f165:=func267.trans (congrArg some (by kernel_rfl))
 f166:=func74.trans (congrArg some (by kernel_rfl))
 f169:=func76.trans (congrArg some (by kernel_rfl))
 f170:=func345.trans (congrArg some (by kernel_rfl))
 f206:=func364.trans (congrArg some (by kernel_rfl))
 f212:=func343.trans (congrArg some (by kernel_rfl))
 f240:=func149.trans (congrArg some (by kernel_rfl))
 f241:=func312.trans (congrArg some (by kernel_rfl))
 f263:=func362.trans (congrArg some (by kernel_rfl))
 f264:=func363.trans (congrArg some (by kernel_rfl))
 f276:=func217.trans (congrArg some (by kernel_rfl))
 f277:=func346.trans (congrArg some (by kernel_rfl))
 t0:=Tryz.underlying0
 a0:=Tryz.isAgg0
 z0:=Tryz.sizeOf0
 v0:=Tryz.zeroValue0
 t3:=Tryz.underlying3
 a3:=Tryz.isAgg3
 z3:=Tryz.sizeOf3
 v3:=Tryz.zeroValue3
 t4:=Tryz.underlying4
 a4:=Tryz.isAgg4
 z4:=Tryz.sizeOf4
 v4:=Tryz.zeroValue4
 t5:=Tryz.underlying5
 a5:=Tryz.isAgg5
 z5:=Tryz.sizeOf5
 v5:=Tryz.zeroValue5
 t9:=Tryz.underlying9
 a9:=Tryz.isAgg9
 z9:=Tryz.sizeOf9
 v9:=Tryz.zeroValue9
 t20:=Tryz.underlying20
 a20:=Tryz.isAgg20
 z20:=Tryz.sizeOf20
 v20:=Tryz.zeroValue20
 t37:=Tryz.underlying158
 a37:=Tryz.isAgg158
 z37:=Tryz.sizeOf158
 v37:=Tryz.zeroValue158
 t46:=Tryz.underlying346
 a46:=Tryz.isAgg346
 z46:=Tryz.sizeOf346
 v46:=Tryz.zeroValue346
 t51:=Tryz.underlying384
 a51:=Tryz.isAgg384
 z51:=Tryz.sizeOf384
 v51:=Tryz.zeroValue384
 t53:=Tryz.underlying295
 a53:=Tryz.isAgg295
 z53:=Tryz.sizeOf295
 v53:=Tryz.zeroValue295
 t70:=Tryz.underlying157
 a70:=Tryz.isAgg157
 z70:=Tryz.sizeOf157
 v70:=Tryz.zeroValue157
 t72:=Tryz.underlying160
 a72:=Tryz.isAgg160
 z72:=Tryz.sizeOf160
 v72:=Tryz.zeroValue160
 t75:=Tryz.underlying162
 a75:=Tryz.isAgg162
 z75:=Tryz.sizeOf162
 v75:=Tryz.zeroValue162
 t76:=Tryz.underlying163
 a76:=Tryz.isAgg163
 z76:=Tryz.sizeOf163
 v76:=Tryz.zeroValue163
 t109:=Tryz.underlying422
 a109:=Tryz.isAgg422
 z109:=Tryz.sizeOf422
 v109:=Tryz.zeroValue422
 t127:=Tryz.underlying258
 a127:=Tryz.isAgg258
 z127:=Tryz.sizeOf258
 v127:=Tryz.zeroValue258
 t146:=Tryz.underlying439
 a146:=Tryz.isAgg439
 z146:=Tryz.sizeOf439
 v146:=Tryz.zeroValue439
 t148:=Tryz.underlying441
 a148:=Tryz.isAgg441
 z148:=Tryz.sizeOf441
 v148:=Tryz.zeroValue441
 t164:=Tryz.underlying316
 a164:=Tryz.isAgg316
 z164:=Tryz.sizeOf316
 v164:=Tryz.zeroValue316 }
theorem Tryz.Builder_Extra_105:Builder.Extra prog Tryz.lays105_ren:={
 sizeBuilder:=by kernel_rfl
 liesBuilder:=by kernel_rfl
 t5:=Tryz.underlying5
 a5:=Tryz.isAgg5
 z5:=Tryz.sizeOf5
 v5:=Tryz.zeroValue5
 infoByte:=by kernel_rfl
 cellsByte:=by kernel_rfl
 sizeByte:=by kernel_rfl
 neB5:=by decide }
end Go.Proofs
namespace Go.Proofs.YtgjagnmeonoehaaGreat
open Go Go.RowKit Dv Go.Proofs.Tryz
theorem repeatL_one (c:UInt8):∀ n:Nat,Lib.repeatL [c] n=List.replicate n c
 | 0=>rfl
 | n + 1=>by
  have:=repeatL_one c n;simp [Lib.repeatL,List.replicate_succ] at this ⊢;exact this
theorem Ek (c:UInt8) (n:Nat) (hn:n<=64):EvP prog 311 [.v (.string (ba [c])),.v (.int .i64 n)] (.v (.string (ba (List.replicate n c)))):=by
 refine y9 fun E w vs hE hv=>?_;simp only [RvL] at hv;obtain ⟨v1,s1,rfl,h1,v2,s2,rfl,h2,rfl⟩:=hv;have h1:=bg h1;have h2:=bg h2;subst h1 h2;refine (Any.strings_Repeat Tryz.lays105 Tryz.Builder_Extra_105 (ba [c]) n w (by omega) (by show 1 * n<=_;omega)).mono ?_;rintro e w' ⟨rfl,hw⟩;refine ⟨_,rfl,?_,hw⟩;unfold Rv;refine ⟨?_,rfl⟩;rw [show (ba [c]).data.toList=[c] from rfl,repeatL_one]
end Go.Proofs.YtgjagnmeonoehaaGreat
set_option maxRecDepth 100000
namespace Go.Proofs.YtgjagnmeonoehaaGreat
open Go Go.RowKit Dv Go.Proofs.Tryz
theorem G9 (a b c:List UInt8):(ba a ++ ba b) ++ ba c=ba (a ++ b ++ c):=(congrArg (·++ ba c) (bX a b)).trans (bX _ _)
section
variable {v:Val}
theorem lf_2 (h:v.k=2):cR v=true/\dC v=fQ v.n:=by grind [cR,dC,oC]
theorem lf_3 (h:v.k=3):cR v=true/\dC v=pa (tx v.s):=by grind [cR,dC,oC]
theorem lf_9 (h:v.k=9) (h1:1<=v.n) (h2:v.n<=64):cR v=true/\dC v=60 :: (List.replicate v.n.toNat 42 ++ [62]):=by grind [cR,dC,oC]
theorem SP (h:v.k=9) (h1:¬ (1<=v.n/\v.n<=64)):cR v=false/\dC v=[]:=by grind [cR,dC]
theorem lf_10 (h:v.k=10):cR v=true/\dC v=[60,126] ++ fQ v.n ++ [62]:=by grind [cR,dC,oC]
theorem lf_11 (h:v.k=11):cR v=true/\dC v=[60] ++ pa (tx v.s) ++ [46,46,62]:=by grind [cR,dC,oC]
theorem lf_12 (h:v.k=12):cR v=true/\dC v=[60,35] ++ fQ v.n ++ [62]:=by grind [cR,dC,oC]
theorem SQ (h:v.k≠2/\v.k≠3/\v.k≠9/\v.k≠10/\v.k≠11/\v.k≠12):cR v=false/\dC v=[]:=by grind [cR,dC]
end
theorem sZ (v:Val) (hs:v.s.size<=1099511627776) (hn:od v.n):EvP prog 261 [.agg (dVal v)] (.tup [.v (.string (ba (dC v))),.v (.bool (cR v))]):=by
 have hp:=C2 v.n hn.1 hn.2;have iP:=BG hn;have hq:=G4 v.s hs;have hql:=nu (tx v.s);rw [bf] at hql;have hr:=fun (_:1<=v.n) (h2:v.n<=64)=>Ek 42 v.n.toNat (by omega);have h2:=@lf_2 v;have h3:=@lf_3 v;have h9:=@lf_9 v;have h9n:=@SP v;have sx:=@lf_10 v;have h11:=@lf_11 v;have VA:=@lf_12 v;have fH:=@SQ v;generalize dC v=S at *;generalize cR v=B at *;obtain ⟨k,n,s,ks⟩:=v;simp only [Val.k,Val.n,Val.s] at *;refine eG 52 [.tmp 2,.tmp 3] func261 rfl ntmps261 rfl fun _ _ _ _=>?_;refine br ?_ ?_<;>intro c
 ·obtain ⟨rfl,rfl⟩:=h2 (sU c);refine cP H8 hp ?_;exact ⟨.tup [.v (.string _),.v (.bool _)],ax,rfl⟩
 have c2:¬ k=2:=sU c;refine br ?_ ?_<;>intro c
 ·obtain ⟨rfl,rfl⟩:=h3 (sU c);refine cP RM hq ?_;exact ⟨.tup [.v (.string _),.v (.bool _)],ax,rfl⟩
 have c3:¬ k=3:=sU c;refine br ?_ ?_<;>intro c
 ·have c9:k=9:=sU c;refine br ?_ ?_<;>intro g
  ·obtain ⟨rfl,rfl⟩:=h9n c9 (by simp [ak] at g;omega);exact ⟨.tup [.v (.string _),.v (.bool _)],ax,rfl⟩
  ·have g:1<=n/\n<=64:=by simp [ak] at g;omega
   obtain ⟨rfl,rfl⟩:=h9 c9 g.1 g.2;have hr:=hr g.1 g.2;rw [show ((n.toNat:Nat):Int)=n by omega] at hr;refine cP XG hr ?_;refine ⟨by show 1 + (List.replicate n.toNat (42:UInt8)).length<=_;rw [List.length_replicate];omega,?_⟩;refine ⟨by rw [bI];show 1 + (List.replicate n.toNat (42:UInt8)).length + 1<=_;rw [List.length_replicate];omega,?_⟩;refine ⟨.tup [.v (.string _),.v (.bool _)],ax,?_⟩;exact pe (G9 [60] _ [62])
 have c9:¬ k=9:=sU c;refine br ?_ ?_<;>intro c
 ·obtain ⟨rfl,rfl⟩:=sx (sU c);refine cP H8 hp ?_;refine ⟨by show 2 + (fQ n).length<=_;omega,?_⟩;refine ⟨by rw [bI];show 2 + (fQ n).length + 1<=_;omega,?_⟩;refine ⟨.tup [.v (.string _),.v (.bool _)],ax,?_⟩;exact pe (G9 [60,126] _ [62])
 have c10:¬ k=10:=sU c;refine br ?_ ?_<;>intro c
 ·obtain ⟨rfl,rfl⟩:=h11 (sU c);refine cP RM hq ?_;refine ⟨by show 1 + (pa (tx s)).length<=_;omega,?_⟩;refine ⟨by rw [bI];show 1 + (pa (tx s)).length + 3<=_;omega,?_⟩;refine ⟨.tup [.v (.string _),.v (.bool _)],ax,?_⟩;exact pe (G9 [60] _ [46,46,62])
 have c11:¬ k=11:=sU c;refine br ?_ ?_<;>intro c
 ·obtain ⟨rfl,rfl⟩:=VA (sU c);refine cP H8 hp ?_;refine ⟨by show 2 + (fQ n).length<=_;omega,?_⟩;refine ⟨by rw [bI];show 2 + (fQ n).length + 1<=_;omega,?_⟩;refine ⟨.tup [.v (.string _),.v (.bool _)],ax,?_⟩;exact pe (G9 [60,35] _ [62])
 have c12:¬ k=12:=sU c;obtain ⟨rfl,rfl⟩:=fH ⟨c2,c3,c9,c10,c11,c12⟩;exact ⟨.tup [.v (.string _),.v (.bool _)],ax,rfl⟩
abbrev ZZ (v:Val) (e:Nat):St:=⟨[aw 1 0,(4,⟨[],.v (.string (ba (60 :: List.replicate e 42)))⟩),ap 5 e],[dVal v],[]⟩
theorem Ha (v:Val) (hs:v.s.size<=1099511627776) (hn:od v.n):EvP prog 313 [.agg (dVal v)] (.tup [.v (.string (ba (dC v))),.v (.bool (cR v))]):=by
 have hp:=vv v.n hn.1 hn.2;have iP:=BG hn;have hq:=BF v.s hs;have hql:=nu (tx v.s);rw [bf] at hql;have h2:=@lf_2 v;have h3:=@lf_3 v;have h9:=@lf_9 v;have h9n:=@SP v;have sx:=@lf_10 v;have h11:=@lf_11 v;have VA:=@lf_12 v;have fH:=@SQ v;generalize dC v=S at *;generalize cR v=B at *;obtain ⟨k,n,s,ks⟩:=v;simp only [Val.k,Val.n,Val.s] at *;refine eG 65 [.tmp 2,.tmp 3] func313 rfl ntmps313 rfl fun _ _ _ _=>?_;refine br ?_ ?_<;>intro c
 ·obtain ⟨rfl,rfl⟩:=h2 (sU c);refine cP pL hp ?_;exact ⟨.tup [.v (.string _),.v (.bool _)],ax,rfl⟩
 have c2:¬ k=2:=sU c;refine br ?_ ?_<;>intro c
 ·obtain ⟨rfl,rfl⟩:=h3 (sU c);refine cP RP hq ?_;exact ⟨.tup [.v (.string _),.v (.bool _)],ax,rfl⟩
 have c3:¬ k=3:=sU c;refine br ?_ ?_<;>intro c
 ·have c:(k=9/\1<=n)/\n<=64:=by
   simp [pickB_and] at c;omega
  obtain ⟨rfl,rfl⟩:=h9 c.1.1 c.1.2 c.2;refine lJ (fun e=>ZZ (.mk k n s ks) e) n.toNat (wkM jT) ?_;intro e he;refine br ?_ ?_<;>intro hL
  ·have al:(e:Int) < n:=sU hL;refine ⟨by show (List.replicate e (42:UInt8)).length + 1 + 1<=_;rw [List.length_replicate];omega,?_⟩;have hst9:ba (60 :: List.replicate e 42) ++ ba [42]=ba (60 :: List.replicate (e + 1) 42):=(bX (60 :: List.replicate e 42) [42]).trans (congrArg ba (by rw [List.replicate_succ'];rfl));refine ⟨ZZ (.mk k n s ks) (e + 1),(wkM (by repeat' (first | exact trivial | exact we_rfl rfl | exact we_int (nxt (n:=65) (by omega) (by omega)) | exact iJ hst9 | refine ⟨⟨_,rfl,?_⟩,?_⟩))),n.toNat - (e + 1),by omega,e + 1,rfl,by omega,rfl⟩
  ·have aM:e=n.toNat:=by grind
   subst aM;refine ⟨by show (List.replicate n.toNat (42:UInt8)).length + 1 + 1<=_;rw [List.length_replicate];omega,?_⟩;refine ⟨.tup [.v (.string _),.v (.bool _)],ax,?_⟩;exact pe (bX _ [62])
 have c9:¬ (k=9/\1<=n/\n<=64):=by simp [pickB_and] at c;omega
 refine br ?_ ?_<;>intro c
 ·obtain ⟨rfl,rfl⟩:=sx (sU c);refine cP pL hp ?_;refine ⟨by show 2 + (fQ n).length<=_;omega,?_⟩;refine ⟨by rw [bI];show 2 + (fQ n).length + 1<=_;omega,?_⟩;refine ⟨.tup [.v (.string _),.v (.bool _)],ax,?_⟩;exact pe (G9 [60,126] _ [62])
 have c10:¬ k=10:=sU c;refine br ?_ ?_<;>intro c
 ·obtain ⟨rfl,rfl⟩:=h11 (sU c);refine cP RP hq ?_;refine ⟨by show 1 + (pa (tx s)).length<=_;omega,?_⟩;refine ⟨by rw [bI];show 1 + (pa (tx s)).length + 3<=_;omega,?_⟩;refine ⟨.tup [.v (.string _),.v (.bool _)],ax,?_⟩;exact pe (G9 [60] _ [46,46,62])
 have c11:¬ k=11:=sU c;refine br ?_ ?_<;>intro c
 ·obtain ⟨rfl,rfl⟩:=VA (sU c);refine cP pL hp ?_;refine ⟨by show 2 + (fQ n).length<=_;omega,?_⟩;refine ⟨by rw [bI];show 2 + (fQ n).length + 1<=_;omega,?_⟩;refine ⟨.tup [.v (.string _),.v (.bool _)],ax,?_⟩;exact pe (G9 [60,35] _ [62])
 have c12:¬ k=12:=sU c;by_cases c:k=9
 ·obtain ⟨rfl,rfl⟩:=h9n c (by omega);exact ⟨.tup [.v (.string _),.v (.bool _)],ax,rfl⟩
 ·obtain ⟨rfl,rfl⟩:=fH ⟨c2,c3,c,c10,c11,c12⟩;exact ⟨.tup [.v (.string _),.v (.bool _)],ax,rfl⟩
def El (f:Nat->Nat->Bool) (c k:Nat):Bool:=(List.range k).all (f c)
theorem KN (f:Nat->Nat->Bool) (c k:Nat):El f c (k + 1)=(El f c k && f c k):=by simp [El,List.range_succ]
theorem Em (f:Nat->Nat->Bool) (n c:Nat):rP f n [] c=El f c n:=by simp [rP,gA,El]
abbrev SR (n:Nat) (f:Nat->Nat->Bool) (e:Nat):St:=⟨[aU 0 1 (cu (dj n f)),ap 3 e],[],[]⟩
abbrev Z0 (n:Nat) (f:Nat->Nat->Bool) (e:Nat) (x:Bool) (k:Nat):St:=⟨[aU 0 1 (cu (dj n f)),ap 3 e,Ar 4 x,ap 5 k],[],[]⟩
theorem yq (n:Nat) (f:Nat->Nat->Bool) (hn:n<=64):EvP prog 62 [.sl 1 (cu (dj n f)) none] (.v (.int .i64 (oz (ei f n [])))):=by
 have dF:=ik n f;refine eG 30 [.tmp 2] func62 rfl ntmps62 rfl fun _ _ _ _=>?_;refine lI (fun j st=>∃ e:Nat,st=SR n f e/\e<=n/\(∀ c,c < e->rP f n [] c=false)/\j=n - e) ⟨0,rfl,by omega,fun _ h=>by omega,rfl⟩ (wkM wB) ?_;rintro j st ⟨e,rfl,he,fH,rfl⟩;refine br ?_ ?_<;>intro hL
 ·have al:e < n:=sV dF hL;refine lJ (fun k=>Z0 n f e (El f e k) k) n (wkM (by repeat' (first | exact trivial | exact we_rfl rfl | exact bQ rfl | refine ⟨⟨_,rfl,?_⟩,?_⟩))) ?_;intro k hk;refine br ?_ ?_<;>intro nb
  ·have gC:k < n:=sV dF nb;have Kt:=KN f e k;refine br ?_ ?_<;>intro g
   ·refine iX (dr al) ?_;refine iX (cz gC) ?_;have g:El f e k=true:=sU g;rw [g,Bool.true_and] at Kt;exact rE ⟨_,by omega,k + 1,rfl,by omega,rfl⟩ (wkM (wB2 (nxt gC (by omega)) Kt.symm))
   ·have g:El f e k=false:=sU g;rw [g,Bool.false_and] at Kt;exact rE ⟨_,by omega,k + 1,rfl,by omega,rfl⟩ (wkM (wB2 (nxt gC (by omega)) Kt.symm))
  ·have aM:k=n:=sW dF nb;subst aM;refine br ?_ ?_<;>intro g
   ·have g:rP f k [] e=true:=by rw [Em];exact g
    rw [ei,cH al g fH];exact (rfl:_=_)
   ·have g:rP f k [] e=false:=by rw [Em];exact g
    refine ⟨SR k f (e + 1),(wkM (wB1 (nxt al (by omega)))),k - (e + 1),by omega,e + 1,rfl,by omega,fun j hj=>?_,rfl⟩;rcases lh hj with hj | rfl
    ·exact fH j hj
    ·exact g
 ·have aM:e=n:=sW dF hL;subst aM;rw [ei,dh fH];exact (rfl:_=_)
theorem eA {s:ByteArray} (h:bc s=true):s.size<=32:=by grind [bc]
namespace Dv
section
variable {X:Ctx} {st:St} {k:List It}
theorem SS {o:Oper} {t d e:Nat} {x:Operand} {es:List (List DV)} {tk:Option Nat} {n et e' jR:Nat} {bb:Bool} {z:List Value} (kE:∃ t',o.op = .binOp .neq t x (.const (.slice none 0 0)) t') (gU:o.dst=some d) (hx:rv st [] x=some (.sl e es tk)) (aT:es ≠ []) (hT:X.T.find t=some ⟨n,bb,.sl et e' jR,z⟩) (hd:e9 X.nt st.sl (some d)=true)
  (hk:go X 4000 k ⟨(d,⟨[],.v (.bool true)⟩) :: st.sl,st.bx,st.tk⟩):HE X o k st:=by
 intro E a w h;obtain ⟨t',kE⟩:=kE;have e1:=aP h.rl hx;unfold Rv at e1;obtain ⟨b,m,cap,e1,⟨rfl,_⟩,hr,_⟩:=e1;obtain ⟨hu,_⟩:=eC X.hT hT;have aG:=v7 hu b es.length cap w;have hb:b.isNone=false:=by rw [lr (hr aT).1];all_goals rfl
 have bU:(execOp a.eval o).run X.P w = .ok (.value (.bool true)) w:=by
  have hc:a.eval (.const (.slice none 0 0)) = .slice none 0 0:=rfl;rw [hb] at aG;simp [execOp,kE,e1,hc,eqGuard,binOp,aG]
 refine gn bU ?_;rw [gU];exact go_sound 4000 _ _ hk E _ w (aV h hd (.v (.bool true)) _ (by unfold Rv;exact ⟨rfl,rfl⟩))
theorem OB {o:Oper} {t d et e' jR n:Nat} {x:Operand} {bb:Bool} {z:List Value} (kE:∃ t',o.op = .binOp .neq t x (.const (.slice none 0 0)) t') (gU:o.dst=some d) (hx:rv st [] x=some (.v (.slice none 0 0))) (hT:X.T.find t=some ⟨n,bb,.sl et e' jR,z⟩) (hd:e9 X.nt st.sl (some d)=true)
  (hk:go X 4000 k ⟨(d,⟨[],.v (.bool false)⟩) :: st.sl,st.bx,st.tk⟩):HE X o k st:=by
 intro E a w h;obtain ⟨t',kE⟩:=kE;have e1:=aP h.rl hx;unfold Rv at e1;obtain ⟨hu,_⟩:=eC X.hT hT;have aG:=v7 hu none 0 0 w
 have bU:(execOp a.eval o).run X.P w = .ok (.value (.bool false)) w:=by
  have hc:a.eval (.const (.slice none 0 0)) = .slice none 0 0:=rfl;simp [execOp,kE,e1.1,hc,eqGuard,binOp,aG]
 refine gn bU ?_;rw [gU];exact go_sound 4000 _ _ hk E _ w (aV h hd (.v (.bool false)) _ (by unfold Rv;exact ⟨rfl,rfl⟩))
end
end Dv
theorem qG (v:Val):EvP prog 262 [.agg (dVal v)] (.v (.bool (decide (v.k < 5) || decide (8 < v.k)))):=by
 obtain ⟨k,n,s,ks⟩:=v;refine eG 11 [.tmp 2] func262 rfl ntmps262 rfl fun _ _ _ _=>?_;refine (bH ?_:);simp only [ak,Val.k];rfl
section
variable {d:Nd} {v:Val}
theorem opn_1 (h:v.k=1) (g:v.n=1):opnT d v=[116,114,117,101]:=by rw [opnT,aj h,aj g]
theorem Hb (h:v.k=1) (g:¬ v.n=1):opnT d v=[102,97,108,115,101]:=by rw [opnT,aj h,ai g]
theorem opn_4 {x:ByteArray} (h:v.k=4) (g:d.af[v.n.toNat]? = some x):opnT d v=tx x:=by rw [opnT,ai (by omega),aj h,g]
theorem opn_5 (h:v.k=5):opnT d v=[91]:=by rw [opnT,ai (by omega),ai (by omega),aj h]
theorem opn_6 (h:v.k=6):opnT d v=if v.ks=[] then [110,111,110,101] else [115,111,109,101,40]:=by rw [opnT,ai (by omega),ai (by omega),ai (by omega),aj h]
theorem Hc (h:v.k=6) (g:v.ks=[]):opnT d v=[110,111,110,101]:=by rw [opn_6 h,aj g]
theorem He (h:v.k=6) (g:v.ks ≠ []):opnT d v=[115,111,109,101,40]:=by rw [opn_6 h,ai g]
theorem opn_7 (h:v.k=7):opnT d v=[123]:=by rw [opnT,ai (by omega),ai (by omega),ai (by omega),ai (by omega),aj h]
theorem opn_8 {e:Ed} (h:v.k=8) (g:d.aq[v.n.toNat]? = some e):opnT d v=if v.ks=[] then tx e.name else tx e.name ++ [40]:=by grind [opnT,nmE]
theorem Hf {e:Ed} (h:v.k=8) (g:d.aq[v.n.toNat]? = some e) (c:v.ks=[]):opnT d v=tx e.name:=by rw [opn_8 h g,aj c]
theorem Hg {e:Ed} (h:v.k=8) (g:d.aq[v.n.toNat]? = some e) (c:v.ks ≠ []):opnT d v=tx e.name ++ [40]:=by rw [opn_8 h g,ai c]
theorem zW (h:v.k≠1/\v.k≠4/\v.k≠5/\v.k≠6/\v.k≠7/\v.k≠8):opnT d v=dC v:=by grind [opnT]
theorem end_5 (h:v.k=5):jX v=[93]:=by rw [jX,aj h]
theorem end_7 (h:v.k=7):jX v=[125]:=by rw [jX,ai (by omega),aj h]
theorem SU (h:v.k≠5/\v.k≠7):jX v=if v.ks=[] then [] else [41]:=by rw [jX,ai h.1,ai h.2]
theorem Jg (h:v.k≠5/\v.k≠7) (g:v.ks=[]):jX v=[]:=by rw [SU h,aj g]
theorem SV (h:v.k≠5/\v.k≠7) (g:v.ks ≠ []):jX v=[41]:=by rw [SU h,ai g]
end
theorem Eo (d:Nd) (v:Val) (hs:v.s.size<=1099511627776) (hn:od v.n) (hk:v.k<=4∨9<=v.k) (h4:v.k=4->0<=v.n/\v.n < d.af.length) :
  EvP prog 264 [.agg (kN d),.agg (dVal v)] (.v (.string (ba (opnT d v)))):=by
 have hl:=sZ v hs hn;have o1:=@opn_1 d v;have o2:=@Hb d v;have o3:=fun x=>@opn_4 d v x;have o4:=@zW d v;generalize opnT d v=O at *;generalize dC v=S at *;generalize cR v=B at *;obtain ⟨ag,at',lo,hi,most,af,es⟩:=d;obtain ⟨k,n,s,ks⟩:=v;simp only [Val.k,Val.n] at *;refine eG 28 [.tmp 4] func264 rfl ntmps264 rfl fun _ _ _ _=>?_;refine br ?_ ?_<;>intro c
 ·have c:k=1:=sU c;refine br ?_ ?_<;>intro g
  ·rw [o1 c (sU g)];exact (rfl:_=_)
  ·rw [o2 c (sU g)];exact (rfl:_=_)
 have c1:¬ k=1:=sU c;refine br ?_ ?_<;>intro c
 ·have c4:k=4:=sU c;obtain ⟨h0,h1⟩:=h4 c4;obtain ⟨x,hx⟩:∃ x,af[n.toNat]? = some x:=⟨_,gE (by omega)⟩;rw [o3 x c4 hx];refine iX (eJ hx) ?_;exact congrArg (fun q=>DV.v (.string q)) (mV x).symm
 have c4:¬ k=4:=sU c;rw [o4 (by omega)];refine cP RE hl ?_;exact (rfl:_=_)
def tosL (d:Nd) (v:Val) (m:Nat):List Int:=(List.range m).map fun j=>match bG d v.n j with | some e=>e.to | none=>0
theorem Ep (d:Nd) (v:Val) (m:Nat):(tosL d v m).length=m:=by simp [tosL]
theorem Er {d:Nd} {v:Val} {m j:Nat} {e:Ed} (h:bG d v.n j=some e) (hj:j < m):(tosL d v m)[j]? = some e.to:=by
 simp [tosL,hj,h]
theorem KO {d:Nd} {v:Val} {m:Nat} {e:Ed} (h:bG d v.n m=some e):tosL d v (m + 1)=tosL d v m ++ [e.to]:=by
 simp [tosL,List.range_succ,h]
def Et (d:Nd) (m:Nat):List (List UInt8):=(d.aq.take m).map fun e=>tx e.name ++ [58,32]
theorem OC {d:Nd} {m:Nat} {e:Ed} (h:d.aq[m]? = some e):Et d (m + 1)=Et d m ++ [tx e.name ++ [58,32]]:=by
 simp [Et,List.take_add_one,h]
def Eu (d:Nd):DV:=if d.ag=7 then .sl 1 (cO (Et d d.aq.length)) none else .v (.slice none 0 0)
abbrev zF:List DV:=[.v (.string emptyB),.v (.string emptyB),.v (.slice none 0 0)]
abbrev Hh (d:Nd) (v:Val) (l:List Int) (q e:Nat):St:=
 ⟨[aw 2 0,aw 3 1,aw 4 2,aw 6 3,(7,⟨[],.sl 1 (nY l) (some 0)⟩),ap 14 ((dVals v.ks).length),ap 15 e],[kN d,dVal v,zF,zF],[⟨q,3,1,none⟩]⟩
abbrev Z1 (d:Nd) (v:Val) (l:List Int) (q u:Nat):St:=
 ⟨[aw 2 0,aw 3 1,aw 4 2,aw 6 3,(7,⟨[],.sl 1 (nY l) (some 0)⟩),aU 54 10 (eM d.aq),ap 55 ((eM d.aq).length),ap 56 u],
  [kN d,dVal v,zF,[.v (.string (ba [123])),.v (.string (ba [125])),.sl 1 (cO (Et d u)) (some 1)]],[⟨q,3,1,none⟩,⟨u,9,1,none⟩]⟩
theorem Jh (d:Nd) (m:Nat) (h:m<=d.aq.length):(Et d m).length=m:=by simp [Et];omega
theorem Hi (x:ByteArray) (l:List UInt8):x ++ ba l=ba (tx x ++ l):=(congrArg (·++ ba l) (mV x)).symm.trans (bX (tx x) l)
theorem zX {L N:Nat} {d:Nd} (hN:dB L N d) (h5:5<=d.ag) (v:Val) (hv:v.wt<=1099511627776) (hk:v.k=d.ag) (KQ:∀ m,m < v.ks.length->∃ e,bG d v.n m=some e) (h8:d.ag=8->0<=v.n/\v.n < d.aq.length) :
  EvP prog 263 [.agg (kN d),.agg (dVal v)] (.tup [.agg [.v (.string (ba (opnT d v))),.v (.string (ba (jX v))),Eu d],.sl 1 (nY (tosL d v v.ks.length)) none]):=by
 have GO:=hN.k8;have sS:=hN.many;have o5:=@opn_5 d v;have o6n:=@Hc d v;have o6s:=@He d v;have o7:=@opn_7 d v;have o8n:=fun e=>@Hf d v e;have o8s:=fun e=>@Hg d v e;have e5:=@end_5 v;have e7:=@end_7 v;have en:=@Jg v;have es9:=@SV v;have hn7:d.ag=7->Eu d = .sl 1 (cO (Et d d.aq.length)) none:=fun h=>by rw [Eu,aj h]
 have hnn:d.ag≠7->Eu d = .v (.slice none 0 0):=fun h=>by rw [Eu,ai h]
 have hts:=fun m e=>@KO d v m e;have eN:=Ep d v;have x7:=fun m e=>@OC d m e;have gW:=Jh d;have hed1:∀ m e,bG d v.n m=some e->d.aq[(if d.ag=7 then (m:Int) else if d.ag=8 then v.n else 0).toNat]? = some e:=fun m e h=>by grind [bG]
 have mn:=cj d.aq;generalize opnT d v=O at *;generalize jX v=Z at *;generalize Eu d=ND at *;have ht0:tosL d v 0=[]:=rfl;have oe:Et d 0=[]:=rfl;generalize tosL d v=T at *;generalize QS:Et d=NM at *;have BH:d.ag=7∨d.ag=8->∀ e∈d.aq,e.name.size<=32:=fun h e he=>eA ((sS h).2.2.2 e he);obtain ⟨ag,at',lo,hi,most,af,es⟩:=d;obtain ⟨k,n,s,ks⟩:=v;have dc:=aX ks;have iT:=cw ks;rw [Val.wt] at hv;simp only [Val.k,Val.n,Val.ks] at *;subst hk;refine eG 90 [.cell 4 358,.tmp 5] func263 rfl ntmps263 rfl fun _ _ _ _=>?_;refine aQ (fun j st=>∃ e:Nat,st=Hh ⟨k,at',lo,hi,most,af,es⟩ (.mk k n s ks) (T e) e e/\e<=ks.length/\j=ks.length - e) ks.length (Hh ⟨k,at',lo,hi,most,af,es⟩ (.mk k n s ks) [] 0 0) (de 4 ⟨0,3,1,none⟩ rfl rfl rfl tH rfl rfl jT) ⟨0,by rw [ht0],by omega,by omega⟩ ?_;rintro _ st ⟨e,rfl,he,rfl⟩;refine br ?_ ?_<;>intro hL
 ·have al:e < ks.length:=by simpa [dc,Val.ks] using hL
  obtain ⟨ed,xy⟩:=KQ e al;have uM:=hed1 e ed xy;have di:nY (T e) ++ [[DV.v (.int .i64 ed.to)]]=nY (T (e + 1)):=by rw [hts e ed xy,qB]
  have BI:(nY (T e)).length=e:=by rw [kg,eN]
  have fx:∃ j',j' < ks.length - e/\∃ e':Nat,Hh ⟨k,at',lo,hi,most,af,es⟩ (.mk k n s ks) (T (e + 1)) (e + 1) (e + 1)=Hh ⟨k,at',lo,hi,most,af,es⟩ (.mk k n s ks) (T e') e' e' /\ e' <= ks.length/\j'=ks.length - e':=⟨ks.length - (e + 1),by omega,e + 1,rfl,by omega,rfl⟩;have jx:=(gS uM).1;refine br ?_ ?_<;>intro c
  ·have c:k=7:=sU c;rw [aj c] at uM jx;refine iX (bn uM) ?_;refine ⟨BI,⟨by rw [BI];simp [maxLen];omega,by rw [BI];simp;omega⟩,?_⟩;obtain ⟨j',h1,h2⟩:=fx;exact ⟨Hh ⟨k,at',lo,hi,most,af,es⟩ (.mk k n s ks) (T (e + 1)) (e + 1) (e + 1),(wkB 4 (wA2 (nxt al (by omega)) di) (wB2 (nxt al (by omega)) di)),j',h1,h2⟩
  ·have c7:¬ k=7:=sU c;rw [ai c7] at uM jx;refine br ?_ ?_<;>intro c
   ·have c:k=8:=sU c;have h8:=h8 c;rw [aj c] at uM jx;refine iX (bn uM) ?_;refine ⟨BI,⟨by rw [BI];simp [maxLen];omega,by rw [BI];simp;omega⟩,?_⟩;obtain ⟨j',h1,h2⟩:=fx;exact ⟨Hh ⟨k,at',lo,hi,most,af,es⟩ (.mk k n s ks) (T (e + 1)) (e + 1) (e + 1),(wkB 4 (wA2 (nxt al (by omega)) di) (wB2 (nxt al (by omega)) di)),j',h1,h2⟩
   ·have c8:¬ k=8:=sU c;rw [ai c8] at uM jx;refine ⟨_,⟨by simp at jx;omega,bn uM⟩,?_⟩;refine ⟨BI,⟨by rw [BI];simp [maxLen];omega,by rw [BI];simp;omega⟩,?_⟩;obtain ⟨j',h1,h2⟩:=fx;exact ⟨Hh ⟨k,at',lo,hi,most,af,es⟩ (.mk k n s ks) (T (e + 1)) (e + 1) (e + 1),(wkB 4 (wA2 (nxt al (by omega)) di) (wB2 (nxt al (by omega)) di)),j',h1,h2⟩
 have aM:e=ks.length:=by grind [Val.ks]
 subst aM;refine br ?_ ?_<;>intro c
 ·have c:k=5:=sU c;rw [hnn (by omega),o5 c,e5 c];exact ⟨_,ax,rfl⟩
 have c5:¬ k=5:=sU c;refine br ?_ ?_<;>intro c
 ·have c:k=6:=sU c;rw [hnn (by omega)];refine br ?_ ?_<;>intro g
  ·have g:ks ≠ []:=by rintro rfl;simp [dc] at g
   rw [o6s c g,es9 (by omega) g];exact ⟨_,ax,rfl⟩
  ·have g:ks=[]:=sV dc g;rw [o6n c g,en (by omega) g];exact ⟨_,ax,rfl⟩
 have c6:¬ k=6:=sU c;refine br ?_ ?_<;>intro c
 ·have c:k=7:=sU c;rw [hn7 c,o7 c,e7 c];have iR:=(sS (.inl c)).1;subst QS;refine lJ (fun u=>Z1 ⟨k,at',lo,hi,most,af,es⟩ (.mk k n s ks) (T ks.length) ks.length u) es.length (de 4 ⟨0,9,1,none⟩ rfl rfl rfl tH rfl rfl jT) ?_;intro u hu;refine br ?_ ?_<;>intro hL
  ·have al:u < es.length:=sV mn hL;obtain ⟨x,hx⟩:=gX al;have Cn:=BH (.inl c) x (mG hx);have dF:(cO (Et ⟨k,at',lo,hi,most,af,es⟩ u)).length=u:=by rw [ez,gW u (by omega)]
   have di:cO (Et ⟨k,at',lo,hi,most,af,es⟩ u) ++ [[DV.v (.string (x.name ++ ba [58,32]))]]=cO (Et ⟨k,at',lo,hi,most,af,es⟩ (u + 1)):=by grind [cO,Hi]
   refine iX (bn hx) ?_;refine ⟨by show x.name.size + 2<=_;omega,?_⟩;refine ⟨dF,⟨by rw [dF];simp [maxLen];omega,by rw [dF];simp;omega⟩,?_⟩;exact rE ⟨_,by omega,u + 1,rfl,by omega,rfl⟩ (wkB 4 (wA2 (nxt al (by omega)) di) (wB2 (nxt al (by omega)) di))
  ·have aM:u=es.length:=sW mn hL;subst aM;exact ⟨_,ax,rfl⟩
 have c7:¬ k=7:=sU c;have c8:k=8:=by omega
 refine br (fun _=>?_) (fun g=>absurd c8 (sU g));have h8:=h8 c8;obtain ⟨x,hx⟩:∃ x,es[n.toNat]? = some x:=⟨_,gE (by omega)⟩;have Cn:=BH (.inr c8) x (mG hx);rw [hnn (by omega)];refine iX (bn hx) ?_;refine br ?_ ?_<;>intro g
 ·have g:ks ≠ []:=by rintro rfl;simp [dc] at g
  rw [o8s x c8 hx g,es9 (by omega) g,<- Hi];refine ⟨by show x.name.size + 1<=_;omega,?_⟩;exact ⟨_,ax,rfl⟩
 ·have g:ks=[]:=sV dc g;rw [o8n x c8 hx g,en (by omega) g,mV];exact ⟨_,ax,rfl⟩
section
variable {ND:List Nd}
theorem iC {v:Val} {i:Int} (h:iW ND v i=true):∃ d,cm ND i=some d/\((9<=v.k/\cR v=true/\v.ks=[])∨(v.k=d.ag/\d.ag < 5/\v.ks=[]/\(v.k=4->0<=v.n/\v.n < d.af.length))∨(v.k=d.ag/\5<=d.ag/\shellF d v=true/\fC ND v.ks d v.n 0=true)):=by
 obtain ⟨k,n,s,ks⟩:=v;unfold iW at h
 cases hd:cm ND i with
 | none=>rw [hd] at h;cases h
 | some d=>
  rw [hd] at h;refine ⟨d,rfl,?_⟩;simp only at h;split at h
  ·rename_i c;rw [aO,decide_eq_true_iff] at h;exact .inl ⟨c,h.1,h.2⟩
  ·split at h
   ·cases h
   ·rename_i c;have c:k=d.ag:=Decidable.not_not.1 c;split at h
    ·rename_i c5;rw [aO,Bool.or_eq_true,decide_eq_true_iff,decide_eq_true_iff,decide_eq_true_iff] at h;exact .inr (.inl ⟨c,c5,h.1,fun c4=>h.2.resolve_left (fun g=>g c4)⟩)
    ·rename_i c5;rw [aO] at h;exact .inr (.inr ⟨c,by omega,h.1,h.2⟩)
theorem shell_8 {d:Nd} {v:Val} (h:shellF d v=true) (h8:d.ag=8):0<=v.n/\v.n < d.aq.length:=by grind [shellF]
theorem xz {d:Nd} {z:Int} {j:Nat} {e:Ed} (h:bG d z j=some e):e∈d.aq:=by grind [bG]
theorem QT (n:Nat):kr n ≠ []:=by
 by_cases h:n < 10
 ·rw [lK h];simp
 ·rw [pP h];simp
theorem QU (z:Int):fQ z ≠ []:=by
 unfold fQ;split
 ·simp
 ·exact QT _
theorem Ew {v:Val} (h:cR v=true):dC v ≠ []:=by grind [dC,oC,QU,pa]
theorem zY {v:Val} (hn:od v.n) (h:cR v=true):(dC v).length<=88 + 12 * v.s.size:=by
 rw [dC,aj h];exact KM hn h
theorem uy {L N:Nat} {d:Nd} {v:Val} (hN:dB L N d) (hn:od v.n) (h:(9<=v.k/\cR v=true/\v.ks=[])∨(v.k=d.ag/\d.ag < 5/\v.ks=[]/\(v.k=4->0<=v.n/\v.n < d.af.length))∨(v.k=d.ag/\5<=d.ag/\shellF d v=true/\fC ND v.ks d v.n 0=true)) :
  opnT d v ≠ []/\(opnT d v).length<=88 + 12 * v.s.size:=by
 have oi:=hN.k1;have GO:=hN.k8;rcases h with ⟨h9,hb,_⟩ | ⟨hk,h5,_,h4⟩ | ⟨hk,h5,hs,_⟩
 ·grind [zW,Ew,zY]
 ·by_cases c1:v.k=1
  ·by_cases c:v.n=1
   ·rw [opn_1 c1 c];simp;omega
   ·rw [Hb c1 c];simp;omega
  by_cases c4:v.k=4
  ·obtain ⟨g0,g1⟩:=h4 c4;obtain ⟨x,hx⟩:∃ x,d.af[v.n.toNat]? = some x:=⟨_,gE (by omega)⟩;have bu:=(hN.af (by omega)).2.2.2 x (mG hx);have Kn:=eA bu;have kk:0 < x.size:=by simp [bc] at bu;exact bu.1
   rw [opn_4 c4 hx]
   grind [bf]
  ·grind [zW,cR,Ew,zY]
 ·have:v.k=5∨v.k=6∨v.k=7∨v.k=8:=by omega
  rcases this with c | c | c | c
  ·rw [opn_5 c];simp;omega
  ·by_cases g:v.ks=[]
   ·rw [Hc c g];simp;omega
   ·rw [He c g];simp;omega
  ·rw [opn_7 c];simp;omega
  ·obtain ⟨g0,g1⟩:=shell_8 hs (by omega);obtain ⟨x,hx⟩:∃ x,d.aq[v.n.toNat]? = some x:=⟨_,gE (by omega)⟩;have bu:=(hN.many (.inr (by omega))).2.2.2 x (mG hx);have Kn:=eA bu;have kk:0 < x.name.size:=by simp [bc] at bu;exact bu.1
   have hl:=bf x.name;by_cases g:v.ks=[]
   ·grind [Hf]
   ·grind [Hg]
theorem BJ (v:Val):(jX v).length<=1:=by
 unfold jX
 repeat' split
 all_goals simp
end
section
variable {ND:List Nd} {L:Nat}
mutual
theorem ff (bu:∀ d∈ND,dB L ND.length d):∀ (v:Val) (i:Int),rngW v->iW ND v i=true->(textV ND v i).length + 36<=50 * v.wt
 | .mk k n s ks,i,hr,hw=>by
  obtain ⟨d,hd,hc⟩:=iC hw;have hN:=bu d (mG (bR hd).2);rw [rngW] at hr;have h1:=(uy (v:=.mk k n s ks) hN hr.2.1 hc).2;have h2:=BJ (.mk k n s ks);have hs:(Val.mk k n s ks).s=s:=rfl;rw [hs] at h1;rw [textV,hd,Val.wt];simp only [List.length_append];rcases hc with ⟨_,_,h0⟩ | ⟨_,_,h0,_⟩ | ⟨_,h5,_,h0⟩
  ·have h0:ks=[]:=h0
   grind [textVs,cF]
  ·have h0:ks=[]:=h0
   grind [textVs,cF]
  ·have:=mb bu ks d n 0 hN h5 hr.2.2 h0;omega
theorem mb (bu:∀ d∈ND,dB L ND.length d):∀ (l:List Val) (d:Nd) (z:Int) (j:Nat),dB L ND.length d->5<=d.ag->rngWs l->fC ND l d z j=true->(textVs ND l d z j).length<=50 * cF l
 | [],d,z,j,_,_,_,_=>by rw [textVs];exact Nat.zero_le _
 | x :: r,d,z,j,hN,h5,hr,hw=>by
  rw [fC,aO] at hw;rw [rngWs] at hr;rw [textVs,cF]
  cases he:bG d z j with
  | none=>rw [he] at hw;exact absurd hw.1 (by simp)
  | some e=>
   rw [he] at hw;have h1:=ff bu x e.to hr.1 hw.1;have h2:=mb bu r d z (j + 1) hN h5 hr.2 hw.2
   have h3:(if d.ag=7 then tx e.name ++ [58,32] else []).length<=34:=by
    split
    ·rename_i c;have:=eA ((hN.many (.inl c)).2.2.2 e (xz he));rw [List.length_append,bf];simp;omega
    ·simp
   grind
end
theorem sr:∀ {ks:List Val} {e:Nat} {x:Val},ks[e]? = some x->cF (ks.take e) + x.wt<=cF ks
 | [],e,x,h=>by simp at h
 | y :: r,e,x,h=>by
  cases e with
  | zero=>grind [cF]
  | succ e=>
   have:=sr (ks:=r) (e:=e) (x:=x) (sU h);rw [List.take_succ_cons,cF,cF];omega
theorem BK:∀ (ks:List Val) (e:Nat),cF (ks.take e)<=cF ks
 | [],e=>by rw [List.take_nil];exact aJ _
 | y :: r,0=>by rw [List.take_zero,cF];exact Nat.zero_le _
 | y :: r,e + 1=>by
  have:=BK r e;rw [List.take_succ_cons,cF,cF];omega
theorem xA:∀ {ks:List Val} {d:Nd} {z:Int} {j:Nat} (e:Nat),fC ND ks d z j=true->fC ND (ks.take e) d z j=true
 | [],_,_,_,e,h=>by rw [List.take_nil];exact h
 | y :: r,_,_,_,0,h=>by rw [List.take_zero,fC]
 | y :: r,d,z,j,e + 1,h=>by
  rw [fC,aO] at h;rw [List.take_succ_cons,fC,aO];exact ⟨h.1,xA e h.2⟩
theorem xB:∀ {ks:List Val} (e:Nat),rngWs ks->rngWs (ks.take e)
 | [],e,h=>by rw [List.take_nil];exact h
 | y :: r,0,h=>by rw [List.take_zero,rngWs];trivial
 | y :: r,e + 1,h=>by
  rw [rngWs] at h;rw [List.take_succ_cons,rngWs];exact ⟨h.1,xB e h.2⟩
end
end Go.Proofs.YtgjagnmeonoehaaGreat
