/- Part 6 of the proof: UTF-8: the program's lead, value; UTF-8: the program's Decode; UTF-8: the document's reckoned, Scalar, Encode; UTF-8: the document's Scalar, Encode; UTF-8, plain: the document's well-formed bytes are the program's; a text's first units; UTF-8: the document's begins, left, Decode; Tables of runes; the unit at a place: the program's and the document's; The library's copyCheck of strings.Builder, laid at this program; The library's Builder at this program: what WriteString and String do to memory, exactly; Rules for the evaluator: the library's Builder, written and read; Rules for the evaluator: the library's Builder: WriteByte, WriteString of any text; a call that is handed a Builder; Texts in quotes: plain; numbers in sixteens; Texts in quotes: numbers in sixteens, which runes may steer a terminal; Texts in quotes: short escapes, kinds of runes; Texts in quotes: the unit at a place, as it is written; Texts in quotes: the document's unit; the program's and the document's Quote; Texts in quotes: the program's and the document's Quote; Values that are the same; Which values fit which nodes: plain, as the program finds it and as the document says it; tree's leaf, kids, Fits; tree.Fits; the document's To, Fits; Values as they are written: plain; tree.write, Raw; Paths: data, Step compared with itself; ref09.Begins, Same on the same path; ref25.Step; A lattice, as its readers know it; Leq; joins are the document's; Where steps lead in a plan, and how places are seen, plain; What is seen of values, and where that differs, plain; Which values may be what is seen of one, plain; How what is seen of values is written: plain; The library's strings.Repeat, laid at this program by the kit's tool (lay-plain; wip/tools/plain2tpl.py); How values without names are written: the program's and the document's Leaf; The document's Bottom, Right of paths; the program's Right of paths. No condition. -/
import Derived.Shelf.Strings.OnBuilder
import Derived.Shelf.RegionOpenPlain
import Derived.Lib.Strings
import Derived.Lib.Slices
import Derived.Lib.Walk
import Derived.Lib.Builder
import Derived.Lib.AppendStr
import Derived.Lib.UnsafeStr
import Derived.WalkKit
import Derived.Laws.Externs
import Derived.Lib.Hide
import Derived.Shelf.Strings.Repeat
import Derived.Test.YtgjagnmeonoehaaGreatMs2
import Derived.Test.YtgjagnmeonoehaaGreatMs3
import Derived.Test.YtgjagnmeonoehaaGreatMs4
import Derived.Test.YtgjagnmeonoehaaGreatMs5
set_option linter.all false
set_option maxRecDepth 100000
namespace Go.Proofs.YtgjagnmeonoehaaGreat
open Go Go.RowKit Dv Go.Proofs.Tryz
def aW (c:Nat):Nat:=if c < 128 then 1 else if 194<=c/\c<=223 then 2 else if 224<=c/\c<=239 then 3 else if 240<=c/\c<=244 then 4 else 0
def iD (c:Nat):Nat:=if c=224 then 160 else if c=240 then 144 else 128
def iE (c:Nat):Nat:=if c=237 then 159 else if c=244 then 143 else 191
theorem Ml (c:Nat):EvP prog 337 [.v (.int .u8 c)] (.tup [.v (.int .i64 (aW c:Nat)),.v (.int .u8 (iD c:Nat)),.v (.int .u8 (iE c:Nat))]):=by
 have hN:aW c=if c < 128 then 1 else if 194<=c/\c<=223 then 2 else if 224<=c/\c<=239 then 3 else if 240<=c/\c<=244 then 4 else 0:=rfl
 have hL:iD c=if c=224 then 160 else if c=240 then 144 else 128:=rfl
 have hH:iE c=if c=237 then 159 else if c=244 then 143 else 191:=rfl
 generalize aW c=N at hN ⊢;generalize iD c=L at hL ⊢;generalize iE c=H at hH ⊢;refine eG 41 [.tmp 2,.tmp 3,.tmp 4] func337 rfl ntmps337 rfl fun _ _ _ _=>?_;refine br ?_ ?_<;>intro c1
 ·have c1:(c:Int) < 128:=sU c1;refine br ?_ ?_<;>intro g
  ·have g:(c:Int)=224:=sU g
   have hn:N=1:=by
    rw [hN]
    repeat' split
    all_goals omega
   have hl:L=160:=by
    rw [hL]
    repeat' split
    all_goals omega
   have hh:H=191:=by
    rw [hH]
    repeat' split
    all_goals omega
   rw [hn,hl,hh];exact ⟨_,ax,rfl⟩
  have TA:¬ (c:Int)=224:=sU g;refine br ?_ ?_<;>intro g
  ·have g:(c:Int)=237:=sU g
   have hn:N=1:=by
    rw [hN]
    repeat' split
    all_goals omega
   have hl:L=128:=by
    rw [hL]
    repeat' split
    all_goals omega
   have hh:H=159:=by
    rw [hH]
    repeat' split
    all_goals omega
   rw [hn,hl,hh];exact ⟨_,ax,rfl⟩
  have TB:¬ (c:Int)=237:=sU g;refine br ?_ ?_<;>intro g
  ·have g:(c:Int)=240:=sU g
   have hn:N=1:=by
    rw [hN]
    repeat' split
    all_goals omega
   have hl:L=144:=by
    rw [hL]
    repeat' split
    all_goals omega
   have hh:H=191:=by
    rw [hH]
    repeat' split
    all_goals omega
   rw [hn,hl,hh];exact ⟨_,ax,rfl⟩
  have TC:¬ (c:Int)=240:=sU g;refine br ?_ ?_<;>intro g
  ·have g:(c:Int)=244:=sU g
   have hn:N=1:=by
    rw [hN]
    repeat' split
    all_goals omega
   have hl:L=128:=by
    rw [hL]
    repeat' split
    all_goals omega
   have hh:H=143:=by
    rw [hH]
    repeat' split
    all_goals omega
   rw [hn,hl,hh];exact ⟨_,ax,rfl⟩
  have TD:¬ (c:Int)=244:=sU g
  have hn:N=1:=by
   rw [hN]
   repeat' split
   all_goals omega
  have hl:L=128:=by
   rw [hL]
   repeat' split
   all_goals omega
  have hh:H=191:=by
   rw [hH]
   repeat' split
   all_goals omega
  rw [hn,hl,hh];exact ⟨_,ax,rfl⟩
 have c1:¬ (c:Int) < 128:=sU c1;refine br ?_ ?_<;>intro k
 ·have k:194<=(c:Int)/\(c:Int)<=223:=by simpa [pickB_and] using k
  refine br ?_ ?_<;>intro g
  ·have g:(c:Int)=224:=sU g
   have hn:N=2:=by
    rw [hN]
    repeat' split
    all_goals omega
   have hl:L=160:=by
    rw [hL]
    repeat' split
    all_goals omega
   have hh:H=191:=by
    rw [hH]
    repeat' split
    all_goals omega
   rw [hn,hl,hh];exact ⟨_,ax,rfl⟩
  have TA:¬ (c:Int)=224:=sU g;refine br ?_ ?_<;>intro g
  ·have g:(c:Int)=237:=sU g
   have hn:N=2:=by
    rw [hN]
    repeat' split
    all_goals omega
   have hl:L=128:=by
    rw [hL]
    repeat' split
    all_goals omega
   have hh:H=159:=by
    rw [hH]
    repeat' split
    all_goals omega
   rw [hn,hl,hh];exact ⟨_,ax,rfl⟩
  have TB:¬ (c:Int)=237:=sU g;refine br ?_ ?_<;>intro g
  ·have g:(c:Int)=240:=sU g
   have hn:N=2:=by
    rw [hN]
    repeat' split
    all_goals omega
   have hl:L=144:=by
    rw [hL]
    repeat' split
    all_goals omega
   have hh:H=191:=by
    rw [hH]
    repeat' split
    all_goals omega
   rw [hn,hl,hh];exact ⟨_,ax,rfl⟩
  have TC:¬ (c:Int)=240:=sU g;refine br ?_ ?_<;>intro g
  ·have g:(c:Int)=244:=sU g
   have hn:N=2:=by
    rw [hN]
    repeat' split
    all_goals omega
   have hl:L=128:=by
    rw [hL]
    repeat' split
    all_goals omega
   have hh:H=143:=by
    rw [hH]
    repeat' split
    all_goals omega
   rw [hn,hl,hh];exact ⟨_,ax,rfl⟩
  have TD:¬ (c:Int)=244:=sU g
  have hn:N=2:=by
   rw [hN]
   repeat' split
   all_goals omega
  have hl:L=128:=by
   rw [hL]
   repeat' split
   all_goals omega
  have hh:H=191:=by
   rw [hH]
   repeat' split
   all_goals omega
  rw [hn,hl,hh];exact ⟨_,ax,rfl⟩
 have k194:¬ (194<=(c:Int)/\(c:Int)<=223):=by simpa [pickB_and] using k
 refine br ?_ ?_<;>intro k
 ·have k:224<=(c:Int)/\(c:Int)<=239:=by simpa [pickB_and] using k
  refine br ?_ ?_<;>intro g
  ·have g:(c:Int)=224:=sU g
   have hn:N=3:=by
    rw [hN]
    repeat' split
    all_goals omega
   have hl:L=160:=by
    rw [hL]
    repeat' split
    all_goals omega
   have hh:H=191:=by
    rw [hH]
    repeat' split
    all_goals omega
   rw [hn,hl,hh];exact ⟨_,ax,rfl⟩
  have TA:¬ (c:Int)=224:=sU g;refine br ?_ ?_<;>intro g
  ·have g:(c:Int)=237:=sU g
   have hn:N=3:=by
    rw [hN]
    repeat' split
    all_goals omega
   have hl:L=128:=by
    rw [hL]
    repeat' split
    all_goals omega
   have hh:H=159:=by
    rw [hH]
    repeat' split
    all_goals omega
   rw [hn,hl,hh];exact ⟨_,ax,rfl⟩
  have TB:¬ (c:Int)=237:=sU g;refine br ?_ ?_<;>intro g
  ·have g:(c:Int)=240:=sU g
   have hn:N=3:=by
    rw [hN]
    repeat' split
    all_goals omega
   have hl:L=144:=by
    rw [hL]
    repeat' split
    all_goals omega
   have hh:H=191:=by
    rw [hH]
    repeat' split
    all_goals omega
   rw [hn,hl,hh];exact ⟨_,ax,rfl⟩
  have TC:¬ (c:Int)=240:=sU g;refine br ?_ ?_<;>intro g
  ·have g:(c:Int)=244:=sU g
   have hn:N=3:=by
    rw [hN]
    repeat' split
    all_goals omega
   have hl:L=128:=by
    rw [hL]
    repeat' split
    all_goals omega
   have hh:H=143:=by
    rw [hH]
    repeat' split
    all_goals omega
   rw [hn,hl,hh];exact ⟨_,ax,rfl⟩
  have TD:¬ (c:Int)=244:=sU g
  have hn:N=3:=by
   rw [hN]
   repeat' split
   all_goals omega
  have hl:L=128:=by
   rw [hL]
   repeat' split
   all_goals omega
  have hh:H=191:=by
   rw [hH]
   repeat' split
   all_goals omega
  rw [hn,hl,hh];exact ⟨_,ax,rfl⟩
 have k224:¬ (224<=(c:Int)/\(c:Int)<=239):=by simpa [pickB_and] using k
 refine br ?_ ?_<;>intro k
 ·have k:240<=(c:Int)/\(c:Int)<=244:=by simpa [pickB_and] using k
  refine br ?_ ?_<;>intro g
  ·have g:(c:Int)=224:=sU g
   have hn:N=4:=by
    rw [hN]
    repeat' split
    all_goals omega
   have hl:L=160:=by
    rw [hL]
    repeat' split
    all_goals omega
   have hh:H=191:=by
    rw [hH]
    repeat' split
    all_goals omega
   rw [hn,hl,hh];exact ⟨_,ax,rfl⟩
  have TA:¬ (c:Int)=224:=sU g;refine br ?_ ?_<;>intro g
  ·have g:(c:Int)=237:=sU g
   have hn:N=4:=by
    rw [hN]
    repeat' split
    all_goals omega
   have hl:L=128:=by
    rw [hL]
    repeat' split
    all_goals omega
   have hh:H=159:=by
    rw [hH]
    repeat' split
    all_goals omega
   rw [hn,hl,hh];exact ⟨_,ax,rfl⟩
  have TB:¬ (c:Int)=237:=sU g;refine br ?_ ?_<;>intro g
  ·have g:(c:Int)=240:=sU g
   have hn:N=4:=by
    rw [hN]
    repeat' split
    all_goals omega
   have hl:L=144:=by
    rw [hL]
    repeat' split
    all_goals omega
   have hh:H=191:=by
    rw [hH]
    repeat' split
    all_goals omega
   rw [hn,hl,hh];exact ⟨_,ax,rfl⟩
  have TC:¬ (c:Int)=240:=sU g;refine br ?_ ?_<;>intro g
  ·have g:(c:Int)=244:=sU g
   have hn:N=4:=by
    rw [hN]
    repeat' split
    all_goals omega
   have hl:L=128:=by
    rw [hL]
    repeat' split
    all_goals omega
   have hh:H=143:=by
    rw [hH]
    repeat' split
    all_goals omega
   rw [hn,hl,hh];exact ⟨_,ax,rfl⟩
  have TD:¬ (c:Int)=244:=sU g
  have hn:N=4:=by
   rw [hN]
   repeat' split
   all_goals omega
  have hl:L=128:=by
   rw [hL]
   repeat' split
   all_goals omega
  have hh:H=191:=by
   rw [hH]
   repeat' split
   all_goals omega
  rw [hn,hl,hh];exact ⟨_,ax,rfl⟩
 have k240:¬ (240<=(c:Int)/\(c:Int)<=244):=by simpa [pickB_and] using k
 refine br ?_ ?_<;>intro g
 ·have g:(c:Int)=224:=sU g
  have hn:N=0:=by
   rw [hN]
   repeat' split
   all_goals omega
  have hl:L=160:=by
   rw [hL]
   repeat' split
   all_goals omega
  have hh:H=191:=by
   rw [hH]
   repeat' split
   all_goals omega
  rw [hn,hl,hh];exact ⟨_,ax,rfl⟩
 have TA:¬ (c:Int)=224:=sU g;refine br ?_ ?_<;>intro g
 ·have g:(c:Int)=237:=sU g
  have hn:N=0:=by
   rw [hN]
   repeat' split
   all_goals omega
  have hl:L=128:=by
   rw [hL]
   repeat' split
   all_goals omega
  have hh:H=159:=by
   rw [hH]
   repeat' split
   all_goals omega
  rw [hn,hl,hh];exact ⟨_,ax,rfl⟩
 have TB:¬ (c:Int)=237:=sU g;refine br ?_ ?_<;>intro g
 ·have g:(c:Int)=240:=sU g
  have hn:N=0:=by
   rw [hN]
   repeat' split
   all_goals omega
  have hl:L=144:=by
   rw [hL]
   repeat' split
   all_goals omega
  have hh:H=191:=by
   rw [hH]
   repeat' split
   all_goals omega
  rw [hn,hl,hh];exact ⟨_,ax,rfl⟩
 have TC:¬ (c:Int)=240:=sU g;refine br ?_ ?_<;>intro g
 ·have g:(c:Int)=244:=sU g
  have hn:N=0:=by
   rw [hN]
   repeat' split
   all_goals omega
  have hl:L=128:=by
   rw [hL]
   repeat' split
   all_goals omega
  have hh:H=143:=by
   rw [hH]
   repeat' split
   all_goals omega
  rw [hn,hl,hh];exact ⟨_,ax,rfl⟩
 have TD:¬ (c:Int)=244:=sU g
 have hn:N=0:=by
  rw [hN]
  repeat' split
  all_goals omega
 have hl:L=128:=by
  rw [hL]
  repeat' split
  all_goals omega
 have hh:H=191:=by
  rw [hH]
  repeat' split
  all_goals omega
 rw [hn,hl,hh];exact ⟨_,ax,rfl⟩
def recV:List UInt8->Int
 | [a]=>a.toNat
 | [a,b]=>(a.toNat - 192) * 64 + (b.toNat - 128)
 | [a,b,c]=>(a.toNat - 224) * 4096 + (b.toNat - 128) * 64 + (c.toNat - 128)
 | [a,b,c,d]=>(a.toNat - 240) * 262144 + (b.toNat - 128) * 4096 + (c.toNat - 128) * 64 + (d.toNat - 128)
 | _=>0
def Qp:List UInt8->Bool
 | [a]=>decide (a.toNat < 128)
 | [a,b]=>decide (192<=a.toNat/\a.toNat < 224/\128<=b.toNat/\b.toNat < 192)
 | [a,b,c]=>decide (224<=a.toNat/\a.toNat < 240/\128<=b.toNat/\b.toNat < 192/\128<=c.toNat/\c.toNat < 192)
 | [a,b,c,d]=>decide (240<=a.toNat/\a.toNat < 248/\128<=b.toNat/\b.toNat < 192/\128<=c.toNat/\c.toNat < 192/\128<=d.toNat/\d.toNat < 192)
 | _=>false
theorem Mm {n:Int} (h1 : -2147483648<=n) (h2:n<=2147483647):IntKind.i32.wrap n=n:=by
 simp [IntKind.wrap,IntKind.min,IntKind.max,IntKind.signed,IntKind.bits];omega
theorem TF {x:Nat} (h:x < 4294967296):(BitVec.ofInt 32 (x:Int)).toNat=x:=by
 rw [BitVec.toNat_ofInt];omega
theorem Qq {x m:Nat} (k:Nat) (hk:m=2 ^ k - 1) (hm:m < 256) (h:x < 256):IntKind.i32.wrap ((BitVec.ofInt IntKind.i32.bits (IntKind.i32.wrap (x:Int)) &&& BitVec.ofInt IntKind.i32.bits (m:Int)).toNat:Nat)=((x % 2 ^ k:Nat):Int):=by
 rw [Mm (n:=(x:Int)) (by omega) (by omega)];show IntKind.i32.wrap ((BitVec.ofInt 32 (x:Int) &&& BitVec.ofInt 32 (m:Int)).toNat:Nat)=_;rw [BitVec.toNat_and,TF (by omega),TF (by omega),hk,Nat.and_two_pow_sub_one_eq_mod];have:=Nat.mod_le x (2 ^ k);exact Mm (by omega) (by omega)
theorem AY {x:Nat} (hx:x < 256):IntKind.i32.wrap (IntKind.u8.wrap ((BitVec.ofInt IntKind.u8.bits (x:Int) &&& BitVec.ofInt IntKind.u8.bits 63).toNat:Nat))=((x % 64:Nat):Int):=by
 show IntKind.i32.wrap (IntKind.u8.wrap ((BitVec.ofInt 8 (x:Int) &&& BitVec.ofInt 8 63).toNat:Nat))=_;have e:(BitVec.ofInt 8 (x:Int)).toNat=x:=by rw [BitVec.toNat_ofInt];omega
 rw [BitVec.toNat_and,e,show (BitVec.ofInt 8 63).toNat=2 ^ 6 - 1 from rfl,Nat.and_two_pow_sub_one_eq_mod];rw [IntKind.wrap_u8'];rw [Mm (by omega) (by omega)];omega
theorem Mn {x y:Nat} (h:x < 1000000) (hy:y < 64):IntKind.i32.wrap ((BitVec.ofInt IntKind.i32.bits (IntKind.i32.wrap ((x:Int) * 2 ^ min (Int.toNat 6) IntKind.i32.bits)) ||| BitVec.ofInt IntKind.i32.bits (y:Int)).toNat:Nat)=((x * 64 + y:Nat):Int):=by
 show IntKind.i32.wrap ((BitVec.ofInt 32 (IntKind.i32.wrap ((x:Int) * 64)) ||| BitVec.ofInt 32 (y:Int)).toNat:Nat)=_;rw [Mm (n:=(x:Int) * 64) (by omega) (by omega),show (x:Int) * 64=((x * 64:Nat):Int) by omega,BitVec.toNat_or,TF (by omega),TF (by omega)];have:=Nat.shiftLeft_add_eq_or_of_lt (i:=6) (b:=y) hy x;rw [Nat.shiftLeft_eq] at this;rw [show x * 64=x * 2 ^ 6 from rfl,<- this];exact Mm (by omega) (by omega)
theorem zA {s:ByteArray} {l:List UInt8} (hl:tx s=l) {z:Int} (k:Nat) (hz:z.toNat=k):dE s z.toNat=(l.getD k 0).toNat:=by
 rw [hz,<- hl];all_goals rfl
theorem Ig (s:ByteArray) (h:1<=s.size/\s.size<=4):Ev prog 338 [.v (.string s)] [] [] (fun r _ _=>∃ z:Int,r = .v (.int .i32 z)/\(Qp (tx s)=true->z=recV (tx s))):=by
 have fi:=bB s;refine eG 57 [.tmp 2] func338 rfl ntmps338 rfl fun _ _ _ _=>?_;refine br ?_ ?_<;>intro c1
 ·refine ⟨⟨by omega,by omega⟩,?_⟩;have c1:s.size=1:=by have:=of_decide_eq_true c1;omega
  obtain ⟨a,hl⟩:∃ a,tx s=[a]:=by
   rw [c1] at fi
   match tx s,fi with
   | [a],_=>exact ⟨a,rfl⟩
  refine ⟨_,rfl,fun _=>?_⟩;have ha:=a.toNat_lt;rw [zA hl 0 rfl,hl];exact Mm (by show _<=(a.toNat:Int);omega) (by show (a.toNat:Int)<=_;omega)
 ·refine dI ?_;refine ⟨⟨by omega,by omega⟩,?_⟩;have hw7:IntKind.i64.wrap (7 - (s.size:Int))=7 - s.size:=wrap64 (by omega) (by omega);have hw2:IntKind.i64.wrap (1 + 1)=2:=rfl;have RL:IntKind.i64.wrap (IntKind.i64.wrap (1 + 1) + 1)=3:=rfl
  have c1:¬ s.size=1:=by
   have:=of_decide_eq_false c1;omega
  refine ⟨by rw [hw7];omega,?_⟩;refine br ?_ ?_<;>intro c4
  ·have c4:s.size=4:=by have:=of_decide_eq_true c4;omega
   refine ⟨by omega,?_⟩;refine ⟨⟨by first | omega | (rw [hw2];omega),by first | omega | (rw [hw2];omega)⟩,?_⟩;refine ⟨by omega,?_⟩;refine ⟨⟨by first | omega | (rw [hw2];omega),by first | omega | (rw [hw2];omega)⟩,?_⟩;refine ⟨by omega,?_⟩;refine ⟨⟨by first | omega | (rw [RL];omega),by first | omega | (rw [RL];omega)⟩,?_⟩
   obtain ⟨a,b,c,d,hl⟩:∃ a b c d,tx s=[a,b,c,d]:=by
    rw [c4] at fi
    match tx s,fi with
    | [a,b,c,d],_=>exact ⟨a,b,c,d,rfl⟩
   refine ⟨_,rfl,fun hi=>?_⟩;have ha:=a.toNat_lt;have hb:=b.toNat_lt;have hc:=c.toNat_lt;have hd:=d.toNat_lt;have hm:IntKind.i32.wrap (IntKind.i32.wrap (1 * 2 ^ min (IntKind.i64.wrap (7 - (s.size:Int))).toNat IntKind.i32.bits) - 1)=((7:Nat):Int):=by rw [c4];all_goals rfl
   rw [hm,zA hl 0 rfl,zA hl 1 rfl,zA hl 2 rfl,zA hl 3 rfl];simp only [List.getD_cons_zero,List.getD_cons_succ];rw [Qq 3 rfl (by omega) ha,AY hb,Mn (by omega) (by omega),AY hc,Mn (by omega) (by omega),AY hd,Mn (by omega) (by omega)];rw [hl] at hi ⊢;rw [Qp,decide_eq_true_iff] at hi;simp only [recV];omega
  have c4:¬ s.size=4:=by have:=of_decide_eq_false c4;omega
  refine br ?_ ?_<;>intro c3
  ·have c3:s.size=3:=by have:=of_decide_eq_true c3;omega
   refine ⟨by omega,?_⟩;refine ⟨⟨by first | omega | (rw [hw2];omega),by first | omega | (rw [hw2];omega)⟩,?_⟩;refine ⟨by omega,?_⟩;refine ⟨⟨by first | omega | (rw [hw2];omega),by first | omega | (rw [hw2];omega)⟩,?_⟩
   obtain ⟨a,b,c,hl⟩:∃ a b c,tx s=[a,b,c]:=by
    rw [c3] at fi
    match tx s,fi with
    | [a,b,c],_=>exact ⟨a,b,c,rfl⟩
   refine ⟨_,rfl,fun hi=>?_⟩;have ha:=a.toNat_lt;have hb:=b.toNat_lt;have hc:=c.toNat_lt;have hm:IntKind.i32.wrap (IntKind.i32.wrap (1 * 2 ^ min (IntKind.i64.wrap (7 - (s.size:Int))).toNat IntKind.i32.bits) - 1)=((15:Nat):Int):=by rw [c3];all_goals rfl
   rw [hm,zA hl 0 rfl,zA hl 1 rfl,zA hl 2 rfl];simp only [List.getD_cons_zero,List.getD_cons_succ];rw [Qq 4 rfl (by omega) ha,AY hb,Mn (by omega) (by omega),AY hc,Mn (by omega) (by omega)];rw [hl] at hi ⊢;rw [Qp,decide_eq_true_iff] at hi;simp only [recV];omega
  have c3:¬ s.size=3:=by have:=of_decide_eq_false c3;omega
  refine br ?_ ?_<;>intro c2
  ·have c2:s.size=2:=by have:=of_decide_eq_true c2;omega
   refine ⟨by omega,?_⟩;refine ⟨⟨by first | omega | (rw [hw2];omega),by first | omega | (rw [hw2];omega)⟩,?_⟩
   obtain ⟨a,b,hl⟩:∃ a b,tx s=[a,b]:=by
    rw [c2] at fi
    match tx s,fi with
    | [a,b],_=>exact ⟨a,b,rfl⟩
   refine ⟨_,rfl,fun hi=>?_⟩;have ha:=a.toNat_lt;have hb:=b.toNat_lt;have hm:IntKind.i32.wrap (IntKind.i32.wrap (1 * 2 ^ min (IntKind.i64.wrap (7 - (s.size:Int))).toNat IntKind.i32.bits) - 1)=((31:Nat):Int):=by rw [c2];all_goals rfl
   rw [hm,zA hl 0 rfl,zA hl 1 rfl];simp only [List.getD_cons_zero,List.getD_cons_succ];rw [Qq 5 rfl (by omega) ha,AY hb,Mn (by omega) (by omega)];rw [hl] at hi ⊢;rw [Qp,decide_eq_true_iff] at hi;simp only [recV];omega
  ·exfalso;have:=of_decide_eq_false c2;omega
def jR (c i b:Nat):Bool:=if i=0 then decide (iD c<=b) && decide (b<=iE c) else decide (128<=b) && decide (b<=191)
def allC (c:Nat) (r:List UInt8) (k:Nat):Bool:=(List.range k).all fun i=>match r[i]? with
 | some b=>jR c i b.toNat
 | none=>false
theorem Mo (c:Nat) (r:List UInt8) (k:Nat):allC c r (k + 1)=(allC c r k && match r[k]? with | some b=>jR c k b.toNat | none=>false):=by
 simp only [allC,List.range_succ,List.all_append,List.all_cons,List.all_nil,Bool.and_true]
theorem vv {c:Nat} {r:List UInt8} {k n:Nat} (h:k < n) (hk:(match r[k]? with | some b=>jR c k b.toNat | none=>false)=false):allC c r n=false:=by
 cases ha:allC c r n
 ·rfl
 ·unfold allC at ha;rw [List.all_eq_true] at ha;have:=ha k (List.mem_range.2 h);rw [hk] at this;cases this
def ov:List UInt8->Bool
 | []=>false
 | c :: r=>decide (1<=aW c.toNat) && allC c.toNat r (aW c.toNat - 1)
def lm:List UInt8->Nat
 | []=>0
 | c :: r=>if ov (c :: r)=true then aW c.toNat else 1
theorem Ih {c:UInt8} {r:List UInt8} (h:ov (c :: r)=true):Qp ((c :: r).take (aW c.toNat))=true:=by
 unfold ov at h;rw [aD,decide_eq_true_iff] at h;obtain ⟨h1,h2⟩:=h
 have hb:∀ i,i < aW c.toNat - 1->∃ b:UInt8,r[i]? = some b/\128<=b.toNat/\b.toNat < 192:=fun i hi=>by
  unfold allC at h2;rw [List.all_eq_true] at h2;have h3:=h2 i (List.mem_range.2 hi)
  cases hr:r[i]? with
  | none=>rw [hr] at h3;cases h3
  | some b=>
   rw [hr] at h3;refine ⟨b,rfl,?_⟩;simp only [jR] at h3
   have hL:128<=iD c.toNat:=by
    unfold iD
    repeat' split
    all_goals omega
   have hH:iE c.toNat<=191:=by
    unfold iE
    repeat' split
    all_goals omega
   split at h3<;>(rw [aD,decide_eq_true_iff,decide_eq_true_iff] at h3;omega)
 have hn:(aW c.toNat=1/\c.toNat < 128)∨(aW c.toNat=2/\192<=c.toNat/\c.toNat < 224)∨(aW c.toNat=3/\224<=c.toNat/\c.toNat < 240)∨(aW c.toNat=4/\240<=c.toNat/\c.toNat < 248):=by
  unfold aW at h1 ⊢
  repeat' split at h1
  all_goals (repeat' split)
  all_goals omega
 rcases hn with ⟨hn,hc⟩ | ⟨hn,hc⟩ | ⟨hn,hc⟩ | ⟨hn,hc⟩<;>rw [hn] at hb ⊢
 ·simp [Qp,hc]
 ·obtain ⟨b,h5,h6⟩:=hb 0 (by omega)
  match r,h5 with
  | x :: r,h5=>
   simp only [List.getElem?_cons_zero,oI] at h5;subst h5;simp [Qp];omega
 ·obtain ⟨b,h5,h6⟩:=hb 0 (by omega);obtain ⟨b',h7,h8⟩:=hb 1 (by omega)
  match r,h5,h7 with
  | x :: y :: r,h5,h7=>
   simp only [List.getElem?_cons_zero,List.getElem?_cons_succ,oI] at h5 h7;subst h5 h7;simp [Qp];omega
 ·obtain ⟨b,h5,h6⟩:=hb 0 (by omega);obtain ⟨b',h7,h8⟩:=hb 1 (by omega);obtain ⟨b2,h9,sq⟩:=hb 2 (by omega)
  match r,h5,h7,h9 with
  | x :: y :: v :: r,h5,h7,h9=>
   simp only [List.getElem?_cons_zero,List.getElem?_cons_succ,oI] at h5 h7 h9;subst h5 h7 h9;simp [Qp];omega
set_option maxHeartbeats 4000000 in
theorem AZ (s:ByteArray) (aG:Nat) (hs:s.size<=1099511627776) (c:UInt8) (r:List UInt8) (h:(tx s).drop aG=c :: r) :
  Ev prog 308 [.v (.string s),.v (.int .i64 aG)] [] [] (fun d _ _=>∃ (z:Int) (n:Nat),d = .tup [.v (.int .i32 z),.v (.int .i64 n),.v (.bool (ov (c :: r)))]/\(ov (c :: r)=true->n=aW c.toNat/\z=recV ((c :: r).take n))/\1<=n):=by
 have hlen:aG < s.size:=by
  have:=congrArg List.length h;rw [List.length_drop,bB] at this;simp at this;omega
 have hB:tx (s.extract (aG:Int).toNat (s.size:Int).toNat)=c :: r:=by
  rw [<- h];simp [tx,iW];exact List.take_of_length_le (by rw [List.length_drop];have:=bB s;unfold tx at this;omega)
 have bH:(s.extract (aG:Int).toNat (s.size:Int).toNat).size=r.length + 1:=by rw [<- bB,hB];all_goals rfl
 have Nn:∀ (k:Nat) b,r[k]? = some b->dE (s.extract (aG:Int).toNat (s.size:Int).toNat) (k + 1)=b.toNat:=fun k b hk=>by
  show ((tx _).getD (k + 1) 0).toNat=_;rw [hB];simp [cH,hk]
 have Tb:EvP prog 337 [.v (.int .u8 (dE (s.extract (aG:Int).toNat (s.size:Int).toNat) 0:Nat))] (.tup [.v (.int .i64 (aW c.toNat:Nat)),.v (.int .u8 (iD c.toNat:Nat)),.v (.int .u8 (iE c.toNat:Nat))]):=by
  have:dE (s.extract (aG:Int).toNat (s.size:Int).toNat) 0=c.toNat:=by
   show ((tx _).getD 0 0).toNat=_;rw [hB];rfl
  rw [this];exact Ml c.toNat
 have hv:=fun (k:Nat) (h1:1<=k) (h2:k<=4) (h3:k<=r.length + 1)=>Ig ((s.extract (aG:Int).toNat (s.size:Int).toNat).extract 0 k) (by
  have:((s.extract (aG:Int).toNat (s.size:Int).toNat).extract 0 k).size=k:=by
   rw [ByteArray.size_extract,bH];omega
  omega)
 have hu:ov (c :: r)=(decide (1<=aW c.toNat) && allC c.toNat r (aW c.toNat - 1)):=rfl;have vc:=Ih (c:=c) (r:=r);generalize ov (c :: r)=U at hu vc ⊢
 have hn4:aW c.toNat<=4:=by
  unfold aW
  repeat' split
  all_goals omega
 refine eG 60 [.tmp 4,.tmp 5,.tmp 6] func308 rfl ntmps308 rfl fun _ _ _ _=>?_;refine br (fun c=>absurd c (by simp [ap];omega)) (fun _=>?_);refine ⟨⟨by omega,by omega,by omega⟩,?_⟩;refine ⟨⟨by omega,by rw [bH];omega⟩,?_⟩;refine cP abN Tb ?_;refine br ?_ ?_<;>intro g
 ·have g:aW c.toNat=0:=by have:=of_decide_eq_true g;omega
  have bZ:U=false:=by rw [hu,g];all_goals rfl
  subst bZ;exact ⟨.tup [.v (.int .i32 0),.v (.int .i64 (1:Nat)),.v (.bool false)],ax,0,1,rfl,fun h=>(by cases h),by omega⟩
 have g:1<=aW c.toNat:=by have:=of_decide_eq_false g;omega
 refine aT (fun j st=>∃ i:Nat,st=⟨[(0,⟨[],.v (.string (s.extract (aG:Int).toNat (s.size:Int).toNat))⟩),aaa 7 (aW c.toNat:Nat),(8,⟨[],.v (.int .u8 ((if i=0 then iD c.toNat else 128:Nat):Int))⟩),(9,⟨[],.v (.int .u8 ((if i=0 then iE c.toNat else 191:Nat):Int))⟩),aaa 10 ((i + 1:Nat):Int)],[],[]⟩/\i + 1<=aW c.toNat/\allC c.toNat r i=true/\j=aW c.toNat - (i + 1)) (aW c.toNat - (0 + 1))
  ⟨[(0,⟨[],.v (.string (s.extract (aG:Int).toNat (s.size:Int).toNat))⟩),aaa 7 (aW c.toNat:Nat),(8,⟨[],.v (.int .u8 ((if 0=0 then iD c.toNat else 128:Nat):Int))⟩),(9,⟨[],.v (.int .u8 ((if 0=0 then iE c.toNat else 191:Nat):Int))⟩),aaa 10 ((0 + 1:Nat):Int)],[],[]⟩ (wkM kr) ⟨0,rfl,by omega,rfl,by omega⟩ ?_
 rintro j st ⟨i,rfl,hi,ha,rfl⟩;refine br ?_ ?_<;>intro hL
 ·have aq:i + 1 < aW c.toNat:=by have:=of_decide_eq_true hL;omega
  refine br ?_ ?_<;>intro k
  ·have k:i < r.length:=by
    have:=k;have lP:(s.extract aG s.size).size=r.length + 1:=bH;simp [lP] at this;omega
   obtain ⟨b,hb⟩:∃ b,r[i]? = some b:=⟨_,gE k⟩;have hbb:=Nn i b hb;refine ⟨⟨by omega,by rw [bH];omega⟩,?_⟩
   have JW:jR c.toNat i b.toNat=(decide ((if i=0 then iD c.toNat else 128)<=b.toNat) && decide (b.toNat<=(if i=0 then iE c.toNat else 191))):=by
    unfold jR;split<;>rfl
   have has:=Mo c.toNat r i;rw [ha,hb,Bool.true_and] at has;simp only [JW] at has;have e:dE (s.extract (aG:Int).toNat (s.size:Int).toNat) (((i + 1:Nat):Int)).toNat=b.toNat:=hbb;refine br ?_ ?_<;>intro k2
   ·have k2:(if i=0 then iD c.toNat else 128)<=b.toNat:=by
     have k3:=k2;rw [e] at k3;generalize (if i=0 then iD c.toNat else 128)=lo at k3 ⊢;simp [ap] at k3;omega
    refine ⟨⟨by omega,by rw [bH];omega⟩,?_⟩;refine br ?_ ?_<;>intro k4
    ·have k4:¬ b.toNat<=(if i=0 then iE c.toNat else 191):=by
      have k3:=k4;rw [e] at k3;generalize (if i=0 then iE c.toNat else 191)=hi at k3 ⊢;simp [ap] at k3;omega
     have hf:=vv (c:=c.toNat) (r:=r) (k:=i) (n:=aW c.toNat - 1) (by omega) (by rw [hb];simp only [JW];simp [k4]);rw [hf,Bool.and_false] at hu;subst hu;exact ⟨.tup [.v (.int .i32 0),.v (.int .i64 ((i + 1:Nat):Int)),.v (.bool false)],ax,0,i + 1,rfl,fun h=>(by cases h),by omega⟩
    ·have k4:b.toNat<=(if i=0 then iE c.toNat else 191):=by
      have k3:=k4;rw [e] at k3;generalize (if i=0 then iE c.toNat else 191)=hi at k3 ⊢;simp [ap] at k3;omega
     rw [decide_eq_true k2,decide_eq_true k4] at has;exact rE ⟨_,by omega,i + 1,rfl,by omega,has,rfl⟩ (wkM (wB1 (nxt aq (by omega))))
   ·have k2:¬ (if i=0 then iD c.toNat else 128)<=b.toNat:=by
     have k3:=k2;rw [e] at k3;generalize (if i=0 then iD c.toNat else 128)=lo at k3 ⊢;simp [ap] at k3;omega
    have hf:=vv (c:=c.toNat) (r:=r) (k:=i) (n:=aW c.toNat - 1) (by omega) (by rw [hb];simp only [JW];simp [k2]);rw [hf,Bool.and_false] at hu;subst hu;exact ⟨.tup [.v (.int .i32 0),.v (.int .i64 ((i + 1:Nat):Int)),.v (.bool false)],ax,0,i + 1,rfl,fun h=>(by cases h),by omega⟩
  ·have k:r.length<=i:=by
    have:=k;have lP:(s.extract aG s.size).size=r.length + 1:=bH;simp [lP] at this;omega
   have hf:=vv (c:=c.toNat) (r:=r) (k:=i) (n:=aW c.toNat - 1) (by omega) (by rw [dA k]);rw [hf,Bool.and_false] at hu;subst hu;exact ⟨.tup [.v (.int .i32 0),.v (.int .i64 ((i + 1:Nat):Int)),.v (.bool false)],ax,0,i + 1,rfl,fun h=>(by cases h),by omega⟩
 ·have aS:i + 1=aW c.toNat:=by have:=of_decide_eq_false hL;omega
  have hu1:U=true:=by
   rw [hu,<- aS];simp [ha]
  subst hu1
  have gV:aW c.toNat<=r.length + 1:=by
   rcases Nat.lt_or_ge r.length (aW c.toNat - 1) with h | h
   ·have hf:=vv (c:=c.toNat) (r:=r) (k:=r.length) (n:=aW c.toNat - 1) h (by rw [dA (aO _)]);rw [<- aS,Nat.add_sub_cancel,ha] at hf;cases hf
   ·omega
  have hv:=hv (aW c.toNat) (by omega) hn4 gV;refine ⟨⟨by omega,by omega,by rw [bH];omega⟩,?_⟩;refine bE abO rfl hv ax (fun q hq=>?_);obtain ⟨z,rfl,hz⟩:=hq;rw [show tx ((s.extract (aG:Int).toNat (s.size:Int).toNat).extract 0 (aW c.toNat))=(c :: r).take (aW c.toNat) from by rw [<- hB,(by simp [tx]:∀ (B:ByteArray) k,tx (B.extract 0 k)=(tx B).take k)]] at hz;exact ⟨.tup [.v (.int .i32 z),.v (.int .i64 (aW c.toNat:Nat)),.v (.bool true)],ax,z,aW c.toNat,rfl,fun _=>⟨rfl,hz (vc rfl)⟩,by omega⟩
def recC (l:List UInt8) (e j:Nat):Int:=if j < e then ((l.getD j 0).toNat:Int) - 128 else 0
abbrev Fk (l:List UInt8) (e:Nat):List DV:=[.v (.int .i64 (recC l e 0)),.v (.int .i64 (recC l e 1)),.v (.int .i64 (recC l e 2)),.v (.int .i64 (recC l e 3))]
abbrev adD (s:ByteArray) (e:Nat):St:=⟨[(0,⟨[],.v (.string s)⟩),aab 3 0,aaa 4 e],[Fk (tx s) e],[]⟩
theorem Qr (l:List UInt8) (e:Nat) (h:e < 4) (z:Int) (hz:z=((l.getD e 0).toNat:Int) - 128):(Fk l e).set e (.v (.int .i64 z))=Fk l (e + 1):=by
 subst hz;have c:e=0∨e=1∨e=2∨e=3:=by omega
 rcases c with rfl | rfl | rfl | rfl<;>simp [Fk,recC]
theorem Kz {n m:Nat} {tk:List TkE} {l:List DV} {bs:List UInt8} {e:Nat} (h:l=Fk bs e):WeL n m tk l (Fk bs e):=by
 subst h;exact ⟨_,_,rfl,aw rfl,_,_,rfl,aw rfl,_,_,rfl,aw rfl,_,_,rfl,aw rfl,rfl⟩
theorem rec_1 (a:UInt8):IntKind.i64.wrap (((a.toNat:Int) - 128) + 128)=recV [a]:=by
 have ga:=a.toNat_lt;simp only [recV];rw [wrap64 (by omega) (by omega)];omega
theorem rec_2 (a b:UInt8):IntKind.i64.wrap (IntKind.i64.wrap (IntKind.i64.wrap (((a.toNat:Int) - 128) - 64) * 64) + ((b.toNat:Int) - 128))=recV [a,b]:=by
 have ga:=a.toNat_lt;have gb:=b.toNat_lt;simp only [recV];rw [wrap64 (n:=((a.toNat:Int) - 128) - 64) (by omega) (by omega),wrap64 (n:=_ * 64) (by omega) (by omega),wrap64 (by omega) (by omega)];omega
theorem rec_3 (a b c:UInt8):IntKind.i64.wrap (IntKind.i64.wrap (IntKind.i64.wrap (IntKind.i64.wrap (((a.toNat:Int) - 128) - 96) * 4096) + IntKind.i64.wrap (((b.toNat:Int) - 128) * 64)) + ((c.toNat:Int) - 128))=recV [a,b,c]:=by
 have ga:=a.toNat_lt;have gb:=b.toNat_lt;have gc:=c.toNat_lt;simp only [recV];rw [wrap64 (n:=((a.toNat:Int) - 128) - 96) (by omega) (by omega),wrap64 (n:=_ * 4096) (by omega) (by omega),wrap64 (n:=_ * 64) (by omega) (by omega),wrap64 (n:=_ + ((b.toNat:Int) - 128) * 64) (by omega) (by omega),wrap64 (by omega) (by omega)];omega
theorem rec_4 (a b c d:UInt8):IntKind.i64.wrap (IntKind.i64.wrap (IntKind.i64.wrap (IntKind.i64.wrap (IntKind.i64.wrap (((a.toNat:Int) - 128) - 112) * 262144) + IntKind.i64.wrap (((b.toNat:Int) - 128) * 4096)) + IntKind.i64.wrap (((c.toNat:Int) - 128) * 64)) + ((d.toNat:Int) - 128))=recV [a,b,c,d]:=by
 have ga:=a.toNat_lt;have gb:=b.toNat_lt;have gc:=c.toNat_lt;have gd:=d.toNat_lt;simp only [recV];rw [wrap64 (n:=((a.toNat:Int) - 128) - 112) (by omega) (by omega),wrap64 (n:=_ * 262144) (by omega) (by omega),wrap64 (n:=_ * 4096) (by omega) (by omega),wrap64 (n:=_ + ((b.toNat:Int) - 128) * 4096) (by omega) (by omega),wrap64 (n:=_ * 64) (by omega) (by omega),wrap64 (n:=_ + ((c.toNat:Int) - 128) * 64) (by omega) (by omega),wrap64 (by omega) (by omega)];omega
theorem qk (s:ByteArray) (h:1<=s.size/\s.size<=4):EvP prog 330 [.v (.string s)] (.v (.int .i64 (recV (tx s)))):=by
 have fi:=bB s;refine eG 63 [.tmp 2] func330 rfl ntmps330 rfl fun _ _ _ _=>?_;refine lJ (fun e=>adD s e) s.size (QT 1 qT kr) ?_;intro e he;refine br ?_ ?_<;>intro hL
 ·have aq:e < s.size:=by have:=of_decide_eq_true hL;omega
  refine ⟨⟨by omega,by omega⟩,?_⟩;refine ⟨⟨by omega,by omega⟩,?_⟩;have hb:dE s e=((tx s).getD e 0).toNat:=rfl
  have hz:IntKind.i64.wrap (IntKind.i64.wrap (dE s ((e:Int).toNat):Nat) - 128)=(((tx s).getD e 0).toNat:Int) - 128:=by
   have h1:=((tx s).getD e 0).toNat_lt;have h2:dE s ((e:Int).toNat)=((tx s).getD e 0).toNat:=rfl;rw [h2,wrap64 (n:=(((tx s).getD e 0).toNat:Int)) (by omega) (by omega)];exact wrap64 (by omega) (by omega)
  have cQ:(Fk (tx s) e).set (0 + (e:Int).toNat * 1) (.v (.int .i64 (IntKind.i64.wrap (IntKind.i64.wrap (dE s ((e:Int).toNat):Nat) - 128))))=Fk (tx s) (e + 1):=by
   rw [show 0 + (e:Int).toNat * 1=e by omega];exact Qr _ _ (by omega) _ hz
  refine ⟨by simp;omega,?_⟩;exact rE ⟨_,by omega,e + 1,rfl,by omega,rfl⟩ (QT 1 (by repeat' (first | exact rfl | exact aw rfl | exact Kz cQ | exact ay (nxt aq (by omega)) | refine ⟨_,_,rfl,?_,?_⟩)) (by repeat' (first | exact trivial | exact aw rfl | exact Kz cQ | exact ay (nxt aq (by omega)) | refine ⟨⟨_,rfl,?_⟩,?_⟩)))
 ·have aS:e=s.size:=by have:=of_decide_eq_false hL;omega
  subst aS;refine br ?_ ?_<;>intro cn
  ·have cn:s.size=1:=by have:=of_decide_eq_true cn;omega
   obtain ⟨a,hl⟩:∃ a,tx s=[a]:=by
    rw [cn] at fi
    match tx s,fi with
    | [a],_=>exact ⟨a,rfl⟩
   have ha:recC (tx s) s.size 0=(a.toNat:Int) - 128:=by rw [hl,cn];all_goals rfl
   have ga:=a.toNat_lt;refine ⟨⟨by omega,by omega⟩,?_⟩;refine (aan ?_:);rw [ha,hl];exact rec_1 a
  have c1:¬ s.size=1:=by have:=of_decide_eq_false cn;omega
  refine br ?_ ?_<;>intro cn
  ·have cn:s.size=2:=by have:=of_decide_eq_true cn;omega
   obtain ⟨a,b,hl⟩:∃ a b,tx s=[a,b]:=by
    rw [cn] at fi
    match tx s,fi with
    | [a,b],_=>exact ⟨a,b,rfl⟩
   have ha:recC (tx s) s.size 0=(a.toNat:Int) - 128:=by rw [hl,cn];all_goals rfl
   have ga:=a.toNat_lt;have hb:recC (tx s) s.size 1=(b.toNat:Int) - 128:=by rw [hl,cn];all_goals rfl
   have gb:=b.toNat_lt;refine ⟨⟨by omega,by omega⟩,?_⟩;refine ⟨⟨by omega,by omega⟩,?_⟩;refine (aan ?_:);rw [ha,hb,hl];exact rec_2 a b
  have c2:¬ s.size=2:=by have:=of_decide_eq_false cn;omega
  refine br ?_ ?_<;>intro cn
  ·have cn:s.size=3:=by have:=of_decide_eq_true cn;omega
   obtain ⟨a,b,c,hl⟩:∃ a b c,tx s=[a,b,c]:=by
    rw [cn] at fi
    match tx s,fi with
    | [a,b,c],_=>exact ⟨a,b,c,rfl⟩
   have ha:recC (tx s) s.size 0=(a.toNat:Int) - 128:=by rw [hl,cn];all_goals rfl
   have ga:=a.toNat_lt;have hb:recC (tx s) s.size 1=(b.toNat:Int) - 128:=by rw [hl,cn];all_goals rfl
   have gb:=b.toNat_lt;have hc:recC (tx s) s.size 2=(c.toNat:Int) - 128:=by rw [hl,cn];all_goals rfl
   have gc:=c.toNat_lt;refine ⟨⟨by omega,by omega⟩,?_⟩;refine ⟨⟨by omega,by omega⟩,?_⟩;refine ⟨⟨by omega,by omega⟩,?_⟩;refine (aan ?_:);rw [ha,hb,hc,hl];exact rec_3 a b c
  have c3:¬ s.size=3:=by have:=of_decide_eq_false cn;omega
  have cn:s.size=4:=by omega
  obtain ⟨a,b,c,d,hl⟩:∃ a b c d,tx s=[a,b,c,d]:=by
   rw [cn] at fi
   match tx s,fi with
   | [a,b,c,d],_=>exact ⟨a,b,c,d,rfl⟩
  have ha:recC (tx s) s.size 0=(a.toNat:Int) - 128:=by rw [hl,cn];all_goals rfl
  have ga:=a.toNat_lt;have hb:recC (tx s) s.size 1=(b.toNat:Int) - 128:=by rw [hl,cn];all_goals rfl
  have gb:=b.toNat_lt;have hc:recC (tx s) s.size 2=(c.toNat:Int) - 128:=by rw [hl,cn];all_goals rfl
  have gc:=c.toNat_lt;have hd:recC (tx s) s.size 3=(d.toNat:Int) - 128:=by rw [hl,cn];all_goals rfl
  have gd:=d.toNat_lt;refine ⟨⟨by omega,by omega⟩,?_⟩;refine ⟨⟨by omega,by omega⟩,?_⟩;refine ⟨⟨by omega,by omega⟩,?_⟩;refine ⟨⟨by omega,by omega⟩,?_⟩;refine (aan ?_:);rw [ha,hb,hc,hd,hl];exact rec_4 a b c d
def ln (z:Int):Bool:=decide (0<=z) && decide (z<=1114111) && (decide (z < 55296) || decide (57343 < z))
theorem uq (z:Int):EvP prog 331 [.v (.int .i32 z)] (.v (.bool (ln z))):=by
 refine eG 17 [.tmp 2] func331 rfl ntmps331 rfl fun _ _ _ _=>?_;refine (aae ?_:);simp only [pickB_and,ap,ln]
def Fl (n:Nat):List UInt8:=
 if n < 128 then [UInt8.ofNat n] else if n < 2048 then [UInt8.ofNat (192 + n / 64),UInt8.ofNat (128 + n % 64)]
 else if n < 65536 then [UInt8.ofNat (224 + n / 4096),UInt8.ofNat (128 + n / 64 % 64),UInt8.ofNat (128 + n % 64)]
 else [UInt8.ofNat (240 + n / 262144),UInt8.ofNat (128 + n / 4096 % 64),UInt8.ofNat (128 + n / 64 % 64),UInt8.ofNat (128 + n % 64)]
def Fm (z:Int):List UInt8:=if ln z=true then Fl z.toNat else []
theorem b8 {x:Int} {k:Nat} (hx:x=k) (hk:k < 256):IntKind.u8.wrap x=((UInt8.ofNat k).toNat:Int):=by
 rw [hx,UInt8.toNat_ofNat',IntKind.wrap_u8'];omega
theorem Yc {n k:Nat} (hn:n<=1114111):IntKind.i64.wrap ((n:Int).tdiv (k:Int))=((n / k:Nat):Int):=by
 rw [Int.tdiv_eq_ediv_of_nonneg (by omega),<- Int.natCast_ediv];have:=Nat.div_le_self n k;generalize n / k=q at this ⊢;exact wrap64 (by omega) (by omega)
theorem Qs {n:Nat} (hn:n<=1114111):IntKind.i64.wrap ((n:Int).tdiv 64)=((n / 64:Nat):Int):=Yc hn
theorem KA {n:Nat} (hn:n<=1114111):IntKind.i64.wrap ((n:Int).tdiv 4096)=((n / 4096:Nat):Int):=Yc hn
theorem Mp {n:Nat} (hn:n<=1114111):IntKind.i64.wrap ((n:Int).tdiv 262144)=((n / 262144:Nat):Int):=Yc hn
theorem Mq (n:Nat):(n:Int).tmod 64=((n % 64:Nat):Int):=by
 rw [Int.tmod_eq_emod_of_nonneg (by omega)];omega
theorem ye (z:Int):EvP prog 332 [.v (.int .i32 z)] (.v (.string (ba (Fm z)))):=by
 have hs:=uq z;have hE:Fm z=if ln z=true then Fl z.toNat else []:=rfl
 have hB:ln z=(decide (0<=z) && decide (z<=1114111) && (decide (z < 55296) || decide (57343 < z))):=rfl;generalize Fm z=E at hE ⊢;generalize ln z=B at hs hE hB;refine eG 64 [.tmp 2] func332 rfl ntmps332 rfl fun _ _ _ _=>?_;refine cP Vc hs ?_
 cases B with
 | false=>
  rw [ah (by simp)] at hE;subst hE;exact (rfl:_=_)
 | true=>
  rw [ai rfl] at hE;have hB:=hB.symm;simp at hB;obtain ⟨n,rfl⟩:∃ n:Nat,z=n:=⟨z.toNat,by omega⟩;rw [iW] at hE;have hn:n<=1114111:=by omega
  have jO:IntKind.i64.wrap (n:Int)=n:=wrap64 (by omega) (by omega);unfold Fl at hE;refine br ?_ ?_<;>intro c
  ·have c:n < 128:=by have:=of_decide_eq_true c;omega
   rw [ai c] at hE;refine ⟨[UInt8.ofNat (n)],?_,?_⟩
   ·simp only [List.flatten_cons,List.flatten_nil,List.append_nil,List.cons_append,List.nil_append,u8L,List.cons.injEq,and_true,DV.v.injEq,Value.int.injEq,true_and]
    ·exact b8 jO (by omega)
   ·rw [hE];exact (rfl:_=_)
  have c1:¬ n < 128:=by have:=of_decide_eq_false c;omega
  rw [ah c1] at hE;refine br ?_ ?_<;>intro c
  ·have c:n < 2048:=by have:=of_decide_eq_true c;omega
   rw [ai c] at hE;refine ⟨⟨rfl,by decide⟩,?_⟩;refine ⟨⟨rfl,by decide⟩,?_⟩;refine ⟨[UInt8.ofNat (192 + n / 64),UInt8.ofNat (128 + n % 64)],?_,?_⟩
   ·simp only [List.flatten_cons,List.flatten_nil,List.append_nil,List.cons_append,List.nil_append,u8L,List.cons.injEq,and_true,DV.v.injEq,Value.int.injEq,true_and];refine ⟨?_,?_⟩
    ·exact b8 (by rw [jO,Qs hn];exact wrap64 (by omega) (by omega)) (by omega)
    ·exact b8 (by rw [jO,Mq];exact wrap64 (by omega) (by omega)) (by omega)
   ·rw [hE];exact (rfl:_=_)
  have c2:¬ n < 2048:=by have:=of_decide_eq_false c;omega
  rw [ah c2] at hE;refine br ?_ ?_<;>intro c
  ·have c:n < 65536:=by have:=of_decide_eq_true c;omega
   rw [ai c] at hE;refine ⟨⟨rfl,by decide⟩,?_⟩;refine ⟨⟨rfl,by decide⟩,?_⟩;refine ⟨⟨rfl,by decide⟩,?_⟩;refine ⟨⟨rfl,by decide⟩,?_⟩;refine ⟨[UInt8.ofNat (224 + n / 4096),UInt8.ofNat (128 + n / 64 % 64),UInt8.ofNat (128 + n % 64)],?_,?_⟩
   ·simp only [List.flatten_cons,List.flatten_nil,List.append_nil,List.cons_append,List.nil_append,u8L,List.cons.injEq,and_true,DV.v.injEq,Value.int.injEq,true_and];refine ⟨?_,?_,?_⟩
    ·exact b8 (by rw [jO,KA hn];exact wrap64 (by omega) (by omega)) (by omega)
    ·exact b8 (by rw [jO,Qs hn,Mq];exact wrap64 (by omega) (by omega)) (by omega)
    ·exact b8 (by rw [jO,Mq];exact wrap64 (by omega) (by omega)) (by omega)
   ·rw [hE];exact (rfl:_=_)
  have c3:¬ n < 65536:=by have:=of_decide_eq_false c;omega
  rw [ah c3] at hE;refine ⟨⟨rfl,by decide⟩,?_⟩;refine ⟨⟨rfl,by decide⟩,?_⟩;refine ⟨⟨rfl,by decide⟩,?_⟩;refine ⟨⟨rfl,by decide⟩,?_⟩;refine ⟨⟨rfl,by decide⟩,?_⟩;refine ⟨⟨rfl,by decide⟩,?_⟩;refine ⟨[UInt8.ofNat (240 + n / 262144),UInt8.ofNat (128 + n / 4096 % 64),UInt8.ofNat (128 + n / 64 % 64),UInt8.ofNat (128 + n % 64)],?_,?_⟩
  ·simp only [List.flatten_cons,List.flatten_nil,List.append_nil,List.cons_append,List.nil_append,u8L,List.cons.injEq,and_true,DV.v.injEq,Value.int.injEq,true_and];refine ⟨?_,?_,?_,?_⟩
   ·exact b8 (by rw [jO,Mp hn];exact wrap64 (by omega) (by omega)) (by omega)
   ·exact b8 (by rw [jO,KA hn,Mq];exact wrap64 (by omega) (by omega)) (by omega)
   ·exact b8 (by rw [jO,Qs hn,Mq];exact wrap64 (by omega) (by omega)) (by omega)
   ·exact b8 (by rw [jO,Mq];exact wrap64 (by omega) (by omega)) (by omega)
  ·rw [hE];exact (rfl:_=_)
theorem rK (c:UInt8) (r:List UInt8):ov (c :: r)=(decide (1<=aW c.toNat) && allC c.toNat r (aW c.toNat - 1)):=rfl
def V3 (l:List UInt8):Bool:=ln (recV l) && decide (Fm (recV l)=l)
theorem iV {k:Nat} {a:UInt8} (hk:k < 256):UInt8.ofNat k=a↔k=a.toNat:=by
 constructor
 ·rintro rfl;rw [UInt8.toNat_ofNat'];omega
 ·rintro rfl;exact UInt8.ofNat_toNat
theorem vw (l:List UInt8) {v:Int} (hv:recV l=v):V3 l=true↔(0<=v/\v<=1114111/\(v < 55296∨57343 < v))/\Fl v.toNat=l:=by
 subst hv;unfold V3 Fm;constructor
 ·intro h;rw [aD] at h;have h1:=h.1;have h2:=of_decide_eq_true h.2;rw [ai h1] at h2;simp [ln] at h1;exact ⟨by omega,h2⟩
 ·intro ⟨h1,h2⟩;have h3:ln (recV l)=true:=by simp [ln];omega
  rw [h3,ai rfl];simp [h2]
theorem mb (c:Nat):(c=224/\iD c=160)∨(c=240/\iD c=144)∨(c≠224/\c≠240/\iD c=128):=by
 unfold iD
 repeat' split
 all_goals omega
theorem mc (c:Nat):(c=237/\iE c=159)∨(c=244/\iE c=143)∨(c≠237/\c≠244/\iE c=191):=by
 unfold iE
 repeat' split
 all_goals omega
theorem contB_0 (c b:Nat):jR c 0 b=true↔iD c<=b/\b<=iE c:=by
 unfold jR;rw [ai rfl,aD,decide_eq_true_iff,decide_eq_true_iff]
theorem o8 (c k b:Nat):jR c (k + 1) b=true↔128<=b/\b<=191:=by
 unfold jR;rw [ah (Nat.succ_ne_zero k),aD,decide_eq_true_iff,decide_eq_true_iff]
theorem allC_1 (c:Nat) (b:UInt8) (r:List UInt8):allC c (b :: r) 1=jR c 0 b.toNat:=by simp [allC,List.range_succ]
theorem allC_2 (c:Nat) (b d:UInt8) (r:List UInt8):allC c (b :: d :: r) 2=(jR c 0 b.toNat && jR c 1 d.toNat):=by simp [allC,List.range_succ]
theorem allC_3 (c:Nat) (b d e:UInt8) (r:List UInt8):allC c (b :: d :: e :: r) 3=(jR c 0 b.toNat && jR c 1 d.toNat && jR c 2 e.toNat):=by simp [allC,List.range_succ,Bool.and_assoc]
theorem lead_1 (a:Nat):aW a=1↔a < 128:=by
 unfold aW;repeat' split
 all_goals omega
theorem lead_2 (a:Nat):aW a=2↔194<=a/\a<=223:=by
 unfold aW;repeat' split
 all_goals omega
theorem lead_3 (a:Nat):aW a=3↔224<=a/\a<=239:=by
 unfold aW;repeat' split
 all_goals omega
theorem lead_4 (a:Nat):aW a=4↔240<=a/\a<=244:=by
 unfold aW;repeat' split
 all_goals omega
theorem wf_1 (a:UInt8) (r:List UInt8):V3 [a]=true↔ov (a :: r)=true/\aW a.toNat=1:=by
 have ha:=a.toNat_lt;rw [vw _ (v:=(a.toNat:Int)) rfl];rw [iW];unfold Fl;rw [rK];constructor
 ·intro ⟨h1,h2⟩
  have:a.toNat < 128:=by
   by_cases c:a.toNat < 128
   ·exact c
   ·rw [ah c] at h2
    repeat' split at h2
    all_goals (simp at h2)
  have:=(lead_1 _).2 this;rw [this];exact ⟨rfl,rfl⟩
 ·intro ⟨_,h2⟩;have h2:=(lead_1 _).1 h2;rw [ai h2];exact ⟨by omega,by rw [UInt8.ofNat_toNat]⟩
theorem wf_2 (a b:UInt8) (r:List UInt8):V3 [a,b]=true↔ov (a :: b :: r)=true/\aW a.toNat=2:=by
 have ha:=a.toNat_lt;have hb:=b.toNat_lt;rw [vw _ (v:=((a.toNat:Int) - 192) * 64 + ((b.toNat:Int) - 128)) rfl];unfold Fl;rw [rK];constructor
 ·intro ⟨h1,h2⟩;generalize hn:((((a.toNat:Int) - 192) * 64 + ((b.toNat:Int) - 128))).toNat=n at h2
  repeat' split at h2
  any_goals (simp at h2;done)
  simp only [List.cons.injEq,and_true] at h2;rw [iV (by omega),iV (by omega)] at h2;have:=(lead_2 a.toNat).2 (by omega);rw [this];refine ⟨?_,rfl⟩;show (true && allC _ _ 1)=true;rw [Bool.true_and,allC_1,contB_0];have hL:=mb a.toNat;have hH:=mc a.toNat;omega
 ·intro ⟨h1,h2⟩;rw [h2] at h1;have h1:(true && allC _ _ 1)=true:=h1;rw [Bool.true_and,allC_1,contB_0] at h1;have hL:=mb a.toNat;have hH:=mc a.toNat;have h2:=(lead_2 _).1 h2;rw [ah (by omega),ai (by omega)];simp only [List.cons.injEq,and_true];rw [iV (by omega),iV (by omega)];omega
theorem wf_3 (a b c:UInt8) (r:List UInt8):V3 [a,b,c]=true↔ov (a :: b :: c :: r)=true/\aW a.toNat=3:=by
 have ha:=a.toNat_lt;have hb:=b.toNat_lt;have hc:=c.toNat_lt;rw [vw _ (v:=((a.toNat:Int) - 224) * 4096 + ((b.toNat:Int) - 128) * 64 + ((c.toNat:Int) - 128)) rfl];unfold Fl;rw [rK];constructor
 ·intro ⟨h1,h2⟩;generalize hn:((((a.toNat:Int) - 224) * 4096 + ((b.toNat:Int) - 128) * 64 + ((c.toNat:Int) - 128))).toNat=n at h2
  repeat' split at h2
  any_goals (simp at h2;done)
  simp only [List.cons.injEq,and_true] at h2;rw [iV (by omega),iV (by omega),iV (by omega)] at h2;have:=(lead_3 a.toNat).2 (by omega);rw [this];refine ⟨?_,rfl⟩;show (true && allC _ _ 2)=true;rw [Bool.true_and,allC_2,aD,contB_0,o8 _ 0];have hL:=mb a.toNat;have hH:=mc a.toNat;omega
 ·intro ⟨h1,h2⟩;rw [h2] at h1;have h1:(true && allC _ _ 2)=true:=h1;rw [Bool.true_and,allC_2,aD,contB_0,o8 _ 0] at h1;have hL:=mb a.toNat;have hH:=mc a.toNat;have h2:=(lead_3 _).1 h2;rw [ah (by omega),ah (by omega),ai (by omega)];simp only [List.cons.injEq,and_true];rw [iV (by omega),iV (by omega),iV (by omega)];omega
theorem wf_4 (a b c d:UInt8) (r:List UInt8):V3 [a,b,c,d]=true↔ov (a :: b :: c :: d :: r)=true/\aW a.toNat=4:=by
 have ha:=a.toNat_lt;have hb:=b.toNat_lt;have hc:=c.toNat_lt;have hd:=d.toNat_lt;rw [vw _ (v:=((a.toNat:Int) - 240) * 262144 + ((b.toNat:Int) - 128) * 4096 + ((c.toNat:Int) - 128) * 64 + ((d.toNat:Int) - 128)) rfl];unfold Fl;rw [rK];constructor
 ·intro ⟨h1,h2⟩;generalize hn:((((a.toNat:Int) - 240) * 262144 + ((b.toNat:Int) - 128) * 4096 + ((c.toNat:Int) - 128) * 64 + ((d.toNat:Int) - 128))).toNat=n at h2
  repeat' split at h2
  any_goals (simp at h2;done)
  simp only [List.cons.injEq,and_true] at h2;rw [iV (by omega),iV (by omega),iV (by omega),iV (by omega)] at h2;have:=(lead_4 a.toNat).2 (by omega);rw [this];refine ⟨?_,rfl⟩;show (true && allC _ _ 3)=true;rw [Bool.true_and,allC_3,aD,aD,contB_0,o8 _ 0,o8 _ 1];have hL:=mb a.toNat;have hH:=mc a.toNat;omega
 ·intro ⟨h1,h2⟩;rw [h2] at h1;have h1:(true && allC _ _ 3)=true:=h1;rw [Bool.true_and,allC_3,aD,aD,contB_0,o8 _ 0,o8 _ 1] at h1;have hL:=mb a.toNat;have hH:=mc a.toNat;have h2:=(lead_4 _).1 h2;rw [ah (by omega),ah (by omega),ah (by omega)];simp only [List.cons.injEq,and_true];rw [iV (by omega),iV (by omega),iV (by omega),iV (by omega)];omega
theorem KB (a:Nat):aW a<=4:=by
 unfold aW;repeat' split
 all_goals omega
theorem vx {l:List UInt8} (h:ov l=true):∃ c r,l=c :: r/\1<=aW c.toNat/\aW c.toNat<=l.length/\lm l=aW c.toNat:=by
 cases l with
 | nil=>cases h
 | cons c r=>
  refine ⟨c,r,rfl,?_,?_,?_⟩
  ·unfold ov at h;rw [aD] at h;exact of_decide_eq_true h.1
  ·have h0:=h;unfold ov at h;rw [aD] at h;rcases Nat.lt_or_ge r.length (aW c.toNat - 1) with g | g
   ·have h2:=h.2;unfold allC at h2;rw [List.all_eq_true] at h2;have:=h2 r.length (List.mem_range.2 g);rw [dA (aO _)] at this;cases this
   ·rw [List.length_cons];omega
  ·show (if _ then _ else _)=_;rw [ai h]
theorem wf_n (c:UInt8) (r:List UInt8) (n:Nat) (h1:1<=n) (h4:n<=4) (hl:n<=r.length + 1):V3 ((c :: r).take n)=(ov (c :: r) && decide (aW c.toNat=n)):=by
 apply Bool.eq_iff_iff.2;rw [aD,decide_eq_true_iff]
 match n,h1,h4,hl with
 | 1,_,_,_=>exact wf_1 c r
 | 2,_,_,h=>match r,h with
  | b :: r,_=>exact wf_2 c b r
 | 3,_,_,h=>match r,h with
  | b :: d :: r,_=>exact wf_3 c b d r
 | 4,_,_,h=>match r,h with
  | b :: d :: e :: r,_=>exact wf_4 c b d e r
theorem rL {l:List UInt8} (h:l ≠ []):1<=lm l/\lm l<=l.length:=by
 cases l with
 | nil=>exact absurd rfl h
 | cons c r=>
  show 1<=(if _ then _ else _)/\(if _ then _ else _)<=_;split
  ·rename_i g;obtain ⟨c',r',e,h1,h2,h3⟩:=vx g;cases e;exact ⟨h1,h2⟩
  ·exact ⟨aO _,by rw [List.length_cons];omega⟩
def headL:Nat->List UInt8->List UInt8
 | 0,_=>[]
 | u + 1,l=>l.take (lm l) ++ headL u (l.drop (lm l))
theorem A0 (u:Nat):headL u []=[]:=by
 induction u with
 | zero=>rfl
 | succ u ih=>show [].take _ ++ headL u ([].drop _)=[];rw [List.take_nil,List.drop_nil,ih];all_goals rfl
theorem Mr (u:Nat) (l:List UInt8):headL u l <+: l:=by
 induction u generalizing l with
 | zero=>exact List.nil_prefix
 | succ u ih=>
  obtain ⟨t,ht⟩:=ih (l.drop (lm l));refine ⟨t,?_⟩;show (_ ++ _) ++ t=l;rw [List.append_assoc,ht,List.take_append_drop]
theorem pI (n:Int) (p:ByteArray):Ev prog 355 [.v (.int .i64 n),.v (.string p)] [] [] (fun d _ _=>∃ b:Bool,d = .v (.bool b)):=by
 have hc:=ye (IntKind.i32.wrap n);refine eG 22 [.tmp 4] func355 rfl ntmps355 rfl fun _ _ _ _=>?_;refine cP Vd hc ?_;refine br ?_ ?_<;>intro c
 ·refine ⟨⟨by omega,by omega,by simp at c;omega⟩,?_⟩;exact ⟨_,rfl⟩
 ·exact ⟨_,rfl⟩
abbrev lf01St (p a z:ByteArray) (e:Nat):St:=⟨[(0,⟨[],.v (.string p)⟩),(3,⟨[],.v (.string a)⟩),(4,⟨[],.v (.string z)⟩),aaa 5 e],[],[]⟩
theorem size_app (a b:ByteArray):(a ++ b).size=a.size + b.size:=by rw [<- bB,wT,List.length_append,bB,bB]
theorem Fo (p:ByteArray) (hp:1<=p.size/\p.size<=3):Ev prog 333 [.v (.string p)] [] [] (fun d _ _=>∃ b:Bool,d = .v (.bool b)):=by
 refine eG 40 [.tmp 2] func333 rfl ntmps333 rfl fun _ _ _ _=>?_;refine lI (fun j st=>∃ (e:Nat) (a z:ByteArray),st=lf01St p a z e/\e<=4/\p.size<=a.size/\a.size<=4/\z.size=a.size/\j=4 - e) ⟨0,p,p,rfl,by omega,by omega,by omega,rfl,rfl⟩ (wkM kr) ?_;rintro j st ⟨e,a,z,rfl,he,ha,ha4,hz,rfl⟩;have hra:=qk a (by omega);have Zz:=qk z (by omega);have hba:=pI (recV (tx a)) p;have hbz:=pI (recV (tx z)) p;refine br ?_ ?_<;>intro hL
 rotate_left
 ·exact ⟨_,rfl⟩
 have aq:e < 4:=by have:=of_decide_eq_true hL;omega
 have lZ:∀ (a' z':ByteArray),p.size<=a'.size->a'.size<=4->z'.size=a'.size->∃ j',j' < 4 - e/\∃ (e':Nat) (a'' z'':ByteArray),lf01St p a' z' (e + 1)=lf01St p a'' z'' e' /\ e' <= 4/\p.size<=a''.size/\a''.size<=4/\z''.size=a''.size/\j'=4 - e':=fun a' z' h1 h2 h3=>⟨4 - (e + 1),by omega,e + 1,a',z',rfl,by omega,h1,h2,h3,rfl⟩;refine br ?_ ?_<;>intro c
 ·refine cP OE hra ?_;refine bE Vf rfl hba ax (fun q hq=>?_);obtain ⟨b1,rfl⟩:=hq
  cases b1 with
  | true=>
   exact ⟨_,rfl⟩
  | false=>
   refine cP OE Zz ?_;refine bE Vf rfl hbz ax (fun q hq=>?_);obtain ⟨b2,rfl⟩:=hq
   cases b2 with
   | true=>
     exact ⟨_,rfl⟩
   | false=>
    refine br ?_ ?_<;>intro g
    ·refine ⟨[128],rfl,?_⟩;refine ⟨by show a.size + 1<=_;omega,?_⟩;refine ⟨[191],rfl,?_⟩;refine ⟨by show z.size + 1<=_;omega,?_⟩;obtain ⟨j',h1,h2⟩:=lZ (a ++ ba [128]) (z ++ ba [191]) (by rw [size_app];omega) (by rw [size_app];have:=of_decide_eq_true g;show _ + 1<=4;omega) (by rw [size_app,size_app,hz];rfl);exact ⟨lf01St p (a ++ ba [128]) (z ++ ba [191]) (e + 1),(wkM (wB1 (nxt aq (by omega)))),j',h1,h2⟩
    ·obtain ⟨j',h1,h2⟩:=lZ a z ha ha4 hz;exact ⟨lf01St p a z (e + 1),(wkM (wB1 (nxt aq (by omega)))),j',h1,h2⟩
 ·refine br ?_ ?_<;>intro g
  ·refine ⟨[128],rfl,?_⟩;refine ⟨by show a.size + 1<=_;omega,?_⟩;refine ⟨[191],rfl,?_⟩;refine ⟨by show z.size + 1<=_;omega,?_⟩;obtain ⟨j',h1,h2⟩:=lZ (a ++ ba [128]) (z ++ ba [191]) (by rw [size_app];omega) (by rw [size_app];have:=of_decide_eq_true g;show _ + 1<=4;omega) (by rw [size_app,size_app,hz];rfl);exact ⟨lf01St p (a ++ ba [128]) (z ++ ba [191]) (e + 1),(wkM (wB1 (nxt aq (by omega)))),j',h1,h2⟩
  ·obtain ⟨j',h1,h2⟩:=lZ a z ha ha4 hz;exact ⟨lf01St p a z (e + 1),(wkM (wB1 (nxt aq (by omega)))),j',h1,h2⟩
theorem wrap32 {n:Int} (h1 : -2147483648<=n) (h2:n<=2147483647):IntKind.i32.wrap n=n:=by
 simp [IntKind.wrap,IntKind.min,IntKind.max,IntKind.signed,IntKind.bits];omega
abbrev yf (s:ByteArray) (e:Nat):St:=⟨[(0,⟨[],.v (.string s)⟩),aaa 7 ((e + 1:Nat):Int)],[],[]⟩
abbrev Ii (s:ByteArray) (m:Int) (e:Nat):St:=⟨[(0,⟨[],.v (.string s)⟩),aaa 9 m,aaa 10 ((e + 2:Nat):Int)],[],[]⟩
theorem Qt (l:List UInt8) : -2147483648<=recV l/\recV l<=2147483647:=by
 have hb:=fun x:UInt8=>x.toNat_lt
 match l with
 | []=>simp [recV]
 | [a]=>have:=hb a;simp only [recV];omega
 | [a,b]=>have:=hb a;have:=hb b;simp only [recV];omega
 | [a,b,c]=>have:=hb a;have:=hb b;have:=hb c;simp only [recV];omega
 | [a,b,c,d]=>have:=hb a;have:=hb b;have:=hb c;have:=hb d;simp only [recV];omega
 | _ :: _ :: _ :: _ :: _ :: _=>simp [recV]
theorem vy (s:ByteArray) (n:Nat):tx (s.extract 0 n)=(tx s).take n:=by simp [tx]
theorem Qu {s:ByteArray} {l:List UInt8} {k:Nat} (hB:tx s=l):s.extract 0 k=ba (l.take k):=mT (by rw [vy,hB])
theorem Qv {a b:List UInt8}:ba a=ba b↔a=b:=⟨fun h=>by have:=congrArg tx h;rwa [nY,nY] at this,fun h=>by rw [h]⟩
theorem Ij (s:ByteArray) (aG:Nat) (hs:s.size<=1099511627776) (c:UInt8) (r:List UInt8) (h:(tx s).drop aG=c :: r) :
  Ev prog 306 [.v (.string s),.v (.int .i64 aG)] [] [] (fun d _ _=>∃ (z:Int) (n:Int),d = .tup [.v (.int .i32 z),.v (.int .i64 n),.v (.bool (ov (c :: r)))]/\(ov (c :: r)=true->n=aW c.toNat/\z=recV ((c :: r).take (aW c.toNat))/\ln z=true)):=by
 have hlen:aG < s.size:=by
  have:=congrArg List.length h;rw [List.length_drop,bB] at this;simp at this;omega
 have hB:tx (s.extract (aG:Int).toNat (s.size:Int).toNat)=c :: r:=by
  rw [<- h];simp [tx,iW];exact List.take_of_length_le (by rw [List.length_drop];have:=bB s;unfold tx at this;omega)
 have bH:(s.extract (aG:Int).toNat (s.size:Int).toNat).size=r.length + 1:=by rw [<- bB,hB];all_goals rfl
 have hwf:=fun n=>wf_n c r n;have bZ:=fun (h:ov (c :: r)=true)=>vx h;refine eG 65 [.tmp 4,.tmp 5,.tmp 6] func306 rfl ntmps306 rfl fun _ _ _ _=>?_;refine br (fun c=>absurd c (by simp [ap];omega)) (fun _=>?_);refine ⟨⟨by omega,by omega,by omega⟩,?_⟩;generalize s.extract (aG:Int).toNat (s.size:Int).toNat=b at hB bH ⊢;refine lI (fun j st=>∃ e:Nat,st=yf b e/\e<=4/\(ov (c :: r)=true->e < aW c.toNat)/\j=4 - e) ⟨0,rfl,by omega,fun h=>by obtain ⟨_,_,h1,h2,_⟩:=bZ h;cases h1;omega,rfl⟩ (wkM kr) ?_;rintro j st ⟨e,rfl,he,aQ,rfl⟩;refine br ?_ ?_<;>intro hL
 ·have hL:e < 4/\e<=r.length:=by
   simp [pickB_and,bH] at hL;omega
  have hx:(b.extract 0 (((e + 1:Nat):Int)).toNat)=ba ((c :: r).take (e + 1)):=Qu hB;have hbl:(ba ((c :: r).take (e + 1))).size=e + 1:=by rw [<- bB,nY,zLenT,List.length_cons];omega
  have jX:=qk (b.extract 0 (((e + 1:Nat):Int)).toNat) (by rw [hx];omega);rw [show tx (b.extract 0 (((e + 1:Nat):Int)).toNat)=(c :: r).take (e + 1) from by rw [hx,nY]] at jX;have hri:=Qt ((c :: r).take (e + 1));have hw:=hwf (e + 1) (by omega) (by omega) (by omega);have Zt:V3 ((c :: r).take (e + 1))=(ln (recV ((c :: r).take (e + 1))) && decide (Fm (recV ((c :: r).take (e + 1)))=(c :: r).take (e + 1))):=rfl;rw [Zt] at hw;have RN:b.size=r.length + 1:=bH;generalize G4:(c :: r).take (e + 1)=l at jX hri hw hx;generalize Ik:recV l=z at jX hri hw;have hzr:z=recV ((c :: r).take (e + 1)):=by rw [G4,Ik]
  have TG:IntKind.i32.wrap z=z:=by
   exact wrap32 (by omega) (by omega)
  have DB:EvP prog 331 [.v (.int .i32 (IntKind.i32.wrap z))] (.v (.bool (ln z))):=by
   rw [TG];exact uq z
  have j2:EvP prog 332 [.v (.int .i32 (IntKind.i32.wrap z))] (.v (.string (ba (Fm z)))):=by
   rw [TG];exact ye z
  generalize hsb:ln z=sb at DB hw;generalize Fm z=en at j2 hw;refine ⟨⟨by omega,by omega,by omega⟩,?_⟩;refine cP OE jX ?_
  have rM:ov (c :: r)=false∨e + 1≠aW c.toNat->∃ j',j' < 4 - e/\∃ e',yf b (e + 1)=yf b e' /\ e' <= 4/\(ov (c :: r)=true->e' < aW c.toNat)/\j'=4 - e':=fun h=>⟨4 - (e + 1),by omega,e + 1,rfl,by omega,fun h2=>by
   have:=aQ h2;rcases h with h | h
   ·rw [h] at h2;cases h2
   ·omega,rfl⟩
  have tj:(sb && decide (en=l))=false->ov (c :: r)=false∨e + 1≠aW c.toNat:=fun h=>by
   rw [h] at hw;cases ho:ov (c :: r)
   ·exact .inl rfl
   ·rw [ho] at hw;simp at hw;exact .inr fun h=>hw h.symm
  refine dI ?_;refine cD Vc DB ?_
  cases sb with
  | false=>
   obtain ⟨j',h1,h2⟩:=rM (tj rfl);exact ⟨yf b (e + 1),(wkM (by repeat' (first | exact trivial | exact aw rfl | exact ay (nxt (by omega:e + 1 < 5) (by omega)) | refine ⟨⟨_,rfl,?_⟩,?_⟩))),j',h1,h2⟩
  | true=>
   refine cD Vd j2 ?_;refine ⟨⟨by omega,by omega,by omega⟩,?_⟩;refine br ?_ ?_<;>intro cc
   ·have hT:(true && decide (en=l))=true:=by
     have c1:ba en=b.extract 0 (((e + 1:Nat):Int)).toNat:=by simpa [pickB] using cc
     rw [hx,Qv] at c1;simp [c1]
    rw [hT] at hw;have hu:=hw.symm;rw [aD,decide_eq_true_iff] at hu;rw [hu.1];exact ⟨.tup [.v (.int .i32 (IntKind.i32.wrap z)),.v (.int .i64 ((e + 1:Nat):Int)),.v (.bool true)],ax,_,_,rfl,fun _=>⟨by rw [hu.2],by rw [TG,hzr,hu.2],by rw [TG,hsb]⟩⟩
   ·have hF:(true && decide (en=l))=false:=by
     have c1:¬ ba en=b.extract 0 (((e + 1:Nat):Int)).toNat:=by simpa [pickB] using cc
     rw [hx,Qv] at c1;simp [c1]
    obtain ⟨j',h1,h2⟩:=rM (tj hF);exact ⟨yf b (e + 1),(wkM (by repeat' (first | exact trivial | exact aw rfl | exact ay (nxt (by omega:e + 1 < 5) (by omega)) | refine ⟨⟨_,rfl,?_⟩,?_⟩))),j',h1,h2⟩
 ·have eW:ov (c :: r)=false:=by
   cases ho:ov (c :: r)
   ·rfl
   ·obtain ⟨_,_,h1,h2,h3,_⟩:=bZ ho;cases h1;have h4:=aQ ho;have h5:=KB c.toNat;rw [List.length_cons] at h3;simp [pickB_and,bH] at hL;omega
  rw [eW];refine lI (fun j st=>∃ (e:Nat) (m:Int),st=Ii b m e/\e<=2/\j=2 - e) ⟨0,1,rfl,by omega,rfl⟩ (wkM kr) ?_;rintro j st ⟨e,m,rfl,he,rfl⟩;refine br ?_ ?_<;>intro hL
  ·have hL:e < 2/\e + 1<=r.length:=by
    simp [pickB_and,bH] at hL;omega
   have hx:(b.extract 0 (((e + 2:Nat):Int)).toNat)=ba ((c :: r).take (e + 2)):=Qu hB;have hbl:(ba ((c :: r).take (e + 2))).size=e + 2:=by rw [<- bB,nY,zLenT,List.length_cons];omega
   have Dg:=Fo (b.extract 0 (((e + 2:Nat):Int)).toNat) (by rw [hx];omega);refine ⟨⟨by omega,by omega,by rw [bH];omega⟩,?_⟩;refine bE abK rfl Dg ax (fun q hq=>?_);obtain ⟨b1,rfl⟩:=hq
   cases b1 with
   | true=>exact ⟨Ii b ((e + 2:Nat):Int) (e + 1),(wkM (by repeat' (first | exact trivial | exact aw rfl | exact ay (nxt (by omega:e + 2 < 4) (by omega)) | refine ⟨⟨_,rfl,?_⟩,?_⟩))),2 - (e + 1),by omega,e + 1,_,rfl,by omega,rfl⟩
   | false=>exact ⟨Ii b m (e + 1),(wkM (by repeat' (first | exact trivial | exact aw rfl | exact ay (nxt (by omega:e + 2 < 4) (by omega)) | refine ⟨⟨_,rfl,?_⟩,?_⟩))),2 - (e + 1),by omega,e + 1,_,rfl,by omega,rfl⟩
  ·exact ⟨.tup [.v (.int .i32 0),.v (.int .i64 m),.v (.bool false)],ax,_,_,rfl,fun h=>by cases h⟩
def spB:List DV->Bool
 | [.v (.int .i32 _),.v (.int .i32 _)]=>true
 | _=>false
theorem Qw {cs:List DV} (h:spB cs=true):∃ a b:Int,cs=[.v (.int .i32 a),.v (.int .i32 b)]:=by
 unfold spB at h;split at h
 ·exact ⟨_,_,rfl⟩
 ·cases h
theorem V4 {es:List (List DV)} (h:es.all spB=true) {i:Nat} (hi:i < es.length):∃ a b:Int,es[i]? = some [.v (.int .i32 a),.v (.int .i32 b)]:=by
 rw [List.all_eq_true] at h;obtain ⟨a,b,pU⟩:=Qw (h es[i] (List.getElem_mem hi));exact ⟨a,b,by rw [gE hi,pU]⟩
def pJ (z:Int):List DV->Bool
 | [.v (.int .i32 a),.v (.int .i32 b)]=>decide (a<=z) && decide (z<=b)
 | _=>false
def srtB:Int->List (List DV)->Bool
 | _,[]=>true
 | m,[.v (.int .i32 a),.v (.int .i32 b)] :: r=>decide (m < a) && decide (a<=b) && srtB b r
 | _,_=>false
theorem yg {m:Int} {x:List DV} {r:List (List DV)} (h:srtB m (x :: r)=true):∃ a b:Int,x=[.v (.int .i32 a),.v (.int .i32 b)]/\m < a/\a<=b/\srtB b r=true:=by
 unfold srtB at h;split at h
 ·rename_i aK;cases aK
 ·rename_i aK;injection aK with h1 h2
  subst h1 h2;rw [aD,aD,decide_eq_true_iff,decide_eq_true_iff] at h;exact ⟨_,_,rfl,h.1.1,h.1.2,h.2⟩
 ·cases h
theorem vz:∀ {es:List (List DV)} {m:Int} (_:srtB m es=true) {i:Nat} {a b:Int} (_:es[i]? = some [.v (.int .i32 a),.v (.int .i32 b)]),m < a/\a<=b/\srtB b (es.drop (i + 1))=true
 | [],_,_,i,_,_,hi=>by simp at hi
 | x :: r,m,h,i,a,b,hi=>by
  obtain ⟨a0,b0,rfl,h1,h2,h3⟩:=yg h
  cases i with
  | zero=>
   simp only [List.getElem?_cons_zero,oI,List.cons.injEq,DV.v.injEq,Value.int.injEq,true_and,and_true] at hi;obtain ⟨rfl,rfl⟩:=hi;exact ⟨h1,h2,h3⟩
  | succ i=>
   obtain ⟨g1,g2,g3⟩:=vz h3 (i:=i) (sU hi);exact ⟨by omega,g2,g3⟩
theorem Qx {z:Int}:∀ {es:List (List DV)} {m:Int} (_:srtB m es=true) (_:z<=m),es.any (pJ z)=false
 | [],_,_,_=>rfl
 | x :: r,m,h,hz=>by
  obtain ⟨a0,b0,rfl,h1,h2,h3⟩:=yg h;rw [List.any_cons,Qx h3 (by omega),Bool.or_false];simp only [pJ,Bool.and_eq_false_imp,decide_eq_true_iff,decide_eq_false_iff_not];omega
theorem Yd {z m:Int} {es:List (List DV)} (h:srtB m es=true) {i:Nat} {a b:Int} (hi:es[i]? = some [.v (.int .i32 a),.v (.int .i32 b)]) (hz:z < a):(es.drop i).any (pJ z)=false:=by
 obtain ⟨g1,g2,g3⟩:=vz h hi;rw [drop_cons hi,List.any_cons,Qx g3 (by omega),Bool.or_false];simp only [pJ,Bool.and_eq_false_imp,decide_eq_true_iff,decide_eq_false_iff_not];omega
theorem Qy {z:Int}:∀ {es:List (List DV)} {m:Int} (_:srtB m es=true) {i:Nat} {a b:Int} (_:es[i]? = some [.v (.int .i32 a),.v (.int .i32 b)]) (_:b < z),(es.take (i + 1)).any (pJ z)=false
 | [],_,_,i,_,_,hi,_=>by simp at hi
 | x :: r,m,h,i,a,b,hi,hz=>by
  obtain ⟨a0,b0,rfl,h1,h2,h3⟩:=yg h
  cases i with
  | zero=>
   simp only [List.getElem?_cons_zero,oI,List.cons.injEq,DV.v.injEq,Value.int.injEq,true_and,and_true] at hi;obtain ⟨rfl,rfl⟩:=hi;simp only [List.take_succ_cons,List.take_zero,List.any_cons,List.any_nil,Bool.or_false,pJ,Bool.and_eq_false_imp,decide_eq_true_iff,decide_eq_false_iff_not];omega
  | succ i=>
   have hi:r[i]? = some [.v (.int .i32 a),.v (.int .i32 b)]:=sU hi;have g1:=(vz h3 hi).1;have g2:=(vz h3 hi).2.1;rw [List.take_succ_cons,List.any_cons,Qy h3 hi hz,Bool.or_false];simp only [pJ,Bool.and_eq_false_imp,decide_eq_true_iff,decide_eq_false_iff_not];omega
theorem KC {es:List (List DV)} {z a b:Int} {i:Nat} (hi:es[i]? = some [.v (.int .i32 a),.v (.int .i32 b)]) (h1:a<=z) (h2:z<=b):es.any (pJ z)=true:=
 List.any_eq_true.2 ⟨_,mG hi,by simp only [pJ,aD,decide_eq_true_iff];omega⟩
def TH (d:DV) (_:List (List DV)) (_:List TkE):Prop:=∃ es:List (List DV),d = .sl 2 es none/\(Nat.ble es.length 1000 && es.all spB)=true
set_option maxHeartbeats 4000000 in
theorem Qz:Ev prog 357 [] [] [] TH:=by
 refine eG 118 [.tmp 0] func357 rfl ntmps357 rfl fun _ _ _ _=>?_;exact ⟨_,ax,_,rfl,rfl⟩
set_option maxHeartbeats 4000000 in
theorem QA:Ev prog 358 [] [] [] TH:=by
 refine eG 84 [.tmp 0] func358 rfl ntmps358 rfl fun _ _ _ _=>?_;exact ⟨_,ax,_,rfl,rfl⟩
set_option maxHeartbeats 4000000 in
theorem Il:Ev prog 335 [] [] [] TH:=by
 refine eG 118 [.tmp 0] func335 rfl ntmps335 rfl fun _ _ _ _=>?_;exact ⟨_,ax,_,rfl,rfl⟩
set_option maxHeartbeats 4000000 in
theorem Im:Ev prog 336 [] [] [] TH:=by
 refine eG 84 [.tmp 0] func336 rfl ntmps336 rfl fun _ _ _ _=>?_;exact ⟨_,ax,_,rfl,rfl⟩
abbrev hasSt (es:List (List DV)) (z:Int) (e:Nat):St:=⟨[aad 0 2 es,(1,⟨[],.v (.int .i32 z)⟩),aaa 5 e],[],[]⟩
theorem yh (es:List (List DV)) (z:Int) (hl:es.length<=1000) (hs:es.all spB=true):Ev prog 334 [.sl 2 es none,.v (.int .i32 z)] [] [] (fun d _ _=>∃ b:Bool,d = .v (.bool b)/\(0<=z->z<=1114111->b=es.any (pJ z))):=by
 refine eG 36 [.tmp 4] func334 rfl ntmps334 rfl fun _ _ _ _=>?_;refine lI (fun j st=>∃ e:Nat,st=hasSt es z e/\e<=es.length/\(0<=z->z<=1114111->es.any (pJ z)=(es.drop e).any (pJ z))/\j=es.length - e) ⟨0,rfl,by omega,fun _ _=>rfl,rfl⟩ (wkM kr) ?_;rintro j st ⟨e,rfl,he,ZA,rfl⟩;refine br ?_ ?_<;>intro hL
 rotate_left
 ·have aS:e=es.length:=by have:=of_decide_eq_false hL;omega
  refine ⟨_,rfl,fun h1 h2=>?_⟩;rw [ZA h1 h2,aS,List.drop_length];all_goals rfl
 have aq:e < es.length:=by have:=of_decide_eq_true hL;omega
 obtain ⟨a,b,pU⟩:=V4 hs aq
 have lZ:(0<=z->z<=1114111->¬ (a<=z/\z<=b))->∃ j',j' < es.length - e/\∃ e':Nat,hasSt es z (e + 1)=hasSt es z e' /\ e' <= es.length/\(0<=z->z<=1114111->es.any (pJ z)=(es.drop e').any (pJ z))/\j'=es.length - e':=fun eW=>⟨es.length - (e + 1),by omega,e + 1,rfl,by omega,fun h1 h2=>by
  rw [ZA h1 h2,drop_cons pU,List.any_cons]
  have:pJ z [.v (.int .i32 a),.v (.int .i32 b)]=false:=by
   have:=eW h1 h2;simp only [pJ,Bool.and_eq_false_imp,decide_eq_true_iff,decide_eq_false_iff_not];omega
  rw [this,Bool.false_or],rfl⟩
 refine br ?_ ?_<;>intro c1
 ·refine ⟨_,⟨by omega,pU⟩,?_⟩;refine br ?_ ?_<;>intro c2
  ·have c2:a<=z:=by simpa [pickB_and] using c2
   refine ⟨_,⟨by omega,pU⟩,?_⟩;refine br ?_ ?_<;>intro c3
   ·exact ⟨_,rfl,fun _ _=>(KC pU c2 (by simpa [pickB_and] using c3)).symm⟩
   ·obtain ⟨j',h1,h2⟩:=lZ (fun _ _=>by simp [pickB_and] at c3;omega);exact ⟨hasSt es z (e + 1),(wkM (wB1 (nxt aq (by omega)))),j',h1,h2⟩
  ·obtain ⟨j',h1,h2⟩:=lZ (fun _ _=>by simp [pickB_and] at c2;omega);exact ⟨hasSt es z (e + 1),(wkM (wB1 (nxt aq (by omega)))),j',h1,h2⟩
 ·obtain ⟨j',h1,h2⟩:=lZ (fun _ _=>by simp [pickB_and] at c1;omega);exact ⟨hasSt es z (e + 1),(wkM (wB1 (nxt aq (by omega)))),j',h1,h2⟩
abbrev Ye (es:List (List DV)) (z:Int) (lo hi:Nat):St:=⟨[aad 0 2 es,(1,⟨[],.v (.int .i32 z)⟩),aaa 5 lo,aaa 6 hi],[],[]⟩
theorem CD (es:List (List DV)) (z:Int) (hl:es.length<=1000) (hs:es.all spB=true):Ev prog 356 [.sl 2 es none,.v (.int .i32 z)] [] [] (fun d _ _=>∃ b:Bool,d = .v (.bool b)/\∀ m,srtB m es=true->b=es.any (pJ z)):=by
 refine eG 38 [.tmp 4] func356 rfl ntmps356 rfl fun _ _ _ _=>?_;refine lI (fun j st=>∃ lo hi:Nat,st=Ye es z lo hi/\lo<=hi/\hi<=es.length/\(∀ m,srtB m es=true->(es.take lo).any (pJ z)=false/\(es.drop hi).any (pJ z)=false)/\j=hi - lo) ⟨0,es.length,rfl,by omega,by omega,fun _ _=>⟨rfl,by rw [List.drop_length];rfl⟩,rfl⟩ (wkM kr) ?_;rintro j st ⟨lo,hi,rfl,h1,h2,ZA,rfl⟩;refine br ?_ ?_<;>intro hL
 rotate_left
 ·have aS:lo=hi:=by have:=of_decide_eq_false hL;omega
  refine ⟨_,rfl,fun m hm=>?_⟩;obtain ⟨g1,g2⟩:=ZA m hm;rw [<- aS] at g2;rw [<- List.take_append_drop lo es,List.any_append,g1,g2];all_goals rfl
 have aq:lo < hi:=by have:=of_decide_eq_true hL;omega
 have hm:IntKind.i64.wrap ((lo:Int) + IntKind.i64.wrap ((IntKind.i64.wrap ((hi:Int) - lo)).tdiv 2))=((lo + (hi - lo) / 2:Nat):Int):=by
  rw [wrap64 (n:=(hi:Int) - lo) (by omega) (by omega)];rw [Int.tdiv_eq_ediv_of_nonneg (by omega)];rw [wrap64 (n:=((hi:Int) - lo) / 2) (by omega) (by omega),wrap64 (by omega) (by omega)];omega
 obtain ⟨a,b,pU⟩:=V4 hs (i:=lo + (hi - lo) / 2) (by omega);refine ⟨⟨rfl,by decide⟩,?_⟩;refine ⟨_,⟨by rw [hm];omega,by rw [hm,iW];exact pU⟩,?_⟩;refine br ?_ ?_<;>intro c
 ·exact ⟨Ye es z lo (lo + (hi - lo) / 2),(wkM (wB1 hm)),lo + (hi - lo) / 2 - lo,by omega,_,_,rfl,by omega,by omega,fun m hm=>⟨(ZA m hm).1,Yd hm pU (sU c)⟩,rfl⟩
 ·refine ⟨_,⟨by rw [hm];omega,by rw [hm,iW];exact pU⟩,?_⟩;have c0:=c;refine br ?_ ?_<;>intro c
  ·have rZ:IntKind.i64.wrap (IntKind.i64.wrap ((lo:Int) + IntKind.i64.wrap ((IntKind.i64.wrap ((hi:Int) - lo)).tdiv 2)) + 1)=((lo + (hi - lo) / 2 + 1:Nat):Int):=by
    rw [hm,wrap64 (by omega) (by omega)];omega
   exact ⟨Ye es z (lo + (hi - lo) / 2 + 1) hi,(wkM (wB1 rZ)),hi - (lo + (hi - lo) / 2 + 1),by omega,_,_,rfl,by omega,by omega,fun m hm=>⟨Qy hm pU (sU c),(ZA m hm).2⟩,rfl⟩
  ·exact ⟨_,rfl,fun _ _=>(KC pU (sU c0) (sU c)).symm⟩
theorem Fp (z:Int):Ev prog 339 [.v (.int .i32 z)] [] [] (fun d _ _=>∃ b:Bool,d = .v (.bool b)):=by
 refine eG 6 [.tmp 2] func339 rfl ntmps339 rfl fun _ _ _ _=>?_;refine bE abU rfl Qz ax (fun q hq=>?_);obtain ⟨es,rfl,he⟩:=hq;rw [aD,Nat.ble_eq] at he;refine bE z7 rfl (CD es z he.1 he.2) ax (fun q hq=>?_);obtain ⟨b,rfl,_⟩:=hq;exact ⟨_,rfl⟩
theorem Fq (z:Int):Ev prog 340 [.v (.int .i32 z)] [] [] (fun d _ _=>∃ b:Bool,d = .v (.bool b)):=by
 refine eG 6 [.tmp 2] func340 rfl ntmps340 rfl fun _ _ _ _=>?_;refine bE abV rfl QA ax (fun q hq=>?_);obtain ⟨es,rfl,he⟩:=hq;rw [aD,Nat.ble_eq] at he;refine bE z7 rfl (CD es z he.1 he.2) ax (fun q hq=>?_);obtain ⟨b,rfl,_⟩:=hq;exact ⟨_,rfl⟩
theorem Ms (z:Int):Ev prog 309 [.v (.int .i32 z)] [] [] (fun d _ _=>∃ n:Int,d = .v (.int .i64 n)):=by
 refine eG 9 [.tmp 2] func309 rfl ntmps309 rfl fun _ _ _ _=>?_;refine bE abP rfl (Fp z) ax (fun q hq=>?_);obtain ⟨b,rfl⟩:=hq
 cases b with
 | true=>exact ⟨_,rfl⟩
 | false=>
  refine bE abQ rfl (Fq z) ax (fun q hq=>?_);obtain ⟨b,rfl⟩:=hq
  cases b with
  | true=>exact ⟨_,rfl⟩
  | false=>exact ⟨_,rfl⟩
theorem Fs (z:Int):Ev prog 307 [.v (.int .i32 z)] [] [] (fun d _ _=>∃ n:Int,d = .v (.int .i64 n)):=by
 refine eG 9 [.tmp 2] func307 rfl ntmps307 rfl fun _ _ _ _=>?_;refine bE abL rfl Il ax (fun q hq=>?_);obtain ⟨es,rfl,he⟩:=hq;rw [aD,Nat.ble_eq] at he;refine bE Ve rfl (yh es z he.1 he.2) ax (fun q hq=>?_);obtain ⟨b,rfl,_⟩:=hq
 cases b with
 | true=>exact ⟨_,rfl⟩
 | false=>
  refine bE abM rfl Im ax (fun q hq=>?_);obtain ⟨es,rfl,he⟩:=hq;rw [aD,Nat.ble_eq] at he;refine bE Ve rfl (yh es z he.1 he.2) ax (fun q hq=>?_);obtain ⟨b,rfl,_⟩:=hq
  cases b with
  | true=>exact ⟨_,rfl⟩
  | false=>exact ⟨_,rfl⟩
theorem QB (s:ByteArray) (hs:s.size<=1099511627776):EvP prog 308 [.v (.string s),.v (.int .i64 (s.size:Nat))] (.tup [.v (.int .i32 0),.v (.int .i64 0),.v (.bool false)]):=by
 refine eG 60 [.tmp 4,.tmp 5,.tmp 6] func308 rfl ntmps308 rfl fun _ _ _ _=>?_;refine br (fun _=>?_) (fun c=>absurd c (by simp [ap]));exact ⟨_,ax,rfl⟩
theorem Mt (s:ByteArray) (aG:Nat) (hs:s.size<=1099511627776) (h:aG <= s.size):Ev prog 260 [.v (.string s),.v (.int .i64 aG)] [] [] (fun d _ _=>∃ c:Int,d = .tup [.v (.int .i64 c),.v (.int .i64 (lm ((tx s).drop aG):Nat))]):=by
 cases hd:(tx s).drop aG with
 | nil=>
  have he:aG=s.size:=by
   have:=congrArg List.length hd;rw [List.length_drop,bB,List.length_nil] at this;omega
  subst he;refine eG 24 [.tmp 4,.tmp 5] func260 rfl ntmps260 rfl fun _ _ _ _=>?_;refine cP OB (QB s hs) ?_;exact ⟨.tup [.v (.int .i64 0),.v (.int .i64 ((0:Nat):Int))],ax,_,rfl⟩
 | cons c r=>
  have hu:=AZ s aG hs c r hd;have DN:lm (c :: r)=if ov (c :: r)=true then aW c.toNat else 1:=rfl
  rw [DN];generalize ov (c :: r)=ok at hu ⊢;refine eG 24 [.tmp 4,.tmp 5] func260 rfl ntmps260 rfl fun _ _ _ _=>?_;refine bE OB rfl hu ax (fun q hq=>?_);obtain ⟨z,n,rfl,hn,hp⟩:=hq
  cases ok with
  | true=>
   have:=(hn rfl).1;subst this;refine bE abE rfl (Ms z) ax (fun q hq=>?_);obtain ⟨m,rfl⟩:=hq;exact ⟨.tup [.v (.int .i64 m),.v (.int .i64 (aW c.toNat:Nat))],ax,_,rfl⟩
  | false=>
   refine br (fun _=>?_) (fun g=>absurd g (by simp;omega));exact ⟨.tup [.v (.int .i64 1),.v (.int .i64 ((1:Nat):Int))],ax,_,rfl⟩
theorem Fu (s:ByteArray) (hs:s.size<=1099511627776) (h:0 < s.size):Ev prog 259 [.v (.string s),.v (.int .i64 0)] [] [] (fun d _ _=>∃ c:Int,d = .tup [.v (.int .i64 c),.v (.int .i64 (lm (tx s):Nat))]):=by
 cases hd:tx s with
 | nil=>
  have:=bB s;rw [hd,List.length_nil] at this;omega
 | cons c r=>
  have hu:=Ij s 0 hs c r (by rw [List.drop_zero];exact hd);have DN:lm (c :: r)=if ov (c :: r)=true then aW c.toNat else 1:=rfl
  rw [DN];generalize ov (c :: r)=ok at hu ⊢;refine eG 21 [.tmp 4,.tmp 5] func259 rfl ntmps259 rfl fun _ _ _ _=>?_;refine bE abC rfl hu ax (fun q hq=>?_);obtain ⟨z,n,rfl,hn⟩:=hq
  cases ok with
  | true=>
   have:=(hn rfl).1;subst this;refine bE abD rfl (Fs z) ax (fun q hq=>?_);obtain ⟨m,rfl⟩:=hq;exact ⟨.tup [.v (.int .i64 m),.v (.int .i64 (aW c.toNat:Nat))],ax,_,rfl⟩
  | false=>
   exact ⟨.tup [.v (.int .i64 1),.v (.int .i64 ((1:Nat):Int))],ax,_,rfl⟩
end Go.Proofs.YtgjagnmeonoehaaGreat
set_option maxRecDepth 100000
namespace Go.Proofs
open Go.Shelf
def Tryz.laysB_ren:Go.Shelf.Ren:=⟨fun | 240=>149 | 276=>217 | n=>n,fun | 9=>9 | 4=>4 | 0=>0 | 20=>20 | 72=>160 | 70=>157 | 37=>158 | 164=>316 | 5=>5 | n=>n,fun | n=>n⟩
theorem Tryz.laysB:Go.Proofs.Lays.n240 Tryz.prog Tryz.laysB_ren:={
 mixed:=by kernel_rfl
 f240:=Tryz.func149.trans (congrArg some (by kernel_rfl))
 f276:=Tryz.func217.trans (congrArg some (by kernel_rfl))
 t0:=Tryz.underlying0
 a0:=Tryz.isAgg0
 z0:=Tryz.sizeOf0
 v0:=Tryz.zeroValue0
 t4:=Tryz.underlying4
 a4:=Tryz.isAgg4
 z4:=Tryz.sizeOf4
 v4:=Tryz.zeroValue4
 t9:=Tryz.underlying9
 a9:=Tryz.isAgg9
 z9:=Tryz.sizeOf9
 v9:=Tryz.zeroValue9
 t20:=Tryz.underlying20
 a20:=Tryz.isAgg20
 z20:=Tryz.sizeOf20
 v20:=Tryz.zeroValue20
 t70:=Tryz.underlying157
 a70:=Tryz.isAgg157
 z70:=Tryz.sizeOf157
 v70:=Tryz.zeroValue157
 t72:=Tryz.underlying160
 a72:=Tryz.isAgg160
 z72:=Tryz.sizeOf160
 v72:=Tryz.zeroValue160
 t164:=Tryz.underlying316
 a164:=Tryz.isAgg316
 z164:=Tryz.sizeOf316
 v164:=Tryz.zeroValue316 }
theorem Tryz.laysBX:Builder.Extra Tryz.prog Tryz.laysB_ren:={
 sizeBuilder:=by kernel_rfl
 liesBuilder:=by kernel_rfl
 t5:=Tryz.underlying5
 a5:=Tryz.isAgg5
 z5:=Tryz.sizeOf5
 v5:=Tryz.zeroValue5
 infoByte:=by kernel_rfl
 cellsByte:=by kernel_rfl
 sizeByte:=by kernel_rfl
 neB5:=by decide }
end Go.Proofs
set_option maxRecDepth 100000
namespace Go.Proofs.YtgjagnmeonoehaaGreat
open Go Go.RowKit Go.Lib Dv Go.Proofs.Tryz
theorem nj {P:Program} (w:World) (t u ty e:TypeId) (i:TypeInfo) (ht:P.underlying t=some (.slice e)) (hu:P.underlying u=some .string) (hi:P.info? e=some i) (hz:i.zero=some (.int .u8 0))
  (ke:i.size=1) (uI:i.bytes=1) (v:Value) (n:Nat) (xs:List Value) (cW:w.ownsRow 0 e 1 v n xs) (s:ByteArray) (Nj:n + s.size<=maxLen) (kf:n + s.size<=140737488355328) (hs:0 < s.size) :
  ∃ g cap w',(Builtin.append_ #[t,u] ty #[v,.string s]).run P w = .ok (.slice (some ⟨g,0,none⟩) (n + s.size) cap) w' /\ w'.ownsRow 0 e 1 (.slice (some ⟨g,0,none⟩) (n + s.size) cap) (n + s.size) (xs ++ strCells s)/\w.grownBy w' v.ownBlock /\
   ((v.ownBlock=some g)∨(w.heap.size<=g/\∀ k,k < w.heap.size->w'.heap[k]? = w.heap[k]?)):=by
 obtain ⟨v',w',hr,h2,h3,h4⟩:=Lib.run_append_own_string (P:=P) w 0 t u ty e i ht hu hi hz ke uI v n xs cW s Nj kf (Nat.zero_le _);have NF:n + s.size<=9223372036854775807:=by simp only [maxLen] at Nj;omega
 have za:xs.length=n:=by simpa using cW.1
 rcases cW.2 with ⟨rfl,rfl⟩ | ⟨g,cap,cur,rfl,hbg,hg,u0,hcm,cQ,htake⟩
 ·have hr2:=run_append_nil_string (P:=P) w t u ty e i (.int .u8 0) ht hu hi hz s hs (by omega) (by rw [uI];omega);rw [hr2] at hr;injection hr with e1 e2
  subst e1;simp only [Nat.zero_add] at *;exact ⟨_,_,w',by rw [hr2,e2],h2,h3,.inr ⟨aO _,fun k hk=>by rw [<- e2];exact Below.heap_alloc w.drew _ k hk⟩⟩
 ·by_cases Jl:n + s.size<=cap
  ·have hcs':cur.size=cap:=sU cQ;have hr2:=Lib.run_append_room_string (P:=P) w t u ty e i ht hu hi ke g n cap cur hg s Jl (by omega);rw [hr2] at hr;injection hr with e1 e2
   subst e1;exact ⟨_,_,w',by rw [hr2,e2],h2,h3,.inl rfl⟩
  ·have holds:∀ j u,xs[j]? = some u->w.cell? ((⟨g,0,none⟩:Addr).add j)=some u:=cW.cells (g:=g) rfl;have hr2:=Lib.run_append_grow_string (P:=P) w t u ty e i (.int .u8 0) ht hu hi hz ⟨g,0,none⟩ n cap xs (by rw [ke];simpa using za) holds s (by omega) (by omega) (by rw [uI];exact growslice_fits (by omega) (by omega));rw [hr2] at hr;injection hr with e1 e2
   subst e1;exact ⟨_,_,w',by rw [hr2,e2],h2,h3,.inr ⟨aO _,fun k hk=>by rw [<- e2];exact Below.heap_alloc w.drew _ k hk⟩⟩
theorem ur {w:World} {b:Nat} {o:Obj} (h:w.heap[b]? = some o):World.cV w b o=w:=by
 obtain ⟨hb,hg⟩:=Array.getElem?_eq_some_iff.1 h
 have e:w.heap.setIfInBounds b o=w.heap:=by
  apply Array.ext
  ·simp
  ·intro i h1 h2;by_cases hi:b=i
   ·subst hi;simp [hg]
   ·rw [Array.getElem_setIfInBounds_ne (sU h1) hi]
 show { w with heap:=w.heap.setIfInBounds b o }=w;rw [e]
abbrev jv (w:World) (b:Nat) (v:Value):World:=World.cV w b (.cells #[.pointer (some ⟨b,0,none⟩),v] 160 (0,0))
theorem yi (b:Nat) (p v:Value) (w:World) (hp:p = .pointer none∨p = .pointer (some ⟨b,0,none⟩)) (pX:w.heap[b]? = some (.cells #[p,v] 160 (0,0))) :
  Calls prog 149 #[.pointer (some ⟨b,0,none⟩)] w fun e w'=>e = .returned (.tuple #[])/\w'=jv w b v:=by
 rcases hp with rfl | rfl
 ·refine (Any.Builder_copyCheck_fresh Tryz.laysB Tryz.laysBX.toX72 b w (by rw [Lib.cell_of_heap pX];rfl) (by simp [World.shape?,pX,Tryz.laysB_ren]) (by simp [World.frozen?,pX])).mono ?_;rintro e w' ⟨rfl,rfl⟩;exact ⟨rfl,by rw [fD pX];rfl⟩
 ·refine (Any.Builder_copyCheck_used Tryz.laysB Tryz.laysBX.toX72 b w (by rw [Lib.cell_of_heap pX];rfl)).mono ?_;rintro e w' ⟨rfl,rfl⟩;exact ⟨rfl,(ur pX).symm⟩
theorem ql {P:Program} {w:World} {ops:Array Oper} {rest:List Oper} {o:Oper} {a:Act} {Q:Exit->Act->World->Prop} (Li:o.guard=none) (sl x:Operand) (t u:TypeId)
  (ho:o.op = .call { callee:=.builtin .append,args:=#[sl,x],argTypes:=#[t,u] })
  (e:TypeId) (i:TypeInfo) (ht:P.underlying t=some (.slice e)) (hu:P.underlying u=some .string) (hi:P.info? e=some i) (hz:i.zero=some (.int .u8 0))
  (ke:i.size=1) (uI:i.bytes=1)
  (v:Value) (n:Nat) (xs:List Value) (hs:a.eval sl=v) (cW:w.ownsRow 0 e 1 v n xs) (s:ByteArray) (hx:a.eval x = .string s)
  (Nj:n + s.size<=maxLen) (kf:n + s.size<=140737488355328) (kN:0 < s.size)
  (h:∀ g cap w',w'.ownsRow 0 e 1 (.slice (some ⟨g,0,none⟩) (n + s.size) cap) (n + s.size) (xs ++ strCells s)->w.grownBy w' v.ownBlock->((v.ownBlock=some g)∨(w.heap.size<=g/\∀ k,k < w.heap.size->w'.heap[k]? = w.heap[k]?)) ->
   wpList P ops Q rest (a.put o.dst (.slice (some ⟨g,0,none⟩) (n + s.size) cap)) w'):wpList P ops Q (o :: rest) a w:=by
 refine wpList_plain Li fun K hK=>?_;obtain ⟨g,cap,w',hr,h2,h3,h4⟩:=nj (P:=P) w t u o.type e i ht hu hi hz ke uI v n xs cW s Nj kf kN;unfold Oper.wp execOp;simp only [ho,resolve,invoke,builtin,Sem.run_bind,Sem.run_pure,Result.andThen_ok,List.map_toArray,List.map_cons,List.map_nil,hs,hx,hr];exact hK _ _ (h g cap w' h2 h3 h4)
def Io (ret:Value) (w:World) (b:Nat) (v:Value) (n:Nat) (xs:List Value) (s:ByteArray) (e:Ending) (w':World):Prop:=
 e = .returned ret/\∃ g cap w2,w2.ownsRow 0 5 1 (.slice (some ⟨g,0,none⟩) (n + s.size) cap) (n + s.size) (xs ++ strCells s)/\(jv w b v).grownBy w2 v.ownBlock /\
  ((v.ownBlock=some g)∨((jv w b v).heap.size<=g/\∀ k,k < (jv w b v).heap.size->w2.heap[k]? = (jv w b v).heap[k]?)) /\
  w'=World.cV w2 b (.cells #[.pointer (some ⟨b,0,none⟩),.slice (some ⟨g,0,none⟩) (n + s.size) cap] 160 (0,0))
theorem CE {w:World} {b e n:Nat} {v:Value} {xs:List Value} {o:Obj} (h:w.ownsRow 0 e 1 v n xs) (aQ:v.ownBlock≠some b):(World.cV w b o).ownsRow 0 e 1 v n xs:=by
 refine ⟨h.1,?_⟩;rcases h.2 with h | ⟨g,cap,cur,rfl,h1,h2,h3⟩
 ·exact .inl h
 ·refine .inr ⟨g,cap,cur,rfl,h1,?_,h3⟩;rw [cp]
  ·exact h2
  ·rintro rfl;exact aQ rfl
set_option maxHeartbeats 2000000 in
theorem QC (b:Nat) (p v:Value) (n:Nat) (xs:List Value) (s:ByteArray) (w:World) (hp:p = .pointer none∨p = .pointer (some ⟨b,0,none⟩)) (pX:w.heap[b]? = some (.cells #[p,v] 160 (0,0)))
  (cW:w.ownsRow 0 5 1 v n xs) (aQ:v.ownBlock≠some b) (hs:0 < s.size) (hlen:n + s.size<=140737488355328) :
  Calls prog 74 #[.pointer (some ⟨b,0,none⟩),.string s] w (Io (.tuple #[.int .i64 s.size,.nilIface]) w b v n xs s):=by
 obtain ⟨i0,hi,Ik,hz1,Zl⟩:=info_parts Tryz.laysBX.infoByte
 go_enter func74,ntmps74
 go_wp2_with (go_at_call 149;refine (yi b p v _ hp pX).mono ?_)
 rintro e w1 ⟨rfl,rfl⟩;have fA:(jv w b v).heap[b]? = some (.cells #[.pointer (some ⟨b,0,none⟩),v] 160 (0,0)):=dG pX;have Fv:(jv w b v).ownsRow 0 5 1 v n xs:=CE cW aQ;have c0:(jv w b v).cell? ⟨b,0,none⟩=some (.pointer (some ⟨b,0,none⟩)):=by rw [Lib.cell_of_heap fA];all_goals rfl
 have c1:(jv w b v).cell? ⟨b,1,none⟩=some v:=by rw [Lib.cell_of_heap fA];all_goals rfl
 have aq:b < (jv w b v).heap.size:=cC fA;obtain ⟨W1,QD⟩:∃ W1,W1=jv w b v:=⟨_,rfl⟩;rw [<- QD] at fA Fv c0 c1 aq ⊢;have HW:=Lib.hid QD;clear QD
 go_wp2_with (at_builtin;refine ql rfl _ _ 158 9 rfl 5 i0 Tryz.underlying158 Tryz.underlying9 hi Ik hz1 Zl _ _ _ rfl Fv s rfl ?c3 ?c4 hs ?_)
 case c3=>unfold maxLen;omega
 case c4=>omega
 intro g cap w2 QE nv ze
 have eO:w2.heap[b]? = some (.cells #[.pointer (some ⟨b,0,none⟩),v] 160 (0,0)):=by
  rw [nv.block b aq (fun e=>aQ e.symm)];exact fA
 have d0:w2.cell? ⟨b,0,none⟩=some (.pointer (some ⟨b,0,none⟩)):=by rw [Lib.cell_of_heap eO];all_goals rfl
 have d1:w2.cell? ⟨b,1,none⟩=some v:=by rw [Lib.cell_of_heap eO];all_goals rfl
 have f1:w2.frozen? ⟨b,1,none⟩=false:=Lib.frozen_of_heap eO 1
 go_wp2
 go_ret2
 refine ⟨rfl,g,cap,w2,QE,by rw [<- HW.out];exact nv,by rw [<- HW.out];exact ze,?_⟩;rw [fD eO];rfl
set_option maxHeartbeats 1000000 in
theorem Yf (b g cap:Nat) (p:Value) (l:List UInt8) (cur:Array Value) (w:World) (h0:l ≠ []) (pX:w.heap[b]? = some (.cells #[p,.slice (some ⟨g,0,none⟩) l.length cap] 160 (0,0)))
  (hg:w.heap[g]? = some (.cells cur 5 (0,0))) (u0:l.length<=cap) (hcm:cap<=maxLen) (cQ:cur.size=cap * 1) (htake:cur.toList.take (l.length * 1)=Lib.byteCells l) :
  Calls prog 76 #[.pointer (some ⟨b,0,none⟩)] w fun e w'=>e = .returned (.string ⟨l.toArray⟩)/\w'=w.drew.freeze ⟨g,0,none⟩ l.length:=by
 have G4:l.length≠0:=sU h0;have cW:w.ownsRow 0 5 1 (.slice (some ⟨g,0,none⟩) l.length cap) l.length (Lib.byteCells l):=⟨by rw [Lib.byteCells_length,Nat.mul_one],.inr ⟨g,cap,cur,rfl,Nat.zero_le _,hg,u0,hcm,cQ,htake⟩⟩
 have c1:w.drew.cell? ⟨b,1,none⟩=some (.slice (some ⟨g,0,none⟩) l.length cap):=by
  have:w.drew.heap[b]? = some (.cells #[p,.slice (some ⟨g,0,none⟩) l.length cap] 160 (0,0)):=pX;rw [Lib.cell_of_heap this];all_goals rfl
 have hSD:(Builtin.unsafeSliceData_ #[158] 258 #[.slice (some ⟨g,0,none⟩) l.length cap]).run prog w.drew = .ok (.pointer (some ⟨g,0,none⟩)) w.drew:=
  Lib.run_unsafeSliceData_row _ _ _ _ _ _ (by omega)
 have hUS:(Builtin.unsafeString_ #[258,3] 9 #[.pointer (some ⟨g,0,none⟩),.int .i64 l.length]).run prog w.drew = .ok (.string ⟨l.toArray⟩) (w.drew.freeze ⟨g,0,none⟩ l.length):=by
  refine Lib.run_unsafeString_row w.drew 258 3 9 5 Tryz.underlying258 (by kernel_rfl) g cur.size (by have qy:w.drew.heap[g]? = some (.cells cur 5 (0,0)):=hg;simp [World.shape?,qy]) l h0 (by omega) (by unfold maxLen at hcm;omega) ?_;intro j x hx;have:=cW.cells (g:=g) rfl j (.int .u8 x.toNat) (by simp [Lib.byteCells,hx]);exact this
 clear cW htake cQ hg;have mixed:=mo
 go_enter func76,ntmps76
 go_wp2
 go_region_o
 all_goals (go_wp2;go_ret;exact ⟨rfl,rfl⟩)
end Go.Proofs.YtgjagnmeonoehaaGreat
set_option maxRecDepth 100000
namespace Go.Proofs.YtgjagnmeonoehaaGreat
open Go Go.RowKit Dv Go.Proofs.Tryz
def bD (l:List UInt8):List (List DV):=l.map fun c=>[DV.v (.int .u8 c.toNat)]
theorem tB (l:List UInt8):(bD l).length=l.length:=by simp [bD]
theorem QF {E:En}:∀ l:List UInt8,RvC E (bD l).flatten (Lib.byteCells l)
 | []=>⟨cL _,by simp [Lib.byteCells]⟩
 | c :: r=>by
  obtain ⟨h1,h2⟩:=QF (E:=E) r;refine ⟨?_,fun v hv=>?_⟩
  ·simp only [bD,List.map_cons,List.flatten_cons,List.cons_append,List.nil_append,Lib.byteCells];exact rvL_cons (by unfold Rv;exact ⟨rfl,rfl⟩) h1
  ·simp only [Lib.byteCells,List.map_cons,List.mem_cons] at hv;rcases hv with rfl | hv
   ·rfl
   ·exact h2 v hv
theorem KE {E:En}:∀ {l:List UInt8} {arr:List Value},RvL E (bD l).flatten arr->arr=Lib.byteCells l
 | [],arr,h=>by simpa [bD,RvL,Lib.byteCells] using h
 | c :: r,arr,h=>by
  simp only [bD,List.map_cons,List.flatten_cons,List.cons_append,List.nil_append,RvL] at h;obtain ⟨v,s,rfl,h1,h2⟩:=h;unfold Rv at h1;rw [h1.1,KE (l:=r) h2];rfl
theorem strCells_eq (s:ByteArray):Lib.strCells s=Lib.byteCells s.data.toList:=rfl
theorem Ip {X:Ctx} {E:En} {st:St} {a:Act} {w:World} (h:Rel X E st a w) {kt:Nat} {l:List UInt8} {cv:Value} (hl:l ≠ []) (je:st.tk[kt]? = some ⟨l.length,5,1,none⟩) (hv:Rv E (.sl 1 (bD l) (some kt)) cv) :
  ∃ g cap cur,cv = .slice (some ⟨g,0,none⟩) l.length cap/\w.heap[g]? = some (.cells cur 5 (0,0))/\l.length<=cap/\cap<=maxLen/\cur.size=cap * 1/\cur.toList.take (l.length * 1)=Lib.byteCells l/\g ∉ E.β/\E.τ[kt]? = some cv:=by
 have aQ:bD l ≠ []:=by
  intro hc;have:=tB l;rw [hc] at this;exact hl (List.eq_nil_of_length_eq_zero this.symm)
 have kN:0 < l.length:=List.length_pos_iff.2 hl;unfold Rv at hv;obtain ⟨bs,ns,lQ,rfl,⟨rfl,DB⟩,JA,vW⟩:=hv;rw [tB] at DB;obtain ⟨q,hq,_,hτ⟩:=vW kt rfl;rw [h.tk,je] at hq;simp only [oI] at hq;subst hq;have hy:=hτ (tB l);rcases h.env.bQ kt _ _ (by rw [h.tk];exact je) hy with ⟨nM,jO⟩ | ⟨g,cap,cur,nM,hw0,sv,u0,hcm,gv,GO⟩
 ·simp only at jO;omega
 ·injection nM with i1 i2 i3
  subst i1 i3;refine ⟨g,lQ,cur,by rw [tB],hw0,u0,hcm,sv.1,?_,gv,by rw [hy]⟩;obtain ⟨_,Sf⟩:=JA aQ;obtain ⟨GP,fA,eO,Db⟩:=Sf.vM;have ha:=KE fA.1;subst ha;apply List.ext_getElem?;intro j;rw [tB] at eO;rcases Nat.lt_or_ge j (Lib.byteCells l).length with hj | hj
  ·have h5:=h.env.sub _ _ (Db j _ (gE hj));simp only [ab,ao,Nat.zero_add] at h5;rw [cK hw0] at h5;rw [bG,ai (by omega),gE hj];simpa using h5
  ·rw [dA (l:=Lib.byteCells l) hj,bG,ah (by omega)]
theorem TI {X:Ctx} {E:En} {st:St} {a:Act} {w:World} (h:Rel X E st a w) {kt:Nat} {l:List UInt8} {cv:Value} (je:st.tk[kt]? = some ⟨l.length,5,1,none⟩) (hv:Rv E (.sl 1 (bD l) (some kt)) cv) :
  w.ownsRow 0 5 1 cv l.length (Lib.byteCells l)/\E.τ[kt]? = some cv/\∀ b∈E.β,cv.ownBlock≠some b:=by
 cases l with
 | cons c r=>
  obtain ⟨g,cap,cur,rfl,hg,u0,hcm,cQ,htake,Zd,hτ⟩:=Ip h (List.cons_ne_nil c r) je hv;refine ⟨⟨by rw [Lib.byteCells_length,Nat.mul_one],.inr ⟨g,cap,cur,rfl,Nat.zero_le _,hg,u0,hcm,cQ,htake⟩⟩,hτ,fun b hb he=>?_⟩;simp only [Value.ownBlock,oI] at he;exact Zd (he ▸ hb)
 | nil=>
  unfold Rv at hv;obtain ⟨bs,ns,lQ,rfl,⟨rfl,DB⟩,JA,vW⟩:=hv;obtain ⟨q,hq,_,hτ⟩:=vW kt rfl;rw [h.tk,je] at hq;simp only [oI] at hq;subst hq;have hy:=hτ rfl;rcases h.env.bQ kt _ _ (by rw [h.tk];exact je) hy with ⟨nM,jO⟩ | ⟨g,cap,cur,nM,hw0,sv,u0,hcm,gv,GO⟩
  ·rw [nM] at hy ⊢;exact ⟨⟨rfl,.inl ⟨rfl,rfl⟩⟩,hy,fun b _ he=>by simp [Value.ownBlock] at he⟩
  ·rw [nM] at hy ⊢;refine ⟨⟨rfl,.inr ⟨g,cap,cur,rfl,Nat.zero_le _,hw0,u0,hcm,sv.1,by simp [Lib.byteCells]⟩⟩,hy,fun b hb he=>?_⟩;simp only [Value.ownBlock,oI] at he;exact gv (he ▸ hb)
theorem yj {f:FuncId} {xd rd:DV} {ret:Value} {X:Ctx} {st:St} {k:List It} (hP:X.P=prog) {i kt d:Nat} {p c:DV} {l:List UInt8} {s:ByteArray} {cd:List TkE} (hbt:(i,160)∈X.bt) (jU:st.bx[i]? = some [p,c])
  (hp:p = .v (.pointer none)∨p = .loc i 0)
  (hc:(c = .v (.slice none 0 0)/\l=[]/\kt=st.tk.length/\cd=st.tk ++ [⟨s.size,5,1,none⟩])∨(c = .sl 1 (bD l) (some kt)/\st.tk[kt]? = some ⟨l.length,5,1,none⟩/\cd=st.tk.set kt ⟨l.length + s.size,5,1,none⟩))
  (j2:Enters prog f) (Mu:∀ E,Rv E rd ret)
  (pO:∀ (E:En) (b n:Nat) (p v x:Value) (xs:List Value) (w:World),Rv E xd x->p = .pointer none∨p = .pointer (some ⟨b,0,none⟩)->w.heap[b]? = some (.cells #[p,v] 160 (0,0))->w.ownsRow 0 5 1 v n xs->v.ownBlock≠some b->n + s.size<=140737488355328->Calls prog f #[.pointer (some ⟨b,0,none⟩),x] w (Io ret w b v n xs s))
  (hs:0 < s.size) (hlen:l.length + s.size<=140737488355328) (hd:eB X.nt st.sl (some d)=true)
  (hk:go X 4000 k ⟨(d,⟨[],rd⟩) :: st.sl,st.bx.set i [.loc i 0,.sl 1 (bD (l ++ s.data.toList)) (some kt)],cd⟩)
  (aR:X.still=false:=by exact rfl):dH X f [.loc i 0,xd] (some d) k st:=by
 refine ⟨?_,aR,fun E a w vs h hv=>?_⟩
 ·rw [hP];exact j2
 rw [hP];simp only [RvL] at hv;obtain ⟨v1,vr,rfl,h1,v2,vr2,rfl,h2,rfl⟩:=hv;unfold Rv at h1;obtain ⟨b,hb,rfl⟩:=h1;obtain ⟨b',ty,arr,eC,hw,u7⟩:=h.env.eA i _ jU;rw [hb] at eC;simp only [oI] at eC;subst eC;obtain ⟨Sz,qm⟩:=h.bt _ hbt b hb;rw [hw] at qm;simp only [oI,Obj.cells.injEq] at qm;have Sa:ty=160:=qm.2.1;subst Sa;obtain ⟨hr,ho⟩:=u7;simp only [RvL] at hr;obtain ⟨pv,r1,rfl,TJ,cv,r2,rfl,QG,rfl⟩:=hr
 have Yg:pv = .pointer none∨pv = .pointer (some ⟨b,0,none⟩):=by
  rcases hp with rfl | rfl
  ·exact .inl (bo TJ)
  ·unfold Rv at TJ;obtain ⟨b2,eO,rfl⟩:=TJ;rw [hb] at eO;simp only [oI] at eO;subst eO;exact .inr rfl
 have zm:b∈E.β:=mG hb;have KF:st.tk.length=E.tk.length:=by rw [h.tk]
 have key:∃ xs:List Value,xs=Lib.byteCells l/\w.ownsRow 0 5 1 cv l.length xs/\cv.ownBlock≠some b /\
   ((∃ q,E.tk[kt]? = some q/\E.τ[kt]? = some cv/\q.n=l.length/\q.ty=5/\q.e=1/\q.own=none)∨(E.tk[kt]? = none/\E.τ[kt]? = none/\cv = .slice none 0 0/\l.length=0)) /\
   cd[kt]? = some ⟨l.length + s.size,5,1,none⟩/\(∀ j,j≠kt->cd[j]? = E.tk[j]?)/\(∀ y:Value,∃ τ':List Value,τ'[kt]? = some y/\τ'.length=cd.length/\∀ j,j≠kt->τ'[j]? = E.τ[j]?):=by
  rcases hc with ⟨rfl,rfl,rfl,rfl⟩ | ⟨rfl,je,rfl⟩
  ·have:=bo QG;subst this;refine ⟨_,rfl,⟨rfl,.inl ⟨rfl,rfl⟩⟩,by simp [Value.ownBlock],.inr ⟨?_,?_,rfl,rfl⟩,?_,?_,?_⟩
   ·rw [KF];simp
   ·rw [KF,<- h.env.tl];simp
   ·simp
   ·intro j hj;rw [h.tk];rcases Nat.lt_or_ge j st.tk.length with h1 | h1
    ·rw [bF h1]
    ·rw [dA (l:=st.tk) h1];exact dA (by simp;omega)
   ·intro y;refine ⟨E.τ ++ [y],?_,by simp [h.env.tl,h.tk],fun j hj=>?_⟩
    ·rw [KF,<- h.env.tl];simp
    ·rcases Nat.lt_or_ge j E.τ.length with h1 | h1
     ·rw [bF h1]
     ·rw [dA (l:=E.τ) h1];have:=h.env.tl;exact dA (by simp;omega)
  ·obtain ⟨cW,hτ,hob⟩:=TI h je QG;have ir:=(gS je).1;refine ⟨_,rfl,cW,hob b zm,.inl ⟨_,by rw [h.tk];exact je,hτ,rfl,rfl,rfl,rfl⟩,?_,?_,?_⟩
   ·rw [du ir]
   ·intro j hj;rw [List.getElem?_set_ne (Ne.symm hj),h.tk]
   ·intro y;refine ⟨E.τ.set kt y,?_,by simp [h.env.tl,h.tk],fun j hj=>List.getElem?_set_ne (Ne.symm hj)⟩;rw [du];rw [h.env.tl,<- KF];exact ir
 obtain ⟨xs,rfl,cW,aQ,zM,adF,sX,hτ⟩:=key;refine (pO E b l.length pv cv v2 (Lib.byteCells l) w h2 Yg hw cW aQ hlen).mono ?_;rintro e w' ⟨rfl,g,cap,w2,V5,nv,ze,rfl⟩;obtain ⟨τ',Z3,Zc,Nq⟩:=hτ (.slice (some ⟨g,0,none⟩) (l.length + s.size) cap);have xc:Rv E (.loc i 0) (.pointer (some ⟨b,0,none⟩)):=by unfold Rv;exact ⟨b,hb,rfl⟩
 have r1:Rel X E ⟨st.sl,st.bx.set i [.loc i 0,c],st.tk⟩ a (jv w b cv):=
  jZ h aR hb (cs':=[.loc i 0,c]) (arr':=[.pointer (some ⟨b,0,none⟩),cv]) ⟨rvL_cons xc (rvL_one QG),by
   intro v hv;simp only [List.mem_cons,List.not_mem_nil,or_false] at hv;rcases hv with rfl | rfl
   ·rfl
   ·exact ho v (by simp)⟩ ⟨_,hw⟩
 obtain ⟨r2,hext,nP⟩:=Dy r1 aR zM hs (by omega) adF Z3 Zc sX Nq (CE cW aQ) V5 nv ze;have eO:(jv w b cv).heap[b]? = some (.cells #[.pointer (some ⟨b,0,none⟩),cv] 160 (0,0)):=dG hw
 have Db:w2.heap[b]? = some (.cells #[.pointer (some ⟨b,0,none⟩),cv] 160 (0,0)):=by
  rw [nv.block b (cC eO) (fun e=>aQ e.symm)];exact eO
 have Yh:Rv (⟨addC E.c w2 g ((l.length + s.size) * 1),E.β,cd,τ'⟩:En) (.sl 1 (bD (l ++ s.data.toList)) (some kt)) (.slice (some ⟨g,0,none⟩) (l.length + s.size) cap):=by
  have nz:s.data.toList.length=s.size:=by rw [Array.length_toList];all_goals rfl
  unfold Rv;refine ⟨_,_,_,rfl,⟨by rw [tB,List.length_append,nz],?_⟩,fun _=>⟨rfl,?_⟩,?_⟩
  ·rcases V5.2 with ⟨hv,_⟩ | ⟨_,_,_,hv,_,_,u0,_⟩
   ·cases hv
   ·injection hv with _ _ i3
    omega
  ·refine rvEs_flat (arr:=Lib.byteCells (l ++ s.data.toList)) (QF _) (fun cs hcm=>?_) fun j u hj=>?_
   ·simp only [bD,List.mem_map] at hcm;obtain ⟨x,_,rfl⟩:=hcm;rfl
   ·simp only [ab,ao,Nat.zero_add];refine nP j u ?_;rw [strCells_eq];simpa [Lib.byteCells] using hj
  ·intro k' fq;cases fq;exact ⟨_,adF,aO _,fun _=>Z3⟩
 have r3:=jZ r2 aR (i:=i) (b:=b) hb (cs':=[.loc i 0,.sl 1 (bD (l ++ s.data.toList)) (some kt)]) (arr':=[.pointer (some ⟨b,0,none⟩),.slice (some ⟨g,0,none⟩) (l.length + s.size) cap])
  ⟨rvL_cons (by unfold Rv;exact ⟨b,hb,rfl⟩) (rvL_one Yh),by
   intro v hv;simp only [List.mem_cons,List.not_mem_nil,or_false] at hv
   rcases hv with rfl | rfl<;>rfl⟩ ⟨_,Db⟩
 simp only [List.set_set] at r3;exact go_sound 4000 _ _ hk _ _ _ (aY r3 hd rd _ (Mu _))
theorem TL {X:Ctx} {st:St} {k:List It} (hP:X.P=prog) {i kt d:Nat} {p c:DV} {l:List UInt8} {s:ByteArray} {cd:List TkE} (hbt:(i,160)∈X.bt) (jU:st.bx[i]? = some [p,c])
  (hp:p = .v (.pointer none)∨p = .loc i 0)
  (hc:(c = .v (.slice none 0 0)/\l=[]/\kt=st.tk.length/\cd=st.tk ++ [⟨s.size,5,1,none⟩])∨(c = .sl 1 (bD l) (some kt)/\l ≠ []/\st.tk[kt]? = some ⟨l.length,5,1,none⟩/\cd=st.tk.set kt ⟨l.length + s.size,5,1,none⟩))
  (hs:0 < s.size) (hlen:l.length + s.size<=140737488355328) (hd:eB X.nt st.sl (some d)=true)
  (hk:go X 4000 k ⟨(d,⟨[],.tup [.v (.int .i64 s.size),.v .nilIface]⟩) :: st.sl,st.bx.set i [.loc i 0,.sl 1 (bD (l ++ s.data.toList)) (some kt)],cd⟩)
  (aR:X.still=false:=by exact rfl):dH X 74 [.loc i 0,.v (.string s)] (some d) k st:=
 yj hP hbt jU hp (hc.imp_right fun h=>⟨h.1,h.2.2⟩) Xc (fun E=>by unfold Rv;exact ⟨_,rfl,rvL_cons (by unfold Rv;exact ⟨rfl,rfl⟩) (rvL_one (by unfold Rv;exact ⟨rfl,rfl⟩))⟩)
  (fun E b n p v x xs w hx h1 h2 h3 h4 h5=>by
   have:=bo hx;subst this
   exact QC b p v n xs s w h1 h2 h3 h4 hs h5) hs hlen hd hk aR
theorem Fw {X:Ctx} {st:St} {k:List It} (hP:X.P=prog) {i kt d:Nat} {p c:DV} {l:List UInt8} {s:ByteArray} {cd:List TkE} (l':List UInt8) (qC:l'=l ++ s.data.toList) (hbt:(i,160)∈X.bt) (jU:st.bx[i]? = some [p,c])
  (hp:p = .v (.pointer none)∨p = .loc i 0)
  (hc:(c = .v (.slice none 0 0)/\l=[]/\kt=st.tk.length/\cd=st.tk ++ [⟨l'.length,5,1,none⟩])∨(c = .sl 1 (bD l) (some kt)/\l ≠ []/\st.tk[kt]? = some ⟨l.length,5,1,none⟩/\cd=st.tk.set kt ⟨l'.length,5,1,none⟩))
  (hs:0 < s.size) (hlen:l'.length<=140737488355328) (hd:eB X.nt st.sl (some d)=true)
  (hk:go X 4000 k ⟨(d,⟨[],.tup [.v (.int .i64 s.size),.v .nilIface]⟩) :: st.sl,st.bx.set i [.loc i 0,.sl 1 (bD l') (some kt)],cd⟩)
  (aR:X.still=false:=by exact rfl):dH X 74 [.loc i 0,.v (.string s)] (some d) k st:=by
 have hn:l'.length=l.length + s.size:=by rw [qC,List.length_append,Array.length_toList];all_goals rfl
 subst qC;refine TL hP hbt jU hp ?_ hs (by omega) hd hk aR;rcases hc with ⟨h1,h2,h3,h4⟩ | ⟨h1,h2,h3,h4⟩
 ·refine .inl ⟨h1,h2,h3,?_⟩;rw [h4,hn,h2];simp
 ·exact .inr ⟨h1,h2,h3,by rw [h4,hn]⟩
theorem Fx {w:World} {g n:Nat} (x:Addr):(w.freeze ⟨g,0,none⟩ n).cell? x=w.cell? x:=by
 unfold World.freeze;split
 ·rfl
 ·simp only [World.cell?,Array.getElem?_modify];by_cases hg:g=x.block
  ·subst hg;simp only [if_true]
   cases w.heap[x.block]? with
   | none=>rfl
   | some o=>
    cases o with
    | cells c e z=>simp only [Option.map_some]
    | _=>simp
  ·simp [hg]
theorem CF {w:World} {g n k:Nat} (h:k≠g):(w.freeze ⟨g,0,none⟩ n).heap[k]? = w.heap[k]?:=by
 unfold World.freeze;split
 ·rfl
 ·simp only [Array.getElem?_modify];rw [ah (Ne.symm h)]
theorem CG {w:World} {g n:Nat}:(w.freeze ⟨g,0,none⟩ n).os=w.os/\(w.freeze ⟨g,0,none⟩ n).tape=w.tape/\(w.freeze ⟨g,0,none⟩ n).output=w.output/\(w.freeze ⟨g,0,none⟩ n).heap.size=w.heap.size:=by
 unfold World.freeze;split
 ·exact ⟨rfl,rfl,rfl,rfl⟩
 ·exact ⟨rfl,rfl,rfl,by simp⟩
theorem vA {X:Ctx} {st:St} {k:List It} (hP:X.P=prog) {i kt d:Nat} {p:DV} {l:List UInt8} (hbt:(i,160)∈X.bt) (jU:st.bx[i]? = some [p,.sl 1 (bD l) (some kt)])
  (hl:l ≠ []) (je:st.tk[kt]? = some ⟨l.length,5,1,none⟩) (jO:X.n0=0) (kg:X.m0=0) (hd:eB X.nt st.sl (some d)=true)
  (hk:go X 4000 k ⟨[(d,⟨[],.v (.string ⟨l.toArray⟩)⟩)],[],[]⟩) (aR:X.still=false:=by exact rfl):dH X 76 [.loc i 0] (some d) k st:=by
 refine ⟨?_,aR,fun E a w vs h hv=>?_⟩
 ·rw [hP];exact aaF
 rw [hP];simp only [RvL] at hv;obtain ⟨v1,vr,rfl,h1,rfl⟩:=hv;unfold Rv at h1;obtain ⟨b,hb,rfl⟩:=h1;obtain ⟨b',ty,arr,eC,hw,u7⟩:=h.env.eA i _ jU;rw [hb] at eC;simp only [oI] at eC;subst eC;obtain ⟨Sz,qm⟩:=h.bt _ hbt b hb;rw [hw] at qm;simp only [oI,Obj.cells.injEq] at qm;have Sa:ty=160:=qm.2.1;subst Sa;obtain ⟨hr,ho⟩:=u7;simp only [RvL] at hr;obtain ⟨pv,r1,rfl,TJ,cv,r2,rfl,QG,rfl⟩:=hr;obtain ⟨g,cap,cur,rfl,hg,u0,hcm,cQ,htake,Zd,hτ⟩:=Ip h hl je QG;refine (Yf b g cap pv l cur w hl hw hg u0 hcm cQ htake).mono ?_;rintro e w' ⟨rfl,rfl⟩;obtain ⟨k1,k2,k3,k4⟩:=CG (w:=w.drew) (g:=g) (n:=l.length);have hE0:X.E0.β=[]:=List.eq_nil_of_length_eq_zero (by rw [X.jO,jO]);have Yi:X.E0.tk=[]:=List.eq_nil_of_length_eq_zero (by rw [X.kg,kg]);have vR:X.w0.heap.size<=g:=h.nw.tn kt _ g (by rw [Yi];exact Nat.zero_le _) hτ rfl
 let E':En:=⟨E.c,[],[],[]⟩
 have bM:Rel X E' ⟨[],[],[]⟩ a (w.drew.freeze ⟨g,0,none⟩ l.length):={
  env:={
   len:=rfl
   tl:=rfl
   eA:=by simp
   inj:=List.nodup_nil
   sub:=fun x v hx=>by rw [Fx];exact h.env.sub x v hx
   pc:=by simp [E']
   bQ:=by simp [E']
   iZ:=by simp [E'] }
  tk:=rfl
  sz:=h.sz
  tm:=fun i x hx=>by cases hx
  df:=h.df
  nw:={
   c:=fun x v hx=>h.nw.c x v hx
   cn:=fun x v hx=>h.nw.cn x v hx
   β:=⟨[],by rw [hE0];rfl,by simp⟩
   tk:=fun k q y hq _=>by rw [Yi] at hq;simp at hq
   tn:=fun k y g' _ hy _=>by simp [E'] at hy
   l0:=h.nw.l0 }
  fr:=h.fr.cu k1 k2 k3 (by rw [k4];exact aO _) fun j hj=>by
   by_cases hjg:j=g
   ·left;exact .inr (hjg ▸ vR)
   ·right;exact CF hjg
  sh:=mB aR
  bt:=fun p hp b hb=>by simp [E'] at hb }
 have lR:eB X.nt ([]:List (Nat × Sl)) (some d)=true:=by
  simp only [eB,aD] at hd ⊢;exact ⟨hd.1,rfl⟩
 exact go_sound 4000 _ _ hk _ _ _ (aY (st:=⟨[],[],[]⟩) bM lR (.v (.string ⟨l.toArray⟩)) _ (by unfold Rv;exact ⟨rfl,rfl⟩))
end Go.Proofs.YtgjagnmeonoehaaGreat
set_option maxRecDepth 100000
namespace Go.Proofs.YtgjagnmeonoehaaGreat
open Go Go.RowKit Go.Lib Dv Go.Proofs.Tryz
theorem tC {P:Program} {w:World} {ops:Array Oper} {rest:List Oper} {o:Oper} {a:Act} {Q:Exit->Act->World->Prop} (Li:o.guard=none) (s x:Operand) (t:TypeId)
  (ho:o.op = .call { callee:=.builtin .append,args:=#[s,x],argTypes:=#[t,t] })
  (e:TypeId) (i:TypeInfo) (z:Value) (ht:P.underlying t=some (.slice e)) (hi:P.info? e=some i) (hz:i.zero=some z) (ke:i.size=1) (uI:i.bytes=1) (GH:z.cells.size=1)
  (v:Value) (n:Nat) (xs:List Value) (hs:a.eval s=v) (cW:w.ownsRow 0 e 1 v n xs)
  (ad:Addr) (m c:Nat) (news:List Value) (hx:a.eval x = .slice (some ad) m c) (hl:news.length=m * 1) (qF:∀ j u,news[j]? = some u->w.cell? (ad.add j)=some u) (h1:∀ u∈news,u.oneCell'=true)
  (hm:0 < m) (Nj:n + m<=maxLen) (kf:(n + m) * 1<=140737488355328)
  (h:∀ g cap w',w'.ownsRow 0 e 1 (.slice (some ⟨g,0,none⟩) (n + m) cap) (n + m) (xs ++ news)->w.grownBy w' v.ownBlock->((v.ownBlock=some g)∨(w.heap.size<=g/\∀ k,k < w.heap.size->w'.heap[k]? = w.heap[k]?)) ->
   wpList P ops Q rest (a.put o.dst (.slice (some ⟨g,0,none⟩) (n + m) cap)) w'):wpList P ops Q (o :: rest) a w:=by
 refine wpList_plain Li fun K hK=>?_;obtain ⟨g,cap,w',hr,h2,h3,h4⟩:=gI (P:=P) (w:=w) t o.type e i z 1 1 ht hi hz ke uI GH (by omega) v n xs cW ad m c news hl qF h1 hm Nj kf;unfold Oper.wp execOp;simp only [ho,resolve,invoke,builtin,Sem.run_bind,Sem.run_pure,Result.andThen_ok,List.map_toArray,List.map_cons,List.map_nil,hs,hx,hr];exact hK _ _ (h g cap w' h2 h3 h4)
theorem V6 (w:World) (o:Obj):(w.alloc o).heap.size=w.heap.size + 1:=World.size_alloc w o
set_option maxHeartbeats 2000000 in
theorem Yj (b:Nat) (p v:Value) (n:Nat) (xs:List Value) (c:UInt8) (w:World) (hp:p = .pointer none∨p = .pointer (some ⟨b,0,none⟩)) (pX:w.heap[b]? = some (.cells #[p,v] 160 (0,0)))
  (cW:w.ownsRow 0 5 1 v n xs) (aQ:v.ownBlock≠some b) (hlen:n + 1<=140737488355328) :
  Calls prog 341 #[.pointer (some ⟨b,0,none⟩),.int .u8 c.toNat] w (Io .nilIface w b v n xs (ba [c])):=by
 obtain ⟨i0,hi,Ik,hz1,Zl⟩:=info_parts Tryz.laysBX.infoByte
 go_enter func341,ntmps341
 go_wp2_with (go_at_call 149;refine (yi b p v _ hp pX).mono ?_)
 rintro e w1 ⟨rfl,rfl⟩;have fA:(jv w b v).heap[b]? = some (.cells #[.pointer (some ⟨b,0,none⟩),v] 160 (0,0)):=dG pX;have Fv:(jv w b v).ownsRow 0 5 1 v n xs:=CE cW aQ;have c0:(jv w b v).cell? ⟨b,0,none⟩=some (.pointer (some ⟨b,0,none⟩)):=by rw [Lib.cell_of_heap fA];all_goals rfl
 have c1:(jv w b v).cell? ⟨b,1,none⟩=some v:=by rw [Lib.cell_of_heap fA];all_goals rfl
 have aq:b < (jv w b v).heap.size:=cC fA;obtain ⟨W1,QD⟩:∃ W1,W1=jv w b v:=⟨_,rfl⟩;rw [<- QD] at fA Fv c0 c1 aq ⊢;have HW:=Lib.hid QD;clear QD
 go_wp2_with (at_builtin;refine tC rfl _ _ 158 rfl 5 i0 (.int .u8 0) Tryz.underlying158 hi Ik hz1 Zl rfl _ _ _ rfl (Fv.alloc _) ⟨W1.heap.size,0,none⟩ 1 1 [.int .u8 c.toNat] rfl rfl ?c1 ?c2 (by omega) ?c3 ?c4 ?_)
 case c1=>
  intro j u hj
  match j,hj with
  | 0,hj=>simp at hj;subst hj;simp [Addr.add]
 case c2=>intro u hu;simp at hu;subst hu;rfl
 case c3=>unfold maxLen;omega
 case c4=>omega
 intro g cap w2 QE nv ze;have QH:W1.grownBy w2 v.ownBlock:=⟨nv.os,nv.tape,nv.output,by have:=nv.size;rw [V6] at this;omega,fun k hk aQ=>(nv.block k (by rw [V6];omega) aQ).trans (Lib.alloc_old W1 _ k hk)⟩;have hdi2:(v.ownBlock=some g)∨(W1.heap.size<=g/\∀ k,k < W1.heap.size->w2.heap[k]? = W1.heap[k]?):=ze.imp_right fun ⟨h1,h2⟩=>⟨by omega,fun k hk=>(h2 k (by omega)).trans (Lib.alloc_old W1 _ k hk)⟩
 have eO:w2.heap[b]? = some (.cells #[.pointer (some ⟨b,0,none⟩),v] 160 (0,0)):=by
  rw [QH.block b aq (fun e=>aQ e.symm)];exact fA
 have d0:w2.cell? ⟨b,0,none⟩=some (.pointer (some ⟨b,0,none⟩)):=by rw [Lib.cell_of_heap eO];all_goals rfl
 have d1:w2.cell? ⟨b,1,none⟩=some v:=by rw [Lib.cell_of_heap eO];all_goals rfl
 have f1:w2.frozen? ⟨b,1,none⟩=false:=Lib.frozen_of_heap eO 1;clear nv ze
 go_wp2
 go_ret
 refine ⟨rfl,g,cap,w2,QE,by rw [<- HW.out];exact QH,by rw [<- HW.out];exact hdi2,?_⟩;rw [fD eO];rfl
set_option maxHeartbeats 2000000 in
theorem TM (b g n cap:Nat) (p:Value) (cur:Array Value) (w:World) (hp:p = .pointer none∨p = .pointer (some ⟨b,0,none⟩)) (pX:w.heap[b]? = some (.cells #[p,.slice (some ⟨g,0,none⟩) n cap] 160 (0,0)))
  (hg:w.heap[g]? = some (.cells cur 5 (0,0))) (u0:n<=cap) (cQ:cur.size=cap) (aQ:g≠b) :
  Calls prog 74 #[.pointer (some ⟨b,0,none⟩),.string ⟨#[]⟩] w fun e w'=>e = .returned (.tuple #[.int .i64 0,.nilIface])/\w'=jv w b (.slice (some ⟨g,0,none⟩) n cap):=by
 obtain ⟨i0,hi,Ik,hz1,Zl⟩:=info_parts Tryz.laysBX.infoByte
 go_enter func74,ntmps74
 go_wp2_with (go_at_call 149;refine (yi b p _ _ hp pX).mono ?_)
 rintro e w1 ⟨rfl,rfl⟩;obtain ⟨v,hv⟩:∃ v,v=Value.slice (some ⟨g,0,none⟩) n cap:=⟨_,rfl⟩;rw [<- hv] at pX ⊢;have fA:(jv w b v).heap[b]? = some (.cells #[.pointer (some ⟨b,0,none⟩),v] 160 (0,0)):=dG pX;have nN:(jv w b v).heap[g]? = some (.cells cur 5 (0,0)):=by rw [cp aQ];exact hg
 have c0:(jv w b v).cell? ⟨b,0,none⟩=some (.pointer (some ⟨b,0,none⟩)):=by rw [Lib.cell_of_heap fA];all_goals rfl
 have c1:(jv w b v).cell? ⟨b,1,none⟩=some v:=by rw [Lib.cell_of_heap fA];all_goals rfl
 have f1:(jv w b v).frozen? ⟨b,1,none⟩=false:=Lib.frozen_of_heap fA 1;obtain ⟨W1,QD⟩:∃ W1,W1=jv w b v:=⟨_,rfl⟩;rw [<- QD] at fA nN c0 c1 f1 ⊢;have HW:=Lib.hid QD;clear QD
 go_wp2_with (at_builtin;refine Iq rfl _ _ 158 9 rfl 5 i0 Tryz.underlying158 Tryz.underlying9 hi hz1 g n cap cur hv nN u0 cQ rfl ?_)
 rw [<- hv]
 go_wp2
 go_ret2
 refine ⟨rfl,?_⟩;rw [fD fA];exact (ur fA).trans HW.out
theorem QI {X:Ctx} {st:St} {k:List It} (hP:X.P=prog) {i kt d:Nat} {p:DV} {l:List UInt8} (hbt:(i,160)∈X.bt) (jU:st.bx[i]? = some [p,.sl 1 (bD l) (some kt)])
  (hp:p = .v (.pointer none)∨p = .loc i 0) (hl:l ≠ []) (je:st.tk[kt]? = some ⟨l.length,5,1,none⟩) (hd:eB X.nt st.sl (some d)=true)
  (hk:go X 4000 k ⟨(d,⟨[],.tup [.v (.int .i64 0),.v .nilIface]⟩) :: st.sl,st.bx.set i [.loc i 0,.sl 1 (bD l) (some kt)],st.tk⟩)
  (aR:X.still=false:=by exact rfl):dH X 74 [.loc i 0,.v (.string ⟨#[]⟩)] (some d) k st:=by
 refine ⟨by rw [hP];exact Xc,aR,fun E a w vs h hv=>?_⟩;rw [hP];simp only [RvL] at hv;obtain ⟨v1,vr,rfl,h1,v2,vr2,rfl,h2,rfl⟩:=hv;have h2:=bo h2;subst h2;unfold Rv at h1;obtain ⟨b,hb,rfl⟩:=h1;obtain ⟨b',ty,arr,eC,hw,u7⟩:=h.env.eA i _ jU;rw [hb] at eC;simp only [oI] at eC;subst eC;obtain ⟨Sz,qm⟩:=h.bt _ hbt b hb;rw [hw] at qm;simp only [oI,Obj.cells.injEq] at qm;have Sa:ty=160:=qm.2.1;subst Sa;obtain ⟨hr,ho⟩:=u7;simp only [RvL] at hr;obtain ⟨pv,r1,rfl,TJ,cv,r2,rfl,QG,rfl⟩:=hr;have xc:Rv E (.loc i 0) (.pointer (some ⟨b,0,none⟩)):=by unfold Rv;exact ⟨b,hb,rfl⟩
 have Yg:pv = .pointer none∨pv = .pointer (some ⟨b,0,none⟩):=by
  rcases hp with rfl | rfl
  ·exact .inl (bo TJ)
  ·unfold Rv at TJ;obtain ⟨b2,eO,rfl⟩:=TJ;rw [hb] at eO;simp only [oI] at eO;subst eO;exact .inr rfl
 obtain ⟨g,cap,cur,rfl,hg,u0,hcm,cQ,htake,Zd,hτ⟩:=Ip h hl je QG;refine (TM b g l.length cap pv cur w Yg hw hg u0 (by omega) (fun e=>Zd (e ▸ mG hb))).mono ?_;rintro e w' ⟨rfl,rfl⟩
 have r1:Rel X E ⟨st.sl,st.bx.set i [.loc i 0,.sl 1 (bD l) (some kt)],st.tk⟩ a (jv w b (.slice (some ⟨g,0,none⟩) l.length cap)):=
  jZ h aR hb (cs':=[.loc i 0,.sl 1 (bD l) (some kt)]) (arr':=[.pointer (some ⟨b,0,none⟩),.slice (some ⟨g,0,none⟩) l.length cap]) ⟨rvL_cons xc (rvL_one QG),by
   intro v hv;simp only [List.mem_cons,List.not_mem_nil,or_false] at hv
   rcases hv with rfl | rfl<;>rfl⟩ ⟨_,hw⟩
 exact go_sound 4000 _ _ hk _ _ _ (aY r1 hd (.tup [.v (.int .i64 0),.v .nilIface]) _ (by unfold Rv;exact ⟨_,rfl,rvL_cons (by unfold Rv;exact ⟨rfl,rfl⟩) (rvL_one (by unfold Rv;exact ⟨rfl,rfl⟩))⟩))
theorem iF {X:Ctx} {st:St} {k:List It} (hP:X.P=prog) {i kt d:Nat} {p:DV} {l:List UInt8} {s:ByteArray} (l':List UInt8) (qC:l'=l ++ s.data.toList) (hbt:(i,160)∈X.bt) (jU:st.bx[i]? = some [p,.sl 1 (bD l) (some kt)])
  (hp:p = .v (.pointer none)∨p = .loc i 0) (je:st.tk[kt]? = some ⟨l.length,5,1,none⟩) (hs:l' ≠ []) (hlen:l'.length<=140737488355328) (hd:eB X.nt st.sl (some d)=true)
  (hk:∀ n:Int,go X 4000 k ⟨(d,⟨[],.tup [.v (.int .i64 n),.v .nilIface]⟩) :: st.sl,st.bx.set i [.loc i 0,.sl 1 (bD l') (some kt)],st.tk.set kt ⟨l'.length,5,1,none⟩⟩)
  (aR:X.still=false:=by exact rfl):dH X 74 [.loc i 0,.v (.string s)] (some d) k st:=by
 subst qC;have nz:s.data.toList.length=s.size:=by rw [Array.length_toList];all_goals rfl
 have ir:=(gS je);rcases Nat.eq_zero_or_pos s.size with h0 | h0
 ·have sv:s=⟨#[]⟩:=by
   apply ByteArray.ext;apply Array.eq_empty_of_size_eq_zero;exact h0
  subst sv;have hr:=hk 0;simp only [List.append_nil] at hr hs;rw [show st.tk.set kt ⟨l.length,5,1,none⟩=st.tk by rw [<- ir.2];exact List.set_getElem_self ir.1] at hr;exact QI hP hbt jU hp hs je hd hr aR
 ·refine yj (s:=s) hP hbt jU hp (.inr ⟨rfl,je,rfl⟩) Xc (rd:=.tup [.v (.int .i64 s.size),.v .nilIface]) (ret:=.tuple #[.int .i64 s.size,.nilIface]) (fun E=>by unfold Rv;exact ⟨_,rfl,rvL_cons (by unfold Rv;exact ⟨rfl,rfl⟩) (rvL_one (by unfold Rv;exact ⟨rfl,rfl⟩))⟩)
   (fun E b n p v x xs w hx h1 h2 h3 h4 h5=>by
    have:=bo hx;subst this
    exact QC b p v n xs s w h1 h2 h3 h4 h0 h5) h0 (by rw [List.length_append,nz] at hlen;exact hlen) hd ?_ aR
  have hr:=hk s.size;rw [List.length_append,nz] at hr;exact hr
theorem KG {X:Ctx} {st:St} {k:List It} (hP:X.P=prog) {i kt d:Nat} {p:DV} {l:List UInt8} {c:UInt8} {z:Int} (hz:z=c.toNat) (hbt:(i,160)∈X.bt) (jU:st.bx[i]? = some [p,.sl 1 (bD l) (some kt)])
  (hp:p = .v (.pointer none)∨p = .loc i 0) (je:st.tk[kt]? = some ⟨l.length,5,1,none⟩) (hlen:l.length + 1<=140737488355328) (hd:eB X.nt st.sl (some d)=true)
  (hk:go X 4000 k ⟨(d,⟨[],.v .nilIface⟩) :: st.sl,st.bx.set i [.loc i 0,.sl 1 (bD (l ++ [c])) (some kt)],st.tk.set kt ⟨l.length + 1,5,1,none⟩⟩)
  (aR:X.still=false:=by exact rfl):dH X 341 [.loc i 0,.v (.int .u8 z)] (some d) k st:=by
 subst hz
 refine yj (s:=ba [c]) hP hbt jU hp (.inr ⟨rfl,je,rfl⟩) abR (rd:=.v .nilIface) (ret:=.nilIface) (fun E=>by unfold Rv;exact ⟨rfl,rfl⟩)
  (fun E b n p v x xs w hx h1 h2 h3 h4 h5=>by
   have:=bo hx;subst this
   exact Yj b p v n xs c w h1 h2 h3 h4 h5) Nat.one_pos hlen hd hk aR
theorem Fy {X:Ctx} {f:FuncId} {args:List DV} {dst:Option Nat} {k:List It} {st:St} (q:TkE) (st':St) (hq:q.new=true) (ha:WeL st.bx.length st.tk.length (st.tk ++ [q]) args args) (h3:st'.tk=st.tk ++ [q]) (h2:WeLL st.bx.length st.tk.length (st.tk ++ [q]) st.bx st'.bx)
  (h:qS st.bx.length st.tk.length (st.tk ++ [q]) st.sl st'.sl) (hn:Nat.ble X.n0 st.bx.length=true) (hm:Nat.ble X.m0 st.tk.length=true) (hk:dH X f args dst k st'):dH X f args dst k st:=by
 obtain ⟨k1,k2,k3⟩:=hk;refine ⟨k1,k2,fun E a w vs hR hv=>?_⟩;have hr:=zT (st':=st') hR (kept:=st.tk) (dropped:=[]) (new:=[q]) (b0:=st.bx) (r:=[]) ⟨nL hm,nL hn,by simp,h3,by simpa using hq,by simp,by rw [h3];exact h2,by rw [h3];exact h⟩;exact k3 _ a w vs hr (sy (dropped:=[]) (by rw [hR.tk];simp) hR.env.tl (sU hq) ha hv)
end Go.Proofs.YtgjagnmeonoehaaGreat
set_option maxRecDepth 100000
namespace Go.Proofs.YtgjagnmeonoehaaGreat
open Go Go.RowKit Dv Go.Proofs.Tryz
def uX (n:Nat):UInt8:=if n < 10 then UInt8.ofNat (48 + n) else UInt8.ofNat (87 + n)
def zB (n:Nat):List UInt8:=if n=0 then [] else zB (n / 16) ++ [uX (n % 16)]
termination_by n
decreasing_by omega
def zC (n:Nat):List UInt8:=zB (n / 16) ++ [uX (n % 16)]
theorem hexP_0:zB 0=[]:=by rw [zB,ai rfl]
theorem Yk {n:Nat} (h:n≠0):zB n=zC n:=by rw [zB,ah h];all_goals rfl
theorem Fz:∀ (k n:Nat),n < 16 ^ k->(zB n).length<=k
 | 0,n,h=>by
  have:n=0:=sU h;rw [this,hexP_0];exact aO _
 | k + 1,n,h=>by
  by_cases hn:n=0
  ·rw [hn,hexP_0];simp
  ·rw [zB,ah hn,List.length_append];have:=Fz k (n / 16) (by rw [Nat.div_lt_iff_lt_mul (by decide)];rw [Nat.pow_succ] at h;exact h);simp only [List.length_cons,List.length_nil];omega
theorem ym {n:Nat} (h:n<=4294967295):(zC n).length<=8:=by
 have:=Fz 7 (n / 16) (by omega);simp only [zC,List.length_append,List.length_cons,List.length_nil];omega
def Mv:List (List DV):=[[.v (.int .i32 0),.v (.int .i32 31)],[.v (.int .i32 127),.v (.int .i32 159)]]
def Mw:List (List DV):=[[.v (.int .i32 8232),.v (.int .i32 8233)]]
def A1:List (List DV):=[(1564,1564),(8206,8207),(8234,8238),(8294,8297)].map fun p:Int × Int=>[DV.v (.int .i32 p.1),DV.v (.int .i32 p.2)]
def Mx:List (List DV):=[(173,173),(1536,1541),(1757,1757),(1807,1807),(2274,2274),(6158,6158),(8203,8205),(8288,8292),(8298,8303),(65279,65279),(65529,65531),(69821,69821),(69837,69837),(113824,113827),(119155,119162),(917505,917505),(917536,917631)].map fun p:Int × Int=>[DV.v (.int .i32 p.1),DV.v (.int .i32 p.2)]
def My (z:Int):Bool:=((Mv.any (pJ z) || A1.any (pJ z)) || Mx.any (pJ z)) || Mw.any (pJ z)
def FA (z:Int) (u:List UInt8):List UInt8:=
 if z=34 then [92,34] else if z=92 then [92,92] else if z=9 then [92,116] else if z=10 then [92,110] else if z=13 then [92,114]
 else if My z=true then [92,117,123] ++ zC z.toNat ++ [125] else u
def QJ:List UInt8->List UInt8
 | []=>[]
 | c :: r=>if ov (c :: r)=true then FA (recV ((c :: r).take (lm (c :: r)))) ((c :: r).take (lm (c :: r))) else [92,120,uX (c.toNat / 16),uX (c.toNat % 16)]
def ph:Nat->List UInt8->List UInt8
 | 0,_=>[]
 | k + 1,l=>QJ l ++ ph k (l.drop (lm l))
def yo (l:List UInt8):List UInt8:=34 :: (ph l.length l ++ [34])
theorem FB (k:Nat):ph k []=[]:=by
 induction k with
 | zero=>rfl
 | succ k ih=>show [] ++ ph k ([].drop _)=[];rw [List.drop_nil,ih];all_goals rfl
theorem tD:∀ (n:Nat) (l:List UInt8),l.length<=n->ph n l=ph l.length l
 | 0,l,h=>by
  have:l=[]:=List.eq_nil_of_length_eq_zero (by omega);rw [this];all_goals rfl
 | n + 1,l,h=>by
  cases l with
  | nil=>rw [FB,FB]
  | cons c r=>
   obtain ⟨h1,h2⟩:=rL (l:=c :: r) (by simp);have hl:((c :: r).drop (lm (c :: r))).length=r.length + 1 - lm (c :: r):=by rw [List.length_drop,List.length_cons]
   rw [List.length_cons] at h h2;show QJ _ ++ ph n _=QJ _ ++ ph r.length _;rw [tD n _ (by omega),tD r.length _ (by omega)]
theorem Mz {l:List UInt8} (h:l ≠ []):ph l.length l=QJ l ++ ph (l.drop (lm l)).length (l.drop (lm l)):=by
 cases l with
 | nil=>exact absurd rfl h
 | cons c r=>
  obtain ⟨h1,h2⟩:=rL (l:=c :: r) (by simp);show QJ _ ++ ph r.length _=_;rw [tD r.length _ (by rw [List.length_drop,List.length_cons];omega)]
theorem KH {l:List UInt8} (h:Qp l=true):0<=recV l/\recV l<=2097151:=by
 unfold Qp at h;split at h<;>(first | (rw [decide_eq_true_iff] at h;simp only [recV];omega) | cases h)
theorem TN (l:List UInt8):(QJ l).length<=12:=by
 cases l with
 | nil=>exact Nat.zero_le _
 | cons c r=>
  show (if ov (c :: r)=true then FA (recV ((c :: r).take (lm (c :: r)))) ((c :: r).take (lm (c :: r))) else [92,120,uX (c.toNat / 16),uX (c.toNat % 16)]:List UInt8).length<=12;split
  ·rename_i h;have hi:=Ih h;obtain ⟨_,_,hcr,h1,h2,h3⟩:=vx h;injection hcr with N7 pf
   subst N7 pf;rw [h3];have h4:=KB c.toNat;have:=KH hi;have:=ym (n:=(recV ((c :: r).take (aW c.toNat))).toNat) (by omega);unfold FA
   repeat' split
   all_goals simp only [List.length_append,List.length_cons,List.length_nil,zLenT]
   all_goals omega
  ·simp
theorem FC:∀ (n:Nat) (l:List UInt8),(ph n l).length<=12 * n
 | 0,l=>Nat.zero_le _
 | n + 1,l=>by
  have h1:=TN l;have h2:=FC n (l.drop (lm l));show (QJ l ++ ph n (l.drop (lm l))).length<=_;rw [List.length_append];omega
theorem yp (l:List UInt8):(yo l).length<=12 * l.length + 2:=by
 have:=FC l.length l;simp only [yo,List.length_append,List.length_cons,List.length_nil];omega
theorem CH {s:ByteArray} (hs:s=ba [48,49,50,51,52,53,54,55,56,57,97,98,99,100,101,102]) {k:Nat} (hk:k < 16) {a b:Int} (ha:a=k) (hb:b=k + 1):s.extract a.toNat b.toNat=ba [uX k]:=by
 subst hs ha hb;refine mT ?_;have:∀ k:Fin 16,tx ((ba [48,49,50,51,52,53,54,55,56,57,97,98,99,100,101,102]).extract k.val (k.val + 1))=[uX k.val]:=by decide +kernel
 exact this ⟨k,hk⟩
theorem CI {n:Int} (h1:0<=n) (h2:n<=4294967295):IntKind.u32.wrap n=n:=by
 simp [IntKind.wrap,IntKind.min,IntKind.max,IntKind.signed,IntKind.bits];omega
theorem ny (n:Nat):(n:Int).tmod 16=((n % 16:Nat):Int):=by
 rw [Int.tmod_eq_emod_of_nonneg (by omega)];omega
theorem V7 (n:Nat):(n:Int).tdiv 16=((n / 16:Nat):Int):=by
 rw [Int.tdiv_eq_ediv_of_nonneg (by omega)];omega
theorem QK {x:ByteArray} {c:UInt8} {l:List UInt8} (h:x=ba [c]):x ++ ba l=ba (c :: l):=by
 rw [h];exact mS [c] l
abbrev Ym (m:Nat) (l:List UInt8):St:=⟨[(0,⟨[],.v (.int .u32 m)⟩),(3,⟨[],.v (.string (ba l))⟩)],[],[]⟩
theorem QL (n:Nat) (hn:n<=4294967295):EvP prog 361 [.v (.int .u32 n)] (.v (.string (ba (zC n)))):=by
 have hu:∀ m:Nat,m<=4294967295->IntKind.u32.wrap ((m:Int).tdiv 16)=((m / 16:Nat):Int):=fun m h=>by rw [V7,CI (by omega) (by omega)]
 have hr:∀ m:Nat,IntKind.u32.wrap ((m:Int).tmod 16 + 1)=((m % 16:Nat):Int) + 1:=fun m=>by rw [ny,CI (by omega) (by omega)]
 have hlen:=ym hn;refine eG 25 [.tmp 2] func361 rfl ntmps361 rfl fun _ _ _ _=>?_;refine ⟨⟨rfl,by decide⟩,?_⟩;refine ⟨⟨rfl,by decide⟩,?_⟩;refine ⟨⟨by rw [ny];omega,by rw [hr,ny];omega,by rw [hr];show _<=((16:Nat):Int);omega⟩,?_⟩;refine ⟨⟨rfl,by decide⟩,?_⟩;refine aT (fun j st=>∃ (m:Nat) (l:List UInt8),st=Ym m l/\zB m ++ l=zC n/\m<=n/\j=m) (n / 16) (Ym (n / 16) [uX (n % 16)]) (wkM (by repeat' (first | exact trivial | exact aw rfl | exact ay (hu n hn) | exact O2 (CH rfl (by omega) (ny n) (hr n)) | refine ⟨⟨_,rfl,?_⟩,?_⟩))) ⟨n / 16,_,rfl,rfl,by omega,rfl⟩ ?_;rintro m st ⟨_,l,rfl,ht,hm,rfl⟩;refine br ?_ ?_<;>intro hL
 ·have kN:m≠0:=by simp at hL;omega
  have RU:l.length + (zB m).length<=8:=by
   rw [<- ht,List.length_append] at hlen;omega
  rw [Yk kN] at ht;refine ⟨⟨rfl,by decide⟩,?_⟩;refine ⟨⟨rfl,by decide⟩,?_⟩;refine ⟨⟨by rw [ny];omega,by rw [hr,ny];omega,by rw [hr];show _<=((16:Nat):Int);omega⟩,?_⟩;have hx:=CH (s:=ba [48,49,50,51,52,53,54,55,56,57,97,98,99,100,101,102]) rfl (k:=m % 16) (by omega) (ny m) (hr m)
  refine ⟨by
   have h1:(ByteArray.extract (ba [48,49,50,51,52,53,54,55,56,57,97,98,99,100,101,102]) ((m:Int).tmod 16).toNat (IntKind.u32.wrap ((m:Int).tmod 16 + 1)).toNat).size=1:=by rw [hx];all_goals rfl
   have h2:(ba l).size=l.length:=uc l;have h3:∀ a b:Nat,a=1->b<=8->a + b<=9223372036854775807:=by omega
   exact h3 _ _ h1 (by rw [h2];omega),?_⟩
  refine ⟨⟨rfl,by decide⟩,?_⟩;exact ⟨Ym (m / 16) (uX (m % 16) :: l),(wkM (by repeat' (first | exact trivial | exact aw rfl | exact ay (hu m (by omega)) | exact O2 (QK hx) | refine ⟨⟨_,rfl,?_⟩,?_⟩))),m / 16,by omega,m / 16,_,rfl,by rw [<- ht];simp [zC],by omega,rfl⟩
 ·have h0:m=0:=by simp at hL;omega
  subst h0;rw [hexP_0,List.nil_append] at ht;rw [<- ht];exact (rfl:_=_)
def lG (z:Int):List UInt8:=if z=34 then [92,34] else if z=92 then [92,92] else if z=9 then [92,116] else if z=10 then [92,110] else if z=13 then [92,114] else []
theorem Ir (z:Int):EvP prog 359 [.v (.int .i32 z)] (.v (.string (ba (lG z)))):=by
 unfold lG;refine eG 14 [.tmp 2] func359 rfl ntmps359 rfl fun _ _ _ _=>?_;refine br ?_ ?_<;>intro c
 ·rw [ai (sU c)];exact (rfl:_=_)
 rw [ah (sU c)];refine br ?_ ?_<;>intro c
 ·rw [ai (sU c)];exact (rfl:_=_)
 rw [ah (sU c)];refine br ?_ ?_<;>intro c
 ·rw [ai (sU c)];exact (rfl:_=_)
 rw [ah (sU c)];refine br ?_ ?_<;>intro c
 ·rw [ai (sU c)];exact (rfl:_=_)
 rw [ah (sU c)];refine br ?_ ?_<;>intro c
 ·rw [ai (sU c)];exact (rfl:_=_)
 rw [ah (sU c)];exact (rfl:_=_)
theorem Is {z:Int} {u:List UInt8} (h:lG z ≠ []):FA z u=lG z:=by
 unfold FA lG at *
 repeat' split at h
 all_goals simp_all
theorem MA {z:Int} {u:List UInt8} (h:lG z=[]):FA z u=if My z=true then [92,117,123] ++ zC z.toNat ++ [125] else u:=by
 unfold FA lG at *
 repeat' split at h
 all_goals simp_all
theorem CJ:EvP prog 376 [] (.sl 2 Mv none):=by
 refine eG 4 [.tmp 0] func376 rfl ntmps376 rfl fun _ _ _ _=>?_;exact ⟨_,ax,rfl⟩
theorem MB:EvP prog 377 [] (.sl 2 A1 none):=by
 refine eG 6 [.tmp 0] func377 rfl ntmps377 rfl fun _ _ _ _=>?_;exact ⟨_,ax,rfl⟩
theorem FD:EvP prog 378 [] (.sl 2 Mx none):=by
 refine eG 19 [.tmp 0] func378 rfl ntmps378 rfl fun _ _ _ _=>?_;exact ⟨_,ax,rfl⟩
theorem yq:EvP prog 379 [] (.sl 2 Mw none):=by
 refine eG 3 [.tmp 0] func379 rfl ntmps379 rfl fun _ _ _ _=>?_;exact ⟨_,ax,rfl⟩
theorem rN (es:List (List DV)) (z:Int) (hl:es.length<=1000) (hs:es.all spB=true) (m:Int) (ho:srtB m es=true):EvP prog 356 [.sl 2 es none,.v (.int .i32 z)] (.v (.bool (es.any (pJ z)))):=
 (CD es z hl hs).mono fun d _ _ ⟨b,h1,h2⟩=>by rw [h1,h2 m ho]
theorem FE (z:Int):EvP prog 360 [.v (.int .i32 z)] (.v (.bool (My z))):=by
 have hk:Ev prog 373 [.v (.int .i32 z)] [] [] (fun d _ _=>∃ k:Int,d = .v (.int .i64 k)/\(!decide (k=0))=My z):=by
  have h1:=rN Mv z (by decide) (by decide) (-1) (by decide);have h2:=rN A1 z (by decide) (by decide) (-1) (by decide);have h3:=rN Mx z (by decide) (by decide) (-1) (by decide);have h4:=rN Mw z (by decide) (by decide) (-1) (by decide);have hB:My z=(((Mv.any (pJ z) || A1.any (pJ z)) || Mx.any (pJ z)) || Mw.any (pJ z)):=rfl;rw [hB];generalize Mv.any (pJ z)=b1 at h1;generalize A1.any (pJ z)=b2 at h2;generalize Mx.any (pJ z)=b3 at h3;generalize Mw.any (pJ z)=b4 at h4;generalize hT1:Mv=T1 at h1;generalize hT2:A1=T2 at h2;generalize hT3:Mx=T3 at h3;generalize hT4:Mw=T4 at h4;have c1:=CJ;have c2:=MB;have c3:=FD;have c4:=yq;rw [hT1] at c1;rw [hT2] at c2;rw [hT3] at c3;rw [hT4] at c4;refine eG 19 [.tmp 2] func373 rfl ntmps373 rfl fun _ _ _ _=>?_;refine cP ab2 c1 ?_;refine cP z7 h1 ?_
  cases b1 with
  | true=>exact ⟨_,rfl,rfl⟩
  | false=>
  refine cP ab3 c2 ?_;refine cP z7 h2 ?_
  cases b2 with
  | true=>exact ⟨_,rfl,rfl⟩
  | false=>
  refine cP ab4 c3 ?_;refine cP z7 h3 ?_
  cases b3 with
  | true=>exact ⟨_,rfl,rfl⟩
  | false=>
  refine cP ab5 c4 ?_;refine cP z7 h4 ?_
  cases b4 with
  | true=>exact ⟨_,rfl,rfl⟩
  | false=>exact ⟨_,rfl,rfl⟩
 refine eG 6 [.tmp 2] func360 rfl ntmps360 rfl fun _ _ _ _=>?_;refine bE ab1 rfl hk ax (fun q hq=>?_);obtain ⟨k,rfl,hk⟩:=hq;refine (aae ?_:);exact hk
theorem Iu {n:Int} (h1:0<=n) (h2:n<=255):IntKind.u8.wrap n=n:=by
 simp [IntKind.wrap,IntKind.min,IntKind.max,IntKind.signed,IntKind.bits];omega
theorem QM {s:ByteArray} {aG:Nat} (h:aG < s.size):∃ c r,(tx s).drop aG=c :: r/\dE s aG=c.toNat/\r.length + 1 + aG=s.size/\∀ n,n<=r.length + 1->s.extract aG (aG + n)=ba ((c :: r).take n):=by
 have hl:=bB s
 cases hd:(tx s).drop aG with
 | nil=>
  have:=congrArg List.length hd;rw [List.length_drop,List.length_nil] at this;omega
 | cons c r=>
  refine ⟨c,r,rfl,?_,?_,fun n hn=>?_⟩
  ·show ((tx s).getD aG 0).toNat=_
   have:(tx s)[aG]? = some c:=by
    have:=congrArg (fun l=>l[0]?) hd;simpa [List.getElem?_drop] using this
   simp [cH,this]
  ·have:=congrArg List.length hd;rw [List.length_drop,List.length_cons] at this;omega
  ·refine mT ?_;rw [<- hd];simp [tx,List.take_drop]
theorem TO {x y:ByteArray} {c d:UInt8} (hx:x=ba [c]) (hy:y=ba [d]):(ba [92,120] ++ x) ++ y=ba [92,120,c,d]:=by
 rw [hx,hy];exact (congrArg (·++ ba [d]) (mS [92,120] [c])).trans (mS _ _)
theorem TP (l:List UInt8):(ba [92,117,123] ++ ba l) ++ ba [125]=ba ([92,117,123] ++ l ++ [125]):=
 (congrArg (·++ ba [125]) (mS [92,117,123] l)).trans (mS _ _)
theorem Iv {a b:ByteArray} {d:DV} (h:a=b):DV.tup [.v (.string a),d]=DV.tup [.v (.string b),d]:=by rw [h]
set_option maxHeartbeats 1000000 in
theorem Iw (s:ByteArray) (aG:Nat) (hs:s.size<=1099511627776) (h:aG < s.size) :
  EvP prog 342 [.v (.string s),.v (.int .i64 aG)] (.tup [.v (.string (ba (QJ ((tx s).drop aG)))),.v (.int .i64 (lm ((tx s).drop aG):Nat))]):=by
 obtain ⟨c,r,hd,hb,gV,hex⟩:=QM h;have hu:=AZ s aG hs c r hd;rw [hd];have DN:lm (c :: r)=if ov (c :: r)=true then aW c.toNat else 1:=rfl
 have hut:QJ (c :: r)=if ov (c :: r)=true then FA (recV ((c :: r).take (lm (c :: r)))) ((c :: r).take (lm (c :: r))) else [92,120,uX (c.toNat / 16),uX (c.toNat % 16)]:=rfl
 have vc:=Ih (c:=c) (r:=r);have bZ:=fun g=>vx (l:=c :: r) g;have fY:=c.toNat_lt;rw [DN] at hut;rw [DN,hut];generalize ov (c :: r)=ok at hu vc bZ ⊢;refine eG 62 [.tmp 4,.tmp 5] func342 rfl ntmps342 rfl fun _ _ _ _=>?_;refine bE OB rfl hu ax (fun q hq=>?_);obtain ⟨z,n,rfl,hn,hp⟩:=hq;refine br (fun g=>absurd g (by simp;omega)) (fun _=>?_)
 cases ok with
 | false=>
  rw [ah (by simp),ah (by simp)];have e1:IntKind.u8.wrap ((c.toNat:Int).tdiv 16)=((c.toNat / 16:Nat):Int):=by rw [V7,Iu (by omega) (by omega)]
  have e2:IntKind.u8.wrap (((c.toNat / 16:Nat):Int) + 1)=((c.toNat / 16:Nat):Int) + 1:=Iu (by omega) (by omega);have e3:IntKind.u8.wrap (((c.toNat % 16:Nat):Int) + 1)=((c.toNat % 16:Nat):Int) + 1:=Iu (by omega) (by omega);refine ⟨⟨by omega,by omega⟩,?_⟩;rw [show dE s ((aG:Int)).toNat=c.toNat from hb];have x1:=CH (s:=ba [48,49,50,51,52,53,54,55,56,57,97,98,99,100,101,102]) rfl (k:=c.toNat / 16) (by omega) e1 ((congrArg (fun z=>IntKind.u8.wrap (z + 1)) e1).trans e2);have x2:=CH (s:=ba [48,49,50,51,52,53,54,55,56,57,97,98,99,100,101,102]) rfl (k:=c.toNat % 16) (by omega) (ny c.toNat) ((congrArg (fun z=>IntKind.u8.wrap (z + 1)) (ny c.toNat)).trans e3);have l1:=congrArg ByteArray.size x1;have l2:=congrArg ByteArray.size x2;rw [uc] at l1 l2;refine dI ?_;refine ⟨⟨rfl,by decide⟩,?_⟩;refine ⟨⟨rfl,by decide⟩,?_⟩;refine ⟨⟨by rw [e1];omega,by rw [e1,e2];omega,by rw [e1,e2];show _<=((16:Nat):Int);omega⟩,?_⟩;refine ⟨Nat.le_trans (Nat.le_of_eq (congrArg (2 + ·) l1)) (by show 2 + 1<=9223372036854775807;decide),?_⟩;refine ⟨⟨rfl,by decide⟩,?_⟩;refine ⟨⟨rfl,by decide⟩,?_⟩;refine ⟨⟨by rw [ny];omega,by rw [ny,e3];omega,by rw [ny,e3];show _<=((16:Nat):Int);omega⟩,?_⟩;refine ⟨by rw [jM];exact Nat.le_trans (Nat.le_of_eq (congr (congrArg HAdd.hAdd (congrArg (2 + ·) l1)) l2)) (by show 2 + 1 + 1<=9223372036854775807;decide),?_⟩;refine ⟨.tup [.v (.string _),.v (.int .i64 _)],ax,?_⟩;exact Iv (TO x1 x2)
 | true=>
  obtain ⟨rfl,hz⟩:=hn rfl;have hnn:=KH (vc rfl);rw [<- hz] at hnn;obtain ⟨_,_,hcr,h1,h2,_⟩:=bZ rfl;injection hcr with N7 pf
  subst N7 pf;rw [List.length_cons] at h2;rw [ai rfl,ai rfl,<- hz];refine cP abW (Ir z) ?_;refine br ?_ ?_<;>intro g
  ·have aQ:lG z ≠ []:=by
    intro e;rw [e] at g;simp at g
   rw [Is aQ];exact ⟨_,ax,rfl⟩
  ·have he:lG z=[]:=by
    by_cases e:lG z=[]
    ·exact e
    ·exfalso;simp at g;exact e g
   rw [MA he];refine cP abX (FE z) ?_
   cases My z with
   | true=>
    rw [ai rfl];have hz32:IntKind.u32.wrap z=(z.toNat:Nat):=by rw [CI (by omega) (by omega)];omega
    have hx:=QL z.toNat (by omega);rw [<- hz32] at hx;have hl:=ym (n:=z.toNat) (by omega);refine cP abY hx ?_;refine ⟨by show 3 + (zC z.toNat).length<=_;omega,?_⟩;refine ⟨by rw [jM];show 3 + (zC z.toNat).length + 1<=_;omega,?_⟩;refine ⟨.tup [.v (.string _),.v (.int .i64 _)],ax,?_⟩;exact Iv (TP _)
   | false=>
    rw [ah (by simp)];have hw:IntKind.i64.wrap ((aG:Int) + (aW c.toNat:Nat))=((aG + aW c.toNat:Nat):Int):=by rw [wrap64 (by omega) (by omega)];omega
    refine ⟨⟨by omega,by rw [hw];omega,by rw [hw];omega⟩,?_⟩;refine ⟨.tup [.v (.string _),.v (.int .i64 _)],ax,?_⟩;refine Iv ?_;rw [hw];exact hex _ (by omega)
theorem CK {s:ByteArray} {e:Nat} (h:¬ e < s.size):(tx s).drop e=[]:=List.drop_of_length_le (by rw [bB];omega)
theorem QN {s:ByteArray} {e:Nat} (h:e < s.size):ph ((tx s).drop e).length ((tx s).drop e)=QJ ((tx s).drop e) ++ ph ((tx s).drop (e + lm ((tx s).drop e))).length ((tx s).drop (e + lm ((tx s).drop e))) /\
  1<=lm ((tx s).drop e)/\e + lm ((tx s).drop e)<=s.size:=by
 have aQ:(tx s).drop e ≠ []:=by
  intro hc;have:=congrArg List.length hc;rw [List.length_drop,bB,List.length_nil] at this;omega
 obtain ⟨h1,h2⟩:=rL aQ;rw [List.length_drop,bB] at h2;refine ⟨?_,h1,by omega⟩;rw [Mz aQ,List.drop_drop]
abbrev adG (s:ByteArray) (l:List UInt8) (p:DV) (e:Nat):St:=
 ⟨[(0,⟨[],.v (.string s)⟩),aab 3 0,aaa 4 e],[[p,.sl 1 (bD l) (some 0)]],[⟨l.length,5,1,none⟩]⟩
theorem Ix (s:ByteArray) (hs:s.size<=1099511627776):EvP prog 310 [.v (.string s)] (.v (.string (ba (yo (tx s))))):=by
 have hlen:=yp (tx s);rw [bB] at hlen;refine mI (s:=false) (bt:=[(0,160)]) (hbt:=fun p hp=>Nat.zero_le _) (P:=prog) tt jC 5000 25 [.tmp 2] func310 rfl ntmps310 rfl (nL rfl) (fun _ _ _ _=>?_);refine Fy ⟨0,5,1,none⟩ ⟨[(0,⟨[],.v (.string s)⟩),aab 3 0],[[.v (.pointer none),.sl 1 [] (some 0)]],[⟨0,5,1,none⟩]⟩ rfl ⟨_,_,rfl,aw rfl,_,_,rfl,aw rfl,rfl⟩ rfl ⟨_,_,rfl,⟨_,_,rfl,aw rfl,_,_,rfl,cw (aO _) rfl,rfl⟩,rfl⟩ ⟨⟨_,rfl,aw rfl⟩,⟨_,rfl,aw rfl⟩,trivial⟩ rfl rfl ?_;refine KG (c:=34) (kt:=0) (l:=[]) rfl rfl (.head _) rfl (.inl rfl) rfl (by decide) rfl ?_;refine lI (fun j st=>∃ (e:Nat) (l:List UInt8),st=adG s l (.loc 0 0) e/\e<=s.size/\l ≠ []/\yo (tx s)=l ++ (ph ((tx s).drop e).length ((tx s).drop e) ++ [34])/\j=s.size - e) ⟨0,[34],rfl,by omega,by simp,by rw [List.drop_zero];rfl,rfl⟩ (wkM kr) ?_;rintro _ st ⟨e,l,rfl,he,aQ,hq,rfl⟩;have zy:=congrArg List.length hq;rw [List.length_append,List.length_append] at zy;refine br ?_ ?_<;>intro hL
 ·have aq:e < s.size:=by simp at hL;omega
  obtain ⟨aR,h1,h2⟩:=QN aq;have hu:=Iw s e hs aq;rw [aR] at hq zy;rw [List.length_append] at zy;generalize hU:QJ ((tx s).drop e)=U at hu hq zy;generalize hN:lm ((tx s).drop e)=n at hu hq zy h1 h2;have hw:IntKind.i64.wrap ((e:Int) + (n:Nat))=((e + n:Nat):Int):=by rw [wrap64 (by omega) (by omega)];omega
  refine cP abS hu ?_;refine iF rfl (l ++ U) (l:=l) (kt:=0) rfl (.head _) rfl (.inr rfl) rfl (by simp [aQ]) (by rw [List.length_append];omega) rfl (fun n9=>?_);exact ⟨adG s (l ++ U) (.loc 0 0) (e + n),(wkM (wB1 hw)),s.size - (e + n),by omega,e + n,_,rfl,h2,by simp [aQ],by rw [hq];simp only [List.append_assoc],rfl⟩
 ·have aS:¬ e < s.size:=by simp at hL;omega
  rw [CK aS] at hq zy;refine KG (c:=34) (kt:=0) (l:=l) rfl rfl (.head _) rfl (.inr rfl) rfl (by simp only [List.length_nil,List.length_cons] at zy;omega) rfl ?_;refine vA rfl (kt:=0) (l:=l ++ [34]) (.head _) rfl (by simp) (by simp) rfl rfl rfl ?_;rw [hq];exact (rfl:_=_)
mutual
def sameV:Val->Val->Bool
 | .mk k n s ks,.mk k' n' s' FG=>decide (k=k') && decide (n=n') && decide (s=s') && sameVs ks FG
def sameVs:List Val->List Val->Bool
 | [],[]=>true
 | v :: r,w :: q=>sameV v w && sameVs r q
 | _,_=>false
end
theorem qp:∀ {a b:List Val},a.length≠b.length->sameVs a b=false
 | [],[],h=>(h rfl).elim
 | v :: r,w :: q,h=>by rw [sameVs,qp (a:=r) (b:=q) (sU h),Bool.and_false]
 | [],_ :: _,_=>by simp [sameVs]
 | _ :: _,[],_=>by simp [sameVs]
mutual
theorem A2:∀ {a b:Val},sameV a b=true↔a=b
 | .mk k n s ks,.mk k' n' s' FG=>by
  have:=@yr ks FG;simp only [sameV,aD,decide_eq_true_eq,this,Val.mk.injEq,and_assoc]
theorem yr:∀ {a b:List Val},sameVs a b=true↔a=b
 | [],[]=>by simp [sameVs]
 | v :: r,w :: q=>by
  have h1:=@A2 v w;have h2:=@yr r q;simp only [sameVs,aD,h1,h2,List.cons.injEq]
 | [],_ :: _=>by simp [sameVs]
 | _ :: _,[]=>by simp [sameVs]
end
theorem yt (v:Val):sameV v v=true:=A2.2 rfl
abbrev V8 (a b:List Val) (g e:Nat):St:=
 ⟨[aad 1 4 (dVals b),(2,⟨[],.fn g [] []⟩),aad 15 4 (dVals a),aaa 16 ((dVals a).length),aaa 17 e],[],[]⟩
theorem FH (g:Nat) (j2:Enters prog g) (a b:List Val) (hs:cO a<=1099511627776)
  (hF:∀ x∈a,∀ y,EvP prog g [.agg (aH x),.agg (aH y)] (.v (.bool (sameV x y)))) :
  EvP prog 209 [.sl 4 (dVals a) none,.sl 4 (dVals b) none,.fn g [] []] (.v (.bool (sameVs a b))):=by
 have NP:=b9 a;have h1:=aP a;have h2:=aP b;refine eG 32 [.tmp 6] func209 rfl ntmps209 rfl fun _ _ _ _=>?_;refine br ?_ ?_<;>intro h
 ·have aQ:a.length≠b.length:=by have:=h;simp [h1,h2] at this;omega
  exact congrArg (fun b=>DV.v (.bool b)) (qp aQ).symm
 ·have hl:a.length=b.length:=by have:=h;simp [h1,h2] at this;omega
  refine aT (fun j st=>∃ e:Nat,st=V8 a b g e/\e<=a.length/\sameVs a b=sameVs (a.drop e) (b.drop e)/\j=a.length - e) a.length
   (V8 a b g 0) (wkM wB) ⟨0,rfl,by omega,rfl,by omega⟩ ?_
  rintro j st ⟨e,rfl,he,aK,rfl⟩;refine br ?_ ?_<;>intro h
  ·have aq:e < a.length:=sV h1 h;obtain ⟨x,hx⟩:=gX aq;obtain ⟨y,hy⟩:∃ y,b[e]? = some y:=⟨_,gE (hl ▸ aq)⟩;rw [drop_cons hx,drop_cons hy,sameVs] at aK;have Se:=hF x (mG hx) y;obtain ⟨xk,xn,xs,xl⟩:=x;obtain ⟨yk,yn,ys,yl⟩:=y;refine iX (bf hx) ?_;refine iX (bf hy) ?_;refine cP j2 Se ?_;refine br ?_ ?_<;>intro h
   ·have aQ:sameV (.mk xk xn xs xl) (.mk yk yn ys yl)=false:=sU h;refine (aae ?_:);rw [aK,aQ,Bool.false_and]
   ·have aQ:sameV (.mk xk xn xs xl) (.mk yk yn ys yl)=true:=sU h;rw [aQ,Bool.true_and] at aK;exact rE ⟨_,by omega,e + 1,rfl,by omega,aK,rfl⟩ (wkM (wB1 (nxt aq (by omega))))
  ·have aS:e=a.length:=sW h1 h;rw [List.drop_of_length_le (by omega),List.drop_of_length_le (by omega)] at aK;refine (aae ?_:);rw [aK];simp [sameVs]
theorem qq:∀ (k:Nat) (a:Val),a.wt<=k->a.wt<=1099511627776->∀ b:Val,EvP prog 128 [.agg (aH a),.agg (aH b)] (.v (.bool (sameV a b)))
 | 0,v,h,_=>by have:=v.dz;omega
 | k + 1,.mk q n s ks,h,hb=>fun b=>by
  have ih:=qq k;rw [Val.wt] at h hb;obtain ⟨bk,bn,bs,bl⟩:=b
  have he:=FH 128 Oj ks bl (by omega) fun x hx y=>by
   have:=cS hx;exact ih x (by omega) (by omega) y
  rw [sameV];refine eG 31 [.tmp 4] func128 rfl ntmps128 rfl fun _ _ _ _=>?_;refine br ?_ ?_<;>intro c
  ·have c:pickB (pickB (decide (q=bk)) (decide (n=bn)) false) (decide (s=bs)) false=true:=sU c;refine cP abe he ?_;refine (aae ?_:);simp only [pickB_and] at c ⊢;rw [c]
  ·have c:pickB (pickB (decide (q=bk)) (decide (n=bn)) false) (decide (s=bs)) false=false:=sU c;refine (aae ?_:);simp only [pickB_and] at c ⊢;rw [c];all_goals rfl
def A3 (n:Nd) (v:Val):Bool:=
 if 0 < v.ks.length∨(v.k≠3/\v.s≠au)∨(v.k=3/\v.n≠0) then false
 else if n.ag=1 then decide (v.k=1) && (decide (v.n=0) || decide (v.n=1))
 else if n.ag=2 then decide (v.k=2) && decide (n.lo<=v.n) && decide (v.n<=n.hi)
 else if n.ag=3 then decide (v.k=3) && decide ((v.s.size:Int)<=n.most)
 else decide (v.k=4) && decide (0<=v.n) && decide (v.n < n.af.length)
def eM (v:Val):Bool:=decide (v.s=au) && (decide (v.n=0) || decide (v.k=8))
def to0 (n:Nd):Int:=match n.av[0]? with | some e=>e.to | none=>0
def pj (n:Nd) (v:Val):Option Ed:=if v.k=8/\0<=v.n/\v.n < n.av.length then n.av[v.n.toNat]? else none
def kidsL (n:Nd) (v:Val):List Int:=
 if n.ag=5∨n.ag=6 then List.replicate v.ks.length (to0 n)
 else if n.ag=7 then n.av.map Ed.to
 else match pj n v with | none=>[] | some e=>if e.bare=true then [] else [e.to]
def eu (n:Nd) (v:Val):Bool:=
 if n.ag=5∨n.ag=6 then eM v && decide (v.k=n.ag) && decide ((v.ks.length:Int)<=if n.ag=6 then 1 else n.most)
 else if n.ag=7 then eM v && decide (v.k=7) && decide (n.av.length=v.ks.length)
 else match pj n v with | none=>false | some _=>eM v && decide ((kidsL n v).length=v.ks.length)
def cT (ND:List Nd) (i:Int):Option Nd:=if i < 0 then none else ND[i.toNat]?
mutual
def fitV (ND:List Nd):Val->Int->Bool
 | .mk k n s ks,i=>match cT ND i with
  | none=>false
  | some d=>if d.ag < 5 then A3 d (.mk k n s ks) else eu d (.mk k n s ks) && fitVs ND ks (kidsL d (.mk k n s ks))
def fitVs (ND:List Nd):List Val->List Int->Bool
 | v :: r,i :: l=>fitV ND v i && fitVs ND r l
 | _,_=>true
end
def KI (n:Nd) (v:Val) (j:Nat):Int:=
 if n.ag=5 then (if (j:Int) < n.most then to0 n else -1)
 else if n.ag=6 then (if j < 1 then to0 n else -1)
 else if n.ag=7 then (match n.av[j]? with | some e=>e.to | none=>-1)
 else if n.ag=8 then (if j < 1/\0<=v.n/\v.n < n.av.length then (match n.av[v.n.toNat]? with | some e=>e.to | none=>-1) else -1)
 else -1
def yu (n:Nd) (v:Val):Bool:=decide (v.k≠n.ag) || (decide (v.k≠3) && decide (v.s≠au)) || (decide (0 < v.s.size) && decide (n.most < (v.s.size:Int)))
def FI (n:Nd) (v:Val):Bool:=
 if n.ag=1 then decide (v.n=0) || decide (v.n=1)
 else if n.ag=2 then decide (n.lo<=v.n) && decide (v.n<=n.hi)
 else if n.ag=4 then decide (0<=v.n) && decide (v.n < n.af.length)
 else if n.ag=7 then decide (v.n=0) && decide (v.ks.length=n.av.length)
 else if n.ag=8 then (if 0<=v.n/\v.n < n.av.length then (match n.av[v.n.toNat]? with | some e=>decide (decide (v.ks.length=0)=e.bare) | none=>false) else false)
 else decide (v.n=0)
mutual
def yv (ND:List Nd):Val->Int->Bool
 | .mk k n s ks,i=>match cT ND i with
  | none=>false
  | some d=>if yu d (.mk k n s ks)=true then false else FI d (.mk k n s ks) && refVs ND ks (KI d (.mk k n s ks)) 0
def refVs (ND:List Nd):List Val->(Nat->Int)->Nat->Bool
 | [],_,_=>true
 | v :: r,f,j=>yv ND v (f j) && refVs ND r f (j + 1)
end
theorem A4 (ND:List Nd) (v:Val):yv ND v (-1)=false:=by
 obtain ⟨k,n,s,ks⟩:=v;rw [yv];rfl
theorem Iy {ND:List Nd}:∀ {ks:List Val} {f:Nat->Int} {j:Nat},f j = -1->refVs ND ks f j=decide (ks=[])
 | [],f,j,h=>by simp [refVs]
 | v :: r,f,j,h=>by rw [refVs,h,A4];simp
theorem ow {ND:List Nd}:∀ {ks:List Val} {f:Nat->Int} {l:List Int} {j:Nat},(∀ v∈ks,∀ i,fitV ND v i=yv ND v i)->l.length=ks.length->(∀ e i,l[e]? = some i->f (j + e)=i)->refVs ND ks f j=fitVs ND ks l
 | [],f,[],j,_,_,_=>by simp [refVs,fitVs]
 | v :: r,f,i :: l,j,ih,hl,h=>by
  have h0:=h 0 i rfl;rw [Nat.add_zero] at h0
  rw [refVs,fitVs,h0,ih v (by simp) i,ow (fun x hx=>ih x (by simp [hx])) (sU hl) fun e i' he=>by
   have:=h (e + 1) i' (sU he)
   rwa [show j + 1 + e=j + (e + 1) by omega]]
 | [],f,_ :: _,j,_,hl,_=>by simp at hl
 | _ :: _,f,[],j,_,hl,_=>by simp at hl
theorem o9 {ND:List Nd}:∀ {ks:List Val} {f:Nat->Int} {j m:Nat},j<=m->f m = -1->m < j + ks.length->refVs ND ks f j=false
 | [],f,j,m,h1,_,h3=>by simp at h3;omega
 | v :: r,f,j,m,h1,h2,h3=>by
  rw [refVs];by_cases h:j=m
  ·subst h;rw [h2,A4];all_goals rfl
  ·rw [o9 (m:=m) (by omega) h2 (by simp at h3;omega),Bool.and_false]
theorem QO {L:Nat} {ND:List Nd} {d:Nd} (hd:eD L ND.length d) (v:Val) (ih:∀ x∈v.ks,∀ i,fitV ND x i=yv ND x i) :
  (if d.ag < 5 then A3 d v else eu d v && fitVs ND v.ks (kidsL d v))=if yu d v=true then false else FI d v && refVs ND v.ks (KI d v) 0:=by
 have mM:=hd.k1;have A5:=hd.k8;have he:(au:ByteArray).size=0:=rfl;have hse:v.s=au->v.s.size=0:=fun h=>by rw [h];all_goals rfl
 by_cases h5:d.ag < 5
 ·rw [ai h5]
  have kP:KI d v 0 = -1:=by
   unfold KI;rw [ah (by omega),ah (by omega),ah (by omega),ah (by omega)]
  rw [Iy kP];unfold A3 yu FI;have hif:∀ (P:Prop) [Decidable P] (b:Bool),(if P then false else b)=(!decide P && b):=fun P _ b=>by split<;>simp_all
  have KJ:(0 < v.ks.length)↔v.ks ≠ []:=List.length_pos_iff;have hif2:∀ (P b:Bool),(if P=true then false else b)=(!P && b):=fun P b=>by cases P<;>rfl
  rw [hif2,hif];have V9:=hd.VW;have kg:=hd.VY;rw [Bool.eq_iff_iff];rcases (show d.ag=1∨d.ag=2∨d.ag=3∨d.ag=4 by omega) with c | c | c | c
  all_goals
   by_cases hs:v.s=au
   ·have:=hse hs;by_cases hk:v.ks=[]
    ·simp [c,hs,hk,he]
     first | omega | done
    ·simp [c,hs,hk,he]
   ·by_cases hk:v.ks=[]
    ·have hs':¬ v.s=ByteArray.empty:=hs;simp [c,hs,hk,hs']
     first | omega | done
    ·simp [c,hs,hk]
 rw [ah h5];rcases Decidable.em (¬ v.k=d.ag) with QP | QP
 ·have hb:yu d v=true:=by simp [yu,QP]
  rw [ai hb];unfold eu;by_cases c:d.ag=5∨d.ag=6
  ·rw [ai c];simp [QP]
  rw [ah c];by_cases c7:d.ag=7
  ·rw [ai c7];have:¬ v.k=7:=by omega
   simp [this]
  rw [ah c7];have:pj d v=none:=by unfold pj;rw [ah (by omega)]
  rw [this];all_goals rfl
 have QP:v.k=d.ag:=Decidable.not_not.1 QP;rcases Decidable.em (¬ v.s=au) with hs | hs
 ·have hb:yu d v=true:=by simp [yu,hs,QP];left;omega
  have hp:eM v=false:=by simp [eM,hs]
  rw [ai hb];unfold eu;rw [hp];split
  ·simp
  ·split
   ·simp
   ·split<;>simp
 have hs:v.s=au:=Decidable.not_not.1 hs
 have hb:yu d v=false:=by
  have:=hse hs;simp [yu,QP,hs,he]
 rw [ah (by rw [hb];simp)];by_cases c5:d.ag=5
 ·have hm:=hd.VX c5
  have bZ:FI d v=decide (v.n=0):=by
   unfold FI;rw [ah (by omega),ah (by omega),ah (by omega),ah (by omega),ah (by omega)]
  have Ls:eu d v=(decide (v.n=0) && decide ((v.ks.length:Int)<=d.most)):=by
   unfold eu eM;rw [ai (.inl c5),ah (by omega)];simp [hs,QP,c5]
  have ir:kidsL d v=List.replicate v.ks.length (to0 d):=by unfold kidsL;rw [ai (.inl c5)]
  rw [bZ,Ls,ir];by_cases fQ:(v.ks.length:Int)<=d.most
  ·rw [ow (l:=List.replicate v.ks.length (to0 d)) ih (by simp) fun e i he=>by
    have aq:e < v.ks.length:=by
     have:=(gS he).1;simpa using this
    rw [List.getElem?_replicate,ai aq] at he;simp only [oI] at he;unfold KI
    rw [ai c5,ai (by omega),he]]
   simp [fQ]
  ·rw [o9 (m:=d.most.toNat) (by omega) (by unfold KI;rw [ai c5,ah (by omega)]) (by omega)];simp [fQ]
 by_cases c6:d.ag=6
 ·have bZ:FI d v=decide (v.n=0):=by
   unfold FI;rw [ah (by omega),ah (by omega),ah (by omega),ah (by omega),ah (by omega)]
  have Ls:eu d v=(decide (v.n=0) && decide (v.ks.length<=1)):=by
   unfold eu eM;rw [ai (.inr c6),ai c6];have:((v.ks.length:Int)<=1)↔v.ks.length<=1:=by omega
   simp [hs,QP,c6,this]
  have ir:kidsL d v=List.replicate v.ks.length (to0 d):=by unfold kidsL;rw [ai (.inr c6)]
  rw [bZ,Ls,ir];by_cases fQ:v.ks.length<=1
  ·rw [ow (l:=List.replicate v.ks.length (to0 d)) ih (by simp) fun e i he=>by
    have aq:e < v.ks.length:=by
     have:=(gS he).1;simpa using this
    rw [List.getElem?_replicate,ai aq] at he;simp only [oI] at he;unfold KI
    rw [ah c5,ai c6,ai (by omega),he]]
   simp [fQ]
  ·rw [o9 (m:=1) (by omega) (by unfold KI;rw [ah c5,ai c6,ah (by omega)]) (by omega)];simp [fQ]
 by_cases c7:d.ag=7
 ·have bZ:FI d v=(decide (v.n=0) && decide (v.ks.length=d.av.length)):=by
   unfold FI;rw [ah (by omega),ah (by omega),ah (by omega),ai c7]
  have Ls:eu d v=(decide (v.n=0) && decide (v.ks.length=d.av.length)):=by
   unfold eu eM;rw [ah (by omega),ai c7];have:(d.av.length=v.ks.length)↔(v.ks.length=d.av.length):=eq_comm;simp [hs,QP,c7,this]
  have ir:kidsL d v=d.av.map Ed.to:=by unfold kidsL;rw [ah (by omega),ai c7]
  rw [bZ,Ls,ir];by_cases fQ:v.ks.length=d.av.length
  ·rw [ow (l:=d.av.map Ed.to) ih (by simp [fQ]) fun e i he=>by
    rw [List.getElem?_map] at he;unfold KI;rw [ah c5,ah c6,ai c7,Nat.zero_add]
    cases hx:d.av[e]? with
    | none=>rw [hx] at he;cases he
    | some x=>rw [hx] at he;simpa using he]
  ·simp [fQ]
 have c8:d.ag=8:=by omega
 have bZ:FI d v=(if 0<=v.n/\v.n < d.av.length then (match d.av[v.n.toNat]? with | some e=>decide (decide (v.ks.length=0)=e.bare) | none=>false) else false):=by
  unfold FI;rw [ah (by omega),ah (by omega),ah (by omega),ah c7,ai c8]
 rcases Decidable.em (¬ (0<=v.n/\v.n < d.av.length)) with hr | hr
 ·have ht:pj d v=none:=by unfold pj;rw [ah (fun h=>hr h.2)]
  have Ls:eu d v=false:=by unfold eu;rw [ah (by omega),ah c7,ht]
  rw [Ls,bZ,ah hr];all_goals rfl
 have hr:0<=v.n/\v.n < d.av.length:=Decidable.not_not.1 hr;obtain ⟨e,hx⟩:∃ e,d.av[v.n.toNat]? = some e:=⟨_,gE (by omega)⟩;have ht:pj d v=some e:=by unfold pj;rw [ai ⟨by omega,hr⟩,hx]
 have ir:kidsL d v=if e.bare=true then [] else [e.to]:=by unfold kidsL;rw [ah (by omega),ah c7,ht]
 have Ls:eu d v=decide ((kidsL d v).length=v.ks.length):=by
  unfold eu;rw [ah (by omega),ah c7,ht];have hp:eM v=true:=by simp [eM,hs,QP,c8]
  simp only [hp,Bool.true_and]
 have htr:∀ j,KI d v j=if j < 1 then e.to else -1:=fun j=>by
  unfold KI;rw [ah c5,ah c6,ah c7,ai c8,hx];by_cases hj:j < 1
  ·rw [ai ⟨hj,hr⟩,ai hj]
  ·rw [ah (fun h=>hj h.1),ah hj]
 rw [Ls,bZ,ai hr,hx,ir];simp only
 cases hbr:e.bare with
 | true=>
  simp only [if_true];by_cases hl:v.ks.length=0
  ·have QQ:=List.eq_nil_of_length_eq_zero hl;rw [QQ];simp [fitVs,refVs]
  ·have:decide (([]:List Int).length=v.ks.length)=false:=decide_eq_false fun h=>hl (by simpa using h.symm);rw [this];simp [hl]
 | false=>
  simp only [Bool.false_eq_true,if_false];by_cases hl:v.ks.length=1
  ·rw [ow (l:=[e.to]) ih (by simp [hl]) fun j i he=>by
    have hj:j < 1:=by have:=(gS he).1;simpa using this
    have:j=0:=by omega
    subst this;rw [htr]
    simpa using he]
   simp [hl]
  ·have h1:¬ ([e.to]:List Int).length=v.ks.length:=by simpa using fun h=>hl h.symm
   by_cases hz:v.ks.length=0
   ·simp [hz]
   ·rw [o9 (m:=1) (by omega) (by rw [htr];simp) (by omega)];simp only [Bool.and_false];have:decide (([e.to]:List Int).length=v.ks.length)=false:=by simpa using fun h=>hl h.symm
    rw [this];all_goals rfl
mutual
theorem QR {L:Nat} {ND:List Nd} (bZ:∀ n∈ND,eD L ND.length n):∀ (v:Val) (i:Int),fitV ND v i=yv ND v i
 | .mk k n s ks,i=>by
  have ih:=KK bZ ks;rw [fitV,yv];unfold cT;split
  ·rfl
  ·rename_i h;split at h
   ·cases h
   ·exact QO (bZ _ (mG h)) (.mk k n s ks) ih
theorem KK {L:Nat} {ND:List Nd} (bZ:∀ n∈ND,eD L ND.length n):∀ (ks:List Val),∀ x∈ks,∀ i:Int,fitV ND x i=yv ND x i
 | [],x,hx,_=>by cases hx
 | v :: r,x,hx,i=>by
  rcases bp hx with hx | hx
  ·rw [hx];exact QR bZ v i
  ·exact KK bZ r x hx i
end
def pk (l:List Int):List (List DV):=l.map fun z=>[DV.v (.int .i64 z)]
theorem lp (l:List Int):(pk l).length=l.length:=by simp [pk]
theorem rO {l:List Int} {i:Nat} {z:Int} (h:l[i]? = some z):(pk l)[i]? = some [DV.v (.int .i64 z)]:=by simp [pk,h]
theorem rP (l:List Int) (z:Int):pk l ++ [[DV.v (.int .i64 z)]]=pk (l ++ [z]):=by simp [pk]
theorem tE:(⟨#[]⟩:ByteArray)=au:=rfl
theorem MC (n:Nd) (v:Val):EvP prog 137 [.agg (jt n),.agg (aH v)] (.v (.bool (A3 n v))):=by
 have hbl:=cr n.af;obtain ⟨ag,aG,lo,hi,most,af,es⟩:=n;obtain ⟨q,z,s,ks⟩:=v;have bz:=aP ks;simp only at hbl
 have hF:A3 ⟨ag,aG,lo,hi,most,af,es⟩ (.mk q z s ks)=if 0 < ks.length∨(q≠3/\s≠au)∨(q=3/\z≠0) then false
  else if ag=1 then decide (q=1) && (decide (z=0) || decide (z=1))
  else if ag=2 then decide (q=2) && decide (lo<=z) && decide (z<=hi)
  else if ag=3 then decide (q=3) && decide ((s.size:Int)<=most)
  else decide (q=4) && decide (0<=z) && decide (z < af.length):=rfl
 have hc:∀ b:Bool,b=pickB (pickB (decide (0 < ((dVals ks).length:Int))) true (pickB (!decide (q=3)) (!decide (s=⟨#[]⟩)) false)) true (pickB (decide (q=3)) (!decide (z=0)) false)->b=decide (0 < ks.length∨(q≠3/\s≠au)∨(q=3/\z≠0)):=fun b h=>by
  rw [h,bz,tE,Bool.eq_iff_iff];simp [ap,pickB_and,or_assoc]
 rw [hF];refine eG 94 [.tmp 4] func137 rfl ntmps137 rfl fun _ _ _ _=>?_;refine br ?_ ?_<;>intro c
 ·have c:=of_decide_eq_true ((hc _ rfl).symm.trans c);rw [ai c];exact (rfl:_=_)
 have c:=of_decide_eq_false ((hc _ rfl).symm.trans c);rw [ah c];refine br ?_ ?_<;>intro c1
 ·have c1:ag=1:=sU c1;refine (aae ?_:);simp [c1,pickB_and,ap]
 have c1:¬ ag=1:=sU c1;refine br ?_ ?_<;>intro c2
 ·have c2:ag=2:=sU c2;refine (aae ?_:);simp [c2,pickB_and,ap]
 have c2:¬ ag=2:=sU c2;refine br ?_ ?_<;>intro c3
 ·have c3:ag=3:=sU c3;refine (aae ?_:);simp [c3,pickB_and,ap]
 have c3:¬ ag=3:=sU c3;refine (aae ?_:);simp [c1,c2,c3,pickB_and,ap,hbl]
abbrev Wa (n:Nd) (v:Val) (l:List Int) (p:Bool) (kd mo:Int) (q e:Nat):St:=
 ⟨[aab 2 0,aab 3 1,(6,⟨[],.sl 1 (pk l) (some 0)⟩),aap 7 p,aaa 8 kd,aaa 9 mo,aaa 38 v.ks.length,aaa 39 e],[jt n,aH v],[⟨q,3,1,none⟩]⟩
abbrev adI (n:Nd) (v:Val) (l:List Int) (p:Bool) (q e:Nat):St:=
 ⟨[aab 2 0,aab 3 1,(6,⟨[],.sl 1 (pk l) (some 0)⟩),aap 7 p,aad 67 10 (fU n.av),aaa 68 ((fU n.av).length),aaa 69 e],[jt n,aH v],[⟨q,3,1,none⟩]⟩
theorem MD {L N:Nat} {n:Nd} (hn:eD L N n) (h5:5<=n.ag) (v:Val) (hv:v.wt<=1099511627776) :
  EvP prog 138 [.agg (jt n),.agg (aH v)] (.tup [.sl 1 (pk (kidsL n v)) none,.v (.bool (eu n v))]):=by
 have A5:=hn.k8;have tF:=hn.one;have uu:=hn.many;obtain ⟨ag,aG,lo,hi,most,af,es⟩:=n;obtain ⟨q,z,s,ks⟩:=v;have bz:=aP ks;have kL:=cm es;have ir:=b9 ks;rw [Val.wt] at hv;simp only at A5 h5 tF uu
 have hp:∀ b:Bool,b=pickB (decide (s=⟨#[]⟩)) (pickB (decide (z=0)) true (decide (q=8))) false->b=eM (.mk q z s ks):=fun b h=>by
  rw [h];rw [pickB_and,ap,tE];all_goals rfl
 refine eG 134 [.tmp 4,.tmp 5] func138 rfl ntmps138 rfl fun _ _ _ _=>?_;refine br ?_ ?_<;>intro c
 ·have c:ag=5:=sU c;have Yn:ag=5∨ag=6:=.inl c;obtain ⟨x,iq,_,_⟩:=tF Yn;refine br (fun _=>?_) (fun h=>absurd h (by simp [c]));refine dI ?_;refine br (fun h=>absurd h (by simp [c])) (fun _=>?_);obtain ⟨kd,mo,h1,h2,h3,h4⟩:∃ kd mo:Int,5=kd/\most=mo/\kd=ag/\mo=(if ag=6 then 1 else most):=⟨5,most,rfl,rfl,c.symm,by rw [ah (by omega)]⟩;have vR:(fU es)[0]? = some (uV x):=by rw [iq];all_goals rfl
  have ht0:to0 ⟨ag,aG,lo,hi,most,af,es⟩=x.to:=by simp [to0,iq]
  refine lJ (fun e=>Wa ⟨ag,aG,lo,hi,most,af,es⟩ (.mk q z s ks) (List.replicate e x.to) (eM (.mk q z s ks)) kd mo e e) ks.length (dT 2 ⟨0,3,1,none⟩ rfl rfl rfl (by repeat' (first | exact rfl | exact aw rfl | exact cq (hp _ rfl) | exact ay h1 | exact ay h2 | exact ay (congrArg Nat.cast bz) | exact cw (aO _) rfl | exact cw (aO _) rfl | refine ⟨_,_,rfl,?_,?_⟩)) rfl rfl (by repeat' (first | exact trivial | exact aw rfl | exact cq (hp _ rfl) | exact ay h1 | exact ay h2 | exact ay (congrArg Nat.cast bz) | exact cw (aO _) rfl | refine ⟨⟨_,rfl,?_⟩,?_⟩))) ?_;intro e he;refine br ?_ ?_<;>intro hL
  ·have aq:e < ks.length:=by have:=hL;simp [Val.ks] at this;exact this
   have eP:(pk (List.replicate e x.to)).length=e:=by rw [lp,List.length_replicate]
   have fB:pk (List.replicate e x.to) ++ [[DV.v (.int .i64 x.to)]]=pk (List.replicate (e + 1) x.to):=by rw [rP,List.replicate_succ']
   refine ⟨_,⟨by omega,vR⟩,?_⟩;refine ⟨eP,⟨by rw [eP];simp [maxLen];omega,by rw [eP];simp;omega⟩,?_⟩;exact rE ⟨_,by omega,e + 1,rfl,by omega,rfl⟩ (QT 2 (nQ (nxt aq (by omega)) fB) (gw (nxt aq (by omega)) fB))
  ·have aS:e=ks.length:=by have:=hL;simp [Val.ks] at this;omega
   subst aS;have rQ:kidsL ⟨ag,aG,lo,hi,most,af,es⟩ (.mk q z s ks)=List.replicate ks.length x.to:=by unfold kidsL;rw [ai Yn,ht0];all_goals rfl
   have eP:(pk (List.replicate ks.length x.to)).length=ks.length:=by rw [lp,List.length_replicate]
   have hB:pickB (pickB (eM (.mk q z s ks)) (decide (q=kd)) false) (decide (((pk (List.replicate ks.length x.to)).length:Int)<=mo)) false=eu ⟨ag,aG,lo,hi,most,af,es⟩ (.mk q z s ks):=by
    rw [eP,h3,h4,pickB_and,pickB_and];unfold eu;rw [ai Yn];rfl
   rw [rQ];exact ⟨_,(qA hB),rfl⟩
 have c5:¬ ag=5:=sU c;refine br ?_ ?_<;>intro c
 ·have c:ag=6:=sU c;have Yn:ag=5∨ag=6:=.inr c;obtain ⟨x,iq,_,_⟩:=tF Yn;refine dI ?_;refine br (fun _=>?_) (fun h=>absurd h (by simp [c]));obtain ⟨kd,mo,h1,h2,h3,h4⟩:∃ kd mo:Int,6=kd/\1=mo/\kd=ag/\mo=(if ag=6 then 1 else most):=⟨6,1,rfl,rfl,c.symm,by rw [ai c]⟩;have vR:(fU es)[0]? = some (uV x):=by rw [iq];all_goals rfl
  have ht0:to0 ⟨ag,aG,lo,hi,most,af,es⟩=x.to:=by simp [to0,iq]
  refine lJ (fun e=>Wa ⟨ag,aG,lo,hi,most,af,es⟩ (.mk q z s ks) (List.replicate e x.to) (eM (.mk q z s ks)) kd mo e e) ks.length (dT 2 ⟨0,3,1,none⟩ rfl rfl rfl (by repeat' (first | exact rfl | exact aw rfl | exact cq (hp _ rfl) | exact ay h1 | exact ay h2 | exact ay (congrArg Nat.cast bz) | exact cw (aO _) rfl | exact cw (aO _) rfl | refine ⟨_,_,rfl,?_,?_⟩)) rfl rfl (by repeat' (first | exact trivial | exact aw rfl | exact cq (hp _ rfl) | exact ay h1 | exact ay h2 | exact ay (congrArg Nat.cast bz) | exact cw (aO _) rfl | refine ⟨⟨_,rfl,?_⟩,?_⟩))) ?_;intro e he;refine br ?_ ?_<;>intro hL
  ·have aq:e < ks.length:=by have:=hL;simp [Val.ks] at this;exact this
   have eP:(pk (List.replicate e x.to)).length=e:=by rw [lp,List.length_replicate]
   have fB:pk (List.replicate e x.to) ++ [[DV.v (.int .i64 x.to)]]=pk (List.replicate (e + 1) x.to):=by rw [rP,List.replicate_succ']
   refine ⟨_,⟨by omega,vR⟩,?_⟩;refine ⟨eP,⟨by rw [eP];simp [maxLen];omega,by rw [eP];simp;omega⟩,?_⟩;exact rE ⟨_,by omega,e + 1,rfl,by omega,rfl⟩ (QT 2 (nQ (nxt aq (by omega)) fB) (gw (nxt aq (by omega)) fB))
  ·have aS:e=ks.length:=by have:=hL;simp [Val.ks] at this;omega
   subst aS;have rQ:kidsL ⟨ag,aG,lo,hi,most,af,es⟩ (.mk q z s ks)=List.replicate ks.length x.to:=by unfold kidsL;rw [ai Yn,ht0];all_goals rfl
   have eP:(pk (List.replicate ks.length x.to)).length=ks.length:=by rw [lp,List.length_replicate]
   have hB:pickB (pickB (eM (.mk q z s ks)) (decide (q=kd)) false) (decide (((pk (List.replicate ks.length x.to)).length:Int)<=mo)) false=eu ⟨ag,aG,lo,hi,most,af,es⟩ (.mk q z s ks):=by
    rw [eP,h3,h4,pickB_and,pickB_and];unfold eu;rw [ai Yn];rfl
   rw [rQ];exact ⟨_,(qA hB),rfl⟩
 have c6:¬ ag=6:=sU c;obtain ⟨hm64,hm8,_,_⟩:=uu (by omega);refine br ?_ ?_<;>intro c
 ·have c7:ag=7:=sU c;refine lJ (fun e=>adI ⟨ag,aG,lo,hi,most,af,es⟩ (.mk q z s ks) ((es.take e).map Ed.to) (eM (.mk q z s ks)) e e) es.length (dT 2 ⟨0,3,1,none⟩ rfl rfl rfl (by repeat' (first | exact rfl | exact aw rfl | exact cq (hp _ rfl) | exact cw (aO _) rfl | exact cw (aO _) rfl | refine ⟨_,_,rfl,?_,?_⟩)) rfl rfl (by repeat' (first | exact trivial | exact aw rfl | exact cq (hp _ rfl) | exact cw (aO _) rfl | refine ⟨⟨_,rfl,?_⟩,?_⟩))) ?_;intro e he;refine br ?_ ?_<;>intro hL
  ·have aq:e < es.length:=by have:=hL;simp [kL] at this;exact this
   obtain ⟨x,hx⟩:=gX aq;have eP:(pk ((es.take e).map Ed.to)).length=e:=by rw [lp,List.length_map,zLenT];omega
   have fB:pk ((es.take e).map Ed.to) ++ [[DV.v (.int .i64 x.to)]]=pk ((es.take (e + 1)).map Ed.to):=by rw [rP,AX hx,List.map_append];all_goals rfl
   refine iX (bi hx) ?_;refine ⟨eP,⟨by rw [eP];simp [maxLen];omega,by rw [eP];simp;omega⟩,?_⟩;exact rE ⟨_,by omega,e + 1,rfl,by omega,rfl⟩ (QT 2 (nQ (nxt aq (by omega)) fB) (gw (nxt aq (by omega)) fB))
  ·have aS:e=es.length:=sW kL hL;subst aS;rw [List.take_length];have rQ:kidsL ⟨ag,aG,lo,hi,most,af,es⟩ (.mk q z s ks)=es.map Ed.to:=by unfold kidsL;rw [ah (by simp only;omega),ai c7]
   have eP:(pk (es.map Ed.to)).length=es.length:=by rw [lp,List.length_map]
   have hB:pickB (pickB (eM (.mk q z s ks)) (decide (q=7)) false) (decide (((pk (es.map Ed.to)).length:Int)=((dVals ks).length:Int))) false=eu ⟨ag,aG,lo,hi,most,af,es⟩ (.mk q z s ks):=by
    rw [eP,bz,pickB_and,pickB_and];unfold eu;rw [ah (by simp only;omega),ai c7];have:((es.length:Int)=(ks.length:Int))↔es.length=ks.length:=by omega
    simp only [this,Val.k,Val.ks];rfl
   rw [rQ];refine dI ?_;exact ⟨_,(qA hB),rfl⟩
 have c7:¬ ag=7:=sU c;have rQ:kidsL ⟨ag,aG,lo,hi,most,af,es⟩ (.mk q z s ks)=(match pj ⟨ag,aG,lo,hi,most,af,es⟩ (.mk q z s ks) with | none=>[] | some e=>if e.bare=true then [] else [e.to]):=by unfold kidsL;rw [ah (by simp only;omega),ah c7];all_goals rfl
 have TQ:eu ⟨ag,aG,lo,hi,most,af,es⟩ (.mk q z s ks)=(match pj ⟨ag,aG,lo,hi,most,af,es⟩ (.mk q z s ks) with | none=>false | some _=>eM (.mk q z s ks) && decide ((kidsL ⟨ag,aG,lo,hi,most,af,es⟩ (.mk q z s ks)).length=ks.length)):=by unfold eu;rw [ah (by simp only;omega),ah c7];all_goals rfl
 have hc:∀ b:Bool,b=pickB (pickB (!decide (q=8)) true (decide (z < 0))) true (decide (((fU es).length:Int)<=z))->b = !decide (q=8/\0<=z/\z < es.length):=fun b h=>by
  rw [h,kL,ap,ap,Bool.eq_iff_iff];simp;omega
 refine br ?_ ?_<;>intro c
 ·have c:¬ (q=8/\0<=z/\z < es.length):=by have:=(hc _ rfl).symm.trans c;simpa only [Bool.not_eq_true',decide_eq_false_iff_not] using this
  have ht:pj ⟨ag,aG,lo,hi,most,af,es⟩ (.mk q z s ks)=none:=by show (if q=8/\0<=z/\z < es.length then es[z.toNat]? else none)=_;rw [ah c]
  rw [TQ,rQ,ht];exact ⟨_,ax,rfl⟩
 ·have c:q=8/\0<=z/\z < es.length:=by have:=(hc _ rfl).symm.trans c;simpa only [Bool.not_eq_false',decide_eq_true_eq] using this
  obtain ⟨x,hx⟩:∃ x,es[z.toNat]? = some x:=⟨_,gE (by omega)⟩;have ht:pj ⟨ag,aG,lo,hi,most,af,es⟩ (.mk q z s ks)=some x:=by show (if q=8/\0<=z/\z < es.length then es[z.toNat]? else none)=_;rw [ai c];exact hx
  rw [ht] at TQ rQ;refine iX (bi hx) ?_;refine br ?_ ?_<;>intro hb
  ·have hb:x.bare=false:=sU hb;have QS:kidsL ⟨ag,aG,lo,hi,most,af,es⟩ (.mk q z s ks)=[x.to]:=by rw [rQ];simp [hb]
   have hB:pickB (eM (.mk q z s ks)) (decide ((1:Int)=((dVals ks).length:Int))) false=eu ⟨ag,aG,lo,hi,most,af,es⟩ (.mk q z s ks):=by
    rw [TQ,QS,bz,pickB_and];have:((1:Int)=(ks.length:Int)) ↔ [x.to].length=ks.length:=by simp;omega
    simp only [this]
   rw [QS,<- hB];refine ⟨⟨by simp [maxLen],by simp⟩,?_⟩;refine dI ?_;exact ⟨_,(by repeat' (first | exact rfl | exact trivial | exact Or.inr (Or.inl ⟨_,rfl⟩) | exact Or.inr ⟨_,rfl⟩ | exact Or.inl ⟨rfl,rfl⟩ | exact Or.inl rfl | refine Or.inr ⟨_,_,rfl,Nat.zero_le _,rfl,?_⟩ | refine ⟨_,_,rfl,?_,?_⟩ | refine ⟨_,rfl,?_⟩ | exact congrArg (fun b=>DV.v (.bool (pickB b _ false))) (hp _ rfl) | refine Or.inr (Or.inr (Or.inr ⟨_,_,rfl,?_⟩)) | exact Or.inl rfl | refine Or.inr ?_)),rfl⟩
  ·have hb:x.bare=true:=sU hb;have QS:kidsL ⟨ag,aG,lo,hi,most,af,es⟩ (.mk q z s ks)=[]:=by rw [rQ];simp [hb]
   have hB:pickB (eM (.mk q z s ks)) (decide ((0:Int)=((dVals ks).length:Int))) false=eu ⟨ag,aG,lo,hi,most,af,es⟩ (.mk q z s ks):=by
    rw [TQ,QS,bz,pickB_and];have:((0:Int)=(ks.length:Int))↔([]:List Int).length=ks.length:=by simp;omega
    simp only [this]
   rw [QS,<- hB];refine dI ?_;exact ⟨_,(by repeat' (first | exact rfl | exact trivial | exact Or.inr (Or.inl ⟨_,rfl⟩) | exact Or.inr ⟨_,rfl⟩ | exact Or.inl ⟨rfl,rfl⟩ | exact Or.inl rfl | refine Or.inr ⟨_,_,rfl,Nat.zero_le _,rfl,?_⟩ | refine ⟨_,_,rfl,?_,?_⟩ | refine ⟨_,rfl,?_⟩ | exact congrArg (fun b=>DV.v (.bool (pickB b _ false))) (hp _ rfl) | refine Or.inr (Or.inr (Or.inr ⟨_,_,rfl,?_⟩)) | exact Or.inl rfl | refine Or.inr ?_)),rfl⟩
theorem A6 {n:Nd} {v:Val} (hk:5<=n.ag) (h:eu n v=true):(kidsL n v).length=v.ks.length:=by
 unfold eu at h;by_cases c:n.ag=5∨n.ag=6
 ·unfold kidsL;rw [ai c];simp
 rw [ah c] at h;by_cases c7:n.ag=7
 ·rw [ai c7] at h;unfold kidsL;rw [ah c,ai c7,List.length_map];simp at h;exact h.2
 rw [ah c7] at h
 cases ht:pj n v with
 | none=>rw [ht] at h;cases h
 | some e=>rw [ht] at h;simp only [aD,decide_eq_true_eq] at h;exact h.2
theorem Iz {ND:List Nd} {ks:List Val} {l:List Int} {e:Nat} {x:Val} {i:Int} (h1:ks[e]? = some x) (h2:l[e]? = some i):fitVs ND (ks.drop e) (l.drop e)=(fitV ND x i && fitVs ND (ks.drop (e + 1)) (l.drop (e + 1))):=by
 rw [drop_cons h1,drop_cons h2,fitVs]
theorem de {ND:List Nd} {i:Int} {d:Nd} (h:cT ND i=some d):0<=i/\ND[i.toNat]? = some d:=by
 unfold cT at h;split at h
 ·cases h
 ·exact ⟨by omega,h⟩
theorem yw {ND:List Nd} {i:Int} (h:cT ND i=none):i < 0∨(ND.length:Int)<=i:=by
 unfold cT at h;split at h
 ·left;assumption
 ·right;have:=List.getElem?_eq_none_iff.1 h;omega
abbrev tfSt (PC:List DV) (v:Val) (l:List Int) (e:Nat):St:=
 ⟨[aam 0 PC,aab 5 0,aad 36 1 (pk l),aaa 37 l.length,aaa 38 e],[aH v],[]⟩
theorem yx {S:Sch} {ND:List Nd} {PC:List DV} (hP:fw S ND PC):∀ (k:Nat) (v:Val),v.wt<=k->v.wt<=1099511627776->∀ i:Int,EvP prog 68 [.pt PC 0,.v (.int .i64 i),.agg (aH v)] (.v (.bool (fitV ND v i)))
 | 0,v,h,_=>by have:=v.dz;omega
 | k + 1,.mk q z s ks,h,hb=>fun i=>by
  have ih:=yx hP k;have ir:=b9 ks;have bz:=aP ks;have eC:=hb;rw [Val.wt] at h hb;rw [fitV];have ep:=hP.aj;have Yo:=hP.VZ;have bZ:=hP.ok
  cases hd:cT ND i with
  | none=>
   refine eG 53 [.tmp 6] func68 rfl ntmps68 rfl fun _ _ _ _=>?_;refine cP sI (Yo i (yw hd)) ?_;exact (rfl:_=_)
  | some d=>
   obtain ⟨h0,hg⟩:=de hd;obtain ⟨j,rfl⟩:∃ j:Nat,i=j:=⟨i.toNat,by omega⟩;have hg:ND[j]? = some d:=sU hg;have hN:=bZ d (mG hg);have Dg:=MC d (.mk q z s ks);have Dh:=fun h5=>MD hN h5 (.mk q z s ks) eC;have hlen:=fun h5=>A6 (n:=d) (v:=.mk q z s ks) h5;simp only;obtain ⟨ag,aG,lo,hi,most,af,es⟩:=d;simp only at Dh hlen;refine eG 53 [.tmp 6] func68 rfl ntmps68 rfl fun _ _ _ _=>?_;refine cP sI (ep j _ hg) ?_;refine br ?_ ?_<;>intro c
   ·have c:ag < 5:=sU c;rw [ai c];refine cP aaX Dg ?_;exact (rfl:_=_)
   have c:¬ ag < 5:=sU c;rw [ah c];have Dh:=Dh (by omega);have hlen:=hlen (by omega);generalize kidsL ⟨ag,aG,lo,hi,most,af,es⟩ (.mk q z s ks)=l at Dh hlen ⊢;have hzl:=lp l;refine cP aaY Dh ?_
   cases hB:eu ⟨ag,aG,lo,hi,most,af,es⟩ (.mk q z s ks) with
   | false=>
    exact (rfl:_=_)
   | true=>
    have hlen:l.length=ks.length:=hlen hB;rw [Bool.true_and];refine lI (fun j st=>∃ e:Nat,st=tfSt PC (.mk q z s ks) l e/\e<=l.length/\fitVs ND ks l=fitVs ND (ks.drop e) (l.drop e)/\j=l.length - e) ⟨0,rfl,by omega,rfl,rfl⟩ (wkM (wB1 hzl)) ?_;rintro _ st ⟨e,rfl,he,aK,rfl⟩;refine br ?_ ?_<;>intro hL
    ·have aq:e < l.length:=by have:=hL;simp at this;exact this
     obtain ⟨x,hx⟩:∃ x,ks[e]? = some x:=⟨_,gE (by omega)⟩;obtain ⟨y,hy⟩:=gX aq;have EP:=cS (mG hx);rw [Iz hx hy] at aK;have dY:=ih x (by omega) (by omega) y;obtain ⟨xk,xn,xs,xl⟩:=x;refine iX (rO hy) ?_;refine iX (bf hx) ?_;refine cP aaD dY ?_;refine br ?_ ?_<;>intro g
     ·have g:fitV ND (.mk xk xn xs xl) y=false:=sU g;rw [aK,g];exact (rfl:_=_)
     ·have g:fitV ND (.mk xk xn xs xl) y=true:=sU g;rw [g,Bool.true_and] at aK;exact rE ⟨_,by omega,e + 1,rfl,by omega,aK,rfl⟩ (wkM (wB1 (nxt aq (by omega))))
    ·have aS:e=l.length:=by have:=hL;simp at this;omega
     rw [List.drop_of_length_le (by omega),List.drop_of_length_le (by omega)] at aK;rw [aK];exact (rfl:_=_)
theorem ME {L N:Nat} {n:Nd} (hn:eD L N n) (v:Val) (j:Nat):EvP prog 158 [.agg (jt n),.agg (aH v),.v (.int .i64 j)] (.v (.int .i64 (KI n v j))):=by
 have tF:=hn.one;obtain ⟨ag,aG,lo,hi,most,af,es⟩:=n;obtain ⟨q,z,s,ks⟩:=v;have kL:=cm es;simp only at tF
 have hF:KI ⟨ag,aG,lo,hi,most,af,es⟩ (.mk q z s ks) j=if ag=5 then (if (j:Int) < most then to0 ⟨ag,aG,lo,hi,most,af,es⟩ else -1)
  else if ag=6 then (if j < 1 then to0 ⟨ag,aG,lo,hi,most,af,es⟩ else -1)
  else if ag=7 then (match es[j]? with | some e=>e.to | none=>-1)
  else if ag=8 then (if j < 1/\0<=z/\z < es.length then (match es[z.toNat]? with | some e=>e.to | none=>-1) else -1)
  else -1:=rfl
 rw [hF];refine eG 66 [.tmp 6] func158 rfl ntmps158 rfl fun _ _ _ _=>?_;refine br ?_ ?_<;>intro c
 ·have c:ag=5:=sU c;rw [ai c];obtain ⟨x,iq,_,_⟩:=tF (.inl c);have vR:(fU es)[0]? = some (uV x):=by rw [iq];all_goals rfl
  have ht0:to0 ⟨ag,aG,lo,hi,most,af,es⟩=x.to:=by simp [to0,iq]
  refine br ?_ ?_<;>intro g
  ·have g:(j:Int) < most:=sU g;rw [ai g,ht0];refine ⟨_,⟨by omega,vR⟩,?_⟩;exact (rfl:_=_)
  ·have g:¬ (j:Int) < most:=sU g;rw [ah g];exact (rfl:_=_)
 have c5:¬ ag=5:=sU c;rw [ah c5];refine br ?_ ?_<;>intro c
 ·have c:ag=6:=sU c;rw [ai c];obtain ⟨x,iq,_,_⟩:=tF (.inr c);have vR:(fU es)[0]? = some (uV x):=by rw [iq];all_goals rfl
  have ht0:to0 ⟨ag,aG,lo,hi,most,af,es⟩=x.to:=by simp [to0,iq]
  refine br ?_ ?_<;>intro g
  ·have g:j < 1:=by have:=g;simp at this;omega
   rw [ai g,ht0];refine ⟨_,⟨by omega,vR⟩,?_⟩;exact (rfl:_=_)
  ·have g:¬ j < 1:=by have:=g;simp at this;omega
   rw [ah g];exact (rfl:_=_)
 have c6:¬ ag=6:=sU c;rw [ah c6];refine br ?_ ?_<;>intro c
 ·have c:ag=7:=sU c;rw [ai c];refine br ?_ ?_<;>intro g
  ·have g:j < es.length:=by have:=g;simp [kL] at this;exact this
   obtain ⟨x,hx⟩:∃ x,es[j]? = some x:=⟨_,gE g⟩;refine iX (bi hx) ?_;rw [hx];exact (rfl:_=_)
  ·have g:es.length<=j:=sW kL g;rw [dA g];exact (rfl:_=_)
 have c7:¬ ag=7:=sU c;rw [ah c7];refine br ?_ ?_<;>intro c
 ·have c:ag=8:=sU c;rw [ai c]
  have hc:∀ b:Bool,b=pickB (pickB (decide ((j:Int) < 1)) (decide (0<=z)) false) (decide (z < ((fU es).length:Int))) false->b=decide (j < 1/\0<=z/\z < es.length):=fun b h=>by
   rw [h,kL,pickB_and,pickB_and,Bool.eq_iff_iff];simp;omega
  refine br ?_ ?_<;>intro g
  ·have g:=of_decide_eq_true ((hc _ rfl).symm.trans g);obtain ⟨x,hx⟩:∃ x,es[z.toNat]? = some x:=⟨_,gE (by omega)⟩;rw [ai g,hx];refine iX (bi hx) ?_;exact (rfl:_=_)
  ·have g:=of_decide_eq_false ((hc _ rfl).symm.trans g);rw [ah g];exact (rfl:_=_)
 ·have c8:¬ ag=8:=sU c;rw [ah c8];exact (rfl:_=_)
structure FitF (ND:List Nd) (v:Val) (i:Int) (d:Nd):Prop where
 aj:cT ND i=some d
 k:v.k=d.ag
 leaf:d.ag < 5->v.ks=[]
 enum:d.ag=4->0<=v.n/\v.n < d.af.length
 kids:5<=d.ag->(kidsL d v).length=v.ks.length/\fitVs ND v.ks (kidsL d v)=true
 tag:d.ag=8->∃ e,pj d v=some e/\d.av[v.n.toNat]? = some e/\0<=v.n/\v.n < d.av.length/\(e.bare=true↔v.ks=[])
 opt:d.ag=6->v.ks.length<=1
theorem MF {L:Nat} {ND:List Nd} (bZ:∀ n∈ND,eD L ND.length n) {v:Val} {i:Int} (h:fitV ND v i=true):∃ d,FitF ND v i d:=by
 obtain ⟨k,n,s,ks⟩:=v;rw [fitV] at h
 cases hd:cT ND i with
 | none=>rw [hd] at h;cases h
 | some d=>
  rw [hd] at h;simp only at h;have hN:=bZ d (mG (de hd).2);have mM:=hN.k1;have A5:=hN.k8;by_cases h5:d.ag < 5
  ·rw [ai h5] at h;unfold A3 at h;by_cases hc:0 < (Val.mk k n s ks).ks.length∨((Val.mk k n s ks).k≠3/\(Val.mk k n s ks).s≠au)∨((Val.mk k n s ks).k=3/\(Val.mk k n s ks).n≠0)
   ·rw [ai hc] at h;cases h
   rw [ah hc] at h
   have QQ:ks=[]:=by
    cases ks with
    | nil=>rfl
    | cons a b=>exact (hc (.inl (by simp [Val.ks]))).elim
   have hk:k=d.ag/\(d.ag=4->0<=n/\n < d.af.length):=by
    rcases (show d.ag=1∨d.ag=2∨d.ag=3∨d.ag=4 by omega) with c | c | c | c
    all_goals
     simp [c,Val.k,Val.n] at h;simp only [c];constructor
     ·first | exact of_decide_eq_true h.1 | exact of_decide_eq_true h.1.1
     ·first | (intro;omega) | exact fun _=>⟨of_decide_eq_true h.1.2,of_decide_eq_true h.2⟩
   exact ⟨d,{ aj:=hd,k:=hk.1,leaf:=fun _=>QQ,enum:=hk.2,kids:=fun h=>by omega,tag:=fun h=>by omega,opt:=fun h=>by omega }⟩
  ·rw [ah h5,aD] at h;obtain ⟨hB,hf⟩:=h;have hlen:=A6 (by omega) hB;have hB2:=hB;unfold eu at hB;by_cases c:d.ag=5∨d.ag=6
   ·rw [ai c] at hB;simp only [aD,decide_eq_true_eq] at hB;exact ⟨d,{ aj:=hd,k:=hB.1.2,leaf:=fun h=>by omega,enum:=fun h=>by omega,kids:=fun _=>⟨hlen,hf⟩,tag:=fun h=>by omega,opt:=fun h=>by have:=hB.2;rw [ai h] at this;omega }⟩
   rw [ah c] at hB;by_cases c7:d.ag=7
   ·rw [ai c7] at hB;simp only [aD,decide_eq_true_eq] at hB;exact ⟨d,{ aj:=hd,k:=by rw [c7];exact hB.1.2,leaf:=fun h=>by omega,enum:=fun h=>by omega,kids:=fun _=>⟨hlen,hf⟩,tag:=fun h=>by omega,opt:=fun h=>by omega }⟩
   rw [ah c7] at hB
   cases ht:pj d (.mk k n s ks) with
   | none=>rw [ht] at hB;cases hB
   | some e=>
    have ht2:=ht;unfold pj at ht2;split at ht2
    ·rename_i hr;have ir:kidsL d (.mk k n s ks)=if e.bare=true then [] else [e.to]:=by unfold kidsL;rw [ah c,ah c7,ht]
     refine ⟨d,{ aj:=hd,k:=by have:=hr.1;omega,leaf:=fun h=>by omega,enum:=fun h=>by omega,kids:=fun _=>⟨hlen,hf⟩,tag:=fun _=>⟨e,ht,ht2,hr.2.1,hr.2.2,?_⟩,opt:=fun h=>by omega }⟩;rw [ir] at hlen;constructor
     ·intro hb;rw [ai hb] at hlen;exact List.eq_nil_of_length_eq_zero hlen.symm
     ·intro QQ;rw [QQ] at hlen;cases hb:e.bare
      ·rw [hb] at hlen;simp at hlen
      ·rfl
    ·cases ht2
structure ch where
 k:Int
 n:Int
 s:ByteArray
def lH (x:ch):List DV:=[.v (.int .i64 x.k),.v (.int .i64 x.n),.v (.string x.s)]
def bm (l:List ch):List (List DV):=l.map lH
theorem fl (l:List ch):(bm l).length=l.length:=by simp [bm]
theorem fW {l:List ch} {e:Nat} {x:ch} (h:l[e]? = some x):(bm l)[e]? = some (lH x):=by simp [bm,h]
def gl (a b:ch):Bool:=decide (a.k=b.k) && (decide (a.n=b.n) && decide (a.s=b.s))
def CL (a:ch):Array Value:=#[.int .i64 a.k,.int .i64 a.n,.string a.s]
theorem A7 (a b:ch) (w:World):(Op.equal 141 (.agg (CL a)) (.agg (CL b))).run prog w = .ok (gl a b) w:=by
 have hf:prog.underlying 141=some (.struct (prog.fieldsOf 141)):=by simp [Program.fieldsOf,Tryz.underlying141]
 have u6:(prog.fieldsOf 141).toList=[⟨ "Kind",3,0,false, "", "",0⟩,⟨ "N",3,1,false, "", "",8⟩,⟨ "Name",9,2,false, "", "",16⟩]:=by simp [Program.fieldsOf,Tryz.underlying141]
 have hs:prog.stoodInHeld 141=false:=by kernel_rfl
 obtain ⟨d,hm⟩:∃ d,Op.maxDepth=d + 1 + 1:=⟨Op.maxDepth - 2,by decide⟩
 have q9:∀ cs:Array Value,∀ off v,cs[off]? = some v->(part 9 cs off).run prog w = .ok v w:=fun cs off v h=>by
  simp [part,Tryz.isAgg9,h]
 have q3:∀ cs:Array Value,∀ off v,cs[off]? = some v->(part 3 cs off).run prog w = .ok v w:=fun cs off v h=>by
  simp [part,Tryz.isAgg3,h]
 have g0:=fun x:ch=>q3 (CL x) 0 (.int .i64 x.k) rfl;have g1:=fun x:ch=>q3 (CL x) 1 (.int .i64 x.n) rfl;have g2:=fun x:ch=>q9 (CL x) 2 (.string x.s) rfl;have r9:=fun a b=>run_equalIn_string w d 9 a b Tryz.underlying9;have r3:=fun a b=>run_equalIn_int w d 3 .i64 .i64 a b Tryz.underlying3
 have e1:(a.s.toList == b.s.toList)=decide (a.s=b.s):=by
  rw [ByteArray.toList_eq,ByteArray.toList_eq];by_cases h:a.s=b.s
  ·rw [h];simp
  ·have:¬ a.s.data=b.s.data:=fun e=>h (ByteArray.ext e);simp [h,this]
 unfold Op.equal;rw [hm,run_equalIn_struct w (d + 1) 141 _ _ hf hs,u6];simp only [Op.eqFields,ne_eq,String.reduceEq,not_false_eq_true,if_true,Sem.run_bind,g0,g1,g2,r9,r3,Result.andThen_ok];by_cases h1:a.k=b.k
 ·by_cases h2:a.n=b.n
  ·by_cases h3:a.s=b.s
   ·simp [h1,h2,h3,gl,Sem.run_pure,r3,r9,g1,g2]
   ·simp [h1,h2,h3,gl,Sem.run_pure,r3,r9,g1,g2,e1]
  ·simp [h1,h2,gl,Sem.run_pure,r3,g1]
 ·simp [h1,gl,Sem.run_pure]
theorem A8 (o:BinOp) (ho:o = .eql∨o = .neq) (w:World) (x y:Operand) (vs vs':Array Value):(eqGuard o 141 x y (.agg vs) (.agg vs')).run prog w = .ok () w:=by
 have h:prog.eqGuardType prog.depth 141=false:=by kernel_rfl
 rcases ho with rfl | rfl<;>simp [eqGuard,run_program,h]
theorem TR (x y:Operand) (a b:ch):Bz prog .neq x y 141 (lH a) (lH b) (!gl a b):=
 ⟨[.int .i64 a.k,.int .i64 a.n,.string a.s],[.int .i64 b.k,.int .i64 b.n,.string b.s],rfl,rfl,fun w=>⟨A8 _ (.inr rfl) w x y _ _,by
  show ((do let r <- Op.equal 141 (.agg (CL a)) (.agg (CL b));pure (Value.bool !r)):Sem Value).run prog w=_
  simp only [Sem.run_bind,A7,Result.andThen_ok,Sem.run_pure]⟩⟩
theorem KL (x y:Operand) (a b:ch):Bz prog .eql x y 141 (lH a) (lH b) (gl a b):=
 ⟨[.int .i64 a.k,.int .i64 a.n,.string a.s],[.int .i64 b.k,.int .i64 b.n,.string b.s],rfl,rfl,fun w=>⟨A8 _ (.inl rfl) w x y _ _,by
  show ((do let r <- Op.equal 141 (.agg (CL a)) (.agg (CL b));pure (Value.bool r)):Sem Value).run prog w=_
  simp only [Sem.run_bind,A7,Result.andThen_ok,Sem.run_pure]⟩⟩
def stpR (d:Nd) (v:Val) (j:Nat):ch:=
 if d.ag=5 then ⟨2,j,au⟩
 else if d.ag=6 then ⟨4,0,au⟩
 else if d.ag=7 then ⟨1,0,match d.av[j]? with | some e=>e.name | none=>au⟩
 else ⟨5,0,match d.av[v.n.toNat]? with | some e=>e.name | none=>au⟩
theorem FJ (d:Nd) (v:Val) (j:Nat) (h7:d.ag=7->j < d.av.length) (h8:d.ag≠5->d.ag≠6->d.ag≠7->0<=v.n/\v.n < d.av.length) :
  EvP prog 63 [.agg (jt d),.agg (aH v),.v (.int .i64 j)] (.agg (lH (stpR d v j))):=by
 obtain ⟨ag,aG,lo,hi,most,af,es⟩:=d;obtain ⟨q,z,s,ks⟩:=v;have kL:=cm es;simp only [Val.n] at h7 h8
 have hS:stpR ⟨ag,aG,lo,hi,most,af,es⟩ (.mk q z s ks) j=if ag=5 then ⟨2,j,au⟩
  else if ag=6 then ⟨4,0,au⟩
  else if ag=7 then ⟨1,0,match es[j]? with | some e=>e.name | none=>au⟩
  else ⟨5,0,match es[z.toNat]? with | some e=>e.name | none=>au⟩:=rfl
 rw [hS];refine eG 33 [.cell 6 141] func63 rfl ntmps63 rfl fun _ _ _ _=>?_;refine br ?_ ?_<;>intro c
 ·have c:ag=5:=sU c;rw [ai c];exact ⟨_,ax,rfl⟩
 have c5:¬ ag=5:=sU c;rw [ah c5];refine br ?_ ?_<;>intro c
 ·have c:ag=6:=sU c;rw [ai c];exact ⟨_,ax,rfl⟩
 have c6:¬ ag=6:=sU c;rw [ah c6];refine br ?_ ?_<;>intro c
 ·have c:ag=7:=sU c;rw [ai c];obtain ⟨x,hx⟩:∃ x,es[j]? = some x:=⟨_,gE (h7 c)⟩;simp only [hx];refine iX (bi hx) ?_;exact ⟨_,ax,rfl⟩
 have c7:¬ ag=7:=sU c;rw [ah c7];obtain ⟨z0,z1⟩:=h8 c5 c6 c7;obtain ⟨x,hx⟩:∃ x,es[z.toNat]? = some x:=⟨_,gE (by omega)⟩;simp only [hx];refine iX (bi hx) ?_;exact ⟨_,ax,rfl⟩
def QU (f:Nat->Nat->Bool) (n:Nat) (a b:Int):Bool:=decide (0<=a) && decide (a < n) && decide (0<=b) && decide (b < n) && f a.toNat b.toNat
def uv (f:Nat->Nat->Bool) (n a b:Nat):Nat:=(fu f n a b).getD 0
def po (f:Nat->Nat->Bool) (n:Nat):Nat:=(ff f n []).getD 0
theorem QV {f:Nat->Nat->Bool} {n a b:Nat} (ha:a < n) (hb:b < n):QU f n a b=f a b:=by simp [QU,ha,hb]
theorem yy {f:Nat->Nat->Bool} {n a b:Nat} (h:fk f n) (ha:a < n) (hb:b < n):fu f n a b=some (uv f n a b):=by
 obtain ⟨k,hk⟩:=h.jn a b ha hb;simp [uv,hk]
theorem yz {f:Nat->Nat->Bool} {n a b:Nat} (h:fk f n) (ha:a < n) (hb:b < n):uv f n a b < n:=(qb (yy h ha hb)).1
theorem FK {f:Nat->Nat->Bool} {n:Nat} (h:fk f n):RV f n:=⟨h.rfl',h.HF⟩
theorem yA {f:Nat->Nat->Bool} {n a b:Nat} (h:fk f n) (ha:a < n) (hb:b < n):kF f n a b=some (uv f n a b):=by
 have h1:=yy h ha hb;have h2:=ng (n:=n) (a:=a) (b:=b) (FK h);rw [h1] at h2
 cases hr:kF f n a b with
 | none=>rw [hr] at h2;simp at h2
 | some c=>
  obtain ⟨h3,h4,_⟩:=eo hr;have:=E4 (FK h) h3 h4;rw [h1] at this;exact this.symm
theorem tG {f:Nat->Nat->Bool} {n:Nat} (h:fk f n):ff f n []=some (po f n):=by
 obtain ⟨c,hc⟩:=uo h [] (fun _ h=>by cases h);simp [po,hc]
theorem CM {f:Nat->Nat->Bool} {n:Nat} (h:fk f n):po f n < n:=oY (tG h)
section
variable (af:List ByteArray) (tc:List DV) (rows:List Nat) (js:List Int)
theorem MG (hr:eK rows) (hl:rows.length=af.length) (a b:Int) :
  EvP prog 88 [.pt (iT af tc rows js) 0,.v (.int .i64 a),.v (.int .i64 b)] (.v (.bool (hasB rows a b))):=by
 have h1:=s7 af tc rows js;have h2:=lT rows hr a b;have hB:hasB rows a b=(decide (0<=a) && decide (a < af.length) && decide (0<=b) && decide (b < af.length) && aX rows a.toNat b.toNat):=by rw [<- hl];all_goals rfl
 generalize hasB rows a b=h at h2 hB ⊢;refine eG 24 [.tmp 6] func88 rfl ntmps88 rfl fun _ _ _ _=>?_;refine cP wv (h1 a) ?_;refine br ?_ ?_<;>intro g
 ·refine cP wv (h1 b) ?_;refine br ?_ ?_<;>intro g2
  ·refine cP DW h2 ?_;exact (rfl:_=_)
  ·refine (aae ?_:);rw [hB];simp only [Bool.and_assoc] at g g2 ⊢;cases hx:decide (0<=b)<;>cases hy:decide (b < af.length)<;>simp_all [pickB]
 ·refine (aae ?_:);rw [hB];cases hx:decide (0<=a)<;>cases hy:decide (a < af.length)<;>simp_all [pickB]
end
structure MH (n:Nat) (f:Nat->Nat->Bool) (af:List ByteArray) (LC:List DV):Prop where
 ok:fk f n
 n32:n<=32
 nl:af.length=n
 len:EvP prog 73 [.pt LC 0] (.v (.int .i64 n))
 leq:∀ a b:Int,EvP prog 88 [.pt LC 0,.v (.int .i64 a),.v (.int .i64 b)] (.v (.bool (QU f n a b)))
 join:∀ a b:Nat,a < n->b < n->EvP prog 203 [.pt LC 0,.v (.int .i64 a),.v (.int .i64 b)] (.v (.int .i64 (uv f n a b:Nat)))
 bot:EvP prog 70 [.pt LC 0] (.v (.int .i64 (po f n:Nat)))
 name:∀ (i:Nat) s,af[i]? = some s->EvP prog 157 [.pt LC 0,.v (.int .i64 i)] (.v (.string s))
abbrev bL (S:Sch):Nat->Nat->Bool:=fj S.ae.length (dF (aA S.ae) S.order)
theorem fw.TS {S:Sch} {ND:List Nd} {PC:List DV} (hP:fw S ND PC):∃ LC,EvP prog 72 [.pt PC 0] (.pt LC 0)/\MH S.ae.length (bL S) (aA S.ae) LC:=by
 obtain ⟨aE,js,hX,hl⟩:=hP.lat;have ik:=dO S.ae;have Dg:=(hP.fine).lat;obtain ⟨hL,PX⟩:=l7 Dg;have hpr:∀ p∈dF (aA S.ae) S.order,p.1 < S.ae.length/\p.2 < S.ae.length:=by have:=oX (qg Dg).2.2.1;rwa [dO] at this
 have gV:(dL S aE js).rows.length=S.ae.length:=by
  show (closeR (fL S.ae.length (dF (aA S.ae) S.order)) S.ae.length).length=_;rw [fM,kA]
 have hr:eK (dL S aE js).rows:=lU (B8 (by omega) _ hpr) _ (by omega)
 refine ⟨_,hl,{
  ok:=hL,n32:=PX,nl:=ik
  len:=?_
  leq:=fun a b=>?_
  join:=fun a b ha hb=>?_
  bot:=?_
  name:=fun i s hs=>?_
  }⟩
 ·have:=s6 (dL S aE js).af (dh (dL S aE js).af (dL S aE js).aE) (dL S aE js).rows (dL S aE js).js
  rwa [show (dL S aE js).af.length=S.ae.length from ik] at this
 ·have:=MG (dL S aE js).af (dh (dL S aE js).af (dL S aE js).aE) (dL S aE js).rows (dL S aE js).js hr (by rw [gV];exact ik.symm) a b
  have he:hasB (dL S aE js).rows a b=QU (bL S) S.ae.length a b:=by
   unfold hasB QU;rw [gV];all_goals rfl
  rwa [he] at this
 ·have hz:=(hX.hj a b (by rw [show (dL S aE js).af.length=S.ae.length from ik];exact ha) (by rw [show (dL S aE js).af.length=S.ae.length from ik];exact hb)).1;rw [show (dL S aE js).af.length=S.ae.length from ik,show (dL S aE js).f=bL S from rfl,yy hL ha hb] at hz;exact xy (dL S aE js).af (dh (dL S aE js).af (dL S aE js).aE) (dL S aE js).rows (dL S aE js).js a b _ (by rw [show (dL S aE js).af.length=S.ae.length from ik];exact ha) (by rw [show (dL S aE js).af.length=S.ae.length from ik];exact hb) hX.hn hz
 ·have:=rm (dL S aE js).af (dh (dL S aE js).af (dL S aE js).aE) (dL S aE js).rows (dL S aE js).js hX.hL hX.hn hX.hj
  rwa [show (dL S aE js).af.length=S.ae.length from ik,show (dL S aE js).f=bL S from rfl,tG hL] at this
 ·have:=HB (dL S aE js).af (dh (dL S aE js).af (dL S aE js).aE) (dL S aE js).rows (dL S aE js).js i;have aq:=(gS hs).1;rw [ai ⟨by omega,by rw [show (dL S aE js).af=aA S.ae from rfl];omega⟩,iW,show (dL S aE js).af=aA S.ae from rfl,hs] at this;exact this
def dR (s:ch):Bool:=
 if s.k=1∨s.k=5 then decide (s.n=0) && bd s.s
 else if s.k=2 then decide (0<=s.n) && decide (s.s=⟨#[]⟩)
 else if s.k=3∨s.k=4 then decide (s.n=0) && decide (s.s=⟨#[]⟩) else false
def lK (l:List ch):Bool:=decide (l.length<=64) && l.all dR
theorem IA (s:ch):lK [s]=dR s:=by simp [lK]
def yB (d:Nd) (s:ch) (e:Ed):Bool:=
 (decide (s.k=1) && decide (d.ag=7) && (decide (e.name=s.s) && !e.bare)) || (decide (s.k=5) && decide (d.ag=8) && (decide (e.name=s.s) && !e.bare)) ||
  ((decide (s.k=2) || decide (s.k=3)) && decide (d.ag=5) && decide (s.n < d.most)) || (decide (s.k=4) && decide (d.ag=6))
def IB (d:Nd) (s:ch) (e:Ed):Bool:=
 if s.k=1 then decide (d.ag=7) && decide (e.name=s.s)
 else if s.k=5 then decide (d.ag=8) && decide (e.name=s.s) && !e.bare
 else if s.k=2 then decide (d.ag=5) && decide (s.n < d.most)
 else if s.k=3 then decide (d.ag=5) && decide (0 < d.most)
 else decide (d.ag=6)
theorem QW {s:ch} (h:dR s=true):s.k=1∨s.k=2∨s.k=3∨s.k=4∨s.k=5:=by
 unfold dR at h;split at h
 ·omega
 ·split at h
  ·omega
  ·split at h
   ·omega
   ·cases h
theorem KM {L N:Nat} {d:Nd} (hN:eD L N d) {s:ch} (hr:dR s=true) {e:Ed} (he:e∈d.av):IB d s e=yB d s e:=by
 have hk:=QW hr;have hb:=hN.bare e he;unfold IB yB;rcases hk with h | h | h | h | h
 ·simp only [h];by_cases h7:d.ag=7
  ·have:e.bare=false:=by
    cases hx:e.bare
    ·rfl
    ·have:=hb hx;omega
   simp [h7,this]
  ·simp [h7]
 ·simp [h]
 ·have hn:s.n=0:=by
   unfold dR at hr;rw [h] at hr;simp at hr;exact hr.1
  simp [h,hn]
 ·simp [h]
 ·simp [h,Bool.and_assoc]
def A9 (d:Nd) (s:ch) (k:Nat):Bool:=match d.av[k]? with | some e=>yB d s e | none=>false
def yC (d:Nd) (s:ch):Option Nat:=if dR s=true then bX (A9 d s) d.av.length else none
theorem IC {d:Nd} {s:ch} {k:Nat} (h:yC d s=some k):∃ e,d.av[k]? = some e/\yB d s e=true/\dR s=true:=by
 unfold yC at h;split at h
 ·rename_i hr;obtain ⟨h1,h2,_⟩:=eo h;refine ⟨d.av[k],gE h1,?_,hr⟩;unfold A9 at h2;rw [gE h1] at h2;exact h2
 ·cases h
def walkV (ND:List Nd) (f:Nat->Nat->Bool) (n:Nat):List ch->Nat->Nat->Option (Nat × Nat)
 | [],i,a=>some (i,a)
 | s :: p,i,a=>match ND[i]? with
  | none=>none
  | some d=>match yC d s with
   | none=>none
   | some k=>match d.av[k]? with
    | none=>none
    | some e=>walkV ND f n p e.to.toNat (uv f n a e.label.toNat)
theorem yD {L N:Nat} {d:Nd} (hN:eD L N d) {s:ch} {e:Ed} (he:e∈d.av) (h:yB d s e=true):e.bare=false:=by
 cases hb:e.bare
 ·rfl
 ·have h8:=hN.bare e he hb;unfold yB at h;simp [hb,h8] at h
theorem ic {L:Nat} {ND:List Nd} {d:Nd} (hN:eD L ND.length d) {e:Ed} (he:e∈d.av):(e.bare=false->e.to=(e.to.toNat:Nat)/\e.to.toNat < ND.length)/\(e.label=(e.label.toNat:Nat)/\e.label.toNat < L)/\(e.seen=(e.seen.toNat:Nat)/\e.seen.toNat < L):=by
 have hE:=hN.n5 e he;refine ⟨fun hb=>?_,?_,?_⟩
 ·obtain ⟨k,h1,h2⟩:=hE.to1 hb;rw [h1];exact ⟨by simp,by simpa using h2⟩
 ·obtain ⟨k,h1,h2⟩:=hE.lab;rw [h1];exact ⟨by simp,by simpa using h2⟩
 ·obtain ⟨k,h1,h2⟩:=hE.seen;rw [h1];exact ⟨by simp,by simpa using h2⟩
theorem FL {f:Nat->Nat->Bool} {L:Nat} (hL:fk f L) {ND:List Nd} (bZ:∀ n∈ND,eD L ND.length n):∀ (p:List ch) (i a:Nat) {j b:Nat},i < ND.length->a < L->walkV ND f L p i a=some (j,b)->j < ND.length/\b < L
 | [],i,a,j,b,hi,ha,h=>by
  rw [walkV] at h;simp only [oI,Prod.mk.injEq] at h;omega
 | s :: p,i,a,j,b,hi,ha,h=>by
  rw [walkV,gE hi] at h;simp only at h;split at h
  ·cases h
  ·rename_i k hk;obtain ⟨e,he,hB,_⟩:=IC hk;rw [he] at h;simp only at h;have hm:=mG he;have hd:=bZ _ (List.getElem_mem hi);obtain ⟨h1,h2,_⟩:=ic hd hm;exact FL hL bZ p _ _ (h1 (yD hd hm hB)).2 (yz hL ha h2.2) h
def tH (f:Nat->Nat->Bool) (n cE:Nat) (d:Nd) (e:Ed) (a:Nat):Nat:=
 if f (if d.ag < 7 then a else uv f n a e.label.toNat) cE=true then 2 else if e.ck≠0/\f (uv f n a e.seen.toNat) cE=true then 1 else 0
section
variable (ND:List Nd) (f:Nat->Nat->Bool) (n cE dep:Nat)
end
def bY (d:Nd) (z:Int) (j:Nat):Option Ed:=if d.ag=7 then d.av[j]? else if d.ag=8 then d.av[z.toNat]? else d.av[0]?
def nD (f:Nat->Nat->Bool) (n:Nat) (d:Nd) (e:Ed) (a:Nat):Nat:=if d.ag < 7 then a else uv f n a e.label.toNat
section
variable (ND:List Nd) (f:Nat->Nat->Bool) (L cE:Nat)
end
section
variable {ND:List Nd} {f:Nat->Nat->Bool} {L cE:Nat}
theorem MI (u:Nat) (l:List UInt8):(headL u l).length<=l.length:=(Mr u l).length_le
theorem QX {N:Nat} {d:Nd} {e:Ed} (hN:eD N ND.length d) (he:e∈d.av) (hb:e.bare=false):0<=e.to/\∃ d',cT ND e.to=some d':=by
 obtain ⟨k,hk,aq⟩:=(hN.n5 e he).to1 hb;refine ⟨by omega,ND[k],?_⟩;unfold cT;rw [ah (by omega),hk,iW,gE aq]
end
section
variable (ND:List Nd) (f:Nat->Nat->Bool) (L cE:Nat)
end
section
variable {ND:List Nd} {f:Nat->Nat->Bool} {L cE:Nat}
theorem TU (d:Nd) (e:Ed) (a:Nat):tH f L cE d e a=if f (nD f L d e a) cE=true then 2 else if e.ck≠0/\f (uv f L a e.seen.toNat) cE=true then 1 else 0:=rfl
theorem KN {N:Nat} {d:Nd} {e:Ed} {a:Nat} (hL:fk f L) (hN:eD L N d) (hm:e∈d.av) (ha:a < L):nD f L d e a < L:=by
 obtain ⟨k,hk,hl⟩:=(hN.n5 e hm).lab;unfold nD;split
 ·exact ha
 ·exact yz hL ha (by rw [hk,iW];exact hl)
end
def cA (v:Val) (k n:Int) (s:ByteArray):Bool:=decide (v.k=k) && decide (v.n=n) && decide (v.s=s) && decide (v.ks.length=0)
def jw (e:Ed) (d:Nd) (v:Val):Bool:=
 if e.ck=1/\d.ag=2 then
  (if cA v 9 e.wide au=true then !(bK d.lo e.cn).2
   else cA v 10 v.n au && decide (v.n % e.cn=0) && (bK d.hi e.cn).2 && decide (v.n<=(bK d.hi e.cn).1) && (!(bK d.lo e.cn).2 || decide ((bK d.lo e.cn).1<=v.n)))
 else if e.ck=2/\d.ag=3 then cA v 11 0 v.s && decide ((v.s.size:Int)<=d.most) && decide (headL e.cn.toNat (tx v.s)=tx v.s)
 else if e.ck=3/\d.ag=5 then cA v 12 v.n au && decide (0<=v.n) && decide (v.n<=d.most)
 else cA v 9 e.wide au
def shellF (d:Nd) (v:Val):Bool:=
 if v.k≠d.ag∨v.s≠au∨(d.ag≠8/\v.n≠0) then false
 else if d.ag=5 then decide ((v.ks.length:Int)<=d.most)
 else if d.ag=6 then decide (v.ks.length < 2)
 else if d.ag=7 then decide (v.ks.length=d.av.length)
 else if v.n < 0∨(d.av.length:Int)<=v.n then false
 else match d.av[v.n.toNat]? with
  | none=>false
  | some e=>if e.bare=true then decide (v.ks.length=0) else decide (v.ks.length=1)
section
variable (ND:List Nd) (f:Nat->Nat->Bool) (L cE:Nat)
mutual
def seeV:Val->Int->Nat->Bool
 | .mk k n s ks,i,a=>match cT ND i with
  | none=>false
  | some d=>if d.ag < 5 then fitV ND (.mk k n s ks) i else shellF d (.mk k n s ks) && seeVs ks d n a 0
def seeVs:List Val->Nd->Int->Nat->Nat->Bool
 | [],_,_,_,_=>true
 | x :: r,d,z,a,j=>(match bY d z j with
  | none=>false
  | some e=>if tH f L cE d e a=2 then seeV x e.to (nD f L d e a) else if tH f L cE d e a=1 then (match cT ND e.to with | none=>false | some t=>jw e t x) else cA x 9 e.wide au) && seeVs r d z a (j + 1)
end
end
section
variable {ND:List Nd} {f:Nat->Nat->Bool} {L cE:Nat}
theorem ID {ks:List Val} {d:Nd} {z:Int} {a j m:Nat} {x:Val} (h:ks[m]? = some x):seeVs ND f L cE (ks.drop m) d z a j=((match bY d z j with
  | none=>false
  | some e=>if tH f L cE d e a=2 then seeV ND f L cE x e.to (nD f L d e a) else if tH f L cE d e a=1 then (match cT ND e.to with | none=>false | some t=>jw e t x) else cA x 9 e.wide au) && seeVs ND f L cE (ks.drop (m + 1)) d z a (j + 1)):=by
 obtain ⟨hm,rfl⟩:=List.getElem?_eq_some_iff.1 h;rw [List.drop_eq_getElem_cons hm,seeVs]
structure adJ (ND:List Nd) (d:Nd) (z:Int) (j:Nat) (e:Ed):Prop where
 n5:bY d z j=some e
 mem:e∈d.av
 bare:e.bare=false
theorem tI {N:Nat} {d:Nd} (hN:eD N ND.length d) (h5:5<=d.ag) {v:Val} (h:shellF d v=true) {m:Nat} (hm:m < v.ks.length):∃ e,adJ ND d v.n m e:=by
 have h8:=hN.k8;unfold shellF at h;split at h
 ·cases h
 rename_i hc
 have N7:v.k=d.ag:=by
  by_cases c:v.k=d.ag
  ·exact c
  ·exact absurd (.inl c) hc
 rcases (show (d.ag=5∨d.ag=6)∨d.ag=7∨d.ag=8 by omega) with c | c | c
 ·obtain ⟨e,he,hb,_⟩:=hN.one c;refine ⟨e,?_,by rw [he];exact List.mem_singleton_self e,hb⟩;unfold bY;rw [ah (by omega),ah (by omega),he];rfl
 ·rw [ah (by omega),ah (by omega),ai c,decide_eq_true_iff] at h;obtain ⟨e,he⟩:∃ e,d.av[m]? = some e:=⟨_,gE (by omega)⟩;refine ⟨e,?_,mG he,?_⟩
  ·unfold bY;rw [ai c,he]
  ·cases hb:e.bare
   ·rfl
   ·have:=hN.bare e (mG he) hb;omega
 ·rw [ah (by omega),ah (by omega),ah (by omega)] at h;split at h
  ·cases h
  cases he:d.av[v.n.toNat]? with
  | none=>rw [he] at h;cases h
  | some e=>
   rw [he] at h;simp only at h;refine ⟨e,?_,mG he,?_⟩
   ·unfold bY;rw [ah (by omega),ai c,he]
   ·cases hb:e.bare
    ·rfl
    ·rw [ai hb,decide_eq_true_iff] at h;omega
theorem IE {v:Val} {k n:Int} {s:ByteArray}:cA v k n s=true↔v = .mk k n s []:=by
 unfold cA;rw [aD,aD,aD,decide_eq_true_iff,decide_eq_true_iff,decide_eq_true_iff,decide_eq_true_iff,List.length_eq_zero_iff];obtain ⟨q,z,t,ks⟩:=v;rw [Val.mk.injEq];constructor
 ·intro ⟨⟨⟨a,b⟩,c⟩,d⟩;exact ⟨a,b,c,d⟩
 ·intro ⟨a,b,c,d⟩;exact ⟨⟨⟨a,b⟩,c⟩,d⟩
theorem QY {n u:Int} (hu:1<=u):bK n u=if n - n % u < -9223372036854775808 then (0,false) else (n - n % u,true):=by
 unfold bK;rw [ah (by omega)]
end
def cJ (v:Val):Bool:=decide (v.k=2) || (decide (v.k=3) || ((decide (v.k=9) && (decide (1<=v.n) && decide (v.n<=64))) || (decide (10<=v.k) && decide (v.k<=12))))
def ox (v:Val):List UInt8:=
 if v.k=2 then iw v.n else if v.k=3 then yo (tx v.s) else if v.k=9 then 60 :: (List.replicate v.n.toNat 42 ++ [62])
 else if v.k=10 then [60,126] ++ iw v.n ++ [62] else if v.k=11 then [60] ++ yo (tx v.s) ++ [46,46,62] else [60,35] ++ iw v.n ++ [62]
def eT (v:Val):List UInt8:=if cJ v=true then ox v else []
def nmE (d:Nd) (j:Nat):List UInt8:=match d.av[j]? with | some e=>tx e.name | none=>[]
def gG (d:Nd) (v:Val):List UInt8:=
 if v.k=1 then (if v.n=1 then [116,114,117,101] else [102,97,108,115,101])
 else if v.k=4 then (match d.af[v.n.toNat]? with | some s=>tx s | none=>[])
 else if v.k=5 then [91] else if v.k=6 then (if v.ks=[] then [110,111,110,101] else [115,111,109,101,40]) else if v.k=7 then [123]
 else if v.k=8 then (if v.ks=[] then nmE d v.n.toNat else nmE d v.n.toNat ++ [40])
 else eT v
def oy (v:Val):List UInt8:=if v.k=5 then [93] else if v.k=7 then [125] else if v.ks=[] then [] else [41]
section
variable (ND:List Nd)
mutual
def textV:Val->Int->List UInt8
 | .mk k n s ks,i=>match cT ND i with
  | none=>[]
  | some d=>gG d (.mk k n s ks) ++ textVs ks d n 0 ++ oy (.mk k n s ks)
def textVs:List Val->Nd->Int->Nat->List UInt8
 | [],_,_,_=>[]
 | x :: r,d,z,j=>((if j=0 then [] else [44,32]) ++ (match bY d z j with
  | none=>[]
  | some e=>(if d.ag=7 then tx e.name ++ [58,32] else []) ++ textV x e.to)) ++ textVs r d z (j + 1)
end
mutual
def gm:Val->Int->Bool
 | .mk k n s ks,i=>match cT ND i with
  | none=>false
  | some d=>if 9<=k then cJ (.mk k n s ks) && decide (ks=[]) else if k≠d.ag then false else if d.ag < 5 then decide (ks=[]) && (decide (k≠4) || decide (0<=n/\n < d.af.length)) else shellF d (.mk k n s ks) && iG ks d n 0
def iG:List Val->Nd->Int->Nat->Bool
 | [],_,_,_=>true
 | x :: r,d,z,j=>(match bY d z j with
  | none=>false
  | some e=>gm x e.to) && iG r d z (j + 1)
end
end
section
variable {ND:List Nd}
theorem uw:∀ {l:List Val} {d:Nd} {z:Int} {j:Nat} {x:Val},textVs ND (l ++ [x]) d z j=textVs ND l d z j ++ ((if j + l.length=0 then [] else [44,32]) ++ (match bY d z (j + l.length) with
  | none=>[]
  | some e=>(if d.ag=7 then tx e.name ++ [58,32] else []) ++ textV ND x e.to))
 | [],d,z,j,x=>by simp only [List.nil_append,textVs,List.append_nil,List.length_nil,Nat.add_zero]
 | y :: r,d,z,j,x=>by
  rw [List.cons_append,textVs,textVs,uw];simp only [List.length_cons];rw [show j + 1 + r.length=j + (r.length + 1) by omega];simp only [List.append_assoc]
theorem FM {ks:List Val} {d:Nd} {z:Int} {e:Nat} {x:Val} {ed:Ed} (h:ks[e]? = some x) (he:bY d z e=some ed) :
  textVs ND (ks.take (e + 1)) d z 0=textVs ND (ks.take e) d z 0 ++ ((if e=0 then [] else [44,32]) ++ ((if d.ag=7 then tx ed.name ++ [58,32] else []) ++ textV ND x ed.to)):=by
 have hl:(ks.take e).length=e:=by rw [zLenT];have:=(gS h).1;omega
 rw [List.take_add_one,h];show textVs ND (ks.take e ++ [x]) d z 0=_;rw [uw,hl,Nat.zero_add,he]
theorem oA:∀ {ks:List Val} {d:Nd} {z:Int} {j m:Nat} {x:Val},iG ND ks d z j=true->ks[m]? = some x->∃ e,bY d z (j + m)=some e/\gm ND x e.to=true
 | [],_,_,_,_,_,_,h=>by simp at h
 | y :: r,d,z,j,m,x,hw,h=>by
  rw [iG,aD] at hw
  cases m with
  | zero=>
   simp only [List.getElem?_cons_zero,oI] at h;subst h;rw [Nat.add_zero]
   cases he:bY d z j with
   | none=>rw [he] at hw;exact absurd hw.1 (by simp)
   | some e=>rw [he] at hw;exact ⟨e,rfl,hw.1⟩
  | succ m=>
   rw [show j + (m + 1)=j + 1 + m by omega];exact oA hw.2 (sU h)
theorem KO {z:Int} (h:sN z):(iw z).length<=21:=wS h.1 h.2
theorem MJ {v:Val} (h:sN v.n) (hk:cJ v=true):(ox v).length<=24 + 64 + 12 * v.s.size:=by
 have h1:=KO h;have h2:=yp (tx v.s);rw [bB] at h2;unfold ox
 repeat' split
 all_goals (try simp only [List.length_append,List.length_cons,List.length_nil,List.length_replicate])
 all_goals (try omega)
 rename_i c2 c3 c9;simp [cJ,c2,c3,c9] at hk;omega
end
end Go.Proofs.YtgjagnmeonoehaaGreat
set_option maxRecDepth 100000
namespace Go.Proofs
open Go.Shelf
def Tryz.lays105_ren:Go.Shelf.Ren:=⟨fun | 105=>311 | 212=>343 | 99=>344 | 165=>267 | 166=>74 | 170=>345 | 169=>76 | 263=>362 | 264=>363 | 206=>364 | 240=>149 | 241=>312 | 276=>217 | 277=>346 | n=>n,fun | 9=>9 | 3=>3 | 4=>4 | 20=>20 | 0=>0 | 46=>346 | 109=>422 | 5=>5 | 72=>160 | 76=>163 | 51=>384 | 146=>439 | 53=>295 | 148=>441 | 70=>157 | 37=>158 | 75=>162 | 127=>258 | 164=>316 | 80=>166 | n=>n,fun | n=>n⟩
theorem Tryz.lays105:Go.Proofs.Lays.n105 prog Tryz.lays105_ren:={
 mixed:=by kernel_rfl
 f99:=func344.trans (congrArg some (by kernel_rfl))
 f105:=func311.trans (congrArg some (by kernel_rfl))
 f165:=func267.trans (congrArg some (by kernel_rfl))
 f166:=func74.trans (congrArg some (by kernel_rfl))
 f169:=func76.trans (congrArg some (by kernel_rfl))
 f170:=func345.trans (congrArg some (by kernel_rfl))
 f206:=func364.trans (congrArg some (by kernel_rfl))
 f212:=func343.trans (congrArg some (by kernel_rfl))
 f240:=func149.trans (congrArg some (by kernel_rfl))
 f241:=func312.trans (congrArg some (by kernel_rfl))
 f263:=func362.trans (congrArg some (by kernel_rfl))
 f264:=func363.trans (congrArg some (by kernel_rfl))
 f276:=func217.trans (congrArg some (by kernel_rfl))
 f277:=func346.trans (congrArg some (by kernel_rfl))
 t0:=Tryz.underlying0
 a0:=Tryz.isAgg0
 z0:=Tryz.sizeOf0
 v0:=Tryz.zeroValue0
 t3:=Tryz.underlying3
 a3:=Tryz.isAgg3
 z3:=Tryz.sizeOf3
 v3:=Tryz.zeroValue3
 t4:=Tryz.underlying4
 a4:=Tryz.isAgg4
 z4:=Tryz.sizeOf4
 v4:=Tryz.zeroValue4
 t5:=Tryz.underlying5
 a5:=Tryz.isAgg5
 z5:=Tryz.sizeOf5
 v5:=Tryz.zeroValue5
 t9:=Tryz.underlying9
 a9:=Tryz.isAgg9
 z9:=Tryz.sizeOf9
 v9:=Tryz.zeroValue9
 t20:=Tryz.underlying20
 a20:=Tryz.isAgg20
 z20:=Tryz.sizeOf20
 v20:=Tryz.zeroValue20
 t37:=Tryz.underlying158
 a37:=Tryz.isAgg158
 z37:=Tryz.sizeOf158
 v37:=Tryz.zeroValue158
 t46:=Tryz.underlying346
 a46:=Tryz.isAgg346
 z46:=Tryz.sizeOf346
 v46:=Tryz.zeroValue346
 t51:=Tryz.underlying384
 a51:=Tryz.isAgg384
 z51:=Tryz.sizeOf384
 v51:=Tryz.zeroValue384
 t53:=Tryz.underlying295
 a53:=Tryz.isAgg295
 z53:=Tryz.sizeOf295
 v53:=Tryz.zeroValue295
 t70:=Tryz.underlying157
 a70:=Tryz.isAgg157
 z70:=Tryz.sizeOf157
 v70:=Tryz.zeroValue157
 t72:=Tryz.underlying160
 a72:=Tryz.isAgg160
 z72:=Tryz.sizeOf160
 v72:=Tryz.zeroValue160
 t75:=Tryz.underlying162
 a75:=Tryz.isAgg162
 z75:=Tryz.sizeOf162
 v75:=Tryz.zeroValue162
 t76:=Tryz.underlying163
 a76:=Tryz.isAgg163
 z76:=Tryz.sizeOf163
 v76:=Tryz.zeroValue163
 t109:=Tryz.underlying422
 a109:=Tryz.isAgg422
 z109:=Tryz.sizeOf422
 v109:=Tryz.zeroValue422
 t127:=Tryz.underlying258
 a127:=Tryz.isAgg258
 z127:=Tryz.sizeOf258
 v127:=Tryz.zeroValue258
 t146:=Tryz.underlying439
 a146:=Tryz.isAgg439
 z146:=Tryz.sizeOf439
 v146:=Tryz.zeroValue439
 t148:=Tryz.underlying441
 a148:=Tryz.isAgg441
 z148:=Tryz.sizeOf441
 v148:=Tryz.zeroValue441
 t164:=Tryz.underlying316
 a164:=Tryz.isAgg316
 z164:=Tryz.sizeOf316
 v164:=Tryz.zeroValue316 }
theorem Tryz.Builder_Extra_105:Builder.Extra prog Tryz.lays105_ren:={
 sizeBuilder:=by kernel_rfl
 liesBuilder:=by kernel_rfl
 t5:=Tryz.underlying5
 a5:=Tryz.isAgg5
 z5:=Tryz.sizeOf5
 v5:=Tryz.zeroValue5
 infoByte:=by kernel_rfl
 cellsByte:=by kernel_rfl
 sizeByte:=by kernel_rfl
 neB5:=by decide }
end Go.Proofs
namespace Go.Proofs.YtgjagnmeonoehaaGreat
open Go Go.RowKit Dv Go.Proofs.Tryz
theorem repeatL_one (c:UInt8):∀ n:Nat,Lib.repeatL [c] n=List.replicate n c
 | 0=>rfl
 | n + 1=>by
  have:=repeatL_one c n;simp [Lib.repeatL,List.replicate_succ] at this ⊢;exact this
theorem FN (c:UInt8) (n:Nat) (hn:n<=64):EvP prog 311 [.v (.string (ba [c])),.v (.int .i64 n)] (.v (.string (ba (List.replicate n c)))):=by
 refine LF fun E w vs hE hv=>?_;simp only [RvL] at hv;obtain ⟨v1,s1,rfl,h1,v2,s2,rfl,h2,rfl⟩:=hv;have h1:=bo h1;have h2:=bo h2;subst h1 h2;refine (Any.strings_Repeat Tryz.lays105 Tryz.Builder_Extra_105 (ba [c]) n w (by omega) (by show 1 * n<=_;omega)).mono ?_;rintro e w' ⟨rfl,hw⟩;refine ⟨_,rfl,?_,hw⟩;unfold Rv;refine ⟨?_,rfl⟩;rw [show (ba [c]).data.toList=[c] from rfl,repeatL_one]
end Go.Proofs.YtgjagnmeonoehaaGreat
set_option maxRecDepth 100000
namespace Go.Proofs.YtgjagnmeonoehaaGreat
open Go Go.RowKit Dv Go.Proofs.Tryz
theorem TV (a b c:List UInt8):(ba a ++ ba b) ++ ba c=ba (a ++ b ++ c):=(congrArg (·++ ba c) (mS a b)).trans (mS _ _)
section
variable {v:Val}
theorem lf_2 (h:v.k=2):cJ v=true/\eT v=iw v.n:=by
 have:cJ v=true:=by simp [cJ,h]
 exact ⟨this,by rw [eT,ai this,ox,ai h]⟩
theorem lf_3 (h:v.k=3):cJ v=true/\eT v=yo (tx v.s):=by
 have:cJ v=true:=by simp [cJ,h]
 exact ⟨this,by rw [eT,ai this,ox,ah (by omega),ai h]⟩
theorem lf_9 (h:v.k=9) (h1:1<=v.n) (h2:v.n<=64):cJ v=true/\eT v=60 :: (List.replicate v.n.toNat 42 ++ [62]):=by
 have:cJ v=true:=by simp [cJ,h,h1,h2]
 exact ⟨this,by rw [eT,ai this,ox,ah (by omega),ah (by omega),ai h]⟩
theorem adK (h:v.k=9) (h1:¬ (1<=v.n/\v.n<=64)):cJ v=false/\eT v=[]:=by
 have:cJ v=false:=by
  simp only [cJ,h];simp;omega
 exact ⟨this,by rw [eT,ah (by rw [this];simp)]⟩
theorem lf_10 (h:v.k=10):cJ v=true/\eT v=[60,126] ++ iw v.n ++ [62]:=by
 have:cJ v=true:=by simp [cJ,h]
 exact ⟨this,by rw [eT,ai this,ox,ah (by omega),ah (by omega),ah (by omega),ai h]⟩
theorem lf_11 (h:v.k=11):cJ v=true/\eT v=[60] ++ yo (tx v.s) ++ [46,46,62]:=by
 have:cJ v=true:=by simp [cJ,h]
 exact ⟨this,by rw [eT,ai this,ox,ah (by omega),ah (by omega),ah (by omega),ah (by omega),ai h]⟩
theorem lf_12 (h:v.k=12):cJ v=true/\eT v=[60,35] ++ iw v.n ++ [62]:=by
 have:cJ v=true:=by simp [cJ,h]
 exact ⟨this,by rw [eT,ai this,ox,ah (by omega),ah (by omega),ah (by omega),ah (by omega),ah (by omega)]⟩
theorem adL (h:v.k≠2/\v.k≠3/\v.k≠9/\v.k≠10/\v.k≠11/\v.k≠12):cJ v=false/\eT v=[]:=by
 have:cJ v=false:=by
  rw [Bool.eq_false_iff];intro c;simp [cJ] at c;omega
 exact ⟨this,by rw [eT,ah (by rw [this];simp)]⟩
end
theorem FO (v:Val) (hs:v.s.size<=1099511627776) (hn:sN v.n):EvP prog 261 [.agg (aH v)] (.tup [.v (.string (ba (eT v))),.v (.bool (cJ v))]):=by
 have hp:=Ej v.n hn.1 hn.2;have iJ:=KO hn;have hq:=Ix v.s hs;have Wb:=yp (tx v.s);rw [bB] at Wb;have hr:=fun (_:1<=v.n) (h2:v.n<=64)=>FN 42 v.n.toNat (by omega);have h2:=@lf_2 v;have h3:=@lf_3 v;have h9:=@lf_9 v;have h9n:=@adK v;have sq:=@lf_10 v;have h11:=@lf_11 v;have h12:=@lf_12 v;have eW:=@adL v;generalize eT v=S at *;generalize cJ v=B at *;obtain ⟨k,n,s,ks⟩:=v;simp only [Val.k,Val.n,Val.s] at *;refine eG 52 [.tmp 2,.tmp 3] func261 rfl ntmps261 rfl fun _ _ _ _=>?_;refine br ?_ ?_<;>intro c
 ·obtain ⟨rfl,rfl⟩:=h2 (sU c);refine cP JQ hp ?_;exact ⟨.tup [.v (.string _),.v (.bool _)],ax,rfl⟩
 have c2:¬ k=2:=sU c;refine br ?_ ?_<;>intro c
 ·obtain ⟨rfl,rfl⟩:=h3 (sU c);refine cP Vb hq ?_;exact ⟨.tup [.v (.string _),.v (.bool _)],ax,rfl⟩
 have c3:¬ k=3:=sU c;refine br ?_ ?_<;>intro c
 ·have c9:k=9:=sU c;refine br ?_ ?_<;>intro g
  ·obtain ⟨rfl,rfl⟩:=h9n c9 (by simp [ap] at g;omega);exact ⟨.tup [.v (.string _),.v (.bool _)],ax,rfl⟩
  ·have g:1<=n/\n<=64:=by simp [ap] at g;omega
   obtain ⟨rfl,rfl⟩:=h9 c9 g.1 g.2;have hr:=hr g.1 g.2;rw [show ((n.toNat:Nat):Int)=n by omega] at hr;refine cP abF hr ?_;refine ⟨by show 1 + (List.replicate n.toNat (42:UInt8)).length<=_;rw [List.length_replicate];omega,?_⟩;refine ⟨by rw [jM];show 1 + (List.replicate n.toNat (42:UInt8)).length + 1<=_;rw [List.length_replicate];omega,?_⟩;refine ⟨.tup [.v (.string _),.v (.bool _)],ax,?_⟩;exact Iv (TV [60] _ [62])
 have c9:¬ k=9:=sU c;refine br ?_ ?_<;>intro c
 ·obtain ⟨rfl,rfl⟩:=sq (sU c);refine cP JQ hp ?_;refine ⟨by show 2 + (iw n).length<=_;omega,?_⟩;refine ⟨by rw [jM];show 2 + (iw n).length + 1<=_;omega,?_⟩;refine ⟨.tup [.v (.string _),.v (.bool _)],ax,?_⟩;exact Iv (TV [60,126] _ [62])
 have c10:¬ k=10:=sU c;refine br ?_ ?_<;>intro c
 ·obtain ⟨rfl,rfl⟩:=h11 (sU c);refine cP Vb hq ?_;refine ⟨by show 1 + (yo (tx s)).length<=_;omega,?_⟩;refine ⟨by rw [jM];show 1 + (yo (tx s)).length + 3<=_;omega,?_⟩;refine ⟨.tup [.v (.string _),.v (.bool _)],ax,?_⟩;exact Iv (TV [60] _ [46,46,62])
 have c11:¬ k=11:=sU c;refine br ?_ ?_<;>intro c
 ·obtain ⟨rfl,rfl⟩:=h12 (sU c);refine cP JQ hp ?_;refine ⟨by show 2 + (iw n).length<=_;omega,?_⟩;refine ⟨by rw [jM];show 2 + (iw n).length + 1<=_;omega,?_⟩;refine ⟨.tup [.v (.string _),.v (.bool _)],ax,?_⟩;exact Iv (TV [60,35] _ [62])
 have c12:¬ k=12:=sU c;obtain ⟨rfl,rfl⟩:=eW ⟨c2,c3,c9,c10,c11,c12⟩;exact ⟨.tup [.v (.string _),.v (.bool _)],ax,rfl⟩
def FP (f:Nat->Nat->Bool) (c k:Nat):Bool:=(List.range k).all (f c)
theorem MK (f:Nat->Nat->Bool) (c k:Nat):FP f c (k + 1)=(FP f c k && f c k):=by simp [FP,List.range_succ]
theorem FQ (f:Nat->Nat->Bool) (n c:Nat):s9 f n [] c=FP f c n:=by simp [s9,ia,FP]
abbrev Wc (n:Nat) (f:Nat->Nat->Bool) (e:Nat):St:=⟨[aad 0 1 (dj (dW n f)),aaa 3 e],[],[]⟩
abbrev adM (n:Nat) (f:Nat->Nat->Bool) (e:Nat) (x:Bool) (k:Nat):St:=⟨[aad 0 1 (dj (dW n f)),aaa 3 e,aap 4 x,aaa 5 k],[],[]⟩
theorem zE (n:Nat) (f:Nat->Nat->Bool) (hn:n<=64):EvP prog 62 [.sl 1 (dj (dW n f)) none] (.v (.int .i64 (oz (ff f n [])))):=by
 have eP:=ib n f;refine eG 30 [.tmp 2] func62 rfl ntmps62 rfl fun _ _ _ _=>?_;refine lI (fun j st=>∃ e:Nat,st=Wc n f e/\e<=n/\(∀ c,c < e->s9 f n [] c=false)/\j=n - e) ⟨0,rfl,by omega,fun _ h=>by omega,rfl⟩ (wkM wB) ?_;rintro j st ⟨e,rfl,he,eW,rfl⟩;refine br ?_ ?_<;>intro hL
 ·have aq:e < n:=sV eP hL;refine lJ (fun k=>adM n f e (FP f e k) k) n (wkM (by repeat' (first | exact trivial | exact aw rfl | exact cq rfl | refine ⟨⟨_,rfl,?_⟩,?_⟩))) ?_;intro k hk;refine br ?_ ?_<;>intro od
  ·have iK:k < n:=sV eP od;have Me:=MK f e k;refine br ?_ ?_<;>intro g
   ·refine iX (dQ aq) ?_;refine iX (dc iK) ?_;have g:FP f e k=true:=sU g;rw [g,Bool.true_and] at Me;exact rE ⟨_,by omega,k + 1,rfl,by omega,rfl⟩ (wkM (gw (nxt iK (by omega)) Me.symm))
   ·have g:FP f e k=false:=sU g;rw [g,Bool.false_and] at Me;exact rE ⟨_,by omega,k + 1,rfl,by omega,rfl⟩ (wkM (gw (nxt iK (by omega)) Me.symm))
  ·have aS:k=n:=sW eP od;subst aS;refine br ?_ ?_<;>intro g
   ·have g:s9 f k [] e=true:=by rw [FQ];exact g
    rw [ff,cR aq g eW];exact (rfl:_=_)
   ·have g:s9 f k [] e=false:=by rw [FQ];exact g
    refine ⟨Wc k f (e + 1),(wkM (wB1 (nxt aq (by omega)))),k - (e + 1),by omega,e + 1,rfl,by omega,fun j hj=>?_,rfl⟩;rcases iM hj with hj | rfl
    ·exact eW j hj
    ·exact g
 ·have aS:e=n:=sW eP hL;subst aS;rw [ff,dn eW];exact (rfl:_=_)
theorem QZ {α:Type} {l:List α} {e:Nat} {x:α} {p:α->Bool} (h:l[e]? = some x):(l.drop e).all p=(p x && (l.drop (e + 1)).all p):=by
 obtain ⟨h1,h2⟩:=List.getElem?_eq_some_iff.1 h;rw [List.drop_eq_getElem_cons h1,h2,List.all_cons]
theorem CN (s:ch) (hs:s.s.size<=4611686018427387904):EvP prog 231 [.agg (lH s)] (.v (.bool (dR s))):=by
 have hr:=ji s.s hs;obtain ⟨k,n,t⟩:=s;have hF:dR ⟨k,n,t⟩=if k=1∨k=5 then decide (n=0) && bd t else if k=2 then decide (0<=n) && decide (t=⟨#[]⟩) else if k=3∨k=4 then decide (n=0) && decide (t=⟨#[]⟩) else false:=rfl
 generalize dR ⟨k,n,t⟩=F at hF ⊢;refine eG 39 [.tmp 2] func231 rfl ntmps231 rfl fun _ _ _ _=>?_;refine br ?_ ?_<;>intro c
 ·have c:k=1:=sU c;rw [ai (.inl c)] at hF;refine br (fun _=>?_) (fun g=>absurd g (by simp [c]));refine br ?_ ?_<;>intro g
  ·have g:n=0:=sU g;refine cP wo hr ?_;refine (aae ?_:);rw [hF];simp [g,pickB]
  ·have g:¬ n=0:=sU g;refine (aae ?_:);rw [hF];simp [g,pickB]
 have c1:¬ k=1:=sU c;refine br ?_ ?_<;>intro c
 ·have c:k=5:=sU c;rw [ai (.inr c)] at hF;refine br ?_ ?_<;>intro g
  ·have g:n=0:=sU g;refine cP wo hr ?_;refine (aae ?_:);rw [hF];simp [g,pickB]
  ·have g:¬ n=0:=sU g;refine (aae ?_:);rw [hF];simp [g,pickB]
 have c5:¬ k=5:=sU c;rw [ah (by omega)] at hF;refine br ?_ ?_<;>intro c
 ·have c:k=2:=sU c;rw [ai c] at hF;refine (aae ?_:);rw [hF];cases decide (0<=n)<;>rfl
 have c2:¬ k=2:=sU c;rw [ah c2] at hF;refine br ?_ ?_<;>intro c
 ·have c:k=3:=sU c;rw [ai (.inl c)] at hF;refine br (fun _=>?_) (fun g=>absurd g (by simp [c]));refine (aae ?_:);rw [hF];cases decide (n=0)<;>rfl
 have c3:¬ k=3:=sU c;refine br ?_ ?_<;>intro c
 ·have c:k=4:=sU c;rw [ai (.inr c)] at hF;refine (aae ?_:);rw [hF];cases decide (n=0)<;>rfl
 have c4:¬ k=4:=sU c;rw [ah (by omega)] at hF;subst hF;exact (rfl:_=_)
abbrev prSt (l:List ch) (e:Nat):St:=⟨[aad 8 3 (bm l),aaa 9 ((bm l).length),aaa 10 e],[],[]⟩
theorem ux (l:List ch) (hs:∀ s∈l,s.s.size<=4611686018427387904):EvP prog 166 [.sl 3 (bm l) none] (.v (.bool (lK l))):=by
 have bz:=fl l;have hF:lK l=(decide (l.length<=64) && l.all dR):=rfl;generalize lK l=F at hF ⊢;refine eG 18 [.tmp 2] func166 rfl ntmps166 rfl fun _ _ _ _=>?_;refine br ?_ ?_<;>intro g
 ·have:¬ l.length<=64:=by simp [bz] at g;omega
  rw [decide_eq_false this,Bool.false_and] at hF;subst hF;exact (rfl:_=_)
 have fQ:l.length<=64:=by simp [bz] at g;omega
 rw [decide_eq_true fQ,Bool.true_and] at hF;refine lI (fun j st=>∃ e:Nat,st=prSt l e/\e<=l.length/\F=(l.drop e).all dR/\j=l.length - e) ⟨0,rfl,by omega,hF,rfl⟩ (wkM wB) ?_;rintro j st ⟨e,rfl,he,aK,rfl⟩;refine br ?_ ?_<;>intro hL
 ·have aq:e < l.length:=sV bz hL;obtain ⟨x,hx⟩:=gX aq;have h1:=CN x (hs x (mG hx));rw [QZ hx] at aK;obtain ⟨xk,xn,xs⟩:=x;refine iX (fW hx) ?_;refine cP abh h1 ?_;refine br ?_ ?_<;>intro g
  ·have g:dR ⟨xk,xn,xs⟩=false:=sU g;rw [g,Bool.false_and] at aK;subst aK;exact (rfl:_=_)
  ·have g:dR ⟨xk,xn,xs⟩=true:=sU g;rw [g,Bool.true_and] at aK;exact rE ⟨_,by omega,e + 1,rfl,by omega,aK,rfl⟩ (wkM (wB1 (nxt aq (by omega))))
 ·have aS:l.length<=e:=sV bz hL;rw [List.drop_eq_nil_of_le aS] at aK;subst aK;exact (rfl:_=_)
end Go.Proofs.YtgjagnmeonoehaaGreat
