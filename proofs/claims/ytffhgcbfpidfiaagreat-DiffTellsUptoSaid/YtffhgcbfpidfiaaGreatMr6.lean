/- Part 6 of the proof: UTF-8: the program's lead, value; UTF-8: the program's Decode; UTF-8: the document's reckoned, Scalar, Encode; UTF-8: the document's Scalar, Encode; UTF-8, plain: the document's well-formed bytes are the program's; a text's first units; UTF-8: the document's begins, left, Decode; Tables of runes; the unit at a place: the program's and the document's; The library's copyCheck of strings.Builder, laid at this program; The library's Builder at this program: what WriteString and String do to memory, exactly; Rules for the evaluator: the library's Builder, written and read; Rules for the evaluator: the library's Builder: WriteByte, WriteString of any text; a call that is handed a Builder; Texts in quotes: plain; numbers in sixteens; Texts in quotes: numbers in sixteens, which runes may steer a terminal; Texts in quotes: short escapes, kinds of runes; Texts in quotes: the unit at a place, as it is written; Texts in quotes: the document's unit; the program's and the document's Quote; Texts in quotes: the program's and the document's Quote; Values that are the same; Which values fit which nodes: plain, as the program finds it and as the document says it; tree's leaf, kids, Fits; tree.Fits; the document's To, Fits; Values as they are written: plain; tree.write, Raw; Paths: data, Step compared with itself; ref09.Begins, Same on the same path; ref25.Step; A lattice, as its readers know it; Leq; joins are the document's; Where steps lead in a plan, and how places are seen, plain; What is seen of values, and where that differs, plain; Which values may be what is seen of one, plain; How what is seen of values is written: plain; The library's strings.Repeat, laid at this program by the kit's tool (lay-plain; wip/tools/plain2tpl.py); How values without names are written: the program's and the document's Leaf; The document's Bottom, Right of paths; the program's Right of paths. No condition. -/
import Derived.Shelf.Strings.OnBuilder
import Derived.Shelf.RegionOpenPlain
import Derived.Lib.Strings
import Derived.Lib.Slices
import Derived.Lib.Walk
import Derived.Lib.Builder
import Derived.Lib.AppendStr
import Derived.Lib.UnsafeStr
import Derived.WalkKit
import Derived.Laws.Externs
import Derived.Lib.Hide
import Derived.Shelf.Strings.Repeat
import Derived.Test.YtffhgcbfpidfiaaGreatMr2
import Derived.Test.YtffhgcbfpidfiaaGreatMr3
import Derived.Test.YtffhgcbfpidfiaaGreatMr4
import Derived.Test.YtffhgcbfpidfiaaGreatMr5
set_option linter.all false
set_option maxRecDepth 100000
namespace Go.Proofs.YtffhgcbfpidfiaaGreat
open Go Go.RowKit Dv Go.Proofs.Tryz
def aR (c:Nat):Nat:=if c < 128 then 1 else if 194<=c/\c<=223 then 2 else if 224<=c/\c<=239 then 3 else if 240<=c/\c<=244 then 4 else 0
def gB (c:Nat):Nat:=if c=224 then 160 else if c=240 then 144 else 128
def gC (c:Nat):Nat:=if c=237 then 159 else if c=244 then 143 else 191
theorem KV (c:Nat):EvP prog 259 [.v (.int .u8 c)] (.tup [.v (.int .i64 (aR c:Nat)),.v (.int .u8 (gB c:Nat)),.v (.int .u8 (gC c:Nat))]):=by
 have hN:aR c=if c < 128 then 1 else if 194<=c/\c<=223 then 2 else if 224<=c/\c<=239 then 3 else if 240<=c/\c<=244 then 4 else 0:=rfl
 have hL:gB c=if c=224 then 160 else if c=240 then 144 else 128:=rfl
 have hH:gC c=if c=237 then 159 else if c=244 then 143 else 191:=rfl
 generalize aR c=N at hN ⊢;generalize gB c=L at hL ⊢;generalize gC c=H at hH ⊢;refine eG 41 [.tmp 2,.tmp 3,.tmp 4] func259 rfl ntmps259 rfl fun _ _ _ _=>?_;refine br ?_ ?_<;>intro c1
 ·have c1:(c:Int) < 128:=sU c1;refine br ?_ ?_<;>intro g
  ·have g:(c:Int)=224:=sU g
   have hn:N=1:=by
    rw [hN]
    repeat' split
    all_goals omega
   have hl:L=160:=by
    rw [hL]
    repeat' split
    all_goals omega
   have hh:H=191:=by
    rw [hH]
    repeat' split
    all_goals omega
   rw [hn,hl,hh];exact ⟨_,ax,rfl⟩
  have Si:¬ (c:Int)=224:=sU g;refine br ?_ ?_<;>intro g
  ·have g:(c:Int)=237:=sU g
   have hn:N=1:=by
    rw [hN]
    repeat' split
    all_goals omega
   have hl:L=128:=by
    rw [hL]
    repeat' split
    all_goals omega
   have hh:H=159:=by
    rw [hH]
    repeat' split
    all_goals omega
   rw [hn,hl,hh];exact ⟨_,ax,rfl⟩
  have Sj:¬ (c:Int)=237:=sU g;refine br ?_ ?_<;>intro g
  ·have g:(c:Int)=240:=sU g
   have hn:N=1:=by
    rw [hN]
    repeat' split
    all_goals omega
   have hl:L=144:=by
    rw [hL]
    repeat' split
    all_goals omega
   have hh:H=191:=by
    rw [hH]
    repeat' split
    all_goals omega
   rw [hn,hl,hh];exact ⟨_,ax,rfl⟩
  have Sk:¬ (c:Int)=240:=sU g;refine br ?_ ?_<;>intro g
  ·have g:(c:Int)=244:=sU g
   have hn:N=1:=by
    rw [hN]
    repeat' split
    all_goals omega
   have hl:L=128:=by
    rw [hL]
    repeat' split
    all_goals omega
   have hh:H=143:=by
    rw [hH]
    repeat' split
    all_goals omega
   rw [hn,hl,hh];exact ⟨_,ax,rfl⟩
  have Sm:¬ (c:Int)=244:=sU g
  have hn:N=1:=by
   rw [hN]
   repeat' split
   all_goals omega
  have hl:L=128:=by
   rw [hL]
   repeat' split
   all_goals omega
  have hh:H=191:=by
   rw [hH]
   repeat' split
   all_goals omega
  rw [hn,hl,hh];exact ⟨_,ax,rfl⟩
 have c1:¬ (c:Int) < 128:=sU c1;refine br ?_ ?_<;>intro k
 ·have k:194<=(c:Int)/\(c:Int)<=223:=by simpa [pickB_and] using k
  refine br ?_ ?_<;>intro g
  ·have g:(c:Int)=224:=sU g
   have hn:N=2:=by
    rw [hN]
    repeat' split
    all_goals omega
   have hl:L=160:=by
    rw [hL]
    repeat' split
    all_goals omega
   have hh:H=191:=by
    rw [hH]
    repeat' split
    all_goals omega
   rw [hn,hl,hh];exact ⟨_,ax,rfl⟩
  have Si:¬ (c:Int)=224:=sU g;refine br ?_ ?_<;>intro g
  ·have g:(c:Int)=237:=sU g
   have hn:N=2:=by
    rw [hN]
    repeat' split
    all_goals omega
   have hl:L=128:=by
    rw [hL]
    repeat' split
    all_goals omega
   have hh:H=159:=by
    rw [hH]
    repeat' split
    all_goals omega
   rw [hn,hl,hh];exact ⟨_,ax,rfl⟩
  have Sj:¬ (c:Int)=237:=sU g;refine br ?_ ?_<;>intro g
  ·have g:(c:Int)=240:=sU g
   have hn:N=2:=by
    rw [hN]
    repeat' split
    all_goals omega
   have hl:L=144:=by
    rw [hL]
    repeat' split
    all_goals omega
   have hh:H=191:=by
    rw [hH]
    repeat' split
    all_goals omega
   rw [hn,hl,hh];exact ⟨_,ax,rfl⟩
  have Sk:¬ (c:Int)=240:=sU g;refine br ?_ ?_<;>intro g
  ·have g:(c:Int)=244:=sU g
   have hn:N=2:=by
    rw [hN]
    repeat' split
    all_goals omega
   have hl:L=128:=by
    rw [hL]
    repeat' split
    all_goals omega
   have hh:H=143:=by
    rw [hH]
    repeat' split
    all_goals omega
   rw [hn,hl,hh];exact ⟨_,ax,rfl⟩
  have Sm:¬ (c:Int)=244:=sU g
  have hn:N=2:=by
   rw [hN]
   repeat' split
   all_goals omega
  have hl:L=128:=by
   rw [hL]
   repeat' split
   all_goals omega
  have hh:H=191:=by
   rw [hH]
   repeat' split
   all_goals omega
  rw [hn,hl,hh];exact ⟨_,ax,rfl⟩
 have k194:¬ (194<=(c:Int)/\(c:Int)<=223):=by simpa [pickB_and] using k
 refine br ?_ ?_<;>intro k
 ·have k:224<=(c:Int)/\(c:Int)<=239:=by simpa [pickB_and] using k
  refine br ?_ ?_<;>intro g
  ·have g:(c:Int)=224:=sU g
   have hn:N=3:=by
    rw [hN]
    repeat' split
    all_goals omega
   have hl:L=160:=by
    rw [hL]
    repeat' split
    all_goals omega
   have hh:H=191:=by
    rw [hH]
    repeat' split
    all_goals omega
   rw [hn,hl,hh];exact ⟨_,ax,rfl⟩
  have Si:¬ (c:Int)=224:=sU g;refine br ?_ ?_<;>intro g
  ·have g:(c:Int)=237:=sU g
   have hn:N=3:=by
    rw [hN]
    repeat' split
    all_goals omega
   have hl:L=128:=by
    rw [hL]
    repeat' split
    all_goals omega
   have hh:H=159:=by
    rw [hH]
    repeat' split
    all_goals omega
   rw [hn,hl,hh];exact ⟨_,ax,rfl⟩
  have Sj:¬ (c:Int)=237:=sU g;refine br ?_ ?_<;>intro g
  ·have g:(c:Int)=240:=sU g
   have hn:N=3:=by
    rw [hN]
    repeat' split
    all_goals omega
   have hl:L=144:=by
    rw [hL]
    repeat' split
    all_goals omega
   have hh:H=191:=by
    rw [hH]
    repeat' split
    all_goals omega
   rw [hn,hl,hh];exact ⟨_,ax,rfl⟩
  have Sk:¬ (c:Int)=240:=sU g;refine br ?_ ?_<;>intro g
  ·have g:(c:Int)=244:=sU g
   have hn:N=3:=by
    rw [hN]
    repeat' split
    all_goals omega
   have hl:L=128:=by
    rw [hL]
    repeat' split
    all_goals omega
   have hh:H=143:=by
    rw [hH]
    repeat' split
    all_goals omega
   rw [hn,hl,hh];exact ⟨_,ax,rfl⟩
  have Sm:¬ (c:Int)=244:=sU g
  have hn:N=3:=by
   rw [hN]
   repeat' split
   all_goals omega
  have hl:L=128:=by
   rw [hL]
   repeat' split
   all_goals omega
  have hh:H=191:=by
   rw [hH]
   repeat' split
   all_goals omega
  rw [hn,hl,hh];exact ⟨_,ax,rfl⟩
 have k224:¬ (224<=(c:Int)/\(c:Int)<=239):=by simpa [pickB_and] using k
 refine br ?_ ?_<;>intro k
 ·have k:240<=(c:Int)/\(c:Int)<=244:=by simpa [pickB_and] using k
  refine br ?_ ?_<;>intro g
  ·have g:(c:Int)=224:=sU g
   have hn:N=4:=by
    rw [hN]
    repeat' split
    all_goals omega
   have hl:L=160:=by
    rw [hL]
    repeat' split
    all_goals omega
   have hh:H=191:=by
    rw [hH]
    repeat' split
    all_goals omega
   rw [hn,hl,hh];exact ⟨_,ax,rfl⟩
  have Si:¬ (c:Int)=224:=sU g;refine br ?_ ?_<;>intro g
  ·have g:(c:Int)=237:=sU g
   have hn:N=4:=by
    rw [hN]
    repeat' split
    all_goals omega
   have hl:L=128:=by
    rw [hL]
    repeat' split
    all_goals omega
   have hh:H=159:=by
    rw [hH]
    repeat' split
    all_goals omega
   rw [hn,hl,hh];exact ⟨_,ax,rfl⟩
  have Sj:¬ (c:Int)=237:=sU g;refine br ?_ ?_<;>intro g
  ·have g:(c:Int)=240:=sU g
   have hn:N=4:=by
    rw [hN]
    repeat' split
    all_goals omega
   have hl:L=144:=by
    rw [hL]
    repeat' split
    all_goals omega
   have hh:H=191:=by
    rw [hH]
    repeat' split
    all_goals omega
   rw [hn,hl,hh];exact ⟨_,ax,rfl⟩
  have Sk:¬ (c:Int)=240:=sU g;refine br ?_ ?_<;>intro g
  ·have g:(c:Int)=244:=sU g
   have hn:N=4:=by
    rw [hN]
    repeat' split
    all_goals omega
   have hl:L=128:=by
    rw [hL]
    repeat' split
    all_goals omega
   have hh:H=143:=by
    rw [hH]
    repeat' split
    all_goals omega
   rw [hn,hl,hh];exact ⟨_,ax,rfl⟩
  have Sm:¬ (c:Int)=244:=sU g
  have hn:N=4:=by
   rw [hN]
   repeat' split
   all_goals omega
  have hl:L=128:=by
   rw [hL]
   repeat' split
   all_goals omega
  have hh:H=191:=by
   rw [hH]
   repeat' split
   all_goals omega
  rw [hn,hl,hh];exact ⟨_,ax,rfl⟩
 have k240:¬ (240<=(c:Int)/\(c:Int)<=244):=by simpa [pickB_and] using k
 refine br ?_ ?_<;>intro g
 ·have g:(c:Int)=224:=sU g
  have hn:N=0:=by
   rw [hN]
   repeat' split
   all_goals omega
  have hl:L=160:=by
   rw [hL]
   repeat' split
   all_goals omega
  have hh:H=191:=by
   rw [hH]
   repeat' split
   all_goals omega
  rw [hn,hl,hh];exact ⟨_,ax,rfl⟩
 have Si:¬ (c:Int)=224:=sU g;refine br ?_ ?_<;>intro g
 ·have g:(c:Int)=237:=sU g
  have hn:N=0:=by
   rw [hN]
   repeat' split
   all_goals omega
  have hl:L=128:=by
   rw [hL]
   repeat' split
   all_goals omega
  have hh:H=159:=by
   rw [hH]
   repeat' split
   all_goals omega
  rw [hn,hl,hh];exact ⟨_,ax,rfl⟩
 have Sj:¬ (c:Int)=237:=sU g;refine br ?_ ?_<;>intro g
 ·have g:(c:Int)=240:=sU g
  have hn:N=0:=by
   rw [hN]
   repeat' split
   all_goals omega
  have hl:L=144:=by
   rw [hL]
   repeat' split
   all_goals omega
  have hh:H=191:=by
   rw [hH]
   repeat' split
   all_goals omega
  rw [hn,hl,hh];exact ⟨_,ax,rfl⟩
 have Sk:¬ (c:Int)=240:=sU g;refine br ?_ ?_<;>intro g
 ·have g:(c:Int)=244:=sU g
  have hn:N=0:=by
   rw [hN]
   repeat' split
   all_goals omega
  have hl:L=128:=by
   rw [hL]
   repeat' split
   all_goals omega
  have hh:H=143:=by
   rw [hH]
   repeat' split
   all_goals omega
  rw [hn,hl,hh];exact ⟨_,ax,rfl⟩
 have Sm:¬ (c:Int)=244:=sU g
 have hn:N=0:=by
  rw [hN]
  repeat' split
  all_goals omega
 have hl:L=128:=by
  rw [hL]
  repeat' split
  all_goals omega
 have hh:H=191:=by
  rw [hH]
  repeat' split
  all_goals omega
 rw [hn,hl,hh];exact ⟨_,ax,rfl⟩
def recV:List UInt8->Int
 | [a]=>a.toNat
 | [a,b]=>(a.toNat - 192) * 64 + (b.toNat - 128)
 | [a,b,c]=>(a.toNat - 224) * 4096 + (b.toNat - 128) * 64 + (c.toNat - 128)
 | [a,b,c,d]=>(a.toNat - 240) * 262144 + (b.toNat - 128) * 4096 + (c.toNat - 128) * 64 + (d.toNat - 128)
 | _=>0
def O4:List UInt8->Bool
 | [a]=>decide (a.toNat < 128)
 | [a,b]=>decide (192<=a.toNat/\a.toNat < 224/\128<=b.toNat/\b.toNat < 192)
 | [a,b,c]=>decide (224<=a.toNat/\a.toNat < 240/\128<=b.toNat/\b.toNat < 192/\128<=c.toNat/\c.toNat < 192)
 | [a,b,c,d]=>decide (240<=a.toNat/\a.toNat < 248/\128<=b.toNat/\b.toNat < 192/\128<=c.toNat/\c.toNat < 192/\128<=d.toNat/\d.toNat < 192)
 | _=>false
theorem KW {n:Int} (h1 : -2147483648<=n) (h2:n<=2147483647):IntKind.i32.wrap n=n:=by
 simp [IntKind.wrap,IntKind.min,IntKind.max,IntKind.signed,IntKind.bits];omega
theorem Sn {x:Nat} (h:x < 4294967296):(BitVec.ofInt 32 (x:Int)).toNat=x:=by
 rw [BitVec.toNat_ofInt];omega
theorem O5 {x m:Nat} (k:Nat) (hk:m=2 ^ k - 1) (hm:m < 256) (h:x < 256):IntKind.i32.wrap ((BitVec.ofInt IntKind.i32.bits (IntKind.i32.wrap (x:Int)) &&& BitVec.ofInt IntKind.i32.bits (m:Int)).toNat:Nat)=((x % 2 ^ k:Nat):Int):=by
 rw [KW (n:=(x:Int)) (by omega) (by omega)];show IntKind.i32.wrap ((BitVec.ofInt 32 (x:Int) &&& BitVec.ofInt 32 (m:Int)).toNat:Nat)=_;rw [BitVec.toNat_and,Sn (by omega),Sn (by omega),hk,Nat.and_two_pow_sub_one_eq_mod];have:=Nat.mod_le x (2 ^ k);exact KW (by omega) (by omega)
theorem zM {x:Nat} (hx:x < 256):IntKind.i32.wrap (IntKind.u8.wrap ((BitVec.ofInt IntKind.u8.bits (x:Int) &&& BitVec.ofInt IntKind.u8.bits 63).toNat:Nat))=((x % 64:Nat):Int):=by
 show IntKind.i32.wrap (IntKind.u8.wrap ((BitVec.ofInt 8 (x:Int) &&& BitVec.ofInt 8 63).toNat:Nat))=_;have e:(BitVec.ofInt 8 (x:Int)).toNat=x:=by rw [BitVec.toNat_ofInt];omega
 rw [BitVec.toNat_and,e,show (BitVec.ofInt 8 63).toNat=2 ^ 6 - 1 from rfl,Nat.and_two_pow_sub_one_eq_mod];rw [IntKind.wrap_u8'];rw [KW (by omega) (by omega)];omega
theorem KX {x y:Nat} (h:x < 1000000) (hy:y < 64):IntKind.i32.wrap ((BitVec.ofInt IntKind.i32.bits (IntKind.i32.wrap ((x:Int) * 2 ^ min (Int.toNat 6) IntKind.i32.bits)) ||| BitVec.ofInt IntKind.i32.bits (y:Int)).toNat:Nat)=((x * 64 + y:Nat):Int):=by
 show IntKind.i32.wrap ((BitVec.ofInt 32 (IntKind.i32.wrap ((x:Int) * 64)) ||| BitVec.ofInt 32 (y:Int)).toNat:Nat)=_;rw [KW (n:=(x:Int) * 64) (by omega) (by omega),show (x:Int) * 64=((x * 64:Nat):Int) by omega,BitVec.toNat_or,Sn (by omega),Sn (by omega)];have:=Nat.shiftLeft_add_eq_or_of_lt (i:=6) (b:=y) hy x;rw [Nat.shiftLeft_eq] at this;rw [show x * 64=x * 2 ^ 6 from rfl,<- this];exact KW (by omega) (by omega)
theorem yo {s:ByteArray} {l:List UInt8} (hl:tx s=l) {z:Int} (k:Nat) (hz:z.toNat=k):de s z.toNat=(l.getD k 0).toNat:=by
 rw [hz,<- hl];all_goals rfl
theorem GP (s:ByteArray) (h:1<=s.size/\s.size<=4):Ev prog 260 [.v (.string s)] [] [] (fun r _ _=>∃ z:Int,r = .v (.int .i32 z)/\(O4 (tx s)=true->z=recV (tx s))):=by
 have eZ:=bB s;refine eG 57 [.tmp 2] func260 rfl ntmps260 rfl fun _ _ _ _=>?_;refine br ?_ ?_<;>intro c1
 ·refine ⟨⟨by omega,by omega⟩,?_⟩;have c1:s.size=1:=by have:=of_decide_eq_true c1;omega
  obtain ⟨a,hl⟩:∃ a,tx s=[a]:=by
   rw [c1] at eZ
   match tx s,eZ with
   | [a],_=>exact ⟨a,rfl⟩
  refine ⟨_,rfl,fun _=>?_⟩;have ha:=a.toNat_lt;rw [yo hl 0 rfl,hl];exact KW (by show _<=(a.toNat:Int);omega) (by show (a.toNat:Int)<=_;omega)
 ·refine dI ?_;refine ⟨⟨by omega,by omega⟩,?_⟩;have hw7:IntKind.i64.wrap (7 - (s.size:Int))=7 - s.size:=wrap64 (by omega) (by omega);have kv:IntKind.i64.wrap (1 + 1)=2:=rfl;have Qx:IntKind.i64.wrap (IntKind.i64.wrap (1 + 1) + 1)=3:=rfl
  have c1:¬ s.size=1:=by
   have:=of_decide_eq_false c1;omega
  refine ⟨by rw [hw7];omega,?_⟩;refine br ?_ ?_<;>intro c4
  ·have c4:s.size=4:=by have:=of_decide_eq_true c4;omega
   refine ⟨by omega,?_⟩;refine ⟨⟨by first | omega | (rw [kv];omega),by first | omega | (rw [kv];omega)⟩,?_⟩;refine ⟨by omega,?_⟩;refine ⟨⟨by first | omega | (rw [kv];omega),by first | omega | (rw [kv];omega)⟩,?_⟩;refine ⟨by omega,?_⟩;refine ⟨⟨by first | omega | (rw [Qx];omega),by first | omega | (rw [Qx];omega)⟩,?_⟩
   obtain ⟨a,b,c,d,hl⟩:∃ a b c d,tx s=[a,b,c,d]:=by
    rw [c4] at eZ
    match tx s,eZ with
    | [a,b,c,d],_=>exact ⟨a,b,c,d,rfl⟩
   refine ⟨_,rfl,fun hi=>?_⟩;have ha:=a.toNat_lt;have hb:=b.toNat_lt;have hc:=c.toNat_lt;have hd:=d.toNat_lt;have hm:IntKind.i32.wrap (IntKind.i32.wrap (1 * 2 ^ min (IntKind.i64.wrap (7 - (s.size:Int))).toNat IntKind.i32.bits) - 1)=((7:Nat):Int):=by rw [c4];all_goals rfl
   rw [hm,yo hl 0 rfl,yo hl 1 rfl,yo hl 2 rfl,yo hl 3 rfl];simp only [List.getD_cons_zero,List.getD_cons_succ];rw [O5 3 rfl (by omega) ha,zM hb,KX (by omega) (by omega),zM hc,KX (by omega) (by omega),zM hd,KX (by omega) (by omega)];rw [hl] at hi ⊢;rw [O4,decide_eq_true_iff] at hi;simp only [recV];omega
  have c4:¬ s.size=4:=by have:=of_decide_eq_false c4;omega
  refine br ?_ ?_<;>intro c3
  ·have c3:s.size=3:=by have:=of_decide_eq_true c3;omega
   refine ⟨by omega,?_⟩;refine ⟨⟨by first | omega | (rw [kv];omega),by first | omega | (rw [kv];omega)⟩,?_⟩;refine ⟨by omega,?_⟩;refine ⟨⟨by first | omega | (rw [kv];omega),by first | omega | (rw [kv];omega)⟩,?_⟩
   obtain ⟨a,b,c,hl⟩:∃ a b c,tx s=[a,b,c]:=by
    rw [c3] at eZ
    match tx s,eZ with
    | [a,b,c],_=>exact ⟨a,b,c,rfl⟩
   refine ⟨_,rfl,fun hi=>?_⟩;have ha:=a.toNat_lt;have hb:=b.toNat_lt;have hc:=c.toNat_lt;have hm:IntKind.i32.wrap (IntKind.i32.wrap (1 * 2 ^ min (IntKind.i64.wrap (7 - (s.size:Int))).toNat IntKind.i32.bits) - 1)=((15:Nat):Int):=by rw [c3];all_goals rfl
   rw [hm,yo hl 0 rfl,yo hl 1 rfl,yo hl 2 rfl];simp only [List.getD_cons_zero,List.getD_cons_succ];rw [O5 4 rfl (by omega) ha,zM hb,KX (by omega) (by omega),zM hc,KX (by omega) (by omega)];rw [hl] at hi ⊢;rw [O4,decide_eq_true_iff] at hi;simp only [recV];omega
  have c3:¬ s.size=3:=by have:=of_decide_eq_false c3;omega
  refine br ?_ ?_<;>intro c2
  ·have c2:s.size=2:=by have:=of_decide_eq_true c2;omega
   refine ⟨by omega,?_⟩;refine ⟨⟨by first | omega | (rw [kv];omega),by first | omega | (rw [kv];omega)⟩,?_⟩
   obtain ⟨a,b,hl⟩:∃ a b,tx s=[a,b]:=by
    rw [c2] at eZ
    match tx s,eZ with
    | [a,b],_=>exact ⟨a,b,rfl⟩
   refine ⟨_,rfl,fun hi=>?_⟩;have ha:=a.toNat_lt;have hb:=b.toNat_lt;have hm:IntKind.i32.wrap (IntKind.i32.wrap (1 * 2 ^ min (IntKind.i64.wrap (7 - (s.size:Int))).toNat IntKind.i32.bits) - 1)=((31:Nat):Int):=by rw [c2];all_goals rfl
   rw [hm,yo hl 0 rfl,yo hl 1 rfl];simp only [List.getD_cons_zero,List.getD_cons_succ];rw [O5 5 rfl (by omega) ha,zM hb,KX (by omega) (by omega)];rw [hl] at hi ⊢;rw [O4,decide_eq_true_iff] at hi;simp only [recV];omega
  ·exfalso;have:=of_decide_eq_false c2;omega
def ji (c i b:Nat):Bool:=if i=0 then decide (gB c<=b) && decide (b<=gC c) else decide (128<=b) && decide (b<=191)
def allC (c:Nat) (r:List UInt8) (k:Nat):Bool:=(List.range k).all fun i=>match r[i]? with
 | some b=>ji c i b.toNat
 | none=>false
theorem KY (c:Nat) (r:List UInt8) (k:Nat):allC c r (k + 1)=(allC c r k && match r[k]? with | some b=>ji c k b.toNat | none=>false):=by
 simp only [allC,List.range_succ,List.all_append,List.all_cons,List.all_nil,Bool.and_true]
theorem uA {c:Nat} {r:List UInt8} {k n:Nat} (h:k < n) (hk:(match r[k]? with | some b=>ji c k b.toNat | none=>false)=false):allC c r n=false:=by
 cases ha:allC c r n
 ·rfl
 ·unfold allC at ha;rw [List.all_eq_true] at ha;have:=ha k (List.mem_range.2 h);rw [hk] at this;cases this
def nu:List UInt8->Bool
 | []=>false
 | c :: r=>decide (1<=aR c.toNat) && allC c.toNat r (aR c.toNat - 1)
def kk:List UInt8->Nat
 | []=>0
 | c :: r=>if nu (c :: r)=true then aR c.toNat else 1
theorem GQ {c:UInt8} {r:List UInt8} (h:nu (c :: r)=true):O4 ((c :: r).take (aR c.toNat))=true:=by
 unfold nu at h;rw [Bool.and_eq_true,decide_eq_true_iff] at h;obtain ⟨h1,h2⟩:=h
 have hb:∀ i,i < aR c.toNat - 1->∃ b:UInt8,r[i]? = some b/\128<=b.toNat/\b.toNat < 192:=fun i hi=>by
  unfold allC at h2;rw [List.all_eq_true] at h2;have h3:=h2 i (List.mem_range.2 hi)
  cases hr:r[i]? with
  | none=>rw [hr] at h3;cases h3
  | some b=>
   rw [hr] at h3;refine ⟨b,rfl,?_⟩;simp only [ji] at h3
   have hL:128<=gB c.toNat:=by
    unfold gB
    repeat' split
    all_goals omega
   have hH:gC c.toNat<=191:=by
    unfold gC
    repeat' split
    all_goals omega
   split at h3<;>(rw [Bool.and_eq_true,decide_eq_true_iff,decide_eq_true_iff] at h3;omega)
 have hn:(aR c.toNat=1/\c.toNat < 128)∨(aR c.toNat=2/\192<=c.toNat/\c.toNat < 224)∨(aR c.toNat=3/\224<=c.toNat/\c.toNat < 240)∨(aR c.toNat=4/\240<=c.toNat/\c.toNat < 248):=by
  unfold aR at h1 ⊢
  repeat' split at h1
  all_goals (repeat' split)
  all_goals omega
 rcases hn with ⟨hn,hc⟩ | ⟨hn,hc⟩ | ⟨hn,hc⟩ | ⟨hn,hc⟩<;>rw [hn] at hb ⊢
 ·simp [O4,hc]
 ·obtain ⟨b,h5,h6⟩:=hb 0 (by omega)
  match r,h5 with
  | x :: r,h5=>
   simp only [List.getElem?_cons_zero,oI] at h5;subst h5;simp [O4];omega
 ·obtain ⟨b,h5,h6⟩:=hb 0 (by omega);obtain ⟨b',h7,h8⟩:=hb 1 (by omega)
  match r,h5,h7 with
  | x :: y :: r,h5,h7=>
   simp only [List.getElem?_cons_zero,List.getElem?_cons_succ,oI] at h5 h7;subst h5 h7;simp [O4];omega
 ·obtain ⟨b,h5,h6⟩:=hb 0 (by omega);obtain ⟨b',h7,h8⟩:=hb 1 (by omega);obtain ⟨b2,h9,ru⟩:=hb 2 (by omega)
  match r,h5,h7,h9 with
  | x :: y :: v :: r,h5,h7,h9=>
   simp only [List.getElem?_cons_zero,List.getElem?_cons_succ,oI] at h5 h7 h9;subst h5 h7 h9;simp [O4];omega
set_option maxHeartbeats 4000000 in
theorem zN (s:ByteArray) (aD:Nat) (hs:s.size<=1099511627776) (c:UInt8) (r:List UInt8) (h:(tx s).drop aD=c :: r) :
  Ev prog 235 [.v (.string s),.v (.int .i64 aD)] [] [] (fun d _ _=>∃ (z:Int) (n:Nat),d = .tup [.v (.int .i32 z),.v (.int .i64 n),.v (.bool (nu (c :: r)))]/\(nu (c :: r)=true->n=aR c.toNat/\z=recV ((c :: r).take n))/\1<=n):=by
 have hlen:aD < s.size:=by
  have:=congrArg List.length h;rw [List.length_drop,bB] at this;simp at this;omega
 have hB:tx (s.extract (aD:Int).toNat (s.size:Int).toNat)=c :: r:=by
  rw [<- h];simp [tx,Int.toNat_natCast];exact List.take_of_length_le (by rw [List.length_drop];have:=bB s;unfold tx at this;omega)
 have bJ:(s.extract (aD:Int).toNat (s.size:Int).toNat).size=r.length + 1:=by rw [<- bB,hB];all_goals rfl
 have Qz:∀ (k:Nat) b,r[k]? = some b->de (s.extract (aD:Int).toNat (s.size:Int).toNat) (k + 1)=b.toNat:=fun k b hk=>by
  show ((tx _).getD (k + 1) 0).toNat=_;rw [hB];simp [List.getD_eq_getElem?_getD,hk]
 have RO:EvP prog 259 [.v (.int .u8 (de (s.extract (aD:Int).toNat (s.size:Int).toNat) 0:Nat))] (.tup [.v (.int .i64 (aR c.toNat:Nat)),.v (.int .u8 (gB c.toNat:Nat)),.v (.int .u8 (gC c.toNat:Nat))]):=by
  have:de (s.extract (aD:Int).toNat (s.size:Int).toNat) 0=c.toNat:=by
   show ((tx _).getD 0 0).toNat=_;rw [hB];rfl
  rw [this];exact KV c.toNat
 have hv:=fun (k:Nat) (h1:1<=k) (h2:k<=4) (h3:k<=r.length + 1)=>GP ((s.extract (aD:Int).toNat (s.size:Int).toNat).extract 0 k) (by
  have:((s.extract (aD:Int).toNat (s.size:Int).toNat).extract 0 k).size=k:=by
   rw [ByteArray.size_extract,bJ];omega
  omega)
 have hu:nu (c :: r)=(decide (1<=aR c.toNat) && allC c.toNat r (aR c.toNat - 1)):=rfl;have uf:=GQ (c:=c) (r:=r);generalize nu (c :: r)=U at hu uf ⊢
 have hn4:aR c.toNat<=4:=by
  unfold aR
  repeat' split
  all_goals omega
 refine eG 60 [.tmp 4,.tmp 5,.tmp 6] func235 rfl ntmps235 rfl fun _ _ _ _=>?_;refine br (fun c=>absurd c (by simp [ap];omega)) (fun _=>?_);refine ⟨⟨by omega,by omega,by omega⟩,?_⟩;refine ⟨⟨by omega,by rw [bJ];omega⟩,?_⟩;refine cP Z2 RO ?_;refine br ?_ ?_<;>intro g
 ·have g:aR c.toNat=0:=by have:=of_decide_eq_true g;omega
  have bS:U=false:=by rw [hu,g];all_goals rfl
  subst bS;exact ⟨.tup [.v (.int .i32 0),.v (.int .i64 (1:Nat)),.v (.bool false)],ax,0,1,rfl,fun h=>(by cases h),by omega⟩
 have g:1<=aR c.toNat:=by have:=of_decide_eq_false g;omega
 refine av (fun j st=>∃ i:Nat,st=⟨[(0,⟨[],.v (.string (s.extract (aD:Int).toNat (s.size:Int).toNat))⟩),(7,⟨[],.v (.int .i64 (aR c.toNat:Nat))⟩),(8,⟨[],.v (.int .u8 ((if i=0 then gB c.toNat else 128:Nat):Int))⟩),(9,⟨[],.v (.int .u8 ((if i=0 then gC c.toNat else 191:Nat):Int))⟩),(10,⟨[],.v (.int .i64 ((i + 1:Nat):Int))⟩)],[],[]⟩/\i + 1<=aR c.toNat/\allC c.toNat r i=true/\j=aR c.toNat - (i + 1)) (aR c.toNat - (0 + 1))
  ⟨[(0,⟨[],.v (.string (s.extract (aD:Int).toNat (s.size:Int).toNat))⟩),(7,⟨[],.v (.int .i64 (aR c.toNat:Nat))⟩),(8,⟨[],.v (.int .u8 ((if 0=0 then gB c.toNat else 128:Nat):Int))⟩),(9,⟨[],.v (.int .u8 ((if 0=0 then gC c.toNat else 191:Nat):Int))⟩),(10,⟨[],.v (.int .i64 ((0 + 1:Nat):Int))⟩)],[],[]⟩ (weak_mk ⟨_,rfl⟩ wA rfl rfl rfl wB0) ⟨0,rfl,by omega,rfl,by omega⟩ ?_
 rintro j st ⟨i,rfl,hi,ha,rfl⟩;refine br ?_ ?_<;>intro hL
 ·have au:i + 1 < aR c.toNat:=by have:=of_decide_eq_true hL;omega
  refine br ?_ ?_<;>intro k
  ·have k:i < r.length:=by
    have:=k;have oh:(s.extract aD s.size).size=r.length + 1:=bJ;simp [oh] at this;omega
   obtain ⟨b,hb⟩:∃ b,r[i]? = some b:=⟨_,gE k⟩;have hbb:=Qz i b hb;refine ⟨⟨by omega,by rw [bJ];omega⟩,?_⟩
   have M5:ji c.toNat i b.toNat=(decide ((if i=0 then gB c.toNat else 128)<=b.toNat) && decide (b.toNat<=(if i=0 then gC c.toNat else 191))):=by
    unfold ji;split<;>rfl
   have has:=KY c.toNat r i;rw [ha,hb,Bool.true_and] at has;simp only [M5] at has;have e:de (s.extract (aD:Int).toNat (s.size:Int).toNat) (((i + 1:Nat):Int)).toNat=b.toNat:=hbb;refine br ?_ ?_<;>intro k2
   ·have k2:(if i=0 then gB c.toNat else 128)<=b.toNat:=by
     have k3:=k2;rw [e] at k3;generalize (if i=0 then gB c.toNat else 128)=lo at k3 ⊢;simp [ap] at k3;omega
    refine ⟨⟨by omega,by rw [bJ];omega⟩,?_⟩;refine br ?_ ?_<;>intro k4
    ·have k4:¬ b.toNat<=(if i=0 then gC c.toNat else 191):=by
      have k3:=k4;rw [e] at k3;generalize (if i=0 then gC c.toNat else 191)=hi at k3 ⊢;simp [ap] at k3;omega
     have hf:=uA (c:=c.toNat) (r:=r) (k:=i) (n:=aR c.toNat - 1) (by omega) (by rw [hb];simp only [M5];simp [k4]);rw [hf,Bool.and_false] at hu;subst hu;exact ⟨.tup [.v (.int .i32 0),.v (.int .i64 ((i + 1:Nat):Int)),.v (.bool false)],ax,0,i + 1,rfl,fun h=>(by cases h),by omega⟩
    ·have k4:b.toNat<=(if i=0 then gC c.toNat else 191):=by
      have k3:=k4;rw [e] at k3;generalize (if i=0 then gC c.toNat else 191)=hi at k3 ⊢;simp [ap] at k3;omega
     rw [decide_eq_true k2,decide_eq_true k4] at has;exact rE ⟨_,by omega,i + 1,rfl,by omega,has,rfl⟩ (weak_mk ⟨_,rfl⟩ wA rfl rfl rfl (wB1 (nxt au (by omega))))
   ·have k2:¬ (if i=0 then gB c.toNat else 128)<=b.toNat:=by
     have k3:=k2;rw [e] at k3;generalize (if i=0 then gB c.toNat else 128)=lo at k3 ⊢;simp [ap] at k3;omega
    have hf:=uA (c:=c.toNat) (r:=r) (k:=i) (n:=aR c.toNat - 1) (by omega) (by rw [hb];simp only [M5];simp [k2]);rw [hf,Bool.and_false] at hu;subst hu;exact ⟨.tup [.v (.int .i32 0),.v (.int .i64 ((i + 1:Nat):Int)),.v (.bool false)],ax,0,i + 1,rfl,fun h=>(by cases h),by omega⟩
  ·have k:r.length<=i:=by
    have:=k;have oh:(s.extract aD s.size).size=r.length + 1:=bJ;simp [oh] at this;omega
   have hf:=uA (c:=c.toNat) (r:=r) (k:=i) (n:=aR c.toNat - 1) (by omega) (by rw [List.getElem?_eq_none k]);rw [hf,Bool.and_false] at hu;subst hu;exact ⟨.tup [.v (.int .i32 0),.v (.int .i64 ((i + 1:Nat):Int)),.v (.bool false)],ax,0,i + 1,rfl,fun h=>(by cases h),by omega⟩
 ·have aN:i + 1=aR c.toNat:=by have:=of_decide_eq_false hL;omega
  have hu1:U=true:=by
   rw [hu,<- aN];simp [ha]
  subst hu1
  have gG:aR c.toNat<=r.length + 1:=by
   rcases Nat.lt_or_ge r.length (aR c.toNat - 1) with h | h
   ·have hf:=uA (c:=c.toNat) (r:=r) (k:=r.length) (n:=aR c.toNat - 1) h (by rw [List.getElem?_eq_none (Nat.le_refl _)]);rw [<- aN,Nat.add_sub_cancel,ha] at hf;cases hf
   ·omega
  have hv:=hv (aR c.toNat) (by omega) hn4 gG;refine ⟨⟨by omega,by omega,by rw [bJ];omega⟩,?_⟩;refine bL Z3 rfl hv ax (fun q hq=>?_);obtain ⟨z,rfl,hz⟩:=hq;rw [show tx ((s.extract (aD:Int).toNat (s.size:Int).toNat).extract 0 (aR c.toNat))=(c :: r).take (aR c.toNat) from by rw [<- hB,(by simp [tx]:∀ (B:ByteArray) k,tx (B.extract 0 k)=(tx B).take k)]] at hz;exact ⟨.tup [.v (.int .i32 z),.v (.int .i64 (aR c.toNat:Nat)),.v (.bool true)],ax,z,aR c.toNat,rfl,fun _=>⟨rfl,hz (uf rfl)⟩,by omega⟩
def recC (l:List UInt8) (e j:Nat):Int:=if j < e then ((l.getD j 0).toNat:Int) - 128 else 0
abbrev DX (l:List UInt8) (e:Nat):List DV:=[.v (.int .i64 (recC l e 0)),.v (.int .i64 (recC l e 1)),.v (.int .i64 (recC l e 2)),.v (.int .i64 (recC l e 3))]
abbrev O6 (s:ByteArray) (e:Nat):St:=⟨[(0,⟨[],.v (.string s)⟩),(3,⟨[],.loc 0 0⟩),(4,⟨[],.v (.int .i64 e)⟩)],[DX (tx s) e],[]⟩
theorem O7 (l:List UInt8) (e:Nat) (h:e < 4) (z:Int) (hz:z=((l.getD e 0).toNat:Int) - 128):(DX l e).set e (.v (.int .i64 z))=DX l (e + 1):=by
 subst hz;have c:e=0∨e=1∨e=2∨e=3:=by omega
 rcases c with rfl | rfl | rfl | rfl<;>simp [DX,recC]
theorem Jb {n m:Nat} {tk:List TkE} {l:List DV} {bs:List UInt8} {e:Nat} (h:l=DX bs e):WeL n m tk l (DX bs e):=by
 subst h;exact ⟨_,_,rfl,ah rfl,_,_,rfl,ah rfl,_,_,rfl,ah rfl,_,_,rfl,ah rfl,rfl⟩
theorem rec_1 (a:UInt8):IntKind.i64.wrap (((a.toNat:Int) - 128) + 128)=recV [a]:=by
 have ga:=a.toNat_lt;simp only [recV];rw [wrap64 (by omega) (by omega)];omega
theorem rec_2 (a b:UInt8):IntKind.i64.wrap (IntKind.i64.wrap (IntKind.i64.wrap (((a.toNat:Int) - 128) - 64) * 64) + ((b.toNat:Int) - 128))=recV [a,b]:=by
 have ga:=a.toNat_lt;have gb:=b.toNat_lt;simp only [recV];rw [wrap64 (n:=((a.toNat:Int) - 128) - 64) (by omega) (by omega),wrap64 (n:=_ * 64) (by omega) (by omega),wrap64 (by omega) (by omega)];omega
theorem rec_3 (a b c:UInt8):IntKind.i64.wrap (IntKind.i64.wrap (IntKind.i64.wrap (IntKind.i64.wrap (((a.toNat:Int) - 128) - 96) * 4096) + IntKind.i64.wrap (((b.toNat:Int) - 128) * 64)) + ((c.toNat:Int) - 128))=recV [a,b,c]:=by
 have ga:=a.toNat_lt;have gb:=b.toNat_lt;have gc:=c.toNat_lt;simp only [recV];rw [wrap64 (n:=((a.toNat:Int) - 128) - 96) (by omega) (by omega),wrap64 (n:=_ * 4096) (by omega) (by omega),wrap64 (n:=_ * 64) (by omega) (by omega),wrap64 (n:=_ + ((b.toNat:Int) - 128) * 64) (by omega) (by omega),wrap64 (by omega) (by omega)];omega
theorem rec_4 (a b c d:UInt8):IntKind.i64.wrap (IntKind.i64.wrap (IntKind.i64.wrap (IntKind.i64.wrap (IntKind.i64.wrap (((a.toNat:Int) - 128) - 112) * 262144) + IntKind.i64.wrap (((b.toNat:Int) - 128) * 4096)) + IntKind.i64.wrap (((c.toNat:Int) - 128) * 64)) + ((d.toNat:Int) - 128))=recV [a,b,c,d]:=by
 have ga:=a.toNat_lt;have gb:=b.toNat_lt;have gc:=c.toNat_lt;have gd:=d.toNat_lt;simp only [recV];rw [wrap64 (n:=((a.toNat:Int) - 128) - 112) (by omega) (by omega),wrap64 (n:=_ * 262144) (by omega) (by omega),wrap64 (n:=_ * 4096) (by omega) (by omega),wrap64 (n:=_ + ((b.toNat:Int) - 128) * 4096) (by omega) (by omega),wrap64 (n:=_ * 64) (by omega) (by omega),wrap64 (n:=_ + ((c.toNat:Int) - 128) * 64) (by omega) (by omega),wrap64 (by omega) (by omega)];omega
theorem pj (s:ByteArray) (h:1<=s.size/\s.size<=4):EvP prog 252 [.v (.string s)] (.v (.int .i64 (recV (tx s)))):=by
 have eZ:=bB s;refine eG 63 [.tmp 2] func252 rfl ntmps252 rfl fun _ _ _ _=>?_;refine lJ (fun e=>O6 s e) s.size (az 1 rfl wA0 rfl rfl rfl wB0) ?_;intro e he;refine br ?_ ?_<;>intro hL
 ·have au:e < s.size:=by have:=of_decide_eq_true hL;omega
  refine ⟨⟨by omega,by omega⟩,?_⟩;refine ⟨⟨by omega,by omega⟩,?_⟩;have hb:de s e=((tx s).getD e 0).toNat:=rfl
  have hz:IntKind.i64.wrap (IntKind.i64.wrap (de s ((e:Int).toNat):Nat) - 128)=(((tx s).getD e 0).toNat:Int) - 128:=by
   have h1:=((tx s).getD e 0).toNat_lt;have h2:de s ((e:Int).toNat)=((tx s).getD e 0).toNat:=rfl;rw [h2,wrap64 (n:=(((tx s).getD e 0).toNat:Int)) (by omega) (by omega)];exact wrap64 (by omega) (by omega)
  have cG:(DX (tx s) e).set (0 + (e:Int).toNat * 1) (.v (.int .i64 (IntKind.i64.wrap (IntKind.i64.wrap (de s ((e:Int).toNat):Nat) - 128))))=DX (tx s) (e + 1):=by
   rw [show 0 + (e:Int).toNat * 1=e by omega];exact O7 _ _ (by omega) _ hz
  refine ⟨by simp;omega,?_⟩;exact rE ⟨_,by omega,e + 1,rfl,by omega,rfl⟩ (az 1 rfl (by repeat' (first | exact rfl | exact ah rfl | exact Jb cG | exact ai (nxt au (by omega)) | refine ⟨_,_,rfl,?_,?_⟩)) rfl rfl rfl (by repeat' (first | exact trivial | exact ah rfl | exact Jb cG | exact ai (nxt au (by omega)) | refine ⟨⟨_,rfl,?_⟩,?_⟩)))
 ·have aN:e=s.size:=by have:=of_decide_eq_false hL;omega
  subst aN;refine br ?_ ?_<;>intro cn
  ·have cn:s.size=1:=by have:=of_decide_eq_true cn;omega
   obtain ⟨a,hl⟩:∃ a,tx s=[a]:=by
    rw [cn] at eZ
    match tx s,eZ with
    | [a],_=>exact ⟨a,rfl⟩
   have ha:recC (tx s) s.size 0=(a.toNat:Int) - 128:=by rw [hl,cn];all_goals rfl
   have ga:=a.toNat_lt;refine ⟨⟨by omega,by omega⟩,?_⟩;refine (congrArg (fun z=>DV.v (.int .i64 z)) ?_:_=_);rw [ha,hl];exact rec_1 a
  have c1:¬ s.size=1:=by have:=of_decide_eq_false cn;omega
  refine br ?_ ?_<;>intro cn
  ·have cn:s.size=2:=by have:=of_decide_eq_true cn;omega
   obtain ⟨a,b,hl⟩:∃ a b,tx s=[a,b]:=by
    rw [cn] at eZ
    match tx s,eZ with
    | [a,b],_=>exact ⟨a,b,rfl⟩
   have ha:recC (tx s) s.size 0=(a.toNat:Int) - 128:=by rw [hl,cn];all_goals rfl
   have ga:=a.toNat_lt;have hb:recC (tx s) s.size 1=(b.toNat:Int) - 128:=by rw [hl,cn];all_goals rfl
   have gb:=b.toNat_lt;refine ⟨⟨by omega,by omega⟩,?_⟩;refine ⟨⟨by omega,by omega⟩,?_⟩;refine (congrArg (fun z=>DV.v (.int .i64 z)) ?_:_=_);rw [ha,hb,hl];exact rec_2 a b
  have c2:¬ s.size=2:=by have:=of_decide_eq_false cn;omega
  refine br ?_ ?_<;>intro cn
  ·have cn:s.size=3:=by have:=of_decide_eq_true cn;omega
   obtain ⟨a,b,c,hl⟩:∃ a b c,tx s=[a,b,c]:=by
    rw [cn] at eZ
    match tx s,eZ with
    | [a,b,c],_=>exact ⟨a,b,c,rfl⟩
   have ha:recC (tx s) s.size 0=(a.toNat:Int) - 128:=by rw [hl,cn];all_goals rfl
   have ga:=a.toNat_lt;have hb:recC (tx s) s.size 1=(b.toNat:Int) - 128:=by rw [hl,cn];all_goals rfl
   have gb:=b.toNat_lt;have hc:recC (tx s) s.size 2=(c.toNat:Int) - 128:=by rw [hl,cn];all_goals rfl
   have gc:=c.toNat_lt;refine ⟨⟨by omega,by omega⟩,?_⟩;refine ⟨⟨by omega,by omega⟩,?_⟩;refine ⟨⟨by omega,by omega⟩,?_⟩;refine (congrArg (fun z=>DV.v (.int .i64 z)) ?_:_=_);rw [ha,hb,hc,hl];exact rec_3 a b c
  have c3:¬ s.size=3:=by have:=of_decide_eq_false cn;omega
  have cn:s.size=4:=by omega
  obtain ⟨a,b,c,d,hl⟩:∃ a b c d,tx s=[a,b,c,d]:=by
   rw [cn] at eZ
   match tx s,eZ with
   | [a,b,c,d],_=>exact ⟨a,b,c,d,rfl⟩
  have ha:recC (tx s) s.size 0=(a.toNat:Int) - 128:=by rw [hl,cn];all_goals rfl
  have ga:=a.toNat_lt;have hb:recC (tx s) s.size 1=(b.toNat:Int) - 128:=by rw [hl,cn];all_goals rfl
  have gb:=b.toNat_lt;have hc:recC (tx s) s.size 2=(c.toNat:Int) - 128:=by rw [hl,cn];all_goals rfl
  have gc:=c.toNat_lt;have hd:recC (tx s) s.size 3=(d.toNat:Int) - 128:=by rw [hl,cn];all_goals rfl
  have gd:=d.toNat_lt;refine ⟨⟨by omega,by omega⟩,?_⟩;refine ⟨⟨by omega,by omega⟩,?_⟩;refine ⟨⟨by omega,by omega⟩,?_⟩;refine ⟨⟨by omega,by omega⟩,?_⟩;refine (congrArg (fun z=>DV.v (.int .i64 z)) ?_:_=_);rw [ha,hb,hc,hd,hl];exact rec_4 a b c d
def km (z:Int):Bool:=decide (0<=z) && decide (z<=1114111) && (decide (z < 55296) || decide (57343 < z))
theorem s7 (z:Int):EvP prog 253 [.v (.int .i32 z)] (.v (.bool (km z))):=by
 refine eG 17 [.tmp 2] func253 rfl ntmps253 rfl fun _ _ _ _=>?_;refine (congrArg (fun b=>DV.v (.bool b)) ?_:_=_);simp only [pickB_and,ap,km]
def DY (n:Nat):List UInt8:=
 if n < 128 then [UInt8.ofNat n] else if n < 2048 then [UInt8.ofNat (192 + n / 64),UInt8.ofNat (128 + n % 64)]
 else if n < 65536 then [UInt8.ofNat (224 + n / 4096),UInt8.ofNat (128 + n / 64 % 64),UInt8.ofNat (128 + n % 64)]
 else [UInt8.ofNat (240 + n / 262144),UInt8.ofNat (128 + n / 4096 % 64),UInt8.ofNat (128 + n / 64 % 64),UInt8.ofNat (128 + n % 64)]
def DZ (z:Int):List UInt8:=if km z=true then DY z.toNat else []
theorem b8 {x:Int} {k:Nat} (hx:x=k) (hk:k < 256):IntKind.u8.wrap x=((UInt8.ofNat k).toNat:Int):=by
 rw [hx,UInt8.toNat_ofNat',IntKind.wrap_u8'];omega
theorem WK {n k:Nat} (hn:n<=1114111):IntKind.i64.wrap ((n:Int).tdiv (k:Int))=((n / k:Nat):Int):=by
 rw [Int.tdiv_eq_ediv_of_nonneg (by omega),<- Int.natCast_ediv];have:=Nat.div_le_self n k;generalize n / k=q at this ⊢;exact wrap64 (by omega) (by omega)
theorem O8 {n:Nat} (hn:n<=1114111):IntKind.i64.wrap ((n:Int).tdiv 64)=((n / 64:Nat):Int):=WK hn
theorem Jc {n:Nat} (hn:n<=1114111):IntKind.i64.wrap ((n:Int).tdiv 4096)=((n / 4096:Nat):Int):=WK hn
theorem KZ {n:Nat} (hn:n<=1114111):IntKind.i64.wrap ((n:Int).tdiv 262144)=((n / 262144:Nat):Int):=WK hn
theorem K0 (n:Nat):(n:Int).tmod 64=((n % 64:Nat):Int):=by
 rw [Int.tmod_eq_emod_of_nonneg (by omega)];omega
theorem xa (z:Int):EvP prog 254 [.v (.int .i32 z)] (.v (.string (ba (DZ z)))):=by
 have hs:=s7 z;have hE:DZ z=if km z=true then DY z.toNat else []:=rfl
 have hB:km z=(decide (0<=z) && decide (z<=1114111) && (decide (z < 55296) || decide (57343 < z))):=rfl;generalize DZ z=E at hE ⊢;generalize km z=B at hs hE hB;refine eG 64 [.tmp 2] func254 rfl ntmps254 rfl fun _ _ _ _=>?_;refine cP TP hs ?_
 cases B with
 | false=>
  rw [if_neg (by simp)] at hE;subst hE;exact (rfl:_=_)
 | true=>
  rw [if_pos rfl] at hE;have hB:=hB.symm;simp at hB;obtain ⟨n,rfl⟩:∃ n:Nat,z=n:=⟨z.toNat,by omega⟩;rw [Int.toNat_natCast] at hE;have hn:n<=1114111:=by omega
  have jt:IntKind.i64.wrap (n:Int)=n:=wrap64 (by omega) (by omega);unfold DY at hE;refine br ?_ ?_<;>intro c
  ·have c:n < 128:=by have:=of_decide_eq_true c;omega
   rw [if_pos c] at hE;refine ⟨[UInt8.ofNat (n)],?_,?_⟩
   ·simp only [List.flatten_cons,List.flatten_nil,List.append_nil,List.cons_append,List.nil_append,u8L,List.cons.injEq,and_true,DV.v.injEq,Value.int.injEq,true_and]
    ·exact b8 jt (by omega)
   ·rw [hE];exact (rfl:_=_)
  have c1:¬ n < 128:=by have:=of_decide_eq_false c;omega
  rw [if_neg c1] at hE;refine br ?_ ?_<;>intro c
  ·have c:n < 2048:=by have:=of_decide_eq_true c;omega
   rw [if_pos c] at hE;refine ⟨⟨rfl,by decide⟩,?_⟩;refine ⟨⟨rfl,by decide⟩,?_⟩;refine ⟨[UInt8.ofNat (192 + n / 64),UInt8.ofNat (128 + n % 64)],?_,?_⟩
   ·simp only [List.flatten_cons,List.flatten_nil,List.append_nil,List.cons_append,List.nil_append,u8L,List.cons.injEq,and_true,DV.v.injEq,Value.int.injEq,true_and];refine ⟨?_,?_⟩
    ·exact b8 (by rw [jt,O8 hn];exact wrap64 (by omega) (by omega)) (by omega)
    ·exact b8 (by rw [jt,K0];exact wrap64 (by omega) (by omega)) (by omega)
   ·rw [hE];exact (rfl:_=_)
  have c2:¬ n < 2048:=by have:=of_decide_eq_false c;omega
  rw [if_neg c2] at hE;refine br ?_ ?_<;>intro c
  ·have c:n < 65536:=by have:=of_decide_eq_true c;omega
   rw [if_pos c] at hE;refine ⟨⟨rfl,by decide⟩,?_⟩;refine ⟨⟨rfl,by decide⟩,?_⟩;refine ⟨⟨rfl,by decide⟩,?_⟩;refine ⟨⟨rfl,by decide⟩,?_⟩;refine ⟨[UInt8.ofNat (224 + n / 4096),UInt8.ofNat (128 + n / 64 % 64),UInt8.ofNat (128 + n % 64)],?_,?_⟩
   ·simp only [List.flatten_cons,List.flatten_nil,List.append_nil,List.cons_append,List.nil_append,u8L,List.cons.injEq,and_true,DV.v.injEq,Value.int.injEq,true_and];refine ⟨?_,?_,?_⟩
    ·exact b8 (by rw [jt,Jc hn];exact wrap64 (by omega) (by omega)) (by omega)
    ·exact b8 (by rw [jt,O8 hn,K0];exact wrap64 (by omega) (by omega)) (by omega)
    ·exact b8 (by rw [jt,K0];exact wrap64 (by omega) (by omega)) (by omega)
   ·rw [hE];exact (rfl:_=_)
  have c3:¬ n < 65536:=by have:=of_decide_eq_false c;omega
  rw [if_neg c3] at hE;refine ⟨⟨rfl,by decide⟩,?_⟩;refine ⟨⟨rfl,by decide⟩,?_⟩;refine ⟨⟨rfl,by decide⟩,?_⟩;refine ⟨⟨rfl,by decide⟩,?_⟩;refine ⟨⟨rfl,by decide⟩,?_⟩;refine ⟨⟨rfl,by decide⟩,?_⟩;refine ⟨[UInt8.ofNat (240 + n / 262144),UInt8.ofNat (128 + n / 4096 % 64),UInt8.ofNat (128 + n / 64 % 64),UInt8.ofNat (128 + n % 64)],?_,?_⟩
  ·simp only [List.flatten_cons,List.flatten_nil,List.append_nil,List.cons_append,List.nil_append,u8L,List.cons.injEq,and_true,DV.v.injEq,Value.int.injEq,true_and];refine ⟨?_,?_,?_,?_⟩
   ·exact b8 (by rw [jt,KZ hn];exact wrap64 (by omega) (by omega)) (by omega)
   ·exact b8 (by rw [jt,Jc hn,K0];exact wrap64 (by omega) (by omega)) (by omega)
   ·exact b8 (by rw [jt,O8 hn,K0];exact wrap64 (by omega) (by omega)) (by omega)
   ·exact b8 (by rw [jt,K0];exact wrap64 (by omega) (by omega)) (by omega)
  ·rw [hE];exact (rfl:_=_)
theorem qM (c:UInt8) (r:List UInt8):nu (c :: r)=(decide (1<=aR c.toNat) && allC c.toNat r (aR c.toNat - 1)):=rfl
def Ux (l:List UInt8):Bool:=km (recV l) && decide (DZ (recV l)=l)
theorem ij {k:Nat} {a:UInt8} (hk:k < 256):UInt8.ofNat k=a↔k=a.toNat:=by
 constructor
 ·rintro rfl;rw [UInt8.toNat_ofNat'];omega
 ·rintro rfl;exact UInt8.ofNat_toNat
theorem uB (l:List UInt8) {v:Int} (hv:recV l=v):Ux l=true↔(0<=v/\v<=1114111/\(v < 55296∨57343 < v))/\DY v.toNat=l:=by
 subst hv;unfold Ux DZ;constructor
 ·intro h;rw [Bool.and_eq_true] at h;have h1:=h.1;have h2:=of_decide_eq_true h.2;rw [if_pos h1] at h2;simp [km] at h1;exact ⟨by omega,h2⟩
 ·intro ⟨h1,h2⟩;have h3:km (recV l)=true:=by simp [km];omega
  rw [h3,if_pos rfl];simp [h2]
theorem lg (c:Nat):(c=224/\gB c=160)∨(c=240/\gB c=144)∨(c≠224/\c≠240/\gB c=128):=by
 unfold gB
 repeat' split
 all_goals omega
theorem lh (c:Nat):(c=237/\gC c=159)∨(c=244/\gC c=143)∨(c≠237/\c≠244/\gC c=191):=by
 unfold gC
 repeat' split
 all_goals omega
theorem contB_0 (c b:Nat):ji c 0 b=true↔gB c<=b/\b<=gC c:=by
 unfold ji;rw [if_pos rfl,Bool.and_eq_true,decide_eq_true_iff,decide_eq_true_iff]
theorem n8 (c k b:Nat):ji c (k + 1) b=true↔128<=b/\b<=191:=by
 unfold ji;rw [if_neg (Nat.succ_ne_zero k),Bool.and_eq_true,decide_eq_true_iff,decide_eq_true_iff]
theorem allC_1 (c:Nat) (b:UInt8) (r:List UInt8):allC c (b :: r) 1=ji c 0 b.toNat:=by simp [allC,List.range_succ]
theorem allC_2 (c:Nat) (b d:UInt8) (r:List UInt8):allC c (b :: d :: r) 2=(ji c 0 b.toNat && ji c 1 d.toNat):=by simp [allC,List.range_succ]
theorem allC_3 (c:Nat) (b d e:UInt8) (r:List UInt8):allC c (b :: d :: e :: r) 3=(ji c 0 b.toNat && ji c 1 d.toNat && ji c 2 e.toNat):=by simp [allC,List.range_succ,Bool.and_assoc]
theorem lead_1 (a:Nat):aR a=1↔a < 128:=by
 unfold aR;repeat' split
 all_goals omega
theorem lead_2 (a:Nat):aR a=2↔194<=a/\a<=223:=by
 unfold aR;repeat' split
 all_goals omega
theorem lead_3 (a:Nat):aR a=3↔224<=a/\a<=239:=by
 unfold aR;repeat' split
 all_goals omega
theorem lead_4 (a:Nat):aR a=4↔240<=a/\a<=244:=by
 unfold aR;repeat' split
 all_goals omega
theorem wf_1 (a:UInt8) (r:List UInt8):Ux [a]=true↔nu (a :: r)=true/\aR a.toNat=1:=by
 have ha:=a.toNat_lt;rw [uB _ (v:=(a.toNat:Int)) rfl];rw [Int.toNat_natCast];unfold DY;rw [qM];constructor
 ·intro ⟨h1,h2⟩
  have:a.toNat < 128:=by
   by_cases c:a.toNat < 128
   ·exact c
   ·rw [if_neg c] at h2
    repeat' split at h2
    all_goals (simp at h2)
  have:=(lead_1 _).2 this;rw [this];exact ⟨rfl,rfl⟩
 ·intro ⟨_,h2⟩;have h2:=(lead_1 _).1 h2;rw [if_pos h2];exact ⟨by omega,by rw [UInt8.ofNat_toNat]⟩
theorem wf_2 (a b:UInt8) (r:List UInt8):Ux [a,b]=true↔nu (a :: b :: r)=true/\aR a.toNat=2:=by
 have ha:=a.toNat_lt;have hb:=b.toNat_lt;rw [uB _ (v:=((a.toNat:Int) - 192) * 64 + ((b.toNat:Int) - 128)) rfl];unfold DY;rw [qM];constructor
 ·intro ⟨h1,h2⟩;generalize hn:((((a.toNat:Int) - 192) * 64 + ((b.toNat:Int) - 128))).toNat=n at h2
  repeat' split at h2
  any_goals (simp at h2;done)
  simp only [List.cons.injEq,and_true] at h2;rw [ij (by omega),ij (by omega)] at h2;have:=(lead_2 a.toNat).2 (by omega);rw [this];refine ⟨?_,rfl⟩;show (true && allC _ _ 1)=true;rw [Bool.true_and,allC_1,contB_0];have hL:=lg a.toNat;have hH:=lh a.toNat;omega
 ·intro ⟨h1,h2⟩;rw [h2] at h1;have h1:(true && allC _ _ 1)=true:=h1;rw [Bool.true_and,allC_1,contB_0] at h1;have hL:=lg a.toNat;have hH:=lh a.toNat;have h2:=(lead_2 _).1 h2;rw [if_neg (by omega),if_pos (by omega)];simp only [List.cons.injEq,and_true];rw [ij (by omega),ij (by omega)];omega
theorem wf_3 (a b c:UInt8) (r:List UInt8):Ux [a,b,c]=true↔nu (a :: b :: c :: r)=true/\aR a.toNat=3:=by
 have ha:=a.toNat_lt;have hb:=b.toNat_lt;have hc:=c.toNat_lt;rw [uB _ (v:=((a.toNat:Int) - 224) * 4096 + ((b.toNat:Int) - 128) * 64 + ((c.toNat:Int) - 128)) rfl];unfold DY;rw [qM];constructor
 ·intro ⟨h1,h2⟩;generalize hn:((((a.toNat:Int) - 224) * 4096 + ((b.toNat:Int) - 128) * 64 + ((c.toNat:Int) - 128))).toNat=n at h2
  repeat' split at h2
  any_goals (simp at h2;done)
  simp only [List.cons.injEq,and_true] at h2;rw [ij (by omega),ij (by omega),ij (by omega)] at h2;have:=(lead_3 a.toNat).2 (by omega);rw [this];refine ⟨?_,rfl⟩;show (true && allC _ _ 2)=true;rw [Bool.true_and,allC_2,Bool.and_eq_true,contB_0,n8 _ 0];have hL:=lg a.toNat;have hH:=lh a.toNat;omega
 ·intro ⟨h1,h2⟩;rw [h2] at h1;have h1:(true && allC _ _ 2)=true:=h1;rw [Bool.true_and,allC_2,Bool.and_eq_true,contB_0,n8 _ 0] at h1;have hL:=lg a.toNat;have hH:=lh a.toNat;have h2:=(lead_3 _).1 h2;rw [if_neg (by omega),if_neg (by omega),if_pos (by omega)];simp only [List.cons.injEq,and_true];rw [ij (by omega),ij (by omega),ij (by omega)];omega
theorem wf_4 (a b c d:UInt8) (r:List UInt8):Ux [a,b,c,d]=true↔nu (a :: b :: c :: d :: r)=true/\aR a.toNat=4:=by
 have ha:=a.toNat_lt;have hb:=b.toNat_lt;have hc:=c.toNat_lt;have hd:=d.toNat_lt;rw [uB _ (v:=((a.toNat:Int) - 240) * 262144 + ((b.toNat:Int) - 128) * 4096 + ((c.toNat:Int) - 128) * 64 + ((d.toNat:Int) - 128)) rfl];unfold DY;rw [qM];constructor
 ·intro ⟨h1,h2⟩;generalize hn:((((a.toNat:Int) - 240) * 262144 + ((b.toNat:Int) - 128) * 4096 + ((c.toNat:Int) - 128) * 64 + ((d.toNat:Int) - 128))).toNat=n at h2
  repeat' split at h2
  any_goals (simp at h2;done)
  simp only [List.cons.injEq,and_true] at h2;rw [ij (by omega),ij (by omega),ij (by omega),ij (by omega)] at h2;have:=(lead_4 a.toNat).2 (by omega);rw [this];refine ⟨?_,rfl⟩;show (true && allC _ _ 3)=true;rw [Bool.true_and,allC_3,Bool.and_eq_true,Bool.and_eq_true,contB_0,n8 _ 0,n8 _ 1];have hL:=lg a.toNat;have hH:=lh a.toNat;omega
 ·intro ⟨h1,h2⟩;rw [h2] at h1;have h1:(true && allC _ _ 3)=true:=h1;rw [Bool.true_and,allC_3,Bool.and_eq_true,Bool.and_eq_true,contB_0,n8 _ 0,n8 _ 1] at h1;have hL:=lg a.toNat;have hH:=lh a.toNat;have h2:=(lead_4 _).1 h2;rw [if_neg (by omega),if_neg (by omega),if_neg (by omega)];simp only [List.cons.injEq,and_true];rw [ij (by omega),ij (by omega),ij (by omega),ij (by omega)];omega
theorem Jd (a:Nat):aR a<=4:=by
 unfold aR;repeat' split
 all_goals omega
theorem uC {l:List UInt8} (h:nu l=true):∃ c r,l=c :: r/\1<=aR c.toNat/\aR c.toNat<=l.length/\kk l=aR c.toNat:=by
 cases l with
 | nil=>cases h
 | cons c r=>
  refine ⟨c,r,rfl,?_,?_,?_⟩
  ·unfold nu at h;rw [Bool.and_eq_true] at h;exact of_decide_eq_true h.1
  ·have h0:=h;unfold nu at h;rw [Bool.and_eq_true] at h;rcases Nat.lt_or_ge r.length (aR c.toNat - 1) with g | g
   ·have h2:=h.2;unfold allC at h2;rw [List.all_eq_true] at h2;have:=h2 r.length (List.mem_range.2 g);rw [List.getElem?_eq_none (Nat.le_refl _)] at this;cases this
   ·rw [List.length_cons];omega
  ·show (if _ then _ else _)=_;rw [if_pos h]
theorem wf_n (c:UInt8) (r:List UInt8) (n:Nat) (h1:1<=n) (h4:n<=4) (hl:n<=r.length + 1):Ux ((c :: r).take n)=(nu (c :: r) && decide (aR c.toNat=n)):=by
 apply Bool.eq_iff_iff.2;rw [Bool.and_eq_true,decide_eq_true_iff]
 match n,h1,h4,hl with
 | 1,_,_,_=>exact wf_1 c r
 | 2,_,_,h=>match r,h with
  | b :: r,_=>exact wf_2 c b r
 | 3,_,_,h=>match r,h with
  | b :: d :: r,_=>exact wf_3 c b d r
 | 4,_,_,h=>match r,h with
  | b :: d :: e :: r,_=>exact wf_4 c b d e r
theorem qN {l:List UInt8} (h:l ≠ []):1<=kk l/\kk l<=l.length:=by
 cases l with
 | nil=>exact absurd rfl h
 | cons c r=>
  show 1<=(if _ then _ else _)/\(if _ then _ else _)<=_;split
  ·rename_i g;obtain ⟨c',r',e,h1,h2,h3⟩:=uC g;cases e;exact ⟨h1,h2⟩
  ·exact ⟨Nat.le_refl _,by rw [List.length_cons];omega⟩
def headL:Nat->List UInt8->List UInt8
 | 0,_=>[]
 | u + 1,l=>l.take (kk l) ++ headL u (l.drop (kk l))
theorem zO (u:Nat):headL u []=[]:=by
 induction u with
 | zero=>rfl
 | succ u ih=>show [].take _ ++ headL u ([].drop _)=[];rw [List.take_nil,List.drop_nil,ih];all_goals rfl
theorem K1 (u:Nat) (l:List UInt8):headL u l <+: l:=by
 induction u generalizing l with
 | zero=>exact List.nil_prefix
 | succ u ih=>
  obtain ⟨t,ht⟩:=ih (l.drop (kk l));refine ⟨t,?_⟩;show (_ ++ _) ++ t=l;rw [List.append_assoc,ht,List.take_append_drop]
theorem oF (n:Int) (p:ByteArray):Ev prog 272 [.v (.int .i64 n),.v (.string p)] [] [] (fun d _ _=>∃ b:Bool,d = .v (.bool b)):=by
 have hc:=xa (IntKind.i32.wrap n);refine eG 22 [.tmp 4] func272 rfl ntmps272 rfl fun _ _ _ _=>?_;refine cP TQ hc ?_;refine br ?_ ?_<;>intro c
 ·refine ⟨⟨by omega,by omega,by simp at c;omega⟩,?_⟩;exact ⟨_,rfl⟩
 ·exact ⟨_,rfl⟩
abbrev lf01St (p a z:ByteArray) (e:Nat):St:=⟨[(0,⟨[],.v (.string p)⟩),(3,⟨[],.v (.string a)⟩),(4,⟨[],.v (.string z)⟩),(5,⟨[],.v (.int .i64 e)⟩)],[],[]⟩
theorem size_app (a b:ByteArray):(a ++ b).size=a.size + b.size:=by rw [<- bB,vz,List.length_append,bB,bB]
theorem D0 (p:ByteArray) (hp:1<=p.size/\p.size<=3):Ev prog 255 [.v (.string p)] [] [] (fun d _ _=>∃ b:Bool,d = .v (.bool b)):=by
 refine eG 40 [.tmp 2] func255 rfl ntmps255 rfl fun _ _ _ _=>?_;refine lI (fun j st=>∃ (e:Nat) (a z:ByteArray),st=lf01St p a z e/\e<=4/\p.size<=a.size/\a.size<=4/\z.size=a.size/\j=4 - e) ⟨0,p,p,rfl,by omega,by omega,by omega,rfl,rfl⟩ (weak_mk ⟨_,rfl⟩ wA rfl rfl rfl wB0) ?_;rintro j st ⟨e,a,z,rfl,he,ha,ha4,hz,rfl⟩;have hra:=pj a (by omega);have hrz:=pj z (by omega);have hba:=oF (recV (tx a)) p;have hbz:=oF (recV (tx z)) p;refine br ?_ ?_<;>intro hL
 rotate_left
 ·exact ⟨_,rfl⟩
 have au:e < 4:=by have:=of_decide_eq_true hL;omega
 have kW:∀ (a' z':ByteArray),p.size<=a'.size->a'.size<=4->z'.size=a'.size->∃ j',j' < 4 - e/\∃ (e':Nat) (a'' z'':ByteArray),lf01St p a' z' (e + 1)=lf01St p a'' z'' e' /\ e' <= 4/\p.size<=a''.size/\a''.size<=4/\z''.size=a''.size/\j'=4 - e':=fun a' z' h1 h2 h3=>⟨4 - (e + 1),by omega,e + 1,a',z',rfl,by omega,h1,h2,h3,rfl⟩;refine br ?_ ?_<;>intro c
 ·refine cP M0 hra ?_;refine bL TS rfl hba ax (fun q hq=>?_);obtain ⟨b1,rfl⟩:=hq
  cases b1 with
  | true=>
   exact ⟨_,rfl⟩
  | false=>
   refine cP M0 hrz ?_;refine bL TS rfl hbz ax (fun q hq=>?_);obtain ⟨b2,rfl⟩:=hq
   cases b2 with
   | true=>
     exact ⟨_,rfl⟩
   | false=>
    refine br ?_ ?_<;>intro g
    ·refine ⟨[128],rfl,?_⟩;refine ⟨by show a.size + 1<=_;omega,?_⟩;refine ⟨[191],rfl,?_⟩;refine ⟨by show z.size + 1<=_;omega,?_⟩;obtain ⟨j',h1,h2⟩:=kW (a ++ ba [128]) (z ++ ba [191]) (by rw [size_app];omega) (by rw [size_app];have:=of_decide_eq_true g;show _ + 1<=4;omega) (by rw [size_app,size_app,hz];rfl);exact ⟨lf01St p (a ++ ba [128]) (z ++ ba [191]) (e + 1),(weak_mk ⟨_,rfl⟩ wA rfl rfl rfl (wB1 (nxt au (by omega)))),j',h1,h2⟩
    ·obtain ⟨j',h1,h2⟩:=kW a z ha ha4 hz;exact ⟨lf01St p a z (e + 1),(weak_mk ⟨_,rfl⟩ wA rfl rfl rfl (wB1 (nxt au (by omega)))),j',h1,h2⟩
 ·refine br ?_ ?_<;>intro g
  ·refine ⟨[128],rfl,?_⟩;refine ⟨by show a.size + 1<=_;omega,?_⟩;refine ⟨[191],rfl,?_⟩;refine ⟨by show z.size + 1<=_;omega,?_⟩;obtain ⟨j',h1,h2⟩:=kW (a ++ ba [128]) (z ++ ba [191]) (by rw [size_app];omega) (by rw [size_app];have:=of_decide_eq_true g;show _ + 1<=4;omega) (by rw [size_app,size_app,hz];rfl);exact ⟨lf01St p (a ++ ba [128]) (z ++ ba [191]) (e + 1),(weak_mk ⟨_,rfl⟩ wA rfl rfl rfl (wB1 (nxt au (by omega)))),j',h1,h2⟩
  ·obtain ⟨j',h1,h2⟩:=kW a z ha ha4 hz;exact ⟨lf01St p a z (e + 1),(weak_mk ⟨_,rfl⟩ wA rfl rfl rfl (wB1 (nxt au (by omega)))),j',h1,h2⟩
theorem wrap32 {n:Int} (h1 : -2147483648<=n) (h2:n<=2147483647):IntKind.i32.wrap n=n:=by
 simp [IntKind.wrap,IntKind.min,IntKind.max,IntKind.signed,IntKind.bits];omega
abbrev sm (s:ByteArray) (e:Nat):St:=⟨[(0,⟨[],.v (.string s)⟩),(7,⟨[],.v (.int .i64 ((e + 1:Nat):Int))⟩)],[],[]⟩
abbrev Bt (s:ByteArray) (m:Int) (e:Nat):St:=⟨[(0,⟨[],.v (.string s)⟩),(9,⟨[],.v (.int .i64 m)⟩),(10,⟨[],.v (.int .i64 ((e + 2:Nat):Int))⟩)],[],[]⟩
theorem O9 (l:List UInt8) : -2147483648<=recV l/\recV l<=2147483647:=by
 have hb:=fun x:UInt8=>x.toNat_lt
 match l with
 | []=>simp [recV]
 | [a]=>have:=hb a;simp only [recV];omega
 | [a,b]=>have:=hb a;have:=hb b;simp only [recV];omega
 | [a,b,c]=>have:=hb a;have:=hb b;have:=hb c;simp only [recV];omega
 | [a,b,c,d]=>have:=hb a;have:=hb b;have:=hb c;have:=hb d;simp only [recV];omega
 | _ :: _ :: _ :: _ :: _ :: _=>simp [recV]
theorem uD (s:ByteArray) (n:Nat):tx (s.extract 0 n)=(tx s).take n:=by simp [tx]
theorem Pa {s:ByteArray} {l:List UInt8} {k:Nat} (hB:tx s=l):s.extract 0 k=ba (l.take k):=lR (by rw [uD,hB])
theorem Pb {a b:List UInt8}:ba a=ba b↔a=b:=⟨fun h=>by have:=congrArg tx h;rwa [mR,mR] at this,fun h=>by rw [h]⟩
theorem GR (s:ByteArray) (aD:Nat) (hs:s.size<=1099511627776) (c:UInt8) (r:List UInt8) (h:(tx s).drop aD=c :: r) :
  Ev prog 233 [.v (.string s),.v (.int .i64 aD)] [] [] (fun d _ _=>∃ (z:Int) (n:Int),d = .tup [.v (.int .i32 z),.v (.int .i64 n),.v (.bool (nu (c :: r)))]/\(nu (c :: r)=true->n=aR c.toNat/\z=recV ((c :: r).take (aR c.toNat))/\km z=true)):=by
 have hlen:aD < s.size:=by
  have:=congrArg List.length h;rw [List.length_drop,bB] at this;simp at this;omega
 have hB:tx (s.extract (aD:Int).toNat (s.size:Int).toNat)=c :: r:=by
  rw [<- h];simp [tx,Int.toNat_natCast];exact List.take_of_length_le (by rw [List.length_drop];have:=bB s;unfold tx at this;omega)
 have bJ:(s.extract (aD:Int).toNat (s.size:Int).toNat).size=r.length + 1:=by rw [<- bB,hB];all_goals rfl
 have hwf:=fun n=>wf_n c r n;have bS:=fun (h:nu (c :: r)=true)=>uC h;refine eG 65 [.tmp 4,.tmp 5,.tmp 6] func233 rfl ntmps233 rfl fun _ _ _ _=>?_;refine br (fun c=>absurd c (by simp [ap];omega)) (fun _=>?_);refine ⟨⟨by omega,by omega,by omega⟩,?_⟩;generalize s.extract (aD:Int).toNat (s.size:Int).toNat=b at hB bJ ⊢;refine lI (fun j st=>∃ e:Nat,st=sm b e/\e<=4/\(nu (c :: r)=true->e < aR c.toNat)/\j=4 - e) ⟨0,rfl,by omega,fun h=>by obtain ⟨_,_,h1,h2,_⟩:=bS h;cases h1;omega,rfl⟩ (weak_mk ⟨_,rfl⟩ wA rfl rfl rfl wB0) ?_;rintro j st ⟨e,rfl,he,aT,rfl⟩;refine br ?_ ?_<;>intro hL
 ·have hL:e < 4/\e<=r.length:=by
   simp [pickB_and,bJ] at hL;omega
  have hx:(b.extract 0 (((e + 1:Nat):Int)).toNat)=ba ((c :: r).take (e + 1)):=Pa hB;have hbl:(ba ((c :: r).take (e + 1))).size=e + 1:=by rw [<- bB,mR,List.length_take,List.length_cons];omega
  have jd:=pj (b.extract 0 (((e + 1:Nat):Int)).toNat) (by rw [hx];omega);rw [show tx (b.extract 0 (((e + 1:Nat):Int)).toNat)=(c :: r).take (e + 1) from by rw [hx,mR]] at jd;have hri:=O9 ((c :: r).take (e + 1));have hw:=hwf (e + 1) (by omega) (by omega) (by omega);have XS:Ux ((c :: r).take (e + 1))=(km (recV ((c :: r).take (e + 1))) && decide (DZ (recV ((c :: r).take (e + 1)))=(c :: r).take (e + 1))):=rfl;rw [XS] at hw;have QA:b.size=r.length + 1:=bJ;generalize FC:(c :: r).take (e + 1)=l at jd hri hw hx;generalize Fa:recV l=z at jd hri hw;have hzr:z=recV ((c :: r).take (e + 1)):=by rw [FC,Fa]
  have Sp:IntKind.i32.wrap z=z:=by
   exact wrap32 (by omega) (by omega)
  have H7:EvP prog 253 [.v (.int .i32 (IntKind.i32.wrap z))] (.v (.bool (km z))):=by
   rw [Sp];exact s7 z
  have lx:EvP prog 254 [.v (.int .i32 (IntKind.i32.wrap z))] (.v (.string (ba (DZ z)))):=by
   rw [Sp];exact xa z
  generalize hsb:km z=sb at H7 hw;generalize DZ z=en at lx hw;refine ⟨⟨by omega,by omega,by omega⟩,?_⟩;refine cP M0 jd ?_
  have qO:nu (c :: r)=false∨e + 1≠aR c.toNat->∃ j',j' < 4 - e/\∃ e',sm b (e + 1)=sm b e' /\ e' <= 4/\(nu (c :: r)=true->e' < aR c.toNat)/\j'=4 - e':=fun h=>⟨4 - (e + 1),by omega,e + 1,rfl,by omega,fun h2=>by
   have:=aT h2;rcases h with h | h
   ·rw [h] at h2;cases h2
   ·omega,rfl⟩
  have sa:(sb && decide (en=l))=false->nu (c :: r)=false∨e + 1≠aR c.toNat:=fun h=>by
   rw [h] at hw;cases ho:nu (c :: r)
   ·exact .inl rfl
   ·rw [ho] at hw;simp at hw;exact .inr fun h=>hw h.symm
  refine dI ?_;refine cD TP H7 ?_
  cases sb with
  | false=>
   obtain ⟨j',h1,h2⟩:=qO (sa rfl);exact ⟨sm b (e + 1),(weak_mk ⟨_,rfl⟩ wA rfl rfl rfl (by repeat' (first | exact trivial | exact ah rfl | exact ai (nxt (by omega:e + 1 < 5) (by omega)) | refine ⟨⟨_,rfl,?_⟩,?_⟩))),j',h1,h2⟩
  | true=>
   refine cD TQ lx ?_;refine ⟨⟨by omega,by omega,by omega⟩,?_⟩;refine br ?_ ?_<;>intro cc
   ·have hT:(true && decide (en=l))=true:=by
     have c1:ba en=b.extract 0 (((e + 1:Nat):Int)).toNat:=by simpa [pickB] using cc
     rw [hx,Pb] at c1;simp [c1]
    rw [hT] at hw;have hu:=hw.symm;rw [Bool.and_eq_true,decide_eq_true_iff] at hu;rw [hu.1];exact ⟨.tup [.v (.int .i32 (IntKind.i32.wrap z)),.v (.int .i64 ((e + 1:Nat):Int)),.v (.bool true)],ax,_,_,rfl,fun _=>⟨by rw [hu.2],by rw [Sp,hzr,hu.2],by rw [Sp,hsb]⟩⟩
   ·have hF:(true && decide (en=l))=false:=by
     have c1:¬ ba en=b.extract 0 (((e + 1:Nat):Int)).toNat:=by simpa [pickB] using cc
     rw [hx,Pb] at c1;simp [c1]
    obtain ⟨j',h1,h2⟩:=qO (sa hF);exact ⟨sm b (e + 1),(weak_mk ⟨_,rfl⟩ wA rfl rfl rfl (by repeat' (first | exact trivial | exact ah rfl | exact ai (nxt (by omega:e + 1 < 5) (by omega)) | refine ⟨⟨_,rfl,?_⟩,?_⟩))),j',h1,h2⟩
 ·have eS:nu (c :: r)=false:=by
   cases ho:nu (c :: r)
   ·rfl
   ·obtain ⟨_,_,h1,h2,h3,_⟩:=bS ho;cases h1;have h4:=aT ho;have h5:=Jd c.toNat;rw [List.length_cons] at h3;simp [pickB_and,bJ] at hL;omega
  rw [eS];refine lI (fun j st=>∃ (e:Nat) (m:Int),st=Bt b m e/\e<=2/\j=2 - e) ⟨0,1,rfl,by omega,rfl⟩ (weak_mk ⟨_,rfl⟩ wA rfl rfl rfl wB0) ?_;rintro j st ⟨e,m,rfl,he,rfl⟩;refine br ?_ ?_<;>intro hL
  ·have hL:e < 2/\e + 1<=r.length:=by
    simp [pickB_and,bJ] at hL;omega
   have hx:(b.extract 0 (((e + 2:Nat):Int)).toNat)=ba ((c :: r).take (e + 2)):=Pa hB;have hbl:(ba ((c :: r).take (e + 2))).size=e + 2:=by rw [<- bB,mR,List.length_take,List.length_cons];omega
   have B5:=D0 (b.extract 0 (((e + 2:Nat):Int)).toNat) (by rw [hx];omega);refine ⟨⟨by omega,by omega,by rw [bJ];omega⟩,?_⟩;refine bL ZZ rfl B5 ax (fun q hq=>?_);obtain ⟨b1,rfl⟩:=hq
   cases b1 with
   | true=>exact ⟨Bt b ((e + 2:Nat):Int) (e + 1),(weak_mk ⟨_,rfl⟩ wA rfl rfl rfl (by repeat' (first | exact trivial | exact ah rfl | exact ai (nxt (by omega:e + 2 < 4) (by omega)) | refine ⟨⟨_,rfl,?_⟩,?_⟩))),2 - (e + 1),by omega,e + 1,_,rfl,by omega,rfl⟩
   | false=>exact ⟨Bt b m (e + 1),(weak_mk ⟨_,rfl⟩ wA rfl rfl rfl (by repeat' (first | exact trivial | exact ah rfl | exact ai (nxt (by omega:e + 2 < 4) (by omega)) | refine ⟨⟨_,rfl,?_⟩,?_⟩))),2 - (e + 1),by omega,e + 1,_,rfl,by omega,rfl⟩
  ·exact ⟨.tup [.v (.int .i32 0),.v (.int .i64 m),.v (.bool false)],ax,_,_,rfl,fun h=>by cases h⟩
def spB:List DV->Bool
 | [.v (.int .i32 _),.v (.int .i32 _)]=>true
 | _=>false
theorem Pc {cs:List DV} (h:spB cs=true):∃ a b:Int,cs=[.v (.int .i32 a),.v (.int .i32 b)]:=by
 unfold spB at h;split at h
 ·exact ⟨_,_,rfl⟩
 ·cases h
theorem Uy {es:List (List DV)} (h:es.all spB=true) {i:Nat} (hi:i < es.length):∃ a b:Int,es[i]? = some [.v (.int .i32 a),.v (.int .i32 b)]:=by
 rw [List.all_eq_true] at h;obtain ⟨a,b,oT⟩:=Pc (h es[i] (List.getElem_mem hi));exact ⟨a,b,by rw [gE hi,oT]⟩
def oG (z:Int):List DV->Bool
 | [.v (.int .i32 a),.v (.int .i32 b)]=>decide (a<=z) && decide (z<=b)
 | _=>false
def srtB:Int->List (List DV)->Bool
 | _,[]=>true
 | m,[.v (.int .i32 a),.v (.int .i32 b)] :: r=>decide (m < a) && decide (a<=b) && srtB b r
 | _,_=>false
theorem xc {m:Int} {x:List DV} {r:List (List DV)} (h:srtB m (x :: r)=true):∃ a b:Int,x=[.v (.int .i32 a),.v (.int .i32 b)]/\m < a/\a<=b/\srtB b r=true:=by
 unfold srtB at h;split at h
 ·rename_i aK;cases aK
 ·rename_i aK;injection aK with h1 h2
  subst h1 h2;rw [Bool.and_eq_true,Bool.and_eq_true,decide_eq_true_iff,decide_eq_true_iff] at h;exact ⟨_,_,rfl,h.1.1,h.1.2,h.2⟩
 ·cases h
theorem uE:∀ {es:List (List DV)} {m:Int} (_:srtB m es=true) {i:Nat} {a b:Int} (_:es[i]? = some [.v (.int .i32 a),.v (.int .i32 b)]),m < a/\a<=b/\srtB b (es.drop (i + 1))=true
 | [],_,_,i,_,_,hi=>by simp at hi
 | x :: r,m,h,i,a,b,hi=>by
  obtain ⟨a0,b0,rfl,h1,h2,h3⟩:=xc h
  cases i with
  | zero=>
   simp only [List.getElem?_cons_zero,oI,List.cons.injEq,DV.v.injEq,Value.int.injEq,true_and,and_true] at hi;obtain ⟨rfl,rfl⟩:=hi;exact ⟨h1,h2,h3⟩
  | succ i=>
   obtain ⟨g1,g2,g3⟩:=uE h3 (i:=i) (sU hi);exact ⟨by omega,g2,g3⟩
theorem Pd {z:Int}:∀ {es:List (List DV)} {m:Int} (_:srtB m es=true) (_:z<=m),es.any (oG z)=false
 | [],_,_,_=>rfl
 | x :: r,m,h,hz=>by
  obtain ⟨a0,b0,rfl,h1,h2,h3⟩:=xc h;rw [List.any_cons,Pd h3 (by omega),Bool.or_false];simp only [oG,Bool.and_eq_false_imp,decide_eq_true_iff,decide_eq_false_iff_not];omega
theorem WL {z m:Int} {es:List (List DV)} (h:srtB m es=true) {i:Nat} {a b:Int} (hi:es[i]? = some [.v (.int .i32 a),.v (.int .i32 b)]) (hz:z < a):(es.drop i).any (oG z)=false:=by
 obtain ⟨g1,g2,g3⟩:=uE h hi;rw [drop_cons hi,List.any_cons,Pd g3 (by omega),Bool.or_false];simp only [oG,Bool.and_eq_false_imp,decide_eq_true_iff,decide_eq_false_iff_not];omega
theorem Pe {z:Int}:∀ {es:List (List DV)} {m:Int} (_:srtB m es=true) {i:Nat} {a b:Int} (_:es[i]? = some [.v (.int .i32 a),.v (.int .i32 b)]) (_:b < z),(es.take (i + 1)).any (oG z)=false
 | [],_,_,i,_,_,hi,_=>by simp at hi
 | x :: r,m,h,i,a,b,hi,hz=>by
  obtain ⟨a0,b0,rfl,h1,h2,h3⟩:=xc h
  cases i with
  | zero=>
   simp only [List.getElem?_cons_zero,oI,List.cons.injEq,DV.v.injEq,Value.int.injEq,true_and,and_true] at hi;obtain ⟨rfl,rfl⟩:=hi;simp only [List.take_succ_cons,List.take_zero,List.any_cons,List.any_nil,Bool.or_false,oG,Bool.and_eq_false_imp,decide_eq_true_iff,decide_eq_false_iff_not];omega
  | succ i=>
   have hi:r[i]? = some [.v (.int .i32 a),.v (.int .i32 b)]:=sU hi;have g1:=(uE h3 hi).1;have g2:=(uE h3 hi).2.1;rw [List.take_succ_cons,List.any_cons,Pe h3 hi hz,Bool.or_false];simp only [oG,Bool.and_eq_false_imp,decide_eq_true_iff,decide_eq_false_iff_not];omega
theorem Je {es:List (List DV)} {z a b:Int} {i:Nat} (hi:es[i]? = some [.v (.int .i32 a),.v (.int .i32 b)]) (h1:a<=z) (h2:z<=b):es.any (oG z)=true:=
 List.any_eq_true.2 ⟨_,mG hi,by simp only [oG,Bool.and_eq_true,decide_eq_true_iff];omega⟩
def Sq (d:DV) (_:List (List DV)) (_:List TkE):Prop:=∃ es:List (List DV),d = .sl 2 es none/\(Nat.ble es.length 1000 && es.all spB)=true
set_option maxHeartbeats 4000000 in
theorem Pf:Ev prog 274 [] [] [] Sq:=by
 refine eG 118 [.tmp 0] func274 rfl ntmps274 rfl fun _ _ _ _=>?_;exact ⟨_,ax,_,rfl,rfl⟩
set_option maxHeartbeats 4000000 in
theorem Pg:Ev prog 275 [] [] [] Sq:=by
 refine eG 84 [.tmp 0] func275 rfl ntmps275 rfl fun _ _ _ _=>?_;exact ⟨_,ax,_,rfl,rfl⟩
set_option maxHeartbeats 4000000 in
theorem GS:Ev prog 257 [] [] [] Sq:=by
 refine eG 118 [.tmp 0] func257 rfl ntmps257 rfl fun _ _ _ _=>?_;exact ⟨_,ax,_,rfl,rfl⟩
set_option maxHeartbeats 4000000 in
theorem GU:Ev prog 258 [] [] [] Sq:=by
 refine eG 84 [.tmp 0] func258 rfl ntmps258 rfl fun _ _ _ _=>?_;exact ⟨_,ax,_,rfl,rfl⟩
abbrev hasSt (es:List (List DV)) (z:Int) (e:Nat):St:=⟨[(0,⟨[],.sl 2 es none⟩),(1,⟨[],.v (.int .i32 z)⟩),(5,⟨[],.v (.int .i64 e)⟩)],[],[]⟩
theorem xe (es:List (List DV)) (z:Int) (hl:es.length<=1000) (hs:es.all spB=true):Ev prog 256 [.sl 2 es none,.v (.int .i32 z)] [] [] (fun d _ _=>∃ b:Bool,d = .v (.bool b)/\(0<=z->z<=1114111->b=es.any (oG z))):=by
 refine eG 36 [.tmp 4] func256 rfl ntmps256 rfl fun _ _ _ _=>?_;refine lI (fun j st=>∃ e:Nat,st=hasSt es z e/\e<=es.length/\(0<=z->z<=1114111->es.any (oG z)=(es.drop e).any (oG z))/\j=es.length - e) ⟨0,rfl,by omega,fun _ _=>rfl,rfl⟩ (weak_mk ⟨_,rfl⟩ wA rfl rfl rfl wB0) ?_;rintro j st ⟨e,rfl,he,XZ,rfl⟩;refine br ?_ ?_<;>intro hL
 rotate_left
 ·have aN:e=es.length:=by have:=of_decide_eq_false hL;omega
  refine ⟨_,rfl,fun h1 h2=>?_⟩;rw [XZ h1 h2,aN,List.drop_length];all_goals rfl
 have au:e < es.length:=by have:=of_decide_eq_true hL;omega
 obtain ⟨a,b,oT⟩:=Uy hs au
 have kW:(0<=z->z<=1114111->¬ (a<=z/\z<=b))->∃ j',j' < es.length - e/\∃ e':Nat,hasSt es z (e + 1)=hasSt es z e' /\ e' <= es.length/\(0<=z->z<=1114111->es.any (oG z)=(es.drop e').any (oG z))/\j'=es.length - e':=fun eS=>⟨es.length - (e + 1),by omega,e + 1,rfl,by omega,fun h1 h2=>by
  rw [XZ h1 h2,drop_cons oT,List.any_cons]
  have:oG z [.v (.int .i32 a),.v (.int .i32 b)]=false:=by
   have:=eS h1 h2;simp only [oG,Bool.and_eq_false_imp,decide_eq_true_iff,decide_eq_false_iff_not];omega
  rw [this,Bool.false_or],rfl⟩
 refine br ?_ ?_<;>intro c1
 ·refine ⟨_,⟨by omega,oT⟩,?_⟩;refine br ?_ ?_<;>intro c2
  ·have c2:a<=z:=by simpa [pickB_and] using c2
   refine ⟨_,⟨by omega,oT⟩,?_⟩;refine br ?_ ?_<;>intro c3
   ·exact ⟨_,rfl,fun _ _=>(Je oT c2 (by simpa [pickB_and] using c3)).symm⟩
   ·obtain ⟨j',h1,h2⟩:=kW (fun _ _=>by simp [pickB_and] at c3;omega);exact ⟨hasSt es z (e + 1),(weak_mk ⟨_,rfl⟩ wA rfl rfl rfl (wB1 (nxt au (by omega)))),j',h1,h2⟩
  ·obtain ⟨j',h1,h2⟩:=kW (fun _ _=>by simp [pickB_and] at c2;omega);exact ⟨hasSt es z (e + 1),(weak_mk ⟨_,rfl⟩ wA rfl rfl rfl (wB1 (nxt au (by omega)))),j',h1,h2⟩
 ·obtain ⟨j',h1,h2⟩:=kW (fun _ _=>by simp [pickB_and] at c1;omega);exact ⟨hasSt es z (e + 1),(weak_mk ⟨_,rfl⟩ wA rfl rfl rfl (wB1 (nxt au (by omega)))),j',h1,h2⟩
abbrev Sr (es:List (List DV)) (z:Int) (lo hi:Nat):St:=⟨[(0,⟨[],.sl 2 es none⟩),(1,⟨[],.v (.int .i32 z)⟩),(5,⟨[],.v (.int .i64 lo)⟩),(6,⟨[],.v (.int .i64 hi)⟩)],[],[]⟩
theorem Bu (es:List (List DV)) (z:Int) (hl:es.length<=1000) (hs:es.all spB=true):Ev prog 273 [.sl 2 es none,.v (.int .i32 z)] [] [] (fun d _ _=>∃ b:Bool,d = .v (.bool b)/\∀ m,srtB m es=true->b=es.any (oG z)):=by
 refine eG 38 [.tmp 4] func273 rfl ntmps273 rfl fun _ _ _ _=>?_;refine lI (fun j st=>∃ lo hi:Nat,st=Sr es z lo hi/\lo<=hi/\hi<=es.length/\(∀ m,srtB m es=true->(es.take lo).any (oG z)=false/\(es.drop hi).any (oG z)=false)/\j=hi - lo) ⟨0,es.length,rfl,by omega,by omega,fun _ _=>⟨rfl,by rw [List.drop_length];rfl⟩,rfl⟩ (weak_mk ⟨_,rfl⟩ wA rfl rfl rfl wB0) ?_;rintro j st ⟨lo,hi,rfl,h1,h2,XZ,rfl⟩;refine br ?_ ?_<;>intro hL
 rotate_left
 ·have aN:lo=hi:=by have:=of_decide_eq_false hL;omega
  refine ⟨_,rfl,fun m hm=>?_⟩;obtain ⟨g1,g2⟩:=XZ m hm;rw [<- aN] at g2;rw [<- List.take_append_drop lo es,List.any_append,g1,g2];all_goals rfl
 have au:lo < hi:=by have:=of_decide_eq_true hL;omega
 have hm:IntKind.i64.wrap ((lo:Int) + IntKind.i64.wrap ((IntKind.i64.wrap ((hi:Int) - lo)).tdiv 2))=((lo + (hi - lo) / 2:Nat):Int):=by
  rw [wrap64 (n:=(hi:Int) - lo) (by omega) (by omega)];rw [Int.tdiv_eq_ediv_of_nonneg (by omega)];rw [wrap64 (n:=((hi:Int) - lo) / 2) (by omega) (by omega),wrap64 (by omega) (by omega)];omega
 obtain ⟨a,b,oT⟩:=Uy hs (i:=lo + (hi - lo) / 2) (by omega);refine ⟨⟨rfl,by decide⟩,?_⟩;refine ⟨_,⟨by rw [hm];omega,by rw [hm,Int.toNat_natCast];exact oT⟩,?_⟩;refine br ?_ ?_<;>intro c
 ·exact ⟨Sr es z lo (lo + (hi - lo) / 2),(weak_mk ⟨_,rfl⟩ wA rfl rfl rfl (wB1 hm)),lo + (hi - lo) / 2 - lo,by omega,_,_,rfl,by omega,by omega,fun m hm=>⟨(XZ m hm).1,WL hm oT (sU c)⟩,rfl⟩
 ·refine ⟨_,⟨by rw [hm];omega,by rw [hm,Int.toNat_natCast];exact oT⟩,?_⟩;have c0:=c;refine br ?_ ?_<;>intro c
  ·have q6:IntKind.i64.wrap (IntKind.i64.wrap ((lo:Int) + IntKind.i64.wrap ((IntKind.i64.wrap ((hi:Int) - lo)).tdiv 2)) + 1)=((lo + (hi - lo) / 2 + 1:Nat):Int):=by
    rw [hm,wrap64 (by omega) (by omega)];omega
   exact ⟨Sr es z (lo + (hi - lo) / 2 + 1) hi,(weak_mk ⟨_,rfl⟩ wA rfl rfl rfl (wB1 q6)),hi - (lo + (hi - lo) / 2 + 1),by omega,_,_,rfl,by omega,by omega,fun m hm=>⟨Pe hm oT (sU c),(XZ m hm).2⟩,rfl⟩
  ·exact ⟨_,rfl,fun _ _=>(Je oT (sU c0) (sU c)).symm⟩
theorem D1 (z:Int):Ev prog 261 [.v (.int .i32 z)] [] [] (fun d _ _=>∃ b:Bool,d = .v (.bool b)):=by
 refine eG 6 [.tmp 2] func261 rfl ntmps261 rfl fun _ _ _ _=>?_;refine bL Z9 rfl Pf ax (fun q hq=>?_);obtain ⟨es,rfl,he⟩:=hq;rw [Bool.and_eq_true,Nat.ble_eq] at he;refine bL yT rfl (Bu es z he.1 he.2) ax (fun q hq=>?_);obtain ⟨b,rfl,_⟩:=hq;exact ⟨_,rfl⟩
theorem D2 (z:Int):Ev prog 262 [.v (.int .i32 z)] [] [] (fun d _ _=>∃ b:Bool,d = .v (.bool b)):=by
 refine eG 6 [.tmp 2] func262 rfl ntmps262 rfl fun _ _ _ _=>?_;refine bL aaa rfl Pg ax (fun q hq=>?_);obtain ⟨es,rfl,he⟩:=hq;rw [Bool.and_eq_true,Nat.ble_eq] at he;refine bL yT rfl (Bu es z he.1 he.2) ax (fun q hq=>?_);obtain ⟨b,rfl,_⟩:=hq;exact ⟨_,rfl⟩
theorem K2 (z:Int):Ev prog 236 [.v (.int .i32 z)] [] [] (fun d _ _=>∃ n:Int,d = .v (.int .i64 n)):=by
 refine eG 9 [.tmp 2] func236 rfl ntmps236 rfl fun _ _ _ _=>?_;refine bL Z4 rfl (D1 z) ax (fun q hq=>?_);obtain ⟨b,rfl⟩:=hq
 cases b with
 | true=>exact ⟨_,rfl⟩
 | false=>
  refine bL Z5 rfl (D2 z) ax (fun q hq=>?_);obtain ⟨b,rfl⟩:=hq
  cases b with
  | true=>exact ⟨_,rfl⟩
  | false=>exact ⟨_,rfl⟩
theorem D3 (z:Int):Ev prog 234 [.v (.int .i32 z)] [] [] (fun d _ _=>∃ n:Int,d = .v (.int .i64 n)):=by
 refine eG 9 [.tmp 2] func234 rfl ntmps234 rfl fun _ _ _ _=>?_;refine bL Z0 rfl GS ax (fun q hq=>?_);obtain ⟨es,rfl,he⟩:=hq;rw [Bool.and_eq_true,Nat.ble_eq] at he;refine bL TR rfl (xe es z he.1 he.2) ax (fun q hq=>?_);obtain ⟨b,rfl,_⟩:=hq
 cases b with
 | true=>exact ⟨_,rfl⟩
 | false=>
  refine bL Z1 rfl GU ax (fun q hq=>?_);obtain ⟨es,rfl,he⟩:=hq;rw [Bool.and_eq_true,Nat.ble_eq] at he;refine bL TR rfl (xe es z he.1 he.2) ax (fun q hq=>?_);obtain ⟨b,rfl,_⟩:=hq
  cases b with
  | true=>exact ⟨_,rfl⟩
  | false=>exact ⟨_,rfl⟩
theorem Pj (s:ByteArray) (hs:s.size<=1099511627776):EvP prog 235 [.v (.string s),.v (.int .i64 (s.size:Nat))] (.tup [.v (.int .i32 0),.v (.int .i64 0),.v (.bool false)]):=by
 refine eG 60 [.tmp 4,.tmp 5,.tmp 6] func235 rfl ntmps235 rfl fun _ _ _ _=>?_;refine br (fun _=>?_) (fun c=>absurd c (by simp [ap]));exact ⟨_,ax,rfl⟩
theorem K3 (s:ByteArray) (aD:Nat) (hs:s.size<=1099511627776) (h:aD <= s.size):Ev prog 192 [.v (.string s),.v (.int .i64 aD)] [] [] (fun d _ _=>∃ c:Int,d = .tup [.v (.int .i64 c),.v (.int .i64 (kk ((tx s).drop aD):Nat))]):=by
 cases hd:(tx s).drop aD with
 | nil=>
  have he:aD=s.size:=by
   have:=congrArg List.length hd;rw [List.length_drop,bB,List.length_nil] at this;omega
  subst he;refine eG 24 [.tmp 4,.tmp 5] func192 rfl ntmps192 rfl fun _ _ _ _=>?_;refine cP MW (Pj s hs) ?_;exact ⟨.tup [.v (.int .i64 0),.v (.int .i64 ((0:Nat):Int))],ax,_,rfl⟩
 | cons c r=>
  have hu:=zN s aD hs c r hd;have Fu:kk (c :: r)=if nu (c :: r)=true then aR c.toNat else 1:=rfl
  rw [Fu];generalize nu (c :: r)=ok at hu ⊢;refine eG 24 [.tmp 4,.tmp 5] func192 rfl ntmps192 rfl fun _ _ _ _=>?_;refine bL MW rfl hu ax (fun q hq=>?_);obtain ⟨z,n,rfl,hn,hp⟩:=hq
  cases ok with
  | true=>
   have:=(hn rfl).1;subst this;refine bL ZT rfl (K2 z) ax (fun q hq=>?_);obtain ⟨m,rfl⟩:=hq;exact ⟨.tup [.v (.int .i64 m),.v (.int .i64 (aR c.toNat:Nat))],ax,_,rfl⟩
  | false=>
   refine br (fun _=>?_) (fun g=>absurd g (by simp;omega));exact ⟨.tup [.v (.int .i64 1),.v (.int .i64 ((1:Nat):Int))],ax,_,rfl⟩
theorem D4 (s:ByteArray) (hs:s.size<=1099511627776) (h:0 < s.size):Ev prog 191 [.v (.string s),.v (.int .i64 0)] [] [] (fun d _ _=>∃ c:Int,d = .tup [.v (.int .i64 c),.v (.int .i64 (kk (tx s):Nat))]):=by
 cases hd:tx s with
 | nil=>
  have:=bB s;rw [hd,List.length_nil] at this;omega
 | cons c r=>
  have hu:=GR s 0 hs c r (by rw [List.drop_zero];exact hd);have Fu:kk (c :: r)=if nu (c :: r)=true then aR c.toNat else 1:=rfl
  rw [Fu];generalize nu (c :: r)=ok at hu ⊢;refine eG 21 [.tmp 4,.tmp 5] func191 rfl ntmps191 rfl fun _ _ _ _=>?_;refine bL ZR rfl hu ax (fun q hq=>?_);obtain ⟨z,n,rfl,hn⟩:=hq
  cases ok with
  | true=>
   have:=(hn rfl).1;subst this;refine bL ZS rfl (D3 z) ax (fun q hq=>?_);obtain ⟨m,rfl⟩:=hq;exact ⟨.tup [.v (.int .i64 m),.v (.int .i64 (aR c.toNat:Nat))],ax,_,rfl⟩
  | false=>
   exact ⟨.tup [.v (.int .i64 1),.v (.int .i64 ((1:Nat):Int))],ax,_,rfl⟩
end Go.Proofs.YtffhgcbfpidfiaaGreat
set_option maxRecDepth 100000
namespace Go.Proofs
open Go.Shelf
def Tryz.laysB_ren:Go.Shelf.Ren:=⟨fun | 240=>115 | 276=>161 | n=>n,fun | 9=>9 | 4=>4 | 0=>0 | 20=>20 | 72=>135 | 70=>132 | 37=>133 | 164=>252 | 5=>5 | n=>n,fun | n=>n⟩
theorem Tryz.laysB:Go.Proofs.Lays.n240 Tryz.prog Tryz.laysB_ren:={
 mixed:=by kernel_rfl
 f240:=Tryz.func115.trans (congrArg some (by kernel_rfl))
 f276:=Tryz.func161.trans (congrArg some (by kernel_rfl))
 t0:=Tryz.underlying0
 a0:=Tryz.isAgg0
 z0:=Tryz.sizeOf0
 v0:=Tryz.zeroValue0
 t4:=Tryz.underlying4
 a4:=Tryz.isAgg4
 z4:=Tryz.sizeOf4
 v4:=Tryz.zeroValue4
 t9:=Tryz.underlying9
 a9:=Tryz.isAgg9
 z9:=Tryz.sizeOf9
 v9:=Tryz.zeroValue9
 t20:=Tryz.underlying20
 a20:=Tryz.isAgg20
 z20:=Tryz.sizeOf20
 v20:=Tryz.zeroValue20
 t70:=Tryz.underlying132
 a70:=Tryz.isAgg132
 z70:=Tryz.sizeOf132
 v70:=Tryz.zeroValue132
 t72:=Tryz.underlying135
 a72:=Tryz.isAgg135
 z72:=Tryz.sizeOf135
 v72:=Tryz.zeroValue135
 t164:=Tryz.underlying252
 a164:=Tryz.isAgg252
 z164:=Tryz.sizeOf252
 v164:=Tryz.zeroValue252 }
theorem Tryz.laysBX:Builder.Extra Tryz.prog Tryz.laysB_ren:={
 sizeBuilder:=by kernel_rfl
 liesBuilder:=by kernel_rfl
 t5:=Tryz.underlying5
 a5:=Tryz.isAgg5
 z5:=Tryz.sizeOf5
 v5:=Tryz.zeroValue5
 infoByte:=by kernel_rfl
 cellsByte:=by kernel_rfl
 sizeByte:=by kernel_rfl
 neB5:=by decide }
end Go.Proofs
set_option maxRecDepth 100000
namespace Go.Proofs.YtffhgcbfpidfiaaGreat
open Go Go.RowKit Go.Lib Dv Go.Proofs.Tryz
theorem l8 {P:Program} (w:World) (t u ty e:TypeId) (i:TypeInfo) (ht:P.underlying t=some (.slice e)) (hu:P.underlying u=some .string) (hi:P.info? e=some i) (hz:i.zero=some (.int .u8 0))
  (jE:i.size=1) (tA:i.bytes=1) (v:Value) (n:Nat) (xs:List Value) (E9:w.ownsRow 0 e 1 v n xs) (s:ByteArray) (LO:n + s.size<=maxLen) (jF:n + s.size<=140737488355328) (hs:0 < s.size) :
  ∃ g cap w',(Builtin.append_ #[t,u] ty #[v,.string s]).run P w = .ok (.slice (some ⟨g,0,none⟩) (n + s.size) cap) w' /\ w'.ownsRow 0 e 1 (.slice (some ⟨g,0,none⟩) (n + s.size) cap) (n + s.size) (xs ++ strCells s)/\w.grownBy w' v.ownBlock /\
   ((v.ownBlock=some g)∨(w.heap.size<=g/\∀ k,k < w.heap.size->w'.heap[k]? = w.heap[k]?)):=by
 obtain ⟨v',w',hr,h2,h3,h4⟩:=Lib.run_append_own_string (P:=P) w 0 t u ty e i ht hu hi hz jE tA v n xs E9 s LO jF (Nat.zero_le _);have L7:n + s.size<=9223372036854775807:=by simp only [maxLen] at LO;omega
 have ub:xs.length=n:=by simpa using E9.1
 rcases E9.2 with ⟨rfl,rfl⟩ | ⟨g,cap,cur,rfl,hbg,hg,tV,hcm,cG,htake⟩
 ·have lp:=run_append_nil_string (P:=P) w t u ty e i (.int .u8 0) ht hu hi hz s hs (by omega) (by rw [tA];omega);rw [lp] at hr;injection hr with e1 e2
  subst e1;simp only [Nat.zero_add] at *;exact ⟨_,_,w',by rw [lp,e2],h2,h3,.inr ⟨Nat.le_refl _,fun k hk=>by rw [<- e2];exact Below.heap_alloc w.drew _ k hk⟩⟩
 ·by_cases HP:n + s.size<=cap
  ·have hcs':cur.size=cap:=sU cG;have lp:=Lib.run_append_room_string (P:=P) w t u ty e i ht hu hi jE g n cap cur hg s HP (by omega);rw [lp] at hr;injection hr with e1 e2
   subst e1;exact ⟨_,_,w',by rw [lp,e2],h2,h3,.inl rfl⟩
  ·have holds:∀ j u,xs[j]? = some u->w.cell? ((⟨g,0,none⟩:Addr).add j)=some u:=E9.cells (g:=g) rfl;have lp:=Lib.run_append_grow_string (P:=P) w t u ty e i (.int .u8 0) ht hu hi hz ⟨g,0,none⟩ n cap xs (by rw [jE];simpa using ub) holds s (by omega) (by omega) (by rw [tA];exact growslice_fits (by omega) (by omega));rw [lp] at hr;injection hr with e1 e2
   subst e1;exact ⟨_,_,w',by rw [lp,e2],h2,h3,.inr ⟨Nat.le_refl _,fun k hk=>by rw [<- e2];exact Below.heap_alloc w.drew _ k hk⟩⟩
theorem s8 {w:World} {b:Nat} {o:Obj} (h:w.heap[b]? = some o):World.cW w b o=w:=by
 obtain ⟨hb,hg⟩:=Array.getElem?_eq_some_iff.1 h
 have e:w.heap.setIfInBounds b o=w.heap:=by
  apply Array.ext
  ·simp
  ·intro i h1 h2;by_cases hi:b=i
   ·subst hi;simp [hg]
   ·rw [Array.getElem_setIfInBounds_ne (sU h1) hi]
 show { w with heap:=w.heap.setIfInBounds b o }=w;rw [e]
abbrev iF (w:World) (b:Nat) (v:Value):World:=World.cW w b (.cells #[.pointer (some ⟨b,0,none⟩),v] 135 (0,0))
theorem xf (b:Nat) (p v:Value) (w:World) (hp:p = .pointer none∨p = .pointer (some ⟨b,0,none⟩)) (mT:w.heap[b]? = some (.cells #[p,v] 135 (0,0))) :
  Calls prog 115 #[.pointer (some ⟨b,0,none⟩)] w fun e w'=>e = .returned (.tuple #[])/\w'=iF w b v:=by
 rcases hp with rfl | rfl
 ·refine (Any.Builder_copyCheck_fresh Tryz.laysB Tryz.laysBX.toX72 b w (by rw [Lib.cell_of_heap mT];rfl) (by simp [World.shape?,mT,Tryz.laysB_ren]) (by simp [World.frozen?,mT])).mono ?_;rintro e w' ⟨rfl,rfl⟩;exact ⟨rfl,by rw [fc mT];rfl⟩
 ·refine (Any.Builder_copyCheck_used Tryz.laysB Tryz.laysBX.toX72 b w (by rw [Lib.cell_of_heap mT];rfl)).mono ?_;rintro e w' ⟨rfl,rfl⟩;exact ⟨rfl,(s8 mT).symm⟩
theorem pk {P:Program} {w:World} {ops:Array Oper} {rest:List Oper} {o:Oper} {a:Act} {Q:Exit->Act->World->Prop} (JP:o.guard=none) (sl x:Operand) (t u:TypeId)
  (ho:o.op = .call { callee:=.builtin .append,args:=#[sl,x],argTypes:=#[t,u] })
  (e:TypeId) (i:TypeInfo) (ht:P.underlying t=some (.slice e)) (hu:P.underlying u=some .string) (hi:P.info? e=some i) (hz:i.zero=some (.int .u8 0))
  (jE:i.size=1) (tA:i.bytes=1)
  (v:Value) (n:Nat) (xs:List Value) (hs:a.eval sl=v) (E9:w.ownsRow 0 e 1 v n xs) (s:ByteArray) (hx:a.eval x = .string s)
  (LO:n + s.size<=maxLen) (jF:n + s.size<=140737488355328) (kx:0 < s.size)
  (h:∀ g cap w',w'.ownsRow 0 e 1 (.slice (some ⟨g,0,none⟩) (n + s.size) cap) (n + s.size) (xs ++ strCells s)->w.grownBy w' v.ownBlock->((v.ownBlock=some g)∨(w.heap.size<=g/\∀ k,k < w.heap.size->w'.heap[k]? = w.heap[k]?)) ->
   wpList P ops Q rest (a.put o.dst (.slice (some ⟨g,0,none⟩) (n + s.size) cap)) w'):wpList P ops Q (o :: rest) a w:=by
 refine wpList_plain JP fun K hK=>?_;obtain ⟨g,cap,w',hr,h2,h3,h4⟩:=l8 (P:=P) w t u o.type e i ht hu hi hz jE tA v n xs E9 s LO jF kx;unfold Oper.wp execOp;simp only [ho,resolve,invoke,builtin,Sem.run_bind,Sem.run_pure,Result.andThen_ok,List.map_toArray,List.map_cons,List.map_nil,hs,hx,hr];exact hK _ _ (h g cap w' h2 h3 h4)
def GV (ret:Value) (w:World) (b:Nat) (v:Value) (n:Nat) (xs:List Value) (s:ByteArray) (e:Ending) (w':World):Prop:=
 e = .returned ret/\∃ g cap w2,w2.ownsRow 0 5 1 (.slice (some ⟨g,0,none⟩) (n + s.size) cap) (n + s.size) (xs ++ strCells s)/\(iF w b v).grownBy w2 v.ownBlock /\
  ((v.ownBlock=some g)∨((iF w b v).heap.size<=g/\∀ k,k < (iF w b v).heap.size->w2.heap[k]? = (iF w b v).heap[k]?)) /\
  w'=World.cW w2 b (.cells #[.pointer (some ⟨b,0,none⟩),.slice (some ⟨g,0,none⟩) (n + s.size) cap] 135 (0,0))
theorem Bv {w:World} {b e n:Nat} {v:Value} {xs:List Value} {o:Obj} (h:w.ownsRow 0 e 1 v n xs) (aT:v.ownBlock≠some b):(World.cW w b o).ownsRow 0 e 1 v n xs:=by
 refine ⟨h.1,?_⟩;rcases h.2 with h | ⟨g,cap,cur,rfl,h1,h2,h3⟩
 ·exact .inl h
 ·refine .inr ⟨g,cap,cur,rfl,h1,?_,h3⟩;rw [cx]
  ·exact h2
  ·rintro rfl;exact aT rfl
set_option maxHeartbeats 2000000 in
theorem Pk (b:Nat) (p v:Value) (n:Nat) (xs:List Value) (s:ByteArray) (w:World) (hp:p = .pointer none∨p = .pointer (some ⟨b,0,none⟩)) (mT:w.heap[b]? = some (.cells #[p,v] 135 (0,0)))
  (E9:w.ownsRow 0 5 1 v n xs) (aT:v.ownBlock≠some b) (hs:0 < s.size) (hlen:n + s.size<=140737488355328) :
  Calls prog 58 #[.pointer (some ⟨b,0,none⟩),.string s] w (GV (.tuple #[.int .i64 s.size,.nilIface]) w b v n xs s):=by
 obtain ⟨i0,hi,Fa,hz1,XL⟩:=info_parts Tryz.laysBX.infoByte
 go_enter func58,ntmps58
 go_wp2_with (go_at_call 115;refine (xf b p v _ hp mT).mono ?_)
 rintro e w1 ⟨rfl,rfl⟩;have eN:(iF w b v).heap[b]? = some (.cells #[.pointer (some ⟨b,0,none⟩),v] 135 (0,0)):=dE mT;have D5:(iF w b v).ownsRow 0 5 1 v n xs:=Bv E9 aT;have c0:(iF w b v).cell? ⟨b,0,none⟩=some (.pointer (some ⟨b,0,none⟩)):=by rw [Lib.cell_of_heap eN];all_goals rfl
 have c1:(iF w b v).cell? ⟨b,1,none⟩=some v:=by rw [Lib.cell_of_heap eN];all_goals rfl
 have au:b < (iF w b v).heap.size:=cp eN;obtain ⟨W1,Pl⟩:∃ W1,W1=iF w b v:=⟨_,rfl⟩;rw [<- Pl] at eN D5 c0 c1 au ⊢;have HW:=Lib.hid Pl;clear Pl
 go_wp2_with (at_builtin;refine pk rfl _ _ 133 9 rfl 5 i0 Tryz.underlying133 Tryz.underlying9 hi Fa hz1 XL _ _ _ rfl D5 s rfl ?c3 ?c4 hs ?_)
 case c3=>unfold maxLen;omega
 case c4=>omega
 intro g cap w2 Pm mf x8
 have dQ:w2.heap[b]? = some (.cells #[.pointer (some ⟨b,0,none⟩),v] 135 (0,0)):=by
  rw [mf.block b au (fun e=>aT e.symm)];exact eN
 have d0:w2.cell? ⟨b,0,none⟩=some (.pointer (some ⟨b,0,none⟩)):=by rw [Lib.cell_of_heap dQ];all_goals rfl
 have d1:w2.cell? ⟨b,1,none⟩=some v:=by rw [Lib.cell_of_heap dQ];all_goals rfl
 have f1:w2.frozen? ⟨b,1,none⟩=false:=Lib.frozen_of_heap dQ 1
 go_wp2
 go_ret2
 refine ⟨rfl,g,cap,w2,Pm,by rw [<- HW.out];exact mf,by rw [<- HW.out];exact x8,?_⟩;rw [fc dQ];rfl
set_option maxHeartbeats 1000000 in
theorem WM (b g cap:Nat) (p:Value) (l:List UInt8) (cur:Array Value) (w:World) (h0:l ≠ []) (mT:w.heap[b]? = some (.cells #[p,.slice (some ⟨g,0,none⟩) l.length cap] 135 (0,0)))
  (hg:w.heap[g]? = some (.cells cur 5 (0,0))) (tV:l.length<=cap) (hcm:cap<=maxLen) (cG:cur.size=cap * 1) (htake:cur.toList.take (l.length * 1)=Lib.byteCells l) :
  Calls prog 60 #[.pointer (some ⟨b,0,none⟩)] w fun e w'=>e = .returned (.string ⟨l.toArray⟩)/\w'=w.drew.freeze ⟨g,0,none⟩ l.length:=by
 have FC:l.length≠0:=sU h0;have E9:w.ownsRow 0 5 1 (.slice (some ⟨g,0,none⟩) l.length cap) l.length (Lib.byteCells l):=⟨by rw [Lib.byteCells_length,Nat.mul_one],.inr ⟨g,cap,cur,rfl,Nat.zero_le _,hg,tV,hcm,cG,htake⟩⟩
 have c1:w.drew.cell? ⟨b,1,none⟩=some (.slice (some ⟨g,0,none⟩) l.length cap):=by
  have:w.drew.heap[b]? = some (.cells #[p,.slice (some ⟨g,0,none⟩) l.length cap] 135 (0,0)):=mT;rw [Lib.cell_of_heap this];all_goals rfl
 have hSD:(Builtin.unsafeSliceData_ #[133] 209 #[.slice (some ⟨g,0,none⟩) l.length cap]).run prog w.drew = .ok (.pointer (some ⟨g,0,none⟩)) w.drew:=
  Lib.run_unsafeSliceData_row _ _ _ _ _ _ (by omega)
 have hUS:(Builtin.unsafeString_ #[209,3] 9 #[.pointer (some ⟨g,0,none⟩),.int .i64 l.length]).run prog w.drew = .ok (.string ⟨l.toArray⟩) (w.drew.freeze ⟨g,0,none⟩ l.length):=by
  refine Lib.run_unsafeString_row w.drew 209 3 9 5 Tryz.underlying209 (by kernel_rfl) g cur.size (by have sG:w.drew.heap[g]? = some (.cells cur 5 (0,0)):=hg;simp [World.shape?,sG]) l h0 (by omega) (by unfold maxLen at hcm;omega) ?_;intro j x hx;have:=E9.cells (g:=g) rfl j (.int .u8 x.toNat) (by simp [Lib.byteCells,hx]);exact this
 clear E9 htake cG hg;have mixed:=mo
 go_enter func60,ntmps60
 go_wp2
 go_region_o
 all_goals (go_wp2;go_ret;exact ⟨rfl,rfl⟩)
end Go.Proofs.YtffhgcbfpidfiaaGreat
set_option maxRecDepth 100000
namespace Go.Proofs.YtffhgcbfpidfiaaGreat
open Go Go.RowKit Dv Go.Proofs.Tryz
def bD (l:List UInt8):List (List DV):=l.map fun c=>[DV.v (.int .u8 c.toNat)]
theorem sq (l:List UInt8):(bD l).length=l.length:=by simp [bD]
theorem Pn {E:En}:∀ l:List UInt8,RvC E (bD l).flatten (Lib.byteCells l)
 | []=>⟨cz _,by simp [Lib.byteCells]⟩
 | c :: r=>by
  obtain ⟨h1,h2⟩:=Pn (E:=E) r;refine ⟨?_,fun v hv=>?_⟩
  ·simp only [bD,List.map_cons,List.flatten_cons,List.cons_append,List.nil_append,Lib.byteCells];exact rvL_cons (by unfold Rv;exact ⟨rfl,rfl⟩) h1
  ·simp only [Lib.byteCells,List.map_cons,List.mem_cons] at hv;rcases hv with rfl | hv
   ·rfl
   ·exact h2 v hv
theorem Jf {E:En}:∀ {l:List UInt8} {arr:List Value},RvL E (bD l).flatten arr->arr=Lib.byteCells l
 | [],arr,h=>by simpa [bD,RvL,Lib.byteCells] using h
 | c :: r,arr,h=>by
  simp only [bD,List.map_cons,List.flatten_cons,List.cons_append,List.nil_append,RvL] at h;obtain ⟨v,s,rfl,h1,h2⟩:=h;unfold Rv at h1;rw [h1.1,Jf (l:=r) h2];rfl
theorem strCells_eq (s:ByteArray):Lib.strCells s=Lib.byteCells s.data.toList:=rfl
theorem GW {X:Ctx} {E:En} {st:St} {a:Act} {w:World} (h:Rel X E st a w) {kt:Nat} {l:List UInt8} {cv:Value} (hl:l ≠ []) (iZ:st.tk[kt]? = some ⟨l.length,5,1,none⟩) (hv:Rv E (.sl 1 (bD l) (some kt)) cv) :
  ∃ g cap cur,cv = .slice (some ⟨g,0,none⟩) l.length cap/\w.heap[g]? = some (.cells cur 5 (0,0))/\l.length<=cap/\cap<=maxLen/\cur.size=cap * 1/\cur.toList.take (l.length * 1)=Lib.byteCells l/\g ∉ E.β/\E.τ[kt]? = some cv:=by
 have aT:bD l ≠ []:=by
  intro hc;have:=sq l;rw [hc] at this;exact hl (List.eq_nil_of_length_eq_zero this.symm)
 have kx:0 < l.length:=List.length_pos_iff.2 hl;unfold Rv at hv;obtain ⟨bs,ns,ml,rfl,⟨rfl,H7⟩,Q2,Av⟩:=hv;rw [sq] at H7;obtain ⟨q,hq,_,hτ⟩:=Av kt rfl;rw [h.tk,iZ] at hq;simp only [oI] at hq;subst hq;have hy:=hτ (sq l);rcases h.env.ct kt _ _ (by rw [h.tk];exact iZ) hy with ⟨og,jt⟩ | ⟨g,cap,cur,og,hw0,uU,tV,hcm,gH,Ml⟩
 ·simp only at jt;omega
 ·injection og with i1 i2 i3
  subst i1 i3;refine ⟨g,ml,cur,by rw [sq],hw0,tV,hcm,uU.1,?_,gH,by rw [hy]⟩;obtain ⟨_,Q3⟩:=Q2 aT;obtain ⟨Fm,eN,dQ,H8⟩:=Q3.uM;have ha:=Jf eN.1;subst ha;apply List.ext_getElem?;intro j;rw [sq] at dQ;rcases Nat.lt_or_ge j (Lib.byteCells l).length with hj | hj
  ·have h5:=h.env.sub _ _ (H8 j _ (gE hj));simp only [ab,ao,Nat.zero_add] at h5;rw [cy hw0] at h5;rw [List.getElem?_take,if_pos (by omega),gE hj];simpa using h5
  ·rw [List.getElem?_eq_none (l:=Lib.byteCells l) hj,List.getElem?_take,if_neg (by omega)]
theorem Ss {X:Ctx} {E:En} {st:St} {a:Act} {w:World} (h:Rel X E st a w) {kt:Nat} {l:List UInt8} {cv:Value} (iZ:st.tk[kt]? = some ⟨l.length,5,1,none⟩) (hv:Rv E (.sl 1 (bD l) (some kt)) cv) :
  w.ownsRow 0 5 1 cv l.length (Lib.byteCells l)/\E.τ[kt]? = some cv/\∀ b∈E.β,cv.ownBlock≠some b:=by
 cases l with
 | cons c r=>
  obtain ⟨g,cap,cur,rfl,hg,tV,hcm,cG,htake,XA,hτ⟩:=GW h (List.cons_ne_nil c r) iZ hv;refine ⟨⟨by rw [Lib.byteCells_length,Nat.mul_one],.inr ⟨g,cap,cur,rfl,Nat.zero_le _,hg,tV,hcm,cG,htake⟩⟩,hτ,fun b hb he=>?_⟩;simp only [Value.ownBlock,oI] at he;exact XA (he ▸ hb)
 | nil=>
  unfold Rv at hv;obtain ⟨bs,ns,ml,rfl,⟨rfl,H7⟩,Q2,Av⟩:=hv;obtain ⟨q,hq,_,hτ⟩:=Av kt rfl;rw [h.tk,iZ] at hq;simp only [oI] at hq;subst hq;have hy:=hτ rfl;rcases h.env.ct kt _ _ (by rw [h.tk];exact iZ) hy with ⟨og,jt⟩ | ⟨g,cap,cur,og,hw0,uU,tV,hcm,gH,Ml⟩
  ·rw [og] at hy ⊢;exact ⟨⟨rfl,.inl ⟨rfl,rfl⟩⟩,hy,fun b _ he=>by simp [Value.ownBlock] at he⟩
  ·rw [og] at hy ⊢;refine ⟨⟨rfl,.inr ⟨g,cap,cur,rfl,Nat.zero_le _,hw0,tV,hcm,uU.1,by simp [Lib.byteCells]⟩⟩,hy,fun b hb he=>?_⟩;simp only [Value.ownBlock,oI] at he;exact gH (he ▸ hb)
theorem xg {f:FuncId} {xd rd:DV} {ret:Value} {X:Ctx} {st:St} {k:List It} (hP:X.P=prog) {i kt d:Nat} {p c:DV} {l:List UInt8} {s:ByteArray} {bU:List TkE} (hbt:(i,135)∈X.bt) (jL:st.bx[i]? = some [p,c])
  (hp:p = .v (.pointer none)∨p = .loc i 0)
  (hc:(c = .v (.slice none 0 0)/\l=[]/\kt=st.tk.length/\bU=st.tk ++ [⟨s.size,5,1,none⟩])∨(c = .sl 1 (bD l) (some kt)/\st.tk[kt]? = some ⟨l.length,5,1,none⟩/\bU=st.tk.set kt ⟨l.length + s.size,5,1,none⟩))
  (lx:Enters prog f) (K4:∀ E,Rv E rd ret)
  (mj:∀ (E:En) (b n:Nat) (p v x:Value) (xs:List Value) (w:World),Rv E xd x->p = .pointer none∨p = .pointer (some ⟨b,0,none⟩)->w.heap[b]? = some (.cells #[p,v] 135 (0,0))->w.ownsRow 0 5 1 v n xs->v.ownBlock≠some b->n + s.size<=140737488355328->Calls prog f #[.pointer (some ⟨b,0,none⟩),x] w (GV ret w b v n xs s))
  (hs:0 < s.size) (hlen:l.length + s.size<=140737488355328) (hd:eL X.nt st.sl (some d)=true)
  (hk:go X 4000 k ⟨(d,⟨[],rd⟩) :: st.sl,st.bx.set i [.loc i 0,.sl 1 (bD (l ++ s.data.toList)) (some kt)],bU⟩)
  (aU:X.still=false:=by exact rfl):dx X f [.loc i 0,xd] (some d) k st:=by
 refine ⟨?_,aU,fun E a w vs h hv=>?_⟩
 ·rw [hP];exact lx
 rw [hP];simp only [RvL] at hv;obtain ⟨v1,vr,rfl,h1,v2,vr2,rfl,h2,rfl⟩:=hv;unfold Rv at h1;obtain ⟨b,hb,rfl⟩:=h1;obtain ⟨b',ty,arr,dO,hw,q7⟩:=h.env.ek i _ jL;rw [hb] at dO;simp only [oI] at dO;subst dO;obtain ⟨Rh,po⟩:=h.bt _ hbt b hb;rw [hw] at po;simp only [oI,Obj.cells.injEq] at po;have QX:ty=135:=po.2.1;subst QX;obtain ⟨hr,ho⟩:=q7;simp only [RvL] at hr;obtain ⟨pv,r1,rfl,Su,cv,r2,rfl,Po,rfl⟩:=hr
 have WN:pv = .pointer none∨pv = .pointer (some ⟨b,0,none⟩):=by
  rcases hp with rfl | rfl
  ·exact .inl (bq Su)
  ·unfold Rv at Su;obtain ⟨b2,dQ,rfl⟩:=Su;rw [hb] at dQ;simp only [oI] at dQ;subst dQ;exact .inr rfl
 have yd:b∈E.β:=mG hb;have Jg:st.tk.length=E.tk.length:=by rw [h.tk]
 have key:∃ xs:List Value,xs=Lib.byteCells l/\w.ownsRow 0 5 1 cv l.length xs/\cv.ownBlock≠some b /\
   ((∃ q,E.tk[kt]? = some q/\E.τ[kt]? = some cv/\q.n=l.length/\q.ty=5/\q.e=1/\q.own=none)∨(E.tk[kt]? = none/\E.τ[kt]? = none/\cv = .slice none 0 0/\l.length=0)) /\
   bU[kt]? = some ⟨l.length + s.size,5,1,none⟩/\(∀ j,j≠kt->bU[j]? = E.tk[j]?)/\(∀ y:Value,∃ τ':List Value,τ'[kt]? = some y/\τ'.length=bU.length/\∀ j,j≠kt->τ'[j]? = E.τ[j]?):=by
  rcases hc with ⟨rfl,rfl,rfl,rfl⟩ | ⟨rfl,iZ,rfl⟩
  ·have:=bq Po;subst this;refine ⟨_,rfl,⟨rfl,.inl ⟨rfl,rfl⟩⟩,by simp [Value.ownBlock],.inr ⟨?_,?_,rfl,rfl⟩,?_,?_,?_⟩
   ·rw [Jg];simp
   ·rw [Jg,<- h.env.tl];simp
   ·simp
   ·intro j hj;rw [h.tk];rcases Nat.lt_or_ge j st.tk.length with h1 | h1
    ·rw [List.getElem?_append_left h1]
    ·rw [List.getElem?_eq_none (l:=st.tk) h1];exact List.getElem?_eq_none (by simp;omega)
   ·intro y;refine ⟨E.τ ++ [y],?_,by simp [h.env.tl,h.tk],fun j hj=>?_⟩
    ·rw [Jg,<- h.env.tl];simp
    ·rcases Nat.lt_or_ge j E.τ.length with h1 | h1
     ·rw [List.getElem?_append_left h1]
     ·rw [List.getElem?_eq_none (l:=E.τ) h1];have:=h.env.tl;exact List.getElem?_eq_none (by simp;omega)
  ·obtain ⟨E9,hτ,hob⟩:=Ss h iZ Po;have jm:=(gS iZ).1;refine ⟨_,rfl,E9,hob b yd,.inl ⟨_,by rw [h.tk];exact iZ,hτ,rfl,rfl,rfl,rfl⟩,?_,?_,?_⟩
   ·rw [List.getElem?_set_self jm]
   ·intro j hj;rw [List.getElem?_set_ne (Ne.symm hj),h.tk]
   ·intro y;refine ⟨E.τ.set kt y,?_,by simp [h.env.tl,h.tk],fun j hj=>List.getElem?_set_ne (Ne.symm hj)⟩;rw [List.getElem?_set_self];rw [h.env.tl,<- Jg];exact jm
 obtain ⟨xs,rfl,E9,aT,Ci,abw,rQ,hτ⟩:=key;refine (mj E b l.length pv cv v2 (Lib.byteCells l) w h2 WN hw E9 aT hlen).mono ?_;rintro e w' ⟨rfl,g,cap,w2,Uz,mf,x8,rfl⟩;obtain ⟨τ',Yt,Xz,LU⟩:=hτ (.slice (some ⟨g,0,none⟩) (l.length + s.size) cap);have vO:Rv E (.loc i 0) (.pointer (some ⟨b,0,none⟩)):=by unfold Rv;exact ⟨b,hb,rfl⟩
 have r1:Rel X E ⟨st.sl,st.bx.set i [.loc i 0,c],st.tk⟩ a (iF w b cv):=
  jv h aU hb (cs':=[.loc i 0,c]) (arr':=[.pointer (some ⟨b,0,none⟩),cv]) ⟨rvL_cons vO (rvL_one Po),by
   intro v hv;simp only [List.mem_cons,List.not_mem_nil,or_false] at hv;rcases hv with rfl | rfl
   ·rfl
   ·exact ho v (by simp)⟩ ⟨_,hw⟩
 obtain ⟨r2,hext,mH⟩:=Ck r1 aU Ci hs (by omega) abw Yt Xz rQ LU (Bv E9 aT) Uz mf x8;have dQ:(iF w b cv).heap[b]? = some (.cells #[.pointer (some ⟨b,0,none⟩),cv] 135 (0,0)):=dE hw
 have H8:w2.heap[b]? = some (.cells #[.pointer (some ⟨b,0,none⟩),cv] 135 (0,0)):=by
  rw [mf.block b (cp dQ) (fun e=>aT e.symm)];exact dQ
 have WO:Rv (⟨addC E.c w2 g ((l.length + s.size) * 1),E.β,bU,τ'⟩:En) (.sl 1 (bD (l ++ s.data.toList)) (some kt)) (.slice (some ⟨g,0,none⟩) (l.length + s.size) cap):=by
  have mF:s.data.toList.length=s.size:=by rw [Array.length_toList];all_goals rfl
  unfold Rv;refine ⟨_,_,_,rfl,⟨by rw [sq,List.length_append,mF],?_⟩,fun _=>⟨rfl,?_⟩,?_⟩
  ·rcases Uz.2 with ⟨hv,_⟩ | ⟨_,_,_,hv,_,_,tV,_⟩
   ·cases hv
   ·injection hv with _ _ i3
    omega
  ·refine rvEs_flat (arr:=Lib.byteCells (l ++ s.data.toList)) (Pn _) (fun cs hcm=>?_) fun j u hj=>?_
   ·simp only [bD,List.mem_map] at hcm;obtain ⟨x,_,rfl⟩:=hcm;rfl
   ·simp only [ab,ao,Nat.zero_add];refine mH j u ?_;rw [strCells_eq];simpa [Lib.byteCells] using hj
  ·intro k' fF;cases fF;exact ⟨_,abw,Nat.le_refl _,fun _=>Yt⟩
 have r3:=jv r2 aU (i:=i) (b:=b) hb (cs':=[.loc i 0,.sl 1 (bD (l ++ s.data.toList)) (some kt)]) (arr':=[.pointer (some ⟨b,0,none⟩),.slice (some ⟨g,0,none⟩) (l.length + s.size) cap])
  ⟨rvL_cons (by unfold Rv;exact ⟨b,hb,rfl⟩) (rvL_one WO),by
   intro v hv;simp only [List.mem_cons,List.not_mem_nil,or_false] at hv
   rcases hv with rfl | rfl<;>rfl⟩ ⟨_,H8⟩
 simp only [List.set_set] at r3;exact go_sound 4000 _ _ hk _ _ _ (aZ r3 hd rd _ (K4 _))
theorem Sv {X:Ctx} {st:St} {k:List It} (hP:X.P=prog) {i kt d:Nat} {p c:DV} {l:List UInt8} {s:ByteArray} {bU:List TkE} (hbt:(i,135)∈X.bt) (jL:st.bx[i]? = some [p,c])
  (hp:p = .v (.pointer none)∨p = .loc i 0)
  (hc:(c = .v (.slice none 0 0)/\l=[]/\kt=st.tk.length/\bU=st.tk ++ [⟨s.size,5,1,none⟩])∨(c = .sl 1 (bD l) (some kt)/\l ≠ []/\st.tk[kt]? = some ⟨l.length,5,1,none⟩/\bU=st.tk.set kt ⟨l.length + s.size,5,1,none⟩))
  (hs:0 < s.size) (hlen:l.length + s.size<=140737488355328) (hd:eL X.nt st.sl (some d)=true)
  (hk:go X 4000 k ⟨(d,⟨[],.tup [.v (.int .i64 s.size),.v .nilIface]⟩) :: st.sl,st.bx.set i [.loc i 0,.sl 1 (bD (l ++ s.data.toList)) (some kt)],bU⟩)
  (aU:X.still=false:=by exact rfl):dx X 58 [.loc i 0,.v (.string s)] (some d) k st:=
 xg hP hbt jL hp (hc.imp_right fun h=>⟨h.1,h.2.2⟩) Vz (fun E=>by unfold Rv;exact ⟨_,rfl,rvL_cons (by unfold Rv;exact ⟨rfl,rfl⟩) (rvL_one (by unfold Rv;exact ⟨rfl,rfl⟩))⟩)
  (fun E b n p v x xs w hx h1 h2 h3 h4 h5=>by
   have:=bq hx;subst this
   exact Pk b p v n xs s w h1 h2 h3 h4 hs h5) hs hlen hd hk aU
theorem D6 {X:Ctx} {st:St} {k:List It} (hP:X.P=prog) {i kt d:Nat} {p c:DV} {l:List UInt8} {s:ByteArray} {bU:List TkE} (l':List UInt8) (u2:l'=l ++ s.data.toList) (hbt:(i,135)∈X.bt) (jL:st.bx[i]? = some [p,c])
  (hp:p = .v (.pointer none)∨p = .loc i 0)
  (hc:(c = .v (.slice none 0 0)/\l=[]/\kt=st.tk.length/\bU=st.tk ++ [⟨l'.length,5,1,none⟩])∨(c = .sl 1 (bD l) (some kt)/\l ≠ []/\st.tk[kt]? = some ⟨l.length,5,1,none⟩/\bU=st.tk.set kt ⟨l'.length,5,1,none⟩))
  (hs:0 < s.size) (hlen:l'.length<=140737488355328) (hd:eL X.nt st.sl (some d)=true)
  (hk:go X 4000 k ⟨(d,⟨[],.tup [.v (.int .i64 s.size),.v .nilIface]⟩) :: st.sl,st.bx.set i [.loc i 0,.sl 1 (bD l') (some kt)],bU⟩)
  (aU:X.still=false:=by exact rfl):dx X 58 [.loc i 0,.v (.string s)] (some d) k st:=by
 have hn:l'.length=l.length + s.size:=by rw [u2,List.length_append,Array.length_toList];all_goals rfl
 subst u2;refine Sv hP hbt jL hp ?_ hs (by omega) hd hk aU;rcases hc with ⟨h1,h2,h3,h4⟩ | ⟨h1,h2,h3,h4⟩
 ·refine .inl ⟨h1,h2,h3,?_⟩;rw [h4,hn,h2];simp
 ·exact .inr ⟨h1,h2,h3,by rw [h4,hn]⟩
theorem D7 {w:World} {g n:Nat} (x:Addr):(w.freeze ⟨g,0,none⟩ n).cell? x=w.cell? x:=by
 unfold World.freeze;split
 ·rfl
 ·simp only [World.cell?,Array.getElem?_modify];by_cases hg:g=x.block
  ·subst hg;simp only [if_true]
   cases w.heap[x.block]? with
   | none=>rfl
   | some o=>
    cases o with
    | cells c e z=>simp only [Option.map_some]
    | _=>simp
  ·simp [hg]
theorem Bw {w:World} {g n k:Nat} (h:k≠g):(w.freeze ⟨g,0,none⟩ n).heap[k]? = w.heap[k]?:=by
 unfold World.freeze;split
 ·rfl
 ·simp only [Array.getElem?_modify];rw [if_neg (Ne.symm h)]
theorem Bz {w:World} {g n:Nat}:(w.freeze ⟨g,0,none⟩ n).os=w.os/\(w.freeze ⟨g,0,none⟩ n).tape=w.tape/\(w.freeze ⟨g,0,none⟩ n).output=w.output/\(w.freeze ⟨g,0,none⟩ n).heap.size=w.heap.size:=by
 unfold World.freeze;split
 ·exact ⟨rfl,rfl,rfl,rfl⟩
 ·exact ⟨rfl,rfl,rfl,by simp⟩
theorem uF {X:Ctx} {st:St} {k:List It} (hP:X.P=prog) {i kt d:Nat} {p:DV} {l:List UInt8} (hbt:(i,135)∈X.bt) (jL:st.bx[i]? = some [p,.sl 1 (bD l) (some kt)])
  (hl:l ≠ []) (iZ:st.tk[kt]? = some ⟨l.length,5,1,none⟩) (jt:X.n0=0) (jG:X.m0=0) (hd:eL X.nt st.sl (some d)=true)
  (hk:go X 4000 k ⟨[(d,⟨[],.v (.string ⟨l.toArray⟩)⟩)],[],[]⟩) (aU:X.still=false:=by exact rfl):dx X 60 [.loc i 0] (some d) k st:=by
 refine ⟨?_,aU,fun E a w vs h hv=>?_⟩
 ·rw [hP];exact Y0
 rw [hP];simp only [RvL] at hv;obtain ⟨v1,vr,rfl,h1,rfl⟩:=hv;unfold Rv at h1;obtain ⟨b,hb,rfl⟩:=h1;obtain ⟨b',ty,arr,dO,hw,q7⟩:=h.env.ek i _ jL;rw [hb] at dO;simp only [oI] at dO;subst dO;obtain ⟨Rh,po⟩:=h.bt _ hbt b hb;rw [hw] at po;simp only [oI,Obj.cells.injEq] at po;have QX:ty=135:=po.2.1;subst QX;obtain ⟨hr,ho⟩:=q7;simp only [RvL] at hr;obtain ⟨pv,r1,rfl,Su,cv,r2,rfl,Po,rfl⟩:=hr;obtain ⟨g,cap,cur,rfl,hg,tV,hcm,cG,htake,XA,hτ⟩:=GW h hl iZ Po;refine (WM b g cap pv l cur w hl hw hg tV hcm cG htake).mono ?_;rintro e w' ⟨rfl,rfl⟩;obtain ⟨k1,k2,k3,k4⟩:=Bz (w:=w.drew) (g:=g) (n:=l.length);have hE0:X.E0.β=[]:=List.eq_nil_of_length_eq_zero (by rw [X.jt,jt]);have WQ:X.E0.tk=[]:=List.eq_nil_of_length_eq_zero (by rw [X.jG,jG]);have uP:X.w0.heap.size<=g:=h.nw.tn kt _ g (by rw [WQ];exact Nat.zero_le _) hτ rfl
 let E':En:=⟨E.c,[],[],[]⟩
 have bY:Rel X E' ⟨[],[],[]⟩ a (w.drew.freeze ⟨g,0,none⟩ l.length):={
  env:={
   len:=rfl
   tl:=rfl
   ek:=by simp
   inj:=List.nodup_nil
   sub:=fun x v hx=>by rw [D7];exact h.env.sub x v hx
   pc:=by simp [E']
   ct:=by simp [E']
   iW:=by simp [E'] }
  tk:=rfl
  sz:=h.sz
  tm:=fun i x hx=>by cases hx
  df:=h.df
  nw:={
   c:=fun x v hx=>h.nw.c x v hx
   cn:=fun x v hx=>h.nw.cn x v hx
   β:=⟨[],by rw [hE0];rfl,by simp⟩
   tk:=fun k q y hq _=>by rw [WQ] at hq;simp at hq
   tn:=fun k y g' _ hy _=>by simp [E'] at hy
   l0:=h.nw.l0 }
  fr:=h.fr.cj k1 k2 k3 (by rw [k4];exact Nat.le_refl _) fun j hj=>by
   by_cases hjg:j=g
   ·left;exact .inr (hjg ▸ uP)
   ·right;exact Bw hjg
  sh:=mh aU
  bt:=fun p hp b hb=>by simp [E'] at hb }
 have ra:eL X.nt ([]:List (Nat × Sl)) (some d)=true:=by
  simp only [eL,Bool.and_eq_true] at hd ⊢;exact ⟨hd.1,rfl⟩
 exact go_sound 4000 _ _ hk _ _ _ (aZ (st:=⟨[],[],[]⟩) bY ra (.v (.string ⟨l.toArray⟩)) _ (by unfold Rv;exact ⟨rfl,rfl⟩))
end Go.Proofs.YtffhgcbfpidfiaaGreat
set_option maxRecDepth 100000
namespace Go.Proofs.YtffhgcbfpidfiaaGreat
open Go Go.RowKit Go.Lib Dv Go.Proofs.Tryz
theorem ss {P:Program} {w:World} {ops:Array Oper} {rest:List Oper} {o:Oper} {a:Act} {Q:Exit->Act->World->Prop} (JP:o.guard=none) (s x:Operand) (t:TypeId)
  (ho:o.op = .call { callee:=.builtin .append,args:=#[s,x],argTypes:=#[t,t] })
  (e:TypeId) (i:TypeInfo) (z:Value) (ht:P.underlying t=some (.slice e)) (hi:P.info? e=some i) (hz:i.zero=some z) (jE:i.size=1) (tA:i.bytes=1) (HO:z.cells.size=1)
  (v:Value) (n:Nat) (xs:List Value) (hs:a.eval s=v) (E9:w.ownsRow 0 e 1 v n xs)
  (ad:Addr) (m c:Nat) (news:List Value) (hx:a.eval x = .slice (some ad) m c) (hl:news.length=m * 1) (pH:∀ j u,news[j]? = some u->w.cell? (ad.add j)=some u) (h1:∀ u∈news,u.oneCell'=true)
  (hm:0 < m) (LO:n + m<=maxLen) (jF:(n + m) * 1<=140737488355328)
  (h:∀ g cap w',w'.ownsRow 0 e 1 (.slice (some ⟨g,0,none⟩) (n + m) cap) (n + m) (xs ++ news)->w.grownBy w' v.ownBlock->((v.ownBlock=some g)∨(w.heap.size<=g/\∀ k,k < w.heap.size->w'.heap[k]? = w.heap[k]?)) ->
   wpList P ops Q rest (a.put o.dst (.slice (some ⟨g,0,none⟩) (n + m) cap)) w'):wpList P ops Q (o :: rest) a w:=by
 refine wpList_plain JP fun K hK=>?_;obtain ⟨g,cap,w',hr,h2,h3,h4⟩:=fU (P:=P) (w:=w) t o.type e i z 1 1 ht hi hz jE tA HO (by omega) v n xs E9 ad m c news hl pH h1 hm LO jF;unfold Oper.wp execOp;simp only [ho,resolve,invoke,builtin,Sem.run_bind,Sem.run_pure,Result.andThen_ok,List.map_toArray,List.map_cons,List.map_nil,hs,hx,hr];exact hK _ _ (h g cap w' h2 h3 h4)
theorem UA (w:World) (o:Obj):(w.alloc o).heap.size=w.heap.size + 1:=World.size_alloc w o
set_option maxHeartbeats 2000000 in
theorem WR (b:Nat) (p v:Value) (n:Nat) (xs:List Value) (c:UInt8) (w:World) (hp:p = .pointer none∨p = .pointer (some ⟨b,0,none⟩)) (mT:w.heap[b]? = some (.cells #[p,v] 135 (0,0)))
  (E9:w.ownsRow 0 5 1 v n xs) (aT:v.ownBlock≠some b) (hlen:n + 1<=140737488355328) :
  Calls prog 263 #[.pointer (some ⟨b,0,none⟩),.int .u8 c.toNat] w (GV .nilIface w b v n xs (ba [c])):=by
 obtain ⟨i0,hi,Fa,hz1,XL⟩:=info_parts Tryz.laysBX.infoByte
 go_enter func263,ntmps263
 go_wp2_with (go_at_call 115;refine (xf b p v _ hp mT).mono ?_)
 rintro e w1 ⟨rfl,rfl⟩;have eN:(iF w b v).heap[b]? = some (.cells #[.pointer (some ⟨b,0,none⟩),v] 135 (0,0)):=dE mT;have D5:(iF w b v).ownsRow 0 5 1 v n xs:=Bv E9 aT;have c0:(iF w b v).cell? ⟨b,0,none⟩=some (.pointer (some ⟨b,0,none⟩)):=by rw [Lib.cell_of_heap eN];all_goals rfl
 have c1:(iF w b v).cell? ⟨b,1,none⟩=some v:=by rw [Lib.cell_of_heap eN];all_goals rfl
 have au:b < (iF w b v).heap.size:=cp eN;obtain ⟨W1,Pl⟩:∃ W1,W1=iF w b v:=⟨_,rfl⟩;rw [<- Pl] at eN D5 c0 c1 au ⊢;have HW:=Lib.hid Pl;clear Pl
 go_wp2_with (at_builtin;refine ss rfl _ _ 133 rfl 5 i0 (.int .u8 0) Tryz.underlying133 hi Fa hz1 XL rfl _ _ _ rfl (D5.alloc _) ⟨W1.heap.size,0,none⟩ 1 1 [.int .u8 c.toNat] rfl rfl ?c1 ?c2 (by omega) ?c3 ?c4 ?_)
 case c1=>
  intro j u hj
  match j,hj with
  | 0,hj=>simp at hj;subst hj;simp [Addr.add]
 case c2=>intro u hu;simp at hu;subst hu;rfl
 case c3=>unfold maxLen;omega
 case c4=>omega
 intro g cap w2 Pm mf x8;have Pp:W1.grownBy w2 v.ownBlock:=⟨mf.os,mf.tape,mf.output,by have:=mf.size;rw [UA] at this;omega,fun k hk aT=>(mf.block k (by rw [UA];omega) aT).trans (Lib.alloc_old W1 _ k hk)⟩;have hdi2:(v.ownBlock=some g)∨(W1.heap.size<=g/\∀ k,k < W1.heap.size->w2.heap[k]? = W1.heap[k]?):=x8.imp_right fun ⟨h1,h2⟩=>⟨by omega,fun k hk=>(h2 k (by omega)).trans (Lib.alloc_old W1 _ k hk)⟩
 have dQ:w2.heap[b]? = some (.cells #[.pointer (some ⟨b,0,none⟩),v] 135 (0,0)):=by
  rw [Pp.block b au (fun e=>aT e.symm)];exact eN
 have d0:w2.cell? ⟨b,0,none⟩=some (.pointer (some ⟨b,0,none⟩)):=by rw [Lib.cell_of_heap dQ];all_goals rfl
 have d1:w2.cell? ⟨b,1,none⟩=some v:=by rw [Lib.cell_of_heap dQ];all_goals rfl
 have f1:w2.frozen? ⟨b,1,none⟩=false:=Lib.frozen_of_heap dQ 1;clear mf x8
 go_wp2
 go_ret
 refine ⟨rfl,g,cap,w2,Pm,by rw [<- HW.out];exact Pp,by rw [<- HW.out];exact hdi2,?_⟩;rw [fc dQ];rfl
set_option maxHeartbeats 2000000 in
theorem Sw (b g n cap:Nat) (p:Value) (cur:Array Value) (w:World) (hp:p = .pointer none∨p = .pointer (some ⟨b,0,none⟩)) (mT:w.heap[b]? = some (.cells #[p,.slice (some ⟨g,0,none⟩) n cap] 135 (0,0)))
  (hg:w.heap[g]? = some (.cells cur 5 (0,0))) (tV:n<=cap) (cG:cur.size=cap) (aT:g≠b) :
  Calls prog 58 #[.pointer (some ⟨b,0,none⟩),.string ⟨#[]⟩] w fun e w'=>e = .returned (.tuple #[.int .i64 0,.nilIface])/\w'=iF w b (.slice (some ⟨g,0,none⟩) n cap):=by
 obtain ⟨i0,hi,Fa,hz1,XL⟩:=info_parts Tryz.laysBX.infoByte
 go_enter func58,ntmps58
 go_wp2_with (go_at_call 115;refine (xf b p _ _ hp mT).mono ?_)
 rintro e w1 ⟨rfl,rfl⟩;obtain ⟨v,hv⟩:∃ v,v=Value.slice (some ⟨g,0,none⟩) n cap:=⟨_,rfl⟩;rw [<- hv] at mT ⊢;have eN:(iF w b v).heap[b]? = some (.cells #[.pointer (some ⟨b,0,none⟩),v] 135 (0,0)):=dE mT;have mD:(iF w b v).heap[g]? = some (.cells cur 5 (0,0)):=by rw [cx aT];exact hg
 have c0:(iF w b v).cell? ⟨b,0,none⟩=some (.pointer (some ⟨b,0,none⟩)):=by rw [Lib.cell_of_heap eN];all_goals rfl
 have c1:(iF w b v).cell? ⟨b,1,none⟩=some v:=by rw [Lib.cell_of_heap eN];all_goals rfl
 have f1:(iF w b v).frozen? ⟨b,1,none⟩=false:=Lib.frozen_of_heap eN 1;obtain ⟨W1,Pl⟩:∃ W1,W1=iF w b v:=⟨_,rfl⟩;rw [<- Pl] at eN mD c0 c1 f1 ⊢;have HW:=Lib.hid Pl;clear Pl
 go_wp2_with (at_builtin;refine GX rfl _ _ 133 9 rfl 5 i0 Tryz.underlying133 Tryz.underlying9 hi hz1 g n cap cur hv mD tV cG rfl ?_)
 rw [<- hv]
 go_wp2
 go_ret2
 refine ⟨rfl,?_⟩;rw [fc eN];exact (s8 eN).trans HW.out
theorem Pq {X:Ctx} {st:St} {k:List It} (hP:X.P=prog) {i kt d:Nat} {p:DV} {l:List UInt8} (hbt:(i,135)∈X.bt) (jL:st.bx[i]? = some [p,.sl 1 (bD l) (some kt)])
  (hp:p = .v (.pointer none)∨p = .loc i 0) (hl:l ≠ []) (iZ:st.tk[kt]? = some ⟨l.length,5,1,none⟩) (hd:eL X.nt st.sl (some d)=true)
  (hk:go X 4000 k ⟨(d,⟨[],.tup [.v (.int .i64 0),.v .nilIface]⟩) :: st.sl,st.bx.set i [.loc i 0,.sl 1 (bD l) (some kt)],st.tk⟩)
  (aU:X.still=false:=by exact rfl):dx X 58 [.loc i 0,.v (.string ⟨#[]⟩)] (some d) k st:=by
 refine ⟨by rw [hP];exact Vz,aU,fun E a w vs h hv=>?_⟩;rw [hP];simp only [RvL] at hv;obtain ⟨v1,vr,rfl,h1,v2,vr2,rfl,h2,rfl⟩:=hv;have h2:=bq h2;subst h2;unfold Rv at h1;obtain ⟨b,hb,rfl⟩:=h1;obtain ⟨b',ty,arr,dO,hw,q7⟩:=h.env.ek i _ jL;rw [hb] at dO;simp only [oI] at dO;subst dO;obtain ⟨Rh,po⟩:=h.bt _ hbt b hb;rw [hw] at po;simp only [oI,Obj.cells.injEq] at po;have QX:ty=135:=po.2.1;subst QX;obtain ⟨hr,ho⟩:=q7;simp only [RvL] at hr;obtain ⟨pv,r1,rfl,Su,cv,r2,rfl,Po,rfl⟩:=hr;have vO:Rv E (.loc i 0) (.pointer (some ⟨b,0,none⟩)):=by unfold Rv;exact ⟨b,hb,rfl⟩
 have WN:pv = .pointer none∨pv = .pointer (some ⟨b,0,none⟩):=by
  rcases hp with rfl | rfl
  ·exact .inl (bq Su)
  ·unfold Rv at Su;obtain ⟨b2,dQ,rfl⟩:=Su;rw [hb] at dQ;simp only [oI] at dQ;subst dQ;exact .inr rfl
 obtain ⟨g,cap,cur,rfl,hg,tV,hcm,cG,htake,XA,hτ⟩:=GW h hl iZ Po;refine (Sw b g l.length cap pv cur w WN hw hg tV (by omega) (fun e=>XA (e ▸ mG hb))).mono ?_;rintro e w' ⟨rfl,rfl⟩
 have r1:Rel X E ⟨st.sl,st.bx.set i [.loc i 0,.sl 1 (bD l) (some kt)],st.tk⟩ a (iF w b (.slice (some ⟨g,0,none⟩) l.length cap)):=
  jv h aU hb (cs':=[.loc i 0,.sl 1 (bD l) (some kt)]) (arr':=[.pointer (some ⟨b,0,none⟩),.slice (some ⟨g,0,none⟩) l.length cap]) ⟨rvL_cons vO (rvL_one Po),by
   intro v hv;simp only [List.mem_cons,List.not_mem_nil,or_false] at hv
   rcases hv with rfl | rfl<;>rfl⟩ ⟨_,hw⟩
 exact go_sound 4000 _ _ hk _ _ _ (aZ r1 hd (.tup [.v (.int .i64 0),.v .nilIface]) _ (by unfold Rv;exact ⟨_,rfl,rvL_cons (by unfold Rv;exact ⟨rfl,rfl⟩) (rvL_one (by unfold Rv;exact ⟨rfl,rfl⟩))⟩))
theorem gW {X:Ctx} {st:St} {k:List It} (hP:X.P=prog) {i kt d:Nat} {p:DV} {l:List UInt8} {s:ByteArray} (l':List UInt8) (u2:l'=l ++ s.data.toList) (hbt:(i,135)∈X.bt) (jL:st.bx[i]? = some [p,.sl 1 (bD l) (some kt)])
  (hp:p = .v (.pointer none)∨p = .loc i 0) (iZ:st.tk[kt]? = some ⟨l.length,5,1,none⟩) (hs:l' ≠ []) (hlen:l'.length<=140737488355328) (hd:eL X.nt st.sl (some d)=true)
  (hk:∀ n:Int,go X 4000 k ⟨(d,⟨[],.tup [.v (.int .i64 n),.v .nilIface]⟩) :: st.sl,st.bx.set i [.loc i 0,.sl 1 (bD l') (some kt)],st.tk.set kt ⟨l'.length,5,1,none⟩⟩)
  (aU:X.still=false:=by exact rfl):dx X 58 [.loc i 0,.v (.string s)] (some d) k st:=by
 subst u2;have mF:s.data.toList.length=s.size:=by rw [Array.length_toList];all_goals rfl
 have jm:=(gS iZ);rcases Nat.eq_zero_or_pos s.size with h0 | h0
 ·have uU:s=⟨#[]⟩:=by
   apply ByteArray.ext;apply Array.eq_empty_of_size_eq_zero;exact h0
  subst uU;have hr:=hk 0;simp only [List.append_nil] at hr hs;rw [show st.tk.set kt ⟨l.length,5,1,none⟩=st.tk by rw [<- jm.2];exact List.set_getElem_self jm.1] at hr;exact Pq hP hbt jL hp hs iZ hd hr aU
 ·refine xg (s:=s) hP hbt jL hp (.inr ⟨rfl,iZ,rfl⟩) Vz (rd:=.tup [.v (.int .i64 s.size),.v .nilIface]) (ret:=.tuple #[.int .i64 s.size,.nilIface]) (fun E=>by unfold Rv;exact ⟨_,rfl,rvL_cons (by unfold Rv;exact ⟨rfl,rfl⟩) (rvL_one (by unfold Rv;exact ⟨rfl,rfl⟩))⟩)
   (fun E b n p v x xs w hx h1 h2 h3 h4 h5=>by
    have:=bq hx;subst this
    exact Pk b p v n xs s w h1 h2 h3 h4 h0 h5) h0 (by rw [List.length_append,mF] at hlen;exact hlen) hd ?_ aU
  have hr:=hk s.size;rw [List.length_append,mF] at hr;exact hr
theorem Jh {X:Ctx} {st:St} {k:List It} (hP:X.P=prog) {i kt d:Nat} {p:DV} {l:List UInt8} {c:UInt8} {z:Int} (hz:z=c.toNat) (hbt:(i,135)∈X.bt) (jL:st.bx[i]? = some [p,.sl 1 (bD l) (some kt)])
  (hp:p = .v (.pointer none)∨p = .loc i 0) (iZ:st.tk[kt]? = some ⟨l.length,5,1,none⟩) (hlen:l.length + 1<=140737488355328) (hd:eL X.nt st.sl (some d)=true)
  (hk:go X 4000 k ⟨(d,⟨[],.v .nilIface⟩) :: st.sl,st.bx.set i [.loc i 0,.sl 1 (bD (l ++ [c])) (some kt)],st.tk.set kt ⟨l.length + 1,5,1,none⟩⟩)
  (aU:X.still=false:=by exact rfl):dx X 263 [.loc i 0,.v (.int .u8 z)] (some d) k st:=by
 subst hz
 refine xg (s:=ba [c]) hP hbt jL hp (.inr ⟨rfl,iZ,rfl⟩) Z6 (rd:=.v .nilIface) (ret:=.nilIface) (fun E=>by unfold Rv;exact ⟨rfl,rfl⟩)
  (fun E b n p v x xs w hx h1 h2 h3 h4 h5=>by
   have:=bq hx;subst this
   exact WR b p v n xs c w h1 h2 h3 h4 h5) Nat.one_pos hlen hd hk aU
theorem D8 {X:Ctx} {f:FuncId} {args:List DV} {dst:Option Nat} {k:List It} {st:St} (q:TkE) (st':St) (hq:q.new=true) (ha:WeL st.bx.length st.tk.length (st.tk ++ [q]) args args) (h3:st'.tk=st.tk ++ [q]) (h2:WeLL st.bx.length st.tk.length (st.tk ++ [q]) st.bx st'.bx)
  (h:pY st.bx.length st.tk.length (st.tk ++ [q]) st.sl st'.sl) (hn:Nat.ble X.n0 st.bx.length=true) (hm:Nat.ble X.m0 st.tk.length=true) (hk:dx X f args dst k st'):dx X f args dst k st:=by
 obtain ⟨k1,k2,k3⟩:=hk;refine ⟨k1,k2,fun E a w vs hR hv=>?_⟩;have hr:=yI (st':=st') hR (kept:=st.tk) (dropped:=[]) (new:=[q]) (b0:=st.bx) (r:=[]) ⟨nL hm,nL hn,by simp,h3,by simpa using hq,by simp,by rw [h3];exact h2,by rw [h3];exact h⟩;exact k3 _ a w vs hr (rA (dropped:=[]) (by rw [hR.tk];simp) hR.env.tl (sU hq) ha hv)
end Go.Proofs.YtffhgcbfpidfiaaGreat
set_option maxRecDepth 100000
namespace Go.Proofs.YtffhgcbfpidfiaaGreat
open Go Go.RowKit Dv Go.Proofs.Tryz
def tQ (n:Nat):UInt8:=if n < 10 then UInt8.ofNat (48 + n) else UInt8.ofNat (87 + n)
def yp (n:Nat):List UInt8:=if n=0 then [] else yp (n / 16) ++ [tQ (n % 16)]
termination_by n
decreasing_by omega
def yq (n:Nat):List UInt8:=yp (n / 16) ++ [tQ (n % 16)]
theorem hexP_0:yp 0=[]:=by rw [yp,if_pos rfl]
theorem WS {n:Nat} (h:n≠0):yp n=yq n:=by rw [yp,if_neg h];all_goals rfl
theorem D9:∀ (k n:Nat),n < 16 ^ k->(yp n).length<=k
 | 0,n,h=>by
  have:n=0:=sU h;rw [this,hexP_0];exact Nat.le_refl _
 | k + 1,n,h=>by
  by_cases hn:n=0
  ·rw [hn,hexP_0];simp
  ·rw [yp,if_neg hn,List.length_append];have:=D9 k (n / 16) (by rw [Nat.div_lt_iff_lt_mul (by decide)];rw [Nat.pow_succ] at h;exact h);simp only [List.length_cons,List.length_nil];omega
theorem xi {n:Nat} (h:n<=4294967295):(yq n).length<=8:=by
 have:=D9 7 (n / 16) (by omega);simp only [yq,List.length_append,List.length_cons,List.length_nil];omega
def K5:List (List DV):=[[.v (.int .i32 0),.v (.int .i32 31)],[.v (.int .i32 127),.v (.int .i32 159)]]
def K6:List (List DV):=[[.v (.int .i32 8232),.v (.int .i32 8233)]]
def zP:List (List DV):=[(1564,1564),(8206,8207),(8234,8238),(8294,8297)].map fun p:Int × Int=>[DV.v (.int .i32 p.1),DV.v (.int .i32 p.2)]
def K7:List (List DV):=[(173,173),(1536,1541),(1757,1757),(1807,1807),(2274,2274),(6158,6158),(8203,8205),(8288,8292),(8298,8303),(65279,65279),(65529,65531),(69821,69821),(69837,69837),(113824,113827),(119155,119162),(917505,917505),(917536,917631)].map fun p:Int × Int=>[DV.v (.int .i32 p.1),DV.v (.int .i32 p.2)]
def K8 (z:Int):Bool:=((K5.any (oG z) || zP.any (oG z)) || K7.any (oG z)) || K6.any (oG z)
def Ea (z:Int) (u:List UInt8):List UInt8:=
 if z=34 then [92,34] else if z=92 then [92,92] else if z=9 then [92,116] else if z=10 then [92,110] else if z=13 then [92,114]
 else if K8 z=true then [92,117,123] ++ yq z.toNat ++ [125] else u
def Pr:List UInt8->List UInt8
 | []=>[]
 | c :: r=>if nu (c :: r)=true then Ea (recV ((c :: r).take (kk (c :: r)))) ((c :: r).take (kk (c :: r))) else [92,120,tQ (c.toNat / 16),tQ (c.toNat % 16)]
def oo:Nat->List UInt8->List UInt8
 | 0,_=>[]
 | k + 1,l=>Pr l ++ oo k (l.drop (kk l))
def xj (l:List UInt8):List UInt8:=34 :: (oo l.length l ++ [34])
theorem Eb (k:Nat):oo k []=[]:=by
 induction k with
 | zero=>rfl
 | succ k ih=>show [] ++ oo k ([].drop _)=[];rw [List.drop_nil,ih];all_goals rfl
theorem su:∀ (n:Nat) (l:List UInt8),l.length<=n->oo n l=oo l.length l
 | 0,l,h=>by
  have:l=[]:=List.eq_nil_of_length_eq_zero (by omega);rw [this];all_goals rfl
 | n + 1,l,h=>by
  cases l with
  | nil=>rw [Eb,Eb]
  | cons c r=>
   obtain ⟨h1,h2⟩:=qN (l:=c :: r) (by simp);have hl:((c :: r).drop (kk (c :: r))).length=r.length + 1 - kk (c :: r):=by rw [List.length_drop,List.length_cons]
   rw [List.length_cons] at h h2;show Pr _ ++ oo n _=Pr _ ++ oo r.length _;rw [su n _ (by omega),su r.length _ (by omega)]
theorem K9 {l:List UInt8} (h:l ≠ []):oo l.length l=Pr l ++ oo (l.drop (kk l)).length (l.drop (kk l)):=by
 cases l with
 | nil=>exact absurd rfl h
 | cons c r=>
  obtain ⟨h1,h2⟩:=qN (l:=c :: r) (by simp);show Pr _ ++ oo r.length _=_;rw [su r.length _ (by rw [List.length_drop,List.length_cons];omega)]
theorem Ji {l:List UInt8} (h:O4 l=true):0<=recV l/\recV l<=2097151:=by
 unfold O4 at h;split at h<;>(first | (rw [decide_eq_true_iff] at h;simp only [recV];omega) | cases h)
theorem Sx (l:List UInt8):(Pr l).length<=12:=by
 cases l with
 | nil=>exact Nat.zero_le _
 | cons c r=>
  show (if nu (c :: r)=true then Ea (recV ((c :: r).take (kk (c :: r)))) ((c :: r).take (kk (c :: r))) else [92,120,tQ (c.toNat / 16),tQ (c.toNat % 16)]:List UInt8).length<=12;split
  ·rename_i h;have hi:=GQ h;obtain ⟨_,_,hcr,h1,h2,h3⟩:=uC h;injection hcr with Ig nK
   subst Ig nK;rw [h3];have h4:=Jd c.toNat;have:=Ji hi;have:=xi (n:=(recV ((c :: r).take (aR c.toNat))).toNat) (by omega);unfold Ea
   repeat' split
   all_goals simp only [List.length_append,List.length_cons,List.length_nil,List.length_take]
   all_goals omega
  ·simp
theorem Ec:∀ (n:Nat) (l:List UInt8),(oo n l).length<=12 * n
 | 0,l=>Nat.zero_le _
 | n + 1,l=>by
  have h1:=Sx l;have h2:=Ec n (l.drop (kk l));show (Pr l ++ oo n (l.drop (kk l))).length<=_;rw [List.length_append];omega
theorem xm (l:List UInt8):(xj l).length<=12 * l.length + 2:=by
 have:=Ec l.length l;simp only [xj,List.length_append,List.length_cons,List.length_nil];omega
theorem BA {s:ByteArray} (hs:s=ba [48,49,50,51,52,53,54,55,56,57,97,98,99,100,101,102]) {k:Nat} (hk:k < 16) {a b:Int} (ha:a=k) (hb:b=k + 1):s.extract a.toNat b.toNat=ba [tQ k]:=by
 subst hs ha hb;refine lR ?_;have:∀ k:Fin 16,tx ((ba [48,49,50,51,52,53,54,55,56,57,97,98,99,100,101,102]).extract k.val (k.val + 1))=[tQ k.val]:=by decide +kernel
 exact this ⟨k,hk⟩
theorem BB {n:Int} (h1:0<=n) (h2:n<=4294967295):IntKind.u32.wrap n=n:=by
 simp [IntKind.wrap,IntKind.min,IntKind.max,IntKind.signed,IntKind.bits];omega
theorem mg (n:Nat):(n:Int).tmod 16=((n % 16:Nat):Int):=by
 rw [Int.tmod_eq_emod_of_nonneg (by omega)];omega
theorem UB (n:Nat):(n:Int).tdiv 16=((n / 16:Nat):Int):=by
 rw [Int.tdiv_eq_ediv_of_nonneg (by omega)];omega
theorem Ps {x:ByteArray} {c:UInt8} {l:List UInt8} (h:x=ba [c]):x ++ ba l=ba (c :: l):=by
 rw [h];exact lQ [c] l
abbrev WT (m:Nat) (l:List UInt8):St:=⟨[(0,⟨[],.v (.int .u32 m)⟩),(3,⟨[],.v (.string (ba l))⟩)],[],[]⟩
theorem Pt (n:Nat) (hn:n<=4294967295):EvP prog 278 [.v (.int .u32 n)] (.v (.string (ba (yq n)))):=by
 have hu:∀ m:Nat,m<=4294967295->IntKind.u32.wrap ((m:Int).tdiv 16)=((m / 16:Nat):Int):=fun m h=>by rw [UB,BB (by omega) (by omega)]
 have hr:∀ m:Nat,IntKind.u32.wrap ((m:Int).tmod 16 + 1)=((m % 16:Nat):Int) + 1:=fun m=>by rw [mg,BB (by omega) (by omega)]
 have hlen:=xi hn;refine eG 25 [.tmp 2] func278 rfl ntmps278 rfl fun _ _ _ _=>?_;refine ⟨⟨rfl,by decide⟩,?_⟩;refine ⟨⟨rfl,by decide⟩,?_⟩;refine ⟨⟨by rw [mg];omega,by rw [hr,mg];omega,by rw [hr];show _<=((16:Nat):Int);omega⟩,?_⟩;refine ⟨⟨rfl,by decide⟩,?_⟩;refine av (fun j st=>∃ (m:Nat) (l:List UInt8),st=WT m l/\yp m ++ l=yq n/\m<=n/\j=m) (n / 16) (WT (n / 16) [tQ (n % 16)]) (weak_mk ⟨_,rfl⟩ wA rfl rfl rfl (by repeat' (first | exact trivial | exact ah rfl | exact ai (hu n hn) | exact Nq (BA rfl (by omega) (mg n) (hr n)) | refine ⟨⟨_,rfl,?_⟩,?_⟩))) ⟨n / 16,_,rfl,rfl,by omega,rfl⟩ ?_;rintro m st ⟨_,l,rfl,ht,hm,rfl⟩;refine br ?_ ?_<;>intro hL
 ·have kx:m≠0:=by simp at hL;omega
  have Ue:l.length + (yp m).length<=8:=by
   rw [<- ht,List.length_append] at hlen;omega
  rw [WS kx] at ht;refine ⟨⟨rfl,by decide⟩,?_⟩;refine ⟨⟨rfl,by decide⟩,?_⟩;refine ⟨⟨by rw [mg];omega,by rw [hr,mg];omega,by rw [hr];show _<=((16:Nat):Int);omega⟩,?_⟩;have hx:=BA (s:=ba [48,49,50,51,52,53,54,55,56,57,97,98,99,100,101,102]) rfl (k:=m % 16) (by omega) (mg m) (hr m)
  refine ⟨by
   have h1:(ByteArray.extract (ba [48,49,50,51,52,53,54,55,56,57,97,98,99,100,101,102]) ((m:Int).tmod 16).toNat (IntKind.u32.wrap ((m:Int).tmod 16 + 1)).toNat).size=1:=by rw [hx];all_goals rfl
   have h2:(ba l).size=l.length:=sS l;have h3:∀ a b:Nat,a=1->b<=8->a + b<=9223372036854775807:=by omega
   exact h3 _ _ h1 (by rw [h2];omega),?_⟩
  refine ⟨⟨rfl,by decide⟩,?_⟩;exact ⟨WT (m / 16) (tQ (m % 16) :: l),(weak_mk ⟨_,rfl⟩ wA rfl rfl rfl (by repeat' (first | exact trivial | exact ah rfl | exact ai (hu m (by omega)) | exact Nq (Ps hx) | refine ⟨⟨_,rfl,?_⟩,?_⟩))),m / 16,by omega,m / 16,_,rfl,by rw [<- ht];simp [yq],by omega,rfl⟩
 ·have h0:m=0:=by simp at hL;omega
  subst h0;rw [hexP_0,List.nil_append] at ht;rw [<- ht];exact (rfl:_=_)
def kH (z:Int):List UInt8:=if z=34 then [92,34] else if z=92 then [92,92] else if z=9 then [92,116] else if z=10 then [92,110] else if z=13 then [92,114] else []
theorem GY (z:Int):EvP prog 276 [.v (.int .i32 z)] (.v (.string (ba (kH z)))):=by
 unfold kH;refine eG 14 [.tmp 2] func276 rfl ntmps276 rfl fun _ _ _ _=>?_;refine br ?_ ?_<;>intro c
 ·rw [if_pos (sU c)];exact (rfl:_=_)
 rw [if_neg (sU c)];refine br ?_ ?_<;>intro c
 ·rw [if_pos (sU c)];exact (rfl:_=_)
 rw [if_neg (sU c)];refine br ?_ ?_<;>intro c
 ·rw [if_pos (sU c)];exact (rfl:_=_)
 rw [if_neg (sU c)];refine br ?_ ?_<;>intro c
 ·rw [if_pos (sU c)];exact (rfl:_=_)
 rw [if_neg (sU c)];refine br ?_ ?_<;>intro c
 ·rw [if_pos (sU c)];exact (rfl:_=_)
 rw [if_neg (sU c)];exact (rfl:_=_)
theorem GZ {z:Int} {u:List UInt8} (h:kH z ≠ []):Ea z u=kH z:=by
 unfold Ea kH at *
 repeat' split at h
 all_goals simp_all
theorem La {z:Int} {u:List UInt8} (h:kH z=[]):Ea z u=if K8 z=true then [92,117,123] ++ yq z.toNat ++ [125] else u:=by
 unfold Ea kH at *
 repeat' split at h
 all_goals simp_all
theorem BC:EvP prog 288 [] (.sl 2 K5 none):=by
 refine eG 4 [.tmp 0] func288 rfl ntmps288 rfl fun _ _ _ _=>?_;exact ⟨_,ax,rfl⟩
theorem Lb:EvP prog 289 [] (.sl 2 zP none):=by
 refine eG 6 [.tmp 0] func289 rfl ntmps289 rfl fun _ _ _ _=>?_;exact ⟨_,ax,rfl⟩
theorem Ee:EvP prog 290 [] (.sl 2 K7 none):=by
 refine eG 19 [.tmp 0] func290 rfl ntmps290 rfl fun _ _ _ _=>?_;exact ⟨_,ax,rfl⟩
theorem xq:EvP prog 291 [] (.sl 2 K6 none):=by
 refine eG 3 [.tmp 0] func291 rfl ntmps291 rfl fun _ _ _ _=>?_;exact ⟨_,ax,rfl⟩
theorem qP (es:List (List DV)) (z:Int) (hl:es.length<=1000) (hs:es.all spB=true) (m:Int) (ho:srtB m es=true):EvP prog 273 [.sl 2 es none,.v (.int .i32 z)] (.v (.bool (es.any (oG z)))):=
 (Bu es z hl hs).mono fun d _ _ ⟨b,h1,h2⟩=>by rw [h1,h2 m ho]
theorem Ef (z:Int):EvP prog 277 [.v (.int .i32 z)] (.v (.bool (K8 z))):=by
 have hk:Ev prog 286 [.v (.int .i32 z)] [] [] (fun d _ _=>∃ k:Int,d = .v (.int .i64 k)/\(!decide (k=0))=K8 z):=by
  have h1:=qP K5 z (by decide) (by decide) (-1) (by decide);have h2:=qP zP z (by decide) (by decide) (-1) (by decide);have h3:=qP K7 z (by decide) (by decide) (-1) (by decide);have h4:=qP K6 z (by decide) (by decide) (-1) (by decide);have hB:K8 z=(((K5.any (oG z) || zP.any (oG z)) || K7.any (oG z)) || K6.any (oG z)):=rfl;rw [hB];generalize K5.any (oG z)=b1 at h1;generalize zP.any (oG z)=b2 at h2;generalize K7.any (oG z)=b3 at h3;generalize K6.any (oG z)=b4 at h4;generalize hT1:K5=T1 at h1;generalize hT2:zP=T2 at h2;generalize hT3:K7=T3 at h3;generalize hT4:K6=T4 at h4;have c1:=BC;have c2:=Lb;have c3:=Ee;have c4:=xq;rw [hT1] at c1;rw [hT2] at c2;rw [hT3] at c3;rw [hT4] at c4;refine eG 19 [.tmp 2] func286 rfl ntmps286 rfl fun _ _ _ _=>?_;refine cP aah c1 ?_;refine cP yT h1 ?_
  cases b1 with
  | true=>exact ⟨_,rfl,rfl⟩
  | false=>
  refine cP aai c2 ?_;refine cP yT h2 ?_
  cases b2 with
  | true=>exact ⟨_,rfl,rfl⟩
  | false=>
  refine cP aaj c3 ?_;refine cP yT h3 ?_
  cases b3 with
  | true=>exact ⟨_,rfl,rfl⟩
  | false=>
  refine cP aak c4 ?_;refine cP yT h4 ?_
  cases b4 with
  | true=>exact ⟨_,rfl,rfl⟩
  | false=>exact ⟨_,rfl,rfl⟩
 refine eG 6 [.tmp 2] func277 rfl ntmps277 rfl fun _ _ _ _=>?_;refine bL aag rfl hk ax (fun q hq=>?_);obtain ⟨k,rfl,hk⟩:=hq;refine (congrArg (fun b=>DV.v (.bool b)) ?_:_=_);exact hk
theorem G0 {n:Int} (h1:0<=n) (h2:n<=255):IntKind.u8.wrap n=n:=by
 simp [IntKind.wrap,IntKind.min,IntKind.max,IntKind.signed,IntKind.bits];omega
theorem Pu {s:ByteArray} {aD:Nat} (h:aD < s.size):∃ c r,(tx s).drop aD=c :: r/\de s aD=c.toNat/\r.length + 1 + aD=s.size/\∀ n,n<=r.length + 1->s.extract aD (aD + n)=ba ((c :: r).take n):=by
 have hl:=bB s
 cases hd:(tx s).drop aD with
 | nil=>
  have:=congrArg List.length hd;rw [List.length_drop,List.length_nil] at this;omega
 | cons c r=>
  refine ⟨c,r,rfl,?_,?_,fun n hn=>?_⟩
  ·show ((tx s).getD aD 0).toNat=_
   have:(tx s)[aD]? = some c:=by
    have:=congrArg (fun l=>l[0]?) hd;simpa [List.getElem?_drop] using this
   simp [List.getD_eq_getElem?_getD,this]
  ·have:=congrArg List.length hd;rw [List.length_drop,List.length_cons] at this;omega
  ·refine lR ?_;rw [<- hd];simp [tx,List.take_drop]
theorem Sy {x y:ByteArray} {c d:UInt8} (hx:x=ba [c]) (hy:y=ba [d]):(ba [92,120] ++ x) ++ y=ba [92,120,c,d]:=by
 rw [hx,hy];exact (congrArg (·++ ba [d]) (lQ [92,120] [c])).trans (lQ _ _)
theorem Sz (l:List UInt8):(ba [92,117,123] ++ ba l) ++ ba [125]=ba ([92,117,123] ++ l ++ [125]):=
 (congrArg (·++ ba [125]) (lQ [92,117,123] l)).trans (lQ _ _)
theorem G1 {a b:ByteArray} {d:DV} (h:a=b):DV.tup [.v (.string a),d]=DV.tup [.v (.string b),d]:=by rw [h]
set_option maxHeartbeats 1000000 in
theorem G2 (s:ByteArray) (aD:Nat) (hs:s.size<=1099511627776) (h:aD < s.size) :
  EvP prog 264 [.v (.string s),.v (.int .i64 aD)] (.tup [.v (.string (ba (Pr ((tx s).drop aD)))),.v (.int .i64 (kk ((tx s).drop aD):Nat))]):=by
 obtain ⟨c,r,hd,hb,gG,hex⟩:=Pu h;have hu:=zN s aD hs c r hd;rw [hd];have Fu:kk (c :: r)=if nu (c :: r)=true then aR c.toNat else 1:=rfl
 have hut:Pr (c :: r)=if nu (c :: r)=true then Ea (recV ((c :: r).take (kk (c :: r)))) ((c :: r).take (kk (c :: r))) else [92,120,tQ (c.toNat / 16),tQ (c.toNat % 16)]:=rfl
 have uf:=GQ (c:=c) (r:=r);have bS:=fun g=>uC (l:=c :: r) g;have hY:=c.toNat_lt;rw [Fu] at hut;rw [Fu,hut];generalize nu (c :: r)=ok at hu uf bS ⊢;refine eG 62 [.tmp 4,.tmp 5] func264 rfl ntmps264 rfl fun _ _ _ _=>?_;refine bL MW rfl hu ax (fun q hq=>?_);obtain ⟨z,n,rfl,hn,hp⟩:=hq;refine br (fun g=>absurd g (by simp;omega)) (fun _=>?_)
 cases ok with
 | false=>
  rw [if_neg (by simp),if_neg (by simp)];have e1:IntKind.u8.wrap ((c.toNat:Int).tdiv 16)=((c.toNat / 16:Nat):Int):=by rw [UB,G0 (by omega) (by omega)]
  have e2:IntKind.u8.wrap (((c.toNat / 16:Nat):Int) + 1)=((c.toNat / 16:Nat):Int) + 1:=G0 (by omega) (by omega);have e3:IntKind.u8.wrap (((c.toNat % 16:Nat):Int) + 1)=((c.toNat % 16:Nat):Int) + 1:=G0 (by omega) (by omega);refine ⟨⟨by omega,by omega⟩,?_⟩;rw [show de s ((aD:Int)).toNat=c.toNat from hb];have x1:=BA (s:=ba [48,49,50,51,52,53,54,55,56,57,97,98,99,100,101,102]) rfl (k:=c.toNat / 16) (by omega) e1 ((congrArg (fun z=>IntKind.u8.wrap (z + 1)) e1).trans e2);have x2:=BA (s:=ba [48,49,50,51,52,53,54,55,56,57,97,98,99,100,101,102]) rfl (k:=c.toNat % 16) (by omega) (mg c.toNat) ((congrArg (fun z=>IntKind.u8.wrap (z + 1)) (mg c.toNat)).trans e3);have l1:=congrArg ByteArray.size x1;have l2:=congrArg ByteArray.size x2;rw [sS] at l1 l2;refine dI ?_;refine ⟨⟨rfl,by decide⟩,?_⟩;refine ⟨⟨rfl,by decide⟩,?_⟩;refine ⟨⟨by rw [e1];omega,by rw [e1,e2];omega,by rw [e1,e2];show _<=((16:Nat):Int);omega⟩,?_⟩;refine ⟨Nat.le_trans (Nat.le_of_eq (congrArg (2 + ·) l1)) (by show 2 + 1<=9223372036854775807;decide),?_⟩;refine ⟨⟨rfl,by decide⟩,?_⟩;refine ⟨⟨rfl,by decide⟩,?_⟩;refine ⟨⟨by rw [mg];omega,by rw [mg,e3];omega,by rw [mg,e3];show _<=((16:Nat):Int);omega⟩,?_⟩;refine ⟨by rw [jb];exact Nat.le_trans (Nat.le_of_eq (congr (congrArg HAdd.hAdd (congrArg (2 + ·) l1)) l2)) (by show 2 + 1 + 1<=9223372036854775807;decide),?_⟩;refine ⟨.tup [.v (.string _),.v (.int .i64 _)],ax,?_⟩;exact G1 (Sy x1 x2)
 | true=>
  obtain ⟨rfl,hz⟩:=hn rfl;have hnn:=Ji (uf rfl);rw [<- hz] at hnn;obtain ⟨_,_,hcr,h1,h2,_⟩:=bS rfl;injection hcr with Ig nK
  subst Ig nK;rw [List.length_cons] at h2;rw [if_pos rfl,if_pos rfl,<- hz];refine cP aab (GY z) ?_;refine br ?_ ?_<;>intro g
  ·have aT:kH z ≠ []:=by
    intro e;rw [e] at g;simp at g
   rw [GZ aT];exact ⟨_,ax,rfl⟩
  ·have he:kH z=[]:=by
    by_cases e:kH z=[]
    ·exact e
    ·exfalso;simp at g;exact e g
   rw [La he];refine cP aac (Ef z) ?_
   cases K8 z with
   | true=>
    rw [if_pos rfl];have hz32:IntKind.u32.wrap z=(z.toNat:Nat):=by rw [BB (by omega) (by omega)];omega
    have hx:=Pt z.toNat (by omega);rw [<- hz32] at hx;have hl:=xi (n:=z.toNat) (by omega);refine cP aad hx ?_;refine ⟨by show 3 + (yq z.toNat).length<=_;omega,?_⟩;refine ⟨by rw [jb];show 3 + (yq z.toNat).length + 1<=_;omega,?_⟩;refine ⟨.tup [.v (.string _),.v (.int .i64 _)],ax,?_⟩;exact G1 (Sz _)
   | false=>
    rw [if_neg (by simp)];have hw:IntKind.i64.wrap ((aD:Int) + (aR c.toNat:Nat))=((aD + aR c.toNat:Nat):Int):=by rw [wrap64 (by omega) (by omega)];omega
    refine ⟨⟨by omega,by rw [hw];omega,by rw [hw];omega⟩,?_⟩;refine ⟨.tup [.v (.string _),.v (.int .i64 _)],ax,?_⟩;refine G1 ?_;rw [hw];exact hex _ (by omega)
theorem BD {s:ByteArray} {e:Nat} (h:¬ e < s.size):(tx s).drop e=[]:=List.drop_of_length_le (by rw [bB];omega)
theorem Pv {s:ByteArray} {e:Nat} (h:e < s.size):oo ((tx s).drop e).length ((tx s).drop e)=Pr ((tx s).drop e) ++ oo ((tx s).drop (e + kk ((tx s).drop e))).length ((tx s).drop (e + kk ((tx s).drop e))) /\
  1<=kk ((tx s).drop e)/\e + kk ((tx s).drop e)<=s.size:=by
 have aT:(tx s).drop e ≠ []:=by
  intro hc;have:=congrArg List.length hc;rw [List.length_drop,bB,List.length_nil] at this;omega
 obtain ⟨h1,h2⟩:=qN aT;rw [List.length_drop,bB] at h2;refine ⟨?_,h1,by omega⟩;rw [K9 aT,List.drop_drop]
abbrev WU (s:ByteArray) (l:List UInt8) (p:DV) (e:Nat):St:=
 ⟨[(0,⟨[],.v (.string s)⟩),(3,⟨[],.loc 0 0⟩),(4,⟨[],.v (.int .i64 e)⟩)],[[p,.sl 1 (bD l) (some 0)]],[⟨l.length,5,1,none⟩]⟩
theorem G3 (s:ByteArray) (hs:s.size<=1099511627776):EvP prog 237 [.v (.string s)] (.v (.string (ba (xj (tx s))))):=by
 have hlen:=xm (tx s);rw [bB] at hlen;refine abe (s:=false) (bt:=[(0,135)]) (hbt:=fun p hp=>Nat.zero_le _) (P:=prog) tt aaP 5000 25 [.tmp 2] func237 rfl ntmps237 rfl (nL rfl) (fun _ _ _ _=>?_);refine D8 ⟨0,5,1,none⟩ ⟨[(0,⟨[],.v (.string s)⟩),(3,⟨[],.loc 0 0⟩)],[[.v (.pointer none),.sl 1 [] (some 0)]],[⟨0,5,1,none⟩]⟩ rfl ⟨_,_,rfl,ah rfl,_,_,rfl,ah rfl,rfl⟩ rfl ⟨_,_,rfl,⟨_,_,rfl,ah rfl,_,_,rfl,bp (Nat.le_refl _) rfl,rfl⟩,rfl⟩ ⟨⟨_,rfl,ah rfl⟩,⟨_,rfl,ah rfl⟩,trivial⟩ rfl rfl ?_;refine Jh (c:=34) (kt:=0) (l:=[]) rfl rfl (.head _) rfl (.inl rfl) rfl (by decide) rfl ?_;refine lI (fun j st=>∃ (e:Nat) (l:List UInt8),st=WU s l (.loc 0 0) e/\e<=s.size/\l ≠ []/\xj (tx s)=l ++ (oo ((tx s).drop e).length ((tx s).drop e) ++ [34])/\j=s.size - e) ⟨0,[34],rfl,by omega,by simp,by rw [List.drop_zero];rfl,rfl⟩ (weak_mk ⟨_,rfl⟩ wA rfl rfl rfl wB0) ?_;rintro _ st ⟨e,l,rfl,he,aT,hq,rfl⟩;have x4:=congrArg List.length hq;rw [List.length_append,List.length_append] at x4;refine br ?_ ?_<;>intro hL
 ·have au:e < s.size:=by simp at hL;omega
  obtain ⟨aU,h1,h2⟩:=Pv au;have hu:=G2 s e hs au;rw [aU] at hq x4;rw [List.length_append] at x4;generalize hU:Pr ((tx s).drop e)=U at hu hq x4;generalize hN:kk ((tx s).drop e)=n at hu hq x4 h1 h2;have hw:IntKind.i64.wrap ((e:Int) + (n:Nat))=((e + n:Nat):Int):=by rw [wrap64 (by omega) (by omega)];omega
  refine cP Z7 hu ?_;refine gW rfl (l ++ U) (l:=l) (kt:=0) rfl (.head _) rfl (.inr rfl) rfl (by simp [aT]) (by rw [List.length_append];omega) rfl (fun n9=>?_);exact ⟨WU s (l ++ U) (.loc 0 0) (e + n),(weak_mk ⟨_,rfl⟩ wA rfl rfl rfl (wB1 hw)),s.size - (e + n),by omega,e + n,_,rfl,h2,by simp [aT],by rw [hq];simp only [List.append_assoc],rfl⟩
 ·have aN:¬ e < s.size:=by simp at hL;omega
  rw [BD aN] at hq x4;refine Jh (c:=34) (kt:=0) (l:=l) rfl rfl (.head _) rfl (.inr rfl) rfl (by simp only [List.length_nil,List.length_cons] at x4;omega) rfl ?_;refine uF rfl (kt:=0) (l:=l ++ [34]) (.head _) rfl (by simp) (by simp) rfl rfl rfl ?_;rw [hq];exact (rfl:_=_)
mutual
def sameV:Val->Val->Bool
 | .mk k n s ks,.mk k' n' s' ks'=>decide (k=k') && decide (n=n') && decide (s=s') && sameVs ks ks'
def sameVs:List Val->List Val->Bool
 | [],[]=>true
 | v :: r,w :: q=>sameV v w && sameVs r q
 | _,_=>false
end
theorem xr:∀ {a b:List Val},a.length≠b.length->sameVs a b=false
 | [],[],h=>(h rfl).elim
 | v :: r,w :: q,h=>by rw [sameVs,xr (a:=r) (b:=q) (sU h),Bool.and_false]
 | [],_ :: _,_=>by simp [sameVs]
 | _ :: _,[],_=>by simp [sameVs]
mutual
theorem zQ:∀ {a b:Val},sameV a b=true↔a=b
 | .mk k n s ks,.mk k' n' s' ks'=>by
  have:=@xu ks ks';simp only [sameV,Bool.and_eq_true,decide_eq_true_eq,this,Val.mk.injEq,and_assoc]
theorem xu:∀ {a b:List Val},sameVs a b=true↔a=b
 | [],[]=>by simp [sameVs]
 | v :: r,w :: q=>by
  have h1:=@zQ v w;have h2:=@xu r q;simp only [sameVs,Bool.and_eq_true,h1,h2,List.cons.injEq]
 | [],_ :: _=>by simp [sameVs]
 | _ :: _,[]=>by simp [sameVs]
end
theorem xx (v:Val):sameV v v=true:=zQ.2 rfl
def zR (n:Nd) (v:Val):Bool:=
 if 0 < v.ks.length∨(v.k≠3/\v.s≠aq)∨(v.k=3/\v.n≠0) then false
 else if n.ag=1 then decide (v.k=1) && (decide (v.n=0) || decide (v.n=1))
 else if n.ag=2 then decide (v.k=2) && decide (n.lo<=v.n) && decide (v.n<=n.hi)
 else if n.ag=3 then decide (v.k=3) && decide ((v.s.size:Int)<=n.most)
 else decide (v.k=4) && decide (0<=v.n) && decide (v.n < n.af.length)
def cO (v:Val):Bool:=decide (v.s=aq) && (decide (v.n=0) || decide (v.k=8))
def to0 (n:Nd):Int:=match n.aw[0]? with | some e=>e.to | none=>0
def oq (n:Nd) (v:Val):Option Ed:=if v.k=8/\0<=v.n/\v.n < n.aw.length then n.aw[v.n.toNat]? else none
def kidsL (n:Nd) (v:Val):List Int:=
 if n.ag=5∨n.ag=6 then List.replicate v.ks.length (to0 n)
 else if n.ag=7 then n.aw.map Ed.to
 else match oq n v with | none=>[] | some e=>if e.bare=true then [] else [e.to]
def dL (n:Nd) (v:Val):Bool:=
 if n.ag=5∨n.ag=6 then cO v && decide (v.k=n.ag) && decide ((v.ks.length:Int)<=if n.ag=6 then 1 else n.most)
 else if n.ag=7 then cO v && decide (v.k=7) && decide (n.aw.length=v.ks.length)
 else match oq n v with | none=>false | some _=>cO v && decide ((kidsL n v).length=v.ks.length)
def cS (ND:List Nd) (i:Int):Option Nd:=if i < 0 then none else ND[i.toNat]?
mutual
def fitV (ND:List Nd):Val->Int->Bool
 | .mk k n s ks,i=>match cS ND i with
  | none=>false
  | some d=>if d.ag < 5 then zR d (.mk k n s ks) else dL d (.mk k n s ks) && fitVs ND ks (kidsL d (.mk k n s ks))
def fitVs (ND:List Nd):List Val->List Int->Bool
 | v :: r,i :: l=>fitV ND v i && fitVs ND r l
 | _,_=>true
end
def Jj (n:Nd) (v:Val) (j:Nat):Int:=
 if n.ag=5 then (if (j:Int) < n.most then to0 n else -1)
 else if n.ag=6 then (if j < 1 then to0 n else -1)
 else if n.ag=7 then (match n.aw[j]? with | some e=>e.to | none=>-1)
 else if n.ag=8 then (if j < 1/\0<=v.n/\v.n < n.aw.length then (match n.aw[v.n.toNat]? with | some e=>e.to | none=>-1) else -1)
 else -1
def xy (n:Nd) (v:Val):Bool:=decide (v.k≠n.ag) || (decide (v.k≠3) && decide (v.s≠aq)) || (decide (0 < v.s.size) && decide (n.most < (v.s.size:Int)))
def Eg (n:Nd) (v:Val):Bool:=
 if n.ag=1 then decide (v.n=0) || decide (v.n=1)
 else if n.ag=2 then decide (n.lo<=v.n) && decide (v.n<=n.hi)
 else if n.ag=4 then decide (0<=v.n) && decide (v.n < n.af.length)
 else if n.ag=7 then decide (v.n=0) && decide (v.ks.length=n.aw.length)
 else if n.ag=8 then (if 0<=v.n/\v.n < n.aw.length then (match n.aw[v.n.toNat]? with | some e=>decide (decide (v.ks.length=0)=e.bare) | none=>false) else false)
 else decide (v.n=0)
mutual
def xz (ND:List Nd):Val->Int->Bool
 | .mk k n s ks,i=>match cS ND i with
  | none=>false
  | some d=>if xy d (.mk k n s ks)=true then false else Eg d (.mk k n s ks) && refVs ND ks (Jj d (.mk k n s ks)) 0
def refVs (ND:List Nd):List Val->(Nat->Int)->Nat->Bool
 | [],_,_=>true
 | v :: r,f,j=>xz ND v (f j) && refVs ND r f (j + 1)
end
theorem zS (ND:List Nd) (v:Val):xz ND v (-1)=false:=by
 obtain ⟨k,n,s,ks⟩:=v;rw [xz];rfl
theorem G4 {ND:List Nd}:∀ {ks:List Val} {f:Nat->Int} {j:Nat},f j = -1->refVs ND ks f j=decide (ks=[])
 | [],f,j,h=>by simp [refVs]
 | v :: r,f,j,h=>by rw [refVs,h,zS];simp
theorem nv {ND:List Nd}:∀ {ks:List Val} {f:Nat->Int} {l:List Int} {j:Nat},(∀ v∈ks,∀ i,fitV ND v i=xz ND v i)->l.length=ks.length->(∀ e i,l[e]? = some i->f (j + e)=i)->refVs ND ks f j=fitVs ND ks l
 | [],f,[],j,_,_,_=>by simp [refVs,fitVs]
 | v :: r,f,i :: l,j,ih,hl,h=>by
  have h0:=h 0 i rfl;rw [Nat.add_zero] at h0
  rw [refVs,fitVs,h0,ih v (by simp) i,nv (fun x hx=>ih x (by simp [hx])) (sU hl) fun e i' he=>by
   have:=h (e + 1) i' (sU he)
   rwa [show j + 1 + e=j + (e + 1) by omega]]
 | [],f,_ :: _,j,_,hl,_=>by simp at hl
 | _ :: _,f,[],j,_,hl,_=>by simp at hl
theorem oa {ND:List Nd}:∀ {ks:List Val} {f:Nat->Int} {j m:Nat},j<=m->f m = -1->m < j + ks.length->refVs ND ks f j=false
 | [],f,j,m,h1,_,h3=>by simp at h3;omega
 | v :: r,f,j,m,h1,h2,h3=>by
  rw [refVs];by_cases h:j=m
  ·subst h;rw [h2,zS];all_goals rfl
  ·rw [oa (m:=m) (by omega) h2 (by simp at h3;omega),Bool.and_false]
theorem Pw {L:Nat} {ND:List Nd} {d:Nd} (hd:dB L ND.length d) (v:Val) (ih:∀ x∈v.ks,∀ i,fitV ND x i=xz ND x i) :
  (if d.ag < 5 then zR d v else dL d v && fitVs ND v.ks (kidsL d v))=if xy d v=true then false else Eg d v && refVs ND v.ks (Jj d v) 0:=by
 have om:=hd.k1;have B7:=hd.k8;have he:(aq:ByteArray).size=0:=rfl;have hse:v.s=aq->v.s.size=0:=fun h=>by rw [h];all_goals rfl
 by_cases h5:d.ag < 5
 ·rw [if_pos h5]
  have jz:Jj d v 0 = -1:=by
   unfold Jj;rw [if_neg (by omega),if_neg (by omega),if_neg (by omega),if_neg (by omega)]
  rw [G4 jz];unfold zR xy Eg;have hif:∀ (P:Prop) [Decidable P] (b:Bool),(if P then false else b)=(!decide P && b):=fun P _ b=>by split<;>simp_all
  have Jk:(0 < v.ks.length)↔v.ks ≠ []:=List.length_pos_iff;have hif2:∀ (P b:Bool),(if P=true then false else b)=(!P && b):=fun P b=>by cases P<;>rfl
  rw [hif2,hif];have UC:=hd.Ur;have jG:=hd.Ut;rw [Bool.eq_iff_iff];rcases (show d.ag=1∨d.ag=2∨d.ag=3∨d.ag=4 by omega) with c | c | c | c
  all_goals
   by_cases hs:v.s=aq
   ·have:=hse hs;by_cases hk:v.ks=[]
    ·simp [c,hs,hk,he]
     first | omega | done
    ·simp [c,hs,hk,he]
   ·by_cases hk:v.ks=[]
    ·have hs':¬ v.s=ByteArray.empty:=hs;simp [c,hs,hk,hs']
     first | omega | done
    ·simp [c,hs,hk]
 rw [if_neg h5];rcases Decidable.em (¬ v.k=d.ag) with Px | Px
 ·have hb:xy d v=true:=by simp [xy,Px]
  rw [if_pos hb];unfold dL;by_cases c:d.ag=5∨d.ag=6
  ·rw [if_pos c];simp [Px]
  rw [if_neg c];by_cases c7:d.ag=7
  ·rw [if_pos c7];have:¬ v.k=7:=by omega
   simp [this]
  rw [if_neg c7];have:oq d v=none:=by unfold oq;rw [if_neg (by omega)]
  rw [this];all_goals rfl
 have Px:v.k=d.ag:=Decidable.not_not.1 Px;rcases Decidable.em (¬ v.s=aq) with hs | hs
 ·have hb:xy d v=true:=by simp [xy,hs,Px];left;omega
  have hp:cO v=false:=by simp [cO,hs]
  rw [if_pos hb];unfold dL;rw [hp];split
  ·simp
  ·split
   ·simp
   ·split<;>simp
 have hs:v.s=aq:=Decidable.not_not.1 hs
 have hb:xy d v=false:=by
  have:=hse hs;simp [xy,Px,hs,he]
 rw [if_neg (by rw [hb];simp)];by_cases c5:d.ag=5
 ·have hm:=hd.Us c5
  have bS:Eg d v=decide (v.n=0):=by
   unfold Eg;rw [if_neg (by omega),if_neg (by omega),if_neg (by omega),if_neg (by omega),if_neg (by omega)]
  have J5:dL d v=(decide (v.n=0) && decide ((v.ks.length:Int)<=d.most)):=by
   unfold dL cO;rw [if_pos (.inl c5),if_neg (by omega)];simp [hs,Px,c5]
  have jm:kidsL d v=List.replicate v.ks.length (to0 d):=by unfold kidsL;rw [if_pos (.inl c5)]
  rw [bS,J5,jm];by_cases eV:(v.ks.length:Int)<=d.most
  ·rw [nv (l:=List.replicate v.ks.length (to0 d)) ih (by simp) fun e i he=>by
    have au:e < v.ks.length:=by
     have:=(gS he).1;simpa using this
    rw [List.getElem?_replicate,if_pos au] at he;simp only [oI] at he;unfold Jj
    rw [if_pos c5,if_pos (by omega),he]]
   simp [eV]
  ·rw [oa (m:=d.most.toNat) (by omega) (by unfold Jj;rw [if_pos c5,if_neg (by omega)]) (by omega)];simp [eV]
 by_cases c6:d.ag=6
 ·have bS:Eg d v=decide (v.n=0):=by
   unfold Eg;rw [if_neg (by omega),if_neg (by omega),if_neg (by omega),if_neg (by omega),if_neg (by omega)]
  have J5:dL d v=(decide (v.n=0) && decide (v.ks.length<=1)):=by
   unfold dL cO;rw [if_pos (.inr c6),if_pos c6];have:((v.ks.length:Int)<=1)↔v.ks.length<=1:=by omega
   simp [hs,Px,c6,this]
  have jm:kidsL d v=List.replicate v.ks.length (to0 d):=by unfold kidsL;rw [if_pos (.inr c6)]
  rw [bS,J5,jm];by_cases eV:v.ks.length<=1
  ·rw [nv (l:=List.replicate v.ks.length (to0 d)) ih (by simp) fun e i he=>by
    have au:e < v.ks.length:=by
     have:=(gS he).1;simpa using this
    rw [List.getElem?_replicate,if_pos au] at he;simp only [oI] at he;unfold Jj
    rw [if_neg c5,if_pos c6,if_pos (by omega),he]]
   simp [eV]
  ·rw [oa (m:=1) (by omega) (by unfold Jj;rw [if_neg c5,if_pos c6,if_neg (by omega)]) (by omega)];simp [eV]
 by_cases c7:d.ag=7
 ·have bS:Eg d v=(decide (v.n=0) && decide (v.ks.length=d.aw.length)):=by
   unfold Eg;rw [if_neg (by omega),if_neg (by omega),if_neg (by omega),if_pos c7]
  have J5:dL d v=(decide (v.n=0) && decide (v.ks.length=d.aw.length)):=by
   unfold dL cO;rw [if_neg (by omega),if_pos c7];have:(d.aw.length=v.ks.length)↔(v.ks.length=d.aw.length):=eq_comm;simp [hs,Px,c7,this]
  have jm:kidsL d v=d.aw.map Ed.to:=by unfold kidsL;rw [if_neg (by omega),if_pos c7]
  rw [bS,J5,jm];by_cases eV:v.ks.length=d.aw.length
  ·rw [nv (l:=d.aw.map Ed.to) ih (by simp [eV]) fun e i he=>by
    rw [List.getElem?_map] at he;unfold Jj;rw [if_neg c5,if_neg c6,if_pos c7,Nat.zero_add]
    cases hx:d.aw[e]? with
    | none=>rw [hx] at he;cases he
    | some x=>rw [hx] at he;simpa using he]
  ·simp [eV]
 have c8:d.ag=8:=by omega
 have bS:Eg d v=(if 0<=v.n/\v.n < d.aw.length then (match d.aw[v.n.toNat]? with | some e=>decide (decide (v.ks.length=0)=e.bare) | none=>false) else false):=by
  unfold Eg;rw [if_neg (by omega),if_neg (by omega),if_neg (by omega),if_neg c7,if_pos c8]
 rcases Decidable.em (¬ (0<=v.n/\v.n < d.aw.length)) with hr | hr
 ·have ht:oq d v=none:=by unfold oq;rw [if_neg (fun h=>hr h.2)]
  have J5:dL d v=false:=by unfold dL;rw [if_neg (by omega),if_neg c7,ht]
  rw [J5,bS,if_neg hr];all_goals rfl
 have hr:0<=v.n/\v.n < d.aw.length:=Decidable.not_not.1 hr;obtain ⟨e,hx⟩:∃ e,d.aw[v.n.toNat]? = some e:=⟨_,gE (by omega)⟩;have ht:oq d v=some e:=by unfold oq;rw [if_pos ⟨by omega,hr⟩,hx]
 have jm:kidsL d v=if e.bare=true then [] else [e.to]:=by unfold kidsL;rw [if_neg (by omega),if_neg c7,ht]
 have J5:dL d v=decide ((kidsL d v).length=v.ks.length):=by
  unfold dL;rw [if_neg (by omega),if_neg c7,ht];have hp:cO v=true:=by simp [cO,hs,Px,c8]
  simp only [hp,Bool.true_and]
 have htr:∀ j,Jj d v j=if j < 1 then e.to else -1:=fun j=>by
  unfold Jj;rw [if_neg c5,if_neg c6,if_neg c7,if_pos c8,hx];by_cases hj:j < 1
  ·rw [if_pos ⟨hj,hr⟩,if_pos hj]
  ·rw [if_neg (fun h=>hj h.1),if_neg hj]
 rw [J5,bS,if_pos hr,hx,jm];simp only
 cases hbr:e.bare with
 | true=>
  simp only [if_true];by_cases hl:v.ks.length=0
  ·have Py:=List.eq_nil_of_length_eq_zero hl;rw [Py];simp [fitVs,refVs]
  ·have:decide (([]:List Int).length=v.ks.length)=false:=decide_eq_false fun h=>hl (by simpa using h.symm);rw [this];simp [hl]
 | false=>
  simp only [Bool.false_eq_true,if_false];by_cases hl:v.ks.length=1
  ·rw [nv (l:=[e.to]) ih (by simp [hl]) fun j i he=>by
    have hj:j < 1:=by have:=(gS he).1;simpa using this
    have:j=0:=by omega
    subst this;rw [htr]
    simpa using he]
   simp [hl]
  ·have h1:¬ ([e.to]:List Int).length=v.ks.length:=by simpa using fun h=>hl h.symm
   by_cases hz:v.ks.length=0
   ·simp [hz]
   ·rw [oa (m:=1) (by omega) (by rw [htr];simp) (by omega)];simp only [Bool.and_false];have:decide (([e.to]:List Int).length=v.ks.length)=false:=by simpa using fun h=>hl h.symm
    rw [this];all_goals rfl
mutual
theorem Pz {L:Nat} {ND:List Nd} (bS:∀ n∈ND,dB L ND.length n):∀ (v:Val) (i:Int),fitV ND v i=xz ND v i
 | .mk k n s ks,i=>by
  have ih:=Jl bS ks;rw [fitV,xz];unfold cS;split
  ·rfl
  ·rename_i h;split at h
   ·cases h
   ·exact Pw (bS _ (mG h)) (.mk k n s ks) ih
theorem Jl {L:Nat} {ND:List Nd} (bS:∀ n∈ND,dB L ND.length n):∀ (ks:List Val),∀ x∈ks,∀ i:Int,fitV ND x i=xz ND x i
 | [],x,hx,_=>by cases hx
 | v :: r,x,hx,i=>by
  rcases List.mem_cons.1 hx with hx | hx
  ·rw [hx];exact Pz bS v i
  ·exact Jl bS r x hx i
end
def ou (l:List Int):List (List DV):=l.map fun z=>[DV.v (.int .i64 z)]
theorem ko (l:List Int):(ou l).length=l.length:=by simp [ou]
theorem qQ {l:List Int} {i:Nat} {z:Int} (h:l[i]? = some z):(ou l)[i]? = some [DV.v (.int .i64 z)]:=by simp [ou,h]
theorem qR (l:List Int) (z:Int):ou l ++ [[DV.v (.int .i64 z)]]=ou (l ++ [z]):=by simp [ou]
theorem sv:(⟨#[]⟩:ByteArray)=aq:=rfl
theorem Lc (n:Nd) (v:Val):EvP prog 107 [.agg (jc n),.agg (aM v)] (.v (.bool (zR n v))):=by
 have hbl:=cg n.af;obtain ⟨ag,aD,lo,hi,most,af,es⟩:=n;obtain ⟨q,z,s,ks⟩:=v;have cu:=bo ks;simp only at hbl
 have hF:zR ⟨ag,aD,lo,hi,most,af,es⟩ (.mk q z s ks)=if 0 < ks.length∨(q≠3/\s≠aq)∨(q=3/\z≠0) then false
  else if ag=1 then decide (q=1) && (decide (z=0) || decide (z=1))
  else if ag=2 then decide (q=2) && decide (lo<=z) && decide (z<=hi)
  else if ag=3 then decide (q=3) && decide ((s.size:Int)<=most)
  else decide (q=4) && decide (0<=z) && decide (z < af.length):=rfl
 have hc:∀ b:Bool,b=pickB (pickB (decide (0 < ((dVals ks).length:Int))) true (pickB (!decide (q=3)) (!decide (s=⟨#[]⟩)) false)) true (pickB (decide (q=3)) (!decide (z=0)) false)->b=decide (0 < ks.length∨(q≠3/\s≠aq)∨(q=3/\z≠0)):=fun b h=>by
  rw [h,cu,sv,Bool.eq_iff_iff];simp [ap,pickB_and,or_assoc]
 rw [hF];refine eG 94 [.tmp 4] func107 rfl ntmps107 rfl fun _ _ _ _=>?_;refine br ?_ ?_<;>intro c
 ·have c:=of_decide_eq_true ((hc _ rfl).symm.trans c);rw [if_pos c];exact (rfl:_=_)
 have c:=of_decide_eq_false ((hc _ rfl).symm.trans c);rw [if_neg c];refine br ?_ ?_<;>intro c1
 ·have c1:ag=1:=sU c1;refine (congrArg (fun b=>DV.v (.bool b)) ?_:_=_);simp [c1,pickB_and,ap]
 have c1:¬ ag=1:=sU c1;refine br ?_ ?_<;>intro c2
 ·have c2:ag=2:=sU c2;refine (congrArg (fun b=>DV.v (.bool b)) ?_:_=_);simp [c2,pickB_and,ap]
 have c2:¬ ag=2:=sU c2;refine br ?_ ?_<;>intro c3
 ·have c3:ag=3:=sU c3;refine (congrArg (fun b=>DV.v (.bool b)) ?_:_=_);simp [c3,pickB_and,ap]
 have c3:¬ ag=3:=sU c3;refine (congrArg (fun b=>DV.v (.bool b)) ?_:_=_);simp [c1,c2,c3,pickB_and,ap,hbl]
abbrev zT (n:Nd) (v:Val) (l:List Int) (p:Bool) (kd mo:Int) (q e:Nat):St:=
 ⟨[(2,⟨[],.loc 0 0⟩),(3,⟨[],.loc 1 0⟩),(6,⟨[],.sl 1 (ou l) (some 0)⟩),(7,⟨[],.v (.bool p)⟩),(8,⟨[],.v (.int .i64 kd)⟩),(9,⟨[],.v (.int .i64 mo)⟩),(38,⟨[],.v (.int .i64 v.ks.length)⟩),(39,⟨[],.v (.int .i64 e)⟩)],[jc n,aM v],[⟨q,3,1,none⟩]⟩
abbrev PA (n:Nd) (v:Val) (l:List Int) (p:Bool) (q e:Nat):St:=
 ⟨[(2,⟨[],.loc 0 0⟩),(3,⟨[],.loc 1 0⟩),(6,⟨[],.sl 1 (ou l) (some 0)⟩),(7,⟨[],.v (.bool p)⟩),(67,⟨[],.sl 10 (fv n.aw) none⟩),(68,⟨[],.v (.int .i64 (fv n.aw).length)⟩),(69,⟨[],.v (.int .i64 e)⟩)],[jc n,aM v],[⟨q,3,1,none⟩]⟩
theorem Ld {L N:Nat} {n:Nd} (hn:dB L N n) (h5:5<=n.ag) (v:Val) (hv:v.wt<=1099511627776) :
  EvP prog 108 [.agg (jc n),.agg (aM v)] (.tup [.sl 1 (ou (kidsL n v)) none,.v (.bool (dL n v))]):=by
 have B7:=hn.k8;have yr:=hn.one;have s9:=hn.many;obtain ⟨ag,aD,lo,hi,most,af,es⟩:=n;obtain ⟨q,z,s,ks⟩:=v;have cu:=bo ks;have j1:=bZ es;have jm:=dc ks;rw [Val.wt] at hv;simp only at B7 h5 yr s9
 have hp:∀ b:Bool,b=pickB (decide (s=⟨#[]⟩)) (pickB (decide (z=0)) true (decide (q=8))) false->b=cO (.mk q z s ks):=fun b h=>by
  rw [h];rw [pickB_and,ap,sv];all_goals rfl
 refine eG 134 [.tmp 4,.tmp 5] func108 rfl ntmps108 rfl fun _ _ _ _=>?_;refine br ?_ ?_<;>intro c
 ·have c:ag=5:=sU c;have WV:ag=5∨ag=6:=.inl c;obtain ⟨x,jk,_,_⟩:=yr WV;refine br (fun _=>?_) (fun h=>absurd h (by simp [c]));refine dI ?_;refine br (fun h=>absurd h (by simp [c])) (fun _=>?_);obtain ⟨kd,mo,h1,h2,h3,h4⟩:∃ kd mo:Int,5=kd/\most=mo/\kd=ag/\mo=(if ag=6 then 1 else most):=⟨5,most,rfl,rfl,c.symm,by rw [if_neg (by omega)]⟩;have uP:(fv es)[0]? = some (tP x):=by rw [jk];all_goals rfl
  have ht0:to0 ⟨ag,aD,lo,hi,most,af,es⟩=x.to:=by simp [to0,jk]
  refine lJ (fun e=>zT ⟨ag,aD,lo,hi,most,af,es⟩ (.mk q z s ks) (List.replicate e x.to) (cO (.mk q z s ks)) kd mo e e) ks.length (dG 2 ⟨0,3,1,none⟩ rfl rfl rfl (by repeat' (first | exact rfl | exact ah rfl | exact w9 (hp _ rfl) | exact ai h1 | exact ai h2 | exact ai (congrArg Nat.cast cu) | exact bp (Nat.le_refl _) rfl | exact bp (Nat.le_refl _) rfl | refine ⟨_,_,rfl,?_,?_⟩)) rfl rfl (by repeat' (first | exact trivial | exact ah rfl | exact w9 (hp _ rfl) | exact ai h1 | exact ai h2 | exact ai (congrArg Nat.cast cu) | exact bp (Nat.le_refl _) rfl | refine ⟨⟨_,rfl,?_⟩,?_⟩))) ?_;intro e he;refine br ?_ ?_<;>intro hL
  ·have au:e < ks.length:=by have:=hL;simp [Val.ks] at this;exact this
   have ep:(ou (List.replicate e x.to)).length=e:=by rw [ko,List.length_replicate]
   have fu:ou (List.replicate e x.to) ++ [[DV.v (.int .i64 x.to)]]=ou (List.replicate (e + 1) x.to):=by rw [qR,List.replicate_succ']
   refine ⟨_,⟨by omega,uP⟩,?_⟩;refine ⟨ep,⟨by rw [ep];simp [maxLen];omega,by rw [ep];simp;omega⟩,?_⟩;exact rE ⟨_,by omega,e + 1,rfl,by omega,rfl⟩ (az 2 rfl (wA2 (nxt au (by omega)) fu) rfl rfl rfl (dm (nxt au (by omega)) fu))
  ·have aN:e=ks.length:=by have:=hL;simp [Val.ks] at this;omega
   subst aN;have tR:kidsL ⟨ag,aD,lo,hi,most,af,es⟩ (.mk q z s ks)=List.replicate ks.length x.to:=by unfold kidsL;rw [if_pos WV,ht0];all_goals rfl
   have ep:(ou (List.replicate ks.length x.to)).length=ks.length:=by rw [ko,List.length_replicate]
   have hB:pickB (pickB (cO (.mk q z s ks)) (decide (q=kd)) false) (decide (((ou (List.replicate ks.length x.to)).length:Int)<=mo)) false=dL ⟨ag,aD,lo,hi,most,af,es⟩ (.mk q z s ks):=by
    rw [ep,h3,h4,pickB_and,pickB_and];unfold dL;rw [if_pos WV];rfl
   rw [tR];exact ⟨_,(wC1 hB),rfl⟩
 have c5:¬ ag=5:=sU c;refine br ?_ ?_<;>intro c
 ·have c:ag=6:=sU c;have WV:ag=5∨ag=6:=.inr c;obtain ⟨x,jk,_,_⟩:=yr WV;refine dI ?_;refine br (fun _=>?_) (fun h=>absurd h (by simp [c]));obtain ⟨kd,mo,h1,h2,h3,h4⟩:∃ kd mo:Int,6=kd/\1=mo/\kd=ag/\mo=(if ag=6 then 1 else most):=⟨6,1,rfl,rfl,c.symm,by rw [if_pos c]⟩;have uP:(fv es)[0]? = some (tP x):=by rw [jk];all_goals rfl
  have ht0:to0 ⟨ag,aD,lo,hi,most,af,es⟩=x.to:=by simp [to0,jk]
  refine lJ (fun e=>zT ⟨ag,aD,lo,hi,most,af,es⟩ (.mk q z s ks) (List.replicate e x.to) (cO (.mk q z s ks)) kd mo e e) ks.length (dG 2 ⟨0,3,1,none⟩ rfl rfl rfl (by repeat' (first | exact rfl | exact ah rfl | exact w9 (hp _ rfl) | exact ai h1 | exact ai h2 | exact ai (congrArg Nat.cast cu) | exact bp (Nat.le_refl _) rfl | exact bp (Nat.le_refl _) rfl | refine ⟨_,_,rfl,?_,?_⟩)) rfl rfl (by repeat' (first | exact trivial | exact ah rfl | exact w9 (hp _ rfl) | exact ai h1 | exact ai h2 | exact ai (congrArg Nat.cast cu) | exact bp (Nat.le_refl _) rfl | refine ⟨⟨_,rfl,?_⟩,?_⟩))) ?_;intro e he;refine br ?_ ?_<;>intro hL
  ·have au:e < ks.length:=by have:=hL;simp [Val.ks] at this;exact this
   have ep:(ou (List.replicate e x.to)).length=e:=by rw [ko,List.length_replicate]
   have fu:ou (List.replicate e x.to) ++ [[DV.v (.int .i64 x.to)]]=ou (List.replicate (e + 1) x.to):=by rw [qR,List.replicate_succ']
   refine ⟨_,⟨by omega,uP⟩,?_⟩;refine ⟨ep,⟨by rw [ep];simp [maxLen];omega,by rw [ep];simp;omega⟩,?_⟩;exact rE ⟨_,by omega,e + 1,rfl,by omega,rfl⟩ (az 2 rfl (wA2 (nxt au (by omega)) fu) rfl rfl rfl (dm (nxt au (by omega)) fu))
  ·have aN:e=ks.length:=by have:=hL;simp [Val.ks] at this;omega
   subst aN;have tR:kidsL ⟨ag,aD,lo,hi,most,af,es⟩ (.mk q z s ks)=List.replicate ks.length x.to:=by unfold kidsL;rw [if_pos WV,ht0];all_goals rfl
   have ep:(ou (List.replicate ks.length x.to)).length=ks.length:=by rw [ko,List.length_replicate]
   have hB:pickB (pickB (cO (.mk q z s ks)) (decide (q=kd)) false) (decide (((ou (List.replicate ks.length x.to)).length:Int)<=mo)) false=dL ⟨ag,aD,lo,hi,most,af,es⟩ (.mk q z s ks):=by
    rw [ep,h3,h4,pickB_and,pickB_and];unfold dL;rw [if_pos WV];rfl
   rw [tR];exact ⟨_,(wC1 hB),rfl⟩
 have c6:¬ ag=6:=sU c;obtain ⟨hm64,hm8,_,_⟩:=s9 (by omega);refine br ?_ ?_<;>intro c
 ·have c7:ag=7:=sU c;refine lJ (fun e=>PA ⟨ag,aD,lo,hi,most,af,es⟩ (.mk q z s ks) ((es.take e).map Ed.to) (cO (.mk q z s ks)) e e) es.length (dG 2 ⟨0,3,1,none⟩ rfl rfl rfl (by repeat' (first | exact rfl | exact ah rfl | exact w9 (hp _ rfl) | exact bp (Nat.le_refl _) rfl | exact bp (Nat.le_refl _) rfl | refine ⟨_,_,rfl,?_,?_⟩)) rfl rfl (by repeat' (first | exact trivial | exact ah rfl | exact w9 (hp _ rfl) | exact bp (Nat.le_refl _) rfl | refine ⟨⟨_,rfl,?_⟩,?_⟩))) ?_;intro e he;refine br ?_ ?_<;>intro hL
  ·have au:e < es.length:=by have:=hL;simp [j1] at this;exact this
   obtain ⟨x,hx⟩:=gX au;have ep:(ou ((es.take e).map Ed.to)).length=e:=by rw [ko,List.length_map,List.length_take];omega
   have fu:ou ((es.take e).map Ed.to) ++ [[DV.v (.int .i64 x.to)]]=ou ((es.take (e + 1)).map Ed.to):=by rw [qR,zL hx,List.map_append];all_goals rfl
   refine iX (bm hx) ?_;refine ⟨ep,⟨by rw [ep];simp [maxLen];omega,by rw [ep];simp;omega⟩,?_⟩;exact rE ⟨_,by omega,e + 1,rfl,by omega,rfl⟩ (az 2 rfl (wA2 (nxt au (by omega)) fu) rfl rfl rfl (dm (nxt au (by omega)) fu))
  ·have aN:e=es.length:=sW j1 hL;subst aN;rw [List.take_length];have tR:kidsL ⟨ag,aD,lo,hi,most,af,es⟩ (.mk q z s ks)=es.map Ed.to:=by unfold kidsL;rw [if_neg (by simp only;omega),if_pos c7]
   have ep:(ou (es.map Ed.to)).length=es.length:=by rw [ko,List.length_map]
   have hB:pickB (pickB (cO (.mk q z s ks)) (decide (q=7)) false) (decide (((ou (es.map Ed.to)).length:Int)=((dVals ks).length:Int))) false=dL ⟨ag,aD,lo,hi,most,af,es⟩ (.mk q z s ks):=by
    rw [ep,cu,pickB_and,pickB_and];unfold dL;rw [if_neg (by simp only;omega),if_pos c7];have:((es.length:Int)=(ks.length:Int))↔es.length=ks.length:=by omega
    simp only [this,Val.k,Val.ks];rfl
   rw [tR];refine dI ?_;exact ⟨_,(wC1 hB),rfl⟩
 have c7:¬ ag=7:=sU c;have tR:kidsL ⟨ag,aD,lo,hi,most,af,es⟩ (.mk q z s ks)=(match oq ⟨ag,aD,lo,hi,most,af,es⟩ (.mk q z s ks) with | none=>[] | some e=>if e.bare=true then [] else [e.to]):=by unfold kidsL;rw [if_neg (by simp only;omega),if_neg c7];all_goals rfl
 have SA:dL ⟨ag,aD,lo,hi,most,af,es⟩ (.mk q z s ks)=(match oq ⟨ag,aD,lo,hi,most,af,es⟩ (.mk q z s ks) with | none=>false | some _=>cO (.mk q z s ks) && decide ((kidsL ⟨ag,aD,lo,hi,most,af,es⟩ (.mk q z s ks)).length=ks.length)):=by unfold dL;rw [if_neg (by simp only;omega),if_neg c7];all_goals rfl
 have hc:∀ b:Bool,b=pickB (pickB (!decide (q=8)) true (decide (z < 0))) true (decide (((fv es).length:Int)<=z))->b = !decide (q=8/\0<=z/\z < es.length):=fun b h=>by
  rw [h,j1,ap,ap,Bool.eq_iff_iff];simp;omega
 refine br ?_ ?_<;>intro c
 ·have c:¬ (q=8/\0<=z/\z < es.length):=by have:=(hc _ rfl).symm.trans c;simpa only [Bool.not_eq_true',decide_eq_false_iff_not] using this
  have ht:oq ⟨ag,aD,lo,hi,most,af,es⟩ (.mk q z s ks)=none:=by show (if q=8/\0<=z/\z < es.length then es[z.toNat]? else none)=_;rw [if_neg c]
  rw [SA,tR,ht];exact ⟨_,ax,rfl⟩
 ·have c:q=8/\0<=z/\z < es.length:=by have:=(hc _ rfl).symm.trans c;simpa only [Bool.not_eq_false',decide_eq_true_eq] using this
  obtain ⟨x,hx⟩:∃ x,es[z.toNat]? = some x:=⟨_,gE (by omega)⟩;have ht:oq ⟨ag,aD,lo,hi,most,af,es⟩ (.mk q z s ks)=some x:=by show (if q=8/\0<=z/\z < es.length then es[z.toNat]? else none)=_;rw [if_pos c];exact hx
  rw [ht] at SA tR;refine iX (bm hx) ?_;refine br ?_ ?_<;>intro hb
  ·have hb:x.bare=false:=sU hb;have PB:kidsL ⟨ag,aD,lo,hi,most,af,es⟩ (.mk q z s ks)=[x.to]:=by rw [tR];simp [hb]
   have hB:pickB (cO (.mk q z s ks)) (decide ((1:Int)=((dVals ks).length:Int))) false=dL ⟨ag,aD,lo,hi,most,af,es⟩ (.mk q z s ks):=by
    rw [SA,PB,cu,pickB_and];have:((1:Int)=(ks.length:Int)) ↔ [x.to].length=ks.length:=by simp;omega
    simp only [this]
   rw [PB,<- hB];refine ⟨⟨by simp [maxLen],by simp⟩,?_⟩;refine dI ?_;exact ⟨_,(by repeat' (first | exact rfl | exact trivial | exact Or.inr (Or.inl ⟨_,rfl⟩) | exact Or.inr ⟨_,rfl⟩ | exact Or.inl ⟨rfl,rfl⟩ | exact Or.inl rfl | refine Or.inr ⟨_,_,rfl,Nat.zero_le _,rfl,?_⟩ | refine ⟨_,_,rfl,?_,?_⟩ | refine ⟨_,rfl,?_⟩ | exact congrArg (fun b=>DV.v (.bool (pickB b _ false))) (hp _ rfl) | refine Or.inr (Or.inr (Or.inr ⟨_,_,rfl,?_⟩)) | exact Or.inl rfl | refine Or.inr ?_)),rfl⟩
  ·have hb:x.bare=true:=sU hb;have PB:kidsL ⟨ag,aD,lo,hi,most,af,es⟩ (.mk q z s ks)=[]:=by rw [tR];simp [hb]
   have hB:pickB (cO (.mk q z s ks)) (decide ((0:Int)=((dVals ks).length:Int))) false=dL ⟨ag,aD,lo,hi,most,af,es⟩ (.mk q z s ks):=by
    rw [SA,PB,cu,pickB_and];have:((0:Int)=(ks.length:Int))↔([]:List Int).length=ks.length:=by simp;omega
    simp only [this]
   rw [PB,<- hB];refine dI ?_;exact ⟨_,(by repeat' (first | exact rfl | exact trivial | exact Or.inr (Or.inl ⟨_,rfl⟩) | exact Or.inr ⟨_,rfl⟩ | exact Or.inl ⟨rfl,rfl⟩ | exact Or.inl rfl | refine Or.inr ⟨_,_,rfl,Nat.zero_le _,rfl,?_⟩ | refine ⟨_,_,rfl,?_,?_⟩ | refine ⟨_,rfl,?_⟩ | exact congrArg (fun b=>DV.v (.bool (pickB b _ false))) (hp _ rfl) | refine Or.inr (Or.inr (Or.inr ⟨_,_,rfl,?_⟩)) | exact Or.inl rfl | refine Or.inr ?_)),rfl⟩
theorem zU {n:Nd} {v:Val} (hk:5<=n.ag) (h:dL n v=true):(kidsL n v).length=v.ks.length:=by
 unfold dL at h;by_cases c:n.ag=5∨n.ag=6
 ·unfold kidsL;rw [if_pos c];simp
 rw [if_neg c] at h;by_cases c7:n.ag=7
 ·rw [if_pos c7] at h;unfold kidsL;rw [if_neg c,if_pos c7,List.length_map];simp at h;exact h.2
 rw [if_neg c7] at h
 cases ht:oq n v with
 | none=>rw [ht] at h;cases h
 | some e=>rw [ht] at h;simp only [Bool.and_eq_true,decide_eq_true_eq] at h;exact h.2
theorem G5 {ND:List Nd} {ks:List Val} {l:List Int} {e:Nat} {x:Val} {i:Int} (h1:ks[e]? = some x) (h2:l[e]? = some i):fitVs ND (ks.drop e) (l.drop e)=(fitV ND x i && fitVs ND (ks.drop (e + 1)) (l.drop (e + 1))):=by
 rw [drop_cons h1,drop_cons h2,fitVs]
theorem dt {ND:List Nd} {i:Int} {d:Nd} (h:cS ND i=some d):0<=i/\ND[i.toNat]? = some d:=by
 unfold cS at h;split at h
 ·cases h
 ·exact ⟨by omega,h⟩
theorem xA {ND:List Nd} {i:Int} (h:cS ND i=none):i < 0∨(ND.length:Int)<=i:=by
 unfold cS at h;split at h
 ·left;assumption
 ·right;have:=List.getElem?_eq_none_iff.1 h;omega
abbrev WW (PC:List DV) (v:Val) (l:List Int) (e:Nat):St:=
 ⟨[(0,⟨[],.pt PC 0⟩),(5,⟨[],.loc 0 0⟩),(36,⟨[],.sl 1 (ou l) none⟩),(37,⟨[],.v (.int .i64 l.length)⟩),(38,⟨[],.v (.int .i64 e)⟩)],[aM v],[]⟩
theorem xB {S:Sch} {ND:List Nd} {PC:List DV} (hP:fN S ND PC):∀ (k:Nat) (v:Val),v.wt<=k->v.wt<=1099511627776->∀ i:Int,EvP prog 53 [.pt PC 0,.v (.int .i64 i),.agg (aM v)] (.v (.bool (fitV ND v i)))
 | 0,v,h,_=>by have:=v.dh;omega
 | k + 1,.mk q z s ks,h,hb=>fun i=>by
  have ih:=xB hP k;have jm:=dc ks;have cu:=bo ks;have dO:=hb;rw [Val.wt] at h hb;rw [fitV];have ey:=hP.aj;have WX:=hP.Uu;have bS:=hP.ok
  cases hd:cS ND i with
  | none=>
   refine eG 53 [.tmp 6] func53 rfl ntmps53 rfl fun _ _ _ _=>?_;refine cP va (WX i (xA hd)) ?_;exact (rfl:_=_)
  | some d=>
   obtain ⟨h0,hg⟩:=dt hd;obtain ⟨j,rfl⟩:∃ j:Nat,i=j:=⟨i.toNat,by omega⟩;have hg:ND[j]? = some d:=sU hg;have hN:=bS d (mG hg);have B5:=Lc d (.mk q z s ks);have QI:=fun h5=>Ld hN h5 (.mk q z s ks) dO;have hlen:=fun h5=>zU (n:=d) (v:=.mk q z s ks) h5;simp only;obtain ⟨ag,aD,lo,hi,most,af,es⟩:=d;simp only at QI hlen;refine eG 53 [.tmp 6] func53 rfl ntmps53 rfl fun _ _ _ _=>?_;refine cP va (ey j _ hg) ?_;refine br ?_ ?_<;>intro c
   ·have c:ag < 5:=sU c;rw [if_pos c];refine cP Zd B5 ?_;exact (rfl:_=_)
   have c:¬ ag < 5:=sU c;rw [if_neg c];have QI:=QI (by omega);have hlen:=hlen (by omega);generalize kidsL ⟨ag,aD,lo,hi,most,af,es⟩ (.mk q z s ks)=l at QI hlen ⊢;have hzl:=ko l;refine cP Ze QI ?_
   cases hB:dL ⟨ag,aD,lo,hi,most,af,es⟩ (.mk q z s ks) with
   | false=>
    exact (rfl:_=_)
   | true=>
    have hlen:l.length=ks.length:=hlen hB;rw [Bool.true_and];refine lI (fun j st=>∃ e:Nat,st=WW PC (.mk q z s ks) l e/\e<=l.length/\fitVs ND ks l=fitVs ND (ks.drop e) (l.drop e)/\j=l.length - e) ⟨0,rfl,by omega,rfl,rfl⟩ (weak_mk ⟨_,rfl⟩ wA rfl rfl rfl (wB1 hzl)) ?_;rintro _ st ⟨e,rfl,he,aK,rfl⟩;refine br ?_ ?_<;>intro hL
    ·have au:e < l.length:=by have:=hL;simp at this;exact this
     obtain ⟨x,hx⟩:∃ x,ks[e]? = some x:=⟨_,gE (by omega)⟩;obtain ⟨y,hy⟩:=gX au;have QJ:=cE (mG hx);rw [G5 hx hy] at aK;have dF:=ih x (by omega) (by omega) y;obtain ⟨xk,xn,xs,xl⟩:=x;refine iX (qQ hy) ?_;refine iX (bf hx) ?_;refine cP YY dF ?_;refine br ?_ ?_<;>intro g
     ·have g:fitV ND (.mk xk xn xs xl) y=false:=sU g;rw [aK,g];exact (rfl:_=_)
     ·have g:fitV ND (.mk xk xn xs xl) y=true:=sU g;rw [g,Bool.true_and] at aK;exact rE ⟨_,by omega,e + 1,rfl,by omega,aK,rfl⟩ (weak_mk ⟨_,rfl⟩ wA rfl rfl rfl (wB1 (nxt au (by omega))))
    ·have aN:e=l.length:=by have:=hL;simp at this;omega
     rw [List.drop_of_length_le (by omega),List.drop_of_length_le (by omega)] at aK;rw [aK];exact (rfl:_=_)
theorem Le {L N:Nat} {n:Nd} (hn:dB L N n) (v:Val) (j:Nat):EvP prog 151 [.agg (jc n),.agg (aM v),.v (.int .i64 j)] (.v (.int .i64 (Jj n v j))):=by
 have yr:=hn.one;obtain ⟨ag,aD,lo,hi,most,af,es⟩:=n;obtain ⟨q,z,s,ks⟩:=v;have j1:=bZ es;simp only at yr
 have hF:Jj ⟨ag,aD,lo,hi,most,af,es⟩ (.mk q z s ks) j=if ag=5 then (if (j:Int) < most then to0 ⟨ag,aD,lo,hi,most,af,es⟩ else -1)
  else if ag=6 then (if j < 1 then to0 ⟨ag,aD,lo,hi,most,af,es⟩ else -1)
  else if ag=7 then (match es[j]? with | some e=>e.to | none=>-1)
  else if ag=8 then (if j < 1/\0<=z/\z < es.length then (match es[z.toNat]? with | some e=>e.to | none=>-1) else -1)
  else -1:=rfl
 rw [hF];refine eG 66 [.tmp 6] func151 rfl ntmps151 rfl fun _ _ _ _=>?_;refine br ?_ ?_<;>intro c
 ·have c:ag=5:=sU c;rw [if_pos c];obtain ⟨x,jk,_,_⟩:=yr (.inl c);have uP:(fv es)[0]? = some (tP x):=by rw [jk];all_goals rfl
  have ht0:to0 ⟨ag,aD,lo,hi,most,af,es⟩=x.to:=by simp [to0,jk]
  refine br ?_ ?_<;>intro g
  ·have g:(j:Int) < most:=sU g;rw [if_pos g,ht0];refine ⟨_,⟨by omega,uP⟩,?_⟩;exact (rfl:_=_)
  ·have g:¬ (j:Int) < most:=sU g;rw [if_neg g];exact (rfl:_=_)
 have c5:¬ ag=5:=sU c;rw [if_neg c5];refine br ?_ ?_<;>intro c
 ·have c:ag=6:=sU c;rw [if_pos c];obtain ⟨x,jk,_,_⟩:=yr (.inr c);have uP:(fv es)[0]? = some (tP x):=by rw [jk];all_goals rfl
  have ht0:to0 ⟨ag,aD,lo,hi,most,af,es⟩=x.to:=by simp [to0,jk]
  refine br ?_ ?_<;>intro g
  ·have g:j < 1:=by have:=g;simp at this;omega
   rw [if_pos g,ht0];refine ⟨_,⟨by omega,uP⟩,?_⟩;exact (rfl:_=_)
  ·have g:¬ j < 1:=by have:=g;simp at this;omega
   rw [if_neg g];exact (rfl:_=_)
 have c6:¬ ag=6:=sU c;rw [if_neg c6];refine br ?_ ?_<;>intro c
 ·have c:ag=7:=sU c;rw [if_pos c];refine br ?_ ?_<;>intro g
  ·have g:j < es.length:=by have:=g;simp [j1] at this;exact this
   obtain ⟨x,hx⟩:∃ x,es[j]? = some x:=⟨_,gE g⟩;refine iX (bm hx) ?_;rw [hx];exact (rfl:_=_)
  ·have g:es.length<=j:=sW j1 g;rw [List.getElem?_eq_none g];exact (rfl:_=_)
 have c7:¬ ag=7:=sU c;rw [if_neg c7];refine br ?_ ?_<;>intro c
 ·have c:ag=8:=sU c;rw [if_pos c]
  have hc:∀ b:Bool,b=pickB (pickB (decide ((j:Int) < 1)) (decide (0<=z)) false) (decide (z < ((fv es).length:Int))) false->b=decide (j < 1/\0<=z/\z < es.length):=fun b h=>by
   rw [h,j1,pickB_and,pickB_and,Bool.eq_iff_iff];simp;omega
  refine br ?_ ?_<;>intro g
  ·have g:=of_decide_eq_true ((hc _ rfl).symm.trans g);obtain ⟨x,hx⟩:∃ x,es[z.toNat]? = some x:=⟨_,gE (by omega)⟩;rw [if_pos g,hx];refine iX (bm hx) ?_;exact (rfl:_=_)
  ·have g:=of_decide_eq_false ((hc _ rfl).symm.trans g);rw [if_neg g];exact (rfl:_=_)
 ·have c8:¬ ag=8:=sU c;rw [if_neg c8];exact (rfl:_=_)
structure FitF (ND:List Nd) (v:Val) (i:Int) (d:Nd):Prop where
 aj:cS ND i=some d
 k:v.k=d.ag
 leaf:d.ag < 5->v.ks=[]
 enum:d.ag=4->0<=v.n/\v.n < d.af.length
 kids:5<=d.ag->(kidsL d v).length=v.ks.length/\fitVs ND v.ks (kidsL d v)=true
 tag:d.ag=8->∃ e,oq d v=some e/\d.aw[v.n.toNat]? = some e/\0<=v.n/\v.n < d.aw.length/\(e.bare=true↔v.ks=[])
 opt:d.ag=6->v.ks.length<=1
theorem Lf {L:Nat} {ND:List Nd} (bS:∀ n∈ND,dB L ND.length n) {v:Val} {i:Int} (h:fitV ND v i=true):∃ d,FitF ND v i d:=by
 obtain ⟨k,n,s,ks⟩:=v;rw [fitV] at h
 cases hd:cS ND i with
 | none=>rw [hd] at h;cases h
 | some d=>
  rw [hd] at h;simp only at h;have hN:=bS d (mG (dt hd).2);have om:=hN.k1;have B7:=hN.k8;by_cases h5:d.ag < 5
  ·rw [if_pos h5] at h;unfold zR at h;by_cases hc:0 < (Val.mk k n s ks).ks.length∨((Val.mk k n s ks).k≠3/\(Val.mk k n s ks).s≠aq)∨((Val.mk k n s ks).k=3/\(Val.mk k n s ks).n≠0)
   ·rw [if_pos hc] at h;cases h
   rw [if_neg hc] at h
   have Py:ks=[]:=by
    cases ks with
    | nil=>rfl
    | cons a b=>exact (hc (.inl (by simp [Val.ks]))).elim
   have hk:k=d.ag/\(d.ag=4->0<=n/\n < d.af.length):=by
    rcases (show d.ag=1∨d.ag=2∨d.ag=3∨d.ag=4 by omega) with c | c | c | c
    all_goals
     simp [c,Val.k,Val.n] at h;simp only [c];constructor
     ·first | exact of_decide_eq_true h.1 | exact of_decide_eq_true h.1.1
     ·first | (intro;omega) | exact fun _=>⟨of_decide_eq_true h.1.2,of_decide_eq_true h.2⟩
   exact ⟨d,{ aj:=hd,k:=hk.1,leaf:=fun _=>Py,enum:=hk.2,kids:=fun h=>by omega,tag:=fun h=>by omega,opt:=fun h=>by omega }⟩
  ·rw [if_neg h5,Bool.and_eq_true] at h;obtain ⟨hB,hf⟩:=h;have hlen:=zU (by omega) hB;have hB2:=hB;unfold dL at hB;by_cases c:d.ag=5∨d.ag=6
   ·rw [if_pos c] at hB;simp only [Bool.and_eq_true,decide_eq_true_eq] at hB;exact ⟨d,{ aj:=hd,k:=hB.1.2,leaf:=fun h=>by omega,enum:=fun h=>by omega,kids:=fun _=>⟨hlen,hf⟩,tag:=fun h=>by omega,opt:=fun h=>by have:=hB.2;rw [if_pos h] at this;omega }⟩
   rw [if_neg c] at hB;by_cases c7:d.ag=7
   ·rw [if_pos c7] at hB;simp only [Bool.and_eq_true,decide_eq_true_eq] at hB;exact ⟨d,{ aj:=hd,k:=by rw [c7];exact hB.1.2,leaf:=fun h=>by omega,enum:=fun h=>by omega,kids:=fun _=>⟨hlen,hf⟩,tag:=fun h=>by omega,opt:=fun h=>by omega }⟩
   rw [if_neg c7] at hB
   cases ht:oq d (.mk k n s ks) with
   | none=>rw [ht] at hB;cases hB
   | some e=>
    have XK:=ht;unfold oq at XK;split at XK
    ·rename_i hr;have jm:kidsL d (.mk k n s ks)=if e.bare=true then [] else [e.to]:=by unfold kidsL;rw [if_neg c,if_neg c7,ht]
     refine ⟨d,{ aj:=hd,k:=by have:=hr.1;omega,leaf:=fun h=>by omega,enum:=fun h=>by omega,kids:=fun _=>⟨hlen,hf⟩,tag:=fun _=>⟨e,ht,XK,hr.2.1,hr.2.2,?_⟩,opt:=fun h=>by omega }⟩;rw [jm] at hlen;constructor
     ·intro hb;rw [if_pos hb] at hlen;exact List.eq_nil_of_length_eq_zero hlen.symm
     ·intro Py;rw [Py] at hlen;cases hb:e.bare
      ·rw [hb] at hlen;simp at hlen
      ·rfl
    ·cases XK
structure bV where
 k:Int
 n:Int
 s:ByteArray
def l9 (x:bV):List DV:=[.v (.int .i64 x.k),.v (.int .i64 x.n),.v (.string x.s)]
def ch (l:List bV):List (List DV):=l.map l9
theorem gD (l:List bV):(ch l).length=l.length:=by simp [ch]
theorem iG {l:List bV} {e:Nat} {x:bV} (h:l[e]? = some x):(ch l)[e]? = some (l9 x):=by simp [ch,h]
def tS (a b:bV):Bool:=decide (a.k=b.k) && (decide (a.n=b.n) && decide (a.s=b.s))
theorem PD {a b:bV}:tS a b=true↔a=b:=by
 obtain ⟨k,n,s⟩:=a;obtain ⟨k',n',s'⟩:=b;simp only [tS,Bool.and_eq_true,decide_eq_true_eq,bV.mk.injEq]
theorem Lg (a:bV):tS a a=true:=PD.2 rfl
def G6 (a:bV):Array Value:=#[.int .i64 a.k,.int .i64 a.n,.string a.s]
theorem Lh (a b:bV) (w:World):(Op.equal 121 (.agg (G6 a)) (.agg (G6 b))).run prog w = .ok (tS a b) w:=by
 have hf:prog.underlying 121=some (.struct (prog.fieldsOf 121)):=by simp [Program.fieldsOf,Tryz.underlying121]
 have ua:(prog.fieldsOf 121).toList=[⟨ "Kind",3,0,false, "", "",0⟩,⟨ "N",3,1,false, "", "",8⟩,⟨ "Name",9,2,false, "", "",16⟩]:=by simp [Program.fieldsOf,Tryz.underlying121]
 have hs:prog.stoodInHeld 121=false:=by kernel_rfl
 obtain ⟨d,hm⟩:∃ d,Op.maxDepth=d + 1 + 1:=⟨Op.maxDepth - 2,by decide⟩
 have q9:∀ cs:Array Value,∀ off v,cs[off]? = some v->(part 9 cs off).run prog w = .ok v w:=fun cs off v h=>by
  simp [part,Tryz.isAgg9,h]
 have q3:∀ cs:Array Value,∀ off v,cs[off]? = some v->(part 3 cs off).run prog w = .ok v w:=fun cs off v h=>by
  simp [part,Tryz.isAgg3,h]
 have g0:=fun x:bV=>q3 (G6 x) 0 (.int .i64 x.k) rfl;have g1:=fun x:bV=>q3 (G6 x) 1 (.int .i64 x.n) rfl;have g2:=fun x:bV=>q9 (G6 x) 2 (.string x.s) rfl;have r9:=fun a b=>run_equalIn_string w d 9 a b Tryz.underlying9;have r3:=fun a b=>run_equalIn_int w d 3 .i64 .i64 a b Tryz.underlying3
 have e1:(a.s.toList == b.s.toList)=decide (a.s=b.s):=by
  rw [ByteArray.toList_eq,ByteArray.toList_eq];by_cases h:a.s=b.s
  ·rw [h];simp
  ·have:¬ a.s.data=b.s.data:=fun e=>h (ByteArray.ext e);simp [h,this]
 unfold Op.equal;rw [hm,run_equalIn_struct w (d + 1) 121 _ _ hf hs,ua];simp only [Op.eqFields,ne_eq,String.reduceEq,not_false_eq_true,if_true,Sem.run_bind,g0,g1,g2,r9,r3,Result.andThen_ok];by_cases h1:a.k=b.k
 ·by_cases h2:a.n=b.n
  ·by_cases h3:a.s=b.s
   ·simp [h1,h2,h3,tS,Sem.run_pure,r3,r9,g1,g2]
   ·simp [h1,h2,h3,tS,Sem.run_pure,r3,r9,g1,g2,e1]
  ·simp [h1,h2,tS,Sem.run_pure,r3,g1]
 ·simp [h1,tS,Sem.run_pure]
theorem Li (o:BinOp) (ho:o = .eql∨o = .neq) (w:World) (x y:Operand) (vs vs':Array Value):(eqGuard o 121 x y (.agg vs) (.agg vs')).run prog w = .ok () w:=by
 have h:prog.eqGuardType prog.depth 121=false:=by kernel_rfl
 rcases ho with rfl | rfl<;>simp [eqGuard,run_program,h]
theorem SB (x y:Operand) (a b:bV):Fe prog .neq x y 121 (l9 a) (l9 b) (!tS a b):=
 ⟨[.int .i64 a.k,.int .i64 a.n,.string a.s],[.int .i64 b.k,.int .i64 b.n,.string b.s],rfl,rfl,fun w=>⟨Li _ (.inr rfl) w x y _ _,by
  show ((do let r <- Op.equal 121 (.agg (G6 a)) (.agg (G6 b));pure (Value.bool !r)):Sem Value).run prog w=_
  simp only [Sem.run_bind,Lh,Result.andThen_ok,Sem.run_pure]⟩⟩
def begF:List bV->List bV->Bool
 | _,[]=>true
 | [],_ :: _=>false
 | a :: r,b :: q=>tS a b && begF r q
theorem zV:∀ l:List bV,begF l l=true
 | []=>rfl
 | a :: r=>by rw [begF,Lg,zV r];all_goals rfl
theorem SC {a b:List bV} {e:Nat} {y:bV} (h:b[e]? = some y):begF (a.drop e) (b.drop e)=match a[e]? with | none=>false | some x=>tS x y && begF (a.drop (e + 1)) (b.drop (e + 1)):=by
 have hb:b.drop e=y :: b.drop (e + 1):=by
  obtain ⟨h1,h2⟩:=List.getElem?_eq_some_iff.1 h;rw [List.drop_eq_getElem_cons h1,h2]
 rw [hb]
 cases ha:a[e]? with
 | none=>
  rw [List.drop_eq_nil_of_le (List.getElem?_eq_none_iff.1 ha)];all_goals rfl
 | some x=>
  obtain ⟨h1,h2⟩:=List.getElem?_eq_some_iff.1 ha;rw [List.drop_eq_getElem_cons h1,h2];all_goals rfl
abbrev G7 (a b:List bV) (e:Nat):St:=⟨[(0,⟨[],.sl 3 (ch a) none⟩),(1,⟨[],.sl 3 (ch b) none⟩),(5,⟨[],.v (.int .i64 e)⟩)],[],[]⟩
theorem yt (a b:List bV) (hl:b.length<=1099511627776):EvP prog 100 [.sl 3 (ch a) none,.sl 3 (ch b) none] (.v (.bool (begF a b))):=by
 have hda:=gD a;have hdb:=gD b;refine eG 27 [.tmp 4] func100 rfl ntmps100 rfl fun _ _ _ _=>?_;refine lI (fun j st=>∃ e:Nat,st=G7 a b e/\e<=b.length/\begF a b=begF (a.drop e) (b.drop e)/\j=b.length - e) ⟨0,rfl,by omega,rfl,rfl⟩ (weak_mk ⟨_,rfl⟩ wA rfl rfl rfl wB) ?_;rintro j st ⟨e,rfl,he,hb,rfl⟩;refine br ?_ ?_<;>intro hL
 ·have au:e < b.length:=by have:=hL;simp [hdb] at this;exact this
  obtain ⟨y,hy⟩:=gX au;rw [SC hy] at hb;refine dI ?_;refine br ?_ ?_<;>intro g
  ·have g:e < a.length:=sW hda g;obtain ⟨x,hx⟩:∃ x,a[e]? = some x:=⟨_,gE g⟩;rw [hx] at hb;simp only at hb;refine ⟨_,⟨by omega,iG hx⟩,_,⟨by omega,iG hy⟩,_,SB _ _ x y,?_⟩
   cases hc:tS x y with
   | true=>
    rw [hc] at hb;exact rE ⟨_,by omega,e + 1,rfl,by omega,by simpa using hb,rfl⟩ (weak_mk ⟨_,rfl⟩ wA rfl rfl rfl (wB1 (nxt au (by omega))))
   | false=>
    rw [hc] at hb;exact congrArg (fun b=>DV.v (.bool b)) hb.symm
  ·have g:a[e]? = none:=List.getElem?_eq_none (by have:=g;simp [hda] at this;omega);rw [g] at hb;exact congrArg (fun b=>DV.v (.bool b)) hb.symm
 ·have aN:e=b.length:=sW hdb hL;subst aN;rw [List.drop_length] at hb;have:begF (a.drop b.length) []=true:=by cases a.drop b.length<;>rfl
  rw [this] at hb;exact congrArg (fun b=>DV.v (.bool b)) hb.symm
theorem Eh (l:List bV) (hl:l.length<=1099511627776):EvP prog 48 [.sl 3 (ch l) none,.sl 3 (ch l) none] (.v (.bool true)):=by
 have hb:=yt l l hl;rw [zV] at hb;refine eG 15 [.tmp 4] func48 rfl ntmps48 rfl fun _ _ _ _=>?_;refine br (fun _=>?_) (fun g=>absurd g (by simp));refine cP Zc hb ?_;refine (congrArg (fun b=>DV.v (.bool b)) ?_:_=_);simp [pickB_and]
def stpR (d:Nd) (v:Val) (j:Nat):bV:=
 if d.ag=5 then ⟨2,j,aq⟩
 else if d.ag=6 then ⟨4,0,aq⟩
 else if d.ag=7 then ⟨1,0,match d.aw[j]? with | some e=>e.name | none=>aq⟩
 else ⟨5,0,match d.aw[v.n.toNat]? with | some e=>e.name | none=>aq⟩
theorem Ei (d:Nd) (v:Val) (j:Nat) (h7:d.ag=7->j < d.aw.length) (h8:d.ag≠5->d.ag≠6->d.ag≠7->0<=v.n/\v.n < d.aw.length) :
  EvP prog 47 [.agg (jc d),.agg (aM v),.v (.int .i64 j)] (.agg (l9 (stpR d v j))):=by
 obtain ⟨ag,aD,lo,hi,most,af,es⟩:=d;obtain ⟨q,z,s,ks⟩:=v;have j1:=bZ es;simp only [Val.n] at h7 h8
 have hS:stpR ⟨ag,aD,lo,hi,most,af,es⟩ (.mk q z s ks) j=if ag=5 then ⟨2,j,aq⟩
  else if ag=6 then ⟨4,0,aq⟩
  else if ag=7 then ⟨1,0,match es[j]? with | some e=>e.name | none=>aq⟩
  else ⟨5,0,match es[z.toNat]? with | some e=>e.name | none=>aq⟩:=rfl
 rw [hS];refine eG 33 [.cell 6 121] func47 rfl ntmps47 rfl fun _ _ _ _=>?_;refine br ?_ ?_<;>intro c
 ·have c:ag=5:=sU c;rw [if_pos c];exact ⟨_,ax,rfl⟩
 have c5:¬ ag=5:=sU c;rw [if_neg c5];refine br ?_ ?_<;>intro c
 ·have c:ag=6:=sU c;rw [if_pos c];exact ⟨_,ax,rfl⟩
 have c6:¬ ag=6:=sU c;rw [if_neg c6];refine br ?_ ?_<;>intro c
 ·have c:ag=7:=sU c;rw [if_pos c];obtain ⟨x,hx⟩:∃ x,es[j]? = some x:=⟨_,gE (h7 c)⟩;simp only [hx];refine iX (bm hx) ?_;exact ⟨_,ax,rfl⟩
 have c7:¬ ag=7:=sU c;rw [if_neg c7];obtain ⟨z0,z1⟩:=h8 c5 c6 c7;obtain ⟨x,hx⟩:∃ x,es[z.toNat]? = some x:=⟨_,gE (by omega)⟩;simp only [hx];refine iX (bm hx) ?_;exact ⟨_,ax,rfl⟩
def PE (f:Nat->Nat->Bool) (n:Nat) (a b:Int):Bool:=decide (0<=a) && decide (a < n) && decide (0<=b) && decide (b < n) && f a.toNat b.toNat
def ta (f:Nat->Nat->Bool) (n a b:Nat):Nat:=(eW f n a b).getD 0
def ov (f:Nat->Nat->Bool) (n:Nat):Nat:=(eI f n []).getD 0
theorem PF {f:Nat->Nat->Bool} {n a b:Nat} (ha:a < n) (hb:b < n):PE f n a b=f a b:=by simp [PE,ha,hb]
theorem xC {f:Nat->Nat->Bool} {n a b:Nat} (h:dN f n) (ha:a < n) (hb:b < n):eW f n a b=some (ta f n a b):=by
 obtain ⟨k,hk⟩:=h.jn a b ha hb;simp [ta,hk]
theorem xD {f:Nat->Nat->Bool} {n a b:Nat} (h:dN f n) (ha:a < n) (hb:b < n):ta f n a b < n:=(o6 (xC h ha hb)).1
theorem Ej {f:Nat->Nat->Bool} {n:Nat} (h:dN f n):QK f n:=⟨h.rfl',h.Gb⟩
theorem xE {f:Nat->Nat->Bool} {n a b:Nat} (h:dN f n) (ha:a < n) (hb:b < n):jV f n a b=some (ta f n a b):=by
 have h1:=xC h ha hb;have h2:=l6 (n:=n) (a:=a) (b:=b) (Ej h);rw [h1] at h2
 cases hr:jV f n a b with
 | none=>rw [hr] at h2;simp at h2
 | some c=>
  obtain ⟨h3,h4,_⟩:=dJ hr;have:=DG (Ej h) h3 h4;rw [h1] at this;exact this.symm
theorem sw {f:Nat->Nat->Bool} {n:Nat} (h:dN f n):eI f n []=some (ov f n):=by
 obtain ⟨c,hc⟩:=s6 h [] (fun _ h=>by cases h);simp [ov,hc]
theorem BE {f:Nat->Nat->Bool} {n:Nat} (h:dN f n):ov f n < n:=nY (sw h)
section
variable (af:List ByteArray) (tc:List DV) (rows:List Nat) (js:List Int)
theorem Lj (hr:ef rows) (hl:rows.length=af.length) (a b:Int) :
  EvP prog 157 [.pt (ia af tc rows js) 0,.v (.int .i64 a),.v (.int .i64 b)] (.v (.bool (hasB rows a b))):=by
 have h1:=zk af tc rows js;have h2:=kQ rows hr a b;have hB:hasB rows a b=(decide (0<=a) && decide (a < af.length) && decide (0<=b) && decide (b < af.length) && aV rows a.toNat b.toNat):=by rw [<- hl];all_goals rfl
 generalize hasB rows a b=h at h2 hB ⊢;refine eG 24 [.tmp 6] func157 rfl ntmps157 rfl fun _ _ _ _=>?_;refine cP yS (h1 a) ?_;refine br ?_ ?_<;>intro g
 ·refine cP yS (h1 b) ?_;refine br ?_ ?_<;>intro g2
  ·refine cP CF h2 ?_;exact (rfl:_=_)
  ·refine (congrArg (fun b=>DV.v (.bool b)) ?_:_=_);rw [hB];simp only [Bool.and_assoc] at g g2 ⊢;cases hx:decide (0<=b)<;>cases hy:decide (b < af.length)<;>simp_all [pickB]
 ·refine (congrArg (fun b=>DV.v (.bool b)) ?_:_=_);rw [hB];cases hx:decide (0<=a)<;>cases hy:decide (a < af.length)<;>simp_all [pickB]
end
structure Lk (n:Nat) (f:Nat->Nat->Bool) (af:List ByteArray) (LC:List DV):Prop where
 ok:dN f n
 n32:n<=32
 nl:af.length=n
 len:EvP prog 57 [.pt LC 0] (.v (.int .i64 n))
 leq:∀ a b:Int,EvP prog 157 [.pt LC 0,.v (.int .i64 a),.v (.int .i64 b)] (.v (.bool (PE f n a b)))
 join:∀ a b:Nat,a < n->b < n->EvP prog 141 [.pt LC 0,.v (.int .i64 a),.v (.int .i64 b)] (.v (.int .i64 (ta f n a b:Nat)))
 bot:EvP prog 55 [.pt LC 0] (.v (.int .i64 (ov f n:Nat)))
abbrev bK (S:Sch):Nat->Nat->Bool:=eO S.ae.length (di (ay S.ae) S.order)
theorem fN.SD {S:Sch} {ND:List Nd} {PC:List DV} (hP:fN S ND PC):∃ LC,EvP prog 56 [.pt PC 0] (.pt LC 0)/\Lk S.ae.length (bK S) (ay S.ae) LC:=by
 obtain ⟨aE,js,hX,hl⟩:=hP.lat;have fV:=dq S.ae;have B5:=(hP.fine).lat;obtain ⟨hL,On⟩:=kY B5;have hpr:∀ p∈di (ay S.ae) S.order,p.1 < S.ae.length/\p.2 < S.ae.length:=by have:=nX (pa B5).2.2.1;rwa [dq] at this
 have gG:(ej S aE js).rows.length=S.ae.length:=by
  show (closeR (fb S.ae.length (di (ay S.ae) S.order)) S.ae.length).length=_;rw [fl,jP]
 have hr:ef (ej S aE js).rows:=kR (AX (by omega) _ hpr) _ (by omega)
 refine ⟨_,hl,{
  ok:=hL,n32:=On,nl:=fV
  len:=?_
  leq:=fun a b=>?_
  join:=fun a b ha hb=>?_
  bot:=?_
  }⟩
 ·have:=rU (ej S aE js).af (cJ (ej S aE js).af (ej S aE js).aE) (ej S aE js).rows (ej S aE js).js
  rwa [show (ej S aE js).af.length=S.ae.length from fV] at this
 ·have:=Lj (ej S aE js).af (cJ (ej S aE js).af (ej S aE js).aE) (ej S aE js).rows (ej S aE js).js hr (by rw [gG];exact fV.symm) a b
  have he:hasB (ej S aE js).rows a b=PE (bK S) S.ae.length a b:=by
   unfold hasB PE;rw [gG];all_goals rfl
  rwa [he] at this
 ·have hz:=(hX.hj a b (by rw [show (ej S aE js).af.length=S.ae.length from fV];exact ha) (by rw [show (ej S aE js).af.length=S.ae.length from fV];exact hb)).1;rw [show (ej S aE js).af.length=S.ae.length from fV,show (ej S aE js).f=bK S from rfl,xC hL ha hb] at hz;exact vY (ej S aE js).af (cJ (ej S aE js).af (ej S aE js).aE) (ej S aE js).rows (ej S aE js).js a b _ (by rw [show (ej S aE js).af.length=S.ae.length from fV];exact ha) (by rw [show (ej S aE js).af.length=S.ae.length from fV];exact hb) hX.hn hz
 ·have:=qw (ej S aE js).af (cJ (ej S aE js).af (ej S aE js).aE) (ej S aE js).rows (ej S aE js).js hX.hL hX.hn hX.hj
  rwa [show (ej S aE js).af.length=S.ae.length from fV,show (ej S aE js).f=bK S from rfl,sw hL] at this
def du (s:bV):Bool:=
 if s.k=1∨s.k=5 then decide (s.n=0) && bd s.s
 else if s.k=2 then decide (0<=s.n) && decide (s.s=⟨#[]⟩)
 else if s.k=3∨s.k=4 then decide (s.n=0) && decide (s.s=⟨#[]⟩) else false
def kI (l:List bV):Bool:=decide (l.length<=64) && l.all du
theorem G8 (s:bV):kI [s]=du s:=by simp [kI]
def xF (d:Nd) (s:bV) (e:Ed):Bool:=
 (decide (s.k=1) && decide (d.ag=7) && (decide (e.name=s.s) && !e.bare)) || (decide (s.k=5) && decide (d.ag=8) && (decide (e.name=s.s) && !e.bare)) ||
  ((decide (s.k=2) || decide (s.k=3)) && decide (d.ag=5) && decide (s.n < d.most)) || (decide (s.k=4) && decide (d.ag=6))
def G9 (d:Nd) (s:bV) (e:Ed):Bool:=
 if s.k=1 then decide (d.ag=7) && decide (e.name=s.s)
 else if s.k=5 then decide (d.ag=8) && decide (e.name=s.s) && !e.bare
 else if s.k=2 then decide (d.ag=5) && decide (s.n < d.most)
 else if s.k=3 then decide (d.ag=5) && decide (0 < d.most)
 else decide (d.ag=6)
theorem PG {s:bV} (h:du s=true):s.k=1∨s.k=2∨s.k=3∨s.k=4∨s.k=5:=by
 unfold du at h;split at h
 ·omega
 ·split at h
  ·omega
  ·split at h
   ·omega
   ·cases h
theorem Jm {L N:Nat} {d:Nd} (hN:dB L N d) {s:bV} (hr:du s=true) {e:Ed} (he:e∈d.aw):G9 d s e=xF d s e:=by
 have hk:=PG hr;have hb:=hN.bare e he;unfold G9 xF;rcases hk with h | h | h | h | h
 ·simp only [h];by_cases h7:d.ag=7
  ·have:e.bare=false:=by
    cases hx:e.bare
    ·rfl
    ·have:=hb hx;omega
   simp [h7,this]
  ·simp [h7]
 ·simp [h]
 ·have hn:s.n=0:=by
   unfold du at hr;rw [h] at hr;simp at hr;exact hr.1
  simp [h,hn]
 ·simp [h]
 ·simp [h,Bool.and_assoc]
def zW (d:Nd) (s:bV) (k:Nat):Bool:=match d.aw[k]? with | some e=>xF d s e | none=>false
def xG (d:Nd) (s:bV):Option Nat:=if du s=true then bR (zW d s) d.aw.length else none
theorem Ha {d:Nd} {s:bV} {k:Nat} (h:xG d s=some k):∃ e,d.aw[k]? = some e/\xF d s e=true/\du s=true:=by
 unfold xG at h;split at h
 ·rename_i hr;obtain ⟨h1,h2,_⟩:=dJ h;refine ⟨d.aw[k],gE h1,?_,hr⟩;unfold zW at h2;rw [gE h1] at h2;exact h2
 ·cases h
def walkV (ND:List Nd) (f:Nat->Nat->Bool) (n:Nat):List bV->Nat->Nat->Option (Nat × Nat)
 | [],i,a=>some (i,a)
 | s :: p,i,a=>match ND[i]? with
  | none=>none
  | some d=>match xG d s with
   | none=>none
   | some k=>match d.aw[k]? with
    | none=>none
    | some e=>walkV ND f n p e.to.toNat (ta f n a e.label.toNat)
theorem xH {L N:Nat} {d:Nd} (hN:dB L N d) {s:bV} {e:Ed} (he:e∈d.aw) (h:xF d s e=true):e.bare=false:=by
 cases hb:e.bare
 ·rfl
 ·have h8:=hN.bare e he hb;unfold xF at h;simp [hb,h8] at h
theorem gF {L:Nat} {ND:List Nd} {d:Nd} (hN:dB L ND.length d) {e:Ed} (he:e∈d.aw):(e.bare=false->e.to=(e.to.toNat:Nat)/\e.to.toNat < ND.length)/\(e.label=(e.label.toNat:Nat)/\e.label.toNat < L)/\(e.seen=(e.seen.toNat:Nat)/\e.seen.toNat < L):=by
 have hE:=hN.mY e he;refine ⟨fun hb=>?_,?_,?_⟩
 ·obtain ⟨k,h1,h2⟩:=hE.to1 hb;rw [h1];exact ⟨by simp,by simpa using h2⟩
 ·obtain ⟨k,h1,h2⟩:=hE.lab;rw [h1];exact ⟨by simp,by simpa using h2⟩
 ·obtain ⟨k,h1,h2⟩:=hE.seen;rw [h1];exact ⟨by simp,by simpa using h2⟩
theorem Ek {f:Nat->Nat->Bool} {L:Nat} (hL:dN f L) {ND:List Nd} (bS:∀ n∈ND,dB L ND.length n):∀ (p:List bV) (i a:Nat) {j b:Nat},i < ND.length->a < L->walkV ND f L p i a=some (j,b)->j < ND.length/\b < L
 | [],i,a,j,b,hi,ha,h=>by
  rw [walkV] at h;simp only [oI,Prod.mk.injEq] at h;omega
 | s :: p,i,a,j,b,hi,ha,h=>by
  rw [walkV,gE hi] at h;simp only at h;split at h
  ·cases h
  ·rename_i k hk;obtain ⟨e,he,hB,_⟩:=Ha hk;rw [he] at h;simp only at h;have hm:=mG he;have hd:=bS _ (List.getElem_mem hi);obtain ⟨h1,h2,_⟩:=gF hd hm;exact Ek hL bS p _ _ (h1 (xH hd hm hB)).2 (xD hL ha h2.2) h
def sx (f:Nat->Nat->Bool) (n b9:Nat) (d:Nd) (e:Ed) (a:Nat):Nat:=
 if f (if d.ag < 7 then a else ta f n a e.label.toNat) b9=true then 2 else if e.ck≠0/\f (ta f n a e.seen.toNat) b9=true then 1 else 0
section
variable (ND:List Nd) (f:Nat->Nat->Bool) (n b9 dep:Nat)
end
def cd (d:Nd) (z:Int) (j:Nat):Option Ed:=if d.ag=7 then d.aw[j]? else if d.ag=8 then d.aw[z.toNat]? else d.aw[0]?
def mr (f:Nat->Nat->Bool) (n:Nat) (d:Nd) (e:Ed) (a:Nat):Nat:=if d.ag < 7 then a else ta f n a e.label.toNat
section
variable (ND:List Nd) (f:Nat->Nat->Bool) (L b9:Nat)
end
section
variable {ND:List Nd} {f:Nat->Nat->Bool} {L b9:Nat}
theorem Ll (u:Nat) (l:List UInt8):(headL u l).length<=l.length:=(K1 u l).length_le
theorem PH {N:Nat} {d:Nd} {e:Ed} (hN:dB N ND.length d) (he:e∈d.aw) (hb:e.bare=false):0<=e.to/\∃ d',cS ND e.to=some d':=by
 obtain ⟨k,hk,au⟩:=(hN.mY e he).to1 hb;refine ⟨by omega,ND[k],?_⟩;unfold cS;rw [if_neg (by omega),hk,Int.toNat_natCast,gE au]
end
section
variable (ND:List Nd) (f:Nat->Nat->Bool) (L b9:Nat)
end
section
variable {ND:List Nd} {f:Nat->Nat->Bool} {L b9:Nat}
theorem SE (d:Nd) (e:Ed) (a:Nat):sx f L b9 d e a=if f (mr f L d e a) b9=true then 2 else if e.ck≠0/\f (ta f L a e.seen.toNat) b9=true then 1 else 0:=rfl
theorem Jn {N:Nat} {d:Nd} {e:Ed} {a:Nat} (hL:dN f L) (hN:dB L N d) (hm:e∈d.aw) (ha:a < L):mr f L d e a < L:=by
 obtain ⟨k,hk,hl⟩:=(hN.mY e hm).lab;unfold mr;split
 ·exact ha
 ·exact xD hL ha (by rw [hk,Int.toNat_natCast];exact hl)
end
def cm (v:Val) (k n:Int) (s:ByteArray):Bool:=decide (v.k=k) && decide (v.n=n) && decide (v.s=s) && decide (v.ks.length=0)
def iH (e:Ed) (d:Nd) (v:Val):Bool:=
 if e.ck=1/\d.ag=2 then
  (if cm v 9 e.wide aq=true then !(bH d.lo e.cn).2
   else cm v 10 v.n aq && decide (v.n % e.cn=0) && (bH d.hi e.cn).2 && decide (v.n<=(bH d.hi e.cn).1) && (!(bH d.lo e.cn).2 || decide ((bH d.lo e.cn).1<=v.n)))
 else if e.ck=2/\d.ag=3 then cm v 11 0 v.s && decide ((v.s.size:Int)<=d.most) && decide (headL e.cn.toNat (tx v.s)=tx v.s)
 else if e.ck=3/\d.ag=5 then cm v 12 v.n aq && decide (0<=v.n) && decide (v.n<=d.most)
 else cm v 9 e.wide aq
def shellF (d:Nd) (v:Val):Bool:=
 if v.k≠d.ag∨v.s≠aq∨(d.ag≠8/\v.n≠0) then false
 else if d.ag=5 then decide ((v.ks.length:Int)<=d.most)
 else if d.ag=6 then decide (v.ks.length < 2)
 else if d.ag=7 then decide (v.ks.length=d.aw.length)
 else if v.n < 0∨(d.aw.length:Int)<=v.n then false
 else match d.aw[v.n.toNat]? with
  | none=>false
  | some e=>if e.bare=true then decide (v.ks.length=0) else decide (v.ks.length=1)
section
variable (ND:List Nd) (f:Nat->Nat->Bool) (L b9:Nat)
mutual
def seeV:Val->Int->Nat->Bool
 | .mk k n s ks,i,a=>match cS ND i with
  | none=>false
  | some d=>if d.ag < 5 then fitV ND (.mk k n s ks) i else shellF d (.mk k n s ks) && seeVs ks d n a 0
def seeVs:List Val->Nd->Int->Nat->Nat->Bool
 | [],_,_,_,_=>true
 | x :: r,d,z,a,j=>(match cd d z j with
  | none=>false
  | some e=>if sx f L b9 d e a=2 then seeV x e.to (mr f L d e a) else if sx f L b9 d e a=1 then (match cS ND e.to with | none=>false | some t=>iH e t x) else cm x 9 e.wide aq) && seeVs r d z a (j + 1)
end
end
section
variable {ND:List Nd} {f:Nat->Nat->Bool} {L b9:Nat}
theorem Hb {ks:List Val} {d:Nd} {z:Int} {a j m:Nat} {x:Val} (h:ks[m]? = some x):seeVs ND f L b9 (ks.drop m) d z a j=((match cd d z j with
  | none=>false
  | some e=>if sx f L b9 d e a=2 then seeV ND f L b9 x e.to (mr f L d e a) else if sx f L b9 d e a=1 then (match cS ND e.to with | none=>false | some t=>iH e t x) else cm x 9 e.wide aq) && seeVs ND f L b9 (ks.drop (m + 1)) d z a (j + 1)):=by
 obtain ⟨hm,rfl⟩:=List.getElem?_eq_some_iff.1 h;rw [List.drop_eq_getElem_cons hm,seeVs]
structure aby (ND:List Nd) (d:Nd) (z:Int) (j:Nat) (e:Ed):Prop where
 mY:cd d z j=some e
 mem:e∈d.aw
 bare:e.bare=false
theorem sy {N:Nat} {d:Nd} (hN:dB N ND.length d) (h5:5<=d.ag) {v:Val} (h:shellF d v=true) {m:Nat} (hm:m < v.ks.length):∃ e,aby ND d v.n m e:=by
 have h8:=hN.k8;unfold shellF at h;split at h
 ·cases h
 rename_i hc
 have Ig:v.k=d.ag:=by
  by_cases c:v.k=d.ag
  ·exact c
  ·exact absurd (.inl c) hc
 rcases (show (d.ag=5∨d.ag=6)∨d.ag=7∨d.ag=8 by omega) with c | c | c
 ·obtain ⟨e,he,hb,_⟩:=hN.one c;refine ⟨e,?_,by rw [he];exact List.mem_singleton_self e,hb⟩;unfold cd;rw [if_neg (by omega),if_neg (by omega),he];rfl
 ·rw [if_neg (by omega),if_neg (by omega),if_pos c,decide_eq_true_iff] at h;obtain ⟨e,he⟩:∃ e,d.aw[m]? = some e:=⟨_,gE (by omega)⟩;refine ⟨e,?_,mG he,?_⟩
  ·unfold cd;rw [if_pos c,he]
  ·cases hb:e.bare
   ·rfl
   ·have:=hN.bare e (mG he) hb;omega
 ·rw [if_neg (by omega),if_neg (by omega),if_neg (by omega)] at h;split at h
  ·cases h
  cases he:d.aw[v.n.toNat]? with
  | none=>rw [he] at h;cases h
  | some e=>
   rw [he] at h;simp only at h;refine ⟨e,?_,mG he,?_⟩
   ·unfold cd;rw [if_neg (by omega),if_pos c,he]
   ·cases hb:e.bare
    ·rfl
    ·rw [if_pos hb,decide_eq_true_iff] at h;omega
theorem Hc {v:Val} {k n:Int} {s:ByteArray}:cm v k n s=true↔v = .mk k n s []:=by
 unfold cm;rw [Bool.and_eq_true,Bool.and_eq_true,Bool.and_eq_true,decide_eq_true_iff,decide_eq_true_iff,decide_eq_true_iff,decide_eq_true_iff,List.length_eq_zero_iff];obtain ⟨q,z,t,ks⟩:=v;rw [Val.mk.injEq];constructor
 ·intro ⟨⟨⟨a,b⟩,c⟩,d⟩;exact ⟨a,b,c,d⟩
 ·intro ⟨a,b,c,d⟩;exact ⟨⟨⟨a,b⟩,c⟩,d⟩
theorem PI {n u:Int} (hu:1<=u):bH n u=if n - n % u < -9223372036854775808 then (0,false) else (n - n % u,true):=by
 unfold bH;rw [if_neg (by omega)]
end
def cw (v:Val):Bool:=decide (v.k=2) || (decide (v.k=3) || ((decide (v.k=9) && (decide (1<=v.n) && decide (v.n<=64))) || (decide (10<=v.k) && decide (v.k<=12))))
def ny (v:Val):List UInt8:=
 if v.k=2 then gO v.n else if v.k=3 then xj (tx v.s) else if v.k=9 then 60 :: (List.replicate v.n.toNat 42 ++ [62])
 else if v.k=10 then [60,126] ++ gO v.n ++ [62] else if v.k=11 then [60] ++ xj (tx v.s) ++ [46,46,62] else [60,35] ++ gO v.n ++ [62]
def ez (v:Val):List UInt8:=if cw v=true then ny v else []
def nmE (d:Nd) (j:Nat):List UInt8:=match d.aw[j]? with | some e=>tx e.name | none=>[]
def fO (d:Nd) (v:Val):List UInt8:=
 if v.k=1 then (if v.n=1 then [116,114,117,101] else [102,97,108,115,101])
 else if v.k=4 then (match d.af[v.n.toNat]? with | some s=>tx s | none=>[])
 else if v.k=5 then [91] else if v.k=6 then (if v.ks=[] then [110,111,110,101] else [115,111,109,101,40]) else if v.k=7 then [123]
 else if v.k=8 then (if v.ks=[] then nmE d v.n.toNat else nmE d v.n.toNat ++ [40])
 else ez v
def nz (v:Val):List UInt8:=if v.k=5 then [93] else if v.k=7 then [125] else if v.ks=[] then [] else [41]
section
variable (ND:List Nd)
mutual
def textV:Val->Int->List UInt8
 | .mk k n s ks,i=>match cS ND i with
  | none=>[]
  | some d=>fO d (.mk k n s ks) ++ textVs ks d n 0 ++ nz (.mk k n s ks)
def textVs:List Val->Nd->Int->Nat->List UInt8
 | [],_,_,_=>[]
 | x :: r,d,z,j=>((if j=0 then [] else [44,32]) ++ (match cd d z j with
  | none=>[]
  | some e=>(if d.ag=7 then tx e.name ++ [58,32] else []) ++ textV x e.to)) ++ textVs r d z (j + 1)
end
mutual
def iI:Val->Int->Bool
 | .mk k n s ks,i=>match cS ND i with
  | none=>false
  | some d=>if 9<=k then cw (.mk k n s ks) && decide (ks=[]) else if k≠d.ag then false else if d.ag < 5 then decide (ks=[]) && (decide (k≠4) || decide (0<=n/\n < d.af.length)) else shellF d (.mk k n s ks) && fQ ks d n 0
def fQ:List Val->Nd->Int->Nat->Bool
 | [],_,_,_=>true
 | x :: r,d,z,j=>(match cd d z j with
  | none=>false
  | some e=>iI x e.to) && fQ r d z (j + 1)
end
end
section
variable {ND:List Nd}
theorem td:∀ {l:List Val} {d:Nd} {z:Int} {j:Nat} {x:Val},textVs ND (l ++ [x]) d z j=textVs ND l d z j ++ ((if j + l.length=0 then [] else [44,32]) ++ (match cd d z (j + l.length) with
  | none=>[]
  | some e=>(if d.ag=7 then tx e.name ++ [58,32] else []) ++ textV ND x e.to))
 | [],d,z,j,x=>by simp only [List.nil_append,textVs,List.append_nil,List.length_nil,Nat.add_zero]
 | y :: r,d,z,j,x=>by
  rw [List.cons_append,textVs,textVs,td];simp only [List.length_cons];rw [show j + 1 + r.length=j + (r.length + 1) by omega];simp only [List.append_assoc]
theorem El {ks:List Val} {d:Nd} {z:Int} {e:Nat} {x:Val} {ed:Ed} (h:ks[e]? = some x) (he:cd d z e=some ed) :
  textVs ND (ks.take (e + 1)) d z 0=textVs ND (ks.take e) d z 0 ++ ((if e=0 then [] else [44,32]) ++ ((if d.ag=7 then tx ed.name ++ [58,32] else []) ++ textV ND x ed.to)):=by
 have hl:(ks.take e).length=e:=by rw [List.length_take];have:=(gS h).1;omega
 rw [List.take_add_one,h];show textVs ND (ks.take e ++ [x]) d z 0=_;rw [td,hl,Nat.zero_add,he]
theorem lj:∀ {ks:List Val} {d:Nd} {z:Int} {j m:Nat} {x:Val},fQ ND ks d z j=true->ks[m]? = some x->∃ e,cd d z (j + m)=some e/\iI ND x e.to=true
 | [],_,_,_,_,_,_,h=>by simp at h
 | y :: r,d,z,j,m,x,hw,h=>by
  rw [fQ,Bool.and_eq_true] at hw
  cases m with
  | zero=>
   simp only [List.getElem?_cons_zero,oI] at h;subst h;rw [Nat.add_zero]
   cases he:cd d z j with
   | none=>rw [he] at hw;exact absurd hw.1 (by simp)
   | some e=>rw [he] at hw;exact ⟨e,rfl,hw.1⟩
  | succ m=>
   rw [show j + (m + 1)=j + 1 + m by omega];exact lj hw.2 (sU h)
theorem Jo {z:Int} (h:rK z):(gO z).length<=21:=vy h.1 h.2
theorem Lm {v:Val} (h:rK v.n) (hk:cw v=true):(ny v).length<=24 + 64 + 12 * v.s.size:=by
 have h1:=Jo h;have h2:=xm (tx v.s);rw [bB] at h2;unfold ny
 repeat' split
 all_goals (try simp only [List.length_append,List.length_cons,List.length_nil,List.length_replicate])
 all_goals (try omega)
 rename_i c2 c3 c9;simp [cw,c2,c3,c9] at hk;omega
end
end Go.Proofs.YtffhgcbfpidfiaaGreat
set_option maxRecDepth 100000
namespace Go.Proofs
open Go.Shelf
def Tryz.lays105_ren:Go.Shelf.Ren:=⟨fun | 105=>238 | 212=>265 | 99=>266 | 165=>267 | 166=>58 | 170=>268 | 169=>60 | 263=>279 | 264=>280 | 206=>281 | 240=>115 | 241=>282 | 276=>161 | 277=>287 | n=>n,fun | 9=>9 | 3=>3 | 4=>4 | 20=>20 | 0=>0 | 46=>274 | 109=>342 | 5=>5 | 72=>135 | 76=>138 | 51=>306 | 146=>356 | 53=>227 | 148=>358 | 70=>132 | 37=>133 | 75=>137 | 127=>209 | 164=>252 | 80=>141 | n=>n,fun | n=>n⟩
theorem Tryz.lays105:Go.Proofs.Lays.n105 prog Tryz.lays105_ren:={
 mixed:=by kernel_rfl
 f99:=func266.trans (congrArg some (by kernel_rfl))
 f105:=func238.trans (congrArg some (by kernel_rfl))
 f165:=func267.trans (congrArg some (by kernel_rfl))
 f166:=func58.trans (congrArg some (by kernel_rfl))
 f169:=func60.trans (congrArg some (by kernel_rfl))
 f170:=func268.trans (congrArg some (by kernel_rfl))
 f206:=func281.trans (congrArg some (by kernel_rfl))
 f212:=func265.trans (congrArg some (by kernel_rfl))
 f240:=func115.trans (congrArg some (by kernel_rfl))
 f241:=func282.trans (congrArg some (by kernel_rfl))
 f263:=func279.trans (congrArg some (by kernel_rfl))
 f264:=func280.trans (congrArg some (by kernel_rfl))
 f276:=func161.trans (congrArg some (by kernel_rfl))
 f277:=func287.trans (congrArg some (by kernel_rfl))
 t0:=Tryz.underlying0
 a0:=Tryz.isAgg0
 z0:=Tryz.sizeOf0
 v0:=Tryz.zeroValue0
 t3:=Tryz.underlying3
 a3:=Tryz.isAgg3
 z3:=Tryz.sizeOf3
 v3:=Tryz.zeroValue3
 t4:=Tryz.underlying4
 a4:=Tryz.isAgg4
 z4:=Tryz.sizeOf4
 v4:=Tryz.zeroValue4
 t5:=Tryz.underlying5
 a5:=Tryz.isAgg5
 z5:=Tryz.sizeOf5
 v5:=Tryz.zeroValue5
 t9:=Tryz.underlying9
 a9:=Tryz.isAgg9
 z9:=Tryz.sizeOf9
 v9:=Tryz.zeroValue9
 t20:=Tryz.underlying20
 a20:=Tryz.isAgg20
 z20:=Tryz.sizeOf20
 v20:=Tryz.zeroValue20
 t37:=Tryz.underlying133
 a37:=Tryz.isAgg133
 z37:=Tryz.sizeOf133
 v37:=Tryz.zeroValue133
 t46:=Tryz.underlying274
 a46:=Tryz.isAgg274
 z46:=Tryz.sizeOf274
 v46:=Tryz.zeroValue274
 t51:=Tryz.underlying306
 a51:=Tryz.isAgg306
 z51:=Tryz.sizeOf306
 v51:=Tryz.zeroValue306
 t53:=Tryz.underlying227
 a53:=Tryz.isAgg227
 z53:=Tryz.sizeOf227
 v53:=Tryz.zeroValue227
 t70:=Tryz.underlying132
 a70:=Tryz.isAgg132
 z70:=Tryz.sizeOf132
 v70:=Tryz.zeroValue132
 t72:=Tryz.underlying135
 a72:=Tryz.isAgg135
 z72:=Tryz.sizeOf135
 v72:=Tryz.zeroValue135
 t75:=Tryz.underlying137
 a75:=Tryz.isAgg137
 z75:=Tryz.sizeOf137
 v75:=Tryz.zeroValue137
 t76:=Tryz.underlying138
 a76:=Tryz.isAgg138
 z76:=Tryz.sizeOf138
 v76:=Tryz.zeroValue138
 t109:=Tryz.underlying342
 a109:=Tryz.isAgg342
 z109:=Tryz.sizeOf342
 v109:=Tryz.zeroValue342
 t127:=Tryz.underlying209
 a127:=Tryz.isAgg209
 z127:=Tryz.sizeOf209
 v127:=Tryz.zeroValue209
 t146:=Tryz.underlying356
 a146:=Tryz.isAgg356
 z146:=Tryz.sizeOf356
 v146:=Tryz.zeroValue356
 t148:=Tryz.underlying358
 a148:=Tryz.isAgg358
 z148:=Tryz.sizeOf358
 v148:=Tryz.zeroValue358
 t164:=Tryz.underlying252
 a164:=Tryz.isAgg252
 z164:=Tryz.sizeOf252
 v164:=Tryz.zeroValue252 }
theorem Tryz.Builder_Extra_105:Builder.Extra prog Tryz.lays105_ren:={
 sizeBuilder:=by kernel_rfl
 liesBuilder:=by kernel_rfl
 t5:=Tryz.underlying5
 a5:=Tryz.isAgg5
 z5:=Tryz.sizeOf5
 v5:=Tryz.zeroValue5
 infoByte:=by kernel_rfl
 cellsByte:=by kernel_rfl
 sizeByte:=by kernel_rfl
 neB5:=by decide }
end Go.Proofs
namespace Go.Proofs.YtffhgcbfpidfiaaGreat
open Go Go.RowKit Dv Go.Proofs.Tryz
theorem repeatL_one (c:UInt8):∀ n:Nat,Lib.repeatL [c] n=List.replicate n c
 | 0=>rfl
 | n + 1=>by
  have:=repeatL_one c n;simp [Lib.repeatL,List.replicate_succ] at this ⊢;exact this
theorem Em (c:UInt8) (n:Nat) (hn:n<=64):EvP prog 238 [.v (.string (ba [c])),.v (.int .i64 n)] (.v (.string (ba (List.replicate n c)))):=by
 refine Kf fun E w vs hE hv=>?_;simp only [RvL] at hv;obtain ⟨v1,s1,rfl,h1,v2,s2,rfl,h2,rfl⟩:=hv;have h1:=bq h1;have h2:=bq h2;subst h1 h2;refine (Any.strings_Repeat Tryz.lays105 Tryz.Builder_Extra_105 (ba [c]) n w (by omega) (by show 1 * n<=_;omega)).mono ?_;rintro e w' ⟨rfl,hw⟩;refine ⟨_,rfl,?_,hw⟩;unfold Rv;refine ⟨?_,rfl⟩;rw [show (ba [c]).data.toList=[c] from rfl,repeatL_one]
end Go.Proofs.YtffhgcbfpidfiaaGreat
set_option maxRecDepth 100000
namespace Go.Proofs.YtffhgcbfpidfiaaGreat
open Go Go.RowKit Dv Go.Proofs.Tryz
theorem SG (a b c:List UInt8):(ba a ++ ba b) ++ ba c=ba (a ++ b ++ c):=(congrArg (·++ ba c) (lQ a b)).trans (lQ _ _)
section
variable {v:Val}
theorem lf_2 (h:v.k=2):cw v=true/\ez v=gO v.n:=by
 have:cw v=true:=by simp [cw,h]
 exact ⟨this,by rw [ez,if_pos this,ny,if_pos h]⟩
theorem lf_3 (h:v.k=3):cw v=true/\ez v=xj (tx v.s):=by
 have:cw v=true:=by simp [cw,h]
 exact ⟨this,by rw [ez,if_pos this,ny,if_neg (by omega),if_pos h]⟩
theorem lf_9 (h:v.k=9) (h1:1<=v.n) (h2:v.n<=64):cw v=true/\ez v=60 :: (List.replicate v.n.toNat 42 ++ [62]):=by
 have:cw v=true:=by simp [cw,h,h1,h2]
 exact ⟨this,by rw [ez,if_pos this,ny,if_neg (by omega),if_neg (by omega),if_pos h]⟩
theorem abz (h:v.k=9) (h1:¬ (1<=v.n/\v.n<=64)):cw v=false/\ez v=[]:=by
 have:cw v=false:=by
  simp only [cw,h];simp;omega
 exact ⟨this,by rw [ez,if_neg (by rw [this];simp)]⟩
theorem lf_10 (h:v.k=10):cw v=true/\ez v=[60,126] ++ gO v.n ++ [62]:=by
 have:cw v=true:=by simp [cw,h]
 exact ⟨this,by rw [ez,if_pos this,ny,if_neg (by omega),if_neg (by omega),if_neg (by omega),if_pos h]⟩
theorem lf_11 (h:v.k=11):cw v=true/\ez v=[60] ++ xj (tx v.s) ++ [46,46,62]:=by
 have:cw v=true:=by simp [cw,h]
 exact ⟨this,by rw [ez,if_pos this,ny,if_neg (by omega),if_neg (by omega),if_neg (by omega),if_neg (by omega),if_pos h]⟩
theorem lf_12 (h:v.k=12):cw v=true/\ez v=[60,35] ++ gO v.n ++ [62]:=by
 have:cw v=true:=by simp [cw,h]
 exact ⟨this,by rw [ez,if_pos this,ny,if_neg (by omega),if_neg (by omega),if_neg (by omega),if_neg (by omega),if_neg (by omega)]⟩
theorem abA (h:v.k≠2/\v.k≠3/\v.k≠9/\v.k≠10/\v.k≠11/\v.k≠12):cw v=false/\ez v=[]:=by
 have:cw v=false:=by
  rw [Bool.eq_false_iff];intro c;simp [cw] at c;omega
 exact ⟨this,by rw [ez,if_neg (by rw [this];simp)]⟩
end
theorem Eo (v:Val) (hs:v.s.size<=1099511627776) (hn:rK v.n):EvP prog 195 [.agg (aM v)] (.tup [.v (.string (ba (ez v))),.v (.bool (cw v))]):=by
 have hp:=C1 v.n hn.1 hn.2;have hpl:=Jo hn;have hq:=G3 v.s hs;have SI:=xm (tx v.s);rw [bB] at SI;have hr:=fun (_:1<=v.n) (h2:v.n<=64)=>Em 42 v.n.toNat (by omega);have h2:=@lf_2 v;have h3:=@lf_3 v;have h9:=@lf_9 v;have h9n:=@abz v;have ru:=@lf_10 v;have h11:=@lf_11 v;have YN:=@lf_12 v;have eS:=@abA v;generalize ez v=S at *;generalize cw v=B at *;obtain ⟨k,n,s,ks⟩:=v;simp only [Val.k,Val.n,Val.s] at *;refine eG 52 [.tmp 2,.tmp 3] func195 rfl ntmps195 rfl fun _ _ _ _=>?_;refine br ?_ ?_<;>intro c
 ·obtain ⟨rfl,rfl⟩:=h2 (sU c);refine cP Iu hp ?_;exact ⟨.tup [.v (.string _),.v (.bool _)],ax,rfl⟩
 have c2:¬ k=2:=sU c;refine br ?_ ?_<;>intro c
 ·obtain ⟨rfl,rfl⟩:=h3 (sU c);refine cP TO hq ?_;exact ⟨.tup [.v (.string _),.v (.bool _)],ax,rfl⟩
 have c3:¬ k=3:=sU c;refine br ?_ ?_<;>intro c
 ·have c9:k=9:=sU c;refine br ?_ ?_<;>intro g
  ·obtain ⟨rfl,rfl⟩:=h9n c9 (by simp [ap] at g;omega);exact ⟨.tup [.v (.string _),.v (.bool _)],ax,rfl⟩
  ·have g:1<=n/\n<=64:=by simp [ap] at g;omega
   obtain ⟨rfl,rfl⟩:=h9 c9 g.1 g.2;have hr:=hr g.1 g.2;rw [show ((n.toNat:Nat):Int)=n by omega] at hr;refine cP ZU hr ?_;refine ⟨by show 1 + (List.replicate n.toNat (42:UInt8)).length<=_;rw [List.length_replicate];omega,?_⟩;refine ⟨by rw [jb];show 1 + (List.replicate n.toNat (42:UInt8)).length + 1<=_;rw [List.length_replicate];omega,?_⟩;refine ⟨.tup [.v (.string _),.v (.bool _)],ax,?_⟩;exact G1 (SG [60] _ [62])
 have c9:¬ k=9:=sU c;refine br ?_ ?_<;>intro c
 ·obtain ⟨rfl,rfl⟩:=ru (sU c);refine cP Iu hp ?_;refine ⟨by show 2 + (gO n).length<=_;omega,?_⟩;refine ⟨by rw [jb];show 2 + (gO n).length + 1<=_;omega,?_⟩;refine ⟨.tup [.v (.string _),.v (.bool _)],ax,?_⟩;exact G1 (SG [60,126] _ [62])
 have c10:¬ k=10:=sU c;refine br ?_ ?_<;>intro c
 ·obtain ⟨rfl,rfl⟩:=h11 (sU c);refine cP TO hq ?_;refine ⟨by show 1 + (xj (tx s)).length<=_;omega,?_⟩;refine ⟨by rw [jb];show 1 + (xj (tx s)).length + 3<=_;omega,?_⟩;refine ⟨.tup [.v (.string _),.v (.bool _)],ax,?_⟩;exact G1 (SG [60] _ [46,46,62])
 have c11:¬ k=11:=sU c;refine br ?_ ?_<;>intro c
 ·obtain ⟨rfl,rfl⟩:=YN (sU c);refine cP Iu hp ?_;refine ⟨by show 2 + (gO n).length<=_;omega,?_⟩;refine ⟨by rw [jb];show 2 + (gO n).length + 1<=_;omega,?_⟩;refine ⟨.tup [.v (.string _),.v (.bool _)],ax,?_⟩;exact G1 (SG [60,35] _ [62])
 have c12:¬ k=12:=sU c;obtain ⟨rfl,rfl⟩:=eS ⟨c2,c3,c9,c10,c11,c12⟩;exact ⟨.tup [.v (.string _),.v (.bool _)],ax,rfl⟩
def xI (f:Nat->Nat->Bool) (c k:Nat):Bool:=(List.range k).all (f c)
theorem Ln (f:Nat->Nat->Bool) (c k:Nat):xI f c (k + 1)=(xI f c k && f c k):=by simp [xI,List.range_succ]
theorem Ep (f:Nat->Nat->Bool) (n c:Nat):rW f n [] c=xI f c n:=by simp [rW,gy,xI]
abbrev PJ (n:Nat) (f:Nat->Nat->Bool) (e:Nat):St:=⟨[(0,⟨[],.sl 1 (cK (dw n f)) none⟩),(3,⟨[],.v (.int .i64 e)⟩)],[],[]⟩
abbrev Jp (n:Nat) (f:Nat->Nat->Bool) (e:Nat) (x:Bool) (k:Nat):St:=⟨[(0,⟨[],.sl 1 (cK (dw n f)) none⟩),(3,⟨[],.v (.int .i64 e)⟩),(4,⟨[],.v (.bool x)⟩),(5,⟨[],.v (.int .i64 k)⟩)],[],[]⟩
theorem yu (n:Nat) (f:Nat->Nat->Bool) (hn:n<=64):EvP prog 44 [.sl 1 (cK (dw n f)) none] (.v (.int .i64 (oz (eI f n [])))):=by
 have ep:=gz n f;refine eG 30 [.tmp 2] func44 rfl ntmps44 rfl fun _ _ _ _=>?_;refine lI (fun j st=>∃ e:Nat,st=PJ n f e/\e<=n/\(∀ c,c < e->rW f n [] c=false)/\j=n - e) ⟨0,rfl,by omega,fun _ h=>by omega,rfl⟩ (weak_mk ⟨_,rfl⟩ wA rfl rfl rfl wB) ?_;rintro j st ⟨e,rfl,he,eS,rfl⟩;refine br ?_ ?_<;>intro hL
 ·have au:e < n:=sV ep hL;refine lJ (fun k=>Jp n f e (xI f e k) k) n (weak_mk ⟨_,rfl⟩ wA rfl rfl rfl (by repeat' (first | exact trivial | exact ah rfl | exact w9 rfl | refine ⟨⟨_,rfl,?_⟩,?_⟩))) ?_;intro k hk;refine br ?_ ?_<;>intro jS
  ·have gZ:k < n:=sV ep jS;have KL:=Ln f e k;refine br ?_ ?_<;>intro g
   ·refine iX (dr au) ?_;refine iX (cI gZ) ?_;have g:xI f e k=true:=sU g;rw [g,Bool.true_and] at KL;exact rE ⟨_,by omega,k + 1,rfl,by omega,rfl⟩ (weak_mk ⟨_,rfl⟩ wA rfl rfl rfl (dm (nxt gZ (by omega)) KL.symm))
   ·have g:xI f e k=false:=sU g;rw [g,Bool.false_and] at KL;exact rE ⟨_,by omega,k + 1,rfl,by omega,rfl⟩ (weak_mk ⟨_,rfl⟩ wA rfl rfl rfl (dm (nxt gZ (by omega)) KL.symm))
  ·have aN:k=n:=sW ep jS;subst aN;refine br ?_ ?_<;>intro g
   ·have g:rW f k [] e=true:=by rw [Ep];exact g
    rw [eI,cF au g eS];exact (rfl:_=_)
   ·have g:rW f k [] e=false:=by rw [Ep];exact g
    refine ⟨PJ k f (e + 1),(weak_mk ⟨_,rfl⟩ wA rfl rfl rfl (wB1 (nxt au (by omega)))),k - (e + 1),by omega,e + 1,rfl,by omega,fun j hj=>?_,rfl⟩;rcases Nat.lt_succ_iff_lt_or_eq.1 hj with hj | rfl
    ·exact eS j hj
    ·exact g
 ·have aN:e=n:=sW ep hL;subst aN;rw [eI,cL eS];exact (rfl:_=_)
theorem PK {α:Type} {l:List α} {e:Nat} {x:α} {p:α->Bool} (h:l[e]? = some x):(l.drop e).all p=(p x && (l.drop (e + 1)).all p):=by
 obtain ⟨h1,h2⟩:=List.getElem?_eq_some_iff.1 h;rw [List.drop_eq_getElem_cons h1,h2,List.all_cons]
theorem BF (s:bV) (hs:s.s.size<=4611686018427387904):EvP prog 193 [.agg (l9 s)] (.v (.bool (du s))):=by
 have hr:=iw s.s hs;obtain ⟨k,n,t⟩:=s;have hF:du ⟨k,n,t⟩=if k=1∨k=5 then decide (n=0) && bd t else if k=2 then decide (0<=n) && decide (t=⟨#[]⟩) else if k=3∨k=4 then decide (n=0) && decide (t=⟨#[]⟩) else false:=rfl
 generalize du ⟨k,n,t⟩=F at hF ⊢;refine eG 39 [.tmp 2] func193 rfl ntmps193 rfl fun _ _ _ _=>?_;refine br ?_ ?_<;>intro c
 ·have c:k=1:=sU c;rw [if_pos (.inl c)] at hF;refine br (fun _=>?_) (fun g=>absurd g (by simp [c]));refine br ?_ ?_<;>intro g
  ·have g:n=0:=sU g;refine cP FE hr ?_;refine (congrArg (fun b=>DV.v (.bool b)) ?_:_=_);rw [hF];simp [g,pickB]
  ·have g:¬ n=0:=sU g;refine (congrArg (fun b=>DV.v (.bool b)) ?_:_=_);rw [hF];simp [g,pickB]
 have c1:¬ k=1:=sU c;refine br ?_ ?_<;>intro c
 ·have c:k=5:=sU c;rw [if_pos (.inr c)] at hF;refine br ?_ ?_<;>intro g
  ·have g:n=0:=sU g;refine cP FE hr ?_;refine (congrArg (fun b=>DV.v (.bool b)) ?_:_=_);rw [hF];simp [g,pickB]
  ·have g:¬ n=0:=sU g;refine (congrArg (fun b=>DV.v (.bool b)) ?_:_=_);rw [hF];simp [g,pickB]
 have c5:¬ k=5:=sU c;rw [if_neg (by omega)] at hF;refine br ?_ ?_<;>intro c
 ·have c:k=2:=sU c;rw [if_pos c] at hF;refine (congrArg (fun b=>DV.v (.bool b)) ?_:_=_);rw [hF];cases decide (0<=n)<;>rfl
 have c2:¬ k=2:=sU c;rw [if_neg c2] at hF;refine br ?_ ?_<;>intro c
 ·have c:k=3:=sU c;rw [if_pos (.inl c)] at hF;refine br (fun _=>?_) (fun g=>absurd g (by simp [c]));refine (congrArg (fun b=>DV.v (.bool b)) ?_:_=_);rw [hF];cases decide (n=0)<;>rfl
 have c3:¬ k=3:=sU c;refine br ?_ ?_<;>intro c
 ·have c:k=4:=sU c;rw [if_pos (.inr c)] at hF;refine (congrArg (fun b=>DV.v (.bool b)) ?_:_=_);rw [hF];cases decide (n=0)<;>rfl
 have c4:¬ k=4:=sU c;rw [if_neg (by omega)] at hF;subst hF;exact (rfl:_=_)
abbrev WY (l:List bV) (e:Nat):St:=⟨[(8,⟨[],.sl 3 (ch l) none⟩),(9,⟨[],.v (.int .i64 (ch l).length)⟩),(10,⟨[],.v (.int .i64 e)⟩)],[],[]⟩
theorem te (l:List bV) (hs:∀ s∈l,s.s.size<=4611686018427387904):EvP prog 162 [.sl 3 (ch l) none] (.v (.bool (kI l))):=by
 have cu:=gD l;have hF:kI l=(decide (l.length<=64) && l.all du):=rfl;generalize kI l=F at hF ⊢;refine eG 18 [.tmp 2] func162 rfl ntmps162 rfl fun _ _ _ _=>?_;refine br ?_ ?_<;>intro g
 ·have:¬ l.length<=64:=by simp [cu] at g;omega
  rw [decide_eq_false this,Bool.false_and] at hF;subst hF;exact (rfl:_=_)
 have eV:l.length<=64:=by simp [cu] at g;omega
 rw [decide_eq_true eV,Bool.true_and] at hF;refine lI (fun j st=>∃ e:Nat,st=WY l e/\e<=l.length/\F=(l.drop e).all du/\j=l.length - e) ⟨0,rfl,by omega,hF,rfl⟩ (weak_mk ⟨_,rfl⟩ wA rfl rfl rfl wB) ?_;rintro j st ⟨e,rfl,he,aK,rfl⟩;refine br ?_ ?_<;>intro hL
 ·have au:e < l.length:=sV cu hL;obtain ⟨x,hx⟩:=gX au;have h1:=BF x (hs x (mG hx));rw [PK hx] at aK;obtain ⟨xk,xn,xs⟩:=x;refine iX (iG hx) ?_;refine cP ZH h1 ?_;refine br ?_ ?_<;>intro g
  ·have g:du ⟨xk,xn,xs⟩=false:=sU g;rw [g,Bool.false_and] at aK;subst aK;exact (rfl:_=_)
  ·have g:du ⟨xk,xn,xs⟩=true:=sU g;rw [g,Bool.true_and] at aK;exact rE ⟨_,by omega,e + 1,rfl,by omega,aK,rfl⟩ (weak_mk ⟨_,rfl⟩ wA rfl rfl rfl (wB1 (nxt au (by omega))))
 ·have aN:l.length<=e:=sV cu hL;rw [List.drop_eq_nil_of_le aN] at aK;subst aK;exact (rfl:_=_)
end Go.Proofs.YtffhgcbfpidfiaaGreat
