/- Part 6 of the proof: UTF-8: the program's lead, value; UTF-8: the program's Decode; UTF-8: the document's reckoned, Scalar, Encode; UTF-8: the document's Scalar, Encode; UTF-8, plain: the document's well-formed bytes are the program's; a text's first units; UTF-8: the document's begins, left, Decode; Tables of runes; the unit at a place: the program's and the document's; The library's copyCheck of strings.Builder, laid at this program; The library's Builder at this program: what WriteString and String do to memory, exactly; Rules for the evaluator: the library's Builder, written and read; Rules for the evaluator: the library's Builder: WriteByte, WriteString of any text; a call that is handed a Builder; Texts in quotes: plain; numbers in sixteens; Texts in quotes: numbers in sixteens, which runes may steer a terminal; Texts in quotes: short escapes, kinds of runes; Texts in quotes: the unit at a place, as it is written; Texts in quotes: the document's unit; the program's and the document's Quote; Texts in quotes: the program's and the document's Quote; Values that are the same; Which values fit which nodes: plain, as the program finds it and as the document says it; tree's leaf, kids, Fits; tree.Fits; the document's To, Fits; Values as they are written: plain; tree.write, Raw; Paths: data, Step compared with itself; ref09.Begins, Same on the same path; ref25.Step; A lattice, as its readers know it; Leq; joins are the document's; Where steps lead in a plan, and how places are seen, plain; What is seen of values, and where that differs, plain; Which values may be what is seen of one, plain; How what is seen of values is written: plain; The library's strings.Repeat, laid at this program by the kit's tool (lay-plain; wip/tools/plain2tpl.py); How values without names are written: the program's and the document's Leaf; The document's Bottom, Right of paths; the program's Right of paths; Rules for the evaluator: String of a Builder that holds nothing; The text of a path, of a row: plain, the program's, the document's. No condition. -/
import Derived.Shelf.Strings.OnBuilder
import Derived.Shelf.RegionOpenPlain
import Derived.Lib.Strings
import Derived.Lib.Slices
import Derived.Lib.Walk
import Derived.Lib.Builder
import Derived.Lib.AppendStr
import Derived.Lib.UnsafeStr
import Derived.WalkKit
import Derived.Laws.Externs
import Derived.Lib.Hide
import Derived.Shelf.Strings.Repeat
import Derived.Test.YtfifjddnnmfeoaaGreatMo2
import Derived.Test.YtfifjddnnmfeoaaGreatMo3
import Derived.Test.YtfifjddnnmfeoaaGreatMo4
import Derived.Test.YtfifjddnnmfeoaaGreatMo5
set_option linter.all false
set_option maxRecDepth 100000
namespace Go.Proofs.YtfifjddnnmfeoaaGreat
open Go Go.RowKit Dv Tryz
def aG (c:Nat):Nat:=if c < 128 then 1 else if 194<=c/\c<=223 then 2 else if 224<=c/\c<=239 then 3 else if 240<=c/\c<=244 then 4 else 0
def gg (c:Nat):Nat:=if c=224 then 160 else if c=240 then 144 else 128
def gh (c:Nat):Nat:=if c=237 then 159 else if c=244 then 143 else 191
theorem J3 (c:Nat):EvP Tryz.prog 220 [.v (.int .u8 c)] (.tup [.v (.int .i64 (aG c:Nat)),.v (.int .u8 (gg c:Nat)),.v (.int .u8 (gh c:Nat))]):=by
 have hN:aG c=if c < 128 then 1 else if 194<=c/\c<=223 then 2 else if 224<=c/\c<=239 then 3 else if 240<=c/\c<=244 then 4 else 0:=rfl
 have hL:gg c=if c=224 then 160 else if c=240 then 144 else 128:=rfl
 have hH:gh c=if c=237 then 159 else if c=244 then 143 else 191:=rfl
 generalize aG c=N at hN ⊢;generalize gg c=L at hL ⊢;generalize gh c=H at hH ⊢;refine ev_go (P:=Tryz.prog) tt tt_ok 5000 41 [.tmp 2,.tmp 3,.tmp 4] Tryz.func220 rfl Tryz.ntmps220 rfl (nL rfl) (fun E9 w9 hn9 hm9=>?_);refine br (fun c1=>?_) (fun c1=>?_)
 ·have c1:(c:Int) < 128:=by simpa using c1
  refine br (fun g=>?_) (fun g=>?_)
  ·have g:(c:Int)=224:=by simpa using g
   have hn:N=1:=by
    rw [hN]
    repeat' split
    all_goals omega
   have hl:L=160:=by
    rw [hL]
    repeat' split
    all_goals omega
   have hh:H=191:=by
    rw [hH]
    repeat' split
    all_goals omega
   rw [hn,hl,hh];exact ⟨_,ax,rfl⟩
  have QA:¬ (c:Int)=224:=by simpa using g
  refine br (fun g=>?_) (fun g=>?_)
  ·have g:(c:Int)=237:=by simpa using g
   have hn:N=1:=by
    rw [hN]
    repeat' split
    all_goals omega
   have hl:L=128:=by
    rw [hL]
    repeat' split
    all_goals omega
   have hh:H=159:=by
    rw [hH]
    repeat' split
    all_goals omega
   rw [hn,hl,hh];exact ⟨_,ax,rfl⟩
  have QB:¬ (c:Int)=237:=by simpa using g
  refine br (fun g=>?_) (fun g=>?_)
  ·have g:(c:Int)=240:=by simpa using g
   have hn:N=1:=by
    rw [hN]
    repeat' split
    all_goals omega
   have hl:L=144:=by
    rw [hL]
    repeat' split
    all_goals omega
   have hh:H=191:=by
    rw [hH]
    repeat' split
    all_goals omega
   rw [hn,hl,hh];exact ⟨_,ax,rfl⟩
  have QC:¬ (c:Int)=240:=by simpa using g
  refine br (fun g=>?_) (fun g=>?_)
  ·have g:(c:Int)=244:=by simpa using g
   have hn:N=1:=by
    rw [hN]
    repeat' split
    all_goals omega
   have hl:L=128:=by
    rw [hL]
    repeat' split
    all_goals omega
   have hh:H=143:=by
    rw [hH]
    repeat' split
    all_goals omega
   rw [hn,hl,hh];exact ⟨_,ax,rfl⟩
  have QD:¬ (c:Int)=244:=by simpa using g
  have hn:N=1:=by
   rw [hN]
   repeat' split
   all_goals omega
  have hl:L=128:=by
   rw [hL]
   repeat' split
   all_goals omega
  have hh:H=191:=by
   rw [hH]
   repeat' split
   all_goals omega
  rw [hn,hl,hh];exact ⟨_,ax,rfl⟩
 have c1:¬ (c:Int) < 128:=by simpa using c1
 refine br (fun k=>?_) (fun k=>?_)
 ·have k:194<=(c:Int)/\(c:Int)<=223:=by simpa [pickB_and] using k
  refine br (fun g=>?_) (fun g=>?_)
  ·have g:(c:Int)=224:=by simpa using g
   have hn:N=2:=by
    rw [hN]
    repeat' split
    all_goals omega
   have hl:L=160:=by
    rw [hL]
    repeat' split
    all_goals omega
   have hh:H=191:=by
    rw [hH]
    repeat' split
    all_goals omega
   rw [hn,hl,hh];exact ⟨_,ax,rfl⟩
  have QA:¬ (c:Int)=224:=by simpa using g
  refine br (fun g=>?_) (fun g=>?_)
  ·have g:(c:Int)=237:=by simpa using g
   have hn:N=2:=by
    rw [hN]
    repeat' split
    all_goals omega
   have hl:L=128:=by
    rw [hL]
    repeat' split
    all_goals omega
   have hh:H=159:=by
    rw [hH]
    repeat' split
    all_goals omega
   rw [hn,hl,hh];exact ⟨_,ax,rfl⟩
  have QB:¬ (c:Int)=237:=by simpa using g
  refine br (fun g=>?_) (fun g=>?_)
  ·have g:(c:Int)=240:=by simpa using g
   have hn:N=2:=by
    rw [hN]
    repeat' split
    all_goals omega
   have hl:L=144:=by
    rw [hL]
    repeat' split
    all_goals omega
   have hh:H=191:=by
    rw [hH]
    repeat' split
    all_goals omega
   rw [hn,hl,hh];exact ⟨_,ax,rfl⟩
  have QC:¬ (c:Int)=240:=by simpa using g
  refine br (fun g=>?_) (fun g=>?_)
  ·have g:(c:Int)=244:=by simpa using g
   have hn:N=2:=by
    rw [hN]
    repeat' split
    all_goals omega
   have hl:L=128:=by
    rw [hL]
    repeat' split
    all_goals omega
   have hh:H=143:=by
    rw [hH]
    repeat' split
    all_goals omega
   rw [hn,hl,hh];exact ⟨_,ax,rfl⟩
  have QD:¬ (c:Int)=244:=by simpa using g
  have hn:N=2:=by
   rw [hN]
   repeat' split
   all_goals omega
  have hl:L=128:=by
   rw [hL]
   repeat' split
   all_goals omega
  have hh:H=191:=by
   rw [hH]
   repeat' split
   all_goals omega
  rw [hn,hl,hh];exact ⟨_,ax,rfl⟩
 have k194:¬ (194<=(c:Int)/\(c:Int)<=223):=by simpa [pickB_and] using k
 refine br (fun k=>?_) (fun k=>?_)
 ·have k:224<=(c:Int)/\(c:Int)<=239:=by simpa [pickB_and] using k
  refine br (fun g=>?_) (fun g=>?_)
  ·have g:(c:Int)=224:=by simpa using g
   have hn:N=3:=by
    rw [hN]
    repeat' split
    all_goals omega
   have hl:L=160:=by
    rw [hL]
    repeat' split
    all_goals omega
   have hh:H=191:=by
    rw [hH]
    repeat' split
    all_goals omega
   rw [hn,hl,hh];exact ⟨_,ax,rfl⟩
  have QA:¬ (c:Int)=224:=by simpa using g
  refine br (fun g=>?_) (fun g=>?_)
  ·have g:(c:Int)=237:=by simpa using g
   have hn:N=3:=by
    rw [hN]
    repeat' split
    all_goals omega
   have hl:L=128:=by
    rw [hL]
    repeat' split
    all_goals omega
   have hh:H=159:=by
    rw [hH]
    repeat' split
    all_goals omega
   rw [hn,hl,hh];exact ⟨_,ax,rfl⟩
  have QB:¬ (c:Int)=237:=by simpa using g
  refine br (fun g=>?_) (fun g=>?_)
  ·have g:(c:Int)=240:=by simpa using g
   have hn:N=3:=by
    rw [hN]
    repeat' split
    all_goals omega
   have hl:L=144:=by
    rw [hL]
    repeat' split
    all_goals omega
   have hh:H=191:=by
    rw [hH]
    repeat' split
    all_goals omega
   rw [hn,hl,hh];exact ⟨_,ax,rfl⟩
  have QC:¬ (c:Int)=240:=by simpa using g
  refine br (fun g=>?_) (fun g=>?_)
  ·have g:(c:Int)=244:=by simpa using g
   have hn:N=3:=by
    rw [hN]
    repeat' split
    all_goals omega
   have hl:L=128:=by
    rw [hL]
    repeat' split
    all_goals omega
   have hh:H=143:=by
    rw [hH]
    repeat' split
    all_goals omega
   rw [hn,hl,hh];exact ⟨_,ax,rfl⟩
  have QD:¬ (c:Int)=244:=by simpa using g
  have hn:N=3:=by
   rw [hN]
   repeat' split
   all_goals omega
  have hl:L=128:=by
   rw [hL]
   repeat' split
   all_goals omega
  have hh:H=191:=by
   rw [hH]
   repeat' split
   all_goals omega
  rw [hn,hl,hh];exact ⟨_,ax,rfl⟩
 have k224:¬ (224<=(c:Int)/\(c:Int)<=239):=by simpa [pickB_and] using k
 refine br (fun k=>?_) (fun k=>?_)
 ·have k:240<=(c:Int)/\(c:Int)<=244:=by simpa [pickB_and] using k
  refine br (fun g=>?_) (fun g=>?_)
  ·have g:(c:Int)=224:=by simpa using g
   have hn:N=4:=by
    rw [hN]
    repeat' split
    all_goals omega
   have hl:L=160:=by
    rw [hL]
    repeat' split
    all_goals omega
   have hh:H=191:=by
    rw [hH]
    repeat' split
    all_goals omega
   rw [hn,hl,hh];exact ⟨_,ax,rfl⟩
  have QA:¬ (c:Int)=224:=by simpa using g
  refine br (fun g=>?_) (fun g=>?_)
  ·have g:(c:Int)=237:=by simpa using g
   have hn:N=4:=by
    rw [hN]
    repeat' split
    all_goals omega
   have hl:L=128:=by
    rw [hL]
    repeat' split
    all_goals omega
   have hh:H=159:=by
    rw [hH]
    repeat' split
    all_goals omega
   rw [hn,hl,hh];exact ⟨_,ax,rfl⟩
  have QB:¬ (c:Int)=237:=by simpa using g
  refine br (fun g=>?_) (fun g=>?_)
  ·have g:(c:Int)=240:=by simpa using g
   have hn:N=4:=by
    rw [hN]
    repeat' split
    all_goals omega
   have hl:L=144:=by
    rw [hL]
    repeat' split
    all_goals omega
   have hh:H=191:=by
    rw [hH]
    repeat' split
    all_goals omega
   rw [hn,hl,hh];exact ⟨_,ax,rfl⟩
  have QC:¬ (c:Int)=240:=by simpa using g
  refine br (fun g=>?_) (fun g=>?_)
  ·have g:(c:Int)=244:=by simpa using g
   have hn:N=4:=by
    rw [hN]
    repeat' split
    all_goals omega
   have hl:L=128:=by
    rw [hL]
    repeat' split
    all_goals omega
   have hh:H=143:=by
    rw [hH]
    repeat' split
    all_goals omega
   rw [hn,hl,hh];exact ⟨_,ax,rfl⟩
  have QD:¬ (c:Int)=244:=by simpa using g
  have hn:N=4:=by
   rw [hN]
   repeat' split
   all_goals omega
  have hl:L=128:=by
   rw [hL]
   repeat' split
   all_goals omega
  have hh:H=191:=by
   rw [hH]
   repeat' split
   all_goals omega
  rw [hn,hl,hh];exact ⟨_,ax,rfl⟩
 have k240:¬ (240<=(c:Int)/\(c:Int)<=244):=by simpa [pickB_and] using k
 refine br (fun g=>?_) (fun g=>?_)
 ·have g:(c:Int)=224:=by simpa using g
  have hn:N=0:=by
   rw [hN]
   repeat' split
   all_goals omega
  have hl:L=160:=by
   rw [hL]
   repeat' split
   all_goals omega
  have hh:H=191:=by
   rw [hH]
   repeat' split
   all_goals omega
  rw [hn,hl,hh];exact ⟨_,ax,rfl⟩
 have QA:¬ (c:Int)=224:=by simpa using g
 refine br (fun g=>?_) (fun g=>?_)
 ·have g:(c:Int)=237:=by simpa using g
  have hn:N=0:=by
   rw [hN]
   repeat' split
   all_goals omega
  have hl:L=128:=by
   rw [hL]
   repeat' split
   all_goals omega
  have hh:H=159:=by
   rw [hH]
   repeat' split
   all_goals omega
  rw [hn,hl,hh];exact ⟨_,ax,rfl⟩
 have QB:¬ (c:Int)=237:=by simpa using g
 refine br (fun g=>?_) (fun g=>?_)
 ·have g:(c:Int)=240:=by simpa using g
  have hn:N=0:=by
   rw [hN]
   repeat' split
   all_goals omega
  have hl:L=144:=by
   rw [hL]
   repeat' split
   all_goals omega
  have hh:H=191:=by
   rw [hH]
   repeat' split
   all_goals omega
  rw [hn,hl,hh];exact ⟨_,ax,rfl⟩
 have QC:¬ (c:Int)=240:=by simpa using g
 refine br (fun g=>?_) (fun g=>?_)
 ·have g:(c:Int)=244:=by simpa using g
  have hn:N=0:=by
   rw [hN]
   repeat' split
   all_goals omega
  have hl:L=128:=by
   rw [hL]
   repeat' split
   all_goals omega
  have hh:H=143:=by
   rw [hH]
   repeat' split
   all_goals omega
  rw [hn,hl,hh];exact ⟨_,ax,rfl⟩
 have QD:¬ (c:Int)=244:=by simpa using g
 have hn:N=0:=by
  rw [hN]
  repeat' split
  all_goals omega
 have hl:L=128:=by
  rw [hL]
  repeat' split
  all_goals omega
 have hh:H=191:=by
  rw [hH]
  repeat' split
  all_goals omega
 rw [hn,hl,hh];exact ⟨_,ax,rfl⟩
def recV:List UInt8->Int
 | [a]=>a.toNat
 | [a,b]=>(a.toNat - 192) * 64 + (b.toNat - 128)
 | [a,b,c]=>(a.toNat - 224) * 4096 + (b.toNat - 128) * 64 + (c.toNat - 128)
 | [a,b,c,d]=>(a.toNat - 240) * 262144 + (b.toNat - 128) * 4096 + (c.toNat - 128) * 64 + (d.toNat - 128)
 | _=>0
def NR:List UInt8->Bool
 | [a]=>decide (a.toNat < 128)
 | [a,b]=>decide (192<=a.toNat/\a.toNat < 224/\128<=b.toNat/\b.toNat < 192)
 | [a,b,c]=>decide (224<=a.toNat/\a.toNat < 240/\128<=b.toNat/\b.toNat < 192/\128<=c.toNat/\c.toNat < 192)
 | [a,b,c,d]=>decide (240<=a.toNat/\a.toNat < 248/\128<=b.toNat/\b.toNat < 192/\128<=c.toNat/\c.toNat < 192/\128<=d.toNat/\d.toNat < 192)
 | _=>false
theorem J4 {n:Int} (h1 : -2147483648<=n) (h2:n<=2147483647):IntKind.i32.wrap n=n:=by
 simp [IntKind.wrap,IntKind.min,IntKind.max,IntKind.signed,IntKind.bits];omega
theorem QE {x:Nat} (h:x < 4294967296):(BitVec.ofInt 32 (x:Int)).toNat=x:=by
 rw [BitVec.toNat_ofInt];omega
theorem NS {x m:Nat} (k:Nat) (hk:m=2 ^ k - 1) (hm:m < 256) (h:x < 256):IntKind.i32.wrap ((BitVec.ofInt IntKind.i32.bits (IntKind.i32.wrap (x:Int)) &&& BitVec.ofInt IntKind.i32.bits (m:Int)).toNat:Nat)=((x % 2 ^ k:Nat):Int):=by
 rw [J4 (n:=(x:Int)) (by omega) (by omega)];show IntKind.i32.wrap ((BitVec.ofInt 32 (x:Int) &&& BitVec.ofInt 32 (m:Int)).toNat:Nat)=_;rw [BitVec.toNat_and,QE (by omega),QE (by omega),hk,Nat.and_two_pow_sub_one_eq_mod];have:=Nat.mod_le x (2 ^ k);exact J4 (by omega) (by omega)
theorem zc {x:Nat} (hx:x < 256):IntKind.i32.wrap (IntKind.u8.wrap ((BitVec.ofInt IntKind.u8.bits (x:Int) &&& BitVec.ofInt IntKind.u8.bits 63).toNat:Nat))=((x % 64:Nat):Int):=by
 show IntKind.i32.wrap (IntKind.u8.wrap ((BitVec.ofInt 8 (x:Int) &&& BitVec.ofInt 8 63).toNat:Nat))=_;have e:(BitVec.ofInt 8 (x:Int)).toNat=x:=by rw [BitVec.toNat_ofInt];omega
 rw [BitVec.toNat_and,e,show (BitVec.ofInt 8 63).toNat=2 ^ 6 - 1 from rfl,Nat.and_two_pow_sub_one_eq_mod];rw [IntKind.wrap_u8'];rw [J4 (by omega) (by omega)];omega
theorem J5 {x y:Nat} (h:x < 1000000) (hy:y < 64):IntKind.i32.wrap ((BitVec.ofInt IntKind.i32.bits (IntKind.i32.wrap ((x:Int) * 2 ^ min (Int.toNat 6) IntKind.i32.bits)) ||| BitVec.ofInt IntKind.i32.bits (y:Int)).toNat:Nat)=((x * 64 + y:Nat):Int):=by
 show IntKind.i32.wrap ((BitVec.ofInt 32 (IntKind.i32.wrap ((x:Int) * 64)) ||| BitVec.ofInt 32 (y:Int)).toNat:Nat)=_;rw [J4 (n:=(x:Int) * 64) (by omega) (by omega),show (x:Int) * 64=((x * 64:Nat):Int) by omega,BitVec.toNat_or,QE (by omega),QE (by omega)];have:=Nat.shiftLeft_add_eq_or_of_lt (i:=6) (b:=y) hy x;rw [Nat.shiftLeft_eq] at this;rw [show x * 64=x * 2 ^ 6 from rfl,<- this];exact J4 (by omega) (by omega)
theorem xM {s:ByteArray} {l:List UInt8} (hl:tx s=l) {z:Int} (k:Nat) (hz:z.toNat=k):cL s z.toNat=(l.getD k 0).toNat:=by
 rw [hz,<- hl];all_goals rfl
theorem Gb (s:ByteArray) (h:1<=s.size/\s.size<=4):Ev Tryz.prog 221 [.v (.string s)] [] [] (fun r _ _=>∃ z:Int,r = .v (.int .i32 z)/\(NR (tx s)=true->z=recV (tx s))):=by
 have eJ:=bm s;refine ev_go (P:=Tryz.prog) tt tt_ok 5000 57 [.tmp 2] Tryz.func221 rfl Tryz.ntmps221 rfl (nL rfl) (fun E9 w9 hn9 hm9=>?_);refine br (fun c1=>?_) (fun c1=>?_)
 ·refine ⟨⟨by omega,by omega⟩,?_⟩;have c1:s.size=1:=by have:=of_decide_eq_true c1;omega
  obtain ⟨a,hl⟩:∃ a,tx s=[a]:=by
   rw [c1] at eJ
   match tx s,eJ with
   | [a],_=>exact ⟨a,rfl⟩
  refine ⟨_,rfl,fun _=>?_⟩;have ha:=a.toNat_lt;rw [xM hl 0 rfl,hl];exact J4 (by show _<=(a.toNat:Int);omega) (by show (a.toNat:Int)<=_;omega)
 ·refine aE (fun _=>false) mo (by decide +kernel) ?_;refine ⟨⟨by omega,by omega⟩,?_⟩;have hw7:IntKind.i64.wrap (7 - (s.size:Int))=7 - s.size:=wrap64 (by omega) (by omega);have hw2:IntKind.i64.wrap (1 + 1)=2:=rfl;have O1:IntKind.i64.wrap (IntKind.i64.wrap (1 + 1) + 1)=3:=rfl
  have c1:¬ s.size=1:=by
   have:=of_decide_eq_false c1;omega
  refine ⟨by rw [hw7];omega,?_⟩;refine br (fun c4=>?_) (fun c4=>?_)
  ·have c4:s.size=4:=by have:=of_decide_eq_true c4;omega
   refine ⟨by omega,?_⟩;refine ⟨⟨by first | omega | (rw [hw2];omega),by first | omega | (rw [hw2];omega)⟩,?_⟩;refine ⟨by omega,?_⟩;refine ⟨⟨by first | omega | (rw [hw2];omega),by first | omega | (rw [hw2];omega)⟩,?_⟩;refine ⟨by omega,?_⟩;refine ⟨⟨by first | omega | (rw [O1];omega),by first | omega | (rw [O1];omega)⟩,?_⟩
   obtain ⟨a,b,c,d,hl⟩:∃ a b c d,tx s=[a,b,c,d]:=by
    rw [c4] at eJ
    match tx s,eJ with
    | [a,b,c,d],_=>exact ⟨a,b,c,d,rfl⟩
   refine ⟨_,rfl,fun hi=>?_⟩;have ha:=a.toNat_lt;have hb:=b.toNat_lt;have hc:=c.toNat_lt;have hd:=d.toNat_lt;have hm:IntKind.i32.wrap (IntKind.i32.wrap (1 * 2 ^ min (IntKind.i64.wrap (7 - (s.size:Int))).toNat IntKind.i32.bits) - 1)=((7:Nat):Int):=by rw [c4];all_goals rfl
   rw [hm,xM hl 0 rfl,xM hl 1 rfl,xM hl 2 rfl,xM hl 3 rfl];simp only [List.getD_cons_zero,List.getD_cons_succ];rw [NS 3 rfl (by omega) ha,zc hb,J5 (by omega) (by omega),zc hc,J5 (by omega) (by omega),zc hd,J5 (by omega) (by omega)];rw [hl] at hi ⊢;rw [NR,decide_eq_true_iff] at hi;simp only [recV];omega
  have c4:¬ s.size=4:=by have:=of_decide_eq_false c4;omega
  refine br (fun c3=>?_) (fun c3=>?_)
  ·have c3:s.size=3:=by have:=of_decide_eq_true c3;omega
   refine ⟨by omega,?_⟩;refine ⟨⟨by first | omega | (rw [hw2];omega),by first | omega | (rw [hw2];omega)⟩,?_⟩;refine ⟨by omega,?_⟩;refine ⟨⟨by first | omega | (rw [hw2];omega),by first | omega | (rw [hw2];omega)⟩,?_⟩
   obtain ⟨a,b,c,hl⟩:∃ a b c,tx s=[a,b,c]:=by
    rw [c3] at eJ
    match tx s,eJ with
    | [a,b,c],_=>exact ⟨a,b,c,rfl⟩
   refine ⟨_,rfl,fun hi=>?_⟩;have ha:=a.toNat_lt;have hb:=b.toNat_lt;have hc:=c.toNat_lt;have hm:IntKind.i32.wrap (IntKind.i32.wrap (1 * 2 ^ min (IntKind.i64.wrap (7 - (s.size:Int))).toNat IntKind.i32.bits) - 1)=((15:Nat):Int):=by rw [c3];all_goals rfl
   rw [hm,xM hl 0 rfl,xM hl 1 rfl,xM hl 2 rfl];simp only [List.getD_cons_zero,List.getD_cons_succ];rw [NS 4 rfl (by omega) ha,zc hb,J5 (by omega) (by omega),zc hc,J5 (by omega) (by omega)];rw [hl] at hi ⊢;rw [NR,decide_eq_true_iff] at hi;simp only [recV];omega
  have c3:¬ s.size=3:=by have:=of_decide_eq_false c3;omega
  refine br (fun c2=>?_) (fun c2=>?_)
  ·have c2:s.size=2:=by have:=of_decide_eq_true c2;omega
   refine ⟨by omega,?_⟩;refine ⟨⟨by first | omega | (rw [hw2];omega),by first | omega | (rw [hw2];omega)⟩,?_⟩
   obtain ⟨a,b,hl⟩:∃ a b,tx s=[a,b]:=by
    rw [c2] at eJ
    match tx s,eJ with
    | [a,b],_=>exact ⟨a,b,rfl⟩
   refine ⟨_,rfl,fun hi=>?_⟩;have ha:=a.toNat_lt;have hb:=b.toNat_lt;have hm:IntKind.i32.wrap (IntKind.i32.wrap (1 * 2 ^ min (IntKind.i64.wrap (7 - (s.size:Int))).toNat IntKind.i32.bits) - 1)=((31:Nat):Int):=by rw [c2];all_goals rfl
   rw [hm,xM hl 0 rfl,xM hl 1 rfl];simp only [List.getD_cons_zero,List.getD_cons_succ];rw [NS 5 rfl (by omega) ha,zc hb,J5 (by omega) (by omega)];rw [hl] at hi ⊢;rw [NR,decide_eq_true_iff] at hi;simp only [recV];omega
  ·exfalso;have:=of_decide_eq_false c2;omega
def iP (c i b:Nat):Bool:=if i=0 then decide (gg c<=b) && decide (b<=gh c) else decide (128<=b) && decide (b<=191)
def allC (c:Nat) (r:List UInt8) (k:Nat):Bool:=(List.range k).all fun i=>match r[i]? with
 | some b=>iP c i b.toNat
 | none=>false
theorem J6 (c:Nat) (r:List UInt8) (k:Nat):allC c r (k + 1)=(allC c r k && match r[k]? with | some b=>iP c k b.toNat | none=>false):=by
 simp only [allC,List.range_succ,List.all_append,List.all_cons,List.all_nil,Bool.and_true]
theorem tW {c:Nat} {r:List UInt8} {k n:Nat} (h:k < n) (hk:(match r[k]? with | some b=>iP c k b.toNat | none=>false)=false):allC c r n=false:=by
 cases ha:allC c r n
 ·rfl
 ·unfold allC at ha;rw [List.all_eq_true] at ha;have:=ha k (List.mem_range.2 h);rw [hk] at this;cases this
def lY:List UInt8->Bool
 | []=>false
 | c :: r=>decide (1<=aG c.toNat) && allC c.toNat r (aG c.toNat - 1)
def iV:List UInt8->Nat
 | []=>0
 | c :: r=>if lY (c :: r)=true then aG c.toNat else 1
theorem AN {c:UInt8} {r:List UInt8} (h:lY (c :: r)=true):NR ((c :: r).take (aG c.toNat))=true:=by
 unfold lY at h;rw [Bool.and_eq_true,decide_eq_true_iff] at h;obtain ⟨h1,h2⟩:=h
 have hb:∀ i,i < aG c.toNat - 1->∃ b:UInt8,r[i]? = some b/\128<=b.toNat/\b.toNat < 192:=fun i hi=>by
  unfold allC at h2;rw [List.all_eq_true] at h2;have h3:=h2 i (List.mem_range.2 hi)
  cases hr:r[i]? with
  | none=>rw [hr] at h3;cases h3
  | some b=>
   rw [hr] at h3;refine ⟨b,rfl,?_⟩;simp only [iP] at h3
   have hL:128<=gg c.toNat:=by
    unfold gg
    repeat' split
    all_goals omega
   have hH:gh c.toNat<=191:=by
    unfold gh
    repeat' split
    all_goals omega
   split at h3<;>(rw [Bool.and_eq_true,decide_eq_true_iff,decide_eq_true_iff] at h3;omega)
 have hn:(aG c.toNat=1/\c.toNat < 128)∨(aG c.toNat=2/\192<=c.toNat/\c.toNat < 224)∨(aG c.toNat=3/\224<=c.toNat/\c.toNat < 240)∨(aG c.toNat=4/\240<=c.toNat/\c.toNat < 248):=by
  unfold aG at h1 ⊢
  repeat' split at h1
  all_goals (repeat' split)
  all_goals omega
 rcases hn with ⟨hn,hc⟩ | ⟨hn,hc⟩ | ⟨hn,hc⟩ | ⟨hn,hc⟩<;>rw [hn] at hb ⊢
 ·simp [NR,hc]
 ·obtain ⟨b,h5,h6⟩:=hb 0 (by omega)
  match r,h5 with
  | x :: r,h5=>
   simp only [List.getElem?_cons_zero,oI] at h5;subst h5;simp [NR];omega
 ·obtain ⟨b,h5,h6⟩:=hb 0 (by omega);obtain ⟨b',h7,h8⟩:=hb 1 (by omega)
  match r,h5,h7 with
  | x :: y :: r,h5,h7=>
   simp only [List.getElem?_cons_zero,List.getElem?_cons_succ,oI] at h5 h7;subst h5 h7;simp [NR];omega
 ·obtain ⟨b,h5,h6⟩:=hb 0 (by omega);obtain ⟨b',h7,h8⟩:=hb 1 (by omega);obtain ⟨b2,h9,pq⟩:=hb 2 (by omega)
  match r,h5,h7,h9 with
  | x :: y :: v :: r,h5,h7,h9=>
   simp only [List.getElem?_cons_zero,List.getElem?_cons_succ,oI] at h5 h7 h9;subst h5 h7 h9;simp [NR];omega
set_option maxHeartbeats 4000000 in
theorem zd (s:ByteArray) (aC:Nat) (hs:s.size<=1099511627776) (c:UInt8) (r:List UInt8) (h:(tx s).drop aC=c :: r) :
  Ev Tryz.prog 179 [.v (.string s),.v (.int .i64 aC)] [] [] (fun d _ _=>∃ (z:Int) (n:Nat),d = .tup [.v (.int .i32 z),.v (.int .i64 n),.v (.bool (lY (c :: r)))]/\(lY (c :: r)=true->n=aG c.toNat/\z=recV ((c :: r).take n))/\1<=n):=by
 have hlen:aC < s.size:=by
  have:=congrArg List.length h;rw [List.length_drop,bm] at this;simp at this;omega
 have hB:tx (s.extract (aC:Int).toNat (s.size:Int).toNat)=c :: r:=by
  rw [<- h];simp [tx,Int.toNat_natCast];exact List.take_of_length_le (by rw [List.length_drop];have:=bm s;unfold tx at this;omega)
 have bE:(s.extract (aC:Int).toNat (s.size:Int).toNat).size=r.length + 1:=by rw [<- bm,hB];all_goals rfl
 have O3:∀ (k:Nat) b,r[k]? = some b->cL (s.extract (aC:Int).toNat (s.size:Int).toNat) (k + 1)=b.toNat:=fun k b hk=>by
  show ((tx _).getD (k + 1) 0).toNat=_;rw [hB];simp [List.getD_eq_getElem?_getD,hk]
 have Qa:EvP Tryz.prog 220 [.v (.int .u8 (cL (s.extract (aC:Int).toNat (s.size:Int).toNat) 0:Nat))] (.tup [.v (.int .i64 (aG c.toNat:Nat)),.v (.int .u8 (gg c.toNat:Nat)),.v (.int .u8 (gh c.toNat:Nat))]):=by
  have:cL (s.extract (aC:Int).toNat (s.size:Int).toNat) 0=c.toNat:=by
   show ((tx _).getD 0 0).toNat=_;rw [hB];rfl
  rw [this];exact J3 c.toNat
 have hv:=fun (k:Nat) (h1:1<=k) (h2:k<=4) (h3:k<=r.length + 1)=>Gb ((s.extract (aC:Int).toNat (s.size:Int).toNat).extract 0 k) (by
  have:((s.extract (aC:Int).toNat (s.size:Int).toNat).extract 0 k).size=k:=by
   rw [ByteArray.size_extract,bE];omega
  omega)
 have hu:lY (c :: r)=(decide (1<=aG c.toNat) && allC c.toNat r (aG c.toNat - 1)):=rfl;have rf:=AN (c:=c) (r:=r);generalize lY (c :: r)=U at hu rf ⊢
 have hn4:aG c.toNat<=4:=by
  unfold aG
  repeat' split
  all_goals omega
 refine ev_go (P:=Tryz.prog) tt tt_ok 5000 60 [.tmp 4,.tmp 5,.tmp 6] Tryz.func179 rfl Tryz.ntmps179 rfl (nL rfl) (fun E9 w9 hn9 hm9=>?_);refine br (fun c=>absurd c (by simp [aj];omega)) (fun _=>?_);refine ⟨⟨by omega,by omega,by omega⟩,?_⟩;refine ⟨⟨by omega,by rw [bE];omega⟩,?_⟩;refine call_p XF (Qa) ax rfl ?_;refine br (fun g=>?_) (fun g=>?_)
 ·have g:aG c.toNat=0:=by have:=of_decide_eq_true g;omega
  have bG:U=false:=by rw [hu,g];all_goals rfl
  subst bG;exact ⟨.tup [.v (.int .i32 0),.v (.int .i64 (1:Nat)),.v (.bool false)],ax,0,1,rfl,fun h=>(by cases h),by omega⟩
 have g:1<=aG c.toNat:=by have:=of_decide_eq_false g;omega
 refine aq (fun j st=>∃ i:Nat,st=⟨[(0,⟨[],.v (.string (s.extract (aC:Int).toNat (s.size:Int).toNat))⟩),(7,⟨[],.v (.int .i64 (aG c.toNat:Nat))⟩),(8,⟨[],.v (.int .u8 ((if i=0 then gg c.toNat else 128:Nat):Int))⟩),(9,⟨[],.v (.int .u8 ((if i=0 then gh c.toNat else 191:Nat):Int))⟩),(10,⟨[],.v (.int .i64 ((i + 1:Nat):Int))⟩)],[],[]⟩/\i + 1<=aG c.toNat/\allC c.toNat r i=true/\j=aG c.toNat - (i + 1)) (aG c.toNat - (0 + 1))
  ⟨[(0,⟨[],.v (.string (s.extract (aC:Int).toNat (s.size:Int).toNat))⟩),(7,⟨[],.v (.int .i64 (aG c.toNat:Nat))⟩),(8,⟨[],.v (.int .u8 ((if 0=0 then gg c.toNat else 128:Nat):Int))⟩),(9,⟨[],.v (.int .u8 ((if 0=0 then gh c.toNat else 191:Nat):Int))⟩),(10,⟨[],.v (.int .i64 ((0 + 1:Nat):Int))⟩)],[],[]⟩ (weak_mk ⟨_,rfl⟩ wA rfl rfl rfl EJ) ⟨0,rfl,by omega,rfl,by omega⟩ ?_
 rintro j st ⟨i,rfl,hi,ha,rfl⟩;refine br (fun hL=>?_) (fun hL=>?_)
 ·have ap:i + 1 < aG c.toNat:=by have:=of_decide_eq_true hL;omega
  refine br (fun k=>?_) (fun k=>?_)
  ·have k:i < r.length:=by
    have:=k;have nZ:(s.extract aC s.size).size=r.length + 1:=bE;simp [nZ] at this;omega
   obtain ⟨b,hb⟩:∃ b,r[i]? = some b:=⟨_,gE k⟩;have hbb:=O3 i b hb;refine ⟨⟨by omega,by rw [bE];omega⟩,?_⟩
   have Yi:iP c.toNat i b.toNat=(decide ((if i=0 then gg c.toNat else 128)<=b.toNat) && decide (b.toNat<=(if i=0 then gh c.toNat else 191))):=by
    unfold iP;split<;>rfl
   have has:=J6 c.toNat r i;rw [ha,hb,Bool.true_and] at has;simp only [Yi] at has;have e:cL (s.extract (aC:Int).toNat (s.size:Int).toNat) (((i + 1:Nat):Int)).toNat=b.toNat:=hbb;refine br (fun k2=>?_) (fun k2=>?_)
   ·have k2:(if i=0 then gg c.toNat else 128)<=b.toNat:=by
     have k3:=k2;rw [e] at k3;generalize (if i=0 then gg c.toNat else 128)=lo at k3 ⊢;simp [aj] at k3;omega
    refine ⟨⟨by omega,by rw [bE];omega⟩,?_⟩;refine br (fun k4=>?_) (fun k4=>?_)
    ·have k4:¬ b.toNat<=(if i=0 then gh c.toNat else 191):=by
      have k3:=k4;rw [e] at k3;generalize (if i=0 then gh c.toNat else 191)=hi at k3 ⊢;simp [aj] at k3;omega
     have hf:=tW (c:=c.toNat) (r:=r) (k:=i) (n:=aG c.toNat - 1) (by omega) (by rw [hb];simp only [Yi];simp [k4]);rw [hf,Bool.and_false] at hu;subst hu;exact ⟨.tup [.v (.int .i32 0),.v (.int .i64 ((i + 1:Nat):Int)),.v (.bool false)],ax,0,i + 1,rfl,fun h=>(by cases h),by omega⟩
    ·have k4:b.toNat<=(if i=0 then gh c.toNat else 191):=by
      have k3:=k4;rw [e] at k3;generalize (if i=0 then gh c.toNat else 191)=hi at k3 ⊢;simp [aj] at k3;omega
     rw [decide_eq_true k2,decide_eq_true k4] at has;exact ⟨⟨[(0,⟨[],.v (.string (s.extract (aC:Int).toNat (s.size:Int).toNat))⟩),(7,⟨[],.v (.int .i64 (aG c.toNat:Nat))⟩),(8,⟨[],.v (.int .u8 ((if i + 1=0 then gg c.toNat else 128:Nat):Int))⟩),(9,⟨[],.v (.int .u8 ((if i + 1=0 then gh c.toNat else 191:Nat):Int))⟩),(10,⟨[],.v (.int .i64 ((i + 1 + 1:Nat):Int))⟩)],[],[]⟩,(weak_mk ⟨_,rfl⟩ wA rfl rfl rfl (wNB ap)),aG c.toNat - (i + 1 + 1),by omega,i + 1,rfl,by omega,has,rfl⟩
   ·have k2:¬ (if i=0 then gg c.toNat else 128)<=b.toNat:=by
     have k3:=k2;rw [e] at k3;generalize (if i=0 then gg c.toNat else 128)=lo at k3 ⊢;simp [aj] at k3;omega
    have hf:=tW (c:=c.toNat) (r:=r) (k:=i) (n:=aG c.toNat - 1) (by omega) (by rw [hb];simp only [Yi];simp [k2]);rw [hf,Bool.and_false] at hu;subst hu;exact ⟨.tup [.v (.int .i32 0),.v (.int .i64 ((i + 1:Nat):Int)),.v (.bool false)],ax,0,i + 1,rfl,fun h=>(by cases h),by omega⟩
  ·have k:r.length<=i:=by
    have:=k;have nZ:(s.extract aC s.size).size=r.length + 1:=bE;simp [nZ] at this;omega
   have hf:=tW (c:=c.toNat) (r:=r) (k:=i) (n:=aG c.toNat - 1) (by omega) (by rw [List.getElem?_eq_none k]);rw [hf,Bool.and_false] at hu;subst hu;exact ⟨.tup [.v (.int .i32 0),.v (.int .i64 ((i + 1:Nat):Int)),.v (.bool false)],ax,0,i + 1,rfl,fun h=>(by cases h),by omega⟩
 ·have aO:i + 1=aG c.toNat:=by have:=of_decide_eq_false hL;omega
  have hu1:U=true:=by
   rw [hu,<- aO];simp [ha]
  subst hu1
  have gl:aG c.toNat<=r.length + 1:=by
   rcases Nat.lt_or_ge r.length (aG c.toNat - 1) with h | h
   ·have hf:=tW (c:=c.toNat) (r:=r) (k:=r.length) (n:=aG c.toNat - 1) h (by rw [List.getElem?_eq_none (Nat.le_refl _)]);rw [<- aO,Nat.add_sub_cancel,ha] at hf;cases hf
   ·omega
  have hv:=hv (aG c.toNat) (by omega) hn4 gl;refine ⟨⟨by omega,by omega,by rw [bE];omega⟩,?_⟩;refine bq XG rfl hv ax (fun q hq=>?_);obtain ⟨z,rfl,hz⟩:=hq;rw [show tx ((s.extract (aC:Int).toNat (s.size:Int).toNat).extract 0 (aG c.toNat))=(c :: r).take (aG c.toNat) from by rw [<- hB,(by simp [tx]:∀ (B:ByteArray) k,tx (B.extract 0 k)=(tx B).take k)]] at hz;exact ⟨.tup [.v (.int .i32 z),.v (.int .i64 (aG c.toNat:Nat)),.v (.bool true)],ax,z,aG c.toNat,rfl,fun _=>⟨rfl,hz (rf rfl)⟩,by omega⟩
def recC (l:List UInt8) (e j:Nat):Int:=if j < e then ((l.getD j 0).toNat:Int) - 128 else 0
abbrev Dt (l:List UInt8) (e:Nat):List DV:=[.v (.int .i64 (recC l e 0)),.v (.int .i64 (recC l e 1)),.v (.int .i64 (recC l e 2)),.v (.int .i64 (recC l e 3))]
abbrev NT (s:ByteArray) (e:Nat):St:=⟨[(0,⟨[],.v (.string s)⟩),(3,⟨[],.loc 0 0⟩),(4,⟨[],.v (.int .i64 e)⟩)],[Dt (tx s) e],[]⟩
theorem NU (l:List UInt8) (e:Nat) (h:e < 4) (z:Int) (hz:z=((l.getD e 0).toNat:Int) - 128):(Dt l e).set e (.v (.int .i64 z))=Dt l (e + 1):=by
 subst hz;have c:e=0∨e=1∨e=2∨e=3:=by omega
 rcases c with rfl | rfl | rfl | rfl<;>simp [Dt,recC]
theorem Ij {n m:Nat} {tk:List TkE} {l:List DV} {bs:List UInt8} {e:Nat} (h:l=Dt bs e):WeL n m tk l (Dt bs e):=by
 subst h;exact ⟨_,_,rfl,ah rfl,_,_,rfl,ah rfl,_,_,rfl,ah rfl,_,_,rfl,ah rfl,rfl⟩
theorem rec_1 (a:UInt8):IntKind.i64.wrap (((a.toNat:Int) - 128) + 128)=recV [a]:=by
 have ga:=a.toNat_lt;simp only [recV];rw [wrap64 (by omega) (by omega)];omega
theorem rec_2 (a b:UInt8):IntKind.i64.wrap (IntKind.i64.wrap (IntKind.i64.wrap (((a.toNat:Int) - 128) - 64) * 64) + ((b.toNat:Int) - 128))=recV [a,b]:=by
 have ga:=a.toNat_lt;have gb:=b.toNat_lt;simp only [recV];rw [wrap64 (n:=((a.toNat:Int) - 128) - 64) (by omega) (by omega),wrap64 (n:=_ * 64) (by omega) (by omega),wrap64 (by omega) (by omega)];omega
theorem rec_3 (a b c:UInt8):IntKind.i64.wrap (IntKind.i64.wrap (IntKind.i64.wrap (IntKind.i64.wrap (((a.toNat:Int) - 128) - 96) * 4096) + IntKind.i64.wrap (((b.toNat:Int) - 128) * 64)) + ((c.toNat:Int) - 128))=recV [a,b,c]:=by
 have ga:=a.toNat_lt;have gb:=b.toNat_lt;have gc:=c.toNat_lt;simp only [recV];rw [wrap64 (n:=((a.toNat:Int) - 128) - 96) (by omega) (by omega),wrap64 (n:=_ * 4096) (by omega) (by omega),wrap64 (n:=_ * 64) (by omega) (by omega),wrap64 (n:=_ + ((b.toNat:Int) - 128) * 64) (by omega) (by omega),wrap64 (by omega) (by omega)];omega
theorem rec_4 (a b c d:UInt8):IntKind.i64.wrap (IntKind.i64.wrap (IntKind.i64.wrap (IntKind.i64.wrap (IntKind.i64.wrap (((a.toNat:Int) - 128) - 112) * 262144) + IntKind.i64.wrap (((b.toNat:Int) - 128) * 4096)) + IntKind.i64.wrap (((c.toNat:Int) - 128) * 64)) + ((d.toNat:Int) - 128))=recV [a,b,c,d]:=by
 have ga:=a.toNat_lt;have gb:=b.toNat_lt;have gc:=c.toNat_lt;have gd:=d.toNat_lt;simp only [recV];rw [wrap64 (n:=((a.toNat:Int) - 128) - 112) (by omega) (by omega),wrap64 (n:=_ * 262144) (by omega) (by omega),wrap64 (n:=_ * 4096) (by omega) (by omega),wrap64 (n:=_ + ((b.toNat:Int) - 128) * 4096) (by omega) (by omega),wrap64 (n:=_ * 64) (by omega) (by omega),wrap64 (n:=_ + ((c.toNat:Int) - 128) * 64) (by omega) (by omega),wrap64 (by omega) (by omega)];omega
theorem oU (s:ByteArray) (h:1<=s.size/\s.size<=4):EvP Tryz.prog 224 [.v (.string s)] (.v (.int .i64 (recV (tx s)))):=by
 have eJ:=bm s;refine ev_go (P:=Tryz.prog) tt tt_ok 5000 63 [.tmp 2] Tryz.func224 rfl Tryz.ntmps224 rfl (nL rfl) (fun E9 w9 hn9 hm9=>?_);refine aq (fun j st=>∃ e:Nat,st=NT s e/\e<=s.size/\j=s.size - e) s.size (NT s 0) (az 1 rfl (by repeat' (first | exact rfl | exact ah rfl | exact ah rfl | refine ⟨_,_,rfl,?_,?_⟩)) rfl rfl rfl (by repeat' (first | exact trivial | exact ah rfl | exact ah rfl | refine ⟨⟨_,rfl,?_⟩,?_⟩))) ⟨0,rfl,by omega,by omega⟩ ?_;rintro j st ⟨e,rfl,he,rfl⟩;refine br (fun hL=>?_) (fun hL=>?_)
 ·have ap:e < s.size:=by have:=of_decide_eq_true hL;omega
  refine ⟨⟨by omega,by omega⟩,?_⟩;refine ⟨⟨by omega,by omega⟩,?_⟩;have hb:cL s e=((tx s).getD e 0).toNat:=rfl
  have hz:IntKind.i64.wrap (IntKind.i64.wrap (cL s ((e:Int).toNat):Nat) - 128)=(((tx s).getD e 0).toNat:Int) - 128:=by
   have h1:=((tx s).getD e 0).toNat_lt;have h2:cL s ((e:Int).toNat)=((tx s).getD e 0).toNat:=rfl;rw [h2,wrap64 (n:=(((tx s).getD e 0).toNat:Int)) (by omega) (by omega)];exact wrap64 (by omega) (by omega)
  have ct:(Dt (tx s) e).set (0 + (e:Int).toNat * 1) (.v (.int .i64 (IntKind.i64.wrap (IntKind.i64.wrap (cL s ((e:Int).toNat):Nat) - 128))))=Dt (tx s) (e + 1):=by
   rw [show 0 + (e:Int).toNat * 1=e by omega];exact NU _ _ (by omega) _ hz
  refine ⟨by simp;omega,?_⟩;exact ⟨NT s (e + 1),(az 1 rfl (by repeat' (first | exact rfl | exact ah rfl | exact Ij ct | exact ak (cx ap (by omega)) | refine ⟨_,_,rfl,?_,?_⟩)) rfl rfl rfl (by repeat' (first | exact trivial | exact ah rfl | exact Ij ct | exact ak (cx ap (by omega)) | refine ⟨⟨_,rfl,?_⟩,?_⟩))),s.size - (e + 1),by omega,e + 1,rfl,by omega,rfl⟩
 ·have aO:e=s.size:=by have:=of_decide_eq_false hL;omega
  subst aO;refine br (fun cn=>?_) (fun cn=>?_)
  ·have cn:s.size=1:=by have:=of_decide_eq_true cn;omega
   obtain ⟨a,hl⟩:∃ a,tx s=[a]:=by
    rw [cn] at eJ
    match tx s,eJ with
    | [a],_=>exact ⟨a,rfl⟩
   have ha:recC (tx s) s.size 0=(a.toNat:Int) - 128:=by rw [hl,cn];all_goals rfl
   have ga:=a.toNat_lt;refine ⟨⟨by omega,by omega⟩,?_⟩;refine (congrArg (fun z=>DV.v (.int .i64 z)) ?_:_=_);rw [ha,hl];exact rec_1 a
  have c1:¬ s.size=1:=by have:=of_decide_eq_false cn;omega
  refine br (fun cn=>?_) (fun cn=>?_)
  ·have cn:s.size=2:=by have:=of_decide_eq_true cn;omega
   obtain ⟨a,b,hl⟩:∃ a b,tx s=[a,b]:=by
    rw [cn] at eJ
    match tx s,eJ with
    | [a,b],_=>exact ⟨a,b,rfl⟩
   have ha:recC (tx s) s.size 0=(a.toNat:Int) - 128:=by rw [hl,cn];all_goals rfl
   have ga:=a.toNat_lt;have hb:recC (tx s) s.size 1=(b.toNat:Int) - 128:=by rw [hl,cn];all_goals rfl
   have gb:=b.toNat_lt;refine ⟨⟨by omega,by omega⟩,?_⟩;refine ⟨⟨by omega,by omega⟩,?_⟩;refine (congrArg (fun z=>DV.v (.int .i64 z)) ?_:_=_);rw [ha,hb,hl];exact rec_2 a b
  have c2:¬ s.size=2:=by have:=of_decide_eq_false cn;omega
  refine br (fun cn=>?_) (fun cn=>?_)
  ·have cn:s.size=3:=by have:=of_decide_eq_true cn;omega
   obtain ⟨a,b,c,hl⟩:∃ a b c,tx s=[a,b,c]:=by
    rw [cn] at eJ
    match tx s,eJ with
    | [a,b,c],_=>exact ⟨a,b,c,rfl⟩
   have ha:recC (tx s) s.size 0=(a.toNat:Int) - 128:=by rw [hl,cn];all_goals rfl
   have ga:=a.toNat_lt;have hb:recC (tx s) s.size 1=(b.toNat:Int) - 128:=by rw [hl,cn];all_goals rfl
   have gb:=b.toNat_lt;have hc:recC (tx s) s.size 2=(c.toNat:Int) - 128:=by rw [hl,cn];all_goals rfl
   have gc:=c.toNat_lt;refine ⟨⟨by omega,by omega⟩,?_⟩;refine ⟨⟨by omega,by omega⟩,?_⟩;refine ⟨⟨by omega,by omega⟩,?_⟩;refine (congrArg (fun z=>DV.v (.int .i64 z)) ?_:_=_);rw [ha,hb,hc,hl];exact rec_3 a b c
  have c3:¬ s.size=3:=by have:=of_decide_eq_false cn;omega
  have cn:s.size=4:=by omega
  obtain ⟨a,b,c,d,hl⟩:∃ a b c d,tx s=[a,b,c,d]:=by
   rw [cn] at eJ
   match tx s,eJ with
   | [a,b,c,d],_=>exact ⟨a,b,c,d,rfl⟩
  have ha:recC (tx s) s.size 0=(a.toNat:Int) - 128:=by rw [hl,cn];all_goals rfl
  have ga:=a.toNat_lt;have hb:recC (tx s) s.size 1=(b.toNat:Int) - 128:=by rw [hl,cn];all_goals rfl
  have gb:=b.toNat_lt;have hc:recC (tx s) s.size 2=(c.toNat:Int) - 128:=by rw [hl,cn];all_goals rfl
  have gc:=c.toNat_lt;have hd:recC (tx s) s.size 3=(d.toNat:Int) - 128:=by rw [hl,cn];all_goals rfl
  have gd:=d.toNat_lt;refine ⟨⟨by omega,by omega⟩,?_⟩;refine ⟨⟨by omega,by omega⟩,?_⟩;refine ⟨⟨by omega,by omega⟩,?_⟩;refine ⟨⟨by omega,by omega⟩,?_⟩;refine (congrArg (fun z=>DV.v (.int .i64 z)) ?_:_=_);rw [ha,hb,hc,hd,hl];exact rec_4 a b c d
def jJ (z:Int):Bool:=decide (0<=z) && decide (z<=1114111) && (decide (z < 55296) || decide (57343 < z))
theorem sM (z:Int):EvP Tryz.prog 225 [.v (.int .i32 z)] (.v (.bool (jJ z))):=by
 refine ev_go (P:=Tryz.prog) tt tt_ok 5000 17 [.tmp 2] Tryz.func225 rfl Tryz.ntmps225 rfl (nL rfl) (fun E9 w9 hn9 hm9=>?_);refine (congrArg (fun b=>DV.v (.bool b)) ?_:_=_);simp only [pickB_and,aj,jJ]
def xN (n:Nat):List UInt8:=
 if n < 128 then [UInt8.ofNat n] else if n < 2048 then [UInt8.ofNat (192 + n / 64),UInt8.ofNat (128 + n % 64)]
 else if n < 65536 then [UInt8.ofNat (224 + n / 4096),UInt8.ofNat (128 + n / 64 % 64),UInt8.ofNat (128 + n % 64)]
 else [UInt8.ofNat (240 + n / 262144),UInt8.ofNat (128 + n / 4096 % 64),UInt8.ofNat (128 + n / 64 % 64),UInt8.ofNat (128 + n % 64)]
def Du (z:Int):List UInt8:=if jJ z=true then xN z.toNat else []
theorem b8 {x:Int} {k:Nat} (hx:x=k) (hk:k < 256):IntKind.u8.wrap x=((UInt8.ofNat k).toNat:Int):=by
 rw [hx,UInt8.toNat_ofNat',IntKind.wrap_u8'];omega
theorem UL {n k:Nat} (hn:n<=1114111):IntKind.i64.wrap ((n:Int).tdiv (k:Int))=((n / k:Nat):Int):=by
 rw [Int.tdiv_eq_ediv_of_nonneg (by omega),<- Int.natCast_ediv];have:=Nat.div_le_self n k;generalize n / k=q at this ⊢;exact wrap64 (by omega) (by omega)
theorem NV {n:Nat} (hn:n<=1114111):IntKind.i64.wrap ((n:Int).tdiv 64)=((n / 64:Nat):Int):=UL hn
theorem Ik {n:Nat} (hn:n<=1114111):IntKind.i64.wrap ((n:Int).tdiv 4096)=((n / 4096:Nat):Int):=UL hn
theorem J7 {n:Nat} (hn:n<=1114111):IntKind.i64.wrap ((n:Int).tdiv 262144)=((n / 262144:Nat):Int):=UL hn
theorem J8 (n:Nat):(n:Int).tmod 64=((n % 64:Nat):Int):=by
 rw [Int.tmod_eq_emod_of_nonneg (by omega)];omega
theorem wg (z:Int):EvP Tryz.prog 226 [.v (.int .i32 z)] (.v (.string (ba (Du z)))):=by
 have hs:=sM z;have hE:Du z=if jJ z=true then xN z.toNat else []:=rfl
 have hB:jJ z=(decide (0<=z) && decide (z<=1114111) && (decide (z < 55296) || decide (57343 < z))):=rfl;generalize Du z=E at hE ⊢;generalize jJ z=B at hs hE hB;refine ev_go (P:=Tryz.prog) tt tt_ok 5000 64 [.tmp 2] Tryz.func226 rfl Tryz.ntmps226 rfl (nL rfl) (fun E9 w9 hn9 hm9=>?_);refine call_p RG (hs) ax rfl ?_
 cases B with
 | false=>
  rw [if_neg (by simp)] at hE;subst hE;exact (rfl:_=_)
 | true=>
  rw [if_pos rfl] at hE;have hB:=hB.symm;simp at hB;obtain ⟨n,rfl⟩:∃ n:Nat,z=n:=⟨z.toNat,by omega⟩;rw [Int.toNat_natCast] at hE;have hn:n<=1114111:=by omega
  have jS:IntKind.i64.wrap (n:Int)=n:=wrap64 (by omega) (by omega);unfold xN at hE;refine br (fun c=>?_) (fun c=>?_)
  ·have c:n < 128:=by have:=of_decide_eq_true c;omega
   rw [if_pos c] at hE;refine ⟨[UInt8.ofNat (n)],?_,?_⟩
   ·simp only [List.flatten_cons,List.flatten_nil,List.append_nil,List.cons_append,List.nil_append,u8L,List.cons.injEq,and_true,DV.v.injEq,Value.int.injEq,true_and]
    ·exact b8 jS (by omega)
   ·rw [hE];exact (rfl:_=_)
  have c1:¬ n < 128:=by have:=of_decide_eq_false c;omega
  rw [if_neg c1] at hE;refine br (fun c=>?_) (fun c=>?_)
  ·have c:n < 2048:=by have:=of_decide_eq_true c;omega
   rw [if_pos c] at hE;refine ⟨⟨rfl,by decide⟩,?_⟩;refine ⟨⟨rfl,by decide⟩,?_⟩;refine ⟨[UInt8.ofNat (192 + n / 64),UInt8.ofNat (128 + n % 64)],?_,?_⟩
   ·simp only [List.flatten_cons,List.flatten_nil,List.append_nil,List.cons_append,List.nil_append,u8L,List.cons.injEq,and_true,DV.v.injEq,Value.int.injEq,true_and];refine ⟨?_,?_⟩
    ·exact b8 (by rw [jS,NV hn];exact wrap64 (by omega) (by omega)) (by omega)
    ·exact b8 (by rw [jS,J8];exact wrap64 (by omega) (by omega)) (by omega)
   ·rw [hE];exact (rfl:_=_)
  have c2:¬ n < 2048:=by have:=of_decide_eq_false c;omega
  rw [if_neg c2] at hE;refine br (fun c=>?_) (fun c=>?_)
  ·have c:n < 65536:=by have:=of_decide_eq_true c;omega
   rw [if_pos c] at hE;refine ⟨⟨rfl,by decide⟩,?_⟩;refine ⟨⟨rfl,by decide⟩,?_⟩;refine ⟨⟨rfl,by decide⟩,?_⟩;refine ⟨⟨rfl,by decide⟩,?_⟩;refine ⟨[UInt8.ofNat (224 + n / 4096),UInt8.ofNat (128 + n / 64 % 64),UInt8.ofNat (128 + n % 64)],?_,?_⟩
   ·simp only [List.flatten_cons,List.flatten_nil,List.append_nil,List.cons_append,List.nil_append,u8L,List.cons.injEq,and_true,DV.v.injEq,Value.int.injEq,true_and];refine ⟨?_,?_,?_⟩
    ·exact b8 (by rw [jS,Ik hn];exact wrap64 (by omega) (by omega)) (by omega)
    ·exact b8 (by rw [jS,NV hn,J8];exact wrap64 (by omega) (by omega)) (by omega)
    ·exact b8 (by rw [jS,J8];exact wrap64 (by omega) (by omega)) (by omega)
   ·rw [hE];exact (rfl:_=_)
  have c3:¬ n < 65536:=by have:=of_decide_eq_false c;omega
  rw [if_neg c3] at hE;refine ⟨⟨rfl,by decide⟩,?_⟩;refine ⟨⟨rfl,by decide⟩,?_⟩;refine ⟨⟨rfl,by decide⟩,?_⟩;refine ⟨⟨rfl,by decide⟩,?_⟩;refine ⟨⟨rfl,by decide⟩,?_⟩;refine ⟨⟨rfl,by decide⟩,?_⟩;refine ⟨[UInt8.ofNat (240 + n / 262144),UInt8.ofNat (128 + n / 4096 % 64),UInt8.ofNat (128 + n / 64 % 64),UInt8.ofNat (128 + n % 64)],?_,?_⟩
  ·simp only [List.flatten_cons,List.flatten_nil,List.append_nil,List.cons_append,List.nil_append,u8L,List.cons.injEq,and_true,DV.v.injEq,Value.int.injEq,true_and];refine ⟨?_,?_,?_,?_⟩
   ·exact b8 (by rw [jS,J7 hn];exact wrap64 (by omega) (by omega)) (by omega)
   ·exact b8 (by rw [jS,Ik hn,J8];exact wrap64 (by omega) (by omega)) (by omega)
   ·exact b8 (by rw [jS,NV hn,J8];exact wrap64 (by omega) (by omega)) (by omega)
   ·exact b8 (by rw [jS,J8];exact wrap64 (by omega) (by omega)) (by omega)
  ·rw [hE];exact (rfl:_=_)
theorem qu (c:UInt8) (r:List UInt8):lY (c :: r)=(decide (1<=aG c.toNat) && allC c.toNat r (aG c.toNat - 1)):=rfl
def Sr (l:List UInt8):Bool:=jJ (recV l) && decide (Du (recV l)=l)
theorem gO {k:Nat} {a:UInt8} (hk:k < 256):UInt8.ofNat k=a↔k=a.toNat:=by
 constructor
 ·rintro rfl;rw [UInt8.toNat_ofNat'];omega
 ·rintro rfl;exact UInt8.ofNat_toNat
theorem qv (l:List UInt8) {v:Int} (hv:recV l=v):Sr l=true↔(0<=v/\v<=1114111/\(v < 55296∨57343 < v))/\xN v.toNat=l:=by
 subst hv;unfold Sr Du;constructor
 ·intro h;rw [Bool.and_eq_true] at h;have h1:=h.1;have h2:=of_decide_eq_true h.2;rw [if_pos h1] at h2;simp [jJ] at h1;exact ⟨by omega,h2⟩
 ·intro ⟨h1,h2⟩;have h3:jJ (recV l)=true:=by simp [jJ];omega
  rw [h3,if_pos rfl];simp [h2]
theorem kY (c:Nat):(c=224/\gg c=160)∨(c=240/\gg c=144)∨(c≠224/\c≠240/\gg c=128):=by
 unfold gg
 repeat' split
 all_goals omega
theorem kZ (c:Nat):(c=237/\gh c=159)∨(c=244/\gh c=143)∨(c≠237/\c≠244/\gh c=191):=by
 unfold gh
 repeat' split
 all_goals omega
theorem contB_0 (c b:Nat):iP c 0 b=true↔gg c<=b/\b<=gh c:=by
 unfold iP;rw [if_pos rfl,Bool.and_eq_true,decide_eq_true_iff,decide_eq_true_iff]
theorem nP (c k b:Nat):iP c (k + 1) b=true↔128<=b/\b<=191:=by
 unfold iP;rw [if_neg (Nat.succ_ne_zero k),Bool.and_eq_true,decide_eq_true_iff,decide_eq_true_iff]
theorem allC_1 (c:Nat) (b:UInt8) (r:List UInt8):allC c (b :: r) 1=iP c 0 b.toNat:=by simp [allC,List.range_succ]
theorem allC_2 (c:Nat) (b d:UInt8) (r:List UInt8):allC c (b :: d :: r) 2=(iP c 0 b.toNat && iP c 1 d.toNat):=by simp [allC,List.range_succ]
theorem allC_3 (c:Nat) (b d e:UInt8) (r:List UInt8):allC c (b :: d :: e :: r) 3=(iP c 0 b.toNat && iP c 1 d.toNat && iP c 2 e.toNat):=by simp [allC,List.range_succ,Bool.and_assoc]
theorem lead_1 (a:Nat):aG a=1↔a < 128:=by
 unfold aG;repeat' split
 all_goals omega
theorem lead_2 (a:Nat):aG a=2↔194<=a/\a<=223:=by
 unfold aG;repeat' split
 all_goals omega
theorem lead_3 (a:Nat):aG a=3↔224<=a/\a<=239:=by
 unfold aG;repeat' split
 all_goals omega
theorem lead_4 (a:Nat):aG a=4↔240<=a/\a<=244:=by
 unfold aG;repeat' split
 all_goals omega
theorem wf_1 (a:UInt8) (r:List UInt8):Sr [a]=true↔lY (a :: r)=true/\aG a.toNat=1:=by
 have ha:=a.toNat_lt;rw [qv _ (v:=(a.toNat:Int)) rfl];rw [Int.toNat_natCast];unfold xN;rw [qu];constructor
 ·intro ⟨h1,h2⟩
  have:a.toNat < 128:=by
   by_cases c:a.toNat < 128
   ·exact c
   ·rw [if_neg c] at h2
    repeat' split at h2
    all_goals (simp at h2)
  have:=(lead_1 _).2 this;rw [this];exact ⟨rfl,rfl⟩
 ·intro ⟨_,h2⟩;have h2:=(lead_1 _).1 h2;rw [if_pos h2];exact ⟨by omega,by rw [UInt8.ofNat_toNat]⟩
theorem wf_2 (a b:UInt8) (r:List UInt8):Sr [a,b]=true↔lY (a :: b :: r)=true/\aG a.toNat=2:=by
 have ha:=a.toNat_lt;have hb:=b.toNat_lt;rw [qv _ (v:=((a.toNat:Int) - 192) * 64 + ((b.toNat:Int) - 128)) rfl];unfold xN;rw [qu];constructor
 ·intro ⟨h1,h2⟩;generalize hn:((((a.toNat:Int) - 192) * 64 + ((b.toNat:Int) - 128))).toNat=n at h2
  repeat' split at h2
  any_goals (simp at h2;done)
  simp only [List.cons.injEq,and_true] at h2;rw [gO (by omega),gO (by omega)] at h2;have:=(lead_2 a.toNat).2 (by omega);rw [this];refine ⟨?_,rfl⟩;show (true && allC _ _ 1)=true;rw [Bool.true_and,allC_1,contB_0];have hL:=kY a.toNat;have hH:=kZ a.toNat;omega
 ·intro ⟨h1,h2⟩;rw [h2] at h1;have h1:(true && allC _ _ 1)=true:=h1;rw [Bool.true_and,allC_1,contB_0] at h1;have hL:=kY a.toNat;have hH:=kZ a.toNat;have h2:=(lead_2 _).1 h2;rw [if_neg (by omega),if_pos (by omega)];simp only [List.cons.injEq,and_true];rw [gO (by omega),gO (by omega)];omega
theorem wf_3 (a b c:UInt8) (r:List UInt8):Sr [a,b,c]=true↔lY (a :: b :: c :: r)=true/\aG a.toNat=3:=by
 have ha:=a.toNat_lt;have hb:=b.toNat_lt;have hc:=c.toNat_lt;rw [qv _ (v:=((a.toNat:Int) - 224) * 4096 + ((b.toNat:Int) - 128) * 64 + ((c.toNat:Int) - 128)) rfl];unfold xN;rw [qu];constructor
 ·intro ⟨h1,h2⟩;generalize hn:((((a.toNat:Int) - 224) * 4096 + ((b.toNat:Int) - 128) * 64 + ((c.toNat:Int) - 128))).toNat=n at h2
  repeat' split at h2
  any_goals (simp at h2;done)
  simp only [List.cons.injEq,and_true] at h2;rw [gO (by omega),gO (by omega),gO (by omega)] at h2;have:=(lead_3 a.toNat).2 (by omega);rw [this];refine ⟨?_,rfl⟩;show (true && allC _ _ 2)=true;rw [Bool.true_and,allC_2,Bool.and_eq_true,contB_0,nP _ 0];have hL:=kY a.toNat;have hH:=kZ a.toNat;omega
 ·intro ⟨h1,h2⟩;rw [h2] at h1;have h1:(true && allC _ _ 2)=true:=h1;rw [Bool.true_and,allC_2,Bool.and_eq_true,contB_0,nP _ 0] at h1;have hL:=kY a.toNat;have hH:=kZ a.toNat;have h2:=(lead_3 _).1 h2;rw [if_neg (by omega),if_neg (by omega),if_pos (by omega)];simp only [List.cons.injEq,and_true];rw [gO (by omega),gO (by omega),gO (by omega)];omega
theorem wf_4 (a b c d:UInt8) (r:List UInt8):Sr [a,b,c,d]=true↔lY (a :: b :: c :: d :: r)=true/\aG a.toNat=4:=by
 have ha:=a.toNat_lt;have hb:=b.toNat_lt;have hc:=c.toNat_lt;have hd:=d.toNat_lt;rw [qv _ (v:=((a.toNat:Int) - 240) * 262144 + ((b.toNat:Int) - 128) * 4096 + ((c.toNat:Int) - 128) * 64 + ((d.toNat:Int) - 128)) rfl];unfold xN;rw [qu];constructor
 ·intro ⟨h1,h2⟩;generalize hn:((((a.toNat:Int) - 240) * 262144 + ((b.toNat:Int) - 128) * 4096 + ((c.toNat:Int) - 128) * 64 + ((d.toNat:Int) - 128))).toNat=n at h2
  repeat' split at h2
  any_goals (simp at h2;done)
  simp only [List.cons.injEq,and_true] at h2;rw [gO (by omega),gO (by omega),gO (by omega),gO (by omega)] at h2;have:=(lead_4 a.toNat).2 (by omega);rw [this];refine ⟨?_,rfl⟩;show (true && allC _ _ 3)=true;rw [Bool.true_and,allC_3,Bool.and_eq_true,Bool.and_eq_true,contB_0,nP _ 0,nP _ 1];have hL:=kY a.toNat;have hH:=kZ a.toNat;omega
 ·intro ⟨h1,h2⟩;rw [h2] at h1;have h1:(true && allC _ _ 3)=true:=h1;rw [Bool.true_and,allC_3,Bool.and_eq_true,Bool.and_eq_true,contB_0,nP _ 0,nP _ 1] at h1;have hL:=kY a.toNat;have hH:=kZ a.toNat;have h2:=(lead_4 _).1 h2;rw [if_neg (by omega),if_neg (by omega),if_neg (by omega)];simp only [List.cons.injEq,and_true];rw [gO (by omega),gO (by omega),gO (by omega),gO (by omega)];omega
theorem AO (a:Nat):aG a<=4:=by
 unfold aG;repeat' split
 all_goals omega
theorem nQ {l:List UInt8} (h:lY l=true):∃ c r,l=c :: r/\1<=aG c.toNat/\aG c.toNat<=l.length/\iV l=aG c.toNat:=by
 cases l with
 | nil=>cases h
 | cons c r=>
  refine ⟨c,r,rfl,?_,?_,?_⟩
  ·unfold lY at h;rw [Bool.and_eq_true] at h;exact of_decide_eq_true h.1
  ·have h0:=h;unfold lY at h;rw [Bool.and_eq_true] at h;rcases Nat.lt_or_ge r.length (aG c.toNat - 1) with g | g
   ·have h2:=h.2;unfold allC at h2;rw [List.all_eq_true] at h2;have:=h2 r.length (List.mem_range.2 g);rw [List.getElem?_eq_none (Nat.le_refl _)] at this;cases this
   ·rw [List.length_cons];omega
  ·show (if _ then _ else _)=_;rw [if_pos h]
theorem Zy (c:UInt8) (r:List UInt8) (n:Nat) (h1:1<=n) (h4:n<=4) (hl:n<=r.length + 1):Sr ((c :: r).take n)=(lY (c :: r) && decide (aG c.toNat=n)):=by
 apply Bool.eq_iff_iff.2;rw [Bool.and_eq_true,decide_eq_true_iff]
 match n,h1,h4,hl with
 | 1,_,_,_=>exact wf_1 c r
 | 2,_,_,h=>match r,h with
  | b :: r,_=>exact wf_2 c b r
 | 3,_,_,h=>match r,h with
  | b :: d :: r,_=>exact wf_3 c b d r
 | 4,_,_,h=>match r,h with
  | b :: d :: e :: r,_=>exact wf_4 c b d e r
theorem qw {l:List UInt8} (h:l ≠ []):1<=iV l/\iV l<=l.length:=by
 cases l with
 | nil=>exact absurd rfl h
 | cons c r=>
  show 1<=(if _ then _ else _)/\(if _ then _ else _)<=_;split
  ·rename_i g;obtain ⟨c',r',e,h1,h2,h3⟩:=nQ g;cases e;exact ⟨h1,h2⟩
  ·exact ⟨Nat.le_refl _,by rw [List.length_cons];omega⟩
def headL:Nat->List UInt8->List UInt8
 | 0,_=>[]
 | u + 1,l=>l.take (iV l) ++ headL u (l.drop (iV l))
theorem ze (u:Nat):headL u []=[]:=by
 induction u with
 | zero=>rfl
 | succ u ih=>show [].take _ ++ headL u ([].drop _)=[];rw [List.take_nil,List.drop_nil,ih];all_goals rfl
theorem Ka (u:Nat) (l:List UInt8):headL u l <+: l:=by
 induction u generalizing l with
 | zero=>exact List.nil_prefix
 | succ u ih=>
  obtain ⟨t,ht⟩:=ih (l.drop (iV l));refine ⟨t,?_⟩;show (_ ++ _) ++ t=l;rw [List.append_assoc,ht,List.take_append_drop]
theorem oo (n:Int) (p:ByteArray):Ev Tryz.prog 268 [.v (.int .i64 n),.v (.string p)] [] [] (fun d _ _=>∃ b:Bool,d = .v (.bool b)):=by
 have hc:=wg (IntKind.i32.wrap n);refine ev_go (P:=Tryz.prog) tt tt_ok 5000 22 [.tmp 4] Tryz.func268 rfl Tryz.ntmps268 rfl (nL rfl) (fun E9 w9 hn9 hm9=>?_);refine call_p RH (hc) ax rfl ?_;refine br (fun c=>?_) (fun c=>?_)
 ·refine ⟨⟨by omega,by omega,by simp at c;omega⟩,?_⟩;exact ⟨_,rfl⟩
 ·exact ⟨_,rfl⟩
abbrev lf01St (p a z:ByteArray) (e:Nat):St:=⟨[(0,⟨[],.v (.string p)⟩),(3,⟨[],.v (.string a)⟩),(4,⟨[],.v (.string z)⟩),(5,⟨[],.v (.int .i64 e)⟩)],[],[]⟩
theorem size_app (a b:ByteArray):(a ++ b).size=a.size + b.size:=by rw [<- bm,Mg,List.length_append,bm,bm]
theorem Dx (p:ByteArray) (hp:1<=p.size/\p.size<=3):Ev Tryz.prog 227 [.v (.string p)] [] [] (fun d _ _=>∃ b:Bool,d = .v (.bool b)):=by
 refine ev_go (P:=Tryz.prog) tt tt_ok 5000 40 [.tmp 2] Tryz.func227 rfl Tryz.ntmps227 rfl (nL rfl) (fun E9 w9 hn9 hm9=>?_);refine aq (fun j st=>∃ (e:Nat) (a z:ByteArray),st=lf01St p a z e/\e<=4/\p.size<=a.size/\a.size<=4/\z.size=a.size/\j=4 - e) 4 (lf01St p p p 0) (weak_mk ⟨_,rfl⟩ wA rfl rfl rfl EJ) ⟨0,p,p,rfl,by omega,by omega,by omega,rfl,by omega⟩ ?_;rintro j st ⟨e,a,z,rfl,he,ha,ha4,hz,rfl⟩;have hra:=oU a (by omega);have hrz:=oU z (by omega);have hba:=oo (recV (tx a)) p;have hbz:=oo (recV (tx z)) p;refine br (fun hL=>?_) (fun hL=>?_)
 rotate_left
 ·exact ⟨_,rfl⟩
 have ap:e < 4:=by have:=of_decide_eq_true hL;omega
 have iK:∀ (a' z':ByteArray),p.size<=a'.size->a'.size<=4->z'.size=a'.size->∃ j',j' < 4 - e/\∃ (e':Nat) (a'' z'':ByteArray),lf01St p a' z' (e + 1)=lf01St p a'' z'' e' /\ e' <= 4/\p.size<=a''.size/\a''.size<=4/\z''.size=a''.size/\j'=4 - e':=fun a' z' h1 h2 h3=>⟨4 - (e + 1),by omega,e + 1,a',z',rfl,by omega,h1,h2,h3,rfl⟩;refine br (fun c=>?_) (fun c=>?_)
 ·refine call_p LN (hra) ax rfl ?_;refine bq RL rfl hba ax (fun q hq=>?_);obtain ⟨b1,rfl⟩:=hq
  cases b1 with
  | true=>
   exact ⟨_,rfl⟩
  | false=>
   refine call_p LN (hrz) ax rfl ?_;refine bq RL rfl hbz ax (fun q hq=>?_);obtain ⟨b2,rfl⟩:=hq
   cases b2 with
   | true=>
     exact ⟨_,rfl⟩
   | false=>
    refine br (fun g=>?_) (fun g=>?_)
    ·refine ⟨[128],rfl,?_⟩;refine ⟨by show a.size + 1<=_;omega,?_⟩;refine ⟨[191],rfl,?_⟩;refine ⟨by show z.size + 1<=_;omega,?_⟩;obtain ⟨j',h1,h2⟩:=iK (a ++ ba [128]) (z ++ ba [191]) (by rw [size_app];omega) (by rw [size_app];have:=of_decide_eq_true g;show _ + 1<=4;omega) (by rw [size_app,size_app,hz];rfl);exact ⟨lf01St p (a ++ ba [128]) (z ++ ba [191]) (e + 1),(weak_mk ⟨_,rfl⟩ wA rfl rfl rfl (wNB ap)),j',h1,h2⟩
    ·obtain ⟨j',h1,h2⟩:=iK a z ha ha4 hz;exact ⟨lf01St p a z (e + 1),(weak_mk ⟨_,rfl⟩ wA rfl rfl rfl (wNB ap)),j',h1,h2⟩
 ·refine br (fun g=>?_) (fun g=>?_)
  ·refine ⟨[128],rfl,?_⟩;refine ⟨by show a.size + 1<=_;omega,?_⟩;refine ⟨[191],rfl,?_⟩;refine ⟨by show z.size + 1<=_;omega,?_⟩;obtain ⟨j',h1,h2⟩:=iK (a ++ ba [128]) (z ++ ba [191]) (by rw [size_app];omega) (by rw [size_app];have:=of_decide_eq_true g;show _ + 1<=4;omega) (by rw [size_app,size_app,hz];rfl);exact ⟨lf01St p (a ++ ba [128]) (z ++ ba [191]) (e + 1),(weak_mk ⟨_,rfl⟩ wA rfl rfl rfl (wNB ap)),j',h1,h2⟩
  ·obtain ⟨j',h1,h2⟩:=iK a z ha ha4 hz;exact ⟨lf01St p a z (e + 1),(weak_mk ⟨_,rfl⟩ wA rfl rfl rfl (wNB ap)),j',h1,h2⟩
theorem wrap32 {n:Int} (h1 : -2147483648<=n) (h2:n<=2147483647):IntKind.i32.wrap n=n:=by
 simp [IntKind.wrap,IntKind.min,IntKind.max,IntKind.signed,IntKind.bits];omega
abbrev rU (s:ByteArray) (e:Nat):St:=⟨[(0,⟨[],.v (.string s)⟩),(7,⟨[],.v (.int .i64 ((e + 1:Nat):Int))⟩)],[],[]⟩
abbrev AP (s:ByteArray) (m:Int) (e:Nat):St:=⟨[(0,⟨[],.v (.string s)⟩),(9,⟨[],.v (.int .i64 m)⟩),(10,⟨[],.v (.int .i64 ((e + 2:Nat):Int))⟩)],[],[]⟩
theorem NW (l:List UInt8) : -2147483648<=recV l/\recV l<=2147483647:=by
 have hb:=fun x:UInt8=>x.toNat_lt
 match l with
 | []=>simp [recV]
 | [a]=>have:=hb a;simp only [recV];omega
 | [a,b]=>have:=hb a;have:=hb b;simp only [recV];omega
 | [a,b,c]=>have:=hb a;have:=hb b;have:=hb c;simp only [recV];omega
 | [a,b,c,d]=>have:=hb a;have:=hb b;have:=hb c;have:=hb d;simp only [recV];omega
 | _ :: _ :: _ :: _ :: _ :: _=>simp [recV]
theorem tX (s:ByteArray) (n:Nat):tx (s.extract 0 n)=(tx s).take n:=by simp [tx]
theorem NX {s:ByteArray} {l:List UInt8} {k:Nat} (hB:tx s=l):s.extract 0 k=ba (l.take k):=rk (by rw [tX,hB])
theorem NY {a b:List UInt8}:ba a=ba b↔a=b:=⟨fun h=>by have:=congrArg tx h;rwa [mI,mI] at this,fun h=>by rw [h]⟩
theorem wh (s:ByteArray) (aC:Nat) (hs:s.size<=1099511627776) (c:UInt8) (r:List UInt8) (h:(tx s).drop aC=c :: r) :
  Ev Tryz.prog 187 [.v (.string s),.v (.int .i64 aC)] [] [] (fun d _ _=>∃ (z:Int) (n:Int),d = .tup [.v (.int .i32 z),.v (.int .i64 n),.v (.bool (lY (c :: r)))]/\(lY (c :: r)=true->n=aG c.toNat/\z=recV ((c :: r).take (aG c.toNat))/\jJ z=true)):=by
 have hlen:aC < s.size:=by
  have:=congrArg List.length h;rw [List.length_drop,bm] at this;simp at this;omega
 have hB:tx (s.extract (aC:Int).toNat (s.size:Int).toNat)=c :: r:=by
  rw [<- h];simp [tx,Int.toNat_natCast];exact List.take_of_length_le (by rw [List.length_drop];have:=bm s;unfold tx at this;omega)
 have bE:(s.extract (aC:Int).toNat (s.size:Int).toNat).size=r.length + 1:=by rw [<- bm,hB];all_goals rfl
 have hwf:=fun n=>Zy c r n;have bG:=fun (h:lY (c :: r)=true)=>nQ h;refine ev_go (P:=Tryz.prog) tt tt_ok 5000 65 [.tmp 4,.tmp 5,.tmp 6] Tryz.func187 rfl Tryz.ntmps187 rfl (nL rfl) (fun E9 w9 hn9 hm9=>?_);refine br (fun c=>absurd c (by simp [aj];omega)) (fun _=>?_);refine ⟨⟨by omega,by omega,by omega⟩,?_⟩;generalize s.extract (aC:Int).toNat (s.size:Int).toNat=b at hB bE ⊢;refine aq (fun j st=>∃ e:Nat,st=rU b e/\e<=4/\(lY (c :: r)=true->e < aG c.toNat)/\j=4 - e) 4 (rU b 0) (weak_mk ⟨_,rfl⟩ wA rfl rfl rfl EJ) ⟨0,rfl,by omega,fun h=>by obtain ⟨_,_,h1,h2,_⟩:=bG h;cases h1;omega,by omega⟩ ?_;rintro j st ⟨e,rfl,he,aN,rfl⟩;refine br (fun hL=>?_) (fun hL=>?_)
 ·have hL:e < 4/\e<=r.length:=by
   simp [pickB_and,bE] at hL;omega
  have hx:(b.extract 0 (((e + 1:Nat):Int)).toNat)=ba ((c :: r).take (e + 1)):=NX hB;have hbl:(ba ((c :: r).take (e + 1))).size=e + 1:=by rw [<- bm,mI,List.length_take,List.length_cons];omega
  have rV:=oU (b.extract 0 (((e + 1:Nat):Int)).toNat) (by rw [hx];omega);rw [show tx (b.extract 0 (((e + 1:Nat):Int)).toNat)=(c :: r).take (e + 1) from by rw [hx,mI]] at rV;have hri:=NW ((c :: r).take (e + 1));have hw:=hwf (e + 1) (by omega) (by omega) (by omega);have hwd:Sr ((c :: r).take (e + 1))=(jJ (recV ((c :: r).take (e + 1))) && decide (Du (recV ((c :: r).take (e + 1)))=(c :: r).take (e + 1))):=rfl;rw [hwd] at hw;have O4:b.size=r.length + 1:=bE;generalize ES:(c :: r).take (e + 1)=l at rV hri hw hx;generalize VP:recV l=z at rV hri hw;have hzr:z=recV ((c :: r).take (e + 1)):=by rw [ES,VP]
  have QF:IntKind.i32.wrap z=z:=by
   exact wrap32 (by omega) (by omega)
  have El:EvP Tryz.prog 225 [.v (.int .i32 (IntKind.i32.wrap z))] (.v (.bool (jJ z))):=by
   rw [QF];exact sM z
  have j1:EvP Tryz.prog 226 [.v (.int .i32 (IntKind.i32.wrap z))] (.v (.string (ba (Du z)))):=by
   rw [QF];exact wg z
  generalize hsb:jJ z=sb at El hw;generalize Du z=en at j1 hw;refine ⟨⟨by omega,by omega,by omega⟩,?_⟩;refine call_p LN (rV) ax rfl ?_
  have zf:lY (c :: r)=false∨e + 1≠aG c.toNat->∃ j',j' < 4 - e/\∃ e',rU b (e + 1)=rU b e' /\ e' <= 4/\(lY (c :: r)=true->e' < aG c.toNat)/\j'=4 - e':=fun h=>⟨4 - (e + 1),by omega,e + 1,rfl,by omega,fun h2=>by
   have:=aN h2;rcases h with h | h
   ·rw [h] at h2;cases h2
   ·omega,rfl⟩
  have rL:(sb && decide (en=l))=false->lY (c :: r)=false∨e + 1≠aG c.toNat:=fun h=>by
   rw [h] at hw;cases ho:lY (c :: r)
   ·exact .inl rfl
   ·rw [ho] at hw;simp at hw;exact .inr fun h=>hw h.symm
  refine aE (fun _=>false) mo (by decide +kernel) ?_;refine ay RG (El) ax rfl ?_
  cases sb with
  | false=>
   obtain ⟨j',h1,h2⟩:=zf (rL rfl);exact ⟨rU b (e + 1),(weak_mk ⟨_,rfl⟩ wA rfl rfl rfl (by repeat' (first | exact trivial | exact ah rfl | exact ak (cx (by omega:e + 1 < 5) (by omega)) | refine ⟨⟨_,rfl,?_⟩,?_⟩))),j',h1,h2⟩
  | true=>
   refine ay RH (j1) ax rfl ?_;refine ⟨⟨by omega,by omega,by omega⟩,?_⟩;refine br (fun cc=>?_) (fun cc=>?_)
   ·have hT:(true && decide (en=l))=true:=by
     have c1:ba en=b.extract 0 (((e + 1:Nat):Int)).toNat:=by simpa [pickB] using cc
     rw [hx,NY] at c1;simp [c1]
    rw [hT] at hw;have hu:=hw.symm;rw [Bool.and_eq_true,decide_eq_true_iff] at hu;rw [hu.1];exact ⟨.tup [.v (.int .i32 (IntKind.i32.wrap z)),.v (.int .i64 ((e + 1:Nat):Int)),.v (.bool true)],ax,_,_,rfl,fun _=>⟨by rw [hu.2],by rw [QF,hzr,hu.2],by rw [QF,hsb]⟩⟩
   ·have hF:(true && decide (en=l))=false:=by
     have c1:¬ ba en=b.extract 0 (((e + 1:Nat):Int)).toNat:=by simpa [pickB] using cc
     rw [hx,NY] at c1;simp [c1]
    obtain ⟨j',h1,h2⟩:=zf (rL hF);exact ⟨rU b (e + 1),(weak_mk ⟨_,rfl⟩ wA rfl rfl rfl (by repeat' (first | exact trivial | exact ah rfl | exact ak (cx (by omega:e + 1 < 5) (by omega)) | refine ⟨⟨_,rfl,?_⟩,?_⟩))),j',h1,h2⟩
 ·have eI:lY (c :: r)=false:=by
   cases ho:lY (c :: r)
   ·rfl
   ·obtain ⟨_,_,h1,h2,h3,_⟩:=bG ho;cases h1;have h4:=aN ho;have h5:=AO c.toNat;rw [List.length_cons] at h3;simp [pickB_and,bE] at hL;omega
  rw [eI];refine aq (fun j st=>∃ (e:Nat) (m:Int),st=AP b m e/\e<=2/\j=2 - e) 2 (AP b 1 0) (weak_mk ⟨_,rfl⟩ wA rfl rfl rfl EJ) ⟨0,1,rfl,by omega,by omega⟩ ?_;rintro j st ⟨e,m,rfl,he,rfl⟩;refine br (fun hL=>?_) (fun hL=>?_)
  ·have hL:e < 2/\e + 1<=r.length:=by
    simp [pickB_and,bE] at hL;omega
   have hx:(b.extract 0 (((e + 2:Nat):Int)).toNat)=ba ((c :: r).take (e + 2)):=NX hB;have hbl:(ba ((c :: r).take (e + 2))).size=e + 2:=by rw [<- bm,mI,List.length_take,List.length_cons];omega
   have Bu:=Dx (b.extract 0 (((e + 2:Nat):Int)).toNat) (by rw [hx];omega);refine ⟨⟨by omega,by omega,by rw [bE];omega⟩,?_⟩;refine bq XI rfl Bu ax (fun q hq=>?_);obtain ⟨b1,rfl⟩:=hq
   cases b1 with
   | true=>exact ⟨AP b ((e + 2:Nat):Int) (e + 1),(weak_mk ⟨_,rfl⟩ wA rfl rfl rfl (by repeat' (first | exact trivial | exact ah rfl | exact ak (cx (by omega:e + 2 < 4) (by omega)) | refine ⟨⟨_,rfl,?_⟩,?_⟩))),2 - (e + 1),by omega,e + 1,_,rfl,by omega,rfl⟩
   | false=>exact ⟨AP b m (e + 1),(weak_mk ⟨_,rfl⟩ wA rfl rfl rfl (by repeat' (first | exact trivial | exact ah rfl | exact ak (cx (by omega:e + 2 < 4) (by omega)) | refine ⟨⟨_,rfl,?_⟩,?_⟩))),2 - (e + 1),by omega,e + 1,_,rfl,by omega,rfl⟩
  ·exact ⟨.tup [.v (.int .i32 0),.v (.int .i64 m),.v (.bool false)],ax,_,_,rfl,fun h=>by cases h⟩
def spB:List DV->Bool
 | [.v (.int .i32 _),.v (.int .i32 _)]=>true
 | _=>false
theorem NZ {cs:List DV} (h:spB cs=true):∃ a b:Int,cs=[.v (.int .i32 a),.v (.int .i32 b)]:=by
 unfold spB at h;split at h
 ·exact ⟨_,_,rfl⟩
 ·cases h
theorem Ss {es:List (List DV)} (h:es.all spB=true) {i:Nat} (hi:i < es.length):∃ a b:Int,es[i]? = some [.v (.int .i32 a),.v (.int .i32 b)]:=by
 rw [List.all_eq_true] at h;obtain ⟨a,b,oE⟩:=NZ (h es[i] (List.getElem_mem hi));exact ⟨a,b,by rw [gE hi,oE]⟩
def kA (z:Int):List DV->Bool
 | [.v (.int .i32 a),.v (.int .i32 b)]=>decide (a<=z) && decide (z<=b)
 | _=>false
def srtB:Int->List (List DV)->Bool
 | _,[]=>true
 | m,[.v (.int .i32 a),.v (.int .i32 b)] :: r=>decide (m < a) && decide (a<=b) && srtB b r
 | _,_=>false
theorem wi {m:Int} {x:List DV} {r:List (List DV)} (h:srtB m (x :: r)=true):∃ a b:Int,x=[.v (.int .i32 a),.v (.int .i32 b)]/\m < a/\a<=b/\srtB b r=true:=by
 unfold srtB at h;split at h
 ·rename_i aH;cases aH
 ·rename_i aH;injection aH with h1 h2
  subst h1 h2;rw [Bool.and_eq_true,Bool.and_eq_true,decide_eq_true_iff,decide_eq_true_iff] at h;exact ⟨_,_,rfl,h.1.1,h.1.2,h.2⟩
 ·cases h
theorem tY:∀ {es:List (List DV)} {m:Int} (_:srtB m es=true) {i:Nat} {a b:Int} (_:es[i]? = some [.v (.int .i32 a),.v (.int .i32 b)]),m < a/\a<=b/\srtB b (es.drop (i + 1))=true
 | [],_,_,i,_,_,hi=>by simp at hi
 | x :: r,m,h,i,a,b,hi=>by
  obtain ⟨a0,b0,rfl,h1,h2,h3⟩:=wi h
  cases i with
  | zero=>
   simp only [List.getElem?_cons_zero,oI,List.cons.injEq,DV.v.injEq,Value.int.injEq,true_and,and_true] at hi;obtain ⟨rfl,rfl⟩:=hi;exact ⟨h1,h2,h3⟩
  | succ i=>
   obtain ⟨g1,g2,g3⟩:=tY h3 (i:=i) (by simpa using hi);exact ⟨by omega,g2,g3⟩
theorem N1 {z:Int}:∀ {es:List (List DV)} {m:Int} (_:srtB m es=true) (_:z<=m),es.any (kA z)=false
 | [],_,_,_=>rfl
 | x :: r,m,h,hz=>by
  obtain ⟨a0,b0,rfl,h1,h2,h3⟩:=wi h;rw [List.any_cons,N1 h3 (by omega),Bool.or_false];simp only [kA,Bool.and_eq_false_imp,decide_eq_true_iff,decide_eq_false_iff_not];omega
theorem UM {z m:Int} {es:List (List DV)} (h:srtB m es=true) {i:Nat} {a b:Int} (hi:es[i]? = some [.v (.int .i32 a),.v (.int .i32 b)]) (hz:z < a):(es.drop i).any (kA z)=false:=by
 obtain ⟨g1,g2,g3⟩:=tY h hi;rw [drop_cons hi,List.any_cons,N1 g3 (by omega),Bool.or_false];simp only [kA,Bool.and_eq_false_imp,decide_eq_true_iff,decide_eq_false_iff_not];omega
theorem N2 {z:Int}:∀ {es:List (List DV)} {m:Int} (_:srtB m es=true) {i:Nat} {a b:Int} (_:es[i]? = some [.v (.int .i32 a),.v (.int .i32 b)]) (_:b < z),(es.take (i + 1)).any (kA z)=false
 | [],_,_,i,_,_,hi,_=>by simp at hi
 | x :: r,m,h,i,a,b,hi,hz=>by
  obtain ⟨a0,b0,rfl,h1,h2,h3⟩:=wi h
  cases i with
  | zero=>
   simp only [List.getElem?_cons_zero,oI,List.cons.injEq,DV.v.injEq,Value.int.injEq,true_and,and_true] at hi;obtain ⟨rfl,rfl⟩:=hi;simp only [List.take_succ_cons,List.take_zero,List.any_cons,List.any_nil,Bool.or_false,kA,Bool.and_eq_false_imp,decide_eq_true_iff,decide_eq_false_iff_not];omega
  | succ i=>
   have hi:r[i]? = some [.v (.int .i32 a),.v (.int .i32 b)]:=by simpa using hi
   have g1:=(tY h3 hi).1;have g2:=(tY h3 hi).2.1;rw [List.take_succ_cons,List.any_cons,N2 h3 hi hz,Bool.or_false];simp only [kA,Bool.and_eq_false_imp,decide_eq_true_iff,decide_eq_false_iff_not];omega
theorem Il {es:List (List DV)} {z a b:Int} {i:Nat} (hi:es[i]? = some [.v (.int .i32 a),.v (.int .i32 b)]) (h1:a<=z) (h2:z<=b):es.any (kA z)=true:=
 List.any_eq_true.2 ⟨_,mG hi,by simp only [kA,Bool.and_eq_true,decide_eq_true_iff];omega⟩
def QG (d:DV) (_:List (List DV)) (_:List TkE):Prop:=∃ es:List (List DV),d = .sl 2 es none/\(Nat.ble es.length 1000 && es.all spB)=true
set_option maxHeartbeats 4000000 in
theorem N3:Ev Tryz.prog 307 [] [] [] QG:=by
 refine ev_go (P:=Tryz.prog) tt tt_ok 5000 118 [.tmp 0] Tryz.func307 rfl Tryz.ntmps307 rfl (nL rfl) (fun E9 w9 hn9 hm9=>?_);exact ⟨_,ax,_,rfl,rfl⟩
set_option maxHeartbeats 4000000 in
theorem N4:Ev Tryz.prog 308 [] [] [] QG:=by
 refine ev_go (P:=Tryz.prog) tt tt_ok 5000 84 [.tmp 0] Tryz.func308 rfl Tryz.ntmps308 rfl (nL rfl) (fun E9 w9 hn9 hm9=>?_);exact ⟨_,ax,_,rfl,rfl⟩
set_option maxHeartbeats 4000000 in
theorem Gc:Ev Tryz.prog 297 [] [] [] QG:=by
 refine ev_go (P:=Tryz.prog) tt tt_ok 5000 118 [.tmp 0] Tryz.func297 rfl Tryz.ntmps297 rfl (nL rfl) (fun E9 w9 hn9 hm9=>?_);exact ⟨_,ax,_,rfl,rfl⟩
set_option maxHeartbeats 4000000 in
theorem Gd:Ev Tryz.prog 298 [] [] [] QG:=by
 refine ev_go (P:=Tryz.prog) tt tt_ok 5000 84 [.tmp 0] Tryz.func298 rfl Tryz.ntmps298 rfl (nL rfl) (fun E9 w9 hn9 hm9=>?_);exact ⟨_,ax,_,rfl,rfl⟩
abbrev hasSt (es:List (List DV)) (z:Int) (e:Nat):St:=⟨[(0,⟨[],.sl 2 es none⟩),(1,⟨[],.v (.int .i32 z)⟩),(5,⟨[],.v (.int .i64 e)⟩)],[],[]⟩
theorem oV (es:List (List DV)) (z:Int) (hl:es.length<=1000) (hs:es.all spB=true):Ev Tryz.prog 228 [.sl 2 es none,.v (.int .i32 z)] [] [] (fun d _ _=>∃ b:Bool,d = .v (.bool b)/\(0<=z->z<=1114111->b=es.any (kA z))):=by
 refine ev_go (P:=Tryz.prog) tt tt_ok 5000 36 [.tmp 4] Tryz.func228 rfl Tryz.ntmps228 rfl (nL rfl) (fun E9 w9 hn9 hm9=>?_);refine aq (fun j st=>∃ e:Nat,st=hasSt es z e/\e<=es.length/\(0<=z->z<=1114111->es.any (kA z)=(es.drop e).any (kA z))/\j=es.length - e) es.length (hasSt es z 0) (weak_mk ⟨_,rfl⟩ wA rfl rfl rfl EJ) ⟨0,rfl,by omega,fun _ _=>rfl,by omega⟩ ?_;rintro j st ⟨e,rfl,he,VQ,rfl⟩;refine br (fun hL=>?_) (fun hL=>?_)
 rotate_left
 ·have aO:e=es.length:=by have:=of_decide_eq_false hL;omega
  refine ⟨_,rfl,fun h1 h2=>?_⟩;rw [VQ h1 h2,aO,List.drop_length];all_goals rfl
 have ap:e < es.length:=by have:=of_decide_eq_true hL;omega
 obtain ⟨a,b,oE⟩:=Ss hs ap
 have iK:(0<=z->z<=1114111->¬ (a<=z/\z<=b))->∃ j',j' < es.length - e/\∃ e':Nat,hasSt es z (e + 1)=hasSt es z e' /\ e' <= es.length/\(0<=z->z<=1114111->es.any (kA z)=(es.drop e').any (kA z))/\j'=es.length - e':=fun eI=>⟨es.length - (e + 1),by omega,e + 1,rfl,by omega,fun h1 h2=>by
  rw [VQ h1 h2,drop_cons oE,List.any_cons]
  have:kA z [.v (.int .i32 a),.v (.int .i32 b)]=false:=by
   have:=eI h1 h2;simp only [kA,Bool.and_eq_false_imp,decide_eq_true_iff,decide_eq_false_iff_not];omega
  rw [this,Bool.false_or],rfl⟩
 refine br (fun c1=>?_) (fun c1=>?_)
 ·refine ⟨_,⟨by omega,oE⟩,?_⟩;refine br (fun c2=>?_) (fun c2=>?_)
  ·have c2:a<=z:=by simpa [pickB_and] using c2
   refine ⟨_,⟨by omega,oE⟩,?_⟩;refine br (fun c3=>?_) (fun c3=>?_)
   ·exact ⟨_,rfl,fun _ _=>(Il oE c2 (by simpa [pickB_and] using c3)).symm⟩
   ·obtain ⟨j',h1,h2⟩:=iK (fun _ _=>by simp [pickB_and] at c3;omega);exact ⟨hasSt es z (e + 1),(weak_mk ⟨_,rfl⟩ wA rfl rfl rfl (wNB ap)),j',h1,h2⟩
  ·obtain ⟨j',h1,h2⟩:=iK (fun _ _=>by simp [pickB_and] at c2;omega);exact ⟨hasSt es z (e + 1),(weak_mk ⟨_,rfl⟩ wA rfl rfl rfl (wNB ap)),j',h1,h2⟩
 ·obtain ⟨j',h1,h2⟩:=iK (fun _ _=>by simp [pickB_and] at c1;omega);exact ⟨hasSt es z (e + 1),(weak_mk ⟨_,rfl⟩ wA rfl rfl rfl (wNB ap)),j',h1,h2⟩
abbrev QH (es:List (List DV)) (z:Int) (lo hi:Nat):St:=⟨[(0,⟨[],.sl 2 es none⟩),(1,⟨[],.v (.int .i32 z)⟩),(5,⟨[],.v (.int .i64 lo)⟩),(6,⟨[],.v (.int .i64 hi)⟩)],[],[]⟩
theorem AQ (es:List (List DV)) (z:Int) (hl:es.length<=1000) (hs:es.all spB=true):Ev Tryz.prog 263 [.sl 2 es none,.v (.int .i32 z)] [] [] (fun d _ _=>∃ b:Bool,d = .v (.bool b)/\∀ m,srtB m es=true->b=es.any (kA z)):=by
 refine ev_go (P:=Tryz.prog) tt tt_ok 5000 38 [.tmp 4] Tryz.func263 rfl Tryz.ntmps263 rfl (nL rfl) (fun E9 w9 hn9 hm9=>?_);refine aq (fun j st=>∃ lo hi:Nat,st=QH es z lo hi/\lo<=hi/\hi<=es.length/\(∀ m,srtB m es=true->(es.take lo).any (kA z)=false/\(es.drop hi).any (kA z)=false)/\j=hi - lo) es.length (QH es z 0 es.length) (weak_mk ⟨_,rfl⟩ wA rfl rfl rfl EJ) ⟨0,es.length,rfl,by omega,by omega,fun _ _=>⟨rfl,by rw [List.drop_length];rfl⟩,by omega⟩ ?_;rintro j st ⟨lo,hi,rfl,h1,h2,VQ,rfl⟩;refine br (fun hL=>?_) (fun hL=>?_)
 rotate_left
 ·have aO:lo=hi:=by have:=of_decide_eq_false hL;omega
  refine ⟨_,rfl,fun m hm=>?_⟩;obtain ⟨g1,g2⟩:=VQ m hm;rw [<- aO] at g2;rw [<- List.take_append_drop lo es,List.any_append,g1,g2];all_goals rfl
 have ap:lo < hi:=by have:=of_decide_eq_true hL;omega
 have hm:IntKind.i64.wrap ((lo:Int) + IntKind.i64.wrap ((IntKind.i64.wrap ((hi:Int) - lo)).tdiv 2))=((lo + (hi - lo) / 2:Nat):Int):=by
  rw [wrap64 (n:=(hi:Int) - lo) (by omega) (by omega)];rw [Int.tdiv_eq_ediv_of_nonneg (by omega)];rw [wrap64 (n:=((hi:Int) - lo) / 2) (by omega) (by omega),wrap64 (by omega) (by omega)];omega
 obtain ⟨a,b,oE⟩:=Ss hs (i:=lo + (hi - lo) / 2) (by omega);refine ⟨⟨rfl,by decide⟩,?_⟩;refine ⟨_,⟨by rw [hm];omega,by rw [hm,Int.toNat_natCast];exact oE⟩,?_⟩;refine br (fun c=>?_) (fun c=>?_)
 ·exact ⟨QH es z lo (lo + (hi - lo) / 2),(weak_mk ⟨_,rfl⟩ wA rfl rfl rfl (by repeat' (first | exact trivial | exact ah rfl | exact ak hm | refine ⟨⟨_,rfl,?_⟩,?_⟩))),lo + (hi - lo) / 2 - lo,by omega,_,_,rfl,by omega,by omega,fun m hm=>⟨(VQ m hm).1,UM hm oE (by simpa using c)⟩,rfl⟩
 ·refine ⟨_,⟨by rw [hm];omega,by rw [hm,Int.toNat_natCast];exact oE⟩,?_⟩;have c0:=c;refine br (fun c=>?_) (fun c=>?_)
  ·have qW:IntKind.i64.wrap (IntKind.i64.wrap ((lo:Int) + IntKind.i64.wrap ((IntKind.i64.wrap ((hi:Int) - lo)).tdiv 2)) + 1)=((lo + (hi - lo) / 2 + 1:Nat):Int):=by
    rw [hm,wrap64 (by omega) (by omega)];omega
   exact ⟨QH es z (lo + (hi - lo) / 2 + 1) hi,(weak_mk ⟨_,rfl⟩ wA rfl rfl rfl (by repeat' (first | exact trivial | exact ah rfl | exact ak qW | refine ⟨⟨_,rfl,?_⟩,?_⟩))),hi - (lo + (hi - lo) / 2 + 1),by omega,_,_,rfl,by omega,by omega,fun m hm=>⟨N2 hm oE (by simpa using c),(VQ m hm).2⟩,rfl⟩
  ·exact ⟨_,rfl,fun _ _=>(Il oE (by simpa using c0) (by simpa using c)).symm⟩
theorem Dy (z:Int):Ev Tryz.prog 302 [.v (.int .i32 z)] [] [] (fun d _ _=>∃ b:Bool,d = .v (.bool b)):=by
 refine ev_go (P:=Tryz.prog) tt tt_ok 5000 6 [.tmp 2] Tryz.func302 rfl Tryz.ntmps302 rfl (nL rfl) (fun E9 w9 hn9 hm9=>?_);refine bq Yg rfl N3 ax (fun q hq=>?_);obtain ⟨es,rfl,he⟩:=hq;rw [Bool.and_eq_true,Nat.ble_eq] at he;refine bq ym rfl (AQ es z he.1 he.2) ax (fun q hq=>?_);obtain ⟨b,rfl,_⟩:=hq;exact ⟨_,rfl⟩
theorem Dz (z:Int):Ev Tryz.prog 303 [.v (.int .i32 z)] [] [] (fun d _ _=>∃ b:Bool,d = .v (.bool b)):=by
 refine ev_go (P:=Tryz.prog) tt tt_ok 5000 6 [.tmp 2] Tryz.func303 rfl Tryz.ntmps303 rfl (nL rfl) (fun E9 w9 hn9 hm9=>?_);refine bq Yh rfl N4 ax (fun q hq=>?_);obtain ⟨es,rfl,he⟩:=hq;rw [Bool.and_eq_true,Nat.ble_eq] at he;refine bq ym rfl (AQ es z he.1 he.2) ax (fun q hq=>?_);obtain ⟨b,rfl,_⟩:=hq;exact ⟨_,rfl⟩
theorem Kb (z:Int):Ev Tryz.prog 296 [.v (.int .i32 z)] [] [] (fun d _ _=>∃ n:Int,d = .v (.int .i64 n)):=by
 refine ev_go (P:=Tryz.prog) tt tt_ok 5000 9 [.tmp 2] Tryz.func296 rfl Tryz.ntmps296 rfl (nL rfl) (fun E9 w9 hn9 hm9=>?_);refine bq Yc rfl (Dy z) ax (fun q hq=>?_);obtain ⟨b,rfl⟩:=hq
 cases b with
 | true=>exact ⟨_,rfl⟩
 | false=>
  refine bq Yd rfl (Dz z) ax (fun q hq=>?_);obtain ⟨b,rfl⟩:=hq
  cases b with
  | true=>exact ⟨_,rfl⟩
  | false=>exact ⟨_,rfl⟩
theorem DA (z:Int):Ev Tryz.prog 281 [.v (.int .i32 z)] [] [] (fun d _ _=>∃ n:Int,d = .v (.int .i64 n)):=by
 refine ev_go (P:=Tryz.prog) tt tt_ok 5000 9 [.tmp 2] Tryz.func281 rfl Tryz.ntmps281 rfl (nL rfl) (fun E9 w9 hn9 hm9=>?_);refine bq X9 rfl Gc ax (fun q hq=>?_);obtain ⟨es,rfl,he⟩:=hq;rw [Bool.and_eq_true,Nat.ble_eq] at he;refine bq Hy rfl (oV es z he.1 he.2) ax (fun q hq=>?_);obtain ⟨b,rfl,_⟩:=hq
 cases b with
 | true=>exact ⟨_,rfl⟩
 | false=>
  refine bq Ya rfl Gd ax (fun q hq=>?_);obtain ⟨es,rfl,he⟩:=hq;rw [Bool.and_eq_true,Nat.ble_eq] at he;refine bq Hy rfl (oV es z he.1 he.2) ax (fun q hq=>?_);obtain ⟨b,rfl,_⟩:=hq
  cases b with
  | true=>exact ⟨_,rfl⟩
  | false=>exact ⟨_,rfl⟩
theorem N5 (s:ByteArray) (hs:s.size<=1099511627776):EvP Tryz.prog 179 [.v (.string s),.v (.int .i64 (s.size:Nat))] (.tup [.v (.int .i32 0),.v (.int .i64 0),.v (.bool false)]):=by
 refine ev_go (P:=Tryz.prog) tt tt_ok 5000 60 [.tmp 4,.tmp 5,.tmp 6] Tryz.func179 rfl Tryz.ntmps179 rfl (nL rfl) (fun E9 w9 hn9 hm9=>?_);refine br (fun _=>?_) (fun c=>absurd c (by simp [aj]));exact ⟨_,ax,rfl⟩
theorem Kc (s:ByteArray) (aC:Nat) (hs:s.size<=1099511627776) (h:aC <= s.size):Ev Tryz.prog 280 [.v (.string s),.v (.int .i64 aC)] [] [] (fun d _ _=>∃ c:Int,d = .tup [.v (.int .i64 c),.v (.int .i64 (iV ((tx s).drop aC):Nat))]):=by
 cases hd:(tx s).drop aC with
 | nil=>
  have he:aC=s.size:=by
   have:=congrArg List.length hd;rw [List.length_drop,bm,List.length_nil] at this;omega
  subst he;refine ev_go (P:=Tryz.prog) tt tt_ok 5000 24 [.tmp 4,.tmp 5] Tryz.func280 rfl Tryz.ntmps280 rfl (nL rfl) (fun E9 w9 hn9 hm9=>?_);refine call_p LM (N5 s hs) ax rfl ?_;exact ⟨.tup [.v (.int .i64 0),.v (.int .i64 ((0:Nat):Int))],ax,_,rfl⟩
 | cons c r=>
  have hu:=zd s aC hs c r hd;have ye:iV (c :: r)=if lY (c :: r)=true then aG c.toNat else 1:=rfl
  rw [ye];generalize lY (c :: r)=ok at hu ⊢;refine ev_go (P:=Tryz.prog) tt tt_ok 5000 24 [.tmp 4,.tmp 5] Tryz.func280 rfl Tryz.ntmps280 rfl (nL rfl) (fun E9 w9 hn9 hm9=>?_);refine bq LM rfl hu ax (fun q hq=>?_);obtain ⟨z,n,rfl,hn,hp⟩:=hq
  cases ok with
  | true=>
   have:=(hn rfl).1;subst this;refine bq X8 rfl (Kb z) ax (fun q hq=>?_);obtain ⟨m,rfl⟩:=hq;exact ⟨.tup [.v (.int .i64 m),.v (.int .i64 (aG c.toNat:Nat))],ax,_,rfl⟩
  | false=>
   refine br (fun _=>?_) (fun g=>absurd g (by simp;omega));exact ⟨.tup [.v (.int .i64 1),.v (.int .i64 ((1:Nat):Int))],ax,_,rfl⟩
theorem DB (s:ByteArray) (hs:s.size<=1099511627776) (h:0 < s.size):Ev Tryz.prog 240 [.v (.string s),.v (.int .i64 0)] [] [] (fun d _ _=>∃ c:Int,d = .tup [.v (.int .i64 c),.v (.int .i64 (iV (tx s):Nat))]):=by
 cases hd:tx s with
 | nil=>
  have:=bm s;rw [hd,List.length_nil] at this;omega
 | cons c r=>
  have hu:=wh s 0 hs c r (by rw [List.drop_zero];exact hd);have ye:iV (c :: r)=if lY (c :: r)=true then aG c.toNat else 1:=rfl
  rw [ye];generalize lY (c :: r)=ok at hu ⊢;refine ev_go (P:=Tryz.prog) tt tt_ok 5000 21 [.tmp 4,.tmp 5] Tryz.func240 rfl Tryz.ntmps240 rfl (nL rfl) (fun E9 w9 hn9 hm9=>?_);refine bq Ry rfl hu ax (fun q hq=>?_);obtain ⟨z,n,rfl,hn⟩:=hq
  cases ok with
  | true=>
   have:=(hn rfl).1;subst this;refine bq X2 rfl (DA z) ax (fun q hq=>?_);obtain ⟨m,rfl⟩:=hq;exact ⟨.tup [.v (.int .i64 m),.v (.int .i64 (aG c.toNat:Nat))],ax,_,rfl⟩
  | false=>
   exact ⟨.tup [.v (.int .i64 1),.v (.int .i64 ((1:Nat):Int))],ax,_,rfl⟩
end Go.Proofs.YtfifjddnnmfeoaaGreat
set_option maxRecDepth 100000
namespace Go.Proofs
open Go.Shelf
def Tryz.laysB_ren:Go.Shelf.Ren:=⟨fun | 240=>178 | 276=>219 | n=>n,fun | 9=>9 | 4=>4 | 0=>0 | 20=>20 | 72=>161 | 70=>158 | 37=>159 | 164=>296 | 5=>5 | n=>n,fun | n=>n⟩
theorem Tryz.laysB:Go.Proofs.Lays.n240 Tryz.prog Tryz.laysB_ren:={
 mixed:=by kernel_rfl
 f240:=Tryz.func178.trans (congrArg some (by kernel_rfl))
 f276:=Tryz.func219.trans (congrArg some (by kernel_rfl))
 t0:=Tryz.underlying0
 a0:=Tryz.isAgg0
 z0:=Tryz.sizeOf0
 v0:=Tryz.zeroValue0
 t4:=Tryz.underlying4
 a4:=Tryz.isAgg4
 z4:=Tryz.sizeOf4
 v4:=Tryz.zeroValue4
 t9:=Tryz.underlying9
 a9:=Tryz.isAgg9
 z9:=Tryz.sizeOf9
 v9:=Tryz.zeroValue9
 t20:=Tryz.underlying20
 a20:=Tryz.isAgg20
 z20:=Tryz.sizeOf20
 v20:=Tryz.zeroValue20
 t70:=Tryz.underlying158
 a70:=Tryz.isAgg158
 z70:=Tryz.sizeOf158
 v70:=Tryz.zeroValue158
 t72:=Tryz.underlying161
 a72:=Tryz.isAgg161
 z72:=Tryz.sizeOf161
 v72:=Tryz.zeroValue161
 t164:=Tryz.underlying296
 a164:=Tryz.isAgg296
 z164:=Tryz.sizeOf296
 v164:=Tryz.zeroValue296 }
theorem Tryz.laysBX:Builder.Extra Tryz.prog Tryz.laysB_ren:={
 sizeBuilder:=by kernel_rfl
 liesBuilder:=by kernel_rfl
 t5:=Tryz.underlying5
 a5:=Tryz.isAgg5
 z5:=Tryz.sizeOf5
 v5:=Tryz.zeroValue5
 infoByte:=by kernel_rfl
 cellsByte:=by kernel_rfl
 sizeByte:=by kernel_rfl
 neB5:=by decide }
end Go.Proofs
set_option maxRecDepth 100000
namespace Go.Proofs.YtfifjddnnmfeoaaGreat
open Go Go.RowKit Go.Lib Dv Tryz
theorem lZ {P:Program} (w:World) (t u ty e:TypeId) (i:TypeInfo) (ht:P.underlying t=some (.slice e)) (hu:P.underlying u=some .string) (hi:P.info? e=some i) (hz:i.zero=some (.int .u8 0))
  (jj:i.size=1) (ub:i.bytes=1) (v:Value) (n:Nat) (xs:List Value) (cG:w.ownsRow 0 e 1 v n xs) (s:ByteArray) (KA:n + s.size<=maxLen) (jk:n + s.size<=140737488355328) (hs:0 < s.size) :
  ∃ g cap w',(Builtin.append_ #[t,u] ty #[v,.string s]).run P w = .ok (.slice (some ⟨g,0,none⟩) (n + s.size) cap) w' /\ w'.ownsRow 0 e 1 (.slice (some ⟨g,0,none⟩) (n + s.size) cap) (n + s.size) (xs ++ strCells s)/\w.grownBy w' v.ownBlock /\
   ((v.ownBlock=some g)∨(w.heap.size<=g/\∀ k,k < w.heap.size->w'.heap[k]? = w.heap[k]?)):=by
 obtain ⟨v',w',hr,h2,h3,h4⟩:=Lib.run_append_own_string (P:=P) w 0 t u ty e i ht hu hi hz jj ub v n xs cG s KA jk (Nat.zero_le _);have KY:n + s.size<=9223372036854775807:=by simp only [maxLen] at KA;omega
 have xf:xs.length=n:=by simpa using cG.1
 rcases cG.2 with ⟨rfl,rfl⟩ | ⟨g,cap,cur,rfl,hbg,hg,tC,hcm,ct,htake⟩
 ·have hr2:=run_append_nil_string (P:=P) w t u ty e i (.int .u8 0) ht hu hi hz s hs (by omega) (by rw [ub];omega);rw [hr2] at hr;injection hr with e1 e2
  subst e1;simp only [Nat.zero_add] at *;exact ⟨_,_,w',by rw [hr2,e2],h2,h3,.inr ⟨Nat.le_refl _,fun k hk=>by rw [<- e2];exact Below.heap_alloc w.drew _ k hk⟩⟩
 ·by_cases G4:n + s.size<=cap
  ·have hcs':cur.size=cap:=by simpa using ct
   have hr2:=Lib.run_append_room_string (P:=P) w t u ty e i ht hu hi jj g n cap cur hg s G4 (by omega);rw [hr2] at hr;injection hr with e1 e2
   subst e1;exact ⟨_,_,w',by rw [hr2,e2],h2,h3,.inl rfl⟩
  ·have holds:∀ j u,xs[j]? = some u->w.cell? ((⟨g,0,none⟩:Addr).add j)=some u:=cG.cells (g:=g) rfl;have hr2:=Lib.run_append_grow_string (P:=P) w t u ty e i (.int .u8 0) ht hu hi hz ⟨g,0,none⟩ n cap xs (by rw [jj];simpa using xf) holds s (by omega) (by omega) (by rw [ub];exact growslice_fits (by omega) (by omega));rw [hr2] at hr;injection hr with e1 e2
   subst e1;exact ⟨_,_,w',by rw [hr2,e2],h2,h3,.inr ⟨Nat.le_refl _,fun k hk=>by rw [<- e2];exact Below.heap_alloc w.drew _ k hk⟩⟩
theorem sN {w:World} {b:Nat} {o:Obj} (h:w.heap[b]? = some o):World.cM w b o=w:=by
 obtain ⟨hb,hg⟩:=Array.getElem?_eq_some_iff.1 h
 have e:w.heap.setIfInBounds b o=w.heap:=by
  apply Array.ext
  ·simp
  ·intro i h1 h2;by_cases hi:b=i
   ·subst hi;simp [hg]
   ·rw [Array.getElem_setIfInBounds_ne (by simpa using h1) hi]
 show { w with heap:=w.heap.setIfInBounds b o }=w;rw [e]
abbrev ig (w:World) (b:Nat) (v:Value):World:=World.cM w b (.cells #[.pointer (some ⟨b,0,none⟩),v] 161 (0,0))
theorem wj (b:Nat) (p v:Value) (w:World) (hp:p = .pointer none∨p = .pointer (some ⟨b,0,none⟩)) (pP:w.heap[b]? = some (.cells #[p,v] 161 (0,0))) :
  Calls Tryz.prog 178 #[.pointer (some ⟨b,0,none⟩)] w fun e w'=>e = .returned (.tuple #[])/\w'=ig w b v:=by
 rcases hp with rfl | rfl
 ·refine (Any.Builder_copyCheck_fresh Tryz.laysB Tryz.laysBX.toX72 b w (by rw [Lib.cell_of_heap pP];rfl) (by simp [World.shape?,pP,Tryz.laysB_ren]) (by simp [World.frozen?,pP])).mono ?_;rintro e w' ⟨rfl,rfl⟩;exact ⟨rfl,by rw [eM pP];rfl⟩
 ·refine (Any.Builder_copyCheck_used Tryz.laysB Tryz.laysBX.toX72 b w (by rw [Lib.cell_of_heap pP];rfl)).mono ?_;rintro e w' ⟨rfl,rfl⟩;exact ⟨rfl,(sN pP).symm⟩
theorem oW {P:Program} {w:World} {ops:Array Oper} {rest:List Oper} {o:Oper} {a:Act} {Q:Exit->Act->World->Prop} (BP:o.guard=none) (sl x:Operand) (t u:TypeId)
  (ho:o.op = .call { callee:=.builtin .append,args:=#[sl,x],argTypes:=#[t,u] })
  (e:TypeId) (i:TypeInfo) (ht:P.underlying t=some (.slice e)) (hu:P.underlying u=some .string) (hi:P.info? e=some i) (hz:i.zero=some (.int .u8 0))
  (jj:i.size=1) (ub:i.bytes=1)
  (v:Value) (n:Nat) (xs:List Value) (hs:a.eval sl=v) (cG:w.ownsRow 0 e 1 v n xs) (s:ByteArray) (hx:a.eval x = .string s)
  (KA:n + s.size<=maxLen) (jk:n + s.size<=140737488355328) (ki:0 < s.size)
  (h:∀ g cap w',w'.ownsRow 0 e 1 (.slice (some ⟨g,0,none⟩) (n + s.size) cap) (n + s.size) (xs ++ strCells s)->w.grownBy w' v.ownBlock->((v.ownBlock=some g)∨(w.heap.size<=g/\∀ k,k < w.heap.size->w'.heap[k]? = w.heap[k]?)) ->
   wpList P ops Q rest (a.put o.dst (.slice (some ⟨g,0,none⟩) (n + s.size) cap)) w'):wpList P ops Q (o :: rest) a w:=by
 refine wpList_plain BP fun K hK=>?_;obtain ⟨g,cap,w',hr,h2,h3,h4⟩:=lZ (P:=P) w t u o.type e i ht hu hi hz jj ub v n xs cG s KA jk ki;unfold Oper.wp execOp;simp only [ho,resolve,invoke,builtin,Sem.run_bind,Sem.run_pure,Result.andThen_ok,List.map_toArray,List.map_cons,List.map_nil,hs,hx,hr];exact hK _ _ (h g cap w' h2 h3 h4)
def Ge (ret:Value) (w:World) (b:Nat) (v:Value) (n:Nat) (xs:List Value) (s:ByteArray) (e:Ending) (w':World):Prop:=
 e = .returned ret/\∃ g cap w2,w2.ownsRow 0 5 1 (.slice (some ⟨g,0,none⟩) (n + s.size) cap) (n + s.size) (xs ++ strCells s)/\(ig w b v).grownBy w2 v.ownBlock /\
  ((v.ownBlock=some g)∨((ig w b v).heap.size<=g/\∀ k,k < (ig w b v).heap.size->w2.heap[k]? = (ig w b v).heap[k]?)) /\
  w'=World.cM w2 b (.cells #[.pointer (some ⟨b,0,none⟩),.slice (some ⟨g,0,none⟩) (n + s.size) cap] 161 (0,0))
theorem AR {w:World} {b e n:Nat} {v:Value} {xs:List Value} {o:Obj} (h:w.ownsRow 0 e 1 v n xs) (aN:v.ownBlock≠some b):(World.cM w b o).ownsRow 0 e 1 v n xs:=by
 refine ⟨h.1,?_⟩;rcases h.2 with h | ⟨g,cap,cur,rfl,h1,h2,h3⟩
 ·exact .inl h
 ·refine .inr ⟨g,cap,cur,rfl,h1,?_,h3⟩;rw [cg]
  ·exact h2
  ·rintro rfl;exact aN rfl
set_option maxHeartbeats 2000000 in
theorem UN (b:Nat) (p v:Value) (n:Nat) (xs:List Value) (s:ByteArray) (w:World) (hp:p = .pointer none∨p = .pointer (some ⟨b,0,none⟩)) (pP:w.heap[b]? = some (.cells #[p,v] 161 (0,0)))
  (cG:w.ownsRow 0 5 1 v n xs) (aN:v.ownBlock≠some b) (hs:0 < s.size) (hlen:n + s.size<=140737488355328) :
  Calls Tryz.prog 124 #[.pointer (some ⟨b,0,none⟩),.string s] w (Ge (.tuple #[.int .i64 s.size,.nilIface]) w b v n xs s):=by
 obtain ⟨i0,hi,VP,hz1,VA⟩:=info_parts Tryz.laysBX.infoByte
 go_enter Tryz.func124,Tryz.ntmps124
 go_wp2_with (go_at_call 178;refine (wj b p v _ hp pP).mono ?_)
 rintro e w1 ⟨rfl,rfl⟩;have iu:(ig w b v).heap[b]? = some (.cells #[.pointer (some ⟨b,0,none⟩),v] 161 (0,0)):=dy pP;have DC:(ig w b v).ownsRow 0 5 1 v n xs:=AR cG aN;have c0:(ig w b v).cell? ⟨b,0,none⟩=some (.pointer (some ⟨b,0,none⟩)):=by rw [Lib.cell_of_heap iu];all_goals rfl
 have c1:(ig w b v).cell? ⟨b,1,none⟩=some v:=by rw [Lib.cell_of_heap iu];all_goals rfl
 have ap:b < (ig w b v).heap.size:=bX iu;obtain ⟨W1,N6⟩:∃ W1,W1=ig w b v:=⟨_,rfl⟩;rw [<- N6] at iu DC c0 c1 ap ⊢;have HW:=Lib.hid N6;clear N6
 go_wp2_with (at_builtin;refine oW rfl _ _ 159 9 rfl 5 i0 Tryz.underlying159 Tryz.underlying9 hi VP hz1 VA _ _ _ rfl DC s rfl ?c3 ?c4 hs ?_)
 case c3=>unfold maxLen;omega
 case c4=>omega
 intro g cap w2 N7 mc xr
 have fH:w2.heap[b]? = some (.cells #[.pointer (some ⟨b,0,none⟩),v] 161 (0,0)):=by
  rw [mc.block b ap (fun e=>aN e.symm)];exact iu
 have d0:w2.cell? ⟨b,0,none⟩=some (.pointer (some ⟨b,0,none⟩)):=by rw [Lib.cell_of_heap fH];all_goals rfl
 have d1:w2.cell? ⟨b,1,none⟩=some v:=by rw [Lib.cell_of_heap fH];all_goals rfl
 have f1:w2.frozen? ⟨b,1,none⟩=false:=Lib.frozen_of_heap fH 1
 go_wp2
 go_ret2
 refine ⟨rfl,g,cap,w2,N7,by rw [<- HW.out];exact mc,by rw [<- HW.out];exact xr,?_⟩;rw [eM fH];rfl
set_option maxHeartbeats 1000000 in
theorem UO (b g cap:Nat) (p:Value) (l:List UInt8) (cur:Array Value) (w:World) (h0:l ≠ []) (pP:w.heap[b]? = some (.cells #[p,.slice (some ⟨g,0,none⟩) l.length cap] 161 (0,0)))
  (hg:w.heap[g]? = some (.cells cur 5 (0,0))) (tC:l.length<=cap) (hcm:cap<=maxLen) (ct:cur.size=cap * 1) (htake:cur.toList.take (l.length * 1)=Lib.byteCells l) :
  Calls Tryz.prog 80 #[.pointer (some ⟨b,0,none⟩)] w fun e w'=>e = .returned (.string ⟨l.toArray⟩)/\w'=w.drew.freeze ⟨g,0,none⟩ l.length:=by
 have ES:l.length≠0:=by simpa using h0
 have cG:w.ownsRow 0 5 1 (.slice (some ⟨g,0,none⟩) l.length cap) l.length (Lib.byteCells l):=⟨by rw [Lib.byteCells_length,Nat.mul_one],.inr ⟨g,cap,cur,rfl,Nat.zero_le _,hg,tC,hcm,ct,htake⟩⟩
 have c1:w.drew.cell? ⟨b,1,none⟩=some (.slice (some ⟨g,0,none⟩) l.length cap):=by
  have:w.drew.heap[b]? = some (.cells #[p,.slice (some ⟨g,0,none⟩) l.length cap] 161 (0,0)):=pP;rw [Lib.cell_of_heap this];all_goals rfl
 have hSD:(Builtin.unsafeSliceData_ #[159] 241 #[.slice (some ⟨g,0,none⟩) l.length cap]).run Tryz.prog w.drew = .ok (.pointer (some ⟨g,0,none⟩)) w.drew:=
  Lib.run_unsafeSliceData_row _ _ _ _ _ _ (by omega)
 have hUS:(Builtin.unsafeString_ #[241,3] 9 #[.pointer (some ⟨g,0,none⟩),.int .i64 l.length]).run Tryz.prog w.drew = .ok (.string ⟨l.toArray⟩) (w.drew.freeze ⟨g,0,none⟩ l.length):=by
  refine Lib.run_unsafeString_row w.drew 241 3 9 5 Tryz.underlying241 (by kernel_rfl) g cur.size (by have xu:w.drew.heap[g]? = some (.cells cur 5 (0,0)):=hg;simp [World.shape?,xu]) l h0 (by omega) (by unfold maxLen at hcm;omega) ?_;intro j x hx;have:=cG.cells (g:=g) rfl j (.int .u8 x.toNat) (by simp [Lib.byteCells,hx]);exact this
 clear cG htake ct hg;have mixed:=mo
 go_enter Tryz.func80,Tryz.ntmps80
 go_wp2
 go_region_o
 all_goals (go_wp2;go_ret;exact ⟨rfl,rfl⟩)
end Go.Proofs.YtfifjddnnmfeoaaGreat
set_option maxRecDepth 100000
namespace Go.Proofs.YtfifjddnnmfeoaaGreat
open Go Go.RowKit Dv Tryz
def bD (l:List UInt8):List (List DV):=l.map fun c=>[DV.v (.int .u8 c.toNat)]
theorem rW (l:List UInt8):(bD l).length=l.length:=by simp [bD]
theorem N8 {E:En}:∀ l:List UInt8,RvC E (bD l).flatten (Lib.byteCells l)
 | []=>⟨cj _,by simp [Lib.byteCells]⟩
 | c :: r=>by
  obtain ⟨h1,h2⟩:=N8 (E:=E) r;refine ⟨?_,fun v hv=>?_⟩
  ·simp only [bD,List.map_cons,List.flatten_cons,List.cons_append,List.nil_append,Lib.byteCells];exact rvL_cons (by unfold Rv;exact ⟨rfl,rfl⟩) h1
  ·simp only [Lib.byteCells,List.map_cons,List.mem_cons] at hv;rcases hv with rfl | hv
   ·rfl
   ·exact h2 v hv
theorem Im {E:En}:∀ {l:List UInt8} {arr:List Value},RvL E (bD l).flatten arr->arr=Lib.byteCells l
 | [],arr,h=>by simpa [bD,RvL,Lib.byteCells] using h
 | c :: r,arr,h=>by
  simp only [bD,List.map_cons,List.flatten_cons,List.cons_append,List.nil_append,RvL] at h;obtain ⟨v,s,rfl,h1,h2⟩:=h;unfold Rv at h1;rw [h1.1,Im (l:=r) h2];rfl
theorem strCells_eq (s:ByteArray):Lib.strCells s=Lib.byteCells s.data.toList:=rfl
theorem Gf {X:Ctx} {E:En} {st:St} {a:Act} {w:World} (h:Rel X E st a w) {kt:Nat} {l:List UInt8} {cv:Value} (hl:l ≠ []) (iH:st.tk[kt]? = some ⟨l.length,5,1,none⟩) (hv:Rv E (.sl 1 (bD l) (some kt)) cv) :
  ∃ g cap cur,cv = .slice (some ⟨g,0,none⟩) l.length cap/\w.heap[g]? = some (.cells cur 5 (0,0))/\l.length<=cap/\cap<=maxLen/\cur.size=cap * 1/\cur.toList.take (l.length * 1)=Lib.byteCells l/\g ∉ E.β/\E.τ[kt]? = some cv:=by
 have aN:bD l ≠ []:=by
  intro hc;have:=rW l;rw [hc] at this;exact hl (List.eq_nil_of_length_eq_zero this.symm)
 have ki:0 < l.length:=List.length_pos_iff.2 hl;unfold Rv at hv;obtain ⟨bs,ns,mg,rfl,⟨rfl,El⟩,SY,zM⟩:=hv;rw [rW] at El;obtain ⟨q,hq,_,hτ⟩:=zM kt rfl;rw [h.tk,iH] at hq;simp only [oI] at hq;subst hq;have hy:=hτ (rW l);rcases h.env.cI kt _ _ (by rw [h.tk];exact iH) hy with ⟨nY,jS⟩ | ⟨g,cap,cur,nY,hw0,BM,tC,hcm,gk,Ld⟩
 ·simp only at jS;omega
 ·injection nY with i1 i2 i3
  subst i1 i3;refine ⟨g,mg,cur,by rw [rW],hw0,tC,hcm,BM.1,?_,gk,by rw [hy]⟩;obtain ⟨_,Pt⟩:=SY aN;obtain ⟨EF,iu,fH,KH⟩:=Pt.ui;have ha:=Im iu.1;subst ha;apply List.ext_getElem?;intro j;rw [rW] at fH;rcases Nat.lt_or_ge j (Lib.byteCells l).length with hj | hj
  ·have h5:=h.env.sub _ _ (KH j _ (gE hj));simp only [ab,ao,Nat.zero_add] at h5;rw [ch hw0] at h5;rw [List.getElem?_take,if_pos (by omega),gE hj];simpa using h5
  ·rw [List.getElem?_eq_none (l:=Lib.byteCells l) hj,List.getElem?_take,if_neg (by omega)]
theorem QI {X:Ctx} {E:En} {st:St} {a:Act} {w:World} (h:Rel X E st a w) {kt:Nat} {l:List UInt8} {cv:Value} (iH:st.tk[kt]? = some ⟨l.length,5,1,none⟩) (hv:Rv E (.sl 1 (bD l) (some kt)) cv) :
  w.ownsRow 0 5 1 cv l.length (Lib.byteCells l)/\E.τ[kt]? = some cv/\∀ b∈E.β,cv.ownBlock≠some b:=by
 cases l with
 | cons c r=>
  obtain ⟨g,cap,cur,rfl,hg,tC,hcm,ct,htake,Vq,hτ⟩:=Gf h (List.cons_ne_nil c r) iH hv;refine ⟨⟨by rw [Lib.byteCells_length,Nat.mul_one],.inr ⟨g,cap,cur,rfl,Nat.zero_le _,hg,tC,hcm,ct,htake⟩⟩,hτ,fun b hb he=>?_⟩;simp only [Value.ownBlock,oI] at he;exact Vq (he ▸ hb)
 | nil=>
  unfold Rv at hv;obtain ⟨bs,ns,mg,rfl,⟨rfl,El⟩,SY,zM⟩:=hv;obtain ⟨q,hq,_,hτ⟩:=zM kt rfl;rw [h.tk,iH] at hq;simp only [oI] at hq;subst hq;have hy:=hτ rfl;rcases h.env.cI kt _ _ (by rw [h.tk];exact iH) hy with ⟨nY,jS⟩ | ⟨g,cap,cur,nY,hw0,BM,tC,hcm,gk,Ld⟩
  ·rw [nY] at hy ⊢;exact ⟨⟨rfl,.inl ⟨rfl,rfl⟩⟩,hy,fun b _ he=>by simp [Value.ownBlock] at he⟩
  ·rw [nY] at hy ⊢;refine ⟨⟨rfl,.inr ⟨g,cap,cur,rfl,Nat.zero_le _,hw0,tC,hcm,BM.1,by simp [Lib.byteCells]⟩⟩,hy,fun b hb he=>?_⟩;simp only [Value.ownBlock,oI] at he;exact gk (he ▸ hb)
theorem DD {f:FuncId} {xd rd:DV} {ret:Value} {X:Ctx} {st:St} {k:List It} (hP:X.P=Tryz.prog) {i kt d:Nat} {p c:DV} {l:List UInt8} {s:ByteArray} {bW:List TkE} (hbt:(i,161)∈X.bt) (lx:st.bx[i]? = some [p,c])
  (hp:p = .v (.pointer none)∨p = .loc i 0)
  (hc:(c = .v (.slice none 0 0)/\l=[]/\kt=st.tk.length/\bW=st.tk ++ [⟨s.size,5,1,none⟩])∨(c = .sl 1 (bD l) (some kt)/\st.tk[kt]? = some ⟨l.length,5,1,none⟩/\bW=st.tk.set kt ⟨l.length + s.size,5,1,none⟩))
  (j1:Enters Tryz.prog f) (hrd:∀ E,Rv E rd ret)
  (tf:∀ (E:En) (b n:Nat) (p v x:Value) (xs:List Value) (w:World),Rv E xd x->p = .pointer none∨p = .pointer (some ⟨b,0,none⟩)->w.heap[b]? = some (.cells #[p,v] 161 (0,0))->w.ownsRow 0 5 1 v n xs->v.ownBlock≠some b->n + s.size<=140737488355328->Calls Tryz.prog f #[.pointer (some ⟨b,0,none⟩),x] w (Ge ret w b v n xs s))
  (hs:0 < s.size) (hlen:l.length + s.size<=140737488355328) (hd:fi X.nt st.sl (some d)=true)
  (hk:go X 4000 k ⟨(d,⟨[],rd⟩) :: st.sl,st.bx.set i [.loc i 0,.sl 1 (bD (l ++ s.data.toList)) (some kt)],bW⟩)
  (aT:X.still=false:=by exact rfl):dL X f [.loc i 0,xd] (some d) k st:=by
 refine ⟨?_,aT,fun E a w vs h hv=>?_⟩
 ·rw [hP];exact j1
 rw [hP];simp only [RvL] at hv;obtain ⟨v1,vr,rfl,h1,v2,vr2,rfl,h2,rfl⟩:=hv;unfold Rv at h1;obtain ⟨b,hb,rfl⟩:=h1;obtain ⟨b',ty,arr,dS,hw,n8⟩:=h.env.eu i _ lx;rw [hb] at dS;simp only [oI] at dS;subst dS;obtain ⟨Rb,wm⟩:=h.bt _ hbt b hb;rw [hw] at wm;simp only [oI,Obj.cells.injEq] at wm;have SU:ty=161:=wm.2.1;subst SU;obtain ⟨hr,ho⟩:=n8;simp only [RvL] at hr;obtain ⟨pv,r1,rfl,Su,cv,r2,rfl,Sv,rfl⟩:=hr
 have UP:pv = .pointer none∨pv = .pointer (some ⟨b,0,none⟩):=by
  rcases hp with rfl | rfl
  ·exact .inl (bd Su)
  ·unfold Rv at Su;obtain ⟨b2,fH,rfl⟩:=Su;rw [hb] at fH;simp only [oI] at fH;subst fH;exact .inr rfl
 have xD:b∈E.β:=mG hb;have Io:st.tk.length=E.tk.length:=by rw [h.tk]
 have key:∃ xs:List Value,xs=Lib.byteCells l/\w.ownsRow 0 5 1 cv l.length xs/\cv.ownBlock≠some b /\
   ((∃ q,E.tk[kt]? = some q/\E.τ[kt]? = some cv/\q.n=l.length/\q.ty=5/\q.e=1/\q.own=none)∨(E.tk[kt]? = none/\E.τ[kt]? = none/\cv = .slice none 0 0/\l.length=0)) /\
   bW[kt]? = some ⟨l.length + s.size,5,1,none⟩/\(∀ j,j≠kt->bW[j]? = E.tk[j]?)/\(∀ y:Value,∃ τ':List Value,τ'[kt]? = some y/\τ'.length=bW.length/\∀ j,j≠kt->τ'[j]? = E.τ[j]?):=by
  rcases hc with ⟨rfl,rfl,rfl,rfl⟩ | ⟨rfl,iH,rfl⟩
  ·have:=bd Sv;subst this;refine ⟨_,rfl,⟨rfl,.inl ⟨rfl,rfl⟩⟩,by simp [Value.ownBlock],.inr ⟨?_,?_,rfl,rfl⟩,?_,?_,?_⟩
   ·rw [Io];simp
   ·rw [Io,<- h.env.tl];simp
   ·simp
   ·intro j hj;rw [h.tk];rcases Nat.lt_or_ge j st.tk.length with h1 | h1
    ·rw [List.getElem?_append_left h1]
    ·rw [List.getElem?_eq_none (l:=st.tk) h1];exact List.getElem?_eq_none (by simp;omega)
   ·intro y;refine ⟨E.τ ++ [y],?_,by simp [h.env.tl,h.tk],fun j hj=>?_⟩
    ·rw [Io,<- h.env.tl];simp
    ·rcases Nat.lt_or_ge j E.τ.length with h1 | h1
     ·rw [List.getElem?_append_left h1]
     ·rw [List.getElem?_eq_none (l:=E.τ) h1];have:=h.env.tl;exact List.getElem?_eq_none (by simp;omega)
  ·obtain ⟨cG,hτ,hob⟩:=QI h iH Sv;have iL:=(gS iH).1;refine ⟨_,rfl,cG,hob b xD,.inl ⟨_,by rw [h.tk];exact iH,hτ,rfl,rfl,rfl,rfl⟩,?_,?_,?_⟩
   ·rw [List.getElem?_set_self iL]
   ·intro j hj;rw [List.getElem?_set_ne (Ne.symm hj),h.tk]
   ·intro y;refine ⟨E.τ.set kt y,?_,by simp [h.env.tl,h.tk],fun j hj=>List.getElem?_set_ne (Ne.symm hj)⟩;rw [List.getElem?_set_self];rw [h.env.tl,<- Io];exact iL
 obtain ⟨xs,rfl,cG,aN,Bo,Zz,ry,hτ⟩:=key;refine (tf E b l.length pv cv v2 (Lib.byteCells l) w h2 UP hw cG aN hlen).mono ?_;rintro e w' ⟨rfl,g,cap,w2,Sw,mc,xr,rfl⟩;obtain ⟨τ',Wp,Vp,KG⟩:=hτ (.slice (some ⟨g,0,none⟩) (l.length + s.size) cap);have va:Rv E (.loc i 0) (.pointer (some ⟨b,0,none⟩)):=by unfold Rv;exact ⟨b,hb,rfl⟩
 have r1:Rel X E ⟨st.sl,st.bx.set i [.loc i 0,c],st.tk⟩ a (ig w b cv):=
  iZ h aT hb (cs':=[.loc i 0,c]) (arr':=[.pointer (some ⟨b,0,none⟩),cv]) ⟨rvL_cons va (rvL_one Sv),by
   intro v hv;simp only [List.mem_cons,List.not_mem_nil,or_false] at hv;rcases hv with rfl | rfl
   ·rfl
   ·exact ho v (by simp)⟩ ⟨_,hw⟩
 obtain ⟨r2,hext,mB⟩:=BI r1 aT Bo hs (by omega) Zz Wp Vp ry KG (AR cG aN) Sw mc xr;have fH:(ig w b cv).heap[b]? = some (.cells #[.pointer (some ⟨b,0,none⟩),cv] 161 (0,0)):=dy hw
 have KH:w2.heap[b]? = some (.cells #[.pointer (some ⟨b,0,none⟩),cv] 161 (0,0)):=by
  rw [mc.block b (bX fH) (fun e=>aN e.symm)];exact fH
 have UQ:Rv (⟨gn E.c w2 g ((l.length + s.size) * 1),E.β,bW,τ'⟩:En) (.sl 1 (bD (l ++ s.data.toList)) (some kt)) (.slice (some ⟨g,0,none⟩) (l.length + s.size) cap):=by
  have mb:s.data.toList.length=s.size:=by rw [Array.length_toList];all_goals rfl
  unfold Rv;refine ⟨_,_,_,rfl,⟨by rw [rW,List.length_append,mb],?_⟩,fun _=>⟨rfl,?_⟩,?_⟩
  ·rcases Sw.2 with ⟨hv,_⟩ | ⟨_,_,_,hv,_,_,tC,_⟩
   ·cases hv
   ·injection hv with _ _ i3
    omega
  ·refine rvEs_flat (arr:=Lib.byteCells (l ++ s.data.toList)) (N8 _) (fun cs hcm=>?_) fun j u hj=>?_
   ·simp only [bD,List.mem_map] at hcm;obtain ⟨x,_,rfl⟩:=hcm;rfl
   ·simp only [ab,ao,Nat.zero_add];refine mB j u ?_;rw [strCells_eq];simpa [Lib.byteCells] using hj
  ·intro k' gm;cases gm;exact ⟨_,Zz,Nat.le_refl _,fun _=>Wp⟩
 have r3:=iZ r2 aT (i:=i) (b:=b) hb (cs':=[.loc i 0,.sl 1 (bD (l ++ s.data.toList)) (some kt)]) (arr':=[.pointer (some ⟨b,0,none⟩),.slice (some ⟨g,0,none⟩) (l.length + s.size) cap])
  ⟨rvL_cons (by unfold Rv;exact ⟨b,hb,rfl⟩) (rvL_one UQ),by
   intro v hv;simp only [List.mem_cons,List.not_mem_nil,or_false] at hv
   rcases hv with rfl | rfl<;>rfl⟩ ⟨_,KH⟩
 simp only [List.set_set] at r3;exact go_sound 4000 _ _ hk _ _ _ (aV r3 hd rd _ (hrd _))
theorem DE {w:World} {g n:Nat} (x:Addr):(w.freeze ⟨g,0,none⟩ n).cell? x=w.cell? x:=by
 unfold World.freeze;split
 ·rfl
 ·simp only [World.cell?,Array.getElem?_modify];by_cases hg:g=x.block
  ·subst hg;simp only [if_true]
   cases w.heap[x.block]? with
   | none=>rfl
   | some o=>
    cases o with
    | cells c e z=>simp only [Option.map_some]
    | _=>simp
  ·simp [hg]
theorem AS {w:World} {g n k:Nat} (h:k≠g):(w.freeze ⟨g,0,none⟩ n).heap[k]? = w.heap[k]?:=by
 unfold World.freeze;split
 ·rfl
 ·simp only [Array.getElem?_modify];rw [if_neg (Ne.symm h)]
theorem AU {w:World} {g n:Nat}:(w.freeze ⟨g,0,none⟩ n).os=w.os/\(w.freeze ⟨g,0,none⟩ n).tape=w.tape/\(w.freeze ⟨g,0,none⟩ n).output=w.output/\(w.freeze ⟨g,0,none⟩ n).heap.size=w.heap.size:=by
 unfold World.freeze;split
 ·exact ⟨rfl,rfl,rfl,rfl⟩
 ·exact ⟨rfl,rfl,rfl,by simp⟩
theorem Ip {X:Ctx} {st:St} {k:List It} (hP:X.P=Tryz.prog) {i kt d:Nat} {p:DV} {l:List UInt8} (hbt:(i,161)∈X.bt) (lx:st.bx[i]? = some [p,.sl 1 (bD l) (some kt)])
  (hl:l ≠ []) (iH:st.tk[kt]? = some ⟨l.length,5,1,none⟩) (jS:X.n0=0) (jX:X.m0=0) (hd:fi X.nt st.sl (some d)=true)
  (hk:go X 4000 k ⟨[(d,⟨[],.v (.string ⟨l.toArray⟩)⟩)],[],[]⟩) (aT:X.still=false:=by exact rfl):dL X 80 [.loc i 0] (some d) k st:=by
 refine ⟨?_,aT,fun E a w vs h hv=>?_⟩
 ·rw [hP];exact en80
 rw [hP];simp only [RvL] at hv;obtain ⟨v1,vr,rfl,h1,rfl⟩:=hv;unfold Rv at h1;obtain ⟨b,hb,rfl⟩:=h1;obtain ⟨b',ty,arr,dS,hw,n8⟩:=h.env.eu i _ lx;rw [hb] at dS;simp only [oI] at dS;subst dS;obtain ⟨Rb,wm⟩:=h.bt _ hbt b hb;rw [hw] at wm;simp only [oI,Obj.cells.injEq] at wm;have SU:ty=161:=wm.2.1;subst SU;obtain ⟨hr,ho⟩:=n8;simp only [RvL] at hr;obtain ⟨pv,r1,rfl,Su,cv,r2,rfl,Sv,rfl⟩:=hr;obtain ⟨g,cap,cur,rfl,hg,tC,hcm,ct,htake,Vq,hτ⟩:=Gf h hl iH Sv;refine (UO b g cap pv l cur w hl hw hg tC hcm ct htake).mono ?_;rintro e w' ⟨rfl,rfl⟩;obtain ⟨k1,k2,k3,k4⟩:=AU (w:=w.drew) (g:=g) (n:=l.length);have hE0:X.E0.β=[]:=List.eq_nil_of_length_eq_zero (by rw [X.jS,jS]);have VR:X.E0.tk=[]:=List.eq_nil_of_length_eq_zero (by rw [X.jX,jX]);have uo:X.w0.heap.size<=g:=h.nw.tn kt _ g (by rw [VR];exact Nat.zero_le _) hτ rfl
 let E':En:=⟨E.c,[],[],[]⟩
 have cf:Rel X E' ⟨[],[],[]⟩ a (w.drew.freeze ⟨g,0,none⟩ l.length):={
  env:={
   len:=rfl
   tl:=rfl
   eu:=by simp
   inj:=List.nodup_nil
   sub:=fun x v hx=>by rw [DE];exact h.env.sub x v hx
   pc:=by simp [E']
   cI:=by simp [E']
   iX:=by simp [E'] }
  tk:=rfl
  sz:=h.sz
  tm:=fun i x hx=>by cases hx
  df:=h.df
  nw:={
   c:=fun x v hx=>h.nw.c x v hx
   cn:=fun x v hx=>h.nw.cn x v hx
   β:=⟨[],by rw [hE0];rfl,by simp⟩
   tk:=fun k q y hq _=>by rw [VR] at hq;simp at hq
   tn:=fun k y g' _ hy _=>by simp [E'] at hy
   l0:=h.nw.l0 }
  fr:=h.fr.cm k1 k2 k3 (by rw [k4];exact Nat.le_refl _) fun j hj=>by
   by_cases hjg:j=g
   ·left;exact .inr (hjg ▸ uo)
   ·right;exact AS hjg
  sh:=nX aT
  bt:=fun p hp b hb=>by simp [E'] at hb }
 have xC:fi X.nt ([]:List (Nat × Sl)) (some d)=true:=by
  simp only [fi,Bool.and_eq_true] at hd ⊢;exact ⟨hd.1,rfl⟩
 exact go_sound 4000 _ _ hk _ _ _ (aV (st:=⟨[],[],[]⟩) cf xC (.v (.string ⟨l.toArray⟩)) _ (by unfold Rv;exact ⟨rfl,rfl⟩))
end Go.Proofs.YtfifjddnnmfeoaaGreat
set_option maxRecDepth 100000
namespace Go.Proofs.YtfifjddnnmfeoaaGreat
open Go Go.RowKit Go.Lib Dv Tryz
theorem rX {P:Program} {w:World} {ops:Array Oper} {rest:List Oper} {o:Oper} {a:Act} {Q:Exit->Act->World->Prop} (BP:o.guard=none) (s x:Operand) (t:TypeId)
  (ho:o.op = .call { callee:=.builtin .append,args:=#[s,x],argTypes:=#[t,t] })
  (e:TypeId) (i:TypeInfo) (z:Value) (ht:P.underlying t=some (.slice e)) (hi:P.info? e=some i) (hz:i.zero=some z) (jj:i.size=1) (ub:i.bytes=1) (G3:z.cells.size=1)
  (v:Value) (n:Nat) (xs:List Value) (hs:a.eval s=v) (cG:w.ownsRow 0 e 1 v n xs)
  (ad:Addr) (m c:Nat) (news:List Value) (hx:a.eval x = .slice (some ad) m c) (hl:news.length=m * 1) (pa:∀ j u,news[j]? = some u->w.cell? (ad.add j)=some u) (h1:∀ u∈news,u.oneCell'=true)
  (hm:0 < m) (KA:n + m<=maxLen) (jk:(n + m) * 1<=140737488355328)
  (h:∀ g cap w',w'.ownsRow 0 e 1 (.slice (some ⟨g,0,none⟩) (n + m) cap) (n + m) (xs ++ news)->w.grownBy w' v.ownBlock->((v.ownBlock=some g)∨(w.heap.size<=g/\∀ k,k < w.heap.size->w'.heap[k]? = w.heap[k]?)) ->
   wpList P ops Q rest (a.put o.dst (.slice (some ⟨g,0,none⟩) (n + m) cap)) w'):wpList P ops Q (o :: rest) a w:=by
 refine wpList_plain BP fun K hK=>?_;obtain ⟨g,cap,w',hr,h2,h3,h4⟩:=fC (P:=P) (w:=w) t o.type e i z 1 1 ht hi hz jj ub G3 (by omega) v n xs cG ad m c news hl pa h1 hm KA jk;unfold Oper.wp execOp;simp only [ho,resolve,invoke,builtin,Sem.run_bind,Sem.run_pure,Result.andThen_ok,List.map_toArray,List.map_cons,List.map_nil,hs,hx,hr];exact hK _ _ (h g cap w' h2 h3 h4)
theorem Sx (w:World) (o:Obj):(w.alloc o).heap.size=w.heap.size + 1:=World.size_alloc w o
set_option maxHeartbeats 2000000 in
theorem UR (b:Nat) (p v:Value) (n:Nat) (xs:List Value) (c:UInt8) (w:World) (hp:p = .pointer none∨p = .pointer (some ⟨b,0,none⟩)) (pP:w.heap[b]? = some (.cells #[p,v] 161 (0,0)))
  (cG:w.ownsRow 0 5 1 v n xs) (aN:v.ownBlock≠some b) (hlen:n + 1<=140737488355328) :
  Calls Tryz.prog 122 #[.pointer (some ⟨b,0,none⟩),.int .u8 c.toNat] w (Ge .nilIface w b v n xs (ba [c])):=by
 obtain ⟨i0,hi,VP,hz1,VA⟩:=info_parts Tryz.laysBX.infoByte
 go_enter Tryz.func122,Tryz.ntmps122
 go_wp2_with (go_at_call 178;refine (wj b p v _ hp pP).mono ?_)
 rintro e w1 ⟨rfl,rfl⟩;have iu:(ig w b v).heap[b]? = some (.cells #[.pointer (some ⟨b,0,none⟩),v] 161 (0,0)):=dy pP;have DC:(ig w b v).ownsRow 0 5 1 v n xs:=AR cG aN;have c0:(ig w b v).cell? ⟨b,0,none⟩=some (.pointer (some ⟨b,0,none⟩)):=by rw [Lib.cell_of_heap iu];all_goals rfl
 have c1:(ig w b v).cell? ⟨b,1,none⟩=some v:=by rw [Lib.cell_of_heap iu];all_goals rfl
 have ap:b < (ig w b v).heap.size:=bX iu;obtain ⟨W1,N6⟩:∃ W1,W1=ig w b v:=⟨_,rfl⟩;rw [<- N6] at iu DC c0 c1 ap ⊢;have HW:=Lib.hid N6;clear N6
 go_wp2_with (at_builtin;refine rX rfl _ _ 159 rfl 5 i0 (.int .u8 0) Tryz.underlying159 hi VP hz1 VA rfl _ _ _ rfl (DC.alloc _) ⟨W1.heap.size,0,none⟩ 1 1 [.int .u8 c.toNat] rfl rfl ?c1 ?c2 (by omega) ?c3 ?c4 ?_)
 case c1=>
  intro j u hj
  match j,hj with
  | 0,hj=>simp at hj;subst hj;simp [Addr.add]
 case c2=>intro u hu;simp at hu;subst hu;rfl
 case c3=>unfold maxLen;omega
 case c4=>omega
 intro g cap w2 N7 mc xr;have N9:W1.grownBy w2 v.ownBlock:=⟨mc.os,mc.tape,mc.output,by have:=mc.size;rw [Sx] at this;omega,fun k hk aN=>(mc.block k (by rw [Sx];omega) aN).trans (Lib.alloc_old W1 _ k hk)⟩;have hdi2:(v.ownBlock=some g)∨(W1.heap.size<=g/\∀ k,k < W1.heap.size->w2.heap[k]? = W1.heap[k]?):=xr.imp_right fun ⟨h1,h2⟩=>⟨by omega,fun k hk=>(h2 k (by omega)).trans (Lib.alloc_old W1 _ k hk)⟩
 have fH:w2.heap[b]? = some (.cells #[.pointer (some ⟨b,0,none⟩),v] 161 (0,0)):=by
  rw [N9.block b ap (fun e=>aN e.symm)];exact iu
 have d0:w2.cell? ⟨b,0,none⟩=some (.pointer (some ⟨b,0,none⟩)):=by rw [Lib.cell_of_heap fH];all_goals rfl
 have d1:w2.cell? ⟨b,1,none⟩=some v:=by rw [Lib.cell_of_heap fH];all_goals rfl
 have f1:w2.frozen? ⟨b,1,none⟩=false:=Lib.frozen_of_heap fH 1;clear mc xr
 go_wp2
 go_ret
 refine ⟨rfl,g,cap,w2,N7,by rw [<- HW.out];exact N9,by rw [<- HW.out];exact hdi2,?_⟩;rw [eM fH];rfl
set_option maxHeartbeats 2000000 in
theorem QJ (b g n cap:Nat) (p:Value) (cur:Array Value) (w:World) (hp:p = .pointer none∨p = .pointer (some ⟨b,0,none⟩)) (pP:w.heap[b]? = some (.cells #[p,.slice (some ⟨g,0,none⟩) n cap] 161 (0,0)))
  (hg:w.heap[g]? = some (.cells cur 5 (0,0))) (tC:n<=cap) (ct:cur.size=cap) (aN:g≠b) :
  Calls Tryz.prog 124 #[.pointer (some ⟨b,0,none⟩),.string ⟨#[]⟩] w fun e w'=>e = .returned (.tuple #[.int .i64 0,.nilIface])/\w'=ig w b (.slice (some ⟨g,0,none⟩) n cap):=by
 obtain ⟨i0,hi,VP,hz1,VA⟩:=info_parts Tryz.laysBX.infoByte
 go_enter Tryz.func124,Tryz.ntmps124
 go_wp2_with (go_at_call 178;refine (wj b p _ _ hp pP).mono ?_)
 rintro e w1 ⟨rfl,rfl⟩;obtain ⟨v,hv⟩:∃ v,v=Value.slice (some ⟨g,0,none⟩) n cap:=⟨_,rfl⟩;rw [<- hv] at pP ⊢;have iu:(ig w b v).heap[b]? = some (.cells #[.pointer (some ⟨b,0,none⟩),v] 161 (0,0)):=dy pP;have mz:(ig w b v).heap[g]? = some (.cells cur 5 (0,0)):=by rw [cg aN];exact hg
 have c0:(ig w b v).cell? ⟨b,0,none⟩=some (.pointer (some ⟨b,0,none⟩)):=by rw [Lib.cell_of_heap iu];all_goals rfl
 have c1:(ig w b v).cell? ⟨b,1,none⟩=some v:=by rw [Lib.cell_of_heap iu];all_goals rfl
 have f1:(ig w b v).frozen? ⟨b,1,none⟩=false:=Lib.frozen_of_heap iu 1;obtain ⟨W1,N6⟩:∃ W1,W1=ig w b v:=⟨_,rfl⟩;rw [<- N6] at iu mz c0 c1 f1 ⊢;have HW:=Lib.hid N6;clear N6
 go_wp2_with (at_builtin;refine Gg rfl _ _ 159 9 rfl 5 i0 Tryz.underlying159 Tryz.underlying9 hi hz1 g n cap cur hv mz tC ct rfl ?_)
 rw [<- hv]
 go_wp2
 go_ret2
 refine ⟨rfl,?_⟩;rw [eM iu];exact (sN iu).trans HW.out
theorem Oa {X:Ctx} {st:St} {k:List It} (hP:X.P=Tryz.prog) {i kt d:Nat} {p:DV} {l:List UInt8} (hbt:(i,161)∈X.bt) (lx:st.bx[i]? = some [p,.sl 1 (bD l) (some kt)])
  (hp:p = .v (.pointer none)∨p = .loc i 0) (hl:l ≠ []) (iH:st.tk[kt]? = some ⟨l.length,5,1,none⟩) (hd:fi X.nt st.sl (some d)=true)
  (hk:go X 4000 k ⟨(d,⟨[],.tup [.v (.int .i64 0),.v .nilIface]⟩) :: st.sl,st.bx.set i [.loc i 0,.sl 1 (bD l) (some kt)],st.tk⟩)
  (aT:X.still=false:=by exact rfl):dL X 124 [.loc i 0,.v (.string ⟨#[]⟩)] (some d) k st:=by
 refine ⟨by rw [hP];exact Rj,aT,fun E a w vs h hv=>?_⟩;rw [hP];simp only [RvL] at hv;obtain ⟨v1,vr,rfl,h1,v2,vr2,rfl,h2,rfl⟩:=hv;have h2:=bd h2;subst h2;unfold Rv at h1;obtain ⟨b,hb,rfl⟩:=h1;obtain ⟨b',ty,arr,dS,hw,n8⟩:=h.env.eu i _ lx;rw [hb] at dS;simp only [oI] at dS;subst dS;obtain ⟨Rb,wm⟩:=h.bt _ hbt b hb;rw [hw] at wm;simp only [oI,Obj.cells.injEq] at wm;have SU:ty=161:=wm.2.1;subst SU;obtain ⟨hr,ho⟩:=n8;simp only [RvL] at hr;obtain ⟨pv,r1,rfl,Su,cv,r2,rfl,Sv,rfl⟩:=hr;have va:Rv E (.loc i 0) (.pointer (some ⟨b,0,none⟩)):=by unfold Rv;exact ⟨b,hb,rfl⟩
 have UP:pv = .pointer none∨pv = .pointer (some ⟨b,0,none⟩):=by
  rcases hp with rfl | rfl
  ·exact .inl (bd Su)
  ·unfold Rv at Su;obtain ⟨b2,fH,rfl⟩:=Su;rw [hb] at fH;simp only [oI] at fH;subst fH;exact .inr rfl
 obtain ⟨g,cap,cur,rfl,hg,tC,hcm,ct,htake,Vq,hτ⟩:=Gf h hl iH Sv;refine (QJ b g l.length cap pv cur w UP hw hg tC (by omega) (fun e=>Vq (e ▸ mG hb))).mono ?_;rintro e w' ⟨rfl,rfl⟩
 have r1:Rel X E ⟨st.sl,st.bx.set i [.loc i 0,.sl 1 (bD l) (some kt)],st.tk⟩ a (ig w b (.slice (some ⟨g,0,none⟩) l.length cap)):=
  iZ h aT hb (cs':=[.loc i 0,.sl 1 (bD l) (some kt)]) (arr':=[.pointer (some ⟨b,0,none⟩),.slice (some ⟨g,0,none⟩) l.length cap]) ⟨rvL_cons va (rvL_one Sv),by
   intro v hv;simp only [List.mem_cons,List.not_mem_nil,or_false] at hv
   rcases hv with rfl | rfl<;>rfl⟩ ⟨_,hw⟩
 exact go_sound 4000 _ _ hk _ _ _ (aV r1 hd (.tup [.v (.int .i64 0),.v .nilIface]) _ (by unfold Rv;exact ⟨_,rfl,rvL_cons (by unfold Rv;exact ⟨rfl,rfl⟩) (rvL_one (by unfold Rv;exact ⟨rfl,rfl⟩))⟩))
theorem jK {X:Ctx} {st:St} {k:List It} (hP:X.P=Tryz.prog) {i kt d:Nat} {p:DV} {l:List UInt8} {s:ByteArray} (l':List UInt8) (q4:l'=l ++ s.data.toList) (hbt:(i,161)∈X.bt) (lx:st.bx[i]? = some [p,.sl 1 (bD l) (some kt)])
  (hp:p = .v (.pointer none)∨p = .loc i 0) (iH:st.tk[kt]? = some ⟨l.length,5,1,none⟩) (hs:l' ≠ []) (hlen:l'.length<=140737488355328) (hd:fi X.nt st.sl (some d)=true)
  (hk:∀ n:Int,go X 4000 k ⟨(d,⟨[],.tup [.v (.int .i64 n),.v .nilIface]⟩) :: st.sl,st.bx.set i [.loc i 0,.sl 1 (bD l') (some kt)],st.tk.set kt ⟨l'.length,5,1,none⟩⟩)
  (aT:X.still=false:=by exact rfl):dL X 124 [.loc i 0,.v (.string s)] (some d) k st:=by
 subst q4;have mb:s.data.toList.length=s.size:=by rw [Array.length_toList];all_goals rfl
 have iL:=(gS iH);rcases Nat.eq_zero_or_pos s.size with h0 | h0
 ·have BM:s=⟨#[]⟩:=by
   apply ByteArray.ext;apply Array.eq_empty_of_size_eq_zero;exact h0
  subst BM;have hr:=hk 0;simp only [List.append_nil] at hr hs;rw [show st.tk.set kt ⟨l.length,5,1,none⟩=st.tk by rw [<- iL.2];exact List.set_getElem_self iL.1] at hr;exact Oa hP hbt lx hp hs iH hd hr aT
 ·refine DD (s:=s) hP hbt lx hp (.inr ⟨rfl,iH,rfl⟩) Rj (rd:=.tup [.v (.int .i64 s.size),.v .nilIface]) (ret:=.tuple #[.int .i64 s.size,.nilIface]) (fun E=>by unfold Rv;exact ⟨_,rfl,rvL_cons (by unfold Rv;exact ⟨rfl,rfl⟩) (rvL_one (by unfold Rv;exact ⟨rfl,rfl⟩))⟩)
   (fun E b n p v x xs w hx h1 h2 h3 h4 h5=>by
    have:=bd hx;subst this
    exact UN b p v n xs s w h1 h2 h3 h4 h0 h5) h0 (by rw [List.length_append,mb] at hlen;exact hlen) hd ?_ aT
  have hr:=hk s.size;rw [List.length_append,mb] at hr;exact hr
theorem Iq {X:Ctx} {st:St} {k:List It} (hP:X.P=Tryz.prog) {i kt d:Nat} {p:DV} {l:List UInt8} {c:UInt8} {z:Int} (hz:z=c.toNat) (hbt:(i,161)∈X.bt) (lx:st.bx[i]? = some [p,.sl 1 (bD l) (some kt)])
  (hp:p = .v (.pointer none)∨p = .loc i 0) (iH:st.tk[kt]? = some ⟨l.length,5,1,none⟩) (hlen:l.length + 1<=140737488355328) (hd:fi X.nt st.sl (some d)=true)
  (hk:go X 4000 k ⟨(d,⟨[],.v .nilIface⟩) :: st.sl,st.bx.set i [.loc i 0,.sl 1 (bD (l ++ [c])) (some kt)],st.tk.set kt ⟨l.length + 1,5,1,none⟩⟩)
  (aT:X.still=false:=by exact rfl):dL X 122 [.loc i 0,.v (.int .u8 z)] (some d) k st:=by
 subst hz
 refine DD (s:=ba [c]) hP hbt lx hp (.inr ⟨rfl,iH,rfl⟩) W7 (rd:=.v .nilIface) (ret:=.nilIface) (fun E=>by unfold Rv;exact ⟨rfl,rfl⟩)
  (fun E b n p v x xs w hx h1 h2 h3 h4 h5=>by
   have:=bd hx;subst this
   exact UR b p v n xs c w h1 h2 h3 h4 h5) Nat.one_pos hlen hd hk aT
theorem DF {X:Ctx} {f:FuncId} {args:List DV} {dst:Option Nat} {k:List It} {st:St} (q:TkE) (st':St) (hq:q.new=true) (ha:WeL st.bx.length st.tk.length (st.tk ++ [q]) args args) (h3:st'.tk=st.tk ++ [q]) (h2:WeLL st.bx.length st.tk.length (st.tk ++ [q]) st.bx st'.bx)
  (h:px st.bx.length st.tk.length (st.tk ++ [q]) st.sl st'.sl) (hn:Nat.ble X.n0 st.bx.length=true) (hm:Nat.ble X.m0 st.tk.length=true) (hk:dL X f args dst k st'):dL X f args dst k st:=by
 obtain ⟨k1,k2,k3⟩:=hk;refine ⟨k1,k2,fun E a w vs hR hv=>?_⟩;have hr:=ya (st':=st') hR (kept:=st.tk) (dropped:=[]) (new:=[q]) (b0:=st.bx) (r:=[]) ⟨nL hm,nL hn,by simp,h3,by simpa using hq,by simp,by rw [h3];exact h2,by rw [h3];exact h⟩;exact k3 _ a w vs hr (qZ (dropped:=[]) (by rw [hR.tk];simp) hR.env.tl (by simpa using hq) ha hv)
end Go.Proofs.YtfifjddnnmfeoaaGreat
set_option maxRecDepth 100000
namespace Go.Proofs.YtfifjddnnmfeoaaGreat
open Go Go.RowKit Dv Tryz
def mY (n:Nat):UInt8:=if n < 10 then UInt8.ofNat (48 + n) else UInt8.ofNat (87 + n)
def xO (n:Nat):List UInt8:=if n=0 then [] else xO (n / 16) ++ [mY (n % 16)]
termination_by n
decreasing_by omega
def jW (n:Nat):List UInt8:=xO (n / 16) ++ [mY (n % 16)]
theorem hexP_0:xO 0=[]:=by rw [xO,if_pos rfl]
theorem Ob {n:Nat} (h:n≠0):xO n=jW n:=by rw [xO,if_neg h];all_goals rfl
theorem DG:∀ (k n:Nat),n < 16 ^ k->(xO n).length<=k
 | 0,n,h=>by
  have:n=0:=by simpa using h
  rw [this,hexP_0];exact Nat.le_refl _
 | k + 1,n,h=>by
  by_cases hn:n=0
  ·rw [hn,hexP_0];simp
  ·rw [xO,if_neg hn,List.length_append];have:=DG k (n / 16) (by rw [Nat.div_lt_iff_lt_mul (by decide)];rw [Nat.pow_succ] at h;exact h);simp only [List.length_cons,List.length_nil];omega
theorem mZ {n:Nat} (h:n<=4294967295):(jW n).length<=8:=by
 have:=DG 7 (n / 16) (by omega);simp only [jW,List.length_append,List.length_cons,List.length_nil];omega
def AV:List (List DV):=[[.v (.int .i32 0),.v (.int .i32 31)],[.v (.int .i32 127),.v (.int .i32 159)]]
def AW:List (List DV):=[[.v (.int .i32 8232),.v (.int .i32 8233)]]
def na:List (List DV):=[(1564,1564),(8206,8207),(8234,8238),(8294,8297)].map fun p:Int × Int=>[DV.v (.int .i32 p.1),DV.v (.int .i32 p.2)]
def wo:List (List DV):=[(173,173),(1536,1541),(1757,1757),(1807,1807),(2274,2274),(6158,6158),(8203,8205),(8288,8292),(8298,8303),(65279,65279),(65529,65531),(69821,69821),(69837,69837),(113824,113827),(119155,119162),(917505,917505),(917536,917631)].map fun p:Int × Int=>[DV.v (.int .i32 p.1),DV.v (.int .i32 p.2)]
def AX (z:Int):Bool:=((AV.any (kA z) || na.any (kA z)) || wo.any (kA z)) || AW.any (kA z)
def xP (z:Int) (u:List UInt8):List UInt8:=
 if z=34 then [92,34] else if z=92 then [92,92] else if z=9 then [92,116] else if z=10 then [92,110] else if z=13 then [92,114]
 else if AX z=true then [92,117,123] ++ jW z.toNat ++ [125] else u
def Ir:List UInt8->List UInt8
 | []=>[]
 | c :: r=>if lY (c :: r)=true then xP (recV ((c :: r).take (iV (c :: r)))) ((c :: r).take (iV (c :: r))) else [92,120,mY (c.toNat / 16),mY (c.toNat % 16)]
def nb:Nat->List UInt8->List UInt8
 | 0,_=>[]
 | k + 1,l=>Ir l ++ nb k (l.drop (iV l))
def oX (l:List UInt8):List UInt8:=34 :: (nb l.length l ++ [34])
theorem DH (k:Nat):nb k []=[]:=by
 induction k with
 | zero=>rfl
 | succ k ih=>show [] ++ nb k ([].drop _)=[];rw [List.drop_nil,ih];all_goals rfl
theorem rY:∀ (n:Nat) (l:List UInt8),l.length<=n->nb n l=nb l.length l
 | 0,l,h=>by
  have:l=[]:=List.eq_nil_of_length_eq_zero (by omega);rw [this];all_goals rfl
 | n + 1,l,h=>by
  cases l with
  | nil=>rw [DH,DH]
  | cons c r=>
   obtain ⟨h1,h2⟩:=qw (l:=c :: r) (by simp);have hl:((c :: r).drop (iV (c :: r))).length=r.length + 1 - iV (c :: r):=by rw [List.length_drop,List.length_cons]
   rw [List.length_cons] at h h2;show Ir _ ++ nb n _=Ir _ ++ nb r.length _;rw [rY n _ (by omega),rY r.length _ (by omega)]
theorem Kd {l:List UInt8} (h:l ≠ []):nb l.length l=Ir l ++ nb (l.drop (iV l)).length (l.drop (iV l)):=by
 cases l with
 | nil=>exact absurd rfl h
 | cons c r=>
  obtain ⟨h1,h2⟩:=qw (l:=c :: r) (by simp);show Ir _ ++ nb r.length _=_;rw [rY r.length _ (by rw [List.length_drop,List.length_cons];omega)]
theorem AY {l:List UInt8} (h:NR l=true):0<=recV l/\recV l<=2097151:=by
 unfold NR at h;split at h<;>(first | (rw [decide_eq_true_iff] at h;simp only [recV];omega) | cases h)
theorem QK (l:List UInt8):(Ir l).length<=12:=by
 cases l with
 | nil=>exact Nat.zero_le _
 | cons c r=>
  show (if lY (c :: r)=true then xP (recV ((c :: r).take (iV (c :: r)))) ((c :: r).take (iV (c :: r))) else [92,120,mY (c.toNat / 16),mY (c.toNat % 16)]:List UInt8).length<=12;split
  ·rename_i h;have hi:=AN h;obtain ⟨_,_,US,h1,h2,h3⟩:=nQ h;injection US with I7 mw
   subst I7 mw;rw [h3];have h4:=AO c.toNat;have:=AY hi;have:=mZ (n:=(recV ((c :: r).take (aG c.toNat))).toNat) (by omega);unfold xP
   repeat' split
   all_goals simp only [List.length_append,List.length_cons,List.length_nil,List.length_take]
   all_goals omega
  ·simp
theorem DI:∀ (n:Nat) (l:List UInt8),(nb n l).length<=12 * n
 | 0,l=>Nat.zero_le _
 | n + 1,l=>by
  have h1:=QK l;have h2:=DI n (l.drop (iV l));show (Ir l ++ nb n (l.drop (iV l))).length<=_;rw [List.length_append];omega
theorem nc (l:List UInt8):(oX l).length<=12 * l.length + 2:=by
 have:=DI l.length l;simp only [oX,List.length_append,List.length_cons,List.length_nil];omega
theorem rZ {s:ByteArray} (hs:s=ba [48,49,50,51,52,53,54,55,56,57,97,98,99,100,101,102]) {k:Nat} (hk:k < 16) {a b:Int} (ha:a=k) (hb:b=k + 1):s.extract a.toNat b.toNat=ba [mY k]:=by
 subst hs ha hb;refine rk ?_;have:∀ k:Fin 16,tx ((ba [48,49,50,51,52,53,54,55,56,57,97,98,99,100,101,102]).extract k.val (k.val + 1))=[mY k.val]:=by decide +kernel
 exact this ⟨k,hk⟩
theorem AZ {n:Int} (h1:0<=n) (h2:n<=4294967295):IntKind.u32.wrap n=n:=by
 simp [IntKind.wrap,IntKind.min,IntKind.max,IntKind.signed,IntKind.bits];omega
theorem iC (n:Nat):(n:Int).tmod 16=((n % 16:Nat):Int):=by
 rw [Int.tmod_eq_emod_of_nonneg (by omega)];omega
theorem Is (n:Nat):(n:Int).tdiv 16=((n / 16:Nat):Int):=by
 rw [Int.tdiv_eq_ediv_of_nonneg (by omega)];omega
theorem Oc {x:ByteArray} {c:UInt8} {l:List UInt8} (h:x=ba [c]):x ++ ba l=ba (c :: l):=by
 rw [h];exact bU [c] l
abbrev UT (m:Nat) (l:List UInt8):St:=⟨[(0,⟨[],.v (.int .u32 m)⟩),(3,⟨[],.v (.string (ba l))⟩)],[],[]⟩
theorem Od (n:Nat) (hn:n<=4294967295):EvP Tryz.prog 182 [.v (.int .u32 n)] (.v (.string (ba (jW n)))):=by
 have hu:∀ m:Nat,m<=4294967295->IntKind.u32.wrap ((m:Int).tdiv 16)=((m / 16:Nat):Int):=fun m h=>by rw [Is,AZ (by omega) (by omega)]
 have hr:∀ m:Nat,IntKind.u32.wrap ((m:Int).tmod 16 + 1)=((m % 16:Nat):Int) + 1:=fun m=>by rw [iC,AZ (by omega) (by omega)]
 have hlen:=mZ hn;refine ev_go (P:=Tryz.prog) tt tt_ok 5000 25 [.tmp 2] Tryz.func182 rfl Tryz.ntmps182 rfl (nL rfl) (fun E9 w9 hn9 hm9=>?_);refine ⟨⟨rfl,by decide⟩,?_⟩;refine ⟨⟨rfl,by decide⟩,?_⟩;refine ⟨⟨by rw [iC];omega,by rw [hr,iC];omega,by rw [hr];show _<=((16:Nat):Int);omega⟩,?_⟩;refine ⟨⟨rfl,by decide⟩,?_⟩;refine aq (fun j st=>∃ (m:Nat) (l:List UInt8),st=UT m l/\xO m ++ l=jW n/\m<=n/\j=m) (n / 16) (UT (n / 16) [mY (n % 16)]) (weak_mk ⟨_,rfl⟩ wA rfl rfl rfl (by repeat' (first | exact trivial | exact ah rfl | exact ak (hu n hn) | exact iJ (rZ rfl (by omega) (iC n) (hr n)) | refine ⟨⟨_,rfl,?_⟩,?_⟩))) ⟨n / 16,_,rfl,rfl,by omega,rfl⟩ ?_;rintro m st ⟨_,l,rfl,ht,hm,rfl⟩;refine br (fun hL=>?_) (fun hL=>?_)
 ·have ki:m≠0:=by simp at hL;omega
  have Pa:l.length + (xO m).length<=8:=by
   rw [<- ht,List.length_append] at hlen;omega
  rw [Ob ki] at ht;refine ⟨⟨rfl,by decide⟩,?_⟩;refine ⟨⟨rfl,by decide⟩,?_⟩;refine ⟨⟨by rw [iC];omega,by rw [hr,iC];omega,by rw [hr];show _<=((16:Nat):Int);omega⟩,?_⟩;have hx:=rZ (s:=ba [48,49,50,51,52,53,54,55,56,57,97,98,99,100,101,102]) rfl (k:=m % 16) (by omega) (iC m) (hr m)
  refine ⟨by
   have h1:(ByteArray.extract (ba [48,49,50,51,52,53,54,55,56,57,97,98,99,100,101,102]) ((m:Int).tmod 16).toNat (IntKind.u32.wrap ((m:Int).tmod 16 + 1)).toNat).size=1:=by rw [hx];all_goals rfl
   have h2:(ba l).size=l.length:=HL l;have h3:∀ a b:Nat,a=1->b<=8->a + b<=9223372036854775807:=by omega
   exact h3 _ _ h1 (by rw [h2];omega),?_⟩
  refine ⟨⟨rfl,by decide⟩,?_⟩;exact ⟨UT (m / 16) (mY (m % 16) :: l),(weak_mk ⟨_,rfl⟩ wA rfl rfl rfl (by repeat' (first | exact trivial | exact ah rfl | exact ak (hu m (by omega)) | exact iJ (Oc hx) | refine ⟨⟨_,rfl,?_⟩,?_⟩))),m / 16,by omega,m / 16,_,rfl,by rw [<- ht];simp [jW],by omega,rfl⟩
 ·have h0:m=0:=by simp at hL;omega
  subst h0;rw [hexP_0,List.nil_append] at ht;rw [<- ht];exact (rfl:_=_)
def kB (z:Int):List UInt8:=if z=34 then [92,34] else if z=92 then [92,92] else if z=9 then [92,116] else if z=10 then [92,110] else if z=13 then [92,114] else []
theorem Gh (z:Int):EvP Tryz.prog 180 [.v (.int .i32 z)] (.v (.string (ba (kB z)))):=by
 unfold kB;refine ev_go (P:=Tryz.prog) tt tt_ok 5000 14 [.tmp 2] Tryz.func180 rfl Tryz.ntmps180 rfl (nL rfl) (fun E9 w9 hn9 hm9=>?_);refine br (fun c=>?_) (fun c=>?_)
 ·rw [if_pos (by simpa using c)];exact (rfl:_=_)
 rw [if_neg (by simpa using c)];refine br (fun c=>?_) (fun c=>?_)
 ·rw [if_pos (by simpa using c)];exact (rfl:_=_)
 rw [if_neg (by simpa using c)];refine br (fun c=>?_) (fun c=>?_)
 ·rw [if_pos (by simpa using c)];exact (rfl:_=_)
 rw [if_neg (by simpa using c)];refine br (fun c=>?_) (fun c=>?_)
 ·rw [if_pos (by simpa using c)];exact (rfl:_=_)
 rw [if_neg (by simpa using c)];refine br (fun c=>?_) (fun c=>?_)
 ·rw [if_pos (by simpa using c)];exact (rfl:_=_)
 rw [if_neg (by simpa using c)];exact (rfl:_=_)
theorem Gi {z:Int} {u:List UInt8} (h:kB z ≠ []):xP z u=kB z:=by
 unfold xP kB at *
 repeat' split at h
 all_goals simp_all
theorem Ke {z:Int} {u:List UInt8} (h:kB z=[]):xP z u=if AX z=true then [92,117,123] ++ jW z.toNat ++ [125] else u:=by
 unfold xP kB at *
 repeat' split at h
 all_goals simp_all
theorem A0:EvP Tryz.prog 264 [] (.sl 2 AV none):=by
 refine ev_go (P:=Tryz.prog) tt tt_ok 5000 4 [.tmp 0] Tryz.func264 rfl Tryz.ntmps264 rfl (nL rfl) (fun E9 w9 hn9 hm9=>?_);exact ⟨_,ax,rfl⟩
theorem Kf:EvP Tryz.prog 265 [] (.sl 2 na none):=by
 refine ev_go (P:=Tryz.prog) tt tt_ok 5000 6 [.tmp 0] Tryz.func265 rfl Tryz.ntmps265 rfl (nL rfl) (fun E9 w9 hn9 hm9=>?_);exact ⟨_,ax,rfl⟩
theorem DJ:EvP Tryz.prog 266 [] (.sl 2 wo none):=by
 refine ev_go (P:=Tryz.prog) tt tt_ok 5000 19 [.tmp 0] Tryz.func266 rfl Tryz.ntmps266 rfl (nL rfl) (fun E9 w9 hn9 hm9=>?_);exact ⟨_,ax,rfl⟩
theorem wu:EvP Tryz.prog 267 [] (.sl 2 AW none):=by
 refine ev_go (P:=Tryz.prog) tt tt_ok 5000 3 [.tmp 0] Tryz.func267 rfl Tryz.ntmps267 rfl (nL rfl) (fun E9 w9 hn9 hm9=>?_);exact ⟨_,ax,rfl⟩
theorem DK:EvP Tryz.prog 229 [] (.sl 2 na none):=by
 refine ev_go (P:=Tryz.prog) tt tt_ok 5000 6 [.tmp 0] Tryz.func229 rfl Tryz.ntmps229 rfl (nL rfl) (fun E9 w9 hn9 hm9=>?_);exact ⟨_,ax,rfl⟩
theorem xQ:EvP Tryz.prog 230 [] (.sl 2 wo none):=by
 refine ev_go (P:=Tryz.prog) tt tt_ok 5000 19 [.tmp 0] Tryz.func230 rfl Tryz.ntmps230 rfl (nL rfl) (fun E9 w9 hn9 hm9=>?_);exact ⟨_,ax,rfl⟩
theorem qx (es:List (List DV)) (z:Int) (hl:es.length<=1000) (hs:es.all spB=true) (m:Int) (ho:srtB m es=true):EvP Tryz.prog 263 [.sl 2 es none,.v (.int .i32 z)] (.v (.bool (es.any (kA z)))):=
 (AQ es z hl hs).mono fun d _ _ ⟨b,h1,h2⟩=>by rw [h1,h2 m ho]
theorem zg (es:List (List DV)) (z:Int) (hl:es.length<=1000) (hs:es.all spB=true) (h0:0<=z) (h1:z<=1114111):EvP Tryz.prog 228 [.sl 2 es none,.v (.int .i32 z)] (.v (.bool (es.any (kA z)))):=
 (oV es z hl hs).mono fun d _ _ ⟨b,h2,h3⟩=>by rw [h2,h3 h0 h1]
theorem DL (z:Int):EvP Tryz.prog 181 [.v (.int .i32 z)] (.v (.bool (AX z))):=by
 have hk:Ev Tryz.prog 222 [.v (.int .i32 z)] [] [] (fun d _ _=>∃ k:Int,d = .v (.int .i64 k)/\(!decide (k=0))=AX z):=by
  have h1:=qx AV z (by decide) (by decide) (-1) (by decide);have h2:=qx na z (by decide) (by decide) (-1) (by decide);have h3:=qx wo z (by decide) (by decide) (-1) (by decide);have h4:=qx AW z (by decide) (by decide) (-1) (by decide);have hB:AX z=(((AV.any (kA z) || na.any (kA z)) || wo.any (kA z)) || AW.any (kA z)):=rfl;rw [hB];generalize AV.any (kA z)=b1 at h1;generalize na.any (kA z)=b2 at h2;generalize wo.any (kA z)=b3 at h3;generalize AW.any (kA z)=b4 at h4;generalize hT1:AV=T1 at h1;generalize hT2:na=T2 at h2;generalize hT3:wo=T3 at h3;generalize hT4:AW=T4 at h4;have c1:=A0;have c2:=Kf;have c3:=DJ;have c4:=wu;rw [hT1] at c1;rw [hT2] at c2;rw [hT3] at c3;rw [hT4] at c4;refine ev_go (P:=Tryz.prog) tt tt_ok 5000 19 [.tmp 2] Tryz.func222 rfl Tryz.ntmps222 rfl (nL rfl) (fun E9 w9 hn9 hm9=>?_);refine call_p XT (c1) ax rfl ?_;refine call_p ym (h1) ax rfl ?_
  cases b1 with
  | true=>exact ⟨_,rfl,rfl⟩
  | false=>
  refine call_p XU (c2) ax rfl ?_;refine call_p ym (h2) ax rfl ?_
  cases b2 with
  | true=>exact ⟨_,rfl,rfl⟩
  | false=>
  refine call_p XV (c3) ax rfl ?_;refine call_p ym (h3) ax rfl ?_
  cases b3 with
  | true=>exact ⟨_,rfl,rfl⟩
  | false=>
  refine call_p XW (c4) ax rfl ?_;refine call_p ym (h4) ax rfl ?_
  cases b4 with
  | true=>exact ⟨_,rfl,rfl⟩
  | false=>exact ⟨_,rfl,rfl⟩
 refine ev_go (P:=Tryz.prog) tt tt_ok 5000 6 [.tmp 2] Tryz.func181 rfl Tryz.ntmps181 rfl (nL rfl) (fun E9 w9 hn9 hm9=>?_);refine bq XH rfl hk ax (fun q hq=>?_);obtain ⟨k,rfl,hk⟩:=hq;refine (congrArg (fun b=>DV.v (.bool b)) ?_:_=_);exact hk
theorem DM (z:Int) (h0:0<=z) (h1:z<=1114111):Ev Tryz.prog 189 [.v (.int .i32 z)] [] [] (fun d _ _=>∃ k:Int,d = .v (.int .i64 k)/\(!decide (k=0))=AX z):=by
 have h2:=zg na z (by decide) (by decide) h0 h1;have h3:=zg wo z (by decide) (by decide) h0 h1;have hB:AX z=(((AV.any (kA z) || na.any (kA z)) || wo.any (kA z)) || AW.any (kA z)):=rfl
 have e1:AV.any (kA z)=(decide (0<=z) && decide (z < 32) || decide (126 < z) && decide (z < 160)):=by
  simp only [AV,List.any_cons,List.any_nil,kA,Bool.or_false];rw [Bool.eq_iff_iff];simp only [Bool.or_eq_true,Bool.and_eq_true,decide_eq_true_iff];omega
 have e4:AW.any (kA z)=(decide (z=8232) || decide (z=8233)):=by
  simp only [AW,List.any_cons,List.any_nil,kA,Bool.or_false];rw [Bool.eq_iff_iff];simp only [Bool.or_eq_true,Bool.and_eq_true,decide_eq_true_iff];omega
 rw [hB,e1,e4];generalize na.any (kA z)=b2 at h2;generalize wo.any (kA z)=b3 at h3;generalize hT2:na=T2 at h2;generalize hT3:wo=T3 at h3;have c2:=DK;have c3:=xQ;rw [hT2] at c2;rw [hT3] at c3;refine ev_go (P:=Tryz.prog) tt tt_ok 5000 29 [.tmp 2] Tryz.func189 rfl Tryz.ntmps189 rfl (nL rfl) (fun E9 w9 hn9 hm9=>?_);refine br (fun c=>?_) (fun c=>?_)
 ·refine ⟨_,rfl,?_⟩;simp only [pickB_and,aj] at c;rw [c];all_goals rfl
 simp only [pickB_and,aj] at c;rw [c];refine call_p XJ (c2) ax rfl ?_;refine call_p Hy (h2) ax rfl ?_
 cases b2 with
 | true=>exact ⟨_,rfl,rfl⟩
 | false=>
 refine call_p XK (c3) ax rfl ?_;refine call_p Hy (h3) ax rfl ?_
 cases b3 with
 | true=>exact ⟨_,rfl,rfl⟩
 | false=>
 refine br (fun c=>?_) (fun c=>?_)
 ·refine ⟨_,rfl,?_⟩;simp only [aj] at c;rw [c];all_goals rfl
 ·refine ⟨_,rfl,?_⟩;simp only [aj] at c;rw [c];all_goals rfl
theorem l4:∀ (k n:Nat),n<=k->n<=4294967295->EvP Tryz.prog 188 [.v (.int .i64 n)] (.v (.string (ba (jW n))))
 | k,n,hk,hn=>by
  have hlen:=mZ hn;have hq:IntKind.i64.wrap ((n:Int).tdiv 16)=((n / 16:Nat):Int):=by rw [Is];exact wrap64 (by omega) (by omega)
  have hr:IntKind.i64.wrap ((n:Int).tmod 16 + 1)=((n % 16:Nat):Int) + 1:=by rw [iC];exact wrap64 (by omega) (by omega)
  have hw:IntKind.i64.wrap ((n:Int) + 1)=(n:Int) + 1:=wrap64 (by omega) (by omega);refine ev_go (P:=Tryz.prog) tt tt_ok 5000 22 [.tmp 2] Tryz.func188 rfl Tryz.ntmps188 rfl (nL rfl) (fun E9 w9 hn9 hm9=>?_);refine br (fun c=>?_) (fun c=>?_)
  ·have c:n < 16:=by simp at c;omega
   refine ⟨⟨by omega,by rw [hw];omega,by rw [hw];show _<=((16:Nat):Int);omega⟩,?_⟩;refine (congrArg (fun s=>DV.v (.string s)) ?_:_=_);refine (rZ rfl c rfl hw).trans ?_;have:n / 16=0:=by omega
   rw [jW,this,hexP_0,Nat.mod_eq_of_lt c];all_goals rfl
  ·have c:¬ n < 16:=by simp at c;omega
   match k,hk with
   | 0,hk=>omega
   | k + 1,hk=>
    have ih:=l4 k (n / 16) (by omega) (by omega);rw [<- hq] at ih;have hx:=rZ (s:=ba [48,49,50,51,52,53,54,55,56,57,97,98,99,100,101,102]) rfl (k:=n % 16) (by omega) (iC n) hr;have he:jW n=jW (n / 16) ++ [mY (n % 16)]:=by rw [<- Ob (n:=n / 16) (by omega)];all_goals rfl
    rw [he,List.length_append] at hlen;refine aE (fun _=>false) mo (by decide +kernel) ?_;refine ⟨⟨rfl,by decide⟩,?_⟩;refine ay Hv (ih) ax rfl ?_;refine ⟨⟨rfl,by decide⟩,?_⟩;refine ⟨⟨rfl,by decide⟩,?_⟩;refine ⟨⟨by rw [iC];omega,by rw [hr,iC];omega,by rw [hr];show _<=((16:Nat):Int);omega⟩,?_⟩
    refine ⟨by
     have h1:=congrArg ByteArray.size hx;rw [HL] at h1;have h3:∀ a b:Nat,b=1->a<=8->a + b<=9223372036854775807:=by omega
     exact h3 _ _ h1 (by rw [HL];omega),?_⟩
    refine (congrArg (fun s=>DV.v (.string s)) ?_:_=_);rw [he];refine (congrArg (fun s=>ba (jW (n / 16)) ++ s) hx).trans ?_;exact bU _ _
theorem Gj {n:Int} (h1:0<=n) (h2:n<=255):IntKind.u8.wrap n=n:=by
 simp [IntKind.wrap,IntKind.min,IntKind.max,IntKind.signed,IntKind.bits];omega
theorem DN {s:ByteArray} {aC:Nat} (h:aC < s.size):∃ c r,(tx s).drop aC=c :: r/\cL s aC=c.toNat/\r.length + 1 + aC=s.size/\∀ n,n<=r.length + 1->s.extract aC (aC + n)=ba ((c :: r).take n):=by
 have hl:=bm s
 cases hd:(tx s).drop aC with
 | nil=>
  have:=congrArg List.length hd;rw [List.length_drop,List.length_nil] at this;omega
 | cons c r=>
  refine ⟨c,r,rfl,?_,?_,fun n hn=>?_⟩
  ·show ((tx s).getD aC 0).toNat=_
   have:(tx s)[aC]? = some c:=by
    have:=congrArg (fun l=>l[0]?) hd;simpa [List.getElem?_drop] using this
   simp [List.getD_eq_getElem?_getD,this]
  ·have:=congrArg List.length hd;rw [List.length_drop,List.length_cons] at this;omega
  ·refine rk ?_;rw [<- hd];simp [tx,List.take_drop]
theorem Iu {x y:ByteArray} {c d:UInt8} (hx:x=ba [c]) (hy:y=ba [d]):(ba [92,120] ++ x) ++ y=ba [92,120,c,d]:=by
 rw [hx,hy];exact (congrArg (·++ ba [d]) (bU [92,120] [c])).trans (bU _ _)
theorem Iv (l:List UInt8):(ba [92,117,123] ++ ba l) ++ ba [125]=ba ([92,117,123] ++ l ++ [125]):=
 (congrArg (·++ ba [125]) (bU [92,117,123] l)).trans (bU _ _)
theorem oY {a b:ByteArray} {d:DV} (h:a=b):DV.tup [.v (.string a),d]=DV.tup [.v (.string b),d]:=by rw [h]
set_option maxHeartbeats 1000000 in
theorem Gk (s:ByteArray) (aC:Nat) (hs:s.size<=1099511627776) (h:aC < s.size) :
  EvP Tryz.prog 123 [.v (.string s),.v (.int .i64 aC)] (.tup [.v (.string (ba (Ir ((tx s).drop aC)))),.v (.int .i64 (iV ((tx s).drop aC):Nat))]):=by
 obtain ⟨c,r,hd,hb,gl,hex⟩:=DN h;have hu:=zd s aC hs c r hd;rw [hd];have ye:iV (c :: r)=if lY (c :: r)=true then aG c.toNat else 1:=rfl
 have ZA:Ir (c :: r)=if lY (c :: r)=true then xP (recV ((c :: r).take (iV (c :: r)))) ((c :: r).take (iV (c :: r))) else [92,120,mY (c.toNat / 16),mY (c.toNat % 16)]:=rfl
 have rf:=AN (c:=c) (r:=r);have bG:=fun g=>nQ (l:=c :: r) g;have jT:=c.toNat_lt;rw [ye] at ZA;rw [ye,ZA];generalize lY (c :: r)=ok at hu rf bG ⊢;refine ev_go (P:=Tryz.prog) tt tt_ok 5000 62 [.tmp 4,.tmp 5] Tryz.func123 rfl Tryz.ntmps123 rfl (nL rfl) (fun E9 w9 hn9 hm9=>?_);refine bq LM rfl hu ax (fun q hq=>?_);obtain ⟨z,n,rfl,hn,hp⟩:=hq;refine br (fun g=>absurd g (by simp;omega)) (fun _=>?_)
 cases ok with
 | false=>
  rw [if_neg (by simp),if_neg (by simp)];have e1:IntKind.u8.wrap ((c.toNat:Int).tdiv 16)=((c.toNat / 16:Nat):Int):=by rw [Is,Gj (by omega) (by omega)]
  have e2:IntKind.u8.wrap (((c.toNat / 16:Nat):Int) + 1)=((c.toNat / 16:Nat):Int) + 1:=Gj (by omega) (by omega);have e3:IntKind.u8.wrap (((c.toNat % 16:Nat):Int) + 1)=((c.toNat % 16:Nat):Int) + 1:=Gj (by omega) (by omega);refine ⟨⟨by omega,by omega⟩,?_⟩;rw [show cL s ((aC:Int)).toNat=c.toNat from hb];have x1:=rZ (s:=ba [48,49,50,51,52,53,54,55,56,57,97,98,99,100,101,102]) rfl (k:=c.toNat / 16) (by omega) e1 ((congrArg (fun z=>IntKind.u8.wrap (z + 1)) e1).trans e2);have x2:=rZ (s:=ba [48,49,50,51,52,53,54,55,56,57,97,98,99,100,101,102]) rfl (k:=c.toNat % 16) (by omega) (iC c.toNat) ((congrArg (fun z=>IntKind.u8.wrap (z + 1)) (iC c.toNat)).trans e3);have l1:=congrArg ByteArray.size x1;have l2:=congrArg ByteArray.size x2;rw [HL] at l1 l2;refine aE (fun _=>false) mo (by decide +kernel) ?_;refine ⟨⟨rfl,by decide⟩,?_⟩;refine ⟨⟨rfl,by decide⟩,?_⟩;refine ⟨⟨by rw [e1];omega,by rw [e1,e2];omega,by rw [e1,e2];show _<=((16:Nat):Int);omega⟩,?_⟩;refine ⟨Nat.le_trans (Nat.le_of_eq (congrArg (2 + ·) l1)) (by show 2 + 1<=9223372036854775807;decide),?_⟩;refine ⟨⟨rfl,by decide⟩,?_⟩;refine ⟨⟨rfl,by decide⟩,?_⟩;refine ⟨⟨by rw [iC];omega,by rw [iC,e3];omega,by rw [iC,e3];show _<=((16:Nat):Int);omega⟩,?_⟩;refine ⟨by rw [eS];exact Nat.le_trans (Nat.le_of_eq (congr (congrArg HAdd.hAdd (congrArg (2 + ·) l1)) l2)) (by show 2 + 1 + 1<=9223372036854775807;decide),?_⟩;refine ⟨.tup [.v (.string _),.v (.int .i64 _)],ax,?_⟩;exact oY (Iu x1 x2)
 | true=>
  obtain ⟨rfl,hz⟩:=hn rfl;have hnn:=AY (rf rfl);rw [<- hz] at hnn;obtain ⟨_,_,US,h1,h2,_⟩:=bG rfl;injection US with I7 mw
  subst I7 mw;rw [List.length_cons] at h2;rw [if_pos rfl,if_pos rfl,<- hz];refine call_p Xp (Gh z) ax rfl ?_;refine br (fun g=>?_) (fun g=>?_)
  ·have aN:kB z ≠ []:=by
    intro e;rw [e] at g;simp at g
   rw [Gi aN];exact ⟨_,ax,rfl⟩
  ·have he:kB z=[]:=by
    by_cases e:kB z=[]
    ·exact e
    ·exfalso;simp at g;exact e g
   rw [Ke he];refine call_p Xq (DL z) ax rfl ?_
   cases AX z with
   | true=>
    rw [if_pos rfl];have hz32:IntKind.u32.wrap z=(z.toNat:Nat):=by rw [AZ (by omega) (by omega)];omega
    have hx:=Od z.toNat (by omega);rw [<- hz32] at hx;have hl:=mZ (n:=z.toNat) (by omega);refine call_p Xr (hx) ax rfl ?_;refine ⟨by show 3 + (jW z.toNat).length<=_;omega,?_⟩;refine ⟨by rw [eS];show 3 + (jW z.toNat).length + 1<=_;omega,?_⟩;refine ⟨.tup [.v (.string _),.v (.int .i64 _)],ax,?_⟩;exact oY (Iv _)
   | false=>
    rw [if_neg (by simp)];have hw:IntKind.i64.wrap ((aC:Int) + (aG c.toNat:Nat))=((aC + aG c.toNat:Nat):Int):=by rw [wrap64 (by omega) (by omega)];omega
    refine ⟨⟨by omega,by rw [hw];omega,by rw [hw];omega⟩,?_⟩;refine ⟨.tup [.v (.string _),.v (.int .i64 _)],ax,?_⟩;refine oY ?_;rw [hw];exact hex _ (by omega)
theorem QL {c:UInt8} {r:List UInt8} (h:lY (c :: r)=true) {z:Int} (hz:recV ((c :: r).take (aG c.toNat))=z) (hlo:z < 128):aG c.toNat=1/\(c.toNat:Int)=z:=by
 obtain ⟨_,_,US,h1,h2,_⟩:=nQ h;injection US with I7 mw
 subst I7 mw;have hw:=Zy c r (aG c.toNat) h1 (AO _) h2;rw [h,decide_eq_true rfl,Bool.and_true,qv _ hz] at hw;obtain ⟨_,he⟩:=hw;have hl:=congrArg List.length he;rw [List.length_take,Nat.min_eq_left h2] at hl
 have h5:xN z.toNat=[UInt8.ofNat z.toNat]:=by
  unfold xN;rw [if_pos (by omega)]
 rw [h5] at he hl;have hl:aG c.toNat=1:=by simpa using hl.symm
 refine ⟨hl,?_⟩;rw [hl] at hz;exact hz
set_option maxHeartbeats 1000000 in
theorem DO (s:ByteArray) (aC:Nat) (hs:s.size<=1099511627776) (h:aC < s.size) :
  EvP Tryz.prog 129 [.v (.string s),.v (.int .i64 aC)] (.tup [.v (.string (ba (Ir ((tx s).drop aC)))),.v (.int .i64 (iV ((tx s).drop aC):Nat))]):=by
 obtain ⟨c,r,hd,hb,gl,hex⟩:=DN h;have hu:=wh s aC hs c r hd;rw [hd];have ye:iV (c :: r)=if lY (c :: r)=true then aG c.toNat else 1:=rfl
 have ZA:Ir (c :: r)=if lY (c :: r)=true then xP (recV ((c :: r).take (iV (c :: r)))) ((c :: r).take (iV (c :: r))) else [92,120,mY (c.toNat / 16),mY (c.toNat % 16)]:=rfl
 have rf:=AN (c:=c) (r:=r);have bG:=fun g=>nQ (l:=c :: r) g;have UU:=fun g=>@QL c r g;have jT:=c.toNat_lt;rw [ye] at ZA;rw [ye,ZA];generalize lY (c :: r)=ok at hu rf bG UU ⊢;refine ev_go (P:=Tryz.prog) tt tt_ok 5000 65 [.tmp 4,.tmp 5] Tryz.func129 rfl Tryz.ntmps129 rfl (nL rfl) (fun E9 w9 hn9 hm9=>?_);refine bq Ry rfl hu ax (fun q hq=>?_);obtain ⟨z,n,rfl,hn⟩:=hq
 cases ok with
 | false=>
  rw [if_neg (by simp),if_neg (by simp)];have e0:IntKind.i64.wrap (c.toNat:Int)=c.toNat:=wrap64 (by omega) (by omega);have e1:IntKind.i64.wrap ((IntKind.i64.wrap (c.toNat:Int)).tdiv 16)=((c.toNat / 16:Nat):Int):=by rw [e0,Is,wrap64 (by omega) (by omega)]
  have e2:(IntKind.i64.wrap (c.toNat:Int)).tmod 16=((c.toNat % 16:Nat):Int):=by rw [e0,iC]
  have g1:=l4 _ (c.toNat / 16) (Nat.le_refl _) (by omega);have g2:=l4 _ (c.toNat % 16) (Nat.le_refl _) (by omega);rw [<- e1] at g1;rw [<- e2] at g2
  have t1:jW (c.toNat / 16)=[mY (c.toNat / 16)]:=by
   have:c.toNat / 16 / 16=0:=by omega
   rw [jW,this,hexP_0,Nat.mod_eq_of_lt (by omega)];all_goals rfl
  have t2:jW (c.toNat % 16)=[mY (c.toNat % 16)]:=by
   have:c.toNat % 16 / 16=0:=by omega
   rw [jW,this,hexP_0,Nat.mod_eq_of_lt (by omega)];all_goals rfl
  rw [t1] at g1;rw [t2] at g2;refine ⟨⟨by omega,by omega⟩,?_⟩;rw [show cL s ((aC:Int)).toNat=c.toNat from hb];refine ⟨⟨rfl,by decide⟩,?_⟩;refine call_p Hv (g1) ax rfl ?_;refine ⟨by show 2 + 1<=_;omega,?_⟩;refine ⟨⟨rfl,by decide⟩,?_⟩;refine call_p Hv (g2) ax rfl ?_;refine ⟨by rw [eS];show 2 + 1 + 1<=_;omega,?_⟩;refine ⟨.tup [.v (.string _),.v (.int .i64 _)],ax,?_⟩;exact oY (Iu rfl rfl)
 | true=>
  obtain ⟨rfl,hz,El⟩:=hn rfl;have hnn:=AY (rf rfl);rw [<- hz] at hnn;obtain ⟨_,_,US,h1,h2,_⟩:=bG rfl;injection US with I7 mw
  subst I7 mw;rw [List.length_cons] at h2;have UU:=UU rfl hz.symm;rw [if_pos rfl,if_pos rfl,<- hz];unfold xP;have hw1:IntKind.i64.wrap ((aC:Int) + 1)=((aC + 1:Nat):Int):=by rw [wrap64 (by omega) (by omega)];omega
  refine br (fun g=>?_) (fun g=>?_)
  ·have g:z=34∨z=92:=by simpa [aj] using g
   obtain ⟨k1,k2⟩:=UU (by omega)
   have k3:(if z=34 then [92,34] else if z=92 then [92,92] else if z=9 then [92,116] else if z=10 then [92,110] else if z=13 then [92,114]
     else if AX z=true then [92,117,123] ++ jW z.toNat ++ [125] else (c :: r).take (aG c.toNat))=[92,c]:=by
    have hc:∀ k:UInt8,(c.toNat:Int)=k.toNat->c=k:=fun k hk=>UInt8.toNat_inj.1 (by omega);rcases g with g | g
    ·rw [if_pos g,hc 34 (by rw [k2,g];rfl)]
    ·rw [if_neg (by omega),if_pos g,hc 92 (by rw [k2,g];rfl)]
   rw [k3,k1];have hx:=hex 1 (by omega);refine ⟨⟨by omega,by rw [hw1];omega,by rw [hw1];omega⟩,?_⟩;have Ja:s.extract ((aC:Int)).toNat (IntKind.i64.wrap ((aC:Int) + 1)).toNat=ba [c]:=by rw [hw1];exact hx
   refine ⟨Nat.le_trans (Nat.le_of_eq (congrArg (fun q:ByteArray=>1 + q.size) Ja)) (by show 1 + 1<=9223372036854775807;decide),?_⟩;refine ⟨.tup [.v (.string _),.v (.int .i64 _)],ax,?_⟩;exact oY ((congrArg (fun q=>ba [92] ++ q) Ja).trans (bU [92] [c]))
  have g:¬ z=34/\¬ z=92:=by simpa [aj] using g
  rw [if_neg g.1,if_neg g.2];refine br (fun g=>?_) (fun g=>?_)
  ·have g:z=9:=by simpa using g
   have k1:=(UU (by omega)).1;rw [if_pos g,k1];exact ⟨.tup [.v (.string _),.v (.int .i64 _)],ax,rfl⟩
  rw [if_neg (by simpa using g)];refine br (fun g=>?_) (fun g=>?_)
  ·have g:z=10:=by simpa using g
   have k1:=(UU (by omega)).1;rw [if_pos g,k1];exact ⟨.tup [.v (.string _),.v (.int .i64 _)],ax,rfl⟩
  rw [if_neg (by simpa using g)];refine br (fun g=>?_) (fun g=>?_)
  ·have g:z=13:=by simpa using g
   have k1:=(UU (by omega)).1;rw [if_pos g,k1];exact ⟨.tup [.v (.string _),.v (.int .i64 _)],ax,rfl⟩
  rw [if_neg (by simpa using g)];have hz1:z<=1114111:=by simp [jJ] at El;omega
  refine bq Xs rfl (DM z hnn.1 hz1) ax (fun q hq=>?_);obtain ⟨k,rfl,hk⟩:=hq;refine br (fun g=>?_) (fun g=>?_)
  ·rw [if_pos (by rw [<- hk];simpa using g)];have hz64:IntKind.i64.wrap z=(z.toNat:Nat):=by rw [wrap64 (by omega) (by omega)];omega
   have hx:=l4 _ z.toNat (Nat.le_refl _) (by omega);rw [<- hz64] at hx;have hl:=mZ (n:=z.toNat) (by omega);refine call_p Hv (hx) ax rfl ?_;refine ⟨by show 3 + (jW z.toNat).length<=_;omega,?_⟩;refine ⟨by rw [eS];show 3 + (jW z.toNat).length + 1<=_;omega,?_⟩;refine ⟨.tup [.v (.string _),.v (.int .i64 _)],ax,?_⟩;exact oY (Iv _)
  ·rw [if_neg (by rw [<- hk];simpa using g)];have hw:IntKind.i64.wrap ((aC:Int) + (aG c.toNat:Nat))=((aC + aG c.toNat:Nat):Int):=by rw [wrap64 (by omega) (by omega)];omega
   refine ⟨⟨by omega,by rw [hw];omega,by rw [hw];omega⟩,?_⟩;refine ⟨.tup [.v (.string _),.v (.int .i64 _)],ax,?_⟩;refine oY ?_;rw [hw];exact hex _ (by omega)
theorem qy {s:ByteArray} {e:Nat} (h:¬ e < s.size):(tx s).drop e=[]:=List.drop_of_length_le (by rw [bm];omega)
theorem DP {s:ByteArray} {e:Nat} (h:e < s.size):nb ((tx s).drop e).length ((tx s).drop e)=Ir ((tx s).drop e) ++ nb ((tx s).drop (e + iV ((tx s).drop e))).length ((tx s).drop (e + iV ((tx s).drop e))) /\
  1<=iV ((tx s).drop e)/\e + iV ((tx s).drop e)<=s.size:=by
 have aN:(tx s).drop e ≠ []:=by
  intro hc;have:=congrArg List.length hc;rw [List.length_drop,bm,List.length_nil] at this;omega
 obtain ⟨h1,h2⟩:=qw aN;rw [List.length_drop,bm] at h2;refine ⟨?_,h1,by omega⟩;rw [Kd aN,List.drop_drop]
abbrev Oe (s:ByteArray) (l:List UInt8) (e:Nat):St:=⟨[(0,⟨[],.v (.string s)⟩),(3,⟨[],.v (.string (ba l))⟩),(4,⟨[],.v (.int .i64 e)⟩)],[],[]⟩
theorem A1 (s:ByteArray) (hs:s.size<=1099511627776):EvP Tryz.prog 71 [.v (.string s)] (.v (.string (ba (oX (tx s))))):=by
 have hlen:=nc (tx s);rw [bm] at hlen;refine ev_go (P:=Tryz.prog) tt tt_ok 5000 25 [.tmp 2] Tryz.func71 rfl Tryz.ntmps71 rfl (nL rfl) (fun E9 w9 hn9 hm9=>?_);refine aq (fun j st=>∃ (e:Nat) (l:List UInt8),st=Oe s l e/\e<=s.size/\oX (tx s)=l ++ (nb ((tx s).drop e).length ((tx s).drop e) ++ [34])/\j=s.size - e) s.size (Oe s [34] 0) (weak_mk ⟨_,rfl⟩ wA rfl rfl rfl EJ) ⟨0,[34],rfl,by omega,by rw [List.drop_zero];rfl,by omega⟩ ?_;rintro _ st ⟨e,l,rfl,he,hq,rfl⟩;have xi:=congrArg List.length hq;rw [List.length_append,List.length_append] at xi;refine br (fun hL=>?_) (fun hL=>?_)
 ·have ap:e < s.size:=by simp at hL;omega
  obtain ⟨aT,h1,h2⟩:=DP ap;have hu:=DO s e hs ap;rw [aT] at hq xi;rw [List.length_append] at xi;generalize hU:Ir ((tx s).drop e)=U at hu hq xi;generalize hN:iV ((tx s).drop e)=n at hu hq xi h1 h2;have hw:IntKind.i64.wrap ((e:Int) + (n:Nat))=((e + n:Nat):Int):=by rw [wrap64 (by omega) (by omega)];omega
  refine call_p W9 (hu) ax rfl ?_;refine ⟨by show l.length + U.length<=_;omega,?_⟩;exact ⟨Oe s (l ++ U) (e + n),(weak_mk ⟨_,rfl⟩ wA rfl rfl rfl (by repeat' (first | exact trivial | exact ah rfl | exact ak hw | exact iJ (bU l U) | refine ⟨⟨_,rfl,?_⟩,?_⟩))),s.size - (e + n),by omega,e + n,_,rfl,h2,by rw [hq];simp only [List.append_assoc],rfl⟩
 ·have aO:¬ e < s.size:=by simp at hL;omega
  rw [qy aO] at hq xi;refine ⟨by show l.length + 1<=_;simp only [List.length_nil,List.length_cons] at xi;omega,?_⟩;rw [hq];exact congrArg (fun q=>DV.v (.string q)) (bU l [34])
abbrev UW (s:ByteArray) (l:List UInt8) (p:DV) (e:Nat):St:=
 ⟨[(0,⟨[],.v (.string s)⟩),(3,⟨[],.loc 0 0⟩),(4,⟨[],.v (.int .i64 e)⟩)],[[p,.sl 1 (bD l) (some 0)]],[⟨l.length,5,1,none⟩]⟩
theorem Gl (s:ByteArray) (hs:s.size<=1099511627776):EvP Tryz.prog 68 [.v (.string s)] (.v (.string (ba (oX (tx s))))):=by
 have hlen:=nc (tx s);rw [bm] at hlen;refine zR (s:=false) (bt:=[(0,161)]) (hbt:=fun p hp=>Nat.zero_le _) (P:=Tryz.prog) tt tt_ok 5000 25 [.tmp 2] Tryz.func68 rfl Tryz.ntmps68 rfl (nL rfl) (fun E9 w9 hn9 hm9=>?_);refine DF ⟨0,5,1,none⟩ ⟨[(0,⟨[],.v (.string s)⟩),(3,⟨[],.loc 0 0⟩)],[[.v (.pointer none),.sl 1 [] (some 0)]],[⟨0,5,1,none⟩]⟩ rfl ⟨_,_,rfl,ah rfl,_,_,rfl,ah rfl,rfl⟩ rfl ⟨_,_,rfl,⟨_,_,rfl,ah rfl,_,_,rfl,aX (Nat.le_refl _) rfl,rfl⟩,rfl⟩ ⟨⟨_,rfl,ah rfl⟩,⟨_,rfl,ah rfl⟩,trivial⟩ rfl rfl ?_;refine Iq (c:=34) (kt:=0) (l:=[]) rfl rfl (.head _) rfl (.inl rfl) rfl (by decide) rfl ?_;refine aq (fun j st=>∃ (e:Nat) (l:List UInt8),st=UW s l (.loc 0 0) e/\e<=s.size/\l ≠ []/\oX (tx s)=l ++ (nb ((tx s).drop e).length ((tx s).drop e) ++ [34])/\j=s.size - e) s.size (UW s [34] (.loc 0 0) 0) (weak_mk ⟨_,rfl⟩ wA rfl rfl rfl EJ) ⟨0,[34],rfl,by omega,by simp,by rw [List.drop_zero];rfl,by omega⟩ ?_;rintro _ st ⟨e,l,rfl,he,aN,hq,rfl⟩;have xi:=congrArg List.length hq;rw [List.length_append,List.length_append] at xi;refine br (fun hL=>?_) (fun hL=>?_)
 ·have ap:e < s.size:=by simp at hL;omega
  obtain ⟨aT,h1,h2⟩:=DP ap;have hu:=Gk s e hs ap;rw [aT] at hq xi;rw [List.length_append] at xi;generalize hU:Ir ((tx s).drop e)=U at hu hq xi;generalize hN:iV ((tx s).drop e)=n at hu hq xi h1 h2;have hw:IntKind.i64.wrap ((e:Int) + (n:Nat))=((e + n:Nat):Int):=by rw [wrap64 (by omega) (by omega)];omega
  refine call_p W8 (hu) ax rfl ?_;refine jK rfl (l ++ U) (l:=l) (kt:=0) rfl (.head _) rfl (.inr rfl) rfl (by simp [aN]) (by rw [List.length_append];omega) rfl (fun n9=>?_);exact ⟨UW s (l ++ U) (.loc 0 0) (e + n),(weak_mk ⟨_,rfl⟩ wA rfl rfl rfl (by repeat' (first | exact trivial | exact ah rfl | exact ak hw | refine ⟨⟨_,rfl,?_⟩,?_⟩))),s.size - (e + n),by omega,e + n,_,rfl,h2,by simp [aN],by rw [hq];simp only [List.append_assoc],rfl⟩
 ·have aO:¬ e < s.size:=by simp at hL;omega
  rw [qy aO] at hq xi;refine Iq (c:=34) (kt:=0) (l:=l) rfl rfl (.head _) rfl (.inr rfl) rfl (by simp only [List.length_nil,List.length_cons] at xi;omega) rfl ?_;refine Ip rfl (kt:=0) (l:=l ++ [34]) (.head _) rfl (by simp) (by simp) rfl rfl rfl ?_;rw [hq];exact (rfl:_=_)
end Go.Proofs.YtfifjddnnmfeoaaGreat
set_option maxRecDepth 100000
namespace Go.Proofs.YtfifjddnnmfeoaaGreat
open Go Go.RowKit Dv Tryz
end Go.Proofs.YtfifjddnnmfeoaaGreat
set_option maxRecDepth 100000
namespace Go.Proofs.YtfifjddnnmfeoaaGreat
open Go Go.RowKit Dv Tryz
def zh (n:Nd) (v:Val):Bool:=
 if 0 < v.ks.length∨(v.k≠3/\v.s≠al)∨(v.k=3/\v.n≠0) then false
 else if n.ag=1 then decide (v.k=1) && (decide (v.n=0) || decide (v.n=1))
 else if n.ag=2 then decide (v.k=2) && decide (n.lo<=v.n) && decide (v.n<=n.hi)
 else if n.ag=3 then decide (v.k=3) && decide ((v.s.size:Int)<=n.most)
 else decide (v.k=4) && decide (0<=v.n) && decide (v.n < n.af.length)
def cF (v:Val):Bool:=decide (v.s=al) && (decide (v.n=0) || decide (v.k=8))
def to0 (n:Nd):Int:=match n.au[0]? with | some e=>e.to | none=>0
def n5 (n:Nd) (v:Val):Option Ed:=if v.k=8/\0<=v.n/\v.n < n.au.length then n.au[v.n.toNat]? else none
def kidsL (n:Nd) (v:Val):List Int:=
 if n.ag=5∨n.ag=6 then List.replicate v.ks.length (to0 n)
 else if n.ag=7 then n.au.map Ed.to
 else match n5 n v with | none=>[] | some e=>if e.bare=true then [] else [e.to]
def dD (n:Nd) (v:Val):Bool:=
 if n.ag=5∨n.ag=6 then cF v && decide (v.k=n.ag) && decide ((v.ks.length:Int)<=if n.ag=6 then 1 else n.most)
 else if n.ag=7 then cF v && decide (v.k=7) && decide (n.au.length=v.ks.length)
 else match n5 n v with | none=>false | some _=>cF v && decide ((kidsL n v).length=v.ks.length)
def dq (ND:List Nd) (i:Int):Option Nd:=if i < 0 then none else ND[i.toNat]?
mutual
def fitV (ND:List Nd):Val->Int->Bool
 | .mk k n s ks,i=>match dq ND i with
  | none=>false
  | some d=>if d.ag < 5 then zh d (.mk k n s ks) else dD d (.mk k n s ks) && fitVs ND ks (kidsL d (.mk k n s ks))
def fitVs (ND:List Nd):List Val->List Int->Bool
 | v :: r,i :: l=>fitV ND v i && fitVs ND r l
 | _,_=>true
end
def Iw (n:Nd) (v:Val) (j:Nat):Int:=
 if n.ag=5 then (if (j:Int) < n.most then to0 n else -1)
 else if n.ag=6 then (if j < 1 then to0 n else -1)
 else if n.ag=7 then (match n.au[j]? with | some e=>e.to | none=>-1)
 else if n.ag=8 then (if j < 1/\0<=v.n/\v.n < n.au.length then (match n.au[v.n.toNat]? with | some e=>e.to | none=>-1) else -1)
 else -1
def wv (n:Nd) (v:Val):Bool:=decide (v.k≠n.ag) || (decide (v.k≠3) && decide (v.s≠al)) || (decide (0 < v.s.size) && decide (n.most < (v.s.size:Int)))
def DQ (n:Nd) (v:Val):Bool:=
 if n.ag=1 then decide (v.n=0) || decide (v.n=1)
 else if n.ag=2 then decide (n.lo<=v.n) && decide (v.n<=n.hi)
 else if n.ag=4 then decide (0<=v.n) && decide (v.n < n.af.length)
 else if n.ag=7 then decide (v.n=0) && decide (v.ks.length=n.au.length)
 else if n.ag=8 then (if 0<=v.n/\v.n < n.au.length then (match n.au[v.n.toNat]? with | some e=>decide (decide (v.ks.length=0)=e.bare) | none=>false) else false)
 else decide (v.n=0)
mutual
def wx (ND:List Nd):Val->Int->Bool
 | .mk k n s ks,i=>match dq ND i with
  | none=>false
  | some d=>if wv d (.mk k n s ks)=true then false else DQ d (.mk k n s ks) && refVs ND ks (Iw d (.mk k n s ks)) 0
def refVs (ND:List Nd):List Val->(Nat->Int)->Nat->Bool
 | [],_,_=>true
 | v :: r,f,j=>wx ND v (f j) && refVs ND r f (j + 1)
end
theorem zi (ND:List Nd) (v:Val):wx ND v (-1)=false:=by
 obtain ⟨k,n,s,ks⟩:=v;rw [wx];rfl
theorem Gm {ND:List Nd}:∀ {ks:List Val} {f:Nat->Int} {j:Nat},f j = -1->refVs ND ks f j=decide (ks=[])
 | [],f,j,h=>by simp [refVs]
 | v :: r,f,j,h=>by rw [refVs,h,zi];simp
theorem nd {ND:List Nd}:∀ {ks:List Val} {f:Nat->Int} {l:List Int} {j:Nat},(∀ v∈ks,∀ i,fitV ND v i=wx ND v i)->l.length=ks.length->(∀ e i,l[e]? = some i->f (j + e)=i)->refVs ND ks f j=fitVs ND ks l
 | [],f,[],j,_,_,_=>by simp [refVs,fitVs]
 | v :: r,f,i :: l,j,ih,hl,h=>by
  have h0:=h 0 i rfl;rw [Nat.add_zero] at h0
  rw [refVs,fitVs,h0,ih v (by simp) i,nd (fun x hx=>ih x (by simp [hx])) (by simpa using hl) fun e i' he=>by
   have:=h (e + 1) i' (by simpa using he)
   rwa [show j + 1 + e=j + (e + 1) by omega]]
 | [],f,_ :: _,j,_,hl,_=>by simp at hl
 | _ :: _,f,[],j,_,hl,_=>by simp at hl
theorem nR {ND:List Nd}:∀ {ks:List Val} {f:Nat->Int} {j m:Nat},j<=m->f m = -1->m < j + ks.length->refVs ND ks f j=false
 | [],f,j,m,h1,_,h3=>by simp at h3;omega
 | v :: r,f,j,m,h1,h2,h3=>by
  rw [refVs];by_cases h:j=m
  ·subst h;rw [h2,zi];all_goals rfl
  ·rw [nR (m:=m) (by omega) h2 (by simp at h3;omega),Bool.and_false]
theorem Og {L:Nat} {ND:List Nd} {d:Nd} (hd:dI L ND.length d) (v:Val) (ih:∀ x∈v.ks,∀ i,fitV ND x i=wx ND x i) :
  (if d.ag < 5 then zh d v else dD d v && fitVs ND v.ks (kidsL d v))=if wv d v=true then false else DQ d v && refVs ND v.ks (Iw d v) 0:=by
 have mn:=hd.k1;have Er:=hd.k8;have he:(al:ByteArray).size=0:=rfl;have hse:v.s=al->v.s.size=0:=fun h=>by rw [h];all_goals rfl
 by_cases h5:d.ag < 5
 ·rw [if_pos h5]
  have nK:Iw d v 0 = -1:=by
   unfold Iw;rw [if_neg (by omega),if_neg (by omega),if_neg (by omega),if_neg (by omega)]
  rw [Gm nK];unfold zh wv DQ;have hif:∀ (P:Prop) [Decidable P] (b:Bool),(if P then false else b)=(!decide P && b):=fun P _ b=>by split<;>simp_all
  have xj:(0 < v.ks.length)↔v.ks ≠ []:=List.length_pos_iff;have hif2:∀ (P b:Bool),(if P=true then false else b)=(!P && b):=fun P b=>by cases P<;>rfl
  rw [hif2,hif];have Sy:=hd.Si;have jX:=hd.Sk;rw [Bool.eq_iff_iff];rcases (show d.ag=1∨d.ag=2∨d.ag=3∨d.ag=4 by omega) with c | c | c | c
  all_goals
   by_cases hs:v.s=al
   ·have:=hse hs;by_cases hk:v.ks=[]
    ·simp [c,hs,hk,he]
     first | omega | done
    ·simp [c,hs,hk,he]
   ·by_cases hk:v.ks=[]
    ·have hs':¬ v.s=ByteArray.empty:=hs;simp [c,hs,hk,hs']
     first | omega | done
    ·simp [c,hs,hk]
 rw [if_neg h5];rcases Decidable.em (¬ v.k=d.ag) with Oh | Oh
 ·have hb:wv d v=true:=by simp [wv,Oh]
  rw [if_pos hb];unfold dD;by_cases c:d.ag=5∨d.ag=6
  ·rw [if_pos c];simp [Oh]
  rw [if_neg c];by_cases c7:d.ag=7
  ·rw [if_pos c7];have:¬ v.k=7:=by omega
   simp [this]
  rw [if_neg c7];have:n5 d v=none:=by unfold n5;rw [if_neg (by omega)]
  rw [this];all_goals rfl
 have Oh:v.k=d.ag:=Decidable.not_not.1 Oh;rcases Decidable.em (¬ v.s=al) with hs | hs
 ·have hb:wv d v=true:=by simp [wv,hs,Oh];left;omega
  have hp:cF v=false:=by simp [cF,hs]
  rw [if_pos hb];unfold dD;rw [hp];split
  ·simp
  ·split
   ·simp
   ·split<;>simp
 have hs:v.s=al:=Decidable.not_not.1 hs
 have hb:wv d v=false:=by
  have:=hse hs;simp [wv,Oh,hs,he]
 rw [if_neg (by rw [hb];simp)];by_cases c5:d.ag=5
 ·have hm:=hd.Sj c5
  have bG:DQ d v=decide (v.n=0):=by
   unfold DQ;rw [if_neg (by omega),if_neg (by omega),if_neg (by omega),if_neg (by omega),if_neg (by omega)]
  have Jh:dD d v=(decide (v.n=0) && decide ((v.ks.length:Int)<=d.most)):=by
   unfold dD cF;rw [if_pos (.inl c5),if_neg (by omega)];simp [hs,Oh,c5]
  have iL:kidsL d v=List.replicate v.ks.length (to0 d):=by unfold kidsL;rw [if_pos (.inl c5)]
  rw [bG,Jh,iL];by_cases fQ:(v.ks.length:Int)<=d.most
  ·rw [nd (l:=List.replicate v.ks.length (to0 d)) ih (by simp) fun e i he=>by
    have ap:e < v.ks.length:=by
     have:=(gS he).1;simpa using this
    rw [List.getElem?_replicate,if_pos ap] at he;simp only [oI] at he;unfold Iw
    rw [if_pos c5,if_pos (by omega),he]]
   simp [fQ]
  ·rw [nR (m:=d.most.toNat) (by omega) (by unfold Iw;rw [if_pos c5,if_neg (by omega)]) (by omega)];simp [fQ]
 by_cases c6:d.ag=6
 ·have bG:DQ d v=decide (v.n=0):=by
   unfold DQ;rw [if_neg (by omega),if_neg (by omega),if_neg (by omega),if_neg (by omega),if_neg (by omega)]
  have Jh:dD d v=(decide (v.n=0) && decide (v.ks.length<=1)):=by
   unfold dD cF;rw [if_pos (.inr c6),if_pos c6];have:((v.ks.length:Int)<=1)↔v.ks.length<=1:=by omega
   simp [hs,Oh,c6,this]
  have iL:kidsL d v=List.replicate v.ks.length (to0 d):=by unfold kidsL;rw [if_pos (.inr c6)]
  rw [bG,Jh,iL];by_cases fQ:v.ks.length<=1
  ·rw [nd (l:=List.replicate v.ks.length (to0 d)) ih (by simp) fun e i he=>by
    have ap:e < v.ks.length:=by
     have:=(gS he).1;simpa using this
    rw [List.getElem?_replicate,if_pos ap] at he;simp only [oI] at he;unfold Iw
    rw [if_neg c5,if_pos c6,if_pos (by omega),he]]
   simp [fQ]
  ·rw [nR (m:=1) (by omega) (by unfold Iw;rw [if_neg c5,if_pos c6,if_neg (by omega)]) (by omega)];simp [fQ]
 by_cases c7:d.ag=7
 ·have bG:DQ d v=(decide (v.n=0) && decide (v.ks.length=d.au.length)):=by
   unfold DQ;rw [if_neg (by omega),if_neg (by omega),if_neg (by omega),if_pos c7]
  have Jh:dD d v=(decide (v.n=0) && decide (v.ks.length=d.au.length)):=by
   unfold dD cF;rw [if_neg (by omega),if_pos c7];have:(d.au.length=v.ks.length)↔(v.ks.length=d.au.length):=eq_comm;simp [hs,Oh,c7,this]
  have iL:kidsL d v=d.au.map Ed.to:=by unfold kidsL;rw [if_neg (by omega),if_pos c7]
  rw [bG,Jh,iL];by_cases fQ:v.ks.length=d.au.length
  ·rw [nd (l:=d.au.map Ed.to) ih (by simp [fQ]) fun e i he=>by
    rw [List.getElem?_map] at he;unfold Iw;rw [if_neg c5,if_neg c6,if_pos c7,Nat.zero_add]
    cases hx:d.au[e]? with
    | none=>rw [hx] at he;cases he
    | some x=>rw [hx] at he;simpa using he]
  ·simp [fQ]
 have c8:d.ag=8:=by omega
 have bG:DQ d v=(if 0<=v.n/\v.n < d.au.length then (match d.au[v.n.toNat]? with | some e=>decide (decide (v.ks.length=0)=e.bare) | none=>false) else false):=by
  unfold DQ;rw [if_neg (by omega),if_neg (by omega),if_neg (by omega),if_neg c7,if_pos c8]
 rcases Decidable.em (¬ (0<=v.n/\v.n < d.au.length)) with hr | hr
 ·have ht:n5 d v=none:=by unfold n5;rw [if_neg (fun h=>hr h.2)]
  have Jh:dD d v=false:=by unfold dD;rw [if_neg (by omega),if_neg c7,ht]
  rw [Jh,bG,if_neg hr];all_goals rfl
 have hr:0<=v.n/\v.n < d.au.length:=Decidable.not_not.1 hr;obtain ⟨e,hx⟩:∃ e,d.au[v.n.toNat]? = some e:=⟨_,gE (by omega)⟩;have ht:n5 d v=some e:=by unfold n5;rw [if_pos ⟨by omega,hr⟩,hx]
 have iL:kidsL d v=if e.bare=true then [] else [e.to]:=by unfold kidsL;rw [if_neg (by omega),if_neg c7,ht]
 have Jh:dD d v=decide ((kidsL d v).length=v.ks.length):=by
  unfold dD;rw [if_neg (by omega),if_neg c7,ht];have hp:cF v=true:=by simp [cF,hs,Oh,c8]
  simp only [hp,Bool.true_and]
 have htr:∀ j,Iw d v j=if j < 1 then e.to else -1:=fun j=>by
  unfold Iw;rw [if_neg c5,if_neg c6,if_neg c7,if_pos c8,hx];by_cases hj:j < 1
  ·rw [if_pos ⟨hj,hr⟩,if_pos hj]
  ·rw [if_neg (fun h=>hj h.1),if_neg hj]
 rw [Jh,bG,if_pos hr,hx,iL];simp only
 cases ZB:e.bare with
 | true=>
  simp only [if_true];by_cases hl:v.ks.length=0
  ·have Oi:=List.eq_nil_of_length_eq_zero hl;rw [Oi];simp [fitVs,refVs]
  ·have:decide (([]:List Int).length=v.ks.length)=false:=decide_eq_false fun h=>hl (by simpa using h.symm);rw [this];simp [hl]
 | false=>
  simp only [Bool.false_eq_true,if_false];by_cases hl:v.ks.length=1
  ·rw [nd (l:=[e.to]) ih (by simp [hl]) fun j i he=>by
    have hj:j < 1:=by have:=(gS he).1;simpa using this
    have:j=0:=by omega
    subst this;rw [htr]
    simpa using he]
   simp [hl]
  ·have h1:¬ ([e.to]:List Int).length=v.ks.length:=by simpa using fun h=>hl h.symm
   by_cases hz:v.ks.length=0
   ·simp [hz]
   ·rw [nR (m:=1) (by omega) (by rw [htr];simp) (by omega)];simp only [Bool.and_false];have:decide (([e.to]:List Int).length=v.ks.length)=false:=by simpa using fun h=>hl h.symm
    rw [this];all_goals rfl
mutual
theorem Oj {L:Nat} {ND:List Nd} (bG:∀ n∈ND,dI L ND.length n):∀ (v:Val) (i:Int),fitV ND v i=wx ND v i
 | .mk k n s ks,i=>by
  have ih:=Ix bG ks;rw [fitV,wx];unfold dq;split
  ·rfl
  ·rename_i h;split at h
   ·cases h
   ·exact Og (bG _ (mG h)) (.mk k n s ks) ih
theorem Ix {L:Nat} {ND:List Nd} (bG:∀ n∈ND,dI L ND.length n):∀ (ks:List Val),∀ x∈ks,∀ i:Int,fitV ND x i=wx ND x i
 | [],x,hx,_=>by cases hx
 | v :: r,x,hx,i=>by
  rcases List.mem_cons.1 hx with hx | hx
  ·rw [hx];exact Oj bG v i
  ·exact Ix bG r x hx i
end
def nS (l:List Int):List (List DV):=l.map fun z=>[DV.v (.int .i64 z)]
theorem kf (l:List Int):(nS l).length=l.length:=by simp [nS]
theorem nT {l:List Int} {i:Nat} {z:Int} (h:l[i]? = some z):(nS l)[i]? = some [DV.v (.int .i64 z)]:=by simp [nS,h]
theorem qz (l:List Int) (z:Int):nS l ++ [[DV.v (.int .i64 z)]]=nS (l ++ [z]):=by simp [nS]
theorem r6:(⟨#[]⟩:ByteArray)=al:=rfl
theorem Kg (n:Nd) (v:Val):EvP Tryz.prog 60 [.agg (jR n),.agg (aU v)] (.v (.bool (zh n v))):=by
 have hbl:=bR n.af;obtain ⟨ag,aC,lo,hi,most,af,es⟩:=n;obtain ⟨q,z,s,ks⟩:=v;have cH:=aW ks;simp only at hbl
 have hF:zh ⟨ag,aC,lo,hi,most,af,es⟩ (.mk q z s ks)=if 0 < ks.length∨(q≠3/\s≠al)∨(q=3/\z≠0) then false
  else if ag=1 then decide (q=1) && (decide (z=0) || decide (z=1))
  else if ag=2 then decide (q=2) && decide (lo<=z) && decide (z<=hi)
  else if ag=3 then decide (q=3) && decide ((s.size:Int)<=most)
  else decide (q=4) && decide (0<=z) && decide (z < af.length):=rfl
 have hc:∀ b:Bool,b=pickB (pickB (decide (0 < ((dVals ks).length:Int))) true (pickB (!decide (q=3)) (!decide (s=⟨#[]⟩)) false)) true (pickB (decide (q=3)) (!decide (z=0)) false)->b=decide (0 < ks.length∨(q≠3/\s≠al)∨(q=3/\z≠0)):=fun b h=>by
  rw [h,cH,r6,Bool.eq_iff_iff];simp [aj,pickB_and,or_assoc]
 rw [hF];refine ev_go (P:=Tryz.prog) tt tt_ok 5000 94 [.tmp 4] Tryz.func60 rfl Tryz.ntmps60 rfl (nL rfl) (fun E9 w9 hn9 hm9=>?_);refine br (fun c=>?_) (fun c=>?_)
 ·have c:=of_decide_eq_true ((hc _ rfl).symm.trans c);rw [if_pos c];exact (rfl:_=_)
 have c:=of_decide_eq_false ((hc _ rfl).symm.trans c);rw [if_neg c];refine br (fun c1=>?_) (fun c1=>?_)
 ·have c1:ag=1:=by simpa using c1
  refine (congrArg (fun b=>DV.v (.bool b)) ?_:_=_);simp [c1,pickB_and,aj]
 have c1:¬ ag=1:=by simpa using c1
 refine br (fun c2=>?_) (fun c2=>?_)
 ·have c2:ag=2:=by simpa using c2
  refine (congrArg (fun b=>DV.v (.bool b)) ?_:_=_);simp [c2,pickB_and,aj]
 have c2:¬ ag=2:=by simpa using c2
 refine br (fun c3=>?_) (fun c3=>?_)
 ·have c3:ag=3:=by simpa using c3
  refine (congrArg (fun b=>DV.v (.bool b)) ?_:_=_);simp [c3,pickB_and,aj]
 have c3:¬ ag=3:=by simpa using c3
 refine (congrArg (fun b=>DV.v (.bool b)) ?_:_=_);simp [c1,c2,c3,pickB_and,aj,hbl]
abbrev zj (n:Nd) (v:Val) (l:List Int) (p:Bool) (kd mo:Int) (q e:Nat):St:=
 ⟨[(2,⟨[],.loc 0 0⟩),(3,⟨[],.loc 1 0⟩),(6,⟨[],.sl 1 (nS l) (some 0)⟩),(7,⟨[],.v (.bool p)⟩),(8,⟨[],.v (.int .i64 kd)⟩),(9,⟨[],.v (.int .i64 mo)⟩),(38,⟨[],.v (.int .i64 v.ks.length)⟩),(39,⟨[],.v (.int .i64 e)⟩)],[jR n,aU v],[⟨q,3,1,none⟩]⟩
abbrev Ol (n:Nd) (v:Val) (l:List Int) (p:Bool) (q e:Nat):St:=
 ⟨[(2,⟨[],.loc 0 0⟩),(3,⟨[],.loc 1 0⟩),(6,⟨[],.sl 1 (nS l) (some 0)⟩),(7,⟨[],.v (.bool p)⟩),(67,⟨[],.sl 10 (fv n.au) none⟩),(68,⟨[],.v (.int .i64 (fv n.au).length)⟩),(69,⟨[],.v (.int .i64 e)⟩)],[jR n,aU v],[⟨q,3,1,none⟩]⟩
theorem Kh {L N:Nat} {n:Nd} (hn:dI L N n) (h5:5<=n.ag) (v:Val) (hv:v.wt<=1099511627776) :
  EvP Tryz.prog 61 [.agg (jR n),.agg (aU v)] (.tup [.sl 1 (nS (kidsL n v)) none,.v (.bool (dD n v))]):=by
 have Er:=hn.k8;have xR:=hn.one;have sO:=hn.many;obtain ⟨ag,aC,lo,hi,most,af,es⟩:=n;obtain ⟨q,z,s,ks⟩:=v;have cH:=aW ks;have kj:=cE es;have iL:=dC ks;rw [Val.wt] at hv;simp only at Er h5 xR sO
 have hp:∀ b:Bool,b=pickB (decide (s=⟨#[]⟩)) (pickB (decide (z=0)) true (decide (q=8))) false->b=cF (.mk q z s ks):=fun b h=>by
  rw [h];rw [pickB_and,aj,r6];all_goals rfl
 refine ev_go (P:=Tryz.prog) tt tt_ok 5000 134 [.tmp 4,.tmp 5] Tryz.func61 rfl Tryz.ntmps61 rfl (nL rfl) (fun E9 w9 hn9 hm9=>?_);refine br (fun c=>?_) (fun c=>?_)
 ·have c:ag=5:=by simpa using c
  have UX:ag=5∨ag=6:=.inl c;obtain ⟨x,jQ,_,_⟩:=xR UX;refine br (fun _=>?_) (fun h=>absurd h (by simp [c]));refine aE (fun _=>false) mo (by decide +kernel) ?_;refine br (fun h=>absurd h (by simp [c])) (fun _=>?_);obtain ⟨kd,mo,h1,h2,h3,h4⟩:∃ kd mo:Int,5=kd/\most=mo/\kd=ag/\mo=(if ag=6 then 1 else most):=⟨5,most,rfl,rfl,c.symm,by rw [if_neg (by omega)]⟩;have uo:(fv es)[0]? = some (vx x):=by rw [jQ];all_goals rfl
  have ht0:to0 ⟨ag,aC,lo,hi,most,af,es⟩=x.to:=by simp [to0,jQ]
  refine aq (fun j st=>∃ e:Nat,st=zj ⟨ag,aC,lo,hi,most,af,es⟩ (.mk q z s ks) (List.replicate e x.to) (cF (.mk q z s ks)) kd mo e e/\e<=ks.length/\j=ks.length - e) ks.length (zj ⟨ag,aC,lo,hi,most,af,es⟩ (.mk q z s ks) [] (cF (.mk q z s ks)) kd mo 0 0) (dj 2 ⟨0,3,1,none⟩ rfl rfl rfl (by repeat' (first | exact rfl | exact ah rfl | exact cr (hp _ rfl) | exact ak h1 | exact ak h2 | exact ak (congrArg Nat.cast cH) | exact aX (Nat.le_refl _) rfl | exact aX (Nat.le_refl _) rfl | refine ⟨_,_,rfl,?_,?_⟩)) rfl rfl (by repeat' (first | exact trivial | exact ah rfl | exact cr (hp _ rfl) | exact ak h1 | exact ak h2 | exact ak (congrArg Nat.cast cH) | exact aX (Nat.le_refl _) rfl | refine ⟨⟨_,rfl,?_⟩,?_⟩))) ⟨0,rfl,by omega,by omega⟩ ?_;rintro j st ⟨e,rfl,he,rfl⟩;refine br (fun hL=>?_) (fun hL=>?_)
  ·have ap:e < ks.length:=by have:=hL;simp [Val.ks] at this;exact this
   have dW:(nS (List.replicate e x.to)).length=e:=by rw [kf,List.length_replicate]
   have eE:nS (List.replicate e x.to) ++ [[DV.v (.int .i64 x.to)]]=nS (List.replicate (e + 1) x.to):=by rw [qz,List.replicate_succ']
   refine ⟨_,⟨by omega,uo⟩,?_⟩;refine ⟨dW,⟨by rw [dW];simp [maxLen];omega,by rw [dW];simp;omega⟩,?_⟩;exact ⟨zj ⟨ag,aC,lo,hi,most,af,es⟩ (.mk q z s ks) (List.replicate (e + 1) x.to) (cF (.mk q z s ks)) kd mo (e + 1) (e + 1),(az 2 rfl (yc ap eE) rfl rfl rfl (tg ap eE)),ks.length - (e + 1),by omega,e + 1,rfl,by omega,rfl⟩
  ·have aO:e=ks.length:=by have:=hL;simp [Val.ks] at this;omega
   subst aO;have xS:kidsL ⟨ag,aC,lo,hi,most,af,es⟩ (.mk q z s ks)=List.replicate ks.length x.to:=by unfold kidsL;rw [if_pos UX,ht0];all_goals rfl
   have dW:(nS (List.replicate ks.length x.to)).length=ks.length:=by rw [kf,List.length_replicate]
   have hB:pickB (pickB (cF (.mk q z s ks)) (decide (q=kd)) false) (decide (((nS (List.replicate ks.length x.to)).length:Int)<=mo)) false=dD ⟨ag,aC,lo,hi,most,af,es⟩ (.mk q z s ks):=by
    rw [dW,h3,h4,pickB_and,pickB_and];unfold dD;rw [if_pos UX];rfl
   rw [xS];exact ⟨_,(aB hB),rfl⟩
 have c5:¬ ag=5:=by simpa using c
 refine br (fun c=>?_) (fun c=>?_)
 ·have c:ag=6:=by simpa using c
  have UX:ag=5∨ag=6:=.inr c;obtain ⟨x,jQ,_,_⟩:=xR UX;refine aE (fun _=>false) mo (by decide +kernel) ?_;refine br (fun _=>?_) (fun h=>absurd h (by simp [c]));obtain ⟨kd,mo,h1,h2,h3,h4⟩:∃ kd mo:Int,6=kd/\1=mo/\kd=ag/\mo=(if ag=6 then 1 else most):=⟨6,1,rfl,rfl,c.symm,by rw [if_pos c]⟩;have uo:(fv es)[0]? = some (vx x):=by rw [jQ];all_goals rfl
  have ht0:to0 ⟨ag,aC,lo,hi,most,af,es⟩=x.to:=by simp [to0,jQ]
  refine aq (fun j st=>∃ e:Nat,st=zj ⟨ag,aC,lo,hi,most,af,es⟩ (.mk q z s ks) (List.replicate e x.to) (cF (.mk q z s ks)) kd mo e e/\e<=ks.length/\j=ks.length - e) ks.length (zj ⟨ag,aC,lo,hi,most,af,es⟩ (.mk q z s ks) [] (cF (.mk q z s ks)) kd mo 0 0) (dj 2 ⟨0,3,1,none⟩ rfl rfl rfl (by repeat' (first | exact rfl | exact ah rfl | exact cr (hp _ rfl) | exact ak h1 | exact ak h2 | exact ak (congrArg Nat.cast cH) | exact aX (Nat.le_refl _) rfl | exact aX (Nat.le_refl _) rfl | refine ⟨_,_,rfl,?_,?_⟩)) rfl rfl (by repeat' (first | exact trivial | exact ah rfl | exact cr (hp _ rfl) | exact ak h1 | exact ak h2 | exact ak (congrArg Nat.cast cH) | exact aX (Nat.le_refl _) rfl | refine ⟨⟨_,rfl,?_⟩,?_⟩))) ⟨0,rfl,by omega,by omega⟩ ?_;rintro j st ⟨e,rfl,he,rfl⟩;refine br (fun hL=>?_) (fun hL=>?_)
  ·have ap:e < ks.length:=by have:=hL;simp [Val.ks] at this;exact this
   have dW:(nS (List.replicate e x.to)).length=e:=by rw [kf,List.length_replicate]
   have eE:nS (List.replicate e x.to) ++ [[DV.v (.int .i64 x.to)]]=nS (List.replicate (e + 1) x.to):=by rw [qz,List.replicate_succ']
   refine ⟨_,⟨by omega,uo⟩,?_⟩;refine ⟨dW,⟨by rw [dW];simp [maxLen];omega,by rw [dW];simp;omega⟩,?_⟩;exact ⟨zj ⟨ag,aC,lo,hi,most,af,es⟩ (.mk q z s ks) (List.replicate (e + 1) x.to) (cF (.mk q z s ks)) kd mo (e + 1) (e + 1),(az 2 rfl (yc ap eE) rfl rfl rfl (tg ap eE)),ks.length - (e + 1),by omega,e + 1,rfl,by omega,rfl⟩
  ·have aO:e=ks.length:=by have:=hL;simp [Val.ks] at this;omega
   subst aO;have xS:kidsL ⟨ag,aC,lo,hi,most,af,es⟩ (.mk q z s ks)=List.replicate ks.length x.to:=by unfold kidsL;rw [if_pos UX,ht0];all_goals rfl
   have dW:(nS (List.replicate ks.length x.to)).length=ks.length:=by rw [kf,List.length_replicate]
   have hB:pickB (pickB (cF (.mk q z s ks)) (decide (q=kd)) false) (decide (((nS (List.replicate ks.length x.to)).length:Int)<=mo)) false=dD ⟨ag,aC,lo,hi,most,af,es⟩ (.mk q z s ks):=by
    rw [dW,h3,h4,pickB_and,pickB_and];unfold dD;rw [if_pos UX];rfl
   rw [xS];exact ⟨_,(aB hB),rfl⟩
 have c6:¬ ag=6:=by simpa using c
 obtain ⟨hm64,hm8,_,_⟩:=sO (by omega);refine br (fun c=>?_) (fun c=>?_)
 ·have c7:ag=7:=by simpa using c
  refine aq (fun j st=>∃ e:Nat,st=Ol ⟨ag,aC,lo,hi,most,af,es⟩ (.mk q z s ks) ((es.take e).map Ed.to) (cF (.mk q z s ks)) e e/\e<=es.length/\j=es.length - e) es.length (Ol ⟨ag,aC,lo,hi,most,af,es⟩ (.mk q z s ks) [] (cF (.mk q z s ks)) 0 0) (dj 2 ⟨0,3,1,none⟩ rfl rfl rfl (by repeat' (first | exact rfl | exact ah rfl | exact cr (hp _ rfl) | exact aX (Nat.le_refl _) rfl | exact aX (Nat.le_refl _) rfl | refine ⟨_,_,rfl,?_,?_⟩)) rfl rfl (by repeat' (first | exact trivial | exact ah rfl | exact cr (hp _ rfl) | exact aX (Nat.le_refl _) rfl | refine ⟨⟨_,rfl,?_⟩,?_⟩))) ⟨0,rfl,by omega,by omega⟩ ?_;rintro j st ⟨e,rfl,he,rfl⟩;refine br (fun hL=>?_) (fun hL=>?_)
  ·have ap:e < es.length:=by have:=hL;simp [kj] at this;exact this
   obtain ⟨x,hx⟩:∃ x,es[e]? = some x:=⟨_,gE ap⟩;have dW:(nS ((es.take e).map Ed.to)).length=e:=by rw [kf,List.length_map,List.length_take];omega
   have eE:nS ((es.take e).map Ed.to) ++ [[DV.v (.int .i64 x.to)]]=nS ((es.take (e + 1)).map Ed.to):=by rw [qz,zb hx,List.map_append];all_goals rfl
   refine ⟨_,⟨by omega,bI hx⟩,?_⟩;refine ⟨dW,⟨by rw [dW];simp [maxLen];omega,by rw [dW];simp;omega⟩,?_⟩;exact ⟨Ol ⟨ag,aC,lo,hi,most,af,es⟩ (.mk q z s ks) ((es.take (e + 1)).map Ed.to) (cF (.mk q z s ks)) (e + 1) (e + 1),(az 2 rfl (yc ap eE) rfl rfl rfl (tg ap eE)),es.length - (e + 1),by omega,e + 1,rfl,by omega,rfl⟩
  ·have aO:e=es.length:=by have:=hL;simp [kj] at this;omega
   subst aO;rw [List.take_length];have xS:kidsL ⟨ag,aC,lo,hi,most,af,es⟩ (.mk q z s ks)=es.map Ed.to:=by unfold kidsL;rw [if_neg (by simp only;omega),if_pos c7]
   have dW:(nS (es.map Ed.to)).length=es.length:=by rw [kf,List.length_map]
   have hB:pickB (pickB (cF (.mk q z s ks)) (decide (q=7)) false) (decide (((nS (es.map Ed.to)).length:Int)=((dVals ks).length:Int))) false=dD ⟨ag,aC,lo,hi,most,af,es⟩ (.mk q z s ks):=by
    rw [dW,cH,pickB_and,pickB_and];unfold dD;rw [if_neg (by simp only;omega),if_pos c7];have:((es.length:Int)=(ks.length:Int))↔es.length=ks.length:=by omega
    simp only [this,Val.k,Val.ks];rfl
   rw [xS];refine aE (fun _=>false) mo (by decide +kernel) ?_;exact ⟨_,(aB hB),rfl⟩
 have c7:¬ ag=7:=by simpa using c
 have xS:kidsL ⟨ag,aC,lo,hi,most,af,es⟩ (.mk q z s ks)=(match n5 ⟨ag,aC,lo,hi,most,af,es⟩ (.mk q z s ks) with | none=>[] | some e=>if e.bare=true then [] else [e.to]):=by unfold kidsL;rw [if_neg (by simp only;omega),if_neg c7];all_goals rfl
 have QM:dD ⟨ag,aC,lo,hi,most,af,es⟩ (.mk q z s ks)=(match n5 ⟨ag,aC,lo,hi,most,af,es⟩ (.mk q z s ks) with | none=>false | some _=>cF (.mk q z s ks) && decide ((kidsL ⟨ag,aC,lo,hi,most,af,es⟩ (.mk q z s ks)).length=ks.length)):=by unfold dD;rw [if_neg (by simp only;omega),if_neg c7];all_goals rfl
 have hc:∀ b:Bool,b=pickB (pickB (!decide (q=8)) true (decide (z < 0))) true (decide (((fv es).length:Int)<=z))->b = !decide (q=8/\0<=z/\z < es.length):=fun b h=>by
  rw [h,kj,aj,aj,Bool.eq_iff_iff];simp;omega
 refine br (fun c=>?_) (fun c=>?_)
 ·have c:¬ (q=8/\0<=z/\z < es.length):=by have:=(hc _ rfl).symm.trans c;simpa only [Bool.not_eq_true',decide_eq_false_iff_not] using this
  have ht:n5 ⟨ag,aC,lo,hi,most,af,es⟩ (.mk q z s ks)=none:=by show (if q=8/\0<=z/\z < es.length then es[z.toNat]? else none)=_;rw [if_neg c]
  rw [QM,xS,ht];exact ⟨_,ax,rfl⟩
 ·have c:q=8/\0<=z/\z < es.length:=by have:=(hc _ rfl).symm.trans c;simpa only [Bool.not_eq_false',decide_eq_true_eq] using this
  obtain ⟨x,hx⟩:∃ x,es[z.toNat]? = some x:=⟨_,gE (by omega)⟩;have ht:n5 ⟨ag,aC,lo,hi,most,af,es⟩ (.mk q z s ks)=some x:=by show (if q=8/\0<=z/\z < es.length then es[z.toNat]? else none)=_;rw [if_pos c];exact hx
  rw [ht] at QM xS;refine ⟨_,⟨by omega,bI hx⟩,?_⟩;refine br (fun hb=>?_) (fun hb=>?_)
  ·have hb:x.bare=false:=by simpa using hb
   have Om:kidsL ⟨ag,aC,lo,hi,most,af,es⟩ (.mk q z s ks)=[x.to]:=by rw [xS];simp [hb]
   have hB:pickB (cF (.mk q z s ks)) (decide ((1:Int)=((dVals ks).length:Int))) false=dD ⟨ag,aC,lo,hi,most,af,es⟩ (.mk q z s ks):=by
    rw [QM,Om,cH,pickB_and];have:((1:Int)=(ks.length:Int)) ↔ [x.to].length=ks.length:=by simp;omega
    simp only [this]
   rw [Om,<- hB];refine ⟨⟨by simp [maxLen],by simp⟩,?_⟩;refine aE (fun _=>false) mo (by decide +kernel) ?_;exact ⟨_,(by repeat' (first | exact rfl | exact trivial | exact Or.inr (Or.inl ⟨_,rfl⟩) | exact Or.inr ⟨_,rfl⟩ | exact Or.inl ⟨rfl,rfl⟩ | exact Or.inl rfl | refine Or.inr ⟨_,_,rfl,Nat.zero_le _,rfl,?_⟩ | refine ⟨_,_,rfl,?_,?_⟩ | refine ⟨_,rfl,?_⟩ | exact congrArg (fun b=>DV.v (.bool (pickB b _ false))) (hp _ rfl) | refine Or.inr (Or.inr (Or.inr ⟨_,_,rfl,?_⟩)) | exact Or.inl rfl | refine Or.inr ?_)),rfl⟩
  ·have hb:x.bare=true:=by simpa using hb
   have Om:kidsL ⟨ag,aC,lo,hi,most,af,es⟩ (.mk q z s ks)=[]:=by rw [xS];simp [hb]
   have hB:pickB (cF (.mk q z s ks)) (decide ((0:Int)=((dVals ks).length:Int))) false=dD ⟨ag,aC,lo,hi,most,af,es⟩ (.mk q z s ks):=by
    rw [QM,Om,cH,pickB_and];have:((0:Int)=(ks.length:Int))↔([]:List Int).length=ks.length:=by simp;omega
    simp only [this]
   rw [Om,<- hB];refine aE (fun _=>false) mo (by decide +kernel) ?_;exact ⟨_,(by repeat' (first | exact rfl | exact trivial | exact Or.inr (Or.inl ⟨_,rfl⟩) | exact Or.inr ⟨_,rfl⟩ | exact Or.inl ⟨rfl,rfl⟩ | exact Or.inl rfl | refine Or.inr ⟨_,_,rfl,Nat.zero_le _,rfl,?_⟩ | refine ⟨_,_,rfl,?_,?_⟩ | refine ⟨_,rfl,?_⟩ | exact congrArg (fun b=>DV.v (.bool (pickB b _ false))) (hp _ rfl) | refine Or.inr (Or.inr (Or.inr ⟨_,_,rfl,?_⟩)) | exact Or.inl rfl | refine Or.inr ?_)),rfl⟩
theorem zk {n:Nd} {v:Val} (hk:5<=n.ag) (h:dD n v=true):(kidsL n v).length=v.ks.length:=by
 unfold dD at h;by_cases c:n.ag=5∨n.ag=6
 ·unfold kidsL;rw [if_pos c];simp
 rw [if_neg c] at h;by_cases c7:n.ag=7
 ·rw [if_pos c7] at h;unfold kidsL;rw [if_neg c,if_pos c7,List.length_map];simp at h;exact h.2
 rw [if_neg c7] at h
 cases ht:n5 n v with
 | none=>rw [ht] at h;cases h
 | some e=>rw [ht] at h;simp only [Bool.and_eq_true,decide_eq_true_eq] at h;exact h.2
theorem Gn {ND:List Nd} {ks:List Val} {l:List Int} {e:Nat} {x:Val} {i:Int} (h1:ks[e]? = some x) (h2:l[e]? = some i):fitVs ND (ks.drop e) (l.drop e)=(fitV ND x i && fitVs ND (ks.drop (e + 1)) (l.drop (e + 1))):=by
 rw [drop_cons h1,drop_cons h2,fitVs]
theorem cO {ND:List Nd} {i:Int} {d:Nd} (h:dq ND i=some d):0<=i/\ND[i.toNat]? = some d:=by
 unfold dq at h;split at h
 ·cases h
 ·exact ⟨by omega,h⟩
theorem wy {ND:List Nd} {i:Int} (h:dq ND i=none):i < 0∨(ND.length:Int)<=i:=by
 unfold dq at h;split at h
 ·left;assumption
 ·right;have:=List.getElem?_eq_none_iff.1 h;omega
abbrev UY (PC:List DV) (v:Val) (l:List Int) (e:Nat):St:=
 ⟨[(0,⟨[],.pt PC 0⟩),(5,⟨[],.loc 0 0⟩),(36,⟨[],.sl 1 (nS l) none⟩),(37,⟨[],.v (.int .i64 l.length)⟩),(38,⟨[],.v (.int .i64 e)⟩)],[aU v],[]⟩
theorem wz {S:Sch} {ND:List Nd} {PC:List DV} (hP:ke S ND PC):∀ (k:Nat) (v:Val),v.wt<=k->v.wt<=1099511627776->∀ i:Int,EvP Tryz.prog 20 [.pt PC 0,.v (.int .i64 i),.agg (aU v)] (.v (.bool (fitV ND v i)))
 | 0,v,h,_=>by have:=v.de;omega
 | k + 1,.mk q z s ks,h,hb=>fun i=>by
  have ih:=wz hP k;have iL:=dC ks;have cH:=aW ks;have dS:=hb;rw [Val.wt] at h hb;rw [fitV];have fw:=hP.ai;have UZ:=hP.Sm;have bG:=hP.ok
  cases hd:dq ND i with
  | none=>
   refine ev_go (P:=Tryz.prog) tt tt_ok 5000 53 [.tmp 6] Tryz.func20 rfl Tryz.ntmps20 rfl (nL rfl) (fun E9 w9 hn9 hm9=>?_);refine call_p zU (UZ i (wy hd)) ax rfl ?_;exact (rfl:_=_)
  | some d=>
   obtain ⟨h0,hg⟩:=cO hd;obtain ⟨j,rfl⟩:∃ j:Nat,i=j:=⟨i.toNat,by omega⟩;have hg:ND[j]? = some d:=by simpa using hg
   have hN:=bG d (mG hg);have Bu:=Kg d (.mk q z s ks);have O9:=fun h5=>Kh hN h5 (.mk q z s ks) dS;have hlen:=fun h5=>zk (n:=d) (v:=.mk q z s ks) h5;simp only;obtain ⟨ag,aC,lo,hi,most,af,es⟩:=d;simp only at O9 hlen;refine ev_go (P:=Tryz.prog) tt tt_ok 5000 53 [.tmp 6] Tryz.func20 rfl Tryz.ntmps20 rfl (nL rfl) (fun E9 w9 hn9 hm9=>?_);refine call_p zU (fw j _ hg) ax rfl ?_;refine br (fun c=>?_) (fun c=>?_)
   ·have c:ag < 5:=by simpa using c
    rw [if_pos c];refine call_p en60 (Bu) ax rfl ?_;exact (rfl:_=_)
   have c:¬ ag < 5:=by simpa using c
   rw [if_neg c];have O9:=O9 (by omega);have hlen:=hlen (by omega);generalize kidsL ⟨ag,aC,lo,hi,most,af,es⟩ (.mk q z s ks)=l at O9 hlen ⊢;have hzl:=kf l;refine call_p en61 (O9) ax rfl ?_
   cases hB:dD ⟨ag,aC,lo,hi,most,af,es⟩ (.mk q z s ks) with
   | false=>
    exact (rfl:_=_)
   | true=>
    have hlen:l.length=ks.length:=hlen hB;rw [Bool.true_and];refine aq (fun j st=>∃ e:Nat,st=UY PC (.mk q z s ks) l e/\e<=l.length/\fitVs ND ks l=fitVs ND (ks.drop e) (l.drop e)/\j=l.length - e) l.length (UY PC (.mk q z s ks) l 0) (weak_mk ⟨_,rfl⟩ wA rfl rfl rfl (by repeat' (first | exact trivial | exact ah rfl | exact ak (congrArg Nat.cast hzl) | refine ⟨⟨_,rfl,?_⟩,?_⟩))) ⟨0,rfl,by omega,rfl,by omega⟩ ?_;rintro _ st ⟨e,rfl,he,aH,rfl⟩;refine br (fun hL=>?_) (fun hL=>?_)
    ·have ap:e < l.length:=by have:=hL;simp at this;exact this
     obtain ⟨x,hx⟩:∃ x,ks[e]? = some x:=⟨_,gE (by omega)⟩;obtain ⟨y,hy⟩:∃ y,l[e]? = some y:=⟨_,gE ap⟩;have R6:=fA (mG hx);rw [Gn hx hy] at aH;have dE:=ih x (by omega) (by omega) y;obtain ⟨xk,xn,xs,xl⟩:=x;refine ⟨_,⟨by omega,nT hy⟩,?_⟩;refine ⟨_,⟨by omega,bP hx⟩,?_⟩;refine call_p WL (dE) ax rfl ?_;refine br (fun g=>?_) (fun g=>?_)
     ·have g:fitV ND (.mk xk xn xs xl) y=false:=by simpa using g
      rw [aH,g];exact (rfl:_=_)
     ·have g:fitV ND (.mk xk xn xs xl) y=true:=by simpa using g
      rw [g,Bool.true_and] at aH;exact ⟨UY PC (.mk q z s ks) l (e + 1),(weak_mk ⟨_,rfl⟩ wA rfl rfl rfl (wNB ap)),l.length - (e + 1),by omega,e + 1,rfl,by omega,aH,rfl⟩
    ·have aO:e=l.length:=by have:=hL;simp at this;omega
     rw [List.drop_of_length_le (by omega),List.drop_of_length_le (by omega)] at aH;rw [aH];exact (rfl:_=_)
theorem Ki {L N:Nat} {n:Nd} (hn:dI L N n) (v:Val) (j:Nat):EvP Tryz.prog 202 [.agg (jR n),.agg (aU v),.v (.int .i64 j)] (.v (.int .i64 (Iw n v j))):=by
 have xR:=hn.one;obtain ⟨ag,aC,lo,hi,most,af,es⟩:=n;obtain ⟨q,z,s,ks⟩:=v;have kj:=cE es;simp only at xR
 have hF:Iw ⟨ag,aC,lo,hi,most,af,es⟩ (.mk q z s ks) j=if ag=5 then (if (j:Int) < most then to0 ⟨ag,aC,lo,hi,most,af,es⟩ else -1)
  else if ag=6 then (if j < 1 then to0 ⟨ag,aC,lo,hi,most,af,es⟩ else -1)
  else if ag=7 then (match es[j]? with | some e=>e.to | none=>-1)
  else if ag=8 then (if j < 1/\0<=z/\z < es.length then (match es[z.toNat]? with | some e=>e.to | none=>-1) else -1)
  else -1:=rfl
 rw [hF];refine ev_go (P:=Tryz.prog) tt tt_ok 5000 66 [.tmp 6] Tryz.func202 rfl Tryz.ntmps202 rfl (nL rfl) (fun E9 w9 hn9 hm9=>?_);refine br (fun c=>?_) (fun c=>?_)
 ·have c:ag=5:=by simpa using c
  rw [if_pos c];obtain ⟨x,jQ,_,_⟩:=xR (.inl c);have uo:(fv es)[0]? = some (vx x):=by rw [jQ];all_goals rfl
  have ht0:to0 ⟨ag,aC,lo,hi,most,af,es⟩=x.to:=by simp [to0,jQ]
  refine br (fun g=>?_) (fun g=>?_)
  ·have g:(j:Int) < most:=by simpa using g
   rw [if_pos g,ht0];refine ⟨_,⟨by omega,uo⟩,?_⟩;exact (rfl:_=_)
  ·have g:¬ (j:Int) < most:=by simpa using g
   rw [if_neg g];exact (rfl:_=_)
 have c5:¬ ag=5:=by simpa using c
 rw [if_neg c5];refine br (fun c=>?_) (fun c=>?_)
 ·have c:ag=6:=by simpa using c
  rw [if_pos c];obtain ⟨x,jQ,_,_⟩:=xR (.inr c);have uo:(fv es)[0]? = some (vx x):=by rw [jQ];all_goals rfl
  have ht0:to0 ⟨ag,aC,lo,hi,most,af,es⟩=x.to:=by simp [to0,jQ]
  refine br (fun g=>?_) (fun g=>?_)
  ·have g:j < 1:=by have:=g;simp at this;omega
   rw [if_pos g,ht0];refine ⟨_,⟨by omega,uo⟩,?_⟩;exact (rfl:_=_)
  ·have g:¬ j < 1:=by have:=g;simp at this;omega
   rw [if_neg g];exact (rfl:_=_)
 have c6:¬ ag=6:=by simpa using c
 rw [if_neg c6];refine br (fun c=>?_) (fun c=>?_)
 ·have c:ag=7:=by simpa using c
  rw [if_pos c];refine br (fun g=>?_) (fun g=>?_)
  ·have g:j < es.length:=by have:=g;simp [kj] at this;exact this
   obtain ⟨x,hx⟩:∃ x,es[j]? = some x:=⟨_,gE g⟩;refine ⟨_,⟨by omega,bI hx⟩,?_⟩;rw [hx];exact (rfl:_=_)
  ·have g:es.length<=j:=by have:=g;simp [kj] at this;omega
   rw [List.getElem?_eq_none g];exact (rfl:_=_)
 have c7:¬ ag=7:=by simpa using c
 rw [if_neg c7];refine br (fun c=>?_) (fun c=>?_)
 ·have c:ag=8:=by simpa using c
  rw [if_pos c]
  have hc:∀ b:Bool,b=pickB (pickB (decide ((j:Int) < 1)) (decide (0<=z)) false) (decide (z < ((fv es).length:Int))) false->b=decide (j < 1/\0<=z/\z < es.length):=fun b h=>by
   rw [h,kj,pickB_and,pickB_and,Bool.eq_iff_iff];simp;omega
  refine br (fun g=>?_) (fun g=>?_)
  ·have g:=of_decide_eq_true ((hc _ rfl).symm.trans g);obtain ⟨x,hx⟩:∃ x,es[z.toNat]? = some x:=⟨_,gE (by omega)⟩;rw [if_pos g,hx];refine ⟨_,⟨by omega,bI hx⟩,?_⟩;exact (rfl:_=_)
  ·have g:=of_decide_eq_false ((hc _ rfl).symm.trans g);rw [if_neg g];exact (rfl:_=_)
 ·have c8:¬ ag=8:=by simpa using c
  rw [if_neg c8];exact (rfl:_=_)
structure FitF (ND:List Nd) (v:Val) (i:Int) (d:Nd):Prop where
 ai:dq ND i=some d
 k:v.k=d.ag
 leaf:d.ag < 5->v.ks=[]
 enum:d.ag=4->0<=v.n/\v.n < d.af.length
 kids:5<=d.ag->(kidsL d v).length=v.ks.length/\fitVs ND v.ks (kidsL d v)=true
 tag:d.ag=8->∃ e,n5 d v=some e/\d.au[v.n.toNat]? = some e/\0<=v.n/\v.n < d.au.length/\(e.bare=true↔v.ks=[])
 opt:d.ag=6->v.ks.length<=1
theorem Kj {L:Nat} {ND:List Nd} (bG:∀ n∈ND,dI L ND.length n) {v:Val} {i:Int} (h:fitV ND v i=true):∃ d,FitF ND v i d:=by
 obtain ⟨k,n,s,ks⟩:=v;rw [fitV] at h
 cases hd:dq ND i with
 | none=>rw [hd] at h;cases h
 | some d=>
  rw [hd] at h;simp only at h;have hN:=bG d (mG (cO hd).2);have mn:=hN.k1;have Er:=hN.k8;by_cases h5:d.ag < 5
  ·rw [if_pos h5] at h;unfold zh at h;by_cases hc:0 < (Val.mk k n s ks).ks.length∨((Val.mk k n s ks).k≠3/\(Val.mk k n s ks).s≠al)∨((Val.mk k n s ks).k=3/\(Val.mk k n s ks).n≠0)
   ·rw [if_pos hc] at h;cases h
   rw [if_neg hc] at h
   have Oi:ks=[]:=by
    cases ks with
    | nil=>rfl
    | cons a b=>exact (hc (.inl (by simp [Val.ks]))).elim
   have hk:k=d.ag/\(d.ag=4->0<=n/\n < d.af.length):=by
    rcases (show d.ag=1∨d.ag=2∨d.ag=3∨d.ag=4 by omega) with c | c | c | c
    all_goals
     simp [c,Val.k,Val.n] at h;simp only [c];constructor
     ·first | exact of_decide_eq_true h.1 | exact of_decide_eq_true h.1.1
     ·first | (intro;omega) | exact fun _=>⟨of_decide_eq_true h.1.2,of_decide_eq_true h.2⟩
   exact ⟨d,{ ai:=hd,k:=hk.1,leaf:=fun _=>Oi,enum:=hk.2,kids:=fun h=>by omega,tag:=fun h=>by omega,opt:=fun h=>by omega }⟩
  ·rw [if_neg h5,Bool.and_eq_true] at h;obtain ⟨hB,hf⟩:=h;have hlen:=zk (by omega) hB;have hB2:=hB;unfold dD at hB;by_cases c:d.ag=5∨d.ag=6
   ·rw [if_pos c] at hB;simp only [Bool.and_eq_true,decide_eq_true_eq] at hB;exact ⟨d,{ ai:=hd,k:=hB.1.2,leaf:=fun h=>by omega,enum:=fun h=>by omega,kids:=fun _=>⟨hlen,hf⟩,tag:=fun h=>by omega,opt:=fun h=>by have:=hB.2;rw [if_pos h] at this;omega }⟩
   rw [if_neg c] at hB;by_cases c7:d.ag=7
   ·rw [if_pos c7] at hB;simp only [Bool.and_eq_true,decide_eq_true_eq] at hB;exact ⟨d,{ ai:=hd,k:=by rw [c7];exact hB.1.2,leaf:=fun h=>by omega,enum:=fun h=>by omega,kids:=fun _=>⟨hlen,hf⟩,tag:=fun h=>by omega,opt:=fun h=>by omega }⟩
   rw [if_neg c7] at hB
   cases ht:n5 d (.mk k n s ks) with
   | none=>rw [ht] at hB;cases hB
   | some e=>
    have ht2:=ht;unfold n5 at ht2;split at ht2
    ·rename_i hr;have iL:kidsL d (.mk k n s ks)=if e.bare=true then [] else [e.to]:=by unfold kidsL;rw [if_neg c,if_neg c7,ht]
     refine ⟨d,{ ai:=hd,k:=by have:=hr.1;omega,leaf:=fun h=>by omega,enum:=fun h=>by omega,kids:=fun _=>⟨hlen,hf⟩,tag:=fun _=>⟨e,ht,ht2,hr.2.1,hr.2.2,?_⟩,opt:=fun h=>by omega }⟩;rw [iL] at hlen;constructor
     ·intro hb;rw [if_pos hb] at hlen;exact List.eq_nil_of_length_eq_zero hlen.symm
     ·intro Oi;rw [Oi] at hlen;cases hb:e.bare
      ·rw [hb] at hlen;simp at hlen
      ·rfl
    ·cases ht2
structure KE where
 k:Int
 n:Int
 s:ByteArray
def On (f:Nat->Nat->Bool) (n:Nat) (a b:Int):Bool:=decide (0<=a) && decide (a < n) && decide (0<=b) && decide (b < n) && f a.toNat b.toNat
def xm (f:Nat->Nat->Bool) (n a b:Nat):Nat:=(eG f n a b).getD 0
def xT (f:Nat->Nat->Bool) (n:Nat):Nat:=(ep f n []).getD 0
theorem Oo {f:Nat->Nat->Bool} {n a b:Nat} (ha:a < n) (hb:b < n):On f n a b=f a b:=by simp [On,ha,hb]
theorem wE {f:Nat->Nat->Bool} {n a b:Nat} (h:dZ f n) (ha:a < n) (hb:b < n):eG f n a b=some (xm f n a b):=by
 obtain ⟨k,hk⟩:=h.jn a b ha hb;simp [xm,hk]
theorem A2 {f:Nat->Nat->Bool} {n a b:Nat} (h:dZ f n) (ha:a < n) (hb:b < n):xm f n a b < n:=(oN (wE h ha hb)).1
theorem DR {f:Nat->Nat->Bool} {n:Nat} (h:dZ f n):Pc f n:=⟨h.rfl',h.FA⟩
theorem wF {f:Nat->Nat->Bool} {n a b:Nat} (h:dZ f n) (ha:a < n) (hb:b < n):jG f n a b=some (xm f n a b):=by
 have h1:=wE h ha hb;have h2:=lW (n:=n) (a:=a) (b:=b) (DR h);rw [h1] at h2
 cases hr:jG f n a b with
 | none=>rw [hr] at h2;simp at h2
 | some c=>
  obtain ⟨h3,h4,_⟩:=dY hr;have:=Da (DR h) h3 h4;rw [h1] at this;exact this.symm
theorem r7 {f:Nat->Nat->Bool} {n:Nat} (h:dZ f n):ep f n []=some (xT f n):=by
 obtain ⟨c,hc⟩:=sK h [] (fun _ h=>by cases h);simp [xT,hc]
theorem Iy {f:Nat->Nat->Bool} {n:Nat} (h:dZ f n):xT f n < n:=nI (r7 h)
section
variable (af:List ByteArray) (tc:List DV) (rows:List Nat) (js:List Int)
theorem Kk (hr:dP rows) (hl:rows.length=af.length) (a b:Int) :
  EvP Tryz.prog 88 [.pt (gJ af tc rows js) 0,.v (.int .i64 a),.v (.int .i64 b)] (.v (.bool (hasB rows a b))):=by
 have h1:=yK af tc rows js;have h2:=kN rows hr a b;have hB:hasB rows a b=(decide (0<=a) && decide (a < af.length) && decide (0<=b) && decide (b < af.length) && aM rows a.toNat b.toNat):=by rw [<- hl];all_goals rfl
 generalize hasB rows a b=h at h2 hB ⊢;refine ev_go (P:=Tryz.prog) tt tt_ok 5000 24 [.tmp 6] Tryz.func88 rfl Tryz.ntmps88 rfl (nL rfl) (fun E9 w9 hn9 hm9=>?_);refine call_p yj (h1 a) ax rfl ?_;refine br (fun g=>?_) (fun g=>?_)
 ·refine call_p yj (h1 b) ax rfl ?_;refine br (fun g2=>?_) (fun g2=>?_)
  ·refine call_p Cd (h2) ax rfl ?_;exact (rfl:_=_)
  ·refine (congrArg (fun b=>DV.v (.bool b)) ?_:_=_);rw [hB];simp only [Bool.and_assoc] at g g2 ⊢;cases hx:decide (0<=b)<;>cases hy:decide (b < af.length)<;>simp_all [pickB]
 ·refine (congrArg (fun b=>DV.v (.bool b)) ?_:_=_);rw [hB];cases hx:decide (0<=a)<;>cases hy:decide (a < af.length)<;>simp_all [pickB]
end
structure Kl (n:Nat) (f:Nat->Nat->Bool) (af:List ByteArray) (LC:List DV):Prop where
 ok:dZ f n
 n32:n<=32
 nl:af.length=n
 len:EvP Tryz.prog 195 [.pt LC 0] (.v (.int .i64 n))
 leq:∀ a b:Int,EvP Tryz.prog 88 [.pt LC 0,.v (.int .i64 a),.v (.int .i64 b)] (.v (.bool (On f n a b)))
 join:∀ a b:Nat,a < n->b < n->EvP Tryz.prog 173 [.pt LC 0,.v (.int .i64 a),.v (.int .i64 b)] (.v (.int .i64 (xm f n a b:Nat)))
 bot:EvP Tryz.prog 138 [.pt LC 0] (.v (.int .i64 (xT f n:Nat)))
abbrev cA (S:Sch):Nat->Nat->Bool:=ez S.ae.length (cT (av S.ae) S.order)
theorem ke.ZC {S:Sch} {ND:List Nd} {PC:List DV} (hP:ke S ND PC):∃ LC,EvP Tryz.prog 38 [.pt PC 0] (.pt LC 0)/\Kl S.ae.length (cA S) (av S.ae) LC:=by
 obtain ⟨aA,js,hX,hl⟩:=hP.lat;have gI:=dg S.ae;have Bu:=(hP.fine).lat;obtain ⟨hL,JP⟩:=kU Bu;have hpr:∀ p∈cT (av S.ae) S.order,p.1 < S.ae.length/\p.2 < S.ae.length:=by have:=nH (oQ Bu).2.2.1;rwa [dg] at this
 have gl:(dR S aA js).rows.length=S.ae.length:=by
  show (closeR (eL S.ae.length (cT (av S.ae) S.order)) S.ae.length).length=_;rw [eU,jA]
 have hr:dP (dR S aA js).rows:=kO (Ah (by omega) _ hpr) _ (by omega)
 refine ⟨_,hl,{
  ok:=hL,n32:=JP,nl:=gI
  len:=?_
  leq:=fun a b=>?_
  join:=fun a b ha hb=>?_
  bot:=?_
  }⟩
 ·have:=rC (dR S aA js).af (cy (dR S aA js).af (dR S aA js).aA) (dR S aA js).rows (dR S aA js).js
  rwa [show (dR S aA js).af.length=S.ae.length from gI] at this
 ·have:=Kk (dR S aA js).af (cy (dR S aA js).af (dR S aA js).aA) (dR S aA js).rows (dR S aA js).js hr (by rw [gl];exact gI.symm) a b
  have he:hasB (dR S aA js).rows a b=On (cA S) S.ae.length a b:=by
   unfold hasB On;rw [gl];all_goals rfl
  rwa [he] at this
 ·have hz:=(hX.hj a b (by rw [show (dR S aA js).af.length=S.ae.length from gI];exact ha) (by rw [show (dR S aA js).af.length=S.ae.length from gI];exact hb)).1;rw [show (dR S aA js).af.length=S.ae.length from gI,show (dR S aA js).f=cA S from rfl,wE hL ha hb] at hz;exact vm (dR S aA js).af (cy (dR S aA js).af (dR S aA js).aA) (dR S aA js).rows (dR S aA js).js a b _ (by rw [show (dR S aA js).af.length=S.ae.length from gI];exact ha) (by rw [show (dR S aA js).af.length=S.ae.length from gI];exact hb) hX.hn hz
 ·have:=p9 (dR S aA js).af (cy (dR S aA js).af (dR S aA js).aA) (dR S aA js).rows (dR S aA js).js hX.hL hX.hn hX.hj
  rwa [show (dR S aA js).af.length=S.ae.length from gI,show (dR S aA js).f=cA S from rfl,r7 hL] at this
theorem k0 {L:Nat} {ND:List Nd} {d:Nd} (hN:dI L ND.length d) {e:Ed} (he:e∈d.au):(e.bare=false->e.to=(e.to.toNat:Nat)/\e.to.toNat < ND.length)/\(e.label=(e.label.toNat:Nat)/\e.label.toNat < L)/\(e.seen=(e.seen.toNat:Nat)/\e.seen.toNat < L):=by
 have hE:=hN.mL e he;refine ⟨fun hb=>?_,?_,?_⟩
 ·obtain ⟨k,h1,h2⟩:=hE.to1 hb;rw [h1];exact ⟨by simp,by simpa using h2⟩
 ·obtain ⟨k,h1,h2⟩:=hE.lab;rw [h1];exact ⟨by simp,by simpa using h2⟩
 ·obtain ⟨k,h1,h2⟩:=hE.seen;rw [h1];exact ⟨by simp,by simpa using h2⟩
def r8 (f:Nat->Nat->Bool) (n bQ:Nat) (d:Nd) (e:Ed) (a:Nat):Nat:=
 if f (if d.ag < 7 then a else xm f n a e.label.toNat) bQ=true then 2 else if e.ck≠0/\f (xm f n a e.seen.toNat) bQ=true then 1 else 0
section
variable (ND:List Nd) (f:Nat->Nat->Bool) (n bQ dep:Nat)
end
def cd (d:Nd) (z:Int) (j:Nat):Option Ed:=if d.ag=7 then d.au[j]? else if d.ag=8 then d.au[z.toNat]? else d.au[0]?
def mj (f:Nat->Nat->Bool) (n:Nat) (d:Nd) (e:Ed) (a:Nat):Nat:=if d.ag < 7 then a else xm f n a e.label.toNat
section
variable (ND:List Nd) (f:Nat->Nat->Bool) (L bQ:Nat)
end
section
variable {ND:List Nd} {f:Nat->Nat->Bool} {L bQ:Nat}
theorem Km (u:Nat) (l:List UInt8):(headL u l).length<=l.length:=(Ka u l).length_le
theorem Oq {N:Nat} {d:Nd} {e:Ed} (hN:dI N ND.length d) (he:e∈d.au) (hb:e.bare=false):0<=e.to/\∃ d',dq ND e.to=some d':=by
 obtain ⟨k,hk,ap⟩:=(hN.mL e he).to1 hb;refine ⟨by omega,ND[k],?_⟩;unfold dq;rw [if_neg (by omega),hk,Int.toNat_natCast,gE ap]
end
section
variable (ND:List Nd) (f:Nat->Nat->Bool) (L bQ:Nat)
end
section
variable {ND:List Nd} {f:Nat->Nat->Bool} {L bQ:Nat}
theorem QN (d:Nd) (e:Ed) (a:Nat):r8 f L bQ d e a=if f (mj f L d e a) bQ=true then 2 else if e.ck≠0/\f (xm f L a e.seen.toNat) bQ=true then 1 else 0:=rfl
theorem Iz {N:Nat} {d:Nd} {e:Ed} {a:Nat} (hL:dZ f L) (hN:dI L N d) (hm:e∈d.au) (ha:a < L):mj f L d e a < L:=by
 obtain ⟨k,hk,hl⟩:=(hN.mL e hm).lab;unfold mj;split
 ·exact ha
 ·exact A2 hL ha (by rw [hk,Int.toNat_natCast];exact hl)
end
def bV (v:Val) (k n:Int) (s:ByteArray):Bool:=decide (v.k=k) && decide (v.n=n) && decide (v.s=s) && decide (v.ks.length=0)
def ij (e:Ed) (d:Nd) (v:Val):Bool:=
 if e.ck=1/\d.ag=2 then
  (if bV v 9 e.wide al=true then !(bw d.lo e.cn).2
   else bV v 10 v.n al && decide (v.n % e.cn=0) && (bw d.hi e.cn).2 && decide (v.n<=(bw d.hi e.cn).1) && (!(bw d.lo e.cn).2 || decide ((bw d.lo e.cn).1<=v.n)))
 else if e.ck=2/\d.ag=3 then bV v 11 0 v.s && decide ((v.s.size:Int)<=d.most) && decide (headL e.cn.toNat (tx v.s)=tx v.s)
 else if e.ck=3/\d.ag=5 then bV v 12 v.n al && decide (0<=v.n) && decide (v.n<=d.most)
 else bV v 9 e.wide al
def shellF (d:Nd) (v:Val):Bool:=
 if v.k≠d.ag∨v.s≠al∨(d.ag≠8/\v.n≠0) then false
 else if d.ag=5 then decide ((v.ks.length:Int)<=d.most)
 else if d.ag=6 then decide (v.ks.length < 2)
 else if d.ag=7 then decide (v.ks.length=d.au.length)
 else if v.n < 0∨(d.au.length:Int)<=v.n then false
 else match d.au[v.n.toNat]? with
  | none=>false
  | some e=>if e.bare=true then decide (v.ks.length=0) else decide (v.ks.length=1)
section
variable (ND:List Nd) (f:Nat->Nat->Bool) (L bQ:Nat)
mutual
def seeV:Val->Int->Nat->Bool
 | .mk k n s ks,i,a=>match dq ND i with
  | none=>false
  | some d=>if d.ag < 5 then fitV ND (.mk k n s ks) i else shellF d (.mk k n s ks) && seeVs ks d n a 0
def seeVs:List Val->Nd->Int->Nat->Nat->Bool
 | [],_,_,_,_=>true
 | x :: r,d,z,a,j=>(match cd d z j with
  | none=>false
  | some e=>if r8 f L bQ d e a=2 then seeV x e.to (mj f L d e a) else if r8 f L bQ d e a=1 then (match dq ND e.to with | none=>false | some t=>ij e t x) else bV x 9 e.wide al) && seeVs r d z a (j + 1)
end
end
section
variable {ND:List Nd} {f:Nat->Nat->Bool} {L bQ:Nat}
theorem Gp {ks:List Val} {d:Nd} {z:Int} {a j m:Nat} {x:Val} (h:ks[m]? = some x):seeVs ND f L bQ (ks.drop m) d z a j=((match cd d z j with
  | none=>false
  | some e=>if r8 f L bQ d e a=2 then seeV ND f L bQ x e.to (mj f L d e a) else if r8 f L bQ d e a=1 then (match dq ND e.to with | none=>false | some t=>ij e t x) else bV x 9 e.wide al) && seeVs ND f L bQ (ks.drop (m + 1)) d z a (j + 1)):=by
 obtain ⟨hm,rfl⟩:=List.getElem?_eq_some_iff.1 h;rw [List.drop_eq_getElem_cons hm,seeVs]
structure ZD (ND:List Nd) (d:Nd) (z:Int) (j:Nat) (e:Ed):Prop where
 mL:cd d z j=some e
 mem:e∈d.au
 bare:e.bare=false
theorem r9 {N:Nat} {d:Nd} (hN:dI N ND.length d) (h5:5<=d.ag) {v:Val} (h:shellF d v=true) {m:Nat} (hm:m < v.ks.length):∃ e,ZD ND d v.n m e:=by
 have h8:=hN.k8;unfold shellF at h;split at h
 ·cases h
 rename_i hc
 have I7:v.k=d.ag:=by
  by_cases c:v.k=d.ag
  ·exact c
  ·exact absurd (.inl c) hc
 rcases (show (d.ag=5∨d.ag=6)∨d.ag=7∨d.ag=8 by omega) with c | c | c
 ·obtain ⟨e,he,hb,_⟩:=hN.one c;refine ⟨e,?_,by rw [he];exact List.mem_singleton_self e,hb⟩;unfold cd;rw [if_neg (by omega),if_neg (by omega),he];rfl
 ·rw [if_neg (by omega),if_neg (by omega),if_pos c,decide_eq_true_iff] at h;obtain ⟨e,he⟩:∃ e,d.au[m]? = some e:=⟨_,gE (by omega)⟩;refine ⟨e,?_,mG he,?_⟩
  ·unfold cd;rw [if_pos c,he]
  ·cases hb:e.bare
   ·rfl
   ·have:=hN.bare e (mG he) hb;omega
 ·rw [if_neg (by omega),if_neg (by omega),if_neg (by omega)] at h;split at h
  ·cases h
  cases he:d.au[v.n.toNat]? with
  | none=>rw [he] at h;cases h
  | some e=>
   rw [he] at h;simp only at h;refine ⟨e,?_,mG he,?_⟩
   ·unfold cd;rw [if_neg (by omega),if_pos c,he]
   ·cases hb:e.bare
    ·rfl
    ·rw [if_pos hb,decide_eq_true_iff] at h;omega
theorem Gq {v:Val} {k n:Int} {s:ByteArray}:bV v k n s=true↔v = .mk k n s []:=by
 unfold bV;rw [Bool.and_eq_true,Bool.and_eq_true,Bool.and_eq_true,decide_eq_true_iff,decide_eq_true_iff,decide_eq_true_iff,decide_eq_true_iff,List.length_eq_zero_iff];obtain ⟨q,z,t,ks⟩:=v;rw [Val.mk.injEq];constructor
 ·intro ⟨⟨⟨a,b⟩,c⟩,d⟩;exact ⟨a,b,c,d⟩
 ·intro ⟨a,b,c,d⟩;exact ⟨⟨⟨a,b⟩,c⟩,d⟩
theorem Ot {n u:Int} (hu:1<=u):bw n u=if n - n % u < -9223372036854775808 then (0,false) else (n - n % u,true):=by
 unfold bw;rw [if_neg (by omega)]
end
def bS (v:Val):Bool:=decide (v.k=2) || (decide (v.k=3) || ((decide (v.k=9) && (decide (1<=v.n) && decide (v.n<=64))) || (decide (10<=v.k) && decide (v.k<=12))))
def oq (v:Val):List UInt8:=
 if v.k=2 then iT v.n else if v.k=3 then oX (tx v.s) else if v.k=9 then 60 :: (List.replicate v.n.toNat 42 ++ [62])
 else if v.k=10 then [60,126] ++ iT v.n ++ [62] else if v.k=11 then [60] ++ oX (tx v.s) ++ [46,46,62] else [60,35] ++ iT v.n ++ [62]
def dH (v:Val):List UInt8:=if bS v=true then oq v else []
def nmE (d:Nd) (j:Nat):List UInt8:=match d.au[j]? with | some e=>tx e.name | none=>[]
def cS (d:Nd) (v:Val):List UInt8:=
 if v.k=1 then (if v.n=1 then [116,114,117,101] else [102,97,108,115,101])
 else if v.k=4 then (match d.af[v.n.toNat]? with | some s=>tx s | none=>[])
 else if v.k=5 then [91] else if v.k=6 then (if v.ks=[] then [110,111,110,101] else [115,111,109,101,40]) else if v.k=7 then [123]
 else if v.k=8 then (if v.ks=[] then nmE d v.n.toNat else nmE d v.n.toNat ++ [40])
 else dH v
def fh (v:Val):List UInt8:=if v.k=5 then [93] else if v.k=7 then [125] else if v.ks=[] then [] else [41]
section
variable (ND:List Nd)
mutual
def textV:Val->Int->List UInt8
 | .mk k n s ks,i=>match dq ND i with
  | none=>[]
  | some d=>cS d (.mk k n s ks) ++ textVs ks d n 0 ++ fh (.mk k n s ks)
def textVs:List Val->Nd->Int->Nat->List UInt8
 | [],_,_,_=>[]
 | x :: r,d,z,j=>((if j=0 then [] else [44,32]) ++ (match cd d z j with
  | none=>[]
  | some e=>(if d.ag=7 then tx e.name ++ [58,32] else []) ++ textV x e.to)) ++ textVs r d z (j + 1)
end
mutual
def jL:Val->Int->Bool
 | .mk k n s ks,i=>match dq ND i with
  | none=>false
  | some d=>if 9<=k then bS (.mk k n s ks) && decide (ks=[]) else if k≠d.ag then false else if d.ag < 5 then decide (ks=[]) && (decide (k≠4) || decide (0<=n/\n < d.af.length)) else shellF d (.mk k n s ks) && gj ks d n 0
def gj:List Val->Nd->Int->Nat->Bool
 | [],_,_,_=>true
 | x :: r,d,z,j=>(match cd d z j with
  | none=>false
  | some e=>jL x e.to) && gj r d z (j + 1)
end
end
section
variable {ND:List Nd}
theorem sP:∀ {l:List Val} {d:Nd} {z:Int} {j:Nat} {x:Val},textVs ND (l ++ [x]) d z j=textVs ND l d z j ++ ((if j + l.length=0 then [] else [44,32]) ++ (match cd d z (j + l.length) with
  | none=>[]
  | some e=>(if d.ag=7 then tx e.name ++ [58,32] else []) ++ textV ND x e.to))
 | [],d,z,j,x=>by simp only [List.nil_append,textVs,List.append_nil,List.length_nil,Nat.add_zero]
 | y :: r,d,z,j,x=>by
  rw [List.cons_append,textVs,textVs,sP];simp only [List.length_cons];rw [show j + 1 + r.length=j + (r.length + 1) by omega];simp only [List.append_assoc]
theorem sQ {ks:List Val} {d:Nd} {z:Int} {e:Nat} {x:Val} {ed:Ed} (h:ks[e]? = some x) (he:cd d z e=some ed) :
  textVs ND (ks.take (e + 1)) d z 0=textVs ND (ks.take e) d z 0 ++ ((if e=0 then [] else [44,32]) ++ ((if d.ag=7 then tx ed.name ++ [58,32] else []) ++ textV ND x ed.to)):=by
 have hl:(ks.take e).length=e:=by rw [List.length_take];have:=(gS h).1;omega
 rw [List.take_add_one,h];show textVs ND (ks.take e ++ [x]) d z 0=_;rw [sP,hl,Nat.zero_add,he]
theorem nf:∀ {ks:List Val} {d:Nd} {z:Int} {j m:Nat} {x:Val},gj ND ks d z j=true->ks[m]? = some x->∃ e,cd d z (j + m)=some e/\jL ND x e.to=true
 | [],_,_,_,_,_,_,h=>by simp at h
 | y :: r,d,z,j,m,x,hw,h=>by
  rw [gj,Bool.and_eq_true] at hw
  cases m with
  | zero=>
   simp only [List.getElem?_cons_zero,oI] at h;subst h;rw [Nat.add_zero]
   cases he:cd d z j with
   | none=>rw [he] at hw;exact absurd hw.1 (by simp)
   | some e=>rw [he] at hw;exact ⟨e,rfl,hw.1⟩
  | succ m=>
   rw [show j + (m + 1)=j + 1 + m by omega];exact nf hw.2 (by simpa using h)
theorem A3 {z:Int} (h:uX z):(iT z).length<=21:=Cw h.1 h.2
theorem Kn {v:Val} (h:uX v.n) (hk:bS v=true):(oq v).length<=24 + 64 + 12 * v.s.size:=by
 have h1:=A3 h;have h2:=nc (tx v.s);rw [bm] at h2;unfold oq
 repeat' split
 all_goals (try simp only [List.length_append,List.length_cons,List.length_nil,List.length_replicate])
 all_goals (try omega)
 rename_i c2 c3 c9;simp [bS,c2,c3,c9] at hk;omega
end
end Go.Proofs.YtfifjddnnmfeoaaGreat
set_option maxRecDepth 100000
namespace Go.Proofs
open Go.Shelf
def Tryz.lays105_ren:Go.Shelf.Ren:=⟨fun | 105=>69 | 212=>125 | 99=>126 | 165=>127 | 166=>124 | 170=>128 | 169=>80 | 263=>183 | 264=>184 | 206=>185 | 240=>178 | 241=>186 | 276=>219 | 277=>223 | n=>n,fun | 9=>9 | 3=>3 | 4=>4 | 20=>20 | 0=>0 | 46=>221 | 109=>222 | 5=>5 | 72=>161 | 76=>219 | 51=>278 | 146=>279 | 53=>212 | 148=>281 | 70=>158 | 37=>159 | 75=>215 | 127=>241 | 164=>296 | 80=>163 | n=>n,fun | n=>n⟩
theorem Tryz.lays105:Go.Proofs.Lays.n105 Tryz.prog Tryz.lays105_ren:={
 mixed:=by kernel_rfl
 f99:=Tryz.func126.trans (congrArg some (by kernel_rfl))
 f105:=Tryz.func69.trans (congrArg some (by kernel_rfl))
 f165:=Tryz.func127.trans (congrArg some (by kernel_rfl))
 f166:=Tryz.func124.trans (congrArg some (by kernel_rfl))
 f169:=Tryz.func80.trans (congrArg some (by kernel_rfl))
 f170:=Tryz.func128.trans (congrArg some (by kernel_rfl))
 f206:=Tryz.func185.trans (congrArg some (by kernel_rfl))
 f212:=Tryz.func125.trans (congrArg some (by kernel_rfl))
 f240:=Tryz.func178.trans (congrArg some (by kernel_rfl))
 f241:=Tryz.func186.trans (congrArg some (by kernel_rfl))
 f263:=Tryz.func183.trans (congrArg some (by kernel_rfl))
 f264:=Tryz.func184.trans (congrArg some (by kernel_rfl))
 f276:=Tryz.func219.trans (congrArg some (by kernel_rfl))
 f277:=Tryz.func223.trans (congrArg some (by kernel_rfl))
 t0:=Tryz.underlying0
 a0:=Tryz.isAgg0
 z0:=Tryz.sizeOf0
 v0:=Tryz.zeroValue0
 t3:=Tryz.underlying3
 a3:=Tryz.isAgg3
 z3:=Tryz.sizeOf3
 v3:=Tryz.zeroValue3
 t4:=Tryz.underlying4
 a4:=Tryz.isAgg4
 z4:=Tryz.sizeOf4
 v4:=Tryz.zeroValue4
 t5:=Tryz.underlying5
 a5:=Tryz.isAgg5
 z5:=Tryz.sizeOf5
 v5:=Tryz.zeroValue5
 t9:=Tryz.underlying9
 a9:=Tryz.isAgg9
 z9:=Tryz.sizeOf9
 v9:=Tryz.zeroValue9
 t20:=Tryz.underlying20
 a20:=Tryz.isAgg20
 z20:=Tryz.sizeOf20
 v20:=Tryz.zeroValue20
 t37:=Tryz.underlying159
 a37:=Tryz.isAgg159
 z37:=Tryz.sizeOf159
 v37:=Tryz.zeroValue159
 t46:=Tryz.underlying221
 a46:=Tryz.isAgg221
 z46:=Tryz.sizeOf221
 v46:=Tryz.zeroValue221
 t51:=Tryz.underlying278
 a51:=Tryz.isAgg278
 z51:=Tryz.sizeOf278
 v51:=Tryz.zeroValue278
 t53:=Tryz.underlying212
 a53:=Tryz.isAgg212
 z53:=Tryz.sizeOf212
 v53:=Tryz.zeroValue212
 t70:=Tryz.underlying158
 a70:=Tryz.isAgg158
 z70:=Tryz.sizeOf158
 v70:=Tryz.zeroValue158
 t72:=Tryz.underlying161
 a72:=Tryz.isAgg161
 z72:=Tryz.sizeOf161
 v72:=Tryz.zeroValue161
 t75:=Tryz.underlying215
 a75:=Tryz.isAgg215
 z75:=Tryz.sizeOf215
 v75:=Tryz.zeroValue215
 t76:=Tryz.underlying219
 a76:=Tryz.isAgg219
 z76:=Tryz.sizeOf219
 v76:=Tryz.zeroValue219
 t109:=Tryz.underlying222
 a109:=Tryz.isAgg222
 z109:=Tryz.sizeOf222
 v109:=Tryz.zeroValue222
 t127:=Tryz.underlying241
 a127:=Tryz.isAgg241
 z127:=Tryz.sizeOf241
 v127:=Tryz.zeroValue241
 t146:=Tryz.underlying279
 a146:=Tryz.isAgg279
 z146:=Tryz.sizeOf279
 v146:=Tryz.zeroValue279
 t148:=Tryz.underlying281
 a148:=Tryz.isAgg281
 z148:=Tryz.sizeOf281
 v148:=Tryz.zeroValue281
 t164:=Tryz.underlying296
 a164:=Tryz.isAgg296
 z164:=Tryz.sizeOf296
 v164:=Tryz.zeroValue296 }
theorem Tryz.Builder_Extra_105:Builder.Extra Tryz.prog Tryz.lays105_ren:={
 sizeBuilder:=by kernel_rfl
 liesBuilder:=by kernel_rfl
 t5:=Tryz.underlying5
 a5:=Tryz.isAgg5
 z5:=Tryz.sizeOf5
 v5:=Tryz.zeroValue5
 infoByte:=by kernel_rfl
 cellsByte:=by kernel_rfl
 sizeByte:=by kernel_rfl
 neB5:=by decide }
end Go.Proofs
namespace Go.Proofs.YtfifjddnnmfeoaaGreat
open Go Go.RowKit Dv Tryz
theorem repeatL_one (c:UInt8):∀ n:Nat,Lib.repeatL [c] n=List.replicate n c
 | 0=>rfl
 | n + 1=>by
  have:=repeatL_one c n;simp [Lib.repeatL,List.replicate_succ] at this ⊢;exact this
theorem DS (c:UInt8) (n:Nat) (hn:n<=64):EvP Tryz.prog 69 [.v (.string (ba [c])),.v (.int .i64 n)] (.v (.string (ba (List.replicate n c)))):=by
 refine Jp fun E w vs hE hv=>?_;simp only [RvL] at hv;obtain ⟨v1,s1,rfl,h1,v2,s2,rfl,h2,rfl⟩:=hv;have h1:=bd h1;have h2:=bd h2;subst h1 h2;refine (Any.strings_Repeat Tryz.lays105 Tryz.Builder_Extra_105 (ba [c]) n w (by omega) (by show 1 * n<=_;omega)).mono ?_;rintro e w' ⟨rfl,hw⟩;refine ⟨_,rfl,?_,hw⟩;unfold Rv;refine ⟨?_,rfl⟩;rw [show (ba [c]).data.toList=[c] from rfl,repeatL_one]
end Go.Proofs.YtfifjddnnmfeoaaGreat
set_option maxRecDepth 100000
namespace Go.Proofs.YtfifjddnnmfeoaaGreat
open Go Go.RowKit Dv Tryz
theorem Gr (a b c:List UInt8):(ba a ++ ba b) ++ ba c=ba (a ++ b ++ c):=(congrArg (·++ ba c) (bU a b)).trans (bU _ _)
section
variable {v:Val}
theorem lf_2 (h:v.k=2):bS v=true/\dH v=iT v.n:=by
 have:bS v=true:=by simp [bS,h]
 exact ⟨this,by rw [dH,if_pos this,oq,if_pos h]⟩
theorem lf_3 (h:v.k=3):bS v=true/\dH v=oX (tx v.s):=by
 have:bS v=true:=by simp [bS,h]
 exact ⟨this,by rw [dH,if_pos this,oq,if_neg (by omega),if_pos h]⟩
theorem lf_9 (h:v.k=9) (h1:1<=v.n) (h2:v.n<=64):bS v=true/\dH v=60 :: (List.replicate v.n.toNat 42 ++ [62]):=by
 have:bS v=true:=by simp [bS,h,h1,h2]
 exact ⟨this,by rw [dH,if_pos this,oq,if_neg (by omega),if_neg (by omega),if_pos h]⟩
theorem Sz (h:v.k=9) (h1:¬ (1<=v.n/\v.n<=64)):bS v=false/\dH v=[]:=by
 have:bS v=false:=by
  simp only [bS,h];simp;omega
 exact ⟨this,by rw [dH,if_neg (by rw [this];simp)]⟩
theorem lf_10 (h:v.k=10):bS v=true/\dH v=[60,126] ++ iT v.n ++ [62]:=by
 have:bS v=true:=by simp [bS,h]
 exact ⟨this,by rw [dH,if_pos this,oq,if_neg (by omega),if_neg (by omega),if_neg (by omega),if_pos h]⟩
theorem lf_11 (h:v.k=11):bS v=true/\dH v=[60] ++ oX (tx v.s) ++ [46,46,62]:=by
 have:bS v=true:=by simp [bS,h]
 exact ⟨this,by rw [dH,if_pos this,oq,if_neg (by omega),if_neg (by omega),if_neg (by omega),if_neg (by omega),if_pos h]⟩
theorem lf_12 (h:v.k=12):bS v=true/\dH v=[60,35] ++ iT v.n ++ [62]:=by
 have:bS v=true:=by simp [bS,h]
 exact ⟨this,by rw [dH,if_pos this,oq,if_neg (by omega),if_neg (by omega),if_neg (by omega),if_neg (by omega),if_neg (by omega)]⟩
theorem SA (h:v.k≠2/\v.k≠3/\v.k≠9/\v.k≠10/\v.k≠11/\v.k≠12):bS v=false/\dH v=[]:=by
 have:bS v=false:=by
  rw [Bool.eq_false_iff];intro c;simp [bS] at c;omega
 exact ⟨this,by rw [dH,if_neg (by rw [this];simp)]⟩
end
theorem DT (v:Val) (hs:v.s.size<=1099511627776) (hn:uX v.n):EvP Tryz.prog 27 [.agg (aU v)] (.tup [.v (.string (ba (dH v))),.v (.bool (bS v))]):=by
 have hp:=Mf v.n hn.1 hn.2;have iE:=A3 hn;have hq:=Gl v.s hs;have ZE:=nc (tx v.s);rw [bm] at ZE;have hr:=fun (_:1<=v.n) (h2:v.n<=64)=>DS 42 v.n.toNat (by omega);have h2:=@lf_2 v;have h3:=@lf_3 v;have h9:=@lf_9 v;have h9n:=@Sz v;have pq:=@lf_10 v;have h11:=@lf_11 v;have Tl:=@lf_12 v;have eI:=@SA v;generalize dH v=S at *;generalize bS v=B at *;obtain ⟨k,n,s,ks⟩:=v;simp only [Val.k,Val.n,Val.s] at *;refine ev_go (P:=Tryz.prog) tt tt_ok 5000 52 [.tmp 2,.tmp 3] Tryz.func27 rfl Tryz.ntmps27 rfl (nL rfl) (fun E9 w9 hn9 hm9=>?_);refine br (fun c=>?_) (fun c=>?_)
 ·obtain ⟨rfl,rfl⟩:=h2 (by simpa using c);refine call_p Tz (hp) ax rfl ?_;exact ⟨.tup [.v (.string _),.v (.bool _)],ax,rfl⟩
 have c2:¬ k=2:=by simpa using c
 refine br (fun c=>?_) (fun c=>?_)
 ·obtain ⟨rfl,rfl⟩:=h3 (by simpa using c);refine call_p WS (hq) ax rfl ?_;exact ⟨.tup [.v (.string _),.v (.bool _)],ax,rfl⟩
 have c3:¬ k=3:=by simpa using c
 refine br (fun c=>?_) (fun c=>?_)
 ·have c9:k=9:=by simpa using c
  refine br (fun g=>?_) (fun g=>?_)
  ·obtain ⟨rfl,rfl⟩:=h9n c9 (by simp [aj] at g;omega);exact ⟨.tup [.v (.string _),.v (.bool _)],ax,rfl⟩
  ·have g:1<=n/\n<=64:=by simp [aj] at g;omega
   obtain ⟨rfl,rfl⟩:=h9 c9 g.1 g.2;have hr:=hr g.1 g.2;rw [show ((n.toNat:Nat):Int)=n by omega] at hr;refine call_p en69 (hr) ax rfl ?_;refine ⟨by show 1 + (List.replicate n.toNat (42:UInt8)).length<=_;rw [List.length_replicate];omega,?_⟩;refine ⟨by rw [eS];show 1 + (List.replicate n.toNat (42:UInt8)).length + 1<=_;rw [List.length_replicate];omega,?_⟩;refine ⟨.tup [.v (.string _),.v (.bool _)],ax,?_⟩;exact oY (Gr [60] _ [62])
 have c9:¬ k=9:=by simpa using c
 refine br (fun c=>?_) (fun c=>?_)
 ·obtain ⟨rfl,rfl⟩:=pq (by simpa using c);refine call_p Tz (hp) ax rfl ?_;refine ⟨by show 2 + (iT n).length<=_;omega,?_⟩;refine ⟨by rw [eS];show 2 + (iT n).length + 1<=_;omega,?_⟩;refine ⟨.tup [.v (.string _),.v (.bool _)],ax,?_⟩;exact oY (Gr [60,126] _ [62])
 have c10:¬ k=10:=by simpa using c
 refine br (fun c=>?_) (fun c=>?_)
 ·obtain ⟨rfl,rfl⟩:=h11 (by simpa using c);refine call_p WS (hq) ax rfl ?_;refine ⟨by show 1 + (oX (tx s)).length<=_;omega,?_⟩;refine ⟨by rw [eS];show 1 + (oX (tx s)).length + 3<=_;omega,?_⟩;refine ⟨.tup [.v (.string _),.v (.bool _)],ax,?_⟩;exact oY (Gr [60] _ [46,46,62])
 have c11:¬ k=11:=by simpa using c
 refine br (fun c=>?_) (fun c=>?_)
 ·obtain ⟨rfl,rfl⟩:=Tl (by simpa using c);refine call_p Tz (hp) ax rfl ?_;refine ⟨by show 2 + (iT n).length<=_;omega,?_⟩;refine ⟨by rw [eS];show 2 + (iT n).length + 1<=_;omega,?_⟩;refine ⟨.tup [.v (.string _),.v (.bool _)],ax,?_⟩;exact oY (Gr [60,35] _ [62])
 have c12:¬ k=12:=by simpa using c
 obtain ⟨rfl,rfl⟩:=eI ⟨c2,c3,c9,c10,c11,c12⟩;exact ⟨.tup [.v (.string _),.v (.bool _)],ax,rfl⟩
abbrev U0 (v:Val) (e:Nat):St:=⟨[(1,⟨[],.loc 0 0⟩),(4,⟨[],.v (.string (ba (60 :: List.replicate e 42)))⟩),(5,⟨[],.v (.int .i64 e)⟩)],[aU v],[]⟩
theorem Gs (v:Val) (hs:v.s.size<=1099511627776) (hn:uX v.n):EvP Tryz.prog 28 [.agg (aU v)] (.tup [.v (.string (ba (dH v))),.v (.bool (bS v))]):=by
 have hp:=Fa v.n hn.1 hn.2;have iE:=A3 hn;have hq:=A1 v.s hs;have ZE:=nc (tx v.s);rw [bm] at ZE;have h2:=@lf_2 v;have h3:=@lf_3 v;have h9:=@lf_9 v;have h9n:=@Sz v;have pq:=@lf_10 v;have h11:=@lf_11 v;have Tl:=@lf_12 v;have eI:=@SA v;generalize dH v=S at *;generalize bS v=B at *;obtain ⟨k,n,s,ks⟩:=v;simp only [Val.k,Val.n,Val.s] at *;refine ev_go (P:=Tryz.prog) tt tt_ok 5000 65 [.tmp 2,.tmp 3] Tryz.func28 rfl Tryz.ntmps28 rfl (nL rfl) (fun E9 w9 hn9 hm9=>?_);refine br (fun c=>?_) (fun c=>?_)
 ·obtain ⟨rfl,rfl⟩:=h2 (by simpa using c);refine call_p B8 (hp) ax rfl ?_;exact ⟨.tup [.v (.string _),.v (.bool _)],ax,rfl⟩
 have c2:¬ k=2:=by simpa using c
 refine br (fun c=>?_) (fun c=>?_)
 ·obtain ⟨rfl,rfl⟩:=h3 (by simpa using c);refine call_p WT (hq) ax rfl ?_;exact ⟨.tup [.v (.string _),.v (.bool _)],ax,rfl⟩
 have c3:¬ k=3:=by simpa using c
 refine br (fun c=>?_) (fun c=>?_)
 ·have c:(k=9/\1<=n)/\n<=64:=by
   simp [pickB_and] at c;omega
  obtain ⟨rfl,rfl⟩:=h9 c.1.1 c.1.2 c.2;refine aq (fun j st=>∃ e:Nat,st=U0 (.mk k n s ks) e/\e<=n.toNat/\j=n.toNat - e) n.toNat (U0 (.mk k n s ks) 0) (weak_mk ⟨_,rfl⟩ wA rfl rfl rfl EJ) ⟨0,rfl,by omega,by omega⟩ ?_;rintro _ st ⟨e,rfl,he,rfl⟩;refine br (fun hL=>?_) (fun hL=>?_)
  ·have ap:(e:Int) < n:=by simpa using hL
   refine ⟨by show (List.replicate e (42:UInt8)).length + 1 + 1<=_;rw [List.length_replicate];omega,?_⟩;have hst9:ba (60 :: List.replicate e 42) ++ ba [42]=ba (60 :: List.replicate (e + 1) 42):=(bU (60 :: List.replicate e 42) [42]).trans (congrArg ba (by rw [List.replicate_succ'];rfl));refine ⟨U0 (.mk k n s ks) (e + 1),(weak_mk ⟨_,rfl⟩ wA rfl rfl rfl (by repeat' (first | exact trivial | exact ah rfl | exact ak (cx (n:=65) (by omega) (by omega)) | exact iJ hst9 | refine ⟨⟨_,rfl,?_⟩,?_⟩))),n.toNat - (e + 1),by omega,e + 1,rfl,by omega,rfl⟩
  ·have aO:e=n.toNat:=by
    have:¬ (e:Int) < n:=by simpa using hL
    omega
   subst aO;refine ⟨by show (List.replicate n.toNat (42:UInt8)).length + 1 + 1<=_;rw [List.length_replicate];omega,?_⟩;refine ⟨.tup [.v (.string _),.v (.bool _)],ax,?_⟩;exact oY (bU _ [62])
 have c9:¬ (k=9/\1<=n/\n<=64):=by simp [pickB_and] at c;omega
 refine br (fun c=>?_) (fun c=>?_)
 ·obtain ⟨rfl,rfl⟩:=pq (by simpa using c);refine call_p B8 (hp) ax rfl ?_;refine ⟨by show 2 + (iT n).length<=_;omega,?_⟩;refine ⟨by rw [eS];show 2 + (iT n).length + 1<=_;omega,?_⟩;refine ⟨.tup [.v (.string _),.v (.bool _)],ax,?_⟩;exact oY (Gr [60,126] _ [62])
 have c10:¬ k=10:=by simpa using c
 refine br (fun c=>?_) (fun c=>?_)
 ·obtain ⟨rfl,rfl⟩:=h11 (by simpa using c);refine call_p WT (hq) ax rfl ?_;refine ⟨by show 1 + (oX (tx s)).length<=_;omega,?_⟩;refine ⟨by rw [eS];show 1 + (oX (tx s)).length + 3<=_;omega,?_⟩;refine ⟨.tup [.v (.string _),.v (.bool _)],ax,?_⟩;exact oY (Gr [60] _ [46,46,62])
 have c11:¬ k=11:=by simpa using c
 refine br (fun c=>?_) (fun c=>?_)
 ·obtain ⟨rfl,rfl⟩:=Tl (by simpa using c);refine call_p B8 (hp) ax rfl ?_;refine ⟨by show 2 + (iT n).length<=_;omega,?_⟩;refine ⟨by rw [eS];show 2 + (iT n).length + 1<=_;omega,?_⟩;refine ⟨.tup [.v (.string _),.v (.bool _)],ax,?_⟩;exact oY (Gr [60,35] _ [62])
 have c12:¬ k=12:=by simpa using c
 by_cases c:k=9
 ·obtain ⟨rfl,rfl⟩:=h9n c (by omega);exact ⟨.tup [.v (.string _),.v (.bool _)],ax,rfl⟩
 ·obtain ⟨rfl,rfl⟩:=eI ⟨c2,c3,c,c10,c11,c12⟩;exact ⟨.tup [.v (.string _),.v (.bool _)],ax,rfl⟩
def wH (f:Nat->Nat->Bool) (c k:Nat):Bool:=(List.range k).all (f c)
theorem Ko (f:Nat->Nat->Bool) (c k:Nat):wH f c (k + 1)=(wH f c k && f c k):=by simp [wH,List.range_succ]
theorem DU (f:Nat->Nat->Bool) (n c:Nat):rE f n [] c=wH f c n:=by simp [rE,fY,wH]
abbrev Ou (n:Nat) (f:Nat->Nat->Bool) (e:Nat):St:=⟨[(0,⟨[],.sl 1 (cz (dm n f)) none⟩),(3,⟨[],.v (.int .i64 e)⟩)],[],[]⟩
abbrev IA (n:Nat) (f:Nat->Nat->Bool) (e:Nat) (x:Bool) (k:Nat):St:=⟨[(0,⟨[],.sl 1 (cz (dm n f)) none⟩),(3,⟨[],.v (.int .i64 e)⟩),(4,⟨[],.v (.bool x)⟩),(5,⟨[],.v (.int .i64 k)⟩)],[],[]⟩
theorem xU (n:Nat) (f:Nat->Nat->Bool) (hn:n<=64):EvP Tryz.prog 82 [.sl 1 (cz (dm n f)) none] (.v (.int .i64 (oz (ep f n [])))):=by
 have dW:=fZ n f;refine ev_go (P:=Tryz.prog) tt tt_ok 5000 30 [.tmp 2] Tryz.func82 rfl Tryz.ntmps82 rfl (nL rfl) (fun E9 w9 hn9 hm9=>?_);refine aq (fun j st=>∃ e:Nat,st=Ou n f e/\e<=n/\(∀ c,c < e->rE f n [] c=false)/\j=n - e) n (Ou n f 0) (weak_mk ⟨_,rfl⟩ wA rfl rfl rfl wB) ⟨0,rfl,by omega,fun _ h=>by omega,by omega⟩ ?_;rintro j st ⟨e,rfl,he,eI,rfl⟩;refine br (fun hL=>?_) (fun hL=>?_)
 ·have ap:e < n:=by simpa [dW] using hL
  refine aq (fun j st=>∃ k:Nat,st=IA n f e (wH f e k) k/\k<=n/\j=n - k) n (IA n f e (wH f e 0) 0) (weak_mk ⟨_,rfl⟩ wA rfl rfl rfl (by repeat' (first | exact trivial | exact ah rfl | exact cr rfl | refine ⟨⟨_,rfl,?_⟩,?_⟩))) ⟨0,rfl,by omega,by omega⟩ ?_;rintro j st ⟨k,rfl,hk,rfl⟩;refine br (fun jD=>?_) (fun jD=>?_)
  ·have gF:k < n:=by simpa [dW] using jD
   have JV:=Ko f e k;refine br (fun g=>?_) (fun g=>?_)
   ·refine ⟨_,⟨by omega,dh ap⟩,?_⟩;refine ⟨_,⟨by omega,cw gF⟩,?_⟩;have g:wH f e k=true:=by simpa using g
    rw [g,Bool.true_and] at JV;exact ⟨IA n f e (wH f e (k + 1)) (k + 1),(weak_mk ⟨_,rfl⟩ wA rfl rfl rfl (by repeat' (first | exact trivial | exact ah rfl | exact ak (cx gF (by omega)) | exact cr JV.symm | refine ⟨⟨_,rfl,?_⟩,?_⟩))),n - (k + 1),by omega,k + 1,rfl,by omega,rfl⟩
   ·have g:wH f e k=false:=by simpa using g
    rw [g,Bool.false_and] at JV;exact ⟨IA n f e (wH f e (k + 1)) (k + 1),(weak_mk ⟨_,rfl⟩ wA rfl rfl rfl (by repeat' (first | exact trivial | exact ah rfl | exact ak (cx gF (by omega)) | exact cr JV.symm | refine ⟨⟨_,rfl,?_⟩,?_⟩))),n - (k + 1),by omega,k + 1,rfl,by omega,rfl⟩
  ·have aO:k=n:=by have:=jD;simp [dW] at this;omega
   subst aO;refine br (fun g=>?_) (fun g=>?_)
   ·have g:rE f k [] e=true:=by rw [DU];exact g
    rw [ep,cC ap g eI];exact (rfl:_=_)
   ·have g:rE f k [] e=false:=by rw [DU];exact g
    refine ⟨Ou k f (e + 1),(weak_mk ⟨_,rfl⟩ wA rfl rfl rfl (wNB ap)),k - (e + 1),by omega,e + 1,rfl,by omega,fun j hj=>?_,rfl⟩;rcases Nat.lt_succ_iff_lt_or_eq.1 hj with hj | rfl
    ·exact eI j hj
    ·exact g
 ·have aO:e=n:=by have:=hL;simp [dW] at this;omega
  subst aO;rw [ep,cW eI];exact (rfl:_=_)
end Go.Proofs.YtfifjddnnmfeoaaGreat
set_option maxRecDepth 100000
namespace Go.Proofs.YtfifjddnnmfeoaaGreat
open Go Go.RowKit Dv Tryz
end Go.Proofs.YtfifjddnnmfeoaaGreat
set_option maxRecDepth 100000
namespace Go.Proofs.YtfifjddnnmfeoaaGreat
open Go Go.RowKit Dv Tryz
theorem eY {s:ByteArray} (h:aY s=true):s.size<=32:=by
 unfold aY at h;simp only [Bool.and_eq_true,decide_eq_true_eq] at h;exact h.2.1
end Go.Proofs.YtfifjddnnmfeoaaGreat
