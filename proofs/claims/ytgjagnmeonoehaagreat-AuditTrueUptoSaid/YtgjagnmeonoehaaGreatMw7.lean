/- Part 7 of the proof: UTF-8: the program's lead, value; UTF-8: the program's Decode; UTF-8: the document's reckoned, Scalar, Encode; UTF-8: the document's Scalar, Encode; UTF-8, plain: the document's well-formed bytes are the program's; a text's first units; What is seen of values, and where that differs, plain; Which nodes have several values: plain; How many unlike values nodes have: plain, as the document counts; The program's several, Several; The document's count, Many; the law of several values: the call returns true; The document's Many; the law of several values: the call returns true; First and second values: tags, sizes: plain; Regions that draw their order and only read: run with one state; Sample: the program's tags and sizes; Sample: the program's turn, part, first, changed; First and second values: the tables, the values: plain; Sample: the program's first, changed, second; Sample: the program's second; Regions that draw their order, in which two new objects may come in either order; Sample: make1: all sizes; Rules for the evaluator: a slice literal without elements, its cells known; Rules for the evaluator: a slice literal, its cells known; A contract that hands back a fresh row is one of data alone, too; tree: put, Set; Sample: one: first values; Sample: two: second values; Sample: fits, First, Second; no plan; The first edge of a name; Values along paths: what stands beside, what is alive, the value itself: plain; Sample: what stands beside, the nodes and edges of a path, what is alive; Sample: the nodes and edges of a path, what is alive; Sample: a value with another one in it. No condition. -/
import Derived.Test.YtgjagnmeonoehaaGreatMw2
import Derived.Test.YtgjagnmeonoehaaGreatMw3
import Derived.Test.YtgjagnmeonoehaaGreatMw4
import Derived.Test.YtgjagnmeonoehaaGreatMw5
import Derived.Test.YtgjagnmeonoehaaGreatMw6
set_option linter.all false
set_option maxRecDepth 100000
namespace Go.Proofs.YtgjagnmeonoehaaGreat
open Go Go.RowKit Dv Go.Proofs.Tryz
def cx (c:Nat):Nat:=if c < 128 then 1 else if 194<=c/\c<=223 then 2 else if 224<=c/\c<=239 then 3 else if 240<=c/\c<=244 then 4 else 0
def mJ (c:Nat):Nat:=if c=224 then 160 else if c=240 then 144 else 128
def mK (c:Nat):Nat:=if c=237 then 159 else if c=244 then 143 else 191
theorem NJ (c:Nat):EvP prog 337 [.v (.int .u8 c)] (.tup [.v (.int .i64 (cx c:Nat)),.v (.int .u8 (mJ c:Nat)),.v (.int .u8 (mK c:Nat))]):=by
 have hN:cx c=if c < 128 then 1 else if 194<=c/\c<=223 then 2 else if 224<=c/\c<=239 then 3 else if 240<=c/\c<=244 then 4 else 0:=rfl
 have hL:mJ c=if c=224 then 160 else if c=240 then 144 else 128:=rfl
 have hH:mK c=if c=237 then 159 else if c=244 then 143 else 191:=rfl
 generalize cx c=N at hN ⊢;generalize mJ c=L at hL ⊢;generalize mK c=H at hH ⊢;refine eG 41 [.tmp 2,.tmp 3,.tmp 4] func337 rfl ntmps337 rfl fun _ _ _ _=>?_;refine br ?_ ?_<;>intro c1
 ·have c1:(c:Int) < 128:=sU c1;refine br ?_ ?_<;>intro g
  ·have g:(c:Int)=224:=sU g
   have hn:N=1:=by
    rw [hN]
    repeat' split
    all_goals omega
   have hl:L=160:=by
    rw [hL]
    repeat' split
    all_goals omega
   have hh:H=191:=by
    rw [hH]
    repeat' split
    all_goals omega
   rw [hn,hl,hh];exact ⟨_,ax,rfl⟩
  have UR:¬ (c:Int)=224:=sU g;refine br ?_ ?_<;>intro g
  ·have g:(c:Int)=237:=sU g
   have hn:N=1:=by
    rw [hN]
    repeat' split
    all_goals omega
   have hl:L=128:=by
    rw [hL]
    repeat' split
    all_goals omega
   have hh:H=159:=by
    rw [hH]
    repeat' split
    all_goals omega
   rw [hn,hl,hh];exact ⟨_,ax,rfl⟩
  have US:¬ (c:Int)=237:=sU g;refine br ?_ ?_<;>intro g
  ·have g:(c:Int)=240:=sU g
   have hn:N=1:=by
    rw [hN]
    repeat' split
    all_goals omega
   have hl:L=144:=by
    rw [hL]
    repeat' split
    all_goals omega
   have hh:H=191:=by
    rw [hH]
    repeat' split
    all_goals omega
   rw [hn,hl,hh];exact ⟨_,ax,rfl⟩
  have UT:¬ (c:Int)=240:=sU g;refine br ?_ ?_<;>intro g
  ·have g:(c:Int)=244:=sU g
   have hn:N=1:=by
    rw [hN]
    repeat' split
    all_goals omega
   have hl:L=128:=by
    rw [hL]
    repeat' split
    all_goals omega
   have hh:H=143:=by
    rw [hH]
    repeat' split
    all_goals omega
   rw [hn,hl,hh];exact ⟨_,ax,rfl⟩
  have UU:¬ (c:Int)=244:=sU g
  have hn:N=1:=by
   rw [hN]
   repeat' split
   all_goals omega
  have hl:L=128:=by
   rw [hL]
   repeat' split
   all_goals omega
  have hh:H=191:=by
   rw [hH]
   repeat' split
   all_goals omega
  rw [hn,hl,hh];exact ⟨_,ax,rfl⟩
 have c1:¬ (c:Int) < 128:=sU c1;refine br ?_ ?_<;>intro k
 ·have k:194<=(c:Int)/\(c:Int)<=223:=by simpa [av] using k
  refine br ?_ ?_<;>intro g
  ·have g:(c:Int)=224:=sU g
   have hn:N=2:=by
    rw [hN]
    repeat' split
    all_goals omega
   have hl:L=160:=by
    rw [hL]
    repeat' split
    all_goals omega
   have hh:H=191:=by
    rw [hH]
    repeat' split
    all_goals omega
   rw [hn,hl,hh];exact ⟨_,ax,rfl⟩
  have UR:¬ (c:Int)=224:=sU g;refine br ?_ ?_<;>intro g
  ·have g:(c:Int)=237:=sU g
   have hn:N=2:=by
    rw [hN]
    repeat' split
    all_goals omega
   have hl:L=128:=by
    rw [hL]
    repeat' split
    all_goals omega
   have hh:H=159:=by
    rw [hH]
    repeat' split
    all_goals omega
   rw [hn,hl,hh];exact ⟨_,ax,rfl⟩
  have US:¬ (c:Int)=237:=sU g;refine br ?_ ?_<;>intro g
  ·have g:(c:Int)=240:=sU g
   have hn:N=2:=by
    rw [hN]
    repeat' split
    all_goals omega
   have hl:L=144:=by
    rw [hL]
    repeat' split
    all_goals omega
   have hh:H=191:=by
    rw [hH]
    repeat' split
    all_goals omega
   rw [hn,hl,hh];exact ⟨_,ax,rfl⟩
  have UT:¬ (c:Int)=240:=sU g;refine br ?_ ?_<;>intro g
  ·have g:(c:Int)=244:=sU g
   have hn:N=2:=by
    rw [hN]
    repeat' split
    all_goals omega
   have hl:L=128:=by
    rw [hL]
    repeat' split
    all_goals omega
   have hh:H=143:=by
    rw [hH]
    repeat' split
    all_goals omega
   rw [hn,hl,hh];exact ⟨_,ax,rfl⟩
  have UU:¬ (c:Int)=244:=sU g
  have hn:N=2:=by
   rw [hN]
   repeat' split
   all_goals omega
  have hl:L=128:=by
   rw [hL]
   repeat' split
   all_goals omega
  have hh:H=191:=by
   rw [hH]
   repeat' split
   all_goals omega
  rw [hn,hl,hh];exact ⟨_,ax,rfl⟩
 have k194:¬ (194<=(c:Int)/\(c:Int)<=223):=by simpa [av] using k
 refine br ?_ ?_<;>intro k
 ·have k:224<=(c:Int)/\(c:Int)<=239:=by simpa [av] using k
  refine br ?_ ?_<;>intro g
  ·have g:(c:Int)=224:=sU g
   have hn:N=3:=by
    rw [hN]
    repeat' split
    all_goals omega
   have hl:L=160:=by
    rw [hL]
    repeat' split
    all_goals omega
   have hh:H=191:=by
    rw [hH]
    repeat' split
    all_goals omega
   rw [hn,hl,hh];exact ⟨_,ax,rfl⟩
  have UR:¬ (c:Int)=224:=sU g;refine br ?_ ?_<;>intro g
  ·have g:(c:Int)=237:=sU g
   have hn:N=3:=by
    rw [hN]
    repeat' split
    all_goals omega
   have hl:L=128:=by
    rw [hL]
    repeat' split
    all_goals omega
   have hh:H=159:=by
    rw [hH]
    repeat' split
    all_goals omega
   rw [hn,hl,hh];exact ⟨_,ax,rfl⟩
  have US:¬ (c:Int)=237:=sU g;refine br ?_ ?_<;>intro g
  ·have g:(c:Int)=240:=sU g
   have hn:N=3:=by
    rw [hN]
    repeat' split
    all_goals omega
   have hl:L=144:=by
    rw [hL]
    repeat' split
    all_goals omega
   have hh:H=191:=by
    rw [hH]
    repeat' split
    all_goals omega
   rw [hn,hl,hh];exact ⟨_,ax,rfl⟩
  have UT:¬ (c:Int)=240:=sU g;refine br ?_ ?_<;>intro g
  ·have g:(c:Int)=244:=sU g
   have hn:N=3:=by
    rw [hN]
    repeat' split
    all_goals omega
   have hl:L=128:=by
    rw [hL]
    repeat' split
    all_goals omega
   have hh:H=143:=by
    rw [hH]
    repeat' split
    all_goals omega
   rw [hn,hl,hh];exact ⟨_,ax,rfl⟩
  have UU:¬ (c:Int)=244:=sU g
  have hn:N=3:=by
   rw [hN]
   repeat' split
   all_goals omega
  have hl:L=128:=by
   rw [hL]
   repeat' split
   all_goals omega
  have hh:H=191:=by
   rw [hH]
   repeat' split
   all_goals omega
  rw [hn,hl,hh];exact ⟨_,ax,rfl⟩
 have k224:¬ (224<=(c:Int)/\(c:Int)<=239):=by simpa [av] using k
 refine br ?_ ?_<;>intro k
 ·have k:240<=(c:Int)/\(c:Int)<=244:=by simpa [av] using k
  refine br ?_ ?_<;>intro g
  ·have g:(c:Int)=224:=sU g
   have hn:N=4:=by
    rw [hN]
    repeat' split
    all_goals omega
   have hl:L=160:=by
    rw [hL]
    repeat' split
    all_goals omega
   have hh:H=191:=by
    rw [hH]
    repeat' split
    all_goals omega
   rw [hn,hl,hh];exact ⟨_,ax,rfl⟩
  have UR:¬ (c:Int)=224:=sU g;refine br ?_ ?_<;>intro g
  ·have g:(c:Int)=237:=sU g
   have hn:N=4:=by
    rw [hN]
    repeat' split
    all_goals omega
   have hl:L=128:=by
    rw [hL]
    repeat' split
    all_goals omega
   have hh:H=159:=by
    rw [hH]
    repeat' split
    all_goals omega
   rw [hn,hl,hh];exact ⟨_,ax,rfl⟩
  have US:¬ (c:Int)=237:=sU g;refine br ?_ ?_<;>intro g
  ·have g:(c:Int)=240:=sU g
   have hn:N=4:=by
    rw [hN]
    repeat' split
    all_goals omega
   have hl:L=144:=by
    rw [hL]
    repeat' split
    all_goals omega
   have hh:H=191:=by
    rw [hH]
    repeat' split
    all_goals omega
   rw [hn,hl,hh];exact ⟨_,ax,rfl⟩
  have UT:¬ (c:Int)=240:=sU g;refine br ?_ ?_<;>intro g
  ·have g:(c:Int)=244:=sU g
   have hn:N=4:=by
    rw [hN]
    repeat' split
    all_goals omega
   have hl:L=128:=by
    rw [hL]
    repeat' split
    all_goals omega
   have hh:H=143:=by
    rw [hH]
    repeat' split
    all_goals omega
   rw [hn,hl,hh];exact ⟨_,ax,rfl⟩
  have UU:¬ (c:Int)=244:=sU g
  have hn:N=4:=by
   rw [hN]
   repeat' split
   all_goals omega
  have hl:L=128:=by
   rw [hL]
   repeat' split
   all_goals omega
  have hh:H=191:=by
   rw [hH]
   repeat' split
   all_goals omega
  rw [hn,hl,hh];exact ⟨_,ax,rfl⟩
 have k240:¬ (240<=(c:Int)/\(c:Int)<=244):=by simpa [av] using k
 refine br ?_ ?_<;>intro g
 ·have g:(c:Int)=224:=sU g
  have hn:N=0:=by
   rw [hN]
   repeat' split
   all_goals omega
  have hl:L=160:=by
   rw [hL]
   repeat' split
   all_goals omega
  have hh:H=191:=by
   rw [hH]
   repeat' split
   all_goals omega
  rw [hn,hl,hh];exact ⟨_,ax,rfl⟩
 have UR:¬ (c:Int)=224:=sU g;refine br ?_ ?_<;>intro g
 ·have g:(c:Int)=237:=sU g
  have hn:N=0:=by
   rw [hN]
   repeat' split
   all_goals omega
  have hl:L=128:=by
   rw [hL]
   repeat' split
   all_goals omega
  have hh:H=159:=by
   rw [hH]
   repeat' split
   all_goals omega
  rw [hn,hl,hh];exact ⟨_,ax,rfl⟩
 have US:¬ (c:Int)=237:=sU g;refine br ?_ ?_<;>intro g
 ·have g:(c:Int)=240:=sU g
  have hn:N=0:=by
   rw [hN]
   repeat' split
   all_goals omega
  have hl:L=144:=by
   rw [hL]
   repeat' split
   all_goals omega
  have hh:H=191:=by
   rw [hH]
   repeat' split
   all_goals omega
  rw [hn,hl,hh];exact ⟨_,ax,rfl⟩
 have UT:¬ (c:Int)=240:=sU g;refine br ?_ ?_<;>intro g
 ·have g:(c:Int)=244:=sU g
  have hn:N=0:=by
   rw [hN]
   repeat' split
   all_goals omega
  have hl:L=128:=by
   rw [hL]
   repeat' split
   all_goals omega
  have hh:H=143:=by
   rw [hH]
   repeat' split
   all_goals omega
  rw [hn,hl,hh];exact ⟨_,ax,rfl⟩
 have UU:¬ (c:Int)=244:=sU g
 have hn:N=0:=by
  rw [hN]
  repeat' split
  all_goals omega
 have hl:L=128:=by
  rw [hL]
  repeat' split
  all_goals omega
 have hh:H=191:=by
  rw [hH]
  repeat' split
  all_goals omega
 rw [hn,hl,hh];exact ⟨_,ax,rfl⟩
def recV:List UInt8->Int
 | [a]=>a.toNat
 | [a,b]=>(a.toNat - 192) * 64 + (b.toNat - 128)
 | [a,b,c]=>(a.toNat - 224) * 4096 + (b.toNat - 128) * 64 + (c.toNat - 128)
 | [a,b,c,d]=>(a.toNat - 240) * 262144 + (b.toNat - 128) * 4096 + (c.toNat - 128) * 64 + (d.toNat - 128)
 | _=>0
def UW:List UInt8->Bool
 | [a]=>decide (a.toNat < 128)
 | [a,b]=>decide (192<=a.toNat/\a.toNat < 224/\128<=b.toNat/\b.toNat < 192)
 | [a,b,c]=>decide (224<=a.toNat/\a.toNat < 240/\128<=b.toNat/\b.toNat < 192/\128<=c.toNat/\c.toNat < 192)
 | [a,b,c,d]=>decide (240<=a.toNat/\a.toNat < 248/\128<=b.toNat/\b.toNat < 192/\128<=c.toNat/\c.toNat < 192/\128<=d.toNat/\d.toNat < 192)
 | _=>false
theorem NK {n:Int} (h1 : -2147483648<=n) (h2:n<=2147483647):IntKind.i32.wrap n=n:=by
 simp [IntKind.wrap,IntKind.min,IntKind.max,IntKind.signed,IntKind.bits];omega
theorem UX {x:Nat} (h:x < 4294967296):(BitVec.ofInt 32 (x:Int)).toNat=x:=by
 rw [BitVec.toNat_ofInt];omega
theorem RL {x m:Nat} (k:Nat) (hk:m=2 ^ k - 1) (hm:m < 256) (h:x < 256):IntKind.i32.wrap ((BitVec.ofInt IntKind.i32.bits (IntKind.i32.wrap (x:Int)) &&& BitVec.ofInt IntKind.i32.bits (m:Int)).toNat:Nat)=((x % 2 ^ k:Nat):Int):=by
 rw [NK (n:=(x:Int)) (by omega) (by omega)];show IntKind.i32.wrap ((BitVec.ofInt 32 (x:Int) &&& BitVec.ofInt 32 (m:Int)).toNat:Nat)=_;rw [BitVec.toNat_and,UX (by omega),UX (by omega),hk,Nat.and_two_pow_sub_one_eq_mod];have:=Nat.mod_le x (2 ^ k);exact NK (by omega) (by omega)
theorem BJ {x:Nat} (hx:x < 256):IntKind.i32.wrap (IntKind.u8.wrap ((BitVec.ofInt IntKind.u8.bits (x:Int) &&& BitVec.ofInt IntKind.u8.bits 63).toNat:Nat))=((x % 64:Nat):Int):=by
 show IntKind.i32.wrap (IntKind.u8.wrap ((BitVec.ofInt 8 (x:Int) &&& BitVec.ofInt 8 63).toNat:Nat))=_;have e:(BitVec.ofInt 8 (x:Int)).toNat=x:=by rw [BitVec.toNat_ofInt];omega
 rw [BitVec.toNat_and,e,show (BitVec.ofInt 8 63).toNat=2 ^ 6 - 1 from rfl,Nat.and_two_pow_sub_one_eq_mod];rw [IntKind.wrap_u8'];rw [NK (by omega) (by omega)];omega
theorem NL {x y:Nat} (h:x < 1000000) (hy:y < 64):IntKind.i32.wrap ((BitVec.ofInt IntKind.i32.bits (IntKind.i32.wrap ((x:Int) * 2 ^ min (Int.toNat 6) IntKind.i32.bits)) ||| BitVec.ofInt IntKind.i32.bits (y:Int)).toNat:Nat)=((x * 64 + y:Nat):Int):=by
 show IntKind.i32.wrap ((BitVec.ofInt 32 (IntKind.i32.wrap ((x:Int) * 64)) ||| BitVec.ofInt 32 (y:Int)).toNat:Nat)=_;rw [NK (n:=(x:Int) * 64) (by omega) (by omega),show (x:Int) * 64=((x * 64:Nat):Int) by omega,BitVec.toNat_or,UX (by omega),UX (by omega)];have:=Nat.shiftLeft_add_eq_or_of_lt (i:=6) (b:=y) hy x;rw [Nat.shiftLeft_eq] at this
 grind [NK]
theorem Ai {s:ByteArray} {l:List UInt8} (hl:tx s=l) {z:Int} (k:Nat) (hz:z.toNat=k):gC s z.toNat=(l.getD k 0).toNat:=by
 rw [hz,<- hl];all_goals rfl
theorem JS (s:ByteArray) (h:1<=s.size/\s.size<=4):Ev prog 338 [.v (.string s)] [] [] (fun r _ _=>∃ z:Int,r = .v (.int .i32 z)/\(UW (tx s)=true->z=recV (tx s))):=by
 have hZ:=nu s;refine eG 57 [.tmp 2] func338 rfl ntmps338 rfl fun _ _ _ _=>?_;refine br ?_ ?_<;>intro c1
 ·refine ⟨⟨by omega,by omega⟩,?_⟩;have c1:s.size=1:=by have:=of_decide_eq_true c1;omega
  obtain ⟨a,hl⟩:∃ a,tx s=[a]:=by
   rw [c1] at hZ
   match tx s,hZ with
   | [a],_=>exact ⟨a,rfl⟩
  refine ⟨_,rfl,fun _=>?_⟩;have ha:=a.toNat_lt;rw [Ai hl 0 rfl,hl];exact NK (by show _<=(a.toNat:Int);omega) (by show (a.toNat:Int)<=_;omega)
 ·refine dI ?_;refine ⟨⟨by omega,by omega⟩,?_⟩;have hw7:IntKind.i64.wrap (7 - (s.size:Int))=7 - s.size:=wrap64 (by omega) (by omega);have pk:IntKind.i64.wrap (1 + 1)=2:=rfl;have Kr:IntKind.i64.wrap (IntKind.i64.wrap (1 + 1) + 1)=3:=rfl
  have c1:¬ s.size=1:=by
   have:=of_decide_eq_false c1;omega
  refine ⟨by rw [hw7];omega,?_⟩;refine br ?_ ?_<;>intro c4
  ·have c4:s.size=4:=by have:=of_decide_eq_true c4;omega
   refine ⟨by omega,?_⟩;refine ⟨⟨by first | omega | (rw [pk];omega),by first | omega | (rw [pk];omega)⟩,?_⟩;refine ⟨by omega,?_⟩;refine ⟨⟨by first | omega | (rw [pk];omega),by first | omega | (rw [pk];omega)⟩,?_⟩;refine ⟨by omega,?_⟩;refine ⟨⟨by first | omega | (rw [Kr];omega),by first | omega | (rw [Kr];omega)⟩,?_⟩
   obtain ⟨a,b,c,d,hl⟩:∃ a b c d,tx s=[a,b,c,d]:=by
    rw [c4] at hZ
    match tx s,hZ with
    | [a,b,c,d],_=>exact ⟨a,b,c,d,rfl⟩
   refine ⟨_,rfl,fun hi=>?_⟩;have ha:=a.toNat_lt;have hb:=b.toNat_lt;have hc:=c.toNat_lt;have hd:=d.toNat_lt;have hm:IntKind.i32.wrap (IntKind.i32.wrap (1 * 2 ^ min (IntKind.i64.wrap (7 - (s.size:Int))).toNat IntKind.i32.bits) - 1)=((7:Nat):Int):=by rw [c4];all_goals rfl
   rw [hm,Ai hl 0 rfl,Ai hl 1 rfl,Ai hl 2 rfl,Ai hl 3 rfl];simp only [List.getD_cons_zero,List.getD_cons_succ];rw [RL 3 rfl (by omega) ha,BJ hb,NL (by omega) (by omega),BJ hc,NL (by omega) (by omega),BJ hd,NL (by omega) (by omega)];rw [hl] at hi ⊢;rw [UW,decide_eq_true_iff] at hi;simp only [recV];omega
  have c4:¬ s.size=4:=by have:=of_decide_eq_false c4;omega
  refine br ?_ ?_<;>intro c3
  ·have c3:s.size=3:=by have:=of_decide_eq_true c3;omega
   refine ⟨by omega,?_⟩;refine ⟨⟨by first | omega | (rw [pk];omega),by first | omega | (rw [pk];omega)⟩,?_⟩;refine ⟨by omega,?_⟩;refine ⟨⟨by first | omega | (rw [pk];omega),by first | omega | (rw [pk];omega)⟩,?_⟩
   obtain ⟨a,b,c,hl⟩:∃ a b c,tx s=[a,b,c]:=by
    rw [c3] at hZ
    match tx s,hZ with
    | [a,b,c],_=>exact ⟨a,b,c,rfl⟩
   refine ⟨_,rfl,fun hi=>?_⟩;have ha:=a.toNat_lt;have hb:=b.toNat_lt;have hc:=c.toNat_lt;have hm:IntKind.i32.wrap (IntKind.i32.wrap (1 * 2 ^ min (IntKind.i64.wrap (7 - (s.size:Int))).toNat IntKind.i32.bits) - 1)=((15:Nat):Int):=by rw [c3];all_goals rfl
   rw [hm,Ai hl 0 rfl,Ai hl 1 rfl,Ai hl 2 rfl];simp only [List.getD_cons_zero,List.getD_cons_succ];rw [RL 4 rfl (by omega) ha,BJ hb,NL (by omega) (by omega),BJ hc,NL (by omega) (by omega)];rw [hl] at hi ⊢;rw [UW,decide_eq_true_iff] at hi;simp only [recV];omega
  have c3:¬ s.size=3:=by have:=of_decide_eq_false c3;omega
  refine br ?_ ?_<;>intro c2
  ·have c2:s.size=2:=by have:=of_decide_eq_true c2;omega
   refine ⟨by omega,?_⟩;refine ⟨⟨by first | omega | (rw [pk];omega),by first | omega | (rw [pk];omega)⟩,?_⟩
   obtain ⟨a,b,hl⟩:∃ a b,tx s=[a,b]:=by
    rw [c2] at hZ
    match tx s,hZ with
    | [a,b],_=>exact ⟨a,b,rfl⟩
   refine ⟨_,rfl,fun hi=>?_⟩;have ha:=a.toNat_lt;have hb:=b.toNat_lt;have hm:IntKind.i32.wrap (IntKind.i32.wrap (1 * 2 ^ min (IntKind.i64.wrap (7 - (s.size:Int))).toNat IntKind.i32.bits) - 1)=((31:Nat):Int):=by rw [c2];all_goals rfl
   rw [hm,Ai hl 0 rfl,Ai hl 1 rfl];simp only [List.getD_cons_zero,List.getD_cons_succ];rw [RL 5 rfl (by omega) ha,BJ hb,NL (by omega) (by omega)];rw [hl] at hi ⊢;rw [UW,decide_eq_true_iff] at hi;simp only [recV];omega
  ·exfalso;have:=of_decide_eq_false c2;omega
def BK (c i b:Nat):Bool:=if i=0 then decide (mJ c<=b) && decide (b<=mK c) else decide (128<=b) && decide (b<=191)
def allC (c:Nat) (r:List UInt8) (k:Nat):Bool:=(List.range k).all fun i=>match r[i]? with
 | some b=>BK c i b.toNat
 | none=>false
theorem NM (c:Nat) (r:List UInt8) (k:Nat):allC c r (k + 1)=(allC c r k && match r[k]? with | some b=>BK c k b.toNat | none=>false):=by grind [allC]
theorem wE {c:Nat} {r:List UInt8} {k n:Nat} (h:k < n) (hk:(match r[k]? with | some b=>BK c k b.toNat | none=>false)=false):allC c r n=false:=by grind [allC]
def okU:List UInt8->Bool
 | []=>false
 | c :: r=>decide (1<=cx c.toNat) && allC c.toNat r (cx c.toNat - 1)
def Aj:List UInt8->Nat
 | []=>0
 | c :: r=>if okU (c :: r)=true then cx c.toNat else 1
theorem Zw {c:UInt8} {r:List UInt8} (h:okU (c :: r)=true):UW ((c :: r).take (cx c.toNat))=true:=by
 unfold okU at h;rw [bc,decide_eq_true_iff] at h;obtain ⟨h1,h2⟩:=h;have hb:∀ i,i < cx c.toNat - 1->∃ b:UInt8,r[i]? = some b/\128<=b.toNat/\b.toNat < 192:=fun i hi=>by grind [allC,BK,mJ,mK]
 have hn:(cx c.toNat=1/\c.toNat < 128)∨(cx c.toNat=2/\192<=c.toNat/\c.toNat < 224)∨(cx c.toNat=3/\224<=c.toNat/\c.toNat < 240)∨(cx c.toNat=4/\240<=c.toNat/\c.toNat < 248):=by grind [cx]
 rcases hn with ⟨hn,hc⟩ | ⟨hn,hc⟩ | ⟨hn,hc⟩ | ⟨hn,hc⟩<;>rw [hn] at hb ⊢
 ·simp [UW,hc]
 ·obtain ⟨b,h5,h6⟩:=hb 0 (by omega)
  match r,h5 with
  | x :: r,h5=>grind [UW]
 ·obtain ⟨b,h5,h6⟩:=hb 0 (by omega);obtain ⟨b',h7,h8⟩:=hb 1 (by omega)
  match r,h5,h7 with
  | x :: y :: r,h5,h7=>grind [UW]
 ·obtain ⟨b,h5,h6⟩:=hb 0 (by omega);obtain ⟨b',h7,h8⟩:=hb 1 (by omega);obtain ⟨b2,h9,vY⟩:=hb 2 (by omega)
  match r,h5,h7,h9 with
  | x :: y :: v :: r,h5,h7,h9=>simp_all [UW]
set_option maxHeartbeats 4000000 in
theorem NN (s:ByteArray) (aO:Nat) (hs:s.size<=1099511627776) (c:UInt8) (r:List UInt8) (h:(tx s).drop aO=c :: r) :
  Ev prog 308 [.v (.string s),.v (.int .i64 aO)] [] [] (fun d _ _=>∃ (z:Int) (n:Nat),d = .tup [.v (.int .i32 z),.v (.int .i64 n),.v (.bool (okU (c :: r)))]/\(okU (c :: r)=true->n=cx c.toNat/\z=recV ((c :: r).take n))/\1<=n):=by
 have hlen:aO < s.size:=by
  have:=congrArg List.length h;rw [List.length_drop,nu] at this;simp at this;omega
 have hB:tx (s.extract (aO:Int).toNat (s.size:Int).toNat)=c :: r:=by
  rw [<- h];simp [tx,eH];exact List.take_of_length_le (by rw [List.length_drop];have:=nu s;unfold tx at this;omega)
 have bW:(s.extract (aO:Int).toNat (s.size:Int).toNat).size=r.length + 1:=by rw [<- nu,hB];all_goals rfl
 have ou:∀ (k:Nat) b,r[k]? = some b->gC (s.extract (aO:Int).toNat (s.size:Int).toNat) (k + 1)=b.toNat:=fun k b hk=>by
  show ((tx _).getD (k + 1) 0).toNat=_;rw [hB];simp [bN,hk]
 have HG:EvP prog 337 [.v (.int .u8 (gC (s.extract (aO:Int).toNat (s.size:Int).toNat) 0:Nat))] (.tup [.v (.int .i64 (cx c.toNat:Nat)),.v (.int .u8 (mJ c.toNat:Nat)),.v (.int .u8 (mK c.toNat:Nat))]):=by
  have:gC (s.extract (aO:Int).toNat (s.size:Int).toNat) 0=c.toNat:=by
   show ((tx _).getD 0 0).toNat=_;rw [hB];rfl
  rw [this];exact NJ c.toNat
 have hv:=fun (k:Nat) (h1:1<=k) (h2:k<=4) (h3:k<=r.length + 1)=>JS ((s.extract (aO:Int).toNat (s.size:Int).toNat).extract 0 k) (by
  have:((s.extract (aO:Int).toNat (s.size:Int).toNat).extract 0 k).size=k:=by
   rw [ByteArray.size_extract,bW];omega
  omega)
 have hu:okU (c :: r)=(decide (1<=cx c.toNat) && allC c.toNat r (cx c.toNat - 1)):=rfl;have zZ:=Zw (c:=c) (r:=r);generalize okU (c :: r)=U at hu zZ ⊢
 have hn4:cx c.toNat<=4:=by
  unfold cx
  repeat' split
  all_goals omega
 refine eG 60 [.tmp 4,.tmp 5,.tmp 6] func308 rfl ntmps308 rfl fun _ _ _ _=>?_;refine br (fun c=>absurd c (by simp [aw];omega)) (fun _=>?_);refine ⟨⟨by omega,by omega,by omega⟩,?_⟩;refine ⟨⟨by omega,by rw [bW];omega⟩,?_⟩;refine cP ab6 HG ?_;refine br ?_ ?_<;>intro g
 ·have g:cx c.toNat=0:=by have:=of_decide_eq_true g;omega
  have aZ:U=false:=by rw [hu,g];all_goals rfl
  subst aZ;exact ⟨.tup [.v (.int .i32 0),.v (.int .i64 (1:Nat)),.v (.bool false)],ax,0,1,rfl,fun h=>(by cases h),by omega⟩
 have g:1<=cx c.toNat:=by have:=of_decide_eq_false g;omega
 refine aY (fun j st=>∃ i:Nat,st=⟨[(0,⟨[],.v (.string (s.extract (aO:Int).toNat (s.size:Int).toNat))⟩),au 7 (cx c.toNat:Nat),(8,⟨[],.v (.int .u8 ((if i=0 then mJ c.toNat else 128:Nat):Int))⟩),(9,⟨[],.v (.int .u8 ((if i=0 then mK c.toNat else 191:Nat):Int))⟩),au 10 ((i + 1:Nat):Int)],[],[]⟩/\i + 1<=cx c.toNat/\allC c.toNat r i=true/\j=cx c.toNat - (i + 1)) (cx c.toNat - (0 + 1))
  ⟨[(0,⟨[],.v (.string (s.extract (aO:Int).toNat (s.size:Int).toNat))⟩),au 7 (cx c.toNat:Nat),(8,⟨[],.v (.int .u8 ((if 0=0 then mJ c.toNat else 128:Nat):Int))⟩),(9,⟨[],.v (.int .u8 ((if 0=0 then mK c.toNat else 191:Nat):Int))⟩),au 10 ((0 + 1:Nat):Int)],[],[]⟩ (bz lj) ⟨0,rfl,by omega,rfl,by omega⟩ ?_
 rintro j st ⟨i,rfl,hi,ha,rfl⟩;refine br ?_ ?_<;>intro hL
 ·have aq:i + 1 < cx c.toNat:=by have:=of_decide_eq_true hL;omega
  refine br ?_ ?_<;>intro k
  ·have k:i < r.length:=by
    have:=k;have n5:(s.extract aO s.size).size=r.length + 1:=bW;simp [n5] at this;omega
   obtain ⟨b,hb⟩:∃ b,r[i]? = some b:=⟨_,gE k⟩;have hbb:=ou i b hb;refine ⟨⟨by omega,by rw [bW];omega⟩,?_⟩
   have hcb:BK c.toNat i b.toNat=(decide ((if i=0 then mJ c.toNat else 128)<=b.toNat) && decide (b.toNat<=(if i=0 then mK c.toNat else 191))):=by
    unfold BK;split<;>rfl
   have has:=NM c.toNat r i;rw [ha,hb,Bool.true_and] at has;simp only [hcb] at has;have e:gC (s.extract (aO:Int).toNat (s.size:Int).toNat) (((i + 1:Nat):Int)).toNat=b.toNat:=hbb;refine br ?_ ?_<;>intro k2
   ·have k2:(if i=0 then mJ c.toNat else 128)<=b.toNat:=by
     have k3:=k2;rw [e] at k3;generalize (if i=0 then mJ c.toNat else 128)=lo at k3 ⊢;simp [aw] at k3;omega
    refine ⟨⟨by omega,by rw [bW];omega⟩,?_⟩;refine br ?_ ?_<;>intro k4
    ·have k4:¬ b.toNat<=(if i=0 then mK c.toNat else 191):=by
      have k3:=k4;rw [e] at k3;generalize (if i=0 then mK c.toNat else 191)=hi at k3 ⊢;simp [aw] at k3;omega
     have hf:=wE (c:=c.toNat) (r:=r) (k:=i) (n:=cx c.toNat - 1) (by omega) (by rw [hb];simp only [hcb];simp [k4]);rw [hf,Bool.and_false] at hu;subst hu;exact ⟨.tup [.v (.int .i32 0),.v (.int .i64 ((i + 1:Nat):Int)),.v (.bool false)],ax,0,i + 1,rfl,fun h=>(by cases h),by omega⟩
    ·have k4:b.toNat<=(if i=0 then mK c.toNat else 191):=by
      have k3:=k4;rw [e] at k3;generalize (if i=0 then mK c.toNat else 191)=hi at k3 ⊢;simp [aw] at k3;omega
     rw [decide_eq_true k2,decide_eq_true k4] at has;exact rE ⟨_,by omega,i + 1,rfl,by omega,has,rfl⟩ (bz (cJ (aG aq (by omega))))
   ·have k2:¬ (if i=0 then mJ c.toNat else 128)<=b.toNat:=by
     have k3:=k2;rw [e] at k3;generalize (if i=0 then mJ c.toNat else 128)=lo at k3 ⊢;simp [aw] at k3;omega
    have hf:=wE (c:=c.toNat) (r:=r) (k:=i) (n:=cx c.toNat - 1) (by omega) (by rw [hb];simp only [hcb];simp [k2]);rw [hf,Bool.and_false] at hu;subst hu;exact ⟨.tup [.v (.int .i32 0),.v (.int .i64 ((i + 1:Nat):Int)),.v (.bool false)],ax,0,i + 1,rfl,fun h=>(by cases h),by omega⟩
  ·have k:r.length<=i:=by
    have:=k;have n5:(s.extract aO s.size).size=r.length + 1:=bW;simp [n5] at this;omega
   have hf:=wE (c:=c.toNat) (r:=r) (k:=i) (n:=cx c.toNat - 1) (by omega) (by rw [kE k]);rw [hf,Bool.and_false] at hu;subst hu;exact ⟨.tup [.v (.int .i32 0),.v (.int .i64 ((i + 1:Nat):Int)),.v (.bool false)],ax,0,i + 1,rfl,fun h=>(by cases h),by omega⟩
 ·have hge:i + 1=cx c.toNat:=by have:=of_decide_eq_false hL;omega
  have hu1:U=true:=by
   rw [hu,<- hge];simp [ha]
  subst hu1
  have dK:cx c.toNat<=r.length + 1:=by
   rcases Nat.lt_or_ge r.length (cx c.toNat - 1) with h | h
   ·have hf:=wE (c:=c.toNat) (r:=r) (k:=r.length) (n:=cx c.toNat - 1) h (by rw [kE (aV _)]);rw [<- hge,Nat.add_sub_cancel,ha] at hf;cases hf
   ·omega
  have hv:=hv (cx c.toNat) (by omega) hn4 dK;refine ⟨⟨by omega,by omega,by rw [bW];omega⟩,?_⟩;refine dj ab7 rfl hv ax (fun q hq=>?_);obtain ⟨z,rfl,hz⟩:=hq;rw [show tx ((s.extract (aO:Int).toNat (s.size:Int).toNat).extract 0 (cx c.toNat))=(c :: r).take (cx c.toNat) from by rw [<- hB,(by simp [tx]:∀ (B:ByteArray) k,tx (B.extract 0 k)=(tx B).take k)]] at hz;exact ⟨.tup [.v (.int .i32 z),.v (.int .i64 (cx c.toNat:Nat)),.v (.bool true)],ax,z,cx c.toNat,rfl,fun _=>⟨rfl,hz (zZ rfl)⟩,by omega⟩
theorem UY {l:List UInt8} (h:okU l=true):∃ c r,l=c :: r/\1<=cx c.toNat/\cx c.toNat<=l.length/\Aj l=cx c.toNat:=by
 cases l with
 | nil=>cases h
 | cons c r=>
  refine ⟨c,r,rfl,?_,?_,?_⟩
  ·grind [okU]
  ·have h0:=h;unfold okU at h;rw [bc] at h;rcases Nat.lt_or_ge r.length (cx c.toNat - 1) with g | g
   ·have h2:=h.2;unfold allC at h2;rw [List.all_eq_true] at h2;have:=h2 r.length (List.mem_range.2 g)
    grind
   ·rw [List.length_cons];omega
  ·show (if _ then _ else _)=_;rw [ap h]
theorem LV {l:List UInt8} (h:l ≠ []):1<=Aj l/\Aj l<=l.length:=by
 cases l with
 | nil=>exact absurd rfl h
 | cons c r=>
  show 1<=(if _ then _ else _)/\(if _ then _ else _)<=_
  grind [UY]
def headsL:Nat->List UInt8->List UInt8->Bool
 | 0,_,_=>true
 | u + 1,a,b=>decide (Aj a=Aj b) && decide (a.take (Aj a)=b.take (Aj b)) && headsL u (a.drop (Aj a)) (b.drop (Aj b))
def fT (d:Nd) (z:Int) (j:Nat):Option Ed:=if d.ag=7 then d.ai[j]? else if d.ag=8 then d.ai[z.toNat]? else d.ai[0]?
def uJ (f:Nat->Nat->Bool) (n:Nat) (d:Nd) (e:Ed) (a:Nat):Nat:=if d.ag < 7 then a else lG f n a e.label.toNat
def nZ (e:Ed) (x y:Val):Bool:=
 if e.ck=1/\x.k=2 then decide (jD x.n e.cn=jD y.n e.cn)
 else if e.ck=2/\x.k=3 then headsL e.cn.toNat (tx x.s) (tx y.s)
 else if e.ck=3/\x.k=5 then decide (x.ks.length=y.ks.length)
 else true
def JT (d:Nd) (z:Int) (j:Nat):Stp:=stpR d (.mk 0 z ay []) j
section
variable (ND:List Nd) (f:Nat->Nat->Bool) (L obs:Nat)
mutual
def diffV:Val->Val->Int->Nat->Option (List Stp)
 | .mk _ n s ks,.mk _ n' s' ks',i,a=>if n≠n' ∨ s≠s' ∨ ks.length≠ks'.length then some [] else match fQ ND i with
  | none=>none
  | some d=>diffVs ks ks' d n a 0
def diffVs:List Val->List Val->Nd->Int->Nat->Nat->Option (List Stp)
 | x :: r,y :: t,d,z,a,j=>match fT d z j with
  | none=>none
  | some e=>match (if iL f L obs d e a=2 then diffV x y e.to (uJ f L d e a) else if iL f L obs d e a=1 then (if nZ e x y=true then none else some []) else none) with
   | some p=>some (JT d z j :: p)
   | none=>diffVs r t d z a (j + 1)
 | _,_,_,_,_,_=>none
end
end
section
variable {ND:List Nd} {f:Nat->Nat->Bool} {L obs:Nat}
theorem RM {N:Nat} (aZ:∀ n∈ND,cf N ND.length n) {v:Val} {i:Int} {d:Nd} (lO:fitV ND v i=true) (hF:Ra ND v i d) {m:Nat} {x:Val} (hx:v.ks[m]? = some x) :
  ∃ e,fT d v.n m=some e/\e∈d.ai/\e.bare=false/\fitV ND x e.to=true/\Za d v m=e.to/\5<=d.ag:=by
 have hN:=aZ d (mG (fw hF.ah).2);have hm:m < v.ks.length:=(gS hx).1;have h8:=hN.k8;have h1:=hN.k1;by_cases h5:d.ag < 5
 ·rw [hF.leaf h5] at hx;cases hx
 obtain ⟨gl,hkf⟩:=hF.kids (by omega);rcases (show (d.ag=5∨d.ag=6)∨d.ag=7∨d.ag=8 by omega) with c | c | c
 ·obtain ⟨e,he,hb,_⟩:=hN.one c;have ht0:to0 d=e.to:=by unfold to0;rw [he];all_goals rfl
  have hl:(kidsL d v)[m]? = some e.to:=by grind [kidsL]
  refine ⟨e,?_,by rw [he];exact List.mem_singleton_self e,hb,oZ hkf hx hl,?_,by omega⟩
  ·grind [fT]
  ·unfold Za;rw [ht0];rcases c with c | c
   ·rw [ap c,ap];have h2:=lO;obtain ⟨q,z,s,ks⟩:=v;rw [fitV,hF.ah] at h2
    grind [gA]
   ·have:=hF.opt c;omega
 ·have KC:(kidsL d v)=d.ai.map Ed.to:=by grind [kidsL]
  have dM:m < d.ai.length:=by
   rw [KC,List.length_map] at gl;omega
  obtain ⟨e,he⟩:∃ e,d.ai[m]? = some e:=⟨_,gE dM⟩;have hl:(kidsL d v)[m]? = some e.to:=by rw [KC,List.getElem?_map,he];all_goals rfl
  have xe:=mG he;refine ⟨e,?_,xe,?_,oZ hkf hx hl,?_,by omega⟩
  ·unfold fT;rw [ap c,he]
  ·cases hb:e.bare
   ·rfl
   ·have:=hN.bare e xe hb;omega
  ·grind [Za]
 ·obtain ⟨e,ht,he,h0,aq,hb⟩:=hF.tag c
  grind [kidsL,oZ,fT,Za]
structure aee (ND:List Nd) (d:Nd) (z:Int) (j:Nat) (x:Val) (e:Ed):Prop where
 fB:fT d z j=some e
 mem:e∈d.ai
 bare:e.bare=false
 fit:fitV ND x e.to=true
 to':Za d (.mk 0 z ay []) j=e.to
theorem DG {N:Nat} (aZ:∀ n∈ND,cf N ND.length n) {v:Val} {i:Int} {d:Nd} (lO:fitV ND v i=true) (hF:Ra ND v i d) {m:Nat} {x:Val} (hx:v.ks[m]? = some x):∃ e,aee ND d v.n m x e:=by
 obtain ⟨e,h1,h2,h3,h4,h5,_⟩:=RM aZ lO hF hx;exact ⟨e,⟨h1,h2,h3,h4,h5⟩⟩
theorem aef {N:Nat} {d:Nd} {e:Ed} (hN:cf N ND.length d) (he:e∈d.ai) (hb:e.bare=false):0<=e.to/\∃ d',fQ ND e.to=some d':=by
 obtain ⟨k,hk,aq⟩:=(hN.fB e he).to1 hb;refine ⟨by omega,ND[k],?_⟩
 grind [fQ]
end
section
variable (ND:List Nd) (f:Nat->Nat->Bool) (L obs:Nat)
end
section
variable {ND:List Nd} {f:Nat->Nat->Bool} {L obs:Nat}
theorem UZ (d:Nd) (e:Ed) (a:Nat):iL f L obs d e a=if f (uJ f L d e a) obs=true then 2 else if e.ck≠0/\f (lG f L a e.seen.toNat) obs=true then 1 else 0:=rfl
theorem U0 {N:Nat} {d:Nd} {e:Ed} {a:Nat} (hL:dA f L) (hN:cf L N d) (hm:e∈d.ai) (ha:a < L):uJ f L d e a < L:=by
 obtain ⟨k,hk,hl⟩:=(hN.fB e hm).lab;unfold uJ;split
 ·exact ha
 ·exact nJ hL ha (by rw [hk,eH];exact hl)
theorem U1 {N:Nat} {d:Nd} {e:Ed} {a:Nat} (hL:dA f L) (hN:cf L N d) (hm:e∈d.ai) (ha:a < L):lG f L a e.seen.toNat < L:=by
 obtain ⟨k,hk,hl⟩:=(hN.fB e hm).seen;exact nJ hL ha (by rw [hk,eH];exact hl)
end
def fM (D:List Nat) (e:Ed):Bool:=e.bare || decide (0 < cz D e)
def manyN (D:List Nat) (es:List Ed):Nat:=es.countP (fM D)
def RN (D:List Nat) (K:List Bool) (e:Ed):Bool:=fM D e && (!e.bare && K.getD e.to.toNat false)
def j8 (D:List Nat) (K:List Bool) (es:List Ed):Bool:=es.any (RN D K)
def eW (n:Nd) (D:List Nat) (K:List Bool):Bool:=
 if n.ag=1 then true
 else if n.ag=2 then decide (n.lo < n.hi)
 else if n.ag=3 then decide (0 < n.most)
 else if n.ag=4 then decide (1 < n.af.length)
 else if n.ag=5 then decide (0 < n.most) && decide (0 < manyN D n.ai)
 else if n.ag=6 then decide (0 < manyN D n.ai)
 else if n.ag=7 then j8 D K n.ai && decide (manyN D n.ai=n.ai.length)
 else j8 D K n.ai || decide (1 < manyN D n.ai)
def sevN (ND:List Nd) (D:List Nat):Nat->List Bool
 | 0=>List.replicate ND.length false
 | t + 1=>ND.map fun n=>eW n D (sevN ND D t)
theorem sevN_len (ND:List Nd) (D:List Nat):∀ t,(sevN ND D t).length=ND.length
 | 0=>by simp [sevN]
 | t + 1=>by simp [sevN]
theorem sevN_get (ND:List Nd) (D:List Nat) (t j:Nat):(sevN ND D (t + 1)).getD j false=match ND[j]? with | none=>false | some n=>eW n D (sevN ND D t):=by grind [sevN]
theorem RO {D:List Nat} {A B:List Bool} (h:A0 A B) {es:List Ed} (hm:j8 D A es=true):j8 D B es=true:=by
 unfold j8 at hm ⊢;rw [List.any_eq_true] at hm ⊢;obtain ⟨e,he,h1⟩:=hm;refine ⟨e,he,?_⟩;unfold RN at h1 ⊢;simp only [bc] at h1 ⊢;exact ⟨h1.1,h1.2.1,h _ h1.2.2⟩
theorem DH {D:List Nat} {A B:List Bool} (h:A0 A B) (n:Nd) (hm:eW n D A=true):eW n D B=true:=by grind [eW,RO]
theorem sevN_le (ND:List Nd) (D:List Nat):∀ t,A0 (sevN ND D t) (sevN ND D (t + 1))
 | 0=>fun j h=>by grind [sevN]
 | t + 1=>fun j h=>by
  rw [sevN_get] at h ⊢
  cases hn:ND[j]? with
  | none=>rw [hn] at h;cases h
  | some n=>
   rw [hn] at h;exact DH (sevN_le ND D t) n h
theorem sevN_step (ND:List Nd) (D:List Nat):∀ t,sevN ND D (t + 1)=sevN ND D t∨t<=kV (sevN ND D t)
 | 0=>.inr (Nat.zero_le _)
 | t + 1=>by
  rcases sevN_step ND D t with h | h
  ·grind [eW,sevN]
  ·rcases (leB_eq (by rw [sevN_len,sevN_len]) (sevN_le ND D t)).1 with h2 | h2
   ·grind [eW,sevN]
   ·exact .inr (by omega)
theorem RP (ND:List Nd) (D:List Nat):sevN ND D (ND.length + 1)=sevN ND D ND.length:=by grind [sevN_step,leB_eq,sevN_len,sevN_le,cntB_le,sevN]
def nP (ND:List Nd) (D:List Nat):List Bool:=sevN ND D ND.length
theorem zm (ND:List Nd) (D:List Nat):(ND.map fun n=>eW n D (nP ND D))=nP ND D:=RP ND D
theorem vm {ND:List Nd} {D:List Nat} {K:List Bool} (h:∀ j n,ND[j]? = some n->eW n D K=true->K.getD j false=true):∀ t,A0 (sevN ND D t) K
 | 0=>fun j hj=>by grind [sevN]
 | t + 1=>fun j hj=>by
  rw [sevN_get] at hj
  cases hn:ND[j]? with
  | none=>rw [hn] at hj;cases hj
  | some n=>
   rw [hn] at hj;exact h j n hn (DH (vm h t) n hj)
theorem U2 {ND:List Nd} {D:List Nat} {K:List Bool} (hl:K.length=ND.length) (h1:A0 K (nP ND D)) (h:∀ j n,ND[j]? = some n->eW n D K=true->K.getD j false=true):K=nP ND D:=
 yg (by rw [hl,nP,sevN_len]) h1 (vm h _)
theorem RQ {ND:List Nd} {D:List Nat} {K:List Bool} (h1:A0 K (nP ND D)) {i:Nat} {n:Nd} (hn:ND[i]? = some n) (h2:eW n D K=true):A0 (K.set i true) (nP ND D):=fun j hj=>by
 by_cases l9:i=j
 ·subst l9;have:=DH h1 n h2;have h3:=sevN_get ND D ND.length i
  grind [zm,sevN]
 ·refine h1 j ?_
  grind
theorem RS {K:List Bool} {i:Nat} (hi:i < K.length) (h:K.getD i false=false):kV K < kV (K.set i true):=by
 have fb:A0 K (K.set i true):=fun j hj=>by grind
 rcases (leB_eq (by simp) fb).1 with h2 | h2
 all_goals grind
theorem Zx {D:List Nat} {S:List Bool} {e:Ed} (h:RN D S e=true):fM D e=true:=by grind [RN]
theorem zn {L N:Nat} {n:Nd} {D:List Nat} {S:List Bool} (hn:cf L N n) (h:eW n D S=true):0 < bF n D:=by
 have kh:=hn.k1;have Gi:=hn.k8;unfold eW at h;unfold bF;by_cases c7:n.ag=7
 ·rw [ap c7];simp only [c7] at h;simp only [Int.reduceEq,if_false,if_true,bc,decide_eq_true_eq] at h;have h2:=h.2;unfold manyN at h2;rw [List.countP_eq_length] at h2;refine Nat.pos_of_ne_zero fun h0=>?_;obtain ⟨e,he,hz⟩:=jS.1 h0;have:=h2 e he;unfold fM at this
  have hb:e.bare=false:=by
   cases hb:e.bare
   ·rfl
   ·have:=hn.bare e he hb;omega
  rw [hb,hz] at this;simp at this
 rw [aj c7];by_cases c8:n.ag=8
 ·rw [ap c8];simp only [c8] at h;simp only [Int.reduceEq,if_false,Bool.or_eq_true,decide_eq_true_eq] at h;refine lg.2 (.inr ?_)
  have key:∀ e∈n.ai,fM D e=true->n.ai.any (tg (posL D))=true:=fun e he ht=>by
   rw [List.any_eq_true];refine ⟨e,he,?_⟩;unfold tg;have:(posL D).getD e.to.toNat false=decide (0 < cz D e):=jT D _;rw [this];exact ht
  rcases h with h | h
  ·grind [j8,Zx]
  ·have h:0 < manyN D n.ai:=by omega
   unfold manyN at h;rw [List.countP_pos_iff] at h;obtain ⟨e,he,ht⟩:=h;exact key e he ht
 ·rw [aj c8];omega
theorem JU {L:Nat} (D:List Nat) {x:Ed} (hx:Y7 L D.length x) :
  EvP prog 270 [.agg (C4 x),.pt [.sl 1 (dInts D) none] 0] (.v (.bool (fM D x))):=by
 refine eG 14 [.tmp 3] func270 rfl ntmps270 rfl fun _ _ _ _=>?_;refine br ?_ ?_<;>intro hb
 ·have hb:x.bare=false:=sU hb;obtain ⟨k,hk,gl⟩:=hx.to1 hb;obtain ⟨z,hz⟩:∃ z,D[k]? = some z:=⟨_,gE gl⟩;refine ⟨_,⟨by omega,by rw [hk];exact aR hz⟩,?_⟩;refine (bP ?_:);simp [fM,hb,cz,hk,bN,hz,pickB]
 ·have hb:x.bare=true:=sU hb;refine (bP ?_:);simp [fM,hb,pickB]
abbrev aeg (D:List Nat) (K:List Bool) (n:Nd) (m:Nat) (b:Bool) (e:Nat):St:=
 ⟨[aM 2 1 (rr K),aE 3 0,(7,⟨[],.fn 270 [] [.loc 1 0]⟩),au 8 m,qN 9 b,aM 14 10 (dT n.ai),au 15 ((dT n.ai).length),au 16 e],[j5 n,[.sl 1 (dInts D) none]],[]⟩
theorem DI {L:Nat} {n:Nd} (D:List Nat) (K:List Bool) (hl:K.length=D.length) (hD:D.length<=1099511627776) (hn:cf L D.length n) (kM:n.ai.length<=1099511627776) :
  EvP prog 235 [.agg (j5 n),.sl 1 (dInts D) none,.sl 1 (rr K) none] (.v (.bool (eW n D K))):=by
 have bR:=hn.fB;have kh:=hn.k1;have Gi:=hn.k8;obtain ⟨ag,aO,lo,hi,most,af,es⟩:=n;simp only at bR kM kh Gi;refine eG 89 [.tmp 6] func235 rfl ntmps235 rfl fun _ _ _ _=>?_;refine aY (fun j st=>∃ e:Nat,st=aeg D K ⟨ag,aO,lo,hi,most,af,es⟩ (manyN D (es.take e)) (j8 D K (es.take e)) e/\e<=es.length/\j=es.length - e) es.length (aeg D K ⟨ag,aO,lo,hi,most,af,es⟩ 0 false 0) (bz wB) ⟨0,by simp [manyN,j8],by omega,by omega⟩ ?_;rintro j st ⟨e,rfl,he,rfl⟩;refine br ?_ ?_<;>intro hL
 ·have aq:e < es.length:=by have:=hL;simp [bw] at this;exact this
  obtain ⟨x,hx⟩:=gX aq;have Oh:=bR x (mG hx);have HI:=JU D Oh
  have hm:manyN D (es.take (e + 1))=manyN D (es.take e) + if fM D x=true then 1 else 0:=by
   rw [List.take_add_one,hx];simp [manyN,List.countP_cons]
  have U3:j8 D K (es.take (e + 1))=(j8 D K (es.take e) || RN D K x):=by
   rw [List.take_add_one,hx];simp [j8]
  have dM:manyN D (es.take e)<=e:=by
   have:manyN D (es.take e)<=(es.take e).length:=List.countP_le_length;rw [zLenT] at this;omega
  refine iX (aS hx) ?_;refine pH abS HI ax rfl rfl ?_;refine br ?_ ?_<;>intro ht
  ·have ht:fM D x=true:=ht;rw [ap ht] at hm;have hw:IntKind.i64.wrap (((manyN D (es.take e):Nat):Int) + 1)=((manyN D (es.take (e + 1)):Nat):Int):=by rw [hm,wrap64 (by omega) (by omega)];omega
   have iQ:RN D K x=(!x.bare && K.getD x.to.toNat false):=by unfold RN;rw [ht,Bool.true_and]
   rw [iQ] at U3;refine br ?_ ?_<;>intro g1
   ·have g1:j8 D K (es.take e)=false:=by simpa [lastG] using g1
    refine br ?_ ?_<;>intro g2
    ·have g2:x.bare=false:=sU g2;obtain ⟨k,hk,gl⟩:=Oh.to1 g2;obtain ⟨z,hz⟩:∃ z,K[k]? = some z:=⟨_,gE (by omega)⟩;refine ⟨_,⟨by omega,by rw [hk];exact sq hz⟩,?_⟩;have e9:z=j8 D K (es.take (e + 1)):=by rw [U3,g1,g2,hk];simp [bN,hz]
     exact rE ⟨_,by omega,e + 1,rfl,by omega,rfl⟩ (bz (H2 hw e9 (aG aq (by omega))))
    ·have g2:x.bare=true:=sU g2;have e9:false=j8 D K (es.take (e + 1)):=by rw [U3,g1,g2];all_goals rfl
     exact rE ⟨_,by omega,e + 1,rfl,by omega,rfl⟩ (bz (H2 hw e9 (aG aq (by omega))))
   ·have g1:j8 D K (es.take e)=true:=by simpa [lastG] using g1
    have e9:true=j8 D K (es.take (e + 1)):=by rw [U3,g1];all_goals rfl
    exact rE ⟨_,by omega,e + 1,rfl,by omega,rfl⟩ (bz (H2 hw e9 (aG aq (by omega))))
  ·have ht:fM D x=false:=ht;rw [aj (by rw [ht];simp),Nat.add_zero] at hm;have iQ:RN D K x=false:=by unfold RN;rw [ht];all_goals rfl
   rw [iQ,Bool.or_false] at U3;exact rE ⟨_,by omega,e + 1,rfl,by omega,rfl⟩ (bz (H2 hm.symm U3.symm (aG aq (by omega))))
 ·have hge:e=es.length:=by have:=hL;simp [bw] at this;omega
  subst hge;rw [List.take_length];refine br ?_ ?_<;>intro c1
  ·have c1:ag=1:=sU c1;refine (bP ?_:);simp [eW,c1]
  have c1:¬ ag=1:=sU c1;refine br ?_ ?_<;>intro c2
  ·have c2:ag=2:=sU c2;refine (bP ?_:);simp [eW,c2]
  have c2:¬ ag=2:=sU c2;refine br ?_ ?_<;>intro c3
  ·have c3:ag=3:=sU c3;refine (bP ?_:);simp [eW,c3]
  have c3:¬ ag=3:=sU c3;refine br ?_ ?_<;>intro c4
  ·have c4:ag=4:=sU c4;refine (bP ?_:);simp [eW,c4,cG];omega
  have c4:¬ ag=4:=sU c4;refine br ?_ ?_<;>intro c5
  ·have c5:ag=5:=sU c5;refine (bP ?_:);simp [eW,c5,av]
  have c5:¬ ag=5:=sU c5;refine br ?_ ?_<;>intro c6
  ·have c6:ag=6:=sU c6;refine (bP ?_:);simp [eW,c6]
  have c6:¬ ag=6:=sU c6;refine br ?_ ?_<;>intro c7
  ·have c7:ag=7:=sU c7;refine (bP ?_:);rw [Bool.eq_iff_iff];simp [eW,c7,av,bw];omega
  have c7:¬ ag=7:=sU c7;refine (bP ?_:);rw [Bool.eq_iff_iff];have Mp:(1 < ((manyN D es:Nat):Int))↔1 < manyN D es:=by omega
  simp [eW,c1,c2,c3,c4,c5,c6,c7,aw,Mp]
abbrev RT (ND:List Nd) (D:List Nat) (K:List Bool) (c:Bool):St:=
 ⟨[aM 3 7 (bG ND),aM 4 1 (dInts D),(5,⟨[],.ms 0 1 0 (bG ND).length (bG ND).length⟩),qN 6 c],[cB K],[]⟩
abbrev LW (ND:List Nd) (D:List Nat) (K:List Bool) (c:Bool) (e:Nat):St:=
 ⟨[aM 3 7 (bG ND),aM 4 1 (dInts D),(5,⟨[],.ms 0 1 0 (bG ND).length (bG ND).length⟩),qN 6 c,aM 17 7 (bG ND),au 18 ((bG ND).length),au 19 e],[cB K],[]⟩
theorem DJ {L:Nat} {ND:List Nd} {p:DV} (h0:EvP prog 233 [p] (.sl 7 (bG ND) none)) (h1:EvP prog 170 [p] (.sl 1 (dInts (depN ND ND.length)) none)) (aZ:∀ n∈ND,cf L ND.length n) (fI:ND.length<=1099511627776) (bW:∀ n∈ND,n.ai.length<=1099511627776) (qJ:∀ bx N n m,Cc bx N n m p p) :
  EvP prog 171 [p] (.sl 1 (rr (nP ND (depN ND ND.length))) none):=by
 have cu:=eT ND;have hl:=depN_len ND ND.length;generalize depN ND ND.length=D at h1 hl ⊢;refine eG 40 [.tmp 2] func171 rfl ntmps171 rfl fun _ _ _ _=>?_;refine cP V6 h0 ?_ (mc qJ);refine cP VR h1 ?_ (mc qJ);refine ⟨⟨rfl,by omega,by rw [cu];omega,by rw [cu];omega⟩,?_⟩;refine aY (fun j st=>∃ (K:List Bool) (c:Bool),st=RT ND D K c/\K.length=ND.length/\A0 K (nP ND D)/\(c=false->∀ j n,ND[j]? = some n->eW n D K=true->K.getD j false=true)/\j=ND.length - kV K + if c=true then 1 else 0) (ND.length + 1) (RT ND D (List.replicate ((bG ND).length:Int).toNat false) true) (bZ 1 (by repeat' (first | exact rfl | exact aA rfl | exact cE (FY _) | refine ⟨_,_,rfl,?_,?_⟩)) (by repeat' (first | exact trivial | exact aA rfl | exact cE (FY _) | refine ⟨⟨_,rfl,?_⟩,?_⟩))) ⟨_,_,rfl,?_,?_,by simp,?_⟩ ?_
 ·rw [List.length_replicate,cu];omega
 ·intro j hj;rw [bN,List.getElem?_replicate] at hj;split at hj<;>cases hj
 ·have:kV (List.replicate ((bG ND).length:Int).toNat false)=0:=by unfold kV;rw [List.countP_replicate];simp
  rw [this];simp
 rintro j st ⟨K,c,rfl,hK,fb,fU,rfl⟩;refine br ?_ ?_<;>intro hc
 ·have hc:c=true:=hc;subst hc;refine lI (fun j st=>∃ (e:Nat) (K':List Bool) (c':Bool),st=LW ND D K' c' e/\e<=ND.length/\K'.length=ND.length/\A0 K' (nP ND D)/\(c'=true->kV K < kV K')/\(c'=false->K'=K/\∀ i n,i < e->ND[i]? = some n->eW n D K=true->K.getD i false=true)/\j=ND.length - e) ⟨0,K,false,rfl,by omega,hK,fb,by simp,fun _=>⟨rfl,fun i _ hi=>by omega⟩,rfl⟩ (bZ 1 qL lj) ?_;rintro j st ⟨e,K',c',rfl,he,hK',U4,ht,hf,rfl⟩;refine br ?_ ?_<;>intro hL
  ·have aq:e < ND.length:=by have:=hL;simp [cu] at this;exact this
   obtain ⟨n,hn⟩:=gX aq;have sI:=mG hn;obtain ⟨b,hb⟩:∃ b,K'[e]? = some b:=⟨_,gE (by omega)⟩;have qc:=DI D K' (by omega) (by omega) (n:=n) (by rw [hl];exact aZ n sI) (bW n sI);refine iX (eB hn) ?_;refine ⟨⟨by omega,by rw [cu];omega⟩,?_⟩;refine ⟨DV.v (.bool b),(by rw [show 0 + (e:Int).toNat * 1=e by omega];exact I9 hb),?_⟩;have Mk:K'.getD e false=b:=by rw [bN,hb];all_goals rfl
   have hcd:kV K<=kV K':=by grind
   refine br ?_ ?_<;>intro g
   ·have g:b=false:=sU g;refine pH abI qc ⟨_,_,rfl,ax,_,_,rfl,ax,_,_,rfl,Uy (by rw [hK',cu]) (aV _) rfl,rfl⟩ rfl rfl ?_;refine br ?_ ?_<;>intro g2
    ·have g2:eW n D K'=true:=by simpa [pickB,pickD] using g2
     refine ⟨⟨by omega,by rw [cu];omega⟩,?_⟩;refine ⟨by rw [q6];omega,?_⟩;have aW:(cB K').set (0 + (e:Int).toNat * 1) (DV.v (.bool true))=cB (K'.set e true):=by grind [yF]
     have hcs:=RS (K:=K') (i:=e) (by omega) (by rw [Mk];exact g);exact ⟨LW ND D (K'.set e true) true (e + 1),(bZ 1 (lY aW (aG aq (by omega))) (wB2 aW (aG aq (by omega)))),ND.length - (e + 1),by omega,e + 1,_,true,rfl,by omega,by rw [List.length_set];exact hK',RQ U4 hn g2,fun _=>by omega,fun h=>(by cases h),rfl⟩
    ·have g2:eW n D K'=false:=by simpa [pickB,pickD] using g2
     refine ⟨LW ND D K' c' (e + 1),(bZ 1 (jM (aG aq (by omega))) (cJ (aG aq (by omega)))),ND.length - (e + 1),by omega,e + 1,K',c',rfl,by omega,hK',U4,ht,fun hc=>⟨(hf hc).1,fun i m hi hm hs=>?_⟩,rfl⟩;rcases jJ hi with hi | rfl
     ·exact (hf hc).2 i m hi hm hs
     ·grind
   ·have g:b=true:=sU g;refine ⟨LW ND D K' c' (e + 1),(bZ 1 (jM (aG aq (by omega))) (cJ (aG aq (by omega)))),ND.length - (e + 1),by omega,e + 1,K',c',rfl,by omega,hK',U4,ht,fun hc=>⟨(hf hc).1,fun i m hi hm hs=>?_⟩,rfl⟩;rcases jJ hi with hi | rfl
    ·exact (hf hc).2 i m hi hm hs
    ·rw [<- (hf hc).1,Mk];exact g
  ·have hge:e=ND.length:=sW cu hL;subst hge;have hcn:=cntB_le K';refine ⟨RT ND D K' c',(v8 ⟨_,rfl⟩ qL rfl rfl rfl lj),ND.length - kV K' + (if c'=true then 1 else 0),?_,K',c',rfl,hK',U4,?_,rfl⟩
   ·grind
   ·grind
 ·have hc:c=false:=hc;rw [<- U2 hK fb (fU hc)];exact ⟨_,Uy (by rw [hK,cu]) (Nat.zero_le _) rfl,rfl⟩
theorem Ak {S:Sch} {ND:List Nd} {PC:List DV} (hP:dX S ND PC):EvP prog 171 [.pt PC 0] (.sl 1 (rr (nP ND (depN ND ND.length))) none):=
 DJ (sG hP) (vj hP) hP.ok hP.nl hP.S1 fun _ _ _ _=>ax
theorem sM {L:List Nat} {i e v:Nat} (he:e < L.length):(L.set e v).getD i 0=if i=e then v else L.getD i 0:=by grind
def tj (D:List Nat) (e:Ed):Nat:=if e.bare=true then 0 else cz D e
def minP (D:List Nat) (es:List Ed) (k:Nat):Bool:=match es[k]? with | some e=>fM D e && es.all (fun x=>!fM D x || decide (tj D e<=tj D x)) | none=>false
def bL (D:List Nat) (es:List Ed):Option Nat:=bM (minP D es) es.length
theorem sN {D:List Nat} {es:List Ed} {k:Nat}:minP D es k=true↔∃ e,es[k]? = some e/\fM D e=true/\∀ x∈es,fM D x=true->tj D e<=tj D x:=by grind [minP,fM]
theorem BL {D:List Nat} {es:List Ed} {k:Nat} {e:Ed} (h:es[k]? = some e) (ht:fM D e=true) (h1:∀ x∈es,fM D x=true->tj D e<=tj D x) (h2:∀ j x,j < k->es[j]? = some x->fM D x=true->tj D e < tj D x):bL D es=some k:=by
 refine bU (gS h).1 (sN.2 ⟨e,h,ht,h1⟩) fun j hj=>?_
 grind [minP]
theorem GM {D:List Nat} {es:List Ed} (h:∀ x∈es,fM D x=false):bL D es=none:=by
 refine cK fun j _=>?_
 grind [minP]
theorem GN {D:List Nat} {es:List Ed} {k:Nat} (h:bL D es=some k):∃ e,es[k]? = some e/\fM D e=true/\∀ x∈es,fM D x=true->tj D e<=tj D x:=sN.1 (bV h).2.1
theorem NO {D:List Nat}:∀ (m:Nat) {es:List Ed} {x:Ed},x∈es->fM D x=true->tj D x<=m->∃ k,bL D es=some k:=by
 intro m
 induction m with
 | zero=>
  intro es x hx ht hm
  cases hc:bL D es with
  | some k=>exact ⟨k,rfl⟩
  | none=>
   obtain ⟨j,hj,rfl⟩:=List.getElem_of_mem hx;have:=cr hc j hj;rw [sN.2 ⟨_,gE hj,ht,fun y _ _=>by omega⟩] at this;cases this
 | succ m ih=>
  intro es x hx ht hm;by_cases hy:∃ y∈es,fM D y=true/\tj D y<=m
  ·obtain ⟨y,h1,h2,h3⟩:=hy;exact ih h1 h2 h3
  ·cases hc:bL D es with
   | some k=>exact ⟨k,rfl⟩
   | none=>
    obtain ⟨j,hj,rfl⟩:=List.getElem_of_mem hx;have:=cr hc j hj
    rw [sN.2 ⟨_,gE hj,ht,fun y h1 h2=>by
     refine Nat.le_of_not_lt fun h=>hy ⟨y,h1,h2,by omega⟩⟩] at this
    cases this
def vn (D:List Nat) (es:List Ed) (k:Nat):Bool:=decide (bL D es≠some k) && (match es[k]? with | some e=>fM D e | none=>false)
def lN (D:List Nat) (es:List Ed):Option Nat:=bM (vn D es) es.length
theorem sO {D:List Nat} {es:List Ed} {k:Nat} {e:Ed} (h:es[k]? = some e):vn D es k=(decide (bL D es≠some k) && fM D e):=by unfold vn;rw [h]
theorem pU {D:List Nat} {es:List Ed} {k:Nat} (h:lN D es=some k):∃ e,es[k]? = some e/\fM D e=true:=by
 obtain ⟨h1,h2,_⟩:=bV h;have he:=gE h1
 grind [sO]
theorem NP {D:List Nat} {es:List Ed} (h:lN D es=none) {k:Nat} {e:Ed} (he:es[k]? = some e) (ht:fM D e=true):bL D es=some k:=by
 have:=cr h k (gS he).1
 grind [sO]
def RU (K:List Bool) (es:List Ed) (k:Nat):Bool:=match es[k]? with | some e=>K.getD e.to.toNat false | none=>false
def GO (K:List Bool) (es:List Ed):Option Nat:=bM (RU K es) es.length
def cg (n:Nat):Nat:=min n 4097
theorem iM (n:Nat):cg n<=4097:=Nat.min_le_right _ _
def dq (sz:List Nat) (e:Ed):Nat:=if e.bare=true then 0 else cz sz e
def sumX (sz:List Nat) (aO:Int):List Ed->Nat->Nat->Nat
 | [],_,n=>n
 | e :: r,i,n=>sumX sz aO r (i + 1) (if (i:Int)=aO then n else cg (n + dq sz e))
theorem pV {sz:List Nat} {c:Int}:∀ {es:List Ed} {i n:Nat},n<=4097->sumX sz c es i n<=4097
 | [],_,_,h=>h
 | e :: r,i,n,h=>by
  rw [sumX];refine pV ?_;split
  ·exact h
  ·exact iM _
theorem ko {sz:List Nat} {c:Int}:∀ {es:List Ed} {i n:Nat},n<=4097->n<=sumX sz c es i n
 | [],_,_,_=>aV _
 | e :: r,i,n,h=>by
  rw [sumX];split
  ·exact ko h
  ·refine Nat.le_trans ?_ (ko (iM _));unfold cg;omega
theorem BM (sz:List Nat) (c:Int):∀ (es:List Ed) (e:Ed) (i n:Nat),sumX sz c (es ++ [e]) i n=if ((i + es.length:Nat):Int)=c then sumX sz c es i n else cg (sumX sz c es i n + dq sz e)
 | [],e,i,n=>by simp [sumX]
 | x :: r,e,i,n=>by
  rw [List.cons_append,sumX,BM sz c r,sumX,List.length_cons,show i + 1 + r.length=i + (r.length + 1) by omega]
def sizeF (sz D:List Nat) (n:Nd):Nat:=
 if n.ag=7 then sumX sz (-1) n.ai 0 1
 else if n.ag=8 then (match bL D n.ai with | some c=>(match n.ai[c]? with | some e=>cg (1 + dq sz e) | none=>1) | none=>1)
 else 1
def iu (sz D:List Nat) (K:List Bool) (n:Nd):Nat × Option Nat:=
 if n.ag=5∨n.ag=6 then (match n.ai[0]? with | some e=>(cg (1 + dq sz e),none) | none=>(1,none))
 else if n.ag=7 then (match GO K n.ai with | some c=>(match n.ai[c]? with | some e=>(sumX sz c n.ai 0 1,some e.to.toNat) | none=>(1,none)) | none=>(1,none))
 else if n.ag=8 then (match lN D n.ai with
  | some c=>(match n.ai[c]? with | some e=>(cg (1 + dq sz e),none) | none=>(1,none))
  | none=>(match bL D n.ai with | some c=>(match n.ai[c]? with | some e=>(1,some e.to.toNat) | none=>(1,none)) | none=>(1,none)))
 else (1,none)
def othE (t:List Nat) (k:Nat × Option Nat):Nat:=match k.2 with
 | none=>k.1
 | some j=>if t.getD j 0=0 then 0 else cg (k.1 + t.getD j 0)
theorem GP (sz D:List Nat) (K:List Bool) (n:Nd):1<=(iu sz D K n).1/\(iu sz D K n).1<=4097:=by grind [cg,dq,sumX,ko,pV,iu]
end Go.Proofs.YtgjagnmeonoehaaGreat
set_option maxRecDepth 100000
namespace Go.Proofs.YtgjagnmeonoehaaGreat
open Go Go.RowKit
namespace Dv
def putN (sl:List (Nat × Sl)) (dst:Option Nat) (gs:List (Nat × Bool)) (s:DV) (K:List (Nat × Sl)->Prop):Prop:=
 match dst with
 | none=>K sl
 | some d=>K ((d,⟨gs,s⟩) :: sl)
def effN (X:Ctx) (bx:List (List DV)) (sl:List (Nat × Sl)) (op:Op) (K:DV->Prop):Prop:=
 match isL op with
 | true=>optP (effR X ⟨sl,bx,[]⟩ op K)
 | false=>optP (effR X ⟨sl,[],[]⟩ op K)
def goN (X:Ctx) (ops:Array Oper) (bx:List (List DV)) (F:List (Nat × Sl)->Prop):Nat->List Oper->List (Nat × Sl)->Prop
 | _,[],sl=>F sl
 | 0,_ :: _,_=>False
 | n + 1,o :: r,sl=>
  match eJ X.nt sl o.dst with
  | false=>False
  | true=>
   match isE o.op with
   | true=>False
   | false=>
    match o.guard with
    | none=>
     match pureT X.P X.T ⟨sl,bx,[]⟩ [] o.op with
     | some s=>putN sl o.dst [] s (goN X ops bx F n r)
     | none=>
      match isL o.op || (pureT X.P X.T ⟨sl,[],[]⟩ [] o.op).isNone with
      | false=>False
      | true=>effN X bx sl o.op fun s=>putN sl o.dst [] s (goN X ops bx F n r)
    | some (j,want)=>
     match gslot ops.toList j with
     | none=>False
     | some d=>
      match get sl d with
      | none=>False
      | some ⟨iN,_⟩=>
       match pureT X.P X.T ⟨sl,bx,[]⟩ ((d,want) :: iN) o.op with
       | some s=>
        match okG ((d,want) :: iN) o.dst with
        | true=>putN sl o.dst ((d,want) :: iN) s (goN X ops bx F n r)
        | false=>False
       | none=>
        match isL o.op || (pureT X.P X.T ⟨sl,[],[]⟩ ((d,want) :: iN) o.op).isNone with
        | false=>False
        | true=>
         match get sl (lastG (d,want) iN).1 with
         | some ⟨[],.v (.bool b)⟩=>
          match iN with
          | []=>Br (b == want)
            (resL d want sl fun s2=>effN X bx s2 o.op fun s=>putN s2 o.dst [] s (goN X ops bx F n r))
            (resL d (!want) sl fun s2=>putN s2 o.dst [] .ud (goN X ops bx F n r))
          | _ :: _=>Br (b == (lastG (d,want) iN).2)
            (resL (lastG (d,want) iN).1 (lastG (d,want) iN).2 sl fun s2=>goN X ops bx F n (o :: r) s2)
            (resL (lastG (d,want) iN).1 (!(lastG (d,want) iN).2) sl fun s2=>goN X ops bx F n (o :: r) s2)
         | some ⟨[],.ud⟩=>
          match iN with
          | []=>putN sl o.dst [] .ud (goN X ops bx F n r)
          | _ :: _=>False
         | _=>False
section
variable {X:Ctx} {ops:Array Oper} {bx:List (List DV)} {tk:List TkE} {W:Nat->Bool} {k:List It} {s00:List (Nat × Sl)} {t00:List TkE}
theorem putN_2 {sl:List (Nat × Sl)} {dst:Option Nat} {gs:List (Nat × Bool)} {s:DV} {K:List (Nat × Sl)->Prop} {K2:List (Nat × Sl)->St->Prop} (h:putN sl dst gs s K) (hK:∀ l,K l->K2 l ⟨l,bx,tk⟩):put2 sl ⟨sl,bx,tk⟩ dst true gs s K2:=by
 cases dst with
 | none=>exact hK _ h
 | some d=>exact hK _ h
theorem BN {st:St} {op:Op} {K K2:DV->Prop} (hK:∀ s,K s->K2 s):optP (effR X st op K)->optP (effR X st op K2):=by
 unfold effR
 repeat' split
 all_goals first | exact id | exact fun h=>⟨h.1,hK _ h.2⟩ | exact fun ⟨d,h⟩=>⟨d,h.1,hK _ h.2⟩
theorem RW {sl:List (Nat × Sl)} {op:Op} {K:DV->Prop} {K2:Bool->DV->Prop} {D:Dr} (hb:D.jG.bx=bx) (hE:isE op=false) (hK:∀ s,K s->K2 true s) (h:effN X bx sl op K):optP (eR X D true sl ⟨sl,bx,tk⟩ op K2):=by
 unfold effN at h;unfold eR;rw [hE];simp only
 cases hl:isL op with
 | true=>grind [BN]
 | false=>
  rw [hl] at h;simp only at h ⊢;have:=BN hK h
  cases hq:effR X ⟨sl,[],[]⟩ op (K2 true) with
  | none=>rw [hq] at this;exact this.elim
  | some p=>rw [hq] at this;exact this
theorem RX (jG:St) (hb:jG.bx=bx):∀ (n:Nat) (r:List Oper) (i:Nat) (sl:List (Nat × Sl)),goN X ops bx (fun sl=>go X 4000 k ⟨sl,bx,tk⟩) n r sl->goD X ⟨ops,W,k,jG,none⟩ n true (nOps i r) sl ⟨sl,bx,tk⟩
 | 0,[],i,sl,h=>h
 | n + 1,[],i,sl,h=>h
 | 0,_ :: _,_,_,h=>h.elim
 | n + 1,o :: r,i,sl,h=>by
  have ih:=RX jG hb n r (i + 1);have ih2:=RX jG hb n (o :: r) i;show goD X ⟨ops,W,k,jG,none⟩ (n + 1) true ((i,o) :: nOps (i + 1) r) sl ⟨sl,bx,tk⟩;simp only [goN] at h;simp only [goD]
  cases aZ:eJ X.nt sl o.dst with
  | false=>rw [aZ] at h;exact h.elim
  | true=>
  rw [aZ] at h;simp only [Bool.and_self] at h ⊢
  cases hE:isE o.op with
  | true=>rw [hE] at h;exact h.elim
  | false=>
  rw [hE] at h;simp only at h ⊢;have hpR1:∀ G s,pureT X.P X.T ⟨sl,bx,[]⟩ G o.op=some s->pR X ⟨ops,W,k,jG,none⟩ true sl ⟨sl,bx,tk⟩ G o.op=some (true,s):=fun G s hs=>by grind [pR]
  have hpR0:∀ G,pureT X.P X.T ⟨sl,bx,[]⟩ G o.op=none->(isL o.op || (pureT X.P X.T ⟨sl,[],[]⟩ G o.op).isNone)=true->pR X ⟨ops,W,k,jG,none⟩ true sl ⟨sl,bx,tk⟩ G o.op=none:=fun G hs h2=>by grind [pR,isL]
  cases hg:o.guard with
  | none=>grind [pureT,putN_2,isL,RW]
  | some jw=>
   obtain ⟨j,want⟩:=jw;rw [hg] at h;simp only at h ⊢
   cases Hw:gslot ops.toList j with
   | none=>rw [Hw] at h;exact h.elim
   | some d=>
   rw [Hw] at h;simp only at h ⊢
   cases hd:get sl d with
   | none=>rw [hd] at h;exact h.elim
   | some x=>
   obtain ⟨iN,xs⟩:=x;rw [hd] at h;simp only at h ⊢
   cases hp:pureT X.P X.T ⟨sl,bx,[]⟩ ((d,want) :: iN) o.op with
   | some s=>grind [okG,putN_2]
   | none=>
    rw [hp] at h;simp only at h
    cases h2:(isL o.op || (pureT X.P X.T ⟨sl,[],[]⟩ ((d,want) :: iN) o.op).isNone) with
    | false=>rw [h2] at h;exact h.elim
    | true=>
    rw [h2] at h;rw [hpR0 _ hp h2];simp only at h ⊢
    cases hl:get sl (lastG (d,want) iN).1 with
    | none=>rw [hl] at h;exact h.elim
    | some y=>
    obtain ⟨gy,sy⟩:=y;rw [hl] at h;simp only [wX,vV] at h ⊢;split at h
    ·rename_i b hy;simp only [oI,Sl.mk.injEq] at hy;obtain ⟨rfl,rfl⟩:=hy;simp only
     cases iN with
     | nil=>
      simp only at h ⊢;unfold Br at h ⊢
      cases Cq:(b == want) with
      | true=>
       rw [Cq] at h
       grind [RW,putN_2]
      | false=>
       rw [Cq] at h
       grind [putN_2]
     | cons q gs=>
      simp only at h ⊢;unfold Br at h ⊢
      cases Cq:(b == (lastG (d,want) (q :: gs)).2) with
      | true=>rw [Cq] at h;exact ih2 _ h
      | false=>rw [Cq] at h;exact ih2 _ h
    ·grind [putN_2]
    ·exact h.elim
theorem nQ {id:Nat} {st:St} (hm:X.P.follows .mixedOrders=true) (hc:EK ops (fun _=>false)=true)
  (h:goN X ops st.bx (fun sl=>go X 4000 k ⟨sl,st.bx,st.tk⟩) 3000 ops.toList st.sl):l6 X id ops k st:=ki (fun _=>false) hm hc (RX st rfl 3000 ops.toList 0 st.sl h)
end
end Dv
end Go.Proofs.YtgjagnmeonoehaaGreat
set_option maxRecDepth 100000
namespace Go.Proofs.YtgjagnmeonoehaaGreat
open Go Go.RowKit Dv Go.Proofs.Tryz
abbrev od (PC:List DV) (ND:List Nd) (D:List Nat) (K:List Bool) (sz ot:List Nat):List DV:=[.pt PC 0,.sl 7 (bG ND) none,.sl 1 (dInts D) none,.sl 1 (rr K) none,.sl 1 (dInts sz) none,.sl 1 (dInts ot) none]
theorem ey (n:Nat):EvP prog 176 [.v (.int .i64 n)] (.v (.int .i64 (cg n:Nat))):=by
 refine eG 5 [.tmp 2] func176 rfl ntmps176 rfl fun _ _ _ _=>?_;refine (qM ?_:);unfold cg;omega
section
variable (PC:List DV) (ND:List Nd) (D:List Nat) (K:List Bool) (sz ot:List Nat) {L:Nat}
abbrev BO (n:Nd) (b:Option Nat) (e:Nat):St:=
 ⟨[eX 0 (od PC ND D K sz ot),aE 3 0,au 5 (oz b),aM 9 10 (dT n.ai),au 10 ((dT n.ai).length),au 11 e],[j5 n],[]⟩
structure GQ (D:List Nat) (es:List Ed) (e:Nat) (b:Option Nat):Prop where
 nb:∀ (j:Nat) x,j < e->es[j]? = some x->x.bare=false
 no:b=none->∀ (j:Nat) x,j < e->es[j]? = some x->fM D x=false
 yes:∀ k,b=some k->∃ x,k < e/\es[k]? = some x/\fM D x=true/\(∀ (j:Nat) y,j < e->es[j]? = some y->fM D y=true->cz D x<=cz D y)/\∀ (j:Nat) y,j < k->es[j]? = some y->fM D y=true->cz D x < cz D y
theorem GQ.step {es:List Ed} {e:Nat} {b b':Option Nat} {x:Ed} (hB:GQ D es e b) (hx:es[e]? = some x) (hb:x.bare=false)
  (h:(fM D x=false/\b'=b)∨(fM D x=true/\(∃ k y,b=some k/\es[k]? = some y/\cz D y<=cz D x)/\b'=b)∨(fM D x=true/\(b=none∨∃ k y,b=some k/\es[k]? = some y/\cz D x < cz D y)/\b'=some e)):GQ D es (e + 1) b':=by
 have Z8:∀ (j:Nat) y,j < e + 1->es[j]? = some y->y.bare=false:=fun j y hj hy=>by
  rcases jJ hj with h1 | rfl
  ·exact hB.nb j y h1 hy
  ·rw [hx] at hy;cases hy;exact hb
 rcases h with ⟨ht,rfl⟩ | ⟨ht,⟨k,y,rfl,hy,fb⟩,rfl⟩ | ⟨ht,hc,rfl⟩
 ·refine ⟨Z8,fun hn j y hj hy=>?_,fun k hk=>?_⟩
  ·rcases jJ hj with h1 | rfl
   ·exact hB.no hn j y h1 hy
   ·rw [hx] at hy;cases hy;exact ht
  ·obtain ⟨z,h1,h2,h3,h4,h5⟩:=hB.yes k hk
   grind
 ·refine ⟨Z8,fun hn=>(by cases hn),fun k' hk=>?_⟩;cases hk;obtain ⟨z,h1,h2,h3,h4,h5⟩:=hB.yes k rfl
  grind
 ·have aq:∀ (j:Nat) w,j < e->es[j]? = some w->fM D w=true->cz D x < cz D w:=fun j w hj hw SM=>by
   rcases hc with rfl | ⟨k,y,rfl,hy,hl⟩
   ·rw [hB.no rfl j w hj hw] at SM;cases SM
   ·obtain ⟨z,h1,h2,h3,h4,h5⟩:=hB.yes k rfl
    grind
  refine ⟨Z8,fun hn=>(by cases hn),fun k' hk=>?_⟩
  grind
theorem choose_spec {n:Nd} (hD:D.length=ND.length) (hn:cf L ND.length n) (kM:n.ai.length<=1099511627776) :
  EvP prog 181 [.pt (od PC ND D K sz ot) 0,.agg (j5 n)] (.v (.int .i64 (oz (bL D n.ai)))):=by
 have bR:=hn.fB;obtain ⟨ag,aO,lo,hi,most,af,es⟩:=n;simp only at bR kM;have cu:=bw es;refine eG 60 [.tmp 4] func181 rfl ntmps181 rfl fun _ _ _ _=>?_;refine lI (fun j st=>∃ (e:Nat) (b:Option Nat),st=BO PC ND D K sz ot ⟨ag,aO,lo,hi,most,af,es⟩ b e/\e<=es.length/\GQ D es e b/\j=es.length - e) ⟨0,none,rfl,by omega,⟨fun _ _ h=>by omega,fun _ _ _ h=>by omega,fun _ h=>by cases h⟩,rfl⟩ (bZ 1 wA wB) ?_;rintro j st ⟨e,b,rfl,he,hB,rfl⟩;refine br ?_ ?_<;>intro hL
 ·have aq:e < es.length:=sV cu hL;obtain ⟨x,hx⟩:=gX aq;have Oh:=bR x (mG hx)
  have Oz:∃ z,x.bare=false->D[x.to.toNat]? = some z/\x.to=(x.to.toNat:Nat)/\cz D x=z:=by
   cases hb:x.bare with
   | true=>exact ⟨0,fun h=>by cases h⟩
   | false=>
    obtain ⟨k,hk,gl⟩:=Oh.to1 hb;have hg:D[x.to.toNat]? = some D[x.to.toNat]:=gE (by omega);exact ⟨_,fun _=>⟨hg,by omega,by unfold cz;rw [bN,hg];rfl⟩⟩
  obtain ⟨z,hz⟩:=Oz;have hthb:x.bare=true->fM D x=true:=fun h=>by unfold fM;rw [h];all_goals rfl
  have NQ:x.bare=false->fM D x=decide (0 < cz D x):=fun h=>by unfold fM;rw [h];all_goals rfl
  have u1:x.bare=true->tj D x=0:=fun h=>by unfold tj;rw [ap h]
  have jk:∀ (j:Nat) y,j < e->es[j]? = some y->fM D y=true->y.bare=false/\0 < cz D y/\tj D y=cz D y:=fun j y hj hy ht=>by
   have hb:=hB.nb j y hj hy;unfold fM at ht;rw [hb,Bool.false_or] at ht;exact ⟨hb,of_decide_eq_true ht,by unfold tj;rw [aj (by rw [hb];simp)]⟩
  have aei:x.bare=true->bL D es=some e:=fun hb=>by grind [BL]
  have j7:∀ b',x.bare=false->((fM D x=false/\b'=b)∨(fM D x=true/\(∃ k y,b=some k/\es[k]? = some y/\cz D y<=cz D x)/\b'=b)∨(fM D x=true/\(b=none∨∃ k y,b=some k/\es[k]? = some y/\cz D x < cz D y)/\b'=some e))->GQ D es (e + 1) b':=fun b' hb h=>hB.step D hx hb h;clear hthb u1 jk;generalize fM D x=T at NQ j7;generalize cz D x=ex at hz NQ j7;obtain ⟨en,eb,ea,et,rb,ew,ln,ti,ru,pS⟩:=x;simp only at hz NQ aei j7;refine iX (aS hx) ?_;refine br ?_ ?_<;>intro c
  ·rw [aei c];exact (rfl:_=_)
  ·subst c;obtain ⟨hz1,QF,Xc⟩:=hz rfl;have NQ:=NQ rfl;have j7:=fun b'=>j7 b' rfl;subst Xc NQ;obtain ⟨to,rfl⟩:∃ k:Nat,et=k:=⟨_,QF⟩;rw [eH] at hz1
   cases b with
   | none=>
    refine nQ mo (by decide +kernel) ?_;refine ⟨_,⟨eY _,aR hz1⟩,?_⟩;refine br ?_ ?_<;>intro c
    ·have c:0 < ex:=by simpa [lastG] using c
     exact ⟨BO PC ND D K sz ot ⟨ag,aO,lo,hi,most,af,es⟩ (some e) (e + 1),(bZ 1 (jM (aG aq (by omega))) (cJ (aG aq (by omega)))),es.length - (e + 1),by omega,e + 1,some e,rfl,by omega,j7 _ (.inr (.inr ⟨decide_eq_true c,.inl rfl,rfl⟩)),rfl⟩
    ·have c:¬ 0 < ex:=by simpa [lastG] using c
     exact ⟨BO PC ND D K sz ot ⟨ag,aO,lo,hi,most,af,es⟩ none (e + 1),(bZ 1 (jM (aG aq (by omega))) (cJ (aG aq (by omega)))),es.length - (e + 1),by omega,e + 1,none,rfl,by omega,j7 _ (.inl ⟨decide_eq_false c,rfl⟩),rfl⟩
   | some k=>
    obtain ⟨y,uU,hy,hyt,_⟩:=hB.yes k rfl;have hyb:=hB.nb k y uU hy;obtain ⟨ky,hky,hkyl⟩:=(bR y (mG hy)).to1 hyb;obtain ⟨zy,hzy⟩:∃ z,D[ky]? = some z:=⟨_,gE (by omega)⟩;have hzy2:cz D y=zy:=by unfold cz;rw [hky,eH,bN,hzy];all_goals rfl
    refine nQ mo (by decide +kernel) ?_;refine ⟨_,⟨eY _,aR hz1⟩,?_⟩;refine br ?_ ?_<;>intro c
    ·have c:0 < ex:=by simpa [lastG] using c
     refine ⟨_,⟨eY _,aR hz1⟩,?_⟩;refine ⟨_,⟨eY _,aS hy⟩,?_⟩;refine ⟨_,⟨by rw [hky];exact eY _,by rw [hky];exact aR hzy⟩,?_⟩;refine br ?_ ?_<;>intro g
     ·have g:ex < zy:=by simpa [lastG,pickB] using g
      exact ⟨BO PC ND D K sz ot ⟨ag,aO,lo,hi,most,af,es⟩ (some e) (e + 1),(bZ 1 (jM (aG aq (by omega))) (cJ (aG aq (by omega)))),es.length - (e + 1),by omega,e + 1,some e,rfl,by omega,j7 _ (.inr (.inr ⟨decide_eq_true c,.inr ⟨k,y,rfl,hy,by omega⟩,rfl⟩)),rfl⟩
     ·have g:¬ ex < zy:=by simpa [lastG,pickB] using g
      exact ⟨BO PC ND D K sz ot ⟨ag,aO,lo,hi,most,af,es⟩ (some k) (e + 1),(bZ 1 (jM (aG aq (by omega))) (cJ (aG aq (by omega)))),es.length - (e + 1),by omega,e + 1,some k,rfl,by omega,j7 _ (.inr (.inl ⟨decide_eq_true c,⟨k,y,rfl,hy,by omega⟩,rfl⟩)),rfl⟩
    ·have c:¬ 0 < ex:=by simpa [lastG] using c
     exact ⟨BO PC ND D K sz ot ⟨ag,aO,lo,hi,most,af,es⟩ (some k) (e + 1),(bZ 1 (jM (aG aq (by omega))) (cJ (aG aq (by omega)))),es.length - (e + 1),by omega,e + 1,some k,rfl,by omega,j7 _ (.inl ⟨decide_eq_false c,rfl⟩),rfl⟩
 ·have hge:e=es.length:=sW cu hL;subst hge
  cases b with
  | none=>
   rw [GM fun x hx=>by
    obtain ⟨j,hj,rfl⟩:=List.getElem_of_mem hx
    exact hB.no rfl j _ hj (gE hj)]
   exact (rfl:_=_)
  | some k=>
   obtain ⟨x,h1,h2,h3,h4,h5⟩:=hB.yes k rfl;have hb:=hB.nb k x h1 h2;have Oz:tj D x=cz D x:=by unfold tj;rw [aj (by rw [hb];simp)]
   have hdy:∀ (j:Nat) y,j < es.length->es[j]? = some y->tj D y=cz D y:=fun j y hj hy=>by unfold tj;rw [aj (by rw [hB.nb j y hj hy];simp)]
   rw [BL h2 h3 (fun y hy ht=>by
    obtain ⟨j,hj,rfl⟩:=List.getElem_of_mem hy;have jL:=gE hj;rw [Oz,hdy j _ hj jL]
    exact h4 j _ hj jL ht) fun j y hj hy ht=>by
    rw [Oz,hdy j y (by omega) hy]
    exact h5 j y hj hy ht]
   exact (rfl:_=_)
end
theorem Xd {a:Option Nat} {k:Nat}:((k:Nat):Int)≠oz a↔a≠some k:=by
 cases a with
 | none=>simp [oz]
 | some j=>simp [oz];omega
section
variable (PC:List DV) (ND:List Nd) (D:List Nat) (K:List Bool) (sz ot:List Nat) {L:Nat}
abbrev aej (n:Nd) (e:Nat):St:=
 ⟨[eX 0 (od PC ND D K sz ot),aE 3 0,au 5 (oz (bL D n.ai)),aM 12 10 (dT n.ai),au 13 ((dT n.ai).length),au 14 e],[j5 n],[]⟩
theorem zo {n:Nd} (hD:D.length=ND.length) (hn:cf L ND.length n) (kM:n.ai.length<=1099511627776) :
  EvP prog 183 [.pt (od PC ND D K sz ot) 0,.agg (j5 n)] (.v (.int .i64 (oz (lN D n.ai)))):=by
 have HJ:=choose_spec PC ND D K sz ot hD hn kM;have bR:=hn.fB;obtain ⟨ag,aO,lo,hi,most,af,es⟩:=n;simp only at bR kM HJ;have cu:=bw es;refine eG 39 [.tmp 4] func183 rfl ntmps183 rfl fun _ _ _ _=>?_;refine cP KN HJ ?_;refine lI (fun j st=>∃ e:Nat,st=aej PC ND D K sz ot ⟨ag,aO,lo,hi,most,af,es⟩ e/\e<=es.length/\(∀ k,k < e->vn D es k=false)/\j=es.length - e) ⟨0,rfl,by omega,fun _ h=>by omega,rfl⟩ (bZ 1 wA wB) ?_;rintro j st ⟨e,rfl,he,hB,rfl⟩;refine br ?_ ?_<;>intro hL
 ·have aq:e < es.length:=sV cu hL;obtain ⟨x,hx⟩:=gX aq;have Oh:=bR x (mG hx);have ou:=sO (D:=D) hx;have RY:vn D es e=true->lN D es=some e:=fun h=>bU aq h hB;have gm:vn D es e=false->∀ k,k < e + 1->vn D es k=false:=fun h k hk=>by grind
  have Oz:∃ z,x.bare=false->D[x.to.toNat]? = some z/\0<=x.to/\fM D x=decide (0 < z):=by
   cases hb:x.bare with
   | true=>exact ⟨0,fun h=>by cases h⟩
   | false=>
    obtain ⟨k,hk,gl⟩:=Oh.to1 hb;have hg:D[x.to.toNat]? = some D[x.to.toNat]:=gE (by omega);exact ⟨_,fun _=>⟨hg,by omega,by unfold fM cz;rw [hb,bN,hg];rfl⟩⟩
  obtain ⟨z,hz⟩:=Oz;have iZ:x.bare=true->fM D x=true:=fun h=>by unfold fM;rw [h];all_goals rfl
  generalize vn D es e=T at ou RY gm;generalize fM D x=B at ou hz iZ;obtain ⟨en,eb,ea,et,rb,ew,ln,ti,ru,pS⟩:=x;simp only at hz iZ;refine iX (aS hx) ?_;refine nQ mo (by decide +kernel) ?_;refine br ?_ ?_<;>intro c1
  ·have c1:bL D es≠some e:=Xd.1 (by simpa [lastG] using c1);refine br ?_ ?_<;>intro c2
   ·have c2:eb=false:=by simpa [lastG] using c2
    obtain ⟨hz1,QF,Xc⟩:=hz c2;refine ⟨_,⟨QF,aR hz1⟩,?_⟩;refine br ?_ ?_<;>intro g
    ·have g:0 < z:=by simpa [lastG,pickB] using g
     rw [RY (by rw [ou,Xc,decide_eq_true g,Bool.and_true];exact decide_eq_true c1)];exact (rfl:_=_)
    ·have g:¬ 0 < z:=by simpa [lastG,pickB] using g
     exact rE ⟨_,by omega,e + 1,rfl,by omega,gm (by rw [ou,Xc,decide_eq_false g,Bool.and_false]),rfl⟩ (bZ 1 (jM (aG aq (by omega))) (cJ (aG aq (by omega))))
   ·have c2:eb=true:=by simpa [lastG] using c2
    rw [RY (by rw [ou,iZ c2,Bool.and_true];exact decide_eq_true c1)];exact (rfl:_=_)
  ·have c1:¬ bL D es≠some e:=fun h=>by
    have:=Xd.2 h;simp [lastG] at c1;exact this c1
   exact rE ⟨_,by omega,e + 1,rfl,by omega,gm (by rw [ou,decide_eq_false c1,Bool.false_and]),rfl⟩ (bZ 1 (jM (aG aq (by omega))) (cJ (aG aq (by omega))))
 ·have hge:e=es.length:=sW cu hL;subst hge;rw [show lN D es=none from cK hB];exact (rfl:_=_)
theorem rf {e:Ed} (hs:sz.length=ND.length) (he:Y7 L ND.length e) :
  EvP prog 236 [.pt (od PC ND D K sz ot) 0,.agg (C4 e)] (.v (.int .i64 (dq sz e:Nat))):=by
 obtain ⟨en,eb,ea,et,rb,ew,ln,ti,ru,pS⟩:=e;have h1:=he.to1;simp only at h1;refine eG 15 [.tmp 4] func236 rfl ntmps236 rfl fun _ _ _ _=>?_;refine br ?_ ?_<;>intro c
 ·subst c;exact (rfl:_=_)
 ·subst c;obtain ⟨k,rfl,gl⟩:=h1 rfl;have hg:sz[k]? = some sz[k]:=gE (by omega);refine nQ mo (by decide +kernel) ?_;refine ⟨_,⟨eY _,aR hg⟩,?_⟩;refine (qM ?_:);unfold dq cz;simp [bN,hg]
end
theorem BP {K:List Nat}:∀ {es:List Ed} {m:Nat},0 < leastR K es m->m < leastR K es m/\∀ e∈es,0 < cz K e/\cz K e < leastR K es m
 | [],m,_=>⟨Nat.lt_succ_self m,fun e he=>by cases he⟩
 | x :: r,m,h=>by
  rw [leastR] at h ⊢;split at h
  ·omega
  ·rename_i h0;rw [aj h0];obtain ⟨h1,h2⟩:=BP h
   grind
theorem uK {K:List Nat}:∀ {es:List Ed} {b:Nat},0 < cw K es b->(∃ e∈es,fM K e=true/\tj K e < cw K es b)∨(0 < b/\b < cw K es b)
 | [],b,h=>by grind [cw]
 | x :: r,b,h=>by
  have hup:∀ {v:Nat},(∃ e∈r,fM K e=true/\tj K e < v)->∃ e∈x :: r,fM K e=true/\tj K e < v:=fun ⟨e,h1,h2⟩=>⟨e,gJ _ h1,h2⟩;rw [cw] at h ⊢;split at h
  ·simp_all [fM,tj]
  ·rename_i hb;rw [aj hb];split at h
   ·rename_i h0;rw [ap h0];rcases uK h with h1 | ⟨h1,h2⟩
    ·exact .inl (hup h1)
    ·simp_all [fM,tj]
   ·rename_i h0;rw [aj h0];rcases uK h with h1 | h1
    ·exact .inl (hup h1)
    ·exact .inr h1
theorem choose_lt {K:List Nat} {es:List Ed} (h:0 < cw K es 0):∃ c e,bL K es=some c/\es[c]? = some e/\fM K e=true/\tj K e < cw K es 0:=by
 rcases uK h with ⟨x,h1,h2,h3⟩ | h1
 ·obtain ⟨c,hc⟩:=NO (tj K x) h1 h2 (aV _)
  grind [GN]
 ·omega
structure gB (ND:List Nd) (D:List Nat):Prop where
 len:D.length=ND.length
 le:∀ i,D.getD i 0<=ND.length
 get:∀ i n,ND[i]? = some n->D.getD i 0=bF n D
theorem il (ND:List Nd):gB ND (depN ND ND.length):=by
 refine ⟨depN_len _ _,LB ND _,fun i n hn=>?_⟩;have:=depN_get ND ND.length i;rw [depN_end,hn] at this;exact this
theorem gB.Zy {ND:List Nd} {D:List Nat} (h:gB ND D) {i:Nat} {n:Nd} (hn:ND[i]? = some n) (h0:0 < D.getD i 0) (h7:n.ag=7):∀ e∈n.ai,0 < cz D e/\cz D e < D.getD i 0:=by
 have h1:=h.get i n hn
 grind [bF,BP]
theorem gB.U5 {ND:List Nd} {D:List Nat} (h:gB ND D) {i:Nat} {n:Nd} (hn:ND[i]? = some n) (h0:0 < D.getD i 0) (h8:n.ag=8):∃ c e,bL D n.ai=some c/\n.ai[c]? = some e/\(e.bare=false->0 < cz D e/\cz D e < D.getD i 0):=by
 have h1:=h.get i n hn
 grind [bF,choose_lt,fM,tj]
def szL (ND:List Nd) (D:List Nat) (d:Nat):Nat->List Nat->List Nat
 | 0,t=>t
 | e + 1,t=>match ND[e]? with
  | none=>szL ND D d e t
  | some n=>if D.getD e 0=d then (szL ND D d e t).set e (sizeF (szL ND D d e t) D n) else szL ND D d e t
def szR (ND:List Nd) (D:List Nat):Nat->List Nat
 | 0=>List.replicate ND.length 0
 | d + 1=>szL ND D (d + 1) ND.length (szR ND D d)
theorem pW (ND:List Nd) (D:List Nat) (d:Nat):∀ e t,(szL ND D d e t).length=t.length
 | 0,t=>rfl
 | e + 1,t=>by
  rw [szL];split
  ·exact pW ND D d e t
  ·split
   ·rw [List.length_set];exact pW ND D d e t
   ·exact pW ND D d e t
theorem wF (ND:List Nd) (D:List Nat):∀ d,(szR ND D d).length=ND.length
 | 0=>List.length_replicate
 | d + 1=>by rw [szR,pW];exact wF ND D d
theorem JV {ND:List Nd} {D:List Nat} {d:Nat} (h:∀ i,D.getD i 0≠d):∀ e t,szL ND D d e t=t
 | 0,t=>rfl
 | e + 1,t=>by
  rw [szL];split
  ·exact JV h e t
  ·rw [aj (h e)];exact JV h e t
theorem LX {ND:List Nd} {D:List Nat} {m:Nat} (h:∀ i,D.getD i 0<=m):∀ k,szR ND D (m + k)=szR ND D m
 | 0=>rfl
 | k + 1=>by
  show szL ND D (m + k + 1) ND.length (szR ND D (m + k))=_;rw [JV (fun i=>by have:=h i;omega)];exact LX h k
theorem mL {ND:List Nd} {D:List Nat} {d:Nat} {i:Nat} (h:D.getD i 0≠d):∀ (e:Nat) (t:List Nat),(szL ND D d e t).getD i 0=t.getD i 0
 | 0,t=>rfl
 | e + 1,t=>by
  rw [szL];split
  ·exact mL h e t
  ·split
   ·rename_i he;have bA:i≠e:=fun EZ=>h (EZ ▸ he);rw [bN,List.getElem?_set_ne (by omega),<- bN];exact mL h e t
   ·exact mL h e t
theorem LY {ND:List Nd} {D:List Nat} {d:Nat} {i:Nat} {n:Nd} (hn:ND[i]? = some n) (h:D.getD i 0=d):∀ (e:Nat) (t:List Nat),t.length=ND.length->i < e->(szL ND D d e t).getD i 0=sizeF (szL ND D d i t) D n
 | e + 1,t,hl,hi=>by
  have we:=(gS hn).1;rw [szL];rcases jJ hi with h1 | rfl
  ·have ih:=LY hn h e t hl h1
   grind
  ·grind [sM,pW]
theorem zp {a b:List Nat} {c:Int}:∀ {es:List Ed} {i n:Nat},(∀ e∈es,dq a e=dq b e)->sumX a c es i n=sumX b c es i n
 | [],_,_,_=>rfl
 | e :: r,i,n,h=>by
  rw [sumX,sumX,h e List.mem_cons_self];exact zp fun x hx=>h x (gJ _ hx)
theorem zq {a b:List Nat} {e:Ed} (h:e.bare=false->a.getD e.to.toNat 0=b.getD e.to.toNat 0):dq a e=dq b e:=by grind [dq,cz]
theorem GR {ND:List Nd} {D a b:List Nat} (h:gB ND D) {i:Nat} {n:Nd} (hn:ND[i]? = some n) (h0:0 < D.getD i 0) (Ig:∀ j,0 < D.getD j 0->D.getD j 0 < D.getD i 0->a.getD j 0=b.getD j 0):sizeF a D n=sizeF b D n:=by
 unfold sizeF;split
 ·rename_i h7;refine zp fun e he=>zq fun _=>?_;obtain ⟨h1,h2⟩:=h.Zy hn h0 h7 e he;exact Ig _ h1 h2
 ·split
  ·rename_i h8;obtain ⟨c,e,hc,he,hp⟩:=h.U5 hn h0 h8;rw [hc];simp only [he];rw [zq fun hb=>Ig _ (hp hb).1 (hp hb).2]
  ·rfl
theorem wH {ND:List Nd} {D:List Nat} {i:Nat}:∀ (k d:Nat),D.getD i 0<=d->(szR ND D (d + k)).getD i 0=(szR ND D d).getD i 0
 | 0,d,_=>rfl
 | k + 1,d,h=>by
  show (szL ND D (d + k + 1) ND.length (szR ND D (d + k))).getD i 0=_;rw [mL (by omega)];exact wH k d h
def og (ND:List Nd) (D:List Nat):List Nat:=szR ND D ND.length
theorem DK (ND:List Nd) (D:List Nat):(og ND D).length=ND.length:=wF ND D _
theorem LZ {ND:List Nd} {D:List Nat} (h:gB ND D) {i:Nat} {n:Nd} (hn:ND[i]? = some n) (h0:0 < D.getD i 0):(og ND D).getD i 0=sizeF (og ND D) D n:=by
 have fb:=h.le i;have we:=(gS hn).1;obtain ⟨d,hd⟩:∃ d,D.getD i 0=d + 1:=⟨_,(Nat.succ_pred_eq_of_pos h0).symm⟩;obtain ⟨k,hk⟩:∃ k,ND.length=d + 1 + k:=⟨ND.length - (d + 1),by omega⟩
 have h1:(og ND D).getD i 0=(szR ND D (d + 1)).getD i 0:=by
  unfold og;rw [hk];exact wH k (d + 1) (by omega)
 rw [h1,szR,LY hn hd _ _ (wF ND D d) we];refine GR h hn h0 fun j hj ll=>?_;rw [mL (by omega)];unfold og;rw [hk,Nat.add_assoc];exact (wH (1 + k) d (by omega)).symm
theorem RZ {ND:List Nd} {D:List Nat} {i:Nat} (h0:D.getD i 0=0):(og ND D).getD i 0=0:=by
 unfold og;have:=wH (ND:=ND) (D:=D) (i:=i) ND.length 0 (by omega)
 grind [szR]
theorem pX (a D:List Nat) (n:Nd):1<=sizeF a D n/\sizeF a D n<=4097:=by grind [sizeF,ko,pV,cg]
theorem wI {ND:List Nd} {D:List Nat} (h:gB ND D) {i:Nat}:(0 < (og ND D).getD i 0↔0 < D.getD i 0)/\(og ND D).getD i 0<=4097:=by
 rcases Nat.eq_zero_or_pos (D.getD i 0) with h0 | h0
 ·rw [RZ h0,h0];omega
 ·have we:i < ND.length:=by
   rcases Nat.lt_or_ge i ND.length with h1 | h1
   ·exact h1
   ·rw [bN,kE (by rw [h.len];exact h1)] at h0;simp at h0
  have hs:=LZ h (gE we) h0
  grind [pX,og]
def othK (sz D:List Nat) (K:List Bool) (ND:List Nd) (i:Nat):Option (Nat × Option Nat):=match ND[i]? with | some n=>if K.getD i false=true then some (iu sz D K n) else none | none=>none
def otI (kf:Nat->Option (Nat × Option Nat)) (i:Nat) (t:List Nat):List Nat:=match kf i with | some k=>t.set i (othE t k) | none=>t
def vO (kf:Nat->Option (Nat × Option Nat)):Nat->List Nat->List Nat
 | 0,t=>t
 | e + 1,t=>otI kf e (vO kf e t)
def ja (kf:Nat->Option (Nat × Option Nat)) (N:Nat):Nat->List Nat
 | 0=>List.replicate N 0
 | r + 1=>vO kf N (ja kf N r)
def DL (kf:Nat->Option (Nat × Option Nat)) (t:List Nat):Prop:=∀ i,t.getD i 0≠0->∃ k,kf i=some k/\t.getD i 0=othE t k
def HK (a b:List Nat):Prop:=∀ i:Nat,a.getD i 0≠0->b.getD i 0=a.getD i 0
theorem HK.refl (a:List Nat):HK a a:=fun _ _=>rfl
theorem HK.trans {a b c:List Nat} (h1:HK a b) (h2:HK b c):HK a c:=fun i hi=>by rw [h2 i (by rw [h1 i hi];exact hi),h1 i hi]
theorem BQ {a b:List Nat} (h:HK a b) {k:Nat × Option Nat} (h0:othE a k≠0):othE b k=othE a k:=by
 obtain ⟨s,o⟩:=k
 cases o with
 | none=>rfl
 | some j=>
  simp only [othE] at h0 ⊢;split at h0
  ·exact (h0 rfl).elim
  ·rename_i h1;rw [h j h1,aj h1]
theorem GS {l:List Nat} {i:Nat} (v:Nat) (h:l.getD i 0=v):l.set i v=l:=by
 refine o7 (List.length_set) fun j=>?_
 grind
section
variable {kf:Nat->Option (Nat × Option Nat)} {N:Nat}
theorem U6 (i:Nat) (t:List Nat):(otI kf i t).length=t.length:=by grind [otI]
theorem wJ:∀ (e:Nat) (t:List Nat),(vO kf e t).length=t.length
 | 0,t=>rfl
 | e + 1,t=>by rw [vO,U6];exact wJ e t
theorem jI:∀ r,(ja kf N r).length=N
 | 0=>List.length_replicate
 | r + 1=>by rw [ja,wJ];exact jI r
theorem BR {i:Nat} {t:List Nat} (h:DL kf t) (h0:t.getD i 0≠0):otI kf i t=t:=by
 obtain ⟨k,hk,hv⟩:=h i h0;unfold otI;rw [hk];exact GS _ hv
theorem R0 {i:Nat} {t:List Nat} (hi:i < t.length) (h:DL kf t):DL kf (otI kf i t)/\HK t (otI kf i t):=by
 by_cases h0:t.getD i 0=0
 ·cases hk:kf i with
  | none=>unfold otI;rw [hk];exact ⟨h,HK.refl t⟩
  | some k=>
   have hu:otI kf i t=t.set i (othE t k):=by unfold otI;rw [hk]
   have fb:HK t (otI kf i t):=fun j hj=>by grind
   refine ⟨fun j hj=>?_,fb⟩;rw [hu,sM hi] at hj;by_cases Te:j=i
   ·grind [BQ,sM]
   ·rw [aj Te] at hj;obtain ⟨k',fH,hv⟩:=h j hj
    grind [BQ]
 ·rw [BR h h0];exact ⟨h,HK.refl t⟩
theorem DM:∀ (e:Nat) {t:List Nat},e<=t.length->DL kf t->DL kf (vO kf e t)/\HK t (vO kf e t)
 | 0,t,_,h=>⟨h,HK.refl t⟩
 | e + 1,t,he,h=>by
  obtain ⟨h1,h2⟩:=DM e (by omega) h;obtain ⟨h3,h4⟩:=R0 (i:=e) (by rw [wJ];omega) h1;exact ⟨h3,h2.trans h4⟩
theorem mT (kf:Nat->Option (Nat × Option Nat)) (N:Nat):DL kf (List.replicate N 0):=fun i hi=>by grind
theorem DN:∀ r,DL kf (ja kf N r)
 | 0=>mT kf N
 | r + 1=>(DM N (by rw [jI];exact aV N) (DN r)).1
theorem R3 (r:Nat):HK (ja kf N r) (ja kf N (r + 1)):=(DM N (by rw [jI];exact aV N) (DN r)).2
def sP (t:List Nat):Nat:=t.countP (fun x=>x != 0)
theorem sQ:∀ {a b:List Nat},a.length=b.length->HK a b->(a=b∨sP a < sP b)/\sP a<=sP b
 | [],[],_,_=>⟨.inl rfl,aV _⟩
 | [],y :: b,h,_=>by simp at h
 | x :: a,[],h,_=>by simp at h
 | x :: a,y :: b,h,fb=>by
  obtain ⟨h1,h2⟩:=sQ (a:=a) (b:=b) (sU h) (fun i hi=>fb (i + 1) hi);have h3:=fb 0
  grind [sP]
theorem GU:∀ r,ja kf N (r + 1)=ja kf N r∨r + 1<=sP (ja kf N (r + 1))
 | 0=>by
  rcases (sQ (by rw [jI,jI]) (R3 (kf:=kf) (N:=N) 0)).1 with h | h
  ·exact .inl h.symm
  ·exact .inr (by omega)
 | r + 1=>by
  rcases GU r with h | h
  ·grind [vO,ja]
  ·rcases (sQ (by rw [jI,jI]) (R3 (kf:=kf) (N:=N) (r + 1))).1 with h2 | h2
   all_goals grind
theorem L0 (t:List Nat):sP t<=t.length:=List.countP_le_length
theorem DO {r:Nat} (h:ja kf N (r + 1)=ja kf N r):∀ k,ja kf N (r + k)=ja kf N r
 | 0=>rfl
 | k + 1=>by
  show vO kf N (ja kf N (r + k))=_;rw [DO h k];exact h
theorem U7:ja kf N (N + 1)=ja kf N N:=by grind [GU,L0,ja,jI]
theorem U8 {r:Nat} (h:ja kf N (r + 1)=ja kf N r):ja kf N r=ja kf N N:=by
 rcases Nat.le_total r N with h1 | h1
 ·have:=DO h (N - r);rw [<- this];congr 1;omega
 ·have:=DO (U7 (kf:=kf) (N:=N)) (r - N);rw [<- this];congr 1;omega
end
def Zz (sz D:List Nat) (K:List Bool) (ND:List Nd):List Nat:=ja (othK sz D K ND) ND.length ND.length
theorem U9 (sz D:List Nat) (K:List Bool) (ND:List Nd):(Zz sz D K ND).length=ND.length:=jI _
theorem DP {sz D:List Nat} {K:List Bool} {ND:List Nd} {i:Nat} (h:(Zz sz D K ND).getD i 0≠0):∃ n,ND[i]? = some n/\K.getD i false=true/\(Zz sz D K ND).getD i 0=othE (Zz sz D K ND) (iu sz D K n):=by
 obtain ⟨k,hk,hv⟩:=DN (kf:=othK sz D K ND) (N:=ND.length) ND.length i h;unfold othK at hk;split at hk
 ·rename_i n hn;split at hk
  ·rename_i hK;cases hk;exact ⟨n,hn,hK,hv⟩
  ·cases hk
 ·cases hk
def dr (k n:Int):Val:=.mk k n ay []
def tagV (F:Nat->Val) (es:List Ed) (c:Nat):Val:=match es[c]? with | some e=>.mk 8 c ay (if e.bare=true then [] else [F e.to.toNat]) | none=>dr 8 c
def firstV (ND:List Nd) (D:List Nat):Nat->Nat->Val
 | 0,_=>dr 0 0
 | f + 1,i=>match ND[i]? with
  | none=>dr 0 0
  | some n=>if n.ag=2 then dr 2 n.lo
   else if n.ag=7 then .mk 7 0 ay (n.ai.map fun e=>firstV ND D f e.to.toNat)
   else if n.ag=8 then (match bL D n.ai with | some c=>tagV (firstV ND D f) n.ai c | none=>dr 8 0)
   else dr n.ag 0
theorem zr {F G:Nat->Val} {es:List Ed} {c:Nat} (h:∀ e,es[c]? = some e->e.bare=false->F e.to.toNat=G e.to.toNat):tagV F es c=tagV G es c:=by grind [tagV]
theorem vo {ND:List Nd} {D:List Nat} (h:gB ND D):∀ (f i:Nat),0 < D.getD i 0->D.getD i 0<=f->firstV ND D (f + 1) i=firstV ND D f i
 | 0,i,h0,h1=>by omega
 | f + 1,i,h0,h1=>by
  have ih:=vo h f;rw [firstV,firstV]
  cases hn:ND[i]? with
  | none=>rfl
  | some n=>
   simp only;split
   ·rfl
   ·split
    ·rename_i h7;refine congrArg (Val.mk 7 0 ay) (List.map_congr_left fun e he=>?_);obtain ⟨h2,h3⟩:=h.Zy hn h0 h7 e he;exact ih _ h2 (by unfold cz at h3;omega)
    ·split
     ·rename_i h8;obtain ⟨c,e,hc,he,hp⟩:=h.U5 hn h0 h8
      grind [zr,cz]
     ·rfl
def bu (ND:List Nd) (D:List Nat) (i:Nat):Val:=firstV ND D ND.length i
theorem ri {ND:List Nd} {D:List Nat} (h:gB ND D) {i:Nat} (h0:0 < D.getD i 0):∀ k,firstV ND D (D.getD i 0 + k) i=firstV ND D (D.getD i 0) i
 | 0=>rfl
 | k + 1=>by rw [<- ri h h0 k];exact vo h (D.getD i 0 + k) i h0 (by omega)
theorem rj {ND:List Nd} {D:List Nat} (h:gB ND D) {f i:Nat} (h0:0 < D.getD i 0) (h1:D.getD i 0<=f):firstV ND D f i=bu ND D i:=by
 have fb:=h.le i;have h2:=ri h h0 (f - D.getD i 0);have h3:=ri h h0 (ND.length - D.getD i 0)
 grind [bu]
def uL (F G:Nat->Val) (D:List Nat) (K:List Bool) (n:Nd):Val:=
 if n.ag=2 then dr 2 (n.lo + 1)
 else if n.ag=3 then .mk 3 0 ⟨#[97]⟩ []
 else if n.ag=5∨n.ag=6 then (match n.ai[0]? with | some e=>.mk n.ag 0 ay [F e.to.toNat] | none=>dr n.ag 0)
 else if n.ag=7 then (match GO K n.ai with
  | some c=>(match n.ai[c]? with | some e=>.mk 7 0 ay ((n.ai.map fun e=>F e.to.toNat).set c (G e.to.toNat)) | none=>dr 7 0)
  | none=>dr 7 0)
 else if n.ag=8 then (match lN D n.ai with
  | some c=>tagV F n.ai c
  | none=>(match bL D n.ai with | some c=>(match n.ai[c]? with | some e=>.mk 8 c ay [G e.to.toNat] | none=>dr 8 c) | none=>dr 8 0))
 else dr n.ag 1
def bl (ND:List Nd) (D:List Nat) (K:List Bool):Nat->Nat->Val
 | 0,_=>dr 0 0
 | f + 1,i=>match ND[i]? with
  | none=>dr 0 0
  | some n=>uL (bu ND D) (bl ND D K f) D K n
def Al (ND:List Nd) (D:List Nat) (K:List Bool) (i:Nat):Val:=bl ND D K 4096 i
theorem wK {sz:List Nat} (hz:∀ z∈sz,z<=4097) (e:Ed):dq sz e<=4097:=by
 unfold dq cz;split
 ·omega
 ·rw [bN]
  cases h:sz[e.to.toNat]? with
  | none=>exact Nat.zero_le _
  | some z=>exact hz z (mG h)
theorem BS {sz:List Nat} {c:Int} {es:List Ed} {e:Nat} {x:Ed} (h:es[e]? = some x):sumX sz c (es.take (e + 1)) 0 1=if (e:Int)=c then sumX sz c (es.take e) 0 1 else cg (sumX sz c (es.take e) 0 1 + dq sz x):=by
 have hl:(es.take e).length=e:=by rw [zLenT];have:=(gS h).1;omega
 rw [dZ h,BM,hl,Nat.zero_add]
theorem wrapN {a b:Nat} (ha:a<=1099511627776) (hb:b<=1099511627776):IntKind.i64.wrap ((a:Int) + (b:Int))=((a + b:Nat):Int):=by rw [wrap64 (by omega) (by omega)];omega
section
variable (PC:List DV) (ND:List Nd) (D:List Nat) (K:List Bool) (sz ot:List Nat) {L:Nat}
abbrev aek (n:Nd) (s e:Nat):St:=
 ⟨[eX 0 (od PC ND D K sz ot),aE 3 0,au 5 s,aM 13 10 (dT n.ai),au 14 ((dT n.ai).length),au 15 e],[j5 n],[]⟩
theorem GV {n:Nd} (hD:D.length=ND.length) (hs:sz.length=ND.length) (hz:∀ z∈sz,z<=4097) (hn:cf L ND.length n) (kM:n.ai.length<=1099511627776) (h8:n.ag=8->∃ c e,bL D n.ai=some c/\n.ai[c]? = some e) :
  EvP prog 172 [.pt (od PC ND D K sz ot) 0,.agg (j5 n)] (.v (.int .i64 (sizeF sz D n:Nat))):=by
 have HJ:=choose_spec PC ND D K sz ot hD hn kM;have bR:=hn.fB;obtain ⟨ag,aO,lo,hi,most,af,es⟩:=n;simp only at bR kM HJ h8;have cu:=bw es;refine eG 41 [.tmp 4] func172 rfl ntmps172 rfl fun _ _ _ _=>?_;refine br ?_ ?_<;>intro c7
 ·have c7:ag=7:=sU c7;have hF:sizeF sz D ⟨ag,aO,lo,hi,most,af,es⟩=sumX sz (-1) es 0 1:=by simp [sizeF,c7]
  rw [hF];refine lJ (fun e=>aek PC ND D K sz ot ⟨ag,aO,lo,hi,most,af,es⟩ (sumX sz (-1) (es.take e) 0 1) e) es.length (bZ 1 wA wB) ?_;intro e he;refine br ?_ ?_<;>intro hL
  ·have aq:e < es.length:=sV cu hL;obtain ⟨x,hx⟩:=gX aq;have hp:=rf PC ND D K sz ot hs (bR x (mG hx));have gP:=wK hz x;have ov:=pV (sz:=sz) (c:=-1) (es:=es.take e) (i:=0) (n:=1) (by omega);have iP:sumX sz (-1) (es.take (e + 1)) 0 1=cg (sumX sz (-1) (es.take e) 0 1 + dq sz x):=by rw [BS hx,aj (by omega)]
   have hw:=wrapN (a:=sumX sz (-1) (es.take e) 0 1) (b:=dq sz x) (by omega) (by omega);refine iX (aS hx) ?_;refine cP AH hp ?_;refine cP nW (ey (sumX sz (-1) (es.take e) 0 1 + dq sz x)) ?_ (mc hw);exact rE ⟨_,by omega,e + 1,rfl,by omega,rfl⟩ (bZ 1 (lY (aG aq (by omega)) iP.symm) (wB2 (aG aq (by omega)) iP.symm))
  ·have hge:e=es.length:=sW cu hL;subst hge;rw [List.take_length];exact (rfl:_=_)
 ·have c7:¬ ag=7:=sU c7;refine br ?_ ?_<;>intro c8
  ·have c8:ag=8:=sU c8;obtain ⟨c,x,hc,hx⟩:=h8 c8;rw [hc] at HJ;have hF:sizeF sz D ⟨ag,aO,lo,hi,most,af,es⟩=cg (1 + dq sz x):=by simp [sizeF,c8,hc,hx]
   have hp:=rf PC ND D K sz ot hs (bR x (mG hx));have gP:=wK hz x;have hw:=wrapN (a:=1) (b:=dq sz x) (by omega) (by omega);rw [hF];refine dI ?_;refine cD KN HJ ?_;refine ⟨_,⟨eY _,aS hx⟩,?_⟩;refine cD AH hp ?_;refine cD nW (ey (1 + dq sz x)) ?_ (mc hw);exact (rfl:_=_)
  ·have c8:¬ ag=8:=sU c8;refine (qM ?_:);simp [sizeF,c7,c8]
abbrev ael (n:Nd) (e:Nat):St:=
 ⟨[eX 0 (od PC ND D K sz ot),aE 3 0,aM 8 10 (dT n.ai),au 9 ((dT n.ai).length),au 10 e],[j5 n],[]⟩
theorem qD {n:Nd} (hK:K.length=ND.length) (hn:cf L ND.length n) (h7:n.ag=7) (kM:n.ai.length<=1099511627776) :
  EvP prog 182 [.pt (od PC ND D K sz ot) 0,.agg (j5 n)] (.v (.int .i64 (oz (GO K n.ai)))):=by
 have bR:=hn.fB;have iZ:=hn.bare;obtain ⟨ag,aO,lo,hi,most,af,es⟩:=n;simp only at bR kM h7 iZ;have cu:=bw es;refine eG 25 [.tmp 4] func182 rfl ntmps182 rfl fun _ _ _ _=>?_;refine lI (fun j st=>∃ e:Nat,st=ael PC ND D K sz ot ⟨ag,aO,lo,hi,most,af,es⟩ e/\e<=es.length/\(∀ k,k < e->RU K es k=false)/\j=es.length - e) ⟨0,rfl,by omega,fun _ h=>by omega,rfl⟩ (bZ 1 wA wB) ?_;rintro j st ⟨e,rfl,he,hB,rfl⟩;refine br ?_ ?_<;>intro hL
 ·have aq:e < es.length:=sV cu hL;obtain ⟨x,hx⟩:=gX aq
  have ra:x.bare=false:=by
   cases hb:x.bare with
   | false=>rfl
   | true=>have:=iZ x (mG hx) hb;omega
  obtain ⟨k,hk,gl⟩:=(bR x (mG hx)).to1 ra;obtain ⟨z,hz⟩:∃ z,K[k]? = some z:=⟨_,gE (by omega)⟩;have hP:RU K es e=z:=by unfold RU;rw [hx];simp only;rw [hk,eH,bN,hz];all_goals rfl
  refine iX (aS hx) ?_;refine nQ mo (by decide +kernel) ?_;refine ⟨_,⟨by rw [hk];exact eY _,by rw [hk];exact sq hz⟩,?_⟩;refine br ?_ ?_<;>intro g
  ·have g:z=true:=sU g;rw [show GO K es=some e from bU aq (hP.trans g) hB];exact (rfl:_=_)
  ·have g:z=false:=sU g
   exact rE ⟨_,by omega,e + 1,rfl,by omega,fun k hk=>by
    rcases jJ hk with h1 | rfl
    ·exact hB k h1
    ·exact hP.trans g,rfl⟩ (bZ 1 (jM (aG aq (by omega))) (cJ (aG aq (by omega))))
 ·have hge:e=es.length:=sW cu hL;subst hge;rw [show GO K es=none from cK hB];exact (rfl:_=_)
end
structure R4 (D:List Nat) (K:List Bool) (n:Nd):Prop where
 c7:n.ag=7->∃ c e,GO K n.ai=some c/\n.ai[c]? = some e/\e.bare=false
 c8:n.ag=8->lN D n.ai=none->∃ c e,bL D n.ai=some c/\n.ai[c]? = some e/\e.bare=false
section
variable (PC:List DV) (ND:List Nd) (D:List Nat) (K:List Bool) (sz ot:List Nat) {L:Nat}
abbrev aem (n:Nd) (c:Option Nat) (s e:Nat):St:=
 ⟨[eX 0 (od PC ND D K sz ot),aE 3 0,au 5 (oz c),au 6 s,aM 32 10 (dT n.ai),au 33 ((dT n.ai).length),au 34 e],[j5 n],[]⟩
theorem DQ {n:Nd} (hD:D.length=ND.length) (hK:K.length=ND.length) (hs:sz.length=ND.length) (ho:ot.length=ND.length) (hz:∀ z∈sz,z<=4097) (hoz:∀ z∈ot,z<=4097) (hn:cf L ND.length n) (kM:n.ai.length<=1099511627776) (hS:R4 D K n) :
  EvP prog 173 [.pt (od PC ND D K sz ot) 0,.agg (j5 n)] (.v (.int .i64 (othE ot (iu sz D K n):Nat))):=by
 have HJ:=choose_spec PC ND D K sz ot hD hn kM;have Xe:=zo PC ND D K sz ot hD hn kM;have R5:=fun h=>qD PC ND D K sz ot hK hn h kM;have bR:=hn.fB;have ee:=hn.one;have h7:=hS.c7;have h8:=hS.c8;obtain ⟨ag,aO,lo,hi,most,af,es⟩:=n;simp only at bR kM HJ Xe R5 h7 h8 ee;have cu:=bw es
 have ou:∀ {x:Ed},x∈es->x.bare=false->∃ z,(dInts ot)[x.to.toNat]? = some [.v (.int .i64 (z:Nat))]/\0<=x.to/\ot.getD x.to.toNat 0=z/\z<=4097:=fun {x} hx hb=>by
  obtain ⟨k,hk,gl⟩:=(bR x hx).to1 hb;have hg:ot[k]? = some ot[k]:=gE (by omega);refine ⟨ot[k],by rw [hk];exact aR hg,by omega,by rw [hk,eH,bN,hg];rfl,hoz _ (mG hg)⟩
 have sR:∀ {x:Ed},x∈es->EvP prog 236 [.pt (od PC ND D K sz ot) 0,.agg (C4 x)] (.v (.int .i64 (dq sz x:Nat))):=fun {x} hx=>rf PC ND D K sz ot hs (bR x hx);have HE:∀ x,IntKind.i64.wrap (1 + (dq sz x:Int))=((1 + dq sz x:Nat):Int):=fun x=>wrapN (a:=1) (by omega) (by have:=wK hz x;omega);have hE:∀ a j z,ot.getD j 0=z->othE ot (a,some j)=if z=0 then 0 else cg (a + z):=fun a j z h=>by unfold othE;simp only [h]
 refine eG 87 [.tmp 4] func173 rfl ntmps173 rfl fun _ _ _ _=>?_;refine br (fun d5=>?_) (fun c5=>?_)
 ·have c5:ag=5:=sU d5;refine br (fun _=>?_) (fun h=>absurd h (by simp [c5]));obtain ⟨x,hx,_⟩:=ee (.inl c5);subst hx;rw [show othE ot (iu sz D K ⟨ag,aO,lo,hi,most,af,[x]⟩)=cg (1 + dq sz x) by unfold iu;rw [ap (.inl c5)];rfl];refine ⟨_,⟨by omega,rfl⟩,?_⟩;refine cP AH (sR List.mem_cons_self) ?_;refine cP nW (ey (1 + dq sz x)) ?_ (mc (HE x));exact (rfl:_=_)
 have c5:¬ ag=5:=sU c5;refine br (fun d6=>?_) (fun c6=>?_)
 ·have c6:ag=6:=sU d6;obtain ⟨x,hx,_⟩:=ee (.inr c6);subst hx;rw [show othE ot (iu sz D K ⟨ag,aO,lo,hi,most,af,[x]⟩)=cg (1 + dq sz x) by unfold iu;rw [ap (.inr c6)];rfl];refine ⟨_,⟨by omega,rfl⟩,?_⟩;refine cP AH (sR List.mem_cons_self) ?_;refine cP nW (ey (1 + dq sz x)) ?_ (mc (HE x));exact (rfl:_=_)
 have c6:¬ ag=6:=sU c6;refine br ?_ ?_<;>intro c7
 ·have c7:ag=7:=sU c7;obtain ⟨c,x,hc,hx,ra⟩:=h7 c7;have R5:=R5 c7;rw [hc] at R5;have hF:iu sz D K ⟨ag,aO,lo,hi,most,af,es⟩=(sumX sz c es 0 1,some x.to.toNat):=by simp [iu,c7,hc,hx]
  refine cP VV R5 ?_;refine lJ (fun e=>aem PC ND D K sz ot ⟨ag,aO,lo,hi,most,af,es⟩ (some c) (sumX sz c (es.take e) 0 1) e) es.length (bZ 1 wA wB) ?_;intro e he;have ov:=pV (sz:=sz) (c:=c) (es:=es.take e) (i:=0) (n:=1) (by omega);refine br ?_ ?_<;>intro hL
  ·have aq:e < es.length:=sV cu hL;obtain ⟨y,hy⟩:∃ x,es[e]? = some x:=⟨_,gE aq⟩;have gP:=wK hz y;have iP:=BS (sz:=sz) (c:=c) hy;have hw:=wrapN (a:=sumX sz c (es.take e) 0 1) (b:=dq sz y) (by omega) (by omega);refine iX (aS hy) ?_;refine br ?_ ?_<;>intro g
   ·have g:¬ (e:Int)=c:=fun h=>by simp [oz,h] at g
    rw [aj g] at iP;refine cP AH (sR (mG hy)) ?_;refine cP nW (ey (sumX sz c (es.take e) 0 1 + dq sz y)) ?_ (mc hw);exact rE ⟨_,by omega,e + 1,rfl,by omega,rfl⟩ (bZ 1 (lY (aG aq (by omega)) iP.symm) (wB2 (aG aq (by omega)) iP.symm))
   ·have g:(e:Int)=c:=Decidable.byContradiction fun h=>by simp [oz,h] at g
    rw [ap g] at iP;exact rE ⟨_,by omega,e + 1,rfl,by omega,rfl⟩ (bZ 1 (lY (aG aq (by omega)) iP.symm) (wB2 (aG aq (by omega)) iP.symm))
  ·have hge:e=es.length:=sW cu hL;subst hge;rw [List.take_length] at ov ⊢;obtain ⟨z,hz1,QF,Xc,hz4⟩:=ou (mG hx) ra;have hzE:=hE (sumX sz c es 0 1) _ _ Xc;rw [hF,hzE];refine nQ mo (by decide +kernel) ?_;refine ⟨_,⟨eY _,aS hx⟩,?_⟩;refine ⟨_,⟨QF,hz1⟩,?_⟩;refine br ?_ ?_<;>intro g
   ·have g:0 < z:=sU g;rw [aj (by omega)];refine cP nW (ey ((sumX sz c es 0 1) + z)) ?_ (by repeat' (first | exact rfl | exact trivial | exact Or.inr (Or.inl ⟨_,rfl⟩) | exact Or.inr ⟨_,rfl⟩ | exact Or.inl ⟨rfl,rfl⟩ | exact Or.inl rfl | refine Or.inr ⟨_,_,rfl,Nat.zero_le _,rfl,?_⟩ | refine ⟨_,_,rfl,?_,?_⟩ | refine ⟨_,rfl,?_⟩ | exact congrArg (fun z=>DV.v (.int .i64 z)) (wrapN (by omega) (by omega))| refine Or.inr (Or.inr (Or.inr ⟨_,_,rfl,?_⟩)) | exact Or.inl rfl | refine Or.inr ?_));exact (rfl:_=_)
   ·have g:z=0:=sU g;rw [ap g];exact (rfl:_=_)
 have c7:¬ ag=7:=sU c7;refine br ?_ ?_<;>intro c8
 ·have c8:ag=8:=sU c8;refine cP Pm Xe ?_
  cases ht:lN D es with
  | some c=>
   obtain ⟨x,hx,_⟩:=pU ht;rw [show iu sz D K ⟨ag,aO,lo,hi,most,af,es⟩=(cg (1 + dq sz x),none) by simp [iu,c8,ht,hx],show othE ot (cg (1 + dq sz x),none)=cg (1 + dq sz x) from rfl];refine ⟨_,⟨eY _,aS hx⟩,?_⟩;refine cP AH (sR (mG hx)) ?_;refine cP nW (ey (1 + dq sz x)) ?_ (mc (HE x));exact (rfl:_=_)
  | none=>
   obtain ⟨c,x,hc,hx,ra⟩:=h8 c8 ht;rw [hc] at HJ;have hF:iu sz D K ⟨ag,aO,lo,hi,most,af,es⟩=(1,some x.to.toNat):=by simp [iu,c8,ht,hc,hx]
   refine cP KN HJ ?_;obtain ⟨z,hz1,QF,Xc,hz4⟩:=ou (mG hx) ra;have hzE:=hE 1 _ _ Xc;rw [hF,hzE];refine nQ mo (by decide +kernel) ?_;refine ⟨_,⟨eY _,aS hx⟩,?_⟩;refine ⟨_,⟨QF,hz1⟩,?_⟩;refine br ?_ ?_<;>intro g
   ·have g:0 < z:=sU g;rw [aj (by omega)];refine cP nW (ey (1 + z)) ?_ (by repeat' (first | exact rfl | exact trivial | exact Or.inr (Or.inl ⟨_,rfl⟩) | exact Or.inr ⟨_,rfl⟩ | exact Or.inl ⟨rfl,rfl⟩ | exact Or.inl rfl | refine Or.inr ⟨_,_,rfl,Nat.zero_le _,rfl,?_⟩ | refine ⟨_,_,rfl,?_,?_⟩ | refine ⟨_,rfl,?_⟩ | exact congrArg (fun z=>DV.v (.int .i64 z)) (wrapN (a:=1) (by omega) (by omega))| refine Or.inr (Or.inr (Or.inr ⟨_,_,rfl,?_⟩)) | exact Or.inl rfl | refine Or.inr ?_));exact (rfl:_=_)
   ·have g:z=0:=sU g;rw [ap g];exact (rfl:_=_)
 ·have c8:¬ ag=8:=sU c8;refine (qM ?_:);simp [iu,c5,c6,c7,c8,othE]
end
end Go.Proofs.YtgjagnmeonoehaaGreat
set_option maxRecDepth 100000
namespace Go.Proofs.YtgjagnmeonoehaaGreat
open Go Go.RowKit
namespace Dv
section
variable {X:Ctx} {st:St}
theorem vK {i j:Nat} {s S:St} (h:ei s (eF i j S):=by refine (⟨rfl,rfl,?_⟩:_/\_/\_);repeat' (first | exact trivial | refine ⟨rfl,?_⟩)):(s=S∨ei s S)∨ei s (eF i j S):=.inr h
theorem Va {id:Nat} {ops:Array Oper} {k:List It} (W:Nat->Bool) (T:lL) (i j:Nat) (hm:X.P.follows .mixedOrders=true) (hc:(Rr ops && Gv ops W && chkA ops T (List.range ops.size) none)=true) (S:St)
  (h:goA X ⟨ops,W,[.wV fun s=>(s=S∨ei s S)∨ei s (eF i j S)],st,none⟩ T true st.sl st) (l9:(Nat.ble X.n0 i && Nat.ble X.n0 j && Nat.blt i S.bx.length && Nat.blt j S.bx.length)=true) (hk:go X 4000 k S) (hX:X.bt=[]:=by exact rfl):l6 X id ops k st:=by
 intro E a w hr;have lZ:=jK hr;simp only [bc] at hc;simp only [bc,Nat.ble_eq,Nat.blt_eq] at l9;obtain ⟨⟨hN,hP⟩,hT⟩:=hc;simp only [Rr,bc,List.all_eq_true,List.mem_range] at hN;have hs:=nh lZ (ops:=ops) (W:=W) (k:=[.wV fun s=>(s=S∨ei s S)∨ei s (eF i j S)]);have ct:=BC (D:=⟨⟨ops,W,[.wV fun s=>(s=S∨ei s S)∨ei s (eF i j S)],st,none⟩,E,w.drew⟩) lZ.env.em rfl T _ _ hT true st.sl st h E a w.drew hs;refine wp_region_any hm ?_;refine Gy (C:=CC E st.bx w.drew) (Q:=kq X [.wV fun s=>(s=S∨ei s S)∨ei s (eF i j S)] .normal) (Region.noSelect_spec hN.1) hP (fun i o ho e he hb=>?_) (fun a w hq=>?_) ops.size (Array.replicate ops.size false) (List.range ops.size) a _ (by simp) ?_ List.nodup_range ?_ (by simp) ⟨T,hT,ct⟩
 ·have h1:=hN.2 i (Array.getElem?_eq_some_iff.1 ho).1;rw [ho] at h1;have h2:=List.all_eq_true.1 h1 e (sU he);rw [hb] at h2;simpa using h2
 ·obtain ⟨rn,E1,bS,hJ⟩:=hq;rcases hJ with (rfl | hJ) | hJ
  ·exact go_sound 4000 _ _ hk E1 a w bS
  ·exact go_sound 4000 _ _ hk E1 a w (rQ bS hJ)
  ·obtain ⟨E2,oB⟩:=Cu hX (rQ bS hJ) l9.1.1.1 l9.1.1.2 l9.1.2 l9.2;exact go_sound 4000 _ _ hk E2 a w oB
 ·simp_all
 ·intro k o ho hk
  grind
theorem R6 {id:Nat} {ops:Array Oper} {k:List It} (T:lL) (i j:Nat) (hm:X.P.follows .mixedOrders=true) (hc:(Rr ops && Gv ops (VD ops) && chkA ops T (List.range ops.size) none)=true) (S:St)
  (h:goA X ⟨ops,VD ops,[.wV fun s=>(s=S∨ei s S)∨ei s (eF i j S)],st,none⟩ T true st.sl st) (l9:(Nat.ble X.n0 i && Nat.ble X.n0 j && Nat.blt i S.bx.length && Nat.blt j S.bx.length)=true) (hk:go X 4000 k S) (hX:X.bt=[]:=by exact rfl):l6 X id ops k st:=
 Va (VD ops) T i j hm hc S h l9 hk hX
end
end Dv
end Go.Proofs.YtgjagnmeonoehaaGreat
set_option maxRecDepth 100000
namespace Go.Proofs.YtgjagnmeonoehaaGreat
open Go Go.RowKit Dv Go.Proofs.Tryz
theorem Vb (f:Nat->Nat) (l:List Nat):renL f (cN l)=cN l:=by
 induction l with
 | nil=>rfl
 | cons z r ih=>exact congrArg (DV.v (.int .i64 (z:Int)) :: ·) ih
theorem Vc (f:Nat->Nat) (n:Nat):renL f (List.replicate n (vL [Value.int .i64 0])).flatten=(List.replicate n (vL [Value.int .i64 0])).flatten:=by rw [Nu];exact Vb f _
theorem rk {α:Type} {p:α->Bool}:∀ {l:List α} {c:Nat},(∀ i x,l[i]? = some x->p x=true->i=c)->l.countP p<=1
 | [],_,_=>Nat.zero_le _
 | x :: r,c,h=>by
  rw [List.countP_cons];by_cases hx:p x=true
  ·have h0:=h 0 x rfl hx
   have:r.countP p=0:=List.countP_eq_zero.2 fun y hy hp=>by
    obtain ⟨i,hi,rfl⟩:=List.getElem_of_mem hy;have:=h (i + 1) r[i] (by simp [hi]) hp;omega
   rw [this,ap hx];exact aV _
  ·rw [aj hx];exact rk (c:=c - 1) fun i y hy hp=>by have:=h (i + 1) y (sU hy) hp;omega
theorem sS {L N:Nat} {n:Nd} {D:List Nat} {K:List Bool} (hn:cf L N n) (h:eW n D K=true):R4 D K n:=by
 have U3:∀ {x:Ed},RN D K x=true->fM D x=true/\x.bare=false/\K.getD x.to.toNat false=true:=fun {x} h=>by grind [RN]
 refine ⟨fun h7=>?_,fun h8 ht=>?_⟩
 ·simp only [eW,h7] at h;simp at h;obtain ⟨x,hx,sH⟩:=List.any_eq_true.1 h.1;obtain ⟨_,hb,hK⟩:=U3 sH;obtain ⟨j,hj,rfl⟩:=List.getElem_of_mem hx
  cases hc:GO K n.ai with
  | none=>
   have:=cr hc j hj
   grind [RU]
  | some c=>
   have fU:=(bV hc).1;refine ⟨c,_,rfl,gE fU,?_⟩
   cases hb:n.ai[c].bare with
   | false=>rfl
   | true=>have:=hn.bare _ (List.getElem_mem fU) hb;omega
 ·have ee:∀ {i x},n.ai[i]? = some x->fM D x=true->bL D n.ai=some i:=fun hx h=>NP ht hx h
  have Lz:manyN D n.ai<=1:=by
   cases hc:bL D n.ai with
   | none=>exact rk (c:=0) fun i x hx hp=>by rw [ee hx hp] at hc;cases hc
   | some c=>exact rk (c:=c) fun i x hx hp=>by rw [ee hx hp] at hc;exact Option.some.inj hc
  simp only [eW,h8] at h;simp at h;rcases h with h | h
  ·obtain ⟨x,hx,sH⟩:=List.any_eq_true.1 h;obtain ⟨h1,hb,_⟩:=U3 sH;obtain ⟨j,hj,rfl⟩:=List.getElem_of_mem hx;exact ⟨j,_,ee (gE hj) h1,gE hj,hb⟩
  ·omega
theorem R7 {l:List Nat} {i v:Nat} (hi:i < l.length) (h0:l.getD i 0=0) (hv:v≠0):sP l < sP (l.set i v):=by
 have fb:HK l (l.set i v):=fun j hj=>by rw [sM hi,aj (fun h=>by subst h;exact hj h0)]
 rcases (sQ List.length_set.symm fb).1 with h | h
 all_goals grind
theorem R8 {kf:Nat->Option (Nat × Option Nat)} (hk:∀ i k,kf i=some k->k.1<=4097) {t:List Nat} (h:DL kf t):∀ z∈t,z<=4097:=fun z hz=>by
 obtain ⟨i,hi,rfl⟩:=List.getElem_of_mem hz;by_cases h0:t[i]=0
 ·omega
 ·have hg:t.getD i 0=t[i]:=by rw [bN,gE hi];all_goals rfl
  obtain ⟨k,kh,hv⟩:=h i (by rw [hg];exact h0)
  grind [othE,iM]
theorem JW (sz D:List Nat) (K:List Bool) (ND:List Nd):∀ i k,othK sz D K ND i=some k->k.1<=4097:=fun i k h=>by grind [othK,GP]
section
variable (PC:List DV) (ND:List Nd) (D:List Nat) (K:List Bool)
abbrev mk0 (e:Nat):List DV:=[.pt PC 0,.sl 7 (bG (ND.take e)) (some 0),.sl 1 (dInts D) none,.sl 1 (rr K) none,.v (.slice none 0 0),.v (.slice none 0 0)]
abbrev aen (m e:Nat):St:=
 ⟨[eX 0 PC,aE 3 0,au 4 m,au 22 ND.length,au 23 e],[mk0 PC ND D K e],[⟨e,91,7,none⟩]⟩
abbrev mkO:List DV:=[.pt PC 0,.sl 7 (bG ND) (some 0),.sl 1 (dInts D) none,.sl 1 (rr K) none,.ms 1 1 0 ND.length ND.length,.ms 2 1 0 ND.length ND.length]
theorem R9 {t o:List Nat} {bx:List (List DV)} (ht:t.length=ND.length) (ho:o.length=ND.length) (h1:bx[1]? = some (cN t)) (h2:bx[2]? = some (cN o)):CcL bx 0 0 0 (od PC ND D K t o) (mkO PC ND D K):=
 ⟨_,_,rfl,ax,_,_,rfl,ax,_,_,rfl,ax,_,_,rfl,ax,_,_,rfl,Rh ht (Nat.zero_le _) h1,_,_,rfl,Rh ho (Nat.zero_le _) h2,rfl⟩
abbrev mkT:List TkE:=[⟨ND.length,91,7,none⟩]
abbrev aeq (m d:Nat) (t o:List Nat):St:=
 ⟨[eX 0 PC,aE 3 0,au 65 (m + 1:Nat),au 66 d],[mkO PC ND D K,cN t,cN o],mkT ND⟩
abbrev aer (m d:Nat) (t o:List Nat) (e:Nat):St:=
 ⟨[eX 0 PC,aE 3 0,au 65 (m + 1:Nat),au 66 d,au 8 d,(72,⟨[],.sl 7 (bG ND) (some 0)⟩),au 73 ((bG ND).length),au 74 e],[mkO PC ND D K,cN t,cN o],mkT ND⟩
def szQ (d e:Nat):List Nat:=if d=0 then szR ND D 0 else szL ND D d e (szR ND D (d - 1))
theorem Vd (d e:Nat):(szQ ND D d e).length=ND.length:=by grind [szQ,wF,pW]
theorem Sa {d e:Nat} {n:Nd} (hn:ND[e]? = some n):szQ ND D d (e + 1)=if 0 < d/\D.getD e 0=d then (szQ ND D d e).set e (sizeF (szQ ND D d e) D n) else szQ ND D d e:=by grind [szQ,szL]
theorem szQ_end (d:Nat):szQ ND D d ND.length=szR ND D d:=by
 unfold szQ;split
 ·rename_i h;rw [h]
 ·obtain ⟨k,rfl⟩:∃ k,d=k + 1:=⟨d - 1,by omega⟩;rfl
theorem GW (d:Nat):szQ ND D d 0=szR ND D (d - 1):=by
 unfold szQ;split
 ·rename_i h;rw [h]
 ·rfl
theorem BT:∀ d,∀ z∈szR ND D d,z<=4097:=by
 have key:∀ d e t,(∀ z∈t,z<=4097)->∀ z∈szL ND D d e t,z<=4097:=fun d e t ht=>by
  induction e with
  | zero=>exact ht
  | succ e ih=>grind [szL,pX]
 intro d
 induction d with
 | zero=>intro z hz;rw [szR] at hz;rw [(List.mem_replicate.1 hz).2];omega
 | succ d ih=>exact key _ _ _ ih
theorem NR (d e:Nat):∀ z∈szQ ND D d e,z<=4097:=by
 have key:∀ d e t,(∀ z∈t,z<=4097)->∀ z∈szL ND D d e t,z<=4097:=fun d e t ht=>by
  induction e with
  | zero=>exact ht
  | succ e ih=>grind [szL,pX]
 grind [szQ,BT]
abbrev Sb (c:Bool) (t o:List Nat):St:=
 ⟨[eX 0 PC,aE 3 0,qN 11 c],[mkO PC ND D K,cN t,cN o],mkT ND⟩
abbrev L1 (c:Bool) (t o:List Nat) (e:Nat):St:=
 ⟨[eX 0 PC,aE 3 0,qN 11 c,(107,⟨[],.sl 7 (bG ND) (some 0)⟩),au 108 ((bG ND).length),au 109 e],[mkO PC ND D K,cN t,cN o],mkT ND⟩
set_option maxHeartbeats 4000000 in
theorem JX {S:Sch} (hP:dX S ND PC):EvP prog 89 [.pt PC 0] (.pt (od PC ND (depN ND ND.length) (nP ND (depN ND ND.length)) (og ND (depN ND ND.length)) (Zz (og ND (depN ND ND.length)) (depN ND ND.length) (nP ND (depN ND ND.length)) ND)) 0):=by
 have h1:=hP.len;have h2:=hP.ah;have fI:=hP.nl;have hd:=vj hP;have qc:=Ak hP;have hDO:=il ND;have hlD:=hDO.len;generalize depN ND ND.length=D at hd qc hDO hlD ⊢
 have aes:∀ i n,ND[i]? = some n->(nP ND D).getD i false=true->R4 D (nP ND D) n:=fun i n hn h=>by
  rw [<- zm,bN,List.getElem?_map,hn] at h;exact sS (hP.ok n (mG hn)) h
 have hlK:(nP ND D).length=ND.length:=sevN_len ND D _;generalize nP ND D=K at qc aes hlK ⊢;refine eG 153 [.tmp 2] func89 rfl ntmps89 rfl fun _ _ _ _=>?_;refine cP VR hd ?_;refine cP abn qc ?_;refine cP Pe h1 ?_;refine lI (fun j st=>∃ e m:Nat,st=aen PC ND D K m e/\e<=ND.length/\m<=ND.length/\(∀ i,i < e->D.getD i 0<=m)/\j=ND.length - e) ⟨0,0,rfl,by omega,by omega,fun _ h=>by omega,rfl⟩ (cX 1 ⟨0,91,7,none⟩ rfl rfl rfl qL rfl rfl wB) ?_;rintro j st ⟨e,m,rfl,he,hm,sH,rfl⟩;refine br ?_ ?_<;>intro hL
 ·have aq:e < ND.length:=sU hL;obtain ⟨n,hn⟩:=gX aq;obtain ⟨z,hz⟩:∃ z,D[e]? = some z:=⟨_,gE (by omega)⟩;have W6:D.getD e 0=z:=by rw [bN,hz];all_goals rfl
  have hzl:=hDO.le e;have dM:(bG (ND.take e)).length=e:=by rw [eT,zLenT];omega
  refine cP oE (h2 e n hn) ?_;refine dS ?_;refine ⟨dM,⟨by rw [dM];simp [maxLen];omega,by rw [dM];simp;omega⟩,?_⟩;refine iX (aR hz) ?_
  exact rE ⟨_,by omega,e + 1,max m z,rfl,by omega,by omega,fun i hi=>by
   rcases jJ hi with h | rfl
   ·have:=sH i h;omega
   ·rw [W6];omega,rfl⟩ (bZ 1 (ZX (uy hn) (show max (m:Int) z=((max m z:Nat):Int) by omega) (aG aq (by omega))) (H2 (uy hn) (show max (m:Int) z=((max m z:Nat):Int) by omega) (aG aq (by omega))))
 ·have hge:e=ND.length:=by have:=hL;simp at this;omega
  subst hge;apply R6 (.op 0 (.op 1 (.op 2 (.op 5 (.ev 3 (.ev 4 (.ev 6 (.op 8 (.op 9 (.ev 7 (.ev 10 (.op 11 (.op 12 (.ev 13 .fin .stop))) .stop) (.ev 10 (.ev 7 (.op 11 (.op 12 (.ev 13 .fin .stop))) .stop) .stop)))) .stop) (.ev 6 (.ev 4 (.op 8 (.op 9 (.ev 7 (.ev 10 (.op 11 (.op 12 (.ev 13 .fin .stop))) .stop) (.ev 10 (.ev 7 (.op 11 (.op 12 (.ev 13 .fin .stop))) .stop) .stop)))) (.ev 7 (.ev 4 (.op 8 (.op 9 (.ev 10 (.op 11 (.op 12 (.ev 13 .fin .stop))) .stop))) .stop) .stop)) .stop)) .stop))))) 1 2 mo (by decide +kernel);·repeat' (first | refine cD Pe h1 ?_ | exact ⟨rfl,by omega,by omega,by omega⟩ | exact Or.inr ⟨congrArg (fun z=>[_,z,z]) (Vc _ _).symm,rfl,by repeat' (first | exact trivial | refine ⟨rfl,?_⟩)⟩ | exact trivial | exact Or.inl (Or.inl rfl) | exact Or.inl Ri | exact vK | refine ⟨?_,?_⟩)
  ·exact (rfl:_=_)
  have vH:(List.replicate (ND.length:Int).toNat (vL [Value.int .i64 0])).flatten=cN (szR ND D 0):=by rw [Nu];all_goals rfl
  refine lJ (fun d=>aeq PC ND D K m d (szR ND D (d - 1)) (List.replicate ND.length 0)) (m + 1) (bZ 3 (by repeat' (first | exact rfl | exact aA rfl | exact cp vH | exact cH (congrArg bG (List.take_length)) rfl | exact aC (wrapN (a:=m) (b:=1) (by omega) (by omega)) | refine ⟨_,_,rfl,?_,?_⟩)) (by repeat' (first | exact trivial | exact aA rfl | exact cp vH | exact cH (congrArg bG (List.take_length)) rfl | exact aC (wrapN (a:=m) (b:=1) (by omega) (by omega)) | refine ⟨⟨_,rfl,?_⟩,?_⟩))) ?_;intro d hdm;refine br ?_ ?_<;>intro hL
  ·have cu:d < m + 1:=by have:=hL;simp at this;omega
   refine lJ (fun e=>aer PC ND D K m d (szQ ND D d e) (List.replicate ND.length 0) e) ND.length (bZ 3 (jM (congrArg cN (GW ND D d).symm)) (cJ (congrArg cN (GW ND D d).symm))) ?_;intro e he;refine br ?_ ?_<;>intro mq
   ·have aq:e < ND.length:=by have:=mq;simp [eT] at this;exact this
    obtain ⟨n,hn⟩:=gX aq;obtain ⟨z,hz⟩:∃ z,D[e]? = some z:=⟨_,gE (by omega)⟩;have W6:D.getD e 0=z:=by rw [bN,hz];all_goals rfl
    have iP:=Sa ND D (d:=d) hn;have Zq:=Vd ND D d e;have Ei:=NR ND D d e;have sI:=mG hn;have Cn:=fun h8=>GV PC ND D K (szQ ND D d e) (List.replicate ND.length 0) hlD Zq Ei (hP.ok n sI) (hP.S1 n sI) h8
    have h8:0 < d/\D.getD e 0=d->n.ag=8->∃ c e,bL D n.ai=some c/\n.ai[c]? = some e:=fun h h8=>by
     obtain ⟨c,x,hc,hx,_⟩:=hDO.U5 hn (by omega) h8;exact ⟨c,x,hc,hx⟩
    generalize szQ ND D d e=t at iP Zq Ei Cn;have gm:¬ (0 < d/\D.getD e 0=d)->t=szQ ND D d (e + 1):=fun h=>by rw [iP,aj h]
    have RY:0 < d/\D.getD e 0=d->t.set e (sizeF t D n)=szQ ND D d (e + 1):=fun h=>by rw [iP,ap h]
    refine iX (eB hn) ?_;refine br ?_ ?_<;>intro c1
    ·have c1:0 < d:=by simpa [lastG] using c1
     refine iX (aR hz) ?_;refine br ?_ ?_<;>intro c2
     ·have c2:D.getD e 0=d:=Decidable.byContradiction fun h=>by simp [lastG,pickB] at c2;omega
      have ox:=RY ⟨c1,c2⟩;have Cn:=Cn (h8 ⟨c1,c2⟩);refine dS ?_;refine km abo Cn ⟨_,_,rfl,.inr ⟨0,_,rfl,Nat.zero_le _,rfl,R9 PC ND D K Zq List.length_replicate rfl rfl⟩,_,_,rfl,ax,rfl⟩ rfl rfl ?_;refine ⟨⟨by omega,by omega⟩,?_⟩;refine ⟨by rw [y5];omega,?_⟩
      have aW:(cN t).set (0 + (e:Int).toNat * 1) (DV.v (.int .i64 (sizeF t D n:Nat)))=cN (szQ ND D d (e + 1)):=by
       rw [show 0 + (e:Int).toNat * 1=e by omega,Dt,ox]
      exact rE ⟨_,by omega,e + 1,rfl,by omega,rfl⟩ (bZ 3 (lY aW (aG aq (by omega))) (wB2 aW (aG aq (by omega))))
     ·have c2:¬ D.getD e 0=d:=fun h=>by simp [lastG,pickB] at c2;omega
      exact rE ⟨_,by omega,e + 1,rfl,by omega,rfl⟩ (bZ 3 (lY (congrArg cN (gm (fun h=>c2 h.2))) (aG aq (by omega))) (wB2 (congrArg cN (gm (fun h=>c2 h.2))) (aG aq (by omega))))
    ·have c1:¬ 0 < d:=by simpa [lastG] using c1
     exact rE ⟨_,by omega,e + 1,rfl,by omega,rfl⟩ (bZ 3 (lY (congrArg cN (gm (fun h=>c1 h.1))) (aG aq (by omega))) (wB2 (congrArg cN (gm (fun h=>c1 h.1))) (aG aq (by omega))))
   ·have hge:e=ND.length:=by have:=mq;simp [eT] at this;omega
    subst hge;exact rE ⟨_,by omega,d + 1,rfl,by omega,rfl⟩ (bZ 3 (lY (congrArg cN (szQ_end ND D d)) (wrapN (a:=d) (b:=1) (by omega) (by omega))) (wB2 (congrArg cN (szQ_end ND D d)) (wrapN (a:=d) (b:=1) (by omega) (by omega))))
  ·have Wr:d=m + 1:=by have:=hL;simp at this;omega
   subst Wr
   have fG:∀ i,D.getD i 0<=m:=fun i=>by
    rcases Nat.lt_or_ge i ND.length with h | h
    ·exact sH i h
    ·rw [bN,kE (by omega)];exact Nat.zero_le _
   have hT:szR ND D (m + 1 - 1)=og ND D:=by
    have:=LX (ND:=ND) fG (ND.length - m);rw [show m + (ND.length - m)=ND.length by omega] at this;exact this.symm
   have hTl:=DK ND D;have hTs:∀ z∈og ND D,z<=4097:=BT ND D _;have Oy:=JW (og ND D) D K ND;have aZ:∀ r,DL (othK (og ND D) D K ND) (ja (othK (og ND D) D K ND) ND.length r):=fun r=>DN r;have dK:∀ r,(ja (othK (og ND D) D K ND) ND.length r).length=ND.length:=fun r=>jI r;have tf:∀ e r,(vO (othK (og ND D) D K ND) e (ja (othK (og ND D) D K ND) ND.length r)).length=ND.length:=fun e r=>by rw [wJ];exact dK r
   have hkf:∀ i n,ND[i]? = some n->othK (og ND D) D K ND i=if K.getD i false=true then some (iu (og ND D) D K n) else none:=fun i n h=>by unfold othK;rw [h]
   have hF:Zz (og ND D) D K ND=ja (othK (og ND D) D K ND) ND.length ND.length:=rfl;rw [hF];rw [hT];generalize og ND D=t at hTl hTs Oy aZ dK tf hkf ⊢;refine aY (fun j st=>∃ (r:Nat) (c:Bool),st=Sb PC ND D K c t (ja (othK t D K ND) ND.length r)/\(c=true->r<=sP (ja (othK t D K ND) ND.length r))/\(c=false->ja (othK t D K ND) ND.length (r + 1)=ja (othK t D K ND) ND.length r)/\j=if c=true then ND.length + 1 - r else 0) (ND.length + 1) (Sb PC ND D K true t (ja (othK t D K ND) ND.length 0)) (bZ 3 qL lj) ⟨0,true,rfl,fun _=>Nat.zero_le _,fun h=>(by cases h),by simp⟩ ?_;rintro j st ⟨r,c,rfl,Oq,hcf,rfl⟩;refine br ?_ ?_<;>intro hc
   ·have hc:c=true:=hc;subst hc;have hcr:=Oq rfl;have hcn:=L0 (ja (othK t D K ND) ND.length r);rw [dK] at hcn;refine lI (fun j st=>∃ (e:Nat) (c':Bool),st=L1 PC ND D K c' t (vO (othK t D K ND) e (ja (othK t D K ND) ND.length r)) e/\e<=ND.length/\(c'=true->sP (ja (othK t D K ND) ND.length r) < sP (vO (othK t D K ND) e (ja (othK t D K ND) ND.length r)))/\(c'=false->vO (othK t D K ND) e (ja (othK t D K ND) ND.length r)=ja (othK t D K ND) ND.length r)/\j=ND.length - e) ⟨0,false,rfl,by omega,fun h=>(by cases h),fun _=>rfl,rfl⟩ (bZ 3 qL lj) ?_;rintro j st ⟨e,c',rfl,he,qb,S3,rfl⟩;refine br ?_ ?_<;>intro mq
    ·have aq:e < ND.length:=by have:=mq;simp [eT] at this;exact this
     obtain ⟨n,hn⟩:=gX aq;obtain ⟨b,hb⟩:∃ b,K[e]? = some b:=⟨_,gE (by omega)⟩;have hbd:K.getD e false=b:=by rw [bN,hb];all_goals rfl
     have lx:=tf e r;have hoo:=(DM (kf:=othK t D K ND) e (by rw [dK];omega) (aZ r)).1;have zN:=R8 Oy hoo;have hk:=hkf e n hn;have sI:=mG hn;have hsd:=fun hS=>DQ PC ND D K t (vO (othK t D K ND) e (ja (othK t D K ND) ND.length r)) hlD hlK hTl lx hTs zN (hP.ok n sI) (hP.S1 n sI) hS;have EA:=aes e n hn;have iP:vO (othK t D K ND) (e + 1) (ja (othK t D K ND) ND.length r)=otI (othK t D K ND) e (vO (othK t D K ND) e (ja (othK t D K ND) ND.length r)):=rfl;have Kw:=@BR (othK t D K ND) e _ hoo;generalize vO (othK t D K ND) e (ja (othK t D K ND) ND.length r)=o at qb S3 lx hoo zN hsd iP Kw ⊢;obtain ⟨z,hz⟩:∃ z,o[e]? = some z:=⟨_,gE (by omega)⟩;have W6:o.getD e 0=z:=by rw [bN,hz];all_goals rfl
     refine iX (eB hn) ?_;refine iX (sq hb) ?_;refine br ?_ ?_<;>intro c1
     ·have c1:b=true:=by simpa [lastG] using c1
      refine ⟨⟨by omega,by omega⟩,?_⟩;refine ⟨DV.v (.int .i64 (z:Int)),(by rw [show 0 + (e:Int).toNat * 1=e by omega];exact Ds hz),?_⟩;refine br ?_ ?_<;>intro c2
      ·have c2:z=0:=by simpa [lastG,pickB] using c2
       rw [hbd,c1,ap rfl] at hk;have ox:vO (othK t D K ND) (e + 1) (ja (othK t D K ND) ND.length r)=o.set e (othE o (iu t D K n)):=by rw [iP];unfold otI;rw [hk]
       have fb:=(R0 (kf:=othK t D K ND) (i:=e) (by omega) hoo).2;rw [<- iP,ox] at fb;have hcs:=fun hv=>R7 (l:=o) (i:=e) (v:=othE o (iu t D K n)) (by omega) (by rw [W6];exact c2) hv;have fU:=(sQ List.length_set.symm fb).2;have s7:othE o (iu t D K n)=0->o.set e (othE o (iu t D K n))=o:=fun h=>GS _ (by rw [W6,c2,h]);have hsd:=hsd (EA (by rw [hbd];exact c1));generalize othE o (iu t D K n)=v at ox fb hcs fU s7 hsd;refine dS ?_;refine km abp hsd ⟨_,_,rfl,.inr ⟨0,_,rfl,Nat.zero_le _,rfl,R9 PC ND D K hTl lx rfl rfl⟩,_,_,rfl,ax,rfl⟩ rfl rfl ?_;refine ⟨⟨by omega,by omega⟩,?_⟩;refine ⟨by rw [y5];omega,?_⟩
       have aW:(cN o).set (0 + (e:Int).toNat * 1) (DV.v (.int .i64 (v:Nat)))=cN (o.set e v):=by
        rw [show 0 + (e:Int).toNat * 1=e by omega,Dt]
       have hvg:(cN (o.set e v))[e]? = some (DV.v (.int .i64 (v:Nat))):=Ds (by rw [gz (by omega)]);refine br ?_ ?_<;>intro c3
       ·have c3:c'=false:=by simpa [lastG] using c3
        have S3:=S3 c3;refine ⟨⟨by omega,by omega⟩,?_⟩;refine ⟨DV.v (.int .i64 (v:Nat)),(by rw [aW,show 0 + (e:Int).toNat * 1=e by omega];exact hvg),?_⟩;have eN:v≠0->sP (ja (othK t D K ND) ND.length r) < sP (vO (othK t D K ND) (e + 1) (ja (othK t D K ND) ND.length r)):=fun h=>by rw [ox,<- S3];exact hcs h
        have hold:v=0->vO (othK t D K ND) (e + 1) (ja (othK t D K ND) ND.length r)=ja (othK t D K ND) ND.length r:=fun h=>by rw [ox,s7 h,S3]
        have Ve:=cp (n:=3) (m:=1) (tk:=mkT ND) (aW.trans (congrArg cN ox.symm));clear ox fb fU s7 hcs aW hvg hsd
        cases v with
        | zero=>exact ⟨L1 PC ND D K false t (vO (othK t D K ND) (e + 1) (ja (othK t D K ND) ND.length r)) (e + 1),(bZ 3 (by repeat' (first | exact rfl | exact aA rfl | exact cp rfl | exact Ve | exact aC (aG aq (by omega)) | refine ⟨_,_,rfl,?_,?_⟩)) (by repeat' (first | exact trivial | exact aA rfl | exact cp rfl | exact Ve | exact aC (aG aq (by omega)) | refine ⟨⟨_,rfl,?_⟩,?_⟩))),ND.length - (e + 1),by omega,e + 1,false,rfl,by omega,fun h=>(by cases h),fun _=>hold rfl,rfl⟩
        | succ v=>
         have hp:DV.v (.bool (decide ((0:Int) < ((v + 1:Nat):Int))))=DV.v (.bool true):=congrArg (fun b=>DV.v (.bool b)) (decide_eq_true (by omega));exact ⟨L1 PC ND D K true t (vO (othK t D K ND) (e + 1) (ja (othK t D K ND) ND.length r)) (e + 1),(bZ 3 (by repeat' (first | exact rfl | exact aA rfl | exact cp rfl | exact Ve | exact Or.inl ⟨hp,rfl⟩ | exact aC (aG aq (by omega)) | refine ⟨_,_,rfl,?_,?_⟩)) (by repeat' (first | exact trivial | exact aA rfl | exact cp rfl | exact Ve | exact Or.inl ⟨hp,rfl⟩ | exact aC (aG aq (by omega)) | refine ⟨⟨_,rfl,?_⟩,?_⟩))),ND.length - (e + 1),by omega,e + 1,true,rfl,by omega,fun _=>eN (Nat.succ_ne_zero v),fun h=>(by cases h),rfl⟩
       ·have c3:c'=true:=by simpa [lastG] using c3
        have qb:=qb c3;exact ⟨L1 PC ND D K true t (vO (othK t D K ND) (e + 1) (ja (othK t D K ND) ND.length r)) (e + 1),(bZ 3 (ZX (aW.trans (congrArg cN ox.symm)) (aG aq (by omega)) c3) (H2 (aW.trans (congrArg cN ox.symm)) (aG aq (by omega)) c3)),ND.length - (e + 1),by omega,e + 1,true,rfl,by omega,fun _=>by rw [ox];omega,fun h=>(by cases h),rfl⟩
      ·have c2:¬ z=0:=by simpa [lastG,pickB] using c2
       have OA:=iP.trans (Kw (by rw [W6];exact c2));exact rE ⟨_,by omega,e + 1,c',rfl,by omega,by rw [OA];exact qb,by rw [OA];exact S3,rfl⟩ (bZ 3 (lY (congrArg cN OA.symm) (aG aq (by omega))) (wB2 (congrArg cN OA.symm) (aG aq (by omega))))
     ·have c1:b=false:=by simpa [lastG] using c1
      have OA:vO (othK t D K ND) (e + 1) (ja (othK t D K ND) ND.length r)=o:=by rw [iP];unfold otI;rw [hk,hbd,c1];all_goals rfl
      exact rE ⟨_,by omega,e + 1,c',rfl,by omega,by rw [OA];exact qb,by rw [OA];exact S3,rfl⟩ (bZ 3 (lY (congrArg cN OA.symm) (aG aq (by omega))) (wB2 (congrArg cN OA.symm) (aG aq (by omega))))
    ·have hge:e=ND.length:=by have:=mq;simp [eT] at this;omega
     subst hge;have hR:vO (othK t D K ND) ND.length (ja (othK t D K ND) ND.length r)=ja (othK t D K ND) ND.length (r + 1):=rfl;rw [hR] at qb S3;refine ⟨Sb PC ND D K c' t (ja (othK t D K ND) ND.length (r + 1)),(bZ 3 qL lj),if c'=true then ND.length + 1 - (r + 1) else 0,?_,r + 1,c',rfl,fun h=>by have:=qb h;omega,fun h=>?_,rfl⟩
     ·rw [ap rfl];split<;>omega
     ·show vO _ _ (ja (othK t D K ND) ND.length (r + 1))=_;rw [S3 h,hR,S3 h]
   ·have hc:c=false:=hc;rw [U8 (hcf hc)];exact ⟨.pt (od PC ND D K t (ja (othK t D K ND) ND.length ND.length)) 0,Or.inr ⟨0,_,rfl,Nat.zero_le _,rfl,R9 PC ND D K hTl (dK _) rfl rfl⟩,rfl⟩
end
end Go.Proofs.YtgjagnmeonoehaaGreat
namespace Go.Proofs.YtgjagnmeonoehaaGreat
namespace Dv
open Go Go.RowKit
section
variable {X:Ctx} {st:St} {k:List It} {E:En} {a:Act} {w:World} {o:Oper}
theorem ZA {t d et e iT n len:Nat} {bb:Bool} {z:List Value} {parts:Array (Nat × Operand)} {es:List (List DV)} (qq:o.op = .buildSlice t len parts) (jm:o.dst=some d) (hT:X.T.find t=some ⟨n,bb,.sl et e iT,z⟩) (iO:litL e st parts.toList 0=some es)
  (hc:(Nat.beq es.length len && (Nat.blt 0 len && Nat.blt 0 e && Nat.ble (len * e) 16777216))=true) (hd:eJ X.nt st.sl (some d)=true) (aW:X.still=false:=by exact rfl) (hX:X.bt=[]:=by exact rfl) :
  OpS X o st ⟨(d,⟨[],.sl 0 (List.replicate len []) (some st.tk.length)⟩) :: st.sl,st.bx,st.tk ++ [⟨len,et,e,some es.flatten⟩]⟩:=by
 intro E a w h;simp only [bc,Nat.beq_eq,Nat.ble_eq,Nat.blt_eq] at hc;obtain ⟨hlen,⟨jk,Ee⟩,hsm⟩:=hc;obtain ⟨hu,ii,zv,xg,hz,bW,vR,Og⟩:=fh X.hT hT;obtain ⟨xs,vs,hp,xi,zU,fU,Hz,kM⟩:=mX h.rl Ee iO;subst bW
 have Mf:len * ii.size≠0:=by
  have:=Nat.mul_pos jk Ee;omega
 have l7:Instr.fill (fun i=>some (i * ii.size,ii.size)) ((Array.range (len * ii.size)).map (zv.cells[·% zv.cells.size]!)) (parts.map fun (i,x)=>(i,a.eval x)).toList=some (cellsL vs).toArray:=by
  have h0:=rA ii.size vs 0 ((Array.range (len * ii.size)).map (zv.cells[·% zv.cells.size]!)).toList fU (by simp [zU,hlen])
  have h1:(parts.map fun (i,x)=>(i,a.eval x)).toList=enumF 0 vs:=by
   rw [Array.toList_map,hp,xi,<- pf]
  rw [h1];simp only [Array.toArray_toList] at h0;rw [h0];simp [zU,hlen]
 have ct:(execOp a.eval o).run X.P w = .ok (.value (.slice (some ⟨w.heap.size,0,none⟩) len len)) (w.alloc (.cells (cellsL vs).toArray et)):=by
  simp only [execOp,qq,Sem.run_bind,run_buildSlice w t et len _ _ ii zv hu xg hz (by omega) Mf l7,Result.andThen_ok,Sem.run_pure]
 have Bf:(cellsL vs).length=len * ii.size:=by
  have:∀ l:List Value,(∀ v∈l,v.cells.toList.length=ii.size)->(cellsL l).length=l.length * ii.size:=by
   intro l
   induction l with
   | nil=>intro _;simp [cellsL]
   | cons v l ih=>grind [cellsL]
  rw [this vs fU,zU,hlen]
 refine eO ct ?_;rw [jm]
 have XF:es.flatten.length=len * ii.size:=by
  have h1:=Hz.1.length;rw [<- h1,Bf]
 have LL:RvC ⟨E.c,[],[],[]⟩ es.flatten ((cellsL vs).toArray.toList.take (len * ii.size)):=by
  rw [List.take_of_length_le (by simp [Bf])];exact Hz
 have hlm:len<=maxLen:=by
  have:len<=len * ii.size:=Nat.le_mul_of_pos_right _ Ee;unfold maxLen;omega
 have kh:=h.env.kb (w':=w.alloc (.cells (cellsL vs).toArray et)) fun i hi=>alloc_old w _ hi
 let E2:En:=⟨E.c,E.β,E.tk ++ [⟨len,et,ii.size,some es.flatten⟩],E.τ ++ [.slice (some ⟨w.heap.size,0,none⟩) len len]⟩
 have hext:Ext E E2:=⟨fun _ _ h=>h,fun _ _ h=>h,fun k q' hk=>by
  have aq:=(gS hk).1;refine ⟨q',by show (E.tk ++ _)[k]? = _;rw [dc aq];exact hk,.inl ⟨rfl,?_⟩⟩;show (E.τ ++ _)[k]? = _
  rw [dc (by rw [h.env.tl];exact aq)]⟩
 have hτ:∀ (k:Nat) y,E2.τ[k]? = some y->(k < E.τ.length/\E.τ[k]? = some y)∨(k=E.τ.length/\y = .slice (some ⟨w.heap.size,0,none⟩) len len):=fun k y hy=>by grind
 have dJ:∀ (k:Nat) y g,E.τ[k]? = some y->y.ownBlock=some g->g < w.heap.size:=fun k y g hy hg=>(h.env.own (mG hy) hg).1
 have bS:Rel X E2 ⟨st.sl,st.bx,st.tk ++ [⟨len,et,ii.size,some es.flatten⟩]⟩ a (w.alloc (.cells (cellsL vs).toArray et)):=by
  refine dE h hext ?_ (by show E.tk ++ _=_;rw [h.tk]) ?_ (h.fr.alloc _) (mV aW) (.nil hX)
  ·exact {
    len:=h.env.len
    tl:=by show (E.τ ++ _).length=(E.tk ++ _).length;simp [h.env.tl]
    eM:=fun i cs hi=>by
     obtain ⟨b,t,arr,hb,hw,hc⟩:=kh.eM i cs hi;exact ⟨b,t,arr,hb,hw,hc.mono hext⟩
    inj:=h.env.inj
    sub:=kh.sub
    pc:=h.env.pc
    bO:=fun k q' y WJ hy=>by
     rcases hτ k y hy with ⟨aq,gp⟩ | ⟨rfl,rfl⟩
     ·have fH:(E.tk ++ [⟨len,et,ii.size,some es.flatten⟩])[k]? = some q':=WJ;rw [dc (by rw [<- h.env.tl];exact aq)] at fH;exact kh.bO k q' y fH gp
     ·have fH:(E.tk ++ [⟨len,et,ii.size,some es.flatten⟩])[E.τ.length]? = some q':=WJ;rw [List.getElem?_append_right (by rw [h.env.tl];exact aV _),h.env.tl] at fH;simp only [Nat.sub_self,List.getElem?_cons_zero,oI] at fH;subst fH;refine .inr ⟨w.heap.size,len,(cellsL vs).toArray,rfl,jd w _,⟨by simp [Bf],fun cs hc=>by cases hc;exact ⟨XF,LL⟩⟩,aV _,hlm,fun hm=>?_,fun x v hx Ec=>?_⟩
      ·have:=h.env.bh hm;omega
      ·have:=World.block_lt_of_cell? w x (h.env.sub x v hx);omega
    je:=fun k k' y y' g Eb hy gp hg rm=>by
     rcases hτ k y hy with ⟨_,uU⟩ | ⟨rfl,rfl⟩
     ·rcases hτ k' y' gp with ⟨_,lk⟩ | ⟨rfl,rfl⟩
      ·exact h.env.je k k' y y' g Eb uU lk hg rm
      ·have:=dJ k y g uU hg;simp only [Value.ownBlock,oI] at rm;omega
     ·rcases hτ k' y' gp with ⟨_,lk⟩ | ⟨rfl,rfl⟩
      ·have:=dJ k' y' g lk rm;simp only [Value.ownBlock,oI] at hg;omega
      ·exact Eb rfl }
  ·exact {
    c:=h.nw.c
    cn:=h.nw.cn
    β:=h.nw.β
    tk:=fun j q0 y0 s5 zT=>by
     obtain ⟨q',y',h1,h2,h3⟩:=h.nw.tk j q0 y0 s5 zT;exact ⟨q',y',by show (E.tk ++ _)[j]? = _;rw [dc (gS h1).1];exact h1,by show (E.τ ++ _)[j]? = _;rw [dc (gS h2).1];exact h2,h3⟩
    tn:=fun j y g hj hy hg=>by
     rcases hτ j y hy with ⟨_,uU⟩ | ⟨_,rfl⟩
     ·exact h.nw.tn j y g hj uU hg
     ·simp only [Value.ownBlock,oI] at hg;have:=h.fr.size;omega
    l0:=h.nw.l0 }
 refine ⟨E2,bi bS hd (.sl 0 (List.replicate len []) (some st.tk.length)) _ ?_,hext,⟨[],by simp [E2]⟩,fun i b hb _=>alloc_old w _ (h.env.bh (mG hb))⟩;unfold Rv;refine ⟨_,_,_,rfl,⟨by rw [List.length_replicate],aV _⟩,fun bA=>⟨rfl,tB _ _ _ _⟩,fun k' fH=>?_⟩;cases fH;refine ⟨⟨len,et,ii.size,some es.flatten⟩,?_,aV _,fun _=>?_⟩
 ·show (E.tk ++ _)[st.tk.length]? = _;rw [h.tk];simp
 ·show (E.τ ++ _)[st.tk.length]? = _;rw [<- h.tk,<- h.env.tl];simp
theorem Vf {t d et e iT n len:Nat} {bb:Bool} {z:List Value} {parts:Array (Nat × Operand)} {es:List (List DV)} (qq:o.op = .buildSlice t len parts) (jm:o.dst=some d) (hT:X.T.find t=some ⟨n,bb,.sl et e iT,z⟩) (iO:litL e st parts.toList 0=some es)
  (hc:(Nat.beq es.length len && (Nat.blt 0 len && Nat.blt 0 e && Nat.ble (len * e) 16777216))=true) (hd:eJ X.nt st.sl (some d)=true) (aW:X.still=false:=by exact rfl) (hX:X.bt=[]:=by exact rfl)
  (hk:go X 4000 k ⟨(d,⟨[],.sl 0 (List.replicate len []) (some st.tk.length)⟩) :: st.sl,st.bx,st.tk ++ [⟨len,et,e,some es.flatten⟩]⟩):Md X o k st:=(ZA qq jm hT iO hc hd aW hX).g hk
end
end Dv
end Go.Proofs.YtgjagnmeonoehaaGreat
namespace Go.Proofs.YtgjagnmeonoehaaGreat
namespace Dv
open Go Go.RowKit
theorem GX {E E':En} {x x':DV} (h:∀ z,Rv E x z->Rv E' x' z):∀ {l:List DV} {vs:List Value},(∀ d∈l,∃ v,d = .v v)->RvL E (l ++ [x]) vs->RvL E' (l ++ [x']) vs
 | [],vs,_,hv=>by grind [RvL]
 | d :: r,vs,hl,hv=>by
  simp only [List.cons_append,RvL] at hv ⊢;obtain ⟨v,s,rfl,h1,h2⟩:=hv;refine ⟨v,s,rfl,?_,GX h (fun d hd=>hl d (gJ _ hd)) h2⟩;obtain ⟨u,rfl⟩:=hl d List.mem_cons_self;unfold Rv at h1 ⊢;exact h1
theorem Sc {E:En} {w w':World} {v:Value} {l:List DV} {es ns:List (List DV)} {n ty e:Nat} (Vg:Env E [] w) (jl:E.tk=[]) (hl:∀ d∈l,∃ v,d = .v v) (wb:∀ x∈ns,x.length=e) (fI:ns.length=n) (iO:es.length=n)
  (hc:oo false E w (fun r _ bO=>r = .agg (l ++ [.sl 0 es (some 0)])/\bO=[⟨n,ty,e,some ns.flatten⟩]) v w' true):oo false E w (fun d _ _=>d = .agg (l ++ [.sl e ns none])) v w':=by
 obtain ⟨hm,hs,d,os,E2,he,hβ,hZ,hn,Cr,rfl,qg⟩:=hc
 have zN:os=[]:=by
  have h1:=he.len;have h2:=Vg.len
  grind
 subst zN;have hτl:E2.τ.length=1:=by rw [he.tl,qg];all_goals rfl
 obtain ⟨y,hy⟩:∃ y,E2.τ[0]? = some y:=⟨_,gE (by omega)⟩;have hq:E2.tk[0]? = some ⟨n,ty,e,some ns.flatten⟩:=by rw [qg];all_goals rfl
 have Ab:=he.bO 0 _ y hq hy
 have fb:∀ x u,E2.c x=some u->tV E2 w' y (n * e) x=some u:=fun x u hx=>by
  unfold tV;split
  ·exact he.sub x u hx
  ·exact hx
 refine ⟨hm,hs,.agg (l ++ [.sl e ns none]),[],⟨tV E2 w' y (n * e),E2.β,[],[]⟩,?_,hβ,?_,?_,?_,rfl⟩
 ·exact {
   len:=he.len
   tl:=rfl
   eM:=fun i cs hi=>by simp at hi
   inj:=he.inj
   sub:=fun x u hx=>by
    rcases gg hx with ⟨_,_,_,h1⟩ | h1
    ·exact h1
    ·exact he.sub x u h1
   pc:=fun x u hx hm=>by
    rcases gg hx with ⟨h1,_⟩ | h1
    ·exact (jj Ab h1).2 hm
    ·exact he.pc x u h1 hm
   bO:=fun j q y hj _=>by simp at hj
   je:=fun j j' y y' g _ hj _ _=>by simp at hj }
 ·show 0=_;rw [jl];all_goals rfl
 ·exact {
   c:=fun x u hx=>fb x u (hn.c x u hx)
   cn:=fun x u hx=>by
    rcases gg hx with ⟨h1,_⟩ | h1
    ·exact .inr (.inl (hn.tn 0 y _ (by rw [jl];exact aV _) hy h1))
    ·exact hn.cn x u h1
   β:=hn.β
   tk:=fun j q0 y0 s5 _=>by rw [jl] at s5;simp at s5
   tn:=fun j y g _ hj _=>by simp at hj
   l0:=hn.l0 }
 ·unfold Rv at Cr ⊢;obtain ⟨vs',rfl,hL,h1c⟩:=Cr;refine ⟨vs',rfl,GX (fun z hz=>?_) hl hL,h1c⟩;unfold Rv at hz ⊢;obtain ⟨b,m,cap,rfl,⟨rfl,hmc⟩,hr,aW⟩:=hz;obtain ⟨q',jX,_,hτ⟩:=aW 0 rfl;rw [hq] at jX;simp only [oI] at jX;subst jX;have lk:=hτ iO;rw [hy] at lk;simp only [oI] at lk;subst lk;refine ⟨b,es.length,cap,rfl,⟨by omega,hmc⟩,fun bA=>?_,fun k' fH=>by cases fH⟩;rcases Ab with ⟨h1,h2,h3⟩ | ⟨g,Xw,cur,h0,h1,h2,h3,h4,h5,h6⟩
  ·grind
  ·injection h0 with i1 i2 i3
   subst i1;refine ⟨rfl,?_⟩;obtain ⟨h7,h8⟩:=h2.2 _ rfl;refine rvEs_flat (h8.mono (E:=⟨E2.c,[],[],[]⟩) ⟨fb,fun _ _ h=>by simp at h,fun _ _ h=>by simp at h⟩) wb fun j u hj=>?_;rw [cR] at hj;split at hj
   ·rename_i ll;show tV E2 w' _ (n * e) _=_;unfold tV;rw [ap ⟨rfl,rfl,by simpa [ao] using ll⟩];simp only [ab,ao,Nat.zero_add];rw [cC h1];simpa using hj
   ·cases hj
theorem NS {E:En} {w w':World} {v:Value} {d:DV} (jl:E.tk=[]) (hc:oo false E w (fun r _ bO=>r=d/\bO=[]) v w' true):oo false E w (fun r _ _=>r=d) v w':=by
 obtain ⟨hm,hs,d,os,E2,he,hβ,hZ,hn,Cr,rfl,qg⟩:=hc;exact ⟨hm,hs,d,os,E2,he,hβ,by rw [qg,jl];exact (rfl:(0:Nat)=0),hn,Cr,rfl⟩
theorem Vh {s:Bool} {E:En} {w w':World} {v:Value} {fr:Bool} {A B:DV->List (List DV)->List TkE->Prop} (h:oo s E w (fun r o t=>A r o t∨B r o t) v w' fr):oo s E w A v w' fr∨oo s E w B v w' fr:=by
 obtain ⟨hm,hs,d,os,E2,he,hβ,hZ,hn,Cr,h1 | h1⟩:=h
 ·exact .inl ⟨hm,hs,d,os,E2,he,hβ,hZ,hn,Cr,h1⟩
 ·exact .inr ⟨hm,hs,d,os,E2,he,hβ,hZ,hn,Cr,h1⟩
theorem NT {s:Bool} {E:En} {w w':World} {v:Value} {fr:Bool} {A B:DV->List (List DV)->List TkE->Prop} (h:oo s E w A v w' fr) (hAB:∀ r o t,A r o t->B r o t):oo s E w B v w' fr:=by
 obtain ⟨hm,hs,d,os,E2,he,hβ,hZ,hn,Cr,h1⟩:=h;exact ⟨hm,hs,d,os,E2,he,hβ,hZ,hn,Cr,hAB _ _ _ h1⟩
end Dv
end Go.Proofs.YtgjagnmeonoehaaGreat
set_option maxRecDepth 100000
namespace Go.Proofs.YtgjagnmeonoehaaGreat
open Go Go.RowKit Dv Go.Proofs.Tryz
theorem uM {α:Type} {c:Nat} {x:List α}:∀ {l:List (List α)} {e:Nat},(∀ y∈l,y.length=c)->e < l.length->(l.set e x).flatten=l.flatten.take (e * c) ++ x ++ l.flatten.drop (e * c + c)
 | [],e,_,h=>by simp at h
 | y :: r,0,hl,h=>by
  have hy:=hl y (by simp);subst hy;simp
 | y :: r,e + 1,hl,h=>by
  have hy:=hl y (by simp);have ih:=uM (x:=x) (l:=r) (e:=e) (fun z hz=>hl z (by simp [hz])) (sU h);have h1:(e + 1) * c=y.length + e * c:=by rw [hy,Nat.add_mul,Nat.one_mul,Nat.add_comm]
  have h2:(e + 1) * c + c=y.length + (e * c + c):=by rw [h1];omega
  rw [List.set_cons_succ,List.flatten_cons,List.flatten_cons,ih,h2,h1,List.take_length_add_append,List.drop_length_add_append];simp
theorem im:∀ (l:List Val),∀ x∈dVals l,x.length=4
 | [],x,h=>by simp [dVals] at h
 | .mk _ _ _ _ :: r,x,h=>by
  rw [dVals] at h;rcases dN h with h | h
  ·rw [h];all_goals rfl
  ·exact im r x h
theorem BU (l:List Val) (e:Nat) (y:Val):dVals (l.set e y)=(dVals l).set e (bg y):=by rw [dH,dH,List.map_set]
def DR (v:Val) (r:DV) (bO:List TkE):Prop:=
 (r = .agg ([.v (.int .i64 v.k),.v (.int .i64 v.n),.v (.string v.s)] ++ [.sl 0 (List.replicate v.ks.length []) (some 0)])/\bO=[⟨v.ks.length,34,4,some (dVals v.ks).flatten⟩])∨(v.ks=[]/\r = .agg (bg v)/\bO=[])
theorem DS {P:Program} {f:FuncId} {args:List DV} {v:Val} (hc:Tj P f args [] [] (fun r _ bO=>DR v r bO)):EvP P f args (.agg (bg v)):=by
 intro E w vs Vg jl hv;refine (hc E w vs Vg jl hv).mono ?_;rintro ex w' ⟨x,rfl,h⟩;obtain ⟨k,n,s,ks⟩:=v;rcases Vh h with h | h
 ·exact ⟨x,rfl,Sc (l:=[.v (.int .i64 k),.v (.int .i64 n),.v (.string s)]) Vg jl (by simp) (im ks) (cA ks) List.length_replicate h⟩
 ·refine ⟨x,rfl,NS jl (NT h fun r o t ht=>ht.2)⟩
section
variable (PC:List DV) (ND:List Nd) (D:List Nat) (K:List Bool) (sz ot:List Nat) {L:Nat}
abbrev Sd (n:Nd) (cs:List DV) (e:Nat):St:=
 ⟨[eX 0 (od PC ND D K sz ot),aE 4 0,aE 6 2,aM 30 10 (dT n.ai),au 31 ((dT n.ai).length),au 32 e],[JP,j5 n,[.v (.int .i64 7),.v (.int .i64 0),.v (.string .empty),.sl 0 (List.replicate e []) (some 0)]],[⟨e,34,4,some cs⟩]⟩
theorem one_f (hO:gB ND D) (aZ:∀ n∈ND,cf L ND.length n) (bW:∀ n∈ND,n.ai.length<=1099511627776):∀ (f i:Nat),i < ND.length->0 < D.getD i 0->D.getD i 0<=f->Tj prog 92 [.pt (od PC ND D K sz ot) 0,.v (.int .i64 i)] [] [] (fun r _ bO=>DR (firstV ND D f i) r bO)
 | 0,i,_,h0,h1=>by omega
 | f + 1,i,hi,h0,h1=>by
  have ih:=fun j hj h0 h1=>DS (one_f hO aZ bW f j hj h0 h1);obtain ⟨n,hn⟩:∃ n,ND[i]? = some n:=⟨_,gE hi⟩;have sI:=mG hn;have hN:=aZ n sI;have Hz:=hO.Zy hn h0;have O5:=hO.U5 hn h0;have HJ:=choose_spec PC ND D K sz ot hO.len hN (bW n sI);have kM:=bW n sI;have bR:=hN.fB;have iZ:=hN.bare
  have hF:firstV ND D (f + 1) i=if n.ag=2 then dr 2 n.lo
   else if n.ag=7 then .mk 7 0 ay (n.ai.map fun e=>firstV ND D f e.to.toNat)
   else if n.ag=8 then (match bL D n.ai with | some c=>tagV (firstV ND D f) n.ai c | none=>dr 8 0)
   else dr n.ag 0:=by rw [firstV,hn];all_goals rfl
  generalize firstV ND D (f + 1) i=F at hF;generalize D.getD i 0=di at Hz O5 h1;obtain ⟨ag,aO,lo,iw,most,af,es⟩:=n;simp only at Hz O5 HJ bR kM hF iZ;have cu:=bw es;refine nf (s:=false) (bt:=[]) (mu:=[65]) (hbt:=fun p hp=>by cases hp) (fr:=true) (P:=prog) tt nV 5000 68 [.cell 4 34] func92 rfl ntmps92 rfl (nL rfl) (fun _ _ _ _=>?_);refine iX (eB hn) ?_;refine br ?_ ?_<;>intro c2
  ·have c2:ag=2:=sU c2;rw [ap c2] at hF;have hΦ:DR F (.agg (bg (dr ag lo))) []:=by rw [hF,c2];exact .inr ⟨rfl,rfl,rfl⟩
   exact ⟨.agg (bg (dr ag lo)),[],ax,rfl,hΦ⟩
  have c2:¬ ag=2:=sU c2;rw [aj c2] at hF;refine br ?_ ?_<;>intro c7
  ·have c7:ag=7:=sU c7;rw [ap c7] at hF;have Hz:=Hz c7;refine lI (fun j st=>∃ (e:Nat) (cs:List DV),st=Sd PC ND D K sz ot ⟨ag,aO,lo,iw,most,af,es⟩ cs e/\cs=(dVals ((es.take e).map fun e=>firstV ND D f e.to.toNat)).flatten/\e<=es.length/\j=es.length - e) ⟨0,[],rfl,rfl,by omega,rfl⟩ (cX 3 ⟨0,34,4,some []⟩ rfl rfl rfl (jM c7) rfl rfl (cJ c7)) ?_;rintro j st ⟨e,cs,rfl,hcs,he,rfl⟩;refine br ?_ ?_<;>intro hL
   ·have aq:e < es.length:=sV cu hL;obtain ⟨x,hx⟩:=gX aq;obtain ⟨Vi,hx1⟩:=Hz x (mG hx);have ra:x.bare=false:=by grind
    obtain ⟨k,hk,gl⟩:=(bR x (mG hx)).to1 ra;have hek:cz D x=D.getD k 0:=by unfold cz;rw [hk,eH]
    have ee:=ih k gl (by omega) (by omega)
    have dx:(dVals ((es.take (e + 1)).map fun e=>firstV ND D f e.to.toNat)).flatten=cs ++ bg (firstV ND D f k):=by
     rw [hcs,dZ hx,List.map_append,dH,dH];simp [hk]
    generalize firstV ND D f k=u at ee dx;obtain ⟨uk,un,us,ul⟩:=u;obtain ⟨en,eb,ea,et,rb,ew,ln,ti,ru,pS⟩:=x;simp only at hk;subst hk;refine iX (aS hx) ?_;refine dS ?_;refine cD zY ee ?_;refine ⟨⟨⟨List.length_replicate,by simp⟩,by simp [maxLen];omega,by simp;omega⟩,?_⟩;exact ⟨Sd PC ND D K sz ot ⟨ag,aO,lo,iw,most,af,es⟩ _ (e + 1),(bZ 3 (jM (aG aq (by omega))) (cJ (aG aq (by omega)))),es.length - (e + 1),by omega,e + 1,_,rfl,dx.symm,by omega,rfl⟩
   ·have hge:e=es.length:=sW cu hL;subst hge;rw [List.take_length] at hcs
    have hΦ:DR F (.agg [.v (.int .i64 7),.v (.int .i64 0),.v (.string .empty),.sl 0 (List.replicate es.length []) (some 0)]) [⟨es.length,34,4,some cs⟩]:=by
     rw [hF,hcs];refine .inl ⟨?_,?_⟩
     ·simp [Val.k,Val.n,Val.s,Val.ks];rfl
     ·simp [Val.ks]
    exact ⟨.agg [.v (.int .i64 7),.v (.int .i64 0),.v (.string .empty),.sl 0 (List.replicate es.length []) (some 0)],[],gQ,rfl,hΦ⟩
  have c7:¬ ag=7:=sU c7;rw [aj c7] at hF;refine br ?_ ?_<;>intro c8
  ·have c8:ag=8:=sU c8;subst c8;obtain ⟨c,x,hc,hx,hp⟩:=O5 rfl;rw [ap rfl,hc] at hF;rw [hc] at HJ;refine cP KN HJ ?_;refine ⟨_,⟨eY _,aS hx⟩,?_⟩;refine br ?_ ?_<;>intro cb
   ·have cb:x.bare=false:=sU cb;obtain ⟨Vi,hx1⟩:=hp cb;obtain ⟨k,hk,gl⟩:=(bR x (mG hx)).to1 cb;have hek:cz D x=D.getD k 0:=by unfold cz;rw [hk,eH]
    have ee:=ih k gl (by omega) (by omega);have hF2:F = .mk 8 c ay [firstV ND D f k]:=by rw [hF];simp only [tagV,hx,cb];rw [hk];all_goals rfl
    generalize firstV ND D f k=u at ee hF2;obtain ⟨uk,un,us,ul⟩:=u;obtain ⟨en,eb,ea,et,rb,ew,ln,ti,ru,pS⟩:=x;simp only at hk;subst hk;refine cP zY ee ?_;refine Vf rfl rfl rfl rfl rfl rfl (hk:=?_)
    have hΦ:DR F (.agg [.v (.int .i64 8),.v (.int .i64 (c:Nat)),.v (.string .empty),.sl 0 (List.replicate 1 []) (some 0)]) [⟨1,34,4,some (bg (.mk uk un us ul) ++ [])⟩]:=by
     rw [hF2];exact .inl ⟨rfl,rfl⟩
    exact ⟨.agg [.v (.int .i64 8),.v (.int .i64 (c:Nat)),.v (.string .empty),.sl 0 (List.replicate 1 []) (some 0)],[],gQ,rfl,hΦ⟩
   ·have cb:x.bare=true:=sU cb
    have hΦ:DR F (.agg (bg (dr 8 c))) []:=by
     rw [hF];simp only [tagV,hx,cb,if_true];exact .inr ⟨rfl,rfl,rfl⟩
    exact ⟨.agg (bg (dr 8 c)),[],ax,rfl,hΦ⟩
  ·have c8:¬ ag=8:=sU c8;rw [aj c8] at hF;have hΦ:DR F (.agg (bg (dr ag 0))) []:=by rw [hF];exact .inr ⟨rfl,rfl,rfl⟩
   exact ⟨.agg (bg (dr ag 0)),[],ax,rfl,hΦ⟩
end
theorem nR {D:List Nat} {e:Ed} (h:fM D e=true) (hb:e.bare=false):0 < cz D e:=by grind [fM]
theorem fstV_eq {ND:List Nd} {D:List Nat} (h:gB ND D) {i:Nat} {n:Nd} (hn:ND[i]? = some n) (h0:0 < D.getD i 0):bu ND D i=if n.ag=2 then dr 2 n.lo
   else if n.ag=7 then .mk 7 0 ay (n.ai.map fun e=>bu ND D e.to.toNat)
   else if n.ag=8 then (match bL D n.ai with | some c=>tagV (bu ND D) n.ai c | none=>dr 8 0)
   else dr n.ag 0:=by
 obtain ⟨d,hd⟩:∃ d,D.getD i 0=d + 1:=⟨D.getD i 0 - 1,by omega⟩;rw [<- rj h h0 (aV _),hd,firstV,hn];simp only;split
 ·rfl
 ·split
  ·rename_i h7;refine congrArg (Val.mk 7 0 ay) (List.map_congr_left fun e he=>?_);obtain ⟨h2,h3⟩:=h.Zy hn h0 h7 e he
   grind [rj,cz]
  ·split
   ·rename_i h8;obtain ⟨c,e,hc,he,hp⟩:=h.U5 hn h0 h8
    grind [zr,rj,cz]
   ·rfl
section
variable (PC:List DV) (ND:List Nd) (D:List Nat) (K:List Bool) (sz T:List Nat) {L:Nat}
theorem GY (hO:gB ND D) (aZ:∀ n∈ND,cf L ND.length n) (bW:∀ n∈ND,n.ai.length<=1099511627776) (HH:∀ n∈ND,n.ag=2 -> -9223372036854775808<=n.lo/\n.hi<=9223372036854775807) (hlK:K.length=ND.length) (hKs:∀ i n,ND[i]? = some n->K.getD i false=true->eW n D K=true)
  (hT:∀ i,T.getD i 0≠0->∃ n,ND[i]? = some n/\K.getD i false=true/\T.getD i 0=othE T (iu sz D K n)):∀ (f i:Nat),T.getD i 0≠0->T.getD i 0<=f->T.getD i 0 < 4097->EvP prog 93 [.pt (od PC ND D K sz T) 0,.v (.int .i64 i)] (.agg (bg (bl ND D K f i)))
 | 0,i,h0,h1,_=>by omega
 | f + 1,i,h0,h1,h2=>by
  obtain ⟨n,hn,hKi,hv⟩:=hT i h0;have hi:=(gS hn).1;have sI:=mG hn;have hN:=aZ n sI;have qc:=hKs i n hn hKi;have GZ:=sS hN qc;have hDi:0 < D.getD i 0:=by rw [hO.get i n hn];exact zn hN qc
  have ee:=fun k hk hp=>one_f PC ND D K sz T hO aZ bW ND.length k hk hp (hO.le k)
  have iS:∀ s j,1<=s->T.getD i 0=othE T (s,some j)->EvP prog 93 [.pt (od PC ND D K sz T) 0,.v (.int .i64 j)] (.agg (bg (bl ND D K f j))):=fun s j hs h=>by
   have xf:T.getD j 0≠0:=fun hj=>h0 (by rw [h];simp only [othE];rw [ap hj])
   have aq:T.getD j 0 < T.getD i 0:=by
    have h':=h;simp only [othE] at h';rw [aj xf] at h';unfold cg at h';omega
   exact GY hO aZ bW HH hlK hKs hT f j xf (by omega) (by omega)
  have HJ:=choose_spec PC ND D K sz T hO.len hN (bW n sI);have Xe:=zo PC ND D K sz T hO.len hN (bW n sI);have R5:=fun h=>qD PC ND D K sz T hlK hN h (bW n sI);have O5:=hO.U5 hn hDi;have kM:=bW n sI;have bR:=hN.fB;have iZ:=hN.bare;have Se:=hN.one;have hp:=GP sz D K n;have hF:bl ND D K (f + 1) i=uL (bu ND D) (bl ND D K f) D K n:=by rw [bl,hn]
  have hF1:=fstV_eq hO hn hDi;have sR:=ee i hi hDi;rw [show firstV ND D ND.length i=bu ND D i from rfl,hF1] at sR
  have L2:∀ {x:Ed},x∈n.ai->x.bare=false->0 < cz D x->∃ k:Nat,x.to=k/\k < ND.length/\EvP prog 92 [.pt (od PC ND D K sz T) 0,.v (.int .i64 k)] (.agg (bg (bu ND D k))):=fun {x} hx hb h=>by
   obtain ⟨k,hk,gl⟩:=(bR x hx).to1 hb;exact ⟨k,hk,gl,DS (ee k gl (by unfold cz at h;rw [hk,eH] at h;exact h))⟩
  rw [hF];clear hF hF1;obtain ⟨ag,aO,lo,iw,most,af,es⟩:=n;simp only at hv O5 HJ Xe R5 kM bR iZ Se sR L2;have h7:=GZ.c7;have h8:=GZ.c8;simp only at h7 h8;refine eG 105 [.cell 4 34] func93 rfl ntmps93 rfl fun _ _ _ _=>?_;refine iX (eB hn) ?_;refine br ?_ ?_<;>intro c2
  ·have c2:ag=2:=sU c2;subst c2;have hlo:lo < iw:=by simpa [eW] using qc
   have hr:=HH _ sI rfl;simp only at hr;have hw:IntKind.i64.wrap (lo + 1)=lo + 1:=wrap64 (by omega) (by omega);exact ⟨.agg (bg (dr 2 (lo + 1))),(mc hw),rfl⟩
  have c2:¬ ag=2:=sU c2;refine br ?_ ?_<;>intro c3
  ·have c3:ag=3:=sU c3;subst c3;exact ⟨.agg (bg (.mk 3 0 ⟨#[97]⟩ [])),ax,rfl⟩
  have c3:¬ ag=3:=sU c3;refine br (fun d5=>?_) (fun c5=>?_)
  ·have c5:ag=5:=sU d5;subst c5;obtain ⟨x,hx,ra,_⟩:=Se (.inl rfl);subst hx;have HI:fM D x=true:=by grind [fM,eW,manyN]
   obtain ⟨k,hk,gl,Xf⟩:=L2 List.mem_cons_self ra (nR HI ra)
   have hG:uL (bu ND D) (bl ND D K f) D K ⟨5,aO,lo,iw,most,af,[x]⟩ = .mk 5 0 ay [bu ND D k]:=by
    show Val.mk 5 0 ay [bu ND D x.to.toNat]=_;rw [hk,eH]
   rw [hG];generalize bu ND D k=u at Xf;obtain ⟨uk,un,us,ul⟩:=u;obtain ⟨en,eb,ea,et,rb,ew,ln,ti,ru,pS⟩:=x;simp only at hk;subst hk;refine ⟨_,⟨by omega,rfl⟩,?_⟩;refine cP zY Xf ?_;exact ⟨.agg (bg (.mk 5 0 ay [.mk uk un us ul])),ax,rfl⟩
  have c5:¬ ag=5:=sU c5;refine br ?_ ?_<;>intro c6
  ·have c6:ag=6:=sU c6;subst c6;obtain ⟨x,hx,ra,_⟩:=Se (.inr rfl);subst hx;have HI:fM D x=true:=by grind [fM,eW,manyN]
   obtain ⟨k,hk,gl,Xf⟩:=L2 List.mem_cons_self ra (nR HI ra)
   have hG:uL (bu ND D) (bl ND D K f) D K ⟨6,aO,lo,iw,most,af,[x]⟩ = .mk 6 0 ay [bu ND D k]:=by
    show Val.mk 6 0 ay [bu ND D x.to.toNat]=_;rw [hk,eH]
   rw [hG];generalize bu ND D k=u at Xf;obtain ⟨uk,un,us,ul⟩:=u;obtain ⟨en,eb,ea,et,rb,ew,ln,ti,ru,pS⟩:=x;simp only at hk;subst hk;refine ⟨_,⟨by omega,rfl⟩,?_⟩;refine cP zY Xf ?_;exact ⟨.agg (bg (.mk 6 0 ay [.mk uk un us ul])),ax,rfl⟩
  have c6:¬ ag=6:=sU c6;refine br ?_ ?_<;>intro c7
  ·have c7:ag=7:=sU c7;subst c7;have R5:=R5 rfl;obtain ⟨c,x,hc,hx,ra⟩:=h7 rfl;rw [hc] at R5;rw [show iu sz D K ⟨7,aO,lo,iw,most,af,es⟩=(sumX sz c es 0 1,some x.to.toNat) by simp [iu,hc,hx]] at hv;have vP:=iS _ _ (ko (by omega)) hv;obtain ⟨k,hk,gl⟩:=(bR x (mG hx)).to1 ra;have fU:=(gS hx).1
   have hG:uL (bu ND D) (bl ND D K f) D K ⟨7,aO,lo,iw,most,af,es⟩ = .mk 7 0 ay ((es.map fun e=>bu ND D e.to.toNat).set c (bl ND D K f k)):=by
    show (match GO K es with | some c=>(match es[c]? with | some e=>Val.mk 7 0 ay ((es.map fun e:Ed=>bu ND D e.to.toNat).set c (bl ND D K f e.to.toNat)) | none=>dr 7 0) | none=>dr 7 0)=_;rw [hc];simp only [hx];rw [hk,eH]
   rw [hG];rw [hk,eH] at vP;have Xg:Tj prog 92 [.pt (od PC ND D K sz T) 0,.v (.int .i64 i)] [] [] (fun r _ bO=>DR (.mk 7 0 ay (es.map fun e=>bu ND D e.to.toNat)) r bO):=sR;have gl:(es.map fun e=>bu ND D e.to.toNat).length=es.length:=List.length_map _;generalize (es.map fun e=>bu ND D e.to.toNat)=ks at Xg gl;generalize bl ND D K f k=u at vP;have G0:=uM (x:=bg u) (im ks) (e:=c) (by rw [cA];omega);rw [<- BU] at G0;have EA:=im (ks.set c u);have ov:(dVals (ks.set c u)).length=ks.length:=by rw [cA,List.length_set]
   obtain ⟨uk,un,us,ul⟩:=u;obtain ⟨en,eb,ea,et,rb,ew,ln,ti,ru,pS⟩:=x;simp only at hk;subst hk;refine RB zY rfl Xg ax (fun r1 bO hr=>?_);rcases hr with ⟨rfl,rfl⟩ | ⟨h,_⟩
   ·refine cP VV R5 ?_;refine dS ?_;refine ⟨_,⟨eY _,aS hx⟩,?_⟩;refine BG (e:=4) (es:=List.replicate ks.length []) (m:=ks.length) X9 rfl vP ax ⟨rfl,rfl,rfl⟩ ⟨rfl,rfl,rfl⟩ rfl rfl rfl rfl rfl rfl (by decide) rfl rfl rfl List.length_replicate ⟨eY _,by show (c:Int) < _;omega⟩ rfl ?_;refine ⟨_,IF (j:=2) (o:=3) (k:=0) (ty:=34) (e:=4) (ocs:=[.v (.int .i64 7),.v (.int .i64 0),.v (.string ay),.sl 0 (List.replicate ks.length []) (some 0)]) (n:=ks.length) (es:=List.replicate ks.length []) (ns:=dVals (ks.set c (.mk uk un us ul))) ?_ EA ov rfl rfl List.length_replicate,?_⟩
    ·rw [G0];rfl
    ·exact ⟨.agg (bg (.mk 7 0 ay (ks.set c (.mk uk un us ul)))),ax,rfl⟩
   ·have h:ks=[]:=h;rw [h] at gl;simp only [List.length_nil] at gl;omega
  have c7:¬ ag=7:=sU c7;refine br ?_ ?_<;>intro c8
  ·have c8:ag=8:=sU c8;subst c8
   cases ht:lN D es with
   | some c=>
    rw [ht] at Xe;obtain ⟨x,hx,HI⟩:=pU ht
    have hG:uL (bu ND D) (bl ND D K f) D K ⟨8,aO,lo,iw,most,af,es⟩=tagV (bu ND D) es c:=by
     show (match lN D es with | some c=>tagV (bu ND D) es c | none=>(match bL D es with | some c=>(match es[c]? with | some e=>Val.mk 8 c ay [bl ND D K f e.to.toNat] | none=>dr 8 c) | none=>dr 8 0))=_;rw [ht]
    rw [hG];refine cP Pm Xe ?_;refine ⟨_,⟨eY _,aS hx⟩,?_⟩;refine br ?_ ?_<;>intro cb
    ·have cb:x.bare=false:=sU cb;obtain ⟨k,hk,gl,Xf⟩:=L2 (mG hx) cb (nR HI cb);rw [show tagV (bu ND D) es c = .mk 8 c ay [bu ND D k] by simp only [tagV,hx,cb];rw [hk];rfl];generalize bu ND D k=u at Xf;obtain ⟨uk,un,us,ul⟩:=u;obtain ⟨en,eb,ea,et,rb,ew,ln,ti,ru,pS⟩:=x;simp only at hk;subst hk;refine cP zY Xf ?_;exact ⟨.agg (bg (.mk 8 c ay [.mk uk un us ul])),ax,rfl⟩
    ·have cb:x.bare=true:=sU cb;rw [show tagV (bu ND D) es c=dr 8 c by simp only [tagV,hx,cb];rfl];exact ⟨.agg (bg (dr 8 c)),ax,rfl⟩
   | none=>
    rw [ht] at Xe;obtain ⟨c,x,hc,hx,ra⟩:=h8 rfl ht;rw [show iu sz D K ⟨8,aO,lo,iw,most,af,es⟩=(1,some x.to.toNat) by simp [iu,ht,hc,hx]] at hv;have vP:=iS _ _ (aV 1) hv;obtain ⟨k,hk,gl⟩:=(bR x (mG hx)).to1 ra
    have hG:uL (bu ND D) (bl ND D K f) D K ⟨8,aO,lo,iw,most,af,es⟩ = .mk 8 c ay [bl ND D K f k]:=by
     show (match lN D es with | some c=>tagV (bu ND D) es c | none=>(match bL D es with | some c=>(match es[c]? with | some e=>Val.mk 8 c ay [bl ND D K f e.to.toNat] | none=>dr 8 c) | none=>dr 8 0))=_;rw [ht];simp only [hc,hx];rw [hk,eH]
    rw [hG];rw [hk,eH] at vP;have G1:Tj prog 92 [.pt (od PC ND D K sz T) 0,.v (.int .i64 i)] [] [] (fun r _ bO=>DR (match bL D es with | some c=>tagV (bu ND D) es c | none=>dr 8 0) r bO):=sR;rw [hc] at G1;simp only at G1;rw [show tagV (bu ND D) es c = .mk 8 c ay [bu ND D k] by simp only [tagV,hx,ra];rw [hk];rfl] at G1;generalize bu ND D k=u0 at G1;generalize bl ND D K f k=u at vP;have G0:=uM (x:=bg u) (im [u0]) (e:=0) (by rw [cA];simp);rw [<- BU] at G0;have EA:=im ([u0].set 0 u);have ov:(dVals ([u0].set 0 u)).length=1:=by rw [cA,List.length_set];all_goals rfl
    obtain ⟨uk,un,us,ul⟩:=u;obtain ⟨en,eb,ea,et,rb,ew,ln,ti,ru,pS⟩:=x;simp only at hk;subst hk;refine cP Pm Xe ?_;refine RB zY rfl G1 ax (fun r1 bO hr=>?_);rcases hr with ⟨rfl,rfl⟩ | ⟨h,_⟩
    ·refine dS ?_;refine ⟨_,⟨eY _,aS hx⟩,?_⟩;refine BG (e:=4) (es:=List.replicate 1 []) (m:=1) X9 rfl vP ax ⟨rfl,rfl,rfl⟩ ⟨rfl,rfl,rfl⟩ rfl rfl rfl rfl rfl rfl (by decide) rfl rfl rfl List.length_replicate ⟨by omega,by omega⟩ rfl ?_;refine ⟨_,IF (j:=2) (o:=3) (k:=0) (ty:=34) (e:=4) (ocs:=[.v (.int .i64 8),.v (.int .i64 (c:Nat)),.v (.string ay),.sl 0 (List.replicate 1 []) (some 0)]) (n:=1) (es:=List.replicate 1 []) (ns:=dVals ([u0].set 0 (.mk uk un us ul))) ?_ EA ov rfl rfl List.length_replicate,?_⟩
     ·rw [G0];rfl
     ·exact ⟨.agg (bg (.mk 8 c ay [.mk uk un us ul])),ax,rfl⟩
    ·have h : [u0]=[]:=h;cases h
  ·have c8:¬ ag=8:=sU c8;have hG:uL (bu ND D) (bl ND D K f) D K ⟨ag,aO,lo,iw,most,af,es⟩=dr ag 1:=by grind [uL]
   rw [hG];exact ⟨.agg (bg (dr ag 1)),ax,rfl⟩
end
def JY (l:List Nat) (i:Int):Bool:=decide (0<=i) && (decide (0 < l.getD i.toNat 0) && decide (l.getD i.toNat 0 < 4097))
theorem L3 {l:List Nat} {i:Int}:JY l i=true↔∃ j:Nat,i=j/\l.getD j 0≠0/\l.getD j 0 < 4097:=by grind [JY]
theorem zs (l:List Nat) (i:Int) (hl:l.length<=1099511627776):EvP prog 90 [.sl 1 (dInts l) none,.v (.int .i64 i)] (.v (.bool (JY l i))):=by
 have cu:=aU l;by_cases h:0<=i/\i < l.length
 ·obtain ⟨j,rfl⟩:∃ j:Nat,i=j:=⟨i.toNat,by omega⟩;obtain ⟨z,hz⟩:∃ z,l[j]? = some z:=⟨_,gE (by omega)⟩;have hE:JY l j=(decide (0 < z) && decide (z < 4097)):=by grind [JY]
  rw [hE];refine eG 27 [.tmp 4] func90 rfl ntmps90 rfl fun _ _ _ _=>?_;refine br ?_ ?_<;>intro c
  ·refine ⟨_,⟨eY _,aR hz⟩,?_⟩;refine br ?_ ?_<;>intro c2
   ·have c2:0 < z:=by simpa [lastG,pickB] using c2
    refine ⟨_,⟨eY _,aR hz⟩,?_⟩;refine (bP ?_:);rw [decide_eq_true c2];simp [pickB];omega
   ·have c2:¬ 0 < z:=by simpa [lastG,pickB] using c2
    refine (bP ?_:);rw [decide_eq_false c2];simp [pickB]
  ·grind [av]
 ·have hE:JY l i=false:=by grind [JY]
  rw [hE];refine eG 27 [.tmp 4] func90 rfl ntmps90 rfl fun _ _ _ _=>?_;refine br ?_ ?_<;>intro c
  ·exfalso;simp [cu,av] at c;omega
  ·exact (rfl:_=_)
theorem JZ {ND:List Nd} {D:List Nat} (h:gB ND D) {j:Nat} (h0:0 < D.getD j 0):j < ND.length:=by
 rcases Nat.lt_or_ge j ND.length with h1 | h1
 ·exact h1
 ·rw [bN,kE (by rw [h.len];exact h1)] at h0;simp at h0
abbrev aQ (ND:List Nd):List Nat:=depN ND ND.length
abbrev fx (ND:List Nd):List Bool:=nP ND (aQ ND)
abbrev bY (ND:List Nd):List Nat:=og ND (aQ ND)
abbrev ek (ND:List Nd):List Nat:=Zz (bY ND) (aQ ND) (fx ND) ND
theorem BV {S:Sch} {ND:List Nd} {PC:List DV} (hP:dX S ND PC) (sz ot:List Nat) (K:List Bool) {j:Nat} (h:(bY ND).getD j 0≠0):EvP prog 92 [.pt (od PC ND (aQ ND) K sz ot) 0,.v (.int .i64 j)] (.agg (bg (bu ND (aQ ND) j))):=by
 have h0:=(wI (il ND)).1.1 (Nat.pos_of_ne_zero h);exact DS (one_f PC ND (aQ ND) K sz ot (il ND) hP.ok hP.S1 ND.length j (JZ (il ND) h0) h0 ((il ND).le j))
theorem zt {ND:List Nd} {i:Nat} {n:Nd} (hn:ND[i]? = some n) (h:(fx ND).getD i false=true):eW n (aQ ND) (fx ND)=true:=by
 have h:(nP ND (aQ ND)).getD i false=true:=h;rw [<- zm,bN,List.getElem?_map,hn] at h;exact h
theorem NU {S:Sch} {ND:List Nd} {PC:List DV} (hP:dX S ND PC) (HH:∀ n∈ND,n.ag=2 -> -9223372036854775808<=n.lo/\n.hi<=9223372036854775807) {j:Nat} (h:(ek ND).getD j 0≠0) (h2:(ek ND).getD j 0 < 4097) :
  EvP prog 93 [.pt (od PC ND (aQ ND) (fx ND) (bY ND) (ek ND)) 0,.v (.int .i64 j)] (.agg (bg (Al ND (aQ ND) (fx ND) j))):=
 GY PC ND (aQ ND) (fx ND) (bY ND) (ek ND) (il ND) hP.ok hP.S1 HH (sevN_len ND _ _) (fun i n hn h=>zt hn h) (fun i h=>DP h) 4096 j h (by omega) h2
def qE (es:List Ed) (s:ByteArray) (k:Nat):Bool:=match es[k]? with | some e=>decide (e.name=s) | none=>false
theorem NV {L:Nat} {ND:List Nd} {d:Nd} (hN:cf L ND.length d) {s:Stp} {k:Nat} (h:ik d s=some k):bM (qE d.ai s.s) d.ai.length=some k:=by
 obtain ⟨e,he,hB,hr⟩:=ej h;have hk:=(gS he).1
 have OA:s.s=e.name/\(d.ag=5∨d.ag=6∨d.ag=7∨d.ag=8):=by
  have ee:=hN.one;unfold iK at hB;unfold cF at hr;simp only [Bool.or_eq_true,bc,decide_eq_true_eq] at hB;rcases hB with ((h | h) | h) | h
  ·exact ⟨h.2.1.symm,by omega⟩
  ·exact ⟨h.2.1.symm,by omega⟩
  ·obtain ⟨e',h1,_,h3⟩:=ee (.inl h.1.2);rw [h1] at he;have:e=e':=by grind
   subst this;rw [h3];refine ⟨?_,by omega⟩;rcases h.1.1 with h | h<;>rw [h] at hr<;>simp at hr<;>exact hr.2
  ·obtain ⟨e',h1,_,h3⟩:=ee (.inr h.2);rw [h1] at he;have:e=e':=by grind
   subst this;rw [h3];refine ⟨?_,by omega⟩;rw [h.1] at hr;simp at hr;exact hr.2
 refine bU hk (by unfold qE;rw [he];exact decide_eq_true OA.1.symm) fun c hc=>?_
 cases hp:qE d.ai s.s c with
 | false=>rfl
 | true=>
  exfalso;have fU:c < d.ai.length:=by omega
  unfold qE at hp;rw [gE fU] at hp;have hp:=of_decide_eq_true hp;rcases OA.2 with h5 | h6 | h78
  ·obtain ⟨e',h1,_⟩:=hN.one (.inl h5);rw [h1,List.length_singleton] at hk;omega
  ·obtain ⟨e',h1,_⟩:=hN.one (.inr h6);rw [h1,List.length_singleton] at hk;omega
  ·have hnd:=(hN.many h78).2.2.1;have he2:=(gS he).2;have:=List.pairwise_iff_getElem.1 (List.nodup_iff_pairwise_ne.1 hnd) c k (sU fU) (sU hk) hc
   grind
structure Pl where
 i:Nat
 d:Nd
 k:Nat
 s:Stp
def stpsV (ND:List Nd):List Stp->Nat->List Pl
 | [],_=>[]
 | s :: p,i=>match ND[i]? with
  | none=>[]
  | some d=>match ik d s with
   | none=>[]
   | some k=>match d.ai[k]? with
    | none=>[]
    | some x=>⟨i,d,k,s⟩ :: stpsV ND p x.to.toNat
def sumE (sz:List Nat) (k:Nat):List Ed->Nat->Nat
 | [],_=>0
 | e :: r,i=>(if i=k then 0 else cz sz e) + sumE sz k r (i + 1)
theorem BW (sz:List Nat) (k:Nat):∀ (es:List Ed) (e:Ed) (i:Nat),sumE sz k (es ++ [e]) i=sumE sz k es i + (if i + es.length=k then 0 else cz sz e)
 | [],e,i=>by simp [sumE]
 | x :: r,e,i=>by
  rw [List.cons_append,sumE,BW sz k r,sumE,List.length_cons,show i + 1 + r.length=i + (r.length + 1) by omega,Nat.add_assoc]
theorem NW {sz:List Nat} {k:Nat} {es:List Ed} {e:Nat} {x:Ed} (h:es[e]? = some x):sumE sz k (es.take (e + 1)) 0=sumE sz k (es.take e) 0 + (if e=k then 0 else cz sz x):=by
 have hl:=(gS h).1;rw [dZ h,BW,zLenT,Nat.min_eq_left (by omega),Nat.zero_add]
def BX (sz:List Nat) (q:Pl):Nat:=1 + (if q.s.k=2 then q.s.n.toNat * sz.getD (to0 q.d).toNat 0 else if q.s.k=1 then sumE sz q.k q.d.ai 0 else 0)
def totF (sz:List Nat):List Pl->Nat
 | []=>0
 | q :: l=>BX sz q + totF sz l
theorem BZ (sz:List Nat) (q:Pl):∀ l:List Pl,totF sz (l ++ [q])=totF sz l + BX sz q
 | []=>by simp [totF]
 | x :: l=>by rw [List.cons_append,totF,totF,BZ sz q l,Nat.add_assoc]
theorem J0 (a b:Nat):cg (cg a + b)=cg (a + b):=by unfold cg;omega
theorem ZB (a b:Nat):cg (a + cg b)=cg (a + b):=by unfold cg;omega
def qj (D:List Nat) (k:Nat):List Ed->Nat->Bool
 | [],_=>true
 | e :: r,i=>(decide (i=k) || decide (cz D e≠0)) && qj D k r (i + 1)
theorem B0 (D:List Nat) (k:Nat):∀ (es:List Ed) (e:Ed) (i:Nat),qj D k (es ++ [e]) i=(qj D k es i && (decide (i + es.length=k) || decide (cz D e≠0)))
 | [],e,i=>by simp [qj]
 | x :: r,e,i=>by
  rw [List.cons_append,qj,B0 D k r,qj,List.length_cons,show i + 1 + r.length=i + (r.length + 1) by omega,Bool.and_assoc]
theorem mM {D:List Nat} {k:Nat}:∀ {es:List Ed} {i:Nat},qj D k es i=true↔∀ (j:Nat) x,es[j]? = some x->i + j≠k->cz D x≠0
 | [],i=>by simp [qj]
 | e :: r,i=>by
  rw [qj,bc,mM];constructor
  ·grind
  ·intro h;refine ⟨?_,fun j x hx hj=>h (j + 1) x (sU hx) (by omega)⟩;by_cases hi:i=k
   ·simp [hi]
   ·simp [h 0 e rfl (by omega)]
def lX (D:List Nat) (q:Pl):Bool:=decide (q.s.k≠3) && (decide (q.s.k≠1) || qj D q.k q.d.ai 0)
def gx (F:Nat->Val) (q:Pl) (x:Val):Val:=
 if q.s.k=2 then .mk q.d.ag 0 ay (List.replicate q.s.n.toNat (F (to0 q.d).toNat) ++ [x])
 else if q.s.k=1 then .mk q.d.ag 0 ay ((q.d.ai.map fun e=>F e.to.toNat).set q.k x)
 else .mk q.d.ag (if q.s.k=5 then q.k else 0) ay [x]
def alnV (F:Nat->Val):List Pl->Val->Val
 | [],x=>x
 | q :: l,x=>gx F q (alnV F l x)
structure ql (ND:List Nd) (q:Pl):Prop where
 ah:ND[q.i]? = some q.d
 fB:ik q.d q.s=some q.k
theorem nS {ND:List Nd} {s:Stp} {p:List Stp} {i:Nat} {d:Nd} {k:Nat} {x:Ed} (h1:ND[i]? = some d) (h2:ik d s=some k) (h3:d.ai[k]? = some x):stpsV ND (s :: p) i=⟨i,d,k,s⟩ :: stpsV ND p x.to.toNat:=by grind [stpsV]
theorem gk {ND:List Nd} {f:Nat->Nat->Bool} {n:Nat} {s:Stp} {p:List Stp} {i a:Nat} {r:Nat × Nat} (h:walkV ND f n (s :: p) i a=some r) :
  ∃ d k x,ND[i]? = some d/\ik d s=some k/\d.ai[k]? = some x/\walkV ND f n p x.to.toNat (lG f n a x.label.toNat)=some r:=by
 rw [walkV] at h;split at h
 ·cases h
 ·grind
theorem zu {ND:List Nd} {f:Nat->Nat->Bool} {n:Nat} {s:Stp} {p:List Stp} {i a:Nat} {d:Nd} {k:Nat} {x:Ed} (h1:ND[i]? = some d) (h2:ik d s=some k) (h3:d.ai[k]? = some x) :
  walkV ND f n (s :: p) i a=walkV ND f n p x.to.toNat (lG f n a x.label.toNat):=by
 rw [walkV,h1];simp only;rw [h2];simp only;rw [h3]
theorem o8 {ND:List Nd} {f:Nat->Nat->Bool} {n:Nat}:∀ (p:List Stp) (i a:Nat) {r:Nat × Nat},walkV ND f n p i a=some r ->
  (stpsV ND p i).length=p.length/\∀ (e:Nat) s,p[e]? = some s->∃ q b,(stpsV ND p i)[e]? = some q/\q.s=s/\ql ND q/\walkV ND f n (p.take e) i a=some (q.i,b)
 | [],i,a,r,h=>⟨rfl,fun e s h=>by simp at h⟩
 | s :: p,i,a,r,h=>by
  obtain ⟨d,k,x,hd,hk,hx,hw⟩:=gk h;obtain ⟨h1,h2⟩:=o8 p _ _ hw;rw [nS hd hk hx];refine ⟨by rw [List.length_cons,List.length_cons,h1],fun e y hy=>?_⟩
  cases e with
  | zero=>
   simp at hy;subst hy;exact ⟨_,a,rfl,rfl,⟨hd,hk⟩,by rw [List.take_zero,walkV]⟩
  | succ e=>grind [zu]
theorem L4 {L:Nat} {ND:List Nd} {q:Pl} (hN:cf L ND.length q.d) (hq:ql ND q):if q.s.k=1∨q.s.k=5 then bM (qE q.d.ai q.s.s) q.d.ai.length=some q.k else q.k=0:=by
 split
 ·exact NV hN hq.fB
 ·rename_i h;obtain ⟨e,he,hB,_⟩:=ej hq.fB;have hk:=(gS he).1;unfold iK at hB;simp only [Bool.or_eq_true,bc,decide_eq_true_eq] at hB;have NX:q.d.ag=5∨q.d.ag=6:=by omega
  obtain ⟨e',h1,_⟩:=hN.one NX;rw [h1,List.length_singleton] at hk;omega
theorem kp {ND:List Nd} {q:Pl} (hq:ql ND q):(q.s.k=1->q.d.ag=7/\q.s.n=0)/\(q.s.k=5->q.d.ag=8/\q.s.n=0)/\(q.s.k=2->q.d.ag=5/\0<=q.s.n/\q.s.n < q.d.most)/\(q.s.k=3->q.d.ag=5/\q.s.n=0)/\(q.s.k=4->q.d.ag=6/\q.s.n=0)/\(q.s.k=1∨q.s.k=2∨q.s.k=3∨q.s.k=4∨q.s.k=5):=by
 obtain ⟨e,he,hB,hr⟩:=ej hq.fB;have hk5:=Gj hr;unfold iK at hB;unfold cF at hr;simp only [Bool.or_eq_true,bc,decide_eq_true_eq] at hB;refine ⟨fun h=>?_,fun h=>?_,fun h=>?_,fun h=>?_,fun h=>?_,hk5⟩
 all_goals
  rw [h] at hr hB;simp at hr hB
  first
   | exact ⟨hB.1,hr.1⟩
   | exact ⟨hB.1,hr.1,hB.2⟩
   | exact ⟨hB,hr.1⟩
theorem leastF_7 {n:Nd} {D:List Nat} (h:n.ag=7) (h2:∀ e∈n.ai,cz D e≠0):0 < bF n D:=by
 rw [bF,ap h];refine Nat.pos_of_ne_zero fun h0=>?_;obtain ⟨e,he,hz⟩:=jS.1 h0;exact h2 e he hz
theorem leastF_8 {n:Nd} {D:List Nat} (h:n.ag=8) {e:Ed} (he:e∈n.ai) (h2:e.bare=true∨cz D e≠0):0 < bF n D:=by
 rw [bF,aj (by omega),ap h];refine lg.2 (.inr (List.any_eq_true.2 ⟨e,he,?_⟩))
 grind [tg,jT,cz]
theorem G2 {n:Nd} {D:List Nat} (h7:n.ag≠7) (h8:n.ag≠8):0 < bF n D:=by
 rw [bF,aj h7,aj h8];omega
mutual
theorem wM {L:Nat} {ND:List Nd} {D:List Nat} (aZ:∀ n∈ND,cf L ND.length n) (hO:gB ND D):∀ (v:Val) (i:Int),fitV ND v i=true->0 < D.getD i.toNat 0
 | .mk k n s ks,i,h=>by
  obtain ⟨d,hF⟩:=ij aZ h;have Oy:=G3 aZ hO ks;have hn:=(fw hF.ah).2;rw [hO.get _ _ hn];have Sf:=hF.kids;have ZC:=hF.tag;simp only [Val.ks] at Sf ZC;by_cases h7:d.ag=7
  ·refine leastF_7 h7 fun e he=>?_;obtain ⟨h1,h2⟩:=Sf (by omega);have:=Oy _ h2 (by omega) e.to (by unfold kidsL;rw [aj (by omega),ap h7];exact List.mem_map_of_mem he);unfold cz;omega
  ·by_cases h8:d.ag=8
   ·obtain ⟨e,h1,h2,_⟩:=ZC h8;refine leastF_8 h8 (mG h2) ?_
    cases hb:e.bare with
    | true=>exact .inl rfl
    | false=>
     obtain ⟨h3,h4⟩:=Sf (by omega);have:=Oy _ h4 (by omega) e.to (by unfold kidsL;rw [aj (by omega),aj h7,h1];simp [hb]);unfold cz;exact .inr (by omega)
   ·exact G2 h7 h8
theorem G3 {L:Nat} {ND:List Nd} {D:List Nat} (aZ:∀ n∈ND,cf L ND.length n) (hO:gB ND D):∀ (ks:List Val) (l:List Int),fitVs ND ks l=true->l.length<=ks.length->∀ j∈l,0 < D.getD j.toNat 0
 | [],l,h,hl=>by grind
 | v :: r,[],h,hl=>by intro j hj;cases hj
 | v :: r,i :: l,h,hl=>by
  rw [fitVs,bc] at h;have h1:=wM aZ hO v i h.1;have h2:=G3 aZ hO r l h.2 (sU hl)
  grind
end
theorem pY {L:Nat} {ND:List Nd} {D:List Nat} (aZ:∀ n∈ND,cf L ND.length n) (hO:gB ND D) {f:Nat->Nat->Bool} {m:Nat}:∀ (p:List Stp) (i a:Nat) {j b:Nat},walkV ND f m p i a=some (j,b)->(stpsV ND p i).all (lX D)=true->0 < D.getD j 0 ->
  0 < D.getD i 0/\∀ q∈stpsV ND p i,∃ x,q.d.ai[q.k]? = some x/\cz D x≠0
 | [],i,a,j,b,h,_,h0=>by grind [walkV,stpsV]
 | s :: p,i,a,j,b,h,lu,h0=>by
  obtain ⟨d,k,x,hd,hk,hx,hw⟩:=gk h;rw [nS hd hk hx] at lu ⊢;rw [List.all_cons,bc] at lu;obtain ⟨h1,h2⟩:=pY aZ hO p _ _ hw lu.2 h0;have T4:cz D x≠0:=by unfold cz;omega
  refine ⟨?_,fun q hq=>?_⟩
  ·rw [hO.get _ _ hd];have hq:ql ND ⟨i,d,k,s⟩:=⟨hd,hk⟩;have Ou:=kp hq;by_cases h7:d.ag=7
   ·refine leastF_7 h7 fun e he=>?_
    have Hu:s.k=1:=by
     have:=Ou;simp only at this;omega
    have ha:=lu.1;unfold lX at ha;simp only [Hu,bc] at ha;have ha:=mM.1 (by simpa using ha.2);obtain ⟨c,hc,rfl⟩:=List.getElem_of_mem he;by_cases Ro:c=k
    ·grind
    ·exact ha c _ (gE hc) (by omega)
   ·by_cases h8:d.ag=8
    ·exact leastF_8 h8 (mG hx) (.inr T4)
    ·exact G2 h7 h8
  all_goals grind
theorem uN {L:Nat} {ND:List Nd} (aZ:∀ n∈ND,cf L ND.length n) {q:Pl} (hq:ql ND q) {x:Ed} (hx:q.d.ai[q.k]? = some x) (NX:q.d.ag=5∨q.d.ag=6):q.d.ai=[x]/\q.k=0/\to0 q.d=x.to:=by
 have hN:=aZ _ (mG hq.ah);obtain ⟨e,he,_⟩:=hN.one NX
 grind [to0]
def o9 (ND:List Nd) (sz D:List Nat) (o:Option (Nat × Nat)) (l:List Pl) (x:Val):Option Val:=match o with
 | none=>none
 | some (j,_)=>if fitV ND x j=true/\l.all (lX D)=true/\sE x + totF sz l < 4097 then some (alnV (bu ND D) l x) else none
theorem Vj {n0 m0:Nat} {st st':St} (n:Nat) (q r:TkE) (hq:q.new=true) (hr:r.new=true) (hn:Nat.ble n st.bx.length=true) (h3:st.tk ++ [q,r]=st'.tk) (h2:WeLL n st.tk.length st'.tk (st.bx.take n) st'.bx) (h4:Nat.ble n0 n=true) (h5:Nat.ble m0 st.tk.length=true)
  (h:oA n st.tk.length st'.tk st.sl st'.sl):qf n0 m0 st st':=by
 have hl:(st.bx.take n).length=n:=by simp_all
 exact ⟨st.tk,[],[q,r],st.bx.take n,st.bx.drop n,by simpa using h5,by rw [hl];simpa using h4,by simp,h3.symm,by simpa using ⟨hq,hr⟩,(List.take_append_drop n st.bx).symm,by rw [hl];exact h2,by rw [hl];exact h⟩
theorem Vk {sz:List Nat} {q:Pl} (h:q.s.k=2):BX sz q=1 + q.s.n.toNat * sz.getD (to0 q.d).toNat 0:=by unfold BX;rw [ap h]
theorem ZD {sz:List Nat} {q:Pl} (h:q.s.k=1):BX sz q=1 + sumE sz q.k q.d.ai 0:=by unfold BX;rw [aj (by omega),ap h]
theorem ZE {sz:List Nat} {q:Pl} (h2:q.s.k≠2) (h1:q.s.k≠1):BX sz q=1:=by unfold BX;rw [aj h2,aj h1]
section
variable (PC:List DV) (ND:List Nd) (D:List Nat) (K:List Bool) (sz ot:List Nat) {L:Nat}
abbrev Xh (s:Stp) (d:Nd) (m e:Nat):St:=
 ⟨[eX 0 (od PC ND D K sz ot),aE 9 1,au 10 m,au 25 s.n,au 26 e],[eU s,j5 d],[]⟩
abbrev aew (s:Stp) (d:Nd) (k m e:Nat):St:=
 ⟨[eX 0 (od PC ND D K sz ot),au 2 k,au 10 m,aM 46 10 (dT d.ai),au 47 ((dT d.ai).length),au 48 e],[eU s,j5 d],[]⟩
theorem DT {q:Pl} (hq:ql ND q) (hs:sz.length=ND.length) (hz:∀ z∈sz,z<=4097) (hn:cf L ND.length q.d) (kM:q.d.ai.length<=1099511627776) :
  EvP prog 178 [.pt (od PC ND D K sz ot) 0,.v (.int .i64 q.i),.v (.int .i64 q.k),.agg (eU q.s)] (.v (.int .i64 (cg (BX sz q):Nat))):=by
 obtain ⟨_,_,k2,_⟩:=kp hq;have cS:=hq.ah;have ee:=hn.one;have Lz:=hn.many;have bR:=hn.fB;have iZ:=hn.bare;have G4:=hn.Lt;have e2:=@Vk sz q;have e1:=@ZD sz q;have e0:=@ZE sz q;have kh:=(kp hq).1;generalize hX:BX sz q=X at *;obtain ⟨i,d,k,s⟩:=q;obtain ⟨ag,aO,lo,hi,most,af,es⟩:=d;obtain ⟨sk,sn,ss⟩:=s;simp only at *;have cu:=bw es;refine eG 69 [.tmp 8] func178 rfl ntmps178 rfl fun _ _ _ _=>?_;refine iX (eB cS) ?_;refine br ?_ ?_<;>intro c
 ·have c:sk=2:=sU c;obtain ⟨c5,p9,zM⟩:=k2 c;obtain ⟨x,hx,ra,_⟩:=ee (.inl c5);have Vi:es[0]? = some x:=by rw [hx];all_goals rfl
  obtain ⟨t,ht,hZ⟩:=(bR x (by rw [hx];simp)).to1 ra;obtain ⟨z,tC⟩:∃ z,sz[t]? = some z:=⟨_,gE (by omega)⟩;have hzl:=hz z (mG tC);have mw:sz.getD (to0 ⟨ag,aO,lo,hi,most,af,es⟩).toNat 0=z:=by grind [to0]
  have e2:=e2 c;rw [mw] at e2;rw [e2];have G4:=G4 c5;refine aY (fun j st=>∃ e:Nat,st=Xh PC ND D K sz ot ⟨sk,sn,ss⟩ ⟨ag,aO,lo,hi,most,af,es⟩ (cg (1 + e * z)) e/\e<=sn.toNat/\j=sn.toNat - e) sn.toNat (Xh PC ND D K sz ot ⟨sk,sn,ss⟩ ⟨ag,aO,lo,hi,most,af,es⟩ 1 0) (bZ 2 wA wB) ⟨0,by rw [Nat.zero_mul];rfl,by omega,by omega⟩ ?_;rintro j st ⟨e,rfl,he,rfl⟩;refine br ?_ ?_<;>intro hL
  ·have aq:e < sn.toNat:=by grind
   have hc:=iM (1 + e * z);have hw:=wrapN (a:=cg (1 + e * z)) (b:=z) (by omega) (by omega);have iP:cg (cg (1 + e * z) + z)=cg (1 + (e + 1) * z):=by rw [J0,Nat.add_mul,Nat.one_mul,Nat.add_assoc]
   refine dI ?_;refine iX (aS Vi) ?_;refine ⟨_,⟨by rw [ht];exact eY _,by rw [ht];exact aR tC⟩,?_⟩;refine cD nW (ey (cg (1 + e * z) + z)) ?_ (mc hw);exact rE ⟨_,by omega,e + 1,rfl,by omega,rfl⟩ (bZ 2 (lY (aG aq (by omega)) iP) (wB2 (aG aq (by omega)) iP))
  ·have hge:e=sn.toNat:=by grind
   subst hge;exact (rfl:_=_)
 have c:¬ sk=2:=sU c;refine br ?_ ?_<;>intro c1
 ·have c1:sk=1:=sU c1;obtain ⟨c7,_⟩:=kh c1;rw [e1 c1];refine lJ (fun e=>aew PC ND D K sz ot ⟨sk,sn,ss⟩ ⟨ag,aO,lo,hi,most,af,es⟩ k (cg (1 + sumE sz k (es.take e) 0)) e) es.length (bZ 2 wA wB) ?_;intro e he;refine br ?_ ?_<;>intro hL
  ·have aq:e < es.length:=sV cu hL;obtain ⟨x,hx⟩:=gX aq;have iP:=NW (sz:=sz) (k:=k) hx;have ra:x.bare=false:=by grind
   obtain ⟨t,ht,hZ⟩:=(bR x (mG hx)).to1 ra;obtain ⟨z,tC⟩:∃ z,sz[t]? = some z:=⟨_,gE (by omega)⟩;have hzl:=hz z (mG tC);have W4:cz sz x=z:=by unfold cz;rw [ht,eH,bN,tC];all_goals rfl
   have hc:=iM (1 + sumE sz k (es.take e) 0);have hw:=wrapN (a:=cg (1 + sumE sz k (es.take e) 0)) (b:=z) (by omega) (by omega);refine iX (aS hx) ?_;refine br ?_ ?_<;>intro g
   ·have g:¬ e=k:=by
     intro hek;rw [hek] at g;simp at g
    have G5:cg (cg (1 + sumE sz k (es.take e) 0) + z)=cg (1 + sumE sz k (es.take (e + 1)) 0):=by rw [J0,iP,aj g,W4,Nat.add_assoc]
    refine dI ?_;refine ⟨_,⟨by rw [ht];exact eY _,by rw [ht];exact aR tC⟩,?_⟩;refine cD nW (ey (cg (1 + sumE sz k (es.take e) 0) + z)) ?_ (mc hw);exact rE ⟨_,by omega,e + 1,rfl,by omega,rfl⟩ (bZ 2 (lY (aG aq (by omega)) G5) (wB2 (aG aq (by omega)) G5))
   ·have g:e=k:=by grind
    have G5:1 + sumE sz k (es.take e) 0=1 + sumE sz k (es.take (e + 1)) 0:=by rw [iP,ap g,Nat.add_zero]
    exact rE ⟨_,by omega,e + 1,rfl,by omega,rfl⟩ (bZ 2 (lY (aG aq (by omega)) (congrArg (fun n:Nat=>((cg n:Nat):Int)) G5)) (wB2 (aG aq (by omega)) (congrArg (fun n:Nat=>((cg n:Nat):Int)) G5)))
  ·have hge:e=es.length:=sW cu hL;subst hge;rw [List.take_length];exact (rfl:_=_)
 ·have c1:¬ sk=1:=sU c1;rw [e0 c c1];exact (rfl:_=_)
end
abbrev G6 (l:List Pl):List Nat:=l.map Pl.i
abbrev G7 (l:List Pl):List Nat:=l.map Pl.k
theorem Sg {l:List Pl} {e:Nat} {q:Pl} (h:l[e]? = some q):dInts (G6 (l.take e)) ++ [[DV.v (.int .i64 (q.i:Nat))]]=dInts (G6 (l.take (e + 1))):=by
 rw [dZ h,G6,G6,List.map_append,rc];all_goals rfl
theorem Sh {l:List Pl} {e:Nat} {q:Pl} (h:l[e]? = some q):dInts (G7 (l.take e)) ++ [[DV.v (.int .i64 (q.k:Nat))]]=dInts (G7 (l.take (e + 1))):=by
 rw [dZ h,G7,G7,List.map_append,rc];all_goals rfl
section
variable (PC:List DV) (p:List Stp) (l:List Pl)
abbrev aex (e n m:Nat):St:=
 ⟨[eX 0 PC,aM 1 3 (aF p),(4,⟨[],.sl 1 (dInts (G6 (l.take e))) (some 0)⟩),(5,⟨[],.sl 1 (dInts (G7 (l.take e))) (some 1)⟩),aM 14 3 (aF p),au 15 ((aF p).length),au 16 e],[],[⟨n,3,1,none⟩,⟨m,3,1,none⟩]⟩
abbrev ZF (q:Pl) (e c:Nat):St:=
 ⟨[eX 0 PC,aM 1 3 (aF p),(4,⟨[],.sl 1 (dInts (G6 (l.take e))) (some 0)⟩),(5,⟨[],.sl 1 (dInts (G7 (l.take e))) (some 1)⟩),aE 7 0,au 8 q.i,aE 11 1,au 13 c,aM 14 3 (aF p),au 15 ((aF p).length),au 16 e],[eU q.s,j5 q.d],[⟨e,3,1,none⟩,⟨e,3,1,none⟩]⟩
end
theorem sX {S:Sch} {ND:List Nd} {PC:List DV} (hP:dX S ND PC) (bW:∀ n∈ND,n.ai.length<=1099511627776) (p:List Stp) (hp:p.length<=1099511627776) (hs:∀ s∈p,s.s.size<=4611686018427387904) (rt:Nat) (mQ:dw S=rt) (dK:rt < ND.length)
  {r:Nat × Nat} (hr:walkV ND (aH S) S.ae.length p rt (dC (aH S) S.ae.length)=some r) :
  EvP prog 175 [.pt PC 0,.sl 3 (aF p) none] (.tup [.sl 1 (dInts (G6 (stpsV ND p rt))) none,.sl 1 (dInts (G7 (stpsV ND p rt))) none]):=by
 have hw:=fun q hq jX=>nN hP q hq jX rt mQ dK;have u1:=ef p;obtain ⟨tf,ou⟩:=o8 p rt _ hr;generalize stpsV ND p rt=l at tf ou ⊢;generalize dC (aH S) S.ae.length=bt at ou hw;refine eG 66 [.tmp 4,.tmp 5] func175 rfl ntmps175 rfl fun _ _ _ _=>?_;refine lJ (fun e=>aex PC p l e e e) p.length (Vj 0 ⟨0,3,1,none⟩ ⟨0,3,1,none⟩ rfl rfl rfl rfl qL rfl rfl lj) ?_;intro e he;refine br ?_ ?_<;>intro hL
 ·have aq:e < p.length:=sV u1 hL;obtain ⟨s,AN⟩:=gX aq;obtain ⟨q,b,hq,Ei,aZ,hwq⟩:=ou e s AN;have kh:=hw (p.take e) (by rw [zLenT];omega) (fun x hx=>hs x (List.mem_of_mem_take hx));rw [hwq] at kh;have kh:EvP prog 87 [.pt PC 0,.sl 3 (aF (p.take e)) none] (.tup [.v (.int .i64 (q.i:Nat)),.v (.int .i64 (b:Nat)),.v (.bool true)]):=kh;have Lb:DV.sl 3 (((aF p).take ((e:Nat):Int).toNat).drop (0:Int).toNat) none = .sl 3 (aF (p.take e)) none:=by simp_all [aF]
  have hN:=hP.ok _ (mG aZ.ah);have Vz:=bW _ (mG aZ.ah);have cS:=hP.ah _ _ aZ.ah;have dQ:=L4 hN aZ
  have gl:q.k < q.d.ai.length:=by
   obtain ⟨x,hx,_⟩:=ej aZ.fB;exact (gS hx).1
  have hI:=Sg hq;have hK:=Sh hq;have fI:(dInts (G6 (l.take e))).length=e:=by rw [aU,List.length_map,zLenT];omega
  have dM:(dInts (G7 (l.take e))).length=e:=by rw [aU,List.length_map,zLenT];omega
  have iP:=aG aq (show p.length<=4611686018427387904 by omega);subst Ei;obtain ⟨i,d,k,s⟩:=q;obtain ⟨ag,aO,lo,hi,most,af,es⟩:=d;obtain ⟨sk,sn,ss⟩:=s;simp only at dQ gl kh cS Vz AN hI hK;have cu:=bw es;refine iX (eu AN) ?_;refine ⟨⟨by omega,by omega,by omega⟩,?_⟩;refine cP xG kh ?_ (mc Lb);refine cP oE cS ?_;refine br ?_ ?_<;>intro c
  ·have c:sk=1∨sk=5:=by simpa [aw] using c
   rw [ap c] at dQ;obtain ⟨_,hpk,hpb⟩:=bV dQ;refine lJ (fun c=>ZF PC p l ⟨i,⟨ag,aO,lo,hi,most,af,es⟩,k,⟨sk,sn,ss⟩⟩ e c) k (bZ 2 wA wB) ?_;intro c hc;obtain ⟨x,hx⟩:∃ x,es[c]? = some x:=⟨_,gE (by omega)⟩;have hP2:qE es ss c=decide (x.name=ss):=by unfold qE;rw [hx]
   refine dI ?_;refine iX (aS hx) ?_;refine br ?_ ?_<;>intro g
   ·have gn:¬ x.name=ss:=sU g;have n8:c < k:=by grind
    exact rE ⟨_,by omega,c + 1,rfl,by omega,rfl⟩ (bZ 2 (jM (aG n8 (by omega))) (cJ (aG n8 (by omega))))
   ·have gn:x.name=ss:=sU g;have Ro:c=k:=by grind
    subst Ro;refine ⟨fI,⟨by rw [fI];simp [maxLen];omega,by rw [fI];simp;omega⟩,?_⟩;refine ⟨dM,⟨by rw [dM];simp [maxLen];omega,by rw [dM];simp;omega⟩,?_⟩;exact rE ⟨_,by omega,e + 1,rfl,by omega,rfl⟩ (bZ 0 (ZX iP hI hK) (H2 iP hI hK))
  ·have c:¬ (sk=1∨sk=5):=by simpa [aw] using c
   rw [aj c] at dQ;subst dQ;refine ⟨fI,⟨by rw [fI];simp [maxLen];omega,by rw [fI];simp;omega⟩,?_⟩;refine ⟨dM,⟨by rw [dM];simp [maxLen];omega,by rw [dM];simp;omega⟩,?_⟩;exact rE ⟨_,by omega,e + 1,rfl,by omega,rfl⟩ (bZ 0 (ZX iP hI hK) (H2 iP hI hK))
 ·have hge:e=p.length:=sW u1 hL;subst hge;rw [<- tf,List.take_length];exact ⟨_,ax,rfl⟩
theorem all_false {α:Type} {f:α->Bool} {l:List α} {e:Nat} {x:α} (h:l[e]? = some x) (hf:f x=false):l.all f=false:=by grind
theorem NY {D:List Nat} {k:Nat} {es:List Ed} {e:Nat} {x:Ed} (h:es[e]? = some x):qj D k (es.take (e + 1)) 0=(qj D k (es.take e) 0 && (decide (e=k) || decide (cz D x≠0))):=by
 have hl:=(gS h).1;rw [dZ h,B0,zLenT,Nat.min_eq_left (by omega),Nat.zero_add]
section
variable (PC:List DV) (ND:List Nd) (D:List Nat) (K:List Bool) (sz ot:List Nat) (p:List Stp) (l:List Pl)
abbrev aey (e:Nat):St:=
 ⟨[eX 0 (od PC ND D K sz ot),aM 5 1 (dInts (G6 l)),aM 6 1 (dInts (G7 l)),aM 20 3 (aF p),au 21 ((aF p).length),au 22 e],[],[]⟩
abbrev J1 (q:Pl) (e c:Nat):St:=
 ⟨[eX 0 (od PC ND D K sz ot),aM 5 1 (dInts (G6 l)),aM 6 1 (dInts (G7 l)),au 7 e,aE 8 0,aM 20 3 (aF p),au 21 ((aF p).length),au 22 e,aM 40 10 (dT q.d.ai),au 41 ((dT q.d.ai).length),au 42 c],[eU q.s],[]⟩
end
theorem G8 {S:Sch} {ND:List Nd} {PC:List DV} (D:List Nat) (K:List Bool) (sz ot:List Nat) (hP:dX S ND PC) (hD:D.length=ND.length) (bW:∀ n∈ND,n.ai.length<=1099511627776) (p:List Stp) (hp:p.length<=1099511627776) (hs:∀ s∈p,s.s.size<=4611686018427387904) (rt:Nat) (mQ:dw S=rt) (dK:rt < ND.length)
  {r:Nat × Nat} (hr:walkV ND (aH S) S.ae.length p rt (dC (aH S) S.ae.length)=some r) :
  EvP prog 174 [.pt (od PC ND D K sz ot) 0,.sl 3 (aF p) none] (.v (.bool ((stpsV ND p rt).all (lX D)))):=by
 have gP:=sX hP bW p hp hs rt mQ dK hr;have u1:=ef p;obtain ⟨tf,ou⟩:=o8 p rt _ hr;generalize stpsV ND p rt=l at tf ou gP ⊢;have aez:(dInts (G6 l)).length=p.length:=by rw [aU,List.length_map,tf]
 have aeA:(dInts (G7 l)).length=p.length:=by rw [aU,List.length_map,tf]
 refine eG 71 [.tmp 4] func174 rfl ntmps174 rfl fun _ _ _ _=>?_;refine cP VT gP ?_;refine lI (fun j st=>∃ e:Nat,st=aey PC ND D K sz ot p l e/\e<=p.length/\(l.take e).all (lX D)=true/\j=p.length - e) ⟨0,rfl,by omega,rfl,rfl⟩ (bZ 0 wA wB) ?_;rintro j st ⟨e,rfl,he,lu,rfl⟩;refine br ?_ ?_<;>intro hL
 ·have aq:e < p.length:=sV u1 hL;obtain ⟨s,AN⟩:=gX aq;obtain ⟨q,b,hq,Ei,aZ,hwq⟩:=ou e s AN;have iP:=aG aq (show p.length<=4611686018427387904 by omega);have hN:=hP.ok _ (mG aZ.ah);have Vz:=bW _ (mG aZ.ah);have cS:=aZ.ah;have bR:=hN.fB;have iZ:=hN.bare;have hk7:=(kp aZ).1;have hA:lX D q=(decide (q.s.k≠3) && (decide (q.s.k≠1) || qj D q.k q.d.ai 0)):=rfl;have ZG:=fun h=>all_false (f:=lX D) hq h;have jl:lX D q=true->(l.take (e + 1)).all (lX D)=true:=fun h=>by rw [dZ hq,List.all_append,lu,List.all_cons,h];all_goals rfl
  have Xi:(dInts (G6 l))[e]? = some [.v (.int .i64 ((q.i:Nat):Int))]:=aR (by rw [List.getElem?_map,hq];rfl);have Xj:(dInts (G7 l))[e]? = some [.v (.int .i64 ((q.k:Nat):Int))]:=aR (by rw [List.getElem?_map,hq];rfl);subst Ei;generalize hAg:lX D q=A at hA ZG jl;obtain ⟨i,d,k,s⟩:=q;obtain ⟨ag,aO,lo,hi,most,af,es⟩:=d;obtain ⟨sk,sn,ss⟩:=s;simp only at hA cS Vz AN Xi Xj bR iZ hk7;have cu:=bw es;refine iX (eu AN) ?_;refine br ?_ ?_<;>intro c
  ·have c:sk=3:=sU c;rw [ZG (by rw [hA];simp [c])];exact (rfl:_=_)
  have c3:¬ sk=3:=sU c;refine dI ?_;refine ⟨_,⟨by omega,Xi⟩,?_⟩;refine iX (eB cS) ?_;refine lI (fun j st=>∃ c:Nat,st=J1 PC ND D K sz ot p l ⟨i,⟨ag,aO,lo,hi,most,af,es⟩,k,⟨sk,sn,ss⟩⟩ e c/\c<=es.length/\(sk=1->qj D k (es.take c) 0=true)/\j=es.length - c) ⟨0,rfl,by omega,fun _=>rfl,rfl⟩ (bZ 1 wA wB) ?_;rintro j st ⟨c,rfl,hc,Ab,rfl⟩;refine br ?_ ?_<;>intro mq
  ·have n8:c < es.length:=sV cu mq;obtain ⟨x,hx⟩:=gX n8;have hotk:=NY (D:=D) (k:=k) hx;refine iX (aS hx) ?_;have y7:(sk=1->(decide (c=k) || decide (cz D x≠0))=true)->(sk=1->qj D k (es.take (c + 1)) 0=true):=fun h h1=>by rw [hotk,Ab h1,h h1];all_goals rfl
   have ra:sk=1->x.bare=false:=fun h1=>by grind
   refine dI ?_;refine br ?_ ?_<;>intro c1
   ·have c1:sk=1:=sU c1;obtain ⟨t,ht,hZ⟩:=(bR x (mG hx)).to1 (ra c1);obtain ⟨z,tC⟩:∃ z,D[t]? = some z:=⟨_,gE (by omega)⟩;have W4:cz D x=z:=by unfold cz;rw [ht,eH,bN,tC];all_goals rfl
    refine ⟨_,⟨by omega,Xj⟩,?_⟩;refine br ?_ ?_<;>intro g
    ·have gn:¬ c=k:=by
      intro Ro;rw [Ro] at g;simp [pickB] at g
     refine ⟨_,⟨by rw [ht];exact eY _,by rw [ht];exact aR tC⟩,?_⟩;refine br ?_ ?_<;>intro g0
     ·have g0:z=0:=by grind [pickB]
      have hAf:A=false:=by
       rw [hA]
       cases ho:qj D k es 0 with
       | false=>simp [c1]
       | true=>exact (mM.1 ho c x hx (by omega) (by rw [W4,g0])).elim
      rw [ZG hAf];exact (rfl:_=_)
     ·have g0:¬ z=0:=by
       intro hz0;rw [hz0] at g0;simp [pickB] at g0
      exact ⟨J1 PC ND D K sz ot p l ⟨i,⟨ag,aO,lo,hi,most,af,es⟩,k,⟨sk,sn,ss⟩⟩ e (c + 1),(bZ 1 (jM (aG n8 (by omega))) (cJ (aG n8 (by omega)))),es.length - (c + 1),by omega,c + 1,rfl,by omega,y7 (fun _=>by rw [W4];simp [g0]),rfl⟩
    ·have gn:c=k:=by grind [pickB]
     exact ⟨J1 PC ND D K sz ot p l ⟨i,⟨ag,aO,lo,hi,most,af,es⟩,k,⟨sk,sn,ss⟩⟩ e (c + 1),(bZ 1 (jM (aG n8 (by omega))) (cJ (aG n8 (by omega)))),es.length - (c + 1),by omega,c + 1,rfl,by omega,y7 (fun _=>by simp [gn]),rfl⟩
   ·have c1:¬ sk=1:=sU c1;exact rE ⟨_,by omega,c + 1,rfl,by omega,y7 (fun h=>(c1 h).elim),rfl⟩ (bZ 1 (jM (aG n8 (by omega))) (cJ (aG n8 (by omega))))
  ·have hge:c=es.length:=sW cu mq;subst hge;rw [List.take_length] at Ab;have hAt:A=true:=by grind
   exact rE ⟨_,by omega,e + 1,rfl,by omega,jl hAt,rfl⟩ (bZ 0 (jM iP) (cJ iP))
 ·have hge:e=p.length:=sW u1 hL;subst hge;rw [<- tf,List.take_length] at lu;rw [lu];exact (rfl:_=_)
theorem B1 {l:List Val} {e:Nat} {v:Val} (h:l[e]? = some v):dVals (l.take e) ++ [bg v]=dVals (l.take (e + 1)):=by
 rw [dZ h,dH,dH,List.map_append];all_goals rfl
section
variable (PC:List DV) (ND:List Nd) (D:List Nat) (K:List Bool) (sz ot:List Nat) {L:Nat}
abbrev aeB (k:Int) (l:List Val):List DV:=[.v (.int .i64 k),.v (.int .i64 0),.v (.string .empty),.sl 4 (dVals l) (some 0)]
abbrev aeC (s:Stp) (d:Nd) (x:Val) (l:List Val) (n e:Nat):St:=
 ⟨[eX 0 (od PC ND D K sz ot),aE 9 1,aE 10 2,aE 11 3,aE 12 4,au 30 s.n,au 31 e],[eU s,bg x,JP,j5 d,aeB d.ag l],[⟨n,34,4,none⟩]⟩
abbrev aeD (s:Stp) (d:Nd) (k:Nat) (x:Val) (l:List Val) (n e:Nat):St:=
 ⟨[eX 0 (od PC ND D K sz ot),au 2 k,aE 9 1,aE 10 2,aE 12 4,aM 49 10 (dT d.ai),au 50 ((dT d.ai).length),au 51 e],[eU s,bg x,JP,j5 d,aeB d.ag l],[⟨n,34,4,none⟩]⟩
end
theorem DU {S:Sch} {ND:List Nd} {PC:List DV} (hP:dX S ND PC) (K:List Bool) (sz ot:List Nat) {q:Pl} (hq:ql ND q) (lu:lX (aQ ND) q=true) (hD:∃ x,q.d.ai[q.k]? = some x/\cz (aQ ND) x≠0) (x:Val) :
  EvP prog 180 [.pt (od PC ND (aQ ND) K sz ot) 0,.v (.int .i64 q.i),.v (.int .i64 q.k),.agg (eU q.s),.agg (bg x)] (.agg (bg (gx (bu ND (aQ ND)) q x))):=by
 have hN:=hP.ok _ (mG hq.ah);have kM:=hP.S1 _ (mG hq.ah);obtain ⟨k1,k5,k2,k3,k4,hk5⟩:=kp hq;have ee:=fun (j:Nat) h=>BV hP sz ot K (j:=j) h
 have jk:∀ {e:Ed},cz (aQ ND) e≠0->(bY ND).getD e.to.toNat 0≠0:=fun {e} h=>by
  have:=(wI (il ND) (i:=e.to.toNat)).1.2 (Nat.pos_of_ne_zero h);exact Nat.ne_of_gt this
 obtain ⟨y,hy,hyD⟩:=hD;have h1x:=fun c=>uN hP.ok hq hy c
 have hR:gx (bu ND (aQ ND)) q x=if q.s.k=2 then .mk q.d.ag 0 ay (List.replicate q.s.n.toNat (bu ND (aQ ND) (to0 q.d).toNat) ++ [x])
  else if q.s.k=1 then .mk q.d.ag 0 ay ((q.d.ai.map fun e=>bu ND (aQ ND) e.to.toNat).set q.k x)
  else .mk q.d.ag (if q.s.k=5 then q.k else 0) ay [x]:=rfl
 unfold lX at lu;simp only [bc,decide_eq_true_eq] at lu;have cS:=hq.ah;have bR:=hN.fB;have iZ:=hN.bare;have G4:=hN.Lt;generalize gx (bu ND (aQ ND)) q x=R at hR ⊢;generalize bu ND (aQ ND)=F at hR ee;obtain ⟨i,d,k,s⟩:=q;obtain ⟨ag,aO,lo,hi,most,af,es⟩:=d;obtain ⟨sk,sn,ss⟩:=s;obtain ⟨xk,xn,xs,xl⟩:=x;simp only at *;have cu:=bw es;refine eG 87 [.cell 10 34] func180 rfl ntmps180 rfl fun _ _ _ _=>?_;refine iX (eB cS) ?_;refine br ?_ ?_<;>intro c
 ·have c:sk=2:=sU c;obtain ⟨c5,p9,zM⟩:=k2 c;obtain ⟨iO,hk0,ht0⟩:=h1x (.inl c5);have Vi:es[0]? = some y:=by rw [iO];all_goals rfl
  rw [ap c,ht0] at hR;have G4:=G4 c5;have hyb:y.bare=false:=by grind
  obtain ⟨t,ht,hZ⟩:=(bR y (mG Vi)).to1 hyb;have ee:=ee y.to.toNat (jk hyD);have XB:((y.to.toNat:Nat):Int)=y.to:=by rw [ht,eH]
  rw [XB] at ee;generalize F y.to.toNat=u at ee hR;obtain ⟨uk,un,us,ul⟩:=u;obtain ⟨en,eb,ea,et,rb,ew,ln,ti,ru,pS⟩:=y;simp only at ee;refine lJ (fun e=>aeC PC ND (aQ ND) K sz ot ⟨sk,sn,ss⟩ ⟨ag,aO,lo,hi,most,af,es⟩ (.mk xk xn xs xl) (List.replicate e (.mk uk un us ul)) e e) sn.toNat (cX 5 ⟨0,34,4,none⟩ rfl rfl rfl qL rfl rfl lj) ?_;intro e he;have NZ:(dVals (List.replicate e (.mk uk un us ul))).length=e:=by rw [cA,List.length_replicate]
  refine br ?_ ?_<;>intro hL
  ·have aq:e < sn.toNat:=by grind
   have dx:dVals (List.replicate e (.mk uk un us ul)) ++ [bg (.mk uk un us ul)]=dVals (List.replicate (e + 1) (.mk uk un us ul)):=by
    rw [List.replicate_succ',dH,dH,List.map_append];all_goals rfl
   refine dS ?_;refine iX (aS Vi) ?_;refine cD zY ee ?_;refine ⟨NZ,⟨by rw [NZ];simp [maxLen];omega,by rw [NZ];simp;omega⟩,?_⟩;exact rE ⟨_,by omega,e + 1,rfl,by omega,rfl⟩ (bZ 5 (lY (aG aq (by omega)) dx) (wB2 (aG aq (by omega)) dx))
  ·have hge:e=sn.toNat:=by grind
   subst hge;refine ⟨NZ,⟨by rw [NZ];simp [maxLen];omega,by rw [NZ];simp;omega⟩,?_⟩;have dx:dVals (List.replicate sn.toNat (.mk uk un us ul)) ++ [bg (.mk xk xn xs xl)]=dVals (List.replicate sn.toNat (.mk uk un us ul) ++ [.mk xk xn xs xl]):=by grind [dH]
   have hE:DV.sl 4 (dVals (List.replicate sn.toNat (.mk uk un us ul)) ++ [bg (.mk xk xn xs xl)]) (some 0) = .sl 4 (dVals (List.replicate sn.toNat (.mk uk un us ul) ++ [.mk xk xn xs xl])) (some 0):=by rw [dx]
   rw [hR];exact ⟨_,(mc hE),rfl⟩
 have c:¬ sk=2:=sU c;rw [aj c] at hR;refine br ?_ ?_<;>intro c1
 ·have c1:sk=1:=sU c1;obtain ⟨c7,_⟩:=k1 c1;have Ab:=lu.2;simp [c1] at Ab;have Ab:=mM.1 Ab;rw [ap c1] at hR;have gl:=(gS hy).1;obtain ⟨W,hW⟩:∃ W,W=(es.map fun e=>F e.to.toNat).set k (.mk xk xn xs xl):=⟨_,rfl⟩;rw [<- hW] at hR;have hWl:W.length=es.length:=by rw [hW,List.length_set,List.length_map]
  have hWk:W[k]? = some (.mk xk xn xs xl):=by rw [hW];exact gz (sU gl)
  have hWo:∀ (j:Nat) z,j≠k->es[j]? = some z->W[j]? = some (F z.to.toNat):=fun j z hj hz=>by grind
  clear hW;refine lJ (fun e=>aeD PC ND (aQ ND) K sz ot ⟨sk,sn,ss⟩ ⟨ag,aO,lo,hi,most,af,es⟩ k (.mk xk xn xs xl) (W.take e) e e) es.length (cX 5 ⟨0,34,4,none⟩ rfl rfl rfl qL rfl rfl lj) ?_;intro e he;refine br ?_ ?_<;>intro hL
  ·have aq:e < es.length:=sV cu hL;have NZ:(dVals (W.take e)).length=e:=by rw [cA,zLenT];omega
   obtain ⟨z,hz⟩:=gX aq;refine iX (aS hz) ?_;refine br ?_ ?_<;>intro g
   ·have gn:¬ e=k:=by
     intro hek;rw [hek] at g;simp at g
    have hzb:z.bare=false:=by grind
    obtain ⟨t,ht,hZ⟩:=(bR z (mG hz)).to1 hzb;have ee:=ee z.to.toNat (jk (Ab e z hz (by omega)));have XB:((z.to.toNat:Nat):Int)=z.to:=by rw [ht,eH]
    rw [XB] at ee;have dx:=B1 (hWo e z gn hz);generalize F z.to.toNat=u at ee dx;obtain ⟨uk,un,us,ul⟩:=u;obtain ⟨en,eb,ea,et,rb,ew,ln,ti,ru,pS⟩:=z;simp only at ee;refine dS ?_;refine cD zY ee ?_;refine ⟨NZ,⟨by rw [NZ];simp [maxLen];omega,by rw [NZ];simp;omega⟩,?_⟩;exact rE ⟨_,by omega,e + 1,rfl,by omega,rfl⟩ (bZ 5 (lY (aG aq (by omega)) dx) (wB2 (aG aq (by omega)) dx))
   ·have gn:e=k:=by grind
    have dx:=B1 (l:=W) (e:=e) (by rw [gn];exact hWk);refine ⟨NZ,⟨by rw [NZ];simp [maxLen];omega,by rw [NZ];simp;omega⟩,?_⟩;exact rE ⟨_,by omega,e + 1,rfl,by omega,rfl⟩ (bZ 5 (lY (aG aq (by omega)) dx) (wB2 (aG aq (by omega)) dx))
  ·have hge:e=es.length:=sW cu hL;subst hge;rw [<- hWl,List.take_length,hR];exact ⟨_,ax,rfl⟩
 have c1:¬ sk=1:=sU c1;rw [aj c1] at hR;have c3:=lu.1;refine br ?_ ?_<;>intro c5
 ·have c5:sk=5:=sU c5;rw [ap c5] at hR;refine ⟨⟨by simp [maxLen],by simp⟩,?_⟩;rw [hR];exact ⟨_,ax,rfl⟩
 ·have c5:¬ sk=5:=sU c5;rw [aj c5] at hR;refine ⟨⟨by simp [maxLen],by simp⟩,?_⟩;rw [hR];exact ⟨_,ax,rfl⟩
end Go.Proofs.YtgjagnmeonoehaaGreat
