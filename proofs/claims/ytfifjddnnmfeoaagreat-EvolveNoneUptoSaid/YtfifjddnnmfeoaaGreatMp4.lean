/- Part 4 of the proof: Reading a lattice: Len, has, Name, Find, Join, Meet, Bottom; labels.Of; The checker's part, once check is known for lighter types; The checker's parts, once check is known for lighter types; The checker's one and check, once check is known for lighter types; so check; kinds.Count, resolve.nodes; the builder's level; The builder's end, loops, known; The builder's each, right, called; The builder's each of right; called; places; The builder's places; The builder's edge; The builder's node; Steps of a region that draws its order, one by one; What resolve.Build says of a schema; lattices in which nothing is wrong; resolve.Build; Reading a plan: Len, Root, Lattice, Node, Find; slices.Clone; of no plan as well; The reference of chapter 17: Great, Same; The program's comparing of schemas; The law's example: a type that leads to itself; The law of no plan: the call returns true; The document's relations: Leads; The document's lattices: Find, pairs, Leq, Loop; The document's lattices: what is wrong; The document's labels: over, Least, Of; The document's schemas: Find, word, all, Flat, End, Start; The document's schemas: Flat, End, Start; The document's schemas: named, unknown; The reference's Wrong returns what is wrong with a type; The document's schemas: what is wrong; The document's nodes: Same, of equal ones; the law's node; The document's nodes: node; The document's plan: Build; What is known of a type with which nothing is wrong; labels have levels; What is known of the nodes of a plan; A plan, as its readers know it; A lattice, as its readers know it; Leq; joins are the document's; The least depths of the values of a plan's nodes: plain; The program's nodes, least depths; The document's least depths; fine; the chapter's example; The program's Depths; The law of least depths: fine, the example, the call returns true; Evolution, where a plan is missing or has one node: Levels2, ordered, Name, fits, named, fail; The library's copyCheck of strings.Builder, laid at this program; The library's Builder at this program: what WriteString and String do to memory, exactly; Evolution of one node: the walk with a map, at the memory; Values, plain; how many are in one, how deep they lie. No condition. -/
import Derived.Shelf.Strings.OnBuilder
import Derived.Shelf.RegionOpenPlain
import Derived.Lib.Strings
import Derived.Lib.Slices
import Derived.Lib.Walk
import Derived.Lib.Builder
import Derived.Lib.AppendStr
import Derived.Lib.UnsafeStr
import Derived.WalkKit
import Derived.Laws.Externs
import Derived.Lib.Hide
import Derived.ChangeKeysEq
import Derived.MapKept
import Derived.Test.YtfifjddnnmfeoaaGreatMp3
set_option linter.all false
set_option maxRecDepth 100000
namespace Go.Proofs.YtfifjddnnmfeoaaGreat
open Go Go.RowKit Dv Tryz
section
variable (af:List ByteArray) (tc:List DV) (rows:List Nat) (js:List Int)
theorem oC:bD Tryz.prog 195 [.pt (c7 af tc rows js) 0] (.v (.int .i64 af.length)):=by
 refine ev_go (P:=Tryz.prog) tt tt_ok 5000 10 [.tmp 2] Tryz.func195 rfl Tryz.ntmps195 rfl (nL rfl) (fun E9 w9 hn9 hm9=>?_);refine (congrArg (fun z=>DV.v (.int .i64 z)) ?_:_=_);rw [aX]
theorem oD (i:Int):bD Tryz.prog 155 [.pt (c7 af tc rows js) 0,.v (.int .i64 i)] (.v (.bool (decide (0<=i) && decide (i < af.length)))):=by
 refine ev_go (P:=Tryz.prog) tt tt_ok 5000 13 [.tmp 4] Tryz.func155 rfl Tryz.ntmps155 rfl (nL rfl) (fun E9 w9 hn9 hm9=>?_);refine br (fun g=>?_) (fun g=>?_)
 ·have g:decide (0<=i)=true:=by simpa using g
  refine call_p x2 (oC af tc rows js) ax rfl ?_;refine (congrArg (fun b=>DV.v (.bool b)) ?_:_=_);simp [g,pickB]
 ·have g:decide (0<=i)=false:=by simpa using g
  refine (congrArg (fun b=>DV.v (.bool b)) ?_:_=_);simp [g,pickB]
theorem jU {a:Nat} (h:a < af.length):bD Tryz.prog 155 [.pt (c7 af tc rows js) 0,.v (.int .i64 a)] (.v (.bool true)):=by
 have:=oD af tc rows js a;have e:(decide (0<=(a:Int)) && decide ((a:Int) < af.length))=true:=by simp [h]
 rw [e] at this;exact this
end
theorem mT (af:List ByteArray) (ak rows:List Nat) (js:List Int) (s:ByteArray) (hT:di af ak) (hl:ak.length<=1099511627776) :
  bD Tryz.prog 41 [.pt (c7 af (bA af ak) rows js) 0,.v (.string s)] (yA (cH af s)):=by
 have h:=dx af ak s hT hl;refine ev_go (P:=Tryz.prog) tt tt_ok 5000 16 [.tmp 4,.tmp 5] Tryz.func41 rfl Tryz.ntmps41 rfl (nL rfl) (fun E9 w9 hn9 hm9=>?_)
 cases hx:cH af s with
 | none=>
  rw [hx] at h;refine call_p mi (h) ax rfl ?_;exact ⟨_,ax,rfl⟩
 | some k=>
  rw [hx] at h;refine call_p mi (h) ax rfl ?_;exact ⟨_,ax,rfl⟩
theorem rC {l:List DV} {k b:Nat} {x:DV} (hb:b < 32) (h:l[k + b]? = some x):(((l.drop k).take 32).drop b).take 1=[x]:=by
 have h1:((l.drop k).take 32)[b]? = some x:=by
  rw [List.getElem?_take,if_pos hb,List.getElem?_drop];exact h
 rw [List.drop_eq_getElem_cons (gS h1).1];rw [gE (gS h1).1] at h1;simp only [oI] at h1;rw [h1];rfl
section
variable (af:List ByteArray) (tc:List DV) (rows:List Nat) (js:List Int)
theorem tz (a b:Nat) (z:Int) (ha:a < af.length) (hb:b < af.length) (hn:af.length<=32) (hz:js[a * 32 + b]? = some z) :
  bD Tryz.prog 173 [.pt (c7 af tc rows js) 0,.v (.int .i64 a),.v (.int .i64 b)] (.v (.int .i64 z)):=by
 refine ev_go (P:=Tryz.prog) tt tt_ok 5000 25 [.tmp 6] Tryz.func173 rfl Tryz.ntmps173 rfl (nL rfl) (fun E9 w9 hn9 hm9=>?_);refine call_p n9 (jU af tc rows js ha) ax rfl ?_;refine call_p n9 (jU af tc rows js hb) ax rfl ?_;refine ⟨_,⟨⟨by omega,by omega⟩,rfl⟩,?_⟩;refine ⟨_,⟨⟨by omega,by omega⟩,rC (x:=.v (.int .i64 z)) (by omega) ?_⟩,?_⟩
 ·rw [show 0 + 3 + (a:Int).toNat * 32 + (0 + (b:Int).toNat * 1)=(a * 32 + b) + 3 by omega];simp only [lG,List.getElem?_cons_succ,cZ,List.getElem?_map,hz,Option.map_some]
 exact (rfl:_=_)
theorem tA (a b:Nat) (z:Int) (ha:a < af.length) (hb:b < af.length) (hn:af.length<=32) (hz:js[1024 + (a * 32 + b)]? = some z) :
  bD Tryz.prog 201 [.pt (c7 af tc rows js) 0,.v (.int .i64 a),.v (.int .i64 b)] (.v (.int .i64 z)):=by
 refine ev_go (P:=Tryz.prog) tt tt_ok 5000 25 [.tmp 6] Tryz.func201 rfl Tryz.ntmps201 rfl (nL rfl) (fun E9 w9 hn9 hm9=>?_);refine call_p n9 (jU af tc rows js ha) ax rfl ?_;refine call_p n9 (jU af tc rows js hb) ax rfl ?_;refine ⟨_,⟨⟨by omega,by omega⟩,rfl⟩,?_⟩;refine ⟨_,⟨⟨by omega,by omega⟩,rC (x:=.v (.int .i64 z)) (by omega) ?_⟩,?_⟩
 ·rw [show 0 + 1027 + (a:Int).toNat * 32 + (0 + (b:Int).toNat * 1)=(1024 + (a * 32 + b)) + 3 by omega];simp only [lG,List.getElem?_cons_succ,cZ,List.getElem?_map,hz,Option.map_some]
 exact (rfl:_=_)
end
theorem oE {dY:Nat->Bool} {pb:Nat->Nat->Bool}:∀ {e k:Nat},bestA dY pb e=some k->dY k=true
 | 0,k,h=>by cases h
 | e + 1,k,h=>by
  rw [bestA] at h;split at h
  ·rename_i h1;simp only [oI] at h;subst h;simp only [Bool.and_eq_true] at h1;exact h1.1
  ·exact oE h
theorem mU {dY:Nat->Bool} {pb:Nat->Nat->Bool} {n k:Nat} (h:iG dY pb n=some k):k < n/\dY k=true/\∀ c,c < n->dY c=true->pb k c=true:=by
 unfold iG at h;split at h
 ·cases h
 ·rename_i o ho;split at h
  ·cases h
  ·rename_i h1;simp only [oI] at h;subst h;refine ⟨jQ ho,oE ho,fun c hc hp=>?_⟩;simp only [List.any_eq_true,List.mem_range,Bool.and_eq_true,Bool.not_eq_true',not_exists,not_and] at h1;have:=h1 c hc hp;simpa using this
structure gV (f:Nat->Nat->Bool) (n:Nat):Prop where
 pos:0 < n
 rfl':∀ a,a < n->f a a=true
 tr:∀ a b c,a < n->b < n->c < n->f a b=true->f b c=true->f a c=true
 GK:∀ a b,a < n->b < n->f a b=true->f b a=true->a=b
 jn:∀ a b,a < n->b < n->∃ k,dJ f n a b=some k
 mt:∀ a b,a < n->b < n->∃ k,dZ f n a b=some k
theorem tB {f:Nat->Nat->Bool} {n a b k:Nat} (h:dJ f n a b=some k):k < n/\f a k=true/\f b k=true/\∀ c,c < n->f a c=true->f b c=true->f k c=true:=by
 obtain ⟨h1,h2,h3⟩:=mU h;simp only [Bool.and_eq_true] at h2;exact ⟨h1,h2.1,h2.2,fun c hc ha hb=>h3 c hc (by simp [ha,hb])⟩
theorem ja {f:Nat->Nat->Bool} {n a b k:Nat} (h:dZ f n a b=some k):k < n/\f k a=true/\f k b=true/\∀ c,c < n->f c a=true->f c b=true->f c k=true:=by
 obtain ⟨h1,h2,h3⟩:=mU h;simp only [Bool.and_eq_true] at h2;exact ⟨h1,h2.1,h2.2,fun c hc ha hb=>h3 c hc (by simp [ha,hb])⟩
def jV (f:Nat->Nat->Bool) (l:List Nat) (c:Nat):Bool:=l.all fun i=>f i c
def yQ (f:Nat->Nat->Bool) (n:Nat) (l:List Nat) (c:Nat):Bool:=jV f l c && (List.range n).all fun d=>!jV f l d || f c d
def eJ (f:Nat->Nat->Bool) (n:Nat) (l:List Nat):Option Nat:=bm (yQ f n l) n
theorem gW {f:Nat->Nat->Bool} {n:Nat} {l:List Nat} {c:Nat}:yQ f n l c=true↔jV f l c=true/\∀ d,d < n->jV f l d=true->f c d=true:=by
 unfold yQ;simp only [Bool.and_eq_true,List.all_eq_true,List.mem_range,Bool.or_eq_true,Bool.not_eq_true'];constructor
 ·rintro ⟨h1,h2⟩;refine ⟨h1,fun d hd ho=>?_⟩;rcases h2 d hd with h | h
  ·rw [ho] at h;cases h
  ·exact h
 ·rintro ⟨h1,h2⟩;refine ⟨h1,fun d hd=>?_⟩;cases ho:jV f l d
  ·exact .inl rfl
  ·exact .inr (h2 d hd ho)
theorem oF {f:Nat->Nat->Bool} {n:Nat} (hL:gV f n) {l:List Nat} {c:Nat} (hc:c < n) (h:yQ f n l c=true):eJ f n l=some c:=by
 refine dH hc h fun a ha=>?_;cases h2:yQ f n l a
 ·rfl
 ·obtain ⟨h3,h4⟩:=gW.1 h;obtain ⟨h5,h6⟩:=gW.1 h2;have:=hL.GK a c (by omega) hc (h6 c hc h3) (h4 a (by omega) h5);omega
theorem jb {f:Nat->Nat->Bool} {n c:Nat} (hL:gV f n) (hc:c < n) (h:∀ d,d < n->f c d=true):eJ f n []=some c:=
 oF hL hc (gW.2 ⟨rfl,fun d hd _=>h d hd⟩)
theorem kV {f:Nat->Nat->Bool} {n c k i:Nat} {l:List Nat} (hL:gV f n) (hl:∀ x∈l,x < n) (hi:i < n) (h:eJ f n l=some c) (hk:dJ f n c i=some k):eJ f n (l ++ [i])=some k:=by
 obtain ⟨h1,h2,_⟩:=dI h;obtain ⟨h3,h4⟩:=gW.1 h2;obtain ⟨g1,g2,g3,g4⟩:=tB hk;simp only [jV,List.all_eq_true] at h3;refine oF hL g1 (gW.2 ⟨?_,fun d hd ho=>?_⟩)
 ·simp only [jV,List.all_eq_true,List.mem_append,List.mem_singleton];rintro x (hx | rfl)
  ·exact hL.tr x c k (hl x hx) h1 g1 (h3 x hx) g2
  ·exact g3
 ·simp only [jV,List.all_eq_true,List.mem_append,List.mem_singleton] at ho;refine g4 d hd (h4 d hd ?_) (ho i (.inr rfl));simp only [jV,List.all_eq_true];exact fun x hx=>ho x (.inl hx)
theorem kA {f:Nat->Nat->Bool} {n c:Nat} {l:List Nat} (h:eJ f n l=some c):c < n:=(dI h).1
abbrev yR (L:List DV) (n b e:Nat):St:=
 ⟨[(0,⟨[],.pt L 0⟩),(3,⟨[],.v (.int .i64 b)⟩),(9,⟨[],.v (.int .i64 n)⟩),(10,⟨[],.v (.int .i64 e)⟩)],[],[]⟩
theorem pL (af:List ByteArray) (tc:List DV) (rows:List Nat) (js:List Int) {f:Nat->Nat->Bool} (hL:gV f af.length) (hn:af.length<=32) (hj:∀ x y,x < af.length->y < af.length->JM f af.length js x y) :
  bD Tryz.prog 138 [.pt (c7 af tc rows js) 0] (.v (.int .i64 (oz (eJ f af.length [])))):=by
 have hlen:=oC af tc rows js;have sF:=hL.pos;refine ev_go (P:=Tryz.prog) tt tt_ok 5000 19 [.tmp 2] Tryz.func138 rfl Tryz.ntmps138 rfl (nL rfl) (fun E9 w9 hn9 hm9=>?_);refine call_p x2 (hlen) ax rfl ?_;refine br (fun g=>?_) (fun g=>?_)
 ·exfalso;simp at g;simp [g] at sF
 refine call_p x2 (hlen) ax rfl ?_;refine aF (fun j st=>∃ e b:Nat,st=yR (c7 af tc rows js) af.length b e/\e<=af.length/\b < af.length/\(∀ x,x < e->f b x=true)/\j=af.length - e) af.length (yR (c7 af tc rows js) af.length 0 0) (aj ⟨_,rfl⟩ wA rfl rfl rfl wB) ⟨0,0,rfl,by omega,by omega,fun _ h=>by omega,by omega⟩ ?_;rintro j st ⟨e,b,rfl,he,hb,fL,rfl⟩;refine br (fun H6=>?_) (fun H6=>?_)
 ·have av:e < af.length:=by have:=H6;simp at this;exact this
  obtain ⟨k,hk⟩:=hL.mt b e hb av;obtain ⟨g1,g2,g3,g4⟩:=ja hk;have hz:=(hj b e hb av).2;rw [hk] at hz;refine call_p F0 (tA af tc rows js b e k hb av hn hz) ax rfl ?_;refine ⟨yR (c7 af tc rows js) af.length k (e + 1),(aj ⟨_,rfl⟩ wA rfl rfl rfl (pj av)),af.length - (e + 1),by omega,e + 1,k,rfl,by omega,g1,fun x hx=>?_,rfl⟩;rcases Nat.lt_succ_iff_lt_or_eq.1 hx with hx | rfl
  ·exact hL.tr k b x g1 hb (by omega) g2 (fL x hx)
  ·exact g3
 ·have ch:e=af.length:=by have:=H6;simp at this;omega
  subst ch;rw [jb hL hb fL];exact (rfl:_=_)
def labW (L:List ByteArray):List Wd->Ft
 | []=>(0,0)
 | w :: r=>if cH L w.s=none then (17,w.a) else labW L r
def pM (L:List ByteArray) (l:List Wd):List Nat:=l.map fun w=>(cH L w.s).getD 0
def tC (f:Nat->Nat->Bool) (L:List ByteArray) (l:List Wd):Int:=if (labW L l).1=0 then oz (eJ f L.length (pM L l)) else 0
def DQ (f:Nat->Nat->Bool) (L:List ByteArray) (l:List Wd):DV:=.cP [.v (.int .i64 (tC f L l)),(labW L l).d]
theorem we {L:List ByteArray} {l:List Wd} {e:Nat} {w:Wd} (h:l[e]? = some w):labW L (l.drop e)=if cH L w.s=none then (17,w.a) else labW L (l.drop (e + 1)):=by
 rw [drop_cons h,labW]
theorem oG {L:List ByteArray} {l:List Wd} {e i:Nat} {w:Wd} (h:l[e]? = some w) (hi:cH L w.s=some i):pM L (l.take (e + 1))=pM L (l.take e) ++ [i]:=by
 rw [List.take_add_one,h];simp [pM,hi]
abbrev yS (L:List DV) (l:List Wd) (b e:Nat):St:=
 ⟨[(0,⟨[],.pt L 0⟩),(5,⟨[],.loc 0 0⟩),(6,⟨[],.v (.int .i64 b)⟩),(16,⟨[],.sl 2 (bL l) none⟩),(17,⟨[],.v (.int .i64 (bL l).length)⟩),(18,⟨[],.v (.int .i64 e)⟩)],[[.v (.int .i64 0),.v (.int .i64 0)]],[]⟩
theorem yT (af:List ByteArray) (ak rows:List Nat) (js:List Int) (hT:di af ak) (fj:ak.length<=1099511627776) {f:Nat->Nat->Bool} (hL:gV f af.length) (hn:af.length<=32) (hj:∀ x y,x < af.length->y < af.length->JM f af.length js x y)
  (l:List Wd) (hs:wdsWt l<=1099511627776) :
  bD Tryz.prog 106 [.pt (c7 af (bA af ak) rows js) 0,.sl 2 (bL l) none] (DQ f af l):=by
 have sE:=bT l;have GL:=pL af (bA af ak) rows js hL hn hj
 have l4:∃ b,eJ f af.length []=some b:=by
  have:∀ e,e<=af.length->∃ b,b < af.length/\∀ x,x < e->f b x=true:=by
   intro e
   induction e with
   | zero=>intro _;exact ⟨0,hL.pos,fun _ h=>by omega⟩
   | succ e ih=>
    intro he;obtain ⟨b,hb,fL⟩:=ih (by omega);obtain ⟨k,hk⟩:=hL.mt b e hb (by omega);obtain ⟨g1,g2,g3,_⟩:=ja hk;refine ⟨k,g1,fun x hx=>?_⟩;rcases Nat.lt_succ_iff_lt_or_eq.1 hx with hx | rfl
    ·exact hL.tr k b x g1 hb (by omega) g2 (fL x hx)
    ·exact g3
  obtain ⟨b,hb,fL⟩:=this af.length (Nat.le_refl _);exact ⟨b,jb hL hb fL⟩
 obtain ⟨b0,ed⟩:=l4;rw [ed] at GL;refine ev_go (P:=Tryz.prog) tt tt_ok 5000 41 [.tmp 4,.cell 5 54] Tryz.func106 rfl Tryz.ntmps106 rfl (nL rfl) (fun E9 w9 hn9 hm9=>?_);refine call_p FT (GL) ax rfl ?_;refine aF (fun j st=>∃ e b:Nat,st=yS (c7 af (bA af ak) rows js) l b e/\e<=l.length/\labW af l=labW af (l.drop e)/\eJ f af.length (pM af (l.take e))=some b/\(∀ x∈pM af (l.take e),x < af.length)/\j=l.length - e) l.length (yS (c7 af (bA af ak) rows js) l b0 0) (aj ⟨_,rfl⟩ wA rfl rfl rfl wB) ⟨0,b0,rfl,by omega,rfl,ed,by simp [pM],by omega⟩ ?_;rintro j st ⟨e,b,rfl,he,bd,AJ,Ay,rfl⟩;have hb:=kA AJ;refine br (fun JY=>?_) (fun JY=>?_)
 ·have av:e < l.length:=by simpa [aw] using JY
  obtain ⟨w,hw⟩:∃ w,l[e]? = some w:=⟨_,gE av⟩;have a7:=we (L:=af) hw;have ry:=mT af ak rows js w.s hT fj;refine ⟨qh w,⟨by omega,bU hw⟩,?_⟩
  cases hx:cH af w.s with
  | none=>
   rw [hx] at ry;refine call_p Di (ry) ax rfl ?_;rw [if_pos hx] at a7;have h1:labW af l=(17,w.a):=bd.trans a7;refine aV mo (by decide +kernel) ?_;refine ⟨_,?_,rfl⟩;rw [DQ,tC,h1,if_neg (by simp)];exact ax
  | some i=>
   rw [hx] at ry;refine call_p Di (ry) ax rfl ?_;rw [if_neg (by rw [hx];simp)] at a7;have hi:=(dw hx).1;obtain ⟨k,hk⟩:=hL.jn b i hb hi;have hz:=(hj b i hb hi).1;rw [hk] at hz;refine call_p FZ (tz af (bA af ak) rows js b i k hb hi hn hz) ax rfl ?_;refine ⟨yS (c7 af (bA af ak) rows js) l k (e + 1),(aj ⟨_,rfl⟩ wA rfl rfl rfl (pj av)),l.length - (e + 1),by omega,e + 1,k,rfl,by omega,bd.trans a7,?_,?_,rfl⟩
   ·rw [oG hw hx];exact kV hL Ay hi AJ hk
   ·rw [oG hw hx];intro x hm;rcases List.mem_append.1 hm with hm | hm
    ·exact Ay x hm
    ·rw [List.mem_singleton.1 hm];exact hi
 ·have ch:e=l.length:=by
   have:=JY;simp [aw] at this;omega
  subst ch;rw [List.drop_length] at bd;rw [List.take_length] at AJ;have h1:labW af l=(0,0):=bd;refine ⟨_,?_,rfl⟩;rw [DQ,tC,h1,if_pos rfl,AJ];exact ax
def tD (x:Ft × Int) (r:DV) (os:List (List DV)) (_:List TkE):Prop:=
 r=x.1.d/\∃ z:Int,os=[[.v (.int .i64 z)]]/\(x.1.1=0->z=x.2)
theorem gm {x:Ft × Int}:∀ r os tk,tD x r os tk->clB 0 0 r=true/\∀ ji∈os,clB.clL 0 0 ji=true:=by
 rintro r os tk ⟨rfl,z,rfl,_⟩;refine ⟨rfl,fun ji h=>?_⟩;simp only [List.mem_singleton] at h;subst h;rfl
def yU (k:Nat):Prop:=∀ (t:Ty) (depth m:Int),t.wt<=k->t.wt<=1099511627776->0<=depth->depth<=25->0<=m->m<=512 ->
 Ev Tryz.prog 172 [.loc 0 0,.agg (eV t),.v (.int .i64 depth)] [[.v (.int .i64 m)]] [] (tD (wrong t depth m))
def fD (p:Ph) (t:Ty) (un:Bool) (depth m:Int):Ft × Int:=
 if p.bare=true then (if un=false∨bE p t (gR p) bl=false then ((19,p.name.a),m) else ((0,0),m))
 else if (cB p).1≠0 then (cB p,m)
 else wrong t (depth + 1) m
theorem aJ {x:Ft × Int} {f:Ft} {m z:Int} (h:x=(f,m)) (hz:f.1=0->z=m) {tk:List TkE}:tD x f.d [[.v (.int .i64 z)]] tk:=by
 subst h;exact ⟨rfl,z,rfl,hz⟩
theorem tE (k:Nat) (ih:yU k) (p:Ph) (t:Ty) (un:Bool) (depth m:Int) (hk:t.wt<=k) (hp:p.wt<=1099511627776) (cm:t.wt<=1099511627776) (vy:0<=depth) (zT:depth<=24) (lC:0<=m) (eO:m<=512) :
  Ev Tryz.prog 262 [.loc 0 0,.agg (x5 p (eV t)),.v (.bool un),.v (.int .i64 depth)] [[.v (.int .i64 m)]] [] (tD (fD p t un depth m)):=by
 have jC:=hp;simp only [Ph.wt] at jC;have kN:=gO p (gR p) t bl hp (by simp only [Ph.wt,gR,wdsWt];omega) (mB t bl cm (by decide));have sr:=ih t (depth + 1) m hk cm (by omega) (by omega) lC eO;obtain ⟨u,us⟩:=t;have JZ:=py p (eV (.mk u us)) (.mk u us) rfl hp;have hS:=fD.eq_def p (.mk u us) un depth m;generalize fD p (.mk u us) un depth m=F at hS ⊢;obtain ⟨nm,bare,lab,wide,ck,cn,ca,cl⟩:=p;simp only at hS jC kN
 cases bare with
 | true=>
  rw [if_pos rfl] at hS
  cases un with
  | true=>
   refine ev_go (P:=Tryz.prog) tt tt_ok 5000 68 [.cell 8 54] Tryz.func262 rfl Tryz.ntmps262 rfl (nL rfl) (fun E9 w9 hn9 hm9=>?_);refine call_p x3 (kN) ax rfl ?_;refine br (fun q=>?_) (fun q=>?_)
   ·have q:bE ⟨nm,true,lab,wide,ck,cn,ca,cl⟩ (.mk u us) (gR ⟨nm,true,lab,wide,ck,cn,ca,cl⟩) bl=false:=by simpa [show (lastG (21,false) [(18,true)]).snd=true from rfl,pickB] using q
    rw [if_pos (.inr q)] at hS;refine call_p bS (aM 19 nm.a) ax rfl ?_;exact ⟨_,_,ax,ax,aJ (tk:=[]) (f:=(19,nm.a)) hS (fun _=>rfl)⟩
   ·have q:bE ⟨nm,true,lab,wide,ck,cn,ca,cl⟩ (.mk u us) (gR ⟨nm,true,lab,wide,ck,cn,ca,cl⟩) bl=true:=by simpa [show (lastG (21,false) [(18,true)]).snd=true from rfl,pickB] using q
    rw [if_neg (by simp [q])] at hS;exact ⟨_,_,ax,ax,aJ (tk:=[]) (f:=(0,0)) hS (fun _=>rfl)⟩
  | false=>
   refine ev_go (P:=Tryz.prog) tt tt_ok 5000 68 [.cell 8 54] Tryz.func262 rfl Tryz.ntmps262 rfl (nL rfl) (fun E9 w9 hn9 hm9=>?_);rw [if_pos (.inl rfl)] at hS;refine call_p bS (aM 19 nm.a) ax rfl ?_;exact ⟨_,_,ax,ax,aJ (tk:=[]) (f:=(19,nm.a)) hS (fun _=>rfl)⟩
 | false=>
  rw [if_neg (by simp)] at hS;refine ev_go (P:=Tryz.prog) tt tt_ok 5000 68 [.cell 8 54] Tryz.func262 rfl Tryz.ntmps262 rfl (nL rfl) (fun E9 w9 hn9 hm9=>?_);refine br (fun hw=>?_) (fun hw=>?_)
  ·have hw:wide < 0∨64 < wide:=by simpa [aH] using hw
   have hP:cB ⟨nm,false,lab,wide,ck,cn,ca,cl⟩=(20,nm.a):=by simp only [cB,if_pos hw]
   rw [hP,if_pos (by simp)] at hS;refine call_p bS (aM 20 nm.a) ax rfl ?_;exact ⟨_,_,ax,ax,aJ (tk:=[]) (f:=(20,nm.a)) hS (fun _=>rfl)⟩
  have hw:¬ (wide < 0∨64 < wide):=by simp [aH] at hw;omega
  refine call_p qY (dE lab (by omega)) ax rfl ?_;refine br (fun hb=>?_) (fun hb=>?_)
  ·have hb:(bW lab).1≠0:=by simpa using hb
   have hP:cB ⟨nm,false,lab,wide,ck,cn,ca,cl⟩=bW lab:=by simp only [cB,if_neg hw,if_pos hb]
   rw [hP,if_pos hb] at hS;exact ⟨_,_,ax,ax,aJ (tk:=[]) (f:=bW lab) hS (fun _=>rfl)⟩
  have hb:(bW lab).1=0:=by simpa using hb
  have hP:cB ⟨nm,false,lab,wide,ck,cn,ca,cl⟩=aS ⟨nm,false,lab,wide,ck,cn,ca,cl⟩:=by simp only [cB,if_neg hw];rw [if_neg (by simp [hb])]
  rw [hP] at hS;refine call_p F6 (JZ) ax rfl ?_;refine br (fun hc=>?_) (fun hc=>?_)
  ·have hc:(aS ⟨nm,false,lab,wide,ck,cn,ca,cl⟩).1≠0:=by simpa using hc
   rw [if_pos hc] at hS;exact ⟨_,_,ax,ax,aJ (tk:=[]) (f:=aS ⟨nm,false,lab,wide,ck,cn,ca,cl⟩) hS (fun _=>rfl)⟩
  have hc:(aS ⟨nm,false,lab,wide,ck,cn,ca,cl⟩).1=0:=by simpa using hc
  rw [if_neg (by simp [hc])] at hS;refine e8 x1 rfl rfl ax (by repeat' (first | exact rfl | exact trivial | exact Or.inr (Or.inl ⟨_,rfl⟩) | exact Or.inr ⟨_,rfl⟩ | exact Or.inl ⟨rfl,rfl⟩ | exact Or.inl rfl | refine Or.inr ⟨_,_,rfl,Nat.zero_le _,rfl,?_⟩ | refine ⟨_,_,rfl,?_,?_⟩ | refine ⟨_,rfl,?_⟩ | exact congrArg (fun z=>DV.v (.int .i64 z)) (wrap64 (by omega) (by omega)) | refine Or.inr (Or.inr (Or.inr ⟨_,_,rfl,?_⟩)) | exact Or.inl rfl | refine Or.inr ?_)) sr gm (fun r ji hr=>?_);obtain ⟨rfl,z,hz,qF⟩:=hr;simp only [List.cons.injEq,and_true] at hz;subst hz;exact ⟨_,_,ax,ax,aJ (tk:=[]) (f:=(wrong (.mk u us) (depth + 1) m).1) hS qF⟩
theorem nH {ai:Int} {all:List Wd} {i:Nat} {p:Ph} {t:Ty} {r:Pts} {depth m:Int} (hk:ai=7∨ai=8) (hl:aC all i p.name=0) :
  wrongPts ai all i (.cons p t r) depth m=if (fD p t (decide (ai=8)) depth m).1.1≠0 then fD p t (decide (ai=8)) depth m else wrongPts ai all (i + 1) r depth (fD p t (decide (ai=8)) depth m).2:=by
 simp only [wrongPts];rw [if_neg (by simp [hl])];unfold fD;by_cases hb:p.bare=true
 ·rw [if_pos hb,if_pos hb,AU];by_cases h7:ai=7
  ·subst h7;rw [if_pos (.inl rfl),if_pos (c:=decide ((7:Int)=8)=false∨_) (.inl (by simp)),if_pos (by simp)]
  ·have h8:ai=8:=by omega
   subst h8;by_cases h:sameTy t bl=false∨bz p cS=false
   ·have h':decide ((8:Int)=8)=false∨(bz p cS && sameTy t bl)=false:=.inr (by rcases h with h | h<;>simp [h]);rw [if_pos (.inr h),if_pos h',if_pos (by simp)]
   ·have h1:sameTy t bl=true:=by
     cases hc:sameTy t bl
     ·exact absurd (.inl hc) h
     ·rfl
    have h2:bz p cS=true:=by
     cases hc:bz p cS
     ·exact absurd (.inr hc) h
     ·rfl
    have h':¬ (decide ((8:Int)=8)=false∨(bz p cS && sameTy t bl)=false):=by simp [h1,h2]
    rw [if_neg (by simp [h1,h2]),if_neg h',if_neg (by simp)]
 ·rw [if_neg hb,if_neg hb];by_cases hP:(cB p).1≠0
  ·rw [if_pos hP,if_pos hP,if_pos hP]
  ·rw [if_neg hP,if_neg hP]
theorem yV {p:Ph} {t:Ty} {un:Bool} {depth m:Int} (lC:0<=m) (eO:m<=512) (h:(fD p t un depth m).1.1=0):(fD p t un depth m).1=(0,0)/\0<=(fD p t un depth m).2/\(fD p t un depth m).2<=512:=by
 have hw:=mw t (depth + 1) m lC;unfold fD at h ⊢;by_cases hb:p.bare=true
 ·rw [if_pos hb] at h ⊢;split at h
  ·simp at h
  ·rename_i hc;rw [if_neg hc];exact ⟨rfl,lC,eO⟩
 ·rw [if_neg hb] at h ⊢;by_cases hP:(cB p).1≠0
  ·rw [if_pos hP] at h;exact absurd h hP
  ·rw [if_neg hP] at h ⊢;exact hw h
abbrev mV (h:Hd) (ps:Pts) (n e:Nat) (depth m:Int):St:=
 ⟨[(0,⟨[],.loc 0 0⟩),(2,⟨[],.v (.int .i64 depth)⟩),(4,⟨[],.loc 1 0⟩),(6,⟨[],.loc 2 0⟩),(38,⟨[],.sl 18 (dg ps) none⟩),(39,⟨[],.v (.int .i64 (dg ps).length)⟩),(40,⟨[],.v (.int .i64 e)⟩),(7,⟨[],.sl 1 (bV (al ((pNames ps).take e))) (some 0)⟩)],
  [[.v (.int .i64 m)],eV (.mk h ps),[.v (.int .i64 0),.v (.int .i64 0)]],[⟨n,9,1,none⟩]⟩
theorem kW (k:Nat) (ih:yU k) (h:Hd) (ps:Pts) (depth m:Int) (H7:h.ai=7∨h.ai=8) (hk:ps.wt<=k) (cm:(Ty.mk h ps).wt<=1099511627776) (vy:0<=depth) (zT:depth<=24) (lC:0<=m) (eO:m<=512) :
  Ev Tryz.prog 218 [.loc 0 0,.agg (eV (.mk h ps)),.v (.int .i64 depth)] [[.v (.int .i64 m)]] [] (tD (gM h ps depth m)):=by
 simp only [Ty.wt,Hd.wt] at cm;have qB:=ps.gL;have lp:=iV ps;have J0:=od ps;have hS:=gM.eq_def h ps depth m;generalize gM h ps depth m=F at hS ⊢;refine ev_go (P:=Tryz.prog) tt tt_ok 5000 72 [.cell 6 54] Tryz.func218 rfl Tryz.ntmps218 rfl (nL rfl) (fun E9 w9 hn9 hm9=>?_);refine br (fun c1=>?_) (fun c1=>?_)
 ·have c1:h.ai=8/\ps.len=0:=by
   simp [aD,aN] at c1;exact ⟨c1.1,by omega⟩
  rw [if_pos c1] at hS;refine call_p bS (aM 15 h.dD) ax rfl ?_;exact ⟨_,_,ax,ax,aJ (tk:=[]) (f:=(15,h.dD)) hS (fun _=>rfl)⟩
 have c1:¬ (h.ai=8/\ps.len=0):=by
  simp [aD,aN] at c1;omega
 rw [if_neg c1] at hS;refine br (fun c2=>?_) (fun c2=>?_)
 ·have av:64 < ps.len:=by simp [aN] at c2;omega
  obtain ⟨p,t,hx⟩:=Pts.e9 av;refine ⟨_,⟨by omega,cF hx⟩,?_⟩;refine call_p bS (aM 8 p.name.a) ax rfl ?_;rw [if_pos av,gd hx] at hS;exact ⟨_,_,ax,ax,aJ (tk:=[]) (f:=(8,p.name.a)) hS (fun _=>rfl)⟩
 have c2:¬ 64 < ps.len:=by simp [aN] at c2;omega
 rw [if_neg c2] at hS
 refine aF (fun j st=>∃ (e:Nat) (m':Int),st=mV h ps e e depth m' /\ e<=ps.len/\0<=m' /\ m' <= 512/\(al ((pNames ps).take e)).Nodup /\
   F=wrongPts h.ai (pNames ps) e (ps.drop e) depth m' /\ j=ps.len - e) ps.len (mV h ps 0 0 depth m) (fu ⟨0,9,1,none⟩ rfl ⟨_,rfl⟩ rfl wA rfl rfl BM) ⟨0,m,rfl,by omega,lC,eO,by simp [al],hS,by omega⟩ ?_
 rintro j st ⟨e,m',rfl,he,yW,yX,hnd,bd,rfl⟩;refine br (fun hL=>?_) (fun hL=>?_)
 ·have av:e < ps.len:=by simpa [aN] using hL
  obtain ⟨p,t,hx⟩:=Pts.e9 av;have A4:=Pts.fZ (mG hx);have DR:=gd hx;have hpw:p.name.s.size + 64<=p.wt:=by simp only [Ph.wt,Wd.wt];omega
  rw [Pts.drop_cons hx] at bd
  have ym:(al ((pNames ps).take (e + 1)))[(al ((pNames ps).take (e + 1))).length - 1]? = some p.name.s:=by
   have uy:(al ((pNames ps).take (e + 1))).length=e + 1:=by simp [al];omega
   rw [uy];simp [al,DR]
  have CL:=kS (al ((pNames ps).take (e + 1))) p.name.s p.name.a ym (by simp [al];omega) (by omega);have qj:=fw DR;rw [ox p.name.a DR hnd,<- qj] at CL;have rD:=tE k ih p t (decide (h.ai=8)) depth m' (by omega) (by omega) (by omega) vy zT yW yX;obtain ⟨u,us⟩:=t;refine ⟨_,⟨by omega,cF hx⟩,?_⟩;refine ⟨by simp [aX,al];omega,⟨by simp [aX,al,maxLen];omega,by simp [aX,al];omega⟩,?_⟩;refine call_p B6 (CL) ax rfl ?_;by_cases hl:aC (pNames ps) e p.name≠0
  ·rw [if_pos hl];refine br (fun hf=>?_) (fun hf=>?_)
   ·simp only [wrongPts] at bd;rw [if_pos hl] at bd;exact ⟨_,_,ax,ax,aJ (tk:=[]) (f:=(aC (pNames ps) e p.name,p.name.a)) bd (fun _=>rfl)⟩
   ·exact absurd (by simpa using hf) hl
  have hl:aC (pNames ps) e p.name=0:=by simpa using hl
  have J1:=gl DR hnd hl;rw [if_neg (by simp [hl])];rw [nH H7 hl] at bd;have gD:=yV (p:=p) (t:=.mk u us) (un:=decide (h.ai=8)) (depth:=depth) yW yX;generalize fD p (.mk u us) (decide (h.ai=8)) depth m'=r at rD bd gD;obtain ⟨⟨fe,fa⟩,many⟩:=r;simp only at bd gD;refine e8 F5 rfl rfl ax ax rD gm (fun r ji hr=>?_);obtain ⟨rfl,z,hz,qF⟩:=hr;simp only [List.cons.injEq,and_true] at hz;subst hz;refine br (fun hd=>?_) (fun hd=>?_)
  ·have hd:fe≠0:=by simpa using hd
   rw [if_pos hd] at bd;exact ⟨_,_,ax,ax,aJ (tk:=[]) (f:=(fe,fa)) bd (fun h0=>absurd h0 hd)⟩
  ·have hd:fe=0:=by simpa using hd
   subst hd;obtain ⟨_,h2,h3⟩:=gD rfl;rw [if_neg (by simp)] at bd;have hz2:z=many:=qF rfl;subst hz2;exact ⟨mV h ps (e + 1) (e + 1) depth z,(aj ⟨_,rfl⟩ wA rfl rfl rfl (Ej av qj)),ps.len - (e + 1),by omega,e + 1,z,rfl,by omega,h2,h3,J1,bd,rfl⟩
 ·have ch:e=ps.len:=by simp [aN] at hL;omega
  rw [ch,Pts.cR] at bd;simp only [wrongPts] at bd;exact ⟨_,_,ax,ax,aJ (tk:=[]) (f:=(0,0)) bd (fun _=>rfl)⟩
theorem oH (k:Nat) (ih:yU k) (h:Hd) (ps:Pts) (depth m:Int) (hk:ps.wt<=k) (cm:(Ty.mk h ps).wt<=1099511627776) (vy:0<=depth) (zT:depth<=24) (lC:0<=m) (eO:m<=512) :
  Ev Tryz.prog 217 [.loc 0 0,.agg (eV (.mk h ps)),.v (.int .i64 depth)] [[.v (.int .i64 m)]] [] (tD (wrongOne h ps depth m)):=by
 simp only [Ty.wt,Hd.wt] at cm
 cases ps with
 | nil=>
  have hS:wrongOne h .nil depth m=((19,h.dD),m):=by simp only [wrongOne]
  generalize wrongOne h .nil depth m=F at hS ⊢;refine ev_go (P:=Tryz.prog) tt tt_ok 5000 44 [.cell 6 54] Tryz.func217 rfl Tryz.ntmps217 rfl (nL rfl) (fun E9 w9 hn9 hm9=>?_);refine call_p bS (aM 19 h.dD) ax rfl ?_;exact ⟨_,_,ax,ax,aJ (tk:=[]) (f:=(19,h.dD)) hS (fun _=>rfl)⟩
 | cons p t r=>
  cases r with
  | cons p2 t2 r2=>
   have hS:wrongOne h (.cons p t (.cons p2 t2 r2)) depth m=((19,h.dD),m):=by simp only [wrongOne]
   generalize wrongOne h (.cons p t (.cons p2 t2 r2)) depth m=F at hS ⊢;refine ev_go (P:=Tryz.prog) tt tt_ok 5000 44 [.cell 6 54] Tryz.func217 rfl Tryz.ntmps217 rfl (nL rfl) (fun E9 w9 hn9 hm9=>?_);refine call_p bS (aM 19 h.dD) ax rfl ?_;exact ⟨_,_,ax,ax,aJ (tk:=[]) (f:=(19,h.dD)) hS (fun _=>rfl)⟩
  | nil=>
   simp only [Pts.wt] at cm hk;have hS:wrongOne h (.cons p t .nil) depth m=if p.name.s≠aE∨bz p cM=false then ((19,h.dD),m) else if h.most < 0∨1024 < h.most then ((20,h.dD),m) else wrong t (depth + 1) m:=by simp only [wrongOne]
   generalize wrongOne h (.cons p t .nil) depth m=F at hS ⊢;have C9:=rf p t (by omega);rw [empty_eq] at C9;have sr:=ih t (depth + 1) m (by omega) (by omega) (by omega) (by omega) lC eO;obtain ⟨u,us⟩:=t;refine ev_go (P:=Tryz.prog) tt tt_ok 5000 44 [.cell 6 54] Tryz.func217 rfl Tryz.ntmps217 rfl (nL rfl) (fun E9 w9 hn9 hm9=>?_);refine ⟨_,⟨by omega,rfl⟩,?_⟩;refine call_p F4 (C9) ax rfl ?_;refine br (fun q=>?_) (fun q=>?_)
   ·have q:p.name.s≠aE∨bz p cM=false:=by
     have:=q;simp [pickB] at this;exact this
    rw [if_pos q] at hS;refine call_p bS (aM 19 h.dD) ax rfl ?_;exact ⟨_,_,ax,ax,aJ (tk:=[]) (f:=(19,h.dD)) hS (fun _=>rfl)⟩
   have q:¬ (p.name.s≠aE∨bz p cM=false):=by
    have:=q;simp [pickB] at this;simp [this.1,this.2]
   rw [if_neg q] at hS;refine br (fun x=>?_) (fun x=>?_)
   ·have x:h.most < 0∨1024 < h.most:=by simpa [aH] using x
    rw [if_pos x] at hS;refine call_p bS (aM 20 h.dD) ax rfl ?_;exact ⟨_,_,ax,ax,aJ (tk:=[]) (f:=(20,h.dD)) hS (fun _=>rfl)⟩
   have x:¬ (h.most < 0∨1024 < h.most):=by simp [aH] at x;omega
   rw [if_neg x] at hS;refine ⟨_,⟨by omega,rfl⟩,?_⟩;refine e8 x1 rfl rfl ax (by repeat' (first | exact rfl | exact trivial | exact Or.inr (Or.inl ⟨_,rfl⟩) | exact Or.inr ⟨_,rfl⟩ | exact Or.inl ⟨rfl,rfl⟩ | exact Or.inl rfl | refine Or.inr ⟨_,_,rfl,Nat.zero_le _,rfl,?_⟩ | refine ⟨_,_,rfl,?_,?_⟩ | refine ⟨_,rfl,?_⟩ | exact congrArg (fun z=>DV.v (.int .i64 z)) (wrap64 (by omega) (by omega)) | refine Or.inr (Or.inr (Or.inr ⟨_,_,rfl,?_⟩)) | exact Or.inl rfl | refine Or.inr ?_)) sr gm (fun r ji hr=>?_);obtain ⟨rfl,z,hz,qF⟩:=hr;simp only [List.cons.injEq,and_true] at hz;subst hz;exact ⟨_,_,ax,ax,aJ (tk:=[]) (f:=(wrong (.mk u us) (depth + 1) m).1) hS qF⟩
theorem rE (k:Nat) (ih:yU k) (h:Hd) (ps:Pts) (depth m:Int) (hk:ps.wt<=k) (cm:(Ty.mk h ps).wt<=1099511627776) (vy:0<=depth) (zT:depth<=25) (lC:0<=m) (eO:m<=512) :
  Ev Tryz.prog 172 [.loc 0 0,.agg (eV (.mk h ps)),.v (.int .i64 depth)] [[.v (.int .i64 m)]] [] (tD (wrong (.mk h ps) depth m)):=by
 have Cn:=cm;simp only [Ty.wt,Hd.wt] at Cn;have ql:IntKind.i64.wrap (m + 1)=m + 1:=wrap64 (by omega) (by omega);have hS:=wrong.eq_def (.mk h ps) depth m;simp only at hS;generalize wrong (.mk h ps) depth m=F at hS ⊢;have dc:=vJ h ps;rw [uL] at dc;refine ev_go (P:=Tryz.prog) tt tt_ok 5000 103 [.cell 6 54] Tryz.func172 rfl Tryz.ntmps172 rfl (nL rfl) (fun E9 w9 hn9 hm9=>?_);refine br (fun c=>?_) (fun c=>?_)
 ·have c:24 < depth:=of_decide_eq_true c;rw [if_pos c] at hS;refine call_p bS (aM 6 h.dD) ax rfl ?_;exact ⟨_,[[.v (.int .i64 (m + 1))]],ax,(aI ql),aJ (tk:=[]) (f:=(6,h.dD)) hS (fun _=>rfl)⟩
 have c:¬ 24 < depth:=of_decide_eq_false c;rw [if_neg c] at hS;refine br (fun c=>?_) (fun c=>?_)
 ·have c:512 < IntKind.i64.wrap (m + 1):=of_decide_eq_true c;rw [ql] at c;rw [if_pos c] at hS;refine call_p bS (aM 8 h.dD) ax rfl ?_;exact ⟨_,[[.v (.int .i64 (m + 1))]],ax,(aI ql),aJ (tk:=[]) (f:=(8,h.dD)) hS (fun _=>rfl)⟩
 have c:¬ 512 < IntKind.i64.wrap (m + 1):=of_decide_eq_false c;rw [ql] at c;rw [if_neg c] at hS;refine br (fun c=>?_) (fun c=>?_)
 ·have c:h.ai < 1∨9 < h.ai:=by simpa [aH] using c
  rw [if_pos c] at hS;refine call_p bS (aM 14 h.dD) ax rfl ?_;exact ⟨_,[[.v (.int .i64 (m + 1))]],ax,(aI ql),aJ (tk:=[]) (f:=(14,h.dD)) hS (fun _=>rfl)⟩
 have ck:¬ (h.ai < 1∨9 < h.ai):=by simp [aH] at c;omega
 rw [if_neg ck] at hS;refine call_p F2 (dc) ax rfl ?_;refine br (fun c=>?_) (fun c=>?_)
 ·have c:q8 (.mk h ps)=false:=by simpa [q8] using c
  rw [if_pos c] at hS;refine call_p bS (aM 19 h.dD) ax rfl ?_;exact ⟨_,[[.v (.int .i64 (m + 1))]],ax,(aI ql),aJ (tk:=[]) (f:=(19,h.dD)) hS (fun _=>rfl)⟩
 have c:¬ q8 (.mk h ps)=false:=by simpa [q8] using c
 rw [if_neg c] at hS;refine br (fun k2=>?_) (fun k2=>?_)
 ·have k2:h.ai=2:=of_decide_eq_true k2;refine br (fun x=>?_) (fun x=>?_)
  ·have x:h.hi < h.lo:=of_decide_eq_true x;rw [if_pos (.inl ⟨k2,x⟩)] at hS;refine call_p bS (aM 20 h.dD) ax rfl ?_;exact ⟨_,[[.v (.int .i64 (m + 1))]],ax,(aI ql),aJ (tk:=[]) (f:=(20,h.dD)) hS (fun _=>rfl)⟩
  have x:¬ h.hi < h.lo:=of_decide_eq_false x;rw [if_neg (by omega),if_neg (by omega),if_neg (by omega),if_neg (by omega),if_neg (by omega)] at hS;exact ⟨_,[[.v (.int .i64 (m + 1))]],ax,(aI ql),aJ (tk:=[]) (f:=(0,0)) hS (fun _=>rfl)⟩
 have k2:¬ h.ai=2:=of_decide_eq_false k2;refine br (fun k3=>?_) (fun k3=>?_)
 ·have k3:h.ai=3:=of_decide_eq_true k3;refine br (fun x=>?_) (fun x=>?_)
  ·have x:h.most < 0∨4096 < h.most:=by simpa [aH] using x
   rw [if_pos (.inr ⟨k3,x⟩)] at hS;refine call_p bS (aM 20 h.dD) ax rfl ?_;exact ⟨_,[[.v (.int .i64 (m + 1))]],ax,(aI ql),aJ (tk:=[]) (f:=(20,h.dD)) hS (fun _=>rfl)⟩
  have x:¬ (h.most < 0∨4096 < h.most):=by simp [aH] at x;omega
  rw [if_neg (by omega),if_neg (by omega),if_neg (by omega),if_neg (by omega),if_neg (by omega)] at hS;exact ⟨_,[[.v (.int .i64 (m + 1))]],ax,(aI ql),aJ (tk:=[]) (f:=(0,0)) hS (fun _=>rfl)⟩
 have k3:¬ h.ai=3:=of_decide_eq_false k3;rw [if_neg (by omega)] at hS;refine br (fun k4=>?_) (fun k4=>?_)
 ·have k4:h.ai=4:=of_decide_eq_true k4;rw [if_neg (by omega),if_pos k4,<- yE] at hS;refine call_p F3 (s6 h ps (by omega)) ax rfl ?_;exact ⟨_,[[.v (.int .i64 (m + 1))]],ax,(aI ql),aJ (tk:=[]) (f:=gP h) hS (fun _=>rfl)⟩
 have k4:¬ h.ai=4:=of_decide_eq_false k4;refine br (fun k5=>?_) (fun k5=>?_)
 ·have J2:h.ai=5∨h.ai=6:=.inl (of_decide_eq_true k5);rw [if_neg (by omega),if_neg (by omega),if_pos J2] at hS;refine br (fun _=>?_) (fun hc=>by rw [k5] at hc;cases hc);refine e8 B4 rfl rfl (cs':=[.v (.int .i64 (m + 1))]) (aI ql) ax (oH k ih h ps depth (m + 1) hk cm vy (by omega) (by omega) (by omega)) gm (fun r ji hr=>?_);obtain ⟨rfl,z,hz,qF⟩:=hr;simp only [List.cons.injEq,and_true] at hz;subst hz;exact ⟨_,_,ax,ax,aJ (tk:=[]) (f:=(wrongOne h ps depth (m + 1)).1) hS qF⟩
 have k5:¬ h.ai=5:=of_decide_eq_false k5;refine br (fun k6=>?_) (fun k6=>?_)
 ·have J2:h.ai=5∨h.ai=6:=.inr (of_decide_eq_true k6);rw [if_neg (by omega),if_neg (by omega),if_pos J2] at hS;refine e8 B4 rfl rfl (cs':=[.v (.int .i64 (m + 1))]) (aI ql) ax (oH k ih h ps depth (m + 1) hk cm vy (by omega) (by omega) (by omega)) gm (fun r ji hr=>?_);obtain ⟨rfl,z,hz,qF⟩:=hr;simp only [List.cons.injEq,and_true] at hz;subst hz;exact ⟨_,_,ax,ax,aJ (tk:=[]) (f:=(wrongOne h ps depth (m + 1)).1) hS qF⟩
 have k6:¬ h.ai=6:=of_decide_eq_false k6;have hP:gM h ps depth (m + 1)=gM h ps depth (m + 1):=rfl
 conv at hP=>lhs;unfold gM
 refine br (fun k7=>?_) (fun k7=>?_)
 ·have GM:h.ai=7∨h.ai=8:=.inl (of_decide_eq_true k7);rw [if_neg (by omega),if_neg (by omega),if_neg (by omega),if_pos GM,hP] at hS;refine br (fun _=>?_) (fun hc=>by rw [k7] at hc;cases hc);refine e8 B5 rfl rfl (cs':=[.v (.int .i64 (m + 1))]) (aI ql) ax (kW k ih h ps depth (m + 1) GM hk cm vy (by omega) (by omega) (by omega)) gm (fun r ji hr=>?_);obtain ⟨rfl,z,hz,qF⟩:=hr;simp only [List.cons.injEq,and_true] at hz;subst hz;exact ⟨_,_,ax,ax,aJ (tk:=[]) (f:=(gM h ps depth (m + 1)).1) hS qF⟩
 have k7:¬ h.ai=7:=of_decide_eq_false k7;refine br (fun k8=>?_) (fun k8=>?_)
 ·have GM:h.ai=7∨h.ai=8:=.inr (of_decide_eq_true k8);rw [if_neg (by omega),if_neg (by omega),if_neg (by omega),if_pos GM,hP] at hS;refine e8 B5 rfl rfl (cs':=[.v (.int .i64 (m + 1))]) (aI ql) ax (kW k ih h ps depth (m + 1) GM hk cm vy (by omega) (by omega) (by omega)) gm (fun r ji hr=>?_);obtain ⟨rfl,z,hz,qF⟩:=hr;simp only [List.cons.injEq,and_true] at hz;subst hz;exact ⟨_,_,ax,ax,aJ (tk:=[]) (f:=(gM h ps depth (m + 1)).1) hS qF⟩
 have k8:¬ h.ai=8:=of_decide_eq_false k8;refine br (fun k9=>?_) (fun k9=>?_)
 ·have k9:h.ai=9:=of_decide_eq_true k9;refine call_p qV (eD h.name.s (by simp only [Wd.wt] at Cn;omega)) ax rfl ?_;refine br (fun q=>?_) (fun q=>?_)
  ·have q:bf h.name.s=false:=by simpa using q
   rw [if_pos ⟨k9,q⟩] at hS;refine call_p bS (aM 9 h.name.a) ax rfl ?_;exact ⟨_,[[.v (.int .i64 (m + 1))]],ax,(aI ql),aJ (tk:=[]) (f:=(9,h.name.a)) hS (fun _=>rfl)⟩
  ·have q:bf h.name.s=true:=by simpa using q
   rw [if_neg (by simp [q]),if_neg (by omega),if_neg (by omega),if_neg (by omega)] at hS;exact ⟨_,[[.v (.int .i64 (m + 1))]],ax,(aI ql),aJ (tk:=[]) (f:=(0,0)) hS (fun _=>rfl)⟩
 have k9:¬ h.ai=9:=of_decide_eq_false k9;rw [if_neg (by omega),if_neg (by omega),if_neg (by omega),if_neg (by omega)] at hS;exact ⟨_,[[.v (.int .i64 (m + 1))]],ax,(aI ql),aJ (tk:=[]) (f:=(0,0)) hS (fun _=>rfl)⟩
theorem rF:∀ k,yU k
 | 0=>fun t depth m hk=>by have:=t.iS;omega
 | k + 1=>fun t depth m hk cm vy zT lC eO=>by
  obtain ⟨h,ps⟩:=t;have dW:=hk;simp only [Ty.wt,Hd.wt] at dW;exact rE k (rF k) h ps depth m (by omega) cm vy zT lC eO
theorem rG (t:Ty) (cm:t.wt<=1099511627776):bD Tryz.prog 104 [.agg (eV t)] (wrong t 1 0).1.d:=
 vK t (rF t.wt t 1 0 (Nat.le_refl _) cm (by omega) (by omega) (by omega) (by omega))
abbrev uX (t:Ty) (ps:Pts) (e n:Nat):St:=
 ⟨[(1,⟨[],.loc 0 0⟩),(3,⟨[],.v (.int .i64 n)⟩),(7,⟨[],.sl 18 (dg ps) none⟩),(8,⟨[],.v (.int .i64 (dg ps).length)⟩),(9,⟨[],.v (.int .i64 e)⟩)],[eV t],[]⟩
theorem mW:∀ (k:Nat) (t:Ty),t.wt<=k->t.wt<=1099511627776 ->
  bD Tryz.prog 105 [.agg (eV t)] (.v (.int .i64 t.cnt))
 | 0,t,hn,_=>by have:=t.iS;omega
 | k + 1,.mk h ps,hn,cm=>by
  simp only [Ty.wt,Hd.wt] at hn cm;have qB:=ps.gL;have hc:=ps.dr;refine ev_go (P:=Tryz.prog) tt tt_ok 5000 23 [.tmp 2] Tryz.func105 rfl Tryz.ntmps105 rfl (nL rfl) (fun E9 w9 hn9 hm9=>?_)
  refine aF (fun j st=>∃ (e n:Nat),st=uX (.mk h ps) ps e n/\e<=ps.len/\n + (ps.drop e).cnt=1 + ps.cnt/\j=ps.len - e) ps.len
   (uX (.mk h ps) ps 0 1) (aj ⟨_,rfl⟩ wA rfl rfl rfl wB) ⟨0,1,rfl,by omega,rfl,by omega⟩ ?_
  rintro j st ⟨e,n,rfl,he,aT,rfl⟩;refine br (fun hL=>?_) (fun hL=>?_)
  ·have av:e < ps.len:=by simpa [aN] using hL
   obtain ⟨p,t,hx⟩:=Pts.e9 av;have A4:=Pts.fZ (mG hx);rw [Pts.drop_cons hx] at aT;simp only [Pts.cnt] at aT;have Co:=t.dr;obtain ⟨u,us⟩:=t;refine ⟨_,⟨by omega,cF hx⟩,?_⟩;refine br (fun hB=>?_) (fun hB=>?_)
   ·have hB:p.bare=false:=by simpa using hB
    rw [hB] at aT;have aT:n + ((Ty.mk u us).cnt + (ps.drop (e + 1)).cnt)=1 + ps.cnt:=aT;refine call_p BU (mW k (.mk u us) (by omega) (by omega)) ax rfl ?_;have ED:IntKind.i64.wrap ((n:Int) + (Ty.mk u us).cnt)=((n + (Ty.mk u us).cnt:Nat):Int):=by rw [wrap64 (by omega) (by omega)];omega
    exact ⟨uX (.mk h ps) ps (e + 1) (n + (Ty.mk u us).cnt),(aj ⟨_,rfl⟩ wA rfl rfl rfl (by repeat' (first | exact trivial | exact ah rfl | exact ap ED | exact ap (ei av (by omega)) | refine ⟨⟨_,rfl,?_⟩,?_⟩))),ps.len - (e + 1),by omega,e + 1,_,rfl,by omega,by omega,rfl⟩
   ·have hB:p.bare=true:=by simpa using hB
    rw [hB] at aT;have aT:n + (0 + (ps.drop (e + 1)).cnt)=1 + ps.cnt:=aT;exact ⟨uX (.mk h ps) ps (e + 1) n,(aj ⟨_,rfl⟩ wA rfl rfl rfl (pj av)),ps.len - (e + 1),by omega,e + 1,n,rfl,by omega,by omega,rfl⟩
  ·have ch:e=ps.len:=by simp [aN] at hL;omega
   rw [ch,Pts.cR] at aT;simp only [Pts.cnt] at aT;have e2:(n:Int)=((Ty.mk h ps).cnt:Int):=by simp only [Ty.cnt];omega
   refine (congrArg (fun z=>DV.v (.int .i64 z)) ?_:_=_);exact e2
mutual
def Ty.nn:Ty->Nat
 | .mk h ps=>if h.ai=9 then 0 else 1 + ps.nn
def Pts.nn:Pts->Nat
 | .nil=>0
 | .cons p t r=>(if p.bare then 0 else t.nn) + r.nn
end
mutual
theorem Ty.dT:∀ t:Ty,t.nn<=t.cnt
 | .mk h ps=>by
  have:=Pts.dT ps;simp only [Ty.nn,Ty.cnt];split<;>omega
theorem Pts.dT:∀ ps:Pts,ps.nn<=ps.cnt
 | .nil=>Nat.le_refl _
 | .cons p t r=>by
  have:=Ty.dT t;have:=Pts.dT r;simp only [Pts.nn,Pts.cnt];split<;>omega
end
abbrev A5 (t:Ty) (ps:Pts) (e n:Nat):St:=
 ⟨[(1,⟨[],.loc 0 0⟩),(3,⟨[],.v (.int .i64 n)⟩),(10,⟨[],.sl 18 (dg ps) none⟩),(11,⟨[],.v (.int .i64 (dg ps).length)⟩),(12,⟨[],.v (.int .i64 e)⟩)],[eV t],[]⟩
theorem mX:∀ (k:Nat) (t:Ty),t.wt<=k->t.wt<=1099511627776 ->
  bD Tryz.prog 108 [.agg (eV t)] (.v (.int .i64 t.nn))
 | 0,t,hn,_=>by have:=t.iS;omega
 | k + 1,.mk h ps,hn,cm=>by
  simp only [Ty.wt,Hd.wt] at hn cm;have qB:=ps.gL;have hc:=ps.dr;have jg:=ps.dT;refine ev_go (P:=Tryz.prog) tt tt_ok 5000 26 [.tmp 2] Tryz.func108 rfl Tryz.ntmps108 rfl (nL rfl) (fun E9 w9 hn9 hm9=>?_);refine br (fun h9=>?_) (fun h9=>?_)
  ·have h9:h.ai=9:=by simpa using h9
   have:(Ty.mk h ps).nn=0:=by simp [Ty.nn,h9]
   rw [this];exact (rfl:_=_)
  have h9:¬ h.ai=9:=by simpa using h9
  refine aF (fun j st=>∃ (e n:Nat),st=A5 (.mk h ps) ps e n/\e<=ps.len/\n + (ps.drop e).nn=1 + ps.nn/\j=ps.len - e) ps.len
   (A5 (.mk h ps) ps 0 1) (aj ⟨_,rfl⟩ wA rfl rfl rfl wB) ⟨0,1,rfl,by omega,rfl,by omega⟩ ?_
  rintro j st ⟨e,n,rfl,he,aT,rfl⟩;refine br (fun hL=>?_) (fun hL=>?_)
  ·have av:e < ps.len:=by simpa [aN] using hL
   obtain ⟨p,t,hx⟩:=Pts.e9 av;have A4:=Pts.fZ (mG hx);rw [Pts.drop_cons hx] at aT;simp only [Pts.nn] at aT;have Co:=t.dr;have hct2:=t.dT;obtain ⟨u,us⟩:=t;refine ⟨_,⟨by omega,cF hx⟩,?_⟩;refine br (fun hB=>?_) (fun hB=>?_)
   ·have hB:p.bare=false:=by simpa using hB
    rw [hB] at aT;have aT:n + ((Ty.mk u us).nn + (ps.drop (e + 1)).nn)=1 + ps.nn:=aT;refine call_p BV (mX k (.mk u us) (by omega) (by omega)) ax rfl ?_;have ED:IntKind.i64.wrap ((n:Int) + (Ty.mk u us).nn)=((n + (Ty.mk u us).nn:Nat):Int):=by rw [wrap64 (by omega) (by omega)];omega
    exact ⟨A5 (.mk h ps) ps (e + 1) (n + (Ty.mk u us).nn),(aj ⟨_,rfl⟩ wA rfl rfl rfl (by repeat' (first | exact trivial | exact ah rfl | exact ap ED | exact ap (ei av (by omega)) | refine ⟨⟨_,rfl,?_⟩,?_⟩))),ps.len - (e + 1),by omega,e + 1,_,rfl,by omega,by omega,rfl⟩
   ·have hB:p.bare=true:=by simpa using hB
    rw [hB] at aT;have aT:n + (0 + (ps.drop (e + 1)).nn)=1 + ps.nn:=aT;exact ⟨A5 (.mk h ps) ps (e + 1) n,(aj ⟨_,rfl⟩ wA rfl rfl rfl (pj av)),ps.len - (e + 1),by omega,e + 1,n,rfl,by omega,by omega,rfl⟩
  ·have ch:e=ps.len:=by simp [aN] at hL;omega
   rw [ch,Pts.cR] at aT;simp only [Pts.nn] at aT;have e2:(n:Int)=((Ty.mk h ps).nn:Int):=by simp only [Ty.nn,if_neg h9];omega
   refine (congrArg (fun z=>DV.v (.int .i64 z)) ?_:_=_);exact e2
structure Lx where
 af:List ByteArray
 ak:List Nat
 rows:List Nat
 js:List Int
 f:Nat->Nat->Bool
def Lx.pd (X:Lx):DV:=.pt (c7 X.af (bA X.af X.ak) X.rows X.js) 0
def Lx.lev (X:Lx) (l:List Wd):Int:=tC X.f X.af l
def Lx.bad (X:Lx) (l:List Wd):Ft:=labW X.af l
structure Lx.OK (X:Lx):Prop where
 hT:di X.af X.ak
 fj:X.ak.length<=1099511627776
 hL:gV X.f X.af.length
 hn:X.af.length<=32
 hj:∀ x y,x < X.af.length->y < X.af.length->JM X.f X.af.length X.js x y
theorem Lx.jW {X:Lx} (h:X.OK) (l:List Wd) (hs:wdsWt l<=1099511627776):bD Tryz.prog 106 [X.pd,.sl 2 (bL l) none] (.cP [.v (.int .i64 (X.lev l)),(X.bad l).d]):=
 yT X.af X.ak X.rows X.js h.hT h.fj h.hL h.hn h.hj l hs
def bC (s:Sch) (lat out:DV) (m:Int):List DV:=.sl 2 (bL s.ae) none :: .sl 4 (mO s.order) none :: .sl 11 (dNms s.types) none :: (eV s.root ++ [lat,out,.v (.int .i64 m)])
theorem mY {X:Lx} (h:X.OK) (s:Sch) (pc:List DV) (m:Int) (l:List Wd) (hs:wdsWt l<=1099511627776) :
  bD Tryz.prog 174 [.pt (bC s X.pd (.pt pc 0) m) 0,.sl 2 (bL l) none] (.v (.int .i64 (X.lev l))):=by
 obtain ⟨ae,order,types,⟨rh,rp⟩⟩:=s;refine ev_go (P:=Tryz.prog) tt tt_ok 5000 17 [.tmp 4] Tryz.func174 rfl Tryz.ntmps174 rfl (nL rfl) (fun E9 w9 hn9 hm9=>?_);refine call_p qW (Lx.jW h l hs) ax rfl ?_;exact (rfl:_=_)
def qm (s:Sch):List Wd:=s.types.map fun x=>x.1
def tL (s:Sch):List ByteArray:=al (qm s)
theorem A6 (s:Sch):(qm s).length=s.types.length:=by simp [qm]
theorem mZ (s:Sch):(tL s).length=s.types.length:=by simp [tL,al,qm]
def pC (s:Sch) (ak:List Nat) (a b c e:DV):List DV:=[a,b,c,.pt (bA (tL s) ak) 0,e]
def wg (s:Sch) (t:Ty):Bool:=decide (t.h.ai=9->cH (tL s) t.h.name.s≠none)
def endI (s:Sch):Nat->Nat->Option Nat
 | 0,_=>none
 | k + 1,i=>
  match s.types[i]? with
  | none=>none
  | some x=>if x.2.h.ai=9 then endI s k ((cH (tL s) x.2.h.name.s).getD 0) else some i
theorem pN {s:Sch}:∀ {k i j:Nat},endI s k i=some j->j < s.types.length/\∀ x,s.types[j]? = some x->x.2.h.ai≠9
 | 0,i,j,h=>by cases h
 | k + 1,i,j,h=>by
  rw [endI] at h
  cases hx:s.types[i]? with
  | none=>rw [hx] at h;cases h
  | some x=>
   rw [hx] at h;simp only at h;split at h
   ·exact pN h
   ·rename_i hk;simp only [oI] at h;subst h;refine ⟨(gS hx).1,fun y hy=>?_⟩;rw [hx] at hy;simp only [oI] at hy;subst hy;exact hk
abbrev yY (B:DV) (n i e:Nat):St:=
 ⟨[(0,⟨[],B⟩),(1,⟨[],.v (.int .i64 i)⟩),(12,⟨[],.v (.int .i64 n)⟩),(13,⟨[],.v (.int .i64 e)⟩)],[],[]⟩
theorem rH (s:Sch) (lat:DV) (ak:List Nat) (a b c e0:DV) (m:Int) (hT:di (tL s) ak) (fj:ak.length<=1099511627776) (hl:s.types.length<=64) (hr:∀ x∈s.types,wg s x.2=true) (i:Nat) (hi:i < s.types.length) :
  bD Tryz.prog 107 [.pt (bC s lat (.pt (pC s ak a b c e0) 0) m) 0,.v (.int .i64 i)] (.v (.int .i64 (oz (endI s (s.types.length + 1) i)))):=by
 have vI:=mZ s;obtain ⟨ae,order,types,⟨rh,rp⟩⟩:=s;simp only at hl hr hi vI;have hN:=eG types;have J3:IntKind.i64.wrap ((((dNms types).length:Nat):Int) + 1)=((types.length + 1:Nat):Int):=by rw [hN,wrap64 (by omega) (by omega)];all_goals rfl
 refine ev_go (P:=Tryz.prog) tt tt_ok 5000 43 [.tmp 4] Tryz.func107 rfl Tryz.ntmps107 rfl (nL rfl) (fun E9 w9 hn9 hm9=>?_)
 refine aF (fun j st=>∃ e q:Nat,st=yY (.pt (bC ⟨ae,order,types,.mk rh rp⟩ lat (.pt (pC ⟨ae,order,types,.mk rh rp⟩ ak a b c e0) 0) m) 0) (types.length + 1) q e/\e<=types.length + 1/\q < types.length/\endI ⟨ae,order,types,.mk rh rp⟩ (types.length + 1) i=endI ⟨ae,order,types,.mk rh rp⟩ (types.length + 1 - e) q/\j=types.length + 1 - e) (types.length + 1)
  (yY (.pt (bC ⟨ae,order,types,.mk rh rp⟩ lat (.pt (pC ⟨ae,order,types,.mk rh rp⟩ ak a b c e0) 0) m) 0) (types.length + 1) i 0) (aj ⟨_,rfl⟩ wA rfl rfl rfl (by repeat' (first | exact trivial | exact ah rfl | exact ap J3 | refine ⟨⟨_,rfl,?_⟩,?_⟩))) ⟨0,i,rfl,by omega,hi,rfl,by omega⟩ ?_
 rintro j st ⟨e,q,rfl,he,hq,bd,rfl⟩;refine br (fun hL=>?_) (fun hL=>?_)
 ·have av:e < types.length + 1:=by have:=hL;simp at this;omega
  obtain ⟨x,hx⟩:∃ x,types[q]? = some x:=⟨_,gE hq⟩;have hrx:=hr x (mG hx);obtain ⟨xw,⟨xh,xp⟩⟩:=x
  have a7:endI ⟨ae,order,types,.mk rh rp⟩ (types.length + 1 - e) q=if xh.ai=9 then endI ⟨ae,order,types,.mk rh rp⟩ (types.length + 1 - (e + 1)) ((cH (tL ⟨ae,order,types,.mk rh rp⟩) xh.name.s).getD 0) else some q:=by
   rw [show types.length + 1 - e=(types.length + 1 - (e + 1)) + 1 by omega,endI];simp only [hx];rfl
  rw [a7] at bd;refine ⟨_,⟨by omega,dNms_get hx⟩,?_⟩;refine br (fun h9=>?_) (fun h9=>?_)
  ·have h9:¬ xh.ai=9:=by simpa using h9
   rw [if_neg h9] at bd;rw [bd];exact (rfl:_=_)
  have h9:xh.ai=9:=by simpa using h9
  rw [if_pos h9] at bd
  have aT:cH (tL ⟨ae,order,types,.mk rh rp⟩) xh.name.s≠none:=by
   have:=of_decide_eq_true hrx;exact this h9
  obtain ⟨k,hk⟩:=Option.ne_none_iff_exists'.1 aT;have sK:=(dw hk).1;rw [hk] at bd;have hf:=dx (tL ⟨ae,order,types,.mk rh rp⟩) ak xh.name.s hT fj;rw [hk] at hf;refine cw (fun _=>false) mo (by decide +kernel) ?_;refine fY mi (hf) ax rfl ?_;exact ⟨yY (.pt (bC ⟨ae,order,types,.mk rh rp⟩ lat (.pt (pC ⟨ae,order,types,.mk rh rp⟩ ak a b c e0) 0) m) 0) (types.length + 1) k (e + 1),(aj ⟨_,rfl⟩ wA rfl rfl rfl (pj av)),types.length + 1 - (e + 1),by omega,e + 1,k,rfl,by omega,by omega,bd,rfl⟩
 ·have ch:e=types.length + 1:=by have:=hL;simp at this;omega
  subst ch;rw [Nat.sub_self] at bd;rw [bd];exact (rfl:_=_)
def loopF (s:Sch):Ft:=
 match bm (fun i=>(endI s (s.types.length + 1) i).isNone) s.types.length with
 | none=>(0,0)
 | some i=>(11,Ey (qm s) i)
abbrev pO (B:DV) (s:Sch) (e:Nat):St:=
 ⟨[(0,⟨[],B⟩),(2,⟨[],.loc 0 0⟩),(9,⟨[],.sl 11 (dNms s.types) none⟩),(10,⟨[],.v (.int .i64 (dNms s.types).length)⟩),(11,⟨[],.v (.int .i64 e)⟩)],[[.v (.int .i64 0),.v (.int .i64 0)]],[]⟩
theorem tF (s:Sch) (lat:DV) (ak:List Nat) (a b c e0:DV) (m:Int) (hT:di (tL s) ak) (fj:ak.length<=1099511627776) (hl:s.types.length<=64) (hr:∀ x∈s.types,wg s x.2=true) :
  bD Tryz.prog 48 [.pt (bC s lat (.pt (pC s ak a b c e0) 0) m) 0] (loopF s).d:=by
 have yZ:=rH s lat ak a b c e0 m hT fj hl hr;have hN:=eG s.types;have hF:=loopF.eq_1 s;obtain ⟨ae,order,types,⟨rh,rp⟩⟩:=s;simp only at hl hr yZ hN;refine ev_go (P:=Tryz.prog) tt tt_ok 5000 26 [.cell 2 54] Tryz.func48 rfl Tryz.ntmps48 rfl (nL rfl) (fun E9 w9 hn9 hm9=>?_)
 refine aF (fun j st=>∃ e:Nat,st=pO (.pt (bC ⟨ae,order,types,.mk rh rp⟩ lat (.pt (pC ⟨ae,order,types,.mk rh rp⟩ ak a b c e0) 0) m) 0) ⟨ae,order,types,.mk rh rp⟩ e/\e<=types.length/\(∀ i,i < e->(endI ⟨ae,order,types,.mk rh rp⟩ (types.length + 1) i).isNone=false)/\j=types.length - e) types.length
  (pO (.pt (bC ⟨ae,order,types,.mk rh rp⟩ lat (.pt (pC ⟨ae,order,types,.mk rh rp⟩ ak a b c e0) 0) m) 0) ⟨ae,order,types,.mk rh rp⟩ 0) (aj ⟨_,rfl⟩ wA rfl rfl rfl wB) ⟨0,rfl,by omega,fun _ h=>by omega,by omega⟩ ?_
 rintro j st ⟨e,rfl,he,n4,rfl⟩;refine br (fun hL=>?_) (fun hL=>?_)
 ·have av:e < types.length:=by have:=hL;simp [hN] at this;exact this
  obtain ⟨x,hx⟩:∃ x,types[e]? = some x:=⟨_,gE av⟩;have J4:(qm ⟨ae,order,types,.mk rh rp⟩)[e]? = some x.1:=by simp [qm,hx]
  have h1:=yZ e av;obtain ⟨xw,⟨xh,xp⟩⟩:=x;refine ⟨_,⟨by omega,dNms_get hx⟩,?_⟩;refine call_p en107 (h1) ax rfl ?_
  cases hE:endI ⟨ae,order,types,.mk rh rp⟩ (types.length + 1) e with
  | none=>
   have sn:=dH (p:=fun i=>(endI ⟨ae,order,types,.mk rh rp⟩ (types.length + 1) i).isNone) av (by simp only [hE];rfl) n4;simp only [sn] at hF;rw [lJ J4] at hF;refine ⟨_,?_,rfl⟩;rw [hF];exact ax
  | some k=>
   refine ⟨pO (.pt (bC ⟨ae,order,types,.mk rh rp⟩ lat (.pt (pC ⟨ae,order,types,.mk rh rp⟩ ak a b c e0) 0) m) 0) ⟨ae,order,types,.mk rh rp⟩ (e + 1),(aj ⟨_,rfl⟩ wA rfl rfl rfl (pj av)),types.length - (e + 1),by omega,e + 1,rfl,by omega,fun i hi=>?_,rfl⟩;rcases Nat.lt_succ_iff_lt_or_eq.1 hi with hi | rfl
   ·exact n4 i hi
   ·rw [hE];all_goals rfl
 ·have ch:e=types.length:=by have:=hL;simp [hN] at this;omega
  subst ch;simp only [eX n4] at hF;refine ⟨_,?_,rfl⟩;rw [hF];exact ax
mutual
def knT (X:Lx) (L:List ByteArray):Ty->Ft
 | .mk h ps=>if h.ai=9/\cH L h.name.s=none then (15,h.name.a) else knP X L ps
def knP (X:Lx) (L:List ByteArray):Pts->Ft
 | .nil=>(0,0)
 | .cons p t r=>if (X.bad p.label).1≠0 then X.bad p.label else if (X.bad p.cl).1≠0 then X.bad p.cl else if p.bare then knP X L r else if (knT X L t).1≠0 then knT X L t else knP X L r
end
abbrev rI (B:DV) (t:Ty) (ps:Pts) (e:Nat):St:=
 ⟨[(0,⟨[],B⟩),(3,⟨[],.loc 0 0⟩),(4,⟨[],.loc 1 0⟩),(38,⟨[],.sl 18 (dg ps) none⟩),(39,⟨[],.v (.int .i64 (dg ps).length)⟩),(40,⟨[],.v (.int .i64 e)⟩)],[eV t,[.v (.int .i64 0),.v (.int .i64 0)]],[]⟩
abbrev kX (B:DV) (t:Ty) (ps:Pts) (p:Ph) (u:Ty) (e q:Nat):St:=
 ⟨[(0,⟨[],B⟩),(3,⟨[],.loc 0 0⟩),(4,⟨[],.loc 1 0⟩),(38,⟨[],.sl 18 (dg ps) none⟩),(39,⟨[],.v (.int .i64 (dg ps).length)⟩),(40,⟨[],.v (.int .i64 e)⟩),(8,⟨[],.loc 2 0⟩),(49,⟨[],.sl 1 [[.sl 2 (bL p.label) none],[.sl 2 (bL p.cl) none]] none⟩),(50,⟨[],.v (.int .i64 (2:Nat))⟩),(51,⟨[],.v (.int .i64 q)⟩)],[eV t,[.v (.int .i64 0),.v (.int .i64 0)],x5 p (eV u)],[]⟩
theorem na {X:Lx} (hX:X.OK) (s:Sch) (ak:List Nat) (a b c e0:DV) (m:Int) (hT:di (tL s) ak) (fj:ak.length<=1099511627776):∀ (k:Nat) (t:Ty),t.wt<=k->t.wt<=1099511627776 ->
  bD Tryz.prog 47 [.pt (bC s X.pd (.pt (pC s ak a b c e0) 0) m) 0,.agg (eV t)] (knT X (tL s) t).d
 | 0,t,hn,_=>by have:=t.iS;omega
 | k + 1,.mk h ps,hn,cm=>by
  have ih:=na hX s ak a b c e0 m hT fj k;simp only [Ty.wt,Hd.wt] at hn cm;have qB:=ps.gL;obtain ⟨ae,order,types,⟨rh,rp⟩⟩:=s;have hf:=dx (tL ⟨ae,order,types,.mk rh rp⟩) ak h.name.s hT fj;have hS:knT X (tL ⟨ae,order,types,.mk rh rp⟩) (.mk h ps)=if h.ai=9/\cH (tL ⟨ae,order,types,.mk rh rp⟩) h.name.s=none then (15,h.name.a) else knP X (tL ⟨ae,order,types,.mk rh rp⟩) ps:=by rw [knT]
  refine ev_go (P:=Tryz.prog) tt tt_ok 5000 81 [.cell 4 54] Tryz.func47 rfl Tryz.ntmps47 rfl (nL rfl) (fun E9 w9 hn9 hm9=>?_);generalize knT X (tL ⟨ae,order,types,.mk rh rp⟩) (.mk h ps)=F at hS ⊢;have Lz:knP X (tL ⟨ae,order,types,.mk rh rp⟩) ps=knP X (tL ⟨ae,order,types,.mk rh rp⟩) (ps.drop 0):=by rw [Pts.drop]
  refine br (fun h9=>?_) (fun h9=>?_)
  ·have h9:h.ai=9:=by simpa using h9
   refine cw (fun _=>false) mo (by decide +kernel) ?_
   cases hx:cH (tL ⟨ae,order,types,.mk rh rp⟩) h.name.s with
   | none=>
    rw [if_pos ⟨h9,hx⟩] at hS;rw [hx] at hf;refine fY mi (hf) ax rfl ?_;refine ⟨_,?_,rfl⟩;rw [hS];exact ax
   | some i=>
    rw [if_neg (by rw [hx];simp),Lz] at hS;rw [hx] at hf;refine fY mi (hf) ax rfl ?_;refine aF (fun j st=>∃ e:Nat,st=rI (.pt (bC ⟨ae,order,types,.mk rh rp⟩ X.pd (.pt (pC ⟨ae,order,types,.mk rh rp⟩ ak a b c e0) 0) m) 0) (.mk h ps) ps e/\e<=ps.len/\F=knP X (tL ⟨ae,order,types,.mk rh rp⟩) (ps.drop e)/\j=ps.len - e) ps.len (rI (.pt (bC ⟨ae,order,types,.mk rh rp⟩ X.pd (.pt (pC ⟨ae,order,types,.mk rh rp⟩ ak a b c e0) 0) m) 0) (.mk h ps) ps 0) (aj ⟨_,rfl⟩ wA rfl rfl rfl wB) ⟨0,rfl,by omega,hS,by omega⟩ ?_;rintro j st ⟨e,rfl,he,bd,rfl⟩;refine br (fun hL=>?_) (fun hL=>?_)
    ·have av:e < ps.len:=by simpa [aN] using hL
     obtain ⟨p,t,hx⟩:=Pts.e9 av;have A4:=Pts.fZ (mG hx);rw [Pts.drop_cons hx] at bd;simp only [knP] at bd;have yl:wdsWt p.label + wdsWt p.cl<=p.wt:=by simp only [Ph.wt];omega
     obtain ⟨u,us⟩:=t;refine ⟨_,⟨by omega,cF hx⟩,?_⟩;refine aF (fun j st=>∃ q:Nat,st=kX (.pt (bC ⟨ae,order,types,.mk rh rp⟩ X.pd (.pt (pC ⟨ae,order,types,.mk rh rp⟩ ak a b c e0) 0) m) 0) (.mk h ps) ps p (.mk u us) e q/\q<=2/\(1<=q->(X.bad p.label).1=0)/\(2<=q->(X.bad p.cl).1=0)/\j=2 - q) 2 (kX (.pt (bC ⟨ae,order,types,.mk rh rp⟩ X.pd (.pt (pC ⟨ae,order,types,.mk rh rp⟩ ak a b c e0) 0) m) 0) (.mk h ps) ps p (.mk u us) e 0) (aj ⟨_,rfl⟩ wA rfl rfl rfl wB) ⟨0,rfl,by omega,fun h=>by omega,fun h=>by omega,by omega⟩ ?_;rintro j st ⟨q,rfl,hq,GN,fQ,rfl⟩;refine br (fun yO=>?_) (fun yO=>?_)
     ·have vc:q=0∨q=1:=by have:=yO;simp at this;omega
      rcases vc with rfl | rfl
      ·refine ⟨_,⟨by omega,rfl⟩,?_⟩;refine call_p qW (Lx.jW hX p.label (by omega)) ax rfl ?_;refine br (fun hb=>?_) (fun hb=>?_)
       ·have hb:(X.bad p.label).1≠0:=by simpa using hb
        rw [if_pos hb] at bd;refine ⟨_,?_,rfl⟩;rw [bd];exact ax
       ·have hb:(X.bad p.label).1=0:=by simpa using hb
        exact ⟨kX (.pt (bC ⟨ae,order,types,.mk rh rp⟩ X.pd (.pt (pC ⟨ae,order,types,.mk rh rp⟩ ak a b c e0) 0) m) 0) (.mk h ps) ps p (.mk u us) e 1,(aj ⟨_,rfl⟩ wA rfl rfl rfl (by repeat' (first | exact trivial | exact ah rfl | exact ap (ei (e:=0) (n:=2) (by omega) (by omega)) | refine ⟨⟨_,rfl,?_⟩,?_⟩))),1,by omega,1,rfl,by omega,fun _=>hb,fun h=>by omega,rfl⟩
      ·have ed:=GN (by omega);refine ⟨_,⟨by omega,rfl⟩,?_⟩;refine call_p qW (Lx.jW hX p.cl (by omega)) ax rfl ?_;refine br (fun hb=>?_) (fun hb=>?_)
       ·have hb:(X.bad p.cl).1≠0:=by simpa using hb
        rw [if_neg (by rw [ed];simp),if_pos hb] at bd;refine ⟨_,?_,rfl⟩;rw [bd];exact ax
       ·have hb:(X.bad p.cl).1=0:=by simpa using hb
        exact ⟨kX (.pt (bC ⟨ae,order,types,.mk rh rp⟩ X.pd (.pt (pC ⟨ae,order,types,.mk rh rp⟩ ak a b c e0) 0) m) 0) (.mk h ps) ps p (.mk u us) e 2,(aj ⟨_,rfl⟩ wA rfl rfl rfl (by repeat' (first | exact trivial | exact ah rfl | exact ap (ei (e:=1) (n:=2) (by omega) (by omega)) | refine ⟨⟨_,rfl,?_⟩,?_⟩))),0,by omega,2,rfl,by omega,fun _=>ed,fun _=>hb,rfl⟩
     ·have vc:q=2:=by have:=yO;simp at this;omega
      subst vc;have ed:=GN (by omega);have jz:=fQ (by omega);rw [if_neg (by rw [ed];simp),if_neg (by rw [jz];simp)] at bd;refine br (fun hB=>?_) (fun hB=>?_)
      ·have hB:p.bare=true:=hB;rw [if_pos hB] at bd;exact ⟨rI (.pt (bC ⟨ae,order,types,.mk rh rp⟩ X.pd (.pt (pC ⟨ae,order,types,.mk rh rp⟩ ak a b c e0) 0) m) 0) (.mk h ps) ps (e + 1),(aj ⟨_,rfl⟩ wA rfl rfl rfl (pj av)),ps.len - (e + 1),by omega,e + 1,rfl,by omega,bd,rfl⟩
      ·have hB:p.bare=false:=hB;rw [if_neg (by rw [hB];decide)] at bd;refine call_p Dj (ih (.mk u us) (by omega) (by omega)) ax rfl ?_;refine br (fun hb=>?_) (fun hb=>?_)
       ·have hb:(knT X (tL ⟨ae,order,types,.mk rh rp⟩) (.mk u us)).1≠0:=by simpa using hb
        rw [if_pos hb] at bd;refine ⟨_,?_,rfl⟩;rw [bd];exact ax
       ·have hb:(knT X (tL ⟨ae,order,types,.mk rh rp⟩) (.mk u us)).1=0:=by simpa using hb
        rw [if_neg (by rw [hb];simp)] at bd;exact ⟨rI (.pt (bC ⟨ae,order,types,.mk rh rp⟩ X.pd (.pt (pC ⟨ae,order,types,.mk rh rp⟩ ak a b c e0) 0) m) 0) (.mk h ps) ps (e + 1),(aj ⟨_,rfl⟩ wA rfl rfl rfl (pj av)),ps.len - (e + 1),by omega,e + 1,rfl,by omega,bd,rfl⟩
    ·have ch:e=ps.len:=by simp [aN] at hL;omega
     rw [ch,Pts.cR] at bd;simp only [knP] at bd;refine ⟨_,?_,rfl⟩;rw [bd];exact ax
  ·have h9:¬ h.ai=9:=by simpa using h9
   rw [if_neg (fun hc=>h9 hc.1),Lz] at hS;refine aF (fun j st=>∃ e:Nat,st=rI (.pt (bC ⟨ae,order,types,.mk rh rp⟩ X.pd (.pt (pC ⟨ae,order,types,.mk rh rp⟩ ak a b c e0) 0) m) 0) (.mk h ps) ps e/\e<=ps.len/\F=knP X (tL ⟨ae,order,types,.mk rh rp⟩) (ps.drop e)/\j=ps.len - e) ps.len (rI (.pt (bC ⟨ae,order,types,.mk rh rp⟩ X.pd (.pt (pC ⟨ae,order,types,.mk rh rp⟩ ak a b c e0) 0) m) 0) (.mk h ps) ps 0) (aj ⟨_,rfl⟩ wA rfl rfl rfl wB) ⟨0,rfl,by omega,hS,by omega⟩ ?_;rintro j st ⟨e,rfl,he,bd,rfl⟩;refine br (fun hL=>?_) (fun hL=>?_)
   ·have av:e < ps.len:=by simpa [aN] using hL
    obtain ⟨p,t,hx⟩:=Pts.e9 av;have A4:=Pts.fZ (mG hx);rw [Pts.drop_cons hx] at bd;simp only [knP] at bd;have yl:wdsWt p.label + wdsWt p.cl<=p.wt:=by simp only [Ph.wt];omega
    obtain ⟨u,us⟩:=t;refine ⟨_,⟨by omega,cF hx⟩,?_⟩;refine aF (fun j st=>∃ q:Nat,st=kX (.pt (bC ⟨ae,order,types,.mk rh rp⟩ X.pd (.pt (pC ⟨ae,order,types,.mk rh rp⟩ ak a b c e0) 0) m) 0) (.mk h ps) ps p (.mk u us) e q/\q<=2/\(1<=q->(X.bad p.label).1=0)/\(2<=q->(X.bad p.cl).1=0)/\j=2 - q) 2 (kX (.pt (bC ⟨ae,order,types,.mk rh rp⟩ X.pd (.pt (pC ⟨ae,order,types,.mk rh rp⟩ ak a b c e0) 0) m) 0) (.mk h ps) ps p (.mk u us) e 0) (aj ⟨_,rfl⟩ wA rfl rfl rfl wB) ⟨0,rfl,by omega,fun h=>by omega,fun h=>by omega,by omega⟩ ?_;rintro j st ⟨q,rfl,hq,GN,fQ,rfl⟩;refine br (fun yO=>?_) (fun yO=>?_)
    ·have vc:q=0∨q=1:=by have:=yO;simp at this;omega
     rcases vc with rfl | rfl
     ·refine ⟨_,⟨by omega,rfl⟩,?_⟩;refine call_p qW (Lx.jW hX p.label (by omega)) ax rfl ?_;refine br (fun hb=>?_) (fun hb=>?_)
      ·have hb:(X.bad p.label).1≠0:=by simpa using hb
       rw [if_pos hb] at bd;refine ⟨_,?_,rfl⟩;rw [bd];exact ax
      ·have hb:(X.bad p.label).1=0:=by simpa using hb
       exact ⟨kX (.pt (bC ⟨ae,order,types,.mk rh rp⟩ X.pd (.pt (pC ⟨ae,order,types,.mk rh rp⟩ ak a b c e0) 0) m) 0) (.mk h ps) ps p (.mk u us) e 1,(aj ⟨_,rfl⟩ wA rfl rfl rfl (by repeat' (first | exact trivial | exact ah rfl | exact ap (ei (e:=0) (n:=2) (by omega) (by omega)) | refine ⟨⟨_,rfl,?_⟩,?_⟩))),1,by omega,1,rfl,by omega,fun _=>hb,fun h=>by omega,rfl⟩
     ·have ed:=GN (by omega);refine ⟨_,⟨by omega,rfl⟩,?_⟩;refine call_p qW (Lx.jW hX p.cl (by omega)) ax rfl ?_;refine br (fun hb=>?_) (fun hb=>?_)
      ·have hb:(X.bad p.cl).1≠0:=by simpa using hb
       rw [if_neg (by rw [ed];simp),if_pos hb] at bd;refine ⟨_,?_,rfl⟩;rw [bd];exact ax
      ·have hb:(X.bad p.cl).1=0:=by simpa using hb
       exact ⟨kX (.pt (bC ⟨ae,order,types,.mk rh rp⟩ X.pd (.pt (pC ⟨ae,order,types,.mk rh rp⟩ ak a b c e0) 0) m) 0) (.mk h ps) ps p (.mk u us) e 2,(aj ⟨_,rfl⟩ wA rfl rfl rfl (by repeat' (first | exact trivial | exact ah rfl | exact ap (ei (e:=1) (n:=2) (by omega) (by omega)) | refine ⟨⟨_,rfl,?_⟩,?_⟩))),0,by omega,2,rfl,by omega,fun _=>ed,fun _=>hb,rfl⟩
    ·have vc:q=2:=by have:=yO;simp at this;omega
     subst vc;have ed:=GN (by omega);have jz:=fQ (by omega);rw [if_neg (by rw [ed];simp),if_neg (by rw [jz];simp)] at bd;refine br (fun hB=>?_) (fun hB=>?_)
     ·have hB:p.bare=true:=hB;rw [if_pos hB] at bd;exact ⟨rI (.pt (bC ⟨ae,order,types,.mk rh rp⟩ X.pd (.pt (pC ⟨ae,order,types,.mk rh rp⟩ ak a b c e0) 0) m) 0) (.mk h ps) ps (e + 1),(aj ⟨_,rfl⟩ wA rfl rfl rfl (pj av)),ps.len - (e + 1),by omega,e + 1,rfl,by omega,bd,rfl⟩
     ·have hB:p.bare=false:=hB;rw [if_neg (by rw [hB];decide)] at bd;refine call_p Dj (ih (.mk u us) (by omega) (by omega)) ax rfl ?_;refine br (fun hb=>?_) (fun hb=>?_)
      ·have hb:(knT X (tL ⟨ae,order,types,.mk rh rp⟩) (.mk u us)).1≠0:=by simpa using hb
       rw [if_pos hb] at bd;refine ⟨_,?_,rfl⟩;rw [bd];exact ax
      ·have hb:(knT X (tL ⟨ae,order,types,.mk rh rp⟩) (.mk u us)).1=0:=by simpa using hb
       rw [if_neg (by rw [hb];simp)] at bd;exact ⟨rI (.pt (bC ⟨ae,order,types,.mk rh rp⟩ X.pd (.pt (pC ⟨ae,order,types,.mk rh rp⟩ ak a b c e0) 0) m) 0) (.mk h ps) ps (e + 1),(aj ⟨_,rfl⟩ wA rfl rfl rfl (pj av)),ps.len - (e + 1),by omega,e + 1,rfl,by omega,bd,rfl⟩
   ·have ch:e=ps.len:=by simp [aN] at hL;omega
    rw [ch,Pts.cR] at bd;simp only [knP] at bd;refine ⟨_,?_,rfl⟩;rw [bd];exact ax
def eaL (F:Ty->Ft) (z:Ft):List (Wd × Ty)->Ft
 | []=>z
 | x :: r=>if (F x.2).1≠0 then F x.2 else eaL F z r
theorem y4 {F:Ty->Ft} {z:Ft} {l:List (Wd × Ty)} {e:Nat} {x:Wd × Ty} (h:l[e]? = some x):eaL F z (l.drop e)=if (F x.2).1≠0 then F x.2 else eaL F z (l.drop (e + 1)):=by
 rw [drop_cons h,eaL]
abbrev tG (B:DV) (fn:DV) (types:List (Wd × Ty)) (e:Nat):St:=
 ⟨[(0,⟨[],B⟩),(1,⟨[],fn⟩),(4,⟨[],.loc 0 0⟩),(12,⟨[],.sl 11 (dNms types) none⟩),(13,⟨[],.v (.int .i64 (dNms types).length)⟩),(14,⟨[],.v (.int .i64 e)⟩)],[[.v (.int .i64 0),.v (.int .i64 0)]],[]⟩
theorem wh (s:Sch) (lat:DV) (pc:List DV) (m:Int) (hl:s.types.length<=1099511627776) (g:Nat) (hg:Enters Tryz.prog g) (F:Ty->Ft)
  (hF:∀ t,(t=s.root∨∃ x∈s.types,t=x.2)->bD Tryz.prog g [.pt (bC s lat (.pt pc 0) m) 0,.agg (eV t)] (F t).d) :
  bD Tryz.prog 45 [.pt (bC s lat (.pt pc 0) m) 0,.fn g [.pt (bC s lat (.pt pc 0) m) 0] []] (eaL F (F s.root) s.types).d:=by
 have hN:=eG s.types;obtain ⟨ae,order,types,⟨rh,rp⟩⟩:=s;simp only at hl hF hN;have GO:=hF (.mk rh rp) (.inl rfl);have DS:∀ x∈types,_:=fun x hx=>hF x.2 (.inr ⟨x,hx,rfl⟩);clear hF;refine ev_go (P:=Tryz.prog) tt tt_ok 5000 34 [.cell 4 54] Tryz.func45 rfl Tryz.ntmps45 rfl (nL rfl) (fun E9 w9 hn9 hm9=>?_);generalize hG:eaL F (F (.mk rh rp)) types=G;have J5:G=eaL F (F (.mk rh rp)) (types.drop 0):=by rw [List.drop_zero,hG]
 refine aF (fun j st=>∃ e:Nat,st=tG (.pt (bC ⟨ae,order,types,.mk rh rp⟩ lat (.pt pc 0) m) 0) (.fn g [.pt (bC ⟨ae,order,types,.mk rh rp⟩ lat (.pt pc 0) m) 0] []) types e/\e<=types.length/\G=eaL F (F (.mk rh rp)) (types.drop e)/\j=types.length - e) types.length
  (tG (.pt (bC ⟨ae,order,types,.mk rh rp⟩ lat (.pt pc 0) m) 0) (.fn g [.pt (bC ⟨ae,order,types,.mk rh rp⟩ lat (.pt pc 0) m) 0] []) types 0) (aj ⟨_,rfl⟩ wA rfl rfl rfl wB) ⟨0,rfl,by omega,J5,by omega⟩ ?_
 rintro j st ⟨e,rfl,he,bd,rfl⟩;refine br (fun hL=>?_) (fun hL=>?_)
 ·have av:e < types.length:=by have:=hL;simp [hN] at this;exact this
  obtain ⟨x,hx⟩:∃ x,types[e]? = some x:=⟨_,gE av⟩;have hp:=DS x (mG hx);rw [y4 hx] at bd;obtain ⟨xw,⟨xh,xp⟩⟩:=x;refine ⟨_,⟨by omega,dNms_get hx⟩,?_⟩;refine call_p hg hp ax rfl ?_;refine br (fun hf=>?_) (fun hf=>?_)
  ·have hf:(F (.mk xh xp)).1≠0:=by simpa using hf
   rw [if_pos hf] at bd;refine ⟨_,?_,rfl⟩;rw [bd];exact ax
  ·have hf:(F (.mk xh xp)).1=0:=by simpa using hf
   rw [if_neg (by rw [hf];simp)] at bd;exact ⟨tG (.pt (bC ⟨ae,order,types,.mk rh rp⟩ lat (.pt pc 0) m) 0) (.fn g [.pt (bC ⟨ae,order,types,.mk rh rp⟩ lat (.pt pc 0) m) 0] []) types (e + 1),(aj ⟨_,rfl⟩ wA rfl rfl rfl (pj av)),types.length - (e + 1),by omega,e + 1,rfl,by omega,bd,rfl⟩
 ·have ch:e=types.length:=by have:=hL;simp [hN] at this;omega
  subst ch;rw [List.drop_length,eaL] at bd;refine call_p hg GO ax rfl ?_;refine ⟨_,?_,rfl⟩;rw [bd];exact ax
def aZ (t:Ty) (m:Int):Ft × Int:=if (wrong t 1 0).1.1≠0 then ((wrong t 1 0).1,m) else if 512 < m + t.cnt then ((8,t.h.dD),m + t.cnt) else ((0,0),m + t.cnt)
def y5 (s:Sch) (lat:DV) (pc:List DV) (x:Ft × Int) (r:DV) (os:List (List DV)) (_:List TkE):Prop:=r=x.1.d/\os=[bC s lat (.loc 1 0) x.2,pc]
theorem rJ (s:Sch) (lc pc:List DV) (m:Int) (lC:0<=m) (eO:m<=1099511627776) (t:Ty) (cm:t.wt<=1099511627776) (GP:∀ bx N n0 m0,CcL bx N n0 m0 pc pc) :
  Ev Tryz.prog 46 [.loc 0 0,.agg (eV t)] [bC s (.pt lc 0) (.loc 1 0) m,pc] [] (y5 s (.pt lc 0) pc (aZ t m)):=by
 have hk:=rG t cm;have hc:=mW t.wt t (Nat.le_refl _) cm;have sL:=t.dr;have hF:=aZ.eq_1 t m;obtain ⟨ae,order,types,⟨rh,rp⟩⟩:=s;obtain ⟨h,ps⟩:=t;generalize aZ (.mk h ps) m=R at hF ⊢;refine ev_go (P:=Tryz.prog) tt tt_ok 5000 30 [.cell 4 54] Tryz.func46 rfl Tryz.ntmps46 rfl (nL rfl) (fun E9 w9 hn9 hm9=>?_);refine call_p FO (hk) ax rfl ?_;refine br (fun hf=>?_) (fun hf=>?_)
 ·have hf:(wrong (.mk h ps) 1 0).1.1≠0:=by simpa using hf
  rw [if_pos hf] at hF;subst hF;exact ⟨Ft.d _,[bC ⟨ae,order,types,.mk rh rp⟩ (.pt lc 0) (.loc 1 0) m,pc],ax,(by repeat' (first | exact rfl | exact trivial | exact Or.inr (Or.inl ⟨_,rfl⟩) | exact Or.inr ⟨_,rfl⟩ | exact Or.inl ⟨rfl,rfl⟩ | exact Or.inl rfl | refine Or.inr ⟨_,_,rfl,Nat.zero_le _,rfl,?_⟩ | refine ⟨_,_,rfl,?_,?_⟩ | refine ⟨_,rfl,?_⟩ | exact GP _ _ _ _ | exact ⟨nL rfl,rfl⟩ | exact congrArg (fun z=>DV.v (.int .i64 z)) hw | refine Or.inr (Or.inr (Or.inr ⟨_,_,rfl,?_⟩)) | exact Or.inl rfl | refine Or.inr ?_)),rfl,rfl⟩
 have hf:(wrong (.mk h ps) 1 0).1.1=0:=by simpa using hf
 rw [if_neg (by rw [hf];simp)] at hF;have hw:IntKind.i64.wrap (m + ((Ty.mk h ps).cnt:Int))=m + ((Ty.mk h ps).cnt:Int):=wrap64 (by omega) (by omega);refine aV mo (by decide +kernel) ?_;refine fY BU (hc) ax rfl ?_;refine br (fun hg=>?_) (fun hg=>?_)
 ·have hg:512 < m + ((Ty.mk h ps).cnt:Int):=by simpa [hw] using hg
  rw [if_pos hg] at hF;subst hF;exact ⟨Ft.d _,[bC ⟨ae,order,types,.mk rh rp⟩ (.pt lc 0) (.loc 1 0) (m + (Ty.mk h ps).cnt),pc],ax,(by repeat' (first | exact rfl | exact trivial | exact Or.inr (Or.inl ⟨_,rfl⟩) | exact Or.inr ⟨_,rfl⟩ | exact Or.inl ⟨rfl,rfl⟩ | exact Or.inl rfl | refine Or.inr ⟨_,_,rfl,Nat.zero_le _,rfl,?_⟩ | refine ⟨_,_,rfl,?_,?_⟩ | refine ⟨_,rfl,?_⟩ | exact GP _ _ _ _ | exact ⟨nL rfl,rfl⟩ | exact congrArg (fun z=>DV.v (.int .i64 z)) hw | refine Or.inr (Or.inr (Or.inr ⟨_,_,rfl,?_⟩)) | exact Or.inl rfl | refine Or.inr ?_)),rfl,rfl⟩
 ·have hg:¬ 512 < m + ((Ty.mk h ps).cnt:Int):=by simpa [hw] using hg
  rw [if_neg hg] at hF;subst hF;exact ⟨Ft.d _,[bC ⟨ae,order,types,.mk rh rp⟩ (.pt lc 0) (.loc 1 0) (m + (Ty.mk h ps).cnt),pc],ax,(by repeat' (first | exact rfl | exact trivial | exact Or.inr (Or.inl ⟨_,rfl⟩) | exact Or.inr ⟨_,rfl⟩ | exact Or.inl ⟨rfl,rfl⟩ | exact Or.inl rfl | refine Or.inr ⟨_,_,rfl,Nat.zero_le _,rfl,?_⟩ | refine ⟨_,_,rfl,?_,?_⟩ | refine ⟨_,rfl,?_⟩ | exact GP _ _ _ _ | exact ⟨nL rfl,rfl⟩ | exact congrArg (fun z=>DV.v (.int .i64 z)) hw | refine Or.inr (Or.inr (Or.inr ⟨_,_,rfl,?_⟩)) | exact Or.inl rfl | refine Or.inr ?_)),rfl,rfl⟩
def eaR (z:Ty):List (Wd × Ty)->Int->Ft × Int
 | [],m=>aZ z m
 | x :: r,m=>if (aZ x.2 m).1.1≠0 then aZ x.2 m else eaR z r (aZ x.2 m).2
theorem y6 {z:Ty} {l:List (Wd × Ty)} {e:Nat} {m:Int} {x:Wd × Ty} (h:l[e]? = some x):eaR z (l.drop e) m=if (aZ x.2 m).1.1≠0 then aZ x.2 m else eaR z (l.drop (e + 1)) (aZ x.2 m).2:=by
 rw [drop_cons h,eaR]
theorem iv {t:Ty} {m:Int} (h:(aZ t m).1.1=0):(aZ t m).2=m + t.cnt/\(aZ t m).2<=512/\(wrong t 1 0).1.1=0/\(aZ t m).1=(0,0):=by
 unfold aZ at h ⊢;split
 ·rename_i h1;rw [if_pos h1] at h;exact (h1 h).elim
 ·rename_i h1;rw [if_neg h1] at h;split
  ·rename_i h2;rw [if_pos h2] at h;cases h
  ·rename_i h2;refine ⟨rfl,by simpa using h2,by simpa using h1,rfl⟩
abbrev tH (s:Sch) (ak:List Nat) (lc:List DV):List DV:=pC s ak (.pt lc 0) (.v (.slice none 0 0)) (.v (.int .i64 0)) (.v (.slice none 0 0))
abbrev pP (s:Sch) (lc pc:List DV) (m:Int) (types:List (Wd × Ty)) (e:Nat):St:=
 ⟨[(0,⟨[],.loc 0 0⟩),(1,⟨[],.fn 46 [.loc 0 0] []⟩),(4,⟨[],.loc 2 0⟩),(12,⟨[],.sl 11 (dNms types) none⟩),(13,⟨[],.v (.int .i64 (dNms types).length)⟩),(14,⟨[],.v (.int .i64 e)⟩)],
  [bC s (.pt lc 0) (.loc 1 0) m,pc,[.v (.int .i64 0),.v (.int .i64 0)]],[]⟩
theorem tI (s:Sch) (lc:List DV) (ak:List Nat) (m:Int) (lC:0<=m) (eO:m<=512) (hl:s.types.length<=1099511627776) (cm:∀ t,(t=s.root∨∃ x∈s.types,t=x.2)->t.wt<=1099511627776) :
  Ev Tryz.prog 45 [.loc 0 0,.fn 46 [.loc 0 0] []] [bC s (.pt lc 0) (.loc 1 0) m,tH s ak lc] [] (y5 s (.pt lc 0) (tH s ak lc) (eaR s.root s.types m)):=by
 have hN:=eG s.types;have hR:∀ (m':Int),0<=m' -> m' <= 512->∀ t,(t=s.root∨∃ x∈s.types,t=x.2)->_:=fun m' h0 h1 t ht=>rJ s lc (tH s ak lc) m' h0 (by omega) t (cm t ht) (fun bx N n0 m0=>ax);obtain ⟨ae,order,types,⟨rh,rp⟩⟩:=s;simp only at hl hR hN cm;refine ev_go (P:=Tryz.prog) tt tt_ok 5000 34 [.cell 4 54] Tryz.func45 rfl Tryz.ntmps45 rfl (nL rfl) (fun E9 w9 hn9 hm9=>?_);generalize hG:eaR (.mk rh rp) types m=G;have J5:G=eaR (.mk rh rp) (types.drop 0) m:=by rw [List.drop_zero,hG]
 refine aF (fun j st=>∃ (e:Nat) (m':Int),st=pP ⟨ae,order,types,.mk rh rp⟩ lc (tH ⟨ae,order,types,.mk rh rp⟩ ak lc) m' types e/\e<=types.length/\0<=m' /\ m' <= 512/\G=eaR (.mk rh rp) (types.drop e) m' /\ j=types.length - e) types.length
  (pP ⟨ae,order,types,.mk rh rp⟩ lc (tH ⟨ae,order,types,.mk rh rp⟩ ak lc) m types 0) (bw 3 rfl (by repeat' (first | exact rfl | exact ah rfl | exact rfl | refine ⟨_,_,rfl,?_,?_⟩)) rfl rfl rfl (by repeat' (first | exact trivial | exact ah rfl | exact rfl | refine ⟨⟨_,rfl,?_⟩,?_⟩))) ⟨0,m,rfl,by omega,lC,eO,J5,by omega⟩ ?_
 rintro j st ⟨e,m',rfl,he,yW,yX,bd,rfl⟩;refine br (fun hL=>?_) (fun hL=>?_)
 ·have av:e < types.length:=by have:=hL;simp [hN] at this;exact this
  obtain ⟨x,hx⟩:∃ x,types[e]? = some x:=⟨_,gE av⟩;have hp:=hR m' yW yX x.2 (.inr ⟨x,mG hx,rfl⟩);rw [y6 hx] at bd;obtain ⟨xw,⟨xh,xp⟩⟩:=x;refine ⟨_,⟨by omega,dNms_get hx⟩,?_⟩;refine ef 2 0 FH rfl rfl rfl aL aL hp (fun r eH bF hΦ h1 h2=>?_);obtain ⟨rfl,rfl⟩:=hΦ;have h2:=List.eq_nil_of_length_eq_zero h2;subst h2;refine br (fun hf=>?_) (fun hf=>?_)
  ·have hf:(aZ (.mk xh xp) m').1.1≠0:=by simpa using hf
   rw [if_pos hf] at bd;subst bd;exact ⟨Ft.d _,[bC ⟨ae,order,types,.mk rh rp⟩ (.pt lc 0) (.loc 1 0) (aZ (.mk xh xp) m').2,tH ⟨ae,order,types,.mk rh rp⟩ ak lc],ax,aL,rfl,rfl⟩
  ·have hf:(aZ (.mk xh xp) m').1.1=0:=by simpa using hf
   rw [if_neg (by rw [hf];simp)] at bd;obtain ⟨g1,g2,_,_⟩:=iv hf;exact ⟨pP ⟨ae,order,types,.mk rh rp⟩ lc (tH ⟨ae,order,types,.mk rh rp⟩ ak lc) (aZ (.mk xh xp) m').2 types (e + 1),(bw 3 rfl (KW av) rfl rfl rfl (pj av)),types.length - (e + 1),by omega,e + 1,_,rfl,by omega,by omega,g2,bd,rfl⟩
 ·have ch:e=types.length:=by have:=hL;simp [hN] at this;omega
  subst ch;rw [List.drop_length,eaR] at bd;refine ef 2 0 FH rfl rfl rfl aL aL (hR m' yW yX (.mk rh rp) (.inl rfl)) (fun r eH bF hΦ h1 h2=>?_);obtain ⟨rfl,rfl⟩:=hΦ;have h2:=List.eq_nil_of_length_eq_zero h2;subst h2;subst bd;exact ⟨Ft.d _,[bC ⟨ae,order,types,.mk rh rp⟩ (.pt lc 0) (.loc 1 0) (aZ (.mk rh rp) m').2,tH ⟨ae,order,types,.mk rh rp⟩ ak lc],ax,aL,rfl,rfl⟩
def dy (s:Sch):Ft:=if 64 < s.types.length then (8,Ey (qm s) 64) else enumL (qm s) 0 (qm s)
def A7 (s:Sch) (lc:List DV) (r:DV) (os:List (List DV)) (_:List TkE):Prop:=
 r=(dy s).d/\((dy s).1=0->∃ ak,di (tL s) ak/\ak.length<=s.types.length/\os=[bC s (.pt lc 0) (.loc 1 0) 0,tH s ak lc])
abbrev tJ (s:Sch) (lc:List DV) (n e:Nat):St:=
 ⟨[(0,⟨[],.loc 0 0⟩),(2,⟨[],.loc 2 0⟩),(3,⟨[],.sl 1 (bV (al ((qm s).take e))) (some 0)⟩),(27,⟨[],.sl 11 (dNms s.types) none⟩),(28,⟨[],.v (.int .i64 (dNms s.types).length)⟩),(29,⟨[],.v (.int .i64 e)⟩)],
  [bC s (.pt lc 0) (.loc 1 0) 0,[.pt lc 0,.v (.slice none 0 0),.v (.int .i64 0),.v (.pointer none),.v (.slice none 0 0)],[.v (.int .i64 0),.v (.int .i64 0)]],[⟨n,9,1,none⟩]⟩
theorem pQ (s:Sch) (lc:List DV) (hs:nmsWt s.types<=1099511627776) :
  Ev Tryz.prog 44 [.loc 0 0] [bC s (.pt lc 0) (.loc 1 0) 0,[.pt lc 0,.v (.slice none 0 0),.v (.int .i64 0),.v (.pointer none),.v (.slice none 0 0)]] [] (A7 s lc):=by
 have hN:=eG s.types;have lp:=kv s.types;have vI:=A6 s;have hF:=dy.eq_1 s;have l6:∀ {e:Nat} {x:Wd × Ty},s.types[e]? = some x->(qm s)[e]? = some x.1:=fun h=>by simp [qm,h]
 have bZ:=mv (tL s) (by rw [mZ];omega);have LA:tL s=al (qm s):=rfl
 have hw:∀ x∈s.types,x.1.s.size<=1099511627776:=fun x hx=>by
  have:=fB hx;simp only [Wd.wt] at this;omega
 obtain ⟨ae,order,types,⟨rh,rp⟩⟩:=s;simp only at hs hN lp vI l6 hw hF;generalize hQ:qm ⟨ae,order,types,.mk rh rp⟩=Q at vI hF l6 LA;refine ev_go (P:=Tryz.prog) tt tt_ok 5000 67 [.cell 2 54] Tryz.func44 rfl Tryz.ntmps44 rfl (nL rfl) (fun E9 w9 hn9 hm9=>?_);refine br (fun h=>?_) (fun h=>?_)
 ·have h:64 < types.length:=by simp [hN] at h;omega
  obtain ⟨x,hx⟩:∃ x,types[64]? = some x:=⟨_,gE h⟩;have J4:=l6 hx;rw [if_pos h,lJ J4] at hF;obtain ⟨xw,⟨xh,xp⟩⟩:=x;refine ⟨_,⟨by omega,dNms_get hx⟩,?_⟩;refine ⟨Ft.d (8,xw.a),[bC ⟨ae,order,types,.mk rh rp⟩ (.pt lc 0) (.loc 1 0) 0,[.pt lc 0,.v (.slice none 0 0),.v (.int .i64 0),.v (.pointer none),.v (.slice none 0 0)]],ax,aL,by rw [hF],fun h0=>by rw [hF] at h0;simp at h0⟩
 have h:¬ 64 < types.length:=by simp [hN] at h;omega
 rw [if_neg h] at hF;refine aF (fun j st=>∃ e:Nat,st=tJ ⟨ae,order,types,.mk rh rp⟩ lc e e/\e<=types.length/\(al (Q.take e)).Nodup/\enumL Q 0 Q=enumL Q e (Q.drop e)/\j=types.length - e) types.length (tJ ⟨ae,order,types,.mk rh rp⟩ lc 0 0) (ij 3 ⟨0,9,1,none⟩ rfl rfl rfl (by repeat' (first | exact rfl | exact ah rfl | exact cK (Nat.le_refl _) rfl | exact cK (Nat.le_refl _) rfl | refine ⟨_,_,rfl,?_,?_⟩)) rfl rfl BM) ⟨0,rfl,by omega,by simp [al],rfl,by omega⟩ ?_;rintro j st ⟨e,rfl,he,hnd,bd,rfl⟩;rw [bd] at hF;refine br (fun hL=>?_) (fun hL=>?_)
 ·have av:e < types.length:=by have:=hL;simp [hN] at this;exact this
  obtain ⟨x,hx⟩:∃ x,types[e]? = some x:=⟨_,gE av⟩;have JD:=hw x (mG hx);have hq:=l6 hx;have qj:=fw hq;have a7:=mP hq;have qf:=gk hq hnd;have Ew:=iT (al (Q.take (e + 1))) (by simp [al];omega);rw [<- qj] at Ew;obtain ⟨xw,⟨xh,xp⟩⟩:=x;simp only at JD hq qj a7 qf Ew;refine ⟨_,⟨by omega,dNms_get hx⟩,?_⟩;rw [hQ];refine ⟨by simp [aX,al];omega,⟨by simp [aX,al,maxLen];omega,by simp [aX,al];omega⟩,?_⟩;refine call_p qV (eD xw.s (by omega)) ax rfl ?_;refine br (fun tK=>?_) (fun tK=>?_)
  ·have tK:bf xw.s=false:=by simpa using tK
   have hf:aC Q e xw=9:=by simp [aC,tK]
   rw [a7,hf,if_pos (by decide)] at hF;refine ⟨Ft.d (9,xw.a),[bC ⟨ae,order,types,.mk rh rp⟩ (.pt lc 0) (.loc 1 0) 0,[.pt lc 0,.v (.slice none 0 0),.v (.int .i64 0),.v (.pointer none),.v (.slice none 0 0)]],ax,aL,by rw [hF],fun h0=>by rw [hF] at h0;simp at h0⟩
  ·have tK:bf xw.s=true:=by simpa using tK
   refine cj xX rfl Ew ax (fun r hr=>?_);obtain ⟨z,rfl,hz⟩:=hr;refine br (fun h2=>?_) (fun h2=>?_)
   ·have h2:0<=z:=by simpa using h2
    have hd:bX (Q.take e) xw.s=true:=by
     cases hd:bX (Q.take e) xw.s
     ·exact absurd (qf.2 hd) (hz.1 h2)
     ·rfl
    have hf:aC Q e xw=10:=by simp [aC,tK,hd]
    rw [a7,hf,if_pos (by decide)] at hF;refine ⟨Ft.d (10,xw.a),[bC ⟨ae,order,types,.mk rh rp⟩ (.pt lc 0) (.loc 1 0) 0,[.pt lc 0,.v (.slice none 0 0),.v (.int .i64 0),.v (.pointer none),.v (.slice none 0 0)]],ax,aL,by rw [hF],fun h0=>by rw [hF] at h0;simp at h0⟩
   ·have h2:¬ 0<=z:=by simpa using h2
    have mf:(al (Q.take (e + 1))).Nodup:=Classical.byContradiction fun hn=>h2 (hz.2 hn);have hf:aC Q e xw=0:=by simp [aC,tK,qf.1 mf]
    rw [hf,if_neg (by simp)] at a7;have GQ:bV (al (Q.take e)) ++ [[DV.v (.string xw.s)]]=bV (al ((qm ⟨ae,order,types,.mk rh rp⟩).take (e + 1))):=by rw [hQ];exact qj
    refine ⟨tJ ⟨ae,order,types,.mk rh rp⟩ lc (e + 1) (e + 1),(bw 3 rfl (IJ av GQ) rfl rfl rfl (Ej av GQ)),types.length - (e + 1),by omega,e + 1,rfl,by omega,mf,bd.trans a7,rfl⟩
 ·have ch:e=types.length:=by have:=hL;simp [hN] at this;omega
  have h0:enumL Q e (Q.drop e)=(0,0):=by rw [ch,<- vI,List.drop_length];all_goals rfl
  rw [h0] at hF;have ht:Q.take e=Q:=by rw [ch,<- vI,List.take_length]
  have J6:al ((qm ⟨ae,order,types,.mk rh rp⟩).take e)=tL ⟨ae,order,types,.mk rh rp⟩:=by rw [hQ,ht,LA]
  rw [<- J6] at bZ;refine aV mo (by decide +kernel) ?_;refine jE Dk rfl bZ ax (fun Au hr=>?_);obtain ⟨ak,hT,fj,rfl⟩:=hr;rw [J6] at hT fj;have HB:DV.pt (bA (al ((qm ⟨ae,order,types,.mk rh rp⟩).take e)) ak) 0=DV.pt (bA (tL ⟨ae,order,types,.mk rh rp⟩) ak) 0:=congrArg (fun L=>DV.pt (bA L ak) 0) J6;rw [mZ] at fj;exact ⟨Ft.d (0,0),[bC ⟨ae,order,types,.mk rh rp⟩ (.pt lc 0) (.loc 1 0) 0,tH ⟨ae,order,types,.mk rh rp⟩ ak lc],ax,(by repeat' (first | exact rfl | exact trivial | exact Or.inr (Or.inl ⟨_,rfl⟩) | exact Or.inr ⟨_,rfl⟩ | exact Or.inl ⟨rfl,rfl⟩ | exact Or.inl rfl | refine Or.inr ⟨_,_,rfl,Nat.zero_le _,rfl,?_⟩ | refine ⟨_,_,rfl,?_,?_⟩ | refine ⟨_,rfl,?_⟩ | exact ⟨nL rfl,rfl⟩ | exact Or.inl HB | refine Or.inr (Or.inr (Or.inr ⟨_,_,rfl,?_⟩)) | exact Or.inl rfl | refine Or.inr ?_)),by rw [hF],fun _=>⟨ak,hT,fj,rfl⟩⟩
def firstA (s:Sch) (k:Nat):Nat:=((s.types.take k).map fun x=>x.2.nn).sum
theorem kY {s:Sch} {k:Nat} {x:Wd × Ty} (h:s.types[k]? = some x):firstA s (k + 1)=firstA s k + x.2.nn:=by
 unfold firstA;rw [List.take_add_one,h];simp
theorem wi (s:Sch):∀ k,firstA s k<=nmsWt s.types:=by
 intro k;unfold firstA;generalize s.types=l
 induction l generalizing k with
 | nil=>simp
 | cons x r ih=>
  cases k with
  | zero=>simp
  | succ k=>
   have h1:=ih k;have h2:=x.2.dT;have h3:=x.2.dr;simp only [List.take_succ_cons,List.map_cons,List.sum_cons,nmsWt];omega
def namedN (s:Sch) (i:Nat):Nat:=firstA s ((endI s (s.types.length + 1) i).getD 0)
def namedL (s:Sch):List Nat:=(List.range s.types.length).map (namedN s)
theorem GR (n:Nat):(List.replicate n (vL [Value.int .i64 0])).flatten=cZ (List.replicate n 0):=by
 induction n with
 | zero=>rfl
 | succ n ih=>simp only [List.replicate_succ,List.flatten_cons,ih];rfl
theorem lL {n m:Nat} {tk:List TkE} {l:List DV} {js:List Int} (h:l=cZ js):WeL n m tk l (cZ js):=by rw [h];exact cY js
abbrev DT (s:Sch) (lc pc:List DV) (m:Int) (l:List Int) (dD e:Nat):St:=
 ⟨[(0,⟨[],.loc 0 0⟩),(2,⟨[],.ms 2 1 0 (dNms s.types).length (dNms s.types).length⟩),(3,⟨[],.v (.int .i64 dD)⟩),(18,⟨[],.sl 11 (dNms s.types) none⟩),(19,⟨[],.v (.int .i64 (dNms s.types).length)⟩),(20,⟨[],.v (.int .i64 e)⟩)],
  [bC s (.pt lc 0) (.loc 1 0) m,pc,cZ l],[]⟩
abbrev y7 (s:Sch) (ak:List Nat) (lc:List DV) (m:Int) (l:List Int) (n e:Nat):St:=
 ⟨[(0,⟨[],.loc 0 0⟩),(2,⟨[],.ms 2 1 0 (dNms s.types).length (dNms s.types).length⟩),(40,⟨[],.v (.int .i64 (dNms s.types).length)⟩),(41,⟨[],.v (.int .i64 e)⟩)],
  [bC s (.pt lc 0) (.loc 1 0) m,pC s ak (.pt lc 0) (.v (.slice none 0 0)) (.v (.int .i64 0)) (.sl 1 (dInts ((namedL s).take e)) (some 0)),cZ l],[⟨n,3,1,none⟩]⟩
def A8 (s:Sch) (ak:List Nat) (lc:List DV) (m:Int) (_:DV) (os:List (List DV)) (_:List TkE):Prop:=
 os=[bC s (.pt lc 0) (.loc 1 0) m,pC s ak (.pt lc 0) (.v (.slice none 0 0)) (.v (.int .i64 0)) (.sl 1 (dInts (namedL s)) none)]
theorem DU {l:List Int} {i:Nat} {z:Int} (h:l[i]? = some z):(cZ l)[i]? = some (DV.v (.int .i64 z)):=by simp [cZ,h]
theorem rK (s:Sch) (lc:List DV) (ak:List Nat) (m:Int) (hT:di (tL s) ak) (fj:ak.length<=1099511627776) (hl:s.types.length<=64) (hr:∀ x∈s.types,wg s x.2=true) (hs:nmsWt s.types<=1099511627776)
  (hlo:∀ i,i < s.types.length->∃ k,endI s (s.types.length + 1) i=some k) :
  Ev Tryz.prog 49 [.loc 0 0] [bC s (.pt lc 0) (.loc 1 0) m,tH s ak lc] [] (A8 s ak lc m):=by
 have hN:=eG s.types
 have J0:∀ x∈s.types,x.2.wt<=1099511627776:=fun x hx=>by
  have:=fB hx;omega
 have LB:=wi s;have Eg:=fun {k:Nat} {x:Wd × Ty}=>@kY s k x;have lp:(namedL s).length=s.types.length:=by simp [namedL]
 have yZ:=fun (e0:DV)=>rH s (.pt lc 0) ak (.pt lc 0) (.v (.slice none 0 0)) (.v (.int .i64 0)) e0 m hT fj hl hr;obtain ⟨ae,order,types,⟨rh,rp⟩⟩:=s;simp only at hl hr hN hs J0 LB Eg lp yZ hlo;have hN2:(dNms (⟨ae,order,types,.mk rh rp⟩:Sch).types).length=types.length:=hN;refine ev_go (P:=Tryz.prog) tt tt_ok 5000 66 [] Tryz.func49 rfl Tryz.ntmps49 rfl (nL rfl) (fun E9 w9 hn9 hm9=>?_);refine ⟨⟨rfl,by omega,by omega,by omega⟩,?_⟩
 refine aF (fun j st=>∃ (e:Nat) (l:List Int),st=DT ⟨ae,order,types,.mk rh rp⟩ lc (tH ⟨ae,order,types,.mk rh rp⟩ ak lc) m l (firstA ⟨ae,order,types,.mk rh rp⟩ e) e/\e<=types.length/\l.length=types.length/\(∀ i:Nat,i < e->l[i]? = some (firstA ⟨ae,order,types,.mk rh rp⟩ i:Int))/\j=types.length - e) types.length
  (DT ⟨ae,order,types,.mk rh rp⟩ lc (tH ⟨ae,order,types,.mk rh rp⟩ ak lc) m (List.replicate ((dNms types).length:Int).toNat 0) (firstA ⟨ae,order,types,.mk rh rp⟩ 0) 0) (bw 3 rfl (by repeat' (first | exact rfl | exact ah rfl | exact lL (GR _) | refine ⟨_,_,rfl,?_,?_⟩)) rfl rfl rfl (by repeat' (first | exact trivial | exact ah rfl | exact lL (GR _) | refine ⟨⟨_,rfl,?_⟩,?_⟩))) ⟨0,_,rfl,by omega,by simp [hN],fun _ h=>by omega,by omega⟩ ?_
 rintro j st ⟨e,l,rfl,he,hll,GS,rfl⟩;refine br (fun hL=>?_) (fun hL=>?_)
 ·have av:e < types.length:=by have:=hL;simp [hN] at this;exact this
  obtain ⟨x,hx⟩:∃ x,types[e]? = some x:=⟨_,gE av⟩;have hxw:=J0 x (mG hx);have Ae:=Eg hx;have Ex:=LB (e + 1);obtain ⟨xw,⟨xh,xp⟩⟩:=x;have hnd:=mX (Ty.mk xh xp).wt (.mk xh xp) (Nat.le_refl _) hxw;refine ⟨_,⟨by omega,dNms_get hx⟩,?_⟩;refine ⟨⟨by omega,by omega⟩,?_⟩;refine ⟨by rw [DL];omega,?_⟩;refine call_p BV (hnd) ax rfl ?_;simp only at Ae Ex
  have jz:(cZ l).set (0 + (e:Int).toNat * 1) (DV.v (.int .i64 ((firstA ⟨ae,order,types,.mk rh rp⟩ e:Nat):Int)))=cZ (l.set e ((firstA ⟨ae,order,types,.mk rh rp⟩ e:Nat):Int)):=by
   rw [show 0 + (e:Int).toNat * 1=e by omega,yJ]
  have ED:IntKind.i64.wrap (((firstA ⟨ae,order,types,.mk rh rp⟩ e:Nat):Int) + (Ty.mk xh xp).nn)=((firstA ⟨ae,order,types,.mk rh rp⟩ (e + 1):Nat):Int):=by
   rw [Ae,wrap64 (by omega) (by omega)];omega
  refine ⟨DT ⟨ae,order,types,.mk rh rp⟩ lc (tH ⟨ae,order,types,.mk rh rp⟩ ak lc) m (l.set e ((firstA ⟨ae,order,types,.mk rh rp⟩ e:Nat):Int)) (firstA ⟨ae,order,types,.mk rh rp⟩ (e + 1)) (e + 1),(bw 3 rfl (by repeat' (first | exact rfl | exact ah rfl | exact lL jz | exact ap ED | exact ap (ei av (by omega)) | refine ⟨_,_,rfl,?_,?_⟩)) rfl rfl rfl (by repeat' (first | exact trivial | exact ah rfl | exact lL jz | exact ap ED | exact ap (ei av (by omega)) | refine ⟨⟨_,rfl,?_⟩,?_⟩))),types.length - (e + 1),by omega,e + 1,_,rfl,by omega,by rw [List.length_set];exact hll,fun i hi=>?_,rfl⟩;by_cases B8:i=e
  ·subst B8;rw [List.getElem?_set_self (by omega)]
  ·rw [List.getElem?_set_ne (Ne.symm B8)];exact GS i (by omega)
 ·have ch:e=types.length:=by have:=hL;simp [hN] at this;omega
  subst ch;refine aF (fun j st=>∃ e:Nat,st=y7 ⟨ae,order,types,.mk rh rp⟩ ak lc m l e e/\e<=types.length/\j=types.length - e) types.length (y7 ⟨ae,order,types,.mk rh rp⟩ ak lc m l 0 0) (ij 3 ⟨0,3,1,none⟩ rfl rfl rfl (by repeat' (first | exact rfl | exact ah rfl | exact cY _ | exact cK (Nat.le_refl _) rfl | exact cK (Nat.le_refl _) rfl | refine ⟨_,_,rfl,?_,?_⟩)) rfl rfl (by repeat' (first | exact trivial | exact ah rfl | exact cY _ | exact cK (Nat.le_refl _) rfl | refine ⟨⟨_,rfl,?_⟩,?_⟩))) ⟨0,rfl,by omega,by omega⟩ ?_;rintro j st ⟨e,rfl,he,rfl⟩;refine br (fun hL=>?_) (fun hL=>?_)
  ·have av:e < types.length:=by have:=hL;simp [hN] at this;exact this
   obtain ⟨k,hk⟩:=hlo e av;have sK:=(pN hk).1;simp only at sK;have hE:=yZ (.sl 1 (dInts ((namedL ⟨ae,order,types,.mk rh rp⟩).take e)) none) e av;rw [hk] at hE;have hnn:namedN ⟨ae,order,types,.mk rh rp⟩ e=firstA ⟨ae,order,types,.mk rh rp⟩ k:=by unfold namedN;rw [hk];all_goals rfl
   have l6:(namedL ⟨ae,order,types,.mk rh rp⟩)[e]? = some (firstA ⟨ae,order,types,.mk rh rp⟩ k):=by
    unfold namedL;rw [List.getElem?_map,List.getElem?_range av,Option.map_some,hnn]
   have qj:dInts ((namedL ⟨ae,order,types,.mk rh rp⟩).take e) ++ [[DV.v (.int .i64 ((firstA ⟨ae,order,types,.mk rh rp⟩ k:Nat):Int))]]=dInts ((namedL ⟨ae,order,types,.mk rh rp⟩).take (e + 1)):=by
    rw [List.take_add_one,l6];simp [dInts]
   refine aV mo (by decide +kernel) ?_;refine jP en107 hE ax rfl rfl ?_;refine ⟨⟨by simp only [oz];omega,by simp only [oz];omega⟩,?_⟩
   have hld:(cZ l)[0 + (oz (some k)).toNat * 1]? = some (DV.v (.int .i64 ((firstA ⟨ae,order,types,.mk rh rp⟩ k:Nat):Int))):=by
    rw [show 0 + (oz (some k)).toNat * 1=k by simp only [oz];omega];exact DU (GS k sK)
   refine ⟨_,hld,?_⟩;refine ⟨by simp [ba];omega,⟨by simp [ba,maxLen];omega,by simp [ba];omega⟩,?_⟩;exact ⟨y7 ⟨ae,order,types,.mk rh rp⟩ ak lc m l (e + 1) (e + 1),(bw 3 rfl (by repeat' (first | exact rfl | exact ah rfl | exact cY _ | exact ap (ei av (by omega)) | exact gw qj rfl | refine ⟨_,_,rfl,?_,?_⟩)) rfl rfl rfl (by repeat' (first | exact trivial | exact ah rfl | exact cY _ | exact ap (ei av (by omega)) | exact gw qj rfl | refine ⟨⟨_,rfl,?_⟩,?_⟩))),types.length - (e + 1),by omega,e + 1,rfl,by omega,rfl⟩
  ·have ch:e=types.length:=by have:=hL;simp [hN] at this;omega
   subst ch;have ht:(namedL ⟨ae,order,types,.mk rh rp⟩).take types.length=namedL ⟨ae,order,types,.mk rh rp⟩:=by rw [<- lp,List.take_length]
   rw [ht];exact ⟨.cP [],[bC ⟨ae,order,types,.mk rh rp⟩ (.pt lc 0) (.loc 1 0) m,pC ⟨ae,order,types,.mk rh rp⟩ ak (.pt lc 0) (.v (.slice none 0 0)) (.v (.int .i64 0)) (.sl 1 (dInts (namedL ⟨ae,order,types,.mk rh rp⟩)) none)],ax,aL,rfl⟩
structure Ed where
 name:ByteArray
 bare:Bool
 dD:Int
 to:Int
 label:Int
 wide:Int
 ck:Int
 cn:Int
 seen:Int
 ca:Int
structure Nd where
 ai:Int
 dD:Int
 lo:Int
 hi:Int
 most:Int
 af:List ByteArray
 fF:List Ed
def DW (e:Ed):List DV:=[.v (.string e.name),.v (.bool e.bare),.v (.int .i64 e.dD),.v (.int .i64 e.to),.v (.int .i64 e.label),.v (.int .i64 e.wide),.v (.int .i64 e.ck),.v (.int .i64 e.cn),.v (.int .i64 e.seen),.v (.int .i64 e.ca)]
def pS (l:List Ed):List (List DV):=l.map DW
def lu (n:Nd):List DV:=[.v (.int .i64 n.ai),.v (.int .i64 n.dD),.v (.int .i64 n.lo),.v (.int .i64 n.hi),.v (.int .i64 n.most),.sl 1 (bV n.af) none,.sl 10 (pS n.fF) none]
def c6 (l:List Nd):List (List DV):=l.map lu
def kZ (w:Int):Int:=if w=0 then 3 else w
def wj (lev:List Wd->Int) (p:Ph) (to:Int):Ed:=⟨p.name.s,p.bare,p.name.a,to,lev p.label,kZ p.wide,p.ck,p.cn,lev p.cl,p.ca⟩
def H8 (s:Sch) (name:ByteArray):Int:=(namedN s ((cH (tL s) name).getD 0):Int)
def pT (s:Sch) (t:Ty) (k:Nat):Int:=if t.h.ai=9 then H8 s t.h.name.s else (k:Int)
def tM (s:Sch) (p:Ph) (u:Ty) (k:Nat):Int:=if p.bare then -1 else pT s u k
mutual
def ndsT (lev:List Wd->Int) (s:Sch):Ty->Nat->List Nd
 | .mk h ps,k=>if h.ai=9 then [] else ⟨h.ai,h.dD,h.lo,h.hi,h.most,al h.af,edsP lev s ps (k + 1)⟩ :: nb lev s ps (k + 1)
def edsP (lev:List Wd->Int) (s:Sch):Pts->Nat->List Ed
 | .nil,_=>[]
 | .cons p u r,k=>wj lev p (tM s p u k) :: edsP lev s r (k + if p.bare then 0 else u.nn)
def nb (lev:List Wd->Int) (s:Sch):Pts->Nat->List Nd
 | .nil,_=>[]
 | .cons p u r,k=>(if p.bare then [] else ndsT lev s u k) ++ nb lev s r (k + if p.bare then 0 else u.nn)
end
mutual
theorem fG (lev:List Wd->Int) (s:Sch):∀ (t:Ty) (k:Nat),(ndsT lev s t k).length=t.nn
 | .mk h ps,k=>by
  simp only [ndsT,Ty.nn];split
  ·rfl
  ·rw [List.length_cons,nc lev s ps];omega
theorem nc (lev:List Wd->Int) (s:Sch):∀ (ps:Pts) (k:Nat),(nb lev s ps k).length=ps.nn
 | .nil,k=>rfl
 | .cons p u r,k=>by
  simp only [nb,Pts.nn,List.length_append,nc lev s r];split
  ·rfl
  ·rw [fG lev s u]
end
abbrev wZ (s:Sch) (ak:List Nat) (lc:List DV) (n:Nat):List DV:=pC s ak (.pt lc 0) (.sl 0 (List.replicate n []) (some 0)) (.v (.int .i64 0)) (.sl 1 (dInts (namedL s)) none)
abbrev tN (n:Nat) (base:List DV):TkE:=⟨n,125,7,some base⟩
def Cp (s:Sch) (ak:List Nat) (lc:List DV) (m:Int) (n:Nat) (base:List DV) (y:DV) (qp:List Nd) (r:DV) (os:List (List DV)) (tk:List TkE):Prop:=
 r=y/\os=[bC s (.pt lc 0) (.loc 1 0) m,wZ s ak lc (n + qp.length)]/\tk=[tN (n + qp.length) (base ++ (c6 qp).flatten)]
def y8 (lev:List Wd->Int) (s:Sch) (ak:List Nat) (lc:List DV) (m:Int) (t:Ty):Prop:=
 ∀ (n:Nat) (base:List DV),n + t.nn<=1099511627776->base.length=n * 7 ->
  Ev Tryz.prog 50 [.loc 0 0,.agg (eV t)] [bC s (.pt lc 0) (.loc 1 0) m,wZ s ak lc n] [tN n base] (Cp s ak lc m n base (.v (.int .i64 (pT s t n))) (ndsT lev s t n))
theorem wm {X:Lx} (hX:X.OK) (s:Sch) (ak:List Nat) (m:Int) (p:Ph) (u:Ty) (hp:p.wt<=1099511627776) (oJ:p.bare=false->y8 X.lev s ak (c7 X.af (bA X.af X.ak) X.rows X.js) m u)
  (n:Nat) (base:List DV) (hb:p.bare=false->n + u.nn<=1099511627776) (hbl:base.length=n * 7) :
  Ev Tryz.prog 109 [.loc 0 0,.agg (x5 p (eV u))] [bC s (.pt (c7 X.af (bA X.af X.ak) X.rows X.js) 0) (.loc 1 0) m,wZ s ak (c7 X.af (bA X.af X.ak) X.rows X.js) n] [tN n base]
   (Cp s ak (c7 X.af (bA X.af X.ak) X.rows X.js) m n base (.agg (DW (wj X.lev p (tM s p u n)))) (if p.bare then [] else ndsT X.lev s u n)):=by
 have yl:wdsWt p.label + wdsWt p.cl<=p.wt:=by simp only [Ph.wt];omega
 have CG:X.pd = .pt (c7 X.af (bA X.af X.ak) X.rows X.js) 0:=rfl;have uy:=fun pc=>mY hX s pc m p.label (by omega);have J7:=fun pc=>mY hX s pc m p.cl (by omega);rw [CG] at uy J7;have hE:=fun to=>wj.eq_1 X.lev p to;have LD:=tM.eq_1 s p u n;generalize c7 X.af (bA X.af X.ak) X.rows X.js=lc at uy J7 oJ ⊢;obtain ⟨ae,order,types,⟨rh,rp⟩⟩:=s;obtain ⟨uh,us⟩:=u;refine ev_go (P:=Tryz.prog) tt tt_ok 5000 52 [.cell 4 176] Tryz.func109 rfl Tryz.ntmps109 rfl (nL rfl) (fun E9 w9 hn9 hm9=>?_);have Cq:=uy [.pt lc 0,.sl 0 (List.replicate n []) none,.v (.int .i64 0),.pt (bA (tL ⟨ae,order,types,.mk rh rp⟩) ak) 0,.sl 1 (dInts (namedL ⟨ae,order,types,.mk rh rp⟩)) none];have Cr:=J7 [.pt lc 0,.sl 0 (List.replicate n []) none,.v (.int .i64 0),.pt (bA (tL ⟨ae,order,types,.mk rh rp⟩) ak) 0,.sl 1 (dInts (namedL ⟨ae,order,types,.mk rh rp⟩)) none];apply vt (fun _=>false) 11 15 [0,1,2,3,4,5,6,7,8,9,10,11,12,13,14,15,16] [0,1,2,3,4,5,6,7,8,9,10,15,11,12,13,14,16] 4 4 mo (by decide +kernel)
 ·refine jP uH Cq ax rfl rfl ?_;refine (?_:@Eq St _ _);exact rfl
 ·refine jP uH Cq ax rfl rfl ?_;refine (⟨rfl,rfl,?_⟩:_/\_/\_)
  repeat' (first | exact trivial | refine ⟨rfl,?_⟩)
 ·rfl
 refine br (fun hw=>?_) (fun hw=>?_)
 ·have hw:p.wide=0:=by simpa using hw
  refine lF [4] (fun _=>false) mo (by decide +kernel) ?_;refine jP uH Cr ax rfl rfl ?_;refine br (fun hB=>?_) (fun hB=>?_)
  ·have hB:p.bare=false:=by simpa using hB
   refine ef 2 1 AG rfl rfl rfl aL aL (oJ hB n base (hb hB) hbl) (fun r eH bF hΦ h1 h2=>?_);obtain ⟨rfl,rfl,rfl⟩:=hΦ;refine ⟨.agg (DW ⟨p.name.s,p.bare,p.name.a,pT ⟨ae,order,types,.mk rh rp⟩ (.mk uh us) n,X.lev p.label,3,p.ck,p.cn,X.lev p.cl,p.ca⟩),[bC ⟨ae,order,types,.mk rh rp⟩ (.pt lc 0) (.loc 1 0) m,wZ ⟨ae,order,types,.mk rh rp⟩ ak lc (n + (ndsT X.lev ⟨ae,order,types,.mk rh rp⟩ (.mk uh us) n).length)],ax,aL,?_,?_,?_⟩
   ·simp [hE,tM,hB,kZ,hw]
   ·simp [hB]
   ·simp [hB]
  ·have hB:p.bare=true:=by simpa using hB
   refine ⟨.agg (DW ⟨p.name.s,p.bare,p.name.a,-1,X.lev p.label,3,p.ck,p.cn,X.lev p.cl,p.ca⟩),[bC ⟨ae,order,types,.mk rh rp⟩ (.pt lc 0) (.loc 1 0) m,wZ ⟨ae,order,types,.mk rh rp⟩ ak lc n],ax,aL,?_,?_,?_⟩
   ·simp [hE,tM,hB,kZ,hw]
   ·simp [hB]
   ·simp [hB,c6]
 ·have hw:¬ p.wide=0:=by simpa using hw
  refine lF [4] (fun _=>false) mo (by decide +kernel) ?_;refine jP uH Cr ax rfl rfl ?_;refine br (fun hB=>?_) (fun hB=>?_)
  ·have hB:p.bare=false:=by simpa using hB
   refine ef 2 1 AG rfl rfl rfl aL aL (oJ hB n base (hb hB) hbl) (fun r eH bF hΦ h1 h2=>?_);obtain ⟨rfl,rfl,rfl⟩:=hΦ;refine ⟨.agg (DW ⟨p.name.s,p.bare,p.name.a,pT ⟨ae,order,types,.mk rh rp⟩ (.mk uh us) n,X.lev p.label,p.wide,p.ck,p.cn,X.lev p.cl,p.ca⟩),[bC ⟨ae,order,types,.mk rh rp⟩ (.pt lc 0) (.loc 1 0) m,wZ ⟨ae,order,types,.mk rh rp⟩ ak lc (n + (ndsT X.lev ⟨ae,order,types,.mk rh rp⟩ (.mk uh us) n).length)],ax,aL,?_,?_,?_⟩
   ·simp [hE,tM,hB,kZ,hw]
   ·simp [hB]
   ·simp [hB]
  ·have hB:p.bare=true:=by simpa using hB
   refine ⟨.agg (DW ⟨p.name.s,p.bare,p.name.a,-1,X.lev p.label,p.wide,p.ck,p.cn,X.lev p.cl,p.ca⟩),[bC ⟨ae,order,types,.mk rh rp⟩ (.pt lc 0) (.loc 1 0) m,wZ ⟨ae,order,types,.mk rh rp⟩ ak lc n],ax,aL,?_,?_,?_⟩
   ·simp [hE,tM,hB,kZ,hw]
   ·simp [hB]
   ·simp [hB,c6]
def H9 (h:Hd):List DV:=[.v (.int .i64 h.ai),.v (.int .i64 h.dD),.v (.int .i64 h.lo),.v (.int .i64 h.hi),.v (.int .i64 h.most),.sl 1 (bV (al h.af)) none,.v (.slice none 0 0)]
theorem A9 {h:Hd} {base R:List DV} {n:Nat} {x:DV} (hb:base.length=n * 7):(base ++ (H9 h ++ R)).set (n * 7 + 6) x=base ++ ([.v (.int .i64 h.ai),.v (.int .i64 h.dD),.v (.int .i64 h.lo),.v (.int .i64 h.hi),.v (.int .i64 h.most),.sl 1 (bV (al h.af)) none,x] ++ R):=by
 rw [List.set_append_right _ _ (by omega),hb,Nat.add_sub_cancel_left];rfl
theorem oK (l:List Ed) (e:Ed):pS l ++ [DW e]=pS (l ++ [e]):=by simp [pS]
theorem jX (l:List Ed):(pS l).length=l.length:=by simp [pS]
theorem jY (lev:List Wd->Int) (s:Sch):∀ (ps:Pts) (k:Nat),(edsP lev s ps k).length=ps.len
 | .nil,_=>rfl
 | .cons p u r,k=>by simp [edsP,Pts.len,jY lev s r]
abbrev y9 (s:Sch) (ak:List Nat) (lc:List DV) (m:Int) (n:Nat) (base:List DV) (h:Hd) (ps:Pts) (q e:Nat):St:=
 ⟨[(0,⟨[],.loc 0 0⟩),(3,⟨[],.loc 2 0⟩),(7,⟨[],.v (.int .i64 n)⟩),(8,⟨[],.loc 3 0⟩),(61,⟨[],.sl 2 (bL h.af) none⟩),(62,⟨[],.v (.int .i64 (bL h.af).length)⟩),(63,⟨[],.v (.int .i64 e)⟩)],
  [bC s (.pt lc 0) (.loc 1 0) m,wZ s ak lc n,eV (.mk h ps),[.v (.int .i64 h.ai),.v (.int .i64 h.dD),.v (.int .i64 h.lo),.v (.int .i64 h.hi),.v (.int .i64 h.most),.sl 1 (bV (al (h.af.take e))) (some 1),.v (.slice none 0 0)]],
  [tN n base,⟨q,9,1,none⟩]⟩
abbrev za (s:Sch) (ak:List Nat) (lc:List DV) (m:Int) (n:Nat) (h:Hd) (ps:Pts) (n':Nat) (jZ:List DV) (Es:List Ed) (q1 q2 e:Nat):St:=
 ⟨[(0,⟨[],.loc 0 0⟩),(3,⟨[],.loc 2 0⟩),(7,⟨[],.v (.int .i64 n)⟩),(11,⟨[],.sl 10 (pS Es) (some 2)⟩),(92,⟨[],.sl 18 (dg ps) none⟩),(93,⟨[],.v (.int .i64 (dg ps).length)⟩),(94,⟨[],.v (.int .i64 e)⟩)],
  [bC s (.pt lc 0) (.loc 1 0) m,wZ s ak lc n',eV (.mk h ps)],
  [tN n' jZ,⟨q1,9,1,none⟩,⟨q2,176,10,none⟩]⟩
theorem nd {X:Lx} {L:List ByteArray} {h:Hd} {ps:Pts} (hk:(knT X L (.mk h ps)).1=0):(h.ai=9->cH L h.name.s≠none)/\(knP X L ps).1=0:=by
 rw [knT] at hk;split at hk
 ·cases hk
 ·rename_i h1;exact ⟨fun h9 hn=>h1 ⟨h9,hn⟩,hk⟩
theorem kB {X:Lx} {L:List ByteArray} {p:Ph} {u:Ty} {r:Pts} (hk:(knP X L (.cons p u r)).1=0):(p.bare=false->(knT X L u).1=0)/\(knP X L r).1=0:=by
 rw [knP] at hk;split at hk
 ·rename_i h1;exact (h1 hk).elim
 ·split at hk
  ·rename_i h1;exact (h1 hk).elim
  ·split at hk
   ·rename_i h1;exact ⟨(fun h2=>by rw [h1] at h2;cases h2),hk⟩
   ·split at hk
    ·rename_i h1;exact (h1 hk).elim
    ·rename_i h1;exact ⟨fun _=>by simpa using h1,hk⟩
theorem oL {X:Lx} (hX:X.OK) (s:Sch) (ak:List Nat) (m:Int) (hT:di (tL s) ak) (fj:ak.length<=1099511627776):∀ (k:Nat) (t:Ty),t.wt<=k->t.wt<=1099511627776->(knT X (tL s) t).1=0 ->
  y8 X.lev s ak (c7 X.af (bA X.af X.ak) X.rows X.js) m t
 | 0,t,hn,_,_=>by have:=t.iS;omega
 | k + 1,.mk h ps,hn,cm,Fh=>by
  have ih:=oL hX s ak m hT fj k;intro n base hnb hbl;obtain ⟨Cs,Ia⟩:=nd Fh;have Ct:=fun (p:Ph) (u:Ty)=>wm hX s ak m p u;generalize c7 X.af (bA X.af X.ak) X.rows X.js=lc at ih Ct ⊢;simp only [Ty.wt,Hd.wt] at hn cm;have qB:=ps.gL;have lp:=bT h.af;have hf:=dx (tL s) ak h.name.s hT fj;have vI:=mZ s;have hnmL:(namedL s).length=s.types.length:=by simp [namedL]
  have Ba:pT s (.mk h ps) n=if h.ai=9 then H8 s h.name.s else (n:Int):=rfl
  have wo:ndsT X.lev s (.mk h ps) n=if h.ai=9 then [] else ⟨h.ai,h.dD,h.lo,h.hi,h.most,al h.af,edsP X.lev s ps (n + 1)⟩ :: nb X.lev s ps (n + 1):=by rw [ndsT]
  have hnn:(Ty.mk h ps).nn=if h.ai=9 then 0 else 1 + ps.nn:=by rw [Ty.nn]
  generalize hS:s=S at *;subst hS;obtain ⟨ae,order,types,⟨rh,rp⟩⟩:=s;refine ev_go (P:=Tryz.prog) tt tt_ok 5000 117 [.tmp 4] Tryz.func50 rfl Tryz.ntmps50 rfl (nL rfl) (fun E9 w9 hn9 hm9=>?_);refine br (fun h9=>?_) (fun h9=>?_)
  ·have h9:h.ai=9:=by simpa using h9
   obtain ⟨i,hi⟩:=Option.ne_none_iff_exists'.1 (Cs h9);have Gd:=(dw hi).1;rw [hi] at hf;rw [if_pos h9] at Ba wo
   have l6:(namedL ⟨ae,order,types,.mk rh rp⟩)[i]? = some (namedN ⟨ae,order,types,.mk rh rp⟩ i):=by
    unfold namedL;rw [List.getElem?_map,List.getElem?_range (by omega)];rfl
   refine cw (fun _=>false) mo (by decide +kernel) ?_;refine fY mi (hf) ax rfl ?_;refine ⟨_,⟨by omega,cx l6⟩,?_⟩;refine ⟨.v (.int .i64 (namedN ⟨ae,order,types,.mk rh rp⟩ i:Nat)),[bC ⟨ae,order,types,.mk rh rp⟩ (.pt lc 0) (.loc 1 0) m,wZ ⟨ae,order,types,.mk rh rp⟩ ak lc n],ax,aL,?_,?_,?_⟩
   ·rw [Ba,H8,hi];rfl
   ·rw [wo];rfl
   ·rw [wo];simp [c6]
  have h9:¬ h.ai=9:=by simpa using h9
  rw [if_neg h9] at Ba wo hnn;have fi:(List.replicate n ([]:List DV)).length=n:=List.length_replicate;refine aF (fun j st=>∃ e:Nat,st=y9 ⟨ae,order,types,.mk rh rp⟩ ak lc m n base h ps e e/\e<=h.af.length/\j=h.af.length - e) h.af.length (y9 ⟨ae,order,types,.mk rh rp⟩ ak lc m n base h ps 0 0) (ij 4 ⟨0,9,1,none⟩ rfl rfl rfl (by repeat' (first | exact rfl | exact ah rfl | exact ap (congrArg Nat.cast fi) | exact cK (Nat.le_refl _) rfl | exact cK (Nat.le_refl _) rfl | refine ⟨_,_,rfl,?_,?_⟩)) rfl rfl (by repeat' (first | exact trivial | exact ah rfl | exact ap (congrArg Nat.cast fi) | exact cK (Nat.le_refl _) rfl | refine ⟨⟨_,rfl,?_⟩,?_⟩))) ⟨0,rfl,by omega,by omega⟩ ?_;rintro j st ⟨e,rfl,he,rfl⟩;refine br (fun hL=>?_) (fun hL=>?_)
  ·have av:e < h.af.length:=by simpa [aw] using hL
   obtain ⟨w,hw⟩:∃ w,h.af[e]? = some w:=⟨_,gE av⟩;have qj:=fw hw;refine ⟨qh w,⟨by omega,bU hw⟩,?_⟩;refine ⟨by simp [aX,al];omega,⟨by simp [aX,al,maxLen];omega,by simp [aX,al];omega⟩,?_⟩;exact ⟨y9 ⟨ae,order,types,.mk rh rp⟩ ak lc m n base h ps (e + 1) (e + 1),(bw 4 rfl (IJ av qj) rfl rfl rfl (Ej av qj)),h.af.length - (e + 1),by omega,e + 1,rfl,by omega,rfl⟩
  have ch:e=h.af.length:=by have:=hL;simp [aw] at this;omega
  subst ch;rw [List.take_length];refine aV mo (by decide +kernel) ?_;refine ⟨⟨⟨fi,by simp⟩,by simp [maxLen];omega,by simp;omega⟩,?_⟩
  refine aF (fun j st=>∃ (e n':Nat) (jZ:List DV) (Es:List Ed) (K:List Nd),st=za ⟨ae,order,types,.mk rh rp⟩ ak lc m n h ps n' jZ Es h.af.length e e/\e<=ps.len/\n'=n + 1 + K.length/\jZ=base ++ (H9 h ++ (c6 K).flatten)/\Es.length=e /\
    K ++ nb X.lev ⟨ae,order,types,.mk rh rp⟩ (ps.drop e) (n + 1 + K.length)=nb X.lev ⟨ae,order,types,.mk rh rp⟩ ps (n + 1)/\Es ++ edsP X.lev ⟨ae,order,types,.mk rh rp⟩ (ps.drop e) (n + 1 + K.length)=edsP X.lev ⟨ae,order,types,.mk rh rp⟩ ps (n + 1)/\K.length + (ps.drop e).nn=ps.nn/\(knP X (tL ⟨ae,order,types,.mk rh rp⟩) (ps.drop e)).1=0/\j=ps.len - e) ps.len
   (za ⟨ae,order,types,.mk rh rp⟩ ak lc m n h ps (n + 1) (base ++ (H9 h ++ [])) [] h.af.length 0 0) (ij 3 ⟨0,176,10,none⟩ rfl rfl rfl (by repeat' (first | exact rfl | exact ah rfl | exact cK (Nat.le_refl _) rfl | exact cK (Nat.le_refl _) rfl | refine ⟨_,_,rfl,?_,?_⟩)) rfl rfl BM) ⟨0,n + 1,_,[],[],rfl,by omega,rfl,rfl,rfl,rfl,rfl,by simp [Pts.drop],Ia,by omega⟩ ?_
  rintro j st ⟨e,n',jZ,Es,K,rfl,he,BH,cI,Eh,hK,DX,Ib,H7,rfl⟩
  have J8:jZ.length=n' * 7:=by
   have:∀ l:List Nd,(c6 l).flatten.length=l.length * 7:=by
    intro l
    induction l with
    | nil=>rfl
    | cons a r ih=>simp only [c6,List.map_cons,List.flatten_cons,List.length_append,List.length_cons] at ih ⊢;rw [ih];simp only [lu,List.length_cons,List.length_nil];omega
   rw [cI,List.length_append,List.length_append,this,hbl,BH];simp only [H9,List.length_cons,List.length_nil];omega
  refine br (fun hL=>?_) (fun hL=>?_)
  ·have av:e < ps.len:=by simpa [aN] using hL
   obtain ⟨p,u,hx⟩:=Pts.e9 av;have A4:=Pts.fZ (mG hx);rw [Pts.drop_cons hx] at hK DX Ib H7;obtain ⟨ki,vn⟩:=kB H7;simp only [nb] at hK;simp only [edsP] at DX;simp only [Pts.nn] at Ib;rw [<- BH] at hK DX;have IV:=u.dT;have LF:=u.dr;have bM:=Ct p u (by omega) (fun hB=>ih u (by omega) (by omega) (ki hB)) n' jZ (fun hB=>by rw [hB] at Ib;simp only [Bool.false_eq_true,if_false] at Ib;omega) J8;have GU:=fG X.lev ⟨ae,order,types,.mk rh rp⟩ u n';obtain ⟨uh,us⟩:=u;refine ⟨_,⟨by omega,cF hx⟩,?_⟩;refine ef 2 1 FP rfl rfl rfl aL aL bM (fun r eH bF hΦ h1 h2=>?_);obtain ⟨rfl,rfl,rfl⟩:=hΦ;refine ⟨by rw [jX,Eh],⟨by simp [jX,Eh,maxLen];omega,by simp [jX,Eh];omega⟩,?_⟩
   have DY:(if p.bare then [] else ndsT X.lev ⟨ae,order,types,.mk rh rp⟩ (.mk uh us) n').length=if p.bare then 0 else (Ty.mk uh us).nn:=by
    split
    ·rfl
    ·exact GU
   have Cu:n + 1 + (K.length + (if p.bare then 0 else (Ty.mk uh us).nn))=n' + if p.bare then 0 else (Ty.mk uh us).nn:=by rw [BH];omega
   refine ⟨za ⟨ae,order,types,.mk rh rp⟩ ak lc m n h ps (n' + (if p.bare then [] else ndsT X.lev ⟨ae,order,types,.mk rh rp⟩ (.mk uh us) n').length) (jZ ++ (c6 (if p.bare then [] else ndsT X.lev ⟨ae,order,types,.mk rh rp⟩ (.mk uh us) n')).flatten) (Es ++ [wj X.lev p (tM ⟨ae,order,types,.mk rh rp⟩ p (.mk uh us) n')]) h.af.length (e + 1) (e + 1),(bw 3 rfl (by repeat' (first | exact rfl | exact ah rfl | exact ap (ei av (by omega)) | exact gw (oK _ _) rfl | refine ⟨_,_,rfl,?_,?_⟩)) rfl rfl rfl (by repeat' (first | exact trivial | exact ah rfl | exact ap (ei av (by omega)) | exact gw (oK _ _) rfl | refine ⟨⟨_,rfl,?_⟩,?_⟩))),
    ps.len - (e + 1),by omega,e + 1,_,_,_,K ++ (if p.bare then [] else ndsT X.lev ⟨ae,order,types,.mk rh rp⟩ (.mk uh us) n'),rfl,by omega,?_,?_,?_,?_,?_,?_,vn,rfl⟩
   ·rw [List.length_append,BH];omega
   ·rw [cI];simp [c6]
   ·simp [Eh]
   ·rw [List.length_append,DY,List.append_assoc,Cu];exact hK
   ·rw [List.length_append,DY,List.append_assoc,Cu];exact DX
   ·rw [List.length_append,DY];omega
  ·have ch:e=ps.len:=by have:=hL;simp [aN] at this;omega
   subst ch;rw [Pts.cR] at hK DX;simp only [nb,List.append_nil] at hK;simp only [edsP,List.append_nil] at DX;have hKl:K.length=ps.nn:=by rw [hK,nc]
   have J9:(List.replicate n' ([]:List DV)).length=n':=List.length_replicate;refine v7 (kt:=0) ⟨rfl,rfl⟩ ⟨rfl,rfl,rfl⟩ ⟨rfl,rfl,rfl⟩ rfl rfl rfl rfl rfl rfl rfl rfl rfl rfl rfl J9 ⟨by omega,by omega⟩ (by decide) ?_;have GV:n + (ndsT X.lev ⟨ae,order,types,.mk rh rp⟩ (.mk h ps) n).length=n':=by rw [wo,List.length_cons,<- hK,BH];omega
   have l5:jZ.set ((n:Int).toNat * 7 + 6) (.sl 10 (pS Es) none)=base ++ (c6 (ndsT X.lev ⟨ae,order,types,.mk rh rp⟩ (.mk h ps) n)).flatten:=by
    rw [cI,show (n:Int).toNat=n by omega,A9 hbl,wo,DX,hK];rfl
   refine ⟨.v (.int .i64 n),[bC ⟨ae,order,types,.mk rh rp⟩ (.pt lc 0) (.loc 1 0) m,wZ ⟨ae,order,types,.mk rh rp⟩ ak lc n'],ax,aL,?_,?_,?_⟩
   ·rw [Ba]
   ·rw [GV]
   ·rw [GV,<- l5];rfl
end Go.Proofs.YtfifjddnnmfeoaaGreat
namespace Go.Proofs.YtfifjddnnmfeoaaGreat
namespace Dv
open Go Go.RowKit
section
variable {X:Ctx} {st:St} {k:List It} {E:En} {a:Act} {w:World} {ops:Array Oper} {W:Nat->Bool} {C:World->Prop} {Q:Act->World->Prop} {i:Nat} {r:List Nat} {o:Oper}
theorem dL (hg:o.guard=none):Region.wanted o (yielded ops a.tmps)=true:=by
 unfold Region.wanted;rw [hg]
theorem Bb {bx:List (List DV)} {wr:World} (h:Rel X E st a w) (hE:ll E bx wr) (hC:∀ w',C w' -> CC E bx wr w'):Rl E bx C st.sl a where
 tm:=h.tm
 cr:=fun i cs hi=>by
  by_cases aT:cs=[]
  ·subst aT;have av:i < E.β.length:=by rw [hE.len];exact (gS hi).1
   exact ⟨_,[],gE av,⟨bn _,by simp⟩,fun w' _ j u hj=>by simp at hj⟩
  ·obtain ⟨b,ty,arr,hb,hw,hc⟩:=hE.cr i cs hi aT;exact ⟨b,arr,hb,hc,fun w' h' j u hj=>by rw [bu (((hC w' h').o i b cs hb hi aT).trans hw)];simpa using hj⟩
 cc:=fun x v hx w' h'=>(hC w' h').c x v hx
theorem Bc {bx:List (List DV)} (h:Env E bx w) (m:List Nat):ll E (maskL m 0 bx) w:=⟨by rw [kj];exact h.len,fun i cs hi aT=>by
 rcases kk m _ _ _ _ hi with h1 | h1
 ·exact (aT h1).elim
 ·exact h.cr i cs h1⟩
theorem gn (hR:Rel X E st a w) (ho:ops[i]? = some o) (hE:ia o.op=false) (hL:jr o.op=false) (hg:o.guard=none) {s:DV} (hs:pureT X.P X.T ⟨st.sl,[],[]⟩ [] o.op=some s) (hd:dm X.nt st.sl o.dst=true)
  (hk:∀ a',Rel X E (st.put o.dst ⟨[],s⟩) a' w->runT X.P ops W C Q r a' w):runT X.P ops W C Q (i :: r) a w:=by
 have fi:Rl E [] (fun _=>False) st.sl a:=⟨hR.tm,fun i cs hi=>by simp at hi,fun _ _ _ _ h=>h.elim⟩;obtain ⟨v,hv,bc⟩:=dq (st:=⟨st.sl,[],[]⟩) X.hT fi (aA _) hs;simp only [runT,ho,hE,Bool.false_eq_true,if_false];exact ⟨v,.inl ⟨dL hg,fun w' _=>bc w' fun h=>by rw [hL] at h;cases h⟩,fun h=>(by rw [hL] at h;cases h),hk _ (aP hR hd s v hv)⟩
theorem Bd (hR:Rel X E st a w) (ho:ops[i]? = some o) {bx:List (List DV)} (fi:Rl E bx C st.sl a) (Fq:C w) (hE:ia o.op=false) (hg:o.guard=none) {s:DV} (hs:pureT X.P X.T ⟨st.sl,bx,[]⟩ [] o.op=some s) (hd:dm X.nt st.sl o.dst=true)
  (hk:∀ a',Rel X E (st.put o.dst ⟨[],s⟩) a' w->runT X.P ops W C Q r a' w):runT X.P ops W C Q (i :: r) a w:=by
 obtain ⟨v,hv,bc⟩:=dq (st:=⟨st.sl,bx,[]⟩) X.hT fi (aA _) hs;simp only [runT,ho,hE,Bool.false_eq_true,if_false];exact ⟨v,.inl ⟨dL hg,fun w' h=>bc w' h⟩,fun _=>Fq,hk _ (aP hR hd s v hv)⟩
theorem Be (hR:Rel X E st a w) (ho:ops[i]? = some o) {t x d:Nat} {b p j:Nat} {n:Nat} {kd:TK} {z:List Value} (hb:E.β[j]? = some b) (j2:o.op = .load t (.tmp x)) (eC:o.dst=some d) {i2 tO b2:Nat} (iB:E.β[i2]? = some b2) (hx:rv st [] (.tmp x)=some (.loc i2 p)) (hT:X.T.find t=some ⟨n,false,kd,z⟩)
  (hC:∀ w',C w' -> w'.cell? ⟨b2,p,none⟩=some (.pointer (some ⟨b,tO,none⟩))) (Fq:C w) (hg:o.guard=none) (hd:dm X.nt st.sl (some d)=true)
  (hk:∀ a',Rel X E ⟨(d,⟨[],.loc j tO⟩) :: st.sl,st.bx,st.tk⟩ a' w->runT X.P ops W C Q r a' w):runT X.P ops W C Q (i :: r) a w:=by
 have hE:ia o.op=false:=by rw [j2];all_goals rfl
 simp only [runT,ho,hE,Bool.false_eq_true,if_false];have hv:Rv E (.loc j tO) (.pointer (some ⟨b,tO,none⟩)):=by unfold Rv;exact ⟨b,hb,rfl⟩
 refine ⟨.pointer (some ⟨b,tO,none⟩),.inl ⟨dL hg,fun w' h=>?_⟩,fun _=>Fq,?_⟩
 ·have HL:=hC w' (h (by rw [j2];rfl));have e1:=az hR.rl hx;unfold Rv at e1;obtain ⟨b3,xG,e1⟩:=e1;rw [iB] at xG;simp only [oI] at xG;subst xG;have z8:=(te_parts X.hT hT).2.1
  have hl:(loadVar t ⟨b2,p,none⟩).run X.P w' = .ok (.pointer (some ⟨b,tO,none⟩)) w':=by
   simp [loadVar,eo z8,HL]
  simp only [execOp,j2,e1,Sem.run_bind,Instr.loadAt,Instr.sureAddr,Sem.run_pure,Result.andThen_ok,hl]
 ·rw [eC];exact hk _ (aP hR hd (.loc j tO) _ hv)
theorem wu (hR:Rel X E st a w) (ho:ops[i]? = some o) {dst:Option Nat} {f:Operand} {args:Array Operand} {Ic:Array TypeId} (j2:o.op = .call ⟨.value f,args,Ic⟩) (eC:o.dst=dst) (hg:o.guard=none) {g:FuncId} {ds:List DV} (hf:rv st [] f=some (.fn g [] [])) (hl:argsV st [] args.toList=some ds) (iM:Enters X.P g)
  {K:Value->World->Prop} (hc:∀ vs,RvL E ds vs->Calls X.P g vs.toArray w fun e w'=>∃ v,e = .returned v/\K v w') (hk:∀ v w',K v w' -> (W i=false->C w->C w')/\runT X.P ops W C Q r (a.put dst v) w'):runT X.P ops W C Q (i :: r) a w:=by
 have hE:ia o.op=true:=by rw [j2];all_goals rfl
 have Ie:=dL (ops:=ops) (a:=a) hg;have fi:=hR.rl;have e1:=az fi hf;unfold Rv at e1;obtain ⟨l1,r1,e1,uy,hr1⟩:=e1;simp only [RvL] at uy hr1;subst uy hr1;have hargs:=dp fi (aA _) _ _ hl;simp only [runT,ho,hE,if_true,bR,Ie];subst eC;obtain ⟨dst,op,ty,pos,after,gu⟩:=o;simp only at j2;subst j2
 have hr:(execOp a.eval ⟨dst,.call ⟨.value f,args,Ic⟩,ty,pos,after,gu⟩).run X.P w = .ok (.enter g (args.toList.map a.eval).toArray) w:=by
  have e3:(([]:List Value).toArray ++ args.map a.eval ++ ([]:List Value).toArray)=(args.toList.map a.eval).toArray:=by apply Array.ext';simp
  simp only [execOp,resolve,e1,Deferred.ofValue,Sem.run_bind,Sem.run_pure,Result.andThen_ok,invoke,e3];exact iM _ _
 unfold wq;rw [hr];refine (hc _ hargs).mono ?_;rintro e w' ⟨v,rfl,hK⟩;exact ⟨v,rfl,hk v w' hK⟩
theorem Bf (hR:Rel X E st a w) (ho:ops[i]? = some o) {dst:Option Nat} {f:Operand} {args:Array Operand} {Ic:Array TypeId} (j2:o.op = .call ⟨.value f,args,Ic⟩) (eC:o.dst=dst) (hg:o.guard=none) {g:FuncId} {ds Dm:List DV} (hf:rv st [] f=some (.fn g [] [])) (hl:argsV st [] args.toList=some ds) (iM:Enters X.P g)
  {os:List (List DV)} (n1 m1:Nat) (qC:Nat.ble n1 st.bx.length=true) (eO:Nat.ble m1 st.tk.length=true) (lh:gG [] n1 n1 m1 os (st.bx.take n1)) (ha:CcL [] n1 n1 m1 Dm ds)
  {Φ:DV->List (List DV)->List TkE->Prop} (hc:Ev X.P g Dm os (st.tk.take m1) Φ) (a7:X.still=false) (hX:X.bt=[])
  (hk:∀ v r' eH bF E' w',Φ r' eH bF -> eH.length=n1->bF.length=m1->Rel X E' ⟨st.sl,eH ++ st.bx.drop n1,bF ++ st.tk.drop m1⟩ a w' -> Rv E' r' v->Ext E E' -> E'.β=E.β->(∀ (i:Nat) b,n1<=i->E.β[i]? = some b->w'.heap[b]? = w.heap[b]?) ->
   (W i=false->C w->C w')/\runT X.P ops W C Q r (a.put dst v) w'):runT X.P ops W C Q (i :: r) a w:=by
 refine wu hR ho j2 eC hg hf hl iM (K:=fun v w'=>∃ r' eH bF E',Φ r' eH bF /\ eH.length=n1/\bF.length=m1/\Rel X E' ⟨st.sl,eH ++ st.bx.drop n1,bF ++ st.tk.drop m1⟩ a w' /\ Rv E' r' v/\Ext E E' /\ E'.β=E.β/\∀ (i:Nat) b,n1<=i->E.β[i]? = some b->w'.heap[b]? = w.heap[b]?)
  (fun vs hv=>?_) ?_
 ·refine (rr n1 m1 qC eO lh ha hc a7 hX hR hv).mono ?_;rintro e w' ⟨v,r',eH,bF,E',rfl,h⟩;exact ⟨v,rfl,r',eH,bF,E',h⟩
 ·rintro v w' ⟨r',eH,bF,E',h1,h2,h3,h4,h5,h6,h7,h8⟩;exact hk v r' eH bF E' w' h1 h2 h3 h4 h5 h6 h7 h8
theorem Bg (h:Rel X E st a w) (j o k:Nat) {n ty e:Nat} {wX:List DV} {es ns:List (List DV)} (hq:st.tk[k]? = some ⟨n,ty,e,some ns.flatten⟩) (qf:∀ x∈ns,x.length=e) (lp:ns.length=n) (hj:st.bx[j]? = some wX) (ho:wX[o]? = some (.sl 0 es (some k))) (pf:es.length=n) :
  ∃ E',Rel X E' ⟨st.sl,st.bx.set j (wX.set o (.sl e ns none)),st.tk.set k ⟨n,ty,e,none⟩⟩ a w:=DI hq qf lp hj ho pf E a w h
theorem wv (hR:Rel X E st a w) (ho:ops[i]? = some o) (hE:ia o.op=true) (hg:o.guard=none) (hW:W i=true) (hd:dm X.nt st.sl o.dst=true) {p:Prop} (hp:effC X st o (go X 4000 k)=some p) (h:p):runT X.P ops W C (fun a w=>kq X k .normal a w) [i] a w:=by
 have Ie:=dL (ops:=ops) (a:=a) hg;simp only [runT,ho,hE,if_true,bR,Ie];refine ie ?_ (iK hd hR hp h);rintro a' w' ⟨aK,E',nB,hr,_⟩;exact ⟨(fun h=>by rw [hW] at h;cases h),go_sound 4000 _ _ nB _ _ _ hr⟩
mutual
theorem kC {i j:Nat}:∀ d:DV,renD (swp i j) (renD (swp i j) d)=d
 | .v x=>rfl
 | .ud=>rfl
 | .agg l=>by simp only [renD,ek]
 | .cP l=>by simp only [renD,ek]
 | .sl e es tk=>rfl
 | .pt cs o=>rfl
 | .loc k o=>by simp only [renD,eU]
 | .el k o=>by simp only [renD,eU]
 | .ms k e o l c=>by simp only [renD,eU]
 | .fn g l r=>by simp only [renD,ek]
 | .kJ t x=>by simp only [renD,kC]
theorem ek {i j:Nat}:∀ l:List DV,renL (swp i j) (renL (swp i j) l)=l
 | []=>rfl
 | d :: r=>by simp only [renL,kC,ek]
end
theorem oM {i j:Nat}:∀ l:List (Nat × Sl),renS (swp i j) (renS (swp i j) l)=l
 | []=>rfl
 | (k,⟨gs,s⟩) :: r=>by simp only [renS,kC,oM]
theorem oN {i j:Nat}:∀ l:List (List DV),renO (swp i j) (renO (swp i j) l)=l
 | []=>rfl
 | c :: r=>by simp only [renO,ek,oN]
theorem zb {i j:Nat} (f:Nat->Nat) (l:List (List DV)) (hi:i < l.length) (hj:j < l.length):renO f (swL i j l)=swL i j (renO f l):=by
 apply List.ext_getElem?;intro k;rw [jF,b9 hi hj,b9 (by rw [bJ];exact hi) (by rw [bJ];exact hj),jF]
theorem rL {i j:Nat} {S:St} (hi:i < S.bx.length) (hj:j < S.bx.length):cE i j (cE i j S)=S:=by
 obtain ⟨sl,bx,tk⟩:=S;simp only [cE,oM];rw [zb _ _ (by rw [bJ];exact hi) (by rw [bJ];exact hj),oN];congr 1;apply List.ext_getElem?;intro k;rw [b9 (by rw [bi];exact hi) (by rw [bi];exact hj),b9 hi hj,eU]
theorem dh.GW {f:FuncId} {args:List DV} {dst:Option Nat} (i j:Nat) (wN:Nat.ble X.n0 i=true) (qc:Nat.ble X.n0 j=true) (hi:Nat.blt i st.bx.length=true) (hj:Nat.blt j st.bx.length=true)
  (h:dh X f (renL (swp i j) args) dst k (cE i j st)) (hX:X.bt=[]:=by exact rfl):dh X f args dst k st:=by
 have fm:=hi;have dN:=hj;simp only [Nat.blt_eq] at fm dN;have hl:(cE i j st).bx.length=st.bx.length:=by simp only [cE,bi,bJ]
 exact dh.sU i j (rL fm dN).symm (ek args).symm wN qc (by rw [hl];exact hi) (by rw [hl];exact hj) h hX
theorem tP {P:Program} {t e:TypeId} (hu:P.underlying t=some (.slice e)) (d:Nat) (x:Option Addr) (n c:Nat) (w:World):(Op.equalIn (d + 1) t (.slice x n c) (.slice none 0 0)).run P w = .ok x.isNone w:=by
 cases x<;>simp [Op.equalIn,run_underlying hu]
theorem rM {P:Program} {t e:TypeId} (hu:P.underlying t=some (.slice e)) (x:Option Addr) (n c:Nat) (w:World):(Op.equal t (.slice x n c) (.slice none 0 0)).run P w = .ok x.isNone w:=tP hu 9999 x n c w
theorem zc {t d e:Nat} {x:Operand} {es:List (List DV)} {tk:Option Nat} {n et e' fh:Nat} {bb:Bool} {z:List Value} (j2:∃ t',o.op = .binOp .eql t x (.const (.slice none 0 0)) t') (eC:o.dst=some d) (hx:rv st [] x=some (.sl e es tk)) (hT:X.T.find t=some ⟨n,bb,.sl et e' fh,z⟩) (hd:dm X.nt st.sl (some d)=true)
  (hk:∀ b:Bool,(es ≠ []->b=false)->go X 4000 k ⟨(d,⟨[],.v (.bool b)⟩) :: st.sl,st.bx,st.tk⟩):CA X o k st:=by
 intro E a w h;obtain ⟨t',j2⟩:=j2;have e1:=az h.rl hx;unfold Rv at e1;obtain ⟨b,m,cap,e1,⟨rfl,_⟩,hr,_⟩:=e1;obtain ⟨hu,_⟩:=cz X.hT hT;have bd:=rM hu b es.length cap w
 have bc:(execOp a.eval o).run X.P w = .ok (.value (.bool b.isNone)) w:=by
  have hc:a.eval (.const (.slice none 0 0)) = .slice none 0 0:=rfl;simp [execOp,j2,e1,hc,eqGuard,binOp,bd]
 refine fp bc ?_;rw [eC];refine go_sound 4000 _ _ (hk b.isNone fun aT=>?_) E _ w (aP h hd (.v (.bool b.isNone)) _ (by unfold Rv;exact ⟨rfl,rfl⟩));have:=iJ (hr aT).1;rw [this];rfl
theorem GX {t d et e fh n:Nat} {bb:Bool} {z:List Value} (j2:o.op = .buildSlice t 0 #[]) (eC:o.dst=some d) (hT:X.T.find t=some ⟨n,bb,.sl et e fh,z⟩) (hd:dm X.nt st.sl (some d)=true) (a7:X.still=false:=by exact rfl) (hX:X.bt=[]:=by exact rfl) :
  IX X o st ⟨(d,⟨[],.sl e [] (some st.tk.length)⟩) :: st.sl,st.bx,st.tk ++ [⟨0,et,e,none⟩]⟩:=by
 intro E a w h;obtain ⟨hu,ii,zv,qd,hz,bQ,tZ,xd⟩:=cz X.hT hT;have lj:dB X.P et=some e:=by rw [cQ qd,bQ]
 have bc:(execOp a.eval o).run X.P w = .ok (.value (.slice (some ⟨w.heap.size,0,none⟩) 0 0)) (w.alloc (.cells #[] et)):=by
  have h1:(Instr.buildSlice t 0 #[]).run X.P w = .ok (.slice (some ⟨w.heap.size,0,none⟩) 0 0) (w.alloc (.cells #[] et)):=by
   have h0:Array.range 0 = #[]:=rfl;simp [Instr.buildSlice,run_underlying hu,au lj,Instr.fill,newRow,h0]
  simp only [execOp,j2,List.map_toArray,List.map_nil,Sem.run_bind,h1,Result.andThen_ok,Sem.run_pure]
 refine cg bc ?_;rw [eC];have ki:=h.env.ew (w':=w.alloc (.cells #[] et)) fun i hi=>alloc_old w _ hi
 let E2:En:=⟨E.c,E.β,E.tk ++ [⟨0,et,e,none⟩],E.τ ++ [.slice (some ⟨w.heap.size,0,none⟩) 0 0]⟩
 have hext:Ext E E2:=⟨fun _ _ h=>h,fun _ _ h=>h,fun k q' hk=>by
  have av:=(gS hk).1;refine ⟨q',by show (E.tk ++ _)[k]? = _;rw [List.getElem?_append_left av];exact hk,.inl ⟨rfl,?_⟩⟩;show (E.τ ++ _)[k]? = _
  rw [List.getElem?_append_left (by rw [h.env.tl];exact av)]⟩
 have hτ:∀ (k:Nat) y,E2.τ[k]? = some y->(k < E.τ.length/\E.τ[k]? = some y)∨(k=E.τ.length/\y = .slice (some ⟨w.heap.size,0,none⟩) 0 0):=fun k y hy=>by
  have hy:(E.τ ++ [Value.slice (some ⟨w.heap.size,0,none⟩) 0 0])[k]? = some y:=hy;rw [List.getElem?_append] at hy;split at hy
  ·rename_i hk;exact .inl ⟨hk,hy⟩
  ·rename_i hk
   have h0:k - E.τ.length=0:=by
    rcases Nat.eq_zero_or_pos (k - E.τ.length) with h0 | h0
    ·exact h0
    ·rw [List.getElem?_eq_none (by simp;omega)] at hy;cases hy
   rw [h0] at hy;simp only [List.getElem?_cons_zero,oI] at hy;exact .inr ⟨by omega,hy.symm⟩
 have dc:∀ (k:Nat) y g,E.τ[k]? = some y->y.ownBlock=some g->g < w.heap.size:=fun k y g hy hg=>(h.env.own (mG hy) hg).1
 have bg:Rel X E2 ⟨st.sl,st.bx,st.tk ++ [⟨0,et,e,none⟩]⟩ a (w.alloc (.cells #[] et)):=by
  refine bO h hext ?_ (by show E.tk ++ _=_;rw [h.tk]) ?_ (h.fr.alloc _) (jx a7) (.nil hX)
  ·exact {
    len:=h.env.len
    tl:=by show (E.τ ++ _).length=(E.tk ++ _).length;simp [h.env.tl]
    cr:=fun i cs hi=>by
     obtain ⟨b,t,arr,hb,hw,hc⟩:=ki.cr i cs hi;exact ⟨b,t,arr,hb,hw,hc.mono hext⟩
    inj:=h.env.inj
    sub:=ki.sub
    pc:=h.env.pc
    bI:=fun k q' y LG hy=>by
     rcases hτ k y hy with ⟨av,dM⟩ | ⟨rfl,rfl⟩
     ·have dW:(E.tk ++ [⟨0,et,e,none⟩])[k]? = some q':=LG;rw [List.getElem?_append_left (by rw [<- h.env.tl];exact av)] at dW;exact ki.bI k q' y dW dM
     ·have dW:(E.tk ++ [⟨0,et,e,none⟩])[E.τ.length]? = some q':=LG;rw [List.getElem?_append_right (by rw [h.env.tl];exact Nat.le_refl _),h.env.tl] at dW;simp only [Nat.sub_self,List.getElem?_cons_zero,oI] at dW;subst dW;refine .inr ⟨w.heap.size,0,#[],rfl,hU w _,⟨by simp,jl.none rfl⟩,Nat.le_refl _,Nat.zero_le _,fun hm=>?_,fun x v hx uo=>?_⟩
      ·have:=h.env.aG hm;omega
      ·have:=World.block_lt_of_cell? w x (h.env.sub x v hx);omega
    eL:=fun k k' y y' g wO hy dM hg si=>by
     rcases hτ k y hy with ⟨_,wP⟩ | ⟨rfl,rfl⟩
     ·rcases hτ k' y' dM with ⟨_,iz⟩ | ⟨rfl,rfl⟩
      ·exact h.env.eL k k' y y' g wO wP iz hg si
      ·have:=dc k y g wP hg;simp only [Value.ownBlock,oI] at si;omega
     ·rcases hτ k' y' dM with ⟨_,iz⟩ | ⟨rfl,rfl⟩
      ·have:=dc k' y' g iz si;simp only [Value.ownBlock,oI] at hg;omega
      ·exact wO rfl }
  ·exact {
    c:=h.nw.c
    cn:=h.nw.cn
    β:=h.nw.β
    tk:=fun j q0 y0 sB va=>by
     obtain ⟨q',y',h1,h2,h3⟩:=h.nw.tk j q0 y0 sB va;exact ⟨q',y',by show (E.tk ++ _)[j]? = _;rw [List.getElem?_append_left (gS h1).1];exact h1,by show (E.τ ++ _)[j]? = _;rw [List.getElem?_append_left (gS h2).1];exact h2,h3⟩
    tn:=fun j y g hj hy hg=>by
     rcases hτ j y hy with ⟨_,wP⟩ | ⟨_,rfl⟩
     ·exact h.nw.tn j y g hj wP hg
     ·simp only [Value.ownBlock,oI] at hg;have:=h.fr.size;omega
    l0:=h.nw.l0 }
 refine ⟨E2,aP bg hd (.sl e [] (some st.tk.length)) _ ?_,hext,⟨[],by simp [E2]⟩,fun i b hb _=>alloc_old w _ (h.env.aG (mG hb))⟩;unfold Rv;refine ⟨_,0,0,rfl,⟨rfl,Nat.le_refl _⟩,fun hn=>(hn rfl).elim,fun k' dW=>?_⟩;cases dW;refine ⟨⟨0,et,e,none⟩,?_,Nat.le_refl _,fun _=>?_⟩
 ·show (E.tk ++ _)[st.tk.length]? = _;rw [h.tk];simp
 ·show (E.τ ++ _)[st.tk.length]? = _;rw [<- h.tk,<- h.env.tl];simp
theorem rN {t d et e fh n:Nat} {bb:Bool} {z:List Value} (j2:o.op = .buildSlice t 0 #[]) (eC:o.dst=some d) (hT:X.T.find t=some ⟨n,bb,.sl et e fh,z⟩) (hd:dm X.nt st.sl (some d)=true) (a7:X.still=false:=by exact rfl) (hX:X.bt=[]:=by exact rfl)
  (hk:go X 4000 k ⟨(d,⟨[],.sl e [] (some st.tk.length)⟩) :: st.sl,st.bx,st.tk ++ [⟨0,et,e,none⟩]⟩):CA X o k st:=(GX j2 eC hT hd a7 hX).g hk
end
end Dv
end Go.Proofs.YtfifjddnnmfeoaaGreat
set_option maxRecDepth 100000
namespace Go.Proofs.YtfifjddnnmfeoaaGreat
open Go Go.RowKit Dv Tryz
theorem tQ {l:List Wd} {o:List (Wd × Wd)} (h:(latF l o).1=0):(fC l o).1=0/\(enumL l 0 l).1=0/\(numF (al l) o).1=0/\bm (mN l.length (eP l.length (cC (al l) o))) l.length=none/\bm (jS (eP l.length (cC (al l) o)) l.length) l.length=none:=by
 unfold latF at h;split at h
 ·rename_i h1;exact (h1 h).elim
 ·rename_i h1;split at h
  ·rename_i h2;exact (h2 h).elim
  ·rename_i h2;split at h
   ·rename_i h3;exact (h3 h).elim
   ·rename_i h3;refine ⟨by simpa using h1,by simpa using h2,by simpa using h3,?_⟩;split at h
    ·cases h
    ·rename_i h4;refine ⟨h4,?_⟩;split at h
     ·cases h
     ·rename_i h5;exact h5
theorem dV {p:Nat->Bool} {n:Nat} (h:bm p n=none):∀ a,a < n->p a=false:=by
 intro a ha;unfold bm at h;rw [List.find?_eq_none] at h;have:=h a (by simpa using ha);simpa using this
theorem nf {l:List Wd} {o:List (Wd × Wd)} (h:(latF l o).1=0):gV (eP l.length (cC (al l) o)) l.length/\l.length<=32:=by
 obtain ⟨h1,h2,h3,h4,h5⟩:=tQ h;have hP:=pK h3;rw [dK] at hP
 have wW:l ≠ []:=by
  rintro rfl;simp [fC] at h1
 have LH:l.length<=32:=by
  rcases Nat.lt_or_ge 32 l.length with h | h
  ·simp [fC,wW,h] at h1
  ·exact h
 have DN:∀ a b,a < l.length->b < l.length->gT (eP l.length (cC (al l) o)) l.length a b=false:=by
  have key:∀ a b,a<=b->b < l.length->gT (eP l.length (cC (al l) o)) l.length a b=false:=fun a b qg hb=>by
   have:=dV h5 b hb;unfold jS at this;rw [List.any_eq_false] at this;have:=this a (by simp;omega);simpa using this
  intro a b ha hb;rcases Nat.le_total a b with h | h
  ·exact key a b h hb
  ·have:=key b a h ha;unfold gT at this ⊢;rw [mQ,mR];exact this
 refine ⟨{
  pos:=List.length_pos_iff.2 wW
  rfl':=fun a ha=>ow hP ha
  tr:=fun a b c ha hb hc=>tp hP ha hb hc
  GK:=fun a b ha hb h6 h7=>by
   have:=dV h4 a ha;unfold mN at this;rw [List.any_eq_false] at this;have:=this b (by simpa using hb);simp only [Bool.and_eq_true,decide_eq_true_eq,not_and] at this;rcases Nat.lt_trichotomy a b with h8 | h8 | h8
   ·exact (this (by omega) h6 h7).elim
   ·exact h8
   ·exact (this (by omega) h6 h7).elim
  jn:=fun a b ha hb=>by
   have:=DN a b ha hb;unfold gT at this;simp only [Bool.or_eq_false_iff,Option.isNone_eq_false_iff] at this;exact Option.isSome_iff_exists.1 this.1
  mt:=fun a b ha hb=>by
   have:=DN a b ha hb;unfold gT at this;simp only [Bool.or_eq_false_iff,Option.isNone_eq_false_iff] at this
   exact Option.isSome_iff_exists.1 this.2 },LH⟩
def dz (s:Sch) (ak:List Nat) (js:List Int):Lx:=⟨al s.ae,ak,closeR (cp s.ae.length (cC (al s.ae) s.order)) s.ae.length,js,eP s.ae.length (cC (al s.ae) s.order)⟩
theorem Bh {s:Sch} {d:DV} (h:(latF s.ae s.order).1=0) (hd:DO s.ae s.order d) (hw:s.ae.length<=1099511627776):∃ ak js,(dz s ak js).OK/\d=(dz s ak js).pd:=by
 obtain ⟨ak,js,hT,fj,nQ,lI,rfl⟩:=hd;obtain ⟨h1,h2⟩:=nf h;refine ⟨ak,js,⟨hT,by show ak.length<=_;omega,?_,?_,?_⟩,rfl⟩
 ·show gV _ (al s.ae).length;rw [dK];exact h1
 ·show (al s.ae).length<=32;rw [dK];exact h2
 ·show ∀ x y,x < (al s.ae).length->y < (al s.ae).length->JM _ (al s.ae).length js x y;rw [dK];exact lI
def eK (s:Sch) (l:List Wd):Int:=tC (eP s.ae.length (cC (al s.ae) s.order)) (al s.ae) l
def lv (s:Sch) (t:Ty):Ft:=knT ⟨al s.ae,[],[],[],fun _ _=>false⟩ (tL s) t
mutual
theorem oO {X Y:Lx} (h:X.af=Y.af) (L:List ByteArray):∀ t:Ty,knT X L t=knT Y L t
 | .mk h1 ps=>by rw [knT,knT,oP h L ps]
theorem oP {X Y:Lx} (h:X.af=Y.af) (L:List ByteArray):∀ ps:Pts,knP X L ps=knP Y L ps
 | .nil=>by rw [knP,knP]
 | .cons p t r=>by
  rw [knP,knP,oP h L r,oO h L t];unfold Lx.bad;rw [h]
end
theorem DZ (s:Sch) (ak:List Nat) (js:List Int) (t:Ty):knT (dz s ak js) (tL s) t=lv s t:=oO (X:=dz s ak js) (Y:=⟨al s.ae,[],[],[],fun _ _=>false⟩) rfl (tL s) t
def jc (s:Sch):Ft:=
 if (latF s.ae s.order).1≠0 then latF s.ae s.order
 else if (dy s).1≠0 then dy s
 else if (eaR s.root s.types 0).1.1≠0 then (eaR s.root s.types 0).1
 else if (eaL (lv s) (lv s s.root) s.types).1≠0 then eaL (lv s) (lv s s.root) s.types
 else loopF s
def ndsAll (lev:List Wd->Int) (s:Sch):List (Wd × Ty)->Nat->List Nd
 | [],_=>[]
 | x :: r,k=>ndsT lev s x.2 k ++ ndsAll lev s r (k + x.2.nn)
def ng (s:Sch):List Nd:=ndsAll (eK s) s s.types 0
def cf (s:Sch):List Nd:=ng s ++ ndsT (eK s) s s.root (ng s).length
def lM (s:Sch):Int:=pT s s.root (ng s).length
def Cv (s:Sch) (ak fg:List Nat) (js:List Int):List DV:=
 [(dz s ak js).pd,.sl 7 (c6 (cf s)) none,.v (.int .i64 (lM s)),.pt (bA (tL s) fg) 0,.sl 1 (dInts (namedL s)) none]
def zd (s:Sch) (d:DV):Prop:=∃ ak fg js,(dz s ak js).OK/\di (tL s) fg/\fg.length<=s.types.length/\d = .pt (Cv s ak fg js) 0
def tR (s:Sch) (r:DV) (_:List (List DV)) (_:List TkE):Prop:=
 if (jc s).1≠0 then r = .cP [.v (.pointer none),(jc s).d] else ∃ d,zd s d/\r = .cP [d,Ft.d (0,0)]
theorem gX {s:Sch} {f:Ft} {os:List (List DV)} {tk:List TkE} (h:jc s=f) (hf:f.1≠0):tR s (.cP [.v (.pointer none),f.d]) os tk:=by
 unfold tR;rw [h,if_pos hf]
theorem Bi {s:Sch} {d:DV} {os:List (List DV)} {tk:List TkE} (h:(jc s).1=0) (hd:zd s d):tR s (.cP [d,Ft.d (0,0)]) os tk:=by
 unfold tR;rw [if_neg (by rw [h];simp)];exact ⟨d,hd,rfl⟩
theorem ze {F:Ty->Ft} {z:Ft}:∀ {l:List (Wd × Ty)},(eaL F z l).1=0->z.1=0/\∀ x∈l,(F x.2).1=0
 | [],h=>⟨h,fun x hx=>by cases hx⟩
 | x :: r,h=>by
  rw [eaL] at h;split at h
  ·rename_i h1;exact (h1 h).elim
  ·rename_i h1;obtain ⟨h2,h3⟩:=ze h;refine ⟨h2,fun y hy=>?_⟩;rcases List.mem_cons.1 hy with rfl | hy
   ·simpa using h1
   ·exact h3 y hy
theorem zf {z:Ty}:∀ {l:List (Wd × Ty)} {m:Int},0<=m->(eaR z l m).1.1=0->(wrong z 1 0).1.1=0/\(∀ x∈l,(wrong x.2 1 0).1.1=0)/\(eaR z l m).2=m + ((l.map fun x=>x.2.cnt).sum + z.cnt:Nat)/\(eaR z l m).2<=512
 | [],m,_,h=>by
  rw [eaR] at h ⊢;obtain ⟨h1,h2,h3,_⟩:=iv h;exact ⟨h3,(fun x hx=>by cases hx),(by simp [h1]),h2⟩
 | x :: r,m,hm,h=>by
  rw [eaR] at h ⊢;split at h
  ·rename_i h1;exact (h1 h).elim
  ·rename_i h1;rw [if_neg h1];obtain ⟨g1,g2,g3,_⟩:=iv (by simpa using h1);obtain ⟨h2,h3,h4,h5⟩:=zf (by omega) h;refine ⟨h2,fun y hy=>?_,(by rw [h4,g1];simp only [List.map_cons,List.sum_cons];omega),h5⟩;rcases List.mem_cons.1 hy with rfl | hy
   ·exact g3
   ·exact h3 y hy
theorem nh (lev:List Wd->Int) (s:Sch):∀ (l:List (Wd × Ty)) (k:Nat),(ndsAll lev s l k).length=(l.map fun x=>x.2.nn).sum
 | [],_=>rfl
 | x :: r,k=>by simp only [ndsAll,List.length_append,fG,nh lev s r,List.map_cons,List.sum_cons]
theorem ni:∀ l:List (Wd × Ty),(l.map fun x=>x.2.nn).sum<=(l.map fun x=>x.2.cnt).sum
 | []=>Nat.le_refl _
 | x :: r=>by
  have:=x.2.dT;have:=ni r;simp only [List.map_cons,List.sum_cons];omega
theorem oQ:∀ l:List Nd,(c6 l).flatten.length=l.length * 7
 | []=>rfl
 | a :: r=>by
  have:=oQ r;simp only [c6,List.map_cons,List.flatten_cons,List.length_append,List.length_cons] at this ⊢;rw [this];simp only [lu,List.length_cons,List.length_nil];omega
theorem Bj {X:Lx} {s:Sch} {t:Ty} (h:(knT X (tL s) t).1=0):wg s t=true:=by
 obtain ⟨hd,ps⟩:=t;have:=(nd h).1;unfold wg;exact decide_eq_true this
theorem rO {s:Sch} (h:(loopF s).1=0):∀ i,i < s.types.length->∃ k,endI s (s.types.length + 1) i=some k:=by
 intro i hi;unfold loopF at h;split at h
 ·rename_i h1;have:=dV h1 i hi;simp only [Option.isNone_eq_false_iff] at this;exact Option.isSome_iff_exists.1 this
 ·cases h
abbrev zg (s:Sch) (ak:List Nat) (lc:List DV) (m:Int) (f1 f2:Int) (n:Nat) (base:List DV) (e:Nat):St:=
 ⟨[(1,⟨[],.loc 4 0⟩),(3,⟨[],.loc 3 0⟩),(6,⟨[],.loc 0 0⟩),(59,⟨[],.sl 11 (dNms s.types) none⟩),(60,⟨[],.v (.int .i64 (dNms s.types).length)⟩),(61,⟨[],.v (.int .i64 e)⟩)],
  [bC s (.pt lc 0) (.loc 1 0) m,wZ s ak lc n,[.v (.int .i64 f1),.v (.int .i64 f2)],[.v (.int .i64 0),.v (.int .i64 0)],Gx s],[tN n base]⟩
theorem tS (s:Sch) (hs:s.wt<=1099511627776):Ev Tryz.prog 16 [.agg (Gx s)] [] [] (tR s):=by
 have hF:=jc.eq_1 s;have hw:=hs;simp only [Sch.wt] at hw;have hwl:=bT s.ae;have Ie:=kv s.types;have AJ:=rA s.ae s.order (by omega) (by omega);have lm:=fun lc=>pQ s lc (by omega)
 have cm:∀ t,(t=s.root∨∃ x∈s.types,t=x.2)->t.wt<=1099511627776:=fun t ht=>by
  rcases ht with rfl | ⟨x,hx,rfl⟩
  ·omega
  ·have:=fB hx;omega
 have GY:=fun lc ak=>tI s lc ak 0 (by omega) (by omega) (by omega) cm;have GZ:=fun (X:Lx) (hX:X.OK) (ak:List Nat) (hT:di (tL s) ak) (fj:ak.length<=1099511627776) (m:Int)=>wh s X.pd (tH s ak (c7 X.af (bA X.af X.ak) X.rows X.js)) m (by omega) 47 Dj (knT X (tL s)) (fun t ht=>na hX s ak (.pt (c7 X.af (bA X.af X.ak) X.rows X.js) 0) (.v (.slice none 0 0)) (.v (.int .i64 0)) (.v (.slice none 0 0)) m hT fj t.wt t (Nat.le_refl _) (cm t ht))
 have D0:(dy s).1=0->s.types.length<=64:=fun h=>by
  unfold dy at h;split at h
  ·cases h
  ·omega
 have hLx:=fun d h hd=>@Bh s d h hd (by omega);have Cw:=fun (lat:DV) (ak:List Nat) (a b c e0:DV) (m:Int)=>tF s lat ak a b c e0 m;have zh:=fun (lc:List DV) (ak:List Nat) (m:Int)=>rK s lc ak m;have oJ:=fun (X:Lx) (hX:X.OK) (ak:List Nat) (m:Int) (hT:di (tL s) ak) (fj:ak.length<=1099511627776) (t:Ty) (ht:t.wt<=1099511627776)=>oL hX s ak m hT fj t.wt t (Nat.le_refl _) ht;refine ev_go (P:=Tryz.prog) tt tt_ok 5000 85 [.tmp 2,.cell 3 54] Tryz.func16 rfl Tryz.ntmps16 rfl (nL rfl) (fun E9 w9 hn9 hm9=>?_);generalize hS:s=S at *;obtain ⟨ae,order,types,⟨rh,rp⟩⟩:=s;subst hS;refine cj Jc rfl AJ ax (fun r hr=>?_);by_cases hL:(latF ae order).1≠0
 ·have H6:=hL;rw [if_pos (show (latF (Sch.mk ae order types (.mk rh rp)).ae (Sch.mk ae order types (.mk rh rp)).order).1≠0 from hL)] at hF;unfold tu at hr;rw [if_pos (show (latF (Sch.mk ae order types (.mk rh rp)).ae (Sch.mk ae order types (.mk rh rp)).order).1≠0 from hL)] at hr;subst hr;refine br (fun h=>?_) (fun h=>?_)
  ·refine aV mo (by decide +kernel) ?_;exact ⟨_,ax,gX (os:=[]) (tk:=[]) hF hL⟩
  ·exfalso;simp at h;exact hL h
 unfold tu at hr;rw [if_neg (show ¬ (latF (Sch.mk ae order types (.mk rh rp)).ae (Sch.mk ae order types (.mk rh rp)).order).1≠0 from hL)] at hF hr;obtain ⟨d,hd,rfl⟩:=hr;have hL0:(latF ae order).1=0:=by simpa using hL
 obtain ⟨ak,js,hX,rfl⟩:=hLx d hL0 hd;generalize Ig:dz ⟨ae,order,types,.mk rh rp⟩ ak js=X at hX;refine br (fun h=>?_) (fun _=>?_)
 ·exfalso;simp at h;exact hL h
 refine dh.GW 0 4 rfl rfl rfl rfl (dh.GW 1 3 rfl rfl rfl rfl ?_);refine ef 2 0 Jd rfl rfl rfl aL aL (lm (c7 X.af (bA X.af X.ak) X.rows X.js)) (fun r eH bF hΦ h1 h2=>?_);obtain ⟨rfl,vH⟩:=hΦ;have h2:=List.eq_nil_of_length_eq_zero h2;subst h2;by_cases tK:(dy ⟨ae,order,types,.mk rh rp⟩).1≠0
 ·rw [if_pos tK] at hF
  obtain ⟨a,b,rfl⟩:∃ a b,eH=[a,b]:=by
   match eH,h1 with
   | [a,b],_=>exact ⟨a,b,rfl⟩
  refine br (fun h=>?_) (fun h=>?_)
  ·refine aV mo (by decide +kernel) ?_;exact ⟨_,ax,gX (os:=[]) (tk:=[]) hF tK⟩
  ·exfalso;simp at h;exact tK h
 rw [if_neg tK] at hF;have G0:(dy ⟨ae,order,types,.mk rh rp⟩).1=0:=by simpa using tK
 have zi:=D0 G0;obtain ⟨fg,hT,fj,rfl⟩:=vH G0;refine br (fun h=>?_) (fun _=>?_)
 ·exfalso;simp at h;exact tK h
 refine ef 2 0 FG rfl rfl rfl aL aL (GY (c7 X.af (bA X.af X.ak) X.rows X.js) fg) (fun r eH bF hΦ h1 h2=>?_);obtain ⟨rfl,rfl⟩:=hΦ;have h2:=List.eq_nil_of_length_eq_zero h2;subst h2;by_cases hR:(eaR (.mk rh rp) types 0).1.1≠0
 ·rw [if_pos (show (eaR (Sch.mk ae order types (.mk rh rp)).root (Sch.mk ae order types (.mk rh rp)).types 0).1.1≠0 from hR)] at hF;refine br (fun h=>?_) (fun h=>?_)
  ·refine aV mo (by decide +kernel) ?_;exact ⟨_,ax,gX (os:=[]) (tk:=[]) hF hR⟩
  ·exfalso;simp at h;exact hR h
 rw [if_neg (show ¬ (eaR (Sch.mk ae order types (.mk rh rp)).root (Sch.mk ae order types (.mk rh rp)).types 0).1.1≠0 from hR)] at hF;have hR0:(eaR (.mk rh rp) types 0).1.1=0:=by simpa using hR
 refine br (fun h=>?_) (fun _=>?_)
 ·exfalso;simp at h;exact hR h
 have LI:=GZ X hX fg hT (by have:types.length<=64:=zi;have:fg.length<=types.length:=fj;omega) (eaR (.mk rh rp) types 0).2;have D1:∀ t,knT X (tL ⟨ae,order,types,.mk rh rp⟩) t=lv ⟨ae,order,types,.mk rh rp⟩ t:=fun t=>by rw [<- Ig];exact DZ _ _ _ t
 have D2:eaL (knT X (tL ⟨ae,order,types,.mk rh rp⟩)) (knT X (tL ⟨ae,order,types,.mk rh rp⟩) (.mk rh rp)) types=eaL (lv ⟨ae,order,types,.mk rh rp⟩) (lv ⟨ae,order,types,.mk rh rp⟩ (.mk rh rp)) types:=by
  rw [show knT X (tL ⟨ae,order,types,.mk rh rp⟩)=lv ⟨ae,order,types,.mk rh rp⟩ from funext D1]
 refine uT FG LI ax rfl rfl ?_;by_cases hK:(eaL (lv ⟨ae,order,types,.mk rh rp⟩) (lv ⟨ae,order,types,.mk rh rp⟩ (.mk rh rp)) types).1≠0
 ·rw [if_pos (show (eaL (lv ⟨ae,order,types,.mk rh rp⟩) (lv ⟨ae,order,types,.mk rh rp⟩ (Sch.mk ae order types (.mk rh rp)).root) (Sch.mk ae order types (.mk rh rp)).types).1≠0 from hK)] at hF;refine br (fun h=>?_) (fun h=>?_)
  ·refine aV mo (by decide +kernel) ?_;refine ⟨.cP [.v (.pointer none),(eaL (knT X (tL ⟨ae,order,types,.mk rh rp⟩)) (knT X (tL ⟨ae,order,types,.mk rh rp⟩) (.mk rh rp)) types).d],ax,?_⟩;rw [D2];exact gX (os:=[]) (tk:=[]) hF hK
  ·exfalso;simp only [D2] at h;simp at h;exact hK h
 rw [if_neg (show ¬ (eaL (lv ⟨ae,order,types,.mk rh rp⟩) (lv ⟨ae,order,types,.mk rh rp⟩ (Sch.mk ae order types (.mk rh rp)).root) (Sch.mk ae order types (.mk rh rp)).types).1≠0 from hK)] at hF;have LJ:(eaL (lv ⟨ae,order,types,.mk rh rp⟩) (lv ⟨ae,order,types,.mk rh rp⟩ (.mk rh rp)) types).1=0:=by simpa using hK
 refine br (fun h=>?_) (fun _=>?_)
 ·exfalso;have h:(!decide ((eaL (knT X (tL ⟨ae,order,types,.mk rh rp⟩)) (knT X (tL ⟨ae,order,types,.mk rh rp⟩) (.mk rh rp)) types).1=0))=true:=h;rw [D2,LJ] at h;simp at h
 have sj:wdsWt ae + prsWt order + nmsWt types + (Ty.mk rh rp).wt<=1099511627776:=hw;have Ka:nmsWt types<=1099511627776:=by omega
 obtain ⟨hkr,xy⟩:=ze LJ;have Kb:(knT X (tL ⟨ae,order,types,.mk rh rp⟩) (.mk rh rp)).1=0:=by rw [D1];exact hkr
 have G1:∀ x∈types,(knT X (tL ⟨ae,order,types,.mk rh rp⟩) x.2).1=0:=fun x hx=>by rw [D1];exact xy x hx
 have G2:∀ x∈types,wg ⟨ae,order,types,.mk rh rp⟩ x.2=true:=fun x hx=>Bj (G1 x hx);have Bk:fg.length<=1099511627776:=by have:types.length<=64:=zi;have:fg.length<=types.length:=fj;omega
 refine uT Je (Cw X.pd fg X.pd (.v (.slice none 0 0)) (.v (.int .i64 0)) (.v (.slice none 0 0)) (eaR (.mk rh rp) types 0).2 hT Bk zi G2) ax rfl rfl ?_;by_cases hO:(loopF ⟨ae,order,types,.mk rh rp⟩).1≠0
 ·refine br (fun h=>?_) (fun h=>?_)
  ·refine aV mo (by decide +kernel) ?_;exact ⟨_,ax,gX (os:=[]) (tk:=[]) hF hO⟩
  ·exfalso;simp at h;exact hO h
 have LK:(loopF ⟨ae,order,types,.mk rh rp⟩).1=0:=by simpa using hO
 have hF0:(jc ⟨ae,order,types,.mk rh rp⟩).1=0:=by rw [hF];exact LK
 refine br (fun h=>?_) (fun _=>?_)
 ·exfalso;simp at h;exact hO h
 refine ef 2 0 Jf rfl rfl rfl aL aL (zh (c7 X.af (bA X.af X.ak) X.rows X.js) fg (eaR (.mk rh rp) types 0).2 hT Bk zi G2 Ka (rO LK)) (fun r eH bF hΦ h1 h2=>?_);subst hΦ;have h2:=List.eq_nil_of_length_eq_zero h2;subst h2;clear lm GY GZ Cw zh LI AJ;have hN:(dNms types).length=types.length:=eG types;obtain ⟨LL,A4,hcm,G3⟩:=zf (Int.le_refl 0) hR0;generalize (eaR (.mk rh rp) types 0).2=m at hcm G3 ⊢
 refine aF (fun j st=>∃ (e n:Nat) (base:List DV) (N:List Nd),st=zg ⟨ae,order,types,.mk rh rp⟩ fg (c7 X.af (bA X.af X.ak) X.rows X.js) m (loopF ⟨ae,order,types,.mk rh rp⟩).1 (loopF ⟨ae,order,types,.mk rh rp⟩).2 n base e/\e<=types.length/\n=N.length/\base=(c6 N).flatten/\N ++ ndsAll (eK ⟨ae,order,types,.mk rh rp⟩) ⟨ae,order,types,.mk rh rp⟩ (types.drop e) n=ng ⟨ae,order,types,.mk rh rp⟩/\j=types.length - e) types.length
  (zg ⟨ae,order,types,.mk rh rp⟩ fg (c7 X.af (bA X.af X.ak) X.rows X.js) m (loopF ⟨ae,order,types,.mk rh rp⟩).1 (loopF ⟨ae,order,types,.mk rh rp⟩).2 0 [] 0) (ij 5 ⟨0,125,7,some []⟩ rfl rfl rfl (by repeat' (first | exact rfl | exact ah rfl | exact cK (Nat.le_refl _) rfl | exact cK (Nat.le_refl _) rfl | refine ⟨_,_,rfl,?_,?_⟩)) rfl rfl BM) ⟨0,0,[],[],rfl,by omega,rfl,rfl,rfl,by omega⟩ ?_
 rintro j st ⟨e,n,base,N,rfl,he,hn,BJ,EE,rfl⟩;have LM:types.length<=64:=zi;have G4:X.lev=eK ⟨ae,order,types,.mk rh rp⟩:=by rw [<- Ig];all_goals rfl
 have htot:(ng ⟨ae,order,types,.mk rh rp⟩).length + (Ty.mk rh rp).nn<=512:=by
  have h1:=ni types;have h2:=(Ty.mk rh rp).dT;have h3:(ng ⟨ae,order,types,.mk rh rp⟩).length=(types.map fun x=>x.2.nn).sum:=nh _ _ _ _;omega
 have hbl:base.length=n * 7:=by rw [BJ,hn,oQ]
 have Eo:n + (ndsAll (eK ⟨ae,order,types,.mk rh rp⟩) ⟨ae,order,types,.mk rh rp⟩ (types.drop e) n).length=(ng ⟨ae,order,types,.mk rh rp⟩).length:=by rw [<- EE,List.length_append,hn]
 refine br (fun hL=>?_) (fun hL=>?_)
 ·have av:e < types.length:=by have:=hL;simp [hN] at this;exact this
  obtain ⟨x,hx⟩:∃ x,types[e]? = some x:=⟨_,gE av⟩;have LN:=mG hx;rw [drop_cons hx,ndsAll] at EE Eo;rw [List.length_append] at Eo;have lp:=fG (eK ⟨ae,order,types,.mk rh rp⟩) ⟨ae,order,types,.mk rh rp⟩ x.2 n;have DR:=oJ X hX fg m hT Bk x.2 (cm x.2 (.inr ⟨x,LN,rfl⟩)) (G1 x LN) n base (by omega) hbl;rw [G4] at DR;obtain ⟨xw,⟨xh,xp⟩⟩:=x;refine ⟨_,⟨by omega,dNms_get hx⟩,?_⟩;refine ef 2 1 AG rfl rfl rfl aL aL DR (fun r eH bF hΦ h1 h2=>?_);obtain ⟨rfl,rfl,rfl⟩:=hΦ;refine ⟨zg ⟨ae,order,types,.mk rh rp⟩ fg (c7 X.af (bA X.af X.ak) X.rows X.js) m (loopF ⟨ae,order,types,.mk rh rp⟩).1 (loopF ⟨ae,order,types,.mk rh rp⟩).2 (n + (ndsT (eK ⟨ae,order,types,.mk rh rp⟩) ⟨ae,order,types,.mk rh rp⟩ (.mk xh xp) n).length) (base ++ (c6 (ndsT (eK ⟨ae,order,types,.mk rh rp⟩) ⟨ae,order,types,.mk rh rp⟩ (.mk xh xp) n)).flatten) (e + 1),(bw 5 rfl (KW av) rfl rfl rfl (pj av)),types.length - (e + 1),by omega,e + 1,_,_,N ++ ndsT (eK ⟨ae,order,types,.mk rh rp⟩) ⟨ae,order,types,.mk rh rp⟩ (.mk xh xp) n,rfl,by omega,by rw [List.length_append,hn],by rw [BJ];simp [c6],?_,rfl⟩;rw [List.append_assoc,lp];exact EE
 have ch:e=types.length:=by have:=hL;simp [hN] at this;omega
 subst ch;rw [List.drop_length,ndsAll,List.append_nil] at EE;rw [List.drop_length,ndsAll,List.length_nil,Nat.add_zero] at Eo;have HF:=oJ X hX fg m hT Bk (.mk rh rp) (by omega) Kb n base (by omega) hbl;rw [G4] at HF;intro E a w hr;have fv:=fo hr;obtain ⟨b0,ty0,vf,ed,sG,wS⟩:=fv.env.cr 0 _ rfl;obtain ⟨b1,ty1,arr1,jz,yl,C7⟩:=fv.env.cr 1 _ rfl;obtain ⟨v13,Kc,G5⟩:=RvL.get (i:=13) (d:=.loc 1 0) wS.1 rfl
 have G6:v13 = .pointer (some ⟨b1,0,none⟩):=by
  unfold Rv at G5;obtain ⟨b,hb,rfl⟩:=G5;rw [jz] at hb;simp only [oI] at hb;rw [hb]
 subst G6
 have qG:w.drew.cell? ⟨b0,13,none⟩=some (.pointer (some ⟨b1,0,none⟩)):=by
  rw [bu sG];simpa using Kc
 have C9:=Bc fv.env [0,1,2,3];generalize ko:maskL [0,1,2,3] 0 _=Kd at C9
 have Ke:∀ (i:Nat) cs,Kd[i]? = some cs->cs ≠ []->2<=i:=fun i cs hi aT=>by
  rw [<- ko] at hi
  match i,hi with
  | 0,hi=>exact (aT (by simpa [maskL] using hi.symm)).elim
  | 1,hi=>exact (aT (by simpa [maskL] using hi.symm)).elim
  | i + 2,_=>omega
 refine eZ (C:=fun w'=>CC E Kd w.drew w' /\ w'.cell? ⟨b0,13,none⟩=some (.pointer (some ⟨b1,0,none⟩))) (W:=fun i=>Nat.beq i 10) (Q:=fun a w=>kq _ _ .normal a w) mo (by decide +kernel) (fun _ _ h=>h) ⟨⟨fun _ _ _ _ _ _=>rfl,fv.env.sub⟩,qG⟩ ?_;show Go.Proofs.YtfifjddnnmfeoaaGreat.Dv.runT _ _ _ _ _ [0,1,2,3,4,5,6,7,8,9,10] _ _;refine gn fv rfl rfl rfl rfl rfl rfl (fun a0 h0=>?_);refine gn h0 rfl rfl rfl rfl rfl rfl (fun a1 h1=>?_);refine gn h1 rfl rfl rfl rfl rfl rfl (fun a2 h2=>?_);refine Be h2 rfl jz rfl rfl ed rfl rfl (fun w' h=>h.2) ⟨⟨fun _ _ _ _ _ _=>rfl,fv.env.sub⟩,qG⟩ rfl rfl (fun a3 h3=>?_);refine gn h3 rfl rfl rfl rfl rfl rfl (fun a4 h4=>?_);refine gn h4 rfl rfl rfl rfl rfl rfl (fun a5 h5=>?_);refine Bd h5 rfl (bx:=Kd) (Bb h5 C9 (fun w' h=>h.1)) ⟨⟨fun _ _ _ _ _ _=>rfl,fv.env.sub⟩,qG⟩ rfl rfl (by rw [<- ko];rfl) rfl (fun a6 h6=>?_);refine Bf h6 rfl rfl rfl rfl rfl rfl AG 2 1 rfl rfl aL aL HF rfl rfl ?_;intro v r eH bF E' w' hΦ _ _ bg Ca hx hβ hh;obtain ⟨rfl,rfl,rfl⟩:=hΦ;refine ⟨fun _ hC=>⟨⟨fun i b cs hb bK aT=>?_,fun x v H0=>bg.env.sub x v (hx.c x v H0)⟩,?_⟩,?_⟩
 ·exact hh i b (Ke i cs bK aT) hb
 ·obtain ⟨b0',ty0',LO,D3,Kf,Kg⟩:=bg.env.cr 0 _ rfl;rw [hβ,ed] at D3;simp only [oI] at D3;subst D3;obtain ⟨u13,Kh,G7⟩:=RvL.get (i:=13) (d:=.loc 1 0) Kg.1 rfl;unfold Rv at G7;obtain ⟨b,hb,rfl⟩:=G7;rw [hβ,jz] at hb;simp only [oI] at hb;subst hb;rw [bu Kf];simpa using Kh
 have h7:=aP (dst:=some 77) bg rfl _ v Ca;have Ih:(ng ⟨ae,order,types,.mk rh rp⟩).length=n:=by rw [<- EE,hn]
 have l5:base ++ (c6 (ndsT (eK ⟨ae,order,types,.mk rh rp⟩) ⟨ae,order,types,.mk rh rp⟩ (.mk rh rp) n)).flatten=(c6 (cf ⟨ae,order,types,.mk rh rp⟩)).flatten:=by
  unfold cf;rw [Ih,<- EE,BJ];simp [c6]
 have G8:(c6 (cf ⟨ae,order,types,.mk rh rp⟩)).length=n + (ndsT (eK ⟨ae,order,types,.mk rh rp⟩) ⟨ae,order,types,.mk rh rp⟩ (.mk rh rp) n).length:=by
  unfold cf;rw [Ih];simp [c6,Ih]
 obtain ⟨E3,h8⟩:=Bg h7 1 1 0 (ns:=c6 (cf ⟨ae,order,types,.mk rh rp⟩)) (congrArg (fun b=>some (tN (n + (ndsT (eK ⟨ae,order,types,.mk rh rp⟩) ⟨ae,order,types,.mk rh rp⟩ (.mk rh rp) n).length) b)) l5) (fun x hx=>by
  simp only [c6,List.mem_map] at hx;obtain ⟨y,_,rfl⟩:=hx
  rfl) G8 rfl rfl List.length_replicate
 refine gn h8 rfl rfl rfl rfl rfl rfl (fun a8 h9=>?_);refine gn h9 rfl rfl rfl rfl rfl rfl (fun a9 nR=>?_);refine wv nR rfl rfl rfl rfl rfl rfl ?_;refine ⟨.cP [.pt [X.pd,.sl 7 (c6 (cf ⟨ae,order,types,.mk rh rp⟩)) none,.v (.int .i64 (pT ⟨ae,order,types,.mk rh rp⟩ (.mk rh rp) n)),.pt (bA (tL ⟨ae,order,types,.mk rh rp⟩) fg) 0,.sl 1 (dInts (namedL ⟨ae,order,types,.mk rh rp⟩)) none] 0,Ft.d (0,0)],ax,Bi (os:=[]) (tk:=[]) hF0 ⟨ak,fg,js,by rw [Ig];exact hX,hT,fj,?_⟩⟩;rw [Cv,Ig,lM,Ih]
theorem Bl (es:List (List DV)) (hl:es.length<=1099511627776):Ev Tryz.prog 111 [.sl 1 es none] [] [] (fun r _ _=>r = .sl 1 es none∨(es=[]/\r = .v (.slice none 0 0))):=by
 refine ev_go (P:=Tryz.prog) tt tt_ok 5000 8 [.tmp 2] Tryz.func111 rfl Tryz.ntmps111 rfl (nL rfl) (fun E9 w9 hn9 hm9=>?_);refine zc ⟨_,rfl⟩ rfl rfl rfl rfl (fun b hb=>?_);refine br (fun h=>?_) (fun h=>?_)
 ·have h:b=true:=h;have he:es=[]:=Classical.byContradiction fun hn=>by rw [hb hn] at h;cases h
  subst he;exact Or.inr ⟨rfl,rfl⟩
 ·refine rN rfl rfl rfl rfl (hk:=?_);refine ⟨rfl,⟨by simp [maxLen];omega,by simp;omega⟩,?_⟩;exact ⟨_,ax,Or.inl rfl⟩
theorem Bm (es:List (List DV)) (hl:es.length<=1099511627776):Ev Tryz.prog 112 [.sl 10 es none] [] [] (fun r _ _=>r = .sl 10 es none∨(es=[]/\r = .v (.slice none 0 0))):=by
 refine ev_go (P:=Tryz.prog) tt tt_ok 5000 8 [.tmp 2] Tryz.func112 rfl Tryz.ntmps112 rfl (nL rfl) (fun E9 w9 hn9 hm9=>?_);refine zc ⟨_,rfl⟩ rfl rfl rfl rfl (fun b hb=>?_);refine br (fun h=>?_) (fun h=>?_)
 ·have h:b=true:=h;have he:es=[]:=Classical.byContradiction fun hn=>by rw [hb hn] at h;cases h
  subst he;exact Or.inr ⟨rfl,rfl⟩
 ·refine rN rfl rfl rfl rfl (hk:=?_);refine ⟨rfl,⟨by simp [maxLen];omega,by simp;omega⟩,?_⟩;exact ⟨_,ax,Or.inl rfl⟩
def G9 (lc:List DV) (qp:List Nd) (root:Int) (L:List ByteArray) (ak:List Nat) (named:List Nat):DV:=.pt [.pt lc 0,.sl 7 (c6 qp) none,.v (.int .i64 root),.pt (bA L ak) 0,.sl 1 (dInts named) none] 0
theorem zj (l:List Nd):(c6 l).length=l.length:=by simp [c6]
theorem zk {l:List Nd} {i:Nat} {n:Nd} (h:l[i]? = some n):(c6 l)[i]? = some (lu n):=by simp [c6,h]
section
variable (lc:List DV) (qp:List Nd) (root:Int) (L:List ByteArray) (ak:List Nat) (named:List Nat)
theorem kD:bD Tryz.prog 110 [G9 lc qp root L ak named] (.v (.int .i64 qp.length)):=by
 refine ev_go (P:=Tryz.prog) tt tt_ok 5000 10 [.tmp 2] Tryz.func110 rfl Tryz.ntmps110 rfl (nL rfl) (fun E9 w9 hn9 hm9=>?_);refine (congrArg (fun z=>DV.v (.int .i64 z)) ?_:_=_);rw [zj]
theorem tT:bD Tryz.prog 19 [G9 lc qp root L ak named] (.v (.int .i64 root)):=by
 refine ev_go (P:=Tryz.prog) tt tt_ok 5000 9 [.tmp 2] Tryz.func19 rfl Tryz.ntmps19 rfl (nL rfl) (fun E9 w9 hn9 hm9=>?_);exact (rfl:_=_)
theorem wx:bD Tryz.prog 38 [G9 lc qp root L ak named] (.pt lc 0):=by
 refine ev_go (P:=Tryz.prog) tt tt_ok 5000 9 [.tmp 2] Tryz.func38 rfl Tryz.ntmps38 rfl (nL rfl) (fun E9 w9 hn9 hm9=>?_);exact ⟨_,ax,rfl⟩
theorem tU (i:Nat) (n:Nd) (h:qp[i]? = some n) (hn:n.af.length<=1099511627776) (he:n.fF.length<=1099511627776) :
  bD Tryz.prog 51 [G9 lc qp root L ak named,.v (.int .i64 i)] (.cP [.agg (lu n),.v (.bool true)]):=by
 have av:=(gS h).1;have hlen:=kD lc qp root L ak named;have C7:=Bl (bV n.af) (by rw [aX];exact hn);have jg:=Bm (pS n.fF) (by rw [jX];exact he);refine ev_go (P:=Tryz.prog) tt tt_ok 5000 32 [.cell 4 125,.tmp 5] Tryz.func51 rfl Tryz.ntmps51 rfl (nL rfl) (fun E9 w9 hn9 hm9=>?_);refine call_p BW (hlen) ax rfl ?_;refine br (fun g=>?_) (fun g=>?_)
 ·exfalso;simp [pickB] at g;omega
 refine ⟨_,⟨by omega,zk h⟩,?_⟩;refine aV mo (by decide +kernel) ?_;refine jE FQ rfl C7 ax (fun r1 hr1=>?_);rcases hr1 with rfl | ⟨h1,rfl⟩
 ·refine jE BX rfl jg ax (fun r2 lf=>?_);rcases lf with rfl | ⟨h2,rfl⟩
  ·exact ⟨.cP [.agg (lu n),.v (.bool true)],ax,rfl⟩
  ·exact ⟨.cP [.agg (lu n),.v (.bool true)],(by repeat' (first | exact rfl | exact trivial | exact Or.inr (Or.inl ⟨_,rfl⟩) | exact Or.inr ⟨_,rfl⟩ | exact Or.inl ⟨rfl,rfl⟩ | exact Or.inl rfl | refine Or.inr ⟨_,_,rfl,Nat.zero_le _,rfl,?_⟩ | refine ⟨_,_,rfl,?_,?_⟩ | refine ⟨_,rfl,?_⟩ | exact Or.inl ⟨h2,rfl⟩ | refine Or.inr (Or.inr (Or.inr ⟨_,_,rfl,?_⟩)) | exact Or.inl rfl | refine Or.inr ?_)),rfl⟩
 ·refine jE BX rfl jg ax (fun r2 lf=>?_);rcases lf with rfl | ⟨h2,rfl⟩
  ·exact ⟨.cP [.agg (lu n),.v (.bool true)],(by repeat' (first | exact rfl | exact trivial | exact Or.inr (Or.inl ⟨_,rfl⟩) | exact Or.inr ⟨_,rfl⟩ | exact Or.inl ⟨rfl,rfl⟩ | exact Or.inl rfl | refine Or.inr ⟨_,_,rfl,Nat.zero_le _,rfl,?_⟩ | refine ⟨_,_,rfl,?_,?_⟩ | refine ⟨_,rfl,?_⟩ | exact Or.inl ⟨h1,rfl⟩ | refine Or.inr (Or.inr (Or.inr ⟨_,_,rfl,?_⟩)) | exact Or.inl rfl | refine Or.inr ?_)),rfl⟩
  ·exact ⟨.cP [.agg (lu n),.v (.bool true)],(by repeat' (first | exact rfl | exact trivial | exact Or.inr (Or.inl ⟨_,rfl⟩) | exact Or.inr ⟨_,rfl⟩ | exact Or.inl ⟨rfl,rfl⟩ | exact Or.inl rfl | refine Or.inr ⟨_,_,rfl,Nat.zero_le _,rfl,?_⟩ | refine ⟨_,_,rfl,?_,?_⟩ | refine ⟨_,rfl,?_⟩ | exact Or.inl ⟨h1,rfl⟩ | exact Or.inl ⟨h2,rfl⟩ | refine Or.inr (Or.inr (Or.inr ⟨_,_,rfl,?_⟩)) | exact Or.inl rfl | refine Or.inr ?_)),rfl⟩
theorem tV (i:Int) (h:i < 0∨qp.length<=i) :
  bD Tryz.prog 51 [G9 lc qp root L ak named,.v (.int .i64 i)] (.cP [.agg [.v (.int .i64 0),.v (.int .i64 0),.v (.int .i64 0),.v (.int .i64 0),.v (.int .i64 0),.v (.slice none 0 0),.v (.slice none 0 0)],.v (.bool false)]):=by
 have hlen:=kD lc qp root L ak named;refine ev_go (P:=Tryz.prog) tt tt_ok 5000 32 [.cell 4 125,.tmp 5] Tryz.func51 rfl Tryz.ntmps51 rfl (nL rfl) (fun E9 w9 hn9 hm9=>?_);refine br (fun g=>?_) (fun g=>?_)
 ·refine call_p BW (hlen) ax rfl ?_;refine br (fun g2=>?_) (fun g2=>?_)
  ·exact ⟨_,ax,rfl⟩
  ·exfalso;simp at g;simp [pickB,g] at g2;omega
 ·exact ⟨_,ax,rfl⟩
end
def samePrs:List (Wd × Wd)->List (Wd × Wd)->Bool
 | [],[]=>true
 | x :: r,y :: s=>(decide (x.1.s=y.1.s) && decide (x.2.s=y.2.s)) && samePrs r s
 | _,_=>false
def sameNms:List (Wd × Ty)->List (Wd × Ty)->Bool
 | [],[]=>true
 | x :: r,y :: s=>(decide (x.1.s=y.1.s) && sameTy x.2 y.2) && sameNms r s
 | _,_=>false
def uG (a b:Sch):Bool:=sameWds a.ae b.ae && samePrs a.order b.order && sameTy a.root b.root && sameNms a.types b.types
end Go.Proofs.YtfifjddnnmfeoaaGreat
set_option maxRecDepth 100000
namespace Go.Proofs.YtfifjddnnmfeoaaGreat
open Go Go.RowKit Dv Tryz
end Go.Proofs.YtfifjddnnmfeoaaGreat
set_option maxRecDepth 100000
namespace Go.Proofs.YtfifjddnnmfeoaaGreat
open Go Go.RowKit Dv Tryz
end Go.Proofs.YtfifjddnnmfeoaaGreat
set_option maxRecDepth 100000
namespace Go.Proofs.YtfifjddnnmfeoaaGreat
open Go Go.RowKit Dv Tryz
end Go.Proofs.YtfifjddnnmfeoaaGreat
set_option maxRecDepth 100000
namespace Go.Proofs.YtfifjddnnmfeoaaGreat
open Go Go.RowKit Dv Tryz
end Go.Proofs.YtfifjddnnmfeoaaGreat
set_option maxRecDepth 100000
namespace Go.Proofs.YtfifjddnnmfeoaaGreat
open Go Go.RowKit Dv Tryz
end Go.Proofs.YtfifjddnnmfeoaaGreat
set_option maxRecDepth 100000
namespace Go.Proofs.YtfifjddnnmfeoaaGreat
open Go Go.RowKit Dv Tryz
end Go.Proofs.YtfifjddnnmfeoaaGreat
set_option maxRecDepth 100000
namespace Go.Proofs.YtfifjddnnmfeoaaGreat
open Go Go.RowKit Dv Tryz
end Go.Proofs.YtfifjddnnmfeoaaGreat
set_option maxRecDepth 100000
namespace Go.Proofs.YtfifjddnnmfeoaaGreat
open Go Go.RowKit Dv Tryz
def k0 (S:Sch):List Ty:=S.types.map fun x=>x.2
def iA (S:Sch):List Ty:=k0 S ++ [S.root]
mutual
def flatT:Ty->List Ty
 | .mk h ps=>if h.ai=9 then [] else .mk h ps :: flatP ps
def flatP:Pts->List Ty
 | .nil=>[]
 | .cons p t r=>(if p.bare then [] else flatT t) ++ flatP r
end
mutual
theorem kE:∀ t:Ty,(flatT t).length=t.nn
 | .mk h ps=>by
  have:=oR ps;simp only [flatT,Ty.nn];split
  ·rfl
  ·simp only [List.length_cons];omega
theorem oR:∀ ps:Pts,(flatP ps).length=ps.nn
 | .nil=>rfl
 | .cons p t r=>by
  have:=kE t;have:=oR r;simp only [flatP,Pts.nn,List.length_append];split
  ·simp only [List.length_nil];omega
  ·omega
end
end Go.Proofs.YtfifjddnnmfeoaaGreat
set_option maxRecDepth 100000
namespace Go.Proofs.YtfifjddnnmfeoaaGreat
open Go Go.RowKit Dv Tryz
end Go.Proofs.YtfifjddnnmfeoaaGreat
set_option maxRecDepth 100000
namespace Go.Proofs.YtfifjddnnmfeoaaGreat
open Go Go.RowKit Dv Tryz
end Go.Proofs.YtfifjddnnmfeoaaGreat
set_option maxRecDepth 100000
namespace Go.Proofs.YtfifjddnnmfeoaaGreat
open Go Go.RowKit Dv Tryz
def eaA:List Ty->Int->Ft × Int
 | [],m=>((0,0),m)
 | t :: r,m=>if (aZ t m).1.1≠0 then aZ t m else eaA r (aZ t m).2
theorem zl (z:Ty):∀ (l:List (Wd × Ty)) (m:Int),((eaA (l.map (fun x=>x.2) ++ [z]) m).1.1=0↔(eaR z l m).1.1=0)/\((eaR z l m).1.1≠0->eaA (l.map (fun x=>x.2) ++ [z]) m=eaR z l m)
 | [],m=>by
  show ((eaA [z] m).1.1=0↔(aZ z m).1.1=0)/\((aZ z m).1.1≠0->eaA [z] m=aZ z m);simp only [eaA];by_cases h:(aZ z m).1.1=0
  ·simp [h]
  ·simp [h]
 | x :: r,m=>by
  have ih:=zl z r (aZ x.2 m).2;simp only [List.map_cons,List.cons_append,eaA,eaR];by_cases h:(aZ x.2 m).1.1=0
  ·simp only [h,ne_eq,not_true,if_false];exact ih
  ·simp [h]
def eaK (F:Ty->Ft):List Ty->Ft
 | []=>(0,0)
 | t :: r=>if (F t).1≠0 then F t else eaK F r
theorem zm (F:Ty->Ft) (z:Ty):∀ l:List (Wd × Ty),((eaK F (l.map (fun x=>x.2) ++ [z])).1=0↔(eaL F (F z) l).1=0)/\((eaL F (F z) l).1≠0->eaK F (l.map (fun x=>x.2) ++ [z])=eaL F (F z) l)
 | []=>by
  show ((eaK F [z]).1=0↔(F z).1=0)/\((F z).1≠0->eaK F [z]=F z);simp only [eaK];by_cases h:(F z).1=0
  ·simp [h]
  ·simp [h]
 | x :: r=>by
  have ih:=zm F z r;simp only [List.map_cons,List.cons_append,eaK,eaL];by_cases h:(F x.2).1=0
  ·simp only [h,ne_eq,not_true,if_false];exact ih
  ·simp [h]
theorem zn {F:Ty->Ft}:∀ {l:List Ty},(eaK F l).1=0->∀ t∈l,(F t).1=0
 | [],_,t,ht=>by cases ht
 | u :: r,h,t,ht=>by
  rw [eaK] at h;split at h
  ·rename_i h1;exact (h1 h).elim
  ·rename_i h1;rcases List.mem_cons.1 ht with rfl | ht
   ·simpa using h1
   ·exact zn h t ht
theorem Bn (S:Sch):jc S=if (latF S.ae S.order).1≠0 then latF S.ae S.order
 else if (dy S).1≠0 then dy S
 else if (eaA (iA S) 0).1.1≠0 then (eaA (iA S) 0).1
 else if (eaK (lv S) (iA S)).1≠0 then eaK (lv S) (iA S)
 else loopF S:=by
 have h1:=zl S.root S.types 0;have h2:=zm (lv S) S.root S.types;unfold jc iA k0;by_cases a:(eaR S.root S.types 0).1.1=0
 ·have a':=h1.1.2 a;simp only [a,a',ne_eq,not_true,if_false];by_cases b:(eaL (lv S) (lv S S.root) S.types).1=0
  ·have b':=h2.1.2 b;simp only [b,b',ne_eq,not_true,if_false]
  ·rw [h2.2 b]
 ·rw [h1.2 a];by_cases b:(eaL (lv S) (lv S S.root) S.types).1=0
  ·have b':=h2.1.2 b;simp only [b,b',a,ne_eq,not_true,not_false_eq_true,if_false,if_true]
  ·rw [h2.2 b]
theorem Bo {S:Sch} (hs:S.wt<=1099511627776):∀ t∈iA S,t.wt<=1099511627776:=by
 intro t ht;unfold Sch.wt at hs;rcases List.mem_append.1 ht with h | h
 ·obtain ⟨x,hx,rfl⟩:=List.mem_map.1 h;have:=fB hx;omega
 ·simp only [List.mem_singleton] at h;subst h;omega
end Go.Proofs.YtfifjddnnmfeoaaGreat
set_option maxRecDepth 100000
namespace Go.Proofs.YtfifjddnnmfeoaaGreat
open Go Go.RowKit Dv Tryz
end Go.Proofs.YtfifjddnnmfeoaaGreat
set_option maxRecDepth 100000
namespace Go.Proofs.YtfifjddnnmfeoaaGreat
open Go Go.RowKit Dv Tryz
def Ha (lev:List Wd->Int) (s:Sch) (t:Ty) (k:Nat):Nd:=⟨t.h.ai,t.h.dD,t.h.lo,t.h.hi,t.h.most,al t.h.af,edsP lev s t.ps (k + 1)⟩
mutual
theorem pU (lev:List Wd->Int) (s:Sch):∀ (t:Ty) (k:Nat),ndsT lev s t k=(flatT t).zipIdx.map fun x=>Ha lev s x.1 (k + x.2)
 | .mk h ps,k=>by
  have ih:=pV lev s ps (k + 1);rw [ndsT,flatT];split
  ·rfl
  ·rw [ih,List.zipIdx_cons,List.map_cons];rw [List.zipIdx_succ,List.map_map];refine congr (congrArg List.cons rfl) (List.map_congr_left fun x _=>?_);simp only [Function.comp];congr 1;omega
theorem pV (lev:List Wd->Int) (s:Sch):∀ (ps:Pts) (k:Nat),nb lev s ps k=(flatP ps).zipIdx.map fun x=>Ha lev s x.1 (k + x.2)
 | .nil,k=>rfl
 | .cons p u r,k=>by
  rw [nb,flatP,List.zipIdx_append,List.map_append]
  cases hb:p.bare with
  | true=>
   simp only [if_true,List.zipIdx_nil,List.map_nil,List.nil_append,List.length_nil,Nat.add_zero];exact pV lev s r k
  | false=>
   simp only [Bool.false_eq_true,if_false];rw [pU lev s u k,pV lev s r (k + u.nn),kE];refine congrArg _ ?_;rw [List.zipIdx_eq_map_add (l:=flatP r) (i:=0 + u.nn)];rw [List.map_map];refine List.map_congr_left fun x _=>?_;simp only [Function.comp];congr 1;omega
end
theorem uY {X:Lx} {L:List ByteArray}:∀ {ps:Pts},(knP X L ps).1=0->∀ {p:Ph} {u:Ty},(p,u)∈ps.toList->p.bare=false->(knT X L u).1=0
 | .nil,_,p,u,h,_=>by cases h
 | .cons q v r,hk,p,u,h,hb=>by
  rcases List.mem_cons.1 h with h | h
  ·cases h;exact (kB hk).1 hb
  ·exact uY (kB hk).2 h hb
def ndsA (lev:List Wd->Int) (s:Sch):List Ty->Nat->List Nd
 | [],_=>[]
 | t :: r,k=>ndsT lev s t k ++ ndsA lev s r (k + t.nn)
def lx (l:List Ty):Nat:=(l.map Ty.nn).sum
theorem gY (t:Ty) (l:List Ty):lx (t :: l)=t.nn + lx l:=by simp [lx]
theorem pW (a b:List Ty):lx (a ++ b)=lx a + lx b:=by simp [lx]
theorem nj (lev:List Wd->Int) (s:Sch):∀ (l:List Ty) (k:Nat),(ndsA lev s l k).length=lx l
 | [],_=>rfl
 | t :: r,k=>by simp only [ndsA,List.length_append,fG,nj lev s r,gY]
theorem rP (lev:List Wd->Int) (s:Sch):∀ (a b:List Ty) (k:Nat),ndsA lev s (a ++ b) k=ndsA lev s a k ++ ndsA lev s b (k + lx a)
 | [],b,k=>by simp [ndsA,lx]
 | t :: r,b,k=>by rw [List.cons_append,ndsA,ndsA,rP lev s r b,List.append_assoc,gY,Nat.add_assoc]
theorem nk (lev:List Wd->Int) (s:Sch):∀ (l:List (Wd × Ty)) (k:Nat),ndsAll lev s l k=ndsA lev s (l.map fun x=>x.2) k
 | [],_=>rfl
 | x :: r,k=>by rw [ndsAll,List.map_cons,ndsA,nk lev s r]
theorem zo (s:Sch):(ng s).length=lx (k0 s):=by rw [ng,nk,nj];all_goals rfl
theorem kF (s:Sch):cf s=ndsA (eK s) s (iA s) 0:=by
 unfold cf iA;rw [rP,zo,ng,nk,ndsA,ndsA,List.append_nil,Nat.zero_add];rfl
theorem zp (l:List Ty):∀ e,lx (l.take e)<=lx l:=by
 intro e;have:=pW (l.take e) (l.drop e);rw [List.take_append_drop] at this;omega
theorem D4 (s:Sch):lx (iA s)<=s.wt:=by
 have key:∀ l:List (Wd × Ty),lx (l.map fun x=>x.2)<=nmsWt l:=by
  intro l
  induction l with
  | nil=>exact Nat.le_refl _
  | cons x r ih=>
   have:=x.2.dT;have:=x.2.dr;simp only [List.map_cons,gY,nmsWt];omega
 have h1:=key s.types;have h2:=s.root.dT;have h3:=s.root.dr;unfold iA;rw [pW,gY];unfold Sch.wt k0;simp only [lx,List.map_nil,List.sum_nil] at h1 ⊢;omega
mutual
theorem rQ {X:Lx} {L:List ByteArray}:∀ (t:Ty),(knT X L t).1=0->∀ u∈flatT t,(knT X L u).1=0
 | .mk h ps,hk,u,hu=>by
  rw [flatT] at hu;split at hu
  ·cases hu
  ·rcases List.mem_cons.1 hu with rfl | hu
   ·exact hk
   ·exact rR ps (nd hk).2 u hu
theorem rR {X:Lx} {L:List ByteArray}:∀ (ps:Pts),(knP X L ps).1=0->∀ u∈flatP ps,(knT X L u).1=0
 | .nil,_,u,hu=>by cases hu
 | .cons p v r,hk,u,hu=>by
  rw [flatP] at hu;rcases List.mem_append.1 hu with hu | hu
  ·cases hb:p.bare with
   | true=>rw [hb] at hu;cases hu
   | false=>rw [hb] at hu;exact rQ v ((kB hk).1 hb) u hu
  ·exact rR r (kB hk).2 u hu
end
mutual
theorem rS:∀ (t:Ty),∀ u∈flatT t,u.wt<=t.wt
 | .mk h ps,u,hu=>by
  rw [flatT] at hu;split at hu
  ·cases hu
  ·rcases List.mem_cons.1 hu with rfl | hu
   ·exact Nat.le_refl _
   ·have:=rT ps u hu;simp only [Ty.wt];omega
theorem rT:∀ (ps:Pts),∀ u∈flatP ps,u.wt<=ps.wt
 | .nil,u,hu=>by cases hu
 | .cons p v r,u,hu=>by
  rw [flatP] at hu;simp only [Pts.wt];rcases List.mem_append.1 hu with hu | hu
  ·split at hu
   ·cases hu
   ·have:=rS v u hu;omega
  ·have:=rT r u hu;omega
end
structure zq (S:Sch):Prop where
 lat:(latF S.ae S.order).1=0
 l64:S.types.length<=64
 kn:∀ t∈iA S,(lv S t).1=0
 ends:∀ i,i < S.types.length->∃ k,endI S (S.types.length + 1) i=some k
 wr:∀ t∈iA S,(wrong t 1 0).1.1=0
theorem zr:∀ {l:List Ty} {m:Int},(eaA l m).1.1=0->∀ t∈l,(wrong t 1 0).1.1=0
 | [],_,_,t,ht=>by cases ht
 | u :: r,m,h,t,ht=>by
  rw [eaA] at h;split at h
  ·rename_i h1;exact (h1 h).elim
  ·rename_i h1;rcases List.mem_cons.1 ht with rfl | ht
   ·exact (iv (by simpa using h1)).2.2.1
   ·exact zr h t ht
theorem zs {S:Sch} (h:(jc S).1=0):zq S:=by
 rw [Bn] at h;split at h
 ·rename_i h1;exact (h1 h).elim
 rename_i h1;split at h
 ·rename_i h2;exact (h2 h).elim
 rename_i h2;split at h
 ·rename_i h3;exact (h3 h).elim
 rename_i h3;split at h
 ·rename_i h4;exact (h4 h).elim
 rename_i h4
 exact {
  lat:=by simpa using h1
  l64:=by
   have h2:(dy S).1=0:=by simpa using h2
   unfold dy at h2;split at h2
   ·cases h2
   ·omega
  kn:=zn (by simpa using h4)
  ends:=rO h
  wr:=zr (by simpa using h3) }
def Cx (t:Ty):Prop:=∃ d m,(wrong t d m).1.1=0
def uZ (ai:Int) (p:Ph) (t:Ty):Prop:=(p.bare=true/\ai=8/\sameTy t bl=true/\bz p cS=true)∨(p.bare=false/\(cB p).1=0/\Cx t)
structure Ki (h:Hd) (ps:Pts):Prop where
 k1:1<=h.ai
 k9:h.ai<=9
 own:mC h ps=true
 int:h.ai=2->h.lo<=h.hi
 text:h.ai=3->0<=h.most/\h.most<=4096
 enum:h.ai=4->gf h=(0,0)
 one:h.ai=5∨h.ai=6->∃ p t,ps = .cons p t .nil/\p.name.s=aE/\bz p cM=true/\0<=h.most/\h.most<=1024/\Cx t
 many:h.ai=7∨h.ai=8->ps.len<=64/\(h.ai=8->ps.len≠0)/\∀ i p t,ps.toList[i]? = some (p,t)->aC (pNames ps) i p.name=0/\uZ h.ai p t
theorem D5 {h:Hd} {ps:Pts} (ho:¬ q8 (.mk h ps)=false):mC h ps=true:=by
 rw [uL];cases hb:sameTy (.mk h ps) (mask (.mk h ps))
 ·exact absurd hb ho
 ·rfl
theorem gZ {ai:Int} {all:List Wd}:∀ {ps:Pts} {i:Nat} {d m:Int},(wrongPts ai all i ps d m).1.1=0->(ai=7∨ai=8)->∀ j p t,ps.toList[j]? = some (p,t)->aC all (i + j) p.name=0/\uZ ai p t
 | .nil,i,d,m,_,_,j,p,t,hx=>by simp [Pts.toList] at hx
 | .cons q u r,i,d,m,he,hk,j,p,t,hx=>by
  simp only [wrongPts] at he;by_cases c0:aC all i q.name≠0
  ·rw [if_pos c0] at he;exact absurd he c0
  rw [if_neg c0] at he;have c0:aC all i q.name=0:=by simpa using c0
  have step:∀ d' m',(wrongPts ai all (i + 1) r d' m').1.1=0->uZ ai q u->aC all (i + j) p.name=0/\uZ ai p t:=by
   intro d' m' h hq
   cases j with
   | zero=>
    simp only [Pts.toList,List.getElem?_cons_zero,oI,Prod.mk.injEq] at hx;obtain ⟨rfl,rfl⟩:=hx;exact ⟨c0,hq⟩
   | succ j=>
    simp only [Pts.toList,List.getElem?_cons_succ] at hx;have:=gZ h hk j p t hx
    rwa [show i + 1 + j=i + (j + 1) by omega] at this
  by_cases c1:q.bare=true
  ·rw [if_pos c1] at he;by_cases c2:ai=7∨sameTy u bl=false∨bz q cS=false
   ·rw [if_pos c2] at he;simp at he
   rw [if_neg c2] at he;refine step d m he (.inl ⟨c1,?_,?_,?_⟩)
   ·rcases hk with hk | hk
    ·exact absurd (.inl hk) c2
    ·exact hk
   ·cases hb:sameTy u bl
    ·exact absurd (.inr (.inl hb)) c2
    ·rfl
   ·cases hb:bz q cS
    ·exact absurd (.inr (.inr hb)) c2
    ·rfl
  ·rw [if_neg c1] at he;by_cases c2:(cB q).1≠0
   ·rw [if_pos c2] at he;exact absurd he c2
   rw [if_neg c2] at he;by_cases c3:(wrong u (d + 1) m).1.1≠0
   ·rw [if_pos c3] at he;exact absurd he c3
   rw [if_neg c3] at he;exact step d _ he (.inr ⟨by simpa using c1,by simpa using c2,d + 1,m,by simpa using c3⟩)
theorem zt:∀ {t:Ty},Cx t->Ki t.h t.ps
 | .mk h ps,⟨d,m,he⟩=>by
  simp only [Ty.h,Ty.ps];simp only [wrong] at he;by_cases c0:24 < d
  ·rw [if_pos c0] at he;simp at he
  rw [if_neg c0] at he;by_cases c1:512 < m + 1
  ·rw [if_pos c1] at he;simp at he
  rw [if_neg c1] at he;by_cases c2:h.ai < 1∨9 < h.ai
  ·rw [if_pos c2] at he;simp at he
  rw [if_neg c2] at he;by_cases c3:q8 (.mk h ps)=false
  ·rw [if_pos c3] at he;simp at he
  rw [if_neg c3] at he;by_cases c4:(h.ai=2/\h.hi < h.lo)∨(h.ai=3/\(h.most < 0∨4096 < h.most))
  ·rw [if_pos c4] at he;simp at he
  rw [if_neg c4] at he;by_cases c5:h.ai=9/\bf h.name.s=false
  ·rw [if_pos c5] at he;simp at he
  rw [if_neg c5] at he;refine { k1:=by omega,k9:=by omega,own:=D5 c3,int:=fun h2=>by omega,text:=fun h3=>by omega,enum:=fun h4=>?_,one:=fun h5=>?_,many:=fun h7=>?_ }
  ·rw [if_pos h4] at he;exact oe h he
  ·rw [if_neg (by omega),if_pos h5] at he
   match ps,he with
   | .nil,he=>simp [wrongOne] at he
   | .cons p t (.cons _ _ _),he=>simp [wrongOne] at he
   | .cons p t .nil,he=>
    simp only [wrongOne] at he;by_cases e0:p.name.s≠aE∨bz p cM=false
    ·rw [if_pos e0] at he;simp at he
    rw [if_neg e0] at he;by_cases e1:h.most < 0∨1024 < h.most
    ·rw [if_pos e1] at he;simp at he
    rw [if_neg e1] at he;refine ⟨p,t,rfl,Classical.byContradiction fun hn=>e0 (.inl hn),?_,by omega,by omega,d + 1,_,he⟩;cases hb:bz p cM
    ·exact absurd (.inr hb) e0
    ·rfl
  ·rw [if_neg (by omega),if_neg (by omega),if_pos h7] at he;by_cases e0:h.ai=8/\ps.len=0
   ·rw [if_pos e0] at he;simp at he
   rw [if_neg e0] at he;by_cases e1:64 < ps.len
   ·rw [if_pos e1] at he;simp at he
   rw [if_neg e1] at he;refine ⟨by omega,fun h8=>fun hl=>e0 ⟨h8,hl⟩,fun i p t hx=>?_⟩;have:=gZ he h7 i p t hx
   rwa [Nat.zero_add] at this
theorem Ki.sub {h:Hd} {ps:Pts} (hF:Ki h ps) {p:Ph} {u:Ty} (hm:(p,u)∈ps.toList) (hb:p.bare=false):Cx u:=by
 obtain ⟨i,hi⟩:=List.mem_iff_getElem?.1 hm
 have hlen:0 < ps.len:=by
  cases ps with
  | nil=>simp [Pts.toList] at hm
  | cons _ _ _=>simp [Pts.len]
 have hk:5<=h.ai/\h.ai<=8:=by
  have h1:=hF.own;unfold mC at h1;simp only [Bool.and_eq_true,Bool.or_eq_true,decide_eq_true_eq] at h1;have:=h1.1.1.2;omega
 by_cases h5:h.ai=5∨h.ai=6
 ·obtain ⟨q,t,rfl,_,_,_,_,hw⟩:=hF.one h5;simp only [Pts.toList,List.mem_singleton,Prod.mk.injEq] at hm;rw [hm.2];exact hw
 ·rcases ((hF.many (by omega)).2.2 i p u hi).2 with h1 | h1
  ·rw [h1.1] at hb;cases hb
  ·exact h1.2.2
mutual
theorem rU:∀ (t:Ty),Cx t->∀ u∈flatT t,Cx u
 | .mk h ps,hw,u,hu=>by
  rw [flatT] at hu;split at hu
  ·cases hu
  ·rcases List.mem_cons.1 hu with rfl | hu
   ·exact hw
   ·exact rV ps (fun p v hm hb=>(zt hw).sub hm hb) u hu
theorem rV:∀ (ps:Pts),(∀ p v,(p,v)∈ps.toList->p.bare=false->Cx v)->∀ u∈flatP ps,Cx u
 | .nil,_,u,hu=>by cases hu
 | .cons p v r,hw,u,hu=>by
  rw [flatP] at hu;rcases List.mem_append.1 hu with hu | hu
  ·cases hb:p.bare with
   | true=>rw [hb] at hu;cases hu
   | false=>rw [hb] at hu;exact rU v (hw p v (by simp [Pts.toList]) hb) u hu
  ·exact rV r (fun q w hm=>hw q w (by simp [Pts.toList,hm])) u hu
end
mutual
theorem rW:∀ (t:Ty),∀ u∈flatT t,u.h.ai≠9
 | .mk h ps,u,hu=>by
  rw [flatT] at hu;split at hu
  ·cases hu
  ·rename_i h9;rcases List.mem_cons.1 hu with rfl | hu
   ·exact h9
   ·exact rX ps u hu
theorem rX:∀ (ps:Pts),∀ u∈flatP ps,u.h.ai≠9
 | .nil,u,hu=>by cases hu
 | .cons p v r,u,hu=>by
  rw [flatP] at hu;rcases List.mem_append.1 hu with hu | hu
  ·split at hu
   ·cases hu
   ·exact rW v u hu
  ·exact rX r u hu
end
mutual
theorem oS:∀ (t:Ty) (j:Nat) (u:Ty),(flatT t)[j]? = some u->j + u.nn<=t.nn
 | .mk h ps,j,u,hu=>by
  rw [flatT] at hu;by_cases h9:h.ai=9
  ·rw [if_pos h9] at hu;simp at hu
  rw [if_neg h9] at hu
  cases j with
  | zero=>
   simp only [List.getElem?_cons_zero,oI] at hu;subst hu;omega
  | succ j=>
   simp only [List.getElem?_cons_succ] at hu;have:=kG ps j u hu;rw [Ty.nn,if_neg h9];omega
theorem kG:∀ (ps:Pts) (j:Nat) (u:Ty),(flatP ps)[j]? = some u->j + u.nn<=ps.nn
 | .nil,j,u,hu=>by simp [flatP] at hu
 | .cons p v r,j,u,hu=>by
  rw [flatP] at hu;rw [Pts.nn]
  cases hb:p.bare with
  | true=>
   rw [hb] at hu;have:=kG r j u (by simpa using hu);simp only [if_true];omega
  | false=>
   rw [hb] at hu;simp only [Bool.false_eq_true,if_false] at hu ⊢;by_cases hj:j < (flatT v).length
   ·rw [List.getElem?_append_left hj] at hu;have:=oS v j u hu;omega
   ·rw [List.getElem?_append_right (by omega)] at hu;have:=kG r _ u hu;have h2:=kE v;omega
end
theorem np {lev:List Wd->Int} {s:Sch}:∀ {ps:Pts} {k:Nat} {e:Ed},e∈edsP lev s ps k->∃ p u k',(p,u)∈ps.toList/\e=wj lev p (tM s p u k')/\(p.bare=false->k' + u.nn<=k + ps.nn)
 | .nil,k,e,he=>by simp [edsP] at he
 | .cons p u r,k,e,he=>by
  rw [edsP] at he;rcases List.mem_cons.1 he with rfl | he
  ·refine ⟨p,u,k,by simp [Pts.toList],rfl,fun hb=>?_⟩;rw [Pts.nn,hb];simp
  ·obtain ⟨q,v,k',h1,h2,h3⟩:=np he;refine ⟨q,v,k',by simp [Pts.toList,h1],h2,fun hb=>?_⟩;have:=h3 hb;rw [Pts.nn];omega
theorem jd {lev:List Wd->Int} {s:Sch}:∀ {ps:Pts} {k:Nat},(edsP lev s ps k).map Ed.name=al (pNames ps)
 | .nil,k=>rfl
 | .cons p u r,k=>by
  rw [edsP,List.map_cons,jd (ps:=r)];rfl
theorem oT {f:Nat->Nat->Bool} {n:Nat} (hL:gV f n):∀ e,e<=n->∃ b,b < n/\∀ x,x < e->f b x=true
 | 0,_=>⟨0,hL.pos,fun x hx=>by omega⟩
 | e + 1,he=>by
  obtain ⟨b,hb,fL⟩:=oT hL e (by omega);obtain ⟨k,hk⟩:=hL.mt b e hb (by omega);obtain ⟨g1,g2,g3,g4⟩:=ja hk;refine ⟨k,g1,fun x hx=>?_⟩;rcases Nat.lt_succ_iff_lt_or_eq.1 hx with hx | rfl
  ·exact hL.tr k b x g1 hb (by omega) g2 (fL x hx)
  ·exact g3
theorem rY {f:Nat->Nat->Bool} {n:Nat} (hL:gV f n) (l:List Nat) (hl:∀ x∈l,x < n):∃ c,eJ f n l=some c:=by
 have key:∀ e,e<=l.length->∃ c,eJ f n (l.take e)=some c:=by
  intro e
  induction e with
  | zero=>
   intro _;obtain ⟨b,hb,fL⟩:=oT hL n (Nat.le_refl _);exact ⟨b,jb hL hb fL⟩
  | succ e ih=>
   intro he;obtain ⟨c,hc⟩:=ih (by omega);obtain ⟨x,hx⟩:∃ x,l[e]? = some x:=⟨_,gE (by omega)⟩;have Ai:=hl x (mG hx);obtain ⟨k,hk⟩:=hL.jn c x (kA hc) Ai;rw [List.take_add_one,hx];exact ⟨k,kV hL (fun y hy=>hl y (List.mem_of_mem_take hy)) Ai hc hk⟩
 have:=key l.length (Nat.le_refl _)
 rwa [List.take_length] at this
theorem oU {L:List ByteArray}:∀ {l:List Wd},(labW L l).1=0->∀ w∈l,∃ i,cH L w.s=some i
 | [],_,w,hw=>by cases hw
 | x :: r,h,w,hw=>by
  rw [labW] at h;split at h
  ·cases h
  ·rename_i h1;rcases List.mem_cons.1 hw with rfl | hw
   ·exact Option.ne_none_iff_exists'.1 h1
   ·exact oU h w hw
theorem wy {f:Nat->Nat->Bool} {L:List ByteArray} (hL:gV f L.length) {l:List Wd} (h:(labW L l).1=0):∃ c:Nat,tC f L l=c/\c < L.length:=by
 obtain ⟨c,hc⟩:=rY hL (pM L l) (fun x hx=>by
  unfold pM at hx;obtain ⟨w,hw,rfl⟩:=List.mem_map.1 hx;obtain ⟨i,hi⟩:=oU h w hw;rw [hi]
  exact (dw hi).1)
 refine ⟨c,?_,kA hc⟩;unfold tC;rw [if_pos h,hc];rfl
structure Kj (L N:Nat) (e:Ed):Prop where
 to0:e.bare=true->e.to = -1
 to1:e.bare=false->∃ k:Nat,e.to=k/\k < N
 lab:∃ k:Nat,e.label=k/\k < L
 seen:∃ k:Nat,e.seen=k/\k < L
 wide:1<=e.wide/\e.wide<=64
 ck:0<=e.ck/\e.ck<=3
 cn:(e.ck=0->e.cn=0)/\(e.ck=1->1<=e.cn)/\(e.ck=2->0<=e.cn/\e.cn<=4096)/\(e.ck=3->e.cn=0)
structure Bp (L N:Nat) (n:Nd):Prop where
 k1:1<=n.ai
 k8:n.ai<=8
 Kk:n.ai=2->n.lo<=n.hi
 lo0:n.ai≠2->n.lo=0/\n.hi=0
 Hb:n.ai=3->0<=n.most/\n.most<=4096
 Hc:n.ai=5->0<=n.most/\n.most<=1024
 He:n.ai≠3->n.ai≠5->n.most=0
 af:n.ai=4->n.af ≠ []/\n.af.length<=64/\n.af.Nodup/\∀ s∈n.af,bf s=true
 D6:n.ai≠4->n.af=[]
 leaf:n.ai < 5->n.fF=[]
 one:n.ai=5∨n.ai=6->∃ e,n.fF=[e]/\e.bare=false/\e.name=aE
 many:n.ai=7∨n.ai=8->n.fF.length<=64/\(n.ai=8->n.fF ≠ [])/\(n.fF.map Ed.name).Nodup/\∀ e∈n.fF,bf e.name=true
 bare:∀ e∈n.fF,e.bare=true->n.ai=8
 GJ:∀ e∈n.fF,Kj L N e
theorem nq {l:List Wd} (h:∀ j x,l[j]? = some x->aC l j x=0):(al l).Nodup/\∀ x∈l,bf x.s=true:=by
 have key:∀ e,e<=l.length->(al (l.take e)).Nodup:=by
  intro e
  induction e with
  | zero=>intro _;simp [al]
  | succ e ih=>
   intro he;obtain ⟨x,hx⟩:∃ x,l[e]? = some x:=⟨_,gE (by omega)⟩;exact gl hx (ih (by omega)) (h e x hx)
 refine ⟨by have:=key l.length (Nat.le_refl _);rwa [List.take_length] at this,fun x hx=>?_⟩;obtain ⟨j,hj⟩:=List.mem_iff_getElem?.1 hx;have:=h j x hj;unfold aC at this;cases hb:bf x.s
 ·rw [hb] at this;simp at this
 ·rfl
theorem oV {all:List Wd}:∀ {l:List Wd} {i:Nat},(enumL all i l).1=0->∀ j x,l[j]? = some x->aC all (i + j) x=0
 | [],i,_,j,x,hx=>by simp at hx
 | y :: r,i,h,j,x,hx=>by
  rw [enumL] at h;split at h
  ·rename_i h1;exact (h1 h).elim
  ·rename_i h1
   cases j with
   | zero=>
    simp only [List.getElem?_cons_zero,oI] at hx;subst hx;simpa using h1
   | succ j=>
    simp only [List.getElem?_cons_succ] at hx;have:=oV h j x hx
    rwa [show i + 1 + j=i + (j + 1) by omega] at this
theorem pX {h:Hd} (he:gf h=(0,0)):h.af ≠ []/\h.af.length<=64/\(al h.af).Nodup/\∀ x∈h.af,bf x.s=true:=by
 unfold gf at he;split at he
 ·cases he
 ·rename_i h1;split at he
  ·cases he
  ·rename_i h2;refine ⟨h1,by omega,?_⟩
   exact nq fun j x hx=>by
    have:=oV (all:=h.af) (i:=0) (by rw [he]) j x hx
    rwa [Nat.zero_add] at this
theorem u0 {X:Lx} {L:List ByteArray}:∀ {ps:Pts},(knP X L ps).1=0->∀ {p:Ph} {u:Ty},(p,u)∈ps.toList->(X.bad p.label).1=0/\(X.bad p.cl).1=0
 | .nil,_,p,u,h=>by cases h
 | .cons q v r,hk,p,u,h=>by
  have hr:=(kB hk).2;rw [knP] at hk;split at hk
  ·rename_i h1;exact (h1 hk).elim
  rename_i h1;split at hk
  ·rename_i h2;exact (h2 hk).elim
  rename_i h2;rcases List.mem_cons.1 h with h | h
  ·cases h;exact ⟨by simpa using h1,by simpa using h2⟩
  ·exact u0 hr h
theorem kH {p q:Ph} (h:bz p q=true):p.bare=q.bare/\p.wide=q.wide/\p.ck=q.ck/\p.cn=q.cn:=by
 unfold bz at h;simp only [Bool.and_eq_true,beq_iff_eq,decide_eq_true_eq] at h;exact ⟨h.1.1.1.1.1,h.1.1.1.1.2,h.1.1.2,h.1.2⟩
theorem zu {w:Int} (h:0<=w/\w<=64):1<=kZ w/\kZ w<=64:=by
 unfold kZ;split<;>omega
theorem tW {p:Ph} (h:(aS p).1=0):(0<=p.ck/\p.ck<=3)/\(p.ck=0->p.cn=0)/\(p.ck=1->1<=p.cn)/\(p.ck=2->0<=p.cn/\p.cn<=4096)/\(p.ck=3->p.cn=0):=by
 unfold aS at h;by_cases c0:p.ck=0
 ·rw [if_pos c0] at h;by_cases c1:p.cn=0/\p.cl=[]
  ·exact ⟨by omega,fun _=>c1.1,by omega,by omega,by omega⟩
  ·rw [if_neg c1] at h;simp at h
 rw [if_neg c0] at h;by_cases c1:p.ck < 0∨3 < p.ck
 ·rw [if_pos c1] at h;simp at h
 rw [if_neg c1] at h;by_cases c2:(p.ck=1/\p.cn < 1)∨(p.ck=2/\(p.cn < 0∨4096 < p.cn))∨(p.ck=3/\p.cn≠0)
 ·rw [if_pos c2] at h;simp at h
 exact ⟨by omega,by omega,by omega,by omega,by omega⟩
theorem wz {p:Ph} (h:(cB p).1=0):(0<=p.wide/\p.wide<=64)/\(aS p).1=0:=by
 unfold cB at h;by_cases c0:p.wide < 0∨64 < p.wide
 ·rw [if_pos c0] at h;simp at h
 rw [if_neg c0] at h;by_cases c1:(bW p.label).1≠0
 ·rw [if_pos c1] at h;exact absurd h c1
 rw [if_neg c1] at h;exact ⟨by omega,h⟩
theorem zw {t:Ty} (h:t.h.ai≠9):1<=t.nn:=by
 obtain ⟨h',ps⟩:=t;have h:¬ h'.ai=9:=h;rw [Ty.nn,if_neg h];omega
theorem wC {S:Sch} {k:Nat} {x:Wd × Ty} (hx:S.types[k]? = some x):firstA S k + x.2.nn<=lx (iA S):=by
 have h1:=kY hx;rw [<- h1]
 have h2:firstA S (k + 1)=lx ((k0 S).take (k + 1)):=by
  unfold firstA lx k0;rw [<- List.map_take,List.map_map];rfl
 have h3:=zp (k0 S) (k + 1);have h4:lx (iA S)=lx (k0 S) + lx [S.root]:=pW _ _;omega
theorem rZ {lev:List Wd->Int} {s:Sch} {n:Nd}:∀ {l:List Ty} {k i:Nat},(ndsA lev s l k)[i]? = some n->∃ t∈l,∃ u∈flatT t,n=Ha lev s u (k + i)/\i + u.nn<=lx l
 | [],k,i,h=>by simp [ndsA] at h
 | t :: r,k,i,h=>by
  rw [ndsA] at h;rw [gY];have hl:=fG lev s t k;by_cases hi:i < t.nn
  ·rw [List.getElem?_append_left (by omega),pU,List.getElem?_map,List.getElem?_zipIdx] at h
   cases hu:(flatT t)[i]? with
   | none=>rw [hu] at h;simp at h
   | some u=>
    rw [hu] at h;simp only [Option.map_some,oI] at h;have:=oS t i u hu;exact ⟨t,List.mem_cons_self,u,mG hu,by rw [<- h];simp,by omega⟩
  ·rw [List.getElem?_append_right (by omega),hl] at h;obtain ⟨t',h1,u,h2,h3,h4⟩:=rZ h;refine ⟨t',List.mem_cons_of_mem _ h1,u,h2,?_,by omega⟩;rw [h3];congr 1;omega
theorem nr (S:Sch):(cf S).length=lx (iA S):=by rw [kF,nj]
theorem wD {S:Sch} (hF:zq S) {i:Nat} {n:Nd} (h:(cf S)[i]? = some n):Bp S.ae.length (cf S).length n:=by
 rw [nr];rw [kF] at h;obtain ⟨t,ht,u,hu,rfl,sF⟩:=rZ h;rw [Nat.zero_add];have LL:=rU t ⟨_,_,hF.wr t ht⟩ u hu;have hk:=rQ t (hF.kn t ht) u hu;have Cs:=rW t u hu;have hT:=zt LL;obtain ⟨Kl,_⟩:=nf hF.lat;have lp:=dK S.ae;have Hf:=hF.ends;obtain ⟨uh,us⟩:=u;simp only [Ty.h,Ty.ps] at hT Cs;have Ia:=(nd hk).2;have dc:=hT.own;unfold mC at dc;simp only [Bool.and_eq_true,Bool.or_eq_true,decide_eq_true_eq] at dc;obtain ⟨⟨⟨⟨o1,o2⟩,o3⟩,o4⟩,o5⟩:=dc;have k1:=hT.k1;have k9:=hT.k9
 have GS:∀ l:List Wd,(labW (al S.ae) l).1=0->∃ k:Nat,eK S l=k/\k < S.ae.length:=by
  intro l hl;have:=wy (f:=eP S.ae.length (cC (al S.ae) S.order)) (L:=al S.ae) (by rw [lp];exact Kl) hl
  rwa [lp] at this
 have LD:∀ (p:Ph) (v:Ty) (k':Nat),(p,v)∈us.toList->(p.bare=false->k' + v.nn<=i + 1 + us.nn)->(p.bare=true->tM S p v k' = -1)/\(p.bare=false->∃ k:Nat,tM S p v k'=k/\k < lx (iA S)):=by
  intro p v k' hm fL;refine ⟨fun hb=>by simp [tM,hb],fun hb=>?_⟩;have hkv:=uY Ia hm hb;obtain ⟨vh,vs⟩:=v;by_cases h9:vh.ai=9
  ·obtain ⟨j,hj⟩:=Option.ne_none_iff_exists'.1 ((nd hkv).1 h9);have nQ:=(dw hj).1;rw [mZ] at nQ;obtain ⟨k,hk⟩:=Hf j nQ;have sK:=pN hk;obtain ⟨x,hx⟩:∃ x,S.types[k]? = some x:=⟨_,gE sK.1⟩;have h1:=wC hx;have h2:=zw (sK.2 x hx);refine ⟨firstA S k,?_,by omega⟩;simp [tM,hb,pT,Ty.h,h9,H8,hj,namedN,hk]
  ·have h1:=zw (t:=.mk vh vs) h9;have h2:=fL hb;have h3:(Ty.mk uh us).nn=1 + us.nn:=by rw [Ty.nn,if_neg Cs]
   refine ⟨k',by simp [tM,hb,pT,Ty.h,h9],by omega⟩
 have rD:∀ p v,(p,v)∈us.toList->(0<=p.wide/\p.wide<=64)/\(0<=p.ck/\p.ck<=3)/\((p.ck=0->p.cn=0)/\(p.ck=1->1<=p.cn)/\(p.ck=2->0<=p.cn/\p.cn<=4096)/\(p.ck=3->p.cn=0))/\(p.bare=true->uh.ai=8):=by
  intro p v hm;obtain ⟨j,hj⟩:=List.mem_iff_getElem?.1 hm
  have hlen:us.len≠0:=by
   cases us with
   | nil=>simp [Pts.toList] at hm
   | cons _ _ _=>simp [Pts.len]
  by_cases h5:uh.ai=5∨uh.ai=6
  ·obtain ⟨q,t',rfl,_,qB,_,_,_⟩:=hT.one h5;simp only [Pts.toList,List.mem_singleton,Prod.mk.injEq] at hm;obtain ⟨rfl,rfl⟩:=hm;obtain ⟨w1,w2,w3,w4⟩:=kH qB;have z1:cM.wide=0:=rfl;have z2:cM.ck=0:=rfl;have z3:cM.cn=0:=rfl;have z4:cM.bare=false:=rfl;rw [z1] at w2;rw [z2] at w3;rw [z3] at w4;rw [z4] at w1;refine ⟨by omega,by omega,⟨by omega,by omega,by omega,by omega⟩,fun hb=>?_⟩;rw [w1] at hb;cases hb
  ·obtain ⟨_,hP⟩:=(hT.many (by omega)).2.2 j p v hj;rcases hP with ⟨hb,h8,_,qB⟩ | ⟨hb,hp,_⟩
   ·obtain ⟨w1,w2,w3,w4⟩:=kH qB;have z1:cS.wide=0:=rfl;have z2:cS.ck=0:=rfl;have z3:cS.cn=0:=rfl;rw [z1] at w2;rw [z2] at w3;rw [z3] at w4;exact ⟨by omega,by omega,⟨by omega,by omega,by omega,by omega⟩,fun _=>h8⟩
   ·obtain ⟨w1,w2⟩:=wz hp;obtain ⟨w3,w4⟩:=tW w2;exact ⟨w1,w3,w4,fun h=>by rw [hb] at h;cases h⟩
 have Hg:us.len=0->us = .nil:=fun h=>by
  cases us with
  | nil=>rfl
  | cons _ _ _=>simp [Pts.len] at h
 refine {
  k1:=k1
  k8:=by show uh.ai<=8;omega
  Kk:=hT.int
  lo0:=fun h2=>?_
  Hb:=hT.text
  Hc:=fun h5=>?_
  He:=fun h3 h5=>?_
  af:=fun h4=>?_
  D6:=fun h4=>?_
  leaf:=fun h5=>?_
  one:=fun h5=>?_
  many:=fun h7=>?_
  bare:=fun e he hb=>?_
  GJ:=fun e he=>?_ }
 ·show uh.lo=0/\uh.hi=0;exact o1.resolve_left h2
 ·obtain ⟨q,t',rfl,_,_,lC,eO,_⟩:=hT.one (.inl h5);exact ⟨lC,eO⟩
 ·show uh.most=0;exact o2.resolve_left (fun h=>h.elim h3 h5)
 ·obtain ⟨e1,e2,e3,e4⟩:=pX (hT.enum h4);show al uh.af ≠ []/\(al uh.af).length<=64/\(al uh.af).Nodup/\∀ s∈al uh.af,bf s=true;refine ⟨fun h=>e1 (by simpa [al] using h),by rw [dK];exact e2,e3,fun s hs=>?_⟩;unfold al at hs;obtain ⟨w,hw,rfl⟩:=List.mem_map.1 hs;exact e4 w hw
 ·show al uh.af=[];have:=o4.resolve_right h4;have:uh.af=[]:=List.eq_nil_of_length_eq_zero this;rw [this];all_goals rfl
 ·show edsP (eK S) S us (i + 1)=[];have LR:uh.ai < 5:=h5;rw [Hg (o3.resolve_right (by omega))];rfl
 ·show ∃ e,edsP (eK S) S us (i + 1)=[e]/\_;obtain ⟨q,t',rfl,hn,qB,_,_,_⟩:=hT.one h5;refine ⟨wj (eK S) q (tM S q t' (i + 1)),rfl,?_,hn⟩;exact (kH qB).1
 ·show (edsP (eK S) S us (i + 1)).length<=64/\(_->edsP (eK S) S us (i + 1) ≠ [])/\((edsP (eK S) S us (i + 1)).map Ed.name).Nodup/\∀ e∈edsP (eK S) S us (i + 1),bf e.name=true;obtain ⟨m1,m2,m3⟩:=hT.many h7
  have fN:∀ j x,(pNames us)[j]? = some x->aC (pNames us) j x=0:=by
   intro j x hx
   have hj:j < us.len:=by
    have:=(gS hx).1
    rwa [iV] at this
   obtain ⟨p,t',hp⟩:=Pts.e9 hj;rw [gd hp] at hx;simp only [oI] at hx;rw [<- hx];exact (m3 j p t' hp).1
  obtain ⟨n1,n2⟩:=nq fN;refine ⟨by rw [jY];exact m1,fun h8 hn=>m2 h8 ?_,by rw [jd];exact n1,fun e he=>?_⟩
  ·have:=jY (eK S) S us (i + 1);rw [hn] at this;simpa using this.symm
  ·have:e.name∈al (pNames us):=by rw [<- jd (lev:=eK S) (s:=S) (k:=i + 1)];exact List.mem_map_of_mem he
   unfold al at this;obtain ⟨w,hw,h⟩:=List.mem_map.1 this;rw [<- h];exact n2 w hw
 ·obtain ⟨p,v,k',h1,rfl,_⟩:=np he;exact (rD p v h1).2.2.2 hb
 ·obtain ⟨p,v,k',h1,rfl,h3⟩:=np he;obtain ⟨h4,h5⟩:=LD p v k' h1 h3;obtain ⟨h6,h7,h8,_⟩:=rD p v h1;obtain ⟨h9,nR⟩:=u0 Ia h1;exact { to0:=h4,to1:=h5,lab:=GS _ h9,seen:=GS _ nR,wide:=zu h6,ck:=h7,cn:=h8 }
theorem r3 {lev:List Wd->Int} {s:Sch} {n:Nd}:∀ {l:List Ty} {k:Nat},n∈ndsA lev s l k->∃ t∈l,∃ u∈flatT t,∃ k',n=Ha lev s u k'
 | [],_,h=>by cases h
 | t :: r,k,h=>by
  rw [ndsA] at h;rcases List.mem_append.1 h with h | h
  ·rw [pU] at h;obtain ⟨x,hx,rfl⟩:=List.mem_map.1 h;have:=(List.mem_zipIdx hx).2.2;refine ⟨t,List.mem_cons_self,x.1,?_,_,rfl⟩;rw [this];exact List.getElem_mem _
  ·obtain ⟨t',ht,h⟩:=r3 h;exact ⟨t',List.mem_cons_of_mem _ ht,h⟩
theorem wE {S:Sch} {n:Nd} (h:n∈cf S) (hS:S.wt<=1099511627776):n.af.length<=1099511627776/\n.fF.length<=1099511627776:=by
 rw [kF] at h;obtain ⟨t,ht,u,hu,k,rfl⟩:=r3 h;have h1:=Bo hS t ht;have h2:=rS t u hu;obtain ⟨uh,us⟩:=u;have h3:=bT uh.af;have h4:=us.gL;simp only [Ty.wt,Hd.wt] at h2;simp only [Ha,Ty.h,Ty.ps,dK,jY];omega
abbrev zNd:List DV:=[.v (.int .i64 0),.v (.int .i64 0),.v (.int .i64 0),.v (.int .i64 0),.v (.int .i64 0),.v (.slice none 0 0),.v (.slice none 0 0)]
structure zx (S:Sch) (ND:List Nd) (PC:List DV):Prop where
 fine:zq S
 wt:S.wt<=1099511627776
 qp:ND=cf S
 ok:∀ n∈ND,Bp S.ae.length ND.length n
 nl:ND.length<=1099511627776
 len:bD Tryz.prog 110 [.pt PC 0] (.v (.int .i64 ND.length))
 root:bD Tryz.prog 19 [.pt PC 0] (.v (.int .i64 (lM S)))
 ag:∀ (i:Nat) n,ND[i]? = some n->bD Tryz.prog 51 [.pt PC 0,.v (.int .i64 i)] (.cP [.agg (lu n),.v (.bool true)])
 Hh:∀ i:Int,(i < 0∨ND.length<=i)->bD Tryz.prog 51 [.pt PC 0,.v (.int .i64 i)] (.cP [.agg zNd,.v (.bool false)])
 lat:∃ ak js,(dz S ak js).OK/\bD Tryz.prog 38 [.pt PC 0] (dz S ak js).pd
theorem zy {S:Sch} {d:DV} (hS:S.wt<=1099511627776) (h0:(jc S).1=0) (hd:zd S d):∃ PC,d = .pt PC 0/\zx S (cf S) PC:=by
 obtain ⟨ak,fg,js,hX,hT,fj,rfl⟩:=hd;have hF:=zs h0;have bQ:=fun n (h:n∈cf S)=>wE h hS
 refine ⟨_,rfl,{
  fine:=hF
  wt:=hS
  qp:=rfl
  ok:=fun n hn=>?_
  nl:=by rw [nr];exact Nat.le_trans (D4 S) hS
  len:=kD _ _ _ _ _ _
  root:=tT _ _ _ _ _ _
  ag:=fun i n h=>tU _ _ _ _ _ _ i n h (bQ n (mG h)).1 (bQ n (mG h)).2
  Hh:=fun i h=>tV _ _ _ _ _ _ i h
  lat:=⟨ak,js,hX,wx _ _ _ _ _ _⟩ }⟩
 obtain ⟨i,hi⟩:=List.mem_iff_getElem?.1 hn;exact wD hF hi
def zA (S:Sch) (r:DV):Prop:=((jc S).1≠0/\r = .cP [.v (.pointer none),(jc S).d])∨((jc S).1=0/\∃ PC,zx S (cf S) PC/\r = .cP [.pt PC 0,Ft.d (0,0)])
theorem wF {S:Sch} (hS:S.wt<=1099511627776) {r:DV} {os:List (List DV)} {tk:List TkE} (h:tR S r os tk):zA S r:=by
 unfold tR at h;by_cases h0:(jc S).1=0
 ·rw [if_neg (by rw [h0];simp)] at h;obtain ⟨d,hd,rfl⟩:=h;obtain ⟨PC,rfl,hP⟩:=zy hS h0 hd;exact .inr ⟨h0,PC,hP,rfl⟩
 ·rw [if_pos h0] at h;exact .inl ⟨h0,h⟩
section
variable (af:List ByteArray) (tc:List DV) (rows:List Nat) (js:List Int)
theorem wG (hr:bY rows) (hl:rows.length=af.length) (a b:Int) :
  bD Tryz.prog 88 [.pt (c7 af tc rows js) 0,.v (.int .i64 a),.v (.int .i64 b)] (.v (.bool (hasB rows a b))):=by
 have h1:=oD af tc rows js;have h2:=fx rows hr a b;have hB:hasB rows a b=(decide (0<=a) && decide (a < af.length) && decide (0<=b) && decide (b < af.length) && ay rows a.toNat b.toNat):=by rw [<- hl];all_goals rfl
 generalize hasB rows a b=h at h2 hB ⊢;refine ev_go (P:=Tryz.prog) tt tt_ok 5000 24 [.tmp 6] Tryz.func88 rfl Tryz.ntmps88 rfl (nL rfl) (fun E9 w9 hn9 hm9=>?_);refine call_p n9 (h1 a) ax rfl ?_;refine br (fun g=>?_) (fun g=>?_)
 ·refine call_p n9 (h1 b) ax rfl ?_;refine br (fun g2=>?_) (fun g2=>?_)
  ·refine call_p qX (h2) ax rfl ?_;exact (rfl:_=_)
  ·refine (congrArg (fun b=>DV.v (.bool b)) ?_:_=_);rw [hB];simp only [Bool.and_assoc] at g g2 ⊢;cases hx:decide (0<=b)<;>cases hy:decide (b < af.length)<;>simp_all [pickB]
 ·refine (congrArg (fun b=>DV.v (.bool b)) ?_:_=_);rw [hB];cases hx:decide (0<=a)<;>cases hy:decide (a < af.length)<;>simp_all [pickB]
end
end Go.Proofs.YtfifjddnnmfeoaaGreat
set_option maxRecDepth 100000
namespace Go.Proofs.YtfifjddnnmfeoaaGreat
open Go Go.RowKit Dv Tryz
end Go.Proofs.YtfifjddnnmfeoaaGreat
set_option maxRecDepth 100000
namespace Go.Proofs.YtfifjddnnmfeoaaGreat
open Go Go.RowKit Dv Tryz
end Go.Proofs.YtfifjddnnmfeoaaGreat
set_option maxRecDepth 100000
namespace Go.Proofs.YtfifjddnnmfeoaaGreat
open Go Go.RowKit Dv Tryz
end Go.Proofs.YtfifjddnnmfeoaaGreat
set_option maxRecDepth 100000
namespace Go.Proofs.YtfifjddnnmfeoaaGreat
open Go Go.RowKit Dv Tryz
end Go.Proofs.YtfifjddnnmfeoaaGreat
set_option maxRecDepth 100000
namespace Go.Proofs.YtfifjddnnmfeoaaGreat
open Go Go.RowKit Dv Tryz
end Go.Proofs.YtfifjddnnmfeoaaGreat
set_option maxRecDepth 100000
namespace Go.Proofs.YtfifjddnnmfeoaaGreat
open Go Go.RowKit Dv Tryz
def gy (h:Int):Sch:=⟨[⟨⟨#[97]⟩,0⟩],[],[],.mk ⟨2,0,0,h,0,[],⟨aE,0⟩⟩ .nil⟩
abbrev r4 (h:Int):Nd:=⟨2,0,0,h,0,[],[]⟩
structure zV (h:Int) (PC LC:List DV):Prop where
 root:bD Tryz.prog 19 [.pt PC 0] (.v (.int .i64 0))
 ag:bD Tryz.prog 51 [.pt PC 0,.v (.int .i64 0)] (.cP [.agg (lu (r4 h)),.v (.bool true)])
 lat:bD Tryz.prog 38 [.pt PC 0] (.pt LC 0)
 af:bD Tryz.prog 40 [.pt LC 0] (.sl 1 [[.v (.string ⟨#[97]⟩)]] none)
 find:bD Tryz.prog 41 [.pt LC 0,.v (.string ⟨#[97]⟩)] (.cP [.v (.int .i64 0),.v (.bool true)])
 leq:bD Tryz.prog 88 [.pt LC 0,.v (.int .i64 0),.v (.int .i64 0)] (.v (.bool true))
theorem r7 (af:List ByteArray) (tc:List DV) (rows:List Nat) (js:List Int) (hn:af.length<=32):bD Tryz.prog 40 [.pt (c7 af tc rows js) 0] (.sl 1 (bV af) none):=by
 have hl:=aX af;refine ev_go (P:=Tryz.prog) tt tt_ok 5000 10 [.tmp 2] Tryz.func40 rfl Tryz.ntmps40 rfl (nL rfl) (fun E9 w9 hn9 hm9=>?_);refine ⟨⟨by rw [hl];simp [maxLen];omega,by rw [hl];simp;omega⟩,?_⟩;exact ⟨_,ax,rfl⟩
theorem D7 {h:Int} {PC:List DV} (hh:h=9∨h=99) (hP:zx (gy h) (cf (gy h)) PC):∃ LC,zV h PC LC:=by
 obtain ⟨ak,js,hX,hl⟩:=hP.lat;have hnd:cf (gy h)=[r4 h]:=by rcases hh with rfl | rfl<;>rfl
 have EF:lM (gy h)=0:=by rcases hh with rfl | rfl<;>rfl
 have h1:=hP.root;rw [EF] at h1;have h2:=hP.ag 0 (r4 h) (by rw [hnd];rfl);have h4:=mT (dz (gy h) ak js).af (dz (gy h) ak js).ak (dz (gy h) ak js).rows (dz (gy h) ak js).js ⟨#[97]⟩ hX.hT hX.fj;have h3:=r7 (dz (gy h) ak js).af (bA (dz (gy h) ak js).af (dz (gy h) ak js).ak) (dz (gy h) ak js).rows (dz (gy h) ak js).js hX.hn;rw [show cH (dz (gy h) ak js).af ⟨#[97]⟩=some 0 from rfl] at h4;have Eu:=(hP.fine).lat;obtain ⟨hL,LH⟩:=nf Eu;have hpr:∀ p∈cC (al (gy h).ae) (gy h).order,p.1 < (gy h).ae.length/\p.2 < (gy h).ae.length:=fun p hp=>by simp [gy,cC] at hp
 have fi:(dz (gy h) ak js).rows.length=(gy h).ae.length:=by
  show (closeR (cp (gy h).ae.length (cC (al (gy h).ae) (gy h).order)) (gy h).ae.length).length=_;rw [cv,eF]
 have hr:bY (dz (gy h) ak js).rows:=fy (pD (by omega) _ hpr) _ (by omega);have h5:=wG (dz (gy h) ak js).af (bA (dz (gy h) ak js).af (dz (gy h) ak js).ak) (dz (gy h) ak js).rows (dz (gy h) ak js).js hr fi 0 0
 have he:hasB (dz (gy h) ak js).rows 0 0=true:=by
  show hasB (closeR (cp 1 (cC (al (gy h).ae) [])) 1) 0 0=true;rw [show cC (al (gy h).ae) []=[] by simp [cC]];decide +kernel
 rw [he] at h5;exact ⟨_,h1,h2,hl,h3,h4,h5⟩
theorem kI (h:Int) (hh:h=9∨h=99):Ev Tryz.prog 9 [.v (.int .i64 h)] [] [] (fun r _ _=>∃ PC LC,r = .pt PC 0/\zV h PC LC):=by
 have A4:(gy h).wt<=1099511627776:=by rcases hh with rfl | rfl<;>decide +kernel
 have ry:(jc (gy h)).1=0:=by rcases hh with rfl | rfl<;>decide +kernel
 have hb:=(tS (gy h) A4).mono (Ψ:=fun r _ _=>zA (gy h) r) fun _ _ _ h=>wF A4 h;refine ev_go (P:=Tryz.prog) tt tt_ok 5000 15 [.tmp 2] Tryz.func9 rfl Tryz.ntmps9 rfl (nL rfl) (fun E9 w9 hn9 hm9=>?_);refine cj Ja rfl hb ax (fun r hr=>?_);rcases hr with ⟨hr,_⟩ | ⟨_,PC,hP,rfl⟩
 ·exact (hr ry).elim
 obtain ⟨LC,hE⟩:=D7 hh hP;exact ⟨.pt PC 0,ax,PC,LC,rfl,hE⟩
theorem je (d:DV) (hd:∃ PC,d = .pt PC 0):bD Tryz.prog 10 [.v (.pointer none),d] (.v (.slice none 0 0)):=by
 obtain ⟨PC,rfl⟩:=hd;refine ev_go (P:=Tryz.prog) tt tt_ok 5000 39 [.tmp 4] Tryz.func10 rfl Tryz.ntmps10 rfl (nL rfl) (fun E9 w9 hn9 hm9=>?_);exact (rfl:_=_)
theorem jf (d:DV) (hd:∃ PC,d = .pt PC 0):bD Tryz.prog 10 [d,.v (.pointer none)] (.v (.slice none 0 0)):=by
 obtain ⟨PC,rfl⟩:=hd;refine ev_go (P:=Tryz.prog) tt tt_ok 5000 39 [.tmp 4] Tryz.func10 rfl Tryz.ntmps10 rfl (nL rfl) (fun E9 w9 hn9 hm9=>?_);exact (rfl:_=_)
theorem wH (d:DV) (hd:∃ PC,d = .pt PC 0):bD Tryz.prog 8 [.v (.pointer none),d] (.cP [.v (.int .i64 1),.v (.slice none 0 0)]):=by
 have hl:=je d hd;obtain ⟨PC,rfl⟩:=hd;refine ev_go (P:=Tryz.prog) tt tt_ok 5000 49 [.tmp 4,.tmp 5] Tryz.func8 rfl Tryz.ntmps8 rfl (nL rfl) (fun E9 w9 hn9 hm9=>?_);refine call_p vu (hl) ax rfl ?_;exact ⟨_,ax,rfl⟩
theorem wI (d:DV) (hd:∃ PC,d = .pt PC 0):bD Tryz.prog 8 [d,.v (.pointer none)] (.cP [.v (.int .i64 1),.v (.slice none 0 0)]):=by
 have hl:=jf d hd;obtain ⟨PC,rfl⟩:=hd;refine ev_go (P:=Tryz.prog) tt tt_ok 5000 49 [.tmp 4,.tmp 5] Tryz.func8 rfl Tryz.ntmps8 rfl (nL rfl) (fun E9 w9 hn9 hm9=>?_);refine call_p vu (hl) ax rfl ?_;exact ⟨_,ax,rfl⟩
abbrev u1 (P Q:List DV) (O:List (List DV)) (q e:Nat):St:=
 ⟨[(1,⟨[],.pt Q 0⟩),(5,⟨[],.sl 1 O (some 0)⟩),(18,⟨[],.sl 1 [[.v (.string ⟨#[97]⟩)]] none⟩),(19,⟨[],.v (.int .i64 1)⟩),(20,⟨[],.v (.int .i64 e)⟩)],[],[⟨q,3,1,none⟩]⟩
theorem wJ {h g:Int} {P Q LP LQ:List DV} (hp:zV h P LP) (hq:zV g Q LQ):bD Tryz.prog 10 [.pt P 0,.pt Q 0] (.sl 1 [[.v (.int .i64 0)]] none):=by
 have h1:=hp.lat;have h2:=hp.af;have h3:=hq.lat;have h4:=hq.find;refine ev_go (P:=Tryz.prog) tt tt_ok 5000 39 [.tmp 4] Tryz.func10 rfl Tryz.ntmps10 rfl (nL rfl) (fun E9 w9 hn9 hm9=>?_);refine call_p FF (h1) ax rfl ?_;refine call_p Jb (h2) ax rfl ?_;refine aF (fun j st=>(st=u1 P Q [] 0 0/\j=1)∨(st=u1 P Q [[.v (.int .i64 0)]] 1 1/\j=0)) 1 (u1 P Q [] 0 0) (fu ⟨0,3,1,none⟩ rfl ⟨_,rfl⟩ rfl wA rfl rfl (by repeat' (first | exact trivial | exact ah rfl | exact ap rfl | exact cK (Nat.le_refl _) rfl | refine ⟨⟨_,rfl,?_⟩,?_⟩))) (.inl ⟨rfl,rfl⟩) ?_;rintro _ st (⟨rfl,rfl⟩ | ⟨rfl,rfl⟩)
 ·refine ⟨_,⟨by decide,rfl⟩,?_⟩;refine call_p FF (h3) ax rfl ?_;refine call_p Di (h4) ax rfl ?_;refine ⟨rfl,⟨by decide,by decide⟩,?_⟩;exact ⟨u1 P Q [[.v (.int .i64 0)]] 1 1,(aj ⟨_,rfl⟩ wA rfl rfl rfl BN),0,by omega,.inr ⟨rfl,rfl⟩⟩
 ·exact ⟨_,ax,rfl⟩
abbrev Bq (LP LQ:List DV) (e:Nat):St:=⟨[(0,⟨[],.pt LP 0⟩),(1,⟨[],.pt LQ 0⟩),(2,⟨[],.sl 1 [[.v (.int .i64 0)]] none⟩),(11,⟨[],.sl 1 [[.v (.int .i64 0)]] none⟩),(12,⟨[],.v (.int .i64 1)⟩),(13,⟨[],.v (.int .i64 e)⟩)],[],[]⟩
abbrev u2 (LP LQ:List DV) (e:Nat):St:=⟨[(0,⟨[],.pt LP 0⟩),(1,⟨[],.pt LQ 0⟩),(2,⟨[],.sl 1 [[.v (.int .i64 0)]] none⟩),(7,⟨[],.v (.int .i64 0)⟩),(8,⟨[],.v (.int .i64 0)⟩),(11,⟨[],.sl 1 [[.v (.int .i64 0)]] none⟩),(12,⟨[],.v (.int .i64 1)⟩),(13,⟨[],.v (.int .i64 0)⟩),(18,⟨[],.sl 1 [[.v (.int .i64 0)]] none⟩),(19,⟨[],.v (.int .i64 1)⟩),(20,⟨[],.v (.int .i64 e)⟩)],[],[]⟩
theorem tX {h g:Int} {P Q LP LQ:List DV} (hp:zV h P LP) (hq:zV g Q LQ):bD Tryz.prog 37 [.pt LP 0,.pt LQ 0,.sl 1 [[.v (.int .i64 0)]] none] (.v (.bool true)):=by
 have h1:=hp.leq;have h2:=hq.leq;refine ev_go (P:=Tryz.prog) tt tt_ok 5000 44 [.tmp 6] Tryz.func37 rfl Tryz.ntmps37 rfl (nL rfl) (fun E9 w9 hn9 hm9=>?_);refine aF (fun j st=>(st=Bq LP LQ 0/\j=1)∨(st=Bq LP LQ 1/\j=0)) 1 (Bq LP LQ 0) (aj ⟨_,rfl⟩ wA rfl rfl rfl BN) (.inl ⟨rfl,rfl⟩) ?_;rintro _ st (⟨rfl,rfl⟩ | ⟨rfl,rfl⟩)
 ·refine ⟨_,⟨by decide,rfl⟩,?_⟩;refine aF (fun j st=>(st=u2 LP LQ 0/\j=1)∨(st=u2 LP LQ 1/\j=0)) 1 (u2 LP LQ 0) (aj ⟨_,rfl⟩ wA rfl rfl rfl BN) (.inl ⟨rfl,rfl⟩) ?_;rintro _ st (⟨rfl,rfl⟩ | ⟨rfl,rfl⟩)
  ·refine ⟨_,⟨by decide,rfl⟩,?_⟩;refine call_p FJ (h1) ax rfl ?_;refine call_p FJ (h2) ax rfl ?_;exact ⟨u2 LP LQ 1,(aj ⟨_,rfl⟩ wA rfl rfl rfl BN),0,by omega,.inr ⟨rfl,rfl⟩⟩
  ·exact ⟨Bq LP LQ 1,(aj ⟨_,rfl⟩ wA rfl rfl rfl BN),0,by omega,.inr ⟨rfl,rfl⟩⟩
 ·exact (rfl:_=_)
theorem r8 (a b:Int):bD Tryz.prog 90 [.agg (lu (r4 a)),.agg (lu (r4 b))] (.v (.bool (decide (a<=b)))):=by
 refine ev_go (P:=Tryz.prog) tt tt_ok 5000 29 [.tmp 4] Tryz.func90 rfl Tryz.ntmps90 rfl (nL rfl) (fun E9 w9 hn9 hm9=>?_);refine (congrArg (fun b=>DV.v (.bool b)) ?_:_=_);simp [aD]
theorem pY (a b:Int):bD Tryz.prog 91 [.agg (lu (r4 a)),.agg (lu (r4 b))] (.v (.bool true)):=by
 refine ev_go (P:=Tryz.prog) tt tt_ok 5000 80 [.tmp 4] Tryz.func91 rfl Tryz.ntmps91 rfl (nL rfl) (fun E9 w9 hn9 hm9=>?_);refine aF (fun j st=>st=⟨[(2,⟨[],.loc 0 0⟩),(3,⟨[],.loc 1 0⟩),(40,⟨[],.v (.int .i64 0)⟩),(41,⟨[],.v (.int .i64 0)⟩)],[lu (r4 a),lu (r4 b)],[]⟩/\j=0) 0 ⟨[(2,⟨[],.loc 0 0⟩),(3,⟨[],.loc 1 0⟩),(40,⟨[],.v (.int .i64 0)⟩),(41,⟨[],.v (.int .i64 0)⟩)],[lu (r4 a),lu (r4 b)],[]⟩ (aj ⟨_,rfl⟩ wA rfl rfl rfl BN) ⟨rfl,rfl⟩ ?_;rintro _ st ⟨rfl,rfl⟩;refine aF (fun j st=>st=⟨[(56,⟨[],.v (.int .i64 0)⟩),(57,⟨[],.v (.int .i64 0)⟩)],[lu (r4 a),lu (r4 b)],[]⟩/\j=0) 0 ⟨[(56,⟨[],.v (.int .i64 0)⟩),(57,⟨[],.v (.int .i64 0)⟩)],[lu (r4 a),lu (r4 b)],[]⟩ (aj ⟨_,rfl⟩ wA rfl rfl rfl BN) ⟨rfl,rfl⟩ ?_;rintro _ st ⟨rfl,rfl⟩;exact (rfl:_=_)
def Hi:List ByteArray:=[⟨#[102,105,110,101]⟩,⟨#[108,101,118,101,108,115]⟩,⟨#[107,105,110,100]⟩,⟨#[114,97,110,103,101]⟩,⟨#[110,97,109,101,115]⟩,⟨#[108,97,98,101,108]⟩,⟨#[99,111,97,114,115,101]⟩]
def la (z:Int):ByteArray:=if 0<=z/\z<=6 then (Hi[z.toNat]?).getD aE else aE
theorem nu {z:Int} (h0:0<=z) (h1:z<=6):(bV Hi)[z.toNat]? = some [.v (.string (la z))]:=by
 have:z=0∨z=1∨z=2∨z=3∨z=4∨z=5∨z=6:=by omega
 rcases this with rfl | rfl | rfl | rfl | rfl | rfl | rfl<;>rfl
theorem ld (z:Int):bD Tryz.prog 11 [.v (.int .i64 z)] (.v (.string (la z))):=by
 refine ev_go (P:=Tryz.prog) tt tt_ok 5000 15 [.tmp 2] Tryz.func11 rfl Tryz.ntmps11 rfl (nL rfl) (fun E9 w9 hn9 hm9=>?_);refine br (fun c=>?_) (fun c=>?_)
 ·have:la z=aE:=by rw [la,if_neg (by simp [aH] at c;omega)]
  rw [this];exact (rfl:_=_)
 ·have c:0<=z/\z<=6:=by simp [aH] at c;omega
  refine ⟨_,⟨c.1,nu c.1 c.2⟩,?_⟩;exact (rfl:_=_)
end Go.Proofs.YtfifjddnnmfeoaaGreat
set_option maxRecDepth 100000
namespace Go.Proofs
open Go.Shelf
end Go.Proofs
set_option maxRecDepth 100000
namespace Go.Proofs.YtfifjddnnmfeoaaGreat
open Go Go.RowKit Go.Lib Dv Tryz
end Go.Proofs.YtfifjddnnmfeoaaGreat
set_option maxRecDepth 100000
namespace Go.Proofs.YtfifjddnnmfeoaaGreat
open Go Go.RowKit Go.Lib Dv Tryz
theorem gp {f:FuncId} {args:List DV} {d:DV} (h:bD Tryz.prog f args d) {c:Addr->Option Value} {w:World} {vs:List Value} (hE:Env ⟨c,[],[],[]⟩ [] w) (hv:RvL ⟨c,[],[],[]⟩ args vs) :
  Calls Tryz.prog f vs.toArray w fun e w'=>∃ v c',e = .returned v/\Rv ⟨c',[],[],[]⟩ d v/\(∀ x y,c x=some y->c' x=some y)/\Env ⟨c',[],[],[]⟩ [] w' /\ (w'.os=w.os/\w'.tape=w.tape/\w'.output=w.output/\w.heap.size<=w'.heap.size)/\∀ k,k < w.heap.size->w'.heap[k]? = w.heap[k]?:=by
 refine (h _ w vs hE rfl hv).mono ?_;rintro e w' ⟨v,rfl,hm,_,d',os,E',he,hβ,nD,hn,Aq,rfl⟩;have hb:E'.β=[]:=hβ;have ht:E'.tk=[]:=List.eq_nil_of_length_eq_zero nD;have hτ:E'.τ=[]:=List.eq_nil_of_length_eq_zero (by rw [he.tl,ht];rfl);have lh:os=[]:=List.eq_nil_of_length_eq_zero (by rw [<- he.len,hb];rfl);subst lh;obtain ⟨c',β',bF,τ'⟩:=E';simp only at hb ht hτ;subst hb ht hτ
 exact ⟨v,c',rfl,Aq,hn.c,he,⟨hm.os,hm.tape,hm.output,hm.size⟩,fun k hk=>hm.block k hk (by
  rintro (h1 | ⟨y,h1,_⟩)
  ·simp at h1
  ·simp at h1)⟩
abbrev Cy:Value:=.agg #[.int .i64 0,.int .i64 0]
theorem ckI (e:Bool) (n:Nat) (x:Int) (w:World):(Instr.checkKey e (n + 1) 3 (.int .i64 x)).run Tryz.prog w = .ok () w:=by
 simp [Instr.checkKey,run_underlying Tryz.underlying3]
theorem LS:Tryz.prog.plainKey 3=true:=by unfold Program.plainKey;simp [Tryz.underlying3]
theorem Hj (e:Bool) (n:Nat) (w:World):(Instr.checkKey e (n + 1 + 1) 103 Cy).run Tryz.prog w = .ok () w:=by
 have hI:=ckI e n 0 w;have h0:=run_part_plain (P:=Tryz.prog) (w:=w) LS (xs:=#[.int .i64 0,.int .i64 0]) (off:=0) (v:=.int .i64 0) rfl;have h1:=run_part_plain (P:=Tryz.prog) (w:=w) LS (xs:=#[.int .i64 0,.int .i64 0]) (off:=1) (v:=.int .i64 0) rfl;unfold Instr.checkKey;simp [run_underlying Tryz.underlying103,hI,h0,h1,Result.andThen]
theorem Hk (e:Bool) (w:World):(Instr.checkKey e 10000 103 Cy).run Tryz.prog w = .ok () w:=Hj e 9998 w
theorem Hl (w:World):(Instr.findKey 103 Cy []).run Tryz.prog w = .ok none w:=MapKept.run_findKey Tryz.underlying103 rfl
theorem Km (r:Nat) (w:World) (hr:w.heap[r]? = some (.map #[] 0)):(Instr.lookup 98 (.map (some r)) Cy false).run Tryz.prog w = .ok (.int .i64 0) w:=by
 simp only [Instr.lookup];simp [run_underlying Tryz.underlying98,MapKept.run_getObj_map hr,Hk,Hl,Result.andThen,zeroValue,Tryz.t3]
theorem Kn (r:Nat) (w:World) (hr:w.heap[r]? = some (.map #[] 0)):(Instr.mapUpdate 98 (.map (some r)) Cy (.int .i64 1)).run Tryz.prog w = .ok () { w with heap:=w.heap.setIfInBounds r (.map #[{ key:=Cy,val:=.int .i64 1,born:=0 }] 1) }:=by
 simp only [Instr.mapUpdate];simp [run_underlying Tryz.underlying98,MapKept.run_getObj_map hr,Hk,Hl,MapKept.run_setObj_map _ hr,Result.andThen]
end Go.Proofs.YtfifjddnnmfeoaaGreat
set_option maxRecDepth 100000
namespace Go.Proofs.YtfifjddnnmfeoaaGreat
open Go Go.RowKit Dv Tryz
inductive Val where
 | mk (k n:Int) (s:ByteArray) (ks:List Val)
def Val.k:Val->Int | .mk k _ _ _=>k
def Val.n:Val->Int | .mk _ n _ _=>n
def Val.s:Val->ByteArray | .mk _ _ s _=>s
def Val.ks:Val->List Val | .mk _ _ _ ks=>ks
mutual
def Val.wt:Val->Nat
 | .mk _ _ s ks=>64 + s.size + Hm ks
def Hm:List Val->Nat
 | []=>0
 | v :: r=>v.wt + Hm r
end
end Go.Proofs.YtfifjddnnmfeoaaGreat
