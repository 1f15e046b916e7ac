/- Part 4 of the proof: lattice.bounds: all joins and meets; lattice.Build; Reading a lattice: Len, has, Name, Find, Join, Meet, Bottom; labels.Of; The checker's part, once check is known for lighter types; The checker's parts, once check is known for lighter types; The checker's one and check, once check is known for lighter types; so check; kinds.Count, resolve.nodes; the builder's level; The builder's end, loops, known; The builder's each, right, called; The builder's each of right; called; places; The builder's places; The builder's edge; The builder's node; Steps of a region that draws its order, one by one; What resolve.Build says of a schema; lattices in which nothing is wrong; resolve.Build; Reading a plan: Len, Root, Lattice, Node, Find; slices.Clone; of no plan as well; The reference of chapter 17: Great, Same; The program's comparing of schemas; The law's example: a type that leads to itself; The law of no plan: the call returns true; The document's relations: Leads; The document's lattices: Find, pairs, Leq, Loop; The document's lattices: what is wrong; The document's labels: over, Least, Of; The document's schemas: Find, word, all, Flat, End, Start; The document's schemas: Flat, End, Start; The document's schemas: named, unknown; The reference's Wrong returns what is wrong with a type; The document's schemas: what is wrong; The document's nodes: Same, of equal ones; the law's node; The document's nodes: node; The document's plan: Build. No condition. -/
import Derived.Test.YtfifjddnnmfeoaaGreatMh3
set_option linter.all false
set_option maxRecDepth 100000
namespace Go.Proofs.YtfifjddnnmfeoaaGreat
open Go Go.RowKit Dv Tryz
theorem nT (js:List Int) (bx:List (List DV)) (N n m:Nat):CcL bx N n m (cZ js) (cZ js):=by
 induction js with
 | nil=>exact rfl
 | cons z r ih=>exact ⟨_,_,rfl,rfl,ih⟩
theorem qa {n m:Nat} {tk:List TkE} (js:List Int):WeL n m tk (cZ js) (cZ js):=uS _ fun x hx=>by
 obtain ⟨z,_,rfl⟩:=List.mem_map.1 hx;exact ⟨_,rfl⟩
theorem KY (f:Nat->Nat) (js:List Int):renL f (cZ js)=cZ js:=by
 induction js with
 | nil=>rfl
 | cons z r ih=>simp only [cZ,List.map_cons,renL,renD] at ih ⊢;rw [ih]
theorem KZ (js:List Int):(cZ js).length=js.length:=by simp [cZ]
theorem EV (js:List Int) (i:Nat) (z:Int):(cZ js).set i (.v (.int .i64 z))=cZ (js.set i z):=by simp [cZ,List.map_set]
abbrev fC (ae:List ByteArray) (tc:List DV) (rows:List Nat) (js:List Int):List DV:=zi ae (.pt tc 0) (jQ rows) js
theorem Hz (ae:List ByteArray) (tc:List DV) (rows:List Nat) (js:List Int):(fC ae tc rows js).length=js.length + 3:=by simp [zi,cZ]
theorem po {ae:List ByteArray} {tc:List DV} {rows:List Nat} {js:List Int} {i k:Nat} {z:Int} (h:k=i + 3):(fC ae tc rows js).set k (.v (.int .i64 z))=fC ae tc rows (js.set i z):=by
 subst h;simp only [zi,List.set_cons_succ,EV]
theorem HA (f:Nat->Nat) (ae:List ByteArray) (tc:List DV) (rows:List Nat) (js:List Int):renL f (fC ae tc rows js)=fC ae tc rows js:=by
 simp only [zi,renL,KY];rfl
theorem AY {n m:Nat} {tk:List TkE} {l:List DV} {ae:List ByteArray} {tc:List DV} {rows:List Nat} {js:List Int} (h:l=fC ae tc rows js):WeL n m tk l (fC ae tc rows js):=by
 subst h;exact ⟨_,_,rfl,aw rfl,_,_,rfl,aw rfl,_,_,rfl,aw rfl,qa js⟩
def fM (f:Nat->Nat->Bool) (n a b:Nat):Option Nat:=ll (fun c=>f a c && f b c) f n
def gf (f:Nat->Nat->Bool) (n a b:Nat):Option Nat:=ll (fun c=>f c a && f c b) (fun x y=>f y x) n
theorem qL (f:Nat->Nat->Bool) (n a b:Nat):fM f n a b=fM f n b a:=by
 unfold fM;congr 1;funext c;exact Bool.and_comm _ _
theorem qM (f:Nat->Nat->Bool) (n a b:Nat):gf f n a b=gf f n b a:=by
 unfold gf;congr 1;funext c;exact Bool.and_comm _ _
def ke (f:Nat->Nat->Bool) (n a b:Nat):Bool:=(fM f n a b).isNone || (gf f n a b).isNone
def mP (f:Nat->Nat->Bool) (n b:Nat):Bool:=(List.range (b + 1)).any fun a=>ke f n a b
def JM (f:Nat->Nat->Bool) (n:Nat) (js:List Int) (a b:Nat):Prop:=js[a * 32 + b]? = some (oz (fM f n a b))/\js[1024 + (a * 32 + b)]? = some (oz (gf f n a b))
def r7 (js:List Int) (a b:Nat) (j m:Int):List Int:=(((js.set (a * 32 + b) j).set (b * 32 + a) j).set (1024 + (a * 32 + b)) m).set (1024 + (b * 32 + a)) m
theorem EW (js:List Int) (a b:Nat) (j m:Int):(r7 js a b j m).length=js.length:=by simp [r7]
theorem bE {js:List Int} {i k:Nat} {z:Int} (h:k≠i):(js.set k z)[i]? = js[i]?:=List.getElem?_set_ne h
theorem mQ {f:Nat->Nat->Bool} {n:Nat} {js:List Int} (hl:js.length=2048) {a b:Nat} (ha:a < 32) (hb:b < 32) {x y:Nat} (hx:x < 32) (hy:y < 32)
  (h:JM f n js x y∨(x=a/\y=b)∨(x=b/\y=a)):JM f n (r7 js a b (oz (fM f n a b)) (oz (gf f n a b))) x y:=by
 have key:(x=a/\y=b)∨(x=b/\y=a)∨(JM f n js x y/\¬ (x=a/\y=b)/\¬ (x=b/\y=a)):=by
  by_cases h1:x=a/\y=b
  ·exact .inl h1
  ·by_cases h2:x=b/\y=a
   ·exact .inr (.inl h2)
   ·rcases h with h | h | h
    ·exact .inr (.inr ⟨h,h1,h2⟩)
    ·exact (h1 h).elim
    ·exact (h2 h).elim
 rcases key with ⟨rfl,rfl⟩ | ⟨rfl,rfl⟩ | ⟨h,h1,h2⟩
 ·unfold JM r7;refine ⟨?_,?_⟩
  ·rw [bE (by omega),bE (by omega)];by_cases yL:x=y
   ·subst yL;rw [List.getElem?_set_self (by simp;omega)]
   ·rw [bE (by omega),List.getElem?_set_self (by omega)]
  ·by_cases yL:x=y
   ·subst yL;rw [List.getElem?_set_self (by simp;omega)]
   ·rw [bE (by omega),List.getElem?_set_self (by simp;omega)]
 ·unfold JM r7;rw [qL f n x y,qM f n x y];refine ⟨?_,?_⟩
  ·rw [bE (by omega),bE (by omega),List.getElem?_set_self (by simp;omega)]
  ·rw [List.getElem?_set_self (by simp;omega)]
 ·unfold JM r7;have g1:a * 32 + b≠x * 32 + y:=fun he=>h1 ⟨by omega,by omega⟩;have g2:b * 32 + a≠x * 32 + y:=fun he=>h2 ⟨by omega,by omega⟩;refine ⟨?_,?_⟩
  ·rw [bE (by omega),bE (by omega),bE g2,bE g1];exact h.1
  ·rw [bE (by omega),bE (by omega),bE (by omega),bE (by omega)];exact h.2
abbrev Jm (ae:List ByteArray) (tc:List DV) (rows:List Nat) (js:List Int) (e:Nat):St:=
 ⟨[(1,⟨[],.loc 1 0⟩),(3,⟨[],.loc 2 0⟩),(4,⟨[],.loc 3 0⟩),(15,⟨[],.v (.int .i64 (dz ae).length)⟩),(16,⟨[],.v (.int .i64 e)⟩)],
  [fC ae tc rows js,[.loc 0 0],[.fn 166 [] [.loc 1 0]],[.fn 167 [] [.loc 1 0]]],[]⟩
abbrev zl (ae:List ByteArray) (tc:List DV) (rows:List Nat) (js:List Int) (e f:Nat):St:=
 ⟨[(1,⟨[],.loc 1 0⟩),(3,⟨[],.loc 2 0⟩),(4,⟨[],.loc 3 0⟩),(15,⟨[],.v (.int .i64 (dz ae).length)⟩),(16,⟨[],.v (.int .i64 e)⟩),(5,⟨[],.loc 4 0⟩),(6,⟨[],.loc 5 0⟩)],
  [fC ae tc rows js,[.loc 0 0],[.fn 166 [] [.loc 1 0]],[.fn 167 [] [.loc 1 0]],[.v (.int .i64 e)],[.v (.int .i64 f)]],[]⟩
abbrev EX (ae:List ByteArray) (tc:List DV) (rows:List Nat) (js:List Int) (e f:Nat):St:=
 ⟨[(1,⟨[],.loc 1 0⟩),(3,⟨[],.loc 2 0⟩),(4,⟨[],.loc 3 0⟩),(15,⟨[],.v (.int .i64 (dz ae).length)⟩),(16,⟨[],.v (.int .i64 e)⟩),(5,⟨[],.loc 4 0⟩),(6,⟨[],.loc 6 0⟩)],
  [fC ae tc rows js,[.loc 0 0],[.fn 166 [] [.loc 1 0]],[.fn 167 [] [.loc 1 0]],[.v (.int .i64 e)],[.v (.int .i64 f)],[.v (.int .i64 (f + 1:Nat))]],[]⟩
abbrev EY (ae:List ByteArray) (tc:List DV) (rows:List Nat) (js:List Int) (e f:Nat):St:=
 ⟨[(1,⟨[],.loc 1 0⟩),(3,⟨[],.loc 2 0⟩),(4,⟨[],.loc 3 0⟩),(15,⟨[],.v (.int .i64 (dz ae).length)⟩),(16,⟨[],.v (.int .i64 e)⟩),(5,⟨[],.loc 4 0⟩),(6,⟨[],.loc 5 0⟩)],
  [fC ae tc rows js,[.loc 0 0],[.fn 166 [] [.loc 1 0]],[.fn 167 [] [.loc 1 0]],[.v (.int .i64 e)],[.v (.int .i64 (f + 1:Nat))],[.v (.int .i64 f)]],[]⟩
theorem HB (ae:List ByteArray) (tc:List DV) (rows:List Nat) (js:List Int) (e f:Nat):EX ae tc rows js e f=cE 5 6 (EY ae tc rows js e f):=by
 simp only [cE,renO,HA];rfl
def Ru (ae:List ByteArray) (tc:List DV) (rows:List Nat) (r:DV) (os:List (List DV)) (_:List TkE):Prop:=
 ∃ K0,os=[fC ae tc rows K0]/\K0.length=2048/\r = .v (.int .i64 (oz (bi (mP (aH rows) ae.length) ae.length))) /\
  (bi (mP (aH rows) ae.length) ae.length=none->∀ x y,x < ae.length->y < ae.length->JM (aH rows) ae.length K0 x y)
theorem wW (ae:List ByteArray) (tc:List DV) (rows:List Nat) (js:List Int) (hr:dx rows) (hlen:rows.length=ae.length) (hn:ae.length<=32) (hj:js.length=2048) :
  Ev Tryz.prog 101 [.loc 0 0] [fC ae tc rows js] [] (Ru ae tc rows):=by
 have hN:=bg ae;refine ev_go (P:=Tryz.prog) tt tt_ok 5000 73 [.tmp 2] Tryz.func101 rfl Tryz.ntmps101 rfl (nL rfl) (fun E9 w9 hn9 hm9=>?_);refine bU (fun j st=>∃ (e:Nat) (js:List Int),st=Jm ae tc rows js e/\e<=ae.length/\js.length=2048/\(∀ b,b < e->mP (aH rows) ae.length b=false)/\(∀ x y,x < e->y < e->JM (aH rows) ae.length js x y)/\j=ae.length - e) ae.length (Jm ae tc rows js 0) (aS 4 rfl (by repeat' (first | exact rfl | exact aw rfl | exact qa _ | refine ⟨_,_,rfl,?_,?_⟩)) rfl rfl rfl (by repeat' (first | exact trivial | exact aw rfl | exact qa _ | refine ⟨⟨_,rfl,?_⟩,?_⟩))) ⟨0,js,rfl,by omega,hj,fun _ h=>by omega,fun _ _ h=>by omega,by omega⟩ ?_;rintro j st ⟨e,js,rfl,he,hj,iG,pq,rfl⟩;refine br (fun hL=>?_) (fun hL=>?_)
 ·have au:e < ae.length:=by have:=hL;simp [hN] at this;exact this
  refine KU (fun j st=>∃ (f:Nat) (js:List Int),st=zl ae tc rows js e f/\f<=e + 1/\js.length=2048/\(∀ a,a < f->ke (aH rows) ae.length a e=false)/\(∀ x y,x < e->y < e->JM (aH rows) ae.length js x y)/\(∀ x,x < f->JM (aH rows) ae.length js x e/\JM (aH rows) ae.length js e x)/\j=e + 1 - f) (e + 1) (zl ae tc rows js e 0) (.KR (aS 6 rfl (by repeat' (first | exact rfl | exact aw rfl | exact qa _ | refine ⟨_,_,rfl,?_,?_⟩)) rfl rfl rfl (by repeat' (first | exact trivial | exact aw rfl | exact qa _ | refine ⟨⟨_,rfl,?_⟩,?_⟩)))) ⟨0,js,rfl,by omega,hj,fun _ h=>by omega,pq,fun _ h=>by omega,by omega⟩ ?_;clear pq hj;rintro j st ⟨f,js,rfl,hf,hj,LL,pq,Dd,rfl⟩;refine br (fun Jn=>?_) (fun Jn=>?_)
  ·have GO:f<=e:=by have:=Jn;simp at this;exact this
   have om:=tj ae (.pt tc 0) (jQ rows) js 169 166 Nb DX
    [.pt [Jk (fC ae tc rows js)] 0,.pt [.v (.int .i64 f)] 0,.pt [.v (.int .i64 e)] 0] [.pt [.pt (fC ae tc rows js) 0] 0] (fun c=>aH rows f c && aH rows e c) (aH rows) ax ax rfl rfl (by omega)
    (fun c hc=>Cn ae (.pt tc 0) rows js hr f e c (by omega) (by omega) (by omega)) (fun a b ha hb=>nR ae (.pt tc 0) rows js hr a b (by omega) (by omega))
   have lT:=tj ae (.pt tc 0) (jQ rows) js 170 167 Nc DY
    [.pt [Jl (fC ae tc rows js)] 0,.pt [.v (.int .i64 f)] 0,.pt [.v (.int .i64 e)] 0] [.pt [.pt (fC ae tc rows js) 0] 0] (fun c=>aH rows c f && aH rows c e) (fun x y=>aH rows y x) ax ax rfl rfl (by omega)
    (fun c hc=>Co ae (.pt tc 0) rows js hr f e c (by omega) (by omega) (by omega)) (fun a b ha hb=>nS ae (.pt tc 0) rows js hr a b (by omega) (by omega))
   refine nJ IX om (by repeat' (first | exact rfl | exact trivial | exact Or.inr (Or.inl ⟨_,rfl⟩) | exact Or.inr ⟨_,rfl⟩ | exact Or.inl ⟨rfl,rfl⟩ | exact Or.inl rfl | refine Or.inr ⟨_,_,rfl,Nat.zero_le _,rfl,?_⟩ | refine ⟨_,_,rfl,?_,?_⟩ | refine ⟨_,rfl,?_⟩ | exact nT _ _ _ _ _ | refine Or.inr (Or.inr (Or.inr ⟨_,_,rfl,?_⟩)) | exact Or.inl rfl | refine Or.inr ?_)) rfl ?_;refine nJ IX lT (by repeat' (first | exact rfl | exact trivial | exact Or.inr (Or.inl ⟨_,rfl⟩) | exact Or.inr ⟨_,rfl⟩ | exact Or.inl ⟨rfl,rfl⟩ | exact Or.inl rfl | refine Or.inr ⟨_,_,rfl,Nat.zero_le _,rfl,?_⟩ | refine ⟨_,_,rfl,?_,?_⟩ | refine ⟨_,rfl,?_⟩ | exact nT _ _ _ _ _ | refine Or.inr (Or.inr (Or.inr ⟨_,_,rfl,?_⟩)) | exact Or.inl rfl | refine Or.inr ?_)) rfl ?_
   have N5:pickB (decide (oz (fM (aH rows) ae.length f e) = -1)) true (decide (oz (gf (aH rows) ae.length f e) = -1))=ke (aH rows) ae.length f e:=by
    unfold ke
    cases fM (aH rows) ae.length f e with
    | none=>rfl
    | some j=>
     have:decide (oz (some j) = -1)=false:=by simp [oz]
     rw [this]
     cases gf (aH rows) ae.length f e with
     | none=>rfl
     | some m=>
      have:decide (oz (some m) = -1)=false:=by simp [oz]
      rw [this];rfl
   refine br (fun g=>?_) (fun g=>?_)
   ·have g:ke (aH rows) ae.length f e=true:=N5.symm.trans g
    have hb:mP (aH rows) ae.length e=true:=by
     unfold mP;rw [List.any_eq_true];exact ⟨f,by simp;omega,g⟩
    have yi:=dg (p:=mP (aH rows) ae.length) au hb iG;refine ⟨.v (.int .i64 e),[fC ae tc rows js],ax,(by repeat' (first | exact rfl | exact trivial | exact Or.inr (Or.inl ⟨_,rfl⟩) | exact Or.inr ⟨_,rfl⟩ | exact Or.inl ⟨rfl,rfl⟩ | exact Or.inl rfl | refine Or.inr ⟨_,_,rfl,Nat.zero_le _,rfl,?_⟩ | refine ⟨_,_,rfl,?_,?_⟩ | refine ⟨_,rfl,?_⟩ | exact nT _ _ _ _ _ | refine Or.inr (Or.inr (Or.inr ⟨_,_,rfl,?_⟩)) | exact Or.inl rfl | refine Or.inr ?_)),js,rfl,hj,?_,fun h=>by rw [yi] at h;cases h⟩;rw [yi];rfl
   ·have g:ke (aH rows) ae.length f e=false:=N5.symm.trans g;refine eo [0] (fun _=>false) mo (by decide +kernel) ?_;have ed:=Hz ae tc rows js;refine ⟨⟨by omega,by omega⟩,?_⟩;refine ⟨⟨by omega,by omega⟩,?_⟩;refine ⟨by rw [ed];omega,?_⟩;refine ⟨⟨by omega,by omega⟩,?_⟩;refine ⟨⟨by omega,by omega⟩,?_⟩;refine ⟨by rw [List.length_set,ed];omega,?_⟩;refine eo [0] (fun _=>false) mo (by decide +kernel) ?_;refine ⟨⟨by omega,by omega⟩,?_⟩;refine ⟨⟨by omega,by omega⟩,?_⟩;refine ⟨by rw [List.length_set,List.length_set,ed];omega,?_⟩;refine ⟨⟨by omega,by omega⟩,?_⟩;refine ⟨⟨by omega,by omega⟩,?_⟩;refine ⟨by rw [List.length_set,List.length_set,List.length_set,ed];omega,?_⟩
    have gj:((((fC ae tc rows js).set (0 + 0 + 3 + (f:Int).toNat * 32 + (e:Int).toNat * 1) (DV.v (.int .i64 (oz (fM (aH rows) ae.length f e))))).set (0 + 0 + 3 + (e:Int).toNat * 32 + (f:Int).toNat * 1) (DV.v (.int .i64 (oz (fM (aH rows) ae.length f e))))).set (0 + 0 + 1027 + (f:Int).toNat * 32 + (e:Int).toNat * 1) (DV.v (.int .i64 (oz (gf (aH rows) ae.length f e))))).set (0 + 0 + 1027 + (e:Int).toNat * 32 + (f:Int).toNat * 1) (DV.v (.int .i64 (oz (gf (aH rows) ae.length f e))))=fC ae tc rows (r7 js f e (oz (fM (aH rows) ae.length f e)) (oz (gf (aH rows) ae.length f e))):=by
     rw [po (i:=f * 32 + e) (by omega),po (i:=e * 32 + f) (by omega),po (i:=1024 + (f * 32 + e)) (by omega),po (i:=1024 + (e * 32 + f)) (by omega)];rfl
    refine ⟨zl ae tc rows (r7 js f e (oz (fM (aH rows) ae.length f e)) (oz (gf (aH rows) ae.length f e))) e (f + 1),
     .trans (.KR (s2:=EX ae tc rows (r7 js f e (oz (fM (aH rows) ae.length f e)) (oz (gf (aH rows) ae.length f e))) e f) (aS 7 rfl (by repeat' (first | exact rfl | exact aw rfl | exact AY gj | exact ay (bA (n:=e + 1) (by omega) (by omega)) | refine ⟨_,_,rfl,?_,?_⟩)) rfl rfl rfl (by repeat' (first | exact trivial | exact aw rfl | exact AY gj | exact ay (bA (n:=e + 1) (by omega) (by omega)) | refine ⟨⟨_,rfl,?_⟩,?_⟩))))
      (.trans (.yO 5 6 (EY ae tc rows (r7 js f e (oz (fM (aH rows) ae.length f e)) (oz (gf (aH rows) ae.length f e))) e f) _ (HB _ _ _ _ _ _) rfl rfl rfl rfl) (.KR (aS 6 rfl (by repeat' (first | exact rfl | exact aw rfl | exact qa _ | refine ⟨_,_,rfl,?_,?_⟩)) rfl rfl rfl (by repeat' (first | exact trivial | exact aw rfl | exact qa _ | refine ⟨⟨_,rfl,?_⟩,?_⟩))))),
     e + 1 - (f + 1),by omega,f + 1,_,rfl,by omega,by rw [EW];exact hj,fun a ha=>?_,fun x y hx hy=>?_,fun x hx=>?_,rfl⟩
    ·rcases Nat.lt_succ_iff_lt_or_eq.1 ha with ha | rfl
     ·exact LL a ha
     ·exact g
    ·exact mQ hj (by omega) (by omega) (by omega) (by omega) (.inl (pq x y hx hy))
    ·rcases Nat.lt_succ_iff_lt_or_eq.1 hx with hx | rfl
     ·exact ⟨mQ hj (by omega) (by omega) (by omega) (by omega) (.inl (Dd x hx).1),mQ hj (by omega) (by omega) (by omega) (by omega) (.inl (Dd x hx).2)⟩
     ·exact ⟨mQ hj (by omega) (by omega) (by omega) (by omega) (.inr (.inl ⟨rfl,rfl⟩)),mQ hj (by omega) (by omega) (by omega) (by omega) (.inr (.inr ⟨rfl,rfl⟩))⟩
  ·have GO:f=e + 1:=by have:=Jn;simp at this;omega
   subst GO
   have hb:mP (aH rows) ae.length e=false:=by
    unfold mP;rw [List.any_eq_false];intro a ha;rw [LL a (by simpa using ha)];decide
   refine ⟨Jm ae tc rows js (e + 1),(aS 4 rfl (by repeat' (first | exact rfl | exact aw rfl | exact qa _ | exact ay (bA au (by omega)) | refine ⟨_,_,rfl,?_,?_⟩)) rfl rfl rfl (by repeat' (first | exact trivial | exact aw rfl | exact qa _ | exact ay (bA au (by omega)) | refine ⟨⟨_,rfl,?_⟩,?_⟩))),ae.length - (e + 1),by omega,e + 1,js,rfl,by omega,hj,fun b dY=>?_,fun x y hx hy=>?_,rfl⟩
   ·rcases Nat.lt_succ_iff_lt_or_eq.1 dY with h | rfl
    ·exact iG b h
    ·exact hb
   ·rcases Nat.lt_succ_iff_lt_or_eq.1 hx with hx | rfl
    ·rcases Nat.lt_succ_iff_lt_or_eq.1 hy with hy | rfl
     ·exact pq x y hx hy
     ·exact (Dd x (by omega)).1
    ·exact (Dd y (by omega)).2
 ·have bI:e=ae.length:=by have:=hL;simp [hN] at this;omega
  subst bI;refine ⟨.v (.int .i64 (-1)),[fC ae tc rows js],ax,(by repeat' (first | exact rfl | exact trivial | exact Or.inr (Or.inl ⟨_,rfl⟩) | exact Or.inr ⟨_,rfl⟩ | exact Or.inl ⟨rfl,rfl⟩ | exact Or.inl rfl | refine Or.inr ⟨_,_,rfl,Nat.zero_le _,rfl,?_⟩ | refine ⟨_,_,rfl,?_,?_⟩ | refine ⟨_,rfl,?_⟩ | exact nT _ _ _ _ _ | refine Or.inr (Or.inr (Or.inr ⟨_,_,rfl,?_⟩)) | exact Or.inl rfl | refine Or.inr ?_)),js,rfl,hj,?_,fun _=>pq⟩;rw [dK iG];rfl
def L2 (l:List Wd) (k:Nat):Int:=((l[k]?).getD (⟨ap,0⟩:Wd)).a
def latF (l:List Wd) (o:List (Wd × Wd)):Ft:=
 if (iL l o).1≠0 then iL l o
 else if (enumL l 0 l).1≠0 then enumL l 0 l
 else if (numF (az l) o).1≠0 then numF (az l) o
 else match bi (qJ l.length (hY l.length (fw (az l) o))) l.length with
  | some a=>(11,L2 l a)
  | none=>
   match bi (mP (hY l.length (fw (az l) o)) l.length) l.length with
   | some b=>(12,L2 l b)
   | none=>(0,0)
def K1 (l:List Wd) (o:List (Wd × Wd)) (d:DV):Prop:=
 ∃ aC js,fg (az l) aC/\aC.length<=l.length/\js.length=2048/\(∀ x y,x < l.length->y < l.length->JM (hY l.length (fw (az l) o)) l.length js x y) /\
  d = .pt (fC (az l) (cm (az l) aC) (closeR (dQ l.length (fw (az l) o)) l.length) js) 0
def zm (l:List Wd) (o:List (Wd × Wd)) (r:DV) (_:List (List DV)) (_:List TkE):Prop:=
 if (latF l o).1≠0 then r = .dV [.v (.pointer none),(latF l o).d] else ∃ d,K1 l o d/\r = .dV [d,(latF l o).d]
theorem uY {L:List ByteArray}:∀ {o:List (Wd × Wd)},(numF L o).1=0->Cf L.length (fw L o)
 | [],_=>by intro p hp;simp [fw] at hp
 | q :: r,h=>by
  rw [numF] at h;split at h
  ·cases h
  ·rename_i h1;split at h
   ·cases h
   ·rename_i h2;have ih:=uY (o:=r) h;intro p hp;simp only [fw,List.map_cons,List.mem_cons] at hp;rcases hp with rfl | hp
    ·obtain ⟨a,ha⟩:=Option.ne_none_iff_exists'.1 h1;obtain ⟨b,hb⟩:=Option.ne_none_iff_exists'.1 h2;simp only [KQ,ha,hb,Option.getD_some];exact ⟨(dR ha).1,(dR hb).1⟩
    ·exact ih p hp
theorem fN (l:List Wd):(az l).length=l.length:=by simp [az]
theorem qN {all:List Wd}:∀ {l:List Wd} {i:Nat},(enumL all i l).1=0->enumL all i l=(0,0)
 | [],_,_=>rfl
 | x :: r,i,h=>by
  rw [enumL] at h ⊢;split at h
  ·rename_i h1;exact (h1 h).elim
  ·rename_i h1;rw [if_neg h1];exact qN h
theorem tp {L:List ByteArray}:∀ {o:List (Wd × Wd)},(numF L o).1=0->numF L o=(0,0)
 | [],_=>rfl
 | q :: r,h=>by
  rw [numF] at h ⊢;split at h
  ·cases h
  ·rename_i h1;split at h
   ·cases h
   ·rename_i h2;rw [if_neg h1,if_neg h2];exact tp h
theorem pu {l:List Wd} {k:Nat} {w:Wd} (h:l[k]? = some w):L2 l k=w.a:=by simp [L2,h]
theorem K2 (n:Nat):vL (List.replicate n (.int .i64 0))=cZ (List.replicate n 0):=by
 induction n with
 | zero=>rfl
 | succ n ih=>simp only [List.replicate_succ,vL,cZ,List.map_cons] at ih ⊢;rw [ih]
theorem kg {l:List Wd} {o:List (Wd × Wd)} {f:Ft} {os:List (List DV)} {tk:List TkE} (h:latF l o=f) (hf:f.1≠0):zm l o (.dV [.v (.pointer none),f.d]) os tk:=by
 unfold zm;rw [h,if_pos hf]
theorem HC {l:List Wd} {o:List (Wd × Wd)} {d:DV} {os:List (List DV)} {tk:List TkE} (h:latF l o=(0,0)) (hd:K1 l o d):zm l o (.dV [d,Ft.d (0,0)]) os tk:=by
 unfold zm;rw [h,if_neg (by simp)];exact ⟨d,hd,rfl⟩
theorem HD (n m:Nat) (ae:List ByteArray) (tc:List DV) (rows:List Nat) (js:List Int):clB.clL n m (fC ae tc rows js)=true:=by
 have h:∀ l:List Int,clB.clL n m (cZ l)=true:=by
  intro l
  induction l with
  | nil=>rfl
  | cons z r ih=>simp only [cZ,List.map_cons,clB.clL,clB,Bool.true_and] at ih ⊢;exact ih
 simp only [zi,clB.clL,clB,h,jQ,Bool.and_self]
theorem wX (l:List Wd) (o:List (Wd × Wd)) (hs:wdsWt l<=1099511627776) (Gq:prsWt o<=1099511627776) :
  Ev Tryz.prog 43 [.sl 2 (bJ l) none,.sl 4 (oZ o) none] [] [] (zm l o):=by
 have vz:=cv l;have BI:=kL o;have mw:=fN l;have hF:=latF.eq_1 l o;refine ev_go (P:=Tryz.prog) tt tt_ok 5000 86 [.tmp 4,.cell 5 54] Tryz.func43 rfl Tryz.ntmps43 rfl (nL rfl) (fun E9 w9 hn9 hm9=>?_);refine call_p QU (Ci l o) ax rfl ?_;by_cases hm:(iL l o).1≠0
 ·rw [if_pos hm] at hF;refine br (fun h=>?_) (fun h=>?_)
  ·refine G7 mo (by decide +kernel) ?_;exact ⟨_,ax,kg (os:=[]) (tk:=[]) hF hm⟩
  ·exfalso;simp at h;exact hm h
 rw [if_neg hm] at hF;refine br (fun h=>?_) (fun _=>?_)
 ·exfalso;simp at h;exact hm h
 have Da:l ≠ []:=by
  rintro rfl;simp [iL] at hm
 have hl32:l.length<=32:=by
  rcases Nat.lt_or_ge 32 l.length with h | h
  ·simp [iL,Da,h] at hm
  ·exact h
 have oW:=wS l hs;unfold NU at oW;by_cases hE:(enumL l 0 l).1≠0
 ·rw [if_neg hE] at oW;rw [if_pos hE] at hF;refine call_p MW (oW) ax rfl ?_;refine br (fun h=>?_) (fun h=>?_)
  ·refine G7 mo (by decide +kernel) ?_;exact ⟨_,ax,kg (os:=[]) (tk:=[]) hF hE⟩
  ·exfalso;simp at h;exact hE h
 rw [if_neg hE] at hF;have hE:(enumL l 0 l).1=0:=by simpa using hE
 rw [if_pos hE] at oW;rw [qN hE] at oW;refine call_p MW (oW) ax rfl ?_;refine im Kz rfl (qq (az l) (by omega)) ax (fun r hr=>?_);obtain ⟨aC,hT,gk,rfl⟩:=hr;have zn:=r6 (az l) aC hT (by omega) o Gq;unfold NV at zn;by_cases hN:(numF (az l) o).1≠0
 ·rw [if_neg hN] at zn;rw [if_pos hN] at hF;refine call_p MX (zn) ax rfl ?_;refine br (fun h=>?_) (fun h=>?_)
  ·refine G7 mo (by decide +kernel) ?_;exact ⟨_,ax,kg (os:=[]) (tk:=[]) hF hN⟩
  ·exfalso;simp at h;exact hN h
 rw [if_neg hN] at hF;have hN:(numF (az l) o).1=0:=by simpa using hN
 rw [if_pos hN] at zn;rw [tp hN] at zn;have hP:=uY hN;rw [mw] at hP;have hPl:(fw (az l) o).length=o.length:=by simp [fw]
 generalize Tx:fw (az l) o=P at zn hF hP hPl;refine call_p MX (zn) ax rfl ?_;have hLn:(dz (az l)).length=l.length:=by rw [bg,mw]
 have hPb:P.length<=1099511627776:=by omega
 have Rx:=AN (n:=l.length) (by omega) P hP;have iZ:=iJ l.length P;have hr0:dQ l.length P ≠ []:=fun h=>Da (List.eq_nil_of_length_eq_zero (by rw [<- iZ,h];rfl));refine call_p QV (B8 l.length (by omega) P hP hPb) (by repeat' (first | exact rfl | exact trivial | exact Or.inr (Or.inl ⟨_,rfl⟩) | exact Or.inr ⟨_,rfl⟩ | exact Or.inl ⟨rfl,rfl⟩ | exact Or.inl rfl | refine Or.inr ⟨_,_,rfl,Nat.zero_le _,rfl,?_⟩ | refine ⟨_,_,rfl,?_,?_⟩ | refine ⟨_,rfl,?_⟩ | exact congrArg (fun z=>DV.v (.int .i64 z)) (congrArg Nat.cast hLn)| refine Or.inr (Or.inr (Or.inr ⟨_,_,rfl,?_⟩)) | exact Or.inl rfl | refine Or.inr ?_)) rfl ?_;have hlo:=zf _ Rx hr0;rw [iZ,Hv (by omega) hP] at hlo
 cases hA:bi (qJ l.length (hY l.length P)) l.length with
 | some a=>
  rw [hA] at hlo hF;simp only at hF;have LN:=(eM hA).1;obtain ⟨w,hw⟩:∃ w,l[a]? = some w:=⟨_,gE LN⟩;rw [pu hw] at hF;refine call_p MY (hlo) ax rfl ?_;refine G7 mo (by decide +kernel) ?_;refine ⟨oY w,⟨by omega,cJ hw⟩,?_⟩;exact ⟨_,ax,kg (os:=[]) (tk:=[]) hF (by simp)⟩
 | none=>
 rw [hA] at hlo hF;simp only at hF;refine call_p MY (hlo) ax rfl ?_;have dZ:=oC _ Rx hr0;rw [iZ] at dZ;have Ry:=kP Rx l.length (by omega);have N6:=eE (dQ l.length P) l.length;rw [iZ] at N6;refine call_p IK (dZ) ax rfl ?_;have Rz:(List.replicate 2048 (0:Int)).length=2048:=List.length_replicate
 have cA:CcL [] 0 0 0 (fC (az l) (cm (az l) aC) (closeR (dQ l.length P) l.length) (List.replicate 2048 0)) (.sl 1 (dz (az l)) none :: .pt (cm (az l) aC) 0 :: jQ (closeR (dQ l.length P) l.length) :: vL (List.replicate 2048 (.int .i64 0))):=by
  refine ⟨_,_,rfl,Or.inr (Or.inl ⟨_,rfl⟩),_,_,rfl,Or.inl rfl,_,_,rfl,Or.inl rfl,?_⟩;rw [K2];exact nT _ _ _ _ _
 have hbn:=wW (az l) (cm (az l) aC) _ (List.replicate 2048 0) Ry (by omega) (by omega) Rz;refine jq MZ rfl rfl cA ax hbn (fun r os tk h=>?_) (fun r nK h=>?_)
 ·obtain ⟨K0,rfl,_,rfl,_⟩:=h;refine ⟨rfl,fun nK h=>?_⟩;rw [List.mem_singleton.1 h];exact HD _ _ _ _ _ _
 obtain ⟨K0,h1,hj2,hr,pq⟩:=h;simp only [List.cons.injEq,and_true] at h1;subst h1
 have hB:bi (mP (aH (closeR (dQ l.length P) l.length)) (az l).length) (az l).length=bi (mP (hY l.length P) l.length) l.length:=by
  rw [mw];rfl
 rw [hB] at hr pq
 cases hb:bi (mP (hY l.length P) l.length) l.length with
 | some b=>
  rw [hb] at hr hF;subst hr;simp only at hF;have hbl:=(eM hb).1;obtain ⟨w,hw⟩:∃ w,l[b]? = some w:=⟨_,gE hbl⟩;rw [pu hw] at hF;refine G7 mo (by decide +kernel) ?_;refine ⟨oY w,⟨by simp only [oz];omega,cJ hw⟩,?_⟩;exact ⟨_,ax,kg (os:=[]) (tk:=[]) hF (by simp)⟩
 | none=>
  rw [hb] at hr hF;subst hr;simp only at hF;refine ⟨.dV [.pt (fC (az l) (cm (az l) aC) (closeR (dQ l.length P) l.length) K0) 0,Ft.d (0,0)],(by repeat' (first | exact rfl | exact trivial | exact Or.inr (Or.inl ⟨_,rfl⟩) | exact Or.inr ⟨_,rfl⟩ | exact Or.inl ⟨rfl,rfl⟩ | exact Or.inl rfl | refine Or.inr ⟨_,_,rfl,Nat.zero_le _,rfl,?_⟩ | refine ⟨_,_,rfl,?_,?_⟩ | refine ⟨_,rfl,?_⟩ | exact nT _ _ _ _ _ | refine Or.inr (Or.inr (Or.inr ⟨_,_,rfl,?_⟩)) | exact Or.inl rfl | refine Or.inr ?_)),HC (os:=[]) (tk:=[]) hF ⟨aC,K0,hT,by omega,hj2,?_,by rw [Tx]⟩⟩;rw [Tx];rw [mw] at pq;exact pq hb
section
variable (ae:List ByteArray) (tc:List DV) (rows:List Nat) (js:List Int)
theorem tq:ba Tryz.prog 195 [.pt (fC ae tc rows js) 0] (.v (.int .i64 ae.length)):=by
 refine ev_go (P:=Tryz.prog) tt tt_ok 5000 10 [.tmp 2] Tryz.func195 rfl Tryz.ntmps195 rfl (nL rfl) (fun E9 w9 hn9 hm9=>?_);refine (congrArg (fun z=>DV.v (.int .i64 z)) ?_:_=_);rw [bg]
theorem Cp (i:Int):ba Tryz.prog 155 [.pt (fC ae tc rows js) 0,.v (.int .i64 i)] (.v (.bool (decide (0<=i) && decide (i < ae.length)))):=by
 refine ev_go (P:=Tryz.prog) tt tt_ok 5000 13 [.tmp 4] Tryz.func155 rfl Tryz.ntmps155 rfl (nL rfl) (fun E9 w9 hn9 hm9=>?_);refine br (fun g=>?_) (fun g=>?_)
 ·have g:decide (0<=i)=true:=by simpa using g
  refine call_p D0 (tq ae tc rows js) ax rfl ?_;refine (congrArg (fun b=>DV.v (.bool b)) ?_:_=_);simp [g,pickB]
 ·have g:decide (0<=i)=false:=by simpa using g
  refine (congrArg (fun b=>DV.v (.bool b)) ?_:_=_);simp [g,pickB]
theorem mR {a:Nat} (h:a < ae.length):ba Tryz.prog 155 [.pt (fC ae tc rows js) 0,.v (.int .i64 a)] (.v (.bool true)):=by
 have:=Cp ae tc rows js a;have e:(decide (0<=(a:Int)) && decide ((a:Int) < ae.length))=true:=by simp [h]
 rw [e] at this;exact this
end
theorem zo (ae:List ByteArray) (aC rows:List Nat) (js:List Int) (s:ByteArray) (hT:fg ae aC) (hl:aC.length<=1099511627776) :
  ba Tryz.prog 41 [.pt (fC ae (cm ae aC) rows js) 0,.v (.string s)] (EO (dc ae s)):=by
 have h:=fv ae aC s hT hl;refine ev_go (P:=Tryz.prog) tt tt_ok 5000 16 [.tmp 4,.tmp 5] Tryz.func41 rfl Tryz.ntmps41 rfl (nL rfl) (fun E9 w9 hn9 hm9=>?_)
 cases hx:dc ae s with
 | none=>
  rw [hx] at h;refine call_p qi (h) ax rfl ?_;exact ⟨_,ax,rfl⟩
 | some k=>
  rw [hx] at h;refine call_p qi (h) ax rfl ?_;exact ⟨_,ax,rfl⟩
theorem wY {l:List DV} {k b:Nat} {x:DV} (hb:b < 32) (h:l[k + b]? = some x):(((l.drop k).take 32).drop b).take 1=[x]:=by
 have h1:((l.drop k).take 32)[b]? = some x:=by
  rw [List.getElem?_take,if_pos hb,List.getElem?_drop];exact h
 rw [List.drop_eq_getElem_cons (gS h1).1];rw [gE (gS h1).1] at h1;simp only [oI] at h1;rw [h1];rfl
section
variable (ae:List ByteArray) (tc:List DV) (rows:List Nat) (js:List Int)
theorem zp (a b:Nat) (z:Int) (ha:a < ae.length) (hb:b < ae.length) (hn:ae.length<=32) (hz:js[a * 32 + b]? = some z) :
  ba Tryz.prog 173 [.pt (fC ae tc rows js) 0,.v (.int .i64 a),.v (.int .i64 b)] (.v (.int .i64 z)):=by
 refine ev_go (P:=Tryz.prog) tt tt_ok 5000 25 [.tmp 6] Tryz.func173 rfl Tryz.ntmps173 rfl (nL rfl) (fun E9 w9 hn9 hm9=>?_);refine call_p AA (mR ae tc rows js ha) ax rfl ?_;refine call_p AA (mR ae tc rows js hb) ax rfl ?_;refine ⟨_,⟨⟨by omega,by omega⟩,rfl⟩,?_⟩;refine ⟨_,⟨⟨by omega,by omega⟩,wY (x:=.v (.int .i64 z)) (by omega) ?_⟩,?_⟩
 ·rw [show 0 + 3 + (a:Int).toNat * 32 + (0 + (b:Int).toNat * 1)=(a * 32 + b) + 3 by omega];simp only [zi,List.getElem?_cons_succ,cZ,List.getElem?_map,hz,Option.map_some]
 exact (rfl:_=_)
theorem zq (a b:Nat) (z:Int) (ha:a < ae.length) (hb:b < ae.length) (hn:ae.length<=32) (hz:js[1024 + (a * 32 + b)]? = some z) :
  ba Tryz.prog 201 [.pt (fC ae tc rows js) 0,.v (.int .i64 a),.v (.int .i64 b)] (.v (.int .i64 z)):=by
 refine ev_go (P:=Tryz.prog) tt tt_ok 5000 25 [.tmp 6] Tryz.func201 rfl Tryz.ntmps201 rfl (nL rfl) (fun E9 w9 hn9 hm9=>?_);refine call_p AA (mR ae tc rows js ha) ax rfl ?_;refine call_p AA (mR ae tc rows js hb) ax rfl ?_;refine ⟨_,⟨⟨by omega,by omega⟩,rfl⟩,?_⟩;refine ⟨_,⟨⟨by omega,by omega⟩,wY (x:=.v (.int .i64 z)) (by omega) ?_⟩,?_⟩
 ·rw [show 0 + 1027 + (a:Int).toNat * 32 + (0 + (b:Int).toNat * 1)=(1024 + (a * 32 + b)) + 3 by omega];simp only [zi,List.getElem?_cons_succ,cZ,List.getElem?_map,hz,Option.map_some]
 exact (rfl:_=_)
end
theorem tu {iw:Nat->Bool} {pb:Nat->Nat->Bool}:∀ {e k:Nat},bestA iw pb e=some k->iw k=true
 | 0,k,h=>by cases h
 | e + 1,k,h=>by
  rw [bestA] at h;split at h
  ·rename_i h1;simp only [oI] at h;subst h;simp only [Bool.and_eq_true] at h1;exact h1.1
  ·exact tu h
theorem qO {iw:Nat->Bool} {pb:Nat->Nat->Bool} {n k:Nat} (h:ll iw pb n=some k):k < n/\iw k=true/\∀ c,c < n->iw c=true->pb k c=true:=by
 unfold ll at h;split at h
 ·cases h
 ·rename_i o ho;split at h
  ·cases h
  ·rename_i h1;simp only [oI] at h;subst h;refine ⟨mO ho,tu ho,fun c hc hp=>?_⟩;simp only [List.any_eq_true,List.mem_range,Bool.and_eq_true,Bool.not_eq_true',not_exists,not_and] at h1;have:=h1 c hc hp;simpa using this
structure kh (f:Nat->Nat->Bool) (n:Nat):Prop where
 pos:0 < n
 rfl':∀ a,a < n->f a a=true
 tr:∀ a b c,a < n->b < n->c < n->f a b=true->f b c=true->f a c=true
 N7:∀ a b,a < n->b < n->f a b=true->f b a=true->a=b
 jn:∀ a b,a < n->b < n->∃ k,fM f n a b=some k
 mt:∀ a b,a < n->b < n->∃ k,gf f n a b=some k
theorem zr {f:Nat->Nat->Bool} {n a b k:Nat} (h:fM f n a b=some k):k < n/\f a k=true/\f b k=true/\∀ c,c < n->f a c=true->f b c=true->f k c=true:=by
 obtain ⟨h1,h2,h3⟩:=qO h;simp only [Bool.and_eq_true] at h2;exact ⟨h1,h2.1,h2.2,fun c hc ha hb=>h3 c hc (by simp [ha,hb])⟩
theorem lH {f:Nat->Nat->Bool} {n a b k:Nat} (h:gf f n a b=some k):k < n/\f k a=true/\f k b=true/\∀ c,c < n->f c a=true->f c b=true->f c k=true:=by
 obtain ⟨h1,h2,h3⟩:=qO h;simp only [Bool.and_eq_true] at h2;exact ⟨h1,h2.1,h2.2,fun c hc ha hb=>h3 c hc (by simp [ha,hb])⟩
def mS (f:Nat->Nat->Bool) (l:List Nat) (c:Nat):Bool:=l.all fun i=>f i c
def EZ (f:Nat->Nat->Bool) (n:Nat) (l:List Nat) (c:Nat):Bool:=mS f l c && (List.range n).all fun d=>!mS f l d || f c d
def gV (f:Nat->Nat->Bool) (n:Nat) (l:List Nat):Option Nat:=bi (EZ f n l) n
theorem ki {f:Nat->Nat->Bool} {n:Nat} {l:List Nat} {c:Nat}:EZ f n l c=true↔mS f l c=true/\∀ d,d < n->mS f l d=true->f c d=true:=by
 unfold EZ;simp only [Bool.and_eq_true,List.all_eq_true,List.mem_range,Bool.or_eq_true,Bool.not_eq_true'];constructor
 ·rintro ⟨h1,h2⟩;refine ⟨h1,fun d hd ho=>?_⟩;rcases h2 d hd with h | h
  ·rw [ho] at h;cases h
  ·exact h
 ·rintro ⟨h1,h2⟩;refine ⟨h1,fun d hd=>?_⟩;cases ho:mS f l d
  ·exact .inl rfl
  ·exact .inr (h2 d hd ho)
theorem tv {f:Nat->Nat->Bool} {n:Nat} (hL:kh f n) {l:List Nat} {c:Nat} (hc:c < n) (h:EZ f n l c=true):gV f n l=some c:=by
 refine dg hc h fun a ha=>?_;cases h2:EZ f n l a
 ·rfl
 ·obtain ⟨h3,h4⟩:=ki.1 h;obtain ⟨h5,h6⟩:=ki.1 h2;have:=hL.N7 a c (by omega) hc (h6 c hc h3) (h4 a (by omega) h5);omega
theorem lK {f:Nat->Nat->Bool} {n c:Nat} (hL:kh f n) (hc:c < n) (h:∀ d,d < n->f c d=true):gV f n []=some c:=
 tv hL hc (ki.2 ⟨rfl,fun d hd _=>h d hd⟩)
theorem oD {f:Nat->Nat->Bool} {n c k i:Nat} {l:List Nat} (hL:kh f n) (hl:∀ x∈l,x < n) (hi:i < n) (h:gV f n l=some c) (hk:fM f n c i=some k):gV f n (l ++ [i])=some k:=by
 obtain ⟨h1,h2,_⟩:=eM h;obtain ⟨h3,h4⟩:=ki.1 h2;obtain ⟨g1,g2,g3,g4⟩:=zr hk;simp only [mS,List.all_eq_true] at h3;refine tv hL g1 (ki.2 ⟨?_,fun d hd ho=>?_⟩)
 ·simp only [mS,List.all_eq_true,List.mem_append,List.mem_singleton];rintro x (hx | rfl)
  ·exact hL.tr x c k (hl x hx) h1 g1 (h3 x hx) g2
  ·exact g3
 ·simp only [mS,List.all_eq_true,List.mem_append,List.mem_singleton] at ho;refine g4 d hd (h4 d hd ?_) (ho i (.inr rfl));simp only [mS,List.all_eq_true];exact fun x hx=>ho x (.inl hx)
theorem nU {f:Nat->Nat->Bool} {n c:Nat} {l:List Nat} (h:gV f n l=some c):c < n:=(eM h).1
abbrev Jo (L:List DV) (n b e:Nat):St:=
 ⟨[(0,⟨[],.pt L 0⟩),(3,⟨[],.v (.int .i64 b)⟩),(9,⟨[],.v (.int .i64 n)⟩),(10,⟨[],.v (.int .i64 e)⟩)],[],[]⟩
theorem uZ (ae:List ByteArray) (tc:List DV) (rows:List Nat) (js:List Int) {f:Nat->Nat->Bool} (hL:kh f ae.length) (hn:ae.length<=32) (hj:∀ x y,x < ae.length->y < ae.length->JM f ae.length js x y) :
  ba Tryz.prog 138 [.pt (fC ae tc rows js) 0] (.v (.int .i64 (oz (gV f ae.length [])))):=by
 have hlen:=tq ae tc rows js;have pT:=hL.pos;refine ev_go (P:=Tryz.prog) tt tt_ok 5000 19 [.tmp 2] Tryz.func138 rfl Tryz.ntmps138 rfl (nL rfl) (fun E9 w9 hn9 hm9=>?_);refine call_p D0 (hlen) ax rfl ?_;refine br (fun g=>?_) (fun g=>?_)
 ·exfalso;simp at g;simp [g] at pT
 refine call_p D0 (hlen) ax rfl ?_;refine bU (fun j st=>∃ e b:Nat,st=Jo (fC ae tc rows js) ae.length b e/\e<=ae.length/\b < ae.length/\(∀ x,x < e->f b x=true)/\j=ae.length - e) ae.length (Jo (fC ae tc rows js) ae.length 0 0) (aq ⟨_,rfl⟩ wA rfl rfl rfl wB) ⟨0,0,rfl,by omega,by omega,fun _ h=>by omega,by omega⟩ ?_;rintro j st ⟨e,b,rfl,he,hb,iA,rfl⟩;refine br (fun RA=>?_) (fun RA=>?_)
 ·have au:e < ae.length:=by have:=RA;simp at this;exact this
  obtain ⟨k,hk⟩:=hL.mt b e hb au;obtain ⟨g1,g2,g3,g4⟩:=lH hk;have hz:=(hj b e hb au).2;rw [hk] at hz;refine call_p Ni (zq ae tc rows js b e k hb au hn hz) ax rfl ?_;refine ⟨Jo (fC ae tc rows js) ae.length k (e + 1),(aq ⟨_,rfl⟩ wA rfl rfl rfl (ah au)),ae.length - (e + 1),by omega,e + 1,k,rfl,by omega,g1,fun x hx=>?_,rfl⟩;rcases Nat.lt_succ_iff_lt_or_eq.1 hx with hx | rfl
  ·exact hL.tr k b x g1 hb (by omega) g2 (iA x hx)
  ·exact g3
 ·have bI:e=ae.length:=by have:=RA;simp at this;omega
  subst bI;rw [lK hL hb iA];exact (rfl:_=_)
def labW (L:List ByteArray):List Wd->Ft
 | []=>(0,0)
 | w :: r=>if dc L w.s=none then (17,w.a) else labW L r
def u0 (L:List ByteArray) (l:List Wd):List Nat:=l.map fun w=>(dc L w.s).getD 0
def zs (f:Nat->Nat->Bool) (L:List ByteArray) (l:List Wd):Int:=if (labW L l).1=0 then oz (gV f L.length (u0 L l)) else 0
def K3 (f:Nat->Nat->Bool) (L:List ByteArray) (l:List Wd):DV:=.dV [.v (.int .i64 (zs f L l)),(labW L l).d]
theorem Cq {L:List ByteArray} {l:List Wd} {e:Nat} {w:Wd} (h:l[e]? = some w):labW L (l.drop e)=if dc L w.s=none then (17,w.a) else labW L (l.drop (e + 1)):=by
 rw [drop_cons h,labW]
theorem tw {L:List ByteArray} {l:List Wd} {e i:Nat} {w:Wd} (h:l[e]? = some w) (hi:dc L w.s=some i):u0 L (l.take (e + 1))=u0 L (l.take e) ++ [i]:=by
 rw [List.take_add_one,h];simp [u0,hi]
abbrev Jp (L:List DV) (l:List Wd) (b e:Nat):St:=
 ⟨[(0,⟨[],.pt L 0⟩),(5,⟨[],.loc 0 0⟩),(6,⟨[],.v (.int .i64 b)⟩),(16,⟨[],.sl 2 (bJ l) none⟩),(17,⟨[],.v (.int .i64 (bJ l).length)⟩),(18,⟨[],.v (.int .i64 e)⟩)],[[.v (.int .i64 0),.v (.int .i64 0)]],[]⟩
theorem E4 (ae:List ByteArray) (aC rows:List Nat) (js:List Int) (hT:fg ae aC) (gk:aC.length<=1099511627776) {f:Nat->Nat->Bool} (hL:kh f ae.length) (hn:ae.length<=32) (hj:∀ x y,x < ae.length->y < ae.length->JM f ae.length js x y)
  (l:List Wd) (hs:wdsWt l<=1099511627776) :
  ba Tryz.prog 106 [.pt (fC ae (cm ae aC) rows js) 0,.sl 2 (bJ l) none] (K3 f ae l):=by
 have vz:=cv l;have N8:=uZ ae (cm ae aC) rows js hL hn hj
 have pU:∃ b,gV f ae.length []=some b:=by
  have:∀ e,e<=ae.length->∃ b,b < ae.length/\∀ x,x < e->f b x=true:=by
   intro e
   induction e with
   | zero=>intro _;exact ⟨0,hL.pos,fun _ h=>by omega⟩
   | succ e ih=>
    intro he;obtain ⟨b,hb,iA⟩:=ih (by omega);obtain ⟨k,hk⟩:=hL.mt b e hb (by omega);obtain ⟨g1,g2,g3,_⟩:=lH hk;refine ⟨k,g1,fun x hx=>?_⟩;rcases Nat.lt_succ_iff_lt_or_eq.1 hx with hx | rfl
    ·exact hL.tr k b x g1 hb (by omega) g2 (iA x hx)
    ·exact g3
  obtain ⟨b,hb,iA⟩:=this ae.length (Nat.le_refl _);exact ⟨b,lK hL hb iA⟩
 obtain ⟨b0,gj⟩:=pU;rw [gj] at N8;refine ev_go (P:=Tryz.prog) tt tt_ok 5000 41 [.tmp 4,.cell 5 54] Tryz.func106 rfl Tryz.ntmps106 rfl (nL rfl) (fun E9 w9 hn9 hm9=>?_);refine call_p M7 (N8) ax rfl ?_;refine bU (fun j st=>∃ e b:Nat,st=Jp (fC ae (cm ae aC) rows js) l b e/\e<=l.length/\labW ae l=labW ae (l.drop e)/\gV f ae.length (u0 ae (l.take e))=some b/\(∀ x∈u0 ae (l.take e),x < ae.length)/\j=l.length - e) l.length (Jp (fC ae (cm ae aC) rows js) l b0 0) (aq ⟨_,rfl⟩ wA rfl rfl rfl wB) ⟨0,b0,rfl,by omega,rfl,gj,by simp [u0],by omega⟩ ?_;rintro j st ⟨e,b,rfl,he,bm,Hl,jP,rfl⟩;have hb:=nU Hl;refine br (fun Tz=>?_) (fun Tz=>?_)
 ·have au:e < l.length:=by simpa [aG] using Tz
  obtain ⟨w,hw⟩:∃ w,l[e]? = some w:=⟨_,gE au⟩;have aZ:=Cq (L:=ae) hw;have zj:=zo ae aC rows js w.s hT gk;refine ⟨oY w,⟨by omega,cJ hw⟩,?_⟩
  cases hx:dc ae w.s with
  | none=>
   rw [hx] at zj;refine call_p MR (zj) ax rfl ?_;rw [if_pos hx] at aZ;have h1:labW ae l=(17,w.a):=bm.trans aZ;refine G7 mo (by decide +kernel) ?_;refine ⟨_,?_,rfl⟩;rw [K3,zs,h1,if_neg (by simp)];exact ax
  | some i=>
   rw [hx] at zj;refine call_p MR (zj) ax rfl ?_;rw [if_neg (by rw [hx];simp)] at aZ;have hi:=(dR hx).1;obtain ⟨k,hk⟩:=hL.jn b i hb hi;have hz:=(hj b i hb hi).1;rw [hk] at hz;refine call_p Nf (zp ae (cm ae aC) rows js b i k hb hi hn hz) ax rfl ?_;refine ⟨Jp (fC ae (cm ae aC) rows js) l k (e + 1),(aq ⟨_,rfl⟩ wA rfl rfl rfl (ah au)),l.length - (e + 1),by omega,e + 1,k,rfl,by omega,bm.trans aZ,?_,?_,rfl⟩
   ·rw [tw hw hx];exact oD hL jP hi Hl hk
   ·rw [tw hw hx];intro x hm;rcases List.mem_append.1 hm with hm | hm
    ·exact jP x hm
    ·rw [List.mem_singleton.1 hm];exact hi
 ·have bI:e=l.length:=by
   have:=Tz;simp [aG] at this;omega
  subst bI;rw [List.drop_length] at bm;rw [List.take_length] at Hl;have h1:labW ae l=(0,0):=bm;refine ⟨_,?_,rfl⟩;rw [K3,zs,h1,if_pos rfl,Hl];exact ax
def zt (x:Ft × Int) (r:DV) (os:List (List DV)) (_:List TkE):Prop:=
 r=x.1.d/\∃ z:Int,os=[[.v (.int .i64 z)]]/\(x.1.1=0->z=x.2)
theorem jD {x:Ft × Int}:∀ r os tk,zt x r os tk->clB 0 0 r=true/\∀ nK∈os,clB.clL 0 0 nK=true:=by
 rintro r os tk ⟨rfl,z,rfl,_⟩;refine ⟨rfl,fun nK h=>?_⟩;simp only [List.mem_singleton] at h;subst h;rfl
def E5 (k:Nat):Prop:=∀ (t:Ty) (depth m:Int),t.wt<=k->t.wt<=1099511627776->0<=depth->depth<=25->0<=m->m<=512 ->
 Ev Tryz.prog 172 [.loc 0 0,.agg (gm t),.v (.int .i64 depth)] [[.v (.int .i64 m)]] [] (zt (wrong t depth m))
def iM (p:Ph) (t:Ty) (un:Bool) (depth m:Int):Ft × Int:=
 if p.bare=true then (if un=false∨b9 p t (ka p) bS=false then ((19,p.name.a),m) else ((0,0),m))
 else if (dX p).1≠0 then (dX p,m)
 else wrong t (depth + 1) m
theorem aU {x:Ft × Int} {f:Ft} {m z:Int} (h:x=(f,m)) (hz:f.1=0->z=m) {tk:List TkE}:zt x f.d [[.v (.int .i64 z)]] tk:=by
 subst h;exact ⟨rfl,z,rfl,hz⟩
theorem zu (k:Nat) (ih:E5 k) (p:Ph) (t:Ty) (un:Bool) (depth m:Int) (hk:t.wt<=k) (hp:p.wt<=1099511627776) (cO:t.wt<=1099511627776) (BR:0<=depth) (GA:depth<=24) (pe:0<=m) (iC:m<=512) :
  Ev Tryz.prog 262 [.loc 0 0,.agg (Db p (gm t)),.v (.bool un),.v (.int .i64 depth)] [[.v (.int .i64 m)]] [] (zt (iM p t un depth m)):=by
 have mh:=hp;simp only [Ph.wt] at mh;have oi:=j7 p (ka p) t bS hp (by simp only [Ph.wt,ka,wdsWt];omega) (qy t bS cO (by decide));have rT:=ih t (depth + 1) m hk cO (by omega) (by omega) pe iC;obtain ⟨u,us⟩:=t;have RB:=uM p (gm (.mk u us)) (.mk u us) rfl hp;have hS:=iM.eq_def p (.mk u us) un depth m;generalize iM p (.mk u us) un depth m=F at hS ⊢;obtain ⟨nm,bare,lab,wide,ck,cn,ca,cl⟩:=p;simp only at hS mh oi
 cases bare with
 | true=>
  rw [if_pos rfl] at hS
  cases un with
  | true=>
   refine ev_go (P:=Tryz.prog) tt tt_ok 5000 68 [.cell 8 54] Tryz.func262 rfl Tryz.ntmps262 rfl (nL rfl) (fun E9 w9 hn9 hm9=>?_);refine call_p D1 (oi) ax rfl ?_;refine br (fun q=>?_) (fun q=>?_)
   ·have q:b9 ⟨nm,true,lab,wide,ck,cn,ca,cl⟩ (.mk u us) (ka ⟨nm,true,lab,wide,ck,cn,ca,cl⟩) bS=false:=by simpa [show (lastG (21,false) [(18,true)]).snd=true from rfl,pickB] using q
    rw [if_pos (.inr q)] at hS;refine call_p cS (aV 19 nm.a) ax rfl ?_;exact ⟨_,_,ax,ax,aU (tk:=[]) (f:=(19,nm.a)) hS (fun _=>rfl)⟩
   ·have q:b9 ⟨nm,true,lab,wide,ck,cn,ca,cl⟩ (.mk u us) (ka ⟨nm,true,lab,wide,ck,cn,ca,cl⟩) bS=true:=by simpa [show (lastG (21,false) [(18,true)]).snd=true from rfl,pickB] using q
    rw [if_neg (by simp [q])] at hS;exact ⟨_,_,ax,ax,aU (tk:=[]) (f:=(0,0)) hS (fun _=>rfl)⟩
  | false=>
   refine ev_go (P:=Tryz.prog) tt tt_ok 5000 68 [.cell 8 54] Tryz.func262 rfl Tryz.ntmps262 rfl (nL rfl) (fun E9 w9 hn9 hm9=>?_);rw [if_pos (.inl rfl)] at hS;refine call_p cS (aV 19 nm.a) ax rfl ?_;exact ⟨_,_,ax,ax,aU (tk:=[]) (f:=(19,nm.a)) hS (fun _=>rfl)⟩
 | false=>
  rw [if_neg (by simp)] at hS;refine ev_go (P:=Tryz.prog) tt tt_ok 5000 68 [.cell 8 54] Tryz.func262 rfl Tryz.ntmps262 rfl (nL rfl) (fun E9 w9 hn9 hm9=>?_);refine br (fun hw=>?_) (fun hw=>?_)
  ·have hw:wide < 0∨64 < wide:=by simpa [aA] using hw
   have hP:dX ⟨nm,false,lab,wide,ck,cn,ca,cl⟩=(20,nm.a):=by simp only [dX,if_pos hw]
   rw [hP,if_pos (by simp)] at hS;refine call_p cS (aV 20 nm.a) ax rfl ?_;exact ⟨_,_,ax,ax,aU (tk:=[]) (f:=(20,nm.a)) hS (fun _=>rfl)⟩
  have hw:¬ (wide < 0∨64 < wide):=by simp [aA] at hw;omega
  refine call_p wu (fI lab (by omega)) ax rfl ?_;refine br (fun hb=>?_) (fun hb=>?_)
  ·have hb:(cV lab).1≠0:=by simpa using hb
   have hP:dX ⟨nm,false,lab,wide,ck,cn,ca,cl⟩=cV lab:=by simp only [dX,if_neg hw,if_pos hb]
   rw [hP,if_pos hb] at hS;exact ⟨_,_,ax,ax,aU (tk:=[]) (f:=cV lab) hS (fun _=>rfl)⟩
  have hb:(cV lab).1=0:=by simpa using hb
  have hP:dX ⟨nm,false,lab,wide,ck,cn,ca,cl⟩=bf ⟨nm,false,lab,wide,ck,cn,ca,cl⟩:=by simp only [dX,if_neg hw];rw [if_neg (by simp [hb])]
  rw [hP] at hS;refine call_p Nq (RB) ax rfl ?_;refine br (fun hc=>?_) (fun hc=>?_)
  ·have hc:(bf ⟨nm,false,lab,wide,ck,cn,ca,cl⟩).1≠0:=by simpa using hc
   rw [if_pos hc] at hS;exact ⟨_,_,ax,ax,aU (tk:=[]) (f:=bf ⟨nm,false,lab,wide,ck,cn,ca,cl⟩) hS (fun _=>rfl)⟩
  have hc:(bf ⟨nm,false,lab,wide,ck,cn,ca,cl⟩).1=0:=by simpa using hc
  rw [if_neg (by simp [hc])] at hS;refine jq DZ rfl rfl ax (by repeat' (first | exact rfl | exact trivial | exact Or.inr (Or.inl ⟨_,rfl⟩) | exact Or.inr ⟨_,rfl⟩ | exact Or.inl ⟨rfl,rfl⟩ | exact Or.inl rfl | refine Or.inr ⟨_,_,rfl,Nat.zero_le _,rfl,?_⟩ | refine ⟨_,_,rfl,?_,?_⟩ | refine ⟨_,rfl,?_⟩ | exact congrArg (fun z=>DV.v (.int .i64 z)) (wrap64 (by omega) (by omega)) | refine Or.inr (Or.inr (Or.inr ⟨_,_,rfl,?_⟩)) | exact Or.inl rfl | refine Or.inr ?_)) rT jD (fun r nK hr=>?_);obtain ⟨rfl,z,hz,vT⟩:=hr;simp only [List.cons.injEq,and_true] at hz;subst hz;exact ⟨_,_,ax,ax,aU (tk:=[]) (f:=(wrong (.mk u us) (depth + 1) m).1) hS vT⟩
theorem r8 {ag:Int} {all:List Wd} {i:Nat} {p:Ph} {t:Ty} {r:Pts} {depth m:Int} (hk:ag=7∨ag=8) (hl:aN all i p.name=0) :
  wrongPts ag all i (.cons p t r) depth m=if (iM p t (decide (ag=8)) depth m).1.1≠0 then iM p t (decide (ag=8)) depth m else wrongPts ag all (i + 1) r depth (iM p t (decide (ag=8)) depth m).2:=by
 simp only [wrongPts];rw [if_neg (by simp [hl])];unfold iM;by_cases hb:p.bare=true
 ·rw [if_pos hb,if_pos hb,Hw];by_cases h7:ag=7
  ·subst h7;rw [if_pos (.inl rfl),if_pos (c:=decide ((7:Int)=8)=false∨_) (.inl (by simp)),if_pos (by simp)]
  ·have h8:ag=8:=by omega
   subst h8;by_cases h:sameTy t bS=false∨bW p eV=false
   ·have h':decide ((8:Int)=8)=false∨(bW p eV && sameTy t bS)=false:=.inr (by rcases h with h | h<;>simp [h]);rw [if_pos (.inr h),if_pos h',if_pos (by simp)]
   ·have h1:sameTy t bS=true:=by
     cases hc:sameTy t bS
     ·exact absurd (.inl hc) h
     ·rfl
    have h2:bW p eV=true:=by
     cases hc:bW p eV
     ·exact absurd (.inr hc) h
     ·rfl
    have h':¬ (decide ((8:Int)=8)=false∨(bW p eV && sameTy t bS)=false):=by simp [h1,h2]
    rw [if_neg (by simp [h1,h2]),if_neg h',if_neg (by simp)]
 ·rw [if_neg hb,if_neg hb];by_cases hP:(dX p).1≠0
  ·rw [if_pos hP,if_pos hP,if_pos hP]
  ·rw [if_neg hP,if_neg hP]
theorem E6 {p:Ph} {t:Ty} {un:Bool} {depth m:Int} (pe:0<=m) (iC:m<=512) (h:(iM p t un depth m).1.1=0):(iM p t un depth m).1=(0,0)/\0<=(iM p t un depth m).2/\(iM p t un depth m).2<=512:=by
 have hw:=qu t (depth + 1) m pe;unfold iM at h ⊢;by_cases hb:p.bare=true
 ·rw [if_pos hb] at h ⊢;split at h
  ·simp at h
  ·rename_i hc;rw [if_neg hc];exact ⟨rfl,pe,iC⟩
 ·rw [if_neg hb] at h ⊢;by_cases hP:(dX p).1≠0
  ·rw [if_pos hP] at h;exact absurd h hP
  ·rw [if_neg hP] at h ⊢;exact hw h
abbrev wZ (h:Hd) (ps:Pts) (n e:Nat) (depth m:Int):St:=
 ⟨[(0,⟨[],.loc 0 0⟩),(2,⟨[],.v (.int .i64 depth)⟩),(4,⟨[],.loc 1 0⟩),(6,⟨[],.loc 2 0⟩),(38,⟨[],.sl 18 (eB ps) none⟩),(39,⟨[],.v (.int .i64 (eB ps).length)⟩),(40,⟨[],.v (.int .i64 e)⟩),(7,⟨[],.sl 1 (dz (az ((pNames ps).take e))) (some 0)⟩)],
  [[.v (.int .i64 m)],gm (.mk h ps),[.v (.int .i64 0),.v (.int .i64 0)]],[⟨n,9,1,none⟩]⟩
theorem oE (k:Nat) (ih:E5 k) (h:Hd) (ps:Pts) (depth m:Int) (sa:h.ag=7∨h.ag=8) (hk:ps.wt<=k) (cO:(Ty.mk h ps).wt<=1099511627776) (BR:0<=depth) (GA:depth<=24) (pe:0<=m) (iC:m<=512) :
  Ev Tryz.prog 218 [.loc 0 0,.agg (gm (.mk h ps)),.v (.int .i64 depth)] [[.v (.int .i64 m)]] [] (zt (j5 h ps depth m)):=by
 simp only [Ty.wt,Hd.wt] at cO;have sv:=ps.jr;have mw:=lD ps;have RC:=sS ps;have hS:=j5.eq_def h ps depth m;generalize j5 h ps depth m=F at hS ⊢;refine ev_go (P:=Tryz.prog) tt tt_ok 5000 72 [.cell 6 54] Tryz.func218 rfl Tryz.ntmps218 rfl (nL rfl) (fun E9 w9 hn9 hm9=>?_);refine br (fun c1=>?_) (fun c1=>?_)
 ·have c1:h.ag=8/\ps.len=0:=by
   simp [av,aR] at c1;exact ⟨c1.1,by omega⟩
  rw [if_pos c1] at hS;refine call_p cS (aV 15 h.bp) ax rfl ?_;exact ⟨_,_,ax,ax,aU (tk:=[]) (f:=(15,h.bp)) hS (fun _=>rfl)⟩
 have c1:¬ (h.ag=8/\ps.len=0):=by
  simp [av,aR] at c1;omega
 rw [if_neg c1] at hS;refine br (fun c2=>?_) (fun c2=>?_)
 ·have au:64 < ps.len:=by simp [aR] at c2;omega
  obtain ⟨p,t,hx⟩:=Pts.gP au;refine ⟨_,⟨by omega,dw hx⟩,?_⟩;refine call_p cS (aV 8 p.name.a) ax rfl ?_;rw [if_pos au,ju hx] at hS;exact ⟨_,_,ax,ax,aU (tk:=[]) (f:=(8,p.name.a)) hS (fun _=>rfl)⟩
 have c2:¬ 64 < ps.len:=by simp [aR] at c2;omega
 rw [if_neg c2] at hS
 refine bU (fun j st=>∃ (e:Nat) (m':Int),st=wZ h ps e e depth m' /\ e<=ps.len/\0<=m' /\ m' <= 512/\(az ((pNames ps).take e)).Nodup /\
   F=wrongPts h.ag (pNames ps) e (ps.drop e) depth m' /\ j=ps.len - e) ps.len (wZ h ps 0 0 depth m) (j3 ⟨0,9,1,none⟩ rfl ⟨_,rfl⟩ rfl wA rfl rfl aX) ⟨0,m,rfl,by omega,pe,iC,by simp [az],hS,by omega⟩ ?_
 rintro j st ⟨e,m',rfl,he,E7,E8,hnd,bm,rfl⟩;refine br (fun hL=>?_) (fun hL=>?_)
 ·have au:e < ps.len:=by simpa [aR] using hL
  obtain ⟨p,t,hx⟩:=Pts.gP au;have Eh:=Pts.ir (mG hx);have K4:=ju hx;have hpw:p.name.s.size + 64<=p.wt:=by simp only [Ph.wt,Wd.wt];omega
  rw [Pts.drop_cons hx] at bm
  have Ep:(az ((pNames ps).take (e + 1)))[(az ((pNames ps).take (e + 1))).length - 1]? = some p.name.s:=by
   have yh:(az ((pNames ps).take (e + 1))).length=e + 1:=by simp [az];omega
   rw [yh];simp [az,K4]
  have JY:=oA (az ((pNames ps).take (e + 1))) p.name.s p.name.a Ep (by simp [az];omega) (by omega);have eQ:=iI K4;rw [tg p.name.a K4 hnd,<- eQ] at JY;have w7:=zu k ih p t (decide (h.ag=8)) depth m' (by omega) (by omega) (by omega) BR GA E7 E8;obtain ⟨u,us⟩:=t;refine ⟨_,⟨by omega,dw hx⟩,?_⟩;refine ⟨by simp [bg,az];omega,⟨by simp [bg,az,maxLen];omega,by simp [bg,az];omega⟩,?_⟩;refine call_p I3 (JY) ax rfl ?_;by_cases hl:aN (pNames ps) e p.name≠0
  ·rw [if_pos hl];refine br (fun hf=>?_) (fun hf=>?_)
   ·simp only [wrongPts] at bm;rw [if_pos hl] at bm;exact ⟨_,_,ax,ax,aU (tk:=[]) (f:=(aN (pNames ps) e p.name,p.name.a)) bm (fun _=>rfl)⟩
   ·exact absurd (by simpa using hf) hl
  have hl:aN (pNames ps) e p.name=0:=by simpa using hl
  have RD:=jC K4 hnd hl;rw [if_neg (by simp [hl])];rw [r8 sa hl] at bm;have dh:=E6 (p:=p) (t:=.mk u us) (un:=decide (h.ag=8)) (depth:=depth) E7 E8;generalize iM p (.mk u us) (decide (h.ag=8)) depth m'=r at w7 bm dh;obtain ⟨⟨fe,fa⟩,many⟩:=r;simp only at bm dh;refine jq Np rfl rfl ax ax w7 jD (fun r nK hr=>?_);obtain ⟨rfl,z,hz,vT⟩:=hr;simp only [List.cons.injEq,and_true] at hz;subst hz;refine br (fun hd=>?_) (fun hd=>?_)
  ·have hd:fe≠0:=by simpa using hd
   rw [if_pos hd] at bm;exact ⟨_,_,ax,ax,aU (tk:=[]) (f:=(fe,fa)) bm (fun h0=>absurd h0 hd)⟩
  ·have hd:fe=0:=by simpa using hd
   subst hd;obtain ⟨_,h2,h3⟩:=dh rfl;rw [if_neg (by simp)] at bm;have hz2:z=many:=vT rfl;subst hz2;exact ⟨wZ h ps (e + 1) (e + 1) depth z,(aq ⟨_,rfl⟩ wA rfl rfl rfl (aj au eQ)),ps.len - (e + 1),by omega,e + 1,z,rfl,by omega,h2,h3,RD,bm,rfl⟩
 ·have bI:e=ps.len:=by simp [aR] at hL;omega
  rw [bI,Pts.eh] at bm;simp only [wrongPts] at bm;exact ⟨_,_,ax,ax,aU (tk:=[]) (f:=(0,0)) bm (fun _=>rfl)⟩
theorem tx (k:Nat) (ih:E5 k) (h:Hd) (ps:Pts) (depth m:Int) (hk:ps.wt<=k) (cO:(Ty.mk h ps).wt<=1099511627776) (BR:0<=depth) (GA:depth<=24) (pe:0<=m) (iC:m<=512) :
  Ev Tryz.prog 217 [.loc 0 0,.agg (gm (.mk h ps)),.v (.int .i64 depth)] [[.v (.int .i64 m)]] [] (zt (wrongOne h ps depth m)):=by
 simp only [Ty.wt,Hd.wt] at cO
 cases ps with
 | nil=>
  have hS:wrongOne h .nil depth m=((19,h.bp),m):=by simp only [wrongOne]
  generalize wrongOne h .nil depth m=F at hS ⊢;refine ev_go (P:=Tryz.prog) tt tt_ok 5000 44 [.cell 6 54] Tryz.func217 rfl Tryz.ntmps217 rfl (nL rfl) (fun E9 w9 hn9 hm9=>?_);refine call_p cS (aV 19 h.bp) ax rfl ?_;exact ⟨_,_,ax,ax,aU (tk:=[]) (f:=(19,h.bp)) hS (fun _=>rfl)⟩
 | cons p t r=>
  cases r with
  | cons p2 t2 r2=>
   have hS:wrongOne h (.cons p t (.cons p2 t2 r2)) depth m=((19,h.bp),m):=by simp only [wrongOne]
   generalize wrongOne h (.cons p t (.cons p2 t2 r2)) depth m=F at hS ⊢;refine ev_go (P:=Tryz.prog) tt tt_ok 5000 44 [.cell 6 54] Tryz.func217 rfl Tryz.ntmps217 rfl (nL rfl) (fun E9 w9 hn9 hm9=>?_);refine call_p cS (aV 19 h.bp) ax rfl ?_;exact ⟨_,_,ax,ax,aU (tk:=[]) (f:=(19,h.bp)) hS (fun _=>rfl)⟩
  | nil=>
   simp only [Pts.wt] at cO hk;have hS:wrongOne h (.cons p t .nil) depth m=if p.name.s≠ap∨bW p eC=false then ((19,h.bp),m) else if h.most < 0∨1024 < h.most then ((20,h.bp),m) else wrong t (depth + 1) m:=by simp only [wrongOne]
   generalize wrongOne h (.cons p t .nil) depth m=F at hS ⊢;have G6:=wI p t (by omega);rw [empty_eq] at G6;have rT:=ih t (depth + 1) m (by omega) (by omega) (by omega) (by omega) pe iC;obtain ⟨u,us⟩:=t;refine ev_go (P:=Tryz.prog) tt tt_ok 5000 44 [.cell 6 54] Tryz.func217 rfl Tryz.ntmps217 rfl (nL rfl) (fun E9 w9 hn9 hm9=>?_);refine ⟨_,⟨by omega,rfl⟩,?_⟩;refine call_p Nn (G6) ax rfl ?_;refine br (fun q=>?_) (fun q=>?_)
   ·have q:p.name.s≠ap∨bW p eC=false:=by
     have:=q;simp [pickB] at this;exact this
    rw [if_pos q] at hS;refine call_p cS (aV 19 h.bp) ax rfl ?_;exact ⟨_,_,ax,ax,aU (tk:=[]) (f:=(19,h.bp)) hS (fun _=>rfl)⟩
   have q:¬ (p.name.s≠ap∨bW p eC=false):=by
    have:=q;simp [pickB] at this;simp [this.1,this.2]
   rw [if_neg q] at hS;refine br (fun x=>?_) (fun x=>?_)
   ·have x:h.most < 0∨1024 < h.most:=by simpa [aA] using x
    rw [if_pos x] at hS;refine call_p cS (aV 20 h.bp) ax rfl ?_;exact ⟨_,_,ax,ax,aU (tk:=[]) (f:=(20,h.bp)) hS (fun _=>rfl)⟩
   have x:¬ (h.most < 0∨1024 < h.most):=by simp [aA] at x;omega
   rw [if_neg x] at hS;refine ⟨_,⟨by omega,rfl⟩,?_⟩;refine jq DZ rfl rfl ax (by repeat' (first | exact rfl | exact trivial | exact Or.inr (Or.inl ⟨_,rfl⟩) | exact Or.inr ⟨_,rfl⟩ | exact Or.inl ⟨rfl,rfl⟩ | exact Or.inl rfl | refine Or.inr ⟨_,_,rfl,Nat.zero_le _,rfl,?_⟩ | refine ⟨_,_,rfl,?_,?_⟩ | refine ⟨_,rfl,?_⟩ | exact congrArg (fun z=>DV.v (.int .i64 z)) (wrap64 (by omega) (by omega)) | refine Or.inr (Or.inr (Or.inr ⟨_,_,rfl,?_⟩)) | exact Or.inl rfl | refine Or.inr ?_)) rT jD (fun r nK hr=>?_);obtain ⟨rfl,z,hz,vT⟩:=hr;simp only [List.cons.injEq,and_true] at hz;subst hz;exact ⟨_,_,ax,ax,aU (tk:=[]) (f:=(wrong (.mk u us) (depth + 1) m).1) hS vT⟩
theorem aF (k:Nat) (ih:E5 k) (h:Hd) (ps:Pts) (depth m:Int) (hk:ps.wt<=k) (cO:(Ty.mk h ps).wt<=1099511627776) (BR:0<=depth) (GA:depth<=25) (pe:0<=m) (iC:m<=512) :
  Ev Tryz.prog 172 [.loc 0 0,.agg (gm (.mk h ps)),.v (.int .i64 depth)] [[.v (.int .i64 m)]] [] (zt (wrong (.mk h ps) depth m)):=by
 have Jq:=cO;simp only [Ty.wt,Hd.wt] at Jq;have vF:IntKind.i64.wrap (m + 1)=m + 1:=wrap64 (by omega) (by omega);have hS:=wrong.eq_def (.mk h ps) depth m;simp only at hS;generalize wrong (.mk h ps) depth m=F at hS ⊢;have ey:=B3 h ps;rw [AJ] at ey;refine ev_go (P:=Tryz.prog) tt tt_ok 5000 103 [.cell 6 54] Tryz.func172 rfl Tryz.ntmps172 rfl (nL rfl) (fun E9 w9 hn9 hm9=>?_);refine br (fun c=>?_) (fun c=>?_)
 ·have c:24 < depth:=of_decide_eq_true c;rw [if_pos c] at hS;refine call_p cS (aV 6 h.bp) ax rfl ?_;exact ⟨_,[[.v (.int .i64 (m + 1))]],ax,(aI vF),aU (tk:=[]) (f:=(6,h.bp)) hS (fun _=>rfl)⟩
 have c:¬ 24 < depth:=of_decide_eq_false c;rw [if_neg c] at hS;refine br (fun c=>?_) (fun c=>?_)
 ·have c:512 < IntKind.i64.wrap (m + 1):=of_decide_eq_true c;rw [vF] at c;rw [if_pos c] at hS;refine call_p cS (aV 8 h.bp) ax rfl ?_;exact ⟨_,[[.v (.int .i64 (m + 1))]],ax,(aI vF),aU (tk:=[]) (f:=(8,h.bp)) hS (fun _=>rfl)⟩
 have c:¬ 512 < IntKind.i64.wrap (m + 1):=of_decide_eq_false c;rw [vF] at c;rw [if_neg c] at hS;refine br (fun c=>?_) (fun c=>?_)
 ·have c:h.ag < 1∨9 < h.ag:=by simpa [aA] using c
  rw [if_pos c] at hS;refine call_p cS (aV 14 h.bp) ax rfl ?_;exact ⟨_,[[.v (.int .i64 (m + 1))]],ax,(aI vF),aU (tk:=[]) (f:=(14,h.bp)) hS (fun _=>rfl)⟩
 have ck:¬ (h.ag < 1∨9 < h.ag):=by simp [aA] at c;omega
 rw [if_neg ck] at hS;refine call_p Nk (ey) ax rfl ?_;refine br (fun c=>?_) (fun c=>?_)
 ·have c:wD (.mk h ps)=false:=by simpa [wD] using c
  rw [if_pos c] at hS;refine call_p cS (aV 19 h.bp) ax rfl ?_;exact ⟨_,[[.v (.int .i64 (m + 1))]],ax,(aI vF),aU (tk:=[]) (f:=(19,h.bp)) hS (fun _=>rfl)⟩
 have c:¬ wD (.mk h ps)=false:=by simpa [wD] using c
 rw [if_neg c] at hS;refine br (fun k2=>?_) (fun k2=>?_)
 ·have k2:h.ag=2:=of_decide_eq_true k2;refine br (fun x=>?_) (fun x=>?_)
  ·have x:h.hi < h.lo:=of_decide_eq_true x;rw [if_pos (.inl ⟨k2,x⟩)] at hS;refine call_p cS (aV 20 h.bp) ax rfl ?_;exact ⟨_,[[.v (.int .i64 (m + 1))]],ax,(aI vF),aU (tk:=[]) (f:=(20,h.bp)) hS (fun _=>rfl)⟩
  have x:¬ h.hi < h.lo:=of_decide_eq_false x;rw [if_neg (by omega),if_neg (by omega),if_neg (by omega),if_neg (by omega),if_neg (by omega)] at hS;exact ⟨_,[[.v (.int .i64 (m + 1))]],ax,(aI vF),aU (tk:=[]) (f:=(0,0)) hS (fun _=>rfl)⟩
 have k2:¬ h.ag=2:=of_decide_eq_false k2;refine br (fun k3=>?_) (fun k3=>?_)
 ·have k3:h.ag=3:=of_decide_eq_true k3;refine br (fun x=>?_) (fun x=>?_)
  ·have x:h.most < 0∨4096 < h.most:=by simpa [aA] using x
   rw [if_pos (.inr ⟨k3,x⟩)] at hS;refine call_p cS (aV 20 h.bp) ax rfl ?_;exact ⟨_,[[.v (.int .i64 (m + 1))]],ax,(aI vF),aU (tk:=[]) (f:=(20,h.bp)) hS (fun _=>rfl)⟩
  have x:¬ (h.most < 0∨4096 < h.most):=by simp [aA] at x;omega
  rw [if_neg (by omega),if_neg (by omega),if_neg (by omega),if_neg (by omega),if_neg (by omega)] at hS;exact ⟨_,[[.v (.int .i64 (m + 1))]],ax,(aI vF),aU (tk:=[]) (f:=(0,0)) hS (fun _=>rfl)⟩
 have k3:¬ h.ag=3:=of_decide_eq_false k3;rw [if_neg (by omega)] at hS;refine br (fun k4=>?_) (fun k4=>?_)
 ·have k4:h.ag=4:=of_decide_eq_true k4;rw [if_neg (by omega),if_pos k4,<- ER] at hS;refine call_p Nl (yZ h ps (by omega)) ax rfl ?_;exact ⟨_,[[.v (.int .i64 (m + 1))]],ax,(aI vF),aU (tk:=[]) (f:=j8 h) hS (fun _=>rfl)⟩
 have k4:¬ h.ag=4:=of_decide_eq_false k4;refine br (fun k5=>?_) (fun k5=>?_)
 ·have RE:h.ag=5∨h.ag=6:=.inl (of_decide_eq_true k5);rw [if_neg (by omega),if_neg (by omega),if_pos RE] at hS;refine br (fun _=>?_) (fun hc=>by rw [k5] at hc;cases hc);refine jq I1 rfl rfl (cs':=[.v (.int .i64 (m + 1))]) (aI vF) ax (tx k ih h ps depth (m + 1) hk cO BR (by omega) (by omega) (by omega)) jD (fun r nK hr=>?_);obtain ⟨rfl,z,hz,vT⟩:=hr;simp only [List.cons.injEq,and_true] at hz;subst hz;exact ⟨_,_,ax,ax,aU (tk:=[]) (f:=(wrongOne h ps depth (m + 1)).1) hS vT⟩
 have k5:¬ h.ag=5:=of_decide_eq_false k5;refine br (fun k6=>?_) (fun k6=>?_)
 ·have RE:h.ag=5∨h.ag=6:=.inr (of_decide_eq_true k6);rw [if_neg (by omega),if_neg (by omega),if_pos RE] at hS;refine jq I1 rfl rfl (cs':=[.v (.int .i64 (m + 1))]) (aI vF) ax (tx k ih h ps depth (m + 1) hk cO BR (by omega) (by omega) (by omega)) jD (fun r nK hr=>?_);obtain ⟨rfl,z,hz,vT⟩:=hr;simp only [List.cons.injEq,and_true] at hz;subst hz;exact ⟨_,_,ax,ax,aU (tk:=[]) (f:=(wrongOne h ps depth (m + 1)).1) hS vT⟩
 have k6:¬ h.ag=6:=of_decide_eq_false k6;have hP:j5 h ps depth (m + 1)=j5 h ps depth (m + 1):=rfl
 conv at hP=>lhs;unfold j5
 refine br (fun k7=>?_) (fun k7=>?_)
 ·have N9:h.ag=7∨h.ag=8:=.inl (of_decide_eq_true k7);rw [if_neg (by omega),if_neg (by omega),if_neg (by omega),if_pos N9,hP] at hS;refine br (fun _=>?_) (fun hc=>by rw [k7] at hc;cases hc);refine jq I2 rfl rfl (cs':=[.v (.int .i64 (m + 1))]) (aI vF) ax (oE k ih h ps depth (m + 1) N9 hk cO BR (by omega) (by omega) (by omega)) jD (fun r nK hr=>?_);obtain ⟨rfl,z,hz,vT⟩:=hr;simp only [List.cons.injEq,and_true] at hz;subst hz;exact ⟨_,_,ax,ax,aU (tk:=[]) (f:=(j5 h ps depth (m + 1)).1) hS vT⟩
 have k7:¬ h.ag=7:=of_decide_eq_false k7;refine br (fun k8=>?_) (fun k8=>?_)
 ·have N9:h.ag=7∨h.ag=8:=.inr (of_decide_eq_true k8);rw [if_neg (by omega),if_neg (by omega),if_neg (by omega),if_pos N9,hP] at hS;refine jq I2 rfl rfl (cs':=[.v (.int .i64 (m + 1))]) (aI vF) ax (oE k ih h ps depth (m + 1) N9 hk cO BR (by omega) (by omega) (by omega)) jD (fun r nK hr=>?_);obtain ⟨rfl,z,hz,vT⟩:=hr;simp only [List.cons.injEq,and_true] at hz;subst hz;exact ⟨_,_,ax,ax,aU (tk:=[]) (f:=(j5 h ps depth (m + 1)).1) hS vT⟩
 have k8:¬ h.ag=8:=of_decide_eq_false k8;refine br (fun k9=>?_) (fun k9=>?_)
 ·have k9:h.ag=9:=of_decide_eq_true k9;refine call_p wj (gQ h.name.s (by simp only [Wd.wt] at Jq;omega)) ax rfl ?_;refine br (fun q=>?_) (fun q=>?_)
  ·have q:bK h.name.s=false:=by simpa using q
   rw [if_pos ⟨k9,q⟩] at hS;refine call_p cS (aV 9 h.name.a) ax rfl ?_;exact ⟨_,[[.v (.int .i64 (m + 1))]],ax,(aI vF),aU (tk:=[]) (f:=(9,h.name.a)) hS (fun _=>rfl)⟩
  ·have q:bK h.name.s=true:=by simpa using q
   rw [if_neg (by simp [q]),if_neg (by omega),if_neg (by omega),if_neg (by omega)] at hS;exact ⟨_,[[.v (.int .i64 (m + 1))]],ax,(aI vF),aU (tk:=[]) (f:=(0,0)) hS (fun _=>rfl)⟩
 have k9:¬ h.ag=9:=of_decide_eq_false k9;rw [if_neg (by omega),if_neg (by omega),if_neg (by omega),if_neg (by omega)] at hS;exact ⟨_,[[.v (.int .i64 (m + 1))]],ax,(aI vF),aU (tk:=[]) (f:=(0,0)) hS (fun _=>rfl)⟩
theorem xc:∀ k,E5 k
 | 0=>fun t depth m hk=>by have:=t.cT;omega
 | k + 1=>fun t depth m hk cO BR GA pe iC=>by
  obtain ⟨h,ps⟩:=t;have eT:=hk;simp only [Ty.wt,Hd.wt] at eT;exact aF k (xc k) h ps depth m (by omega) cO BR GA pe iC
theorem xd (t:Ty) (cO:t.wt<=1099511627776):ba Tryz.prog 104 [.agg (gm t)] (wrong t 1 0).1.d:=
 B4 t (xc t.wt t 1 0 (Nat.le_refl _) cO (by omega) (by omega) (by omega) (by omega))
abbrev bd (t:Ty) (ps:Pts) (e n:Nat):St:=
 ⟨[(1,⟨[],.loc 0 0⟩),(3,⟨[],.v (.int .i64 n)⟩),(7,⟨[],.sl 18 (eB ps) none⟩),(8,⟨[],.v (.int .i64 (eB ps).length)⟩),(9,⟨[],.v (.int .i64 e)⟩)],[gm t],[]⟩
theorem qP:∀ (k:Nat) (t:Ty),t.wt<=k->t.wt<=1099511627776 ->
  ba Tryz.prog 105 [.agg (gm t)] (.v (.int .i64 t.cnt))
 | 0,t,hn,_=>by have:=t.cT;omega
 | k + 1,.mk h ps,hn,cO=>by
  simp only [Ty.wt,Hd.wt] at hn cO;have sv:=ps.jr;have hc:=ps.eD;refine ev_go (P:=Tryz.prog) tt tt_ok 5000 23 [.tmp 2] Tryz.func105 rfl Tryz.ntmps105 rfl (nL rfl) (fun E9 w9 hn9 hm9=>?_)
  refine bU (fun j st=>∃ (e n:Nat),st=bd (.mk h ps) ps e n/\e<=ps.len/\n + (ps.drop e).cnt=1 + ps.cnt/\j=ps.len - e) ps.len
   (bd (.mk h ps) ps 0 1) (aq ⟨_,rfl⟩ wA rfl rfl rfl wB) ⟨0,1,rfl,by omega,rfl,by omega⟩ ?_
  rintro j st ⟨e,n,rfl,he,aQ,rfl⟩;refine br (fun hL=>?_) (fun hL=>?_)
  ·have au:e < ps.len:=by simpa [aR] using hL
   obtain ⟨p,t,hx⟩:=Pts.gP au;have Eh:=Pts.ir (mG hx);rw [Pts.drop_cons hx] at aQ;simp only [Pts.cnt] at aQ;have B2:=t.eD;obtain ⟨u,us⟩:=t;refine ⟨_,⟨by omega,dw hx⟩,?_⟩;refine br (fun hB=>?_) (fun hB=>?_)
   ·have hB:p.bare=false:=by simpa using hB
    rw [hB] at aQ;have aQ:n + ((Ty.mk u us).cnt + (ps.drop (e + 1)).cnt)=1 + ps.cnt:=aQ;refine call_p IL (qP k (.mk u us) (by omega) (by omega)) ax rfl ?_;have Hp:IntKind.i64.wrap ((n:Int) + (Ty.mk u us).cnt)=((n + (Ty.mk u us).cnt:Nat):Int):=by rw [wrap64 (by omega) (by omega)];omega
    exact ⟨bd (.mk h ps) ps (e + 1) (n + (Ty.mk u us).cnt),(aq ⟨_,rfl⟩ wA rfl rfl rfl (by repeat' (first | exact trivial | exact aw rfl | exact ay Hp | exact ay (bA au (by omega)) | refine ⟨⟨_,rfl,?_⟩,?_⟩))),ps.len - (e + 1),by omega,e + 1,_,rfl,by omega,by omega,rfl⟩
   ·have hB:p.bare=true:=by simpa using hB
    rw [hB] at aQ;have aQ:n + (0 + (ps.drop (e + 1)).cnt)=1 + ps.cnt:=aQ;exact ⟨bd (.mk h ps) ps (e + 1) n,(aq ⟨_,rfl⟩ wA rfl rfl rfl (ah au)),ps.len - (e + 1),by omega,e + 1,n,rfl,by omega,by omega,rfl⟩
  ·have bI:e=ps.len:=by simp [aR] at hL;omega
   rw [bI,Pts.eh] at aQ;simp only [Pts.cnt] at aQ;have e2:(n:Int)=((Ty.mk h ps).cnt:Int):=by simp only [Ty.cnt];omega
   refine (congrArg (fun z=>DV.v (.int .i64 z)) ?_:_=_);exact e2
mutual
def Ty.nn:Ty->Nat
 | .mk h ps=>if h.ag=9 then 0 else 1 + ps.nn
def Pts.nn:Pts->Nat
 | .nil=>0
 | .cons p t r=>(if p.bare then 0 else t.nn) + r.nn
end
mutual
theorem Ty.fX:∀ t:Ty,t.nn<=t.cnt
 | .mk h ps=>by
  have:=Pts.fX ps;simp only [Ty.nn,Ty.cnt];split<;>omega
theorem Pts.fX:∀ ps:Pts,ps.nn<=ps.cnt
 | .nil=>Nat.le_refl _
 | .cons p t r=>by
  have:=Ty.fX t;have:=Pts.fX r;simp only [Pts.nn,Pts.cnt];split<;>omega
end
abbrev K5 (t:Ty) (ps:Pts) (e n:Nat):St:=
 ⟨[(1,⟨[],.loc 0 0⟩),(3,⟨[],.v (.int .i64 n)⟩),(10,⟨[],.sl 18 (eB ps) none⟩),(11,⟨[],.v (.int .i64 (eB ps).length)⟩),(12,⟨[],.v (.int .i64 e)⟩)],[gm t],[]⟩
theorem qQ:∀ (k:Nat) (t:Ty),t.wt<=k->t.wt<=1099511627776 ->
  ba Tryz.prog 108 [.agg (gm t)] (.v (.int .i64 t.nn))
 | 0,t,hn,_=>by have:=t.cT;omega
 | k + 1,.mk h ps,hn,cO=>by
  simp only [Ty.wt,Hd.wt] at hn cO;have sv:=ps.jr;have hc:=ps.eD;have jY:=ps.fX;refine ev_go (P:=Tryz.prog) tt tt_ok 5000 26 [.tmp 2] Tryz.func108 rfl Tryz.ntmps108 rfl (nL rfl) (fun E9 w9 hn9 hm9=>?_);refine br (fun h9=>?_) (fun h9=>?_)
  ·have h9:h.ag=9:=by simpa using h9
   have:(Ty.mk h ps).nn=0:=by simp [Ty.nn,h9]
   rw [this];exact (rfl:_=_)
  have h9:¬ h.ag=9:=by simpa using h9
  refine bU (fun j st=>∃ (e n:Nat),st=K5 (.mk h ps) ps e n/\e<=ps.len/\n + (ps.drop e).nn=1 + ps.nn/\j=ps.len - e) ps.len
   (K5 (.mk h ps) ps 0 1) (aq ⟨_,rfl⟩ wA rfl rfl rfl wB) ⟨0,1,rfl,by omega,rfl,by omega⟩ ?_
  rintro j st ⟨e,n,rfl,he,aQ,rfl⟩;refine br (fun hL=>?_) (fun hL=>?_)
  ·have au:e < ps.len:=by simpa [aR] using hL
   obtain ⟨p,t,hx⟩:=Pts.gP au;have Eh:=Pts.ir (mG hx);rw [Pts.drop_cons hx] at aQ;simp only [Pts.nn] at aQ;have B2:=t.eD;have hct2:=t.fX;obtain ⟨u,us⟩:=t;refine ⟨_,⟨by omega,dw hx⟩,?_⟩;refine br (fun hB=>?_) (fun hB=>?_)
   ·have hB:p.bare=false:=by simpa using hB
    rw [hB] at aQ;have aQ:n + ((Ty.mk u us).nn + (ps.drop (e + 1)).nn)=1 + ps.nn:=aQ;refine call_p IM (qQ k (.mk u us) (by omega) (by omega)) ax rfl ?_;have Hp:IntKind.i64.wrap ((n:Int) + (Ty.mk u us).nn)=((n + (Ty.mk u us).nn:Nat):Int):=by rw [wrap64 (by omega) (by omega)];omega
    exact ⟨K5 (.mk h ps) ps (e + 1) (n + (Ty.mk u us).nn),(aq ⟨_,rfl⟩ wA rfl rfl rfl (by repeat' (first | exact trivial | exact aw rfl | exact ay Hp | exact ay (bA au (by omega)) | refine ⟨⟨_,rfl,?_⟩,?_⟩))),ps.len - (e + 1),by omega,e + 1,_,rfl,by omega,by omega,rfl⟩
   ·have hB:p.bare=true:=by simpa using hB
    rw [hB] at aQ;have aQ:n + (0 + (ps.drop (e + 1)).nn)=1 + ps.nn:=aQ;exact ⟨K5 (.mk h ps) ps (e + 1) n,(aq ⟨_,rfl⟩ wA rfl rfl rfl (ah au)),ps.len - (e + 1),by omega,e + 1,n,rfl,by omega,by omega,rfl⟩
  ·have bI:e=ps.len:=by simp [aR] at hL;omega
   rw [bI,Pts.eh] at aQ;simp only [Pts.nn] at aQ;have e2:(n:Int)=((Ty.mk h ps).nn:Int):=by simp only [Ty.nn,if_neg h9];omega
   refine (congrArg (fun z=>DV.v (.int .i64 z)) ?_:_=_);exact e2
structure Lx where
 ae:List ByteArray
 aC:List Nat
 rows:List Nat
 js:List Int
 f:Nat->Nat->Bool
def Lx.pd (X:Lx):DV:=.pt (fC X.ae (cm X.ae X.aC) X.rows X.js) 0
def Lx.lev (X:Lx) (l:List Wd):Int:=zs X.f X.ae l
def Lx.bad (X:Lx) (l:List Wd):Ft:=labW X.ae l
structure Lx.OK (X:Lx):Prop where
 hT:fg X.ae X.aC
 gk:X.aC.length<=1099511627776
 hL:kh X.f X.ae.length
 hn:X.ae.length<=32
 hj:∀ x y,x < X.ae.length->y < X.ae.length->JM X.f X.ae.length X.js x y
theorem Lx.mT {X:Lx} (h:X.OK) (l:List Wd) (hs:wdsWt l<=1099511627776):ba Tryz.prog 106 [X.pd,.sl 2 (bJ l) none] (.dV [.v (.int .i64 (X.lev l)),(X.bad l).d]):=
 E4 X.ae X.aC X.rows X.js h.hT h.gk h.hL h.hn h.hj l hs
def bC (s:Sch) (lat out:DV) (m:Int):List DV:=.sl 2 (bJ s.af) none :: .sl 4 (oZ s.order) none :: .sl 11 (dNms s.types) none :: (gm s.root ++ [lat,out,.v (.int .i64 m)])
theorem qR {X:Lx} (h:X.OK) (s:Sch) (pc:List DV) (m:Int) (l:List Wd) (hs:wdsWt l<=1099511627776) :
  ba Tryz.prog 174 [.pt (bC s X.pd (.pt pc 0) m) 0,.sl 2 (bJ l) none] (.v (.int .i64 (X.lev l))):=by
 obtain ⟨af,order,types,⟨rh,rp⟩⟩:=s;refine ev_go (P:=Tryz.prog) tt tt_ok 5000 17 [.tmp 4] Tryz.func174 rfl Tryz.ntmps174 rfl (nL rfl) (fun E9 w9 hn9 hm9=>?_);refine call_p wm (Lx.mT h l hs) ax rfl ?_;exact (rfl:_=_)
def vG (s:Sch):List Wd:=s.types.map fun x=>x.1
def tL (s:Sch):List ByteArray:=az (vG s)
theorem HE (s:Sch):(vG s).length=s.types.length:=by simp [vG]
theorem qS (s:Sch):(tL s).length=s.types.length:=by simp [tL,az,vG]
def pC (s:Sch) (aC:List Nat) (a b c e:DV):List DV:=[a,b,c,.pt (cm (tL s) aC) 0,e]
def Cr (s:Sch) (t:Ty):Bool:=decide (t.h.ag=9->dc (tL s) t.h.name.s≠none)
def endI (s:Sch):Nat->Nat->Option Nat
 | 0,_=>none
 | k + 1,i=>
  match s.types[i]? with
  | none=>none
  | some x=>if x.2.h.ag=9 then endI s k ((dc (tL s) x.2.h.name.s).getD 0) else some i
theorem u1 {s:Sch}:∀ {k i j:Nat},endI s k i=some j->j < s.types.length/\∀ x,s.types[j]? = some x->x.2.h.ag≠9
 | 0,i,j,h=>by cases h
 | k + 1,i,j,h=>by
  rw [endI] at h
  cases hx:s.types[i]? with
  | none=>rw [hx] at h;cases h
  | some x=>
   rw [hx] at h;simp only at h;split at h
   ·exact u1 h
   ·rename_i hk;simp only [oI] at h;subst h;refine ⟨(gS hx).1,fun y hy=>?_⟩;rw [hx] at hy;simp only [oI] at hy;subst hy;exact hk
abbrev Jr (B:DV) (n i e:Nat):St:=
 ⟨[(0,⟨[],B⟩),(1,⟨[],.v (.int .i64 i)⟩),(12,⟨[],.v (.int .i64 n)⟩),(13,⟨[],.v (.int .i64 e)⟩)],[],[]⟩
theorem xe (s:Sch) (lat:DV) (aC:List Nat) (a b c e0:DV) (m:Int) (hT:fg (tL s) aC) (gk:aC.length<=1099511627776) (hl:s.types.length<=64) (hr:∀ x∈s.types,Cr s x.2=true) (i:Nat) (hi:i < s.types.length) :
  ba Tryz.prog 107 [.pt (bC s lat (.pt (pC s aC a b c e0) 0) m) 0,.v (.int .i64 i)] (.v (.int .i64 (oz (endI s (s.types.length + 1) i)))):=by
 have nN:=qS s;obtain ⟨af,order,types,⟨rh,rp⟩⟩:=s;simp only at hl hr hi nN;have hN:=fJ types;have RF:IntKind.i64.wrap ((((dNms types).length:Nat):Int) + 1)=((types.length + 1:Nat):Int):=by rw [hN,wrap64 (by omega) (by omega)];all_goals rfl
 refine ev_go (P:=Tryz.prog) tt tt_ok 5000 43 [.tmp 4] Tryz.func107 rfl Tryz.ntmps107 rfl (nL rfl) (fun E9 w9 hn9 hm9=>?_)
 refine bU (fun j st=>∃ e q:Nat,st=Jr (.pt (bC ⟨af,order,types,.mk rh rp⟩ lat (.pt (pC ⟨af,order,types,.mk rh rp⟩ aC a b c e0) 0) m) 0) (types.length + 1) q e/\e<=types.length + 1/\q < types.length/\endI ⟨af,order,types,.mk rh rp⟩ (types.length + 1) i=endI ⟨af,order,types,.mk rh rp⟩ (types.length + 1 - e) q/\j=types.length + 1 - e) (types.length + 1)
  (Jr (.pt (bC ⟨af,order,types,.mk rh rp⟩ lat (.pt (pC ⟨af,order,types,.mk rh rp⟩ aC a b c e0) 0) m) 0) (types.length + 1) i 0) (aq ⟨_,rfl⟩ wA rfl rfl rfl (by repeat' (first | exact trivial | exact aw rfl | exact ay RF | refine ⟨⟨_,rfl,?_⟩,?_⟩))) ⟨0,i,rfl,by omega,hi,rfl,by omega⟩ ?_
 rintro j st ⟨e,q,rfl,he,hq,bm,rfl⟩;refine br (fun hL=>?_) (fun hL=>?_)
 ·have au:e < types.length + 1:=by have:=hL;simp at this;omega
  obtain ⟨x,hx⟩:∃ x,types[q]? = some x:=⟨_,gE hq⟩;have hrx:=hr x (mG hx);obtain ⟨xw,⟨xh,xp⟩⟩:=x
  have aZ:endI ⟨af,order,types,.mk rh rp⟩ (types.length + 1 - e) q=if xh.ag=9 then endI ⟨af,order,types,.mk rh rp⟩ (types.length + 1 - (e + 1)) ((dc (tL ⟨af,order,types,.mk rh rp⟩) xh.name.s).getD 0) else some q:=by
   rw [show types.length + 1 - e=(types.length + 1 - (e + 1)) + 1 by omega,endI];simp only [hx];rfl
  rw [aZ] at bm;refine ⟨_,⟨by omega,dNms_get hx⟩,?_⟩;refine br (fun h9=>?_) (fun h9=>?_)
  ·have h9:¬ xh.ag=9:=by simpa using h9
   rw [if_neg h9] at bm;rw [bm];exact (rfl:_=_)
  have h9:xh.ag=9:=by simpa using h9
  rw [if_pos h9] at bm
  have aQ:dc (tL ⟨af,order,types,.mk rh rp⟩) xh.name.s≠none:=by
   have:=of_decide_eq_true hrx;exact this h9
  obtain ⟨k,hk⟩:=Option.ne_none_iff_exists'.1 aQ;have gZ:=(dR hk).1;rw [hk] at bm;have hf:=fv (tL ⟨af,order,types,.mk rh rp⟩) aC xh.name.s hT gk;rw [hk] at hf;refine Av (fun _=>false) mo (by decide +kernel) ?_;refine G8 qi (hf) ax rfl ?_;exact ⟨Jr (.pt (bC ⟨af,order,types,.mk rh rp⟩ lat (.pt (pC ⟨af,order,types,.mk rh rp⟩ aC a b c e0) 0) m) 0) (types.length + 1) k (e + 1),(aq ⟨_,rfl⟩ wA rfl rfl rfl (ah au)),types.length + 1 - (e + 1),by omega,e + 1,k,rfl,by omega,by omega,bm,rfl⟩
 ·have bI:e=types.length + 1:=by have:=hL;simp at this;omega
  subst bI;rw [Nat.sub_self] at bm;rw [bm];exact (rfl:_=_)
def loopF (s:Sch):Ft:=
 match bi (fun i=>(endI s (s.types.length + 1) i).isNone) s.types.length with
 | none=>(0,0)
 | some i=>(11,L2 (vG s) i)
abbrev u2 (B:DV) (s:Sch) (e:Nat):St:=
 ⟨[(0,⟨[],B⟩),(2,⟨[],.loc 0 0⟩),(9,⟨[],.sl 11 (dNms s.types) none⟩),(10,⟨[],.v (.int .i64 (dNms s.types).length)⟩),(11,⟨[],.v (.int .i64 e)⟩)],[[.v (.int .i64 0),.v (.int .i64 0)]],[]⟩
theorem zw (s:Sch) (lat:DV) (aC:List Nat) (a b c e0:DV) (m:Int) (hT:fg (tL s) aC) (gk:aC.length<=1099511627776) (hl:s.types.length<=64) (hr:∀ x∈s.types,Cr s x.2=true) :
  ba Tryz.prog 48 [.pt (bC s lat (.pt (pC s aC a b c e0) 0) m) 0] (loopF s).d:=by
 have Fa:=xe s lat aC a b c e0 m hT gk hl hr;have hN:=fJ s.types;have hF:=loopF.eq_1 s;obtain ⟨af,order,types,⟨rh,rp⟩⟩:=s;simp only at hl hr Fa hN;refine ev_go (P:=Tryz.prog) tt tt_ok 5000 26 [.cell 2 54] Tryz.func48 rfl Tryz.ntmps48 rfl (nL rfl) (fun E9 w9 hn9 hm9=>?_)
 refine bU (fun j st=>∃ e:Nat,st=u2 (.pt (bC ⟨af,order,types,.mk rh rp⟩ lat (.pt (pC ⟨af,order,types,.mk rh rp⟩ aC a b c e0) 0) m) 0) ⟨af,order,types,.mk rh rp⟩ e/\e<=types.length/\(∀ i,i < e->(endI ⟨af,order,types,.mk rh rp⟩ (types.length + 1) i).isNone=false)/\j=types.length - e) types.length
  (u2 (.pt (bC ⟨af,order,types,.mk rh rp⟩ lat (.pt (pC ⟨af,order,types,.mk rh rp⟩ aC a b c e0) 0) m) 0) ⟨af,order,types,.mk rh rp⟩ 0) (aq ⟨_,rfl⟩ wA rfl rfl rfl wB) ⟨0,rfl,by omega,fun _ h=>by omega,by omega⟩ ?_
 rintro j st ⟨e,rfl,he,iG,rfl⟩;refine br (fun hL=>?_) (fun hL=>?_)
 ·have au:e < types.length:=by have:=hL;simp [hN] at this;exact this
  obtain ⟨x,hx⟩:∃ x,types[e]? = some x:=⟨_,gE au⟩;have RG:(vG ⟨af,order,types,.mk rh rp⟩)[e]? = some x.1:=by simp [vG,hx]
  have h1:=Fa e au;obtain ⟨xw,⟨xh,xp⟩⟩:=x;refine ⟨_,⟨by omega,dNms_get hx⟩,?_⟩;refine call_p en107 (h1) ax rfl ?_
  cases hE:endI ⟨af,order,types,.mk rh rp⟩ (types.length + 1) e with
  | none=>
   have yi:=dg (p:=fun i=>(endI ⟨af,order,types,.mk rh rp⟩ (types.length + 1) i).isNone) au (by simp only [hE];rfl) iG;simp only [yi] at hF;rw [pu RG] at hF;refine ⟨_,?_,rfl⟩;rw [hF];exact ax
  | some k=>
   refine ⟨u2 (.pt (bC ⟨af,order,types,.mk rh rp⟩ lat (.pt (pC ⟨af,order,types,.mk rh rp⟩ aC a b c e0) 0) m) 0) ⟨af,order,types,.mk rh rp⟩ (e + 1),(aq ⟨_,rfl⟩ wA rfl rfl rfl (ah au)),types.length - (e + 1),by omega,e + 1,rfl,by omega,fun i hi=>?_,rfl⟩;rcases Nat.lt_succ_iff_lt_or_eq.1 hi with hi | rfl
   ·exact iG i hi
   ·rw [hE];all_goals rfl
 ·have bI:e=types.length:=by have:=hL;simp [hN] at this;omega
  subst bI;simp only [dK iG] at hF;refine ⟨_,?_,rfl⟩;rw [hF];exact ax
mutual
def knT (X:Lx) (L:List ByteArray):Ty->Ft
 | .mk h ps=>if h.ag=9/\dc L h.name.s=none then (15,h.name.a) else knP X L ps
def knP (X:Lx) (L:List ByteArray):Pts->Ft
 | .nil=>(0,0)
 | .cons p t r=>if (X.bad p.label).1≠0 then X.bad p.label else if (X.bad p.cl).1≠0 then X.bad p.cl else if p.bare then knP X L r else if (knT X L t).1≠0 then knT X L t else knP X L r
end
abbrev Oa (B:DV) (t:Ty) (ps:Pts) (e:Nat):St:=
 ⟨[(0,⟨[],B⟩),(3,⟨[],.loc 0 0⟩),(4,⟨[],.loc 1 0⟩),(38,⟨[],.sl 18 (eB ps) none⟩),(39,⟨[],.v (.int .i64 (eB ps).length)⟩),(40,⟨[],.v (.int .i64 e)⟩)],[gm t,[.v (.int .i64 0),.v (.int .i64 0)]],[]⟩
abbrev tz (B:DV) (t:Ty) (ps:Pts) (p:Ph) (u:Ty) (e q:Nat):St:=
 ⟨[(0,⟨[],B⟩),(3,⟨[],.loc 0 0⟩),(4,⟨[],.loc 1 0⟩),(38,⟨[],.sl 18 (eB ps) none⟩),(39,⟨[],.v (.int .i64 (eB ps).length)⟩),(40,⟨[],.v (.int .i64 e)⟩),(8,⟨[],.loc 2 0⟩),(49,⟨[],.sl 1 [[.sl 2 (bJ p.label) none],[.sl 2 (bJ p.cl) none]] none⟩),(50,⟨[],.v (.int .i64 (2:Nat))⟩),(51,⟨[],.v (.int .i64 q)⟩)],[gm t,[.v (.int .i64 0),.v (.int .i64 0)],Db p (gm u)],[]⟩
theorem qT {X:Lx} (hX:X.OK) (s:Sch) (aC:List Nat) (a b c e0:DV) (m:Int) (hT:fg (tL s) aC) (gk:aC.length<=1099511627776):∀ (k:Nat) (t:Ty),t.wt<=k->t.wt<=1099511627776 ->
  ba Tryz.prog 47 [.pt (bC s X.pd (.pt (pC s aC a b c e0) 0) m) 0,.agg (gm t)] (knT X (tL s) t).d
 | 0,t,hn,_=>by have:=t.cT;omega
 | k + 1,.mk h ps,hn,cO=>by
  have ih:=qT hX s aC a b c e0 m hT gk k;simp only [Ty.wt,Hd.wt] at hn cO;have sv:=ps.jr;obtain ⟨af,order,types,⟨rh,rp⟩⟩:=s;have hf:=fv (tL ⟨af,order,types,.mk rh rp⟩) aC h.name.s hT gk;have hS:knT X (tL ⟨af,order,types,.mk rh rp⟩) (.mk h ps)=if h.ag=9/\dc (tL ⟨af,order,types,.mk rh rp⟩) h.name.s=none then (15,h.name.a) else knP X (tL ⟨af,order,types,.mk rh rp⟩) ps:=by rw [knT]
  refine ev_go (P:=Tryz.prog) tt tt_ok 5000 81 [.cell 4 54] Tryz.func47 rfl Tryz.ntmps47 rfl (nL rfl) (fun E9 w9 hn9 hm9=>?_);generalize knT X (tL ⟨af,order,types,.mk rh rp⟩) (.mk h ps)=F at hS ⊢;have TA:knP X (tL ⟨af,order,types,.mk rh rp⟩) ps=knP X (tL ⟨af,order,types,.mk rh rp⟩) (ps.drop 0):=by rw [Pts.drop]
  refine br (fun h9=>?_) (fun h9=>?_)
  ·have h9:h.ag=9:=by simpa using h9
   refine Av (fun _=>false) mo (by decide +kernel) ?_
   cases hx:dc (tL ⟨af,order,types,.mk rh rp⟩) h.name.s with
   | none=>
    rw [if_pos ⟨h9,hx⟩] at hS;rw [hx] at hf;refine G8 qi (hf) ax rfl ?_;refine ⟨_,?_,rfl⟩;rw [hS];exact ax
   | some i=>
    rw [if_neg (by rw [hx];simp),TA] at hS;rw [hx] at hf;refine G8 qi (hf) ax rfl ?_;refine bU (fun j st=>∃ e:Nat,st=Oa (.pt (bC ⟨af,order,types,.mk rh rp⟩ X.pd (.pt (pC ⟨af,order,types,.mk rh rp⟩ aC a b c e0) 0) m) 0) (.mk h ps) ps e/\e<=ps.len/\F=knP X (tL ⟨af,order,types,.mk rh rp⟩) (ps.drop e)/\j=ps.len - e) ps.len (Oa (.pt (bC ⟨af,order,types,.mk rh rp⟩ X.pd (.pt (pC ⟨af,order,types,.mk rh rp⟩ aC a b c e0) 0) m) 0) (.mk h ps) ps 0) (aq ⟨_,rfl⟩ wA rfl rfl rfl wB) ⟨0,rfl,by omega,hS,by omega⟩ ?_;rintro j st ⟨e,rfl,he,bm,rfl⟩;refine br (fun hL=>?_) (fun hL=>?_)
    ·have au:e < ps.len:=by simpa [aR] using hL
     obtain ⟨p,t,hx⟩:=Pts.gP au;have Eh:=Pts.ir (mG hx);rw [Pts.drop_cons hx] at bm;simp only [knP] at bm;have hw1:wdsWt p.label + wdsWt p.cl<=p.wt:=by simp only [Ph.wt];omega
     obtain ⟨u,us⟩:=t;refine ⟨_,⟨by omega,dw hx⟩,?_⟩;refine bU (fun j st=>∃ q:Nat,st=tz (.pt (bC ⟨af,order,types,.mk rh rp⟩ X.pd (.pt (pC ⟨af,order,types,.mk rh rp⟩ aC a b c e0) 0) m) 0) (.mk h ps) ps p (.mk u us) e q/\q<=2/\(1<=q->(X.bad p.label).1=0)/\(2<=q->(X.bad p.cl).1=0)/\j=2 - q) 2 (tz (.pt (bC ⟨af,order,types,.mk rh rp⟩ X.pd (.pt (pC ⟨af,order,types,.mk rh rp⟩ aC a b c e0) 0) m) 0) (.mk h ps) ps p (.mk u us) e 0) (aq ⟨_,rfl⟩ wA rfl rfl rfl wB) ⟨0,rfl,by omega,fun h=>by omega,fun h=>by omega,by omega⟩ ?_;rintro j st ⟨q,rfl,hq,Ob,jf,rfl⟩;refine br (fun Jn=>?_) (fun Jn=>?_)
     ·have BA:q=0∨q=1:=by have:=Jn;simp at this;omega
      rcases BA with rfl | rfl
      ·refine ⟨_,⟨by omega,rfl⟩,?_⟩;refine call_p wm (Lx.mT hX p.label (by omega)) ax rfl ?_;refine br (fun hb=>?_) (fun hb=>?_)
       ·have hb:(X.bad p.label).1≠0:=by simpa using hb
        rw [if_pos hb] at bm;refine ⟨_,?_,rfl⟩;rw [bm];exact ax
       ·have hb:(X.bad p.label).1=0:=by simpa using hb
        exact ⟨tz (.pt (bC ⟨af,order,types,.mk rh rp⟩ X.pd (.pt (pC ⟨af,order,types,.mk rh rp⟩ aC a b c e0) 0) m) 0) (.mk h ps) ps p (.mk u us) e 1,(aq ⟨_,rfl⟩ wA rfl rfl rfl (by repeat' (first | exact trivial | exact aw rfl | exact ay (bA (e:=0) (n:=2) (by omega) (by omega)) | refine ⟨⟨_,rfl,?_⟩,?_⟩))),1,by omega,1,rfl,by omega,fun _=>hb,fun h=>by omega,rfl⟩
      ·have gj:=Ob (by omega);refine ⟨_,⟨by omega,rfl⟩,?_⟩;refine call_p wm (Lx.mT hX p.cl (by omega)) ax rfl ?_;refine br (fun hb=>?_) (fun hb=>?_)
       ·have hb:(X.bad p.cl).1≠0:=by simpa using hb
        rw [if_neg (by rw [gj];simp),if_pos hb] at bm;refine ⟨_,?_,rfl⟩;rw [bm];exact ax
       ·have hb:(X.bad p.cl).1=0:=by simpa using hb
        exact ⟨tz (.pt (bC ⟨af,order,types,.mk rh rp⟩ X.pd (.pt (pC ⟨af,order,types,.mk rh rp⟩ aC a b c e0) 0) m) 0) (.mk h ps) ps p (.mk u us) e 2,(aq ⟨_,rfl⟩ wA rfl rfl rfl (by repeat' (first | exact trivial | exact aw rfl | exact ay (bA (e:=1) (n:=2) (by omega) (by omega)) | refine ⟨⟨_,rfl,?_⟩,?_⟩))),0,by omega,2,rfl,by omega,fun _=>gj,fun _=>hb,rfl⟩
     ·have BA:q=2:=by have:=Jn;simp at this;omega
      subst BA;have gj:=Ob (by omega);have om:=jf (by omega);rw [if_neg (by rw [gj];simp),if_neg (by rw [om];simp)] at bm;refine br (fun hB=>?_) (fun hB=>?_)
      ·have hB:p.bare=true:=hB;rw [if_pos hB] at bm;exact ⟨Oa (.pt (bC ⟨af,order,types,.mk rh rp⟩ X.pd (.pt (pC ⟨af,order,types,.mk rh rp⟩ aC a b c e0) 0) m) 0) (.mk h ps) ps (e + 1),(aq ⟨_,rfl⟩ wA rfl rfl rfl (ah au)),ps.len - (e + 1),by omega,e + 1,rfl,by omega,bm,rfl⟩
      ·have hB:p.bare=false:=hB;rw [if_neg (by rw [hB];decide)] at bm;refine call_p Ky (ih (.mk u us) (by omega) (by omega)) ax rfl ?_;refine br (fun hb=>?_) (fun hb=>?_)
       ·have hb:(knT X (tL ⟨af,order,types,.mk rh rp⟩) (.mk u us)).1≠0:=by simpa using hb
        rw [if_pos hb] at bm;refine ⟨_,?_,rfl⟩;rw [bm];exact ax
       ·have hb:(knT X (tL ⟨af,order,types,.mk rh rp⟩) (.mk u us)).1=0:=by simpa using hb
        rw [if_neg (by rw [hb];simp)] at bm;exact ⟨Oa (.pt (bC ⟨af,order,types,.mk rh rp⟩ X.pd (.pt (pC ⟨af,order,types,.mk rh rp⟩ aC a b c e0) 0) m) 0) (.mk h ps) ps (e + 1),(aq ⟨_,rfl⟩ wA rfl rfl rfl (ah au)),ps.len - (e + 1),by omega,e + 1,rfl,by omega,bm,rfl⟩
    ·have bI:e=ps.len:=by simp [aR] at hL;omega
     rw [bI,Pts.eh] at bm;simp only [knP] at bm;refine ⟨_,?_,rfl⟩;rw [bm];exact ax
  ·have h9:¬ h.ag=9:=by simpa using h9
   rw [if_neg (fun hc=>h9 hc.1),TA] at hS;refine bU (fun j st=>∃ e:Nat,st=Oa (.pt (bC ⟨af,order,types,.mk rh rp⟩ X.pd (.pt (pC ⟨af,order,types,.mk rh rp⟩ aC a b c e0) 0) m) 0) (.mk h ps) ps e/\e<=ps.len/\F=knP X (tL ⟨af,order,types,.mk rh rp⟩) (ps.drop e)/\j=ps.len - e) ps.len (Oa (.pt (bC ⟨af,order,types,.mk rh rp⟩ X.pd (.pt (pC ⟨af,order,types,.mk rh rp⟩ aC a b c e0) 0) m) 0) (.mk h ps) ps 0) (aq ⟨_,rfl⟩ wA rfl rfl rfl wB) ⟨0,rfl,by omega,hS,by omega⟩ ?_;rintro j st ⟨e,rfl,he,bm,rfl⟩;refine br (fun hL=>?_) (fun hL=>?_)
   ·have au:e < ps.len:=by simpa [aR] using hL
    obtain ⟨p,t,hx⟩:=Pts.gP au;have Eh:=Pts.ir (mG hx);rw [Pts.drop_cons hx] at bm;simp only [knP] at bm;have hw1:wdsWt p.label + wdsWt p.cl<=p.wt:=by simp only [Ph.wt];omega
    obtain ⟨u,us⟩:=t;refine ⟨_,⟨by omega,dw hx⟩,?_⟩;refine bU (fun j st=>∃ q:Nat,st=tz (.pt (bC ⟨af,order,types,.mk rh rp⟩ X.pd (.pt (pC ⟨af,order,types,.mk rh rp⟩ aC a b c e0) 0) m) 0) (.mk h ps) ps p (.mk u us) e q/\q<=2/\(1<=q->(X.bad p.label).1=0)/\(2<=q->(X.bad p.cl).1=0)/\j=2 - q) 2 (tz (.pt (bC ⟨af,order,types,.mk rh rp⟩ X.pd (.pt (pC ⟨af,order,types,.mk rh rp⟩ aC a b c e0) 0) m) 0) (.mk h ps) ps p (.mk u us) e 0) (aq ⟨_,rfl⟩ wA rfl rfl rfl wB) ⟨0,rfl,by omega,fun h=>by omega,fun h=>by omega,by omega⟩ ?_;rintro j st ⟨q,rfl,hq,Ob,jf,rfl⟩;refine br (fun Jn=>?_) (fun Jn=>?_)
    ·have BA:q=0∨q=1:=by have:=Jn;simp at this;omega
     rcases BA with rfl | rfl
     ·refine ⟨_,⟨by omega,rfl⟩,?_⟩;refine call_p wm (Lx.mT hX p.label (by omega)) ax rfl ?_;refine br (fun hb=>?_) (fun hb=>?_)
      ·have hb:(X.bad p.label).1≠0:=by simpa using hb
       rw [if_pos hb] at bm;refine ⟨_,?_,rfl⟩;rw [bm];exact ax
      ·have hb:(X.bad p.label).1=0:=by simpa using hb
       exact ⟨tz (.pt (bC ⟨af,order,types,.mk rh rp⟩ X.pd (.pt (pC ⟨af,order,types,.mk rh rp⟩ aC a b c e0) 0) m) 0) (.mk h ps) ps p (.mk u us) e 1,(aq ⟨_,rfl⟩ wA rfl rfl rfl (by repeat' (first | exact trivial | exact aw rfl | exact ay (bA (e:=0) (n:=2) (by omega) (by omega)) | refine ⟨⟨_,rfl,?_⟩,?_⟩))),1,by omega,1,rfl,by omega,fun _=>hb,fun h=>by omega,rfl⟩
     ·have gj:=Ob (by omega);refine ⟨_,⟨by omega,rfl⟩,?_⟩;refine call_p wm (Lx.mT hX p.cl (by omega)) ax rfl ?_;refine br (fun hb=>?_) (fun hb=>?_)
      ·have hb:(X.bad p.cl).1≠0:=by simpa using hb
       rw [if_neg (by rw [gj];simp),if_pos hb] at bm;refine ⟨_,?_,rfl⟩;rw [bm];exact ax
      ·have hb:(X.bad p.cl).1=0:=by simpa using hb
       exact ⟨tz (.pt (bC ⟨af,order,types,.mk rh rp⟩ X.pd (.pt (pC ⟨af,order,types,.mk rh rp⟩ aC a b c e0) 0) m) 0) (.mk h ps) ps p (.mk u us) e 2,(aq ⟨_,rfl⟩ wA rfl rfl rfl (by repeat' (first | exact trivial | exact aw rfl | exact ay (bA (e:=1) (n:=2) (by omega) (by omega)) | refine ⟨⟨_,rfl,?_⟩,?_⟩))),0,by omega,2,rfl,by omega,fun _=>gj,fun _=>hb,rfl⟩
    ·have BA:q=2:=by have:=Jn;simp at this;omega
     subst BA;have gj:=Ob (by omega);have om:=jf (by omega);rw [if_neg (by rw [gj];simp),if_neg (by rw [om];simp)] at bm;refine br (fun hB=>?_) (fun hB=>?_)
     ·have hB:p.bare=true:=hB;rw [if_pos hB] at bm;exact ⟨Oa (.pt (bC ⟨af,order,types,.mk rh rp⟩ X.pd (.pt (pC ⟨af,order,types,.mk rh rp⟩ aC a b c e0) 0) m) 0) (.mk h ps) ps (e + 1),(aq ⟨_,rfl⟩ wA rfl rfl rfl (ah au)),ps.len - (e + 1),by omega,e + 1,rfl,by omega,bm,rfl⟩
     ·have hB:p.bare=false:=hB;rw [if_neg (by rw [hB];decide)] at bm;refine call_p Ky (ih (.mk u us) (by omega) (by omega)) ax rfl ?_;refine br (fun hb=>?_) (fun hb=>?_)
      ·have hb:(knT X (tL ⟨af,order,types,.mk rh rp⟩) (.mk u us)).1≠0:=by simpa using hb
       rw [if_pos hb] at bm;refine ⟨_,?_,rfl⟩;rw [bm];exact ax
      ·have hb:(knT X (tL ⟨af,order,types,.mk rh rp⟩) (.mk u us)).1=0:=by simpa using hb
       rw [if_neg (by rw [hb];simp)] at bm;exact ⟨Oa (.pt (bC ⟨af,order,types,.mk rh rp⟩ X.pd (.pt (pC ⟨af,order,types,.mk rh rp⟩ aC a b c e0) 0) m) 0) (.mk h ps) ps (e + 1),(aq ⟨_,rfl⟩ wA rfl rfl rfl (ah au)),ps.len - (e + 1),by omega,e + 1,rfl,by omega,bm,rfl⟩
   ·have bI:e=ps.len:=by simp [aR] at hL;omega
    rw [bI,Pts.eh] at bm;simp only [knP] at bm;refine ⟨_,?_,rfl⟩;rw [bm];exact ax
def eaL (F:Ty->Ft) (z:Ft):List (Wd × Ty)->Ft
 | []=>z
 | x :: r=>if (F x.2).1≠0 then F x.2 else eaL F z r
theorem Fb {F:Ty->Ft} {z:Ft} {l:List (Wd × Ty)} {e:Nat} {x:Wd × Ty} (h:l[e]? = some x):eaL F z (l.drop e)=if (F x.2).1≠0 then F x.2 else eaL F z (l.drop (e + 1)):=by
 rw [drop_cons h,eaL]
abbrev Fc (B:DV) (fn:DV) (types:List (Wd × Ty)) (e:Nat):St:=
 ⟨[(0,⟨[],B⟩),(1,⟨[],fn⟩),(4,⟨[],.loc 0 0⟩),(12,⟨[],.sl 11 (dNms types) none⟩),(13,⟨[],.v (.int .i64 (dNms types).length)⟩),(14,⟨[],.v (.int .i64 e)⟩)],[[.v (.int .i64 0),.v (.int .i64 0)]],[]⟩
theorem Cs (s:Sch) (lat:DV) (pc:List DV) (m:Int) (hl:s.types.length<=1099511627776) (g:Nat) (hg:Enters Tryz.prog g) (F:Ty->Ft)
  (hF:∀ t,(t=s.root∨∃ x∈s.types,t=x.2)->ba Tryz.prog g [.pt (bC s lat (.pt pc 0) m) 0,.agg (gm t)] (F t).d) :
  ba Tryz.prog 45 [.pt (bC s lat (.pt pc 0) m) 0,.fn g [.pt (bC s lat (.pt pc 0) m) 0] []] (eaL F (F s.root) s.types).d:=by
 have hN:=fJ s.types;obtain ⟨af,order,types,⟨rh,rp⟩⟩:=s;simp only at hl hF hN;have jM:=hF (.mk rh rp) (.inl rfl);have K6:∀ x∈types,_:=fun x hx=>hF x.2 (.inr ⟨x,hx,rfl⟩);clear hF;refine ev_go (P:=Tryz.prog) tt tt_ok 5000 34 [.cell 4 54] Tryz.func45 rfl Tryz.ntmps45 rfl (nL rfl) (fun E9 w9 hn9 hm9=>?_);generalize hG:eaL F (F (.mk rh rp)) types=G;have RH:G=eaL F (F (.mk rh rp)) (types.drop 0):=by rw [List.drop_zero,hG]
 refine bU (fun j st=>∃ e:Nat,st=Fc (.pt (bC ⟨af,order,types,.mk rh rp⟩ lat (.pt pc 0) m) 0) (.fn g [.pt (bC ⟨af,order,types,.mk rh rp⟩ lat (.pt pc 0) m) 0] []) types e/\e<=types.length/\G=eaL F (F (.mk rh rp)) (types.drop e)/\j=types.length - e) types.length
  (Fc (.pt (bC ⟨af,order,types,.mk rh rp⟩ lat (.pt pc 0) m) 0) (.fn g [.pt (bC ⟨af,order,types,.mk rh rp⟩ lat (.pt pc 0) m) 0] []) types 0) (aq ⟨_,rfl⟩ wA rfl rfl rfl wB) ⟨0,rfl,by omega,RH,by omega⟩ ?_
 rintro j st ⟨e,rfl,he,bm,rfl⟩;refine br (fun hL=>?_) (fun hL=>?_)
 ·have au:e < types.length:=by have:=hL;simp [hN] at this;exact this
  obtain ⟨x,hx⟩:∃ x,types[e]? = some x:=⟨_,gE au⟩;have hp:=K6 x (mG hx);rw [Fb hx] at bm;obtain ⟨xw,⟨xh,xp⟩⟩:=x;refine ⟨_,⟨by omega,dNms_get hx⟩,?_⟩;refine call_p hg hp ax rfl ?_;refine br (fun hf=>?_) (fun hf=>?_)
  ·have hf:(F (.mk xh xp)).1≠0:=by simpa using hf
   rw [if_pos hf] at bm;refine ⟨_,?_,rfl⟩;rw [bm];exact ax
  ·have hf:(F (.mk xh xp)).1=0:=by simpa using hf
   rw [if_neg (by rw [hf];simp)] at bm;exact ⟨Fc (.pt (bC ⟨af,order,types,.mk rh rp⟩ lat (.pt pc 0) m) 0) (.fn g [.pt (bC ⟨af,order,types,.mk rh rp⟩ lat (.pt pc 0) m) 0] []) types (e + 1),(aq ⟨_,rfl⟩ wA rfl rfl rfl (ah au)),types.length - (e + 1),by omega,e + 1,rfl,by omega,bm,rfl⟩
 ·have bI:e=types.length:=by have:=hL;simp [hN] at this;omega
  subst bI;rw [List.drop_length,eaL] at bm;refine call_p hg jM ax rfl ?_;refine ⟨_,?_,rfl⟩;rw [bm];exact ax
def bF (t:Ty) (m:Int):Ft × Int:=if (wrong t 1 0).1.1≠0 then ((wrong t 1 0).1,m) else if 512 < m + t.cnt then ((8,t.h.bp),m + t.cnt) else ((0,0),m + t.cnt)
def Fe (s:Sch) (lat:DV) (pc:List DV) (x:Ft × Int) (r:DV) (os:List (List DV)) (_:List TkE):Prop:=r=x.1.d/\os=[bC s lat (.loc 1 0) x.2,pc]
theorem xf (s:Sch) (lc pc:List DV) (m:Int) (pe:0<=m) (iC:m<=1099511627776) (t:Ty) (cO:t.wt<=1099511627776) (Oc:∀ bx N n0 m0,CcL bx N n0 m0 pc pc) :
  Ev Tryz.prog 46 [.loc 0 0,.agg (gm t)] [bC s (.pt lc 0) (.loc 1 0) m,pc] [] (Fe s (.pt lc 0) pc (bF t m)):=by
 have hk:=xd t cO;have hc:=qP t.wt t (Nat.le_refl _) cO;have k0:=t.eD;have hF:=bF.eq_1 t m;obtain ⟨af,order,types,⟨rh,rp⟩⟩:=s;obtain ⟨h,ps⟩:=t;generalize bF (.mk h ps) m=R at hF ⊢;refine ev_go (P:=Tryz.prog) tt tt_ok 5000 30 [.cell 4 54] Tryz.func46 rfl Tryz.ntmps46 rfl (nL rfl) (fun E9 w9 hn9 hm9=>?_);refine call_p M0 (hk) ax rfl ?_;refine br (fun hf=>?_) (fun hf=>?_)
 ·have hf:(wrong (.mk h ps) 1 0).1.1≠0:=by simpa using hf
  rw [if_pos hf] at hF;subst hF;exact ⟨Ft.d _,[bC ⟨af,order,types,.mk rh rp⟩ (.pt lc 0) (.loc 1 0) m,pc],ax,(by repeat' (first | exact rfl | exact trivial | exact Or.inr (Or.inl ⟨_,rfl⟩) | exact Or.inr ⟨_,rfl⟩ | exact Or.inl ⟨rfl,rfl⟩ | exact Or.inl rfl | refine Or.inr ⟨_,_,rfl,Nat.zero_le _,rfl,?_⟩ | refine ⟨_,_,rfl,?_,?_⟩ | refine ⟨_,rfl,?_⟩ | exact Oc _ _ _ _ | exact ⟨nL rfl,rfl⟩ | exact congrArg (fun z=>DV.v (.int .i64 z)) hw | refine Or.inr (Or.inr (Or.inr ⟨_,_,rfl,?_⟩)) | exact Or.inl rfl | refine Or.inr ?_)),rfl,rfl⟩
 have hf:(wrong (.mk h ps) 1 0).1.1=0:=by simpa using hf
 rw [if_neg (by rw [hf];simp)] at hF;have hw:IntKind.i64.wrap (m + ((Ty.mk h ps).cnt:Int))=m + ((Ty.mk h ps).cnt:Int):=wrap64 (by omega) (by omega);refine G7 mo (by decide +kernel) ?_;refine G8 IL (hc) ax rfl ?_;refine br (fun hg=>?_) (fun hg=>?_)
 ·have hg:512 < m + ((Ty.mk h ps).cnt:Int):=by simpa [hw] using hg
  rw [if_pos hg] at hF;subst hF;exact ⟨Ft.d _,[bC ⟨af,order,types,.mk rh rp⟩ (.pt lc 0) (.loc 1 0) (m + (Ty.mk h ps).cnt),pc],ax,(by repeat' (first | exact rfl | exact trivial | exact Or.inr (Or.inl ⟨_,rfl⟩) | exact Or.inr ⟨_,rfl⟩ | exact Or.inl ⟨rfl,rfl⟩ | exact Or.inl rfl | refine Or.inr ⟨_,_,rfl,Nat.zero_le _,rfl,?_⟩ | refine ⟨_,_,rfl,?_,?_⟩ | refine ⟨_,rfl,?_⟩ | exact Oc _ _ _ _ | exact ⟨nL rfl,rfl⟩ | exact congrArg (fun z=>DV.v (.int .i64 z)) hw | refine Or.inr (Or.inr (Or.inr ⟨_,_,rfl,?_⟩)) | exact Or.inl rfl | refine Or.inr ?_)),rfl,rfl⟩
 ·have hg:¬ 512 < m + ((Ty.mk h ps).cnt:Int):=by simpa [hw] using hg
  rw [if_neg hg] at hF;subst hF;exact ⟨Ft.d _,[bC ⟨af,order,types,.mk rh rp⟩ (.pt lc 0) (.loc 1 0) (m + (Ty.mk h ps).cnt),pc],ax,(by repeat' (first | exact rfl | exact trivial | exact Or.inr (Or.inl ⟨_,rfl⟩) | exact Or.inr ⟨_,rfl⟩ | exact Or.inl ⟨rfl,rfl⟩ | exact Or.inl rfl | refine Or.inr ⟨_,_,rfl,Nat.zero_le _,rfl,?_⟩ | refine ⟨_,_,rfl,?_,?_⟩ | refine ⟨_,rfl,?_⟩ | exact Oc _ _ _ _ | exact ⟨nL rfl,rfl⟩ | exact congrArg (fun z=>DV.v (.int .i64 z)) hw | refine Or.inr (Or.inr (Or.inr ⟨_,_,rfl,?_⟩)) | exact Or.inl rfl | refine Or.inr ?_)),rfl,rfl⟩
def eaR (z:Ty):List (Wd × Ty)->Int->Ft × Int
 | [],m=>bF z m
 | x :: r,m=>if (bF x.2 m).1.1≠0 then bF x.2 m else eaR z r (bF x.2 m).2
theorem Ff {z:Ty} {l:List (Wd × Ty)} {e:Nat} {m:Int} {x:Wd × Ty} (h:l[e]? = some x):eaR z (l.drop e) m=if (bF x.2 m).1.1≠0 then bF x.2 m else eaR z (l.drop (e + 1)) (bF x.2 m).2:=by
 rw [drop_cons h,eaR]
theorem kR {t:Ty} {m:Int} (h:(bF t m).1.1=0):(bF t m).2=m + t.cnt/\(bF t m).2<=512/\(wrong t 1 0).1.1=0/\(bF t m).1=(0,0):=by
 unfold bF at h ⊢;split
 ·rename_i h1;rw [if_pos h1] at h;exact (h1 h).elim
 ·rename_i h1;rw [if_neg h1] at h;split
  ·rename_i h2;rw [if_pos h2] at h;cases h
  ·rename_i h2;refine ⟨rfl,by simpa using h2,by simpa using h1,rfl⟩
abbrev zx (s:Sch) (aC:List Nat) (lc:List DV):List DV:=pC s aC (.pt lc 0) (.v (.slice none 0 0)) (.v (.int .i64 0)) (.v (.slice none 0 0))
abbrev u3 (s:Sch) (lc pc:List DV) (m:Int) (types:List (Wd × Ty)) (e:Nat):St:=
 ⟨[(0,⟨[],.loc 0 0⟩),(1,⟨[],.fn 46 [.loc 0 0] []⟩),(4,⟨[],.loc 2 0⟩),(12,⟨[],.sl 11 (dNms types) none⟩),(13,⟨[],.v (.int .i64 (dNms types).length)⟩),(14,⟨[],.v (.int .i64 e)⟩)],
  [bC s (.pt lc 0) (.loc 1 0) m,pc,[.v (.int .i64 0),.v (.int .i64 0)]],[]⟩
theorem zy (s:Sch) (lc:List DV) (aC:List Nat) (m:Int) (pe:0<=m) (iC:m<=512) (hl:s.types.length<=1099511627776) (cO:∀ t,(t=s.root∨∃ x∈s.types,t=x.2)->t.wt<=1099511627776) :
  Ev Tryz.prog 45 [.loc 0 0,.fn 46 [.loc 0 0] []] [bC s (.pt lc 0) (.loc 1 0) m,zx s aC lc] [] (Fe s (.pt lc 0) (zx s aC lc) (eaR s.root s.types m)):=by
 have hN:=fJ s.types;have hR:∀ (m':Int),0<=m' -> m' <= 512->∀ t,(t=s.root∨∃ x∈s.types,t=x.2)->_:=fun m' h0 h1 t ht=>xf s lc (zx s aC lc) m' h0 (by omega) t (cO t ht) (fun bx N n0 m0=>ax);obtain ⟨af,order,types,⟨rh,rp⟩⟩:=s;simp only at hl hR hN cO;refine ev_go (P:=Tryz.prog) tt tt_ok 5000 34 [.cell 4 54] Tryz.func45 rfl Tryz.ntmps45 rfl (nL rfl) (fun E9 w9 hn9 hm9=>?_);generalize hG:eaR (.mk rh rp) types m=G;have RH:G=eaR (.mk rh rp) (types.drop 0) m:=by rw [List.drop_zero,hG]
 refine bU (fun j st=>∃ (e:Nat) (m':Int),st=u3 ⟨af,order,types,.mk rh rp⟩ lc (zx ⟨af,order,types,.mk rh rp⟩ aC lc) m' types e/\e<=types.length/\0<=m' /\ m' <= 512/\G=eaR (.mk rh rp) (types.drop e) m' /\ j=types.length - e) types.length
  (u3 ⟨af,order,types,.mk rh rp⟩ lc (zx ⟨af,order,types,.mk rh rp⟩ aC lc) m types 0) (aS 3 rfl (by repeat' (first | exact rfl | exact aw rfl | exact rfl | refine ⟨_,_,rfl,?_,?_⟩)) rfl rfl rfl (by repeat' (first | exact trivial | exact aw rfl | exact rfl | refine ⟨⟨_,rfl,?_⟩,?_⟩))) ⟨0,m,rfl,by omega,pe,iC,RH,by omega⟩ ?_
 rintro j st ⟨e,m',rfl,he,E7,E8,bm,rfl⟩;refine br (fun hL=>?_) (fun hL=>?_)
 ·have au:e < types.length:=by have:=hL;simp [hN] at this;exact this
  obtain ⟨x,hx⟩:∃ x,types[e]? = some x:=⟨_,gE au⟩;have hp:=hR m' E7 E8 x.2 (.inr ⟨x,mG hx,rfl⟩);rw [Ff hx] at bm;obtain ⟨xw,⟨xh,xp⟩⟩:=x;refine ⟨_,⟨by omega,dNms_get hx⟩,?_⟩;refine gn 2 0 MT rfl rfl rfl aL aL hp (fun r gT bX hΦ h1 h2=>?_);obtain ⟨rfl,rfl⟩:=hΦ;have h2:=List.eq_nil_of_length_eq_zero h2;subst h2;refine br (fun hf=>?_) (fun hf=>?_)
  ·have hf:(bF (.mk xh xp) m').1.1≠0:=by simpa using hf
   rw [if_pos hf] at bm;subst bm;exact ⟨Ft.d _,[bC ⟨af,order,types,.mk rh rp⟩ (.pt lc 0) (.loc 1 0) (bF (.mk xh xp) m').2,zx ⟨af,order,types,.mk rh rp⟩ aC lc],ax,aL,rfl,rfl⟩
  ·have hf:(bF (.mk xh xp) m').1.1=0:=by simpa using hf
   rw [if_neg (by rw [hf];simp)] at bm;obtain ⟨g1,g2,_,_⟩:=kR hf;exact ⟨u3 ⟨af,order,types,.mk rh rp⟩ lc (zx ⟨af,order,types,.mk rh rp⟩ aC lc) (bF (.mk xh xp) m').2 types (e + 1),(aS 3 rfl (bh au) rfl rfl rfl (ah au)),types.length - (e + 1),by omega,e + 1,_,rfl,by omega,by omega,g2,bm,rfl⟩
 ·have bI:e=types.length:=by have:=hL;simp [hN] at this;omega
  subst bI;rw [List.drop_length,eaR] at bm;refine gn 2 0 MT rfl rfl rfl aL aL (hR m' E7 E8 (.mk rh rp) (.inl rfl)) (fun r gT bX hΦ h1 h2=>?_);obtain ⟨rfl,rfl⟩:=hΦ;have h2:=List.eq_nil_of_length_eq_zero h2;subst h2;subst bm;exact ⟨Ft.d _,[bC ⟨af,order,types,.mk rh rp⟩ (.pt lc 0) (.loc 1 0) (bF (.mk rh rp) m').2,zx ⟨af,order,types,.mk rh rp⟩ aC lc],ax,aL,rfl,rfl⟩
def fx (s:Sch):Ft:=if 64 < s.types.length then (8,L2 (vG s) 64) else enumL (vG s) 0 (vG s)
def HF (s:Sch) (lc:List DV) (r:DV) (os:List (List DV)) (_:List TkE):Prop:=
 r=(fx s).d/\((fx s).1=0->∃ aC,fg (tL s) aC/\aC.length<=s.types.length/\os=[bC s (.pt lc 0) (.loc 1 0) 0,zx s aC lc])
abbrev Fg (s:Sch) (lc:List DV) (n e:Nat):St:=
 ⟨[(0,⟨[],.loc 0 0⟩),(2,⟨[],.loc 2 0⟩),(3,⟨[],.sl 1 (dz (az ((vG s).take e))) (some 0)⟩),(27,⟨[],.sl 11 (dNms s.types) none⟩),(28,⟨[],.v (.int .i64 (dNms s.types).length)⟩),(29,⟨[],.v (.int .i64 e)⟩)],
  [bC s (.pt lc 0) (.loc 1 0) 0,[.pt lc 0,.v (.slice none 0 0),.v (.int .i64 0),.v (.pointer none),.v (.slice none 0 0)],[.v (.int .i64 0),.v (.int .i64 0)]],[⟨n,9,1,none⟩]⟩
theorem u4 (s:Sch) (lc:List DV) (hs:nmsWt s.types<=1099511627776) :
  Ev Tryz.prog 44 [.loc 0 0] [bC s (.pt lc 0) (.loc 1 0) 0,[.pt lc 0,.v (.slice none 0 0),.v (.int .i64 0),.v (.pointer none),.v (.slice none 0 0)]] [] (HF s lc):=by
 have hN:=fJ s.types;have mw:=kM s.types;have nN:=HE s;have hF:=fx.eq_1 s;have pW:∀ {e:Nat} {x:Wd × Ty},s.types[e]? = some x->(vG s)[e]? = some x.1:=fun h=>by simp [vG,h]
 have c9:=qq (tL s) (by rw [qS];omega);have TB:tL s=az (vG s):=rfl
 have hw:∀ x∈s.types,x.1.s.size<=1099511627776:=fun x hx=>by
  have:=gx hx;simp only [Wd.wt] at this;omega
 obtain ⟨af,order,types,⟨rh,rp⟩⟩:=s;simp only at hs hN mw nN pW hw hF;generalize hQ:vG ⟨af,order,types,.mk rh rp⟩=Q at nN hF pW TB;refine ev_go (P:=Tryz.prog) tt tt_ok 5000 67 [.cell 2 54] Tryz.func44 rfl Tryz.ntmps44 rfl (nL rfl) (fun E9 w9 hn9 hm9=>?_);refine br (fun h=>?_) (fun h=>?_)
 ·have h:64 < types.length:=by simp [hN] at h;omega
  obtain ⟨x,hx⟩:∃ x,types[64]? = some x:=⟨_,gE h⟩;have RG:=pW hx;rw [if_pos h,pu RG] at hF;obtain ⟨xw,⟨xh,xp⟩⟩:=x;refine ⟨_,⟨by omega,dNms_get hx⟩,?_⟩;refine ⟨Ft.d (8,xw.a),[bC ⟨af,order,types,.mk rh rp⟩ (.pt lc 0) (.loc 1 0) 0,[.pt lc 0,.v (.slice none 0 0),.v (.int .i64 0),.v (.pointer none),.v (.slice none 0 0)]],ax,aL,by rw [hF],fun h0=>by rw [hF] at h0;simp at h0⟩
 have h:¬ 64 < types.length:=by simp [hN] at h;omega
 rw [if_neg h] at hF;refine bU (fun j st=>∃ e:Nat,st=Fg ⟨af,order,types,.mk rh rp⟩ lc e e/\e<=types.length/\(az (Q.take e)).Nodup/\enumL Q 0 Q=enumL Q e (Q.drop e)/\j=types.length - e) types.length (Fg ⟨af,order,types,.mk rh rp⟩ lc 0 0) (dn 3 ⟨0,9,1,none⟩ rfl rfl rfl (by repeat' (first | exact rfl | exact aw rfl | exact bQ (Nat.le_refl _) rfl | exact bQ (Nat.le_refl _) rfl | refine ⟨_,_,rfl,?_,?_⟩)) rfl rfl aX) ⟨0,rfl,by omega,by simp [az],rfl,by omega⟩ ?_;rintro j st ⟨e,rfl,he,hnd,bm,rfl⟩;rw [bm] at hF;refine br (fun hL=>?_) (fun hL=>?_)
 ·have au:e < types.length:=by have:=hL;simp [hN] at this;exact this
  obtain ⟨x,hx⟩:∃ x,types[e]? = some x:=⟨_,gE au⟩;have Rb:=hw x (mG hx);have hq:=pW hx;have eQ:=iI hq;have aZ:=qK hq;have vB:=jB hq hnd;have LZ:=lB (az (Q.take (e + 1))) (by simp [az];omega);rw [<- eQ] at LZ;obtain ⟨xw,⟨xh,xp⟩⟩:=x;simp only at Rb hq eQ aZ vB LZ;refine ⟨_,⟨by omega,dNms_get hx⟩,?_⟩;rw [hQ];refine ⟨by simp [bg,az];omega,⟨by simp [bg,az,maxLen];omega,by simp [bg,az];omega⟩,?_⟩;refine call_p wj (gQ xw.s (by omega)) ax rfl ?_;refine br (fun AZ=>?_) (fun AZ=>?_)
  ·have AZ:bK xw.s=false:=by simpa using AZ
   have hf:aN Q e xw=9:=by simp [aN,AZ]
   rw [aZ,hf,if_pos (by decide)] at hF;refine ⟨Ft.d (9,xw.a),[bC ⟨af,order,types,.mk rh rp⟩ (.pt lc 0) (.loc 1 0) 0,[.pt lc 0,.v (.slice none 0 0),.v (.int .i64 0),.v (.pointer none),.v (.slice none 0 0)]],ax,aL,by rw [hF],fun h0=>by rw [hF] at h0;simp at h0⟩
  ·have AZ:bK xw.s=true:=by simpa using AZ
   refine im DT rfl LZ ax (fun r hr=>?_);obtain ⟨z,rfl,hz⟩:=hr;refine br (fun h2=>?_) (fun h2=>?_)
   ·have h2:0<=z:=by simpa using h2
    have hd:cW (Q.take e) xw.s=true:=by
     cases hd:cW (Q.take e) xw.s
     ·exact absurd (vB.2 hd) (hz.1 h2)
     ·rfl
    have hf:aN Q e xw=10:=by simp [aN,AZ,hd]
    rw [aZ,hf,if_pos (by decide)] at hF;refine ⟨Ft.d (10,xw.a),[bC ⟨af,order,types,.mk rh rp⟩ (.pt lc 0) (.loc 1 0) 0,[.pt lc 0,.v (.slice none 0 0),.v (.int .i64 0),.v (.pointer none),.v (.slice none 0 0)]],ax,aL,by rw [hF],fun h0=>by rw [hF] at h0;simp at h0⟩
   ·have h2:¬ 0<=z:=by simpa using h2
    have qf:(az (Q.take (e + 1))).Nodup:=Classical.byContradiction fun hn=>h2 (hz.2 hn);have hf:aN Q e xw=0:=by simp [aN,AZ,vB.1 qf]
    rw [hf,if_neg (by simp)] at aZ;have u5:dz (az (Q.take e)) ++ [[DV.v (.string xw.s)]]=dz (az ((vG ⟨af,order,types,.mk rh rp⟩).take (e + 1))):=by rw [hQ];exact eQ
    refine ⟨Fg ⟨af,order,types,.mk rh rp⟩ lc (e + 1) (e + 1),(aS 3 rfl (aK au u5) rfl rfl rfl (aj au u5)),types.length - (e + 1),by omega,e + 1,rfl,by omega,qf,bm.trans aZ,rfl⟩
 ·have bI:e=types.length:=by have:=hL;simp [hN] at this;omega
  have h0:enumL Q e (Q.drop e)=(0,0):=by rw [bI,<- nN,List.drop_length];all_goals rfl
  rw [h0] at hF;have ht:Q.take e=Q:=by rw [bI,<- nN,List.take_length]
  have RI:az ((vG ⟨af,order,types,.mk rh rp⟩).take e)=tL ⟨af,order,types,.mk rh rp⟩:=by rw [hQ,ht,TB]
  rw [<- RI] at c9;refine G7 mo (by decide +kernel) ?_;refine mv Kz rfl c9 ax (fun uH hr=>?_);obtain ⟨aC,hT,gk,rfl⟩:=hr;rw [RI] at hT gk;have Ix:DV.pt (cm (az ((vG ⟨af,order,types,.mk rh rp⟩).take e)) aC) 0=DV.pt (cm (tL ⟨af,order,types,.mk rh rp⟩) aC) 0:=congrArg (fun L=>DV.pt (cm L aC) 0) RI;rw [qS] at gk;exact ⟨Ft.d (0,0),[bC ⟨af,order,types,.mk rh rp⟩ (.pt lc 0) (.loc 1 0) 0,zx ⟨af,order,types,.mk rh rp⟩ aC lc],ax,(by repeat' (first | exact rfl | exact trivial | exact Or.inr (Or.inl ⟨_,rfl⟩) | exact Or.inr ⟨_,rfl⟩ | exact Or.inl ⟨rfl,rfl⟩ | exact Or.inl rfl | refine Or.inr ⟨_,_,rfl,Nat.zero_le _,rfl,?_⟩ | refine ⟨_,_,rfl,?_,?_⟩ | refine ⟨_,rfl,?_⟩ | exact ⟨nL rfl,rfl⟩ | exact Or.inl Ix | refine Or.inr (Or.inr (Or.inr ⟨_,_,rfl,?_⟩)) | exact Or.inl rfl | refine Or.inr ?_)),by rw [hF],fun _=>⟨aC,hT,gk,rfl⟩⟩
def firstA (s:Sch) (k:Nat):Nat:=((s.types.take k).map fun x=>x.2.nn).sum
theorem oF {s:Sch} {k:Nat} {x:Wd × Ty} (h:s.types[k]? = some x):firstA s (k + 1)=firstA s k + x.2.nn:=by
 unfold firstA;rw [List.take_add_one,h];simp
theorem Ct (s:Sch):∀ k,firstA s k<=nmsWt s.types:=by
 intro k;unfold firstA;generalize s.types=l
 induction l generalizing k with
 | nil=>simp
 | cons x r ih=>
  cases k with
  | zero=>simp
  | succ k=>
   have h1:=ih k;have h2:=x.2.fX;have h3:=x.2.eD;simp only [List.take_succ_cons,List.map_cons,List.sum_cons,nmsWt];omega
def namedN (s:Sch) (i:Nat):Nat:=firstA s ((endI s (s.types.length + 1) i).getD 0)
def namedL (s:Sch):List Nat:=(List.range s.types.length).map (namedN s)
theorem Od (n:Nat):(List.replicate n (vL [Value.int .i64 0])).flatten=cZ (List.replicate n 0):=by
 induction n with
 | zero=>rfl
 | succ n ih=>simp only [List.replicate_succ,List.flatten_cons,ih];rfl
theorem pv {n m:Nat} {tk:List TkE} {l:List DV} {js:List Int} (h:l=cZ js):WeL n m tk l (cZ js):=by rw [h];exact qa js
abbrev K7 (s:Sch) (lc pc:List DV) (m:Int) (l:List Int) (bp e:Nat):St:=
 ⟨[(0,⟨[],.loc 0 0⟩),(2,⟨[],.ms 2 1 0 (dNms s.types).length (dNms s.types).length⟩),(3,⟨[],.v (.int .i64 bp)⟩),(18,⟨[],.sl 11 (dNms s.types) none⟩),(19,⟨[],.v (.int .i64 (dNms s.types).length)⟩),(20,⟨[],.v (.int .i64 e)⟩)],
  [bC s (.pt lc 0) (.loc 1 0) m,pc,cZ l],[]⟩
abbrev Oe (s:Sch) (aC:List Nat) (lc:List DV) (m:Int) (l:List Int) (n e:Nat):St:=
 ⟨[(0,⟨[],.loc 0 0⟩),(2,⟨[],.ms 2 1 0 (dNms s.types).length (dNms s.types).length⟩),(40,⟨[],.v (.int .i64 (dNms s.types).length)⟩),(41,⟨[],.v (.int .i64 e)⟩)],
  [bC s (.pt lc 0) (.loc 1 0) m,pC s aC (.pt lc 0) (.v (.slice none 0 0)) (.v (.int .i64 0)) (.sl 1 (dInts ((namedL s).take e)) (some 0)),cZ l],[⟨n,3,1,none⟩]⟩
def HG (s:Sch) (aC:List Nat) (lc:List DV) (m:Int) (_:DV) (os:List (List DV)) (_:List TkE):Prop:=
 os=[bC s (.pt lc 0) (.loc 1 0) m,pC s aC (.pt lc 0) (.v (.slice none 0 0)) (.v (.int .i64 0)) (.sl 1 (dInts (namedL s)) none)]
theorem K8 {l:List Int} {i:Nat} {z:Int} (h:l[i]? = some z):(cZ l)[i]? = some (DV.v (.int .i64 z)):=by simp [cZ,h]
theorem xg (s:Sch) (lc:List DV) (aC:List Nat) (m:Int) (hT:fg (tL s) aC) (gk:aC.length<=1099511627776) (hl:s.types.length<=64) (hr:∀ x∈s.types,Cr s x.2=true) (hs:nmsWt s.types<=1099511627776)
  (hlo:∀ i,i < s.types.length->∃ k,endI s (s.types.length + 1) i=some k) :
  Ev Tryz.prog 49 [.loc 0 0] [bC s (.pt lc 0) (.loc 1 0) m,zx s aC lc] [] (HG s aC lc m):=by
 have hN:=fJ s.types
 have RC:∀ x∈s.types,x.2.wt<=1099511627776:=fun x hx=>by
  have:=gx hx;omega
 have TC:=Ct s;have Gt:=fun {k:Nat} {x:Wd × Ty}=>@oF s k x;have mw:(namedL s).length=s.types.length:=by simp [namedL]
 have Fa:=fun (e0:DV)=>xe s (.pt lc 0) aC (.pt lc 0) (.v (.slice none 0 0)) (.v (.int .i64 0)) e0 m hT gk hl hr;obtain ⟨af,order,types,⟨rh,rp⟩⟩:=s;simp only at hl hr hN hs RC TC Gt mw Fa hlo;have hN2:(dNms (⟨af,order,types,.mk rh rp⟩:Sch).types).length=types.length:=hN;refine ev_go (P:=Tryz.prog) tt tt_ok 5000 66 [] Tryz.func49 rfl Tryz.ntmps49 rfl (nL rfl) (fun E9 w9 hn9 hm9=>?_);refine ⟨⟨rfl,by omega,by omega,by omega⟩,?_⟩
 refine bU (fun j st=>∃ (e:Nat) (l:List Int),st=K7 ⟨af,order,types,.mk rh rp⟩ lc (zx ⟨af,order,types,.mk rh rp⟩ aC lc) m l (firstA ⟨af,order,types,.mk rh rp⟩ e) e/\e<=types.length/\l.length=types.length/\(∀ i:Nat,i < e->l[i]? = some (firstA ⟨af,order,types,.mk rh rp⟩ i:Int))/\j=types.length - e) types.length
  (K7 ⟨af,order,types,.mk rh rp⟩ lc (zx ⟨af,order,types,.mk rh rp⟩ aC lc) m (List.replicate ((dNms types).length:Int).toNat 0) (firstA ⟨af,order,types,.mk rh rp⟩ 0) 0) (aS 3 rfl (by repeat' (first | exact rfl | exact aw rfl | exact pv (Od _) | refine ⟨_,_,rfl,?_,?_⟩)) rfl rfl rfl (by repeat' (first | exact trivial | exact aw rfl | exact pv (Od _) | refine ⟨⟨_,rfl,?_⟩,?_⟩))) ⟨0,_,rfl,by omega,by simp [hN],fun _ h=>by omega,by omega⟩ ?_
 rintro j st ⟨e,l,rfl,he,K9,Og,rfl⟩;refine br (fun hL=>?_) (fun hL=>?_)
 ·have au:e < types.length:=by have:=hL;simp [hN] at this;exact this
  obtain ⟨x,hx⟩:∃ x,types[e]? = some x:=⟨_,gE au⟩;have Fh:=RC x (mG hx);have GO:=Gt hx;have s7:=TC (e + 1);obtain ⟨xw,⟨xh,xp⟩⟩:=x;have hnd:=qQ (Ty.mk xh xp).wt (.mk xh xp) (Nat.le_refl _) Fh;refine ⟨_,⟨by omega,dNms_get hx⟩,?_⟩;refine ⟨⟨by omega,by omega⟩,?_⟩;refine ⟨by rw [KZ];omega,?_⟩;refine call_p IM (hnd) ax rfl ?_;simp only at GO s7
  have om:(cZ l).set (0 + (e:Int).toNat * 1) (DV.v (.int .i64 ((firstA ⟨af,order,types,.mk rh rp⟩ e:Nat):Int)))=cZ (l.set e ((firstA ⟨af,order,types,.mk rh rp⟩ e:Nat):Int)):=by
   rw [show 0 + (e:Int).toNat * 1=e by omega,EV]
  have Hp:IntKind.i64.wrap (((firstA ⟨af,order,types,.mk rh rp⟩ e:Nat):Int) + (Ty.mk xh xp).nn)=((firstA ⟨af,order,types,.mk rh rp⟩ (e + 1):Nat):Int):=by
   rw [GO,wrap64 (by omega) (by omega)];omega
  refine ⟨K7 ⟨af,order,types,.mk rh rp⟩ lc (zx ⟨af,order,types,.mk rh rp⟩ aC lc) m (l.set e ((firstA ⟨af,order,types,.mk rh rp⟩ e:Nat):Int)) (firstA ⟨af,order,types,.mk rh rp⟩ (e + 1)) (e + 1),(aS 3 rfl (by repeat' (first | exact rfl | exact aw rfl | exact pv om | exact ay Hp | exact ay (bA au (by omega)) | refine ⟨_,_,rfl,?_,?_⟩)) rfl rfl rfl (by repeat' (first | exact trivial | exact aw rfl | exact pv om | exact ay Hp | exact ay (bA au (by omega)) | refine ⟨⟨_,rfl,?_⟩,?_⟩))),types.length - (e + 1),by omega,e + 1,_,rfl,by omega,by rw [List.length_set];exact K9,fun i hi=>?_,rfl⟩;by_cases I5:i=e
  ·subst I5;rw [List.getElem?_set_self (by omega)]
  ·rw [List.getElem?_set_ne (Ne.symm I5)];exact Og i (by omega)
 ·have bI:e=types.length:=by have:=hL;simp [hN] at this;omega
  subst bI;refine bU (fun j st=>∃ e:Nat,st=Oe ⟨af,order,types,.mk rh rp⟩ aC lc m l e e/\e<=types.length/\j=types.length - e) types.length (Oe ⟨af,order,types,.mk rh rp⟩ aC lc m l 0 0) (dn 3 ⟨0,3,1,none⟩ rfl rfl rfl (by repeat' (first | exact rfl | exact aw rfl | exact qa _ | exact bQ (Nat.le_refl _) rfl | exact bQ (Nat.le_refl _) rfl | refine ⟨_,_,rfl,?_,?_⟩)) rfl rfl (by repeat' (first | exact trivial | exact aw rfl | exact qa _ | exact bQ (Nat.le_refl _) rfl | refine ⟨⟨_,rfl,?_⟩,?_⟩))) ⟨0,rfl,by omega,by omega⟩ ?_;rintro j st ⟨e,rfl,he,rfl⟩;refine br (fun hL=>?_) (fun hL=>?_)
  ·have au:e < types.length:=by have:=hL;simp [hN] at this;exact this
   obtain ⟨k,hk⟩:=hlo e au;have gZ:=(u1 hk).1;simp only at gZ;have hE:=Fa (.sl 1 (dInts ((namedL ⟨af,order,types,.mk rh rp⟩).take e)) none) e au;rw [hk] at hE;have hnn:namedN ⟨af,order,types,.mk rh rp⟩ e=firstA ⟨af,order,types,.mk rh rp⟩ k:=by unfold namedN;rw [hk];all_goals rfl
   have pW:(namedL ⟨af,order,types,.mk rh rp⟩)[e]? = some (firstA ⟨af,order,types,.mk rh rp⟩ k):=by
    unfold namedL;rw [List.getElem?_map,List.getElem?_range au,Option.map_some,hnn]
   have eQ:dInts ((namedL ⟨af,order,types,.mk rh rp⟩).take e) ++ [[DV.v (.int .i64 ((firstA ⟨af,order,types,.mk rh rp⟩ k:Nat):Int))]]=dInts ((namedL ⟨af,order,types,.mk rh rp⟩).take (e + 1)):=by
    rw [List.take_add_one,pW];simp [dInts]
   refine G7 mo (by decide +kernel) ?_;refine mN en107 hE ax rfl rfl ?_;refine ⟨⟨by simp only [oz];omega,by simp only [oz];omega⟩,?_⟩
   have hld:(cZ l)[0 + (oz (some k)).toNat * 1]? = some (DV.v (.int .i64 ((firstA ⟨af,order,types,.mk rh rp⟩ k:Nat):Int))):=by
    rw [show 0 + (oz (some k)).toNat * 1=k by simp only [oz];omega];exact K8 (Og k gZ)
   refine ⟨_,hld,?_⟩;refine ⟨by simp [bG];omega,⟨by simp [bG,maxLen];omega,by simp [bG];omega⟩,?_⟩;exact ⟨Oe ⟨af,order,types,.mk rh rp⟩ aC lc m l (e + 1) (e + 1),(aS 3 rfl (by repeat' (first | exact rfl | exact aw rfl | exact qa _ | exact ay (bA au (by omega)) | exact dG eQ rfl | refine ⟨_,_,rfl,?_,?_⟩)) rfl rfl rfl (by repeat' (first | exact trivial | exact aw rfl | exact qa _ | exact ay (bA au (by omega)) | exact dG eQ rfl | refine ⟨⟨_,rfl,?_⟩,?_⟩))),types.length - (e + 1),by omega,e + 1,rfl,by omega,rfl⟩
  ·have bI:e=types.length:=by have:=hL;simp [hN] at this;omega
   subst bI;have ht:(namedL ⟨af,order,types,.mk rh rp⟩).take types.length=namedL ⟨af,order,types,.mk rh rp⟩:=by rw [<- mw,List.take_length]
   rw [ht];exact ⟨.dV [],[bC ⟨af,order,types,.mk rh rp⟩ (.pt lc 0) (.loc 1 0) m,pC ⟨af,order,types,.mk rh rp⟩ aC (.pt lc 0) (.v (.slice none 0 0)) (.v (.int .i64 0)) (.sl 1 (dInts (namedL ⟨af,order,types,.mk rh rp⟩)) none)],ax,aL,rfl⟩
structure Ed where
 name:ByteArray
 bare:Bool
 bp:Int
 to:Int
 label:Int
 wide:Int
 ck:Int
 cn:Int
 seen:Int
 ca:Int
structure Nd where
 ag:Int
 bp:Int
 lo:Int
 hi:Int
 most:Int
 ae:List ByteArray
 aD:List Ed
def Fi (e:Ed):List DV:=[.v (.string e.name),.v (.bool e.bare),.v (.int .i64 e.bp),.v (.int .i64 e.to),.v (.int .i64 e.label),.v (.int .i64 e.wide),.v (.int .i64 e.ck),.v (.int .i64 e.cn),.v (.int .i64 e.seen),.v (.int .i64 e.ca)]
def fy (l:List Ed):List (List DV):=l.map Fi
def jR (n:Nd):List DV:=[.v (.int .i64 n.ag),.v (.int .i64 n.bp),.v (.int .i64 n.lo),.v (.int .i64 n.hi),.v (.int .i64 n.most),.sl 1 (dz n.ae) none,.sl 10 (fy n.aD) none]
def e7 (l:List Nd):List (List DV):=l.map jR
def oG (w:Int):Int:=if w=0 then 3 else w
def Cu (lev:List Wd->Int) (p:Ph) (to:Int):Ed:=⟨p.name.s,p.bare,p.name.a,to,lev p.label,oG p.wide,p.ck,p.cn,lev p.cl,p.ca⟩
def PB (s:Sch) (name:ByteArray):Int:=(namedN s ((dc (tL s) name).getD 0):Int)
def u6 (s:Sch) (t:Ty) (k:Nat):Int:=if t.h.ag=9 then PB s t.h.name.s else (k:Int)
def zA (s:Sch) (p:Ph) (u:Ty) (k:Nat):Int:=if p.bare then -1 else u6 s u k
mutual
def ndsT (lev:List Wd->Int) (s:Sch):Ty->Nat->List Nd
 | .mk h ps,k=>if h.ag=9 then [] else ⟨h.ag,h.bp,h.lo,h.hi,h.most,az h.ae,edsP lev s ps (k + 1)⟩ :: qU lev s ps (k + 1)
def edsP (lev:List Wd->Int) (s:Sch):Pts->Nat->List Ed
 | .nil,_=>[]
 | .cons p u r,k=>Cu lev p (zA s p u k) :: edsP lev s r (k + if p.bare then 0 else u.nn)
def qU (lev:List Wd->Int) (s:Sch):Pts->Nat->List Nd
 | .nil,_=>[]
 | .cons p u r,k=>(if p.bare then [] else ndsT lev s u k) ++ qU lev s r (k + if p.bare then 0 else u.nn)
end
mutual
theorem iN (lev:List Wd->Int) (s:Sch):∀ (t:Ty) (k:Nat),(ndsT lev s t k).length=t.nn
 | .mk h ps,k=>by
  simp only [ndsT,Ty.nn];split
  ·rfl
  ·rw [List.length_cons,qV lev s ps];omega
theorem qV (lev:List Wd->Int) (s:Sch):∀ (ps:Pts) (k:Nat),(qU lev s ps k).length=ps.nn
 | .nil,k=>rfl
 | .cons p u r,k=>by
  simp only [qU,Pts.nn,List.length_append,qV lev s r];split
  ·rfl
  ·rw [iN lev s u]
end
abbrev De (s:Sch) (aC:List Nat) (lc:List DV) (n:Nat):List DV:=pC s aC (.pt lc 0) (.sl 0 (List.replicate n []) (some 0)) (.v (.int .i64 0)) (.sl 1 (dInts (namedL s)) none)
abbrev zB (n:Nat) (base:List DV):TkE:=⟨n,125,7,some base⟩
def Js (s:Sch) (aC:List Nat) (lc:List DV) (m:Int) (n:Nat) (base:List DV) (y:DV) (vH:List Nd) (r:DV) (os:List (List DV)) (tk:List TkE):Prop:=
 r=y/\os=[bC s (.pt lc 0) (.loc 1 0) m,De s aC lc (n + vH.length)]/\tk=[zB (n + vH.length) (base ++ (e7 vH).flatten)]
def Fj (lev:List Wd->Int) (s:Sch) (aC:List Nat) (lc:List DV) (m:Int) (t:Ty):Prop:=
 ∀ (n:Nat) (base:List DV),n + t.nn<=1099511627776->base.length=n * 7 ->
  Ev Tryz.prog 50 [.loc 0 0,.agg (gm t)] [bC s (.pt lc 0) (.loc 1 0) m,De s aC lc n] [zB n base] (Js s aC lc m n base (.v (.int .i64 (u6 s t n))) (ndsT lev s t n))
theorem Cv {X:Lx} (hX:X.OK) (s:Sch) (aC:List Nat) (m:Int) (p:Ph) (u:Ty) (hp:p.wt<=1099511627776) (dy:p.bare=false->Fj X.lev s aC (fC X.ae (cm X.ae X.aC) X.rows X.js) m u)
  (n:Nat) (base:List DV) (hb:p.bare=false->n + u.nn<=1099511627776) (hbl:base.length=n * 7) :
  Ev Tryz.prog 109 [.loc 0 0,.agg (Db p (gm u))] [bC s (.pt (fC X.ae (cm X.ae X.aC) X.rows X.js) 0) (.loc 1 0) m,De s aC (fC X.ae (cm X.ae X.aC) X.rows X.js) n] [zB n base]
   (Js s aC (fC X.ae (cm X.ae X.aC) X.rows X.js) m n base (.agg (Fi (Cu X.lev p (zA s p u n)))) (if p.bare then [] else ndsT X.lev s u n)):=by
 have hw1:wdsWt p.label + wdsWt p.cl<=p.wt:=by simp only [Ph.wt];omega
 have JT:X.pd = .pt (fC X.ae (cm X.ae X.aC) X.rows X.js) 0:=rfl;have yh:=fun pc=>qR hX s pc m p.label (by omega);have Fk:=fun pc=>qR hX s pc m p.cl (by omega);rw [JT] at yh Fk;have hE:=fun to=>Cu.eq_1 X.lev p to;have PD:=zA.eq_1 s p u n;generalize fC X.ae (cm X.ae X.aC) X.rows X.js=lc at yh Fk dy ⊢;obtain ⟨af,order,types,⟨rh,rp⟩⟩:=s;obtain ⟨uh,us⟩:=u;refine ev_go (P:=Tryz.prog) tt tt_ok 5000 52 [.cell 4 176] Tryz.func109 rfl Tryz.ntmps109 rfl (nL rfl) (fun E9 w9 hn9 hm9=>?_);have Jt:=yh [.pt lc 0,.sl 0 (List.replicate n []) none,.v (.int .i64 0),.pt (cm (tL ⟨af,order,types,.mk rh rp⟩) aC) 0,.sl 1 (dInts (namedL ⟨af,order,types,.mk rh rp⟩)) none];have Ju:=Fk [.pt lc 0,.sl 0 (List.replicate n []) none,.v (.int .i64 0),.pt (cm (tL ⟨af,order,types,.mk rh rp⟩) aC) 0,.sl 1 (dInts (namedL ⟨af,order,types,.mk rh rp⟩)) none];apply nI (fun _=>false) 11 15 [0,1,2,3,4,5,6,7,8,9,10,11,12,13,14,15,16] [0,1,2,3,4,5,6,7,8,9,10,15,11,12,13,14,16] 4 4 mo (by decide +kernel)
 ·refine mN AD Jt ax rfl rfl ?_;refine (?_:@Eq St _ _);exact rfl
 ·refine mN AD Jt ax rfl rfl ?_;refine (⟨rfl,rfl,?_⟩:_/\_/\_)
  repeat' (first | exact trivial | refine ⟨rfl,?_⟩)
 ·rfl
 refine br (fun hw=>?_) (fun hw=>?_)
 ·have hw:p.wide=0:=by simpa using hw
  refine eo [4] (fun _=>false) mo (by decide +kernel) ?_;refine mN AD Ju ax rfl rfl ?_;refine br (fun hB=>?_) (fun hB=>?_)
  ·have hB:p.bare=false:=by simpa using hB
   refine gn 2 1 Hi rfl rfl rfl aL aL (dy hB n base (hb hB) hbl) (fun r gT bX hΦ h1 h2=>?_);obtain ⟨rfl,rfl,rfl⟩:=hΦ;refine ⟨.agg (Fi ⟨p.name.s,p.bare,p.name.a,u6 ⟨af,order,types,.mk rh rp⟩ (.mk uh us) n,X.lev p.label,3,p.ck,p.cn,X.lev p.cl,p.ca⟩),[bC ⟨af,order,types,.mk rh rp⟩ (.pt lc 0) (.loc 1 0) m,De ⟨af,order,types,.mk rh rp⟩ aC lc (n + (ndsT X.lev ⟨af,order,types,.mk rh rp⟩ (.mk uh us) n).length)],ax,aL,?_,?_,?_⟩
   ·simp [hE,zA,hB,oG,hw]
   ·simp [hB]
   ·simp [hB]
  ·have hB:p.bare=true:=by simpa using hB
   refine ⟨.agg (Fi ⟨p.name.s,p.bare,p.name.a,-1,X.lev p.label,3,p.ck,p.cn,X.lev p.cl,p.ca⟩),[bC ⟨af,order,types,.mk rh rp⟩ (.pt lc 0) (.loc 1 0) m,De ⟨af,order,types,.mk rh rp⟩ aC lc n],ax,aL,?_,?_,?_⟩
   ·simp [hE,zA,hB,oG,hw]
   ·simp [hB]
   ·simp [hB,e7]
 ·have hw:¬ p.wide=0:=by simpa using hw
  refine eo [4] (fun _=>false) mo (by decide +kernel) ?_;refine mN AD Ju ax rfl rfl ?_;refine br (fun hB=>?_) (fun hB=>?_)
  ·have hB:p.bare=false:=by simpa using hB
   refine gn 2 1 Hi rfl rfl rfl aL aL (dy hB n base (hb hB) hbl) (fun r gT bX hΦ h1 h2=>?_);obtain ⟨rfl,rfl,rfl⟩:=hΦ;refine ⟨.agg (Fi ⟨p.name.s,p.bare,p.name.a,u6 ⟨af,order,types,.mk rh rp⟩ (.mk uh us) n,X.lev p.label,p.wide,p.ck,p.cn,X.lev p.cl,p.ca⟩),[bC ⟨af,order,types,.mk rh rp⟩ (.pt lc 0) (.loc 1 0) m,De ⟨af,order,types,.mk rh rp⟩ aC lc (n + (ndsT X.lev ⟨af,order,types,.mk rh rp⟩ (.mk uh us) n).length)],ax,aL,?_,?_,?_⟩
   ·simp [hE,zA,hB,oG,hw]
   ·simp [hB]
   ·simp [hB]
  ·have hB:p.bare=true:=by simpa using hB
   refine ⟨.agg (Fi ⟨p.name.s,p.bare,p.name.a,-1,X.lev p.label,p.wide,p.ck,p.cn,X.lev p.cl,p.ca⟩),[bC ⟨af,order,types,.mk rh rp⟩ (.pt lc 0) (.loc 1 0) m,De ⟨af,order,types,.mk rh rp⟩ aC lc n],ax,aL,?_,?_,?_⟩
   ·simp [hE,zA,hB,oG,hw]
   ·simp [hB]
   ·simp [hB,e7]
def PE (h:Hd):List DV:=[.v (.int .i64 h.ag),.v (.int .i64 h.bp),.v (.int .i64 h.lo),.v (.int .i64 h.hi),.v (.int .i64 h.most),.sl 1 (dz (az h.ae)) none,.v (.slice none 0 0)]
theorem HH {h:Hd} {base R:List DV} {n:Nat} {x:DV} (hb:base.length=n * 7):(base ++ (PE h ++ R)).set (n * 7 + 6) x=base ++ ([.v (.int .i64 h.ag),.v (.int .i64 h.bp),.v (.int .i64 h.lo),.v (.int .i64 h.hi),.v (.int .i64 h.most),.sl 1 (dz (az h.ae)) none,x] ++ R):=by
 rw [List.set_append_right _ _ (by omega),hb,Nat.add_sub_cancel_left];rfl
theorem tA (l:List Ed) (e:Ed):fy l ++ [Fi e]=fy (l ++ [e]):=by simp [fy]
theorem cK (l:List Ed):(fy l).length=l.length:=by simp [fy]
theorem mU (lev:List Wd->Int) (s:Sch):∀ (ps:Pts) (k:Nat),(edsP lev s ps k).length=ps.len
 | .nil,_=>rfl
 | .cons p u r,k=>by simp [edsP,Pts.len,mU lev s r]
abbrev Oh (s:Sch) (aC:List Nat) (lc:List DV) (m:Int) (n:Nat) (base:List DV) (h:Hd) (ps:Pts) (q e:Nat):St:=
 ⟨[(0,⟨[],.loc 0 0⟩),(3,⟨[],.loc 2 0⟩),(7,⟨[],.v (.int .i64 n)⟩),(8,⟨[],.loc 3 0⟩),(61,⟨[],.sl 2 (bJ h.ae) none⟩),(62,⟨[],.v (.int .i64 (bJ h.ae).length)⟩),(63,⟨[],.v (.int .i64 e)⟩)],
  [bC s (.pt lc 0) (.loc 1 0) m,De s aC lc n,gm (.mk h ps),[.v (.int .i64 h.ag),.v (.int .i64 h.bp),.v (.int .i64 h.lo),.v (.int .i64 h.hi),.v (.int .i64 h.most),.sl 1 (dz (az (h.ae.take e))) (some 1),.v (.slice none 0 0)]],
  [zB n base,⟨q,9,1,none⟩]⟩
abbrev Fl (s:Sch) (aC:List Nat) (lc:List DV) (m:Int) (n:Nat) (h:Hd) (ps:Pts) (n':Nat) (mV:List DV) (Es:List Ed) (q1 q2 e:Nat):St:=
 ⟨[(0,⟨[],.loc 0 0⟩),(3,⟨[],.loc 2 0⟩),(7,⟨[],.v (.int .i64 n)⟩),(11,⟨[],.sl 10 (fy Es) (some 2)⟩),(92,⟨[],.sl 18 (eB ps) none⟩),(93,⟨[],.v (.int .i64 (eB ps).length)⟩),(94,⟨[],.v (.int .i64 e)⟩)],
  [bC s (.pt lc 0) (.loc 1 0) m,De s aC lc n',gm (.mk h ps)],
  [zB n' mV,⟨q1,9,1,none⟩,⟨q2,176,10,none⟩]⟩
theorem qW {X:Lx} {L:List ByteArray} {h:Hd} {ps:Pts} (hk:(knT X L (.mk h ps)).1=0):(h.ag=9->dc L h.name.s≠none)/\(knP X L ps).1=0:=by
 rw [knT] at hk;split at hk
 ·cases hk
 ·rename_i h1;exact ⟨fun h9 hn=>h1 ⟨h9,hn⟩,hk⟩
theorem nV {X:Lx} {L:List ByteArray} {p:Ph} {u:Ty} {r:Pts} (hk:(knP X L (.cons p u r)).1=0):(p.bare=false->(knT X L u).1=0)/\(knP X L r).1=0:=by
 rw [knP] at hk;split at hk
 ·rename_i h1;exact (h1 hk).elim
 ·split at hk
  ·rename_i h1;exact (h1 hk).elim
  ·split at hk
   ·rename_i h1;exact ⟨(fun h2=>by rw [h1] at h2;cases h2),hk⟩
   ·split at hk
    ·rename_i h1;exact (h1 hk).elim
    ·rename_i h1;exact ⟨fun _=>by simpa using h1,hk⟩
theorem tB {X:Lx} (hX:X.OK) (s:Sch) (aC:List Nat) (m:Int) (hT:fg (tL s) aC) (gk:aC.length<=1099511627776):∀ (k:Nat) (t:Ty),t.wt<=k->t.wt<=1099511627776->(knT X (tL s) t).1=0 ->
  Fj X.lev s aC (fC X.ae (cm X.ae X.aC) X.rows X.js) m t
 | 0,t,hn,_,_=>by have:=t.cT;omega
 | k + 1,.mk h ps,hn,cO,Mt=>by
  have ih:=tB hX s aC m hT gk k;intro n base hnb hbl;obtain ⟨PF,PG⟩:=qW Mt;have Jv:=fun (p:Ph) (u:Ty)=>Cv hX s aC m p u;generalize fC X.ae (cm X.ae X.aC) X.rows X.js=lc at ih Jv ⊢;simp only [Ty.wt,Hd.wt] at hn cO;have sv:=ps.jr;have mw:=cv h.ae;have hf:=fv (tL s) aC h.name.s hT gk;have nN:=qS s;have hnmL:(namedL s).length=s.types.length:=by simp [namedL]
  have HI:u6 s (.mk h ps) n=if h.ag=9 then PB s h.name.s else (n:Int):=rfl
  have Cw:ndsT X.lev s (.mk h ps) n=if h.ag=9 then [] else ⟨h.ag,h.bp,h.lo,h.hi,h.most,az h.ae,edsP X.lev s ps (n + 1)⟩ :: qU X.lev s ps (n + 1):=by rw [ndsT]
  have hnn:(Ty.mk h ps).nn=if h.ag=9 then 0 else 1 + ps.nn:=by rw [Ty.nn]
  generalize hS:s=S at *;subst hS;obtain ⟨af,order,types,⟨rh,rp⟩⟩:=s;refine ev_go (P:=Tryz.prog) tt tt_ok 5000 117 [.tmp 4] Tryz.func50 rfl Tryz.ntmps50 rfl (nL rfl) (fun E9 w9 hn9 hm9=>?_);refine br (fun h9=>?_) (fun h9=>?_)
  ·have h9:h.ag=9:=by simpa using h9
   obtain ⟨i,hi⟩:=Option.ne_none_iff_exists'.1 (PF h9);have Ny:=(dR hi).1;rw [hi] at hf;rw [if_pos h9] at HI Cw
   have pW:(namedL ⟨af,order,types,.mk rh rp⟩)[i]? = some (namedN ⟨af,order,types,.mk rh rp⟩ i):=by
    unfold namedL;rw [List.getElem?_map,List.getElem?_range (by omega)];rfl
   refine Av (fun _=>false) mo (by decide +kernel) ?_;refine G8 qi (hf) ax rfl ?_;refine ⟨_,⟨by omega,dO pW⟩,?_⟩;refine ⟨.v (.int .i64 (namedN ⟨af,order,types,.mk rh rp⟩ i:Nat)),[bC ⟨af,order,types,.mk rh rp⟩ (.pt lc 0) (.loc 1 0) m,De ⟨af,order,types,.mk rh rp⟩ aC lc n],ax,aL,?_,?_,?_⟩
   ·rw [HI,PB,hi];rfl
   ·rw [Cw];rfl
   ·rw [Cw];simp [e7]
  have h9:¬ h.ag=9:=by simpa using h9
  rw [if_neg h9] at HI Cw hnn;have iZ:(List.replicate n ([]:List DV)).length=n:=List.length_replicate;refine bU (fun j st=>∃ e:Nat,st=Oh ⟨af,order,types,.mk rh rp⟩ aC lc m n base h ps e e/\e<=h.ae.length/\j=h.ae.length - e) h.ae.length (Oh ⟨af,order,types,.mk rh rp⟩ aC lc m n base h ps 0 0) (dn 4 ⟨0,9,1,none⟩ rfl rfl rfl (by repeat' (first | exact rfl | exact aw rfl | exact ay (congrArg Nat.cast iZ) | exact bQ (Nat.le_refl _) rfl | exact bQ (Nat.le_refl _) rfl | refine ⟨_,_,rfl,?_,?_⟩)) rfl rfl (by repeat' (first | exact trivial | exact aw rfl | exact ay (congrArg Nat.cast iZ) | exact bQ (Nat.le_refl _) rfl | refine ⟨⟨_,rfl,?_⟩,?_⟩))) ⟨0,rfl,by omega,by omega⟩ ?_;rintro j st ⟨e,rfl,he,rfl⟩;refine br (fun hL=>?_) (fun hL=>?_)
  ·have au:e < h.ae.length:=by simpa [aG] using hL
   obtain ⟨w,hw⟩:∃ w,h.ae[e]? = some w:=⟨_,gE au⟩;have eQ:=iI hw;refine ⟨oY w,⟨by omega,cJ hw⟩,?_⟩;refine ⟨by simp [bg,az];omega,⟨by simp [bg,az,maxLen];omega,by simp [bg,az];omega⟩,?_⟩;exact ⟨Oh ⟨af,order,types,.mk rh rp⟩ aC lc m n base h ps (e + 1) (e + 1),(aS 4 rfl (aK au eQ) rfl rfl rfl (aj au eQ)),h.ae.length - (e + 1),by omega,e + 1,rfl,by omega,rfl⟩
  have bI:e=h.ae.length:=by have:=hL;simp [aG] at this;omega
  subst bI;rw [List.take_length];refine G7 mo (by decide +kernel) ?_;refine ⟨⟨⟨iZ,by simp⟩,by simp [maxLen];omega,by simp;omega⟩,?_⟩
  refine bU (fun j st=>∃ (e n':Nat) (mV:List DV) (Es:List Ed) (K:List Nd),st=Fl ⟨af,order,types,.mk rh rp⟩ aC lc m n h ps n' mV Es h.ae.length e e/\e<=ps.len/\n'=n + 1 + K.length/\mV=base ++ (PE h ++ (e7 K).flatten)/\Es.length=e /\
    K ++ qU X.lev ⟨af,order,types,.mk rh rp⟩ (ps.drop e) (n + 1 + K.length)=qU X.lev ⟨af,order,types,.mk rh rp⟩ ps (n + 1)/\Es ++ edsP X.lev ⟨af,order,types,.mk rh rp⟩ (ps.drop e) (n + 1 + K.length)=edsP X.lev ⟨af,order,types,.mk rh rp⟩ ps (n + 1)/\K.length + (ps.drop e).nn=ps.nn/\(knP X (tL ⟨af,order,types,.mk rh rp⟩) (ps.drop e)).1=0/\j=ps.len - e) ps.len
   (Fl ⟨af,order,types,.mk rh rp⟩ aC lc m n h ps (n + 1) (base ++ (PE h ++ [])) [] h.ae.length 0 0) (dn 3 ⟨0,176,10,none⟩ rfl rfl rfl (by repeat' (first | exact rfl | exact aw rfl | exact bQ (Nat.le_refl _) rfl | exact bQ (Nat.le_refl _) rfl | refine ⟨_,_,rfl,?_,?_⟩)) rfl rfl aX) ⟨0,n + 1,_,[],[],rfl,by omega,rfl,rfl,rfl,rfl,rfl,by simp [Pts.drop],PG,by omega⟩ ?_
  rintro j st ⟨e,n',mV,Es,K,rfl,he,Iw,dY,LO,hK,La,PH,sa,rfl⟩
  have RJ:mV.length=n' * 7:=by
   have:∀ l:List Nd,(e7 l).flatten.length=l.length * 7:=by
    intro l
    induction l with
    | nil=>rfl
    | cons a r ih=>simp only [e7,List.map_cons,List.flatten_cons,List.length_append,List.length_cons] at ih ⊢;rw [ih];simp only [jR,List.length_cons,List.length_nil];omega
   rw [dY,List.length_append,List.length_append,this,hbl,Iw];simp only [PE,List.length_cons,List.length_nil];omega
  refine br (fun hL=>?_) (fun hL=>?_)
  ·have au:e < ps.len:=by simpa [aR] using hL
   obtain ⟨p,u,hx⟩:=Pts.gP au;have Eh:=Pts.ir (mG hx);rw [Pts.drop_cons hx] at hK La PH sa;obtain ⟨gO,DP⟩:=nV sa;simp only [qU] at hK;simp only [edsP] at La;simp only [Pts.nn] at PH;rw [<- Iw] at hK La;have MD:=u.fX;have TD:=u.eD;have cC:=Jv p u (by omega) (fun hB=>ih u (by omega) (by omega) (gO hB)) n' mV (fun hB=>by rw [hB] at PH;simp only [Bool.false_eq_true,if_false] at PH;omega) RJ;have Oi:=iN X.lev ⟨af,order,types,.mk rh rp⟩ u n';obtain ⟨uh,us⟩:=u;refine ⟨_,⟨by omega,dw hx⟩,?_⟩;refine gn 2 1 M1 rfl rfl rfl aL aL cC (fun r gT bX hΦ h1 h2=>?_);obtain ⟨rfl,rfl,rfl⟩:=hΦ;refine ⟨by rw [cK,LO],⟨by simp [cK,LO,maxLen];omega,by simp [cK,LO];omega⟩,?_⟩
   have Lb:(if p.bare then [] else ndsT X.lev ⟨af,order,types,.mk rh rp⟩ (.mk uh us) n').length=if p.bare then 0 else (Ty.mk uh us).nn:=by
    split
    ·rfl
    ·exact Oi
   have Jw:n + 1 + (K.length + (if p.bare then 0 else (Ty.mk uh us).nn))=n' + if p.bare then 0 else (Ty.mk uh us).nn:=by rw [Iw];omega
   refine ⟨Fl ⟨af,order,types,.mk rh rp⟩ aC lc m n h ps (n' + (if p.bare then [] else ndsT X.lev ⟨af,order,types,.mk rh rp⟩ (.mk uh us) n').length) (mV ++ (e7 (if p.bare then [] else ndsT X.lev ⟨af,order,types,.mk rh rp⟩ (.mk uh us) n')).flatten) (Es ++ [Cu X.lev p (zA ⟨af,order,types,.mk rh rp⟩ p (.mk uh us) n')]) h.ae.length (e + 1) (e + 1),(aS 3 rfl (by repeat' (first | exact rfl | exact aw rfl | exact ay (bA au (by omega)) | exact dG (tA _ _) rfl | refine ⟨_,_,rfl,?_,?_⟩)) rfl rfl rfl (by repeat' (first | exact trivial | exact aw rfl | exact ay (bA au (by omega)) | exact dG (tA _ _) rfl | refine ⟨⟨_,rfl,?_⟩,?_⟩))),
    ps.len - (e + 1),by omega,e + 1,_,_,_,K ++ (if p.bare then [] else ndsT X.lev ⟨af,order,types,.mk rh rp⟩ (.mk uh us) n'),rfl,by omega,?_,?_,?_,?_,?_,?_,DP,rfl⟩
   ·rw [List.length_append,Iw];omega
   ·rw [dY];simp [e7]
   ·simp [LO]
   ·rw [List.length_append,Lb,List.append_assoc,Jw];exact hK
   ·rw [List.length_append,Lb,List.append_assoc,Jw];exact La
   ·rw [List.length_append,Lb];omega
  ·have bI:e=ps.len:=by have:=hL;simp [aR] at this;omega
   subst bI;rw [Pts.eh] at hK La;simp only [qU,List.append_nil] at hK;simp only [edsP,List.append_nil] at La;have hKl:K.length=ps.nn:=by rw [hK,qV]
   have RK:(List.replicate n' ([]:List DV)).length=n':=List.length_replicate;refine Cm (kt:=0) ⟨rfl,rfl⟩ ⟨rfl,rfl,rfl⟩ ⟨rfl,rfl,rfl⟩ rfl rfl rfl rfl rfl rfl rfl rfl rfl rfl rfl RK ⟨by omega,by omega⟩ (by decide) ?_;have Oj:n + (ndsT X.lev ⟨af,order,types,.mk rh rp⟩ (.mk h ps) n).length=n':=by rw [Cw,List.length_cons,<- hK,Iw];omega
   have pV:mV.set ((n:Int).toNat * 7 + 6) (.sl 10 (fy Es) none)=base ++ (e7 (ndsT X.lev ⟨af,order,types,.mk rh rp⟩ (.mk h ps) n)).flatten:=by
    rw [dY,show (n:Int).toNat=n by omega,HH hbl,Cw,La,hK];rfl
   refine ⟨.v (.int .i64 n),[bC ⟨af,order,types,.mk rh rp⟩ (.pt lc 0) (.loc 1 0) m,De ⟨af,order,types,.mk rh rp⟩ aC lc n'],ax,aL,?_,?_,?_⟩
   ·rw [HI]
   ·rw [Oj]
   ·rw [Oj,<- pV];rfl
end Go.Proofs.YtfifjddnnmfeoaaGreat
namespace Go.Proofs.YtfifjddnnmfeoaaGreat
namespace Dv
open Go Go.RowKit
section
variable {X:Ctx} {st:St} {k:List It} {E:En} {a:Act} {w:World} {ops:Array Oper} {W:Nat->Bool} {C:World->Prop} {Q:Act->World->Prop} {i:Nat} {r:List Nat} {o:Oper}
theorem fO (hg:o.guard=none):Region.wanted o (yielded ops a.tmps)=true:=by
 unfold Region.wanted;rw [hg]
theorem HJ {bx:List (List DV)} {wr:World} (h:Rel X E st a w) (hE:nD E bx wr) (hC:∀ w',C w' -> CC E bx wr w'):Rl E bx C st.sl a where
 tm:=h.tm
 dB:=fun i cs hi=>by
  by_cases aQ:cs=[]
  ·subst aQ;have au:i < E.β.length:=by rw [hE.len];exact (gS hi).1
   exact ⟨_,[],gE au,⟨bM _,by simp⟩,fun w' _ j u hj=>by simp at hj⟩
  ·obtain ⟨b,ty,arr,hb,hw,hc⟩:=hE.dB i cs hi aQ;exact ⟨b,arr,hb,hc,fun w' h' j u hj=>by rw [bN (((hC w' h').o i b cs hb hi aQ).trans hw)];simpa using hj⟩
 cc:=fun x v hx w' h'=>(hC w' h').c x v hx
theorem HK {bx:List (List DV)} (h:Env E bx w) (m:List Nat):nD E (maskL m 0 bx) w:=⟨by rw [nE];exact h.len,fun i cs hi aQ=>by
 rcases nF m _ _ _ _ hi with h1 | h1
 ·exact (aQ h1).elim
 ·exact h.dB i cs h1⟩
theorem jE (hR:Rel X E st a w) (ho:ops[i]? = some o) (hE:eI o.op=false) (hL:iY o.op=false) (hg:o.guard=none) {s:DV} (hs:pureT X.P X.T ⟨st.sl,[],[]⟩ [] o.op=some s) (hd:eN X.nt st.sl o.dst=true)
  (hk:∀ a',Rel X E (st.put o.dst ⟨[],s⟩) a' w->runT X.P ops W C Q r a' w):runT X.P ops W C Q (i :: r) a w:=by
 have iZ:Rl E [] (fun _=>False) st.sl a:=⟨hR.tm,fun i cs hi=>by simp at hi,fun _ _ _ _ h=>h.elim⟩;obtain ⟨v,hv,bz⟩:=fm (st:=⟨st.sl,[],[]⟩) X.hT iZ (aO _) hs;simp only [runT,ho,hE,Bool.false_eq_true,if_false];exact ⟨v,.inl ⟨fO hg,fun w' _=>bz w' fun h=>by rw [hL] at h;cases h⟩,fun h=>(by rw [hL] at h;cases h),hk _ (aW hR hd s v hv)⟩
theorem HL (hR:Rel X E st a w) (ho:ops[i]? = some o) {bx:List (List DV)} (iZ:Rl E bx C st.sl a) (Kl:C w) (hE:eI o.op=false) (hg:o.guard=none) {s:DV} (hs:pureT X.P X.T ⟨st.sl,bx,[]⟩ [] o.op=some s) (hd:eN X.nt st.sl o.dst=true)
  (hk:∀ a',Rel X E (st.put o.dst ⟨[],s⟩) a' w->runT X.P ops W C Q r a' w):runT X.P ops W C Q (i :: r) a w:=by
 obtain ⟨v,hv,bz⟩:=fm (st:=⟨st.sl,bx,[]⟩) X.hT iZ (aO _) hs;simp only [runT,ho,hE,Bool.false_eq_true,if_false];exact ⟨v,.inl ⟨fO hg,fun w' h=>bz w' h⟩,fun _=>Kl,hk _ (aW hR hd s v hv)⟩
theorem HM (hR:Rel X E st a w) (ho:ops[i]? = some o) {t x d:Nat} {b p j:Nat} {n:Nat} {kd:TK} {z:List Value} (hb:E.β[j]? = some b) (lV:o.op = .load t (.tmp x)) (fW:o.dst=some d) {i2 zC b2:Nat} (lT:E.β[i2]? = some b2) (hx:rv st [] (.tmp x)=some (.loc i2 p)) (hT:X.T.find t=some ⟨n,false,kd,z⟩)
  (hC:∀ w',C w' -> w'.cell? ⟨b2,p,none⟩=some (.pointer (some ⟨b,zC,none⟩))) (Kl:C w) (hg:o.guard=none) (hd:eN X.nt st.sl (some d)=true)
  (hk:∀ a',Rel X E ⟨(d,⟨[],.loc j zC⟩) :: st.sl,st.bx,st.tk⟩ a' w->runT X.P ops W C Q r a' w):runT X.P ops W C Q (i :: r) a w:=by
 have hE:eI o.op=false:=by rw [lV];all_goals rfl
 simp only [runT,ho,hE,Bool.false_eq_true,if_false];have hv:Rv E (.loc j zC) (.pointer (some ⟨b,zC,none⟩)):=by unfold Rv;exact ⟨b,hb,rfl⟩
 refine ⟨.pointer (some ⟨b,zC,none⟩),.inl ⟨fO hg,fun w' h=>?_⟩,fun _=>Kl,?_⟩
 ·have Ki:=hC w' (h (by rw [lV];rfl));have e1:=aJ hR.rl hx;unfold Rv at e1;obtain ⟨b3,IB,e1⟩:=e1;rw [lT] at IB;simp only [oI] at IB;subst IB;have GK:=(te_parts X.hT hT).2.1
  have hl:(loadVar t ⟨b2,p,none⟩).run X.P w' = .ok (.pointer (some ⟨b,zC,none⟩)) w':=by
   simp [loadVar,gF GK,Ki]
  simp only [execOp,lV,e1,Sem.run_bind,Instr.loadAt,Instr.sureAddr,Sem.run_pure,Result.andThen_ok,hl]
 ·rw [fW];exact hk _ (aW hR hd (.loc j zC) _ hv)
theorem Cx (hR:Rel X E st a w) (ho:ops[i]? = some o) {dst:Option Nat} {f:Operand} {args:Array Operand} {PI:Array TypeId} (lV:o.op = .call ⟨.value f,args,PI⟩) (fW:o.dst=dst) (hg:o.guard=none) {g:FuncId} {ds:List DV} (hf:rv st [] f=some (.fn g [] [])) (hl:argsV st [] args.toList=some ds) (jh:Enters X.P g)
  {K:Value->World->Prop} (hc:∀ vs,RvL E ds vs->Calls X.P g vs.toArray w fun e w'=>∃ v,e = .returned v/\K v w') (hk:∀ v w',K v w' -> (W i=false->C w->C w')/\runT X.P ops W C Q r (a.put dst v) w'):runT X.P ops W C Q (i :: r) a w:=by
 have hE:eI o.op=true:=by rw [lV];all_goals rfl
 have PJ:=fO (ops:=ops) (a:=a) hg;have iZ:=hR.rl;have e1:=aJ iZ hf;unfold Rv at e1;obtain ⟨l1,r1,e1,yh,hr1⟩:=e1;simp only [RvL] at yh hr1;subst yh hr1;have hargs:=fl iZ (aO _) _ _ hl;simp only [runT,ho,hE,if_true,cz,PJ];subst fW;obtain ⟨dst,op,ty,pos,after,gu⟩:=o;simp only at lV;subst lV
 have hr:(execOp a.eval ⟨dst,.call ⟨.value f,args,PI⟩,ty,pos,after,gu⟩).run X.P w = .ok (.enter g (args.toList.map a.eval).toArray) w:=by
  have e3:(([]:List Value).toArray ++ args.map a.eval ++ ([]:List Value).toArray)=(args.toList.map a.eval).toArray:=by apply Array.ext';simp
  simp only [execOp,resolve,e1,Deferred.ofValue,Sem.run_bind,Sem.run_pure,Result.andThen_ok,invoke,e3];exact jh _ _
 unfold wq;rw [hr];refine (hc _ hargs).mono ?_;rintro e w' ⟨v,rfl,hK⟩;exact ⟨v,rfl,hk v w' hK⟩
theorem HN (hR:Rel X E st a w) (ho:ops[i]? = some o) {dst:Option Nat} {f:Operand} {args:Array Operand} {PI:Array TypeId} (lV:o.op = .call ⟨.value f,args,PI⟩) (fW:o.dst=dst) (hg:o.guard=none) {g:FuncId} {ds KB:List DV} (hf:rv st [] f=some (.fn g [] [])) (hl:argsV st [] args.toList=some ds) (jh:Enters X.P g)
  {os:List (List DV)} (n1 m1:Nat) (yt:Nat.ble n1 st.bx.length=true) (iC:Nat.ble m1 st.tk.length=true) (rW:jW [] n1 n1 m1 os (st.bx.take n1)) (ha:CcL [] n1 n1 m1 KB ds)
  {Φ:DV->List (List DV)->List TkE->Prop} (hc:Ev X.P g KB os (st.tk.take m1) Φ) (aZ:X.still=false) (hX:X.bt=[])
  (hk:∀ v r' gT bX E' w',Φ r' gT bX -> gT.length=n1->bX.length=m1->Rel X E' ⟨st.sl,gT ++ st.bx.drop n1,bX ++ st.tk.drop m1⟩ a w' -> Rv E' r' v->Ext E E' -> E'.β=E.β->(∀ (i:Nat) b,n1<=i->E.β[i]? = some b->w'.heap[b]? = w.heap[b]?) ->
   (W i=false->C w->C w')/\runT X.P ops W C Q r (a.put dst v) w'):runT X.P ops W C Q (i :: r) a w:=by
 refine Cx hR ho lV fW hg hf hl jh (K:=fun v w'=>∃ r' gT bX E',Φ r' gT bX /\ gT.length=n1/\bX.length=m1/\Rel X E' ⟨st.sl,gT ++ st.bx.drop n1,bX ++ st.tk.drop m1⟩ a w' /\ Rv E' r' v/\Ext E E' /\ E'.β=E.β/\∀ (i:Nat) b,n1<=i->E.β[i]? = some b->w'.heap[b]? = w.heap[b]?)
  (fun vs hv=>?_) ?_
 ·refine (wT n1 m1 yt iC rW ha hc aZ hX hR hv).mono ?_;rintro e w' ⟨v,r',gT,bX,E',rfl,h⟩;exact ⟨v,rfl,r',gT,bX,E',h⟩
 ·rintro v w' ⟨r',gT,bX,E',h1,h2,h3,h4,h5,h6,h7,h8⟩;exact hk v r' gT bX E' w' h1 h2 h3 h4 h5 h6 h7 h8
theorem HO (h:Rel X E st a w) (j o k:Nat) {n ty e:Nat} {Dc:List DV} {es ns:List (List DV)} (hq:st.tk[k]? = some ⟨n,ty,e,some ns.flatten⟩) (vB:∀ x∈ns,x.length=e) (mw:ns.length=n) (hj:st.bx[j]? = some Dc) (ho:Dc[o]? = some (.sl 0 es (some k))) (ie:es.length=n) :
  ∃ E',Rel X E' ⟨st.sl,st.bx.set j (Dc.set o (.sl e ns none)),st.tk.set k ⟨n,ty,e,none⟩⟩ a w:=KT hq vB mw hj ho ie E a w h
theorem Cy (hR:Rel X E st a w) (ho:ops[i]? = some o) (hE:eI o.op=true) (hg:o.guard=none) (hW:W i=true) (hd:eN X.nt st.sl o.dst=true) {p:Prop} (hp:effC X st o (go X 4000 k)=some p) (h:p):runT X.P ops W C (fun a w=>kq X k .normal a w) [i] a w:=by
 have PJ:=fO (ops:=ops) (a:=a) hg;simp only [runT,ho,hE,if_true,cz,PJ];refine kF ?_ (lx hd hR hp h);rintro a' w' ⟨aP,E',j2,hr,_⟩;exact ⟨(fun h=>by rw [hW] at h;cases h),go_sound 4000 _ _ j2 _ _ _ hr⟩
mutual
theorem nW {i j:Nat}:∀ d:DV,renD (swp i j) (renD (swp i j) d)=d
 | .v x=>rfl
 | .ud=>rfl
 | .agg l=>by simp only [renD,gz]
 | .dV l=>by simp only [renD,gz]
 | .sl e es tk=>rfl
 | .pt cs o=>rfl
 | .loc k o=>by simp only [renD,ij]
 | .el k o=>by simp only [renD,ij]
 | .ms k e o l c=>by simp only [renD,ij]
 | .fn g l r=>by simp only [renD,gz]
 | .lZ t x=>by simp only [renD,nW]
theorem gz {i j:Nat}:∀ l:List DV,renL (swp i j) (renL (swp i j) l)=l
 | []=>rfl
 | d :: r=>by simp only [renL,nW,gz]
end
theorem tC {i j:Nat}:∀ l:List (Nat × Sl),renS (swp i j) (renS (swp i j) l)=l
 | []=>rfl
 | (k,⟨gs,s⟩) :: r=>by simp only [renS,nW,tC]
theorem tD {i j:Nat}:∀ l:List (List DV),renO (swp i j) (renO (swp i j) l)=l
 | []=>rfl
 | c :: r=>by simp only [renO,gz,tD]
theorem Fm {i j:Nat} (f:Nat->Nat) (l:List (List DV)) (hi:i < l.length) (hj:j < l.length):renO f (swL i j l)=swL i j (renO f l):=by
 apply List.ext_getElem?;intro k;rw [mz,dm hi hj,dm (by rw [cu];exact hi) (by rw [cu];exact hj),mz]
theorem xi {i j:Nat} {S:St} (hi:i < S.bx.length) (hj:j < S.bx.length):cE i j (cE i j S)=S:=by
 obtain ⟨sl,bx,tk⟩:=S;simp only [cE,tC];rw [Fm _ _ (by rw [cu];exact hi) (by rw [cu];exact hj),tD];congr 1;apply List.ext_getElem?;intro k;rw [dm (by rw [bR];exact hi) (by rw [bR];exact hj),dm hi hj,ij]
theorem eS.Ol {f:FuncId} {args:List DV} {dst:Option Nat} (i j:Nat) (C5:Nat.ble X.n0 i=true) (vy:Nat.ble X.n0 j=true) (hi:Nat.blt i st.bx.length=true) (hj:Nat.blt j st.bx.length=true)
  (h:eS X f (renL (swp i j) args) dst k (cE i j st)) (hX:X.bt=[]:=by exact rfl):eS X f args dst k st:=by
 have eP:=hi;have eJ:=hj;simp only [Nat.blt_eq] at eP eJ;have hl:(cE i j st).bx.length=st.bx.length:=by simp only [cE,bR,cu]
 exact eS.yO i j (xi eP eJ).symm (gz args).symm C5 vy (by rw [hl];exact hi) (by rw [hl];exact hj) h hX
theorem zD {P:Program} {t e:TypeId} (hu:P.underlying t=some (.slice e)) (d:Nat) (x:Option Addr) (n c:Nat) (w:World):(Op.equalIn (d + 1) t (.slice x n c) (.slice none 0 0)).run P w = .ok x.isNone w:=by
 cases x<;>simp [Op.equalIn,run_underlying hu]
theorem xj {P:Program} {t e:TypeId} (hu:P.underlying t=some (.slice e)) (x:Option Addr) (n c:Nat) (w:World):(Op.equal t (.slice x n c) (.slice none 0 0)).run P w = .ok x.isNone w:=zD hu 9999 x n c w
theorem u7 {t d e:Nat} {x:Operand} {es:List (List DV)} {tk:Option Nat} {n et e' hZ:Nat} {bb:Bool} {z:List Value} (lV:∃ t',o.op = .binOp .eql t x (.const (.slice none 0 0)) t') (fW:o.dst=some d) (hx:rv st [] x=some (.sl e es tk)) (hT:X.T.find t=some ⟨n,bb,.sl et e' hZ,z⟩) (hd:eN X.nt st.sl (some d)=true)
  (hk:∀ b:Bool,(es ≠ []->b=false)->go X 4000 k ⟨(d,⟨[],.v (.bool b)⟩) :: st.sl,st.bx,st.tk⟩):Iu X o k st:=by
 intro E a w h;obtain ⟨t',lV⟩:=lV;have e1:=aJ h.rl hx;unfold Rv at e1;obtain ⟨b,m,cap,e1,⟨rfl,_⟩,hr,_⟩:=e1;obtain ⟨hu,_⟩:=dD X.hT hT;have bm:=xj hu b es.length cap w
 have bz:(execOp a.eval o).run X.P w = .ok (.value (.bool b.isNone)) w:=by
  have hc:a.eval (.const (.slice none 0 0)) = .slice none 0 0:=rfl;simp [execOp,lV,e1,hc,eqGuard,binOp,bm]
 refine gL bz ?_;rw [fW];refine go_sound 4000 _ _ (hk b.isNone fun aQ=>?_) E _ w (aW h hd (.v (.bool b.isNone)) _ (by unfold Rv;exact ⟨rfl,rfl⟩));have:=lu (hr aQ).1;rw [this];rfl
theorem Om {t d et e hZ n:Nat} {bb:Bool} {z:List Value} (lV:o.op = .buildSlice t 0 #[]) (fW:o.dst=some d) (hT:X.T.find t=some ⟨n,bb,.sl et e hZ,z⟩) (hd:eN X.nt st.sl (some d)=true) (aZ:X.still=false:=by exact rfl) (hX:X.bt=[]:=by exact rfl) :
  Qp X o st ⟨(d,⟨[],.sl e [] (some st.tk.length)⟩) :: st.sl,st.bx,st.tk ++ [⟨0,et,e,none⟩]⟩:=by
 intro E a w h;obtain ⟨hu,ii,zv,sB,hz,cg,yp,C2⟩:=dD X.hT hT;have oT:fD X.P et=some e:=by rw [eU sB,cg]
 have bz:(execOp a.eval o).run X.P w = .ok (.value (.slice (some ⟨w.heap.size,0,none⟩) 0 0)) (w.alloc (.cells #[] et)):=by
  have h1:(Instr.buildSlice t 0 #[]).run X.P w = .ok (.slice (some ⟨w.heap.size,0,none⟩) 0 0) (w.alloc (.cells #[] et)):=by
   have h0:Array.range 0 = #[]:=rfl;simp [Instr.buildSlice,run_underlying hu,aE oT,Instr.fill,newRow,h0]
  simp only [execOp,lV,List.map_toArray,List.map_nil,Sem.run_bind,h1,Result.andThen_ok,Sem.run_pure]
 refine du bz ?_;rw [fW];have gO:=h.env.iF (w':=w.alloc (.cells #[] et)) fun i hi=>alloc_old w _ hi
 let E2:En:=⟨E.c,E.β,E.tk ++ [⟨0,et,e,none⟩],E.τ ++ [.slice (some ⟨w.heap.size,0,none⟩) 0 0]⟩
 have hext:Ext E E2:=⟨fun _ _ h=>h,fun _ _ h=>h,fun k q' hk=>by
  have au:=(gS hk).1;refine ⟨q',by show (E.tk ++ _)[k]? = _;rw [List.getElem?_append_left au];exact hk,.inl ⟨rfl,?_⟩⟩;show (E.τ ++ _)[k]? = _
  rw [List.getElem?_append_left (by rw [h.env.tl];exact au)]⟩
 have hτ:∀ (k:Nat) y,E2.τ[k]? = some y->(k < E.τ.length/\E.τ[k]? = some y)∨(k=E.τ.length/\y = .slice (some ⟨w.heap.size,0,none⟩) 0 0):=fun k y hy=>by
  have hy:(E.τ ++ [Value.slice (some ⟨w.heap.size,0,none⟩) 0 0])[k]? = some y:=hy;rw [List.getElem?_append] at hy;split at hy
  ·rename_i hk;exact .inl ⟨hk,hy⟩
  ·rename_i hk
   have h0:k - E.τ.length=0:=by
    rcases Nat.eq_zero_or_pos (k - E.τ.length) with h0 | h0
    ·exact h0
    ·rw [List.getElem?_eq_none (by simp;omega)] at hy;cases hy
   rw [h0] at hy;simp only [List.getElem?_cons_zero,oI] at hy;exact .inr ⟨by omega,hy.symm⟩
 have ey:∀ (k:Nat) y g,E.τ[k]? = some y->y.ownBlock=some g->g < w.heap.size:=fun k y g hy hg=>(h.env.own (mG hy) hg).1
 have bq:Rel X E2 ⟨st.sl,st.bx,st.tk ++ [⟨0,et,e,none⟩]⟩ a (w.alloc (.cells #[] et)):=by
  refine ch h hext ?_ (by show E.tk ++ _=_;rw [h.tk]) ?_ (h.fr.alloc _) (kX aZ) (.nil hX)
  ·exact {
    len:=h.env.len
    tl:=by show (E.τ ++ _).length=(E.tk ++ _).length;simp [h.env.tl]
    dB:=fun i cs hi=>by
     obtain ⟨b,t,arr,hb,hw,hc⟩:=gO.dB i cs hi;exact ⟨b,t,arr,hb,hw,hc.mono hext⟩
    inj:=h.env.inj
    sub:=gO.sub
    pc:=h.env.pc
    bD:=fun k q' y On hy=>by
     rcases hτ k y hy with ⟨au,dW⟩ | ⟨rfl,rfl⟩
     ·have eT:(E.tk ++ [⟨0,et,e,none⟩])[k]? = some q':=On;rw [List.getElem?_append_left (by rw [<- h.env.tl];exact au)] at eT;exact gO.bD k q' y eT dW
     ·have eT:(E.tk ++ [⟨0,et,e,none⟩])[E.τ.length]? = some q':=On;rw [List.getElem?_append_right (by rw [h.env.tl];exact Nat.le_refl _),h.env.tl] at eT;simp only [Nat.sub_self,List.getElem?_cons_zero,oI] at eT;subst eT;refine .inr ⟨w.heap.size,0,#[],rfl,gp w _,⟨by simp,l5.none rfl⟩,Nat.le_refl _,Nat.zero_le _,fun hm=>?_,fun x v hx yy=>?_⟩
      ·have:=h.env.aM hm;omega
      ·have:=World.block_lt_of_cell? w x (h.env.sub x v hx);omega
    fY:=fun k k' y y' g ma hy dW hg ph=>by
     rcases hτ k y hy with ⟨_,vQ⟩ | ⟨rfl,rfl⟩
     ·rcases hτ k' y' dW with ⟨_,jO⟩ | ⟨rfl,rfl⟩
      ·exact h.env.fY k k' y y' g ma vQ jO hg ph
      ·have:=ey k y g vQ hg;simp only [Value.ownBlock,oI] at ph;omega
     ·rcases hτ k' y' dW with ⟨_,jO⟩ | ⟨rfl,rfl⟩
      ·have:=ey k' y' g jO ph;simp only [Value.ownBlock,oI] at hg;omega
      ·exact ma rfl }
  ·exact {
    c:=h.nw.c
    cn:=h.nw.cn
    β:=h.nw.β
    tk:=fun j q0 y0 uv pP=>by
     obtain ⟨q',y',h1,h2,h3⟩:=h.nw.tk j q0 y0 uv pP;exact ⟨q',y',by show (E.tk ++ _)[j]? = _;rw [List.getElem?_append_left (gS h1).1];exact h1,by show (E.τ ++ _)[j]? = _;rw [List.getElem?_append_left (gS h2).1];exact h2,h3⟩
    tn:=fun j y g hj hy hg=>by
     rcases hτ j y hy with ⟨_,vQ⟩ | ⟨_,rfl⟩
     ·exact h.nw.tn j y g hj vQ hg
     ·simp only [Value.ownBlock,oI] at hg;have:=h.fr.size;omega
    l0:=h.nw.l0 }
 refine ⟨E2,aW bq hd (.sl e [] (some st.tk.length)) _ ?_,hext,⟨[],by simp [E2]⟩,fun i b hb _=>alloc_old w _ (h.env.aM (mG hb))⟩;unfold Rv;refine ⟨_,0,0,rfl,⟨rfl,Nat.le_refl _⟩,fun hn=>(hn rfl).elim,fun k' eT=>?_⟩;cases eT;refine ⟨⟨0,et,e,none⟩,?_,Nat.le_refl _,fun _=>?_⟩
 ·show (E.tk ++ _)[st.tk.length]? = _;rw [h.tk];simp
 ·show (E.τ ++ _)[st.tk.length]? = _;rw [<- h.tk,<- h.env.tl];simp
theorem mW {t d et e hZ n:Nat} {bb:Bool} {z:List Value} (lV:o.op = .buildSlice t 0 #[]) (fW:o.dst=some d) (hT:X.T.find t=some ⟨n,bb,.sl et e hZ,z⟩) (hd:eN X.nt st.sl (some d)=true) (aZ:X.still=false:=by exact rfl) (hX:X.bt=[]:=by exact rfl)
  (hk:go X 4000 k ⟨(d,⟨[],.sl e [] (some st.tk.length)⟩) :: st.sl,st.bx,st.tk ++ [⟨0,et,e,none⟩]⟩):Iu X o k st:=(Om lV fW hT hd aZ hX).g hk
theorem HP (h:Rel X E st a w) (aZ:X.still=false) (hX:X.bt=[]) {g n ty e cap:Nat} {cur:Array Value} (hw:w.heap[g]? = some (.cells cur ty (0,0))) (cg:cur.size=cap * e) (hn:n<=cap) (BB:cap<=maxLen) (hb:g ∉ E.β)
  (hc:∀ x v,E.c x=some v->x.block=g->x.off < n * e) (ey:∀ (k:Nat) y,E.τ[k]? = some y->y.ownBlock≠some g) (hg:X.w0.heap.size<=g) :
  Rel X ⟨E.c,E.β,E.tk ++ [⟨n,ty,e,none⟩],E.τ ++ [.slice (some ⟨g,0,none⟩) n cap]⟩ ⟨st.sl,st.bx,st.tk ++ [⟨n,ty,e,none⟩]⟩ a w:=by
 let E2:En:=⟨E.c,E.β,E.tk ++ [⟨n,ty,e,none⟩],E.τ ++ [.slice (some ⟨g,0,none⟩) n cap]⟩
 have hext:Ext E E2:=⟨fun _ _ h=>h,fun _ _ h=>h,fun k q' hk=>by
  have au:=(gS hk).1;refine ⟨q',by show (E.tk ++ _)[k]? = _;rw [List.getElem?_append_left au];exact hk,.inl ⟨rfl,?_⟩⟩;show (E.τ ++ _)[k]? = _
  rw [List.getElem?_append_left (by rw [h.env.tl];exact au)]⟩
 have hτ:∀ (k:Nat) y,E2.τ[k]? = some y->(k < E.τ.length/\E.τ[k]? = some y)∨(k=E.τ.length/\y = .slice (some ⟨g,0,none⟩) n cap):=fun k y hy=>by
  have hy:(E.τ ++ [Value.slice (some ⟨g,0,none⟩) n cap])[k]? = some y:=hy;rw [List.getElem?_append] at hy;split at hy
  ·rename_i hk;exact .inl ⟨hk,hy⟩
  ·rename_i hk
   have h0:k - E.τ.length=0:=by
    rcases Nat.eq_zero_or_pos (k - E.τ.length) with h0 | h0
    ·exact h0
    ·rw [List.getElem?_eq_none (by simp;omega)] at hy;cases hy
   rw [h0] at hy;simp only [List.getElem?_cons_zero,oI] at hy;exact .inr ⟨by omega,hy.symm⟩
 refine ch h hext ?_ (by show E.tk ++ _=_;rw [h.tk]) ?_ h.fr (kX aZ) (.nil hX)
 ·exact {
   len:=h.env.len
   tl:=by show (E.τ ++ _).length=(E.tk ++ _).length;simp [h.env.tl]
   dB:=fun i cs hi=>by
    obtain ⟨b,t,arr,hb,hw,hc⟩:=h.env.dB i cs hi;exact ⟨b,t,arr,hb,hw,hc.mono hext⟩
   inj:=h.env.inj
   sub:=h.env.sub
   pc:=h.env.pc
   bD:=fun k q' y On hy=>by
    rcases hτ k y hy with ⟨au,dW⟩ | ⟨rfl,rfl⟩
    ·have eT:(E.tk ++ [⟨n,ty,e,none⟩])[k]? = some q':=On;rw [List.getElem?_append_left (by rw [<- h.env.tl];exact au)] at eT;exact h.env.bD k q' y eT dW
    ·have eT:(E.tk ++ [⟨n,ty,e,none⟩])[E.τ.length]? = some q':=On;rw [List.getElem?_append_right (by rw [h.env.tl];exact Nat.le_refl _),h.env.tl] at eT;simp only [Nat.sub_self,List.getElem?_cons_zero,oI] at eT;subst eT;exact .inr ⟨g,cap,cur,rfl,hw,⟨cg,fun cs h=>by cases h⟩,hn,BB,hb,hc⟩
   fY:=fun k k' y y' g' ma hy dW j1 Gx=>by
    rcases hτ k y hy with ⟨_,vQ⟩ | ⟨rfl,rfl⟩
    ·rcases hτ k' y' dW with ⟨_,jO⟩ | ⟨rfl,rfl⟩
     ·exact h.env.fY k k' y y' g' ma vQ jO j1 Gx
     ·simp only [Value.ownBlock,oI] at Gx;subst Gx;exact ey k y vQ j1
    ·rcases hτ k' y' dW with ⟨_,jO⟩ | ⟨rfl,rfl⟩
     ·simp only [Value.ownBlock,oI] at j1;subst j1;exact ey k' y' jO Gx
     ·exact ma rfl }
 ·exact {
   c:=h.nw.c
   cn:=h.nw.cn
   β:=h.nw.β
   tk:=fun j q0 y0 uv pP=>by
    obtain ⟨q',y',h1,h2,h3⟩:=h.nw.tk j q0 y0 uv pP;exact ⟨q',y',by show (E.tk ++ _)[j]? = _;rw [List.getElem?_append_left (gS h1).1];exact h1,by show (E.τ ++ _)[j]? = _;rw [List.getElem?_append_left (gS h2).1];exact h2,h3⟩
   tn:=fun j y g' hj hy ph=>by
    rcases hτ j y hy with ⟨_,vQ⟩ | ⟨_,rfl⟩
    ·exact h.nw.tn j y g' hj vQ ph
    ·simp only [Value.ownBlock,oI] at ph;omega
   l0:=h.nw.l0 }
theorem Lc {t d et e hZ n len:Nat} {bb:Bool} {z:List Value} {parts:Array (Nat × Operand)} {es:List (List DV)} (lV:o.op = .buildSlice t len parts) (fW:o.dst=some d) (hT:X.T.find t=some ⟨n,bb,.sl et e hZ,z⟩) (ie:litL e st parts.toList 0=some es)
  (hc:(Nat.beq es.length len && (Nat.blt 0 len && Nat.blt 0 e && Nat.ble (len * e) 16777216))=true) (hd:eN X.nt st.sl (some d)=true) (aZ:X.still=false:=by exact rfl) (hX:X.bt=[]:=by exact rfl)
  (hk:go X 4000 k ⟨(d,⟨[],.sl e es (some st.tk.length)⟩) :: st.sl,st.bx,st.tk ++ [⟨len,et,e,none⟩]⟩):Iu X o k st:=by
 intro E a w h;simp only [Bool.and_eq_true,Nat.beq_eq,Nat.ble_eq,Nat.blt_eq] at hc;obtain ⟨hlen,⟨pT,Aq⟩,hsm⟩:=hc;obtain ⟨hu,ii,zv,sB,hz,cg,yp,C2⟩:=dD X.hT hT;obtain ⟨xs,vs,hp,uz,BC,dZ,Mi,ly⟩:=lv h.rl Aq ie;subst cg
 have Bz:len * ii.size≠0:=by
  have:=Nat.mul_pos pT Aq;omega
 have jZ:Instr.fill (fun i=>some (i * ii.size,ii.size)) ((Array.range (len * ii.size)).map (zv.cells[·% zv.cells.size]!)) (parts.map fun (i,x)=>(i,a.eval x)).toList=some (cellsL vs).toArray:=by
  have h0:=pI ii.size vs 0 ((Array.range (len * ii.size)).map (zv.cells[·% zv.cells.size]!)).toList dZ (by simp [BC,hlen])
  have h1:(parts.map fun (i,x)=>(i,a.eval x)).toList=enumF 0 vs:=by
   rw [Array.toList_map,hp,uz,<- nq]
  rw [h1];simp only [Array.toArray_toList] at h0;rw [h0];simp [BC,hlen]
 have bz:(execOp a.eval o).run X.P w = .ok (.value (.slice (some ⟨w.heap.size,0,none⟩) len len)) (w.alloc (.cells (cellsL vs).toArray et)):=by
  simp only [execOp,lV,Sem.run_bind,run_buildSlice w t et len _ _ ii zv hu sB hz (by omega) Bz jZ,Result.andThen_ok,Sem.run_pure]
 refine gL bz ?_;rw [fW];have hr:=sy (arr:=cellsL vs) h aZ et
 have Jx:(cellsL vs).length=len * ii.size:=by
  have:∀ l:List Value,(∀ v∈l,v.cells.toList.length=ii.size)->(cellsL l).length=l.length * ii.size:=by
   intro l
   induction l with
   | nil=>intro _;simp [cellsL]
   | cons v l ih=>
    intro hl;simp only [cellsL,List.length_append,List.length_cons];rw [ih fun x hx=>hl x (List.mem_cons_of_mem _ hx),hl v List.mem_cons_self,Nat.succ_mul];omega
  rw [this vs dZ,BC,hlen]
 have hr2:=HP (n:=len) (ty:=et) (e:=ii.size) (cap:=len) hr aZ hX (g:=w.heap.size) (cur:=(cellsL vs).toArray) (gp w _) (by simp [Jx]) (Nat.le_refl _) (by
   have:len<=len * ii.size:=Nat.le_mul_of_pos_right _ Aq;unfold maxLen;omega) (fun hm=>by have:=h.env.aM hm;omega) (fun x v hx yy=>by
   have hx:e9 E.c (w.alloc (.cells (cellsL vs).toArray et)) w.heap.size (cellsL vs).length x=some v:=hx;unfold e9 at hx;split at hx
   ·rename_i hc;rw [<- Jx];exact hc.2.2
   ·have:=World.block_lt_of_cell? w x (h.env.sub x v hx);omega) (fun j y hy hg=>by
   have:=(h.env.own (mG hy) hg).1
   omega) (h.fr.size)
 refine go_sound 4000 _ _ hk _ _ _ (aW hr2 hd (.sl ii.size es (some st.tk.length)) _ ?_);unfold Rv;refine ⟨_,_,_,rfl,⟨hlen.symm,Nat.le_refl _⟩,fun aQ=>⟨rfl,?_⟩,fun k' eT=>?_⟩
 ·have iA:∀ x v,E.c x=some v->e9 E.c (w.alloc (.cells (cellsL vs).toArray et)) w.heap.size (cellsL vs).length x=some v:=fun x v hx=>by
   have au:=World.block_lt_of_cell? w x (h.env.sub x v hx);unfold e9;rw [if_neg (by omega)];exact hx
  have hm:RvC (En.cl ⟨e9 E.c (w.alloc (.cells (cellsL vs).toArray et)) w.heap.size (cellsL vs).length,E.β,E.tk,E.τ⟩) es.flatten (cellsL vs):=Mi.mono (Ext.JP (E:=E) iA);refine rvEs_flat hm ly fun j u hj=>?_;show e9 _ _ _ _ _=_;have eJ:=(gS hj).1;simp only [ab,ao,Nat.zero_add];rw [uu eJ,bN (gp w _)];simpa using hj
 ·cases eT;refine ⟨⟨len,et,ii.size,none⟩,?_,Nat.le_refl _,fun _=>?_⟩
  ·show (E.tk ++ _)[st.tk.length]? = _;rw [h.tk];simp
  ·show (E.τ ++ _)[st.tk.length]? = _;rw [<- h.tk,<- h.env.tl];simp
end
end Dv
end Go.Proofs.YtfifjddnnmfeoaaGreat
set_option maxRecDepth 100000
namespace Go.Proofs.YtfifjddnnmfeoaaGreat
open Go Go.RowKit Dv Tryz
theorem zE {l:List Wd} {o:List (Wd × Wd)} (h:(latF l o).1=0):(iL l o).1=0/\(enumL l 0 l).1=0/\(numF (az l) o).1=0/\bi (qJ l.length (hY l.length (fw (az l) o))) l.length=none/\bi (mP (hY l.length (fw (az l) o)) l.length) l.length=none:=by
 unfold latF at h;split at h
 ·rename_i h1;exact (h1 h).elim
 ·rename_i h1;split at h
  ·rename_i h2;exact (h2 h).elim
  ·rename_i h2;split at h
   ·rename_i h3;exact (h3 h).elim
   ·rename_i h3;refine ⟨by simpa using h1,by simpa using h2,by simpa using h3,?_⟩;split at h
    ·cases h
    ·rename_i h4;refine ⟨h4,?_⟩;split at h
     ·cases h
     ·rename_i h5;exact h5
theorem er {p:Nat->Bool} {n:Nat} (h:bi p n=none):∀ a,a < n->p a=false:=by
 intro a ha;unfold bi at h;rw [List.find?_eq_none] at h;have:=h a (by simpa using ha);simpa using this
theorem xm {l:List Wd} {o:List (Wd × Wd)} (h:(latF l o).1=0):kh (hY l.length (fw (az l) o)) l.length/\l.length<=32:=by
 obtain ⟨h1,h2,h3,h4,h5⟩:=zE h;have hP:=uY h3;rw [fN] at hP
 have Da:l ≠ []:=by
  rintro rfl;simp [iL] at h1
 have h32:l.length<=32:=by
  rcases Nat.lt_or_ge 32 l.length with h | h
  ·simp [iL,Da,h] at h1
  ·exact h
 have N5:∀ a b,a < l.length->b < l.length->ke (hY l.length (fw (az l) o)) l.length a b=false:=by
  have key:∀ a b,a<=b->b < l.length->ke (hY l.length (fw (az l) o)) l.length a b=false:=fun a b vC hb=>by
   have:=er h5 b hb;unfold mP at this;rw [List.any_eq_false] at this;have:=this a (by simp;omega);simpa using this
  intro a b ha hb;rcases Nat.le_total a b with h | h
  ·exact key a b h hb
  ·have:=key b a h ha;unfold ke at this ⊢;rw [qL,qM];exact this
 refine ⟨{
  pos:=List.length_pos_iff.2 Da
  rfl':=fun a ha=>tf hP ha
  tr:=fun a b c ha hb hc=>zh hP ha hb hc
  N7:=fun a b ha hb h6 h7=>by
   have:=er h4 a ha;unfold qJ at this;rw [List.any_eq_false] at this;have:=this b (by simpa using hb);simp only [Bool.and_eq_true,decide_eq_true_eq,not_and] at this;rcases Nat.lt_trichotomy a b with h8 | h8 | h8
   ·exact (this (by omega) h6 h7).elim
   ·exact h8
   ·exact (this (by omega) h6 h7).elim
  jn:=fun a b ha hb=>by
   have:=N5 a b ha hb;unfold ke at this;simp only [Bool.or_eq_false_iff,Option.isNone_eq_false_iff] at this;exact Option.isSome_iff_exists.1 this.1
  mt:=fun a b ha hb=>by
   have:=N5 a b ha hb;unfold ke at this;simp only [Bool.or_eq_false_iff,Option.isNone_eq_false_iff] at this
   exact Option.isSome_iff_exists.1 this.2 },h32⟩
def u9 (s:Sch) (aC:List Nat) (js:List Int):Lx:=⟨az s.af,aC,closeR (dQ s.af.length (fw (az s.af) s.order)) s.af.length,js,hY s.af.length (fw (az s.af) s.order)⟩
theorem HQ {s:Sch} {d:DV} (h:(latF s.af s.order).1=0) (hd:K1 s.af s.order d) (hw:s.af.length<=1099511627776):∃ aC js,(u9 s aC js).OK/\d=(u9 s aC js).pd:=by
 obtain ⟨aC,js,hT,gk,rR,pq,rfl⟩:=hd;obtain ⟨h1,h2⟩:=xm h;refine ⟨aC,js,⟨hT,by show aC.length<=_;omega,?_,?_,?_⟩,rfl⟩
 ·show kh _ (az s.af).length;rw [fN];exact h1
 ·show (az s.af).length<=32;rw [fN];exact h2
 ·show ∀ x y,x < (az s.af).length->y < (az s.af).length->JM _ (az s.af).length js x y;rw [fN];exact pq
def gW (s:Sch) (l:List Wd):Int:=zs (hY s.af.length (fw (az s.af) s.order)) (az s.af) l
def o6 (s:Sch) (t:Ty):Ft:=knT ⟨az s.af,[],[],[],fun _ _=>false⟩ (tL s) t
mutual
theorem tE {X Y:Lx} (h:X.ae=Y.ae) (L:List ByteArray):∀ t:Ty,knT X L t=knT Y L t
 | .mk h1 ps=>by rw [knT,knT,tF h L ps]
theorem tF {X Y:Lx} (h:X.ae=Y.ae) (L:List ByteArray):∀ ps:Pts,knP X L ps=knP Y L ps
 | .nil=>by rw [knP,knP]
 | .cons p t r=>by
  rw [knP,knP,tF h L r,tE h L t];unfold Lx.bad;rw [h]
end
theorem Ld (s:Sch) (aC:List Nat) (js:List Int) (t:Ty):knT (u9 s aC js) (tL s) t=o6 s t:=tE (X:=u9 s aC js) (Y:=⟨az s.af,[],[],[],fun _ _=>false⟩) rfl (tL s) t
def la (s:Sch):Ft:=
 if (latF s.af s.order).1≠0 then latF s.af s.order
 else if (fx s).1≠0 then fx s
 else if (eaR s.root s.types 0).1.1≠0 then (eaR s.root s.types 0).1
 else if (eaL (o6 s) (o6 s s.root) s.types).1≠0 then eaL (o6 s) (o6 s s.root) s.types
 else loopF s
def ndsAll (lev:List Wd->Int) (s:Sch):List (Wd × Ty)->Nat->List Nd
 | [],_=>[]
 | x :: r,k=>ndsT lev s x.2 k ++ ndsAll lev s r (k + x.2.nn)
def qX (s:Sch):List Nd:=ndsAll (gW s) s s.types 0
def bL (s:Sch):List Nd:=qX s ++ ndsT (gW s) s s.root (qX s).length
def eu (s:Sch):Int:=u6 s s.root (qX s).length
def Jy (s:Sch) (aC iy:List Nat) (js:List Int):List DV:=
 [(u9 s aC js).pd,.sl 7 (e7 (bL s)) none,.v (.int .i64 (eu s)),.pt (cm (tL s) iy) 0,.sl 1 (dInts (namedL s)) none]
def Fo (s:Sch) (d:DV):Prop:=∃ aC iy js,(u9 s aC js).OK/\fg (tL s) iy/\iy.length<=s.types.length/\d = .pt (Jy s aC iy js) 0
def zF (s:Sch) (r:DV) (_:List (List DV)) (_:List TkE):Prop:=
 if (la s).1≠0 then r = .dV [.v (.pointer none),(la s).d] else ∃ d,Fo s d/\r = .dV [d,Ft.d (0,0)]
theorem kj {s:Sch} {f:Ft} {os:List (List DV)} {tk:List TkE} (h:la s=f) (hf:f.1≠0):zF s (.dV [.v (.pointer none),f.d]) os tk:=by
 unfold zF;rw [h,if_pos hf]
theorem HR {s:Sch} {d:DV} {os:List (List DV)} {tk:List TkE} (h:(la s).1=0) (hd:Fo s d):zF s (.dV [d,Ft.d (0,0)]) os tk:=by
 unfold zF;rw [if_neg (by rw [h];simp)];exact ⟨d,hd,rfl⟩
theorem Fp {F:Ty->Ft} {z:Ft}:∀ {l:List (Wd × Ty)},(eaL F z l).1=0->z.1=0/\∀ x∈l,(F x.2).1=0
 | [],h=>⟨h,fun x hx=>by cases hx⟩
 | x :: r,h=>by
  rw [eaL] at h;split at h
  ·rename_i h1;exact (h1 h).elim
  ·rename_i h1;obtain ⟨h2,h3⟩:=Fp h;refine ⟨h2,fun y hy=>?_⟩;rcases List.mem_cons.1 hy with rfl | hy
   ·simpa using h1
   ·exact h3 y hy
theorem Fq {z:Ty}:∀ {l:List (Wd × Ty)} {m:Int},0<=m->(eaR z l m).1.1=0->(wrong z 1 0).1.1=0/\(∀ x∈l,(wrong x.2 1 0).1.1=0)/\(eaR z l m).2=m + ((l.map fun x=>x.2.cnt).sum + z.cnt:Nat)/\(eaR z l m).2<=512
 | [],m,_,h=>by
  rw [eaR] at h ⊢;obtain ⟨h1,h2,h3,_⟩:=kR h;exact ⟨h3,(fun x hx=>by cases hx),(by simp [h1]),h2⟩
 | x :: r,m,hm,h=>by
  rw [eaR] at h ⊢;split at h
  ·rename_i h1;exact (h1 h).elim
  ·rename_i h1;rw [if_neg h1];obtain ⟨g1,g2,g3,_⟩:=kR (by simpa using h1);obtain ⟨h2,h3,h4,h5⟩:=Fq (by omega) h;refine ⟨h2,fun y hy=>?_,(by rw [h4,g1];simp only [List.map_cons,List.sum_cons];omega),h5⟩;rcases List.mem_cons.1 hy with rfl | hy
   ·exact g3
   ·exact h3 y hy
theorem qY (lev:List Wd->Int) (s:Sch):∀ (l:List (Wd × Ty)) (k:Nat),(ndsAll lev s l k).length=(l.map fun x=>x.2.nn).sum
 | [],_=>rfl
 | x :: r,k=>by simp only [ndsAll,List.length_append,iN,qY lev s r,List.map_cons,List.sum_cons]
theorem qZ:∀ l:List (Wd × Ty),(l.map fun x=>x.2.nn).sum<=(l.map fun x=>x.2.cnt).sum
 | []=>Nat.le_refl _
 | x :: r=>by
  have:=x.2.fX;have:=qZ r;simp only [List.map_cons,List.sum_cons];omega
theorem tG:∀ l:List Nd,(e7 l).flatten.length=l.length * 7
 | []=>rfl
 | a :: r=>by
  have:=tG r;simp only [e7,List.map_cons,List.flatten_cons,List.length_append,List.length_cons] at this ⊢;rw [this];simp only [jR,List.length_cons,List.length_nil];omega
theorem HS {X:Lx} {s:Sch} {t:Ty} (h:(knT X (tL s) t).1=0):Cr s t=true:=by
 obtain ⟨hd,ps⟩:=t;have:=(qW h).1;unfold Cr;exact decide_eq_true this
theorem xr {s:Sch} (h:(loopF s).1=0):∀ i,i < s.types.length->∃ k,endI s (s.types.length + 1) i=some k:=by
 intro i hi;unfold loopF at h;split at h
 ·rename_i h1;have:=er h1 i hi;simp only [Option.isNone_eq_false_iff] at this;exact Option.isSome_iff_exists.1 this
 ·cases h
abbrev Fs (s:Sch) (aC:List Nat) (lc:List DV) (m:Int) (f1 f2:Int) (n:Nat) (base:List DV) (e:Nat):St:=
 ⟨[(1,⟨[],.loc 4 0⟩),(3,⟨[],.loc 3 0⟩),(6,⟨[],.loc 0 0⟩),(59,⟨[],.sl 11 (dNms s.types) none⟩),(60,⟨[],.v (.int .i64 (dNms s.types).length)⟩),(61,⟨[],.v (.int .i64 e)⟩)],
  [bC s (.pt lc 0) (.loc 1 0) m,De s aC lc n,[.v (.int .i64 f1),.v (.int .i64 f2)],[.v (.int .i64 0),.v (.int .i64 0)],wK s],[zB n base]⟩
theorem q4 (s:Sch) (hs:s.wt<=1099511627776):Ev Tryz.prog 16 [.agg (wK s)] [] [] (zF s):=by
 have hF:=la.eq_1 s;have hw:=hs;simp only [Sch.wt] at hw;have Oo:=cv s.af;have PJ:=kM s.types;have Hl:=wX s.af s.order (by omega) (by omega);have oW:=fun lc=>u4 s lc (by omega)
 have cO:∀ t,(t=s.root∨∃ x∈s.types,t=x.2)->t.wt<=1099511627776:=fun t ht=>by
  rcases ht with rfl | ⟨x,hx,rfl⟩
  ·omega
  ·have:=gx hx;omega
 have Oq:=fun lc aC=>zy s lc aC 0 (by omega) (by omega) (by omega) cO;have Ot:=fun (X:Lx) (hX:X.OK) (aC:List Nat) (hT:fg (tL s) aC) (gk:aC.length<=1099511627776) (m:Int)=>Cs s X.pd (zx s aC (fC X.ae (cm X.ae X.aC) X.rows X.js)) m (by omega) 47 Ky (knT X (tL s)) (fun t ht=>qT hX s aC (.pt (fC X.ae (cm X.ae X.aC) X.rows X.js) 0) (.v (.slice none 0 0)) (.v (.int .i64 0)) (.v (.slice none 0 0)) m hT gk t.wt t (Nat.le_refl _) (cO t ht))
 have Le:(fx s).1=0->s.types.length<=64:=fun h=>by
  unfold fx at h;split at h
  ·cases h
  ·omega
 have hLx:=fun d h hd=>@HQ s d h hd (by omega);have Jz:=fun (lat:DV) (aC:List Nat) (a b c e0:DV) (m:Int)=>zw s lat aC a b c e0 m;have Fu:=fun (lc:List DV) (aC:List Nat) (m:Int)=>xg s lc aC m;have dy:=fun (X:Lx) (hX:X.OK) (aC:List Nat) (m:Int) (hT:fg (tL s) aC) (gk:aC.length<=1099511627776) (t:Ty) (ht:t.wt<=1099511627776)=>tB hX s aC m hT gk t.wt t (Nat.le_refl _) ht;refine ev_go (P:=Tryz.prog) tt tt_ok 5000 85 [.tmp 2,.cell 3 54] Tryz.func16 rfl Tryz.ntmps16 rfl (nL rfl) (fun E9 w9 hn9 hm9=>?_);generalize hS:s=S at *;obtain ⟨af,order,types,⟨rh,rp⟩⟩:=s;subst hS;refine im QF rfl Hl ax (fun r hr=>?_);by_cases hL:(latF af order).1≠0
 ·have RA:=hL;rw [if_pos (show (latF (Sch.mk af order types (.mk rh rp)).af (Sch.mk af order types (.mk rh rp)).order).1≠0 from hL)] at hF;unfold zm at hr;rw [if_pos (show (latF (Sch.mk af order types (.mk rh rp)).af (Sch.mk af order types (.mk rh rp)).order).1≠0 from hL)] at hr;subst hr;refine br (fun h=>?_) (fun h=>?_)
  ·refine G7 mo (by decide +kernel) ?_;exact ⟨_,ax,kj (os:=[]) (tk:=[]) hF hL⟩
  ·exfalso;simp at h;exact hL h
 unfold zm at hr;rw [if_neg (show ¬ (latF (Sch.mk af order types (.mk rh rp)).af (Sch.mk af order types (.mk rh rp)).order).1≠0 from hL)] at hF hr;obtain ⟨d,hd,rfl⟩:=hr;have hL0:(latF af order).1=0:=by simpa using hL
 obtain ⟨aC,js,hX,rfl⟩:=hLx d hL0 hd;generalize PK:u9 ⟨af,order,types,.mk rh rp⟩ aC js=X at hX;refine br (fun h=>?_) (fun _=>?_)
 ·exfalso;simp at h;exact hL h
 refine eS.Ol 0 4 rfl rfl rfl rfl (eS.Ol 1 3 rfl rfl rfl rfl ?_);refine gn 2 0 QG rfl rfl rfl aL aL (oW (fC X.ae (cm X.ae X.aC) X.rows X.js)) (fun r gT bX hΦ h1 h2=>?_);obtain ⟨rfl,B1⟩:=hΦ;have h2:=List.eq_nil_of_length_eq_zero h2;subst h2;by_cases AZ:(fx ⟨af,order,types,.mk rh rp⟩).1≠0
 ·rw [if_pos AZ] at hF
  obtain ⟨a,b,rfl⟩:∃ a b,gT=[a,b]:=by
   match gT,h1 with
   | [a,b],_=>exact ⟨a,b,rfl⟩
  refine br (fun h=>?_) (fun h=>?_)
  ·refine G7 mo (by decide +kernel) ?_;exact ⟨_,ax,kj (os:=[]) (tk:=[]) hF AZ⟩
  ·exfalso;simp at h;exact AZ h
 rw [if_neg AZ] at hF;have Ou:(fx ⟨af,order,types,.mk rh rp⟩).1=0:=by simpa using AZ
 have Fv:=Le Ou;obtain ⟨iy,hT,gk,rfl⟩:=B1 Ou;refine br (fun h=>?_) (fun _=>?_)
 ·exfalso;simp at h;exact AZ h
 refine gn 2 0 MS rfl rfl rfl aL aL (Oq (fC X.ae (cm X.ae X.aC) X.rows X.js) iy) (fun r gT bX hΦ h1 h2=>?_);obtain ⟨rfl,rfl⟩:=hΦ;have h2:=List.eq_nil_of_length_eq_zero h2;subst h2;by_cases hR:(eaR (.mk rh rp) types 0).1.1≠0
 ·rw [if_pos (show (eaR (Sch.mk af order types (.mk rh rp)).root (Sch.mk af order types (.mk rh rp)).types 0).1.1≠0 from hR)] at hF;refine br (fun h=>?_) (fun h=>?_)
  ·refine G7 mo (by decide +kernel) ?_;exact ⟨_,ax,kj (os:=[]) (tk:=[]) hF hR⟩
  ·exfalso;simp at h;exact hR h
 rw [if_neg (show ¬ (eaR (Sch.mk af order types (.mk rh rp)).root (Sch.mk af order types (.mk rh rp)).types 0).1.1≠0 from hR)] at hF;have hR0:(eaR (.mk rh rp) types 0).1.1=0:=by simpa using hR
 refine br (fun h=>?_) (fun _=>?_)
 ·exfalso;simp at h;exact hR h
 have TF:=Ot X hX iy hT (by have:types.length<=64:=Fv;have:iy.length<=types.length:=gk;omega) (eaR (.mk rh rp) types 0).2;have Lf:∀ t,knT X (tL ⟨af,order,types,.mk rh rp⟩) t=o6 ⟨af,order,types,.mk rh rp⟩ t:=fun t=>by rw [<- PK];exact Ld _ _ _ t
 have Lg:eaL (knT X (tL ⟨af,order,types,.mk rh rp⟩)) (knT X (tL ⟨af,order,types,.mk rh rp⟩) (.mk rh rp)) types=eaL (o6 ⟨af,order,types,.mk rh rp⟩) (o6 ⟨af,order,types,.mk rh rp⟩ (.mk rh rp)) types:=by
  rw [show knT X (tL ⟨af,order,types,.mk rh rp⟩)=o6 ⟨af,order,types,.mk rh rp⟩ from funext Lf]
 refine AU MS TF ax rfl rfl ?_;by_cases hK:(eaL (o6 ⟨af,order,types,.mk rh rp⟩) (o6 ⟨af,order,types,.mk rh rp⟩ (.mk rh rp)) types).1≠0
 ·rw [if_pos (show (eaL (o6 ⟨af,order,types,.mk rh rp⟩) (o6 ⟨af,order,types,.mk rh rp⟩ (Sch.mk af order types (.mk rh rp)).root) (Sch.mk af order types (.mk rh rp)).types).1≠0 from hK)] at hF;refine br (fun h=>?_) (fun h=>?_)
  ·refine G7 mo (by decide +kernel) ?_;refine ⟨.dV [.v (.pointer none),(eaL (knT X (tL ⟨af,order,types,.mk rh rp⟩)) (knT X (tL ⟨af,order,types,.mk rh rp⟩) (.mk rh rp)) types).d],ax,?_⟩;rw [Lg];exact kj (os:=[]) (tk:=[]) hF hK
  ·exfalso;simp only [Lg] at h;simp at h;exact hK h
 rw [if_neg (show ¬ (eaL (o6 ⟨af,order,types,.mk rh rp⟩) (o6 ⟨af,order,types,.mk rh rp⟩ (Sch.mk af order types (.mk rh rp)).root) (Sch.mk af order types (.mk rh rp)).types).1≠0 from hK)] at hF;have TG:(eaL (o6 ⟨af,order,types,.mk rh rp⟩) (o6 ⟨af,order,types,.mk rh rp⟩ (.mk rh rp)) types).1=0:=by simpa using hK
 refine br (fun h=>?_) (fun _=>?_)
 ·exfalso;have h:(!decide ((eaL (knT X (tL ⟨af,order,types,.mk rh rp⟩)) (knT X (tL ⟨af,order,types,.mk rh rp⟩) (.mk rh rp)) types).1=0))=true:=h;rw [Lg,TG] at h;simp at h
 have hw2:wdsWt af + prsWt order + nmsWt types + (Ty.mk rh rp).wt<=1099511627776:=hw;have RL:nmsWt types<=1099511627776:=by omega
 obtain ⟨hkr,Dy⟩:=Fp TG;have RM:(knT X (tL ⟨af,order,types,.mk rh rp⟩) (.mk rh rp)).1=0:=by rw [Lf];exact hkr
 have Ov:∀ x∈types,(knT X (tL ⟨af,order,types,.mk rh rp⟩) x.2).1=0:=fun x hx=>by rw [Lf];exact Dy x hx
 have Ow:∀ x∈types,Cr ⟨af,order,types,.mk rh rp⟩ x.2=true:=fun x hx=>HS (Ov x hx);have HT:iy.length<=1099511627776:=by have:types.length<=64:=Fv;have:iy.length<=types.length:=gk;omega
 refine AU QH (Jz X.pd iy X.pd (.v (.slice none 0 0)) (.v (.int .i64 0)) (.v (.slice none 0 0)) (eaR (.mk rh rp) types 0).2 hT HT Fv Ow) ax rfl rfl ?_;by_cases hO:(loopF ⟨af,order,types,.mk rh rp⟩).1≠0
 ·refine br (fun h=>?_) (fun h=>?_)
  ·refine G7 mo (by decide +kernel) ?_;exact ⟨_,ax,kj (os:=[]) (tk:=[]) hF hO⟩
  ·exfalso;simp at h;exact hO h
 have TH:(loopF ⟨af,order,types,.mk rh rp⟩).1=0:=by simpa using hO
 have hF0:(la ⟨af,order,types,.mk rh rp⟩).1=0:=by rw [hF];exact TH
 refine br (fun h=>?_) (fun _=>?_)
 ·exfalso;simp at h;exact hO h
 refine gn 2 0 QI rfl rfl rfl aL aL (Fu (fC X.ae (cm X.ae X.aC) X.rows X.js) iy (eaR (.mk rh rp) types 0).2 hT HT Fv Ow RL (xr TH)) (fun r gT bX hΦ h1 h2=>?_);subst hΦ;have h2:=List.eq_nil_of_length_eq_zero h2;subst h2;clear oW Oq Ot Jz Fu TF Hl;have hN:(dNms types).length=types.length:=fJ types;obtain ⟨L3,Eh,hcm,Ox⟩:=Fq (Int.le_refl 0) hR0;generalize (eaR (.mk rh rp) types 0).2=m at hcm Ox ⊢
 refine bU (fun j st=>∃ (e n:Nat) (base:List DV) (N:List Nd),st=Fs ⟨af,order,types,.mk rh rp⟩ iy (fC X.ae (cm X.ae X.aC) X.rows X.js) m (loopF ⟨af,order,types,.mk rh rp⟩).1 (loopF ⟨af,order,types,.mk rh rp⟩).2 n base e/\e<=types.length/\n=N.length/\base=(e7 N).flatten/\N ++ ndsAll (gW ⟨af,order,types,.mk rh rp⟩) ⟨af,order,types,.mk rh rp⟩ (types.drop e) n=qX ⟨af,order,types,.mk rh rp⟩/\j=types.length - e) types.length
  (Fs ⟨af,order,types,.mk rh rp⟩ iy (fC X.ae (cm X.ae X.aC) X.rows X.js) m (loopF ⟨af,order,types,.mk rh rp⟩).1 (loopF ⟨af,order,types,.mk rh rp⟩).2 0 [] 0) (dn 5 ⟨0,125,7,some []⟩ rfl rfl rfl (by repeat' (first | exact rfl | exact aw rfl | exact bQ (Nat.le_refl _) rfl | exact bQ (Nat.le_refl _) rfl | refine ⟨_,_,rfl,?_,?_⟩)) rfl rfl aX) ⟨0,0,[],[],rfl,by omega,rfl,rfl,rfl,by omega⟩ ?_
 rintro j st ⟨e,n,base,N,rfl,he,hn,Iy,L4,rfl⟩;have TI:types.length<=64:=Fv;have Oy:X.lev=gW ⟨af,order,types,.mk rh rp⟩:=by rw [<- PK];all_goals rfl
 have htot:(qX ⟨af,order,types,.mk rh rp⟩).length + (Ty.mk rh rp).nn<=512:=by
  have h1:=qZ types;have h2:=(Ty.mk rh rp).fX;have h3:(qX ⟨af,order,types,.mk rh rp⟩).length=(types.map fun x=>x.2.nn).sum:=qY _ _ _ _;omega
 have hbl:base.length=n * 7:=by rw [Iy,hn,tG]
 have LR:n + (ndsAll (gW ⟨af,order,types,.mk rh rp⟩) ⟨af,order,types,.mk rh rp⟩ (types.drop e) n).length=(qX ⟨af,order,types,.mk rh rp⟩).length:=by rw [<- L4,List.length_append,hn]
 refine br (fun hL=>?_) (fun hL=>?_)
 ·have au:e < types.length:=by have:=hL;simp [hN] at this;exact this
  obtain ⟨x,hx⟩:∃ x,types[e]? = some x:=⟨_,gE au⟩;have TJ:=mG hx;rw [drop_cons hx,ndsAll] at L4 LR;rw [List.length_append] at LR;have mw:=iN (gW ⟨af,order,types,.mk rh rp⟩) ⟨af,order,types,.mk rh rp⟩ x.2 n;have K4:=dy X hX iy m hT HT x.2 (cO x.2 (.inr ⟨x,TJ,rfl⟩)) (Ov x TJ) n base (by omega) hbl;rw [Oy] at K4;obtain ⟨xw,⟨xh,xp⟩⟩:=x;refine ⟨_,⟨by omega,dNms_get hx⟩,?_⟩;refine gn 2 1 Hi rfl rfl rfl aL aL K4 (fun r gT bX hΦ h1 h2=>?_);obtain ⟨rfl,rfl,rfl⟩:=hΦ;refine ⟨Fs ⟨af,order,types,.mk rh rp⟩ iy (fC X.ae (cm X.ae X.aC) X.rows X.js) m (loopF ⟨af,order,types,.mk rh rp⟩).1 (loopF ⟨af,order,types,.mk rh rp⟩).2 (n + (ndsT (gW ⟨af,order,types,.mk rh rp⟩) ⟨af,order,types,.mk rh rp⟩ (.mk xh xp) n).length) (base ++ (e7 (ndsT (gW ⟨af,order,types,.mk rh rp⟩) ⟨af,order,types,.mk rh rp⟩ (.mk xh xp) n)).flatten) (e + 1),(aS 5 rfl (bh au) rfl rfl rfl (ah au)),types.length - (e + 1),by omega,e + 1,_,_,N ++ ndsT (gW ⟨af,order,types,.mk rh rp⟩) ⟨af,order,types,.mk rh rp⟩ (.mk xh xp) n,rfl,by omega,by rw [List.length_append,hn],by rw [Iy];simp [e7],?_,rfl⟩;rw [List.append_assoc,mw];exact L4
 have bI:e=types.length:=by have:=hL;simp [hN] at this;omega
 subst bI;rw [List.drop_length,ndsAll,List.append_nil] at L4;rw [List.drop_length,ndsAll,List.length_nil,Nat.add_zero] at LR;have Pe:=dy X hX iy m hT HT (.mk rh rp) (by omega) RM n base (by omega) hbl;rw [Oy] at Pe;intro E a w hr;have ff:=gJ hr;obtain ⟨b0,ty0,BF,gj,hw0,GS⟩:=ff.env.dB 0 _ rfl;obtain ⟨b1,ty1,arr1,om,hw1,Kn⟩:=ff.env.dB 1 _ rfl;obtain ⟨v13,RN,Oz⟩:=RvL.get (i:=13) (d:=.loc 1 0) GS.1 rfl
 have OA:v13 = .pointer (some ⟨b1,0,none⟩):=by
  unfold Rv at Oz;obtain ⟨b,hb,rfl⟩:=Oz;rw [om] at hb;simp only [oI] at hb;rw [hb]
 subst OA
 have mc:w.drew.cell? ⟨b0,13,none⟩=some (.pointer (some ⟨b1,0,none⟩)):=by
  rw [bN hw0];simpa using RN
 have G6:=HK ff.env [0,1,2,3];generalize uJ:maskL [0,1,2,3] 0 _=RO at G6
 have RP:∀ (i:Nat) cs,RO[i]? = some cs->cs ≠ []->2<=i:=fun i cs hi aQ=>by
  rw [<- uJ] at hi
  match i,hi with
  | 0,hi=>exact (aQ (by simpa [maskL] using hi.symm)).elim
  | 1,hi=>exact (aQ (by simpa [maskL] using hi.symm)).elim
  | i + 2,_=>omega
 refine iq (C:=fun w'=>CC E RO w.drew w' /\ w'.cell? ⟨b0,13,none⟩=some (.pointer (some ⟨b1,0,none⟩))) (W:=fun i=>Nat.beq i 10) (Q:=fun a w=>kq _ _ .normal a w) mo (by decide +kernel) (fun _ _ h=>h) ⟨⟨fun _ _ _ _ _ _=>rfl,ff.env.sub⟩,mc⟩ ?_;show Go.Proofs.YtfifjddnnmfeoaaGreat.Dv.runT _ _ _ _ _ [0,1,2,3,4,5,6,7,8,9,10] _ _;refine jE ff rfl rfl rfl rfl rfl rfl (fun a0 h0=>?_);refine jE h0 rfl rfl rfl rfl rfl rfl (fun a1 h1=>?_);refine jE h1 rfl rfl rfl rfl rfl rfl (fun a2 h2=>?_);refine HM h2 rfl om rfl rfl gj rfl rfl (fun w' h=>h.2) ⟨⟨fun _ _ _ _ _ _=>rfl,ff.env.sub⟩,mc⟩ rfl rfl (fun a3 h3=>?_);refine jE h3 rfl rfl rfl rfl rfl rfl (fun a4 h4=>?_);refine jE h4 rfl rfl rfl rfl rfl rfl (fun a5 h5=>?_);refine HL h5 rfl (bx:=RO) (HJ h5 G6 (fun w' h=>h.1)) ⟨⟨fun _ _ _ _ _ _=>rfl,ff.env.sub⟩,mc⟩ rfl rfl (by rw [<- uJ];rfl) rfl (fun a6 h6=>?_);refine HN h6 rfl rfl rfl rfl rfl rfl Hi 2 1 rfl rfl aL aL Pe rfl rfl ?_;intro v r gT bX E' w' hΦ _ _ bq I7 hx hβ hh;obtain ⟨rfl,rfl,rfl⟩:=hΦ;refine ⟨fun _ hC=>⟨⟨fun i b cs hb cA aQ=>?_,fun x v Py=>bq.env.sub x v (hx.c x v Py)⟩,?_⟩,?_⟩
 ·exact hh i b (RP i cs cA aQ) hb
 ·obtain ⟨b0',ty0',TL,Lh,RQ,RR⟩:=bq.env.dB 0 _ rfl;rw [hβ,gj] at Lh;simp only [oI] at Lh;subst Lh;obtain ⟨u13,RS,OB⟩:=RvL.get (i:=13) (d:=.loc 1 0) RR.1 rfl;unfold Rv at OB;obtain ⟨b,hb,rfl⟩:=OB;rw [hβ,om] at hb;simp only [oI] at hb;subst hb;rw [bN RQ];simpa using RS
 have h7:=aW (dst:=some 77) bq rfl _ v I7;have PL:(qX ⟨af,order,types,.mk rh rp⟩).length=n:=by rw [<- L4,hn]
 have pV:base ++ (e7 (ndsT (gW ⟨af,order,types,.mk rh rp⟩) ⟨af,order,types,.mk rh rp⟩ (.mk rh rp) n)).flatten=(e7 (bL ⟨af,order,types,.mk rh rp⟩)).flatten:=by
  unfold bL;rw [PL,<- L4,Iy];simp [e7]
 have OC:(e7 (bL ⟨af,order,types,.mk rh rp⟩)).length=n + (ndsT (gW ⟨af,order,types,.mk rh rp⟩) ⟨af,order,types,.mk rh rp⟩ (.mk rh rp) n).length:=by
  unfold bL;rw [PL];simp [e7,PL]
 obtain ⟨E3,h8⟩:=HO h7 1 1 0 (ns:=e7 (bL ⟨af,order,types,.mk rh rp⟩)) (congrArg (fun b=>some (zB (n + (ndsT (gW ⟨af,order,types,.mk rh rp⟩) ⟨af,order,types,.mk rh rp⟩ (.mk rh rp) n).length) b)) pV) (fun x hx=>by
  simp only [e7,List.mem_map] at hx;obtain ⟨y,_,rfl⟩:=hx
  rfl) OC rfl rfl List.length_replicate
 refine jE h8 rfl rfl rfl rfl rfl rfl (fun a8 h9=>?_);refine jE h9 rfl rfl rfl rfl rfl rfl (fun a9 sA=>?_);refine Cy sA rfl rfl rfl rfl rfl rfl ?_;refine ⟨.dV [.pt [X.pd,.sl 7 (e7 (bL ⟨af,order,types,.mk rh rp⟩)) none,.v (.int .i64 (u6 ⟨af,order,types,.mk rh rp⟩ (.mk rh rp) n)),.pt (cm (tL ⟨af,order,types,.mk rh rp⟩) iy) 0,.sl 1 (dInts (namedL ⟨af,order,types,.mk rh rp⟩)) none] 0,Ft.d (0,0)],ax,HR (os:=[]) (tk:=[]) hF0 ⟨aC,iy,js,by rw [PK];exact hX,hT,gk,?_⟩⟩;rw [Jy,PK,eu,PL]
theorem HU (es:List (List DV)) (hl:es.length<=1099511627776):Ev Tryz.prog 111 [.sl 1 es none] [] [] (fun r _ _=>r = .sl 1 es none∨(es=[]/\r = .v (.slice none 0 0))):=by
 refine ev_go (P:=Tryz.prog) tt tt_ok 5000 8 [.tmp 2] Tryz.func111 rfl Tryz.ntmps111 rfl (nL rfl) (fun E9 w9 hn9 hm9=>?_);refine u7 ⟨_,rfl⟩ rfl rfl rfl rfl (fun b hb=>?_);refine br (fun h=>?_) (fun h=>?_)
 ·have h:b=true:=h;have he:es=[]:=Classical.byContradiction fun hn=>by rw [hb hn] at h;cases h
  subst he;exact Or.inr ⟨rfl,rfl⟩
 ·refine mW rfl rfl rfl rfl (hk:=?_);refine ⟨rfl,⟨by simp [maxLen];omega,by simp;omega⟩,?_⟩;exact ⟨_,ax,Or.inl rfl⟩
theorem HV (es:List (List DV)) (hl:es.length<=1099511627776):Ev Tryz.prog 112 [.sl 10 es none] [] [] (fun r _ _=>r = .sl 10 es none∨(es=[]/\r = .v (.slice none 0 0))):=by
 refine ev_go (P:=Tryz.prog) tt tt_ok 5000 8 [.tmp 2] Tryz.func112 rfl Tryz.ntmps112 rfl (nL rfl) (fun E9 w9 hn9 hm9=>?_);refine u7 ⟨_,rfl⟩ rfl rfl rfl rfl (fun b hb=>?_);refine br (fun h=>?_) (fun h=>?_)
 ·have h:b=true:=h;have he:es=[]:=Classical.byContradiction fun hn=>by rw [hb hn] at h;cases h
  subst he;exact Or.inr ⟨rfl,rfl⟩
 ·refine mW rfl rfl rfl rfl (hk:=?_);refine ⟨rfl,⟨by simp [maxLen];omega,by simp;omega⟩,?_⟩;exact ⟨_,ax,Or.inl rfl⟩
def OD (lc:List DV) (vH:List Nd) (root:Int) (L:List ByteArray) (aC:List Nat) (named:List Nat):DV:=.pt [.pt lc 0,.sl 7 (e7 vH) none,.v (.int .i64 root),.pt (cm L aC) 0,.sl 1 (dInts named) none] 0
theorem Fw (l:List Nd):(e7 l).length=l.length:=by simp [e7]
theorem Fx {l:List Nd} {i:Nat} {n:Nd} (h:l[i]? = some n):(e7 l)[i]? = some (jR n):=by simp [e7,h]
section
variable (lc:List DV) (vH:List Nd) (root:Int) (L:List ByteArray) (aC:List Nat) (named:List Nat)
theorem nX:ba Tryz.prog 110 [OD lc vH root L aC named] (.v (.int .i64 vH.length)):=by
 refine ev_go (P:=Tryz.prog) tt tt_ok 5000 10 [.tmp 2] Tryz.func110 rfl Tryz.ntmps110 rfl (nL rfl) (fun E9 w9 hn9 hm9=>?_);refine (congrArg (fun z=>DV.v (.int .i64 z)) ?_:_=_);rw [Fw]
theorem zG:ba Tryz.prog 19 [OD lc vH root L aC named] (.v (.int .i64 root)):=by
 refine ev_go (P:=Tryz.prog) tt tt_ok 5000 9 [.tmp 2] Tryz.func19 rfl Tryz.ntmps19 rfl (nL rfl) (fun E9 w9 hn9 hm9=>?_);exact (rfl:_=_)
theorem Cz:ba Tryz.prog 38 [OD lc vH root L aC named] (.pt lc 0):=by
 refine ev_go (P:=Tryz.prog) tt tt_ok 5000 9 [.tmp 2] Tryz.func38 rfl Tryz.ntmps38 rfl (nL rfl) (fun E9 w9 hn9 hm9=>?_);exact ⟨_,ax,rfl⟩
theorem zH (i:Nat) (n:Nd) (h:vH[i]? = some n) (hn:n.ae.length<=1099511627776) (he:n.aD.length<=1099511627776) :
  ba Tryz.prog 51 [OD lc vH root L aC named,.v (.int .i64 i)] (.dV [.agg (jR n),.v (.bool true)]):=by
 have au:=(gS h).1;have hlen:=nX lc vH root L aC named;have Kn:=HU (dz n.ae) (by rw [bg];exact hn);have jY:=HV (fy n.aD) (by rw [cK];exact he);refine ev_go (P:=Tryz.prog) tt tt_ok 5000 32 [.cell 4 125,.tmp 5] Tryz.func51 rfl Tryz.ntmps51 rfl (nL rfl) (fun E9 w9 hn9 hm9=>?_);refine call_p IP (hlen) ax rfl ?_;refine br (fun g=>?_) (fun g=>?_)
 ·exfalso;simp [pickB] at g;omega
 refine ⟨_,⟨by omega,Fx h⟩,?_⟩;refine G7 mo (by decide +kernel) ?_;refine mv M3 rfl Kn ax (fun r1 hr1=>?_);rcases hr1 with rfl | ⟨h1,rfl⟩
 ·refine mv IQ rfl jY ax (fun r2 hr2=>?_);rcases hr2 with rfl | ⟨h2,rfl⟩
  ·exact ⟨.dV [.agg (jR n),.v (.bool true)],ax,rfl⟩
  ·exact ⟨.dV [.agg (jR n),.v (.bool true)],(by repeat' (first | exact rfl | exact trivial | exact Or.inr (Or.inl ⟨_,rfl⟩) | exact Or.inr ⟨_,rfl⟩ | exact Or.inl ⟨rfl,rfl⟩ | exact Or.inl rfl | refine Or.inr ⟨_,_,rfl,Nat.zero_le _,rfl,?_⟩ | refine ⟨_,_,rfl,?_,?_⟩ | refine ⟨_,rfl,?_⟩ | exact Or.inl ⟨h2,rfl⟩ | refine Or.inr (Or.inr (Or.inr ⟨_,_,rfl,?_⟩)) | exact Or.inl rfl | refine Or.inr ?_)),rfl⟩
 ·refine mv IQ rfl jY ax (fun r2 hr2=>?_);rcases hr2 with rfl | ⟨h2,rfl⟩
  ·exact ⟨.dV [.agg (jR n),.v (.bool true)],(by repeat' (first | exact rfl | exact trivial | exact Or.inr (Or.inl ⟨_,rfl⟩) | exact Or.inr ⟨_,rfl⟩ | exact Or.inl ⟨rfl,rfl⟩ | exact Or.inl rfl | refine Or.inr ⟨_,_,rfl,Nat.zero_le _,rfl,?_⟩ | refine ⟨_,_,rfl,?_,?_⟩ | refine ⟨_,rfl,?_⟩ | exact Or.inl ⟨h1,rfl⟩ | refine Or.inr (Or.inr (Or.inr ⟨_,_,rfl,?_⟩)) | exact Or.inl rfl | refine Or.inr ?_)),rfl⟩
  ·exact ⟨.dV [.agg (jR n),.v (.bool true)],(by repeat' (first | exact rfl | exact trivial | exact Or.inr (Or.inl ⟨_,rfl⟩) | exact Or.inr ⟨_,rfl⟩ | exact Or.inl ⟨rfl,rfl⟩ | exact Or.inl rfl | refine Or.inr ⟨_,_,rfl,Nat.zero_le _,rfl,?_⟩ | refine ⟨_,_,rfl,?_,?_⟩ | refine ⟨_,rfl,?_⟩ | exact Or.inl ⟨h1,rfl⟩ | exact Or.inl ⟨h2,rfl⟩ | refine Or.inr (Or.inr (Or.inr ⟨_,_,rfl,?_⟩)) | exact Or.inl rfl | refine Or.inr ?_)),rfl⟩
theorem zI (i:Int) (h:i < 0∨vH.length<=i) :
  ba Tryz.prog 51 [OD lc vH root L aC named,.v (.int .i64 i)] (.dV [.agg [.v (.int .i64 0),.v (.int .i64 0),.v (.int .i64 0),.v (.int .i64 0),.v (.int .i64 0),.v (.slice none 0 0),.v (.slice none 0 0)],.v (.bool false)]):=by
 have hlen:=nX lc vH root L aC named;refine ev_go (P:=Tryz.prog) tt tt_ok 5000 32 [.cell 4 125,.tmp 5] Tryz.func51 rfl Tryz.ntmps51 rfl (nL rfl) (fun E9 w9 hn9 hm9=>?_);refine br (fun g=>?_) (fun g=>?_)
 ·refine call_p IP (hlen) ax rfl ?_;refine br (fun g2=>?_) (fun g2=>?_)
  ·exact ⟨_,ax,rfl⟩
  ·exfalso;simp at g;simp [pickB,g] at g2;omega
 ·exact ⟨_,ax,rfl⟩
end
abbrev pw (s:Sch) (n d k q:Int) (e:Nat):St:=
 ⟨[(1,⟨[],.loc 0 0⟩),(3,⟨[],.v (.int .i64 n)⟩),(4,⟨[],.v (.int .i64 d)⟩),(5,⟨[],.v (.int .i64 e)⟩)],[wK s],[]⟩
theorem va (s:Sch) (cO:s.wt<=1099511627776):Ev Tryz.prog 14 [.agg (wK s)] [] [] (fun d _ _=>∃ b:Bool,d = .v (.bool b)):=by
 have h1:=cv s.af;have h2:=kL s.order;have h3:=kM s.types;simp only [Sch.wt] at cO;have jM:=j4 s.root.wt s.root (Nat.le_refl _) (by omega);obtain ⟨af,order,types,⟨h,ps⟩⟩:=s;simp only at h1 h2 h3 cO jM;refine ev_go (P:=Tryz.prog) tt tt_ok 5000 60 [.tmp 2] Tryz.func14 rfl Tryz.ntmps14 rfl (nL rfl) (fun E9 w9 hn9 hm9=>?_);refine br (fun _=>?_) (fun _=>?_)
 ·exact ⟨true,rfl⟩
 refine call_p Kx (jM) ax rfl ?_;refine bU (fun j st=>∃ (e:Nat) (n d:Int),st=pw ⟨af,order,types,.mk h ps⟩ n d 0 0 e/\e<=types.length/\j=types.length - e) types.length (pw ⟨af,order,types,.mk h ps⟩ (Ty.mk h ps).cnt (Ty.mk h ps).deep 0 0 0) (aq ⟨_,rfl⟩ wA rfl rfl rfl wB) ⟨0,_,_,rfl,by omega,by omega⟩ ?_;rintro j st ⟨e,n,d,rfl,he,rfl⟩;refine br (fun hL=>?_) (fun hL=>?_)
 ·have au:e < types.length:=by have:=hL;simp [fJ] at this;exact this
  obtain ⟨w,hw⟩:∃ w,types[e]? = some w:=⟨_,gE au⟩;have Eh:=gx (mG hw);have hs:=j4 w.2.wt w.2 (Nat.le_refl _) (by omega);obtain ⟨w,u,us⟩:=w;simp only at hs;refine ⟨_,⟨by omega,dNms_get hw⟩,?_⟩;refine call_p Kx (hs) ax rfl ?_;refine br (fun _=>?_) (fun _=>?_)
  ·exact ⟨pw ⟨af,order,types,.mk h ps⟩ _ _ 0 0 (e + 1),(aq ⟨_,rfl⟩ wA rfl rfl rfl (ah au)),types.length - (e + 1),by omega,e + 1,_,_,rfl,by omega,rfl⟩
  ·exact ⟨pw ⟨af,order,types,.mk h ps⟩ _ _ 0 0 (e + 1),(aq ⟨_,rfl⟩ wA rfl rfl rfl (ah au)),types.length - (e + 1),by omega,e + 1,_,_,rfl,by omega,rfl⟩
 exact ⟨_,rfl⟩
def samePrs:List (Wd × Wd)->List (Wd × Wd)->Bool
 | [],[]=>true
 | x :: r,y :: s=>(decide (x.1.s=y.1.s) && decide (x.2.s=y.2.s)) && samePrs r s
 | _,_=>false
def sameNms:List (Wd × Ty)->List (Wd × Ty)->Bool
 | [],[]=>true
 | x :: r,y :: s=>(decide (x.1.s=y.1.s) && sameTy x.2 y.2) && sameNms r s
 | _,_=>false
def Ay (a b:Sch):Bool:=sameWds a.af b.af && samePrs a.order b.order && sameTy a.root b.root && sameNms a.types b.types
theorem CA:∃ d,Op.maxDepth=d + 1 + 1 + 1:=⟨Op.maxDepth - 3,by decide⟩
theorem Fy (p q r s:Int) (w:World):(Op.equal 54 (.agg #[.int .i64 p,.int .i64 q]) (.agg #[.int .i64 r,.int .i64 s])).run Tryz.prog w = .ok (decide (p=r) && decide (q=s)) w:=by
 have hf:Tryz.prog.underlying 54=some (.struct (Tryz.prog.fieldsOf 54)):=by simp [Program.fieldsOf,Tryz.underlying54]
 have lU:(Tryz.prog.fieldsOf 54).toList=[⟨ "E",52,0,false, "", "",0⟩,⟨ "At",3,1,false, "", "",8⟩]:=by simp [Program.fieldsOf,Tryz.underlying54]
 have hs:Tryz.prog.stoodInHeld 54=false:=by kernel_rfl
 obtain ⟨d,hm⟩:=CA
 have q9:∀ cs:Array Value,∀ off v,cs[off]? = some v->(part 52 cs off).run Tryz.prog w = .ok v w:=fun cs off v h=>by
  simp [part,Tryz.isAgg52,h]
 have q3:∀ cs:Array Value,∀ off v,cs[off]? = some v->(part 3 cs off).run Tryz.prog w = .ok v w:=fun cs off v h=>by
  simp [part,Tryz.isAgg3,h]
 unfold Op.equal;rw [hm,run_equalIn_struct w (d + 1 + 1) 54 _ _ hf hs,lU];simp only [Op.eqFields,ne_eq,String.reduceEq,not_false_eq_true,if_true,Sem.run_bind,q9 #[.int .i64 p,.int .i64 q] 0 (.int .i64 p) rfl,q9 #[.int .i64 r,.int .i64 s] 0 (.int .i64 r) rfl,Result.andThen_ok,run_equalIn_int w (d + 1) 52 .i64 .i64 p r Tryz.underlying52];by_cases h:p=r
 ·subst h;have e1:=q3 #[.int .i64 p,.int .i64 q] 1 (.int .i64 q) rfl;have e2:=q3 #[.int .i64 p,.int .i64 s] 1 (.int .i64 s) rfl;have e3:=run_equalIn_int w (d + 1) 3 .i64 .i64 q s Tryz.underlying3;by_cases h2:q=s
  ·subst h2;simp [e1,e3,Sem.run_pure]
  ·simp [e1,e2,e3,h2,Sem.run_pure]
 ·simp [h,Sem.run_pure]
theorem Li (p q r s:Int) (w:World):(binOp .eql 54 (.agg #[.int .i64 p,.int .i64 q]) (.agg #[.int .i64 r,.int .i64 s])).run Tryz.prog w = .ok (.bool (decide (p=r) && decide (q=s))) w:=by
 show ((do let r <- Op.equal 54 _ _;pure (Value.bool r)):Sem Value).run Tryz.prog w=_;simp only [Sem.run_bind,Fy p q r s w,Result.andThen_ok,Sem.run_pure]
theorem Fz (op:BinOp) (w:World) (x y:Operand) (vs vs':Array Value):(eqGuard op 54 x y (.agg vs) (.agg vs')).run Tryz.prog w = .ok () w:=by
 have h:Tryz.prog.eqGuardType Tryz.prog.depth 54=false:=by kernel_rfl
 cases op<;>simp [eqGuard,run_program,h]
theorem Lj (x y:Operand) (f g:Ft):uj Tryz.prog .eql x y 54 [.v (.int .i64 f.1),.v (.int .i64 f.2)] [.v (.int .i64 g.1),.v (.int .i64 g.2)] (decide (f.1=g.1) && decide (f.2=g.2)):=
 ⟨[.int .i64 f.1,.int .i64 f.2],[.int .i64 g.1,.int .i64 g.2],rfl,rfl,fun w=>⟨Fz _ w x y _ _,Li f.1 f.2 g.1 g.2 w⟩⟩
end Go.Proofs.YtfifjddnnmfeoaaGreat
set_option maxRecDepth 100000
namespace Go.Proofs.YtfifjddnnmfeoaaGreat
open Go Go.RowKit Dv Tryz
end Go.Proofs.YtfifjddnnmfeoaaGreat
set_option maxRecDepth 100000
namespace Go.Proofs.YtfifjddnnmfeoaaGreat
open Go Go.RowKit Dv Tryz
def cB (r:List Bool):List DV:=r.map fun b=>DV.v (.bool b)
def CB (r:List Bool):List (List DV):=r.map fun b=>[DV.v (.bool b)]
theorem FA (r:List Bool):(cB r).length=r.length:=by simp [cB]
theorem vb (r:List Bool):(CB r).length=r.length:=by simp [CB]
theorem Lk {r:List Bool} {i:Nat} {b:Bool} (h:r[i]? = some b):(cB r)[i]? = some (DV.v (.bool b)):=by simp [cB,h]
theorem Ll (r:List Bool) (i:Nat) (b:Bool):(cB r).set i (DV.v (.bool b))=cB (r.set i b):=by simp [cB,List.map_set]
theorem HW {r:List Bool} {i:Nat} {b:Bool} (h:r[i]? = some b):(CB r)[i]? = some [DV.v (.bool b)]:=by simp [CB,h]
theorem xu (r:List Bool):(CB r).flatten=cB r:=by
 induction r with
 | nil=>rfl
 | cons b r ih=>simp only [CB,cB,List.map_cons,List.flatten_cons] at ih ⊢;rw [ih];all_goals rfl
theorem RT (n:Nat):(List.replicate n (vL [Value.bool false])).flatten=cB (List.replicate n false):=by
 induction n with
 | zero=>rfl
 | succ n ih=>simp only [List.replicate_succ,List.flatten_cons,ih];rfl
theorem cR {n m:Nat} {tk:List TkE} {l:List DV} {r:List Bool} (h:l=cB r):WeL n m tk l (cB r):=by
 subst h;refine uS _ fun x hx=>?_;obtain ⟨z,_,rfl⟩:=List.mem_map.1 hx;exact ⟨_,rfl⟩
theorem cj {n m:Nat} {bX:List TkE} {x y:Bool} (h:x=y):We n m bX (.v (.bool x)) (.v (.bool y)):=.inl ⟨by rw [h],rfl⟩
end Go.Proofs.YtfifjddnnmfeoaaGreat
set_option maxRecDepth 100000
namespace Go.Proofs.YtfifjddnnmfeoaaGreat
open Go Go.RowKit Dv Tryz
end Go.Proofs.YtfifjddnnmfeoaaGreat
set_option maxRecDepth 100000
namespace Go.Proofs.YtfifjddnnmfeoaaGreat
open Go Go.RowKit Dv Tryz
end Go.Proofs.YtfifjddnnmfeoaaGreat
set_option maxRecDepth 100000
namespace Go.Proofs.YtfifjddnnmfeoaaGreat
open Go Go.RowKit Dv Tryz
def oH (S:Sch):List Ty:=S.types.map fun x=>x.2
def ld (S:Sch):List Ty:=oH S ++ [S.root]
mutual
def flatT:Ty->List Ty
 | .mk h ps=>if h.ag=9 then [] else .mk h ps :: flatP ps
def flatP:Pts->List Ty
 | .nil=>[]
 | .cons p t r=>(if p.bare then [] else flatT t) ++ flatP r
end
mutual
theorem nY:∀ t:Ty,(flatT t).length=t.nn
 | .mk h ps=>by
  have:=tH ps;simp only [flatT,Ty.nn];split
  ·rfl
  ·simp only [List.length_cons];omega
theorem tH:∀ ps:Pts,(flatP ps).length=ps.nn
 | .nil=>rfl
 | .cons p t r=>by
  have:=nY t;have:=tH r;simp only [flatP,Pts.nn,List.length_append];split
  ·simp only [List.length_nil];omega
  ·omega
end
theorem HX {P:Program} {f:FuncId} {args:List DV} {e:Nat} {es:List (List DV)} (h:Ev P f args [] [] (fun r _ _=>r = .sl e es none∨(es=[]/\r = .v (.slice none 0 0)))):ba P f args (.sl e es none):=by
 intro E w vs hE ht hv;refine (h E w vs hE ht hv).mono ?_;rintro e' w' ⟨v,rfl,hM,hs,d,os,E',h1,h2,h3,h4,h5,h6⟩;rcases h6 with rfl | ⟨rfl,rfl⟩
 ·exact ⟨v,rfl,hM,hs,_,os,E',h1,h2,h3,h4,h5,rfl⟩
 ·refine ⟨v,rfl,hM,hs,.sl e [] none,os,E',h1,h2,h3,h4,?_,rfl⟩;unfold Rv at h5 ⊢;exact ⟨_,0,0,h5.1,⟨rfl,Nat.le_refl _⟩,fun hn=>(hn rfl).elim,fun k hk=>by cases hk⟩
def CD (S:Sch) (k:Nat):List Bool:=(List.range S.types.length).map fun i=>(endI S k i).isSome
end Go.Proofs.YtfifjddnnmfeoaaGreat
set_option maxRecDepth 100000
namespace Go.Proofs.YtfifjddnnmfeoaaGreat
open Go Go.RowKit Dv Tryz
end Go.Proofs.YtfifjddnnmfeoaaGreat
set_option maxRecDepth 100000
namespace Go.Proofs.YtfifjddnnmfeoaaGreat
open Go Go.RowKit Dv Tryz
end Go.Proofs.YtfifjddnnmfeoaaGreat
set_option maxRecDepth 100000
namespace Go.Proofs.YtfifjddnnmfeoaaGreat
open Go Go.RowKit Dv Tryz
def eaA:List Ty->Int->Ft × Int
 | [],m=>((0,0),m)
 | t :: r,m=>if (bF t m).1.1≠0 then bF t m else eaA r (bF t m).2
theorem FB (z:Ty):∀ (l:List (Wd × Ty)) (m:Int),((eaA (l.map (fun x=>x.2) ++ [z]) m).1.1=0↔(eaR z l m).1.1=0)/\((eaR z l m).1.1≠0->eaA (l.map (fun x=>x.2) ++ [z]) m=eaR z l m)
 | [],m=>by
  show ((eaA [z] m).1.1=0↔(bF z m).1.1=0)/\((bF z m).1.1≠0->eaA [z] m=bF z m);simp only [eaA];by_cases h:(bF z m).1.1=0
  ·simp [h]
  ·simp [h]
 | x :: r,m=>by
  have ih:=FB z r (bF x.2 m).2;simp only [List.map_cons,List.cons_append,eaA,eaR];by_cases h:(bF x.2 m).1.1=0
  ·simp only [h,ne_eq,not_true,if_false];exact ih
  ·simp [h]
def eaK (F:Ty->Ft):List Ty->Ft
 | []=>(0,0)
 | t :: r=>if (F t).1≠0 then F t else eaK F r
theorem FC (F:Ty->Ft) (z:Ty):∀ l:List (Wd × Ty),((eaK F (l.map (fun x=>x.2) ++ [z])).1=0↔(eaL F (F z) l).1=0)/\((eaL F (F z) l).1≠0->eaK F (l.map (fun x=>x.2) ++ [z])=eaL F (F z) l)
 | []=>by
  show ((eaK F [z]).1=0↔(F z).1=0)/\((F z).1≠0->eaK F [z]=F z);simp only [eaK];by_cases h:(F z).1=0
  ·simp [h]
  ·simp [h]
 | x :: r=>by
  have ih:=FC F z r;simp only [List.map_cons,List.cons_append,eaK,eaL];by_cases h:(F x.2).1=0
  ·simp only [h,ne_eq,not_true,if_false];exact ih
  ·simp [h]
theorem FD {F:Ty->Ft}:∀ {l:List Ty},(eaK F l).1=0->∀ t∈l,(F t).1=0
 | [],_,t,ht=>by cases ht
 | u :: r,h,t,ht=>by
  rw [eaK] at h;split at h
  ·rename_i h1;exact (h1 h).elim
  ·rename_i h1;rcases List.mem_cons.1 ht with rfl | ht
   ·simpa using h1
   ·exact FD h t ht
theorem HY (S:Sch):la S=if (latF S.af S.order).1≠0 then latF S.af S.order
 else if (fx S).1≠0 then fx S
 else if (eaA (ld S) 0).1.1≠0 then (eaA (ld S) 0).1
 else if (eaK (o6 S) (ld S)).1≠0 then eaK (o6 S) (ld S)
 else loopF S:=by
 have h1:=FB S.root S.types 0;have h2:=FC (o6 S) S.root S.types;unfold la ld oH;by_cases a:(eaR S.root S.types 0).1.1=0
 ·have a':=h1.1.2 a;simp only [a,a',ne_eq,not_true,if_false];by_cases b:(eaL (o6 S) (o6 S S.root) S.types).1=0
  ·have b':=h2.1.2 b;simp only [b,b',ne_eq,not_true,if_false]
  ·rw [h2.2 b]
 ·rw [h1.2 a];by_cases b:(eaL (o6 S) (o6 S S.root) S.types).1=0
  ·have b':=h2.1.2 b;simp only [b,b',a,ne_eq,not_true,not_false_eq_true,if_false,if_true]
  ·rw [h2.2 b]
theorem HZ {S:Sch} (hs:S.wt<=1099511627776):∀ t∈ld S,t.wt<=1099511627776:=by
 intro t ht;unfold Sch.wt at hs;rcases List.mem_append.1 ht with h | h
 ·obtain ⟨x,hx,rfl⟩:=List.mem_map.1 h;have:=gx hx;omega
 ·simp only [List.mem_singleton] at h;subst h;omega
theorem cX {l:List Ed} {i:Nat} {e:Ed} (h:l[i]? = some e):(fy l)[i]? = some (Fi e):=by simp [fy,h]
def OE (lev:List Wd->Int) (s:Sch) (t:Ty) (k:Nat):Nd:=⟨t.h.ag,t.h.bp,t.h.lo,t.h.hi,t.h.most,az t.h.ae,edsP lev s t.ps (k + 1)⟩
mutual
theorem vd (lev:List Wd->Int) (s:Sch):∀ (t:Ty) (k:Nat),ndsT lev s t k=(flatT t).zipIdx.map fun x=>OE lev s x.1 (k + x.2)
 | .mk h ps,k=>by
  have ih:=ve lev s ps (k + 1);rw [ndsT,flatT];split
  ·rfl
  ·rw [ih,List.zipIdx_cons,List.map_cons];rw [List.zipIdx_succ,List.map_map];refine congr (congrArg List.cons rfl) (List.map_congr_left fun x _=>?_);simp only [Function.comp];congr 1;omega
theorem ve (lev:List Wd->Int) (s:Sch):∀ (ps:Pts) (k:Nat),qU lev s ps k=(flatP ps).zipIdx.map fun x=>OE lev s x.1 (k + x.2)
 | .nil,k=>rfl
 | .cons p u r,k=>by
  rw [qU,flatP,List.zipIdx_append,List.map_append]
  cases hb:p.bare with
  | true=>
   simp only [if_true,List.zipIdx_nil,List.map_nil,List.nil_append,List.length_nil,Nat.add_zero];exact ve lev s r k
  | false=>
   simp only [Bool.false_eq_true,if_false];rw [vd lev s u k,ve lev s r (k + u.nn),nY];refine congrArg _ ?_;rw [List.zipIdx_eq_map_add (l:=flatP r) (i:=0 + u.nn)];rw [List.map_map];refine List.map_congr_left fun x _=>?_;simp only [Function.comp];congr 1;omega
end
theorem A0 {X:Lx} {L:List ByteArray}:∀ {ps:Pts},(knP X L ps).1=0->∀ {p:Ph} {u:Ty},(p,u)∈ps.toList->p.bare=false->(knT X L u).1=0
 | .nil,_,p,u,h,_=>by cases h
 | .cons q v r,hk,p,u,h,hb=>by
  rcases List.mem_cons.1 h with h | h
  ·cases h;exact (nV hk).1 hb
  ·exact A0 (nV hk).2 h hb
def ndsA (lev:List Wd->Int) (s:Sch):List Ty->Nat->List Nd
 | [],_=>[]
 | t :: r,k=>ndsT lev s t k ++ ndsA lev s r (k + t.nn)
def o7 (l:List Ty):Nat:=(l.map Ty.nn).sum
theorem km (t:Ty) (l:List Ty):o7 (t :: l)=t.nn + o7 l:=by simp [o7]
theorem vf (a b:List Ty):o7 (a ++ b)=o7 a + o7 b:=by simp [o7]
theorem q5 (lev:List Wd->Int) (s:Sch):∀ (l:List Ty) (k:Nat),(ndsA lev s l k).length=o7 l
 | [],_=>rfl
 | t :: r,k=>by simp only [ndsA,List.length_append,iN,q5 lev s r,km]
theorem xx (lev:List Wd->Int) (s:Sch):∀ (a b:List Ty) (k:Nat),ndsA lev s (a ++ b) k=ndsA lev s a k ++ ndsA lev s b (k + o7 a)
 | [],b,k=>by simp [ndsA,o7]
 | t :: r,b,k=>by rw [List.cons_append,ndsA,ndsA,xx lev s r b,List.append_assoc,km,Nat.add_assoc]
theorem q6 (lev:List Wd->Int) (s:Sch):∀ (l:List (Wd × Ty)) (k:Nat),ndsAll lev s l k=ndsA lev s (l.map fun x=>x.2) k
 | [],_=>rfl
 | x :: r,k=>by rw [ndsAll,List.map_cons,ndsA,q6 lev s r]
theorem FE (s:Sch):(qX s).length=o7 (oH s):=by rw [qX,q6,q5];all_goals rfl
theorem nZ (s:Sch):bL s=ndsA (gW s) s (ld s) 0:=by
 unfold bL ld;rw [xx,FE,qX,q6,ndsA,ndsA,List.append_nil,Nat.zero_add];rfl
theorem FF (l:List Ty):∀ e,o7 (l.take e)<=o7 l:=by
 intro e;have:=vf (l.take e) (l.drop e);rw [List.take_append_drop] at this;omega
theorem Lm (s:Sch):o7 (ld s)<=s.wt:=by
 have key:∀ l:List (Wd × Ty),o7 (l.map fun x=>x.2)<=nmsWt l:=by
  intro l
  induction l with
  | nil=>exact Nat.le_refl _
  | cons x r ih=>
   have:=x.2.fX;have:=x.2.eD;simp only [List.map_cons,km,nmsWt];omega
 have h1:=key s.types;have h2:=s.root.fX;have h3:=s.root.eD;unfold ld;rw [vf,km];unfold Sch.wt oH;simp only [o7,List.map_nil,List.sum_nil] at h1 ⊢;omega
mutual
theorem xy {X:Lx} {L:List ByteArray}:∀ (t:Ty),(knT X L t).1=0->∀ u∈flatT t,(knT X L u).1=0
 | .mk h ps,hk,u,hu=>by
  rw [flatT] at hu;split at hu
  ·cases hu
  ·rcases List.mem_cons.1 hu with rfl | hu
   ·exact hk
   ·exact xz ps (qW hk).2 u hu
theorem xz {X:Lx} {L:List ByteArray}:∀ (ps:Pts),(knP X L ps).1=0->∀ u∈flatP ps,(knT X L u).1=0
 | .nil,_,u,hu=>by cases hu
 | .cons p v r,hk,u,hu=>by
  rw [flatP] at hu;rcases List.mem_append.1 hu with hu | hu
  ·cases hb:p.bare with
   | true=>rw [hb] at hu;cases hu
   | false=>rw [hb] at hu;exact xy v ((nV hk).1 hb) u hu
  ·exact xz r (nV hk).2 u hu
end
mutual
theorem xA:∀ (t:Ty),∀ u∈flatT t,u.wt<=t.wt
 | .mk h ps,u,hu=>by
  rw [flatT] at hu;split at hu
  ·cases hu
  ·rcases List.mem_cons.1 hu with rfl | hu
   ·exact Nat.le_refl _
   ·have:=xB ps u hu;simp only [Ty.wt];omega
theorem xB:∀ (ps:Pts),∀ u∈flatP ps,u.wt<=ps.wt
 | .nil,u,hu=>by cases hu
 | .cons p v r,u,hu=>by
  rw [flatP] at hu;simp only [Pts.wt];rcases List.mem_append.1 hu with hu | hu
  ·split at hu
   ·cases hu
   ·have:=xA v u hu;omega
  ·have:=xB r u hu;omega
end
structure FG (S:Sch):Prop where
 lat:(latF S.af S.order).1=0
 l64:S.types.length<=64
 kn:∀ t∈ld S,(o6 S t).1=0
 ends:∀ i,i < S.types.length->∃ k,endI S (S.types.length + 1) i=some k
 wr:∀ t∈ld S,(wrong t 1 0).1.1=0
theorem FH:∀ {l:List Ty} {m:Int},(eaA l m).1.1=0->∀ t∈l,(wrong t 1 0).1.1=0
 | [],_,_,t,ht=>by cases ht
 | u :: r,m,h,t,ht=>by
  rw [eaA] at h;split at h
  ·rename_i h1;exact (h1 h).elim
  ·rename_i h1;rcases List.mem_cons.1 ht with rfl | ht
   ·exact (kR (by simpa using h1)).2.2.1
   ·exact FH h t ht
theorem FI {S:Sch} (h:(la S).1=0):FG S:=by
 rw [HY] at h;split at h
 ·rename_i h1;exact (h1 h).elim
 rename_i h1;split at h
 ·rename_i h2;exact (h2 h).elim
 rename_i h2;split at h
 ·rename_i h3;exact (h3 h).elim
 rename_i h3;split at h
 ·rename_i h4;exact (h4 h).elim
 rename_i h4
 exact {
  lat:=by simpa using h1
  l64:=by
   have h2:(fx S).1=0:=by simpa using h2
   unfold fx at h2;split at h2
   ·cases h2
   ·omega
  kn:=FD (by simpa using h4)
  ends:=xr h
  wr:=FH (by simpa using h3) }
end Go.Proofs.YtfifjddnnmfeoaaGreat
