/- Part 4 of the proof: lattice.bounds: all joins and meets; lattice.Build; Reading a lattice: Len, has, Name, Find, Join, Meet, Bottom; labels.Of; The checker's part, once check is known for lighter types; The checker's parts, once check is known for lighter types; The checker's one and check, once check is known for lighter types; so check; kinds.Count, resolve.nodes; the builder's level; The builder's end, loops, known; The builder's each, right, called; The builder's each of right; called; places; The builder's places; The builder's edge; The builder's node; Steps of a region that draws its order, one by one; What resolve.Build says of a schema; lattices in which nothing is wrong; resolve.Build; Reading a plan: Len, Root, Lattice, Node, Find; slices.Clone; of no plan as well; The reference of chapter 17: Great, Same; The program's comparing of schemas; The law's example: a type that leads to itself; The law of no plan: the call returns true; The document's relations: Leads; The document's lattices: Find, pairs, Leq, Loop; The document's lattices: what is wrong; The document's labels: over, Least, Of; The document's schemas: Find, word, all, Flat, End, Start; The document's schemas: Flat, End, Start; The document's schemas: named, unknown; The reference's Wrong returns what is wrong with a type; The document's schemas: what is wrong; The document's nodes: Same, of equal ones; the law's node; The document's nodes: node; The document's plan: Build; What is known of a type with which nothing is wrong; labels have levels. No condition. -/
import Derived.Test.YtfifjddnnmfeoaaGreatMl3
set_option linter.all false
set_option maxRecDepth 100000
namespace Go.Proofs.YtfifjddnnmfeoaaGreat
open Go Go.RowKit Dv Tryz
theorem mV (js:List Int) (bx:List (List DV)) (N n m:Nat):CcL bx N n m (cZ js) (cZ js):=by
 induction js with
 | nil=>exact rfl
 | cons z r ih=>exact ⟨_,_,rfl,rfl,ih⟩
theorem dO {n m:Nat} {tk:List TkE} (js:List Int):WeL n m tk (cZ js) (cZ js):=ym _ fun x hx=>by
 obtain ⟨z,_,rfl⟩:=List.mem_map.1 hx;exact ⟨_,rfl⟩
theorem K9 (f:Nat->Nat) (js:List Int):renL f (cZ js)=cZ js:=by
 induction js with
 | nil=>rfl
 | cons z r ih=>simp only [cZ,List.map_cons,renL,renD] at ih ⊢;rw [ih]
theorem La (js:List Int):(cZ js).length=js.length:=by simp [cZ]
theorem Ez (js:List Int) (i:Nat) (z:Int):(cZ js).set i (.v (.int .i64 z))=cZ (js.set i z):=by simp [cZ,List.map_set]
abbrev dW (ae:List ByteArray) (tc:List DV) (rows:List Nat) (js:List Int):List DV:=ou ae (.pt tc 0) (iZ rows) js
theorem HC (ae:List ByteArray) (tc:List DV) (rows:List Nat) (js:List Int):(dW ae tc rows js).length=js.length + 3:=by simp [ou,cZ]
theorem ov {ae:List ByteArray} {tc:List DV} {rows:List Nat} {js:List Int} {i k:Nat} {z:Int} (h:k=i + 3):(dW ae tc rows js).set k (.v (.int .i64 z))=dW ae tc rows (js.set i z):=by
 subst h;simp only [ou,List.set_cons_succ,Ez]
theorem HE (f:Nat->Nat) (ae:List ByteArray) (tc:List DV) (rows:List Nat) (js:List Int):renL f (dW ae tc rows js)=dW ae tc rows js:=by
 simp only [ou,renL,K9];rfl
theorem Ap {n m:Nat} {tk:List TkE} {l:List DV} {ae:List ByteArray} {tc:List DV} {rows:List Nat} {js:List Int} (h:l=dW ae tc rows js):WeL n m tk l (dW ae tc rows js):=by
 subst h;exact ⟨_,_,rfl,ai rfl,_,_,rfl,ai rfl,_,_,rfl,ai rfl,dO js⟩
def dP (f:Nat->Nat->Bool) (n a b:Nat):Option Nat:=ku (fun c=>f a c && f b c) f n
def fb (f:Nat->Nat->Bool) (n a b:Nat):Option Nat:=ku (fun c=>f c a && f c b) (fun x y=>f y x) n
theorem pV (f:Nat->Nat->Bool) (n a b:Nat):dP f n a b=dP f n b a:=by
 unfold dP;congr 1;funext c;exact Bool.and_comm _ _
theorem pW (f:Nat->Nat->Bool) (n a b:Nat):fb f n a b=fb f n b a:=by
 unfold fb;congr 1;funext c;exact Bool.and_comm _ _
def jz (f:Nat->Nat->Bool) (n a b:Nat):Bool:=(dP f n a b).isNone || (fb f n a b).isNone
def lZ (f:Nat->Nat->Bool) (n b:Nat):Bool:=(List.range (b + 1)).any fun a=>jz f n a b
def JM (f:Nat->Nat->Bool) (n:Nat) (js:List Int) (a b:Nat):Prop:=js[a * 32 + b]? = some (oz (dP f n a b))/\js[1024 + (a * 32 + b)]? = some (oz (fb f n a b))
def qZ (js:List Int) (a b:Nat) (j m:Int):List Int:=(((js.set (a * 32 + b) j).set (b * 32 + a) j).set (1024 + (a * 32 + b)) m).set (1024 + (b * 32 + a)) m
theorem EA (js:List Int) (a b:Nat) (j m:Int):(qZ js a b j m).length=js.length:=by simp [qZ]
theorem bq {js:List Int} {i k:Nat} {z:Int} (h:k≠i):(js.set k z)[i]? = js[i]?:=List.getElem?_set_ne h
theorem l3 {f:Nat->Nat->Bool} {n:Nat} {js:List Int} (hl:js.length=2048) {a b:Nat} (ha:a < 32) (hb:b < 32) {x y:Nat} (hx:x < 32) (hy:y < 32)
  (h:JM f n js x y∨(x=a/\y=b)∨(x=b/\y=a)):JM f n (qZ js a b (oz (dP f n a b)) (oz (fb f n a b))) x y:=by
 have key:(x=a/\y=b)∨(x=b/\y=a)∨(JM f n js x y/\¬ (x=a/\y=b)/\¬ (x=b/\y=a)):=by
  by_cases h1:x=a/\y=b
  ·exact .inl h1
  ·by_cases h2:x=b/\y=a
   ·exact .inr (.inl h2)
   ·rcases h with h | h | h
    ·exact .inr (.inr ⟨h,h1,h2⟩)
    ·exact (h1 h).elim
    ·exact (h2 h).elim
 rcases key with ⟨rfl,rfl⟩ | ⟨rfl,rfl⟩ | ⟨h,h1,h2⟩
 ·unfold JM qZ;refine ⟨?_,?_⟩
  ·rw [bq (by omega),bq (by omega)];by_cases xY:x=y
   ·subst xY;rw [List.getElem?_set_self (by simp;omega)]
   ·rw [bq (by omega),List.getElem?_set_self (by omega)]
  ·by_cases xY:x=y
   ·subst xY;rw [List.getElem?_set_self (by simp;omega)]
   ·rw [bq (by omega),List.getElem?_set_self (by simp;omega)]
 ·unfold JM qZ;rw [pV f n x y,pW f n x y];refine ⟨?_,?_⟩
  ·rw [bq (by omega),bq (by omega),List.getElem?_set_self (by simp;omega)]
  ·rw [List.getElem?_set_self (by simp;omega)]
 ·unfold JM qZ;have g1:a * 32 + b≠x * 32 + y:=fun he=>h1 ⟨by omega,by omega⟩;have g2:b * 32 + a≠x * 32 + y:=fun he=>h2 ⟨by omega,by omega⟩;refine ⟨?_,?_⟩
  ·rw [bq (by omega),bq (by omega),bq g2,bq g1];exact h.1
  ·rw [bq (by omega),bq (by omega),bq (by omega),bq (by omega)];exact h.2
abbrev EB (ae:List ByteArray) (tc:List DV) (rows:List Nat) (js:List Int) (e:Nat):St:=
 ⟨[(1,⟨[],.loc 1 0⟩),(3,⟨[],.loc 2 0⟩),(4,⟨[],.loc 3 0⟩),(15,⟨[],.v (.int .i64 (cD ae).length)⟩),(16,⟨[],.v (.int .i64 e)⟩)],
  [dW ae tc rows js,[.loc 0 0],[.fn 166 [] [.loc 1 0]],[.fn 167 [] [.loc 1 0]]],[]⟩
abbrev yx (ae:List ByteArray) (tc:List DV) (rows:List Nat) (js:List Int) (e f:Nat):St:=
 ⟨[(1,⟨[],.loc 1 0⟩),(3,⟨[],.loc 2 0⟩),(4,⟨[],.loc 3 0⟩),(15,⟨[],.v (.int .i64 (cD ae).length)⟩),(16,⟨[],.v (.int .i64 e)⟩),(5,⟨[],.loc 4 0⟩),(6,⟨[],.loc 5 0⟩)],
  [dW ae tc rows js,[.loc 0 0],[.fn 166 [] [.loc 1 0]],[.fn 167 [] [.loc 1 0]],[.v (.int .i64 e)],[.v (.int .i64 f)]],[]⟩
abbrev EC (ae:List ByteArray) (tc:List DV) (rows:List Nat) (js:List Int) (e f:Nat):St:=
 ⟨[(1,⟨[],.loc 1 0⟩),(3,⟨[],.loc 2 0⟩),(4,⟨[],.loc 3 0⟩),(15,⟨[],.v (.int .i64 (cD ae).length)⟩),(16,⟨[],.v (.int .i64 e)⟩),(5,⟨[],.loc 4 0⟩),(6,⟨[],.loc 6 0⟩)],
  [dW ae tc rows js,[.loc 0 0],[.fn 166 [] [.loc 1 0]],[.fn 167 [] [.loc 1 0]],[.v (.int .i64 e)],[.v (.int .i64 f)],[.v (.int .i64 (f + 1:Nat))]],[]⟩
abbrev ED (ae:List ByteArray) (tc:List DV) (rows:List Nat) (js:List Int) (e f:Nat):St:=
 ⟨[(1,⟨[],.loc 1 0⟩),(3,⟨[],.loc 2 0⟩),(4,⟨[],.loc 3 0⟩),(15,⟨[],.v (.int .i64 (cD ae).length)⟩),(16,⟨[],.v (.int .i64 e)⟩),(5,⟨[],.loc 4 0⟩),(6,⟨[],.loc 5 0⟩)],
  [dW ae tc rows js,[.loc 0 0],[.fn 166 [] [.loc 1 0]],[.fn 167 [] [.loc 1 0]],[.v (.int .i64 e)],[.v (.int .i64 (f + 1:Nat))],[.v (.int .i64 f)]],[]⟩
theorem HF (ae:List ByteArray) (tc:List DV) (rows:List Nat) (js:List Int) (e f:Nat):EC ae tc rows js e f=di 5 6 (ED ae tc rows js e f):=by
 simp only [di,renO,HE];rfl
def Si (ae:List ByteArray) (tc:List DV) (rows:List Nat) (r:DV) (os:List (List DV)) (_:List TkE):Prop:=
 ∃ Lb,os=[dW ae tc rows Lb]/\Lb.length=2048/\r = .v (.int .i64 (oz (bH (lZ (aD rows) ae.length) ae.length))) /\
  (bH (lZ (aD rows) ae.length) ae.length=none->∀ x y,x < ae.length->y < ae.length->JM (aD rows) ae.length Lb x y)
theorem vQ (ae:List ByteArray) (tc:List DV) (rows:List Nat) (js:List Int) (hr:cA rows) (hlen:rows.length=ae.length) (hn:ae.length<=32) (hj:js.length=2048) :
  Ev Tryz.prog 101 [.loc 0 0] [dW ae tc rows js] [] (Si ae tc rows):=by
 have hN:=bl ae;refine ev_go (P:=Tryz.prog) tt tt_ok 5000 73 [.tmp 2] Tryz.func101 rfl Tryz.ntmps101 rfl (nL rfl) (fun E9 w9 hn9 hm9=>?_);refine aw (fun j st=>∃ (e:Nat) (js:List Int),st=EB ae tc rows js e/\e<=ae.length/\js.length=2048/\(∀ b,b < e->lZ (aD rows) ae.length b=false)/\(∀ x y,x < e->y < e->JM (aD rows) ae.length js x y)/\j=ae.length - e) ae.length (EB ae tc rows js 0) (aH 4 rfl (by repeat' (first | exact rfl | exact ai rfl | exact dO _ | refine ⟨_,_,rfl,?_,?_⟩)) rfl rfl rfl (by repeat' (first | exact trivial | exact ai rfl | exact dO _ | refine ⟨⟨_,rfl,?_⟩,?_⟩))) ⟨0,js,rfl,by omega,hj,fun _ h=>by omega,fun _ _ h=>by omega,by omega⟩ ?_;rintro j st ⟨e,js,rfl,he,hj,mq,CQ,rfl⟩;refine br (fun hL=>?_) (fun hL=>?_)
 ·have aq:e < ae.length:=by have:=hL;simp [hN] at this;exact this
  refine K7 (fun j st=>∃ (f:Nat) (js:List Int),st=yx ae tc rows js e f/\f<=e + 1/\js.length=2048/\(∀ a,a < f->jz (aD rows) ae.length a e=false)/\(∀ x y,x < e->y < e->JM (aD rows) ae.length js x y)/\(∀ x,x < f->JM (aD rows) ae.length js x e/\JM (aD rows) ae.length js e x)/\j=e + 1 - f) (e + 1) (yx ae tc rows js e 0) (.K4 (aH 6 rfl (by repeat' (first | exact rfl | exact ai rfl | exact dO _ | refine ⟨_,_,rfl,?_,?_⟩)) rfl rfl rfl (by repeat' (first | exact trivial | exact ai rfl | exact dO _ | refine ⟨⟨_,rfl,?_⟩,?_⟩)))) ⟨0,js,rfl,by omega,hj,fun _ h=>by omega,CQ,fun _ h=>by omega,by omega⟩ ?_;clear CQ hj;rintro j st ⟨f,js,rfl,hf,hj,L4,CQ,Qw,rfl⟩;refine br (fun EE=>?_) (fun EE=>?_)
  ·have GV:f<=e:=by have:=EE;simp at this;exact this
   have fD:=r9 ae (.pt tc 0) (iZ rows) js 169 166 NJ DE
    [.pt [Ju (dW ae tc rows js)] 0,.pt [.v (.int .i64 f)] 0,.pt [.v (.int .i64 e)] 0] [.pt [.pt (dW ae tc rows js) 0] 0] (fun c=>aD rows f c && aD rows e c) (aD rows) ax ax rfl rfl (by omega)
    (fun c hc=>BO ae (.pt tc 0) rows js hr f e c (by omega) (by omega) (by omega)) (fun a b ha hb=>mT ae (.pt tc 0) rows js hr a b (by omega) (by omega))
   have eF:=r9 ae (.pt tc 0) (iZ rows) js 170 167 NK DF
    [.pt [Jv (dW ae tc rows js)] 0,.pt [.v (.int .i64 f)] 0,.pt [.v (.int .i64 e)] 0] [.pt [.pt (dW ae tc rows js) 0] 0] (fun c=>aD rows c f && aD rows c e) (fun x y=>aD rows y x) ax ax rfl rfl (by omega)
    (fun c hc=>BP ae (.pt tc 0) rows js hr f e c (by omega) (by omega) (by omega)) (fun a b ha hb=>mU ae (.pt tc 0) rows js hr a b (by omega) (by omega))
   refine tg I2 fD (by repeat' (first | exact rfl | exact trivial | exact Or.inr (Or.inl ⟨_,rfl⟩) | exact Or.inr ⟨_,rfl⟩ | exact Or.inl ⟨rfl,rfl⟩ | exact Or.inl rfl | refine Or.inr ⟨_,_,rfl,Nat.zero_le _,rfl,?_⟩ | refine ⟨_,_,rfl,?_,?_⟩ | refine ⟨_,rfl,?_⟩ | exact mV _ _ _ _ _ | refine Or.inr (Or.inr (Or.inr ⟨_,_,rfl,?_⟩)) | exact Or.inl rfl | refine Or.inr ?_)) rfl ?_;refine tg I2 eF (by repeat' (first | exact rfl | exact trivial | exact Or.inr (Or.inl ⟨_,rfl⟩) | exact Or.inr ⟨_,rfl⟩ | exact Or.inl ⟨rfl,rfl⟩ | exact Or.inl rfl | refine Or.inr ⟨_,_,rfl,Nat.zero_le _,rfl,?_⟩ | refine ⟨_,_,rfl,?_,?_⟩ | refine ⟨_,rfl,?_⟩ | exact mV _ _ _ _ _ | refine Or.inr (Or.inr (Or.inr ⟨_,_,rfl,?_⟩)) | exact Or.inl rfl | refine Or.inr ?_)) rfl ?_
   have Gz:pickB (decide (oz (dP (aD rows) ae.length f e) = -1)) true (decide (oz (fb (aD rows) ae.length f e) = -1))=jz (aD rows) ae.length f e:=by
    unfold jz
    cases dP (aD rows) ae.length f e with
    | none=>rfl
    | some j=>
     have:decide (oz (some j) = -1)=false:=by simp [oz]
     rw [this]
     cases fb (aD rows) ae.length f e with
     | none=>rfl
     | some m=>
      have:decide (oz (some m) = -1)=false:=by simp [oz]
      rw [this];rfl
   refine br (fun g=>?_) (fun g=>?_)
   ·have g:jz (aD rows) ae.length f e=true:=Gz.symm.trans g
    have hb:lZ (aD rows) ae.length e=true:=by
     unfold lZ;rw [List.any_eq_true];exact ⟨f,by simp;omega,g⟩
    have xE:=eK (p:=lZ (aD rows) ae.length) aq hb mq;refine ⟨.v (.int .i64 e),[dW ae tc rows js],ax,(by repeat' (first | exact rfl | exact trivial | exact Or.inr (Or.inl ⟨_,rfl⟩) | exact Or.inr ⟨_,rfl⟩ | exact Or.inl ⟨rfl,rfl⟩ | exact Or.inl rfl | refine Or.inr ⟨_,_,rfl,Nat.zero_le _,rfl,?_⟩ | refine ⟨_,_,rfl,?_,?_⟩ | refine ⟨_,rfl,?_⟩ | exact mV _ _ _ _ _ | refine Or.inr (Or.inr (Or.inr ⟨_,_,rfl,?_⟩)) | exact Or.inl rfl | refine Or.inr ?_)),js,rfl,hj,?_,fun h=>by rw [xE] at h;cases h⟩;rw [xE];rfl
   ·have g:jz (aD rows) ae.length f e=false:=Gz.symm.trans g;refine oq [0] (fun _=>false) mo (by decide +kernel) ?_;have iS:=HC ae tc rows js;refine ⟨⟨by omega,by omega⟩,?_⟩;refine ⟨⟨by omega,by omega⟩,?_⟩;refine ⟨by rw [iS];omega,?_⟩;refine ⟨⟨by omega,by omega⟩,?_⟩;refine ⟨⟨by omega,by omega⟩,?_⟩;refine ⟨by rw [List.length_set,iS];omega,?_⟩;refine oq [0] (fun _=>false) mo (by decide +kernel) ?_;refine ⟨⟨by omega,by omega⟩,?_⟩;refine ⟨⟨by omega,by omega⟩,?_⟩;refine ⟨by rw [List.length_set,List.length_set,iS];omega,?_⟩;refine ⟨⟨by omega,by omega⟩,?_⟩;refine ⟨⟨by omega,by omega⟩,?_⟩;refine ⟨by rw [List.length_set,List.length_set,List.length_set,iS];omega,?_⟩
    have eG:((((dW ae tc rows js).set (0 + 0 + 3 + (f:Int).toNat * 32 + (e:Int).toNat * 1) (DV.v (.int .i64 (oz (dP (aD rows) ae.length f e))))).set (0 + 0 + 3 + (e:Int).toNat * 32 + (f:Int).toNat * 1) (DV.v (.int .i64 (oz (dP (aD rows) ae.length f e))))).set (0 + 0 + 1027 + (f:Int).toNat * 32 + (e:Int).toNat * 1) (DV.v (.int .i64 (oz (fb (aD rows) ae.length f e))))).set (0 + 0 + 1027 + (e:Int).toNat * 32 + (f:Int).toNat * 1) (DV.v (.int .i64 (oz (fb (aD rows) ae.length f e))))=dW ae tc rows (qZ js f e (oz (dP (aD rows) ae.length f e)) (oz (fb (aD rows) ae.length f e))):=by
     rw [ov (i:=f * 32 + e) (by omega),ov (i:=e * 32 + f) (by omega),ov (i:=1024 + (f * 32 + e)) (by omega),ov (i:=1024 + (e * 32 + f)) (by omega)];rfl
    refine ⟨yx ae tc rows (qZ js f e (oz (dP (aD rows) ae.length f e)) (oz (fb (aD rows) ae.length f e))) e (f + 1),
     .trans (.K4 (s2:=EC ae tc rows (qZ js f e (oz (dP (aD rows) ae.length f e)) (oz (fb (aD rows) ae.length f e))) e f) (aH 7 rfl (by repeat' (first | exact rfl | exact ai rfl | exact Ap eG | exact aj (ej (n:=e + 1) (by omega) (by omega)) | refine ⟨_,_,rfl,?_,?_⟩)) rfl rfl rfl (by repeat' (first | exact trivial | exact ai rfl | exact Ap eG | exact aj (ej (n:=e + 1) (by omega) (by omega)) | refine ⟨⟨_,rfl,?_⟩,?_⟩))))
      (.trans (.x0 5 6 (ED ae tc rows (qZ js f e (oz (dP (aD rows) ae.length f e)) (oz (fb (aD rows) ae.length f e))) e f) _ (HF _ _ _ _ _ _) rfl rfl rfl rfl) (.K4 (aH 6 rfl (by repeat' (first | exact rfl | exact ai rfl | exact dO _ | refine ⟨_,_,rfl,?_,?_⟩)) rfl rfl rfl (by repeat' (first | exact trivial | exact ai rfl | exact dO _ | refine ⟨⟨_,rfl,?_⟩,?_⟩))))),
     e + 1 - (f + 1),by omega,f + 1,_,rfl,by omega,by rw [EA];exact hj,fun a ha=>?_,fun x y hx hy=>?_,fun x hx=>?_,rfl⟩
    ·rcases Nat.lt_succ_iff_lt_or_eq.1 ha with ha | rfl
     ·exact L4 a ha
     ·exact g
    ·exact l3 hj (by omega) (by omega) (by omega) (by omega) (.inl (CQ x y hx hy))
    ·rcases Nat.lt_succ_iff_lt_or_eq.1 hx with hx | rfl
     ·exact ⟨l3 hj (by omega) (by omega) (by omega) (by omega) (.inl (Qw x hx).1),l3 hj (by omega) (by omega) (by omega) (by omega) (.inl (Qw x hx).2)⟩
     ·exact ⟨l3 hj (by omega) (by omega) (by omega) (by omega) (.inr (.inl ⟨rfl,rfl⟩)),l3 hj (by omega) (by omega) (by omega) (by omega) (.inr (.inr ⟨rfl,rfl⟩))⟩
  ·have GV:f=e + 1:=by have:=EE;simp at this;omega
   subst GV
   have hb:lZ (aD rows) ae.length e=false:=by
    unfold lZ;rw [List.any_eq_false];intro a ha;rw [L4 a (by simpa using ha)];decide
   refine ⟨EB ae tc rows js (e + 1),(aH 4 rfl (by repeat' (first | exact rfl | exact ai rfl | exact dO _ | exact aj (ej aq (by omega)) | refine ⟨_,_,rfl,?_,?_⟩)) rfl rfl rfl (by repeat' (first | exact trivial | exact ai rfl | exact dO _ | exact aj (ej aq (by omega)) | refine ⟨⟨_,rfl,?_⟩,?_⟩))),ae.length - (e + 1),by omega,e + 1,js,rfl,by omega,hj,fun b cJ=>?_,fun x y hx hy=>?_,rfl⟩
   ·rcases Nat.lt_succ_iff_lt_or_eq.1 cJ with h | rfl
    ·exact mq b h
    ·exact hb
   ·rcases Nat.lt_succ_iff_lt_or_eq.1 hx with hx | rfl
    ·rcases Nat.lt_succ_iff_lt_or_eq.1 hy with hy | rfl
     ·exact CQ x y hx hy
     ·exact (Qw x (by omega)).1
    ·exact (Qw y (by omega)).2
 ·have bJ:e=ae.length:=by have:=hL;simp [hN] at this;omega
  subst bJ;refine ⟨.v (.int .i64 (-1)),[dW ae tc rows js],ax,(by repeat' (first | exact rfl | exact trivial | exact Or.inr (Or.inl ⟨_,rfl⟩) | exact Or.inr ⟨_,rfl⟩ | exact Or.inl ⟨rfl,rfl⟩ | exact Or.inl rfl | refine Or.inr ⟨_,_,rfl,Nat.zero_le _,rfl,?_⟩ | refine ⟨_,_,rfl,?_,?_⟩ | refine ⟨_,rfl,?_⟩ | exact mV _ _ _ _ _ | refine Or.inr (Or.inr (Or.inr ⟨_,_,rfl,?_⟩)) | exact Or.inl rfl | refine Or.inr ?_)),js,rfl,hj,?_,fun _=>CQ⟩;rw [gq mq];rfl
def Ml (l:List Wd) (k:Nat):Int:=((l[k]?).getD (⟨al,0⟩:Wd)).a
def latF (l:List Wd) (o:List (Wd × Wd)):Ft:=
 if (gT l o).1≠0 then gT l o
 else if (enumL l 0 l).1≠0 then enumL l 0 l
 else if (numF (au l) o).1≠0 then numF (au l) o
 else match bH (pT l.length (fQ l.length (dG (au l) o))) l.length with
  | some a=>(11,Ml l a)
  | none=>
   match bH (lZ (fQ l.length (dG (au l) o)) l.length) l.length with
   | some b=>(12,Ml l b)
   | none=>(0,0)
def Lc (l:List Wd) (o:List (Wd × Wd)) (d:DV):Prop:=
 ∃ ap js,dY (au l) ap/\ap.length<=l.length/\js.length=2048/\(∀ x y,x < l.length->y < l.length->JM (fQ l.length (dG (au l) o)) l.length js x y) /\
  d = .pt (dW (au l) (bK (au l) ap) (closeR (cR l.length (dG (au l) o)) l.length) js) 0
def yy (l:List Wd) (o:List (Wd × Wd)) (r:DV) (_:List (List DV)) (_:List TkE):Prop:=
 if (latF l o).1≠0 then r = .tup [.v (.pointer none),(latF l o).d] else ∃ d,Lc l o d/\r = .tup [d,(latF l o).d]
theorem ow {L:List ByteArray}:∀ {o:List (Wd × Wd)},(numF L o).1=0->BI L.length (dG L o)
 | [],_=>by intro p hp;simp [dG] at hp
 | q :: r,h=>by
  rw [numF] at h;split at h
  ·cases h
  ·rename_i h1;split at h
   ·cases h
   ·rename_i h2;have ih:=ow (o:=r) h;intro p hp;simp only [dG,List.map_cons,List.mem_cons] at hp;rcases hp with rfl | hp
    ·obtain ⟨a,ha⟩:=Option.ne_none_iff_exists'.1 h1;obtain ⟨b,hb⟩:=Option.ne_none_iff_exists'.1 h2;simp only [K3,ha,hb,Option.getD_some];exact ⟨(eu ha).1,(eu hb).1⟩
    ·exact ih p hp
theorem dn (l:List Wd):(au l).length=l.length:=by simp [au]
theorem pX {all:List Wd}:∀ {l:List Wd} {i:Nat},(enumL all i l).1=0->enumL all i l=(0,0)
 | [],_,_=>rfl
 | x :: r,i,h=>by
  rw [enumL] at h ⊢;split at h
  ·rename_i h1;exact (h1 h).elim
  ·rename_i h1;rw [if_neg h1];exact pX h
theorem sa {L:List ByteArray}:∀ {o:List (Wd × Wd)},(numF L o).1=0->numF L o=(0,0)
 | [],_=>rfl
 | q :: r,h=>by
  rw [numF] at h ⊢;split at h
  ·cases h
  ·rename_i h1;split at h
   ·cases h
   ·rename_i h2;rw [if_neg h1,if_neg h2];exact sa h
theorem ox {l:List Wd} {k:Nat} {w:Wd} (h:l[k]? = some w):Ml l k=w.a:=by simp [Ml,h]
theorem Ld (n:Nat):vL (List.replicate n (.int .i64 0))=cZ (List.replicate n 0):=by
 induction n with
 | zero=>rfl
 | succ n ih=>simp only [List.replicate_succ,vL,cZ,List.map_cons] at ih ⊢;rw [ih]
theorem jA {l:List Wd} {o:List (Wd × Wd)} {f:Ft} {os:List (List DV)} {tk:List TkE} (h:latF l o=f) (hf:f.1≠0):yy l o (.tup [.v (.pointer none),f.d]) os tk:=by
 unfold yy;rw [h,if_pos hf]
theorem HG {l:List Wd} {o:List (Wd × Wd)} {d:DV} {os:List (List DV)} {tk:List TkE} (h:latF l o=(0,0)) (hd:Lc l o d):yy l o (.tup [d,Ft.d (0,0)]) os tk:=by
 unfold yy;rw [h,if_neg (by simp)];exact ⟨d,hd,rfl⟩
theorem HH (n m:Nat) (ae:List ByteArray) (tc:List DV) (rows:List Nat) (js:List Int):clB.clL n m (dW ae tc rows js)=true:=by
 have h:∀ l:List Int,clB.clL n m (cZ l)=true:=by
  intro l
  induction l with
  | nil=>rfl
  | cons z r ih=>simp only [cZ,List.map_cons,clB.clL,clB,Bool.true_and] at ih ⊢;exact ih
 simp only [ou,clB.clL,clB,h,iZ,Bool.and_self]
theorem vR (l:List Wd) (o:List (Wd × Wd)) (hs:wdsWt l<=1099511627776) (Gn:prsWt o<=1099511627776) :
  Ev Tryz.prog 43 [.sl 2 (bY l) none,.sl 4 (pI o) none] [] [] (yy l o):=by
 have oN:=cw l;have Qe:=mP o;have iX:=dn l;have hF:=latF.eq_1 l o;refine ev_go (P:=Tryz.prog) tt tt_ok 5000 86 [.tmp 4,.cell 5 54] Tryz.func43 rfl Tryz.ntmps43 rfl (nL rfl) (fun E9 w9 hn9 hm9=>?_);refine call_p RK (BL l o) ax rfl ?_;by_cases hm:(gT l o).1≠0
 ·rw [if_pos hm] at hF;refine br (fun h=>?_) (fun h=>?_)
  ·refine aZ mo (by decide +kernel) ?_;exact ⟨_,ax,jA (os:=[]) (tk:=[]) hF hm⟩
  ·exfalso;simp at h;exact hm h
 rw [if_neg hm] at hF;refine br (fun h=>?_) (fun _=>?_)
 ·exfalso;simp at h;exact hm h
 have x3:l ≠ []:=by
  rintro rfl;simp [gT] at hm
 have hl32:l.length<=32:=by
  rcases Nat.lt_or_ge 32 l.length with h | h
  ·simp [gT,x3,h] at hm
  ·exact h
 have nX:=vM l hs;unfold OT at nX;by_cases hE:(enumL l 0 l).1≠0
 ·rw [if_neg hE] at nX;rw [if_pos hE] at hF;refine call_p Ns (nX) ax rfl ?_;refine br (fun h=>?_) (fun h=>?_)
  ·refine aZ mo (by decide +kernel) ?_;exact ⟨_,ax,jA (os:=[]) (tk:=[]) hF hE⟩
  ·exfalso;simp at h;exact hE h
 rw [if_neg hE] at hF;have hE:(enumL l 0 l).1=0:=by simpa using hE
 rw [if_pos hE] at nX;rw [pX hE] at nX;refine call_p Ns (nX) ax rfl ?_;refine bP KI rfl (pu (au l) (by omega)) ax (fun r hr=>?_);obtain ⟨ap,hT,gJ,rfl⟩:=hr;have yz:=qY (au l) ap hT (by omega) o Gn;unfold OU at yz;by_cases hN:(numF (au l) o).1≠0
 ·rw [if_neg hN] at yz;rw [if_pos hN] at hF;refine call_p Nt (yz) ax rfl ?_;refine br (fun h=>?_) (fun h=>?_)
  ·refine aZ mo (by decide +kernel) ?_;exact ⟨_,ax,jA (os:=[]) (tk:=[]) hF hN⟩
  ·exfalso;simp at h;exact hN h
 rw [if_neg hN] at hF;have hN:(numF (au l) o).1=0:=by simpa using hN
 rw [if_pos hN] at yz;rw [sa hN] at yz;have hP:=ow hN;rw [iX] at hP;have hPl:(dG (au l) o).length=o.length:=by simp [dG]
 generalize Uv:dG (au l) o=P at yz hF hP hPl;refine call_p Nt (yz) ax rfl ?_;have hLn:(cD (au l)).length=l.length:=by rw [bl,iX]
 have hPb:P.length<=1099511627776:=by omega
 have Sj:=tB (n:=l.length) (by omega) P hP;have eV:=fO l.length P;have hr0:cR l.length P ≠ []:=fun h=>x3 (List.eq_nil_of_length_eq_zero (by rw [<- eV,h];rfl));refine call_p RL (BC l.length (by omega) P hP hPb) (by repeat' (first | exact rfl | exact trivial | exact Or.inr (Or.inl ⟨_,rfl⟩) | exact Or.inr ⟨_,rfl⟩ | exact Or.inl ⟨rfl,rfl⟩ | exact Or.inl rfl | refine Or.inr ⟨_,_,rfl,Nat.zero_le _,rfl,?_⟩ | refine ⟨_,_,rfl,?_,?_⟩ | refine ⟨_,rfl,?_⟩ | exact congrArg (fun z=>DV.v (.int .i64 z)) (congrArg Nat.cast hLn)| refine Or.inr (Or.inr (Or.inr ⟨_,_,rfl,?_⟩)) | exact Or.inl rfl | refine Or.inr ?_)) rfl ?_;have hlo:=yr _ Sj hr0;rw [eV,Hy (by omega) hP] at hlo
 cases hA:bH (pT l.length (fQ l.length P)) l.length with
 | some a=>
  rw [hA] at hlo hF;simp only at hF;have MI:=(eL hA).1;obtain ⟨w,hw⟩:∃ w,l[a]? = some w:=⟨_,gE MI⟩;rw [ox hw] at hF;refine call_p Nu (hlo) ax rfl ?_;refine aZ mo (by decide +kernel) ?_;refine ⟨uC w,⟨by omega,cx hw⟩,?_⟩;exact ⟨_,ax,jA (os:=[]) (tk:=[]) hF (by simp)⟩
 | none=>
 rw [hA] at hlo hF;simp only at hF;refine call_p Nu (hlo) ax rfl ?_;have ia:=nE _ Sj hr0;rw [eV] at ia;have Sk:=gQ Sj l.length (by omega);have O4:=cX (cR l.length P) l.length;rw [eV] at O4;refine call_p IL (ia) ax rfl ?_;have Sm:(List.replicate 2048 (0:Int)).length=2048:=List.length_replicate
 have bE:CcL [] 0 0 0 (dW (au l) (bK (au l) ap) (closeR (cR l.length P) l.length) (List.replicate 2048 0)) (.sl 1 (cD (au l)) none :: .pt (bK (au l) ap) 0 :: iZ (closeR (cR l.length P) l.length) :: vL (List.replicate 2048 (.int .i64 0))):=by
  refine ⟨_,_,rfl,Or.inr (Or.inl ⟨_,rfl⟩),_,_,rfl,Or.inl rfl,_,_,rfl,Or.inl rfl,?_⟩;rw [Ld];exact mV _ _ _ _ _
 have hbn:=vQ (au l) (bK (au l) ap) _ (List.replicate 2048 0) Sk (by omega) (by omega) Sm;refine iw Nv rfl rfl bE ax hbn (fun r os tk h=>?_) (fun r mM h=>?_)
 ·obtain ⟨Lb,rfl,_,rfl,_⟩:=h;refine ⟨rfl,fun mM h=>?_⟩;rw [List.mem_singleton.1 h];exact HH _ _ _ _ _ _
 obtain ⟨Lb,h1,hj2,hr,CQ⟩:=h;simp only [List.cons.injEq,and_true] at h1;subst h1
 have hB:bH (lZ (aD (closeR (cR l.length P) l.length)) (au l).length) (au l).length=bH (lZ (fQ l.length P) l.length) l.length:=by
  rw [iX];rfl
 rw [hB] at hr CQ
 cases hb:bH (lZ (fQ l.length P) l.length) l.length with
 | some b=>
  rw [hb] at hr hF;subst hr;simp only at hF;have hbl:=(eL hb).1;obtain ⟨w,hw⟩:∃ w,l[b]? = some w:=⟨_,gE hbl⟩;rw [ox hw] at hF;refine aZ mo (by decide +kernel) ?_;refine ⟨uC w,⟨by simp only [oz];omega,cx hw⟩,?_⟩;exact ⟨_,ax,jA (os:=[]) (tk:=[]) hF (by simp)⟩
 | none=>
  rw [hb] at hr hF;subst hr;simp only at hF;refine ⟨.tup [.pt (dW (au l) (bK (au l) ap) (closeR (cR l.length P) l.length) Lb) 0,Ft.d (0,0)],(by repeat' (first | exact rfl | exact trivial | exact Or.inr (Or.inl ⟨_,rfl⟩) | exact Or.inr ⟨_,rfl⟩ | exact Or.inl ⟨rfl,rfl⟩ | exact Or.inl rfl | refine Or.inr ⟨_,_,rfl,Nat.zero_le _,rfl,?_⟩ | refine ⟨_,_,rfl,?_,?_⟩ | refine ⟨_,rfl,?_⟩ | exact mV _ _ _ _ _ | refine Or.inr (Or.inr (Or.inr ⟨_,_,rfl,?_⟩)) | exact Or.inl rfl | refine Or.inr ?_)),HG (os:=[]) (tk:=[]) hF ⟨ap,Lb,hT,by omega,hj2,?_,by rw [Uv]⟩⟩;rw [Uv];rw [iX] at CQ;exact CQ hb
section
variable (ae:List ByteArray) (tc:List DV) (rows:List Nat) (js:List Int)
theorem mW:EvP Tryz.prog 195 [.pt (dW ae tc rows js) 0] (.v (.int .i64 ae.length)):=by
 refine ev_go (P:=Tryz.prog) tt tt_ok 5000 10 [.tmp 2] Tryz.func195 rfl Tryz.ntmps195 rfl (nL rfl) (fun E9 w9 hn9 hm9=>?_);refine (congrArg (fun z=>DV.v (.int .i64 z)) ?_:_=_);rw [bl]
theorem sc (i:Int):EvP Tryz.prog 155 [.pt (dW ae tc rows js) 0,.v (.int .i64 i)] (.v (.bool (decide (0<=i) && decide (i < ae.length)))):=by
 refine ev_go (P:=Tryz.prog) tt tt_ok 5000 13 [.tmp 4] Tryz.func155 rfl Tryz.ntmps155 rfl (nL rfl) (fun E9 w9 hn9 hm9=>?_);refine br (fun g=>?_) (fun g=>?_)
 ·have g:decide (0<=i)=true:=by simpa using g
  refine call_p zW (mW ae tc rows js) ax rfl ?_;refine (congrArg (fun b=>DV.v (.bool b)) ?_:_=_);simp [g,pickB]
 ·have g:decide (0<=i)=false:=by simpa using g
  refine (congrArg (fun b=>DV.v (.bool b)) ?_:_=_);simp [g,pickB]
theorem l4 {a:Nat} (h:a < ae.length):EvP Tryz.prog 155 [.pt (dW ae tc rows js) 0,.v (.int .i64 a)] (.v (.bool true)):=by
 have:=sc ae tc rows js a;have e:(decide (0<=(a:Int)) && decide ((a:Int) < ae.length))=true:=by simp [h]
 rw [e] at this;exact this
end
theorem yA (ae:List ByteArray) (ap rows:List Nat) (js:List Int) (s:ByteArray) (hT:dY ae ap) (hl:ap.length<=1099511627776) :
  EvP Tryz.prog 41 [.pt (dW ae (bK ae ap) rows js) 0,.v (.string s)] (Ep (dw ae s)):=by
 have h:=ey ae ap s hT hl;refine ev_go (P:=Tryz.prog) tt tt_ok 5000 16 [.tmp 4,.tmp 5] Tryz.func41 rfl Tryz.ntmps41 rfl (nL rfl) (fun E9 w9 hn9 hm9=>?_)
 cases hx:dw ae s with
 | none=>
  rw [hx] at h;refine call_p pg (h) ax rfl ?_;exact ⟨_,ax,rfl⟩
 | some k=>
  rw [hx] at h;refine call_p pg (h) ax rfl ?_;exact ⟨_,ax,rfl⟩
theorem vS {l:List DV} {k b:Nat} {x:DV} (hb:b < 32) (h:l[k + b]? = some x):(((l.drop k).take 32).drop b).take 1=[x]:=by
 have h1:((l.drop k).take 32)[b]? = some x:=by
  rw [List.getElem?_take,if_pos hb,List.getElem?_drop];exact h
 rw [List.drop_eq_getElem_cons (gS h1).1];rw [gE (gS h1).1] at h1;simp only [oI] at h1;rw [h1];rfl
section
variable (ae:List ByteArray) (tc:List DV) (rows:List Nat) (js:List Int)
theorem pY (a b:Nat) (z:Int) (ha:a < ae.length) (hb:b < ae.length) (hn:ae.length<=32) (hz:js[a * 32 + b]? = some z) :
  EvP Tryz.prog 173 [.pt (dW ae tc rows js) 0,.v (.int .i64 a),.v (.int .i64 b)] (.v (.int .i64 z)):=by
 refine ev_go (P:=Tryz.prog) tt tt_ok 5000 25 [.tmp 6] Tryz.func173 rfl Tryz.ntmps173 rfl (nL rfl) (fun E9 w9 hn9 hm9=>?_);refine call_p rH (l4 ae tc rows js ha) ax rfl ?_;refine call_p rH (l4 ae tc rows js hb) ax rfl ?_;refine ⟨_,⟨⟨by omega,by omega⟩,rfl⟩,?_⟩;refine ⟨_,⟨⟨by omega,by omega⟩,vS (x:=.v (.int .i64 z)) (by omega) ?_⟩,?_⟩
 ·rw [show 0 + 3 + (a:Int).toNat * 32 + (0 + (b:Int).toNat * 1)=(a * 32 + b) + 3 by omega];simp only [ou,List.getElem?_cons_succ,cZ,List.getElem?_map,hz,Option.map_some]
 exact (rfl:_=_)
theorem yB (a b:Nat) (z:Int) (ha:a < ae.length) (hb:b < ae.length) (hn:ae.length<=32) (hz:js[1024 + (a * 32 + b)]? = some z) :
  EvP Tryz.prog 201 [.pt (dW ae tc rows js) 0,.v (.int .i64 a),.v (.int .i64 b)] (.v (.int .i64 z)):=by
 refine ev_go (P:=Tryz.prog) tt tt_ok 5000 25 [.tmp 6] Tryz.func201 rfl Tryz.ntmps201 rfl (nL rfl) (fun E9 w9 hn9 hm9=>?_);refine call_p rH (l4 ae tc rows js ha) ax rfl ?_;refine call_p rH (l4 ae tc rows js hb) ax rfl ?_;refine ⟨_,⟨⟨by omega,by omega⟩,rfl⟩,?_⟩;refine ⟨_,⟨⟨by omega,by omega⟩,vS (x:=.v (.int .i64 z)) (by omega) ?_⟩,?_⟩
 ·rw [show 0 + 1027 + (a:Int).toNat * 32 + (0 + (b:Int).toNat * 1)=(1024 + (a * 32 + b)) + 3 by omega];simp only [ou,List.getElem?_cons_succ,cZ,List.getElem?_map,hz,Option.map_some]
 exact (rfl:_=_)
end
theorem se {e9:Nat->Bool} {pb:Nat->Nat->Bool}:∀ {e k:Nat},bestA e9 pb e=some k->e9 k=true
 | 0,k,h=>by cases h
 | e + 1,k,h=>by
  rw [bestA] at h;split at h
  ·rename_i h1;simp only [oI] at h;subst h;simp only [Bool.and_eq_true] at h1;exact h1.1
  ·exact se h
theorem pZ {e9:Nat->Bool} {pb:Nat->Nat->Bool} {n k:Nat} (h:ku e9 pb n=some k):k < n/\e9 k=true/\∀ c,c < n->e9 c=true->pb k c=true:=by
 unfold ku at h;split at h
 ·cases h
 ·rename_i o ho;split at h
  ·cases h
  ·rename_i h1;simp only [oI] at h;subst h;refine ⟨lX ho,se ho,fun c hc hp=>?_⟩;simp only [List.any_eq_true,List.mem_range,Bool.and_eq_true,Bool.not_eq_true',not_exists,not_and] at h1;have:=h1 c hc hp;simpa using this
structure dA (f:Nat->Nat->Bool) (n:Nat):Prop where
 pos:0 < n
 rfl':∀ a,a < n->f a a=true
 tr:∀ a b c,a < n->b < n->c < n->f a b=true->f b c=true->f a c=true
 O5:∀ a b,a < n->b < n->f a b=true->f b a=true->a=b
 jn:∀ a b,a < n->b < n->∃ k,dP f n a b=some k
 mt:∀ a b,a < n->b < n->∃ k,fb f n a b=some k
theorem p8 {f:Nat->Nat->Bool} {n a b k:Nat} (h:dP f n a b=some k):k < n/\f a k=true/\f b k=true/\∀ c,c < n->f a c=true->f b c=true->f k c=true:=by
 obtain ⟨h1,h2,h3⟩:=pZ h;simp only [Bool.and_eq_true] at h2;exact ⟨h1,h2.1,h2.2,fun c hc ha hb=>h3 c hc (by simp [ha,hb])⟩
theorem kQ {f:Nat->Nat->Bool} {n a b k:Nat} (h:fb f n a b=some k):k < n/\f k a=true/\f k b=true/\∀ c,c < n->f c a=true->f c b=true->f c k=true:=by
 obtain ⟨h1,h2,h3⟩:=pZ h;simp only [Bool.and_eq_true] at h2;exact ⟨h1,h2.1,h2.2,fun c hc ha hb=>h3 c hc (by simp [ha,hb])⟩
def l5 (f:Nat->Nat->Bool) (l:List Nat) (c:Nat):Bool:=l.all fun i=>f i c
def EF (f:Nat->Nat->Bool) (n:Nat) (l:List Nat) (c:Nat):Bool:=l5 f l c && (List.range n).all fun d=>!l5 f l d || f c d
def ez (f:Nat->Nat->Bool) (n:Nat) (l:List Nat):Option Nat:=bH (EF f n l) n
theorem jB {f:Nat->Nat->Bool} {n:Nat} {l:List Nat} {c:Nat}:EF f n l c=true↔l5 f l c=true/\∀ d,d < n->l5 f l d=true->f c d=true:=by
 unfold EF;simp only [Bool.and_eq_true,List.all_eq_true,List.mem_range,Bool.or_eq_true,Bool.not_eq_true'];constructor
 ·rintro ⟨h1,h2⟩;refine ⟨h1,fun d hd ho=>?_⟩;rcases h2 d hd with h | h
  ·rw [ho] at h;cases h
  ·exact h
 ·rintro ⟨h1,h2⟩;refine ⟨h1,fun d hd=>?_⟩;cases ho:l5 f l d
  ·exact .inl rfl
  ·exact .inr (h2 d hd ho)
theorem sf {f:Nat->Nat->Bool} {n:Nat} (hL:dA f n) {l:List Nat} {c:Nat} (hc:c < n) (h:EF f n l c=true):ez f n l=some c:=by
 refine eK hc h fun a ha=>?_;cases h2:EF f n l a
 ·rfl
 ·obtain ⟨h3,h4⟩:=jB.1 h;obtain ⟨h5,h6⟩:=jB.1 h2;have:=hL.O5 a c (by omega) hc (h6 c hc h3) (h4 a (by omega) h5);omega
theorem kR {f:Nat->Nat->Bool} {n c:Nat} (hL:dA f n) (hc:c < n) (h:∀ d,d < n->f c d=true):ez f n []=some c:=
 sf hL hc (jB.2 ⟨rfl,fun d hd _=>h d hd⟩)
theorem nF {f:Nat->Nat->Bool} {n c k i:Nat} {l:List Nat} (hL:dA f n) (hl:∀ x∈l,x < n) (hi:i < n) (h:ez f n l=some c) (hk:dP f n c i=some k):ez f n (l ++ [i])=some k:=by
 obtain ⟨h1,h2,_⟩:=eL h;obtain ⟨h3,h4⟩:=jB.1 h2;obtain ⟨g1,g2,g3,g4⟩:=p8 hk;simp only [l5,List.all_eq_true] at h3;refine sf hL g1 (jB.2 ⟨?_,fun d hd ho=>?_⟩)
 ·simp only [l5,List.all_eq_true,List.mem_append,List.mem_singleton];rintro x (hx | rfl)
  ·exact hL.tr x c k (hl x hx) h1 g1 (h3 x hx) g2
  ·exact g3
 ·simp only [l5,List.all_eq_true,List.mem_append,List.mem_singleton] at ho;refine g4 d hd (h4 d hd ?_) (ho i (.inr rfl));simp only [l5,List.all_eq_true];exact fun x hx=>ho x (.inl hx)
theorem j1 {f:Nat->Nat->Bool} {n c:Nat} {l:List Nat} (h:ez f n l=some c):c < n:=(eL h).1
abbrev EG (L:List DV) (n b e:Nat):St:=
 ⟨[(0,⟨[],.pt L 0⟩),(3,⟨[],.v (.int .i64 b)⟩),(9,⟨[],.v (.int .i64 n)⟩),(10,⟨[],.v (.int .i64 e)⟩)],[],[]⟩
theorem l6 (ae:List ByteArray) (tc:List DV) (rows:List Nat) (js:List Int) {f:Nat->Nat->Bool} (hL:dA f ae.length) (hn:ae.length<=32) (hj:∀ x y,x < ae.length->y < ae.length->JM f ae.length js x y) :
  EvP Tryz.prog 138 [.pt (dW ae tc rows js) 0] (.v (.int .i64 (oz (ez f ae.length [])))):=by
 have hlen:=mW ae tc rows js;have ke:=hL.pos;refine ev_go (P:=Tryz.prog) tt tt_ok 5000 19 [.tmp 2] Tryz.func138 rfl Tryz.ntmps138 rfl (nL rfl) (fun E9 w9 hn9 hm9=>?_);refine call_p zW (hlen) ax rfl ?_;refine br (fun g=>?_) (fun g=>?_)
 ·exfalso;simp at g;simp [g] at ke
 refine call_p zW (hlen) ax rfl ?_;refine aw (fun j st=>∃ e b:Nat,st=EG (dW ae tc rows js) ae.length b e/\e<=ae.length/\b < ae.length/\(∀ x,x < e->f b x=true)/\j=ae.length - e) ae.length (EG (dW ae tc rows js) ae.length 0 0) (weak_mk ⟨_,rfl⟩ wA rfl rfl rfl wB) ⟨0,0,rfl,by omega,by omega,fun _ h=>by omega,by omega⟩ ?_;rintro j st ⟨e,b,rfl,he,hb,iO,rfl⟩;refine br (fun Qx=>?_) (fun Qx=>?_)
 ·have aq:e < ae.length:=by have:=Qx;simp at this;exact this
  obtain ⟨k,hk⟩:=hL.mt b e hb aq;obtain ⟨g1,g2,g3,g4⟩:=kQ hk;have hz:=(hj b e hb aq).2;rw [hk] at hz;refine call_p NU (yB ae tc rows js b e k hb aq hn hz) ax rfl ?_;refine ⟨EG (dW ae tc rows js) ae.length k (e + 1),(weak_mk ⟨_,rfl⟩ wA rfl rfl rfl (wNB aq)),ae.length - (e + 1),by omega,e + 1,k,rfl,by omega,g1,fun x hx=>?_,rfl⟩;rcases Nat.lt_succ_iff_lt_or_eq.1 hx with hx | rfl
  ·exact hL.tr k b x g1 hb (by omega) g2 (iO x hx)
  ·exact g3
 ·have bJ:e=ae.length:=by have:=Qx;simp at this;omega
  subst bJ;rw [kR hL hb iO];exact (rfl:_=_)
def labW (L:List ByteArray):List Wd->Ft
 | []=>(0,0)
 | w :: r=>if dw L w.s=none then (17,w.a) else labW L r
def tH (L:List ByteArray) (l:List Wd):List Nat:=l.map fun w=>(dw L w.s).getD 0
def yC (f:Nat->Nat->Bool) (L:List ByteArray) (l:List Wd):Int:=if (labW L l).1=0 then oz (ez f L.length (tH L l)) else 0
def Le (f:Nat->Nat->Bool) (L:List ByteArray) (l:List Wd):DV:=.tup [.v (.int .i64 (yC f L l)),(labW L l).d]
theorem BR {L:List ByteArray} {l:List Wd} {e:Nat} {w:Wd} (h:l[e]? = some w):labW L (l.drop e)=if dw L w.s=none then (17,w.a) else labW L (l.drop (e + 1)):=by
 rw [drop_cons h,labW]
theorem sg {L:List ByteArray} {l:List Wd} {e i:Nat} {w:Wd} (h:l[e]? = some w) (hi:dw L w.s=some i):tH L (l.take (e + 1))=tH L (l.take e) ++ [i]:=by
 rw [List.take_add_one,h];simp [tH,hi]
abbrev EH (L:List DV) (l:List Wd) (b e:Nat):St:=
 ⟨[(0,⟨[],.pt L 0⟩),(5,⟨[],.loc 0 0⟩),(6,⟨[],.v (.int .i64 b)⟩),(16,⟨[],.sl 2 (bY l) none⟩),(17,⟨[],.v (.int .i64 (bY l).length)⟩),(18,⟨[],.v (.int .i64 e)⟩)],[[.v (.int .i64 0),.v (.int .i64 0)]],[]⟩
theorem EI (ae:List ByteArray) (ap rows:List Nat) (js:List Int) (hT:dY ae ap) (gJ:ap.length<=1099511627776) {f:Nat->Nat->Bool} (hL:dA f ae.length) (hn:ae.length<=32) (hj:∀ x y,x < ae.length->y < ae.length->JM f ae.length js x y)
  (l:List Wd) (hs:wdsWt l<=1099511627776) :
  EvP Tryz.prog 106 [.pt (dW ae (bK ae ap) rows js) 0,.sl 2 (bY l) none] (Le f ae l):=by
 have oN:=cw l;have EJ:=l6 ae (bK ae ap) rows js hL hn hj
 have jT:∃ b,ez f ae.length []=some b:=by
  have:∀ e,e<=ae.length->∃ b,b < ae.length/\∀ x,x < e->f b x=true:=by
   intro e
   induction e with
   | zero=>intro _;exact ⟨0,hL.pos,fun _ h=>by omega⟩
   | succ e ih=>
    intro he;obtain ⟨b,hb,iO⟩:=ih (by omega);obtain ⟨k,hk⟩:=hL.mt b e hb (by omega);obtain ⟨g1,g2,g3,_⟩:=kQ hk;refine ⟨k,g1,fun x hx=>?_⟩;rcases Nat.lt_succ_iff_lt_or_eq.1 hx with hx | rfl
    ·exact hL.tr k b x g1 hb (by omega) g2 (iO x hx)
    ·exact g3
  obtain ⟨b,hb,iO⟩:=this ae.length (Nat.le_refl _);exact ⟨b,kR hL hb iO⟩
 obtain ⟨b0,eG⟩:=jT;rw [eG] at EJ;refine ev_go (P:=Tryz.prog) tt tt_ok 5000 41 [.tmp 4,.cell 5 54] Tryz.func106 rfl Tryz.ntmps106 rfl (nL rfl) (fun E9 w9 hn9 hm9=>?_);refine call_p IY (EJ) ax rfl ?_;refine aw (fun j st=>∃ e b:Nat,st=EH (dW ae (bK ae ap) rows js) l b e/\e<=l.length/\labW ae l=labW ae (l.drop e)/\ez f ae.length (tH ae (l.take e))=some b/\(∀ x∈tH ae (l.take e),x < ae.length)/\j=l.length - e) l.length (EH (dW ae (bK ae ap) rows js) l b0 0) (weak_mk ⟨_,rfl⟩ wA rfl rfl rfl wB) ⟨0,b0,rfl,by omega,rfl,eG,by simp [tH],by omega⟩ ?_;rintro j st ⟨e,b,rfl,he,bd,Ho,Hf,rfl⟩;have hb:=j1 Ho;refine br (fun Lf=>?_) (fun Lf=>?_)
 ·have aq:e < l.length:=by simpa [aA] using Lf
  obtain ⟨w,hw⟩:∃ w,l[e]? = some w:=⟨_,gE aq⟩;have aX:=BR (L:=ae) hw;have yw:=yA ae ap rows js w.s hT gJ;refine ⟨uC w,⟨by omega,cx hw⟩,?_⟩
  cases hx:dw ae w.s with
  | none=>
   rw [hx] at yw;refine call_p Nl (yw) ax rfl ?_;rw [if_pos hx] at aX;have h1:labW ae l=(17,w.a):=bd.trans aX;refine aZ mo (by decide +kernel) ?_;refine ⟨_,?_,rfl⟩;rw [Le,yC,h1,if_neg (by simp)];exact ax
  | some i=>
   rw [hx] at yw;refine call_p Nl (yw) ax rfl ?_;rw [if_neg (by rw [hx];simp)] at aX;have hi:=(eu hx).1;obtain ⟨k,hk⟩:=hL.jn b i hb hi;have hz:=(hj b i hb hi).1;rw [hk] at hz;refine call_p DH (pY ae (bK ae ap) rows js b i k hb hi hn hz) ax rfl ?_;refine ⟨EH (dW ae (bK ae ap) rows js) l k (e + 1),(weak_mk ⟨_,rfl⟩ wA rfl rfl rfl (wNB aq)),l.length - (e + 1),by omega,e + 1,k,rfl,by omega,bd.trans aX,?_,?_,rfl⟩
   ·rw [sg hw hx];exact nF hL Hf hi Ho hk
   ·rw [sg hw hx];intro x hm;rcases List.mem_append.1 hm with hm | hm
    ·exact Hf x hm
    ·rw [List.mem_singleton.1 hm];exact hi
 ·have bJ:e=l.length:=by
   have:=Lf;simp [aA] at this;omega
  subst bJ;rw [List.drop_length] at bd;rw [List.take_length] at Ho;have h1:labW ae l=(0,0):=bd;refine ⟨_,?_,rfl⟩;rw [Le,yC,h1,if_pos rfl,Ho];exact ax
def yD (x:Ft × Int) (r:DV) (os:List (List DV)) (_:List TkE):Prop:=
 r=x.1.d/\∃ z:Int,os=[[.v (.int .i64 z)]]/\(x.1.1=0->z=x.2)
theorem iJ {x:Ft × Int}:∀ r os tk,yD x r os tk->clB 0 0 r=true/\∀ mM∈os,clB.clL 0 0 mM=true:=by
 rintro r os tk ⟨rfl,z,rfl,_⟩;refine ⟨rfl,fun mM h=>?_⟩;simp only [List.mem_singleton] at h;subst h;rfl
def EK (k:Nat):Prop:=∀ (t:Ty) (depth m:Int),t.wt<=k->t.wt<=1099511627776->0<=depth->depth<=25->0<=m->m<=512 ->
 Ev Tryz.prog 172 [.loc 0 0,.agg (gn t),.v (.int .i64 depth)] [[.v (.int .i64 m)]] [] (yD (wrong t depth m))
def gU (p:Ph) (t:Ty) (un:Bool) (depth m:Int):Ft × Int:=
 if p.bare=true then (if un=false∨bM p t (jx p) bG=false then ((19,p.name.a),m) else ((0,0),m))
 else if (dg p).1≠0 then (dg p,m)
 else wrong t (depth + 1) m
theorem aO {x:Ft × Int} {f:Ft} {m z:Int} (h:x=(f,m)) (hz:f.1=0->z=m) {tk:List TkE}:yD x f.d [[.v (.int .i64 z)]] tk:=by
 subst h;exact ⟨rfl,z,rfl,hz⟩
theorem yE (k:Nat) (ih:EK k) (p:Ph) (t:Ty) (un:Bool) (depth m:Int) (hk:t.wt<=k) (hp:p.wt<=1099511627776) (cM:t.wt<=1099511627776) (Bi:0<=depth) (Gx:depth<=24) (kz:0<=m) (fm:m<=512) :
  Ev Tryz.prog 262 [.loc 0 0,.agg (DN p (gn t)),.v (.bool un),.v (.int .i64 depth)] [[.v (.int .i64 m)]] [] (yD (gU p t un depth m)):=by
 have lD:=hp;simp only [Ph.wt] at lD;have ny:=ju p (jx p) t bG hp (by simp only [Ph.wt,jx,wdsWt];omega) (pB t bG cM (by decide));have qQ:=ih t (depth + 1) m hk cM (by omega) (by omega) kz fm;obtain ⟨u,us⟩:=t;have Sn:=tp p (gn (.mk u us)) (.mk u us) rfl hp;have hS:=gU.eq_def p (.mk u us) un depth m;generalize gU p (.mk u us) un depth m=F at hS ⊢;obtain ⟨nm,bare,lab,wide,ck,cn,ca,cl⟩:=p;simp only at hS lD ny
 cases bare with
 | true=>
  rw [if_pos rfl] at hS
  cases un with
  | true=>
   refine ev_go (P:=Tryz.prog) tt tt_ok 5000 68 [.cell 8 54] Tryz.func262 rfl Tryz.ntmps262 rfl (nL rfl) (fun E9 w9 hn9 hm9=>?_);refine call_p DL (ny) ax rfl ?_;refine br (fun q=>?_) (fun q=>?_)
   ·have q:bM ⟨nm,true,lab,wide,ck,cn,ca,cl⟩ (.mk u us) (jx ⟨nm,true,lab,wide,ck,cn,ca,cl⟩) bG=false:=by simpa [show (lastG (21,false) [(18,true)]).snd=true from rfl,pickB] using q
    rw [if_pos (.inr q)] at hS;refine call_p cu (aQ 19 nm.a) ax rfl ?_;exact ⟨_,_,ax,ax,aO (tk:=[]) (f:=(19,nm.a)) hS (fun _=>rfl)⟩
   ·have q:bM ⟨nm,true,lab,wide,ck,cn,ca,cl⟩ (.mk u us) (jx ⟨nm,true,lab,wide,ck,cn,ca,cl⟩) bG=true:=by simpa [show (lastG (21,false) [(18,true)]).snd=true from rfl,pickB] using q
    rw [if_neg (by simp [q])] at hS;exact ⟨_,_,ax,ax,aO (tk:=[]) (f:=(0,0)) hS (fun _=>rfl)⟩
  | false=>
   refine ev_go (P:=Tryz.prog) tt tt_ok 5000 68 [.cell 8 54] Tryz.func262 rfl Tryz.ntmps262 rfl (nL rfl) (fun E9 w9 hn9 hm9=>?_);rw [if_pos (.inl rfl)] at hS;refine call_p cu (aQ 19 nm.a) ax rfl ?_;exact ⟨_,_,ax,ax,aO (tk:=[]) (f:=(19,nm.a)) hS (fun _=>rfl)⟩
 | false=>
  rw [if_neg (by simp)] at hS;refine ev_go (P:=Tryz.prog) tt tt_ok 5000 68 [.cell 8 54] Tryz.func262 rfl Tryz.ntmps262 rfl (nL rfl) (fun E9 w9 hn9 hm9=>?_);refine br (fun hw=>?_) (fun hw=>?_)
  ·have hw:wide < 0∨64 < wide:=by simpa [ak] using hw
   have hP:dg ⟨nm,false,lab,wide,ck,cn,ca,cl⟩=(20,nm.a):=by simp only [dg,if_pos hw]
   rw [hP,if_pos (by simp)] at hS;refine call_p cu (aQ 20 nm.a) ax rfl ?_;exact ⟨_,_,ax,ax,aO (tk:=[]) (f:=(20,nm.a)) hS (fun _=>rfl)⟩
  have hw:¬ (wide < 0∨64 < wide):=by simp [ak] at hw;omega
  refine call_p vl (eH lab (by omega)) ax rfl ?_;refine br (fun hb=>?_) (fun hb=>?_)
  ·have hb:(cy lab).1≠0:=by simpa using hb
   have hP:dg ⟨nm,false,lab,wide,ck,cn,ca,cl⟩=cy lab:=by simp only [dg,if_neg hw,if_pos hb]
   rw [hP,if_pos hb] at hS;exact ⟨_,_,ax,ax,aO (tk:=[]) (f:=cy lab) hS (fun _=>rfl)⟩
  have hb:(cy lab).1=0:=by simpa using hb
  have hP:dg ⟨nm,false,lab,wide,ck,cn,ca,cl⟩=aW ⟨nm,false,lab,wide,ck,cn,ca,cl⟩:=by simp only [dg,if_neg hw];rw [if_neg (by simp [hb])]
  rw [hP] at hS;refine call_p Oe (Sn) ax rfl ?_;refine br (fun hc=>?_) (fun hc=>?_)
  ·have hc:(aW ⟨nm,false,lab,wide,ck,cn,ca,cl⟩).1≠0:=by simpa using hc
   rw [if_pos hc] at hS;exact ⟨_,_,ax,ax,aO (tk:=[]) (f:=aW ⟨nm,false,lab,wide,ck,cn,ca,cl⟩) hS (fun _=>rfl)⟩
  have hc:(aW ⟨nm,false,lab,wide,ck,cn,ca,cl⟩).1=0:=by simpa using hc
  rw [if_neg (by simp [hc])] at hS;refine iw DG rfl rfl ax (by repeat' (first | exact rfl | exact trivial | exact Or.inr (Or.inl ⟨_,rfl⟩) | exact Or.inr ⟨_,rfl⟩ | exact Or.inl ⟨rfl,rfl⟩ | exact Or.inl rfl | refine Or.inr ⟨_,_,rfl,Nat.zero_le _,rfl,?_⟩ | refine ⟨_,_,rfl,?_,?_⟩ | refine ⟨_,rfl,?_⟩ | exact congrArg (fun z=>DV.v (.int .i64 z)) (wrap64 (by omega) (by omega)) | refine Or.inr (Or.inr (Or.inr ⟨_,_,rfl,?_⟩)) | exact Or.inl rfl | refine Or.inr ?_)) qQ iJ (fun r mM hr=>?_);obtain ⟨rfl,z,hz,uX⟩:=hr;simp only [List.cons.injEq,and_true] at hz;subst hz;exact ⟨_,_,ax,ax,aO (tk:=[]) (f:=(wrong (.mk u us) (depth + 1) m).1) hS uX⟩
theorem q4 {ag:Int} {all:List Wd} {i:Nat} {p:Ph} {t:Ty} {r:Pts} {depth m:Int} (hk:ag=7∨ag=8) (hl:aF all i p.name=0) :
  wrongPts ag all i (.cons p t r) depth m=if (gU p t (decide (ag=8)) depth m).1.1≠0 then gU p t (decide (ag=8)) depth m else wrongPts ag all (i + 1) r depth (gU p t (decide (ag=8)) depth m).2:=by
 simp only [wrongPts];rw [if_neg (by simp [hl])];unfold gU;by_cases hb:p.bare=true
 ·rw [if_pos hb,if_pos hb,Hz];by_cases h7:ag=7
  ·subst h7;rw [if_pos (.inl rfl),if_pos (c:=decide ((7:Int)=8)=false∨_) (.inl (by simp)),if_pos (by simp)]
  ·have h8:ag=8:=by omega
   subst h8;by_cases h:sameTy t bG=false∨bL p dK=false
   ·have h':decide ((8:Int)=8)=false∨(bL p dK && sameTy t bG)=false:=.inr (by rcases h with h | h<;>simp [h]);rw [if_pos (.inr h),if_pos h',if_pos (by simp)]
   ·have h1:sameTy t bG=true:=by
     cases hc:sameTy t bG
     ·exact absurd (.inl hc) h
     ·rfl
    have h2:bL p dK=true:=by
     cases hc:bL p dK
     ·exact absurd (.inr hc) h
     ·rfl
    have h':¬ (decide ((8:Int)=8)=false∨(bL p dK && sameTy t bG)=false):=by simp [h1,h2]
    rw [if_neg (by simp [h1,h2]),if_neg h',if_neg (by simp)]
 ·rw [if_neg hb,if_neg hb];by_cases hP:(dg p).1≠0
  ·rw [if_pos hP,if_pos hP,if_pos hP]
  ·rw [if_neg hP,if_neg hP]
theorem EL {p:Ph} {t:Ty} {un:Bool} {depth m:Int} (kz:0<=m) (fm:m<=512) (h:(gU p t un depth m).1.1=0):(gU p t un depth m).1=(0,0)/\0<=(gU p t un depth m).2/\(gU p t un depth m).2<=512:=by
 have hw:=pw t (depth + 1) m kz;unfold gU at h ⊢;by_cases hb:p.bare=true
 ·rw [if_pos hb] at h ⊢;split at h
  ·simp at h
  ·rename_i hc;rw [if_neg hc];exact ⟨rfl,kz,fm⟩
 ·rw [if_neg hb] at h ⊢;by_cases hP:(dg p).1≠0
  ·rw [if_pos hP] at h;exact absurd h hP
  ·rw [if_neg hP] at h ⊢;exact hw h
abbrev p9 (h:Hd) (ps:Pts) (n e:Nat) (depth m:Int):St:=
 ⟨[(0,⟨[],.loc 0 0⟩),(2,⟨[],.v (.int .i64 depth)⟩),(4,⟨[],.loc 1 0⟩),(6,⟨[],.loc 2 0⟩),(38,⟨[],.sl 18 (dV ps) none⟩),(39,⟨[],.v (.int .i64 (dV ps).length)⟩),(40,⟨[],.v (.int .i64 e)⟩),(7,⟨[],.sl 1 (cD (au ((pNames ps).take e))) (some 0)⟩)],
  [[.v (.int .i64 m)],gn (.mk h ps),[.v (.int .i64 0),.v (.int .i64 0)]],[⟨n,9,1,none⟩]⟩
theorem nG (k:Nat) (ih:EK k) (h:Hd) (ps:Pts) (depth m:Int) (GA:h.ag=7∨h.ag=8) (hk:ps.wt<=k) (cM:(Ty.mk h ps).wt<=1099511627776) (Bi:0<=depth) (Gx:depth<=24) (kz:0<=m) (fm:m<=512) :
  Ev Tryz.prog 218 [.loc 0 0,.agg (gn (.mk h ps)),.v (.int .i64 depth)] [[.v (.int .i64 m)]] [] (yD (jr h ps depth m)):=by
 simp only [Ty.wt,Hd.wt] at cM;have lm:=ps.jq;have iX:=kK ps;have Sp:=rN ps;have hS:=jr.eq_def h ps depth m;generalize jr h ps depth m=F at hS ⊢;refine ev_go (P:=Tryz.prog) tt tt_ok 5000 72 [.cell 6 54] Tryz.func218 rfl Tryz.ntmps218 rfl (nL rfl) (fun E9 w9 hn9 hm9=>?_);refine br (fun c1=>?_) (fun c1=>?_)
 ·have c1:h.ag=8/\ps.len=0:=by
   simp [pickB_and,aS] at c1;exact ⟨c1.1,by omega⟩
  rw [if_pos c1] at hS;refine call_p cu (aQ 15 h.aC) ax rfl ?_;exact ⟨_,_,ax,ax,aO (tk:=[]) (f:=(15,h.aC)) hS (fun _=>rfl)⟩
 have c1:¬ (h.ag=8/\ps.len=0):=by
  simp [pickB_and,aS] at c1;omega
 rw [if_neg c1] at hS;refine br (fun c2=>?_) (fun c2=>?_)
 ·have aq:64 < ps.len:=by simp [aS] at c2;omega
  obtain ⟨p,t,hx⟩:=Pts.gy aq;refine ⟨_,⟨by omega,dj hx⟩,?_⟩;refine call_p cu (aQ 8 p.name.a) ax rfl ?_;rw [if_pos aq,iA hx] at hS;exact ⟨_,_,ax,ax,aO (tk:=[]) (f:=(8,p.name.a)) hS (fun _=>rfl)⟩
 have c2:¬ 64 < ps.len:=by simp [aS] at c2;omega
 rw [if_neg c2] at hS
 refine aw (fun j st=>∃ (e:Nat) (m':Int),st=p9 h ps e e depth m' /\ e<=ps.len/\0<=m' /\ m' <= 512/\(au ((pNames ps).take e)).Nodup /\
   F=wrongPts h.ag (pNames ps) e (ps.drop e) depth m' /\ j=ps.len - e) ps.len (p9 h ps 0 0 depth m) (jj ⟨0,9,1,none⟩ rfl ⟨_,rfl⟩ rfl wA rfl rfl Gv) ⟨0,m,rfl,by omega,kz,fm,by simp [au],hS,by omega⟩ ?_
 rintro j st ⟨e,m',rfl,he,vT,EM,hnd,bd,rfl⟩;refine br (fun hL=>?_) (fun hL=>?_)
 ·have aq:e < ps.len:=by simpa [aS] using hL
  obtain ⟨p,t,hx⟩:=Pts.gy aq;have GB:=Pts.iy (mG hx);have Lg:=iA hx;have hpw:p.name.s.size + 64<=p.wt:=by simp only [Ph.wt,Wd.wt];omega
  rw [Pts.drop_cons hx] at bd
  have D4:(au ((pNames ps).take (e + 1)))[(au ((pNames ps).take (e + 1))).length - 1]? = some p.name.s:=by
   have zL:(au ((pNames ps).take (e + 1))).length=e + 1:=by simp [au];omega
   rw [zL];simp [au,Lg]
  have J5:=nC (au ((pNames ps).take (e + 1))) p.name.s p.name.a D4 (by simp [au];omega) (by omega);have iY:=gM Lg;rw [r6 p.name.a Lg hnd,<- iY] at J5;have vU:=yE k ih p t (decide (h.ag=8)) depth m' (by omega) (by omega) (by omega) Bi Gx vT EM;obtain ⟨u,us⟩:=t;refine ⟨_,⟨by omega,dj hx⟩,?_⟩;refine ⟨by simp [bl,au];omega,⟨by simp [bl,au,maxLen];omega,by simp [bl,au];omega⟩,?_⟩;refine call_p Jd (J5) ax rfl ?_;by_cases hl:aF (pNames ps) e p.name≠0
  ·rw [if_pos hl];refine br (fun hf=>?_) (fun hf=>?_)
   ·simp only [wrongPts] at bd;rw [if_pos hl] at bd;exact ⟨_,_,ax,ax,aO (tk:=[]) (f:=(aF (pNames ps) e p.name,p.name.a)) bd (fun _=>rfl)⟩
   ·exact absurd (by simpa using hf) hl
  have hl:aF (pNames ps) e p.name=0:=by simpa using hl
  have Sq:=iI Lg hnd hl;rw [if_neg (by simp [hl])];rw [q4 GA hl] at bd;have cj:=EL (p:=p) (t:=.mk u us) (un:=decide (h.ag=8)) (depth:=depth) vT EM;generalize gU p (.mk u us) (decide (h.ag=8)) depth m'=r at vU bd cj;obtain ⟨⟨fe,fa⟩,many⟩:=r;simp only at bd cj;refine iw N8 rfl rfl ax ax vU iJ (fun r mM hr=>?_);obtain ⟨rfl,z,hz,uX⟩:=hr;simp only [List.cons.injEq,and_true] at hz;subst hz;refine br (fun hd=>?_) (fun hd=>?_)
  ·have hd:fe≠0:=by simpa using hd
   rw [if_pos hd] at bd;exact ⟨_,_,ax,ax,aO (tk:=[]) (f:=(fe,fa)) bd (fun h0=>absurd h0 hd)⟩
  ·have hd:fe=0:=by simpa using hd
   subst hd;obtain ⟨_,h2,h3⟩:=cj rfl;rw [if_neg (by simp)] at bd;have Mm:z=many:=uX rfl;subst Mm;exact ⟨p9 h ps (e + 1) (e + 1) depth z,(weak_mk ⟨_,rfl⟩ wA rfl rfl rfl (A8 aq iY)),ps.len - (e + 1),by omega,e + 1,z,rfl,by omega,h2,h3,Sq,bd,rfl⟩
 ·have bJ:e=ps.len:=by simp [aS] at hL;omega
  rw [bJ,Pts.dJ] at bd;simp only [wrongPts] at bd;exact ⟨_,_,ax,ax,aO (tk:=[]) (f:=(0,0)) bd (fun _=>rfl)⟩
theorem si (k:Nat) (ih:EK k) (h:Hd) (ps:Pts) (depth m:Int) (hk:ps.wt<=k) (cM:(Ty.mk h ps).wt<=1099511627776) (Bi:0<=depth) (Gx:depth<=24) (kz:0<=m) (fm:m<=512) :
  Ev Tryz.prog 217 [.loc 0 0,.agg (gn (.mk h ps)),.v (.int .i64 depth)] [[.v (.int .i64 m)]] [] (yD (wrongOne h ps depth m)):=by
 simp only [Ty.wt,Hd.wt] at cM
 cases ps with
 | nil=>
  have hS:wrongOne h .nil depth m=((19,h.aC),m):=by simp only [wrongOne]
  generalize wrongOne h .nil depth m=F at hS ⊢;refine ev_go (P:=Tryz.prog) tt tt_ok 5000 44 [.cell 6 54] Tryz.func217 rfl Tryz.ntmps217 rfl (nL rfl) (fun E9 w9 hn9 hm9=>?_);refine call_p cu (aQ 19 h.aC) ax rfl ?_;exact ⟨_,_,ax,ax,aO (tk:=[]) (f:=(19,h.aC)) hS (fun _=>rfl)⟩
 | cons p t r=>
  cases r with
  | cons p2 t2 r2=>
   have hS:wrongOne h (.cons p t (.cons p2 t2 r2)) depth m=((19,h.aC),m):=by simp only [wrongOne]
   generalize wrongOne h (.cons p t (.cons p2 t2 r2)) depth m=F at hS ⊢;refine ev_go (P:=Tryz.prog) tt tt_ok 5000 44 [.cell 6 54] Tryz.func217 rfl Tryz.ntmps217 rfl (nL rfl) (fun E9 w9 hn9 hm9=>?_);refine call_p cu (aQ 19 h.aC) ax rfl ?_;exact ⟨_,_,ax,ax,aO (tk:=[]) (f:=(19,h.aC)) hS (fun _=>rfl)⟩
  | nil=>
   simp only [Pts.wt] at cM hk;have hS:wrongOne h (.cons p t .nil) depth m=if p.name.s≠al∨bL p du=false then ((19,h.aC),m) else if h.most < 0∨1024 < h.most then ((20,h.aC),m) else wrong t (depth + 1) m:=by simp only [wrongOne]
   generalize wrongOne h (.cons p t .nil) depth m=F at hS ⊢;have Kw:=vz p t (by omega);rw [empty_eq] at Kw;have qQ:=ih t (depth + 1) m (by omega) (by omega) (by omega) (by omega) kz fm;obtain ⟨u,us⟩:=t;refine ev_go (P:=Tryz.prog) tt tt_ok 5000 44 [.cell 6 54] Tryz.func217 rfl Tryz.ntmps217 rfl (nL rfl) (fun E9 w9 hn9 hm9=>?_);refine ⟨_,⟨by omega,rfl⟩,?_⟩;refine call_p N7 (Kw) ax rfl ?_;refine br (fun q=>?_) (fun q=>?_)
   ·have q:p.name.s≠al∨bL p du=false:=by
     have:=q;simp [pickB] at this;exact this
    rw [if_pos q] at hS;refine call_p cu (aQ 19 h.aC) ax rfl ?_;exact ⟨_,_,ax,ax,aO (tk:=[]) (f:=(19,h.aC)) hS (fun _=>rfl)⟩
   have q:¬ (p.name.s≠al∨bL p du=false):=by
    have:=q;simp [pickB] at this;simp [this.1,this.2]
   rw [if_neg q] at hS;refine br (fun x=>?_) (fun x=>?_)
   ·have x:h.most < 0∨1024 < h.most:=by simpa [ak] using x
    rw [if_pos x] at hS;refine call_p cu (aQ 20 h.aC) ax rfl ?_;exact ⟨_,_,ax,ax,aO (tk:=[]) (f:=(20,h.aC)) hS (fun _=>rfl)⟩
   have x:¬ (h.most < 0∨1024 < h.most):=by simp [ak] at x;omega
   rw [if_neg x] at hS;refine ⟨_,⟨by omega,rfl⟩,?_⟩;refine iw DG rfl rfl ax (by repeat' (first | exact rfl | exact trivial | exact Or.inr (Or.inl ⟨_,rfl⟩) | exact Or.inr ⟨_,rfl⟩ | exact Or.inl ⟨rfl,rfl⟩ | exact Or.inl rfl | refine Or.inr ⟨_,_,rfl,Nat.zero_le _,rfl,?_⟩ | refine ⟨_,_,rfl,?_,?_⟩ | refine ⟨_,rfl,?_⟩ | exact congrArg (fun z=>DV.v (.int .i64 z)) (wrap64 (by omega) (by omega)) | refine Or.inr (Or.inr (Or.inr ⟨_,_,rfl,?_⟩)) | exact Or.inl rfl | refine Or.inr ?_)) qQ iJ (fun r mM hr=>?_);obtain ⟨rfl,z,hz,uX⟩:=hr;simp only [List.cons.injEq,and_true] at hz;subst hz;exact ⟨_,_,ax,ax,aO (tk:=[]) (f:=(wrong (.mk u us) (depth + 1) m).1) hS uX⟩
theorem vV (k:Nat) (ih:EK k) (h:Hd) (ps:Pts) (depth m:Int) (hk:ps.wt<=k) (cM:(Ty.mk h ps).wt<=1099511627776) (Bi:0<=depth) (Gx:depth<=25) (kz:0<=m) (fm:m<=512) :
  Ev Tryz.prog 172 [.loc 0 0,.agg (gn (.mk h ps)),.v (.int .i64 depth)] [[.v (.int .i64 m)]] [] (yD (wrong (.mk h ps) depth m)):=by
 have Jw:=cM;simp only [Ty.wt,Hd.wt] at Jw;have uF:IntKind.i64.wrap (m + 1)=m + 1:=wrap64 (by omega) (by omega);have hS:=wrong.eq_def (.mk h ps) depth m;simp only at hS;generalize wrong (.mk h ps) depth m=F at hS ⊢;have bR:=Bt h ps;rw [z7] at bR;refine ev_go (P:=Tryz.prog) tt tt_ok 5000 103 [.cell 6 54] Tryz.func172 rfl Tryz.ntmps172 rfl (nL rfl) (fun E9 w9 hn9 hm9=>?_);refine br (fun c=>?_) (fun c=>?_)
 ·have c:24 < depth:=of_decide_eq_true c;rw [if_pos c] at hS;refine call_p cu (aQ 6 h.aC) ax rfl ?_;exact ⟨_,[[.v (.int .i64 (m + 1))]],ax,(aI uF),aO (tk:=[]) (f:=(6,h.aC)) hS (fun _=>rfl)⟩
 have c:¬ 24 < depth:=of_decide_eq_false c;rw [if_neg c] at hS;refine br (fun c=>?_) (fun c=>?_)
 ·have c:512 < IntKind.i64.wrap (m + 1):=of_decide_eq_true c;rw [uF] at c;rw [if_pos c] at hS;refine call_p cu (aQ 8 h.aC) ax rfl ?_;exact ⟨_,[[.v (.int .i64 (m + 1))]],ax,(aI uF),aO (tk:=[]) (f:=(8,h.aC)) hS (fun _=>rfl)⟩
 have c:¬ 512 < IntKind.i64.wrap (m + 1):=of_decide_eq_false c;rw [uF] at c;rw [if_neg c] at hS;refine br (fun c=>?_) (fun c=>?_)
 ·have c:h.ag < 1∨9 < h.ag:=by simpa [ak] using c
  rw [if_pos c] at hS;refine call_p cu (aQ 14 h.aC) ax rfl ?_;exact ⟨_,[[.v (.int .i64 (m + 1))]],ax,(aI uF),aO (tk:=[]) (f:=(14,h.aC)) hS (fun _=>rfl)⟩
 have ck:¬ (h.ag < 1∨9 < h.ag):=by simp [ak] at c;omega
 rw [if_neg ck] at hS;refine call_p NW (bR) ax rfl ?_;refine br (fun c=>?_) (fun c=>?_)
 ·have c:vu (.mk h ps)=false:=by simpa [vu] using c
  rw [if_pos c] at hS;refine call_p cu (aQ 19 h.aC) ax rfl ?_;exact ⟨_,[[.v (.int .i64 (m + 1))]],ax,(aI uF),aO (tk:=[]) (f:=(19,h.aC)) hS (fun _=>rfl)⟩
 have c:¬ vu (.mk h ps)=false:=by simpa [vu] using c
 rw [if_neg c] at hS;refine br (fun k2=>?_) (fun k2=>?_)
 ·have k2:h.ag=2:=of_decide_eq_true k2;refine br (fun x=>?_) (fun x=>?_)
  ·have x:h.hi < h.lo:=of_decide_eq_true x;rw [if_pos (.inl ⟨k2,x⟩)] at hS;refine call_p cu (aQ 20 h.aC) ax rfl ?_;exact ⟨_,[[.v (.int .i64 (m + 1))]],ax,(aI uF),aO (tk:=[]) (f:=(20,h.aC)) hS (fun _=>rfl)⟩
  have x:¬ h.hi < h.lo:=of_decide_eq_false x;rw [if_neg (by omega),if_neg (by omega),if_neg (by omega),if_neg (by omega),if_neg (by omega)] at hS;exact ⟨_,[[.v (.int .i64 (m + 1))]],ax,(aI uF),aO (tk:=[]) (f:=(0,0)) hS (fun _=>rfl)⟩
 have k2:¬ h.ag=2:=of_decide_eq_false k2;refine br (fun k3=>?_) (fun k3=>?_)
 ·have k3:h.ag=3:=of_decide_eq_true k3;refine br (fun x=>?_) (fun x=>?_)
  ·have x:h.most < 0∨4096 < h.most:=by simpa [ak] using x
   rw [if_pos (.inr ⟨k3,x⟩)] at hS;refine call_p cu (aQ 20 h.aC) ax rfl ?_;exact ⟨_,[[.v (.int .i64 (m + 1))]],ax,(aI uF),aO (tk:=[]) (f:=(20,h.aC)) hS (fun _=>rfl)⟩
  have x:¬ (h.most < 0∨4096 < h.most):=by simp [ak] at x;omega
  rw [if_neg (by omega),if_neg (by omega),if_neg (by omega),if_neg (by omega),if_neg (by omega)] at hS;exact ⟨_,[[.v (.int .i64 (m + 1))]],ax,(aI uF),aO (tk:=[]) (f:=(0,0)) hS (fun _=>rfl)⟩
 have k3:¬ h.ag=3:=of_decide_eq_false k3;rw [if_neg (by omega)] at hS;refine br (fun k4=>?_) (fun k4=>?_)
 ·have k4:h.ag=4:=of_decide_eq_true k4;rw [if_neg (by omega),if_pos k4,<- Eu] at hS;refine call_p NX (yc h ps (by omega)) ax rfl ?_;exact ⟨_,[[.v (.int .i64 (m + 1))]],ax,(aI uF),aO (tk:=[]) (f:=jv h) hS (fun _=>rfl)⟩
 have k4:¬ h.ag=4:=of_decide_eq_false k4;refine br (fun k5=>?_) (fun k5=>?_)
 ·have Sr:h.ag=5∨h.ag=6:=.inl (of_decide_eq_true k5);rw [if_neg (by omega),if_neg (by omega),if_pos Sr] at hS;refine br (fun _=>?_) (fun hc=>by rw [k5] at hc;cases hc);refine iw I7 rfl rfl (cs':=[.v (.int .i64 (m + 1))]) (aI uF) ax (si k ih h ps depth (m + 1) hk cM Bi (by omega) (by omega) (by omega)) iJ (fun r mM hr=>?_);obtain ⟨rfl,z,hz,uX⟩:=hr;simp only [List.cons.injEq,and_true] at hz;subst hz;exact ⟨_,_,ax,ax,aO (tk:=[]) (f:=(wrongOne h ps depth (m + 1)).1) hS uX⟩
 have k5:¬ h.ag=5:=of_decide_eq_false k5;refine br (fun k6=>?_) (fun k6=>?_)
 ·have Sr:h.ag=5∨h.ag=6:=.inr (of_decide_eq_true k6);rw [if_neg (by omega),if_neg (by omega),if_pos Sr] at hS;refine iw I7 rfl rfl (cs':=[.v (.int .i64 (m + 1))]) (aI uF) ax (si k ih h ps depth (m + 1) hk cM Bi (by omega) (by omega) (by omega)) iJ (fun r mM hr=>?_);obtain ⟨rfl,z,hz,uX⟩:=hr;simp only [List.cons.injEq,and_true] at hz;subst hz;exact ⟨_,_,ax,ax,aO (tk:=[]) (f:=(wrongOne h ps depth (m + 1)).1) hS uX⟩
 have k6:¬ h.ag=6:=of_decide_eq_false k6;have hP:jr h ps depth (m + 1)=jr h ps depth (m + 1):=rfl
 conv at hP=>lhs;unfold jr
 refine br (fun k7=>?_) (fun k7=>?_)
 ·have O6:h.ag=7∨h.ag=8:=.inl (of_decide_eq_true k7);rw [if_neg (by omega),if_neg (by omega),if_neg (by omega),if_pos O6,hP] at hS;refine br (fun _=>?_) (fun hc=>by rw [k7] at hc;cases hc);refine iw I8 rfl rfl (cs':=[.v (.int .i64 (m + 1))]) (aI uF) ax (nG k ih h ps depth (m + 1) O6 hk cM Bi (by omega) (by omega) (by omega)) iJ (fun r mM hr=>?_);obtain ⟨rfl,z,hz,uX⟩:=hr;simp only [List.cons.injEq,and_true] at hz;subst hz;exact ⟨_,_,ax,ax,aO (tk:=[]) (f:=(jr h ps depth (m + 1)).1) hS uX⟩
 have k7:¬ h.ag=7:=of_decide_eq_false k7;refine br (fun k8=>?_) (fun k8=>?_)
 ·have O6:h.ag=7∨h.ag=8:=.inr (of_decide_eq_true k8);rw [if_neg (by omega),if_neg (by omega),if_neg (by omega),if_pos O6,hP] at hS;refine iw I8 rfl rfl (cs':=[.v (.int .i64 (m + 1))]) (aI uF) ax (nG k ih h ps depth (m + 1) O6 hk cM Bi (by omega) (by omega) (by omega)) iJ (fun r mM hr=>?_);obtain ⟨rfl,z,hz,uX⟩:=hr;simp only [List.cons.injEq,and_true] at hz;subst hz;exact ⟨_,_,ax,ax,aO (tk:=[]) (f:=(jr h ps depth (m + 1)).1) hS uX⟩
 have k8:¬ h.ag=8:=of_decide_eq_false k8;refine br (fun k9=>?_) (fun k9=>?_)
 ·have k9:h.ag=9:=of_decide_eq_true k9;refine call_p vg (fK h.name.s (by simp only [Wd.wt] at Jw;omega)) ax rfl ?_;refine br (fun q=>?_) (fun q=>?_)
  ·have q:a7 h.name.s=false:=by simpa using q
   rw [if_pos ⟨k9,q⟩] at hS;refine call_p cu (aQ 9 h.name.a) ax rfl ?_;exact ⟨_,[[.v (.int .i64 (m + 1))]],ax,(aI uF),aO (tk:=[]) (f:=(9,h.name.a)) hS (fun _=>rfl)⟩
  ·have q:a7 h.name.s=true:=by simpa using q
   rw [if_neg (by simp [q]),if_neg (by omega),if_neg (by omega),if_neg (by omega)] at hS;exact ⟨_,[[.v (.int .i64 (m + 1))]],ax,(aI uF),aO (tk:=[]) (f:=(0,0)) hS (fun _=>rfl)⟩
 have k9:¬ h.ag=9:=of_decide_eq_false k9;rw [if_neg (by omega),if_neg (by omega),if_neg (by omega),if_neg (by omega)] at hS;exact ⟨_,[[.v (.int .i64 (m + 1))]],ax,(aI uF),aO (tk:=[]) (f:=(0,0)) hS (fun _=>rfl)⟩
theorem vW:∀ k,EK k
 | 0=>fun t depth m hk=>by have:=t.eX;omega
 | k + 1=>fun t depth m hk cM Bi Gx kz fm=>by
  obtain ⟨h,ps⟩:=t;have gg:=hk;simp only [Ty.wt,Hd.wt] at gg;exact vV k (vW k) h ps depth m (by omega) cM Bi Gx kz fm
theorem vX (t:Ty) (cM:t.wt<=1099511627776):EvP Tryz.prog 104 [.agg (gn t)] (wrong t 1 0).1.d:=
 Bu t (vW t.wt t 1 0 (Nat.le_refl _) cM (by omega) (by omega) (by omega) (by omega))
abbrev Aq (t:Ty) (ps:Pts) (e n:Nat):St:=
 ⟨[(1,⟨[],.loc 0 0⟩),(3,⟨[],.v (.int .i64 n)⟩),(7,⟨[],.sl 18 (dV ps) none⟩),(8,⟨[],.v (.int .i64 (dV ps).length)⟩),(9,⟨[],.v (.int .i64 e)⟩)],[gn t],[]⟩
theorem qa:∀ (k:Nat) (t:Ty),t.wt<=k->t.wt<=1099511627776 ->
  EvP Tryz.prog 105 [.agg (gn t)] (.v (.int .i64 t.cnt))
 | 0,t,hn,_=>by have:=t.eX;omega
 | k + 1,.mk h ps,hn,cM=>by
  simp only [Ty.wt,Hd.wt] at hn cM;have lm:=ps.jq;have hc:=ps.eo;refine ev_go (P:=Tryz.prog) tt tt_ok 5000 23 [.tmp 2] Tryz.func105 rfl Tryz.ntmps105 rfl (nL rfl) (fun E9 w9 hn9 hm9=>?_)
  refine aw (fun j st=>∃ (e n:Nat),st=Aq (.mk h ps) ps e n/\e<=ps.len/\n + (ps.drop e).cnt=1 + ps.cnt/\j=ps.len - e) ps.len
   (Aq (.mk h ps) ps 0 1) (weak_mk ⟨_,rfl⟩ wA rfl rfl rfl wB) ⟨0,1,rfl,by omega,rfl,by omega⟩ ?_
  rintro j st ⟨e,n,rfl,he,aM,rfl⟩;refine br (fun hL=>?_) (fun hL=>?_)
  ·have aq:e < ps.len:=by simpa [aS] using hL
   obtain ⟨p,t,hx⟩:=Pts.gy aq;have GB:=Pts.iy (mG hx);rw [Pts.drop_cons hx] at aM;simp only [Pts.cnt] at aM;have hct:=t.eo;obtain ⟨u,us⟩:=t;refine ⟨_,⟨by omega,dj hx⟩,?_⟩;refine br (fun hB=>?_) (fun hB=>?_)
   ·have hB:p.bare=false:=by simpa using hB
    rw [hB] at aM;have aM:n + ((Ty.mk u us).cnt + (ps.drop (e + 1)).cnt)=1 + ps.cnt:=aM;refine call_p IM (qa k (.mk u us) (by omega) (by omega)) ax rfl ?_;have GC:IntKind.i64.wrap ((n:Int) + (Ty.mk u us).cnt)=((n + (Ty.mk u us).cnt:Nat):Int):=by rw [wrap64 (by omega) (by omega)];omega
    exact ⟨Aq (.mk h ps) ps (e + 1) (n + (Ty.mk u us).cnt),(weak_mk ⟨_,rfl⟩ wA rfl rfl rfl (by repeat' (first | exact trivial | exact ai rfl | exact aj GC | exact aj (ej aq (by omega)) | refine ⟨⟨_,rfl,?_⟩,?_⟩))),ps.len - (e + 1),by omega,e + 1,_,rfl,by omega,by omega,rfl⟩
   ·have hB:p.bare=true:=by simpa using hB
    rw [hB] at aM;have aM:n + (0 + (ps.drop (e + 1)).cnt)=1 + ps.cnt:=aM;exact ⟨Aq (.mk h ps) ps (e + 1) n,(weak_mk ⟨_,rfl⟩ wA rfl rfl rfl (wNB aq)),ps.len - (e + 1),by omega,e + 1,n,rfl,by omega,by omega,rfl⟩
  ·have bJ:e=ps.len:=by simp [aS] at hL;omega
   rw [bJ,Pts.dJ] at aM;simp only [Pts.cnt] at aM;have e2:(n:Int)=((Ty.mk h ps).cnt:Int):=by simp only [Ty.cnt];omega
   refine (congrArg (fun z=>DV.v (.int .i64 z)) ?_:_=_);exact e2
mutual
def Ty.nn:Ty->Nat
 | .mk h ps=>if h.ag=9 then 0 else 1 + ps.nn
def Pts.nn:Pts->Nat
 | .nil=>0
 | .cons p t r=>(if p.bare then 0 else t.nn) + r.nn
end
mutual
theorem Ty.eY:∀ t:Ty,t.nn<=t.cnt
 | .mk h ps=>by
  have:=Pts.eY ps;simp only [Ty.nn,Ty.cnt];split<;>omega
theorem Pts.eY:∀ ps:Pts,ps.nn<=ps.cnt
 | .nil=>Nat.le_refl _
 | .cons p t r=>by
  have:=Ty.eY t;have:=Pts.eY r;simp only [Pts.nn,Pts.cnt];split<;>omega
end
abbrev HI (t:Ty) (ps:Pts) (e n:Nat):St:=
 ⟨[(1,⟨[],.loc 0 0⟩),(3,⟨[],.v (.int .i64 n)⟩),(10,⟨[],.sl 18 (dV ps) none⟩),(11,⟨[],.v (.int .i64 (dV ps).length)⟩),(12,⟨[],.v (.int .i64 e)⟩)],[gn t],[]⟩
theorem qb:∀ (k:Nat) (t:Ty),t.wt<=k->t.wt<=1099511627776 ->
  EvP Tryz.prog 108 [.agg (gn t)] (.v (.int .i64 t.nn))
 | 0,t,hn,_=>by have:=t.eX;omega
 | k + 1,.mk h ps,hn,cM=>by
  simp only [Ty.wt,Hd.wt] at hn cM;have lm:=ps.jq;have hc:=ps.eo;have j8:=ps.eY;refine ev_go (P:=Tryz.prog) tt tt_ok 5000 26 [.tmp 2] Tryz.func108 rfl Tryz.ntmps108 rfl (nL rfl) (fun E9 w9 hn9 hm9=>?_);refine br (fun h9=>?_) (fun h9=>?_)
  ·have h9:h.ag=9:=by simpa using h9
   have:(Ty.mk h ps).nn=0:=by simp [Ty.nn,h9]
   rw [this];exact (rfl:_=_)
  have h9:¬ h.ag=9:=by simpa using h9
  refine aw (fun j st=>∃ (e n:Nat),st=HI (.mk h ps) ps e n/\e<=ps.len/\n + (ps.drop e).nn=1 + ps.nn/\j=ps.len - e) ps.len
   (HI (.mk h ps) ps 0 1) (weak_mk ⟨_,rfl⟩ wA rfl rfl rfl wB) ⟨0,1,rfl,by omega,rfl,by omega⟩ ?_
  rintro j st ⟨e,n,rfl,he,aM,rfl⟩;refine br (fun hL=>?_) (fun hL=>?_)
  ·have aq:e < ps.len:=by simpa [aS] using hL
   obtain ⟨p,t,hx⟩:=Pts.gy aq;have GB:=Pts.iy (mG hx);rw [Pts.drop_cons hx] at aM;simp only [Pts.nn] at aM;have hct:=t.eo;have hct2:=t.eY;obtain ⟨u,us⟩:=t;refine ⟨_,⟨by omega,dj hx⟩,?_⟩;refine br (fun hB=>?_) (fun hB=>?_)
   ·have hB:p.bare=false:=by simpa using hB
    rw [hB] at aM;have aM:n + ((Ty.mk u us).nn + (ps.drop (e + 1)).nn)=1 + ps.nn:=aM;refine call_p IP (qb k (.mk u us) (by omega) (by omega)) ax rfl ?_;have GC:IntKind.i64.wrap ((n:Int) + (Ty.mk u us).nn)=((n + (Ty.mk u us).nn:Nat):Int):=by rw [wrap64 (by omega) (by omega)];omega
    exact ⟨HI (.mk h ps) ps (e + 1) (n + (Ty.mk u us).nn),(weak_mk ⟨_,rfl⟩ wA rfl rfl rfl (by repeat' (first | exact trivial | exact ai rfl | exact aj GC | exact aj (ej aq (by omega)) | refine ⟨⟨_,rfl,?_⟩,?_⟩))),ps.len - (e + 1),by omega,e + 1,_,rfl,by omega,by omega,rfl⟩
   ·have hB:p.bare=true:=by simpa using hB
    rw [hB] at aM;have aM:n + (0 + (ps.drop (e + 1)).nn)=1 + ps.nn:=aM;exact ⟨HI (.mk h ps) ps (e + 1) n,(weak_mk ⟨_,rfl⟩ wA rfl rfl rfl (wNB aq)),ps.len - (e + 1),by omega,e + 1,n,rfl,by omega,by omega,rfl⟩
  ·have bJ:e=ps.len:=by simp [aS] at hL;omega
   rw [bJ,Pts.dJ] at aM;simp only [Pts.nn] at aM;have e2:(n:Int)=((Ty.mk h ps).nn:Int):=by simp only [Ty.nn,if_neg h9];omega
   refine (congrArg (fun z=>DV.v (.int .i64 z)) ?_:_=_);exact e2
structure Lx where
 ae:List ByteArray
 ap:List Nat
 rows:List Nat
 js:List Int
 f:Nat->Nat->Bool
def Lx.pd (X:Lx):DV:=.pt (dW X.ae (bK X.ae X.ap) X.rows X.js) 0
def Lx.lev (X:Lx) (l:List Wd):Int:=yC X.f X.ae l
def Lx.bad (X:Lx) (l:List Wd):Ft:=labW X.ae l
structure Lx.OK (X:Lx):Prop where
 hT:dY X.ae X.ap
 gJ:X.ap.length<=1099511627776
 hL:dA X.f X.ae.length
 hn:X.ae.length<=32
 hj:∀ x y,x < X.ae.length->y < X.ae.length->JM X.f X.ae.length X.js x y
theorem Lx.l7 {X:Lx} (h:X.OK) (l:List Wd) (hs:wdsWt l<=1099511627776):EvP Tryz.prog 106 [X.pd,.sl 2 (bY l) none] (.tup [.v (.int .i64 (X.lev l)),(X.bad l).d]):=
 EI X.ae X.ap X.rows X.js h.hT h.gJ h.hL h.hn h.hj l hs
def bC (s:Sch) (lat out:DV) (m:Int):List DV:=.sl 2 (bY s.af) none :: .sl 4 (pI s.order) none :: .sl 11 (dNms s.types) none :: (gn s.root ++ [lat,out,.v (.int .i64 m)])
theorem qc {X:Lx} (h:X.OK) (s:Sch) (pc:List DV) (m:Int) (l:List Wd) (hs:wdsWt l<=1099511627776) :
  EvP Tryz.prog 174 [.pt (bC s X.pd (.pt pc 0) m) 0,.sl 2 (bY l) none] (.v (.int .i64 (X.lev l))):=by
 obtain ⟨af,order,types,⟨rh,rp⟩⟩:=s;refine ev_go (P:=Tryz.prog) tt tt_ok 5000 17 [.tmp 4] Tryz.func174 rfl Tryz.ntmps174 rfl (nL rfl) (fun E9 w9 hn9 hm9=>?_);refine call_p vi (Lx.l7 h l hs) ax rfl ?_;exact (rfl:_=_)
def uG (s:Sch):List Wd:=s.types.map fun x=>x.1
def tL (s:Sch):List ByteArray:=au (uG s)
theorem HJ (s:Sch):(uG s).length=s.types.length:=by simp [uG]
theorem qd (s:Sch):(tL s).length=s.types.length:=by simp [tL,au,uG]
def pC (s:Sch) (ap:List Nat) (a b c e:DV):List DV:=[a,b,c,.pt (bK (tL s) ap) 0,e]
def BS (s:Sch) (t:Ty):Bool:=decide (t.h.ag=9->dw (tL s) t.h.name.s≠none)
def endI (s:Sch):Nat->Nat->Option Nat
 | 0,_=>none
 | k + 1,i=>
  match s.types[i]? with
  | none=>none
  | some x=>if x.2.h.ag=9 then endI s k ((dw (tL s) x.2.h.name.s).getD 0) else some i
theorem tI {s:Sch}:∀ {k i j:Nat},endI s k i=some j->j < s.types.length/\∀ x,s.types[j]? = some x->x.2.h.ag≠9
 | 0,i,j,h=>by cases h
 | k + 1,i,j,h=>by
  rw [endI] at h
  cases hx:s.types[i]? with
  | none=>rw [hx] at h;cases h
  | some x=>
   rw [hx] at h;simp only at h;split at h
   ·exact tI h
   ·rename_i hk;simp only [oI] at h;subst h;refine ⟨(gS hx).1,fun y hy=>?_⟩;rw [hx] at hy;simp only [oI] at hy;subst hy;exact hk
abbrev EN (B:DV) (n i e:Nat):St:=
 ⟨[(0,⟨[],B⟩),(1,⟨[],.v (.int .i64 i)⟩),(12,⟨[],.v (.int .i64 n)⟩),(13,⟨[],.v (.int .i64 e)⟩)],[],[]⟩
theorem vY (s:Sch) (lat:DV) (ap:List Nat) (a b c e0:DV) (m:Int) (hT:dY (tL s) ap) (gJ:ap.length<=1099511627776) (hl:s.types.length<=64) (hr:∀ x∈s.types,BS s x.2=true) (i:Nat) (hi:i < s.types.length) :
  EvP Tryz.prog 107 [.pt (bC s lat (.pt (pC s ap a b c e0) 0) m) 0,.v (.int .i64 i)] (.v (.int .i64 (oz (endI s (s.types.length + 1) i)))):=by
 have ic:=qd s;obtain ⟨af,order,types,⟨rh,rp⟩⟩:=s;simp only at hl hr hi ic;have hN:=fN types;have Ss:IntKind.i64.wrap ((((dNms types).length:Nat):Int) + 1)=((types.length + 1:Nat):Int):=by rw [hN,wrap64 (by omega) (by omega)];all_goals rfl
 refine ev_go (P:=Tryz.prog) tt tt_ok 5000 43 [.tmp 4] Tryz.func107 rfl Tryz.ntmps107 rfl (nL rfl) (fun E9 w9 hn9 hm9=>?_)
 refine aw (fun j st=>∃ e q:Nat,st=EN (.pt (bC ⟨af,order,types,.mk rh rp⟩ lat (.pt (pC ⟨af,order,types,.mk rh rp⟩ ap a b c e0) 0) m) 0) (types.length + 1) q e/\e<=types.length + 1/\q < types.length/\endI ⟨af,order,types,.mk rh rp⟩ (types.length + 1) i=endI ⟨af,order,types,.mk rh rp⟩ (types.length + 1 - e) q/\j=types.length + 1 - e) (types.length + 1)
  (EN (.pt (bC ⟨af,order,types,.mk rh rp⟩ lat (.pt (pC ⟨af,order,types,.mk rh rp⟩ ap a b c e0) 0) m) 0) (types.length + 1) i 0) (weak_mk ⟨_,rfl⟩ wA rfl rfl rfl (by repeat' (first | exact trivial | exact ai rfl | exact aj Ss | refine ⟨⟨_,rfl,?_⟩,?_⟩))) ⟨0,i,rfl,by omega,hi,rfl,by omega⟩ ?_
 rintro j st ⟨e,q,rfl,he,hq,bd,rfl⟩;refine br (fun hL=>?_) (fun hL=>?_)
 ·have aq:e < types.length + 1:=by have:=hL;simp at this;omega
  obtain ⟨x,hx⟩:∃ x,types[q]? = some x:=⟨_,gE hq⟩;have Ar:=hr x (mG hx);obtain ⟨xw,⟨xh,xp⟩⟩:=x
  have aX:endI ⟨af,order,types,.mk rh rp⟩ (types.length + 1 - e) q=if xh.ag=9 then endI ⟨af,order,types,.mk rh rp⟩ (types.length + 1 - (e + 1)) ((dw (tL ⟨af,order,types,.mk rh rp⟩) xh.name.s).getD 0) else some q:=by
   rw [show types.length + 1 - e=(types.length + 1 - (e + 1)) + 1 by omega,endI];simp only [hx];rfl
  rw [aX] at bd;refine ⟨_,⟨by omega,dNms_get hx⟩,?_⟩;refine br (fun h9=>?_) (fun h9=>?_)
  ·have h9:¬ xh.ag=9:=by simpa using h9
   rw [if_neg h9] at bd;rw [bd];exact (rfl:_=_)
  have h9:xh.ag=9:=by simpa using h9
  rw [if_pos h9] at bd
  have aM:dw (tL ⟨af,order,types,.mk rh rp⟩) xh.name.s≠none:=by
   have:=of_decide_eq_true Ar;exact this h9
  obtain ⟨k,hk⟩:=Option.ne_none_iff_exists'.1 aM;have mn:=(eu hk).1;rw [hk] at bd;have hf:=ey (tL ⟨af,order,types,.mk rh rp⟩) ap xh.name.s hT gJ;rw [hk] at hf;refine aR (fun _=>false) mo (by decide +kernel) ?_;refine cr pg (hf) ax rfl ?_;exact ⟨EN (.pt (bC ⟨af,order,types,.mk rh rp⟩ lat (.pt (pC ⟨af,order,types,.mk rh rp⟩ ap a b c e0) 0) m) 0) (types.length + 1) k (e + 1),(weak_mk ⟨_,rfl⟩ wA rfl rfl rfl (wNB aq)),types.length + 1 - (e + 1),by omega,e + 1,k,rfl,by omega,by omega,bd,rfl⟩
 ·have bJ:e=types.length + 1:=by have:=hL;simp at this;omega
  subst bJ;rw [Nat.sub_self] at bd;rw [bd];exact (rfl:_=_)
def loopF (s:Sch):Ft:=
 match bH (fun i=>(endI s (s.types.length + 1) i).isNone) s.types.length with
 | none=>(0,0)
 | some i=>(11,Ml (uG s) i)
abbrev tJ (B:DV) (s:Sch) (e:Nat):St:=
 ⟨[(0,⟨[],B⟩),(2,⟨[],.loc 0 0⟩),(9,⟨[],.sl 11 (dNms s.types) none⟩),(10,⟨[],.v (.int .i64 (dNms s.types).length)⟩),(11,⟨[],.v (.int .i64 e)⟩)],[[.v (.int .i64 0),.v (.int .i64 0)]],[]⟩
theorem yF (s:Sch) (lat:DV) (ap:List Nat) (a b c e0:DV) (m:Int) (hT:dY (tL s) ap) (gJ:ap.length<=1099511627776) (hl:s.types.length<=64) (hr:∀ x∈s.types,BS s x.2=true) :
  EvP Tryz.prog 48 [.pt (bC s lat (.pt (pC s ap a b c e0) 0) m) 0] (loopF s).d:=by
 have gV:=vY s lat ap a b c e0 m hT gJ hl hr;have hN:=fN s.types;have hF:=loopF.eq_1 s;obtain ⟨af,order,types,⟨rh,rp⟩⟩:=s;simp only at hl hr gV hN;refine ev_go (P:=Tryz.prog) tt tt_ok 5000 26 [.cell 2 54] Tryz.func48 rfl Tryz.ntmps48 rfl (nL rfl) (fun E9 w9 hn9 hm9=>?_)
 refine aw (fun j st=>∃ e:Nat,st=tJ (.pt (bC ⟨af,order,types,.mk rh rp⟩ lat (.pt (pC ⟨af,order,types,.mk rh rp⟩ ap a b c e0) 0) m) 0) ⟨af,order,types,.mk rh rp⟩ e/\e<=types.length/\(∀ i,i < e->(endI ⟨af,order,types,.mk rh rp⟩ (types.length + 1) i).isNone=false)/\j=types.length - e) types.length
  (tJ (.pt (bC ⟨af,order,types,.mk rh rp⟩ lat (.pt (pC ⟨af,order,types,.mk rh rp⟩ ap a b c e0) 0) m) 0) ⟨af,order,types,.mk rh rp⟩ 0) (weak_mk ⟨_,rfl⟩ wA rfl rfl rfl wB) ⟨0,rfl,by omega,fun _ h=>by omega,by omega⟩ ?_
 rintro j st ⟨e,rfl,he,mq,rfl⟩;refine br (fun hL=>?_) (fun hL=>?_)
 ·have aq:e < types.length:=by have:=hL;simp [hN] at this;exact this
  obtain ⟨x,hx⟩:∃ x,types[e]? = some x:=⟨_,gE aq⟩;have Su:(uG ⟨af,order,types,.mk rh rp⟩)[e]? = some x.1:=by simp [uG,hx]
  have h1:=gV e aq;obtain ⟨xw,⟨xh,xp⟩⟩:=x;refine ⟨_,⟨by omega,dNms_get hx⟩,?_⟩;refine call_p en107 (h1) ax rfl ?_
  cases hE:endI ⟨af,order,types,.mk rh rp⟩ (types.length + 1) e with
  | none=>
   have xE:=eK (p:=fun i=>(endI ⟨af,order,types,.mk rh rp⟩ (types.length + 1) i).isNone) aq (by simp only [hE];rfl) mq;simp only [xE] at hF;rw [ox Su] at hF;refine ⟨_,?_,rfl⟩;rw [hF];exact ax
  | some k=>
   refine ⟨tJ (.pt (bC ⟨af,order,types,.mk rh rp⟩ lat (.pt (pC ⟨af,order,types,.mk rh rp⟩ ap a b c e0) 0) m) 0) ⟨af,order,types,.mk rh rp⟩ (e + 1),(weak_mk ⟨_,rfl⟩ wA rfl rfl rfl (wNB aq)),types.length - (e + 1),by omega,e + 1,rfl,by omega,fun i hi=>?_,rfl⟩;rcases Nat.lt_succ_iff_lt_or_eq.1 hi with hi | rfl
   ·exact mq i hi
   ·rw [hE];all_goals rfl
 ·have bJ:e=types.length:=by have:=hL;simp [hN] at this;omega
  subst bJ;simp only [gq mq] at hF;refine ⟨_,?_,rfl⟩;rw [hF];exact ax
mutual
def knT (X:Lx) (L:List ByteArray):Ty->Ft
 | .mk h ps=>if h.ag=9/\dw L h.name.s=none then (15,h.name.a) else knP X L ps
def knP (X:Lx) (L:List ByteArray):Pts->Ft
 | .nil=>(0,0)
 | .cons p t r=>if (X.bad p.label).1≠0 then X.bad p.label else if (X.bad p.cl).1≠0 then X.bad p.cl else if p.bare then knP X L r else if (knT X L t).1≠0 then knT X L t else knP X L r
end
abbrev vZ (B:DV) (t:Ty) (ps:Pts) (e:Nat):St:=
 ⟨[(0,⟨[],B⟩),(3,⟨[],.loc 0 0⟩),(4,⟨[],.loc 1 0⟩),(38,⟨[],.sl 18 (dV ps) none⟩),(39,⟨[],.v (.int .i64 (dV ps).length)⟩),(40,⟨[],.v (.int .i64 e)⟩)],[gn t,[.v (.int .i64 0),.v (.int .i64 0)]],[]⟩
abbrev nH (B:DV) (t:Ty) (ps:Pts) (p:Ph) (u:Ty) (e q:Nat):St:=
 ⟨[(0,⟨[],B⟩),(3,⟨[],.loc 0 0⟩),(4,⟨[],.loc 1 0⟩),(38,⟨[],.sl 18 (dV ps) none⟩),(39,⟨[],.v (.int .i64 (dV ps).length)⟩),(40,⟨[],.v (.int .i64 e)⟩),(8,⟨[],.loc 2 0⟩),(49,⟨[],.sl 1 [[.sl 2 (bY p.label) none],[.sl 2 (bY p.cl) none]] none⟩),(50,⟨[],.v (.int .i64 (2:Nat))⟩),(51,⟨[],.v (.int .i64 q)⟩)],[gn t,[.v (.int .i64 0),.v (.int .i64 0)],DN p (gn u)],[]⟩
theorem qf {X:Lx} (hX:X.OK) (s:Sch) (ap:List Nat) (a b c e0:DV) (m:Int) (hT:dY (tL s) ap) (gJ:ap.length<=1099511627776):∀ (k:Nat) (t:Ty),t.wt<=k->t.wt<=1099511627776 ->
  EvP Tryz.prog 47 [.pt (bC s X.pd (.pt (pC s ap a b c e0) 0) m) 0,.agg (gn t)] (knT X (tL s) t).d
 | 0,t,hn,_=>by have:=t.eX;omega
 | k + 1,.mk h ps,hn,cM=>by
  have ih:=qf hX s ap a b c e0 m hT gJ k;simp only [Ty.wt,Hd.wt] at hn cM;have lm:=ps.jq;obtain ⟨af,order,types,⟨rh,rp⟩⟩:=s;have hf:=ey (tL ⟨af,order,types,.mk rh rp⟩) ap h.name.s hT gJ;have hS:knT X (tL ⟨af,order,types,.mk rh rp⟩) (.mk h ps)=if h.ag=9/\dw (tL ⟨af,order,types,.mk rh rp⟩) h.name.s=none then (15,h.name.a) else knP X (tL ⟨af,order,types,.mk rh rp⟩) ps:=by rw [knT]
  refine ev_go (P:=Tryz.prog) tt tt_ok 5000 81 [.cell 4 54] Tryz.func47 rfl Tryz.ntmps47 rfl (nL rfl) (fun E9 w9 hn9 hm9=>?_);generalize knT X (tL ⟨af,order,types,.mk rh rp⟩) (.mk h ps)=F at hS ⊢;have Uw:knP X (tL ⟨af,order,types,.mk rh rp⟩) ps=knP X (tL ⟨af,order,types,.mk rh rp⟩) (ps.drop 0):=by rw [Pts.drop]
  refine br (fun h9=>?_) (fun h9=>?_)
  ·have h9:h.ag=9:=by simpa using h9
   refine aR (fun _=>false) mo (by decide +kernel) ?_
   cases hx:dw (tL ⟨af,order,types,.mk rh rp⟩) h.name.s with
   | none=>
    rw [if_pos ⟨h9,hx⟩] at hS;rw [hx] at hf;refine cr pg (hf) ax rfl ?_;refine ⟨_,?_,rfl⟩;rw [hS];exact ax
   | some i=>
    rw [if_neg (by rw [hx];simp),Uw] at hS;rw [hx] at hf;refine cr pg (hf) ax rfl ?_;refine aw (fun j st=>∃ e:Nat,st=vZ (.pt (bC ⟨af,order,types,.mk rh rp⟩ X.pd (.pt (pC ⟨af,order,types,.mk rh rp⟩ ap a b c e0) 0) m) 0) (.mk h ps) ps e/\e<=ps.len/\F=knP X (tL ⟨af,order,types,.mk rh rp⟩) (ps.drop e)/\j=ps.len - e) ps.len (vZ (.pt (bC ⟨af,order,types,.mk rh rp⟩ X.pd (.pt (pC ⟨af,order,types,.mk rh rp⟩ ap a b c e0) 0) m) 0) (.mk h ps) ps 0) (weak_mk ⟨_,rfl⟩ wA rfl rfl rfl wB) ⟨0,rfl,by omega,hS,by omega⟩ ?_;rintro j st ⟨e,rfl,he,bd,rfl⟩;refine br (fun hL=>?_) (fun hL=>?_)
    ·have aq:e < ps.len:=by simpa [aS] using hL
     obtain ⟨p,t,hx⟩:=Pts.gy aq;have GB:=Pts.iy (mG hx);rw [Pts.drop_cons hx] at bd;simp only [knP] at bd;have Jp:wdsWt p.label + wdsWt p.cl<=p.wt:=by simp only [Ph.wt];omega
     obtain ⟨u,us⟩:=t;refine ⟨_,⟨by omega,dj hx⟩,?_⟩;refine aw (fun j st=>∃ q:Nat,st=nH (.pt (bC ⟨af,order,types,.mk rh rp⟩ X.pd (.pt (pC ⟨af,order,types,.mk rh rp⟩ ap a b c e0) 0) m) 0) (.mk h ps) ps p (.mk u us) e q/\q<=2/\(1<=q->(X.bad p.label).1=0)/\(2<=q->(X.bad p.cl).1=0)/\j=2 - q) 2 (nH (.pt (bC ⟨af,order,types,.mk rh rp⟩ X.pd (.pt (pC ⟨af,order,types,.mk rh rp⟩ ap a b c e0) 0) m) 0) (.mk h ps) ps p (.mk u us) e 0) (weak_mk ⟨_,rfl⟩ wA rfl rfl rfl wB) ⟨0,rfl,by omega,fun h=>by omega,fun h=>by omega,by omega⟩ ?_;rintro j st ⟨q,rfl,hq,O7,il,rfl⟩;refine br (fun EE=>?_) (fun EE=>?_)
     ·have A1:q=0∨q=1:=by have:=EE;simp at this;omega
      rcases A1 with rfl | rfl
      ·refine ⟨_,⟨by omega,rfl⟩,?_⟩;refine call_p vi (Lx.l7 hX p.label (by omega)) ax rfl ?_;refine br (fun hb=>?_) (fun hb=>?_)
       ·have hb:(X.bad p.label).1≠0:=by simpa using hb
        rw [if_pos hb] at bd;refine ⟨_,?_,rfl⟩;rw [bd];exact ax
       ·have hb:(X.bad p.label).1=0:=by simpa using hb
        exact ⟨nH (.pt (bC ⟨af,order,types,.mk rh rp⟩ X.pd (.pt (pC ⟨af,order,types,.mk rh rp⟩ ap a b c e0) 0) m) 0) (.mk h ps) ps p (.mk u us) e 1,(weak_mk ⟨_,rfl⟩ wA rfl rfl rfl (by repeat' (first | exact trivial | exact ai rfl | exact aj (ej (e:=0) (n:=2) (by omega) (by omega)) | refine ⟨⟨_,rfl,?_⟩,?_⟩))),1,by omega,1,rfl,by omega,fun _=>hb,fun h=>by omega,rfl⟩
      ·have eG:=O7 (by omega);refine ⟨_,⟨by omega,rfl⟩,?_⟩;refine call_p vi (Lx.l7 hX p.cl (by omega)) ax rfl ?_;refine br (fun hb=>?_) (fun hb=>?_)
       ·have hb:(X.bad p.cl).1≠0:=by simpa using hb
        rw [if_neg (by rw [eG];simp),if_pos hb] at bd;refine ⟨_,?_,rfl⟩;rw [bd];exact ax
       ·have hb:(X.bad p.cl).1=0:=by simpa using hb
        exact ⟨nH (.pt (bC ⟨af,order,types,.mk rh rp⟩ X.pd (.pt (pC ⟨af,order,types,.mk rh rp⟩ ap a b c e0) 0) m) 0) (.mk h ps) ps p (.mk u us) e 2,(weak_mk ⟨_,rfl⟩ wA rfl rfl rfl (by repeat' (first | exact trivial | exact ai rfl | exact aj (ej (e:=1) (n:=2) (by omega) (by omega)) | refine ⟨⟨_,rfl,?_⟩,?_⟩))),0,by omega,2,rfl,by omega,fun _=>eG,fun _=>hb,rfl⟩
     ·have A1:q=2:=by have:=EE;simp at this;omega
      subst A1;have eG:=O7 (by omega);have fD:=il (by omega);rw [if_neg (by rw [eG];simp),if_neg (by rw [fD];simp)] at bd;refine br (fun hB=>?_) (fun hB=>?_)
      ·have hB:p.bare=true:=hB;rw [if_pos hB] at bd;exact ⟨vZ (.pt (bC ⟨af,order,types,.mk rh rp⟩ X.pd (.pt (pC ⟨af,order,types,.mk rh rp⟩ ap a b c e0) 0) m) 0) (.mk h ps) ps (e + 1),(weak_mk ⟨_,rfl⟩ wA rfl rfl rfl (wNB aq)),ps.len - (e + 1),by omega,e + 1,rfl,by omega,bd,rfl⟩
      ·have hB:p.bare=false:=hB;rw [if_neg (by rw [hB];decide)] at bd;refine call_p KG (ih (.mk u us) (by omega) (by omega)) ax rfl ?_;refine br (fun hb=>?_) (fun hb=>?_)
       ·have hb:(knT X (tL ⟨af,order,types,.mk rh rp⟩) (.mk u us)).1≠0:=by simpa using hb
        rw [if_pos hb] at bd;refine ⟨_,?_,rfl⟩;rw [bd];exact ax
       ·have hb:(knT X (tL ⟨af,order,types,.mk rh rp⟩) (.mk u us)).1=0:=by simpa using hb
        rw [if_neg (by rw [hb];simp)] at bd;exact ⟨vZ (.pt (bC ⟨af,order,types,.mk rh rp⟩ X.pd (.pt (pC ⟨af,order,types,.mk rh rp⟩ ap a b c e0) 0) m) 0) (.mk h ps) ps (e + 1),(weak_mk ⟨_,rfl⟩ wA rfl rfl rfl (wNB aq)),ps.len - (e + 1),by omega,e + 1,rfl,by omega,bd,rfl⟩
    ·have bJ:e=ps.len:=by simp [aS] at hL;omega
     rw [bJ,Pts.dJ] at bd;simp only [knP] at bd;refine ⟨_,?_,rfl⟩;rw [bd];exact ax
  ·have h9:¬ h.ag=9:=by simpa using h9
   rw [if_neg (fun hc=>h9 hc.1),Uw] at hS;refine aw (fun j st=>∃ e:Nat,st=vZ (.pt (bC ⟨af,order,types,.mk rh rp⟩ X.pd (.pt (pC ⟨af,order,types,.mk rh rp⟩ ap a b c e0) 0) m) 0) (.mk h ps) ps e/\e<=ps.len/\F=knP X (tL ⟨af,order,types,.mk rh rp⟩) (ps.drop e)/\j=ps.len - e) ps.len (vZ (.pt (bC ⟨af,order,types,.mk rh rp⟩ X.pd (.pt (pC ⟨af,order,types,.mk rh rp⟩ ap a b c e0) 0) m) 0) (.mk h ps) ps 0) (weak_mk ⟨_,rfl⟩ wA rfl rfl rfl wB) ⟨0,rfl,by omega,hS,by omega⟩ ?_;rintro j st ⟨e,rfl,he,bd,rfl⟩;refine br (fun hL=>?_) (fun hL=>?_)
   ·have aq:e < ps.len:=by simpa [aS] using hL
    obtain ⟨p,t,hx⟩:=Pts.gy aq;have GB:=Pts.iy (mG hx);rw [Pts.drop_cons hx] at bd;simp only [knP] at bd;have Jp:wdsWt p.label + wdsWt p.cl<=p.wt:=by simp only [Ph.wt];omega
    obtain ⟨u,us⟩:=t;refine ⟨_,⟨by omega,dj hx⟩,?_⟩;refine aw (fun j st=>∃ q:Nat,st=nH (.pt (bC ⟨af,order,types,.mk rh rp⟩ X.pd (.pt (pC ⟨af,order,types,.mk rh rp⟩ ap a b c e0) 0) m) 0) (.mk h ps) ps p (.mk u us) e q/\q<=2/\(1<=q->(X.bad p.label).1=0)/\(2<=q->(X.bad p.cl).1=0)/\j=2 - q) 2 (nH (.pt (bC ⟨af,order,types,.mk rh rp⟩ X.pd (.pt (pC ⟨af,order,types,.mk rh rp⟩ ap a b c e0) 0) m) 0) (.mk h ps) ps p (.mk u us) e 0) (weak_mk ⟨_,rfl⟩ wA rfl rfl rfl wB) ⟨0,rfl,by omega,fun h=>by omega,fun h=>by omega,by omega⟩ ?_;rintro j st ⟨q,rfl,hq,O7,il,rfl⟩;refine br (fun EE=>?_) (fun EE=>?_)
    ·have A1:q=0∨q=1:=by have:=EE;simp at this;omega
     rcases A1 with rfl | rfl
     ·refine ⟨_,⟨by omega,rfl⟩,?_⟩;refine call_p vi (Lx.l7 hX p.label (by omega)) ax rfl ?_;refine br (fun hb=>?_) (fun hb=>?_)
      ·have hb:(X.bad p.label).1≠0:=by simpa using hb
       rw [if_pos hb] at bd;refine ⟨_,?_,rfl⟩;rw [bd];exact ax
      ·have hb:(X.bad p.label).1=0:=by simpa using hb
       exact ⟨nH (.pt (bC ⟨af,order,types,.mk rh rp⟩ X.pd (.pt (pC ⟨af,order,types,.mk rh rp⟩ ap a b c e0) 0) m) 0) (.mk h ps) ps p (.mk u us) e 1,(weak_mk ⟨_,rfl⟩ wA rfl rfl rfl (by repeat' (first | exact trivial | exact ai rfl | exact aj (ej (e:=0) (n:=2) (by omega) (by omega)) | refine ⟨⟨_,rfl,?_⟩,?_⟩))),1,by omega,1,rfl,by omega,fun _=>hb,fun h=>by omega,rfl⟩
     ·have eG:=O7 (by omega);refine ⟨_,⟨by omega,rfl⟩,?_⟩;refine call_p vi (Lx.l7 hX p.cl (by omega)) ax rfl ?_;refine br (fun hb=>?_) (fun hb=>?_)
      ·have hb:(X.bad p.cl).1≠0:=by simpa using hb
       rw [if_neg (by rw [eG];simp),if_pos hb] at bd;refine ⟨_,?_,rfl⟩;rw [bd];exact ax
      ·have hb:(X.bad p.cl).1=0:=by simpa using hb
       exact ⟨nH (.pt (bC ⟨af,order,types,.mk rh rp⟩ X.pd (.pt (pC ⟨af,order,types,.mk rh rp⟩ ap a b c e0) 0) m) 0) (.mk h ps) ps p (.mk u us) e 2,(weak_mk ⟨_,rfl⟩ wA rfl rfl rfl (by repeat' (first | exact trivial | exact ai rfl | exact aj (ej (e:=1) (n:=2) (by omega) (by omega)) | refine ⟨⟨_,rfl,?_⟩,?_⟩))),0,by omega,2,rfl,by omega,fun _=>eG,fun _=>hb,rfl⟩
    ·have A1:q=2:=by have:=EE;simp at this;omega
     subst A1;have eG:=O7 (by omega);have fD:=il (by omega);rw [if_neg (by rw [eG];simp),if_neg (by rw [fD];simp)] at bd;refine br (fun hB=>?_) (fun hB=>?_)
     ·have hB:p.bare=true:=hB;rw [if_pos hB] at bd;exact ⟨vZ (.pt (bC ⟨af,order,types,.mk rh rp⟩ X.pd (.pt (pC ⟨af,order,types,.mk rh rp⟩ ap a b c e0) 0) m) 0) (.mk h ps) ps (e + 1),(weak_mk ⟨_,rfl⟩ wA rfl rfl rfl (wNB aq)),ps.len - (e + 1),by omega,e + 1,rfl,by omega,bd,rfl⟩
     ·have hB:p.bare=false:=hB;rw [if_neg (by rw [hB];decide)] at bd;refine call_p KG (ih (.mk u us) (by omega) (by omega)) ax rfl ?_;refine br (fun hb=>?_) (fun hb=>?_)
      ·have hb:(knT X (tL ⟨af,order,types,.mk rh rp⟩) (.mk u us)).1≠0:=by simpa using hb
       rw [if_pos hb] at bd;refine ⟨_,?_,rfl⟩;rw [bd];exact ax
      ·have hb:(knT X (tL ⟨af,order,types,.mk rh rp⟩) (.mk u us)).1=0:=by simpa using hb
       rw [if_neg (by rw [hb];simp)] at bd;exact ⟨vZ (.pt (bC ⟨af,order,types,.mk rh rp⟩ X.pd (.pt (pC ⟨af,order,types,.mk rh rp⟩ ap a b c e0) 0) m) 0) (.mk h ps) ps (e + 1),(weak_mk ⟨_,rfl⟩ wA rfl rfl rfl (wNB aq)),ps.len - (e + 1),by omega,e + 1,rfl,by omega,bd,rfl⟩
   ·have bJ:e=ps.len:=by simp [aS] at hL;omega
    rw [bJ,Pts.dJ] at bd;simp only [knP] at bd;refine ⟨_,?_,rfl⟩;rw [bd];exact ax
def eaL (F:Ty->Ft) (z:Ft):List (Wd × Ty)->Ft
 | []=>z
 | x :: r=>if (F x.2).1≠0 then F x.2 else eaL F z r
theorem EO {F:Ty->Ft} {z:Ft} {l:List (Wd × Ty)} {e:Nat} {x:Wd × Ty} (h:l[e]? = some x):eaL F z (l.drop e)=if (F x.2).1≠0 then F x.2 else eaL F z (l.drop (e + 1)):=by
 rw [drop_cons h,eaL]
abbrev yG (B:DV) (fn:DV) (types:List (Wd × Ty)) (e:Nat):St:=
 ⟨[(0,⟨[],B⟩),(1,⟨[],fn⟩),(4,⟨[],.loc 0 0⟩),(12,⟨[],.sl 11 (dNms types) none⟩),(13,⟨[],.v (.int .i64 (dNms types).length)⟩),(14,⟨[],.v (.int .i64 e)⟩)],[[.v (.int .i64 0),.v (.int .i64 0)]],[]⟩
theorem BT (s:Sch) (lat:DV) (pc:List DV) (m:Int) (hl:s.types.length<=1099511627776) (g:Nat) (hg:Enters Tryz.prog g) (F:Ty->Ft)
  (hF:∀ t,(t=s.root∨∃ x∈s.types,t=x.2)->EvP Tryz.prog g [.pt (bC s lat (.pt pc 0) m) 0,.agg (gn t)] (F t).d) :
  EvP Tryz.prog 45 [.pt (bC s lat (.pt pc 0) m) 0,.fn g [.pt (bC s lat (.pt pc 0) m) 0] []] (eaL F (F s.root) s.types).d:=by
 have hN:=fN s.types;obtain ⟨af,order,types,⟨rh,rp⟩⟩:=s;simp only at hl hF hN;have nI:=hF (.mk rh rp) (.inl rfl);have Lh:∀ x∈types,_:=fun x hx=>hF x.2 (.inr ⟨x,hx,rfl⟩);clear hF;refine ev_go (P:=Tryz.prog) tt tt_ok 5000 34 [.cell 4 54] Tryz.func45 rfl Tryz.ntmps45 rfl (nL rfl) (fun E9 w9 hn9 hm9=>?_);generalize hG:eaL F (F (.mk rh rp)) types=G;have Sv:G=eaL F (F (.mk rh rp)) (types.drop 0):=by rw [List.drop_zero,hG]
 refine aw (fun j st=>∃ e:Nat,st=yG (.pt (bC ⟨af,order,types,.mk rh rp⟩ lat (.pt pc 0) m) 0) (.fn g [.pt (bC ⟨af,order,types,.mk rh rp⟩ lat (.pt pc 0) m) 0] []) types e/\e<=types.length/\G=eaL F (F (.mk rh rp)) (types.drop e)/\j=types.length - e) types.length
  (yG (.pt (bC ⟨af,order,types,.mk rh rp⟩ lat (.pt pc 0) m) 0) (.fn g [.pt (bC ⟨af,order,types,.mk rh rp⟩ lat (.pt pc 0) m) 0] []) types 0) (weak_mk ⟨_,rfl⟩ wA rfl rfl rfl wB) ⟨0,rfl,by omega,Sv,by omega⟩ ?_
 rintro j st ⟨e,rfl,he,bd,rfl⟩;refine br (fun hL=>?_) (fun hL=>?_)
 ·have aq:e < types.length:=by have:=hL;simp [hN] at this;exact this
  obtain ⟨x,hx⟩:∃ x,types[e]? = some x:=⟨_,gE aq⟩;have hp:=Lh x (mG hx);rw [EO hx] at bd;obtain ⟨xw,⟨xh,xp⟩⟩:=x;refine ⟨_,⟨by omega,dNms_get hx⟩,?_⟩;refine call_p hg hp ax rfl ?_;refine br (fun hf=>?_) (fun hf=>?_)
  ·have hf:(F (.mk xh xp)).1≠0:=by simpa using hf
   rw [if_pos hf] at bd;refine ⟨_,?_,rfl⟩;rw [bd];exact ax
  ·have hf:(F (.mk xh xp)).1=0:=by simpa using hf
   rw [if_neg (by rw [hf];simp)] at bd;exact ⟨yG (.pt (bC ⟨af,order,types,.mk rh rp⟩ lat (.pt pc 0) m) 0) (.fn g [.pt (bC ⟨af,order,types,.mk rh rp⟩ lat (.pt pc 0) m) 0] []) types (e + 1),(weak_mk ⟨_,rfl⟩ wA rfl rfl rfl (wNB aq)),types.length - (e + 1),by omega,e + 1,rfl,by omega,bd,rfl⟩
 ·have bJ:e=types.length:=by have:=hL;simp [hN] at this;omega
  subst bJ;rw [List.drop_length,eaL] at bd;refine call_p hg nI ax rfl ?_;refine ⟨_,?_,rfl⟩;rw [bd];exact ax
def bu (t:Ty) (m:Int):Ft × Int:=if (wrong t 1 0).1.1≠0 then ((wrong t 1 0).1,m) else if 512 < m + t.cnt then ((8,t.h.aC),m + t.cnt) else ((0,0),m + t.cnt)
def EP (s:Sch) (lat:DV) (pc:List DV) (x:Ft × Int) (r:DV) (os:List (List DV)) (_:List TkE):Prop:=r=x.1.d/\os=[bC s lat (.loc 1 0) x.2,pc]
theorem v7 (s:Sch) (lc pc:List DV) (m:Int) (kz:0<=m) (fm:m<=1099511627776) (t:Ty) (cM:t.wt<=1099511627776) (Sw:∀ bx N n0 m0,CcL bx N n0 m0 pc pc) :
  Ev Tryz.prog 46 [.loc 0 0,.agg (gn t)] [bC s (.pt lc 0) (.loc 1 0) m,pc] [] (EP s (.pt lc 0) pc (bu t m)):=by
 have hk:=vX t cM;have hc:=qa t.wt t (Nat.le_refl _) cM;have CL:=t.eo;have hF:=bu.eq_1 t m;obtain ⟨af,order,types,⟨rh,rp⟩⟩:=s;obtain ⟨h,ps⟩:=t;generalize bu (.mk h ps) m=R at hF ⊢;refine ev_go (P:=Tryz.prog) tt tt_ok 5000 30 [.cell 4 54] Tryz.func46 rfl Tryz.ntmps46 rfl (nL rfl) (fun E9 w9 hn9 hm9=>?_);refine call_p Nx (hk) ax rfl ?_;refine br (fun hf=>?_) (fun hf=>?_)
 ·have hf:(wrong (.mk h ps) 1 0).1.1≠0:=by simpa using hf
  rw [if_pos hf] at hF;subst hF;exact ⟨Ft.d _,[bC ⟨af,order,types,.mk rh rp⟩ (.pt lc 0) (.loc 1 0) m,pc],ax,(by repeat' (first | exact rfl | exact trivial | exact Or.inr (Or.inl ⟨_,rfl⟩) | exact Or.inr ⟨_,rfl⟩ | exact Or.inl ⟨rfl,rfl⟩ | exact Or.inl rfl | refine Or.inr ⟨_,_,rfl,Nat.zero_le _,rfl,?_⟩ | refine ⟨_,_,rfl,?_,?_⟩ | refine ⟨_,rfl,?_⟩ | exact Sw _ _ _ _ | exact ⟨nL rfl,rfl⟩ | exact congrArg (fun z=>DV.v (.int .i64 z)) hw | refine Or.inr (Or.inr (Or.inr ⟨_,_,rfl,?_⟩)) | exact Or.inl rfl | refine Or.inr ?_)),rfl,rfl⟩
 have hf:(wrong (.mk h ps) 1 0).1.1=0:=by simpa using hf
 rw [if_neg (by rw [hf];simp)] at hF;have hw:IntKind.i64.wrap (m + ((Ty.mk h ps).cnt:Int))=m + ((Ty.mk h ps).cnt:Int):=wrap64 (by omega) (by omega);refine aZ mo (by decide +kernel) ?_;refine cr IM (hc) ax rfl ?_;refine br (fun hg=>?_) (fun hg=>?_)
 ·have hg:512 < m + ((Ty.mk h ps).cnt:Int):=by simpa [hw] using hg
  rw [if_pos hg] at hF;subst hF;exact ⟨Ft.d _,[bC ⟨af,order,types,.mk rh rp⟩ (.pt lc 0) (.loc 1 0) (m + (Ty.mk h ps).cnt),pc],ax,(by repeat' (first | exact rfl | exact trivial | exact Or.inr (Or.inl ⟨_,rfl⟩) | exact Or.inr ⟨_,rfl⟩ | exact Or.inl ⟨rfl,rfl⟩ | exact Or.inl rfl | refine Or.inr ⟨_,_,rfl,Nat.zero_le _,rfl,?_⟩ | refine ⟨_,_,rfl,?_,?_⟩ | refine ⟨_,rfl,?_⟩ | exact Sw _ _ _ _ | exact ⟨nL rfl,rfl⟩ | exact congrArg (fun z=>DV.v (.int .i64 z)) hw | refine Or.inr (Or.inr (Or.inr ⟨_,_,rfl,?_⟩)) | exact Or.inl rfl | refine Or.inr ?_)),rfl,rfl⟩
 ·have hg:¬ 512 < m + ((Ty.mk h ps).cnt:Int):=by simpa [hw] using hg
  rw [if_neg hg] at hF;subst hF;exact ⟨Ft.d _,[bC ⟨af,order,types,.mk rh rp⟩ (.pt lc 0) (.loc 1 0) (m + (Ty.mk h ps).cnt),pc],ax,(by repeat' (first | exact rfl | exact trivial | exact Or.inr (Or.inl ⟨_,rfl⟩) | exact Or.inr ⟨_,rfl⟩ | exact Or.inl ⟨rfl,rfl⟩ | exact Or.inl rfl | refine Or.inr ⟨_,_,rfl,Nat.zero_le _,rfl,?_⟩ | refine ⟨_,_,rfl,?_,?_⟩ | refine ⟨_,rfl,?_⟩ | exact Sw _ _ _ _ | exact ⟨nL rfl,rfl⟩ | exact congrArg (fun z=>DV.v (.int .i64 z)) hw | refine Or.inr (Or.inr (Or.inr ⟨_,_,rfl,?_⟩)) | exact Or.inl rfl | refine Or.inr ?_)),rfl,rfl⟩
def eaR (z:Ty):List (Wd × Ty)->Int->Ft × Int
 | [],m=>bu z m
 | x :: r,m=>if (bu x.2 m).1.1≠0 then bu x.2 m else eaR z r (bu x.2 m).2
theorem EQ {z:Ty} {l:List (Wd × Ty)} {e:Nat} {m:Int} {x:Wd × Ty} (h:l[e]? = some x):eaR z (l.drop e) m=if (bu x.2 m).1.1≠0 then bu x.2 m else eaR z (l.drop (e + 1)) (bu x.2 m).2:=by
 rw [drop_cons h,eaR]
theorem j2 {t:Ty} {m:Int} (h:(bu t m).1.1=0):(bu t m).2=m + t.cnt/\(bu t m).2<=512/\(wrong t 1 0).1.1=0/\(bu t m).1=(0,0):=by
 unfold bu at h ⊢;split
 ·rename_i h1;rw [if_pos h1] at h;exact (h1 h).elim
 ·rename_i h1;rw [if_neg h1] at h;split
  ·rename_i h2;rw [if_pos h2] at h;cases h
  ·rename_i h2;refine ⟨rfl,by simpa using h2,by simpa using h1,rfl⟩
abbrev yH (s:Sch) (ap:List Nat) (lc:List DV):List DV:=pC s ap (.pt lc 0) (.v (.slice none 0 0)) (.v (.int .i64 0)) (.v (.slice none 0 0))
abbrev tK (s:Sch) (lc pc:List DV) (m:Int) (types:List (Wd × Ty)) (e:Nat):St:=
 ⟨[(0,⟨[],.loc 0 0⟩),(1,⟨[],.fn 46 [.loc 0 0] []⟩),(4,⟨[],.loc 2 0⟩),(12,⟨[],.sl 11 (dNms types) none⟩),(13,⟨[],.v (.int .i64 (dNms types).length)⟩),(14,⟨[],.v (.int .i64 e)⟩)],
  [bC s (.pt lc 0) (.loc 1 0) m,pc,[.v (.int .i64 0),.v (.int .i64 0)]],[]⟩
theorem yI (s:Sch) (lc:List DV) (ap:List Nat) (m:Int) (kz:0<=m) (fm:m<=512) (hl:s.types.length<=1099511627776) (cM:∀ t,(t=s.root∨∃ x∈s.types,t=x.2)->t.wt<=1099511627776) :
  Ev Tryz.prog 45 [.loc 0 0,.fn 46 [.loc 0 0] []] [bC s (.pt lc 0) (.loc 1 0) m,yH s ap lc] [] (EP s (.pt lc 0) (yH s ap lc) (eaR s.root s.types m)):=by
 have hN:=fN s.types;have hR:∀ (m':Int),0<=m' -> m' <= 512->∀ t,(t=s.root∨∃ x∈s.types,t=x.2)->_:=fun m' h0 h1 t ht=>v7 s lc (yH s ap lc) m' h0 (by omega) t (cM t ht) (fun bx N n0 m0=>ax);obtain ⟨af,order,types,⟨rh,rp⟩⟩:=s;simp only at hl hR hN cM;refine ev_go (P:=Tryz.prog) tt tt_ok 5000 34 [.cell 4 54] Tryz.func45 rfl Tryz.ntmps45 rfl (nL rfl) (fun E9 w9 hn9 hm9=>?_);generalize hG:eaR (.mk rh rp) types m=G;have Sv:G=eaR (.mk rh rp) (types.drop 0) m:=by rw [List.drop_zero,hG]
 refine aw (fun j st=>∃ (e:Nat) (m':Int),st=tK ⟨af,order,types,.mk rh rp⟩ lc (yH ⟨af,order,types,.mk rh rp⟩ ap lc) m' types e/\e<=types.length/\0<=m' /\ m' <= 512/\G=eaR (.mk rh rp) (types.drop e) m' /\ j=types.length - e) types.length
  (tK ⟨af,order,types,.mk rh rp⟩ lc (yH ⟨af,order,types,.mk rh rp⟩ ap lc) m types 0) (aH 3 rfl (by repeat' (first | exact rfl | exact ai rfl | exact rfl | refine ⟨_,_,rfl,?_,?_⟩)) rfl rfl rfl (by repeat' (first | exact trivial | exact ai rfl | exact rfl | refine ⟨⟨_,rfl,?_⟩,?_⟩))) ⟨0,m,rfl,by omega,kz,fm,Sv,by omega⟩ ?_
 rintro j st ⟨e,m',rfl,he,vT,EM,bd,rfl⟩;refine br (fun hL=>?_) (fun hL=>?_)
 ·have aq:e < types.length:=by have:=hL;simp [hN] at this;exact this
  obtain ⟨x,hx⟩:∃ x,types[e]? = some x:=⟨_,gE aq⟩;have hp:=hR m' vT EM x.2 (.inr ⟨x,mG hx,rfl⟩);rw [EQ hx] at bd;obtain ⟨xw,⟨xh,xp⟩⟩:=x;refine ⟨_,⟨by omega,dNms_get hx⟩,?_⟩;refine fj 2 0 Np rfl rfl rfl aL aL hp (fun r dT bi hΦ h1 h2=>?_);obtain ⟨rfl,rfl⟩:=hΦ;have h2:=List.eq_nil_of_length_eq_zero h2;subst h2;refine br (fun hf=>?_) (fun hf=>?_)
  ·have hf:(bu (.mk xh xp) m').1.1≠0:=by simpa using hf
   rw [if_pos hf] at bd;subst bd;exact ⟨Ft.d _,[bC ⟨af,order,types,.mk rh rp⟩ (.pt lc 0) (.loc 1 0) (bu (.mk xh xp) m').2,yH ⟨af,order,types,.mk rh rp⟩ ap lc],ax,aL,rfl,rfl⟩
  ·have hf:(bu (.mk xh xp) m').1.1=0:=by simpa using hf
   rw [if_neg (by rw [hf];simp)] at bd;obtain ⟨g1,g2,_,_⟩:=j2 hf;exact ⟨tK ⟨af,order,types,.mk rh rp⟩ lc (yH ⟨af,order,types,.mk rh rp⟩ ap lc) (bu (.mk xh xp) m').2 types (e + 1),(aH 3 rfl (G6 aq) rfl rfl rfl (wNB aq)),types.length - (e + 1),by omega,e + 1,_,rfl,by omega,by omega,g2,bd,rfl⟩
 ·have bJ:e=types.length:=by have:=hL;simp [hN] at this;omega
  subst bJ;rw [List.drop_length,eaR] at bd;refine fj 2 0 Np rfl rfl rfl aL aL (hR m' vT EM (.mk rh rp) (.inl rfl)) (fun r dT bi hΦ h1 h2=>?_);obtain ⟨rfl,rfl⟩:=hΦ;have h2:=List.eq_nil_of_length_eq_zero h2;subst h2;subst bd;exact ⟨Ft.d _,[bC ⟨af,order,types,.mk rh rp⟩ (.pt lc 0) (.loc 1 0) (bu (.mk rh rp) m').2,yH ⟨af,order,types,.mk rh rp⟩ ap lc],ax,aL,rfl,rfl⟩
def eA (s:Sch):Ft:=if 64 < s.types.length then (8,Ml (uG s) 64) else enumL (uG s) 0 (uG s)
def HK (s:Sch) (lc:List DV) (r:DV) (os:List (List DV)) (_:List TkE):Prop:=
 r=(eA s).d/\((eA s).1=0->∃ ap,dY (tL s) ap/\ap.length<=s.types.length/\os=[bC s (.pt lc 0) (.loc 1 0) 0,yH s ap lc])
abbrev yJ (s:Sch) (lc:List DV) (n e:Nat):St:=
 ⟨[(0,⟨[],.loc 0 0⟩),(2,⟨[],.loc 2 0⟩),(3,⟨[],.sl 1 (cD (au ((uG s).take e))) (some 0)⟩),(27,⟨[],.sl 11 (dNms s.types) none⟩),(28,⟨[],.v (.int .i64 (dNms s.types).length)⟩),(29,⟨[],.v (.int .i64 e)⟩)],
  [bC s (.pt lc 0) (.loc 1 0) 0,[.pt lc 0,.v (.slice none 0 0),.v (.int .i64 0),.v (.pointer none),.v (.slice none 0 0)],[.v (.int .i64 0),.v (.int .i64 0)]],[⟨n,9,1,none⟩]⟩
theorem tM (s:Sch) (lc:List DV) (hs:nmsWt s.types<=1099511627776) :
  Ev Tryz.prog 44 [.loc 0 0] [bC s (.pt lc 0) (.loc 1 0) 0,[.pt lc 0,.v (.slice none 0 0),.v (.int .i64 0),.v (.pointer none),.v (.slice none 0 0)]] [] (HK s lc):=by
 have hN:=fN s.types;have iX:=mQ s.types;have ic:=HJ s;have hF:=eA.eq_1 s;have oS:∀ {e:Nat} {x:Wd × Ty},s.types[e]? = some x->(uG s)[e]? = some x.1:=fun h=>by simp [uG,h]
 have cC:=pu (tL s) (by rw [qd];omega);have Ux:tL s=au (uG s):=rfl
 have hw:∀ x∈s.types,x.1.s.size<=1099511627776:=fun x hx=>by
  have:=gO hx;simp only [Wd.wt] at this;omega
 obtain ⟨af,order,types,⟨rh,rp⟩⟩:=s;simp only at hs hN iX ic oS hw hF;generalize hQ:uG ⟨af,order,types,.mk rh rp⟩=Q at ic hF oS Ux;refine ev_go (P:=Tryz.prog) tt tt_ok 5000 67 [.cell 2 54] Tryz.func44 rfl Tryz.ntmps44 rfl (nL rfl) (fun E9 w9 hn9 hm9=>?_);refine br (fun h=>?_) (fun h=>?_)
 ·have h:64 < types.length:=by simp [hN] at h;omega
  obtain ⟨x,hx⟩:∃ x,types[64]? = some x:=⟨_,gE h⟩;have Su:=oS hx;rw [if_pos h,ox Su] at hF;obtain ⟨xw,⟨xh,xp⟩⟩:=x;refine ⟨_,⟨by omega,dNms_get hx⟩,?_⟩;refine ⟨Ft.d (8,xw.a),[bC ⟨af,order,types,.mk rh rp⟩ (.pt lc 0) (.loc 1 0) 0,[.pt lc 0,.v (.slice none 0 0),.v (.int .i64 0),.v (.pointer none),.v (.slice none 0 0)]],ax,aL,by rw [hF],fun h0=>by rw [hF] at h0;simp at h0⟩
 have h:¬ 64 < types.length:=by simp [hN] at h;omega
 rw [if_neg h] at hF;refine aw (fun j st=>∃ e:Nat,st=yJ ⟨af,order,types,.mk rh rp⟩ lc e e/\e<=types.length/\(au (Q.take e)).Nodup/\enumL Q 0 Q=enumL Q e (Q.drop e)/\j=types.length - e) types.length (yJ ⟨af,order,types,.mk rh rp⟩ lc 0 0) (dI 3 ⟨0,9,1,none⟩ rfl rfl rfl (by repeat' (first | exact rfl | exact ai rfl | exact bp (Nat.le_refl _) rfl | exact bp (Nat.le_refl _) rfl | refine ⟨_,_,rfl,?_,?_⟩)) rfl rfl Gv) ⟨0,rfl,by omega,by simp [au],rfl,by omega⟩ ?_;rintro j st ⟨e,rfl,he,hnd,bd,rfl⟩;rw [bd] at hF;refine br (fun hL=>?_) (fun hL=>?_)
 ·have aq:e < types.length:=by have:=hL;simp [hN] at this;exact this
  obtain ⟨x,hx⟩:∃ x,types[e]? = some x:=⟨_,gE aq⟩;have R5:=hw x (mG hx);have hq:=oS hx;have iY:=gM hq;have aX:=pU hq;have qR:=iH hq hnd;have Mh:=kI (au (Q.take (e + 1))) (by simp [au];omega);rw [<- iY] at Mh;obtain ⟨xw,⟨xh,xp⟩⟩:=x;simp only at R5 hq iY aX qR Mh;refine ⟨_,⟨by omega,dNms_get hx⟩,?_⟩;rw [hQ];refine ⟨by simp [bl,au];omega,⟨by simp [bl,au,maxLen];omega,by simp [bl,au];omega⟩,?_⟩;refine call_p vg (fK xw.s (by omega)) ax rfl ?_;refine br (fun yK=>?_) (fun yK=>?_)
  ·have yK:a7 xw.s=false:=by simpa using yK
   have hf:aF Q e xw=9:=by simp [aF,yK]
   rw [aX,hf,if_pos (by decide)] at hF;refine ⟨Ft.d (9,xw.a),[bC ⟨af,order,types,.mk rh rp⟩ (.pt lc 0) (.loc 1 0) 0,[.pt lc 0,.v (.slice none 0 0),.v (.int .i64 0),.v (.pointer none),.v (.slice none 0 0)]],ax,aL,by rw [hF],fun h0=>by rw [hF] at h0;simp at h0⟩
  ·have yK:a7 xw.s=true:=by simpa using yK
   refine bP DC rfl Mh ax (fun r hr=>?_);obtain ⟨z,rfl,hz⟩:=hr;refine br (fun h2=>?_) (fun h2=>?_)
   ·have h2:0<=z:=by simpa using h2
    have hd:cz (Q.take e) xw.s=true:=by
     cases hd:cz (Q.take e) xw.s
     ·exact absurd (qR.2 hd) (hz.1 h2)
     ·rfl
    have hf:aF Q e xw=10:=by simp [aF,yK,hd]
    rw [aX,hf,if_pos (by decide)] at hF;refine ⟨Ft.d (10,xw.a),[bC ⟨af,order,types,.mk rh rp⟩ (.pt lc 0) (.loc 1 0) 0,[.pt lc 0,.v (.slice none 0 0),.v (.int .i64 0),.v (.pointer none),.v (.slice none 0 0)]],ax,aL,by rw [hF],fun h0=>by rw [hF] at h0;simp at h0⟩
   ·have h2:¬ 0<=z:=by simpa using h2
    have pa:(au (Q.take (e + 1))).Nodup:=Classical.byContradiction fun hn=>h2 (hz.2 hn);have hf:aF Q e xw=0:=by simp [aF,yK,qR.1 pa]
    rw [hf,if_neg (by simp)] at aX;have O8:cD (au (Q.take e)) ++ [[DV.v (.string xw.s)]]=cD (au ((uG ⟨af,order,types,.mk rh rp⟩).take (e + 1))):=by rw [hQ];exact iY
    refine ⟨yJ ⟨af,order,types,.mk rh rp⟩ lc (e + 1) (e + 1),(aH 3 rfl (Gu aq O8) rfl rfl rfl (A8 aq O8)),types.length - (e + 1),by omega,e + 1,rfl,by omega,pa,bd.trans aX,rfl⟩
 ·have bJ:e=types.length:=by have:=hL;simp [hN] at this;omega
  have h0:enumL Q e (Q.drop e)=(0,0):=by rw [bJ,<- ic,List.drop_length];all_goals rfl
  rw [h0] at hF;have ht:Q.take e=Q:=by rw [bJ,<- ic,List.take_length]
  have Sx:au ((uG ⟨af,order,types,.mk rh rp⟩).take e)=tL ⟨af,order,types,.mk rh rp⟩:=by rw [hQ,ht,Ux]
  rw [<- Sx] at cC;refine aZ mo (by decide +kernel) ?_;refine lG KI rfl cC ax (fun Ha hr=>?_);obtain ⟨ap,hT,gJ,rfl⟩:=hr;rw [Sx] at hT gJ;have P8:DV.pt (bK (au ((uG ⟨af,order,types,.mk rh rp⟩).take e)) ap) 0=DV.pt (bK (tL ⟨af,order,types,.mk rh rp⟩) ap) 0:=congrArg (fun L=>DV.pt (bK L ap) 0) Sx;rw [qd] at gJ;exact ⟨Ft.d (0,0),[bC ⟨af,order,types,.mk rh rp⟩ (.pt lc 0) (.loc 1 0) 0,yH ⟨af,order,types,.mk rh rp⟩ ap lc],ax,(by repeat' (first | exact rfl | exact trivial | exact Or.inr (Or.inl ⟨_,rfl⟩) | exact Or.inr ⟨_,rfl⟩ | exact Or.inl ⟨rfl,rfl⟩ | exact Or.inl rfl | refine Or.inr ⟨_,_,rfl,Nat.zero_le _,rfl,?_⟩ | refine ⟨_,_,rfl,?_,?_⟩ | refine ⟨_,rfl,?_⟩ | exact ⟨nL rfl,rfl⟩ | exact Or.inl P8 | refine Or.inr (Or.inr (Or.inr ⟨_,_,rfl,?_⟩)) | exact Or.inl rfl | refine Or.inr ?_)),by rw [hF],fun _=>⟨ap,hT,gJ,rfl⟩⟩
def firstA (s:Sch) (k:Nat):Nat:=((s.types.take k).map fun x=>x.2.nn).sum
theorem nJ {s:Sch} {k:Nat} {x:Wd × Ty} (h:s.types[k]? = some x):firstA s (k + 1)=firstA s k + x.2.nn:=by
 unfold firstA;rw [List.take_add_one,h];simp
theorem BU (s:Sch):∀ k,firstA s k<=nmsWt s.types:=by
 intro k;unfold firstA;generalize s.types=l
 induction l generalizing k with
 | nil=>simp
 | cons x r ih=>
  cases k with
  | zero=>simp
  | succ k=>
   have h1:=ih k;have h2:=x.2.eY;have h3:=x.2.eo;simp only [List.take_succ_cons,List.map_cons,List.sum_cons,nmsWt];omega
def namedN (s:Sch) (i:Nat):Nat:=firstA s ((endI s (s.types.length + 1) i).getD 0)
def namedL (s:Sch):List Nat:=(List.range s.types.length).map (namedN s)
theorem O9 (n:Nat):(List.replicate n (vL [Value.int .i64 0])).flatten=cZ (List.replicate n 0):=by
 induction n with
 | zero=>rfl
 | succ n ih=>simp only [List.replicate_succ,List.flatten_cons,ih];rfl
theorem oy {n m:Nat} {tk:List TkE} {l:List DV} {js:List Int} (h:l=cZ js):WeL n m tk l (cZ js):=by rw [h];exact dO js
abbrev Li (s:Sch) (lc pc:List DV) (m:Int) (l:List Int) (aC e:Nat):St:=
 ⟨[(0,⟨[],.loc 0 0⟩),(2,⟨[],.ms 2 1 0 (dNms s.types).length (dNms s.types).length⟩),(3,⟨[],.v (.int .i64 aC)⟩),(18,⟨[],.sl 11 (dNms s.types) none⟩),(19,⟨[],.v (.int .i64 (dNms s.types).length)⟩),(20,⟨[],.v (.int .i64 e)⟩)],
  [bC s (.pt lc 0) (.loc 1 0) m,pc,cZ l],[]⟩
abbrev ER (s:Sch) (ap:List Nat) (lc:List DV) (m:Int) (l:List Int) (n e:Nat):St:=
 ⟨[(0,⟨[],.loc 0 0⟩),(2,⟨[],.ms 2 1 0 (dNms s.types).length (dNms s.types).length⟩),(40,⟨[],.v (.int .i64 (dNms s.types).length)⟩),(41,⟨[],.v (.int .i64 e)⟩)],
  [bC s (.pt lc 0) (.loc 1 0) m,pC s ap (.pt lc 0) (.v (.slice none 0 0)) (.v (.int .i64 0)) (.sl 1 (dInts ((namedL s).take e)) (some 0)),cZ l],[⟨n,3,1,none⟩]⟩
def HL (s:Sch) (ap:List Nat) (lc:List DV) (m:Int) (_:DV) (os:List (List DV)) (_:List TkE):Prop:=
 os=[bC s (.pt lc 0) (.loc 1 0) m,pC s ap (.pt lc 0) (.v (.slice none 0 0)) (.v (.int .i64 0)) (.sl 1 (dInts (namedL s)) none)]
theorem Lj {l:List Int} {i:Nat} {z:Int} (h:l[i]? = some z):(cZ l)[i]? = some (DV.v (.int .i64 z)):=by simp [cZ,h]
theorem v8 (s:Sch) (lc:List DV) (ap:List Nat) (m:Int) (hT:dY (tL s) ap) (gJ:ap.length<=1099511627776) (hl:s.types.length<=64) (hr:∀ x∈s.types,BS s x.2=true) (hs:nmsWt s.types<=1099511627776)
  (hlo:∀ i,i < s.types.length->∃ k,endI s (s.types.length + 1) i=some k) :
  Ev Tryz.prog 49 [.loc 0 0] [bC s (.pt lc 0) (.loc 1 0) m,yH s ap lc] [] (HL s ap lc m):=by
 have hN:=fN s.types
 have Sp:∀ x∈s.types,x.2.wt<=1099511627776:=fun x hx=>by
  have:=gO hx;omega
 have Uy:=BU s;have L6:=fun {k:Nat} {x:Wd × Ty}=>@nJ s k x;have iX:(namedL s).length=s.types.length:=by simp [namedL]
 have gV:=fun (e0:DV)=>vY s (.pt lc 0) ap (.pt lc 0) (.v (.slice none 0 0)) (.v (.int .i64 0)) e0 m hT gJ hl hr;obtain ⟨af,order,types,⟨rh,rp⟩⟩:=s;simp only at hl hr hN hs Sp Uy L6 iX gV hlo;have hN2:(dNms (⟨af,order,types,.mk rh rp⟩:Sch).types).length=types.length:=hN;refine ev_go (P:=Tryz.prog) tt tt_ok 5000 66 [] Tryz.func49 rfl Tryz.ntmps49 rfl (nL rfl) (fun E9 w9 hn9 hm9=>?_);refine ⟨⟨rfl,by omega,by omega,by omega⟩,?_⟩
 refine aw (fun j st=>∃ (e:Nat) (l:List Int),st=Li ⟨af,order,types,.mk rh rp⟩ lc (yH ⟨af,order,types,.mk rh rp⟩ ap lc) m l (firstA ⟨af,order,types,.mk rh rp⟩ e) e/\e<=types.length/\l.length=types.length/\(∀ i:Nat,i < e->l[i]? = some (firstA ⟨af,order,types,.mk rh rp⟩ i:Int))/\j=types.length - e) types.length
  (Li ⟨af,order,types,.mk rh rp⟩ lc (yH ⟨af,order,types,.mk rh rp⟩ ap lc) m (List.replicate ((dNms types).length:Int).toNat 0) (firstA ⟨af,order,types,.mk rh rp⟩ 0) 0) (aH 3 rfl (by repeat' (first | exact rfl | exact ai rfl | exact oy (O9 _) | refine ⟨_,_,rfl,?_,?_⟩)) rfl rfl rfl (by repeat' (first | exact trivial | exact ai rfl | exact oy (O9 _) | refine ⟨⟨_,rfl,?_⟩,?_⟩))) ⟨0,_,rfl,by omega,by simp [hN],fun _ h=>by omega,by omega⟩ ?_
 rintro j st ⟨e,l,rfl,he,wa,Pa,rfl⟩;refine br (fun hL=>?_) (fun hL=>?_)
 ·have aq:e < types.length:=by have:=hL;simp [hN] at this;exact this
  obtain ⟨x,hx⟩:∃ x,types[e]? = some x:=⟨_,gE aq⟩;have Sy:=Sp x (mG hx);have GV:=L6 hx;have Ht:=Uy (e + 1);obtain ⟨xw,⟨xh,xp⟩⟩:=x;have hnd:=qb (Ty.mk xh xp).wt (.mk xh xp) (Nat.le_refl _) Sy;refine ⟨_,⟨by omega,dNms_get hx⟩,?_⟩;refine ⟨⟨by omega,by omega⟩,?_⟩;refine ⟨by rw [La];omega,?_⟩;refine call_p IP (hnd) ax rfl ?_;simp only at GV Ht
  have fD:(cZ l).set (0 + (e:Int).toNat * 1) (DV.v (.int .i64 ((firstA ⟨af,order,types,.mk rh rp⟩ e:Nat):Int)))=cZ (l.set e ((firstA ⟨af,order,types,.mk rh rp⟩ e:Nat):Int)):=by
   rw [show 0 + (e:Int).toNat * 1=e by omega,Ez]
  have GC:IntKind.i64.wrap (((firstA ⟨af,order,types,.mk rh rp⟩ e:Nat):Int) + (Ty.mk xh xp).nn)=((firstA ⟨af,order,types,.mk rh rp⟩ (e + 1):Nat):Int):=by
   rw [GV,wrap64 (by omega) (by omega)];omega
  refine ⟨Li ⟨af,order,types,.mk rh rp⟩ lc (yH ⟨af,order,types,.mk rh rp⟩ ap lc) m (l.set e ((firstA ⟨af,order,types,.mk rh rp⟩ e:Nat):Int)) (firstA ⟨af,order,types,.mk rh rp⟩ (e + 1)) (e + 1),(aH 3 rfl (by repeat' (first | exact rfl | exact ai rfl | exact oy fD | exact aj GC | exact aj (ej aq (by omega)) | refine ⟨_,_,rfl,?_,?_⟩)) rfl rfl rfl (by repeat' (first | exact trivial | exact ai rfl | exact oy fD | exact aj GC | exact aj (ej aq (by omega)) | refine ⟨⟨_,rfl,?_⟩,?_⟩))),types.length - (e + 1),by omega,e + 1,_,rfl,by omega,by rw [List.length_set];exact wa,fun i hi=>?_,rfl⟩;by_cases Oq:i=e
  ·subst Oq;rw [List.getElem?_set_self (by omega)]
  ·rw [List.getElem?_set_ne (Ne.symm Oq)];exact Pa i (by omega)
 ·have bJ:e=types.length:=by have:=hL;simp [hN] at this;omega
  subst bJ;refine aw (fun j st=>∃ e:Nat,st=ER ⟨af,order,types,.mk rh rp⟩ ap lc m l e e/\e<=types.length/\j=types.length - e) types.length (ER ⟨af,order,types,.mk rh rp⟩ ap lc m l 0 0) (dI 3 ⟨0,3,1,none⟩ rfl rfl rfl (by repeat' (first | exact rfl | exact ai rfl | exact dO _ | exact bp (Nat.le_refl _) rfl | exact bp (Nat.le_refl _) rfl | refine ⟨_,_,rfl,?_,?_⟩)) rfl rfl (by repeat' (first | exact trivial | exact ai rfl | exact dO _ | exact bp (Nat.le_refl _) rfl | refine ⟨⟨_,rfl,?_⟩,?_⟩))) ⟨0,rfl,by omega,by omega⟩ ?_;rintro j st ⟨e,rfl,he,rfl⟩;refine br (fun hL=>?_) (fun hL=>?_)
  ·have aq:e < types.length:=by have:=hL;simp [hN] at this;exact this
   obtain ⟨k,hk⟩:=hlo e aq;have mn:=(tI hk).1;simp only at mn;have hE:=gV (.sl 1 (dInts ((namedL ⟨af,order,types,.mk rh rp⟩).take e)) none) e aq;rw [hk] at hE;have hnn:namedN ⟨af,order,types,.mk rh rp⟩ e=firstA ⟨af,order,types,.mk rh rp⟩ k:=by unfold namedN;rw [hk];all_goals rfl
   have oS:(namedL ⟨af,order,types,.mk rh rp⟩)[e]? = some (firstA ⟨af,order,types,.mk rh rp⟩ k):=by
    unfold namedL;rw [List.getElem?_map,List.getElem?_range aq,Option.map_some,hnn]
   have iY:dInts ((namedL ⟨af,order,types,.mk rh rp⟩).take e) ++ [[DV.v (.int .i64 ((firstA ⟨af,order,types,.mk rh rp⟩ k:Nat):Int))]]=dInts ((namedL ⟨af,order,types,.mk rh rp⟩).take (e + 1)):=by
    rw [List.take_add_one,oS];simp [dInts]
   refine aZ mo (by decide +kernel) ?_;refine lW en107 hE ax rfl rfl ?_;refine ⟨⟨by simp only [oz];omega,by simp only [oz];omega⟩,?_⟩
   have Sz:(cZ l)[0 + (oz (some k)).toNat * 1]? = some (DV.v (.int .i64 ((firstA ⟨af,order,types,.mk rh rp⟩ k:Nat):Int))):=by
    rw [show 0 + (oz (some k)).toNat * 1=k by simp only [oz];omega];exact Lj (Pa k mn)
   refine ⟨_,Sz,?_⟩;refine ⟨by simp [bw];omega,⟨by simp [bw,maxLen];omega,by simp [bw];omega⟩,?_⟩;exact ⟨ER ⟨af,order,types,.mk rh rp⟩ ap lc m l (e + 1) (e + 1),(aH 3 rfl (by repeat' (first | exact rfl | exact ai rfl | exact dO _ | exact aj (ej aq (by omega)) | exact iQ iY rfl | refine ⟨_,_,rfl,?_,?_⟩)) rfl rfl rfl (by repeat' (first | exact trivial | exact ai rfl | exact dO _ | exact aj (ej aq (by omega)) | exact iQ iY rfl | refine ⟨⟨_,rfl,?_⟩,?_⟩))),types.length - (e + 1),by omega,e + 1,rfl,by omega,rfl⟩
  ·have bJ:e=types.length:=by have:=hL;simp [hN] at this;omega
   subst bJ;have ht:(namedL ⟨af,order,types,.mk rh rp⟩).take types.length=namedL ⟨af,order,types,.mk rh rp⟩:=by rw [<- iX,List.take_length]
   rw [ht];exact ⟨.tup [],[bC ⟨af,order,types,.mk rh rp⟩ (.pt lc 0) (.loc 1 0) m,pC ⟨af,order,types,.mk rh rp⟩ ap (.pt lc 0) (.v (.slice none 0 0)) (.v (.int .i64 0)) (.sl 1 (dInts (namedL ⟨af,order,types,.mk rh rp⟩)) none)],ax,aL,rfl⟩
structure Ed where
 name:ByteArray
 bare:Bool
 aC:Int
 to:Int
 label:Int
 wide:Int
 ck:Int
 cn:Int
 seen:Int
 ca:Int
structure Nd where
 ag:Int
 aC:Int
 lo:Int
 hi:Int
 most:Int
 ae:List ByteArray
 ay:List Ed
def xF (e:Ed):List DV:=[.v (.string e.name),.v (.bool e.bare),.v (.int .i64 e.aC),.v (.int .i64 e.to),.v (.int .i64 e.label),.v (.int .i64 e.wide),.v (.int .i64 e.ck),.v (.int .i64 e.cn),.v (.int .i64 e.seen),.v (.int .i64 e.ca)]
def gD (l:List Ed):List (List DV):=l.map xF
def n7 (n:Nd):List DV:=[.v (.int .i64 n.ag),.v (.int .i64 n.aC),.v (.int .i64 n.lo),.v (.int .i64 n.hi),.v (.int .i64 n.most),.sl 1 (cD n.ae) none,.sl 10 (gD n.ay) none]
def dQ (l:List Nd):List (List DV):=l.map n7
def nK (w:Int):Int:=if w=0 then 3 else w
def BV (lev:List Wd->Int) (p:Ph) (to:Int):Ed:=⟨p.name.s,p.bare,p.name.a,to,lev p.label,nK p.wide,p.ck,p.cn,lev p.cl,p.ca⟩
def Qy (s:Sch) (name:ByteArray):Int:=(namedN s ((dw (tL s) name).getD 0):Int)
def tN (s:Sch) (t:Ty) (k:Nat):Int:=if t.h.ag=9 then Qy s t.h.name.s else (k:Int)
def yL (s:Sch) (p:Ph) (u:Ty) (k:Nat):Int:=if p.bare then -1 else tN s u k
mutual
def ndsT (lev:List Wd->Int) (s:Sch):Ty->Nat->List Nd
 | .mk h ps,k=>if h.ag=9 then [] else ⟨h.ag,h.aC,h.lo,h.hi,h.most,au h.ae,edsP lev s ps (k + 1)⟩ :: qg lev s ps (k + 1)
def edsP (lev:List Wd->Int) (s:Sch):Pts->Nat->List Ed
 | .nil,_=>[]
 | .cons p u r,k=>BV lev p (yL s p u k) :: edsP lev s r (k + if p.bare then 0 else u.nn)
def qg (lev:List Wd->Int) (s:Sch):Pts->Nat->List Nd
 | .nil,_=>[]
 | .cons p u r,k=>(if p.bare then [] else ndsT lev s u k) ++ qg lev s r (k + if p.bare then 0 else u.nn)
end
mutual
theorem gW (lev:List Wd->Int) (s:Sch):∀ (t:Ty) (k:Nat),(ndsT lev s t k).length=t.nn
 | .mk h ps,k=>by
  simp only [ndsT,Ty.nn];split
  ·rfl
  ·rw [List.length_cons,qh lev s ps];omega
theorem qh (lev:List Wd->Int) (s:Sch):∀ (ps:Pts) (k:Nat),(qg lev s ps k).length=ps.nn
 | .nil,k=>rfl
 | .cons p u r,k=>by
  simp only [qg,Pts.nn,List.length_append,qh lev s r];split
  ·rfl
  ·rw [gW lev s u]
end
abbrev CR (s:Sch) (ap:List Nat) (lc:List DV) (n:Nat):List DV:=pC s ap (.pt lc 0) (.sl 0 (List.replicate n []) (some 0)) (.v (.int .i64 0)) (.sl 1 (dInts (namedL s)) none)
abbrev yM (n:Nat) (base:List DV):TkE:=⟨n,125,7,some base⟩
def Jx (s:Sch) (ap:List Nat) (lc:List DV) (m:Int) (n:Nat) (base:List DV) (y:DV) (uH:List Nd) (r:DV) (os:List (List DV)) (tk:List TkE):Prop:=
 r=y/\os=[bC s (.pt lc 0) (.loc 1 0) m,CR s ap lc (n + uH.length)]/\tk=[yM (n + uH.length) (base ++ (dQ uH).flatten)]
def ES (lev:List Wd->Int) (s:Sch) (ap:List Nat) (lc:List DV) (m:Int) (t:Ty):Prop:=
 ∀ (n:Nat) (base:List DV),n + t.nn<=1099511627776->base.length=n * 7 ->
  Ev Tryz.prog 50 [.loc 0 0,.agg (gn t)] [bC s (.pt lc 0) (.loc 1 0) m,CR s ap lc n] [yM n base] (Jx s ap lc m n base (.v (.int .i64 (tN s t n))) (ndsT lev s t n))
theorem BW {X:Lx} (hX:X.OK) (s:Sch) (ap:List Nat) (m:Int) (p:Ph) (u:Ty) (hp:p.wt<=1099511627776) (gX:p.bare=false->ES X.lev s ap (dW X.ae (bK X.ae X.ap) X.rows X.js) m u)
  (n:Nat) (base:List DV) (hb:p.bare=false->n + u.nn<=1099511627776) (hbl:base.length=n * 7) :
  Ev Tryz.prog 109 [.loc 0 0,.agg (DN p (gn u))] [bC s (.pt (dW X.ae (bK X.ae X.ap) X.rows X.js) 0) (.loc 1 0) m,CR s ap (dW X.ae (bK X.ae X.ap) X.rows X.js) n] [yM n base]
   (Jx s ap (dW X.ae (bK X.ae X.ap) X.rows X.js) m n base (.agg (xF (BV X.lev p (yL s p u n)))) (if p.bare then [] else ndsT X.lev s u n)):=by
 have Jp:wdsWt p.label + wdsWt p.cl<=p.wt:=by simp only [Ph.wt];omega
 have J0:X.pd = .pt (dW X.ae (bK X.ae X.ap) X.rows X.js) 0:=rfl;have zL:=fun pc=>qc hX s pc m p.label (by omega);have Qz:=fun pc=>qc hX s pc m p.cl (by omega);rw [J0] at zL Qz;have hE:=fun to=>BV.eq_1 X.lev p to;have Pb:=yL.eq_1 s p u n;generalize dW X.ae (bK X.ae X.ap) X.rows X.js=lc at zL Qz gX ⊢;obtain ⟨af,order,types,⟨rh,rp⟩⟩:=s;obtain ⟨uh,us⟩:=u;refine ev_go (P:=Tryz.prog) tt tt_ok 5000 52 [.cell 4 176] Tryz.func109 rfl Tryz.ntmps109 rfl (nL rfl) (fun E9 w9 hn9 hm9=>?_);have Jy:=zL [.pt lc 0,.sl 0 (List.replicate n []) none,.v (.int .i64 0),.pt (bK (tL ⟨af,order,types,.mk rh rp⟩) ap) 0,.sl 1 (dInts (namedL ⟨af,order,types,.mk rh rp⟩)) none];have Jz:=Qz [.pt lc 0,.sl 0 (List.replicate n []) none,.v (.int .i64 0),.pt (bK (tL ⟨af,order,types,.mk rh rp⟩) ap) 0,.sl 1 (dInts (namedL ⟨af,order,types,.mk rh rp⟩)) none];apply Bc (fun _=>false) 11 15 [0,1,2,3,4,5,6,7,8,9,10,11,12,13,14,15,16] [0,1,2,3,4,5,6,7,8,9,10,15,11,12,13,14,16] 4 4 mo (by decide +kernel)
 ·refine lW zU Jy ax rfl rfl ?_;refine (?_:@Eq St _ _);exact rfl
 ·refine lW zU Jy ax rfl rfl ?_;refine (⟨rfl,rfl,?_⟩:_/\_/\_)
  repeat' (first | exact trivial | refine ⟨rfl,?_⟩)
 ·rfl
 refine br (fun hw=>?_) (fun hw=>?_)
 ·have hw:p.wide=0:=by simpa using hw
  refine oq [4] (fun _=>false) mo (by decide +kernel) ?_;refine lW zU Jz ax rfl rfl ?_;refine br (fun hB=>?_) (fun hB=>?_)
  ·have hB:p.bare=false:=by simpa using hB
   refine fj 2 1 Hm rfl rfl rfl aL aL (gX hB n base (hb hB) hbl) (fun r dT bi hΦ h1 h2=>?_);obtain ⟨rfl,rfl,rfl⟩:=hΦ;refine ⟨.agg (xF ⟨p.name.s,p.bare,p.name.a,tN ⟨af,order,types,.mk rh rp⟩ (.mk uh us) n,X.lev p.label,3,p.ck,p.cn,X.lev p.cl,p.ca⟩),[bC ⟨af,order,types,.mk rh rp⟩ (.pt lc 0) (.loc 1 0) m,CR ⟨af,order,types,.mk rh rp⟩ ap lc (n + (ndsT X.lev ⟨af,order,types,.mk rh rp⟩ (.mk uh us) n).length)],ax,aL,?_,?_,?_⟩
   ·simp [hE,yL,hB,nK,hw]
   ·simp [hB]
   ·simp [hB]
  ·have hB:p.bare=true:=by simpa using hB
   refine ⟨.agg (xF ⟨p.name.s,p.bare,p.name.a,-1,X.lev p.label,3,p.ck,p.cn,X.lev p.cl,p.ca⟩),[bC ⟨af,order,types,.mk rh rp⟩ (.pt lc 0) (.loc 1 0) m,CR ⟨af,order,types,.mk rh rp⟩ ap lc n],ax,aL,?_,?_,?_⟩
   ·simp [hE,yL,hB,nK,hw]
   ·simp [hB]
   ·simp [hB,dQ]
 ·have hw:¬ p.wide=0:=by simpa using hw
  refine oq [4] (fun _=>false) mo (by decide +kernel) ?_;refine lW zU Jz ax rfl rfl ?_;refine br (fun hB=>?_) (fun hB=>?_)
  ·have hB:p.bare=false:=by simpa using hB
   refine fj 2 1 Hm rfl rfl rfl aL aL (gX hB n base (hb hB) hbl) (fun r dT bi hΦ h1 h2=>?_);obtain ⟨rfl,rfl,rfl⟩:=hΦ;refine ⟨.agg (xF ⟨p.name.s,p.bare,p.name.a,tN ⟨af,order,types,.mk rh rp⟩ (.mk uh us) n,X.lev p.label,p.wide,p.ck,p.cn,X.lev p.cl,p.ca⟩),[bC ⟨af,order,types,.mk rh rp⟩ (.pt lc 0) (.loc 1 0) m,CR ⟨af,order,types,.mk rh rp⟩ ap lc (n + (ndsT X.lev ⟨af,order,types,.mk rh rp⟩ (.mk uh us) n).length)],ax,aL,?_,?_,?_⟩
   ·simp [hE,yL,hB,nK,hw]
   ·simp [hB]
   ·simp [hB]
  ·have hB:p.bare=true:=by simpa using hB
   refine ⟨.agg (xF ⟨p.name.s,p.bare,p.name.a,-1,X.lev p.label,p.wide,p.ck,p.cn,X.lev p.cl,p.ca⟩),[bC ⟨af,order,types,.mk rh rp⟩ (.pt lc 0) (.loc 1 0) m,CR ⟨af,order,types,.mk rh rp⟩ ap lc n],ax,aL,?_,?_,?_⟩
   ·simp [hE,yL,hB,nK,hw]
   ·simp [hB]
   ·simp [hB,dQ]
def QA (h:Hd):List DV:=[.v (.int .i64 h.ag),.v (.int .i64 h.aC),.v (.int .i64 h.lo),.v (.int .i64 h.hi),.v (.int .i64 h.most),.sl 1 (cD (au h.ae)) none,.v (.slice none 0 0)]
theorem HM {h:Hd} {base R:List DV} {n:Nat} {x:DV} (hb:base.length=n * 7):(base ++ (QA h ++ R)).set (n * 7 + 6) x=base ++ ([.v (.int .i64 h.ag),.v (.int .i64 h.aC),.v (.int .i64 h.lo),.v (.int .i64 h.hi),.v (.int .i64 h.most),.sl 1 (cD (au h.ae)) none,x] ++ R):=by
 rw [List.set_append_right _ _ (by omega),hb,Nat.add_sub_cancel_left];rfl
theorem sj (l:List Ed) (e:Ed):gD l ++ [xF e]=gD (l ++ [e]):=by simp [gD]
theorem dR (l:List Ed):(gD l).length=l.length:=by simp [gD]
theorem l8 (lev:List Wd->Int) (s:Sch):∀ (ps:Pts) (k:Nat),(edsP lev s ps k).length=ps.len
 | .nil,_=>rfl
 | .cons p u r,k=>by simp [edsP,Pts.len,l8 lev s r]
abbrev ET (s:Sch) (ap:List Nat) (lc:List DV) (m:Int) (n:Nat) (base:List DV) (h:Hd) (ps:Pts) (q e:Nat):St:=
 ⟨[(0,⟨[],.loc 0 0⟩),(3,⟨[],.loc 2 0⟩),(7,⟨[],.v (.int .i64 n)⟩),(8,⟨[],.loc 3 0⟩),(61,⟨[],.sl 2 (bY h.ae) none⟩),(62,⟨[],.v (.int .i64 (bY h.ae).length)⟩),(63,⟨[],.v (.int .i64 e)⟩)],
  [bC s (.pt lc 0) (.loc 1 0) m,CR s ap lc n,gn (.mk h ps),[.v (.int .i64 h.ag),.v (.int .i64 h.aC),.v (.int .i64 h.lo),.v (.int .i64 h.hi),.v (.int .i64 h.most),.sl 1 (cD (au (h.ae.take e))) (some 1),.v (.slice none 0 0)]],
  [yM n base,⟨q,9,1,none⟩]⟩
abbrev EU (s:Sch) (ap:List Nat) (lc:List DV) (m:Int) (n:Nat) (h:Hd) (ps:Pts) (n':Nat) (l9:List DV) (Es:List Ed) (q1 q2 e:Nat):St:=
 ⟨[(0,⟨[],.loc 0 0⟩),(3,⟨[],.loc 2 0⟩),(7,⟨[],.v (.int .i64 n)⟩),(11,⟨[],.sl 10 (gD Es) (some 2)⟩),(92,⟨[],.sl 18 (dV ps) none⟩),(93,⟨[],.v (.int .i64 (dV ps).length)⟩),(94,⟨[],.v (.int .i64 e)⟩)],
  [bC s (.pt lc 0) (.loc 1 0) m,CR s ap lc n',gn (.mk h ps)],
  [yM n' l9,⟨q1,9,1,none⟩,⟨q2,176,10,none⟩]⟩
theorem qi {X:Lx} {L:List ByteArray} {h:Hd} {ps:Pts} (hk:(knT X L (.mk h ps)).1=0):(h.ag=9->dw L h.name.s≠none)/\(knP X L ps).1=0:=by
 rw [knT] at hk;split at hk
 ·cases hk
 ·rename_i h1;exact ⟨fun h9 hn=>h1 ⟨h9,hn⟩,hk⟩
theorem mX {X:Lx} {L:List ByteArray} {p:Ph} {u:Ty} {r:Pts} (hk:(knP X L (.cons p u r)).1=0):(p.bare=false->(knT X L u).1=0)/\(knP X L r).1=0:=by
 rw [knP] at hk;split at hk
 ·rename_i h1;exact (h1 hk).elim
 ·split at hk
  ·rename_i h1;exact (h1 hk).elim
  ·split at hk
   ·rename_i h1;exact ⟨(fun h2=>by rw [h1] at h2;cases h2),hk⟩
   ·split at hk
    ·rename_i h1;exact (h1 hk).elim
    ·rename_i h1;exact ⟨fun _=>by simpa using h1,hk⟩
theorem sk {X:Lx} (hX:X.OK) (s:Sch) (ap:List Nat) (m:Int) (hT:dY (tL s) ap) (gJ:ap.length<=1099511627776):∀ (k:Nat) (t:Ty),t.wt<=k->t.wt<=1099511627776->(knT X (tL s) t).1=0 ->
  ES X.lev s ap (dW X.ae (bK X.ae X.ap) X.rows X.js) m t
 | 0,t,hn,_,_=>by have:=t.eX;omega
 | k + 1,.mk h ps,hn,cM,MV=>by
  have ih:=sk hX s ap m hT gJ k;intro n base hnb hbl;obtain ⟨QB,QC⟩:=qi MV;have wb:=fun (p:Ph) (u:Ty)=>BW hX s ap m p u;generalize dW X.ae (bK X.ae X.ap) X.rows X.js=lc at ih wb ⊢;simp only [Ty.wt,Hd.wt] at hn cM;have lm:=ps.jq;have iX:=cw h.ae;have hf:=ey (tL s) ap h.name.s hT gJ;have ic:=qd s;have hnmL:(namedL s).length=s.types.length:=by simp [namedL]
  have HN:tN s (.mk h ps) n=if h.ag=9 then Qy s h.name.s else (n:Int):=rfl
  have BX:ndsT X.lev s (.mk h ps) n=if h.ag=9 then [] else ⟨h.ag,h.aC,h.lo,h.hi,h.most,au h.ae,edsP X.lev s ps (n + 1)⟩ :: qg X.lev s ps (n + 1):=by rw [ndsT]
  have hnn:(Ty.mk h ps).nn=if h.ag=9 then 0 else 1 + ps.nn:=by rw [Ty.nn]
  generalize hS:s=S at *;subst hS;obtain ⟨af,order,types,⟨rh,rp⟩⟩:=s;refine ev_go (P:=Tryz.prog) tt tt_ok 5000 117 [.tmp 4] Tryz.func50 rfl Tryz.ntmps50 rfl (nL rfl) (fun E9 w9 hn9 hm9=>?_);refine br (fun h9=>?_) (fun h9=>?_)
  ·have h9:h.ag=9:=by simpa using h9
   obtain ⟨i,hi⟩:=Option.ne_none_iff_exists'.1 (QB h9);have Ox:=(eu hi).1;rw [hi] at hf;rw [if_pos h9] at HN BX
   have oS:(namedL ⟨af,order,types,.mk rh rp⟩)[i]? = some (namedN ⟨af,order,types,.mk rh rp⟩ i):=by
    unfold namedL;rw [List.getElem?_map,List.getElem?_range (by omega)];rfl
   refine aR (fun _=>false) mo (by decide +kernel) ?_;refine cr pg (hf) ax rfl ?_;refine ⟨_,⟨by omega,dc oS⟩,?_⟩;refine ⟨.v (.int .i64 (namedN ⟨af,order,types,.mk rh rp⟩ i:Nat)),[bC ⟨af,order,types,.mk rh rp⟩ (.pt lc 0) (.loc 1 0) m,CR ⟨af,order,types,.mk rh rp⟩ ap lc n],ax,aL,?_,?_,?_⟩
   ·rw [HN,Qy,hi];rfl
   ·rw [BX];rfl
   ·rw [BX];simp [dQ]
  have h9:¬ h.ag=9:=by simpa using h9
  rw [if_neg h9] at HN BX hnn;have eV:(List.replicate n ([]:List DV)).length=n:=List.length_replicate;refine aw (fun j st=>∃ e:Nat,st=ET ⟨af,order,types,.mk rh rp⟩ ap lc m n base h ps e e/\e<=h.ae.length/\j=h.ae.length - e) h.ae.length (ET ⟨af,order,types,.mk rh rp⟩ ap lc m n base h ps 0 0) (dI 4 ⟨0,9,1,none⟩ rfl rfl rfl (by repeat' (first | exact rfl | exact ai rfl | exact aj (congrArg Nat.cast eV) | exact bp (Nat.le_refl _) rfl | exact bp (Nat.le_refl _) rfl | refine ⟨_,_,rfl,?_,?_⟩)) rfl rfl (by repeat' (first | exact trivial | exact ai rfl | exact aj (congrArg Nat.cast eV) | exact bp (Nat.le_refl _) rfl | refine ⟨⟨_,rfl,?_⟩,?_⟩))) ⟨0,rfl,by omega,by omega⟩ ?_;rintro j st ⟨e,rfl,he,rfl⟩;refine br (fun hL=>?_) (fun hL=>?_)
  ·have aq:e < h.ae.length:=by simpa [aA] using hL
   obtain ⟨w,hw⟩:∃ w,h.ae[e]? = some w:=⟨_,gE aq⟩;have iY:=gM hw;refine ⟨uC w,⟨by omega,cx hw⟩,?_⟩;refine ⟨by simp [bl,au];omega,⟨by simp [bl,au,maxLen];omega,by simp [bl,au];omega⟩,?_⟩;exact ⟨ET ⟨af,order,types,.mk rh rp⟩ ap lc m n base h ps (e + 1) (e + 1),(aH 4 rfl (Gu aq iY) rfl rfl rfl (A8 aq iY)),h.ae.length - (e + 1),by omega,e + 1,rfl,by omega,rfl⟩
  have bJ:e=h.ae.length:=by have:=hL;simp [aA] at this;omega
  subst bJ;rw [List.take_length];refine aZ mo (by decide +kernel) ?_;refine ⟨⟨⟨eV,by simp⟩,by simp [maxLen];omega,by simp;omega⟩,?_⟩
  refine aw (fun j st=>∃ (e n':Nat) (l9:List DV) (Es:List Ed) (K:List Nd),st=EU ⟨af,order,types,.mk rh rp⟩ ap lc m n h ps n' l9 Es h.ae.length e e/\e<=ps.len/\n'=n + 1 + K.length/\l9=base ++ (QA h ++ (dQ K).flatten)/\Es.length=e /\
    K ++ qg X.lev ⟨af,order,types,.mk rh rp⟩ (ps.drop e) (n + 1 + K.length)=qg X.lev ⟨af,order,types,.mk rh rp⟩ ps (n + 1)/\Es ++ edsP X.lev ⟨af,order,types,.mk rh rp⟩ (ps.drop e) (n + 1 + K.length)=edsP X.lev ⟨af,order,types,.mk rh rp⟩ ps (n + 1)/\K.length + (ps.drop e).nn=ps.nn/\(knP X (tL ⟨af,order,types,.mk rh rp⟩) (ps.drop e)).1=0/\j=ps.len - e) ps.len
   (EU ⟨af,order,types,.mk rh rp⟩ ap lc m n h ps (n + 1) (base ++ (QA h ++ [])) [] h.ae.length 0 0) (dI 3 ⟨0,176,10,none⟩ rfl rfl rfl (by repeat' (first | exact rfl | exact ai rfl | exact bp (Nat.le_refl _) rfl | exact bp (Nat.le_refl _) rfl | refine ⟨_,_,rfl,?_,?_⟩)) rfl rfl Gv) ⟨0,n + 1,_,[],[],rfl,by omega,rfl,rfl,rfl,rfl,rfl,by simp [Pts.drop],QC,by omega⟩ ?_
  rintro j st ⟨e,n',l9,Es,K,rfl,he,IF,cJ,L9,hK,Lk,QD,GA,rfl⟩
  have SA:l9.length=n' * 7:=by
   have:∀ l:List Nd,(dQ l).flatten.length=l.length * 7:=by
    intro l
    induction l with
    | nil=>rfl
    | cons a r ih=>simp only [dQ,List.map_cons,List.flatten_cons,List.length_append,List.length_cons] at ih ⊢;rw [ih];simp only [n7,List.length_cons,List.length_nil];omega
   rw [cJ,List.length_append,List.length_append,this,hbl,IF];simp only [QA,List.length_cons,List.length_nil];omega
  refine br (fun hL=>?_) (fun hL=>?_)
  ·have aq:e < ps.len:=by simpa [aS] using hL
   obtain ⟨p,u,hx⟩:=Pts.gy aq;have GB:=Pts.iy (mG hx);rw [Pts.drop_cons hx] at hK Lk QD GA;obtain ⟨mr,Dt⟩:=mX GA;simp only [qg] at hK;simp only [edsP] at Lk;simp only [Pts.nn] at QD;rw [<- IF] at hK Lk;have Dp:=u.eY;have huc:=u.eo;have b9:=wb p u (by omega) (fun hB=>ih u (by omega) (by omega) (mr hB)) n' l9 (fun hB=>by rw [hB] at QD;simp only [Bool.false_eq_true,if_false] at QD;omega) SA;have Pc:=gW X.lev ⟨af,order,types,.mk rh rp⟩ u n';obtain ⟨uh,us⟩:=u;refine ⟨_,⟨by omega,dj hx⟩,?_⟩;refine fj 2 1 Ny rfl rfl rfl aL aL b9 (fun r dT bi hΦ h1 h2=>?_);obtain ⟨rfl,rfl,rfl⟩:=hΦ;refine ⟨by rw [dR,L9],⟨by simp [dR,L9,maxLen];omega,by simp [dR,L9];omega⟩,?_⟩
   have Ll:(if p.bare then [] else ndsT X.lev ⟨af,order,types,.mk rh rp⟩ (.mk uh us) n').length=if p.bare then 0 else (Ty.mk uh us).nn:=by
    split
    ·rfl
    ·exact Pc
   have JA:n + 1 + (K.length + (if p.bare then 0 else (Ty.mk uh us).nn))=n' + if p.bare then 0 else (Ty.mk uh us).nn:=by rw [IF];omega
   refine ⟨EU ⟨af,order,types,.mk rh rp⟩ ap lc m n h ps (n' + (if p.bare then [] else ndsT X.lev ⟨af,order,types,.mk rh rp⟩ (.mk uh us) n').length) (l9 ++ (dQ (if p.bare then [] else ndsT X.lev ⟨af,order,types,.mk rh rp⟩ (.mk uh us) n')).flatten) (Es ++ [BV X.lev p (yL ⟨af,order,types,.mk rh rp⟩ p (.mk uh us) n')]) h.ae.length (e + 1) (e + 1),(aH 3 rfl (by repeat' (first | exact rfl | exact ai rfl | exact aj (ej aq (by omega)) | exact iQ (sj _ _) rfl | refine ⟨_,_,rfl,?_,?_⟩)) rfl rfl rfl (by repeat' (first | exact trivial | exact ai rfl | exact aj (ej aq (by omega)) | exact iQ (sj _ _) rfl | refine ⟨⟨_,rfl,?_⟩,?_⟩))),
    ps.len - (e + 1),by omega,e + 1,_,_,_,K ++ (if p.bare then [] else ndsT X.lev ⟨af,order,types,.mk rh rp⟩ (.mk uh us) n'),rfl,by omega,?_,?_,?_,?_,?_,?_,Dt,rfl⟩
   ·rw [List.length_append,IF];omega
   ·rw [cJ];simp [dQ]
   ·simp [L9]
   ·rw [List.length_append,Ll,List.append_assoc,JA];exact hK
   ·rw [List.length_append,Ll,List.append_assoc,JA];exact Lk
   ·rw [List.length_append,Ll];omega
  ·have bJ:e=ps.len:=by have:=hL;simp [aS] at this;omega
   subst bJ;rw [Pts.dJ] at hK Lk;simp only [qg,List.append_nil] at hK;simp only [edsP,List.append_nil] at Lk;have hKl:K.length=ps.nn:=by rw [hK,qh]
   have SB:(List.replicate n' ([]:List DV)).length=n':=List.length_replicate;refine BN (kt:=0) ⟨rfl,rfl⟩ ⟨rfl,rfl,rfl⟩ ⟨rfl,rfl,rfl⟩ rfl rfl rfl rfl rfl rfl rfl rfl rfl rfl rfl SB ⟨by omega,by omega⟩ (by decide) ?_;have Pd:n + (ndsT X.lev ⟨af,order,types,.mk rh rp⟩ (.mk h ps) n).length=n':=by rw [BX,List.length_cons,<- hK,IF];omega
   have oR:l9.set ((n:Int).toNat * 7 + 6) (.sl 10 (gD Es) none)=base ++ (dQ (ndsT X.lev ⟨af,order,types,.mk rh rp⟩ (.mk h ps) n)).flatten:=by
    rw [cJ,show (n:Int).toNat=n by omega,HM hbl,BX,Lk,hK];rfl
   refine ⟨.v (.int .i64 n),[bC ⟨af,order,types,.mk rh rp⟩ (.pt lc 0) (.loc 1 0) m,CR ⟨af,order,types,.mk rh rp⟩ ap lc n'],ax,aL,?_,?_,?_⟩
   ·rw [HN]
   ·rw [Pd]
   ·rw [Pd,<- oR];rfl
end Go.Proofs.YtfifjddnnmfeoaaGreat
namespace Go.Proofs.YtfifjddnnmfeoaaGreat
namespace Dv
open Go Go.RowKit
section
variable {X:Ctx} {st:St} {k:List It} {E:En} {a:Act} {w:World} {ops:Array Oper} {W:Nat->Bool} {C:World->Prop} {Q:Act->World->Prop} {i:Nat} {r:List Nat} {o:Oper}
theorem eM (hg:o.guard=none):Region.wanted o (yielded ops a.tmps)=true:=by
 unfold Region.wanted;rw [hg]
theorem HO {bx:List (List DV)} {wr:World} (h:Rel X E st a w) (hE:oZ E bx wr) (hC:∀ w',C w' -> CC E bx wr w'):Rl E bx C st.sl a where
 tm:=h.tm
 cL:=fun i cs hi=>by
  by_cases aM:cs=[]
  ·subst aM;have aq:i < E.β.length:=by rw [hE.len];exact (gS hi).1
   exact ⟨_,[],gE aq,⟨bn _,by simp⟩,fun w' _ j u hj=>by simp at hj⟩
  ·obtain ⟨b,ty,arr,hb,hw,hc⟩:=hE.cL i cs hi aM;exact ⟨b,arr,hb,hc,fun w' h' j u hj=>by rw [bB (((hC w' h').o i b cs hb hi aM).trans hw)];simpa using hj⟩
 cc:=fun x v hx w' h'=>(hC w' h').c x v hx
theorem HP {bx:List (List DV)} (h:Env E bx w) (m:List Nat):oZ E (maskL m 0 bx) w:=⟨by rw [mI];exact h.len,fun i cs hi aM=>by
 rcases mJ m _ _ _ _ hi with h1 | h1
 ·exact (aM h1).elim
 ·exact h.cL i cs h1⟩
theorem iK (hR:Rel X E st a w) (ho:ops[i]? = some o) (hE:mA o.op=false) (hL:mB o.op=false) (hg:o.guard=none) {s:DV} (hs:pureT X.P X.T ⟨st.sl,[],[]⟩ [] o.op=some s) (hd:dq X.nt st.sl o.dst=true)
  (hk:∀ a',Rel X E (st.put o.dst ⟨[],s⟩) a' w->runT X.P ops W C Q r a' w):runT X.P ops W C Q (i :: r) a w:=by
 have eV:Rl E [] (fun _=>False) st.sl a:=⟨hR.tm,fun i cs hi=>by simp at hi,fun _ _ _ _ h=>h.elim⟩;obtain ⟨v,hv,bz⟩:=ei (st:=⟨st.sl,[],[]⟩) X.hT eV (aJ _) hs;simp only [runT,ho,hE,Bool.false_eq_true,if_false];exact ⟨v,.inl ⟨eM hg,fun w' _=>bz w' fun h=>by rw [hL] at h;cases h⟩,fun h=>(by rw [hL] at h;cases h),hk _ (aG hR hd s v hv)⟩
theorem HQ (hR:Rel X E st a w) (ho:ops[i]? = some o) {bx:List (List DV)} (eV:Rl E bx C st.sl a) (M5:C w) (hE:mA o.op=false) (hg:o.guard=none) {s:DV} (hs:pureT X.P X.T ⟨st.sl,bx,[]⟩ [] o.op=some s) (hd:dq X.nt st.sl o.dst=true)
  (hk:∀ a',Rel X E (st.put o.dst ⟨[],s⟩) a' w->runT X.P ops W C Q r a' w):runT X.P ops W C Q (i :: r) a w:=by
 obtain ⟨v,hv,bz⟩:=ei (st:=⟨st.sl,bx,[]⟩) X.hT eV (aJ _) hs;simp only [runT,ho,hE,Bool.false_eq_true,if_false];exact ⟨v,.inl ⟨eM hg,fun w' h=>bz w' h⟩,fun _=>M5,hk _ (aG hR hd s v hv)⟩
theorem HR (hR:Rel X E st a w) (ho:ops[i]? = some o) {t x d:Nat} {b p j:Nat} {n:Nat} {kd:TK} {z:List Value} (hb:E.β[j]? = some b) (kk:o.op = .load t (.tmp x)) (eW:o.dst=some d) {i2 yN b2:Nat} (eF:E.β[i2]? = some b2) (hx:rv st [] (.tmp x)=some (.loc i2 p)) (hT:X.T.find t=some ⟨n,false,kd,z⟩)
  (hC:∀ w',C w' -> w'.cell? ⟨b2,p,none⟩=some (.pointer (some ⟨b,yN,none⟩))) (M5:C w) (hg:o.guard=none) (hd:dq X.nt st.sl (some d)=true)
  (hk:∀ a',Rel X E ⟨(d,⟨[],.loc j yN⟩) :: st.sl,st.bx,st.tk⟩ a' w->runT X.P ops W C Q r a' w):runT X.P ops W C Q (i :: r) a w:=by
 have hE:mA o.op=false:=by rw [kk];all_goals rfl
 simp only [runT,ho,hE,Bool.false_eq_true,if_false];have hv:Rv E (.loc j yN) (.pointer (some ⟨b,yN,none⟩)):=by unfold Rv;exact ⟨b,hb,rfl⟩
 refine ⟨.pointer (some ⟨b,yN,none⟩),.inl ⟨eM hg,fun w' h=>?_⟩,fun _=>M5,?_⟩
 ·have Qg:=hC w' (h (by rw [kk];rfl));have e1:=aE hR.rl hx;unfold Rv at e1;obtain ⟨b3,CJ,e1⟩:=e1;rw [eF] at CJ;simp only [oI] at CJ;subst CJ;have GP:=(te_parts X.hT hT).2.1
  have hl:(loadVar t ⟨b2,p,none⟩).run X.P w' = .ok (.pointer (some ⟨b,yN,none⟩)) w':=by
   simp [loadVar,fq GP,Qg]
  simp only [execOp,kk,e1,Sem.run_bind,Instr.loadAt,Instr.sureAddr,Sem.run_pure,Result.andThen_ok,hl]
 ·rw [eW];exact hk _ (aG hR hd (.loc j yN) _ hv)
theorem BZ (hR:Rel X E st a w) (ho:ops[i]? = some o) {dst:Option Nat} {f:Operand} {args:Array Operand} {QE:Array TypeId} (kk:o.op = .call ⟨.value f,args,QE⟩) (eW:o.dst=dst) (hg:o.guard=none) {g:FuncId} {ds:List DV} (hf:rv st [] f=some (.fn g [] [])) (hl:argsV st [] args.toList=some ds) (iP:Enters X.P g)
  {K:Value->World->Prop} (hc:∀ vs,RvL E ds vs->Calls X.P g vs.toArray w fun e w'=>∃ v,e = .returned v/\K v w') (hk:∀ v w',K v w' -> (W i=false->C w->C w')/\runT X.P ops W C Q r (a.put dst v) w'):runT X.P ops W C Q (i :: r) a w:=by
 have hE:mA o.op=true:=by rw [kk];all_goals rfl
 have QF:=eM (ops:=ops) (a:=a) hg;have eV:=hR.rl;have e1:=aE eV hf;unfold Rv at e1;obtain ⟨l1,r1,e1,zL,hr1⟩:=e1;simp only [RvL] at zL hr1;subst zL hr1;have hargs:=eh eV (aJ _) _ _ hl;simp only [runT,ho,hE,if_true,cO,QF];subst eW;obtain ⟨dst,op,ty,pos,after,gu⟩:=o;simp only at kk;subst kk
 have hr:(execOp a.eval ⟨dst,.call ⟨.value f,args,QE⟩,ty,pos,after,gu⟩).run X.P w = .ok (.enter g (args.toList.map a.eval).toArray) w:=by
  have e3:(([]:List Value).toArray ++ args.map a.eval ++ ([]:List Value).toArray)=(args.toList.map a.eval).toArray:=by apply Array.ext';simp
  simp only [execOp,resolve,e1,Deferred.ofValue,Sem.run_bind,Sem.run_pure,Result.andThen_ok,invoke,e3];exact iP _ _
 unfold wq;rw [hr];refine (hc _ hargs).mono ?_;rintro e w' ⟨v,rfl,hK⟩;exact ⟨v,rfl,hk v w' hK⟩
theorem HS (hR:Rel X E st a w) (ho:ops[i]? = some o) {dst:Option Nat} {f:Operand} {args:Array Operand} {QE:Array TypeId} (kk:o.op = .call ⟨.value f,args,QE⟩) (eW:o.dst=dst) (hg:o.guard=none) {g:FuncId} {ds KK:List DV} (hf:rv st [] f=some (.fn g [] [])) (hl:argsV st [] args.toList=some ds) (iP:Enters X.P g)
  {os:List (List DV)} (n1 m1:Nat) (uS:Nat.ble n1 st.bx.length=true) (fm:Nat.ble m1 st.tk.length=true) (qU:iV [] n1 n1 m1 os (st.bx.take n1)) (ha:CcL [] n1 n1 m1 KK ds)
  {Φ:DV->List (List DV)->List TkE->Prop} (hc:Ev X.P g KK os (st.tk.take m1) Φ) (aX:X.still=false) (hX:X.bt=[])
  (hk:∀ v r' dT bi E' w',Φ r' dT bi -> dT.length=n1->bi.length=m1->Rel X E' ⟨st.sl,dT ++ st.bx.drop n1,bi ++ st.tk.drop m1⟩ a w' -> Rv E' r' v->Ext E E' -> E'.β=E.β->(∀ (i:Nat) b,n1<=i->E.β[i]? = some b->w'.heap[b]? = w.heap[b]?) ->
   (W i=false->C w->C w')/\runT X.P ops W C Q r (a.put dst v) w'):runT X.P ops W C Q (i :: r) a w:=by
 refine BZ hR ho kk eW hg hf hl iP (K:=fun v w'=>∃ r' dT bi E',Φ r' dT bi /\ dT.length=n1/\bi.length=m1/\Rel X E' ⟨st.sl,dT ++ st.bx.drop n1,bi ++ st.tk.drop m1⟩ a w' /\ Rv E' r' v/\Ext E E' /\ E'.β=E.β/\∀ (i:Nat) b,n1<=i->E.β[i]? = some b->w'.heap[b]? = w.heap[b]?)
  (fun vs hv=>?_) ?_
 ·refine (vN n1 m1 uS fm qU ha hc aX hX hR hv).mono ?_;rintro e w' ⟨v,r',dT,bi,E',rfl,h⟩;exact ⟨v,rfl,r',dT,bi,E',h⟩
 ·rintro v w' ⟨r',dT,bi,E',h1,h2,h3,h4,h5,h6,h7,h8⟩;exact hk v r' dT bi E' w' h1 h2 h3 h4 h5 h6 h7 h8
theorem HT (h:Rel X E st a w) (j o k:Nat) {n ty e:Nat} {CP:List DV} {es ns:List (List DV)} (hq:st.tk[k]? = some ⟨n,ty,e,some ns.flatten⟩) (qR:∀ x∈ns,x.length=e) (iX:ns.length=n) (hj:st.bx[j]? = some CP) (ho:CP[o]? = some (.sl 0 es (some k))) (kj:es.length=n) :
  ∃ E',Rel X E' ⟨st.sl,st.bx.set j (CP.set o (.sl e ns none)),st.tk.set k ⟨n,ty,e,none⟩⟩ a w:=K6 hq qR iX hj ho kj E a w h
theorem B0 (hR:Rel X E st a w) (ho:ops[i]? = some o) (hE:mA o.op=true) (hg:o.guard=none) (hW:W i=true) (hd:dq X.nt st.sl o.dst=true) {p:Prop} (hp:effC X st o (go X 4000 k)=some p) (h:p):runT X.P ops W C (fun a w=>kq X k .normal a w) [i] a w:=by
 have QF:=eM (ops:=ops) (a:=a) hg;simp only [runT,ho,hE,if_true,cO,QF];refine jS ?_ (kD hd hR hp h);rintro a' w' ⟨st',E',nV,hr,_⟩;exact ⟨(fun h=>by rw [hW] at h;cases h),go_sound 4000 _ _ nV _ _ _ hr⟩
mutual
theorem mY {i j:Nat}:∀ d:DV,renD (swp i j) (renD (swp i j) d)=d
 | .v x=>rfl
 | .ud=>rfl
 | .agg l=>by simp only [renD,fp]
 | .tup l=>by simp only [renD,fp]
 | .sl e es tk=>rfl
 | .pt cs o=>rfl
 | .loc k o=>by simp only [renD,gm]
 | .el k o=>by simp only [renD,gm]
 | .ms k e o l c=>by simp only [renD,gm]
 | .fn g l r=>by simp only [renD,fp]
 | .nq t x=>by simp only [renD,mY]
theorem fp {i j:Nat}:∀ l:List DV,renL (swp i j) (renL (swp i j) l)=l
 | []=>rfl
 | d :: r=>by simp only [renL,mY,fp]
end
theorem sm {i j:Nat}:∀ l:List (Nat × Sl),renS (swp i j) (renS (swp i j) l)=l
 | []=>rfl
 | (k,⟨gs,s⟩) :: r=>by simp only [renS,mY,sm]
theorem sn {i j:Nat}:∀ l:List (List DV),renO (swp i j) (renO (swp i j) l)=l
 | []=>rfl
 | c :: r=>by simp only [renO,fp,sn]
theorem EV {i j:Nat} (f:Nat->Nat) (l:List (List DV)) (hi:i < l.length) (hj:j < l.length):renO f (swL i j l)=swL i j (renO f l):=by
 apply List.ext_getElem?;intro k;rw [lH,cF hi hj,cF (by rw [bS];exact hi) (by rw [bS];exact hj),lH]
theorem we {i j:Nat} {S:St} (hi:i < S.bx.length) (hj:j < S.bx.length):di i j (di i j S)=S:=by
 obtain ⟨sl,bx,tk⟩:=S;simp only [di,sm];rw [EV _ _ (by rw [bS];exact hi) (by rw [bS];exact hj),sn];congr 1;apply List.ext_getElem?;intro k;rw [cF (by rw [bF];exact hi) (by rw [bF];exact hj),cF hi hj,gm]
theorem ct.Pe {f:FuncId} {args:List DV} {dst:Option Nat} (i j:Nat) (CE:Nat.ble X.n0 i=true) (uA:Nat.ble X.n0 j=true) (hi:Nat.blt i st.bx.length=true) (hj:Nat.blt j st.bx.length=true)
  (h:ct X f (renL (swp i j) args) dst k (di i j st)) (hX:X.bt=[]:=by exact rfl):ct X f args dst k st:=by
 have dE:=hi;have eS:=hj;simp only [Nat.blt_eq] at dE eS;have hl:(di i j st).bx.length=st.bx.length:=by simp only [di,bF,bS]
 exact ct.x0 i j (we dE eS).symm (fp args).symm CE uA (by rw [hl];exact hi) (by rw [hl];exact hj) h hX
theorem yO {P:Program} {t e:TypeId} (hu:P.underlying t=some (.slice e)) (d:Nat) (x:Option Addr) (n c:Nat) (w:World):(Op.equalIn (d + 1) t (.slice x n c) (.slice none 0 0)).run P w = .ok x.isNone w:=by
 cases x<;>simp [Op.equalIn,run_underlying hu]
theorem qj {P:Program} {t e:TypeId} (hu:P.underlying t=some (.slice e)) (x:Option Addr) (n c:Nat) (w:World):(Op.equal t (.slice x n c) (.slice none 0 0)).run P w = .ok x.isNone w:=yO hu 9999 x n c w
theorem EW {t d e:Nat} {x:Operand} {es:List (List DV)} {tk:Option Nat} {n et e' gj:Nat} {bb:Bool} {z:List Value} (kk:∃ t',o.op = .binOp .eql t x (.const (.slice none 0 0)) t') (eW:o.dst=some d) (hx:rv st [] x=some (.sl e es tk)) (hT:X.T.find t=some ⟨n,bb,.sl et e' gj,z⟩) (hd:dq X.nt st.sl (some d)=true)
  (hk:∀ b:Bool,(es ≠ []->b=false)->go X 4000 k ⟨(d,⟨[],.v (.bool b)⟩) :: st.sl,st.bx,st.tk⟩):IC X o k st:=by
 intro E a w h;obtain ⟨t',kk⟩:=kk;have e1:=aE h.rl hx;unfold Rv at e1;obtain ⟨b,m,cap,e1,⟨rfl,_⟩,hr,_⟩:=e1;obtain ⟨hu,_⟩:=cT X.hT hT;have bd:=qj hu b es.length cap w
 have bz:(execOp a.eval o).run X.P w = .ok (.value (.bool b.isNone)) w:=by
  have hc:a.eval (.const (.slice none 0 0)) = .slice none 0 0:=rfl;simp [execOp,kk,e1,hc,eqGuard,binOp,bd]
 refine fB bz ?_;rw [eW];refine go_sound 4000 _ _ (hk b.isNone fun aM=>?_) E _ w (aG h hd (.v (.bool b.isNone)) _ (by unfold Rv;exact ⟨rfl,rfl⟩));have:=jh (hr aM).1;rw [this];rfl
theorem Pf {t d et e gj n:Nat} {bb:Bool} {z:List Value} (kk:o.op = .buildSlice t 0 #[]) (eW:o.dst=some d) (hT:X.T.find t=some ⟨n,bb,.sl et e gj,z⟩) (hd:dq X.nt st.sl (some d)=true) (aX:X.still=false:=by exact rfl) (hX:X.bt=[]:=by exact rfl) :
  Rh X o st ⟨(d,⟨[],.sl e [] (some st.tk.length)⟩) :: st.sl,st.bx,st.tk ++ [⟨0,et,e,none⟩]⟩:=by
 intro E a w h;obtain ⟨hu,ii,zv,s5,hz,bI,qL,AW⟩:=cT X.hT hT;have kb:eE X.P et=some e:=by rw [dH s5,bI]
 have bz:(execOp a.eval o).run X.P w = .ok (.value (.slice (some ⟨w.heap.size,0,none⟩) 0 0)) (w.alloc (.cells #[] et)):=by
  have h1:(Instr.buildSlice t 0 #[]).run X.P w = .ok (.slice (some ⟨w.heap.size,0,none⟩) 0 0) (w.alloc (.cells #[] et)):=by
   have h0:Array.range 0 = #[]:=rfl;simp [Instr.buildSlice,run_underlying hu,az kb,Instr.fill,newRow,h0]
  simp only [execOp,kk,List.map_toArray,List.map_nil,Sem.run_bind,h1,Result.andThen_ok,Sem.run_pure]
 refine cK bz ?_;rw [eW];have mr:=h.env.gw (w':=w.alloc (.cells #[] et)) fun i hi=>alloc_old w _ hi
 let E2:En:=⟨E.c,E.β,E.tk ++ [⟨0,et,e,none⟩],E.τ ++ [.slice (some ⟨w.heap.size,0,none⟩) 0 0]⟩
 have hext:Ext E E2:=⟨fun _ _ h=>h,fun _ _ h=>h,fun k q' hk=>by
  have aq:=(gS hk).1;refine ⟨q',by show (E.tk ++ _)[k]? = _;rw [List.getElem?_append_left aq];exact hk,.inl ⟨rfl,?_⟩⟩;show (E.τ ++ _)[k]? = _
  rw [List.getElem?_append_left (by rw [h.env.tl];exact aq)]⟩
 have hτ:∀ (k:Nat) y,E2.τ[k]? = some y->(k < E.τ.length/\E.τ[k]? = some y)∨(k=E.τ.length/\y = .slice (some ⟨w.heap.size,0,none⟩) 0 0):=fun k y hy=>by
  have hy:(E.τ ++ [Value.slice (some ⟨w.heap.size,0,none⟩) 0 0])[k]? = some y:=hy;rw [List.getElem?_append] at hy;split at hy
  ·rename_i hk;exact .inl ⟨hk,hy⟩
  ·rename_i hk
   have h0:k - E.τ.length=0:=by
    rcases Nat.eq_zero_or_pos (k - E.τ.length) with h0 | h0
    ·exact h0
    ·rw [List.getElem?_eq_none (by simp;omega)] at hy;cases hy
   rw [h0] at hy;simp only [List.getElem?_cons_zero,oI] at hy;exact .inr ⟨by omega,hy.symm⟩
 have bR:∀ (k:Nat) y g,E.τ[k]? = some y->y.ownBlock=some g->g < w.heap.size:=fun k y g hy hg=>(h.env.own (mG hy) hg).1
 have bA:Rel X E2 ⟨st.sl,st.bx,st.tk ++ [⟨0,et,e,none⟩]⟩ a (w.alloc (.cells #[] et)):=by
  refine cg h hext ?_ (by show E.tk ++ _=_;rw [h.tk]) ?_ (h.fr.alloc _) (kA aX) (.nil hX)
  ·exact {
    len:=h.env.len
    tl:=by show (E.τ ++ _).length=(E.tk ++ _).length;simp [h.env.tl]
    cL:=fun i cs hi=>by
     obtain ⟨b,t,arr,hb,hw,hc⟩:=mr.cL i cs hi;exact ⟨b,t,arr,hb,hw,hc.mono hext⟩
    inj:=h.env.inj
    sub:=mr.sub
    pc:=h.env.pc
    bQ:=fun k q' y Uz hy=>by
     rcases hτ k y hy with ⟨aq,eQ⟩ | ⟨rfl,rfl⟩
     ·have gg:(E.tk ++ [⟨0,et,e,none⟩])[k]? = some q':=Uz;rw [List.getElem?_append_left (by rw [<- h.env.tl];exact aq)] at gg;exact mr.bQ k q' y gg eQ
     ·have gg:(E.tk ++ [⟨0,et,e,none⟩])[E.τ.length]? = some q':=Uz;rw [List.getElem?_append_right (by rw [h.env.tl];exact Nat.le_refl _),h.env.tl] at gg;simp only [Nat.sub_self,List.getElem?_cons_zero,oI] at gg;subst gg;refine .inr ⟨w.heap.size,0,#[],rfl,jN w _,⟨by simp,lh.none rfl⟩,Nat.le_refl _,Nat.zero_le _,fun hm=>?_,fun x v hx zG=>?_⟩
      ·have:=h.env.aK hm;omega
      ·have:=World.block_lt_of_cell? w x (h.env.sub x v hx);omega
    gf:=fun k k' y y' g zE hy eQ hg uz=>by
     rcases hτ k y hy with ⟨_,CF⟩ | ⟨rfl,rfl⟩
     ·rcases hτ k' y' eQ with ⟨_,j9⟩ | ⟨rfl,rfl⟩
      ·exact h.env.gf k k' y y' g zE CF j9 hg uz
      ·have:=bR k y g CF hg;simp only [Value.ownBlock,oI] at uz;omega
     ·rcases hτ k' y' eQ with ⟨_,j9⟩ | ⟨rfl,rfl⟩
      ·have:=bR k' y' g j9 uz;simp only [Value.ownBlock,oI] at hg;omega
      ·exact zE rfl }
  ·exact {
    c:=h.nw.c
    cn:=h.nw.cn
    β:=h.nw.β
    tk:=fun j q0 y0 xM A0=>by
     obtain ⟨q',y',h1,h2,h3⟩:=h.nw.tk j q0 y0 xM A0;exact ⟨q',y',by show (E.tk ++ _)[j]? = _;rw [List.getElem?_append_left (gS h1).1];exact h1,by show (E.τ ++ _)[j]? = _;rw [List.getElem?_append_left (gS h2).1];exact h2,h3⟩
    tn:=fun j y g hj hy hg=>by
     rcases hτ j y hy with ⟨_,CF⟩ | ⟨_,rfl⟩
     ·exact h.nw.tn j y g hj CF hg
     ·simp only [Value.ownBlock,oI] at hg;have:=h.fr.size;omega
    l0:=h.nw.l0 }
 refine ⟨E2,aG bA hd (.sl e [] (some st.tk.length)) _ ?_,hext,⟨[],by simp [E2]⟩,fun i b hb _=>alloc_old w _ (h.env.aK (mG hb))⟩;unfold Rv;refine ⟨_,0,0,rfl,⟨rfl,Nat.le_refl _⟩,fun hn=>(hn rfl).elim,fun k' gg=>?_⟩;cases gg;refine ⟨⟨0,et,e,none⟩,?_,Nat.le_refl _,fun _=>?_⟩
 ·show (E.tk ++ _)[st.tk.length]? = _;rw [h.tk];simp
 ·show (E.τ ++ _)[st.tk.length]? = _;rw [<- h.tk,<- h.env.tl];simp
theorem wg {t d et e gj n:Nat} {bb:Bool} {z:List Value} (kk:o.op = .buildSlice t 0 #[]) (eW:o.dst=some d) (hT:X.T.find t=some ⟨n,bb,.sl et e gj,z⟩) (hd:dq X.nt st.sl (some d)=true) (aX:X.still=false:=by exact rfl) (hX:X.bt=[]:=by exact rfl)
  (hk:go X 4000 k ⟨(d,⟨[],.sl e [] (some st.tk.length)⟩) :: st.sl,st.bx,st.tk ++ [⟨0,et,e,none⟩]⟩):IC X o k st:=(Pf kk eW hT hd aX hX).g hk
end
end Dv
end Go.Proofs.YtfifjddnnmfeoaaGreat
set_option maxRecDepth 100000
namespace Go.Proofs.YtfifjddnnmfeoaaGreat
open Go Go.RowKit Dv Tryz
theorem qk {l:List Wd} {o:List (Wd × Wd)} (h:(latF l o).1=0):(gT l o).1=0/\(enumL l 0 l).1=0/\(numF (au l) o).1=0/\bH (pT l.length (fQ l.length (dG (au l) o))) l.length=none/\bH (lZ (fQ l.length (dG (au l) o)) l.length) l.length=none:=by
 unfold latF at h;split at h
 ·rename_i h1;exact (h1 h).elim
 ·rename_i h1;split at h
  ·rename_i h2;exact (h2 h).elim
  ·rename_i h2;split at h
   ·rename_i h3;exact (h3 h).elim
   ·rename_i h3;refine ⟨by simpa using h1,by simpa using h2,by simpa using h3,?_⟩;split at h
    ·cases h
    ·rename_i h4;refine ⟨h4,?_⟩;split at h
     ·cases h
     ·rename_i h5;exact h5
theorem eZ {p:Nat->Bool} {n:Nat} (h:bH p n=none):∀ a,a < n->p a=false:=by
 intro a ha;unfold bH at h;rw [List.find?_eq_none] at h;have:=h a (by simpa using ha);simpa using this
theorem ql {l:List Wd} {o:List (Wd × Wd)} (h:(latF l o).1=0):dA (fQ l.length (dG (au l) o)) l.length/\l.length<=32:=by
 obtain ⟨h1,h2,h3,h4,h5⟩:=qk h;have hP:=ow h3;rw [dn] at hP
 have x3:l ≠ []:=by
  rintro rfl;simp [gT] at h1
 have Pg:l.length<=32:=by
  rcases Nat.lt_or_ge 32 l.length with h | h
  ·simp [gT,x3,h] at h1
  ·exact h
 have Gz:∀ a b,a < l.length->b < l.length->jz (fQ l.length (dG (au l) o)) l.length a b=false:=by
  have key:∀ a b,a<=b->b < l.length->jz (fQ l.length (dG (au l) o)) l.length a b=false:=fun a b kH hb=>by
   have:=eZ h5 b hb;unfold lZ at this;rw [List.any_eq_false] at this;have:=this a (by simp;omega);simpa using this
  intro a b ha hb;rcases Nat.le_total a b with h | h
  ·exact key a b h hb
  ·have:=key b a h ha;unfold jz at this ⊢;rw [pV,pW];exact this
 refine ⟨{
  pos:=List.length_pos_iff.2 x3
  rfl':=fun a ha=>rZ hP ha
  tr:=fun a b c ha hb hc=>yu hP ha hb hc
  O5:=fun a b ha hb h6 h7=>by
   have:=eZ h4 a ha;unfold pT at this;rw [List.any_eq_false] at this;have:=this b (by simpa using hb);simp only [Bool.and_eq_true,decide_eq_true_eq,not_and] at this;rcases Nat.lt_trichotomy a b with h8 | h8 | h8
   ·exact (this (by omega) h6 h7).elim
   ·exact h8
   ·exact (this (by omega) h6 h7).elim
  jn:=fun a b ha hb=>by
   have:=Gz a b ha hb;unfold jz at this;simp only [Bool.or_eq_false_iff,Option.isNone_eq_false_iff] at this;exact Option.isSome_iff_exists.1 this.1
  mt:=fun a b ha hb=>by
   have:=Gz a b ha hb;unfold jz at this;simp only [Bool.or_eq_false_iff,Option.isNone_eq_false_iff] at this
   exact Option.isSome_iff_exists.1 this.2 },Pg⟩
def cB (s:Sch) (ap:List Nat) (js:List Int):Lx:=⟨au s.af,ap,closeR (cR s.af.length (dG (au s.af) s.order)) s.af.length,js,fQ s.af.length (dG (au s.af) s.order)⟩
theorem HU {s:Sch} {d:DV} (h:(latF s.af s.order).1=0) (hd:Lc s.af s.order d) (hw:s.af.length<=1099511627776):∃ ap js,(cB s ap js).OK/\d=(cB s ap js).pd:=by
 obtain ⟨ap,js,hT,gJ,qN,CQ,rfl⟩:=hd;obtain ⟨h1,h2⟩:=ql h;refine ⟨ap,js,⟨hT,by show ap.length<=_;omega,?_,?_,?_⟩,rfl⟩
 ·show dA _ (au s.af).length;rw [dn];exact h1
 ·show (au s.af).length<=32;rw [dn];exact h2
 ·show ∀ x y,x < (au s.af).length->y < (au s.af).length->JM _ (au s.af).length js x y;rw [dn];exact CQ
def fU (s:Sch) (l:List Wd):Int:=yC (fQ s.af.length (dG (au s.af) s.order)) (au s.af) l
def n8 (s:Sch) (t:Ty):Ft:=knT ⟨au s.af,[],[],[],fun _ _=>false⟩ (tL s) t
mutual
theorem sq {X Y:Lx} (h:X.ae=Y.ae) (L:List ByteArray):∀ t:Ty,knT X L t=knT Y L t
 | .mk h1 ps=>by rw [knT,knT,sr h L ps]
theorem sr {X Y:Lx} (h:X.ae=Y.ae) (L:List ByteArray):∀ ps:Pts,knP X L ps=knP Y L ps
 | .nil=>by rw [knP,knP]
 | .cons p t r=>by
  rw [knP,knP,sr h L r,sq h L t];unfold Lx.bad;rw [h]
end
theorem Lm (s:Sch) (ap:List Nat) (js:List Int) (t:Ty):knT (cB s ap js) (tL s) t=n8 s t:=sq (X:=cB s ap js) (Y:=⟨au s.af,[],[],[],fun _ _=>false⟩) rfl (tL s) t
def kS (s:Sch):Ft:=
 if (latF s.af s.order).1≠0 then latF s.af s.order
 else if (eA s).1≠0 then eA s
 else if (eaR s.root s.types 0).1.1≠0 then (eaR s.root s.types 0).1
 else if (eaL (n8 s) (n8 s s.root) s.types).1≠0 then eaL (n8 s) (n8 s s.root) s.types
 else loopF s
def ndsAll (lev:List Wd->Int) (s:Sch):List (Wd × Ty)->Nat->List Nd
 | [],_=>[]
 | x :: r,k=>ndsT lev s x.2 k ++ ndsAll lev s r (k + x.2.nn)
def qm (s:Sch):List Nd:=ndsAll (fU s) s s.types 0
def bW (s:Sch):List Nd:=qm s ++ ndsT (fU s) s s.root (qm s).length
def ch (s:Sch):Int:=tN s s.root (qm s).length
def JB (s:Sch) (ap gF:List Nat) (js:List Int):List DV:=
 [(cB s ap js).pd,.sl 7 (dQ (bW s)) none,.v (.int .i64 (ch s)),.pt (bK (tL s) gF) 0,.sl 1 (dInts (namedL s)) none]
def EX (s:Sch) (d:DV):Prop:=∃ ap gF js,(cB s ap js).OK/\dY (tL s) gF/\gF.length<=s.types.length/\d = .pt (JB s ap gF js) 0
def yP (s:Sch) (r:DV) (_:List (List DV)) (_:List TkE):Prop:=
 if (kS s).1≠0 then r = .tup [.v (.pointer none),(kS s).d] else ∃ d,EX s d/\r = .tup [d,Ft.d (0,0)]
theorem jC {s:Sch} {f:Ft} {os:List (List DV)} {tk:List TkE} (h:kS s=f) (hf:f.1≠0):yP s (.tup [.v (.pointer none),f.d]) os tk:=by
 unfold yP;rw [h,if_pos hf]
theorem HV {s:Sch} {d:DV} {os:List (List DV)} {tk:List TkE} (h:(kS s).1=0) (hd:EX s d):yP s (.tup [d,Ft.d (0,0)]) os tk:=by
 unfold yP;rw [if_neg (by rw [h];simp)];exact ⟨d,hd,rfl⟩
theorem EY {F:Ty->Ft} {z:Ft}:∀ {l:List (Wd × Ty)},(eaL F z l).1=0->z.1=0/\∀ x∈l,(F x.2).1=0
 | [],h=>⟨h,fun x hx=>by cases hx⟩
 | x :: r,h=>by
  rw [eaL] at h;split at h
  ·rename_i h1;exact (h1 h).elim
  ·rename_i h1;obtain ⟨h2,h3⟩:=EY h;refine ⟨h2,fun y hy=>?_⟩;rcases List.mem_cons.1 hy with rfl | hy
   ·simpa using h1
   ·exact h3 y hy
theorem EZ {z:Ty}:∀ {l:List (Wd × Ty)} {m:Int},0<=m->(eaR z l m).1.1=0->(wrong z 1 0).1.1=0/\(∀ x∈l,(wrong x.2 1 0).1.1=0)/\(eaR z l m).2=m + ((l.map fun x=>x.2.cnt).sum + z.cnt:Nat)/\(eaR z l m).2<=512
 | [],m,_,h=>by
  rw [eaR] at h ⊢;obtain ⟨h1,h2,h3,_⟩:=j2 h;exact ⟨h3,(fun x hx=>by cases hx),(by simp [h1]),h2⟩
 | x :: r,m,hm,h=>by
  rw [eaR] at h ⊢;split at h
  ·rename_i h1;exact (h1 h).elim
  ·rename_i h1;rw [if_neg h1];obtain ⟨g1,g2,g3,_⟩:=j2 (by simpa using h1);obtain ⟨h2,h3,h4,h5⟩:=EZ (by omega) h;refine ⟨h2,fun y hy=>?_,(by rw [h4,g1];simp only [List.map_cons,List.sum_cons];omega),h5⟩;rcases List.mem_cons.1 hy with rfl | hy
   ·exact g3
   ·exact h3 y hy
theorem qp (lev:List Wd->Int) (s:Sch):∀ (l:List (Wd × Ty)) (k:Nat),(ndsAll lev s l k).length=(l.map fun x=>x.2.nn).sum
 | [],_=>rfl
 | x :: r,k=>by simp only [ndsAll,List.length_append,gW,qp lev s r,List.map_cons,List.sum_cons]
theorem qq:∀ l:List (Wd × Ty),(l.map fun x=>x.2.nn).sum<=(l.map fun x=>x.2.cnt).sum
 | []=>Nat.le_refl _
 | x :: r=>by
  have:=x.2.eY;have:=qq r;simp only [List.map_cons,List.sum_cons];omega
theorem ss:∀ l:List Nd,(dQ l).flatten.length=l.length * 7
 | []=>rfl
 | a :: r=>by
  have:=ss r;simp only [dQ,List.map_cons,List.flatten_cons,List.length_append,List.length_cons] at this ⊢;rw [this];simp only [n7,List.length_cons,List.length_nil];omega
theorem HX {X:Lx} {s:Sch} {t:Ty} (h:(knT X (tL s) t).1=0):BS s t=true:=by
 obtain ⟨hd,ps⟩:=t;have:=(qi h).1;unfold BS;exact decide_eq_true this
theorem wh {s:Sch} (h:(loopF s).1=0):∀ i,i < s.types.length->∃ k,endI s (s.types.length + 1) i=some k:=by
 intro i hi;unfold loopF at h;split at h
 ·rename_i h1;have:=eZ h1 i hi;simp only [Option.isNone_eq_false_iff] at this;exact Option.isSome_iff_exists.1 this
 ·cases h
abbrev E4 (s:Sch) (ap:List Nat) (lc:List DV) (m:Int) (f1 f2:Int) (n:Nat) (base:List DV) (e:Nat):St:=
 ⟨[(1,⟨[],.loc 4 0⟩),(3,⟨[],.loc 3 0⟩),(6,⟨[],.loc 0 0⟩),(59,⟨[],.sl 11 (dNms s.types) none⟩),(60,⟨[],.v (.int .i64 (dNms s.types).length)⟩),(61,⟨[],.v (.int .i64 e)⟩)],
  [bC s (.pt lc 0) (.loc 1 0) m,CR s ap lc n,[.v (.int .i64 f1),.v (.int .i64 f2)],[.v (.int .i64 0),.v (.int .i64 0)],OO s],[yM n base]⟩
theorem yQ (s:Sch) (hs:s.wt<=1099511627776):Ev Tryz.prog 16 [.agg (OO s)] [] [] (yP s):=by
 have hF:=kS.eq_1 s;have hw:=hs;simp only [Sch.wt] at hw;have hwl:=cw s.af;have QF:=mQ s.types;have Ho:=vR s.af s.order (by omega) (by omega);have nX:=fun lc=>tM s lc (by omega)
 have cM:∀ t,(t=s.root∨∃ x∈s.types,t=x.2)->t.wt<=1099511627776:=fun t ht=>by
  rcases ht with rfl | ⟨x,hx,rfl⟩
  ·omega
  ·have:=gO hx;omega
 have Pj:=fun lc ap=>yI s lc ap 0 (by omega) (by omega) (by omega) cM;have Pk:=fun (X:Lx) (hX:X.OK) (ap:List Nat) (hT:dY (tL s) ap) (gJ:ap.length<=1099511627776) (m:Int)=>BT s X.pd (yH s ap (dW X.ae (bK X.ae X.ap) X.rows X.js)) m (by omega) 47 KG (knT X (tL s)) (fun t ht=>qf hX s ap (.pt (dW X.ae (bK X.ae X.ap) X.rows X.js) 0) (.v (.slice none 0 0)) (.v (.int .i64 0)) (.v (.slice none 0 0)) m hT gJ t.wt t (Nat.le_refl _) (cM t ht))
 have Ln:(eA s).1=0->s.types.length<=64:=fun h=>by
  unfold eA at h;split at h
  ·cases h
  ·omega
 have hLx:=fun d h hd=>@HU s d h hd (by omega);have JC:=fun (lat:DV) (ap:List Nat) (a b c e0:DV) (m:Int)=>yF s lat ap a b c e0 m;have E5:=fun (lc:List DV) (ap:List Nat) (m:Int)=>v8 s lc ap m;have gX:=fun (X:Lx) (hX:X.OK) (ap:List Nat) (m:Int) (hT:dY (tL s) ap) (gJ:ap.length<=1099511627776) (t:Ty) (ht:t.wt<=1099511627776)=>sk hX s ap m hT gJ t.wt t (Nat.le_refl _) ht;refine ev_go (P:=Tryz.prog) tt tt_ok 5000 85 [.tmp 2,.cell 3 54] Tryz.func16 rfl Tryz.ntmps16 rfl (nL rfl) (fun E9 w9 hn9 hm9=>?_);generalize hS:s=S at *;obtain ⟨af,order,types,⟨rh,rp⟩⟩:=s;subst hS;refine bP RA rfl Ho ax (fun r hr=>?_);by_cases hL:(latF af order).1≠0
 ·have Qx:=hL;rw [if_pos (show (latF (Sch.mk af order types (.mk rh rp)).af (Sch.mk af order types (.mk rh rp)).order).1≠0 from hL)] at hF;unfold yy at hr;rw [if_pos (show (latF (Sch.mk af order types (.mk rh rp)).af (Sch.mk af order types (.mk rh rp)).order).1≠0 from hL)] at hr;subst hr;refine br (fun h=>?_) (fun h=>?_)
  ·refine aZ mo (by decide +kernel) ?_;exact ⟨_,ax,jC (os:=[]) (tk:=[]) hF hL⟩
  ·exfalso;simp at h;exact hL h
 unfold yy at hr;rw [if_neg (show ¬ (latF (Sch.mk af order types (.mk rh rp)).af (Sch.mk af order types (.mk rh rp)).order).1≠0 from hL)] at hF hr;obtain ⟨d,hd,rfl⟩:=hr;have hL0:(latF af order).1=0:=by simpa using hL
 obtain ⟨ap,js,hX,rfl⟩:=hLx d hL0 hd;generalize Lo:cB ⟨af,order,types,.mk rh rp⟩ ap js=X at hX;refine br (fun h=>?_) (fun _=>?_)
 ·exfalso;simp at h;exact hL h
 refine ct.Pe 0 4 rfl rfl rfl rfl (ct.Pe 1 3 rfl rfl rfl rfl ?_);refine fj 2 0 RB rfl rfl rfl aL aL (nX (dW X.ae (bK X.ae X.ap) X.rows X.js)) (fun r dT bi hΦ h1 h2=>?_);obtain ⟨rfl,Bs⟩:=hΦ;have h2:=List.eq_nil_of_length_eq_zero h2;subst h2;by_cases yK:(eA ⟨af,order,types,.mk rh rp⟩).1≠0
 ·rw [if_pos yK] at hF
  obtain ⟨a,b,rfl⟩:∃ a b,dT=[a,b]:=by
   match dT,h1 with
   | [a,b],_=>exact ⟨a,b,rfl⟩
  refine br (fun h=>?_) (fun h=>?_)
  ·refine aZ mo (by decide +kernel) ?_;exact ⟨_,ax,jC (os:=[]) (tk:=[]) hF yK⟩
  ·exfalso;simp at h;exact yK h
 rw [if_neg yK] at hF;have Pl:(eA ⟨af,order,types,.mk rh rp⟩).1=0:=by simpa using yK
 have E6:=Ln Pl;obtain ⟨gF,hT,gJ,rfl⟩:=Bs Pl;refine br (fun h=>?_) (fun _=>?_)
 ·exfalso;simp at h;exact yK h
 refine fj 2 0 Nn rfl rfl rfl aL aL (Pj (dW X.ae (bK X.ae X.ap) X.rows X.js) gF) (fun r dT bi hΦ h1 h2=>?_);obtain ⟨rfl,rfl⟩:=hΦ;have h2:=List.eq_nil_of_length_eq_zero h2;subst h2;by_cases hR:(eaR (.mk rh rp) types 0).1.1≠0
 ·rw [if_pos (show (eaR (Sch.mk af order types (.mk rh rp)).root (Sch.mk af order types (.mk rh rp)).types 0).1.1≠0 from hR)] at hF;refine br (fun h=>?_) (fun h=>?_)
  ·refine aZ mo (by decide +kernel) ?_;exact ⟨_,ax,jC (os:=[]) (tk:=[]) hF hR⟩
  ·exfalso;simp at h;exact hR h
 rw [if_neg (show ¬ (eaR (Sch.mk af order types (.mk rh rp)).root (Sch.mk af order types (.mk rh rp)).types 0).1.1≠0 from hR)] at hF;have hR0:(eaR (.mk rh rp) types 0).1.1=0:=by simpa using hR
 refine br (fun h=>?_) (fun _=>?_)
 ·exfalso;simp at h;exact hR h
 have UA:=Pk X hX gF hT (by have:types.length<=64:=E6;have:gF.length<=types.length:=gJ;omega) (eaR (.mk rh rp) types 0).2;have Lp:∀ t,knT X (tL ⟨af,order,types,.mk rh rp⟩) t=n8 ⟨af,order,types,.mk rh rp⟩ t:=fun t=>by rw [<- Lo];exact Lm _ _ _ t
 have Lq:eaL (knT X (tL ⟨af,order,types,.mk rh rp⟩)) (knT X (tL ⟨af,order,types,.mk rh rp⟩) (.mk rh rp)) types=eaL (n8 ⟨af,order,types,.mk rh rp⟩) (n8 ⟨af,order,types,.mk rh rp⟩ (.mk rh rp)) types:=by
  rw [show knT X (tL ⟨af,order,types,.mk rh rp⟩)=n8 ⟨af,order,types,.mk rh rp⟩ from funext Lp]
 refine Ak Nn UA ax rfl rfl ?_;by_cases hK:(eaL (n8 ⟨af,order,types,.mk rh rp⟩) (n8 ⟨af,order,types,.mk rh rp⟩ (.mk rh rp)) types).1≠0
 ·rw [if_pos (show (eaL (n8 ⟨af,order,types,.mk rh rp⟩) (n8 ⟨af,order,types,.mk rh rp⟩ (Sch.mk af order types (.mk rh rp)).root) (Sch.mk af order types (.mk rh rp)).types).1≠0 from hK)] at hF;refine br (fun h=>?_) (fun h=>?_)
  ·refine aZ mo (by decide +kernel) ?_;refine ⟨.tup [.v (.pointer none),(eaL (knT X (tL ⟨af,order,types,.mk rh rp⟩)) (knT X (tL ⟨af,order,types,.mk rh rp⟩) (.mk rh rp)) types).d],ax,?_⟩;rw [Lq];exact jC (os:=[]) (tk:=[]) hF hK
  ·exfalso;simp only [Lq] at h;simp at h;exact hK h
 rw [if_neg (show ¬ (eaL (n8 ⟨af,order,types,.mk rh rp⟩) (n8 ⟨af,order,types,.mk rh rp⟩ (Sch.mk af order types (.mk rh rp)).root) (Sch.mk af order types (.mk rh rp)).types).1≠0 from hK)] at hF;have UB:(eaL (n8 ⟨af,order,types,.mk rh rp⟩) (n8 ⟨af,order,types,.mk rh rp⟩ (.mk rh rp)) types).1=0:=by simpa using hK
 refine br (fun h=>?_) (fun _=>?_)
 ·exfalso;have h:(!decide ((eaL (knT X (tL ⟨af,order,types,.mk rh rp⟩)) (knT X (tL ⟨af,order,types,.mk rh rp⟩) (.mk rh rp)) types).1=0))=true:=h;rw [Lq,UB] at h;simp at h
 have ml:wdsWt af + prsWt order + nmsWt types + (Ty.mk rh rp).wt<=1099511627776:=hw;have SC:nmsWt types<=1099511627776:=by omega
 obtain ⟨hkr,C6⟩:=EY UB;have SD:(knT X (tL ⟨af,order,types,.mk rh rp⟩) (.mk rh rp)).1=0:=by rw [Lp];exact hkr
 have Pm:∀ x∈types,(knT X (tL ⟨af,order,types,.mk rh rp⟩) x.2).1=0:=fun x hx=>by rw [Lp];exact C6 x hx
 have Pn:∀ x∈types,BS ⟨af,order,types,.mk rh rp⟩ x.2=true:=fun x hx=>HX (Pm x hx);have HY:gF.length<=1099511627776:=by have:types.length<=64:=E6;have:gF.length<=types.length:=gJ;omega
 refine Ak RC (JC X.pd gF X.pd (.v (.slice none 0 0)) (.v (.int .i64 0)) (.v (.slice none 0 0)) (eaR (.mk rh rp) types 0).2 hT HY E6 Pn) ax rfl rfl ?_;by_cases hO:(loopF ⟨af,order,types,.mk rh rp⟩).1≠0
 ·refine br (fun h=>?_) (fun h=>?_)
  ·refine aZ mo (by decide +kernel) ?_;exact ⟨_,ax,jC (os:=[]) (tk:=[]) hF hO⟩
  ·exfalso;simp at h;exact hO h
 have UC:(loopF ⟨af,order,types,.mk rh rp⟩).1=0:=by simpa using hO
 have hF0:(kS ⟨af,order,types,.mk rh rp⟩).1=0:=by rw [hF];exact UC
 refine br (fun h=>?_) (fun _=>?_)
 ·exfalso;simp at h;exact hO h
 refine fj 2 0 RD rfl rfl rfl aL aL (E5 (dW X.ae (bK X.ae X.ap) X.rows X.js) gF (eaR (.mk rh rp) types 0).2 hT HY E6 Pn SC (wh UC)) (fun r dT bi hΦ h1 h2=>?_);subst hΦ;have h2:=List.eq_nil_of_length_eq_zero h2;subst h2;clear nX Pj Pk JC E5 UA Ho;have hN:(dNms types).length=types.length:=fN types;obtain ⟨Po,GB,hcm,Pp⟩:=EZ (Int.le_refl 0) hR0;generalize (eaR (.mk rh rp) types 0).2=m at hcm Pp ⊢
 refine aw (fun j st=>∃ (e n:Nat) (base:List DV) (N:List Nd),st=E4 ⟨af,order,types,.mk rh rp⟩ gF (dW X.ae (bK X.ae X.ap) X.rows X.js) m (loopF ⟨af,order,types,.mk rh rp⟩).1 (loopF ⟨af,order,types,.mk rh rp⟩).2 n base e/\e<=types.length/\n=N.length/\base=(dQ N).flatten/\N ++ ndsAll (fU ⟨af,order,types,.mk rh rp⟩) ⟨af,order,types,.mk rh rp⟩ (types.drop e) n=qm ⟨af,order,types,.mk rh rp⟩/\j=types.length - e) types.length
  (E4 ⟨af,order,types,.mk rh rp⟩ gF (dW X.ae (bK X.ae X.ap) X.rows X.js) m (loopF ⟨af,order,types,.mk rh rp⟩).1 (loopF ⟨af,order,types,.mk rh rp⟩).2 0 [] 0) (dI 5 ⟨0,125,7,some []⟩ rfl rfl rfl (by repeat' (first | exact rfl | exact ai rfl | exact bp (Nat.le_refl _) rfl | exact bp (Nat.le_refl _) rfl | refine ⟨_,_,rfl,?_,?_⟩)) rfl rfl Gv) ⟨0,0,[],[],rfl,by omega,rfl,rfl,rfl,by omega⟩ ?_
 rintro j st ⟨e,n,base,N,rfl,he,hn,GW,Mn,rfl⟩;have UD:types.length<=64:=E6;have Pq:X.lev=fU ⟨af,order,types,.mk rh rp⟩:=by rw [<- Lo];all_goals rfl
 have htot:(qm ⟨af,order,types,.mk rh rp⟩).length + (Ty.mk rh rp).nn<=512:=by
  have h1:=qq types;have h2:=(Ty.mk rh rp).eY;have h3:(qm ⟨af,order,types,.mk rh rp⟩).length=(types.map fun x=>x.2.nn).sum:=qp _ _ _ _;omega
 have hbl:base.length=n * 7:=by rw [GW,hn,ss]
 have Me:n + (ndsAll (fU ⟨af,order,types,.mk rh rp⟩) ⟨af,order,types,.mk rh rp⟩ (types.drop e) n).length=(qm ⟨af,order,types,.mk rh rp⟩).length:=by rw [<- Mn,List.length_append,hn]
 refine br (fun hL=>?_) (fun hL=>?_)
 ·have aq:e < types.length:=by have:=hL;simp [hN] at this;exact this
  obtain ⟨x,hx⟩:∃ x,types[e]? = some x:=⟨_,gE aq⟩;have UE:=mG hx;rw [drop_cons hx,ndsAll] at Mn Me;rw [List.length_append] at Me;have iX:=gW (fU ⟨af,order,types,.mk rh rp⟩) ⟨af,order,types,.mk rh rp⟩ x.2 n;have Lg:=gX X hX gF m hT HY x.2 (cM x.2 (.inr ⟨x,UE,rfl⟩)) (Pm x UE) n base (by omega) hbl;rw [Pq] at Lg;obtain ⟨xw,⟨xh,xp⟩⟩:=x;refine ⟨_,⟨by omega,dNms_get hx⟩,?_⟩;refine fj 2 1 Hm rfl rfl rfl aL aL Lg (fun r dT bi hΦ h1 h2=>?_);obtain ⟨rfl,rfl,rfl⟩:=hΦ;refine ⟨E4 ⟨af,order,types,.mk rh rp⟩ gF (dW X.ae (bK X.ae X.ap) X.rows X.js) m (loopF ⟨af,order,types,.mk rh rp⟩).1 (loopF ⟨af,order,types,.mk rh rp⟩).2 (n + (ndsT (fU ⟨af,order,types,.mk rh rp⟩) ⟨af,order,types,.mk rh rp⟩ (.mk xh xp) n).length) (base ++ (dQ (ndsT (fU ⟨af,order,types,.mk rh rp⟩) ⟨af,order,types,.mk rh rp⟩ (.mk xh xp) n)).flatten) (e + 1),(aH 5 rfl (G6 aq) rfl rfl rfl (wNB aq)),types.length - (e + 1),by omega,e + 1,_,_,N ++ ndsT (fU ⟨af,order,types,.mk rh rp⟩) ⟨af,order,types,.mk rh rp⟩ (.mk xh xp) n,rfl,by omega,by rw [List.length_append,hn],by rw [GW];simp [dQ],?_,rfl⟩;rw [List.append_assoc,iX];exact Mn
 have bJ:e=types.length:=by have:=hL;simp [hN] at this;omega
 subst bJ;rw [List.drop_length,ndsAll,List.append_nil] at Mn;rw [List.drop_length,ndsAll,List.length_nil,Nat.add_zero] at Me;have Qb:=gX X hX gF m hT HY (.mk rh rp) (by omega) SD n base (by omega) hbl;rw [Pq] at Qb;intro E a w hr;have iR:=jg hr;obtain ⟨b0,ty0,xP,eG,hw0,Db⟩:=iR.env.cL 0 _ rfl;obtain ⟨b1,ty1,arr1,fD,Jp,A9⟩:=iR.env.cL 1 _ rfl;obtain ⟨v13,SE,Pr⟩:=RvL.get (i:=13) (d:=.loc 1 0) Db.1 rfl
 have Ps:v13 = .pointer (some ⟨b1,0,none⟩):=by
  unfold Rv at Pr;obtain ⟨b,hb,rfl⟩:=Pr;rw [fD] at hb;simp only [oI] at hb;rw [hb]
 subst Ps
 have ji:w.drew.cell? ⟨b0,13,none⟩=some (.pointer (some ⟨b1,0,none⟩)):=by
  rw [bB hw0];simpa using SE
 have Kw:=HP iR.env [0,1,2,3];generalize qW:maskL [0,1,2,3] 0 _=SG at Kw
 have SI:∀ (i:Nat) cs,SG[i]? = some cs->cs ≠ []->2<=i:=fun i cs hi aM=>by
  rw [<- qW] at hi
  match i,hi with
  | 0,hi=>exact (aM (by simpa [maskL] using hi.symm)).elim
  | 1,hi=>exact (aM (by simpa [maskL] using hi.symm)).elim
  | i + 2,_=>omega
 refine gx (C:=fun w'=>CC E SG w.drew w' /\ w'.cell? ⟨b0,13,none⟩=some (.pointer (some ⟨b1,0,none⟩))) (W:=fun i=>Nat.beq i 10) (Q:=fun a w=>kq _ _ .normal a w) mo (by decide +kernel) (fun _ _ h=>h) ⟨⟨fun _ _ _ _ _ _=>rfl,iR.env.sub⟩,ji⟩ ?_;show Go.Proofs.YtfifjddnnmfeoaaGreat.Dv.runT _ _ _ _ _ [0,1,2,3,4,5,6,7,8,9,10] _ _;refine iK iR rfl rfl rfl rfl rfl rfl (fun a0 h0=>?_);refine iK h0 rfl rfl rfl rfl rfl rfl (fun a1 h1=>?_);refine iK h1 rfl rfl rfl rfl rfl rfl (fun a2 h2=>?_);refine HR h2 rfl fD rfl rfl eG rfl rfl (fun w' h=>h.2) ⟨⟨fun _ _ _ _ _ _=>rfl,iR.env.sub⟩,ji⟩ rfl rfl (fun a3 h3=>?_);refine iK h3 rfl rfl rfl rfl rfl rfl (fun a4 h4=>?_);refine iK h4 rfl rfl rfl rfl rfl rfl (fun a5 h5=>?_);refine HQ h5 rfl (bx:=SG) (HO h5 Kw (fun w' h=>h.1)) ⟨⟨fun _ _ _ _ _ _=>rfl,iR.env.sub⟩,ji⟩ rfl rfl (by rw [<- qW];rfl) rfl (fun a6 h6=>?_);refine HS h6 rfl rfl rfl rfl rfl rfl Hm 2 1 rfl rfl aL aL Qb rfl rfl ?_;intro v r dT bi E' w' hΦ _ _ bA CO hx hβ hh;obtain ⟨rfl,rfl,rfl⟩:=hΦ;refine ⟨fun _ hC=>⟨⟨fun i b cs hb bE aM=>?_,fun x v Qt=>bA.env.sub x v (hx.c x v Qt)⟩,?_⟩,?_⟩
 ·exact hh i b (SI i cs bE aM) hb
 ·obtain ⟨b0',ty0',UF,Lr,SJ,SK⟩:=bA.env.cL 0 _ rfl;rw [hβ,eG] at Lr;simp only [oI] at Lr;subst Lr;obtain ⟨u13,SL,Pt⟩:=RvL.get (i:=13) (d:=.loc 1 0) SK.1 rfl;unfold Rv at Pt;obtain ⟨b,hb,rfl⟩:=Pt;rw [hβ,fD] at hb;simp only [oI] at hb;subst hb;rw [bB SJ];simpa using SL
 have h7:=aG (dst:=some 77) bA rfl _ v CO;have QG:(qm ⟨af,order,types,.mk rh rp⟩).length=n:=by rw [<- Mn,hn]
 have oR:base ++ (dQ (ndsT (fU ⟨af,order,types,.mk rh rp⟩) ⟨af,order,types,.mk rh rp⟩ (.mk rh rp) n)).flatten=(dQ (bW ⟨af,order,types,.mk rh rp⟩)).flatten:=by
  unfold bW;rw [QG,<- Mn,GW];simp [dQ]
 have Pu:(dQ (bW ⟨af,order,types,.mk rh rp⟩)).length=n + (ndsT (fU ⟨af,order,types,.mk rh rp⟩) ⟨af,order,types,.mk rh rp⟩ (.mk rh rp) n).length:=by
  unfold bW;rw [QG];simp [dQ,QG]
 obtain ⟨E3,h8⟩:=HT h7 1 1 0 (ns:=dQ (bW ⟨af,order,types,.mk rh rp⟩)) (congrArg (fun b=>some (yM (n + (ndsT (fU ⟨af,order,types,.mk rh rp⟩) ⟨af,order,types,.mk rh rp⟩ (.mk rh rp) n).length) b)) oR) (fun x hx=>by
  simp only [dQ,List.mem_map] at hx;obtain ⟨y,_,rfl⟩:=hx
  rfl) Pu rfl rfl List.length_replicate
 refine iK h8 rfl rfl rfl rfl rfl rfl (fun a8 h9=>?_);refine iK h9 rfl rfl rfl rfl rfl rfl (fun a9 ly=>?_);refine B0 ly rfl rfl rfl rfl rfl rfl ?_;refine ⟨.tup [.pt [X.pd,.sl 7 (dQ (bW ⟨af,order,types,.mk rh rp⟩)) none,.v (.int .i64 (tN ⟨af,order,types,.mk rh rp⟩ (.mk rh rp) n)),.pt (bK (tL ⟨af,order,types,.mk rh rp⟩) gF) 0,.sl 1 (dInts (namedL ⟨af,order,types,.mk rh rp⟩)) none] 0,Ft.d (0,0)],ax,HV (os:=[]) (tk:=[]) hF0 ⟨ap,gF,js,by rw [Lo];exact hX,hT,gJ,?_⟩⟩;rw [JB,Lo,ch,QG]
theorem HZ (es:List (List DV)) (hl:es.length<=1099511627776):Ev Tryz.prog 111 [.sl 1 es none] [] [] (fun r _ _=>r = .sl 1 es none∨(es=[]/\r = .v (.slice none 0 0))):=by
 refine ev_go (P:=Tryz.prog) tt tt_ok 5000 8 [.tmp 2] Tryz.func111 rfl Tryz.ntmps111 rfl (nL rfl) (fun E9 w9 hn9 hm9=>?_);refine EW ⟨_,rfl⟩ rfl rfl rfl rfl (fun b hb=>?_);refine br (fun h=>?_) (fun h=>?_)
 ·have h:b=true:=h;have he:es=[]:=Classical.byContradiction fun hn=>by rw [hb hn] at h;cases h
  subst he;exact Or.inr ⟨rfl,rfl⟩
 ·refine wg rfl rfl rfl rfl (hk:=?_);refine ⟨rfl,⟨by simp [maxLen];omega,by simp;omega⟩,?_⟩;exact ⟨_,ax,Or.inl rfl⟩
theorem H0 (es:List (List DV)) (hl:es.length<=1099511627776):Ev Tryz.prog 112 [.sl 10 es none] [] [] (fun r _ _=>r = .sl 10 es none∨(es=[]/\r = .v (.slice none 0 0))):=by
 refine ev_go (P:=Tryz.prog) tt tt_ok 5000 8 [.tmp 2] Tryz.func112 rfl Tryz.ntmps112 rfl (nL rfl) (fun E9 w9 hn9 hm9=>?_);refine EW ⟨_,rfl⟩ rfl rfl rfl rfl (fun b hb=>?_);refine br (fun h=>?_) (fun h=>?_)
 ·have h:b=true:=h;have he:es=[]:=Classical.byContradiction fun hn=>by rw [hb hn] at h;cases h
  subst he;exact Or.inr ⟨rfl,rfl⟩
 ·refine wg rfl rfl rfl rfl (hk:=?_);refine ⟨rfl,⟨by simp [maxLen];omega,by simp;omega⟩,?_⟩;exact ⟨_,ax,Or.inl rfl⟩
def Pv (lc:List DV) (uH:List Nd) (root:Int) (L:List ByteArray) (ap:List Nat) (named:List Nat):DV:=.pt [.pt lc 0,.sl 7 (dQ uH) none,.v (.int .i64 root),.pt (bK L ap) 0,.sl 1 (dInts named) none] 0
theorem E7 (l:List Nd):(dQ l).length=l.length:=by simp [dQ]
theorem E8 {l:List Nd} {i:Nat} {n:Nd} (h:l[i]? = some n):(dQ l)[i]? = some (n7 n):=by simp [dQ,h]
section
variable (lc:List DV) (uH:List Nd) (root:Int) (L:List ByteArray) (ap:List Nat) (named:List Nat)
theorem mZ:EvP Tryz.prog 110 [Pv lc uH root L ap named] (.v (.int .i64 uH.length)):=by
 refine ev_go (P:=Tryz.prog) tt tt_ok 5000 10 [.tmp 2] Tryz.func110 rfl Tryz.ntmps110 rfl (nL rfl) (fun E9 w9 hn9 hm9=>?_);refine (congrArg (fun z=>DV.v (.int .i64 z)) ?_:_=_);rw [E7]
theorem yR:EvP Tryz.prog 19 [Pv lc uH root L ap named] (.v (.int .i64 root)):=by
 refine ev_go (P:=Tryz.prog) tt tt_ok 5000 9 [.tmp 2] Tryz.func19 rfl Tryz.ntmps19 rfl (nL rfl) (fun E9 w9 hn9 hm9=>?_);exact (rfl:_=_)
theorem B1:EvP Tryz.prog 38 [Pv lc uH root L ap named] (.pt lc 0):=by
 refine ev_go (P:=Tryz.prog) tt tt_ok 5000 9 [.tmp 2] Tryz.func38 rfl Tryz.ntmps38 rfl (nL rfl) (fun E9 w9 hn9 hm9=>?_);exact ⟨_,ax,rfl⟩
theorem yS (i:Nat) (n:Nd) (h:uH[i]? = some n) (hn:n.ae.length<=1099511627776) (he:n.ay.length<=1099511627776) :
  EvP Tryz.prog 51 [Pv lc uH root L ap named,.v (.int .i64 i)] (.tup [.agg (n7 n),.v (.bool true)]):=by
 have aq:=(gS h).1;have hlen:=mZ lc uH root L ap named;have A9:=HZ (cD n.ae) (by rw [bl];exact hn);have j8:=H0 (gD n.ay) (by rw [dR];exact he);refine ev_go (P:=Tryz.prog) tt tt_ok 5000 32 [.cell 4 125,.tmp 5] Tryz.func51 rfl Tryz.ntmps51 rfl (nL rfl) (fun E9 w9 hn9 hm9=>?_);refine call_p IQ (hlen) ax rfl ?_;refine br (fun g=>?_) (fun g=>?_)
 ·exfalso;simp [pickB] at g;omega
 refine ⟨_,⟨by omega,E8 h⟩,?_⟩;refine aZ mo (by decide +kernel) ?_;refine lG Nz rfl A9 ax (fun r1 hr1=>?_);rcases hr1 with rfl | ⟨h1,rfl⟩
 ·refine lG IU rfl j8 ax (fun r2 jb=>?_);rcases jb with rfl | ⟨h2,rfl⟩
  ·exact ⟨.tup [.agg (n7 n),.v (.bool true)],ax,rfl⟩
  ·exact ⟨.tup [.agg (n7 n),.v (.bool true)],(by repeat' (first | exact rfl | exact trivial | exact Or.inr (Or.inl ⟨_,rfl⟩) | exact Or.inr ⟨_,rfl⟩ | exact Or.inl ⟨rfl,rfl⟩ | exact Or.inl rfl | refine Or.inr ⟨_,_,rfl,Nat.zero_le _,rfl,?_⟩ | refine ⟨_,_,rfl,?_,?_⟩ | refine ⟨_,rfl,?_⟩ | exact Or.inl ⟨h2,rfl⟩ | refine Or.inr (Or.inr (Or.inr ⟨_,_,rfl,?_⟩)) | exact Or.inl rfl | refine Or.inr ?_)),rfl⟩
 ·refine lG IU rfl j8 ax (fun r2 jb=>?_);rcases jb with rfl | ⟨h2,rfl⟩
  ·exact ⟨.tup [.agg (n7 n),.v (.bool true)],(by repeat' (first | exact rfl | exact trivial | exact Or.inr (Or.inl ⟨_,rfl⟩) | exact Or.inr ⟨_,rfl⟩ | exact Or.inl ⟨rfl,rfl⟩ | exact Or.inl rfl | refine Or.inr ⟨_,_,rfl,Nat.zero_le _,rfl,?_⟩ | refine ⟨_,_,rfl,?_,?_⟩ | refine ⟨_,rfl,?_⟩ | exact Or.inl ⟨h1,rfl⟩ | refine Or.inr (Or.inr (Or.inr ⟨_,_,rfl,?_⟩)) | exact Or.inl rfl | refine Or.inr ?_)),rfl⟩
  ·exact ⟨.tup [.agg (n7 n),.v (.bool true)],(by repeat' (first | exact rfl | exact trivial | exact Or.inr (Or.inl ⟨_,rfl⟩) | exact Or.inr ⟨_,rfl⟩ | exact Or.inl ⟨rfl,rfl⟩ | exact Or.inl rfl | refine Or.inr ⟨_,_,rfl,Nat.zero_le _,rfl,?_⟩ | refine ⟨_,_,rfl,?_,?_⟩ | refine ⟨_,rfl,?_⟩ | exact Or.inl ⟨h1,rfl⟩ | exact Or.inl ⟨h2,rfl⟩ | refine Or.inr (Or.inr (Or.inr ⟨_,_,rfl,?_⟩)) | exact Or.inl rfl | refine Or.inr ?_)),rfl⟩
theorem yT (i:Int) (h:i < 0∨uH.length<=i) :
  EvP Tryz.prog 51 [Pv lc uH root L ap named,.v (.int .i64 i)] (.tup [.agg [.v (.int .i64 0),.v (.int .i64 0),.v (.int .i64 0),.v (.int .i64 0),.v (.int .i64 0),.v (.slice none 0 0),.v (.slice none 0 0)],.v (.bool false)]):=by
 have hlen:=mZ lc uH root L ap named;refine ev_go (P:=Tryz.prog) tt tt_ok 5000 32 [.cell 4 125,.tmp 5] Tryz.func51 rfl Tryz.ntmps51 rfl (nL rfl) (fun E9 w9 hn9 hm9=>?_);refine br (fun g=>?_) (fun g=>?_)
 ·refine call_p IQ (hlen) ax rfl ?_;refine br (fun g2=>?_) (fun g2=>?_)
  ·exact ⟨_,ax,rfl⟩
  ·exfalso;simp at g;simp [pickB,g] at g2;omega
 ·exact ⟨_,ax,rfl⟩
end
def samePrs:List (Wd × Wd)->List (Wd × Wd)->Bool
 | [],[]=>true
 | x :: r,y :: s=>(decide (x.1.s=y.1.s) && decide (x.2.s=y.2.s)) && samePrs r s
 | _,_=>false
def sameNms:List (Wd × Ty)->List (Wd × Ty)->Bool
 | [],[]=>true
 | x :: r,y :: s=>(decide (x.1.s=y.1.s) && sameTy x.2 y.2) && sameNms r s
 | _,_=>false
def zT (a b:Sch):Bool:=sameWds a.af b.af && samePrs a.order b.order && sameTy a.root b.root && sameNms a.types b.types
end Go.Proofs.YtfifjddnnmfeoaaGreat
set_option maxRecDepth 100000
namespace Go.Proofs.YtfifjddnnmfeoaaGreat
open Go Go.RowKit Dv Tryz
end Go.Proofs.YtfifjddnnmfeoaaGreat
set_option maxRecDepth 100000
namespace Go.Proofs.YtfifjddnnmfeoaaGreat
open Go Go.RowKit Dv Tryz
end Go.Proofs.YtfifjddnnmfeoaaGreat
set_option maxRecDepth 100000
namespace Go.Proofs.YtfifjddnnmfeoaaGreat
open Go Go.RowKit Dv Tryz
end Go.Proofs.YtfifjddnnmfeoaaGreat
set_option maxRecDepth 100000
namespace Go.Proofs.YtfifjddnnmfeoaaGreat
open Go Go.RowKit Dv Tryz
end Go.Proofs.YtfifjddnnmfeoaaGreat
set_option maxRecDepth 100000
namespace Go.Proofs.YtfifjddnnmfeoaaGreat
open Go Go.RowKit Dv Tryz
theorem j3 {n m:Nat} {bi:List TkE} {x y:Bool} (h:x=y):We n m bi (.v (.bool x)) (.v (.bool y)):=.inl ⟨by rw [h],rfl⟩
end Go.Proofs.YtfifjddnnmfeoaaGreat
set_option maxRecDepth 100000
namespace Go.Proofs.YtfifjddnnmfeoaaGreat
open Go Go.RowKit Dv Tryz
end Go.Proofs.YtfifjddnnmfeoaaGreat
set_option maxRecDepth 100000
namespace Go.Proofs.YtfifjddnnmfeoaaGreat
open Go Go.RowKit Dv Tryz
end Go.Proofs.YtfifjddnnmfeoaaGreat
set_option maxRecDepth 100000
namespace Go.Proofs.YtfifjddnnmfeoaaGreat
open Go Go.RowKit Dv Tryz
def nM (S:Sch):List Ty:=S.types.map fun x=>x.2
def kf (S:Sch):List Ty:=nM S ++ [S.root]
mutual
def flatT:Ty->List Ty
 | .mk h ps=>if h.ag=9 then [] else .mk h ps :: flatP ps
def flatP:Pts->List Ty
 | .nil=>[]
 | .cons p t r=>(if p.bare then [] else flatT t) ++ flatP r
end
mutual
theorem na:∀ t:Ty,(flatT t).length=t.nn
 | .mk h ps=>by
  have:=su ps;simp only [flatT,Ty.nn];split
  ·rfl
  ·simp only [List.length_cons];omega
theorem su:∀ ps:Pts,(flatP ps).length=ps.nn
 | .nil=>rfl
 | .cons p t r=>by
  have:=na t;have:=su r;simp only [flatP,Pts.nn,List.length_append];split
  ·simp only [List.length_nil];omega
  ·omega
end
end Go.Proofs.YtfifjddnnmfeoaaGreat
set_option maxRecDepth 100000
namespace Go.Proofs.YtfifjddnnmfeoaaGreat
open Go Go.RowKit Dv Tryz
end Go.Proofs.YtfifjddnnmfeoaaGreat
set_option maxRecDepth 100000
namespace Go.Proofs.YtfifjddnnmfeoaaGreat
open Go Go.RowKit Dv Tryz
end Go.Proofs.YtfifjddnnmfeoaaGreat
set_option maxRecDepth 100000
namespace Go.Proofs.YtfifjddnnmfeoaaGreat
open Go Go.RowKit Dv Tryz
def eaA:List Ty->Int->Ft × Int
 | [],m=>((0,0),m)
 | t :: r,m=>if (bu t m).1.1≠0 then bu t m else eaA r (bu t m).2
theorem Fa (z:Ty):∀ (l:List (Wd × Ty)) (m:Int),((eaA (l.map (fun x=>x.2) ++ [z]) m).1.1=0↔(eaR z l m).1.1=0)/\((eaR z l m).1.1≠0->eaA (l.map (fun x=>x.2) ++ [z]) m=eaR z l m)
 | [],m=>by
  show ((eaA [z] m).1.1=0↔(bu z m).1.1=0)/\((bu z m).1.1≠0->eaA [z] m=bu z m);simp only [eaA];by_cases h:(bu z m).1.1=0
  ·simp [h]
  ·simp [h]
 | x :: r,m=>by
  have ih:=Fa z r (bu x.2 m).2;simp only [List.map_cons,List.cons_append,eaA,eaR];by_cases h:(bu x.2 m).1.1=0
  ·simp only [h,ne_eq,not_true,if_false];exact ih
  ·simp [h]
def eaK (F:Ty->Ft):List Ty->Ft
 | []=>(0,0)
 | t :: r=>if (F t).1≠0 then F t else eaK F r
theorem Fb (F:Ty->Ft) (z:Ty):∀ l:List (Wd × Ty),((eaK F (l.map (fun x=>x.2) ++ [z])).1=0↔(eaL F (F z) l).1=0)/\((eaL F (F z) l).1≠0->eaK F (l.map (fun x=>x.2) ++ [z])=eaL F (F z) l)
 | []=>by
  show ((eaK F [z]).1=0↔(F z).1=0)/\((F z).1≠0->eaK F [z]=F z);simp only [eaK];by_cases h:(F z).1=0
  ·simp [h]
  ·simp [h]
 | x :: r=>by
  have ih:=Fb F z r;simp only [List.map_cons,List.cons_append,eaK,eaL];by_cases h:(F x.2).1=0
  ·simp only [h,ne_eq,not_true,if_false];exact ih
  ·simp [h]
theorem Fc {F:Ty->Ft}:∀ {l:List Ty},(eaK F l).1=0->∀ t∈l,(F t).1=0
 | [],_,t,ht=>by cases ht
 | u :: r,h,t,ht=>by
  rw [eaK] at h;split at h
  ·rename_i h1;exact (h1 h).elim
  ·rename_i h1;rcases List.mem_cons.1 ht with rfl | ht
   ·simpa using h1
   ·exact Fc h t ht
theorem H3 (S:Sch):kS S=if (latF S.af S.order).1≠0 then latF S.af S.order
 else if (eA S).1≠0 then eA S
 else if (eaA (kf S) 0).1.1≠0 then (eaA (kf S) 0).1
 else if (eaK (n8 S) (kf S)).1≠0 then eaK (n8 S) (kf S)
 else loopF S:=by
 have h1:=Fa S.root S.types 0;have h2:=Fb (n8 S) S.root S.types;unfold kS kf nM;by_cases a:(eaR S.root S.types 0).1.1=0
 ·have a':=h1.1.2 a;simp only [a,a',ne_eq,not_true,if_false];by_cases b:(eaL (n8 S) (n8 S S.root) S.types).1=0
  ·have b':=h2.1.2 b;simp only [b,b',ne_eq,not_true,if_false]
  ·rw [h2.2 b]
 ·rw [h1.2 a];by_cases b:(eaL (n8 S) (n8 S S.root) S.types).1=0
  ·have b':=h2.1.2 b;simp only [b,b',a,ne_eq,not_true,not_false_eq_true,if_false,if_true]
  ·rw [h2.2 b]
theorem H4 {S:Sch} (hs:S.wt<=1099511627776):∀ t∈kf S,t.wt<=1099511627776:=by
 intro t ht;unfold Sch.wt at hs;rcases List.mem_append.1 ht with h | h
 ·obtain ⟨x,hx,rfl⟩:=List.mem_map.1 h;have:=gO hx;omega
 ·simp only [List.mem_singleton] at h;subst h;omega
theorem cY {l:List Ed} {i:Nat} {e:Ed} (h:l[i]? = some e):(gD l)[i]? = some (xF e):=by simp [gD,h]
def Pw (lev:List Wd->Int) (s:Sch) (t:Ty) (k:Nat):Nd:=⟨t.h.ag,t.h.aC,t.h.lo,t.h.hi,t.h.most,au t.h.ae,edsP lev s t.ps (k + 1)⟩
mutual
theorem tO (lev:List Wd->Int) (s:Sch):∀ (t:Ty) (k:Nat),ndsT lev s t k=(flatT t).zipIdx.map fun x=>Pw lev s x.1 (k + x.2)
 | .mk h ps,k=>by
  have ih:=tP lev s ps (k + 1);rw [ndsT,flatT];split
  ·rfl
  ·rw [ih,List.zipIdx_cons,List.map_cons];rw [List.zipIdx_succ,List.map_map];refine congr (congrArg List.cons rfl) (List.map_congr_left fun x _=>?_);simp only [Function.comp];congr 1;omega
theorem tP (lev:List Wd->Int) (s:Sch):∀ (ps:Pts) (k:Nat),qg lev s ps k=(flatP ps).zipIdx.map fun x=>Pw lev s x.1 (k + x.2)
 | .nil,k=>rfl
 | .cons p u r,k=>by
  rw [qg,flatP,List.zipIdx_append,List.map_append]
  cases hb:p.bare with
  | true=>
   simp only [if_true,List.zipIdx_nil,List.map_nil,List.nil_append,List.length_nil,Nat.add_zero];exact tP lev s r k
  | false=>
   simp only [Bool.false_eq_true,if_false];rw [tO lev s u k,tP lev s r (k + u.nn),na];refine congrArg _ ?_;rw [List.zipIdx_eq_map_add (l:=flatP r) (i:=0 + u.nn)];rw [List.map_map];refine List.map_congr_left fun x _=>?_;simp only [Function.comp];congr 1;omega
end
theorem As {X:Lx} {L:List ByteArray}:∀ {ps:Pts},(knP X L ps).1=0->∀ {p:Ph} {u:Ty},(p,u)∈ps.toList->p.bare=false->(knT X L u).1=0
 | .nil,_,p,u,h,_=>by cases h
 | .cons q v r,hk,p,u,h,hb=>by
  rcases List.mem_cons.1 h with h | h
  ·cases h;exact (mX hk).1 hb
  ·exact As (mX hk).2 h hb
def ndsA (lev:List Wd->Int) (s:Sch):List Ty->Nat->List Nd
 | [],_=>[]
 | t :: r,k=>ndsT lev s t k ++ ndsA lev s r (k + t.nn)
def oa (l:List Ty):Nat:=(l.map Ty.nn).sum
theorem jD (t:Ty) (l:List Ty):oa (t :: l)=t.nn + oa l:=by simp [oa]
theorem tQ (a b:List Ty):oa (a ++ b)=oa a + oa b:=by simp [oa]
theorem qu (lev:List Wd->Int) (s:Sch):∀ (l:List Ty) (k:Nat),(ndsA lev s l k).length=oa l
 | [],_=>rfl
 | t :: r,k=>by simp only [ndsA,List.length_append,gW,qu lev s r,jD]
theorem wi (lev:List Wd->Int) (s:Sch):∀ (a b:List Ty) (k:Nat),ndsA lev s (a ++ b) k=ndsA lev s a k ++ ndsA lev s b (k + oa a)
 | [],b,k=>by simp [ndsA,oa]
 | t :: r,b,k=>by rw [List.cons_append,ndsA,ndsA,wi lev s r b,List.append_assoc,jD,Nat.add_assoc]
theorem qv (lev:List Wd->Int) (s:Sch):∀ (l:List (Wd × Ty)) (k:Nat),ndsAll lev s l k=ndsA lev s (l.map fun x=>x.2) k
 | [],_=>rfl
 | x :: r,k=>by rw [ndsAll,List.map_cons,ndsA,qv lev s r]
theorem Fe (s:Sch):(qm s).length=oa (nM s):=by rw [qm,qv,qu];all_goals rfl
theorem j4 (s:Sch):bW s=ndsA (fU s) s (kf s) 0:=by
 unfold bW kf;rw [wi,Fe,qm,qv,ndsA,ndsA,List.append_nil,Nat.zero_add];rfl
theorem Ff (l:List Ty):∀ e,oa (l.take e)<=oa l:=by
 intro e;have:=tQ (l.take e) (l.drop e);rw [List.take_append_drop] at this;omega
theorem Ls (s:Sch):oa (kf s)<=s.wt:=by
 have key:∀ l:List (Wd × Ty),oa (l.map fun x=>x.2)<=nmsWt l:=by
  intro l
  induction l with
  | nil=>exact Nat.le_refl _
  | cons x r ih=>
   have:=x.2.eY;have:=x.2.eo;simp only [List.map_cons,jD,nmsWt];omega
 have h1:=key s.types;have h2:=s.root.eY;have h3:=s.root.eo;unfold kf;rw [tQ,jD];unfold Sch.wt nM;simp only [oa,List.map_nil,List.sum_nil] at h1 ⊢;omega
mutual
theorem wj {X:Lx} {L:List ByteArray}:∀ (t:Ty),(knT X L t).1=0->∀ u∈flatT t,(knT X L u).1=0
 | .mk h ps,hk,u,hu=>by
  rw [flatT] at hu;split at hu
  ·cases hu
  ·rcases List.mem_cons.1 hu with rfl | hu
   ·exact hk
   ·exact wm ps (qi hk).2 u hu
theorem wm {X:Lx} {L:List ByteArray}:∀ (ps:Pts),(knP X L ps).1=0->∀ u∈flatP ps,(knT X L u).1=0
 | .nil,_,u,hu=>by cases hu
 | .cons p v r,hk,u,hu=>by
  rw [flatP] at hu;rcases List.mem_append.1 hu with hu | hu
  ·cases hb:p.bare with
   | true=>rw [hb] at hu;cases hu
   | false=>rw [hb] at hu;exact wj v ((mX hk).1 hb) u hu
  ·exact wm r (mX hk).2 u hu
end
mutual
theorem wo:∀ (t:Ty),∀ u∈flatT t,u.wt<=t.wt
 | .mk h ps,u,hu=>by
  rw [flatT] at hu;split at hu
  ·cases hu
  ·rcases List.mem_cons.1 hu with rfl | hu
   ·exact Nat.le_refl _
   ·have:=wu ps u hu;simp only [Ty.wt];omega
theorem wu:∀ (ps:Pts),∀ u∈flatP ps,u.wt<=ps.wt
 | .nil,u,hu=>by cases hu
 | .cons p v r,u,hu=>by
  rw [flatP] at hu;simp only [Pts.wt];rcases List.mem_append.1 hu with hu | hu
  ·split at hu
   ·cases hu
   ·have:=wo v u hu;omega
  ·have:=wu r u hu;omega
end
structure Fg (S:Sch):Prop where
 lat:(latF S.af S.order).1=0
 l64:S.types.length<=64
 kn:∀ t∈kf S,(n8 S t).1=0
 ends:∀ i,i < S.types.length->∃ k,endI S (S.types.length + 1) i=some k
 wr:∀ t∈kf S,(wrong t 1 0).1.1=0
theorem Fh:∀ {l:List Ty} {m:Int},(eaA l m).1.1=0->∀ t∈l,(wrong t 1 0).1.1=0
 | [],_,_,t,ht=>by cases ht
 | u :: r,m,h,t,ht=>by
  rw [eaA] at h;split at h
  ·rename_i h1;exact (h1 h).elim
  ·rename_i h1;rcases List.mem_cons.1 ht with rfl | ht
   ·exact (j2 (by simpa using h1)).2.2.1
   ·exact Fh h t ht
theorem Fi {S:Sch} (h:(kS S).1=0):Fg S:=by
 rw [H3] at h;split at h
 ·rename_i h1;exact (h1 h).elim
 rename_i h1;split at h
 ·rename_i h2;exact (h2 h).elim
 rename_i h2;split at h
 ·rename_i h3;exact (h3 h).elim
 rename_i h3;split at h
 ·rename_i h4;exact (h4 h).elim
 rename_i h4
 exact {
  lat:=by simpa using h1
  l64:=by
   have h2:(eA S).1=0:=by simpa using h2
   unfold eA at h2;split at h2
   ·cases h2
   ·omega
  kn:=Fc (by simpa using h4)
  ends:=wh h
  wr:=Fh (by simpa using h3) }
def JD (t:Ty):Prop:=∃ d m,(wrong t d m).1.1=0
def Au (ag:Int) (p:Ph) (t:Ty):Prop:=(p.bare=true/\ag=8/\sameTy t bG=true/\bL p dK=true)∨(p.bare=false/\(dg p).1=0/\JD t)
structure SM (h:Hd) (ps:Pts):Prop where
 k1:1<=h.ag
 k9:h.ag<=9
 own:pD h ps=true
 int:h.ag=2->h.lo<=h.hi
 text:h.ag=3->0<=h.most/\h.most<=4096
 enum:h.ag=4->iB h=(0,0)
 one:h.ag=5∨h.ag=6->∃ p t,ps = .cons p t .nil/\p.name.s=al/\bL p du=true/\0<=h.most/\h.most<=1024/\JD t
 many:h.ag=7∨h.ag=8->ps.len<=64/\(h.ag=8->ps.len≠0)/\∀ i p t,ps.toList[i]? = some (p,t)->aF (pNames ps) i p.name=0/\Au h.ag p t
theorem Lt {h:Hd} {ps:Pts} (ho:¬ vu (.mk h ps)=false):pD h ps=true:=by
 rw [z7];cases hb:sameTy (.mk h ps) (mask (.mk h ps))
 ·exact absurd hb ho
 ·rfl
theorem jE {ag:Int} {all:List Wd}:∀ {ps:Pts} {i:Nat} {d m:Int},(wrongPts ag all i ps d m).1.1=0->(ag=7∨ag=8)->∀ j p t,ps.toList[j]? = some (p,t)->aF all (i + j) p.name=0/\Au ag p t
 | .nil,i,d,m,_,_,j,p,t,hx=>by simp [Pts.toList] at hx
 | .cons q u r,i,d,m,he,hk,j,p,t,hx=>by
  simp only [wrongPts] at he;by_cases c0:aF all i q.name≠0
  ·rw [if_pos c0] at he;exact absurd he c0
  rw [if_neg c0] at he;have c0:aF all i q.name=0:=by simpa using c0
  have step:∀ d' m',(wrongPts ag all (i + 1) r d' m').1.1=0->Au ag q u->aF all (i + j) p.name=0/\Au ag p t:=by
   intro d' m' h hq
   cases j with
   | zero=>
    simp only [Pts.toList,List.getElem?_cons_zero,oI,Prod.mk.injEq] at hx;obtain ⟨rfl,rfl⟩:=hx;exact ⟨c0,hq⟩
   | succ j=>
    simp only [Pts.toList,List.getElem?_cons_succ] at hx;have:=jE h hk j p t hx
    rwa [show i + 1 + j=i + (j + 1) by omega] at this
  by_cases c1:q.bare=true
  ·rw [if_pos c1] at he;by_cases c2:ag=7∨sameTy u bG=false∨bL q dK=false
   ·rw [if_pos c2] at he;simp at he
   rw [if_neg c2] at he;refine step d m he (.inl ⟨c1,?_,?_,?_⟩)
   ·rcases hk with hk | hk
    ·exact absurd (.inl hk) c2
    ·exact hk
   ·cases hb:sameTy u bG
    ·exact absurd (.inr (.inl hb)) c2
    ·rfl
   ·cases hb:bL q dK
    ·exact absurd (.inr (.inr hb)) c2
    ·rfl
  ·rw [if_neg c1] at he;by_cases c2:(dg q).1≠0
   ·rw [if_pos c2] at he;exact absurd he c2
   rw [if_neg c2] at he;by_cases c3:(wrong u (d + 1) m).1.1≠0
   ·rw [if_pos c3] at he;exact absurd he c3
   rw [if_neg c3] at he;exact step d _ he (.inr ⟨by simpa using c1,by simpa using c2,d + 1,m,by simpa using c3⟩)
theorem Fj:∀ {t:Ty},JD t->SM t.h t.ps
 | .mk h ps,⟨d,m,he⟩=>by
  simp only [Ty.h,Ty.ps];simp only [wrong] at he;by_cases c0:24 < d
  ·rw [if_pos c0] at he;simp at he
  rw [if_neg c0] at he;by_cases c1:512 < m + 1
  ·rw [if_pos c1] at he;simp at he
  rw [if_neg c1] at he;by_cases c2:h.ag < 1∨9 < h.ag
  ·rw [if_pos c2] at he;simp at he
  rw [if_neg c2] at he;by_cases c3:vu (.mk h ps)=false
  ·rw [if_pos c3] at he;simp at he
  rw [if_neg c3] at he;by_cases c4:(h.ag=2/\h.hi < h.lo)∨(h.ag=3/\(h.most < 0∨4096 < h.most))
  ·rw [if_pos c4] at he;simp at he
  rw [if_neg c4] at he;by_cases c5:h.ag=9/\a7 h.name.s=false
  ·rw [if_pos c5] at he;simp at he
  rw [if_neg c5] at he;refine { k1:=by omega,k9:=by omega,own:=Lt c3,int:=fun h2=>by omega,text:=fun h3=>by omega,enum:=fun h4=>?_,one:=fun h5=>?_,many:=fun h7=>?_ }
  ·rw [if_pos h4] at he;exact rO h he
  ·rw [if_neg (by omega),if_pos h5] at he
   match ps,he with
   | .nil,he=>simp [wrongOne] at he
   | .cons p t (.cons _ _ _),he=>simp [wrongOne] at he
   | .cons p t .nil,he=>
    simp only [wrongOne] at he;by_cases e0:p.name.s≠al∨bL p du=false
    ·rw [if_pos e0] at he;simp at he
    rw [if_neg e0] at he;by_cases e1:h.most < 0∨1024 < h.most
    ·rw [if_pos e1] at he;simp at he
    rw [if_neg e1] at he;refine ⟨p,t,rfl,Classical.byContradiction fun hn=>e0 (.inl hn),?_,by omega,by omega,d + 1,_,he⟩;cases hb:bL p du
    ·exact absurd (.inr hb) e0
    ·rfl
  ·rw [if_neg (by omega),if_neg (by omega),if_pos h7] at he;by_cases e0:h.ag=8/\ps.len=0
   ·rw [if_pos e0] at he;simp at he
   rw [if_neg e0] at he;by_cases e1:64 < ps.len
   ·rw [if_pos e1] at he;simp at he
   rw [if_neg e1] at he;refine ⟨by omega,fun h8=>fun hl=>e0 ⟨h8,hl⟩,fun i p t hx=>?_⟩;have:=jE he h7 i p t hx
   rwa [Nat.zero_add] at this
theorem SM.sub {h:Hd} {ps:Pts} (hF:SM h ps) {p:Ph} {u:Ty} (hm:(p,u)∈ps.toList) (hb:p.bare=false):JD u:=by
 obtain ⟨i,hi⟩:=List.mem_iff_getElem?.1 hm
 have hlen:0 < ps.len:=by
  cases ps with
  | nil=>simp [Pts.toList] at hm
  | cons _ _ _=>simp [Pts.len]
 have hk:5<=h.ag/\h.ag<=8:=by
  have h1:=hF.own;unfold pD at h1;simp only [Bool.and_eq_true,Bool.or_eq_true,decide_eq_true_eq] at h1;have:=h1.1.1.2;omega
 by_cases h5:h.ag=5∨h.ag=6
 ·obtain ⟨q,t,rfl,_,_,_,_,hw⟩:=hF.one h5;simp only [Pts.toList,List.mem_singleton,Prod.mk.injEq] at hm;rw [hm.2];exact hw
 ·rcases ((hF.many (by omega)).2.2 i p u hi).2 with h1 | h1
  ·rw [h1.1] at hb;cases hb
  ·exact h1.2.2
mutual
theorem wv:∀ (t:Ty),JD t->∀ u∈flatT t,JD u
 | .mk h ps,hw,u,hu=>by
  rw [flatT] at hu;split at hu
  ·cases hu
  ·rcases List.mem_cons.1 hu with rfl | hu
   ·exact hw
   ·exact wx ps (fun p v hm hb=>(Fj hw).sub hm hb) u hu
theorem wx:∀ (ps:Pts),(∀ p v,(p,v)∈ps.toList->p.bare=false->JD v)->∀ u∈flatP ps,JD u
 | .nil,_,u,hu=>by cases hu
 | .cons p v r,hw,u,hu=>by
  rw [flatP] at hu;rcases List.mem_append.1 hu with hu | hu
  ·cases hb:p.bare with
   | true=>rw [hb] at hu;cases hu
   | false=>rw [hb] at hu;exact wv v (hw p v (by simp [Pts.toList]) hb) u hu
  ·exact wx r (fun q w hm=>hw q w (by simp [Pts.toList,hm])) u hu
end
mutual
theorem wy:∀ (t:Ty),∀ u∈flatT t,u.h.ag≠9
 | .mk h ps,u,hu=>by
  rw [flatT] at hu;split at hu
  ·cases hu
  ·rename_i h9;rcases List.mem_cons.1 hu with rfl | hu
   ·exact h9
   ·exact wz ps u hu
theorem wz:∀ (ps:Pts),∀ u∈flatP ps,u.h.ag≠9
 | .nil,u,hu=>by cases hu
 | .cons p v r,u,hu=>by
  rw [flatP] at hu;rcases List.mem_append.1 hu with hu | hu
  ·split at hu
   ·cases hu
   ·exact wy v u hu
  ·exact wz r u hu
end
mutual
theorem sv:∀ (t:Ty) (j:Nat) (u:Ty),(flatT t)[j]? = some u->j + u.nn<=t.nn
 | .mk h ps,j,u,hu=>by
  rw [flatT] at hu;by_cases h9:h.ag=9
  ·rw [if_pos h9] at hu;simp at hu
  rw [if_neg h9] at hu
  cases j with
  | zero=>
   simp only [List.getElem?_cons_zero,oI] at hu;subst hu;omega
  | succ j=>
   simp only [List.getElem?_cons_succ] at hu;have:=nb ps j u hu;rw [Ty.nn,if_neg h9];omega
theorem nb:∀ (ps:Pts) (j:Nat) (u:Ty),(flatP ps)[j]? = some u->j + u.nn<=ps.nn
 | .nil,j,u,hu=>by simp [flatP] at hu
 | .cons p v r,j,u,hu=>by
  rw [flatP] at hu;rw [Pts.nn]
  cases hb:p.bare with
  | true=>
   rw [hb] at hu;have:=nb r j u (by simpa using hu);simp only [if_true];omega
  | false=>
   rw [hb] at hu;simp only [Bool.false_eq_true,if_false] at hu ⊢;by_cases hj:j < (flatT v).length
   ·rw [List.getElem?_append_left hj] at hu;have:=sv v j u hu;omega
   ·rw [List.getElem?_append_right (by omega)] at hu;have:=nb r _ u hu;have h2:=na v;omega
end
theorem qw {lev:List Wd->Int} {s:Sch}:∀ {ps:Pts} {k:Nat} {e:Ed},e∈edsP lev s ps k->∃ p u k',(p,u)∈ps.toList/\e=BV lev p (yL s p u k')/\(p.bare=false->k' + u.nn<=k + ps.nn)
 | .nil,k,e,he=>by simp [edsP] at he
 | .cons p u r,k,e,he=>by
  rw [edsP] at he;rcases List.mem_cons.1 he with rfl | he
  ·refine ⟨p,u,k,by simp [Pts.toList],rfl,fun hb=>?_⟩;rw [Pts.nn,hb];simp
  ·obtain ⟨q,v,k',h1,h2,h3⟩:=qw he;refine ⟨q,v,k',by simp [Pts.toList,h1],h2,fun hb=>?_⟩;have:=h3 hb;rw [Pts.nn];omega
theorem kT {lev:List Wd->Int} {s:Sch}:∀ {ps:Pts} {k:Nat},(edsP lev s ps k).map Ed.name=au (pNames ps)
 | .nil,k=>rfl
 | .cons p u r,k=>by
  rw [edsP,List.map_cons,kT (ps:=r)];rfl
theorem sw {f:Nat->Nat->Bool} {n:Nat} (hL:dA f n):∀ e,e<=n->∃ b,b < n/\∀ x,x < e->f b x=true
 | 0,_=>⟨0,hL.pos,fun x hx=>by omega⟩
 | e + 1,he=>by
  obtain ⟨b,hb,iO⟩:=sw hL e (by omega);obtain ⟨k,hk⟩:=hL.mt b e hb (by omega);obtain ⟨g1,g2,g3,g4⟩:=kQ hk;refine ⟨k,g1,fun x hx=>?_⟩;rcases Nat.lt_succ_iff_lt_or_eq.1 hx with hx | rfl
  ·exact hL.tr k b x g1 hb (by omega) g2 (iO x hx)
  ·exact g3
theorem nN {f:Nat->Nat->Bool} {n:Nat} (hL:dA f n) (l:List Nat) (hl:∀ x∈l,x < n):∃ c,ez f n l=some c:=by
 have key:∀ e,e<=l.length->∃ c,ez f n (l.take e)=some c:=by
  intro e
  induction e with
  | zero=>
   intro _;obtain ⟨b,hb,iO⟩:=sw hL n (Nat.le_refl _);exact ⟨b,kR hL hb iO⟩
  | succ e ih=>
   intro he;obtain ⟨c,hc⟩:=ih (by omega);obtain ⟨x,hx⟩:∃ x,l[e]? = some x:=⟨_,gE (by omega)⟩;have ru:=hl x (mG hx);obtain ⟨k,hk⟩:=hL.jn c x (j1 hc) ru;rw [List.take_add_one,hx];exact ⟨k,nF hL (fun y hy=>hl y (List.mem_of_mem_take hy)) ru hc hk⟩
 have:=key l.length (Nat.le_refl _)
 rwa [List.take_length] at this
theorem sx {L:List ByteArray}:∀ {l:List Wd},(labW L l).1=0->∀ w∈l,∃ i,dw L w.s=some i
 | [],_,w,hw=>by cases hw
 | x :: r,h,w,hw=>by
  rw [labW] at h;split at h
  ·cases h
  ·rename_i h1;rcases List.mem_cons.1 hw with rfl | hw
   ·exact Option.ne_none_iff_exists'.1 h1
   ·exact sx h w hw
theorem B2 {f:Nat->Nat->Bool} {L:List ByteArray} (hL:dA f L.length) {l:List Wd} (h:(labW L l).1=0):∃ c:Nat,yC f L l=c/\c < L.length:=by
 obtain ⟨c,hc⟩:=nN hL (tH L l) (fun x hx=>by
  unfold tH at hx;obtain ⟨w,hw,rfl⟩:=List.mem_map.1 hx;obtain ⟨i,hi⟩:=sx h w hw;rw [hi]
  exact (eu hi).1)
 refine ⟨c,?_,j1 hc⟩;unfold yC;rw [if_pos h,hc];rfl
end Go.Proofs.YtfifjddnnmfeoaaGreat
