/- Part 4 of the proof: lattice.bounds: all joins and meets; lattice.Build; Reading a lattice: Len, has, Name, Find, Join, Meet, Bottom; labels.Of; The checker's part, once check is known for lighter types; The checker's parts, once check is known for lighter types; The checker's one and check, once check is known for lighter types; so check; kinds.Count, resolve.nodes; the builder's level; The builder's end, loops, known; The builder's each, right, called; The builder's each of right; called; places; The builder's places; The builder's edge; The builder's node; Steps of a region that draws its order, one by one; What resolve.Build says of a schema; lattices in which nothing is wrong; resolve.Build; Reading a plan: Len, Root, Lattice, Node, Find; slices.Clone; of no plan as well; The reference of chapter 17: Great, Same; The program's comparing of schemas; The law's example: a type that leads to itself; The law of no plan: the call returns true; The document's relations: Leads. No condition. -/
import Derived.Test.YtphonmiflfhdbaaGreatMx3
set_option linter.all false
set_option maxRecDepth 100000
namespace Go.Proofs.YtphonmiflfhdbaaGreat
open Go Go.RowKit Dv Go.Proofs.Tryz
theorem rB (js:List Int) (bx:List (List DV)) (N n m:Nat):CcL bx N n m (cZ js) (cZ js):=by
 induction js with
 | nil=>exact rfl
 | cons z r ih=>exact ⟨_,_,rfl,rfl,ih⟩
theorem qX {n m:Nat} {tk:List TkE} (js:List Int):WeL n m tk (cZ js) (cZ js):=vf _ fun x hx=>by
 obtain ⟨z,_,rfl⟩:=List.mem_map.1 hx;exact ⟨_,rfl⟩
theorem T3 (f:Nat->Nat) (js:List Int):renL f (cZ js)=cZ js:=by
 induction js with
 | nil=>rfl
 | cons z r ih=>simp only [cZ,List.map_cons,renL,renD] at ih ⊢;rw [ih]
theorem T4 (js:List Int):(cZ js).length=js.length:=by simp [cZ]
theorem Mn (js:List Int) (i:Nat) (z:Int):(cZ js).set i (.v (.int .i64 z))=cZ (js.set i z):=by simp [cZ,List.map_set]
abbrev iy (af:List ByteArray) (tc:List DV) (rows:List Nat) (js:List Int):List DV:=Ff af (.pt tc 0) (mg rows) js
theorem PD (af:List ByteArray) (tc:List DV) (rows:List Nat) (js:List Int):(iy af tc rows js).length=js.length + 3:=by simp [Ff,cZ]
theorem tP {af:List ByteArray} {tc:List DV} {rows:List Nat} {js:List Int} {i k:Nat} {z:Int} (h:k=i + 3):(iy af tc rows js).set k (.v (.int .i64 z))=iy af tc rows (js.set i z):=by grind [Ff,Mn]
theorem PE (f:Nat->Nat) (af:List ByteArray) (tc:List DV) (rows:List Nat) (js:List Int):renL f (iy af tc rows js)=iy af tc rows js:=by
 simp only [Ff,renL,T3];rfl
theorem Hu {n m:Nat} {tk:List TkE} {l:List DV} {af:List ByteArray} {tc:List DV} {rows:List Nat} {js:List Int} (h:l=iy af tc rows js):WeL n m tk l (iy af tc rows js):=by
 subst h;exact ⟨_,_,rfl,aA rfl,_,_,rfl,aA rfl,_,_,rfl,aA rfl,qX js⟩
def eP (f:Nat->Nat->Bool) (n a b:Nat):Option Nat:=mK (fun c=>f a c && f b c) f n
def iI (f:Nat->Nat->Bool) (n a b:Nat):Option Nat:=mK (fun c=>f c a && f c b) (fun x y=>f y x) n
theorem vv (f:Nat->Nat->Bool) (n a b:Nat):eP f n a b=eP f n b a:=by grind [eP]
theorem vw (f:Nat->Nat->Bool) (n a b:Nat):iI f n a b=iI f n b a:=by grind [iI]
def kG (f:Nat->Nat->Bool) (n a b:Nat):Bool:=(eP f n a b).isNone || (iI f n a b).isNone
def mM (f:Nat->Nat->Bool) (n b:Nat):Bool:=(List.range (b + 1)).any fun a=>kG f n a b
def JM (f:Nat->Nat->Bool) (n:Nat) (js:List Int) (a b:Nat):Prop:=js[a * 32 + b]? = some (oz (eP f n a b))/\js[1024 + (a * 32 + b)]? = some (oz (iI f n a b))
def xR (js:List Int) (a b:Nat) (j m:Int):List Int:=(((js.set (a * 32 + b) j).set (b * 32 + a) j).set (1024 + (a * 32 + b)) m).set (1024 + (b * 32 + a)) m
theorem Mo (js:List Int) (a b:Nat) (j m:Int):(xR js a b j m).length=js.length:=by simp [xR]
theorem oF {js:List Int} {i k:Nat} {z:Int} (h:k≠i):(js.set k z)[i]? = js[i]?:=List.getElem?_set_ne h
theorem Hv {f:Nat->Nat->Bool} {n:Nat} {js:List Int} (hl:js.length=2048) {a b:Nat} (ha:a < 32) (hb:b < 32) {x y:Nat} (hx:x < 32) (hy:y < 32)
  (h:JM f n js x y∨(x=a/\y=b)∨(x=b/\y=a)):JM f n (xR js a b (oz (eP f n a b)) (oz (iI f n a b))) x y:=by
 have key:(x=a/\y=b)∨(x=b/\y=a)∨(JM f n js x y/\¬ (x=a/\y=b)/\¬ (x=b/\y=a)):=by grind
 rcases key with ⟨rfl,rfl⟩ | ⟨rfl,rfl⟩ | ⟨h,h1,h2⟩
 ·grind [JM,xR,oF]
 ·grind [JM,xR,vv,vw,oF]
 ·grind [JM,xR,oF]
abbrev RZ (af:List ByteArray) (tc:List DV) (rows:List Nat) (js:List Int) (e:Nat):St:=
 ⟨[aD 1 1,aD 3 2,aD 4 3,au 15 ((eE af).length),au 16 e],
  [iy af tc rows js,[.loc 0 0],[.fn 117 [] [.loc 1 0]],[.fn 118 [] [.loc 1 0]]],[]⟩
abbrev Fh (af:List ByteArray) (tc:List DV) (rows:List Nat) (js:List Int) (e f:Nat):St:=
 ⟨[aD 1 1,aD 3 2,aD 4 3,au 15 ((eE af).length),au 16 e,aD 5 4,aD 6 5],
  [iy af tc rows js,[.loc 0 0],[.fn 117 [] [.loc 1 0]],[.fn 118 [] [.loc 1 0]],[.v (.int .i64 e)],[.v (.int .i64 f)]],[]⟩
abbrev Mp (af:List ByteArray) (tc:List DV) (rows:List Nat) (js:List Int) (e f:Nat):St:=
 ⟨[aD 1 1,aD 3 2,aD 4 3,au 15 ((eE af).length),au 16 e,aD 5 4,aD 6 6],
  [iy af tc rows js,[.loc 0 0],[.fn 117 [] [.loc 1 0]],[.fn 118 [] [.loc 1 0]],[.v (.int .i64 e)],[.v (.int .i64 f)],[.v (.int .i64 (f + 1:Nat))]],[]⟩
abbrev Mq (af:List ByteArray) (tc:List DV) (rows:List Nat) (js:List Int) (e f:Nat):St:=
 ⟨[aD 1 1,aD 3 2,aD 4 3,au 15 ((eE af).length),au 16 e,aD 5 4,aD 6 5],
  [iy af tc rows js,[.loc 0 0],[.fn 117 [] [.loc 1 0]],[.fn 118 [] [.loc 1 0]],[.v (.int .i64 e)],[.v (.int .i64 (f + 1:Nat))],[.v (.int .i64 f)]],[]⟩
theorem PF (af:List ByteArray) (tc:List DV) (rows:List Nat) (js:List Int) (e f:Nat):Mp af tc rows js e f=eS 5 6 (Mq af tc rows js e f):=by
 simp only [eS,renO,PE];rfl
def BndΦ (af:List ByteArray) (tc:List DV) (rows:List Nat) (r:DV) (os:List (List DV)) (_:List TkE):Prop:=
 ∃ T5,os=[iy af tc rows T5]/\T5.length=2048/\r = .v (.int .i64 (oz (bc (mM (aS rows) af.length) af.length))) /\
  (bc (mM (aS rows) af.length) af.length=none->∀ x y,x < af.length->y < af.length->JM (aS rows) af.length T5 x y)
theorem Cz (af:List ByteArray) (tc:List DV) (rows:List Nat) (js:List Int) (hr:dR rows) (hlen:rows.length=af.length) (hn:af.length<=32) (hj:js.length=2048) :
  Ev prog 67 [.loc 0 0] [iy af tc rows js] [] (BndΦ af tc rows):=by
 have hN:=bW af;refine eG 73 [.tmp 2] func67 rfl ntmps67 rfl fun _ _ _ _=>?_;refine lI (fun j st=>∃ (e:Nat) (js:List Int),st=RZ af tc rows js e/\e<=af.length/\js.length=2048/\(∀ b,b < e->mM (aS rows) af.length b=false)/\(∀ x y,x < e->y < e->JM (aS rows) af.length js x y)/\j=af.length - e) ⟨0,js,rfl,by omega,hj,fun _ h=>by omega,fun _ _ h=>by omega,rfl⟩ (wkB 4 kZ gR) ?_;rintro j st ⟨e,js,rfl,he,hj,dE,On,rfl⟩;refine br ?_ ?_<;>intro hL
 ·have av:e < af.length:=by have:=hL;simp [hN] at this;exact this
  refine Mm (fun j st=>∃ (f:Nat) (js:List Int),st=Fh af tc rows js e f/\f<=e + 1/\js.length=2048/\(∀ a,a < f->kG (aS rows) af.length a e=false)/\(∀ x y,x < e->y < e->JM (aS rows) af.length js x y)/\(∀ x,x < f->JM (aS rows) af.length js x e/\JM (aS rows) af.length js e x)/\j=e + 1 - f) (e + 1) (Fh af tc rows js e 0) (.TY (wkB 6 kZ gR)) ⟨0,js,rfl,by omega,hj,fun _ h=>by omega,On,fun _ h=>by omega,by omega⟩ ?_;clear On hj;rintro j st ⟨f,js,rfl,hf,hj,hla,On,hje,rfl⟩;refine br ?_ ?_<;>intro mN
  ·have jh:f<=e:=by have:=mN;simp at this;exact this
   have om:=yK af (.pt tc 0) (mg rows) js 120 117 Xf Lf
    [.pt [RX (iy af tc rows js)] 0,.pt [.v (.int .i64 f)] 0,.pt [.v (.int .i64 e)] 0] [.pt [.pt (iy af tc rows js) 0] 0] (fun c=>aS rows f c && aS rows e c) (aS rows) ax ax rfl rfl (by omega)
    (fun c hc=>I6 af (.pt tc 0) rows js hr f e c (by omega) (by omega) (by omega)) (fun a b ha hb=>rz af (.pt tc 0) rows js hr a b (by omega) (by omega))
   have lZ:=yK af (.pt tc 0) (mg rows) js 121 118 Xg Lg
    [.pt [RY (iy af tc rows js)] 0,.pt [.v (.int .i64 f)] 0,.pt [.v (.int .i64 e)] 0] [.pt [.pt (iy af tc rows js) 0] 0] (fun c=>aS rows c f && aS rows c e) (fun x y=>aS rows y x) ax ax rfl rfl (by omega)
    (fun c hc=>I7 af (.pt tc 0) rows js hr f e c (by omega) (by omega) (by omega)) (fun a b ha hb=>rA af (.pt tc 0) rows js hr a b (by omega) (by omega))
   refine zW Ra om (by repeat' (first | exact rfl | exact trivial | exact Or.inr (Or.inl ⟨_,rfl⟩) | exact Or.inr ⟨_,rfl⟩ | exact Or.inl ⟨rfl,rfl⟩ | exact Or.inl rfl | refine Or.inr ⟨_,_,rfl,Nat.zero_le _,rfl,?_⟩ | refine ⟨_,_,rfl,?_,?_⟩ | refine ⟨_,rfl,?_⟩ | exact rB _ _ _ _ _ | refine Or.inr (Or.inr (Or.inr ⟨_,_,rfl,?_⟩)) | exact Or.inl rfl | refine Or.inr ?_)) rfl ?_;refine zW Ra lZ (by repeat' (first | exact rfl | exact trivial | exact Or.inr (Or.inl ⟨_,rfl⟩) | exact Or.inr ⟨_,rfl⟩ | exact Or.inl ⟨rfl,rfl⟩ | exact Or.inl rfl | refine Or.inr ⟨_,_,rfl,Nat.zero_le _,rfl,?_⟩ | refine ⟨_,_,rfl,?_,?_⟩ | refine ⟨_,rfl,?_⟩ | exact rB _ _ _ _ _ | refine Or.inr (Or.inr (Or.inr ⟨_,_,rfl,?_⟩)) | exact Or.inl rfl | refine Or.inr ?_)) rfl ?_
   have CA:pickB (decide (oz (eP (aS rows) af.length f e) = -1)) true (decide (oz (iI (aS rows) af.length f e) = -1))=kG (aS rows) af.length f e:=by
    unfold kG
    cases eP (aS rows) af.length f e with
    | none=>rfl
    | some j=>
     have:decide (oz (some j) = -1)=false:=by simp [oz]
     rw [this]
     cases iI (aS rows) af.length f e with
     | none=>rfl
     | some m=>
      have:decide (oz (some m) = -1)=false:=by simp [oz]
      rw [this];rfl
   refine br ?_ ?_<;>intro g
   ·have g:kG (aS rows) af.length f e=true:=CA.symm.trans g;have hb:mM (aS rows) af.length e=true:=by grind [mM]
    have Bl:=bP (p:=mM (aS rows) af.length) av hb dE;refine ⟨.v (.int .i64 e),[iy af tc rows js],ax,(by repeat' (first | exact rfl | exact trivial | exact Or.inr (Or.inl ⟨_,rfl⟩) | exact Or.inr ⟨_,rfl⟩ | exact Or.inl ⟨rfl,rfl⟩ | exact Or.inl rfl | refine Or.inr ⟨_,_,rfl,Nat.zero_le _,rfl,?_⟩ | refine ⟨_,_,rfl,?_,?_⟩ | refine ⟨_,rfl,?_⟩ | exact rB _ _ _ _ _ | refine Or.inr (Or.inr (Or.inr ⟨_,_,rfl,?_⟩)) | exact Or.inl rfl | refine Or.inr ?_)),js,rfl,hj,?_,fun h=>by rw [Bl] at h;cases h⟩;rw [Bl];rfl
   ·have g:kG (aS rows) af.length f e=false:=CA.symm.trans g;refine tK [0] (fun _=>false) mo (by decide +kernel) ?_;have cw:=PD af tc rows js;refine ⟨⟨by omega,by omega⟩,?_⟩;refine ⟨⟨by omega,by omega⟩,?_⟩;refine ⟨by rw [cw];omega,?_⟩;refine ⟨⟨by omega,by omega⟩,?_⟩;refine ⟨⟨by omega,by omega⟩,?_⟩;refine ⟨by rw [List.length_set,cw];omega,?_⟩;refine tK [0] (fun _=>false) mo (by decide +kernel) ?_;refine ⟨⟨by omega,by omega⟩,?_⟩;refine ⟨⟨by omega,by omega⟩,?_⟩;refine ⟨by rw [List.length_set,List.length_set,cw];omega,?_⟩;refine ⟨⟨by omega,by omega⟩,?_⟩;refine ⟨⟨by omega,by omega⟩,?_⟩;refine ⟨by rw [List.length_set,List.length_set,List.length_set,cw];omega,?_⟩
    have iP:((((iy af tc rows js).set (0 + 0 + 3 + (f:Int).toNat * 32 + (e:Int).toNat * 1) (DV.v (.int .i64 (oz (eP (aS rows) af.length f e))))).set (0 + 0 + 3 + (e:Int).toNat * 32 + (f:Int).toNat * 1) (DV.v (.int .i64 (oz (eP (aS rows) af.length f e))))).set (0 + 0 + 1027 + (f:Int).toNat * 32 + (e:Int).toNat * 1) (DV.v (.int .i64 (oz (iI (aS rows) af.length f e))))).set (0 + 0 + 1027 + (e:Int).toNat * 32 + (f:Int).toNat * 1) (DV.v (.int .i64 (oz (iI (aS rows) af.length f e))))=iy af tc rows (xR js f e (oz (eP (aS rows) af.length f e)) (oz (iI (aS rows) af.length f e))):=by
     rw [tP (i:=f * 32 + e) (by omega),tP (i:=e * 32 + f) (by omega),tP (i:=1024 + (f * 32 + e)) (by omega),tP (i:=1024 + (e * 32 + f)) (by omega)];rfl
    refine ⟨Fh af tc rows (xR js f e (oz (eP (aS rows) af.length f e)) (oz (iI (aS rows) af.length f e))) e (f + 1),
     .trans (.TY (s2:=Mp af tc rows (xR js f e (oz (eP (aS rows) af.length f e)) (oz (iI (aS rows) af.length f e))) e f) (wkB 7 (by repeat' (first | exact rfl | exact aA rfl | exact Hu iP | exact aC (nxt (n:=e + 1) (by omega) (by omega)) | refine ⟨_,_,rfl,?_,?_⟩)) (by repeat' (first | exact trivial | exact aA rfl | exact Hu iP | exact aC (nxt (n:=e + 1) (by omega) (by omega)) | refine ⟨⟨_,rfl,?_⟩,?_⟩))))
      (.trans (.EJ 5 6 (Mq af tc rows (xR js f e (oz (eP (aS rows) af.length f e)) (oz (iI (aS rows) af.length f e))) e f) _ (PF _ _ _ _ _ _) rfl rfl rfl rfl) (.TY (wkB 6 kZ gR))),
     e + 1 - (f + 1),by omega,f + 1,_,rfl,by omega,by rw [Mo];exact hj,fun a ha=>?_,fun x y hx hy=>?_,fun x hx=>?_,rfl⟩
    ·grind
    ·grind [Hv]
    ·grind [Hv]
  ·have jh:f=e + 1:=by have:=mN;simp at this;omega
   subst jh;have hb:mM (aS rows) af.length e=false:=by grind [mM]
   refine ⟨RZ af tc rows js (e + 1),(wkB 4 (mw (nxt av (by omega))) (wB1 (nxt av (by omega)))),af.length - (e + 1),by omega,e + 1,js,rfl,by omega,hj,fun b fx=>?_,fun x y hx hy=>?_,rfl⟩
   ·grind
   ·grind
 ·have hge:e=af.length:=sW hN hL;subst hge;refine ⟨.v (.int .i64 (-1)),[iy af tc rows js],ax,(by repeat' (first | exact rfl | exact trivial | exact Or.inr (Or.inl ⟨_,rfl⟩) | exact Or.inr ⟨_,rfl⟩ | exact Or.inl ⟨rfl,rfl⟩ | exact Or.inl rfl | refine Or.inr ⟨_,_,rfl,Nat.zero_le _,rfl,?_⟩ | refine ⟨_,_,rfl,?_,?_⟩ | refine ⟨_,rfl,?_⟩ | exact rB _ _ _ _ _ | refine Or.inr (Or.inr (Or.inr ⟨_,_,rfl,?_⟩)) | exact Or.inl rfl | refine Or.inr ?_)),js,rfl,hj,?_,fun _=>On⟩;rw [bZ dE];rfl
def T6 (l:List Wd) (k:Nat):Int:=((l[k]?).getD (⟨aq,0⟩:Wd)).a
def latF (l:List Wd) (o:List (Wd × Wd)):Ft:=
 if (fC l o).1≠0 then fC l o
 else if (enumL l 0 l).1≠0 then enumL l 0 l
 else if (numF (az l) o).1≠0 then numF (az l) o
 else match bc (j7 l.length (eC l.length (de (az l) o))) l.length with
  | some a=>(11,T6 l a)
  | none=>
   match bc (mM (eC l.length (de (az l) o)) l.length) l.length with
   | some b=>(12,T6 l b)
   | none=>(0,0)
def T7 (l:List Wd) (o:List (Wd × Wd)) (d:DV):Prop:=
 ∃ aG js,gT (az l) aG/\aG.length<=l.length/\js.length=2048/\(∀ x y,x < l.length->y < l.length->JM (eC l.length (de (az l) o)) l.length js x y) /\
  d = .pt (iy (az l) (cL (az l) aG) (closeR (eX l.length (de (az l) o)) l.length) js) 0
def Fi (l:List Wd) (o:List (Wd × Wd)) (r:DV) (_:List (List DV)) (_:List TkE):Prop:=
 if (latF l o).1≠0 then r = .tup [.v (.pointer none),(latF l o).d] else ∃ d,T7 l o d/\r = .tup [d,(latF l o).d]
theorem nA {L:List ByteArray}:∀ {o:List (Wd × Wd)},(numF L o).1=0->rr L.length (de L o)
 | [],_=>by intro p hp;simp [de] at hp
 | q :: r,h=>by
  rw [numF] at h;split at h
  ·cases h
  ·rename_i h1;split at h
   ·cases h
   ·rename_i h2;have ih:=nA (o:=r) h;intro p hp;simp only [de,List.map_cons,List.mem_cons] at hp;rcases hp with rfl | hp
    ·obtain ⟨a,ha⟩:=Option.ne_none_iff_exists'.1 h1;obtain ⟨b,hb⟩:=Option.ne_none_iff_exists'.1 h2;simp only [TX,ha,hb,Option.getD_some];exact ⟨(cS ha).1,(cS hb).1⟩
    ·exact ih p hp
theorem di (l:List Wd):(az l).length=l.length:=by simp [az]
theorem vx {all:List Wd}:∀ {l:List Wd} {i:Nat},(enumL all i l).1=0->enumL all i l=(0,0)
 | [],_,_=>rfl
 | x :: r,i,h=>by
  rw [enumL] at h ⊢;split at h
  ·rename_i h1;exact (h1 h).elim
  ·rename_i h1;rw [ah h1];exact vx h
theorem yL {L:List ByteArray}:∀ {o:List (Wd × Wd)},(numF L o).1=0->numF L o=(0,0)
 | [],_=>rfl
 | q :: r,h=>by
  rw [numF] at h ⊢;split at h
  ·cases h
  ·rename_i h1;split at h
   ·cases h
   ·rename_i h2;rw [ah h1,ah h2];exact yL h
theorem j8 {l:List Wd} {k:Nat} {w:Wd} (h:l[k]? = some w):T6 l k=w.a:=by simp [T6,h]
theorem T8 (n:Nat):vL (List.replicate n (.int .i64 0))=cZ (List.replicate n 0):=by
 induction n with
 | zero=>rfl
 | succ n ih=>simp only [List.replicate_succ,vL,cZ,List.map_cons] at ih ⊢;rw [ih]
theorem mO {l:List Wd} {o:List (Wd × Wd)} {f:Ft} {os:List (List DV)} {tk:List TkE} (h:latF l o=f) (hf:f.1≠0):Fi l o (.tup [.v (.pointer none),f.d]) os tk:=by
 unfold Fi;rw [h,ai hf]
theorem PG {l:List Wd} {o:List (Wd × Wd)} {d:DV} {os:List (List DV)} {tk:List TkE} (h:latF l o=(0,0)) (hd:T7 l o d):Fi l o (.tup [d,Ft.d (0,0)]) os tk:=by grind [Fi]
theorem PH (n m:Nat) (af:List ByteArray) (tc:List DV) (rows:List Nat) (js:List Int):clB.clL n m (iy af tc rows js)=true:=by
 have h:∀ l:List Int,clB.clL n m (cZ l)=true:=by
  intro l
  induction l with
  | nil=>rfl
  | cons z r ih=>simp only [cZ,List.map_cons,clB.clL,clB,Bool.true_and] at ih ⊢;exact ih
 simp only [Ff,clB.clL,clB,h,mg,Bool.and_self]
theorem CB (l:List Wd) (o:List (Wd × Wd)) (hs:wdsWt l<=1099511627776) (Eo:prsWt o<=1099511627776) :
  Ev prog 25 [.sl 2 (bA l) none,.sl 4 (mf o) none] [] [] (Fi l o):=by
 have oZ:=bp l;have Tc:=ir o;have jd:=di l;have hF:=latF.eq_1 l o;refine eG 86 [.tmp 4,.cell 5 44] func25 rfl ntmps25 rfl fun _ _ _ _=>?_;refine cP en60 (I3 l o) ?_;by_cases hm:(fC l o).1≠0
 ·rw [ai hm] at hF;refine br ?_ ?_<;>intro h
  ·refine dS ?_;exact ⟨_,ax,mO (os:=[]) (tk:=[]) hF hm⟩
  ·exfalso;simp at h;exact hm h
 rw [ah hm] at hF;refine br (fun h=>?_) (fun _=>?_)
 ·exfalso;simp at h;exact hm h
 have EK:l ≠ []:=by
  rintro rfl;simp [fC] at hm
 have hl32:l.length<=32:=by grind [fC]
 have tp:=Cu l hs;unfold Yx at tp;by_cases hE:(enumL l 0 l).1≠0
 ·rw [ah hE] at tp;rw [ai hE] at hF;refine cP WQ tp ?_;refine br ?_ ?_<;>intro h
  ·refine dS ?_;exact ⟨_,ax,mO (os:=[]) (tk:=[]) hF hE⟩
  ·exfalso;simp at h;exact hE h
 rw [ah hE] at hF;have hE:(enumL l 0 l).1=0:=sU hE;rw [ai hE] at tp;rw [vx hE] at tp;refine cP WQ tp ?_;refine bG TB rfl (uW (az l) (by omega)) ax (fun r hr=>?_);obtain ⟨aG,hT,kX,rfl⟩:=hr;have rC:=xQ (az l) aG hT (by omega) o Eo;unfold Yy at rC;by_cases hN:(numF (az l) o).1≠0
 ·rw [ah hN] at rC;rw [ai hN] at hF;refine cP WR rC ?_;refine br ?_ ?_<;>intro h
  ·refine dS ?_;exact ⟨_,ax,mO (os:=[]) (tk:=[]) hF hN⟩
  ·exfalso;simp at h;exact hN h
 rw [ah hN] at hF;have hN:(numF (az l) o).1=0:=sU hN;rw [ai hN] at rC;rw [yL hN] at rC;have hP:=nA hN;rw [jd] at hP;have hPl:(de (az l) o).length=o.length:=by simp [de]
 generalize hPP:de (az l) o=P at rC hF hP hPl;refine cP WR rC ?_;have hLn:(eE (az l)).length=l.length:=by rw [bW,jd]
 have hPb:P.length<=1099511627776:=by omega
 have hro:=Am (n:=l.length) (by omega) P hP;have fy:=jO l.length P;have hr0:eX l.length P ≠ []:=fun h=>EK (List.eq_nil_of_length_eq_zero (by rw [<- fy,h];rfl));refine cP en64 (IV l.length (by omega) P hP hPb) ?_ (o0 hLn);have hlo:=Fb _ hro hr0;rw [fy,Pw (by omega) hP] at hlo
 cases hA:bc (j7 l.length (eC l.length P)) l.length with
 | some a=>
  rw [hA] at hlo hF;simp only at hF;have ON:=(cM hA).1;obtain ⟨w,hw⟩:∃ w,l[a]? = some w:=⟨_,gE ON⟩;rw [j8 hw] at hF;refine cP WS hlo ?_;refine dS ?_;refine ⟨jL w,⟨by omega,aQ hw⟩,?_⟩;exact ⟨_,ax,mO (os:=[]) (tk:=[]) hF (by simp)⟩
 | none=>
 rw [hA] at hlo hF;simp only at hF;refine cP WS hlo ?_;have kr:=sC _ hro hr0;rw [fy] at kr;have hcok:=kD hro l.length (by omega);have YJ:=eY (eX l.length P) l.length;rw [fy] at YJ;refine cP WT kr ?_;have hrep:(List.replicate 2048 (0:Int)).length=2048:=List.length_replicate
 have cV:CcL [] 0 0 0 (iy (az l) (cL (az l) aG) (closeR (eX l.length P) l.length) (List.replicate 2048 0)) (.sl 1 (eE (az l)) none :: .pt (cL (az l) aG) 0 :: mg (closeR (eX l.length P) l.length) :: vL (List.replicate 2048 (.int .i64 0))):=by
  refine ⟨_,_,rfl,Or.inr (Or.inl ⟨_,rfl⟩),_,_,rfl,Or.inl rfl,_,_,rfl,Or.inl rfl,?_⟩;rw [T8];exact rB _ _ _ _ _
 have hbn:=Cz (az l) (cL (az l) aG) _ (List.replicate 2048 0) hcok (by omega) (by omega) hrep;refine lu en67 rfl rfl cV ax hbn (fun r os tk h=>?_) (fun r re h=>?_)
 ·obtain ⟨T5,rfl,_,rfl,_⟩:=h;refine ⟨rfl,fun re h=>?_⟩;rw [List.mem_singleton.1 h];exact PH _ _ _ _ _ _
 obtain ⟨T5,h1,hj2,hr,On⟩:=h;simp only [List.cons.injEq,and_true] at h1;subst h1
 have hB:bc (mM (aS (closeR (eX l.length P) l.length)) (az l).length) (az l).length=bc (mM (eC l.length P) l.length) l.length:=by
  rw [jd];rfl
 rw [hB] at hr On
 cases hb:bc (mM (eC l.length P) l.length) l.length with
 | some b=>
  rw [hb] at hr hF;subst hr;simp only at hF;have hbl:=(cM hb).1;obtain ⟨w,hw⟩:∃ w,l[b]? = some w:=⟨_,gE hbl⟩;rw [j8 hw] at hF;refine dS ?_;refine ⟨jL w,⟨by simp only [oz];omega,aQ hw⟩,?_⟩;exact ⟨_,ax,mO (os:=[]) (tk:=[]) hF (by simp)⟩
 | none=>
  rw [hb] at hr hF;subst hr;simp only at hF;refine ⟨.tup [.pt (iy (az l) (cL (az l) aG) (closeR (eX l.length P) l.length) T5) 0,Ft.d (0,0)],(by repeat' (first | exact rfl | exact trivial | exact Or.inr (Or.inl ⟨_,rfl⟩) | exact Or.inr ⟨_,rfl⟩ | exact Or.inl ⟨rfl,rfl⟩ | exact Or.inl rfl | refine Or.inr ⟨_,_,rfl,Nat.zero_le _,rfl,?_⟩ | refine ⟨_,_,rfl,?_,?_⟩ | refine ⟨_,rfl,?_⟩ | exact rB _ _ _ _ _ | refine Or.inr (Or.inr (Or.inr ⟨_,_,rfl,?_⟩)) | exact Or.inl rfl | refine Or.inr ?_)),PG (os:=[]) (tk:=[]) hF ⟨aG,T5,hT,by omega,hj2,?_,by rw [hPP]⟩⟩;rw [hPP];rw [jd] at On;exact On hb
section
variable (af:List ByteArray) (tc:List DV) (rows:List Nat) (js:List Int)
theorem rD:EvP prog 17 [.pt (iy af tc rows js) 0] (.v (.int .i64 af.length)):=by
 refine eG 10 [.tmp 2] func17 rfl ntmps17 rfl fun _ _ _ _=>?_;refine (qY ?_:);rw [bW]
theorem yM (i:Int):EvP prog 53 [.pt (iy af tc rows js) 0,.v (.int .i64 i)] (.v (.bool (decide (0<=i) && decide (i < af.length)))):=by
 refine eG 13 [.tmp 4] func53 rfl ntmps53 rfl fun _ _ _ _=>?_;refine br ?_ ?_<;>intro g
 ·have g:decide (0<=i)=true:=sU g;refine cP O7 (rD af tc rows js) ?_;refine (bo ?_:);simp [g,pickB]
 ·have g:decide (0<=i)=false:=sU g;refine (bo ?_:);simp [g,pickB]
theorem pU {a:Nat} (h:a < af.length):EvP prog 53 [.pt (iy af tc rows js) 0,.v (.int .i64 a)] (.v (.bool true)):=by
 have:=yM af tc rows js a;have e:(decide (0<=(a:Int)) && decide ((a:Int) < af.length))=true:=by simp [h]
 rw [e] at this;exact this
end
theorem Fj (af:List ByteArray) (aG rows:List Nat) (js:List Int) (s:ByteArray) (hT:gT af aG) (hl:aG.length<=1099511627776) :
  EvP prog 126 [.pt (iy af (cL af aG) rows js) 0,.v (.string s)] (Md (cO af s)):=by
 have h:=iw af aG s hT hl;refine eG 16 [.tmp 4,.tmp 5] func126 rfl ntmps126 rfl fun _ _ _ _=>?_
 cases hx:cO af s with
 | none=>
  rw [hx] at h;refine cP uP h ?_;exact ⟨_,ax,rfl⟩
 | some k=>
  rw [hx] at h;refine cP uP h ?_;exact ⟨_,ax,rfl⟩
theorem CD {l:List DV} {k b:Nat} {x:DV} (hb:b < 32) (h:l[k + b]? = some x):(((l.drop k).take 32).drop b).take 1=[x]:=by
 have h1:((l.drop k).take 32)[b]? = some x:=by grind
 rw [List.drop_eq_getElem_cons (gS h1).1]
 grind
section
variable (af:List ByteArray) (tc:List DV) (rows:List Nat) (js:List Int)
theorem vy (a b:Nat) (z:Int) (ha:a < af.length) (hb:b < af.length) (hn:af.length<=32) (hz:js[a * 32 + b]? = some z) :
  EvP prog 52 [.pt (iy af tc rows js) 0,.v (.int .i64 a),.v (.int .i64 b)] (.v (.int .i64 z)):=by
 refine eG 25 [.tmp 6] func52 rfl ntmps52 rfl fun _ _ _ _=>?_;refine cP IB (pU af tc rows js ha) ?_;refine cP IB (pU af tc rows js hb) ?_;refine ⟨_,⟨⟨by omega,by omega⟩,rfl⟩,?_⟩;refine ⟨_,⟨⟨by omega,by omega⟩,CD (x:=.v (.int .i64 z)) (by omega) ?_⟩,?_⟩
 ·grind [Ff,cZ]
 exact (rfl:_=_)
theorem Fk (a b:Nat) (z:Int) (ha:a < af.length) (hb:b < af.length) (hn:af.length<=32) (hz:js[1024 + (a * 32 + b)]? = some z) :
  EvP prog 104 [.pt (iy af tc rows js) 0,.v (.int .i64 a),.v (.int .i64 b)] (.v (.int .i64 z)):=by
 refine eG 25 [.tmp 6] func104 rfl ntmps104 rfl fun _ _ _ _=>?_;refine cP IB (pU af tc rows js ha) ?_;refine cP IB (pU af tc rows js hb) ?_;refine ⟨_,⟨⟨by omega,by omega⟩,rfl⟩,?_⟩;refine ⟨_,⟨⟨by omega,by omega⟩,CD (x:=.v (.int .i64 z)) (by omega) ?_⟩,?_⟩
 ·grind [Ff,cZ]
 exact (rfl:_=_)
end
theorem rF {kk:Nat->Bool} {pb:Nat->Nat->Bool}:∀ {e k:Nat},bestA kk pb e=some k->kk k=true
 | 0,k,h=>by cases h
 | e + 1,k,h=>by
  rw [bestA] at h;split at h
  ·grind
  ·exact rF h
theorem vz {kk:Nat->Bool} {pb:Nat->Nat->Bool} {n k:Nat} (h:mK kk pb n=some k):k < n/\kk k=true/\∀ c,c < n->kk c=true->pb k c=true:=by grind [mK,mL,rF]
structure dG (f:Nat->Nat->Bool) (n:Nat):Prop where
 pos:0 < n
 rfl':∀ a,a < n->f a a=true
 tr:∀ a b c,a < n->b < n->c < n->f a b=true->f b c=true->f a c=true
 Fl:∀ a b,a < n->b < n->f a b=true->f b a=true->a=b
 jn:∀ a b,a < n->b < n->∃ k,eP f n a b=some k
 mt:∀ a b,a < n->b < n->∃ k,iI f n a b=some k
theorem oG {f:Nat->Nat->Bool} {n a b k:Nat} (h:eP f n a b=some k):k < n/\f a k=true/\f b k=true/\∀ c,c < n->f a c=true->f b c=true->f k c=true:=by
 obtain ⟨h1,h2,h3⟩:=vz h
 grind
theorem oH {f:Nat->Nat->Bool} {n a b k:Nat} (h:iI f n a b=some k):k < n/\f k a=true/\f k b=true/\∀ c,c < n->f c a=true->f c b=true->f c k=true:=by
 obtain ⟨h1,h2,h3⟩:=vz h
 grind
def gG (f:Nat->Nat->Bool) (l:List Nat) (c:Nat):Bool:=l.all fun i=>f i c
def rG (f:Nat->Nat->Bool) (n:Nat) (l:List Nat) (c:Nat):Bool:=gG f l c && (List.range n).all fun d=>!gG f l d || f c d
def er (f:Nat->Nat->Bool) (n:Nat) (l:List Nat):Option Nat:=bc (rG f n l) n
theorem mP {f:Nat->Nat->Bool} {n:Nat} {l:List Nat} {c:Nat}:rG f n l c=true↔gG f l c=true/\∀ d,d < n->gG f l d=true->f c d=true:=by grind [rG,gG]
theorem yN {f:Nat->Nat->Bool} {n:Nat} (hL:dG f n) {l:List Nat} {c:Nat} (hc:c < n) (h:rG f n l c=true):er f n l=some c:=by
 refine bP hc h fun a ha=>?_;cases h2:rG f n l a
 ·rfl
 ·obtain ⟨h3,h4⟩:=mP.1 h;obtain ⟨h5,h6⟩:=mP.1 h2;have:=hL.Fl a c (by omega) hc (h6 c hc h3) (h4 a (by omega) h5);omega
theorem oJ {f:Nat->Nat->Bool} {n c:Nat} (hL:dG f n) (hc:c < n) (h:∀ d,d < n->f c d=true):er f n []=some c:=
 yN hL hc (mP.2 ⟨rfl,fun d hd _=>h d hd⟩)
theorem sF {f:Nat->Nat->Bool} {n c k i:Nat} {l:List Nat} (hL:dG f n) (hl:∀ x∈l,x < n) (hi:i < n) (h:er f n l=some c) (hk:eP f n c i=some k):er f n (l ++ [i])=some k:=by
 obtain ⟨h1,h2,_⟩:=cM h;obtain ⟨h3,h4⟩:=mP.1 h2;obtain ⟨g1,g2,g3,g4⟩:=oG hk;simp only [gG,List.all_eq_true] at h3;refine yN hL g1 (mP.2 ⟨?_,fun d hd ho=>?_⟩)
 ·simp only [gG,List.all_eq_true,List.mem_append,List.mem_singleton];rintro x (hx | rfl)
  ·exact hL.tr x c k (hl x hx) h1 g1 (h3 x hx) g2
  ·exact g3
 ·grind [gG]
theorem nB {f:Nat->Nat->Bool} {n c:Nat} {l:List Nat} (h:er f n l=some c):c < n:=(cM h).1
abbrev R0 (L:List DV) (n b e:Nat):St:=
 ⟨[pz 0 L,au 3 b,au 9 n,au 10 e],[],[]⟩
theorem pV (af:List ByteArray) (tc:List DV) (rows:List Nat) (js:List Int) {f:Nat->Nat->Bool} (hL:dG f af.length) (hn:af.length<=32) (hj:∀ x y,x < af.length->y < af.length->JM f af.length js x y) :
  EvP prog 51 [.pt (iy af tc rows js) 0] (.v (.int .i64 (oz (er f af.length [])))):=by
 have hlen:=rD af tc rows js;have pq:=hL.pos;refine eG 19 [.tmp 2] func51 rfl ntmps51 rfl fun _ _ _ _=>?_;refine cP O7 hlen ?_;refine br ?_ ?_<;>intro g
 ·exfalso;simp at g;simp [g] at pq
 refine cP O7 hlen ?_;refine lI (fun j st=>∃ e b:Nat,st=R0 (iy af tc rows js) af.length b e/\e<=af.length/\b < af.length/\(∀ x,x < e->f b x=true)/\j=af.length - e) ⟨0,0,rfl,by omega,by omega,fun _ h=>by omega,rfl⟩ (wkM wB) ?_;rintro j st ⟨e,b,rfl,he,hb,fN,rfl⟩;refine br ?_ ?_<;>intro hL'
 ·have av:e < af.length:=by have:=hL';simp at this;exact this
  obtain ⟨k,hk⟩:=hL.mt b e hb av;obtain ⟨g1,g2,g3,g4⟩:=oH hk;have hz:=(hj b e hb av).2;rw [hk] at hz;refine cP W5 (Fk af tc rows js b e k hb av hn hz) ?_;refine ⟨R0 (iy af tc rows js) af.length k (e + 1),(wkM (wB1 (nxt av (by omega)))),af.length - (e + 1),by omega,e + 1,k,rfl,by omega,g1,fun x hx=>?_,rfl⟩;rcases jB hx with hx | rfl
  ·exact hL.tr k b x g1 hb (by omega) g2 (fN x hx)
  ·exact g3
 ·have hge:e=af.length:=by have:=hL';simp at this;omega
  subst hge;rw [oJ hL hb fN];exact (rfl:_=_)
def labW (L:List ByteArray):List Wd->Ft
 | []=>(0,0)
 | w :: r=>if cO L w.s=none then (17,w.a) else labW L r
def lK (L:List ByteArray) (l:List Wd):List Nat:=l.map fun w=>(cO L w.s).getD 0
def Av (f:Nat->Nat->Bool) (L:List ByteArray) (l:List Wd):Int:=if (labW L l).1=0 then oz (er f L.length (lK L l)) else 0
def I9 (f:Nat->Nat->Bool) (L:List ByteArray) (l:List Wd):DV:=.tup [.v (.int .i64 (Av f L l)),(labW L l).d]
theorem rH {L:List ByteArray} {l:List Wd} {e:Nat} {w:Wd} (h:l[e]? = some w):labW L (l.drop e)=if cO L w.s=none then (17,w.a) else labW L (l.drop (e + 1)):=by
 rw [drop_cons h,labW]
theorem rI {L:List ByteArray} {l:List Wd} {e i:Nat} {w:Wd} (h:l[e]? = some w) (hi:cO L w.s=some i):lK L (l.take (e + 1))=lK L (l.take e) ++ [i]:=by
 rw [List.take_add_one,h];simp [lK,hi]
abbrev R4 (L:List DV) (l:List Wd) (b e:Nat):St:=
 ⟨[pz 0 L,aD 5 0,au 6 b,aZ 16 2 (bA l),au 17 ((bA l).length),au 18 e],[[.v (.int .i64 0),.v (.int .i64 0)]],[]⟩
theorem Mr (af:List ByteArray) (aG rows:List Nat) (js:List Int) (hT:gT af aG) (kX:aG.length<=1099511627776) {f:Nat->Nat->Bool} (hL:dG f af.length) (hn:af.length<=32) (hj:∀ x y,x < af.length->y < af.length->JM f af.length js x y)
  (l:List Wd) (hs:wdsWt l<=1099511627776) :
  EvP prog 73 [.pt (iy af (cL af aG) rows js) 0,.sl 2 (bA l) none] (I9 f af l):=by
 have oZ:=bp l;have vA:=pV af (cL af aG) rows js hL hn hj
 have qH:∃ b,er f af.length []=some b:=by
  have:∀ e,e<=af.length->∃ b,b < af.length/\∀ x,x < e->f b x=true:=by
   intro e
   induction e with
   | zero=>intro _;exact ⟨0,hL.pos,fun _ h=>by omega⟩
   | succ e ih=>
    intro he;obtain ⟨b,hb,fN⟩:=ih (by omega);obtain ⟨k,hk⟩:=hL.mt b e hb (by omega);obtain ⟨g1,g2,g3,_⟩:=oH hk;refine ⟨k,g1,fun x hx=>?_⟩;rcases jB hx with hx | rfl
    ·exact hL.tr k b x g1 hb (by omega) g2 (fN x hx)
    ·exact g3
  obtain ⟨b,hb,fN⟩:=this af.length (aW _);exact ⟨b,oJ hL hb fN⟩
 obtain ⟨b0,iP⟩:=qH;rw [iP] at vA;refine eG 41 [.tmp 4,.cell 5 44] func73 rfl ntmps73 rfl fun _ _ _ _=>?_;refine cP Pd vA ?_;refine lI (fun j st=>∃ e b:Nat,st=R4 (iy af (cL af aG) rows js) l b e/\e<=l.length/\labW af l=labW af (l.drop e)/\er f af.length (lK af (l.take e))=some b/\(∀ x∈lK af (l.take e),x < af.length)/\j=l.length - e) ⟨0,b0,rfl,by omega,rfl,iP,by simp [lK],rfl⟩ (wkM wB) ?_;rintro j st ⟨e,b,rfl,he,aK,Pn,Ol,rfl⟩;have hb:=nB Pn;refine br ?_ ?_<;>intro CE
 ·have av:e < l.length:=by simpa [ay] using CE
  obtain ⟨w,hw⟩:=gX av;have bi:=rH (L:=af) hw;have Au:=Fj af aG rows js w.s hT kX;refine ⟨jL w,⟨by omega,aQ hw⟩,?_⟩
  cases hx:cO af w.s with
  | none=>
   rw [hx] at Au;refine cP Re Au ?_;rw [ai hx] at bi;have h1:labW af l=(17,w.a):=aK.trans bi;refine dS ?_;refine ⟨_,?_,rfl⟩;rw [I9,Av,h1,ah (by simp)];exact ax
  | some i=>
   rw [hx] at Au;refine cP Re Au ?_;rw [ah (by rw [hx];simp)] at bi;have hi:=(cS hx).1;obtain ⟨k,hk⟩:=hL.jn b i hb hi;have hz:=(hj b i hb hi).1;rw [hk] at hz;refine cP Pe (vy af (cL af aG) rows js b i k hb hi hn hz) ?_;refine ⟨R4 (iy af (cL af aG) rows js) l k (e + 1),(wkM (wB1 (nxt av (by omega)))),l.length - (e + 1),by omega,e + 1,k,rfl,by omega,aK.trans bi,?_,?_,rfl⟩
   ·rw [rI hw hx];exact sF hL Ol hi Pn hk
   ·rw [rI hw hx];intro x hm;rcases List.mem_append.1 hm with hm | hm
    ·exact Ol x hm
    ·rw [List.mem_singleton.1 hm];exact hi
 ·have hge:e=l.length:=by
   have:=CE;simp [ay] at this;omega
  subst hge;rw [List.drop_length] at aK;rw [List.take_length] at Pn;have h1:labW af l=(0,0):=aK;refine ⟨_,?_,rfl⟩;rw [I9,Av,h1,ai rfl,Pn];exact ax
def Fm (x:Ft × Int) (r:DV) (os:List (List DV)) (_:List TkE):Prop:=
 r=x.1.d/\∃ z:Int,os=[[.v (.int .i64 z)]]/\(x.1.1=0->z=x.2)
theorem lL {x:Ft × Int}:∀ r os tk,Fm x r os tk->clB 0 0 r=true/\∀ re∈os,clB.clL 0 0 re=true:=by
 rintro r os tk ⟨rfl,z,rfl,_⟩;refine ⟨rfl,fun re h=>?_⟩;simp only [List.mem_singleton] at h;subst h;rfl
def Ms (k:Nat):Prop:=∀ (t:Ty) (depth m:Int),t.wt<=k->t.wt<=1099511627776->0<=depth->depth<=25->0<=m->m<=512 ->
 Ev prog 123 [.loc 0 0,.agg (dK t),.v (.int .i64 depth)] [[.v (.int .i64 m)]] [] (Fm (wrong t depth m))
def kH (p:Ph) (t:Ty) (un:Bool) (depth m:Int):Ft × Int:=
 if p.bare=true then (if un=false∨cR p t (oD p) cv=false then ((19,p.name.a),m) else ((0,0),m))
 else if (dF p).1≠0 then (dF p,m)
 else wrong t (depth + 1) m
theorem bq {x:Ft × Int} {f:Ft} {m z:Int} (h:x=(f,m)) (hz:f.1=0->z=m) {tk:List TkE}:Fm x f.d [[.v (.int .i64 z)]] tk:=by
 subst h;exact ⟨rfl,z,rfl,hz⟩
theorem Fo (k:Nat) (ih:Ms k) (p:Ph) (t:Ty) (un:Bool) (depth m:Int) (hk:t.wt<=k) (hp:p.wt<=1099511627776) (bY:t.wt<=1099511627776) (yt:0<=depth) (Eb:depth<=24) (l8:0<=m) (gM:m<=512) :
  Ev prog 230 [.loc 0 0,.agg (EL p (dK t)),.v (.bool un),.v (.int .i64 depth)] [[.v (.int .i64 m)]] [] (Fm (kH p t un depth m)):=by
 have xK:=hp;simp only [Ph.wt] at xK;have BE:=mE p (oD p) t cv hp (by simp only [Ph.wt,oD,wdsWt];omega) (u4 t cv bY (by decide));have D8:=ih t (depth + 1) m hk bY (by omega) (by omega) l8 gM;obtain ⟨u,us⟩:=t;have hcoa:=Ah p (dK (.mk u us)) (.mk u us) rfl hp;have hS:=kH.eq_def p (.mk u us) un depth m;generalize kH p (.mk u us) un depth m=F at hS ⊢;obtain ⟨nm,bare,lab,wide,ck,cn,ca,cl⟩:=p;simp only at hS xK BE
 cases bare with
 | true=>
  rw [ai rfl] at hS
  cases un with
  | true=>
   refine eG 68 [.cell 8 44] func230 rfl ntmps230 rfl fun _ _ _ _=>?_;refine cP Lq BE ?_;refine br ?_ ?_<;>intro q
   ·have q:cR ⟨nm,true,lab,wide,ck,cn,ca,cl⟩ (.mk u us) (oD ⟨nm,true,lab,wide,ck,cn,ca,cl⟩) cv=false:=by simpa [show (lastG (21,false) [(18,true)]).snd=true from rfl,pickB] using q
    rw [ai (.inr q)] at hS;refine cP dO (bz 19 nm.a) ?_;exact ⟨_,_,ax,ax,bq (tk:=[]) (f:=(19,nm.a)) hS (fun _=>rfl)⟩
   ·have q:cR ⟨nm,true,lab,wide,ck,cn,ca,cl⟩ (.mk u us) (oD ⟨nm,true,lab,wide,ck,cn,ca,cl⟩) cv=true:=by simpa [show (lastG (21,false) [(18,true)]).snd=true from rfl,pickB] using q
    rw [ah (by simp [q])] at hS;exact ⟨_,_,ax,ax,bq (tk:=[]) (f:=(0,0)) hS (fun _=>rfl)⟩
  | false=>
   refine eG 68 [.cell 8 44] func230 rfl ntmps230 rfl fun _ _ _ _=>?_;rw [ai (.inl rfl)] at hS;refine cP dO (bz 19 nm.a) ?_;exact ⟨_,_,ax,ax,bq (tk:=[]) (f:=(19,nm.a)) hS (fun _=>rfl)⟩
 | false=>
  rw [ah (by simp)] at hS;refine eG 68 [.cell 8 44] func230 rfl ntmps230 rfl fun _ _ _ _=>?_;refine br ?_ ?_<;>intro hw
  ·have hw:wide < 0∨64 < wide:=by simpa [aj] using hw
   have hP:dF ⟨nm,false,lab,wide,ck,cn,ca,cl⟩=(20,nm.a):=by simp only [dF,ai hw]
   rw [hP,ai (by simp)] at hS;refine cP dO (bz 20 nm.a) ?_;exact ⟨_,_,ax,ax,bq (tk:=[]) (f:=(20,nm.a)) hS (fun _=>rfl)⟩
  have hw:¬ (wide < 0∨64 < wide):=by simp [aj] at hw;omega
  refine cP B0 (iF lab (by omega)) ?_;refine br ?_ ?_<;>intro hb
  ·have hb:(bJ lab).1≠0:=sU hb;have hP:dF ⟨nm,false,lab,wide,ck,cn,ca,cl⟩=bJ lab:=by simp only [dF,ah hw,ai hb]
   rw [hP,ai hb] at hS;exact ⟨_,_,ax,ax,bq (tk:=[]) (f:=bJ lab) hS (fun _=>rfl)⟩
  have hb:(bJ lab).1=0:=sU hb;have hP:dF ⟨nm,false,lab,wide,ck,cn,ca,cl⟩=aU ⟨nm,false,lab,wide,ck,cn,ca,cl⟩:=by simp only [dF,ah hw];rw [ah (by simp [hb])]
  rw [hP] at hS;refine cP XY hcoa ?_;refine br ?_ ?_<;>intro hc
  ·have hc:(aU ⟨nm,false,lab,wide,ck,cn,ca,cl⟩).1≠0:=sU hc;rw [ai hc] at hS;exact ⟨_,_,ax,ax,bq (tk:=[]) (f:=aU ⟨nm,false,lab,wide,ck,cn,ca,cl⟩) hS (fun _=>rfl)⟩
  have hc:(aU ⟨nm,false,lab,wide,ck,cn,ca,cl⟩).1=0:=sU hc;rw [ah (by simp [hc])] at hS;refine lu Li rfl rfl ax (by repeat' (first | exact rfl | exact trivial | exact Or.inr (Or.inl ⟨_,rfl⟩) | exact Or.inr ⟨_,rfl⟩ | exact Or.inl ⟨rfl,rfl⟩ | exact Or.inl rfl | refine Or.inr ⟨_,_,rfl,Nat.zero_le _,rfl,?_⟩ | refine ⟨_,_,rfl,?_,?_⟩ | refine ⟨_,rfl,?_⟩ | exact congrArg (fun z=>DV.v (.int .i64 z)) (wrap64 (by omega) (by omega)) | refine Or.inr (Or.inr (Or.inr ⟨_,_,rfl,?_⟩)) | exact Or.inl rfl | refine Or.inr ?_)) D8 lL (fun r re hr=>?_);obtain ⟨rfl,z,hz,BI⟩:=hr;simp only [List.cons.injEq,and_true] at hz;subst hz;exact ⟨_,_,ax,ax,bq (tk:=[]) (f:=(wrong (.mk u us) (depth + 1) m).1) hS BI⟩
theorem xS {ag:Int} {all:List Wd} {i:Nat} {p:Ph} {t:Ty} {r:Pts} {depth m:Int} (hk:ag=7∨ag=8) (hl:aF all i p.name=0) :
  wrongPts ag all i (.cons p t r) depth m=if (kH p t (decide (ag=8)) depth m).1.1≠0 then kH p t (decide (ag=8)) depth m else wrongPts ag all (i + 1) r depth (kH p t (decide (ag=8)) depth m).2:=by
 simp only [wrongPts];rw [ah (by simp [hl])];unfold kH;by_cases hb:p.bare=true
 ·grind [PA,sameTy,cv,cm,iW]
 ·grind
theorem Mt {p:Ph} {t:Ty} {un:Bool} {depth m:Int} (l8:0<=m) (gM:m<=512) (h:(kH p t un depth m).1.1=0):(kH p t un depth m).1=(0,0)/\0<=(kH p t un depth m).2/\(kH p t un depth m).2<=512:=by grind [pK,kH,dF]
abbrev CF (h:Hd) (ps:Pts) (n e:Nat) (depth m:Int):St:=
 ⟨[aD 0 0,au 2 depth,aD 4 1,aD 6 2,aZ 38 18 (fu ps),au 39 ((fu ps).length),au 40 e,(7,⟨[],.sl 1 (eE (az ((pNames ps).take e))) (some 0)⟩)],
  [[.v (.int .i64 m)],dK (.mk h ps),[.v (.int .i64 0),.v (.int .i64 0)]],[⟨n,9,1,none⟩]⟩
theorem sG (k:Nat) (ih:Ms k) (h:Hd) (ps:Pts) (depth m:Int) (Kj:h.ag=7∨h.ag=8) (hk:ps.wt<=k) (bY:(Ty.mk h ps).wt<=1099511627776) (yt:0<=depth) (Eb:depth<=24) (l8:0<=m) (gM:m<=512) :
  Ev prog 178 [.loc 0 0,.agg (dK (.mk h ps)),.v (.int .i64 depth)] [[.v (.int .i64 m)]] [] (Fm (eI h ps depth m)):=by
 simp only [Ty.wt,Hd.wt] at bY;have ky:=ps.fq;have jd:=fX ps;have TN:=ri ps;have hS:=eI.eq_def h ps depth m;generalize eI h ps depth m=F at hS ⊢;refine eG 72 [.cell 6 44] func178 rfl ntmps178 rfl fun _ _ _ _=>?_;refine br ?_ ?_<;>intro c1
 ·have c1:h.ag=8/\ps.len=0:=by grind [pickB_and,aH]
  rw [ai c1] at hS;refine cP dO (bz 15 h.aE) ?_;exact ⟨_,_,ax,ax,bq (tk:=[]) (f:=(15,h.aE)) hS (fun _=>rfl)⟩
 have c1:¬ (h.ag=8/\ps.len=0):=by
  simp [pickB_and,aH] at c1;omega
 rw [ah c1] at hS;refine br ?_ ?_<;>intro c2
 ·have av:64 < ps.len:=by simp [aH] at c2;omega
  obtain ⟨p,t,hx⟩:=Pts.ej av;refine iX (bO hx) ?_;refine cP dO (bz 8 p.name.a) ?_;rw [ai av,fY hx] at hS;exact ⟨_,_,ax,ax,bq (tk:=[]) (f:=(8,p.name.a)) hS (fun _=>rfl)⟩
 have c2:¬ 64 < ps.len:=by simp [aH] at c2;omega
 rw [ah c2] at hS
 refine aP (fun j st=>∃ (e:Nat) (m':Int),st=CF h ps e e depth m' /\ e<=ps.len/\0<=m' /\ m' <= 512/\(az ((pNames ps).take e)).Nodup /\
   F=wrongPts h.ag (pNames ps) e (ps.drop e) depth m' /\ j=ps.len - e) ps.len (CF h ps 0 0 depth m) (fA ⟨0,9,1,none⟩ rfl ⟨_,rfl⟩ rfl wA rfl rfl gR) ⟨0,m,rfl,by omega,l8,gM,by simp [az],hS,by omega⟩ ?_
 rintro j st ⟨e,m',rfl,he,tu,Cg,hnd,aK,rfl⟩;refine br ?_ ?_<;>intro hL
 ·have av:e < ps.len:=by simpa [aH] using hL
  obtain ⟨p,t,hx⟩:=Pts.ej av;have Cb:=Pts.fW (mG hx);have Fp:=fY hx;have hpw:p.name.s.size + 64<=p.wt:=by simp only [Ph.wt,Wd.wt];omega
  rw [Pts.drop_cons hx] at aK;have LO:(az ((pNames ps).take (e + 1)))[(az ((pNames ps).take (e + 1))).length - 1]? = some p.name.s:=by grind [az,pNames]
  have SX:=sA (az ((pNames ps).take (e + 1))) p.name.s p.name.a LO (by simp [az];omega) (by omega);have iq:=jr Fp;rw [yH p.name.a Fp hnd,<- iq] at SX;have CG:=Fo k ih p t (decide (h.ag=8)) depth m' (by omega) (by omega) (by omega) yt Eb tu Cg;obtain ⟨u,us⟩:=t;refine iX (bO hx) ?_;refine ⟨by simp [bW,az];omega,⟨by simp [bW,az,maxLen];omega,by simp [bW,az];omega⟩,?_⟩;refine cP RB SX ?_;by_cases hl:aF (pNames ps) e p.name≠0
  ·rw [ai hl];refine br ?_ ?_<;>intro hf
   ·simp only [wrongPts] at aK;rw [ai hl] at aK;exact ⟨_,_,ax,ax,bq (tk:=[]) (f:=(aF (pNames ps) e p.name,p.name.a)) aK (fun _=>rfl)⟩
   ·exact absurd (sU hf) hl
  have hl:aF (pNames ps) e p.name=0:=sU hl;have hndn:=lH Fp hnd hl;rw [ah (by simp [hl])];rw [xS Kj hl] at aK;have bF:=Mt (p:=p) (t:=.mk u us) (un:=decide (h.ag=8)) (depth:=depth) tu Cg;generalize kH p (.mk u us) (decide (h.ag=8)) depth m'=r at CG aK bF;obtain ⟨⟨fe,fa⟩,many⟩:=r;simp only at aK bF;refine lu XQ rfl rfl ax ax CG lL (fun r re hr=>?_);obtain ⟨rfl,z,hz,BI⟩:=hr;simp only [List.cons.injEq,and_true] at hz;subst hz;refine br ?_ ?_<;>intro hd
  ·have hd:fe≠0:=sU hd;rw [ai hd] at aK;exact ⟨_,_,ax,ax,bq (tk:=[]) (f:=(fe,fa)) aK (fun h0=>absurd h0 hd)⟩
  ·have hd:fe=0:=sU hd;subst hd;obtain ⟨_,h2,h3⟩:=bF rfl;rw [ah (by simp)] at aK;have hz2:z=many:=BI rfl;subst hz2;exact rE ⟨_,by omega,e + 1,z,rfl,by omega,h2,h3,hndn,aK,rfl⟩ (wkM (wB2 (nxt av (by omega)) iq))
 ·have hge:e=ps.len:=by simp [aH] at hL;omega
  rw [hge,Pts.cW] at aK;simp only [wrongPts] at aK;exact ⟨_,_,ax,ax,bq (tk:=[]) (f:=(0,0)) aK (fun _=>rfl)⟩
theorem yO (k:Nat) (ih:Ms k) (h:Hd) (ps:Pts) (depth m:Int) (hk:ps.wt<=k) (bY:(Ty.mk h ps).wt<=1099511627776) (yt:0<=depth) (Eb:depth<=24) (l8:0<=m) (gM:m<=512) :
  Ev prog 177 [.loc 0 0,.agg (dK (.mk h ps)),.v (.int .i64 depth)] [[.v (.int .i64 m)]] [] (Fm (wrongOne h ps depth m)):=by
 simp only [Ty.wt,Hd.wt] at bY
 cases ps with
 | nil=>
  have hS:wrongOne h .nil depth m=((19,h.aE),m):=by simp only [wrongOne]
  generalize wrongOne h .nil depth m=F at hS ⊢;refine eG 44 [.cell 6 44] func177 rfl ntmps177 rfl fun _ _ _ _=>?_;refine cP dO (bz 19 h.aE) ?_;exact ⟨_,_,ax,ax,bq (tk:=[]) (f:=(19,h.aE)) hS (fun _=>rfl)⟩
 | cons p t r=>
  cases r with
  | cons p2 t2 r2=>
   have hS:wrongOne h (.cons p t (.cons p2 t2 r2)) depth m=((19,h.aE),m):=by simp only [wrongOne]
   generalize wrongOne h (.cons p t (.cons p2 t2 r2)) depth m=F at hS ⊢;refine eG 44 [.cell 6 44] func177 rfl ntmps177 rfl fun _ _ _ _=>?_;refine cP dO (bz 19 h.aE) ?_;exact ⟨_,_,ax,ax,bq (tk:=[]) (f:=(19,h.aE)) hS (fun _=>rfl)⟩
  | nil=>
   simp only [Pts.wt] at bY hk;have hS:wrongOne h (.cons p t .nil) depth m=if p.name.s≠aq∨cm p eU=false then ((19,h.aE),m) else if h.most < 0∨1024 < h.most then ((20,h.aE),m) else wrong t (depth + 1) m:=by simp only [wrongOne]
   generalize wrongOne h (.cons p t .nil) depth m=F at hS ⊢;have Ti:=Cj p t (by omega);rw [empty_eq] at Ti;have D8:=ih t (depth + 1) m (by omega) (by omega) (by omega) (by omega) l8 gM;obtain ⟨u,us⟩:=t;refine eG 44 [.cell 6 44] func177 rfl ntmps177 rfl fun _ _ _ _=>?_;refine ⟨_,⟨by omega,rfl⟩,?_⟩;refine cP XP Ti ?_;refine br ?_ ?_<;>intro q
   ·have q:p.name.s≠aq∨cm p eU=false:=by
     have:=q;simp [pickB] at this;exact this
    rw [ai q] at hS;refine cP dO (bz 19 h.aE) ?_;exact ⟨_,_,ax,ax,bq (tk:=[]) (f:=(19,h.aE)) hS (fun _=>rfl)⟩
   have q:¬ (p.name.s≠aq∨cm p eU=false):=by grind [pickB]
   rw [ah q] at hS;refine br ?_ ?_<;>intro x
   ·have x:h.most < 0∨1024 < h.most:=by simpa [aj] using x
    rw [ai x] at hS;refine cP dO (bz 20 h.aE) ?_;exact ⟨_,_,ax,ax,bq (tk:=[]) (f:=(20,h.aE)) hS (fun _=>rfl)⟩
   have x:¬ (h.most < 0∨1024 < h.most):=by simp [aj] at x;omega
   rw [ah x] at hS;refine ⟨_,⟨by omega,rfl⟩,?_⟩;refine lu Li rfl rfl ax (by repeat' (first | exact rfl | exact trivial | exact Or.inr (Or.inl ⟨_,rfl⟩) | exact Or.inr ⟨_,rfl⟩ | exact Or.inl ⟨rfl,rfl⟩ | exact Or.inl rfl | refine Or.inr ⟨_,_,rfl,Nat.zero_le _,rfl,?_⟩ | refine ⟨_,_,rfl,?_,?_⟩ | refine ⟨_,rfl,?_⟩ | exact congrArg (fun z=>DV.v (.int .i64 z)) (wrap64 (by omega) (by omega)) | refine Or.inr (Or.inr (Or.inr ⟨_,_,rfl,?_⟩)) | exact Or.inl rfl | refine Or.inr ?_)) D8 lL (fun r re hr=>?_);obtain ⟨rfl,z,hz,BI⟩:=hr;simp only [List.cons.injEq,and_true] at hz;subst hz;exact ⟨_,_,ax,ax,bq (tk:=[]) (f:=(wrong (.mk u us) (depth + 1) m).1) hS BI⟩
theorem CH (k:Nat) (ih:Ms k) (h:Hd) (ps:Pts) (depth m:Int) (hk:ps.wt<=k) (bY:(Ty.mk h ps).wt<=1099511627776) (yt:0<=depth) (Eb:depth<=25) (l8:0<=m) (gM:m<=512) :
  Ev prog 123 [.loc 0 0,.agg (dK (.mk h ps)),.v (.int .i64 depth)] [[.v (.int .i64 m)]] [] (Fm (wrong (.mk h ps) depth m)):=by
 have yP:=bY;simp only [Ty.wt,Hd.wt] at yP;have qJ:IntKind.i64.wrap (m + 1)=m + 1:=wrap64 (by omega) (by omega);have hS:=wrong.eq_def (.mk h ps) depth m;simp only at hS;generalize wrong (.mk h ps) depth m=F at hS ⊢;have fV:=IK h ps;rw [Hh] at fV;refine eG 103 [.cell 6 44] func123 rfl ntmps123 rfl fun _ _ _ _=>?_;refine br ?_ ?_<;>intro c
 ·have c:24 < depth:=of_decide_eq_true c;rw [ai c] at hS;refine cP dO (bz 6 h.aE) ?_;exact ⟨_,[[.v (.int .i64 (m + 1))]],ax,(o0 qJ),bq (tk:=[]) (f:=(6,h.aE)) hS (fun _=>rfl)⟩
 have c:¬ 24 < depth:=of_decide_eq_false c;rw [ah c] at hS;refine br ?_ ?_<;>intro c
 ·have c:512 < IntKind.i64.wrap (m + 1):=of_decide_eq_true c;rw [qJ] at c;rw [ai c] at hS;refine cP dO (bz 8 h.aE) ?_;exact ⟨_,[[.v (.int .i64 (m + 1))]],ax,(o0 qJ),bq (tk:=[]) (f:=(8,h.aE)) hS (fun _=>rfl)⟩
 have c:¬ 512 < IntKind.i64.wrap (m + 1):=of_decide_eq_false c;rw [qJ] at c;rw [ah c] at hS;refine br ?_ ?_<;>intro c
 ·have c:h.ag < 1∨9 < h.ag:=by simpa [aj] using c
  rw [ai c] at hS;refine cP dO (bz 14 h.aE) ?_;exact ⟨_,[[.v (.int .i64 (m + 1))]],ax,(o0 qJ),bq (tk:=[]) (f:=(14,h.aE)) hS (fun _=>rfl)⟩
 have ck:¬ (h.ag < 1∨9 < h.ag):=by simp [aj] at c;omega
 rw [ah ck] at hS;refine cP XA fV ?_;refine br ?_ ?_<;>intro c
 ·have c:uY (.mk h ps)=false:=by simpa [uY] using c
  rw [ai c] at hS;refine cP dO (bz 19 h.aE) ?_;exact ⟨_,[[.v (.int .i64 (m + 1))]],ax,(o0 qJ),bq (tk:=[]) (f:=(19,h.aE)) hS (fun _=>rfl)⟩
 have c:¬ uY (.mk h ps)=false:=by simpa [uY] using c
 rw [ah c] at hS;refine br ?_ ?_<;>intro k2
 ·have k2:h.ag=2:=of_decide_eq_true k2;refine br ?_ ?_<;>intro x
  ·have x:h.hi < h.lo:=of_decide_eq_true x;rw [ai (.inl ⟨k2,x⟩)] at hS;refine cP dO (bz 20 h.aE) ?_;exact ⟨_,[[.v (.int .i64 (m + 1))]],ax,(o0 qJ),bq (tk:=[]) (f:=(20,h.aE)) hS (fun _=>rfl)⟩
  have x:¬ h.hi < h.lo:=of_decide_eq_false x;rw [ah (by omega),ah (by omega),ah (by omega),ah (by omega),ah (by omega)] at hS;exact ⟨_,[[.v (.int .i64 (m + 1))]],ax,(o0 qJ),bq (tk:=[]) (f:=(0,0)) hS (fun _=>rfl)⟩
 have k2:¬ h.ag=2:=of_decide_eq_false k2;refine br ?_ ?_<;>intro k3
 ·have k3:h.ag=3:=of_decide_eq_true k3;refine br ?_ ?_<;>intro x
  ·have x:h.most < 0∨4096 < h.most:=by simpa [aj] using x
   rw [ai (.inr ⟨k3,x⟩)] at hS;refine cP dO (bz 20 h.aE) ?_;exact ⟨_,[[.v (.int .i64 (m + 1))]],ax,(o0 qJ),bq (tk:=[]) (f:=(20,h.aE)) hS (fun _=>rfl)⟩
  have x:¬ (h.most < 0∨4096 < h.most):=by simp [aj] at x;omega
  rw [ah (by omega),ah (by omega),ah (by omega),ah (by omega),ah (by omega)] at hS;exact ⟨_,[[.v (.int .i64 (m + 1))]],ax,(o0 qJ),bq (tk:=[]) (f:=(0,0)) hS (fun _=>rfl)⟩
 have k3:¬ h.ag=3:=of_decide_eq_false k3;rw [ah (by omega)] at hS;refine br ?_ ?_<;>intro k4
 ·have k4:h.ag=4:=of_decide_eq_true k4;rw [ah (by omega),ai k4,<- Mi] at hS;refine cP XB (EU h ps (by omega)) ?_;exact ⟨_,[[.v (.int .i64 (m + 1))]],ax,(o0 qJ),bq (tk:=[]) (f:=mF h) hS (fun _=>rfl)⟩
 have k4:¬ h.ag=4:=of_decide_eq_false k4;refine br ?_ ?_<;>intro k5
 ·have k5':h.ag=5∨h.ag=6:=.inl (of_decide_eq_true k5);rw [ah (by omega),ah (by omega),ai k5'] at hS;refine br (fun _=>?_) (fun hc=>by rw [k5] at hc;cases hc);refine lu Rr rfl rfl (cs':=[.v (.int .i64 (m + 1))]) (o0 qJ) ax (yO k ih h ps depth (m + 1) hk bY yt (by omega) (by omega) (by omega)) lL (fun r re hr=>?_);obtain ⟨rfl,z,hz,BI⟩:=hr;simp only [List.cons.injEq,and_true] at hz;subst hz;exact ⟨_,_,ax,ax,bq (tk:=[]) (f:=(wrongOne h ps depth (m + 1)).1) hS BI⟩
 have k5:¬ h.ag=5:=of_decide_eq_false k5;refine br ?_ ?_<;>intro k6
 ·have k5':h.ag=5∨h.ag=6:=.inr (of_decide_eq_true k6);rw [ah (by omega),ah (by omega),ai k5'] at hS;refine lu Rr rfl rfl (cs':=[.v (.int .i64 (m + 1))]) (o0 qJ) ax (yO k ih h ps depth (m + 1) hk bY yt (by omega) (by omega) (by omega)) lL (fun r re hr=>?_);obtain ⟨rfl,z,hz,BI⟩:=hr;simp only [List.cons.injEq,and_true] at hz;subst hz;exact ⟨_,_,ax,ax,bq (tk:=[]) (f:=(wrongOne h ps depth (m + 1)).1) hS BI⟩
 have k6:¬ h.ag=6:=of_decide_eq_false k6;have hP:eI h ps depth (m + 1)=eI h ps depth (m + 1):=rfl
 conv at hP=>lhs;unfold eI
 refine br ?_ ?_<;>intro k7
 ·have YK:h.ag=7∨h.ag=8:=.inl (of_decide_eq_true k7);rw [ah (by omega),ah (by omega),ah (by omega),ai YK,hP] at hS;refine br (fun _=>?_) (fun hc=>by rw [k7] at hc;cases hc);refine lu Rs rfl rfl (cs':=[.v (.int .i64 (m + 1))]) (o0 qJ) ax (sG k ih h ps depth (m + 1) YK hk bY yt (by omega) (by omega) (by omega)) lL (fun r re hr=>?_);obtain ⟨rfl,z,hz,BI⟩:=hr;simp only [List.cons.injEq,and_true] at hz;subst hz;exact ⟨_,_,ax,ax,bq (tk:=[]) (f:=(eI h ps depth (m + 1)).1) hS BI⟩
 have k7:¬ h.ag=7:=of_decide_eq_false k7;refine br ?_ ?_<;>intro k8
 ·have YK:h.ag=7∨h.ag=8:=.inr (of_decide_eq_true k8);rw [ah (by omega),ah (by omega),ah (by omega),ai YK,hP] at hS;refine lu Rs rfl rfl (cs':=[.v (.int .i64 (m + 1))]) (o0 qJ) ax (sG k ih h ps depth (m + 1) YK hk bY yt (by omega) (by omega) (by omega)) lL (fun r re hr=>?_);obtain ⟨rfl,z,hz,BI⟩:=hr;simp only [List.cons.injEq,and_true] at hz;subst hz;exact ⟨_,_,ax,ax,bq (tk:=[]) (f:=(eI h ps depth (m + 1)).1) hS BI⟩
 have k8:¬ h.ag=8:=of_decide_eq_false k8;refine br ?_ ?_<;>intro k9
 ·have k9:h.ag=9:=of_decide_eq_true k9;refine cP zX (eV h.name.s (by simp only [Wd.wt] at yP;omega)) ?_;refine br ?_ ?_<;>intro q
  ·have q:aM h.name.s=false:=sU q;rw [ai ⟨k9,q⟩] at hS;refine cP dO (bz 9 h.name.a) ?_;exact ⟨_,[[.v (.int .i64 (m + 1))]],ax,(o0 qJ),bq (tk:=[]) (f:=(9,h.name.a)) hS (fun _=>rfl)⟩
  ·have q:aM h.name.s=true:=sU q;rw [ah (by simp [q]),ah (by omega),ah (by omega),ah (by omega)] at hS;exact ⟨_,[[.v (.int .i64 (m + 1))]],ax,(o0 qJ),bq (tk:=[]) (f:=(0,0)) hS (fun _=>rfl)⟩
 have k9:¬ h.ag=9:=of_decide_eq_false k9;rw [ah (by omega),ah (by omega),ah (by omega),ah (by omega)] at hS;exact ⟨_,[[.v (.int .i64 (m + 1))]],ax,(o0 qJ),bq (tk:=[]) (f:=(0,0)) hS (fun _=>rfl)⟩
theorem CI:∀ k,Ms k
 | 0=>fun t depth m hk=>by have:=t.dP;omega
 | k + 1=>fun t depth m hk bY yt Eb l8 gM=>by
  obtain ⟨h,ps⟩:=t;have gP:=hk;simp only [Ty.wt,Hd.wt] at gP;exact CH k (CI k) h ps depth m (by omega) bY yt Eb l8 gM
theorem CJ (t:Ty) (bY:t.wt<=1099511627776):EvP prog 70 [.agg (dK t)] (wrong t 1 0).1.d:=
 IL t (CI t.wt t 1 0 (aW _) bY (by omega) (by omega) (by omega) (by omega))
abbrev Mu (t:Ty) (ps:Pts) (e n:Nat):St:=
 ⟨[aD 1 0,au 3 n,aZ 7 18 (fu ps),au 8 ((fu ps).length),au 9 e],[dK t],[]⟩
theorem vB:∀ (k:Nat) (t:Ty),t.wt<=k->t.wt<=1099511627776 ->
  EvP prog 71 [.agg (dK t)] (.v (.int .i64 t.cnt))
 | 0,t,hn,_=>by have:=t.dP;omega
 | k + 1,.mk h ps,hn,bY=>by
  simp only [Ty.wt,Hd.wt] at hn bY;have ky:=ps.fq;have hc:=ps.ek;refine eG 23 [.tmp 2] func71 rfl ntmps71 rfl fun _ _ _ _=>?_
  refine aP (fun j st=>∃ (e n:Nat),st=Mu (.mk h ps) ps e n/\e<=ps.len/\n + (ps.drop e).cnt=1 + ps.cnt/\j=ps.len - e) ps.len
   (Mu (.mk h ps) ps 0 1) (wkM wB) ⟨0,1,rfl,by omega,rfl,by omega⟩ ?_
  rintro j st ⟨e,n,rfl,he,bg,rfl⟩;refine br ?_ ?_<;>intro hL
  ·have av:e < ps.len:=by simpa [aH] using hL
   obtain ⟨p,t,hx⟩:=Pts.ej av;have Cb:=Pts.fW (mG hx);rw [Pts.drop_cons hx] at bg;simp only [Pts.cnt] at bg;have hct:=t.ek;obtain ⟨u,us⟩:=t;refine iX (bO hx) ?_;refine br ?_ ?_<;>intro hB
   ·have hB:p.bare=false:=sU hB;rw [hB] at bg;have bg:n + ((Ty.mk u us).cnt + (ps.drop (e + 1)).cnt)=1 + ps.cnt:=bg;refine cP WU (vB k (.mk u us) (by omega) (by omega)) ?_;have qI:IntKind.i64.wrap ((n:Int) + (Ty.mk u us).cnt)=((n + (Ty.mk u us).cnt:Nat):Int):=by rw [wrap64 (by omega) (by omega)];omega
    exact ⟨Mu (.mk h ps) ps (e + 1) (n + (Ty.mk u us).cnt),(wkM (wB2 qI (nxt av (by omega)))),ps.len - (e + 1),by omega,e + 1,_,rfl,by omega,by omega,rfl⟩
   ·have hB:p.bare=true:=sU hB;rw [hB] at bg;have bg:n + (0 + (ps.drop (e + 1)).cnt)=1 + ps.cnt:=bg;exact rE ⟨_,by omega,e + 1,n,rfl,by omega,by omega,rfl⟩ (wkM (wB1 (nxt av (by omega))))
  ·have hge:e=ps.len:=by simp [aH] at hL;omega
   rw [hge,Pts.cW] at bg;simp only [Pts.cnt] at bg;have e2:(n:Int)=((Ty.mk h ps).cnt:Int):=by simp only [Ty.cnt];omega
   refine (qY ?_:);exact e2
mutual
def Ty.nn:Ty->Nat
 | .mk h ps=>if h.ag=9 then 0 else 1 + ps.nn
def Pts.nn:Pts->Nat
 | .nil=>0
 | .cons p t r=>(if p.bare then 0 else t.nn) + r.nn
end
mutual
theorem Ty.gf:∀ t:Ty,t.nn<=t.cnt
 | .mk h ps=>by
  have:=Pts.gf ps;simp only [Ty.nn,Ty.cnt];split<;>omega
theorem Pts.gf:∀ ps:Pts,ps.nn<=ps.cnt
 | .nil=>aW _
 | .cons p t r=>by
  have:=Ty.gf t;have:=Pts.gf r;simp only [Pts.nn,Pts.cnt];split<;>omega
end
abbrev T9 (t:Ty) (ps:Pts) (e n:Nat):St:=
 ⟨[aD 1 0,au 3 n,aZ 10 18 (fu ps),au 11 ((fu ps).length),au 12 e],[dK t],[]⟩
theorem vC:∀ (k:Nat) (t:Ty),t.wt<=k->t.wt<=1099511627776 ->
  EvP prog 75 [.agg (dK t)] (.v (.int .i64 t.nn))
 | 0,t,hn,_=>by have:=t.dP;omega
 | k + 1,.mk h ps,hn,bY=>by
  simp only [Ty.wt,Hd.wt] at hn bY;have ky:=ps.fq;have hc:=ps.ek;have oc:=ps.gf;refine eG 26 [.tmp 2] func75 rfl ntmps75 rfl fun _ _ _ _=>?_;refine br ?_ ?_<;>intro h9
  ·have h9:h.ag=9:=sU h9;have:(Ty.mk h ps).nn=0:=by simp [Ty.nn,h9]
   rw [this];exact (rfl:_=_)
  have h9:¬ h.ag=9:=sU h9
  refine aP (fun j st=>∃ (e n:Nat),st=T9 (.mk h ps) ps e n/\e<=ps.len/\n + (ps.drop e).nn=1 + ps.nn/\j=ps.len - e) ps.len
   (T9 (.mk h ps) ps 0 1) (wkM wB) ⟨0,1,rfl,by omega,rfl,by omega⟩ ?_
  rintro j st ⟨e,n,rfl,he,bg,rfl⟩;refine br ?_ ?_<;>intro hL
  ·have av:e < ps.len:=by simpa [aH] using hL
   obtain ⟨p,t,hx⟩:=Pts.ej av;have Cb:=Pts.fW (mG hx);rw [Pts.drop_cons hx] at bg;simp only [Pts.nn] at bg;have hct:=t.ek;have hct2:=t.gf;obtain ⟨u,us⟩:=t;refine iX (bO hx) ?_;refine br ?_ ?_<;>intro hB
   ·have hB:p.bare=false:=sU hB;rw [hB] at bg;have bg:n + ((Ty.mk u us).nn + (ps.drop (e + 1)).nn)=1 + ps.nn:=bg;refine cP WV (vC k (.mk u us) (by omega) (by omega)) ?_;have qI:IntKind.i64.wrap ((n:Int) + (Ty.mk u us).nn)=((n + (Ty.mk u us).nn:Nat):Int):=by rw [wrap64 (by omega) (by omega)];omega
    exact ⟨T9 (.mk h ps) ps (e + 1) (n + (Ty.mk u us).nn),(wkM (wB2 qI (nxt av (by omega)))),ps.len - (e + 1),by omega,e + 1,_,rfl,by omega,by omega,rfl⟩
   ·have hB:p.bare=true:=sU hB;rw [hB] at bg;have bg:n + (0 + (ps.drop (e + 1)).nn)=1 + ps.nn:=bg;exact rE ⟨_,by omega,e + 1,n,rfl,by omega,by omega,rfl⟩ (wkM (wB1 (nxt av (by omega))))
  ·have hge:e=ps.len:=by simp [aH] at hL;omega
   rw [hge,Pts.cW] at bg;simp only [Pts.nn] at bg;have e2:(n:Int)=((Ty.mk h ps).nn:Int):=by simp only [Ty.nn,ah h9];omega
   refine (qY ?_:);exact e2
structure Lx where
 af:List ByteArray
 aG:List Nat
 rows:List Nat
 js:List Int
 f:Nat->Nat->Bool
def Lx.pd (X:Lx):DV:=.pt (iy X.af (cL X.af X.aG) X.rows X.js) 0
def Lx.lev (X:Lx) (l:List Wd):Int:=Av X.f X.af l
def Lx.bad (X:Lx) (l:List Wd):Ft:=labW X.af l
structure Lx.OK (X:Lx):Prop where
 hT:gT X.af X.aG
 kX:X.aG.length<=1099511627776
 hL:dG X.f X.af.length
 hn:X.af.length<=32
 hj:∀ x y,x < X.af.length->y < X.af.length->JM X.f X.af.length X.js x y
theorem Lx.pW {X:Lx} (h:X.OK) (l:List Wd) (hs:wdsWt l<=1099511627776):EvP prog 73 [X.pd,.sl 2 (bA l) none] (.tup [.v (.int .i64 (X.lev l)),(X.bad l).d]):=
 Mr X.af X.aG X.rows X.js h.hT h.kX h.hL h.hn h.hj l hs
def bC (s:Sch) (lat out:DV) (m:Int):List DV:=.sl 2 (bA s.ae) none :: .sl 4 (mf s.order) none :: .sl 11 (dNms s.types) none :: (dK s.root ++ [lat,out,.v (.int .i64 m)])
theorem vD {X:Lx} (h:X.OK) (s:Sch) (pc:List DV) (m:Int) (l:List Wd) (hs:wdsWt l<=1099511627776) :
  EvP prog 127 [.pt (bC s X.pd (.pt pc 0) m) 0,.sl 2 (bA l) none] (.v (.int .i64 (X.lev l))):=by
 obtain ⟨ae,order,types,⟨rh,rp⟩⟩:=s;refine eG 17 [.tmp 4] func127 rfl ntmps127 rfl fun _ _ _ _=>?_;refine cP La (Lx.pW h l hs) ?_;exact (rfl:_=_)
def tw (s:Sch):List Wd:=s.types.map fun x=>x.1
def tL (s:Sch):List ByteArray:=az (tw s)
theorem Hw (s:Sch):(tw s).length=s.types.length:=by simp [tw]
theorem jS (s:Sch):(tL s).length=s.types.length:=by simp [tL,az,tw]
def pC (s:Sch) (aG:List Nat) (a b c e:DV):List DV:=[a,b,c,.pt (cL (tL s) aG) 0,e]
def tz (s:Sch) (t:Ty):Bool:=decide (t.h.ag=9->cO (tL s) t.h.name.s≠none)
def endI (s:Sch):Nat->Nat->Option Nat
 | 0,_=>none
 | k + 1,i=>
  match s.types[i]? with
  | none=>none
  | some x=>if x.2.h.ag=9 then endI s k ((cO (tL s) x.2.h.name.s).getD 0) else some i
theorem pX {s:Sch}:∀ {k i j:Nat},endI s k i=some j->j < s.types.length/\∀ x,s.types[j]? = some x->x.2.h.ag≠9
 | 0,i,j,h=>by cases h
 | k + 1,i,j,h=>by
  rw [endI] at h
  cases hx:s.types[i]? with
  | none=>rw [hx] at h;cases h
  | some x=>
   rw [hx] at h;simp only at h;split at h
   ·exact pX h
   all_goals grind
abbrev R5 (B:DV) (n i e:Nat):St:=
 ⟨[(0,⟨[],B⟩),au 1 i,au 12 n,au 13 e],[],[]⟩
theorem CK (s:Sch) (lat:DV) (aG:List Nat) (a b c e0:DV) (m:Int) (hT:gT (tL s) aG) (kX:aG.length<=1099511627776) (hl:s.types.length<=64) (hr:∀ x∈s.types,tz s x.2=true) (i:Nat) (hi:i < s.types.length) :
  EvP prog 74 [.pt (bC s lat (.pt (pC s aG a b c e0) 0) m) 0,.v (.int .i64 i)] (.v (.int .i64 (oz (endI s (s.types.length + 1) i)))):=by
 have gN:=jS s;obtain ⟨ae,order,types,⟨rh,rp⟩⟩:=s;simp only at hl hr hi gN;have hN:=dA types;have hcnt:IntKind.i64.wrap ((((dNms types).length:Nat):Int) + 1)=((types.length + 1:Nat):Int):=by rw [hN,wrap64 (by omega) (by omega)];all_goals rfl
 refine eG 43 [.tmp 4] func74 rfl ntmps74 rfl fun _ _ _ _=>?_
 refine aP (fun j st=>∃ e q:Nat,st=R5 (.pt (bC ⟨ae,order,types,.mk rh rp⟩ lat (.pt (pC ⟨ae,order,types,.mk rh rp⟩ aG a b c e0) 0) m) 0) (types.length + 1) q e/\e<=types.length + 1/\q < types.length/\endI ⟨ae,order,types,.mk rh rp⟩ (types.length + 1) i=endI ⟨ae,order,types,.mk rh rp⟩ (types.length + 1 - e) q/\j=types.length + 1 - e) (types.length + 1)
  (R5 (.pt (bC ⟨ae,order,types,.mk rh rp⟩ lat (.pt (pC ⟨ae,order,types,.mk rh rp⟩ aG a b c e0) 0) m) 0) (types.length + 1) i 0) (wkM (wB1 hcnt)) ⟨0,i,rfl,by omega,hi,rfl,by omega⟩ ?_
 rintro j st ⟨e,q,rfl,he,hq,aK,rfl⟩;refine br ?_ ?_<;>intro hL
 ·have av:e < types.length + 1:=by have:=hL;simp at this;omega
  obtain ⟨x,hx⟩:∃ x,types[q]? = some x:=⟨_,gE hq⟩;have xE:=hr x (mG hx);obtain ⟨xw,⟨xh,xp⟩⟩:=x
  have bi:endI ⟨ae,order,types,.mk rh rp⟩ (types.length + 1 - e) q=if xh.ag=9 then endI ⟨ae,order,types,.mk rh rp⟩ (types.length + 1 - (e + 1)) ((cO (tL ⟨ae,order,types,.mk rh rp⟩) xh.name.s).getD 0) else some q:=by
   rw [show types.length + 1 - e=(types.length + 1 - (e + 1)) + 1 by omega,endI];simp only [hx];rfl
  rw [bi] at aK;refine iX (dNms_get hx) ?_;refine br ?_ ?_<;>intro h9
  ·have h9:¬ xh.ag=9:=sU h9;rw [ah h9] at aK;rw [aK];exact (rfl:_=_)
  have h9:xh.ag=9:=sU h9;rw [ai h9] at aK
  have bg:cO (tL ⟨ae,order,types,.mk rh rp⟩) xh.name.s≠none:=by
   have:=of_decide_eq_true xE;exact this h9
  obtain ⟨k,hk⟩:=Option.ne_none_iff_exists'.1 bg;have nN:=(cS hk).1;rw [hk] at aK;have hf:=iw (tL ⟨ae,order,types,.mk rh rp⟩) aG xh.name.s hT kX;rw [hk] at hf;refine dI ?_;refine cD uP hf ?_;exact rE ⟨_,by omega,e + 1,k,rfl,by omega,by omega,aK,rfl⟩ (wkM (wB1 (nxt av (by omega))))
 ·have hge:e=types.length + 1:=by have:=hL;simp at this;omega
  subst hge;rw [Nat.sub_self] at aK;rw [aK];exact (rfl:_=_)
def loopF (s:Sch):Ft:=
 match bc (fun i=>(endI s (s.types.length + 1) i).isNone) s.types.length with
 | none=>(0,0)
 | some i=>(11,T6 (tw s) i)
abbrev Aw (B:DV) (s:Sch) (e:Nat):St:=
 ⟨[(0,⟨[],B⟩),aD 2 0,aZ 9 11 (dNms s.types),au 10 ((dNms s.types).length),au 11 e],[[.v (.int .i64 0),.v (.int .i64 0)]],[]⟩
theorem Fq (s:Sch) (lat:DV) (aG:List Nat) (a b c e0:DV) (m:Int) (hT:gT (tL s) aG) (kX:aG.length<=1099511627776) (hl:s.types.length<=64) (hr:∀ x∈s.types,tz s x.2=true) :
  EvP prog 30 [.pt (bC s lat (.pt (pC s aG a b c e0) 0) m) 0] (loopF s).d:=by
 have lM:=CK s lat aG a b c e0 m hT kX hl hr;have hN:=dA s.types;have hF:=loopF.eq_1 s;obtain ⟨ae,order,types,⟨rh,rp⟩⟩:=s;simp only at hl hr lM hN;refine eG 26 [.cell 2 44] func30 rfl ntmps30 rfl fun _ _ _ _=>?_
 refine aP (fun j st=>∃ e:Nat,st=Aw (.pt (bC ⟨ae,order,types,.mk rh rp⟩ lat (.pt (pC ⟨ae,order,types,.mk rh rp⟩ aG a b c e0) 0) m) 0) ⟨ae,order,types,.mk rh rp⟩ e/\e<=types.length/\(∀ i,i < e->(endI ⟨ae,order,types,.mk rh rp⟩ (types.length + 1) i).isNone=false)/\j=types.length - e) types.length
  (Aw (.pt (bC ⟨ae,order,types,.mk rh rp⟩ lat (.pt (pC ⟨ae,order,types,.mk rh rp⟩ aG a b c e0) 0) m) 0) ⟨ae,order,types,.mk rh rp⟩ 0) (wkM wB) ⟨0,rfl,by omega,fun _ h=>by omega,by omega⟩ ?_
 rintro j st ⟨e,rfl,he,dE,rfl⟩;refine br ?_ ?_<;>intro hL
 ·have av:e < types.length:=by have:=hL;simp [hN] at this;exact this
  obtain ⟨x,hx⟩:=gX av;have Ua:(tw ⟨ae,order,types,.mk rh rp⟩)[e]? = some x.1:=by simp [tw,hx]
  have h1:=lM e av;obtain ⟨xw,⟨xh,xp⟩⟩:=x;refine iX (dNms_get hx) ?_;refine cP en74 h1 ?_
  cases hE:endI ⟨ae,order,types,.mk rh rp⟩ (types.length + 1) e with
  | none=>
   have Bl:=bP (p:=fun i=>(endI ⟨ae,order,types,.mk rh rp⟩ (types.length + 1) i).isNone) av (by simp only [hE];rfl) dE;simp only [Bl] at hF;rw [j8 Ua] at hF;refine ⟨_,?_,rfl⟩;rw [hF];exact ax
  | some k=>
   refine ⟨Aw (.pt (bC ⟨ae,order,types,.mk rh rp⟩ lat (.pt (pC ⟨ae,order,types,.mk rh rp⟩ aG a b c e0) 0) m) 0) ⟨ae,order,types,.mk rh rp⟩ (e + 1),(wkM (wB1 (nxt av (by omega)))),types.length - (e + 1),by omega,e + 1,rfl,by omega,fun i hi=>?_,rfl⟩;rcases jB hi with hi | rfl
   ·exact dE i hi
   ·rw [hE];all_goals rfl
 ·have hge:e=types.length:=sW hN hL;subst hge;simp only [bZ dE] at hF;refine ⟨_,?_,rfl⟩;rw [hF];exact ax
mutual
def knT (X:Lx) (L:List ByteArray):Ty->Ft
 | .mk h ps=>if h.ag=9/\cO L h.name.s=none then (15,h.name.a) else knP X L ps
def knP (X:Lx) (L:List ByteArray):Pts->Ft
 | .nil=>(0,0)
 | .cons p t r=>if (X.bad p.label).1≠0 then X.bad p.label else if (X.bad p.cl).1≠0 then X.bad p.cl else if p.bare then knP X L r else if (knT X L t).1≠0 then knT X L t else knP X L r
end
abbrev YL (B:DV) (t:Ty) (ps:Pts) (e:Nat):St:=
 ⟨[(0,⟨[],B⟩),aD 3 0,aD 4 1,aZ 38 18 (fu ps),au 39 ((fu ps).length),au 40 e],[dK t,[.v (.int .i64 0),.v (.int .i64 0)]],[]⟩
abbrev yQ (B:DV) (t:Ty) (ps:Pts) (p:Ph) (u:Ty) (e q:Nat):St:=
 ⟨[(0,⟨[],B⟩),aD 3 0,aD 4 1,aZ 38 18 (fu ps),au 39 ((fu ps).length),au 40 e,aD 8 2,aZ 49 1 [[.sl 2 (bA p.label) none],[.sl 2 (bA p.cl) none]],au 50 (2:Nat),au 51 q],[dK t,[.v (.int .i64 0),.v (.int .i64 0)],EL p (dK u)],[]⟩
theorem vE {X:Lx} (hX:X.OK) (s:Sch) (aG:List Nat) (a b c e0:DV) (m:Int) (hT:gT (tL s) aG) (kX:aG.length<=1099511627776):∀ (k:Nat) (t:Ty),t.wt<=k->t.wt<=1099511627776 ->
  EvP prog 29 [.pt (bC s X.pd (.pt (pC s aG a b c e0) 0) m) 0,.agg (dK t)] (knT X (tL s) t).d
 | 0,t,hn,_=>by have:=t.dP;omega
 | k + 1,.mk h ps,hn,bY=>by
  have ih:=vE hX s aG a b c e0 m hT kX k;simp only [Ty.wt,Hd.wt] at hn bY;have ky:=ps.fq;obtain ⟨ae,order,types,⟨rh,rp⟩⟩:=s;have hf:=iw (tL ⟨ae,order,types,.mk rh rp⟩) aG h.name.s hT kX;have hS:knT X (tL ⟨ae,order,types,.mk rh rp⟩) (.mk h ps)=if h.ag=9/\cO (tL ⟨ae,order,types,.mk rh rp⟩) h.name.s=none then (15,h.name.a) else knP X (tL ⟨ae,order,types,.mk rh rp⟩) ps:=by rw [knT]
  refine eG 81 [.cell 4 44] func29 rfl ntmps29 rfl fun _ _ _ _=>?_;generalize knT X (tL ⟨ae,order,types,.mk rh rp⟩) (.mk h ps)=F at hS ⊢;have YM:knP X (tL ⟨ae,order,types,.mk rh rp⟩) ps=knP X (tL ⟨ae,order,types,.mk rh rp⟩) (ps.drop 0):=by rw [Pts.drop]
  refine br ?_ ?_<;>intro h9
  ·have h9:h.ag=9:=sU h9;refine dI ?_
   cases hx:cO (tL ⟨ae,order,types,.mk rh rp⟩) h.name.s with
   | none=>
    rw [ai ⟨h9,hx⟩] at hS;rw [hx] at hf;refine cD uP hf ?_;refine ⟨_,?_,rfl⟩;rw [hS];exact ax
   | some i=>
    rw [ah (by rw [hx];simp),YM] at hS;rw [hx] at hf;refine cD uP hf ?_;refine lI (fun j st=>∃ e:Nat,st=YL (.pt (bC ⟨ae,order,types,.mk rh rp⟩ X.pd (.pt (pC ⟨ae,order,types,.mk rh rp⟩ aG a b c e0) 0) m) 0) (.mk h ps) ps e/\e<=ps.len/\F=knP X (tL ⟨ae,order,types,.mk rh rp⟩) (ps.drop e)/\j=ps.len - e) ⟨0,rfl,by omega,hS,rfl⟩ (wkM wB) ?_;rintro j st ⟨e,rfl,he,aK,rfl⟩;refine br ?_ ?_<;>intro hL
    ·have av:e < ps.len:=by simpa [aH] using hL
     obtain ⟨p,t,hx⟩:=Pts.ej av;have Cb:=Pts.fW (mG hx);rw [Pts.drop_cons hx] at aK;simp only [knP] at aK;have hw1:wdsWt p.label + wdsWt p.cl<=p.wt:=by simp only [Ph.wt];omega
     obtain ⟨u,us⟩:=t;refine iX (bO hx) ?_;refine lI (fun j st=>∃ q:Nat,st=yQ (.pt (bC ⟨ae,order,types,.mk rh rp⟩ X.pd (.pt (pC ⟨ae,order,types,.mk rh rp⟩ aG a b c e0) 0) m) 0) (.mk h ps) ps p (.mk u us) e q/\q<=2/\(1<=q->(X.bad p.label).1=0)/\(2<=q->(X.bad p.cl).1=0)/\j=2 - q) ⟨0,rfl,by omega,fun h=>by omega,fun h=>by omega,rfl⟩ (wkM wB) ?_;rintro j st ⟨q,rfl,hq,Ub,ku,rfl⟩;refine br ?_ ?_<;>intro mN
     ·have Ik:q=0∨q=1:=by have:=mN;simp at this;omega
      rcases Ik with rfl | rfl
      ·refine ⟨_,⟨by omega,rfl⟩,?_⟩;refine cP La (Lx.pW hX p.label (by omega)) ?_;refine br ?_ ?_<;>intro hb
       ·have hb:(X.bad p.label).1≠0:=sU hb;rw [ai hb] at aK;refine ⟨_,?_,rfl⟩;rw [aK];exact ax
       ·have hb:(X.bad p.label).1=0:=sU hb;exact ⟨yQ (.pt (bC ⟨ae,order,types,.mk rh rp⟩ X.pd (.pt (pC ⟨ae,order,types,.mk rh rp⟩ aG a b c e0) 0) m) 0) (.mk h ps) ps p (.mk u us) e 1,(wkM (wB1 (nxt (e:=0) (n:=2) (by omega) (by omega)))),1,by omega,1,rfl,by omega,fun _=>hb,fun h=>by omega,rfl⟩
      ·have iP:=Ub (by omega);refine ⟨_,⟨by omega,rfl⟩,?_⟩;refine cP La (Lx.pW hX p.cl (by omega)) ?_;refine br ?_ ?_<;>intro hb
       ·have hb:(X.bad p.cl).1≠0:=sU hb;rw [ah (by rw [iP];simp),ai hb] at aK;refine ⟨_,?_,rfl⟩;rw [aK];exact ax
       ·have hb:(X.bad p.cl).1=0:=sU hb;exact ⟨yQ (.pt (bC ⟨ae,order,types,.mk rh rp⟩ X.pd (.pt (pC ⟨ae,order,types,.mk rh rp⟩ aG a b c e0) 0) m) 0) (.mk h ps) ps p (.mk u us) e 2,(wkM (wB1 (nxt (e:=1) (n:=2) (by omega) (by omega)))),0,by omega,2,rfl,by omega,fun _=>iP,fun _=>hb,rfl⟩
     ·have Ik:q=2:=by have:=mN;simp at this;omega
      subst Ik;have iP:=Ub (by omega);have om:=ku (by omega);rw [ah (by rw [iP];simp),ah (by rw [om];simp)] at aK;refine br ?_ ?_<;>intro hB
      ·have hB:p.bare=true:=hB;rw [ai hB] at aK;exact rE ⟨_,by omega,e + 1,rfl,by omega,aK,rfl⟩ (wkM (wB1 (nxt av (by omega))))
      ·have hB:p.bare=false:=hB;rw [ah (by rw [hB];decide)] at aK;refine cP Tt (ih (.mk u us) (by omega) (by omega)) ?_;refine br ?_ ?_<;>intro hb
       ·have hb:(knT X (tL ⟨ae,order,types,.mk rh rp⟩) (.mk u us)).1≠0:=sU hb;rw [ai hb] at aK;refine ⟨_,?_,rfl⟩;rw [aK];exact ax
       ·have hb:(knT X (tL ⟨ae,order,types,.mk rh rp⟩) (.mk u us)).1=0:=sU hb;rw [ah (by rw [hb];simp)] at aK;exact rE ⟨_,by omega,e + 1,rfl,by omega,aK,rfl⟩ (wkM (wB1 (nxt av (by omega))))
    ·have hge:e=ps.len:=by simp [aH] at hL;omega
     rw [hge,Pts.cW] at aK;simp only [knP] at aK;refine ⟨_,?_,rfl⟩;rw [aK];exact ax
  ·have h9:¬ h.ag=9:=sU h9;rw [ah (fun hc=>h9 hc.1),YM] at hS;refine lI (fun j st=>∃ e:Nat,st=YL (.pt (bC ⟨ae,order,types,.mk rh rp⟩ X.pd (.pt (pC ⟨ae,order,types,.mk rh rp⟩ aG a b c e0) 0) m) 0) (.mk h ps) ps e/\e<=ps.len/\F=knP X (tL ⟨ae,order,types,.mk rh rp⟩) (ps.drop e)/\j=ps.len - e) ⟨0,rfl,by omega,hS,rfl⟩ (wkM wB) ?_;rintro j st ⟨e,rfl,he,aK,rfl⟩;refine br ?_ ?_<;>intro hL
   ·have av:e < ps.len:=by simpa [aH] using hL
    obtain ⟨p,t,hx⟩:=Pts.ej av;have Cb:=Pts.fW (mG hx);rw [Pts.drop_cons hx] at aK;simp only [knP] at aK;have hw1:wdsWt p.label + wdsWt p.cl<=p.wt:=by simp only [Ph.wt];omega
    obtain ⟨u,us⟩:=t;refine iX (bO hx) ?_;refine lI (fun j st=>∃ q:Nat,st=yQ (.pt (bC ⟨ae,order,types,.mk rh rp⟩ X.pd (.pt (pC ⟨ae,order,types,.mk rh rp⟩ aG a b c e0) 0) m) 0) (.mk h ps) ps p (.mk u us) e q/\q<=2/\(1<=q->(X.bad p.label).1=0)/\(2<=q->(X.bad p.cl).1=0)/\j=2 - q) ⟨0,rfl,by omega,fun h=>by omega,fun h=>by omega,rfl⟩ (wkM wB) ?_;rintro j st ⟨q,rfl,hq,Ub,ku,rfl⟩;refine br ?_ ?_<;>intro mN
    ·have Ik:q=0∨q=1:=by have:=mN;simp at this;omega
     rcases Ik with rfl | rfl
     ·refine ⟨_,⟨by omega,rfl⟩,?_⟩;refine cP La (Lx.pW hX p.label (by omega)) ?_;refine br ?_ ?_<;>intro hb
      ·have hb:(X.bad p.label).1≠0:=sU hb;rw [ai hb] at aK;refine ⟨_,?_,rfl⟩;rw [aK];exact ax
      ·have hb:(X.bad p.label).1=0:=sU hb;exact ⟨yQ (.pt (bC ⟨ae,order,types,.mk rh rp⟩ X.pd (.pt (pC ⟨ae,order,types,.mk rh rp⟩ aG a b c e0) 0) m) 0) (.mk h ps) ps p (.mk u us) e 1,(wkM (wB1 (nxt (e:=0) (n:=2) (by omega) (by omega)))),1,by omega,1,rfl,by omega,fun _=>hb,fun h=>by omega,rfl⟩
     ·have iP:=Ub (by omega);refine ⟨_,⟨by omega,rfl⟩,?_⟩;refine cP La (Lx.pW hX p.cl (by omega)) ?_;refine br ?_ ?_<;>intro hb
      ·have hb:(X.bad p.cl).1≠0:=sU hb;rw [ah (by rw [iP];simp),ai hb] at aK;refine ⟨_,?_,rfl⟩;rw [aK];exact ax
      ·have hb:(X.bad p.cl).1=0:=sU hb;exact ⟨yQ (.pt (bC ⟨ae,order,types,.mk rh rp⟩ X.pd (.pt (pC ⟨ae,order,types,.mk rh rp⟩ aG a b c e0) 0) m) 0) (.mk h ps) ps p (.mk u us) e 2,(wkM (wB1 (nxt (e:=1) (n:=2) (by omega) (by omega)))),0,by omega,2,rfl,by omega,fun _=>iP,fun _=>hb,rfl⟩
    ·have Ik:q=2:=by have:=mN;simp at this;omega
     subst Ik;have iP:=Ub (by omega);have om:=ku (by omega);rw [ah (by rw [iP];simp),ah (by rw [om];simp)] at aK;refine br ?_ ?_<;>intro hB
     ·have hB:p.bare=true:=hB;rw [ai hB] at aK;exact rE ⟨_,by omega,e + 1,rfl,by omega,aK,rfl⟩ (wkM (wB1 (nxt av (by omega))))
     ·have hB:p.bare=false:=hB;rw [ah (by rw [hB];decide)] at aK;refine cP Tt (ih (.mk u us) (by omega) (by omega)) ?_;refine br ?_ ?_<;>intro hb
      ·have hb:(knT X (tL ⟨ae,order,types,.mk rh rp⟩) (.mk u us)).1≠0:=sU hb;rw [ai hb] at aK;refine ⟨_,?_,rfl⟩;rw [aK];exact ax
      ·have hb:(knT X (tL ⟨ae,order,types,.mk rh rp⟩) (.mk u us)).1=0:=sU hb;rw [ah (by rw [hb];simp)] at aK;exact rE ⟨_,by omega,e + 1,rfl,by omega,aK,rfl⟩ (wkM (wB1 (nxt av (by omega))))
   ·have hge:e=ps.len:=by simp [aH] at hL;omega
    rw [hge,Pts.cW] at aK;simp only [knP] at aK;refine ⟨_,?_,rfl⟩;rw [aK];exact ax
def eaL (F:Ty->Ft) (z:Ft):List (Wd × Ty)->Ft
 | []=>z
 | x :: r=>if (F x.2).1≠0 then F x.2 else eaL F z r
theorem Mv {F:Ty->Ft} {z:Ft} {l:List (Wd × Ty)} {e:Nat} {x:Wd × Ty} (h:l[e]? = some x):eaL F z (l.drop e)=if (F x.2).1≠0 then F x.2 else eaL F z (l.drop (e + 1)):=by
 rw [drop_cons h,eaL]
abbrev Mw (B:DV) (fn:DV) (types:List (Wd × Ty)) (e:Nat):St:=
 ⟨[(0,⟨[],B⟩),(1,⟨[],fn⟩),aD 4 0,aZ 12 11 (dNms types),au 13 ((dNms types).length),au 14 e],[[.v (.int .i64 0),.v (.int .i64 0)]],[]⟩
theorem Ja (s:Sch) (lat:DV) (pc:List DV) (m:Int) (hl:s.types.length<=1099511627776) (g:Nat) (hg:Enters prog g) (F:Ty->Ft)
  (hF:∀ t,(t=s.root∨∃ x∈s.types,t=x.2)->EvP prog g [.pt (bC s lat (.pt pc 0) m) 0,.agg (dK t)] (F t).d) :
  EvP prog 27 [.pt (bC s lat (.pt pc 0) m) 0,.fn g [.pt (bC s lat (.pt pc 0) m) 0] []] (eaL F (F s.root) s.types).d:=by
 have hN:=dA s.types;obtain ⟨ae,order,types,⟨rh,rp⟩⟩:=s;simp only at hl hF hN;have fD:=hF (.mk rh rp) (.inl rfl);have Uc:∀ x∈types,_:=fun x hx=>hF x.2 (.inr ⟨x,hx,rfl⟩);clear hF;refine eG 34 [.cell 4 44] func27 rfl ntmps27 rfl fun _ _ _ _=>?_;generalize hG:eaL F (F (.mk rh rp)) types=G;have hG0:G=eaL F (F (.mk rh rp)) (types.drop 0):=by rw [List.drop_zero,hG]
 refine aP (fun j st=>∃ e:Nat,st=Mw (.pt (bC ⟨ae,order,types,.mk rh rp⟩ lat (.pt pc 0) m) 0) (.fn g [.pt (bC ⟨ae,order,types,.mk rh rp⟩ lat (.pt pc 0) m) 0] []) types e/\e<=types.length/\G=eaL F (F (.mk rh rp)) (types.drop e)/\j=types.length - e) types.length
  (Mw (.pt (bC ⟨ae,order,types,.mk rh rp⟩ lat (.pt pc 0) m) 0) (.fn g [.pt (bC ⟨ae,order,types,.mk rh rp⟩ lat (.pt pc 0) m) 0] []) types 0) (wkM wB) ⟨0,rfl,by omega,hG0,by omega⟩ ?_
 rintro j st ⟨e,rfl,he,aK,rfl⟩;refine br ?_ ?_<;>intro hL
 ·have av:e < types.length:=by have:=hL;simp [hN] at this;exact this
  obtain ⟨x,hx⟩:=gX av;have hp:=Uc x (mG hx);rw [Mv hx] at aK;obtain ⟨xw,⟨xh,xp⟩⟩:=x;refine iX (dNms_get hx) ?_;refine cP hg hp ?_;refine br ?_ ?_<;>intro hf
  ·have hf:(F (.mk xh xp)).1≠0:=sU hf;rw [ai hf] at aK;refine ⟨_,?_,rfl⟩;rw [aK];exact ax
  ·have hf:(F (.mk xh xp)).1=0:=sU hf;rw [ah (by rw [hf];simp)] at aK;exact rE ⟨_,by omega,e + 1,rfl,by omega,aK,rfl⟩ (wkM (wB1 (nxt av (by omega))))
 ·have hge:e=types.length:=sW hN hL;subst hge;rw [List.drop_length,eaL] at aK;refine cP hg fD ?_;refine ⟨_,?_,rfl⟩;rw [aK];exact ax
def bS (t:Ty) (m:Int):Ft × Int:=if (wrong t 1 0).1.1≠0 then ((wrong t 1 0).1,m) else if 512 < m + t.cnt then ((8,t.h.aE),m + t.cnt) else ((0,0),m + t.cnt)
def Mx (s:Sch) (lat:DV) (pc:List DV) (x:Ft × Int) (r:DV) (os:List (List DV)) (_:List TkE):Prop:=r=x.1.d/\os=[bC s lat (.loc 1 0) x.2,pc]
theorem CL (s:Sch) (lc pc:List DV) (m:Int) (l8:0<=m) (gM:m<=1099511627776) (t:Ty) (bY:t.wt<=1099511627776) (hpc:∀ bx N n0 m0,CcL bx N n0 m0 pc pc) :
  Ev prog 28 [.loc 0 0,.agg (dK t)] [bC s (.pt lc 0) (.loc 1 0) m,pc] [] (Mx s (.pt lc 0) pc (bS t m)):=by
 have hk:=CJ t bY;have hc:=vB t.wt t (aW _) bY;have KV:=t.ek;have hF:=bS.eq_1 t m;obtain ⟨ae,order,types,⟨rh,rp⟩⟩:=s;obtain ⟨h,ps⟩:=t;generalize bS (.mk h ps) m=R at hF ⊢;refine eG 30 [.cell 4 44] func28 rfl ntmps28 rfl fun _ _ _ _=>?_;refine cP en70 hk ?_;refine br ?_ ?_<;>intro hf
 ·have hf:(wrong (.mk h ps) 1 0).1.1≠0:=sU hf;rw [ai hf] at hF;subst hF;exact ⟨Ft.d _,[bC ⟨ae,order,types,.mk rh rp⟩ (.pt lc 0) (.loc 1 0) m,pc],ax,(by repeat' (first | exact rfl | exact trivial | exact Or.inr (Or.inl ⟨_,rfl⟩) | exact Or.inr ⟨_,rfl⟩ | exact Or.inl ⟨rfl,rfl⟩ | exact Or.inl rfl | refine Or.inr ⟨_,_,rfl,Nat.zero_le _,rfl,?_⟩ | refine ⟨_,_,rfl,?_,?_⟩ | refine ⟨_,rfl,?_⟩ | exact hpc _ _ _ _ | exact ⟨nL rfl,rfl⟩ | exact congrArg (fun z=>DV.v (.int .i64 z)) hw | refine Or.inr (Or.inr (Or.inr ⟨_,_,rfl,?_⟩)) | exact Or.inl rfl | refine Or.inr ?_)),rfl,rfl⟩
 have hf:(wrong (.mk h ps) 1 0).1.1=0:=sU hf;rw [ah (by rw [hf];simp)] at hF;have hw:IntKind.i64.wrap (m + ((Ty.mk h ps).cnt:Int))=m + ((Ty.mk h ps).cnt:Int):=wrap64 (by omega) (by omega);refine dS ?_;refine cD WU hc ?_;refine br ?_ ?_<;>intro hg
 ·have hg:512 < m + ((Ty.mk h ps).cnt:Int):=sV hw hg;rw [ai hg] at hF;subst hF;exact ⟨Ft.d _,[bC ⟨ae,order,types,.mk rh rp⟩ (.pt lc 0) (.loc 1 0) (m + (Ty.mk h ps).cnt),pc],ax,(wC2 hpc hw),rfl,rfl⟩
 ·have hg:¬ 512 < m + ((Ty.mk h ps).cnt:Int):=sV hw hg;rw [ah hg] at hF;subst hF;exact ⟨Ft.d _,[bC ⟨ae,order,types,.mk rh rp⟩ (.pt lc 0) (.loc 1 0) (m + (Ty.mk h ps).cnt),pc],ax,(wC2 hpc hw),rfl,rfl⟩
def eaR (z:Ty):List (Wd × Ty)->Int->Ft × Int
 | [],m=>bS z m
 | x :: r,m=>if (bS x.2 m).1.1≠0 then bS x.2 m else eaR z r (bS x.2 m).2
theorem My {z:Ty} {l:List (Wd × Ty)} {e:Nat} {m:Int} {x:Wd × Ty} (h:l[e]? = some x):eaR z (l.drop e) m=if (bS x.2 m).1.1≠0 then bS x.2 m else eaR z (l.drop (e + 1)) (bS x.2 m).2:=by
 rw [drop_cons h,eaR]
theorem nC {t:Ty} {m:Int} (h:(bS t m).1.1=0):(bS t m).2=m + t.cnt/\(bS t m).2<=512/\(wrong t 1 0).1.1=0/\(bS t m).1=(0,0):=by grind [bS]
abbrev Fs (s:Sch) (aG:List Nat) (lc:List DV):List DV:=pC s aG (.pt lc 0) (.v (.slice none 0 0)) (.v (.int .i64 0)) (.v (.slice none 0 0))
abbrev Ax (s:Sch) (lc pc:List DV) (m:Int) (types:List (Wd × Ty)) (e:Nat):St:=
 ⟨[aD 0 0,(1,⟨[],.fn 28 [.loc 0 0] []⟩),aD 4 2,aZ 12 11 (dNms types),au 13 ((dNms types).length),au 14 e],
  [bC s (.pt lc 0) (.loc 1 0) m,pc,[.v (.int .i64 0),.v (.int .i64 0)]],[]⟩
theorem Fu (s:Sch) (lc:List DV) (aG:List Nat) (m:Int) (l8:0<=m) (gM:m<=512) (hl:s.types.length<=1099511627776) (bY:∀ t,(t=s.root∨∃ x∈s.types,t=x.2)->t.wt<=1099511627776) :
  Ev prog 27 [.loc 0 0,.fn 28 [.loc 0 0] []] [bC s (.pt lc 0) (.loc 1 0) m,Fs s aG lc] [] (Mx s (.pt lc 0) (Fs s aG lc) (eaR s.root s.types m)):=by
 have hN:=dA s.types;have hR:∀ (m':Int),0<=m' -> m' <= 512->∀ t,(t=s.root∨∃ x∈s.types,t=x.2)->_:=fun m' h0 h1 t ht=>CL s lc (Fs s aG lc) m' h0 (by omega) t (bY t ht) (fun bx N n0 m0=>ax);obtain ⟨ae,order,types,⟨rh,rp⟩⟩:=s;simp only at hl hR hN bY;refine eG 34 [.cell 4 44] func27 rfl ntmps27 rfl fun _ _ _ _=>?_;generalize hG:eaR (.mk rh rp) types m=G;have hG0:G=eaR (.mk rh rp) (types.drop 0) m:=by rw [List.drop_zero,hG]
 refine aP (fun j st=>∃ (e:Nat) (m':Int),st=Ax ⟨ae,order,types,.mk rh rp⟩ lc (Fs ⟨ae,order,types,.mk rh rp⟩ aG lc) m' types e/\e<=types.length/\0<=m' /\ m' <= 512/\G=eaR (.mk rh rp) (types.drop e) m' /\ j=types.length - e) types.length
  (Ax ⟨ae,order,types,.mk rh rp⟩ lc (Fs ⟨ae,order,types,.mk rh rp⟩ aG lc) m types 0) (wkB 3 (by repeat' (first | exact rfl | exact aA rfl | exact rfl | refine ⟨_,_,rfl,?_,?_⟩)) (by repeat' (first | exact trivial | exact aA rfl | exact rfl | refine ⟨⟨_,rfl,?_⟩,?_⟩))) ⟨0,m,rfl,by omega,l8,gM,hG0,by omega⟩ ?_
 rintro j st ⟨e,m',rfl,he,tu,Cg,aK,rfl⟩;refine br ?_ ?_<;>intro hL
 ·have av:e < types.length:=by have:=hL;simp [hN] at this;exact this
  obtain ⟨x,hx⟩:=gX av;have hp:=hR m' tu Cg x.2 (.inr ⟨x,mG hx,rfl⟩);rw [My hx] at aK;obtain ⟨xw,⟨xh,xp⟩⟩:=x;refine iX (dNms_get hx) ?_;refine dr 2 0 WI rfl rfl rfl gp gp hp (fun r iR cI hΦ h1 h2=>?_);obtain ⟨rfl,rfl⟩:=hΦ;have h2:=List.eq_nil_of_length_eq_zero h2;subst h2;refine br ?_ ?_<;>intro hf
  ·have hf:(bS (.mk xh xp) m').1.1≠0:=sU hf;rw [ai hf] at aK;subst aK;exact ⟨Ft.d _,[bC ⟨ae,order,types,.mk rh rp⟩ (.pt lc 0) (.loc 1 0) (bS (.mk xh xp) m').2,Fs ⟨ae,order,types,.mk rh rp⟩ aG lc],ax,gp,rfl,rfl⟩
  ·have hf:(bS (.mk xh xp) m').1.1=0:=sU hf;rw [ah (by rw [hf];simp)] at aK;obtain ⟨g1,g2,_,_⟩:=nC hf;exact ⟨Ax ⟨ae,order,types,.mk rh rp⟩ lc (Fs ⟨ae,order,types,.mk rh rp⟩ aG lc) (bS (.mk xh xp) m').2 types (e + 1),(wkB 3 (mw (nxt av (by omega))) (wB1 (nxt av (by omega)))),types.length - (e + 1),by omega,e + 1,_,rfl,by omega,by omega,g2,aK,rfl⟩
 ·have hge:e=types.length:=sW hN hL;subst hge;rw [List.drop_length,eaR] at aK;refine dr 2 0 WI rfl rfl rfl gp gp (hR m' tu Cg (.mk rh rp) (.inl rfl)) (fun r iR cI hΦ h1 h2=>?_);obtain ⟨rfl,rfl⟩:=hΦ;have h2:=List.eq_nil_of_length_eq_zero h2;subst h2;subst aK;exact ⟨Ft.d _,[bC ⟨ae,order,types,.mk rh rp⟩ (.pt lc 0) (.loc 1 0) (bS (.mk rh rp) m').2,Fs ⟨ae,order,types,.mk rh rp⟩ aG lc],ax,gp,rfl,rfl⟩
def eu (s:Sch):Ft:=if 64 < s.types.length then (8,T6 (tw s) 64) else enumL (tw s) 0 (tw s)
def PI (s:Sch) (lc:List DV) (r:DV) (os:List (List DV)) (_:List TkE):Prop:=
 r=(eu s).d/\((eu s).1=0->∃ aG,gT (tL s) aG/\aG.length<=s.types.length/\os=[bC s (.pt lc 0) (.loc 1 0) 0,Fs s aG lc])
abbrev Mz (s:Sch) (lc:List DV) (n e:Nat):St:=
 ⟨[aD 0 0,aD 2 2,(3,⟨[],.sl 1 (eE (az ((tw s).take e))) (some 0)⟩),aZ 27 11 (dNms s.types),au 28 ((dNms s.types).length),au 29 e],
  [bC s (.pt lc 0) (.loc 1 0) 0,[.pt lc 0,.v (.slice none 0 0),.v (.int .i64 0),.v (.pointer none),.v (.slice none 0 0)],[.v (.int .i64 0),.v (.int .i64 0)]],[⟨n,9,1,none⟩]⟩
theorem Ay (s:Sch) (lc:List DV) (hs:nmsWt s.types<=1099511627776) :
  Ev prog 26 [.loc 0 0] [bC s (.pt lc 0) (.loc 1 0) 0,[.pt lc 0,.v (.slice none 0 0),.v (.int .i64 0),.v (.pointer none),.v (.slice none 0 0)]] [] (PI s lc):=by
 have hN:=dA s.types;have jd:=jt s.types;have gN:=Hw s;have hF:=eu.eq_1 s;have ji:∀ {e:Nat} {x:Wd × Ty},s.types[e]? = some x->(tw s)[e]? = some x.1:=fun h=>by simp [tw,h]
 have ef:=uW (tL s) (by rw [jS];omega);have YN:tL s=az (tw s):=rfl
 have hw:∀ x∈s.types,x.1.s.size<=1099511627776:=fun x hx=>by
  have:=gm hx;simp only [Wd.wt] at this;omega
 obtain ⟨ae,order,types,⟨rh,rp⟩⟩:=s;simp only at hs hN jd gN ji hw hF;generalize hQ:tw ⟨ae,order,types,.mk rh rp⟩=Q at gN hF ji YN;refine eG 67 [.cell 2 44] func26 rfl ntmps26 rfl fun _ _ _ _=>?_;refine br ?_ ?_<;>intro h
 ·have h:64 < types.length:=by simp [hN] at h;omega
  obtain ⟨x,hx⟩:∃ x,types[64]? = some x:=⟨_,gE h⟩;have Ua:=ji hx;rw [ai h,j8 Ua] at hF;obtain ⟨xw,⟨xh,xp⟩⟩:=x;refine iX (dNms_get hx) ?_;refine ⟨Ft.d (8,xw.a),[bC ⟨ae,order,types,.mk rh rp⟩ (.pt lc 0) (.loc 1 0) 0,[.pt lc 0,.v (.slice none 0 0),.v (.int .i64 0),.v (.pointer none),.v (.slice none 0 0)]],ax,gp,by rw [hF],fun h0=>by rw [hF] at h0;simp at h0⟩
 have h:¬ 64 < types.length:=by simp [hN] at h;omega
 rw [ah h] at hF;refine lI (fun j st=>∃ e:Nat,st=Mz ⟨ae,order,types,.mk rh rp⟩ lc e e/\e<=types.length/\(az (Q.take e)).Nodup/\enumL Q 0 Q=enumL Q e (Q.drop e)/\j=types.length - e) ⟨0,rfl,by omega,by simp [az],rfl,rfl⟩ (dJ 3 ⟨0,9,1,none⟩ rfl rfl rfl kZ rfl rfl gR) ?_;rintro j st ⟨e,rfl,he,hnd,aK,rfl⟩;rw [aK] at hF;refine br ?_ ?_<;>intro hL
 ·have av:e < types.length:=by have:=hL;simp [hN] at this;exact this
  obtain ⟨x,hx⟩:=gX av;have RQ:=hw x (mG hx);have hq:=ji hx;have iq:=jr hq;have bi:=oE hq;have Ea:=lG hq hnd;have Mj:=oy (az (Q.take (e + 1))) (by simp [az];omega);rw [<- iq] at Mj;obtain ⟨xw,⟨xh,xp⟩⟩:=x;simp only at RQ hq iq bi Ea Mj;refine iX (dNms_get hx) ?_;rw [hQ];refine ⟨by simp [bW,az];omega,⟨by simp [bW,az,maxLen];omega,by simp [bW,az];omega⟩,?_⟩;refine cP zX (eV xw.s (by omega)) ?_;refine br ?_ ?_<;>intro Hx
  ·have Hx:aM xw.s=false:=sU Hx;have hf:aF Q e xw=9:=by simp [aF,Hx]
   rw [bi,hf,ai (by decide)] at hF;refine ⟨Ft.d (9,xw.a),[bC ⟨ae,order,types,.mk rh rp⟩ (.pt lc 0) (.loc 1 0) 0,[.pt lc 0,.v (.slice none 0 0),.v (.int .i64 0),.v (.pointer none),.v (.slice none 0 0)]],ax,gp,by rw [hF],fun h0=>by rw [hF] at h0;simp at h0⟩
  ·have Hx:aM xw.s=true:=sU Hx;refine bG TC rfl Mj ax (fun r hr=>?_);obtain ⟨z,rfl,hz⟩:=hr;refine br ?_ ?_<;>intro h2
   ·have h2:0<=z:=sU h2;have hd:cq (Q.take e) xw.s=true:=by grind
    have hf:aF Q e xw=10:=by simp [aF,Hx,hd]
    rw [bi,hf,ai (by decide)] at hF;refine ⟨Ft.d (10,xw.a),[bC ⟨ae,order,types,.mk rh rp⟩ (.pt lc 0) (.loc 1 0) 0,[.pt lc 0,.v (.slice none 0 0),.v (.int .i64 0),.v (.pointer none),.v (.slice none 0 0)]],ax,gp,by rw [hF],fun h0=>by rw [hF] at h0;simp at h0⟩
   ·have h2:¬ 0<=z:=sU h2;have xL:(az (Q.take (e + 1))).Nodup:=Classical.byContradiction fun hn=>h2 (hz.2 hn);have hf:aF Q e xw=0:=by simp [aF,Hx,Ea.1 xL]
    rw [hf,ah (by simp)] at bi;have YO:eE (az (Q.take e)) ++ [[DV.v (.string xw.s)]]=eE (az ((tw ⟨ae,order,types,.mk rh rp⟩).take (e + 1))):=by rw [hQ];exact iq
    refine ⟨Mz ⟨ae,order,types,.mk rh rp⟩ lc (e + 1) (e + 1),(wkB 3 (wA2 (nxt av (by omega)) YO) (wB2 (nxt av (by omega)) YO)),types.length - (e + 1),by omega,e + 1,rfl,by omega,xL,aK.trans bi,rfl⟩
 ·have hge:e=types.length:=sW hN hL;have h0:enumL Q e (Q.drop e)=(0,0):=by rw [hge,<- gN,List.drop_length];all_goals rfl
  rw [h0] at hF;have ht:Q.take e=Q:=by rw [hge,<- gN,List.take_length]
  have hEq:az ((tw ⟨ae,order,types,.mk rh rp⟩).take e)=tL ⟨ae,order,types,.mk rh rp⟩:=by rw [hQ,ht,YN]
  rw [<- hEq] at ef;refine dS ?_;refine pG TB rfl ef ax (fun EH hr=>?_);obtain ⟨aG,hT,kX,rfl⟩:=hr;rw [hEq] at hT kX;have hpt:DV.pt (cL (az ((tw ⟨ae,order,types,.mk rh rp⟩).take e)) aG) 0=DV.pt (cL (tL ⟨ae,order,types,.mk rh rp⟩) aG) 0:=congrArg (fun L=>DV.pt (cL L aG) 0) hEq;rw [jS] at kX;exact ⟨Ft.d (0,0),[bC ⟨ae,order,types,.mk rh rp⟩ (.pt lc 0) (.loc 1 0) 0,Fs ⟨ae,order,types,.mk rh rp⟩ aG lc],ax,(by repeat' (first | exact rfl | exact trivial | exact Or.inr (Or.inl ⟨_,rfl⟩) | exact Or.inr ⟨_,rfl⟩ | exact Or.inl ⟨rfl,rfl⟩ | exact Or.inl rfl | refine Or.inr ⟨_,_,rfl,Nat.zero_le _,rfl,?_⟩ | refine ⟨_,_,rfl,?_,?_⟩ | refine ⟨_,rfl,?_⟩ | exact ⟨nL rfl,rfl⟩ | exact Or.inl hpt | refine Or.inr (Or.inr (Or.inr ⟨_,_,rfl,?_⟩)) | exact Or.inl rfl | refine Or.inr ?_)),by rw [hF],fun _=>⟨aG,hT,kX,rfl⟩⟩
def firstA (s:Sch) (k:Nat):Nat:=((s.types.take k).map fun x=>x.2.nn).sum
theorem mQ {s:Sch} {k:Nat} {x:Wd × Ty} (h:s.types[k]? = some x):firstA s (k + 1)=firstA s k + x.2.nn:=by
 unfold firstA;rw [List.take_add_one,h];simp
theorem yR (s:Sch):∀ k,firstA s k<=nmsWt s.types:=by
 intro k;unfold firstA;generalize s.types=l
 induction l generalizing k with
 | nil=>simp
 | cons x r ih=>
  cases k with
  | zero=>simp
  | succ k=>
   have h1:=ih k;have h2:=x.2.gf;have h3:=x.2.ek
   grind [nmsWt]
def namedN (s:Sch) (i:Nat):Nat:=firstA s ((endI s (s.types.length + 1) i).getD 0)
def namedL (s:Sch):List Nat:=(List.range s.types.length).map (namedN s)
theorem YP (n:Nat):(List.replicate n (vL [Value.int .i64 0])).flatten=cZ (List.replicate n 0):=by
 induction n with
 | zero=>rfl
 | succ n ih=>simp only [List.replicate_succ,List.flatten_cons,ih];rfl
theorem tQ {n m:Nat} {tk:List TkE} {l:List DV} {js:List Int} (h:l=cZ js):WeL n m tk l (cZ js):=by rw [h];exact qX js
abbrev Ud (s:Sch) (lc pc:List DV) (m:Int) (l:List Int) (aE e:Nat):St:=
 ⟨[aD 0 0,(2,⟨[],.ms 2 1 0 (dNms s.types).length (dNms s.types).length⟩),au 3 aE,aZ 18 11 (dNms s.types),au 19 ((dNms s.types).length),au 20 e],
  [bC s (.pt lc 0) (.loc 1 0) m,pc,cZ l],[]⟩
abbrev YQ (s:Sch) (aG:List Nat) (lc:List DV) (m:Int) (l:List Int) (n e:Nat):St:=
 ⟨[aD 0 0,(2,⟨[],.ms 2 1 0 (dNms s.types).length (dNms s.types).length⟩),au 40 ((dNms s.types).length),au 41 e],
  [bC s (.pt lc 0) (.loc 1 0) m,pC s aG (.pt lc 0) (.v (.slice none 0 0)) (.v (.int .i64 0)) (.sl 1 (dInts ((namedL s).take e)) (some 0)),cZ l],[⟨n,3,1,none⟩]⟩
def PJ (s:Sch) (aG:List Nat) (lc:List DV) (m:Int) (_:DV) (os:List (List DV)) (_:List TkE):Prop:=
 os=[bC s (.pt lc 0) (.loc 1 0) m,pC s aG (.pt lc 0) (.v (.slice none 0 0)) (.v (.int .i64 0)) (.sl 1 (dInts (namedL s)) none)]
theorem Ue {l:List Int} {i:Nat} {z:Int} (h:l[i]? = some z):(cZ l)[i]? = some (DV.v (.int .i64 z)):=by simp [cZ,h]
theorem CM (s:Sch) (lc:List DV) (aG:List Nat) (m:Int) (hT:gT (tL s) aG) (kX:aG.length<=1099511627776) (hl:s.types.length<=64) (hr:∀ x∈s.types,tz s x.2=true) (hs:nmsWt s.types<=1099511627776)
  (hlo:∀ i,i < s.types.length->∃ k,endI s (s.types.length + 1) i=some k) :
  Ev prog 31 [.loc 0 0] [bC s (.pt lc 0) (.loc 1 0) m,Fs s aG lc] [] (PJ s aG lc m):=by
 have hN:=dA s.types
 have TN:∀ x∈s.types,x.2.wt<=1099511627776:=fun x hx=>by
  have:=gm hx;omega
 have YR:=yR s;have OI:=fun {k:Nat} {x:Wd × Ty}=>@mQ s k x;have jd:(namedL s).length=s.types.length:=by simp [namedL]
 have lM:=fun (e0:DV)=>CK s (.pt lc 0) aG (.pt lc 0) (.v (.slice none 0 0)) (.v (.int .i64 0)) e0 m hT kX hl hr;obtain ⟨ae,order,types,⟨rh,rp⟩⟩:=s;simp only at hl hr hN hs TN YR OI jd lM hlo;have hN2:(dNms (⟨ae,order,types,.mk rh rp⟩:Sch).types).length=types.length:=hN;refine eG 66 [] func31 rfl ntmps31 rfl fun _ _ _ _=>?_;refine ⟨⟨rfl,by omega,by omega,by omega⟩,?_⟩
 refine aP (fun j st=>∃ (e:Nat) (l:List Int),st=Ud ⟨ae,order,types,.mk rh rp⟩ lc (Fs ⟨ae,order,types,.mk rh rp⟩ aG lc) m l (firstA ⟨ae,order,types,.mk rh rp⟩ e) e/\e<=types.length/\l.length=types.length/\(∀ i:Nat,i < e->l[i]? = some (firstA ⟨ae,order,types,.mk rh rp⟩ i:Int))/\j=types.length - e) types.length
  (Ud ⟨ae,order,types,.mk rh rp⟩ lc (Fs ⟨ae,order,types,.mk rh rp⟩ aG lc) m (List.replicate ((dNms types).length:Int).toNat 0) (firstA ⟨ae,order,types,.mk rh rp⟩ 0) 0) (wkB 3 (by repeat' (first | exact rfl | exact aA rfl | exact tQ (YP _) | refine ⟨_,_,rfl,?_,?_⟩)) (by repeat' (first | exact trivial | exact aA rfl | exact tQ (YP _) | refine ⟨⟨_,rfl,?_⟩,?_⟩))) ⟨0,_,rfl,by omega,by simp [hN],fun _ h=>by omega,by omega⟩ ?_
 rintro j st ⟨e,l,rfl,he,Uf,R6,rfl⟩;refine br ?_ ?_<;>intro hL
 ·have av:e < types.length:=by have:=hL;simp [hN] at this;exact this
  obtain ⟨x,hx⟩:=gX av;have Ug:=TN x (mG hx);have jh:=OI hx;have Kg:=YR (e + 1);obtain ⟨xw,⟨xh,xp⟩⟩:=x;have hnd:=vC (Ty.mk xh xp).wt (.mk xh xp) (aW _) Ug;refine iX (dNms_get hx) ?_;refine ⟨⟨by omega,by omega⟩,?_⟩;refine ⟨by rw [T4];omega,?_⟩;refine cP WV hnd ?_;simp only at jh Kg;have om:(cZ l).set (0 + (e:Int).toNat * 1) (DV.v (.int .i64 ((firstA ⟨ae,order,types,.mk rh rp⟩ e:Nat):Int)))=cZ (l.set e ((firstA ⟨ae,order,types,.mk rh rp⟩ e:Nat):Int)):=by grind [Mn]
  have qI:IntKind.i64.wrap (((firstA ⟨ae,order,types,.mk rh rp⟩ e:Nat):Int) + (Ty.mk xh xp).nn)=((firstA ⟨ae,order,types,.mk rh rp⟩ (e + 1):Nat):Int):=by grind [wrap64]
  refine ⟨Ud ⟨ae,order,types,.mk rh rp⟩ lc (Fs ⟨ae,order,types,.mk rh rp⟩ aG lc) m (l.set e ((firstA ⟨ae,order,types,.mk rh rp⟩ e:Nat):Int)) (firstA ⟨ae,order,types,.mk rh rp⟩ (e + 1)) (e + 1),(wkB 3 (by repeat' (first | exact rfl | exact aA rfl | exact tQ om | exact aC qI | exact aC (nxt av (by omega)) | refine ⟨_,_,rfl,?_,?_⟩)) (by repeat' (first | exact trivial | exact aA rfl | exact tQ om | exact aC qI | exact aC (nxt av (by omega)) | refine ⟨⟨_,rfl,?_⟩,?_⟩))),types.length - (e + 1),by omega,e + 1,_,rfl,by omega,by rw [List.length_set];exact Uf,fun i hi=>?_,rfl⟩;by_cases Ke:i=e
  ·grind
  ·grind
 ·have hge:e=types.length:=sW hN hL;subst hge;refine lJ (fun e=>YQ ⟨ae,order,types,.mk rh rp⟩ aG lc m l e e) types.length (dJ 3 ⟨0,3,1,none⟩ rfl rfl rfl kZ rfl rfl gR) ?_;intro e he;refine br ?_ ?_<;>intro hL
  ·have av:e < types.length:=by have:=hL;simp [hN] at this;exact this
   obtain ⟨k,hk⟩:=hlo e av;have nN:=(pX hk).1;simp only at nN;have hE:=lM (.sl 1 (dInts ((namedL ⟨ae,order,types,.mk rh rp⟩).take e)) none) e av;rw [hk] at hE;have hnn:namedN ⟨ae,order,types,.mk rh rp⟩ e=firstA ⟨ae,order,types,.mk rh rp⟩ k:=by unfold namedN;rw [hk];all_goals rfl
   have ji:(namedL ⟨ae,order,types,.mk rh rp⟩)[e]? = some (firstA ⟨ae,order,types,.mk rh rp⟩ k):=by grind [namedL]
   have iq:dInts ((namedL ⟨ae,order,types,.mk rh rp⟩).take e) ++ [[DV.v (.int .i64 ((firstA ⟨ae,order,types,.mk rh rp⟩ k:Nat):Int))]]=dInts ((namedL ⟨ae,order,types,.mk rh rp⟩).take (e + 1)):=by
    rw [List.take_add_one,ji];simp [dInts]
   refine dS ?_;refine pT en74 hE ax rfl rfl ?_;refine ⟨⟨by simp only [oz];omega,by simp only [oz];omega⟩,?_⟩;have PK:(cZ l)[0 + (oz (some k)).toNat * 1]? = some (DV.v (.int .i64 ((firstA ⟨ae,order,types,.mk rh rp⟩ k:Nat):Int))):=by grind [oz,Ue]
   refine ⟨_,PK,?_⟩;refine ⟨by simp [bu];omega,⟨by simp [bu,maxLen];omega,by simp [bu];omega⟩,?_⟩;exact rE ⟨_,by omega,e + 1,rfl,by omega,rfl⟩ (wkB 3 (wA2 (nxt av (by omega)) iq) (wB2 (nxt av (by omega)) iq))
  ·have hge:e=types.length:=sW hN hL;subst hge;have ht:(namedL ⟨ae,order,types,.mk rh rp⟩).take types.length=namedL ⟨ae,order,types,.mk rh rp⟩:=by rw [<- jd,List.take_length]
   rw [ht];exact ⟨.tup [],[bC ⟨ae,order,types,.mk rh rp⟩ (.pt lc 0) (.loc 1 0) m,pC ⟨ae,order,types,.mk rh rp⟩ aG (.pt lc 0) (.v (.slice none 0 0)) (.v (.int .i64 0)) (.sl 1 (dInts (namedL ⟨ae,order,types,.mk rh rp⟩)) none)],ax,gp,rfl⟩
structure Ed where
 name:ByteArray
 bare:Bool
 aE:Int
 to:Int
 label:Int
 wide:Int
 ck:Int
 cn:Int
 seen:Int
 ca:Int
structure Nd where
 ag:Int
 aE:Int
 lo:Int
 hi:Int
 most:Int
 af:List ByteArray
 aw:List Ed
def jv (e:Ed):List DV:=[.v (.string e.name),.v (.bool e.bare),.v (.int .i64 e.aE),.v (.int .i64 e.to),.v (.int .i64 e.label),.v (.int .i64 e.wide),.v (.int .i64 e.ck),.v (.int .i64 e.cn),.v (.int .i64 e.seen),.v (.int .i64 e.ca)]
def fF (l:List Ed):List (List DV):=l.map jv
def iS (n:Nd):List DV:=[.v (.int .i64 n.ag),.v (.int .i64 n.aE),.v (.int .i64 n.lo),.v (.int .i64 n.hi),.v (.int .i64 n.most),.sl 1 (eE n.af) none,.sl 10 (fF n.aw) none]
def cX (l:List Nd):List (List DV):=l.map iS
def kI (w:Int):Int:=if w=0 then 3 else w
def vF (lev:List Wd->Int) (p:Ph) (to:Int):Ed:=⟨p.name.s,p.bare,p.name.a,to,lev p.label,kI p.wide,p.ck,p.cn,lev p.cl,p.ca⟩
def Uh (s:Sch) (name:ByteArray):Int:=(namedN s ((cO (tL s) name).getD 0):Int)
def mR (s:Sch) (t:Ty) (k:Nat):Int:=if t.h.ag=9 then Uh s t.h.name.s else (k:Int)
def tR (s:Sch) (p:Ph) (u:Ty) (k:Nat):Int:=if p.bare then -1 else mR s u k
mutual
def ndsT (lev:List Wd->Int) (s:Sch):Ty->Nat->List Nd
 | .mk h ps,k=>if h.ag=9 then [] else ⟨h.ag,h.aE,h.lo,h.hi,h.most,az h.af,edsP lev s ps (k + 1)⟩ :: vG lev s ps (k + 1)
def edsP (lev:List Wd->Int) (s:Sch):Pts->Nat->List Ed
 | .nil,_=>[]
 | .cons p u r,k=>vF lev p (tR s p u k) :: edsP lev s r (k + if p.bare then 0 else u.nn)
def vG (lev:List Wd->Int) (s:Sch):Pts->Nat->List Nd
 | .nil,_=>[]
 | .cons p u r,k=>(if p.bare then [] else ndsT lev s u k) ++ vG lev s r (k + if p.bare then 0 else u.nn)
end
mutual
theorem jT (lev:List Wd->Int) (s:Sch):∀ (t:Ty) (k:Nat),(ndsT lev s t k).length=t.nn
 | .mk h ps,k=>by
  simp only [ndsT,Ty.nn];split
  ·rfl
  ·rw [List.length_cons,vH lev s ps];omega
theorem vH (lev:List Wd->Int) (s:Sch):∀ (ps:Pts) (k:Nat),(vG lev s ps k).length=ps.nn
 | .nil,k=>rfl
 | .cons p u r,k=>by
  simp only [vG,Pts.nn,List.length_append,vH lev s r];split
  ·rfl
  ·rw [jT lev s u]
end
abbrev Kk (s:Sch) (aG:List Nat) (lc:List DV) (n:Nat):List DV:=pC s aG (.pt lc 0) (.sl 0 (List.replicate n []) (some 0)) (.v (.int .i64 0)) (.sl 1 (dInts (namedL s)) none)
abbrev Fv (n:Nat) (base:List DV):TkE:=⟨n,165,7,some base⟩
def R7 (s:Sch) (aG:List Nat) (lc:List DV) (m:Int) (n:Nat) (base:List DV) (y:DV) (Az:List Nd) (r:DV) (os:List (List DV)) (tk:List TkE):Prop:=
 r=y/\os=[bC s (.pt lc 0) (.loc 1 0) m,Kk s aG lc (n + Az.length)]/\tk=[Fv (n + Az.length) (base ++ (cX Az).flatten)]
def MA (lev:List Wd->Int) (s:Sch) (aG:List Nat) (lc:List DV) (m:Int) (t:Ty):Prop:=
 ∀ (n:Nat) (base:List DV),n + t.nn<=1099511627776->base.length=n * 7 ->
  Ev prog 32 [.loc 0 0,.agg (dK t)] [bC s (.pt lc 0) (.loc 1 0) m,Kk s aG lc n] [Fv n base] (R7 s aG lc m n base (.v (.int .i64 (mR s t n))) (ndsT lev s t n))
theorem Jb {X:Lx} (hX:X.OK) (s:Sch) (aG:List Nat) (m:Int) (p:Ph) (u:Ty) (hp:p.wt<=1099511627776) (gW:p.bare=false->MA X.lev s aG (iy X.af (cL X.af X.aG) X.rows X.js) m u)
  (n:Nat) (base:List DV) (hb:p.bare=false->n + u.nn<=1099511627776) (hbl:base.length=n * 7) :
  Ev prog 76 [.loc 0 0,.agg (EL p (dK u))] [bC s (.pt (iy X.af (cL X.af X.aG) X.rows X.js) 0) (.loc 1 0) m,Kk s aG (iy X.af (cL X.af X.aG) X.rows X.js) n] [Fv n base]
   (R7 s aG (iy X.af (cL X.af X.aG) X.rows X.js) m n base (.agg (jv (vF X.lev p (tR s p u n)))) (if p.bare then [] else ndsT X.lev s u n)):=by
 have hw1:wdsWt p.label + wdsWt p.cl<=p.wt:=by simp only [Ph.wt];omega
 have J9:X.pd = .pt (iy X.af (cL X.af X.aG) X.rows X.js) 0:=rfl;have GS:=fun pc=>vD hX s pc m p.label (by omega);have Ui:=fun pc=>vD hX s pc m p.cl (by omega);rw [J9] at GS Ui;have hE:=fun to=>vF.eq_1 X.lev p to;have nD:=tR.eq_1 s p u n;generalize iy X.af (cL X.af X.aG) X.rows X.js=lc at GS Ui gW ⊢;obtain ⟨ae,order,types,⟨rh,rp⟩⟩:=s;obtain ⟨uh,us⟩:=u;refine eG 52 [.cell 4 115] func76 rfl ntmps76 rfl fun _ _ _ _=>?_;have R8:=GS [.pt lc 0,.sl 0 (List.replicate n []) none,.v (.int .i64 0),.pt (cL (tL ⟨ae,order,types,.mk rh rp⟩) aG) 0,.sl 1 (dInts (namedL ⟨ae,order,types,.mk rh rp⟩)) none];have R9:=Ui [.pt lc 0,.sl 0 (List.replicate n []) none,.v (.int .i64 0),.pt (cL (tL ⟨ae,order,types,.mk rh rp⟩) aG) 0,.sl 1 (dInts (namedL ⟨ae,order,types,.mk rh rp⟩)) none];apply np (fun _=>false) 11 15 [0,1,2,3,4,5,6,7,8,9,10,11,12,13,14,15,16] [0,1,2,3,4,5,6,7,8,9,10,15,11,12,13,14,16] 4 4 mo (by decide +kernel)
 ·refine pT G4 R8 ax rfl rfl ?_;refine (?_:@Eq St _ _);exact rfl
 ·refine pT G4 R8 ax rfl rfl ?_;refine (⟨rfl,rfl,?_⟩:_/\_/\_)
  repeat' (first | exact trivial | refine ⟨rfl,?_⟩)
 ·rfl
 refine br ?_ ?_<;>intro hw
 ·have hw:p.wide=0:=sU hw;refine tK [4] (fun _=>false) mo (by decide +kernel) ?_;refine pT G4 R9 ax rfl rfl ?_;refine br ?_ ?_<;>intro hB
  ·have hB:p.bare=false:=sU hB;refine dr 2 1 O8 rfl rfl rfl gp gp (gW hB n base (hb hB) hbl) (fun r iR cI hΦ h1 h2=>?_);obtain ⟨rfl,rfl,rfl⟩:=hΦ;refine ⟨.agg (jv ⟨p.name.s,p.bare,p.name.a,mR ⟨ae,order,types,.mk rh rp⟩ (.mk uh us) n,X.lev p.label,3,p.ck,p.cn,X.lev p.cl,p.ca⟩),[bC ⟨ae,order,types,.mk rh rp⟩ (.pt lc 0) (.loc 1 0) m,Kk ⟨ae,order,types,.mk rh rp⟩ aG lc (n + (ndsT X.lev ⟨ae,order,types,.mk rh rp⟩ (.mk uh us) n).length)],ax,gp,?_,?_,?_⟩
   ·simp [hE,tR,hB,kI,hw]
   ·simp [hB]
   ·simp [hB]
  ·have hB:p.bare=true:=sU hB;refine ⟨.agg (jv ⟨p.name.s,p.bare,p.name.a,-1,X.lev p.label,3,p.ck,p.cn,X.lev p.cl,p.ca⟩),[bC ⟨ae,order,types,.mk rh rp⟩ (.pt lc 0) (.loc 1 0) m,Kk ⟨ae,order,types,.mk rh rp⟩ aG lc n],ax,gp,?_,?_,?_⟩
   ·simp [hE,tR,hB,kI,hw]
   ·simp [hB]
   ·simp [hB,cX]
 ·have hw:¬ p.wide=0:=sU hw;refine tK [4] (fun _=>false) mo (by decide +kernel) ?_;refine pT G4 R9 ax rfl rfl ?_;refine br ?_ ?_<;>intro hB
  ·have hB:p.bare=false:=sU hB;refine dr 2 1 O8 rfl rfl rfl gp gp (gW hB n base (hb hB) hbl) (fun r iR cI hΦ h1 h2=>?_);obtain ⟨rfl,rfl,rfl⟩:=hΦ;refine ⟨.agg (jv ⟨p.name.s,p.bare,p.name.a,mR ⟨ae,order,types,.mk rh rp⟩ (.mk uh us) n,X.lev p.label,p.wide,p.ck,p.cn,X.lev p.cl,p.ca⟩),[bC ⟨ae,order,types,.mk rh rp⟩ (.pt lc 0) (.loc 1 0) m,Kk ⟨ae,order,types,.mk rh rp⟩ aG lc (n + (ndsT X.lev ⟨ae,order,types,.mk rh rp⟩ (.mk uh us) n).length)],ax,gp,?_,?_,?_⟩
   ·simp [hE,tR,hB,kI,hw]
   ·simp [hB]
   ·simp [hB]
  ·have hB:p.bare=true:=sU hB;refine ⟨.agg (jv ⟨p.name.s,p.bare,p.name.a,-1,X.lev p.label,p.wide,p.ck,p.cn,X.lev p.cl,p.ca⟩),[bC ⟨ae,order,types,.mk rh rp⟩ (.pt lc 0) (.loc 1 0) m,Kk ⟨ae,order,types,.mk rh rp⟩ aG lc n],ax,gp,?_,?_,?_⟩
   ·simp [hE,tR,hB,kI,hw]
   ·simp [hB]
   ·simp [hB,cX]
def nd0 (h:Hd):List DV:=[.v (.int .i64 h.ag),.v (.int .i64 h.aE),.v (.int .i64 h.lo),.v (.int .i64 h.hi),.v (.int .i64 h.most),.sl 1 (eE (az h.af)) none,.v (.slice none 0 0)]
theorem PL {h:Hd} {base R:List DV} {n:Nat} {x:DV} (hb:base.length=n * 7):(base ++ (nd0 h ++ R)).set (n * 7 + 6) x=base ++ ([.v (.int .i64 h.ag),.v (.int .i64 h.aE),.v (.int .i64 h.lo),.v (.int .i64 h.hi),.v (.int .i64 h.most),.sl 1 (eE (az h.af)) none,x] ++ R):=by
 rw [List.set_append_right _ _ (by omega),hb,Nat.add_sub_cancel_left];rfl
theorem yS (l:List Ed) (e:Ed):fF l ++ [jv e]=fF (l ++ [e]):=by simp [fF]
theorem bT (l:List Ed):(fF l).length=l.length:=by simp [fF]
theorem pY (lev:List Wd->Int) (s:Sch):∀ (ps:Pts) (k:Nat),(edsP lev s ps k).length=ps.len
 | .nil,_=>rfl
 | .cons p u r,k=>by simp [edsP,Pts.len,pY lev s r]
abbrev YS (s:Sch) (aG:List Nat) (lc:List DV) (m:Int) (n:Nat) (base:List DV) (h:Hd) (ps:Pts) (q e:Nat):St:=
 ⟨[aD 0 0,aD 3 2,au 7 n,aD 8 3,aZ 61 2 (bA h.af),au 62 ((bA h.af).length),au 63 e],
  [bC s (.pt lc 0) (.loc 1 0) m,Kk s aG lc n,dK (.mk h ps),[.v (.int .i64 h.ag),.v (.int .i64 h.aE),.v (.int .i64 h.lo),.v (.int .i64 h.hi),.v (.int .i64 h.most),.sl 1 (eE (az (h.af.take e))) (some 1),.v (.slice none 0 0)]],
  [Fv n base,⟨q,9,1,none⟩]⟩
abbrev MB (s:Sch) (aG:List Nat) (lc:List DV) (m:Int) (n:Nat) (h:Hd) (ps:Pts) (n':Nat) (pZ:List DV) (Es:List Ed) (q1 q2 e:Nat):St:=
 ⟨[aD 0 0,aD 3 2,au 7 n,(11,⟨[],.sl 10 (fF Es) (some 2)⟩),aZ 92 18 (fu ps),au 93 ((fu ps).length),au 94 e],
  [bC s (.pt lc 0) (.loc 1 0) m,Kk s aG lc n',dK (.mk h ps)],
  [Fv n' pZ,⟨q1,9,1,none⟩,⟨q2,115,10,none⟩]⟩
theorem lN {X:Lx} {L:List ByteArray} {h:Hd} {ps:Pts} (hk:(knT X L (.mk h ps)).1=0):(h.ag=9->cO L h.name.s≠none)/\(knP X L ps).1=0:=by grind [knT]
theorem rJ {X:Lx} {L:List ByteArray} {p:Ph} {u:Ty} {r:Pts} (hk:(knP X L (.cons p u r)).1=0):(p.bare=false->(knT X L u).1=0)/\(knP X L r).1=0:=by grind [knP]
theorem yT {X:Lx} (hX:X.OK) (s:Sch) (aG:List Nat) (m:Int) (hT:gT (tL s) aG) (kX:aG.length<=1099511627776):∀ (k:Nat) (t:Ty),t.wt<=k->t.wt<=1099511627776->(knT X (tL s) t).1=0 ->
  MA X.lev s aG (iy X.af (cL X.af X.aG) X.rows X.js) m t
 | 0,t,hn,_,_=>by have:=t.dP;omega
 | k + 1,.mk h ps,hn,bY,KR=>by
  have ih:=yT hX s aG m hT kX k;intro n base hnb hbl;obtain ⟨hk9,Uj⟩:=lN KR;have kJ:=fun (p:Ph) (u:Ty)=>Jb hX s aG m p u;generalize iy X.af (cL X.af X.aG) X.rows X.js=lc at ih kJ ⊢;simp only [Ty.wt,Hd.wt] at hn bY;have ky:=ps.fq;have jd:=bp h.af;have hf:=iw (tL s) aG h.name.s hT kX;have gN:=jS s;have hnmL:(namedL s).length=s.types.length:=by simp [namedL]
  have PM:mR s (.mk h ps) n=if h.ag=9 then Uh s h.name.s else (n:Int):=rfl
  have Jc:ndsT X.lev s (.mk h ps) n=if h.ag=9 then [] else ⟨h.ag,h.aE,h.lo,h.hi,h.most,az h.af,edsP X.lev s ps (n + 1)⟩ :: vG X.lev s ps (n + 1):=by rw [ndsT]
  have hnn:(Ty.mk h ps).nn=if h.ag=9 then 0 else 1 + ps.nn:=by rw [Ty.nn]
  generalize hS:s=S at *;subst hS;obtain ⟨ae,order,types,⟨rh,rp⟩⟩:=s;refine eG 117 [.tmp 4] func32 rfl ntmps32 rfl fun _ _ _ _=>?_;refine br ?_ ?_<;>intro h9
  ·have h9:h.ag=9:=sU h9;obtain ⟨i,hi⟩:=Option.ne_none_iff_exists'.1 (hk9 h9);have Kf:=(cS hi).1;rw [hi] at hf;rw [ai h9] at PM Jc;have ji:(namedL ⟨ae,order,types,.mk rh rp⟩)[i]? = some (namedN ⟨ae,order,types,.mk rh rp⟩ i):=by grind [namedL]
   refine dI ?_;refine cD uP hf ?_;refine iX (dQ ji) ?_;refine ⟨.v (.int .i64 (namedN ⟨ae,order,types,.mk rh rp⟩ i:Nat)),[bC ⟨ae,order,types,.mk rh rp⟩ (.pt lc 0) (.loc 1 0) m,Kk ⟨ae,order,types,.mk rh rp⟩ aG lc n],ax,gp,?_,?_,?_⟩
   ·rw [PM,Uh,hi];rfl
   ·rw [Jc];rfl
   ·rw [Jc];simp [cX]
  have h9:¬ h.ag=9:=sU h9;rw [ah h9] at PM Jc hnn;have fy:(List.replicate n ([]:List DV)).length=n:=List.length_replicate;refine lJ (fun e=>YS ⟨ae,order,types,.mk rh rp⟩ aG lc m n base h ps e e) h.af.length (dJ 4 ⟨0,9,1,none⟩ rfl rfl rfl (mw fy) rfl rfl (wB1 fy)) ?_;intro e he;refine br ?_ ?_<;>intro hL
  ·have av:e < h.af.length:=by simpa [ay] using hL
   obtain ⟨w,hw⟩:=gX av;have iq:=jr hw;refine ⟨jL w,⟨by omega,aQ hw⟩,?_⟩;refine ⟨by simp [bW,az];omega,⟨by simp [bW,az,maxLen];omega,by simp [bW,az];omega⟩,?_⟩;exact rE ⟨_,by omega,e + 1,rfl,by omega,rfl⟩ (wkB 4 (wA2 (nxt av (by omega)) iq) (wB2 (nxt av (by omega)) iq))
  have hge:e=h.af.length:=by have:=hL;simp [ay] at this;omega
  subst hge;rw [List.take_length];refine dS ?_;refine ⟨⟨⟨fy,by simp⟩,by simp [maxLen];omega,by simp;omega⟩,?_⟩
  refine aP (fun j st=>∃ (e n':Nat) (pZ:List DV) (Es:List Ed) (K:List Nd),st=MB ⟨ae,order,types,.mk rh rp⟩ aG lc m n h ps n' pZ Es h.af.length e e/\e<=ps.len/\n'=n + 1 + K.length/\pZ=base ++ (nd0 h ++ (cX K).flatten)/\Es.length=e /\
    K ++ vG X.lev ⟨ae,order,types,.mk rh rp⟩ (ps.drop e) (n + 1 + K.length)=vG X.lev ⟨ae,order,types,.mk rh rp⟩ ps (n + 1)/\Es ++ edsP X.lev ⟨ae,order,types,.mk rh rp⟩ (ps.drop e) (n + 1 + K.length)=edsP X.lev ⟨ae,order,types,.mk rh rp⟩ ps (n + 1)/\K.length + (ps.drop e).nn=ps.nn/\(knP X (tL ⟨ae,order,types,.mk rh rp⟩) (ps.drop e)).1=0/\j=ps.len - e) ps.len
   (MB ⟨ae,order,types,.mk rh rp⟩ aG lc m n h ps (n + 1) (base ++ (nd0 h ++ [])) [] h.af.length 0 0) (dJ 3 ⟨0,115,10,none⟩ rfl rfl rfl kZ rfl rfl gR) ⟨0,n + 1,_,[],[],rfl,by omega,rfl,rfl,rfl,rfl,rfl,by simp [Pts.drop],Uj,by omega⟩ ?_
  rintro j st ⟨e,n',pZ,Es,K,rfl,he,Q0,fx,Vl,hK,Vz,hKn,Kj,rfl⟩
  have hbl':pZ.length=n' * 7:=by
   have:∀ l:List Nd,(cX l).flatten.length=l.length * 7:=by
    intro l
    induction l with
    | nil=>rfl
    | cons a r ih=>simp only [cX,List.map_cons,List.flatten_cons,List.length_append,List.length_cons] at ih ⊢;rw [ih];simp only [iS,List.length_cons,List.length_nil];omega
   rw [fx,List.length_append,List.length_append,this,hbl,Q0];simp only [nd0,List.length_cons,List.length_nil];omega
  refine br ?_ ?_<;>intro hL
  ·have av:e < ps.len:=by simpa [aH] using hL
   obtain ⟨p,u,hx⟩:=Pts.ej av;have Cb:=Pts.fW (mG hx);rw [Pts.drop_cons hx] at hK Vz hKn Kj;obtain ⟨o6,K1⟩:=rJ Kj;simp only [vG] at hK;simp only [edsP] at Vz;simp only [Pts.nn] at hKn;rw [<- Q0] at hK Vz;have Bn:=u.gf;have huc:=u.ek;have dx:=kJ p u (by omega) (fun hB=>ih u (by omega) (by omega) (o6 hB)) n' pZ (fun hB=>by rw [hB] at hKn;simp only [Bool.false_eq_true,if_false] at hKn;omega) hbl';have YT:=jT X.lev ⟨ae,order,types,.mk rh rp⟩ u n';obtain ⟨uh,us⟩:=u;refine iX (bO hx) ?_;refine dr 2 1 en76 rfl rfl rfl gp gp dx (fun r iR cI hΦ h1 h2=>?_);obtain ⟨rfl,rfl,rfl⟩:=hΦ;refine ⟨by rw [bT,Vl],⟨by simp [bT,Vl,maxLen];omega,by simp [bT,Vl];omega⟩,?_⟩
   have hnl2:(if p.bare then [] else ndsT X.lev ⟨ae,order,types,.mk rh rp⟩ (.mk uh us) n').length=if p.bare then 0 else (Ty.mk uh us).nn:=by
    split
    ·rfl
    ·exact YT
   have hidx2:n + 1 + (K.length + (if p.bare then 0 else (Ty.mk uh us).nn))=n' + if p.bare then 0 else (Ty.mk uh us).nn:=by rw [Q0];omega
   refine ⟨MB ⟨ae,order,types,.mk rh rp⟩ aG lc m n h ps (n' + (if p.bare then [] else ndsT X.lev ⟨ae,order,types,.mk rh rp⟩ (.mk uh us) n').length) (pZ ++ (cX (if p.bare then [] else ndsT X.lev ⟨ae,order,types,.mk rh rp⟩ (.mk uh us) n')).flatten) (Es ++ [vF X.lev p (tR ⟨ae,order,types,.mk rh rp⟩ p (.mk uh us) n')]) h.af.length (e + 1) (e + 1),(wkB 3 (by repeat' (first | exact rfl | exact aA rfl | exact aC (nxt av (by omega)) | exact cf (yS _ _) rfl | refine ⟨_,_,rfl,?_,?_⟩)) (by repeat' (first | exact trivial | exact aA rfl | exact aC (nxt av (by omega)) | exact cf (yS _ _) rfl | refine ⟨⟨_,rfl,?_⟩,?_⟩))),
    ps.len - (e + 1),by omega,e + 1,_,_,_,K ++ (if p.bare then [] else ndsT X.lev ⟨ae,order,types,.mk rh rp⟩ (.mk uh us) n'),rfl,by omega,?_,?_,?_,?_,?_,?_,K1,rfl⟩
   ·rw [List.length_append,Q0];omega
   ·rw [fx];simp [cX]
   ·simp [Vl]
   ·simp_all
   ·simp_all
   ·rw [List.length_append,hnl2];omega
  ·have hge:e=ps.len:=by have:=hL;simp [aH] at this;omega
   subst hge;rw [Pts.cW] at hK Vz;simp only [vG,List.append_nil] at hK;simp only [edsP,List.append_nil] at Vz;have hKl:K.length=ps.nn:=by rw [hK,vH]
   have hrl2:(List.replicate n' ([]:List DV)).length=n':=List.length_replicate;refine I5 (kt:=0) ⟨rfl,rfl⟩ ⟨rfl,rfl,rfl⟩ ⟨rfl,rfl,rfl⟩ rfl rfl rfl rfl rfl rfl rfl rfl rfl rfl rfl hrl2 ⟨by omega,by omega⟩ (by decide) ?_;have YU:n + (ndsT X.lev ⟨ae,order,types,.mk rh rp⟩ (.mk h ps) n).length=n':=by rw [Jc,List.length_cons,<- hK,Q0];omega
   have qV:pZ.set ((n:Int).toNat * 7 + 6) (.sl 10 (fF Es) none)=base ++ (cX (ndsT X.lev ⟨ae,order,types,.mk rh rp⟩ (.mk h ps) n)).flatten:=by
    rw [fx,show (n:Int).toNat=n by omega,PL hbl,Jc,Vz,hK];rfl
   refine ⟨.v (.int .i64 n),[bC ⟨ae,order,types,.mk rh rp⟩ (.pt lc 0) (.loc 1 0) m,Kk ⟨ae,order,types,.mk rh rp⟩ aG lc n'],ax,gp,?_,?_,?_⟩
   ·rw [PM]
   ·rw [YU]
   ·rw [YU,<- qV];rfl
end Go.Proofs.YtphonmiflfhdbaaGreat
namespace Go.Proofs.YtphonmiflfhdbaaGreat
namespace Dv
open Go Go.RowKit
section
variable {X:Ctx} {st:St} {k:List It} {E:En} {a:Act} {w:World} {ops:Array Oper} {W:Nat->Bool} {C:World->Prop} {Q:Act->World->Prop} {i:Nat} {r:List Nat} {o:Oper}
theorem iJ (hg:o.guard=none):Region.wanted o (yielded ops a.tmps)=true:=by
 unfold Region.wanted;rw [hg]
theorem PN {bx:List (List DV)} {wr:World} (h:Rel X E st a w) (hE:uH E bx wr) (hC:∀ w',C w' -> CC E bx wr w'):Rl E bx C st.sl a where
 tm:=h.tm
 eQ:=fun i cs hi=>by
  by_cases bg:cs=[]
  ·subst bg;have av:i < E.β.length:=by rw [hE.len];exact (gS hi).1
   exact ⟨_,[],gE av,⟨cx _,by simp⟩,fun w' _ j u hj=>by simp at hj⟩
  ·obtain ⟨b,ty,arr,hb,hw,hc⟩:=hE.eQ i cs hi bg;exact ⟨b,arr,hb,hc,fun w' h' j u hj=>by rw [cy (((hC w' h').o i b cs hb hi bg).trans hw)];simpa using hj⟩
 cc:=fun x v hx w' h'=>(hC w' h').c x v hx
theorem PO {bx:List (List DV)} (h:Env E bx w) (m:List Nat):uH E (maskL m 0 bx) w:=⟨by rw [q7];exact h.len,fun i cs hi bg=>by
 rcases q8 m _ _ _ _ hi with h1 | h1
 ·exact (bg h1).elim
 ·exact h.eQ i cs h1⟩
theorem lO (hR:Rel X E st a w) (ho:ops[i]? = some o) (hE:isE o.op=false) (hL:qQ o.op=false) (hg:o.guard=none) {s:DV} (hs:pureT X.P X.T ⟨st.sl,[],[]⟩ [] o.op=some s) (hd:gw X.nt st.sl o.dst=true)
  (hk:∀ a',Rel X E (st.put o.dst ⟨[],s⟩) a' w->runT X.P ops W C Q r a' w):runT X.P ops W C Q (i :: r) a w:=by
 have fy:Rl E [] (fun _=>False) st.sl a:=⟨hR.tm,fun i cs hi=>by simp at hi,fun _ _ _ _ h=>h.elim⟩;obtain ⟨v,hv,ch⟩:=ic (st:=⟨st.sl,[],[]⟩) X.hT fy (bh _) hs;simp only [runT,ho,hE,Bool.false_eq_true,if_false];exact ⟨v,.inl ⟨iJ hg,fun w' _=>ch w' fun h=>by rw [hL] at h;cases h⟩,fun h=>(by rw [hL] at h;cases h),hk _ (bB hR hd s v hv)⟩
theorem PQ (hR:Rel X E st a w) (ho:ops[i]? = some o) {bx:List (List DV)} (fy:Rl E bx C st.sl a) (Ws:C w) (hE:isE o.op=false) (hg:o.guard=none) {s:DV} (hs:pureT X.P X.T ⟨st.sl,bx,[]⟩ [] o.op=some s) (hd:gw X.nt st.sl o.dst=true)
  (hk:∀ a',Rel X E (st.put o.dst ⟨[],s⟩) a' w->runT X.P ops W C Q r a' w):runT X.P ops W C Q (i :: r) a w:=by
 obtain ⟨v,hv,ch⟩:=ic (st:=⟨st.sl,bx,[]⟩) X.hT fy (bh _) hs;simp only [runT,ho,hE,Bool.false_eq_true,if_false];exact ⟨v,.inl ⟨iJ hg,fun w' h=>ch w' h⟩,fun _=>Ws,hk _ (bB hR hd s v hv)⟩
theorem PR (hR:Rel X E st a w) (ho:ops[i]? = some o) {t x d:Nat} {b p j:Nat} {n:Nat} {kd:TK} {z:List Value} (hb:E.β[j]? = some b) (tJ:o.op = .load t (.tmp x)) (kg:o.dst=some d) {i2 Fw b2:Nat} (lZ:E.β[i2]? = some b2) (hx:rv st [] (.tmp x)=some (.loc i2 p)) (hT:X.T.find t=some ⟨n,false,kd,z⟩)
  (hC:∀ w',C w' -> w'.cell? ⟨b2,p,none⟩=some (.pointer (some ⟨b,Fw,none⟩))) (Ws:C w) (hg:o.guard=none) (hd:gw X.nt st.sl (some d)=true)
  (hk:∀ a',Rel X E ⟨(d,⟨[],.loc j Fw⟩) :: st.sl,st.bx,st.tk⟩ a' w->runT X.P ops W C Q r a' w):runT X.P ops W C Q (i :: r) a w:=by
 have hE:isE o.op=false:=by rw [tJ];all_goals rfl
 simp only [runT,ho,hE,Bool.false_eq_true,if_false];have hv:Rv E (.loc j Fw) (.pointer (some ⟨b,Fw,none⟩)):=by unfold Rv;exact ⟨b,hb,rfl⟩
 refine ⟨.pointer (some ⟨b,Fw,none⟩),.inl ⟨iJ hg,fun w' h=>?_⟩,fun _=>Ws,?_⟩
 ·have hC':=hC w' (h (by rw [tJ];rfl));have e1:=aX hR.rl hx;unfold Rv at e1;obtain ⟨b3,Q4,e1⟩:=e1;rw [lZ] at Q4;simp only [oI] at Q4;subst Q4;have Ky:=(te_parts X.hT hT).2.1
  have hl:(loadVar t ⟨b2,p,none⟩).run X.P w' = .ok (.pointer (some ⟨b,Fw,none⟩)) w':=by
   simp [loadVar,jC Ky,hC']
  simp only [execOp,tJ,e1,Sem.run_bind,Instr.loadAt,Instr.sureAddr,Sem.run_pure,Result.andThen_ok,hl]
 ·rw [kg];exact hk _ (bB hR hd (.loc j Fw) _ hv)
theorem Jd (hR:Rel X E st a w) (ho:ops[i]? = some o) {dst:Option Nat} {f:Operand} {args:Array Operand} {tys:Array TypeId} (tJ:o.op = .call ⟨.value f,args,tys⟩) (kg:o.dst=dst) (hg:o.guard=none) {g:FuncId} {ds:List DV} (hf:rv st [] f=some (.fn g [] [])) (hl:argsV st [] args.toList=some ds) (kv:Enters X.P g)
  {K:Value->World->Prop} (hc:∀ vs,RvL E ds vs->Calls X.P g vs.toArray w fun e w'=>∃ v,e = .returned v/\K v w') (hk:∀ v w',K v w' -> (W i=false->C w->C w')/\runT X.P ops W C Q r (a.put dst v) w'):runT X.P ops W C Q (i :: r) a w:=by
 have hE:isE o.op=true:=by rw [tJ];all_goals rfl
 have Sa:=iJ (ops:=ops) (a:=a) hg;have fy:=hR.rl;have e1:=aX fy hf;unfold Rv at e1;obtain ⟨l1,r1,e1,GS,hr1⟩:=e1;simp only [RvL] at GS hr1;subst GS hr1;have hargs:=ib fy (bh _) _ _ hl;simp only [runT,ho,hE,if_true,eN,Sa];subst kg;obtain ⟨dst,op,ty,pos,after,gu⟩:=o;simp only at tJ;subst tJ
 have hr:(execOp a.eval ⟨dst,.call ⟨.value f,args,tys⟩,ty,pos,after,gu⟩).run X.P w = .ok (.enter g (args.toList.map a.eval).toArray) w:=by
  have e3:(([]:List Value).toArray ++ args.map a.eval ++ ([]:List Value).toArray)=(args.toList.map a.eval).toArray:=by apply Array.ext';simp
  simp only [execOp,resolve,e1,Deferred.ofValue,Sem.run_bind,Sem.run_pure,Result.andThen_ok,invoke,e3];exact kv _ _
 unfold wq;rw [hr];refine (hc _ hargs).mono ?_;rintro e w' ⟨v,rfl,hK⟩;exact ⟨v,rfl,hk v w' hK⟩
theorem PS (hR:Rel X E st a w) (ho:ops[i]? = some o) {dst:Option Nat} {f:Operand} {args:Array Operand} {tys:Array TypeId} (tJ:o.op = .call ⟨.value f,args,tys⟩) (kg:o.dst=dst) (hg:o.guard=none) {g:FuncId} {ds TG:List DV} (hf:rv st [] f=some (.fn g [] [])) (hl:argsV st [] args.toList=some ds) (kv:Enters X.P g)
  {os:List (List DV)} (n1 m1:Nat) (Ej:Nat.ble n1 st.bx.length=true) (gM:Nat.ble m1 st.tk.length=true) (Et:l7 [] n1 n1 m1 os (st.bx.take n1)) (ha:CcL [] n1 n1 m1 TG ds)
  {Φ:DV->List (List DV)->List TkE->Prop} (hc:Ev X.P g TG os (st.tk.take m1) Φ) (bi:X.still=false) (hX:X.bt=[])
  (hk:∀ v r' iR cI E' w',Φ r' iR cI -> iR.length=n1->cI.length=m1->Rel X E' ⟨st.sl,iR ++ st.bx.drop n1,cI ++ st.tk.drop m1⟩ a w' -> Rv E' r' v->Ext E E' -> E'.β=E.β->(∀ (i:Nat) b,n1<=i->E.β[i]? = some b->w'.heap[b]? = w.heap[b]?) ->
   (W i=false->C w->C w')/\runT X.P ops W C Q r (a.put dst v) w'):runT X.P ops W C Q (i :: r) a w:=by
 refine Jd hR ho tJ kg hg hf hl kv (K:=fun v w'=>∃ r' iR cI E',Φ r' iR cI /\ iR.length=n1/\cI.length=m1/\Rel X E' ⟨st.sl,iR ++ st.bx.drop n1,cI ++ st.tk.drop m1⟩ a w' /\ Rv E' r' v/\Ext E E' /\ E'.β=E.β/\∀ (i:Nat) b,n1<=i->E.β[i]? = some b->w'.heap[b]? = w.heap[b]?)
  (fun vs hv=>?_) ?_
 ·refine (Cv n1 m1 Ej gM Et ha hc bi hX hR hv).mono ?_
  grind
 ·grind
theorem PT (h:Rel X E st a w) (j o k:Nat) {n ty e:Nat} {Ki:List DV} {es ns:List (List DV)} (hq:st.tk[k]? = some ⟨n,ty,e,some ns.flatten⟩) (Ea:∀ x∈ns,x.length=e) (jd:ns.length=n) (hj:st.bx[j]? = some Ki) (ho:Ki[o]? = some (.sl 0 es (some k))) (ie:es.length=n) :
  ∃ E',Rel X E' ⟨st.sl,st.bx.set j (Ki.set o (.sl e ns none)),st.tk.set k ⟨n,ty,e,none⟩⟩ a w:=T0 hq Ea jd hj ho ie E a w h
theorem Je (hR:Rel X E st a w) (ho:ops[i]? = some o) (hE:isE o.op=true) (hg:o.guard=none) (hW:W i=true) (hd:gw X.nt st.sl o.dst=true) {p:Prop} (hp:effC X st o (go X 4000 k)=some p) (h:p):runT X.P ops W C (fun a w=>kq X k .normal a w) [i] a w:=by
 have Sa:=iJ (ops:=ops) (a:=a) hg;simp only [runT,ho,hE,if_true,eN,Sa];refine lk ?_ (ll hd hR hp h);rintro a' w' ⟨st',E',jc,hr,_⟩;exact ⟨(fun h=>by rw [hW] at h;cases h),go_sound 4000 _ _ jc _ _ _ hr⟩
mutual
theorem rK {i j:Nat}:∀ d:DV,renD (swp i j) (renD (swp i j) d)=d
 | .v x=>rfl
 | .ud=>rfl
 | .agg l=>by simp only [renD,jw]
 | .tup l=>by simp only [renD,jw]
 | .sl e es tk=>rfl
 | .pt cs o=>rfl
 | .loc k o=>by simp only [renD,lr]
 | .el k o=>by simp only [renD,lr]
 | .ms k e o l c=>by simp only [renD,lr]
 | .fn g l r=>by simp only [renD,jw]
 | .sj t x=>by simp only [renD,rK]
theorem jw {i j:Nat}:∀ l:List DV,renL (swp i j) (renL (swp i j) l)=l
 | []=>rfl
 | d :: r=>by simp only [renL,rK,jw]
end
theorem yU {i j:Nat}:∀ l:List (Nat × Sl),renS (swp i j) (renS (swp i j) l)=l
 | []=>rfl
 | (k,⟨gs,s⟩) :: r=>by simp only [renS,rK,yU]
theorem yV {i j:Nat}:∀ l:List (List DV),renO (swp i j) (renO (swp i j) l)=l
 | []=>rfl
 | c :: r=>by simp only [renO,jw,yV]
theorem MC {i j:Nat} (f:Nat->Nat) (l:List (List DV)) (hi:i < l.length) (hj:j < l.length):renO f (swL i j l)=swL i j (renO f l):=by
 apply List.ext_getElem?
 grind [uN,fO,dY]
theorem CN {i j:Nat} {S:St} (hi:i < S.bx.length) (hj:j < S.bx.length):eS i j (eS i j S)=S:=by
 obtain ⟨sl,bx,tk⟩:=S;simp only [eS,yU];rw [MC _ _ (by rw [dY];exact hi) (by rw [dY];exact hj),yV];congr 1;apply List.ext_getElem?
 grind [fO,eT,lr]
theorem CallG.YV {f:FuncId} {args:List DV} {dst:Option Nat} (i j:Nat) (Ka:Nat.ble X.n0 i=true) (BG:Nat.ble X.n0 j=true) (hi:Nat.blt i st.bx.length=true) (hj:Nat.blt j st.bx.length=true)
  (h:CallG X f (renL (swp i j) args) dst k (eS i j st)) (hX:X.bt=[]:=by exact rfl):CallG X f args dst k st:=by
 have dz:=hi;have jo:=hj;simp only [Nat.blt_eq] at dz jo;have hl:(eS i j st).bx.length=st.bx.length:=by simp only [eS,eT,dY]
 exact CallG.EJ i j (CN dz jo).symm (jw args).symm Ka BG (by rw [hl];exact hi) (by rw [hl];exact hj) h hX
theorem Fx {P:Program} {t e:TypeId} (hu:P.underlying t=some (.slice e)) (d:Nat) (x:Option Addr) (n c:Nat) (w:World):(Op.equalIn (d + 1) t (.slice x n c) (.slice none 0 0)).run P w = .ok x.isNone w:=by
 cases x<;>simp [Op.equalIn,run_underlying hu]
theorem MD {P:Program} {t e:TypeId} (hu:P.underlying t=some (.slice e)) (x:Option Addr) (n c:Nat) (w:World):(Op.equal t (.slice x n c) (.slice none 0 0)).run P w = .ok x.isNone w:=Fx hu 9999 x n c w
theorem ME {t d e:Nat} {x:Operand} {es:List (List DV)} {tk:Option Nat} {n et e' kp:Nat} {bb:Bool} {z:List Value} (tJ:∃ t',o.op = .binOp .eql t x (.const (.slice none 0 0)) t') (kg:o.dst=some d) (hx:rv st [] x=some (.sl e es tk)) (hT:X.T.find t=some ⟨n,bb,.sl et e' kp,z⟩) (hd:gw X.nt st.sl (some d)=true)
  (hk:∀ b:Bool,(es ≠ []->b=false)->go X 4000 k ⟨(d,⟨[],.v (.bool b)⟩) :: st.sl,st.bx,st.tk⟩):Ks X o k st:=by
 intro E a w h;obtain ⟨t',tJ⟩:=tJ;have e1:=aX h.rl hx;unfold Rv at e1;obtain ⟨b,m,cap,e1,⟨rfl,_⟩,hr,_⟩:=e1;obtain ⟨hu,_⟩:=fo X.hT hT;have aK:=MD hu b es.length cap w
 have ch:(execOp a.eval o).run X.P w = .ok (.value (.bool b.isNone)) w:=by
  have hc:a.eval (.const (.slice none 0 0)) = .slice none 0 0:=rfl;simp [execOp,tJ,e1,hc,eqGuard,binOp,aK]
 refine kB ch ?_;rw [kg];refine go_sound 4000 _ _ (hk b.isNone fun bg=>?_) E _ w (bB h hd (.v (.bool b.isNone)) _ (by unfold Rv;exact ⟨rfl,rfl⟩));have:=oh (hr bg).1;rw [this];rfl
theorem YW {t d et e kp n:Nat} {bb:Bool} {z:List Value} (tJ:o.op = .buildSlice t 0 #[]) (kg:o.dst=some d) (hT:X.T.find t=some ⟨n,bb,.sl et e kp,z⟩) (hd:gw X.nt st.sl (some d)=true) (bi:X.still=false:=by exact rfl) (hX:X.bt=[]:=by exact rfl) :
  OpS X o st ⟨(d,⟨[],.sl e [] (some st.tk.length)⟩) :: st.sl,st.bx,st.tk ++ [⟨0,et,e,none⟩]⟩:=by
 intro E a w h;obtain ⟨hu,ii,zv,yb,hz,bL,Ef,Kp⟩:=fo X.hT hT;have nM:iD X.P et=some e:=by rw [gx yb,bL]
 have ch:(execOp a.eval o).run X.P w = .ok (.value (.slice (some ⟨w.heap.size,0,none⟩) 0 0)) (w.alloc (.cells #[] et)):=by
  have h1:(Instr.buildSlice t 0 #[]).run X.P w = .ok (.slice (some ⟨w.heap.size,0,none⟩) 0 0) (w.alloc (.cells #[] et)):=by
   have h0:Array.range 0 = #[]:=rfl;simp [Instr.buildSlice,run_underlying hu,aN nM,Instr.fill,newRow,h0]
  simp only [execOp,tJ,List.map_toArray,List.map_nil,Sem.run_bind,h1,Result.andThen_ok,Sem.run_pure]
 refine eA ch ?_;rw [kg];have o6:=h.env.ke (w':=w.alloc (.cells #[] et)) fun i hi=>alloc_old w _ hi
 let E2:En:=⟨E.c,E.β,E.tk ++ [⟨0,et,e,none⟩],E.τ ++ [.slice (some ⟨w.heap.size,0,none⟩) 0 0]⟩
 have hext:Ext E E2:=⟨fun _ _ h=>h,fun _ _ h=>h,fun k q' hk=>by
  have av:=(gS hk).1;refine ⟨q',by show (E.tk ++ _)[k]? = _;rw [fk av];exact hk,.inl ⟨rfl,?_⟩⟩;show (E.τ ++ _)[k]? = _
  rw [fk (by rw [h.env.tl];exact av)]⟩
 have hτ:∀ (k:Nat) y,E2.τ[k]? = some y->(k < E.τ.length/\E.τ[k]? = some y)∨(k=E.τ.length/\y = .slice (some ⟨w.heap.size,0,none⟩) 0 0):=fun k y hy=>by grind
 have fV:∀ (k:Nat) y g,E.τ[k]? = some y->y.ownBlock=some g->g < w.heap.size:=fun k y g hy hg=>(h.env.own (mG hy) hg).1
 have cJ:Rel X E2 ⟨st.sl,st.bx,st.tk ++ [⟨0,et,e,none⟩]⟩ a (w.alloc (.cells #[] et)):=by
  refine dm h hext ?_ (by show E.tk ++ _=_;rw [h.tk]) ?_ (h.fr.alloc _) (od bi) (.nil hX)
  ·exact {
    len:=h.env.len
    tl:=by show (E.τ ++ _).length=(E.tk ++ _).length;simp [h.env.tl]
    eQ:=fun i cs hi=>by
     obtain ⟨b,t,arr,hb,hw,hc⟩:=o6.eQ i cs hi;exact ⟨b,t,arr,hb,hw,hc.mono hext⟩
    inj:=h.env.inj
    sub:=o6.sub
    pc:=h.env.pc
    cQ:=fun k q' y YX hy=>by
     rcases hτ k y hy with ⟨av,gQ⟩ | ⟨rfl,rfl⟩
     ·have gP:(E.tk ++ [⟨0,et,e,none⟩])[k]? = some q':=YX;rw [fk (by rw [<- h.env.tl];exact av)] at gP;exact o6.cQ k q' y gP gQ
     ·have gP:(E.tk ++ [⟨0,et,e,none⟩])[E.τ.length]? = some q':=YX;rw [List.getElem?_append_right (by rw [h.env.tl];exact aW _),h.env.tl] at gP;simp only [Nat.sub_self,List.getElem?_cons_zero,oI] at gP;subst gP;refine .inr ⟨w.heap.size,0,#[],rfl,jl w _,⟨by simp,pe.none rfl⟩,aW _,Nat.zero_le _,fun hm=>?_,fun x v hx Er=>?_⟩
      ·have:=h.env.bf hm;omega
      ·have:=World.block_lt_of_cell? w x (h.env.sub x v hx);omega
    jD:=fun k k' y y' g xC hy gQ hg zM=>by
     rcases hτ k y hy with ⟨_,BD⟩ | ⟨rfl,rfl⟩
     ·rcases hτ k' y' gQ with ⟨_,l9⟩ | ⟨rfl,rfl⟩
      ·exact h.env.jD k k' y y' g xC BD l9 hg zM
      ·have:=fV k y g BD hg;simp only [Value.ownBlock,oI] at zM;omega
     ·rcases hτ k' y' gQ with ⟨_,l9⟩ | ⟨rfl,rfl⟩
      ·have:=fV k' y' g l9 zM;simp only [Value.ownBlock,oI] at hg;omega
      ·exact xC rfl }
  ·exact {
    c:=h.nw.c
    cn:=h.nw.cn
    β:=h.nw.β
    tk:=fun j q0 y0 tf Em=>by
     obtain ⟨q',y',h1,h2,h3⟩:=h.nw.tk j q0 y0 tf Em
     grind
    tn:=fun j y g hj hy hg=>by
     rcases hτ j y hy with ⟨_,BD⟩ | ⟨_,rfl⟩
     ·exact h.nw.tn j y g hj BD hg
     ·simp only [Value.ownBlock,oI] at hg;have:=h.fr.size;omega
    l0:=h.nw.l0 }
 refine ⟨E2,bB cJ hd (.sl e [] (some st.tk.length)) _ ?_,hext,⟨[],by simp [E2]⟩,fun i b hb _=>alloc_old w _ (h.env.bf (mG hb))⟩;unfold Rv;refine ⟨_,0,0,rfl,⟨rfl,aW _⟩,fun hn=>(hn rfl).elim,fun k' gP=>?_⟩;cases gP;refine ⟨⟨0,et,e,none⟩,?_,aW _,fun _=>?_⟩
 ·show (E.tk ++ _)[st.tk.length]? = _;rw [h.tk];simp
 ·show (E.τ ++ _)[st.tk.length]? = _;rw [<- h.tk,<- h.env.tl];simp
theorem CO {t d et e kp n:Nat} {bb:Bool} {z:List Value} (tJ:o.op = .buildSlice t 0 #[]) (kg:o.dst=some d) (hT:X.T.find t=some ⟨n,bb,.sl et e kp,z⟩) (hd:gw X.nt st.sl (some d)=true) (bi:X.still=false:=by exact rfl) (hX:X.bt=[]:=by exact rfl)
  (hk:go X 4000 k ⟨(d,⟨[],.sl e [] (some st.tk.length)⟩) :: st.sl,st.bx,st.tk ++ [⟨0,et,e,none⟩]⟩):Ks X o k st:=(YW tJ kg hT hd bi hX).g hk
theorem Wk.G1 {st':St} (N:Nat) (hN:Nat.ble X.n0 N=true) (xM:Nat.ble N st.bx.length=true) (qH:l7 st.bx N N st.tk.length st'.bx (st.bx.take N)) (mc:st'.tk=st.tk) (oZ:K5 st.bx N st.tk.length st.sl st'.sl):Wk X st st':=fun _ _ _ h=>
 G2 h N (nL hN) (nL xM) qH mc oZ
theorem Ks.wk {st':St} {o:Oper} (hw:Wk X st st') (hd:gw X.nt st'.sl o.dst=true) {p:Prop} (hp:effC X st' o (go X 4000 k)=some p) (h:p):Ks X o k st:=fun E a w hr=>by
 obtain ⟨E',nk⟩:=hw _ _ _ hr;refine BH (lk ?_ (ll hd nk hp h));rintro a' w' ⟨Ix,E2,jc,hr2,_⟩;exact go_sound 4000 _ _ jc _ _ _ hr2
theorem PU (h:Rel X E st a w) (bi:X.still=false) (hX:X.bt=[]) {g n ty e cap:Nat} {cur:Array Value} (hw:w.heap[g]? = some (.cells cur ty (0,0))) (bL:cur.size=cap * e) (hn:n<=cap) (Il:cap<=maxLen) (hb:g ∉ E.β)
  (hc:∀ x v,E.c x=some v->x.block=g->x.off < n * e) (fV:∀ (k:Nat) y,E.τ[k]? = some y->y.ownBlock≠some g) (hg:X.w0.heap.size<=g) :
  Rel X ⟨E.c,E.β,E.tk ++ [⟨n,ty,e,none⟩],E.τ ++ [.slice (some ⟨g,0,none⟩) n cap]⟩ ⟨st.sl,st.bx,st.tk ++ [⟨n,ty,e,none⟩]⟩ a w:=by
 let E2:En:=⟨E.c,E.β,E.tk ++ [⟨n,ty,e,none⟩],E.τ ++ [.slice (some ⟨g,0,none⟩) n cap]⟩
 have hext:Ext E E2:=⟨fun _ _ h=>h,fun _ _ h=>h,fun k q' hk=>by
  have av:=(gS hk).1;refine ⟨q',by show (E.tk ++ _)[k]? = _;rw [fk av];exact hk,.inl ⟨rfl,?_⟩⟩;show (E.τ ++ _)[k]? = _
  rw [fk (by rw [h.env.tl];exact av)]⟩
 have hτ:∀ (k:Nat) y,E2.τ[k]? = some y->(k < E.τ.length/\E.τ[k]? = some y)∨(k=E.τ.length/\y = .slice (some ⟨g,0,none⟩) n cap):=fun k y hy=>by grind
 refine dm h hext ?_ (by show E.tk ++ _=_;rw [h.tk]) ?_ h.fr (od bi) (.nil hX)
 ·exact {
   len:=h.env.len
   tl:=by show (E.τ ++ _).length=(E.tk ++ _).length;simp [h.env.tl]
   eQ:=fun i cs hi=>by
    obtain ⟨b,t,arr,hb,hw,hc⟩:=h.env.eQ i cs hi;exact ⟨b,t,arr,hb,hw,hc.mono hext⟩
   inj:=h.env.inj
   sub:=h.env.sub
   pc:=h.env.pc
   cQ:=fun k q' y YX hy=>by
    rcases hτ k y hy with ⟨av,gQ⟩ | ⟨rfl,rfl⟩
    ·have gP:(E.tk ++ [⟨n,ty,e,none⟩])[k]? = some q':=YX;rw [fk (by rw [<- h.env.tl];exact av)] at gP;exact h.env.cQ k q' y gP gQ
    ·have gP:(E.tk ++ [⟨n,ty,e,none⟩])[E.τ.length]? = some q':=YX;rw [List.getElem?_append_right (by rw [h.env.tl];exact aW _),h.env.tl] at gP;simp only [Nat.sub_self,List.getElem?_cons_zero,oI] at gP;subst gP;exact .inr ⟨g,cap,cur,rfl,hw,⟨bL,fun cs h=>by cases h⟩,hn,Il,hb,hc⟩
   jD:=fun k k' y y' g' xC hy gQ nT D9=>by
    rcases hτ k y hy with ⟨_,BD⟩ | ⟨rfl,rfl⟩
    ·rcases hτ k' y' gQ with ⟨_,l9⟩ | ⟨rfl,rfl⟩
     ·exact h.env.jD k k' y y' g' xC BD l9 nT D9
     ·simp only [Value.ownBlock,oI] at D9;subst D9;exact fV k y BD nT
    ·rcases hτ k' y' gQ with ⟨_,l9⟩ | ⟨rfl,rfl⟩
     ·simp only [Value.ownBlock,oI] at nT;subst nT;exact fV k' y' l9 D9
     ·exact xC rfl }
 ·exact {
   c:=h.nw.c
   cn:=h.nw.cn
   β:=h.nw.β
   tk:=fun j q0 y0 tf Em=>by
    obtain ⟨q',y',h1,h2,h3⟩:=h.nw.tk j q0 y0 tf Em
    grind
   tn:=fun j y g' hj hy zM=>by
    rcases hτ j y hy with ⟨_,BD⟩ | ⟨_,rfl⟩
    ·exact h.nw.tn j y g' hj BD zM
    ·simp only [Value.ownBlock,oI] at zM;omega
   l0:=h.nw.l0 }
theorem Uk {t d et e kp n len:Nat} {bb:Bool} {z:List Value} {parts:Array (Nat × Operand)} {es:List (List DV)} (tJ:o.op = .buildSlice t len parts) (kg:o.dst=some d) (hT:X.T.find t=some ⟨n,bb,.sl et e kp,z⟩) (ie:litL e st parts.toList 0=some es)
  (hc:(Nat.beq es.length len && (Nat.blt 0 len && Nat.blt 0 e && Nat.ble (len * e) 16777216))=true) (hd:gw X.nt st.sl (some d)=true) (bi:X.still=false:=by exact rfl) (hX:X.bt=[]:=by exact rfl)
  (hk:go X 4000 k ⟨(d,⟨[],.sl e es (some st.tk.length)⟩) :: st.sl,st.bx,st.tk ++ [⟨len,et,e,none⟩]⟩):Ks X o k st:=by
 intro E a w h;simp only [aO,Nat.beq_eq,Nat.ble_eq,Nat.blt_eq] at hc;obtain ⟨hlen,⟨pq,GR⟩,Im⟩:=hc;obtain ⟨hu,ii,zv,yb,hz,bL,Ef,Kp⟩:=fo X.hT hT;obtain ⟨xs,vs,hp,xD,Ew,kr,V7,mb⟩:=oi h.rl GR ie;subst bL
 have Kz:len * ii.size≠0:=by
  have:=Nat.mul_pos pq GR;omega
 have mq:Instr.fill (fun i=>some (i * ii.size,ii.size)) ((Array.range (len * ii.size)).map (zv.cells[·% zv.cells.size]!)) (parts.map fun (i,x)=>(i,a.eval x)).toList=some (cellsL vs).toArray:=by
  have h0:=uj ii.size vs 0 ((Array.range (len * ii.size)).map (zv.cells[·% zv.cells.size]!)).toList kr (by simp [Ew,hlen])
  have h1:(parts.map fun (i,x)=>(i,a.eval x)).toList=enumF 0 vs:=by
   rw [Array.toList_map,hp,xD,<- qO]
  rw [h1];simp only [Array.toArray_toList] at h0;rw [h0];simp [Ew,hlen]
 have ch:(execOp a.eval o).run X.P w = .ok (.value (.slice (some ⟨w.heap.size,0,none⟩) len len)) (w.alloc (.cells (cellsL vs).toArray et)):=by
  simp only [execOp,tJ,Sem.run_bind,run_buildSlice w t et len _ _ ii zv hu yb hz (by omega) Kz mq,Result.andThen_ok,Sem.run_pure]
 refine kB ch ?_;rw [kg];have hr:=ya (arr:=cellsL vs) h bi et
 have Sb:(cellsL vs).length=len * ii.size:=by
  have:∀ l:List Value,(∀ v∈l,v.cells.toList.length=ii.size)->(cellsL l).length=l.length * ii.size:=by
   intro l
   induction l with
   | nil=>intro _;simp [cellsL]
   | cons v l ih=>grind [cellsL]
  rw [this vs kr,Ew,hlen]
 have hr2:=PU (n:=len) (ty:=et) (e:=ii.size) (cap:=len) hr bi hX (g:=w.heap.size) (cur:=(cellsL vs).toArray) (jl w _) (by simp [Sb]) (aW _) (by
   have:len<=len * ii.size:=Nat.le_mul_of_pos_right _ GR;unfold maxLen;omega) (fun hm=>by have:=h.env.bf hm;omega) (fun x v hx Er=>by
   have hx:addC E.c (w.alloc (.cells (cellsL vs).toArray et)) w.heap.size (cellsL vs).length x=some v:=hx;unfold addC at hx;split at hx
   ·rename_i hc;rw [<- Sb];exact hc.2.2
   ·have:=World.block_lt_of_cell? w x (h.env.sub x v hx);omega) (fun j y hy hg=>by
   have:=(h.env.own (mG hy) hg).1
   omega) (h.fr.size)
 refine go_sound 4000 _ _ hk _ _ _ (bB hr2 hd (.sl ii.size es (some st.tk.length)) _ ?_);unfold Rv;refine ⟨_,_,_,rfl,⟨hlen.symm,aW _⟩,fun bg=>⟨rfl,?_⟩,fun k' gP=>?_⟩
 ·have fN:∀ x v,E.c x=some v->addC E.c (w.alloc (.cells (cellsL vs).toArray et)) w.heap.size (cellsL vs).length x=some v:=fun x v hx=>by
   have av:=World.block_lt_of_cell? w x (h.env.sub x v hx);unfold addC;rw [ah (by omega)];exact hx
  have hm:RvC (En.cl ⟨addC E.c (w.alloc (.cells (cellsL vs).toArray et)) w.heap.size (cellsL vs).length,E.β,E.tk,E.τ⟩) es.flatten (cellsL vs):=V7.mono (Ext.SM (E:=E) fN);refine rvEs_flat hm mb fun j u hj=>?_;show addC _ _ _ _ _=_;have jo:=(gS hj).1;simp only [ab,ao,Nat.zero_add];rw [zL jo,cy (jl w _)];simpa using hj
 ·cases gP;refine ⟨⟨len,et,ii.size,none⟩,?_,aW _,fun _=>?_⟩
  ·show (E.tk ++ _)[st.tk.length]? = _;rw [h.tk];simp
  ·show (E.τ ++ _)[st.tk.length]? = _;rw [<- h.tk,<- h.env.tl];simp
end
end Dv
end Go.Proofs.YtphonmiflfhdbaaGreat
set_option maxRecDepth 100000
namespace Go.Proofs.YtphonmiflfhdbaaGreat
open Go Go.RowKit Dv Go.Proofs.Tryz
theorem oK {l:List Wd} {o:List (Wd × Wd)} (h:(latF l o).1=0):(fC l o).1=0/\(enumL l 0 l).1=0/\(numF (az l) o).1=0/\bc (j7 l.length (eC l.length (de (az l) o))) l.length=none/\bc (mM (eC l.length (de (az l) o)) l.length) l.length=none:=by grind [latF]
theorem dy {p:Nat->Bool} {n:Nat} (h:bc p n=none):∀ a,a < n->p a=false:=by grind [bc]
theorem kK {l:List Wd} {o:List (Wd × Wd)} (h:(latF l o).1=0):dG (eC l.length (de (az l) o)) l.length/\l.length<=32:=by
 obtain ⟨h1,h2,h3,h4,h5⟩:=oK h;have hP:=nA h3;rw [di] at hP
 have EK:l ≠ []:=by
  rintro rfl;simp [fC] at h1
 have PV:l.length<=32:=by grind [fC]
 have CA:∀ a b,a < l.length->b < l.length->kG (eC l.length (de (az l) o)) l.length a b=false:=by
  have key:∀ a b,a<=b->b < l.length->kG (eC l.length (de (az l) o)) l.length a b=false:=fun a b B5 hb=>by grind [dy,mM]
  intro a b ha hb;rcases Nat.le_total a b with h | h
  ·exact key a b h hb
  ·grind [kG,vv,vw]
 refine ⟨{
  pos:=List.length_pos_iff.2 EK
  rfl':=fun a ha=>ru hP ha
  tr:=fun a b c ha hb hc=>Fe hP ha hb hc
  Fl:=fun a b ha hb h6 h7=>by grind [dy,j7]
  jn:=fun a b ha hb=>by
   have:=CA a b ha hb;unfold kG at this;simp only [Bool.or_eq_false_iff,Option.isNone_eq_false_iff] at this;exact Option.isSome_iff_exists.1 this.1
  mt:=fun a b ha hb=>by
   have:=CA a b ha hb;unfold kG at this;simp only [Bool.or_eq_false_iff,Option.isNone_eq_false_iff] at this
   exact Option.isSome_iff_exists.1 this.2 },PV⟩
def dT (s:Sch) (aG:List Nat) (js:List Int):Lx:=⟨az s.ae,aG,closeR (eX s.ae.length (de (az s.ae) s.order)) s.ae.length,js,eC s.ae.length (de (az s.ae) s.order)⟩
theorem PW {s:Sch} {d:DV} (h:(latF s.ae s.order).1=0) (hd:T7 s.ae s.order d) (hw:s.ae.length<=1099511627776):∃ aG js,(dT s aG js).OK/\d=(dT s aG js).pd:=by
 obtain ⟨aG,js,hT,kX,og,On,rfl⟩:=hd;obtain ⟨h1,h2⟩:=kK h;refine ⟨aG,js,⟨hT,by show aG.length<=_;omega,?_,?_,?_⟩,rfl⟩
 ·show dG _ (az s.ae).length;rw [di];exact h1
 ·show (az s.ae).length<=32;rw [di];exact h2
 ·show ∀ x y,x < (az s.ae).length->y < (az s.ae).length->JM _ (az s.ae).length js x y;rw [di];exact On
def iz (s:Sch) (l:List Wd):Int:=Av (eC s.ae.length (de (az s.ae) s.order)) (az s.ae) l
def k0 (s:Sch) (t:Ty):Ft:=knT ⟨az s.ae,[],[],[],fun _ _=>false⟩ (tL s) t
mutual
theorem yW {X Y:Lx} (h:X.af=Y.af) (L:List ByteArray):∀ t:Ty,knT X L t=knT Y L t
 | .mk h1 ps=>by rw [knT,knT,yX h L ps]
theorem yX {X Y:Lx} (h:X.af=Y.af) (L:List ByteArray):∀ ps:Pts,knP X L ps=knP Y L ps
 | .nil=>by rw [knP,knP]
 | .cons p t r=>by
  rw [knP,knP,yX h L r,yW h L t];unfold Lx.bad;rw [h]
end
theorem Ul (s:Sch) (aG:List Nat) (js:List Int) (t:Ty):knT (dT s aG js) (tL s) t=k0 s t:=yW (X:=dT s aG js) (Y:=⟨az s.ae,[],[],[],fun _ _=>false⟩) rfl (tL s) t
def km (s:Sch):Ft:=
 if (latF s.ae s.order).1≠0 then latF s.ae s.order
 else if (eu s).1≠0 then eu s
 else if (eaR s.root s.types 0).1.1≠0 then (eaR s.root s.types 0).1
 else if (eaL (k0 s) (k0 s s.root) s.types).1≠0 then eaL (k0 s) (k0 s s.root) s.types
 else loopF s
def ndsAll (lev:List Wd->Int) (s:Sch):List (Wd × Ty)->Nat->List Nd
 | [],_=>[]
 | x :: r,k=>ndsT lev s x.2 k ++ ndsAll lev s r (k + x.2.nn)
def p8 (s:Sch):List Nd:=ndsAll (iz s) s s.types 0
def aR (s:Sch):List Nd:=p8 s ++ ndsT (iz s) s s.root (p8 s).length
def dL (s:Sch):Int:=mR s s.root (p8 s).length
def Sc (s:Sch) (aG ko:List Nat) (js:List Int):List DV:=
 [(dT s aG js).pd,.sl 7 (cX (aR s)) none,.v (.int .i64 (dL s)),.pt (cL (tL s) ko) 0,.sl 1 (dInts (namedL s)) none]
def MF (s:Sch) (d:DV):Prop:=∃ aG ko js,(dT s aG js).OK/\gT (tL s) ko/\ko.length<=s.types.length/\d = .pt (Sc s aG ko js) 0
def Fy (s:Sch) (r:DV) (_:List (List DV)) (_:List TkE):Prop:=
 if (km s).1≠0 then r = .tup [.v (.pointer none),(km s).d] else ∃ d,MF s d/\r = .tup [d,Ft.d (0,0)]
theorem mS {s:Sch} {f:Ft} {os:List (List DV)} {tk:List TkE} (h:km s=f) (hf:f.1≠0):Fy s (.tup [.v (.pointer none),f.d]) os tk:=by
 unfold Fy;rw [h,ai hf]
theorem PX {s:Sch} {d:DV} {os:List (List DV)} {tk:List TkE} (h:(km s).1=0) (hd:MF s d):Fy s (.tup [d,Ft.d (0,0)]) os tk:=by grind [Fy]
theorem MG {F:Ty->Ft} {z:Ft}:∀ {l:List (Wd × Ty)},(eaL F z l).1=0->z.1=0/\∀ x∈l,(F x.2).1=0
 | [],h=>⟨h,fun x hx=>by cases hx⟩
 | x :: r,h=>by
  rw [eaL] at h;split at h
  ·rename_i h1;exact (h1 h).elim
  ·rename_i h1;obtain ⟨h2,h3⟩:=MG h
   grind
theorem MH {z:Ty}:∀ {l:List (Wd × Ty)} {m:Int},0<=m->(eaR z l m).1.1=0->(wrong z 1 0).1.1=0/\(∀ x∈l,(wrong x.2 1 0).1.1=0)/\(eaR z l m).2=m + ((l.map fun x=>x.2.cnt).sum + z.cnt:Nat)/\(eaR z l m).2<=512
 | [],m,_,h=>by grind [eaR,nC]
 | x :: r,m,hm,h=>by
  rw [eaR] at h ⊢;split at h
  ·rename_i h1;exact (h1 h).elim
  ·rename_i h1;rw [ah h1];obtain ⟨g1,g2,g3,_⟩:=nC (sU h1);obtain ⟨h2,h3,h4,h5⟩:=MH (by omega) h
   grind
theorem vI (lev:List Wd->Int) (s:Sch):∀ (l:List (Wd × Ty)) (k:Nat),(ndsAll lev s l k).length=(l.map fun x=>x.2.nn).sum
 | [],_=>rfl
 | x :: r,k=>by simp only [ndsAll,List.length_append,jT,vI lev s r,List.map_cons,List.sum_cons]
theorem vJ:∀ l:List (Wd × Ty),(l.map fun x=>x.2.nn).sum<=(l.map fun x=>x.2.cnt).sum
 | []=>aW _
 | x :: r=>by
  have:=x.2.gf;have:=vJ r
  grind
theorem yY:∀ l:List Nd,(cX l).flatten.length=l.length * 7
 | []=>rfl
 | a :: r=>by
  have:=yY r;simp only [cX,List.map_cons,List.flatten_cons,List.length_append,List.length_cons] at this ⊢;rw [this];simp only [iS,List.length_cons,List.length_nil];omega
theorem AA {X:Lx} {s:Sch} {t:Ty} (h:(knT X (tL s) t).1=0):tz s t=true:=by
 obtain ⟨hd,ps⟩:=t;have:=(lN h).1;unfold tz;exact decide_eq_true this
theorem CP {s:Sch} (h:(loopF s).1=0):∀ i,i < s.types.length->∃ k,endI s (s.types.length + 1) i=some k:=by
 intro i hi;unfold loopF at h;split at h
 ·rename_i h1;have:=dy h1 i hi;simp only [Option.isNone_eq_false_iff] at this;exact Option.isSome_iff_exists.1 this
 ·cases h
abbrev MI (s:Sch) (aG:List Nat) (lc:List DV) (m:Int) (f1 f2:Int) (n:Nat) (base:List DV) (e:Nat):St:=
 ⟨[aD 1 4,aD 3 3,aD 6 0,aZ 59 11 (dNms s.types),au 60 ((dNms s.types).length),au 61 e],
  [bC s (.pt lc 0) (.loc 1 0) m,Kk s aG lc n,[.v (.int .i64 f1),.v (.int .i64 f2)],[.v (.int .i64 0),.v (.int .i64 0)],eB s],[Fv n base]⟩
theorem vK (s:Sch) (hs:s.wt<=1099511627776):Ev prog 8 [.agg (eB s)] [] [] (Fy s):=by
 have hF:=km.eq_1 s;have hw:=hs;simp only [Sch.wt] at hw;have hwl:=bp s.ae;have Sa:=jt s.types;have Pn:=CB s.ae s.order (by omega) (by omega);have tp:=fun lc=>Ay s lc (by omega)
 have bY:∀ t,(t=s.root∨∃ x∈s.types,t=x.2)->t.wt<=1099511627776:=fun t ht=>by
  rcases ht with rfl | ⟨x,hx,rfl⟩
  ·omega
  ·have:=gm hx;omega
 have YY:=fun lc aG=>Fu s lc aG 0 (by omega) (by omega) (by omega) bY;have YZ:=fun (X:Lx) (hX:X.OK) (aG:List Nat) (hT:gT (tL s) aG) (kX:aG.length<=1099511627776) (m:Int)=>Ja s X.pd (Fs s aG (iy X.af (cL X.af X.aG) X.rows X.js)) m (by omega) 29 Tt (knT X (tL s)) (fun t ht=>vE hX s aG (.pt (iy X.af (cL X.af X.aG) X.rows X.js) 0) (.v (.slice none 0 0)) (.v (.int .i64 0)) (.v (.slice none 0 0)) m hT kX t.wt t (aW _) (bY t ht));have Um:(eu s).1=0->s.types.length<=64:=fun h=>by grind [eu]
 have hLx:=fun d h hd=>@PW s d h hd (by omega);have Sd:=fun (lat:DV) (aG:List Nat) (a b c e0:DV) (m:Int)=>Fq s lat aG a b c e0 m;have MJ:=fun (lc:List DV) (aG:List Nat) (m:Int)=>CM s lc aG m;have gW:=fun (X:Lx) (hX:X.OK) (aG:List Nat) (m:Int) (hT:gT (tL s) aG) (kX:aG.length<=1099511627776) (t:Ty) (ht:t.wt<=1099511627776)=>yT hX s aG m hT kX t.wt t (aW _) ht;refine eG 85 [.tmp 2,.cell 3 44] func8 rfl ntmps8 rfl fun _ _ _ _=>?_;generalize hS:s=S at *;obtain ⟨ae,order,types,⟨rh,rp⟩⟩:=s;subst hS;refine bG en25 rfl Pn ax (fun r hr=>?_);by_cases hL:(latF ae order).1≠0
 ·have hL':=hL;rw [ai (show (latF (Sch.mk ae order types (.mk rh rp)).ae (Sch.mk ae order types (.mk rh rp)).order).1≠0 from hL)] at hF;unfold Fi at hr;rw [ai (show (latF (Sch.mk ae order types (.mk rh rp)).ae (Sch.mk ae order types (.mk rh rp)).order).1≠0 from hL)] at hr;subst hr;refine br ?_ ?_<;>intro h
  ·refine dS ?_;exact ⟨_,ax,mS (os:=[]) (tk:=[]) hF hL⟩
  ·exfalso;simp at h;exact hL h
 unfold Fi at hr;rw [ah (show ¬ (latF (Sch.mk ae order types (.mk rh rp)).ae (Sch.mk ae order types (.mk rh rp)).order).1≠0 from hL)] at hF hr;obtain ⟨d,hd,rfl⟩:=hr;have hL0:(latF ae order).1=0:=sU hL;obtain ⟨aG,js,hX,rfl⟩:=hLx d hL0 hd;generalize hXX:dT ⟨ae,order,types,.mk rh rp⟩ aG js=X at hX;refine br (fun h=>?_) (fun _=>?_)
 ·exfalso;simp at h;exact hL h
 refine CallG.YV 0 4 rfl rfl rfl rfl (CallG.YV 1 3 rfl rfl rfl rfl ?_);refine dr 2 0 en26 rfl rfl rfl gp gp (tp (iy X.af (cL X.af X.aG) X.rows X.js)) (fun r iR cI hΦ h1 h2=>?_);obtain ⟨rfl,II⟩:=hΦ;have h2:=List.eq_nil_of_length_eq_zero h2;subst h2;by_cases Hx:(eu ⟨ae,order,types,.mk rh rp⟩).1≠0
 ·rw [ai Hx] at hF
  obtain ⟨a,b,rfl⟩:∃ a b,iR=[a,b]:=by
   match iR,h1 with
   | [a,b],_=>exact ⟨a,b,rfl⟩
  refine br ?_ ?_<;>intro h
  ·refine dS ?_;exact ⟨_,ax,mS (os:=[]) (tk:=[]) hF Hx⟩
  ·exfalso;simp at h;exact Hx h
 rw [ah Hx] at hF;have Y0:(eu ⟨ae,order,types,.mk rh rp⟩).1=0:=sU Hx;have MK:=Um Y0;obtain ⟨ko,hT,kX,rfl⟩:=II Y0;refine br (fun h=>?_) (fun _=>?_)
 ·exfalso;simp at h;exact Hx h
 refine dr 2 0 WH rfl rfl rfl gp gp (YY (iy X.af (cL X.af X.aG) X.rows X.js) ko) (fun r iR cI hΦ h1 h2=>?_);obtain ⟨rfl,rfl⟩:=hΦ;have h2:=List.eq_nil_of_length_eq_zero h2;subst h2;by_cases hR:(eaR (.mk rh rp) types 0).1.1≠0
 ·rw [ai (show (eaR (Sch.mk ae order types (.mk rh rp)).root (Sch.mk ae order types (.mk rh rp)).types 0).1.1≠0 from hR)] at hF;refine br ?_ ?_<;>intro h
  ·refine dS ?_;exact ⟨_,ax,mS (os:=[]) (tk:=[]) hF hR⟩
  ·exfalso;simp at h;exact hR h
 rw [ah (show ¬ (eaR (Sch.mk ae order types (.mk rh rp)).root (Sch.mk ae order types (.mk rh rp)).types 0).1.1≠0 from hR)] at hF;have hR0:(eaR (.mk rh rp) types 0).1.1=0:=sU hR;refine br (fun h=>?_) (fun _=>?_)
 ·exfalso;simp at h;exact hR h
 have hea:=YZ X hX ko hT (by have:types.length<=64:=MK;have:ko.length<=types.length:=kX;omega) (eaR (.mk rh rp) types 0).2;have Un:∀ t,knT X (tL ⟨ae,order,types,.mk rh rp⟩) t=k0 ⟨ae,order,types,.mk rh rp⟩ t:=fun t=>by rw [<- hXX];exact Ul _ _ _ t
 have hfeq:eaL (knT X (tL ⟨ae,order,types,.mk rh rp⟩)) (knT X (tL ⟨ae,order,types,.mk rh rp⟩) (.mk rh rp)) types=eaL (k0 ⟨ae,order,types,.mk rh rp⟩) (k0 ⟨ae,order,types,.mk rh rp⟩ (.mk rh rp)) types:=by
  rw [show knT X (tL ⟨ae,order,types,.mk rh rp⟩)=k0 ⟨ae,order,types,.mk rh rp⟩ from funext Un]
 refine Hp WH hea ax rfl rfl ?_;by_cases hK:(eaL (k0 ⟨ae,order,types,.mk rh rp⟩) (k0 ⟨ae,order,types,.mk rh rp⟩ (.mk rh rp)) types).1≠0
 ·rw [ai (show (eaL (k0 ⟨ae,order,types,.mk rh rp⟩) (k0 ⟨ae,order,types,.mk rh rp⟩ (Sch.mk ae order types (.mk rh rp)).root) (Sch.mk ae order types (.mk rh rp)).types).1≠0 from hK)] at hF;refine br ?_ ?_<;>intro h
  ·refine dS ?_;refine ⟨.tup [.v (.pointer none),(eaL (knT X (tL ⟨ae,order,types,.mk rh rp⟩)) (knT X (tL ⟨ae,order,types,.mk rh rp⟩) (.mk rh rp)) types).d],ax,?_⟩;rw [hfeq];exact mS (os:=[]) (tk:=[]) hF hK
  ·grind
 rw [ah (show ¬ (eaL (k0 ⟨ae,order,types,.mk rh rp⟩) (k0 ⟨ae,order,types,.mk rh rp⟩ (Sch.mk ae order types (.mk rh rp)).root) (Sch.mk ae order types (.mk rh rp)).types).1≠0 from hK)] at hF;have hK0:(eaL (k0 ⟨ae,order,types,.mk rh rp⟩) (k0 ⟨ae,order,types,.mk rh rp⟩ (.mk rh rp)) types).1=0:=sU hK;refine br (fun h=>?_) (fun _=>?_)
 ·grind
 have hw2:wdsWt ae + prsWt order + nmsWt types + (Ty.mk rh rp).wt<=1099511627776:=hw;have hnmw:nmsWt types<=1099511627776:=by omega
 obtain ⟨Jf,gL⟩:=MG hK0;have hkr':(knT X (tL ⟨ae,order,types,.mk rh rp⟩) (.mk rh rp)).1=0:=by rw [Un];exact Jf
 have Y4:∀ x∈types,(knT X (tL ⟨ae,order,types,.mk rh rp⟩) x.2).1=0:=fun x hx=>by rw [Un];exact gL x hx
 have Y5:∀ x∈types,tz ⟨ae,order,types,.mk rh rp⟩ x.2=true:=fun x hx=>AA (Y4 x hx);have PY:ko.length<=1099511627776:=by have:types.length<=64:=MK;have:ko.length<=types.length:=kX;omega
 refine Hp en30 (Sd X.pd ko X.pd (.v (.slice none 0 0)) (.v (.int .i64 0)) (.v (.slice none 0 0)) (eaR (.mk rh rp) types 0).2 hT PY MK Y5) ax rfl rfl ?_;by_cases hO:(loopF ⟨ae,order,types,.mk rh rp⟩).1≠0
 ·refine br ?_ ?_<;>intro h
  ·refine dS ?_;exact ⟨_,ax,mS (os:=[]) (tk:=[]) hF hO⟩
  ·exfalso;simp at h;exact hO h
 have hO0:(loopF ⟨ae,order,types,.mk rh rp⟩).1=0:=sU hO;have Se:(km ⟨ae,order,types,.mk rh rp⟩).1=0:=by rw [hF];exact hO0
 refine br (fun h=>?_) (fun _=>?_)
 ·exfalso;simp at h;exact hO h
 refine dr 2 0 en31 rfl rfl rfl gp gp (MJ (iy X.af (cL X.af X.aG) X.rows X.js) ko (eaR (.mk rh rp) types 0).2 hT PY MK Y5 hnmw (CP hO0)) (fun r iR cI hΦ h1 h2=>?_);subst hΦ;have h2:=List.eq_nil_of_length_eq_zero h2;subst h2;clear tp YY YZ Sd MJ hea Pn;have hN:(dNms types).length=types.length:=dA types;obtain ⟨Jg,Cb,hcm,Y6⟩:=MH (Int.le_refl 0) hR0;generalize (eaR (.mk rh rp) types 0).2=m at hcm Y6 ⊢
 refine aP (fun j st=>∃ (e n:Nat) (base:List DV) (N:List Nd),st=MI ⟨ae,order,types,.mk rh rp⟩ ko (iy X.af (cL X.af X.aG) X.rows X.js) m (loopF ⟨ae,order,types,.mk rh rp⟩).1 (loopF ⟨ae,order,types,.mk rh rp⟩).2 n base e/\e<=types.length/\n=N.length/\base=(cX N).flatten/\N ++ ndsAll (iz ⟨ae,order,types,.mk rh rp⟩) ⟨ae,order,types,.mk rh rp⟩ (types.drop e) n=p8 ⟨ae,order,types,.mk rh rp⟩/\j=types.length - e) types.length
  (MI ⟨ae,order,types,.mk rh rp⟩ ko (iy X.af (cL X.af X.aG) X.rows X.js) m (loopF ⟨ae,order,types,.mk rh rp⟩).1 (loopF ⟨ae,order,types,.mk rh rp⟩).2 0 [] 0) (dJ 5 ⟨0,165,7,some []⟩ rfl rfl rfl kZ rfl rfl gR) ⟨0,0,[],[],rfl,by omega,rfl,rfl,rfl,by omega⟩ ?_
 rintro j st ⟨e,n,base,N,rfl,he,hn,OJ,Y7,rfl⟩;have hl64':types.length<=64:=MK;have Fz:X.lev=iz ⟨ae,order,types,.mk rh rp⟩:=by rw [<- hXX];all_goals rfl
 have htot:(p8 ⟨ae,order,types,.mk rh rp⟩).length + (Ty.mk rh rp).nn<=512:=by
  have h1:=vJ types;have h2:=(Ty.mk rh rp).gf;have h3:(p8 ⟨ae,order,types,.mk rh rp⟩).length=(types.map fun x=>x.2.nn).sum:=vI _ _ _ _;omega
 have hbl:base.length=n * 7:=by rw [OJ,hn,yY]
 have xM:n + (ndsAll (iz ⟨ae,order,types,.mk rh rp⟩) ⟨ae,order,types,.mk rh rp⟩ (types.drop e) n).length=(p8 ⟨ae,order,types,.mk rh rp⟩).length:=by rw [<- Y7,List.length_append,hn]
 refine br ?_ ?_<;>intro hL
 ·have av:e < types.length:=by have:=hL;simp [hN] at this;exact this
  obtain ⟨x,hx⟩:=gX av;have VA:=mG hx;rw [drop_cons hx,ndsAll] at Y7 xM;rw [List.length_append] at xM;have jd:=jT (iz ⟨ae,order,types,.mk rh rp⟩) ⟨ae,order,types,.mk rh rp⟩ x.2 n;have Fp:=gW X hX ko m hT PY x.2 (bY x.2 (.inr ⟨x,VA,rfl⟩)) (Y4 x VA) n base (by omega) hbl;rw [Fz] at Fp;obtain ⟨xw,⟨xh,xp⟩⟩:=x;refine iX (dNms_get hx) ?_;refine dr 2 1 O8 rfl rfl rfl gp gp Fp (fun r iR cI hΦ h1 h2=>?_);obtain ⟨rfl,rfl,rfl⟩:=hΦ;refine ⟨MI ⟨ae,order,types,.mk rh rp⟩ ko (iy X.af (cL X.af X.aG) X.rows X.js) m (loopF ⟨ae,order,types,.mk rh rp⟩).1 (loopF ⟨ae,order,types,.mk rh rp⟩).2 (n + (ndsT (iz ⟨ae,order,types,.mk rh rp⟩) ⟨ae,order,types,.mk rh rp⟩ (.mk xh xp) n).length) (base ++ (cX (ndsT (iz ⟨ae,order,types,.mk rh rp⟩) ⟨ae,order,types,.mk rh rp⟩ (.mk xh xp) n)).flatten) (e + 1),(wkB 5 (mw (nxt av (by omega))) (wB1 (nxt av (by omega)))),types.length - (e + 1),by omega,e + 1,_,_,N ++ ndsT (iz ⟨ae,order,types,.mk rh rp⟩) ⟨ae,order,types,.mk rh rp⟩ (.mk xh xp) n,rfl,by omega,by rw [List.length_append,hn],by rw [OJ];simp [cX],?_,rfl⟩;rw [List.append_assoc,jd];exact Y7
 have hge:e=types.length:=sW hN hL;subst hge;rw [List.drop_length,ndsAll,List.append_nil] at Y7;rw [List.drop_length,ndsAll,List.length_nil,Nat.add_zero] at xM;have hnr:=gW X hX ko m hT PY (.mk rh rp) (by omega) hkr' n base (by omega) hbl;rw [Fz] at hnr;intro E a w hr;have nk:=mr hr;obtain ⟨b0,ty0,KK,iP,hw0,KJ⟩:=nk.env.eQ 0 _ rfl;obtain ⟨b1,ty1,arr1,om,hw1,Tg⟩:=nk.env.eQ 1 _ rfl;obtain ⟨v13,hv13,hp13⟩:=RvL.get (i:=13) (d:=.loc 1 0) KJ.1 rfl;have Y8:v13 = .pointer (some ⟨b1,0,none⟩):=by grind [Rv]
 subst Y8
 have pu:w.drew.cell? ⟨b0,13,none⟩=some (.pointer (some ⟨b1,0,none⟩)):=by
  rw [cy hw0];simpa using hv13
 have Ti:=PO nk.env [0,1,2,3];generalize Bo:maskL [0,1,2,3] 0 _=bxm at Ti;have hbmi:∀ (i:Nat) cs,bxm[i]? = some cs->cs ≠ []->2<=i:=fun i cs hi bg=>by grind [maskL]
 refine kf (C:=fun w'=>CC E bxm w.drew w' /\ w'.cell? ⟨b0,13,none⟩=some (.pointer (some ⟨b1,0,none⟩))) (W:=fun i=>Nat.beq i 10) (Q:=fun a w=>kq _ _ .normal a w) mo (by decide +kernel) (fun _ _ h=>h) ⟨⟨fun _ _ _ _ _ _=>rfl,nk.env.sub⟩,pu⟩ ?_;show Go.Proofs.YtphonmiflfhdbaaGreat.Dv.runT _ _ _ _ _ [0,1,2,3,4,5,6,7,8,9,10] _ _;refine lO nk rfl rfl rfl rfl rfl rfl (fun a0 h0=>?_);refine lO h0 rfl rfl rfl rfl rfl rfl (fun a1 h1=>?_);refine lO h1 rfl rfl rfl rfl rfl rfl (fun a2 h2=>?_);refine PR h2 rfl om rfl rfl iP rfl rfl (fun w' h=>h.2) ⟨⟨fun _ _ _ _ _ _=>rfl,nk.env.sub⟩,pu⟩ rfl rfl (fun a3 h3=>?_);refine lO h3 rfl rfl rfl rfl rfl rfl (fun a4 h4=>?_);refine lO h4 rfl rfl rfl rfl rfl rfl (fun a5 h5=>?_);refine PQ h5 rfl (bx:=bxm) (PN h5 Ti (fun w' h=>h.1)) ⟨⟨fun _ _ _ _ _ _=>rfl,nk.env.sub⟩,pu⟩ rfl rfl (by rw [<- Bo];rfl) rfl (fun a6 h6=>?_);refine PS h6 rfl rfl rfl rfl rfl rfl O8 2 1 rfl rfl gp gp hnr rfl rfl ?_;intro v r iR cI E' w' hΦ _ _ cJ Hc hx hβ hh;obtain ⟨rfl,rfl,rfl⟩:=hΦ;refine ⟨fun _ hC=>⟨⟨fun i b cs hb cV bg=>?_,fun x v hxv=>cJ.env.sub x v (hx.c x v hxv)⟩,?_⟩,?_⟩
 ·exact hh i b (hbmi i cs cV bg) hb
 ·obtain ⟨b0',ty0',arr0',Uo,hw0',hc0'⟩:=cJ.env.eQ 0 _ rfl;rw [hβ,iP] at Uo;simp only [oI] at Uo;subst Uo;obtain ⟨u13,hu13,Y9⟩:=RvL.get (i:=13) (d:=.loc 1 0) hc0'.1 rfl;unfold Rv at Y9;obtain ⟨b,hb,rfl⟩:=Y9;rw [hβ,om] at hb;simp only [oI] at hb;subst hb;rw [cy hw0'];simpa using hu13
 have h7:=bB (dst:=some 77) cJ rfl _ v Hc;have hrN:(p8 ⟨ae,order,types,.mk rh rp⟩).length=n:=by rw [<- Y7,hn]
 have qV:base ++ (cX (ndsT (iz ⟨ae,order,types,.mk rh rp⟩) ⟨ae,order,types,.mk rh rp⟩ (.mk rh rp) n)).flatten=(cX (aR ⟨ae,order,types,.mk rh rp⟩)).flatten:=by grind [aR,cX]
 have Za:(cX (aR ⟨ae,order,types,.mk rh rp⟩)).length=n + (ndsT (iz ⟨ae,order,types,.mk rh rp⟩) ⟨ae,order,types,.mk rh rp⟩ (.mk rh rp) n).length:=by
  unfold aR;rw [hrN];simp [cX,hrN]
 obtain ⟨E3,h8⟩:=PT h7 1 1 0 (ns:=cX (aR ⟨ae,order,types,.mk rh rp⟩)) (congrArg (fun b=>some (Fv (n + (ndsT (iz ⟨ae,order,types,.mk rh rp⟩) ⟨ae,order,types,.mk rh rp⟩ (.mk rh rp) n).length) b)) qV) (fun x hx=>by
  simp only [cX,List.mem_map] at hx;obtain ⟨y,_,rfl⟩:=hx
  rfl) Za rfl rfl List.length_replicate
 refine lO h8 rfl rfl rfl rfl rfl rfl (fun a8 h9=>?_);refine lO h9 rfl rfl rfl rfl rfl rfl (fun a9 kA=>?_);refine Je kA rfl rfl rfl rfl rfl rfl ?_;refine ⟨.tup [.pt [X.pd,.sl 7 (cX (aR ⟨ae,order,types,.mk rh rp⟩)) none,.v (.int .i64 (mR ⟨ae,order,types,.mk rh rp⟩ (.mk rh rp) n)),.pt (cL (tL ⟨ae,order,types,.mk rh rp⟩) ko) 0,.sl 1 (dInts (namedL ⟨ae,order,types,.mk rh rp⟩)) none] 0,Ft.d (0,0)],ax,PX (os:=[]) (tk:=[]) Se ⟨aG,ko,js,by rw [hXX];exact hX,hT,kX,?_⟩⟩;rw [Sc,hXX,dL,hrN]
theorem PZ (es:List (List DV)) (hl:es.length<=1099511627776):Ev prog 149 [.sl 1 es none] [] [] (fun r _ _=>r = .sl 1 es none∨(es=[]/\r = .v (.slice none 0 0))):=by
 refine eG 8 [.tmp 2] func149 rfl ntmps149 rfl fun _ _ _ _=>?_;refine ME ⟨_,rfl⟩ rfl rfl rfl rfl (fun b hb=>?_);refine br ?_ ?_<;>intro h
 ·have h:b=true:=h;have he:es=[]:=Classical.byContradiction fun hn=>by rw [hb hn] at h;cases h
  subst he;exact Or.inr ⟨rfl,rfl⟩
 ·refine CO rfl rfl rfl rfl (hk:=?_);refine ⟨rfl,⟨by simp [maxLen];omega,by simp;omega⟩,?_⟩;exact ⟨_,ax,Or.inl rfl⟩
theorem P4 (es:List (List DV)) (hl:es.length<=1099511627776):Ev prog 150 [.sl 10 es none] [] [] (fun r _ _=>r = .sl 10 es none∨(es=[]/\r = .v (.slice none 0 0))):=by
 refine eG 8 [.tmp 2] func150 rfl ntmps150 rfl fun _ _ _ _=>?_;refine ME ⟨_,rfl⟩ rfl rfl rfl rfl (fun b hb=>?_);refine br ?_ ?_<;>intro h
 ·have h:b=true:=h;have he:es=[]:=Classical.byContradiction fun hn=>by rw [hb hn] at h;cases h
  subst he;exact Or.inr ⟨rfl,rfl⟩
 ·refine CO rfl rfl rfl rfl (hk:=?_);refine ⟨rfl,⟨by simp [maxLen];omega,by simp;omega⟩,?_⟩;exact ⟨_,ax,Or.inl rfl⟩
def Zb (lc:List DV) (Az:List Nd) (root:Int) (L:List ByteArray) (aG:List Nat) (named:List Nat):DV:=.pt [.pt lc 0,.sl 7 (cX Az) none,.v (.int .i64 root),.pt (cL L aG) 0,.sl 1 (dInts named) none] 0
theorem eD (l:List Nd):(cX l).length=l.length:=by simp [cX]
theorem cp {l:List Nd} {i:Nat} {n:Nd} (h:l[i]? = some n):(cX l)[i]? = some (iS n):=by simp [cX,h]
section
variable (lc:List DV) (Az:List Nd) (root:Int) (L:List ByteArray) (aG:List Nat) (named:List Nat)
theorem rL:EvP prog 148 [Zb lc Az root L aG named] (.v (.int .i64 Az.length)):=by
 refine eG 10 [.tmp 2] func148 rfl ntmps148 rfl fun _ _ _ _=>?_;refine (qY ?_:);rw [eD]
theorem FA:EvP prog 47 [Zb lc Az root L aG named] (.v (.int .i64 root)):=by
 refine eG 9 [.tmp 2] func47 rfl ntmps47 rfl fun _ _ _ _=>?_;exact (rfl:_=_)
theorem Jh:EvP prog 15 [Zb lc Az root L aG named] (.pt lc 0):=by
 refine eG 9 [.tmp 2] func15 rfl ntmps15 rfl fun _ _ _ _=>?_;exact ⟨_,ax,rfl⟩
theorem FB (i:Nat) (n:Nd) (h:Az[i]? = some n) (hn:n.af.length<=1099511627776) (he:n.aw.length<=1099511627776) :
  EvP prog 94 [Zb lc Az root L aG named,.v (.int .i64 i)] (.tup [.agg (iS n),.v (.bool true)]):=by
 have av:=(gS h).1;have hlen:=rL lc Az root L aG named;have Tg:=PZ (eE n.af) (by rw [bW];exact hn);have oc:=P4 (fF n.aw) (by rw [bT];exact he);refine eG 32 [.cell 4 165,.tmp 5] func94 rfl ntmps94 rfl fun _ _ _ _=>?_;refine cP Rk hlen ?_;refine br ?_ ?_<;>intro g
 ·exfalso;simp [pickB] at g;omega
 refine iX (cp h) ?_;refine dS ?_;refine pG Xq rfl Tg ax (fun r1 hr1=>?_);rcases hr1 with rfl | ⟨h1,rfl⟩
 ·refine pG Rm rfl oc ax (fun r2 hr2=>?_);rcases hr2 with rfl | ⟨h2,rfl⟩
  ·exact ⟨.tup [.agg (iS n),.v (.bool true)],ax,rfl⟩
  ·exact ⟨.tup [.agg (iS n),.v (.bool true)],(by repeat' (first | exact rfl | exact trivial | exact Or.inr (Or.inl ⟨_,rfl⟩) | exact Or.inr ⟨_,rfl⟩ | exact Or.inl ⟨rfl,rfl⟩ | exact Or.inl rfl | refine Or.inr ⟨_,_,rfl,Nat.zero_le _,rfl,?_⟩ | refine ⟨_,_,rfl,?_,?_⟩ | refine ⟨_,rfl,?_⟩ | exact Or.inl ⟨h2,rfl⟩ | refine Or.inr (Or.inr (Or.inr ⟨_,_,rfl,?_⟩)) | exact Or.inl rfl | refine Or.inr ?_)),rfl⟩
 ·refine pG Rm rfl oc ax (fun r2 hr2=>?_);rcases hr2 with rfl | ⟨h2,rfl⟩
  ·exact ⟨.tup [.agg (iS n),.v (.bool true)],(by repeat' (first | exact rfl | exact trivial | exact Or.inr (Or.inl ⟨_,rfl⟩) | exact Or.inr ⟨_,rfl⟩ | exact Or.inl ⟨rfl,rfl⟩ | exact Or.inl rfl | refine Or.inr ⟨_,_,rfl,Nat.zero_le _,rfl,?_⟩ | refine ⟨_,_,rfl,?_,?_⟩ | refine ⟨_,rfl,?_⟩ | exact Or.inl ⟨h1,rfl⟩ | refine Or.inr (Or.inr (Or.inr ⟨_,_,rfl,?_⟩)) | exact Or.inl rfl | refine Or.inr ?_)),rfl⟩
  ·exact ⟨.tup [.agg (iS n),.v (.bool true)],(by repeat' (first | exact rfl | exact trivial | exact Or.inr (Or.inl ⟨_,rfl⟩) | exact Or.inr ⟨_,rfl⟩ | exact Or.inl ⟨rfl,rfl⟩ | exact Or.inl rfl | refine Or.inr ⟨_,_,rfl,Nat.zero_le _,rfl,?_⟩ | refine ⟨_,_,rfl,?_,?_⟩ | refine ⟨_,rfl,?_⟩ | exact Or.inl ⟨h1,rfl⟩ | exact Or.inl ⟨h2,rfl⟩ | refine Or.inr (Or.inr (Or.inr ⟨_,_,rfl,?_⟩)) | exact Or.inl rfl | refine Or.inr ?_)),rfl⟩
theorem FC (i:Int) (h:i < 0∨Az.length<=i) :
  EvP prog 94 [Zb lc Az root L aG named,.v (.int .i64 i)] (.tup [.agg [.v (.int .i64 0),.v (.int .i64 0),.v (.int .i64 0),.v (.int .i64 0),.v (.int .i64 0),.v (.slice none 0 0),.v (.slice none 0 0)],.v (.bool false)]):=by
 have hlen:=rL lc Az root L aG named;refine eG 32 [.cell 4 165,.tmp 5] func94 rfl ntmps94 rfl fun _ _ _ _=>?_;refine br ?_ ?_<;>intro g
 ·refine cP Rk hlen ?_;refine br ?_ ?_<;>intro g2
  ·exact ⟨_,ax,rfl⟩
  ·exfalso;simp at g;simp [pickB,g] at g2;omega
 ·exact ⟨_,ax,rfl⟩
end
abbrev tS (s:Sch) (n d k q:Int) (e:Nat):St:=
 ⟨[aD 1 0,au 3 n,au 4 d,au 5 e],[eB s],[]⟩
theorem AB (s:Sch) (bY:s.wt<=1099511627776):Ev prog 20 [.agg (eB s)] [] [] (fun d _ _=>∃ b:Bool,d = .v (.bool b)):=by
 have h1:=bp s.ae;have h2:=ir s.order;have h3:=jt s.types;simp only [Sch.wt] at bY;have fD:=j5 s.root.wt s.root (aW _) (by omega);obtain ⟨ae,order,types,⟨h,ps⟩⟩:=s;simp only at h1 h2 h3 bY fD;refine eG 60 [.tmp 2] func20 rfl ntmps20 rfl fun _ _ _ _=>?_;refine br ?_ ?_<;>intro _
 ·exact ⟨true,rfl⟩
 refine cP Pf fD ?_;refine aP (fun j st=>∃ (e:Nat) (n d:Int),st=tS ⟨ae,order,types,.mk h ps⟩ n d 0 0 e/\e<=types.length/\j=types.length - e) types.length (tS ⟨ae,order,types,.mk h ps⟩ (Ty.mk h ps).cnt (Ty.mk h ps).deep 0 0 0) (wkM wB) ⟨0,_,_,rfl,by omega,by omega⟩ ?_;rintro j st ⟨e,n,d,rfl,he,rfl⟩;refine br ?_ ?_<;>intro hL
 ·have av:e < types.length:=by have:=hL;simp [dA] at this;exact this
  obtain ⟨w,hw⟩:=gX av;have Cb:=gm (mG hw);have hs:=j5 w.2.wt w.2 (aW _) (by omega);obtain ⟨w,u,us⟩:=w;simp only at hs;refine iX (dNms_get hw) ?_;refine cP Pf hs ?_;refine br ?_ ?_<;>intro _
  ·exact ⟨tS ⟨ae,order,types,.mk h ps⟩ _ _ 0 0 (e + 1),(wkM (wB1 (nxt av (by omega)))),types.length - (e + 1),by omega,e + 1,_,_,rfl,by omega,rfl⟩
  ·exact ⟨tS ⟨ae,order,types,.mk h ps⟩ _ _ 0 0 (e + 1),(wkM (wB1 (nxt av (by omega)))),types.length - (e + 1),by omega,e + 1,_,_,rfl,by omega,rfl⟩
 exact ⟨_,rfl⟩
def samePrs:List (Wd × Wd)->List (Wd × Wd)->Bool
 | [],[]=>true
 | x :: r,y :: s=>(decide (x.1.s=y.1.s) && decide (x.2.s=y.2.s)) && samePrs r s
 | _,_=>false
def sameNms:List (Wd × Ty)->List (Wd × Ty)->Bool
 | [],[]=>true
 | x :: r,y :: s=>(decide (x.1.s=y.1.s) && sameTy x.2 y.2) && sameNms r s
 | _,_=>false
def G0 (a b:Sch):Bool:=sameWds a.ae b.ae && samePrs a.order b.order && sameTy a.root b.root && sameNms a.types b.types
theorem Ji:∃ d,Op.maxDepth=d + 1 + 1 + 1:=⟨Op.maxDepth - 3,by decide⟩
theorem ML (p q r s:Int) (w:World):(Op.equal 44 (.agg #[.int .i64 p,.int .i64 q]) (.agg #[.int .i64 r,.int .i64 s])).run prog w = .ok (decide (p=r) && decide (q=s)) w:=by
 have hf:prog.underlying 44=some (.struct (prog.fieldsOf 44)):=by simp [Program.fieldsOf,Tryz.underlying44]
 have uw:(prog.fieldsOf 44).toList=[⟨ "E",42,0,false, "", "",0⟩,⟨ "At",3,1,false, "", "",8⟩]:=by simp [Program.fieldsOf,Tryz.underlying44]
 have hs:prog.stoodInHeld 44=false:=by kernel_rfl
 obtain ⟨d,hm⟩:=Ji
 have q9:∀ cs:Array Value,∀ off v,cs[off]? = some v->(part 42 cs off).run prog w = .ok v w:=fun cs off v h=>by
  simp [part,Tryz.isAgg42,h]
 have q3:∀ cs:Array Value,∀ off v,cs[off]? = some v->(part 3 cs off).run prog w = .ok v w:=fun cs off v h=>by
  simp [part,Tryz.isAgg3,h]
 unfold Op.equal;rw [hm,run_equalIn_struct w (d + 1 + 1) 44 _ _ hf hs,uw];simp only [Op.eqFields,ne_eq,String.reduceEq,not_false_eq_true,if_true,Sem.run_bind,q9 #[.int .i64 p,.int .i64 q] 0 (.int .i64 p) rfl,q9 #[.int .i64 r,.int .i64 s] 0 (.int .i64 r) rfl,Result.andThen_ok,run_equalIn_int w (d + 1) 42 .i64 .i64 p r Tryz.underlying42];by_cases h:p=r
 ·subst h;have e1:=q3 #[.int .i64 p,.int .i64 q] 1 (.int .i64 q) rfl;have e2:=q3 #[.int .i64 p,.int .i64 s] 1 (.int .i64 s) rfl;have e3:=run_equalIn_int w (d + 1) 3 .i64 .i64 q s Tryz.underlying3;by_cases h2:q=s
  ·subst h2;simp [e1,e3,Sem.run_pure]
  ·simp [e1,e2,e3,h2,Sem.run_pure]
 ·simp [h,Sem.run_pure]
theorem Up (p q r s:Int) (w:World):(binOp .eql 44 (.agg #[.int .i64 p,.int .i64 q]) (.agg #[.int .i64 r,.int .i64 s])).run prog w = .ok (.bool (decide (p=r) && decide (q=s))) w:=by
 show ((do let r <- Op.equal 44 _ _;pure (Value.bool r)):Sem Value).run prog w=_;simp only [Sem.run_bind,ML p q r s w,Result.andThen_ok,Sem.run_pure]
theorem MM (op:BinOp) (w:World) (x y:Operand) (vs vs':Array Value):(eqGuard op 44 x y (.agg vs) (.agg vs')).run prog w = .ok () w:=by
 have h:prog.eqGuardType prog.depth 44=false:=by kernel_rfl
 cases op<;>simp [eqGuard,run_program,h]
theorem Uq (x y:Operand) (f g:Ft):zG prog .eql x y 44 [.v (.int .i64 f.1),.v (.int .i64 f.2)] [.v (.int .i64 g.1),.v (.int .i64 g.2)] (decide (f.1=g.1) && decide (f.2=g.2)):=
 ⟨[.int .i64 f.1,.int .i64 f.2],[.int .i64 g.1,.int .i64 g.2],rfl,rfl,fun w=>⟨MM _ w x y _ _,Up f.1 f.2 g.1 g.2 w⟩⟩
def cB (r:List Bool):List DV:=r.map fun b=>DV.v (.bool b)
def vM (r:List Bool):List (List DV):=r.map fun b=>[DV.v (.bool b)]
def cH (m:List (List Bool)):List (List DV):=m.map fun r=>[DV.sl 1 (vM r) none]
theorem rM (r:List Bool):(cB r).length=r.length:=by simp [cB]
theorem tT (r:List Bool):(vM r).length=r.length:=by simp [vM]
theorem vN (m:List (List Bool)):(cH m).length=m.length:=by simp [cH]
theorem MN {r:List Bool} {i:Nat} {b:Bool} (h:r[i]? = some b):(cB r)[i]? = some (DV.v (.bool b)):=by simp [cB,h]
theorem AD (r:List Bool) (i:Nat) (b:Bool):(cB r).set i (DV.v (.bool b))=cB (r.set i b):=by simp [cB,List.map_set]
theorem Hy {r:List Bool} {i:Nat} {b:Bool} (h:r[i]? = some b):(vM r)[i]? = some [DV.v (.bool b)]:=by simp [vM,h]
theorem MO {m:List (List Bool)} {i:Nat} {r:List Bool} (h:m[i]? = some r):(cH m)[i]? = some [DV.sl 1 (vM r) none]:=by simp [cH,h]
theorem p9 (r:List Bool):(vM r).flatten=cB r:=by
 induction r with
 | nil=>rfl
 | cons b r ih=>simp only [vM,cB,List.map_cons,List.flatten_cons] at ih ⊢;rw [ih];all_goals rfl
theorem Jj (n:Nat):(List.replicate n (vL [Value.bool false])).flatten=cB (List.replicate n false):=by
 induction n with
 | zero=>rfl
 | succ n ih=>simp only [List.replicate_succ,List.flatten_cons,ih];rfl
theorem b9 {n m:Nat} {tk:List TkE} {l:List DV} {r:List Bool} (h:l=cB r):WeL n m tk l (cB r):=by
 subst h;refine vf _ fun x hx=>?_;obtain ⟨z,_,rfl⟩:=List.mem_map.1 hx;exact ⟨_,rfl⟩
theorem Sf {bx:List (List DV)} {N n0 m0 n:Nat} {r:List Bool} (hr:r.length=n) (hN:N<=0) (hb:bx[0]? = some (cB r)):Cc bx N n0 m0 (.sl 1 (vM r) none) (.ms 0 1 0 n n):=by
 simp only [Cc];refine Or.inr (Or.inr (Or.inl ⟨0,0,n,_,by rw [tT,hr],hN,hb,?_,?_,?_⟩))
 ·grind [p9,rM,tT]
 ·grind [vM]
 ·intro x hx;rw [p9] at hx;obtain ⟨_,_,rfl⟩:=List.mem_map.1 hx;exact .inl ⟨_,rfl⟩
def fv (n:Nat) (l:List (Nat × Nat)):List (List Bool):=(List.range n).map (tv n l)
theorem FD (n:Nat) (l:List (Nat × Nat)):(fv n l).length=n:=by simp [fv]
theorem FE {n a:Nat} (l:List (Nat × Nat)) (h:a < n):(fv n l)[a]? = some (tv n l a):=by simp [fv,List.getElem?_range h]
theorem Jk {n:Nat} {l:List (Nat × Nat)} (h:rr n l):fv n l=dt n (eC n l):=by
 unfold fv dt;exact List.map_congr_left fun a ha=>Py h (List.mem_range.1 ha)
def ja (l:List (Nat × Nat)) (r:List Bool) (e:Nat):List Bool:=(l.take e).foldl gF r
theorem FF (l:List (Nat × Nat)) (r:List Bool) (e:Nat):(ja l r e).length=r.length:=oC (l.take e) r
theorem CQ {l:List (Nat × Nat)} {r:List Bool} {e:Nat} {p:Nat × Nat} (h:l[e]? = some p):ja l r (e + 1)=gF (ja l r e) p:=by
 unfold ja;rw [List.take_add_one,h];simp
abbrev ldSt (n:Nat) (l:List (Nat × Nat)) (q e:Nat):St:=
 ⟨[au 0 n,aZ 1 2 (lC l),(5,⟨[],.sl 1 (cH ((fv n l).take e)) (some 0)⟩),au 6 e],[],[⟨q,178,1,none⟩]⟩
abbrev Zc (n:Nat) (l:List (Nat × Nat)) (q e:Nat) (r:List Bool) (k:Nat):St:=
 ⟨[au 0 n,aZ 1 2 (lC l),(5,⟨[],.sl 1 (cH ((fv n l).take e)) (some 0)⟩),au 6 e,(7,⟨[],.ms 0 1 0 n n⟩),au 8 k],[cB r],[⟨q,178,1,none⟩]⟩
abbrev Zd (n:Nat) (l:List (Nat × Nat)) (q e:Nat) (r:List Bool) (k i:Nat):St:=
 ⟨[au 0 n,aZ 1 2 (lC l),(5,⟨[],.sl 1 (cH ((fv n l).take e)) (some 0)⟩),au 6 e,(7,⟨[],.ms 0 1 0 n n⟩),au 8 k,au 9 i],[cB r],[⟨q,178,1,none⟩]⟩
abbrev Ze (n:Nat) (l:List (Nat × Nat)) (q e:Nat) (r:List Bool):St:=
 ⟨[au 0 n,aZ 1 2 (lC l),au 6 e,(46,⟨[],.sl 1 (cH ((fv n l).take e)) (some 0)⟩),aZ 47 1 (vM r)],[],[⟨q,178,1,none⟩]⟩
theorem FG (n:Nat) (hn:n<=64) (l:List (Nat × Nat)) (hP:rr n l) (hb:l.length<=1099511627776) :
  EvP prog 77 [.v (.int .i64 n),.sl 2 (lC l) none] (.sl 1 (cH (fv n l)) none):=by
 have xM:=gC l;have Zf:=FD n l;refine eG 51 [.tmp 4] func77 rfl ntmps77 rfl fun _ _ _ _=>?_;refine lJ (fun e=>ldSt n l e e) n (fA ⟨0,178,1,none⟩ rfl ⟨_,rfl⟩ rfl wA rfl rfl gR) ?_;intro e he;refine br ?_ ?_<;>intro hL
 ·have av:e < n:=by have:=hL;simp at this;exact this
  have hr0l:((List.replicate n false).set e true).length=n:=by simp
  refine ⟨⟨rfl,by omega,by omega,by omega⟩,?_⟩;refine ⟨⟨by omega,by omega⟩,?_⟩;refine ⟨by rw [Jj,rM,List.length_replicate];omega,?_⟩
  have iP:((List.replicate (n:Int).toNat (vL [Value.bool false])).flatten).set (0 + (e:Int).toNat * 1) (DV.v (.bool true))=cB (cG l ((List.replicate n false).set e true) 0):=by
   rw [Jj,show 0 + (e:Int).toNat * 1=e by omega,show (n:Int).toNat=n by omega,AD];rfl
  refine lJ (fun k=>Zc n l e e (cG l ((List.replicate n false).set e true) k) k) n (wkB 1 (mw iP) (wB1 iP)) ?_;intro k hk;have fy:=eZ l ((List.replicate n false).set e true) k;have xB:=ep l ((List.replicate n false).set e true) k;refine br ?_ ?_<;>intro mN
  ·have gL:k < n:=by have:=mN;simp at this;exact this
   generalize cG l ((List.replicate n false).set e true) k=r at fy xB ⊢;rw [hr0l] at fy;refine lJ (fun i=>Zd n l e e (ja l r i) k i) l.length (wkB 1 kZ gR) ?_;intro i hi;have oZ:=FF l r i;refine br ?_ ?_<;>intro hL3
   ·have Zg:i < l.length:=by have:=hL3;simp [xM] at this;exact this
    obtain ⟨p,hp⟩:∃ p,l[i]? = some p:=⟨_,gE Zg⟩;obtain ⟨O0,Tk⟩:=hP p (mG hp);have P5:=CQ (r:=r) hp;obtain ⟨b,om⟩:∃ b,(ja l r i)[p.1]? = some b:=⟨_,gE (by omega)⟩;have Q6:(ja l r i).getD p.1 false=b:=by simp [eM,om]
    rw [gF,Q6] at P5;refine iX (vc hp) ?_;refine ⟨⟨by decide,by decide⟩,?_⟩;refine ⟨⟨by omega,by omega⟩,?_⟩;refine ⟨_,(show (cB (ja l r i))[0 + (p.1:Int).toNat * 1]? = some (.v (.bool b)) by rw [show 0 + (p.1:Int).toNat * 1=p.1 by omega];exact MN om),?_⟩;refine br ?_ ?_<;>intro g
    ·have g:b=true:=g;rw [ai g] at P5;refine iX (vc hp) ?_;refine ⟨⟨by decide,by decide⟩,?_⟩;refine ⟨⟨by omega,by omega⟩,?_⟩;refine ⟨by rw [rM];omega,?_⟩;have lZ:(cB (ja l r i)).set (0 + (p.2:Int).toNat * 1) (DV.v (.bool true))=cB (ja l r (i + 1)):=by grind [AD]
     exact rE ⟨_,by omega,i + 1,rfl,by omega,rfl⟩ (wkB 1 (wA2 lZ (nxt Zg (by omega))) (wB2 lZ (nxt Zg (by omega))))
    ·have g:¬ b=true:=by rw [show b=false from g];decide
     rw [ah g] at P5;exact rE ⟨_,by omega,i + 1,rfl,by omega,rfl⟩ (wkB 1 (by repeat' (first | exact rfl | exact aA rfl | exact b9 (by rw [P5]) | exact aC (nxt Zg (by omega)) | refine ⟨_,_,rfl,?_,?_⟩)) (by repeat' (first | exact trivial | exact aA rfl | exact b9 (by rw [P5]) | exact aC (nxt Zg (by omega)) | refine ⟨⟨_,rfl,?_⟩,?_⟩)))
   ·have hge:i=l.length:=sW xM hL3;subst hge;have rN:ja l r l.length=cG l ((List.replicate n false).set e true) (k + 1):=by rw [xB,ja,List.take_length];all_goals rfl
    exact rE ⟨_,by omega,k + 1,rfl,by omega,rfl⟩ (wkB 1 (by repeat' (first | exact rfl | exact aA rfl | exact b9 (by rw [rN]) | exact aC (nxt gL (by omega)) | refine ⟨_,_,rfl,?_,?_⟩)) (by repeat' (first | exact trivial | exact aA rfl | exact b9 (by rw [rN]) | exact aC (nxt gL (by omega)) | refine ⟨⟨_,rfl,?_⟩,?_⟩)))
  ·have hge:k=n:=by have:=mN;simp at this;omega
   subst hge;have qV:cG l ((List.replicate k false).set e true) k=tv k l e:=rfl;rw [qV];have hrw:=pS k l e;refine Ks.wk (.G1 (st':=Ze k l e e (tv k l e)) 0 rfl rfl rfl rfl ?_) rfl rfl ?_
   ·refine ⟨⟨_,rfl,?_⟩,⟨_,rfl,?_⟩,⟨_,rfl,?_⟩,⟨_,rfl,?_⟩,⟨_,rfl,Sf hrw (by omega) rfl⟩,trivial⟩
    ·simp only [Cc]
    ·grind [Cc]
    ·simp only [Cc]
    ·grind [Cc]
   ·have ey:(cH ((fv k l).take e)).length=e:=by rw [vN,ez,Zf];omega
    have iq:cH ((fv k l).take e) ++ [[DV.sl 1 (vM (tv k l e)) none]]=cH ((fv k l).take (e + 1)):=by rw [List.take_add_one,FE l av];simp [cH]
    refine ⟨ey,⟨by rw [ey];simp [maxLen];omega,by rw [ey];simp;omega⟩,?_⟩;exact rE ⟨_,by omega,e + 1,rfl,by omega,rfl⟩ (wkM (wB2 (nxt av (by omega)) iq))
 ·have hge:e=n:=by have:=hL;simp at this;omega
  subst hge;have ht:(fv e l).take e=fv e l:=by rw [List.take_of_length_le (by rw [Zf];omega)]
  rw [ht];exact ⟨_,ax,rfl⟩
end Go.Proofs.YtphonmiflfhdbaaGreat
