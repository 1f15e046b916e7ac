/- Part 4 of the proof: lattice.bounds: all joins and meets; lattice.Build; Reading a lattice: Len, has, Name, Find, Join, Meet, Bottom; labels.Of; The checker's part, once check is known for lighter types; The checker's parts, once check is known for lighter types; The checker's one and check, once check is known for lighter types; so check; kinds.Count, resolve.nodes; the builder's level; The builder's end, loops, known; The builder's each, right, called; The builder's each of right; called; places; The builder's places; The builder's edge; The builder's node; Steps of a region that draws its order, one by one; What resolve.Build says of a schema; lattices in which nothing is wrong; resolve.Build; Reading a plan: Len, Root, Lattice, Node, Find; slices.Clone; of no plan as well; The reference of chapter 17: Great, Same; The program's comparing of schemas; The law's example: a type that leads to itself; The law of no plan: the call returns true; The document's relations: Leads. No condition. -/
import Derived.Test.YtphonmiflfhdbaaGreatMy3
set_option linter.all false
set_option maxRecDepth 100000
namespace Go.Proofs.YtphonmiflfhdbaaGreat
open Go Go.RowKit Dv Go.Proofs.Tryz
theorem qK (js:List Int) (bx:List (List DV)) (N n m:Nat):CcL bx N n m (cZ js) (cZ js):=by
 induction js with
 | nil=>exact rfl
 | cons z r ih=>exact ⟨_,_,rfl,rfl,ih⟩
theorem qq {n m:Nat} {tk:List TkE} (js:List Int):WeL n m tk (cZ js) (cZ js):=ui _ fun x hx=>by
 obtain ⟨z,_,rfl⟩:=List.mem_map.1 hx;exact ⟨_,rfl⟩
theorem RO (f:Nat->Nat) (js:List Int):renL f (cZ js)=cZ js:=by
 induction js with
 | nil=>rfl
 | cons z r ih=>simp only [cZ,List.map_cons,renL,renD] at ih ⊢;rw [ih]
theorem RP (js:List Int):(cZ js).length=js.length:=by simp [cZ]
theorem KQ (js:List Int) (i:Nat) (z:Int):(cZ js).set i (.v (.int .i64 z))=cZ (js.set i z):=by simp [cZ,List.map_set]
abbrev gV (af:List ByteArray) (tc:List DV) (rows:List Nat) (js:List Int):List DV:=DP af (.pt tc 0) (lV rows) js
theorem NN (af:List ByteArray) (tc:List DV) (rows:List Nat) (js:List Int):(gV af tc rows js).length=js.length + 3:=by simp [DP,cZ]
theorem sH {af:List ByteArray} {tc:List DV} {rows:List Nat} {js:List Int} {i k:Nat} {z:Int} (h:k=i + 3):(gV af tc rows js).set k (.v (.int .i64 z))=gV af tc rows (js.set i z):=by grind [DP,KQ]
theorem NO (f:Nat->Nat) (af:List ByteArray) (tc:List DV) (rows:List Nat) (js:List Int):renL f (gV af tc rows js)=gV af tc rows js:=by
 simp only [DP,renL,RO];rfl
theorem F5 {n m:Nat} {tk:List TkE} {l:List DV} {af:List ByteArray} {tc:List DV} {rows:List Nat} {js:List Int} (h:l=gV af tc rows js):WeL n m tk l (gV af tc rows js):=by
 subst h;exact ⟨_,_,rfl,aE rfl,_,_,rfl,aE rfl,_,_,rfl,aE rfl,qq js⟩
def er (f:Nat->Nat->Bool) (n a b:Nat):Option Nat:=mn (fun c=>f a c && f b c) f n
def iq (f:Nat->Nat->Bool) (n a b:Nat):Option Nat:=mn (fun c=>f c a && f c b) (fun x y=>f y x) n
theorem uy (f:Nat->Nat->Bool) (n a b:Nat):er f n a b=er f n b a:=by grind [er]
theorem uz (f:Nat->Nat->Bool) (n a b:Nat):iq f n a b=iq f n b a:=by grind [iq]
def ko (f:Nat->Nat->Bool) (n a b:Nat):Bool:=(er f n a b).isNone || (iq f n a b).isNone
def mr (f:Nat->Nat->Bool) (n b:Nat):Bool:=(List.range (b + 1)).any fun a=>ko f n a b
def JM (f:Nat->Nat->Bool) (n:Nat) (js:List Int) (a b:Nat):Prop:=js[a * 32 + b]? = some (oz (er f n a b))/\js[1024 + (a * 32 + b)]? = some (oz (iq f n a b))
def wg (js:List Int) (a b:Nat) (j m:Int):List Int:=(((js.set (a * 32 + b) j).set (b * 32 + a) j).set (1024 + (a * 32 + b)) m).set (1024 + (b * 32 + a)) m
theorem KR (js:List Int) (a b:Nat) (j m:Int):(wg js a b j m).length=js.length:=by simp [wg]
theorem oh {js:List Int} {i k:Nat} {z:Int} (h:k≠i):(js.set k z)[i]? = js[i]?:=List.getElem?_set_ne h
theorem F6 {f:Nat->Nat->Bool} {n:Nat} {js:List Int} (hl:js.length=2048) {a b:Nat} (ha:a < 32) (hb:b < 32) {x y:Nat} (hx:x < 32) (hy:y < 32)
  (h:JM f n js x y∨(x=a/\y=b)∨(x=b/\y=a)):JM f n (wg js a b (oz (er f n a b)) (oz (iq f n a b))) x y:=by
 have key:(x=a/\y=b)∨(x=b/\y=a)∨(JM f n js x y/\¬ (x=a/\y=b)/\¬ (x=b/\y=a)):=by grind
 rcases key with ⟨rfl,rfl⟩ | ⟨rfl,rfl⟩ | ⟨h,h1,h2⟩
 ·grind [JM,wg,oh]
 ·grind [JM,wg,uy,uz,oh]
 ·grind [JM,wg,oh]
abbrev PX (af:List ByteArray) (tc:List DV) (rows:List Nat) (js:List Int) (e:Nat):St:=
 ⟨[aF 1 1,aF 3 2,aF 4 3,aw 15 ((ee af).length),aw 16 e],
  [gV af tc rows js,[.loc 0 0],[.fn 117 [] [.loc 1 0]],[.fn 118 [] [.loc 1 0]]],[]⟩
abbrev DR (af:List ByteArray) (tc:List DV) (rows:List Nat) (js:List Int) (e f:Nat):St:=
 ⟨[aF 1 1,aF 3 2,aF 4 3,aw 15 ((ee af).length),aw 16 e,aF 5 4,aF 6 5],
  [gV af tc rows js,[.loc 0 0],[.fn 117 [] [.loc 1 0]],[.fn 118 [] [.loc 1 0]],[.v (.int .i64 e)],[.v (.int .i64 f)]],[]⟩
abbrev KT (af:List ByteArray) (tc:List DV) (rows:List Nat) (js:List Int) (e f:Nat):St:=
 ⟨[aF 1 1,aF 3 2,aF 4 3,aw 15 ((ee af).length),aw 16 e,aF 5 4,aF 6 6],
  [gV af tc rows js,[.loc 0 0],[.fn 117 [] [.loc 1 0]],[.fn 118 [] [.loc 1 0]],[.v (.int .i64 e)],[.v (.int .i64 f)],[.v (.int .i64 (f + 1:Nat))]],[]⟩
abbrev KU (af:List ByteArray) (tc:List DV) (rows:List Nat) (js:List Int) (e f:Nat):St:=
 ⟨[aF 1 1,aF 3 2,aF 4 3,aw 15 ((ee af).length),aw 16 e,aF 5 4,aF 6 5],
  [gV af tc rows js,[.loc 0 0],[.fn 117 [] [.loc 1 0]],[.fn 118 [] [.loc 1 0]],[.v (.int .i64 e)],[.v (.int .i64 (f + 1:Nat))],[.v (.int .i64 f)]],[]⟩
theorem NP (af:List ByteArray) (tc:List DV) (rows:List Nat) (js:List Int) (e f:Nat):KT af tc rows js e f=ez 5 6 (KU af tc rows js e f):=by
 simp only [ez,renO,NO];rfl
def BndΦ (af:List ByteArray) (tc:List DV) (rows:List Nat) (r:DV) (os:List (List DV)) (_:List TkE):Prop:=
 ∃ RQ,os=[gV af tc rows RQ]/\RQ.length=2048/\r = .v (.int .i64 (oz (bg (mr (aT rows) af.length) af.length))) /\
  (bg (mr (aT rows) af.length) af.length=none->∀ x y,x < af.length->y < af.length->JM (aT rows) af.length RQ x y)
theorem Bt (af:List ByteArray) (tc:List DV) (rows:List Nat) (js:List Int) (hr:dG rows) (hlen:rows.length=af.length) (hn:af.length<=32) (hj:js.length=2048) :
  Ev prog 67 [.loc 0 0] [gV af tc rows js] [] (BndΦ af tc rows):=by
 have hN:=bQ af;refine eG 73 [.tmp 2] func67 rfl ntmps67 rfl fun _ _ _ _=>?_;refine lI (fun j st=>∃ (e:Nat) (js:List Int),st=PX af tc rows js e/\e<=af.length/\js.length=2048/\(∀ b,b < e->mr (aT rows) af.length b=false)/\(∀ x y,x < e->y < e->JM (aT rows) af.length js x y)/\j=af.length - e) ⟨0,js,rfl,by omega,hj,fun _ h=>by omega,fun _ _ h=>by omega,rfl⟩ (wkB 4 nY jX) ?_;rintro j st ⟨e,js,rfl,he,hj,fM,ME,rfl⟩;refine br ?_ ?_<;>intro hL
 ·have ay:e < af.length:=by have:=hL;simp [hN] at this;exact this
  refine KO (fun j st=>∃ (f:Nat) (js:List Int),st=DR af tc rows js e f/\f<=e + 1/\js.length=2048/\(∀ a,a < f->ko (aT rows) af.length a e=false)/\(∀ x y,x < e->y < e->JM (aT rows) af.length js x y)/\(∀ x,x < f->JM (aT rows) af.length js x e/\JM (aT rows) af.length js e x)/\j=e + 1 - f) (e + 1) (DR af tc rows js e 0) (.RI (wkB 6 nY jX)) ⟨0,js,rfl,by omega,hj,fun _ h=>by omega,ME,fun _ h=>by omega,by omega⟩ ?_;clear ME hj;rintro j st ⟨f,js,rfl,hf,hj,X1,ME,hje,rfl⟩;refine br ?_ ?_<;>intro nM
  ·have lT:f<=e:=by have:=nM;simp at this;exact this
   have nV:=xF af (.pt tc 0) (lV rows) js 120 117 UU JL
    [.pt [PV (gV af tc rows js)] 0,.pt [.v (.int .i64 f)] 0,.pt [.v (.int .i64 e)] 0] [.pt [.pt (gV af tc rows js) 0] 0] (fun c=>aT rows f c && aT rows e c) (aT rows) ax ax rfl rfl (by omega)
    (fun c hc=>Hv af (.pt tc 0) rows js hr f e c (by omega) (by omega) (by omega)) (fun a b ha hb=>qI af (.pt tc 0) rows js hr a b (by omega) (by omega))
   have lO:=xF af (.pt tc 0) (lV rows) js 121 118 UW JN
    [.pt [PW (gV af tc rows js)] 0,.pt [.v (.int .i64 f)] 0,.pt [.v (.int .i64 e)] 0] [.pt [.pt (gV af tc rows js) 0] 0] (fun c=>aT rows c f && aT rows c e) (fun x y=>aT rows y x) ax ax rfl rfl (by omega)
    (fun c hc=>Hw af (.pt tc 0) rows js hr f e c (by omega) (by omega) (by omega)) (fun a b ha hb=>qJ af (.pt tc 0) rows js hr a b (by omega) (by omega))
   refine yR Pg nV (by repeat' (first | exact rfl | exact trivial | exact Or.inr (Or.inl ⟨_,rfl⟩) | exact Or.inr ⟨_,rfl⟩ | exact Or.inl ⟨rfl,rfl⟩ | exact Or.inl rfl | refine Or.inr ⟨_,_,rfl,Nat.zero_le _,rfl,?_⟩ | refine ⟨_,_,rfl,?_,?_⟩ | refine ⟨_,rfl,?_⟩ | exact qK _ _ _ _ _ | refine Or.inr (Or.inr (Or.inr ⟨_,_,rfl,?_⟩)) | exact Or.inl rfl | refine Or.inr ?_)) rfl ?_;refine yR Pg lO (by repeat' (first | exact rfl | exact trivial | exact Or.inr (Or.inl ⟨_,rfl⟩) | exact Or.inr ⟨_,rfl⟩ | exact Or.inl ⟨rfl,rfl⟩ | exact Or.inl rfl | refine Or.inr ⟨_,_,rfl,Nat.zero_le _,rfl,?_⟩ | refine ⟨_,_,rfl,?_,?_⟩ | refine ⟨_,rfl,?_⟩ | exact qK _ _ _ _ _ | refine Or.inr (Or.inr (Or.inr ⟨_,_,rfl,?_⟩)) | exact Or.inl rfl | refine Or.inr ?_)) rfl ?_
   have Bu:pickB (decide (oz (er (aT rows) af.length f e) = -1)) true (decide (oz (iq (aT rows) af.length f e) = -1))=ko (aT rows) af.length f e:=by
    unfold ko
    cases er (aT rows) af.length f e with
    | none=>rfl
    | some j=>
     have:decide (oz (some j) = -1)=false:=by simp [oz]
     rw [this]
     cases iq (aT rows) af.length f e with
     | none=>rfl
     | some m=>
      have:decide (oz (some m) = -1)=false:=by simp [oz]
      rw [this];rfl
   refine br ?_ ?_<;>intro g
   ·have g:ko (aT rows) af.length f e=true:=Bu.symm.trans g;have hb:mr (aT rows) af.length e=true:=by grind [mr]
    have Ae:=bZ (p:=mr (aT rows) af.length) ay hb fM;refine ⟨.v (.int .i64 e),[gV af tc rows js],ax,(by repeat' (first | exact rfl | exact trivial | exact Or.inr (Or.inl ⟨_,rfl⟩) | exact Or.inr ⟨_,rfl⟩ | exact Or.inl ⟨rfl,rfl⟩ | exact Or.inl rfl | refine Or.inr ⟨_,_,rfl,Nat.zero_le _,rfl,?_⟩ | refine ⟨_,_,rfl,?_,?_⟩ | refine ⟨_,rfl,?_⟩ | exact qK _ _ _ _ _ | refine Or.inr (Or.inr (Or.inr ⟨_,_,rfl,?_⟩)) | exact Or.inl rfl | refine Or.inr ?_)),js,rfl,hj,?_,fun h=>by rw [Ae] at h;cases h⟩;rw [Ae];rfl
   ·have g:ko (aT rows) af.length f e=false:=Bu.symm.trans g;refine sC [0] (fun _=>false) mo (by decide +kernel) ?_;have dq:=NN af tc rows js;refine ⟨⟨by omega,by omega⟩,?_⟩;refine ⟨⟨by omega,by omega⟩,?_⟩;refine ⟨by rw [dq];omega,?_⟩;refine ⟨⟨by omega,by omega⟩,?_⟩;refine ⟨⟨by omega,by omega⟩,?_⟩;refine ⟨by rw [List.length_set,dq];omega,?_⟩;refine sC [0] (fun _=>false) mo (by decide +kernel) ?_;refine ⟨⟨by omega,by omega⟩,?_⟩;refine ⟨⟨by omega,by omega⟩,?_⟩;refine ⟨by rw [List.length_set,List.length_set,dq];omega,?_⟩;refine ⟨⟨by omega,by omega⟩,?_⟩;refine ⟨⟨by omega,by omega⟩,?_⟩;refine ⟨by rw [List.length_set,List.length_set,List.length_set,dq];omega,?_⟩
    have iy:((((gV af tc rows js).set (0 + 0 + 3 + (f:Int).toNat * 32 + (e:Int).toNat * 1) (DV.v (.int .i64 (oz (er (aT rows) af.length f e))))).set (0 + 0 + 3 + (e:Int).toNat * 32 + (f:Int).toNat * 1) (DV.v (.int .i64 (oz (er (aT rows) af.length f e))))).set (0 + 0 + 1027 + (f:Int).toNat * 32 + (e:Int).toNat * 1) (DV.v (.int .i64 (oz (iq (aT rows) af.length f e))))).set (0 + 0 + 1027 + (e:Int).toNat * 32 + (f:Int).toNat * 1) (DV.v (.int .i64 (oz (iq (aT rows) af.length f e))))=gV af tc rows (wg js f e (oz (er (aT rows) af.length f e)) (oz (iq (aT rows) af.length f e))):=by
     rw [sH (i:=f * 32 + e) (by omega),sH (i:=e * 32 + f) (by omega),sH (i:=1024 + (f * 32 + e)) (by omega),sH (i:=1024 + (e * 32 + f)) (by omega)];rfl
    refine ⟨DR af tc rows (wg js f e (oz (er (aT rows) af.length f e)) (oz (iq (aT rows) af.length f e))) e (f + 1),
     .trans (.RI (s2:=KT af tc rows (wg js f e (oz (er (aT rows) af.length f e)) (oz (iq (aT rows) af.length f e))) e f) (wkB 7 (by repeat' (first | exact rfl | exact aE rfl | exact F5 iy | exact aD (nxt (n:=e + 1) (by omega) (by omega)) | refine ⟨_,_,rfl,?_,?_⟩)) (by repeat' (first | exact trivial | exact aE rfl | exact F5 iy | exact aD (nxt (n:=e + 1) (by omega) (by omega)) | refine ⟨⟨_,rfl,?_⟩,?_⟩))))
      (.trans (.Dg 5 6 (KU af tc rows (wg js f e (oz (er (aT rows) af.length f e)) (oz (iq (aT rows) af.length f e))) e f) _ (NP _ _ _ _ _ _) rfl rfl rfl rfl) (.RI (wkB 6 nY jX))),
     e + 1 - (f + 1),by omega,f + 1,_,rfl,by omega,by rw [KR];exact hj,fun a ha=>?_,fun x y hx hy=>?_,fun x hx=>?_,rfl⟩
    ·grind
    ·grind [F6]
    ·grind [F6]
  ·have lT:f=e + 1:=by have:=nM;simp at this;omega
   subst lT;have hb:mr (aT rows) af.length e=false:=by grind [mr]
   refine ⟨PX af tc rows js (e + 1),(wkB 4 (nz (nxt ay (by omega))) (cQ (nxt ay (by omega)))),af.length - (e + 1),by omega,e + 1,js,rfl,by omega,hj,fun b fv=>?_,fun x y hx hy=>?_,rfl⟩
   ·grind
   ·grind
 ·have hge:e=af.length:=sW hN hL;subst hge;refine ⟨.v (.int .i64 (-1)),[gV af tc rows js],ax,(by repeat' (first | exact rfl | exact trivial | exact Or.inr (Or.inl ⟨_,rfl⟩) | exact Or.inr ⟨_,rfl⟩ | exact Or.inl ⟨rfl,rfl⟩ | exact Or.inl rfl | refine Or.inr ⟨_,_,rfl,Nat.zero_le _,rfl,?_⟩ | refine ⟨_,_,rfl,?_,?_⟩ | refine ⟨_,rfl,?_⟩ | exact qK _ _ _ _ _ | refine Or.inr (Or.inr (Or.inr ⟨_,_,rfl,?_⟩)) | exact Or.inl rfl | refine Or.inr ?_)),js,rfl,hj,?_,fun _=>ME⟩;rw [b9 fM];rfl
def RR (l:List Wd) (k:Nat):Int:=((l[k]?).getD (⟨au,0⟩:Wd)).a
def latF (l:List Wd) (o:List (Wd × Wd)):Ft:=
 if (fh l o).1≠0 then fh l o
 else if (enumL l 0 l).1≠0 then enumL l 0 l
 else if (numF (aA l) o).1≠0 then numF (aA l) o
 else match bg (jP l.length (dY l.length (cM (aA l) o))) l.length with
  | some a=>(11,RR l a)
  | none=>
   match bg (mr (dY l.length (cM (aA l) o)) l.length) l.length with
   | some b=>(12,RR l b)
   | none=>(0,0)
def RS (l:List Wd) (o:List (Wd × Wd)) (d:DV):Prop:=
 ∃ aH js,gw (aA l) aH/\aH.length<=l.length/\js.length=2048/\(∀ x y,x < l.length->y < l.length->JM (dY l.length (cM (aA l) o)) l.length js x y) /\
  d = .pt (gV (aA l) (cw (aA l) aH) (closeR (eE l.length (cM (aA l) o)) l.length) js) 0
def DS (l:List Wd) (o:List (Wd × Wd)) (r:DV) (_:List (List DV)) (_:List TkE):Prop:=
 if (latF l o).1≠0 then r = .tup [.v (.pointer none),(latF l o).d] else ∃ d,RS l o d/\r = .tup [d,(latF l o).d]
theorem na {L:List ByteArray}:∀ {o:List (Wd × Wd)},(numF L o).1=0->qF L.length (cM L o)
 | [],_=>by intro p hp;simp [cM] at hp
 | q :: r,h=>by
  rw [numF] at h;split at h
  ·cases h
  ·rename_i h1;split at h
   ·cases h
   ·rename_i h2;have ih:=na (o:=r) h;intro p hp;simp only [cM,List.map_cons,List.mem_cons] at hp;rcases hp with rfl | hp
    ·obtain ⟨a,ha⟩:=Option.ne_none_iff_exists'.1 h1;obtain ⟨b,hb⟩:=Option.ne_none_iff_exists'.1 h2;simp only [RH,ha,hb,Option.getD_some];exact ⟨(cF ha).1,(cF hb).1⟩
    ·exact ih p hp
theorem cS (l:List Wd):(aA l).length=l.length:=by simp [aA]
theorem uA {all:List Wd}:∀ {l:List Wd} {i:Nat},(enumL all i l).1=0->enumL all i l=(0,0)
 | [],_,_=>rfl
 | x :: r,i,h=>by
  rw [enumL] at h ⊢;split at h
  ·rename_i h1;exact (h1 h).elim
  ·rename_i h1;rw [ai h1];exact uA h
theorem xG {L:List ByteArray}:∀ {o:List (Wd × Wd)},(numF L o).1=0->numF L o=(0,0)
 | [],_=>rfl
 | q :: r,h=>by
  rw [numF] at h ⊢;split at h
  ·cases h
  ·rename_i h1;split at h
   ·cases h
   ·rename_i h2;rw [ai h1,ai h2];exact xG h
theorem jQ {l:List Wd} {k:Nat} {w:Wd} (h:l[k]? = some w):RR l k=w.a:=by simp [RR,h]
theorem RT (n:Nat):vL (List.replicate n (.int .i64 0))=cZ (List.replicate n 0):=by
 induction n with
 | zero=>rfl
 | succ n ih=>simp only [List.replicate_succ,vL,cZ,List.map_cons] at ih ⊢;rw [ih]
theorem mw {l:List Wd} {o:List (Wd × Wd)} {f:Ft} {os:List (List DV)} {tk:List TkE} (h:latF l o=f) (hf:f.1≠0):DS l o (.tup [.v (.pointer none),f.d]) os tk:=by
 unfold DS;rw [h,ap hf]
theorem NQ {l:List Wd} {o:List (Wd × Wd)} {d:DV} {os:List (List DV)} {tk:List TkE} (h:latF l o=(0,0)) (hd:RS l o d):DS l o (.tup [d,Ft.d (0,0)]) os tk:=by grind [DS]
theorem NR (n m:Nat) (af:List ByteArray) (tc:List DV) (rows:List Nat) (js:List Int):clB.clL n m (gV af tc rows js)=true:=by
 have h:∀ l:List Int,clB.clL n m (cZ l)=true:=by
  intro l
  induction l with
  | nil=>rfl
  | cons z r ih=>simp only [cZ,List.map_cons,clB.clL,clB,Bool.true_and] at ih ⊢;exact ih
 simp only [DP,clB.clL,clB,h,lV,Bool.and_self]
theorem Bv (l:List Wd) (o:List (Wd × Wd)) (hs:wdsWt l<=1099511627776) (C0:prsWt o<=1099511627776) :
  Ev prog 25 [.sl 2 (bw l) none,.sl 4 (lU o) none] [] [] (DS l o):=by
 have oP:=bi l;have QY:=gQ o;have iJ:=cS l;have hF:=latF.eq_1 l o;refine eG 86 [.tmp 4,.cell 5 44] func25 rfl ntmps25 rfl fun _ _ _ _=>?_;refine cP ZO (Hs l o) ?_;by_cases hm:(fh l o).1≠0
 ·rw [ap hm] at hF;refine br ?_ ?_<;>intro h
  ·refine dS ?_;exact ⟨_,ax,mw (os:=[]) (tk:=[]) hF hm⟩
  ·exfalso;simp at h;exact hm h
 rw [ai hm] at hF;refine br (fun h=>?_) (fun _=>?_)
 ·exfalso;simp at h;exact hm h
 have Dh:l ≠ []:=by
  rintro rfl;simp [fh] at hm
 have hl32:l.length<=32:=by grind [fh]
 have sc:=Bn l hs;unfold VW at sc;by_cases hE:(enumL l 0 l).1≠0
 ·rw [ai hE] at sc;rw [ap hE] at hF;refine cP Uz sc ?_;refine br ?_ ?_<;>intro h
  ·refine dS ?_;exact ⟨_,ax,mw (os:=[]) (tk:=[]) hF hE⟩
  ·exfalso;simp at h;exact hE h
 rw [ai hE] at hF;have hE:(enumL l 0 l).1=0:=sU hE;rw [ap hE] at sc;rw [uA hE] at sc;refine cP Uz sc ?_;refine cp Rk rfl (tR (aA l) (by omega)) ax (fun r hr=>?_);obtain ⟨aH,hT,kL,rfl⟩:=hr;have wh:=we (aA l) aH hT (by omega) o C0;unfold VX at wh;by_cases hN:(numF (aA l) o).1≠0
 ·rw [ai hN] at wh;rw [ap hN] at hF;refine cP UA wh ?_;refine br ?_ ?_<;>intro h
  ·refine dS ?_;exact ⟨_,ax,mw (os:=[]) (tk:=[]) hF hN⟩
  ·exfalso;simp at h;exact hN h
 rw [ai hN] at hF;have hN:(numF (aA l) o).1=0:=sU hN;rw [ap hN] at wh;rw [xG hN] at wh;have hP:=na hN;rw [iJ] at hP;have hPl:(cM (aA l) o).length=o.length:=by simp [cM]
 generalize hPP:cM (aA l) o=P at wh hF hP hPl;refine cP UA wh ?_;have hLn:(ee (aA l)).length=l.length:=by rw [bQ,iJ]
 have hPb:P.length<=1099511627776:=by omega
 have hro:=ze (n:=l.length) (by omega) P hP;have gn:=jx l.length P;have hr0:eE l.length P ≠ []:=fun h=>Dh (List.eq_nil_of_length_eq_zero (by rw [<- gn,h];rfl));refine cP ZP (Hk l.length (by omega) P hP hPb) ?_ (pZ hLn);have hlo:=DM _ hro hr0;rw [gn,NH (by omega) hP] at hlo
 cases hA:bg (jP l.length (dY l.length P)) l.length with
 | some a=>
  rw [hA] at hlo hF;simp only at hF;have GO:=(cx hA).1;obtain ⟨w,hw⟩:∃ w,l[a]? = some w:=⟨_,gE GO⟩;rw [jQ hw] at hF;refine cP UB hlo ?_;refine dS ?_;refine ⟨jt w,⟨by omega,aR hw⟩,?_⟩;exact ⟨_,ax,mw (os:=[]) (tk:=[]) hF (by simp)⟩
 | none=>
 rw [hA] at hlo hF;simp only at hF;refine cP UB hlo ?_;have j9:=rF _ hro hr0;rw [gn] at j9;have hcok:=kj hro l.length (by omega);have V8:=eF (eE l.length P) l.length;rw [gn] at V8;refine cP UC j9 ?_;have hrep:(List.replicate 2048 (0:Int)).length=2048:=List.length_replicate
 have cT:CcL [] 0 0 0 (gV (aA l) (cw (aA l) aH) (closeR (eE l.length P) l.length) (List.replicate 2048 0)) (.sl 1 (ee (aA l)) none :: .pt (cw (aA l) aH) 0 :: lV (closeR (eE l.length P) l.length) :: vL (List.replicate 2048 (.int .i64 0))):=by
  refine ⟨_,_,rfl,Or.inr (Or.inl ⟨_,rfl⟩),_,_,rfl,Or.inl rfl,_,_,rfl,Or.inl rfl,?_⟩;rw [RT];exact qK _ _ _ _ _
 have hbn:=Bt (aA l) (cw (aA l) aH) _ (List.replicate 2048 0) hcok (by omega) (by omega) hrep;refine k0 ZQ rfl rfl cT ax hbn (fun r os tk h=>?_) (fun r qz h=>?_)
 ·obtain ⟨RQ,rfl,_,rfl,_⟩:=h;refine ⟨rfl,fun qz h=>?_⟩;rw [List.mem_singleton.1 h];exact NR _ _ _ _ _ _
 obtain ⟨RQ,h1,hj2,hr,ME⟩:=h;simp only [List.cons.injEq,and_true] at h1;subst h1
 have hB:bg (mr (aT (closeR (eE l.length P) l.length)) (aA l).length) (aA l).length=bg (mr (dY l.length P) l.length) l.length:=by
  rw [iJ];rfl
 rw [hB] at hr ME
 cases hb:bg (mr (dY l.length P) l.length) l.length with
 | some b=>
  rw [hb] at hr hF;subst hr;simp only at hF;have hbl:=(cx hb).1;obtain ⟨w,hw⟩:∃ w,l[b]? = some w:=⟨_,gE hbl⟩;rw [jQ hw] at hF;refine dS ?_;refine ⟨jt w,⟨by simp only [oz];omega,aR hw⟩,?_⟩;exact ⟨_,ax,mw (os:=[]) (tk:=[]) hF (by simp)⟩
 | none=>
  rw [hb] at hr hF;subst hr;simp only at hF;refine ⟨.tup [.pt (gV (aA l) (cw (aA l) aH) (closeR (eE l.length P) l.length) RQ) 0,Ft.d (0,0)],(by repeat' (first | exact rfl | exact trivial | exact Or.inr (Or.inl ⟨_,rfl⟩) | exact Or.inr ⟨_,rfl⟩ | exact Or.inl ⟨rfl,rfl⟩ | exact Or.inl rfl | refine Or.inr ⟨_,_,rfl,Nat.zero_le _,rfl,?_⟩ | refine ⟨_,_,rfl,?_,?_⟩ | refine ⟨_,rfl,?_⟩ | exact qK _ _ _ _ _ | refine Or.inr (Or.inr (Or.inr ⟨_,_,rfl,?_⟩)) | exact Or.inl rfl | refine Or.inr ?_)),NQ (os:=[]) (tk:=[]) hF ⟨aH,RQ,hT,by omega,hj2,?_,by rw [hPP]⟩⟩;rw [hPP];rw [iJ] at ME;exact ME hb
section
variable (af:List ByteArray) (tc:List DV) (rows:List Nat) (js:List Int)
theorem qL:EvP prog 17 [.pt (gV af tc rows js) 0] (.v (.int .i64 af.length)):=by
 refine eG 10 [.tmp 2] func17 rfl ntmps17 rfl fun _ _ _ _=>?_;refine (yM ?_:);rw [bQ]
theorem xH (i:Int):EvP prog 53 [.pt (gV af tc rows js) 0,.v (.int .i64 i)] (.v (.bool (decide (0<=i) && decide (i < af.length)))):=by
 refine eG 13 [.tmp 4] func53 rfl ntmps53 rfl fun _ _ _ _=>?_;refine br ?_ ?_<;>intro g
 ·have g:decide (0<=i)=true:=sU g;refine cP Dj (qL af tc rows js) ?_;refine (bA ?_:);simp [g,pickB]
 ·have g:decide (0<=i)=false:=sU g;refine (bA ?_:);simp [g,pickB]
theorem pk {a:Nat} (h:a < af.length):EvP prog 53 [.pt (gV af tc rows js) 0,.v (.int .i64 a)] (.v (.bool true)):=by
 have:=xH af tc rows js a;have e:(decide (0<=(a:Int)) && decide ((a:Int) < af.length))=true:=by simp [h]
 rw [e] at this;exact this
end
theorem DT (af:List ByteArray) (aH rows:List Nat) (js:List Int) (s:ByteArray) (hT:gw af aH) (hl:aH.length<=1099511627776) :
  EvP prog 126 [.pt (gV af (cw af aH) rows js) 0,.v (.string s)] (KF (cy af s)):=by
 have h:=gU af aH s hT hl;refine eG 16 [.tmp 4,.tmp 5] func126 rfl ntmps126 rfl fun _ _ _ _=>?_
 cases hx:cy af s with
 | none=>
  rw [hx] at h;refine cP tJ h ?_;exact ⟨_,ax,rfl⟩
 | some k=>
  rw [hx] at h;refine cP tJ h ?_;exact ⟨_,ax,rfl⟩
theorem Bw {l:List DV} {k b:Nat} {x:DV} (hb:b < 32) (h:l[k + b]? = some x):(((l.drop k).take 32).drop b).take 1=[x]:=by
 have h1:((l.drop k).take 32)[b]? = some x:=by grind
 rw [List.drop_eq_getElem_cons (gS h1).1]
 grind
section
variable (af:List ByteArray) (tc:List DV) (rows:List Nat) (js:List Int)
theorem uB (a b:Nat) (z:Int) (ha:a < af.length) (hb:b < af.length) (hn:af.length<=32) (hz:js[a * 32 + b]? = some z) :
  EvP prog 52 [.pt (gV af tc rows js) 0,.v (.int .i64 a),.v (.int .i64 b)] (.v (.int .i64 z)):=by
 refine eG 25 [.tmp 6] func52 rfl ntmps52 rfl fun _ _ _ _=>?_;refine cP G4 (pk af tc rows js ha) ?_;refine cP G4 (pk af tc rows js hb) ?_;refine ⟨_,⟨⟨by omega,by omega⟩,rfl⟩,?_⟩;refine ⟨_,⟨⟨by omega,by omega⟩,Bw (x:=.v (.int .i64 z)) (by omega) ?_⟩,?_⟩
 ·grind [DP,cZ]
 exact (rfl:_=_)
theorem DU (a b:Nat) (z:Int) (ha:a < af.length) (hb:b < af.length) (hn:af.length<=32) (hz:js[1024 + (a * 32 + b)]? = some z) :
  EvP prog 104 [.pt (gV af tc rows js) 0,.v (.int .i64 a),.v (.int .i64 b)] (.v (.int .i64 z)):=by
 refine eG 25 [.tmp 6] func104 rfl ntmps104 rfl fun _ _ _ _=>?_;refine cP G4 (pk af tc rows js ha) ?_;refine cP G4 (pk af tc rows js hb) ?_;refine ⟨_,⟨⟨by omega,by omega⟩,rfl⟩,?_⟩;refine ⟨_,⟨⟨by omega,by omega⟩,Bw (x:=.v (.int .i64 z)) (by omega) ?_⟩,?_⟩
 ·grind [DP,cZ]
 exact (rfl:_=_)
end
theorem qM {j4:Nat->Bool} {pb:Nat->Nat->Bool}:∀ {e k:Nat},bestA j4 pb e=some k->j4 k=true
 | 0,k,h=>by cases h
 | e + 1,k,h=>by
  rw [bestA] at h;split at h
  ·grind
  ·exact qM h
theorem uC {j4:Nat->Bool} {pb:Nat->Nat->Bool} {n k:Nat} (h:mn j4 pb n=some k):k < n/\j4 k=true/\∀ c,c < n->j4 c=true->pb k c=true:=by grind [mn,mq,qM]
structure dH (f:Nat->Nat->Bool) (n:Nat):Prop where
 pos:0 < n
 rfl':∀ a,a < n->f a a=true
 tr:∀ a b c,a < n->b < n->c < n->f a b=true->f b c=true->f a c=true
 Hy:∀ a b,a < n->b < n->f a b=true->f b a=true->a=b
 jn:∀ a b,a < n->b < n->∃ k,er f n a b=some k
 mt:∀ a b,a < n->b < n->∃ k,iq f n a b=some k
theorem lu {f:Nat->Nat->Bool} {n a b k:Nat} (h:er f n a b=some k):k < n/\f a k=true/\f b k=true/\∀ c,c < n->f a c=true->f b c=true->f k c=true:=by
 obtain ⟨h1,h2,h3⟩:=uC h
 grind
theorem oi {f:Nat->Nat->Bool} {n a b k:Nat} (h:iq f n a b=some k):k < n/\f k a=true/\f k b=true/\∀ c,c < n->f c a=true->f c b=true->f c k=true:=by
 obtain ⟨h1,h2,h3⟩:=uC h
 grind
def gz (f:Nat->Nat->Bool) (l:List Nat) (c:Nat):Bool:=l.all fun i=>f i c
def Bz (f:Nat->Nat->Bool) (n:Nat) (l:List Nat) (c:Nat):Bool:=gz f l c && (List.range n).all fun d=>!gz f l d || f c d
def eX (f:Nat->Nat->Bool) (n:Nat) (l:List Nat):Option Nat:=bg (Bz f n l) n
theorem my {f:Nat->Nat->Bool} {n:Nat} {l:List Nat} {c:Nat}:Bz f n l c=true↔gz f l c=true/\∀ d,d < n->gz f l d=true->f c d=true:=by grind [Bz,gz]
theorem xI {f:Nat->Nat->Bool} {n:Nat} (hL:dH f n) {l:List Nat} {c:Nat} (hc:c < n) (h:Bz f n l c=true):eX f n l=some c:=by
 refine bZ hc h fun a ha=>?_;cases h2:Bz f n l a
 ·rfl
 ·obtain ⟨h3,h4⟩:=my.1 h;obtain ⟨h5,h6⟩:=my.1 h2;have:=hL.Hy a c (by omega) hc (h6 c hc h3) (h4 a (by omega) h5);omega
theorem om {f:Nat->Nat->Bool} {n c:Nat} (hL:dH f n) (hc:c < n) (h:∀ d,d < n->f c d=true):eX f n []=some c:=
 xI hL hc (my.2 ⟨rfl,fun d hd _=>h d hd⟩)
theorem rI {f:Nat->Nat->Bool} {n c k i:Nat} {l:List Nat} (hL:dH f n) (hl:∀ x∈l,x < n) (hi:i < n) (h:eX f n l=some c) (hk:er f n c i=some k):eX f n (l ++ [i])=some k:=by
 obtain ⟨h1,h2,_⟩:=cx h;obtain ⟨h3,h4⟩:=my.1 h2;obtain ⟨g1,g2,g3,g4⟩:=lu hk;simp only [gz,List.all_eq_true] at h3;refine xI hL g1 (my.2 ⟨?_,fun d hd ho=>?_⟩)
 ·simp only [gz,List.all_eq_true,List.mem_append,List.mem_singleton];rintro x (hx | rfl)
  ·exact hL.tr x c k (hl x hx) h1 g1 (h3 x hx) g2
  ·exact g3
 ·grind [gz]
theorem nb {f:Nat->Nat->Bool} {n c:Nat} {l:List Nat} (h:eX f n l=some c):c < n:=(cx h).1
abbrev PY (L:List DV) (n b e:Nat):St:=
 ⟨[nA 0 L,aw 3 b,aw 9 n,aw 10 e],[],[]⟩
theorem po (af:List ByteArray) (tc:List DV) (rows:List Nat) (js:List Int) {f:Nat->Nat->Bool} (hL:dH f af.length) (hn:af.length<=32) (hj:∀ x y,x < af.length->y < af.length->JM f af.length js x y) :
  EvP prog 51 [.pt (gV af tc rows js) 0] (.v (.int .i64 (oz (eX f af.length [])))):=by
 have hlen:=qL af tc rows js;have nU:=hL.pos;refine eG 19 [.tmp 2] func51 rfl ntmps51 rfl fun _ _ _ _=>?_;refine cP Dj hlen ?_;refine br ?_ ?_<;>intro g
 ·exfalso;simp at g;simp [g] at nU
 refine cP Dj hlen ?_;refine lI (fun j st=>∃ e b:Nat,st=PY (gV af tc rows js) af.length b e/\e<=af.length/\b < af.length/\(∀ x,x < e->f b x=true)/\j=af.length - e) ⟨0,0,rfl,by omega,by omega,fun _ h=>by omega,rfl⟩ (bl wB) ?_;rintro j st ⟨e,b,rfl,he,hb,eM,rfl⟩;refine br ?_ ?_<;>intro Tk
 ·have ay:e < af.length:=by have:=Tk;simp at this;exact this
  obtain ⟨k,hk⟩:=hL.mt b e hb ay;obtain ⟨g1,g2,g3,g4⟩:=oi hk;have hz:=(hj b e hb ay).2;rw [hk] at hz;refine cP UK (DU af tc rows js b e k hb ay hn hz) ?_;refine ⟨PY (gV af tc rows js) af.length k (e + 1),(bl (cQ (nxt ay (by omega)))),af.length - (e + 1),by omega,e + 1,k,rfl,by omega,g1,fun x hx=>?_,rfl⟩;rcases jU hx with hx | rfl
  ·exact hL.tr k b x g1 hb (by omega) g2 (eM x hx)
  ·exact g3
 ·have hge:e=af.length:=by have:=Tk;simp at this;omega
  subst hge;rw [om hL hb eM];exact (rfl:_=_)
def labW (L:List ByteArray):List Wd->Ft
 | []=>(0,0)
 | w :: r=>if cy L w.s=none then (17,w.a) else labW L r
def lx (L:List ByteArray) (l:List Wd):List Nat:=l.map fun w=>(cy L w.s).getD 0
def zm (f:Nat->Nat->Bool) (L:List ByteArray) (l:List Wd):Int:=if (labW L l).1=0 then oz (eX f L.length (lx L l)) else 0
def Hz (f:Nat->Nat->Bool) (L:List ByteArray) (l:List Wd):DV:=.tup [.v (.int .i64 (zm f L l)),(labW L l).d]
theorem qN {L:List ByteArray} {l:List Wd} {e:Nat} {w:Wd} (h:l[e]? = some w):labW L (l.drop e)=if cy L w.s=none then (17,w.a) else labW L (l.drop (e + 1)):=by
 rw [drop_cons h,labW]
theorem qO {L:List ByteArray} {l:List Wd} {e i:Nat} {w:Wd} (h:l[e]? = some w) (hi:cy L w.s=some i):lx L (l.take (e + 1))=lx L (l.take e) ++ [i]:=by
 rw [List.take_add_one,h];simp [lx,hi]
abbrev PZ (L:List DV) (l:List Wd) (b e:Nat):St:=
 ⟨[nA 0 L,aF 5 0,aw 6 b,bc 16 2 (bw l),aw 17 ((bw l).length),aw 18 e],[[.v (.int .i64 0),.v (.int .i64 0)]],[]⟩
theorem KV (af:List ByteArray) (aH rows:List Nat) (js:List Int) (hT:gw af aH) (kL:aH.length<=1099511627776) {f:Nat->Nat->Bool} (hL:dH f af.length) (hn:af.length<=32) (hj:∀ x y,x < af.length->y < af.length->JM f af.length js x y)
  (l:List Wd) (hs:wdsWt l<=1099511627776) :
  EvP prog 73 [.pt (gV af (cw af aH) rows js) 0,.sl 2 (bw l) none] (Hz f af l):=by
 have oP:=bi l;have uD:=po af (cw af aH) rows js hL hn hj
 have pY:∃ b,eX f af.length []=some b:=by
  have:∀ e,e<=af.length->∃ b,b < af.length/\∀ x,x < e->f b x=true:=by
   intro e
   induction e with
   | zero=>intro _;exact ⟨0,hL.pos,fun _ h=>by omega⟩
   | succ e ih=>
    intro he;obtain ⟨b,hb,eM⟩:=ih (by omega);obtain ⟨k,hk⟩:=hL.mt b e hb (by omega);obtain ⟨g1,g2,g3,_⟩:=oi hk;refine ⟨k,g1,fun x hx=>?_⟩;rcases jU hx with hx | rfl
    ·exact hL.tr k b x g1 hb (by omega) g2 (eM x hx)
    ·exact g3
  obtain ⟨b,hb,eM⟩:=this af.length (aU _);exact ⟨b,om hL hb eM⟩
 obtain ⟨b0,iy⟩:=pY;rw [iy] at uD;refine eG 41 [.tmp 4,.cell 5 44] func73 rfl ntmps73 rfl fun _ _ _ _=>?_;refine cP Ns uD ?_;refine lI (fun j st=>∃ e b:Nat,st=PZ (gV af (cw af aH) rows js) l b e/\e<=l.length/\labW af l=labW af (l.drop e)/\eX f af.length (lx af (l.take e))=some b/\(∀ x∈lx af (l.take e),x < af.length)/\j=l.length - e) ⟨0,b0,rfl,by omega,rfl,iy,by simp [lx],rfl⟩ (bl wB) ?_;rintro j st ⟨e,b,rfl,he,aP,Ny,MD,rfl⟩;have hb:=nb Ny;refine br ?_ ?_<;>intro HA
 ·have ay:e < l.length:=by simpa [az] using HA
  obtain ⟨w,hw⟩:=gX ay;have bh:=qN (L:=af) hw;have zl:=DT af aH rows js w.s hT kL;refine ⟨jt w,⟨by omega,aR hw⟩,?_⟩
  cases hx:cy af w.s with
  | none=>
   rw [hx] at zl;refine cP Pl zl ?_;rw [ap hx] at bh;have h1:labW af l=(17,w.a):=aP.trans bh;refine dS ?_;refine ⟨_,?_,rfl⟩;rw [Hz,zm,h1,ai (by simp)];exact ax
  | some i=>
   rw [hx] at zl;refine cP Pl zl ?_;rw [ai (by rw [hx];simp)] at bh;have hi:=(cF hx).1;obtain ⟨k,hk⟩:=hL.jn b i hb hi;have hz:=(hj b i hb hi).1;rw [hk] at hz;refine cP JF (uB af (cw af aH) rows js b i k hb hi hn hz) ?_;refine ⟨PZ (gV af (cw af aH) rows js) l k (e + 1),(bl (cQ (nxt ay (by omega)))),l.length - (e + 1),by omega,e + 1,k,rfl,by omega,aP.trans bh,?_,?_,rfl⟩
   ·rw [qO hw hx];exact rI hL MD hi Ny hk
   ·rw [qO hw hx];intro x hm;rcases List.mem_append.1 hm with hm | hm
    ·exact MD x hm
    ·rw [List.mem_singleton.1 hm];exact hi
 ·have hge:e=l.length:=by
   have:=HA;simp [az] at this;omega
  subst hge;rw [List.drop_length] at aP;rw [List.take_length] at Ny;have h1:labW af l=(0,0):=aP;refine ⟨_,?_,rfl⟩;rw [Hz,zm,h1,ap rfl,Ny];exact ax
def DW (x:Ft × Int) (r:DV) (os:List (List DV)) (_:List TkE):Prop:=
 r=x.1.d/\∃ z:Int,os=[[.v (.int .i64 z)]]/\(x.1.1=0->z=x.2)
theorem ly {x:Ft × Int}:∀ r os tk,DW x r os tk->clB 0 0 r=true/\∀ qz∈os,clB.clL 0 0 qz=true:=by
 rintro r os tk ⟨rfl,z,rfl,_⟩;refine ⟨rfl,fun qz h=>?_⟩;simp only [List.mem_singleton] at h;subst h;rfl
def KW (k:Nat):Prop:=∀ (t:Ty) (depth m:Int),t.wt<=k->t.wt<=1099511627776->0<=depth->depth<=25->0<=m->m<=512 ->
 Ev prog 123 [.loc 0 0,.agg (dB t),.v (.int .i64 depth)] [[.v (.int .i64 m)]] [] (DW (wrong t depth m))
def kp (p:Ph) (t:Ty) (un:Bool) (depth m:Int):Ft × Int:=
 if p.bare=true then (if un=false∨cE p t (oe p) cd=false then ((19,p.name.a),m) else ((0,0),m))
 else if (dr p).1≠0 then (dr p,m)
 else wrong t (depth + 1) m
theorem bn {x:Ft × Int} {f:Ft} {m z:Int} (h:x=(f,m)) (hz:f.1=0->z=m) {tk:List TkE}:DW x f.d [[.v (.int .i64 z)]] tk:=by
 subst h;exact ⟨rfl,z,rfl,hz⟩
theorem DX (k:Nat) (ih:KW k) (p:Ph) (t:Ty) (un:Bool) (depth m:Int) (hk:t.wt<=k) (hp:p.wt<=1099511627776) (bO:t.wt<=1099511627776) (xc:0<=depth) (CN:depth<=24) (nq:0<=m) (iI:m<=512) :
  Ev prog 230 [.loc 0 0,.agg (Dk p (dB t)),.v (.bool un),.v (.int .i64 depth)] [[.v (.int .i64 m)]] [] (DW (kp p t un depth m)):=by
 have vZ:=hp;simp only [Ph.wt] at vZ;have Aw:=mh p (oe p) t cd hp (by simp only [Ph.wt,oe,wdsWt];omega) (tX t cd bO (by decide));have CL:=ih t (depth + 1) m hk bO (by omega) (by omega) nq iI;obtain ⟨u,us⟩:=t;have hcoa:=y9 p (dB (.mk u us)) (.mk u us) rfl hp;have hS:=kp.eq_def p (.mk u us) un depth m;generalize kp p (.mk u us) un depth m=F at hS ⊢;obtain ⟨nm,bare,lab,wide,ck,cn,ca,cl⟩:=p;simp only at hS vZ Aw
 cases bare with
 | true=>
  rw [ap rfl] at hS
  cases un with
  | true=>
   refine eG 68 [.cell 8 44] func230 rfl ntmps230 rfl fun _ _ _ _=>?_;refine cP JX Aw ?_;refine br ?_ ?_<;>intro q
   ·have q:cE ⟨nm,true,lab,wide,ck,cn,ca,cl⟩ (.mk u us) (oe ⟨nm,true,lab,wide,ck,cn,ca,cl⟩) cd=false:=by simpa [show (lastG (21,false) [(18,true)]).snd=true from rfl,pickB] using q
    rw [ap (.inr q)] at hS;refine cP dD (bp 19 nm.a) ?_;exact ⟨_,_,ax,ax,bn (tk:=[]) (f:=(19,nm.a)) hS (fun _=>rfl)⟩
   ·have q:cE ⟨nm,true,lab,wide,ck,cn,ca,cl⟩ (.mk u us) (oe ⟨nm,true,lab,wide,ck,cn,ca,cl⟩) cd=true:=by simpa [show (lastG (21,false) [(18,true)]).snd=true from rfl,pickB] using q
    rw [ai (by simp [q])] at hS;exact ⟨_,_,ax,ax,bn (tk:=[]) (f:=(0,0)) hS (fun _=>rfl)⟩
  | false=>
   refine eG 68 [.cell 8 44] func230 rfl ntmps230 rfl fun _ _ _ _=>?_;rw [ap (.inl rfl)] at hS;refine cP dD (bp 19 nm.a) ?_;exact ⟨_,_,ax,ax,bn (tk:=[]) (f:=(19,nm.a)) hS (fun _=>rfl)⟩
 | false=>
  rw [ai (by simp)] at hS;refine eG 68 [.cell 8 44] func230 rfl ntmps230 rfl fun _ _ _ _=>?_;refine br ?_ ?_<;>intro hw
  ·have hw:wide < 0∨64 < wide:=by simpa [aq] using hw
   have hP:dr ⟨nm,false,lab,wide,ck,cn,ca,cl⟩=(20,nm.a):=by simp only [dr,ap hw]
   rw [hP,ap (by simp)] at hS;refine cP dD (bp 20 nm.a) ?_;exact ⟨_,_,ax,ax,bn (tk:=[]) (f:=(20,nm.a)) hS (fun _=>rfl)⟩
  have hw:¬ (wide < 0∨64 < wide):=by simp [aq] at hw;omega
  refine cP AV (ik lab (by omega)) ?_;refine br ?_ ?_<;>intro hb
  ·have hb:(bF lab).1≠0:=sU hb;have hP:dr ⟨nm,false,lab,wide,ck,cn,ca,cl⟩=bF lab:=by simp only [dr,ai hw,ap hb]
   rw [hP,ap hb] at hS;exact ⟨_,_,ax,ax,bn (tk:=[]) (f:=bF lab) hS (fun _=>rfl)⟩
  have hb:(bF lab).1=0:=sU hb;have hP:dr ⟨nm,false,lab,wide,ck,cn,ca,cl⟩=aV ⟨nm,false,lab,wide,ck,cn,ca,cl⟩:=by simp only [dr,ai hw];rw [ai (by simp [hb])]
  rw [hP] at hS;refine cP Vu hcoa ?_;refine br ?_ ?_<;>intro hc
  ·have hc:(aV ⟨nm,false,lab,wide,ck,cn,ca,cl⟩).1≠0:=sU hc;rw [ap hc] at hS;exact ⟨_,_,ax,ax,bn (tk:=[]) (f:=aV ⟨nm,false,lab,wide,ck,cn,ca,cl⟩) hS (fun _=>rfl)⟩
  have hc:(aV ⟨nm,false,lab,wide,ck,cn,ca,cl⟩).1=0:=sU hc;rw [ai (by simp [hc])] at hS;refine k0 JP rfl rfl ax (by repeat' (first | exact rfl | exact trivial | exact Or.inr (Or.inl ⟨_,rfl⟩) | exact Or.inr ⟨_,rfl⟩ | exact Or.inl ⟨rfl,rfl⟩ | exact Or.inl rfl | refine Or.inr ⟨_,_,rfl,Nat.zero_le _,rfl,?_⟩ | refine ⟨_,_,rfl,?_,?_⟩ | refine ⟨_,rfl,?_⟩ | exact congrArg (fun z=>DV.v (.int .i64 z)) (wrap64 (by omega) (by omega)) | refine Or.inr (Or.inr (Or.inr ⟨_,_,rfl,?_⟩)) | exact Or.inl rfl | refine Or.inr ?_)) CL ly (fun r qz hr=>?_);obtain ⟨rfl,z,hz,AA⟩:=hr;simp only [List.cons.injEq,and_true] at hz;subst hz;exact ⟨_,_,ax,ax,bn (tk:=[]) (f:=(wrong (.mk u us) (depth + 1) m).1) hS AA⟩
theorem wi {ag:Int} {all:List Wd} {i:Nat} {p:Ph} {t:Ty} {r:Pts} {depth m:Int} (hk:ag=7∨ag=8) (hl:aG all i p.name=0) :
  wrongPts ag all i (.cons p t r) depth m=if (kp p t (decide (ag=8)) depth m).1.1≠0 then kp p t (decide (ag=8)) depth m else wrongPts ag all (i + 1) r depth (kp p t (decide (ag=8)) depth m).2:=by
 simp only [wrongPts];rw [ai (by simp [hl])];unfold kp;by_cases hb:p.bare=true
 ·grind [NL,sameTy,cd,bW,iD]
 ·grind
theorem KX {p:Ph} {t:Ty} {un:Bool} {depth m:Int} (nq:0<=m) (iI:m<=512) (h:(kp p t un depth m).1.1=0):(kp p t un depth m).1=(0,0)/\0<=(kp p t un depth m).2/\(kp p t un depth m).2<=512:=by grind [o7,kp,dr]
abbrev BA (h:Hd) (ps:Pts) (n e:Nat) (depth m:Int):St:=
 ⟨[aF 0 0,aw 2 depth,aF 4 1,aF 6 2,bc 38 18 (eW ps),aw 39 ((eW ps).length),aw 40 e,(7,⟨[],.sl 1 (ee (aA ((pNames ps).take e))) (some 0)⟩)],
  [[.v (.int .i64 m)],dB (.mk h ps),[.v (.int .i64 0),.v (.int .i64 0)]],[⟨n,9,1,none⟩]⟩
theorem rJ (k:Nat) (ih:KW k) (h:Hd) (ps:Pts) (depth m:Int) (MF:h.ag=7∨h.ag=8) (hk:ps.wt<=k) (bO:(Ty.mk h ps).wt<=1099511627776) (xc:0<=depth) (CN:depth<=24) (nq:0<=m) (iI:m<=512) :
  Ev prog 178 [.loc 0 0,.agg (dB (.mk h ps)),.v (.int .i64 depth)] [[.v (.int .i64 m)]] [] (DW (ei h ps depth m)):=by
 simp only [Ty.wt,Hd.wt] at bO;have ke:=ps.eV;have iJ:=fF ps;have Rx:=qB ps;have hS:=ei.eq_def h ps depth m;generalize ei h ps depth m=F at hS ⊢;refine eG 72 [.cell 6 44] func178 rfl ntmps178 rfl fun _ _ _ _=>?_;refine br ?_ ?_<;>intro c1
 ·have c1:h.ag=8/\ps.len=0:=by grind [ah,aJ]
  rw [ap c1] at hS;refine cP dD (bp 15 h.aK) ?_;exact ⟨_,_,ax,ax,bn (tk:=[]) (f:=(15,h.aK)) hS (fun _=>rfl)⟩
 have c1:¬ (h.ag=8/\ps.len=0):=by
  simp [ah,aJ] at c1;omega
 rw [ai c1] at hS;refine br ?_ ?_<;>intro c2
 ·have ay:64 < ps.len:=by simp [aJ] at c2;omega
  obtain ⟨p,t,hx⟩:=Pts.dO ay;refine iX (bI hx) ?_;refine cP dD (bp 8 p.name.a) ?_;rw [ap ay,fG hx] at hS;exact ⟨_,_,ax,ax,bn (tk:=[]) (f:=(8,p.name.a)) hS (fun _=>rfl)⟩
 have c2:¬ 64 < ps.len:=by simp [aJ] at c2;omega
 rw [ai c2] at hS
 refine aY (fun j st=>∃ (e:Nat) (m':Int),st=BA h ps e e depth m' /\ e<=ps.len/\0<=m' /\ m' <= 512/\(aA ((pNames ps).take e)).Nodup /\
   F=wrongPts h.ag (pNames ps) e (ps.drop e) depth m' /\ j=ps.len - e) ps.len (BA h ps 0 0 depth m) (ff ⟨0,9,1,none⟩ rfl ⟨_,rfl⟩ rfl wA rfl rfl jX) ⟨0,m,rfl,by omega,nq,iI,by simp [aA],hS,by omega⟩ ?_
 rintro j st ⟨e,m',rfl,he,sf,A9,hnd,aP,rfl⟩;refine br ?_ ?_<;>intro hL
 ·have ay:e < ps.len:=by simpa [aJ] using hL
  obtain ⟨p,t,hx⟩:=Pts.dO ay;have A5:=Pts.fD (mG hx);have DY:=fG hx;have hpw:p.name.s.size + 64<=p.wt:=by simp only [Ph.wt,Wd.wt];omega
  rw [Pts.drop_cons hx] at aP;have Kh:(aA ((pNames ps).take (e + 1)))[(aA ((pNames ps).take (e + 1))).length - 1]? = some p.name.s:=by grind [aA,pNames]
  have QH:=rC (aA ((pNames ps).take (e + 1))) p.name.s p.name.a Kh (by simp [aA];omega) (by omega);have gO:=iY DY;rw [xC p.name.a DY hnd,<- gO] at QH;have BB:=DX k ih p t (decide (h.ag=8)) depth m' (by omega) (by omega) (by omega) xc CN sf A9;obtain ⟨u,us⟩:=t;refine iX (bI hx) ?_;refine ⟨by simp [bQ,aA];omega,⟨by simp [bQ,aA,maxLen];omega,by simp [bQ,aA];omega⟩,?_⟩;refine cP PB QH ?_;by_cases hl:aG (pNames ps) e p.name≠0
  ·rw [ap hl];refine br ?_ ?_<;>intro hf
   ·simp only [wrongPts] at aP;rw [ap hl] at aP;exact ⟨_,_,ax,ax,bn (tk:=[]) (f:=(aG (pNames ps) e p.name,p.name.a)) aP (fun _=>rfl)⟩
   ·exact absurd (sU hf) hl
  have hl:aG (pNames ps) e p.name=0:=sU hl;have hndn:=lr DY hnd hl;rw [ai (by simp [hl])];rw [wi MF hl] at aP;have bL:=KX (p:=p) (t:=.mk u us) (un:=decide (h.ag=8)) (depth:=depth) sf A9;generalize kp p (.mk u us) (decide (h.ag=8)) depth m'=r at BB aP bL;obtain ⟨⟨fe,fa⟩,many⟩:=r;simp only at aP bL;refine k0 Vo rfl rfl ax ax BB ly (fun r qz hr=>?_);obtain ⟨rfl,z,hz,AA⟩:=hr;simp only [List.cons.injEq,and_true] at hz;subst hz;refine br ?_ ?_<;>intro hd
  ·have hd:fe≠0:=sU hd;rw [ap hd] at aP;exact ⟨_,_,ax,ax,bn (tk:=[]) (f:=(fe,fa)) aP (fun h0=>absurd h0 hd)⟩
  ·have hd:fe=0:=sU hd;subst hd;obtain ⟨_,h2,h3⟩:=bL rfl;rw [ai (by simp)] at aP;have hz2:z=many:=AA rfl;subst hz2;exact rE ⟨_,by omega,e + 1,z,rfl,by omega,h2,h3,hndn,aP,rfl⟩ (bl (wB2 (nxt ay (by omega)) gO))
 ·have hge:e=ps.len:=by simp [aJ] at hL;omega
  rw [hge,Pts.cH] at aP;simp only [wrongPts] at aP;exact ⟨_,_,ax,ax,bn (tk:=[]) (f:=(0,0)) aP (fun _=>rfl)⟩
theorem xJ (k:Nat) (ih:KW k) (h:Hd) (ps:Pts) (depth m:Int) (hk:ps.wt<=k) (bO:(Ty.mk h ps).wt<=1099511627776) (xc:0<=depth) (CN:depth<=24) (nq:0<=m) (iI:m<=512) :
  Ev prog 177 [.loc 0 0,.agg (dB (.mk h ps)),.v (.int .i64 depth)] [[.v (.int .i64 m)]] [] (DW (wrongOne h ps depth m)):=by
 simp only [Ty.wt,Hd.wt] at bO
 cases ps with
 | nil=>
  have hS:wrongOne h .nil depth m=((19,h.aK),m):=by simp only [wrongOne]
  generalize wrongOne h .nil depth m=F at hS ⊢;refine eG 44 [.cell 6 44] func177 rfl ntmps177 rfl fun _ _ _ _=>?_;refine cP dD (bp 19 h.aK) ?_;exact ⟨_,_,ax,ax,bn (tk:=[]) (f:=(19,h.aK)) hS (fun _=>rfl)⟩
 | cons p t r=>
  cases r with
  | cons p2 t2 r2=>
   have hS:wrongOne h (.cons p t (.cons p2 t2 r2)) depth m=((19,h.aK),m):=by simp only [wrongOne]
   generalize wrongOne h (.cons p t (.cons p2 t2 r2)) depth m=F at hS ⊢;refine eG 44 [.cell 6 44] func177 rfl ntmps177 rfl fun _ _ _ _=>?_;refine cP dD (bp 19 h.aK) ?_;exact ⟨_,_,ax,ax,bn (tk:=[]) (f:=(19,h.aK)) hS (fun _=>rfl)⟩
  | nil=>
   simp only [Pts.wt] at bO hk;have hS:wrongOne h (.cons p t .nil) depth m=if p.name.s≠au∨bW p eB=false then ((19,h.aK),m) else if h.most < 0∨1024 < h.most then ((20,h.aK),m) else wrong t (depth + 1) m:=by simp only [wrongOne]
   generalize wrongOne h (.cons p t .nil) depth m=F at hS ⊢;have Q6:=Bc p t (by omega);rw [empty_eq] at Q6;have CL:=ih t (depth + 1) m (by omega) (by omega) (by omega) (by omega) nq iI;obtain ⟨u,us⟩:=t;refine eG 44 [.cell 6 44] func177 rfl ntmps177 rfl fun _ _ _ _=>?_;refine ⟨_,⟨by omega,rfl⟩,?_⟩;refine cP Vn Q6 ?_;refine br ?_ ?_<;>intro q
   ·have q:p.name.s≠au∨bW p eB=false:=by
     have:=q;simp [pickB] at this;exact this
    rw [ap q] at hS;refine cP dD (bp 19 h.aK) ?_;exact ⟨_,_,ax,ax,bn (tk:=[]) (f:=(19,h.aK)) hS (fun _=>rfl)⟩
   have q:¬ (p.name.s≠au∨bW p eB=false):=by grind [pickB]
   rw [ai q] at hS;refine br ?_ ?_<;>intro x
   ·have x:h.most < 0∨1024 < h.most:=by simpa [aq] using x
    rw [ap x] at hS;refine cP dD (bp 20 h.aK) ?_;exact ⟨_,_,ax,ax,bn (tk:=[]) (f:=(20,h.aK)) hS (fun _=>rfl)⟩
   have x:¬ (h.most < 0∨1024 < h.most):=by simp [aq] at x;omega
   rw [ai x] at hS;refine ⟨_,⟨by omega,rfl⟩,?_⟩;refine k0 JP rfl rfl ax (by repeat' (first | exact rfl | exact trivial | exact Or.inr (Or.inl ⟨_,rfl⟩) | exact Or.inr ⟨_,rfl⟩ | exact Or.inl ⟨rfl,rfl⟩ | exact Or.inl rfl | refine Or.inr ⟨_,_,rfl,Nat.zero_le _,rfl,?_⟩ | refine ⟨_,_,rfl,?_,?_⟩ | refine ⟨_,rfl,?_⟩ | exact congrArg (fun z=>DV.v (.int .i64 z)) (wrap64 (by omega) (by omega)) | refine Or.inr (Or.inr (Or.inr ⟨_,_,rfl,?_⟩)) | exact Or.inl rfl | refine Or.inr ?_)) CL ly (fun r qz hr=>?_);obtain ⟨rfl,z,hz,AA⟩:=hr;simp only [List.cons.injEq,and_true] at hz;subst hz;exact ⟨_,_,ax,ax,bn (tk:=[]) (f:=(wrong (.mk u us) (depth + 1) m).1) hS AA⟩
theorem BC (k:Nat) (ih:KW k) (h:Hd) (ps:Pts) (depth m:Int) (hk:ps.wt<=k) (bO:(Ty.mk h ps).wt<=1099511627776) (xc:0<=depth) (CN:depth<=25) (nq:0<=m) (iI:m<=512) :
  Ev prog 123 [.loc 0 0,.agg (dB (.mk h ps)),.v (.int .i64 depth)] [[.v (.int .i64 m)]] [] (DW (wrong (.mk h ps) depth m)):=by
 have xK:=bO;simp only [Ty.wt,Hd.wt] at xK;have p8:IntKind.i64.wrap (m + 1)=m + 1:=wrap64 (by omega) (by omega);have hS:=wrong.eq_def (.mk h ps) depth m;simp only at hS;generalize wrong (.mk h ps) depth m=F at hS ⊢;have fC:=He h ps;rw [FP] at fC;refine eG 103 [.cell 6 44] func123 rfl ntmps123 rfl fun _ _ _ _=>?_;refine br ?_ ?_<;>intro c
 ·have c:24 < depth:=of_decide_eq_true c;rw [ap c] at hS;refine cP dD (bp 6 h.aK) ?_;exact ⟨_,[[.v (.int .i64 (m + 1))]],ax,(pZ p8),bn (tk:=[]) (f:=(6,h.aK)) hS (fun _=>rfl)⟩
 have c:¬ 24 < depth:=of_decide_eq_false c;rw [ai c] at hS;refine br ?_ ?_<;>intro c
 ·have c:512 < IntKind.i64.wrap (m + 1):=of_decide_eq_true c;rw [p8] at c;rw [ap c] at hS;refine cP dD (bp 8 h.aK) ?_;exact ⟨_,[[.v (.int .i64 (m + 1))]],ax,(pZ p8),bn (tk:=[]) (f:=(8,h.aK)) hS (fun _=>rfl)⟩
 have c:¬ 512 < IntKind.i64.wrap (m + 1):=of_decide_eq_false c;rw [p8] at c;rw [ai c] at hS;refine br ?_ ?_<;>intro c
 ·have c:h.ag < 1∨9 < h.ag:=by simpa [aq] using c
  rw [ap c] at hS;refine cP dD (bp 14 h.aK) ?_;exact ⟨_,[[.v (.int .i64 (m + 1))]],ax,(pZ p8),bn (tk:=[]) (f:=(14,h.aK)) hS (fun _=>rfl)⟩
 have ck:¬ (h.ag < 1∨9 < h.ag):=by simp [aq] at c;omega
 rw [ai ck] at hS;refine cP Va fC ?_;refine br ?_ ?_<;>intro c
 ·have c:tT (.mk h ps)=false:=by simpa [tT] using c
  rw [ap c] at hS;refine cP dD (bp 19 h.aK) ?_;exact ⟨_,[[.v (.int .i64 (m + 1))]],ax,(pZ p8),bn (tk:=[]) (f:=(19,h.aK)) hS (fun _=>rfl)⟩
 have c:¬ tT (.mk h ps)=false:=by simpa [tT] using c
 rw [ai c] at hS;refine br ?_ ?_<;>intro k2
 ·have k2:h.ag=2:=of_decide_eq_true k2;refine br ?_ ?_<;>intro x
  ·have x:h.hi < h.lo:=of_decide_eq_true x;rw [ap (.inl ⟨k2,x⟩)] at hS;refine cP dD (bp 20 h.aK) ?_;exact ⟨_,[[.v (.int .i64 (m + 1))]],ax,(pZ p8),bn (tk:=[]) (f:=(20,h.aK)) hS (fun _=>rfl)⟩
  have x:¬ h.hi < h.lo:=of_decide_eq_false x;rw [ai (by omega),ai (by omega),ai (by omega),ai (by omega),ai (by omega)] at hS;exact ⟨_,[[.v (.int .i64 (m + 1))]],ax,(pZ p8),bn (tk:=[]) (f:=(0,0)) hS (fun _=>rfl)⟩
 have k2:¬ h.ag=2:=of_decide_eq_false k2;refine br ?_ ?_<;>intro k3
 ·have k3:h.ag=3:=of_decide_eq_true k3;refine br ?_ ?_<;>intro x
  ·have x:h.most < 0∨4096 < h.most:=by simpa [aq] using x
   rw [ap (.inr ⟨k3,x⟩)] at hS;refine cP dD (bp 20 h.aK) ?_;exact ⟨_,[[.v (.int .i64 (m + 1))]],ax,(pZ p8),bn (tk:=[]) (f:=(20,h.aK)) hS (fun _=>rfl)⟩
  have x:¬ (h.most < 0∨4096 < h.most):=by simp [aq] at x;omega
  rw [ai (by omega),ai (by omega),ai (by omega),ai (by omega),ai (by omega)] at hS;exact ⟨_,[[.v (.int .i64 (m + 1))]],ax,(pZ p8),bn (tk:=[]) (f:=(0,0)) hS (fun _=>rfl)⟩
 have k3:¬ h.ag=3:=of_decide_eq_false k3;rw [ai (by omega)] at hS;refine br ?_ ?_<;>intro k4
 ·have k4:h.ag=4:=of_decide_eq_true k4;rw [ai (by omega),ap k4,<- KK] at hS;refine cP Vb (Dy h ps (by omega)) ?_;exact ⟨_,[[.v (.int .i64 (m + 1))]],ax,(pZ p8),bn (tk:=[]) (f:=mi h) hS (fun _=>rfl)⟩
 have k4:¬ h.ag=4:=of_decide_eq_false k4;refine br ?_ ?_<;>intro k5
 ·have k5':h.ag=5∨h.ag=6:=.inl (of_decide_eq_true k5);rw [ai (by omega),ai (by omega),ap k5'] at hS;refine br (fun _=>?_) (fun hc=>by rw [k5] at hc;cases hc);refine k0 Pu rfl rfl (cs':=[.v (.int .i64 (m + 1))]) (pZ p8) ax (xJ k ih h ps depth (m + 1) hk bO xc (by omega) (by omega) (by omega)) ly (fun r qz hr=>?_);obtain ⟨rfl,z,hz,AA⟩:=hr;simp only [List.cons.injEq,and_true] at hz;subst hz;exact ⟨_,_,ax,ax,bn (tk:=[]) (f:=(wrongOne h ps depth (m + 1)).1) hS AA⟩
 have k5:¬ h.ag=5:=of_decide_eq_false k5;refine br ?_ ?_<;>intro k6
 ·have k5':h.ag=5∨h.ag=6:=.inr (of_decide_eq_true k6);rw [ai (by omega),ai (by omega),ap k5'] at hS;refine k0 Pu rfl rfl (cs':=[.v (.int .i64 (m + 1))]) (pZ p8) ax (xJ k ih h ps depth (m + 1) hk bO xc (by omega) (by omega) (by omega)) ly (fun r qz hr=>?_);obtain ⟨rfl,z,hz,AA⟩:=hr;simp only [List.cons.injEq,and_true] at hz;subst hz;exact ⟨_,_,ax,ax,bn (tk:=[]) (f:=(wrongOne h ps depth (m + 1)).1) hS AA⟩
 have k6:¬ h.ag=6:=of_decide_eq_false k6;have hP:ei h ps depth (m + 1)=ei h ps depth (m + 1):=rfl
 conv at hP=>lhs;unfold ei
 refine br ?_ ?_<;>intro k7
 ·have V9:h.ag=7∨h.ag=8:=.inl (of_decide_eq_true k7);rw [ai (by omega),ai (by omega),ai (by omega),ap V9,hP] at hS;refine br (fun _=>?_) (fun hc=>by rw [k7] at hc;cases hc);refine k0 Pv rfl rfl (cs':=[.v (.int .i64 (m + 1))]) (pZ p8) ax (rJ k ih h ps depth (m + 1) V9 hk bO xc (by omega) (by omega) (by omega)) ly (fun r qz hr=>?_);obtain ⟨rfl,z,hz,AA⟩:=hr;simp only [List.cons.injEq,and_true] at hz;subst hz;exact ⟨_,_,ax,ax,bn (tk:=[]) (f:=(ei h ps depth (m + 1)).1) hS AA⟩
 have k7:¬ h.ag=7:=of_decide_eq_false k7;refine br ?_ ?_<;>intro k8
 ·have V9:h.ag=7∨h.ag=8:=.inr (of_decide_eq_true k8);rw [ai (by omega),ai (by omega),ai (by omega),ap V9,hP] at hS;refine k0 Pv rfl rfl (cs':=[.v (.int .i64 (m + 1))]) (pZ p8) ax (rJ k ih h ps depth (m + 1) V9 hk bO xc (by omega) (by omega) (by omega)) ly (fun r qz hr=>?_);obtain ⟨rfl,z,hz,AA⟩:=hr;simp only [List.cons.injEq,and_true] at hz;subst hz;exact ⟨_,_,ax,ax,bn (tk:=[]) (f:=(ei h ps depth (m + 1)).1) hS AA⟩
 have k8:¬ h.ag=8:=of_decide_eq_false k8;refine br ?_ ?_<;>intro k9
 ·have k9:h.ag=9:=of_decide_eq_true k9;refine cP yS (eC h.name.s (by simp only [Wd.wt] at xK;omega)) ?_;refine br ?_ ?_<;>intro q
  ·have q:aZ h.name.s=false:=sU q;rw [ap ⟨k9,q⟩] at hS;refine cP dD (bp 9 h.name.a) ?_;exact ⟨_,[[.v (.int .i64 (m + 1))]],ax,(pZ p8),bn (tk:=[]) (f:=(9,h.name.a)) hS (fun _=>rfl)⟩
  ·have q:aZ h.name.s=true:=sU q;rw [ai (by simp [q]),ai (by omega),ai (by omega),ai (by omega)] at hS;exact ⟨_,[[.v (.int .i64 (m + 1))]],ax,(pZ p8),bn (tk:=[]) (f:=(0,0)) hS (fun _=>rfl)⟩
 have k9:¬ h.ag=9:=of_decide_eq_false k9;rw [ai (by omega),ai (by omega),ai (by omega),ai (by omega)] at hS;exact ⟨_,[[.v (.int .i64 (m + 1))]],ax,(pZ p8),bn (tk:=[]) (f:=(0,0)) hS (fun _=>rfl)⟩
theorem BD:∀ k,KW k
 | 0=>fun t depth m hk=>by have:=t.dE;omega
 | k + 1=>fun t depth m hk bO xc CN nq iI=>by
  obtain ⟨h,ps⟩:=t;have gq:=hk;simp only [Ty.wt,Hd.wt] at gq;exact BC k (BD k) h ps depth m (by omega) bO xc CN nq iI
theorem BE (t:Ty) (bO:t.wt<=1099511627776):EvP prog 70 [.agg (dB t)] (wrong t 1 0).1.d:=
 Hf t (BD t.wt t 1 0 (aU _) bO (by omega) (by omega) (by omega) (by omega))
abbrev KY (t:Ty) (ps:Pts) (e n:Nat):St:=
 ⟨[aF 1 0,aw 3 n,bc 7 18 (eW ps),aw 8 ((eW ps).length),aw 9 e],[dB t],[]⟩
theorem uE:∀ (k:Nat) (t:Ty),t.wt<=k->t.wt<=1099511627776 ->
  EvP prog 71 [.agg (dB t)] (.v (.int .i64 t.cnt))
 | 0,t,hn,_=>by have:=t.dE;omega
 | k + 1,.mk h ps,hn,bO=>by
  simp only [Ty.wt,Hd.wt] at hn bO;have ke:=ps.eV;have hc:=ps.dP;refine eG 23 [.tmp 2] func71 rfl ntmps71 rfl fun _ _ _ _=>?_
  refine aY (fun j st=>∃ (e n:Nat),st=KY (.mk h ps) ps e n/\e<=ps.len/\n + (ps.drop e).cnt=1 + ps.cnt/\j=ps.len - e) ps.len
   (KY (.mk h ps) ps 0 1) (bl wB) ⟨0,1,rfl,by omega,rfl,by omega⟩ ?_
  rintro j st ⟨e,n,rfl,he,bq,rfl⟩;refine br ?_ ?_<;>intro hL
  ·have ay:e < ps.len:=by simpa [aJ] using hL
   obtain ⟨p,t,hx⟩:=Pts.dO ay;have A5:=Pts.fD (mG hx);rw [Pts.drop_cons hx] at bq;simp only [Pts.cnt] at bq;have hct:=t.dP;obtain ⟨u,us⟩:=t;refine iX (bI hx) ?_;refine br ?_ ?_<;>intro hB
   ·have hB:p.bare=false:=sU hB;rw [hB] at bq;have bq:n + ((Ty.mk u us).cnt + (ps.drop (e + 1)).cnt)=1 + ps.cnt:=bq;refine cP UD (uE k (.mk u us) (by omega) (by omega)) ?_;have sD:IntKind.i64.wrap ((n:Int) + (Ty.mk u us).cnt)=((n + (Ty.mk u us).cnt:Nat):Int):=by rw [wrap64 (by omega) (by omega)];omega
    exact ⟨KY (.mk h ps) ps (e + 1) (n + (Ty.mk u us).cnt),(bl (wB2 sD (nxt ay (by omega)))),ps.len - (e + 1),by omega,e + 1,_,rfl,by omega,by omega,rfl⟩
   ·have hB:p.bare=true:=sU hB;rw [hB] at bq;have bq:n + (0 + (ps.drop (e + 1)).cnt)=1 + ps.cnt:=bq;exact rE ⟨_,by omega,e + 1,n,rfl,by omega,by omega,rfl⟩ (bl (cQ (nxt ay (by omega))))
  ·have hge:e=ps.len:=by simp [aJ] at hL;omega
   rw [hge,Pts.cH] at bq;simp only [Pts.cnt] at bq;have e2:(n:Int)=((Ty.mk h ps).cnt:Int):=by simp only [Ty.cnt];omega
   refine (yM ?_:);exact e2
mutual
def Ty.nn:Ty->Nat
 | .mk h ps=>if h.ag=9 then 0 else 1 + ps.nn
def Pts.nn:Pts->Nat
 | .nil=>0
 | .cons p t r=>(if p.bare then 0 else t.nn) + r.nn
end
mutual
theorem Ty.fH:∀ t:Ty,t.nn<=t.cnt
 | .mk h ps=>by
  have:=Pts.fH ps;simp only [Ty.nn,Ty.cnt];split<;>omega
theorem Pts.fH:∀ ps:Pts,ps.nn<=ps.cnt
 | .nil=>aU _
 | .cons p t r=>by
  have:=Ty.fH t;have:=Pts.fH r;simp only [Pts.nn,Pts.cnt];split<;>omega
end
abbrev RU (t:Ty) (ps:Pts) (e n:Nat):St:=
 ⟨[aF 1 0,aw 3 n,bc 10 18 (eW ps),aw 11 ((eW ps).length),aw 12 e],[dB t],[]⟩
theorem uF:∀ (k:Nat) (t:Ty),t.wt<=k->t.wt<=1099511627776 ->
  EvP prog 75 [.agg (dB t)] (.v (.int .i64 t.nn))
 | 0,t,hn,_=>by have:=t.dE;omega
 | k + 1,.mk h ps,hn,bO=>by
  simp only [Ty.wt,Hd.wt] at hn bO;have ke:=ps.eV;have hc:=ps.dP;have qf:=ps.fH;refine eG 26 [.tmp 2] func75 rfl ntmps75 rfl fun _ _ _ _=>?_;refine br ?_ ?_<;>intro h9
  ·have h9:h.ag=9:=sU h9;have:(Ty.mk h ps).nn=0:=by simp [Ty.nn,h9]
   rw [this];exact (rfl:_=_)
  have h9:¬ h.ag=9:=sU h9
  refine aY (fun j st=>∃ (e n:Nat),st=RU (.mk h ps) ps e n/\e<=ps.len/\n + (ps.drop e).nn=1 + ps.nn/\j=ps.len - e) ps.len
   (RU (.mk h ps) ps 0 1) (bl wB) ⟨0,1,rfl,by omega,rfl,by omega⟩ ?_
  rintro j st ⟨e,n,rfl,he,bq,rfl⟩;refine br ?_ ?_<;>intro hL
  ·have ay:e < ps.len:=by simpa [aJ] using hL
   obtain ⟨p,t,hx⟩:=Pts.dO ay;have A5:=Pts.fD (mG hx);rw [Pts.drop_cons hx] at bq;simp only [Pts.nn] at bq;have hct:=t.dP;have hct2:=t.fH;obtain ⟨u,us⟩:=t;refine iX (bI hx) ?_;refine br ?_ ?_<;>intro hB
   ·have hB:p.bare=false:=sU hB;rw [hB] at bq;have bq:n + ((Ty.mk u us).nn + (ps.drop (e + 1)).nn)=1 + ps.nn:=bq;refine cP UE (uF k (.mk u us) (by omega) (by omega)) ?_;have sD:IntKind.i64.wrap ((n:Int) + (Ty.mk u us).nn)=((n + (Ty.mk u us).nn:Nat):Int):=by rw [wrap64 (by omega) (by omega)];omega
    exact ⟨RU (.mk h ps) ps (e + 1) (n + (Ty.mk u us).nn),(bl (wB2 sD (nxt ay (by omega)))),ps.len - (e + 1),by omega,e + 1,_,rfl,by omega,by omega,rfl⟩
   ·have hB:p.bare=true:=sU hB;rw [hB] at bq;have bq:n + (0 + (ps.drop (e + 1)).nn)=1 + ps.nn:=bq;exact rE ⟨_,by omega,e + 1,n,rfl,by omega,by omega,rfl⟩ (bl (cQ (nxt ay (by omega))))
  ·have hge:e=ps.len:=by simp [aJ] at hL;omega
   rw [hge,Pts.cH] at bq;simp only [Pts.nn] at bq;have e2:(n:Int)=((Ty.mk h ps).nn:Int):=by simp only [Ty.nn,ai h9];omega
   refine (yM ?_:);exact e2
structure Lx where
 af:List ByteArray
 aH:List Nat
 rows:List Nat
 js:List Int
 f:Nat->Nat->Bool
def Lx.pd (X:Lx):DV:=.pt (gV X.af (cw X.af X.aH) X.rows X.js) 0
def Lx.lev (X:Lx) (l:List Wd):Int:=zm X.f X.af l
def Lx.bad (X:Lx) (l:List Wd):Ft:=labW X.af l
structure Lx.OK (X:Lx):Prop where
 hT:gw X.af X.aH
 kL:X.aH.length<=1099511627776
 hL:dH X.f X.af.length
 hn:X.af.length<=32
 hj:∀ x y,x < X.af.length->y < X.af.length->JM X.f X.af.length X.js x y
theorem Lx.pq {X:Lx} (h:X.OK) (l:List Wd) (hs:wdsWt l<=1099511627776):EvP prog 73 [X.pd,.sl 2 (bw l) none] (.tup [.v (.int .i64 (X.lev l)),(X.bad l).d]):=
 KV X.af X.aH X.rows X.js h.hT h.kL h.hL h.hn h.hj l hs
def bC (s:Sch) (lat out:DV) (m:Int):List DV:=.sl 2 (bw s.ae) none :: .sl 4 (lU s.order) none :: .sl 11 (dNms s.types) none :: (dB s.root ++ [lat,out,.v (.int .i64 m)])
theorem uG {X:Lx} (h:X.OK) (s:Sch) (pc:List DV) (m:Int) (l:List Wd) (hs:wdsWt l<=1099511627776) :
  EvP prog 127 [.pt (bC s X.pd (.pt pc 0) m) 0,.sl 2 (bw l) none] (.v (.int .i64 (X.lev l))):=by
 obtain ⟨ae,order,types,⟨rh,rp⟩⟩:=s;refine eG 17 [.tmp 4] func127 rfl ntmps127 rfl fun _ _ _ _=>?_;refine cP JH (Lx.pq h l hs) ?_;exact (rfl:_=_)
def si (s:Sch):List Wd:=s.types.map fun x=>x.1
def tL (s:Sch):List ByteArray:=aA (si s)
theorem F7 (s:Sch):(si s).length=s.types.length:=by simp [si]
theorem jB (s:Sch):(tL s).length=s.types.length:=by simp [tL,aA,si]
def pC (s:Sch) (aH:List Nat) (a b c e:DV):List DV:=[a,b,c,.pt (cw (tL s) aH) 0,e]
def sj (s:Sch) (t:Ty):Bool:=decide (t.h.ag=9->cy (tL s) t.h.name.s≠none)
def endI (s:Sch):Nat->Nat->Option Nat
 | 0,_=>none
 | k + 1,i=>
  match s.types[i]? with
  | none=>none
  | some x=>if x.2.h.ag=9 then endI s k ((cy (tL s) x.2.h.name.s).getD 0) else some i
theorem pu {s:Sch}:∀ {k i j:Nat},endI s k i=some j->j < s.types.length/\∀ x,s.types[j]? = some x->x.2.h.ag≠9
 | 0,i,j,h=>by cases h
 | k + 1,i,j,h=>by
  rw [endI] at h
  cases hx:s.types[i]? with
  | none=>rw [hx] at h;cases h
  | some x=>
   rw [hx] at h;simp only at h;split at h
   ·exact pu h
   all_goals grind
abbrev P4 (B:DV) (n i e:Nat):St:=
 ⟨[(0,⟨[],B⟩),aw 1 i,aw 12 n,aw 13 e],[],[]⟩
theorem BF (s:Sch) (lat:DV) (aH:List Nat) (a b c e0:DV) (m:Int) (hT:gw (tL s) aH) (kL:aH.length<=1099511627776) (hl:s.types.length<=64) (hr:∀ x∈s.types,sj s x.2=true) (i:Nat) (hi:i < s.types.length) :
  EvP prog 74 [.pt (bC s lat (.pt (pC s aH a b c e0) 0) m) 0,.v (.int .i64 i)] (.v (.int .i64 (oz (endI s (s.types.length + 1) i)))):=by
 have jv:=jB s;obtain ⟨ae,order,types,⟨rh,rp⟩⟩:=s;simp only at hl hr hi jv;have hN:=di types;have hcnt:IntKind.i64.wrap ((((dNms types).length:Nat):Int) + 1)=((types.length + 1:Nat):Int):=by rw [hN,wrap64 (by omega) (by omega)];all_goals rfl
 refine eG 43 [.tmp 4] func74 rfl ntmps74 rfl fun _ _ _ _=>?_
 refine aY (fun j st=>∃ e q:Nat,st=P4 (.pt (bC ⟨ae,order,types,.mk rh rp⟩ lat (.pt (pC ⟨ae,order,types,.mk rh rp⟩ aH a b c e0) 0) m) 0) (types.length + 1) q e/\e<=types.length + 1/\q < types.length/\endI ⟨ae,order,types,.mk rh rp⟩ (types.length + 1) i=endI ⟨ae,order,types,.mk rh rp⟩ (types.length + 1 - e) q/\j=types.length + 1 - e) (types.length + 1)
  (P4 (.pt (bC ⟨ae,order,types,.mk rh rp⟩ lat (.pt (pC ⟨ae,order,types,.mk rh rp⟩ aH a b c e0) 0) m) 0) (types.length + 1) i 0) (bl (cQ hcnt)) ⟨0,i,rfl,by omega,hi,rfl,by omega⟩ ?_
 rintro j st ⟨e,q,rfl,he,hq,aP,rfl⟩;refine br ?_ ?_<;>intro hL
 ·have ay:e < types.length + 1:=by have:=hL;simp at this;omega
  obtain ⟨x,hx⟩:∃ x,types[q]? = some x:=⟨_,gE hq⟩;have CP:=hr x (mG hx);obtain ⟨xw,⟨xh,xp⟩⟩:=x
  have bh:endI ⟨ae,order,types,.mk rh rp⟩ (types.length + 1 - e) q=if xh.ag=9 then endI ⟨ae,order,types,.mk rh rp⟩ (types.length + 1 - (e + 1)) ((cy (tL ⟨ae,order,types,.mk rh rp⟩) xh.name.s).getD 0) else some q:=by
   rw [show types.length + 1 - e=(types.length + 1 - (e + 1)) + 1 by omega,endI];simp only [hx];rfl
  rw [bh] at aP;refine iX (dNms_get hx) ?_;refine br ?_ ?_<;>intro h9
  ·have h9:¬ xh.ag=9:=sU h9;rw [ai h9] at aP;rw [aP];exact (rfl:_=_)
  have h9:xh.ag=9:=sU h9;rw [ap h9] at aP
  have bq:cy (tL ⟨ae,order,types,.mk rh rp⟩) xh.name.s≠none:=by
   have:=of_decide_eq_true CP;exact this h9
  obtain ⟨k,hk⟩:=Option.ne_none_iff_exists'.1 bq;have oD:=(cF hk).1;rw [hk] at aP;have hf:=gU (tL ⟨ae,order,types,.mk rh rp⟩) aH xh.name.s hT kL;rw [hk] at hf;refine dI ?_;refine cD tJ hf ?_;exact rE ⟨_,by omega,e + 1,k,rfl,by omega,by omega,aP,rfl⟩ (bl (cQ (nxt ay (by omega))))
 ·have hge:e=types.length + 1:=by have:=hL;simp at this;omega
  subst hge;rw [Nat.sub_self] at aP;rw [aP];exact (rfl:_=_)
def loopF (s:Sch):Ft:=
 match bg (fun i=>(endI s (s.types.length + 1) i).isNone) s.types.length with
 | none=>(0,0)
 | some i=>(11,RR (si s) i)
abbrev zn (B:DV) (s:Sch) (e:Nat):St:=
 ⟨[(0,⟨[],B⟩),aF 2 0,bc 9 11 (dNms s.types),aw 10 ((dNms s.types).length),aw 11 e],[[.v (.int .i64 0),.v (.int .i64 0)]],[]⟩
theorem DZ (s:Sch) (lat:DV) (aH:List Nat) (a b c e0:DV) (m:Int) (hT:gw (tL s) aH) (kL:aH.length<=1099511627776) (hl:s.types.length<=64) (hr:∀ x∈s.types,sj s x.2=true) :
  EvP prog 30 [.pt (bC s lat (.pt (pC s aH a b c e0) 0) m) 0] (loopF s).d:=by
 have wj:=BF s lat aH a b c e0 m hT kL hl hr;have hN:=di s.types;have hF:=loopF.eq_1 s;obtain ⟨ae,order,types,⟨rh,rp⟩⟩:=s;simp only at hl hr wj hN;refine eG 26 [.cell 2 44] func30 rfl ntmps30 rfl fun _ _ _ _=>?_
 refine aY (fun j st=>∃ e:Nat,st=zn (.pt (bC ⟨ae,order,types,.mk rh rp⟩ lat (.pt (pC ⟨ae,order,types,.mk rh rp⟩ aH a b c e0) 0) m) 0) ⟨ae,order,types,.mk rh rp⟩ e/\e<=types.length/\(∀ i,i < e->(endI ⟨ae,order,types,.mk rh rp⟩ (types.length + 1) i).isNone=false)/\j=types.length - e) types.length
  (zn (.pt (bC ⟨ae,order,types,.mk rh rp⟩ lat (.pt (pC ⟨ae,order,types,.mk rh rp⟩ aH a b c e0) 0) m) 0) ⟨ae,order,types,.mk rh rp⟩ 0) (bl wB) ⟨0,rfl,by omega,fun _ h=>by omega,by omega⟩ ?_
 rintro j st ⟨e,rfl,he,fM,rfl⟩;refine br ?_ ?_<;>intro hL
 ·have ay:e < types.length:=by have:=hL;simp [hN] at this;exact this
  obtain ⟨x,hx⟩:=gX ay;have RV:(si ⟨ae,order,types,.mk rh rp⟩)[e]? = some x.1:=by simp [si,hx]
  have h1:=wj e ay;obtain ⟨xw,⟨xh,xp⟩⟩:=x;refine iX (dNms_get hx) ?_;refine cP en74 h1 ?_
  cases hE:endI ⟨ae,order,types,.mk rh rp⟩ (types.length + 1) e with
  | none=>
   have Ae:=bZ (p:=fun i=>(endI ⟨ae,order,types,.mk rh rp⟩ (types.length + 1) i).isNone) ay (by simp only [hE];rfl) fM;simp only [Ae] at hF;rw [jQ RV] at hF;refine ⟨_,?_,rfl⟩;rw [hF];exact ax
  | some k=>
   refine ⟨zn (.pt (bC ⟨ae,order,types,.mk rh rp⟩ lat (.pt (pC ⟨ae,order,types,.mk rh rp⟩ aH a b c e0) 0) m) 0) ⟨ae,order,types,.mk rh rp⟩ (e + 1),(bl (cQ (nxt ay (by omega)))),types.length - (e + 1),by omega,e + 1,rfl,by omega,fun i hi=>?_,rfl⟩;rcases jU hi with hi | rfl
   ·exact fM i hi
   ·rw [hE];all_goals rfl
 ·have hge:e=types.length:=sW hN hL;subst hge;simp only [b9 fM] at hF;refine ⟨_,?_,rfl⟩;rw [hF];exact ax
mutual
def knT (X:Lx) (L:List ByteArray):Ty->Ft
 | .mk h ps=>if h.ag=9/\cy L h.name.s=none then (15,h.name.a) else knP X L ps
def knP (X:Lx) (L:List ByteArray):Pts->Ft
 | .nil=>(0,0)
 | .cons p t r=>if (X.bad p.label).1≠0 then X.bad p.label else if (X.bad p.cl).1≠0 then X.bad p.cl else if p.bare then knP X L r else if (knT X L t).1≠0 then knT X L t else knP X L r
end
abbrev Wa (B:DV) (t:Ty) (ps:Pts) (e:Nat):St:=
 ⟨[(0,⟨[],B⟩),aF 3 0,aF 4 1,bc 38 18 (eW ps),aw 39 ((eW ps).length),aw 40 e],[dB t,[.v (.int .i64 0),.v (.int .i64 0)]],[]⟩
abbrev xL (B:DV) (t:Ty) (ps:Pts) (p:Ph) (u:Ty) (e q:Nat):St:=
 ⟨[(0,⟨[],B⟩),aF 3 0,aF 4 1,bc 38 18 (eW ps),aw 39 ((eW ps).length),aw 40 e,aF 8 2,bc 49 1 [[.sl 2 (bw p.label) none],[.sl 2 (bw p.cl) none]],aw 50 (2:Nat),aw 51 q],[dB t,[.v (.int .i64 0),.v (.int .i64 0)],Dk p (dB u)],[]⟩
theorem uH {X:Lx} (hX:X.OK) (s:Sch) (aH:List Nat) (a b c e0:DV) (m:Int) (hT:gw (tL s) aH) (kL:aH.length<=1099511627776):∀ (k:Nat) (t:Ty),t.wt<=k->t.wt<=1099511627776 ->
  EvP prog 29 [.pt (bC s X.pd (.pt (pC s aH a b c e0) 0) m) 0,.agg (dB t)] (knT X (tL s) t).d
 | 0,t,hn,_=>by have:=t.dE;omega
 | k + 1,.mk h ps,hn,bO=>by
  have ih:=uH hX s aH a b c e0 m hT kL k;simp only [Ty.wt,Hd.wt] at hn bO;have ke:=ps.eV;obtain ⟨ae,order,types,⟨rh,rp⟩⟩:=s;have hf:=gU (tL ⟨ae,order,types,.mk rh rp⟩) aH h.name.s hT kL;have hS:knT X (tL ⟨ae,order,types,.mk rh rp⟩) (.mk h ps)=if h.ag=9/\cy (tL ⟨ae,order,types,.mk rh rp⟩) h.name.s=none then (15,h.name.a) else knP X (tL ⟨ae,order,types,.mk rh rp⟩) ps:=by rw [knT]
  refine eG 81 [.cell 4 44] func29 rfl ntmps29 rfl fun _ _ _ _=>?_;generalize knT X (tL ⟨ae,order,types,.mk rh rp⟩) (.mk h ps)=F at hS ⊢;have Wb:knP X (tL ⟨ae,order,types,.mk rh rp⟩) ps=knP X (tL ⟨ae,order,types,.mk rh rp⟩) (ps.drop 0):=by rw [Pts.drop]
  refine br ?_ ?_<;>intro h9
  ·have h9:h.ag=9:=sU h9;refine dI ?_
   cases hx:cy (tL ⟨ae,order,types,.mk rh rp⟩) h.name.s with
   | none=>
    rw [ap ⟨h9,hx⟩] at hS;rw [hx] at hf;refine cD tJ hf ?_;refine ⟨_,?_,rfl⟩;rw [hS];exact ax
   | some i=>
    rw [ai (by rw [hx];simp),Wb] at hS;rw [hx] at hf;refine cD tJ hf ?_;refine lI (fun j st=>∃ e:Nat,st=Wa (.pt (bC ⟨ae,order,types,.mk rh rp⟩ X.pd (.pt (pC ⟨ae,order,types,.mk rh rp⟩ aH a b c e0) 0) m) 0) (.mk h ps) ps e/\e<=ps.len/\F=knP X (tL ⟨ae,order,types,.mk rh rp⟩) (ps.drop e)/\j=ps.len - e) ⟨0,rfl,by omega,hS,rfl⟩ (bl wB) ?_;rintro j st ⟨e,rfl,he,aP,rfl⟩;refine br ?_ ?_<;>intro hL
    ·have ay:e < ps.len:=by simpa [aJ] using hL
     obtain ⟨p,t,hx⟩:=Pts.dO ay;have A5:=Pts.fD (mG hx);rw [Pts.drop_cons hx] at aP;simp only [knP] at aP;have hw1:wdsWt p.label + wdsWt p.cl<=p.wt:=by simp only [Ph.wt];omega
     obtain ⟨u,us⟩:=t;refine iX (bI hx) ?_;refine lI (fun j st=>∃ q:Nat,st=xL (.pt (bC ⟨ae,order,types,.mk rh rp⟩ X.pd (.pt (pC ⟨ae,order,types,.mk rh rp⟩ aH a b c e0) 0) m) 0) (.mk h ps) ps p (.mk u us) e q/\q<=2/\(1<=q->(X.bad p.label).1=0)/\(2<=q->(X.bad p.cl).1=0)/\j=2 - q) ⟨0,rfl,by omega,fun h=>by omega,fun h=>by omega,rfl⟩ (bl wB) ?_;rintro j st ⟨q,rfl,hq,RW,ka,rfl⟩;refine br ?_ ?_<;>intro nM
     ·have GM:q=0∨q=1:=by have:=nM;simp at this;omega
      rcases GM with rfl | rfl
      ·refine ⟨_,⟨by omega,rfl⟩,?_⟩;refine cP JH (Lx.pq hX p.label (by omega)) ?_;refine br ?_ ?_<;>intro hb
       ·have hb:(X.bad p.label).1≠0:=sU hb;rw [ap hb] at aP;refine ⟨_,?_,rfl⟩;rw [aP];exact ax
       ·have hb:(X.bad p.label).1=0:=sU hb;exact ⟨xL (.pt (bC ⟨ae,order,types,.mk rh rp⟩ X.pd (.pt (pC ⟨ae,order,types,.mk rh rp⟩ aH a b c e0) 0) m) 0) (.mk h ps) ps p (.mk u us) e 1,(bl (cQ (nxt (e:=0) (n:=2) (by omega) (by omega)))),1,by omega,1,rfl,by omega,fun _=>hb,fun h=>by omega,rfl⟩
      ·have iy:=RW (by omega);refine ⟨_,⟨by omega,rfl⟩,?_⟩;refine cP JH (Lx.pq hX p.cl (by omega)) ?_;refine br ?_ ?_<;>intro hb
       ·have hb:(X.bad p.cl).1≠0:=sU hb;rw [ai (by rw [iy];simp),ap hb] at aP;refine ⟨_,?_,rfl⟩;rw [aP];exact ax
       ·have hb:(X.bad p.cl).1=0:=sU hb;exact ⟨xL (.pt (bC ⟨ae,order,types,.mk rh rp⟩ X.pd (.pt (pC ⟨ae,order,types,.mk rh rp⟩ aH a b c e0) 0) m) 0) (.mk h ps) ps p (.mk u us) e 2,(bl (cQ (nxt (e:=1) (n:=2) (by omega) (by omega)))),0,by omega,2,rfl,by omega,fun _=>iy,fun _=>hb,rfl⟩
     ·have GM:q=2:=by have:=nM;simp at this;omega
      subst GM;have iy:=RW (by omega);have nV:=ka (by omega);rw [ai (by rw [iy];simp),ai (by rw [nV];simp)] at aP;refine br ?_ ?_<;>intro hB
      ·have hB:p.bare=true:=hB;rw [ap hB] at aP;exact rE ⟨_,by omega,e + 1,rfl,by omega,aP,rfl⟩ (bl (cQ (nxt ay (by omega))))
      ·have hB:p.bare=false:=hB;rw [ai (by rw [hB];decide)] at aP;refine cP Rg (ih (.mk u us) (by omega) (by omega)) ?_;refine br ?_ ?_<;>intro hb
       ·have hb:(knT X (tL ⟨ae,order,types,.mk rh rp⟩) (.mk u us)).1≠0:=sU hb;rw [ap hb] at aP;refine ⟨_,?_,rfl⟩;rw [aP];exact ax
       ·have hb:(knT X (tL ⟨ae,order,types,.mk rh rp⟩) (.mk u us)).1=0:=sU hb;rw [ai (by rw [hb];simp)] at aP;exact rE ⟨_,by omega,e + 1,rfl,by omega,aP,rfl⟩ (bl (cQ (nxt ay (by omega))))
    ·have hge:e=ps.len:=by simp [aJ] at hL;omega
     rw [hge,Pts.cH] at aP;simp only [knP] at aP;refine ⟨_,?_,rfl⟩;rw [aP];exact ax
  ·have h9:¬ h.ag=9:=sU h9;rw [ai (fun hc=>h9 hc.1),Wb] at hS;refine lI (fun j st=>∃ e:Nat,st=Wa (.pt (bC ⟨ae,order,types,.mk rh rp⟩ X.pd (.pt (pC ⟨ae,order,types,.mk rh rp⟩ aH a b c e0) 0) m) 0) (.mk h ps) ps e/\e<=ps.len/\F=knP X (tL ⟨ae,order,types,.mk rh rp⟩) (ps.drop e)/\j=ps.len - e) ⟨0,rfl,by omega,hS,rfl⟩ (bl wB) ?_;rintro j st ⟨e,rfl,he,aP,rfl⟩;refine br ?_ ?_<;>intro hL
   ·have ay:e < ps.len:=by simpa [aJ] using hL
    obtain ⟨p,t,hx⟩:=Pts.dO ay;have A5:=Pts.fD (mG hx);rw [Pts.drop_cons hx] at aP;simp only [knP] at aP;have hw1:wdsWt p.label + wdsWt p.cl<=p.wt:=by simp only [Ph.wt];omega
    obtain ⟨u,us⟩:=t;refine iX (bI hx) ?_;refine lI (fun j st=>∃ q:Nat,st=xL (.pt (bC ⟨ae,order,types,.mk rh rp⟩ X.pd (.pt (pC ⟨ae,order,types,.mk rh rp⟩ aH a b c e0) 0) m) 0) (.mk h ps) ps p (.mk u us) e q/\q<=2/\(1<=q->(X.bad p.label).1=0)/\(2<=q->(X.bad p.cl).1=0)/\j=2 - q) ⟨0,rfl,by omega,fun h=>by omega,fun h=>by omega,rfl⟩ (bl wB) ?_;rintro j st ⟨q,rfl,hq,RW,ka,rfl⟩;refine br ?_ ?_<;>intro nM
    ·have GM:q=0∨q=1:=by have:=nM;simp at this;omega
     rcases GM with rfl | rfl
     ·refine ⟨_,⟨by omega,rfl⟩,?_⟩;refine cP JH (Lx.pq hX p.label (by omega)) ?_;refine br ?_ ?_<;>intro hb
      ·have hb:(X.bad p.label).1≠0:=sU hb;rw [ap hb] at aP;refine ⟨_,?_,rfl⟩;rw [aP];exact ax
      ·have hb:(X.bad p.label).1=0:=sU hb;exact ⟨xL (.pt (bC ⟨ae,order,types,.mk rh rp⟩ X.pd (.pt (pC ⟨ae,order,types,.mk rh rp⟩ aH a b c e0) 0) m) 0) (.mk h ps) ps p (.mk u us) e 1,(bl (cQ (nxt (e:=0) (n:=2) (by omega) (by omega)))),1,by omega,1,rfl,by omega,fun _=>hb,fun h=>by omega,rfl⟩
     ·have iy:=RW (by omega);refine ⟨_,⟨by omega,rfl⟩,?_⟩;refine cP JH (Lx.pq hX p.cl (by omega)) ?_;refine br ?_ ?_<;>intro hb
      ·have hb:(X.bad p.cl).1≠0:=sU hb;rw [ai (by rw [iy];simp),ap hb] at aP;refine ⟨_,?_,rfl⟩;rw [aP];exact ax
      ·have hb:(X.bad p.cl).1=0:=sU hb;exact ⟨xL (.pt (bC ⟨ae,order,types,.mk rh rp⟩ X.pd (.pt (pC ⟨ae,order,types,.mk rh rp⟩ aH a b c e0) 0) m) 0) (.mk h ps) ps p (.mk u us) e 2,(bl (cQ (nxt (e:=1) (n:=2) (by omega) (by omega)))),0,by omega,2,rfl,by omega,fun _=>iy,fun _=>hb,rfl⟩
    ·have GM:q=2:=by have:=nM;simp at this;omega
     subst GM;have iy:=RW (by omega);have nV:=ka (by omega);rw [ai (by rw [iy];simp),ai (by rw [nV];simp)] at aP;refine br ?_ ?_<;>intro hB
     ·have hB:p.bare=true:=hB;rw [ap hB] at aP;exact rE ⟨_,by omega,e + 1,rfl,by omega,aP,rfl⟩ (bl (cQ (nxt ay (by omega))))
     ·have hB:p.bare=false:=hB;rw [ai (by rw [hB];decide)] at aP;refine cP Rg (ih (.mk u us) (by omega) (by omega)) ?_;refine br ?_ ?_<;>intro hb
      ·have hb:(knT X (tL ⟨ae,order,types,.mk rh rp⟩) (.mk u us)).1≠0:=sU hb;rw [ap hb] at aP;refine ⟨_,?_,rfl⟩;rw [aP];exact ax
      ·have hb:(knT X (tL ⟨ae,order,types,.mk rh rp⟩) (.mk u us)).1=0:=sU hb;rw [ai (by rw [hb];simp)] at aP;exact rE ⟨_,by omega,e + 1,rfl,by omega,aP,rfl⟩ (bl (cQ (nxt ay (by omega))))
   ·have hge:e=ps.len:=by simp [aJ] at hL;omega
    rw [hge,Pts.cH] at aP;simp only [knP] at aP;refine ⟨_,?_,rfl⟩;rw [aP];exact ax
def eaL (F:Ty->Ft) (z:Ft):List (Wd × Ty)->Ft
 | []=>z
 | x :: r=>if (F x.2).1≠0 then F x.2 else eaL F z r
theorem KZ {F:Ty->Ft} {z:Ft} {l:List (Wd × Ty)} {e:Nat} {x:Wd × Ty} (h:l[e]? = some x):eaL F z (l.drop e)=if (F x.2).1≠0 then F x.2 else eaL F z (l.drop (e + 1)):=by
 rw [drop_cons h,eaL]
abbrev K0 (B:DV) (fn:DV) (types:List (Wd × Ty)) (e:Nat):St:=
 ⟨[(0,⟨[],B⟩),(1,⟨[],fn⟩),aF 4 0,bc 12 11 (dNms types),aw 13 ((dNms types).length),aw 14 e],[[.v (.int .i64 0),.v (.int .i64 0)]],[]⟩
theorem HB (s:Sch) (lat:DV) (pc:List DV) (m:Int) (hl:s.types.length<=1099511627776) (g:Nat) (hg:Enters prog g) (F:Ty->Ft)
  (hF:∀ t,(t=s.root∨∃ x∈s.types,t=x.2)->EvP prog g [.pt (bC s lat (.pt pc 0) m) 0,.agg (dB t)] (F t).d) :
  EvP prog 27 [.pt (bC s lat (.pt pc 0) m) 0,.fn g [.pt (bC s lat (.pt pc 0) m) 0] []] (eaL F (F s.root) s.types).d:=by
 have hN:=di s.types;obtain ⟨ae,order,types,⟨rh,rp⟩⟩:=s;simp only at hl hF hN;have fi:=hF (.mk rh rp) (.inl rfl);have RX:∀ x∈types,_:=fun x hx=>hF x.2 (.inr ⟨x,hx,rfl⟩);clear hF;refine eG 34 [.cell 4 44] func27 rfl ntmps27 rfl fun _ _ _ _=>?_;generalize hG:eaL F (F (.mk rh rp)) types=G;have hG0:G=eaL F (F (.mk rh rp)) (types.drop 0):=by rw [List.drop_zero,hG]
 refine aY (fun j st=>∃ e:Nat,st=K0 (.pt (bC ⟨ae,order,types,.mk rh rp⟩ lat (.pt pc 0) m) 0) (.fn g [.pt (bC ⟨ae,order,types,.mk rh rp⟩ lat (.pt pc 0) m) 0] []) types e/\e<=types.length/\G=eaL F (F (.mk rh rp)) (types.drop e)/\j=types.length - e) types.length
  (K0 (.pt (bC ⟨ae,order,types,.mk rh rp⟩ lat (.pt pc 0) m) 0) (.fn g [.pt (bC ⟨ae,order,types,.mk rh rp⟩ lat (.pt pc 0) m) 0] []) types 0) (bl wB) ⟨0,rfl,by omega,hG0,by omega⟩ ?_
 rintro j st ⟨e,rfl,he,aP,rfl⟩;refine br ?_ ?_<;>intro hL
 ·have ay:e < types.length:=by have:=hL;simp [hN] at this;exact this
  obtain ⟨x,hx⟩:=gX ay;have hp:=RX x (mG hx);rw [KZ hx] at aP;obtain ⟨xw,⟨xh,xp⟩⟩:=x;refine iX (dNms_get hx) ?_;refine cP hg hp ?_;refine br ?_ ?_<;>intro hf
  ·have hf:(F (.mk xh xp)).1≠0:=sU hf;rw [ap hf] at aP;refine ⟨_,?_,rfl⟩;rw [aP];exact ax
  ·have hf:(F (.mk xh xp)).1=0:=sU hf;rw [ai (by rw [hf];simp)] at aP;exact rE ⟨_,by omega,e + 1,rfl,by omega,aP,rfl⟩ (bl (cQ (nxt ay (by omega))))
 ·have hge:e=types.length:=sW hN hL;subst hge;rw [List.drop_length,eaL] at aP;refine cP hg fi ?_;refine ⟨_,?_,rfl⟩;rw [aP];exact ax
def bM (t:Ty) (m:Int):Ft × Int:=if (wrong t 1 0).1.1≠0 then ((wrong t 1 0).1,m) else if 512 < m + t.cnt then ((8,t.h.aK),m + t.cnt) else ((0,0),m + t.cnt)
def K1 (s:Sch) (lat:DV) (pc:List DV) (x:Ft × Int) (r:DV) (os:List (List DV)) (_:List TkE):Prop:=r=x.1.d/\os=[bC s lat (.loc 1 0) x.2,pc]
theorem BG (s:Sch) (lc pc:List DV) (m:Int) (nq:0<=m) (iI:m<=1099511627776) (t:Ty) (bO:t.wt<=1099511627776) (hpc:∀ bx N n0 m0,CcL bx N n0 m0 pc pc) :
  Ev prog 28 [.loc 0 0,.agg (dB t)] [bC s (.pt lc 0) (.loc 1 0) m,pc] [] (K1 s (.pt lc 0) pc (bM t m)):=by
 have hk:=BE t bO;have hc:=uE t.wt t (aU _) bO;have Jt:=t.dP;have hF:=bM.eq_1 t m;obtain ⟨ae,order,types,⟨rh,rp⟩⟩:=s;obtain ⟨h,ps⟩:=t;generalize bM (.mk h ps) m=R at hF ⊢;refine eG 30 [.cell 4 44] func28 rfl ntmps28 rfl fun _ _ _ _=>?_;refine cP ZR hk ?_;refine br ?_ ?_<;>intro hf
 ·have hf:(wrong (.mk h ps) 1 0).1.1≠0:=sU hf;rw [ap hf] at hF;subst hF;exact ⟨Ft.d _,[bC ⟨ae,order,types,.mk rh rp⟩ (.pt lc 0) (.loc 1 0) m,pc],ax,(by repeat' (first | exact rfl | exact trivial | exact Or.inr (Or.inl ⟨_,rfl⟩) | exact Or.inr ⟨_,rfl⟩ | exact Or.inl ⟨rfl,rfl⟩ | exact Or.inl rfl | refine Or.inr ⟨_,_,rfl,Nat.zero_le _,rfl,?_⟩ | refine ⟨_,_,rfl,?_,?_⟩ | refine ⟨_,rfl,?_⟩ | exact hpc _ _ _ _ | exact ⟨nL rfl,rfl⟩ | exact congrArg (fun z=>DV.v (.int .i64 z)) hw | refine Or.inr (Or.inr (Or.inr ⟨_,_,rfl,?_⟩)) | exact Or.inl rfl | refine Or.inr ?_)),rfl,rfl⟩
 have hf:(wrong (.mk h ps) 1 0).1.1=0:=sU hf;rw [ai (by rw [hf];simp)] at hF;have hw:IntKind.i64.wrap (m + ((Ty.mk h ps).cnt:Int))=m + ((Ty.mk h ps).cnt:Int):=wrap64 (by omega) (by omega);refine dS ?_;refine cD UD hc ?_;refine br ?_ ?_<;>intro hg
 ·have hg:512 < m + ((Ty.mk h ps).cnt:Int):=sV hw hg;rw [ap hg] at hF;subst hF;exact ⟨Ft.d _,[bC ⟨ae,order,types,.mk rh rp⟩ (.pt lc 0) (.loc 1 0) (m + (Ty.mk h ps).cnt),pc],ax,(wC2 hpc hw),rfl,rfl⟩
 ·have hg:¬ 512 < m + ((Ty.mk h ps).cnt:Int):=sV hw hg;rw [ai hg] at hF;subst hF;exact ⟨Ft.d _,[bC ⟨ae,order,types,.mk rh rp⟩ (.pt lc 0) (.loc 1 0) (m + (Ty.mk h ps).cnt),pc],ax,(wC2 hpc hw),rfl,rfl⟩
def eaR (z:Ty):List (Wd × Ty)->Int->Ft × Int
 | [],m=>bM z m
 | x :: r,m=>if (bM x.2 m).1.1≠0 then bM x.2 m else eaR z r (bM x.2 m).2
theorem K2 {z:Ty} {l:List (Wd × Ty)} {e:Nat} {m:Int} {x:Wd × Ty} (h:l[e]? = some x):eaR z (l.drop e) m=if (bM x.2 m).1.1≠0 then bM x.2 m else eaR z (l.drop (e + 1)) (bM x.2 m).2:=by
 rw [drop_cons h,eaR]
theorem nc {t:Ty} {m:Int} (h:(bM t m).1.1=0):(bM t m).2=m + t.cnt/\(bM t m).2<=512/\(wrong t 1 0).1.1=0/\(bM t m).1=(0,0):=by grind [bM]
abbrev D0 (s:Sch) (aH:List Nat) (lc:List DV):List DV:=pC s aH (.pt lc 0) (.v (.slice none 0 0)) (.v (.int .i64 0)) (.v (.slice none 0 0))
abbrev zo (s:Sch) (lc pc:List DV) (m:Int) (types:List (Wd × Ty)) (e:Nat):St:=
 ⟨[aF 0 0,(1,⟨[],.fn 28 [.loc 0 0] []⟩),aF 4 2,bc 12 11 (dNms types),aw 13 ((dNms types).length),aw 14 e],
  [bC s (.pt lc 0) (.loc 1 0) m,pc,[.v (.int .i64 0),.v (.int .i64 0)]],[]⟩
theorem D1 (s:Sch) (lc:List DV) (aH:List Nat) (m:Int) (nq:0<=m) (iI:m<=512) (hl:s.types.length<=1099511627776) (bO:∀ t,(t=s.root∨∃ x∈s.types,t=x.2)->t.wt<=1099511627776) :
  Ev prog 27 [.loc 0 0,.fn 28 [.loc 0 0] []] [bC s (.pt lc 0) (.loc 1 0) m,D0 s aH lc] [] (K1 s (.pt lc 0) (D0 s aH lc) (eaR s.root s.types m)):=by
 have hN:=di s.types;have hR:∀ (m':Int),0<=m' -> m' <= 512->∀ t,(t=s.root∨∃ x∈s.types,t=x.2)->_:=fun m' h0 h1 t ht=>BG s lc (D0 s aH lc) m' h0 (by omega) t (bO t ht) (fun bx N n0 m0=>ax);obtain ⟨ae,order,types,⟨rh,rp⟩⟩:=s;simp only at hl hR hN bO;refine eG 34 [.cell 4 44] func27 rfl ntmps27 rfl fun _ _ _ _=>?_;generalize hG:eaR (.mk rh rp) types m=G;have hG0:G=eaR (.mk rh rp) (types.drop 0) m:=by rw [List.drop_zero,hG]
 refine aY (fun j st=>∃ (e:Nat) (m':Int),st=zo ⟨ae,order,types,.mk rh rp⟩ lc (D0 ⟨ae,order,types,.mk rh rp⟩ aH lc) m' types e/\e<=types.length/\0<=m' /\ m' <= 512/\G=eaR (.mk rh rp) (types.drop e) m' /\ j=types.length - e) types.length
  (zo ⟨ae,order,types,.mk rh rp⟩ lc (D0 ⟨ae,order,types,.mk rh rp⟩ aH lc) m types 0) (wkB 3 (by repeat' (first | exact rfl | exact aE rfl | exact rfl | refine ⟨_,_,rfl,?_,?_⟩)) (by repeat' (first | exact trivial | exact aE rfl | exact rfl | refine ⟨⟨_,rfl,?_⟩,?_⟩))) ⟨0,m,rfl,by omega,nq,iI,hG0,by omega⟩ ?_
 rintro j st ⟨e,m',rfl,he,sf,A9,aP,rfl⟩;refine br ?_ ?_<;>intro hL
 ·have ay:e < types.length:=by have:=hL;simp [hN] at this;exact this
  obtain ⟨x,hx⟩:=gX ay;have hp:=hR m' sf A9 x.2 (.inr ⟨x,mG hx,rfl⟩);rw [K2 hx] at aP;obtain ⟨xw,⟨xh,xp⟩⟩:=x;refine iX (dNms_get hx) ?_;refine cX 2 0 Ut rfl rfl rfl fU fU hp (fun r iA cr hΦ h1 h2=>?_);obtain ⟨rfl,rfl⟩:=hΦ;have h2:=List.eq_nil_of_length_eq_zero h2;subst h2;refine br ?_ ?_<;>intro hf
  ·have hf:(bM (.mk xh xp) m').1.1≠0:=sU hf;rw [ap hf] at aP;subst aP;exact ⟨Ft.d _,[bC ⟨ae,order,types,.mk rh rp⟩ (.pt lc 0) (.loc 1 0) (bM (.mk xh xp) m').2,D0 ⟨ae,order,types,.mk rh rp⟩ aH lc],ax,fU,rfl,rfl⟩
  ·have hf:(bM (.mk xh xp) m').1.1=0:=sU hf;rw [ai (by rw [hf];simp)] at aP;obtain ⟨g1,g2,_,_⟩:=nc hf;exact ⟨zo ⟨ae,order,types,.mk rh rp⟩ lc (D0 ⟨ae,order,types,.mk rh rp⟩ aH lc) (bM (.mk xh xp) m').2 types (e + 1),(wkB 3 (nz (nxt ay (by omega))) (cQ (nxt ay (by omega)))),types.length - (e + 1),by omega,e + 1,_,rfl,by omega,by omega,g2,aP,rfl⟩
 ·have hge:e=types.length:=sW hN hL;subst hge;rw [List.drop_length,eaR] at aP;refine cX 2 0 Ut rfl rfl rfl fU fU (hR m' sf A9 (.mk rh rp) (.inl rfl)) (fun r iA cr hΦ h1 h2=>?_);obtain ⟨rfl,rfl⟩:=hΦ;have h2:=List.eq_nil_of_length_eq_zero h2;subst h2;subst aP;exact ⟨Ft.d _,[bC ⟨ae,order,types,.mk rh rp⟩ (.pt lc 0) (.loc 1 0) (bM (.mk rh rp) m').2,D0 ⟨ae,order,types,.mk rh rp⟩ aH lc],ax,fU,rfl,rfl⟩
def dV (s:Sch):Ft:=if 64 < s.types.length then (8,RR (si s) 64) else enumL (si s) 0 (si s)
def NS (s:Sch) (lc:List DV) (r:DV) (os:List (List DV)) (_:List TkE):Prop:=
 r=(dV s).d/\((dV s).1=0->∃ aH,gw (tL s) aH/\aH.length<=s.types.length/\os=[bC s (.pt lc 0) (.loc 1 0) 0,D0 s aH lc])
abbrev K3 (s:Sch) (lc:List DV) (n e:Nat):St:=
 ⟨[aF 0 0,aF 2 2,(3,⟨[],.sl 1 (ee (aA ((si s).take e))) (some 0)⟩),bc 27 11 (dNms s.types),aw 28 ((dNms s.types).length),aw 29 e],
  [bC s (.pt lc 0) (.loc 1 0) 0,[.pt lc 0,.v (.slice none 0 0),.v (.int .i64 0),.v (.pointer none),.v (.slice none 0 0)],[.v (.int .i64 0),.v (.int .i64 0)]],[⟨n,9,1,none⟩]⟩
theorem zp (s:Sch) (lc:List DV) (hs:nmsWt s.types<=1099511627776) :
  Ev prog 26 [.loc 0 0] [bC s (.pt lc 0) (.loc 1 0) 0,[.pt lc 0,.v (.slice none 0 0),.v (.int .i64 0),.v (.pointer none),.v (.slice none 0 0)]] [] (NS s lc):=by
 have hN:=di s.types;have iJ:=iZ s.types;have jv:=F7 s;have hF:=dV.eq_1 s;have iN:∀ {e:Nat} {x:Wd × Ty},s.types[e]? = some x->(si s)[e]? = some x.1:=fun h=>by simp [si,h]
 have dM:=tR (tL s) (by rw [jB];omega);have Wc:tL s=aA (si s):=rfl
 have hw:∀ x∈s.types,x.1.s.size<=1099511627776:=fun x hx=>by
  have:=fO hx;simp only [Wd.wt] at this;omega
 obtain ⟨ae,order,types,⟨rh,rp⟩⟩:=s;simp only at hs hN iJ jv iN hw hF;generalize hQ:si ⟨ae,order,types,.mk rh rp⟩=Q at jv hF iN Wc;refine eG 67 [.cell 2 44] func26 rfl ntmps26 rfl fun _ _ _ _=>?_;refine br ?_ ?_<;>intro h
 ·have h:64 < types.length:=by simp [hN] at h;omega
  obtain ⟨x,hx⟩:∃ x,types[64]? = some x:=⟨_,gE h⟩;have RV:=iN hx;rw [ap h,jQ RV] at hF;obtain ⟨xw,⟨xh,xp⟩⟩:=x;refine iX (dNms_get hx) ?_;refine ⟨Ft.d (8,xw.a),[bC ⟨ae,order,types,.mk rh rp⟩ (.pt lc 0) (.loc 1 0) 0,[.pt lc 0,.v (.slice none 0 0),.v (.int .i64 0),.v (.pointer none),.v (.slice none 0 0)]],ax,fU,by rw [hF],fun h0=>by rw [hF] at h0;simp at h0⟩
 have h:¬ 64 < types.length:=by simp [hN] at h;omega
 rw [ai h] at hF;refine lI (fun j st=>∃ e:Nat,st=K3 ⟨ae,order,types,.mk rh rp⟩ lc e e/\e<=types.length/\(aA (Q.take e)).Nodup/\enumL Q 0 Q=enumL Q e (Q.drop e)/\j=types.length - e) ⟨0,rfl,by omega,by simp [aA],rfl,rfl⟩ (dA 3 ⟨0,9,1,none⟩ rfl rfl rfl nY rfl rfl jX) ?_;rintro j st ⟨e,rfl,he,hnd,aP,rfl⟩;rw [aP] at hF;refine br ?_ ?_<;>intro hL
 ·have ay:e < types.length:=by have:=hL;simp [hN] at this;exact this
  obtain ⟨x,hx⟩:=gX ay;have PN:=hw x (mG hx);have hq:=iN hx;have gO:=iY hq;have bh:=og hq;have CM:=lp hq hnd;have KL:=n8 (aA (Q.take (e + 1))) (by simp [aA];omega);rw [<- gO] at KL;obtain ⟨xw,⟨xh,xp⟩⟩:=x;simp only at PN hq gO bh CM KL;refine iX (dNms_get hx) ?_;rw [hQ];refine ⟨by simp [bQ,aA];omega,⟨by simp [bQ,aA,maxLen];omega,by simp [bQ,aA];omega⟩,?_⟩;refine cP yS (eC xw.s (by omega)) ?_;refine br ?_ ?_<;>intro F8
  ·have F8:aZ xw.s=false:=sU F8;have hf:aG Q e xw=9:=by simp [aG,F8]
   rw [bh,hf,ap (by decide)] at hF;refine ⟨Ft.d (9,xw.a),[bC ⟨ae,order,types,.mk rh rp⟩ (.pt lc 0) (.loc 1 0) 0,[.pt lc 0,.v (.slice none 0 0),.v (.int .i64 0),.v (.pointer none),.v (.slice none 0 0)]],ax,fU,by rw [hF],fun h0=>by rw [hF] at h0;simp at h0⟩
  ·have F8:aZ xw.s=true:=sU F8;refine cp Rm rfl KL ax (fun r hr=>?_);obtain ⟨z,rfl,hz⟩:=hr;refine br ?_ ?_<;>intro h2
   ·have h2:0<=z:=sU h2;have hd:bX (Q.take e) xw.s=true:=by grind
    have hf:aG Q e xw=10:=by simp [aG,F8,hd]
    rw [bh,hf,ap (by decide)] at hF;refine ⟨Ft.d (10,xw.a),[bC ⟨ae,order,types,.mk rh rp⟩ (.pt lc 0) (.loc 1 0) 0,[.pt lc 0,.v (.slice none 0 0),.v (.int .i64 0),.v (.pointer none),.v (.slice none 0 0)]],ax,fU,by rw [hF],fun h0=>by rw [hF] at h0;simp at h0⟩
   ·have h2:¬ 0<=z:=sU h2;have v7:(aA (Q.take (e + 1))).Nodup:=Classical.byContradiction fun hn=>h2 (hz.2 hn);have hf:aG Q e xw=0:=by simp [aG,F8,CM.1 v7]
    rw [hf,ai (by simp)] at bh;have Wf:ee (aA (Q.take e)) ++ [[DV.v (.string xw.s)]]=ee (aA ((si ⟨ae,order,types,.mk rh rp⟩).take (e + 1))):=by rw [hQ];exact gO
    refine ⟨K3 ⟨ae,order,types,.mk rh rp⟩ lc (e + 1) (e + 1),(wkB 3 (wA2 (nxt ay (by omega)) Wf) (wB2 (nxt ay (by omega)) Wf)),types.length - (e + 1),by omega,e + 1,rfl,by omega,v7,aP.trans bh,rfl⟩
 ·have hge:e=types.length:=sW hN hL;have h0:enumL Q e (Q.drop e)=(0,0):=by rw [hge,<- jv,List.drop_length];all_goals rfl
  rw [h0] at hF;have ht:Q.take e=Q:=by rw [hge,<- jv,List.take_length]
  have hEq:aA ((si ⟨ae,order,types,.mk rh rp⟩).take e)=tL ⟨ae,order,types,.mk rh rp⟩:=by rw [hQ,ht,Wc]
  rw [<- hEq] at dM;refine dS ?_;refine oY Rk rfl dM ax (fun De hr=>?_);obtain ⟨aH,hT,kL,rfl⟩:=hr;rw [hEq] at hT kL;have X2:DV.pt (cw (aA ((si ⟨ae,order,types,.mk rh rp⟩).take e)) aH) 0=DV.pt (cw (tL ⟨ae,order,types,.mk rh rp⟩) aH) 0:=congrArg (fun L=>DV.pt (cw L aH) 0) hEq;rw [jB] at kL;exact ⟨Ft.d (0,0),[bC ⟨ae,order,types,.mk rh rp⟩ (.pt lc 0) (.loc 1 0) 0,D0 ⟨ae,order,types,.mk rh rp⟩ aH lc],ax,(by repeat' (first | exact rfl | exact trivial | exact Or.inr (Or.inl ⟨_,rfl⟩) | exact Or.inr ⟨_,rfl⟩ | exact Or.inl ⟨rfl,rfl⟩ | exact Or.inl rfl | refine Or.inr ⟨_,_,rfl,Nat.zero_le _,rfl,?_⟩ | refine ⟨_,_,rfl,?_,?_⟩ | refine ⟨_,rfl,?_⟩ | exact ⟨nL rfl,rfl⟩ | exact Or.inl X2 | refine Or.inr (Or.inr (Or.inr ⟨_,_,rfl,?_⟩)) | exact Or.inl rfl | refine Or.inr ?_)),by rw [hF],fun _=>⟨aH,hT,kL,rfl⟩⟩
def firstA (s:Sch) (k:Nat):Nat:=((s.types.take k).map fun x=>x.2.nn).sum
theorem mz {s:Sch} {k:Nat} {x:Wd × Ty} (h:s.types[k]? = some x):firstA s (k + 1)=firstA s k + x.2.nn:=by
 unfold firstA;rw [List.take_add_one,h];simp
theorem xM (s:Sch):∀ k,firstA s k<=nmsWt s.types:=by
 intro k;unfold firstA;generalize s.types=l
 induction l generalizing k with
 | nil=>simp
 | cons x r ih=>
  cases k with
  | zero=>simp
  | succ k=>
   have h1:=ih k;have h2:=x.2.fH;have h3:=x.2.dP
   grind [nmsWt]
def namedN (s:Sch) (i:Nat):Nat:=firstA s ((endI s (s.types.length + 1) i).getD 0)
def namedL (s:Sch):List Nat:=(List.range s.types.length).map (namedN s)
theorem Wg (n:Nat):(List.replicate n (vL [Value.int .i64 0])).flatten=cZ (List.replicate n 0):=by
 induction n with
 | zero=>rfl
 | succ n ih=>simp only [List.replicate_succ,List.flatten_cons,ih];rfl
theorem sI {n m:Nat} {tk:List TkE} {l:List DV} {js:List Int} (h:l=cZ js):WeL n m tk l (cZ js):=by rw [h];exact qq js
abbrev RY (s:Sch) (lc pc:List DV) (m:Int) (l:List Int) (aK e:Nat):St:=
 ⟨[aF 0 0,(2,⟨[],.ms 2 1 0 (dNms s.types).length (dNms s.types).length⟩),aw 3 aK,bc 18 11 (dNms s.types),aw 19 ((dNms s.types).length),aw 20 e],
  [bC s (.pt lc 0) (.loc 1 0) m,pc,cZ l],[]⟩
abbrev Wh (s:Sch) (aH:List Nat) (lc:List DV) (m:Int) (l:List Int) (n e:Nat):St:=
 ⟨[aF 0 0,(2,⟨[],.ms 2 1 0 (dNms s.types).length (dNms s.types).length⟩),aw 40 ((dNms s.types).length),aw 41 e],
  [bC s (.pt lc 0) (.loc 1 0) m,pC s aH (.pt lc 0) (.v (.slice none 0 0)) (.v (.int .i64 0)) (.sl 1 (dInts ((namedL s).take e)) (some 0)),cZ l],[⟨n,3,1,none⟩]⟩
def NT (s:Sch) (aH:List Nat) (lc:List DV) (m:Int) (_:DV) (os:List (List DV)) (_:List TkE):Prop:=
 os=[bC s (.pt lc 0) (.loc 1 0) m,pC s aH (.pt lc 0) (.v (.slice none 0 0)) (.v (.int .i64 0)) (.sl 1 (dInts (namedL s)) none)]
theorem RZ {l:List Int} {i:Nat} {z:Int} (h:l[i]? = some z):(cZ l)[i]? = some (DV.v (.int .i64 z)):=by simp [cZ,h]
theorem BH (s:Sch) (lc:List DV) (aH:List Nat) (m:Int) (hT:gw (tL s) aH) (kL:aH.length<=1099511627776) (hl:s.types.length<=64) (hr:∀ x∈s.types,sj s x.2=true) (hs:nmsWt s.types<=1099511627776)
  (hlo:∀ i,i < s.types.length->∃ k,endI s (s.types.length + 1) i=some k) :
  Ev prog 31 [.loc 0 0] [bC s (.pt lc 0) (.loc 1 0) m,D0 s aH lc] [] (NT s aH lc m):=by
 have hN:=di s.types
 have Rx:∀ x∈s.types,x.2.wt<=1099511627776:=fun x hx=>by
  have:=fO hx;omega
 have Wi:=xM s;have MU:=fun {k:Nat} {x:Wd × Ty}=>@mz s k x;have iJ:(namedL s).length=s.types.length:=by simp [namedL]
 have wj:=fun (e0:DV)=>BF s (.pt lc 0) aH (.pt lc 0) (.v (.slice none 0 0)) (.v (.int .i64 0)) e0 m hT kL hl hr;obtain ⟨ae,order,types,⟨rh,rp⟩⟩:=s;simp only at hl hr hN hs Rx Wi MU iJ wj hlo;have hN2:(dNms (⟨ae,order,types,.mk rh rp⟩:Sch).types).length=types.length:=hN;refine eG 66 [] func31 rfl ntmps31 rfl fun _ _ _ _=>?_;refine ⟨⟨rfl,by omega,by omega,by omega⟩,?_⟩
 refine aY (fun j st=>∃ (e:Nat) (l:List Int),st=RY ⟨ae,order,types,.mk rh rp⟩ lc (D0 ⟨ae,order,types,.mk rh rp⟩ aH lc) m l (firstA ⟨ae,order,types,.mk rh rp⟩ e) e/\e<=types.length/\l.length=types.length/\(∀ i:Nat,i < e->l[i]? = some (firstA ⟨ae,order,types,.mk rh rp⟩ i:Int))/\j=types.length - e) types.length
  (RY ⟨ae,order,types,.mk rh rp⟩ lc (D0 ⟨ae,order,types,.mk rh rp⟩ aH lc) m (List.replicate ((dNms types).length:Int).toNat 0) (firstA ⟨ae,order,types,.mk rh rp⟩ 0) 0) (wkB 3 (by repeat' (first | exact rfl | exact aE rfl | exact sI (Wg _) | refine ⟨_,_,rfl,?_,?_⟩)) (by repeat' (first | exact trivial | exact aE rfl | exact sI (Wg _) | refine ⟨⟨_,rfl,?_⟩,?_⟩))) ⟨0,_,rfl,by omega,by simp [hN],fun _ h=>by omega,by omega⟩ ?_
 rintro j st ⟨e,l,rfl,he,R0,NU,rfl⟩;refine br ?_ ?_<;>intro hL
 ·have ay:e < types.length:=by have:=hL;simp [hN] at this;exact this
  obtain ⟨x,hx⟩:=gX ay;have Wj:=Rx x (mG hx);have lT:=MU hx;have IM:=Wi (e + 1);obtain ⟨xw,⟨xh,xp⟩⟩:=x;have hnd:=uF (Ty.mk xh xp).wt (.mk xh xp) (aU _) Wj;refine iX (dNms_get hx) ?_;refine ⟨⟨by omega,by omega⟩,?_⟩;refine ⟨by rw [RP];omega,?_⟩;refine cP UE hnd ?_;simp only at lT IM;have nV:(cZ l).set (0 + (e:Int).toNat * 1) (DV.v (.int .i64 ((firstA ⟨ae,order,types,.mk rh rp⟩ e:Nat):Int)))=cZ (l.set e ((firstA ⟨ae,order,types,.mk rh rp⟩ e:Nat):Int)):=by grind [KQ]
  have sD:IntKind.i64.wrap (((firstA ⟨ae,order,types,.mk rh rp⟩ e:Nat):Int) + (Ty.mk xh xp).nn)=((firstA ⟨ae,order,types,.mk rh rp⟩ (e + 1):Nat):Int):=by grind [wrap64]
  refine ⟨RY ⟨ae,order,types,.mk rh rp⟩ lc (D0 ⟨ae,order,types,.mk rh rp⟩ aH lc) m (l.set e ((firstA ⟨ae,order,types,.mk rh rp⟩ e:Nat):Int)) (firstA ⟨ae,order,types,.mk rh rp⟩ (e + 1)) (e + 1),(wkB 3 (by repeat' (first | exact rfl | exact aE rfl | exact sI nV | exact aD sD | exact aD (nxt ay (by omega)) | refine ⟨_,_,rfl,?_,?_⟩)) (by repeat' (first | exact trivial | exact aE rfl | exact sI nV | exact aD sD | exact aD (nxt ay (by omega)) | refine ⟨⟨_,rfl,?_⟩,?_⟩))),types.length - (e + 1),by omega,e + 1,_,rfl,by omega,by rw [List.length_set];exact R0,fun i hi=>?_,rfl⟩;by_cases IJ:i=e
  ·grind
  ·grind
 ·have hge:e=types.length:=sW hN hL;subst hge;refine lJ (fun e=>Wh ⟨ae,order,types,.mk rh rp⟩ aH lc m l e e) types.length (dA 3 ⟨0,3,1,none⟩ rfl rfl rfl nY rfl rfl jX) ?_;intro e he;refine br ?_ ?_<;>intro hL
  ·have ay:e < types.length:=by have:=hL;simp [hN] at this;exact this
   obtain ⟨k,hk⟩:=hlo e ay;have oD:=(pu hk).1;simp only at oD;have hE:=wj (.sl 1 (dInts ((namedL ⟨ae,order,types,.mk rh rp⟩).take e)) none) e ay;rw [hk] at hE;have hnn:namedN ⟨ae,order,types,.mk rh rp⟩ e=firstA ⟨ae,order,types,.mk rh rp⟩ k:=by unfold namedN;rw [hk];all_goals rfl
   have iN:(namedL ⟨ae,order,types,.mk rh rp⟩)[e]? = some (firstA ⟨ae,order,types,.mk rh rp⟩ k):=by grind [namedL]
   have gO:dInts ((namedL ⟨ae,order,types,.mk rh rp⟩).take e) ++ [[DV.v (.int .i64 ((firstA ⟨ae,order,types,.mk rh rp⟩ k:Nat):Int))]]=dInts ((namedL ⟨ae,order,types,.mk rh rp⟩).take (e + 1)):=by
    rw [List.take_add_one,iN];simp [dInts]
   refine dS ?_;refine pj en74 hE ax rfl rfl ?_;refine ⟨⟨by simp only [oz];omega,by simp only [oz];omega⟩,?_⟩;have NV:(cZ l)[0 + (oz (some k)).toNat * 1]? = some (DV.v (.int .i64 ((firstA ⟨ae,order,types,.mk rh rp⟩ k:Nat):Int))):=by grind [oz,RZ]
   refine ⟨_,NV,?_⟩;refine ⟨by simp [bo];omega,⟨by simp [bo,maxLen];omega,by simp [bo];omega⟩,?_⟩;exact rE ⟨_,by omega,e + 1,rfl,by omega,rfl⟩ (wkB 3 (wA2 (nxt ay (by omega)) gO) (wB2 (nxt ay (by omega)) gO))
  ·have hge:e=types.length:=sW hN hL;subst hge;have ht:(namedL ⟨ae,order,types,.mk rh rp⟩).take types.length=namedL ⟨ae,order,types,.mk rh rp⟩:=by rw [<- iJ,List.take_length]
   rw [ht];exact ⟨.tup [],[bC ⟨ae,order,types,.mk rh rp⟩ (.pt lc 0) (.loc 1 0) m,pC ⟨ae,order,types,.mk rh rp⟩ aH (.pt lc 0) (.v (.slice none 0 0)) (.v (.int .i64 0)) (.sl 1 (dInts (namedL ⟨ae,order,types,.mk rh rp⟩)) none)],ax,fU,rfl⟩
structure Ed where
 name:ByteArray
 bare:Bool
 aK:Int
 to:Int
 label:Int
 wide:Int
 ck:Int
 cn:Int
 seen:Int
 ca:Int
structure Nd where
 ag:Int
 aK:Int
 lo:Int
 hi:Int
 most:Int
 af:List ByteArray
 aC:List Ed
def nC (e:Ed):List DV:=[.v (.string e.name),.v (.bool e.bare),.v (.int .i64 e.aK),.v (.int .i64 e.to),.v (.int .i64 e.label),.v (.int .i64 e.wide),.v (.int .i64 e.ck),.v (.int .i64 e.cn),.v (.int .i64 e.seen),.v (.int .i64 e.ca)]
def gW (l:List Ed):List (List DV):=l.map nC
def nD (n:Nd):List DV:=[.v (.int .i64 n.ag),.v (.int .i64 n.aK),.v (.int .i64 n.lo),.v (.int .i64 n.hi),.v (.int .i64 n.most),.sl 1 (ee n.af) none,.sl 10 (gW n.aC) none]
def cI (l:List Nd):List (List DV):=l.map nD
def kr (w:Int):Int:=if w=0 then 3 else w
def uI (lev:List Wd->Int) (p:Ph) (to:Int):Ed:=⟨p.name.s,p.bare,p.name.a,to,lev p.label,kr p.wide,p.ck,p.cn,lev p.cl,p.ca⟩
def R4 (s:Sch) (name:ByteArray):Int:=(namedN s ((cy (tL s) name).getD 0):Int)
def mA (s:Sch) (t:Ty) (k:Nat):Int:=if t.h.ag=9 then R4 s t.h.name.s else (k:Int)
def sJ (s:Sch) (p:Ph) (u:Ty) (k:Nat):Int:=if p.bare then -1 else mA s u k
mutual
def ndsT (lev:List Wd->Int) (s:Sch):Ty->Nat->List Nd
 | .mk h ps,k=>if h.ag=9 then [] else ⟨h.ag,h.aK,h.lo,h.hi,h.most,aA h.af,edsP lev s ps (k + 1)⟩ :: uJ lev s ps (k + 1)
def edsP (lev:List Wd->Int) (s:Sch):Pts->Nat->List Ed
 | .nil,_=>[]
 | .cons p u r,k=>uI lev p (sJ s p u k) :: edsP lev s r (k + if p.bare then 0 else u.nn)
def uJ (lev:List Wd->Int) (s:Sch):Pts->Nat->List Nd
 | .nil,_=>[]
 | .cons p u r,k=>(if p.bare then [] else ndsT lev s u k) ++ uJ lev s r (k + if p.bare then 0 else u.nn)
end
mutual
theorem jC (lev:List Wd->Int) (s:Sch):∀ (t:Ty) (k:Nat),(ndsT lev s t k).length=t.nn
 | .mk h ps,k=>by
  simp only [ndsT,Ty.nn];split
  ·rfl
  ·rw [List.length_cons,uK lev s ps];omega
theorem uK (lev:List Wd->Int) (s:Sch):∀ (ps:Pts) (k:Nat),(uJ lev s ps k).length=ps.nn
 | .nil,k=>rfl
 | .cons p u r,k=>by
  simp only [uJ,Pts.nn,List.length_append,uK lev s r];split
  ·rfl
  ·rw [jC lev s u]
end
abbrev IU (s:Sch) (aH:List Nat) (lc:List DV) (n:Nat):List DV:=pC s aH (.pt lc 0) (.sl 0 (List.replicate n []) (some 0)) (.v (.int .i64 0)) (.sl 1 (dInts (namedL s)) none)
abbrev D2 (n:Nat) (base:List DV):TkE:=⟨n,165,7,some base⟩
def P5 (s:Sch) (aH:List Nat) (lc:List DV) (m:Int) (n:Nat) (base:List DV) (y:DV) (zq:List Nd) (r:DV) (os:List (List DV)) (tk:List TkE):Prop:=
 r=y/\os=[bC s (.pt lc 0) (.loc 1 0) m,IU s aH lc (n + zq.length)]/\tk=[D2 (n + zq.length) (base ++ (cI zq).flatten)]
def K4 (lev:List Wd->Int) (s:Sch) (aH:List Nat) (lc:List DV) (m:Int) (t:Ty):Prop:=
 ∀ (n:Nat) (base:List DV),n + t.nn<=1099511627776->base.length=n * 7 ->
  Ev prog 32 [.loc 0 0,.agg (dB t)] [bC s (.pt lc 0) (.loc 1 0) m,IU s aH lc n] [D2 n base] (P5 s aH lc m n base (.v (.int .i64 (mA s t n))) (ndsT lev s t n))
theorem HC {X:Lx} (hX:X.OK) (s:Sch) (aH:List Nat) (m:Int) (p:Ph) (u:Ty) (hp:p.wt<=1099511627776) (gA:p.bare=false->K4 X.lev s aH (gV X.af (cw X.af X.aH) X.rows X.js) m u)
  (n:Nat) (base:List DV) (hb:p.bare=false->n + u.nn<=1099511627776) (hbl:base.length=n * 7) :
  Ev prog 76 [.loc 0 0,.agg (Dk p (dB u))] [bC s (.pt (gV X.af (cw X.af X.aH) X.rows X.js) 0) (.loc 1 0) m,IU s aH (gV X.af (cw X.af X.aH) X.rows X.js) n] [D2 n base]
   (P5 s aH (gV X.af (cw X.af X.aH) X.rows X.js) m n base (.agg (nC (uI X.lev p (sJ s p u n)))) (if p.bare then [] else ndsT X.lev s u n)):=by
 have hw1:wdsWt p.label + wdsWt p.cl<=p.wt:=by simp only [Ph.wt];omega
 have IC:X.pd = .pt (gV X.af (cw X.af X.aH) X.rows X.js) 0:=rfl;have Fv:=fun pc=>uG hX s pc m p.label (by omega);have R5:=fun pc=>uG hX s pc m p.cl (by omega);rw [IC] at Fv R5;have hE:=fun to=>uI.eq_1 X.lev p to;have qP:=sJ.eq_1 s p u n;generalize gV X.af (cw X.af X.aH) X.rows X.js=lc at Fv R5 gA ⊢;obtain ⟨ae,order,types,⟨rh,rp⟩⟩:=s;obtain ⟨uh,us⟩:=u;refine eG 52 [.cell 4 115] func76 rfl ntmps76 rfl fun _ _ _ _=>?_;have P6:=Fv [.pt lc 0,.sl 0 (List.replicate n []) none,.v (.int .i64 0),.pt (cw (tL ⟨ae,order,types,.mk rh rp⟩) aH) 0,.sl 1 (dInts (namedL ⟨ae,order,types,.mk rh rp⟩)) none];have P7:=R5 [.pt lc 0,.sl 0 (List.replicate n []) none,.v (.int .i64 0),.pt (cw (tL ⟨ae,order,types,.mk rh rp⟩) aH) 0,.sl 1 (dInts (namedL ⟨ae,order,types,.mk rh rp⟩)) none];apply mT (fun _=>false) 11 15 [0,1,2,3,4,5,6,7,8,9,10,11,12,13,14,15,16] [0,1,2,3,4,5,6,7,8,9,10,15,11,12,13,14,16] 4 4 mo (by decide +kernel)
 ·refine pj FH P6 ax rfl rfl ?_;refine (?_:@Eq St _ _);exact rfl
 ·refine pj FH P6 ax rfl rfl ?_;refine (⟨rfl,rfl,?_⟩:_/\_/\_)
  repeat' (first | exact trivial | refine ⟨rfl,?_⟩)
 ·rfl
 refine br ?_ ?_<;>intro hw
 ·have hw:p.wide=0:=sU hw;refine sC [4] (fun _=>false) mo (by decide +kernel) ?_;refine pj FH P7 ax rfl rfl ?_;refine br ?_ ?_<;>intro hB
  ·have hB:p.bare=false:=sU hB;refine cX 2 1 Nn rfl rfl rfl fU fU (gA hB n base (hb hB) hbl) (fun r iA cr hΦ h1 h2=>?_);obtain ⟨rfl,rfl,rfl⟩:=hΦ;refine ⟨.agg (nC ⟨p.name.s,p.bare,p.name.a,mA ⟨ae,order,types,.mk rh rp⟩ (.mk uh us) n,X.lev p.label,3,p.ck,p.cn,X.lev p.cl,p.ca⟩),[bC ⟨ae,order,types,.mk rh rp⟩ (.pt lc 0) (.loc 1 0) m,IU ⟨ae,order,types,.mk rh rp⟩ aH lc (n + (ndsT X.lev ⟨ae,order,types,.mk rh rp⟩ (.mk uh us) n).length)],ax,fU,?_,?_,?_⟩
   ·simp [hE,sJ,hB,kr,hw]
   ·simp [hB]
   ·simp [hB]
  ·have hB:p.bare=true:=sU hB;refine ⟨.agg (nC ⟨p.name.s,p.bare,p.name.a,-1,X.lev p.label,3,p.ck,p.cn,X.lev p.cl,p.ca⟩),[bC ⟨ae,order,types,.mk rh rp⟩ (.pt lc 0) (.loc 1 0) m,IU ⟨ae,order,types,.mk rh rp⟩ aH lc n],ax,fU,?_,?_,?_⟩
   ·simp [hE,sJ,hB,kr,hw]
   ·simp [hB]
   ·simp [hB,cI]
 ·have hw:¬ p.wide=0:=sU hw;refine sC [4] (fun _=>false) mo (by decide +kernel) ?_;refine pj FH P7 ax rfl rfl ?_;refine br ?_ ?_<;>intro hB
  ·have hB:p.bare=false:=sU hB;refine cX 2 1 Nn rfl rfl rfl fU fU (gA hB n base (hb hB) hbl) (fun r iA cr hΦ h1 h2=>?_);obtain ⟨rfl,rfl,rfl⟩:=hΦ;refine ⟨.agg (nC ⟨p.name.s,p.bare,p.name.a,mA ⟨ae,order,types,.mk rh rp⟩ (.mk uh us) n,X.lev p.label,p.wide,p.ck,p.cn,X.lev p.cl,p.ca⟩),[bC ⟨ae,order,types,.mk rh rp⟩ (.pt lc 0) (.loc 1 0) m,IU ⟨ae,order,types,.mk rh rp⟩ aH lc (n + (ndsT X.lev ⟨ae,order,types,.mk rh rp⟩ (.mk uh us) n).length)],ax,fU,?_,?_,?_⟩
   ·simp [hE,sJ,hB,kr,hw]
   ·simp [hB]
   ·simp [hB]
  ·have hB:p.bare=true:=sU hB;refine ⟨.agg (nC ⟨p.name.s,p.bare,p.name.a,-1,X.lev p.label,p.wide,p.ck,p.cn,X.lev p.cl,p.ca⟩),[bC ⟨ae,order,types,.mk rh rp⟩ (.pt lc 0) (.loc 1 0) m,IU ⟨ae,order,types,.mk rh rp⟩ aH lc n],ax,fU,?_,?_,?_⟩
   ·simp [hE,sJ,hB,kr,hw]
   ·simp [hB]
   ·simp [hB,cI]
def Yt (h:Hd):List DV:=[.v (.int .i64 h.ag),.v (.int .i64 h.aK),.v (.int .i64 h.lo),.v (.int .i64 h.hi),.v (.int .i64 h.most),.sl 1 (ee (aA h.af)) none,.v (.slice none 0 0)]
theorem NW {h:Hd} {base R:List DV} {n:Nat} {x:DV} (hb:base.length=n * 7):(base ++ (Yt h ++ R)).set (n * 7 + 6) x=base ++ ([.v (.int .i64 h.ag),.v (.int .i64 h.aK),.v (.int .i64 h.lo),.v (.int .i64 h.hi),.v (.int .i64 h.most),.sl 1 (ee (aA h.af)) none,x] ++ R):=by
 rw [List.set_append_right _ _ (by omega),hb,Nat.add_sub_cancel_left];rfl
theorem xN (l:List Ed) (e:Ed):gW l ++ [nC e]=gW (l ++ [e]):=by simp [gW]
theorem dj (l:List Ed):(gW l).length=l.length:=by simp [gW]
theorem pv (lev:List Wd->Int) (s:Sch):∀ (ps:Pts) (k:Nat),(edsP lev s ps k).length=ps.len
 | .nil,_=>rfl
 | .cons p u r,k=>by simp [edsP,Pts.len,pv lev s r]
abbrev Wl (s:Sch) (aH:List Nat) (lc:List DV) (m:Int) (n:Nat) (base:List DV) (h:Hd) (ps:Pts) (q e:Nat):St:=
 ⟨[aF 0 0,aF 3 2,aw 7 n,aF 8 3,bc 61 2 (bw h.af),aw 62 ((bw h.af).length),aw 63 e],
  [bC s (.pt lc 0) (.loc 1 0) m,IU s aH lc n,dB (.mk h ps),[.v (.int .i64 h.ag),.v (.int .i64 h.aK),.v (.int .i64 h.lo),.v (.int .i64 h.hi),.v (.int .i64 h.most),.sl 1 (ee (aA (h.af.take e))) (some 1),.v (.slice none 0 0)]],
  [D2 n base,⟨q,9,1,none⟩]⟩
abbrev K5 (s:Sch) (aH:List Nat) (lc:List DV) (m:Int) (n:Nat) (h:Hd) (ps:Pts) (n':Nat) (pw:List DV) (Es:List Ed) (q1 q2 e:Nat):St:=
 ⟨[aF 0 0,aF 3 2,aw 7 n,(11,⟨[],.sl 10 (gW Es) (some 2)⟩),bc 92 18 (eW ps),aw 93 ((eW ps).length),aw 94 e],
  [bC s (.pt lc 0) (.loc 1 0) m,IU s aH lc n',dB (.mk h ps)],
  [D2 n' pw,⟨q1,9,1,none⟩,⟨q2,115,10,none⟩]⟩
theorem lz {X:Lx} {L:List ByteArray} {h:Hd} {ps:Pts} (hk:(knT X L (.mk h ps)).1=0):(h.ag=9->cy L h.name.s≠none)/\(knP X L ps).1=0:=by grind [knT]
theorem qQ {X:Lx} {L:List ByteArray} {p:Ph} {u:Ty} {r:Pts} (hk:(knP X L (.cons p u r)).1=0):(p.bare=false->(knT X L u).1=0)/\(knP X L r).1=0:=by grind [knP]
theorem xO {X:Lx} (hX:X.OK) (s:Sch) (aH:List Nat) (m:Int) (hT:gw (tL s) aH) (kL:aH.length<=1099511627776):∀ (k:Nat) (t:Ty),t.wt<=k->t.wt<=1099511627776->(knT X (tL s) t).1=0 ->
  K4 X.lev s aH (gV X.af (cw X.af X.aH) X.rows X.js) m t
 | 0,t,hn,_,_=>by have:=t.dE;omega
 | k + 1,.mk h ps,hn,bO,CK=>by
  have ih:=xO hX s aH m hT kL k;intro n base hnb hbl;obtain ⟨hk9,R6⟩:=lz CK;have mB:=fun (p:Ph) (u:Ty)=>HC hX s aH m p u;generalize gV X.af (cw X.af X.aH) X.rows X.js=lc at ih mB ⊢;simp only [Ty.wt,Hd.wt] at hn bO;have ke:=ps.eV;have iJ:=bi h.af;have hf:=gU (tL s) aH h.name.s hT kL;have jv:=jB s;have hnmL:(namedL s).length=s.types.length:=by simp [namedL]
  have NX:mA s (.mk h ps) n=if h.ag=9 then R4 s h.name.s else (n:Int):=rfl
  have HE:ndsT X.lev s (.mk h ps) n=if h.ag=9 then [] else ⟨h.ag,h.aK,h.lo,h.hi,h.most,aA h.af,edsP X.lev s ps (n + 1)⟩ :: uJ X.lev s ps (n + 1):=by rw [ndsT]
  have hnn:(Ty.mk h ps).nn=if h.ag=9 then 0 else 1 + ps.nn:=by rw [Ty.nn]
  generalize hS:s=S at *;subst hS;obtain ⟨ae,order,types,⟨rh,rp⟩⟩:=s;refine eG 117 [.tmp 4] func32 rfl ntmps32 rfl fun _ _ _ _=>?_;refine br ?_ ?_<;>intro h9
  ·have h9:h.ag=9:=sU h9;obtain ⟨i,hi⟩:=Option.ne_none_iff_exists'.1 (hk9 h9);have IL:=(cF hi).1;rw [hi] at hf;rw [ap h9] at NX HE;have iN:(namedL ⟨ae,order,types,.mk rh rp⟩)[i]? = some (namedN ⟨ae,order,types,.mk rh rp⟩ i):=by grind [namedL]
   refine dI ?_;refine cD tJ hf ?_;refine iX (dF iN) ?_;refine ⟨.v (.int .i64 (namedN ⟨ae,order,types,.mk rh rp⟩ i:Nat)),[bC ⟨ae,order,types,.mk rh rp⟩ (.pt lc 0) (.loc 1 0) m,IU ⟨ae,order,types,.mk rh rp⟩ aH lc n],ax,fU,?_,?_,?_⟩
   ·rw [NX,R4,hi];rfl
   ·rw [HE];rfl
   ·rw [HE];simp [cI]
  have h9:¬ h.ag=9:=sU h9;rw [ai h9] at NX HE hnn;have gn:(List.replicate n ([]:List DV)).length=n:=List.length_replicate;refine lJ (fun e=>Wl ⟨ae,order,types,.mk rh rp⟩ aH lc m n base h ps e e) h.af.length (dA 4 ⟨0,9,1,none⟩ rfl rfl rfl (nz gn) rfl rfl (cQ gn)) ?_;intro e he;refine br ?_ ?_<;>intro hL
  ·have ay:e < h.af.length:=by simpa [az] using hL
   obtain ⟨w,hw⟩:=gX ay;have gO:=iY hw;refine ⟨jt w,⟨by omega,aR hw⟩,?_⟩;refine ⟨by simp [bQ,aA];omega,⟨by simp [bQ,aA,maxLen];omega,by simp [bQ,aA];omega⟩,?_⟩;exact rE ⟨_,by omega,e + 1,rfl,by omega,rfl⟩ (wkB 4 (wA2 (nxt ay (by omega)) gO) (wB2 (nxt ay (by omega)) gO))
  have hge:e=h.af.length:=by have:=hL;simp [az] at this;omega
  subst hge;rw [List.take_length];refine dS ?_;refine ⟨⟨⟨gn,by simp⟩,by simp [maxLen];omega,by simp;omega⟩,?_⟩
  refine aY (fun j st=>∃ (e n':Nat) (pw:List DV) (Es:List Ed) (K:List Nd),st=K5 ⟨ae,order,types,.mk rh rp⟩ aH lc m n h ps n' pw Es h.af.length e e/\e<=ps.len/\n'=n + 1 + K.length/\pw=base ++ (Yt h ++ (cI K).flatten)/\Es.length=e /\
    K ++ uJ X.lev ⟨ae,order,types,.mk rh rp⟩ (ps.drop e) (n + 1 + K.length)=uJ X.lev ⟨ae,order,types,.mk rh rp⟩ ps (n + 1)/\Es ++ edsP X.lev ⟨ae,order,types,.mk rh rp⟩ (ps.drop e) (n + 1 + K.length)=edsP X.lev ⟨ae,order,types,.mk rh rp⟩ ps (n + 1)/\K.length + (ps.drop e).nn=ps.nn/\(knP X (tL ⟨ae,order,types,.mk rh rp⟩) (ps.drop e)).1=0/\j=ps.len - e) ps.len
   (K5 ⟨ae,order,types,.mk rh rp⟩ aH lc m n h ps (n + 1) (base ++ (Yt h ++ [])) [] h.af.length 0 0) (dA 3 ⟨0,115,10,none⟩ rfl rfl rfl nY rfl rfl jX) ⟨0,n + 1,_,[],[],rfl,by omega,rfl,rfl,rfl,rfl,rfl,by simp [Pts.drop],R6,by omega⟩ ?_
  rintro j st ⟨e,n',pw,Es,K,rfl,he,Pa,fv,S8,hK,Tl,Yu,MF,rfl⟩
  have hbl':pw.length=n' * 7:=by
   have:∀ l:List Nd,(cI l).flatten.length=l.length * 7:=by
    intro l
    induction l with
    | nil=>rfl
    | cons a r ih=>simp only [cI,List.map_cons,List.flatten_cons,List.length_append,List.length_cons] at ih ⊢;rw [ih];simp only [nD,List.length_cons,List.length_nil];omega
   rw [fv,List.length_append,List.length_append,this,hbl,Pa];simp only [Yt,List.length_cons,List.length_nil];omega
  refine br ?_ ?_<;>intro hL
  ·have ay:e < ps.len:=by simpa [aJ] using hL
   obtain ⟨p,u,hx⟩:=Pts.dO ay;have A5:=Pts.fD (mG hx);rw [Pts.drop_cons hx] at hK Tl Yu MF;obtain ⟨ru,G1⟩:=qQ MF;simp only [uJ] at hK;simp only [edsP] at Tl;simp only [Pts.nn] at Yu;rw [<- Pa] at hK Tl;have M7:=u.fH;have huc:=u.dP;have de:=mB p u (by omega) (fun hB=>ih u (by omega) (by omega) (ru hB)) n' pw (fun hB=>by rw [hB] at Yu;simp only [Bool.false_eq_true,if_false] at Yu;omega) hbl';have Wm:=jC X.lev ⟨ae,order,types,.mk rh rp⟩ u n';obtain ⟨uh,us⟩:=u;refine iX (bI hx) ?_;refine cX 2 1 ZS rfl rfl rfl fU fU de (fun r iA cr hΦ h1 h2=>?_);obtain ⟨rfl,rfl,rfl⟩:=hΦ;refine ⟨by rw [dj,S8],⟨by simp [dj,S8,maxLen];omega,by simp [dj,S8];omega⟩,?_⟩
   have hnl2:(if p.bare then [] else ndsT X.lev ⟨ae,order,types,.mk rh rp⟩ (.mk uh us) n').length=if p.bare then 0 else (Ty.mk uh us).nn:=by
    split
    ·rfl
    ·exact Wm
   have hidx2:n + 1 + (K.length + (if p.bare then 0 else (Ty.mk uh us).nn))=n' + if p.bare then 0 else (Ty.mk uh us).nn:=by rw [Pa];omega
   refine ⟨K5 ⟨ae,order,types,.mk rh rp⟩ aH lc m n h ps (n' + (if p.bare then [] else ndsT X.lev ⟨ae,order,types,.mk rh rp⟩ (.mk uh us) n').length) (pw ++ (cI (if p.bare then [] else ndsT X.lev ⟨ae,order,types,.mk rh rp⟩ (.mk uh us) n')).flatten) (Es ++ [uI X.lev p (sJ ⟨ae,order,types,.mk rh rp⟩ p (.mk uh us) n')]) h.af.length (e + 1) (e + 1),(wkB 3 (by repeat' (first | exact rfl | exact aE rfl | exact aD (nxt ay (by omega)) | exact bS (xN _ _) rfl | refine ⟨_,_,rfl,?_,?_⟩)) (by repeat' (first | exact trivial | exact aE rfl | exact aD (nxt ay (by omega)) | exact bS (xN _ _) rfl | refine ⟨⟨_,rfl,?_⟩,?_⟩))),
    ps.len - (e + 1),by omega,e + 1,_,_,_,K ++ (if p.bare then [] else ndsT X.lev ⟨ae,order,types,.mk rh rp⟩ (.mk uh us) n'),rfl,by omega,?_,?_,?_,?_,?_,?_,G1,rfl⟩
   ·rw [List.length_append,Pa];omega
   ·rw [fv];simp [cI]
   ·simp [S8]
   ·simp_all
   ·simp_all
   ·rw [List.length_append,hnl2];omega
  ·have hge:e=ps.len:=by have:=hL;simp [aJ] at this;omega
   subst hge;rw [Pts.cH] at hK Tl;simp only [uJ,List.append_nil] at hK;simp only [edsP,List.append_nil] at Tl;have hKl:K.length=ps.nn:=by rw [hK,uK]
   have hrl2:(List.replicate n' ([]:List DV)).length=n':=List.length_replicate;refine Hu (kt:=0) ⟨rfl,rfl⟩ ⟨rfl,rfl,rfl⟩ ⟨rfl,rfl,rfl⟩ rfl rfl rfl rfl rfl rfl rfl rfl rfl rfl rfl hrl2 ⟨by omega,by omega⟩ (by decide) ?_;have Wn:n + (ndsT X.lev ⟨ae,order,types,.mk rh rp⟩ (.mk h ps) n).length=n':=by rw [HE,List.length_cons,<- hK,Pa];omega
   have qm:pw.set ((n:Int).toNat * 7 + 6) (.sl 10 (gW Es) none)=base ++ (cI (ndsT X.lev ⟨ae,order,types,.mk rh rp⟩ (.mk h ps) n)).flatten:=by
    rw [fv,show (n:Int).toNat=n by omega,NW hbl,HE,Tl,hK];rfl
   refine ⟨.v (.int .i64 n),[bC ⟨ae,order,types,.mk rh rp⟩ (.pt lc 0) (.loc 1 0) m,IU ⟨ae,order,types,.mk rh rp⟩ aH lc n'],ax,fU,?_,?_,?_⟩
   ·rw [NX]
   ·rw [Wn]
   ·rw [Wn,<- qm];rfl
end Go.Proofs.YtphonmiflfhdbaaGreat
namespace Go.Proofs.YtphonmiflfhdbaaGreat
namespace Dv
open Go Go.RowKit
section
variable {X:Ctx} {st:St} {k:List It} {E:En} {a:Act} {w:World} {ops:Array Oper} {W:Nat->Bool} {C:World->Prop} {Q:Act->World->Prop} {i:Nat} {r:List Nat} {o:Oper}
theorem ir (hg:o.guard=none):Region.wanted o (yielded ops a.tmps)=true:=by
 unfold Region.wanted;rw [hg]
theorem NY {bx:List (List DV)} {wr:World} (h:Rel X E st a w) (hE:tB E bx wr) (hC:∀ w',C w' -> CC E bx wr w'):Rl E bx C st.sl a where
 tm:=h.tm
 ey:=fun i cs hi=>by
  by_cases bq:cs=[]
  ·subst bq;have ay:i < E.β.length:=by rw [hE.len];exact (gS hi).1
   exact ⟨_,[],gE ay,⟨cf _,by simp⟩,fun w' _ j u hj=>by simp at hj⟩
  ·obtain ⟨b,ty,arr,hb,hw,hc⟩:=hE.ey i cs hi bq;exact ⟨b,arr,hb,hc,fun w' h' j u hj=>by rw [ch (((hC w' h').o i b cs hb hi bq).trans hw)];simpa using hj⟩
 cc:=fun x v hx w' h'=>(hC w' h').c x v hx
theorem NZ {bx:List (List DV)} (h:Env E bx w) (m:List Nat):tB E (maskL m 0 bx) w:=⟨by rw [qv];exact h.len,fun i cs hi bq=>by
 rcases qw m _ _ _ _ hi with h1 | h1
 ·exact (bq h1).elim
 ·exact h.ey i cs h1⟩
theorem lA (hR:Rel X E st a w) (ho:ops[i]? = some o) (hE:isE o.op=false) (hL:qg o.op=false) (hg:o.guard=none) {s:DV} (hs:pureT X.P X.T ⟨st.sl,[],[]⟩ [] o.op=some s) (hd:fY X.nt st.sl o.dst=true)
  (hk:∀ a',Rel X E (st.put o.dst ⟨[],s⟩) a' w->runT X.P ops W C Q r a' w):runT X.P ops W C Q (i :: r) a w:=by
 have gn:Rl E [] (fun _=>False) st.sl a:=⟨hR.tm,fun i cs hi=>by simp at hi,fun _ _ _ _ h=>h.elim⟩;obtain ⟨v,hv,bU⟩:=gI (st:=⟨st.sl,[],[]⟩) X.hT gn (bf _) hs;simp only [runT,ho,hE,Bool.false_eq_true,if_false];exact ⟨v,.inl ⟨ir hg,fun w' _=>bU w' fun h=>by rw [hL] at h;cases h⟩,fun h=>(by rw [hL] at h;cases h),hk _ (bu hR hd s v hv)⟩
theorem N1 (hR:Rel X E st a w) (ho:ops[i]? = some o) {bx:List (List DV)} (gn:Rl E bx C st.sl a) (Ud:C w) (hE:isE o.op=false) (hg:o.guard=none) {s:DV} (hs:pureT X.P X.T ⟨st.sl,bx,[]⟩ [] o.op=some s) (hd:fY X.nt st.sl o.dst=true)
  (hk:∀ a',Rel X E (st.put o.dst ⟨[],s⟩) a' w->runT X.P ops W C Q r a' w):runT X.P ops W C Q (i :: r) a w:=by
 obtain ⟨v,hv,bU⟩:=gI (st:=⟨st.sl,bx,[]⟩) X.hT gn (bf _) hs;simp only [runT,ho,hE,Bool.false_eq_true,if_false];exact ⟨v,.inl ⟨ir hg,fun w' h=>bU w' h⟩,fun _=>Ud,hk _ (bu hR hd s v hv)⟩
theorem N2 (hR:Rel X E st a w) (ho:ops[i]? = some o) {t x d:Nat} {b p j:Nat} {n:Nat} {kd:TK} {z:List Value} (hb:E.β[j]? = some b) (sB:o.op = .load t (.tmp x)) (jZ:o.dst=some d) {i2 D3 b2:Nat} (lO:E.β[i2]? = some b2) (hx:rv st [] (.tmp x)=some (.loc i2 p)) (hT:X.T.find t=some ⟨n,false,kd,z⟩)
  (hC:∀ w',C w' -> w'.cell? ⟨b2,p,none⟩=some (.pointer (some ⟨b,D3,none⟩))) (Ud:C w) (hg:o.guard=none) (hd:fY X.nt st.sl (some d)=true)
  (hk:∀ a',Rel X E ⟨(d,⟨[],.loc j D3⟩) :: st.sl,st.bx,st.tk⟩ a' w->runT X.P ops W C Q r a' w):runT X.P ops W C Q (i :: r) a w:=by
 have hE:isE o.op=false:=by rw [sB];all_goals rfl
 simp only [runT,ho,hE,Bool.false_eq_true,if_false];have hv:Rv E (.loc j D3) (.pointer (some ⟨b,D3,none⟩)):=by unfold Rv;exact ⟨b,hb,rfl⟩
 refine ⟨.pointer (some ⟨b,D3,none⟩),.inl ⟨ir hg,fun w' h=>?_⟩,fun _=>Ud,?_⟩
 ·have Zk:=hC w' (h (by rw [sB];rfl));have e1:=aW hR.rl hx;unfold Rv at e1;obtain ⟨b3,Pb,e1⟩:=e1;rw [lO] at Pb;simp only [oI] at Pb;subst Pb;have I9:=(te_parts X.hT hT).2.1
  have hl:(loadVar t ⟨b2,p,none⟩).run X.P w' = .ok (.pointer (some ⟨b,D3,none⟩)) w':=by
   simp [loadVar,jh I9,Zk]
  simp only [execOp,sB,e1,Sem.run_bind,Instr.loadAt,Instr.sureAddr,Sem.run_pure,Result.andThen_ok,hl]
 ·rw [jZ];exact hk _ (bu hR hd (.loc j D3) _ hv)
theorem HF (hR:Rel X E st a w) (ho:ops[i]? = some o) {dst:Option Nat} {f:Operand} {args:Array Operand} {Yv:Array TypeId} (sB:o.op = .call ⟨.value f,args,Yv⟩) (jZ:o.dst=dst) (hg:o.guard=none) {g:FuncId} {ds:List DV} (hf:rv st [] f=some (.fn g [] [])) (hl:argsV st [] args.toList=some ds) (kV:Enters X.P g)
  {K:Value->World->Prop} (hc:∀ vs,RvL E ds vs->Calls X.P g vs.toArray w fun e w'=>∃ v,e = .returned v/\K v w') (hk:∀ v w',K v w' -> (W i=false->C w->C w')/\runT X.P ops W C Q r (a.put dst v) w'):runT X.P ops W C Q (i :: r) a w:=by
 have hE:isE o.op=true:=by rw [sB];all_goals rfl
 have Yw:=ir (ops:=ops) (a:=a) hg;have gn:=hR.rl;have e1:=aW gn hf;unfold Rv at e1;obtain ⟨l1,r1,e1,Fv,hr1⟩:=e1;simp only [RvL] at Fv hr1;subst Fv hr1;have hargs:=gH gn (bf _) _ _ hl;simp only [runT,ho,hE,if_true,eo,Yw];subst jZ;obtain ⟨dst,op,ty,pos,after,gu⟩:=o;simp only at sB;subst sB
 have hr:(execOp a.eval ⟨dst,.call ⟨.value f,args,Yv⟩,ty,pos,after,gu⟩).run X.P w = .ok (.enter g (args.toList.map a.eval).toArray) w:=by
  have e3:(([]:List Value).toArray ++ args.map a.eval ++ ([]:List Value).toArray)=(args.toList.map a.eval).toArray:=by apply Array.ext';simp
  simp only [execOp,resolve,e1,Deferred.ofValue,Sem.run_bind,Sem.run_pure,Result.andThen_ok,invoke,e3];exact kV _ _
 unfold wq;rw [hr];refine (hc _ hargs).mono ?_;rintro e w' ⟨v,rfl,hK⟩;exact ⟨v,rfl,hk v w' hK⟩
theorem N3 (hR:Rel X E st a w) (ho:ops[i]? = some o) {dst:Option Nat} {f:Operand} {args:Array Operand} {Yv:Array TypeId} (sB:o.op = .call ⟨.value f,args,Yv⟩) (jZ:o.dst=dst) (hg:o.guard=none) {g:FuncId} {ds Rp:List DV} (hf:rv st [] f=some (.fn g [] [])) (hl:argsV st [] args.toList=some ds) (kV:Enters X.P g)
  {os:List (List DV)} (n1 m1:Nat) (CW:Nat.ble n1 st.bx.length=true) (iI:Nat.ble m1 st.tk.length=true) (C3:lQ [] n1 n1 m1 os (st.bx.take n1)) (ha:CcL [] n1 n1 m1 Rp ds)
  {Φ:DV->List (List DV)->List TkE->Prop} (hc:Ev X.P g Rp os (st.tk.take m1) Φ) (bh:X.still=false) (hX:X.bt=[])
  (hk:∀ v r' iA cr E' w',Φ r' iA cr -> iA.length=n1->cr.length=m1->Rel X E' ⟨st.sl,iA ++ st.bx.drop n1,cr ++ st.tk.drop m1⟩ a w' -> Rv E' r' v->Ext E E' -> E'.β=E.β->(∀ (i:Nat) b,n1<=i->E.β[i]? = some b->w'.heap[b]? = w.heap[b]?) ->
   (W i=false->C w->C w')/\runT X.P ops W C Q r (a.put dst v) w'):runT X.P ops W C Q (i :: r) a w:=by
 refine HF hR ho sB jZ hg hf hl kV (K:=fun v w'=>∃ r' iA cr E',Φ r' iA cr /\ iA.length=n1/\cr.length=m1/\Rel X E' ⟨st.sl,iA ++ st.bx.drop n1,cr ++ st.tk.drop m1⟩ a w' /\ Rv E' r' v/\Ext E E' /\ E'.β=E.β/\∀ (i:Nat) b,n1<=i->E.β[i]? = some b->w'.heap[b]? = w.heap[b]?)
  (fun vs hv=>?_) ?_
 ·refine (Bo n1 m1 CW iI C3 ha hc bh hX hR hv).mono ?_
  grind
 ·grind
theorem N4 (h:Rel X E st a w) (j o k:Nat) {n ty e:Nat} {IQ:List DV} {es ns:List (List DV)} (hq:st.tk[k]? = some ⟨n,ty,e,some ns.flatten⟩) (CM:∀ x∈ns,x.length=e) (iJ:ns.length=n) (hj:st.bx[j]? = some IQ) (ho:IQ[o]? = some (.sl 0 es (some k))) (kg:es.length=n) :
  ∃ E',Rel X E' ⟨st.sl,st.bx.set j (IQ.set o (.sl e ns none)),st.tk.set k ⟨n,ty,e,none⟩⟩ a w:=RL hq CM iJ hj ho kg E a w h
theorem HG (hR:Rel X E st a w) (ho:ops[i]? = some o) (hE:isE o.op=true) (hg:o.guard=none) (hW:W i=true) (hd:fY X.nt st.sl o.dst=true) {p:Prop} (hp:effC X st o (go X 4000 k)=some p) (h:p):runT X.P ops W C (fun a w=>kq X k .normal a w) [i] a w:=by
 have Yw:=ir (ops:=ops) (a:=a) hg;simp only [runT,ho,hE,if_true,eo,Yw];refine kT ?_ (kU hd hR hp h);rintro a' w' ⟨st',E',l7,hr,_⟩;exact ⟨(fun h=>by rw [hW] at h;cases h),go_sound 4000 _ _ l7 _ _ _ hr⟩
mutual
theorem qR {i j:Nat}:∀ d:DV,renD (swp i j) (renD (swp i j) d)=d
 | .v x=>rfl
 | .ud=>rfl
 | .agg l=>by simp only [renD,jc]
 | .tup l=>by simp only [renD,jc]
 | .sl e es tk=>rfl
 | .pt cs o=>rfl
 | .loc k o=>by simp only [renD,kZ]
 | .el k o=>by simp only [renD,kZ]
 | .ms k e o l c=>by simp only [renD,kZ]
 | .fn g l r=>by simp only [renD,jc]
 | .ri t x=>by simp only [renD,qR]
theorem jc {i j:Nat}:∀ l:List DV,renL (swp i j) (renL (swp i j) l)=l
 | []=>rfl
 | d :: r=>by simp only [renL,qR,jc]
end
theorem xP {i j:Nat}:∀ l:List (Nat × Sl),renS (swp i j) (renS (swp i j) l)=l
 | []=>rfl
 | (k,⟨gs,s⟩) :: r=>by simp only [renS,qR,xP]
theorem xQ {i j:Nat}:∀ l:List (List DV),renO (swp i j) (renO (swp i j) l)=l
 | []=>rfl
 | c :: r=>by simp only [renO,jc,xQ]
theorem K6 {i j:Nat} (f:Nat->Nat) (l:List (List DV)) (hi:i < l.length) (hj:j < l.length):renO f (swL i j l)=swL i j (renO f l):=by
 apply List.ext_getElem?
 grind [tH,fw,dK]
theorem BI {i j:Nat} {S:St} (hi:i < S.bx.length) (hj:j < S.bx.length):ez i j (ez i j S)=S:=by
 obtain ⟨sl,bx,tk⟩:=S;simp only [ez,xP];rw [K6 _ _ (by rw [dK];exact hi) (by rw [dK];exact hj),xQ];congr 1;apply List.ext_getElem?
 grind [fw,eA,kZ]
theorem CallG.Wo {f:FuncId} {args:List DV} {dst:Option Nat} (i j:Nat) (ID:Nat.ble X.n0 i=true) (Ay:Nat.ble X.n0 j=true) (hi:Nat.blt i st.bx.length=true) (hj:Nat.blt j st.bx.length=true)
  (h:CallG X f (renL (swp i j) args) dst k (ez i j st)) (hX:X.bt=[]:=by exact rfl):CallG X f args dst k st:=by
 have fX:=hi;have iV:=hj;simp only [Nat.blt_eq] at fX iV;have hl:(ez i j st).bx.length=st.bx.length:=by simp only [ez,eA,dK]
 exact CallG.Dg i j (BI fX iV).symm (jc args).symm ID Ay (by rw [hl];exact hi) (by rw [hl];exact hj) h hX
theorem D4 {P:Program} {t e:TypeId} (hu:P.underlying t=some (.slice e)) (d:Nat) (x:Option Addr) (n c:Nat) (w:World):(Op.equalIn (d + 1) t (.slice x n c) (.slice none 0 0)).run P w = .ok x.isNone w:=by
 cases x<;>simp [Op.equalIn,run_underlying hu]
theorem K7 {P:Program} {t e:TypeId} (hu:P.underlying t=some (.slice e)) (x:Option Addr) (n c:Nat) (w:World):(Op.equal t (.slice x n c) (.slice none 0 0)).run P w = .ok x.isNone w:=D4 hu 9999 x n c w
theorem K8 {t d e:Nat} {x:Operand} {es:List (List DV)} {tk:Option Nat} {n et e' j8:Nat} {bb:Bool} {z:List Value} (sB:∃ t',o.op = .binOp .eql t x (.const (.slice none 0 0)) t') (jZ:o.dst=some d) (hx:rv st [] x=some (.sl e es tk)) (hT:X.T.find t=some ⟨n,bb,.sl et e' j8,z⟩) (hd:fY X.nt st.sl (some d)=true)
  (hk:∀ b:Bool,(es ≠ []->b=false)->go X 4000 k ⟨(d,⟨[],.v (.bool b)⟩) :: st.sl,st.bx,st.tk⟩):I3 X o k st:=by
 intro E a w h;obtain ⟨t',sB⟩:=sB;have e1:=aW h.rl hx;unfold Rv at e1;obtain ⟨b,m,cap,e1,⟨rfl,_⟩,hr,_⟩:=e1;obtain ⟨hu,_⟩:=eT X.hT hT;have aP:=K7 hu b es.length cap w
 have bU:(execOp a.eval o).run X.P w = .ok (.value (.bool b.isNone)) w:=by
  have hc:a.eval (.const (.slice none 0 0)) = .slice none 0 0:=rfl;simp [execOp,sB,e1,hc,eqGuard,binOp,aP]
 refine kh bU ?_;rw [jZ];refine go_sound 4000 _ _ (hk b.isNone fun bq=>?_) E _ w (bu h hd (.v (.bool b.isNone)) _ (by unfold Rv;exact ⟨rfl,rfl⟩));have:=nS (hr bq).1;rw [this];rfl
theorem Wp {t d et e j8 n:Nat} {bb:Bool} {z:List Value} (sB:o.op = .buildSlice t 0 #[]) (jZ:o.dst=some d) (hT:X.T.find t=some ⟨n,bb,.sl et e j8,z⟩) (hd:fY X.nt st.sl (some d)=true) (bh:X.still=false:=by exact rfl) (hX:X.bt=[]:=by exact rfl) :
  Zp X o st ⟨(d,⟨[],.sl e [] (some st.tk.length)⟩) :: st.sl,st.bx,st.tk ++ [⟨0,et,e,none⟩]⟩:=by
 intro E a w h;obtain ⟨hu,ii,zv,wO,hz,bY,CR,I0⟩:=eT X.hT hT;have nu:ig X.P et=some e:=by rw [fZ wO,bY]
 have bU:(execOp a.eval o).run X.P w = .ok (.value (.slice (some ⟨w.heap.size,0,none⟩) 0 0)) (w.alloc (.cells #[] et)):=by
  have h1:(Instr.buildSlice t 0 #[]).run X.P w = .ok (.slice (some ⟨w.heap.size,0,none⟩) 0 0) (w.alloc (.cells #[] et)):=by
   have h0:Array.range 0 = #[]:=rfl;simp [Instr.buildSlice,run_underlying hu,aO nu,Instr.fill,newRow,h0]
  simp only [execOp,sB,List.map_toArray,List.map_nil,Sem.run_bind,h1,Result.andThen_ok,Sem.run_pure]
 refine dX bU ?_;rw [jZ];have ru:=h.env.jW (w':=w.alloc (.cells #[] et)) fun i hi=>alloc_old w _ hi
 let E2:En:=⟨E.c,E.β,E.tk ++ [⟨0,et,e,none⟩],E.τ ++ [.slice (some ⟨w.heap.size,0,none⟩) 0 0]⟩
 have hext:Ext E E2:=⟨fun _ _ h=>h,fun _ _ h=>h,fun k q' hk=>by
  have ay:=(gS hk).1;refine ⟨q',by show (E.tk ++ _)[k]? = _;rw [eO ay];exact hk,.inl ⟨rfl,?_⟩⟩;show (E.τ ++ _)[k]? = _
  rw [eO (by rw [h.env.tl];exact ay)]⟩
 have hτ:∀ (k:Nat) y,E2.τ[k]? = some y->(k < E.τ.length/\E.τ[k]? = some y)∨(k=E.τ.length/\y = .slice (some ⟨w.heap.size,0,none⟩) 0 0):=fun k y hy=>by grind
 have fC:∀ (k:Nat) y g,E.τ[k]? = some y->y.ownBlock=some g->g < w.heap.size:=fun k y g hy hg=>(h.env.own (mG hy) hg).1
 have cu:Rel X E2 ⟨st.sl,st.bx,st.tk ++ [⟨0,et,e,none⟩]⟩ a (w.alloc (.cells #[] et)):=by
  refine cV h hext ?_ (by show E.tk ++ _=_;rw [h.tk]) ?_ (h.fr.alloc _) (nQ bh) (.nil hX)
  ·exact {
    len:=h.env.len
    tl:=by show (E.τ ++ _).length=(E.tk ++ _).length;simp [h.env.tl]
    ey:=fun i cs hi=>by
     obtain ⟨b,t,arr,hb,hw,hc⟩:=ru.ey i cs hi;exact ⟨b,t,arr,hb,hw,hc.mono hext⟩
    inj:=h.env.inj
    sub:=ru.sub
    pc:=h.env.pc
    cC:=fun k q' y Wq hy=>by
     rcases hτ k y hy with ⟨ay,gv⟩ | ⟨rfl,rfl⟩
     ·have gq:(E.tk ++ [⟨0,et,e,none⟩])[k]? = some q':=Wq;rw [eO (by rw [<- h.env.tl];exact ay)] at gq;exact ru.cC k q' y gq gv
     ·have gq:(E.tk ++ [⟨0,et,e,none⟩])[E.τ.length]? = some q':=Wq;rw [List.getElem?_append_right (by rw [h.env.tl];exact aU _),h.env.tl] at gq;simp only [Nat.sub_self,List.getElem?_cons_zero,oI] at gq;subst gq;refine .inr ⟨w.heap.size,0,#[],rfl,iT w _,⟨by simp,oH.none rfl⟩,aU _,Nat.zero_le _,fun hm=>?_,fun x v hx C2=>?_⟩
      ·have:=h.env.bd hm;omega
      ·have:=World.block_lt_of_cell? w x (h.env.sub x v hx);omega
    ji:=fun k k' y y' g vS hy gv hg yE=>by
     rcases hτ k y hy with ⟨_,As⟩ | ⟨rfl,rfl⟩
     ·rcases hτ k' y' gv with ⟨_,lR⟩ | ⟨rfl,rfl⟩
      ·exact h.env.ji k k' y y' g vS As lR hg yE
      ·have:=fC k y g As hg;simp only [Value.ownBlock,oI] at yE;omega
     ·rcases hτ k' y' gv with ⟨_,lR⟩ | ⟨rfl,rfl⟩
      ·have:=fC k' y' g lR yE;simp only [Value.ownBlock,oI] at hg;omega
      ·exact vS rfl }
  ·exact {
    c:=h.nw.c
    cn:=h.nw.cn
    β:=h.nw.β
    tk:=fun j q0 y0 Au CZ=>by
     obtain ⟨q',y',h1,h2,h3⟩:=h.nw.tk j q0 y0 Au CZ
     grind
    tn:=fun j y g hj hy hg=>by
     rcases hτ j y hy with ⟨_,As⟩ | ⟨_,rfl⟩
     ·exact h.nw.tn j y g hj As hg
     ·simp only [Value.ownBlock,oI] at hg;have:=h.fr.size;omega
    l0:=h.nw.l0 }
 refine ⟨E2,bu cu hd (.sl e [] (some st.tk.length)) _ ?_,hext,⟨[],by simp [E2]⟩,fun i b hb _=>alloc_old w _ (h.env.bd (mG hb))⟩;unfold Rv;refine ⟨_,0,0,rfl,⟨rfl,aU _⟩,fun hn=>(hn rfl).elim,fun k' gq=>?_⟩;cases gq;refine ⟨⟨0,et,e,none⟩,?_,aU _,fun _=>?_⟩
 ·show (E.tk ++ _)[st.tk.length]? = _;rw [h.tk];simp
 ·show (E.τ ++ _)[st.tk.length]? = _;rw [<- h.tk,<- h.env.tl];simp
theorem BJ {t d et e j8 n:Nat} {bb:Bool} {z:List Value} (sB:o.op = .buildSlice t 0 #[]) (jZ:o.dst=some d) (hT:X.T.find t=some ⟨n,bb,.sl et e j8,z⟩) (hd:fY X.nt st.sl (some d)=true) (bh:X.still=false:=by exact rfl) (hX:X.bt=[]:=by exact rfl)
  (hk:go X 4000 k ⟨(d,⟨[],.sl e [] (some st.tk.length)⟩) :: st.sl,st.bx,st.tk ++ [⟨0,et,e,none⟩]⟩):I3 X o k st:=(Wp sB jZ hT hd bh hX).g hk
theorem Wk.FD {st':St} (N:Nat) (hN:Nat.ble X.n0 N=true) (FF:Nat.ble N st.bx.length=true) (pY:lQ st.bx N N st.tk.length st'.bx (st.bx.take N)) (l8:st'.tk=st.tk) (oP:JB st.bx N st.tk.length st.sl st'.sl):Wk X st st':=fun _ _ _ h=>
 FE h N (nL hN) (nL FF) pY l8 oP
theorem I3.wk {st':St} {o:Oper} (hw:Wk X st st') (hd:fY X.nt st'.sl o.dst=true) {p:Prop} (hp:effC X st' o (go X 4000 k)=some p) (h:p):I3 X o k st:=fun E a w hr=>by
 obtain ⟨E',mS⟩:=hw _ _ _ hr;refine Az (kT ?_ (kU hd mS hp h));rintro a' w' ⟨GX,E2,l7,hr2,_⟩;exact go_sound 4000 _ _ l7 _ _ _ hr2
theorem N5 (h:Rel X E st a w) (bh:X.still=false) (hX:X.bt=[]) {g n ty e cap:Nat} {cur:Array Value} (hw:w.heap[g]? = some (.cells cur ty (0,0))) (bY:cur.size=cap * e) (hn:n<=cap) (GN:cap<=maxLen) (hb:g ∉ E.β)
  (hc:∀ x v,E.c x=some v->x.block=g->x.off < n * e) (fC:∀ (k:Nat) y,E.τ[k]? = some y->y.ownBlock≠some g) (hg:X.w0.heap.size<=g) :
  Rel X ⟨E.c,E.β,E.tk ++ [⟨n,ty,e,none⟩],E.τ ++ [.slice (some ⟨g,0,none⟩) n cap]⟩ ⟨st.sl,st.bx,st.tk ++ [⟨n,ty,e,none⟩]⟩ a w:=by
 let E2:En:=⟨E.c,E.β,E.tk ++ [⟨n,ty,e,none⟩],E.τ ++ [.slice (some ⟨g,0,none⟩) n cap]⟩
 have hext:Ext E E2:=⟨fun _ _ h=>h,fun _ _ h=>h,fun k q' hk=>by
  have ay:=(gS hk).1;refine ⟨q',by show (E.tk ++ _)[k]? = _;rw [eO ay];exact hk,.inl ⟨rfl,?_⟩⟩;show (E.τ ++ _)[k]? = _
  rw [eO (by rw [h.env.tl];exact ay)]⟩
 have hτ:∀ (k:Nat) y,E2.τ[k]? = some y->(k < E.τ.length/\E.τ[k]? = some y)∨(k=E.τ.length/\y = .slice (some ⟨g,0,none⟩) n cap):=fun k y hy=>by grind
 refine cV h hext ?_ (by show E.tk ++ _=_;rw [h.tk]) ?_ h.fr (nQ bh) (.nil hX)
 ·exact {
   len:=h.env.len
   tl:=by show (E.τ ++ _).length=(E.tk ++ _).length;simp [h.env.tl]
   ey:=fun i cs hi=>by
    obtain ⟨b,t,arr,hb,hw,hc⟩:=h.env.ey i cs hi;exact ⟨b,t,arr,hb,hw,hc.mono hext⟩
   inj:=h.env.inj
   sub:=h.env.sub
   pc:=h.env.pc
   cC:=fun k q' y Wq hy=>by
    rcases hτ k y hy with ⟨ay,gv⟩ | ⟨rfl,rfl⟩
    ·have gq:(E.tk ++ [⟨n,ty,e,none⟩])[k]? = some q':=Wq;rw [eO (by rw [<- h.env.tl];exact ay)] at gq;exact h.env.cC k q' y gq gv
    ·have gq:(E.tk ++ [⟨n,ty,e,none⟩])[E.τ.length]? = some q':=Wq;rw [List.getElem?_append_right (by rw [h.env.tl];exact aU _),h.env.tl] at gq;simp only [Nat.sub_self,List.getElem?_cons_zero,oI] at gq;subst gq;exact .inr ⟨g,cap,cur,rfl,hw,⟨bY,fun cs h=>by cases h⟩,hn,GN,hb,hc⟩
   ji:=fun k k' y y' g' vS hy gv nE IH=>by
    rcases hτ k y hy with ⟨_,As⟩ | ⟨rfl,rfl⟩
    ·rcases hτ k' y' gv with ⟨_,lR⟩ | ⟨rfl,rfl⟩
     ·exact h.env.ji k k' y y' g' vS As lR nE IH
     ·simp only [Value.ownBlock,oI] at IH;subst IH;exact fC k y As nE
    ·rcases hτ k' y' gv with ⟨_,lR⟩ | ⟨rfl,rfl⟩
     ·simp only [Value.ownBlock,oI] at nE;subst nE;exact fC k' y' lR IH
     ·exact vS rfl }
 ·exact {
   c:=h.nw.c
   cn:=h.nw.cn
   β:=h.nw.β
   tk:=fun j q0 y0 Au CZ=>by
    obtain ⟨q',y',h1,h2,h3⟩:=h.nw.tk j q0 y0 Au CZ
    grind
   tn:=fun j y g' hj hy yE=>by
    rcases hτ j y hy with ⟨_,As⟩ | ⟨_,rfl⟩
    ·exact h.nw.tn j y g' hj As yE
    ·simp only [Value.ownBlock,oI] at yE;omega
   l0:=h.nw.l0 }
theorem R7 {t d et e j8 n len:Nat} {bb:Bool} {z:List Value} {parts:Array (Nat × Operand)} {es:List (List DV)} (sB:o.op = .buildSlice t len parts) (jZ:o.dst=some d) (hT:X.T.find t=some ⟨n,bb,.sl et e j8,z⟩) (kg:litL e st parts.toList 0=some es)
  (hc:(Nat.beq es.length len && (Nat.blt 0 len && Nat.blt 0 e && Nat.ble (len * e) 16777216))=true) (hd:fY X.nt st.sl (some d)=true) (bh:X.still=false:=by exact rfl) (hX:X.bt=[]:=by exact rfl)
  (hk:go X 4000 k ⟨(d,⟨[],.sl e es (some st.tk.length)⟩) :: st.sl,st.bx,st.tk ++ [⟨len,et,e,none⟩]⟩):I3 X o k st:=by
 intro E a w h;simp only [aS,Nat.beq_eq,Nat.ble_eq,Nat.blt_eq] at hc;obtain ⟨hlen,⟨nU,Fu⟩,hsm⟩:=hc;obtain ⟨hu,ii,zv,wO,hz,bY,CR,I0⟩:=eT X.hT hT;obtain ⟨xs,vs,hp,vT,Fs,j9,TS,ql⟩:=nT h.rl Fu kg;subst bY
 have Ja:len * ii.size≠0:=by
  have:=Nat.mul_pos nU Fu;omega
 have l5:Instr.fill (fun i=>some (i * ii.size,ii.size)) ((Array.range (len * ii.size)).map (zv.cells[·% zv.cells.size]!)) (parts.map fun (i,x)=>(i,a.eval x)).toList=some (cellsL vs).toArray:=by
  have h0:=s7 ii.size vs 0 ((Array.range (len * ii.size)).map (zv.cells[·% zv.cells.size]!)).toList j9 (by simp [Fs,hlen])
  have h1:(parts.map fun (i,x)=>(i,a.eval x)).toList=enumF 0 vs:=by
   rw [Array.toList_map,hp,vT,<- qc]
  rw [h1];simp only [Array.toArray_toList] at h0;rw [h0];simp [Fs,hlen]
 have bU:(execOp a.eval o).run X.P w = .ok (.value (.slice (some ⟨w.heap.size,0,none⟩) len len)) (w.alloc (.cells (cellsL vs).toArray et)):=by
  simp only [execOp,sB,Sem.run_bind,run_buildSlice w t et len _ _ ii zv hu wO hz (by omega) Ja l5,Result.andThen_ok,Sem.run_pure]
 refine kh bU ?_;rw [jZ];have hr:=wN (arr:=cellsL vs) h bh et
 have P8:(cellsL vs).length=len * ii.size:=by
  have:∀ l:List Value,(∀ v∈l,v.cells.toList.length=ii.size)->(cellsL l).length=l.length * ii.size:=by
   intro l
   induction l with
   | nil=>intro _;simp [cellsL]
   | cons v l ih=>grind [cellsL]
  rw [this vs j9,Fs,hlen]
 have hr2:=N5 (n:=len) (ty:=et) (e:=ii.size) (cap:=len) hr bh hX (g:=w.heap.size) (cur:=(cellsL vs).toArray) (iT w _) (by simp [P8]) (aU _) (by
   have:len<=len * ii.size:=Nat.le_mul_of_pos_right _ Fu;unfold maxLen;omega) (fun hm=>by have:=h.env.bd hm;omega) (fun x v hx C2=>by
   have hx:addC E.c (w.alloc (.cells (cellsL vs).toArray et)) w.heap.size (cellsL vs).length x=some v:=hx;unfold addC at hx;split at hx
   ·rename_i hc;rw [<- P8];exact hc.2.2
   ·have:=World.block_lt_of_cell? w x (h.env.sub x v hx);omega) (fun j y hy hg=>by
   have:=(h.env.own (mG hy) hg).1
   omega) (h.fr.size)
 refine go_sound 4000 _ _ hk _ _ _ (bu hr2 hd (.sl ii.size es (some st.tk.length)) _ ?_);unfold Rv;refine ⟨_,_,_,rfl,⟨hlen.symm,aU _⟩,fun bq=>⟨rfl,?_⟩,fun k' gq=>?_⟩
 ·have eM:∀ x v,E.c x=some v->addC E.c (w.alloc (.cells (cellsL vs).toArray et)) w.heap.size (cellsL vs).length x=some v:=fun x v hx=>by
   have ay:=World.block_lt_of_cell? w x (h.env.sub x v hx);unfold addC;rw [ai (by omega)];exact hx
  have hm:RvC (En.cl ⟨addC E.c (w.alloc (.cells (cellsL vs).toArray et)) w.heap.size (cellsL vs).length,E.β,E.tk,E.τ⟩) es.flatten (cellsL vs):=TS.mono (Ext.Qy (E:=E) eM);refine rvEs_flat hm ql fun j u hj=>?_;show addC _ _ _ _ _=_;have iV:=(gS hj).1;simp only [ab,ao,Nat.zero_add];rw [yD iV,ch (iT w _)];simpa using hj
 ·cases gq;refine ⟨⟨len,et,ii.size,none⟩,?_,aU _,fun _=>?_⟩
  ·show (E.tk ++ _)[st.tk.length]? = _;rw [h.tk];simp
  ·show (E.τ ++ _)[st.tk.length]? = _;rw [<- h.tk,<- h.env.tl];simp
end
end Dv
end Go.Proofs.YtphonmiflfhdbaaGreat
set_option maxRecDepth 100000
namespace Go.Proofs.YtphonmiflfhdbaaGreat
open Go Go.RowKit Dv Go.Proofs.Tryz
theorem oo {l:List Wd} {o:List (Wd × Wd)} (h:(latF l o).1=0):(fh l o).1=0/\(enumL l 0 l).1=0/\(numF (aA l) o).1=0/\bg (jP l.length (dY l.length (cM (aA l) o))) l.length=none/\bg (mr (dY l.length (cM (aA l) o)) l.length) l.length=none:=by grind [latF]
theorem dg {p:Nat->Bool} {n:Nat} (h:bg p n=none):∀ a,a < n->p a=false:=by grind [bg]
theorem ku {l:List Wd} {o:List (Wd × Wd)} (h:(latF l o).1=0):dH (dY l.length (cM (aA l) o)) l.length/\l.length<=32:=by
 obtain ⟨h1,h2,h3,h4,h5⟩:=oo h;have hP:=na h3;rw [cS] at hP
 have Dh:l ≠ []:=by
  rintro rfl;simp [fh] at h1
 have N6:l.length<=32:=by grind [fh]
 have Bu:∀ a b,a < l.length->b < l.length->ko (dY l.length (cM (aA l) o)) l.length a b=false:=by
  have key:∀ a b,a<=b->b < l.length->ko (dY l.length (cM (aA l) o)) l.length a b=false:=fun a b IK hb=>by grind [dg,mr]
  intro a b ha hb;rcases Nat.le_total a b with h | h
  ·exact key a b h hb
  ·grind [ko,uy,uz]
 refine ⟨{
  pos:=List.length_pos_iff.2 Dh
  rfl':=fun a ha=>qG hP ha
  tr:=fun a b c ha hb hc=>DO hP ha hb hc
  Hy:=fun a b ha hb h6 h7=>by grind [dg,jP]
  jn:=fun a b ha hb=>by
   have:=Bu a b ha hb;unfold ko at this;simp only [Bool.or_eq_false_iff,Option.isNone_eq_false_iff] at this;exact Option.isSome_iff_exists.1 this.1
  mt:=fun a b ha hb=>by
   have:=Bu a b ha hb;unfold ko at this;simp only [Bool.or_eq_false_iff,Option.isNone_eq_false_iff] at this
   exact Option.isSome_iff_exists.1 this.2 },N6⟩
def dJ (s:Sch) (aH:List Nat) (js:List Int):Lx:=⟨aA s.ae,aH,closeR (eE s.ae.length (cM (aA s.ae) s.order)) s.ae.length,js,dY s.ae.length (cM (aA s.ae) s.order)⟩
theorem N7 {s:Sch} {d:DV} (h:(latF s.ae s.order).1=0) (hd:RS s.ae s.order d) (hw:s.ae.length<=1099511627776):∃ aH js,(dJ s aH js).OK/\d=(dJ s aH js).pd:=by
 obtain ⟨aH,js,hT,kL,pX,ME,rfl⟩:=hd;obtain ⟨h1,h2⟩:=ku h;refine ⟨aH,js,⟨hT,by show aH.length<=_;omega,?_,?_,?_⟩,rfl⟩
 ·show dH _ (aA s.ae).length;rw [cS];exact h1
 ·show (aA s.ae).length<=32;rw [cS];exact h2
 ·show ∀ x y,x < (aA s.ae).length->y < (aA s.ae).length->JM _ (aA s.ae).length js x y;rw [cS];exact ME
def gY (s:Sch) (l:List Wd):Int:=zm (dY s.ae.length (cM (aA s.ae) s.order)) (aA s.ae) l
def kN (s:Sch) (t:Ty):Ft:=knT ⟨aA s.ae,[],[],[],fun _ _=>false⟩ (tL s) t
mutual
theorem xR {X Y:Lx} (h:X.af=Y.af) (L:List ByteArray):∀ t:Ty,knT X L t=knT Y L t
 | .mk h1 ps=>by rw [knT,knT,xS h L ps]
theorem xS {X Y:Lx} (h:X.af=Y.af) (L:List ByteArray):∀ ps:Pts,knP X L ps=knP Y L ps
 | .nil=>by rw [knP,knP]
 | .cons p t r=>by
  rw [knP,knP,xS h L r,xR h L t];unfold Lx.bad;rw [h]
end
theorem R8 (s:Sch) (aH:List Nat) (js:List Int) (t:Ty):knT (dJ s aH js) (tL s) t=kN s t:=xR (X:=dJ s aH js) (Y:=⟨aA s.ae,[],[],[],fun _ _=>false⟩) rfl (tL s) t
def j5 (s:Sch):Ft:=
 if (latF s.ae s.order).1≠0 then latF s.ae s.order
 else if (dV s).1≠0 then dV s
 else if (eaR s.root s.types 0).1.1≠0 then (eaR s.root s.types 0).1
 else if (eaL (kN s) (kN s s.root) s.types).1≠0 then eaL (kN s) (kN s s.root) s.types
 else loopF s
def ndsAll (lev:List Wd->Int) (s:Sch):List (Wd × Ty)->Nat->List Nd
 | [],_=>[]
 | x :: r,k=>ndsT lev s x.2 k ++ ndsAll lev s r (k + x.2.nn)
def px (s:Sch):List Nd:=ndsAll (gY s) s s.types 0
def aM (s:Sch):List Nd:=px s ++ ndsT (gY s) s s.root (px s).length
def dW (s:Sch):Int:=mA s s.root (px s).length
def P9 (s:Sch) (aH j6:List Nat) (js:List Int):List DV:=
 [(dJ s aH js).pd,.sl 7 (cI (aM s)) none,.v (.int .i64 (dW s)),.pt (cw (tL s) j6) 0,.sl 1 (dInts (namedL s)) none]
def K9 (s:Sch) (d:DV):Prop:=∃ aH j6 js,(dJ s aH js).OK/\gw (tL s) j6/\j6.length<=s.types.length/\d = .pt (P9 s aH j6 js) 0
def D5 (s:Sch) (r:DV) (_:List (List DV)) (_:List TkE):Prop:=
 if (j5 s).1≠0 then r = .tup [.v (.pointer none),(j5 s).d] else ∃ d,K9 s d/\r = .tup [d,Ft.d (0,0)]
theorem mC {s:Sch} {f:Ft} {os:List (List DV)} {tk:List TkE} (h:j5 s=f) (hf:f.1≠0):D5 s (.tup [.v (.pointer none),f.d]) os tk:=by
 unfold D5;rw [h,ap hf]
theorem N8 {s:Sch} {d:DV} {os:List (List DV)} {tk:List TkE} (h:(j5 s).1=0) (hd:K9 s d):D5 s (.tup [d,Ft.d (0,0)]) os tk:=by grind [D5]
theorem La {F:Ty->Ft} {z:Ft}:∀ {l:List (Wd × Ty)},(eaL F z l).1=0->z.1=0/\∀ x∈l,(F x.2).1=0
 | [],h=>⟨h,fun x hx=>by cases hx⟩
 | x :: r,h=>by
  rw [eaL] at h;split at h
  ·rename_i h1;exact (h1 h).elim
  ·rename_i h1;obtain ⟨h2,h3⟩:=La h
   grind
theorem Lb {z:Ty}:∀ {l:List (Wd × Ty)} {m:Int},0<=m->(eaR z l m).1.1=0->(wrong z 1 0).1.1=0/\(∀ x∈l,(wrong x.2 1 0).1.1=0)/\(eaR z l m).2=m + ((l.map fun x=>x.2.cnt).sum + z.cnt:Nat)/\(eaR z l m).2<=512
 | [],m,_,h=>by grind [eaR,nc]
 | x :: r,m,hm,h=>by
  rw [eaR] at h ⊢;split at h
  ·rename_i h1;exact (h1 h).elim
  ·rename_i h1;rw [ai h1];obtain ⟨g1,g2,g3,_⟩:=nc (sU h1);obtain ⟨h2,h3,h4,h5⟩:=Lb (by omega) h
   grind
theorem uL (lev:List Wd->Int) (s:Sch):∀ (l:List (Wd × Ty)) (k:Nat),(ndsAll lev s l k).length=(l.map fun x=>x.2.nn).sum
 | [],_=>rfl
 | x :: r,k=>by simp only [ndsAll,List.length_append,jC,uL lev s r,List.map_cons,List.sum_cons]
theorem uM:∀ l:List (Wd × Ty),(l.map fun x=>x.2.nn).sum<=(l.map fun x=>x.2.cnt).sum
 | []=>aU _
 | x :: r=>by
  have:=x.2.fH;have:=uM r
  grind
theorem xT:∀ l:List Nd,(cI l).flatten.length=l.length * 7
 | []=>rfl
 | a :: r=>by
  have:=xT r;simp only [cI,List.map_cons,List.flatten_cons,List.length_append,List.length_cons] at this ⊢;rw [this];simp only [nD,List.length_cons,List.length_nil];omega
theorem zr {X:Lx} {s:Sch} {t:Ty} (h:(knT X (tL s) t).1=0):sj s t=true:=by
 obtain ⟨hd,ps⟩:=t;have:=(lz h).1;unfold sj;exact decide_eq_true this
theorem BK {s:Sch} (h:(loopF s).1=0):∀ i,i < s.types.length->∃ k,endI s (s.types.length + 1) i=some k:=by
 intro i hi;unfold loopF at h;split at h
 ·rename_i h1;have:=dg h1 i hi;simp only [Option.isNone_eq_false_iff] at this;exact Option.isSome_iff_exists.1 this
 ·cases h
abbrev Lc (s:Sch) (aH:List Nat) (lc:List DV) (m:Int) (f1 f2:Int) (n:Nat) (base:List DV) (e:Nat):St:=
 ⟨[aF 1 4,aF 3 3,aF 6 0,bc 59 11 (dNms s.types),aw 60 ((dNms s.types).length),aw 61 e],
  [bC s (.pt lc 0) (.loc 1 0) m,IU s aH lc n,[.v (.int .i64 f1),.v (.int .i64 f2)],[.v (.int .i64 0),.v (.int .i64 0)],dQ s],[D2 n base]⟩
theorem uN (s:Sch) (hs:s.wt<=1099511627776):Ev prog 8 [.agg (dQ s)] [] [] (D5 s):=by
 have hF:=j5.eq_1 s;have hw:=hs;simp only [Sch.wt] at hw;have hwl:=bi s.ae;have Yw:=iZ s.types;have Ny:=Bv s.ae s.order (by omega) (by omega);have sc:=fun lc=>zp s lc (by omega)
 have bO:∀ t,(t=s.root∨∃ x∈s.types,t=x.2)->t.wt<=1099511627776:=fun t ht=>by
  rcases ht with rfl | ⟨x,hx,rfl⟩
  ·omega
  ·have:=fO hx;omega
 have Wr:=fun lc aH=>D1 s lc aH 0 (by omega) (by omega) (by omega) bO;have Ws:=fun (X:Lx) (hX:X.OK) (aH:List Nat) (hT:gw (tL s) aH) (kL:aH.length<=1099511627776) (m:Int)=>HB s X.pd (D0 s aH (gV X.af (cw X.af X.aH) X.rows X.js)) m (by omega) 29 Rg (knT X (tL s)) (fun t ht=>uH hX s aH (.pt (gV X.af (cw X.af X.aH) X.rows X.js) 0) (.v (.slice none 0 0)) (.v (.int .i64 0)) (.v (.slice none 0 0)) m hT kL t.wt t (aU _) (bO t ht));have R9:(dV s).1=0->s.types.length<=64:=fun h=>by grind [dV]
 have hLx:=fun d h hd=>@N7 s d h hd (by omega);have Qa:=fun (lat:DV) (aH:List Nat) (a b c e0:DV) (m:Int)=>DZ s lat aH a b c e0 m;have Ld:=fun (lc:List DV) (aH:List Nat) (m:Int)=>BH s lc aH m;have gA:=fun (X:Lx) (hX:X.OK) (aH:List Nat) (m:Int) (hT:gw (tL s) aH) (kL:aH.length<=1099511627776) (t:Ty) (ht:t.wt<=1099511627776)=>xO hX s aH m hT kL t.wt t (aU _) ht;refine eG 85 [.tmp 2,.cell 3 44] func8 rfl ntmps8 rfl fun _ _ _ _=>?_;generalize hS:s=S at *;obtain ⟨ae,order,types,⟨rh,rp⟩⟩:=s;subst hS;refine cp ZG rfl Ny ax (fun r hr=>?_);by_cases hL:(latF ae order).1≠0
 ·have Tk:=hL;rw [ap (show (latF (Sch.mk ae order types (.mk rh rp)).ae (Sch.mk ae order types (.mk rh rp)).order).1≠0 from hL)] at hF;unfold DS at hr;rw [ap (show (latF (Sch.mk ae order types (.mk rh rp)).ae (Sch.mk ae order types (.mk rh rp)).order).1≠0 from hL)] at hr;subst hr;refine br ?_ ?_<;>intro h
  ·refine dS ?_;exact ⟨_,ax,mC (os:=[]) (tk:=[]) hF hL⟩
  ·exfalso;simp at h;exact hL h
 unfold DS at hr;rw [ai (show ¬ (latF (Sch.mk ae order types (.mk rh rp)).ae (Sch.mk ae order types (.mk rh rp)).order).1≠0 from hL)] at hF hr;obtain ⟨d,hd,rfl⟩:=hr;have hL0:(latF ae order).1=0:=sU hL;obtain ⟨aH,js,hX,rfl⟩:=hLx d hL0 hd;generalize Yx:dJ ⟨ae,order,types,.mk rh rp⟩ aH js=X at hX;refine br (fun h=>?_) (fun _=>?_)
 ·exfalso;simp at h;exact hL h
 refine CallG.Wo 0 4 rfl rfl rfl rfl (CallG.Wo 1 3 rfl rfl rfl rfl ?_);refine cX 2 0 ZH rfl rfl rfl fU fU (sc (gV X.af (cw X.af X.aH) X.rows X.js)) (fun r iA cr hΦ h1 h2=>?_);obtain ⟨rfl,Hb⟩:=hΦ;have h2:=List.eq_nil_of_length_eq_zero h2;subst h2;by_cases F8:(dV ⟨ae,order,types,.mk rh rp⟩).1≠0
 ·rw [ap F8] at hF
  obtain ⟨a,b,rfl⟩:∃ a b,iA=[a,b]:=by
   match iA,h1 with
   | [a,b],_=>exact ⟨a,b,rfl⟩
  refine br ?_ ?_<;>intro h
  ·refine dS ?_;exact ⟨_,ax,mC (os:=[]) (tk:=[]) hF F8⟩
  ·exfalso;simp at h;exact F8 h
 rw [ai F8] at hF;have Wt:(dV ⟨ae,order,types,.mk rh rp⟩).1=0:=sU F8;have Le:=R9 Wt;obtain ⟨j6,hT,kL,rfl⟩:=Hb Wt;refine br (fun h=>?_) (fun _=>?_)
 ·exfalso;simp at h;exact F8 h
 refine cX 2 0 Us rfl rfl rfl fU fU (Wr (gV X.af (cw X.af X.aH) X.rows X.js) j6) (fun r iA cr hΦ h1 h2=>?_);obtain ⟨rfl,rfl⟩:=hΦ;have h2:=List.eq_nil_of_length_eq_zero h2;subst h2;by_cases hR:(eaR (.mk rh rp) types 0).1.1≠0
 ·rw [ap (show (eaR (Sch.mk ae order types (.mk rh rp)).root (Sch.mk ae order types (.mk rh rp)).types 0).1.1≠0 from hR)] at hF;refine br ?_ ?_<;>intro h
  ·refine dS ?_;exact ⟨_,ax,mC (os:=[]) (tk:=[]) hF hR⟩
  ·exfalso;simp at h;exact hR h
 rw [ai (show ¬ (eaR (Sch.mk ae order types (.mk rh rp)).root (Sch.mk ae order types (.mk rh rp)).types 0).1.1≠0 from hR)] at hF;have Yy:(eaR (.mk rh rp) types 0).1.1=0:=sU hR;refine br (fun h=>?_) (fun _=>?_)
 ·exfalso;simp at h;exact hR h
 have hea:=Ws X hX j6 hT (by have:types.length<=64:=Le;have:j6.length<=types.length:=kL;omega) (eaR (.mk rh rp) types 0).2;have Sa:∀ t,knT X (tL ⟨ae,order,types,.mk rh rp⟩) t=kN ⟨ae,order,types,.mk rh rp⟩ t:=fun t=>by rw [<- Yx];exact R8 _ _ _ t
 have hfeq:eaL (knT X (tL ⟨ae,order,types,.mk rh rp⟩)) (knT X (tL ⟨ae,order,types,.mk rh rp⟩) (.mk rh rp)) types=eaL (kN ⟨ae,order,types,.mk rh rp⟩) (kN ⟨ae,order,types,.mk rh rp⟩ (.mk rh rp)) types:=by
  rw [show knT X (tL ⟨ae,order,types,.mk rh rp⟩)=kN ⟨ae,order,types,.mk rh rp⟩ from funext Sa]
 refine F0 Us hea ax rfl rfl ?_;by_cases hK:(eaL (kN ⟨ae,order,types,.mk rh rp⟩) (kN ⟨ae,order,types,.mk rh rp⟩ (.mk rh rp)) types).1≠0
 ·rw [ap (show (eaL (kN ⟨ae,order,types,.mk rh rp⟩) (kN ⟨ae,order,types,.mk rh rp⟩ (Sch.mk ae order types (.mk rh rp)).root) (Sch.mk ae order types (.mk rh rp)).types).1≠0 from hK)] at hF;refine br ?_ ?_<;>intro h
  ·refine dS ?_;refine ⟨.tup [.v (.pointer none),(eaL (knT X (tL ⟨ae,order,types,.mk rh rp⟩)) (knT X (tL ⟨ae,order,types,.mk rh rp⟩) (.mk rh rp)) types).d],ax,?_⟩;rw [hfeq];exact mC (os:=[]) (tk:=[]) hF hK
  ·grind
 rw [ai (show ¬ (eaL (kN ⟨ae,order,types,.mk rh rp⟩) (kN ⟨ae,order,types,.mk rh rp⟩ (Sch.mk ae order types (.mk rh rp)).root) (Sch.mk ae order types (.mk rh rp)).types).1≠0 from hK)] at hF;have Yz:(eaL (kN ⟨ae,order,types,.mk rh rp⟩) (kN ⟨ae,order,types,.mk rh rp⟩ (.mk rh rp)) types).1=0:=sU hK;refine br (fun h=>?_) (fun _=>?_)
 ·grind
 have hw2:wdsWt ae + prsWt order + nmsWt types + (Ty.mk rh rp).wt<=1099511627776:=hw;have hnmw:nmsWt types<=1099511627776:=by omega
 obtain ⟨Lf,ic⟩:=La Yz;have hkr':(knT X (tL ⟨ae,order,types,.mk rh rp⟩) (.mk rh rp)).1=0:=by rw [Sa];exact Lf
 have Wu:∀ x∈types,(knT X (tL ⟨ae,order,types,.mk rh rp⟩) x.2).1=0:=fun x hx=>by rw [Sa];exact ic x hx
 have Wv:∀ x∈types,sj ⟨ae,order,types,.mk rh rp⟩ x.2=true:=fun x hx=>zr (Wu x hx);have N9:j6.length<=1099511627776:=by have:types.length<=64:=Le;have:j6.length<=types.length:=kL;omega
 refine F0 ZI (Qa X.pd j6 X.pd (.v (.slice none 0 0)) (.v (.int .i64 0)) (.v (.slice none 0 0)) (eaR (.mk rh rp) types 0).2 hT N9 Le Wv) ax rfl rfl ?_;by_cases hO:(loopF ⟨ae,order,types,.mk rh rp⟩).1≠0
 ·refine br ?_ ?_<;>intro h
  ·refine dS ?_;exact ⟨_,ax,mC (os:=[]) (tk:=[]) hF hO⟩
  ·exfalso;simp at h;exact hO h
 have hO0:(loopF ⟨ae,order,types,.mk rh rp⟩).1=0:=sU hO;have Qb:(j5 ⟨ae,order,types,.mk rh rp⟩).1=0:=by rw [hF];exact hO0
 refine br (fun h=>?_) (fun _=>?_)
 ·exfalso;simp at h;exact hO h
 refine cX 2 0 ZJ rfl rfl rfl fU fU (Ld (gV X.af (cw X.af X.aH) X.rows X.js) j6 (eaR (.mk rh rp) types 0).2 hT N9 Le Wv hnmw (BK hO0)) (fun r iA cr hΦ h1 h2=>?_);subst hΦ;have h2:=List.eq_nil_of_length_eq_zero h2;subst h2;clear sc Wr Ws Qa Ld hea Ny;have hN:(dNms types).length=types.length:=di types;obtain ⟨HH,A5,hcm,Ww⟩:=Lb (Int.le_refl 0) Yy;generalize (eaR (.mk rh rp) types 0).2=m at hcm Ww ⊢
 refine aY (fun j st=>∃ (e n:Nat) (base:List DV) (N:List Nd),st=Lc ⟨ae,order,types,.mk rh rp⟩ j6 (gV X.af (cw X.af X.aH) X.rows X.js) m (loopF ⟨ae,order,types,.mk rh rp⟩).1 (loopF ⟨ae,order,types,.mk rh rp⟩).2 n base e/\e<=types.length/\n=N.length/\base=(cI N).flatten/\N ++ ndsAll (gY ⟨ae,order,types,.mk rh rp⟩) ⟨ae,order,types,.mk rh rp⟩ (types.drop e) n=px ⟨ae,order,types,.mk rh rp⟩/\j=types.length - e) types.length
  (Lc ⟨ae,order,types,.mk rh rp⟩ j6 (gV X.af (cw X.af X.aH) X.rows X.js) m (loopF ⟨ae,order,types,.mk rh rp⟩).1 (loopF ⟨ae,order,types,.mk rh rp⟩).2 0 [] 0) (dA 5 ⟨0,165,7,some []⟩ rfl rfl rfl nY rfl rfl jX) ⟨0,0,[],[],rfl,by omega,rfl,rfl,rfl,by omega⟩ ?_
 rintro j st ⟨e,n,base,N,rfl,he,hn,QI,Wx,rfl⟩;have hl64':types.length<=64:=Le;have D6:X.lev=gY ⟨ae,order,types,.mk rh rp⟩:=by rw [<- Yx];all_goals rfl
 have htot:(px ⟨ae,order,types,.mk rh rp⟩).length + (Ty.mk rh rp).nn<=512:=by
  have h1:=uM types;have h2:=(Ty.mk rh rp).fH;have h3:(px ⟨ae,order,types,.mk rh rp⟩).length=(types.map fun x=>x.2.nn).sum:=uL _ _ _ _;omega
 have hbl:base.length=n * 7:=by rw [QI,hn,xT]
 have FF:n + (ndsAll (gY ⟨ae,order,types,.mk rh rp⟩) ⟨ae,order,types,.mk rh rp⟩ (types.drop e) n).length=(px ⟨ae,order,types,.mk rh rp⟩).length:=by rw [<- Wx,List.length_append,hn]
 refine br ?_ ?_<;>intro hL
 ·have ay:e < types.length:=by have:=hL;simp [hN] at this;exact this
  obtain ⟨x,hx⟩:=gX ay;have Tm:=mG hx;rw [drop_cons hx,ndsAll] at Wx FF;rw [List.length_append] at FF;have iJ:=jC (gY ⟨ae,order,types,.mk rh rp⟩) ⟨ae,order,types,.mk rh rp⟩ x.2 n;have DY:=gA X hX j6 m hT N9 x.2 (bO x.2 (.inr ⟨x,Tm,rfl⟩)) (Wu x Tm) n base (by omega) hbl;rw [D6] at DY;obtain ⟨xw,⟨xh,xp⟩⟩:=x;refine iX (dNms_get hx) ?_;refine cX 2 1 Nn rfl rfl rfl fU fU DY (fun r iA cr hΦ h1 h2=>?_);obtain ⟨rfl,rfl,rfl⟩:=hΦ;refine ⟨Lc ⟨ae,order,types,.mk rh rp⟩ j6 (gV X.af (cw X.af X.aH) X.rows X.js) m (loopF ⟨ae,order,types,.mk rh rp⟩).1 (loopF ⟨ae,order,types,.mk rh rp⟩).2 (n + (ndsT (gY ⟨ae,order,types,.mk rh rp⟩) ⟨ae,order,types,.mk rh rp⟩ (.mk xh xp) n).length) (base ++ (cI (ndsT (gY ⟨ae,order,types,.mk rh rp⟩) ⟨ae,order,types,.mk rh rp⟩ (.mk xh xp) n)).flatten) (e + 1),(wkB 5 (nz (nxt ay (by omega))) (cQ (nxt ay (by omega)))),types.length - (e + 1),by omega,e + 1,_,_,N ++ ndsT (gY ⟨ae,order,types,.mk rh rp⟩) ⟨ae,order,types,.mk rh rp⟩ (.mk xh xp) n,rfl,by omega,by rw [List.length_append,hn],by rw [QI];simp [cI],?_,rfl⟩;rw [List.append_assoc,iJ];exact Wx
 have hge:e=types.length:=sW hN hL;subst hge;rw [List.drop_length,ndsAll,List.append_nil] at Wx;rw [List.drop_length,ndsAll,List.length_nil,Nat.add_zero] at FF;have X4:=gA X hX j6 m hT N9 (.mk rh rp) (by omega) hkr' n base (by omega) hbl;rw [D6] at X4;intro E a w hr;have mS:=l6 hr;obtain ⟨b0,ty0,Jk,iy,hw0,Jj⟩:=mS.env.ey 0 _ rfl;obtain ⟨b1,ty1,arr1,nV,hw1,Ug⟩:=mS.env.ey 1 _ rfl;obtain ⟨v13,hv13,hp13⟩:=RvL.get (i:=13) (d:=.loc 1 0) Jj.1 rfl;have Wy:v13 = .pointer (some ⟨b1,0,none⟩):=by grind [Rv]
 subst Wy
 have oQ:w.drew.cell? ⟨b0,13,none⟩=some (.pointer (some ⟨b1,0,none⟩)):=by
  rw [ch hw0];simpa using hv13
 have Q6:=NZ mS.env [0,1,2,3];generalize Ag:maskL [0,1,2,3] 0 _=bxm at Q6;have hbmi:∀ (i:Nat) cs,bxm[i]? = some cs->cs ≠ []->2<=i:=fun i cs hi bq=>by grind [maskL]
 refine jY (C:=fun w'=>CC E bxm w.drew w' /\ w'.cell? ⟨b0,13,none⟩=some (.pointer (some ⟨b1,0,none⟩))) (W:=fun i=>Nat.beq i 10) (Q:=fun a w=>kq _ _ .normal a w) mo (by decide +kernel) (fun _ _ h=>h) ⟨⟨fun _ _ _ _ _ _=>rfl,mS.env.sub⟩,oQ⟩ ?_;show Go.Proofs.YtphonmiflfhdbaaGreat.Dv.runT _ _ _ _ _ [0,1,2,3,4,5,6,7,8,9,10] _ _;refine lA mS rfl rfl rfl rfl rfl rfl (fun a0 h0=>?_);refine lA h0 rfl rfl rfl rfl rfl rfl (fun a1 h1=>?_);refine lA h1 rfl rfl rfl rfl rfl rfl (fun a2 h2=>?_);refine N2 h2 rfl nV rfl rfl iy rfl rfl (fun w' h=>h.2) ⟨⟨fun _ _ _ _ _ _=>rfl,mS.env.sub⟩,oQ⟩ rfl rfl (fun a3 h3=>?_);refine lA h3 rfl rfl rfl rfl rfl rfl (fun a4 h4=>?_);refine lA h4 rfl rfl rfl rfl rfl rfl (fun a5 h5=>?_);refine N1 h5 rfl (bx:=bxm) (NY h5 Q6 (fun w' h=>h.1)) ⟨⟨fun _ _ _ _ _ _=>rfl,mS.env.sub⟩,oQ⟩ rfl rfl (by rw [<- Ag];rfl) rfl (fun a6 h6=>?_);refine N3 h6 rfl rfl rfl rfl rfl rfl Nn 2 1 rfl rfl fU fU X4 rfl rfl ?_;intro v r iA cr E' w' hΦ _ _ cu Ah hx hβ hh;obtain ⟨rfl,rfl,rfl⟩:=hΦ;refine ⟨fun _ hC=>⟨⟨fun i b cs hb cT bq=>?_,fun x v Yp=>cu.env.sub x v (hx.c x v Yp)⟩,?_⟩,?_⟩
 ·exact hh i b (hbmi i cs cT bq) hb
 ·obtain ⟨b0',ty0',arr0',Sb,hw0',hc0'⟩:=cu.env.ey 0 _ rfl;rw [hβ,iy] at Sb;simp only [oI] at Sb;subst Sb;obtain ⟨u13,hu13,Wz⟩:=RvL.get (i:=13) (d:=.loc 1 0) hc0'.1 rfl;unfold Rv at Wz;obtain ⟨b,hb,rfl⟩:=Wz;rw [hβ,nV] at hb;simp only [oI] at hb;subst hb;rw [ch hw0'];simpa using hu13
 have h7:=bu (dst:=some 77) cu rfl _ v Ah;have hrN:(px ⟨ae,order,types,.mk rh rp⟩).length=n:=by rw [<- Wx,hn]
 have qm:base ++ (cI (ndsT (gY ⟨ae,order,types,.mk rh rp⟩) ⟨ae,order,types,.mk rh rp⟩ (.mk rh rp) n)).flatten=(cI (aM ⟨ae,order,types,.mk rh rp⟩)).flatten:=by grind [aM,cI]
 have WA:(cI (aM ⟨ae,order,types,.mk rh rp⟩)).length=n + (ndsT (gY ⟨ae,order,types,.mk rh rp⟩) ⟨ae,order,types,.mk rh rp⟩ (.mk rh rp) n).length:=by
  unfold aM;rw [hrN];simp [cI,hrN]
 obtain ⟨E3,h8⟩:=N4 h7 1 1 0 (ns:=cI (aM ⟨ae,order,types,.mk rh rp⟩)) (congrArg (fun b=>some (D2 (n + (ndsT (gY ⟨ae,order,types,.mk rh rp⟩) ⟨ae,order,types,.mk rh rp⟩ (.mk rh rp) n).length) b)) qm) (fun x hx=>by
  simp only [cI,List.mem_map] at hx;obtain ⟨y,_,rfl⟩:=hx
  rfl) WA rfl rfl List.length_replicate
 refine lA h8 rfl rfl rfl rfl rfl rfl (fun a8 h9=>?_);refine lA h9 rfl rfl rfl rfl rfl rfl (fun a9 vX=>?_);refine HG vX rfl rfl rfl rfl rfl rfl ?_;refine ⟨.tup [.pt [X.pd,.sl 7 (cI (aM ⟨ae,order,types,.mk rh rp⟩)) none,.v (.int .i64 (mA ⟨ae,order,types,.mk rh rp⟩ (.mk rh rp) n)),.pt (cw (tL ⟨ae,order,types,.mk rh rp⟩) j6) 0,.sl 1 (dInts (namedL ⟨ae,order,types,.mk rh rp⟩)) none] 0,Ft.d (0,0)],ax,N8 (os:=[]) (tk:=[]) Qb ⟨aH,j6,js,by rw [Yx];exact hX,hT,kL,?_⟩⟩;rw [P9,Yx,dW,hrN]
theorem Oa (es:List (List DV)) (hl:es.length<=1099511627776):Ev prog 149 [.sl 1 es none] [] [] (fun r _ _=>r = .sl 1 es none∨(es=[]/\r = .v (.slice none 0 0))):=by
 refine eG 8 [.tmp 2] func149 rfl ntmps149 rfl fun _ _ _ _=>?_;refine K8 ⟨_,rfl⟩ rfl rfl rfl rfl (fun b hb=>?_);refine br ?_ ?_<;>intro h
 ·have h:b=true:=h;have he:es=[]:=Classical.byContradiction fun hn=>by rw [hb hn] at h;cases h
  subst he;exact Or.inr ⟨rfl,rfl⟩
 ·refine BJ rfl rfl rfl rfl (hk:=?_);refine ⟨rfl,⟨by simp [maxLen];omega,by simp;omega⟩,?_⟩;exact ⟨_,ax,Or.inl rfl⟩
theorem Ob (es:List (List DV)) (hl:es.length<=1099511627776):Ev prog 150 [.sl 10 es none] [] [] (fun r _ _=>r = .sl 10 es none∨(es=[]/\r = .v (.slice none 0 0))):=by
 refine eG 8 [.tmp 2] func150 rfl ntmps150 rfl fun _ _ _ _=>?_;refine K8 ⟨_,rfl⟩ rfl rfl rfl rfl (fun b hb=>?_);refine br ?_ ?_<;>intro h
 ·have h:b=true:=h;have he:es=[]:=Classical.byContradiction fun hn=>by rw [hb hn] at h;cases h
  subst he;exact Or.inr ⟨rfl,rfl⟩
 ·refine BJ rfl rfl rfl rfl (hk:=?_);refine ⟨rfl,⟨by simp [maxLen];omega,by simp;omega⟩,?_⟩;exact ⟨_,ax,Or.inl rfl⟩
def WB (lc:List DV) (zq:List Nd) (root:Int) (L:List ByteArray) (aH:List Nat) (named:List Nat):DV:=.pt [.pt lc 0,.sl 7 (cI zq) none,.v (.int .i64 root),.pt (cw L aH) 0,.sl 1 (dInts named) none] 0
theorem mD (l:List Nd):(cI l).length=l.length:=by simp [cI]
theorem mE {l:List Nd} {i:Nat} {n:Nd} (h:l[i]? = some n):(cI l)[i]? = some (nD n):=by simp [cI,h]
section
variable (lc:List DV) (zq:List Nd) (root:Int) (L:List ByteArray) (aH:List Nat) (named:List Nat)
theorem qS:EvP prog 148 [WB lc zq root L aH named] (.v (.int .i64 zq.length)):=by
 refine eG 10 [.tmp 2] func148 rfl ntmps148 rfl fun _ _ _ _=>?_;refine (yM ?_:);rw [mD]
theorem D7:EvP prog 47 [WB lc zq root L aH named] (.v (.int .i64 root)):=by
 refine eG 9 [.tmp 2] func47 rfl ntmps47 rfl fun _ _ _ _=>?_;exact (rfl:_=_)
theorem HI:EvP prog 15 [WB lc zq root L aH named] (.pt lc 0):=by
 refine eG 9 [.tmp 2] func15 rfl ntmps15 rfl fun _ _ _ _=>?_;exact ⟨_,ax,rfl⟩
theorem D8 (i:Nat) (n:Nd) (h:zq[i]? = some n) (hn:n.af.length<=1099511627776) (he:n.aC.length<=1099511627776) :
  EvP prog 94 [WB lc zq root L aH named,.v (.int .i64 i)] (.tup [.agg (nD n),.v (.bool true)]):=by
 have ay:=(gS h).1;have hlen:=qS lc zq root L aH named;have Ug:=Oa (ee n.af) (by rw [bQ];exact hn);have qf:=Ob (gW n.aC) (by rw [dj];exact he);refine eG 32 [.cell 4 165,.tmp 5] func94 rfl ntmps94 rfl fun _ _ _ _=>?_;refine cP Po hlen ?_;refine br ?_ ?_<;>intro g
 ·exfalso;simp [pickB] at g;omega
 refine iX (mE h) ?_;refine dS ?_;refine oY U0 rfl Ug ax (fun r1 hr1=>?_);rcases hr1 with rfl | ⟨h1,rfl⟩
 ·refine oY Pp rfl qf ax (fun r2 hr2=>?_);rcases hr2 with rfl | ⟨h2,rfl⟩
  ·exact ⟨.tup [.agg (nD n),.v (.bool true)],ax,rfl⟩
  ·exact ⟨.tup [.agg (nD n),.v (.bool true)],(by repeat' (first | exact rfl | exact trivial | exact Or.inr (Or.inl ⟨_,rfl⟩) | exact Or.inr ⟨_,rfl⟩ | exact Or.inl ⟨rfl,rfl⟩ | exact Or.inl rfl | refine Or.inr ⟨_,_,rfl,Nat.zero_le _,rfl,?_⟩ | refine ⟨_,_,rfl,?_,?_⟩ | refine ⟨_,rfl,?_⟩ | exact Or.inl ⟨h2,rfl⟩ | refine Or.inr (Or.inr (Or.inr ⟨_,_,rfl,?_⟩)) | exact Or.inl rfl | refine Or.inr ?_)),rfl⟩
 ·refine oY Pp rfl qf ax (fun r2 hr2=>?_);rcases hr2 with rfl | ⟨h2,rfl⟩
  ·exact ⟨.tup [.agg (nD n),.v (.bool true)],(by repeat' (first | exact rfl | exact trivial | exact Or.inr (Or.inl ⟨_,rfl⟩) | exact Or.inr ⟨_,rfl⟩ | exact Or.inl ⟨rfl,rfl⟩ | exact Or.inl rfl | refine Or.inr ⟨_,_,rfl,Nat.zero_le _,rfl,?_⟩ | refine ⟨_,_,rfl,?_,?_⟩ | refine ⟨_,rfl,?_⟩ | exact Or.inl ⟨h1,rfl⟩ | refine Or.inr (Or.inr (Or.inr ⟨_,_,rfl,?_⟩)) | exact Or.inl rfl | refine Or.inr ?_)),rfl⟩
  ·exact ⟨.tup [.agg (nD n),.v (.bool true)],(by repeat' (first | exact rfl | exact trivial | exact Or.inr (Or.inl ⟨_,rfl⟩) | exact Or.inr ⟨_,rfl⟩ | exact Or.inl ⟨rfl,rfl⟩ | exact Or.inl rfl | refine Or.inr ⟨_,_,rfl,Nat.zero_le _,rfl,?_⟩ | refine ⟨_,_,rfl,?_,?_⟩ | refine ⟨_,rfl,?_⟩ | exact Or.inl ⟨h1,rfl⟩ | exact Or.inl ⟨h2,rfl⟩ | refine Or.inr (Or.inr (Or.inr ⟨_,_,rfl,?_⟩)) | exact Or.inl rfl | refine Or.inr ?_)),rfl⟩
theorem D9 (i:Int) (h:i < 0∨zq.length<=i) :
  EvP prog 94 [WB lc zq root L aH named,.v (.int .i64 i)] (.tup [.agg [.v (.int .i64 0),.v (.int .i64 0),.v (.int .i64 0),.v (.int .i64 0),.v (.int .i64 0),.v (.slice none 0 0),.v (.slice none 0 0)],.v (.bool false)]):=by
 have hlen:=qS lc zq root L aH named;refine eG 32 [.cell 4 165,.tmp 5] func94 rfl ntmps94 rfl fun _ _ _ _=>?_;refine br ?_ ?_<;>intro g
 ·refine cP Po hlen ?_;refine br ?_ ?_<;>intro g2
  ·exact ⟨_,ax,rfl⟩
  ·exfalso;simp at g;simp [pickB,g] at g2;omega
 ·exact ⟨_,ax,rfl⟩
end
abbrev sK (s:Sch) (n d k q:Int) (e:Nat):St:=
 ⟨[aF 1 0,aw 3 n,aw 4 d,aw 5 e],[dQ s],[]⟩
theorem zs (s:Sch) (bO:s.wt<=1099511627776):Ev prog 20 [.agg (dQ s)] [] [] (fun d _ _=>∃ b:Bool,d = .v (.bool b)):=by
 have h1:=bi s.ae;have h2:=gQ s.order;have h3:=iZ s.types;simp only [Sch.wt] at bO;have fi:=jN s.root.wt s.root (aU _) (by omega);obtain ⟨ae,order,types,⟨h,ps⟩⟩:=s;simp only at h1 h2 h3 bO fi;refine eG 60 [.tmp 2] func20 rfl ntmps20 rfl fun _ _ _ _=>?_;refine br ?_ ?_<;>intro _
 ·exact ⟨true,rfl⟩
 refine cP Nt fi ?_;refine aY (fun j st=>∃ (e:Nat) (n d:Int),st=sK ⟨ae,order,types,.mk h ps⟩ n d 0 0 e/\e<=types.length/\j=types.length - e) types.length (sK ⟨ae,order,types,.mk h ps⟩ (Ty.mk h ps).cnt (Ty.mk h ps).deep 0 0 0) (bl wB) ⟨0,_,_,rfl,by omega,by omega⟩ ?_;rintro j st ⟨e,n,d,rfl,he,rfl⟩;refine br ?_ ?_<;>intro hL
 ·have ay:e < types.length:=by have:=hL;simp [di] at this;exact this
  obtain ⟨w,hw⟩:=gX ay;have A5:=fO (mG hw);have hs:=jN w.2.wt w.2 (aU _) (by omega);obtain ⟨w,u,us⟩:=w;simp only at hs;refine iX (dNms_get hw) ?_;refine cP Nt hs ?_;refine br ?_ ?_<;>intro _
  ·exact ⟨sK ⟨ae,order,types,.mk h ps⟩ _ _ 0 0 (e + 1),(bl (cQ (nxt ay (by omega)))),types.length - (e + 1),by omega,e + 1,_,_,rfl,by omega,rfl⟩
  ·exact ⟨sK ⟨ae,order,types,.mk h ps⟩ _ _ 0 0 (e + 1),(bl (cQ (nxt ay (by omega)))),types.length - (e + 1),by omega,e + 1,_,_,rfl,by omega,rfl⟩
 exact ⟨_,rfl⟩
def samePrs:List (Wd × Wd)->List (Wd × Wd)->Bool
 | [],[]=>true
 | x :: r,y :: s=>(decide (x.1.s=y.1.s) && decide (x.2.s=y.2.s)) && samePrs r s
 | _,_=>false
def sameNms:List (Wd × Ty)->List (Wd × Ty)->Bool
 | [],[]=>true
 | x :: r,y :: s=>(decide (x.1.s=y.1.s) && sameTy x.2 y.2) && sameNms r s
 | _,_=>false
def FC (a b:Sch):Bool:=sameWds a.ae b.ae && samePrs a.order b.order && sameTy a.root b.root && sameNms a.types b.types
theorem HJ:∃ d,Op.maxDepth=d + 1 + 1 + 1:=⟨Op.maxDepth - 3,by decide⟩
theorem Lg (p q r s:Int) (w:World):(Op.equal 44 (.agg #[.int .i64 p,.int .i64 q]) (.agg #[.int .i64 r,.int .i64 s])).run prog w = .ok (decide (p=r) && decide (q=s)) w:=by
 have hf:prog.underlying 44=some (.struct (prog.fieldsOf 44)):=by simp [Program.fieldsOf,Tryz.underlying44]
 have vY:(prog.fieldsOf 44).toList=[⟨ "E",42,0,false, "", "",0⟩,⟨ "At",3,1,false, "", "",8⟩]:=by simp [Program.fieldsOf,Tryz.underlying44]
 have hs:prog.stoodInHeld 44=false:=by kernel_rfl
 obtain ⟨d,hm⟩:=HJ
 have q9:∀ cs:Array Value,∀ off v,cs[off]? = some v->(part 42 cs off).run prog w = .ok v w:=fun cs off v h=>by
  simp [part,Tryz.isAgg42,h]
 have q3:∀ cs:Array Value,∀ off v,cs[off]? = some v->(part 3 cs off).run prog w = .ok v w:=fun cs off v h=>by
  simp [part,Tryz.isAgg3,h]
 unfold Op.equal;rw [hm,run_equalIn_struct w (d + 1 + 1) 44 _ _ hf hs,vY];simp only [Op.eqFields,ne_eq,String.reduceEq,not_false_eq_true,if_true,Sem.run_bind,q9 #[.int .i64 p,.int .i64 q] 0 (.int .i64 p) rfl,q9 #[.int .i64 r,.int .i64 s] 0 (.int .i64 r) rfl,Result.andThen_ok,run_equalIn_int w (d + 1) 42 .i64 .i64 p r Tryz.underlying42];by_cases h:p=r
 ·subst h;have e1:=q3 #[.int .i64 p,.int .i64 q] 1 (.int .i64 q) rfl;have e2:=q3 #[.int .i64 p,.int .i64 s] 1 (.int .i64 s) rfl;have e3:=run_equalIn_int w (d + 1) 3 .i64 .i64 q s Tryz.underlying3;by_cases h2:q=s
  ·subst h2;simp [e1,e3,Sem.run_pure]
  ·simp [e1,e2,e3,h2,Sem.run_pure]
 ·simp [h,Sem.run_pure]
theorem Sc (p q r s:Int) (w:World):(binOp .eql 44 (.agg #[.int .i64 p,.int .i64 q]) (.agg #[.int .i64 r,.int .i64 s])).run prog w = .ok (.bool (decide (p=r) && decide (q=s))) w:=by
 show ((do let r <- Op.equal 44 _ _;pure (Value.bool r)):Sem Value).run prog w=_;simp only [Sem.run_bind,Lg p q r s w,Result.andThen_ok,Sem.run_pure]
theorem Lh (op:BinOp) (w:World) (x y:Operand) (vs vs':Array Value):(eqGuard op 44 x y (.agg vs) (.agg vs')).run prog w = .ok () w:=by
 have h:prog.eqGuardType prog.depth 44=false:=by kernel_rfl
 cases op<;>simp [eqGuard,run_program,h]
theorem Sd (x y:Operand) (f g:Ft):CU prog .eql x y 44 [.v (.int .i64 f.1),.v (.int .i64 f.2)] [.v (.int .i64 g.1),.v (.int .i64 g.2)] (decide (f.1=g.1) && decide (f.2=g.2)):=
 ⟨[.int .i64 f.1,.int .i64 f.2],[.int .i64 g.1,.int .i64 g.2],rfl,rfl,fun w=>⟨Lh _ w x y _ _,Sc f.1 f.2 g.1 g.2 w⟩⟩
def cB (r:List Bool):List DV:=r.map fun b=>DV.v (.bool b)
def uO (r:List Bool):List (List DV):=r.map fun b=>[DV.v (.bool b)]
def cJ (m:List (List Bool)):List (List DV):=m.map fun r=>[DV.sl 1 (uO r) none]
theorem qT (r:List Bool):(cB r).length=r.length:=by simp [cB]
theorem sL (r:List Bool):(uO r).length=r.length:=by simp [uO]
theorem uP (m:List (List Bool)):(cJ m).length=m.length:=by simp [cJ]
theorem Li {r:List Bool} {i:Nat} {b:Bool} (h:r[i]? = some b):(cB r)[i]? = some (DV.v (.bool b)):=by simp [cB,h]
theorem zt (r:List Bool) (i:Nat) (b:Bool):(cB r).set i (DV.v (.bool b))=cB (r.set i b):=by simp [cB,List.map_set]
theorem F9 {r:List Bool} {i:Nat} {b:Bool} (h:r[i]? = some b):(uO r)[i]? = some [DV.v (.bool b)]:=by simp [uO,h]
theorem Lj {m:List (List Bool)} {i:Nat} {r:List Bool} (h:m[i]? = some r):(cJ m)[i]? = some [DV.sl 1 (uO r) none]:=by simp [cJ,h]
theorem pz (r:List Bool):(uO r).flatten=cB r:=by
 induction r with
 | nil=>rfl
 | cons b r ih=>simp only [uO,cB,List.map_cons,List.flatten_cons] at ih ⊢;rw [ih];all_goals rfl
theorem HK (n:Nat):(List.replicate n (vL [Value.bool false])).flatten=cB (List.replicate n false):=by
 induction n with
 | zero=>rfl
 | succ n ih=>simp only [List.replicate_succ,List.flatten_cons,ih];rfl
theorem bR {n m:Nat} {tk:List TkE} {l:List DV} {r:List Bool} (h:l=cB r):WeL n m tk l (cB r):=by
 subst h;refine ui _ fun x hx=>?_;obtain ⟨z,_,rfl⟩:=List.mem_map.1 hx;exact ⟨_,rfl⟩
theorem Qc {bx:List (List DV)} {N n0 m0 n:Nat} {r:List Bool} (hr:r.length=n) (hN:N<=0) (hb:bx[0]? = some (cB r)):Cc bx N n0 m0 (.sl 1 (uO r) none) (.ms 0 1 0 n n):=by
 simp only [Cc];refine Or.inr (Or.inr (Or.inl ⟨0,0,n,_,by rw [sL,hr],hN,hb,?_,?_,?_⟩))
 ·grind [pz,qT,sL]
 ·grind [uO]
 ·intro x hx;rw [pz] at hx;obtain ⟨_,_,rfl⟩:=List.mem_map.1 hx;exact .inl ⟨_,rfl⟩
def eY (n:Nat) (l:List (Nat × Nat)):List (List Bool):=(List.range n).map (sg n l)
theorem Ea (n:Nat) (l:List (Nat × Nat)):(eY n l).length=n:=by simp [eY]
theorem Eb {n a:Nat} (l:List (Nat × Nat)) (h:a < n):(eY n l)[a]? = some (sg n l a):=by simp [eY,List.getElem?_range h]
theorem HL {n:Nat} {l:List (Nat × Nat)} (h:qF n l):eY n l=dz n (dY n l):=by
 unfold eY dz;exact List.map_congr_left fun a ha=>NJ h (List.mem_range.1 ha)
def iG (l:List (Nat × Nat)) (r:List Bool) (e:Nat):List Bool:=(l.take e).foldl gl r
theorem Ec (l:List (Nat × Nat)) (r:List Bool) (e:Nat):(iG l r e).length=r.length:=od (l.take e) r
theorem BL {l:List (Nat × Nat)} {r:List Bool} {e:Nat} {p:Nat × Nat} (h:l[e]? = some p):iG l r (e + 1)=gl (iG l r e) p:=by
 unfold iG;rw [List.take_add_one,h];simp
abbrev ldSt (n:Nat) (l:List (Nat × Nat)) (q e:Nat):St:=
 ⟨[aw 0 n,bc 1 2 (lk l),(5,⟨[],.sl 1 (cJ ((eY n l).take e)) (some 0)⟩),aw 6 e],[],[⟨q,178,1,none⟩]⟩
abbrev WC (n:Nat) (l:List (Nat × Nat)) (q e:Nat) (r:List Bool) (k:Nat):St:=
 ⟨[aw 0 n,bc 1 2 (lk l),(5,⟨[],.sl 1 (cJ ((eY n l).take e)) (some 0)⟩),aw 6 e,(7,⟨[],.ms 0 1 0 n n⟩),aw 8 k],[cB r],[⟨q,178,1,none⟩]⟩
abbrev WD (n:Nat) (l:List (Nat × Nat)) (q e:Nat) (r:List Bool) (k i:Nat):St:=
 ⟨[aw 0 n,bc 1 2 (lk l),(5,⟨[],.sl 1 (cJ ((eY n l).take e)) (some 0)⟩),aw 6 e,(7,⟨[],.ms 0 1 0 n n⟩),aw 8 k,aw 9 i],[cB r],[⟨q,178,1,none⟩]⟩
abbrev WE (n:Nat) (l:List (Nat × Nat)) (q e:Nat) (r:List Bool):St:=
 ⟨[aw 0 n,bc 1 2 (lk l),aw 6 e,(46,⟨[],.sl 1 (cJ ((eY n l).take e)) (some 0)⟩),bc 47 1 (uO r)],[],[⟨q,178,1,none⟩]⟩
theorem Ee (n:Nat) (hn:n<=64) (l:List (Nat × Nat)) (hP:qF n l) (hb:l.length<=1099511627776) :
  EvP prog 77 [.v (.int .i64 n),.sl 2 (lk l) none] (.sl 1 (cJ (eY n l)) none):=by
 have FF:=gj l;have WG:=Ea n l;refine eG 51 [.tmp 4] func77 rfl ntmps77 rfl fun _ _ _ _=>?_;refine lJ (fun e=>ldSt n l e e) n (ff ⟨0,178,1,none⟩ rfl ⟨_,rfl⟩ rfl wA rfl rfl jX) ?_;intro e he;refine br ?_ ?_<;>intro hL
 ·have ay:e < n:=by have:=hL;simp at this;exact this
  have hr0l:((List.replicate n false).set e true).length=n:=by simp
  refine ⟨⟨rfl,by omega,by omega,by omega⟩,?_⟩;refine ⟨⟨by omega,by omega⟩,?_⟩;refine ⟨by rw [HK,qT,List.length_replicate];omega,?_⟩
  have iy:((List.replicate (n:Int).toNat (vL [Value.bool false])).flatten).set (0 + (e:Int).toNat * 1) (DV.v (.bool true))=cB (cq l ((List.replicate n false).set e true) 0):=by
   rw [HK,show 0 + (e:Int).toNat * 1=e by omega,show (n:Int).toNat=n by omega,zt];rfl
  refine lJ (fun k=>WC n l e e (cq l ((List.replicate n false).set e true) k) k) n (wkB 1 (nz iy) (cQ iy)) ?_;intro k hk;have gn:=eH l ((List.replicate n false).set e true) k;have vR:=dT l ((List.replicate n false).set e true) k;refine br ?_ ?_<;>intro nM
  ·have ic:k < n:=by have:=nM;simp at this;exact this
   generalize cq l ((List.replicate n false).set e true) k=r at gn vR ⊢;rw [hr0l] at gn;refine lJ (fun i=>WD n l e e (iG l r i) k i) l.length (wkB 1 nY jX) ?_;intro i hi;have oP:=Ec l r i;refine br ?_ ?_<;>intro hL3
   ·have WH:i < l.length:=by have:=hL3;simp [FF] at this;exact this
    obtain ⟨p,hp⟩:∃ p,l[i]? = some p:=⟨_,gE WH⟩;obtain ⟨Nf,Q8⟩:=hP p (mG hp);have WI:=BL (r:=r) hp;obtain ⟨b,nV⟩:∃ b,(iG l r i)[p.1]? = some b:=⟨_,gE (by omega)⟩;have Pd:(iG l r i).getD p.1 false=b:=by simp [ek,nV]
    rw [gl,Pd] at WI;refine iX (ue hp) ?_;refine ⟨⟨by decide,by decide⟩,?_⟩;refine ⟨⟨by omega,by omega⟩,?_⟩;refine ⟨_,(show (cB (iG l r i))[0 + (p.1:Int).toNat * 1]? = some (.v (.bool b)) by rw [show 0 + (p.1:Int).toNat * 1=p.1 by omega];exact Li nV),?_⟩;refine br ?_ ?_<;>intro g
    ·have g:b=true:=g;rw [ap g] at WI;refine iX (ue hp) ?_;refine ⟨⟨by decide,by decide⟩,?_⟩;refine ⟨⟨by omega,by omega⟩,?_⟩;refine ⟨by rw [qT];omega,?_⟩;have lO:(cB (iG l r i)).set (0 + (p.2:Int).toNat * 1) (DV.v (.bool true))=cB (iG l r (i + 1)):=by grind [zt]
     exact rE ⟨_,by omega,i + 1,rfl,by omega,rfl⟩ (wkB 1 (wA2 lO (nxt WH (by omega))) (wB2 lO (nxt WH (by omega))))
    ·have g:¬ b=true:=by rw [show b=false from g];decide
     rw [ai g] at WI;exact rE ⟨_,by omega,i + 1,rfl,by omega,rfl⟩ (wkB 1 (by repeat' (first | exact rfl | exact aE rfl | exact bR (by rw [WI]) | exact aD (nxt WH (by omega)) | refine ⟨_,_,rfl,?_,?_⟩)) (by repeat' (first | exact trivial | exact aE rfl | exact bR (by rw [WI]) | exact aD (nxt WH (by omega)) | refine ⟨⟨_,rfl,?_⟩,?_⟩)))
   ·have hge:i=l.length:=sW FF hL3;subst hge;have HM:iG l r l.length=cq l ((List.replicate n false).set e true) (k + 1):=by rw [vR,iG,List.take_length];all_goals rfl
    exact rE ⟨_,by omega,k + 1,rfl,by omega,rfl⟩ (wkB 1 (by repeat' (first | exact rfl | exact aE rfl | exact bR (by rw [HM]) | exact aD (nxt ic (by omega)) | refine ⟨_,_,rfl,?_,?_⟩)) (by repeat' (first | exact trivial | exact aE rfl | exact bR (by rw [HM]) | exact aD (nxt ic (by omega)) | refine ⟨⟨_,rfl,?_⟩,?_⟩)))
  ·have hge:k=n:=by have:=nM;simp at this;omega
   subst hge;have qm:cq l ((List.replicate k false).set e true) k=sg k l e:=rfl;rw [qm];have hrw:=ph k l e;refine I3.wk (.FD (st':=WE k l e e (sg k l e)) 0 rfl rfl rfl rfl ?_) rfl rfl ?_
   ·refine ⟨⟨_,rfl,?_⟩,⟨_,rfl,?_⟩,⟨_,rfl,?_⟩,⟨_,rfl,?_⟩,⟨_,rfl,Qc hrw (by omega) rfl⟩,trivial⟩
    ·simp only [Cc]
    ·grind [Cc]
    ·simp only [Cc]
    ·grind [Cc]
   ·have eN:(cJ ((eY k l).take e)).length=e:=by rw [uP,eP,WG];omega
    have gO:cJ ((eY k l).take e) ++ [[DV.sl 1 (uO (sg k l e)) none]]=cJ ((eY k l).take (e + 1)):=by rw [List.take_add_one,Eb l ay];simp [cJ]
    refine ⟨eN,⟨by rw [eN];simp [maxLen];omega,by rw [eN];simp;omega⟩,?_⟩;exact rE ⟨_,by omega,e + 1,rfl,by omega,rfl⟩ (bl (wB2 (nxt ay (by omega)) gO))
 ·have hge:e=n:=by have:=hL;simp at this;omega
  subst hge;have ht:(eY e l).take e=eY e l:=by rw [List.take_of_length_le (by rw [WG];omega)]
  rw [ht];exact ⟨_,ax,rfl⟩
end Go.Proofs.YtphonmiflfhdbaaGreat
