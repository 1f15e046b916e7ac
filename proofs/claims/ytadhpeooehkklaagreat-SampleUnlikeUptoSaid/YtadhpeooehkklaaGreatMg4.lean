/- Part 4 of the proof: lattice.bounds: all joins and meets; lattice.Build; Reading a lattice: Len, has, Name, Find, Join, Meet, Bottom; labels.Of; The checker's part, once check is known for lighter types; The checker's parts, once check is known for lighter types; The checker's one and check, once check is known for lighter types; so check; kinds.Count, resolve.nodes; the builder's level; The builder's end, loops, known; The builder's each, right, called; The builder's each of right; called; places; The builder's places; The builder's edge; The builder's node; Steps of a region that draws its order, one by one; What resolve.Build says of a schema; lattices in which nothing is wrong; resolve.Build; Reading a plan: Len, Root, Lattice, Node, Find; slices.Clone; of no plan as well; The reference of chapter 17: Great, Same; The program's comparing of schemas; The law's example: a type that leads to itself; The law of no plan: the call returns true; The document's relations: Leads; The document's lattices: Find, pairs, Leq, Loop; The document's lattices: what is wrong; The document's labels: over, Least, Of; The document's schemas: Find, word, all, Flat, End, Start; The document's schemas: Flat, End, Start; The document's schemas: named, unknown; The reference's Wrong returns what is wrong with a type; The document's schemas: what is wrong; The document's nodes: Same, of equal ones; the law's node; The document's nodes: node; The document's plan: Build; What is known of a type with which nothing is wrong; labels have levels. No condition. -/
import Derived.Test.YtadhpeooehkklaaGreatMg3
set_option linter.all false
set_option maxRecDepth 100000
namespace Go.Proofs.YtadhpeooehkklaaGreat
open Go Go.RowKit Dv Tryz
theorem ccL_cZ (js:List Int) (bx:List (List DV)) (N n m:Nat):CcL bx N n m (cZ js) (cZ js):=by
 induction js with
 | nil=>exact rfl
 | cons z r ih=>exact ⟨_,_,rfl,rfl,ih⟩
theorem weL_cZ {n m:Nat} {tk:List TkE} (js:List Int):WeL n m tk (cZ js) (cZ js):=weL_sc _ fun x hx=>by
 obtain ⟨z,_,rfl⟩:=List.mem_map.1 hx;exact ⟨_,rfl⟩
theorem ren_cZ (f:Nat->Nat) (js:List Int):renL f (cZ js)=cZ js:=by
 induction js with
 | nil=>rfl
 | cons z r ih=>simp only [cZ,List.map_cons,renL,renD] at ih ⊢;rw [ih]
theorem cZ_len (js:List Int):(cZ js).length=js.length:=by simp [cZ]
theorem cZ_set (js:List Int) (i:Nat) (z:Int):(cZ js).set i (.v (.int .i64 z))=cZ (js.set i z):=by simp [cZ,List.map_set]
abbrev dLs (names:List ByteArray) (tc:List DV) (rows:List Nat) (js:List Int):List DV:=dLt names (.pt tc 0) (dRel rows) js
theorem dLs_len (names:List ByteArray) (tc:List DV) (rows:List Nat) (js:List Int):(dLs names tc rows js).length=js.length + 3:=by simp [dLt,cZ]
theorem dLs_set {names:List ByteArray} {tc:List DV} {rows:List Nat} {js:List Int} {i k:Nat} {z:Int} (h:k=i + 3):(dLs names tc rows js).set k (.v (.int .i64 z))=dLs names tc rows (js.set i z):=by
 subst h;simp only [dLt,List.set_cons_succ,cZ_set]
theorem ren_dLs (f:Nat->Nat) (names:List ByteArray) (tc:List DV) (rows:List Nat) (js:List Int):renL f (dLs names tc rows js)=dLs names tc rows js:=by
 simp only [dLt,renL,ren_cZ];rfl
theorem weL_dLs {n m:Nat} {tk:List TkE} {l:List DV} {names:List ByteArray} {tc:List DV} {rows:List Nat} {js:List Int} (h:l=dLs names tc rows js):WeL n m tk l (dLs names tc rows js):=by
 subst h;exact ⟨_,_,rfl,we_rfl rfl,_,_,rfl,we_rfl rfl,_,_,rfl,we_rfl rfl,weL_cZ js⟩
def joinN (f:Nat->Nat->Bool) (n a b:Nat):Option Nat:=bestN (fun c=>f a c && f b c) f n
def meetN (f:Nat->Nat->Bool) (n a b:Nat):Option Nat:=bestN (fun c=>f c a && f c b) (fun x y=>f y x) n
theorem joinN_comm (f:Nat->Nat->Bool) (n a b:Nat):joinN f n a b=joinN f n b a:=by
 unfold joinN;congr 1;funext c;exact Bool.and_comm _ _
theorem meetN_comm (f:Nat->Nat->Bool) (n a b:Nat):meetN f n a b=meetN f n b a:=by
 unfold meetN;congr 1;funext c;exact Bool.and_comm _ _
def lackB (f:Nat->Nat->Bool) (n a b:Nat):Bool:=(joinN f n a b).isNone || (meetN f n a b).isNone
def bndP (f:Nat->Nat->Bool) (n b:Nat):Bool:=(List.range (b + 1)).any fun a=>lackB f n a b
def JM (f:Nat->Nat->Bool) (n:Nat) (js:List Int) (a b:Nat):Prop:=js[a * 32 + b]? = some (oz (joinN f n a b))/\js[1024 + (a * 32 + b)]? = some (oz (meetN f n a b))
def set4 (js:List Int) (a b:Nat) (j m:Int):List Int:=(((js.set (a * 32 + b) j).set (b * 32 + a) j).set (1024 + (a * 32 + b)) m).set (1024 + (b * 32 + a)) m
theorem set4_len (js:List Int) (a b:Nat) (j m:Int):(set4 js a b j m).length=js.length:=by simp [set4]
theorem get_set_ne {js:List Int} {i k:Nat} {z:Int} (h:k≠i):(js.set k z)[i]? = js[i]?:=List.getElem?_set_ne h
theorem set4_jm {f:Nat->Nat->Bool} {n:Nat} {js:List Int} (hl:js.length=2048) {a b:Nat} (ha:a < 32) (hb:b < 32) {x y:Nat} (hx:x < 32) (hy:y < 32)
  (h:JM f n js x y∨(x=a/\y=b)∨(x=b/\y=a)):JM f n (set4 js a b (oz (joinN f n a b)) (oz (meetN f n a b))) x y:=by
 have key:(x=a/\y=b)∨(x=b/\y=a)∨(JM f n js x y/\¬ (x=a/\y=b)/\¬ (x=b/\y=a)):=by
  by_cases h1:x=a/\y=b
  ·exact .inl h1
  ·by_cases h2:x=b/\y=a
   ·exact .inr (.inl h2)
   ·rcases h with h | h | h
    ·exact .inr (.inr ⟨h,h1,h2⟩)
    ·exact (h1 h).elim
    ·exact (h2 h).elim
 rcases key with ⟨rfl,rfl⟩ | ⟨rfl,rfl⟩ | ⟨h,h1,h2⟩
 ·unfold JM set4;refine ⟨?_,?_⟩
  ·rw [get_set_ne (by omega),get_set_ne (by omega)];by_cases hxy:x=y
   ·subst hxy;rw [List.getElem?_set_self (by simp;omega)]
   ·rw [get_set_ne (by omega),List.getElem?_set_self (by omega)]
  ·by_cases hxy:x=y
   ·subst hxy;rw [List.getElem?_set_self (by simp;omega)]
   ·rw [get_set_ne (by omega),List.getElem?_set_self (by simp;omega)]
 ·unfold JM set4;rw [joinN_comm f n x y,meetN_comm f n x y];refine ⟨?_,?_⟩
  ·rw [get_set_ne (by omega),get_set_ne (by omega),List.getElem?_set_self (by simp;omega)]
  ·rw [List.getElem?_set_self (by simp;omega)]
 ·unfold JM set4;have g1:a * 32 + b≠x * 32 + y:=fun he=>h1 ⟨by omega,by omega⟩;have g2:b * 32 + a≠x * 32 + y:=fun he=>h2 ⟨by omega,by omega⟩;refine ⟨?_,?_⟩
  ·rw [get_set_ne (by omega),get_set_ne (by omega),get_set_ne g2,get_set_ne g1];exact h.1
  ·rw [get_set_ne (by omega),get_set_ne (by omega),get_set_ne (by omega),get_set_ne (by omega)];exact h.2
abbrev bndSt (names:List ByteArray) (tc:List DV) (rows:List Nat) (js:List Int) (e:Nat):St:=
 ⟨[(1,⟨[],.loc 1 0⟩),(3,⟨[],.loc 2 0⟩),(4,⟨[],.loc 3 0⟩),(15,⟨[],.v (.int .i64 (dBs names).length)⟩),(16,⟨[],.v (.int .i64 e)⟩)],
  [dLs names tc rows js,[.loc 0 0],[.fn 153 [] [.loc 1 0]],[.fn 155 [] [.loc 1 0]]],[]⟩
abbrev bnd2St (names:List ByteArray) (tc:List DV) (rows:List Nat) (js:List Int) (e f:Nat):St:=
 ⟨[(1,⟨[],.loc 1 0⟩),(3,⟨[],.loc 2 0⟩),(4,⟨[],.loc 3 0⟩),(15,⟨[],.v (.int .i64 (dBs names).length)⟩),(16,⟨[],.v (.int .i64 e)⟩),(5,⟨[],.loc 4 0⟩),(6,⟨[],.loc 5 0⟩)],
  [dLs names tc rows js,[.loc 0 0],[.fn 153 [] [.loc 1 0]],[.fn 155 [] [.loc 1 0]],[.v (.int .i64 e)],[.v (.int .i64 f)]],[]⟩
abbrev bnd3St (names:List ByteArray) (tc:List DV) (rows:List Nat) (js:List Int) (e f:Nat):St:=
 ⟨[(1,⟨[],.loc 1 0⟩),(3,⟨[],.loc 2 0⟩),(4,⟨[],.loc 3 0⟩),(15,⟨[],.v (.int .i64 (dBs names).length)⟩),(16,⟨[],.v (.int .i64 e)⟩),(5,⟨[],.loc 4 0⟩),(6,⟨[],.loc 6 0⟩)],
  [dLs names tc rows js,[.loc 0 0],[.fn 153 [] [.loc 1 0]],[.fn 155 [] [.loc 1 0]],[.v (.int .i64 e)],[.v (.int .i64 f)],[.v (.int .i64 (f + 1:Nat))]],[]⟩
abbrev bnd4St (names:List ByteArray) (tc:List DV) (rows:List Nat) (js:List Int) (e f:Nat):St:=
 ⟨[(1,⟨[],.loc 1 0⟩),(3,⟨[],.loc 2 0⟩),(4,⟨[],.loc 3 0⟩),(15,⟨[],.v (.int .i64 (dBs names).length)⟩),(16,⟨[],.v (.int .i64 e)⟩),(5,⟨[],.loc 4 0⟩),(6,⟨[],.loc 5 0⟩)],
  [dLs names tc rows js,[.loc 0 0],[.fn 153 [] [.loc 1 0]],[.fn 155 [] [.loc 1 0]],[.v (.int .i64 e)],[.v (.int .i64 (f + 1:Nat))],[.v (.int .i64 f)]],[]⟩
theorem bnd_ren (names:List ByteArray) (tc:List DV) (rows:List Nat) (js:List Int) (e f:Nat):bnd3St names tc rows js e f=renSt 5 6 (bnd4St names tc rows js e f):=by
 simp only [renSt,renO,ren_dLs];rfl
def BndΦ (names:List ByteArray) (tc:List DV) (rows:List Nat) (r:DV) (os:List (List DV)) (_:List TkE):Prop:=
 ∃ js',os=[dLs names tc rows js']/\js'.length=2048/\r = .v (.int .i64 (oz (firstN (bndP (bitB rows) names.length) names.length))) /\
  (firstN (bndP (bitB rows) names.length) names.length=none->∀ x y,x < names.length->y < names.length->JM (bitB rows) names.length js' x y)
theorem bounds_spec (names:List ByteArray) (tc:List DV) (rows:List Nat) (js:List Int) (hr:RelOK rows) (hlen:rows.length=names.length) (hn:names.length<=32) (hj:js.length=2048) :
  Ev Tryz.prog 93 [.loc 0 0] [dLs names tc rows js] [] (BndΦ names tc rows):=by
 have hN:=dBs_len names;refine ev_go (P:=Tryz.prog) tt tt_ok 5000 73 [.tmp 2] Tryz.func93 rfl Tryz.ntmps93 rfl (nL rfl) (fun E9 w9 hn9 hm9=>?_);refine loop_i (fun j st=>∃ (e:Nat) (js:List Int),st=bndSt names tc rows js e/\e<=names.length/\js.length=2048/\(∀ b,b < e->bndP (bitB rows) names.length b=false)/\(∀ x y,x < e->y < e->JM (bitB rows) names.length js x y)/\j=names.length - e) names.length (bndSt names tc rows js 0) (weak_b 4 rfl (by repeat' (first | exact rfl | exact we_rfl rfl | exact weL_cZ _ | refine ⟨_,_,rfl,?_,?_⟩)) rfl rfl rfl (by repeat' (first | exact trivial | exact we_rfl rfl | exact weL_cZ _ | refine ⟨⟨_,rfl,?_⟩,?_⟩))) ⟨0,js,rfl,by omega,hj,fun _ h=>by omega,fun _ _ h=>by omega,by omega⟩ ?_;rintro j st ⟨e,js,rfl,he,hj,hno,hjm,rfl⟩;refine br (fun hL=>?_) (fun hL=>?_)
 ·have hlt:e < names.length:=by have:=hL;simp [hN] at this;exact this
  refine loop_w (fun j st=>∃ (f:Nat) (js:List Int),st=bnd2St names tc rows js e f/\f<=e + 1/\js.length=2048/\(∀ a,a < f->lackB (bitB rows) names.length a e=false)/\(∀ x y,x < e->y < e->JM (bitB rows) names.length js x y)/\(∀ x,x < f->JM (bitB rows) names.length js x e/\JM (bitB rows) names.length js e x)/\j=e + 1 - f) (e + 1) (bnd2St names tc rows js e 0) (.weak (weak_b 6 rfl (by repeat' (first | exact rfl | exact we_rfl rfl | exact weL_cZ _ | refine ⟨_,_,rfl,?_,?_⟩)) rfl rfl rfl (by repeat' (first | exact trivial | exact we_rfl rfl | exact weL_cZ _ | refine ⟨⟨_,rfl,?_⟩,?_⟩)))) ⟨0,js,rfl,by omega,hj,fun _ h=>by omega,hjm,fun _ h=>by omega,by omega⟩ ?_;clear hjm hj;rintro j st ⟨f,js,rfl,hf,hj,hla,hjm,hje,rfl⟩;refine br (fun hL2=>?_) (fun hL2=>?_)
  ·have hfe:f<=e:=by have:=hL2;simp at this;exact this
   have hb1:=best_spec names (.pt tc 0) (dRel rows) js 157 153 en157 en153
    [.pt [bnd1F (dLs names tc rows js)] 0,.pt [.v (.int .i64 f)] 0,.pt [.v (.int .i64 e)] 0] [.pt [.pt (dLs names tc rows js) 0] 0] (fun c=>bitB rows f c && bitB rows e c) (bitB rows) ax ax rfl rfl (by omega)
    (fun c hc=>bnd3_spec names (.pt tc 0) rows js hr f e c (by omega) (by omega) (by omega)) (fun a b ha hb=>bnd1_spec names (.pt tc 0) rows js hr a b (by omega) (by omega))
   have hb2:=best_spec names (.pt tc 0) (dRel rows) js 158 155 en158 en155
    [.pt [bnd2F (dLs names tc rows js)] 0,.pt [.v (.int .i64 f)] 0,.pt [.v (.int .i64 e)] 0] [.pt [.pt (dLs names tc rows js) 0] 0] (fun c=>bitB rows c f && bitB rows c e) (fun x y=>bitB rows y x) ax ax rfl rfl (by omega)
    (fun c hc=>bnd4_spec names (.pt tc 0) rows js hr f e c (by omega) (by omega) (by omega)) (fun a b ha hb=>bnd2_spec names (.pt tc 0) rows js hr a b (by omega) (by omega))
   refine call_b en156 hb1 (by repeat' (first | exact rfl | exact trivial | exact Or.inr (Or.inl ⟨_,rfl⟩) | exact Or.inr ⟨_,rfl⟩ | exact Or.inl ⟨rfl,rfl⟩ | exact Or.inl rfl | refine Or.inr ⟨_,_,rfl,Nat.zero_le _,rfl,?_⟩ | refine ⟨_,_,rfl,?_,?_⟩ | refine ⟨_,rfl,?_⟩ | exact ccL_cZ _ _ _ _ _ | refine Or.inr (Or.inr (Or.inr ⟨_,_,rfl,?_⟩)) | exact Or.inl rfl | refine Or.inr ?_)) rfl ?_;refine call_b en156 hb2 (by repeat' (first | exact rfl | exact trivial | exact Or.inr (Or.inl ⟨_,rfl⟩) | exact Or.inr ⟨_,rfl⟩ | exact Or.inl ⟨rfl,rfl⟩ | exact Or.inl rfl | refine Or.inr ⟨_,_,rfl,Nat.zero_le _,rfl,?_⟩ | refine ⟨_,_,rfl,?_,?_⟩ | refine ⟨_,rfl,?_⟩ | exact ccL_cZ _ _ _ _ _ | refine Or.inr (Or.inr (Or.inr ⟨_,_,rfl,?_⟩)) | exact Or.inl rfl | refine Or.inr ?_)) rfl ?_
   have hlk:pickB (decide (oz (joinN (bitB rows) names.length f e) = -1)) true (decide (oz (meetN (bitB rows) names.length f e) = -1))=lackB (bitB rows) names.length f e:=by
    unfold lackB
    cases joinN (bitB rows) names.length f e with
    | none=>rfl
    | some j=>
     have:decide (oz (some j) = -1)=false:=by simp [oz]
     rw [this]
     cases meetN (bitB rows) names.length f e with
     | none=>rfl
     | some m=>
      have:decide (oz (some m) = -1)=false:=by simp [oz]
      rw [this];rfl
   refine br (fun g=>?_) (fun g=>?_)
   ·have g:lackB (bitB rows) names.length f e=true:=hlk.symm.trans g
    have hb:bndP (bitB rows) names.length e=true:=by
     unfold bndP;rw [List.any_eq_true];exact ⟨f,by simp;omega,g⟩
    have hfn:=firstN_some (p:=bndP (bitB rows) names.length) hlt hb hno;refine ⟨.v (.int .i64 e),[dLs names tc rows js],ax,(by repeat' (first | exact rfl | exact trivial | exact Or.inr (Or.inl ⟨_,rfl⟩) | exact Or.inr ⟨_,rfl⟩ | exact Or.inl ⟨rfl,rfl⟩ | exact Or.inl rfl | refine Or.inr ⟨_,_,rfl,Nat.zero_le _,rfl,?_⟩ | refine ⟨_,_,rfl,?_,?_⟩ | refine ⟨_,rfl,?_⟩ | exact ccL_cZ _ _ _ _ _ | refine Or.inr (Or.inr (Or.inr ⟨_,_,rfl,?_⟩)) | exact Or.inl rfl | refine Or.inr ?_)),js,rfl,hj,?_,fun h=>by rw [hfn] at h;cases h⟩;rw [hfn];rfl
   ·have g:lackB (bitB rows) names.length f e=false:=hlk.symm.trans g;refine drawG_m [0] (fun _=>false) mo (by decide +kernel) ?_;have hdl:=dLs_len names tc rows js;refine ⟨⟨by omega,by omega⟩,?_⟩;refine ⟨⟨by omega,by omega⟩,?_⟩;refine ⟨by rw [hdl];omega,?_⟩;refine ⟨⟨by omega,by omega⟩,?_⟩;refine ⟨⟨by omega,by omega⟩,?_⟩;refine ⟨by rw [List.length_set,hdl];omega,?_⟩;refine drawG_m [0] (fun _=>false) mo (by decide +kernel) ?_;refine ⟨⟨by omega,by omega⟩,?_⟩;refine ⟨⟨by omega,by omega⟩,?_⟩;refine ⟨by rw [List.length_set,List.length_set,hdl];omega,?_⟩;refine ⟨⟨by omega,by omega⟩,?_⟩;refine ⟨⟨by omega,by omega⟩,?_⟩;refine ⟨by rw [List.length_set,List.length_set,List.length_set,hdl];omega,?_⟩
    have hb0:((((dLs names tc rows js).set (0 + 0 + 3 + (f:Int).toNat * 32 + (e:Int).toNat * 1) (DV.v (.int .i64 (oz (joinN (bitB rows) names.length f e))))).set (0 + 0 + 3 + (e:Int).toNat * 32 + (f:Int).toNat * 1) (DV.v (.int .i64 (oz (joinN (bitB rows) names.length f e))))).set (0 + 0 + 1027 + (f:Int).toNat * 32 + (e:Int).toNat * 1) (DV.v (.int .i64 (oz (meetN (bitB rows) names.length f e))))).set (0 + 0 + 1027 + (e:Int).toNat * 32 + (f:Int).toNat * 1) (DV.v (.int .i64 (oz (meetN (bitB rows) names.length f e))))=dLs names tc rows (set4 js f e (oz (joinN (bitB rows) names.length f e)) (oz (meetN (bitB rows) names.length f e))):=by
     rw [dLs_set (i:=f * 32 + e) (by omega),dLs_set (i:=e * 32 + f) (by omega),dLs_set (i:=1024 + (f * 32 + e)) (by omega),dLs_set (i:=1024 + (e * 32 + f)) (by omega)];rfl
    refine ⟨bnd2St names tc rows (set4 js f e (oz (joinN (bitB rows) names.length f e)) (oz (meetN (bitB rows) names.length f e))) e (f + 1),
     .trans (.weak (s2:=bnd3St names tc rows (set4 js f e (oz (joinN (bitB rows) names.length f e)) (oz (meetN (bitB rows) names.length f e))) e f) (weak_b 7 rfl (by repeat' (first | exact rfl | exact we_rfl rfl | exact weL_dLs hb0 | exact we_int (nxt (n:=e + 1) (by omega) (by omega)) | refine ⟨_,_,rfl,?_,?_⟩)) rfl rfl rfl (by repeat' (first | exact trivial | exact we_rfl rfl | exact weL_dLs hb0 | exact we_int (nxt (n:=e + 1) (by omega) (by omega)) | refine ⟨⟨_,rfl,?_⟩,?_⟩))))
      (.trans (.ren 5 6 (bnd4St names tc rows (set4 js f e (oz (joinN (bitB rows) names.length f e)) (oz (meetN (bitB rows) names.length f e))) e f) _ (bnd_ren _ _ _ _ _ _) rfl rfl rfl rfl) (.weak (weak_b 6 rfl (by repeat' (first | exact rfl | exact we_rfl rfl | exact weL_cZ _ | refine ⟨_,_,rfl,?_,?_⟩)) rfl rfl rfl (by repeat' (first | exact trivial | exact we_rfl rfl | exact weL_cZ _ | refine ⟨⟨_,rfl,?_⟩,?_⟩))))),
     e + 1 - (f + 1),by omega,f + 1,_,rfl,by omega,by rw [set4_len];exact hj,fun a ha=>?_,fun x y hx hy=>?_,fun x hx=>?_,rfl⟩
    ·rcases Nat.lt_succ_iff_lt_or_eq.1 ha with ha | rfl
     ·exact hla a ha
     ·exact g
    ·exact set4_jm hj (by omega) (by omega) (by omega) (by omega) (.inl (hjm x y hx hy))
    ·rcases Nat.lt_succ_iff_lt_or_eq.1 hx with hx | rfl
     ·exact ⟨set4_jm hj (by omega) (by omega) (by omega) (by omega) (.inl (hje x hx).1),set4_jm hj (by omega) (by omega) (by omega) (by omega) (.inl (hje x hx).2)⟩
     ·exact ⟨set4_jm hj (by omega) (by omega) (by omega) (by omega) (.inr (.inl ⟨rfl,rfl⟩)),set4_jm hj (by omega) (by omega) (by omega) (by omega) (.inr (.inr ⟨rfl,rfl⟩))⟩
  ·have hfe:f=e + 1:=by have:=hL2;simp at this;omega
   subst hfe
   have hb:bndP (bitB rows) names.length e=false:=by
    unfold bndP;rw [List.any_eq_false];intro a ha;rw [hla a (by simpa using ha)];decide
   refine ⟨bndSt names tc rows js (e + 1),(weak_b 4 rfl (by repeat' (first | exact rfl | exact we_rfl rfl | exact weL_cZ _ | exact we_int (nxt hlt (by omega)) | refine ⟨_,_,rfl,?_,?_⟩)) rfl rfl rfl (by repeat' (first | exact trivial | exact we_rfl rfl | exact weL_cZ _ | exact we_int (nxt hlt (by omega)) | refine ⟨⟨_,rfl,?_⟩,?_⟩))),names.length - (e + 1),by omega,e + 1,js,rfl,by omega,hj,fun b hb'=>?_,fun x y hx hy=>?_,rfl⟩
   ·rcases Nat.lt_succ_iff_lt_or_eq.1 hb' with h | rfl
    ·exact hno b h
    ·exact hb
   ·rcases Nat.lt_succ_iff_lt_or_eq.1 hx with hx | rfl
    ·rcases Nat.lt_succ_iff_lt_or_eq.1 hy with hy | rfl
     ·exact hjm x y hx hy
     ·exact (hje x (by omega)).1
    ·exact (hje y (by omega)).2
 ·have hge:e=names.length:=by have:=hL;simp [hN] at this;omega
  subst hge;refine ⟨.v (.int .i64 (-1)),[dLs names tc rows js],ax,(by repeat' (first | exact rfl | exact trivial | exact Or.inr (Or.inl ⟨_,rfl⟩) | exact Or.inr ⟨_,rfl⟩ | exact Or.inl ⟨rfl,rfl⟩ | exact Or.inl rfl | refine Or.inr ⟨_,_,rfl,Nat.zero_le _,rfl,?_⟩ | refine ⟨_,_,rfl,?_,?_⟩ | refine ⟨_,rfl,?_⟩ | exact ccL_cZ _ _ _ _ _ | refine Or.inr (Or.inr (Or.inr ⟨_,_,rfl,?_⟩)) | exact Or.inl rfl | refine Or.inr ?_)),js,rfl,hj,?_,fun _=>hjm⟩;rw [firstN_none hno];rfl
def atN (l:List Wd) (k:Nat):Int:=((l[k]?).getD (⟨emptyB,0⟩:Wd)).a
def latF (l:List Wd) (o:List (Wd × Wd)):Ft:=
 if (manyF l o).1≠0 then manyF l o
 else if (enumL l 0 l).1≠0 then enumL l 0 l
 else if (numF (nmTx l) o).1≠0 then numF (nmTx l) o
 else match firstN (loopP l.length (leqN l.length (numL (nmTx l) o))) l.length with
  | some a=>(11,atN l a)
  | none=>
   match firstN (bndP (leqN l.length (numL (nmTx l) o)) l.length) l.length with
   | some b=>(12,atN l b)
   | none=>(0,0)
def LatD (l:List Wd) (o:List (Wd × Wd)) (d:DV):Prop:=
 ∃ ord js,TblOK (nmTx l) ord/\ord.length<=l.length/\js.length=2048/\(∀ x y,x < l.length->y < l.length->JM (leqN l.length (numL (nmTx l) o)) l.length js x y) /\
  d = .pt (dLs (nmTx l) (dTbl (nmTx l) ord) (closeR (relN l.length (numL (nmTx l) o)) l.length) js) 0
def LatΦ (l:List Wd) (o:List (Wd × Wd)) (r:DV) (_:List (List DV)) (_:List TkE):Prop:=
 if (latF l o).1≠0 then r = .tup [.v (.pointer none),(latF l o).d] else ∃ d,LatD l o d/\r = .tup [d,(latF l o).d]
theorem numF_ok {L:List ByteArray}:∀ {o:List (Wd × Wd)},(numF L o).1=0->PrOK L.length (numL L o)
 | [],_=>by intro p hp;simp [numL] at hp
 | q :: r,h=>by
  rw [numF] at h;split at h
  ·cases h
  ·rename_i h1;split at h
   ·cases h
   ·rename_i h2;have ih:=numF_ok (o:=r) h;intro p hp;simp only [numL,List.map_cons,List.mem_cons] at hp;rcases hp with rfl | hp
    ·obtain ⟨a,ha⟩:=Option.ne_none_iff_exists'.1 h1;obtain ⟨b,hb⟩:=Option.ne_none_iff_exists'.1 h2;simp only [numP,ha,hb,Option.getD_some];exact ⟨(ixOf_some ha).1,(ixOf_some hb).1⟩
    ·exact ih p hp
theorem nmTx_len (l:List Wd):(nmTx l).length=l.length:=by simp [nmTx]
theorem enumL_zero {all:List Wd}:∀ {l:List Wd} {i:Nat},(enumL all i l).1=0->enumL all i l=(0,0)
 | [],_,_=>rfl
 | x :: r,i,h=>by
  rw [enumL] at h ⊢;split at h
  ·rename_i h1;exact (h1 h).elim
  ·rename_i h1;rw [if_neg h1];exact enumL_zero h
theorem numF_zero {L:List ByteArray}:∀ {o:List (Wd × Wd)},(numF L o).1=0->numF L o=(0,0)
 | [],_=>rfl
 | q :: r,h=>by
  rw [numF] at h ⊢;split at h
  ·cases h
  ·rename_i h1;split at h
   ·cases h
   ·rename_i h2;rw [if_neg h1,if_neg h2];exact numF_zero h
theorem atN_get {l:List Wd} {k:Nat} {w:Wd} (h:l[k]? = some w):atN l k=w.a:=by simp [atN,h]
theorem vL_rep (n:Nat):vL (List.replicate n (.int .i64 0))=cZ (List.replicate n 0):=by
 induction n with
 | zero=>rfl
 | succ n ih=>simp only [List.replicate_succ,vL,cZ,List.map_cons] at ih ⊢;rw [ih]
theorem latΦ_bad {l:List Wd} {o:List (Wd × Wd)} {f:Ft} {os:List (List DV)} {tk:List TkE} (h:latF l o=f) (hf:f.1≠0):LatΦ l o (.tup [.v (.pointer none),f.d]) os tk:=by
 unfold LatΦ;rw [h,if_pos hf]
theorem latΦ_ok {l:List Wd} {o:List (Wd × Wd)} {d:DV} {os:List (List DV)} {tk:List TkE} (h:latF l o=(0,0)) (hd:LatD l o d):LatΦ l o (.tup [d,Ft.d (0,0)]) os tk:=by
 unfold LatΦ;rw [h,if_neg (by simp)];exact ⟨d,hd,rfl⟩
theorem clL_dLs (n m:Nat) (names:List ByteArray) (tc:List DV) (rows:List Nat) (js:List Int):clB.clL n m (dLs names tc rows js)=true:=by
 have h:∀ l:List Int,clB.clL n m (cZ l)=true:=by
  intro l
  induction l with
  | nil=>rfl
  | cons z r ih=>simp only [cZ,List.map_cons,clB.clL,clB,Bool.true_and] at ih ⊢;exact ih
 simp only [dLt,clB.clL,clB,h,dRel,Bool.and_self]
theorem lbuild_spec (l:List Wd) (o:List (Wd × Wd)) (hs:wdsWt l<=1099511627776) (hs2:prsWt o<=1099511627776) :
  Ev Tryz.prog 36 [.sl 2 (dWds l) none,.sl 4 (dPrs o) none] [] [] (LatΦ l o):=by
 have hsl:=wdsWt_len l;have hso:=prsWt_len o;have hnl:=nmTx_len l;have hF:=latF.eq_1 l o;refine ev_go (P:=Tryz.prog) tt tt_ok 5000 86 [.tmp 4,.cell 5 45] Tryz.func36 rfl Tryz.ntmps36 rfl (nL rfl) (fun E9 w9 hn9 hm9=>?_);refine call_p en86 (many_spec l o) ax rfl ?_;by_cases hm:(manyF l o).1≠0
 ·rw [if_pos hm] at hF;refine br (fun h=>?_) (fun h=>?_)
  ·refine drawG_s mo (by decide +kernel) ?_;exact ⟨_,ax,latΦ_bad (os:=[]) (tk:=[]) hF hm⟩
  ·exfalso;simp at h;exact hm h
 rw [if_neg hm] at hF;refine br (fun h=>?_) (fun _=>?_)
 ·exfalso;simp at h;exact hm h
 have hl0:l ≠ []:=by
  rintro rfl;simp [manyF] at hm
 have hl32:l.length<=32:=by
  rcases Nat.lt_or_ge 32 l.length with h | h
  ·simp [manyF,hl0,h] at hm
  ·exact h
 have hcal:=called_spec l hs;unfold calD at hcal;by_cases hE:(enumL l 0 l).1≠0
 ·rw [if_neg hE] at hcal;rw [if_pos hE] at hF;refine call_p en87 (hcal) ax rfl ?_;refine br (fun h=>?_) (fun h=>?_)
  ·refine drawG_s mo (by decide +kernel) ?_;exact ⟨_,ax,latΦ_bad (os:=[]) (tk:=[]) hF hE⟩
  ·exfalso;simp at h;exact hE h
 rw [if_neg hE] at hF;have hE:(enumL l 0 l).1=0:=by simpa using hE
 rw [if_pos hE] at hcal;rw [enumL_zero hE] at hcal;refine call_p en87 (hcal) ax rfl ?_;refine call_e en88 rfl (new_spec (nmTx l) (by omega)) ax (fun r hr=>?_);obtain ⟨ord,hT,hol,rfl⟩:=hr;have hnum:=numbered_spec (nmTx l) ord hT (by omega) o hs2;unfold numD at hnum;by_cases hN:(numF (nmTx l) o).1≠0
 ·rw [if_neg hN] at hnum;rw [if_pos hN] at hF;refine call_p en89 (hnum) ax rfl ?_;refine br (fun h=>?_) (fun h=>?_)
  ·refine drawG_s mo (by decide +kernel) ?_;exact ⟨_,ax,latΦ_bad (os:=[]) (tk:=[]) hF hN⟩
  ·exfalso;simp at h;exact hN h
 rw [if_neg hN] at hF;have hN:(numF (nmTx l) o).1=0:=by simpa using hN
 rw [if_pos hN] at hnum;rw [numF_zero hN] at hnum;have hP:=numF_ok hN;rw [hnl] at hP;have hPl:(numL (nmTx l) o).length=o.length:=by simp [numL]
 generalize hPP:numL (nmTx l) o=P at hnum hF hP hPl;refine call_p en89 (hnum) ax rfl ?_;have hLn:(dBs (nmTx l)).length=l.length:=by rw [dBs_len,hnl]
 have hPb:P.length<=1099511627776:=by omega
 have hro:=relN_ok (n:=l.length) (by omega) P hP;have hrl:=relN_len l.length P;have hr0:relN l.length P ≠ []:=fun h=>hl0 (List.eq_nil_of_length_eq_zero (by rw [<- hrl,h];rfl));refine call_p en90 (rnew_spec l.length (by omega) P hP hPb) (by repeat' (first | exact rfl | exact trivial | exact Or.inr (Or.inl ⟨_,rfl⟩) | exact Or.inr ⟨_,rfl⟩ | exact Or.inl ⟨rfl,rfl⟩ | exact Or.inl rfl | refine Or.inr ⟨_,_,rfl,Nat.zero_le _,rfl,?_⟩ | refine ⟨_,_,rfl,?_,?_⟩ | refine ⟨_,rfl,?_⟩ | exact congrArg (fun z=>DV.v (.int .i64 z)) (congrArg Nat.cast hLn)| refine Or.inr (Or.inr (Or.inr ⟨_,_,rfl,?_⟩)) | exact Or.inl rfl | refine Or.inr ?_)) rfl ?_;have hlo:=rloop_spec _ hro hr0;rw [hrl,loop_eq (by omega) hP] at hlo
 cases hA:firstN (loopP l.length (leqN l.length P)) l.length with
 | some a=>
  rw [hA] at hlo hF;simp only at hF;have hal:=(firstN_spec hA).1;obtain ⟨w,hw⟩:∃ w,l[a]? = some w:=⟨_,gE hal⟩;rw [atN_get hw] at hF;refine call_p en91 (hlo) ax rfl ?_;refine drawG_s mo (by decide +kernel) ?_;refine ⟨dWd w,⟨by omega,dWds_get hw⟩,?_⟩;exact ⟨_,ax,latΦ_bad (os:=[]) (tk:=[]) hF (by simp)⟩
 | none=>
 rw [hA] at hlo hF;simp only at hF;refine call_p en91 (hlo) ax rfl ?_;have hcl:=rclose_spec _ hro hr0;rw [hrl] at hcl;have hcok:=closeR_ok hro l.length (by omega);have hclen:=closeR_len (relN l.length P) l.length;rw [hrl] at hclen;refine call_p en92 (hcl) ax rfl ?_;have hrep:(List.replicate 2048 (0:Int)).length=2048:=List.length_replicate
 have hcs:CcL [] 0 0 0 (dLs (nmTx l) (dTbl (nmTx l) ord) (closeR (relN l.length P) l.length) (List.replicate 2048 0)) (.sl 1 (dBs (nmTx l)) none :: .pt (dTbl (nmTx l) ord) 0 :: dRel (closeR (relN l.length P) l.length) :: vL (List.replicate 2048 (.int .i64 0))):=by
  refine ⟨_,_,rfl,Or.inr (Or.inl ⟨_,rfl⟩),_,_,rfl,Or.inl rfl,_,_,rfl,Or.inl rfl,?_⟩;rw [vL_rep];exact ccL_cZ _ _ _ _ _
 have hbn:=bounds_spec (nmTx l) (dTbl (nmTx l) ord) _ (List.replicate 2048 0) hcok (by omega) (by omega) hrep;refine call_o en93 rfl rfl hcs ax hbn (fun r os tk h=>?_) (fun r cs2 h=>?_)
 ·obtain ⟨js',rfl,_,rfl,_⟩:=h;refine ⟨rfl,fun cs2 h=>?_⟩;rw [List.mem_singleton.1 h];exact clL_dLs _ _ _ _ _ _
 obtain ⟨js',h1,hj2,hr,hjm⟩:=h;simp only [List.cons.injEq,and_true] at h1;subst h1
 have hB:firstN (bndP (bitB (closeR (relN l.length P) l.length)) (nmTx l).length) (nmTx l).length=firstN (bndP (leqN l.length P) l.length) l.length:=by
  rw [hnl];rfl
 rw [hB] at hr hjm
 cases hb:firstN (bndP (leqN l.length P) l.length) l.length with
 | some b=>
  rw [hb] at hr hF;subst hr;simp only at hF;have hbl:=(firstN_spec hb).1;obtain ⟨w,hw⟩:∃ w,l[b]? = some w:=⟨_,gE hbl⟩;rw [atN_get hw] at hF;refine drawG_s mo (by decide +kernel) ?_;refine ⟨dWd w,⟨by simp only [oz];omega,dWds_get hw⟩,?_⟩;exact ⟨_,ax,latΦ_bad (os:=[]) (tk:=[]) hF (by simp)⟩
 | none=>
  rw [hb] at hr hF;subst hr;simp only at hF;refine ⟨.tup [.pt (dLs (nmTx l) (dTbl (nmTx l) ord) (closeR (relN l.length P) l.length) js') 0,Ft.d (0,0)],(by repeat' (first | exact rfl | exact trivial | exact Or.inr (Or.inl ⟨_,rfl⟩) | exact Or.inr ⟨_,rfl⟩ | exact Or.inl ⟨rfl,rfl⟩ | exact Or.inl rfl | refine Or.inr ⟨_,_,rfl,Nat.zero_le _,rfl,?_⟩ | refine ⟨_,_,rfl,?_,?_⟩ | refine ⟨_,rfl,?_⟩ | exact ccL_cZ _ _ _ _ _ | refine Or.inr (Or.inr (Or.inr ⟨_,_,rfl,?_⟩)) | exact Or.inl rfl | refine Or.inr ?_)),latΦ_ok (os:=[]) (tk:=[]) hF ⟨ord,js',hT,by omega,hj2,?_,by rw [hPP]⟩⟩;rw [hPP];rw [hnl] at hjm;exact hjm hb
section
variable (names:List ByteArray) (tc:List DV) (rows:List Nat) (js:List Int)
theorem llen_spec:EvP Tryz.prog 187 [.pt (dLs names tc rows js) 0] (.v (.int .i64 names.length)):=by
 refine ev_go (P:=Tryz.prog) tt tt_ok 5000 10 [.tmp 2] Tryz.func187 rfl Tryz.ntmps187 rfl (nL rfl) (fun E9 w9 hn9 hm9=>?_);refine (congrArg (fun z=>DV.v (.int .i64 z)) ?_:_=_);rw [dBs_len]
theorem lhas_spec (i:Int):EvP Tryz.prog 203 [.pt (dLs names tc rows js) 0,.v (.int .i64 i)] (.v (.bool (decide (0<=i) && decide (i < names.length)))):=by
 refine ev_go (P:=Tryz.prog) tt tt_ok 5000 13 [.tmp 4] Tryz.func203 rfl Tryz.ntmps203 rfl (nL rfl) (fun E9 w9 hn9 hm9=>?_);refine br (fun g=>?_) (fun g=>?_)
 ·have g:decide (0<=i)=true:=by simpa using g
  refine call_p en187 (llen_spec names tc rows js) ax rfl ?_;refine (congrArg (fun b=>DV.v (.bool b)) ?_:_=_);simp [g,pickB]
 ·have g:decide (0<=i)=false:=by simpa using g
  refine (congrArg (fun b=>DV.v (.bool b)) ?_:_=_);simp [g,pickB]
theorem lhas_nat {a:Nat} (h:a < names.length):EvP Tryz.prog 203 [.pt (dLs names tc rows js) 0,.v (.int .i64 a)] (.v (.bool true)):=by
 have:=lhas_spec names tc rows js a;have e:(decide (0<=(a:Int)) && decide ((a:Int) < names.length))=true:=by simp [h]
 rw [e] at this;exact this
end
theorem lfind_spec (names:List ByteArray) (ord rows:List Nat) (js:List Int) (s:ByteArray) (hT:TblOK names ord) (hl:ord.length<=1099511627776) :
  EvP Tryz.prog 163 [.pt (dLs names (dTbl names ord) rows js) 0,.v (.string s)] (optD2 (ixOf names s)):=by
 have h:=tfind_spec names ord s hT hl;refine ev_go (P:=Tryz.prog) tt tt_ok 5000 16 [.tmp 4,.tmp 5] Tryz.func163 rfl Tryz.ntmps163 rfl (nL rfl) (fun E9 w9 hn9 hm9=>?_)
 cases hx:ixOf names s with
 | none=>
  rw [hx] at h;refine call_p en98 (h) ax rfl ?_;exact ⟨_,ax,rfl⟩
 | some k=>
  rw [hx] at h;refine call_p en98 (h) ax rfl ?_;exact ⟨_,ax,rfl⟩
theorem row_cell {l:List DV} {k b:Nat} {x:DV} (hb:b < 32) (h:l[k + b]? = some x):(((l.drop k).take 32).drop b).take 1=[x]:=by
 have h1:((l.drop k).take 32)[b]? = some x:=by
  rw [List.getElem?_take,if_pos hb,List.getElem?_drop];exact h
 rw [List.drop_eq_getElem_cons (gS h1).1];rw [gE (gS h1).1] at h1;simp only [oI] at h1;rw [h1];rfl
section
variable (names:List ByteArray) (tc:List DV) (rows:List Nat) (js:List Int)
theorem ljoin_spec (a b:Nat) (z:Int) (ha:a < names.length) (hb:b < names.length) (hn:names.length<=32) (hz:js[a * 32 + b]? = some z) :
  EvP Tryz.prog 164 [.pt (dLs names tc rows js) 0,.v (.int .i64 a),.v (.int .i64 b)] (.v (.int .i64 z)):=by
 refine ev_go (P:=Tryz.prog) tt tt_ok 5000 25 [.tmp 6] Tryz.func164 rfl Tryz.ntmps164 rfl (nL rfl) (fun E9 w9 hn9 hm9=>?_);refine call_p en203 (lhas_nat names tc rows js ha) ax rfl ?_;refine call_p en203 (lhas_nat names tc rows js hb) ax rfl ?_;refine ⟨_,⟨⟨by omega,by omega⟩,rfl⟩,?_⟩;refine ⟨_,⟨⟨by omega,by omega⟩,row_cell (x:=.v (.int .i64 z)) (by omega) ?_⟩,?_⟩
 ·rw [show 0 + 3 + (a:Int).toNat * 32 + (0 + (b:Int).toNat * 1)=(a * 32 + b) + 3 by omega];simp only [dLt,List.getElem?_cons_succ,cZ,List.getElem?_map,hz,Option.map_some]
 exact (rfl:_=_)
theorem lmeet_spec (a b:Nat) (z:Int) (ha:a < names.length) (hb:b < names.length) (hn:names.length<=32) (hz:js[1024 + (a * 32 + b)]? = some z) :
  EvP Tryz.prog 188 [.pt (dLs names tc rows js) 0,.v (.int .i64 a),.v (.int .i64 b)] (.v (.int .i64 z)):=by
 refine ev_go (P:=Tryz.prog) tt tt_ok 5000 25 [.tmp 6] Tryz.func188 rfl Tryz.ntmps188 rfl (nL rfl) (fun E9 w9 hn9 hm9=>?_);refine call_p en203 (lhas_nat names tc rows js ha) ax rfl ?_;refine call_p en203 (lhas_nat names tc rows js hb) ax rfl ?_;refine ⟨_,⟨⟨by omega,by omega⟩,rfl⟩,?_⟩;refine ⟨_,⟨⟨by omega,by omega⟩,row_cell (x:=.v (.int .i64 z)) (by omega) ?_⟩,?_⟩
 ·rw [show 0 + 1027 + (a:Int).toNat * 32 + (0 + (b:Int).toNat * 1)=(1024 + (a * 32 + b)) + 3 by omega];simp only [dLt,List.getElem?_cons_succ,cZ,List.getElem?_map,hz,Option.map_some]
 exact (rfl:_=_)
end
theorem bestA_pin {pin:Nat->Bool} {pb:Nat->Nat->Bool}:∀ {e k:Nat},bestA pin pb e=some k->pin k=true
 | 0,k,h=>by cases h
 | e + 1,k,h=>by
  rw [bestA] at h;split at h
  ·rename_i h1;simp only [oI] at h;subst h;simp only [Bool.and_eq_true] at h1;exact h1.1
  ·exact bestA_pin h
theorem bestN_some {pin:Nat->Bool} {pb:Nat->Nat->Bool} {n k:Nat} (h:bestN pin pb n=some k):k < n/\pin k=true/\∀ c,c < n->pin c=true->pb k c=true:=by
 unfold bestN at h;split at h
 ·cases h
 ·rename_i o ho;split at h
  ·cases h
  ·rename_i h1;simp only [oI] at h;subst h;refine ⟨bestA_lt ho,bestA_pin ho,fun c hc hp=>?_⟩;simp only [List.any_eq_true,List.mem_range,Bool.and_eq_true,Bool.not_eq_true',not_exists,not_and] at h1;have:=h1 c hc hp;simpa using this
structure LatOK (f:Nat->Nat->Bool) (n:Nat):Prop where
 pos:0 < n
 rfl':∀ a,a < n->f a a=true
 tr:∀ a b c,a < n->b < n->c < n->f a b=true->f b c=true->f a c=true
 anti:∀ a b,a < n->b < n->f a b=true->f b a=true->a=b
 jn:∀ a b,a < n->b < n->∃ k,joinN f n a b=some k
 mt:∀ a b,a < n->b < n->∃ k,meetN f n a b=some k
theorem joinN_spec {f:Nat->Nat->Bool} {n a b k:Nat} (h:joinN f n a b=some k):k < n/\f a k=true/\f b k=true/\∀ c,c < n->f a c=true->f b c=true->f k c=true:=by
 obtain ⟨h1,h2,h3⟩:=bestN_some h;simp only [Bool.and_eq_true] at h2;exact ⟨h1,h2.1,h2.2,fun c hc ha hb=>h3 c hc (by simp [ha,hb])⟩
theorem meetN_spec {f:Nat->Nat->Bool} {n a b k:Nat} (h:meetN f n a b=some k):k < n/\f k a=true/\f k b=true/\∀ c,c < n->f c a=true->f c b=true->f c k=true:=by
 obtain ⟨h1,h2,h3⟩:=bestN_some h;simp only [Bool.and_eq_true] at h2;exact ⟨h1,h2.1,h2.2,fun c hc ha hb=>h3 c hc (by simp [ha,hb])⟩
def overB (f:Nat->Nat->Bool) (l:List Nat) (c:Nat):Bool:=l.all fun i=>f i c
def lstB (f:Nat->Nat->Bool) (n:Nat) (l:List Nat) (c:Nat):Bool:=overB f l c && (List.range n).all fun d=>!overB f l d || f c d
def leastN (f:Nat->Nat->Bool) (n:Nat) (l:List Nat):Option Nat:=firstN (lstB f n l) n
theorem lstB_iff {f:Nat->Nat->Bool} {n:Nat} {l:List Nat} {c:Nat}:lstB f n l c=true↔overB f l c=true/\∀ d,d < n->overB f l d=true->f c d=true:=by
 unfold lstB;simp only [Bool.and_eq_true,List.all_eq_true,List.mem_range,Bool.or_eq_true,Bool.not_eq_true'];constructor
 ·rintro ⟨h1,h2⟩;refine ⟨h1,fun d hd ho=>?_⟩;rcases h2 d hd with h | h
  ·rw [ho] at h;cases h
  ·exact h
 ·rintro ⟨h1,h2⟩;refine ⟨h1,fun d hd=>?_⟩;cases ho:overB f l d
  ·exact .inl rfl
  ·exact .inr (h2 d hd ho)
theorem leastN_eq {f:Nat->Nat->Bool} {n:Nat} (hL:LatOK f n) {l:List Nat} {c:Nat} (hc:c < n) (h:lstB f n l c=true):leastN f n l=some c:=by
 refine firstN_some hc h fun a ha=>?_;cases h2:lstB f n l a
 ·rfl
 ·obtain ⟨h3,h4⟩:=lstB_iff.1 h;obtain ⟨h5,h6⟩:=lstB_iff.1 h2;have:=hL.anti a c (by omega) hc (h6 c hc h3) (h4 a (by omega) h5);omega
theorem leastN_nil {f:Nat->Nat->Bool} {n c:Nat} (hL:LatOK f n) (hc:c < n) (h:∀ d,d < n->f c d=true):leastN f n []=some c:=
 leastN_eq hL hc (lstB_iff.2 ⟨rfl,fun d hd _=>h d hd⟩)
theorem leastN_snoc {f:Nat->Nat->Bool} {n c k i:Nat} {l:List Nat} (hL:LatOK f n) (hl:∀ x∈l,x < n) (hi:i < n) (h:leastN f n l=some c) (hk:joinN f n c i=some k):leastN f n (l ++ [i])=some k:=by
 obtain ⟨h1,h2,_⟩:=firstN_spec h;obtain ⟨h3,h4⟩:=lstB_iff.1 h2;obtain ⟨g1,g2,g3,g4⟩:=joinN_spec hk;simp only [overB,List.all_eq_true] at h3;refine leastN_eq hL g1 (lstB_iff.2 ⟨?_,fun d hd ho=>?_⟩)
 ·simp only [overB,List.all_eq_true,List.mem_append,List.mem_singleton];rintro x (hx | rfl)
  ·exact hL.tr x c k (hl x hx) h1 g1 (h3 x hx) g2
  ·exact g3
 ·simp only [overB,List.all_eq_true,List.mem_append,List.mem_singleton] at ho;refine g4 d hd (h4 d hd ?_) (ho i (.inr rfl));simp only [overB,List.all_eq_true];exact fun x hx=>ho x (.inl hx)
theorem leastN_lt {f:Nat->Nat->Bool} {n c:Nat} {l:List Nat} (h:leastN f n l=some c):c < n:=(firstN_spec h).1
abbrev botSt (L:List DV) (n b e:Nat):St:=
 ⟨[(0,⟨[],.pt L 0⟩),(3,⟨[],.v (.int .i64 b)⟩),(9,⟨[],.v (.int .i64 n)⟩),(10,⟨[],.v (.int .i64 e)⟩)],[],[]⟩
theorem lbottom_spec (names:List ByteArray) (tc:List DV) (rows:List Nat) (js:List Int) {f:Nat->Nat->Bool} (hL:LatOK f names.length) (hn:names.length<=32) (hj:∀ x y,x < names.length->y < names.length->JM f names.length js x y) :
  EvP Tryz.prog 140 [.pt (dLs names tc rows js) 0] (.v (.int .i64 (oz (leastN f names.length [])))):=by
 have hlen:=llen_spec names tc rows js;have hpos:=hL.pos;refine ev_go (P:=Tryz.prog) tt tt_ok 5000 19 [.tmp 2] Tryz.func140 rfl Tryz.ntmps140 rfl (nL rfl) (fun E9 w9 hn9 hm9=>?_);refine call_p en187 (hlen) ax rfl ?_;refine br (fun g=>?_) (fun g=>?_)
 ·exfalso;simp at g;simp [g] at hpos
 refine call_p en187 (hlen) ax rfl ?_;refine loop_i (fun j st=>∃ e b:Nat,st=botSt (dLs names tc rows js) names.length b e/\e<=names.length/\b < names.length/\(∀ x,x < e->f b x=true)/\j=names.length - e) names.length (botSt (dLs names tc rows js) names.length 0 0) (weak_mk ⟨_,rfl⟩ wA rfl rfl rfl wB) ⟨0,0,rfl,by omega,by omega,fun _ h=>by omega,by omega⟩ ?_;rintro j st ⟨e,b,rfl,he,hb,hle,rfl⟩;refine br (fun hL'=>?_) (fun hL'=>?_)
 ·have hlt:e < names.length:=by have:=hL';simp at this;exact this
  obtain ⟨k,hk⟩:=hL.mt b e hb hlt;obtain ⟨g1,g2,g3,g4⟩:=meetN_spec hk;have hz:=(hj b e hb hlt).2;rw [hk] at hz;refine call_p en188 (lmeet_spec names tc rows js b e k hb hlt hn hz) ax rfl ?_;refine ⟨botSt (dLs names tc rows js) names.length k (e + 1),(weak_mk ⟨_,rfl⟩ wA rfl rfl rfl (wNB hlt)),names.length - (e + 1),by omega,e + 1,k,rfl,by omega,g1,fun x hx=>?_,rfl⟩;rcases Nat.lt_succ_iff_lt_or_eq.1 hx with hx | rfl
  ·exact hL.tr k b x g1 hb (by omega) g2 (hle x hx)
  ·exact g3
 ·have hge:e=names.length:=by have:=hL';simp at this;omega
  subst hge;rw [leastN_nil hL hb hle];exact (rfl:_=_)
def labW (L:List ByteArray):List Wd->Ft
 | []=>(0,0)
 | w :: r=>if ixOf L w.s=none then (17,w.a) else labW L r
def labI (L:List ByteArray) (l:List Wd):List Nat:=l.map fun w=>(ixOf L w.s).getD 0
def labN (f:Nat->Nat->Bool) (L:List ByteArray) (l:List Wd):Int:=if (labW L l).1=0 then oz (leastN f L.length (labI L l)) else 0
def labD (f:Nat->Nat->Bool) (L:List ByteArray) (l:List Wd):DV:=.tup [.v (.int .i64 (labN f L l)),(labW L l).d]
theorem labW_drop {L:List ByteArray} {l:List Wd} {e:Nat} {w:Wd} (h:l[e]? = some w):labW L (l.drop e)=if ixOf L w.s=none then (17,w.a) else labW L (l.drop (e + 1)):=by
 rw [drop_cons h,labW]
theorem labI_snoc {L:List ByteArray} {l:List Wd} {e i:Nat} {w:Wd} (h:l[e]? = some w) (hi:ixOf L w.s=some i):labI L (l.take (e + 1))=labI L (l.take e) ++ [i]:=by
 rw [List.take_add_one,h];simp [labI,hi]
abbrev lofSt (L:List DV) (l:List Wd) (b e:Nat):St:=
 ⟨[(0,⟨[],.pt L 0⟩),(5,⟨[],.loc 0 0⟩),(6,⟨[],.v (.int .i64 b)⟩),(16,⟨[],.sl 2 (dWds l) none⟩),(17,⟨[],.v (.int .i64 (dWds l).length)⟩),(18,⟨[],.v (.int .i64 e)⟩)],[[.v (.int .i64 0),.v (.int .i64 0)]],[]⟩
theorem lof_spec (names:List ByteArray) (ord rows:List Nat) (js:List Int) (hT:TblOK names ord) (hol:ord.length<=1099511627776) {f:Nat->Nat->Bool} (hL:LatOK f names.length) (hn:names.length<=32) (hj:∀ x y,x < names.length->y < names.length->JM f names.length js x y)
  (l:List Wd) (hs:wdsWt l<=1099511627776) :
  EvP Tryz.prog 99 [.pt (dLs names (dTbl names ord) rows js) 0,.sl 2 (dWds l) none] (labD f names l):=by
 have hsl:=wdsWt_len l;have hbot:=lbottom_spec names (dTbl names ord) rows js hL hn hj
 have hbx:∃ b,leastN f names.length []=some b:=by
  have:∀ e,e<=names.length->∃ b,b < names.length/\∀ x,x < e->f b x=true:=by
   intro e
   induction e with
   | zero=>intro _;exact ⟨0,hL.pos,fun _ h=>by omega⟩
   | succ e ih=>
    intro he;obtain ⟨b,hb,hle⟩:=ih (by omega);obtain ⟨k,hk⟩:=hL.mt b e hb (by omega);obtain ⟨g1,g2,g3,_⟩:=meetN_spec hk;refine ⟨k,g1,fun x hx=>?_⟩;rcases Nat.lt_succ_iff_lt_or_eq.1 hx with hx | rfl
    ·exact hL.tr k b x g1 hb (by omega) g2 (hle x hx)
    ·exact g3
  obtain ⟨b,hb,hle⟩:=this names.length (Nat.le_refl _);exact ⟨b,leastN_nil hL hb hle⟩
 obtain ⟨b0,hb0⟩:=hbx;rw [hb0] at hbot;refine ev_go (P:=Tryz.prog) tt tt_ok 5000 41 [.tmp 4,.cell 5 45] Tryz.func99 rfl Tryz.ntmps99 rfl (nL rfl) (fun E9 w9 hn9 hm9=>?_);refine call_p en140 (hbot) ax rfl ?_;refine loop_i (fun j st=>∃ e b:Nat,st=lofSt (dLs names (dTbl names ord) rows js) l b e/\e<=l.length/\labW names l=labW names (l.drop e)/\leastN f names.length (labI names (l.take e))=some b/\(∀ x∈labI names (l.take e),x < names.length)/\j=l.length - e) l.length (lofSt (dLs names (dTbl names ord) rows js) l b0 0) (weak_mk ⟨_,rfl⟩ wA rfl rfl rfl wB) ⟨0,b0,rfl,by omega,rfl,hb0,by simp [labI],by omega⟩ ?_;rintro j st ⟨e,b,rfl,he,heq,hlb,hix,rfl⟩;have hb:=leastN_lt hlb;refine br (fun hLt=>?_) (fun hLt=>?_)
 ·have hlt:e < l.length:=by simpa [dWds_len] using hLt
  obtain ⟨w,hw⟩:∃ w,l[e]? = some w:=⟨_,gE hlt⟩;have hst:=labW_drop (L:=names) hw;have hfi:=lfind_spec names ord rows js w.s hT hol;refine ⟨dWd w,⟨by omega,dWds_get hw⟩,?_⟩
  cases hx:ixOf names w.s with
  | none=>
   rw [hx] at hfi;refine call_p en163 (hfi) ax rfl ?_;rw [if_pos hx] at hst;have h1:labW names l=(17,w.a):=heq.trans hst;refine drawG_s mo (by decide +kernel) ?_;refine ⟨_,?_,rfl⟩;rw [labD,labN,h1,if_neg (by simp)];exact ax
  | some i=>
   rw [hx] at hfi;refine call_p en163 (hfi) ax rfl ?_;rw [if_neg (by rw [hx];simp)] at hst;have hi:=(ixOf_some hx).1;obtain ⟨k,hk⟩:=hL.jn b i hb hi;have hz:=(hj b i hb hi).1;rw [hk] at hz;refine call_p en164 (ljoin_spec names (dTbl names ord) rows js b i k hb hi hn hz) ax rfl ?_;refine ⟨lofSt (dLs names (dTbl names ord) rows js) l k (e + 1),(weak_mk ⟨_,rfl⟩ wA rfl rfl rfl (wNB hlt)),l.length - (e + 1),by omega,e + 1,k,rfl,by omega,heq.trans hst,?_,?_,rfl⟩
   ·rw [labI_snoc hw hx];exact leastN_snoc hL hix hi hlb hk
   ·rw [labI_snoc hw hx];intro x hm;rcases List.mem_append.1 hm with hm | hm
    ·exact hix x hm
    ·rw [List.mem_singleton.1 hm];exact hi
 ·have hge:e=l.length:=by
   have:=hLt;simp [dWds_len] at this;omega
  subst hge;rw [List.drop_length] at heq;rw [List.take_length] at hlb;have h1:labW names l=(0,0):=heq;refine ⟨_,?_,rfl⟩;rw [labD,labN,h1,if_pos rfl,hlb];exact ax
def ChkR (x:Ft × Int) (r:DV) (os:List (List DV)) (_:List TkE):Prop:=
 r=x.1.d/\∃ z:Int,os=[[.v (.int .i64 z)]]/\(x.1.1=0->z=x.2)
theorem chkR_cl {x:Ft × Int}:∀ r os tk,ChkR x r os tk->clB 0 0 r=true/\∀ cs2∈os,clB.clL 0 0 cs2=true:=by
 rintro r os tk ⟨rfl,z,rfl,_⟩;refine ⟨rfl,fun cs2 h=>?_⟩;simp only [List.mem_singleton] at h;subst h;rfl
def KChk (k:Nat):Prop:=∀ (t:Ty) (depth m:Int),t.wt<=k->t.wt<=1099511627776->0<=depth->depth<=25->0<=m->m<=512 ->
 Ev Tryz.prog 160 [.loc 0 0,.agg (dTy t),.v (.int .i64 depth)] [[.v (.int .i64 m)]] [] (ChkR (wrong t depth m))
def partF (p:Ph) (t:Ty) (un:Bool) (depth m:Int):Ft × Int:=
 if p.bare=true then (if un=false∨samePartB p t (bareOf p) zeroTy=false then ((19,p.name.a),m) else ((0,0),m))
 else if (partWd p).1≠0 then (partWd p,m)
 else wrong t (depth + 1) m
theorem chkR_mk {x:Ft × Int} {f:Ft} {m z:Int} (h:x=(f,m)) (hz:f.1=0->z=m) {tk:List TkE}:ChkR x f.d [[.v (.int .i64 z)]] tk:=by
 subst h;exact ⟨rfl,z,rfl,hz⟩
theorem kpart_spec (k:Nat) (ih:KChk k) (p:Ph) (t:Ty) (un:Bool) (depth m:Int) (hk:t.wt<=k) (hp:p.wt<=1099511627776) (hbig:t.wt<=1099511627776) (hd0:0<=depth) (hd1:depth<=24) (hm0:0<=m) (hm1:m<=512) :
  Ev Tryz.prog 233 [.loc 0 0,.agg (dPh p (dTy t)),.v (.bool un),.v (.int .i64 depth)] [[.v (.int .i64 m)]] [] (ChkR (partF p t un depth m)):=by
 have hp':=hp;simp only [Ph.wt] at hp';have hsame:=samePart_of p (bareOf p) t zeroTy hp (by simp only [Ph.wt,bareOf,wdsWt];omega) (ksame_spec t zeroTy hbig (by decide));have hih:=ih t (depth + 1) m hk hbig (by omega) (by omega) hm0 hm1;obtain ⟨u,us⟩:=t;have hcoa:=kcoarse_spec p (dTy (.mk u us)) (.mk u us) rfl hp;have hS:=partF.eq_def p (.mk u us) un depth m;generalize partF p (.mk u us) un depth m=F at hS ⊢;obtain ⟨nm,bare,lab,wide,ck,cn,ca,cl⟩:=p;simp only at hS hp' hsame
 cases bare with
 | true=>
  rw [if_pos rfl] at hS
  cases un with
  | true=>
   refine ev_go (P:=Tryz.prog) tt tt_ok 5000 68 [.cell 8 45] Tryz.func233 rfl Tryz.ntmps233 rfl (nL rfl) (fun E9 w9 hn9 hm9=>?_);refine call_p en239 (hsame) ax rfl ?_;refine br (fun q=>?_) (fun q=>?_)
   ·have q:samePartB ⟨nm,true,lab,wide,ck,cn,ca,cl⟩ (.mk u us) (bareOf ⟨nm,true,lab,wide,ck,cn,ca,cl⟩) zeroTy=false:=by simpa [show (lastG (21,false) [(18,true)]).snd=true from rfl,pickB] using q
    rw [if_pos (.inr q)] at hS;refine call_p en198 (bad_spec 19 nm.a) ax rfl ?_;exact ⟨_,_,ax,ax,chkR_mk (tk:=[]) (f:=(19,nm.a)) hS (fun _=>rfl)⟩
   ·have q:samePartB ⟨nm,true,lab,wide,ck,cn,ca,cl⟩ (.mk u us) (bareOf ⟨nm,true,lab,wide,ck,cn,ca,cl⟩) zeroTy=true:=by simpa [show (lastG (21,false) [(18,true)]).snd=true from rfl,pickB] using q
    rw [if_neg (by simp [q])] at hS;exact ⟨_,_,ax,ax,chkR_mk (tk:=[]) (f:=(0,0)) hS (fun _=>rfl)⟩
  | false=>
   refine ev_go (P:=Tryz.prog) tt tt_ok 5000 68 [.cell 8 45] Tryz.func233 rfl Tryz.ntmps233 rfl (nL rfl) (fun E9 w9 hn9 hm9=>?_);rw [if_pos (.inl rfl)] at hS;refine call_p en198 (bad_spec 19 nm.a) ax rfl ?_;exact ⟨_,_,ax,ax,chkR_mk (tk:=[]) (f:=(19,nm.a)) hS (fun _=>rfl)⟩
 | false=>
  rw [if_neg (by simp)] at hS;refine ev_go (P:=Tryz.prog) tt tt_ok 5000 68 [.cell 8 45] Tryz.func233 rfl Tryz.ntmps233 rfl (nL rfl) (fun E9 w9 hn9 hm9=>?_);refine br (fun hw=>?_) (fun hw=>?_)
  ·have hw:wide < 0∨64 < wide:=by simpa [pickB_or] using hw
   have hP:partWd ⟨nm,false,lab,wide,ck,cn,ca,cl⟩=(20,nm.a):=by simp only [partWd,if_pos hw]
   rw [hP,if_pos (by simp)] at hS;refine call_p en198 (bad_spec 20 nm.a) ax rfl ?_;exact ⟨_,_,ax,ax,chkR_mk (tk:=[]) (f:=(20,nm.a)) hS (fun _=>rfl)⟩
  have hw:¬ (wide < 0∨64 < wide):=by simp [pickB_or] at hw;omega
  refine call_p en240 (klabel_spec lab (by omega)) ax rfl ?_;refine br (fun hb=>?_) (fun hb=>?_)
  ·have hb:(labelF lab).1≠0:=by simpa using hb
   have hP:partWd ⟨nm,false,lab,wide,ck,cn,ca,cl⟩=labelF lab:=by simp only [partWd,if_neg hw,if_pos hb]
   rw [hP,if_pos hb] at hS;exact ⟨_,_,ax,ax,chkR_mk (tk:=[]) (f:=labelF lab) hS (fun _=>rfl)⟩
  have hb:(labelF lab).1=0:=by simpa using hb
  have hP:partWd ⟨nm,false,lab,wide,ck,cn,ca,cl⟩=coarseF ⟨nm,false,lab,wide,ck,cn,ca,cl⟩:=by simp only [partWd,if_neg hw];rw [if_neg (by simp [hb])]
  rw [hP] at hS;refine call_p en241 (hcoa) ax rfl ?_;refine br (fun hc=>?_) (fun hc=>?_)
  ·have hc:(coarseF ⟨nm,false,lab,wide,ck,cn,ca,cl⟩).1≠0:=by simpa using hc
   rw [if_pos hc] at hS;exact ⟨_,_,ax,ax,chkR_mk (tk:=[]) (f:=coarseF ⟨nm,false,lab,wide,ck,cn,ca,cl⟩) hS (fun _=>rfl)⟩
  have hc:(coarseF ⟨nm,false,lab,wide,ck,cn,ca,cl⟩).1=0:=by simpa using hc
  rw [if_neg (by simp [hc])] at hS;refine call_o en160 rfl rfl ax (by repeat' (first | exact rfl | exact trivial | exact Or.inr (Or.inl ⟨_,rfl⟩) | exact Or.inr ⟨_,rfl⟩ | exact Or.inl ⟨rfl,rfl⟩ | exact Or.inl rfl | refine Or.inr ⟨_,_,rfl,Nat.zero_le _,rfl,?_⟩ | refine ⟨_,_,rfl,?_,?_⟩ | refine ⟨_,rfl,?_⟩ | exact congrArg (fun z=>DV.v (.int .i64 z)) (wrap64 (by omega) (by omega)) | refine Or.inr (Or.inr (Or.inr ⟨_,_,rfl,?_⟩)) | exact Or.inl rfl | refine Or.inr ?_)) hih chkR_cl (fun r cs2 hr=>?_);obtain ⟨rfl,z,hz,hzz⟩:=hr;simp only [List.cons.injEq,and_true] at hz;subst hz;exact ⟨_,_,ax,ax,chkR_mk (tk:=[]) (f:=(wrong (.mk u us) (depth + 1) m).1) hS hzz⟩
theorem wrongPts_part {kind:Int} {all:List Wd} {i:Nat} {p:Ph} {t:Ty} {r:Pts} {depth m:Int} (hk:kind=7∨kind=8) (hl:listedF all i p.name=0) :
  wrongPts kind all i (.cons p t r) depth m=if (partF p t (decide (kind=8)) depth m).1.1≠0 then partF p t (decide (kind=8)) depth m else wrongPts kind all (i + 1) r depth (partF p t (decide (kind=8)) depth m).2:=by
 simp only [wrongPts];rw [if_neg (by simp [hl])];unfold partF;by_cases hb:p.bare=true
 ·rw [if_pos hb,if_pos hb,bare_eq];by_cases h7:kind=7
  ·subst h7;rw [if_pos (.inl rfl),if_pos (c:=decide ((7:Int)=8)=false∨_) (.inl (by simp)),if_pos (by simp)]
  ·have h8:kind=8:=by omega
   subst h8;by_cases h:sameTy t zeroTy=false∨plainP p barePh=false
   ·have h':decide ((8:Int)=8)=false∨(plainP p barePh && sameTy t zeroTy)=false:=.inr (by rcases h with h | h<;>simp [h]);rw [if_pos (.inr h),if_pos h',if_pos (by simp)]
   ·have h1:sameTy t zeroTy=true:=by
     cases hc:sameTy t zeroTy
     ·exact absurd (.inl hc) h
     ·rfl
    have h2:plainP p barePh=true:=by
     cases hc:plainP p barePh
     ·exact absurd (.inr hc) h
     ·rfl
    have h':¬ (decide ((8:Int)=8)=false∨(plainP p barePh && sameTy t zeroTy)=false):=by simp [h1,h2]
    rw [if_neg (by simp [h1,h2]),if_neg h',if_neg (by simp)]
 ·rw [if_neg hb,if_neg hb];by_cases hP:(partWd p).1≠0
  ·rw [if_pos hP,if_pos hP,if_pos hP]
  ·rw [if_neg hP,if_neg hP]
theorem partF_ok {p:Ph} {t:Ty} {un:Bool} {depth m:Int} (hm0:0<=m) (hm1:m<=512) (h:(partF p t un depth m).1.1=0):(partF p t un depth m).1=(0,0)/\0<=(partF p t un depth m).2/\(partF p t un depth m).2<=512:=by
 have hw:=wrong_ok t (depth + 1) m hm0;unfold partF at h ⊢;by_cases hb:p.bare=true
 ·rw [if_pos hb] at h ⊢;split at h
  ·simp at h
  ·rename_i hc;rw [if_neg hc];exact ⟨rfl,hm0,hm1⟩
 ·rw [if_neg hb] at h ⊢;by_cases hP:(partWd p).1≠0
  ·rw [if_pos hP] at h;exact absurd h hP
  ·rw [if_neg hP] at h ⊢;exact hw h
abbrev kpartsSt (h:Hd) (ps:Pts) (n e:Nat) (depth m:Int):St:=
 ⟨[(0,⟨[],.loc 0 0⟩),(2,⟨[],.v (.int .i64 depth)⟩),(4,⟨[],.loc 1 0⟩),(6,⟨[],.loc 2 0⟩),(38,⟨[],.sl 18 (dPts ps) none⟩),(39,⟨[],.v (.int .i64 (dPts ps).length)⟩),(40,⟨[],.v (.int .i64 e)⟩),(7,⟨[],.sl 1 (dBs (nmTx ((pNames ps).take e))) (some 0)⟩)],
  [[.v (.int .i64 m)],dTy (.mk h ps),[.v (.int .i64 0),.v (.int .i64 0)]],[⟨n,9,1,none⟩]⟩
theorem kparts_spec (k:Nat) (ih:KChk k) (h:Hd) (ps:Pts) (depth m:Int) (hkd:h.kind=7∨h.kind=8) (hk:ps.wt<=k) (hbig:(Ty.mk h ps).wt<=1099511627776) (hd0:0<=depth) (hd1:depth<=24) (hm0:0<=m) (hm1:m<=512) :
  Ev Tryz.prog 202 [.loc 0 0,.agg (dTy (.mk h ps)),.v (.int .i64 depth)] [[.v (.int .i64 m)]] [] (ChkR (partsF h ps depth m)):=by
 simp only [Ty.wt,Hd.wt] at hbig;have hpl:=ps.wt_len;have hnl:=pNames_len ps;have hnw:=pNames_wt ps;have hS:=partsF.eq_def h ps depth m;generalize partsF h ps depth m=F at hS ⊢;refine ev_go (P:=Tryz.prog) tt tt_ok 5000 72 [.cell 6 45] Tryz.func202 rfl Tryz.ntmps202 rfl (nL rfl) (fun E9 w9 hn9 hm9=>?_);refine br (fun c1=>?_) (fun c1=>?_)
 ·have c1:h.kind=8/\ps.len=0:=by
   simp [pickB_and,dPts_len] at c1;exact ⟨c1.1,by omega⟩
  rw [if_pos c1] at hS;refine call_p en198 (bad_spec 15 h.at') ax rfl ?_;exact ⟨_,_,ax,ax,chkR_mk (tk:=[]) (f:=(15,h.at')) hS (fun _=>rfl)⟩
 have c1:¬ (h.kind=8/\ps.len=0):=by
  simp [pickB_and,dPts_len] at c1;omega
 rw [if_neg c1] at hS;refine br (fun c2=>?_) (fun c2=>?_)
 ·have hlt:64 < ps.len:=by simp [dPts_len] at c2;omega
  obtain ⟨p,t,hx⟩:=Pts.get_lt hlt;refine ⟨_,⟨by omega,dPts_get hx⟩,?_⟩;refine call_p en198 (bad_spec 8 p.name.a) ax rfl ?_;rw [if_pos hlt,pNames_get hx] at hS;exact ⟨_,_,ax,ax,chkR_mk (tk:=[]) (f:=(8,p.name.a)) hS (fun _=>rfl)⟩
 have c2:¬ 64 < ps.len:=by simp [dPts_len] at c2;omega
 rw [if_neg c2] at hS
 refine loop_i (fun j st=>∃ (e:Nat) (m':Int),st=kpartsSt h ps e e depth m' /\ e<=ps.len/\0<=m' /\ m' <= 512/\(nmTx ((pNames ps).take e)).Nodup /\
   F=wrongPts h.kind (pNames ps) e (ps.drop e) depth m' /\ j=ps.len - e) ps.len (kpartsSt h ps 0 0 depth m) (weak_tok ⟨0,9,1,none⟩ rfl ⟨_,rfl⟩ rfl wA rfl rfl wTB) ⟨0,m,rfl,by omega,hm0,hm1,by simp [nmTx],hS,by omega⟩ ?_
 rintro j st ⟨e,m',rfl,he,hm0',hm1',hnd,heq,rfl⟩;refine br (fun hL=>?_) (fun hL=>?_)
 ·have hlt:e < ps.len:=by simpa [dPts_len] using hL
  obtain ⟨p,t,hx⟩:=Pts.get_lt hlt;have hwt:=Pts.wt_mem (mG hx);have hnx:=pNames_get hx;have hpw:p.name.s.size + 64<=p.wt:=by simp only [Ph.wt,Wd.wt];omega
  rw [Pts.drop_cons hx] at heq
  have hlast:(nmTx ((pNames ps).take (e + 1)))[(nmTx ((pNames ps).take (e + 1))).length - 1]? = some p.name.s:=by
   have hl1:(nmTx ((pNames ps).take (e + 1))).length=e + 1:=by simp [nmTx];omega
   rw [hl1];simp [nmTx,hnx]
  have hsp:=listed_spec (nmTx ((pNames ps).take (e + 1))) p.name.s p.name.a hlast (by simp [nmTx];omega) (by omega);have hsn:=nmTx_snoc hnx;rw [listed_eq p.name.a hnx hnd,<- hsn] at hsp;have hpart:=kpart_spec k ih p t (decide (h.kind=8)) depth m' (by omega) (by omega) (by omega) hd0 hd1 hm0' hm1';obtain ⟨u,us⟩:=t;refine ⟨_,⟨by omega,dPts_get hx⟩,?_⟩;refine ⟨by simp [dBs_len,nmTx];omega,⟨by simp [dBs_len,nmTx,maxLen];omega,by simp [dBs_len,nmTx];omega⟩,?_⟩;refine call_p en231 (hsp) ax rfl ?_;by_cases hl:listedF (pNames ps) e p.name≠0
  ·rw [if_pos hl];refine br (fun hf=>?_) (fun hf=>?_)
   ·simp only [wrongPts] at heq;rw [if_pos hl] at heq;exact ⟨_,_,ax,ax,chkR_mk (tk:=[]) (f:=(listedF (pNames ps) e p.name,p.name.a)) heq (fun _=>rfl)⟩
   ·exact absurd (by simpa using hf) hl
  have hl:listedF (pNames ps) e p.name=0:=by simpa using hl
  have hndn:=listed_nodup hnx hnd hl;rw [if_neg (by simp [hl])];rw [wrongPts_part hkd hl] at heq;have hok:=partF_ok (p:=p) (t:=.mk u us) (un:=decide (h.kind=8)) (depth:=depth) hm0' hm1';generalize partF p (.mk u us) (decide (h.kind=8)) depth m'=r at hpart heq hok;obtain ⟨⟨fe,fa⟩,many⟩:=r;simp only at heq hok;refine call_o en233 rfl rfl ax ax hpart chkR_cl (fun r cs2 hr=>?_);obtain ⟨rfl,z,hz,hzz⟩:=hr;simp only [List.cons.injEq,and_true] at hz;subst hz;refine br (fun hd=>?_) (fun hd=>?_)
  ·have hd:fe≠0:=by simpa using hd
   rw [if_pos hd] at heq;exact ⟨_,_,ax,ax,chkR_mk (tk:=[]) (f:=(fe,fa)) heq (fun h0=>absurd h0 hd)⟩
  ·have hd:fe=0:=by simpa using hd
   subst hd;obtain ⟨_,h2,h3⟩:=hok rfl;rw [if_neg (by simp)] at heq;have hz2:z=many:=hzz rfl;subst hz2;exact ⟨kpartsSt h ps (e + 1) (e + 1) depth z,(weak_mk ⟨_,rfl⟩ wA rfl rfl rfl (wSB hlt hsn)),ps.len - (e + 1),by omega,e + 1,z,rfl,by omega,h2,h3,hndn,heq,rfl⟩
 ·have hge:e=ps.len:=by simp [dPts_len] at hL;omega
  rw [hge,Pts.drop_len] at heq;simp only [wrongPts] at heq;exact ⟨_,_,ax,ax,chkR_mk (tk:=[]) (f:=(0,0)) heq (fun _=>rfl)⟩
theorem kone_spec (k:Nat) (ih:KChk k) (h:Hd) (ps:Pts) (depth m:Int) (hk:ps.wt<=k) (hbig:(Ty.mk h ps).wt<=1099511627776) (hd0:0<=depth) (hd1:depth<=24) (hm0:0<=m) (hm1:m<=512) :
  Ev Tryz.prog 201 [.loc 0 0,.agg (dTy (.mk h ps)),.v (.int .i64 depth)] [[.v (.int .i64 m)]] [] (ChkR (wrongOne h ps depth m)):=by
 simp only [Ty.wt,Hd.wt] at hbig
 cases ps with
 | nil=>
  have hS:wrongOne h .nil depth m=((19,h.at'),m):=by simp only [wrongOne]
  generalize wrongOne h .nil depth m=F at hS ⊢;refine ev_go (P:=Tryz.prog) tt tt_ok 5000 44 [.cell 6 45] Tryz.func201 rfl Tryz.ntmps201 rfl (nL rfl) (fun E9 w9 hn9 hm9=>?_);refine call_p en198 (bad_spec 19 h.at') ax rfl ?_;exact ⟨_,_,ax,ax,chkR_mk (tk:=[]) (f:=(19,h.at')) hS (fun _=>rfl)⟩
 | cons p t r=>
  cases r with
  | cons p2 t2 r2=>
   have hS:wrongOne h (.cons p t (.cons p2 t2 r2)) depth m=((19,h.at'),m):=by simp only [wrongOne]
   generalize wrongOne h (.cons p t (.cons p2 t2 r2)) depth m=F at hS ⊢;refine ev_go (P:=Tryz.prog) tt tt_ok 5000 44 [.cell 6 45] Tryz.func201 rfl Tryz.ntmps201 rfl (nL rfl) (fun E9 w9 hn9 hm9=>?_);refine call_p en198 (bad_spec 19 h.at') ax rfl ?_;exact ⟨_,_,ax,ax,chkR_mk (tk:=[]) (f:=(19,h.at')) hS (fun _=>rfl)⟩
  | nil=>
   simp only [Pts.wt] at hbig hk;have hS:wrongOne h (.cons p t .nil) depth m=if p.name.s≠emptyB∨plainP p zeroPh=false then ((19,h.at'),m) else if h.most < 0∨1024 < h.most then ((20,h.at'),m) else wrong t (depth + 1) m:=by simp only [wrongOne]
   generalize wrongOne h (.cons p t .nil) depth m=F at hS ⊢;have hem:=kempty_spec p t (by omega);rw [empty_eq] at hem;have hih:=ih t (depth + 1) m (by omega) (by omega) (by omega) (by omega) hm0 hm1;obtain ⟨u,us⟩:=t;refine ev_go (P:=Tryz.prog) tt tt_ok 5000 44 [.cell 6 45] Tryz.func201 rfl Tryz.ntmps201 rfl (nL rfl) (fun E9 w9 hn9 hm9=>?_);refine ⟨_,⟨by omega,rfl⟩,?_⟩;refine call_p en232 (hem) ax rfl ?_;refine br (fun q=>?_) (fun q=>?_)
   ·have q:p.name.s≠emptyB∨plainP p zeroPh=false:=by
     have:=q;simp [pickB] at this;exact this
    rw [if_pos q] at hS;refine call_p en198 (bad_spec 19 h.at') ax rfl ?_;exact ⟨_,_,ax,ax,chkR_mk (tk:=[]) (f:=(19,h.at')) hS (fun _=>rfl)⟩
   have q:¬ (p.name.s≠emptyB∨plainP p zeroPh=false):=by
    have:=q;simp [pickB] at this;simp [this.1,this.2]
   rw [if_neg q] at hS;refine br (fun x=>?_) (fun x=>?_)
   ·have x:h.most < 0∨1024 < h.most:=by simpa [pickB_or] using x
    rw [if_pos x] at hS;refine call_p en198 (bad_spec 20 h.at') ax rfl ?_;exact ⟨_,_,ax,ax,chkR_mk (tk:=[]) (f:=(20,h.at')) hS (fun _=>rfl)⟩
   have x:¬ (h.most < 0∨1024 < h.most):=by simp [pickB_or] at x;omega
   rw [if_neg x] at hS;refine ⟨_,⟨by omega,rfl⟩,?_⟩;refine call_o en160 rfl rfl ax (by repeat' (first | exact rfl | exact trivial | exact Or.inr (Or.inl ⟨_,rfl⟩) | exact Or.inr ⟨_,rfl⟩ | exact Or.inl ⟨rfl,rfl⟩ | exact Or.inl rfl | refine Or.inr ⟨_,_,rfl,Nat.zero_le _,rfl,?_⟩ | refine ⟨_,_,rfl,?_,?_⟩ | refine ⟨_,rfl,?_⟩ | exact congrArg (fun z=>DV.v (.int .i64 z)) (wrap64 (by omega) (by omega)) | refine Or.inr (Or.inr (Or.inr ⟨_,_,rfl,?_⟩)) | exact Or.inl rfl | refine Or.inr ?_)) hih chkR_cl (fun r cs2 hr=>?_);obtain ⟨rfl,z,hz,hzz⟩:=hr;simp only [List.cons.injEq,and_true] at hz;subst hz;exact ⟨_,_,ax,ax,chkR_mk (tk:=[]) (f:=(wrong (.mk u us) (depth + 1) m).1) hS hzz⟩
theorem kcheck_step (k:Nat) (ih:KChk k) (h:Hd) (ps:Pts) (depth m:Int) (hk:ps.wt<=k) (hbig:(Ty.mk h ps).wt<=1099511627776) (hd0:0<=depth) (hd1:depth<=25) (hm0:0<=m) (hm1:m<=512) :
  Ev Tryz.prog 160 [.loc 0 0,.agg (dTy (.mk h ps)),.v (.int .i64 depth)] [[.v (.int .i64 m)]] [] (ChkR (wrong (.mk h ps) depth m)):=by
 have hbig':=hbig;simp only [Ty.wt,Hd.wt] at hbig';have hmw:IntKind.i64.wrap (m + 1)=m + 1:=wrap64 (by omega) (by omega);have hS:=wrong.eq_def (.mk h ps) depth m;simp only at hS;generalize wrong (.mk h ps) depth m=F at hS ⊢;have hown:=kown_spec h ps;rw [ownF_eq] at hown;refine ev_go (P:=Tryz.prog) tt tt_ok 5000 103 [.cell 6 45] Tryz.func160 rfl Tryz.ntmps160 rfl (nL rfl) (fun E9 w9 hn9 hm9=>?_);refine br (fun c=>?_) (fun c=>?_)
 ·have c:24 < depth:=of_decide_eq_true c;rw [if_pos c] at hS;refine call_p en198 (bad_spec 6 h.at') ax rfl ?_;exact ⟨_,[[.v (.int .i64 (m + 1))]],ax,(aI hmw),chkR_mk (tk:=[]) (f:=(6,h.at')) hS (fun _=>rfl)⟩
 have c:¬ 24 < depth:=of_decide_eq_false c;rw [if_neg c] at hS;refine br (fun c=>?_) (fun c=>?_)
 ·have c:512 < IntKind.i64.wrap (m + 1):=of_decide_eq_true c;rw [hmw] at c;rw [if_pos c] at hS;refine call_p en198 (bad_spec 8 h.at') ax rfl ?_;exact ⟨_,[[.v (.int .i64 (m + 1))]],ax,(aI hmw),chkR_mk (tk:=[]) (f:=(8,h.at')) hS (fun _=>rfl)⟩
 have c:¬ 512 < IntKind.i64.wrap (m + 1):=of_decide_eq_false c;rw [hmw] at c;rw [if_neg c] at hS;refine br (fun c=>?_) (fun c=>?_)
 ·have c:h.kind < 1∨9 < h.kind:=by simpa [pickB_or] using c
  rw [if_pos c] at hS;refine call_p en198 (bad_spec 14 h.at') ax rfl ?_;exact ⟨_,[[.v (.int .i64 (m + 1))]],ax,(aI hmw),chkR_mk (tk:=[]) (f:=(14,h.at')) hS (fun _=>rfl)⟩
 have ck:¬ (h.kind < 1∨9 < h.kind):=by simp [pickB_or] at c;omega
 rw [if_neg ck] at hS;refine call_p en199 (hown) ax rfl ?_;refine br (fun c=>?_) (fun c=>?_)
 ·have c:ownB (.mk h ps)=false:=by simpa [ownB] using c
  rw [if_pos c] at hS;refine call_p en198 (bad_spec 19 h.at') ax rfl ?_;exact ⟨_,[[.v (.int .i64 (m + 1))]],ax,(aI hmw),chkR_mk (tk:=[]) (f:=(19,h.at')) hS (fun _=>rfl)⟩
 have c:¬ ownB (.mk h ps)=false:=by simpa [ownB] using c
 rw [if_neg c] at hS;refine br (fun k2=>?_) (fun k2=>?_)
 ·have k2:h.kind=2:=of_decide_eq_true k2;refine br (fun x=>?_) (fun x=>?_)
  ·have x:h.hi < h.lo:=of_decide_eq_true x;rw [if_pos (.inl ⟨k2,x⟩)] at hS;refine call_p en198 (bad_spec 20 h.at') ax rfl ?_;exact ⟨_,[[.v (.int .i64 (m + 1))]],ax,(aI hmw),chkR_mk (tk:=[]) (f:=(20,h.at')) hS (fun _=>rfl)⟩
  have x:¬ h.hi < h.lo:=of_decide_eq_false x;rw [if_neg (by omega),if_neg (by omega),if_neg (by omega),if_neg (by omega),if_neg (by omega)] at hS;exact ⟨_,[[.v (.int .i64 (m + 1))]],ax,(aI hmw),chkR_mk (tk:=[]) (f:=(0,0)) hS (fun _=>rfl)⟩
 have k2:¬ h.kind=2:=of_decide_eq_false k2;refine br (fun k3=>?_) (fun k3=>?_)
 ·have k3:h.kind=3:=of_decide_eq_true k3;refine br (fun x=>?_) (fun x=>?_)
  ·have x:h.most < 0∨4096 < h.most:=by simpa [pickB_or] using x
   rw [if_pos (.inr ⟨k3,x⟩)] at hS;refine call_p en198 (bad_spec 20 h.at') ax rfl ?_;exact ⟨_,[[.v (.int .i64 (m + 1))]],ax,(aI hmw),chkR_mk (tk:=[]) (f:=(20,h.at')) hS (fun _=>rfl)⟩
  have x:¬ (h.most < 0∨4096 < h.most):=by simp [pickB_or] at x;omega
  rw [if_neg (by omega),if_neg (by omega),if_neg (by omega),if_neg (by omega),if_neg (by omega)] at hS;exact ⟨_,[[.v (.int .i64 (m + 1))]],ax,(aI hmw),chkR_mk (tk:=[]) (f:=(0,0)) hS (fun _=>rfl)⟩
 have k3:¬ h.kind=3:=of_decide_eq_false k3;rw [if_neg (by omega)] at hS;refine br (fun k4=>?_) (fun k4=>?_)
 ·have k4:h.kind=4:=of_decide_eq_true k4;rw [if_neg (by omega),if_pos k4,<- kenum_eq] at hS;refine call_p en200 (kenum_spec h ps (by omega)) ax rfl ?_;exact ⟨_,[[.v (.int .i64 (m + 1))]],ax,(aI hmw),chkR_mk (tk:=[]) (f:=kenumF h) hS (fun _=>rfl)⟩
 have k4:¬ h.kind=4:=of_decide_eq_false k4;refine br (fun k5=>?_) (fun k5=>?_)
 ·have k5':h.kind=5∨h.kind=6:=.inl (of_decide_eq_true k5);rw [if_neg (by omega),if_neg (by omega),if_pos k5'] at hS;refine br (fun _=>?_) (fun hc=>by rw [k5] at hc;cases hc);refine call_o en201 rfl rfl (cs':=[.v (.int .i64 (m + 1))]) (aI hmw) ax (kone_spec k ih h ps depth (m + 1) hk hbig hd0 (by omega) (by omega) (by omega)) chkR_cl (fun r cs2 hr=>?_);obtain ⟨rfl,z,hz,hzz⟩:=hr;simp only [List.cons.injEq,and_true] at hz;subst hz;exact ⟨_,_,ax,ax,chkR_mk (tk:=[]) (f:=(wrongOne h ps depth (m + 1)).1) hS hzz⟩
 have k5:¬ h.kind=5:=of_decide_eq_false k5;refine br (fun k6=>?_) (fun k6=>?_)
 ·have k5':h.kind=5∨h.kind=6:=.inr (of_decide_eq_true k6);rw [if_neg (by omega),if_neg (by omega),if_pos k5'] at hS;refine call_o en201 rfl rfl (cs':=[.v (.int .i64 (m + 1))]) (aI hmw) ax (kone_spec k ih h ps depth (m + 1) hk hbig hd0 (by omega) (by omega) (by omega)) chkR_cl (fun r cs2 hr=>?_);obtain ⟨rfl,z,hz,hzz⟩:=hr;simp only [List.cons.injEq,and_true] at hz;subst hz;exact ⟨_,_,ax,ax,chkR_mk (tk:=[]) (f:=(wrongOne h ps depth (m + 1)).1) hS hzz⟩
 have k6:¬ h.kind=6:=of_decide_eq_false k6;have hP:partsF h ps depth (m + 1)=partsF h ps depth (m + 1):=rfl
 conv at hP=>lhs;unfold partsF
 refine br (fun k7=>?_) (fun k7=>?_)
 ·have k7':h.kind=7∨h.kind=8:=.inl (of_decide_eq_true k7);rw [if_neg (by omega),if_neg (by omega),if_neg (by omega),if_pos k7',hP] at hS;refine br (fun _=>?_) (fun hc=>by rw [k7] at hc;cases hc);refine call_o en202 rfl rfl (cs':=[.v (.int .i64 (m + 1))]) (aI hmw) ax (kparts_spec k ih h ps depth (m + 1) k7' hk hbig hd0 (by omega) (by omega) (by omega)) chkR_cl (fun r cs2 hr=>?_);obtain ⟨rfl,z,hz,hzz⟩:=hr;simp only [List.cons.injEq,and_true] at hz;subst hz;exact ⟨_,_,ax,ax,chkR_mk (tk:=[]) (f:=(partsF h ps depth (m + 1)).1) hS hzz⟩
 have k7:¬ h.kind=7:=of_decide_eq_false k7;refine br (fun k8=>?_) (fun k8=>?_)
 ·have k7':h.kind=7∨h.kind=8:=.inr (of_decide_eq_true k8);rw [if_neg (by omega),if_neg (by omega),if_neg (by omega),if_pos k7',hP] at hS;refine call_o en202 rfl rfl (cs':=[.v (.int .i64 (m + 1))]) (aI hmw) ax (kparts_spec k ih h ps depth (m + 1) k7' hk hbig hd0 (by omega) (by omega) (by omega)) chkR_cl (fun r cs2 hr=>?_);obtain ⟨rfl,z,hz,hzz⟩:=hr;simp only [List.cons.injEq,and_true] at hz;subst hz;exact ⟨_,_,ax,ax,chkR_mk (tk:=[]) (f:=(partsF h ps depth (m + 1)).1) hS hzz⟩
 have k8:¬ h.kind=8:=of_decide_eq_false k8;refine br (fun k9=>?_) (fun k9=>?_)
 ·have k9:h.kind=9:=of_decide_eq_true k9;refine call_p en94 (right_spec h.name.s (by simp only [Wd.wt] at hbig';omega)) ax rfl ?_;refine br (fun q=>?_) (fun q=>?_)
  ·have q:nameOK h.name.s=false:=by simpa using q
   rw [if_pos ⟨k9,q⟩] at hS;refine call_p en198 (bad_spec 9 h.name.a) ax rfl ?_;exact ⟨_,[[.v (.int .i64 (m + 1))]],ax,(aI hmw),chkR_mk (tk:=[]) (f:=(9,h.name.a)) hS (fun _=>rfl)⟩
  ·have q:nameOK h.name.s=true:=by simpa using q
   rw [if_neg (by simp [q]),if_neg (by omega),if_neg (by omega),if_neg (by omega)] at hS;exact ⟨_,[[.v (.int .i64 (m + 1))]],ax,(aI hmw),chkR_mk (tk:=[]) (f:=(0,0)) hS (fun _=>rfl)⟩
 have k9:¬ h.kind=9:=of_decide_eq_false k9;rw [if_neg (by omega),if_neg (by omega),if_neg (by omega),if_neg (by omega)] at hS;exact ⟨_,[[.v (.int .i64 (m + 1))]],ax,(aI hmw),chkR_mk (tk:=[]) (f:=(0,0)) hS (fun _=>rfl)⟩
theorem kchk_any:∀ k,KChk k
 | 0=>fun t depth m hk=>by have:=t.wt_pos;omega
 | k + 1=>fun t depth m hk hbig hd0 hd1 hm0 hm1=>by
  obtain ⟨h,ps⟩:=t;have hk':=hk;simp only [Ty.wt,Hd.wt] at hk';exact kcheck_step k (kchk_any k) h ps depth m (by omega) hbig hd0 hd1 hm0 hm1
theorem kright_spec (t:Ty) (hbig:t.wt<=1099511627776):EvP Tryz.prog 96 [.agg (dTy t)] (wrong t 1 0).1.d:=
 kright_of t (kchk_any t.wt t 1 0 (Nat.le_refl _) hbig (by omega) (by omega) (by omega) (by omega))
abbrev cntSt (t:Ty) (ps:Pts) (e n:Nat):St:=
 ⟨[(1,⟨[],.loc 0 0⟩),(3,⟨[],.v (.int .i64 n)⟩),(7,⟨[],.sl 18 (dPts ps) none⟩),(8,⟨[],.v (.int .i64 (dPts ps).length)⟩),(9,⟨[],.v (.int .i64 e)⟩)],[dTy t],[]⟩
theorem count_spec:∀ (k:Nat) (t:Ty),t.wt<=k->t.wt<=1099511627776 ->
  EvP Tryz.prog 97 [.agg (dTy t)] (.v (.int .i64 t.cnt))
 | 0,t,hn,_=>by have:=t.wt_pos;omega
 | k + 1,.mk h ps,hn,hbig=>by
  simp only [Ty.wt,Hd.wt] at hn hbig;have hpl:=ps.wt_len;have hc:=ps.cnt_wt;refine ev_go (P:=Tryz.prog) tt tt_ok 5000 23 [.tmp 2] Tryz.func97 rfl Tryz.ntmps97 rfl (nL rfl) (fun E9 w9 hn9 hm9=>?_)
  refine loop_i (fun j st=>∃ (e n:Nat),st=cntSt (.mk h ps) ps e n/\e<=ps.len/\n + (ps.drop e).cnt=1 + ps.cnt/\j=ps.len - e) ps.len
   (cntSt (.mk h ps) ps 0 1) (weak_mk ⟨_,rfl⟩ wA rfl rfl rfl wB) ⟨0,1,rfl,by omega,rfl,by omega⟩ ?_
  rintro j st ⟨e,n,rfl,he,hne,rfl⟩;refine br (fun hL=>?_) (fun hL=>?_)
  ·have hlt:e < ps.len:=by simpa [dPts_len] using hL
   obtain ⟨p,t,hx⟩:=Pts.get_lt hlt;have hwt:=Pts.wt_mem (mG hx);rw [Pts.drop_cons hx] at hne;simp only [Pts.cnt] at hne;have hct:=t.cnt_wt;obtain ⟨u,us⟩:=t;refine ⟨_,⟨by omega,dPts_get hx⟩,?_⟩;refine br (fun hB=>?_) (fun hB=>?_)
   ·have hB:p.bare=false:=by simpa using hB
    rw [hB] at hne;have hne:n + ((Ty.mk u us).cnt + (ps.drop (e + 1)).cnt)=1 + ps.cnt:=hne;refine call_p en97 (count_spec k (.mk u us) (by omega) (by omega)) ax rfl ?_;have hw4:IntKind.i64.wrap ((n:Int) + (Ty.mk u us).cnt)=((n + (Ty.mk u us).cnt:Nat):Int):=by rw [wrap64 (by omega) (by omega)];omega
    exact ⟨cntSt (.mk h ps) ps (e + 1) (n + (Ty.mk u us).cnt),(weak_mk ⟨_,rfl⟩ wA rfl rfl rfl (by repeat' (first | exact trivial | exact we_rfl rfl | exact we_int hw4 | exact we_int (nxt hlt (by omega)) | refine ⟨⟨_,rfl,?_⟩,?_⟩))),ps.len - (e + 1),by omega,e + 1,_,rfl,by omega,by omega,rfl⟩
   ·have hB:p.bare=true:=by simpa using hB
    rw [hB] at hne;have hne:n + (0 + (ps.drop (e + 1)).cnt)=1 + ps.cnt:=hne;exact ⟨cntSt (.mk h ps) ps (e + 1) n,(weak_mk ⟨_,rfl⟩ wA rfl rfl rfl (wNB hlt)),ps.len - (e + 1),by omega,e + 1,n,rfl,by omega,by omega,rfl⟩
  ·have hge:e=ps.len:=by simp [dPts_len] at hL;omega
   rw [hge,Pts.drop_len] at hne;simp only [Pts.cnt] at hne;have e2:(n:Int)=((Ty.mk h ps).cnt:Int):=by simp only [Ty.cnt];omega
   refine (congrArg (fun z=>DV.v (.int .i64 z)) ?_:_=_);exact e2
mutual
def Ty.nn:Ty->Nat
 | .mk h ps=>if h.kind=9 then 0 else 1 + ps.nn
def Pts.nn:Pts->Nat
 | .nil=>0
 | .cons p t r=>(if p.bare then 0 else t.nn) + r.nn
end
mutual
theorem Ty.nn_cnt:∀ t:Ty,t.nn<=t.cnt
 | .mk h ps=>by
  have:=Pts.nn_cnt ps;simp only [Ty.nn,Ty.cnt];split<;>omega
theorem Pts.nn_cnt:∀ ps:Pts,ps.nn<=ps.cnt
 | .nil=>Nat.le_refl _
 | .cons p t r=>by
  have:=Ty.nn_cnt t;have:=Pts.nn_cnt r;simp only [Pts.nn,Pts.cnt];split<;>omega
end
abbrev nnSt (t:Ty) (ps:Pts) (e n:Nat):St:=
 ⟨[(1,⟨[],.loc 0 0⟩),(3,⟨[],.v (.int .i64 n)⟩),(10,⟨[],.sl 18 (dPts ps) none⟩),(11,⟨[],.v (.int .i64 (dPts ps).length)⟩),(12,⟨[],.v (.int .i64 e)⟩)],[dTy t],[]⟩
theorem nodes_spec:∀ (k:Nat) (t:Ty),t.wt<=k->t.wt<=1099511627776 ->
  EvP Tryz.prog 101 [.agg (dTy t)] (.v (.int .i64 t.nn))
 | 0,t,hn,_=>by have:=t.wt_pos;omega
 | k + 1,.mk h ps,hn,hbig=>by
  simp only [Ty.wt,Hd.wt] at hn hbig;have hpl:=ps.wt_len;have hc:=ps.cnt_wt;have hc2:=ps.nn_cnt;refine ev_go (P:=Tryz.prog) tt tt_ok 5000 26 [.tmp 2] Tryz.func101 rfl Tryz.ntmps101 rfl (nL rfl) (fun E9 w9 hn9 hm9=>?_);refine br (fun h9=>?_) (fun h9=>?_)
  ·have h9:h.kind=9:=by simpa using h9
   have:(Ty.mk h ps).nn=0:=by simp [Ty.nn,h9]
   rw [this];exact (rfl:_=_)
  have h9:¬ h.kind=9:=by simpa using h9
  refine loop_i (fun j st=>∃ (e n:Nat),st=nnSt (.mk h ps) ps e n/\e<=ps.len/\n + (ps.drop e).nn=1 + ps.nn/\j=ps.len - e) ps.len
   (nnSt (.mk h ps) ps 0 1) (weak_mk ⟨_,rfl⟩ wA rfl rfl rfl wB) ⟨0,1,rfl,by omega,rfl,by omega⟩ ?_
  rintro j st ⟨e,n,rfl,he,hne,rfl⟩;refine br (fun hL=>?_) (fun hL=>?_)
  ·have hlt:e < ps.len:=by simpa [dPts_len] using hL
   obtain ⟨p,t,hx⟩:=Pts.get_lt hlt;have hwt:=Pts.wt_mem (mG hx);rw [Pts.drop_cons hx] at hne;simp only [Pts.nn] at hne;have hct:=t.cnt_wt;have hct2:=t.nn_cnt;obtain ⟨u,us⟩:=t;refine ⟨_,⟨by omega,dPts_get hx⟩,?_⟩;refine br (fun hB=>?_) (fun hB=>?_)
   ·have hB:p.bare=false:=by simpa using hB
    rw [hB] at hne;have hne:n + ((Ty.mk u us).nn + (ps.drop (e + 1)).nn)=1 + ps.nn:=hne;refine call_p en101 (nodes_spec k (.mk u us) (by omega) (by omega)) ax rfl ?_;have hw4:IntKind.i64.wrap ((n:Int) + (Ty.mk u us).nn)=((n + (Ty.mk u us).nn:Nat):Int):=by rw [wrap64 (by omega) (by omega)];omega
    exact ⟨nnSt (.mk h ps) ps (e + 1) (n + (Ty.mk u us).nn),(weak_mk ⟨_,rfl⟩ wA rfl rfl rfl (by repeat' (first | exact trivial | exact we_rfl rfl | exact we_int hw4 | exact we_int (nxt hlt (by omega)) | refine ⟨⟨_,rfl,?_⟩,?_⟩))),ps.len - (e + 1),by omega,e + 1,_,rfl,by omega,by omega,rfl⟩
   ·have hB:p.bare=true:=by simpa using hB
    rw [hB] at hne;have hne:n + (0 + (ps.drop (e + 1)).nn)=1 + ps.nn:=hne;exact ⟨nnSt (.mk h ps) ps (e + 1) n,(weak_mk ⟨_,rfl⟩ wA rfl rfl rfl (wNB hlt)),ps.len - (e + 1),by omega,e + 1,n,rfl,by omega,by omega,rfl⟩
  ·have hge:e=ps.len:=by simp [dPts_len] at hL;omega
   rw [hge,Pts.drop_len] at hne;simp only [Pts.nn] at hne;have e2:(n:Int)=((Ty.mk h ps).nn:Int):=by simp only [Ty.nn,if_neg h9];omega
   refine (congrArg (fun z=>DV.v (.int .i64 z)) ?_:_=_);exact e2
structure Lx where
 names:List ByteArray
 ord:List Nat
 rows:List Nat
 js:List Int
 f:Nat->Nat->Bool
def Lx.pd (X:Lx):DV:=.pt (dLs X.names (dTbl X.names X.ord) X.rows X.js) 0
def Lx.lev (X:Lx) (l:List Wd):Int:=labN X.f X.names l
def Lx.bad (X:Lx) (l:List Wd):Ft:=labW X.names l
structure Lx.OK (X:Lx):Prop where
 hT:TblOK X.names X.ord
 hol:X.ord.length<=1099511627776
 hL:LatOK X.f X.names.length
 hn:X.names.length<=32
 hj:∀ x y,x < X.names.length->y < X.names.length->JM X.f X.names.length X.js x y
theorem Lx.of_spec {X:Lx} (h:X.OK) (l:List Wd) (hs:wdsWt l<=1099511627776):EvP Tryz.prog 99 [X.pd,.sl 2 (dWds l) none] (.tup [.v (.int .i64 (X.lev l)),(X.bad l).d]):=
 lof_spec X.names X.ord X.rows X.js h.hT h.hol h.hL h.hn h.hj l hs
def bC (s:Sch) (lat out:DV) (m:Int):List DV:=.sl 2 (dWds s.levels) none :: .sl 4 (dPrs s.order) none :: .sl 11 (dNms s.types) none :: (dTy s.root ++ [lat,out,.v (.int .i64 m)])
theorem level_spec {X:Lx} (h:X.OK) (s:Sch) (pc:List DV) (m:Int) (l:List Wd) (hs:wdsWt l<=1099511627776) :
  EvP Tryz.prog 165 [.pt (bC s X.pd (.pt pc 0) m) 0,.sl 2 (dWds l) none] (.v (.int .i64 (X.lev l))):=by
 obtain ⟨levels,order,types,⟨rh,rp⟩⟩:=s;refine ev_go (P:=Tryz.prog) tt tt_ok 5000 17 [.tmp 4] Tryz.func165 rfl Tryz.ntmps165 rfl (nL rfl) (fun E9 w9 hn9 hm9=>?_);refine call_p en99 (Lx.of_spec h l hs) ax rfl ?_;exact (rfl:_=_)
def tNm (s:Sch):List Wd:=s.types.map fun x=>x.1
def tL (s:Sch):List ByteArray:=nmTx (tNm s)
theorem tNm_len (s:Sch):(tNm s).length=s.types.length:=by simp [tNm]
theorem tL_len (s:Sch):(tL s).length=s.types.length:=by simp [tL,nmTx,tNm]
def pC (s:Sch) (ord:List Nat) (a b c e:DV):List DV:=[a,b,c,.pt (dTbl (tL s) ord) 0,e]
def refB (s:Sch) (t:Ty):Bool:=decide (t.h.kind=9->ixOf (tL s) t.h.name.s≠none)
def endI (s:Sch):Nat->Nat->Option Nat
 | 0,_=>none
 | k + 1,i=>
  match s.types[i]? with
  | none=>none
  | some x=>if x.2.h.kind=9 then endI s k ((ixOf (tL s) x.2.h.name.s).getD 0) else some i
theorem endI_lt {s:Sch}:∀ {k i j:Nat},endI s k i=some j->j < s.types.length/\∀ x,s.types[j]? = some x->x.2.h.kind≠9
 | 0,i,j,h=>by cases h
 | k + 1,i,j,h=>by
  rw [endI] at h
  cases hx:s.types[i]? with
  | none=>rw [hx] at h;cases h
  | some x=>
   rw [hx] at h;simp only at h;split at h
   ·exact endI_lt h
   ·rename_i hk;simp only [oI] at h;subst h;refine ⟨(gS hx).1,fun y hy=>?_⟩;rw [hx] at hy;simp only [oI] at hy;subst hy;exact hk
abbrev endSt (B:DV) (n i e:Nat):St:=
 ⟨[(0,⟨[],B⟩),(1,⟨[],.v (.int .i64 i)⟩),(12,⟨[],.v (.int .i64 n)⟩),(13,⟨[],.v (.int .i64 e)⟩)],[],[]⟩
theorem end_spec (s:Sch) (lat:DV) (ord:List Nat) (a b c e0:DV) (m:Int) (hT:TblOK (tL s) ord) (hol:ord.length<=1099511627776) (hl:s.types.length<=64) (hr:∀ x∈s.types,refB s x.2=true) (i:Nat) (hi:i < s.types.length) :
  EvP Tryz.prog 100 [.pt (bC s lat (.pt (pC s ord a b c e0) 0) m) 0,.v (.int .i64 i)] (.v (.int .i64 (oz (endI s (s.types.length + 1) i)))):=by
 have htl:=tL_len s;obtain ⟨levels,order,types,⟨rh,rp⟩⟩:=s;simp only at hl hr hi htl;have hN:=dNms_len types;have hcnt:IntKind.i64.wrap ((((dNms types).length:Nat):Int) + 1)=((types.length + 1:Nat):Int):=by rw [hN,wrap64 (by omega) (by omega)];all_goals rfl
 refine ev_go (P:=Tryz.prog) tt tt_ok 5000 43 [.tmp 4] Tryz.func100 rfl Tryz.ntmps100 rfl (nL rfl) (fun E9 w9 hn9 hm9=>?_)
 refine loop_i (fun j st=>∃ e q:Nat,st=endSt (.pt (bC ⟨levels,order,types,.mk rh rp⟩ lat (.pt (pC ⟨levels,order,types,.mk rh rp⟩ ord a b c e0) 0) m) 0) (types.length + 1) q e/\e<=types.length + 1/\q < types.length/\endI ⟨levels,order,types,.mk rh rp⟩ (types.length + 1) i=endI ⟨levels,order,types,.mk rh rp⟩ (types.length + 1 - e) q/\j=types.length + 1 - e) (types.length + 1)
  (endSt (.pt (bC ⟨levels,order,types,.mk rh rp⟩ lat (.pt (pC ⟨levels,order,types,.mk rh rp⟩ ord a b c e0) 0) m) 0) (types.length + 1) i 0) (weak_mk ⟨_,rfl⟩ wA rfl rfl rfl (by repeat' (first | exact trivial | exact we_rfl rfl | exact we_int hcnt | refine ⟨⟨_,rfl,?_⟩,?_⟩))) ⟨0,i,rfl,by omega,hi,rfl,by omega⟩ ?_
 rintro j st ⟨e,q,rfl,he,hq,heq,rfl⟩;refine br (fun hL=>?_) (fun hL=>?_)
 ·have hlt:e < types.length + 1:=by have:=hL;simp at this;omega
  obtain ⟨x,hx⟩:∃ x,types[q]? = some x:=⟨_,gE hq⟩;have hrx:=hr x (mG hx);obtain ⟨xw,⟨xh,xp⟩⟩:=x
  have hst:endI ⟨levels,order,types,.mk rh rp⟩ (types.length + 1 - e) q=if xh.kind=9 then endI ⟨levels,order,types,.mk rh rp⟩ (types.length + 1 - (e + 1)) ((ixOf (tL ⟨levels,order,types,.mk rh rp⟩) xh.name.s).getD 0) else some q:=by
   rw [show types.length + 1 - e=(types.length + 1 - (e + 1)) + 1 by omega,endI];simp only [hx];rfl
  rw [hst] at heq;refine ⟨_,⟨by omega,dNms_get hx⟩,?_⟩;refine br (fun h9=>?_) (fun h9=>?_)
  ·have h9:¬ xh.kind=9:=by simpa using h9
   rw [if_neg h9] at heq;rw [heq];exact (rfl:_=_)
  have h9:xh.kind=9:=by simpa using h9
  rw [if_pos h9] at heq
  have hne:ixOf (tL ⟨levels,order,types,.mk rh rp⟩) xh.name.s≠none:=by
   have:=of_decide_eq_true hrx;exact this h9
  obtain ⟨k,hk⟩:=Option.ne_none_iff_exists'.1 hne;have hkl:=(ixOf_some hk).1;rw [hk] at heq;have hf:=tfind_spec (tL ⟨levels,order,types,.mk rh rp⟩) ord xh.name.s hT hol;rw [hk] at hf;refine drawG_i (fun _=>false) mo (by decide +kernel) ?_;refine callD_p en98 (hf) ax rfl ?_;exact ⟨endSt (.pt (bC ⟨levels,order,types,.mk rh rp⟩ lat (.pt (pC ⟨levels,order,types,.mk rh rp⟩ ord a b c e0) 0) m) 0) (types.length + 1) k (e + 1),(weak_mk ⟨_,rfl⟩ wA rfl rfl rfl (wNB hlt)),types.length + 1 - (e + 1),by omega,e + 1,k,rfl,by omega,by omega,heq,rfl⟩
 ·have hge:e=types.length + 1:=by have:=hL;simp at this;omega
  subst hge;rw [Nat.sub_self] at heq;rw [heq];exact (rfl:_=_)
def loopF (s:Sch):Ft:=
 match firstN (fun i=>(endI s (s.types.length + 1) i).isNone) s.types.length with
 | none=>(0,0)
 | some i=>(11,atN (tNm s) i)
abbrev loopsSt (B:DV) (s:Sch) (e:Nat):St:=
 ⟨[(0,⟨[],B⟩),(2,⟨[],.loc 0 0⟩),(9,⟨[],.sl 11 (dNms s.types) none⟩),(10,⟨[],.v (.int .i64 (dNms s.types).length)⟩),(11,⟨[],.v (.int .i64 e)⟩)],[[.v (.int .i64 0),.v (.int .i64 0)]],[]⟩
theorem loops_spec (s:Sch) (lat:DV) (ord:List Nat) (a b c e0:DV) (m:Int) (hT:TblOK (tL s) ord) (hol:ord.length<=1099511627776) (hl:s.types.length<=64) (hr:∀ x∈s.types,refB s x.2=true) :
  EvP Tryz.prog 41 [.pt (bC s lat (.pt (pC s ord a b c e0) 0) m) 0] (loopF s).d:=by
 have hend:=end_spec s lat ord a b c e0 m hT hol hl hr;have hN:=dNms_len s.types;have hF:=loopF.eq_1 s;obtain ⟨levels,order,types,⟨rh,rp⟩⟩:=s;simp only at hl hr hend hN;refine ev_go (P:=Tryz.prog) tt tt_ok 5000 26 [.cell 2 45] Tryz.func41 rfl Tryz.ntmps41 rfl (nL rfl) (fun E9 w9 hn9 hm9=>?_)
 refine loop_i (fun j st=>∃ e:Nat,st=loopsSt (.pt (bC ⟨levels,order,types,.mk rh rp⟩ lat (.pt (pC ⟨levels,order,types,.mk rh rp⟩ ord a b c e0) 0) m) 0) ⟨levels,order,types,.mk rh rp⟩ e/\e<=types.length/\(∀ i,i < e->(endI ⟨levels,order,types,.mk rh rp⟩ (types.length + 1) i).isNone=false)/\j=types.length - e) types.length
  (loopsSt (.pt (bC ⟨levels,order,types,.mk rh rp⟩ lat (.pt (pC ⟨levels,order,types,.mk rh rp⟩ ord a b c e0) 0) m) 0) ⟨levels,order,types,.mk rh rp⟩ 0) (weak_mk ⟨_,rfl⟩ wA rfl rfl rfl wB) ⟨0,rfl,by omega,fun _ h=>by omega,by omega⟩ ?_
 rintro j st ⟨e,rfl,he,hno,rfl⟩;refine br (fun hL=>?_) (fun hL=>?_)
 ·have hlt:e < types.length:=by have:=hL;simp [hN] at this;exact this
  obtain ⟨x,hx⟩:∃ x,types[e]? = some x:=⟨_,gE hlt⟩;have hxn:(tNm ⟨levels,order,types,.mk rh rp⟩)[e]? = some x.1:=by simp [tNm,hx]
  have h1:=hend e hlt;obtain ⟨xw,⟨xh,xp⟩⟩:=x;refine ⟨_,⟨by omega,dNms_get hx⟩,?_⟩;refine call_p en100 (h1) ax rfl ?_
  cases hE:endI ⟨levels,order,types,.mk rh rp⟩ (types.length + 1) e with
  | none=>
   have hfn:=firstN_some (p:=fun i=>(endI ⟨levels,order,types,.mk rh rp⟩ (types.length + 1) i).isNone) hlt (by simp only [hE];rfl) hno;simp only [hfn] at hF;rw [atN_get hxn] at hF;refine ⟨_,?_,rfl⟩;rw [hF];exact ax
  | some k=>
   refine ⟨loopsSt (.pt (bC ⟨levels,order,types,.mk rh rp⟩ lat (.pt (pC ⟨levels,order,types,.mk rh rp⟩ ord a b c e0) 0) m) 0) ⟨levels,order,types,.mk rh rp⟩ (e + 1),(weak_mk ⟨_,rfl⟩ wA rfl rfl rfl (wNB hlt)),types.length - (e + 1),by omega,e + 1,rfl,by omega,fun i hi=>?_,rfl⟩;rcases Nat.lt_succ_iff_lt_or_eq.1 hi with hi | rfl
   ·exact hno i hi
   ·rw [hE];all_goals rfl
 ·have hge:e=types.length:=by have:=hL;simp [hN] at this;omega
  subst hge;simp only [firstN_none hno] at hF;refine ⟨_,?_,rfl⟩;rw [hF];exact ax
mutual
def knT (X:Lx) (L:List ByteArray):Ty->Ft
 | .mk h ps=>if h.kind=9/\ixOf L h.name.s=none then (15,h.name.a) else knP X L ps
def knP (X:Lx) (L:List ByteArray):Pts->Ft
 | .nil=>(0,0)
 | .cons p t r=>if (X.bad p.label).1≠0 then X.bad p.label else if (X.bad p.cl).1≠0 then X.bad p.cl else if p.bare then knP X L r else if (knT X L t).1≠0 then knT X L t else knP X L r
end
abbrev knSt (B:DV) (t:Ty) (ps:Pts) (e:Nat):St:=
 ⟨[(0,⟨[],B⟩),(3,⟨[],.loc 0 0⟩),(4,⟨[],.loc 1 0⟩),(38,⟨[],.sl 18 (dPts ps) none⟩),(39,⟨[],.v (.int .i64 (dPts ps).length)⟩),(40,⟨[],.v (.int .i64 e)⟩)],[dTy t,[.v (.int .i64 0),.v (.int .i64 0)]],[]⟩
abbrev kn2St (B:DV) (t:Ty) (ps:Pts) (p:Ph) (u:Ty) (e q:Nat):St:=
 ⟨[(0,⟨[],B⟩),(3,⟨[],.loc 0 0⟩),(4,⟨[],.loc 1 0⟩),(38,⟨[],.sl 18 (dPts ps) none⟩),(39,⟨[],.v (.int .i64 (dPts ps).length)⟩),(40,⟨[],.v (.int .i64 e)⟩),(8,⟨[],.loc 2 0⟩),(49,⟨[],.sl 1 [[.sl 2 (dWds p.label) none],[.sl 2 (dWds p.cl) none]] none⟩),(50,⟨[],.v (.int .i64 (2:Nat))⟩),(51,⟨[],.v (.int .i64 q)⟩)],[dTy t,[.v (.int .i64 0),.v (.int .i64 0)],dPh p (dTy u)],[]⟩
theorem known_spec {X:Lx} (hX:X.OK) (s:Sch) (ord:List Nat) (a b c e0:DV) (m:Int) (hT:TblOK (tL s) ord) (hol:ord.length<=1099511627776):∀ (k:Nat) (t:Ty),t.wt<=k->t.wt<=1099511627776 ->
  EvP Tryz.prog 40 [.pt (bC s X.pd (.pt (pC s ord a b c e0) 0) m) 0,.agg (dTy t)] (knT X (tL s) t).d
 | 0,t,hn,_=>by have:=t.wt_pos;omega
 | k + 1,.mk h ps,hn,hbig=>by
  have ih:=known_spec hX s ord a b c e0 m hT hol k;simp only [Ty.wt,Hd.wt] at hn hbig;have hpl:=ps.wt_len;obtain ⟨levels,order,types,⟨rh,rp⟩⟩:=s;have hf:=tfind_spec (tL ⟨levels,order,types,.mk rh rp⟩) ord h.name.s hT hol;have hS:knT X (tL ⟨levels,order,types,.mk rh rp⟩) (.mk h ps)=if h.kind=9/\ixOf (tL ⟨levels,order,types,.mk rh rp⟩) h.name.s=none then (15,h.name.a) else knP X (tL ⟨levels,order,types,.mk rh rp⟩) ps:=by rw [knT]
  refine ev_go (P:=Tryz.prog) tt tt_ok 5000 81 [.cell 4 45] Tryz.func40 rfl Tryz.ntmps40 rfl (nL rfl) (fun E9 w9 hn9 hm9=>?_);generalize knT X (tL ⟨levels,order,types,.mk rh rp⟩) (.mk h ps)=F at hS ⊢;have hS0:knP X (tL ⟨levels,order,types,.mk rh rp⟩) ps=knP X (tL ⟨levels,order,types,.mk rh rp⟩) (ps.drop 0):=by rw [Pts.drop]
  refine br (fun h9=>?_) (fun h9=>?_)
  ·have h9:h.kind=9:=by simpa using h9
   refine drawG_i (fun _=>false) mo (by decide +kernel) ?_
   cases hx:ixOf (tL ⟨levels,order,types,.mk rh rp⟩) h.name.s with
   | none=>
    rw [if_pos ⟨h9,hx⟩] at hS;rw [hx] at hf;refine callD_p en98 (hf) ax rfl ?_;refine ⟨_,?_,rfl⟩;rw [hS];exact ax
   | some i=>
    rw [if_neg (by rw [hx];simp),hS0] at hS;rw [hx] at hf;refine callD_p en98 (hf) ax rfl ?_;refine loop_i (fun j st=>∃ e:Nat,st=knSt (.pt (bC ⟨levels,order,types,.mk rh rp⟩ X.pd (.pt (pC ⟨levels,order,types,.mk rh rp⟩ ord a b c e0) 0) m) 0) (.mk h ps) ps e/\e<=ps.len/\F=knP X (tL ⟨levels,order,types,.mk rh rp⟩) (ps.drop e)/\j=ps.len - e) ps.len (knSt (.pt (bC ⟨levels,order,types,.mk rh rp⟩ X.pd (.pt (pC ⟨levels,order,types,.mk rh rp⟩ ord a b c e0) 0) m) 0) (.mk h ps) ps 0) (weak_mk ⟨_,rfl⟩ wA rfl rfl rfl wB) ⟨0,rfl,by omega,hS,by omega⟩ ?_;rintro j st ⟨e,rfl,he,heq,rfl⟩;refine br (fun hL=>?_) (fun hL=>?_)
    ·have hlt:e < ps.len:=by simpa [dPts_len] using hL
     obtain ⟨p,t,hx⟩:=Pts.get_lt hlt;have hwt:=Pts.wt_mem (mG hx);rw [Pts.drop_cons hx] at heq;simp only [knP] at heq;have hw1:wdsWt p.label + wdsWt p.cl<=p.wt:=by simp only [Ph.wt];omega
     obtain ⟨u,us⟩:=t;refine ⟨_,⟨by omega,dPts_get hx⟩,?_⟩;refine loop_i (fun j st=>∃ q:Nat,st=kn2St (.pt (bC ⟨levels,order,types,.mk rh rp⟩ X.pd (.pt (pC ⟨levels,order,types,.mk rh rp⟩ ord a b c e0) 0) m) 0) (.mk h ps) ps p (.mk u us) e q/\q<=2/\(1<=q->(X.bad p.label).1=0)/\(2<=q->(X.bad p.cl).1=0)/\j=2 - q) 2 (kn2St (.pt (bC ⟨levels,order,types,.mk rh rp⟩ X.pd (.pt (pC ⟨levels,order,types,.mk rh rp⟩ ord a b c e0) 0) m) 0) (.mk h ps) ps p (.mk u us) e 0) (weak_mk ⟨_,rfl⟩ wA rfl rfl rfl wB) ⟨0,rfl,by omega,fun h=>by omega,fun h=>by omega,by omega⟩ ?_;rintro j st ⟨q,rfl,hq,hq1,hq2,rfl⟩;refine br (fun hL2=>?_) (fun hL2=>?_)
     ·have hq3:q=0∨q=1:=by have:=hL2;simp at this;omega
      rcases hq3 with rfl | rfl
      ·refine ⟨_,⟨by omega,rfl⟩,?_⟩;refine call_p en99 (Lx.of_spec hX p.label (by omega)) ax rfl ?_;refine br (fun hb=>?_) (fun hb=>?_)
       ·have hb:(X.bad p.label).1≠0:=by simpa using hb
        rw [if_pos hb] at heq;refine ⟨_,?_,rfl⟩;rw [heq];exact ax
       ·have hb:(X.bad p.label).1=0:=by simpa using hb
        exact ⟨kn2St (.pt (bC ⟨levels,order,types,.mk rh rp⟩ X.pd (.pt (pC ⟨levels,order,types,.mk rh rp⟩ ord a b c e0) 0) m) 0) (.mk h ps) ps p (.mk u us) e 1,(weak_mk ⟨_,rfl⟩ wA rfl rfl rfl (by repeat' (first | exact trivial | exact we_rfl rfl | exact we_int (nxt (e:=0) (n:=2) (by omega) (by omega)) | refine ⟨⟨_,rfl,?_⟩,?_⟩))),1,by omega,1,rfl,by omega,fun _=>hb,fun h=>by omega,rfl⟩
      ·have hb0:=hq1 (by omega);refine ⟨_,⟨by omega,rfl⟩,?_⟩;refine call_p en99 (Lx.of_spec hX p.cl (by omega)) ax rfl ?_;refine br (fun hb=>?_) (fun hb=>?_)
       ·have hb:(X.bad p.cl).1≠0:=by simpa using hb
        rw [if_neg (by rw [hb0];simp),if_pos hb] at heq;refine ⟨_,?_,rfl⟩;rw [heq];exact ax
       ·have hb:(X.bad p.cl).1=0:=by simpa using hb
        exact ⟨kn2St (.pt (bC ⟨levels,order,types,.mk rh rp⟩ X.pd (.pt (pC ⟨levels,order,types,.mk rh rp⟩ ord a b c e0) 0) m) 0) (.mk h ps) ps p (.mk u us) e 2,(weak_mk ⟨_,rfl⟩ wA rfl rfl rfl (by repeat' (first | exact trivial | exact we_rfl rfl | exact we_int (nxt (e:=1) (n:=2) (by omega) (by omega)) | refine ⟨⟨_,rfl,?_⟩,?_⟩))),0,by omega,2,rfl,by omega,fun _=>hb0,fun _=>hb,rfl⟩
     ·have hq3:q=2:=by have:=hL2;simp at this;omega
      subst hq3;have hb0:=hq1 (by omega);have hb1:=hq2 (by omega);rw [if_neg (by rw [hb0];simp),if_neg (by rw [hb1];simp)] at heq;refine br (fun hB=>?_) (fun hB=>?_)
      ·have hB:p.bare=true:=hB;rw [if_pos hB] at heq;exact ⟨knSt (.pt (bC ⟨levels,order,types,.mk rh rp⟩ X.pd (.pt (pC ⟨levels,order,types,.mk rh rp⟩ ord a b c e0) 0) m) 0) (.mk h ps) ps (e + 1),(weak_mk ⟨_,rfl⟩ wA rfl rfl rfl (wNB hlt)),ps.len - (e + 1),by omega,e + 1,rfl,by omega,heq,rfl⟩
      ·have hB:p.bare=false:=hB;rw [if_neg (by rw [hB];decide)] at heq;refine call_p en40 (ih (.mk u us) (by omega) (by omega)) ax rfl ?_;refine br (fun hb=>?_) (fun hb=>?_)
       ·have hb:(knT X (tL ⟨levels,order,types,.mk rh rp⟩) (.mk u us)).1≠0:=by simpa using hb
        rw [if_pos hb] at heq;refine ⟨_,?_,rfl⟩;rw [heq];exact ax
       ·have hb:(knT X (tL ⟨levels,order,types,.mk rh rp⟩) (.mk u us)).1=0:=by simpa using hb
        rw [if_neg (by rw [hb];simp)] at heq;exact ⟨knSt (.pt (bC ⟨levels,order,types,.mk rh rp⟩ X.pd (.pt (pC ⟨levels,order,types,.mk rh rp⟩ ord a b c e0) 0) m) 0) (.mk h ps) ps (e + 1),(weak_mk ⟨_,rfl⟩ wA rfl rfl rfl (wNB hlt)),ps.len - (e + 1),by omega,e + 1,rfl,by omega,heq,rfl⟩
    ·have hge:e=ps.len:=by simp [dPts_len] at hL;omega
     rw [hge,Pts.drop_len] at heq;simp only [knP] at heq;refine ⟨_,?_,rfl⟩;rw [heq];exact ax
  ·have h9:¬ h.kind=9:=by simpa using h9
   rw [if_neg (fun hc=>h9 hc.1),hS0] at hS;refine loop_i (fun j st=>∃ e:Nat,st=knSt (.pt (bC ⟨levels,order,types,.mk rh rp⟩ X.pd (.pt (pC ⟨levels,order,types,.mk rh rp⟩ ord a b c e0) 0) m) 0) (.mk h ps) ps e/\e<=ps.len/\F=knP X (tL ⟨levels,order,types,.mk rh rp⟩) (ps.drop e)/\j=ps.len - e) ps.len (knSt (.pt (bC ⟨levels,order,types,.mk rh rp⟩ X.pd (.pt (pC ⟨levels,order,types,.mk rh rp⟩ ord a b c e0) 0) m) 0) (.mk h ps) ps 0) (weak_mk ⟨_,rfl⟩ wA rfl rfl rfl wB) ⟨0,rfl,by omega,hS,by omega⟩ ?_;rintro j st ⟨e,rfl,he,heq,rfl⟩;refine br (fun hL=>?_) (fun hL=>?_)
   ·have hlt:e < ps.len:=by simpa [dPts_len] using hL
    obtain ⟨p,t,hx⟩:=Pts.get_lt hlt;have hwt:=Pts.wt_mem (mG hx);rw [Pts.drop_cons hx] at heq;simp only [knP] at heq;have hw1:wdsWt p.label + wdsWt p.cl<=p.wt:=by simp only [Ph.wt];omega
    obtain ⟨u,us⟩:=t;refine ⟨_,⟨by omega,dPts_get hx⟩,?_⟩;refine loop_i (fun j st=>∃ q:Nat,st=kn2St (.pt (bC ⟨levels,order,types,.mk rh rp⟩ X.pd (.pt (pC ⟨levels,order,types,.mk rh rp⟩ ord a b c e0) 0) m) 0) (.mk h ps) ps p (.mk u us) e q/\q<=2/\(1<=q->(X.bad p.label).1=0)/\(2<=q->(X.bad p.cl).1=0)/\j=2 - q) 2 (kn2St (.pt (bC ⟨levels,order,types,.mk rh rp⟩ X.pd (.pt (pC ⟨levels,order,types,.mk rh rp⟩ ord a b c e0) 0) m) 0) (.mk h ps) ps p (.mk u us) e 0) (weak_mk ⟨_,rfl⟩ wA rfl rfl rfl wB) ⟨0,rfl,by omega,fun h=>by omega,fun h=>by omega,by omega⟩ ?_;rintro j st ⟨q,rfl,hq,hq1,hq2,rfl⟩;refine br (fun hL2=>?_) (fun hL2=>?_)
    ·have hq3:q=0∨q=1:=by have:=hL2;simp at this;omega
     rcases hq3 with rfl | rfl
     ·refine ⟨_,⟨by omega,rfl⟩,?_⟩;refine call_p en99 (Lx.of_spec hX p.label (by omega)) ax rfl ?_;refine br (fun hb=>?_) (fun hb=>?_)
      ·have hb:(X.bad p.label).1≠0:=by simpa using hb
       rw [if_pos hb] at heq;refine ⟨_,?_,rfl⟩;rw [heq];exact ax
      ·have hb:(X.bad p.label).1=0:=by simpa using hb
       exact ⟨kn2St (.pt (bC ⟨levels,order,types,.mk rh rp⟩ X.pd (.pt (pC ⟨levels,order,types,.mk rh rp⟩ ord a b c e0) 0) m) 0) (.mk h ps) ps p (.mk u us) e 1,(weak_mk ⟨_,rfl⟩ wA rfl rfl rfl (by repeat' (first | exact trivial | exact we_rfl rfl | exact we_int (nxt (e:=0) (n:=2) (by omega) (by omega)) | refine ⟨⟨_,rfl,?_⟩,?_⟩))),1,by omega,1,rfl,by omega,fun _=>hb,fun h=>by omega,rfl⟩
     ·have hb0:=hq1 (by omega);refine ⟨_,⟨by omega,rfl⟩,?_⟩;refine call_p en99 (Lx.of_spec hX p.cl (by omega)) ax rfl ?_;refine br (fun hb=>?_) (fun hb=>?_)
      ·have hb:(X.bad p.cl).1≠0:=by simpa using hb
       rw [if_neg (by rw [hb0];simp),if_pos hb] at heq;refine ⟨_,?_,rfl⟩;rw [heq];exact ax
      ·have hb:(X.bad p.cl).1=0:=by simpa using hb
       exact ⟨kn2St (.pt (bC ⟨levels,order,types,.mk rh rp⟩ X.pd (.pt (pC ⟨levels,order,types,.mk rh rp⟩ ord a b c e0) 0) m) 0) (.mk h ps) ps p (.mk u us) e 2,(weak_mk ⟨_,rfl⟩ wA rfl rfl rfl (by repeat' (first | exact trivial | exact we_rfl rfl | exact we_int (nxt (e:=1) (n:=2) (by omega) (by omega)) | refine ⟨⟨_,rfl,?_⟩,?_⟩))),0,by omega,2,rfl,by omega,fun _=>hb0,fun _=>hb,rfl⟩
    ·have hq3:q=2:=by have:=hL2;simp at this;omega
     subst hq3;have hb0:=hq1 (by omega);have hb1:=hq2 (by omega);rw [if_neg (by rw [hb0];simp),if_neg (by rw [hb1];simp)] at heq;refine br (fun hB=>?_) (fun hB=>?_)
     ·have hB:p.bare=true:=hB;rw [if_pos hB] at heq;exact ⟨knSt (.pt (bC ⟨levels,order,types,.mk rh rp⟩ X.pd (.pt (pC ⟨levels,order,types,.mk rh rp⟩ ord a b c e0) 0) m) 0) (.mk h ps) ps (e + 1),(weak_mk ⟨_,rfl⟩ wA rfl rfl rfl (wNB hlt)),ps.len - (e + 1),by omega,e + 1,rfl,by omega,heq,rfl⟩
     ·have hB:p.bare=false:=hB;rw [if_neg (by rw [hB];decide)] at heq;refine call_p en40 (ih (.mk u us) (by omega) (by omega)) ax rfl ?_;refine br (fun hb=>?_) (fun hb=>?_)
      ·have hb:(knT X (tL ⟨levels,order,types,.mk rh rp⟩) (.mk u us)).1≠0:=by simpa using hb
       rw [if_pos hb] at heq;refine ⟨_,?_,rfl⟩;rw [heq];exact ax
      ·have hb:(knT X (tL ⟨levels,order,types,.mk rh rp⟩) (.mk u us)).1=0:=by simpa using hb
       rw [if_neg (by rw [hb];simp)] at heq;exact ⟨knSt (.pt (bC ⟨levels,order,types,.mk rh rp⟩ X.pd (.pt (pC ⟨levels,order,types,.mk rh rp⟩ ord a b c e0) 0) m) 0) (.mk h ps) ps (e + 1),(weak_mk ⟨_,rfl⟩ wA rfl rfl rfl (wNB hlt)),ps.len - (e + 1),by omega,e + 1,rfl,by omega,heq,rfl⟩
   ·have hge:e=ps.len:=by simp [dPts_len] at hL;omega
    rw [hge,Pts.drop_len] at heq;simp only [knP] at heq;refine ⟨_,?_,rfl⟩;rw [heq];exact ax
def eaL (F:Ty->Ft) (z:Ft):List (Wd × Ty)->Ft
 | []=>z
 | x :: r=>if (F x.2).1≠0 then F x.2 else eaL F z r
theorem eaL_drop {F:Ty->Ft} {z:Ft} {l:List (Wd × Ty)} {e:Nat} {x:Wd × Ty} (h:l[e]? = some x):eaL F z (l.drop e)=if (F x.2).1≠0 then F x.2 else eaL F z (l.drop (e + 1)):=by
 rw [drop_cons h,eaL]
abbrev eachSt (B:DV) (fn:DV) (types:List (Wd × Ty)) (e:Nat):St:=
 ⟨[(0,⟨[],B⟩),(1,⟨[],fn⟩),(4,⟨[],.loc 0 0⟩),(12,⟨[],.sl 11 (dNms types) none⟩),(13,⟨[],.v (.int .i64 (dNms types).length)⟩),(14,⟨[],.v (.int .i64 e)⟩)],[[.v (.int .i64 0),.v (.int .i64 0)]],[]⟩
theorem each_spec (s:Sch) (lat:DV) (pc:List DV) (m:Int) (hl:s.types.length<=1099511627776) (g:Nat) (hg:Enters Tryz.prog g) (F:Ty->Ft)
  (hF:∀ t,(t=s.root∨∃ x∈s.types,t=x.2)->EvP Tryz.prog g [.pt (bC s lat (.pt pc 0) m) 0,.agg (dTy t)] (F t).d) :
  EvP Tryz.prog 38 [.pt (bC s lat (.pt pc 0) m) 0,.fn g [.pt (bC s lat (.pt pc 0) m) 0] []] (eaL F (F s.root) s.types).d:=by
 have hN:=dNms_len s.types;obtain ⟨levels,order,types,⟨rh,rp⟩⟩:=s;simp only at hl hF hN;have hroot:=hF (.mk rh rp) (.inl rfl);have htypes:∀ x∈types,_:=fun x hx=>hF x.2 (.inr ⟨x,hx,rfl⟩);clear hF;refine ev_go (P:=Tryz.prog) tt tt_ok 5000 34 [.cell 4 45] Tryz.func38 rfl Tryz.ntmps38 rfl (nL rfl) (fun E9 w9 hn9 hm9=>?_);generalize hG:eaL F (F (.mk rh rp)) types=G;have hG0:G=eaL F (F (.mk rh rp)) (types.drop 0):=by rw [List.drop_zero,hG]
 refine loop_i (fun j st=>∃ e:Nat,st=eachSt (.pt (bC ⟨levels,order,types,.mk rh rp⟩ lat (.pt pc 0) m) 0) (.fn g [.pt (bC ⟨levels,order,types,.mk rh rp⟩ lat (.pt pc 0) m) 0] []) types e/\e<=types.length/\G=eaL F (F (.mk rh rp)) (types.drop e)/\j=types.length - e) types.length
  (eachSt (.pt (bC ⟨levels,order,types,.mk rh rp⟩ lat (.pt pc 0) m) 0) (.fn g [.pt (bC ⟨levels,order,types,.mk rh rp⟩ lat (.pt pc 0) m) 0] []) types 0) (weak_mk ⟨_,rfl⟩ wA rfl rfl rfl wB) ⟨0,rfl,by omega,hG0,by omega⟩ ?_
 rintro j st ⟨e,rfl,he,heq,rfl⟩;refine br (fun hL=>?_) (fun hL=>?_)
 ·have hlt:e < types.length:=by have:=hL;simp [hN] at this;exact this
  obtain ⟨x,hx⟩:∃ x,types[e]? = some x:=⟨_,gE hlt⟩;have hp:=htypes x (mG hx);rw [eaL_drop hx] at heq;obtain ⟨xw,⟨xh,xp⟩⟩:=x;refine ⟨_,⟨by omega,dNms_get hx⟩,?_⟩;refine call_p hg hp ax rfl ?_;refine br (fun hf=>?_) (fun hf=>?_)
  ·have hf:(F (.mk xh xp)).1≠0:=by simpa using hf
   rw [if_pos hf] at heq;refine ⟨_,?_,rfl⟩;rw [heq];exact ax
  ·have hf:(F (.mk xh xp)).1=0:=by simpa using hf
   rw [if_neg (by rw [hf];simp)] at heq;exact ⟨eachSt (.pt (bC ⟨levels,order,types,.mk rh rp⟩ lat (.pt pc 0) m) 0) (.fn g [.pt (bC ⟨levels,order,types,.mk rh rp⟩ lat (.pt pc 0) m) 0] []) types (e + 1),(weak_mk ⟨_,rfl⟩ wA rfl rfl rfl (wNB hlt)),types.length - (e + 1),by omega,e + 1,rfl,by omega,heq,rfl⟩
 ·have hge:e=types.length:=by have:=hL;simp [hN] at this;omega
  subst hge;rw [List.drop_length,eaL] at heq;refine call_p hg hroot ax rfl ?_;refine ⟨_,?_,rfl⟩;rw [heq];exact ax
def rightF (t:Ty) (m:Int):Ft × Int:=if (wrong t 1 0).1.1≠0 then ((wrong t 1 0).1,m) else if 512 < m + t.cnt then ((8,t.h.at'),m + t.cnt) else ((0,0),m + t.cnt)
def RightΦ (s:Sch) (lat:DV) (pc:List DV) (x:Ft × Int) (r:DV) (os:List (List DV)) (_:List TkE):Prop:=r=x.1.d/\os=[bC s lat (.loc 1 0) x.2,pc]
theorem bright_spec (s:Sch) (lc pc:List DV) (m:Int) (hm0:0<=m) (hm1:m<=1099511627776) (t:Ty) (hbig:t.wt<=1099511627776) (hpc:∀ bx N n0 m0,CcL bx N n0 m0 pc pc) :
  Ev Tryz.prog 39 [.loc 0 0,.agg (dTy t)] [bC s (.pt lc 0) (.loc 1 0) m,pc] [] (RightΦ s (.pt lc 0) pc (rightF t m)):=by
 have hk:=kright_spec t hbig;have hc:=count_spec t.wt t (Nat.le_refl _) hbig;have hcw:=t.cnt_wt;have hF:=rightF.eq_1 t m;obtain ⟨levels,order,types,⟨rh,rp⟩⟩:=s;obtain ⟨h,ps⟩:=t;generalize rightF (.mk h ps) m=R at hF ⊢;refine ev_go (P:=Tryz.prog) tt tt_ok 5000 30 [.cell 4 45] Tryz.func39 rfl Tryz.ntmps39 rfl (nL rfl) (fun E9 w9 hn9 hm9=>?_);refine call_p en96 (hk) ax rfl ?_;refine br (fun hf=>?_) (fun hf=>?_)
 ·have hf:(wrong (.mk h ps) 1 0).1.1≠0:=by simpa using hf
  rw [if_pos hf] at hF;subst hF;exact ⟨Ft.d _,[bC ⟨levels,order,types,.mk rh rp⟩ (.pt lc 0) (.loc 1 0) m,pc],ax,(by repeat' (first | exact rfl | exact trivial | exact Or.inr (Or.inl ⟨_,rfl⟩) | exact Or.inr ⟨_,rfl⟩ | exact Or.inl ⟨rfl,rfl⟩ | exact Or.inl rfl | refine Or.inr ⟨_,_,rfl,Nat.zero_le _,rfl,?_⟩ | refine ⟨_,_,rfl,?_,?_⟩ | refine ⟨_,rfl,?_⟩ | exact hpc _ _ _ _ | exact ⟨nL rfl,rfl⟩ | exact congrArg (fun z=>DV.v (.int .i64 z)) hw | refine Or.inr (Or.inr (Or.inr ⟨_,_,rfl,?_⟩)) | exact Or.inl rfl | refine Or.inr ?_)),rfl,rfl⟩
 have hf:(wrong (.mk h ps) 1 0).1.1=0:=by simpa using hf
 rw [if_neg (by rw [hf];simp)] at hF;have hw:IntKind.i64.wrap (m + ((Ty.mk h ps).cnt:Int))=m + ((Ty.mk h ps).cnt:Int):=wrap64 (by omega) (by omega);refine drawG_s mo (by decide +kernel) ?_;refine callD_p en97 (hc) ax rfl ?_;refine br (fun hg=>?_) (fun hg=>?_)
 ·have hg:512 < m + ((Ty.mk h ps).cnt:Int):=by simpa [hw] using hg
  rw [if_pos hg] at hF;subst hF;exact ⟨Ft.d _,[bC ⟨levels,order,types,.mk rh rp⟩ (.pt lc 0) (.loc 1 0) (m + (Ty.mk h ps).cnt),pc],ax,(by repeat' (first | exact rfl | exact trivial | exact Or.inr (Or.inl ⟨_,rfl⟩) | exact Or.inr ⟨_,rfl⟩ | exact Or.inl ⟨rfl,rfl⟩ | exact Or.inl rfl | refine Or.inr ⟨_,_,rfl,Nat.zero_le _,rfl,?_⟩ | refine ⟨_,_,rfl,?_,?_⟩ | refine ⟨_,rfl,?_⟩ | exact hpc _ _ _ _ | exact ⟨nL rfl,rfl⟩ | exact congrArg (fun z=>DV.v (.int .i64 z)) hw | refine Or.inr (Or.inr (Or.inr ⟨_,_,rfl,?_⟩)) | exact Or.inl rfl | refine Or.inr ?_)),rfl,rfl⟩
 ·have hg:¬ 512 < m + ((Ty.mk h ps).cnt:Int):=by simpa [hw] using hg
  rw [if_neg hg] at hF;subst hF;exact ⟨Ft.d _,[bC ⟨levels,order,types,.mk rh rp⟩ (.pt lc 0) (.loc 1 0) (m + (Ty.mk h ps).cnt),pc],ax,(by repeat' (first | exact rfl | exact trivial | exact Or.inr (Or.inl ⟨_,rfl⟩) | exact Or.inr ⟨_,rfl⟩ | exact Or.inl ⟨rfl,rfl⟩ | exact Or.inl rfl | refine Or.inr ⟨_,_,rfl,Nat.zero_le _,rfl,?_⟩ | refine ⟨_,_,rfl,?_,?_⟩ | refine ⟨_,rfl,?_⟩ | exact hpc _ _ _ _ | exact ⟨nL rfl,rfl⟩ | exact congrArg (fun z=>DV.v (.int .i64 z)) hw | refine Or.inr (Or.inr (Or.inr ⟨_,_,rfl,?_⟩)) | exact Or.inl rfl | refine Or.inr ?_)),rfl,rfl⟩
def eaR (z:Ty):List (Wd × Ty)->Int->Ft × Int
 | [],m=>rightF z m
 | x :: r,m=>if (rightF x.2 m).1.1≠0 then rightF x.2 m else eaR z r (rightF x.2 m).2
theorem eaR_drop {z:Ty} {l:List (Wd × Ty)} {e:Nat} {m:Int} {x:Wd × Ty} (h:l[e]? = some x):eaR z (l.drop e) m=if (rightF x.2 m).1.1≠0 then rightF x.2 m else eaR z (l.drop (e + 1)) (rightF x.2 m).2:=by
 rw [drop_cons h,eaR]
theorem rightF_ok {t:Ty} {m:Int} (h:(rightF t m).1.1=0):(rightF t m).2=m + t.cnt/\(rightF t m).2<=512/\(wrong t 1 0).1.1=0/\(rightF t m).1=(0,0):=by
 unfold rightF at h ⊢;split
 ·rename_i h1;rw [if_pos h1] at h;exact (h1 h).elim
 ·rename_i h1;rw [if_neg h1] at h;split
  ·rename_i h2;rw [if_pos h2] at h;cases h
  ·rename_i h2;refine ⟨rfl,by simpa using h2,by simpa using h1,rfl⟩
abbrev pC0 (s:Sch) (ord:List Nat) (lc:List DV):List DV:=pC s ord (.pt lc 0) (.v (.slice none 0 0)) (.v (.int .i64 0)) (.v (.slice none 0 0))
abbrev eachRSt (s:Sch) (lc pc:List DV) (m:Int) (types:List (Wd × Ty)) (e:Nat):St:=
 ⟨[(0,⟨[],.loc 0 0⟩),(1,⟨[],.fn 39 [.loc 0 0] []⟩),(4,⟨[],.loc 2 0⟩),(12,⟨[],.sl 11 (dNms types) none⟩),(13,⟨[],.v (.int .i64 (dNms types).length)⟩),(14,⟨[],.v (.int .i64 e)⟩)],
  [bC s (.pt lc 0) (.loc 1 0) m,pc,[.v (.int .i64 0),.v (.int .i64 0)]],[]⟩
theorem eachR_spec (s:Sch) (lc:List DV) (ord:List Nat) (m:Int) (hm0:0<=m) (hm1:m<=512) (hl:s.types.length<=1099511627776) (hbig:∀ t,(t=s.root∨∃ x∈s.types,t=x.2)->t.wt<=1099511627776) :
  Ev Tryz.prog 38 [.loc 0 0,.fn 39 [.loc 0 0] []] [bC s (.pt lc 0) (.loc 1 0) m,pC0 s ord lc] [] (RightΦ s (.pt lc 0) (pC0 s ord lc) (eaR s.root s.types m)):=by
 have hN:=dNms_len s.types;have hR:∀ (m':Int),0<=m' -> m' <= 512->∀ t,(t=s.root∨∃ x∈s.types,t=x.2)->_:=fun m' h0 h1 t ht=>bright_spec s lc (pC0 s ord lc) m' h0 (by omega) t (hbig t ht) (fun bx N n0 m0=>ax);obtain ⟨levels,order,types,⟨rh,rp⟩⟩:=s;simp only at hl hR hN hbig;refine ev_go (P:=Tryz.prog) tt tt_ok 5000 34 [.cell 4 45] Tryz.func38 rfl Tryz.ntmps38 rfl (nL rfl) (fun E9 w9 hn9 hm9=>?_);generalize hG:eaR (.mk rh rp) types m=G;have hG0:G=eaR (.mk rh rp) (types.drop 0) m:=by rw [List.drop_zero,hG]
 refine loop_i (fun j st=>∃ (e:Nat) (m':Int),st=eachRSt ⟨levels,order,types,.mk rh rp⟩ lc (pC0 ⟨levels,order,types,.mk rh rp⟩ ord lc) m' types e/\e<=types.length/\0<=m' /\ m' <= 512/\G=eaR (.mk rh rp) (types.drop e) m' /\ j=types.length - e) types.length
  (eachRSt ⟨levels,order,types,.mk rh rp⟩ lc (pC0 ⟨levels,order,types,.mk rh rp⟩ ord lc) m types 0) (weak_b 3 rfl (by repeat' (first | exact rfl | exact we_rfl rfl | exact rfl | refine ⟨_,_,rfl,?_,?_⟩)) rfl rfl rfl (by repeat' (first | exact trivial | exact we_rfl rfl | exact rfl | refine ⟨⟨_,rfl,?_⟩,?_⟩))) ⟨0,m,rfl,by omega,hm0,hm1,hG0,by omega⟩ ?_
 rintro j st ⟨e,m',rfl,he,hm0',hm1',heq,rfl⟩;refine br (fun hL=>?_) (fun hL=>?_)
 ·have hlt:e < types.length:=by have:=hL;simp [hN] at this;exact this
  obtain ⟨x,hx⟩:∃ x,types[e]? = some x:=⟨_,gE hlt⟩;have hp:=hR m' hm0' hm1' x.2 (.inr ⟨x,mG hx,rfl⟩);rw [eaR_drop hx] at heq;obtain ⟨xw,⟨xh,xp⟩⟩:=x;refine ⟨_,⟨by omega,dNms_get hx⟩,?_⟩;refine call_os 2 0 en39 rfl rfl rfl aL aL hp (fun r os' tk' hΦ h1 h2=>?_);obtain ⟨rfl,rfl⟩:=hΦ;have h2:=List.eq_nil_of_length_eq_zero h2;subst h2;refine br (fun hf=>?_) (fun hf=>?_)
  ·have hf:(rightF (.mk xh xp) m').1.1≠0:=by simpa using hf
   rw [if_pos hf] at heq;subst heq;exact ⟨Ft.d _,[bC ⟨levels,order,types,.mk rh rp⟩ (.pt lc 0) (.loc 1 0) (rightF (.mk xh xp) m').2,pC0 ⟨levels,order,types,.mk rh rp⟩ ord lc],ax,aL,rfl,rfl⟩
  ·have hf:(rightF (.mk xh xp) m').1.1=0:=by simpa using hf
   rw [if_neg (by rw [hf];simp)] at heq;obtain ⟨g1,g2,_,_⟩:=rightF_ok hf;exact ⟨eachRSt ⟨levels,order,types,.mk rh rp⟩ lc (pC0 ⟨levels,order,types,.mk rh rp⟩ ord lc) (rightF (.mk xh xp) m').2 types (e + 1),(weak_b 3 rfl (wNA hlt) rfl rfl rfl (wNB hlt)),types.length - (e + 1),by omega,e + 1,_,rfl,by omega,by omega,g2,heq,rfl⟩
 ·have hge:e=types.length:=by have:=hL;simp [hN] at this;omega
  subst hge;rw [List.drop_length,eaR] at heq;refine call_os 2 0 en39 rfl rfl rfl aL aL (hR m' hm0' hm1' (.mk rh rp) (.inl rfl)) (fun r os' tk' hΦ h1 h2=>?_);obtain ⟨rfl,rfl⟩:=hΦ;have h2:=List.eq_nil_of_length_eq_zero h2;subst h2;subst heq;exact ⟨Ft.d _,[bC ⟨levels,order,types,.mk rh rp⟩ (.pt lc 0) (.loc 1 0) (rightF (.mk rh rp) m').2,pC0 ⟨levels,order,types,.mk rh rp⟩ ord lc],ax,aL,rfl,rfl⟩
def namedF (s:Sch):Ft:=if 64 < s.types.length then (8,atN (tNm s) 64) else enumL (tNm s) 0 (tNm s)
def CalledΦ (s:Sch) (lc:List DV) (r:DV) (os:List (List DV)) (_:List TkE):Prop:=
 r=(namedF s).d/\((namedF s).1=0->∃ ord,TblOK (tL s) ord/\ord.length<=s.types.length/\os=[bC s (.pt lc 0) (.loc 1 0) 0,pC0 s ord lc])
abbrev bcalSt (s:Sch) (lc:List DV) (n e:Nat):St:=
 ⟨[(0,⟨[],.loc 0 0⟩),(2,⟨[],.loc 2 0⟩),(3,⟨[],.sl 1 (dBs (nmTx ((tNm s).take e))) (some 0)⟩),(27,⟨[],.sl 11 (dNms s.types) none⟩),(28,⟨[],.v (.int .i64 (dNms s.types).length)⟩),(29,⟨[],.v (.int .i64 e)⟩)],
  [bC s (.pt lc 0) (.loc 1 0) 0,[.pt lc 0,.v (.slice none 0 0),.v (.int .i64 0),.v (.pointer none),.v (.slice none 0 0)],[.v (.int .i64 0),.v (.int .i64 0)]],[⟨n,9,1,none⟩]⟩
theorem bcalled_spec (s:Sch) (lc:List DV) (hs:nmsWt s.types<=1099511627776) :
  Ev Tryz.prog 37 [.loc 0 0] [bC s (.pt lc 0) (.loc 1 0) 0,[.pt lc 0,.v (.slice none 0 0),.v (.int .i64 0),.v (.pointer none),.v (.slice none 0 0)]] [] (CalledΦ s lc):=by
 have hN:=dNms_len s.types;have hnl:=nmsWt_len s.types;have htl:=tNm_len s;have hF:=namedF.eq_1 s;have hget:∀ {e:Nat} {x:Wd × Ty},s.types[e]? = some x->(tNm s)[e]? = some x.1:=fun h=>by simp [tNm,h]
 have hnew:=new_spec (tL s) (by rw [tL_len];omega);have hTL:tL s=nmTx (tNm s):=rfl
 have hw:∀ x∈s.types,x.1.s.size<=1099511627776:=fun x hx=>by
  have:=nmsWt_mem hx;simp only [Wd.wt] at this;omega
 obtain ⟨levels,order,types,⟨rh,rp⟩⟩:=s;simp only at hs hN hnl htl hget hw hF;generalize hQ:tNm ⟨levels,order,types,.mk rh rp⟩=Q at htl hF hget hTL;refine ev_go (P:=Tryz.prog) tt tt_ok 5000 67 [.cell 2 45] Tryz.func37 rfl Tryz.ntmps37 rfl (nL rfl) (fun E9 w9 hn9 hm9=>?_);refine br (fun h=>?_) (fun h=>?_)
 ·have h:64 < types.length:=by simp [hN] at h;omega
  obtain ⟨x,hx⟩:∃ x,types[64]? = some x:=⟨_,gE h⟩;have hxn:=hget hx;rw [if_pos h,atN_get hxn] at hF;obtain ⟨xw,⟨xh,xp⟩⟩:=x;refine ⟨_,⟨by omega,dNms_get hx⟩,?_⟩;refine ⟨Ft.d (8,xw.a),[bC ⟨levels,order,types,.mk rh rp⟩ (.pt lc 0) (.loc 1 0) 0,[.pt lc 0,.v (.slice none 0 0),.v (.int .i64 0),.v (.pointer none),.v (.slice none 0 0)]],ax,aL,by rw [hF],fun h0=>by rw [hF] at h0;simp at h0⟩
 have h:¬ 64 < types.length:=by simp [hN] at h;omega
 rw [if_neg h] at hF;refine loop_i (fun j st=>∃ e:Nat,st=bcalSt ⟨levels,order,types,.mk rh rp⟩ lc e e/\e<=types.length/\(nmTx (Q.take e)).Nodup/\enumL Q 0 Q=enumL Q e (Q.drop e)/\j=types.length - e) types.length (bcalSt ⟨levels,order,types,.mk rh rp⟩ lc 0 0) (weak_bt 3 ⟨0,9,1,none⟩ rfl rfl rfl (by repeat' (first | exact rfl | exact we_rfl rfl | exact we_tok (Nat.le_refl _) rfl | exact we_tok (Nat.le_refl _) rfl | refine ⟨_,_,rfl,?_,?_⟩)) rfl rfl wTB) ⟨0,rfl,by omega,by simp [nmTx],rfl,by omega⟩ ?_;rintro j st ⟨e,rfl,he,hnd,heq,rfl⟩;rw [heq] at hF;refine br (fun hL=>?_) (fun hL=>?_)
 ·have hlt:e < types.length:=by have:=hL;simp [hN] at this;exact this
  obtain ⟨x,hx⟩:∃ x,types[e]? = some x:=⟨_,gE hlt⟩;have hws:=hw x (mG hx);have hq:=hget hx;have hsn:=nmTx_snoc hq;have hst:=enumL_drop hq;have hns:=nodup_succ hq hnd;have htw:=twice_spec (nmTx (Q.take (e + 1))) (by simp [nmTx];omega);rw [<- hsn] at htw;obtain ⟨xw,⟨xh,xp⟩⟩:=x;simp only at hws hq hsn hst hns htw;refine ⟨_,⟨by omega,dNms_get hx⟩,?_⟩;rw [hQ];refine ⟨by simp [dBs_len,nmTx];omega,⟨by simp [dBs_len,nmTx,maxLen];omega,by simp [dBs_len,nmTx];omega⟩,?_⟩;refine call_p en94 (right_spec xw.s (by omega)) ax rfl ?_;refine br (fun hNm=>?_) (fun hNm=>?_)
  ·have hNm:nameOK xw.s=false:=by simpa using hNm
   have hf:listedF Q e xw=9:=by simp [listedF,hNm]
   rw [hst,hf,if_pos (by decide)] at hF;refine ⟨Ft.d (9,xw.a),[bC ⟨levels,order,types,.mk rh rp⟩ (.pt lc 0) (.loc 1 0) 0,[.pt lc 0,.v (.slice none 0 0),.v (.int .i64 0),.v (.pointer none),.v (.slice none 0 0)]],ax,aL,by rw [hF],fun h0=>by rw [hF] at h0;simp at h0⟩
  ·have hNm:nameOK xw.s=true:=by simpa using hNm
   refine call_e en95 rfl htw ax (fun r hr=>?_);obtain ⟨z,rfl,hz⟩:=hr;refine br (fun h2=>?_) (fun h2=>?_)
   ·have h2:0<=z:=by simpa using h2
    have hd:dupBefore (Q.take e) xw.s=true:=by
     cases hd:dupBefore (Q.take e) xw.s
     ·exact absurd (hns.2 hd) (hz.1 h2)
     ·rfl
    have hf:listedF Q e xw=10:=by simp [listedF,hNm,hd]
    rw [hst,hf,if_pos (by decide)] at hF;refine ⟨Ft.d (10,xw.a),[bC ⟨levels,order,types,.mk rh rp⟩ (.pt lc 0) (.loc 1 0) 0,[.pt lc 0,.v (.slice none 0 0),.v (.int .i64 0),.v (.pointer none),.v (.slice none 0 0)]],ax,aL,by rw [hF],fun h0=>by rw [hF] at h0;simp at h0⟩
   ·have h2:¬ 0<=z:=by simpa using h2
    have hnd2:(nmTx (Q.take (e + 1))).Nodup:=Classical.byContradiction fun hn=>h2 (hz.2 hn);have hf:listedF Q e xw=0:=by simp [listedF,hNm,hns.1 hnd2]
    rw [hf,if_neg (by simp)] at hst;have hsn2:dBs (nmTx (Q.take e)) ++ [[DV.v (.string xw.s)]]=dBs (nmTx ((tNm ⟨levels,order,types,.mk rh rp⟩).take (e + 1))):=by rw [hQ];exact hsn
    refine ⟨bcalSt ⟨levels,order,types,.mk rh rp⟩ lc (e + 1) (e + 1),(weak_b 3 rfl (wSA hlt hsn2) rfl rfl rfl (wSB hlt hsn2)),types.length - (e + 1),by omega,e + 1,rfl,by omega,hnd2,heq.trans hst,rfl⟩
 ·have hge:e=types.length:=by have:=hL;simp [hN] at this;omega
  have h0:enumL Q e (Q.drop e)=(0,0):=by rw [hge,<- htl,List.drop_length];all_goals rfl
  rw [h0] at hF;have ht:Q.take e=Q:=by rw [hge,<- htl,List.take_length]
  have hEq:nmTx ((tNm ⟨levels,order,types,.mk rh rp⟩).take e)=tL ⟨levels,order,types,.mk rh rp⟩:=by rw [hQ,ht,hTL]
  rw [<- hEq] at hnew;refine drawG_s mo (by decide +kernel) ?_;refine callD_e en88 rfl hnew ax (fun res hr=>?_);obtain ⟨ord,hT,hol,rfl⟩:=hr;rw [hEq] at hT hol;have hpt:DV.pt (dTbl (nmTx ((tNm ⟨levels,order,types,.mk rh rp⟩).take e)) ord) 0=DV.pt (dTbl (tL ⟨levels,order,types,.mk rh rp⟩) ord) 0:=congrArg (fun L=>DV.pt (dTbl L ord) 0) hEq;rw [tL_len] at hol;exact ⟨Ft.d (0,0),[bC ⟨levels,order,types,.mk rh rp⟩ (.pt lc 0) (.loc 1 0) 0,pC0 ⟨levels,order,types,.mk rh rp⟩ ord lc],ax,(by repeat' (first | exact rfl | exact trivial | exact Or.inr (Or.inl ⟨_,rfl⟩) | exact Or.inr ⟨_,rfl⟩ | exact Or.inl ⟨rfl,rfl⟩ | exact Or.inl rfl | refine Or.inr ⟨_,_,rfl,Nat.zero_le _,rfl,?_⟩ | refine ⟨_,_,rfl,?_,?_⟩ | refine ⟨_,rfl,?_⟩ | exact ⟨nL rfl,rfl⟩ | exact Or.inl hpt | refine Or.inr (Or.inr (Or.inr ⟨_,_,rfl,?_⟩)) | exact Or.inl rfl | refine Or.inr ?_)),by rw [hF],fun _=>⟨ord,hT,hol,rfl⟩⟩
def firstA (s:Sch) (k:Nat):Nat:=((s.types.take k).map fun x=>x.2.nn).sum
theorem firstA_succ {s:Sch} {k:Nat} {x:Wd × Ty} (h:s.types[k]? = some x):firstA s (k + 1)=firstA s k + x.2.nn:=by
 unfold firstA;rw [List.take_add_one,h];simp
theorem firstA_le (s:Sch):∀ k,firstA s k<=nmsWt s.types:=by
 intro k;unfold firstA;generalize s.types=l
 induction l generalizing k with
 | nil=>simp
 | cons x r ih=>
  cases k with
  | zero=>simp
  | succ k=>
   have h1:=ih k;have h2:=x.2.nn_cnt;have h3:=x.2.cnt_wt;simp only [List.take_succ_cons,List.map_cons,List.sum_cons,nmsWt];omega
def namedN (s:Sch) (i:Nat):Nat:=firstA s ((endI s (s.types.length + 1) i).getD 0)
def namedL (s:Sch):List Nat:=(List.range s.types.length).map (namedN s)
theorem rep0 (n:Nat):(List.replicate n (vL [Value.int .i64 0])).flatten=cZ (List.replicate n 0):=by
 induction n with
 | zero=>rfl
 | succ n ih=>simp only [List.replicate_succ,List.flatten_cons,ih];rfl
theorem weL_cZ' {n m:Nat} {tk:List TkE} {l:List DV} {js:List Int} (h:l=cZ js):WeL n m tk l (cZ js):=by rw [h];exact weL_cZ js
abbrev plSt (s:Sch) (lc pc:List DV) (m:Int) (l:List Int) (at' e:Nat):St:=
 ⟨[(0,⟨[],.loc 0 0⟩),(2,⟨[],.ms 2 1 0 (dNms s.types).length (dNms s.types).length⟩),(3,⟨[],.v (.int .i64 at')⟩),(18,⟨[],.sl 11 (dNms s.types) none⟩),(19,⟨[],.v (.int .i64 (dNms s.types).length)⟩),(20,⟨[],.v (.int .i64 e)⟩)],
  [bC s (.pt lc 0) (.loc 1 0) m,pc,cZ l],[]⟩
abbrev pl2St (s:Sch) (ord:List Nat) (lc:List DV) (m:Int) (l:List Int) (n e:Nat):St:=
 ⟨[(0,⟨[],.loc 0 0⟩),(2,⟨[],.ms 2 1 0 (dNms s.types).length (dNms s.types).length⟩),(40,⟨[],.v (.int .i64 (dNms s.types).length)⟩),(41,⟨[],.v (.int .i64 e)⟩)],
  [bC s (.pt lc 0) (.loc 1 0) m,pC s ord (.pt lc 0) (.v (.slice none 0 0)) (.v (.int .i64 0)) (.sl 1 (dInts ((namedL s).take e)) (some 0)),cZ l],[⟨n,3,1,none⟩]⟩
def PlacesΦ (s:Sch) (ord:List Nat) (lc:List DV) (m:Int) (_:DV) (os:List (List DV)) (_:List TkE):Prop:=
 os=[bC s (.pt lc 0) (.loc 1 0) m,pC s ord (.pt lc 0) (.v (.slice none 0 0)) (.v (.int .i64 0)) (.sl 1 (dInts (namedL s)) none)]
theorem cZ_get {l:List Int} {i:Nat} {z:Int} (h:l[i]? = some z):(cZ l)[i]? = some (DV.v (.int .i64 z)):=by simp [cZ,h]
theorem places_spec (s:Sch) (lc:List DV) (ord:List Nat) (m:Int) (hT:TblOK (tL s) ord) (hol:ord.length<=1099511627776) (hl:s.types.length<=64) (hr:∀ x∈s.types,refB s x.2=true) (hs:nmsWt s.types<=1099511627776)
  (hlo:∀ i,i < s.types.length->∃ k,endI s (s.types.length + 1) i=some k) :
  Ev Tryz.prog 42 [.loc 0 0] [bC s (.pt lc 0) (.loc 1 0) m,pC0 s ord lc] [] (PlacesΦ s ord lc m):=by
 have hN:=dNms_len s.types
 have hnw:∀ x∈s.types,x.2.wt<=1099511627776:=fun x hx=>by
  have:=nmsWt_mem hx;omega
 have hfw:=firstA_le s;have hfs:=fun {k:Nat} {x:Wd × Ty}=>@firstA_succ s k x;have hnl:(namedL s).length=s.types.length:=by simp [namedL]
 have hend:=fun (e0:DV)=>end_spec s (.pt lc 0) ord (.pt lc 0) (.v (.slice none 0 0)) (.v (.int .i64 0)) e0 m hT hol hl hr;obtain ⟨levels,order,types,⟨rh,rp⟩⟩:=s;simp only at hl hr hN hs hnw hfw hfs hnl hend hlo;have hN2:(dNms (⟨levels,order,types,.mk rh rp⟩:Sch).types).length=types.length:=hN;refine ev_go (P:=Tryz.prog) tt tt_ok 5000 66 [] Tryz.func42 rfl Tryz.ntmps42 rfl (nL rfl) (fun E9 w9 hn9 hm9=>?_);refine ⟨⟨rfl,by omega,by omega,by omega⟩,?_⟩
 refine loop_i (fun j st=>∃ (e:Nat) (l:List Int),st=plSt ⟨levels,order,types,.mk rh rp⟩ lc (pC0 ⟨levels,order,types,.mk rh rp⟩ ord lc) m l (firstA ⟨levels,order,types,.mk rh rp⟩ e) e/\e<=types.length/\l.length=types.length/\(∀ i:Nat,i < e->l[i]? = some (firstA ⟨levels,order,types,.mk rh rp⟩ i:Int))/\j=types.length - e) types.length
  (plSt ⟨levels,order,types,.mk rh rp⟩ lc (pC0 ⟨levels,order,types,.mk rh rp⟩ ord lc) m (List.replicate ((dNms types).length:Int).toNat 0) (firstA ⟨levels,order,types,.mk rh rp⟩ 0) 0) (weak_b 3 rfl (by repeat' (first | exact rfl | exact we_rfl rfl | exact weL_cZ' (rep0 _) | refine ⟨_,_,rfl,?_,?_⟩)) rfl rfl rfl (by repeat' (first | exact trivial | exact we_rfl rfl | exact weL_cZ' (rep0 _) | refine ⟨⟨_,rfl,?_⟩,?_⟩))) ⟨0,_,rfl,by omega,by simp [hN],fun _ h=>by omega,by omega⟩ ?_
 rintro j st ⟨e,l,rfl,he,hll,hlv,rfl⟩;refine br (fun hL=>?_) (fun hL=>?_)
 ·have hlt:e < types.length:=by have:=hL;simp [hN] at this;exact this
  obtain ⟨x,hx⟩:∃ x,types[e]? = some x:=⟨_,gE hlt⟩;have hxw:=hnw x (mG hx);have hfe:=hfs hx;have hf1:=hfw (e + 1);obtain ⟨xw,⟨xh,xp⟩⟩:=x;have hnd:=nodes_spec (Ty.mk xh xp).wt (.mk xh xp) (Nat.le_refl _) hxw;refine ⟨_,⟨by omega,dNms_get hx⟩,?_⟩;refine ⟨⟨by omega,by omega⟩,?_⟩;refine ⟨by rw [cZ_len];omega,?_⟩;refine call_p en101 (hnd) ax rfl ?_;simp only at hfe hf1
  have hb1:(cZ l).set (0 + (e:Int).toNat * 1) (DV.v (.int .i64 ((firstA ⟨levels,order,types,.mk rh rp⟩ e:Nat):Int)))=cZ (l.set e ((firstA ⟨levels,order,types,.mk rh rp⟩ e:Nat):Int)):=by
   rw [show 0 + (e:Int).toNat * 1=e by omega,cZ_set]
  have hw4:IntKind.i64.wrap (((firstA ⟨levels,order,types,.mk rh rp⟩ e:Nat):Int) + (Ty.mk xh xp).nn)=((firstA ⟨levels,order,types,.mk rh rp⟩ (e + 1):Nat):Int):=by
   rw [hfe,wrap64 (by omega) (by omega)];omega
  refine ⟨plSt ⟨levels,order,types,.mk rh rp⟩ lc (pC0 ⟨levels,order,types,.mk rh rp⟩ ord lc) m (l.set e ((firstA ⟨levels,order,types,.mk rh rp⟩ e:Nat):Int)) (firstA ⟨levels,order,types,.mk rh rp⟩ (e + 1)) (e + 1),(weak_b 3 rfl (by repeat' (first | exact rfl | exact we_rfl rfl | exact weL_cZ' hb1 | exact we_int hw4 | exact we_int (nxt hlt (by omega)) | refine ⟨_,_,rfl,?_,?_⟩)) rfl rfl rfl (by repeat' (first | exact trivial | exact we_rfl rfl | exact weL_cZ' hb1 | exact we_int hw4 | exact we_int (nxt hlt (by omega)) | refine ⟨⟨_,rfl,?_⟩,?_⟩))),types.length - (e + 1),by omega,e + 1,_,rfl,by omega,by rw [List.length_set];exact hll,fun i hi=>?_,rfl⟩;by_cases hie:i=e
  ·subst hie;rw [List.getElem?_set_self (by omega)]
  ·rw [List.getElem?_set_ne (Ne.symm hie)];exact hlv i (by omega)
 ·have hge:e=types.length:=by have:=hL;simp [hN] at this;omega
  subst hge;refine loop_i (fun j st=>∃ e:Nat,st=pl2St ⟨levels,order,types,.mk rh rp⟩ ord lc m l e e/\e<=types.length/\j=types.length - e) types.length (pl2St ⟨levels,order,types,.mk rh rp⟩ ord lc m l 0 0) (weak_bt 3 ⟨0,3,1,none⟩ rfl rfl rfl (by repeat' (first | exact rfl | exact we_rfl rfl | exact weL_cZ _ | exact we_tok (Nat.le_refl _) rfl | exact we_tok (Nat.le_refl _) rfl | refine ⟨_,_,rfl,?_,?_⟩)) rfl rfl (by repeat' (first | exact trivial | exact we_rfl rfl | exact weL_cZ _ | exact we_tok (Nat.le_refl _) rfl | refine ⟨⟨_,rfl,?_⟩,?_⟩))) ⟨0,rfl,by omega,by omega⟩ ?_;rintro j st ⟨e,rfl,he,rfl⟩;refine br (fun hL=>?_) (fun hL=>?_)
  ·have hlt:e < types.length:=by have:=hL;simp [hN] at this;exact this
   obtain ⟨k,hk⟩:=hlo e hlt;have hkl:=(endI_lt hk).1;simp only at hkl;have hE:=hend (.sl 1 (dInts ((namedL ⟨levels,order,types,.mk rh rp⟩).take e)) none) e hlt;rw [hk] at hE;have hnn:namedN ⟨levels,order,types,.mk rh rp⟩ e=firstA ⟨levels,order,types,.mk rh rp⟩ k:=by unfold namedN;rw [hk];all_goals rfl
   have hget:(namedL ⟨levels,order,types,.mk rh rp⟩)[e]? = some (firstA ⟨levels,order,types,.mk rh rp⟩ k):=by
    unfold namedL;rw [List.getElem?_map,List.getElem?_range hlt,Option.map_some,hnn]
   have hsn:dInts ((namedL ⟨levels,order,types,.mk rh rp⟩).take e) ++ [[DV.v (.int .i64 ((firstA ⟨levels,order,types,.mk rh rp⟩ k:Nat):Int))]]=dInts ((namedL ⟨levels,order,types,.mk rh rp⟩).take (e + 1)):=by
    rw [List.take_add_one,hget];simp [dInts]
   refine drawG_s mo (by decide +kernel) ?_;refine callD_b en100 hE ax rfl rfl ?_;refine ⟨⟨by simp only [oz];omega,by simp only [oz];omega⟩,?_⟩
   have hld:(cZ l)[0 + (oz (some k)).toNat * 1]? = some (DV.v (.int .i64 ((firstA ⟨levels,order,types,.mk rh rp⟩ k:Nat):Int))):=by
    rw [show 0 + (oz (some k)).toNat * 1=k by simp only [oz];omega];exact cZ_get (hlv k hkl)
   refine ⟨_,hld,?_⟩;refine ⟨by simp [dInts_len];omega,⟨by simp [dInts_len,maxLen];omega,by simp [dInts_len];omega⟩,?_⟩;exact ⟨pl2St ⟨levels,order,types,.mk rh rp⟩ ord lc m l (e + 1) (e + 1),(weak_b 3 rfl (by repeat' (first | exact rfl | exact we_rfl rfl | exact weL_cZ _ | exact we_int (nxt hlt (by omega)) | exact we_sl hsn rfl | refine ⟨_,_,rfl,?_,?_⟩)) rfl rfl rfl (by repeat' (first | exact trivial | exact we_rfl rfl | exact weL_cZ _ | exact we_int (nxt hlt (by omega)) | exact we_sl hsn rfl | refine ⟨⟨_,rfl,?_⟩,?_⟩))),types.length - (e + 1),by omega,e + 1,rfl,by omega,rfl⟩
  ·have hge:e=types.length:=by have:=hL;simp [hN] at this;omega
   subst hge;have ht:(namedL ⟨levels,order,types,.mk rh rp⟩).take types.length=namedL ⟨levels,order,types,.mk rh rp⟩:=by rw [<- hnl,List.take_length]
   rw [ht];exact ⟨.tup [],[bC ⟨levels,order,types,.mk rh rp⟩ (.pt lc 0) (.loc 1 0) m,pC ⟨levels,order,types,.mk rh rp⟩ ord (.pt lc 0) (.v (.slice none 0 0)) (.v (.int .i64 0)) (.sl 1 (dInts (namedL ⟨levels,order,types,.mk rh rp⟩)) none)],ax,aL,rfl⟩
structure Ed where
 name:ByteArray
 bare:Bool
 at':Int
 to:Int
 label:Int
 wide:Int
 ck:Int
 cn:Int
 seen:Int
 ca:Int
structure Nd where
 kind:Int
 at':Int
 lo:Int
 hi:Int
 most:Int
 names:List ByteArray
 edges:List Ed
def dEd (e:Ed):List DV:=[.v (.string e.name),.v (.bool e.bare),.v (.int .i64 e.at'),.v (.int .i64 e.to),.v (.int .i64 e.label),.v (.int .i64 e.wide),.v (.int .i64 e.ck),.v (.int .i64 e.cn),.v (.int .i64 e.seen),.v (.int .i64 e.ca)]
def dEds (l:List Ed):List (List DV):=l.map dEd
def dNd (n:Nd):List DV:=[.v (.int .i64 n.kind),.v (.int .i64 n.at'),.v (.int .i64 n.lo),.v (.int .i64 n.hi),.v (.int .i64 n.most),.sl 1 (dBs n.names) none,.sl 10 (dEds n.edges) none]
def dNds (l:List Nd):List (List DV):=l.map dNd
def wideF (w:Int):Int:=if w=0 then 3 else w
def mkEd (lev:List Wd->Int) (p:Ph) (to:Int):Ed:=⟨p.name.s,p.bare,p.name.a,to,lev p.label,wideF p.wide,p.ck,p.cn,lev p.cl,p.ca⟩
def nmF (s:Sch) (name:ByteArray):Int:=(namedN s ((ixOf (tL s) name).getD 0):Int)
def idxF (s:Sch) (t:Ty) (k:Nat):Int:=if t.h.kind=9 then nmF s t.h.name.s else (k:Int)
def toF (s:Sch) (p:Ph) (u:Ty) (k:Nat):Int:=if p.bare then -1 else idxF s u k
mutual
def ndsT (lev:List Wd->Int) (s:Sch):Ty->Nat->List Nd
 | .mk h ps,k=>if h.kind=9 then [] else ⟨h.kind,h.at',h.lo,h.hi,h.most,nmTx h.names,edsP lev s ps (k + 1)⟩ :: ndsP lev s ps (k + 1)
def edsP (lev:List Wd->Int) (s:Sch):Pts->Nat->List Ed
 | .nil,_=>[]
 | .cons p u r,k=>mkEd lev p (toF s p u k) :: edsP lev s r (k + if p.bare then 0 else u.nn)
def ndsP (lev:List Wd->Int) (s:Sch):Pts->Nat->List Nd
 | .nil,_=>[]
 | .cons p u r,k=>(if p.bare then [] else ndsT lev s u k) ++ ndsP lev s r (k + if p.bare then 0 else u.nn)
end
mutual
theorem ndsT_len (lev:List Wd->Int) (s:Sch):∀ (t:Ty) (k:Nat),(ndsT lev s t k).length=t.nn
 | .mk h ps,k=>by
  simp only [ndsT,Ty.nn];split
  ·rfl
  ·rw [List.length_cons,ndsP_len lev s ps];omega
theorem ndsP_len (lev:List Wd->Int) (s:Sch):∀ (ps:Pts) (k:Nat),(ndsP lev s ps k).length=ps.nn
 | .nil,k=>rfl
 | .cons p u r,k=>by
  simp only [ndsP,Pts.nn,List.length_append,ndsP_len lev s r];split
  ·rfl
  ·rw [ndsT_len lev s u]
end
abbrev pCn (s:Sch) (ord:List Nat) (lc:List DV) (n:Nat):List DV:=pC s ord (.pt lc 0) (.sl 0 (List.replicate n []) (some 0)) (.v (.int .i64 0)) (.sl 1 (dInts (namedL s)) none)
abbrev rowN (n:Nat) (base:List DV):TkE:=⟨n,105,7,some base⟩
def MadeΦ (s:Sch) (ord:List Nat) (lc:List DV) (m:Int) (n:Nat) (base:List DV) (y:DV) (nds:List Nd) (r:DV) (os:List (List DV)) (tk:List TkE):Prop:=
 r=y/\os=[bC s (.pt lc 0) (.loc 1 0) m,pCn s ord lc (n + nds.length)]/\tk=[rowN (n + nds.length) (base ++ (dNds nds).flatten)]
def NodeOK (lev:List Wd->Int) (s:Sch) (ord:List Nat) (lc:List DV) (m:Int) (t:Ty):Prop:=
 ∀ (n:Nat) (base:List DV),n + t.nn<=1099511627776->base.length=n * 7 ->
  Ev Tryz.prog 43 [.loc 0 0,.agg (dTy t)] [bC s (.pt lc 0) (.loc 1 0) m,pCn s ord lc n] [rowN n base] (MadeΦ s ord lc m n base (.v (.int .i64 (idxF s t n))) (ndsT lev s t n))
theorem edge_spec {X:Lx} (hX:X.OK) (s:Sch) (ord:List Nat) (m:Int) (p:Ph) (u:Ty) (hp:p.wt<=1099511627776) (hnode:p.bare=false->NodeOK X.lev s ord (dLs X.names (dTbl X.names X.ord) X.rows X.js) m u)
  (n:Nat) (base:List DV) (hb:p.bare=false->n + u.nn<=1099511627776) (hbl:base.length=n * 7) :
  Ev Tryz.prog 102 [.loc 0 0,.agg (dPh p (dTy u))] [bC s (.pt (dLs X.names (dTbl X.names X.ord) X.rows X.js) 0) (.loc 1 0) m,pCn s ord (dLs X.names (dTbl X.names X.ord) X.rows X.js) n] [rowN n base]
   (MadeΦ s ord (dLs X.names (dTbl X.names X.ord) X.rows X.js) m n base (.agg (dEd (mkEd X.lev p (toF s p u n)))) (if p.bare then [] else ndsT X.lev s u n)):=by
 have hw1:wdsWt p.label + wdsWt p.cl<=p.wt:=by simp only [Ph.wt];omega
 have hpd:X.pd = .pt (dLs X.names (dTbl X.names X.ord) X.rows X.js) 0:=rfl;have hl1:=fun pc=>level_spec hX s pc m p.label (by omega);have hl2:=fun pc=>level_spec hX s pc m p.cl (by omega);rw [hpd] at hl1 hl2;have hE:=fun to=>mkEd.eq_1 X.lev p to;have hto:=toF.eq_1 s p u n;generalize dLs X.names (dTbl X.names X.ord) X.rows X.js=lc at hl1 hl2 hnode ⊢;obtain ⟨levels,order,types,⟨rh,rp⟩⟩:=s;obtain ⟨uh,us⟩:=u;refine ev_go (P:=Tryz.prog) tt tt_ok 5000 52 [.cell 4 178] Tryz.func102 rfl Tryz.ntmps102 rfl (nL rfl) (fun E9 w9 hn9 hm9=>?_);have hlev1:=hl1 [.pt lc 0,.sl 0 (List.replicate n []) none,.v (.int .i64 0),.pt (dTbl (tL ⟨levels,order,types,.mk rh rp⟩) ord) 0,.sl 1 (dInts (namedL ⟨levels,order,types,.mk rh rp⟩)) none];have hlev2:=hl2 [.pt lc 0,.sl 0 (List.replicate n []) none,.v (.int .i64 0),.pt (dTbl (tL ⟨levels,order,types,.mk rh rp⟩) ord) 0,.sl 1 (dInts (namedL ⟨levels,order,types,.mk rh rp⟩)) none];apply drawG_two (fun _=>false) 11 15 [0,1,2,3,4,5,6,7,8,9,10,11,12,13,14,15,16] [0,1,2,3,4,5,6,7,8,9,10,15,11,12,13,14,16] 4 4 mo (by decide +kernel)
 ·refine callD_b en165 hlev1 ax rfl rfl ?_;refine (?_:@Eq St _ _);exact rfl
 ·refine callD_b en165 hlev1 ax rfl rfl ?_;refine (⟨rfl,rfl,?_⟩:_/\_/\_)
  repeat' (first | exact trivial | refine ⟨rfl,?_⟩)
 ·rfl
 refine br (fun hw=>?_) (fun hw=>?_)
 ·have hw:p.wide=0:=by simpa using hw
  refine drawG_m [4] (fun _=>false) mo (by decide +kernel) ?_;refine callD_b en165 hlev2 ax rfl rfl ?_;refine br (fun hB=>?_) (fun hB=>?_)
  ·have hB:p.bare=false:=by simpa using hB
   refine call_os 2 1 en43 rfl rfl rfl aL aL (hnode hB n base (hb hB) hbl) (fun r os' tk' hΦ h1 h2=>?_);obtain ⟨rfl,rfl,rfl⟩:=hΦ;refine ⟨.agg (dEd ⟨p.name.s,p.bare,p.name.a,idxF ⟨levels,order,types,.mk rh rp⟩ (.mk uh us) n,X.lev p.label,3,p.ck,p.cn,X.lev p.cl,p.ca⟩),[bC ⟨levels,order,types,.mk rh rp⟩ (.pt lc 0) (.loc 1 0) m,pCn ⟨levels,order,types,.mk rh rp⟩ ord lc (n + (ndsT X.lev ⟨levels,order,types,.mk rh rp⟩ (.mk uh us) n).length)],ax,aL,?_,?_,?_⟩
   ·simp [hE,toF,hB,wideF,hw]
   ·simp [hB]
   ·simp [hB]
  ·have hB:p.bare=true:=by simpa using hB
   refine ⟨.agg (dEd ⟨p.name.s,p.bare,p.name.a,-1,X.lev p.label,3,p.ck,p.cn,X.lev p.cl,p.ca⟩),[bC ⟨levels,order,types,.mk rh rp⟩ (.pt lc 0) (.loc 1 0) m,pCn ⟨levels,order,types,.mk rh rp⟩ ord lc n],ax,aL,?_,?_,?_⟩
   ·simp [hE,toF,hB,wideF,hw]
   ·simp [hB]
   ·simp [hB,dNds]
 ·have hw:¬ p.wide=0:=by simpa using hw
  refine drawG_m [4] (fun _=>false) mo (by decide +kernel) ?_;refine callD_b en165 hlev2 ax rfl rfl ?_;refine br (fun hB=>?_) (fun hB=>?_)
  ·have hB:p.bare=false:=by simpa using hB
   refine call_os 2 1 en43 rfl rfl rfl aL aL (hnode hB n base (hb hB) hbl) (fun r os' tk' hΦ h1 h2=>?_);obtain ⟨rfl,rfl,rfl⟩:=hΦ;refine ⟨.agg (dEd ⟨p.name.s,p.bare,p.name.a,idxF ⟨levels,order,types,.mk rh rp⟩ (.mk uh us) n,X.lev p.label,p.wide,p.ck,p.cn,X.lev p.cl,p.ca⟩),[bC ⟨levels,order,types,.mk rh rp⟩ (.pt lc 0) (.loc 1 0) m,pCn ⟨levels,order,types,.mk rh rp⟩ ord lc (n + (ndsT X.lev ⟨levels,order,types,.mk rh rp⟩ (.mk uh us) n).length)],ax,aL,?_,?_,?_⟩
   ·simp [hE,toF,hB,wideF,hw]
   ·simp [hB]
   ·simp [hB]
  ·have hB:p.bare=true:=by simpa using hB
   refine ⟨.agg (dEd ⟨p.name.s,p.bare,p.name.a,-1,X.lev p.label,p.wide,p.ck,p.cn,X.lev p.cl,p.ca⟩),[bC ⟨levels,order,types,.mk rh rp⟩ (.pt lc 0) (.loc 1 0) m,pCn ⟨levels,order,types,.mk rh rp⟩ ord lc n],ax,aL,?_,?_,?_⟩
   ·simp [hE,toF,hB,wideF,hw]
   ·simp [hB]
   ·simp [hB,dNds]
def nd0 (h:Hd):List DV:=[.v (.int .i64 h.kind),.v (.int .i64 h.at'),.v (.int .i64 h.lo),.v (.int .i64 h.hi),.v (.int .i64 h.most),.sl 1 (dBs (nmTx h.names)) none,.v (.slice none 0 0)]
theorem nd0_set {h:Hd} {base R:List DV} {n:Nat} {x:DV} (hb:base.length=n * 7):(base ++ (nd0 h ++ R)).set (n * 7 + 6) x=base ++ ([.v (.int .i64 h.kind),.v (.int .i64 h.at'),.v (.int .i64 h.lo),.v (.int .i64 h.hi),.v (.int .i64 h.most),.sl 1 (dBs (nmTx h.names)) none,x] ++ R):=by
 rw [List.set_append_right _ _ (by omega),hb,Nat.add_sub_cancel_left];rfl
theorem dEds_snoc (l:List Ed) (e:Ed):dEds l ++ [dEd e]=dEds (l ++ [e]):=by simp [dEds]
theorem dEds_len (l:List Ed):(dEds l).length=l.length:=by simp [dEds]
theorem edsP_len (lev:List Wd->Int) (s:Sch):∀ (ps:Pts) (k:Nat),(edsP lev s ps k).length=ps.len
 | .nil,_=>rfl
 | .cons p u r,k=>by simp [edsP,Pts.len,edsP_len lev s r]
abbrev ndASt (s:Sch) (ord:List Nat) (lc:List DV) (m:Int) (n:Nat) (base:List DV) (h:Hd) (ps:Pts) (q e:Nat):St:=
 ⟨[(0,⟨[],.loc 0 0⟩),(3,⟨[],.loc 2 0⟩),(7,⟨[],.v (.int .i64 n)⟩),(8,⟨[],.loc 3 0⟩),(61,⟨[],.sl 2 (dWds h.names) none⟩),(62,⟨[],.v (.int .i64 (dWds h.names).length)⟩),(63,⟨[],.v (.int .i64 e)⟩)],
  [bC s (.pt lc 0) (.loc 1 0) m,pCn s ord lc n,dTy (.mk h ps),[.v (.int .i64 h.kind),.v (.int .i64 h.at'),.v (.int .i64 h.lo),.v (.int .i64 h.hi),.v (.int .i64 h.most),.sl 1 (dBs (nmTx (h.names.take e))) (some 1),.v (.slice none 0 0)]],
  [rowN n base,⟨q,9,1,none⟩]⟩
abbrev ndBSt (s:Sch) (ord:List Nat) (lc:List DV) (m:Int) (n:Nat) (h:Hd) (ps:Pts) (n':Nat) (base':List DV) (Es:List Ed) (q1 q2 e:Nat):St:=
 ⟨[(0,⟨[],.loc 0 0⟩),(3,⟨[],.loc 2 0⟩),(7,⟨[],.v (.int .i64 n)⟩),(11,⟨[],.sl 10 (dEds Es) (some 2)⟩),(92,⟨[],.sl 18 (dPts ps) none⟩),(93,⟨[],.v (.int .i64 (dPts ps).length)⟩),(94,⟨[],.v (.int .i64 e)⟩)],
  [bC s (.pt lc 0) (.loc 1 0) m,pCn s ord lc n',dTy (.mk h ps)],
  [rowN n' base',⟨q1,9,1,none⟩,⟨q2,178,10,none⟩]⟩
theorem knT_ok {X:Lx} {L:List ByteArray} {h:Hd} {ps:Pts} (hk:(knT X L (.mk h ps)).1=0):(h.kind=9->ixOf L h.name.s≠none)/\(knP X L ps).1=0:=by
 rw [knT] at hk;split at hk
 ·cases hk
 ·rename_i h1;exact ⟨fun h9 hn=>h1 ⟨h9,hn⟩,hk⟩
theorem knP_ok {X:Lx} {L:List ByteArray} {p:Ph} {u:Ty} {r:Pts} (hk:(knP X L (.cons p u r)).1=0):(p.bare=false->(knT X L u).1=0)/\(knP X L r).1=0:=by
 rw [knP] at hk;split at hk
 ·rename_i h1;exact (h1 hk).elim
 ·split at hk
  ·rename_i h1;exact (h1 hk).elim
  ·split at hk
   ·rename_i h1;exact ⟨(fun h2=>by rw [h1] at h2;cases h2),hk⟩
   ·split at hk
    ·rename_i h1;exact (h1 hk).elim
    ·rename_i h1;exact ⟨fun _=>by simpa using h1,hk⟩
theorem node_spec {X:Lx} (hX:X.OK) (s:Sch) (ord:List Nat) (m:Int) (hT:TblOK (tL s) ord) (hol:ord.length<=1099511627776):∀ (k:Nat) (t:Ty),t.wt<=k->t.wt<=1099511627776->(knT X (tL s) t).1=0 ->
  NodeOK X.lev s ord (dLs X.names (dTbl X.names X.ord) X.rows X.js) m t
 | 0,t,hn,_,_=>by have:=t.wt_pos;omega
 | k + 1,.mk h ps,hn,hbig,hkn=>by
  have ih:=node_spec hX s ord m hT hol k;intro n base hnb hbl;obtain ⟨hk9,hkp⟩:=knT_ok hkn;have hedge:=fun (p:Ph) (u:Ty)=>edge_spec hX s ord m p u;generalize dLs X.names (dTbl X.names X.ord) X.rows X.js=lc at ih hedge ⊢;simp only [Ty.wt,Hd.wt] at hn hbig;have hpl:=ps.wt_len;have hnl:=wdsWt_len h.names;have hf:=tfind_spec (tL s) ord h.name.s hT hol;have htl:=tL_len s;have hnmL:(namedL s).length=s.types.length:=by simp [namedL]
  have hidx:idxF s (.mk h ps) n=if h.kind=9 then nmF s h.name.s else (n:Int):=rfl
  have hnds:ndsT X.lev s (.mk h ps) n=if h.kind=9 then [] else ⟨h.kind,h.at',h.lo,h.hi,h.most,nmTx h.names,edsP X.lev s ps (n + 1)⟩ :: ndsP X.lev s ps (n + 1):=by rw [ndsT]
  have hnn:(Ty.mk h ps).nn=if h.kind=9 then 0 else 1 + ps.nn:=by rw [Ty.nn]
  generalize hS:s=S at *;subst hS;obtain ⟨levels,order,types,⟨rh,rp⟩⟩:=s;refine ev_go (P:=Tryz.prog) tt tt_ok 5000 117 [.tmp 4] Tryz.func43 rfl Tryz.ntmps43 rfl (nL rfl) (fun E9 w9 hn9 hm9=>?_);refine br (fun h9=>?_) (fun h9=>?_)
  ·have h9:h.kind=9:=by simpa using h9
   obtain ⟨i,hi⟩:=Option.ne_none_iff_exists'.1 (hk9 h9);have hil:=(ixOf_some hi).1;rw [hi] at hf;rw [if_pos h9] at hidx hnds
   have hget:(namedL ⟨levels,order,types,.mk rh rp⟩)[i]? = some (namedN ⟨levels,order,types,.mk rh rp⟩ i):=by
    unfold namedL;rw [List.getElem?_map,List.getElem?_range (by omega)];rfl
   refine drawG_i (fun _=>false) mo (by decide +kernel) ?_;refine callD_p en98 (hf) ax rfl ?_;refine ⟨_,⟨by omega,dInts_get hget⟩,?_⟩;refine ⟨.v (.int .i64 (namedN ⟨levels,order,types,.mk rh rp⟩ i:Nat)),[bC ⟨levels,order,types,.mk rh rp⟩ (.pt lc 0) (.loc 1 0) m,pCn ⟨levels,order,types,.mk rh rp⟩ ord lc n],ax,aL,?_,?_,?_⟩
   ·rw [hidx,nmF,hi];rfl
   ·rw [hnds];rfl
   ·rw [hnds];simp [dNds]
  have h9:¬ h.kind=9:=by simpa using h9
  rw [if_neg h9] at hidx hnds hnn;have hrl:(List.replicate n ([]:List DV)).length=n:=List.length_replicate;refine loop_i (fun j st=>∃ e:Nat,st=ndASt ⟨levels,order,types,.mk rh rp⟩ ord lc m n base h ps e e/\e<=h.names.length/\j=h.names.length - e) h.names.length (ndASt ⟨levels,order,types,.mk rh rp⟩ ord lc m n base h ps 0 0) (weak_bt 4 ⟨0,9,1,none⟩ rfl rfl rfl (by repeat' (first | exact rfl | exact we_rfl rfl | exact we_int (congrArg Nat.cast hrl) | exact we_tok (Nat.le_refl _) rfl | exact we_tok (Nat.le_refl _) rfl | refine ⟨_,_,rfl,?_,?_⟩)) rfl rfl (by repeat' (first | exact trivial | exact we_rfl rfl | exact we_int (congrArg Nat.cast hrl) | exact we_tok (Nat.le_refl _) rfl | refine ⟨⟨_,rfl,?_⟩,?_⟩))) ⟨0,rfl,by omega,by omega⟩ ?_;rintro j st ⟨e,rfl,he,rfl⟩;refine br (fun hL=>?_) (fun hL=>?_)
  ·have hlt:e < h.names.length:=by simpa [dWds_len] using hL
   obtain ⟨w,hw⟩:∃ w,h.names[e]? = some w:=⟨_,gE hlt⟩;have hsn:=nmTx_snoc hw;refine ⟨dWd w,⟨by omega,dWds_get hw⟩,?_⟩;refine ⟨by simp [dBs_len,nmTx];omega,⟨by simp [dBs_len,nmTx,maxLen];omega,by simp [dBs_len,nmTx];omega⟩,?_⟩;exact ⟨ndASt ⟨levels,order,types,.mk rh rp⟩ ord lc m n base h ps (e + 1) (e + 1),(weak_b 4 rfl (wSA hlt hsn) rfl rfl rfl (wSB hlt hsn)),h.names.length - (e + 1),by omega,e + 1,rfl,by omega,rfl⟩
  have hge:e=h.names.length:=by have:=hL;simp [dWds_len] at this;omega
  subst hge;rw [List.take_length];refine drawG_s mo (by decide +kernel) ?_;refine ⟨⟨⟨hrl,by simp⟩,by simp [maxLen];omega,by simp;omega⟩,?_⟩
  refine loop_i (fun j st=>∃ (e n':Nat) (base':List DV) (Es:List Ed) (K:List Nd),st=ndBSt ⟨levels,order,types,.mk rh rp⟩ ord lc m n h ps n' base' Es h.names.length e e/\e<=ps.len/\n'=n + 1 + K.length/\base'=base ++ (nd0 h ++ (dNds K).flatten)/\Es.length=e /\
    K ++ ndsP X.lev ⟨levels,order,types,.mk rh rp⟩ (ps.drop e) (n + 1 + K.length)=ndsP X.lev ⟨levels,order,types,.mk rh rp⟩ ps (n + 1)/\Es ++ edsP X.lev ⟨levels,order,types,.mk rh rp⟩ (ps.drop e) (n + 1 + K.length)=edsP X.lev ⟨levels,order,types,.mk rh rp⟩ ps (n + 1)/\K.length + (ps.drop e).nn=ps.nn/\(knP X (tL ⟨levels,order,types,.mk rh rp⟩) (ps.drop e)).1=0/\j=ps.len - e) ps.len
   (ndBSt ⟨levels,order,types,.mk rh rp⟩ ord lc m n h ps (n + 1) (base ++ (nd0 h ++ [])) [] h.names.length 0 0) (weak_bt 3 ⟨0,178,10,none⟩ rfl rfl rfl (by repeat' (first | exact rfl | exact we_rfl rfl | exact we_tok (Nat.le_refl _) rfl | exact we_tok (Nat.le_refl _) rfl | refine ⟨_,_,rfl,?_,?_⟩)) rfl rfl wTB) ⟨0,n + 1,_,[],[],rfl,by omega,rfl,rfl,rfl,rfl,rfl,by simp [Pts.drop],hkp,by omega⟩ ?_
  rintro j st ⟨e,n',base',Es,K,rfl,he,hn',hb',hEl,hK,hEs,hKn,hkd,rfl⟩
  have hbl':base'.length=n' * 7:=by
   have:∀ l:List Nd,(dNds l).flatten.length=l.length * 7:=by
    intro l
    induction l with
    | nil=>rfl
    | cons a r ih=>simp only [dNds,List.map_cons,List.flatten_cons,List.length_append,List.length_cons] at ih ⊢;rw [ih];simp only [dNd,List.length_cons,List.length_nil];omega
   rw [hb',List.length_append,List.length_append,this,hbl,hn'];simp only [nd0,List.length_cons,List.length_nil];omega
  refine br (fun hL=>?_) (fun hL=>?_)
  ·have hlt:e < ps.len:=by simpa [dPts_len] using hL
   obtain ⟨p,u,hx⟩:=Pts.get_lt hlt;have hwt:=Pts.wt_mem (mG hx);rw [Pts.drop_cons hx] at hK hEs hKn hkd;obtain ⟨hk1,hk2⟩:=knP_ok hkd;simp only [ndsP] at hK;simp only [edsP] at hEs;simp only [Pts.nn] at hKn;rw [<- hn'] at hK hEs;have hun:=u.nn_cnt;have huc:=u.cnt_wt;have hpe:=hedge p u (by omega) (fun hB=>ih u (by omega) (by omega) (hk1 hB)) n' base' (fun hB=>by rw [hB] at hKn;simp only [Bool.false_eq_true,if_false] at hKn;omega) hbl';have hlen1:=ndsT_len X.lev ⟨levels,order,types,.mk rh rp⟩ u n';obtain ⟨uh,us⟩:=u;refine ⟨_,⟨by omega,dPts_get hx⟩,?_⟩;refine call_os 2 1 en102 rfl rfl rfl aL aL hpe (fun r os' tk' hΦ h1 h2=>?_);obtain ⟨rfl,rfl,rfl⟩:=hΦ;refine ⟨by rw [dEds_len,hEl],⟨by simp [dEds_len,hEl,maxLen];omega,by simp [dEds_len,hEl];omega⟩,?_⟩
   have hnl2:(if p.bare then [] else ndsT X.lev ⟨levels,order,types,.mk rh rp⟩ (.mk uh us) n').length=if p.bare then 0 else (Ty.mk uh us).nn:=by
    split
    ·rfl
    ·exact hlen1
   have hidx2:n + 1 + (K.length + (if p.bare then 0 else (Ty.mk uh us).nn))=n' + if p.bare then 0 else (Ty.mk uh us).nn:=by rw [hn'];omega
   refine ⟨ndBSt ⟨levels,order,types,.mk rh rp⟩ ord lc m n h ps (n' + (if p.bare then [] else ndsT X.lev ⟨levels,order,types,.mk rh rp⟩ (.mk uh us) n').length) (base' ++ (dNds (if p.bare then [] else ndsT X.lev ⟨levels,order,types,.mk rh rp⟩ (.mk uh us) n')).flatten) (Es ++ [mkEd X.lev p (toF ⟨levels,order,types,.mk rh rp⟩ p (.mk uh us) n')]) h.names.length (e + 1) (e + 1),(weak_b 3 rfl (by repeat' (first | exact rfl | exact we_rfl rfl | exact we_int (nxt hlt (by omega)) | exact we_sl (dEds_snoc _ _) rfl | refine ⟨_,_,rfl,?_,?_⟩)) rfl rfl rfl (by repeat' (first | exact trivial | exact we_rfl rfl | exact we_int (nxt hlt (by omega)) | exact we_sl (dEds_snoc _ _) rfl | refine ⟨⟨_,rfl,?_⟩,?_⟩))),
    ps.len - (e + 1),by omega,e + 1,_,_,_,K ++ (if p.bare then [] else ndsT X.lev ⟨levels,order,types,.mk rh rp⟩ (.mk uh us) n'),rfl,by omega,?_,?_,?_,?_,?_,?_,hk2,rfl⟩
   ·rw [List.length_append,hn'];omega
   ·rw [hb'];simp [dNds]
   ·simp [hEl]
   ·rw [List.length_append,hnl2,List.append_assoc,hidx2];exact hK
   ·rw [List.length_append,hnl2,List.append_assoc,hidx2];exact hEs
   ·rw [List.length_append,hnl2];omega
  ·have hge:e=ps.len:=by have:=hL;simp [dPts_len] at this;omega
   subst hge;rw [Pts.drop_len] at hK hEs;simp only [ndsP,List.append_nil] at hK;simp only [edsP,List.append_nil] at hEs;have hKl:K.length=ps.nn:=by rw [hK,ndsP_len]
   have hrl2:(List.replicate n' ([]:List DV)).length=n':=List.length_replicate;refine own_store (kt:=0) ⟨rfl,rfl⟩ ⟨rfl,rfl,rfl⟩ ⟨rfl,rfl,rfl⟩ rfl rfl rfl rfl rfl rfl rfl rfl rfl rfl rfl hrl2 ⟨by omega,by omega⟩ (by decide) ?_;have hnl3:n + (ndsT X.lev ⟨levels,order,types,.mk rh rp⟩ (.mk h ps) n).length=n':=by rw [hnds,List.length_cons,<- hK,hn'];omega
   have hrow:base'.set ((n:Int).toNat * 7 + 6) (.sl 10 (dEds Es) none)=base ++ (dNds (ndsT X.lev ⟨levels,order,types,.mk rh rp⟩ (.mk h ps) n)).flatten:=by
    rw [hb',show (n:Int).toNat=n by omega,nd0_set hbl,hnds,hEs,hK];rfl
   refine ⟨.v (.int .i64 n),[bC ⟨levels,order,types,.mk rh rp⟩ (.pt lc 0) (.loc 1 0) m,pCn ⟨levels,order,types,.mk rh rp⟩ ord lc n'],ax,aL,?_,?_,?_⟩
   ·rw [hidx]
   ·rw [hnl3]
   ·rw [hnl3,<- hrow];rfl
end Go.Proofs.YtadhpeooehkklaaGreat
namespace Go.Proofs.YtadhpeooehkklaaGreat
namespace Dv
open Go Go.RowKit
section
variable {X:Ctx} {st:St} {k:List It} {E:En} {a:Act} {w:World} {ops:Array Oper} {W:Nat->Bool} {C:World->Prop} {Q:Act->World->Prop} {i:Nat} {r:List Nat} {o:Oper}
theorem wanted_none (hg:o.guard=none):Region.wanted o (yielded ops a.tmps)=true:=by
 unfold Region.wanted;rw [hg]
theorem rl_mask {bx:List (List DV)} {wr:World} (h:Rel X E st a w) (hE:EnvM E bx wr) (hC:∀ w',C w' -> CC E bx wr w'):Rl E bx C st.sl a where
 tm:=h.tm
 bxs:=fun i cs hi=>by
  by_cases hne:cs=[]
  ·subst hne;have hlt:i < E.β.length:=by rw [hE.len];exact (gS hi).1
   exact ⟨_,[],gE hlt,⟨rvL_nil _,by simp⟩,fun w' _ j u hj=>by simp at hj⟩
  ·obtain ⟨b,ty,arr,hb,hw,hc⟩:=hE.bxs i cs hi hne;exact ⟨b,arr,hb,hc,fun w' h' j u hj=>by rw [cell_blk (((hC w' h').o i b cs hb hi hne).trans hw)];simpa using hj⟩
 cc:=fun x v hx w' h'=>(hC w' h').c x v hx
theorem em_mask {bx:List (List DV)} (h:Env E bx w) (m:List Nat):EnvM E (maskL m 0 bx) w:=⟨by rw [maskL_len];exact h.len,fun i cs hi hne=>by
 rcases maskL_get m _ _ _ _ hi with h1 | h1
 ·exact (hne h1).elim
 ·exact h.bxs i cs h1⟩
theorem runT_np (hR:Rel X E st a w) (ho:ops[i]? = some o) (hE:isE o.op=false) (hL:isL o.op=false) (hg:o.guard=none) {s:DV} (hs:pureT X.P X.T ⟨st.sl,[],[]⟩ [] o.op=some s) (hd:okD X.nt st.sl o.dst=true)
  (hk:∀ a',Rel X E (st.put o.dst ⟨[],s⟩) a' w->runT X.P ops W C Q r a' w):runT X.P ops W C Q (i :: r) a w:=by
 have hrl:Rl E [] (fun _=>False) st.sl a:=⟨hR.tm,fun i cs hi=>by simp at hi,fun _ _ _ _ h=>h.elim⟩;obtain ⟨v,hv,hrun⟩:=pure_sound (st:=⟨st.sl,[],[]⟩) X.hT hrl (holds_nil _) hs;simp only [runT,ho,hE,Bool.false_eq_true,if_false];exact ⟨v,.inl ⟨wanted_none hg,fun w' _=>hrun w' fun h=>by rw [hL] at h;cases h⟩,fun h=>(by rw [hL] at h;cases h),hk _ (put_rel hR hd s v hv)⟩
theorem runT_lo (hR:Rel X E st a w) (ho:ops[i]? = some o) {bx:List (List DV)} (hrl:Rl E bx C st.sl a) (hCw:C w) (hE:isE o.op=false) (hg:o.guard=none) {s:DV} (hs:pureT X.P X.T ⟨st.sl,bx,[]⟩ [] o.op=some s) (hd:okD X.nt st.sl o.dst=true)
  (hk:∀ a',Rel X E (st.put o.dst ⟨[],s⟩) a' w->runT X.P ops W C Q r a' w):runT X.P ops W C Q (i :: r) a w:=by
 obtain ⟨v,hv,hrun⟩:=pure_sound (st:=⟨st.sl,bx,[]⟩) X.hT hrl (holds_nil _) hs;simp only [runT,ho,hE,Bool.false_eq_true,if_false];exact ⟨v,.inl ⟨wanted_none hg,fun w' h=>hrun w' h⟩,fun _=>hCw,hk _ (put_rel hR hd s v hv)⟩
theorem runT_ld (hR:Rel X E st a w) (ho:ops[i]? = some o) {t x d:Nat} {b p j:Nat} {n:Nat} {kd:TK} {z:List Value} (hb:E.β[j]? = some b) (hop:o.op = .load t (.tmp x)) (hdst:o.dst=some d) {i2 off2 b2:Nat} (hb2:E.β[i2]? = some b2) (hx:rv st [] (.tmp x)=some (.loc i2 p)) (hT:X.T.find t=some ⟨n,false,kd,z⟩)
  (hC:∀ w',C w' -> w'.cell? ⟨b2,p,none⟩=some (.pointer (some ⟨b,off2,none⟩))) (hCw:C w) (hg:o.guard=none) (hd:okD X.nt st.sl (some d)=true)
  (hk:∀ a',Rel X E ⟨(d,⟨[],.loc j off2⟩) :: st.sl,st.bx,st.tk⟩ a' w->runT X.P ops W C Q r a' w):runT X.P ops W C Q (i :: r) a w:=by
 have hE:isE o.op=false:=by rw [hop];all_goals rfl
 simp only [runT,ho,hE,Bool.false_eq_true,if_false];have hv:Rv E (.loc j off2) (.pointer (some ⟨b,off2,none⟩)):=by unfold Rv;exact ⟨b,hb,rfl⟩
 refine ⟨.pointer (some ⟨b,off2,none⟩),.inl ⟨wanted_none hg,fun w' h=>?_⟩,fun _=>hCw,?_⟩
 ·have hC':=hC w' (h (by rw [hop];rfl));have e1:=sl_val hR.rl hx;unfold Rv at e1;obtain ⟨b3,hb3,e1⟩:=e1;rw [hb2] at hb3;simp only [oI] at hb3;subst hb3;have hag:=(te_parts X.hT hT).2.1
  have hl:(loadVar t ⟨b2,p,none⟩).run X.P w' = .ok (.pointer (some ⟨b,off2,none⟩)) w':=by
   simp [loadVar,run_isAgg' hag,hC']
  simp only [execOp,hop,e1,Sem.run_bind,Instr.loadAt,Instr.sureAddr,Sem.run_pure,Result.andThen_ok,hl]
 ·rw [hdst];exact hk _ (put_rel hR hd (.loc j off2) _ hv)
theorem runT_call (hR:Rel X E st a w) (ho:ops[i]? = some o) {dst:Option Nat} {f:Operand} {args:Array Operand} {tys:Array TypeId} (hop:o.op = .call ⟨.value f,args,tys⟩) (hdst:o.dst=dst) (hg:o.guard=none) {g:FuncId} {ds:List DV} (hf:rv st [] f=some (.fn g [] [])) (hl:argsV st [] args.toList=some ds) (hen:Enters X.P g)
  {K:Value->World->Prop} (hc:∀ vs,RvL E ds vs->Calls X.P g vs.toArray w fun e w'=>∃ v,e = .returned v/\K v w') (hk:∀ v w',K v w' -> (W i=false->C w->C w')/\runT X.P ops W C Q r (a.put dst v) w'):runT X.P ops W C Q (i :: r) a w:=by
 have hE:isE o.op=true:=by rw [hop];all_goals rfl
 have hwn:=wanted_none (ops:=ops) (a:=a) hg;have hrl:=hR.rl;have e1:=sl_val hrl hf;unfold Rv at e1;obtain ⟨l1,r1,e1,hl1,hr1⟩:=e1;simp only [RvL] at hl1 hr1;subst hl1 hr1;have hargs:=args_sound hrl (holds_nil _) _ _ hl;simp only [runT,ho,hE,if_true,stepX,hwn];subst hdst;obtain ⟨dst,op,ty,pos,after,gu⟩:=o;simp only at hop;subst hop
 have hr:(execOp a.eval ⟨dst,.call ⟨.value f,args,tys⟩,ty,pos,after,gu⟩).run X.P w = .ok (.enter g (args.toList.map a.eval).toArray) w:=by
  have e3:(([]:List Value).toArray ++ args.map a.eval ++ ([]:List Value).toArray)=(args.toList.map a.eval).toArray:=by apply Array.ext';simp
  simp only [execOp,resolve,e1,Deferred.ofValue,Sem.run_bind,Sem.run_pure,Result.andThen_ok,invoke,e3];exact hen _ _
 unfold wq;rw [hr];refine (hc _ hargs).mono ?_;rintro e w' ⟨v,rfl,hK⟩;exact ⟨v,rfl,hk v w' hK⟩
theorem runT_os (hR:Rel X E st a w) (ho:ops[i]? = some o) {dst:Option Nat} {f:Operand} {args:Array Operand} {tys:Array TypeId} (hop:o.op = .call ⟨.value f,args,tys⟩) (hdst:o.dst=dst) (hg:o.guard=none) {g:FuncId} {ds ds':List DV} (hf:rv st [] f=some (.fn g [] [])) (hl:argsV st [] args.toList=some ds) (hen:Enters X.P g)
  {os:List (List DV)} (n1 m1:Nat) (hn1:Nat.ble n1 st.bx.length=true) (hm1:Nat.ble m1 st.tk.length=true) (hos:CcLL [] n1 n1 m1 os (st.bx.take n1)) (ha:CcL [] n1 n1 m1 ds' ds)
  {Φ:DV->List (List DV)->List TkE->Prop} (hc:Ev X.P g ds' os (st.tk.take m1) Φ) (hst:X.still=false) (hX:X.bt=[])
  (hk:∀ v r' os' tk' E' w',Φ r' os' tk' -> os'.length=n1->tk'.length=m1->Rel X E' ⟨st.sl,os' ++ st.bx.drop n1,tk' ++ st.tk.drop m1⟩ a w' -> Rv E' r' v->Ext E E' -> E'.β=E.β->(∀ (i:Nat) b,n1<=i->E.β[i]? = some b->w'.heap[b]? = w.heap[b]?) ->
   (W i=false->C w->C w')/\runT X.P ops W C Q r (a.put dst v) w'):runT X.P ops W C Q (i :: r) a w:=by
 refine runT_call hR ho hop hdst hg hf hl hen (K:=fun v w'=>∃ r' os' tk' E',Φ r' os' tk' /\ os'.length=n1/\tk'.length=m1/\Rel X E' ⟨st.sl,os' ++ st.bx.drop n1,tk' ++ st.tk.drop m1⟩ a w' /\ Rv E' r' v/\Ext E E' /\ E'.β=E.β/\∀ (i:Nat) b,n1<=i->E.β[i]? = some b->w'.heap[b]? = w.heap[b]?)
  (fun vs hv=>?_) ?_
 ·refine (calls_os n1 m1 hn1 hm1 hos ha hc hst hX hR hv).mono ?_;rintro e w' ⟨v,r',os',tk',E',rfl,h⟩;exact ⟨v,rfl,r',os',tk',E',h⟩
 ·rintro v w' ⟨r',os',tk',E',h1,h2,h3,h4,h5,h6,h7,h8⟩;exact hk v r' os' tk' E' w' h1 h2 h3 h4 h5 h6 h7 h8
theorem own_obj (h:Rel X E st a w) (j o k:Nat) {n ty e:Nat} {ocs:List DV} {es ns:List (List DV)} (hq:st.tk[k]? = some ⟨n,ty,e,some ns.flatten⟩) (hns:∀ x∈ns,x.length=e) (hnl:ns.length=n) (hj:st.bx[j]? = some ocs) (ho:ocs[o]? = some (.sl 0 es (some k))) (hes:es.length=n) :
  ∃ E',Rel X E' ⟨st.sl,st.bx.set j (ocs.set o (.sl e ns none)),st.tk.set k ⟨n,ty,e,none⟩⟩ a w:=wk_own hq hns hnl hj ho hes E a w h
theorem runT_last (hR:Rel X E st a w) (ho:ops[i]? = some o) (hE:isE o.op=true) (hg:o.guard=none) (hW:W i=true) (hd:okD X.nt st.sl o.dst=true) {p:Prop} (hp:effC X st o (go X 4000 k)=some p) (h:p):runT X.P ops W C (fun a w=>kq X k .normal a w) [i] a w:=by
 have hwn:=wanted_none (ops:=ops) (a:=a) hg;simp only [runT,ho,hE,if_true,stepX,hwn];refine wq_mono ?_ (effC_sound hd hR hp h);rintro a' w' ⟨st',E',hgo,hr,_⟩;exact ⟨(fun h=>by rw [hW] at h;cases h),go_sound 4000 _ _ hgo _ _ _ hr⟩
mutual
theorem renD_renD {i j:Nat}:∀ d:DV,renD (swp i j) (renD (swp i j) d)=d
 | .v x=>rfl
 | .ud=>rfl
 | .agg l=>by simp only [renD,renL_renL]
 | .tup l=>by simp only [renD,renL_renL]
 | .sl e es tk=>rfl
 | .pt cs o=>rfl
 | .loc k o=>by simp only [renD,swp_swp]
 | .el k o=>by simp only [renD,swp_swp]
 | .ms k e o l c=>by simp only [renD,swp_swp]
 | .fn g l r=>by simp only [renD,renL_renL]
 | .ifc t x=>by simp only [renD,renD_renD]
theorem renL_renL {i j:Nat}:∀ l:List DV,renL (swp i j) (renL (swp i j) l)=l
 | []=>rfl
 | d :: r=>by simp only [renL,renD_renD,renL_renL]
end
theorem renS_renS {i j:Nat}:∀ l:List (Nat × Sl),renS (swp i j) (renS (swp i j) l)=l
 | []=>rfl
 | (k,⟨gs,s⟩) :: r=>by simp only [renS,renD_renD,renS_renS]
theorem renO_renO {i j:Nat}:∀ l:List (List DV),renO (swp i j) (renO (swp i j) l)=l
 | []=>rfl
 | c :: r=>by simp only [renO,renL_renL,renO_renO]
theorem renO_swL {i j:Nat} (f:Nat->Nat) (l:List (List DV)) (hi:i < l.length) (hj:j < l.length):renO f (swL i j l)=swL i j (renO f l):=by
 apply List.ext_getElem?;intro k;rw [renO_get,swL_get hi hj,swL_get (by rw [renO_length];exact hi) (by rw [renO_length];exact hj),renO_get]
theorem renSt_renSt {i j:Nat} {S:St} (hi:i < S.bx.length) (hj:j < S.bx.length):renSt i j (renSt i j S)=S:=by
 obtain ⟨sl,bx,tk⟩:=S;simp only [renSt,renS_renS];rw [renO_swL _ _ (by rw [renO_length];exact hi) (by rw [renO_length];exact hj),renO_renO];congr 1;apply List.ext_getElem?;intro k;rw [swL_get (by rw [swL_length];exact hi) (by rw [swL_length];exact hj),swL_get hi hj,swp_swp]
theorem CallG.ren2 {f:FuncId} {args:List DV} {dst:Option Nat} (i j:Nat) (hi0:Nat.ble X.n0 i=true) (hj0:Nat.ble X.n0 j=true) (hi:Nat.blt i st.bx.length=true) (hj:Nat.blt j st.bx.length=true)
  (h:CallG X f (renL (swp i j) args) dst k (renSt i j st)) (hX:X.bt=[]:=by exact rfl):CallG X f args dst k st:=by
 have hi':=hi;have hj':=hj;simp only [Nat.blt_eq] at hi' hj';have hl:(renSt i j st).bx.length=st.bx.length:=by simp only [renSt,swL_length,renO_length]
 exact CallG.ren i j (renSt_renSt hi' hj').symm (renL_renL args).symm hi0 hj0 (by rw [hl];exact hi) (by rw [hl];exact hj) h hX
theorem equalIn_sl {P:Program} {t e:TypeId} (hu:P.underlying t=some (.slice e)) (d:Nat) (x:Option Addr) (n c:Nat) (w:World):(Op.equalIn (d + 1) t (.slice x n c) (.slice none 0 0)).run P w = .ok x.isNone w:=by
 cases x<;>simp [Op.equalIn,run_underlying hu]
theorem equal_sl {P:Program} {t e:TypeId} (hu:P.underlying t=some (.slice e)) (x:Option Addr) (n c:Nat) (w:World):(Op.equal t (.slice x n c) (.slice none 0 0)).run P w = .ok x.isNone w:=equalIn_sl hu 9999 x n c w
theorem op_nil {t d e:Nat} {x:Operand} {es:List (List DV)} {tk:Option Nat} {n et e' by':Nat} {bb:Bool} {z:List Value} (hop:∃ t',o.op = .binOp .eql t x (.const (.slice none 0 0)) t') (hdst:o.dst=some d) (hx:rv st [] x=some (.sl e es tk)) (hT:X.T.find t=some ⟨n,bb,.sl et e' by',z⟩) (hd:okD X.nt st.sl (some d)=true)
  (hk:∀ b:Bool,(es ≠ []->b=false)->go X 4000 k ⟨(d,⟨[],.v (.bool b)⟩) :: st.sl,st.bx,st.tk⟩):OpG X o k st:=by
 intro E a w h;obtain ⟨t',hop⟩:=hop;have e1:=sl_val h.rl hx;unfold Rv at e1;obtain ⟨b,m,cap,e1,⟨rfl,_⟩,hr,_⟩:=e1;obtain ⟨hu,_⟩:=und_sl X.hT hT;have heq:=equal_sl hu b es.length cap w
 have hrun:(execOp a.eval o).run X.P w = .ok (.value (.bool b.isNone)) w:=by
  have hc:a.eval (.const (.slice none 0 0)) = .slice none 0 0:=rfl;simp [execOp,hop,e1,hc,eqGuard,binOp,heq]
 refine wp_value hrun ?_;rw [hdst];refine go_sound 4000 _ _ (hk b.isNone fun hne=>?_) E _ w (put_rel h hd (.v (.bool b.isNone)) _ (by unfold Rv;exact ⟨rfl,rfl⟩));have:=okA_eq (hr hne).1;rw [this];rfl
theorem emp_s {t d et e by' n:Nat} {bb:Bool} {z:List Value} (hop:o.op = .buildSlice t 0 #[]) (hdst:o.dst=some d) (hT:X.T.find t=some ⟨n,bb,.sl et e by',z⟩) (hd:okD X.nt st.sl (some d)=true) (hst:X.still=false:=by exact rfl) (hX:X.bt=[]:=by exact rfl) :
  OpS X o st ⟨(d,⟨[],.sl e [] (some st.tk.length)⟩) :: st.sl,st.bx,st.tk ++ [⟨0,et,e,none⟩]⟩:=by
 intro E a w h;obtain ⟨hu,ii,zv,hi2,hz,hsz,hby,hzs⟩:=und_sl X.hT hT;have hsz':szOf X.P et=some e:=by rw [size_of_info hi2,hsz]
 have hrun:(execOp a.eval o).run X.P w = .ok (.value (.slice (some ⟨w.heap.size,0,none⟩) 0 0)) (w.alloc (.cells #[] et)):=by
  have h1:(Instr.buildSlice t 0 #[]).run X.P w = .ok (.slice (some ⟨w.heap.size,0,none⟩) 0 0) (w.alloc (.cells #[] et)):=by
   have h0:Array.range 0 = #[]:=rfl;simp [Instr.buildSlice,run_underlying hu,run_sizeOf' hsz',Instr.fill,newRow,h0]
  simp only [execOp,hop,List.map_toArray,List.map_nil,Sem.run_bind,h1,Result.andThen_ok,Sem.run_pure]
 refine wq_value hrun ?_;rw [hdst];have hk1:=h.env.keep (w':=w.alloc (.cells #[] et)) fun i hi=>alloc_old w _ hi
 let E2:En:=⟨E.c,E.β,E.tk ++ [⟨0,et,e,none⟩],E.τ ++ [.slice (some ⟨w.heap.size,0,none⟩) 0 0]⟩
 have hext:Ext E E2:=⟨fun _ _ h=>h,fun _ _ h=>h,fun k q' hk=>by
  have hlt:=(gS hk).1;refine ⟨q',by show (E.tk ++ _)[k]? = _;rw [List.getElem?_append_left hlt];exact hk,.inl ⟨rfl,?_⟩⟩;show (E.τ ++ _)[k]? = _
  rw [List.getElem?_append_left (by rw [h.env.tl];exact hlt)]⟩
 have hτ:∀ (k:Nat) y,E2.τ[k]? = some y->(k < E.τ.length/\E.τ[k]? = some y)∨(k=E.τ.length/\y = .slice (some ⟨w.heap.size,0,none⟩) 0 0):=fun k y hy=>by
  have hy:(E.τ ++ [Value.slice (some ⟨w.heap.size,0,none⟩) 0 0])[k]? = some y:=hy;rw [List.getElem?_append] at hy;split at hy
  ·rename_i hk;exact .inl ⟨hk,hy⟩
  ·rename_i hk
   have h0:k - E.τ.length=0:=by
    rcases Nat.eq_zero_or_pos (k - E.τ.length) with h0 | h0
    ·exact h0
    ·rw [List.getElem?_eq_none (by simp;omega)] at hy;cases hy
   rw [h0] at hy;simp only [List.getElem?_cons_zero,oI] at hy;exact .inr ⟨by omega,hy.symm⟩
 have hown:∀ (k:Nat) y g,E.τ[k]? = some y->y.ownBlock=some g->g < w.heap.size:=fun k y g hy hg=>(h.env.own (mG hy) hg).1
 have hrel:Rel X E2 ⟨st.sl,st.bx,st.tk ++ [⟨0,et,e,none⟩]⟩ a (w.alloc (.cells #[] et)):=by
  refine rel_env h hext ?_ (by show E.tk ++ _=_;rw [h.tk]) ?_ (h.fr.alloc _) (noSt hst) (.nil hX)
  ·exact {
    len:=h.env.len
    tl:=by show (E.τ ++ _).length=(E.tk ++ _).length;simp [h.env.tl]
    bxs:=fun i cs hi=>by
     obtain ⟨b,t,arr,hb,hw,hc⟩:=hk1.bxs i cs hi;exact ⟨b,t,arr,hb,hw,hc.mono hext⟩
    inj:=h.env.inj
    sub:=hk1.sub
    pc:=h.env.pc
    tks:=fun k q' y hkq hy=>by
     rcases hτ k y hy with ⟨hlt,hy'⟩ | ⟨rfl,rfl⟩
     ·have hk':(E.tk ++ [⟨0,et,e,none⟩])[k]? = some q':=hkq;rw [List.getElem?_append_left (by rw [<- h.env.tl];exact hlt)] at hk';exact hk1.tks k q' y hk' hy'
     ·have hk':(E.tk ++ [⟨0,et,e,none⟩])[E.τ.length]? = some q':=hkq;rw [List.getElem?_append_right (by rw [h.env.tl];exact Nat.le_refl _),h.env.tl] at hk';simp only [Nat.sub_self,List.getElem?_cons_zero,oI] at hk';subst hk';refine .inr ⟨w.heap.size,0,#[],rfl,alloc_new w _,⟨by simp,OwnAt.none rfl⟩,Nat.le_refl _,Nat.zero_le _,fun hm=>?_,fun x v hx hxg=>?_⟩
      ·have:=h.env.block_lt hm;omega
      ·have:=World.block_lt_of_cell? w x (h.env.sub x v hx);omega
    tkd:=fun k k' y y' g hkk hy hy' hg hg'=>by
     rcases hτ k y hy with ⟨_,hy1⟩ | ⟨rfl,rfl⟩
     ·rcases hτ k' y' hy' with ⟨_,hy2⟩ | ⟨rfl,rfl⟩
      ·exact h.env.tkd k k' y y' g hkk hy1 hy2 hg hg'
      ·have:=hown k y g hy1 hg;simp only [Value.ownBlock,oI] at hg';omega
     ·rcases hτ k' y' hy' with ⟨_,hy2⟩ | ⟨rfl,rfl⟩
      ·have:=hown k' y' g hy2 hg';simp only [Value.ownBlock,oI] at hg;omega
      ·exact hkk rfl }
  ·exact {
    c:=h.nw.c
    cn:=h.nw.cn
    β:=h.nw.β
    tk:=fun j q0 y0 hq0 hy0=>by
     obtain ⟨q',y',h1,h2,h3⟩:=h.nw.tk j q0 y0 hq0 hy0;exact ⟨q',y',by show (E.tk ++ _)[j]? = _;rw [List.getElem?_append_left (gS h1).1];exact h1,by show (E.τ ++ _)[j]? = _;rw [List.getElem?_append_left (gS h2).1];exact h2,h3⟩
    tn:=fun j y g hj hy hg=>by
     rcases hτ j y hy with ⟨_,hy1⟩ | ⟨_,rfl⟩
     ·exact h.nw.tn j y g hj hy1 hg
     ·simp only [Value.ownBlock,oI] at hg;have:=h.fr.size;omega
    l0:=h.nw.l0 }
 refine ⟨E2,put_rel hrel hd (.sl e [] (some st.tk.length)) _ ?_,hext,⟨[],by simp [E2]⟩,fun i b hb _=>alloc_old w _ (h.env.block_lt (mG hb))⟩;unfold Rv;refine ⟨_,0,0,rfl,⟨rfl,Nat.le_refl _⟩,fun hn=>(hn rfl).elim,fun k' hk'=>?_⟩;cases hk';refine ⟨⟨0,et,e,none⟩,?_,Nat.le_refl _,fun _=>?_⟩
 ·show (E.tk ++ _)[st.tk.length]? = _;rw [h.tk];simp
 ·show (E.τ ++ _)[st.tk.length]? = _;rw [<- h.tk,<- h.env.tl];simp
theorem op_empty {t d et e by' n:Nat} {bb:Bool} {z:List Value} (hop:o.op = .buildSlice t 0 #[]) (hdst:o.dst=some d) (hT:X.T.find t=some ⟨n,bb,.sl et e by',z⟩) (hd:okD X.nt st.sl (some d)=true) (hst:X.still=false:=by exact rfl) (hX:X.bt=[]:=by exact rfl)
  (hk:go X 4000 k ⟨(d,⟨[],.sl e [] (some st.tk.length)⟩) :: st.sl,st.bx,st.tk ++ [⟨0,et,e,none⟩]⟩):OpG X o k st:=(emp_s hop hdst hT hd hst hX).g hk
theorem Wk.frz {st':St} (N:Nat) (hN:Nat.ble X.n0 N=true) (hNl:Nat.ble N st.bx.length=true) (hbx:CcLL st.bx N N st.tk.length st'.bx (st.bx.take N)) (htk:st'.tk=st.tk) (hsl:frzS st.bx N st.tk.length st.sl st'.sl):Wk X st st':=fun _ _ _ h=>
 frz_rel h N (nL hN) (nL hNl) hbx htk hsl
end
end Dv
end Go.Proofs.YtadhpeooehkklaaGreat
set_option maxRecDepth 100000
namespace Go.Proofs.YtadhpeooehkklaaGreat
open Go Go.RowKit Dv Tryz
theorem latF_parts {l:List Wd} {o:List (Wd × Wd)} (h:(latF l o).1=0):(manyF l o).1=0/\(enumL l 0 l).1=0/\(numF (nmTx l) o).1=0/\firstN (loopP l.length (leqN l.length (numL (nmTx l) o))) l.length=none/\firstN (bndP (leqN l.length (numL (nmTx l) o)) l.length) l.length=none:=by
 unfold latF at h;split at h
 ·rename_i h1;exact (h1 h).elim
 ·rename_i h1;split at h
  ·rename_i h2;exact (h2 h).elim
  ·rename_i h2;split at h
   ·rename_i h3;exact (h3 h).elim
   ·rename_i h3;refine ⟨by simpa using h1,by simpa using h2,by simpa using h3,?_⟩;split at h
    ·cases h
    ·rename_i h4;refine ⟨h4,?_⟩;split at h
     ·cases h
     ·rename_i h5;exact h5
theorem firstN_none_iff {p:Nat->Bool} {n:Nat} (h:firstN p n=none):∀ a,a < n->p a=false:=by
 intro a ha;unfold firstN at h;rw [List.find?_eq_none] at h;have:=h a (by simpa using ha);simpa using this
theorem latOK_of {l:List Wd} {o:List (Wd × Wd)} (h:(latF l o).1=0):LatOK (leqN l.length (numL (nmTx l) o)) l.length/\l.length<=32:=by
 obtain ⟨h1,h2,h3,h4,h5⟩:=latF_parts h;have hP:=numF_ok h3;rw [nmTx_len] at hP
 have hl0:l ≠ []:=by
  rintro rfl;simp [manyF] at h1
 have h32:l.length<=32:=by
  rcases Nat.lt_or_ge 32 l.length with h | h
  ·simp [manyF,hl0,h] at h1
  ·exact h
 have hlk:∀ a b,a < l.length->b < l.length->lackB (leqN l.length (numL (nmTx l) o)) l.length a b=false:=by
  have key:∀ a b,a<=b->b < l.length->lackB (leqN l.length (numL (nmTx l) o)) l.length a b=false:=fun a b hab hb=>by
   have:=firstN_none_iff h5 b hb;unfold bndP at this;rw [List.any_eq_false] at this;have:=this a (by simp;omega);simpa using this
  intro a b ha hb;rcases Nat.le_total a b with h | h
  ·exact key a b h hb
  ·have:=key b a h ha;unfold lackB at this ⊢;rw [joinN_comm,meetN_comm];exact this
 refine ⟨{
  pos:=List.length_pos_iff.2 hl0
  rfl':=fun a ha=>leqN_refl hP ha
  tr:=fun a b c ha hb hc=>leqN_trans hP ha hb hc
  anti:=fun a b ha hb h6 h7=>by
   have:=firstN_none_iff h4 a ha;unfold loopP at this;rw [List.any_eq_false] at this;have:=this b (by simpa using hb);simp only [Bool.and_eq_true,decide_eq_true_eq,not_and] at this;rcases Nat.lt_trichotomy a b with h8 | h8 | h8
   ·exact (this (by omega) h6 h7).elim
   ·exact h8
   ·exact (this (by omega) h6 h7).elim
  jn:=fun a b ha hb=>by
   have:=hlk a b ha hb;unfold lackB at this;simp only [Bool.or_eq_false_iff,Option.isNone_eq_false_iff] at this;exact Option.isSome_iff_exists.1 this.1
  mt:=fun a b ha hb=>by
   have:=hlk a b ha hb;unfold lackB at this;simp only [Bool.or_eq_false_iff,Option.isNone_eq_false_iff] at this
   exact Option.isSome_iff_exists.1 this.2 },h32⟩
def lxOf (s:Sch) (ord:List Nat) (js:List Int):Lx:=⟨nmTx s.levels,ord,closeR (relN s.levels.length (numL (nmTx s.levels) s.order)) s.levels.length,js,leqN s.levels.length (numL (nmTx s.levels) s.order)⟩
theorem lxOf_ok {s:Sch} {d:DV} (h:(latF s.levels s.order).1=0) (hd:LatD s.levels s.order d) (hw:s.levels.length<=1099511627776):∃ ord js,(lxOf s ord js).OK/\d=(lxOf s ord js).pd:=by
 obtain ⟨ord,js,hT,hol,hjl,hjm,rfl⟩:=hd;obtain ⟨h1,h2⟩:=latOK_of h;refine ⟨ord,js,⟨hT,by show ord.length<=_;omega,?_,?_,?_⟩,rfl⟩
 ·show LatOK _ (nmTx s.levels).length;rw [nmTx_len];exact h1
 ·show (nmTx s.levels).length<=32;rw [nmTx_len];exact h2
 ·show ∀ x y,x < (nmTx s.levels).length->y < (nmTx s.levels).length->JM _ (nmTx s.levels).length js x y;rw [nmTx_len];exact hjm
def levS (s:Sch) (l:List Wd):Int:=labN (leqN s.levels.length (numL (nmTx s.levels) s.order)) (nmTx s.levels) l
def knS (s:Sch) (t:Ty):Ft:=knT ⟨nmTx s.levels,[],[],[],fun _ _=>false⟩ (tL s) t
mutual
theorem knT_names {X Y:Lx} (h:X.names=Y.names) (L:List ByteArray):∀ t:Ty,knT X L t=knT Y L t
 | .mk h1 ps=>by rw [knT,knT,knP_names h L ps]
theorem knP_names {X Y:Lx} (h:X.names=Y.names) (L:List ByteArray):∀ ps:Pts,knP X L ps=knP Y L ps
 | .nil=>by rw [knP,knP]
 | .cons p t r=>by
  rw [knP,knP,knP_names h L r,knT_names h L t];unfold Lx.bad;rw [h]
end
theorem knS_eq (s:Sch) (ord:List Nat) (js:List Int) (t:Ty):knT (lxOf s ord js) (tL s) t=knS s t:=knT_names (X:=lxOf s ord js) (Y:=⟨nmTx s.levels,[],[],[],fun _ _=>false⟩) rfl (tL s) t
def resF (s:Sch):Ft:=
 if (latF s.levels s.order).1≠0 then latF s.levels s.order
 else if (namedF s).1≠0 then namedF s
 else if (eaR s.root s.types 0).1.1≠0 then (eaR s.root s.types 0).1
 else if (eaL (knS s) (knS s s.root) s.types).1≠0 then eaL (knS s) (knS s s.root) s.types
 else loopF s
def ndsAll (lev:List Wd->Int) (s:Sch):List (Wd × Ty)->Nat->List Nd
 | [],_=>[]
 | x :: r,k=>ndsT lev s x.2 k ++ ndsAll lev s r (k + x.2.nn)
def resN (s:Sch):List Nd:=ndsAll (levS s) s s.types 0
def resNds (s:Sch):List Nd:=resN s ++ ndsT (levS s) s s.root (resN s).length
def resRoot (s:Sch):Int:=idxF s s.root (resN s).length
def planC (s:Sch) (ord ord2:List Nat) (js:List Int):List DV:=
 [(lxOf s ord js).pd,.sl 7 (dNds (resNds s)) none,.v (.int .i64 (resRoot s)),.pt (dTbl (tL s) ord2) 0,.sl 1 (dInts (namedL s)) none]
def PlanD (s:Sch) (d:DV):Prop:=∃ ord ord2 js,(lxOf s ord js).OK/\TblOK (tL s) ord2/\ord2.length<=s.types.length/\d = .pt (planC s ord ord2 js) 0
def ResΦ (s:Sch) (r:DV) (_:List (List DV)) (_:List TkE):Prop:=
 if (resF s).1≠0 then r = .tup [.v (.pointer none),(resF s).d] else ∃ d,PlanD s d/\r = .tup [d,Ft.d (0,0)]
theorem resΦ_bad {s:Sch} {f:Ft} {os:List (List DV)} {tk:List TkE} (h:resF s=f) (hf:f.1≠0):ResΦ s (.tup [.v (.pointer none),f.d]) os tk:=by
 unfold ResΦ;rw [h,if_pos hf]
theorem resΦ_ok {s:Sch} {d:DV} {os:List (List DV)} {tk:List TkE} (h:(resF s).1=0) (hd:PlanD s d):ResΦ s (.tup [d,Ft.d (0,0)]) os tk:=by
 unfold ResΦ;rw [if_neg (by rw [h];simp)];exact ⟨d,hd,rfl⟩
theorem eaL_ok {F:Ty->Ft} {z:Ft}:∀ {l:List (Wd × Ty)},(eaL F z l).1=0->z.1=0/\∀ x∈l,(F x.2).1=0
 | [],h=>⟨h,fun x hx=>by cases hx⟩
 | x :: r,h=>by
  rw [eaL] at h;split at h
  ·rename_i h1;exact (h1 h).elim
  ·rename_i h1;obtain ⟨h2,h3⟩:=eaL_ok h;refine ⟨h2,fun y hy=>?_⟩;rcases List.mem_cons.1 hy with rfl | hy
   ·simpa using h1
   ·exact h3 y hy
theorem eaR_ok {z:Ty}:∀ {l:List (Wd × Ty)} {m:Int},0<=m->(eaR z l m).1.1=0->(wrong z 1 0).1.1=0/\(∀ x∈l,(wrong x.2 1 0).1.1=0)/\(eaR z l m).2=m + ((l.map fun x=>x.2.cnt).sum + z.cnt:Nat)/\(eaR z l m).2<=512
 | [],m,_,h=>by
  rw [eaR] at h ⊢;obtain ⟨h1,h2,h3,_⟩:=rightF_ok h;exact ⟨h3,(fun x hx=>by cases hx),(by simp [h1]),h2⟩
 | x :: r,m,hm,h=>by
  rw [eaR] at h ⊢;split at h
  ·rename_i h1;exact (h1 h).elim
  ·rename_i h1;rw [if_neg h1];obtain ⟨g1,g2,g3,_⟩:=rightF_ok (by simpa using h1);obtain ⟨h2,h3,h4,h5⟩:=eaR_ok (by omega) h;refine ⟨h2,fun y hy=>?_,(by rw [h4,g1];simp only [List.map_cons,List.sum_cons];omega),h5⟩;rcases List.mem_cons.1 hy with rfl | hy
   ·exact g3
   ·exact h3 y hy
theorem ndsAll_len (lev:List Wd->Int) (s:Sch):∀ (l:List (Wd × Ty)) (k:Nat),(ndsAll lev s l k).length=(l.map fun x=>x.2.nn).sum
 | [],_=>rfl
 | x :: r,k=>by simp only [ndsAll,List.length_append,ndsT_len,ndsAll_len lev s r,List.map_cons,List.sum_cons]
theorem sum_nn_cnt:∀ l:List (Wd × Ty),(l.map fun x=>x.2.nn).sum<=(l.map fun x=>x.2.cnt).sum
 | []=>Nat.le_refl _
 | x :: r=>by
  have:=x.2.nn_cnt;have:=sum_nn_cnt r;simp only [List.map_cons,List.sum_cons];omega
theorem dNds_flen:∀ l:List Nd,(dNds l).flatten.length=l.length * 7
 | []=>rfl
 | a :: r=>by
  have:=dNds_flen r;simp only [dNds,List.map_cons,List.flatten_cons,List.length_append,List.length_cons] at this ⊢;rw [this];simp only [dNd,List.length_cons,List.length_nil];omega
theorem knT_ref {X:Lx} {s:Sch} {t:Ty} (h:(knT X (tL s) t).1=0):refB s t=true:=by
 obtain ⟨hd,ps⟩:=t;have:=(knT_ok h).1;unfold refB;exact decide_eq_true this
theorem loopF_ok {s:Sch} (h:(loopF s).1=0):∀ i,i < s.types.length->∃ k,endI s (s.types.length + 1) i=some k:=by
 intro i hi;unfold loopF at h;split at h
 ·rename_i h1;have:=firstN_none_iff h1 i hi;simp only [Option.isNone_eq_false_iff] at this;exact Option.isSome_iff_exists.1 this
 ·cases h
abbrev bldSt (s:Sch) (ord:List Nat) (lc:List DV) (m:Int) (f1 f2:Int) (n:Nat) (base:List DV) (e:Nat):St:=
 ⟨[(1,⟨[],.loc 4 0⟩),(3,⟨[],.loc 3 0⟩),(6,⟨[],.loc 0 0⟩),(59,⟨[],.sl 11 (dNms s.types) none⟩),(60,⟨[],.v (.int .i64 (dNms s.types).length)⟩),(61,⟨[],.v (.int .i64 e)⟩)],
  [bC s (.pt lc 0) (.loc 1 0) m,pCn s ord lc n,[.v (.int .i64 f1),.v (.int .i64 f2)],[.v (.int .i64 0),.v (.int .i64 0)],dSch s],[rowN n base]⟩
theorem build_spec (s:Sch) (hs:s.wt<=1099511627776):Ev Tryz.prog 10 [.agg (dSch s)] [] [] (ResΦ s):=by
 have hF:=resF.eq_1 s;have hw:=hs;simp only [Sch.wt] at hw;have hwl:=wdsWt_len s.levels;have hwn:=nmsWt_len s.types;have hlb:=lbuild_spec s.levels s.order (by omega) (by omega);have hcal:=fun lc=>bcalled_spec s lc (by omega)
 have hbig:∀ t,(t=s.root∨∃ x∈s.types,t=x.2)->t.wt<=1099511627776:=fun t ht=>by
  rcases ht with rfl | ⟨x,hx,rfl⟩
  ·omega
  ·have:=nmsWt_mem hx;omega
 have heaR:=fun lc ord=>eachR_spec s lc ord 0 (by omega) (by omega) (by omega) hbig;have heaL:=fun (X:Lx) (hX:X.OK) (ord:List Nat) (hT:TblOK (tL s) ord) (hol:ord.length<=1099511627776) (m:Int)=>each_spec s X.pd (pC0 s ord (dLs X.names (dTbl X.names X.ord) X.rows X.js)) m (by omega) 40 en40 (knT X (tL s)) (fun t ht=>known_spec hX s ord (.pt (dLs X.names (dTbl X.names X.ord) X.rows X.js) 0) (.v (.slice none 0 0)) (.v (.int .i64 0)) (.v (.slice none 0 0)) m hT hol t.wt t (Nat.le_refl _) (hbig t ht))
 have hnamed:(namedF s).1=0->s.types.length<=64:=fun h=>by
  unfold namedF at h;split at h
  ·cases h
  ·omega
 have hLx:=fun d h hd=>@lxOf_ok s d h hd (by omega);have hloop:=fun (lat:DV) (ord:List Nat) (a b c e0:DV) (m:Int)=>loops_spec s lat ord a b c e0 m;have hplace:=fun (lc:List DV) (ord:List Nat) (m:Int)=>places_spec s lc ord m;have hnode:=fun (X:Lx) (hX:X.OK) (ord:List Nat) (m:Int) (hT:TblOK (tL s) ord) (hol:ord.length<=1099511627776) (t:Ty) (ht:t.wt<=1099511627776)=>node_spec hX s ord m hT hol t.wt t (Nat.le_refl _) ht;refine ev_go (P:=Tryz.prog) tt tt_ok 5000 85 [.tmp 2,.cell 3 45] Tryz.func10 rfl Tryz.ntmps10 rfl (nL rfl) (fun E9 w9 hn9 hm9=>?_);generalize hS:s=S at *;obtain ⟨levels,order,types,⟨rh,rp⟩⟩:=s;subst hS;refine call_e en36 rfl hlb ax (fun r hr=>?_);by_cases hL:(latF levels order).1≠0
 ·have hL':=hL;rw [if_pos (show (latF (Sch.mk levels order types (.mk rh rp)).levels (Sch.mk levels order types (.mk rh rp)).order).1≠0 from hL)] at hF;unfold LatΦ at hr;rw [if_pos (show (latF (Sch.mk levels order types (.mk rh rp)).levels (Sch.mk levels order types (.mk rh rp)).order).1≠0 from hL)] at hr;subst hr;refine br (fun h=>?_) (fun h=>?_)
  ·refine drawG_s mo (by decide +kernel) ?_;exact ⟨_,ax,resΦ_bad (os:=[]) (tk:=[]) hF hL⟩
  ·exfalso;simp at h;exact hL h
 unfold LatΦ at hr;rw [if_neg (show ¬ (latF (Sch.mk levels order types (.mk rh rp)).levels (Sch.mk levels order types (.mk rh rp)).order).1≠0 from hL)] at hF hr;obtain ⟨d,hd,rfl⟩:=hr;have hL0:(latF levels order).1=0:=by simpa using hL
 obtain ⟨ord,js,hX,rfl⟩:=hLx d hL0 hd;generalize hXX:lxOf ⟨levels,order,types,.mk rh rp⟩ ord js=X at hX;refine br (fun h=>?_) (fun _=>?_)
 ·exfalso;simp at h;exact hL h
 refine CallG.ren2 0 4 rfl rfl rfl rfl (CallG.ren2 1 3 rfl rfl rfl rfl ?_);refine call_os 2 0 en37 rfl rfl rfl aL aL (hcal (dLs X.names (dTbl X.names X.ord) X.rows X.js)) (fun r os' tk' hΦ h1 h2=>?_);obtain ⟨rfl,hord⟩:=hΦ;have h2:=List.eq_nil_of_length_eq_zero h2;subst h2;by_cases hNm:(namedF ⟨levels,order,types,.mk rh rp⟩).1≠0
 ·rw [if_pos hNm] at hF
  obtain ⟨a,b,rfl⟩:∃ a b,os'=[a,b]:=by
   match os',h1 with
   | [a,b],_=>exact ⟨a,b,rfl⟩
  refine br (fun h=>?_) (fun h=>?_)
  ·refine drawG_s mo (by decide +kernel) ?_;exact ⟨_,ax,resΦ_bad (os:=[]) (tk:=[]) hF hNm⟩
  ·exfalso;simp at h;exact hNm h
 rw [if_neg hNm] at hF;have hNm0:(namedF ⟨levels,order,types,.mk rh rp⟩).1=0:=by simpa using hNm
 have hl64:=hnamed hNm0;obtain ⟨ord2,hT,hol,rfl⟩:=hord hNm0;refine br (fun h=>?_) (fun _=>?_)
 ·exfalso;simp at h;exact hNm h
 refine call_os 2 0 en38 rfl rfl rfl aL aL (heaR (dLs X.names (dTbl X.names X.ord) X.rows X.js) ord2) (fun r os' tk' hΦ h1 h2=>?_);obtain ⟨rfl,rfl⟩:=hΦ;have h2:=List.eq_nil_of_length_eq_zero h2;subst h2;by_cases hR:(eaR (.mk rh rp) types 0).1.1≠0
 ·rw [if_pos (show (eaR (Sch.mk levels order types (.mk rh rp)).root (Sch.mk levels order types (.mk rh rp)).types 0).1.1≠0 from hR)] at hF;refine br (fun h=>?_) (fun h=>?_)
  ·refine drawG_s mo (by decide +kernel) ?_;exact ⟨_,ax,resΦ_bad (os:=[]) (tk:=[]) hF hR⟩
  ·exfalso;simp at h;exact hR h
 rw [if_neg (show ¬ (eaR (Sch.mk levels order types (.mk rh rp)).root (Sch.mk levels order types (.mk rh rp)).types 0).1.1≠0 from hR)] at hF;have hR0:(eaR (.mk rh rp) types 0).1.1=0:=by simpa using hR
 refine br (fun h=>?_) (fun _=>?_)
 ·exfalso;simp at h;exact hR h
 have hea:=heaL X hX ord2 hT (by have:types.length<=64:=hl64;have:ord2.length<=types.length:=hol;omega) (eaR (.mk rh rp) types 0).2;have hkeq:∀ t,knT X (tL ⟨levels,order,types,.mk rh rp⟩) t=knS ⟨levels,order,types,.mk rh rp⟩ t:=fun t=>by rw [<- hXX];exact knS_eq _ _ _ t
 have hfeq:eaL (knT X (tL ⟨levels,order,types,.mk rh rp⟩)) (knT X (tL ⟨levels,order,types,.mk rh rp⟩) (.mk rh rp)) types=eaL (knS ⟨levels,order,types,.mk rh rp⟩) (knS ⟨levels,order,types,.mk rh rp⟩ (.mk rh rp)) types:=by
  rw [show knT X (tL ⟨levels,order,types,.mk rh rp⟩)=knS ⟨levels,order,types,.mk rh rp⟩ from funext hkeq]
 refine call_bf en38 hea ax rfl rfl ?_;by_cases hK:(eaL (knS ⟨levels,order,types,.mk rh rp⟩) (knS ⟨levels,order,types,.mk rh rp⟩ (.mk rh rp)) types).1≠0
 ·rw [if_pos (show (eaL (knS ⟨levels,order,types,.mk rh rp⟩) (knS ⟨levels,order,types,.mk rh rp⟩ (Sch.mk levels order types (.mk rh rp)).root) (Sch.mk levels order types (.mk rh rp)).types).1≠0 from hK)] at hF;refine br (fun h=>?_) (fun h=>?_)
  ·refine drawG_s mo (by decide +kernel) ?_;refine ⟨.tup [.v (.pointer none),(eaL (knT X (tL ⟨levels,order,types,.mk rh rp⟩)) (knT X (tL ⟨levels,order,types,.mk rh rp⟩) (.mk rh rp)) types).d],ax,?_⟩;rw [hfeq];exact resΦ_bad (os:=[]) (tk:=[]) hF hK
  ·exfalso;simp only [hfeq] at h;simp at h;exact hK h
 rw [if_neg (show ¬ (eaL (knS ⟨levels,order,types,.mk rh rp⟩) (knS ⟨levels,order,types,.mk rh rp⟩ (Sch.mk levels order types (.mk rh rp)).root) (Sch.mk levels order types (.mk rh rp)).types).1≠0 from hK)] at hF;have hK0:(eaL (knS ⟨levels,order,types,.mk rh rp⟩) (knS ⟨levels,order,types,.mk rh rp⟩ (.mk rh rp)) types).1=0:=by simpa using hK
 refine br (fun h=>?_) (fun _=>?_)
 ·exfalso;have h:(!decide ((eaL (knT X (tL ⟨levels,order,types,.mk rh rp⟩)) (knT X (tL ⟨levels,order,types,.mk rh rp⟩) (.mk rh rp)) types).1=0))=true:=h;rw [hfeq,hK0] at h;simp at h
 have hw2:wdsWt levels + prsWt order + nmsWt types + (Ty.mk rh rp).wt<=1099511627776:=hw;have hnmw:nmsWt types<=1099511627776:=by omega
 obtain ⟨hkr,hkt⟩:=eaL_ok hK0;have hkr':(knT X (tL ⟨levels,order,types,.mk rh rp⟩) (.mk rh rp)).1=0:=by rw [hkeq];exact hkr
 have hkt':∀ x∈types,(knT X (tL ⟨levels,order,types,.mk rh rp⟩) x.2).1=0:=fun x hx=>by rw [hkeq];exact hkt x hx
 have href:∀ x∈types,refB ⟨levels,order,types,.mk rh rp⟩ x.2=true:=fun x hx=>knT_ref (hkt' x hx);have hol':ord2.length<=1099511627776:=by have:types.length<=64:=hl64;have:ord2.length<=types.length:=hol;omega
 refine call_bf en41 (hloop X.pd ord2 X.pd (.v (.slice none 0 0)) (.v (.int .i64 0)) (.v (.slice none 0 0)) (eaR (.mk rh rp) types 0).2 hT hol' hl64 href) ax rfl rfl ?_;by_cases hO:(loopF ⟨levels,order,types,.mk rh rp⟩).1≠0
 ·refine br (fun h=>?_) (fun h=>?_)
  ·refine drawG_s mo (by decide +kernel) ?_;exact ⟨_,ax,resΦ_bad (os:=[]) (tk:=[]) hF hO⟩
  ·exfalso;simp at h;exact hO h
 have hO0:(loopF ⟨levels,order,types,.mk rh rp⟩).1=0:=by simpa using hO
 have hF0:(resF ⟨levels,order,types,.mk rh rp⟩).1=0:=by rw [hF];exact hO0
 refine br (fun h=>?_) (fun _=>?_)
 ·exfalso;simp at h;exact hO h
 refine call_os 2 0 en42 rfl rfl rfl aL aL (hplace (dLs X.names (dTbl X.names X.ord) X.rows X.js) ord2 (eaR (.mk rh rp) types 0).2 hT hol' hl64 href hnmw (loopF_ok hO0)) (fun r os' tk' hΦ h1 h2=>?_);subst hΦ;have h2:=List.eq_nil_of_length_eq_zero h2;subst h2;clear hcal heaR heaL hloop hplace hea hlb;have hN:(dNms types).length=types.length:=dNms_len types;obtain ⟨hwr,hwt,hcm,hc512⟩:=eaR_ok (Int.le_refl 0) hR0;generalize (eaR (.mk rh rp) types 0).2=m at hcm hc512 ⊢
 refine loop_i (fun j st=>∃ (e n:Nat) (base:List DV) (N:List Nd),st=bldSt ⟨levels,order,types,.mk rh rp⟩ ord2 (dLs X.names (dTbl X.names X.ord) X.rows X.js) m (loopF ⟨levels,order,types,.mk rh rp⟩).1 (loopF ⟨levels,order,types,.mk rh rp⟩).2 n base e/\e<=types.length/\n=N.length/\base=(dNds N).flatten/\N ++ ndsAll (levS ⟨levels,order,types,.mk rh rp⟩) ⟨levels,order,types,.mk rh rp⟩ (types.drop e) n=resN ⟨levels,order,types,.mk rh rp⟩/\j=types.length - e) types.length
  (bldSt ⟨levels,order,types,.mk rh rp⟩ ord2 (dLs X.names (dTbl X.names X.ord) X.rows X.js) m (loopF ⟨levels,order,types,.mk rh rp⟩).1 (loopF ⟨levels,order,types,.mk rh rp⟩).2 0 [] 0) (weak_bt 5 ⟨0,105,7,some []⟩ rfl rfl rfl (by repeat' (first | exact rfl | exact we_rfl rfl | exact we_tok (Nat.le_refl _) rfl | exact we_tok (Nat.le_refl _) rfl | refine ⟨_,_,rfl,?_,?_⟩)) rfl rfl wTB) ⟨0,0,[],[],rfl,by omega,rfl,rfl,rfl,by omega⟩ ?_
 rintro j st ⟨e,n,base,N,rfl,he,hn,hbs,hNN,rfl⟩;have hl64':types.length<=64:=hl64;have hlev:X.lev=levS ⟨levels,order,types,.mk rh rp⟩:=by rw [<- hXX];all_goals rfl
 have htot:(resN ⟨levels,order,types,.mk rh rp⟩).length + (Ty.mk rh rp).nn<=512:=by
  have h1:=sum_nn_cnt types;have h2:=(Ty.mk rh rp).nn_cnt;have h3:(resN ⟨levels,order,types,.mk rh rp⟩).length=(types.map fun x=>x.2.nn).sum:=ndsAll_len _ _ _ _;omega
 have hbl:base.length=n * 7:=by rw [hbs,hn,dNds_flen]
 have hNl:n + (ndsAll (levS ⟨levels,order,types,.mk rh rp⟩) ⟨levels,order,types,.mk rh rp⟩ (types.drop e) n).length=(resN ⟨levels,order,types,.mk rh rp⟩).length:=by rw [<- hNN,List.length_append,hn]
 refine br (fun hL=>?_) (fun hL=>?_)
 ·have hlt:e < types.length:=by have:=hL;simp [hN] at this;exact this
  obtain ⟨x,hx⟩:∃ x,types[e]? = some x:=⟨_,gE hlt⟩;have hxm:=mG hx;rw [drop_cons hx,ndsAll] at hNN hNl;rw [List.length_append] at hNl;have hnl:=ndsT_len (levS ⟨levels,order,types,.mk rh rp⟩) ⟨levels,order,types,.mk rh rp⟩ x.2 n;have hnx:=hnode X hX ord2 m hT hol' x.2 (hbig x.2 (.inr ⟨x,hxm,rfl⟩)) (hkt' x hxm) n base (by omega) hbl;rw [hlev] at hnx;obtain ⟨xw,⟨xh,xp⟩⟩:=x;refine ⟨_,⟨by omega,dNms_get hx⟩,?_⟩;refine call_os 2 1 en43 rfl rfl rfl aL aL hnx (fun r os' tk' hΦ h1 h2=>?_);obtain ⟨rfl,rfl,rfl⟩:=hΦ;refine ⟨bldSt ⟨levels,order,types,.mk rh rp⟩ ord2 (dLs X.names (dTbl X.names X.ord) X.rows X.js) m (loopF ⟨levels,order,types,.mk rh rp⟩).1 (loopF ⟨levels,order,types,.mk rh rp⟩).2 (n + (ndsT (levS ⟨levels,order,types,.mk rh rp⟩) ⟨levels,order,types,.mk rh rp⟩ (.mk xh xp) n).length) (base ++ (dNds (ndsT (levS ⟨levels,order,types,.mk rh rp⟩) ⟨levels,order,types,.mk rh rp⟩ (.mk xh xp) n)).flatten) (e + 1),(weak_b 5 rfl (wNA hlt) rfl rfl rfl (wNB hlt)),types.length - (e + 1),by omega,e + 1,_,_,N ++ ndsT (levS ⟨levels,order,types,.mk rh rp⟩) ⟨levels,order,types,.mk rh rp⟩ (.mk xh xp) n,rfl,by omega,by rw [List.length_append,hn],by rw [hbs];simp [dNds],?_,rfl⟩;rw [List.append_assoc,hnl];exact hNN
 have hge:e=types.length:=by have:=hL;simp [hN] at this;omega
 subst hge;rw [List.drop_length,ndsAll,List.append_nil] at hNN;rw [List.drop_length,ndsAll,List.length_nil,Nat.add_zero] at hNl;have hnr:=hnode X hX ord2 m hT hol' (.mk rh rp) (by omega) hkr' n base (by omega) hbl;rw [hlev] at hnr;intro E a w hr;have hr':=drew_rel hr;obtain ⟨b0,ty0,arr0,hb0,hw0,hc0⟩:=hr'.env.bxs 0 _ rfl;obtain ⟨b1,ty1,arr1,hb1,hw1,hc1⟩:=hr'.env.bxs 1 _ rfl;obtain ⟨v13,hv13,hp13⟩:=RvL.get (i:=13) (d:=.loc 1 0) hc0.1 rfl
 have hv13':v13 = .pointer (some ⟨b1,0,none⟩):=by
  unfold Rv at hp13;obtain ⟨b,hb,rfl⟩:=hp13;rw [hb1] at hb;simp only [oI] at hb;rw [hb]
 subst hv13'
 have hcell:w.drew.cell? ⟨b0,13,none⟩=some (.pointer (some ⟨b1,0,none⟩)):=by
  rw [cell_blk hw0];simpa using hv13
 have hem:=em_mask hr'.env [0,1,2,3];generalize hbm:maskL [0,1,2,3] 0 _=bxm at hem
 have hbmi:∀ (i:Nat) cs,bxm[i]? = some cs->cs ≠ []->2<=i:=fun i cs hi hne=>by
  rw [<- hbm] at hi
  match i,hi with
  | 0,hi=>exact (hne (by simpa [maskL] using hi.symm)).elim
  | 1,hi=>exact (hne (by simpa [maskL] using hi.symm)).elim
  | i + 2,_=>omega
 refine wp_region_run (C:=fun w'=>CC E bxm w.drew w' /\ w'.cell? ⟨b0,13,none⟩=some (.pointer (some ⟨b1,0,none⟩))) (W:=fun i=>Nat.beq i 10) (Q:=fun a w=>kq _ _ .normal a w) mo (by decide +kernel) (fun _ _ h=>h) ⟨⟨fun _ _ _ _ _ _=>rfl,hr'.env.sub⟩,hcell⟩ ?_;show Go.Proofs.YtadhpeooehkklaaGreat.Dv.runT _ _ _ _ _ [0,1,2,3,4,5,6,7,8,9,10] _ _;refine runT_np hr' rfl rfl rfl rfl rfl rfl (fun a0 h0=>?_);refine runT_np h0 rfl rfl rfl rfl rfl rfl (fun a1 h1=>?_);refine runT_np h1 rfl rfl rfl rfl rfl rfl (fun a2 h2=>?_);refine runT_ld h2 rfl hb1 rfl rfl hb0 rfl rfl (fun w' h=>h.2) ⟨⟨fun _ _ _ _ _ _=>rfl,hr'.env.sub⟩,hcell⟩ rfl rfl (fun a3 h3=>?_);refine runT_np h3 rfl rfl rfl rfl rfl rfl (fun a4 h4=>?_);refine runT_np h4 rfl rfl rfl rfl rfl rfl (fun a5 h5=>?_);refine runT_lo h5 rfl (bx:=bxm) (rl_mask h5 hem (fun w' h=>h.1)) ⟨⟨fun _ _ _ _ _ _=>rfl,hr'.env.sub⟩,hcell⟩ rfl rfl (by rw [<- hbm];rfl) rfl (fun a6 h6=>?_);refine runT_os h6 rfl rfl rfl rfl rfl rfl en43 2 1 rfl rfl aL aL hnr rfl rfl ?_;intro v r os' tk' E' w' hΦ _ _ hrel hrv hx hβ hh;obtain ⟨rfl,rfl,rfl⟩:=hΦ;refine ⟨fun _ hC=>⟨⟨fun i b cs hb hcs hne=>?_,fun x v hxv=>hrel.env.sub x v (hx.c x v hxv)⟩,?_⟩,?_⟩
 ·exact hh i b (hbmi i cs hcs hne) hb
 ·obtain ⟨b0',ty0',arr0',hb0',hw0',hc0'⟩:=hrel.env.bxs 0 _ rfl;rw [hβ,hb0] at hb0';simp only [oI] at hb0';subst hb0';obtain ⟨u13,hu13,hq13⟩:=RvL.get (i:=13) (d:=.loc 1 0) hc0'.1 rfl;unfold Rv at hq13;obtain ⟨b,hb,rfl⟩:=hq13;rw [hβ,hb1] at hb;simp only [oI] at hb;subst hb;rw [cell_blk hw0'];simpa using hu13
 have h7:=put_rel (dst:=some 77) hrel rfl _ v hrv;have hrN:(resN ⟨levels,order,types,.mk rh rp⟩).length=n:=by rw [<- hNN,hn]
 have hrow:base ++ (dNds (ndsT (levS ⟨levels,order,types,.mk rh rp⟩) ⟨levels,order,types,.mk rh rp⟩ (.mk rh rp) n)).flatten=(dNds (resNds ⟨levels,order,types,.mk rh rp⟩)).flatten:=by
  unfold resNds;rw [hrN,<- hNN,hbs];simp [dNds]
 have hnlen:(dNds (resNds ⟨levels,order,types,.mk rh rp⟩)).length=n + (ndsT (levS ⟨levels,order,types,.mk rh rp⟩) ⟨levels,order,types,.mk rh rp⟩ (.mk rh rp) n).length:=by
  unfold resNds;rw [hrN];simp [dNds,hrN]
 obtain ⟨E3,h8⟩:=own_obj h7 1 1 0 (ns:=dNds (resNds ⟨levels,order,types,.mk rh rp⟩)) (congrArg (fun b=>some (rowN (n + (ndsT (levS ⟨levels,order,types,.mk rh rp⟩) ⟨levels,order,types,.mk rh rp⟩ (.mk rh rp) n).length) b)) hrow) (fun x hx=>by
  simp only [dNds,List.mem_map] at hx;obtain ⟨y,_,rfl⟩:=hx
  rfl) hnlen rfl rfl List.length_replicate
 refine runT_np h8 rfl rfl rfl rfl rfl rfl (fun a8 h9=>?_);refine runT_np h9 rfl rfl rfl rfl rfl rfl (fun a9 h10=>?_);refine runT_last h10 rfl rfl rfl rfl rfl rfl ?_;refine ⟨.tup [.pt [X.pd,.sl 7 (dNds (resNds ⟨levels,order,types,.mk rh rp⟩)) none,.v (.int .i64 (idxF ⟨levels,order,types,.mk rh rp⟩ (.mk rh rp) n)),.pt (dTbl (tL ⟨levels,order,types,.mk rh rp⟩) ord2) 0,.sl 1 (dInts (namedL ⟨levels,order,types,.mk rh rp⟩)) none] 0,Ft.d (0,0)],ax,resΦ_ok (os:=[]) (tk:=[]) hF0 ⟨ord,ord2,js,by rw [hXX];exact hX,hT,hol,?_⟩⟩;rw [planC,hXX,resRoot,hrN]
theorem clone_s (es:List (List DV)) (hl:es.length<=1099511627776):Ev Tryz.prog 104 [.sl 1 es none] [] [] (fun r _ _=>r = .sl 1 es none∨(es=[]/\r = .v (.slice none 0 0))):=by
 refine ev_go (P:=Tryz.prog) tt tt_ok 5000 8 [.tmp 2] Tryz.func104 rfl Tryz.ntmps104 rfl (nL rfl) (fun E9 w9 hn9 hm9=>?_);refine op_nil ⟨_,rfl⟩ rfl rfl rfl rfl (fun b hb=>?_);refine br (fun h=>?_) (fun h=>?_)
 ·have h:b=true:=h;have he:es=[]:=Classical.byContradiction fun hn=>by rw [hb hn] at h;cases h
  subst he;exact Or.inr ⟨rfl,rfl⟩
 ·refine op_empty rfl rfl rfl rfl (hk:=?_);refine ⟨rfl,⟨by simp [maxLen];omega,by simp;omega⟩,?_⟩;exact ⟨_,ax,Or.inl rfl⟩
theorem clone_e (es:List (List DV)) (hl:es.length<=1099511627776):Ev Tryz.prog 105 [.sl 10 es none] [] [] (fun r _ _=>r = .sl 10 es none∨(es=[]/\r = .v (.slice none 0 0))):=by
 refine ev_go (P:=Tryz.prog) tt tt_ok 5000 8 [.tmp 2] Tryz.func105 rfl Tryz.ntmps105 rfl (nL rfl) (fun E9 w9 hn9 hm9=>?_);refine op_nil ⟨_,rfl⟩ rfl rfl rfl rfl (fun b hb=>?_);refine br (fun h=>?_) (fun h=>?_)
 ·have h:b=true:=h;have he:es=[]:=Classical.byContradiction fun hn=>by rw [hb hn] at h;cases h
  subst he;exact Or.inr ⟨rfl,rfl⟩
 ·refine op_empty rfl rfl rfl rfl (hk:=?_);refine ⟨rfl,⟨by simp [maxLen];omega,by simp;omega⟩,?_⟩;exact ⟨_,ax,Or.inl rfl⟩
def plD (lc:List DV) (nds:List Nd) (root:Int) (L:List ByteArray) (ord:List Nat) (named:List Nat):DV:=.pt [.pt lc 0,.sl 7 (dNds nds) none,.v (.int .i64 root),.pt (dTbl L ord) 0,.sl 1 (dInts named) none] 0
theorem dNds_len (l:List Nd):(dNds l).length=l.length:=by simp [dNds]
theorem dNds_get {l:List Nd} {i:Nat} {n:Nd} (h:l[i]? = some n):(dNds l)[i]? = some (dNd n):=by simp [dNds,h]
section
variable (lc:List DV) (nds:List Nd) (root:Int) (L:List ByteArray) (ord:List Nat) (named:List Nat)
theorem plen_spec:EvP Tryz.prog 103 [plD lc nds root L ord named] (.v (.int .i64 nds.length)):=by
 refine ev_go (P:=Tryz.prog) tt tt_ok 5000 10 [.tmp 2] Tryz.func103 rfl Tryz.ntmps103 rfl (nL rfl) (fun E9 w9 hn9 hm9=>?_);refine (congrArg (fun z=>DV.v (.int .i64 z)) ?_:_=_);rw [dNds_len]
theorem proot_spec:EvP Tryz.prog 13 [plD lc nds root L ord named] (.v (.int .i64 root)):=by
 refine ev_go (P:=Tryz.prog) tt tt_ok 5000 9 [.tmp 2] Tryz.func13 rfl Tryz.ntmps13 rfl (nL rfl) (fun E9 w9 hn9 hm9=>?_);exact (rfl:_=_)
theorem plat_spec:EvP Tryz.prog 139 [plD lc nds root L ord named] (.pt lc 0):=by
 refine ev_go (P:=Tryz.prog) tt tt_ok 5000 9 [.tmp 2] Tryz.func139 rfl Tryz.ntmps139 rfl (nL rfl) (fun E9 w9 hn9 hm9=>?_);exact ⟨_,ax,rfl⟩
theorem pnode_spec (i:Nat) (n:Nd) (h:nds[i]? = some n) (hn:n.names.length<=1099511627776) (he:n.edges.length<=1099511627776) :
  EvP Tryz.prog 44 [plD lc nds root L ord named,.v (.int .i64 i)] (.tup [.agg (dNd n),.v (.bool true)]):=by
 have hlt:=(gS h).1;have hlen:=plen_spec lc nds root L ord named;have hc1:=clone_s (dBs n.names) (by rw [dBs_len];exact hn);have hc2:=clone_e (dEds n.edges) (by rw [dEds_len];exact he);refine ev_go (P:=Tryz.prog) tt tt_ok 5000 32 [.cell 4 105,.tmp 5] Tryz.func44 rfl Tryz.ntmps44 rfl (nL rfl) (fun E9 w9 hn9 hm9=>?_);refine call_p en103 (hlen) ax rfl ?_;refine br (fun g=>?_) (fun g=>?_)
 ·exfalso;simp [pickB] at g;omega
 refine ⟨_,⟨by omega,dNds_get h⟩,?_⟩;refine drawG_s mo (by decide +kernel) ?_;refine callD_e en104 rfl hc1 ax (fun r1 hr1=>?_);rcases hr1 with rfl | ⟨h1,rfl⟩
 ·refine callD_e en105 rfl hc2 ax (fun r2 hr2=>?_);rcases hr2 with rfl | ⟨h2,rfl⟩
  ·exact ⟨.tup [.agg (dNd n),.v (.bool true)],ax,rfl⟩
  ·exact ⟨.tup [.agg (dNd n),.v (.bool true)],(by repeat' (first | exact rfl | exact trivial | exact Or.inr (Or.inl ⟨_,rfl⟩) | exact Or.inr ⟨_,rfl⟩ | exact Or.inl ⟨rfl,rfl⟩ | exact Or.inl rfl | refine Or.inr ⟨_,_,rfl,Nat.zero_le _,rfl,?_⟩ | refine ⟨_,_,rfl,?_,?_⟩ | refine ⟨_,rfl,?_⟩ | exact Or.inl ⟨h2,rfl⟩ | refine Or.inr (Or.inr (Or.inr ⟨_,_,rfl,?_⟩)) | exact Or.inl rfl | refine Or.inr ?_)),rfl⟩
 ·refine callD_e en105 rfl hc2 ax (fun r2 hr2=>?_);rcases hr2 with rfl | ⟨h2,rfl⟩
  ·exact ⟨.tup [.agg (dNd n),.v (.bool true)],(by repeat' (first | exact rfl | exact trivial | exact Or.inr (Or.inl ⟨_,rfl⟩) | exact Or.inr ⟨_,rfl⟩ | exact Or.inl ⟨rfl,rfl⟩ | exact Or.inl rfl | refine Or.inr ⟨_,_,rfl,Nat.zero_le _,rfl,?_⟩ | refine ⟨_,_,rfl,?_,?_⟩ | refine ⟨_,rfl,?_⟩ | exact Or.inl ⟨h1,rfl⟩ | refine Or.inr (Or.inr (Or.inr ⟨_,_,rfl,?_⟩)) | exact Or.inl rfl | refine Or.inr ?_)),rfl⟩
  ·exact ⟨.tup [.agg (dNd n),.v (.bool true)],(by repeat' (first | exact rfl | exact trivial | exact Or.inr (Or.inl ⟨_,rfl⟩) | exact Or.inr ⟨_,rfl⟩ | exact Or.inl ⟨rfl,rfl⟩ | exact Or.inl rfl | refine Or.inr ⟨_,_,rfl,Nat.zero_le _,rfl,?_⟩ | refine ⟨_,_,rfl,?_,?_⟩ | refine ⟨_,rfl,?_⟩ | exact Or.inl ⟨h1,rfl⟩ | exact Or.inl ⟨h2,rfl⟩ | refine Or.inr (Or.inr (Or.inr ⟨_,_,rfl,?_⟩)) | exact Or.inl rfl | refine Or.inr ?_)),rfl⟩
theorem pnode_none (i:Int) (h:i < 0∨nds.length<=i) :
  EvP Tryz.prog 44 [plD lc nds root L ord named,.v (.int .i64 i)] (.tup [.agg [.v (.int .i64 0),.v (.int .i64 0),.v (.int .i64 0),.v (.int .i64 0),.v (.int .i64 0),.v (.slice none 0 0),.v (.slice none 0 0)],.v (.bool false)]):=by
 have hlen:=plen_spec lc nds root L ord named;refine ev_go (P:=Tryz.prog) tt tt_ok 5000 32 [.cell 4 105,.tmp 5] Tryz.func44 rfl Tryz.ntmps44 rfl (nL rfl) (fun E9 w9 hn9 hm9=>?_);refine br (fun g=>?_) (fun g=>?_)
 ·refine call_p en103 (hlen) ax rfl ?_;refine br (fun g2=>?_) (fun g2=>?_)
  ·exact ⟨_,ax,rfl⟩
  ·exfalso;simp at g;simp [pickB,g] at g2;omega
 ·exact ⟨_,ax,rfl⟩
end
abbrev greatSt (s:Sch) (n d k q:Int) (e:Nat):St:=
 ⟨[(1,⟨[],.loc 0 0⟩),(3,⟨[],.v (.int .i64 n)⟩),(4,⟨[],.v (.int .i64 d)⟩),(5,⟨[],.v (.int .i64 e)⟩)],[dSch s],[]⟩
theorem great17_spec (s:Sch) (hbig:s.wt<=1099511627776):Ev Tryz.prog 8 [.agg (dSch s)] [] [] (fun d _ _=>∃ b:Bool,d = .v (.bool b)):=by
 have h1:=wdsWt_len s.levels;have h2:=prsWt_len s.order;have h3:=nmsWt_len s.types;simp only [Sch.wt] at hbig;have hroot:=size15_spec s.root.wt s.root (Nat.le_refl _) (by omega);obtain ⟨levels,order,types,⟨h,ps⟩⟩:=s;simp only at h1 h2 h3 hbig hroot;refine ev_go (P:=Tryz.prog) tt tt_ok 5000 60 [.tmp 2] Tryz.func8 rfl Tryz.ntmps8 rfl (nL rfl) (fun E9 w9 hn9 hm9=>?_);refine br (fun _=>?_) (fun _=>?_)
 ·exact ⟨true,rfl⟩
 refine call_p en35 (hroot) ax rfl ?_;refine loop_i (fun j st=>∃ (e:Nat) (n d:Int),st=greatSt ⟨levels,order,types,.mk h ps⟩ n d 0 0 e/\e<=types.length/\j=types.length - e) types.length (greatSt ⟨levels,order,types,.mk h ps⟩ (Ty.mk h ps).cnt (Ty.mk h ps).deep 0 0 0) (weak_mk ⟨_,rfl⟩ wA rfl rfl rfl wB) ⟨0,_,_,rfl,by omega,by omega⟩ ?_;rintro j st ⟨e,n,d,rfl,he,rfl⟩;refine br (fun hL=>?_) (fun hL=>?_)
 ·have hlt:e < types.length:=by have:=hL;simp [dNms_len] at this;exact this
  obtain ⟨w,hw⟩:∃ w,types[e]? = some w:=⟨_,gE hlt⟩;have hwt:=nmsWt_mem (mG hw);have hs:=size15_spec w.2.wt w.2 (Nat.le_refl _) (by omega);obtain ⟨w,u,us⟩:=w;simp only at hs;refine ⟨_,⟨by omega,dNms_get hw⟩,?_⟩;refine call_p en35 (hs) ax rfl ?_;refine br (fun _=>?_) (fun _=>?_)
  ·exact ⟨greatSt ⟨levels,order,types,.mk h ps⟩ _ _ 0 0 (e + 1),(weak_mk ⟨_,rfl⟩ wA rfl rfl rfl (wNB hlt)),types.length - (e + 1),by omega,e + 1,_,_,rfl,by omega,rfl⟩
  ·exact ⟨greatSt ⟨levels,order,types,.mk h ps⟩ _ _ 0 0 (e + 1),(weak_mk ⟨_,rfl⟩ wA rfl rfl rfl (wNB hlt)),types.length - (e + 1),by omega,e + 1,_,_,rfl,by omega,rfl⟩
 exact ⟨_,rfl⟩
def samePrs:List (Wd × Wd)->List (Wd × Wd)->Bool
 | [],[]=>true
 | x :: r,y :: s=>(decide (x.1.s=y.1.s) && decide (x.2.s=y.2.s)) && samePrs r s
 | _,_=>false
def sameNms:List (Wd × Ty)->List (Wd × Ty)->Bool
 | [],[]=>true
 | x :: r,y :: s=>(decide (x.1.s=y.1.s) && sameTy x.2 y.2) && sameNms r s
 | _,_=>false
def sameS (a b:Sch):Bool:=sameWds a.levels b.levels && samePrs a.order b.order && sameTy a.root b.root && sameNms a.types b.types
end Go.Proofs.YtadhpeooehkklaaGreat
set_option maxRecDepth 100000
namespace Go.Proofs.YtadhpeooehkklaaGreat
open Go Go.RowKit Dv Tryz
end Go.Proofs.YtadhpeooehkklaaGreat
set_option maxRecDepth 100000
namespace Go.Proofs.YtadhpeooehkklaaGreat
open Go Go.RowKit Dv Tryz
end Go.Proofs.YtadhpeooehkklaaGreat
set_option maxRecDepth 100000
namespace Go.Proofs.YtadhpeooehkklaaGreat
open Go Go.RowKit Dv Tryz
end Go.Proofs.YtadhpeooehkklaaGreat
set_option maxRecDepth 100000
namespace Go.Proofs.YtadhpeooehkklaaGreat
open Go Go.RowKit Dv Tryz
def cB (r:List Bool):List DV:=r.map fun b=>DV.v (.bool b)
def dBo (r:List Bool):List (List DV):=r.map fun b=>[DV.v (.bool b)]
theorem cB_len (r:List Bool):(cB r).length=r.length:=by simp [cB]
theorem dBo_len (r:List Bool):(dBo r).length=r.length:=by simp [dBo]
theorem cB_get {r:List Bool} {i:Nat} {b:Bool} (h:r[i]? = some b):(cB r)[i]? = some (DV.v (.bool b)):=by simp [cB,h]
theorem cB_set (r:List Bool) (i:Nat) (b:Bool):(cB r).set i (DV.v (.bool b))=cB (r.set i b):=by simp [cB,List.map_set]
theorem dBo_get {r:List Bool} {i:Nat} {b:Bool} (h:r[i]? = some b):(dBo r)[i]? = some [DV.v (.bool b)]:=by simp [dBo,h]
theorem dBo_flat (r:List Bool):(dBo r).flatten=cB r:=by
 induction r with
 | nil=>rfl
 | cons b r ih=>simp only [dBo,cB,List.map_cons,List.flatten_cons] at ih ⊢;rw [ih];all_goals rfl
theorem repB (n:Nat):(List.replicate n (vL [Value.bool false])).flatten=cB (List.replicate n false):=by
 induction n with
 | zero=>rfl
 | succ n ih=>simp only [List.replicate_succ,List.flatten_cons,ih];rfl
theorem weL_cB {n m:Nat} {tk:List TkE} {l:List DV} {r:List Bool} (h:l=cB r):WeL n m tk l (cB r):=by
 subst h;refine weL_sc _ fun x hx=>?_;obtain ⟨z,_,rfl⟩:=List.mem_map.1 hx;exact ⟨_,rfl⟩
theorem we_bool {n m:Nat} {tk':List TkE} {x y:Bool} (h:x=y):We n m tk' (.v (.bool x)) (.v (.bool y)):=.inl ⟨by rw [h],rfl⟩
end Go.Proofs.YtadhpeooehkklaaGreat
set_option maxRecDepth 100000
namespace Go.Proofs.YtadhpeooehkklaaGreat
open Go Go.RowKit Dv Tryz
end Go.Proofs.YtadhpeooehkklaaGreat
set_option maxRecDepth 100000
namespace Go.Proofs.YtadhpeooehkklaaGreat
open Go Go.RowKit Dv Tryz
end Go.Proofs.YtadhpeooehkklaaGreat
set_option maxRecDepth 100000
namespace Go.Proofs.YtadhpeooehkklaaGreat
open Go Go.RowKit Dv Tryz
def tysOf (S:Sch):List Ty:=S.types.map fun x=>x.2
def allT (S:Sch):List Ty:=tysOf S ++ [S.root]
mutual
def flatT:Ty->List Ty
 | .mk h ps=>if h.kind=9 then [] else .mk h ps :: flatP ps
def flatP:Pts->List Ty
 | .nil=>[]
 | .cons p t r=>(if p.bare then [] else flatT t) ++ flatP r
end
mutual
theorem flatT_len:∀ t:Ty,(flatT t).length=t.nn
 | .mk h ps=>by
  have:=flatP_len ps;simp only [flatT,Ty.nn];split
  ·rfl
  ·simp only [List.length_cons];omega
theorem flatP_len:∀ ps:Pts,(flatP ps).length=ps.nn
 | .nil=>rfl
 | .cons p t r=>by
  have:=flatT_len t;have:=flatP_len r;simp only [flatP,Pts.nn,List.length_append];split
  ·simp only [List.length_nil];omega
  ·omega
end
def endR (S:Sch) (k:Nat):List Bool:=(List.range S.types.length).map fun i=>(endI S k i).isSome
end Go.Proofs.YtadhpeooehkklaaGreat
set_option maxRecDepth 100000
namespace Go.Proofs.YtadhpeooehkklaaGreat
open Go Go.RowKit Dv Tryz
end Go.Proofs.YtadhpeooehkklaaGreat
set_option maxRecDepth 100000
namespace Go.Proofs.YtadhpeooehkklaaGreat
open Go Go.RowKit Dv Tryz
end Go.Proofs.YtadhpeooehkklaaGreat
set_option maxRecDepth 100000
namespace Go.Proofs.YtadhpeooehkklaaGreat
open Go Go.RowKit Dv Tryz
def eaA:List Ty->Int->Ft × Int
 | [],m=>((0,0),m)
 | t :: r,m=>if (rightF t m).1.1≠0 then rightF t m else eaA r (rightF t m).2
theorem eaA_eq (z:Ty):∀ (l:List (Wd × Ty)) (m:Int),((eaA (l.map (fun x=>x.2) ++ [z]) m).1.1=0↔(eaR z l m).1.1=0)/\((eaR z l m).1.1≠0->eaA (l.map (fun x=>x.2) ++ [z]) m=eaR z l m)
 | [],m=>by
  show ((eaA [z] m).1.1=0↔(rightF z m).1.1=0)/\((rightF z m).1.1≠0->eaA [z] m=rightF z m);simp only [eaA];by_cases h:(rightF z m).1.1=0
  ·simp [h]
  ·simp [h]
 | x :: r,m=>by
  have ih:=eaA_eq z r (rightF x.2 m).2;simp only [List.map_cons,List.cons_append,eaA,eaR];by_cases h:(rightF x.2 m).1.1=0
  ·simp only [h,ne_eq,not_true,if_false];exact ih
  ·simp [h]
def eaK (F:Ty->Ft):List Ty->Ft
 | []=>(0,0)
 | t :: r=>if (F t).1≠0 then F t else eaK F r
theorem eaK_eq (F:Ty->Ft) (z:Ty):∀ l:List (Wd × Ty),((eaK F (l.map (fun x=>x.2) ++ [z])).1=0↔(eaL F (F z) l).1=0)/\((eaL F (F z) l).1≠0->eaK F (l.map (fun x=>x.2) ++ [z])=eaL F (F z) l)
 | []=>by
  show ((eaK F [z]).1=0↔(F z).1=0)/\((F z).1≠0->eaK F [z]=F z);simp only [eaK];by_cases h:(F z).1=0
  ·simp [h]
  ·simp [h]
 | x :: r=>by
  have ih:=eaK_eq F z r;simp only [List.map_cons,List.cons_append,eaK,eaL];by_cases h:(F x.2).1=0
  ·simp only [h,ne_eq,not_true,if_false];exact ih
  ·simp [h]
theorem eaK_ok {F:Ty->Ft}:∀ {l:List Ty},(eaK F l).1=0->∀ t∈l,(F t).1=0
 | [],_,t,ht=>by cases ht
 | u :: r,h,t,ht=>by
  rw [eaK] at h;split at h
  ·rename_i h1;exact (h1 h).elim
  ·rename_i h1;rcases List.mem_cons.1 ht with rfl | ht
   ·simpa using h1
   ·exact eaK_ok h t ht
theorem resF_eq (S:Sch):resF S=if (latF S.levels S.order).1≠0 then latF S.levels S.order
 else if (namedF S).1≠0 then namedF S
 else if (eaA (allT S) 0).1.1≠0 then (eaA (allT S) 0).1
 else if (eaK (knS S) (allT S)).1≠0 then eaK (knS S) (allT S)
 else loopF S:=by
 have h1:=eaA_eq S.root S.types 0;have h2:=eaK_eq (knS S) S.root S.types;unfold resF allT tysOf;by_cases a:(eaR S.root S.types 0).1.1=0
 ·have a':=h1.1.2 a;simp only [a,a',ne_eq,not_true,if_false];by_cases b:(eaL (knS S) (knS S S.root) S.types).1=0
  ·have b':=h2.1.2 b;simp only [b,b',ne_eq,not_true,if_false]
  ·rw [h2.2 b]
 ·rw [h1.2 a];by_cases b:(eaL (knS S) (knS S S.root) S.types).1=0
  ·have b':=h2.1.2 b;simp only [b,b',a,ne_eq,not_true,not_false_eq_true,if_false,if_true]
  ·rw [h2.2 b]
theorem allT_wt {S:Sch} (hs:S.wt<=1099511627776):∀ t∈allT S,t.wt<=1099511627776:=by
 intro t ht;unfold Sch.wt at hs;rcases List.mem_append.1 ht with h | h
 ·obtain ⟨x,hx,rfl⟩:=List.mem_map.1 h;have:=nmsWt_mem hx;omega
 ·simp only [List.mem_singleton] at h;subst h;omega
theorem dEds_get {l:List Ed} {i:Nat} {e:Ed} (h:l[i]? = some e):(dEds l)[i]? = some (dEd e):=by simp [dEds,h]
def ndR (lev:List Wd->Int) (s:Sch) (t:Ty) (k:Nat):Nd:=⟨t.h.kind,t.h.at',t.h.lo,t.h.hi,t.h.most,nmTx t.h.names,edsP lev s t.ps (k + 1)⟩
mutual
theorem ndsT_eq (lev:List Wd->Int) (s:Sch):∀ (t:Ty) (k:Nat),ndsT lev s t k=(flatT t).zipIdx.map fun x=>ndR lev s x.1 (k + x.2)
 | .mk h ps,k=>by
  have ih:=ndsP_eq lev s ps (k + 1);rw [ndsT,flatT];split
  ·rfl
  ·rw [ih,List.zipIdx_cons,List.map_cons];rw [List.zipIdx_succ,List.map_map];refine congr (congrArg List.cons rfl) (List.map_congr_left fun x _=>?_);simp only [Function.comp];congr 1;omega
theorem ndsP_eq (lev:List Wd->Int) (s:Sch):∀ (ps:Pts) (k:Nat),ndsP lev s ps k=(flatP ps).zipIdx.map fun x=>ndR lev s x.1 (k + x.2)
 | .nil,k=>rfl
 | .cons p u r,k=>by
  rw [ndsP,flatP,List.zipIdx_append,List.map_append]
  cases hb:p.bare with
  | true=>
   simp only [if_true,List.zipIdx_nil,List.map_nil,List.nil_append,List.length_nil,Nat.add_zero];exact ndsP_eq lev s r k
  | false=>
   simp only [Bool.false_eq_true,if_false];rw [ndsT_eq lev s u k,ndsP_eq lev s r (k + u.nn),flatT_len];refine congrArg _ ?_;rw [List.zipIdx_eq_map_add (l:=flatP r) (i:=0 + u.nn)];rw [List.map_map];refine List.map_congr_left fun x _=>?_;simp only [Function.comp];congr 1;omega
end
theorem knP_mem {X:Lx} {L:List ByteArray}:∀ {ps:Pts},(knP X L ps).1=0->∀ {p:Ph} {u:Ty},(p,u)∈ps.toList->p.bare=false->(knT X L u).1=0
 | .nil,_,p,u,h,_=>by cases h
 | .cons q v r,hk,p,u,h,hb=>by
  rcases List.mem_cons.1 h with h | h
  ·cases h;exact (knP_ok hk).1 hb
  ·exact knP_mem (knP_ok hk).2 h hb
def ndsA (lev:List Wd->Int) (s:Sch):List Ty->Nat->List Nd
 | [],_=>[]
 | t :: r,k=>ndsT lev s t k ++ ndsA lev s r (k + t.nn)
def nnS (l:List Ty):Nat:=(l.map Ty.nn).sum
theorem nnS_cons (t:Ty) (l:List Ty):nnS (t :: l)=t.nn + nnS l:=by simp [nnS]
theorem nnS_app (a b:List Ty):nnS (a ++ b)=nnS a + nnS b:=by simp [nnS]
theorem ndsA_len (lev:List Wd->Int) (s:Sch):∀ (l:List Ty) (k:Nat),(ndsA lev s l k).length=nnS l
 | [],_=>rfl
 | t :: r,k=>by simp only [ndsA,List.length_append,ndsT_len,ndsA_len lev s r,nnS_cons]
theorem ndsA_app (lev:List Wd->Int) (s:Sch):∀ (a b:List Ty) (k:Nat),ndsA lev s (a ++ b) k=ndsA lev s a k ++ ndsA lev s b (k + nnS a)
 | [],b,k=>by simp [ndsA,nnS]
 | t :: r,b,k=>by rw [List.cons_append,ndsA,ndsA,ndsA_app lev s r b,List.append_assoc,nnS_cons,Nat.add_assoc]
theorem ndsA_all (lev:List Wd->Int) (s:Sch):∀ (l:List (Wd × Ty)) (k:Nat),ndsAll lev s l k=ndsA lev s (l.map fun x=>x.2) k
 | [],_=>rfl
 | x :: r,k=>by rw [ndsAll,List.map_cons,ndsA,ndsA_all lev s r]
theorem resN_len (s:Sch):(resN s).length=nnS (tysOf s):=by rw [resN,ndsA_all,ndsA_len];all_goals rfl
theorem resNds_eq (s:Sch):resNds s=ndsA (levS s) s (allT s) 0:=by
 unfold resNds allT;rw [ndsA_app,resN_len,resN,ndsA_all,ndsA,ndsA,List.append_nil,Nat.zero_add];rfl
theorem nnS_take (l:List Ty):∀ e,nnS (l.take e)<=nnS l:=by
 intro e;have:=nnS_app (l.take e) (l.drop e);rw [List.take_append_drop] at this;omega
theorem nnS_wt (s:Sch):nnS (allT s)<=s.wt:=by
 have key:∀ l:List (Wd × Ty),nnS (l.map fun x=>x.2)<=nmsWt l:=by
  intro l
  induction l with
  | nil=>exact Nat.le_refl _
  | cons x r ih=>
   have:=x.2.nn_cnt;have:=x.2.cnt_wt;simp only [List.map_cons,nnS_cons,nmsWt];omega
 have h1:=key s.types;have h2:=s.root.nn_cnt;have h3:=s.root.cnt_wt;unfold allT;rw [nnS_app,nnS_cons];unfold Sch.wt tysOf;simp only [nnS,List.map_nil,List.sum_nil] at h1 ⊢;omega
mutual
theorem flatT_kn {X:Lx} {L:List ByteArray}:∀ (t:Ty),(knT X L t).1=0->∀ u∈flatT t,(knT X L u).1=0
 | .mk h ps,hk,u,hu=>by
  rw [flatT] at hu;split at hu
  ·cases hu
  ·rcases List.mem_cons.1 hu with rfl | hu
   ·exact hk
   ·exact flatP_kn ps (knT_ok hk).2 u hu
theorem flatP_kn {X:Lx} {L:List ByteArray}:∀ (ps:Pts),(knP X L ps).1=0->∀ u∈flatP ps,(knT X L u).1=0
 | .nil,_,u,hu=>by cases hu
 | .cons p v r,hk,u,hu=>by
  rw [flatP] at hu;rcases List.mem_append.1 hu with hu | hu
  ·cases hb:p.bare with
   | true=>rw [hb] at hu;cases hu
   | false=>rw [hb] at hu;exact flatT_kn v ((knP_ok hk).1 hb) u hu
  ·exact flatP_kn r (knP_ok hk).2 u hu
end
mutual
theorem flatT_wt:∀ (t:Ty),∀ u∈flatT t,u.wt<=t.wt
 | .mk h ps,u,hu=>by
  rw [flatT] at hu;split at hu
  ·cases hu
  ·rcases List.mem_cons.1 hu with rfl | hu
   ·exact Nat.le_refl _
   ·have:=flatP_wt ps u hu;simp only [Ty.wt];omega
theorem flatP_wt:∀ (ps:Pts),∀ u∈flatP ps,u.wt<=ps.wt
 | .nil,u,hu=>by cases hu
 | .cons p v r,u,hu=>by
  rw [flatP] at hu;simp only [Pts.wt];rcases List.mem_append.1 hu with hu | hu
  ·split at hu
   ·cases hu
   ·have:=flatT_wt v u hu;omega
  ·have:=flatP_wt r u hu;omega
end
structure FineS (S:Sch):Prop where
 lat:(latF S.levels S.order).1=0
 l64:S.types.length<=64
 kn:∀ t∈allT S,(knS S t).1=0
 ends:∀ i,i < S.types.length->∃ k,endI S (S.types.length + 1) i=some k
 wr:∀ t∈allT S,(wrong t 1 0).1.1=0
theorem eaA_ok:∀ {l:List Ty} {m:Int},(eaA l m).1.1=0->∀ t∈l,(wrong t 1 0).1.1=0
 | [],_,_,t,ht=>by cases ht
 | u :: r,m,h,t,ht=>by
  rw [eaA] at h;split at h
  ·rename_i h1;exact (h1 h).elim
  ·rename_i h1;rcases List.mem_cons.1 ht with rfl | ht
   ·exact (rightF_ok (by simpa using h1)).2.2.1
   ·exact eaA_ok h t ht
theorem fineS_of {S:Sch} (h:(resF S).1=0):FineS S:=by
 rw [resF_eq] at h;split at h
 ·rename_i h1;exact (h1 h).elim
 rename_i h1;split at h
 ·rename_i h2;exact (h2 h).elim
 rename_i h2;split at h
 ·rename_i h3;exact (h3 h).elim
 rename_i h3;split at h
 ·rename_i h4;exact (h4 h).elim
 rename_i h4
 exact {
  lat:=by simpa using h1
  l64:=by
   have h2:(namedF S).1=0:=by simpa using h2
   unfold namedF at h2;split at h2
   ·cases h2
   ·omega
  kn:=eaK_ok (by simpa using h4)
  ends:=loopF_ok h
  wr:=eaA_ok (by simpa using h3) }
def WrT (t:Ty):Prop:=∃ d m,(wrong t d m).1.1=0
def PartF (kind:Int) (p:Ph) (t:Ty):Prop:=(p.bare=true/\kind=8/\sameTy t zeroTy=true/\plainP p barePh=true)∨(p.bare=false/\(partWd p).1=0/\WrT t)
structure TyF (h:Hd) (ps:Pts):Prop where
 k1:1<=h.kind
 k9:h.kind<=9
 own:ownF h ps=true
 int:h.kind=2->h.lo<=h.hi
 text:h.kind=3->0<=h.most/\h.most<=4096
 enum:h.kind=4->enumWd h=(0,0)
 one:h.kind=5∨h.kind=6->∃ p t,ps = .cons p t .nil/\p.name.s=emptyB/\plainP p zeroPh=true/\0<=h.most/\h.most<=1024/\WrT t
 many:h.kind=7∨h.kind=8->ps.len<=64/\(h.kind=8->ps.len≠0)/\∀ i p t,ps.toList[i]? = some (p,t)->listedF (pNames ps) i p.name=0/\PartF h.kind p t
theorem own_of {h:Hd} {ps:Pts} (ho:¬ ownB (.mk h ps)=false):ownF h ps=true:=by
 rw [ownF_eq];cases hb:sameTy (.mk h ps) (mask (.mk h ps))
 ·exact absurd hb ho
 ·rfl
theorem wrongPts_parts {kind:Int} {all:List Wd}:∀ {ps:Pts} {i:Nat} {d m:Int},(wrongPts kind all i ps d m).1.1=0->(kind=7∨kind=8)->∀ j p t,ps.toList[j]? = some (p,t)->listedF all (i + j) p.name=0/\PartF kind p t
 | .nil,i,d,m,_,_,j,p,t,hx=>by simp [Pts.toList] at hx
 | .cons q u r,i,d,m,he,hk,j,p,t,hx=>by
  simp only [wrongPts] at he;by_cases c0:listedF all i q.name≠0
  ·rw [if_pos c0] at he;exact absurd he c0
  rw [if_neg c0] at he;have c0:listedF all i q.name=0:=by simpa using c0
  have step:∀ d' m',(wrongPts kind all (i + 1) r d' m').1.1=0->PartF kind q u->listedF all (i + j) p.name=0/\PartF kind p t:=by
   intro d' m' h hq
   cases j with
   | zero=>
    simp only [Pts.toList,List.getElem?_cons_zero,oI,Prod.mk.injEq] at hx;obtain ⟨rfl,rfl⟩:=hx;exact ⟨c0,hq⟩
   | succ j=>
    simp only [Pts.toList,List.getElem?_cons_succ] at hx;have:=wrongPts_parts h hk j p t hx
    rwa [show i + 1 + j=i + (j + 1) by omega] at this
  by_cases c1:q.bare=true
  ·rw [if_pos c1] at he;by_cases c2:kind=7∨sameTy u zeroTy=false∨plainP q barePh=false
   ·rw [if_pos c2] at he;simp at he
   rw [if_neg c2] at he;refine step d m he (.inl ⟨c1,?_,?_,?_⟩)
   ·rcases hk with hk | hk
    ·exact absurd (.inl hk) c2
    ·exact hk
   ·cases hb:sameTy u zeroTy
    ·exact absurd (.inr (.inl hb)) c2
    ·rfl
   ·cases hb:plainP q barePh
    ·exact absurd (.inr (.inr hb)) c2
    ·rfl
  ·rw [if_neg c1] at he;by_cases c2:(partWd q).1≠0
   ·rw [if_pos c2] at he;exact absurd he c2
   rw [if_neg c2] at he;by_cases c3:(wrong u (d + 1) m).1.1≠0
   ·rw [if_pos c3] at he;exact absurd he c3
   rw [if_neg c3] at he;exact step d _ he (.inr ⟨by simpa using c1,by simpa using c2,d + 1,m,by simpa using c3⟩)
theorem tyF_of:∀ {t:Ty},WrT t->TyF t.h t.ps
 | .mk h ps,⟨d,m,he⟩=>by
  simp only [Ty.h,Ty.ps];simp only [wrong] at he;by_cases c0:24 < d
  ·rw [if_pos c0] at he;simp at he
  rw [if_neg c0] at he;by_cases c1:512 < m + 1
  ·rw [if_pos c1] at he;simp at he
  rw [if_neg c1] at he;by_cases c2:h.kind < 1∨9 < h.kind
  ·rw [if_pos c2] at he;simp at he
  rw [if_neg c2] at he;by_cases c3:ownB (.mk h ps)=false
  ·rw [if_pos c3] at he;simp at he
  rw [if_neg c3] at he;by_cases c4:(h.kind=2/\h.hi < h.lo)∨(h.kind=3/\(h.most < 0∨4096 < h.most))
  ·rw [if_pos c4] at he;simp at he
  rw [if_neg c4] at he;by_cases c5:h.kind=9/\nameOK h.name.s=false
  ·rw [if_pos c5] at he;simp at he
  rw [if_neg c5] at he;refine { k1:=by omega,k9:=by omega,own:=own_of c3,int:=fun h2=>by omega,text:=fun h3=>by omega,enum:=fun h4=>?_,one:=fun h5=>?_,many:=fun h7=>?_ }
  ·rw [if_pos h4] at he;exact enumWd_ok h he
  ·rw [if_neg (by omega),if_pos h5] at he
   match ps,he with
   | .nil,he=>simp [wrongOne] at he
   | .cons p t (.cons _ _ _),he=>simp [wrongOne] at he
   | .cons p t .nil,he=>
    simp only [wrongOne] at he;by_cases e0:p.name.s≠emptyB∨plainP p zeroPh=false
    ·rw [if_pos e0] at he;simp at he
    rw [if_neg e0] at he;by_cases e1:h.most < 0∨1024 < h.most
    ·rw [if_pos e1] at he;simp at he
    rw [if_neg e1] at he;refine ⟨p,t,rfl,Classical.byContradiction fun hn=>e0 (.inl hn),?_,by omega,by omega,d + 1,_,he⟩;cases hb:plainP p zeroPh
    ·exact absurd (.inr hb) e0
    ·rfl
  ·rw [if_neg (by omega),if_neg (by omega),if_pos h7] at he;by_cases e0:h.kind=8/\ps.len=0
   ·rw [if_pos e0] at he;simp at he
   rw [if_neg e0] at he;by_cases e1:64 < ps.len
   ·rw [if_pos e1] at he;simp at he
   rw [if_neg e1] at he;refine ⟨by omega,fun h8=>fun hl=>e0 ⟨h8,hl⟩,fun i p t hx=>?_⟩;have:=wrongPts_parts he h7 i p t hx
   rwa [Nat.zero_add] at this
theorem TyF.sub {h:Hd} {ps:Pts} (hF:TyF h ps) {p:Ph} {u:Ty} (hm:(p,u)∈ps.toList) (hb:p.bare=false):WrT u:=by
 obtain ⟨i,hi⟩:=List.mem_iff_getElem?.1 hm
 have hlen:0 < ps.len:=by
  cases ps with
  | nil=>simp [Pts.toList] at hm
  | cons _ _ _=>simp [Pts.len]
 have hk:5<=h.kind/\h.kind<=8:=by
  have h1:=hF.own;unfold ownF at h1;simp only [Bool.and_eq_true,Bool.or_eq_true,decide_eq_true_eq] at h1;have:=h1.1.1.2;omega
 by_cases h5:h.kind=5∨h.kind=6
 ·obtain ⟨q,t,rfl,_,_,_,_,hw⟩:=hF.one h5;simp only [Pts.toList,List.mem_singleton,Prod.mk.injEq] at hm;rw [hm.2];exact hw
 ·rcases ((hF.many (by omega)).2.2 i p u hi).2 with h1 | h1
  ·rw [h1.1] at hb;cases hb
  ·exact h1.2.2
mutual
theorem flatT_wr:∀ (t:Ty),WrT t->∀ u∈flatT t,WrT u
 | .mk h ps,hw,u,hu=>by
  rw [flatT] at hu;split at hu
  ·cases hu
  ·rcases List.mem_cons.1 hu with rfl | hu
   ·exact hw
   ·exact flatP_wr ps (fun p v hm hb=>(tyF_of hw).sub hm hb) u hu
theorem flatP_wr:∀ (ps:Pts),(∀ p v,(p,v)∈ps.toList->p.bare=false->WrT v)->∀ u∈flatP ps,WrT u
 | .nil,_,u,hu=>by cases hu
 | .cons p v r,hw,u,hu=>by
  rw [flatP] at hu;rcases List.mem_append.1 hu with hu | hu
  ·cases hb:p.bare with
   | true=>rw [hb] at hu;cases hu
   | false=>rw [hb] at hu;exact flatT_wr v (hw p v (by simp [Pts.toList]) hb) u hu
  ·exact flatP_wr r (fun q w hm=>hw q w (by simp [Pts.toList,hm])) u hu
end
mutual
theorem flatT_k9:∀ (t:Ty),∀ u∈flatT t,u.h.kind≠9
 | .mk h ps,u,hu=>by
  rw [flatT] at hu;split at hu
  ·cases hu
  ·rename_i h9;rcases List.mem_cons.1 hu with rfl | hu
   ·exact h9
   ·exact flatP_k9 ps u hu
theorem flatP_k9:∀ (ps:Pts),∀ u∈flatP ps,u.h.kind≠9
 | .nil,u,hu=>by cases hu
 | .cons p v r,u,hu=>by
  rw [flatP] at hu;rcases List.mem_append.1 hu with hu | hu
  ·split at hu
   ·cases hu
   ·exact flatT_k9 v u hu
  ·exact flatP_k9 r u hu
end
mutual
theorem flatT_pos:∀ (t:Ty) (j:Nat) (u:Ty),(flatT t)[j]? = some u->j + u.nn<=t.nn
 | .mk h ps,j,u,hu=>by
  rw [flatT] at hu;by_cases h9:h.kind=9
  ·rw [if_pos h9] at hu;simp at hu
  rw [if_neg h9] at hu
  cases j with
  | zero=>
   simp only [List.getElem?_cons_zero,oI] at hu;subst hu;omega
  | succ j=>
   simp only [List.getElem?_cons_succ] at hu;have:=flatP_pos ps j u hu;rw [Ty.nn,if_neg h9];omega
theorem flatP_pos:∀ (ps:Pts) (j:Nat) (u:Ty),(flatP ps)[j]? = some u->j + u.nn<=ps.nn
 | .nil,j,u,hu=>by simp [flatP] at hu
 | .cons p v r,j,u,hu=>by
  rw [flatP] at hu;rw [Pts.nn]
  cases hb:p.bare with
  | true=>
   rw [hb] at hu;have:=flatP_pos r j u (by simpa using hu);simp only [if_true];omega
  | false=>
   rw [hb] at hu;simp only [Bool.false_eq_true,if_false] at hu ⊢;by_cases hj:j < (flatT v).length
   ·rw [List.getElem?_append_left hj] at hu;have:=flatT_pos v j u hu;omega
   ·rw [List.getElem?_append_right (by omega)] at hu;have:=flatP_pos r _ u hu;have h2:=flatT_len v;omega
end
theorem edsP_mem {lev:List Wd->Int} {s:Sch}:∀ {ps:Pts} {k:Nat} {e:Ed},e∈edsP lev s ps k->∃ p u k',(p,u)∈ps.toList/\e=mkEd lev p (toF s p u k')/\(p.bare=false->k' + u.nn<=k + ps.nn)
 | .nil,k,e,he=>by simp [edsP] at he
 | .cons p u r,k,e,he=>by
  rw [edsP] at he;rcases List.mem_cons.1 he with rfl | he
  ·refine ⟨p,u,k,by simp [Pts.toList],rfl,fun hb=>?_⟩;rw [Pts.nn,hb];simp
  ·obtain ⟨q,v,k',h1,h2,h3⟩:=edsP_mem he;refine ⟨q,v,k',by simp [Pts.toList,h1],h2,fun hb=>?_⟩;have:=h3 hb;rw [Pts.nn];omega
theorem edsP_names {lev:List Wd->Int} {s:Sch}:∀ {ps:Pts} {k:Nat},(edsP lev s ps k).map Ed.name=nmTx (pNames ps)
 | .nil,k=>rfl
 | .cons p u r,k=>by
  rw [edsP,List.map_cons,edsP_names (ps:=r)];rfl
theorem botN_some {f:Nat->Nat->Bool} {n:Nat} (hL:LatOK f n):∀ e,e<=n->∃ b,b < n/\∀ x,x < e->f b x=true
 | 0,_=>⟨0,hL.pos,fun x hx=>by omega⟩
 | e + 1,he=>by
  obtain ⟨b,hb,hle⟩:=botN_some hL e (by omega);obtain ⟨k,hk⟩:=hL.mt b e hb (by omega);obtain ⟨g1,g2,g3,g4⟩:=meetN_spec hk;refine ⟨k,g1,fun x hx=>?_⟩;rcases Nat.lt_succ_iff_lt_or_eq.1 hx with hx | rfl
  ·exact hL.tr k b x g1 hb (by omega) g2 (hle x hx)
  ·exact g3
theorem leastN_some {f:Nat->Nat->Bool} {n:Nat} (hL:LatOK f n) (l:List Nat) (hl:∀ x∈l,x < n):∃ c,leastN f n l=some c:=by
 have key:∀ e,e<=l.length->∃ c,leastN f n (l.take e)=some c:=by
  intro e
  induction e with
  | zero=>
   intro _;obtain ⟨b,hb,hle⟩:=botN_some hL n (Nat.le_refl _);exact ⟨b,leastN_nil hL hb hle⟩
  | succ e ih=>
   intro he;obtain ⟨c,hc⟩:=ih (by omega);obtain ⟨x,hx⟩:∃ x,l[e]? = some x:=⟨_,gE (by omega)⟩;have hxl:=hl x (mG hx);obtain ⟨k,hk⟩:=hL.jn c x (leastN_lt hc) hxl;rw [List.take_add_one,hx];exact ⟨k,leastN_snoc hL (fun y hy=>hl y (List.mem_of_mem_take hy)) hxl hc hk⟩
 have:=key l.length (Nat.le_refl _)
 rwa [List.take_length] at this
theorem labW_some {L:List ByteArray}:∀ {l:List Wd},(labW L l).1=0->∀ w∈l,∃ i,ixOf L w.s=some i
 | [],_,w,hw=>by cases hw
 | x :: r,h,w,hw=>by
  rw [labW] at h;split at h
  ·cases h
  ·rename_i h1;rcases List.mem_cons.1 hw with rfl | hw
   ·exact Option.ne_none_iff_exists'.1 h1
   ·exact labW_some h w hw
theorem labN_some {f:Nat->Nat->Bool} {L:List ByteArray} (hL:LatOK f L.length) {l:List Wd} (h:(labW L l).1=0):∃ c:Nat,labN f L l=c/\c < L.length:=by
 obtain ⟨c,hc⟩:=leastN_some hL (labI L l) (fun x hx=>by
  unfold labI at hx;obtain ⟨w,hw,rfl⟩:=List.mem_map.1 hx;obtain ⟨i,hi⟩:=labW_some h w hw;rw [hi]
  exact (ixOf_some hi).1)
 refine ⟨c,?_,leastN_lt hc⟩;unfold labN;rw [if_pos h,hc];rfl
end Go.Proofs.YtadhpeooehkklaaGreat
