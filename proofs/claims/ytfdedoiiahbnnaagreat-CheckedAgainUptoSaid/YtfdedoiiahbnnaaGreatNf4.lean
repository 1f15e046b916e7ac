/- Part 4 of the proof: rel.back: who leads to a thing and is led to by it; rel.New: the rows of a list of pairs; rel.Close: the closure, by rows; The number of bits that are set, as the library reckons it; math/bits.OnesCount64; When two bits are set; rel.Loop: the least thing in a loop; The plain law of closeR: its bits are what is led to; The program's and the reference's check of names that must differ; The table's Find, whole; lattice.many, called, numbered; lattice.best, and the closures of bounds; lattice.bounds: all joins and meets; lattice.Build; Reading a lattice: Len, has, Name, Find, Join, Meet, Bottom; labels.Of; The checker's part, once check is known for lighter types; The checker's parts, once check is known for lighter types; The checker's one and check, once check is known for lighter types; so check; kinds.Count, resolve.nodes; the builder's level; The builder's end, loops, known; The builder's each, right, called; The builder's each of right; called; places; The builder's places; The builder's edge; The builder's node. No condition. -/
import Derived.Test.YtfdedoiiahbnnaaGreatNf3
set_option linter.all false
set_option maxRecDepth 100000
namespace Go.Proofs.YtfdedoiiahbnnaaGreat
open Go Go.RowKit Dv Go.Proofs.Tryz
def backN (rows:List Nat) (a:Nat):Nat->Nat
 | 0=>0
 | e + 1=>if bf rows a e && bf rows e a then backN rows a e ||| 2 ^ e else backN rows a e
theorem xy (rows:List Nat) (a:Nat):∀ e,backN rows a e < 2 ^ e
 | 0=>by simp [backN]
 | e + 1=>by
  have ih:=xy rows a e;have h2:2 ^ e < 2 ^ (e + 1):=Nat.pow_lt_pow_right (by decide) (by omega);simp only [backN];split
  ·exact Nat.or_lt_two_pow (by omega) h2
  ·omega
theorem s9 (rows:List Nat) (a b:Nat):∀ e,(backN rows a e).testBit b=(decide (b < e) && (bf rows a b && bf rows b a))
 | 0=>by simp [backN]
 | e + 1=>by
  have ih:=s9 rows a b e
  grind [backN,bf,kp]
abbrev Yi (rows:List Nat) (a e:Nat):St:=
 ⟨[(0,⟨[],nM rows⟩),aJ 1 a,(5,⟨[],.v (.int .u64 (backN rows a e:Nat))⟩),aJ 11 ((dU rows).length),aJ 12 e],[],[]⟩
theorem rC {rows:List Nat} {a b:Nat} (ha:a < rows.length) (hb:b < rows.length):hasB rows a b=bf rows a b:=by
 simp [hasB,ha,hb]
theorem HR (rows:List Nat) (hr:eC rows) (a:Nat) (ha:a < rows.length):bA prog 210 [nM rows,.v (.int .i64 a)] (.v (.int .u64 (backN rows a rows.length:Nat))):=by
 have hr1:=hr.1;refine eG 31 [.tmp 4] func210 rfl ntmps210 rfl fun _ _ _ _=>?_;refine lJ (fun e=>Yi rows a e) rows.length (dg wB) ?_;intro e he;refine br ?_ ?_<;>intro hL
 ·have aE:e < rows.length:=by have:=hL;simp [lh] at this;exact this
  have h1:=lZ rows hr a e;have h2:=lZ rows hr e a;rw [rC ha aE] at h1;rw [rC aE ha] at h2;have hbl:=xy rows a e
  have Yj:backN rows a e < 18446744073709551616:=by
   have:2 ^ e<=2 ^ 64:=Nat.pow_le_pow_right (by decide) (by omega);omega
  have hor:=HQ (x:=backN rows a e) (b:=e) (by omega) Yj;have hs:backN rows a (e + 1)=if bf rows a e && bf rows e a then backN rows a e ||| 2 ^ e else backN rows a e:=rfl
  refine cP Eo h1 ?_;refine br ?_ ?_<;>intro g1
  ·have g1:bf rows a e=true:=sU g1;refine cP Eo h2 ?_;refine br ?_ ?_<;>intro g2
   ·have g2:bf rows e a=true:=by simpa [pickB,g1] using g2
    rw [g1,g2] at hs;have hs:backN rows a (e + 1)=backN rows a e ||| 2 ^ e:=hs
    refine ⟨by omega,?_⟩;exact rE ⟨_,by omega,e + 1,rfl,by omega,rfl⟩ (dg (by repeat' (first | exact trivial | exact az rfl | exact aP (cR aE (by omega)) | exact aP (hor.trans (by rw [hs])) | refine ⟨⟨_,rfl,?_⟩,?_⟩)))
   ·have g2:bf rows e a=false:=by simpa [pickB,g1] using g2
    rw [g1,g2] at hs;have hs:backN rows a (e + 1)=backN rows a e:=hs;exact rE ⟨_,by omega,e + 1,rfl,by omega,rfl⟩ (dg (by repeat' (first | exact trivial | exact az rfl | exact aP (cR aE (by omega)) | exact aP (by rw [hs]) | refine ⟨⟨_,rfl,?_⟩,?_⟩)))
  ·have g1:bf rows a e=false:=sU g1;rw [g1] at hs;have hs:backN rows a (e + 1)=backN rows a e:=hs;exact rE ⟨_,by omega,e + 1,rfl,by omega,rfl⟩ (dg (by repeat' (first | exact trivial | exact az rfl | exact aP (cR aE (by omega)) | exact aP (by rw [hs]) | refine ⟨⟨_,rfl,?_⟩,?_⟩)))
 ·have hge:e=rows.length:=by have:=hL;simp [lh] at this;omega
  subst hge;exact (rfl:_=_)
def cU (rows:List Nat):List DV:=rows.map fun (x:Nat)=>DV.v (.int .u64 (x:Int))
theorem td (rows:List Nat):(cU rows).length=rows.length:=by simp [cU]
theorem PK {rows:List Nat} {i x:Nat} (h:rows[i]? = some x):(cU rows)[i]? = some (DV.v (.int .u64 (x:Int))):=by simp [cU,h]
theorem PL (rows:List Nat) (i x:Nat):(cU rows).set i (DV.v (.int .u64 (x:Int)))=cU (rows.set i x):=by simp [cU,List.map_set]
theorem rD (rows:List Nat):(dU rows).flatten=cU rows:=by
 induction rows with
 | nil=>rfl
 | cons x r ih=>simp only [dU,cU,List.map_cons,List.flatten_cons] at ih ⊢;rw [ih];all_goals rfl
theorem J9 {n m:Nat} {tk:List TkE}:∀ l:List Nat,WeL n m tk (cU l) (cU l)
 | []=>rfl
 | b :: r=>⟨_,_,rfl,az rfl,J9 r⟩
theorem Cx {n m:Nat} {tk:List TkE} {l:List DV} {ds:List Nat} (h:l=cU ds):WeL n m tk l (cU ds):=by rw [h];exact J9 ds
def dNP (p:Nat × Nat):List DV:=[.v (.int .i64 (p.1:Int)),.v (.int .i64 (p.2:Int))]
def vk (l:List (Nat × Nat)):List (List DV):=l.map dNP
theorem oi (l:List (Nat × Nat)):(vk l).length=l.length:=by simp [vk]
theorem PM {l:List (Nat × Nat)} {i:Nat} {p:Nat × Nat} (h:l[i]? = some p):(vk l)[i]? = some (dNP p):=by simp [vk,h]
def xz (rows:List Nat) (p:Nat × Nat):List Nat:=rows.set p.1 (rows.getD p.1 0 ||| 2 ^ p.2)
def fJ (n:Nat) (l:List (Nat × Nat)):List Nat:=l.foldl xz (List.replicate n 0)
theorem Me (n:Nat) (l:List (Nat × Nat)) (e:Nat) {p:Nat × Nat} (h:l[e]? = some p):fJ n (l.take (e + 1))=xz (fJ n (l.take e)) p:=by
 unfold fJ;rw [List.take_add_one,h];simp
theorem rF (rows:List Nat) (p:Nat × Nat):(xz rows p).length=rows.length:=by simp [xz]
theorem kr (n:Nat):∀ (l:List (Nat × Nat)),(fJ n l).length=n:=by
 intro l
 have:∀ (l:List (Nat × Nat)) (r:List Nat),(l.foldl xz r).length=r.length:=by
  intro l
  induction l with
  | nil=>intro r;rfl
  | cons p l ih=>intro r;rw [List.foldl_cons,ih,rF]
 rw [fJ,this];simp
theorem TP {rows:List Nat} {p:Nat × Nat} (h:eC rows) (hp:p.1 < rows.length) (hq:p.2 < 64):eC (xz rows p):=by
 refine ⟨by rw [rF];exact h.1,fun x hx=>?_⟩;rcases List.mem_or_eq_of_mem_set hx with hx | rfl
 ·exact h.2 x hx
 ·refine Nat.or_lt_two_pow (n:=64) ?_ (Nat.pow_lt_pow_right (by decide) hq);rw [nz,gE hp];exact h.2 _ (List.getElem_mem hp)
theorem Cy {n:Nat} (hn:n<=64):∀ (l:List (Nat × Nat)),(∀ p∈l,p.1 < n/\p.2 < n)->eC (fJ n l):=by
 intro l hl
 have:∀ (l:List (Nat × Nat)) (r:List Nat),r.length=n->eC r->(∀ p∈l,p.1 < n/\p.2 < n)->eC (l.foldl xz r):=by
  intro l
  induction l with
  | nil=>intro r _ h _;exact h
  | cons p l ih=>grind [rF,TP]
 refine this l _ (by simp) ⟨by simp [hn],fun x hx=>?_⟩ hl;rw [List.mem_replicate] at hx;omega
abbrev PN (n:Nat) (l:List (Nat × Nat)) (rows:List Nat) (e:Nat):St:=
 ⟨[aJ 0 n,bq 6 1,dH 19 2 (vk l),aJ 20 ((vk l).length),aJ 21 e],
  [cU rows,[.ms 0 1 0 n n]],[]⟩
theorem Mf (n:Nat) (hn:n<=64) (l:List (Nat × Nat)) (hl:∀ p∈l,p.1 < n/\p.2 < n) (hb:l.length<=1099511627776) :
  bA prog 127 [.v (.int .i64 n),.sl 2 (vk l) none] (.bK [nM (fJ n l),.v (.bool true)]):=by
 refine eG 60 [.tmp 4,.tmp 5] func127 rfl ntmps127 rfl fun _ _ _ _=>?_;refine br ?_ ?_<;>intro g
 ·exfalso;simp [aD] at g;omega
 refine ⟨⟨rfl,by omega,by omega,by omega⟩,?_⟩
 have h0:(List.replicate (n:Int).toNat [DV.v (.int .u64 0)]).flatten=cU (fJ n (l.take 0)):=by
  simp [fJ,cU]
 refine lJ (fun e=>PN n l (fJ n (l.take e)) e) l.length (kD 2 (by repeat' (first | exact rfl | exact az rfl | exact Cx h0 | refine ⟨_,_,rfl,?_,?_⟩)) (by repeat' (first | exact trivial | exact az rfl | exact Cx h0 | refine ⟨⟨_,rfl,?_⟩,?_⟩))) ?_;intro e he;refine br ?_ ?_<;>intro hL
 ·have aE:e < l.length:=by have:=hL;simp [oi] at this;exact this
  obtain ⟨p,hp⟩:=gX aE;obtain ⟨p1,p2⟩:=hl p (mG hp);refine iX (PM hp) ?_;refine ⟨⟨by decide,by decide⟩,?_⟩;refine ⟨⟨by decide,by decide⟩,?_⟩;refine br ?_ ?_<;>intro g
  ·refine ⟨⟨by decide,by decide⟩,?_⟩;refine ⟨⟨by decide,by decide⟩,?_⟩;refine br ?_ ?_<;>intro g2
   ·exfalso;simp [pickB] at g2;omega
   obtain ⟨x,hx⟩:∃ x,(fJ n (l.take e))[p.1]? = some x:=⟨_,gE (by rw [kr];exact p1)⟩;have jh:=Cy hn (l.take e) (fun q hq=>hl q (List.mem_of_mem_take hq));have Aa:=jh.2 x (mG hx);have u7:0 + (p.1:Int).toNat * 1=p.1:=by omega
   refine dS ?_;refine ⟨⟨by decide,by decide⟩,?_⟩;refine ⟨⟨by omega,by omega⟩,?_⟩;refine ⟨_,(by rw [u7];exact PK hx:(cU (fJ n (l.take e)))[0 + (p.1:Int).toNat * 1]? = some _),?_⟩;refine ⟨⟨by decide,by decide⟩,?_⟩;refine ⟨by omega,?_⟩;refine ⟨⟨by omega,by omega⟩,?_⟩;refine ⟨by rw [u7,td,kr];omega,?_⟩
   have cx:(cU (fJ n (l.take e))).set (0 + (p.1:Int).toNat * 1) (DV.v (.int .u64 (IntKind.u64.wrap ((BitVec.ofInt 64 (x:Int) ||| BitVec.ofInt 64 (IntKind.u64.wrap (1 * 2 ^ (min (p.2:Int).toNat 64)))).toNat:Int))))=cU (fJ n (l.take (e + 1))):=by
    rw [u7,show ((p.2:Int).toNat)=p.2 by omega,HQ (by omega) Aa,PL,Me n l e hp];simp only [xz];rw [getD_some hx]
   refine ⟨PN n l (fJ n (l.take (e + 1))) (e + 1),(kD 2 (by repeat' (first | exact rfl | exact az rfl | exact Cx cx | exact aP (cR aE (by omega)) | refine ⟨_,_,rfl,?_,?_⟩)) (by repeat' (first | exact trivial | exact az rfl | exact Cx cx | exact aP (cR aE (by omega)) | refine ⟨⟨_,rfl,?_⟩,?_⟩))),l.length - (e + 1),by omega,e + 1,rfl,by omega,rfl⟩
  ·exfalso;simp [pickB] at g;omega
 ·have hge:e=l.length:=by have:=hL;simp [oi] at this;omega
  subst hge;rw [List.take_length];refine ⟨_,?_,rfl⟩;have hlen:=kr n l;generalize fJ n l=rows at hlen ⊢;refine ⟨_,rfl,_,_,rfl,.inr ⟨1,_,rfl,Nat.zero_le _,rfl,_,_,rfl,.inr (.inr (.inl ⟨0,0,n,cU rows,by rw [lh,hlen],Nat.zero_le _,rfl,?_,?_,?_⟩)),rfl⟩,_,_,rfl,rfl,rfl⟩
  ·grind [rD,lh,td]
  ·grind [dU]
  ·grind [rD,cU]
def ku (rows:List Nat) (k:Nat):List Nat:=rows.set k (rows.getD k 0 ||| 2 ^ k)
def pP (k:Nat) (rows:List Nat) (a:Nat):List Nat:=if bf rows a k then rows.set a (rows.getD a 0 ||| rows.getD k 0) else rows
def ig (rows:List Nat) (k e:Nat):List Nat:=(List.range e).foldl (pP k) (ku rows k)
def closeR (rows:List Nat) (e:Nat):List Nat:=(List.range e).foldl (fun r k=>ig r k r.length) rows
theorem PO {rows:List Nat} {i x:Nat} (h:eC rows) (hx:x < 18446744073709551616):eC (rows.set i x):=by
 refine ⟨by rw [List.length_set];exact h.1,fun y hy=>?_⟩;rcases List.mem_or_eq_of_mem_set hy with hy | rfl
 ·exact h.2 y hy
 ·exact hx
theorem mW {rows:List Nat} (h:eC rows) (i:Nat):rows.getD i 0 < 18446744073709551616:=by
 rw [nz]
 cases hx:rows[i]? with
 | none=>simp
 | some x=>exact h.2 x (mG hx)
theorem PR {rows:List Nat} {k:Nat} (h:eC rows) (hk:k < 64):eC (ku rows k):=
 PO h (Nat.or_lt_two_pow (n:=64) (mW h k) (Nat.pow_lt_pow_right (by decide) hk))
theorem Mg (rows:List Nat) (k:Nat):(ku rows k).length=rows.length:=by simp [ku]
theorem PS {rows:List Nat} {k a:Nat} (h:eC rows):eC (pP k rows a):=by
 unfold pP;split
 ·exact PO h (Nat.or_lt_two_pow (n:=64) (mW h a) (mW h k))
 ·exact h
theorem Mh (rows:List Nat) (k a:Nat):(pP k rows a).length=rows.length:=by
 unfold pP;split<;>simp
theorem mX (rows:List Nat) (k e:Nat):ig rows k (e + 1)=pP k (ig rows k e) e:=by simp [ig,List.range_succ]
theorem oV (rows:List Nat) (k:Nat):∀ e,(ig rows k e).length=rows.length
 | 0=>by simp [ig,Mg]
 | e + 1=>by rw [mX,Mh,oV]
theorem xA {rows:List Nat} {k:Nat} (h:eC rows) (hk:k < 64):∀ e,eC (ig rows k e)
 | 0=>by simpa [ig] using PR h hk
 | e + 1=>by rw [mX];exact PS (xA h hk e)
theorem kV (rows:List Nat) (e:Nat):closeR rows (e + 1)=ig (closeR rows e) e (closeR rows e).length:=by simp [closeR,List.range_succ]
theorem fK (rows:List Nat):∀ e,(closeR rows e).length=rows.length
 | 0=>by simp [closeR]
 | e + 1=>by rw [kV,oV,fK]
theorem l7 {rows:List Nat} (h:eC rows):∀ e,e<=64->eC (closeR rows e)
 | 0,_=>by simpa [closeR] using h
 | e + 1,he=>by rw [kV];exact xA (l7 h e (by omega)) (by omega) _
def spU (m:Nat):List DV:=(List.replicate m (vL [Value.int .u64 0])).flatten
theorem Cz {n m:Nat} {tk:List TkE}:∀ l:List DV,(∀ x∈l,∃ y,x = .v y)->WeL n m tk l l
 | [],_=>rfl
 | b :: r,h=>by
  obtain ⟨y,rfl⟩:=h b (by simp);exact ⟨_,_,rfl,az rfl,Cz r (fun x hx=>h x (by simp [hx]))⟩
theorem fZ {n m:Nat} {tk:List TkE} {l:List DV} {ds:List Nat} {k:Nat} (h:l=cU ds ++ spU k):WeL n m tk l (cU ds ++ spU k):=by
 rw [h];refine Cz _ fun x hx=>?_;rcases List.mem_append.1 hx with hx | hx
 ·grind [cU]
 ·simp_all [spU,vL]
theorem CA {r:List Nat} {k i x:Nat} (h:r[i]? = some x):(cU r ++ spU k)[0 + (i:Int).toNat * 1]? = some (DV.v (.int .u64 (x:Int))):=by grind [td,PK]
theorem PT {r:List Nat} {k i x:Nat} (h:i < r.length):(cU r ++ spU k).set (0 + (i:Int).toNat * 1) (DV.v (.int .u64 (x:Int)))=cU (r.set i x) ++ spU k:=by grind [td,PL]
theorem PU {r:List Nat} {k i:Nat} (h:i < r.length):0 + (i:Int).toNat * 1 + 1<=(cU r ++ spU k).length:=by
 rw [List.length_append,td];omega
abbrev clSt (rows:List Nat) (cap:Nat) (r:List Nat) (e:Nat):St:=
 ⟨[bq 3 1,aJ 19 ((dU rows).length),aJ 20 e],[cU r ++ spU (cap - (dU rows).length),[.ms 0 1 0 (dU rows).length cap]],[]⟩
abbrev acj (rows:List Nat) (cap:Nat) (r:List Nat) (e f:Nat):St:=
 ⟨[bq 3 1,aJ 4 e,aJ 19 ((dU rows).length),aJ 20 e,aJ 38 ((dU rows).length),aJ 39 f],[cU r ++ spU (cap - (dU rows).length),[.ms 0 1 0 (dU rows).length cap]],[]⟩
theorem qv {l:List Nat} {i:Nat} (h:i < l.length):l[i]? = some (l.getD i 0):=sN h
theorem ux (rows:List Nat) (hr:eC rows) (h0:rows ≠ []):bA prog 129 [nM rows] (nM (closeR rows rows.length)):=by
 have hr1:=hr.1;have hN:=lh rows;have tX:0 < rows.length:=List.length_pos_iff.2 h0;refine Cd (s:=false) (bt:=[]) (mu:=[12]) (hbt:=fun p hp=>by cases hp) (fr:=false) (P:=prog) tt ui 5000 72 [.tmp 2] func129 rfl ntmps129 rfl (nL rfl) (fun _ _ _ _=>?_);refine ⟨⟨by intro h;exact h0 (by simpa [dU] using h),by rw [lh];simp [maxLen];omega,by rw [lh];omega⟩,fun cap B9=>?_⟩
 have iT:(dU rows).flatten.append (List.replicate (cap - (dU rows).length) (vL [Value.int .u64 0])).flatten=cU (closeR rows 0) ++ spU (cap - (dU rows).length):=by
  show (dU rows).flatten ++ _=_;rw [rD];rfl
 refine lJ (fun e=>clSt rows cap (closeR rows e) e) rows.length (kD 2 (Ea iT) (gv iT)) ?_;intro e he;have jh:=l7 hr e (by omega);have hlen:=fK rows e;have Wf:=kV rows e;generalize PV:closeR rows e=r at jh hlen Wf ⊢;refine br ?_ ?_<;>intro hL
 ·have aE:e < rows.length:=by have:=hL;simp [hN] at this;exact this
  have hx:=qv (l:=r) (i:=e) (by omega);have hor:=HQ (x:=r.getD e 0) (b:=e) (by omega) (mW jh e);refine dS ?_;refine ⟨⟨by omega,by omega⟩,?_⟩;refine ⟨_,CA hx,?_⟩;refine ⟨by omega,?_⟩;refine ⟨⟨by omega,by omega⟩,?_⟩;refine ⟨PU (by omega),?_⟩
  have nU:(cU r ++ spU (cap - (dU rows).length)).set (0 + (e:Int).toNat * 1) (DV.v (.int .u64 (IntKind.u64.wrap ((BitVec.ofInt 64 ((r.getD e 0:Nat):Int) ||| BitVec.ofInt 64 (IntKind.u64.wrap (1 * 2 ^ (min (e:Int).toNat 64)))).toNat:Int))))=cU (ig r e 0) ++ spU (cap - (dU rows).length):=by
   rw [show min (e:Int).toNat 64=min e 64 by omega,hor,PT (by omega)];rfl
  refine lJ (fun f=>acj rows cap (ig r e f) e f) rows.length (kD 2 (Ea nU) (gv nU)) ?_;intro f hf;have G4:=xA (k:=e) jh (by omega) f;have kE:=oV r e f;have LM:=mX r e f;have dV:e < (ig r e f).length:=by rw [kE];omega
  refine br ?_ ?_<;>intro hL
  ·have Yk:f < rows.length:=by have:=hL;simp [hN] at this;exact this
   have hpf:f < (ig r e f).length:=by rw [kE];omega
   generalize ig r e f=q at G4 kE LM dV hpf ⊢;have hy:=qv hpf;have hz:=qv dV;have PW:=J7 (x:=q.getD f 0) (b:=e) (by omega) (mW G4 f);have hor:=TN (mW G4 f) (mW G4 e);refine ⟨⟨by omega,by omega⟩,?_⟩;refine ⟨_,CA hy,?_⟩;refine ⟨by omega,?_⟩;refine br ?_ ?_<;>intro g
   ·have g:bf q f e=true:=PW.symm.trans g;refine dS ?_;refine ⟨⟨by omega,by omega⟩,?_⟩;refine ⟨_,CA hy,?_⟩;refine ⟨⟨by omega,by omega⟩,?_⟩;refine ⟨_,CA hz,?_⟩;refine ⟨⟨by omega,by omega⟩,?_⟩;refine ⟨PU hpf,?_⟩
    have iW:(cU q ++ spU (cap - (dU rows).length)).set (0 + (f:Int).toNat * 1) (DV.v (.int .u64 (IntKind.u64.wrap ((BitVec.ofInt 64 ((q.getD f 0:Nat):Int) ||| BitVec.ofInt 64 ((q.getD e 0:Nat):Int)).toNat:Int))))=cU (ig r e (f + 1)) ++ spU (cap - (dU rows).length):=by
     rw [hor,PT hpf,LM,pP,ah g]
    exact rE ⟨_,by omega,f + 1,rfl,by omega,rfl⟩ (kD 2 (Vo iW (cR Yk (by omega))) (re iW (cR Yk (by omega))))
   ·have g:bf q f e=false:=PW.symm.trans g
    have iW:cU q ++ spU (cap - (dU rows).length)=cU (ig r e (f + 1)) ++ spU (cap - (dU rows).length):=by
     rw [LM,pP,ag (by rw [g];decide)]
    exact rE ⟨_,by omega,f + 1,rfl,by omega,rfl⟩ (kD 2 (Vo iW (cR Yk (by omega))) (re iW (cR Yk (by omega))))
  ·have hge:f=rows.length:=sW hN hL;subst hge
   have Jy:cU (ig r e rows.length) ++ spU (cap - (dU rows).length)=cU (closeR rows (e + 1)) ++ spU (cap - (dU rows).length):=by
    rw [Wf,hlen]
   exact rE ⟨_,by omega,e + 1,rfl,by omega,rfl⟩ (kD 2 (Vo Jy (cR aE (by omega))) (re Jy (cR aE (by omega))))
 ·have hge:e=rows.length:=sW hN hL;subst hge;refine ⟨_,?_,rfl⟩;rw [PV];refine .inr ⟨1,_,rfl,Nat.zero_le _,rfl,_,_,rfl,.inr (.inr (.inl ⟨0,0,cap,cU r ++ spU (cap - (dU rows).length),by rw [lh r,hlen,hN],Nat.zero_le _,rfl,?_,?_,?_⟩)),rfl⟩
  ·grind [rD,lh,td]
  ·grind [dU]
  ·grind [rD,cU]
theorem l8 {a b c d:Nat} (ha:a < 256) (hb:b < 256):(a + 256 * c) &&& (b + 256 * d)=(a &&& b) + 256 * (c &&& d):=by
 have h1:a &&& b < 256:=Nat.and_lt_two_pow (n:=8) a hb;apply Nat.eq_of_testBit_eq;intro i
 have e (x y:Nat) (hx:x < 256):(x + 256 * y).testBit i=if i < 8 then x.testBit i else y.testBit (i - 8):=by
  rw [show x + 256 * y=2 ^ 8 * y + x by omega,Nat.testBit_two_pow_mul_add _ (sU hx)]
 grind
def b1 (x:Nat):Nat:=((x / 2) &&& 85) + (x &&& 85)
def b2 (x:Nat):Nat:=((x / 4) &&& 51) + (x &&& 51)
def b3 (x:Nat):Nat:=((x / 16) + x) &&& 15
def pop8 (x:Nat):Nat:=b3 (b2 (b1 x))
theorem Ka:∀ x:Fin 256,b1 x.val < 256/\b2 (b1 x.val) < 120/\pop8 x.val<=8/\pop8 x.val=(((((((x.val.testBit 0).toNat + (x.val.testBit 1).toNat) + (x.val.testBit 2).toNat) + (x.val.testBit 3).toNat) + (x.val.testBit 4).toNat) + (x.val.testBit 5).toNat) + (x.val.testBit 6).toNat) + (x.val.testBit 7).toNat:=by decide +kernel
def valB:List Nat->Nat
 | []=>0
 | a :: r=>a + 256 * valB r
def rep (m:Nat):Nat->Nat
 | 0=>0
 | n + 1=>m + 256 * rep m n
theorem m1:∀ (a:Fin 256) (c:Fin 2),(a.val / 2 + 128 * c.val) &&& 85=(a.val / 2) &&& 85:=by decide +kernel
theorem m2:∀ (a:Fin 256) (c:Fin 4),(a.val / 4 + 64 * c.val) &&& 51=(a.val / 4) &&& 51:=by decide +kernel
theorem sj:∀ l:List Nat,(∀ a∈l,a < 256)->((valB l / 2) &&& rep 85 l.length) + (valB l &&& rep 85 l.length)=valB (l.map b1)
 | [],_=>rfl
 | a :: r,h=>by
  have ih:=sj r (fun x hx=>h x (by simp [hx]));have ha:=h a (by simp);have e1:(a + 256 * valB r) / 2=(a / 2 + 128 * (valB r % 2)) + 256 * (valB r / 2):=by omega
  have hm:=m1 ⟨a,ha⟩ ⟨valB r % 2,by omega⟩;simp only at hm;simp only [valB,List.length_cons,rep,List.map_cons,b1];rw [e1,l8 (by omega) (by decide),l8 ha (by decide),hm,<- ih];omega
theorem NP:∀ l:List Nat,(∀ a∈l,a < 256)->((valB l / 4) &&& rep 51 l.length) + (valB l &&& rep 51 l.length)=valB (l.map b2)
 | [],_=>rfl
 | a :: r,h=>by
  have ih:=NP r (fun x hx=>h x (by simp [hx]));have ha:=h a (by simp);have e1:(a + 256 * valB r) / 4=(a / 4 + 64 * (valB r % 4)) + 256 * (valB r / 4):=by omega
  have hm:=m2 ⟨a,ha⟩ ⟨valB r % 4,by omega⟩;simp only at hm;simp only [valB,List.length_cons,rep,List.map_cons,b2];rw [e1,l8 (by omega) (by decide),l8 ha (by decide),hm,<- ih];omega
theorem ack (x y:Nat):(x + 16 * y) &&& 15=x &&& 15:=by
 have h (z:Nat):z &&& 15=z % 16:=Nat.and_two_pow_sub_one_eq_mod z 4;rw [h,h];omega
def Fa (a:Nat):Prop:=a < 70/\a % 16<=4
theorem st3:∀ l:List Nat,(∀ a∈l,Fa a)->((valB l / 16) + valB l) &&& rep 15 l.length=valB (l.map b3)
 | [],_=>rfl
 | a :: r,h=>by
  have ih:=st3 r (fun x hx=>h x (by simp [hx]));have ha:=h a (by simp)
  have hc:valB r % 16<=4:=by
   cases r with
   | nil=>simp [valB]
   | cons b s=>
    have:=(h b (by simp)).2;simp only [valB];omega
  unfold Fa at ha;have e1:(a + 256 * valB r) / 16 + (a + 256 * valB r)=((a / 16 + a) + 16 * (valB r % 16)) + 256 * (valB r / 16 + valB r):=by omega
  simp only [valB,List.length_cons,rep,List.map_cons,b3];rw [e1,l8 (by omega) (by decide),ack,ih]
def eP (x:Nat):List Nat:=[x % 256,x / 256 % 256,x / 65536 % 256,x / 16777216 % 256,x / 4294967296 % 256,x / 1099511627776 % 256,x / 281474976710656 % 256,x / 72057594037927936 % 256]
theorem HS {x:Nat} (h:x < 18446744073709551616):valB (eP x)=x:=by
 simp only [eP,valB];omega
theorem Mi (x:Nat):∀ a∈eP x,a < 256:=by
 intro a ha;simp only [eP,List.mem_cons,List.not_mem_nil,or_false] at ha;omega
def HT (x:Nat):Nat:=((eP x).map pop8).sum
theorem Fb:∀ a:Fin 256,b1 a.val < 256/\b2 (b1 a.val) < 70/\b2 (b1 a.val) % 16<=4:=by decide +kernel
theorem CB {x m:Nat} (hx:x < 18446744073709551616) (hm:m < 18446744073709551616) :
  IntKind.u64.wrap ((BitVec.ofInt 64 (x:Int) &&& BitVec.ofInt 64 (m:Int)).toNat:Int)=((x &&& m:Nat):Int):=by
 rw [iI,iI,BitVec.toNat_and,BitVec.toNat_ofNat,BitVec.toNat_ofNat,Nat.mod_eq_of_lt hx,Nat.mod_eq_of_lt hm];have h3:x &&& m < 18446744073709551616:=Nat.and_lt_two_pow (n:=64) x hm;simp only [IntKind.wrap_u64];omega
theorem HU {x:Nat} {k:Int} (hk:k.toNat < 64):(x:Int).fdiv (2 ^ min k.toNat IntKind.u64.bits)=((x / 2 ^ k.toNat:Nat):Int):=by
 rw [show min k.toNat IntKind.u64.bits=k.toNat from Nat.min_eq_left (by show k.toNat<=64;omega),E9]
theorem CD {y:Nat} (h:y < 18446744073709551616):IntKind.u64.wrap (y:Int)=(y:Int):=by
 simp only [IntKind.wrap_u64];omega
theorem acm {k M:Int} {m x y:Nat} (hk:k.toNat < 64) (hx:x < 18446744073709551616) (hM:M=(m:Int)) (hm:m < 18446744073709551616) (hy:((x / 2 ^ k.toNat) &&& m) + (x &&& m)=y) (mK:y < 18446744073709551616) :
  IntKind.u64.wrap (IntKind.u64.wrap ((BitVec.ofInt IntKind.u64.bits ((x:Int).fdiv (2 ^ min k.toNat IntKind.u64.bits)) &&& BitVec.ofInt IntKind.u64.bits M).toNat:Int) + IntKind.u64.wrap ((BitVec.ofInt IntKind.u64.bits (x:Int) &&& BitVec.ofInt IntKind.u64.bits M).toNat:Int))=(y:Int):=by
 subst hM;have h1:x / 2 ^ k.toNat < 18446744073709551616:=Nat.lt_of_le_of_lt (Nat.div_le_self _ _) hx;have e1:IntKind.u64.wrap ((BitVec.ofInt IntKind.u64.bits ((x / 2 ^ k.toNat:Nat):Int) &&& BitVec.ofInt IntKind.u64.bits (m:Int)).toNat:Int)=_:=CB h1 hm;have e2:IntKind.u64.wrap ((BitVec.ofInt IntKind.u64.bits (x:Int) &&& BitVec.ofInt IntKind.u64.bits (m:Int)).toNat:Int)=_:=CB hx hm;rw [HU hk,e1,e2,<- Int.natCast_add,hy,CD mK]
theorem stgB {k M:Int} {m x y:Nat} (hk:k.toNat < 64) (hs:x / 2 ^ k.toNat + x < 18446744073709551616) (hM:M=(m:Int)) (hm:m < 18446744073709551616) (hy:((x / 2 ^ k.toNat) + x) &&& m=y) :
  IntKind.u64.wrap ((BitVec.ofInt IntKind.u64.bits (IntKind.u64.wrap ((x:Int).fdiv (2 ^ min k.toNat IntKind.u64.bits) + (x:Int))) &&& BitVec.ofInt IntKind.u64.bits M).toNat:Int)=(y:Int):=by
 subst hM;have e2:IntKind.u64.wrap ((BitVec.ofInt IntKind.u64.bits ((x / 2 ^ k.toNat + x:Nat):Int) &&& BitVec.ofInt IntKind.u64.bits (m:Int)).toNat:Int)=_:=CB hs hm;rw [HU hk,<- Int.natCast_add,CD hs,e2,hy]
theorem Ym {k:Int} {x:Nat} (hk:k.toNat < 64) (hs:x + x / 2 ^ k.toNat < 18446744073709551616) :
  IntKind.u64.wrap ((x:Int) + (x:Int).fdiv (2 ^ min k.toNat IntKind.u64.bits))=((x + x / 2 ^ k.toNat:Nat):Int):=by
 rw [HU hk,<- Int.natCast_add,CD hs]
theorem Kb:∀ l:List Nat,(∀ a∈l,a < 256)->valB l < 256 ^ l.length
 | [],_=>by simp [valB]
 | a :: r,h=>by
  have ih:=Kb r (fun x hx=>h x (by simp [hx]));have ha:=h a (by simp)
  grind [valB]
theorem PX {x:Nat} (hx:x < 18446744073709551616):∃ y1 y2 y3:Nat,((x / 2) &&& 6148914691236517205) + (x &&& 6148914691236517205)=y1/\y1 < 18446744073709551616/\((y1 / 4) &&& 3689348814741910323) + (y1 &&& 3689348814741910323)=y2/\y2 / 16 + y2 < 18446744073709551616/\y2 < 18446744073709551616 /\
  ((y2 / 16) + y2) &&& 1085102592571150095=y3/\∃ p0 p1 p2 p3 p4 p5 p6 p7:Nat,y3=valB [p0,p1,p2,p3,p4,p5,p6,p7]/\(p0<=8/\p1<=8/\p2<=8/\p3<=8/\p4<=8/\p5<=8/\p6<=8/\p7<=8)/\HT x=p0 + p1 + p2 + p3 + p4 + p5 + p6 + p7:=by
 have hl:=Mi x;have s1:=sj (eP x) hl;rw [HS hx] at s1
 have l1:∀ a∈(eP x).map b1,a < 256:=by
  intro a ha;obtain ⟨b,hb,rfl⟩:=List.mem_map.1 ha;exact (Fb ⟨b,hl b hb⟩).1
 have l2:∀ a∈((eP x).map b1).map b2,Fa a:=by
  intro a ha;obtain ⟨c,hc,rfl⟩:=List.mem_map.1 ha;obtain ⟨b,hb,rfl⟩:=List.mem_map.1 hc;exact (Fb ⟨b,hl b hb⟩).2
 have s2:=NP ((eP x).map b1) l1;have s3:=st3 (((eP x).map b1).map b2) l2
 have v1:valB ((eP x).map b1) < 18446744073709551616:=by
  have:=Kb _ l1;rw [List.length_map,show (eP x).length=8 from rfl] at this;simpa using this
 rw [show rep 85 (eP x).length=6148914691236517205 from (by decide:rep 85 8=_)] at s1;rw [List.length_map,show rep 51 (eP x).length=3689348814741910323 from (by decide:rep 51 8=_)] at s2;rw [List.length_map,List.length_map,show rep 15 (eP x).length=1085102592571150095 from (by decide:rep 15 8=_)] at s3;refine ⟨_,_,_,s1,v1,s2,?_,?_,s3,_,_,_,_,_,_,_,_,rfl,?_,?_⟩
 ·have:=l2;simp only [eP,List.map_cons,List.map_nil,List.mem_cons,List.not_mem_nil,or_false,forall_eq_or_imp,forall_eq,Fa,valB] at this ⊢;omega
 ·have:=l2;simp only [eP,List.map_cons,List.map_nil,List.mem_cons,List.not_mem_nil,or_false,forall_eq_or_imp,forall_eq,Fa,valB] at this ⊢;omega
 ·have h (b:Nat) (hb:b < 256):=(Ka ⟨b,hb⟩).2.2.1;exact ⟨h _ (by omega),h _ (by omega),h _ (by omega),h _ (by omega),h _ (by omega),h _ (by omega),h _ (by omega),h _ (by omega)⟩
 ·simp only [HT,eP,List.map_cons,List.map_nil,List.sum_cons,List.sum_nil,pop8];omega
theorem dr1 {a r:Nat} (h:a < 256):(a + 256 * r) / 256=r:=by omega
theorem dr2 {a b r:Nat} (h:a < 256) (h2:b < 256):(a + 256 * (b + 256 * r)) / 65536=r:=by omega
theorem PY {p0 p1 p2 p3 p4 p5 p6 p7:Nat} (hp:p0<=8/\p1<=8/\p2<=8/\p3<=8/\p4<=8/\p5<=8/\p6<=8/\p7<=8):∃ z1 z2 z3:Nat,
  (p0 + 256 * (p1 + 256 * (p2 + 256 * (p3 + 256 * (p4 + 256 * (p5 + 256 * (p6 + 256 * (p7 + 256 * 0)))))))) + (p0 + 256 * (p1 + 256 * (p2 + 256 * (p3 + 256 * (p4 + 256 * (p5 + 256 * (p6 + 256 * (p7 + 256 * 0)))))))) / 256=z1/\z1 < 18446744073709551616 /\
  z1 + z1 / 65536=z2/\z2 < 18446744073709551616/\z2 + z2 / 4294967296=z3/\z3 < 18446744073709551616/\z3 % 128=p0 + p1 + p2 + p3 + p4 + p5 + p6 + p7:=by
 refine ⟨(p0 + p1) + 256 * ((p1 + p2) + 256 * ((p2 + p3) + 256 * ((p3 + p4) + 256 * ((p4 + p5) + 256 * ((p5 + p6) + 256 * ((p6 + p7) + 256 * p7)))))),
  (p0 + p1 + p2 + p3) + 256 * ((p1 + p2 + p3 + p4) + 256 * ((p2 + p3 + p4 + p5) + 256 * ((p3 + p4 + p5 + p6) + 256 * ((p4 + p5 + p6 + p7) + 256 * ((p5 + p6 + p7) + 256 * ((p6 + p7) + 256 * p7)))))),
  (p0 + p1 + p2 + p3 + p4 + p5 + p6 + p7) + 256 * ((p1 + p2 + p3 + p4 + p5 + p6 + p7) + 256 * ((p2 + p3 + p4 + p5 + p6 + p7) + 256 * ((p3 + p4 + p5 + p6 + p7) + 256 * ((p4 + p5 + p6 + p7) + 256 * ((p5 + p6 + p7) + 256 * ((p6 + p7) + 256 * p7)))))),?_,by omega,?_,by omega,?_,by omega,by omega⟩
 ·rw [dr1 (by omega)];omega
 ·rw [dr2 (by omega) (by omega)];omega
 ·omega
theorem PZ {z:Nat} (h:z < 18446744073709551616):IntKind.i64.wrap ((BitVec.ofInt IntKind.i64.bits (IntKind.i64.wrap (z:Int)) &&& BitVec.ofInt IntKind.i64.bits 127).toNat:Int)=((z % 128:Nat):Int):=by
 have e1:BitVec.ofInt 64 (IntKind.i64.wrap (z:Int))=BitVec.ofNat 64 z:=by
  apply BitVec.eq_of_toNat_eq;rw [BitVec.toNat_ofInt,BitVec.toNat_ofNat,IntKind.wrap_i64];omega
 have e2:(BitVec.ofInt 64 (IntKind.i64.wrap (z:Int)) &&& BitVec.ofInt 64 127).toNat=z % 128:=by
  rw [e1,show BitVec.ofInt 64 127=BitVec.ofNat 64 127 by decide,BitVec.toNat_and,BitVec.toNat_ofNat,BitVec.toNat_ofNat,Nat.mod_eq_of_lt h];exact Nat.and_two_pow_sub_one_eq_mod z 7
 have e3:(BitVec.ofInt IntKind.i64.bits (IntKind.i64.wrap (z:Int)) &&& BitVec.ofInt IntKind.i64.bits 127).toNat=z % 128:=e2;rw [e3,IntKind.wrap_i64];omega
theorem Mj (x:Nat) (hx:x < 18446744073709551616):bA prog 209 [.v (.int .u64 x)] (.v (.int .i64 (HT x:Nat))):=by
 obtain ⟨y1,y2,y3,h1,ZL,h2,h2s,h2b,h3,p0,p1,p2,p3,p4,p5,p6,p7,h4,hp,h5⟩:=PX hx;rw [h5];simp only [valB] at h4;refine eG 35 [.tmp 2] func209 rfl ntmps209 rfl fun _ _ _ _=>?_;refine ⟨by decide,?_⟩;refine ⟨by decide,?_⟩;refine ⟨by decide,?_⟩;refine ⟨by decide,?_⟩;refine ⟨by decide,?_⟩;refine ⟨by decide,?_⟩;refine (Eb ?_:);rw [acm (k:=1) (M:=6148914691236517205) (by decide) hx rfl (by decide) h1 ZL,acm (k:=2) (M:=3689348814741910323) (by decide) ZL rfl (by decide) h2 h2b,stgB (k:=4) (M:=1085102592571150095) (by decide) h2s rfl (by decide) h3];obtain ⟨z1,z2,z3,g1,g1b,g2,g2b,g3,g3b,g4⟩:=PY hp;rw [<- h4] at g1;have k1:y3 + y3 / 2 ^ (8:Int).toNat=z1:=g1;rw [Ym (k:=8) (by decide) (by rw [k1];exact g1b),k1];have k2:z1 + z1 / 2 ^ (16:Int).toNat=z2:=g2;rw [Ym (k:=16) (by decide) (by rw [k2];exact g2b),k2];have k3:z2 + z2 / 2 ^ (32:Int).toNat=z3:=g3;rw [Ym (k:=32) (by decide) (by rw [k3];exact g3b),k3,<- g4];exact PZ g3b
theorem jb (x k i:Nat) (hi:i < 8):(x / 2 ^ (8 * k) % 256).testBit i=x.testBit (8 * k + i):=by
 rw [show (256:Nat)=2 ^ 8 by decide,Nat.testBit_mod_two_pow,decide_eq_true hi,Bool.true_and,Nat.testBit_div_two_pow,Nat.add_comm]
theorem jc (x k:Nat):pop8 (x / 2 ^ (8 * k) % 256)=(((((((x.testBit (8 * k + 0)).toNat + (x.testBit (8 * k + 1)).toNat) + (x.testBit (8 * k + 2)).toNat) + (x.testBit (8 * k + 3)).toNat) + (x.testBit (8 * k + 4)).toNat) + (x.testBit (8 * k + 5)).toNat) + (x.testBit (8 * k + 6)).toNat) + (x.testBit (8 * k + 7)).toNat:=by
 have h:=(Ka ⟨x / 2 ^ (8 * k) % 256,Nat.mod_lt _ (by decide)⟩).2.2.2;simp only at h;rw [h,jb x k 0 (by decide),jb x k 1 (by decide),jb x k 2 (by decide),jb x k 3 (by decide),jb x k 4 (by decide),jb x k 5 (by decide),jb x k 6 (by decide),jb x k 7 (by decide)]
def sumB (x:Nat):Nat->Nat
 | 0=>0
 | n + 1=>sumB x n + (x.testBit n).toNat
theorem P4 (x:Nat):HT x=sumB x 64:=by
 have h0:=jc x 0;have h1:=jc x 1;have h2:=jc x 2;have h3:=jc x 3;have h4:=jc x 4;have h5:=jc x 5;have h6:=jc x 6;have h7:=jc x 7;simp only [Nat.mul_zero,Nat.pow_zero,Nat.div_one] at h0;simp only [HT,eP,List.map_cons,List.map_nil,List.sum_cons,List.sum_nil,sumB]
 grind
theorem xB (x:Nat):∀ n,0 < sumB x n↔∃ b,b < n/\x.testBit b=true
 | 0=>by simp [sumB]
 | n + 1=>by
  have ih:=xB x n
  grind [sumB]
theorem Fc (x a:Nat) (ha:x.testBit a=true):∀ n,a < n->(1 < sumB x n↔∃ b,b < n/\b≠a/\x.testBit b=true)
 | 0,h=>by omega
 | n + 1,h=>by
  simp only [sumB];by_cases hn:a=n
  ·grind [xB]
  ·have ih:=Fc x a ha n (by omega)
   grind [xB]
def dh (p:Nat->Bool) (n:Nat):Option Nat:=(List.range n).find? p
theorem jd {p:Nat->Bool} {n e:Nat} (he:e < n) (hp:p e=true) (h:∀ a,a < e->p a=false):dh p n=some e:=by simp_all [dh]
theorem kW {p:Nat->Bool} {n:Nat} (h:∀ a,a < n->p a=false):dh p n=none:=by grind [dh]
theorem je {p:Nat->Bool} {n e:Nat} (h:dh p n=some e):e < n/\p e=true/\∀ a,a < e->p a=false:=by simp_all [dh]
def rG (c:List Nat) (a:Nat):Bool:=decide (1 < HT (backN c a c.length))
def P5:Option Nat->DV
 | some a=>.bK [.v (.int .i64 (a:Int)),.v (.bool true)]
 | none=>.bK [.v (.int .i64 0),.v (.bool false)]
abbrev TQ (c:List Nat) (e:Nat):St:=
 ⟨[(4,⟨[],nM c⟩),aJ 9 c.length,aJ 10 e],[],[]⟩
theorem HV (rows:List Nat) (hr:eC rows) (h0:rows ≠ []):bA prog 128 [nM rows] (P5 (dh (rG (closeR rows rows.length)) rows.length)):=by
 have hc:=ux rows hr h0;have jh:=l7 hr rows.length hr.1;have hlen:=fK rows rows.length;have hr1:=hr.1;generalize closeR rows rows.length=c at hc jh hlen ⊢;rw [<- hlen];have hl:=Aw c;refine eG 20 [.tmp 2,.tmp 3] func128 rfl ntmps128 rfl fun _ _ _ _=>?_;refine cP VA hc ?_;refine cP ON hl ?_;refine lI (fun j st=>∃ e:Nat,st=TQ c e/\e<=c.length/\(∀ a,a < e->rG c a=false)/\j=c.length - e) ⟨0,rfl,by omega,fun a h=>by omega,rfl⟩ (dg wB) ?_;rintro j st ⟨e,rfl,he,kG,rfl⟩;refine br ?_ ?_<;>intro hL
 ·have aE:e < c.length:=by have:=hL;simp at this;exact this
  have Yj:backN c e c.length < 18446744073709551616:=by
   have h1:=xy c e c.length;have:2 ^ c.length<=2 ^ 64:=Nat.pow_le_pow_right (by decide) (by omega);omega
  refine cP abe (HR c jh e aE) ?_;refine cP abd (Mj _ Yj) ?_;refine br ?_ ?_<;>intro g
  ·have g:rG c e=true:=by
    simp at g;simp [rG];omega
   rw [jd aE g kG];refine ⟨_,?_,rfl⟩;exact ax
  ·have g:rG c e=false:=by
    simp at g;simp [rG];omega
   exact rE ⟨_,by omega,e + 1,rfl,by omega,fun a ha=>by
    rcases G8 ha with ha | rfl
    ·exact kG a ha
    ·exact g,rfl⟩ (dg (gv (cR aE (by omega))))
 ·have hge:e=c.length:=by have:=hL;simp at this;omega
  subst hge;rw [kW kG];refine ⟨_,?_,rfl⟩;exact ax
theorem xC {rows:List Nat} {i x a b:Nat} (hi:i < rows.length):bf (rows.set i x) a b=if a=i then x.testBit b else bf rows a b:=by grind [bf]
theorem oW {rows:List Nat} {k a b:Nat} (hk:k < rows.length):bf (ku rows k) a b=(bf rows a b || (decide (a=k) && decide (b=k))):=by
 unfold ku;rw [xC hk];by_cases h:a=k
 ·subst h;rw [ah rfl,kp];simp only [decide_true,Bool.true_and];rw [show decide (a=b)=decide (b=a) from by simp only [eq_comm]];rfl
 ·rw [ag h];simp [h]
theorem Mk {rows:List Nat} {k i a b:Nat} (hi:i < rows.length):bf (pP k rows i) a b=(bf rows a b || (decide (a=i) && (bf rows a k && bf rows k b))):=by grind [pP,bf,xC]
theorem Ax {rows:List Nat} {k:Nat} (hk:k < rows.length):∀ e,e<=rows.length->∀ a b,bf (ig rows k e) a b=(bf (ku rows k) a b || (decide (a < e) && (bf (ku rows k) a k && bf (ku rows k) k b)))
 | 0,_,a,b=>by simp [ig]
 | e + 1,he,a,b=>by
  have ih:=Ax hk e (by omega)
  grind [mX,Mk,oV,bf,ku,oW]
inductive DD (p:Nat->Nat->Prop):Nat->Nat->Prop
 | refl (a:Nat):DD p a a
 | step {a b c:Nat}:DD p a b->p b c->DD p a c
theorem DD.trans {p:Nat->Nat->Prop} {a b c:Nat} (h1:DD p a b) (h2:DD p b c):DD p a c:=by
 induction h2 with
 | refl=>exact h1
 | step _ h ih=>exact .step ih h
theorem DD.mono {p q:Nat->Nat->Prop} (h:∀ a b,p a b->DD q a b) {a b:Nat} (h1:DD p a b):DD q a b:=by
 induction h1 with
 | refl=>exact .refl _
 | step _ h2 ih=>exact ih.trans (h _ _ h2)
def wayQ (p:Nat->Nat->Prop):Nat->Nat->Nat->Prop
 | 0,a,b=>a=b∨p a b
 | k + 1,a,b=>wayQ p k a b∨(wayQ p k a k/\wayQ p k k b)
theorem Ay {p:Nat->Nat->Prop} (a:Nat):∀ k,wayQ p k a a
 | 0=>.inl rfl
 | k + 1=>.inl (Ay a k)
theorem Az {p:Nat->Nat->Prop} {a b:Nat} (h:p a b):∀ k,wayQ p k a b
 | 0=>.inr h
 | k + 1=>.inl (Az h k)
theorem rH {p:Nat->Nat->Prop}:∀ k a b,wayQ p k a b->DD p a b
 | 0,a,b,h=>by
  rcases h with rfl | h
  ·exact .refl _
  ·exact .step (.refl _) h
 | k + 1,a,b,h=>by
  rcases h with h | ⟨h1,h2⟩
  ·exact rH k a b h
  ·exact (rH k a k h1).trans (rH k k b h2)
theorem mY {p:Nat->Nat->Prop}:∀ k a m b,m < k->wayQ p k a m->wayQ p k m b->wayQ p k a b
 | 0,_,_,_,h,_,_=>by omega
 | k + 1,a,m,b,hm,h1,h2=>by
  by_cases Wg:m=k
  ·grind [wayQ]
  ·have mA:m < k:=by omega
   rcases h1 with h1 | ⟨h1,h3⟩
   ·rcases h2 with h2 | ⟨h2,h4⟩
    ·exact .inl (mY k a m b mA h1 h2)
    ·exact .inr ⟨mY k a m k mA h1 h2,h4⟩
   ·rcases h2 with h2 | ⟨h2,h4⟩
    ·exact .inr ⟨h1,mY k k m b mA h3 h2⟩
    ·exact .inr ⟨h1,h4⟩
theorem xD {rows:List Nat}:∀ k,k<=rows.length->∀ a b,a < rows.length->((bf (closeR rows k) a b=true∨a=b)↔wayQ (fun x y=>bf rows x y=true) k a b)/\(a < k->bf (closeR rows k) a a=true)
 | 0,_,a,b,_=>by grind [closeR,wayQ]
 | k + 1,hk,a,b,ha=>by
  have ih:=xD (rows:=rows) k (by omega);have D6:k < (closeR rows k).length:=by rw [fK];omega
  have hb:∀ a b,a < rows.length->bf (closeR rows (k + 1)) a b=(bf (ku (closeR rows k) k) a b || (bf (ku (closeR rows k) k) a k && bf (ku (closeR rows k) k) k b)):=fun a b ha=>by grind [kV,Ax,fK]
  have V9:∀ a b,(bf (ku (closeR rows k) k) a b=true∨a=b)↔(bf (closeR rows k) a b=true∨a=b):=fun a b=>by grind [oW]
  have GY:bf (ku (closeR rows k) k) k k=true:=by rw [oW D6];simp
  have key:∀ a b,a < rows.length->((bf (closeR rows (k + 1)) a b=true∨a=b)↔wayQ (fun x y=>bf rows x y=true) (k + 1) a b):=fun a b ha=>by grind [wayQ]
  refine ⟨key a b ha,fun hak=>?_⟩;rw [hb a a ha];by_cases h:a=k
  ·subst h;rw [GY];all_goals rfl
  ·have:=(ih a a ha).2 (by omega);rw [oW D6,this];all_goals rfl
theorem HX {rows:List Nat} (hb:∀ a b,a < rows.length->bf rows a b=true->b < rows.length) {a b:Nat} (ha:a < rows.length) (hbl:b < rows.length):bf (closeR rows rows.length) a b=true↔DD (fun x y=>x < rows.length/\bf rows x y=true) a b:=by
 have hw:=xD (rows:=rows) rows.length (bn _) a b ha;have h1:bf (closeR rows rows.length) a b=true↔wayQ (fun x y=>bf rows x y=true) rows.length a b:=by grind
 rw [h1];constructor
 ·intro h
  have aE:∀ {x},DD (fun x y=>bf rows x y=true) a x->DD (fun x y=>x < rows.length/\bf rows x y=true) a x/\x < rows.length:=by
   intro x hx
   induction hx with
   | refl=>exact ⟨.refl _,ha⟩
   | step _ h2 ih=>exact ⟨.step ih.1 ⟨ih.2,h2⟩,hb _ _ ih.2 h2⟩
  exact (aE (rH _ _ _ h)).1
 ·intro h
  have:wayQ (fun x y=>bf rows x y=true) rows.length a b/\b < rows.length:=by
   clear h1 hw hbl
   induction h with
   | refl=>exact ⟨Ay _ _,ha⟩
   | step _ h2 ih=>exact ⟨mY _ _ _ _ ih.2 ih.1 (Az h2.2 _),hb _ _ h2.1 h2.2⟩
  exact this.1
theorem P6 {rows:List Nat} {p:Nat × Nat} {a b:Nat} (hp:p.1 < rows.length):bf (xz rows p) a b=(bf rows a b || (decide (a=p.1) && decide (b=p.2))):=by
 unfold xz;rw [xC hp];by_cases h:a=p.1
 ·subst h;rw [ah rfl,kp];simp only [decide_true,Bool.true_and];rw [show decide (p.2=b)=decide (b=p.2) from by simp only [eq_comm]];rfl
 ·rw [ag h];simp [h]
theorem AA:∀ (l:List (Nat × Nat)) (rows:List Nat) (a b:Nat),(∀ p∈l,p.1 < rows.length)->(bf (l.foldl xz rows) a b=true↔bf rows a b=true∨(a,b)∈l)
 | [],_,_,_,_=>by simp
 | p :: l,rows,a,b,h=>by
  rw [List.foldl_cons,AA l _ a b (fun q hq=>by rw [rF];exact h q (by simp [hq])),P6 (h p (by simp))]
  grind
theorem xE {n:Nat} {l:List (Nat × Nat)} (h:∀ p∈l,p.1 < n) (a b:Nat):bf (fJ n l) a b=true↔(a,b)∈l:=by grind [fJ,AA,bf]
def jL (n:Nat) (l:List (Nat × Nat)) (a b:Nat):Bool:=bf (closeR (fJ n l) n) a b
def Ml (n:Nat) (l:List (Nat × Nat)):Prop:=∀ p∈l,p.1 < n/\p.2 < n
theorem rI {n:Nat} {l:List (Nat × Nat)} (h:Ml n l) {a b:Nat} (ha:a < n) (hb:b < n):jL n l a b=true↔DD (fun x y=>(x,y)∈l) a b:=by
 have hlen:(fJ n l).length=n:=kr n l;unfold jL
 have:=HX (rows:=fJ n l) (fun a b _ PW=>by
  rw [xE (fun p hp=>(h p hp).1)] at PW
  rw [hlen];exact (h _ PW).2) (a:=a) (b:=b) (by omega) (by omega)
 rw [hlen] at this;rw [this];constructor
 ·exact DD.mono fun x y NQ=>.step (.refl _) ((xE (fun p hp=>(h p hp).1) x y).1 NQ.2)
 ·exact DD.mono fun x y NQ=>.step (.refl _) ⟨(h _ NQ).1,(xE (fun p hp=>(h p hp).1) x y).2 NQ⟩
theorem AB {n:Nat} {l:List (Nat × Nat)} (h:Ml n l) {a:Nat} (ha:a < n):jL n l a a=true:=(rI h ha ha).2 (.refl _)
theorem HY {n:Nat} {l:List (Nat × Nat)} (h:Ml n l) {a b c:Nat} (ha:a < n) (hb:b < n) (hc:c < n) (h1:jL n l a b=true) (h2:jL n l b c=true):jL n l a c=true:=
 (rI h ha hc).2 (((rI h ha hb).1 h1).trans ((rI h hb hc).1 h2))
def xF (n:Nat) (f:Nat->Nat->Bool) (a:Nat):Bool:=(List.range n).any fun b=>decide (a≠b) && (f a b && f b a)
theorem P7 {n:Nat} {l:List (Nat × Nat)} (hn:n<=64) (h:Ml n l) {a:Nat} (ha:a < n):rG (closeR (fJ n l) n) a=xF n (jL n l) a:=by
 have hlen:(closeR (fJ n l) n).length=n:=by rw [fK,kr]
 unfold rG xF;rw [P4,hlen,Bool.eq_iff_iff,decide_eq_true_eq]
 have haa:(backN (closeR (fJ n l) n) a n).testBit a=true:=by
  rw [s9];have:bf (closeR (fJ n l) n) a a=true:=AB h ha;simp [ha,this]
 rw [Fc _ a haa 64 (by omega)];simp only [List.any_eq_true,List.mem_range,bg,decide_eq_true_eq,s9];constructor
 ·rintro ⟨b,_,bo,hb,h1,h2⟩;exact ⟨b,hb,fun e=>bo e.symm,h1,h2⟩
 ·rintro ⟨b,hb,bo,h1,h2⟩;exact ⟨b,by omega,fun e=>bo e.symm,hb,h1,h2⟩
theorem CE {p q:Nat->Bool} {n:Nat} (h:∀ a,a < n->p a=q a):dh p n=dh q n:=by
 unfold dh
 have:∀ (l:List Nat),(∀ a∈l,p a=q a)->l.find? p=l.find? q:=by
  intro l
  induction l with
  | nil=>intro _;rfl
  | cons x r ih=>grind
 grind
theorem TR {n:Nat} {l:List (Nat × Nat)} (hn:n<=64) (h:Ml n l):dh (rG (closeR (fJ n l) n)) n=dh (xF n (jL n l)) n:=
 CE fun _ ha=>P7 hn h ha
def LeB (r s:List Bool):Prop:=∀ i:Nat,r.getD i false=true->s.getD i false=true
def HZ (r:List Bool):Nat:=r.countP (fun x=>x)
theorem cntB_le (r:List Bool):HZ r<=r.length:=List.countP_le_length
theorem leB_eq:∀ {r s:List Bool},r.length=s.length->LeB r s->(r=s∨HZ r < HZ s)/\HZ r<=HZ s
 | [],[],_,_=>⟨.inl rfl,bn _⟩
 | x :: r,y :: s,hl,h=>by
  have wE:r.length=s.length:=sU hl;have ih:=leB_eq wE (fun i hi=>by simpa using h (i + 1) (sU hi));have h0:x=true->y=true:=fun hx=>by simpa using h 0 (sU hx)
  grind [HZ]
 | [],_ :: _,h,_=>by simp at h
 | _ :: _,[],h,_=>by simp at h
theorem Mm {l:List Wd} {i:Nat} {x:Wd} (h:l[i]? = some x):aO (l.take (i + 1))=aO (l.take i) ++ [x.s]:=by
 rw [List.take_add_one,h];simp [aO]
theorem TS (l:List Wd) (s:ByteArray):eu l s=true↔s∈aO l:=by grind [eu,aO]
theorem mZ {l:List Wd} {i:Nat} {x:Wd} (h:l[i]? = some x) (hn:(aO (l.take i)).Nodup):(aO (l.take (i + 1))).Nodup↔eu (l.take i) x.s=false:=by grind [Mm,eu,TS]
theorem AD {l:List Wd} {i:Nat} {x:Wd} (a:Int) (h:l[i]? = some x) (hn:(aO (l.take i)).Nodup) :
  ib (aO (l.take (i + 1))) x.s a=if bd l i x≠0 then (bd l i x,a) else (0,0):=by
 have hs:=mZ h hn;unfold ib bd;by_cases h1:ay x.s=true
 ·grind
 ·rw [ag h1,ag h1];all_goals rfl
theorem nb {l:List Wd} {i:Nat} {x:Wd} (h:l[i]? = some x) (hn:(aO (l.take i)).Nodup) (hz:bd l i x=0):(aO (l.take (i + 1))).Nodup:=by grind [mZ,bd,ay,eu]
theorem AE (l:List Wd):∀ (d e:Nat),e + d=l.length->(enumP l e)=(0,0)->(aO (l.take e)).Nodup->enumP l l.length=enumL l e (l.drop e)
 | 0,e,hd,hz,hn=>by
  have:e=l.length:=by omega
  subst this;rw [hz,List.drop_length];all_goals rfl
 | d + 1,e,hd,hz,hn=>by
  obtain ⟨x,hx⟩:∃ x,l[e]? = some x:=⟨_,gE (by omega)⟩;have h1:=xc (by rw [hz]) hx;rw [AD x.a hx hn] at h1;rw [drop_cons hx];simp only [enumL];by_cases hf:bd l e x≠0
  ·rw [ah hf] at h1 ⊢;have bp:=qh (l:=l) (e:=e + 1) (by rw [h1];exact hf) d
   grind
  ·rw [ag hf] at h1 ⊢;exact AE l d (e + 1) (by omega) h1 (nb hx hn (sU hf))
theorem P8 (h:Hd):oe h=iE h:=by
 unfold oe iE;by_cases h0:h.af=[]
 ·rw [ah h0,ah (by simp [h0])]
 ·rw [ag h0,ag (sU h0)];by_cases h1:64 < h.af.length
  ·rw [ah h1,ah h1]
  ·rw [ag h1,ag h1];have:=AE h.af h.af.length 0 (by omega) rfl (by simp [aO]);simpa using this
def qw (p:Ph):Ph:=⟨p.name,true,[],0,0,0,0,[]⟩
theorem TU (p:Ph) (t:Ty):dt p t (qw p) bX=(cw p hU && sameTy t bX):=by grind [cw,qw,hU,dt]
theorem empty_eq (p:Ph):dt p bX cp bX=(decide (p.name.s=aZ) && cw p cp):=by
 have e:sameTy bX bX=true:=by simp [bX,Hu,sameTy,lg,samePts,sameWds]
 simp only [dt,e,Bool.and_true];rfl
def gG (L:List ByteArray) (s:ByteArray):Option Nat:=dh (fun i=>decide (L[i]? = some s)) L.length
theorem iJ {L:List ByteArray} {s:ByteArray} {p:Nat} (h:gG L s=some p):p < L.length/\L[p]? = some s/\∀ j,L[j]? = some s->p<=j:=by
 obtain ⟨h1,h2,h3⟩:=je h
 grind
theorem TV {L:List ByteArray} {s:ByteArray} {p:Nat} (h1:L[p]? = some s) (h2:∀ j,L[j]? = some s->p<=j):gG L s=some p:=by
 refine jd (gS h1).1 (sU h1) fun a ha=>?_
 grind
theorem Mn {L:List ByteArray} {s:ByteArray} (h:∀ j:Nat,L[j]? ≠ some s):gG L s=none:=kW fun a _=>by simpa using h a
theorem iK (L:List ByteArray) (aN:List Nat) (s:ByteArray) (hT:iy L aN) (hl:aN.length<=1099511627776) :
  bA prog 112 [.pt (dm L aN) 0,.v (.string s)] (P5 (gG L s)):=by
 by_cases hm:s∈L
 ·obtain ⟨j,hj⟩:=List.mem_iff_getElem?.1 hm;obtain ⟨q,p,hq,hp⟩:=hT.all j s hj;rw [TV hp fun j' jw=>hT.fst q p j' s hq hp jw];exact find_spec L aN s q p hT hl hq hp
 rw [Mn fun j hj=>hm (mG hj)]
 let pr:Nat->Prop:=fun i=>i=aN.length∨∃ p t,aN[i]? = some p/\L[p]? = some t/\Cn t s=false
 obtain ⟨m,mC,DR⟩:=least (p:=pr) ⟨aN.length,.inl rfl⟩;have hmn:m<=aN.length:=DR _ (.inl rfl);refine eG 47 [.tmp 4,.tmp 5] func112 rfl ntmps112 rfl fun _ _ _ _=>?_
 have fD:∀ i:Nat,i < aN.length->bA prog 201 [.v (.int .i64 i),.pt [.pt (dm L aN) 0] 0,.pt [.v (.string s)] 0] (.v (.bool (decide (m<=i)))):=by
  intro i hi;obtain ⟨p',zx⟩:∃ p',aN[i]? = some p':=⟨_,gE hi⟩;obtain ⟨t,ht⟩:∃ t,L[p']? = some t:=⟨_,gE (hT.lt i p' zx)⟩;have:=wQ L aN s i p' t zx ht
  have e:(!Cn t s)=decide (m<=i):=by
   by_cases h:m<=i
   ·have:Cn t s=false:=by
     rcases mC with mC | ⟨p,u,h1,h2,h3⟩
     ·omega
     ·rcases Nat.lt_or_eq_of_le h with h4 | h4
      ·have h5:=hT.srt m i p p' u t h4 h1 zx h2 ht;cases h6:Cn t s
       ·rfl
       ·grind [gx,Cn]
      ·grind
    simp [this,h]
   ·grind
  rw [e] at this;exact this
 have hS:=uq 201 VE [.pt [.pt (dm L aN) 0] 0,.pt [.v (.string s)] 0] aN.length m hl hmn ax rfl fD;refine Cm VD hS (ug (cy aN)) rfl ?_;refine dI ?_;refine br ?_ ?_<;>intro h
 ·have aE:m < aN.length:=by grind [dInts,cy]
  rcases mC with mC | ⟨p,t,h1,h2,h3⟩
  ·omega
  refine iX (dJ h1) ?_;refine iX (hZ h2) ?_;refine br ?_ ?_<;>intro h4
  ·exact ⟨_,ax,rfl⟩
  ·grind [aD]
 ·exact ⟨_,ax,rfl⟩
def jA (l:List Wd) (o:List (Wd × Wd)):Ft:=
 if l=[] then (15,0)
 else if 32 < l.length then (8,((l[32]?).getD (⟨aZ,0⟩:Wd)).a)
 else if 256 < o.length then (8,((o[256]?).getD ((⟨aZ,0⟩,⟨aZ,0⟩):Wd × Wd)).1.a)
 else (0,0)
theorem Mo (l:List Wd) (o:List (Wd × Wd)):bA prog 123 [.sl 2 (cd l) none,.sl 4 (eY o) none] (jA l o).d:=by
 refine eG 30 [.cell 4 26] func123 rfl ntmps123 rfl fun _ _ _ _=>?_;refine br ?_ ?_<;>intro h
 ·have h:l=[]:=by simpa [aM] using h
  refine ⟨_,?_,rfl⟩;rw [jA,ah h];exact ax
 have h:¬ l=[]:=by simpa [aM] using h
 refine br ?_ ?_<;>intro h1
 ·have h1:32 < l.length:=by simp [aM] at h1;omega
  obtain ⟨x,hx⟩:∃ x,l[32]? = some x:=⟨_,gE h1⟩;refine ⟨nD x,⟨by omega,dy hx⟩,?_⟩;refine ⟨_,?_,rfl⟩;rw [jA,ag h,ah h1,hx];exact ax
 have h1:¬ 32 < l.length:=by simp [aM] at h1;omega
 refine br ?_ ?_<;>intro h2
 ·have h2:256 < o.length:=by simp [eB] at h2;omega
  obtain ⟨x,hx⟩:∃ x,o[256]? = some x:=⟨_,gE h2⟩;refine ⟨Tx x,⟨by omega,rr hx⟩,?_⟩;refine ⟨_,?_,rfl⟩;rw [jA,ag h,ag h1,ah h2,hx];exact ax
 have h2:¬ 256 < o.length:=by simp [eB] at h2;omega
 refine ⟨_,?_,rfl⟩;rw [jA,ag h,ag h1,ag h2];exact ax
def acn (f:Ft) (L:List ByteArray):DV:=.bK [if f.1=0 then .sl 1 (fN L) none else .v (.slice none 0 0),f.d]
abbrev Wh (l:List Wd) (n e:Nat):St:=
 ⟨[bq 3 0,(4,⟨[],.sl 1 (fN (aO (l.take e))) (some 0)⟩),dH 7 2 (cd l),aJ 8 ((cd l).length),aJ 9 e],[[.v (.int .i64 0),.v (.int .i64 0)]],[⟨n,9,1,none⟩]⟩
theorem xG {all:List Wd} {e:Nat} {w:Wd} (h:all[e]? = some w):enumL all e (all.drop e)=if bd all e w≠0 then (bd all e w,w.a) else enumL all (e + 1) (all.drop (e + 1)):=by
 rw [drop_cons h,enumL]
theorem Fe (l:List Wd) (hs:wdsWt l<=1099511627776):bA prog 124 [.sl 2 (cd l) none] (acn (enumL l 0 l) (aO l)):=by
 have v8:=cE l;refine eG 36 [.tmp 2,.cell 3 26] func124 rfl ntmps124 rfl fun _ _ _ _=>?_;refine lI (fun j st=>∃ e:Nat,st=Wh l e e/\e<=l.length/\(aO (l.take e)).Nodup/\enumL l 0 l=enumL l e (l.drop e)/\j=l.length - e) ⟨0,rfl,by omega,by simp [aO],rfl,rfl⟩ (gk ⟨0,9,1,none⟩ rfl ⟨_,rfl⟩ rfl wA rfl rfl vb) ?_;rintro j st ⟨e,rfl,he,hnd,bN,rfl⟩;rw [bN];refine br ?_ ?_<;>intro hL
 ·have aE:e < l.length:=by simpa [aM] using hL
  obtain ⟨w,hw⟩:=gX aE;have LN:=lQ (mG hw);have zn:=lT hw;have bp:=xG hw;have DC:=mZ hw hnd;have ZZ:=qf (aO (l.take (e + 1))) (by simp [aO];omega);rw [<- zn] at ZZ;refine ⟨nD w,⟨by omega,dy hw⟩,?_⟩;refine ⟨by simp [cT,aO];omega,⟨by simp [cT,aO,maxLen];omega,by simp [cT,aO];omega⟩,?_⟩;refine cP Ek (fG w.s (by omega)) ?_;refine br ?_ ?_<;>intro hN
  ·have hN:ay w.s=false:=sU hN;have hf:bd l e w=9:=by simp [bd,hN]
   rw [bp,hf,ah (by decide)];refine dS ?_;exact ⟨_,ax,rfl⟩
  ·have hN:ay w.s=true:=sU hN;refine eo OJ rfl ZZ ax (fun r hr=>?_);obtain ⟨z,rfl,hz⟩:=hr;refine br ?_ ?_<;>intro h2
   ·have h2:0<=z:=sU h2;have hd:eu (l.take e) w.s=true:=by grind
    have hf:bd l e w=10:=by simp [bd,hN,hd]
    rw [bp,hf,ah (by decide)];refine dS ?_;exact ⟨_,ax,rfl⟩
   ·have h2:¬ 0<=z:=sU h2;have zy:(aO (l.take (e + 1))).Nodup:=Classical.byContradiction fun hn=>h2 (hz.2 hn);have hf:bd l e w=0:=by simp [bd,hN,DC.1 zy]
    rw [hf,ag (by simp)] at bp;refine ⟨Wh l (e + 1) (e + 1),(dg (re (cR aE (by omega)) zn)),l.length - (e + 1),by omega,e + 1,rfl,by omega,zy,bp,rfl⟩
 ·have hge:e=l.length:=by
   have:=hL;simp [aM] at this;omega
  have h0:enumL l e (l.drop e)=(0,0):=by rw [hge,List.drop_length];all_goals rfl
  rw [h0];have ht:l.take e=l:=by rw [hge,List.take_length]
  rw [ht];exact ⟨_,ax,rfl⟩
def numF (L:List ByteArray):List (Wd × Wd)->Ft
 | []=>(0,0)
 | p :: r=>if gG L p.1.s=none then (17,p.1.a) else if gG L p.2.s=none then (17,p.2.a) else numF L r
def Yn (L:List ByteArray) (p:Wd × Wd):Nat × Nat:=((gG L p.1.s).getD 0,(gG L p.2.s).getD 0)
def fT (L:List ByteArray) (o:List (Wd × Wd)):List (Nat × Nat):=o.map (Yn L)
def aco (f:Ft) (l:List (Nat × Nat)):DV:=.bK [if f.1=0 then .sl 2 (vk l) none else .v (.slice none 0 0),f.d]
theorem Mp {L:List ByteArray} {o:List (Wd × Wd)} {e a b:Nat} {x:Wd × Wd} (h:o[e]? = some x) (ha:gG L x.1.s=some a) (hb:gG L x.2.s=some b):vk (fT L (o.take e)) ++ [[DV.v (.int .i64 (a:Int)),DV.v (.int .i64 (b:Int))]]=vk (fT L (o.take (e + 1))):=by
 rw [List.take_add_one,h];simp [vk,fT,Yn,ha,hb,dNP]
abbrev Wi (L:List ByteArray) (aN:List Nat) (o:List (Wd × Wd)) (n e:Nat):St:=
 ⟨[wD 0 (dm L aN),bq 5 0,(6,⟨[],.sl 2 (vk (fT L (o.take e))) (some 0)⟩),dH 12 4 (eY o),aJ 13 ((eY o).length),aJ 14 e],[[.v (.int .i64 0),.v (.int .i64 0)]],[⟨n,285,2,none⟩]⟩
theorem zC (L:List ByteArray) (aN:List Nat) (hT:iy L aN) (hl:aN.length<=1099511627776) (o:List (Wd × Wd)) (hs:prsWt o<=1099511627776) :
  bA prog 126 [.pt (dm L aN) 0,.sl 4 (eY o) none] (aco (numF L o) (fT L o)):=by
 have v8:=iH o;refine eG 55 [.tmp 4,.cell 5 26] func126 rfl ntmps126 rfl fun _ _ _ _=>?_;refine lI (fun j st=>∃ e:Nat,st=Wi L aN o e e/\e<=o.length/\numF L o=numF L (o.drop e)/\j=o.length - e) ⟨0,rfl,by omega,rfl,rfl⟩ (gk ⟨0,285,2,none⟩ rfl ⟨_,rfl⟩ rfl wA rfl rfl vb) ?_;rintro j st ⟨e,rfl,he,bN,rfl⟩;rw [bN];refine br ?_ ?_<;>intro hL
 ·have aE:e < o.length:=by simpa [eB] using hL
  obtain ⟨w,hw⟩:=gX aE;have bp:numF L (o.drop e)=if gG L w.1.s=none then (17,w.1.a) else if gG L w.2.s=none then (17,w.2.a) else numF L (o.drop (e + 1)):=by rw [drop_cons hw,numF]
  have Tv:=iK L aN w.1.s hT hl;have G1:=iK L aN w.2.s hT hl;refine ⟨Tx w,⟨by omega,rr hw⟩,?_⟩
  cases ha:gG L w.1.s with
  | none=>
   rw [ha] at Tv;refine cP nY Tv ?_;rw [bp,ah ha];refine dS ?_;exact ⟨_,ax,rfl⟩
  | some a=>
   rw [ha] at Tv;refine cP nY Tv ?_
   cases hb:gG L w.2.s with
   | none=>
    rw [hb] at G1;refine cP nY G1 ?_;rw [bp,ag (by rw [ha];simp),ah hb];refine dS ?_;exact ⟨_,ax,rfl⟩
   | some b=>
    rw [hb] at G1;refine cP nY G1 ?_;rw [ag (by rw [ha];simp),ag (by rw [hb];simp)] at bp;refine ⟨by simp [oi,fT];omega,⟨by simp [oi,fT,maxLen];omega,by simp [oi,fT];omega⟩,?_⟩;refine ⟨Wi L aN o (e + 1) (e + 1),(dg (re (cR aE (by omega)) (Mp hw ha hb))),o.length - (e + 1),by omega,e + 1,rfl,by omega,bp,rfl⟩
 ·have hge:e=o.length:=by
   have:=hL;simp [eB] at this;omega
  have h0:numF L (o.drop e)=(0,0):=by rw [hge,List.drop_length];all_goals rfl
  rw [h0];have ht:o.take e=o:=by rw [hge,List.take_length]
  rw [ht];exact ⟨_,ax,rfl⟩
def cZ (l:List Int):List DV:=l.map fun z=>DV.v (.int .i64 z)
def H0 (af:List ByteArray) (tb lq:DV) (js:List Int):List DV:=.sl 1 (fN af) none :: tb :: lq :: cZ js
def oz:Option Nat->Int
 | none=>-1
 | some k=>(k:Int)
def Kc (pb:Nat->Nat->Bool) (e:Nat):Option Nat->Bool
 | none=>true
 | some o=>pb e o
def bestA (lj:Nat->Bool) (pb:Nat->Nat->Bool):Nat->Option Nat
 | 0=>none
 | e + 1=>if lj e && Kc pb e (bestA lj pb e) then some e else bestA lj pb e
def pQ (lj:Nat->Bool) (pb:Nat->Nat->Bool) (n:Nat):Option Nat:=
 match bestA lj pb n with
 | none=>none
 | some o=>if (List.range n).any (fun c=>lj c && !pb o c) then none else some o
theorem rJ {lj:Nat->Bool} {pb:Nat->Nat->Bool}:∀ {e k:Nat},bestA lj pb e=some k->k < e
 | 0,k,h=>by cases h
 | e + 1,k,h=>by
  rw [bestA] at h;split at h
  ·simp only [oI] at h;omega
  ·have:=rJ h;omega
theorem tf (af:List ByteArray) (tb:DV) (rows:List Nat) (js:List Int) (hr:eC rows) (a b:Nat) (ha:a < rows.length) (hb:b < rows.length) :
  bA prog 211 [.v (.int .i64 a),.v (.int .i64 b),.pt [.pt (H0 af tb (nM rows) js) 0] 0] (.v (.bool (bf rows a b))):=by
 have h1:=lZ rows hr a b;rw [rC ha hb] at h1;refine eG 13 [.tmp 5] func211 rfl ntmps211 rfl fun _ _ _ _=>?_;refine cP Eo h1 ?_;exact (rfl:_=_)
theorem tg (af:List ByteArray) (tb:DV) (rows:List Nat) (js:List Int) (hr:eC rows) (a b:Nat) (ha:a < rows.length) (hb:b < rows.length) :
  bA prog 213 [.v (.int .i64 a),.v (.int .i64 b),.pt [.pt (H0 af tb (nM rows) js) 0] 0] (.v (.bool (bf rows b a))):=by
 have h1:=lZ rows hr b a;rw [rC hb ha] at h1;refine eG 13 [.tmp 5] func213 rfl ntmps213 rfl fun _ _ _ _=>?_;refine cP Eo h1 ?_;exact (rfl:_=_)
abbrev Wj (L:List DV):DV:=.fn 211 [] [.pt [.pt L 0] 0]
abbrev Wl (L:List DV):DV:=.fn 213 [] [.pt [.pt L 0] 0]
theorem Mq (af:List ByteArray) (tb:DV) (rows:List Nat) (js:List Int) (hr:eC rows) (a b c:Nat) (ha:a < rows.length) (hb:b < rows.length) (hc:c < rows.length) :
  bA prog 215 [.v (.int .i64 c),.pt [Wj (H0 af tb (nM rows) js)] 0,.pt [.v (.int .i64 a)] 0,.pt [.v (.int .i64 b)] 0] (.v (.bool (bf rows a c && bf rows b c))):=by
 have h1:=tf af tb rows js hr a c ha hc;have h2:=tf af tb rows js hr b c hb hc;refine eG 16 [.tmp 5] func215 rfl ntmps215 rfl fun _ _ _ _=>?_;refine cP OO h1 ?_;refine br ?_ ?_<;>intro g
 ·have g:bf rows a c=true:=sU g;refine cP OO h2 ?_;refine (dP ?_:);simp [g,pickB]
 ·have g:bf rows a c=false:=sU g;refine (dP ?_:);simp [g,pickB]
theorem Mr (af:List ByteArray) (tb:DV) (rows:List Nat) (js:List Int) (hr:eC rows) (a b c:Nat) (ha:a < rows.length) (hb:b < rows.length) (hc:c < rows.length) :
  bA prog 216 [.v (.int .i64 c),.pt [Wl (H0 af tb (nM rows) js)] 0,.pt [.v (.int .i64 a)] 0,.pt [.v (.int .i64 b)] 0] (.v (.bool (bf rows c a && bf rows c b))):=by
 have h1:=tg af tb rows js hr a c ha hc;have h2:=tg af tb rows js hr b c hb hc;refine eG 16 [.tmp 5] func216 rfl ntmps216 rfl fun _ _ _ _=>?_;refine cP OP h1 ?_;refine br ?_ ?_<;>intro g
 ·have g:bf rows c a=true:=sU g;refine cP OP h2 ?_;refine (dP ?_:);simp [g,pickB]
 ·have g:bf rows c a=false:=sU g;refine (dP ?_:);simp [g,pickB]
abbrev Yo (L:List DV) (gi gb:Nat) (ci cb:List DV) (n:Nat) (o:Int) (e:Nat):St:=
 ⟨[wD 0 L,(1,⟨[],.fn gi [] ci⟩),(2,⟨[],.fn gb [] cb⟩),aJ 7 o,aJ 14 n,aJ 15 e],[],[]⟩
abbrev Kd (L:List DV) (gi gb:Nat) (ci cb:List DV) (n:Nat) (o:Int) (e:Nat):St:=
 ⟨[wD 0 L,(1,⟨[],.fn gi [] ci⟩),(2,⟨[],.fn gb [] cb⟩),aJ 7 o,aJ 37 n,aJ 38 e],[],[]⟩
theorem AF (af:List ByteArray) (tb lq:DV) (js:List Int) (gi gb:Nat) (hei:Enters prog gi) (heb:Enters prog gb) (ci cb:List DV) (lj:Nat->Bool) (pb:Nat->Nat->Bool)
  (acp:CcL [] 0 0 0 ci ci) (acq:CcL [] 0 0 0 cb cb) (hcli:clB.clL 0 0 ci=true) (hclb:clB.clL 0 0 cb=true) (hn:af.length<=64)
  (JV:∀ c:Nat,c < af.length->bA prog gi (.v (.int .i64 c) :: ci) (.v (.bool (lj c))))
  (hpb:∀ a b:Nat,a < af.length->b < af.length->bA prog gb (.v (.int .i64 a) :: .v (.int .i64 b) :: cb) (.v (.bool (pb a b)))) :
  bA prog 214 [.pt (H0 af tb lq js) 0,.fn gi [] ci,.fn gb [] cb] (.v (.int .i64 (oz (pQ lj pb af.length)))):=by
 have hN:=cT af;have H2:clB 0 0 (.fn gi [] ci)=true:=by simp only [clB,bg];exact ⟨rfl,hcli⟩
 have H3:clB 0 0 (.fn gb [] cb)=true:=by simp only [clB,bg];exact ⟨rfl,hclb⟩
 refine eG 57 [.tmp 6] func214 rfl ntmps214 rfl fun _ _ _ _=>?_;refine lJ (fun e=>Yo (H0 af tb lq js) gi gb ci cb (fN af).length (oz (bestA lj pb e)) e) af.length (dg (re H2 H3)) ?_;intro e he;refine br ?_ ?_<;>intro hL
 ·have aE:e < af.length:=by have:=hL;simp [hN] at this;exact this
  have hs:bestA lj pb (e + 1)=if lj e && Kc pb e (bestA lj pb e) then some e else bestA lj pb e:=rfl
  refine cP hei (JV e aE) ?_ ⟨_,_,rfl,rfl,acp⟩
  cases hA:bestA lj pb e with
  | none=>
   rw [hA] at hs;refine br ?_ ?_<;>intro g
   ·have g:lj e=true:=by simpa [lastG] using g
    have hz:(e:Int)=oz (bestA lj pb (e + 1)):=by rw [hs,g];all_goals rfl
    exact rE ⟨_,by omega,e + 1,rfl,by omega,rfl⟩ (dg (wB4 H2 H3 (cR aE (by omega)) hz))
   ·have g:lj e=false:=by simpa [lastG] using g
    have hz:oz none=oz (bestA lj pb (e + 1)):=by rw [hs,g];all_goals rfl
    exact rE ⟨_,by omega,e + 1,rfl,by omega,rfl⟩ (dg (wB4 H2 H3 (cR aE (by omega)) hz))
  | some k=>
   rw [hA] at hs;have hk:=rJ hA;refine br ?_ ?_<;>intro g
   ·have g:lj e=true:=by simpa [lastG] using g
    refine cP heb (hpb e k aE (by omega)) ?_ ⟨_,_,rfl,rfl,_,_,rfl,rfl,acq⟩;refine br ?_ ?_<;>intro g2
    ·have g2:pb e k=true:=by simpa [pickB,g,lastG] using g2
     have hz:(e:Int)=oz (bestA lj pb (e + 1)):=by rw [hs,g,Kc,g2];all_goals rfl
     exact rE ⟨_,by omega,e + 1,rfl,by omega,rfl⟩ (dg (wB4 H2 H3 (cR aE (by omega)) hz))
    ·have g2:pb e k=false:=by simpa [pickB,g,lastG] using g2
     have hz:oz (some k)=oz (bestA lj pb (e + 1)):=by rw [hs,g,Kc,g2];all_goals rfl
     exact rE ⟨_,by omega,e + 1,rfl,by omega,rfl⟩ (dg (wB4 H2 H3 (cR aE (by omega)) hz))
   ·have g:lj e=false:=by simpa [lastG] using g
    have hz:oz (some k)=oz (bestA lj pb (e + 1)):=by rw [hs,g];all_goals rfl
    exact rE ⟨_,by omega,e + 1,rfl,by omega,rfl⟩ (dg (wB4 H2 H3 (cR aE (by omega)) hz))
 ·have hge:e=af.length:=sW hN hL;subst hge;refine lI (fun j st=>∃ e:Nat,st=Kd (H0 af tb lq js) gi gb ci cb (fN af).length (oz (bestA lj pb af.length)) e/\e<=af.length/\(∀ o,bestA lj pb af.length=some o->∀ c,c < e->(lj c && !pb o c)=false)/\j=af.length - e) ⟨0,rfl,by omega,fun _ _ c hc=>by omega,rfl⟩ (dg (re H2 H3)) ?_;rintro j st ⟨e,rfl,he,kG,rfl⟩;refine br ?_ ?_<;>intro hL
  ·have aE:e < af.length:=by have:=hL;simp [hN] at this;exact this
   cases hA:bestA lj pb af.length with
   | none=>
    exact ⟨Kd (H0 af tb lq js) gi gb ci cb (fN af).length (oz none) (e + 1),(dg (wB3 H2 H3 (cR aE (by omega)))),af.length - (e + 1),by omega,e + 1,rfl,by omega,(fun _ h=>by cases h),rfl⟩
   | some o=>
    have ho:=rJ hA;have kG:=kG o hA;refine cP hei (JV e aE) ?_ ⟨_,_,rfl,rfl,acp⟩;refine br ?_ ?_<;>intro g
    ·have g:lj e=true:=by simpa [pickB] using g
     refine cP heb (hpb o e ho aE) ?_ ⟨_,_,rfl,rfl,_,_,rfl,rfl,acq⟩;refine br ?_ ?_<;>intro g2
     ·have g2:pb o e=false:=by simpa [pickB,g,lastG] using g2
      have:pQ lj pb af.length=none:=by
       rw [pQ,hA];simp only;rw [ah];rw [List.any_eq_true];exact ⟨e,by simpa using aE,by simp [g,g2]⟩
      rw [this];exact (rfl:_=_)
     ·have g2:pb o e=true:=by simpa [pickB,g,lastG] using g2
      exact rE ⟨_,by omega,e + 1,rfl,by omega,fun o' Js c hc=>by
       cases Js;rcases G8 hc with hc | rfl
       ·exact kG c hc
       ·simp [g2],rfl⟩ (dg (wB3 H2 H3 (cR aE (by omega))))
    ·have g:lj e=false:=by simpa [pickB] using g
     exact rE ⟨_,by omega,e + 1,rfl,by omega,fun o' Js c hc=>by
       cases Js;rcases G8 hc with hc | rfl
       ·exact kG c hc
       ·simp [g],rfl⟩ (dg (wB3 H2 H3 (cR aE (by omega))))
  ·have hge:e=af.length:=sW hN hL;subst hge
   have:pQ lj pb af.length=bestA lj pb af.length:=by
    cases hA:bestA lj pb af.length with
    | none=>rw [pQ,hA]
    | some o=>
     rw [pQ,hA];simp only;rw [ag];rw [List.any_eq_true];rintro ⟨c,hc,h2⟩;rw [kG o hA c (sU hc)] at h2;cases h2
   rw [this];exact (rfl:_=_)
theorem ti (js:List Int) (bx:List (List DV)) (N n m:Nat):CcL bx N n m (cZ js) (cZ js):=by
 induction js with
 | nil=>exact rfl
 | cons z r ih=>exact ⟨_,_,rfl,rfl,ih⟩
theorem sH {n m:Nat} {tk:List TkE} (js:List Int):WeL n m tk (cZ js) (cZ js):=Cz _ fun x hx=>by
 obtain ⟨z,_,rfl⟩:=List.mem_map.1 hx;exact ⟨_,rfl⟩
theorem Yp (f:Nat->Nat) (js:List Int):renL f (cZ js)=cZ js:=by
 induction js with
 | nil=>rfl
 | cons z r ih=>simp only [cZ,List.map_cons,renL,renD] at ih ⊢;rw [ih]
theorem Yq (js:List Int):(cZ js).length=js.length:=by simp [cZ]
theorem P9 (js:List Int) (i:Nat) (z:Int):(cZ js).set i (.v (.int .i64 z))=cZ (js.set i z):=by simp [cZ,List.map_set]
abbrev iL (af:List ByteArray) (tc:List DV) (rows:List Nat) (js:List Int):List DV:=H0 af (.pt tc 0) (nM rows) js
theorem TW (af:List ByteArray) (tc:List DV) (rows:List Nat) (js:List Int):(iL af tc rows js).length=js.length + 3:=by simp [H0,cZ]
theorem vB {af:List ByteArray} {tc:List DV} {rows:List Nat} {js:List Int} {i k:Nat} {z:Int} (h:k=i + 3):(iL af tc rows js).set k (.v (.int .i64 z))=iL af tc rows (js.set i z):=by grind [H0,P9]
theorem TX (f:Nat->Nat) (af:List ByteArray) (tc:List DV) (rows:List Nat) (js:List Int):renL f (iL af tc rows js)=iL af tc rows js:=by
 simp only [H0,renL,Yp];rfl
theorem Ke {n m:Nat} {tk:List TkE} {l:List DV} {af:List ByteArray} {tc:List DV} {rows:List Nat} {js:List Int} (h:l=iL af tc rows js):WeL n m tk l (iL af tc rows js):=by
 subst h;exact ⟨_,_,rfl,az rfl,_,_,rfl,az rfl,_,_,rfl,az rfl,sH js⟩
def ij (f:Nat->Nat->Bool) (n a b:Nat):Option Nat:=pQ (fun c=>f a c && f b c) f n
def jB (f:Nat->Nat->Bool) (n a b:Nat):Option Nat:=pQ (fun c=>f c a && f c b) (fun x y=>f y x) n
theorem xH (f:Nat->Nat->Bool) (n a b:Nat):ij f n a b=ij f n b a:=by grind [ij]
theorem xI (f:Nat->Nat->Bool) (n a b:Nat):jB f n a b=jB f n b a:=by grind [jB]
def om (f:Nat->Nat->Bool) (n a b:Nat):Bool:=(ij f n a b).isNone || (jB f n a b).isNone
def rK (f:Nat->Nat->Bool) (n b:Nat):Bool:=(List.range (b + 1)).any fun a=>om f n a b
def JM (f:Nat->Nat->Bool) (n:Nat) (js:List Int) (a b:Nat):Prop:=js[a * 32 + b]? = some (oz (ij f n a b))/\js[1024 + (a * 32 + b)]? = some (oz (jB f n a b))
def zD (js:List Int) (a b:Nat) (j m:Int):List Int:=(((js.set (a * 32 + b) j).set (b * 32 + a) j).set (1024 + (a * 32 + b)) m).set (1024 + (b * 32 + a)) m
theorem Qa (js:List Int) (a b:Nat) (j m:Int):(zD js a b j m).length=js.length:=by simp [zD]
theorem qx {js:List Int} {i k:Nat} {z:Int} (h:k≠i):(js.set k z)[i]? = js[i]?:=List.getElem?_set_ne h
theorem Kf {f:Nat->Nat->Bool} {n:Nat} {js:List Int} (hl:js.length=2048) {a b:Nat} (ha:a < 32) (hb:b < 32) {x y:Nat} (hx:x < 32) (hy:y < 32)
  (h:JM f n js x y∨(x=a/\y=b)∨(x=b/\y=a)):JM f n (zD js a b (oz (ij f n a b)) (oz (jB f n a b))) x y:=by
 have key:(x=a/\y=b)∨(x=b/\y=a)∨(JM f n js x y/\¬ (x=a/\y=b)/\¬ (x=b/\y=a)):=by grind
 rcases key with ⟨rfl,rfl⟩ | ⟨rfl,rfl⟩ | ⟨h,h1,h2⟩
 ·grind [JM,zD,qx]
 ·grind [JM,zD,xH,xI,qx]
 ·grind [JM,zD,qx]
abbrev Wm (af:List ByteArray) (tc:List DV) (rows:List Nat) (js:List Int) (e:Nat):St:=
 ⟨[bq 1 1,bq 3 2,bq 4 3,aJ 15 ((fN af).length),aJ 16 e],
  [iL af tc rows js,[.loc 0 0],[.fn 211 [] [.loc 1 0]],[.fn 213 [] [.loc 1 0]]],[]⟩
abbrev H4 (af:List ByteArray) (tc:List DV) (rows:List Nat) (js:List Int) (e f:Nat):St:=
 ⟨[bq 1 1,bq 3 2,bq 4 3,aJ 15 ((fN af).length),aJ 16 e,bq 5 4,bq 6 5],
  [iL af tc rows js,[.loc 0 0],[.fn 211 [] [.loc 1 0]],[.fn 213 [] [.loc 1 0]],[.v (.int .i64 e)],[.v (.int .i64 f)]],[]⟩
abbrev Qb (af:List ByteArray) (tc:List DV) (rows:List Nat) (js:List Int) (e f:Nat):St:=
 ⟨[bq 1 1,bq 3 2,bq 4 3,aJ 15 ((fN af).length),aJ 16 e,bq 5 4,bq 6 6],
  [iL af tc rows js,[.loc 0 0],[.fn 211 [] [.loc 1 0]],[.fn 213 [] [.loc 1 0]],[.v (.int .i64 e)],[.v (.int .i64 f)],[.v (.int .i64 (f + 1:Nat))]],[]⟩
abbrev Qc (af:List ByteArray) (tc:List DV) (rows:List Nat) (js:List Int) (e f:Nat):St:=
 ⟨[bq 1 1,bq 3 2,bq 4 3,aJ 15 ((fN af).length),aJ 16 e,bq 5 4,bq 6 5],
  [iL af tc rows js,[.loc 0 0],[.fn 211 [] [.loc 1 0]],[.fn 213 [] [.loc 1 0]],[.v (.int .i64 e)],[.v (.int .i64 (f + 1:Nat))],[.v (.int .i64 f)]],[]⟩
theorem TY (af:List ByteArray) (tc:List DV) (rows:List Nat) (js:List Int) (e f:Nat):Qb af tc rows js e f=gl 5 6 (Qc af tc rows js e f):=by
 simp only [gl,renO,TX];rfl
def BndΦ (af:List ByteArray) (tc:List DV) (rows:List Nat) (r:DV) (os:List (List DV)) (_:List TkE):Prop:=
 ∃ Yr,os=[iL af tc rows Yr]/\Yr.length=2048/\r = .v (.int .i64 (oz (dh (rK (bf rows) af.length) af.length))) /\
  (dh (rK (bf rows) af.length) af.length=none->∀ x y,x < af.length->y < af.length->JM (bf rows) af.length Yr x y)
theorem Ff (af:List ByteArray) (tc:List DV) (rows:List Nat) (js:List Int) (hr:eC rows) (hlen:rows.length=af.length) (hn:af.length<=32) (hj:js.length=2048) :
  Ev prog 130 [.loc 0 0] [iL af tc rows js] [] (BndΦ af tc rows):=by
 have hN:=cT af;refine eG 73 [.tmp 2] func130 rfl ntmps130 rfl fun _ _ _ _=>?_;refine lI (fun j st=>∃ (e:Nat) (js:List Int),st=Wm af tc rows js e/\e<=af.length/\js.length=2048/\(∀ b,b < e->rK (bf rows) af.length b=false)/\(∀ x y,x < e->y < e->JM (bf rows) af.length js x y)/\j=af.length - e) ⟨0,js,rfl,by omega,hj,fun _ h=>by omega,fun _ _ h=>by omega,rfl⟩ (kD 4 JB vb) ?_;rintro j st ⟨e,js,rfl,he,hj,kG,CF,rfl⟩;refine br ?_ ?_<;>intro hL
 ·have aE:e < af.length:=by have:=hL;simp [hN] at this;exact this
  refine PJ (fun j st=>∃ (f:Nat) (js:List Int),st=H4 af tc rows js e f/\f<=e + 1/\js.length=2048/\(∀ a,a < f->om (bf rows) af.length a e=false)/\(∀ x y,x < e->y < e->JM (bf rows) af.length js x y)/\(∀ x,x < f->JM (bf rows) af.length js x e/\JM (bf rows) af.length js e x)/\j=e + 1 - f) (e + 1) (H4 af tc rows js e 0) (.Ya (kD 6 JB vb)) ⟨0,js,rfl,by omega,hj,fun _ h=>by omega,CF,fun _ h=>by omega,by omega⟩ ?_;clear CF hj;rintro j st ⟨f,js,rfl,hf,hj,hla,CF,hje,rfl⟩;refine br ?_ ?_<;>intro Qd
  ·have NL:f<=e:=by have:=Qd;simp at this;exact this
   have nU:=AF af (.pt tc 0) (nM rows) js 215 211 abf OO
    [.pt [Wj (iL af tc rows js)] 0,.pt [.v (.int .i64 f)] 0,.pt [.v (.int .i64 e)] 0] [.pt [.pt (iL af tc rows js) 0] 0] (fun c=>bf rows f c && bf rows e c) (bf rows) ax ax rfl rfl (by omega)
    (fun c hc=>Mq af (.pt tc 0) rows js hr f e c (by omega) (by omega) (by omega)) (fun a b ha hb=>tf af (.pt tc 0) rows js hr a b (by omega) (by omega))
   have iW:=AF af (.pt tc 0) (nM rows) js 216 213 abg OP
    [.pt [Wl (iL af tc rows js)] 0,.pt [.v (.int .i64 f)] 0,.pt [.v (.int .i64 e)] 0] [.pt [.pt (iL af tc rows js) 0] 0] (fun c=>bf rows c f && bf rows c e) (fun x y=>bf rows y x) ax ax rfl rfl (by omega)
    (fun c hc=>Mr af (.pt tc 0) rows js hr f e c (by omega) (by omega) (by omega)) (fun a b ha hb=>tg af (.pt tc 0) rows js hr a b (by omega) (by omega))
   refine Cm VG nU (by repeat' (first | exact rfl | exact trivial | exact Or.inr (Or.inl ⟨_,rfl⟩) | exact Or.inr ⟨_,rfl⟩ | exact Or.inl ⟨rfl,rfl⟩ | exact Or.inl rfl | refine Or.inr ⟨_,_,rfl,Nat.zero_le _,rfl,?_⟩ | refine ⟨_,_,rfl,?_,?_⟩ | refine ⟨_,rfl,?_⟩ | exact ti _ _ _ _ _ | refine Or.inr (Or.inr (Or.inr ⟨_,_,rfl,?_⟩)) | exact Or.inl rfl | refine Or.inr ?_)) rfl ?_;refine Cm VG iW (by repeat' (first | exact rfl | exact trivial | exact Or.inr (Or.inl ⟨_,rfl⟩) | exact Or.inr ⟨_,rfl⟩ | exact Or.inl ⟨rfl,rfl⟩ | exact Or.inl rfl | refine Or.inr ⟨_,_,rfl,Nat.zero_le _,rfl,?_⟩ | refine ⟨_,_,rfl,?_,?_⟩ | refine ⟨_,rfl,?_⟩ | exact ti _ _ _ _ _ | refine Or.inr (Or.inr (Or.inr ⟨_,_,rfl,?_⟩)) | exact Or.inl rfl | refine Or.inr ?_)) rfl ?_
   have hlk:pickB (decide (oz (ij (bf rows) af.length f e) = -1)) true (decide (oz (jB (bf rows) af.length f e) = -1))=om (bf rows) af.length f e:=by
    unfold om
    cases ij (bf rows) af.length f e with
    | none=>rfl
    | some j=>
     have:decide (oz (some j) = -1)=false:=by simp [oz]
     rw [this]
     cases jB (bf rows) af.length f e with
     | none=>rfl
     | some m=>
      have:decide (oz (some m) = -1)=false:=by simp [oz]
      rw [this];rfl
   refine br ?_ ?_<;>intro g
   ·have g:om (bf rows) af.length f e=true:=hlk.symm.trans g;have hb:rK (bf rows) af.length e=true:=by grind [rK]
    have wv:=jd (p:=rK (bf rows) af.length) aE hb kG;refine ⟨.v (.int .i64 e),[iL af tc rows js],ax,(by repeat' (first | exact rfl | exact trivial | exact Or.inr (Or.inl ⟨_,rfl⟩) | exact Or.inr ⟨_,rfl⟩ | exact Or.inl ⟨rfl,rfl⟩ | exact Or.inl rfl | refine Or.inr ⟨_,_,rfl,Nat.zero_le _,rfl,?_⟩ | refine ⟨_,_,rfl,?_,?_⟩ | refine ⟨_,rfl,?_⟩ | exact ti _ _ _ _ _ | refine Or.inr (Or.inr (Or.inr ⟨_,_,rfl,?_⟩)) | exact Or.inl rfl | refine Or.inr ?_)),js,rfl,hj,?_,fun h=>by rw [wv] at h;cases h⟩;rw [wv];rfl
   ·have g:om (bf rows) af.length f e=false:=hlk.symm.trans g;refine cr [0] (fun _=>false) mo (by decide +kernel) ?_;have qM:=TW af tc rows js;refine ⟨⟨by omega,by omega⟩,?_⟩;refine ⟨⟨by omega,by omega⟩,?_⟩;refine ⟨by rw [qM];omega,?_⟩;refine ⟨⟨by omega,by omega⟩,?_⟩;refine ⟨⟨by omega,by omega⟩,?_⟩;refine ⟨by rw [List.length_set,qM];omega,?_⟩;refine cr [0] (fun _=>false) mo (by decide +kernel) ?_;refine ⟨⟨by omega,by omega⟩,?_⟩;refine ⟨⟨by omega,by omega⟩,?_⟩;refine ⟨by rw [List.length_set,List.length_set,qM];omega,?_⟩;refine ⟨⟨by omega,by omega⟩,?_⟩;refine ⟨⟨by omega,by omega⟩,?_⟩;refine ⟨by rw [List.length_set,List.length_set,List.length_set,qM];omega,?_⟩
    have iT:((((iL af tc rows js).set (0 + 0 + 3 + (f:Int).toNat * 32 + (e:Int).toNat * 1) (DV.v (.int .i64 (oz (ij (bf rows) af.length f e))))).set (0 + 0 + 3 + (e:Int).toNat * 32 + (f:Int).toNat * 1) (DV.v (.int .i64 (oz (ij (bf rows) af.length f e))))).set (0 + 0 + 1027 + (f:Int).toNat * 32 + (e:Int).toNat * 1) (DV.v (.int .i64 (oz (jB (bf rows) af.length f e))))).set (0 + 0 + 1027 + (e:Int).toNat * 32 + (f:Int).toNat * 1) (DV.v (.int .i64 (oz (jB (bf rows) af.length f e))))=iL af tc rows (zD js f e (oz (ij (bf rows) af.length f e)) (oz (jB (bf rows) af.length f e))):=by
     rw [vB (i:=f * 32 + e) (by omega),vB (i:=e * 32 + f) (by omega),vB (i:=1024 + (f * 32 + e)) (by omega),vB (i:=1024 + (e * 32 + f)) (by omega)];rfl
    refine ⟨H4 af tc rows (zD js f e (oz (ij (bf rows) af.length f e)) (oz (jB (bf rows) af.length f e))) e (f + 1),
     .trans (.Ya (s2:=Qb af tc rows (zD js f e (oz (ij (bf rows) af.length f e)) (oz (jB (bf rows) af.length f e))) e f) (kD 7 (by repeat' (first | exact rfl | exact az rfl | exact Ke iT | exact aP (cR (n:=e + 1) (by omega) (by omega)) | refine ⟨_,_,rfl,?_,?_⟩)) (by repeat' (first | exact trivial | exact az rfl | exact Ke iT | exact aP (cR (n:=e + 1) (by omega) (by omega)) | refine ⟨⟨_,rfl,?_⟩,?_⟩))))
      (.trans (.Ht 5 6 (Qc af tc rows (zD js f e (oz (ij (bf rows) af.length f e)) (oz (jB (bf rows) af.length f e))) e f) _ (TY _ _ _ _ _ _) rfl rfl rfl rfl) (.Ya (kD 6 JB vb))),
     e + 1 - (f + 1),by omega,f + 1,_,rfl,by omega,by rw [Qa];exact hj,fun a ha=>?_,fun x y hx hy=>?_,fun x hx=>?_,rfl⟩
    ·grind
    ·grind [Kf]
    ·grind [Kf]
  ·have NL:f=e + 1:=by have:=Qd;simp at this;omega
   subst NL;have hb:rK (bf rows) af.length e=false:=by grind [rK]
   refine ⟨Wm af tc rows js (e + 1),(kD 4 (Ea (cR aE (by omega))) (gv (cR aE (by omega)))),af.length - (e + 1),by omega,e + 1,js,rfl,by omega,hj,fun b ef=>?_,fun x y hx hy=>?_,rfl⟩
   ·grind
   ·grind
 ·have hge:e=af.length:=sW hN hL;subst hge;refine ⟨.v (.int .i64 (-1)),[iL af tc rows js],ax,(by repeat' (first | exact rfl | exact trivial | exact Or.inr (Or.inl ⟨_,rfl⟩) | exact Or.inr ⟨_,rfl⟩ | exact Or.inl ⟨rfl,rfl⟩ | exact Or.inl rfl | refine Or.inr ⟨_,_,rfl,Nat.zero_le _,rfl,?_⟩ | refine ⟨_,_,rfl,?_,?_⟩ | refine ⟨_,rfl,?_⟩ | exact ti _ _ _ _ _ | refine Or.inr (Or.inr (Or.inr ⟨_,_,rfl,?_⟩)) | exact Or.inl rfl | refine Or.inr ?_)),js,rfl,hj,?_,fun _=>CF⟩;rw [kW kG];rfl
def Z0 (l:List Wd) (k:Nat):Int:=((l[k]?).getD (⟨aZ,0⟩:Wd)).a
def latF (l:List Wd) (o:List (Wd × Wd)):Ft:=
 if (jA l o).1≠0 then jA l o
 else if (enumL l 0 l).1≠0 then enumL l 0 l
 else if (numF (aO l) o).1≠0 then numF (aO l) o
 else match dh (xF l.length (jL l.length (fT (aO l) o))) l.length with
  | some a=>(11,Z0 l a)
  | none=>
   match dh (rK (jL l.length (fT (aO l) o)) l.length) l.length with
   | some b=>(12,Z0 l b)
   | none=>(0,0)
def Ys (l:List Wd) (o:List (Wd × Wd)) (d:DV):Prop:=
 ∃ aN js,iy (aO l) aN/\aN.length<=l.length/\js.length=2048/\(∀ x y,x < l.length->y < l.length->JM (jL l.length (fT (aO l) o)) l.length js x y) /\
  d = .pt (iL (aO l) (dm (aO l) aN) (closeR (fJ l.length (fT (aO l) o)) l.length) js) 0
def H5 (l:List Wd) (o:List (Wd × Wd)) (r:DV) (_:List (List DV)) (_:List TkE):Prop:=
 if (latF l o).1≠0 then r = .bK [.v (.pointer none),(latF l o).d] else ∃ d,Ys l o d/\r = .bK [d,(latF l o).d]
theorem vC {L:List ByteArray}:∀ {o:List (Wd × Wd)},(numF L o).1=0->Ml L.length (fT L o)
 | [],_=>by intro p hp;simp [fT] at hp
 | q :: r,h=>by
  rw [numF] at h;split at h
  ·cases h
  ·rename_i h1;split at h
   ·cases h
   ·rename_i h2;have ih:=vC (o:=r) h;intro p hp;simp only [fT,List.map_cons,List.mem_cons] at hp;rcases hp with rfl | hp
    ·obtain ⟨a,ha⟩:=Option.ne_none_iff_exists'.1 h1;obtain ⟨b,hb⟩:=Option.ne_none_iff_exists'.1 h2;simp only [Yn,ha,hb,Option.getD_some];exact ⟨(iJ ha).1,(iJ hb).1⟩
    ·exact ih p hp
theorem gn (l:List Wd):(aO l).length=l.length:=by simp [aO]
theorem xJ {all:List Wd}:∀ {l:List Wd} {i:Nat},(enumL all i l).1=0->enumL all i l=(0,0)
 | [],_,_=>rfl
 | x :: r,i,h=>by
  rw [enumL] at h ⊢;split at h
  ·rename_i h1;exact (h1 h).elim
  ·rename_i h1;rw [ag h1];exact xJ h
theorem AG {L:List ByteArray}:∀ {o:List (Wd × Wd)},(numF L o).1=0->numF L o=(0,0)
 | [],_=>rfl
 | q :: r,h=>by
  rw [numF] at h ⊢;split at h
  ·cases h
  ·rename_i h1;split at h
   ·cases h
   ·rename_i h2;rw [ag h1,ag h2];exact AG h
theorem vD {l:List Wd} {k:Nat} {w:Wd} (h:l[k]? = some w):Z0 l k=w.a:=by simp [Z0,h]
theorem Yt (n:Nat):vL (List.replicate n (.int .i64 0))=cZ (List.replicate n 0):=by
 induction n with
 | zero=>rfl
 | succ n ih=>simp only [List.replicate_succ,vL,cZ,List.map_cons] at ih ⊢;rw [ih]
theorem oo {l:List Wd} {o:List (Wd × Wd)} {f:Ft} {os:List (List DV)} {tk:List TkE} (h:latF l o=f) (hf:f.1≠0):H5 l o (.bK [.v (.pointer none),f.d]) os tk:=by
 unfold H5;rw [h,ah hf]
theorem TZ {l:List Wd} {o:List (Wd × Wd)} {d:DV} {os:List (List DV)} {tk:List TkE} (h:latF l o=(0,0)) (hd:Ys l o d):H5 l o (.bK [d,Ft.d (0,0)]) os tk:=by grind [H5]
theorem T0 (n m:Nat) (af:List ByteArray) (tc:List DV) (rows:List Nat) (js:List Int):clB.clL n m (iL af tc rows js)=true:=by
 have h:∀ l:List Int,clB.clL n m (cZ l)=true:=by
  intro l
  induction l with
  | nil=>rfl
  | cons z r ih=>simp only [cZ,List.map_cons,clB.clL,clB,Bool.true_and] at ih ⊢;exact ih
 simp only [H0,clB.clL,clB,h,nM,Bool.and_self]
theorem Fg (l:List Wd) (o:List (Wd × Wd)) (hs:wdsWt l<=1099511627776) (Su:prsWt o<=1099511627776) :
  Ev prog 61 [.sl 2 (cd l) none,.sl 4 (eY o) none] [] [] (H5 l o):=by
 have v8:=cE l;have Vq:=iH o;have kR:=gn l;have hF:=latF.eq_1 l o;refine eG 86 [.tmp 4,.cell 5 26] func61 rfl ntmps61 rfl fun _ _ _ _=>?_;refine cP aa1 (Mo l o) ?_;by_cases hm:(jA l o).1≠0
 ·rw [ah hm] at hF;refine br ?_ ?_<;>intro h
  ·refine dS ?_;exact ⟨_,ax,oo (os:=[]) (tk:=[]) hF hm⟩
  ·exfalso;simp at h;exact hm h
 rw [ag hm] at hF;refine br (fun h=>?_) (fun _=>?_)
 ·exfalso;simp at h;exact hm h
 have zm:l ≠ []:=by
  rintro rfl;simp [jA] at hm
 have hl32:l.length<=32:=by grind [jA]
 have vg:=Fe l hs;unfold acn at vg;by_cases hE:(enumL l 0 l).1≠0
 ·rw [ag hE] at vg;rw [ah hE] at hF;refine cP Vx vg ?_;refine br ?_ ?_<;>intro h
  ·refine dS ?_;exact ⟨_,ax,oo (os:=[]) (tk:=[]) hF hE⟩
  ·exfalso;simp at h;exact hE h
 rw [ag hE] at hF;have hE:(enumL l 0 l).1=0:=sU hE;rw [ah hE] at vg;rw [xJ hE] at vg;refine cP Vx vg ?_;refine eo OI rfl (wU (aO l) (by omega)) ax (fun r hr=>?_);obtain ⟨aN,hT,mB,rfl⟩:=hr;have iM:=zC (aO l) aN hT (by omega) o Su;unfold aco at iM;by_cases hN:(numF (aO l) o).1≠0
 ·rw [ag hN] at iM;rw [ah hN] at hF;refine cP Vy iM ?_;refine br ?_ ?_<;>intro h
  ·refine dS ?_;exact ⟨_,ax,oo (os:=[]) (tk:=[]) hF hN⟩
  ·exfalso;simp at h;exact hN h
 rw [ag hN] at hF;have hN:(numF (aO l) o).1=0:=sU hN;rw [ah hN] at iM;rw [AG hN] at iM;have hP:=vC hN;rw [kR] at hP;have hPl:(fT (aO l) o).length=o.length:=by simp [fT]
 generalize hPP:fT (aO l) o=P at iM hF hP hPl;refine cP Vy iM ?_;have hLn:(fN (aO l)).length=l.length:=by rw [cT,kR]
 have hPb:P.length<=1099511627776:=by omega
 have hro:=Cy (n:=l.length) (by omega) P hP;have gY:=kr l.length P;have hr0:fJ l.length P ≠ []:=fun h=>zm (List.eq_nil_of_length_eq_zero (by rw [<- gY,h];rfl));refine cP aa2 (Mf l.length (by omega) P hP hPb) ?_ (ug hLn);have hlo:=HV _ hro hr0;rw [gY,TR (by omega) hP] at hlo
 cases hA:dh (xF l.length (jL l.length P)) l.length with
 | some a=>
  rw [hA] at hlo hF;simp only at hF;have ZA:=(je hA).1;obtain ⟨w,hw⟩:∃ w,l[a]? = some w:=⟨_,gE ZA⟩;rw [vD hw] at hF;refine cP Vz hlo ?_;refine dS ?_;refine ⟨nD w,⟨by omega,dy hw⟩,?_⟩;exact ⟨_,ax,oo (os:=[]) (tk:=[]) hF (by simp)⟩
 | none=>
 rw [hA] at hlo hF;simp only at hF;refine cP Vz hlo ?_;have fD:=ux _ hro hr0;rw [gY] at fD;have hcok:=l7 hro l.length (by omega);have acs:=fK (fJ l.length P) l.length;rw [gY] at acs;refine cP VA fD ?_;have hrep:(List.replicate 2048 (0:Int)).length=2048:=List.length_replicate
 have cx:CcL [] 0 0 0 (iL (aO l) (dm (aO l) aN) (closeR (fJ l.length P) l.length) (List.replicate 2048 0)) (.sl 1 (fN (aO l)) none :: .pt (dm (aO l) aN) 0 :: nM (closeR (fJ l.length P) l.length) :: vL (List.replicate 2048 (.int .i64 0))):=by
  refine ⟨_,_,rfl,Or.inr (Or.inl ⟨_,rfl⟩),_,_,rfl,Or.inl rfl,_,_,rfl,Or.inl rfl,?_⟩;rw [Yt];exact ti _ _ _ _ _
 have hbn:=Ff (aO l) (dm (aO l) aN) _ (List.replicate 2048 0) hcok (by omega) (by omega) hrep;refine mQ aa3 rfl rfl cx ax hbn (fun r os tk h=>?_) (fun r sk h=>?_)
 ·obtain ⟨Yr,rfl,_,rfl,_⟩:=h;refine ⟨rfl,fun sk h=>?_⟩;rw [List.mem_singleton.1 h];exact T0 _ _ _ _ _ _
 obtain ⟨Yr,h1,hj2,hr,CF⟩:=h;simp only [List.cons.injEq,and_true] at h1;subst h1
 have hB:dh (rK (bf (closeR (fJ l.length P) l.length)) (aO l).length) (aO l).length=dh (rK (jL l.length P) l.length) l.length:=by
  rw [kR];rfl
 rw [hB] at hr CF
 cases hb:dh (rK (jL l.length P) l.length) l.length with
 | some b=>
  rw [hb] at hr hF;subst hr;simp only at hF;have hbl:=(je hb).1;obtain ⟨w,hw⟩:∃ w,l[b]? = some w:=⟨_,gE hbl⟩;rw [vD hw] at hF;refine dS ?_;refine ⟨nD w,⟨by simp only [oz];omega,dy hw⟩,?_⟩;exact ⟨_,ax,oo (os:=[]) (tk:=[]) hF (by simp)⟩
 | none=>
  rw [hb] at hr hF;subst hr;simp only at hF;refine ⟨.bK [.pt (iL (aO l) (dm (aO l) aN) (closeR (fJ l.length P) l.length) Yr) 0,Ft.d (0,0)],(by repeat' (first | exact rfl | exact trivial | exact Or.inr (Or.inl ⟨_,rfl⟩) | exact Or.inr ⟨_,rfl⟩ | exact Or.inl ⟨rfl,rfl⟩ | exact Or.inl rfl | refine Or.inr ⟨_,_,rfl,Nat.zero_le _,rfl,?_⟩ | refine ⟨_,_,rfl,?_,?_⟩ | refine ⟨_,rfl,?_⟩ | exact ti _ _ _ _ _ | refine Or.inr (Or.inr (Or.inr ⟨_,_,rfl,?_⟩)) | exact Or.inl rfl | refine Or.inr ?_)),TZ (os:=[]) (tk:=[]) hF ⟨aN,Yr,hT,by omega,hj2,?_,by rw [hPP]⟩⟩;rw [hPP];rw [kR] at CF;exact CF hb
section
variable (af:List ByteArray) (tc:List DV) (rows:List Nat) (js:List Int)
theorem tj:bA prog 110 [.pt (iL af tc rows js) 0] (.v (.int .i64 af.length)):=by
 refine eG 10 [.tmp 2] func110 rfl ntmps110 rfl fun _ _ _ _=>?_;refine (Eb ?_:);rw [cT]
theorem AH (i:Int):bA prog 199 [.pt (iL af tc rows js) 0,.v (.int .i64 i)] (.v (.bool (decide (0<=i) && decide (i < af.length)))):=by
 refine eG 13 [.tmp 4] func199 rfl ntmps199 rfl fun _ _ _ _=>?_;refine br ?_ ?_<;>intro g
 ·have g:decide (0<=i)=true:=sU g;refine cP OH (tj af tc rows js) ?_;refine (dP ?_:);simp [g,pickB]
 ·have g:decide (0<=i)=false:=sU g;refine (dP ?_:);simp [g,pickB]
theorem rL {a:Nat} (h:a < af.length):bA prog 199 [.pt (iL af tc rows js) 0,.v (.int .i64 a)] (.v (.bool true)):=by
 have:=AH af tc rows js a;have e:(decide (0<=(a:Int)) && decide ((a:Int) < af.length))=true:=by simp [h]
 rw [e] at this;exact this
end
theorem H6 (af:List ByteArray) (aN rows:List Nat) (js:List Int) (s:ByteArray) (hT:iy af aN) (hl:aN.length<=1099511627776) :
  bA prog 47 [.pt (iL af (dm af aN) rows js) 0,.v (.string s)] (P5 (gG af s)):=by
 have h:=iK af aN s hT hl;refine eG 16 [.tmp 4,.tmp 5] func47 rfl ntmps47 rfl fun _ _ _ _=>?_
 cases hx:gG af s with
 | none=>
  rw [hx] at h;refine cP nY h ?_;exact ⟨_,ax,rfl⟩
 | some k=>
  rw [hx] at h;refine cP nY h ?_;exact ⟨_,ax,rfl⟩
theorem Fh {l:List DV} {k b:Nat} {x:DV} (hb:b < 32) (h:l[k + b]? = some x):(((l.drop k).take 32).drop b).take 1=[x]:=by
 have h1:((l.drop k).take 32)[b]? = some x:=by grind
 rw [List.drop_eq_getElem_cons (gS h1).1]
 grind
section
variable (af:List ByteArray) (tc:List DV) (rows:List Nat) (js:List Int)
theorem xK (a b:Nat) (z:Int) (ha:a < af.length) (hb:b < af.length) (hn:af.length<=32) (hz:js[a * 32 + b]? = some z) :
  bA prog 217 [.pt (iL af tc rows js) 0,.v (.int .i64 a),.v (.int .i64 b)] (.v (.int .i64 z)):=by
 refine eG 25 [.tmp 6] func217 rfl ntmps217 rfl fun _ _ _ _=>?_;refine cP Ab (rL af tc rows js ha) ?_;refine cP Ab (rL af tc rows js hb) ?_;refine ⟨_,⟨⟨by omega,by omega⟩,rfl⟩,?_⟩;refine ⟨_,⟨⟨by omega,by omega⟩,Fh (x:=.v (.int .i64 z)) (by omega) ?_⟩,?_⟩
 ·grind [H0,cZ]
 exact (rfl:_=_)
theorem H7 (a b:Nat) (z:Int) (ha:a < af.length) (hb:b < af.length) (hn:af.length<=32) (hz:js[1024 + (a * 32 + b)]? = some z) :
  bA prog 111 [.pt (iL af tc rows js) 0,.v (.int .i64 a),.v (.int .i64 b)] (.v (.int .i64 z)):=by
 refine eG 25 [.tmp 6] func111 rfl ntmps111 rfl fun _ _ _ _=>?_;refine cP Ab (rL af tc rows js ha) ?_;refine cP Ab (rL af tc rows js hb) ?_;refine ⟨_,⟨⟨by omega,by omega⟩,rfl⟩,?_⟩;refine ⟨_,⟨⟨by omega,by omega⟩,Fh (x:=.v (.int .i64 z)) (by omega) ?_⟩,?_⟩
 ·grind [H0,cZ]
 exact (rfl:_=_)
end
theorem AJ {lj:Nat->Bool} {pb:Nat->Nat->Bool}:∀ {e k:Nat},bestA lj pb e=some k->lj k=true
 | 0,k,h=>by cases h
 | e + 1,k,h=>by
  rw [bestA] at h;split at h
  ·grind
  ·exact AJ h
theorem xL {lj:Nat->Bool} {pb:Nat->Nat->Bool} {n k:Nat} (h:pQ lj pb n=some k):k < n/\lj k=true/\∀ c,c < n->lj c=true->pb k c=true:=by grind [pQ,rJ,AJ]
structure kv (f:Nat->Nat->Bool) (n:Nat):Prop where
 pos:0 < n
 rfl':∀ a,a < n->f a a=true
 tr:∀ a b c,a < n->b < n->c < n->f a b=true->f b c=true->f a c=true
 Yu:∀ a b,a < n->b < n->f a b=true->f b a=true->a=b
 jn:∀ a b,a < n->b < n->∃ k,ij f n a b=some k
 mt:∀ a b,a < n->b < n->∃ k,jB f n a b=some k
theorem H8 {f:Nat->Nat->Bool} {n a b k:Nat} (h:ij f n a b=some k):k < n/\f a k=true/\f b k=true/\∀ c,c < n->f a c=true->f b c=true->f k c=true:=by
 obtain ⟨h1,h2,h3⟩:=xL h
 grind
theorem qy {f:Nat->Nat->Bool} {n a b k:Nat} (h:jB f n a b=some k):k < n/\f k a=true/\f k b=true/\∀ c,c < n->f c a=true->f c b=true->f c k=true:=by
 obtain ⟨h1,h2,h3⟩:=xL h
 grind
def uy (f:Nat->Nat->Bool) (l:List Nat) (c:Nat):Bool:=l.all fun i=>f i c
def Qe (f:Nat->Nat->Bool) (n:Nat) (l:List Nat) (c:Nat):Bool:=uy f l c && (List.range n).all fun d=>!uy f l d || f c d
def iN (f:Nat->Nat->Bool) (n:Nat) (l:List Nat):Option Nat:=dh (Qe f n l) n
theorem oq {f:Nat->Nat->Bool} {n:Nat} {l:List Nat} {c:Nat}:Qe f n l c=true↔uy f l c=true/\∀ d,d < n->uy f l d=true->f c d=true:=by grind [Qe,uy]
theorem AK {f:Nat->Nat->Bool} {n:Nat} (hL:kv f n) {l:List Nat} {c:Nat} (hc:c < n) (h:Qe f n l c=true):iN f n l=some c:=by
 refine jd hc h fun a ha=>?_;cases h2:Qe f n l a
 ·rfl
 ·obtain ⟨h3,h4⟩:=oq.1 h;obtain ⟨h5,h6⟩:=oq.1 h2;have:=hL.Yu a c (by omega) hc (h6 c hc h3) (h4 a (by omega) h5);omega
theorem qz {f:Nat->Nat->Bool} {n c:Nat} (hL:kv f n) (hc:c < n) (h:∀ d,d < n->f c d=true):iN f n []=some c:=
 AK hL hc (oq.2 ⟨rfl,fun d hd _=>h d hd⟩)
theorem uz {f:Nat->Nat->Bool} {n c k i:Nat} {l:List Nat} (hL:kv f n) (hl:∀ x∈l,x < n) (hi:i < n) (h:iN f n l=some c) (hk:ij f n c i=some k):iN f n (l ++ [i])=some k:=by
 obtain ⟨h1,h2,_⟩:=je h;obtain ⟨h3,h4⟩:=oq.1 h2;obtain ⟨g1,g2,g3,g4⟩:=H8 hk;simp only [uy,List.all_eq_true] at h3;refine AK hL g1 (oq.2 ⟨?_,fun d hd ho=>?_⟩)
 ·simp only [uy,List.all_eq_true,List.mem_append,List.mem_singleton];rintro x (hx | rfl)
  ·exact hL.tr x c k (hl x hx) h1 g1 (h3 x hx) g2
  ·exact g3
 ·grind [uy]
theorem tq {f:Nat->Nat->Bool} {n c:Nat} {l:List Nat} (h:iN f n l=some c):c < n:=(je h).1
abbrev Wn (L:List DV) (n b e:Nat):St:=
 ⟨[wD 0 L,aJ 3 b,aJ 9 n,aJ 10 e],[],[]⟩
theorem rM (af:List ByteArray) (tc:List DV) (rows:List Nat) (js:List Int) {f:Nat->Nat->Bool} (hL:kv f af.length) (hn:af.length<=32) (hj:∀ x y,x < af.length->y < af.length->JM f af.length js x y) :
  bA prog 46 [.pt (iL af tc rows js) 0] (.v (.int .i64 (oz (iN f af.length [])))):=by
 have hlen:=tj af tc rows js;have nK:=hL.pos;refine eG 19 [.tmp 2] func46 rfl ntmps46 rfl fun _ _ _ _=>?_;refine cP OH hlen ?_;refine br ?_ ?_<;>intro g
 ·exfalso;simp at g;simp [g] at nK
 refine cP OH hlen ?_;refine lI (fun j st=>∃ e b:Nat,st=Wn (iL af tc rows js) af.length b e/\e<=af.length/\b < af.length/\(∀ x,x < e->f b x=true)/\j=af.length - e) ⟨0,0,rfl,by omega,by omega,fun _ h=>by omega,rfl⟩ (dg wB) ?_;rintro j st ⟨e,b,rfl,he,hb,jk,rfl⟩;refine br ?_ ?_<;>intro hL'
 ·have aE:e < af.length:=by have:=hL';simp at this;exact this
  obtain ⟨k,hk⟩:=hL.mt b e hb aE;obtain ⟨g1,g2,g3,g4⟩:=qy hk;have hz:=(hj b e hb aE).2;rw [hk] at hz;refine cP aaY (H7 af tc rows js b e k hb aE hn hz) ?_;refine ⟨Wn (iL af tc rows js) af.length k (e + 1),(dg (gv (cR aE (by omega)))),af.length - (e + 1),by omega,e + 1,k,rfl,by omega,g1,fun x hx=>?_,rfl⟩;rcases G8 hx with hx | rfl
  ·exact hL.tr k b x g1 hb (by omega) g2 (jk x hx)
  ·exact g3
 ·have hge:e=af.length:=by have:=hL';simp at this;omega
  subst hge;rw [qz hL hb jk];exact (rfl:_=_)
def labW (L:List ByteArray):List Wd->Ft
 | []=>(0,0)
 | w :: r=>if gG L w.s=none then (17,w.a) else labW L r
def vl (L:List ByteArray) (l:List Wd):List Nat:=l.map fun w=>(gG L w.s).getD 0
def Fi (f:Nat->Nat->Bool) (L:List ByteArray) (l:List Wd):Int:=if (labW L l).1=0 then oz (iN f L.length (vl L l)) else 0
def Yv (f:Nat->Nat->Bool) (L:List ByteArray) (l:List Wd):DV:=.bK [.v (.int .i64 (Fi f L l)),(labW L l).d]
theorem Ms {L:List ByteArray} {l:List Wd} {e:Nat} {w:Wd} (h:l[e]? = some w):labW L (l.drop e)=if gG L w.s=none then (17,w.a) else labW L (l.drop (e + 1)):=by
 rw [drop_cons h,labW]
theorem AL {L:List ByteArray} {l:List Wd} {e i:Nat} {w:Wd} (h:l[e]? = some w) (hi:gG L w.s=some i):vl L (l.take (e + 1))=vl L (l.take e) ++ [i]:=by
 rw [List.take_add_one,h];simp [vl,hi]
abbrev Wo (L:List DV) (l:List Wd) (b e:Nat):St:=
 ⟨[wD 0 L,bq 5 0,aJ 6 b,dH 16 2 (cd l),aJ 17 ((cd l).length),aJ 18 e],[[.v (.int .i64 0),.v (.int .i64 0)]],[]⟩
theorem Qf (af:List ByteArray) (aN rows:List Nat) (js:List Int) (hT:iy af aN) (mB:aN.length<=1099511627776) {f:Nat->Nat->Bool} (hL:kv f af.length) (hn:af.length<=32) (hj:∀ x y,x < af.length->y < af.length->JM f af.length js x y)
  (l:List Wd) (hs:wdsWt l<=1099511627776) :
  bA prog 133 [.pt (iL af (dm af aN) rows js) 0,.sl 2 (cd l) none] (Yv f af l):=by
 have v8:=cE l;have acu:=rM af (dm af aN) rows js hL hn hj
 have kN:∃ b,iN f af.length []=some b:=by
  have:∀ e,e<=af.length->∃ b,b < af.length/\∀ x,x < e->f b x=true:=by
   intro e
   induction e with
   | zero=>intro _;exact ⟨0,hL.pos,fun _ h=>by omega⟩
   | succ e ih=>
    intro he;obtain ⟨b,hb,jk⟩:=ih (by omega);obtain ⟨k,hk⟩:=hL.mt b e hb (by omega);obtain ⟨g1,g2,g3,_⟩:=qy hk;refine ⟨k,g1,fun x hx=>?_⟩;rcases G8 hx with hx | rfl
    ·exact hL.tr k b x g1 hb (by omega) g2 (jk x hx)
    ·exact g3
  obtain ⟨b,hb,jk⟩:=this af.length (bn _);exact ⟨b,qz hL hb jk⟩
 obtain ⟨b0,iT⟩:=kN;rw [iT] at acu;refine eG 41 [.tmp 4,.cell 5 26] func133 rfl ntmps133 rfl fun _ _ _ _=>?_;refine cP en46 acu ?_;refine lI (fun j st=>∃ e b:Nat,st=Wo (iL af (dm af aN) rows js) l b e/\e<=l.length/\labW af l=labW af (l.drop e)/\iN f af.length (vl af (l.take e))=some b/\(∀ x∈vl af (l.take e),x < af.length)/\j=l.length - e) ⟨0,b0,rfl,by omega,rfl,iT,by simp [vl],rfl⟩ (dg wB) ?_;rintro j st ⟨e,b,rfl,he,bN,LG,Vt,rfl⟩;have hb:=tq LG;refine br ?_ ?_<;>intro hLt
 ·have aE:e < l.length:=by simpa [aM] using hLt
  obtain ⟨w,hw⟩:=gX aE;have bp:=Ms (L:=af) hw;have H2:=H6 af aN rows js w.s hT mB;refine ⟨nD w,⟨by omega,dy hw⟩,?_⟩
  cases hx:gG af w.s with
  | none=>
   rw [hx] at H2;refine cP aaQ H2 ?_;rw [ah hx] at bp;have h1:labW af l=(17,w.a):=bN.trans bp;refine dS ?_;refine ⟨_,?_,rfl⟩;rw [Yv,Fi,h1,ag (by simp)];exact ax
  | some i=>
   rw [hx] at H2;refine cP aaQ H2 ?_;rw [ag (by rw [hx];simp)] at bp;have hi:=(iJ hx).1;obtain ⟨k,hk⟩:=hL.jn b i hb hi;have hz:=(hj b i hb hi).1;rw [hk] at hz;refine cP abh (xK af (dm af aN) rows js b i k hb hi hn hz) ?_;refine ⟨Wo (iL af (dm af aN) rows js) l k (e + 1),(dg (gv (cR aE (by omega)))),l.length - (e + 1),by omega,e + 1,k,rfl,by omega,bN.trans bp,?_,?_,rfl⟩
   ·rw [AL hw hx];exact uz hL Vt hi LG hk
   ·rw [AL hw hx];intro x hm;rcases List.mem_append.1 hm with hm | hm
    ·exact Vt x hm
    ·rw [List.mem_singleton.1 hm];exact hi
 ·have hge:e=l.length:=by
   have:=hLt;simp [aM] at this;omega
  subst hge;rw [List.drop_length] at bN;rw [List.take_length] at LG;have h1:labW af l=(0,0):=bN;refine ⟨_,?_,rfl⟩;rw [Yv,Fi,h1,ah rfl,LG];exact ax
def H9 (x:Ft × Int) (r:DV) (os:List (List DV)) (_:List TkE):Prop:=
 r=x.1.d/\∃ z:Int,os=[[.v (.int .i64 z)]]/\(x.1.1=0->z=x.2)
theorem nc {x:Ft × Int}:∀ r os tk,H9 x r os tk->clB 0 0 r=true/\∀ sk∈os,clB.clL 0 0 sk=true:=by
 rintro r os tk ⟨rfl,z,rfl,_⟩;refine ⟨rfl,fun sk h=>?_⟩;simp only [List.mem_singleton] at h;subst h;rfl
def Qg (k:Nat):Prop:=∀ (t:Ty) (depth m:Int),t.wt<=k->t.wt<=1099511627776->0<=depth->depth<=25->0<=m->m<=512 ->
 Ev prog 156 [.loc 0 0,.agg (dC t),.v (.int .i64 depth)] [[.v (.int .i64 m)]] [] (H9 (wrong t depth m))
def l9 (p:Ph) (t:Ty) (un:Bool) (depth m:Int):Ft × Int:=
 if p.bare=true then (if un=false∨dt p t (qw p) bX=false then ((19,p.name.a),m) else ((0,0),m))
 else if (dZ p).1≠0 then (dZ p,m)
 else wrong t (depth + 1) m
theorem bO {x:Ft × Int} {f:Ft} {m z:Int} (h:x=(f,m)) (hz:f.1=0->z=m) {tk:List TkE}:H9 x f.d [[.v (.int .i64 z)]] tk:=by
 subst h;exact ⟨rfl,z,rfl,hz⟩
theorem Ia (k:Nat) (ih:Qg k) (p:Ph) (t:Ty) (un:Bool) (depth m:Int) (hk:t.wt<=k) (hp:p.wt<=1099511627776) (cV:t.wt<=1099511627776) (Hw:0<=depth) (E7:depth<=24) (pu:0<=m) (mC:m<=512) :
  Ev prog 287 [.loc 0 0,.agg (lR p (dC t)),.v (.bool un),.v (.int .i64 depth)] [[.v (.int .i64 m)]] [] (H9 (l9 p t un depth m)):=by
 have zx:=hp;simp only [Ph.wt] at zx;have DS:=oc p (qw p) t bX hp (by simp only [Ph.wt,qw,wdsWt];omega) (xa t bX cV (by decide));have NO:=ih t (depth + 1) m hk cV (by omega) (by omega) pu mC;obtain ⟨u,us⟩:=t;have hcoa:=Cq p (dC (.mk u us)) (.mk u us) rfl hp;have hS:=l9.eq_def p (.mk u us) un depth m;generalize l9 p (.mk u us) un depth m=F at hS ⊢;obtain ⟨nm,bare,lab,wide,ck,cn,ca,cl⟩:=p;simp only at hS zx DS
 cases bare with
 | true=>
  rw [ah rfl] at hS
  cases un with
  | true=>
   refine eG 68 [.cell 8 26] func287 rfl ntmps287 rfl fun _ _ _ _=>?_;refine cP OM DS ?_;refine br ?_ ?_<;>intro q
   ·have q:dt ⟨nm,true,lab,wide,ck,cn,ca,cl⟩ (.mk u us) (qw ⟨nm,true,lab,wide,ck,cn,ca,cl⟩) bX=false:=by simpa [show (lastG (21,false) [(18,true)]).snd=true from rfl,pickB] using q
    rw [ah (.inr q)] at hS;refine cP ep (bQ 19 nm.a) ?_;exact ⟨_,_,ax,ax,bO (tk:=[]) (f:=(19,nm.a)) hS (fun _=>rfl)⟩
   ·have q:dt ⟨nm,true,lab,wide,ck,cn,ca,cl⟩ (.mk u us) (qw ⟨nm,true,lab,wide,ck,cn,ca,cl⟩) bX=true:=by simpa [show (lastG (21,false) [(18,true)]).snd=true from rfl,pickB] using q
    rw [ag (by simp [q])] at hS;exact ⟨_,_,ax,ax,bO (tk:=[]) (f:=(0,0)) hS (fun _=>rfl)⟩
  | false=>
   refine eG 68 [.cell 8 26] func287 rfl ntmps287 rfl fun _ _ _ _=>?_;rw [ah (.inl rfl)] at hS;refine cP ep (bQ 19 nm.a) ?_;exact ⟨_,_,ax,ax,bO (tk:=[]) (f:=(19,nm.a)) hS (fun _=>rfl)⟩
 | false=>
  rw [ag (by simp)] at hS;refine eG 68 [.cell 8 26] func287 rfl ntmps287 rfl fun _ _ _ _=>?_;refine br ?_ ?_<;>intro hw
  ·have hw:wide < 0∨64 < wide:=by simpa [aD] using hw
   have hP:dZ ⟨nm,false,lab,wide,ck,cn,ca,cl⟩=(20,nm.a):=by simp only [dZ,ah hw]
   rw [hP,ah (by simp)] at hS;refine cP ep (bQ 20 nm.a) ?_;exact ⟨_,_,ax,ax,bO (tk:=[]) (f:=(20,nm.a)) hS (fun _=>rfl)⟩
  have hw:¬ (wide < 0∨64 < wide):=by simp [aD] at hw;omega
  refine cP Ew (iZ lab (by omega)) ?_;refine br ?_ ?_<;>intro hb
  ·have hb:(du lab).1≠0:=sU hb;have hP:dZ ⟨nm,false,lab,wide,ck,cn,ca,cl⟩=du lab:=by simp only [dZ,ag hw,ah hb]
   rw [hP,ah hb] at hS;exact ⟨_,_,ax,ax,bO (tk:=[]) (f:=du lab) hS (fun _=>rfl)⟩
  have hb:(du lab).1=0:=sU hb;have hP:dZ ⟨nm,false,lab,wide,ck,cn,ca,cl⟩=bW ⟨nm,false,lab,wide,ck,cn,ca,cl⟩:=by simp only [dZ,ag hw];rw [ag (by simp [hb])]
  rw [hP] at hS;refine cP abu hcoa ?_;refine br ?_ ?_<;>intro hc
  ·have hc:(bW ⟨nm,false,lab,wide,ck,cn,ca,cl⟩).1≠0:=sU hc;rw [ah hc] at hS;exact ⟨_,_,ax,ax,bO (tk:=[]) (f:=bW ⟨nm,false,lab,wide,ck,cn,ca,cl⟩) hS (fun _=>rfl)⟩
  have hc:(bW ⟨nm,false,lab,wide,ck,cn,ca,cl⟩).1=0:=sU hc;rw [ag (by simp [hc])] at hS;refine mQ OL rfl rfl ax (by repeat' (first | exact rfl | exact trivial | exact Or.inr (Or.inl ⟨_,rfl⟩) | exact Or.inr ⟨_,rfl⟩ | exact Or.inl ⟨rfl,rfl⟩ | exact Or.inl rfl | refine Or.inr ⟨_,_,rfl,Nat.zero_le _,rfl,?_⟩ | refine ⟨_,_,rfl,?_,?_⟩ | refine ⟨_,rfl,?_⟩ | exact congrArg (fun z=>DV.v (.int .i64 z)) (wrap64 (by omega) (by omega)) | refine Or.inr (Or.inr (Or.inr ⟨_,_,rfl,?_⟩)) | exact Or.inl rfl | refine Or.inr ?_)) NO nc (fun r sk hr=>?_);obtain ⟨rfl,z,hz,DY⟩:=hr;simp only [List.cons.injEq,and_true] at hz;subst hz;exact ⟨_,_,ax,ax,bO (tk:=[]) (f:=(wrong (.mk u us) (depth + 1) m).1) hS DY⟩
theorem zE {al:Int} {all:List Wd} {i:Nat} {p:Ph} {t:Ty} {r:Pts} {depth m:Int} (hk:al=7∨al=8) (hl:bd all i p.name=0) :
  wrongPts al all i (.cons p t r) depth m=if (l9 p t (decide (al=8)) depth m).1.1≠0 then l9 p t (decide (al=8)) depth m else wrongPts al all (i + 1) r depth (l9 p t (decide (al=8)) depth m).2:=by
 simp only [wrongPts];rw [ag (by simp [hl])];unfold l9;by_cases hb:p.bare=true
 ·grind [TU,sameTy,bX,cw,hU]
 ·grind
theorem Qh {p:Ph} {t:Ty} {un:Bool} {depth m:Int} (pu:0<=m) (mC:m<=512) (h:(l9 p t un depth m).1.1=0):(l9 p t un depth m).1=(0,0)/\0<=(l9 p t un depth m).2/\(l9 p t un depth m).2<=512:=by grind [wW,l9,dZ]
abbrev Fj (h:Hd) (ps:Pts) (n e:Nat) (depth m:Int):St:=
 ⟨[bq 0 0,aJ 2 depth,bq 4 1,bq 6 2,dH 38 18 (eX ps),aJ 39 ((eX ps).length),aJ 40 e,(7,⟨[],.sl 1 (fN (aO ((pNames ps).take e))) (some 0)⟩)],
  [[.v (.int .i64 m)],dC (.mk h ps),[.v (.int .i64 0),.v (.int .i64 0)]],[⟨n,9,1,none⟩]⟩
theorem uA (k:Nat) (ih:Qg k) (h:Hd) (ps:Pts) (depth m:Int) (Z1:h.al=7∨h.al=8) (hk:ps.wt<=k) (cV:(Ty.mk h ps).wt<=1099511627776) (Hw:0<=depth) (E7:depth<=24) (pu:0<=m) (mC:m<=512) :
  Ev prog 241 [.loc 0 0,.agg (dC (.mk h ps)),.v (.int .i64 depth)] [[.v (.int .i64 m)]] [] (H9 (oa h ps depth m)):=by
 simp only [Ty.wt,Hd.wt] at cV;have kE:=ps.ki;have kR:=qg ps;have hnw:=Ah ps;have hS:=oa.eq_def h ps depth m;generalize oa h ps depth m=F at hS ⊢;refine eG 72 [.cell 6 26] func241 rfl ntmps241 rfl fun _ _ _ _=>?_;refine br ?_ ?_<;>intro c1
 ·have c1:h.al=8/\ps.len=0:=by grind [aC,bG]
  rw [ah c1] at hS;refine cP ep (bQ 15 h.dA) ?_;exact ⟨_,_,ax,ax,bO (tk:=[]) (f:=(15,h.dA)) hS (fun _=>rfl)⟩
 have c1:¬ (h.al=8/\ps.len=0):=by
  simp [aC,bG] at c1;omega
 rw [ag c1] at hS;refine br ?_ ?_<;>intro c2
 ·have aE:64 < ps.len:=by simp [bG] at c2;omega
  obtain ⟨p,t,hx⟩:=Pts.jm aE;refine iX (er hx) ?_;refine cP ep (bQ 8 p.name.a) ?_;rw [ah aE,mT hx] at hS;exact ⟨_,_,ax,ax,bO (tk:=[]) (f:=(8,p.name.a)) hS (fun _=>rfl)⟩
 have c2:¬ 64 < ps.len:=by simp [bG] at c2;omega
 rw [ag c2] at hS
 refine cH (fun j st=>∃ (e:Nat) (m':Int),st=Fj h ps e e depth m' /\ e<=ps.len/\0<=m' /\ m' <= 512/\(aO ((pNames ps).take e)).Nodup /\
   F=wrongPts h.al (pNames ps) e (ps.drop e) depth m' /\ j=ps.len - e) ps.len (Fj h ps 0 0 depth m) (gk ⟨0,9,1,none⟩ rfl ⟨_,rfl⟩ rfl wA rfl rfl vb) ⟨0,m,rfl,by omega,pu,mC,by simp [aO],hS,by omega⟩ ?_
 rintro j st ⟨e,m',rfl,he,Qi,Qj,hnd,bN,rfl⟩;refine br ?_ ?_<;>intro hL
 ·have aE:e < ps.len:=by simpa [bG] using hL
  obtain ⟨p,t,hx⟩:=Pts.jm aE;have Cp:=Pts.kj (mG hx);have Z2:=mT hx;have hpw:p.name.s.size + 64<=p.wt:=by simp only [Ph.wt,Wd.wt];omega
  rw [Pts.drop_cons hx] at bN;have Pg:(aO ((pNames ps).take (e + 1)))[(aO ((pNames ps).take (e + 1))).length - 1]? = some p.name.s:=by grind [aO,pNames]
  have Xe:=ur (aO ((pNames ps).take (e + 1))) p.name.s p.name.a Pg (by simp [aO];omega) (by omega);have zn:=lT Z2;rw [AD p.name.a Z2 hnd,<- zn] at Xe;have Fk:=Ia k ih p t (decide (h.al=8)) depth m' (by omega) (by omega) (by omega) Hw E7 Qi Qj;obtain ⟨u,us⟩:=t;refine iX (er hx) ?_;refine ⟨by simp [cT,aO];omega,⟨by simp [cT,aO,maxLen];omega,by simp [cT,aO];omega⟩,?_⟩;refine cP VQ Xe ?_;by_cases hl:bd (pNames ps) e p.name≠0
  ·rw [ah hl];refine br ?_ ?_<;>intro hf
   ·simp only [wrongPts] at bN;rw [ah hl] at bN;exact ⟨_,_,ax,ax,bO (tk:=[]) (f:=(bd (pNames ps) e p.name,p.name.a)) bN (fun _=>rfl)⟩
   ·exact absurd (sU hf) hl
  have hl:bd (pNames ps) e p.name=0:=sU hl;have hndn:=nb Z2 hnd hl;rw [ag (by simp [hl])];rw [zE Z1 hl] at bN;have jh:=Qh (p:=p) (t:=.mk u us) (un:=decide (h.al=8)) (depth:=depth) Qi Qj;generalize l9 p (.mk u us) (decide (h.al=8)) depth m'=r at Fk bN jh;obtain ⟨⟨fe,fa⟩,many⟩:=r;simp only at bN jh;refine mQ abn rfl rfl ax ax Fk nc (fun r sk hr=>?_);obtain ⟨rfl,z,hz,DY⟩:=hr;simp only [List.cons.injEq,and_true] at hz;subst hz;refine br ?_ ?_<;>intro hd
  ·have hd:fe≠0:=sU hd;rw [ah hd] at bN;exact ⟨_,_,ax,ax,bO (tk:=[]) (f:=(fe,fa)) bN (fun h0=>absurd h0 hd)⟩
  ·have hd:fe=0:=sU hd;subst hd;obtain ⟨_,h2,h3⟩:=jh rfl;rw [ag (by simp)] at bN;have hz2:z=many:=DY rfl;subst hz2;exact rE ⟨_,by omega,e + 1,z,rfl,by omega,h2,h3,hndn,bN,rfl⟩ (dg (re (cR aE (by omega)) zn))
 ·have hge:e=ps.len:=by simp [bG] at hL;omega
  rw [hge,Pts.gm] at bN;simp only [wrongPts] at bN;exact ⟨_,_,ax,ax,bO (tk:=[]) (f:=(0,0)) bN (fun _=>rfl)⟩
theorem AM (k:Nat) (ih:Qg k) (h:Hd) (ps:Pts) (depth m:Int) (hk:ps.wt<=k) (cV:(Ty.mk h ps).wt<=1099511627776) (Hw:0<=depth) (E7:depth<=24) (pu:0<=m) (mC:m<=512) :
  Ev prog 240 [.loc 0 0,.agg (dC (.mk h ps)),.v (.int .i64 depth)] [[.v (.int .i64 m)]] [] (H9 (wrongOne h ps depth m)):=by
 simp only [Ty.wt,Hd.wt] at cV
 cases ps with
 | nil=>
  have hS:wrongOne h .nil depth m=((19,h.dA),m):=by simp only [wrongOne]
  generalize wrongOne h .nil depth m=F at hS ⊢;refine eG 44 [.cell 6 26] func240 rfl ntmps240 rfl fun _ _ _ _=>?_;refine cP ep (bQ 19 h.dA) ?_;exact ⟨_,_,ax,ax,bO (tk:=[]) (f:=(19,h.dA)) hS (fun _=>rfl)⟩
 | cons p t r=>
  cases r with
  | cons p2 t2 r2=>
   have hS:wrongOne h (.cons p t (.cons p2 t2 r2)) depth m=((19,h.dA),m):=by simp only [wrongOne]
   generalize wrongOne h (.cons p t (.cons p2 t2 r2)) depth m=F at hS ⊢;refine eG 44 [.cell 6 26] func240 rfl ntmps240 rfl fun _ _ _ _=>?_;refine cP ep (bQ 19 h.dA) ?_;exact ⟨_,_,ax,ax,bO (tk:=[]) (f:=(19,h.dA)) hS (fun _=>rfl)⟩
  | nil=>
   simp only [Pts.wt] at cV hk;have hS:wrongOne h (.cons p t .nil) depth m=if p.name.s≠aZ∨cw p cp=false then ((19,h.dA),m) else if h.most < 0∨1024 < h.most then ((20,h.dA),m) else wrong t (depth + 1) m:=by simp only [wrongOne]
   generalize wrongOne h (.cons p t .nil) depth m=F at hS ⊢;have SD:=EJ p t (by omega);rw [empty_eq] at SD;have NO:=ih t (depth + 1) m (by omega) (by omega) (by omega) (by omega) pu mC;obtain ⟨u,us⟩:=t;refine eG 44 [.cell 6 26] func240 rfl ntmps240 rfl fun _ _ _ _=>?_;refine ⟨_,⟨by omega,rfl⟩,?_⟩;refine cP abm SD ?_;refine br ?_ ?_<;>intro q
   ·have q:p.name.s≠aZ∨cw p cp=false:=by
     have:=q;simp [pickB] at this;exact this
    rw [ah q] at hS;refine cP ep (bQ 19 h.dA) ?_;exact ⟨_,_,ax,ax,bO (tk:=[]) (f:=(19,h.dA)) hS (fun _=>rfl)⟩
   have q:¬ (p.name.s≠aZ∨cw p cp=false):=by grind [pickB]
   rw [ag q] at hS;refine br ?_ ?_<;>intro x
   ·have x:h.most < 0∨1024 < h.most:=by simpa [aD] using x
    rw [ah x] at hS;refine cP ep (bQ 20 h.dA) ?_;exact ⟨_,_,ax,ax,bO (tk:=[]) (f:=(20,h.dA)) hS (fun _=>rfl)⟩
   have x:¬ (h.most < 0∨1024 < h.most):=by simp [aD] at x;omega
   rw [ag x] at hS;refine ⟨_,⟨by omega,rfl⟩,?_⟩;refine mQ OL rfl rfl ax (by repeat' (first | exact rfl | exact trivial | exact Or.inr (Or.inl ⟨_,rfl⟩) | exact Or.inr ⟨_,rfl⟩ | exact Or.inl ⟨rfl,rfl⟩ | exact Or.inl rfl | refine Or.inr ⟨_,_,rfl,Nat.zero_le _,rfl,?_⟩ | refine ⟨_,_,rfl,?_,?_⟩ | refine ⟨_,rfl,?_⟩ | exact congrArg (fun z=>DV.v (.int .i64 z)) (wrap64 (by omega) (by omega)) | refine Or.inr (Or.inr (Or.inr ⟨_,_,rfl,?_⟩)) | exact Or.inl rfl | refine Or.inr ?_)) NO nc (fun r sk hr=>?_);obtain ⟨rfl,z,hz,DY⟩:=hr;simp only [List.cons.injEq,and_true] at hz;subst hz;exact ⟨_,_,ax,ax,bO (tk:=[]) (f:=(wrong (.mk u us) (depth + 1) m).1) hS DY⟩
theorem Fl (k:Nat) (ih:Qg k) (h:Hd) (ps:Pts) (depth m:Int) (hk:ps.wt<=k) (cV:(Ty.mk h ps).wt<=1099511627776) (Hw:0<=depth) (E7:depth<=25) (pu:0<=m) (mC:m<=512) :
  Ev prog 156 [.loc 0 0,.agg (dC (.mk h ps)),.v (.int .i64 depth)] [[.v (.int .i64 m)]] [] (H9 (wrong (.mk h ps) depth m)):=by
 have Wp:=cV;simp only [Ty.wt,Hd.wt] at Wp;have DE:IntKind.i64.wrap (m + 1)=m + 1:=wrap64 (by omega) (by omega);have hS:=wrong.eq_def (.mk h ps) depth m;simp only at hS;generalize wrong (.mk h ps) depth m=F at hS ⊢;have dG:=LL h ps;rw [rm] at dG;refine eG 103 [.cell 6 26] func156 rfl ntmps156 rfl fun _ _ _ _=>?_;refine br ?_ ?_<;>intro c
 ·have c:24 < depth:=of_decide_eq_true c;rw [ah c] at hS;refine cP ep (bQ 6 h.dA) ?_;exact ⟨_,[[.v (.int .i64 (m + 1))]],ax,(ug DE),bO (tk:=[]) (f:=(6,h.dA)) hS (fun _=>rfl)⟩
 have c:¬ 24 < depth:=of_decide_eq_false c;rw [ag c] at hS;refine br ?_ ?_<;>intro c
 ·have c:512 < IntKind.i64.wrap (m + 1):=of_decide_eq_true c;rw [DE] at c;rw [ah c] at hS;refine cP ep (bQ 8 h.dA) ?_;exact ⟨_,[[.v (.int .i64 (m + 1))]],ax,(ug DE),bO (tk:=[]) (f:=(8,h.dA)) hS (fun _=>rfl)⟩
 have c:¬ 512 < IntKind.i64.wrap (m + 1):=of_decide_eq_false c;rw [DE] at c;rw [ag c] at hS;refine br ?_ ?_<;>intro c
 ·have c:h.al < 1∨9 < h.al:=by simpa [aD] using c
  rw [ah c] at hS;refine cP ep (bQ 14 h.dA) ?_;exact ⟨_,[[.v (.int .i64 (m + 1))]],ax,(ug DE),bO (tk:=[]) (f:=(14,h.dA)) hS (fun _=>rfl)⟩
 have ck:¬ (h.al < 1∨9 < h.al):=by simp [aD] at c;omega
 rw [ag ck] at hS;refine cP abk dG ?_;refine br ?_ ?_<;>intro c
 ·have c:pA (.mk h ps)=false:=by simpa [pA] using c
  rw [ah c] at hS;refine cP ep (bQ 19 h.dA) ?_;exact ⟨_,[[.v (.int .i64 (m + 1))]],ax,(ug DE),bO (tk:=[]) (f:=(19,h.dA)) hS (fun _=>rfl)⟩
 have c:¬ pA (.mk h ps)=false:=by simpa [pA] using c
 rw [ag c] at hS;refine br ?_ ?_<;>intro k2
 ·have k2:h.al=2:=of_decide_eq_true k2;refine br ?_ ?_<;>intro x
  ·have x:h.hi < h.lo:=of_decide_eq_true x;rw [ah (.inl ⟨k2,x⟩)] at hS;refine cP ep (bQ 20 h.dA) ?_;exact ⟨_,[[.v (.int .i64 (m + 1))]],ax,(ug DE),bO (tk:=[]) (f:=(20,h.dA)) hS (fun _=>rfl)⟩
  have x:¬ h.hi < h.lo:=of_decide_eq_false x;rw [ag (by omega),ag (by omega),ag (by omega),ag (by omega),ag (by omega)] at hS;exact ⟨_,[[.v (.int .i64 (m + 1))]],ax,(ug DE),bO (tk:=[]) (f:=(0,0)) hS (fun _=>rfl)⟩
 have k2:¬ h.al=2:=of_decide_eq_false k2;refine br ?_ ?_<;>intro k3
 ·have k3:h.al=3:=of_decide_eq_true k3;refine br ?_ ?_<;>intro x
  ·have x:h.most < 0∨4096 < h.most:=by simpa [aD] using x
   rw [ah (.inr ⟨k3,x⟩)] at hS;refine cP ep (bQ 20 h.dA) ?_;exact ⟨_,[[.v (.int .i64 (m + 1))]],ax,(ug DE),bO (tk:=[]) (f:=(20,h.dA)) hS (fun _=>rfl)⟩
  have x:¬ (h.most < 0∨4096 < h.most):=by simp [aD] at x;omega
  rw [ag (by omega),ag (by omega),ag (by omega),ag (by omega),ag (by omega)] at hS;exact ⟨_,[[.v (.int .i64 (m + 1))]],ax,(ug DE),bO (tk:=[]) (f:=(0,0)) hS (fun _=>rfl)⟩
 have k3:¬ h.al=3:=of_decide_eq_false k3;rw [ag (by omega)] at hS;refine br ?_ ?_<;>intro k4
 ·have k4:h.al=4:=of_decide_eq_true k4;rw [ag (by omega),ah k4,<- P8] at hS;refine cP abl (HE h ps (by omega)) ?_;exact ⟨_,[[.v (.int .i64 (m + 1))]],ax,(ug DE),bO (tk:=[]) (f:=oe h) hS (fun _=>rfl)⟩
 have k4:¬ h.al=4:=of_decide_eq_false k4;refine br ?_ ?_<;>intro k5
 ·have k5':h.al=5∨h.al=6:=.inl (of_decide_eq_true k5);rw [ag (by omega),ag (by omega),ah k5'] at hS;refine br (fun _=>?_) (fun hc=>by rw [k5] at hc;cases hc);refine mQ VI rfl rfl (cs':=[.v (.int .i64 (m + 1))]) (ug DE) ax (AM k ih h ps depth (m + 1) hk cV Hw (by omega) (by omega) (by omega)) nc (fun r sk hr=>?_);obtain ⟨rfl,z,hz,DY⟩:=hr;simp only [List.cons.injEq,and_true] at hz;subst hz;exact ⟨_,_,ax,ax,bO (tk:=[]) (f:=(wrongOne h ps depth (m + 1)).1) hS DY⟩
 have k5:¬ h.al=5:=of_decide_eq_false k5;refine br ?_ ?_<;>intro k6
 ·have k5':h.al=5∨h.al=6:=.inr (of_decide_eq_true k6);rw [ag (by omega),ag (by omega),ah k5'] at hS;refine mQ VI rfl rfl (cs':=[.v (.int .i64 (m + 1))]) (ug DE) ax (AM k ih h ps depth (m + 1) hk cV Hw (by omega) (by omega) (by omega)) nc (fun r sk hr=>?_);obtain ⟨rfl,z,hz,DY⟩:=hr;simp only [List.cons.injEq,and_true] at hz;subst hz;exact ⟨_,_,ax,ax,bO (tk:=[]) (f:=(wrongOne h ps depth (m + 1)).1) hS DY⟩
 have k6:¬ h.al=6:=of_decide_eq_false k6;have hP:oa h ps depth (m + 1)=oa h ps depth (m + 1):=rfl
 conv at hP=>lhs;unfold oa
 refine br ?_ ?_<;>intro k7
 ·have k7':h.al=7∨h.al=8:=.inl (of_decide_eq_true k7);rw [ag (by omega),ag (by omega),ag (by omega),ah k7',hP] at hS;refine br (fun _=>?_) (fun hc=>by rw [k7] at hc;cases hc);refine mQ VJ rfl rfl (cs':=[.v (.int .i64 (m + 1))]) (ug DE) ax (uA k ih h ps depth (m + 1) k7' hk cV Hw (by omega) (by omega) (by omega)) nc (fun r sk hr=>?_);obtain ⟨rfl,z,hz,DY⟩:=hr;simp only [List.cons.injEq,and_true] at hz;subst hz;exact ⟨_,_,ax,ax,bO (tk:=[]) (f:=(oa h ps depth (m + 1)).1) hS DY⟩
 have k7:¬ h.al=7:=of_decide_eq_false k7;refine br ?_ ?_<;>intro k8
 ·have k7':h.al=7∨h.al=8:=.inr (of_decide_eq_true k8);rw [ag (by omega),ag (by omega),ag (by omega),ah k7',hP] at hS;refine mQ VJ rfl rfl (cs':=[.v (.int .i64 (m + 1))]) (ug DE) ax (uA k ih h ps depth (m + 1) k7' hk cV Hw (by omega) (by omega) (by omega)) nc (fun r sk hr=>?_);obtain ⟨rfl,z,hz,DY⟩:=hr;simp only [List.cons.injEq,and_true] at hz;subst hz;exact ⟨_,_,ax,ax,bO (tk:=[]) (f:=(oa h ps depth (m + 1)).1) hS DY⟩
 have k8:¬ h.al=8:=of_decide_eq_false k8;refine br ?_ ?_<;>intro k9
 ·have k9:h.al=9:=of_decide_eq_true k9;refine cP Ek (fG h.name.s (by simp only [Wd.wt] at Wp;omega)) ?_;refine br ?_ ?_<;>intro q
  ·have q:ay h.name.s=false:=sU q;rw [ah ⟨k9,q⟩] at hS;refine cP ep (bQ 9 h.name.a) ?_;exact ⟨_,[[.v (.int .i64 (m + 1))]],ax,(ug DE),bO (tk:=[]) (f:=(9,h.name.a)) hS (fun _=>rfl)⟩
  ·have q:ay h.name.s=true:=sU q;rw [ag (by simp [q]),ag (by omega),ag (by omega),ag (by omega)] at hS;exact ⟨_,[[.v (.int .i64 (m + 1))]],ax,(ug DE),bO (tk:=[]) (f:=(0,0)) hS (fun _=>rfl)⟩
 have k9:¬ h.al=9:=of_decide_eq_false k9;rw [ag (by omega),ag (by omega),ag (by omega),ag (by omega)] at hS;exact ⟨_,[[.v (.int .i64 (m + 1))]],ax,(ug DE),bO (tk:=[]) (f:=(0,0)) hS (fun _=>rfl)⟩
theorem Fm:∀ k,Qg k
 | 0=>fun t depth m hk=>by have:=t.mR;omega
 | k + 1=>fun t depth m hk cV Hw E7 pu mC=>by
  obtain ⟨h,ps⟩:=t;have gU:=hk;simp only [Ty.wt,Hd.wt] at gU;exact Fl k (Fm k) h ps depth m (by omega) cV Hw E7 pu mC
theorem ou (t:Ty) (cV:t.wt<=1099511627776):bA prog 84 [.agg (dC t)] (wrong t 1 0).1.d:=
 LO t (Fm t.wt t 1 0 (bn _) cV (by omega) (by omega) (by omega) (by omega))
abbrev Qk (t:Ty) (ps:Pts) (e n:Nat):St:=
 ⟨[bq 1 0,aJ 3 n,dH 7 18 (eX ps),aJ 8 ((eX ps).length),aJ 9 e],[dC t],[]⟩
theorem xM:∀ (k:Nat) (t:Ty),t.wt<=k->t.wt<=1099511627776 ->
  bA prog 132 [.agg (dC t)] (.v (.int .i64 t.cnt))
 | 0,t,hn,_=>by have:=t.mR;omega
 | k + 1,.mk h ps,hn,cV=>by
  simp only [Ty.wt,Hd.wt] at hn cV;have kE:=ps.ki;have hc:=ps.gD;refine eG 23 [.tmp 2] func132 rfl ntmps132 rfl fun _ _ _ _=>?_
  refine cH (fun j st=>∃ (e n:Nat),st=Qk (.mk h ps) ps e n/\e<=ps.len/\n + (ps.drop e).cnt=1 + ps.cnt/\j=ps.len - e) ps.len
   (Qk (.mk h ps) ps 0 1) (dg wB) ⟨0,1,rfl,by omega,rfl,by omega⟩ ?_
  rintro j st ⟨e,n,rfl,he,bo,rfl⟩;refine br ?_ ?_<;>intro hL
  ·have aE:e < ps.len:=by simpa [bG] using hL
   obtain ⟨p,t,hx⟩:=Pts.jm aE;have Cp:=Pts.kj (mG hx);rw [Pts.drop_cons hx] at bo;simp only [Pts.cnt] at bo;have Tq:=t.gD;obtain ⟨u,us⟩:=t;refine iX (er hx) ?_;refine br ?_ ?_<;>intro hB
   ·have hB:p.bare=false:=sU hB;rw [hB] at bo;have bo:n + ((Ty.mk u us).cnt + (ps.drop (e + 1)).cnt)=1 + ps.cnt:=bo;refine cP VB (xM k (.mk u us) (by omega) (by omega)) ?_;have Pa:IntKind.i64.wrap ((n:Int) + (Ty.mk u us).cnt)=((n + (Ty.mk u us).cnt:Nat):Int):=by rw [wrap64 (by omega) (by omega)];omega
    exact ⟨Qk (.mk h ps) ps (e + 1) (n + (Ty.mk u us).cnt),(dg (re Pa (cR aE (by omega)))),ps.len - (e + 1),by omega,e + 1,_,rfl,by omega,by omega,rfl⟩
   ·have hB:p.bare=true:=sU hB;rw [hB] at bo;have bo:n + (0 + (ps.drop (e + 1)).cnt)=1 + ps.cnt:=bo;exact rE ⟨_,by omega,e + 1,n,rfl,by omega,by omega,rfl⟩ (dg (gv (cR aE (by omega))))
  ·have hge:e=ps.len:=by simp [bG] at hL;omega
   rw [hge,Pts.gm] at bo;simp only [Pts.cnt] at bo;have e2:(n:Int)=((Ty.mk h ps).cnt:Int):=by simp only [Ty.cnt];omega
   refine (Eb ?_:);exact e2
mutual
def Ty.nn:Ty->Nat
 | .mk h ps=>if h.al=9 then 0 else 1 + ps.nn
def Pts.nn:Pts->Nat
 | .nil=>0
 | .cons p t r=>(if p.bare then 0 else t.nn) + r.nn
end
mutual
theorem Ty.jr:∀ t:Ty,t.nn<=t.cnt
 | .mk h ps=>by
  have:=Pts.jr ps;simp only [Ty.nn,Ty.cnt];split<;>omega
theorem Pts.jr:∀ ps:Pts,ps.nn<=ps.cnt
 | .nil=>bn _
 | .cons p t r=>by
  have:=Ty.jr t;have:=Pts.jr r;simp only [Pts.nn,Pts.cnt];split<;>omega
end
abbrev Yw (t:Ty) (ps:Pts) (e n:Nat):St:=
 ⟨[bq 1 0,aJ 3 n,dH 10 18 (eX ps),aJ 11 ((eX ps).length),aJ 12 e],[dC t],[]⟩
theorem xN:∀ (k:Nat) (t:Ty),t.wt<=k->t.wt<=1099511627776 ->
  bA prog 135 [.agg (dC t)] (.v (.int .i64 t.nn))
 | 0,t,hn,_=>by have:=t.mR;omega
 | k + 1,.mk h ps,hn,cV=>by
  simp only [Ty.wt,Hd.wt] at hn cV;have kE:=ps.ki;have hc:=ps.gD;have qU:=ps.jr;refine eG 26 [.tmp 2] func135 rfl ntmps135 rfl fun _ _ _ _=>?_;refine br ?_ ?_<;>intro h9
  ·have h9:h.al=9:=sU h9;have:(Ty.mk h ps).nn=0:=by simp [Ty.nn,h9]
   rw [this];exact (rfl:_=_)
  have h9:¬ h.al=9:=sU h9
  refine cH (fun j st=>∃ (e n:Nat),st=Yw (.mk h ps) ps e n/\e<=ps.len/\n + (ps.drop e).nn=1 + ps.nn/\j=ps.len - e) ps.len
   (Yw (.mk h ps) ps 0 1) (dg wB) ⟨0,1,rfl,by omega,rfl,by omega⟩ ?_
  rintro j st ⟨e,n,rfl,he,bo,rfl⟩;refine br ?_ ?_<;>intro hL
  ·have aE:e < ps.len:=by simpa [bG] using hL
   obtain ⟨p,t,hx⟩:=Pts.jm aE;have Cp:=Pts.kj (mG hx);rw [Pts.drop_cons hx] at bo;simp only [Pts.nn] at bo;have Tq:=t.gD;have hct2:=t.jr;obtain ⟨u,us⟩:=t;refine iX (er hx) ?_;refine br ?_ ?_<;>intro hB
   ·have hB:p.bare=false:=sU hB;rw [hB] at bo;have bo:n + ((Ty.mk u us).nn + (ps.drop (e + 1)).nn)=1 + ps.nn:=bo;refine cP VC (xN k (.mk u us) (by omega) (by omega)) ?_;have Pa:IntKind.i64.wrap ((n:Int) + (Ty.mk u us).nn)=((n + (Ty.mk u us).nn:Nat):Int):=by rw [wrap64 (by omega) (by omega)];omega
    exact ⟨Yw (.mk h ps) ps (e + 1) (n + (Ty.mk u us).nn),(dg (re Pa (cR aE (by omega)))),ps.len - (e + 1),by omega,e + 1,_,rfl,by omega,by omega,rfl⟩
   ·have hB:p.bare=true:=sU hB;rw [hB] at bo;have bo:n + (0 + (ps.drop (e + 1)).nn)=1 + ps.nn:=bo;exact rE ⟨_,by omega,e + 1,n,rfl,by omega,by omega,rfl⟩ (dg (gv (cR aE (by omega))))
  ·have hge:e=ps.len:=by simp [bG] at hL;omega
   rw [hge,Pts.gm] at bo;simp only [Pts.nn] at bo;have e2:(n:Int)=((Ty.mk h ps).nn:Int):=by simp only [Ty.nn,ag h9];omega
   refine (Eb ?_:);exact e2
structure Lx where
 af:List ByteArray
 aN:List Nat
 rows:List Nat
 js:List Int
 f:Nat->Nat->Bool
def Lx.pd (X:Lx):DV:=.pt (iL X.af (dm X.af X.aN) X.rows X.js) 0
def Lx.lev (X:Lx) (l:List Wd):Int:=Fi X.f X.af l
def Lx.bad (X:Lx) (l:List Wd):Ft:=labW X.af l
structure Lx.OK (X:Lx):Prop where
 hT:iy X.af X.aN
 mB:X.aN.length<=1099511627776
 hL:kv X.f X.af.length
 hn:X.af.length<=32
 hj:∀ x y,x < X.af.length->y < X.af.length->JM X.f X.af.length X.js x y
theorem Lx.rN {X:Lx} (h:X.OK) (l:List Wd) (hs:wdsWt l<=1099511627776):bA prog 133 [X.pd,.sl 2 (cd l) none] (.bK [.v (.int .i64 (X.lev l)),(X.bad l).d]):=
 Qf X.af X.aN X.rows X.js h.hT h.mB h.hL h.hn h.hj l hs
def bC (s:Sch) (lat out:DV) (m:Int):List DV:=.sl 2 (cd s.ae) none :: .sl 4 (eY s.order) none :: .sl 11 (dNms s.types) none :: (dC s.root ++ [lat,out,.v (.int .i64 m)])
theorem xO {X:Lx} (h:X.OK) (s:Sch) (pc:List DV) (m:Int) (l:List Wd) (hs:wdsWt l<=1099511627776) :
  bA prog 218 [.pt (bC s X.pd (.pt pc 0) m) 0,.sl 2 (cd l) none] (.v (.int .i64 (X.lev l))):=by
 obtain ⟨ae,order,types,⟨rh,rp⟩⟩:=s;refine eG 17 [.tmp 4] func218 rfl ntmps218 rfl fun _ _ _ _=>?_;refine cP El (Lx.rN h l hs) ?_;exact (rfl:_=_)
def zo (s:Sch):List Wd:=s.types.map fun x=>x.1
def tL (s:Sch):List ByteArray:=aO (zo s)
theorem T5 (s:Sch):(zo s).length=s.types.length:=by simp [zo]
theorem xP (s:Sch):(tL s).length=s.types.length:=by simp [tL,aO,zo]
def pC (s:Sch) (aN:List Nat) (a b c e:DV):List DV:=[a,b,c,.pt (dm (tL s) aN) 0,e]
def Mt (s:Sch) (t:Ty):Bool:=decide (t.h.al=9->gG (tL s) t.h.name.s≠none)
def endI (s:Sch):Nat->Nat->Option Nat
 | 0,_=>none
 | k + 1,i=>
  match s.types[i]? with
  | none=>none
  | some x=>if x.2.h.al=9 then endI s k ((gG (tL s) x.2.h.name.s).getD 0) else some i
theorem CG {s:Sch}:∀ {k i j:Nat},endI s k i=some j->j < s.types.length/\∀ x,s.types[j]? = some x->x.2.h.al≠9
 | 0,i,j,h=>by cases h
 | k + 1,i,j,h=>by
  rw [endI] at h
  cases hx:s.types[i]? with
  | none=>rw [hx] at h;cases h
  | some x=>
   rw [hx] at h;simp only at h;split at h
   ·exact CG h
   all_goals grind
abbrev Wq (B:DV) (n i e:Nat):St:=
 ⟨[(0,⟨[],B⟩),aJ 1 i,aJ 12 n,aJ 13 e],[],[]⟩
theorem Fo (s:Sch) (lat:DV) (aN:List Nat) (a b c e0:DV) (m:Int) (hT:iy (tL s) aN) (mB:aN.length<=1099511627776) (hl:s.types.length<=64) (hr:∀ x∈s.types,Mt s x.2=true) (i:Nat) (hi:i < s.types.length) :
  bA prog 134 [.pt (bC s lat (.pt (pC s aN a b c e0) 0) m) 0,.v (.int .i64 i)] (.v (.int .i64 (oz (endI s (s.types.length + 1) i)))):=by
 have nE:=xP s;obtain ⟨ae,order,types,⟨rh,rp⟩⟩:=s;simp only at hl hr hi nE;have hN:=dN types;have hcnt:IntKind.i64.wrap ((((dNms types).length:Nat):Int) + 1)=((types.length + 1:Nat):Int):=by rw [hN,wrap64 (by omega) (by omega)];all_goals rfl
 refine eG 43 [.tmp 4] func134 rfl ntmps134 rfl fun _ _ _ _=>?_
 refine cH (fun j st=>∃ e q:Nat,st=Wq (.pt (bC ⟨ae,order,types,.mk rh rp⟩ lat (.pt (pC ⟨ae,order,types,.mk rh rp⟩ aN a b c e0) 0) m) 0) (types.length + 1) q e/\e<=types.length + 1/\q < types.length/\endI ⟨ae,order,types,.mk rh rp⟩ (types.length + 1) i=endI ⟨ae,order,types,.mk rh rp⟩ (types.length + 1 - e) q/\j=types.length + 1 - e) (types.length + 1)
  (Wq (.pt (bC ⟨ae,order,types,.mk rh rp⟩ lat (.pt (pC ⟨ae,order,types,.mk rh rp⟩ aN a b c e0) 0) m) 0) (types.length + 1) i 0) (dg (gv hcnt)) ⟨0,i,rfl,by omega,hi,rfl,by omega⟩ ?_
 rintro j st ⟨e,q,rfl,he,hq,bN,rfl⟩;refine br ?_ ?_<;>intro hL
 ·have aE:e < types.length + 1:=by have:=hL;simp at this;omega
  obtain ⟨x,hx⟩:∃ x,types[q]? = some x:=⟨_,gE hq⟩;have hrx:=hr x (mG hx);obtain ⟨xw,⟨xh,xp⟩⟩:=x
  have bp:endI ⟨ae,order,types,.mk rh rp⟩ (types.length + 1 - e) q=if xh.al=9 then endI ⟨ae,order,types,.mk rh rp⟩ (types.length + 1 - (e + 1)) ((gG (tL ⟨ae,order,types,.mk rh rp⟩) xh.name.s).getD 0) else some q:=by
   rw [show types.length + 1 - e=(types.length + 1 - (e + 1)) + 1 by omega,endI];simp only [hx];rfl
  rw [bp] at bN;refine iX (dNms_get hx) ?_;refine br ?_ ?_<;>intro h9
  ·have h9:¬ xh.al=9:=sU h9;rw [ag h9] at bN;rw [bN];exact (rfl:_=_)
  have h9:xh.al=9:=sU h9;rw [ah h9] at bN
  have bo:gG (tL ⟨ae,order,types,.mk rh rp⟩) xh.name.s≠none:=by
   have:=of_decide_eq_true hrx;exact this h9
  obtain ⟨k,hk⟩:=Option.ne_none_iff_exists'.1 bo;have D6:=(iJ hk).1;rw [hk] at bN;have hf:=iK (tL ⟨ae,order,types,.mk rh rp⟩) aN xh.name.s hT mB;rw [hk] at hf;refine dI ?_;refine cD nY hf ?_;exact rE ⟨_,by omega,e + 1,k,rfl,by omega,by omega,bN,rfl⟩ (dg (gv (cR aE (by omega))))
 ·have hge:e=types.length + 1:=by have:=hL;simp at this;omega
  subst hge;rw [Nat.sub_self] at bN;rw [bN];exact (rfl:_=_)
def loopF (s:Sch):Ft:=
 match dh (fun i=>(endI s (s.types.length + 1) i).isNone) s.types.length with
 | none=>(0,0)
 | some i=>(11,Z0 (zo s) i)
abbrev CH (B:DV) (s:Sch) (e:Nat):St:=
 ⟨[(0,⟨[],B⟩),bq 2 0,dH 9 11 (dNms s.types),aJ 10 ((dNms s.types).length),aJ 11 e],[[.v (.int .i64 0),.v (.int .i64 0)]],[]⟩
theorem Ib (s:Sch) (lat:DV) (aN:List Nat) (a b c e0:DV) (m:Int) (hT:iy (tL s) aN) (mB:aN.length<=1099511627776) (hl:s.types.length<=64) (hr:∀ x∈s.types,Mt s x.2=true) :
  bA prog 66 [.pt (bC s lat (.pt (pC s aN a b c e0) 0) m) 0] (loopF s).d:=by
 have zF:=Fo s lat aN a b c e0 m hT mB hl hr;have hN:=dN s.types;have hF:=loopF.eq_1 s;obtain ⟨ae,order,types,⟨rh,rp⟩⟩:=s;simp only at hl hr zF hN;refine eG 26 [.cell 2 26] func66 rfl ntmps66 rfl fun _ _ _ _=>?_
 refine cH (fun j st=>∃ e:Nat,st=CH (.pt (bC ⟨ae,order,types,.mk rh rp⟩ lat (.pt (pC ⟨ae,order,types,.mk rh rp⟩ aN a b c e0) 0) m) 0) ⟨ae,order,types,.mk rh rp⟩ e/\e<=types.length/\(∀ i,i < e->(endI ⟨ae,order,types,.mk rh rp⟩ (types.length + 1) i).isNone=false)/\j=types.length - e) types.length
  (CH (.pt (bC ⟨ae,order,types,.mk rh rp⟩ lat (.pt (pC ⟨ae,order,types,.mk rh rp⟩ aN a b c e0) 0) m) 0) ⟨ae,order,types,.mk rh rp⟩ 0) (dg wB) ⟨0,rfl,by omega,fun _ h=>by omega,by omega⟩ ?_
 rintro j st ⟨e,rfl,he,kG,rfl⟩;refine br ?_ ?_<;>intro hL
 ·have aE:e < types.length:=by have:=hL;simp [hN] at this;exact this
  obtain ⟨x,hx⟩:=gX aE;have hxn:(zo ⟨ae,order,types,.mk rh rp⟩)[e]? = some x.1:=by simp [zo,hx]
  have h1:=zF e aE;obtain ⟨xw,⟨xh,xp⟩⟩:=x;refine iX (dNms_get hx) ?_;refine cP en134 h1 ?_
  cases hE:endI ⟨ae,order,types,.mk rh rp⟩ (types.length + 1) e with
  | none=>
   have wv:=jd (p:=fun i=>(endI ⟨ae,order,types,.mk rh rp⟩ (types.length + 1) i).isNone) aE (by simp only [hE];rfl) kG;simp only [wv] at hF;rw [vD hxn] at hF;refine ⟨_,?_,rfl⟩;rw [hF];exact ax
  | some k=>
   refine ⟨CH (.pt (bC ⟨ae,order,types,.mk rh rp⟩ lat (.pt (pC ⟨ae,order,types,.mk rh rp⟩ aN a b c e0) 0) m) 0) ⟨ae,order,types,.mk rh rp⟩ (e + 1),(dg (gv (cR aE (by omega)))),types.length - (e + 1),by omega,e + 1,rfl,by omega,fun i hi=>?_,rfl⟩;rcases G8 hi with hi | rfl
   ·exact kG i hi
   ·rw [hE];all_goals rfl
 ·have hge:e=types.length:=sW hN hL;subst hge;simp only [kW kG] at hF;refine ⟨_,?_,rfl⟩;rw [hF];exact ax
mutual
def knT (X:Lx) (L:List ByteArray):Ty->Ft
 | .mk h ps=>if h.al=9/\gG L h.name.s=none then (15,h.name.a) else knP X L ps
def knP (X:Lx) (L:List ByteArray):Pts->Ft
 | .nil=>(0,0)
 | .cons p t r=>if (X.bad p.label).1≠0 then X.bad p.label else if (X.bad p.cl).1≠0 then X.bad p.cl else if p.bare then knP X L r else if (knT X L t).1≠0 then knT X L t else knP X L r
end
abbrev acw (B:DV) (t:Ty) (ps:Pts) (e:Nat):St:=
 ⟨[(0,⟨[],B⟩),bq 3 0,bq 4 1,dH 38 18 (eX ps),aJ 39 ((eX ps).length),aJ 40 e],[dC t,[.v (.int .i64 0),.v (.int .i64 0)]],[]⟩
abbrev AN (B:DV) (t:Ty) (ps:Pts) (p:Ph) (u:Ty) (e q:Nat):St:=
 ⟨[(0,⟨[],B⟩),bq 3 0,bq 4 1,dH 38 18 (eX ps),aJ 39 ((eX ps).length),aJ 40 e,bq 8 2,dH 49 1 [[.sl 2 (cd p.label) none],[.sl 2 (cd p.cl) none]],aJ 50 (2:Nat),aJ 51 q],[dC t,[.v (.int .i64 0),.v (.int .i64 0)],lR p (dC u)],[]⟩
theorem xQ {X:Lx} (hX:X.OK) (s:Sch) (aN:List Nat) (a b c e0:DV) (m:Int) (hT:iy (tL s) aN) (mB:aN.length<=1099511627776):∀ (k:Nat) (t:Ty),t.wt<=k->t.wt<=1099511627776 ->
  bA prog 65 [.pt (bC s X.pd (.pt (pC s aN a b c e0) 0) m) 0,.agg (dC t)] (knT X (tL s) t).d
 | 0,t,hn,_=>by have:=t.mR;omega
 | k + 1,.mk h ps,hn,cV=>by
  have ih:=xQ hX s aN a b c e0 m hT mB k;simp only [Ty.wt,Hd.wt] at hn cV;have kE:=ps.ki;obtain ⟨ae,order,types,⟨rh,rp⟩⟩:=s;have hf:=iK (tL ⟨ae,order,types,.mk rh rp⟩) aN h.name.s hT mB;have hS:knT X (tL ⟨ae,order,types,.mk rh rp⟩) (.mk h ps)=if h.al=9/\gG (tL ⟨ae,order,types,.mk rh rp⟩) h.name.s=none then (15,h.name.a) else knP X (tL ⟨ae,order,types,.mk rh rp⟩) ps:=by rw [knT]
  refine eG 81 [.cell 4 26] func65 rfl ntmps65 rfl fun _ _ _ _=>?_;generalize knT X (tL ⟨ae,order,types,.mk rh rp⟩) (.mk h ps)=F at hS ⊢;have hS0:knP X (tL ⟨ae,order,types,.mk rh rp⟩) ps=knP X (tL ⟨ae,order,types,.mk rh rp⟩) (ps.drop 0):=by rw [Pts.drop]
  refine br ?_ ?_<;>intro h9
  ·have h9:h.al=9:=sU h9;refine dI ?_
   cases hx:gG (tL ⟨ae,order,types,.mk rh rp⟩) h.name.s with
   | none=>
    rw [ah ⟨h9,hx⟩] at hS;rw [hx] at hf;refine cD nY hf ?_;refine ⟨_,?_,rfl⟩;rw [hS];exact ax
   | some i=>
    rw [ag (by rw [hx];simp),hS0] at hS;rw [hx] at hf;refine cD nY hf ?_;refine lI (fun j st=>∃ e:Nat,st=acw (.pt (bC ⟨ae,order,types,.mk rh rp⟩ X.pd (.pt (pC ⟨ae,order,types,.mk rh rp⟩ aN a b c e0) 0) m) 0) (.mk h ps) ps e/\e<=ps.len/\F=knP X (tL ⟨ae,order,types,.mk rh rp⟩) (ps.drop e)/\j=ps.len - e) ⟨0,rfl,by omega,hS,rfl⟩ (dg wB) ?_;rintro j st ⟨e,rfl,he,bN,rfl⟩;refine br ?_ ?_<;>intro hL
    ·have aE:e < ps.len:=by simpa [bG] using hL
     obtain ⟨p,t,hx⟩:=Pts.jm aE;have Cp:=Pts.kj (mG hx);rw [Pts.drop_cons hx] at bN;simp only [knP] at bN;have zA:wdsWt p.label + wdsWt p.cl<=p.wt:=by simp only [Ph.wt];omega
     obtain ⟨u,us⟩:=t;refine iX (er hx) ?_;refine lI (fun j st=>∃ q:Nat,st=AN (.pt (bC ⟨ae,order,types,.mk rh rp⟩ X.pd (.pt (pC ⟨ae,order,types,.mk rh rp⟩ aN a b c e0) 0) m) 0) (.mk h ps) ps p (.mk u us) e q/\q<=2/\(1<=q->(X.bad p.label).1=0)/\(2<=q->(X.bad p.cl).1=0)/\j=2 - q) ⟨0,rfl,by omega,fun h=>by omega,fun h=>by omega,rfl⟩ (dg wB) ?_;rintro j st ⟨q,rfl,hq,Yx,kF,rfl⟩;refine br ?_ ?_<;>intro Qd
     ·have Ln:q=0∨q=1:=by have:=Qd;simp at this;omega
      rcases Ln with rfl | rfl
      ·refine ⟨_,⟨by omega,rfl⟩,?_⟩;refine cP El (Lx.rN hX p.label (by omega)) ?_;refine br ?_ ?_<;>intro hb
       ·have hb:(X.bad p.label).1≠0:=sU hb;rw [ah hb] at bN;refine ⟨_,?_,rfl⟩;rw [bN];exact ax
       ·have hb:(X.bad p.label).1=0:=sU hb;exact ⟨AN (.pt (bC ⟨ae,order,types,.mk rh rp⟩ X.pd (.pt (pC ⟨ae,order,types,.mk rh rp⟩ aN a b c e0) 0) m) 0) (.mk h ps) ps p (.mk u us) e 1,(dg (gv (cR (e:=0) (n:=2) (by omega) (by omega)))),1,by omega,1,rfl,by omega,fun _=>hb,fun h=>by omega,rfl⟩
      ·have iT:=Yx (by omega);refine ⟨_,⟨by omega,rfl⟩,?_⟩;refine cP El (Lx.rN hX p.cl (by omega)) ?_;refine br ?_ ?_<;>intro hb
       ·have hb:(X.bad p.cl).1≠0:=sU hb;rw [ag (by rw [iT];simp),ah hb] at bN;refine ⟨_,?_,rfl⟩;rw [bN];exact ax
       ·have hb:(X.bad p.cl).1=0:=sU hb;exact ⟨AN (.pt (bC ⟨ae,order,types,.mk rh rp⟩ X.pd (.pt (pC ⟨ae,order,types,.mk rh rp⟩ aN a b c e0) 0) m) 0) (.mk h ps) ps p (.mk u us) e 2,(dg (gv (cR (e:=1) (n:=2) (by omega) (by omega)))),0,by omega,2,rfl,by omega,fun _=>iT,fun _=>hb,rfl⟩
     ·have Ln:q=2:=by have:=Qd;simp at this;omega
      subst Ln;have iT:=Yx (by omega);have nU:=kF (by omega);rw [ag (by rw [iT];simp),ag (by rw [nU];simp)] at bN;refine br ?_ ?_<;>intro hB
      ·have hB:p.bare=true:=hB;rw [ah hB] at bN;exact rE ⟨_,by omega,e + 1,rfl,by omega,bN,rfl⟩ (dg (gv (cR aE (by omega))))
      ·have hB:p.bare=false:=hB;rw [ag (by rw [hB];decide)] at bN;refine cP XR (ih (.mk u us) (by omega) (by omega)) ?_;refine br ?_ ?_<;>intro hb
       ·have hb:(knT X (tL ⟨ae,order,types,.mk rh rp⟩) (.mk u us)).1≠0:=sU hb;rw [ah hb] at bN;refine ⟨_,?_,rfl⟩;rw [bN];exact ax
       ·have hb:(knT X (tL ⟨ae,order,types,.mk rh rp⟩) (.mk u us)).1=0:=sU hb;rw [ag (by rw [hb];simp)] at bN;exact rE ⟨_,by omega,e + 1,rfl,by omega,bN,rfl⟩ (dg (gv (cR aE (by omega))))
    ·have hge:e=ps.len:=by simp [bG] at hL;omega
     rw [hge,Pts.gm] at bN;simp only [knP] at bN;refine ⟨_,?_,rfl⟩;rw [bN];exact ax
  ·have h9:¬ h.al=9:=sU h9;rw [ag (fun hc=>h9 hc.1),hS0] at hS;refine lI (fun j st=>∃ e:Nat,st=acw (.pt (bC ⟨ae,order,types,.mk rh rp⟩ X.pd (.pt (pC ⟨ae,order,types,.mk rh rp⟩ aN a b c e0) 0) m) 0) (.mk h ps) ps e/\e<=ps.len/\F=knP X (tL ⟨ae,order,types,.mk rh rp⟩) (ps.drop e)/\j=ps.len - e) ⟨0,rfl,by omega,hS,rfl⟩ (dg wB) ?_;rintro j st ⟨e,rfl,he,bN,rfl⟩;refine br ?_ ?_<;>intro hL
   ·have aE:e < ps.len:=by simpa [bG] using hL
    obtain ⟨p,t,hx⟩:=Pts.jm aE;have Cp:=Pts.kj (mG hx);rw [Pts.drop_cons hx] at bN;simp only [knP] at bN;have zA:wdsWt p.label + wdsWt p.cl<=p.wt:=by simp only [Ph.wt];omega
    obtain ⟨u,us⟩:=t;refine iX (er hx) ?_;refine lI (fun j st=>∃ q:Nat,st=AN (.pt (bC ⟨ae,order,types,.mk rh rp⟩ X.pd (.pt (pC ⟨ae,order,types,.mk rh rp⟩ aN a b c e0) 0) m) 0) (.mk h ps) ps p (.mk u us) e q/\q<=2/\(1<=q->(X.bad p.label).1=0)/\(2<=q->(X.bad p.cl).1=0)/\j=2 - q) ⟨0,rfl,by omega,fun h=>by omega,fun h=>by omega,rfl⟩ (dg wB) ?_;rintro j st ⟨q,rfl,hq,Yx,kF,rfl⟩;refine br ?_ ?_<;>intro Qd
    ·have Ln:q=0∨q=1:=by have:=Qd;simp at this;omega
     rcases Ln with rfl | rfl
     ·refine ⟨_,⟨by omega,rfl⟩,?_⟩;refine cP El (Lx.rN hX p.label (by omega)) ?_;refine br ?_ ?_<;>intro hb
      ·have hb:(X.bad p.label).1≠0:=sU hb;rw [ah hb] at bN;refine ⟨_,?_,rfl⟩;rw [bN];exact ax
      ·have hb:(X.bad p.label).1=0:=sU hb;exact ⟨AN (.pt (bC ⟨ae,order,types,.mk rh rp⟩ X.pd (.pt (pC ⟨ae,order,types,.mk rh rp⟩ aN a b c e0) 0) m) 0) (.mk h ps) ps p (.mk u us) e 1,(dg (gv (cR (e:=0) (n:=2) (by omega) (by omega)))),1,by omega,1,rfl,by omega,fun _=>hb,fun h=>by omega,rfl⟩
     ·have iT:=Yx (by omega);refine ⟨_,⟨by omega,rfl⟩,?_⟩;refine cP El (Lx.rN hX p.cl (by omega)) ?_;refine br ?_ ?_<;>intro hb
      ·have hb:(X.bad p.cl).1≠0:=sU hb;rw [ag (by rw [iT];simp),ah hb] at bN;refine ⟨_,?_,rfl⟩;rw [bN];exact ax
      ·have hb:(X.bad p.cl).1=0:=sU hb;exact ⟨AN (.pt (bC ⟨ae,order,types,.mk rh rp⟩ X.pd (.pt (pC ⟨ae,order,types,.mk rh rp⟩ aN a b c e0) 0) m) 0) (.mk h ps) ps p (.mk u us) e 2,(dg (gv (cR (e:=1) (n:=2) (by omega) (by omega)))),0,by omega,2,rfl,by omega,fun _=>iT,fun _=>hb,rfl⟩
    ·have Ln:q=2:=by have:=Qd;simp at this;omega
     subst Ln;have iT:=Yx (by omega);have nU:=kF (by omega);rw [ag (by rw [iT];simp),ag (by rw [nU];simp)] at bN;refine br ?_ ?_<;>intro hB
     ·have hB:p.bare=true:=hB;rw [ah hB] at bN;exact rE ⟨_,by omega,e + 1,rfl,by omega,bN,rfl⟩ (dg (gv (cR aE (by omega))))
     ·have hB:p.bare=false:=hB;rw [ag (by rw [hB];decide)] at bN;refine cP XR (ih (.mk u us) (by omega) (by omega)) ?_;refine br ?_ ?_<;>intro hb
      ·have hb:(knT X (tL ⟨ae,order,types,.mk rh rp⟩) (.mk u us)).1≠0:=sU hb;rw [ah hb] at bN;refine ⟨_,?_,rfl⟩;rw [bN];exact ax
      ·have hb:(knT X (tL ⟨ae,order,types,.mk rh rp⟩) (.mk u us)).1=0:=sU hb;rw [ag (by rw [hb];simp)] at bN;exact rE ⟨_,by omega,e + 1,rfl,by omega,bN,rfl⟩ (dg (gv (cR aE (by omega))))
   ·have hge:e=ps.len:=by simp [bG] at hL;omega
    rw [hge,Pts.gm] at bN;simp only [knP] at bN;refine ⟨_,?_,rfl⟩;rw [bN];exact ax
def eaL (F:Ty->Ft) (z:Ft):List (Wd × Ty)->Ft
 | []=>z
 | x :: r=>if (F x.2).1≠0 then F x.2 else eaL F z r
theorem Ql {F:Ty->Ft} {z:Ft} {l:List (Wd × Ty)} {e:Nat} {x:Wd × Ty} (h:l[e]? = some x):eaL F z (l.drop e)=if (F x.2).1≠0 then F x.2 else eaL F z (l.drop (e + 1)):=by
 rw [drop_cons h,eaL]
abbrev Qm (B:DV) (fn:DV) (types:List (Wd × Ty)) (e:Nat):St:=
 ⟨[(0,⟨[],B⟩),(1,⟨[],fn⟩),bq 4 0,dH 12 11 (dNms types),aJ 13 ((dNms types).length),aJ 14 e],[[.v (.int .i64 0),.v (.int .i64 0)]],[]⟩
theorem Mu (s:Sch) (lat:DV) (pc:List DV) (m:Int) (hl:s.types.length<=1099511627776) (g:Nat) (hg:Enters prog g) (F:Ty->Ft)
  (hF:∀ t,(t=s.root∨∃ x∈s.types,t=x.2)->bA prog g [.pt (bC s lat (.pt pc 0) m) 0,.agg (dC t)] (F t).d) :
  bA prog 63 [.pt (bC s lat (.pt pc 0) m) 0,.fn g [.pt (bC s lat (.pt pc 0) m) 0] []] (eaL F (F s.root) s.types).d:=by
 have hN:=dN s.types;obtain ⟨ae,order,types,⟨rh,rp⟩⟩:=s;simp only at hl hF hN;have uB:=hF (.mk rh rp) (.inl rfl);have Yy:∀ x∈types,_:=fun x hx=>hF x.2 (.inr ⟨x,hx,rfl⟩);clear hF;refine eG 34 [.cell 4 26] func63 rfl ntmps63 rfl fun _ _ _ _=>?_;generalize hG:eaL F (F (.mk rh rp)) types=G;have hG0:G=eaL F (F (.mk rh rp)) (types.drop 0):=by rw [List.drop_zero,hG]
 refine cH (fun j st=>∃ e:Nat,st=Qm (.pt (bC ⟨ae,order,types,.mk rh rp⟩ lat (.pt pc 0) m) 0) (.fn g [.pt (bC ⟨ae,order,types,.mk rh rp⟩ lat (.pt pc 0) m) 0] []) types e/\e<=types.length/\G=eaL F (F (.mk rh rp)) (types.drop e)/\j=types.length - e) types.length
  (Qm (.pt (bC ⟨ae,order,types,.mk rh rp⟩ lat (.pt pc 0) m) 0) (.fn g [.pt (bC ⟨ae,order,types,.mk rh rp⟩ lat (.pt pc 0) m) 0] []) types 0) (dg wB) ⟨0,rfl,by omega,hG0,by omega⟩ ?_
 rintro j st ⟨e,rfl,he,bN,rfl⟩;refine br ?_ ?_<;>intro hL
 ·have aE:e < types.length:=by have:=hL;simp [hN] at this;exact this
  obtain ⟨x,hx⟩:=gX aE;have hp:=Yy x (mG hx);rw [Ql hx] at bN;obtain ⟨xw,⟨xh,xp⟩⟩:=x;refine iX (dNms_get hx) ?_;refine cP hg hp ?_;refine br ?_ ?_<;>intro hf
  ·have hf:(F (.mk xh xp)).1≠0:=sU hf;rw [ah hf] at bN;refine ⟨_,?_,rfl⟩;rw [bN];exact ax
  ·have hf:(F (.mk xh xp)).1=0:=sU hf;rw [ag (by rw [hf];simp)] at bN;exact rE ⟨_,by omega,e + 1,rfl,by omega,bN,rfl⟩ (dg (gv (cR aE (by omega))))
 ·have hge:e=types.length:=sW hN hL;subst hge;rw [List.drop_length,eaL] at bN;refine cP hg uB ?_;refine ⟨_,?_,rfl⟩;rw [bN];exact ax
def cF (t:Ty) (m:Int):Ft × Int:=if (wrong t 1 0).1.1≠0 then ((wrong t 1 0).1,m) else if 512 < m + t.cnt then ((8,t.h.dA),m + t.cnt) else ((0,0),m + t.cnt)
def Qn (s:Sch) (lat:DV) (pc:List DV) (x:Ft × Int) (r:DV) (os:List (List DV)) (_:List TkE):Prop:=r=x.1.d/\os=[bC s lat (.loc 1 0) x.2,pc]
theorem Fp (s:Sch) (lc pc:List DV) (m:Int) (pu:0<=m) (mC:m<=1099511627776) (t:Ty) (cV:t.wt<=1099511627776) (hpc:∀ bx N n0 m0,CcL bx N n0 m0 pc pc) :
  Ev prog 64 [.loc 0 0,.agg (dC t)] [bC s (.pt lc 0) (.loc 1 0) m,pc] [] (Qn s (.pt lc 0) pc (cF t m)):=by
 have hk:=ou t cV;have hc:=xM t.wt t (bn _) cV;have Ov:=t.gD;have hF:=cF.eq_1 t m;obtain ⟨ae,order,types,⟨rh,rp⟩⟩:=s;obtain ⟨h,ps⟩:=t;generalize cF (.mk h ps) m=R at hF ⊢;refine eG 30 [.cell 4 26] func64 rfl ntmps64 rfl fun _ _ _ _=>?_;refine cP XS hk ?_;refine br ?_ ?_<;>intro hf
 ·have hf:(wrong (.mk h ps) 1 0).1.1≠0:=sU hf;rw [ah hf] at hF;subst hF;exact ⟨Ft.d _,[bC ⟨ae,order,types,.mk rh rp⟩ (.pt lc 0) (.loc 1 0) m,pc],ax,(by repeat' (first | exact rfl | exact trivial | exact Or.inr (Or.inl ⟨_,rfl⟩) | exact Or.inr ⟨_,rfl⟩ | exact Or.inl ⟨rfl,rfl⟩ | exact Or.inl rfl | refine Or.inr ⟨_,_,rfl,Nat.zero_le _,rfl,?_⟩ | refine ⟨_,_,rfl,?_,?_⟩ | refine ⟨_,rfl,?_⟩ | exact hpc _ _ _ _ | exact ⟨nL rfl,rfl⟩ | exact congrArg (fun z=>DV.v (.int .i64 z)) hw | refine Or.inr (Or.inr (Or.inr ⟨_,_,rfl,?_⟩)) | exact Or.inl rfl | refine Or.inr ?_)),rfl,rfl⟩
 have hf:(wrong (.mk h ps) 1 0).1.1=0:=sU hf;rw [ag (by rw [hf];simp)] at hF;have hw:IntKind.i64.wrap (m + ((Ty.mk h ps).cnt:Int))=m + ((Ty.mk h ps).cnt:Int):=wrap64 (by omega) (by omega);refine dS ?_;refine cD VB hc ?_;refine br ?_ ?_<;>intro hg
 ·have hg:512 < m + ((Ty.mk h ps).cnt:Int):=sV hw hg;rw [ah hg] at hF;subst hF;exact ⟨Ft.d _,[bC ⟨ae,order,types,.mk rh rp⟩ (.pt lc 0) (.loc 1 0) (m + (Ty.mk h ps).cnt),pc],ax,(wC2 hpc hw),rfl,rfl⟩
 ·have hg:¬ 512 < m + ((Ty.mk h ps).cnt:Int):=sV hw hg;rw [ag hg] at hF;subst hF;exact ⟨Ft.d _,[bC ⟨ae,order,types,.mk rh rp⟩ (.pt lc 0) (.loc 1 0) (m + (Ty.mk h ps).cnt),pc],ax,(wC2 hpc hw),rfl,rfl⟩
def eaR (z:Ty):List (Wd × Ty)->Int->Ft × Int
 | [],m=>cF z m
 | x :: r,m=>if (cF x.2 m).1.1≠0 then cF x.2 m else eaR z r (cF x.2 m).2
theorem Qo {z:Ty} {l:List (Wd × Ty)} {e:Nat} {m:Int} {x:Wd × Ty} (h:l[e]? = some x):eaR z (l.drop e) m=if (cF x.2 m).1.1≠0 then cF x.2 m else eaR z (l.drop (e + 1)) (cF x.2 m).2:=by
 rw [drop_cons h,eaR]
theorem oX {t:Ty} {m:Int} (h:(cF t m).1.1=0):(cF t m).2=m + t.cnt/\(cF t m).2<=512/\(wrong t 1 0).1.1=0/\(cF t m).1=(0,0):=by grind [cF]
abbrev Ic (s:Sch) (aN:List Nat) (lc:List DV):List DV:=pC s aN (.pt lc 0) (.v (.slice none 0 0)) (.v (.int .i64 0)) (.v (.slice none 0 0))
abbrev CI (s:Sch) (lc pc:List DV) (m:Int) (types:List (Wd × Ty)) (e:Nat):St:=
 ⟨[bq 0 0,(1,⟨[],.fn 64 [.loc 0 0] []⟩),bq 4 2,dH 12 11 (dNms types),aJ 13 ((dNms types).length),aJ 14 e],
  [bC s (.pt lc 0) (.loc 1 0) m,pc,[.v (.int .i64 0),.v (.int .i64 0)]],[]⟩
theorem Ie (s:Sch) (lc:List DV) (aN:List Nat) (m:Int) (pu:0<=m) (mC:m<=512) (hl:s.types.length<=1099511627776) (cV:∀ t,(t=s.root∨∃ x∈s.types,t=x.2)->t.wt<=1099511627776) :
  Ev prog 63 [.loc 0 0,.fn 64 [.loc 0 0] []] [bC s (.pt lc 0) (.loc 1 0) m,Ic s aN lc] [] (Qn s (.pt lc 0) (Ic s aN lc) (eaR s.root s.types m)):=by
 have hN:=dN s.types;have hR:∀ (m':Int),0<=m' -> m' <= 512->∀ t,(t=s.root∨∃ x∈s.types,t=x.2)->_:=fun m' h0 h1 t ht=>Fp s lc (Ic s aN lc) m' h0 (by omega) t (cV t ht) (fun bx N n0 m0=>ax);obtain ⟨ae,order,types,⟨rh,rp⟩⟩:=s;simp only at hl hR hN cV;refine eG 34 [.cell 4 26] func63 rfl ntmps63 rfl fun _ _ _ _=>?_;generalize hG:eaR (.mk rh rp) types m=G;have hG0:G=eaR (.mk rh rp) (types.drop 0) m:=by rw [List.drop_zero,hG]
 refine cH (fun j st=>∃ (e:Nat) (m':Int),st=CI ⟨ae,order,types,.mk rh rp⟩ lc (Ic ⟨ae,order,types,.mk rh rp⟩ aN lc) m' types e/\e<=types.length/\0<=m' /\ m' <= 512/\G=eaR (.mk rh rp) (types.drop e) m' /\ j=types.length - e) types.length
  (CI ⟨ae,order,types,.mk rh rp⟩ lc (Ic ⟨ae,order,types,.mk rh rp⟩ aN lc) m types 0) (kD 3 (by repeat' (first | exact rfl | exact az rfl | exact rfl | refine ⟨_,_,rfl,?_,?_⟩)) (by repeat' (first | exact trivial | exact az rfl | exact rfl | refine ⟨⟨_,rfl,?_⟩,?_⟩))) ⟨0,m,rfl,by omega,pu,mC,hG0,by omega⟩ ?_
 rintro j st ⟨e,m',rfl,he,Qi,Qj,bN,rfl⟩;refine br ?_ ?_<;>intro hL
 ·have aE:e < types.length:=by have:=hL;simp [hN] at this;exact this
  obtain ⟨x,hx⟩:=gX aE;have hp:=hR m' Qi Qj x.2 (.inr ⟨x,mG hx,rfl⟩);rw [Qo hx] at bN;obtain ⟨xw,⟨xh,xp⟩⟩:=x;refine iX (dNms_get hx) ?_;refine fw 2 0 aaT rfl rfl rfl bB bB hp (fun r eO cA hΦ h1 h2=>?_);obtain ⟨rfl,rfl⟩:=hΦ;have h2:=List.eq_nil_of_length_eq_zero h2;subst h2;refine br ?_ ?_<;>intro hf
  ·have hf:(cF (.mk xh xp) m').1.1≠0:=sU hf;rw [ah hf] at bN;subst bN;exact ⟨Ft.d _,[bC ⟨ae,order,types,.mk rh rp⟩ (.pt lc 0) (.loc 1 0) (cF (.mk xh xp) m').2,Ic ⟨ae,order,types,.mk rh rp⟩ aN lc],ax,bB,rfl,rfl⟩
  ·have hf:(cF (.mk xh xp) m').1.1=0:=sU hf;rw [ag (by rw [hf];simp)] at bN;obtain ⟨g1,g2,_,_⟩:=oX hf;exact ⟨CI ⟨ae,order,types,.mk rh rp⟩ lc (Ic ⟨ae,order,types,.mk rh rp⟩ aN lc) (cF (.mk xh xp) m').2 types (e + 1),(kD 3 (Ea (cR aE (by omega))) (gv (cR aE (by omega)))),types.length - (e + 1),by omega,e + 1,_,rfl,by omega,by omega,g2,bN,rfl⟩
 ·have hge:e=types.length:=sW hN hL;subst hge;rw [List.drop_length,eaR] at bN;refine fw 2 0 aaT rfl rfl rfl bB bB (hR m' Qi Qj (.mk rh rp) (.inl rfl)) (fun r eO cA hΦ h1 h2=>?_);obtain ⟨rfl,rfl⟩:=hΦ;have h2:=List.eq_nil_of_length_eq_zero h2;subst h2;subst bN;exact ⟨Ft.d _,[bC ⟨ae,order,types,.mk rh rp⟩ (.pt lc 0) (.loc 1 0) (cF (.mk rh rp) m').2,Ic ⟨ae,order,types,.mk rh rp⟩ aN lc],ax,bB,rfl,rfl⟩
def gH (s:Sch):Ft:=if 64 < s.types.length then (8,Z0 (zo s) 64) else enumL (zo s) 0 (zo s)
def T6 (s:Sch) (lc:List DV) (r:DV) (os:List (List DV)) (_:List TkE):Prop:=
 r=(gH s).d/\((gH s).1=0->∃ aN,iy (tL s) aN/\aN.length<=s.types.length/\os=[bC s (.pt lc 0) (.loc 1 0) 0,Ic s aN lc])
abbrev Qp (s:Sch) (lc:List DV) (n e:Nat):St:=
 ⟨[bq 0 0,bq 2 2,(3,⟨[],.sl 1 (fN (aO ((zo s).take e))) (some 0)⟩),dH 27 11 (dNms s.types),aJ 28 ((dNms s.types).length),aJ 29 e],
  [bC s (.pt lc 0) (.loc 1 0) 0,[.pt lc 0,.v (.slice none 0 0),.v (.int .i64 0),.v (.pointer none),.v (.slice none 0 0)],[.v (.int .i64 0),.v (.int .i64 0)]],[⟨n,9,1,none⟩]⟩
theorem CJ (s:Sch) (lc:List DV) (hs:nmsWt s.types<=1099511627776) :
  Ev prog 62 [.loc 0 0] [bC s (.pt lc 0) (.loc 1 0) 0,[.pt lc 0,.v (.slice none 0 0),.v (.int .i64 0),.v (.pointer none),.v (.slice none 0 0)]] [] (T6 s lc):=by
 have hN:=dN s.types;have kR:=jU s.types;have nE:=T5 s;have hF:=gH.eq_1 s;have wo:∀ {e:Nat} {x:Wd × Ty},s.types[e]? = some x->(zo s)[e]? = some x.1:=fun h=>by simp [zo,h]
 have dB:=wU (tL s) (by rw [xP];omega);have hTL:tL s=aO (zo s):=rfl
 have hw:∀ x∈s.types,x.1.s.size<=1099511627776:=fun x hx=>by
  have:=gM hx;simp only [Wd.wt] at this;omega
 obtain ⟨ae,order,types,⟨rh,rp⟩⟩:=s;simp only at hs hN kR nE wo hw hF;generalize hQ:zo ⟨ae,order,types,.mk rh rp⟩=Q at nE hF wo hTL;refine eG 67 [.cell 2 26] func62 rfl ntmps62 rfl fun _ _ _ _=>?_;refine br ?_ ?_<;>intro h
 ·have h:64 < types.length:=by simp [hN] at h;omega
  obtain ⟨x,hx⟩:∃ x,types[64]? = some x:=⟨_,gE h⟩;have hxn:=wo hx;rw [ah h,vD hxn] at hF;obtain ⟨xw,⟨xh,xp⟩⟩:=x;refine iX (dNms_get hx) ?_;refine ⟨Ft.d (8,xw.a),[bC ⟨ae,order,types,.mk rh rp⟩ (.pt lc 0) (.loc 1 0) 0,[.pt lc 0,.v (.slice none 0 0),.v (.int .i64 0),.v (.pointer none),.v (.slice none 0 0)]],ax,bB,by rw [hF],fun h0=>by rw [hF] at h0;simp at h0⟩
 have h:¬ 64 < types.length:=by simp [hN] at h;omega
 rw [ag h] at hF;refine lI (fun j st=>∃ e:Nat,st=Qp ⟨ae,order,types,.mk rh rp⟩ lc e e/\e<=types.length/\(aO (Q.take e)).Nodup/\enumL Q 0 Q=enumL Q e (Q.drop e)/\j=types.length - e) ⟨0,rfl,by omega,by simp [aO],rfl,rfl⟩ (jG 3 ⟨0,9,1,none⟩ rfl rfl rfl JB rfl rfl vb) ?_;rintro j st ⟨e,rfl,he,hnd,bN,rfl⟩;rw [bN] at hF;refine br ?_ ?_<;>intro hL
 ·have aE:e < types.length:=by have:=hL;simp [hN] at this;exact this
  obtain ⟨x,hx⟩:=gX aE;have LN:=hw x (mG hx);have hq:=wo hx;have zn:=lT hq;have bp:=xG hq;have DC:=mZ hq hnd;have ZZ:=qf (aO (Q.take (e + 1))) (by simp [aO];omega);rw [<- zn] at ZZ;obtain ⟨xw,⟨xh,xp⟩⟩:=x;simp only at LN hq zn bp DC ZZ;refine iX (dNms_get hx) ?_;rw [hQ];refine ⟨by simp [cT,aO];omega,⟨by simp [cT,aO,maxLen];omega,by simp [cT,aO];omega⟩,?_⟩;refine cP Ek (fG xw.s (by omega)) ?_;refine br ?_ ?_<;>intro Kg
  ·have Kg:ay xw.s=false:=sU Kg;have hf:bd Q e xw=9:=by simp [bd,Kg]
   rw [bp,hf,ah (by decide)] at hF;refine ⟨Ft.d (9,xw.a),[bC ⟨ae,order,types,.mk rh rp⟩ (.pt lc 0) (.loc 1 0) 0,[.pt lc 0,.v (.slice none 0 0),.v (.int .i64 0),.v (.pointer none),.v (.slice none 0 0)]],ax,bB,by rw [hF],fun h0=>by rw [hF] at h0;simp at h0⟩
  ·have Kg:ay xw.s=true:=sU Kg;refine eo OJ rfl ZZ ax (fun r hr=>?_);obtain ⟨z,rfl,hz⟩:=hr;refine br ?_ ?_<;>intro h2
   ·have h2:0<=z:=sU h2;have hd:eu (Q.take e) xw.s=true:=by grind
    have hf:bd Q e xw=10:=by simp [bd,Kg,hd]
    rw [bp,hf,ah (by decide)] at hF;refine ⟨Ft.d (10,xw.a),[bC ⟨ae,order,types,.mk rh rp⟩ (.pt lc 0) (.loc 1 0) 0,[.pt lc 0,.v (.slice none 0 0),.v (.int .i64 0),.v (.pointer none),.v (.slice none 0 0)]],ax,bB,by rw [hF],fun h0=>by rw [hF] at h0;simp at h0⟩
   ·have h2:¬ 0<=z:=sU h2;have zy:(aO (Q.take (e + 1))).Nodup:=Classical.byContradiction fun hn=>h2 (hz.2 hn);have hf:bd Q e xw=0:=by simp [bd,Kg,DC.1 zy]
    rw [hf,ag (by simp)] at bp;have acx:fN (aO (Q.take e)) ++ [[DV.v (.string xw.s)]]=fN (aO ((zo ⟨ae,order,types,.mk rh rp⟩).take (e + 1))):=by rw [hQ];exact zn
    refine ⟨Qp ⟨ae,order,types,.mk rh rp⟩ lc (e + 1) (e + 1),(kD 3 (Vo (cR aE (by omega)) acx) (re (cR aE (by omega)) acx)),types.length - (e + 1),by omega,e + 1,rfl,by omega,zy,bN.trans bp,rfl⟩
 ·have hge:e=types.length:=sW hN hL;have h0:enumL Q e (Q.drop e)=(0,0):=by rw [hge,<- nE,List.drop_length];all_goals rfl
  rw [h0] at hF;have ht:Q.take e=Q:=by rw [hge,<- nE,List.take_length]
  have hEq:aO ((zo ⟨ae,order,types,.mk rh rp⟩).take e)=tL ⟨ae,order,types,.mk rh rp⟩:=by rw [hQ,ht,hTL]
  rw [<- hEq] at dB;refine dS ?_;refine rj OI rfl dB ax (fun Hq hr=>?_);obtain ⟨aN,hT,mB,rfl⟩:=hr;rw [hEq] at hT mB;have W4:DV.pt (dm (aO ((zo ⟨ae,order,types,.mk rh rp⟩).take e)) aN) 0=DV.pt (dm (tL ⟨ae,order,types,.mk rh rp⟩) aN) 0:=congrArg (fun L=>DV.pt (dm L aN) 0) hEq;rw [xP] at mB;exact ⟨Ft.d (0,0),[bC ⟨ae,order,types,.mk rh rp⟩ (.pt lc 0) (.loc 1 0) 0,Ic ⟨ae,order,types,.mk rh rp⟩ aN lc],ax,(by repeat' (first | exact rfl | exact trivial | exact Or.inr (Or.inl ⟨_,rfl⟩) | exact Or.inr ⟨_,rfl⟩ | exact Or.inl ⟨rfl,rfl⟩ | exact Or.inl rfl | refine Or.inr ⟨_,_,rfl,Nat.zero_le _,rfl,?_⟩ | refine ⟨_,_,rfl,?_,?_⟩ | refine ⟨_,rfl,?_⟩ | exact ⟨nL rfl,rfl⟩ | exact Or.inl W4 | refine Or.inr (Or.inr (Or.inr ⟨_,_,rfl,?_⟩)) | exact Or.inl rfl | refine Or.inr ?_)),by rw [hF],fun _=>⟨aN,hT,mB,rfl⟩⟩
def firstA (s:Sch) (k:Nat):Nat:=((s.types.take k).map fun x=>x.2.nn).sum
theorem uC {s:Sch} {k:Nat} {x:Wd × Ty} (h:s.types[k]? = some x):firstA s (k + 1)=firstA s k + x.2.nn:=by
 unfold firstA;rw [List.take_add_one,h];simp
theorem Mv (s:Sch):∀ k,firstA s k<=nmsWt s.types:=by
 intro k;unfold firstA;generalize s.types=l
 induction l generalizing k with
 | nil=>simp
 | cons x r ih=>
  cases k with
  | zero=>simp
  | succ k=>
   have h1:=ih k;have h2:=x.2.jr;have h3:=x.2.gD
   grind [nmsWt]
def namedN (s:Sch) (i:Nat):Nat:=firstA s ((endI s (s.types.length + 1) i).getD 0)
def namedL (s:Sch):List Nat:=(List.range s.types.length).map (namedN s)
theorem acy (n:Nat):(List.replicate n (vL [Value.int .i64 0])).flatten=cZ (List.replicate n 0):=by
 induction n with
 | zero=>rfl
 | succ n ih=>simp only [List.replicate_succ,List.flatten_cons,ih];rfl
theorem vE {n m:Nat} {tk:List TkE} {l:List DV} {js:List Int} (h:l=cZ js):WeL n m tk l (cZ js):=by rw [h];exact sH js
abbrev Yz (s:Sch) (lc pc:List DV) (m:Int) (l:List Int) (dA e:Nat):St:=
 ⟨[bq 0 0,(2,⟨[],.ms 2 1 0 (dNms s.types).length (dNms s.types).length⟩),aJ 3 dA,dH 18 11 (dNms s.types),aJ 19 ((dNms s.types).length),aJ 20 e],
  [bC s (.pt lc 0) (.loc 1 0) m,pc,cZ l],[]⟩
abbrev acz (s:Sch) (aN:List Nat) (lc:List DV) (m:Int) (l:List Int) (n e:Nat):St:=
 ⟨[bq 0 0,(2,⟨[],.ms 2 1 0 (dNms s.types).length (dNms s.types).length⟩),aJ 40 ((dNms s.types).length),aJ 41 e],
  [bC s (.pt lc 0) (.loc 1 0) m,pC s aN (.pt lc 0) (.v (.slice none 0 0)) (.v (.int .i64 0)) (.sl 1 (dInts ((namedL s).take e)) (some 0)),cZ l],[⟨n,3,1,none⟩]⟩
def T7 (s:Sch) (aN:List Nat) (lc:List DV) (m:Int) (_:DV) (os:List (List DV)) (_:List TkE):Prop:=
 os=[bC s (.pt lc 0) (.loc 1 0) m,pC s aN (.pt lc 0) (.v (.slice none 0 0)) (.v (.int .i64 0)) (.sl 1 (dInts (namedL s)) none)]
theorem YA {l:List Int} {i:Nat} {z:Int} (h:l[i]? = some z):(cZ l)[i]? = some (DV.v (.int .i64 z)):=by simp [cZ,h]
theorem Fq (s:Sch) (lc:List DV) (aN:List Nat) (m:Int) (hT:iy (tL s) aN) (mB:aN.length<=1099511627776) (hl:s.types.length<=64) (hr:∀ x∈s.types,Mt s x.2=true) (hs:nmsWt s.types<=1099511627776)
  (hlo:∀ i,i < s.types.length->∃ k,endI s (s.types.length + 1) i=some k) :
  Ev prog 67 [.loc 0 0] [bC s (.pt lc 0) (.loc 1 0) m,Ic s aN lc] [] (T7 s aN lc m):=by
 have hN:=dN s.types
 have hnw:∀ x∈s.types,x.2.wt<=1099511627776:=fun x hx=>by
  have:=gM hx;omega
 have hfw:=Mv s;have Zz:=fun {k:Nat} {x:Wd × Ty}=>@uC s k x;have kR:(namedL s).length=s.types.length:=by simp [namedL]
 have zF:=fun (e0:DV)=>Fo s (.pt lc 0) aN (.pt lc 0) (.v (.slice none 0 0)) (.v (.int .i64 0)) e0 m hT mB hl hr;obtain ⟨ae,order,types,⟨rh,rp⟩⟩:=s;simp only at hl hr hN hs hnw hfw Zz kR zF hlo;have hN2:(dNms (⟨ae,order,types,.mk rh rp⟩:Sch).types).length=types.length:=hN;refine eG 66 [] func67 rfl ntmps67 rfl fun _ _ _ _=>?_;refine ⟨⟨rfl,by omega,by omega,by omega⟩,?_⟩
 refine cH (fun j st=>∃ (e:Nat) (l:List Int),st=Yz ⟨ae,order,types,.mk rh rp⟩ lc (Ic ⟨ae,order,types,.mk rh rp⟩ aN lc) m l (firstA ⟨ae,order,types,.mk rh rp⟩ e) e/\e<=types.length/\l.length=types.length/\(∀ i:Nat,i < e->l[i]? = some (firstA ⟨ae,order,types,.mk rh rp⟩ i:Int))/\j=types.length - e) types.length
  (Yz ⟨ae,order,types,.mk rh rp⟩ lc (Ic ⟨ae,order,types,.mk rh rp⟩ aN lc) m (List.replicate ((dNms types).length:Int).toNat 0) (firstA ⟨ae,order,types,.mk rh rp⟩ 0) 0) (kD 3 (by repeat' (first | exact rfl | exact az rfl | exact vE (acy _) | refine ⟨_,_,rfl,?_,?_⟩)) (by repeat' (first | exact trivial | exact az rfl | exact vE (acy _) | refine ⟨⟨_,rfl,?_⟩,?_⟩))) ⟨0,_,rfl,by omega,by simp [hN],fun _ h=>by omega,by omega⟩ ?_
 rintro j st ⟨e,l,rfl,he,hll,Ig,rfl⟩;refine br ?_ ?_<;>intro hL
 ·have aE:e < types.length:=by have:=hL;simp [hN] at this;exact this
  obtain ⟨x,hx⟩:=gX aE;have hxw:=hnw x (mG hx);have NL:=Zz hx;have Tv:=hfw (e + 1);obtain ⟨xw,⟨xh,xp⟩⟩:=x;have hnd:=xN (Ty.mk xh xp).wt (.mk xh xp) (bn _) hxw;refine iX (dNms_get hx) ?_;refine ⟨⟨by omega,by omega⟩,?_⟩;refine ⟨by rw [Yq];omega,?_⟩;refine cP VC hnd ?_;simp only at NL Tv;have nU:(cZ l).set (0 + (e:Int).toNat * 1) (DV.v (.int .i64 ((firstA ⟨ae,order,types,.mk rh rp⟩ e:Nat):Int)))=cZ (l.set e ((firstA ⟨ae,order,types,.mk rh rp⟩ e:Nat):Int)):=by grind [P9]
  have Pa:IntKind.i64.wrap (((firstA ⟨ae,order,types,.mk rh rp⟩ e:Nat):Int) + (Ty.mk xh xp).nn)=((firstA ⟨ae,order,types,.mk rh rp⟩ (e + 1):Nat):Int):=by grind [wrap64]
  refine ⟨Yz ⟨ae,order,types,.mk rh rp⟩ lc (Ic ⟨ae,order,types,.mk rh rp⟩ aN lc) m (l.set e ((firstA ⟨ae,order,types,.mk rh rp⟩ e:Nat):Int)) (firstA ⟨ae,order,types,.mk rh rp⟩ (e + 1)) (e + 1),(kD 3 (by repeat' (first | exact rfl | exact az rfl | exact vE nU | exact aP Pa | exact aP (cR aE (by omega)) | refine ⟨_,_,rfl,?_,?_⟩)) (by repeat' (first | exact trivial | exact az rfl | exact vE nU | exact aP Pa | exact aP (cR aE (by omega)) | refine ⟨⟨_,rfl,?_⟩,?_⟩))),types.length - (e + 1),by omega,e + 1,_,rfl,by omega,by rw [List.length_set];exact hll,fun i hi=>?_,rfl⟩;by_cases ZM:i=e
  ·grind
  ·grind
 ·have hge:e=types.length:=sW hN hL;subst hge;refine lJ (fun e=>acz ⟨ae,order,types,.mk rh rp⟩ aN lc m l e e) types.length (jG 3 ⟨0,3,1,none⟩ rfl rfl rfl JB rfl rfl vb) ?_;intro e he;refine br ?_ ?_<;>intro hL
  ·have aE:e < types.length:=by have:=hL;simp [hN] at this;exact this
   obtain ⟨k,hk⟩:=hlo e aE;have D6:=(CG hk).1;simp only at D6;have hE:=zF (.sl 1 (dInts ((namedL ⟨ae,order,types,.mk rh rp⟩).take e)) none) e aE;rw [hk] at hE;have hnn:namedN ⟨ae,order,types,.mk rh rp⟩ e=firstA ⟨ae,order,types,.mk rh rp⟩ k:=by unfold namedN;rw [hk];all_goals rfl
   have wo:(namedL ⟨ae,order,types,.mk rh rp⟩)[e]? = some (firstA ⟨ae,order,types,.mk rh rp⟩ k):=by grind [namedL]
   have zn:dInts ((namedL ⟨ae,order,types,.mk rh rp⟩).take e) ++ [[DV.v (.int .i64 ((firstA ⟨ae,order,types,.mk rh rp⟩ k:Nat):Int))]]=dInts ((namedL ⟨ae,order,types,.mk rh rp⟩).take (e + 1)):=by
    rw [List.take_add_one,wo];simp [dInts]
   refine dS ?_;refine rA en134 hE ax rfl rfl ?_;refine ⟨⟨by simp only [oz];omega,by simp only [oz];omega⟩,?_⟩;have hld:(cZ l)[0 + (oz (some k)).toNat * 1]? = some (DV.v (.int .i64 ((firstA ⟨ae,order,types,.mk rh rp⟩ k:Nat):Int))):=by grind [oz,YA]
   refine ⟨_,hld,?_⟩;refine ⟨by simp [cy];omega,⟨by simp [cy,maxLen];omega,by simp [cy];omega⟩,?_⟩;exact rE ⟨_,by omega,e + 1,rfl,by omega,rfl⟩ (kD 3 (Vo (cR aE (by omega)) zn) (re (cR aE (by omega)) zn))
  ·have hge:e=types.length:=sW hN hL;subst hge;have ht:(namedL ⟨ae,order,types,.mk rh rp⟩).take types.length=namedL ⟨ae,order,types,.mk rh rp⟩:=by rw [<- kR,List.take_length]
   rw [ht];exact ⟨.bK [],[bC ⟨ae,order,types,.mk rh rp⟩ (.pt lc 0) (.loc 1 0) m,pC ⟨ae,order,types,.mk rh rp⟩ aN (.pt lc 0) (.v (.slice none 0 0)) (.v (.int .i64 0)) (.sl 1 (dInts (namedL ⟨ae,order,types,.mk rh rp⟩)) none)],ax,bB,rfl⟩
structure Ed where
 name:ByteArray
 bare:Bool
 dA:Int
 to:Int
 label:Int
 wide:Int
 ck:Int
 cn:Int
 seen:Int
 ca:Int
structure Nd where
 al:Int
 dA:Int
 lo:Int
 hi:Int
 most:Int
 af:List ByteArray
 cB:List Ed
def Wr (e:Ed):List DV:=[.v (.string e.name),.v (.bool e.bare),.v (.int .i64 e.dA),.v (.int .i64 e.to),.v (.int .i64 e.label),.v (.int .i64 e.wide),.v (.int .i64 e.ck),.v (.int .i64 e.cn),.v (.int .i64 e.seen),.v (.int .i64 e.ca)]
def pE (l:List Ed):List (List DV):=l.map Wr
def NV (n:Nd):List DV:=[.v (.int .i64 n.al),.v (.int .i64 n.dA),.v (.int .i64 n.lo),.v (.int .i64 n.hi),.v (.int .i64 n.most),.sl 1 (fN n.af) none,.sl 10 (pE n.cB) none]
def dW (l:List Nd):List (List DV):=l.map NV
def uD (w:Int):Int:=if w=0 then 3 else w
def CK (lev:List Wd->Int) (p:Ph) (to:Int):Ed:=⟨p.name.s,p.bare,p.name.a,to,lev p.label,uD p.wide,p.ck,p.cn,lev p.cl,p.ca⟩
def YB (s:Sch) (name:ByteArray):Int:=(namedN s ((gG (tL s) name).getD 0):Int)
def vm (s:Sch) (t:Ty) (k:Nat):Int:=if t.h.al=9 then YB s t.h.name.s else (k:Int)
def AO (s:Sch) (p:Ph) (u:Ty) (k:Nat):Int:=if p.bare then -1 else vm s u k
mutual
def ndsT (lev:List Wd->Int) (s:Sch):Ty->Nat->List Nd
 | .mk h ps,k=>if h.al=9 then [] else ⟨h.al,h.dA,h.lo,h.hi,h.most,aO h.af,edsP lev s ps (k + 1)⟩ :: rO lev s ps (k + 1)
def edsP (lev:List Wd->Int) (s:Sch):Pts->Nat->List Ed
 | .nil,_=>[]
 | .cons p u r,k=>CK lev p (AO s p u k) :: edsP lev s r (k + if p.bare then 0 else u.nn)
def rO (lev:List Wd->Int) (s:Sch):Pts->Nat->List Nd
 | .nil,_=>[]
 | .cons p u r,k=>(if p.bare then [] else ndsT lev s u k) ++ rO lev s r (k + if p.bare then 0 else u.nn)
end
mutual
theorem mb (lev:List Wd->Int) (s:Sch):∀ (t:Ty) (k:Nat),(ndsT lev s t k).length=t.nn
 | .mk h ps,k=>by
  simp only [ndsT,Ty.nn];split
  ·rfl
  ·rw [List.length_cons,xR lev s ps];omega
theorem xR (lev:List Wd->Int) (s:Sch):∀ (ps:Pts) (k:Nat),(rO lev s ps k).length=ps.nn
 | .nil,k=>rfl
 | .cons p u r,k=>by
  simp only [rO,Pts.nn,List.length_append,xR lev s r];split
  ·rfl
  ·rw [mb lev s u]
end
abbrev NW (s:Sch) (aN:List Nat) (lc:List DV) (n:Nat):List DV:=pC s aN (.pt lc 0) (.sl 0 (List.replicate n []) (some 0)) (.v (.int .i64 0)) (.sl 1 (dInts (namedL s)) none)
abbrev Ih (n:Nat) (base:List DV):TkE:=⟨n,82,7,some base⟩
def Ws (s:Sch) (aN:List Nat) (lc:List DV) (m:Int) (n:Nat) (base:List DV) (y:DV) (AP:List Nd) (r:DV) (os:List (List DV)) (tk:List TkE):Prop:=
 r=y/\os=[bC s (.pt lc 0) (.loc 1 0) m,NW s aN lc (n + AP.length)]/\tk=[Ih (n + AP.length) (base ++ (dW AP).flatten)]
def Qq (lev:List Wd->Int) (s:Sch) (aN:List Nat) (lc:List DV) (m:Int) (t:Ty):Prop:=
 ∀ (n:Nat) (base:List DV),n + t.nn<=1099511627776->base.length=n * 7 ->
  Ev prog 68 [.loc 0 0,.agg (dC t)] [bC s (.pt lc 0) (.loc 1 0) m,NW s aN lc n] [Ih n base] (Ws s aN lc m n base (.v (.int .i64 (vm s t n))) (ndsT lev s t n))
theorem Mw {X:Lx} (hX:X.OK) (s:Sch) (aN:List Nat) (m:Int) (p:Ph) (u:Ty) (hp:p.wt<=1099511627776) (rP:p.bare=false->Qq X.lev s aN (iL X.af (dm X.af X.aN) X.rows X.js) m u)
  (n:Nat) (base:List DV) (hb:p.bare=false->n + u.nn<=1099511627776) (hbl:base.length=n * 7) :
  Ev prog 136 [.loc 0 0,.agg (lR p (dC u))] [bC s (.pt (iL X.af (dm X.af X.aN) X.rows X.js) 0) (.loc 1 0) m,NW s aN (iL X.af (dm X.af X.aN) X.rows X.js) n] [Ih n base]
   (Ws s aN (iL X.af (dm X.af X.aN) X.rows X.js) m n base (.agg (Wr (CK X.lev p (AO s p u n)))) (if p.bare then [] else ndsT X.lev s u n)):=by
 have zA:wdsWt p.label + wdsWt p.cl<=p.wt:=by simp only [Ph.wt];omega
 have W8:X.pd = .pt (iL X.af (dm X.af X.aN) X.rows X.js) 0:=rfl;have py:=fun pc=>xO hX s pc m p.label (by omega);have Ii:=fun pc=>xO hX s pc m p.cl (by omega);rw [W8] at py Ii;have hE:=fun to=>CK.eq_1 X.lev p to;have hto:=AO.eq_1 s p u n;generalize iL X.af (dm X.af X.aN) X.rows X.js=lc at py Ii rP ⊢;obtain ⟨ae,order,types,⟨rh,rp⟩⟩:=s;obtain ⟨uh,us⟩:=u;refine eG 52 [.cell 4 90] func136 rfl ntmps136 rfl fun _ _ _ _=>?_;have Wt:=py [.pt lc 0,.sl 0 (List.replicate n []) none,.v (.int .i64 0),.pt (dm (tL ⟨ae,order,types,.mk rh rp⟩) aN) 0,.sl 1 (dInts (namedL ⟨ae,order,types,.mk rh rp⟩)) none];have Wu:=Ii [.pt lc 0,.sl 0 (List.replicate n []) none,.v (.int .i64 0),.pt (dm (tL ⟨ae,order,types,.mk rh rp⟩) aN) 0,.sl 1 (dInts (namedL ⟨ae,order,types,.mk rh rp⟩)) none];apply Lv (fun _=>false) 11 15 [0,1,2,3,4,5,6,7,8,9,10,11,12,13,14,15,16] [0,1,2,3,4,5,6,7,8,9,10,15,11,12,13,14,16] 4 4 mo (by decide +kernel)
 ·refine rA JP Wt ax rfl rfl ?_;refine (?_:@Eq St _ _);exact rfl
 ·refine rA JP Wt ax rfl rfl ?_;refine (⟨rfl,rfl,?_⟩:_/\_/\_)
  repeat' (first | exact trivial | refine ⟨rfl,?_⟩)
 ·rfl
 refine br ?_ ?_<;>intro hw
 ·have hw:p.wide=0:=sU hw;refine cr [4] (fun _=>false) mo (by decide +kernel) ?_;refine rA JP Wu ax rfl rfl ?_;refine br ?_ ?_<;>intro hB
  ·have hB:p.bare=false:=sU hB;refine fw 2 1 Tj rfl rfl rfl bB bB (rP hB n base (hb hB) hbl) (fun r eO cA hΦ h1 h2=>?_);obtain ⟨rfl,rfl,rfl⟩:=hΦ;refine ⟨.agg (Wr ⟨p.name.s,p.bare,p.name.a,vm ⟨ae,order,types,.mk rh rp⟩ (.mk uh us) n,X.lev p.label,3,p.ck,p.cn,X.lev p.cl,p.ca⟩),[bC ⟨ae,order,types,.mk rh rp⟩ (.pt lc 0) (.loc 1 0) m,NW ⟨ae,order,types,.mk rh rp⟩ aN lc (n + (ndsT X.lev ⟨ae,order,types,.mk rh rp⟩ (.mk uh us) n).length)],ax,bB,?_,?_,?_⟩
   ·simp [hE,AO,hB,uD,hw]
   ·simp [hB]
   ·simp [hB]
  ·have hB:p.bare=true:=sU hB;refine ⟨.agg (Wr ⟨p.name.s,p.bare,p.name.a,-1,X.lev p.label,3,p.ck,p.cn,X.lev p.cl,p.ca⟩),[bC ⟨ae,order,types,.mk rh rp⟩ (.pt lc 0) (.loc 1 0) m,NW ⟨ae,order,types,.mk rh rp⟩ aN lc n],ax,bB,?_,?_,?_⟩
   ·simp [hE,AO,hB,uD,hw]
   ·simp [hB]
   ·simp [hB,dW]
 ·have hw:¬ p.wide=0:=sU hw;refine cr [4] (fun _=>false) mo (by decide +kernel) ?_;refine rA JP Wu ax rfl rfl ?_;refine br ?_ ?_<;>intro hB
  ·have hB:p.bare=false:=sU hB;refine fw 2 1 Tj rfl rfl rfl bB bB (rP hB n base (hb hB) hbl) (fun r eO cA hΦ h1 h2=>?_);obtain ⟨rfl,rfl,rfl⟩:=hΦ;refine ⟨.agg (Wr ⟨p.name.s,p.bare,p.name.a,vm ⟨ae,order,types,.mk rh rp⟩ (.mk uh us) n,X.lev p.label,p.wide,p.ck,p.cn,X.lev p.cl,p.ca⟩),[bC ⟨ae,order,types,.mk rh rp⟩ (.pt lc 0) (.loc 1 0) m,NW ⟨ae,order,types,.mk rh rp⟩ aN lc (n + (ndsT X.lev ⟨ae,order,types,.mk rh rp⟩ (.mk uh us) n).length)],ax,bB,?_,?_,?_⟩
   ·simp [hE,AO,hB,uD,hw]
   ·simp [hB]
   ·simp [hB]
  ·have hB:p.bare=true:=sU hB;refine ⟨.agg (Wr ⟨p.name.s,p.bare,p.name.a,-1,X.lev p.label,p.wide,p.ck,p.cn,X.lev p.cl,p.ca⟩),[bC ⟨ae,order,types,.mk rh rp⟩ (.pt lc 0) (.loc 1 0) m,NW ⟨ae,order,types,.mk rh rp⟩ aN lc n],ax,bB,?_,?_,?_⟩
   ·simp [hE,AO,hB,uD,hw]
   ·simp [hB]
   ·simp [hB,dW]
def nd0 (h:Hd):List DV:=[.v (.int .i64 h.al),.v (.int .i64 h.dA),.v (.int .i64 h.lo),.v (.int .i64 h.hi),.v (.int .i64 h.most),.sl 1 (fN (aO h.af)) none,.v (.slice none 0 0)]
theorem T8 {h:Hd} {base R:List DV} {n:Nat} {x:DV} (hb:base.length=n * 7):(base ++ (nd0 h ++ R)).set (n * 7 + 6) x=base ++ ([.v (.int .i64 h.al),.v (.int .i64 h.dA),.v (.int .i64 h.lo),.v (.int .i64 h.hi),.v (.int .i64 h.most),.sl 1 (fN (aO h.af)) none,x] ++ R):=by
 rw [List.set_append_right _ _ (by omega),hb,Nat.add_sub_cancel_left];rfl
theorem AQ (l:List Ed) (e:Ed):pE l ++ [Wr e]=pE (l ++ [e]):=by simp [pE]
theorem ik (l:List Ed):(pE l).length=l.length:=by simp [pE]
theorem rQ (lev:List Wd->Int) (s:Sch):∀ (ps:Pts) (k:Nat),(edsP lev s ps k).length=ps.len
 | .nil,_=>rfl
 | .cons p u r,k=>by simp [edsP,Pts.len,rQ lev s r]
abbrev acC (s:Sch) (aN:List Nat) (lc:List DV) (m:Int) (n:Nat) (base:List DV) (h:Hd) (ps:Pts) (q e:Nat):St:=
 ⟨[bq 0 0,bq 3 2,aJ 7 n,bq 8 3,dH 61 2 (cd h.af),aJ 62 ((cd h.af).length),aJ 63 e],
  [bC s (.pt lc 0) (.loc 1 0) m,NW s aN lc n,dC (.mk h ps),[.v (.int .i64 h.al),.v (.int .i64 h.dA),.v (.int .i64 h.lo),.v (.int .i64 h.hi),.v (.int .i64 h.most),.sl 1 (fN (aO (h.af.take e))) (some 1),.v (.slice none 0 0)]],
  [Ih n base,⟨q,9,1,none⟩]⟩
abbrev Qr (s:Sch) (aN:List Nat) (lc:List DV) (m:Int) (n:Nat) (h:Hd) (ps:Pts) (n':Nat) (rR:List DV) (Es:List Ed) (q1 q2 e:Nat):St:=
 ⟨[bq 0 0,bq 3 2,aJ 7 n,(11,⟨[],.sl 10 (pE Es) (some 2)⟩),dH 92 18 (eX ps),aJ 93 ((eX ps).length),aJ 94 e],
  [bC s (.pt lc 0) (.loc 1 0) m,NW s aN lc n',dC (.mk h ps)],
  [Ih n' rR,⟨q1,9,1,none⟩,⟨q2,90,10,none⟩]⟩
theorem xS {X:Lx} {L:List ByteArray} {h:Hd} {ps:Pts} (hk:(knT X L (.mk h ps)).1=0):(h.al=9->gG L h.name.s≠none)/\(knP X L ps).1=0:=by grind [knT]
theorem tu {X:Lx} {L:List ByteArray} {p:Ph} {u:Ty} {r:Pts} (hk:(knP X L (.cons p u r)).1=0):(p.bare=false->(knT X L u).1=0)/\(knP X L r).1=0:=by grind [knP]
theorem AR {X:Lx} (hX:X.OK) (s:Sch) (aN:List Nat) (m:Int) (hT:iy (tL s) aN) (mB:aN.length<=1099511627776):∀ (k:Nat) (t:Ty),t.wt<=k->t.wt<=1099511627776->(knT X (tL s) t).1=0 ->
  Qq X.lev s aN (iL X.af (dm X.af X.aN) X.rows X.js) m t
 | 0,t,hn,_,_=>by have:=t.mR;omega
 | k + 1,.mk h ps,hn,cV,hkn=>by
  have ih:=AR hX s aN m hT mB k;intro n base hnb hbl;obtain ⟨hk9,hkp⟩:=xS hkn;have AS:=fun (p:Ph) (u:Ty)=>Mw hX s aN m p u;generalize iL X.af (dm X.af X.aN) X.rows X.js=lc at ih AS ⊢;simp only [Ty.wt,Hd.wt] at hn cV;have kE:=ps.ki;have kR:=cE h.af;have hf:=iK (tL s) aN h.name.s hT mB;have nE:=xP s;have hnmL:(namedL s).length=s.types.length:=by simp [namedL]
  have T9:vm s (.mk h ps) n=if h.al=9 then YB s h.name.s else (n:Int):=rfl
  have Mx:ndsT X.lev s (.mk h ps) n=if h.al=9 then [] else ⟨h.al,h.dA,h.lo,h.hi,h.most,aO h.af,edsP X.lev s ps (n + 1)⟩ :: rO X.lev s ps (n + 1):=by rw [ndsT]
  have hnn:(Ty.mk h ps).nn=if h.al=9 then 0 else 1 + ps.nn:=by rw [Ty.nn]
  generalize hS:s=S at *;subst hS;obtain ⟨ae,order,types,⟨rh,rp⟩⟩:=s;refine eG 117 [.tmp 4] func68 rfl ntmps68 rfl fun _ _ _ _=>?_;refine br ?_ ?_<;>intro h9
  ·have h9:h.al=9:=sU h9;obtain ⟨i,hi⟩:=Option.ne_none_iff_exists'.1 (hk9 h9);have ZO:=(iJ hi).1;rw [hi] at hf;rw [ah h9] at T9 Mx;have wo:(namedL ⟨ae,order,types,.mk rh rp⟩)[i]? = some (namedN ⟨ae,order,types,.mk rh rp⟩ i):=by grind [namedL]
   refine dI ?_;refine cD nY hf ?_;refine iX (dJ wo) ?_;refine ⟨.v (.int .i64 (namedN ⟨ae,order,types,.mk rh rp⟩ i:Nat)),[bC ⟨ae,order,types,.mk rh rp⟩ (.pt lc 0) (.loc 1 0) m,NW ⟨ae,order,types,.mk rh rp⟩ aN lc n],ax,bB,?_,?_,?_⟩
   ·rw [T9,YB,hi];rfl
   ·rw [Mx];rfl
   ·rw [Mx];simp [dW]
  have h9:¬ h.al=9:=sU h9;rw [ag h9] at T9 Mx hnn;have gY:(List.replicate n ([]:List DV)).length=n:=List.length_replicate;refine lJ (fun e=>acC ⟨ae,order,types,.mk rh rp⟩ aN lc m n base h ps e e) h.af.length (jG 4 ⟨0,9,1,none⟩ rfl rfl rfl (Ea gY) rfl rfl (gv gY)) ?_;intro e he;refine br ?_ ?_<;>intro hL
  ·have aE:e < h.af.length:=by simpa [aM] using hL
   obtain ⟨w,hw⟩:=gX aE;have zn:=lT hw;refine ⟨nD w,⟨by omega,dy hw⟩,?_⟩;refine ⟨by simp [cT,aO];omega,⟨by simp [cT,aO,maxLen];omega,by simp [cT,aO];omega⟩,?_⟩;exact rE ⟨_,by omega,e + 1,rfl,by omega,rfl⟩ (kD 4 (Vo (cR aE (by omega)) zn) (re (cR aE (by omega)) zn))
  have hge:e=h.af.length:=by have:=hL;simp [aM] at this;omega
  subst hge;rw [List.take_length];refine dS ?_;refine ⟨⟨⟨gY,by simp⟩,by simp [maxLen];omega,by simp;omega⟩,?_⟩
  refine cH (fun j st=>∃ (e n':Nat) (rR:List DV) (Es:List Ed) (K:List Nd),st=Qr ⟨ae,order,types,.mk rh rp⟩ aN lc m n h ps n' rR Es h.af.length e e/\e<=ps.len/\n'=n + 1 + K.length/\rR=base ++ (nd0 h ++ (dW K).flatten)/\Es.length=e /\
    K ++ rO X.lev ⟨ae,order,types,.mk rh rp⟩ (ps.drop e) (n + 1 + K.length)=rO X.lev ⟨ae,order,types,.mk rh rp⟩ ps (n + 1)/\Es ++ edsP X.lev ⟨ae,order,types,.mk rh rp⟩ (ps.drop e) (n + 1 + K.length)=edsP X.lev ⟨ae,order,types,.mk rh rp⟩ ps (n + 1)/\K.length + (ps.drop e).nn=ps.nn/\(knP X (tL ⟨ae,order,types,.mk rh rp⟩) (ps.drop e)).1=0/\j=ps.len - e) ps.len
   (Qr ⟨ae,order,types,.mk rh rp⟩ aN lc m n h ps (n + 1) (base ++ (nd0 h ++ [])) [] h.af.length 0 0) (jG 3 ⟨0,90,10,none⟩ rfl rfl rfl JB rfl rfl vb) ⟨0,n + 1,_,[],[],rfl,by omega,rfl,rfl,rfl,rfl,rfl,by simp [Pts.drop],hkp,by omega⟩ ?_
  rintro j st ⟨e,n',rR,Es,K,rfl,he,Vk,ef,ZD,hK,Z3,hKn,Z1,rfl⟩
  have hbl':rR.length=n' * 7:=by
   have:∀ l:List Nd,(dW l).flatten.length=l.length * 7:=by
    intro l
    induction l with
    | nil=>rfl
    | cons a r ih=>simp only [dW,List.map_cons,List.flatten_cons,List.length_append,List.length_cons] at ih ⊢;rw [ih];simp only [NV,List.length_cons,List.length_nil];omega
   rw [ef,List.length_append,List.length_append,this,hbl,Vk];simp only [nd0,List.length_cons,List.length_nil];omega
  refine br ?_ ?_<;>intro hL
  ·have aE:e < ps.len:=by simpa [bG] using hL
   obtain ⟨p,u,hx⟩:=Pts.jm aE;have Cp:=Pts.kj (mG hx);rw [Pts.drop_cons hx] at hK Z3 hKn Z1;obtain ⟨qL,G3⟩:=tu Z1;simp only [rO] at hK;simp only [edsP] at Z3;simp only [Pts.nn] at hKn;rw [<- Vk] at hK Z3;have DB:=u.jr;have huc:=u.gD;have dV:=AS p u (by omega) (fun hB=>ih u (by omega) (by omega) (qL hB)) n' rR (fun hB=>by rw [hB] at hKn;simp only [Bool.false_eq_true,if_false] at hKn;omega) hbl';have AU:=mb X.lev ⟨ae,order,types,.mk rh rp⟩ u n';obtain ⟨uh,us⟩:=u;refine iX (er hx) ?_;refine fw 2 1 aa4 rfl rfl rfl bB bB dV (fun r eO cA hΦ h1 h2=>?_);obtain ⟨rfl,rfl,rfl⟩:=hΦ;refine ⟨by rw [ik,ZD],⟨by simp [ik,ZD,maxLen];omega,by simp [ik,ZD];omega⟩,?_⟩
   have hnl2:(if p.bare then [] else ndsT X.lev ⟨ae,order,types,.mk rh rp⟩ (.mk uh us) n').length=if p.bare then 0 else (Ty.mk uh us).nn:=by
    split
    ·rfl
    ·exact AU
   have hidx2:n + 1 + (K.length + (if p.bare then 0 else (Ty.mk uh us).nn))=n' + if p.bare then 0 else (Ty.mk uh us).nn:=by rw [Vk];omega
   refine ⟨Qr ⟨ae,order,types,.mk rh rp⟩ aN lc m n h ps (n' + (if p.bare then [] else ndsT X.lev ⟨ae,order,types,.mk rh rp⟩ (.mk uh us) n').length) (rR ++ (dW (if p.bare then [] else ndsT X.lev ⟨ae,order,types,.mk rh rp⟩ (.mk uh us) n')).flatten) (Es ++ [CK X.lev p (AO ⟨ae,order,types,.mk rh rp⟩ p (.mk uh us) n')]) h.af.length (e + 1) (e + 1),(kD 3 (by repeat' (first | exact rfl | exact az rfl | exact aP (cR aE (by omega)) | exact fq (AQ _ _) rfl | refine ⟨_,_,rfl,?_,?_⟩)) (by repeat' (first | exact trivial | exact az rfl | exact aP (cR aE (by omega)) | exact fq (AQ _ _) rfl | refine ⟨⟨_,rfl,?_⟩,?_⟩))),
    ps.len - (e + 1),by omega,e + 1,_,_,_,K ++ (if p.bare then [] else ndsT X.lev ⟨ae,order,types,.mk rh rp⟩ (.mk uh us) n'),rfl,by omega,?_,?_,?_,?_,?_,?_,G3,rfl⟩
   ·rw [List.length_append,Vk];omega
   ·rw [ef];simp [dW]
   ·simp [ZD]
   ·simp_all
   ·simp_all
   ·rw [List.length_append,hnl2];omega
  ·have hge:e=ps.len:=by have:=hL;simp [bG] at this;omega
   subst hge;rw [Pts.gm] at hK Z3;simp only [rO,List.append_nil] at hK;simp only [edsP,List.append_nil] at Z3;have hKl:K.length=ps.nn:=by rw [hK,xR]
   have hrl2:(List.replicate n' ([]:List DV)).length=n':=List.length_replicate;refine L8 (kt:=0) ⟨rfl,rfl⟩ ⟨rfl,rfl,rfl⟩ ⟨rfl,rfl,rfl⟩ rfl rfl rfl rfl rfl rfl rfl rfl rfl rfl rfl hrl2 ⟨by omega,by omega⟩ (by decide) ?_;have acD:n + (ndsT X.lev ⟨ae,order,types,.mk rh rp⟩ (.mk h ps) n).length=n':=by rw [Mx,List.length_cons,<- hK,Vk];omega
   have wj:rR.set ((n:Int).toNat * 7 + 6) (.sl 10 (pE Es) none)=base ++ (dW (ndsT X.lev ⟨ae,order,types,.mk rh rp⟩ (.mk h ps) n)).flatten:=by
    rw [ef,show (n:Int).toNat=n by omega,T8 hbl,Mx,Z3,hK];rfl
   refine ⟨.v (.int .i64 n),[bC ⟨ae,order,types,.mk rh rp⟩ (.pt lc 0) (.loc 1 0) m,NW ⟨ae,order,types,.mk rh rp⟩ aN lc n'],ax,bB,?_,?_,?_⟩
   ·rw [T9]
   ·rw [acD]
   ·rw [acD,<- wj];rfl
end Go.Proofs.YtfdedoiiahbnnaaGreat
