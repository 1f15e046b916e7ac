/- Part 5 of the proof: The document's lattices: Find, pairs, Leq, Loop; The document's lattices: what is wrong; The document's labels: over, Least, Of; The document's schemas: Find, word, all, Flat, End, Start; The document's schemas: Flat, End, Start; The document's schemas: named, unknown; The reference's Wrong returns what is wrong with a type; The document's schemas: what is wrong; The document's nodes: Same, of equal ones; the law's node; The document's nodes: node; The document's plan: Build; What is known of a type with which nothing is wrong; labels have levels; What is known of the nodes of a plan; A plan, as its readers know it; Values, plain; how many are in one, how deep they lie; What is read of a value, as the plain data; What the frames of laws over values share; The greatest multiple of a unit that is at most a number; UTF-8: the program's lead, value; UTF-8: the program's Decode; UTF-8: the document's reckoned, Scalar, Encode; UTF-8: the document's Scalar, Encode; UTF-8, plain: the document's well-formed bytes are the program's; a text's first units; Values that are the same; Which values fit which nodes: plain, as the program finds it and as the document says it; tree's leaf, kids, Fits; tree.Fits; the document's To, Fits; Values as they are written: plain; tree.write, Raw; Paths: data, Step compared with itself; ref09.Begins, Same on the same path; ref25.Step; A lattice, as its readers know it; Leq; joins are the document's; Where steps lead in a plan, and how places are seen, plain. No condition. -/
import Derived.Test.YtphonmiflfhdbaaGreatMy3
import Derived.Test.YtphonmiflfhdbaaGreatMy4
set_option linter.all false
set_option maxRecDepth 100000
namespace Go.Proofs.YtphonmiflfhdbaaGreat
open Go Go.RowKit Dv Go.Proofs.Tryz
theorem bP {n m:Nat} {cr:List TkE} {x y:Bool} (h:x=y):We n m cr (.v (.bool x)) (.v (.bool y)):=.inl ⟨by rw [h],rfl⟩
theorem mF {l:List Wd} {j:Nat} {w:Wd} (h:l[j]? = some w):(aA l)[j]? = some w.s:=by simp [aA,h]
theorem Gb {L:List ByteArray} {s:ByteArray} (h:∀ j,j < L.length->L[j]? ≠ some s):cy L s=none:=qH fun j hj=>by grind
abbrev Qd (l:List Wd) (s:ByteArray) (e:Nat):St:=
 ⟨[bc 0 2 (bw l),(1,⟨[],.v (.string s)⟩),aw 5 e],[],[]⟩
theorem eI (l:List Wd) (s:ByteArray) (hs:wdsWt l<=1099511627776) :
  EvP prog 128 [.sl 2 (bw l) none,.v (.string s)] (.v (.int .i64 (oz (cy (aA l) s)))):=by
 have oP:=bi l;have iJ:=cS l;refine eG 20 [.tmp 4] func128 rfl ntmps128 rfl fun _ _ _ _=>?_;refine lI (fun j st=>∃ e:Nat,st=Qd l s e/\e<=l.length/\(∀ j,j < e->(aA l)[j]? ≠ some s)/\j=l.length - e) ⟨0,rfl,by omega,fun _ h=>by omega,rfl⟩ (bl wB) ?_;rintro j st ⟨e,rfl,he,fM,rfl⟩;refine br ?_ ?_<;>intro hL
 ·have ay:e < l.length:=by simpa [az] using hL
  obtain ⟨w,hw⟩:=gX ay;refine ⟨jt w,⟨by omega,aR hw⟩,?_⟩;refine br ?_ ?_<;>intro hq
  ·have hq:w.s=s:=sU hq;rw [zj (p:=e) (by rw [mF hw,hq]) (fun j hj=>Nat.le_of_not_lt fun hl=>fM j hl hj)];exact (rfl:_=_)
  ·have hq:¬ w.s=s:=sU hq;refine ⟨Qd l s (e + 1),(bl (cQ (nxt ay (by omega)))),l.length - (e + 1),by omega,e + 1,rfl,by omega,fun j hj=>?_,rfl⟩;rcases jU hj with hj | rfl
   ·exact fM j hj
   ·rw [mF hw];simpa using hq
 ·have hge:e=l.length:=by have:=hL;simp [az] at this;omega
  rw [Gb (fun j hj=>fM j (by omega))];exact (rfl:_=_)
theorem eZ {o:Option Nat}:decide (oz o < 0)=true↔o=none:=by
 cases o with
 | none=>simp [oz]
 | some k=>grind [oz]
theorem BM {L:List ByteArray}:∀ {o:List (Wd × Wd)},(numF L o).1=0->∀ x∈o,(∃ a,cy L x.1.s=some a)/\∃ b,cy L x.2.s=some b
 | [],_,x,hx=>by cases hx
 | p :: r,h,x,hx=>by
  rw [numF] at h;split at h
  ·exact absurd h (by simp)
  rename_i h1;split at h
  ·exact absurd h (by simp)
  rename_i h2;rcases cg hx with rfl | hx
  ·exact ⟨Option.ne_none_iff_exists'.1 h1,Option.ne_none_iff_exists'.1 h2⟩
  ·exact BM h x hx
abbrev WQ (l:List Wd) (o:List (Wd × Wd)) (q e:Nat):St:=
 ⟨[bc 0 2 (bw l),bc 1 4 (lU o),(5,⟨[],.sl 2 (lk (cM (aA l) (o.take e))) (some 0)⟩),aw 6 e],[],[⟨q,212,2,none⟩]⟩
theorem Eg (l:List Wd) (o:List (Wd × Wd)) (hs:wdsWt l<=1099511627776) (C0:prsWt o<=1099511627776) (hF:(numF (aA l) o).1=0) :
  EvP prog 78 [.sl 2 (bw l) none,.sl 4 (lU o) none] (.sl 2 (lk (cM (aA l) o)) none):=by
 have oP:=gQ o;refine eG 34 [.tmp 4] func78 rfl ntmps78 rfl fun _ _ _ _=>?_;refine lJ (fun e=>WQ l o e e) o.length (ff ⟨0,212,2,none⟩ rfl ⟨_,rfl⟩ rfl wA rfl rfl jX) ?_;intro e he;refine br ?_ ?_<;>intro hL
 ·have ay:e < o.length:=by simpa [fg] using hL
  obtain ⟨w,hw⟩:=gX ay;obtain ⟨⟨a,ha⟩,⟨b,hb⟩⟩:=BM hF w (mG hw);have IM:=eI l w.1.s hs;have vY:=eI l w.2.s hs;rw [ha] at IM;rw [hb] at vY;refine dI ?_;refine ⟨IP w,⟨by omega,gh hw⟩,?_⟩;refine cD tK IM ?_;refine ⟨IP w,⟨by omega,gh hw⟩,?_⟩;refine cD tK vY ?_;refine ⟨by simp [gj,cM];omega,⟨by simp [gj,cM,maxLen];omega,by simp [gj,cM];omega⟩,?_⟩;exact rE ⟨_,by omega,e + 1,rfl,by omega,rfl⟩ (bl (wB2 (nxt ay (by omega)) (xE hw ha hb)))
 ·have hge:e=o.length:=by
   have:=hL;simp [fg] at this;omega
  have ht:o.take e=o:=by rw [hge,List.take_length]
  rw [ht];exact ⟨_,ax,rfl⟩
theorem BN (l:List Wd) (o:List (Wd × Wd)) (hl:l.length<=32) (hs:wdsWt l<=1099511627776) (C0:prsWt o<=1099511627776) (hF:(numF (aA l) o).1=0) :
  EvP prog 33 [.sl 2 (bw l) none,.sl 4 (lU o) none] (.sl 1 (cJ (dz l.length (dY l.length (cM (aA l) o)))) none):=by
 have oP:=gQ o;have hP:qF l.length (cM (aA l) o):=by have:=na hF;rwa [cS] at this
 have hN:=az l;have NV:=Ee l.length (by omega) (cM (aA l) o) hP (by simp [cM];omega);rw [HL hP] at NV;refine eG 11 [.tmp 4] func33 rfl ntmps33 rfl fun _ _ _ _=>?_;refine cP ZU (Eg l o hs C0 hF) ?_;rw [hN];refine cP ZT NV ?_;exact ⟨_,ax,rfl⟩
theorem BO (n:Nat) (f:Nat->Nat->Bool):(dz n f).length=n:=by simp [dz]
theorem jd (n:Nat) (f:Nat->Nat->Bool):(cJ (dz n f)).length=n:=by rw [uP,BO]
theorem dZ {n:Nat} {f:Nat->Nat->Bool} {a:Nat} (ha:a < n):(cJ (dz n f))[a]? = some [DV.sl 1 (uO ((List.range n).map (f a))) none]:=Lj (Bm ha)
theorem dh {n:Nat} {f:Nat->Nat->Bool} {a b:Nat} (hb:b < n):(uO ((List.range n).map (f a)))[b]? = some [DV.v (.bool (f a b))]:=F9 (by simp [List.getElem?_range hb])
abbrev Qe (n:Nat) (f:Nat->Nat->Bool) (e:Nat):St:=
 ⟨[bc 0 1 (cJ (dz n f)),aw 3 e],[],[]⟩
abbrev Sg (n:Nat) (f:Nat->Nat->Bool) (e k:Nat):St:=
 ⟨[bc 0 1 (cJ (dz n f)),aw 3 e,aw 4 k],[],[]⟩
theorem BP (n:Nat) (f:Nat->Nat->Bool) (hn:n<=64) :
  EvP prog 192 [.sl 1 (cJ (dz n f)) none] (.v (.int .i64 (oz (bg (jP n f) n)))):=by
 have eN:=jd n f;refine eG 39 [.tmp 2] func192 rfl ntmps192 rfl fun _ _ _ _=>?_;refine lI (fun j st=>∃ e:Nat,st=Qe n f e/\e<=n/\(∀ a,a < e->jP n f a=false)/\j=n - e) ⟨0,rfl,by omega,fun _ h=>by omega,rfl⟩ (bl wB) ?_;rintro j st ⟨e,rfl,he,fM,rfl⟩;refine br ?_ ?_<;>intro hL
 ·have ay:e < n:=sV eN hL;refine lI (fun j st=>∃ k:Nat,st=Sg n f e k/\k<=n/\(∀ b,b < k->(decide (e≠b) && (f e b && f b e))=false)/\j=n - k) ⟨0,rfl,by omega,fun _ h=>by omega,rfl⟩ (bl wB) ?_;rintro j st ⟨k,rfl,hk,Ln,rfl⟩;refine br ?_ ?_<;>intro nM
  ·have ic:k < n:=sV eN nM;have ua:(decide (e≠k) && (f e k && f k e))=false->∀ b,b < k + 1->(decide (e≠b) && (f e b && f b e))=false:=fun h b hb=>by grind
   refine br ?_ ?_<;>intro g1
   ·have g1:e≠k:=by have:=g1;simp at this;omega
    refine iX (dZ ay) ?_;refine iX (dh ic) ?_;refine br ?_ ?_<;>intro g2
    ·have g2:f e k=true:=by simpa [pickB] using g2
     refine iX (dZ ic) ?_;refine iX (dh ay) ?_;refine br ?_ ?_<;>intro g3
     ·have g3:f k e=true:=by simpa [pickB] using g3
      have hp:jP n f e=true:=List.any_eq_true.2 ⟨k,List.mem_range.2 ic,by simp [g1,g2,g3]⟩;rw [bZ ay hp fM];exact (rfl:_=_)
     ·have g3:f k e=false:=by simpa [pickB] using g3
      exact rE ⟨_,by omega,k + 1,rfl,by omega,ua (by simp [g3]),rfl⟩ (bl (cQ (nxt ic (by omega))))
    ·have g2:f e k=false:=by simpa [pickB] using g2
     exact rE ⟨_,by omega,k + 1,rfl,by omega,ua (by simp [g2]),rfl⟩ (bl (cQ (nxt ic (by omega))))
   ·have g1:e=k:=by have:=g1;simp at this;omega
    exact rE ⟨_,by omega,k + 1,rfl,by omega,ua (by simp [g1]),rfl⟩ (bl (cQ (nxt ic (by omega))))
  ·have hge:k=n:=sW eN nM;refine ⟨Qe n f (e + 1),(bl (cQ (nxt ay (by omega)))),n - (e + 1),by omega,e + 1,rfl,by omega,fun j hj=>?_,rfl⟩;rcases jU hj with hj | rfl
   ·exact fM j hj
   ·grind [jP]
 ·have hge:e=n:=sW eN hL;subst hge;rw [b9 fM];exact (rfl:_=_)
abbrev tuSt (n:Nat) (f:Nat->Nat->Bool) (q e:Nat):St:=
 ⟨[bc 0 1 (cJ (dz n f)),(3,⟨[],.sl 1 (cJ ((dz n fun a b=>f b a).take e)) (some 0)⟩),aw 4 e],[],[⟨q,178,1,none⟩]⟩
abbrev WR (n:Nat) (f:Nat->Nat->Bool) (q e:Nat) (r:List Bool) (k:Nat):St:=
 ⟨[bc 0 1 (cJ (dz n f)),(3,⟨[],.sl 1 (cJ ((dz n fun a b=>f b a).take e)) (some 0)⟩),aw 4 e,(5,⟨[],.ms 0 1 0 n n⟩),aw 6 k],[cB r],[⟨q,178,1,none⟩]⟩
abbrev WS (n:Nat) (f:Nat->Nat->Bool) (q e:Nat) (r:List Bool):St:=
 ⟨[bc 0 1 (cJ (dz n f)),aw 4 e,(32,⟨[],.sl 1 (cJ ((dz n fun a b=>f b a).take e)) (some 0)⟩),bc 33 1 (uO r)],[],[⟨q,178,1,none⟩]⟩
def kv (n:Nat) (f:Nat->Nat->Bool) (e k:Nat):List Bool:=(List.range n).map fun b=>if b < k then f b e else false
theorem qU (n:Nat) (f:Nat->Nat->Bool) (e k:Nat):(kv n f e k).length=n:=by simp [kv]
theorem Eh (n:Nat) (f:Nat->Nat->Bool) (e:Nat):kv n f e 0=List.replicate n false:=by
 refine List.ext_getElem? fun i=>?_
 grind [kv,qU]
theorem Ei (n:Nat) (f:Nat->Nat->Bool) (e k:Nat):(kv n f e k).set k (f k e)=kv n f e (k + 1):=by
 refine List.ext_getElem? fun i=>?_
 grind [kv,qU]
theorem Ej (n:Nat) (f:Nat->Nat->Bool) (e:Nat):kv n f e n=(List.range n).map (fun b=>f b e):=by simp_all [kv]
theorem HN (n:Nat) (f:Nat->Nat->Bool) (hn:n<=64) :
  EvP prog 193 [.sl 1 (cJ (dz n f)) none] (.sl 1 (cJ (dz n fun a b=>f b a)) none):=by
 have eN:=jd n f;have WG:=BO n fun a b=>f b a;refine eG 37 [.tmp 2] func193 rfl ntmps193 rfl fun _ _ _ _=>?_;refine lJ (fun e=>tuSt n f e e) n (ff ⟨0,178,1,none⟩ rfl ⟨_,rfl⟩ rfl wA rfl rfl jX) ?_;intro e he;refine br ?_ ?_<;>intro hL
 ·have ay:e < n:=sV eN hL;refine ⟨⟨rfl,by omega,by rw [eN];omega,by rw [eN];omega⟩,?_⟩;rw [eN];have iy:(List.replicate (n:Int).toNat (vL [Value.bool false])).flatten=cB (kv n f e 0):=by grind [HK,Eh]
  refine lJ (fun k=>WR n f e e (kv n f e k) k) n (wkB 1 (nz iy) (cQ iy)) ?_;intro k hk;refine br ?_ ?_<;>intro nM
  ·have ic:k < n:=sV eN nM;refine iX (dZ ic) ?_;refine iX (dh ay) ?_;refine ⟨⟨by omega,by omega⟩,?_⟩;refine ⟨by rw [qT,qU];omega,?_⟩
   have lO:(cB (kv n f e k)).set (0 + (k:Int).toNat * 1) (DV.v (.bool (f (k:Int).toNat (e:Int).toNat)))=cB (kv n f e (k + 1)):=by
    rw [show 0 + (k:Int).toNat * 1=k by omega,zt,jV,jV,Ei]
   exact rE ⟨_,by omega,k + 1,rfl,by omega,rfl⟩ (wkB 1 (wA2 lO (nxt ic (by omega))) (wB2 lO (nxt ic (by omega))))
  ·have hge:k=n:=sW eN nM;subst hge;rw [Ej];refine I3.wk (.FD (st':=WS k f e e ((List.range k).map fun b=>f b e)) 0 rfl rfl rfl rfl ?_) rfl rfl ?_
   ·refine ⟨⟨_,rfl,?_⟩,⟨_,rfl,?_⟩,⟨_,rfl,?_⟩,⟨_,rfl,Qc (by simp) (by omega) rfl⟩,trivial⟩
    ·grind [Cc]
    ·simp only [Cc]
    ·grind [Cc]
   ·have hmr:(cJ ((dz k fun a b=>f b a).take e)).length=e:=by rw [uP,eP,WG];omega
    have gO:cJ ((dz k fun a b=>f b a).take e) ++ [[DV.sl 1 (uO ((List.range k).map fun b=>f b e)) none]]=cJ ((dz k fun a b=>f b a).take (e + 1)):=by rw [List.take_add_one,Bm ay];simp [cJ]
    refine ⟨hmr,⟨by rw [hmr];simp [maxLen];omega,by rw [hmr];simp;omega⟩,?_⟩;exact rE ⟨_,by omega,e + 1,rfl,by omega,rfl⟩ (bl (wB2 (nxt ay (by omega)) gO))
 ·have hge:e=n:=sW eN hL;subst hge;rw [List.take_of_length_le (by rw [WG];omega)];exact ⟨_,ax,rfl⟩
def Qf (f:Nat->Nat->Bool) (n a b c:Nat):Bool:=(f a c && f b c) && (List.range n).all fun d=>!(f a d && f b d) || f c d
def kx (f:Nat->Nat->Bool) (n a b:Nat):Option Nat:=bg (Qf f n a b) n
def lW (f:Nat->Nat->Bool) (a b c k:Nat):Bool:=(f a c && f b c) && (List.range k).all fun d=>!(f a d && f b d) || f c d
theorem HO (f:Nat->Nat->Bool) (a b c k:Nat):lW f a b c (k + 1)=(lW f a b c k && (!(f a k && f b k) || f c k)):=by
 simp only [lW,List.range_succ,List.all_append,List.all_cons,List.all_nil,Bool.and_true,Bool.and_assoc]
theorem xU (f:Nat->Nat->Bool) (a b c:Nat):lW f a b c 0=(f a c && f b c):=by simp [lW]
abbrev WT (n:Nat) (f:Nat->Nat->Bool) (a b e:Nat):St:=
 ⟨[bc 0 1 (cJ (dz n f)),aw 1 a,aw 2 b,aw 7 e],[],[]⟩
abbrev Gc (n:Nat) (f:Nat->Nat->Bool) (a b e:Nat) (x:Bool) (k:Nat):St:=
 ⟨[bc 0 1 (cJ (dz n f)),aw 1 a,aw 2 b,aw 7 e,yN 8 x,aw 9 k],[],[]⟩
theorem rK (n:Nat) (f:Nat->Nat->Bool) (hn:n<=64) (a b:Nat) (ha:a < n) (hb:b < n) :
  EvP prog 86 [.sl 1 (cJ (dz n f)) none,.v (.int .i64 a),.v (.int .i64 b)] (.v (.int .i64 (oz (kx f n a b)))):=by
 have eN:=jd n f;refine eG 66 [.tmp 6] func86 rfl ntmps86 rfl fun _ _ _ _=>?_;refine lI (fun j st=>∃ e:Nat,st=WT n f a b e/\e<=n/\(∀ c,c < e->Qf f n a b c=false)/\j=n - e) ⟨0,rfl,by omega,fun _ h=>by omega,rfl⟩ (bl wB) ?_;rintro j st ⟨e,rfl,he,fM,rfl⟩;refine br ?_ ?_<;>intro hL
 ·have ay:e < n:=sV eN hL;refine iX (dZ ha) ?_;refine iX (dh ay) ?_;have e1:(f a e == true)=true->f b e=lW f a b e 0:=fun g=>by rw [xU,show f a e=true by simpa using g];simp
  have e2:(f a e == true)=false->false=lW f a b e 0:=fun g=>by rw [xU,show f a e=false by simpa using g];simp
  refine have body:=?_;br (fun g1=>⟨_,⟨by omega,dZ hb⟩,⟨_,⟨by omega,dh ay⟩,aY (fun j st=>∃ k:Nat,st=Gc n f a b e (lW f a b e k) k/\k<=n/\j=n - k) n (Gc n f a b e (lW f a b e 0) 0) (bl (by repeat' (first | exact trivial | exact aE rfl | exact (show We _ _ _ (DV.v (.bool (f b e))) _ from bP (e1 g1)) | refine ⟨⟨_,rfl,?_⟩,?_⟩))) ⟨0,rfl,by omega,by omega⟩ body⟩⟩) (fun g1=>aY (fun j st=>∃ k:Nat,st=Gc n f a b e (lW f a b e k) k/\k<=n/\j=n - k) n (Gc n f a b e (lW f a b e 0) 0) (bl (by repeat' (first | exact trivial | exact aE rfl | exact (show We _ _ _ (DV.v (.bool false)) _ from bP (e2 g1)) | refine ⟨⟨_,rfl,?_⟩,?_⟩))) ⟨0,rfl,by omega,by omega⟩ body);rintro j st ⟨k,rfl,hk,rfl⟩;refine br ?_ ?_<;>intro nM
  ·have ic:k < n:=sV eN nM;have Qg:=HO f a b e k;refine iX (dZ ha) ?_;refine iX (dh ic) ?_;refine br ?_ ?_<;>intro g1
   ·refine iX (dZ hb) ?_;refine iX (dh ic) ?_;refine br ?_ ?_<;>intro g2
    ·refine iX (dZ ay) ?_;refine iX (dh ic) ?_;refine br ?_ ?_<;>intro g3
     ·have hx:false=lW f a b e (k + 1):=by simp [pickB] at g1 g2 g3;rw [Qg];simp [g1,g2,g3]
      exact rE ⟨_,by omega,k + 1,rfl,by omega,rfl⟩ (bl (wB2 (nxt ic (by omega)) hx))
     ·have hx:lW f a b e k=lW f a b e (k + 1):=by simp [pickB] at g1 g2 g3;rw [Qg];simp [g1,g2,g3]
      exact rE ⟨_,by omega,k + 1,rfl,by omega,rfl⟩ (bl (wB2 (nxt ic (by omega)) hx))
    ·have hx:lW f a b e k=lW f a b e (k + 1):=by simp [pickB] at g1 g2;rw [Qg];simp [g1,g2]
     exact rE ⟨_,by omega,k + 1,rfl,by omega,rfl⟩ (bl (wB2 (nxt ic (by omega)) hx))
   ·have hx:lW f a b e k=lW f a b e (k + 1):=by simp [pickB] at g1;rw [Qg];simp [g1]
    exact rE ⟨_,by omega,k + 1,rfl,by omega,rfl⟩ (bl (wB2 (nxt ic (by omega)) hx))
  ·have hge:k=n:=sW eN nM;subst hge;refine br ?_ ?_<;>intro g
   ·have g:Qf f k a b e=true:=g;rw [kx,bZ ay g fM];exact (rfl:_=_)
   ·have g:Qf f k a b e=false:=g;refine ⟨WT k f a b (e + 1),(bl (cQ (nxt ay (by omega)))),k - (e + 1),by omega,e + 1,rfl,by omega,fun j hj=>?_,rfl⟩;rcases jU hj with hj | rfl
    ·exact fM j hj
    ·exact g
 ·have hge:e=n:=sW eN hL;subst hge;rw [kx,b9 fM];exact (rfl:_=_)
theorem Lo {l:List Wd} {i:Nat} {w:Wd} (hw:l[i]? = some w):∃ p,cy (aA l) w.s=some p/\(p < i↔bX (l.take i) w.s=true):=by
 cases h:cy (aA l) w.s with
 | none=>exact absurd (mG (mF hw)) (wb.1 h)
 | some p=>
  refine ⟨p,rfl,?_⟩;obtain ⟨h1,h2,h3⟩:=cF h;rw [cS] at h1;have Qh:∃ v,l[p]? = some v/\v.s=w.s:=by grind [mF]
  obtain ⟨v,hv,vT⟩:=Qh;unfold bX;rw [List.any_eq_true];refine ⟨fun ay=>⟨v,mG (i:=p) (by rw [bT,ap ay];exact hv),by simp [vT]⟩,fun ⟨x,hx,CJ⟩=>?_⟩;obtain ⟨j,hj⟩:=List.getElem?_of_mem hx
  grind [mF]
theorem zu {f:Nat->Nat->Bool} {n a b c:Nat}:Qf f n a b c=true↔f a c=true/\f b c=true/\∀ d,d < n->f a d=true->f b d=true->f c d=true:=by grind [Qf]
structure Od (f:Nat->Nat->Bool) (n:Nat):Prop where
 rfl':∀ a,a < n->f a a=true
 Hy:∀ a b,a < n->b < n->f a b=true->f b a=true->a=b
theorem Od.flip {f:Nat->Nat->Bool} {n:Nat} (h:Od f n):Od (fun x y=>f y x) n:=⟨h.rfl',fun a b ha hb h1 h2=>h.Hy a b ha hb h2 h1⟩
theorem Lp {f:Nat->Nat->Bool} {n a b c:Nat} (h:Od f n) (hc:c < n) (hj:Qf f n a b c=true):er f n a b=some c:=by
 obtain ⟨h1,h2,h3⟩:=zu.1 hj
 have key:∀ e,e<=n->c < e->bestA (fun c=>f a c && f b c) f e=some c:=by
  intro e
  induction e with
  | zero=>intro _ h;omega
  | succ e ih=>
   intro he VT;rw [bestA];by_cases hec:e=c
   ·subst hec;rw [ap];simp only [h1,h2,Bool.and_true,Bool.true_and]
    cases ho:bestA (fun c=>f a c && f b c) f e with
    | none=>rfl
    | some o=>
     have hp:=qM ho;have hl:=mq ho;simp only [aS] at hp;exact h3 o (by omega) hp.1 hp.2
   ·rw [ih (by omega) (by omega),ai];simp only [aS,Bq,not_and];intro hp hec2;exact hec (h.Hy e c (by omega) hc hec2 (h3 e (by omega) hp.1 hp.2))
 grind [er,mn]
theorem pA {f:Nat->Nat->Bool} {n a b:Nat} (h:Od f n):(er f n a b).isNone=(kx f n a b).isNone:=by
 cases hj:kx f n a b with
 | some c=>
  obtain ⟨hc,hi,_⟩:=cx hj;rw [Lp h hc hi]
 | none=>
  cases hk:er f n a b with
  | none=>rfl
  | some k=>
   obtain ⟨h1,h2,h3,h4⟩:=lu hk;have:=dg hj k h1;rw [zu.2 ⟨h2,h3,h4⟩] at this;cases this
def nN (f:Nat->Nat->Bool) (n a b:Nat):Bool:=(kx f n a b).isNone || (kx (fun x y=>f y x) n a b).isNone
theorem Gd {f:Nat->Nat->Bool} {n a b:Nat} (h:Od f n):ko f n a b=nN f n a b:=by
 unfold ko nN;rw [pA h,show iq f n a b=er (fun x y=>f y x) n a b from rfl,pA h.flip]
theorem uQ {f:Nat->Nat->Bool} {n b:Nat} (h:Od f n) (hb:b < n):(kx f n b b).isNone=false:=by
 have hi:Qf f n b b b=true:=zu.2 ⟨h.rfl' b hb,h.rfl' b hb,fun d _ h1 _=>h1⟩
 cases hj:kx f n b b with
 | some c=>rfl
 | none=>rw [dg hj b hb] at hi;cases hi
theorem Oe {f:Nat->Nat->Bool} {n b:Nat} (h:Od f n) (hb:b < n):mr f n b=(List.range b).any fun a=>nN f n a b:=by
 unfold mr;rw [List.range_succ,List.any_append];simp only [List.any_cons,List.any_nil,Bool.or_false];rw [Gd h,show nN f n b b=false by unfold nN;rw [uQ h hb,uQ h.flip hb];rfl,Bool.or_false]
 grind [Gd]
theorem Sh {n:Nat} {l:List (Nat × Nat)} (hP:qF n l) (h4:bg (jP n (dY n l)) n=none):Od (dY n l) n where
 rfl':=fun a ha=>qG hP ha
 Hy:=fun a b ha hb h6 h7=>by grind [dg,jP]
abbrev WU (l:List Wd) (o:List (Wd × Wd)) (e:Nat):St:=
 ⟨[bc 0 2 (bw l),bc 1 4 (lU o),aF 4 0,aw 5 e],[[.v (.int .i64 0),.v (.int .i64 0)]],[]⟩
abbrev WV (l:List Wd) (o:List (Wd × Wd)) (e:Nat):St:=
 ⟨[bc 0 2 (bw l),bc 1 4 (lU o),aF 4 0,aw 6 e],[[.v (.int .i64 0),.v (.int .i64 0)]],[]⟩
abbrev Qi (l:List Wd) (n:Nat) (f:Nat->Nat->Bool) (e:Nat):St:=
 ⟨[bc 0 2 (bw l),aF 4 0,bc 7 1 (cJ (dz n f)),bc 9 1 (cJ (dz n fun a b=>f b a)),aw 10 e],[[.v (.int .i64 0),.v (.int .i64 0)]],[]⟩
abbrev Qj (l:List Wd) (n:Nat) (f:Nat->Nat->Bool) (e k:Nat):St:=
 ⟨[bc 0 2 (bw l),aF 4 0,bc 7 1 (cJ (dz n f)),bc 9 1 (cJ (dz n fun a b=>f b a)),aw 10 e,aw 11 k],[[.v (.int .i64 0),.v (.int .i64 0)]],[]⟩
theorem zw (l:List Wd) (o:List (Wd × Wd)) (hs:wdsWt l<=1099511627776) (C0:prsWt o<=1099511627776) :
  EvP prog 158 [.sl 2 (bw l) none,.sl 4 (lU o) none] (latF l o).d:=by
 have oP:=bi l;have hsl2:=gQ o;have hF:latF l o=latF l o:=rfl
 conv at hF=>rhs;unfold latF
 refine eG 150 [.cell 4 44] func158 rfl ntmps158 rfl fun _ _ _ _=>?_;generalize latF l o=F at hF ⊢;refine br ?_ ?_<;>intro h
 ·have h:l=[]:=by simpa [az] using h
  rw [show fh l o=(15,0) by rw [fh,ap h],ap (by decide)] at hF;refine ⟨_,?_,rfl⟩;rw [hF];exact ax
 have h:¬ l=[]:=by simpa [az] using h
 refine br ?_ ?_<;>intro h1
 ·have h1:32 < l.length:=by simp [az] at h1;omega
  obtain ⟨x,hx⟩:∃ x,l[32]? = some x:=⟨_,gE h1⟩;rw [show fh l o=(8,x.a) by rw [fh,ai h,ap h1,hx];rfl,ap (by simp)] at hF;refine ⟨jt x,⟨by omega,aR hx⟩,?_⟩;refine ⟨_,?_,rfl⟩;rw [hF];exact ax
 have h1:¬ 32 < l.length:=by simp [az] at h1;omega
 refine br ?_ ?_<;>intro h2
 ·have h2:256 < o.length:=by simp [fg] at h2;omega
  obtain ⟨x,hx⟩:∃ x,o[256]? = some x:=⟨_,gE h2⟩;rw [show fh l o=(8,x.1.a) by rw [fh,ai h,ai h1,ap h2,hx];rfl,ap (by simp)] at hF;refine ⟨IP x,⟨by omega,gh hx⟩,?_⟩;refine ⟨_,?_,rfl⟩;rw [hF];exact ax
 have h2:¬ 256 < o.length:=by simp [fg] at h2;omega
 rw [show fh l o=(0,0) by rw [fh,ai h,ai h1,ai h2],ai (by decide)] at hF;have h0:enumL l 0 l=enumL l 0 (l.drop 0):=rfl;refine lI (fun j st=>∃ e:Nat,st=WU l o e/\e<=l.length/\enumL l 0 l=enumL l e (l.drop e)/\j=l.length - e) ⟨0,rfl,by omega,rfl,rfl⟩ (bl wB) ?_;rintro j st ⟨e,rfl,he,aP,rfl⟩;refine br ?_ ?_<;>intro hL
 ·have ay:e < l.length:=by simpa [az] using hL
  obtain ⟨w,hw⟩:=gX ay;have PN:=gK (mG hw);have bh:enumL l e (l.drop e)=if aG l e w≠0 then (aG l e w,w.a) else enumL l (e + 1) (l.drop (e + 1)):=by rw [drop_cons hw,enumL]
  obtain ⟨p,hp,IC⟩:=Lo hw;have hf:=eI l w.s hs;rw [hp] at hf;refine ⟨jt w,⟨by omega,aR hw⟩,?_⟩;refine cP FI (jL w.s (by omega)) ?_;refine br ?_ ?_<;>intro hN
  ·have hN:aZ w.s=false:=sU hN;have hf:aG l e w=9:=by simp [aG,hN]
   rw [aP,bh,hf,ap (show (9:Int)≠0 by decide),ap (by simp)] at hF;refine ⟨jt w,⟨by omega,aR hw⟩,?_⟩;refine ⟨_,?_,rfl⟩;rw [hF];exact ax
  ·have hN:aZ w.s=true:=sU hN;refine ⟨jt w,⟨by omega,aR hw⟩,?_⟩;refine cP tK hf ?_;refine br ?_ ?_<;>intro h2
   ·have h2:p < e:=by have:=h2;simp [oz] at this;exact this
    have hf:aG l e w=10:=by simp [aG,hN,IC.1 h2]
    rw [aP,bh,hf,ap (show (10:Int)≠0 by decide),ap (by simp)] at hF;refine ⟨jt w,⟨by omega,aR hw⟩,?_⟩;refine ⟨_,?_,rfl⟩;rw [hF];exact ax
   ·have h2:¬ p < e:=by have:=h2;simp [oz] at this;omega
    have hd:bX (l.take e) w.s=false:=by grind
    have hf:aG l e w=0:=by simp [aG,hN,hd]
    rw [hf,ai (by simp)] at bh;exact rE ⟨_,by omega,e + 1,rfl,by omega,by rw [aP,bh],rfl⟩ (bl (cQ (nxt ay (by omega))))
 have hge:e=l.length:=by have:=hL;simp [az] at this;omega
 rw [aP,hge,List.drop_length,show enumL l l.length []=(0,0) from rfl,ai (by decide)] at hF;refine lI (fun j st=>∃ e:Nat,st=WV l o e/\e<=o.length/\numF (aA l) o=numF (aA l) (o.drop e)/\j=o.length - e) ⟨0,rfl,by omega,rfl,rfl⟩ (bl wB) ?_;clear aP hL hge he e;rintro j st ⟨e,rfl,he,aP,rfl⟩;refine br ?_ ?_<;>intro hL
 ·have ay:e < o.length:=by simpa [fg] using hL
  obtain ⟨w,hw⟩:=gX ay;have bh:numF (aA l) (o.drop e)=if cy (aA l) w.1.s=none then (17,w.1.a) else if cy (aA l) w.2.s=none then (17,w.2.a) else numF (aA l) (o.drop (e + 1)):=by rw [drop_cons hw,numF]
  refine ⟨IP w,⟨by omega,gh hw⟩,?_⟩;refine cP tK (eI l w.1.s hs) ?_;refine br ?_ ?_<;>intro ha
  ·have ha:=eZ.1 ha;rw [aP,bh,ap ha,ap (by simp)] at hF;refine ⟨IP w,⟨by omega,gh hw⟩,?_⟩;refine ⟨_,?_,rfl⟩;rw [hF];exact ax
  have ha:¬ cy (aA l) w.1.s=none:=fun hn=>by have:=eZ.2 hn;rw [ha] at this;cases this
  refine ⟨IP w,⟨by omega,gh hw⟩,?_⟩;refine cP tK (eI l w.2.s hs) ?_;refine br ?_ ?_<;>intro hb
  ·have hb:=eZ.1 hb;rw [aP,bh,ai ha,ap hb,ap (by simp)] at hF;refine ⟨IP w,⟨by omega,gh hw⟩,?_⟩;refine ⟨_,?_,rfl⟩;rw [hF];exact ax
  have hb:¬ cy (aA l) w.2.s=none:=fun hn=>by have:=eZ.2 hn;rw [hb] at this;cases this
  rw [ai ha,ai hb] at bh;exact rE ⟨_,by omega,e + 1,rfl,by omega,by rw [aP,bh],rfl⟩ (bl (cQ (nxt ay (by omega))))
 have hge:e=o.length:=by have:=hL;simp [fg] at this;omega
 rw [hge,List.drop_length,show numF (aA l) []=(0,0) from rfl] at aP;rw [aP,ai (by decide)] at hF;have wJ:(numF (aA l) o).1=0:=by rw [aP]
 have hP:qF l.length (cM (aA l) o):=by have:=na wJ;rwa [cS] at this
 have YA:=Sh hP;have eN:=jd l.length (dY l.length (cM (aA l) o));refine cP Rh (BN l o (by omega) hs C0 wJ) ?_;generalize dY l.length (cM (aA l) o)=f at hF YA eN ⊢;refine cP Vf (BP l.length f (by omega)) ?_
 cases hlo:bg (jP l.length f) l.length with
 | some a=>
  rw [hlo] at hF;have ha:=(cx hlo).1;obtain ⟨x,hx⟩:∃ x,l[a]? = some x:=⟨_,gE ha⟩;simp only [jQ hx] at hF;refine ⟨jt x,⟨by simp only [oz];omega,aR hx⟩,?_⟩;refine ⟨_,?_,rfl⟩;rw [hF];exact ax
 | none=>
 have YA:=YA hlo;rw [hlo] at hF;simp only at hF;refine cP Vg (HN l.length f (by omega)) ?_;refine lI (fun j st=>∃ e:Nat,st=Qi l l.length f e/\e<=l.length/\(∀ b,b < e->mr f l.length b=false)/\j=l.length - e) ⟨0,rfl,by omega,fun _ h=>by omega,rfl⟩ (bl wB) ?_;clear aP hL hge he e;rintro j st ⟨e,rfl,he,fM,rfl⟩;refine br ?_ ?_<;>intro hL
 ·have ay:e < l.length:=sV eN hL;have Jo:=Oe YA ay;refine lI (fun j st=>∃ k:Nat,st=Qj l l.length f e k/\k<=e/\(∀ a,a < k->nN f l.length a e=false)/\j=e - k) ⟨0,rfl,by omega,fun _ h=>by omega,rfl⟩ (bl wB) ?_;rintro j st ⟨k,rfl,hk,Ln,rfl⟩;refine br ?_ ?_<;>intro nM
  ·have ic:k < e:=sU nM;obtain ⟨x,hx⟩:=gX ay
   have WW:nN f l.length k e=true->F=(12,x.a):=fun Bu=>by
    rw [bZ ay (by rw [Jo,List.any_eq_true];exact ⟨k,by simpa using ic,Bu⟩) fM] at hF;simp only [jQ hx] at hF;exact hF
   refine cP UG (rK l.length f (by omega) k e (by omega) ay) ?_;refine br ?_ ?_<;>intro g1
   ·have g1:¬ kx f l.length k e=none:=fun hn=>by rw [eZ.2 hn] at g1;cases g1
    refine cP UG (rK l.length (fun a b=>f b a) (by omega) k e (by omega) ay) ?_;refine br ?_ ?_<;>intro g2
    ·have g2:kx (fun a b=>f b a) l.length k e=none:=by
      rw [<- eZ];simpa [pickB] using g2
     have hF:=WW (by unfold nN;rw [g2];simp);refine ⟨jt x,⟨by omega,aR hx⟩,?_⟩;refine ⟨_,?_,rfl⟩;rw [hF];exact ax
    ·have g2:¬ kx (fun a b=>f b a) l.length k e=none:=fun hn=>by
      have h3:=eZ.2 hn;simp [pickB] at g2;have h3:=of_decide_eq_true h3;omega
     refine ⟨Qj l l.length f e (k + 1),(bl (cQ (nxt ic (by omega)))),e - (k + 1),by omega,k + 1,rfl,by omega,fun j hj=>?_,rfl⟩;rcases jU hj with hj | rfl
     ·exact Ln j hj
     ·unfold nN;rw [Option.isNone_eq_false_iff.2 (Option.isSome_iff_ne_none.2 g1),Option.isNone_eq_false_iff.2 (Option.isSome_iff_ne_none.2 g2)];rfl
   ·have g1:kx f l.length k e=none:=by
     rw [<- eZ];simpa using g1
    have hF:=WW (by unfold nN;rw [g1];rfl);refine ⟨jt x,⟨by omega,aR hx⟩,?_⟩;refine ⟨_,?_,rfl⟩;rw [hF];exact ax
  ·have hge:k=e:=by have:=nM;simp at this;omega
   subst hge;refine ⟨Qi l l.length f (k + 1),(bl (cQ (nxt ay (by omega)))),l.length - (k + 1),by omega,k + 1,rfl,by omega,fun j hj=>?_,rfl⟩;rcases jU hj with hj | rfl
   ·exact fM j hj
   ·grind
 ·have hge:e=l.length:=sW eN hL;subst hge;rw [b9 fM] at hF;simp only at hF;refine ⟨_,?_,rfl⟩;rw [hF];exact ax
abbrev ovSt (n:Nat) (f:Nat->Nat->Bool) (l:List Nat) (c e:Nat):St:=
 ⟨[bc 0 1 (cJ (dz n f)),bc 1 1 (dInts l),aw 2 c,aw 7 e],[],[]⟩
theorem xV (n:Nat) (f:Nat->Nat->Bool) (hn:n<=64) (l:List Nat) (hl:∀ i∈l,i < n) (R0:l.length<=1099511627776) (c:Nat) (hc:c < n) :
  EvP prog 179 [.sl 1 (cJ (dz n f)) none,.sl 1 (dInts l) none,.v (.int .i64 c)] (.v (.bool (gz f l c))):=by
 have eN:=jd n f;have IL:=bo l;refine eG 25 [.tmp 6] func179 rfl ntmps179 rfl fun _ _ _ _=>?_;refine lI (fun j st=>∃ e:Nat,st=ovSt n f l c e/\e<=l.length/\gz f l c=gz f (l.drop e) c/\j=l.length - e) ⟨0,rfl,by omega,rfl,rfl⟩ (bl wB) ?_;rintro j st ⟨e,rfl,he,aP,rfl⟩;rw [aP];refine br ?_ ?_<;>intro hL
 ·have ay:e < l.length:=by have:=hL;simp [IL] at this;exact this
  obtain ⟨i,hi⟩:=gX ay;have v8:=hl i (mG hi);have bh:gz f (l.drop e) c=(f i c && gz f (l.drop (e + 1)) c):=by unfold gz;rw [drop_cons hi,List.all_cons]
  refine iX (dF hi) ?_;refine iX (dZ v8) ?_;refine iX (dh hc) ?_;refine br ?_ ?_<;>intro g
  ·have g:f i c=false:=sU g;rw [bh,g,Bool.false_and];exact (rfl:_=_)
  ·have g:f i c=true:=sU g;rw [g,Bool.true_and] at bh;exact rE ⟨_,by omega,e + 1,rfl,by omega,bh,rfl⟩ (bl (cQ (nxt ay (by omega))))
 ·have hge:e=l.length:=sW IL hL;rw [hge,List.drop_length];exact (rfl:_=_)
def uR (f:Nat->Nat->Bool) (l:List Nat) (c k:Nat):Bool:=gz f l c && (List.range k).all fun d=>!gz f l d || f c d
theorem HP (f:Nat->Nat->Bool) (l:List Nat) (c:Nat):uR f l c 0=gz f l c:=by simp [uR]
theorem HQ (f:Nat->Nat->Bool) (l:List Nat) (c k:Nat):uR f l c (k + 1)=(uR f l c k && (!gz f l k || f c k)):=by grind [uR]
abbrev WX (n:Nat) (f:Nat->Nat->Bool) (l:List Nat) (e:Nat):St:=
 ⟨[bc 0 1 (cJ (dz n f)),bc 1 1 (dInts l),aw 5 e],[],[]⟩
abbrev WY (n:Nat) (f:Nat->Nat->Bool) (l:List Nat) (e:Nat) (x:Bool) (k:Nat):St:=
 ⟨[bc 0 1 (cJ (dz n f)),bc 1 1 (dInts l),aw 5 e,yN 6 x,aw 7 k],[],[]⟩
theorem Ek (n:Nat) (f:Nat->Nat->Bool) (hn:n<=64) (l:List Nat) (hl:∀ i∈l,i < n) (R0:l.length<=1099511627776) :
  EvP prog 129 [.sl 1 (cJ (dz n f)) none,.sl 1 (dInts l) none] (.v (.int .i64 (oz (eX f n l)))):=by
 have eN:=jd n f;refine eG 40 [.tmp 4] func129 rfl ntmps129 rfl fun _ _ _ _=>?_;refine lI (fun j st=>∃ e:Nat,st=WX n f l e/\e<=n/\(∀ c,c < e->Bz f n l c=false)/\j=n - e) ⟨0,rfl,by omega,fun _ h=>by omega,rfl⟩ (bl wB) ?_;rintro j st ⟨e,rfl,he,fM,rfl⟩;refine br ?_ ?_<;>intro hL
 ·have ay:e < n:=sV eN hL;refine cP Pw (xV n f hn l hl R0 e ay) ?_;refine lJ (fun k=>WY n f l e (uR f l e k) k) n (bl (cQ ((HP f l e).symm))) ?_;intro k hk;refine br ?_ ?_<;>intro nM
  ·have ic:k < n:=sV eN nM;have Qg:=HQ f l e k;refine cP Pw (xV n f hn l hl R0 k ic) ?_;refine br ?_ ?_<;>intro g1
   ·refine iX (dZ ay) ?_;refine iX (dh ic) ?_;refine br ?_ ?_<;>intro g2
    ·have hx:false=uR f l e (k + 1):=by simp [pickB] at g1 g2;rw [Qg];simp [g1,g2]
     exact rE ⟨_,by omega,k + 1,rfl,by omega,rfl⟩ (bl (wB2 (nxt ic (by omega)) hx))
    ·have hx:uR f l e k=uR f l e (k + 1):=by simp [pickB] at g1 g2;rw [Qg];simp [g1,g2]
     exact rE ⟨_,by omega,k + 1,rfl,by omega,rfl⟩ (bl (wB2 (nxt ic (by omega)) hx))
   ·have hx:uR f l e k=uR f l e (k + 1):=by simp [pickB] at g1;rw [Qg];simp [g1]
    exact rE ⟨_,by omega,k + 1,rfl,by omega,rfl⟩ (bl (wB2 (nxt ic (by omega)) hx))
  ·have hge:k=n:=sW eN nM;subst hge;refine br ?_ ?_<;>intro g
   ·have g:Bz f k l e=true:=g;rw [eX,bZ ay g fM];exact (rfl:_=_)
   ·have g:Bz f k l e=false:=g;refine ⟨WX k f l (e + 1),(bl (cQ (nxt ay (by omega)))),k - (e + 1),by omega,e + 1,rfl,by omega,fun j hj=>?_,rfl⟩;rcases jU hj with hj | rfl
    ·exact fM j hj
    ·exact g
 ·have hge:e=n:=sW eN hL;subst hge;rw [eX,b9 fM];exact (rfl:_=_)
abbrev Si (lv:List Wd) (f:Nat->Nat->Bool) (l:List Wd) (q e:Nat):St:=
 ⟨[bc 0 2 (bw lv),bc 1 1 (cJ (dz lv.length f)),bc 2 2 (bw l),aF 7 0,(8,⟨[],.sl 1 (dInts (lx (aA lv) (l.take e))) (some 0)⟩),aw 9 e],[[.v (.int .i64 0),.v (.int .i64 0)]],[⟨q,3,1,none⟩]⟩
theorem Og {L:List ByteArray} {l:List Wd} {i:Nat} (h:i∈lx L l) (hL:0 < L.length):i < L.length:=by
 unfold lx at h;obtain ⟨w,_,rfl⟩:=List.mem_map.1 h
 cases hx:cy L w.s with
 | none=>simpa using hL
 | some p=>exact (cF hx).1
theorem El {L:List ByteArray} {l:List Wd} {e i:Nat} {w:Wd} (h:l[e]? = some w) (hi:cy L w.s=some i):dInts (lx L (l.take e)) ++ [[DV.v (.int .i64 (oz (some i)))]]=dInts (lx L (l.take (e + 1))):=by
 rw [qO h hi];simp [dInts,oz]
theorem HR (lv:List Wd) (f:Nat->Nat->Bool) (h0:0 < lv.length) (hn:lv.length<=32) (hs:wdsWt lv<=1099511627776) (l:List Wd) (hl:wdsWt l<=1099511627776) :
  EvP prog 79 [.sl 2 (bw lv) none,.sl 1 (cJ (dz lv.length f)) none,.sl 2 (bw l) none] (Hz f (aA lv) l):=by
 have oP:=bi l;have iJ:=cS lv;unfold Hz zm;refine eG 40 [.tmp 6,.cell 7 44] func79 rfl ntmps79 rfl fun _ _ _ _=>?_;refine lI (fun j st=>∃ e:Nat,st=Si lv f l e e/\e<=l.length/\labW (aA lv) l=labW (aA lv) (l.drop e)/\j=l.length - e) ⟨0,rfl,by omega,rfl,rfl⟩ (ff ⟨0,3,1,none⟩ rfl ⟨_,rfl⟩ rfl wA rfl rfl jX) ?_;rintro j st ⟨e,rfl,he,aP,rfl⟩;rw [aP];refine br ?_ ?_<;>intro hL
 ·have ay:e < l.length:=by simpa [az] using hL
  obtain ⟨w,hw⟩:=gX ay;have bh:=qN (L:=aA lv) hw;refine ⟨jt w,⟨by omega,aR hw⟩,?_⟩;refine cP tK (eI lv w.s hs) ?_;refine br ?_ ?_<;>intro ha
  ·have ha:=eZ.1 ha;rw [bh,ap ha];refine dS ?_;refine ⟨jt w,⟨by omega,aR hw⟩,?_⟩;exact ⟨_,ax,rfl⟩
  ·cases hi:cy (aA lv) w.s with
   | none=>have:=eZ.2 hi;rw [ha] at this;cases this
   | some i=>
   rw [ai (by rw [hi];simp)] at bh;refine ⟨by simp [bo,lx];omega,⟨by simp [bo,lx,maxLen];omega,by simp [bo,lx];omega⟩,?_⟩;exact rE ⟨_,by omega,e + 1,rfl,by omega,bh,rfl⟩ (bl (wB2 (nxt ay (by omega)) (El hw hi)))
 ·have hge:e=l.length:=by have:=hL;simp [az] at this;omega
  rw [hge,List.drop_length,List.take_length];refine cP UX (Ek lv.length f (by omega) (lx (aA lv) l) (fun i hi=>by have:=Og hi (by omega);omega) (by simp [lx];omega)) ?_;rw [<- iJ];exact ⟨_,ax,rfl⟩
theorem Sj {S:Sch} {e:Nat} {x:Wd × Ty} (h:S.types[e]? = some x):(tL S)[e]? = some x.1.s:=by simp [tL,aA,si,h]
abbrev Qk (S:Sch) (s:ByteArray) (e:Nat):St:=
 ⟨[(1,⟨[],.v (.string s)⟩),aF 2 0,aw 5 e],[dQ S],[]⟩
theorem jR (S:Sch) (s:ByteArray) (hl:S.types.length<=1099511627776) :
  EvP prog 81 [.agg (dQ S),.v (.string s)] (.v (.int .i64 (oz (cy (tL S) s)))):=by
 have hN:=di S.types;have jv:=jB S;have iN:=@Sj S;obtain ⟨ae,order,types,⟨rh,rp⟩⟩:=S;simp only at hl hN jv iN;refine eG 23 [.tmp 4] func81 rfl ntmps81 rfl fun _ _ _ _=>?_;refine lI (fun j st=>∃ e:Nat,st=Qk ⟨ae,order,types,.mk rh rp⟩ s e/\e<=types.length/\(∀ j,j < e->(tL ⟨ae,order,types,.mk rh rp⟩)[j]? ≠ some s)/\j=types.length - e) ⟨0,rfl,by omega,fun _ h=>by omega,rfl⟩ (bl wB) ?_;rintro j st ⟨e,rfl,he,fM,rfl⟩;refine br ?_ ?_<;>intro hL
 ·have ay:e < types.length:=by have:=hL;simp [hN] at this;exact this
  obtain ⟨x,hx⟩:=gX ay;have hg:=iN hx;obtain ⟨xw,⟨xh,xp⟩⟩:=x;refine iX (dNms_get hx) ?_;refine br ?_ ?_<;>intro hq
  ·have hq:xw.s=s:=sU hq;rw [zj (p:=e) (by rw [hg,hq]) (fun j hj=>Nat.le_of_not_lt fun hl=>fM j hl hj)];exact (rfl:_=_)
  ·have hq:¬ xw.s=s:=sU hq;refine ⟨Qk ⟨ae,order,types,.mk rh rp⟩ s (e + 1),(bl (cQ (nxt ay (by omega)))),types.length - (e + 1),by omega,e + 1,rfl,by omega,fun j hj=>?_,rfl⟩;rcases jU hj with hj | rfl
   ·exact fM j hj
   ·rw [hg];simpa using hq
 ·have hge:e=types.length:=sW hN hL;rw [Gb (fun j hj=>fM j (by omega))];exact (rfl:_=_)
abbrev WZ (S:Sch) (l:List Wd) (e:Nat):St:=
 ⟨[bc 1 2 (bw l),aF 2 0,aF 4 1,aw 5 e],[dQ S,[.v (.int .i64 0),.v (.int .i64 0)]],[]⟩
theorem BQ (S:Sch) (hs:wdsWt S.ae<=1099511627776) (l:List Wd) (hl:wdsWt l<=1099511627776) :
  EvP prog 200 [.agg (dQ S),.sl 2 (bw l) none] (labW (aA S.ae) l).d:=by
 have oP:=bi l;obtain ⟨ae,order,types,⟨rh,rp⟩⟩:=S;simp only at hs;refine eG 28 [.cell 4 44] func200 rfl ntmps200 rfl fun _ _ _ _=>?_;refine lI (fun j st=>∃ e:Nat,st=WZ ⟨ae,order,types,.mk rh rp⟩ l e/\e<=l.length/\labW (aA ae) l=labW (aA ae) (l.drop e)/\j=l.length - e) ⟨0,rfl,by omega,rfl,rfl⟩ (bl wB) ?_;rintro j st ⟨e,rfl,he,aP,rfl⟩;rw [aP];refine br ?_ ?_<;>intro hL
 ·have ay:e < l.length:=by simpa [az] using hL
  obtain ⟨w,hw⟩:=gX ay;have bh:=qN (L:=aA ae) hw;refine dI ?_;refine ⟨jt w,⟨by omega,aR hw⟩,?_⟩;refine cD tK (eI ae w.s hs) ?_;refine br ?_ ?_<;>intro ha
  ·have ha:=eZ.1 ha;rw [bh,ap ha];refine ⟨jt w,⟨by omega,aR hw⟩,?_⟩;exact ⟨_,ax,rfl⟩
  ·rw [ai (fun hn=>by have:=eZ.2 hn;rw [ha] at this;cases this)] at bh;exact rE ⟨_,by omega,e + 1,rfl,by omega,bh,rfl⟩ (bl (cQ (nxt ay (by omega))))
 ·have hge:e=l.length:=by have:=hL;simp [az] at this;omega
  rw [hge,List.drop_length];exact ⟨_,ax,rfl⟩
def gp (l:List Ty):List (List DV):=l.map dB
theorem dm (l:List Ty):(gp l).length=l.length:=by simp [gp]
theorem jE {l:List Ty} {j:Nat} {t:Ty} (h:l[j]? = some t):(gp l)[j]? = some (dB t):=by simp [gp,h]
def fj (S:Sch):List Ty:=S.types.map fun x=>x.2
def fk (S:Sch):List Ty:=fj S ++ [S.root]
abbrev W0 (S:Sch) (q e:Nat):St:=
 ⟨[aF 1 0,(3,⟨[],.sl 9 (gp ((fj S).take e)) (some 0)⟩),aw 4 e],[dQ S],[⟨q,29,9,none⟩]⟩
theorem BR (S:Sch) (hl:S.types.length<=1099511627776) :
  EvP prog 34 [.agg (dQ S)] (.sl 9 (gp (fk S)) none):=by
 have hN:=di S.types;obtain ⟨ae,order,types,⟨rh,rp⟩⟩:=S;simp only at hl hN;refine eG 26 [.tmp 2] func34 rfl ntmps34 rfl fun _ _ _ _=>?_;refine lJ (fun e=>W0 ⟨ae,order,types,.mk rh rp⟩ e e) types.length (dA 1 ⟨0,29,9,none⟩ rfl rfl rfl nY rfl rfl jX) ?_;intro e he;have jv:(gp ((fj ⟨ae,order,types,.mk rh rp⟩).take e)).length=e:=by simp [gp,fj];omega
 refine br ?_ ?_<;>intro hL
 ·have ay:e < types.length:=by have:=hL;simp [hN] at this;exact this
  obtain ⟨x,hx⟩:=gX ay
  have gO:gp ((fj ⟨ae,order,types,.mk rh rp⟩).take e) ++ [dB x.2]=gp ((fj ⟨ae,order,types,.mk rh rp⟩).take (e + 1)):=by
   rw [List.take_add_one];simp [fj,hx,gp]
  obtain ⟨xw,⟨xh,xp⟩⟩:=x;refine iX (dNms_get hx) ?_;refine ⟨jv,⟨by rw [jv];simp [maxLen];omega,by rw [jv];simp;omega⟩,?_⟩;exact rE ⟨_,by omega,e + 1,rfl,by omega,rfl⟩ (wkB 1 (wA2 (nxt ay (by omega)) gO) (wB2 (nxt ay (by omega)) gO))
 ·have hge:e=types.length:=sW hN hL;have GO:gp ((fj ⟨ae,order,types,.mk rh rp⟩).take e) ++ [dB (.mk rh rp)]=gp (fk ⟨ae,order,types,.mk rh rp⟩):=by grind [fj,fk,gp]
  refine ⟨jv,⟨by rw [jv];simp [maxLen];omega,by rw [jv];simp;omega⟩,?_⟩;rw [<- GO];exact ⟨_,ax,rfl⟩
mutual
def flatT:Ty->List Ty
 | .mk h ps=>if h.ag=9 then [] else .mk h ps :: flatP ps
def flatP:Pts->List Ty
 | .nil=>[]
 | .cons p t r=>(if p.bare then [] else flatT t) ++ flatP r
end
mutual
theorem je:∀ t:Ty,(flatT t).length=t.nn
 | .mk h ps=>by
  have:=qV ps
  grind [flatT,Ty.nn]
theorem qV:∀ ps:Pts,(flatP ps).length=ps.nn
 | .nil=>rfl
 | .cons p t r=>by
  have:=je t;have:=qV r
  grind [flatP,Pts.nn]
end
theorem Oh {P:Program} {f:FuncId} {args:List DV} {e:Nat} {es:List (List DV)} (h:Ev P f args [] [] (fun r _ _=>r = .sl e es none∨(es=[]/\r = .v (.slice none 0 0)))):EvP P f args (.sl e es none):=by
 intro E w vs hE ht hv;refine (h E w vs hE ht hv).mono ?_;rintro e' w' ⟨v,rfl,hM,hs,d,os,E',h1,h2,h3,h4,h5,h6⟩;rcases h6 with rfl | ⟨rfl,rfl⟩
 ·exact ⟨v,rfl,hM,hs,_,os,E',h1,h2,h3,h4,h5,rfl⟩
 ·refine ⟨v,rfl,hM,hs,.sl e [] none,os,E',h1,h2,h3,h4,?_,rfl⟩;unfold Rv at h5 ⊢;exact ⟨_,0,0,h5.1,⟨rfl,aU _⟩,fun hn=>(hn rfl).elim,fun k hk=>by cases hk⟩
abbrev Sk (t:Ty) (L:List Ty) (q e:Nat):St:=
 ⟨[aF 1 0,(3,⟨[],.sl 9 (gp L) (some 0)⟩),aw 4 e],[dB t],[⟨q,29,9,none⟩]⟩
theorem nd:∀ (k:Nat) (t:Ty),t.wt<=k->t.wt<=1099511627776 ->
  EvP prog 35 [.agg (dB t)] (.sl 9 (gp (flatT t)) none)
 | 0,t,hn,_=>by have:=t.dE;omega
 | k + 1,.mk h ps,hn,bO=>by
  simp only [Ty.wt,Hd.wt] at hn bO;have ke:=ps.eV;have hc:=ps.dP;have qf:=ps.fH;have IG:=qV ps;refine Oh ?_;refine yL (s:=false) (bt:=[]) (mu:=[9]) (hbt:=fun p hp=>by cases hp) (fr:=false) (P:=prog) tt AS 5000 34 [.tmp 2] func35 rfl ntmps35 rfl (nL rfl) (fun _ _ _ _=>?_);refine br ?_ ?_<;>intro h9
  ·have h9:h.ag=9:=sU h9;have:flatT (.mk h ps)=[]:=by simp [flatT,h9]
   exact .inr ⟨by rw [this];rfl,rfl⟩
  have h9:¬ h.ag=9:=sU h9;have Ql:flatT (.mk h ps) = .mk h ps :: flatP ps:=by simp [flatT,h9]
  refine R7 rfl rfl rfl rfl rfl rfl rfl rfl ?_
  refine aY (fun j st=>∃ (e q:Nat) (L:List Ty),st=Sk (.mk h ps) L q e/\q=L.length/\e<=ps.len/\flatT (.mk h ps)=L ++ flatP (ps.drop e)/\j=ps.len - e) ps.len
   (Sk (.mk h ps) [.mk h ps] 1 0) (wkB 1 nY jX) ⟨0,1,_,rfl,rfl,by omega,Ql,by omega⟩ ?_
  rintro j st ⟨e,q,L,rfl,hq,he,bq,rfl⟩
  have W1:L.length<=1 + ps.nn:=by
   have:=congrArg List.length bq;rw [Ql] at this;simp at this;omega
  refine br ?_ ?_<;>intro hL
  ·have ay:e < ps.len:=by simpa [aJ] using hL
   obtain ⟨p,t,hx⟩:=Pts.dO ay;have A5:=Pts.fD (mG hx);rw [Pts.drop_cons hx] at bq;simp only [flatP] at bq;obtain ⟨u,us⟩:=t;refine iX (bI hx) ?_;refine br ?_ ?_<;>intro hB
   ·have hB:p.bare=false:=sU hB;have bq:flatT (.mk h ps)=(L ++ flatT (.mk u us)) ++ flatP (ps.drop (e + 1)):=by rw [bq,hB,List.append_assoc];all_goals rfl
    have R0:L.length + (flatT (.mk u us)).length<=1 + ps.nn:=by
     have:=congrArg List.length bq;rw [Ql] at this;simp at this;omega
    have gO:gp L ++ gp (flatT (.mk u us))=gp (L ++ flatT (.mk u us)):=by simp [gp]
    refine iX (bI hx) ?_;refine cP Np (nd k (.mk u us) (by omega) (by omega)) ?_;refine ⟨by rw [dm,hq],⟨by simp only [dm,maxLen];omega,by simp only [dm];omega⟩,?_⟩;exact ⟨Sk (.mk h ps) (L ++ flatT (.mk u us)) (q + (gp (flatT (.mk u us))).length) (e + 1),(wkB 1 (wA2 (nxt ay (by omega)) gO) (wB2 (nxt ay (by omega)) gO)),ps.len - (e + 1),by omega,e + 1,_,_,rfl,by rw [dm,List.length_append,hq],by omega,bq,rfl⟩
   ·have hB:p.bare=true:=sU hB;rw [hB] at bq;exact rE ⟨_,by omega,e + 1,q,L,rfl,hq,by omega,bq,rfl⟩ (wkB 1 (nz (nxt ay (by omega))) (cQ (nxt ay (by omega))))
  ·have hge:e=ps.len:=by simp [aJ] at hL;omega
   rw [hge,Pts.cH] at bq;simp only [flatP,List.append_nil] at bq;rw [bq];exact ⟨_,ax,.inl rfl⟩
theorem uS (S:Sch) (hl:S.types.length<=1099511627776) (hr:∀ x∈S.types,sj S x.2=true):∀ (k i:Nat),i < S.types.length->k<=99 ->
  EvP prog 80 [.agg (dQ S),.v (.int .i64 i),.v (.int .i64 k)] (.v (.int .i64 (oz (endI S (k + 1) i))))
 | k,i,hi,hk=>by
  have hN:=di S.types;have zl:=fun s=>jR S s hl;have ih:∀ k' j,k=k' + 1->j < S.types.length->EvP prog 80 [.agg (dQ S),.v (.int .i64 j),.v (.int .i64 k')] (.v (.int .i64 (oz (endI S (k' + 1) j)))):=fun k' j he hj=>uS S hl hr k' j hj (by omega);obtain ⟨x,hx⟩:∃ x,S.types[i]? = some x:=⟨_,gE hi⟩;have CP:=hr x (mG hx);have jv:=jB S;obtain ⟨xw,⟨xh,xp⟩⟩:=x;have hE:endI S (k + 1) i=if xh.ag=9 then endI S k ((cy (tL S) xh.name.s).getD 0) else some i:=by rw [endI,hx];all_goals rfl
  obtain ⟨ae,order,types,⟨rh,rp⟩⟩:=S;simp only at hl hN hi hx CP jv;refine eG 32 [.tmp 6] func80 rfl ntmps80 rfl fun _ _ _ _=>?_;refine iX (dNms_get hx) ?_;refine br ?_ ?_<;>intro h9
  ·have h9:¬ xh.ag=9:=sU h9;rw [ai h9] at hE;rw [hE];exact (rfl:_=_)
  have h9:xh.ag=9:=sU h9;rw [ap h9] at hE;rw [hE];refine br ?_ ?_<;>intro h1
  ·have h1:k=0:=by have:=h1;simp at this;omega
   subst h1;exact (rfl:_=_)
  have h1:1<=k:=by have:=h1;simp at this;omega
  obtain ⟨k',rfl⟩:∃ k',k=k' + 1:=⟨k - 1,by omega⟩;have MD:=of_decide_eq_true CP h9;obtain ⟨j,hj⟩:∃ j,cy (tL ⟨ae,order,types,.mk rh rp⟩) xh.name.s=some j:=Option.ne_none_iff_exists'.1 MD;have pX:=(cF hj).1;rw [jv] at pX;have hf:=zl xh.name.s;rw [hj] at hf ⊢;have gq:IntKind.i64.wrap (((k' + 1:Nat):Int) - 1)=(k':Int):=by rw [wrap64 (by omega) (by omega)];omega
  refine dI ?_;refine iX (dNms_get hx) ?_;refine cD Nu hf ?_;refine cD Rn (ih k' j rfl pX) ?_ (pZ gq);exact (rfl:_=_)
theorem qW {S:Sch}:∀ {k i j:Nat},endI S k i=some j->endI S (k + 1) i=some j
 | 0,i,j,h=>by cases h
 | k + 1,i,j,h=>by
  rw [endI] at h ⊢
  cases hx:S.types[i]? with
  | none=>rw [hx] at h;cases h
  | some x=>
   rw [hx] at h;simp only at h ⊢;split at h
   ·rename_i h9;rw [ap h9];exact qW h
   ·rename_i h9;rw [ai h9];exact h
def uT (S:Sch) (k:Nat):List Bool:=(List.range S.types.length).map fun i=>(endI S k i).isSome
theorem pB (S:Sch) (k:Nat):(uT S k).length=S.types.length:=by simp [uT]
theorem uU {S:Sch} {k i:Nat} (hi:i < S.types.length):(uT S k).getD i false=(endI S k i).isSome:=by grind [uT]
theorem Oi (S:Sch) (k:Nat):NI (uT S k) (uT S (k + 1)):=by
 intro i h;by_cases hi:i < S.types.length
 ·rw [uU hi] at h ⊢;obtain ⟨j,hj⟩:=Option.isSome_iff_exists.1 h;rw [qW hj];rfl
 ·grind [pB]
theorem Lq {S:Sch} {k:Nat} (h:uT S k=uT S (k + 1)):∀ i,endI S (k + 2) i=endI S (k + 1) i:=by
 intro i
 have key:∀ {j:Nat},j < S.types.length->(endI S k j).isSome=(endI S (k + 1) j).isSome:=fun {j} hj=>by
  rw [<- uU hj,<- uU hj,h]
 have same:∀ j,endI S (k + 1) j=endI S k j:=fun j=>by
  cases h1:endI S k j with
  | some m=>exact qW h1
  | none=>
   cases h2:endI S (k + 1) j with
   | none=>rfl
   | some m=>grind [endI]
 grind [endI]
theorem xW (S:Sch):∀ k,(∀ i,endI S (k + 1) i=endI S k i)∨k<=ur (uT S k)
 | 0=>.inr (Nat.zero_le _)
 | k + 1=>by
  rcases xW S k with h | h
  ·grind [endI]
  ·rcases (uu (by rw [pB,pB]) (Oi S k)).1 with h2 | h2
   ·exact .inl (Lq h2)
   ·exact .inr (by omega)
theorem BS {S:Sch}:∀ {k:Nat},S.types.length + 1<=k->∀ i,endI S k i=endI S (S.types.length + 1) i:=by
 have bh:∀ i,endI S (S.types.length + 2) i=endI S (S.types.length + 1) i:=fun i=>by
  rcases xW S (S.types.length + 1) with h | h
  ·exact h i
  ·grind [FY,uT,pB]
 have key:∀ d i,endI S (S.types.length + 1 + (d + 1)) i=endI S (S.types.length + 1 + d) i:=by
  intro d
  induction d with
  | zero=>exact bh
  | succ d ih=>grind [endI]
 intro k hk i;obtain ⟨d,rfl⟩:∃ d,k=S.types.length + 1 + d:=⟨k - (S.types.length + 1),by omega⟩;clear hk
 induction d with
 | zero=>rfl
 | succ d ih=>rw [key,ih]
theorem uV (S:Sch) (hl:S.types.length<=64) (hr:∀ x∈S.types,sj S x.2=true) (i:Nat) (hi:i < S.types.length) :
  EvP prog 80 [.agg (dQ S),.v (.int .i64 i),.v (.int .i64 (99:Nat))] (.v (.int .i64 (oz (endI S (S.types.length + 1) i)))):=by
 have:=uS S (by omega) hr 99 i hi (aU _)
 rwa [BS (by omega)] at this
abbrev W2 (S:Sch) (k n e:Nat):St:=
 ⟨[aF 2 0,aw 5 k,aw 6 n,aw 7 e],[dQ S],[]⟩
theorem uW (S:Sch) (hl:S.types.length<=64) (hs:nmsWt S.types<=1099511627776) (hr:∀ x∈S.types,sj S x.2=true) (s:ByteArray) (i k:Nat) (hi:cy (tL S) s=some i) (hk:endI S (S.types.length + 1) i=some k) :
  EvP prog 37 [.agg (dQ S),.v (.string s)] (.v (.int .i64 (firstA S k))):=by
 have hN:=di S.types;have IL:=(cF hi).1;rw [jB] at IL;have oD:=(pu hk).1;have hf:=jR S s (by omega);have he:=uV S hl hr i IL;rw [hi] at hf;rw [hk] at he;have hfa:=@mz S;have F2:=xM S;obtain ⟨ae,order,types,⟨rh,rp⟩⟩:=S;simp only at hl hs hN IL oD hfa F2;refine eG 29 [.tmp 4] func37 rfl ntmps37 rfl fun _ _ _ _=>?_;refine dI ?_;refine cD Nu hf ?_;refine cD Rn he ?_;refine lJ (fun e=>W2 ⟨ae,order,types,.mk rh rp⟩ k (firstA ⟨ae,order,types,.mk rh rp⟩ e) e) k (bl wB) ?_;intro e hek;refine br ?_ ?_<;>intro hL
 ·have ay:e < k:=sU hL;obtain ⟨x,hx⟩:∃ x,types[e]? = some x:=⟨_,gE (by omega)⟩;have PN:=fO (mG hx);have h1:=hfa hx;have h2:=F2 e;have h3:=F2 (e + 1);have h4:=je x.2;obtain ⟨xw,⟨xh,xp⟩⟩:=x;simp only at PN h1 h4;refine iX (dNms_get hx) ?_;refine cP Np (nd _ (.mk xh xp) (aU _) (by omega)) ?_;have sD:IntKind.i64.wrap ((firstA ⟨ae,order,types,.mk rh rp⟩ e:Int) + (gp (flatT (.mk xh xp))).length)=(firstA ⟨ae,order,types,.mk rh rp⟩ (e + 1):Int):=by grind [dm,wrap64]
  exact rE ⟨_,by omega,e + 1,rfl,by omega,rfl⟩ (bl (wB2 sD (nxt ay (by omega))))
 ·have hge:e=k:=by have:=hL;simp at this;omega
  subst hge;exact (rfl:_=_)
theorem Ge {S:Sch} {e:Nat} {x:Wd × Ty} (h:S.types[e]? = some x):(si S)[e]? = some x.1:=by simp [si,h]
abbrev W3 (S:Sch) (e:Nat):St:=
 ⟨[aF 1 0,aF 2 1,aw 3 e],[dQ S,[.v (.int .i64 0),.v (.int .i64 0)]],[]⟩
theorem zx (S:Sch) (hs:nmsWt S.types<=1099511627776) :
  EvP prog 159 [.agg (dQ S)] (dV S).d:=by
 have hN:=di S.types;have iJ:=iZ S.types;have jv:=F7 S;have hF:=dV.eq_1 S;have iN:=@Ge S;have zl:=fun s=>jR S s (by omega);have Wc:tL S=aA (si S):=rfl;obtain ⟨ae,order,types,⟨rh,rp⟩⟩:=S;simp only at hs hN iJ jv iN hF;generalize hQ:si ⟨ae,order,types,.mk rh rp⟩=Q at jv hF iN Wc;refine eG 47 [.cell 2 44] func159 rfl ntmps159 rfl fun _ _ _ _=>?_;generalize dV ⟨ae,order,types,.mk rh rp⟩=F at hF ⊢;refine br ?_ ?_<;>intro h
 ·have h:64 < types.length:=by simp [hN] at h;omega
  obtain ⟨x,hx⟩:∃ x,types[64]? = some x:=⟨_,gE h⟩;have RV:=iN hx;rw [ap h,jQ RV] at hF;obtain ⟨xw,⟨xh,xp⟩⟩:=x;refine iX (dNms_get hx) ?_;refine ⟨_,?_,rfl⟩;rw [hF];exact ax
 have h:¬ 64 < types.length:=by simp [hN] at h;omega
 rw [ai h] at hF;refine lI (fun j st=>∃ e:Nat,st=W3 ⟨ae,order,types,.mk rh rp⟩ e/\e<=types.length/\enumL Q 0 Q=enumL Q e (Q.drop e)/\j=types.length - e) ⟨0,rfl,by omega,rfl,rfl⟩ (bl wB) ?_;rintro j st ⟨e,rfl,he,aP,rfl⟩;rw [aP] at hF;refine br ?_ ?_<;>intro hL
 ·have ay:e < types.length:=by have:=hL;simp [hN] at this;exact this
  obtain ⟨x,hx⟩:=gX ay;have PN:=fO (mG hx);have hq:=iN hx;have bh:=og hq;obtain ⟨p,hp,IC⟩:=Lo hq;obtain ⟨xw,⟨xh,xp⟩⟩:=x;simp only [Wd.wt] at PN hq bh hp IC;have hf:=zl xw.s;rw [Wc,hp] at hf;have hlab:=lh [xw] (by simp only [wdsWt,Wd.wt];omega);have CO:bF [xw]=if aZ xw.s then (0,0) else (9,xw.a):=by simp [bF,badWd]
  refine iX (dNms_get hx) ?_;refine cP JU hlab ?_;refine br ?_ ?_<;>intro hN
  ·have hN:(bF [xw]).1≠0:=sU hN
   cases bL:aZ xw.s with
   | true=>rw [CO,bL] at hN;exact absurd rfl hN
   | false=>
   rw [bL] at CO;have CO:bF [xw]=(9,xw.a):=CO;have hf9:aG Q e xw=9:=by simp [aG,bL]
   rw [bh,hf9,ap (by decide)] at hF;refine ⟨_,?_,rfl⟩;rw [hF,CO];exact ax
  ·have hN:(bF [xw]).1=0:=sU hN
   cases bL:aZ xw.s with
   | false=>rw [CO,bL] at hN;exact absurd hN (by simp)
   | true=>
   refine cP Nu hf ?_;refine br ?_ ?_<;>intro h2
   ·have h2:p < e:=by have:=h2;simp [oz] at this;exact this
    have hf10:aG Q e xw=10:=by simp [aG,bL,IC.1 h2]
    rw [bh,hf10,ap (by decide)] at hF;refine ⟨_,?_,rfl⟩;rw [hF];exact ax
   ·have h2:¬ p < e:=by have:=h2;simp [oz] at this;omega
    have hd:bX (Q.take e) xw.s=false:=by grind
    have hf0:aG Q e xw=0:=by simp [aG,bL,hd]
    rw [hf0,ai (by simp)] at bh;exact rE ⟨_,by omega,e + 1,rfl,by omega,by rw [aP,bh],rfl⟩ (bl (cQ (nxt ay (by omega))))
 ·have hge:e=types.length:=sW hN hL;rw [hge,<- jv,List.drop_length] at hF;refine ⟨_,?_,rfl⟩;rw [hF];exact ax
abbrev Gf (S:Sch) (t:Ty) (e:Nat):St:=
 ⟨[aF 2 0,aF 3 1,aF 4 2,aw 5 e],[dQ S,dB t,[.v (.int .i64 0),.v (.int .i64 0)]],[]⟩
theorem pD (S:Sch) (hl:S.types.length<=1099511627776) (hs:wdsWt S.ae<=1099511627776):∀ (k:Nat) (t:Ty),t.wt<=k->t.wt<=1099511627776 ->
  EvP prog 161 [.agg (dQ S),.agg (dB t)] (kN S t).d
 | 0,t,hn,_=>by have:=t.dE;omega
 | k + 1,.mk h ps,hn,bO=>by
  have ih:=pD S hl hs k;simp only [Ty.wt,Hd.wt] at hn bO;have ke:=ps.eV;have hf:=jR S h.name.s hl;have Tn:=fun l hl=>BQ S hs l hl;have hS:kN S (.mk h ps)=if h.ag=9/\cy (tL S) h.name.s=none then (15,h.name.a) else knP ⟨aA S.ae,[],[],[],fun _ _=>false⟩ (tL S) ps:=by rw [kN,knT]
  have Wb:knP ⟨aA S.ae,[],[],[],fun _ _=>false⟩ (tL S) ps=knP ⟨aA S.ae,[],[],[],fun _ _=>false⟩ (tL S) (ps.drop 0):=by rw [Pts.drop]
  have hK:∀ e p u,ps.toList[e]? = some (p,u)->knP ⟨aA S.ae,[],[],[],fun _ _=>false⟩ (tL S) (ps.drop e)=if (labW (aA S.ae) p.label).1≠0 then labW (aA S.ae) p.label else if (labW (aA S.ae) p.cl).1≠0 then labW (aA S.ae) p.cl else if p.bare then knP ⟨aA S.ae,[],[],[],fun _ _=>false⟩ (tL S) (ps.drop (e + 1)) else if (kN S u).1≠0 then kN S u else knP ⟨aA S.ae,[],[],[],fun _ _=>false⟩ (tL S) (ps.drop (e + 1)):=fun e p u hx=>by
   rw [Pts.drop_cons hx,knP];all_goals rfl
  have Yz:knP ⟨aA S.ae,[],[],[],fun _ _=>false⟩ (tL S) .nil=(0,0):=by rw [knP]
  generalize knP ⟨aA S.ae,[],[],[],fun _ _=>false⟩ (tL S)=KP at hS Wb hK Yz;obtain ⟨ae,order,types,⟨rh,rp⟩⟩:=S;refine eG 64 [.cell 4 44] func161 rfl ntmps161 rfl fun _ _ _ _=>?_;generalize kN ⟨ae,order,types,.mk rh rp⟩ (.mk h ps)=F at hS ⊢;refine have body:=?_;br (fun h9=>Jq Nu hf ax rfl (br (fun hx=>?_) (fun hx=>aY (fun j st=>∃ e:Nat,st=Gf ⟨ae,order,types,.mk rh rp⟩ (.mk h ps) e/\e<=ps.len/\F=KP (ps.drop e)/\j=ps.len - e) ps.len (Gf ⟨ae,order,types,.mk rh rp⟩ (.mk h ps) 0) (bl wB) ⟨0,rfl,by omega,?_,by omega⟩ body))) (fun h9=>aY (fun j st=>∃ e:Nat,st=Gf ⟨ae,order,types,.mk rh rp⟩ (.mk h ps) e/\e<=ps.len/\F=KP (ps.drop e)/\j=ps.len - e) ps.len (Gf ⟨ae,order,types,.mk rh rp⟩ (.mk h ps) 0) (bl wB) ⟨0,rfl,by omega,?_,by omega⟩ body)
  rotate_left
  ·have h9:h.ag=9:=sU h9;have hx:cy (tL ⟨ae,order,types,.mk rh rp⟩) h.name.s=none:=eZ.1 (by simpa [pickB] using hx);rw [ap ⟨h9,hx⟩] at hS;refine ⟨_,?_,rfl⟩;rw [hS];exact ax
  ·have hx:¬ cy (tL ⟨ae,order,types,.mk rh rp⟩) h.name.s=none:=fun hn=>by
    have h3:=eZ.2 hn;simp [pickB] at hx;have h3:=of_decide_eq_true h3;omega
   rw [ai (fun hc=>hx hc.2),Wb] at hS;exact hS
  ·grind
  rintro j st ⟨e,rfl,he,aP,rfl⟩;refine br ?_ ?_<;>intro hL
  ·have ay:e < ps.len:=by simpa [aJ] using hL
   obtain ⟨p,t,hx⟩:=Pts.dO ay;have A5:=Pts.fD (mG hx);have hk:=hK e p t hx;have hw1:wdsWt p.label + wdsWt p.cl<=p.wt:=by simp only [Ph.wt];omega
   obtain ⟨u,us⟩:=t;refine iX (bI hx) ?_;refine cP PA (Tn p.label (by omega)) ?_;refine br ?_ ?_<;>intro b1
   ·have b1:(labW (aA ae) p.label).1=0:=sU b1;rw [ai (by simp [b1])] at hk;refine cP PA (Tn p.cl (by omega)) ?_;refine br ?_ ?_<;>intro b2
    ·have b2:(labW (aA ae) p.cl).1=0/\p.bare=false:=by
      rw [ah] at b2;simpa using b2
     obtain ⟨b2,b3⟩:=b2;rw [ai (by simp [b2]),ai (by simp [b3])] at hk;refine cP JR (ih (.mk u us) (by omega) (by omega)) ?_;refine br ?_ ?_<;>intro b4
     ·have b4:(kN ⟨ae,order,types,.mk rh rp⟩ (.mk u us)).1≠0:=sU b4;rw [ap b4] at hk
      (refine ⟨_,?_,rfl⟩;rw [aP,hk];exact ax)
     ·have b4:(kN ⟨ae,order,types,.mk rh rp⟩ (.mk u us)).1=0:=sU b4;rw [ai (by simp [b4])] at hk;exact rE ⟨_,by omega,e + 1,rfl,by omega,by rw [aP,hk],rfl⟩ (bl (cQ (nxt ay (by omega))))
    ·refine br ?_ ?_<;>intro b4
     ·have b4:(labW (aA ae) p.cl).1≠0:=sU b4;rw [ap b4] at hk
      (refine ⟨_,?_,rfl⟩;rw [aP,hk];exact ax)
     ·have b4:(labW (aA ae) p.cl).1=0:=sU b4
      have b3:p.bare=true:=by
       rw [ah] at b2;simpa [b4] using b2
      rw [ai (by simp [b4]),ap b3] at hk;exact rE ⟨_,by omega,e + 1,rfl,by omega,by rw [aP,hk],rfl⟩ (bl (cQ (nxt ay (by omega))))
   ·have b1:¬ (labW (aA ae) p.label).1=0:=sU b1;rw [ap b1] at hk;refine br ?_ ?_<;>intro b2
    ·rw [ah] at b2;simp [b1] at b2
    ·refine br ?_ ?_<;>intro b4
     ·(refine ⟨_,?_,rfl⟩;rw [aP,hk];exact ax)
     ·simp [b1] at b4
  ·have hge:e=ps.len:=by simp [aJ] at hL;omega
   rw [hge,Pts.cH] at aP;refine ⟨_,?_,rfl⟩;rw [aP,Yz];exact ax
abbrev Gg (h:Hd) (ps:Pts) (e:Nat) (depth m:Int):St:=
 ⟨[aw 2 depth,aF 3 0,aF 4 1,aF 6 2,aw 7 e],[[.v (.int .i64 0),.v (.int .i64 0),.v (.int .i64 m)],dB (.mk h ps),[.v (.int .i64 0),.v (.int .i64 0),.v (.int .i64 0)]],[]⟩
theorem zy (k:Nat) (ih:y7 k) (h:Hd) (ps:Pts) (depth m:Int) (hk:ps.wt<=k) (bO:(Ty.mk h ps).wt<=1099511627776) (xc:0<=depth) (CN:depth<=25) (nq:0<=m) (iI:m<=512) :
  EvP prog 160 [wD (0,0) m,.agg (dB (.mk h ps)),.v (.int .i64 depth)] (wD (wrong (.mk h ps) depth m).1 (wrong (.mk h ps) depth m).2):=by
 have xK:=bO;simp only [Ty.wt,Hd.wt] at xK;have ke:=ps.eV;have Rx:=bi h.af;have p8:IntKind.i64.wrap (m + 1)=m + 1:=wrap64 (by omega) (by omega)
 have hW:∀ e a,EvP prog 195 [.agg [.v (.int .i64 0),.v (.int .i64 0),.v (.int .i64 (IntKind.i64.wrap (m + 1)))],.v (.int .i64 e),.v (.int .i64 a)] (wD (e,a) (m + 1)):=by
  intro e a;rw [p8];exact dL (0,0) (m + 1) e a
 have hS:=wrong.eq_def (.mk h ps) depth m;simp only at hS;refine eG 201 [.cell 6 248] func160 rfl ntmps160 rfl fun _ _ _ _=>?_;refine br ?_ ?_<;>intro c
 ·have c:24 < depth:=of_decide_eq_true c;refine cP fN (hW 6 h.aK) ?_;rw [ap c] at hS;refine ⟨_,?_,rfl⟩;rw [hS];exact ax
 have c:¬ 24 < depth:=of_decide_eq_false c;rw [ai c] at hS;refine br ?_ ?_<;>intro c
 ·have c:512 < IntKind.i64.wrap (m + 1):=of_decide_eq_true c;rw [p8] at c;refine cP fN (hW 8 h.aK) ?_;rw [ap c] at hS;refine ⟨_,?_,rfl⟩;rw [hS];exact ax
 have c:¬ 512 < IntKind.i64.wrap (m + 1):=of_decide_eq_false c;rw [p8] at c;rw [ai c] at hS;refine br ?_ ?_<;>intro c
 ·have c:h.ag < 1∨9 < h.ag:=by simpa [aq] using c
  refine cP fN (hW 14 h.aK) ?_;rw [ap c] at hS;refine ⟨_,?_,rfl⟩;rw [hS];exact ax
 have c:¬ (h.ag < 1∨9 < h.ag):=by simp [aq] at c;omega
 rw [ai c] at hS;refine cP Vh (Dt (.mk h ps) (by omega)) ?_;refine br ?_ ?_<;>intro c
 ·have c:tT (.mk h ps)=false:=by simpa [tT] using c
  refine cP fN (hW 19 h.aK) ?_;rw [ap c] at hS;refine ⟨_,?_,rfl⟩;rw [hS];exact ax
 have c:¬ tT (.mk h ps)=false:=by simpa [tT] using c
 rw [ai c] at hS;refine br ?_ ?_<;>intro c
 ·have c:(h.ag=2/\h.hi < h.lo)∨(h.ag=3/\(h.most < 0∨4096 < h.most)):=by simp [aq,ah] at c;omega
  refine cP fN (hW 20 h.aK) ?_;rw [ap c] at hS;refine ⟨_,?_,rfl⟩;rw [hS];exact ax
 have c:¬ ((h.ag=2/\h.hi < h.lo)∨(h.ag=3/\(h.most < 0∨4096 < h.most))):=by simp [aq,ah] at c;omega
 rw [ai c] at hS;refine br ?_ ?_<;>intro k9
 ·have k9:h.ag=9:=sU k9;refine cP FI (jL h.name.s (by simp only [Wd.wt] at xK;omega)) ?_;refine br ?_ ?_<;>intro q
  ·have q:aZ h.name.s=false:=by simpa [ah,k9] using q
   refine cP fN (hW 9 h.name.a) ?_;rw [ap ⟨k9,q⟩] at hS;refine ⟨_,?_,rfl⟩;rw [hS];exact ax
  ·have q:aZ h.name.s=true:=by simpa [ah,k9] using q
   rw [ai (by simp [q]),ai (by omega),ai (by omega),ai (by omega)] at hS;refine br (fun x=>?_) (fun _=>?_)
   ·have:=of_decide_eq_true x;omega
   refine br (fun x=>?_) (fun _=>?_)
   ·simp [aq] at x;omega
   refine br (fun x=>?_) (fun _=>?_)
   ·simp [aq] at x;omega
   refine ⟨_,?_,rfl⟩;rw [hS];exact (pZ p8)
 ·have k9:¬ h.ag=9:=sU k9;rw [ai (by simp [k9])] at hS;refine br ?_ ?_<;>intro k4
  ·have k4:h.ag=4:=of_decide_eq_true k4;rw [ap k4] at hS;refine br ?_ ?_<;>intro c
   ·have c:h.af=[]:=by simp [az] at c;exact c
    refine cP fN (hW 15 h.aK) ?_;refine ⟨_,?_,rfl⟩;rw [hS];simp only [gM,ap c];exact ax
   have c:¬ h.af=[]:=by simp [az] at c;exact c
   refine br ?_ ?_<;>intro c2
   ·have ay:64 < h.af.length:=by simp [az] at c2;omega
    obtain ⟨x,hx⟩:=gX ay;refine dS ?_;refine ⟨jt x,⟨by omega,aR hx⟩,?_⟩;refine cD fN (hW 8 x.a) ?_;refine ⟨_,?_,rfl⟩;rw [hS];simp only [gM,ai c,ap ay,hx,Option.getD_some];exact ax
   have c2:¬ 64 < h.af.length:=by simp [az] at c2;omega
   have hE:gM h=enumL h.af 0 h.af:=by simp only [gM,ai c,ai c2]
   rw [hE] at hS
   refine aY (fun j st=>∃ (e:Nat),st=Gg h ps e depth (m + 1)/\e<=h.af.length/\enumL h.af 0 h.af=enumL h.af e (h.af.drop e)/\j=h.af.length - e) h.af.length
    (Gg h ps 0 depth (m + 1)) (wkB 3 (nz p8) (cQ p8)) ⟨0,rfl,by omega,rfl,by omega⟩ ?_
   rintro j st ⟨e,rfl,he,aP,rfl⟩;refine br ?_ ?_<;>intro hL
   ·have ay:e < h.af.length:=by simpa [az] using hL
    obtain ⟨x,hx⟩:=gX ay;rw [drop_cons hx] at aP;simp only [enumL] at aP;refine cP Pz (nI h.af e x (by omega) hx) ?_;refine br ?_ ?_<;>intro hl
    ·have hl:aG h.af e x≠0:=sU hl;rw [ap hl] at aP;refine dS ?_;refine ⟨jt x,⟨by omega,aR hx⟩,?_⟩;refine cD fN (dL (0,0) (m + 1) _ x.a) ?_;refine ⟨_,?_,rfl⟩;rw [hS,aP];exact ax
    ·have hl:aG h.af e x=0:=sU hl;rw [ai (by simp [hl])] at aP;exact rE ⟨_,by omega,e + 1,rfl,by omega,aP,rfl⟩ (bl (cQ (nxt ay (by omega))))
   ·have hge:e=h.af.length:=by simp [az] at hL;omega
    rw [hge,List.drop_length] at aP;simp only [enumL] at aP;rw [aP] at hS;refine br (fun x=>?_) (fun _=>?_)
    ·simp [aq] at x;omega
    refine br (fun x=>?_) (fun _=>?_)
    ·simp [aq] at x;omega
    refine ⟨_,?_,rfl⟩;rw [hS];exact ax
  ·have k4:¬ h.ag=4:=of_decide_eq_false k4;rw [ai k4] at hS;refine br ?_ ?_<;>intro k5
   ·have k5:h.ag=5∨h.ag=6:=by simpa [aq] using k5
    rw [ap k5] at hS
    cases ps with
    | nil=>
     refine cP fN (hW 19 h.aK) ?_;refine ⟨_,?_,rfl⟩;rw [hS];simp only [wrongOne];exact ax
    | cons p t r=>
     cases r with
     | cons p2 t2 r2=>
      refine cP fN (hW 19 h.aK) ?_;refine ⟨_,?_,rfl⟩;rw [hS];simp only [wrongOne];exact ax
     | nil=>
      obtain ⟨u,us⟩:=t;simp only [wrongOne] at hS;simp only [Ty.wt,Pts.wt] at xK hk;refine ⟨_,⟨by omega,rfl⟩,?_⟩;refine br ?_ ?_<;>intro c
      ·have c:p.name.s=au:=by
        have:=c;simp [aq] at this;exact this
       refine ⟨_,⟨by omega,rfl⟩,?_⟩;refine cP JV (lg p eB (dB (.mk u us)) (dB cd) (by omega) (xf _ _ _ _ _) (xf _ _ _ _ _)) ?_;refine br ?_ ?_<;>intro q
       ·have q:bW p eB=false:=by simpa [aq,c] using q
        refine cP fN (hW 19 h.aK) ?_;rw [ap (by simp [q])] at hS;refine ⟨_,?_,rfl⟩;rw [hS];exact ax
       ·have q:bW p eB=true:=by simpa [aq,c] using q
        rw [ai (by simp [q,c])] at hS;refine br ?_ ?_<;>intro x
        ·have x:h.most < 0∨1024 < h.most:=by simpa [aq] using x
         refine cP fN (hW 20 h.aK) ?_;rw [ap x] at hS;refine ⟨_,?_,rfl⟩;rw [hS];exact ax
        ·have x:¬ (h.most < 0∨1024 < h.most):=by simp [aq] at x;omega
         rw [ai x] at hS;refine dS ?_;refine ⟨_,⟨by omega,rfl⟩,?_⟩;refine cD JQ (ih (.mk u us) (depth + 1) (m + 1) (by simp only [Ty.wt];omega) (by simp only [Ty.wt];omega) (by omega) (by omega) (by omega) (by omega)) ?_ (by repeat' (first | exact rfl | exact trivial | exact Or.inr (Or.inl ⟨_,rfl⟩) | exact Or.inr ⟨_,rfl⟩ | exact Or.inl ⟨rfl,rfl⟩ | exact Or.inl rfl | refine Or.inr ⟨_,_,rfl,Nat.zero_le _,rfl,?_⟩ | refine ⟨_,_,rfl,?_,?_⟩ | refine ⟨_,rfl,?_⟩ | exact congrArg (fun z=>DV.v (.int .i64 z)) p8 | exact congrArg (fun z=>DV.v (.int .i64 z)) (wrap64 (by omega) (by omega))| refine Or.inr (Or.inr (Or.inr ⟨_,_,rfl,?_⟩)) | exact Or.inl rfl | refine Or.inr ?_));refine ⟨_,?_,rfl⟩;rw [hS];exact ax
      ·have c:p.name.s≠au:=by
        have:=c;simp [aq] at this;exact this
       refine cP fN (hW 19 h.aK) ?_;rw [ap (.inl c)] at hS;refine ⟨_,?_,rfl⟩;rw [hS];exact ax
   ·have k5:¬ (h.ag=5∨h.ag=6):=by simp [aq] at k5;omega
    rw [ai k5] at hS;refine br ?_ ?_<;>intro k7
    ·have k7:h.ag=7∨h.ag=8:=by simpa [aq] using k7
     rw [ap k7] at hS;have hP:wrong (.mk h ps) depth m=ei h ps depth (m + 1):=by rw [hS];all_goals rfl
     refine cP Vi (y8 k ih h ps depth (m + 1) hk bO xc (by omega) (by omega) (by omega)) ?_ (pZ p8);refine ⟨_,?_,rfl⟩;rw [hP];exact ax
    ·have k7:¬ (h.ag=7∨h.ag=8):=by simp [aq] at k7;omega
     rw [ai k7] at hS;refine ⟨_,?_,rfl⟩;rw [hS];exact (pZ p8)
theorem xX:∀ k,y7 k
 | 0=>fun t depth m hk=>by have:=t.dE;omega
 | k + 1=>fun t depth m hk bO xc CN nq iI=>by
  obtain ⟨h,ps⟩:=t;have gq:=hk;simp only [Ty.wt,Hd.wt] at gq;exact zy k (xX k) h ps depth m (by omega) bO xc CN nq iI
theorem zA (t:Ty) (depth m:Int) (bO:t.wt<=1099511627776) (xc:0<=depth) (CN:depth<=25) (nq:0<=m) (iI:m<=512) :
  EvP prog 160 [wD (0,0) m,.agg (dB t),.v (.int .i64 depth)] (wD (wrong t depth m).1 (wrong t depth m).2):=
 xX t.wt t depth m (aU _) bO xc CN nq iI
def eaA:List Ty->Int->Ft × Int
 | [],m=>((0,0),m)
 | t :: r,m=>if (bM t m).1.1≠0 then bM t m else eaA r (bM t m).2
theorem Lr (z:Ty):∀ (l:List (Wd × Ty)) (m:Int),((eaA (l.map (fun x=>x.2) ++ [z]) m).1.1=0↔(eaR z l m).1.1=0)/\((eaR z l m).1.1≠0->eaA (l.map (fun x=>x.2) ++ [z]) m=eaR z l m)
 | [],m=>by
  show ((eaA [z] m).1.1=0↔(bM z m).1.1=0)/\((bM z m).1.1≠0->eaA [z] m=bM z m)
  grind [eaA,bM]
 | x :: r,m=>by
  have ih:=Lr z r (bM x.2 m).2
  grind [eaA,eaR,bM]
def eaK (F:Ty->Ft):List Ty->Ft
 | []=>(0,0)
 | t :: r=>if (F t).1≠0 then F t else eaK F r
theorem Ls (F:Ty->Ft) (z:Ty):∀ l:List (Wd × Ty),((eaK F (l.map (fun x=>x.2) ++ [z])).1=0↔(eaL F (F z) l).1=0)/\((eaL F (F z) l).1≠0->eaK F (l.map (fun x=>x.2) ++ [z])=eaL F (F z) l)
 | []=>by
  show ((eaK F [z]).1=0↔(F z).1=0)/\((F z).1≠0->eaK F [z]=F z)
  grind [eaK]
 | x :: r=>by
  have ih:=Ls F z r
  grind [eaK,eaL]
theorem Em {F:Ty->Ft}:∀ {l:List Ty},(eaK F l).1=0->∀ t∈l,(F t).1=0
 | [],_,t,ht=>by cases ht
 | u :: r,h,t,ht=>by
  rw [eaK] at h;split at h
  ·rename_i h1;exact (h1 h).elim
  ·rename_i h1;rcases cg ht with rfl | ht
   ·simpa using h1
   ·exact Em h t ht
theorem Gh (S:Sch):j5 S=if (latF S.ae S.order).1≠0 then latF S.ae S.order
 else if (dV S).1≠0 then dV S
 else if (eaA (fk S) 0).1.1≠0 then (eaA (fk S) 0).1
 else if (eaK (kN S) (fk S)).1≠0 then eaK (kN S) (fk S)
 else loopF S:=by
 have h1:=Lr S.root S.types 0;have h2:=Ls (kN S) S.root S.types;unfold j5 fk fj;by_cases a:(eaR S.root S.types 0).1.1=0
 ·grind
 ·grind
abbrev Sm (S:Sch) (T:List Ty) (m:Int) (e:Nat):St:=
 ⟨[aF 1 0,aF 2 1,bc 5 9 (gp T),aw 6 m,aw 7 e],[dQ S,[.v (.int .i64 0),.v (.int .i64 0)]],[]⟩
abbrev W4 (S:Sch) (T:List Ty) (e:Nat):St:=
 ⟨[aF 1 0,aF 2 1,bc 5 9 (gp T),aw 11 e],[dQ S,[.v (.int .i64 0),.v (.int .i64 0)]],[]⟩
abbrev Sn (S:Sch) (e:Nat):St:=
 ⟨[aF 1 0,aF 2 1,aw 13 e],[dQ S,[.v (.int .i64 0),.v (.int .i64 0)]],[]⟩
theorem zB {S:Sch} (hs:S.wt<=1099511627776):∀ t∈fk S,t.wt<=1099511627776:=by
 intro t ht;unfold Sch.wt at hs;rcases List.mem_append.1 ht with h | h
 ·obtain ⟨x,hx,rfl⟩:=List.mem_map.1 h;have:=fO hx;omega
 all_goals grind
theorem zC (S:Sch) (hs:S.wt<=1099511627776):EvP prog 106 [.agg (dQ S)] (j5 S).d:=by
 have Tp:=zB hs;unfold Sch.wt at hs;have hN:=di S.types;have iJ:=iZ S.types;have iu:=zw S.ae S.order (by omega) (by omega);have W5:=zx S (by omega);have iM:=BR S (by omega);have W6:=fun t ht=>pD S (by omega) (by omega) _ t (aU _) (Tp t ht);have hF:=Gh S;have hlen:(fk S).length=S.types.length + 1:=by simp [fk,fj]
 have hnF:(dV S).1=0->S.types.length<=64:=fun h=>by grind [dV]
 obtain ⟨ae,order,types,⟨rh,rp⟩⟩:=S;simp only at hs hN iJ iu W5 hlen hnF hF;generalize hT:fk ⟨ae,order,types,.mk rh rp⟩=T at Tp iM W6 hlen hF;refine eG 104 [.cell 2 44] func106 rfl ntmps106 rfl fun _ _ _ _=>?_;generalize j5 ⟨ae,order,types,.mk rh rp⟩=F at hF ⊢;refine cP U3 iu ?_;refine br ?_ ?_<;>intro h1
 ·have h1:(latF ae order).1≠0:=sU h1;rw [ap h1] at hF;refine ⟨_,?_,rfl⟩;rw [hF];exact ax
 have h1:(latF ae order).1=0:=sU h1;rw [ai (by simp [h1])] at hF;refine cP U4 W5 ?_;refine br ?_ ?_<;>intro h2
 ·have h2:(dV ⟨ae,order,types,.mk rh rp⟩).1≠0:=sU h2;rw [ap h2] at hF;refine ⟨_,?_,rfl⟩;rw [hF];exact ax
 have h2:(dV ⟨ae,order,types,.mk rh rp⟩).1=0:=sU h2;rw [ai (by simp [h2])] at hF;have Sp:=hnF h2;refine cP Uu iM ?_
 refine aY (fun j st=>∃ (e:Nat) (m:Int),st=Sm ⟨ae,order,types,.mk rh rp⟩ T m e/\e<=types.length + 1/\0<=m/\m<=512/\eaA T 0=eaA (T.drop e) m/\j=types.length + 1 - e) (types.length + 1)
  (Sm ⟨ae,order,types,.mk rh rp⟩ T 0 0) (bl wB) ⟨0,0,rfl,by omega,by omega,by omega,rfl,by omega⟩ ?_
 rintro j st ⟨e,m,rfl,he,nq,iI,aP,rfl⟩;refine br ?_ ?_<;>intro hL
 ·have ay:e < types.length + 1:=by have:=hL;simp [dm,hlen] at this;omega
  obtain ⟨t,ht⟩:∃ t,T[e]? = some t:=⟨_,gE (by omega)⟩;have KL:=Tp t (mG ht);have bh:eaA (T.drop e) m=if (bM t m).1.1≠0 then bM t m else eaA (T.drop (e + 1)) (bM t m).2:=by rw [drop_cons ht,eaA]
  have Sq:bM t m=if (wrong t 1 0).1.1≠0 then ((wrong t 1 0).1,m) else if 512 < m + t.cnt then ((8,t.h.aK),m + t.cnt) else ((0,0),m + t.cnt):=rfl
  have HH:=zA t 1 0 KL (by omega) (by omega) (by omega) (by omega);have bY:=jN _ t (aU _) KL;have Jt:=t.dP;obtain ⟨u,us⟩:=t;refine iX (jE ht) ?_;refine cP JQ HH ?_;refine br ?_ ?_<;>intro g1
  ·have g1:(wrong (.mk u us) 1 0).1.1≠0:=sU g1;rw [ap g1] at Sq;rw [aP,bh,Sq,ap g1,ap g1] at hF;refine ⟨_,?_,rfl⟩;rw [hF];exact ax
  have g1:(wrong (.mk u us) 1 0).1.1=0:=sU g1;rw [ai (by simp [g1])] at Sq;refine iX (jE ht) ?_;refine cP Nt bY ?_;have sD:IntKind.i64.wrap (m + ((Ty.mk u us).cnt:Int))=m + (Ty.mk u us).cnt:=wrap64 (by omega) (by omega);refine br ?_ ?_<;>intro g2
  ·have g2:512 < IntKind.i64.wrap (m + ((Ty.mk u us).cnt:Int)):=of_decide_eq_true g2;rw [sD] at g2;rw [ap g2] at Sq;rw [aP,bh,Sq,ap (by simp),ap (by simp)] at hF;refine iX (jE ht) ?_;refine ⟨_,?_,rfl⟩;rw [hF];exact ax
  ·have g2:¬ 512 < IntKind.i64.wrap (m + ((Ty.mk u us).cnt:Int)):=of_decide_eq_false g2;rw [sD] at g2;rw [ai g2] at Sq;rw [Sq,ai (by simp)] at bh;exact ⟨Sm ⟨ae,order,types,.mk rh rp⟩ T (m + (Ty.mk u us).cnt) (e + 1),(bl (wB2 sD (nxt ay (by omega)))),types.length + 1 - (e + 1),by omega,e + 1,_,rfl,by omega,by omega,by omega,by rw [aP,bh],rfl⟩
 have hge:e=types.length + 1:=by have:=hL;simp [dm,hlen] at this;omega
 rw [aP,List.drop_of_length_le (by omega),show eaA [] m=((0,0),m) from rfl,ai (by simp)] at hF
 refine aY (fun j st=>∃ (e:Nat),st=W4 ⟨ae,order,types,.mk rh rp⟩ T e/\e<=types.length + 1/\eaK (kN ⟨ae,order,types,.mk rh rp⟩) T=eaK (kN ⟨ae,order,types,.mk rh rp⟩) (T.drop e)/\j=types.length + 1 - e) (types.length + 1)
  (W4 ⟨ae,order,types,.mk rh rp⟩ T 0) (bl wB) ⟨0,rfl,by omega,rfl,by omega⟩ ?_
 clear aP hL hge he e;rintro j st ⟨e,rfl,he,aP,rfl⟩;refine br ?_ ?_<;>intro hL
 ·have ay:e < types.length + 1:=by have:=hL;simp [dm,hlen] at this;omega
  obtain ⟨t,ht⟩:∃ t,T[e]? = some t:=⟨_,gE (by omega)⟩;have bh:eaK (kN ⟨ae,order,types,.mk rh rp⟩) (T.drop e)=if (kN ⟨ae,order,types,.mk rh rp⟩ t).1≠0 then kN ⟨ae,order,types,.mk rh rp⟩ t else eaK (kN ⟨ae,order,types,.mk rh rp⟩) (T.drop (e + 1)):=by rw [drop_cons ht,eaK]
  have hu:=W6 t (mG ht);obtain ⟨u,us⟩:=t;apply mT (fun _=>false) 5 6 [0,1,2,3,4,5,6,7] [0,1,2,3,4,6,5,7] 2 2 mo (by decide +kernel)
  ·refine iX (jE ht) ?_;refine cD JR hu ?_;refine (?_:@Eq St _ _);exact rfl
  ·refine iX (jE ht) ?_;refine cD JR hu ?_;refine (⟨rfl,rfl,?_⟩:_/\_/\_)
   repeat' (first | exact trivial | refine ⟨rfl,?_⟩)
  ·rfl
  refine br ?_ ?_<;>intro g
  ·have g:(kN ⟨ae,order,types,.mk rh rp⟩ (.mk u us)).1≠0:=sU g;rw [aP,bh,ap g,ap g] at hF;refine ⟨_,?_,rfl⟩;rw [hF];exact ax
  ·have g:(kN ⟨ae,order,types,.mk rh rp⟩ (.mk u us)).1=0:=sU g;rw [ai (by simp [g])] at bh;exact rE ⟨_,by omega,e + 1,rfl,by omega,by rw [aP,bh],rfl⟩ (bl (cQ (nxt ay (by omega))))
 have hge:e=types.length + 1:=by have:=hL;simp [dm,hlen] at this;omega
 have CK:(eaK (kN ⟨ae,order,types,.mk rh rp⟩) T).1=0:=by rw [aP,List.drop_of_length_le (by omega)];all_goals rfl
 rw [aP,List.drop_of_length_le (by omega),show eaK (kN ⟨ae,order,types,.mk rh rp⟩) []=(0,0) from rfl,ai (by simp)] at hF
 have Lf:∀ x∈types,sj ⟨ae,order,types,.mk rh rp⟩ x.2=true:=fun x hx=>zr (Em CK x.2 (by
  rw [<- hT]
  exact List.mem_append_left _ (List.mem_map_of_mem hx)))
 have he99:=uV ⟨ae,order,types,.mk rh rp⟩ Sp Lf
 have hlo:F=match bg (fun i=>(endI ⟨ae,order,types,.mk rh rp⟩ (types.length + 1) i).isNone) types.length with
  | none=>(0,0)
  | some i=>(11,RR (si ⟨ae,order,types,.mk rh rp⟩) i):=hF
 refine aY (fun j st=>∃ e:Nat,st=Sn ⟨ae,order,types,.mk rh rp⟩ e/\e<=types.length/\(∀ i,i < e->(endI ⟨ae,order,types,.mk rh rp⟩ (types.length + 1) i).isNone=false)/\j=types.length - e) types.length
  (Sn ⟨ae,order,types,.mk rh rp⟩ 0) (bl wB) ⟨0,rfl,by omega,fun _ h=>by omega,by omega⟩ ?_
 clear aP hL hge he e;rintro j st ⟨e,rfl,he,fM,rfl⟩;refine br ?_ ?_<;>intro hL
 ·have ay:e < types.length:=by have:=hL;simp [hN] at this;exact this
  obtain ⟨x,hx⟩:=gX ay;have RV:(si ⟨ae,order,types,.mk rh rp⟩)[e]? = some x.1:=Ge hx;have h9:=he99 e ay;obtain ⟨xw,⟨xh,xp⟩⟩:=x;refine cP Rn h9 ?_;refine br ?_ ?_<;>intro g
  ·have g:endI ⟨ae,order,types,.mk rh rp⟩ (types.length + 1) e=none:=eZ.1 g;have Ae:=bZ (p:=fun i=>(endI ⟨ae,order,types,.mk rh rp⟩ (types.length + 1) i).isNone) ay (by simp only [g];rfl) fM;rw [Ae] at hlo;simp only [jQ RV] at hlo;refine iX (dNms_get hx) ?_;refine ⟨_,?_,rfl⟩;rw [hlo];exact ax
  ·have g:¬ endI ⟨ae,order,types,.mk rh rp⟩ (types.length + 1) e=none:=fun hn=>by have h3:=eZ.2 hn;rw [g] at h3;cases h3
   refine ⟨Sn ⟨ae,order,types,.mk rh rp⟩ (e + 1),(bl (cQ (nxt ay (by omega)))),types.length - (e + 1),by omega,e + 1,rfl,by omega,fun i hi=>?_,rfl⟩;rcases jU hi with hi | rfl
   ·exact fM i hi
   ·exact Option.isNone_eq_false_iff.2 (Option.isSome_iff_ne_none.2 g)
 ·have hge:e=types.length:=sW hN hL;rw [hge] at fM;rw [b9 fM] at hlo;refine ⟨_,?_,rfl⟩;rw [hlo];exact ax
theorem cK {l:List Ed} {i:Nat} {e:Ed} (h:l[i]? = some e):(gW l)[i]? = some (nC e):=by simp [gW,h]
def Oj (lev:List Wd->Int) (s:Sch) (t:Ty) (k:Nat):Nd:=⟨t.h.ag,t.h.aK,t.h.lo,t.h.hi,t.h.most,aA t.h.af,edsP lev s t.ps (k + 1)⟩
mutual
theorem sM (lev:List Wd->Int) (s:Sch):∀ (t:Ty) (k:Nat),ndsT lev s t k=(flatT t).zipIdx.map fun x=>Oj lev s x.1 (k + x.2)
 | .mk h ps,k=>by
  have ih:=zD lev s ps (k + 1);rw [ndsT,flatT];split
  ·rfl
  ·rw [ih,List.zipIdx_cons,List.map_cons];rw [List.zipIdx_succ,List.map_map];refine congr (congrArg List.cons rfl) (List.map_congr_left fun x _=>?_);simp only [Function.comp];congr 1;omega
theorem zD (lev:List Wd->Int) (s:Sch):∀ (ps:Pts) (k:Nat),uJ lev s ps k=(flatP ps).zipIdx.map fun x=>Oj lev s x.1 (k + x.2)
 | .nil,k=>rfl
 | .cons p u r,k=>by
  rw [uJ,flatP,List.zipIdx_append,List.map_append]
  cases hb:p.bare with
  | true=>
   simp only [if_true,List.zipIdx_nil,List.map_nil,List.nil_append,List.length_nil,Nat.add_zero];exact zD lev s r k
  | false=>
   simp only [Bool.false_eq_true,if_false];rw [sM lev s u k,zD lev s r (k + u.nn),je];refine congrArg _ ?_;rw [List.zipIdx_eq_map_add (l:=flatP r) (i:=0 + u.nn)];rw [List.map_map];refine List.map_congr_left fun x _=>?_;simp only [Function.comp];congr 1;omega
end
theorem zE {X:Lx} {L:List ByteArray}:∀ {ps:Pts},(knP X L ps).1=0->∀ {p:Ph} {u:Ty},(p,u)∈ps.toList->p.bare=false->(knT X L u).1=0
 | .nil,_,p,u,h,_=>by cases h
 | .cons q v r,hk,p,u,h,hb=>by
  rcases cg h with h | h
  ·cases h;exact (qQ hk).1 hb
  ·exact zE (qQ hk).2 h hb
theorem qX {w:Int} (h:decide (w=0)=true):kr w=3:=by unfold kr;rw [ap (of_decide_eq_true h)]
theorem qY {w:Int} (h:decide (w=0)=false):kr w=w:=by unfold kr;rw [ai (of_decide_eq_false h)]
theorem fA {L:List Ed} {lev:List Wd->Int} {p:Ph} {to w z:Int} (hw:kr p.wide=w) (ht:to=z):gW L ++ [[.v (.string p.name.s),.v (.bool p.bare),.v (.int .i64 p.name.a),.v (.int .i64 z),.v (.int .i64 (lev p.label)),.v (.int .i64 w),.v (.int .i64 p.ck),.v (.int .i64 p.cn),.v (.int .i64 (lev p.cl)),.v (.int .i64 p.ca)]]=gW (L ++ [uI lev p to]):=by
 subst hw ht;simp [gW,nC,uI]
abbrev W7 (S:Sch) (f:Nat->Nat->Bool) (t:Ty) (me:Nat) (q e:Nat):St:=
 ⟨[bc 1 1 (cJ (dz S.ae.length f)),aw 3 me,aF 4 0,aF 6 1,aF 8 2,aF 9 3,aw 10 e],
  [dQ S,dB t,[.v (.int .i64 0),.v (.int .i64 0),.v (.int .i64 0),.v (.int .i64 0),.v (.int .i64 0),.v (.slice none 0 0),.v (.slice none 0 0)],
  [.v (.int .i64 t.h.ag),.v (.int .i64 t.h.aK),.v (.int .i64 t.h.lo),.v (.int .i64 t.h.hi),.v (.int .i64 t.h.most),.sl 1 (ee (aA (t.h.af.take e))) (some 0),.v (.slice none 0 0)]],[⟨q,9,1,none⟩]⟩
abbrev BT (S:Sch) (f:Nat->Nat->Bool) (t:Ty) (q1 q2:Nat) (L:List Ed) (nx e:Nat):St:=
 ⟨[bc 1 1 (cJ (dz S.ae.length f)),aF 4 0,aF 6 1,aF 8 2,aF 9 3,aw 11 nx,aw 12 e],
  [dQ S,dB t,[.v (.int .i64 0),.v (.int .i64 0),.v (.int .i64 0),.v (.int .i64 0),.v (.int .i64 0),.v (.slice none 0 0),.v (.slice none 0 0)],
  [.v (.int .i64 t.h.ag),.v (.int .i64 t.h.aK),.v (.int .i64 t.h.lo),.v (.int .i64 t.h.hi),.v (.int .i64 t.h.most),.sl 1 (ee (aA t.h.af)) (some 0),.sl 10 (gW L) (some 1)]],[⟨q1,9,1,none⟩,⟨q2,109,10,none⟩]⟩
set_option maxHeartbeats 2000000 in
theorem Eo (S:Sch) (hS:S.wt<=1099511627776) (hl:(latF S.ae S.order).1=0) (Sp:S.types.length<=64) (hr:∀ x∈S.types,sj S x.2=true) (hlo:∀ i,i < S.types.length->∃ k,endI S (S.types.length + 1) i=some k)
  (t:Ty) (ht:t.wt<=1099511627776) (hk:(kN S t).1=0) (me:Nat) (hme:me<=1099511627776) :
  EvP prog 36 [.agg (dQ S),.sl 1 (cJ (dz S.ae.length (dY S.ae.length (cM (aA S.ae) S.order)))) none,.agg (dB t),.v (.int .i64 me)] (.agg (nD (Oj (gY S) S t me))):=by
 obtain ⟨hL,N6⟩:=ku hl;have nU:=hL.pos;unfold Sch.wt at hS;have D6:=fun l (h:wdsWt l<=1099511627776)=>HR S.ae (dY S.ae.length (cM (aA S.ae) S.order)) nU N6 (by omega) l h;have YB:∀ l,gY S l=zm (dY S.ae.length (cM (aA S.ae) S.order)) (aA S.ae) l:=fun _=>rfl;have Ol:=fun s i k=>uW S Sp (by omega) hr s i k;have jv:=jB S;generalize dY S.ae.length (cM (aA S.ae) S.order)=f at D6 YB ⊢;obtain ⟨h,ps⟩:=t;have R6:=(lz hk).2;simp only [Ty.wt,Hd.wt] at ht;have ke:=ps.eV;have hc:=ps.dP;have qf:=ps.fH;have hwl:=bi h.af;generalize NU:gY S=lev at YB ⊢;obtain ⟨ae,order,types,⟨rh,rp⟩⟩:=S;simp only at hS Sp hr hlo D6 YB Ol jv R6;refine eG 131 [.cell 8 100] func36 rfl ntmps36 rfl fun _ _ _ _=>?_;refine lJ (fun e=>W7 ⟨ae,order,types,.mk rh rp⟩ f (.mk h ps) me e e) h.af.length (dA 4 ⟨0,9,1,none⟩ rfl rfl rfl nY rfl rfl jX) ?_;intro e he;refine br ?_ ?_<;>intro hL
 ·have ay:e < h.af.length:=by have:=hL;simp [az] at this;exact this
  obtain ⟨w,hw⟩:=gX ay;have gO:=iY hw;have eN:(ee (aA (h.af.take e))).length=e:=by simp [ee,aA];omega
  refine dS ?_;refine iX (aR hw) ?_;refine ⟨eN,⟨by simp only [Ty.h];rw [eN];simp [maxLen];omega,by simp only [Ty.h];rw [eN];simp;omega⟩,?_⟩;exact rE ⟨_,by omega,e + 1,rfl,by omega,rfl⟩ (wkB 4 (wA2 (nxt ay (by omega)) gO) (wB2 (nxt ay (by omega)) gO))
 have hge:e=h.af.length:=by have:=hL;simp [az] at this;omega
 have W8:IntKind.i64.wrap ((me:Int) + 1)=((me + 1:Nat):Int):=by rw [wrap64 (by omega) (by omega)];omega
 have C8:ee (aA (h.af.take e))=ee (aA h.af):=by rw [hge,List.take_length]
 refine aY (fun j st=>∃ (e q nx:Nat) (L:List Ed),st=BT ⟨ae,order,types,.mk rh rp⟩ f (.mk h ps) h.af.length q L nx e/\q=e/\L.length=e/\e<=ps.len/\nx + (ps.drop e).nn=me + 1 + ps.nn/\edsP lev ⟨ae,order,types,.mk rh rp⟩ ps (me + 1)=L ++ edsP lev ⟨ae,order,types,.mk rh rp⟩ (ps.drop e) nx/\j=ps.len - e) ps.len
  (BT ⟨ae,order,types,.mk rh rp⟩ f (.mk h ps) e 0 [] (me + 1) 0) (dA 4 ⟨0,109,10,none⟩ rfl rfl rfl (wA2 W8 C8) rfl rfl (wB2 W8 C8)) ⟨0,0,me + 1,[],by rw [hge],rfl,rfl,by omega,rfl,rfl,by omega⟩ ?_
 clear he hL hge C8 e;rintro j st ⟨e,q,nx,L,rfl,hq,W1,he,DY,aP,rfl⟩;refine br ?_ ?_<;>intro hL
 ·have ay:e < ps.len:=by simpa [aJ] using hL
  obtain ⟨p,u,hx⟩:=Pts.dO ay;have A5:=Pts.fD (mG hx);have hw1:p.name.wt + wdsWt p.label + wdsWt p.cl<=p.wt:=by simp only [Ph.wt];omega
  rw [Pts.drop_cons hx,edsP] at aP;rw [Pts.drop_cons hx,Pts.nn] at DY;have Fv:=D6 p.label (by omega);have R5:=D6 p.cl (by omega);unfold Hz at Fv R5;rw [<- YB] at Fv R5;obtain ⟨uh,us⟩:=u;refine iX (bI hx) ?_;refine br ?_ ?_<;>intro hw
  all_goals
   refine cP UF Fv ?_;refine cP UF R5 ?_;have eN:(gW L).length=q:=by rw [dj,W1,hq]
   refine br ?_ ?_<;>intro hB
   ·have hB:p.bare=true:=hB;have qP:sJ ⟨ae,order,types,.mk rh rp⟩ p (.mk uh us) nx = -1:=by simp [sJ,hB]
    rw [hB] at aP DY;refine ⟨eN,⟨by rw [eN];simp [maxLen];omega,by rw [eN];simp;omega⟩,?_⟩;exact ⟨BT ⟨ae,order,types,.mk rh rp⟩ f (.mk h ps) h.af.length (q + 1) (L ++ [uI lev p (sJ ⟨ae,order,types,.mk rh rp⟩ p (.mk uh us) nx)]) nx (e + 1),(wkB 4 (by repeat' (first | exact rfl | exact aE rfl | exact aD (nxt ay (by omega)) | exact bS (fA (qX hw) qP) rfl | exact bS (fA (qY hw) qP) rfl | refine ⟨_,_,rfl,?_,?_⟩)) (by repeat' (first | exact trivial | exact aE rfl | exact aD (nxt ay (by omega)) | exact bS (fA (qX hw) qP) rfl | exact bS (fA (qY hw) qP) rfl | refine ⟨⟨_,rfl,?_⟩,?_⟩))),ps.len - (e + 1),by omega,e + 1,q + 1,nx,_,rfl,by omega,by simp [W1],by omega,by rw [<- DY];simp,by rw [aP];simp,rfl⟩
   ·have hB:p.bare=false:=hB;have ic:=zE R6 (mG hx) hB;refine br ?_ ?_<;>intro h9
    ·have h9:uh.ag=9:=sU h9;obtain ⟨i,hi⟩:=Option.ne_none_iff_exists'.1 ((lz ic).1 h9);obtain ⟨k,hk⟩:=hlo i (by have:=(cF hi).1;omega);have qP:sJ ⟨ae,order,types,.mk rh rp⟩ p (.mk uh us) nx=(firstA ⟨ae,order,types,.mk rh rp⟩ k:Int):=by simp [sJ,hB,mA,Ty.h,h9,R4,hi,namedN,hk]
     refine cP Uv (Ol uh.name.s i k hi hk) ?_;refine ⟨eN,⟨by rw [eN];simp [maxLen];omega,by rw [eN];simp;omega⟩,?_⟩;exact ⟨BT ⟨ae,order,types,.mk rh rp⟩ f (.mk h ps) h.af.length (q + 1) (L ++ [uI lev p (sJ ⟨ae,order,types,.mk rh rp⟩ p (.mk uh us) nx)]) nx (e + 1),(wkB 4 (by repeat' (first | exact rfl | exact aE rfl | exact aD (nxt ay (by omega)) | exact bS (fA (qX hw) qP) rfl | exact bS (fA (qY hw) qP) rfl | refine ⟨_,_,rfl,?_,?_⟩)) (by repeat' (first | exact trivial | exact aE rfl | exact aD (nxt ay (by omega)) | exact bS (fA (qX hw) qP) rfl | exact bS (fA (qY hw) qP) rfl | refine ⟨⟨_,rfl,?_⟩,?_⟩))),ps.len - (e + 1),by omega,e + 1,q + 1,nx,_,rfl,by omega,by simp [W1],by omega,by rw [<- DY];simp [hB,Ty.nn,h9],by rw [aP];simp [hB,Ty.nn,h9],rfl⟩
    ·have h9:¬ uh.ag=9:=sU h9;have qP:sJ ⟨ae,order,types,.mk rh rp⟩ p (.mk uh us) nx=(nx:Int):=by simp [sJ,hB,mA,Ty.h,h9]
     have hnn:=(Ty.mk uh us).fH;have hct:=(Ty.mk uh us).dP
     have sD:IntKind.i64.wrap ((nx:Int) + (gp (flatT (.mk uh us))).length)=((nx + (Ty.mk uh us).nn:Nat):Int):=by
      rw [dm,je,wrap64 (by omega) (by omega)];omega
     refine cP Np (nd _ (.mk uh us) (aU _) (by omega)) ?_;refine ⟨eN,⟨by rw [eN];simp [maxLen];omega,by rw [eN];simp;omega⟩,?_⟩;exact ⟨BT ⟨ae,order,types,.mk rh rp⟩ f (.mk h ps) h.af.length (q + 1) (L ++ [uI lev p (sJ ⟨ae,order,types,.mk rh rp⟩ p (.mk uh us) nx)]) (nx + (Ty.mk uh us).nn) (e + 1),(wkB 4 (by repeat' (first | exact rfl | exact aE rfl | exact aD (nxt ay (by omega)) | exact aD sD | exact bS (fA (qX hw) qP) rfl | exact bS (fA (qY hw) qP) rfl | refine ⟨_,_,rfl,?_,?_⟩)) (by repeat' (first | exact trivial | exact aE rfl | exact aD (nxt ay (by omega)) | exact aD sD | exact bS (fA (qX hw) qP) rfl | exact bS (fA (qY hw) qP) rfl | refine ⟨⟨_,rfl,?_⟩,?_⟩))),ps.len - (e + 1),by omega,e + 1,q + 1,(nx + (Ty.mk uh us).nn),_,rfl,by omega,by simp [W1],by omega,by rw [<- DY];simp [hB];omega,by rw [aP];simp [hB],rfl⟩
 have hge:e=ps.len:=by simp [aJ] at hL;omega
 rw [hge,Pts.cH,edsP,List.append_nil] at aP;unfold Oj;simp only [Ty.h,Ty.ps];rw [aP];exact ⟨_,ax,rfl⟩
def ndsA (lev:List Wd->Int) (s:Sch):List Ty->Nat->List Nd
 | [],_=>[]
 | t :: r,k=>ndsT lev s t k ++ ndsA lev s r (k + t.nn)
def qZ (l:List Ty):Nat:=(l.map Ty.nn).sum
theorem mH (t:Ty) (l:List Ty):qZ (t :: l)=t.nn + qZ l:=by simp [qZ]
theorem sN (a b:List Ty):qZ (a ++ b)=qZ a + qZ b:=by simp [qZ]
theorem ky (lev:List Wd->Int) (s:Sch):∀ (l:List Ty) (k:Nat),(ndsA lev s l k).length=qZ l
 | [],_=>rfl
 | t :: r,k=>by simp only [ndsA,List.length_append,jC,ky lev s r,mH]
theorem uX (lev:List Wd->Int) (s:Sch):∀ (a b:List Ty) (k:Nat),ndsA lev s (a ++ b) k=ndsA lev s a k ++ ndsA lev s b (k + qZ a)
 | [],b,k=>by simp [ndsA,qZ]
 | t :: r,b,k=>by rw [List.cons_append,ndsA,ndsA,uX lev s r b,List.append_assoc,mH,Nat.add_assoc]
theorem uY (lev:List Wd->Int) (s:Sch):∀ (l:List (Wd × Ty)) (k:Nat),ndsAll lev s l k=ndsA lev s (l.map fun x=>x.2) k
 | [],_=>rfl
 | x :: r,k=>by rw [ndsAll,List.map_cons,ndsA,uY lev s r]
theorem uZ (s:Sch):(px s).length=qZ (fj s):=by rw [px,uY,ky];all_goals rfl
theorem jf (s:Sch):aM s=ndsA (gY s) s (fk s) 0:=by
 unfold aM fk;rw [uX,uZ,px,uY,ndsA,ndsA,List.append_nil,Nat.zero_add];rfl
theorem HS {lev:List Wd->Int} {s:Sch} {l:List Ty} {e:Nat} {t:Ty} (h:l[e]? = some t):ndsA lev s (l.take (e + 1)) 0=ndsA lev s (l.take e) 0 ++ ndsT lev s t (ndsA lev s (l.take e) 0).length:=by
 rw [List.take_add_one,h,uX,ky,Nat.zero_add];simp [ndsA]
theorem BU (l:List Ty):∀ e,qZ (l.take e)<=qZ l:=by
 intro e;have:=sN (l.take e) (l.drop e);rw [List.take_append_drop] at this;omega
theorem Ep (s:Sch):qZ (fk s)<=s.wt:=by
 have key:∀ l:List (Wd × Ty),qZ (l.map fun x=>x.2)<=nmsWt l:=by
  intro l
  induction l with
  | nil=>exact aU _
  | cons x r ih=>
   have:=x.2.fH;have:=x.2.dP
   grind [mH,nmsWt]
 have h1:=key s.types;have h2:=s.root.fH;have h3:=s.root.dP
 grind [fk,sN,mH,Sch.wt,fj,qZ]
mutual
theorem u0 {X:Lx} {L:List ByteArray}:∀ (t:Ty),(knT X L t).1=0->∀ u∈flatT t,(knT X L u).1=0
 | .mk h ps,hk,u,hu=>by
  rw [flatT] at hu;split at hu
  ·cases hu
  ·rcases cg hu with rfl | hu
   ·exact hk
   ·exact BV ps (lz hk).2 u hu
theorem BV {X:Lx} {L:List ByteArray}:∀ (ps:Pts),(knP X L ps).1=0->∀ u∈flatP ps,(knT X L u).1=0
 | .nil,_,u,hu=>by cases hu
 | .cons p v r,hk,u,hu=>by
  rw [flatP] at hu;rcases List.mem_append.1 hu with hu | hu
  ·cases hb:p.bare with
   | true=>rw [hb] at hu;cases hu
   | false=>rw [hb] at hu;exact u0 v ((qQ hk).1 hb) u hu
  ·exact BV r (qQ hk).2 u hu
end
mutual
theorem u1:∀ (t:Ty),∀ u∈flatT t,u.wt<=t.wt
 | .mk h ps,u,hu=>by
  rw [flatT] at hu;split at hu
  ·cases hu
  ·rcases cg hu with rfl | hu
   ·exact aU _
   ·have:=BW ps u hu;simp only [Ty.wt];omega
theorem BW:∀ (ps:Pts),∀ u∈flatP ps,u.wt<=ps.wt
 | .nil,u,hu=>by cases hu
 | .cons p v r,u,hu=>by
  rw [flatP] at hu;simp only [Pts.wt];rcases List.mem_append.1 hu with hu | hu
  ·split at hu
   ·cases hu
   ·have:=u1 v u hu;omega
  ·have:=BW r u hu;omega
end
theorem Lt {lev:List Wd->Int} {s:Sch} {t u:Ty} {n k:Nat} (h:(flatT t)[k]? = some u):(ndsT lev s t n)[k]? = some (Oj lev s u (n + k)):=by grind [sM]
structure u2 (S:Sch):Prop where
 lat:(latF S.ae S.order).1=0
 YC:S.types.length<=64
 kn:∀ t∈fk S,(kN S t).1=0
 ends:∀ i,i < S.types.length->∃ k,endI S (S.types.length + 1) i=some k
 wr:∀ t∈fk S,(wrong t 1 0).1.1=0
theorem Lu:∀ {l:List Ty} {m:Int},(eaA l m).1.1=0->∀ t∈l,(wrong t 1 0).1.1=0
 | [],_,_,t,ht=>by cases ht
 | u :: r,m,h,t,ht=>by
  rw [eaA] at h;split at h
  ·rename_i h1;exact (h1 h).elim
  ·rename_i h1;rcases cg ht with rfl | ht
   ·exact (nc (sU h1)).2.2.1
   ·exact Lu h t ht
theorem pF {S:Sch} (h:(j5 S).1=0):u2 S:=by
 rw [Gh] at h;split at h
 ·rename_i h1;exact (h1 h).elim
 rename_i h1;split at h
 ·rename_i h2;exact (h2 h).elim
 rename_i h2;split at h
 ·rename_i h3;exact (h3 h).elim
 rename_i h3;split at h
 ·rename_i h4;exact (h4 h).elim
 rename_i h4
 exact {
  lat:=sU h1
  YC:=by grind [dV]
  kn:=Em (sU h4)
  ends:=BK h
  wr:=Lu (sU h3) }
theorem u2.refs {S:Sch} (h:u2 S):∀ x∈S.types,sj S x.2=true:=fun x hx=>zr (h.kn x.2 (List.mem_append_left _ (List.mem_map_of_mem hx)))
abbrev wC (S:Sch) (f:Nat->Nat->Bool) (N:DV) (z:Int):List DV:=[.sl 2 (bw S.ae) none,.sl 1 (cJ (dz S.ae.length f)) none,N,.v (.int .i64 z)]
abbrev Lv (S:Sch) (T:List Ty) (f:Nat->Nat->Bool) (L:List Nd) (z:Int) (e q:Nat):St:=
 ⟨[aF 1 0,aF 2 1,aF 3 2,bc 4 9 (gp T),aw 5 e],[dQ S,[.v (.slice none 0 0),.v (.slice none 0 0),.v (.slice none 0 0),.v (.int .i64 0)],wC S f (.sl 7 (cI L) (some 0)) z],[⟨q,100,7,none⟩]⟩
abbrev Qm (S:Sch) (T:List Ty) (f:Nat->Nat->Bool) (L:List Nd) (z:Int) (e:Nat) (F:List Ty) (k q:Nat):St:=
 ⟨[aF 1 0,aF 2 1,aF 3 2,bc 4 9 (gp T),aw 5 e,bc 6 9 (gp F),aw 7 k],[dQ S,[.v (.slice none 0 0),.v (.slice none 0 0),.v (.slice none 0 0),.v (.int .i64 0)],wC S f (.sl 7 (cI L) (some 0)) z],[⟨q,100,7,none⟩]⟩
theorem zF (S:Sch) (hS:S.wt<=1099511627776) (hR:(j5 S).1=0) :
  EvP prog 9 [.agg (dQ S)] (.agg (wC S (dY S.ae.length (cM (aA S.ae) S.order)) (.sl 7 (cI (aM S)) none) (dW S))):=by
 have MG:=pF hR;obtain ⟨_,N6⟩:=ku MG.lat;have Tp:=zB hS;have Rx:=Ep S;have Z5:=(oo MG.lat).2.2.1;have hrr:=MG.refs;have gA:=fun t ht hk me hme=>Eo S hS MG.lat MG.YC hrr MG.ends t ht hk me hme;have hwS:=hS;unfold Sch.wt at hS;have Er:=BN S.ae S.order N6 (by omega) (by omega) Z5;have iM:=BR S (by have:=MG.YC;omega);have hlen:(fk S).length=S.types.length + 1:=by simp [fk,fj]
 have Sp:=MG.YC;have Ol:=fun s i k=>uW S Sp (by omega) hrr s i k;have CK:=MG.kn;have u3:=MG.ends;have jv:=jB S;have fi:(fk S)[S.types.length]? = some S.root:=by grind [fk,fj]
 have Et:=uZ S;have l8:(fk S).take S.types.length=fj S:=by grind [fk,fj]
 rw [jf];unfold dW;generalize gY S=lev at gA ⊢;generalize dY S.ae.length (cM (aA S.ae) S.order)=f at gA Er ⊢;obtain ⟨ae,order,types,⟨rh,rp⟩⟩:=S;simp only at hS Er hlen Sp u3 jv fi l8;generalize hT:fk ⟨ae,order,types,.mk rh rp⟩=T at Tp Rx iM hlen CK fi l8 ⊢;refine eG 67 [.cell 2 50] func9 rfl ntmps9 rfl fun _ _ _ _=>?_;apply mT (fun _=>false) 6 8 [0,1,2,3,4,5,6,7,8,9] [0,1,2,3,4,5,8,6,7,9] 2 2 mo (by decide +kernel)
 ·refine cD Rh Er ?_;refine (?_:@Eq St _ _);exact rfl
 ·refine cD Rh Er ?_;refine (⟨rfl,rfl,?_⟩:_/\_/\_)
  repeat' (first | exact trivial | refine ⟨rfl,?_⟩)
 ·rfl
 refine cP Uu iM ?_
 have hLN:∀ e,(ndsA lev ⟨ae,order,types,.mk rh rp⟩ (T.take e) 0).length<=1099511627776:=fun e=>by
  rw [ky];have:=BU T e;omega
 refine aY (fun j st=>∃ (e q:Nat) (z:Int),st=Lv ⟨ae,order,types,.mk rh rp⟩ T f (ndsA lev ⟨ae,order,types,.mk rh rp⟩ (T.take e) 0) z e q/\q=(ndsA lev ⟨ae,order,types,.mk rh rp⟩ (T.take e) 0).length/\e<=types.length + 1/\(e=types.length + 1->z=(qZ (T.take types.length):Nat))/\j=types.length + 1 - e) (types.length + 1)
  (Lv ⟨ae,order,types,.mk rh rp⟩ T f [] 0 0 0) (dA 3 ⟨0,100,7,none⟩ rfl rfl rfl nY rfl rfl jX) ⟨0,0,0,rfl,rfl,by omega,fun h=>by omega,by omega⟩ ?_
 rintro j st ⟨e,q,z,rfl,hq,he,hz,rfl⟩;refine br ?_ ?_<;>intro hL
 ·have ay:e < types.length + 1:=by have:=hL;simp [dm,hlen] at this;omega
  obtain ⟨t,ht⟩:∃ t,T[e]? = some t:=⟨_,gE (by omega)⟩;have KL:=Tp t (mG ht);have htk':=CK t (mG ht);have IG:=nd _ t (aU _) KL;have hfk:=u0 t htk';have Wi:=u1 t;have Tq:=HS (lev:=lev) (s:=⟨ae,order,types,.mk rh rp⟩) ht;have hfln:=je t;have iJ:=jC lev ⟨ae,order,types,.mk rh rp⟩ t (ndsA lev ⟨ae,order,types,.mk rh rp⟩ (T.take e) 0).length;have iN:=fun k u (h:(flatT t)[k]? = some u)=>Lt (lev:=lev) (s:=⟨ae,order,types,.mk rh rp⟩) (n:=(ndsA lev ⟨ae,order,types,.mk rh rp⟩ (T.take e) 0).length) h;have hLe:=hLN e;have Sr:=hLN (e + 1);have hLs:=ky lev ⟨ae,order,types,.mk rh rp⟩ (T.take e) 0;rw [Tq,List.length_append] at Sr;obtain ⟨u,us⟩:=t;generalize ndsA lev ⟨ae,order,types,.mk rh rp⟩ (T.take e) 0=L at hq Tq iJ iN hLe Sr hLs ⊢;generalize ndsT lev ⟨ae,order,types,.mk rh rp⟩ (.mk u us) L.length=M at Tq iJ iN Sr;generalize flatT (.mk u us)=F at IG hfk Wi hfln iN;have dq:((cI L).length:Int)=(L.length:Int):=by rw [mD]
  refine iX (jE ht) ?_;refine cP Np IG ?_
  refine aY (fun j st=>∃ (k q:Nat),st=Qm ⟨ae,order,types,.mk rh rp⟩ T f (L ++ M.take k) (L.length:Int) e F k q/\q=(L ++ M.take k).length/\k<=F.length/\j=F.length - k) F.length
   (Qm ⟨ae,order,types,.mk rh rp⟩ T f (L ++ []) (L.length:Int) e F 0 q) (wkB 3 (by repeat' (first | exact rfl | exact aE rfl | exact aD dq | exact bS (by rw [List.append_nil]) rfl | refine ⟨_,_,rfl,?_,?_⟩)) (by repeat' (first | exact trivial | exact aE rfl | exact aD dq | exact bS (by rw [List.append_nil]) rfl | refine ⟨⟨_,rfl,?_⟩,?_⟩))) ⟨0,q,rfl,by simp [hq],by omega,by omega⟩ ?_
  rintro j st ⟨k,q',rfl,lS,hk,rfl⟩;refine br ?_ ?_<;>intro nM
  ·have ic:k < F.length:=by have:=nM;simp [dm] at this;exact this
   obtain ⟨v,hv⟩:∃ v,F[k]? = some v:=⟨_,gE ic⟩;have S6:=mG hv;have hvw:=Wi v S6;have eN:(cI (L ++ M.take k)).length=q':=by rw [mD,lS]
   have ka:q'=L.length + k:=by rw [lS,List.length_append,eP];omega
   have hnd:=gA v (by omega) (hfk v S6) (cI (L ++ M.take k)).length (by omega)
   have gO:cI (L ++ M.take k) ++ [nD (Oj lev ⟨ae,order,types,.mk rh rp⟩ v (cI (L ++ M.take k)).length)]=cI (L ++ M.take (k + 1)):=by
    rw [List.take_add_one,iN k v hv,eN,ka];simp [cI]
   obtain ⟨vh,vp⟩:=v;refine dS ?_;refine iX (jE hv) ?_;refine cD ZK hnd ?_;refine ⟨eN,⟨by rw [eN];simp [maxLen];omega,by rw [eN];simp;omega⟩,?_⟩;exact rE ⟨_,by omega,k + 1,q' + 1,rfl,by rw [ka];simp;omega,by omega,rfl⟩ (wkB 3 (wA2 (nxt ic (by omega)) gO) (wB2 (nxt ic (by omega)) gO))
  ·have hge:k=F.length:=by have:=nM;simp [dm] at this;omega
   have hM:M.take k=M:=List.take_of_length_le (by omega);rw [hM] at lS;refine ⟨Lv ⟨ae,order,types,.mk rh rp⟩ T f (ndsA lev ⟨ae,order,types,.mk rh rp⟩ (T.take (e + 1)) 0) (L.length:Int) (e + 1) q',(wkB 3 (by repeat' (first | exact rfl | exact aE rfl | exact aD (nxt ay (by omega)) | exact bS (by rw [Tq,hM]) rfl | refine ⟨_,_,rfl,?_,?_⟩)) (by repeat' (first | exact trivial | exact aE rfl | exact aD (nxt ay (by omega)) | exact bS (by rw [Tq,hM]) rfl | refine ⟨⟨_,rfl,?_⟩,?_⟩))),types.length + 1 - (e + 1),by omega,e + 1,q',_,rfl,by rw [Tq,lS],by omega,fun W9=>?_,rfl⟩;rw [hLs,show e=types.length by omega]
 ·have hge:e=types.length + 1:=by have:=hL;simp [dm,hlen] at this;omega
  have hTa:T.take e=T:=List.take_of_length_le (by omega);rw [hTa];have hz:=hz hge;rw [l8,<- Et] at hz;have Lf:=CK (.mk rh rp) (mG fi);refine br ?_ ?_<;>intro h9
  ·have h9:rh.ag=9:=sU h9;obtain ⟨i,hi⟩:=Option.ne_none_iff_exists'.1 ((lz Lf).1 h9);obtain ⟨k,hk⟩:=u3 i (by have:=(cF hi).1;omega);have qP:mA ⟨ae,order,types,.mk rh rp⟩ (.mk rh rp) (px ⟨ae,order,types,.mk rh rp⟩).length=(firstA ⟨ae,order,types,.mk rh rp⟩ k:Int):=by simp [mA,Ty.h,h9,R4,hi,namedN,hk]
   refine cP Uv (Ol rh.name.s i k hi hk) ?_;rw [qP];exact ⟨_,ax,rfl⟩
  ·have h9:¬ rh.ag=9:=sU h9;have qP:mA ⟨ae,order,types,.mk rh rp⟩ (.mk rh rp) (px ⟨ae,order,types,.mk rh rp⟩).length=z:=by simp [mA,Ty.h,h9,hz]
   rw [qP];exact ⟨_,ax,rfl⟩
def Qn (t:Ty):Prop:=∃ d m,(wrong t d m).1.1=0
def Gi (ag:Int) (p:Ph) (t:Ty):Prop:=(p.bare=true/\ag=8/\sameTy t cd=true/\bW p iD=true)∨(p.bare=false/\(dr p).1=0/\Qn t)
structure TyF (h:Hd) (ps:Pts):Prop where
 k1:1<=h.ag
 k9:h.ag<=9
 own:tY h ps=true
 int:h.ag=2->h.lo<=h.hi
 text:h.ag=3->0<=h.most/\h.most<=4096
 enum:h.ag=4->gM h=(0,0)
 one:h.ag=5∨h.ag=6->∃ p t,ps = .cons p t .nil/\p.name.s=au/\bW p eB=true/\0<=h.most/\h.most<=1024/\Qn t
 many:h.ag=7∨h.ag=8->ps.len<=64/\(h.ag=8->ps.len≠0)/\∀ i p t,ps.toList[i]? = some (p,t)->aG (pNames ps) i p.name=0/\Gi h.ag p t
theorem Ss {h:Hd} {ps:Pts} (ho:¬ tT (.mk h ps)=false):tY h ps=true:=by
 rw [FP];cases hb:sameTy (.mk h ps) (mask (.mk h ps))
 ·exact absurd hb ho
 ·rfl
theorem mI {ag:Int} {all:List Wd}:∀ {ps:Pts} {i:Nat} {d m:Int},(wrongPts ag all i ps d m).1.1=0->(ag=7∨ag=8)->∀ j p t,ps.toList[j]? = some (p,t)->aG all (i + j) p.name=0/\Gi ag p t
 | .nil,i,d,m,_,_,j,p,t,hx=>by simp [Pts.toList] at hx
 | .cons q u r,i,d,m,he,hk,j,p,t,hx=>by
  simp only [wrongPts] at he;by_cases c0:aG all i q.name≠0
  ·rw [ap c0] at he;exact absurd he c0
  rw [ai c0] at he;have c0:aG all i q.name=0:=sU c0
  have step:∀ d' m',(wrongPts ag all (i + 1) r d' m').1.1=0->Gi ag q u->aG all (i + j) p.name=0/\Gi ag p t:=by
   intro d' m' h hq
   cases j with
   | zero=>grind [Pts.toList]
   | succ j=>
    simp only [Pts.toList,List.getElem?_cons_succ] at hx;have:=mI h hk j p t hx
    grind
  by_cases c1:q.bare=true
  ·rw [ap c1] at he;by_cases c2:ag=7∨sameTy u cd=false∨bW q iD=false
   ·rw [ap c2] at he;simp at he
   rw [ai c2] at he;refine step d m he (.inl ⟨c1,?_,?_,?_⟩)
   all_goals grind
  ·rw [ai c1] at he;by_cases c2:(dr q).1≠0
   ·rw [ap c2] at he;exact absurd he c2
   rw [ai c2] at he;by_cases c3:(wrong u (d + 1) m).1.1≠0
   ·rw [ap c3] at he;exact absurd he c3
   rw [ai c3] at he;exact step d _ he (.inr ⟨by simpa using c1,by simpa using c2,d + 1,m,by simpa using c3⟩)
theorem Eu:∀ {t:Ty},Qn t->TyF t.h t.ps
 | .mk h ps,⟨d,m,he⟩=>by
  simp only [Ty.h,Ty.ps];simp only [wrong] at he;by_cases c0:24 < d
  ·rw [ap c0] at he;simp at he
  rw [ai c0] at he;by_cases c1:512 < m + 1
  ·rw [ap c1] at he;simp at he
  rw [ai c1] at he;by_cases c2:h.ag < 1∨9 < h.ag
  ·rw [ap c2] at he;simp at he
  rw [ai c2] at he;by_cases c3:tT (.mk h ps)=false
  ·rw [ap c3] at he;simp at he
  rw [ai c3] at he;by_cases c4:(h.ag=2/\h.hi < h.lo)∨(h.ag=3/\(h.most < 0∨4096 < h.most))
  ·rw [ap c4] at he;simp at he
  rw [ai c4] at he;by_cases c5:h.ag=9/\aZ h.name.s=false
  ·rw [ap c5] at he;simp at he
  rw [ai c5] at he;refine { k1:=by omega,k9:=by omega,own:=Ss c3,int:=fun h2=>by omega,text:=fun h3=>by omega,enum:=fun h4=>?_,one:=fun h5=>?_,many:=fun h7=>?_ }
  ·rw [ap h4] at he;exact xg h he
  ·rw [ai (by omega),ap h5] at he
   match ps,he with
   | .nil,he=>simp [wrongOne] at he
   | .cons p t (.cons _ _ _),he=>simp [wrongOne] at he
   | .cons p t .nil,he=>
    simp only [wrongOne] at he;by_cases e0:p.name.s≠au∨bW p eB=false
    ·rw [ap e0] at he;simp at he
    rw [ai e0] at he;by_cases e1:h.most < 0∨1024 < h.most
    ·rw [ap e1] at he;simp at he
    rw [ai e1] at he;refine ⟨p,t,rfl,Classical.byContradiction fun hn=>e0 (.inl hn),?_,by omega,by omega,d + 1,_,he⟩
    grind
  ·rw [ai (by omega),ai (by omega),ap h7] at he;by_cases e0:h.ag=8/\ps.len=0
   ·rw [ap e0] at he;simp at he
   rw [ai e0] at he;by_cases e1:64 < ps.len
   ·rw [ap e1] at he;simp at he
   rw [ai e1] at he;refine ⟨by omega,fun h8=>fun hl=>e0 ⟨h8,hl⟩,fun i p t hx=>?_⟩;have:=mI he h7 i p t hx
   rwa [Nat.zero_add] at this
theorem TyF.sub {h:Hd} {ps:Pts} (hF:TyF h ps) {p:Ph} {u:Ty} (hm:(p,u)∈ps.toList) (hb:p.bare=false):Qn u:=by
 obtain ⟨i,hi⟩:=List.mem_iff_getElem?.1 hm
 have hlen:0 < ps.len:=by
  cases ps with
  | nil=>simp [Pts.toList] at hm
  | cons _ _ _=>simp [Pts.len]
 have hk:5<=h.ag/\h.ag<=8:=by
  have h1:=hF.own
  grind [tY]
 by_cases h5:h.ag=5∨h.ag=6
 ·obtain ⟨q,t,rfl,_,_,_,_,hw⟩:=hF.one h5
  grind [Pts.toList]
 ·rcases ((hF.many (by omega)).2.2 i p u hi).2 with h1 | h1
  ·rw [h1.1] at hb;cases hb
  ·exact h1.2.2
mutual
theorem u4:∀ (t:Ty),Qn t->∀ u∈flatT t,Qn u
 | .mk h ps,hw,u,hu=>by
  rw [flatT] at hu;split at hu
  ·cases hu
  ·rcases cg hu with rfl | hu
   ·exact hw
   ·exact BX ps (fun p v hm hb=>(Eu hw).sub hm hb) u hu
theorem BX:∀ (ps:Pts),(∀ p v,(p,v)∈ps.toList->p.bare=false->Qn v)->∀ u∈flatP ps,Qn u
 | .nil,_,u,hu=>by cases hu
 | .cons p v r,hw,u,hu=>by
  rw [flatP] at hu;rcases List.mem_append.1 hu with hu | hu
  ·cases hb:p.bare with
   | true=>rw [hb] at hu;cases hu
   | false=>rw [hb] at hu;exact u4 v (hw p v (by simp [Pts.toList]) hb) u hu
  ·exact BX r (fun q w hm=>hw q w (by simp [Pts.toList,hm])) u hu
end
mutual
theorem BZ:∀ (t:Ty),∀ u∈flatT t,u.h.ag≠9
 | .mk h ps,u,hu=>by
  rw [flatT] at hu;split at hu
  ·cases hu
  ·rename_i h9;rcases cg hu with rfl | hu
   ·exact h9
   ·exact B0 ps u hu
theorem B0:∀ (ps:Pts),∀ u∈flatP ps,u.h.ag≠9
 | .nil,u,hu=>by cases hu
 | .cons p v r,u,hu=>by
  rw [flatP] at hu;rcases List.mem_append.1 hu with hu | hu
  ·split at hu
   ·cases hu
   ·exact BZ v u hu
  ·exact B0 r u hu
end
mutual
theorem xY:∀ (t:Ty) (j:Nat) (u:Ty),(flatT t)[j]? = some u->j + u.nn<=t.nn
 | .mk h ps,j,u,hu=>by
  rw [flatT] at hu;by_cases h9:h.ag=9
  ·rw [ap h9] at hu;simp at hu
  rw [ai h9] at hu
  cases j with
  | zero=>grind
  | succ j=>
   simp only [List.getElem?_cons_succ] at hu;have:=q4 ps j u hu;rw [Ty.nn,ai h9];omega
theorem q4:∀ (ps:Pts) (j:Nat) (u:Ty),(flatP ps)[j]? = some u->j + u.nn<=ps.nn
 | .nil,j,u,hu=>by simp [flatP] at hu
 | .cons p v r,j,u,hu=>by
  rw [flatP] at hu;rw [Pts.nn]
  cases hb:p.bare with
  | true=>
   rw [hb] at hu;have:=q4 r j u (sU hu);simp only [if_true];omega
  | false=>
   rw [hb] at hu;simp only [Bool.false_eq_true,if_false] at hu ⊢;by_cases hj:j < (flatT v).length
   ·rw [eO hj] at hu;have:=xY v j u hu;omega
   ·rw [List.getElem?_append_right (by omega)] at hu;have:=q4 r _ u hu;have h2:=je v;omega
end
theorem pG {lev:List Wd->Int} {s:Sch}:∀ {ps:Pts} {k:Nat} {e:Ed},e∈edsP lev s ps k->∃ p u k',(p,u)∈ps.toList/\e=uI lev p (sJ s p u k')/\(p.bare=false->k' + u.nn<=k + ps.nn)
 | .nil,k,e,he=>by simp [edsP] at he
 | .cons p u r,k,e,he=>by
  rw [edsP] at he;rcases cg he with rfl | he
  ·grind [Pts.toList,Pts.nn]
  ·obtain ⟨q,v,k',h1,h2,h3⟩:=pG he
   grind [Pts.toList,Pts.nn]
theorem oq {lev:List Wd->Int} {s:Sch}:∀ {ps:Pts} {k:Nat},(edsP lev s ps k).map Ed.name=aA (pNames ps)
 | .nil,k=>rfl
 | .cons p u r,k=>by
  rw [edsP,List.map_cons,oq (ps:=r)];rfl
theorem xZ {f:Nat->Nat->Bool} {n:Nat} (hL:dH f n):∀ e,e<=n->∃ b,b < n/\∀ x,x < e->f b x=true
 | 0,_=>⟨0,hL.pos,fun x hx=>by omega⟩
 | e + 1,he=>by
  obtain ⟨b,hb,eM⟩:=xZ hL e (by omega);obtain ⟨k,hk⟩:=hL.mt b e hb (by omega);obtain ⟨g1,g2,g3,g4⟩:=oi hk;refine ⟨k,g1,fun x hx=>?_⟩;rcases jU hx with hx | rfl
  ·exact hL.tr k b x g1 hb (by omega) g2 (eM x hx)
  ·exact g3
theorem rL {f:Nat->Nat->Bool} {n:Nat} (hL:dH f n) (l:List Nat) (hl:∀ x∈l,x < n):∃ c,eX f n l=some c:=by
 have key:∀ e,e<=l.length->∃ c,eX f n (l.take e)=some c:=by
  intro e
  induction e with
  | zero=>
   intro _;obtain ⟨b,hb,eM⟩:=xZ hL n (aU _);exact ⟨b,om hL hb eM⟩
  | succ e ih=>
   intro he;obtain ⟨c,hc⟩:=ih (by omega);obtain ⟨x,hx⟩:∃ x,l[e]? = some x:=⟨_,gE (by omega)⟩;have yI:=hl x (mG hx);obtain ⟨k,hk⟩:=hL.jn c x (nb hc) yI;rw [List.take_add_one,hx]
   grind [rI]
 have:=key l.length (aU _)
 rwa [List.take_length] at this
theorem x4 {L:List ByteArray}:∀ {l:List Wd},(labW L l).1=0->∀ w∈l,∃ i,cy L w.s=some i
 | [],_,w,hw=>by cases hw
 | x :: r,h,w,hw=>by
  rw [labW] at h;split at h
  ·cases h
  ·rename_i h1;rcases cg hw with rfl | hw
   ·exact Option.ne_none_iff_exists'.1 h1
   ·exact x4 h w hw
theorem HT {f:Nat->Nat->Bool} {L:List ByteArray} (hL:dH f L.length) {l:List Wd} (h:(labW L l).1=0):∃ c:Nat,zm f L l=c/\c < L.length:=by
 obtain ⟨c,hc⟩:=rL hL (lx L l) (fun x hx=>by
  unfold lx at hx;obtain ⟨w,hw,rfl⟩:=List.mem_map.1 hx;obtain ⟨i,hi⟩:=x4 h w hw;rw [hi]
  exact (cF hi).1)
 refine ⟨c,?_,nb hc⟩;unfold zm;rw [ap h,hc];rfl
structure Su (L N:Nat) (e:Ed):Prop where
 to0:e.bare=true->e.to = -1
 to1:e.bare=false->∃ k:Nat,e.to=k/\k < N
 lab:∃ k:Nat,e.label=k/\k < L
 seen:∃ k:Nat,e.seen=k/\k < L
 wide:1<=e.wide/\e.wide<=64
 ck:0<=e.ck/\e.ck<=3
 cn:(e.ck=0->e.cn=0)/\(e.ck=1->1<=e.cn)/\(e.ck=2->0<=e.cn/\e.cn<=4096)/\(e.ck=3->e.cn=0)
structure dt (L N:Nat) (n:Nd):Prop where
 k1:1<=n.ag
 k8:n.ag<=8
 lohi:n.ag=2->n.lo<=n.hi
 lo0:n.ag≠2->n.lo=0/\n.hi=0
 Xa:n.ag=3->0<=n.most/\n.most<=4096
 Xb:n.ag=5->0<=n.most/\n.most<=1024
 Xc:n.ag≠3->n.ag≠5->n.most=0
 af:n.ag=4->n.af ≠ []/\n.af.length<=64/\n.af.Nodup/\∀ s∈n.af,aZ s=true
 Sv:n.ag≠4->n.af=[]
 leaf:n.ag < 5->n.aC=[]
 one:n.ag=5∨n.ag=6->∃ e,n.aC=[e]/\e.bare=false/\e.name=au
 many:n.ag=7∨n.ag=8->n.aC.length<=64/\(n.ag=8->n.aC ≠ [])/\(n.aC.map Ed.name).Nodup/\∀ e∈n.aC,aZ e.name=true
 bare:∀ e∈n.aC,e.bare=true->n.ag=8
 fW:∀ e∈n.aC,Su L N e
theorem u5 {l:List Wd} (h:∀ j x,l[j]? = some x->aG l j x=0):(aA l).Nodup/\∀ x∈l,aZ x.s=true:=by
 have key:∀ e,e<=l.length->(aA (l.take e)).Nodup:=by
  intro e
  induction e with
  | zero=>intro _;simp [aA]
  | succ e ih=>
   intro he;obtain ⟨x,hx⟩:∃ x,l[e]? = some x:=⟨_,gE (by omega)⟩
   grind [lr]
 refine ⟨by have:=key l.length (aU _);rwa [List.take_length] at this,fun x hx=>?_⟩;obtain ⟨j,hj⟩:=List.mem_iff_getElem?.1 hx
 grind [aG,aZ]
theorem x5 {all:List Wd}:∀ {l:List Wd} {i:Nat},(enumL all i l).1=0->∀ j x,l[j]? = some x->aG all (i + j) x=0
 | [],i,_,j,x,hx=>by simp at hx
 | y :: r,i,h,j,x,hx=>by
  rw [enumL] at h;split at h
  ·rename_i h1;exact (h1 h).elim
  ·rename_i h1
   cases j with
   | zero=>grind
   | succ j=>
    simp only [List.getElem?_cons_succ] at hx;have:=x5 h j x hx
    grind
theorem zG {h:Hd} (he:gM h=(0,0)):h.af ≠ []/\h.af.length<=64/\(aA h.af).Nodup/\∀ x∈h.af,aZ x.s=true:=by
 unfold gM at he;split at he
 ·cases he
 ·rename_i h1;split at he
  ·cases he
  ·rename_i h2;refine ⟨h1,by omega,?_⟩
   exact u5 fun j x hx=>by
    have:=x5 (all:=h.af) (i:=0) (by rw [he]) j x hx
    rwa [Nat.zero_add] at this
theorem Gj {X:Lx} {L:List ByteArray}:∀ {ps:Pts},(knP X L ps).1=0->∀ {p:Ph} {u:Ty},(p,u)∈ps.toList->(X.bad p.label).1=0/\(X.bad p.cl).1=0
 | .nil,_,p,u,h=>by cases h
 | .cons q v r,hk,p,u,h=>by
  have hr:=(qQ hk).2;rw [knP] at hk;split at hk
  ·rename_i h1;exact (h1 hk).elim
  rename_i h1;split at hk
  ·rename_i h2;exact (h2 hk).elim
  rename_i h2;rcases cg h with h | h
  ·grind
  ·exact Gj hr h
theorem nf {p q:Ph} (h:bW p q=true):p.bare=q.bare/\p.wide=q.wide/\p.ck=q.ck/\p.cn=q.cn:=by grind [bW]
theorem Lw {w:Int} (h:0<=w/\w<=64):1<=kr w/\kr w<=64:=by
 unfold kr;split<;>omega
theorem Ew {p:Ph} (h:(aV p).1=0):(0<=p.ck/\p.ck<=3)/\(p.ck=0->p.cn=0)/\(p.ck=1->1<=p.cn)/\(p.ck=2->0<=p.cn/\p.cn<=4096)/\(p.ck=3->p.cn=0):=by grind [aV]
theorem HU {p:Ph} (h:(dr p).1=0):(0<=p.wide/\p.wide<=64)/\(aV p).1=0:=by grind [dr,bF]
theorem zH {t:Ty} (h:t.h.ag≠9):1<=t.nn:=by
 obtain ⟨h',ps⟩:=t;have h:¬ h'.ag=9:=h;rw [Ty.nn,ai h];omega
theorem x6 {S:Sch} {k:Nat} {x:Wd × Ty} (hx:S.types[k]? = some x):firstA S k + x.2.nn<=qZ (fk S):=by
 have h1:=mz hx;rw [<- h1]
 have h2:firstA S (k + 1)=qZ ((fj S).take (k + 1)):=by
  unfold firstA qZ fj;rw [<- List.map_take,List.map_map];rfl
 grind [BU,fj,qZ,fk,sN]
theorem u6 {lev:List Wd->Int} {s:Sch} {n:Nd}:∀ {l:List Ty} {k i:Nat},(ndsA lev s l k)[i]? = some n->∃ t∈l,∃ u∈flatT t,n=Oj lev s u (k + i)/\i + u.nn<=qZ l
 | [],k,i,h=>by simp [ndsA] at h
 | t :: r,k,i,h=>by
  rw [ndsA] at h;rw [mH];have hl:=jC lev s t k;by_cases hi:i < t.nn
  ·rw [eO (by omega),sM,List.getElem?_map,List.getElem?_zipIdx] at h
   cases hu:(flatT t)[i]? with
   | none=>rw [hu] at h;simp at h
   | some u=>
    rw [hu] at h;simp only [Option.map_some,oI] at h;have:=xY t i u hu;exact ⟨t,List.mem_cons_self,u,mG hu,by rw [<- h];simp,by omega⟩
  ·rw [List.getElem?_append_right (by omega),hl] at h;obtain ⟨t',h1,u,h2,h3,h4⟩:=u6 h
   grind
theorem lB (S:Sch):(aM S).length=qZ (fk S):=by rw [jf,ky]
theorem q5 {S:Sch} (hF:u2 S) {i:Nat} {n:Nd} (h:(aM S)[i]? = some n):dt S.ae.length (aM S).length n:=by
 rw [lB];rw [jf] at h;obtain ⟨t,ht,u,hu,rfl,nU⟩:=u6 h;rw [Nat.zero_add];have HH:=u4 t ⟨_,_,hF.wr t ht⟩ u hu;have hk:=u0 t (hF.kn t ht) u hu;have hk9:=BZ t u hu;have hT:=Eu HH;obtain ⟨Xd,_⟩:=ku hF.lat;have iJ:=cS S.ae;have u3:=hF.ends;obtain ⟨uh,us⟩:=u;simp only [Ty.h,Ty.ps] at hT hk9;have R6:=(lz hk).2;have fC:=hT.own;unfold tY at fC;simp only [aS,Bool.or_eq_true,decide_eq_true_eq] at fC;obtain ⟨⟨⟨⟨o1,o2⟩,o3⟩,o4⟩,o5⟩:=fC;have k1:=hT.k1;have k9:=hT.k9
 have NU:∀ l:List Wd,(labW (aA S.ae) l).1=0->∃ k:Nat,gY S l=k/\k < S.ae.length:=by
  intro l hl;have:=HT (f:=dY S.ae.length (cM (aA S.ae) S.order)) (L:=aA S.ae) (by rw [iJ];exact Xd) hl
  rwa [iJ] at this
 have qP:∀ (p:Ph) (v:Ty) (k':Nat),(p,v)∈us.toList->(p.bare=false->k' + v.nn<=i + 1 + us.nn)->(p.bare=true->sJ S p v k' = -1)/\(p.bare=false->∃ k:Nat,sJ S p v k'=k/\k < qZ (fk S)):=by
  intro p v k' hm eM;refine ⟨fun hb=>by simp [sJ,hb],fun hb=>?_⟩;have hkv:=zE R6 hm hb;obtain ⟨vh,vs⟩:=v;by_cases h9:vh.ag=9
  ·obtain ⟨j,hj⟩:=Option.ne_none_iff_exists'.1 ((lz hkv).1 h9);have pX:=(cF hj).1;rw [jB] at pX;obtain ⟨k,hk⟩:=u3 j pX;have oD:=pu hk;obtain ⟨x,hx⟩:∃ x,S.types[k]? = some x:=⟨_,gE oD.1⟩;have h1:=x6 hx
   grind [zH,firstA,sJ,mA,Ty.h,R4,namedN]
  ·grind [zH,Ty.nn,sJ,mA,Ty.h]
 have BB:∀ p v,(p,v)∈us.toList->(0<=p.wide/\p.wide<=64)/\(0<=p.ck/\p.ck<=3)/\((p.ck=0->p.cn=0)/\(p.ck=1->1<=p.cn)/\(p.ck=2->0<=p.cn/\p.cn<=4096)/\(p.ck=3->p.cn=0))/\(p.bare=true->uh.ag=8):=by
  intro p v hm;obtain ⟨j,hj⟩:=List.mem_iff_getElem?.1 hm
  have hlen:us.len≠0:=by
   cases us with
   | nil=>simp [Pts.toList] at hm
   | cons _ _ _=>simp [Pts.len]
  by_cases h5:uh.ag=5∨uh.ag=6
  ·obtain ⟨q,t',rfl,_,ke,_,_,_⟩:=hT.one h5;simp only [Pts.toList,List.mem_singleton,Prod.mk.injEq] at hm;obtain ⟨rfl,rfl⟩:=hm;obtain ⟨w1,w2,w3,w4⟩:=nf ke;have z1:eB.wide=0:=rfl;have z2:eB.ck=0:=rfl;have z3:eB.cn=0:=rfl;have z4:eB.bare=false:=rfl
   grind
  ·obtain ⟨_,hP⟩:=(hT.many (by omega)).2.2 j p v hj;rcases hP with ⟨hb,h8,_,ke⟩ | ⟨hb,hp,_⟩
   ·obtain ⟨w1,w2,w3,w4⟩:=nf ke;have z1:iD.wide=0:=rfl;have z2:iD.ck=0:=rfl;have z3:iD.cn=0:=rfl;omega
   ·obtain ⟨w1,w2⟩:=HU hp;obtain ⟨w3,w4⟩:=Ew w2
    grind
 have Xe:us.len=0->us = .nil:=fun h=>by
  cases us with
  | nil=>rfl
  | cons _ _ _=>simp [Pts.len] at h
 refine {
  k1:=k1
  k8:=by show uh.ag<=8;omega
  lohi:=hT.int
  lo0:=fun h2=>?_
  Xa:=hT.text
  Xb:=fun h5=>?_
  Xc:=fun h3 h5=>?_
  af:=fun h4=>?_
  Sv:=fun h4=>?_
  leaf:=fun h5=>?_
  one:=fun h5=>?_
  many:=fun h7=>?_
  bare:=fun e he hb=>?_
  fW:=fun e he=>?_ }
 ·show uh.lo=0/\uh.hi=0;exact o1.resolve_left h2
 ·obtain ⟨q,t',rfl,_,_,nq,iI,_⟩:=hT.one (.inl h5);exact ⟨nq,iI⟩
 ·show uh.most=0;exact o2.resolve_left (fun h=>h.elim h3 h5)
 ·obtain ⟨e1,e2,e3,e4⟩:=zG (hT.enum h4);show aA uh.af ≠ []/\(aA uh.af).length<=64/\(aA uh.af).Nodup/\∀ s∈aA uh.af,aZ s=true
  grind [aA,cS]
 ·show aA uh.af=[];have:=o4.resolve_right h4;have:uh.af=[]:=List.eq_nil_of_length_eq_zero this;rw [this];all_goals rfl
 ·show edsP (gY S) S us (i + 1)=[];have hk5:uh.ag < 5:=h5;rw [Xe (o3.resolve_right (by omega))];rfl
 ·show ∃ e,edsP (gY S) S us (i + 1)=[e]/\_;obtain ⟨q,t',rfl,hn,ke,_,_,_⟩:=hT.one h5;refine ⟨uI (gY S) q (sJ S q t' (i + 1)),rfl,?_,hn⟩;exact (nf ke).1
 ·show (edsP (gY S) S us (i + 1)).length<=64/\(_->edsP (gY S) S us (i + 1) ≠ [])/\((edsP (gY S) S us (i + 1)).map Ed.name).Nodup/\∀ e∈edsP (gY S) S us (i + 1),aZ e.name=true;obtain ⟨m1,m2,m3⟩:=hT.many h7;have iM:∀ j x,(pNames us)[j]? = some x->aG (pNames us) j x=0:=by grind [fF,Pts.dO,fG]
  obtain ⟨n1,n2⟩:=u5 iM;refine ⟨by rw [pv];exact m1,fun h8 hn=>m2 h8 ?_,by rw [oq];exact n1,fun e he=>?_⟩
  ·grind [pv,gY]
  ·have:e.name∈aA (pNames us):=by rw [<- oq (lev:=gY S) (s:=S) (k:=i + 1)];exact List.mem_map_of_mem he
   grind [aA]
 ·obtain ⟨p,v,k',h1,rfl,_⟩:=pG he;exact (BB p v h1).2.2.2 hb
 ·obtain ⟨p,v,k',h1,rfl,h3⟩:=pG he;obtain ⟨h4,h5⟩:=qP p v k' h1 h3;obtain ⟨h6,h7,h8,_⟩:=BB p v h1;obtain ⟨h9,vX⟩:=Gj R6 h1;exact { to0:=h4,to1:=h5,lab:=NU _ h9,seen:=NU _ vX,wide:=Lw h6,ck:=h7,cn:=h8 }
theorem Ex {S:Sch} (hF:u2 S):∃ k:Nat,dW S=k/\k < (aM S).length:=by
 rw [lB];have Lf:=hF.kn S.root (by unfold fk;simp);have u3:=hF.ends;have gn:=uZ S;have GO:qZ (fk S)=qZ (fj S) + S.root.nn:=by unfold fk;rw [sN];simp [qZ]
 unfold dW;obtain ⟨ae,order,types,⟨rh,rp⟩⟩:=S;simp only at Lf u3 GO;by_cases h9:rh.ag=9
 ·obtain ⟨j,hj⟩:=Option.ne_none_iff_exists'.1 ((lz Lf).1 h9);have pX:=(cF hj).1;rw [jB] at pX;obtain ⟨k,hk⟩:=u3 j pX;have oD:=pu hk;obtain ⟨x,hx⟩:∃ x,(Sch.mk ae order types (.mk rh rp)).types[k]? = some x:=⟨_,gE oD.1⟩;have h1:=x6 hx
  grind [zH,firstA,mA,Ty.h,R4,namedN]
 ·grind [zH,px,mA,Ty.h]
theorem u7 {lev:List Wd->Int} {s:Sch} {n:Nd}:∀ {l:List Ty} {k:Nat},n∈ndsA lev s l k->∃ t∈l,∃ u∈flatT t,∃ k',n=Oj lev s u k'
 | [],_,h=>by cases h
 | t :: r,k,h=>by
  rw [ndsA] at h;rcases List.mem_append.1 h with h | h
  ·grind [sM]
  ·obtain ⟨t',ht,h⟩:=u7 h;exact ⟨t',fK _ ht,h⟩
theorem kz {S:Sch} {n:Nd} (h:n∈aM S) (hS:S.wt<=1099511627776):n.af.length<=1099511627776/\n.aC.length<=1099511627776:=by
 rw [jf] at h;obtain ⟨t,ht,u,hu,k,rfl⟩:=u7 h;have h1:=zB hS t ht;have h2:=u1 t u hu;obtain ⟨uh,us⟩:=u;have h3:=bi uh.af;have h4:=us.eV
 grind [Ty.wt,Hd.wt,Oj,Ty.h,Ty.ps,cS,pv]
abbrev zNd:List DV:=[.v (.int .i64 0),.v (.int .i64 0),.v (.int .i64 0),.v (.int .i64 0),.v (.int .i64 0),.v (.slice none 0 0),.v (.slice none 0 0)]
structure jF (S:Sch) (ND:List Nd) (PC:List DV):Prop where
 fine:u2 S
 wt:S.wt<=1099511627776
 zq:ND=aM S
 ok:∀ n∈ND,dt S.ae.length ND.length n
 nl:ND.length<=1099511627776
 len:EvP prog 148 [.pt PC 0] (.v (.int .i64 ND.length))
 root:EvP prog 47 [.pt PC 0] (.v (.int .i64 (dW S)))
 aj:∀ (i:Nat) n,ND[i]? = some n->EvP prog 94 [.pt PC 0,.v (.int .i64 i)] (.tup [.agg (nD n),.v (.bool true)])
 Qo:∀ i:Int,(i < 0∨ND.length<=i)->EvP prog 94 [.pt PC 0,.v (.int .i64 i)] (.tup [.agg zNd,.v (.bool false)])
 lat:∃ aH js,(dJ S aH js).OK/\EvP prog 15 [.pt PC 0] (dJ S aH js).pd
theorem Ly {S:Sch} {d:DV} (hS:S.wt<=1099511627776) (h0:(j5 S).1=0) (hd:K9 S d):∃ PC,d = .pt PC 0/\jF S (aM S) PC:=by
 obtain ⟨aH,j6,js,hX,hT,kL,rfl⟩:=hd;have hF:=pF h0;have bY:=fun n (h:n∈aM S)=>kz h hS
 refine ⟨_,rfl,{
  fine:=hF
  wt:=hS
  zq:=rfl
  ok:=fun n hn=>?_
  nl:=by rw [lB];exact Nat.le_trans (Ep S) hS
  len:=qS _ _ _ _ _ _
  root:=D7 _ _ _ _ _ _
  aj:=fun i n h=>D8 _ _ _ _ _ _ i n h (bY n (mG h)).1 (bY n (mG h)).2
  Qo:=fun i h=>D9 _ _ _ _ _ _ i h
  lat:=⟨aH,js,hX,HI _ _ _ _ _ _⟩ }⟩
 obtain ⟨i,hi⟩:=List.mem_iff_getElem?.1 hn;exact q5 hF hi
def Ey (S:Sch) (r:DV):Prop:=((j5 S).1≠0/\r = .tup [.v (.pointer none),(j5 S).d])∨((j5 S).1=0/\∃ PC,jF S (aM S) PC/\r = .tup [.pt PC 0,Ft.d (0,0)])
theorem x7 {S:Sch} (hS:S.wt<=1099511627776) {r:DV} {os:List (List DV)} {tk:List TkE} (h:D5 S r os tk):Ey S r:=by
 unfold D5 at h;by_cases h0:(j5 S).1=0
 ·rw [ai (by rw [h0];simp)] at h;obtain ⟨d,hd,rfl⟩:=h;obtain ⟨PC,rfl,hP⟩:=Ly hS h0 hd;exact .inr ⟨h0,PC,hP,rfl⟩
 ·rw [ap h0] at h;exact .inl ⟨h0,h⟩
inductive Val where
 | mk (k n:Int) (s:ByteArray) (ks:List Val)
def Val.k:Val->Int | .mk k _ _ _=>k
def Val.n:Val->Int | .mk _ n _ _=>n
def Val.s:Val->ByteArray | .mk _ _ s _=>s
def Val.ks:Val->List Val | .mk _ _ _ ks=>ks
mutual
def cj:Val->List DV
 | .mk k n s ks=>[.v (.int .i64 k),.v (.int .i64 n),.v (.string s),.sl 4 (dVals ks) none]
def dVals:List Val->List (List DV)
 | []=>[]
 | v :: r=>cj v :: dVals r
end
theorem kA:∀ l:List Val,dVals l=l.map cj
 | []=>rfl
 | v :: r=>by rw [dVals,kA r];all_goals rfl
theorem cO (l:List Val):(dVals l).length=l.length:=by rw [kA,List.length_map]
theorem kB {l:List Val} {e:Nat} {x:Val} (h:l[e]? = some x):(dVals l)[e]? = some (cj x):=by rw [kA,List.getElem?_map,h];all_goals rfl
theorem Ez {l:List Val} {e:Nat} {x:Val} (h:l[e]? = some x):dVals (l.take e) ++ [cj x]=dVals (l.take (e + 1)):=by
 rw [kA,kA,List.take_add_one,h];simp
mutual
def Val.wt:Val->Nat
 | .mk _ _ s ks=>64 + s.size + eJ ks
def eJ:List Val->Nat
 | []=>0
 | v :: r=>v.wt + eJ r
end
theorem Val.dE:∀ v:Val,64<=v.wt
 | .mk _ _ _ _=>by rw [Val.wt];omega
theorem kC:∀ {l:List Val} {x:Val},x∈l->x.wt<=eJ l
 | v :: r,x,h=>by
  rcases cg h with rfl | h
  ·rw [eJ];omega
  ·have:=kC h;rw [eJ];omega
theorem fm:∀ l:List Val,64 * l.length<=eJ l
 | []=>aU _
 | v :: r=>by
  have:=fm r;have:=v.dE;rw [eJ,List.length_cons];omega
mutual
def B1:Val->Nat
 | .mk _ _ _ ks=>1 + kD ks
def kD:List Val->Nat
 | []=>0
 | v :: r=>B1 v + kD r
end
mutual
def wm:Val->Nat
 | .mk _ _ _ ks=>gB ks + 1
def gB:List Val->Nat
 | []=>0
 | v :: r=>max (wm v) (gB r)
end
mutual
theorem Gk:∀ v:Val,B1 v<=v.wt/\wm v<=v.wt
 | .mk _ _ _ ks=>by
  have:=u9 ks;rw [B1,wm,Val.wt];omega
theorem u9:∀ l:List Val,kD l<=eJ l/\gB l<=eJ l
 | []=>⟨aU _,aU _⟩
 | v :: r=>by
  have h1:=Gk v;have h2:=u9 r;rw [kD,gB,eJ];omega
end
theorem va:∀ (l:List Val) (x:Val),kD (l ++ [x])=kD l + B1 x
 | [],x=>by simp [kD]
 | v :: r,x=>by rw [List.cons_append,kD,kD,va r];omega
theorem vb:∀ (l:List Val) (x:Val),gB (l ++ [x])=max (gB l) (wm x)
 | [],x=>by simp [gB]
 | v :: r,x=>by rw [List.cons_append,gB,gB,vb r];omega
theorem q6 {α:Type} {l:List α} {e:Nat} {x:α} (h:l[e]? = some x):l.take (e + 1)=l.take e ++ [x]:=by rw [List.take_add_one,h];all_goals rfl
theorem EA (l:List Val):∀ e,kD (l.take e)<=eJ l/\gB (l.take e)<=eJ l:=fun e=>by
 have h1:=u9 (l.take e)
 have h2:∀ (l:List Val) e,eJ (l.take e)<=eJ l:=by
  intro l
  induction l with
  | nil=>intro e;simp [eJ]
  | cons v r ih=>
   intro e
   cases e with
   | zero=>simp [eJ]
   | succ e=>have:=ih e;simp only [List.take_succ_cons,eJ];omega
 have:=h2 l e;omega
abbrev szSt (v:Val) (n d e:Nat):St:=
 ⟨[aF 1 0,aw 4 n,aw 5 d,aw 6 e],[cj v],[]⟩
theorem rM:∀ (k:Nat) (v:Val),v.wt<=k->v.wt<=1099511627776->EvP prog 19 [.agg (cj v)] (.tup [.v (.int .i64 (B1 v:Nat)),.v (.int .i64 (wm v:Nat))])
 | 0,v,h,_=>by have:=v.dE;omega
 | k + 1,.mk q n s ks,h,hb=>by
  have ih:=rM k;have dq:=cO ks;have oD:=fm ks;have l8:=EA ks;rw [Val.wt] at h hb;rw [B1,wm];refine eG 35 [.tmp 2,.tmp 3] func19 rfl ntmps19 rfl fun _ _ _ _=>?_;refine lJ (fun e=>szSt (.mk q n s ks) (1 + kD (ks.take e)) (gB (ks.take e)) e) ks.length (bl wB) ?_;intro e he;refine br ?_ ?_<;>intro hL
  ·have ay:e < ks.length:=by have:=hL;simp [dq] at this;exact this
   obtain ⟨x,hx⟩:=gX ay;have Wj:=kC (mG hx);have hc:=va (ks.take e) x;have hd:=vb (ks.take e) x;rw [<- q6 hx] at hc hd;have h1:=l8 (e + 1);have hi:=ih x (by omega) (by omega);have hcx:=Gk x;obtain ⟨xk,xn,xs,xl⟩:=x;refine iX (kB hx) ?_;refine cP Uq hi ?_;have hw:IntKind.i64.wrap (((1 + kD (ks.take e):Nat):Int) + ((B1 (.mk xk xn xs xl):Nat):Int))=((1 + kD (ks.take (e + 1)):Nat):Int):=by rw [wrap64 (by omega) (by omega)];omega
   refine br ?_ ?_<;>intro g
   ·have g:gB (ks.take e) < wm (.mk xk xn xs xl):=sU g;have Db:((wm (.mk xk xn xs xl):Nat):Int)=((gB (ks.take (e + 1)):Nat):Int):=by omega
    exact rE ⟨_,by omega,e + 1,rfl,by omega,rfl⟩ (bl (MA hw Db (nxt ay (by omega))))
   ·have g:¬ gB (ks.take e) < wm (.mk xk xn xs xl):=sU g;have Db:((gB (ks.take e):Nat):Int)=((gB (ks.take (e + 1)):Nat):Int):=by omega
    exact rE ⟨_,by omega,e + 1,rfl,by omega,rfl⟩ (bl (MA hw Db (nxt ay (by omega))))
  ·have hge:e=ks.length:=sW dq hL;subst hge;have h1:=l8 ks.length;rw [List.take_length] at h1 ⊢;have hw:IntKind.i64.wrap (((gB ks:Nat):Int) + 1)=((gB ks + 1:Nat):Int):=by rw [wrap64 (by omega) (by omega)];omega
   refine ⟨_,(pZ hw),rfl⟩
theorem B2:prog.cellsOf 34=4:=by kernel_rfl
end Go.Proofs.YtphonmiflfhdbaaGreat
namespace Go.Proofs.YtphonmiflfhdbaaGreat
open Go Go.RowKit Dv
def tyVS:List TypeId:=[34,32,9,3]
theorem tyVS_ok:∀ t∈tyVS,lj Tryz.prog tyVS t=true:=by
 have h:(tyVS.all fun t=>lj Tryz.prog tyVS t)=true:=by kernel_rfl
 exact fun t ht=>List.all_eq_true.1 h t ht
end Go.Proofs.YtphonmiflfhdbaaGreat
set_option maxRecDepth 100000
namespace Go.Proofs.YtphonmiflfhdbaaGreat
open Go Go.RowKit Dv Go.Proofs.Tryz
def aQ (n u:Int):Int × Bool:=if u < 1 then (0,false) else if n - n % u < -9223372036854775808 then (0,false) else (n - n % u,true)
def EB (r:Int × Bool):DV:=.tup [.v (.int .i64 r.1),.v (.bool r.2)]
theorem B3 {n u:Int} (hu:1<=u):(n.tmod u < 0->n.tmod u + u=n % u)/\(¬ n.tmod u < 0->n.tmod u=n % u):=by
 have h1:=Int.emod_nonneg n (show u≠0 by omega);have h2:=Int.emod_lt_of_pos n (show 0 < u by omega);have h3:=Int.tmod_eq_emod (a:=n) (b:=u);have h4:(u.natAbs:Int)=u:=Int.natAbs_of_nonneg (by omega);rw [h3];split<;>omega
theorem lC (n u:Int) (hn : -9223372036854775808<=n/\n<=9223372036854775807) (hu : -9223372036854775808<=u/\u<=9223372036854775807):EvP prog 156 [.v (.int .i64 n),.v (.int .i64 u)] (EB (aQ n u)):=by
 have hF:aQ n u=if u < 1 then (0,false) else if n - n % u < -9223372036854775808 then (0,false) else (n - n % u,true):=rfl
 generalize aQ n u=F at hF ⊢;refine eG 24 [.tmp 4,.tmp 5] func156 rfl ntmps156 rfl fun _ _ _ _=>?_;refine br ?_ ?_<;>intro c
 ·have c:u < 1:=sU c;rw [ap c] at hF;subst hF;exact ⟨_,ax,rfl⟩
 have c:¬ u < 1:=sU c;rw [ai c] at hF;have hm:=B3 (n:=n) (u:=u) (by omega);have h1:=Int.emod_nonneg n (show u≠0 by omega);have h2:=Int.emod_lt_of_pos n (show 0 < u by omega);have h5 : -u<=n.tmod u/\n.tmod u < u:=by omega
 have GL:IntKind.i64.wrap (-9223372036854775808 + n % u) = -9223372036854775808 + n % u:=wrap64 (by omega) (by omega);refine ⟨⟨rfl,by omega⟩,?_⟩;refine br ?_ ?_<;>intro g
 ·have g:n.tmod u < 0:=sU g;have hw2:IntKind.i64.wrap (n.tmod u + u)=n % u:=by rw [hm.1 g];exact wrap64 (by omega) (by omega)
  refine br ?_ ?_<;>intro h
  ·have h:n < IntKind.i64.wrap (-9223372036854775808 + IntKind.i64.wrap (n.tmod u + u)):=sU h;rw [hw2,GL] at h;rw [ap (by omega)] at hF;subst hF;exact ⟨_,ax,rfl⟩
  ·have h:¬ n < IntKind.i64.wrap (-9223372036854775808 + IntKind.i64.wrap (n.tmod u + u)):=sU h;rw [hw2,GL] at h;rw [ai (by omega)] at hF;have sD:IntKind.i64.wrap (n - IntKind.i64.wrap (n.tmod u + u))=n - n % u:=by rw [hw2];exact wrap64 (by omega) (by omega)
   refine ⟨.tup [.v (.int .i64 (IntKind.i64.wrap (n - IntKind.i64.wrap (n.tmod u + u)))),.v (.bool true)],ax,?_⟩;rw [hF];exact congrArg (fun z=>DV.tup [.v (.int .i64 z),.v (.bool true)]) sD
 ·have g:¬ n.tmod u < 0:=sU g;have hw2:n.tmod u=n % u:=hm.2 g;refine br ?_ ?_<;>intro h
  ·have h:n < IntKind.i64.wrap (-9223372036854775808 + n.tmod u):=sU h;rw [hw2,GL] at h;rw [ap (by omega)] at hF;subst hF;exact ⟨_,ax,rfl⟩
  ·have h:¬ n < IntKind.i64.wrap (-9223372036854775808 + n.tmod u):=sU h;rw [hw2,GL] at h;rw [ai (by omega)] at hF;have sD:IntKind.i64.wrap (n - n.tmod u)=n - n % u:=by rw [hw2];exact wrap64 (by omega) (by omega)
   refine ⟨.tup [.v (.int .i64 (IntKind.i64.wrap (n - n.tmod u))),.v (.bool true)],ax,?_⟩;rw [hF];exact congrArg (fun z=>DV.tup [.v (.int .i64 z),.v (.bool true)]) sD
theorem Sw {q u l:Int} (hu:1<=u) (hl:l<=0):q < l.tdiv u↔q * u < l:=by
 have h1:=Int.mul_tdiv_add_tmod l u;rw [Int.mul_comm] at h1;have hm:=B3 (n:=l) (u:=u) hu;have h2:=Int.emod_nonneg l (show u≠0 by omega);have h3:=Int.emod_lt_of_pos l (show 0 < u by omega)
 have h4 : -u < l.tmod u/\l.tmod u<=0:=by
  have h5:(-l).tmod u = -(l.tmod u):=Int.neg_tmod ..;have h6:(-l).tmod u=(-l) % u:=Int.tmod_eq_emod_of_nonneg (by omega);have h7:=Int.emod_nonneg (-l) (show u≠0 by omega);have h8:=Int.emod_lt_of_pos (-l) (show 0 < u by omega);omega
 constructor
 ·intro h;have:=Int.mul_le_mul_of_nonneg_right (a:=q + 1) (b:=l.tdiv u) (c:=u) (by omega) (by omega);rw [Int.add_mul,Int.one_mul] at this;omega
 ·intro h;rcases Int.lt_or_le q (l.tdiv u) with h9 | h9
  ·exact h9
  ·have:=Int.mul_le_mul_of_nonneg_right (a:=l.tdiv u) (b:=q) (c:=u) (by omega) (by omega);omega
def aX (c:Nat):Nat:=if c < 128 then 1 else if 194<=c/\c<=223 then 2 else if 224<=c/\c<=239 then 3 else if 240<=c/\c<=244 then 4 else 0
def gC (c:Nat):Nat:=if c=224 then 160 else if c=240 then 144 else 128
def gD (c:Nat):Nat:=if c=237 then 159 else if c=244 then 143 else 191
theorem HW (c:Nat):EvP prog 262 [.v (.int .u8 c)] (.tup [.v (.int .i64 (aX c:Nat)),.v (.int .u8 (gC c:Nat)),.v (.int .u8 (gD c:Nat))]):=by
 have hN:aX c=if c < 128 then 1 else if 194<=c/\c<=223 then 2 else if 224<=c/\c<=239 then 3 else if 240<=c/\c<=244 then 4 else 0:=rfl
 have hL:gC c=if c=224 then 160 else if c=240 then 144 else 128:=rfl
 have hH:gD c=if c=237 then 159 else if c=244 then 143 else 191:=rfl
 generalize aX c=N at hN ⊢;generalize gC c=L at hL ⊢;generalize gD c=H at hH ⊢;refine eG 41 [.tmp 2,.tmp 3,.tmp 4] func262 rfl ntmps262 rfl fun _ _ _ _=>?_;refine br ?_ ?_<;>intro c1
 ·have c1:(c:Int) < 128:=sU c1;refine br ?_ ?_<;>intro g
  ·have g:(c:Int)=224:=sU g
   have hn:N=1:=by
    rw [hN]
    repeat' split
    all_goals omega
   have hl:L=160:=by
    rw [hL]
    repeat' split
    all_goals omega
   have hh:H=191:=by
    rw [hH]
    repeat' split
    all_goals omega
   rw [hn,hl,hh];exact ⟨_,ax,rfl⟩
  have Om:¬ (c:Int)=224:=sU g;refine br ?_ ?_<;>intro g
  ·have g:(c:Int)=237:=sU g
   have hn:N=1:=by
    rw [hN]
    repeat' split
    all_goals omega
   have hl:L=128:=by
    rw [hL]
    repeat' split
    all_goals omega
   have hh:H=159:=by
    rw [hH]
    repeat' split
    all_goals omega
   rw [hn,hl,hh];exact ⟨_,ax,rfl⟩
  have On:¬ (c:Int)=237:=sU g;refine br ?_ ?_<;>intro g
  ·have g:(c:Int)=240:=sU g
   have hn:N=1:=by
    rw [hN]
    repeat' split
    all_goals omega
   have hl:L=144:=by
    rw [hL]
    repeat' split
    all_goals omega
   have hh:H=191:=by
    rw [hH]
    repeat' split
    all_goals omega
   rw [hn,hl,hh];exact ⟨_,ax,rfl⟩
  have Oo:¬ (c:Int)=240:=sU g;refine br ?_ ?_<;>intro g
  ·have g:(c:Int)=244:=sU g
   have hn:N=1:=by
    rw [hN]
    repeat' split
    all_goals omega
   have hl:L=128:=by
    rw [hL]
    repeat' split
    all_goals omega
   have hh:H=143:=by
    rw [hH]
    repeat' split
    all_goals omega
   rw [hn,hl,hh];exact ⟨_,ax,rfl⟩
  have Oq:¬ (c:Int)=244:=sU g
  have hn:N=1:=by
   rw [hN]
   repeat' split
   all_goals omega
  have hl:L=128:=by
   rw [hL]
   repeat' split
   all_goals omega
  have hh:H=191:=by
   rw [hH]
   repeat' split
   all_goals omega
  rw [hn,hl,hh];exact ⟨_,ax,rfl⟩
 have c1:¬ (c:Int) < 128:=sU c1;refine br ?_ ?_<;>intro k
 ·have k:194<=(c:Int)/\(c:Int)<=223:=by simpa [ah] using k
  refine br ?_ ?_<;>intro g
  ·have g:(c:Int)=224:=sU g
   have hn:N=2:=by
    rw [hN]
    repeat' split
    all_goals omega
   have hl:L=160:=by
    rw [hL]
    repeat' split
    all_goals omega
   have hh:H=191:=by
    rw [hH]
    repeat' split
    all_goals omega
   rw [hn,hl,hh];exact ⟨_,ax,rfl⟩
  have Om:¬ (c:Int)=224:=sU g;refine br ?_ ?_<;>intro g
  ·have g:(c:Int)=237:=sU g
   have hn:N=2:=by
    rw [hN]
    repeat' split
    all_goals omega
   have hl:L=128:=by
    rw [hL]
    repeat' split
    all_goals omega
   have hh:H=159:=by
    rw [hH]
    repeat' split
    all_goals omega
   rw [hn,hl,hh];exact ⟨_,ax,rfl⟩
  have On:¬ (c:Int)=237:=sU g;refine br ?_ ?_<;>intro g
  ·have g:(c:Int)=240:=sU g
   have hn:N=2:=by
    rw [hN]
    repeat' split
    all_goals omega
   have hl:L=144:=by
    rw [hL]
    repeat' split
    all_goals omega
   have hh:H=191:=by
    rw [hH]
    repeat' split
    all_goals omega
   rw [hn,hl,hh];exact ⟨_,ax,rfl⟩
  have Oo:¬ (c:Int)=240:=sU g;refine br ?_ ?_<;>intro g
  ·have g:(c:Int)=244:=sU g
   have hn:N=2:=by
    rw [hN]
    repeat' split
    all_goals omega
   have hl:L=128:=by
    rw [hL]
    repeat' split
    all_goals omega
   have hh:H=143:=by
    rw [hH]
    repeat' split
    all_goals omega
   rw [hn,hl,hh];exact ⟨_,ax,rfl⟩
  have Oq:¬ (c:Int)=244:=sU g
  have hn:N=2:=by
   rw [hN]
   repeat' split
   all_goals omega
  have hl:L=128:=by
   rw [hL]
   repeat' split
   all_goals omega
  have hh:H=191:=by
   rw [hH]
   repeat' split
   all_goals omega
  rw [hn,hl,hh];exact ⟨_,ax,rfl⟩
 have k194:¬ (194<=(c:Int)/\(c:Int)<=223):=by simpa [ah] using k
 refine br ?_ ?_<;>intro k
 ·have k:224<=(c:Int)/\(c:Int)<=239:=by simpa [ah] using k
  refine br ?_ ?_<;>intro g
  ·have g:(c:Int)=224:=sU g
   have hn:N=3:=by
    rw [hN]
    repeat' split
    all_goals omega
   have hl:L=160:=by
    rw [hL]
    repeat' split
    all_goals omega
   have hh:H=191:=by
    rw [hH]
    repeat' split
    all_goals omega
   rw [hn,hl,hh];exact ⟨_,ax,rfl⟩
  have Om:¬ (c:Int)=224:=sU g;refine br ?_ ?_<;>intro g
  ·have g:(c:Int)=237:=sU g
   have hn:N=3:=by
    rw [hN]
    repeat' split
    all_goals omega
   have hl:L=128:=by
    rw [hL]
    repeat' split
    all_goals omega
   have hh:H=159:=by
    rw [hH]
    repeat' split
    all_goals omega
   rw [hn,hl,hh];exact ⟨_,ax,rfl⟩
  have On:¬ (c:Int)=237:=sU g;refine br ?_ ?_<;>intro g
  ·have g:(c:Int)=240:=sU g
   have hn:N=3:=by
    rw [hN]
    repeat' split
    all_goals omega
   have hl:L=144:=by
    rw [hL]
    repeat' split
    all_goals omega
   have hh:H=191:=by
    rw [hH]
    repeat' split
    all_goals omega
   rw [hn,hl,hh];exact ⟨_,ax,rfl⟩
  have Oo:¬ (c:Int)=240:=sU g;refine br ?_ ?_<;>intro g
  ·have g:(c:Int)=244:=sU g
   have hn:N=3:=by
    rw [hN]
    repeat' split
    all_goals omega
   have hl:L=128:=by
    rw [hL]
    repeat' split
    all_goals omega
   have hh:H=143:=by
    rw [hH]
    repeat' split
    all_goals omega
   rw [hn,hl,hh];exact ⟨_,ax,rfl⟩
  have Oq:¬ (c:Int)=244:=sU g
  have hn:N=3:=by
   rw [hN]
   repeat' split
   all_goals omega
  have hl:L=128:=by
   rw [hL]
   repeat' split
   all_goals omega
  have hh:H=191:=by
   rw [hH]
   repeat' split
   all_goals omega
  rw [hn,hl,hh];exact ⟨_,ax,rfl⟩
 have k224:¬ (224<=(c:Int)/\(c:Int)<=239):=by simpa [ah] using k
 refine br ?_ ?_<;>intro k
 ·have k:240<=(c:Int)/\(c:Int)<=244:=by simpa [ah] using k
  refine br ?_ ?_<;>intro g
  ·have g:(c:Int)=224:=sU g
   have hn:N=4:=by
    rw [hN]
    repeat' split
    all_goals omega
   have hl:L=160:=by
    rw [hL]
    repeat' split
    all_goals omega
   have hh:H=191:=by
    rw [hH]
    repeat' split
    all_goals omega
   rw [hn,hl,hh];exact ⟨_,ax,rfl⟩
  have Om:¬ (c:Int)=224:=sU g;refine br ?_ ?_<;>intro g
  ·have g:(c:Int)=237:=sU g
   have hn:N=4:=by
    rw [hN]
    repeat' split
    all_goals omega
   have hl:L=128:=by
    rw [hL]
    repeat' split
    all_goals omega
   have hh:H=159:=by
    rw [hH]
    repeat' split
    all_goals omega
   rw [hn,hl,hh];exact ⟨_,ax,rfl⟩
  have On:¬ (c:Int)=237:=sU g;refine br ?_ ?_<;>intro g
  ·have g:(c:Int)=240:=sU g
   have hn:N=4:=by
    rw [hN]
    repeat' split
    all_goals omega
   have hl:L=144:=by
    rw [hL]
    repeat' split
    all_goals omega
   have hh:H=191:=by
    rw [hH]
    repeat' split
    all_goals omega
   rw [hn,hl,hh];exact ⟨_,ax,rfl⟩
  have Oo:¬ (c:Int)=240:=sU g;refine br ?_ ?_<;>intro g
  ·have g:(c:Int)=244:=sU g
   have hn:N=4:=by
    rw [hN]
    repeat' split
    all_goals omega
   have hl:L=128:=by
    rw [hL]
    repeat' split
    all_goals omega
   have hh:H=143:=by
    rw [hH]
    repeat' split
    all_goals omega
   rw [hn,hl,hh];exact ⟨_,ax,rfl⟩
  have Oq:¬ (c:Int)=244:=sU g
  have hn:N=4:=by
   rw [hN]
   repeat' split
   all_goals omega
  have hl:L=128:=by
   rw [hL]
   repeat' split
   all_goals omega
  have hh:H=191:=by
   rw [hH]
   repeat' split
   all_goals omega
  rw [hn,hl,hh];exact ⟨_,ax,rfl⟩
 have k240:¬ (240<=(c:Int)/\(c:Int)<=244):=by simpa [ah] using k
 refine br ?_ ?_<;>intro g
 ·have g:(c:Int)=224:=sU g
  have hn:N=0:=by
   rw [hN]
   repeat' split
   all_goals omega
  have hl:L=160:=by
   rw [hL]
   repeat' split
   all_goals omega
  have hh:H=191:=by
   rw [hH]
   repeat' split
   all_goals omega
  rw [hn,hl,hh];exact ⟨_,ax,rfl⟩
 have Om:¬ (c:Int)=224:=sU g;refine br ?_ ?_<;>intro g
 ·have g:(c:Int)=237:=sU g
  have hn:N=0:=by
   rw [hN]
   repeat' split
   all_goals omega
  have hl:L=128:=by
   rw [hL]
   repeat' split
   all_goals omega
  have hh:H=159:=by
   rw [hH]
   repeat' split
   all_goals omega
  rw [hn,hl,hh];exact ⟨_,ax,rfl⟩
 have On:¬ (c:Int)=237:=sU g;refine br ?_ ?_<;>intro g
 ·have g:(c:Int)=240:=sU g
  have hn:N=0:=by
   rw [hN]
   repeat' split
   all_goals omega
  have hl:L=144:=by
   rw [hL]
   repeat' split
   all_goals omega
  have hh:H=191:=by
   rw [hH]
   repeat' split
   all_goals omega
  rw [hn,hl,hh];exact ⟨_,ax,rfl⟩
 have Oo:¬ (c:Int)=240:=sU g;refine br ?_ ?_<;>intro g
 ·have g:(c:Int)=244:=sU g
  have hn:N=0:=by
   rw [hN]
   repeat' split
   all_goals omega
  have hl:L=128:=by
   rw [hL]
   repeat' split
   all_goals omega
  have hh:H=143:=by
   rw [hH]
   repeat' split
   all_goals omega
  rw [hn,hl,hh];exact ⟨_,ax,rfl⟩
 have Oq:¬ (c:Int)=244:=sU g
 have hn:N=0:=by
  rw [hN]
  repeat' split
  all_goals omega
 have hl:L=128:=by
  rw [hL]
  repeat' split
  all_goals omega
 have hh:H=191:=by
  rw [hH]
  repeat' split
  all_goals omega
 rw [hn,hl,hh];exact ⟨_,ax,rfl⟩
def recV:List UInt8->Int
 | [a]=>a.toNat
 | [a,b]=>(a.toNat - 192) * 64 + (b.toNat - 128)
 | [a,b,c]=>(a.toNat - 224) * 4096 + (b.toNat - 128) * 64 + (c.toNat - 128)
 | [a,b,c,d]=>(a.toNat - 240) * 262144 + (b.toNat - 128) * 4096 + (c.toNat - 128) * 64 + (d.toNat - 128)
 | _=>0
def Ot:List UInt8->Bool
 | [a]=>decide (a.toNat < 128)
 | [a,b]=>decide (192<=a.toNat/\a.toNat < 224/\128<=b.toNat/\b.toNat < 192)
 | [a,b,c]=>decide (224<=a.toNat/\a.toNat < 240/\128<=b.toNat/\b.toNat < 192/\128<=c.toNat/\c.toNat < 192)
 | [a,b,c,d]=>decide (240<=a.toNat/\a.toNat < 248/\128<=b.toNat/\b.toNat < 192/\128<=c.toNat/\c.toNat < 192/\128<=d.toNat/\d.toNat < 192)
 | _=>false
theorem HX {n:Int} (h1 : -2147483648<=n) (h2:n<=2147483647):IntKind.i32.wrap n=n:=by
 simp [IntKind.wrap,IntKind.min,IntKind.max,IntKind.signed,IntKind.bits];omega
theorem Ou {x:Nat} (h:x < 4294967296):(BitVec.ofInt 32 (x:Int)).toNat=x:=by
 rw [BitVec.toNat_ofInt];omega
theorem Lz {x m:Nat} (k:Nat) (hk:m=2 ^ k - 1) (hm:m < 256) (h:x < 256):IntKind.i32.wrap ((BitVec.ofInt IntKind.i32.bits (IntKind.i32.wrap (x:Int)) &&& BitVec.ofInt IntKind.i32.bits (m:Int)).toNat:Nat)=((x % 2 ^ k:Nat):Int):=by
 rw [HX (n:=(x:Int)) (by omega) (by omega)];show IntKind.i32.wrap ((BitVec.ofInt 32 (x:Int) &&& BitVec.ofInt 32 (m:Int)).toNat:Nat)=_;rw [BitVec.toNat_and,Ou (by omega),Ou (by omega),hk,Nat.and_two_pow_sub_one_eq_mod];have:=Nat.mod_le x (2 ^ k);exact HX (by omega) (by omega)
theorem x8 {x:Nat} (hx:x < 256):IntKind.i32.wrap (IntKind.u8.wrap ((BitVec.ofInt IntKind.u8.bits (x:Int) &&& BitVec.ofInt IntKind.u8.bits 63).toNat:Nat))=((x % 64:Nat):Int):=by
 show IntKind.i32.wrap (IntKind.u8.wrap ((BitVec.ofInt 8 (x:Int) &&& BitVec.ofInt 8 63).toNat:Nat))=_;have e:(BitVec.ofInt 8 (x:Int)).toNat=x:=by rw [BitVec.toNat_ofInt];omega
 rw [BitVec.toNat_and,e,show (BitVec.ofInt 8 63).toNat=2 ^ 6 - 1 from rfl,Nat.and_two_pow_sub_one_eq_mod];rw [IntKind.wrap_u8'];rw [HX (by omega) (by omega)];omega
theorem HY {x y:Nat} (h:x < 1000000) (hy:y < 64):IntKind.i32.wrap ((BitVec.ofInt IntKind.i32.bits (IntKind.i32.wrap ((x:Int) * 2 ^ min (Int.toNat 6) IntKind.i32.bits)) ||| BitVec.ofInt IntKind.i32.bits (y:Int)).toNat:Nat)=((x * 64 + y:Nat):Int):=by
 show IntKind.i32.wrap ((BitVec.ofInt 32 (IntKind.i32.wrap ((x:Int) * 64)) ||| BitVec.ofInt 32 (y:Int)).toNat:Nat)=_;rw [HX (n:=(x:Int) * 64) (by omega) (by omega),show (x:Int) * 64=((x * 64:Nat):Int) by omega,BitVec.toNat_or,Ou (by omega),Ou (by omega)];have:=Nat.shiftLeft_add_eq_or_of_lt (i:=6) (b:=y) hy x;rw [Nat.shiftLeft_eq] at this
 grind [HX]
theorem wo {s:ByteArray} {l:List UInt8} (hl:tx s=l) {z:Int} (k:Nat) (hz:z.toNat=k):bm s z.toNat=(l.getD k 0).toNat:=by
 rw [hz,<- hl];all_goals rfl
theorem EC (s:ByteArray) (h:1<=s.size/\s.size<=4):Ev prog 263 [.v (.string s)] [] [] (fun r _ _=>∃ z:Int,r = .v (.int .i32 z)/\(Ot (tx s)=true->z=recV (tx s))):=by
 have jv:=gP s;refine eG 57 [.tmp 2] func263 rfl ntmps263 rfl fun _ _ _ _=>?_;refine br ?_ ?_<;>intro c1
 ·refine ⟨⟨by omega,by omega⟩,?_⟩;have c1:s.size=1:=by have:=of_decide_eq_true c1;omega
  obtain ⟨a,hl⟩:∃ a,tx s=[a]:=by
   rw [c1] at jv
   match tx s,jv with
   | [a],_=>exact ⟨a,rfl⟩
  refine ⟨_,rfl,fun _=>?_⟩;have ha:=a.toNat_lt;rw [wo hl 0 rfl,hl];exact HX (by show _<=(a.toNat:Int);omega) (by show (a.toNat:Int)<=_;omega)
 ·refine dI ?_;refine ⟨⟨by omega,by omega⟩,?_⟩;have hw7:IntKind.i64.wrap (7 - (s.size:Int))=7 - s.size:=wrap64 (by omega) (by omega);have hw2:IntKind.i64.wrap (1 + 1)=2:=rfl;have GL:IntKind.i64.wrap (IntKind.i64.wrap (1 + 1) + 1)=3:=rfl
  have c1:¬ s.size=1:=by
   have:=of_decide_eq_false c1;omega
  refine ⟨by rw [hw7];omega,?_⟩;refine br ?_ ?_<;>intro c4
  ·have c4:s.size=4:=by have:=of_decide_eq_true c4;omega
   refine ⟨by omega,?_⟩;refine ⟨⟨by first | omega | (rw [hw2];omega),by first | omega | (rw [hw2];omega)⟩,?_⟩;refine ⟨by omega,?_⟩;refine ⟨⟨by first | omega | (rw [hw2];omega),by first | omega | (rw [hw2];omega)⟩,?_⟩;refine ⟨by omega,?_⟩;refine ⟨⟨by first | omega | (rw [GL];omega),by first | omega | (rw [GL];omega)⟩,?_⟩
   obtain ⟨a,b,c,d,hl⟩:∃ a b c d,tx s=[a,b,c,d]:=by
    rw [c4] at jv
    match tx s,jv with
    | [a,b,c,d],_=>exact ⟨a,b,c,d,rfl⟩
   refine ⟨_,rfl,fun hi=>?_⟩;have ha:=a.toNat_lt;have hb:=b.toNat_lt;have hc:=c.toNat_lt;have hd:=d.toNat_lt;have hm:IntKind.i32.wrap (IntKind.i32.wrap (1 * 2 ^ min (IntKind.i64.wrap (7 - (s.size:Int))).toNat IntKind.i32.bits) - 1)=((7:Nat):Int):=by rw [c4];all_goals rfl
   rw [hm,wo hl 0 rfl,wo hl 1 rfl,wo hl 2 rfl,wo hl 3 rfl];simp only [List.getD_cons_zero,List.getD_cons_succ];rw [Lz 3 rfl (by omega) ha,x8 hb,HY (by omega) (by omega),x8 hc,HY (by omega) (by omega),x8 hd,HY (by omega) (by omega)];rw [hl] at hi ⊢;rw [Ot,decide_eq_true_iff] at hi;simp only [recV];omega
  have c4:¬ s.size=4:=by have:=of_decide_eq_false c4;omega
  refine br ?_ ?_<;>intro c3
  ·have c3:s.size=3:=by have:=of_decide_eq_true c3;omega
   refine ⟨by omega,?_⟩;refine ⟨⟨by first | omega | (rw [hw2];omega),by first | omega | (rw [hw2];omega)⟩,?_⟩;refine ⟨by omega,?_⟩;refine ⟨⟨by first | omega | (rw [hw2];omega),by first | omega | (rw [hw2];omega)⟩,?_⟩
   obtain ⟨a,b,c,hl⟩:∃ a b c,tx s=[a,b,c]:=by
    rw [c3] at jv
    match tx s,jv with
    | [a,b,c],_=>exact ⟨a,b,c,rfl⟩
   refine ⟨_,rfl,fun hi=>?_⟩;have ha:=a.toNat_lt;have hb:=b.toNat_lt;have hc:=c.toNat_lt;have hm:IntKind.i32.wrap (IntKind.i32.wrap (1 * 2 ^ min (IntKind.i64.wrap (7 - (s.size:Int))).toNat IntKind.i32.bits) - 1)=((15:Nat):Int):=by rw [c3];all_goals rfl
   rw [hm,wo hl 0 rfl,wo hl 1 rfl,wo hl 2 rfl];simp only [List.getD_cons_zero,List.getD_cons_succ];rw [Lz 4 rfl (by omega) ha,x8 hb,HY (by omega) (by omega),x8 hc,HY (by omega) (by omega)];rw [hl] at hi ⊢;rw [Ot,decide_eq_true_iff] at hi;simp only [recV];omega
  have c3:¬ s.size=3:=by have:=of_decide_eq_false c3;omega
  refine br ?_ ?_<;>intro c2
  ·have c2:s.size=2:=by have:=of_decide_eq_true c2;omega
   refine ⟨by omega,?_⟩;refine ⟨⟨by first | omega | (rw [hw2];omega),by first | omega | (rw [hw2];omega)⟩,?_⟩
   obtain ⟨a,b,hl⟩:∃ a b,tx s=[a,b]:=by
    rw [c2] at jv
    match tx s,jv with
    | [a,b],_=>exact ⟨a,b,rfl⟩
   refine ⟨_,rfl,fun hi=>?_⟩;have ha:=a.toNat_lt;have hb:=b.toNat_lt;have hm:IntKind.i32.wrap (IntKind.i32.wrap (1 * 2 ^ min (IntKind.i64.wrap (7 - (s.size:Int))).toNat IntKind.i32.bits) - 1)=((31:Nat):Int):=by rw [c2];all_goals rfl
   rw [hm,wo hl 0 rfl,wo hl 1 rfl];simp only [List.getD_cons_zero,List.getD_cons_succ];rw [Lz 5 rfl (by omega) ha,x8 hb,HY (by omega) (by omega)];rw [hl] at hi ⊢;rw [Ot,decide_eq_true_iff] at hi;simp only [recV];omega
  ·exfalso;have:=of_decide_eq_false c2;omega
def iK (c i b:Nat):Bool:=if i=0 then decide (gC c<=b) && decide (b<=gD c) else decide (128<=b) && decide (b<=191)
def allC (c:Nat) (r:List UInt8) (k:Nat):Bool:=(List.range k).all fun i=>match r[i]? with
 | some b=>iK c i b.toNat
 | none=>false
theorem HZ (c:Nat) (r:List UInt8) (k:Nat):allC c r (k + 1)=(allC c r k && match r[k]? with | some b=>iK c k b.toNat | none=>false):=by grind [allC]
theorem sO {c:Nat} {r:List UInt8} {k n:Nat} (h:k < n) (hk:(match r[k]? with | some b=>iK c k b.toNat | none=>false)=false):allC c r n=false:=by grind [allC]
def okU:List UInt8->Bool
 | []=>false
 | c :: r=>decide (1<=aX c.toNat) && allC c.toNat r (aX c.toNat - 1)
def j7:List UInt8->Nat
 | []=>0
 | c :: r=>if okU (c :: r)=true then aX c.toNat else 1
theorem Sx {c:UInt8} {r:List UInt8} (h:okU (c :: r)=true):Ot ((c :: r).take (aX c.toNat))=true:=by
 unfold okU at h;rw [aS,decide_eq_true_iff] at h;obtain ⟨h1,h2⟩:=h;have hb:∀ i,i < aX c.toNat - 1->∃ b:UInt8,r[i]? = some b/\128<=b.toNat/\b.toNat < 192:=fun i hi=>by grind [allC,iK,gC,gD]
 have hn:(aX c.toNat=1/\c.toNat < 128)∨(aX c.toNat=2/\192<=c.toNat/\c.toNat < 224)∨(aX c.toNat=3/\224<=c.toNat/\c.toNat < 240)∨(aX c.toNat=4/\240<=c.toNat/\c.toNat < 248):=by grind [aX]
 rcases hn with ⟨hn,hc⟩ | ⟨hn,hc⟩ | ⟨hn,hc⟩ | ⟨hn,hc⟩<;>rw [hn] at hb ⊢
 ·simp [Ot,hc]
 ·obtain ⟨b,h5,h6⟩:=hb 0 (by omega)
  match r,h5 with
  | x :: r,h5=>grind [Ot]
 ·obtain ⟨b,h5,h6⟩:=hb 0 (by omega);obtain ⟨b',h7,h8⟩:=hb 1 (by omega)
  match r,h5,h7 with
  | x :: y :: r,h5,h7=>grind [Ot]
 ·obtain ⟨b,h5,h6⟩:=hb 0 (by omega);obtain ⟨b',h7,h8⟩:=hb 1 (by omega);obtain ⟨b2,h9,vX⟩:=hb 2 (by omega)
  match r,h5,h7,h9 with
  | x :: y :: v :: r,h5,h7,h9=>simp_all [Ot]
set_option maxHeartbeats 4000000 in
theorem H0 (s:ByteArray) (aK:Nat) (hs:s.size<=1099511627776) (c:UInt8) (r:List UInt8) (h:(tx s).drop aK=c :: r) :
  Ev prog 233 [.v (.string s),.v (.int .i64 aK)] [] [] (fun d _ _=>∃ (z:Int) (n:Nat),d = .tup [.v (.int .i32 z),.v (.int .i64 n),.v (.bool (okU (c :: r)))]/\(okU (c :: r)=true->n=aX c.toNat/\z=recV ((c :: r).take n))/\1<=n):=by
 have hlen:aK < s.size:=by
  have:=congrArg List.length h;rw [List.length_drop,gP] at this;simp at this;omega
 have hB:tx (s.extract (aK:Int).toNat (s.size:Int).toNat)=c :: r:=by
  rw [<- h];simp [tx,jV];exact List.take_of_length_le (by rw [List.length_drop];have:=gP s;unfold tx at this;omega)
 have bY:(s.extract (aK:Int).toNat (s.size:Int).toNat).size=r.length + 1:=by rw [<- gP,hB];all_goals rfl
 have My:∀ (k:Nat) b,r[k]? = some b->bm (s.extract (aK:Int).toNat (s.size:Int).toNat) (k + 1)=b.toNat:=fun k b hk=>by
  show ((tx _).getD (k + 1) 0).toNat=_;rw [hB];simp [ek,hk]
 have NV:EvP prog 262 [.v (.int .u8 (bm (s.extract (aK:Int).toNat (s.size:Int).toNat) 0:Nat))] (.tup [.v (.int .i64 (aX c.toNat:Nat)),.v (.int .u8 (gC c.toNat:Nat)),.v (.int .u8 (gD c.toNat:Nat))]):=by
  have:bm (s.extract (aK:Int).toNat (s.size:Int).toNat) 0=c.toNat:=by
   show ((tx _).getD 0 0).toNat=_;rw [hB];rfl
  rw [this];exact HW c.toNat
 have hv:=fun (k:Nat) (h1:1<=k) (h2:k<=4) (h3:k<=r.length + 1)=>EC ((s.extract (aK:Int).toNat (s.size:Int).toNat).extract 0 k) (by
  have:((s.extract (aK:Int).toNat (s.size:Int).toNat).extract 0 k).size=k:=by
   rw [ByteArray.size_extract,bY];omega
  omega)
 have hu:okU (c :: r)=(decide (1<=aX c.toNat) && allC c.toNat r (aX c.toNat - 1)):=rfl;have v8:=Sx (c:=c) (r:=r);generalize okU (c :: r)=U at hu v8 ⊢
 have hn4:aX c.toNat<=4:=by
  unfold aX
  repeat' split
  all_goals omega
 refine eG 60 [.tmp 4,.tmp 5,.tmp 6] func233 rfl ntmps233 rfl fun _ _ _ _=>?_;refine br (fun c=>absurd c (by simp [aq];omega)) (fun _=>?_);refine ⟨⟨by omega,by omega,by omega⟩,?_⟩;refine ⟨⟨by omega,by rw [bY];omega⟩,?_⟩;refine cP Vv NV ?_;refine br ?_ ?_<;>intro g
 ·have g:aX c.toNat=0:=by have:=of_decide_eq_true g;omega
  have bL:U=false:=by rw [hu,g];all_goals rfl
  subst bL;exact ⟨.tup [.v (.int .i32 0),.v (.int .i64 (1:Nat)),.v (.bool false)],ax,0,1,rfl,fun h=>(by cases h),by omega⟩
 have g:1<=aX c.toNat:=by have:=of_decide_eq_false g;omega
 refine aY (fun j st=>∃ i:Nat,st=⟨[(0,⟨[],.v (.string (s.extract (aK:Int).toNat (s.size:Int).toNat))⟩),aw 7 (aX c.toNat:Nat),(8,⟨[],.v (.int .u8 ((if i=0 then gC c.toNat else 128:Nat):Int))⟩),(9,⟨[],.v (.int .u8 ((if i=0 then gD c.toNat else 191:Nat):Int))⟩),aw 10 ((i + 1:Nat):Int)],[],[]⟩/\i + 1<=aX c.toNat/\allC c.toNat r i=true/\j=aX c.toNat - (i + 1)) (aX c.toNat - (0 + 1))
  ⟨[(0,⟨[],.v (.string (s.extract (aK:Int).toNat (s.size:Int).toNat))⟩),aw 7 (aX c.toNat:Nat),(8,⟨[],.v (.int .u8 ((if 0=0 then gC c.toNat else 128:Nat):Int))⟩),(9,⟨[],.v (.int .u8 ((if 0=0 then gD c.toNat else 191:Nat):Int))⟩),aw 10 ((0 + 1:Nat):Int)],[],[]⟩ (bl jX) ⟨0,rfl,by omega,rfl,by omega⟩ ?_
 rintro j st ⟨i,rfl,hi,ha,rfl⟩;refine br ?_ ?_<;>intro hL
 ·have ay:i + 1 < aX c.toNat:=by have:=of_decide_eq_true hL;omega
  refine br ?_ ?_<;>intro k
  ·have k:i < r.length:=by
    have:=k;have nu:(s.extract aK s.size).size=r.length + 1:=bY;simp [nu] at this;omega
   obtain ⟨b,hb⟩:∃ b,r[i]? = some b:=⟨_,gE k⟩;have Ta:=My i b hb;refine ⟨⟨by omega,by rw [bY];omega⟩,?_⟩
   have VE:iK c.toNat i b.toNat=(decide ((if i=0 then gC c.toNat else 128)<=b.toNat) && decide (b.toNat<=(if i=0 then gD c.toNat else 191))):=by
    unfold iK;split<;>rfl
   have has:=HZ c.toNat r i;rw [ha,hb,Bool.true_and] at has;simp only [VE] at has;have e:bm (s.extract (aK:Int).toNat (s.size:Int).toNat) (((i + 1:Nat):Int)).toNat=b.toNat:=Ta;refine br ?_ ?_<;>intro k2
   ·have k2:(if i=0 then gC c.toNat else 128)<=b.toNat:=by
     have k3:=k2;rw [e] at k3;generalize (if i=0 then gC c.toNat else 128)=lo at k3 ⊢;simp [aq] at k3;omega
    refine ⟨⟨by omega,by rw [bY];omega⟩,?_⟩;refine br ?_ ?_<;>intro k4
    ·have k4:¬ b.toNat<=(if i=0 then gD c.toNat else 191):=by
      have k3:=k4;rw [e] at k3;generalize (if i=0 then gD c.toNat else 191)=hi at k3 ⊢;simp [aq] at k3;omega
     have hf:=sO (c:=c.toNat) (r:=r) (k:=i) (n:=aX c.toNat - 1) (by omega) (by rw [hb];simp only [VE];simp [k4]);rw [hf,Bool.and_false] at hu;subst hu;exact ⟨.tup [.v (.int .i32 0),.v (.int .i64 ((i + 1:Nat):Int)),.v (.bool false)],ax,0,i + 1,rfl,fun h=>(by cases h),by omega⟩
    ·have k4:b.toNat<=(if i=0 then gD c.toNat else 191):=by
      have k3:=k4;rw [e] at k3;generalize (if i=0 then gD c.toNat else 191)=hi at k3 ⊢;simp [aq] at k3;omega
     rw [decide_eq_true k2,decide_eq_true k4] at has;exact rE ⟨_,by omega,i + 1,rfl,by omega,has,rfl⟩ (bl (cQ (nxt ay (by omega))))
   ·have k2:¬ (if i=0 then gC c.toNat else 128)<=b.toNat:=by
     have k3:=k2;rw [e] at k3;generalize (if i=0 then gC c.toNat else 128)=lo at k3 ⊢;simp [aq] at k3;omega
    have hf:=sO (c:=c.toNat) (r:=r) (k:=i) (n:=aX c.toNat - 1) (by omega) (by rw [hb];simp only [VE];simp [k2]);rw [hf,Bool.and_false] at hu;subst hu;exact ⟨.tup [.v (.int .i32 0),.v (.int .i64 ((i + 1:Nat):Int)),.v (.bool false)],ax,0,i + 1,rfl,fun h=>(by cases h),by omega⟩
  ·have k:r.length<=i:=by
    have:=k;have nu:(s.extract aK s.size).size=r.length + 1:=bY;simp [nu] at this;omega
   have hf:=sO (c:=c.toNat) (r:=r) (k:=i) (n:=aX c.toNat - 1) (by omega) (by rw [oE k]);rw [hf,Bool.and_false] at hu;subst hu;exact ⟨.tup [.v (.int .i32 0),.v (.int .i64 ((i + 1:Nat):Int)),.v (.bool false)],ax,0,i + 1,rfl,fun h=>(by cases h),by omega⟩
 ·have hge:i + 1=aX c.toNat:=by have:=of_decide_eq_false hL;omega
  have hu1:U=true:=by
   rw [hu,<- hge];simp [ha]
  subst hu1
  have gn:aX c.toNat<=r.length + 1:=by
   rcases Nat.lt_or_ge r.length (aX c.toNat - 1) with h | h
   ·have hf:=sO (c:=c.toNat) (r:=r) (k:=r.length) (n:=aX c.toNat - 1) h (by rw [oE (aU _)]);rw [<- hge,Nat.add_sub_cancel,ha] at hf;cases hf
   ·omega
  have hv:=hv (aX c.toNat) (by omega) hn4 gn;refine ⟨⟨by omega,by omega,by rw [bY];omega⟩,?_⟩;refine cp Vw rfl hv ax (fun q hq=>?_);obtain ⟨z,rfl,hz⟩:=hq;rw [show tx ((s.extract (aK:Int).toNat (s.size:Int).toNat).extract 0 (aX c.toNat))=(c :: r).take (aX c.toNat) from by rw [<- hB,(by simp [tx]:∀ (B:ByteArray) k,tx (B.extract 0 k)=(tx B).take k)]] at hz;exact ⟨.tup [.v (.int .i32 z),.v (.int .i64 (aX c.toNat:Nat)),.v (.bool true)],ax,z,aX c.toNat,rfl,fun _=>⟨rfl,hz (v8 rfl)⟩,by omega⟩
def LA (z:Int):Bool:=decide (0<=z) && decide (z<=1114111) && (decide (z < 55296) || decide (57343 < z))
def H3 (n:Nat):List UInt8:=
 if n < 128 then [UInt8.ofNat n] else if n < 2048 then [UInt8.ofNat (192 + n / 64),UInt8.ofNat (128 + n % 64)]
 else if n < 65536 then [UInt8.ofNat (224 + n / 4096),UInt8.ofNat (128 + n / 64 % 64),UInt8.ofNat (128 + n % 64)]
 else [UInt8.ofNat (240 + n / 262144),UInt8.ofNat (128 + n / 4096 % 64),UInt8.ofNat (128 + n / 64 % 64),UInt8.ofNat (128 + n % 64)]
def Xf (z:Int):List UInt8:=if LA z=true then H3 z.toNat else []
theorem pH (c:UInt8) (r:List UInt8):okU (c :: r)=(decide (1<=aX c.toNat) && allC c.toNat r (aX c.toNat - 1)):=rfl
def Sy (l:List UInt8):Bool:=LA (recV l) && decide (Xf (recV l)=l)
theorem jS {k:Nat} {a:UInt8} (hk:k < 256):UInt8.ofNat k=a↔k=a.toNat:=by
 constructor
 ·rintro rfl;rw [UInt8.toNat_ofNat'];omega
 ·rintro rfl;exact UInt8.ofNat_toNat
theorem sP (l:List UInt8) {v:Int} (hv:recV l=v):Sy l=true↔(0<=v/\v<=1114111/\(v < 55296∨57343 < v))/\H3 v.toNat=l:=by grind [Sy,Xf,LA,recV]
theorem kE (c:Nat):(c=224/\gC c=160)∨(c=240/\gC c=144)∨(c≠224/\c≠240/\gC c=128):=by
 unfold gC
 repeat' split
 all_goals omega
theorem kF (c:Nat):(c=237/\gD c=159)∨(c=244/\gD c=143)∨(c≠237/\c≠244/\gD c=191):=by
 unfold gD
 repeat' split
 all_goals omega
theorem contB_0 (c b:Nat):iK c 0 b=true↔gC c<=b/\b<=gD c:=by grind [iK]
theorem pI (c k b:Nat):iK c (k + 1) b=true↔128<=b/\b<=191:=by grind [iK]
theorem allC_1 (c:Nat) (b:UInt8) (r:List UInt8):allC c (b :: r) 1=iK c 0 b.toNat:=by simp [allC,List.range_succ]
theorem allC_2 (c:Nat) (b d:UInt8) (r:List UInt8):allC c (b :: d :: r) 2=(iK c 0 b.toNat && iK c 1 d.toNat):=by simp [allC,List.range_succ]
theorem allC_3 (c:Nat) (b d e:UInt8) (r:List UInt8):allC c (b :: d :: e :: r) 3=(iK c 0 b.toNat && iK c 1 d.toNat && iK c 2 e.toNat):=by simp [allC,List.range_succ,Bool.and_assoc]
theorem lead_1 (a:Nat):aX a=1↔a < 128:=by
 unfold aX;repeat' split
 all_goals omega
theorem lead_2 (a:Nat):aX a=2↔194<=a/\a<=223:=by
 unfold aX;repeat' split
 all_goals omega
theorem lead_3 (a:Nat):aX a=3↔224<=a/\a<=239:=by
 unfold aX;repeat' split
 all_goals omega
theorem lead_4 (a:Nat):aX a=4↔240<=a/\a<=244:=by
 unfold aX;repeat' split
 all_goals omega
theorem wf_1 (a:UInt8) (r:List UInt8):Sy [a]=true↔okU (a :: r)=true/\aX a.toNat=1:=by
 have ha:=a.toNat_lt;rw [sP _ (v:=(a.toNat:Int)) rfl];rw [jV];unfold H3;rw [pH];constructor
 ·intro ⟨h1,h2⟩;have:a.toNat < 128:=by grind
  have:=(lead_1 _).2 this;rw [this];exact ⟨rfl,rfl⟩
 ·intro ⟨_,h2⟩;have h2:=(lead_1 _).1 h2;rw [ap h2];exact ⟨by omega,by rw [UInt8.ofNat_toNat]⟩
theorem wf_2 (a b:UInt8) (r:List UInt8):Sy [a,b]=true↔okU (a :: b :: r)=true/\aX a.toNat=2:=by
 have ha:=a.toNat_lt;have hb:=b.toNat_lt;rw [sP _ (v:=((a.toNat:Int) - 192) * 64 + ((b.toNat:Int) - 128)) rfl];unfold H3;rw [pH];constructor
 ·grind [jS,lead_2,allC,allC_1,contB_0,kE,kF]
 ·intro ⟨h1,h2⟩;rw [h2] at h1;have h1:(true && allC _ _ 1)=true:=h1;rw [Bool.true_and,allC_1,contB_0] at h1;have hL:=kE a.toNat;have hH:=kF a.toNat
  grind [lead_2,jS]
theorem wf_3 (a b c:UInt8) (r:List UInt8):Sy [a,b,c]=true↔okU (a :: b :: c :: r)=true/\aX a.toNat=3:=by
 have ha:=a.toNat_lt;have hb:=b.toNat_lt;have hc:=c.toNat_lt;rw [sP _ (v:=((a.toNat:Int) - 224) * 4096 + ((b.toNat:Int) - 128) * 64 + ((c.toNat:Int) - 128)) rfl];unfold H3;rw [pH];constructor
 ·intro ⟨h1,h2⟩;generalize hn:((((a.toNat:Int) - 224) * 4096 + ((b.toNat:Int) - 128) * 64 + ((c.toNat:Int) - 128))).toNat=n at h2
  repeat' split at h2
  any_goals (simp at h2;done)
  simp only [List.cons.injEq,and_true] at h2;rw [jS (by omega),jS (by omega),jS (by omega)] at h2
  grind [lead_3,allC,allC_2,contB_0,pI,kE,kF]
 ·intro ⟨h1,h2⟩;rw [h2] at h1;have h1:(true && allC _ _ 2)=true:=h1;rw [Bool.true_and,allC_2,aS,contB_0,pI _ 0] at h1;have hL:=kE a.toNat;have hH:=kF a.toNat;have h2:=(lead_3 _).1 h2;rw [ai (by omega),ai (by omega),ap (by omega)];simp only [List.cons.injEq,and_true]
  grind [jS]
theorem wf_4 (a b c d:UInt8) (r:List UInt8):Sy [a,b,c,d]=true↔okU (a :: b :: c :: d :: r)=true/\aX a.toNat=4:=by
 have ha:=a.toNat_lt;have hb:=b.toNat_lt;have hc:=c.toNat_lt;have hd:=d.toNat_lt;rw [sP _ (v:=((a.toNat:Int) - 240) * 262144 + ((b.toNat:Int) - 128) * 4096 + ((c.toNat:Int) - 128) * 64 + ((d.toNat:Int) - 128)) rfl];unfold H3;rw [pH];constructor
 ·intro ⟨h1,h2⟩;generalize hn:((((a.toNat:Int) - 240) * 262144 + ((b.toNat:Int) - 128) * 4096 + ((c.toNat:Int) - 128) * 64 + ((d.toNat:Int) - 128))).toNat=n at h2
  repeat' split at h2
  any_goals (simp at h2;done)
  simp only [List.cons.injEq,and_true] at h2;rw [jS (by omega),jS (by omega),jS (by omega),jS (by omega)] at h2
  grind [lead_4,allC,allC_3,contB_0,pI,kE,kF]
 ·intro ⟨h1,h2⟩;rw [h2] at h1;have h1:(true && allC _ _ 3)=true:=h1;rw [Bool.true_and,allC_3,aS,aS,contB_0,pI _ 0,pI _ 1] at h1;have hL:=kE a.toNat;have hH:=kF a.toNat;have h2:=(lead_4 _).1 h2;rw [ai (by omega),ai (by omega),ai (by omega)];simp only [List.cons.injEq,and_true];rw [jS (by omega),jS (by omega),jS (by omega),jS (by omega)];omega
theorem Gl (a:Nat):aX a<=4:=by
 unfold aX;repeat' split
 all_goals omega
theorem Gm {l:List UInt8} (h:okU l=true):∃ c r,l=c :: r/\1<=aX c.toNat/\aX c.toNat<=l.length/\j7 l=aX c.toNat:=by
 cases l with
 | nil=>cases h
 | cons c r=>
  refine ⟨c,r,rfl,?_,?_,?_⟩
  ·grind [okU]
  ·have h0:=h;unfold okU at h;rw [aS] at h;rcases Nat.lt_or_ge r.length (aX c.toNat - 1) with g | g
   ·have h2:=h.2;unfold allC at h2;rw [List.all_eq_true] at h2;have:=h2 r.length (List.mem_range.2 g)
    grind
   ·rw [List.length_cons];omega
  ·show (if _ then _ else _)=_;rw [ap h]
theorem Xg (c:UInt8) (r:List UInt8) (n:Nat) (h1:1<=n) (h4:n<=4) (hl:n<=r.length + 1):Sy ((c :: r).take n)=(okU (c :: r) && decide (aX c.toNat=n)):=by
 apply Bool.eq_iff_iff.2;rw [aS,decide_eq_true_iff]
 match n,h1,h4,hl with
 | 1,_,_,_=>exact wf_1 c r
 | 2,_,_,h=>match r,h with
  | b :: r,_=>exact wf_2 c b r
 | 3,_,_,h=>match r,h with
  | b :: d :: r,_=>exact wf_3 c b d r
 | 4,_,_,h=>match r,h with
  | b :: d :: e :: r,_=>exact wf_4 c b d e r
theorem iP {l:List UInt8} (h:l ≠ []):1<=j7 l/\j7 l<=l.length:=by
 cases l with
 | nil=>exact absurd rfl h
 | cons c r=>
  show 1<=(if _ then _ else _)/\(if _ then _ else _)<=_
  grind [Gm]
theorem rN {a b:List UInt8} (hb:2<=j7 b) (h:a.take (j7 b)=b.take (j7 b)):j7 a=j7 b:=by
 have bL:okU b=true:=by
  cases b with
  | nil=>exact absurd hb (by decide)
  | cons c r=>grind [okU,j7]
 obtain ⟨c,r,rfl,h1,h2,h3⟩:=Gm bL;rw [h3] at h ⊢
 have hl:aX c.toNat<=a.length:=by
  have:=congrArg List.length h
  grind
 have hw:=Xg c r (aX c.toNat) h1 (Gl _) h2;rw [bL,decide_eq_true rfl,<- h] at hw
 cases a with
 | nil=>exact absurd hl (by rw [List.length_nil];omega)
 | cons d s=>
  rw [Xg d s (aX c.toNat) h1 (Gl _) hl] at hw;rw [Bool.true_and,aS,decide_eq_true_iff] at hw;show (if _ then _ else _)=_;rw [ap hw.1];exact hw.2
def headL:Nat->List UInt8->List UInt8
 | 0,_=>[]
 | u + 1,l=>l.take (j7 l) ++ headL u (l.drop (j7 l))
theorem ng (u:Nat):headL u []=[]:=by
 induction u with
 | zero=>rfl
 | succ u ih=>show [].take _ ++ headL u ([].drop _)=[];rw [List.take_nil,List.drop_nil,ih];all_goals rfl
theorem nh (u:Nat) (l:List UInt8):headL u l <+: l:=by
 induction u generalizing l with
 | zero=>exact List.nil_prefix
 | succ u ih=>
  obtain ⟨t,ht⟩:=ih (l.drop (j7 l));refine ⟨t,?_⟩;show (_ ++ _) ++ t=l
  simp_all
def pJ (n:Nd) (v:Val):Bool:=
 if 0 < v.ks.length∨(v.k≠3/\v.s≠au)∨(v.k=3/\v.n≠0) then false
 else if n.ag=1 then decide (v.k=1) && (decide (v.n=0) || decide (v.n=1))
 else if n.ag=2 then decide (v.k=2) && decide (n.lo<=v.n) && decide (v.n<=n.hi)
 else if n.ag=3 then decide (v.k=3) && decide ((v.s.size:Int)<=n.most)
 else decide (v.k=4) && decide (0<=v.n) && decide (v.n < n.af.length)
def fI (v:Val):Bool:=decide (v.s=au) && (decide (v.n=0) || decide (v.k=8))
def to0 (n:Nd):Int:=match n.aC[0]? with | some e=>e.to | none=>0
def wu (n:Nd) (v:Val):Option Ed:=if v.k=8/\0<=v.n/\v.n < n.aC.length then n.aC[v.n.toNat]? else none
def kidsL (n:Nd) (v:Val):List Int:=
 if n.ag=5∨n.ag=6 then List.replicate v.ks.length (to0 n)
 else if n.ag=7 then n.aC.map Ed.to
 else match wu n v with | none=>[] | some e=>if e.bare=true then [] else [e.to]
def eQ (n:Nd) (v:Val):Bool:=
 if n.ag=5∨n.ag=6 then fI v && decide (v.k=n.ag) && decide ((v.ks.length:Int)<=if n.ag=6 then 1 else n.most)
 else if n.ag=7 then fI v && decide (v.k=7) && decide (n.aC.length=v.ks.length)
 else match wu n v with | none=>false | some _=>fI v && decide ((kidsL n v).length=v.ks.length)
def cz (ND:List Nd) (i:Int):Option Nd:=if i < 0 then none else ND[i.toNat]?
mutual
def fitV (ND:List Nd):Val->Int->Bool
 | .mk k n s ks,i=>match cz ND i with
  | none=>false
  | some d=>if d.ag < 5 then pJ d (.mk k n s ks) else eQ d (.mk k n s ks) && fitVs ND ks (kidsL d (.mk k n s ks))
def fitVs (ND:List Nd):List Val->List Int->Bool
 | v :: r,i :: l=>fitV ND v i && fitVs ND r l
 | _,_=>true
end
def Ov (n:Nd) (v:Val) (j:Nat):Int:=
 if n.ag=5 then (if (j:Int) < n.most then to0 n else -1)
 else if n.ag=6 then (if j < 1 then to0 n else -1)
 else if n.ag=7 then (match n.aC[j]? with | some e=>e.to | none=>-1)
 else if n.ag=8 then (if j < 1/\0<=v.n/\v.n < n.aC.length then (match n.aC[v.n.toNat]? with | some e=>e.to | none=>-1) else -1)
 else -1
def rO (l:List Int):List (List DV):=l.map fun z=>[DV.v (.int .i64 z)]
theorem lD (l:List Int):(rO l).length=l.length:=by simp [rO]
theorem Ow {l:List Int} {i:Nat} {z:Int} (h:l[i]? = some z):(rO l)[i]? = some [DV.v (.int .i64 z)]:=by simp [rO,h]
theorem vc (l:List Int) (z:Int):rO l ++ [[DV.v (.int .i64 z)]]=rO (l ++ [z]):=by simp [rO]
theorem x9:(⟨#[]⟩:ByteArray)=au:=rfl
theorem H4 (n:Nd) (v:Val):EvP prog 97 [.agg (nD n),.agg (cj v)] (.v (.bool (pJ n v))):=by
 have hbl:=bQ n.af;obtain ⟨ag,aK,lo,hi,most,af,es⟩:=n;obtain ⟨q,z,s,ks⟩:=v;have dq:=cO ks;simp only at hbl
 have hF:pJ ⟨ag,aK,lo,hi,most,af,es⟩ (.mk q z s ks)=if 0 < ks.length∨(q≠3/\s≠au)∨(q=3/\z≠0) then false
  else if ag=1 then decide (q=1) && (decide (z=0) || decide (z=1))
  else if ag=2 then decide (q=2) && decide (lo<=z) && decide (z<=hi)
  else if ag=3 then decide (q=3) && decide ((s.size:Int)<=most)
  else decide (q=4) && decide (0<=z) && decide (z < af.length):=rfl
 have hc:∀ b:Bool,b=pickB (pickB (decide (0 < ((dVals ks).length:Int))) true (pickB (!decide (q=3)) (!decide (s=⟨#[]⟩)) false)) true (pickB (decide (q=3)) (!decide (z=0)) false)->b=decide (0 < ks.length∨(q≠3/\s≠au)∨(q=3/\z≠0)):=fun b h=>by grind [x9,aq,ah]
 rw [hF];refine eG 94 [.tmp 4] func97 rfl ntmps97 rfl fun _ _ _ _=>?_;refine br ?_ ?_<;>intro c
 ·have c:=of_decide_eq_true ((hc _ rfl).symm.trans c);rw [ap c];exact (rfl:_=_)
 have c:=of_decide_eq_false ((hc _ rfl).symm.trans c);rw [ai c];refine br ?_ ?_<;>intro c1
 ·have c1:ag=1:=sU c1;refine (bA ?_:);simp [c1,ah,aq]
 have c1:¬ ag=1:=sU c1;refine br ?_ ?_<;>intro c2
 ·have c2:ag=2:=sU c2;refine (bA ?_:);simp [c2,ah,aq]
 have c2:¬ ag=2:=sU c2;refine br ?_ ?_<;>intro c3
 ·have c3:ag=3:=sU c3;refine (bA ?_:);simp [c3,ah,aq]
 have c3:¬ ag=3:=sU c3;refine (bA ?_:);simp [c1,c2,c3,ah,aq,hbl]
abbrev Qp (n:Nd) (v:Val) (l:List Int) (p:Bool) (kd mo:Int) (q e:Nat):St:=
 ⟨[aF 2 0,aF 3 1,(6,⟨[],.sl 1 (rO l) (some 0)⟩),yN 7 p,aw 8 kd,aw 9 mo,aw 38 v.ks.length,aw 39 e],[nD n,cj v],[⟨q,3,1,none⟩]⟩
abbrev Xh (n:Nd) (v:Val) (l:List Int) (p:Bool) (q e:Nat):St:=
 ⟨[aF 2 0,aF 3 1,(6,⟨[],.sl 1 (rO l) (some 0)⟩),yN 7 p,bc 67 10 (gW n.aC),aw 68 ((gW n.aC).length),aw 69 e],[nD n,cj v],[⟨q,3,1,none⟩]⟩
theorem kids_spec {L N:Nat} {n:Nd} (hn:dt L N n) (h5:5<=n.ag) (v:Val) (hv:v.wt<=1099511627776) :
  EvP prog 98 [.agg (nD n),.agg (cj v)] (.tup [.sl 1 (rO (kidsL n v)) none,.v (.bool (eQ n v))]):=by
 have IV:=hn.k8;have Sz:=hn.one;have Qq:=hn.many;obtain ⟨ag,aK,lo,hi,most,af,es⟩:=n;obtain ⟨q,z,s,ks⟩:=v;have dq:=cO ks;have ql:=dj es;have oD:=fm ks;rw [Val.wt] at hv;simp only at IV h5 Sz Qq
 have hp:∀ b:Bool,b=pickB (decide (s=⟨#[]⟩)) (pickB (decide (z=0)) true (decide (q=8))) false->b=fI (.mk q z s ks):=fun b h=>by
  rw [h];rw [ah,aq,x9];all_goals rfl
 refine eG 134 [.tmp 4,.tmp 5] func98 rfl ntmps98 rfl fun _ _ _ _=>?_;refine br ?_ ?_<;>intro c
 ·have c:ag=5:=sU c;have SA:ag=5∨ag=6:=.inl c;obtain ⟨x,kg,_,_⟩:=Sz SA;refine br (fun _=>?_) (fun h=>absurd h (by simp [c]));refine dI ?_;refine br (fun h=>absurd h (by simp [c])) (fun _=>?_);obtain ⟨kd,mo,h1,h2,h3,h4⟩:∃ kd mo:Int,5=kd/\most=mo/\kd=ag/\mo=(if ag=6 then 1 else most):=⟨5,most,rfl,rfl,c.symm,by rw [ai (by omega)]⟩;have Av:(gW es)[0]? = some (nC x):=by rw [kg];all_goals rfl
  have ht0:to0 ⟨ag,aK,lo,hi,most,af,es⟩=x.to:=by simp [to0,kg]
  refine lJ (fun e=>Qp ⟨ag,aK,lo,hi,most,af,es⟩ (.mk q z s ks) (List.replicate e x.to) (fI (.mk q z s ks)) kd mo e e) ks.length (dA 2 ⟨0,3,1,none⟩ rfl rfl rfl (by repeat' (first | exact rfl | exact aE rfl | exact bP (hp _ rfl) | exact aD h1 | exact aD h2 | exact aD (congrArg Nat.cast dq) | exact bV (aU _) rfl | exact bV (aU _) rfl | refine ⟨_,_,rfl,?_,?_⟩)) rfl rfl (by repeat' (first | exact trivial | exact aE rfl | exact bP (hp _ rfl) | exact aD h1 | exact aD h2 | exact aD (congrArg Nat.cast dq) | exact bV (aU _) rfl | refine ⟨⟨_,rfl,?_⟩,?_⟩))) ?_;intro e he;refine br ?_ ?_<;>intro hL
  ·have ay:e < ks.length:=by have:=hL;simp [Val.ks] at this;exact this
   have eN:(rO (List.replicate e x.to)).length=e:=by rw [lD,List.length_replicate]
   have gO:rO (List.replicate e x.to) ++ [[DV.v (.int .i64 x.to)]]=rO (List.replicate (e + 1) x.to):=by rw [vc,List.replicate_succ']
   refine ⟨_,⟨by omega,Av⟩,?_⟩;refine ⟨eN,⟨by rw [eN];simp [maxLen];omega,by rw [eN];simp;omega⟩,?_⟩;exact rE ⟨_,by omega,e + 1,rfl,by omega,rfl⟩ (wkB 2 (wA2 (nxt ay (by omega)) gO) (wB2 (nxt ay (by omega)) gO))
  ·have hge:e=ks.length:=by have:=hL;simp [Val.ks] at this;omega
   subst hge;have wv:kidsL ⟨ag,aK,lo,hi,most,af,es⟩ (.mk q z s ks)=List.replicate ks.length x.to:=by unfold kidsL;rw [ap SA,ht0];all_goals rfl
   have eN:(rO (List.replicate ks.length x.to)).length=ks.length:=by rw [lD,List.length_replicate]
   have hB:pickB (pickB (fI (.mk q z s ks)) (decide (q=kd)) false) (decide (((rO (List.replicate ks.length x.to)).length:Int)<=mo)) false=eQ ⟨ag,aK,lo,hi,most,af,es⟩ (.mk q z s ks):=by
    rw [eN,h3,h4,ah,ah];unfold eQ;rw [ap SA];rfl
   rw [wv];exact ⟨_,(pZ hB),rfl⟩
 have c5:¬ ag=5:=sU c;refine br ?_ ?_<;>intro c
 ·have c:ag=6:=sU c;have SA:ag=5∨ag=6:=.inr c;obtain ⟨x,kg,_,_⟩:=Sz SA;refine dI ?_;refine br (fun _=>?_) (fun h=>absurd h (by simp [c]));obtain ⟨kd,mo,h1,h2,h3,h4⟩:∃ kd mo:Int,6=kd/\1=mo/\kd=ag/\mo=(if ag=6 then 1 else most):=⟨6,1,rfl,rfl,c.symm,by rw [ap c]⟩;have Av:(gW es)[0]? = some (nC x):=by rw [kg];all_goals rfl
  have ht0:to0 ⟨ag,aK,lo,hi,most,af,es⟩=x.to:=by simp [to0,kg]
  refine lJ (fun e=>Qp ⟨ag,aK,lo,hi,most,af,es⟩ (.mk q z s ks) (List.replicate e x.to) (fI (.mk q z s ks)) kd mo e e) ks.length (dA 2 ⟨0,3,1,none⟩ rfl rfl rfl (by repeat' (first | exact rfl | exact aE rfl | exact bP (hp _ rfl) | exact aD h1 | exact aD h2 | exact aD (congrArg Nat.cast dq) | exact bV (aU _) rfl | exact bV (aU _) rfl | refine ⟨_,_,rfl,?_,?_⟩)) rfl rfl (by repeat' (first | exact trivial | exact aE rfl | exact bP (hp _ rfl) | exact aD h1 | exact aD h2 | exact aD (congrArg Nat.cast dq) | exact bV (aU _) rfl | refine ⟨⟨_,rfl,?_⟩,?_⟩))) ?_;intro e he;refine br ?_ ?_<;>intro hL
  ·have ay:e < ks.length:=by have:=hL;simp [Val.ks] at this;exact this
   have eN:(rO (List.replicate e x.to)).length=e:=by rw [lD,List.length_replicate]
   have gO:rO (List.replicate e x.to) ++ [[DV.v (.int .i64 x.to)]]=rO (List.replicate (e + 1) x.to):=by rw [vc,List.replicate_succ']
   refine ⟨_,⟨by omega,Av⟩,?_⟩;refine ⟨eN,⟨by rw [eN];simp [maxLen];omega,by rw [eN];simp;omega⟩,?_⟩;exact rE ⟨_,by omega,e + 1,rfl,by omega,rfl⟩ (wkB 2 (wA2 (nxt ay (by omega)) gO) (wB2 (nxt ay (by omega)) gO))
  ·have hge:e=ks.length:=by have:=hL;simp [Val.ks] at this;omega
   subst hge;have wv:kidsL ⟨ag,aK,lo,hi,most,af,es⟩ (.mk q z s ks)=List.replicate ks.length x.to:=by unfold kidsL;rw [ap SA,ht0];all_goals rfl
   have eN:(rO (List.replicate ks.length x.to)).length=ks.length:=by rw [lD,List.length_replicate]
   have hB:pickB (pickB (fI (.mk q z s ks)) (decide (q=kd)) false) (decide (((rO (List.replicate ks.length x.to)).length:Int)<=mo)) false=eQ ⟨ag,aK,lo,hi,most,af,es⟩ (.mk q z s ks):=by
    rw [eN,h3,h4,ah,ah];unfold eQ;rw [ap SA];rfl
   rw [wv];exact ⟨_,(pZ hB),rfl⟩
 have c6:¬ ag=6:=sU c;obtain ⟨hm64,hm8,_,_⟩:=Qq (by omega);refine br ?_ ?_<;>intro c
 ·have c7:ag=7:=sU c;refine lJ (fun e=>Xh ⟨ag,aK,lo,hi,most,af,es⟩ (.mk q z s ks) ((es.take e).map Ed.to) (fI (.mk q z s ks)) e e) es.length (dA 2 ⟨0,3,1,none⟩ rfl rfl rfl (by repeat' (first | exact rfl | exact aE rfl | exact bP (hp _ rfl) | exact bV (aU _) rfl | exact bV (aU _) rfl | refine ⟨_,_,rfl,?_,?_⟩)) rfl rfl (by repeat' (first | exact trivial | exact aE rfl | exact bP (hp _ rfl) | exact bV (aU _) rfl | refine ⟨⟨_,rfl,?_⟩,?_⟩))) ?_;intro e he;refine br ?_ ?_<;>intro hL
  ·have ay:e < es.length:=by have:=hL;simp [ql] at this;exact this
   obtain ⟨x,hx⟩:=gX ay;have eN:(rO ((es.take e).map Ed.to)).length=e:=by rw [lD,List.length_map,eP];omega
   have gO:rO ((es.take e).map Ed.to) ++ [[DV.v (.int .i64 x.to)]]=rO ((es.take (e + 1)).map Ed.to):=by rw [vc,q6 hx,List.map_append];all_goals rfl
   refine iX (cK hx) ?_;refine ⟨eN,⟨by rw [eN];simp [maxLen];omega,by rw [eN];simp;omega⟩,?_⟩;exact rE ⟨_,by omega,e + 1,rfl,by omega,rfl⟩ (wkB 2 (wA2 (nxt ay (by omega)) gO) (wB2 (nxt ay (by omega)) gO))
  ·have hge:e=es.length:=sW ql hL;subst hge;rw [List.take_length];have wv:kidsL ⟨ag,aK,lo,hi,most,af,es⟩ (.mk q z s ks)=es.map Ed.to:=by unfold kidsL;rw [ai (by simp only;omega),ap c7]
   have eN:(rO (es.map Ed.to)).length=es.length:=by rw [lD,List.length_map]
   have hB:pickB (pickB (fI (.mk q z s ks)) (decide (q=7)) false) (decide (((rO (es.map Ed.to)).length:Int)=((dVals ks).length:Int))) false=eQ ⟨ag,aK,lo,hi,most,af,es⟩ (.mk q z s ks):=by grind [ah,eQ,Val.k,Val.ks]
   rw [wv];refine dI ?_;exact ⟨_,(pZ hB),rfl⟩
 have c7:¬ ag=7:=sU c;have wv:kidsL ⟨ag,aK,lo,hi,most,af,es⟩ (.mk q z s ks)=(match wu ⟨ag,aK,lo,hi,most,af,es⟩ (.mk q z s ks) with | none=>[] | some e=>if e.bare=true then [] else [e.to]):=by unfold kidsL;rw [ai (by simp only;omega),ai c7];all_goals rfl
 have Xi:eQ ⟨ag,aK,lo,hi,most,af,es⟩ (.mk q z s ks)=(match wu ⟨ag,aK,lo,hi,most,af,es⟩ (.mk q z s ks) with | none=>false | some _=>fI (.mk q z s ks) && decide ((kidsL ⟨ag,aK,lo,hi,most,af,es⟩ (.mk q z s ks)).length=ks.length)):=by unfold eQ;rw [ai (by simp only;omega),ai c7];all_goals rfl
 have hc:∀ b:Bool,b=pickB (pickB (!decide (q=8)) true (decide (z < 0))) true (decide (((gW es).length:Int)<=z))->b = !decide (q=8/\0<=z/\z < es.length):=fun b h=>by grind [aq]
 refine br ?_ ?_<;>intro c
 ·have c:¬ (q=8/\0<=z/\z < es.length):=by have:=(hc _ rfl).symm.trans c;simpa only [Bool.not_eq_true',decide_eq_false_iff_not] using this
  have ht:wu ⟨ag,aK,lo,hi,most,af,es⟩ (.mk q z s ks)=none:=by show (if q=8/\0<=z/\z < es.length then es[z.toNat]? else none)=_;rw [ai c]
  rw [Xi,wv,ht];exact ⟨_,ax,rfl⟩
 ·have c:q=8/\0<=z/\z < es.length:=by have:=(hc _ rfl).symm.trans c;simpa only [Bool.not_eq_false',decide_eq_true_eq] using this
  obtain ⟨x,hx⟩:∃ x,es[z.toNat]? = some x:=⟨_,gE (by omega)⟩;have ht:wu ⟨ag,aK,lo,hi,most,af,es⟩ (.mk q z s ks)=some x:=by show (if q=8/\0<=z/\z < es.length then es[z.toNat]? else none)=_;rw [ap c];exact hx
  rw [ht] at Xi wv;refine iX (cK hx) ?_;refine br ?_ ?_<;>intro hb
  ·have hb:x.bare=false:=sU hb;have SB:kidsL ⟨ag,aK,lo,hi,most,af,es⟩ (.mk q z s ks)=[x.to]:=by rw [wv];simp [hb]
   have hB:pickB (fI (.mk q z s ks)) (decide ((1:Int)=((dVals ks).length:Int))) false=eQ ⟨ag,aK,lo,hi,most,af,es⟩ (.mk q z s ks):=by grind [ah]
   rw [SB,<- hB];refine ⟨⟨by simp [maxLen],by simp⟩,?_⟩;refine dI ?_;exact ⟨_,(by repeat' (first | exact rfl | exact trivial | exact Or.inr (Or.inl ⟨_,rfl⟩) | exact Or.inr ⟨_,rfl⟩ | exact Or.inl ⟨rfl,rfl⟩ | exact Or.inl rfl | refine Or.inr ⟨_,_,rfl,Nat.zero_le _,rfl,?_⟩ | refine ⟨_,_,rfl,?_,?_⟩ | refine ⟨_,rfl,?_⟩ | exact congrArg (fun b=>DV.v (.bool (pickB b _ false))) (hp _ rfl) | refine Or.inr (Or.inr (Or.inr ⟨_,_,rfl,?_⟩)) | exact Or.inl rfl | refine Or.inr ?_)),rfl⟩
  ·have hb:x.bare=true:=sU hb;have SB:kidsL ⟨ag,aK,lo,hi,most,af,es⟩ (.mk q z s ks)=[]:=by rw [wv];simp [hb]
   have hB:pickB (fI (.mk q z s ks)) (decide ((0:Int)=((dVals ks).length:Int))) false=eQ ⟨ag,aK,lo,hi,most,af,es⟩ (.mk q z s ks):=by grind [ah]
   rw [SB,<- hB];refine dI ?_;exact ⟨_,(by repeat' (first | exact rfl | exact trivial | exact Or.inr (Or.inl ⟨_,rfl⟩) | exact Or.inr ⟨_,rfl⟩ | exact Or.inl ⟨rfl,rfl⟩ | exact Or.inl rfl | refine Or.inr ⟨_,_,rfl,Nat.zero_le _,rfl,?_⟩ | refine ⟨_,_,rfl,?_,?_⟩ | refine ⟨_,rfl,?_⟩ | exact congrArg (fun b=>DV.v (.bool (pickB b _ false))) (hp _ rfl) | refine Or.inr (Or.inr (Or.inr ⟨_,_,rfl,?_⟩)) | exact Or.inl rfl | refine Or.inr ?_)),rfl⟩
theorem ya {n:Nd} {v:Val} (hk:5<=n.ag) (h:eQ n v=true):(kidsL n v).length=v.ks.length:=by grind [eQ,kidsL,wu]
theorem ED {ND:List Nd} {ks:List Val} {l:List Int} {e:Nat} {x:Val} {i:Int} (h1:ks[e]? = some x) (h2:l[e]? = some i):fitVs ND (ks.drop e) (l.drop e)=(fitV ND x i && fitVs ND (ks.drop (e + 1)) (l.drop (e + 1))):=by
 rw [drop_cons h1,drop_cons h2,fitVs]
theorem bJ {ND:List Nd} {i:Int} {d:Nd} (h:cz ND i=some d):0<=i/\ND[i.toNat]? = some d:=by grind [cz]
theorem EE {ND:List Nd} {i:Int} (h:cz ND i=none):i < 0∨(ND.length:Int)<=i:=by grind [cz]
abbrev tfSt (PC:List DV) (v:Val) (l:List Int) (e:Nat):St:=
 ⟨[nA 0 PC,aF 5 0,bc 36 1 (rO l),aw 37 l.length,aw 38 e],[cj v],[]⟩
theorem ou {S:Sch} {ND:List Nd} {PC:List DV} (hP:jF S ND PC):∀ (k:Nat) (v:Val),v.wt<=k->v.wt<=1099511627776->∀ i:Int,EvP prog 49 [.pt PC 0,.v (.int .i64 i),.agg (cj v)] (.v (.bool (fitV ND v i)))
 | 0,v,h,_=>by have:=v.dE;omega
 | k + 1,.mk q z s ks,h,hb=>fun i=>by
  have ih:=ou hP k;have oD:=fm ks;have dq:=cO ks;have fv:=hb;rw [Val.wt] at h hb;rw [fitV];have gA:=hP.aj;have SC:=hP.Qo;have bL:=hP.ok
  cases hd:cz ND i with
  | none=>
   refine eG 53 [.tmp 6] func49 rfl ntmps49 rfl fun _ _ _ _=>?_;refine cP yT (SC i (EE hd)) ?_;exact (rfl:_=_)
  | some d=>
   obtain ⟨h0,hg⟩:=bJ hd;obtain ⟨j,rfl⟩:∃ j:Nat,i=j:=⟨i.toNat,by omega⟩;have hg:ND[j]? = some d:=sU hg;have hN:=bL d (mG hg);have CO:=H4 d (.mk q z s ks);have MF:=fun h5=>kids_spec hN h5 (.mk q z s ks) fv;have hlen:=fun h5=>ya (n:=d) (v:=.mk q z s ks) h5;simp only;obtain ⟨ag,aK,lo,hi,most,af,es⟩:=d;simp only at MF hlen;refine eG 53 [.tmp 6] func49 rfl ntmps49 rfl fun _ _ _ _=>?_;refine cP yT (gA j _ hg) ?_;refine br ?_ ?_<;>intro c
   ·have c:ag < 5:=sU c;rw [ap c];refine cP ZY CO ?_;exact (rfl:_=_)
   have c:¬ ag < 5:=sU c;rw [ai c];have MF:=MF (by omega);have hlen:=hlen (by omega);generalize kidsL ⟨ag,aK,lo,hi,most,af,es⟩ (.mk q z s ks)=l at MF hlen ⊢;have hzl:=lD l;refine cP ZZ MF ?_
   cases hB:eQ ⟨ag,aK,lo,hi,most,af,es⟩ (.mk q z s ks) with
   | false=>
    exact (rfl:_=_)
   | true=>
    have hlen:l.length=ks.length:=hlen hB;rw [Bool.true_and];refine lI (fun j st=>∃ e:Nat,st=tfSt PC (.mk q z s ks) l e/\e<=l.length/\fitVs ND ks l=fitVs ND (ks.drop e) (l.drop e)/\j=l.length - e) ⟨0,rfl,by omega,rfl,rfl⟩ (bl (cQ hzl)) ?_;rintro _ st ⟨e,rfl,he,aP,rfl⟩;refine br ?_ ?_<;>intro hL
    ·have ay:e < l.length:=by have:=hL;simp at this;exact this
     obtain ⟨x,hx⟩:∃ x,ks[e]? = some x:=⟨_,gE (by omega)⟩;obtain ⟨y,hy⟩:=gX ay;have Wj:=kC (mG hx);rw [ED hx hy] at aP;have fX:=ih x (by omega) (by omega) y;obtain ⟨xk,xn,xs,xl⟩:=x;refine iX (Ow hy) ?_;refine iX (kB hx) ?_;refine cP Rj fX ?_;refine br ?_ ?_<;>intro g
     ·have g:fitV ND (.mk xk xn xs xl) y=false:=sU g;rw [aP,g];exact (rfl:_=_)
     ·have g:fitV ND (.mk xk xn xs xl) y=true:=sU g;rw [g,Bool.true_and] at aP;exact rE ⟨_,by omega,e + 1,rfl,by omega,aP,rfl⟩ (bl (cQ (nxt ay (by omega))))
    ·have hge:e=l.length:=by have:=hL;simp at this;omega
     rw [List.drop_of_length_le (by omega),List.drop_of_length_le (by omega)] at aP;rw [aP];exact (rfl:_=_)
inductive Rw where
 | mk (k aK n:Int) (s:ByteArray) (keys:List Wd) (ks:List Rw)
mutual
def dRw:Rw->List DV
 | .mk k a n s keys ks=>[.v (.int .i64 k),.v (.int .i64 a),.v (.int .i64 n),.v (.string s),.sl 2 (bw keys) none,.sl 6 (dRws ks) none]
def dRws:List Rw->List (List DV)
 | []=>[]
 | v :: r=>dRw v :: dRws r
end
theorem vd:∀ l:List Rw,dRws l=l.map dRw
 | []=>rfl
 | v :: r=>by rw [dRws,vd r];all_goals rfl
theorem B4 (l:List Rw):(dRws l).length=l.length:=by rw [vd,List.length_map]
theorem LB {l:List Rw} {e:Nat} {x:Rw} (h:l[e]? = some x):(dRws l)[e]? = some (dRw x):=by rw [vd,List.getElem?_map,h];all_goals rfl
mutual
def sm:Rw->Nat
 | .mk _ _ _ _ _ ks=>1 + kG ks
def kG:List Rw->Nat
 | []=>0
 | v :: r=>sm v + kG r
end
structure LD (ND:List Nd) (v:Val) (i:Int) (d:Nd):Prop where
 aj:cz ND i=some d
 k:v.k=d.ag
 leaf:d.ag < 5->v.ks=[]
 enum:d.ag=4->0<=v.n/\v.n < d.af.length
 kids:5<=d.ag->(kidsL d v).length=v.ks.length/\fitVs ND v.ks (kidsL d v)=true
 tag:d.ag=8->∃ e,wu d v=some e/\d.aC[v.n.toNat]? = some e/\0<=v.n/\v.n < d.aC.length/\(e.bare=true↔v.ks=[])
 opt:d.ag=6->v.ks.length<=1
theorem ef {L:Nat} {ND:List Nd} (bL:∀ n∈ND,dt L ND.length n) {v:Val} {i:Int} (h:fitV ND v i=true):∃ d,LD ND v i d:=by
 obtain ⟨k,n,s,ks⟩:=v;rw [fitV] at h
 cases hd:cz ND i with
 | none=>rw [hd] at h;cases h
 | some d=>
  rw [hd] at h;simp only at h;have hN:=bL d (mG (bJ hd).2);have ru:=hN.k1;have IV:=hN.k8;by_cases h5:d.ag < 5
  ·rw [ap h5] at h;unfold pJ at h;by_cases hc:0 < (Val.mk k n s ks).ks.length∨((Val.mk k n s ks).k≠3/\(Val.mk k n s ks).s≠au)∨((Val.mk k n s ks).k=3/\(Val.mk k n s ks).n≠0)
   ·rw [ap hc] at h;cases h
   rw [ai hc] at h;have SD:ks=[]:=by grind [Val.ks]
   have hk:k=d.ag/\(d.ag=4->0<=n/\n < d.af.length):=by grind [Val.k,Val.n]
   exact ⟨d,{ aj:=hd,k:=hk.1,leaf:=fun _=>SD,enum:=hk.2,kids:=fun h=>by omega,tag:=fun h=>by omega,opt:=fun h=>by omega }⟩
  ·rw [ai h5,aS] at h;obtain ⟨hB,hf⟩:=h;have hlen:=ya (by omega) hB;have YD:=hB;unfold eQ at hB;by_cases c:d.ag=5∨d.ag=6
   ·rw [ap c] at hB;simp only [aS,decide_eq_true_eq] at hB;exact ⟨d,{ aj:=hd,k:=hB.1.2,leaf:=fun h=>by omega,enum:=fun h=>by omega,kids:=fun _=>⟨hlen,hf⟩,tag:=fun h=>by omega,opt:=fun h=>by have:=hB.2;rw [ap h] at this;omega }⟩
   rw [ai c] at hB;by_cases c7:d.ag=7
   ·rw [ap c7] at hB;simp only [aS,decide_eq_true_eq] at hB;exact ⟨d,{ aj:=hd,k:=by rw [c7];exact hB.1.2,leaf:=fun h=>by omega,enum:=fun h=>by omega,kids:=fun _=>⟨hlen,hf⟩,tag:=fun h=>by omega,opt:=fun h=>by omega }⟩
   rw [ai c7] at hB
   cases ht:wu d (.mk k n s ks) with
   | none=>rw [ht] at hB;cases hB
   | some e=>
    have ht2:=ht;unfold wu at ht2;split at ht2
    ·rename_i hr;have oD:kidsL d (.mk k n s ks)=if e.bare=true then [] else [e.to]:=by unfold kidsL;rw [ai c,ai c7,ht]
     refine ⟨d,{ aj:=hd,k:=by have:=hr.1;omega,leaf:=fun h=>by omega,enum:=fun h=>by omega,kids:=fun _=>⟨hlen,hf⟩,tag:=fun _=>⟨e,ht,ht2,hr.2.1,hr.2.2,?_⟩,opt:=fun h=>by omega }⟩
     grind
    ·cases ht2
theorem pK {ND:List Nd}:∀ {ks:List Val} {l:List Int} {e:Nat} {x:Val} {i:Int},fitVs ND ks l=true->ks[e]? = some x->l[e]? = some i->fitV ND x i=true
 | [],_,e,x,i,_,h,_=>by simp at h
 | _ :: _,[],e,x,i,_,_,h=>by simp at h
 | v :: r,j :: l,0,x,i,h,h1,h2=>by grind [fitVs]
 | v :: r,j :: l,e + 1,x,i,h,h1,h2=>by
  simp only [List.getElem?_cons_succ] at h1 h2;rw [fitVs,aS] at h;exact pK h.2 h1 h2
structure fc where
 k:Int
 n:Int
 s:ByteArray
def ve (x:fc):List DV:=[.v (.int .i64 x.k),.v (.int .i64 x.n),.v (.string x.s)]
def eK (l:List fc):List (List DV):=l.map ve
theorem q7 (l:List fc):(eK l).length=l.length:=by simp [eK]
theorem ni {l:List fc} {e:Nat} {x:fc} (h:l[e]? = some x):(eK l)[e]? = some (ve x):=by simp [eK,h]
def zI (f:Nat->Nat->Bool) (n:Nat) (a b:Int):Bool:=decide (0<=a) && decide (a < n) && decide (0<=b) && decide (b < n) && f a.toNat b.toNat
def wx (f:Nat->Nat->Bool) (n a b:Nat):Nat:=(er f n a b).getD 0
def e9 (f:Nat->Nat->Bool) (n:Nat):Nat:=(eX f n []).getD 0
theorem LF {f:Nat->Nat->Bool} {n a b:Nat} (ha:a < n) (hb:b < n):zI f n a b=f a b:=by simp [zI,ha,hb]
theorem vf {f:Nat->Nat->Bool} {n a b:Nat} (h:dH f n) (ha:a < n) (hb:b < n):er f n a b=some (wx f n a b):=by
 obtain ⟨k,hk⟩:=h.jn a b ha hb;simp [wx,hk]
theorem zJ {f:Nat->Nat->Bool} {n a b:Nat} (h:dH f n) (ha:a < n) (hb:b < n):wx f n a b < n:=(lu (vf h ha hb)).1
theorem yb {f:Nat->Nat->Bool} {n:Nat} (h:dH f n):eX f n []=some (e9 f n):=by
 obtain ⟨c,hc⟩:=rL h [] (fun _ h=>by cases h);simp [e9,hc]
theorem pL {f:Nat->Nat->Bool} {n:Nat} (h:dH f n):e9 f n < n:=nb (yb h)
section
variable (af:List ByteArray) (tc:List DV) (rows:List Nat) (js:List Int)
theorem H5 (hr:dG rows) (hl:rows.length=af.length) (a b:Int) :
  EvP prog 18 [.pt (gV af tc rows js) 0,.v (.int .i64 a),.v (.int .i64 b)] (.v (.bool (hasB rows a b))):=by
 have h1:=xH af tc rows js;have h2:=ki rows hr a b;have hB:hasB rows a b=(decide (0<=a) && decide (a < af.length) && decide (0<=b) && decide (b < af.length) && aT rows a.toNat b.toNat):=by rw [<- hl];all_goals rfl
 generalize hasB rows a b=h at h2 hB ⊢;refine eG 24 [.tmp 6] func18 rfl ntmps18 rfl fun _ _ _ _=>?_;refine cP G4 (h1 a) ?_;refine br ?_ ?_<;>intro g
 ·refine cP G4 (h1 b) ?_;refine br ?_ ?_<;>intro g2
  ·refine cP JG h2 ?_;exact (rfl:_=_)
  ·refine (bA ?_:);rw [hB];simp only [Bool.and_assoc] at g g2 ⊢;cases hx:decide (0<=b)<;>cases hy:decide (b < af.length)<;>simp_all [pickB]
 ·refine (bA ?_:);rw [hB];cases hx:decide (0<=a)<;>cases hy:decide (a < af.length)<;>simp_all [pickB]
end
structure zK (n:Nat) (f:Nat->Nat->Bool) (af:List ByteArray) (LC:List DV):Prop where
 ok:dH f n
 n32:n<=32
 nl:af.length=n
 len:EvP prog 17 [.pt LC 0] (.v (.int .i64 n))
 leq:∀ a b:Int,EvP prog 18 [.pt LC 0,.v (.int .i64 a),.v (.int .i64 b)] (.v (.bool (zI f n a b)))
 join:∀ a b:Nat,a < n->b < n->EvP prog 52 [.pt LC 0,.v (.int .i64 a),.v (.int .i64 b)] (.v (.int .i64 (wx f n a b:Nat)))
 bot:EvP prog 51 [.pt LC 0] (.v (.int .i64 (e9 f n:Nat)))
abbrev aN (S:Sch):Nat->Nat->Bool:=dY S.ae.length (cM (aA S.ae) S.order)
theorem jF.Ox {S:Sch} {ND:List Nd} {PC:List DV} (hP:jF S ND PC):∃ LC,EvP prog 15 [.pt PC 0] (.pt LC 0)/\zK S.ae.length (aN S) (aA S.ae) LC:=by
 obtain ⟨aH,js,hX,hl⟩:=hP.lat;have iJ:=cS S.ae;have CO:=(hP.fine).lat;obtain ⟨hL,N6⟩:=ku CO;have hpr:∀ p∈cM (aA S.ae) S.order,p.1 < S.ae.length/\p.2 < S.ae.length:=by have:=na (oo CO).2.2.1;rwa [cS] at this
 have gn:(dJ S aH js).rows.length=S.ae.length:=by
  show (closeR (eE S.ae.length (cM (aA S.ae) S.order)) S.ae.length).length=_;rw [eF,jx]
 have hr:dG (dJ S aH js).rows:=kj (ze (by omega) _ hpr) _ (by omega)
 refine ⟨_,hl,{
  ok:=hL,n32:=N6,nl:=iJ
  len:=?_
  leq:=fun a b=>?_
  join:=fun a b ha hb=>?_
  bot:=?_
  }⟩
 ·have:=qL (dJ S aH js).af (cw (dJ S aH js).af (dJ S aH js).aH) (dJ S aH js).rows (dJ S aH js).js
  rwa [show (dJ S aH js).af.length=S.ae.length from iJ] at this
 ·have:=H5 (dJ S aH js).af (cw (dJ S aH js).af (dJ S aH js).aH) (dJ S aH js).rows (dJ S aH js).js hr (by rw [gn];exact iJ.symm) a b
  have he:hasB (dJ S aH js).rows a b=zI (aN S) S.ae.length a b:=by
   unfold hasB zI;rw [gn];all_goals rfl
  rwa [he] at this
 ·have hz:=(hX.hj a b (by rw [show (dJ S aH js).af.length=S.ae.length from iJ];exact ha) (by rw [show (dJ S aH js).af.length=S.ae.length from iJ];exact hb)).1;rw [show (dJ S aH js).af.length=S.ae.length from iJ,show (dJ S aH js).f=aN S from rfl,vf hL ha hb] at hz;exact uB (dJ S aH js).af (cw (dJ S aH js).af (dJ S aH js).aH) (dJ S aH js).rows (dJ S aH js).js a b _ (by rw [show (dJ S aH js).af.length=S.ae.length from iJ];exact ha) (by rw [show (dJ S aH js).af.length=S.ae.length from iJ];exact hb) hX.hn hz
 ·have:=po (dJ S aH js).af (cw (dJ S aH js).af (dJ S aH js).aH) (dJ S aH js).rows (dJ S aH js).js hX.hL hX.hn hX.hj
  rwa [show (dJ S aH js).af.length=S.ae.length from iJ,show (dJ S aH js).f=aN S from rfl,yb hL] at this
def du (s:fc):Bool:=
 if s.k=1∨s.k=5 then decide (s.n=0) && aZ s.s
 else if s.k=2 then decide (0<=s.n) && decide (s.s=⟨#[]⟩)
 else if s.k=3∨s.k=4 then decide (s.n=0) && decide (s.s=⟨#[]⟩) else false
def lE (l:List fc):Bool:=decide (l.length<=64) && l.all du
theorem EF (s:fc):lE [s]=du s:=by simp [lE]
def vg (d:Nd) (s:fc) (e:Ed):Bool:=
 (decide (s.k=1) && decide (d.ag=7) && (decide (e.name=s.s) && !e.bare)) || (decide (s.k=5) && decide (d.ag=8) && (decide (e.name=s.s) && !e.bare)) ||
  ((decide (s.k=2) || decide (s.k=3)) && decide (d.ag=5) && decide (s.n < d.most)) || (decide (s.k=4) && decide (d.ag=6))
def EG (d:Nd) (s:fc) (e:Ed):Bool:=
 if s.k=1 then decide (d.ag=7) && decide (e.name=s.s)
 else if s.k=5 then decide (d.ag=8) && decide (e.name=s.s) && !e.bare
 else if s.k=2 then decide (d.ag=5) && decide (s.n < d.most)
 else if s.k=3 then decide (d.ag=5) && decide (0 < d.most)
 else decide (d.ag=6)
theorem LG {s:fc} (h:du s=true):s.k=1∨s.k=2∨s.k=3∨s.k=4∨s.k=5:=by grind [du]
theorem Gn {L N:Nat} {d:Nd} (hN:dt L N d) {s:fc} (hr:du s=true) {e:Ed} (he:e∈d.aC):EG d s e=vg d s e:=by
 have hk:=LG hr;have hb:=hN.bare e he
 grind [EG,vg,du]
def edgeP (d:Nd) (s:fc) (k:Nat):Bool:=match d.aC[k]? with | some e=>vg d s e | none=>false
def vi (d:Nd) (s:fc):Option Nat:=if du s=true then bg (edgeP d s) d.aC.length else none
theorem EH {d:Nd} {s:fc} {k:Nat} (h:vi d s=some k):∃ e,d.aC[k]? = some e/\vg d s e=true/\du s=true:=by
 unfold vi at h;split at h
 ·rename_i hr;obtain ⟨h1,h2,_⟩:=cx h
  grind [edgeP]
 ·cases h
def walkV (ND:List Nd) (f:Nat->Nat->Bool) (n:Nat):List fc->Nat->Nat->Option (Nat × Nat)
 | [],i,a=>some (i,a)
 | s :: p,i,a=>match ND[i]? with
  | none=>none
  | some d=>match vi d s with
   | none=>none
   | some k=>match d.aC[k]? with
    | none=>none
    | some e=>walkV ND f n p e.to.toNat (wx f n a e.label.toNat)
theorem vj {L N:Nat} {d:Nd} (hN:dt L N d) {s:fc} {e:Ed} (he:e∈d.aC) (h:vg d s e=true):e.bare=false:=by
 cases hb:e.bare
 ·rfl
 ·have h8:=hN.bare e he hb;unfold vg at h;simp [hb,h8] at h
theorem jg {L:Nat} {ND:List Nd} {d:Nd} (hN:dt L ND.length d) {e:Ed} (he:e∈d.aC):(e.bare=false->e.to=(e.to.toNat:Nat)/\e.to.toNat < ND.length)/\(e.label=(e.label.toNat:Nat)/\e.label.toNat < L)/\(e.seen=(e.seen.toNat:Nat)/\e.seen.toNat < L):=by
 have hE:=hN.fW e he;refine ⟨fun hb=>?_,?_,?_⟩
 ·obtain ⟨k,h1,h2⟩:=hE.to1 hb;rw [h1];exact ⟨by simp,by simpa using h2⟩
 ·obtain ⟨k,h1,h2⟩:=hE.lab;rw [h1];exact ⟨by simp,by simpa using h2⟩
 ·obtain ⟨k,h1,h2⟩:=hE.seen;rw [h1];exact ⟨by simp,by simpa using h2⟩
theorem B5 {f:Nat->Nat->Bool} {L:Nat} (hL:dH f L) {ND:List Nd} (bL:∀ n∈ND,dt L ND.length n):∀ (p:List fc) (i a:Nat) {j b:Nat},i < ND.length->a < L->walkV ND f L p i a=some (j,b)->j < ND.length/\b < L
 | [],i,a,j,b,hi,ha,h=>by grind [walkV]
 | s :: p,i,a,j,b,hi,ha,h=>by
  rw [walkV,gE hi] at h;simp only at h;split at h
  ·cases h
  ·rename_i k hk;obtain ⟨e,he,hB,_⟩:=EH hk;rw [he] at h;simp only at h;have hm:=mG he;have hd:=bL _ (List.getElem_mem hi);obtain ⟨h1,h2,_⟩:=jg hd hm;exact B5 hL bL p _ _ (h1 (vj hd hm hB)).2 (zJ hL ha h2.2) h
def iQ (f:Nat->Nat->Bool) (n obs:Nat) (d:Nd) (e:Ed) (a:Nat):Nat:=
 if f (if d.ag < 7 then a else wx f n a e.label.toNat) obs=true then 2 else if e.ck≠0/\f (wx f n a e.seen.toNat) obs=true then 1 else 0
section
variable (ND:List Nd) (f:Nat->Nat->Bool) (n obs dep:Nat)
end
end Go.Proofs.YtphonmiflfhdbaaGreat
