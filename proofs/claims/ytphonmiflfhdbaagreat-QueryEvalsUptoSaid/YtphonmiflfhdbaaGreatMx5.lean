/- Part 5 of the proof: The document's lattices: Find, pairs, Leq, Loop; The document's lattices: what is wrong; The document's labels: over, Least, Of; The document's schemas: Find, word, all, Flat, End, Start; The document's schemas: Flat, End, Start; The document's schemas: named, unknown; The reference's Wrong returns what is wrong with a type; The document's schemas: what is wrong; The document's nodes: Same, of equal ones; the law's node; The document's nodes: node; The document's plan: Build; What is known of a type with which nothing is wrong; labels have levels; What is known of the nodes of a plan; A plan, as its readers know it; Values, plain; how many are in one, how deep they lie; What is read of a value, as the plain data; What the frames of laws over values share; The greatest multiple of a unit that is at most a number; UTF-8: the program's lead, value; UTF-8: the program's Decode; UTF-8: the document's reckoned, Scalar, Encode; UTF-8: the document's Scalar, Encode; UTF-8, plain: the document's well-formed bytes are the program's; a text's first units; Values that are the same; Which values fit which nodes: plain, as the program finds it and as the document says it. No condition. -/
import Derived.Test.YtphonmiflfhdbaaGreatMx3
import Derived.Test.YtphonmiflfhdbaaGreatMx4
set_option linter.all false
set_option maxRecDepth 100000
namespace Go.Proofs.YtphonmiflfhdbaaGreat
open Go Go.RowKit Dv Go.Proofs.Tryz
theorem bV {n m:Nat} {cI:List TkE} {x y:Bool} (h:x=y):We n m cI (.v (.bool x)) (.v (.bool y)):=.inl ⟨by rw [h],rfl⟩
theorem mT {l:List Wd} {j:Nat} {w:Wd} (h:l[j]? = some w):(az l)[j]? = some w.s:=by simp [az,h]
theorem HA {L:List ByteArray} {s:ByteArray} (h:∀ j,j < L.length->L[j]? ≠ some s):cO L s=none:=ry fun j hj=>by grind
abbrev Sg (l:List Wd) (s:ByteArray) (e:Nat):St:=
 ⟨[aZ 0 2 (bA l),(1,⟨[],.v (.string s)⟩),au 5 e],[],[]⟩
theorem e9 (l:List Wd) (s:ByteArray) (hs:wdsWt l<=1099511627776) :
  EvP prog 128 [.sl 2 (bA l) none,.v (.string s)] (.v (.int .i64 (oz (cO (az l) s)))):=by
 have oZ:=bp l;have jd:=di l;refine eG 20 [.tmp 4] func128 rfl ntmps128 rfl fun _ _ _ _=>?_;refine lI (fun j st=>∃ e:Nat,st=Sg l s e/\e<=l.length/\(∀ j,j < e->(az l)[j]? ≠ some s)/\j=l.length - e) ⟨0,rfl,by omega,fun _ h=>by omega,rfl⟩ (wkM wB) ?_;rintro j st ⟨e,rfl,he,dE,rfl⟩;refine br ?_ ?_<;>intro hL
 ·have av:e < l.length:=by simpa [ay] using hL
  obtain ⟨w,hw⟩:=gX av;refine ⟨jL w,⟨by omega,aQ hw⟩,?_⟩;refine br ?_ ?_<;>intro hq
  ·have hq:w.s=s:=sU hq;rw [Ar (p:=e) (by rw [mT hw,hq]) (fun j hj=>Nat.le_of_not_lt fun hl=>dE j hl hj)];exact (rfl:_=_)
  ·have hq:¬ w.s=s:=sU hq;refine ⟨Sg l s (e + 1),(wkM (wB1 (nxt av (by omega)))),l.length - (e + 1),by omega,e + 1,rfl,by omega,fun j hj=>?_,rfl⟩;rcases jB hj with hj | rfl
   ·exact dE j hj
   ·rw [mT hw];simpa using hq
 ·have hge:e=l.length:=by have:=hL;simp [ay] at this;omega
  rw [HA (fun j hj=>dE j (by omega))];exact (rfl:_=_)
theorem fw {o:Option Nat}:decide (oz o < 0)=true↔o=none:=by
 cases o with
 | none=>simp [oz]
 | some k=>grind [oz]
theorem CR {L:List ByteArray}:∀ {o:List (Wd × Wd)},(numF L o).1=0->∀ x∈o,(∃ a,cO L x.1.s=some a)/\∃ b,cO L x.2.s=some b
 | [],_,x,hx=>by cases hx
 | p :: r,h,x,hx=>by
  rw [numF] at h;split at h
  ·exact absurd h (by simp)
  rename_i h1;split at h
  ·exact absurd h (by simp)
  rename_i h2;rcases cr hx with rfl | hx
  ·exact ⟨Option.ne_none_iff_exists'.1 h1,Option.ne_none_iff_exists'.1 h2⟩
  ·exact CR h x hx
abbrev Zl (l:List Wd) (o:List (Wd × Wd)) (q e:Nat):St:=
 ⟨[aZ 0 2 (bA l),aZ 1 4 (mf o),(5,⟨[],.sl 2 (lC (de (az l) (o.take e))) (some 0)⟩),au 6 e],[],[⟨q,212,2,none⟩]⟩
theorem FI (l:List Wd) (o:List (Wd × Wd)) (hs:wdsWt l<=1099511627776) (Eo:prsWt o<=1099511627776) (hF:(numF (az l) o).1=0) :
  EvP prog 78 [.sl 2 (bA l) none,.sl 4 (mf o) none] (.sl 2 (lC (de (az l) o)) none):=by
 have oZ:=ir o;refine eG 34 [.tmp 4] func78 rfl ntmps78 rfl fun _ _ _ _=>?_;refine lJ (fun e=>Zl l o e e) o.length (fA ⟨0,212,2,none⟩ rfl ⟨_,rfl⟩ rfl wA rfl rfl gR) ?_;intro e he;refine br ?_ ?_<;>intro hL
 ·have av:e < o.length:=by simpa [fB] using hL
  obtain ⟨w,hw⟩:=gX av;obtain ⟨⟨a,ha⟩,⟨b,hb⟩⟩:=CR hF w (mG hw);have Kg:=e9 l w.1.s hs;have uw:=e9 l w.2.s hs;rw [ha] at Kg;rw [hb] at uw;refine dI ?_;refine ⟨Kh w,⟨by omega,gB hw⟩,?_⟩;refine cD uQ Kg ?_;refine ⟨Kh w,⟨by omega,gB hw⟩,?_⟩;refine cD uQ uw ?_;refine ⟨by simp [gC,de];omega,⟨by simp [gC,de,maxLen];omega,by simp [gC,de];omega⟩,?_⟩;exact rE ⟨_,by omega,e + 1,rfl,by omega,rfl⟩ (wkM (wB2 (nxt av (by omega)) (yJ hw ha hb)))
 ·have hge:e=o.length:=by
   have:=hL;simp [fB] at this;omega
  have ht:o.take e=o:=by rw [hge,List.take_length]
  rw [ht];exact ⟨_,ax,rfl⟩
theorem CS (l:List Wd) (o:List (Wd × Wd)) (hl:l.length<=32) (hs:wdsWt l<=1099511627776) (Eo:prsWt o<=1099511627776) (hF:(numF (az l) o).1=0) :
  EvP prog 33 [.sl 2 (bA l) none,.sl 4 (mf o) none] (.sl 1 (cH (dt l.length (eC l.length (de (az l) o)))) none):=by
 have oZ:=ir o;have hP:rr l.length (de (az l) o):=by have:=nA hF;rwa [di] at this
 have hN:=ay l;have PK:=FG l.length (by omega) (de (az l) o) hP (by simp [de];omega);rw [Jk hP] at PK;refine eG 11 [.tmp 4] func33 rfl ntmps33 rfl fun _ _ _ _=>?_;refine cP en78 (FI l o hs Eo hF) ?_;rw [hN];refine cP en77 PK ?_;exact ⟨_,ax,rfl⟩
theorem CT (n:Nat) (f:Nat->Nat->Bool):(dt n f).length=n:=by simp [dt]
theorem gn (n:Nat) (f:Nat->Nat->Bool):(cH (dt n f)).length=n:=by rw [vN,CT]
theorem dj {n:Nat} {f:Nat->Nat->Bool} {a:Nat} (ha:a < n):(cH (dt n f))[a]? = some [DV.sl 1 (vM ((List.range n).map (f a))) none]:=MO (Ct ha)
theorem cA {n:Nat} {f:Nat->Nat->Bool} {a b:Nat} (hb:b < n):(vM ((List.range n).map (f a)))[b]? = some [DV.v (.bool (f a b))]:=Hy (by simp [List.getElem?_range hb])
abbrev Sh (n:Nat) (f:Nat->Nat->Bool) (e:Nat):St:=
 ⟨[aZ 0 1 (cH (dt n f)),au 3 e],[],[]⟩
abbrev Ut (n:Nat) (f:Nat->Nat->Bool) (e k:Nat):St:=
 ⟨[aZ 0 1 (cH (dt n f)),au 3 e,au 4 k],[],[]⟩
theorem CV (n:Nat) (f:Nat->Nat->Bool) (hn:n<=64) :
  EvP prog 192 [.sl 1 (cH (dt n f)) none] (.v (.int .i64 (oz (bc (j7 n f) n)))):=by
 have ey:=gn n f;refine eG 39 [.tmp 2] func192 rfl ntmps192 rfl fun _ _ _ _=>?_;refine lI (fun j st=>∃ e:Nat,st=Sh n f e/\e<=n/\(∀ a,a < e->j7 n f a=false)/\j=n - e) ⟨0,rfl,by omega,fun _ h=>by omega,rfl⟩ (wkM wB) ?_;rintro j st ⟨e,rfl,he,dE,rfl⟩;refine br ?_ ?_<;>intro hL
 ·have av:e < n:=sV ey hL;refine lI (fun j st=>∃ k:Nat,st=Ut n f e k/\k<=n/\(∀ b,b < k->(decide (e≠b) && (f e b && f b e))=false)/\j=n - k) ⟨0,rfl,by omega,fun _ h=>by omega,rfl⟩ (wkM wB) ?_;rintro j st ⟨k,rfl,hk,MQ,rfl⟩;refine br ?_ ?_<;>intro mN
  ·have gL:k < n:=sV ey mN;have u7:(decide (e≠k) && (f e k && f k e))=false->∀ b,b < k + 1->(decide (e≠b) && (f e b && f b e))=false:=fun h b hb=>by grind
   refine br ?_ ?_<;>intro g1
   ·have g1:e≠k:=by have:=g1;simp at this;omega
    refine iX (dj av) ?_;refine iX (cA gL) ?_;refine br ?_ ?_<;>intro g2
    ·have g2:f e k=true:=by simpa [pickB] using g2
     refine iX (dj gL) ?_;refine iX (cA av) ?_;refine br ?_ ?_<;>intro g3
     ·have g3:f k e=true:=by simpa [pickB] using g3
      have hp:j7 n f e=true:=List.any_eq_true.2 ⟨k,List.mem_range.2 gL,by simp [g1,g2,g3]⟩;rw [bP av hp dE];exact (rfl:_=_)
     ·have g3:f k e=false:=by simpa [pickB] using g3
      exact rE ⟨_,by omega,k + 1,rfl,by omega,u7 (by simp [g3]),rfl⟩ (wkM (wB1 (nxt gL (by omega))))
    ·have g2:f e k=false:=by simpa [pickB] using g2
     exact rE ⟨_,by omega,k + 1,rfl,by omega,u7 (by simp [g2]),rfl⟩ (wkM (wB1 (nxt gL (by omega))))
   ·have g1:e=k:=by have:=g1;simp at this;omega
    exact rE ⟨_,by omega,k + 1,rfl,by omega,u7 (by simp [g1]),rfl⟩ (wkM (wB1 (nxt gL (by omega))))
  ·have hge:k=n:=sW ey mN;refine ⟨Sh n f (e + 1),(wkM (wB1 (nxt av (by omega)))),n - (e + 1),by omega,e + 1,rfl,by omega,fun j hj=>?_,rfl⟩;rcases jB hj with hj | rfl
   ·exact dE j hj
   ·grind [j7]
 ·have hge:e=n:=sW ey hL;subst hge;rw [bZ dE];exact (rfl:_=_)
abbrev tuSt (n:Nat) (f:Nat->Nat->Bool) (q e:Nat):St:=
 ⟨[aZ 0 1 (cH (dt n f)),(3,⟨[],.sl 1 (cH ((dt n fun a b=>f b a).take e)) (some 0)⟩),au 4 e],[],[⟨q,178,1,none⟩]⟩
abbrev Zm (n:Nat) (f:Nat->Nat->Bool) (q e:Nat) (r:List Bool) (k:Nat):St:=
 ⟨[aZ 0 1 (cH (dt n f)),(3,⟨[],.sl 1 (cH ((dt n fun a b=>f b a).take e)) (some 0)⟩),au 4 e,(5,⟨[],.ms 0 1 0 n n⟩),au 6 k],[cB r],[⟨q,178,1,none⟩]⟩
abbrev Zn (n:Nat) (f:Nat->Nat->Bool) (q e:Nat) (r:List Bool):St:=
 ⟨[aZ 0 1 (cH (dt n f)),au 4 e,(32,⟨[],.sl 1 (cH ((dt n fun a b=>f b a).take e)) (some 0)⟩),aZ 33 1 (vM r)],[],[⟨q,178,1,none⟩]⟩
def kL (n:Nat) (f:Nat->Nat->Bool) (e k:Nat):List Bool:=(List.range n).map fun b=>if b < k then f b e else false
theorem rO (n:Nat) (f:Nat->Nat->Bool) (e k:Nat):(kL n f e k).length=n:=by simp [kL]
theorem FJ (n:Nat) (f:Nat->Nat->Bool) (e:Nat):kL n f e 0=List.replicate n false:=by
 refine List.ext_getElem? fun i=>?_
 grind [kL,rO]
theorem FK (n:Nat) (f:Nat->Nat->Bool) (e k:Nat):(kL n f e k).set k (f k e)=kL n f e (k + 1):=by
 refine List.ext_getElem? fun i=>?_
 grind [kL,rO]
theorem FL (n:Nat) (f:Nat->Nat->Bool) (e:Nat):kL n f e n=(List.range n).map (fun b=>f b e):=by simp_all [kL]
theorem Jl (n:Nat) (f:Nat->Nat->Bool) (hn:n<=64) :
  EvP prog 193 [.sl 1 (cH (dt n f)) none] (.sl 1 (cH (dt n fun a b=>f b a)) none):=by
 have ey:=gn n f;have Zf:=CT n fun a b=>f b a;refine eG 37 [.tmp 2] func193 rfl ntmps193 rfl fun _ _ _ _=>?_;refine lJ (fun e=>tuSt n f e e) n (fA ⟨0,178,1,none⟩ rfl ⟨_,rfl⟩ rfl wA rfl rfl gR) ?_;intro e he;refine br ?_ ?_<;>intro hL
 ·have av:e < n:=sV ey hL;refine ⟨⟨rfl,by omega,by rw [ey];omega,by rw [ey];omega⟩,?_⟩;rw [ey];have iP:(List.replicate (n:Int).toNat (vL [Value.bool false])).flatten=cB (kL n f e 0):=by grind [Jj,FJ]
  refine lJ (fun k=>Zm n f e e (kL n f e k) k) n (wkB 1 (mw iP) (wB1 iP)) ?_;intro k hk;refine br ?_ ?_<;>intro mN
  ·have gL:k < n:=sV ey mN;refine iX (dj gL) ?_;refine iX (cA av) ?_;refine ⟨⟨by omega,by omega⟩,?_⟩;refine ⟨by rw [rM,rO];omega,?_⟩
   have lZ:(cB (kL n f e k)).set (0 + (k:Int).toNat * 1) (DV.v (.bool (f (k:Int).toNat (e:Int).toNat)))=cB (kL n f e (k + 1)):=by
    rw [show 0 + (k:Int).toNat * 1=k by omega,AD,iT,iT,FK]
   exact rE ⟨_,by omega,k + 1,rfl,by omega,rfl⟩ (wkB 1 (wA2 lZ (nxt gL (by omega))) (wB2 lZ (nxt gL (by omega))))
  ·have hge:k=n:=sW ey mN;subst hge;rw [FL];refine Ks.wk (.G1 (st':=Zn k f e e ((List.range k).map fun b=>f b e)) 0 rfl rfl rfl rfl ?_) rfl rfl ?_
   ·refine ⟨⟨_,rfl,?_⟩,⟨_,rfl,?_⟩,⟨_,rfl,?_⟩,⟨_,rfl,Sf (by simp) (by omega) rfl⟩,trivial⟩
    ·grind [Cc]
    ·simp only [Cc]
    ·grind [Cc]
   ·have Zo:(cH ((dt k fun a b=>f b a).take e)).length=e:=by rw [vN,ez,Zf];omega
    have iq:cH ((dt k fun a b=>f b a).take e) ++ [[DV.sl 1 (vM ((List.range k).map fun b=>f b e)) none]]=cH ((dt k fun a b=>f b a).take (e + 1)):=by rw [List.take_add_one,Ct av];simp [cH]
    refine ⟨Zo,⟨by rw [Zo];simp [maxLen];omega,by rw [Zo];simp;omega⟩,?_⟩;exact rE ⟨_,by omega,e + 1,rfl,by omega,rfl⟩ (wkM (wB2 (nxt av (by omega)) iq))
 ·have hge:e=n:=sW ey hL;subst hge;rw [List.take_of_length_le (by rw [Zf];omega)];exact ⟨_,ax,rfl⟩
def Si (f:Nat->Nat->Bool) (n a b c:Nat):Bool:=(f a c && f b c) && (List.range n).all fun d=>!(f a d && f b d) || f c d
def jV (f:Nat->Nat->Bool) (n a b:Nat):Option Nat:=bc (Si f n a b) n
def mh (f:Nat->Nat->Bool) (a b c k:Nat):Bool:=(f a c && f b c) && (List.range k).all fun d=>!(f a d && f b d) || f c d
theorem Jm (f:Nat->Nat->Bool) (a b c k:Nat):mh f a b c (k + 1)=(mh f a b c k && (!(f a k && f b k) || f c k)):=by
 simp only [mh,List.range_succ,List.all_append,List.all_cons,List.all_nil,Bool.and_true,Bool.and_assoc]
theorem yZ (f:Nat->Nat->Bool) (a b c:Nat):mh f a b c 0=(f a c && f b c):=by simp [mh]
abbrev Zp (n:Nat) (f:Nat->Nat->Bool) (a b e:Nat):St:=
 ⟨[aZ 0 1 (cH (dt n f)),au 1 a,au 2 b,au 7 e],[],[]⟩
abbrev HC (n:Nat) (f:Nat->Nat->Bool) (a b e:Nat) (x:Bool) (k:Nat):St:=
 ⟨[aZ 0 1 (cH (dt n f)),au 1 a,au 2 b,au 7 e,uF 8 x,au 9 k],[],[]⟩
theorem iK (n:Nat) (f:Nat->Nat->Bool) (hn:n<=64) (a b:Nat) (ha:a < n) (hb:b < n) :
  EvP prog 86 [.sl 1 (cH (dt n f)) none,.v (.int .i64 a),.v (.int .i64 b)] (.v (.int .i64 (oz (jV f n a b)))):=by
 have ey:=gn n f;refine eG 66 [.tmp 6] func86 rfl ntmps86 rfl fun _ _ _ _=>?_;refine lI (fun j st=>∃ e:Nat,st=Zp n f a b e/\e<=n/\(∀ c,c < e->Si f n a b c=false)/\j=n - e) ⟨0,rfl,by omega,fun _ h=>by omega,rfl⟩ (wkM wB) ?_;rintro j st ⟨e,rfl,he,dE,rfl⟩;refine br ?_ ?_<;>intro hL
 ·have av:e < n:=sV ey hL;refine iX (dj ha) ?_;refine iX (cA av) ?_;have e1:(f a e == true)=true->f b e=mh f a b e 0:=fun g=>by rw [yZ,show f a e=true by simpa using g];simp
  have e2:(f a e == true)=false->false=mh f a b e 0:=fun g=>by rw [yZ,show f a e=false by simpa using g];simp
  refine have body:=?_;br (fun g1=>⟨_,⟨by omega,dj hb⟩,⟨_,⟨by omega,cA av⟩,aP (fun j st=>∃ k:Nat,st=HC n f a b e (mh f a b e k) k/\k<=n/\j=n - k) n (HC n f a b e (mh f a b e 0) 0) (wkM (by repeat' (first | exact trivial | exact aA rfl | exact (show We _ _ _ (DV.v (.bool (f b e))) _ from bV (e1 g1)) | refine ⟨⟨_,rfl,?_⟩,?_⟩))) ⟨0,rfl,by omega,by omega⟩ body⟩⟩) (fun g1=>aP (fun j st=>∃ k:Nat,st=HC n f a b e (mh f a b e k) k/\k<=n/\j=n - k) n (HC n f a b e (mh f a b e 0) 0) (wkM (by repeat' (first | exact trivial | exact aA rfl | exact (show We _ _ _ (DV.v (.bool false)) _ from bV (e2 g1)) | refine ⟨⟨_,rfl,?_⟩,?_⟩))) ⟨0,rfl,by omega,by omega⟩ body);rintro j st ⟨k,rfl,hk,rfl⟩;refine br ?_ ?_<;>intro mN
  ·have gL:k < n:=sV ey mN;have Jn:=Jm f a b e k;refine iX (dj ha) ?_;refine iX (cA gL) ?_;refine br ?_ ?_<;>intro g1
   ·refine iX (dj hb) ?_;refine iX (cA gL) ?_;refine br ?_ ?_<;>intro g2
    ·refine iX (dj av) ?_;refine iX (cA gL) ?_;refine br ?_ ?_<;>intro g3
     ·have hx:false=mh f a b e (k + 1):=by simp [pickB] at g1 g2 g3;rw [Jn];simp [g1,g2,g3]
      exact rE ⟨_,by omega,k + 1,rfl,by omega,rfl⟩ (wkM (wB2 (nxt gL (by omega)) hx))
     ·have hx:mh f a b e k=mh f a b e (k + 1):=by simp [pickB] at g1 g2 g3;rw [Jn];simp [g1,g2,g3]
      exact rE ⟨_,by omega,k + 1,rfl,by omega,rfl⟩ (wkM (wB2 (nxt gL (by omega)) hx))
    ·have hx:mh f a b e k=mh f a b e (k + 1):=by simp [pickB] at g1 g2;rw [Jn];simp [g1,g2]
     exact rE ⟨_,by omega,k + 1,rfl,by omega,rfl⟩ (wkM (wB2 (nxt gL (by omega)) hx))
   ·have hx:mh f a b e k=mh f a b e (k + 1):=by simp [pickB] at g1;rw [Jn];simp [g1]
    exact rE ⟨_,by omega,k + 1,rfl,by omega,rfl⟩ (wkM (wB2 (nxt gL (by omega)) hx))
  ·have hge:k=n:=sW ey mN;subst hge;refine br ?_ ?_<;>intro g
   ·have g:Si f k a b e=true:=g;rw [jV,bP av g dE];exact (rfl:_=_)
   ·have g:Si f k a b e=false:=g;refine ⟨Zp k f a b (e + 1),(wkM (wB1 (nxt av (by omega)))),k - (e + 1),by omega,e + 1,rfl,by omega,fun j hj=>?_,rfl⟩;rcases jB hj with hj | rfl
    ·exact dE j hj
    ·exact g
 ·have hge:e=n:=sW ey hL;subst hge;rw [jV,bZ dE];exact (rfl:_=_)
theorem MR {l:List Wd} {i:Nat} {w:Wd} (hw:l[i]? = some w):∃ p,cO (az l) w.s=some p/\(p < i↔cq (l.take i) w.s=true):=by
 cases h:cO (az l) w.s with
 | none=>exact absurd (mG (mT hw)) (xP.1 h)
 | some p=>
  refine ⟨p,rfl,?_⟩;obtain ⟨h1,h2,h3⟩:=cS h;rw [di] at h1;have xT:∃ v,l[p]? = some v/\v.s=w.s:=by grind [mT]
  obtain ⟨v,hv,xD⟩:=xT;unfold cq;rw [List.any_eq_true];refine ⟨fun av=>⟨v,mG (i:=p) (by rw [cg,ai av];exact hv),by simp [xD]⟩,fun ⟨x,hx,D7⟩=>?_⟩;obtain ⟨j,hj⟩:=List.getElem?_of_mem hx
  grind [mT]
theorem AE {f:Nat->Nat->Bool} {n a b c:Nat}:Si f n a b c=true↔f a c=true/\f b c=true/\∀ d,d < n->f a d=true->f b d=true->f c d=true:=by grind [Si]
structure Oo (f:Nat->Nat->Bool) (n:Nat):Prop where
 rfl':∀ a,a < n->f a a=true
 Fl:∀ a b,a < n->b < n->f a b=true->f b a=true->a=b
theorem Oo.flip {f:Nat->Nat->Bool} {n:Nat} (h:Oo f n):Oo (fun x y=>f y x) n:=⟨h.rfl',fun a b ha hb h1 h2=>h.Fl a b ha hb h2 h1⟩
theorem CW {f:Nat->Nat->Bool} {n a b c:Nat} (h:Oo f n) (hc:c < n) (hj:Si f n a b c=true):eP f n a b=some c:=by
 obtain ⟨h1,h2,h3⟩:=AE.1 hj
 have key:∀ e,e<=n->c < e->bestA (fun c=>f a c && f b c) f e=some c:=by
  intro e
  induction e with
  | zero=>intro _ h;omega
  | succ e ih=>
   intro he Yu;rw [bestA];by_cases hec:e=c
   ·subst hec;rw [ai];simp only [h1,h2,Bool.and_true,Bool.true_and]
    cases ho:bestA (fun c=>f a c && f b c) f e with
    | none=>rfl
    | some o=>
     have hp:=rF ho;have hl:=mL ho;simp only [aO] at hp;exact h3 o (by omega) hp.1 hp.2
   ·rw [ih (by omega) (by omega),ah];simp only [aO,Cx,not_and];intro hp hec2;exact hec (h.Fl e c (by omega) hc hec2 (h3 e (by omega) hp.1 hp.2))
 grind [eP,mK]
theorem lP {f:Nat->Nat->Bool} {n a b:Nat} (h:Oo f n):(eP f n a b).isNone=(jV f n a b).isNone:=by
 cases hj:jV f n a b with
 | some c=>
  obtain ⟨hc,hi,_⟩:=cM hj;rw [CW h hc hi]
 | none=>
  cases hk:eP f n a b with
  | none=>rfl
  | some k=>
   obtain ⟨h1,h2,h3,h4⟩:=oG hk;have:=dy hj k h1;rw [AE.2 ⟨h2,h3,h4⟩] at this;cases this
def n4 (f:Nat->Nat->Bool) (n a b:Nat):Bool:=(jV f n a b).isNone || (jV (fun x y=>f y x) n a b).isNone
theorem HE {f:Nat->Nat->Bool} {n a b:Nat} (h:Oo f n):kG f n a b=n4 f n a b:=by
 unfold kG n4;rw [lP h,show iI f n a b=eP (fun x y=>f y x) n a b from rfl,lP h.flip]
theorem vO {f:Nat->Nat->Bool} {n b:Nat} (h:Oo f n) (hb:b < n):(jV f n b b).isNone=false:=by
 have hi:Si f n b b b=true:=AE.2 ⟨h.rfl' b hb,h.rfl' b hb,fun d _ h1 _=>h1⟩
 cases hj:jV f n b b with
 | some c=>rfl
 | none=>rw [dy hj b hb] at hi;cases hi
theorem P7 {f:Nat->Nat->Bool} {n b:Nat} (h:Oo f n) (hb:b < n):mM f n b=(List.range b).any fun a=>n4 f n a b:=by
 unfold mM;rw [List.range_succ,List.any_append];simp only [List.any_cons,List.any_nil,Bool.or_false];rw [HE h,show n4 f n b b=false by unfold n4;rw [vO h hb,vO h.flip hb];rfl,Bool.or_false]
 grind [HE]
theorem Uu {n:Nat} {l:List (Nat × Nat)} (hP:rr n l) (h4:bc (j7 n (eC n l)) n=none):Oo (eC n l) n where
 rfl':=fun a ha=>ru hP ha
 Fl:=fun a b ha hb h6 h7=>by grind [dy,j7]
abbrev Zq (l:List Wd) (o:List (Wd × Wd)) (e:Nat):St:=
 ⟨[aZ 0 2 (bA l),aZ 1 4 (mf o),aD 4 0,au 5 e],[[.v (.int .i64 0),.v (.int .i64 0)]],[]⟩
abbrev Zr (l:List Wd) (o:List (Wd × Wd)) (e:Nat):St:=
 ⟨[aZ 0 2 (bA l),aZ 1 4 (mf o),aD 4 0,au 6 e],[[.v (.int .i64 0),.v (.int .i64 0)]],[]⟩
abbrev Sj (l:List Wd) (n:Nat) (f:Nat->Nat->Bool) (e:Nat):St:=
 ⟨[aZ 0 2 (bA l),aD 4 0,aZ 7 1 (cH (dt n f)),aZ 9 1 (cH (dt n fun a b=>f b a)),au 10 e],[[.v (.int .i64 0),.v (.int .i64 0)]],[]⟩
abbrev Sk (l:List Wd) (n:Nat) (f:Nat->Nat->Bool) (e k:Nat):St:=
 ⟨[aZ 0 2 (bA l),aD 4 0,aZ 7 1 (cH (dt n f)),aZ 9 1 (cH (dt n fun a b=>f b a)),au 10 e,au 11 k],[[.v (.int .i64 0),.v (.int .i64 0)]],[]⟩
theorem AF (l:List Wd) (o:List (Wd × Wd)) (hs:wdsWt l<=1099511627776) (Eo:prsWt o<=1099511627776) :
  EvP prog 158 [.sl 2 (bA l) none,.sl 4 (mf o) none] (latF l o).d:=by
 have oZ:=bp l;have hsl2:=ir o;have hF:latF l o=latF l o:=rfl
 conv at hF=>rhs;unfold latF
 refine eG 150 [.cell 4 44] func158 rfl ntmps158 rfl fun _ _ _ _=>?_;generalize latF l o=F at hF ⊢;refine br ?_ ?_<;>intro h
 ·have h:l=[]:=by simpa [ay] using h
  rw [show fC l o=(15,0) by rw [fC,ai h],ai (by decide)] at hF;refine ⟨_,?_,rfl⟩;rw [hF];exact ax
 have h:¬ l=[]:=by simpa [ay] using h
 refine br ?_ ?_<;>intro h1
 ·have h1:32 < l.length:=by simp [ay] at h1;omega
  obtain ⟨x,hx⟩:∃ x,l[32]? = some x:=⟨_,gE h1⟩;rw [show fC l o=(8,x.a) by rw [fC,ah h,ai h1,hx];rfl,ai (by simp)] at hF;refine ⟨jL x,⟨by omega,aQ hx⟩,?_⟩;refine ⟨_,?_,rfl⟩;rw [hF];exact ax
 have h1:¬ 32 < l.length:=by simp [ay] at h1;omega
 refine br ?_ ?_<;>intro h2
 ·have h2:256 < o.length:=by simp [fB] at h2;omega
  obtain ⟨x,hx⟩:∃ x,o[256]? = some x:=⟨_,gE h2⟩;rw [show fC l o=(8,x.1.a) by rw [fC,ah h,ah h1,ai h2,hx];rfl,ai (by simp)] at hF;refine ⟨Kh x,⟨by omega,gB hx⟩,?_⟩;refine ⟨_,?_,rfl⟩;rw [hF];exact ax
 have h2:¬ 256 < o.length:=by simp [fB] at h2;omega
 rw [show fC l o=(0,0) by rw [fC,ah h,ah h1,ah h2],ah (by decide)] at hF;have h0:enumL l 0 l=enumL l 0 (l.drop 0):=rfl;refine lI (fun j st=>∃ e:Nat,st=Zq l o e/\e<=l.length/\enumL l 0 l=enumL l e (l.drop e)/\j=l.length - e) ⟨0,rfl,by omega,rfl,rfl⟩ (wkM wB) ?_;rintro j st ⟨e,rfl,he,aK,rfl⟩;refine br ?_ ?_<;>intro hL
 ·have av:e < l.length:=by simpa [ay] using hL
  obtain ⟨w,hw⟩:=gX av;have RQ:=ij (mG hw);have bi:enumL l e (l.drop e)=if aF l e w≠0 then (aF l e w,w.a) else enumL l (e + 1) (l.drop (e + 1)):=by rw [drop_cons hw,enumL]
  obtain ⟨p,hp,J9⟩:=MR hw;have hf:=e9 l w.s hs;rw [hp] at hf;refine ⟨jL w,⟨by omega,aQ hw⟩,?_⟩;refine cP su (gl w.s (by omega)) ?_;refine br ?_ ?_<;>intro hN
  ·have hN:aM w.s=false:=sU hN;have hf:aF l e w=9:=by simp [aF,hN]
   rw [aK,bi,hf,ai (show (9:Int)≠0 by decide),ai (by simp)] at hF;refine ⟨jL w,⟨by omega,aQ hw⟩,?_⟩;refine ⟨_,?_,rfl⟩;rw [hF];exact ax
  ·have hN:aM w.s=true:=sU hN;refine ⟨jL w,⟨by omega,aQ hw⟩,?_⟩;refine cP uQ hf ?_;refine br ?_ ?_<;>intro h2
   ·have h2:p < e:=by have:=h2;simp [oz] at this;exact this
    have hf:aF l e w=10:=by simp [aF,hN,J9.1 h2]
    rw [aK,bi,hf,ai (show (10:Int)≠0 by decide),ai (by simp)] at hF;refine ⟨jL w,⟨by omega,aQ hw⟩,?_⟩;refine ⟨_,?_,rfl⟩;rw [hF];exact ax
   ·have h2:¬ p < e:=by have:=h2;simp [oz] at this;omega
    have hd:cq (l.take e) w.s=false:=by grind
    have hf:aF l e w=0:=by simp [aF,hN,hd]
    rw [hf,ah (by simp)] at bi;exact rE ⟨_,by omega,e + 1,rfl,by omega,by rw [aK,bi],rfl⟩ (wkM (wB1 (nxt av (by omega))))
 have hge:e=l.length:=by have:=hL;simp [ay] at this;omega
 rw [aK,hge,List.drop_length,show enumL l l.length []=(0,0) from rfl,ah (by decide)] at hF;refine lI (fun j st=>∃ e:Nat,st=Zr l o e/\e<=o.length/\numF (az l) o=numF (az l) (o.drop e)/\j=o.length - e) ⟨0,rfl,by omega,rfl,rfl⟩ (wkM wB) ?_;clear aK hL hge he e;rintro j st ⟨e,rfl,he,aK,rfl⟩;refine br ?_ ?_<;>intro hL
 ·have av:e < o.length:=by simpa [fB] using hL
  obtain ⟨w,hw⟩:=gX av;have bi:numF (az l) (o.drop e)=if cO (az l) w.1.s=none then (17,w.1.a) else if cO (az l) w.2.s=none then (17,w.2.a) else numF (az l) (o.drop (e + 1)):=by rw [drop_cons hw,numF]
  refine ⟨Kh w,⟨by omega,gB hw⟩,?_⟩;refine cP uQ (e9 l w.1.s hs) ?_;refine br ?_ ?_<;>intro ha
  ·have ha:=fw.1 ha;rw [aK,bi,ai ha,ai (by simp)] at hF;refine ⟨Kh w,⟨by omega,gB hw⟩,?_⟩;refine ⟨_,?_,rfl⟩;rw [hF];exact ax
  have ha:¬ cO (az l) w.1.s=none:=fun hn=>by have:=fw.2 hn;rw [ha] at this;cases this
  refine ⟨Kh w,⟨by omega,gB hw⟩,?_⟩;refine cP uQ (e9 l w.2.s hs) ?_;refine br ?_ ?_<;>intro hb
  ·have hb:=fw.1 hb;rw [aK,bi,ah ha,ai hb,ai (by simp)] at hF;refine ⟨Kh w,⟨by omega,gB hw⟩,?_⟩;refine ⟨_,?_,rfl⟩;rw [hF];exact ax
  have hb:¬ cO (az l) w.2.s=none:=fun hn=>by have:=fw.2 hn;rw [hb] at this;cases this
  rw [ah ha,ah hb] at bi;exact rE ⟨_,by omega,e + 1,rfl,by omega,by rw [aK,bi],rfl⟩ (wkM (wB1 (nxt av (by omega))))
 have hge:e=o.length:=by have:=hL;simp [fB] at this;omega
 rw [hge,List.drop_length,show numF (az l) []=(0,0) from rfl] at aK;rw [aK,ah (by decide)] at hF;have mj:(numF (az l) o).1=0:=by rw [aK]
 have hP:rr l.length (de (az l) o):=by have:=nA mj;rwa [di] at this
 have hpo:=Uu hP;have ey:=gn l.length (eC l.length (de (az l) o));refine cP Tu (CS l o (by omega) hs Eo mj) ?_;generalize eC l.length (de (az l) o)=f at hF hpo ey ⊢;refine cP XH (CV l.length f (by omega)) ?_
 cases hlo:bc (j7 l.length f) l.length with
 | some a=>
  rw [hlo] at hF;have ha:=(cM hlo).1;obtain ⟨x,hx⟩:∃ x,l[a]? = some x:=⟨_,gE ha⟩;simp only [j8 hx] at hF;refine ⟨jL x,⟨by simp only [oz];omega,aQ hx⟩,?_⟩;refine ⟨_,?_,rfl⟩;rw [hF];exact ax
 | none=>
 have hpo:=hpo hlo;rw [hlo] at hF;simp only at hF;refine cP XI (Jl l.length f (by omega)) ?_;refine lI (fun j st=>∃ e:Nat,st=Sj l l.length f e/\e<=l.length/\(∀ b,b < e->mM f l.length b=false)/\j=l.length - e) ⟨0,rfl,by omega,fun _ h=>by omega,rfl⟩ (wkM wB) ?_;clear aK hL hge he e;rintro j st ⟨e,rfl,he,dE,rfl⟩;refine br ?_ ?_<;>intro hL
 ·have av:e < l.length:=sV ey hL;have Q7:=P7 hpo av;refine lI (fun j st=>∃ k:Nat,st=Sk l l.length f e k/\k<=e/\(∀ a,a < k->n4 f l.length a e=false)/\j=e - k) ⟨0,rfl,by omega,fun _ h=>by omega,rfl⟩ (wkM wB) ?_;rintro j st ⟨k,rfl,hk,MQ,rfl⟩;refine br ?_ ?_<;>intro mN
  ·have gL:k < e:=sU mN;obtain ⟨x,hx⟩:=gX av
   have MS:n4 f l.length k e=true->F=(12,x.a):=fun CA=>by
    rw [bP av (by rw [Q7,List.any_eq_true];exact ⟨k,by simpa using gL,CA⟩) dE] at hF;simp only [j8 hx] at hF;exact hF
   refine cP Lb (iK l.length f (by omega) k e (by omega) av) ?_;refine br ?_ ?_<;>intro g1
   ·have g1:¬ jV f l.length k e=none:=fun hn=>by rw [fw.2 hn] at g1;cases g1
    refine cP Lb (iK l.length (fun a b=>f b a) (by omega) k e (by omega) av) ?_;refine br ?_ ?_<;>intro g2
    ·have g2:jV (fun a b=>f b a) l.length k e=none:=by
      rw [<- fw];simpa [pickB] using g2
     have hF:=MS (by unfold n4;rw [g2];simp);refine ⟨jL x,⟨by omega,aQ hx⟩,?_⟩;refine ⟨_,?_,rfl⟩;rw [hF];exact ax
    ·have g2:¬ jV (fun a b=>f b a) l.length k e=none:=fun hn=>by
      have h3:=fw.2 hn;simp [pickB] at g2;have h3:=of_decide_eq_true h3;omega
     refine ⟨Sk l l.length f e (k + 1),(wkM (wB1 (nxt gL (by omega)))),e - (k + 1),by omega,k + 1,rfl,by omega,fun j hj=>?_,rfl⟩;rcases jB hj with hj | rfl
     ·exact MQ j hj
     ·unfold n4;rw [Option.isNone_eq_false_iff.2 (Option.isSome_iff_ne_none.2 g1),Option.isNone_eq_false_iff.2 (Option.isSome_iff_ne_none.2 g2)];rfl
   ·have g1:jV f l.length k e=none:=by
     rw [<- fw];simpa using g1
    have hF:=MS (by unfold n4;rw [g1];rfl);refine ⟨jL x,⟨by omega,aQ hx⟩,?_⟩;refine ⟨_,?_,rfl⟩;rw [hF];exact ax
  ·have hge:k=e:=by have:=mN;simp at this;omega
   subst hge;refine ⟨Sj l l.length f (k + 1),(wkM (wB1 (nxt av (by omega)))),l.length - (k + 1),by omega,k + 1,rfl,by omega,fun j hj=>?_,rfl⟩;rcases jB hj with hj | rfl
   ·exact dE j hj
   ·grind
 ·have hge:e=l.length:=sW ey hL;subst hge;rw [bZ dE] at hF;simp only at hF;refine ⟨_,?_,rfl⟩;rw [hF];exact ax
abbrev ovSt (n:Nat) (f:Nat->Nat->Bool) (l:List Nat) (c e:Nat):St:=
 ⟨[aZ 0 1 (cH (dt n f)),aZ 1 1 (dInts l),au 2 c,au 7 e],[],[]⟩
theorem y4 (n:Nat) (f:Nat->Nat->Bool) (hn:n<=64) (l:List Nat) (hl:∀ i∈l,i < n) (Uf:l.length<=1099511627776) (c:Nat) (hc:c < n) :
  EvP prog 179 [.sl 1 (cH (dt n f)) none,.sl 1 (dInts l) none,.v (.int .i64 c)] (.v (.bool (gG f l c))):=by
 have ey:=gn n f;have Kf:=bu l;refine eG 25 [.tmp 6] func179 rfl ntmps179 rfl fun _ _ _ _=>?_;refine lI (fun j st=>∃ e:Nat,st=ovSt n f l c e/\e<=l.length/\gG f l c=gG f (l.drop e) c/\j=l.length - e) ⟨0,rfl,by omega,rfl,rfl⟩ (wkM wB) ?_;rintro j st ⟨e,rfl,he,aK,rfl⟩;rw [aK];refine br ?_ ?_<;>intro hL
 ·have av:e < l.length:=by have:=hL;simp [Kf] at this;exact this
  obtain ⟨i,hi⟩:=gX av;have xN:=hl i (mG hi);have bi:gG f (l.drop e) c=(f i c && gG f (l.drop (e + 1)) c):=by unfold gG;rw [drop_cons hi,List.all_cons]
  refine iX (dQ hi) ?_;refine iX (dj xN) ?_;refine iX (cA hc) ?_;refine br ?_ ?_<;>intro g
  ·have g:f i c=false:=sU g;rw [bi,g,Bool.false_and];exact (rfl:_=_)
  ·have g:f i c=true:=sU g;rw [g,Bool.true_and] at bi;exact rE ⟨_,by omega,e + 1,rfl,by omega,bi,rfl⟩ (wkM (wB1 (nxt av (by omega))))
 ·have hge:e=l.length:=sW Kf hL;rw [hge,List.drop_length];exact (rfl:_=_)
def vP (f:Nat->Nat->Bool) (l:List Nat) (c k:Nat):Bool:=gG f l c && (List.range k).all fun d=>!gG f l d || f c d
theorem Jo (f:Nat->Nat->Bool) (l:List Nat) (c:Nat):vP f l c 0=gG f l c:=by simp [vP]
theorem Jp (f:Nat->Nat->Bool) (l:List Nat) (c k:Nat):vP f l c (k + 1)=(vP f l c k && (!gG f l k || f c k)):=by grind [vP]
abbrev Zs (n:Nat) (f:Nat->Nat->Bool) (l:List Nat) (e:Nat):St:=
 ⟨[aZ 0 1 (cH (dt n f)),aZ 1 1 (dInts l),au 5 e],[],[]⟩
abbrev Zt (n:Nat) (f:Nat->Nat->Bool) (l:List Nat) (e:Nat) (x:Bool) (k:Nat):St:=
 ⟨[aZ 0 1 (cH (dt n f)),aZ 1 1 (dInts l),au 5 e,uF 6 x,au 7 k],[],[]⟩
theorem FM (n:Nat) (f:Nat->Nat->Bool) (hn:n<=64) (l:List Nat) (hl:∀ i∈l,i < n) (Uf:l.length<=1099511627776) :
  EvP prog 129 [.sl 1 (cH (dt n f)) none,.sl 1 (dInts l) none] (.v (.int .i64 (oz (er f n l)))):=by
 have ey:=gn n f;refine eG 40 [.tmp 4] func129 rfl ntmps129 rfl fun _ _ _ _=>?_;refine lI (fun j st=>∃ e:Nat,st=Zs n f l e/\e<=n/\(∀ c,c < e->rG f n l c=false)/\j=n - e) ⟨0,rfl,by omega,fun _ h=>by omega,rfl⟩ (wkM wB) ?_;rintro j st ⟨e,rfl,he,dE,rfl⟩;refine br ?_ ?_<;>intro hL
 ·have av:e < n:=sV ey hL;refine cP Rt (y4 n f hn l hl Uf e av) ?_;refine lJ (fun k=>Zt n f l e (vP f l e k) k) n (wkM (wB1 ((Jo f l e).symm))) ?_;intro k hk;refine br ?_ ?_<;>intro mN
  ·have gL:k < n:=sV ey mN;have Jn:=Jp f l e k;refine cP Rt (y4 n f hn l hl Uf k gL) ?_;refine br ?_ ?_<;>intro g1
   ·refine iX (dj av) ?_;refine iX (cA gL) ?_;refine br ?_ ?_<;>intro g2
    ·have hx:false=vP f l e (k + 1):=by simp [pickB] at g1 g2;rw [Jn];simp [g1,g2]
     exact rE ⟨_,by omega,k + 1,rfl,by omega,rfl⟩ (wkM (wB2 (nxt gL (by omega)) hx))
    ·have hx:vP f l e k=vP f l e (k + 1):=by simp [pickB] at g1 g2;rw [Jn];simp [g1,g2]
     exact rE ⟨_,by omega,k + 1,rfl,by omega,rfl⟩ (wkM (wB2 (nxt gL (by omega)) hx))
   ·have hx:vP f l e k=vP f l e (k + 1):=by simp [pickB] at g1;rw [Jn];simp [g1]
    exact rE ⟨_,by omega,k + 1,rfl,by omega,rfl⟩ (wkM (wB2 (nxt gL (by omega)) hx))
  ·have hge:k=n:=sW ey mN;subst hge;refine br ?_ ?_<;>intro g
   ·have g:rG f k l e=true:=g;rw [er,bP av g dE];exact (rfl:_=_)
   ·have g:rG f k l e=false:=g;refine ⟨Zs k f l (e + 1),(wkM (wB1 (nxt av (by omega)))),k - (e + 1),by omega,e + 1,rfl,by omega,fun j hj=>?_,rfl⟩;rcases jB hj with hj | rfl
    ·exact dE j hj
    ·exact g
 ·have hge:e=n:=sW ey hL;subst hge;rw [er,bZ dE];exact (rfl:_=_)
abbrev Uv (lv:List Wd) (f:Nat->Nat->Bool) (l:List Wd) (q e:Nat):St:=
 ⟨[aZ 0 2 (bA lv),aZ 1 1 (cH (dt lv.length f)),aZ 2 2 (bA l),aD 7 0,(8,⟨[],.sl 1 (dInts (lK (az lv) (l.take e))) (some 0)⟩),au 9 e],[[.v (.int .i64 0),.v (.int .i64 0)]],[⟨q,3,1,none⟩]⟩
theorem P8 {L:List ByteArray} {l:List Wd} {i:Nat} (h:i∈lK L l) (hL:0 < L.length):i < L.length:=by
 unfold lK at h;obtain ⟨w,_,rfl⟩:=List.mem_map.1 h
 cases hx:cO L w.s with
 | none=>simpa using hL
 | some p=>exact (cS hx).1
theorem FN {L:List ByteArray} {l:List Wd} {e i:Nat} {w:Wd} (h:l[e]? = some w) (hi:cO L w.s=some i):dInts (lK L (l.take e)) ++ [[DV.v (.int .i64 (oz (some i)))]]=dInts (lK L (l.take (e + 1))):=by
 rw [rI h hi];simp [dInts,oz]
theorem Jq (lv:List Wd) (f:Nat->Nat->Bool) (h0:0 < lv.length) (hn:lv.length<=32) (hs:wdsWt lv<=1099511627776) (l:List Wd) (hl:wdsWt l<=1099511627776) :
  EvP prog 79 [.sl 2 (bA lv) none,.sl 1 (cH (dt lv.length f)) none,.sl 2 (bA l) none] (I9 f (az lv) l):=by
 have oZ:=bp l;have jd:=di lv;unfold I9 Av;refine eG 40 [.tmp 6,.cell 7 44] func79 rfl ntmps79 rfl fun _ _ _ _=>?_;refine lI (fun j st=>∃ e:Nat,st=Uv lv f l e e/\e<=l.length/\labW (az lv) l=labW (az lv) (l.drop e)/\j=l.length - e) ⟨0,rfl,by omega,rfl,rfl⟩ (fA ⟨0,3,1,none⟩ rfl ⟨_,rfl⟩ rfl wA rfl rfl gR) ?_;rintro j st ⟨e,rfl,he,aK,rfl⟩;rw [aK];refine br ?_ ?_<;>intro hL
 ·have av:e < l.length:=by simpa [ay] using hL
  obtain ⟨w,hw⟩:=gX av;have bi:=rH (L:=az lv) hw;refine ⟨jL w,⟨by omega,aQ hw⟩,?_⟩;refine cP uQ (e9 lv w.s hs) ?_;refine br ?_ ?_<;>intro ha
  ·have ha:=fw.1 ha;rw [bi,ai ha];refine dS ?_;refine ⟨jL w,⟨by omega,aQ hw⟩,?_⟩;exact ⟨_,ax,rfl⟩
  ·cases hi:cO (az lv) w.s with
   | none=>have:=fw.2 hi;rw [ha] at this;cases this
   | some i=>
   rw [ah (by rw [hi];simp)] at bi;refine ⟨by simp [bu,lK];omega,⟨by simp [bu,lK,maxLen];omega,by simp [bu,lK];omega⟩,?_⟩;exact rE ⟨_,by omega,e + 1,rfl,by omega,bi,rfl⟩ (wkM (wB2 (nxt av (by omega)) (FN hw hi)))
 ·have hge:e=l.length:=by have:=hL;simp [ay] at this;omega
  rw [hge,List.drop_length,List.take_length];refine cP Xh (FM lv.length f (by omega) (lK (az lv) l) (fun i hi=>by have:=P8 hi (by omega);omega) (by simp [lK];omega)) ?_;rw [<- jd];exact ⟨_,ax,rfl⟩
theorem Uw {S:Sch} {e:Nat} {x:Wd × Ty} (h:S.types[e]? = some x):(tL S)[e]? = some x.1.s:=by simp [tL,az,tw,h]
abbrev Sm (S:Sch) (s:ByteArray) (e:Nat):St:=
 ⟨[(1,⟨[],.v (.string s)⟩),aD 2 0,au 5 e],[eB S],[]⟩
theorem j9 (S:Sch) (s:ByteArray) (hl:S.types.length<=1099511627776) :
  EvP prog 81 [.agg (eB S),.v (.string s)] (.v (.int .i64 (oz (cO (tL S) s)))):=by
 have hN:=dA S.types;have gN:=jS S;have ji:=@Uw S;obtain ⟨ae,order,types,⟨rh,rp⟩⟩:=S;simp only at hl hN gN ji;refine eG 23 [.tmp 4] func81 rfl ntmps81 rfl fun _ _ _ _=>?_;refine lI (fun j st=>∃ e:Nat,st=Sm ⟨ae,order,types,.mk rh rp⟩ s e/\e<=types.length/\(∀ j,j < e->(tL ⟨ae,order,types,.mk rh rp⟩)[j]? ≠ some s)/\j=types.length - e) ⟨0,rfl,by omega,fun _ h=>by omega,rfl⟩ (wkM wB) ?_;rintro j st ⟨e,rfl,he,dE,rfl⟩;refine br ?_ ?_<;>intro hL
 ·have av:e < types.length:=by have:=hL;simp [hN] at this;exact this
  obtain ⟨x,hx⟩:=gX av;have hg:=ji hx;obtain ⟨xw,⟨xh,xp⟩⟩:=x;refine iX (dNms_get hx) ?_;refine br ?_ ?_<;>intro hq
  ·have hq:xw.s=s:=sU hq;rw [Ar (p:=e) (by rw [hg,hq]) (fun j hj=>Nat.le_of_not_lt fun hl=>dE j hl hj)];exact (rfl:_=_)
  ·have hq:¬ xw.s=s:=sU hq;refine ⟨Sm ⟨ae,order,types,.mk rh rp⟩ s (e + 1),(wkM (wB1 (nxt av (by omega)))),types.length - (e + 1),by omega,e + 1,rfl,by omega,fun j hj=>?_,rfl⟩;rcases jB hj with hj | rfl
   ·exact dE j hj
   ·rw [hg];simpa using hq
 ·have hge:e=types.length:=sW hN hL;rw [HA (fun j hj=>dE j (by omega))];exact (rfl:_=_)
abbrev Zu (S:Sch) (l:List Wd) (e:Nat):St:=
 ⟨[aZ 1 2 (bA l),aD 2 0,aD 4 1,au 5 e],[eB S,[.v (.int .i64 0),.v (.int .i64 0)]],[]⟩
theorem CX (S:Sch) (hs:wdsWt S.ae<=1099511627776) (l:List Wd) (hl:wdsWt l<=1099511627776) :
  EvP prog 200 [.agg (eB S),.sl 2 (bA l) none] (labW (az S.ae) l).d:=by
 have oZ:=bp l;obtain ⟨ae,order,types,⟨rh,rp⟩⟩:=S;simp only at hs;refine eG 28 [.cell 4 44] func200 rfl ntmps200 rfl fun _ _ _ _=>?_;refine lI (fun j st=>∃ e:Nat,st=Zu ⟨ae,order,types,.mk rh rp⟩ l e/\e<=l.length/\labW (az ae) l=labW (az ae) (l.drop e)/\j=l.length - e) ⟨0,rfl,by omega,rfl,rfl⟩ (wkM wB) ?_;rintro j st ⟨e,rfl,he,aK,rfl⟩;rw [aK];refine br ?_ ?_<;>intro hL
 ·have av:e < l.length:=by simpa [ay] using hL
  obtain ⟨w,hw⟩:=gX av;have bi:=rH (L:=az ae) hw;refine dI ?_;refine ⟨jL w,⟨by omega,aQ hw⟩,?_⟩;refine cD uQ (e9 ae w.s hs) ?_;refine br ?_ ?_<;>intro ha
  ·have ha:=fw.1 ha;rw [bi,ai ha];refine ⟨jL w,⟨by omega,aQ hw⟩,?_⟩;exact ⟨_,ax,rfl⟩
  ·rw [ah (fun hn=>by have:=fw.2 hn;rw [ha] at this;cases this)] at bi;exact rE ⟨_,by omega,e + 1,rfl,by omega,bi,rfl⟩ (wkM (wB1 (nxt av (by omega))))
 ·have hge:e=l.length:=by have:=hL;simp [ay] at this;omega
  rw [hge,List.drop_length];exact ⟨_,ax,rfl⟩
def gO (l:List Ty):List (List DV):=l.map dK
theorem dB (l:List Ty):(gO l).length=l.length:=by simp [gO]
theorem jW {l:List Ty} {j:Nat} {t:Ty} (h:l[j]? = some t):(gO l)[j]? = some (dK t):=by simp [gO,h]
def fG (S:Sch):List Ty:=S.types.map fun x=>x.2
def fH (S:Sch):List Ty:=fG S ++ [S.root]
abbrev Zv (S:Sch) (q e:Nat):St:=
 ⟨[aD 1 0,(3,⟨[],.sl 9 (gO ((fG S).take e)) (some 0)⟩),au 4 e],[eB S],[⟨q,29,9,none⟩]⟩
theorem CY (S:Sch) (hl:S.types.length<=1099511627776) :
  EvP prog 34 [.agg (eB S)] (.sl 9 (gO (fH S)) none):=by
 have hN:=dA S.types;obtain ⟨ae,order,types,⟨rh,rp⟩⟩:=S;simp only at hl hN;refine eG 26 [.tmp 2] func34 rfl ntmps34 rfl fun _ _ _ _=>?_;refine lJ (fun e=>Zv ⟨ae,order,types,.mk rh rp⟩ e e) types.length (dJ 1 ⟨0,29,9,none⟩ rfl rfl rfl kZ rfl rfl gR) ?_;intro e he;have gN:(gO ((fG ⟨ae,order,types,.mk rh rp⟩).take e)).length=e:=by simp [gO,fG];omega
 refine br ?_ ?_<;>intro hL
 ·have av:e < types.length:=by have:=hL;simp [hN] at this;exact this
  obtain ⟨x,hx⟩:=gX av
  have iq:gO ((fG ⟨ae,order,types,.mk rh rp⟩).take e) ++ [dK x.2]=gO ((fG ⟨ae,order,types,.mk rh rp⟩).take (e + 1)):=by
   rw [List.take_add_one];simp [fG,hx,gO]
  obtain ⟨xw,⟨xh,xp⟩⟩:=x;refine iX (dNms_get hx) ?_;refine ⟨gN,⟨by rw [gN];simp [maxLen];omega,by rw [gN];simp;omega⟩,?_⟩;exact rE ⟨_,by omega,e + 1,rfl,by omega,rfl⟩ (wkB 1 (wA2 (nxt av (by omega)) iq) (wB2 (nxt av (by omega)) iq))
 ·have hge:e=types.length:=sW hN hL;have ON:gO ((fG ⟨ae,order,types,.mk rh rp⟩).take e) ++ [dK (.mk rh rp)]=gO (fH ⟨ae,order,types,.mk rh rp⟩):=by grind [fG,fH,gO]
  refine ⟨gN,⟨by rw [gN];simp [maxLen];omega,by rw [gN];simp;omega⟩,?_⟩;rw [<- ON];exact ⟨_,ax,rfl⟩
mutual
def flatT:Ty->List Ty
 | .mk h ps=>if h.ag=9 then [] else .mk h ps :: flatP ps
def flatP:Pts->List Ty
 | .nil=>[]
 | .cons p t r=>(if p.bare then [] else flatT t) ++ flatP r
end
mutual
theorem jx:∀ t:Ty,(flatT t).length=t.nn
 | .mk h ps=>by
  have:=rP ps
  grind [flatT,Ty.nn]
theorem rP:∀ ps:Pts,(flatP ps).length=ps.nn
 | .nil=>rfl
 | .cons p t r=>by
  have:=jx t;have:=rP r
  grind [flatP,Pts.nn]
end
theorem Qa {P:Program} {f:FuncId} {args:List DV} {e:Nat} {es:List (List DV)} (h:Ev P f args [] [] (fun r _ _=>r = .sl e es none∨(es=[]/\r = .v (.slice none 0 0)))):EvP P f args (.sl e es none):=by
 intro E w vs hE ht hv;refine (h E w vs hE ht hv).mono ?_;rintro e' w' ⟨v,rfl,hM,hs,d,os,E',h1,h2,h3,h4,h5,h6⟩;rcases h6 with rfl | ⟨rfl,rfl⟩
 ·exact ⟨v,rfl,hM,hs,_,os,E',h1,h2,h3,h4,h5,rfl⟩
 ·refine ⟨v,rfl,hM,hs,.sl e [] none,os,E',h1,h2,h3,h4,?_,rfl⟩;unfold Rv at h5 ⊢;exact ⟨_,0,0,h5.1,⟨rfl,aW _⟩,fun hn=>(hn rfl).elim,fun k hk=>by cases hk⟩
abbrev Ux (t:Ty) (L:List Ty) (q e:Nat):St:=
 ⟨[aD 1 0,(3,⟨[],.sl 9 (gO L) (some 0)⟩),au 4 e],[dK t],[⟨q,29,9,none⟩]⟩
theorem nE:∀ (k:Nat) (t:Ty),t.wt<=k->t.wt<=1099511627776 ->
  EvP prog 35 [.agg (dK t)] (.sl 9 (gO (flatT t)) none)
 | 0,t,hn,_=>by have:=t.dP;omega
 | k + 1,.mk h ps,hn,bY=>by
  simp only [Ty.wt,Hd.wt] at hn bY;have ky:=ps.fq;have hc:=ps.ek;have oc:=ps.gf;have Ir:=rP ps;refine Qa ?_;refine zS (s:=false) (bt:=[]) (mu:=[9]) (hbt:=fun p hp=>by cases hp) (fr:=false) (P:=prog) tt BX 5000 34 [.tmp 2] func35 rfl ntmps35 rfl (nL rfl) (fun _ _ _ _=>?_);refine br ?_ ?_<;>intro h9
  ·have h9:h.ag=9:=sU h9;have:flatT (.mk h ps)=[]:=by simp [flatT,h9]
   exact .inr ⟨by rw [this];rfl,rfl⟩
  have h9:¬ h.ag=9:=sU h9;have Kl:flatT (.mk h ps) = .mk h ps :: flatP ps:=by simp [flatT,h9]
  refine Uk rfl rfl rfl rfl rfl rfl rfl rfl ?_
  refine aP (fun j st=>∃ (e q:Nat) (L:List Ty),st=Ux (.mk h ps) L q e/\q=L.length/\e<=ps.len/\flatT (.mk h ps)=L ++ flatP (ps.drop e)/\j=ps.len - e) ps.len
   (Ux (.mk h ps) [.mk h ps] 1 0) (wkB 1 kZ gR) ⟨0,1,_,rfl,rfl,by omega,Kl,by omega⟩ ?_
  rintro j st ⟨e,q,L,rfl,hq,he,bg,rfl⟩
  have Zw:L.length<=1 + ps.nn:=by
   have:=congrArg List.length bg;rw [Kl] at this;simp at this;omega
  refine br ?_ ?_<;>intro hL
  ·have av:e < ps.len:=by simpa [aH] using hL
   obtain ⟨p,t,hx⟩:=Pts.ej av;have Cb:=Pts.fW (mG hx);rw [Pts.drop_cons hx] at bg;simp only [flatP] at bg;obtain ⟨u,us⟩:=t;refine iX (bO hx) ?_;refine br ?_ ?_<;>intro hB
   ·have hB:p.bare=false:=sU hB;have bg:flatT (.mk h ps)=(L ++ flatT (.mk u us)) ++ flatP (ps.drop (e + 1)):=by rw [bg,hB,List.append_assoc];all_goals rfl
    have Uf:L.length + (flatT (.mk u us)).length<=1 + ps.nn:=by
     have:=congrArg List.length bg;rw [Kl] at this;simp at this;omega
    have iq:gO L ++ gO (flatT (.mk u us))=gO (L ++ flatT (.mk u us)):=by simp [gO]
    refine iX (bO hx) ?_;refine cP O9 (nE k (.mk u us) (by omega) (by omega)) ?_;refine ⟨by rw [dB,hq],⟨by simp only [dB,maxLen];omega,by simp only [dB];omega⟩,?_⟩;exact ⟨Ux (.mk h ps) (L ++ flatT (.mk u us)) (q + (gO (flatT (.mk u us))).length) (e + 1),(wkB 1 (wA2 (nxt av (by omega)) iq) (wB2 (nxt av (by omega)) iq)),ps.len - (e + 1),by omega,e + 1,_,_,rfl,by rw [dB,List.length_append,hq],by omega,bg,rfl⟩
   ·have hB:p.bare=true:=sU hB;rw [hB] at bg;exact rE ⟨_,by omega,e + 1,q,L,rfl,hq,by omega,bg,rfl⟩ (wkB 1 (mw (nxt av (by omega))) (wB1 (nxt av (by omega))))
  ·have hge:e=ps.len:=by simp [aH] at hL;omega
   rw [hge,Pts.cW] at bg;simp only [flatP,List.append_nil] at bg;rw [bg];exact ⟨_,ax,.inl rfl⟩
theorem vQ (S:Sch) (hl:S.types.length<=1099511627776) (hr:∀ x∈S.types,tz S x.2=true):∀ (k i:Nat),i < S.types.length->k<=99 ->
  EvP prog 80 [.agg (eB S),.v (.int .i64 i),.v (.int .i64 k)] (.v (.int .i64 (oz (endI S (k + 1) i))))
 | k,i,hi,hk=>by
  have hN:=dA S.types;have Au:=fun s=>j9 S s hl;have ih:∀ k' j,k=k' + 1->j < S.types.length->EvP prog 80 [.agg (eB S),.v (.int .i64 j),.v (.int .i64 k')] (.v (.int .i64 (oz (endI S (k' + 1) j)))):=fun k' j he hj=>vQ S hl hr k' j hj (by omega);obtain ⟨x,hx⟩:∃ x,S.types[i]? = some x:=⟨_,gE hi⟩;have xE:=hr x (mG hx);have gN:=jS S;obtain ⟨xw,⟨xh,xp⟩⟩:=x;have hE:endI S (k + 1) i=if xh.ag=9 then endI S k ((cO (tL S) xh.name.s).getD 0) else some i:=by rw [endI,hx];all_goals rfl
  obtain ⟨ae,order,types,⟨rh,rp⟩⟩:=S;simp only at hl hN hi hx xE gN;refine eG 32 [.tmp 6] func80 rfl ntmps80 rfl fun _ _ _ _=>?_;refine iX (dNms_get hx) ?_;refine br ?_ ?_<;>intro h9
  ·have h9:¬ xh.ag=9:=sU h9;rw [ah h9] at hE;rw [hE];exact (rfl:_=_)
  have h9:xh.ag=9:=sU h9;rw [ai h9] at hE;rw [hE];refine br ?_ ?_<;>intro h1
  ·have h1:k=0:=by have:=h1;simp at this;omega
   subst h1;exact (rfl:_=_)
  have h1:1<=k:=by have:=h1;simp at this;omega
  obtain ⟨k',rfl⟩:∃ k',k=k' + 1:=⟨k - 1,by omega⟩;have Ol:=of_decide_eq_true xE h9;obtain ⟨j,hj⟩:∃ j,cO (tL ⟨ae,order,types,.mk rh rp⟩) xh.name.s=some j:=Option.ne_none_iff_exists'.1 Ol;have og:=(cS hj).1;rw [gN] at og;have hf:=Au xh.name.s;rw [hj] at hf ⊢;have gP:IntKind.i64.wrap (((k' + 1:Nat):Int) - 1)=(k':Int):=by rw [wrap64 (by omega) (by omega)];omega
  refine dI ?_;refine iX (dNms_get hx) ?_;refine cD Pg hf ?_;refine cD TD (ih k' j rfl og) ?_ (o0 gP);exact (rfl:_=_)
theorem rQ {S:Sch}:∀ {k i j:Nat},endI S k i=some j->endI S (k + 1) i=some j
 | 0,i,j,h=>by cases h
 | k + 1,i,j,h=>by
  rw [endI] at h ⊢
  cases hx:S.types[i]? with
  | none=>rw [hx] at h;cases h
  | some x=>
   rw [hx] at h;simp only at h ⊢;split at h
   ·rename_i h9;rw [ai h9];exact rQ h
   ·rename_i h9;rw [ah h9];exact h
def vR (S:Sch) (k:Nat):List Bool:=(List.range S.types.length).map fun i=>(endI S k i).isSome
theorem qa (S:Sch) (k:Nat):(vR S k).length=S.types.length:=by simp [vR]
theorem vS {S:Sch} {k i:Nat} (hi:i < S.types.length):(vR S k).getD i false=(endI S k i).isSome:=by grind [vR]
theorem Qb (S:Sch) (k:Nat):Px (vR S k) (vR S (k + 1)):=by
 intro i h;by_cases hi:i < S.types.length
 ·rw [vS hi] at h ⊢;obtain ⟨j,hj⟩:=Option.isSome_iff_exists.1 h;rw [rQ hj];rfl
 ·grind [qa]
theorem MT {S:Sch} {k:Nat} (h:vR S k=vR S (k + 1)):∀ i,endI S (k + 2) i=endI S (k + 1) i:=by
 intro i
 have key:∀ {j:Nat},j < S.types.length->(endI S k j).isSome=(endI S (k + 1) j).isSome:=fun {j} hj=>by
  rw [<- vS hj,<- vS hj,h]
 have same:∀ j,endI S (k + 1) j=endI S k j:=fun j=>by
  cases h1:endI S k j with
  | some m=>exact rQ h1
  | none=>
   cases h2:endI S (k + 1) j with
   | none=>rfl
   | some m=>grind [endI]
 grind [endI]
theorem y5 (S:Sch):∀ k,(∀ i,endI S (k + 1) i=endI S k i)∨k<=vm (vR S k)
 | 0=>.inr (Nat.zero_le _)
 | k + 1=>by
  rcases y5 S k with h | h
  ·grind [endI]
  ·rcases (vo (by rw [qa,qa]) (Qb S k)).1 with h2 | h2
   ·exact .inl (MT h2)
   ·exact .inr (by omega)
theorem CZ {S:Sch}:∀ {k:Nat},S.types.length + 1<=k->∀ i,endI S k i=endI S (S.types.length + 1) i:=by
 have bi:∀ i,endI S (S.types.length + 2) i=endI S (S.types.length + 1) i:=fun i=>by
  rcases y5 S (S.types.length + 1) with h | h
  ·exact h i
  ·grind [Hn,vR,qa]
 have key:∀ d i,endI S (S.types.length + 1 + (d + 1)) i=endI S (S.types.length + 1 + d) i:=by
  intro d
  induction d with
  | zero=>exact bi
  | succ d ih=>grind [endI]
 intro k hk i;obtain ⟨d,rfl⟩:∃ d,k=S.types.length + 1 + d:=⟨k - (S.types.length + 1),by omega⟩;clear hk
 induction d with
 | zero=>rfl
 | succ d ih=>rw [key,ih]
theorem vT (S:Sch) (hl:S.types.length<=64) (hr:∀ x∈S.types,tz S x.2=true) (i:Nat) (hi:i < S.types.length) :
  EvP prog 80 [.agg (eB S),.v (.int .i64 i),.v (.int .i64 (99:Nat))] (.v (.int .i64 (oz (endI S (S.types.length + 1) i)))):=by
 have:=vQ S (by omega) hr 99 i hi (aW _)
 rwa [CZ (by omega)] at this
abbrev Zx (S:Sch) (k n e:Nat):St:=
 ⟨[aD 2 0,au 5 k,au 6 n,au 7 e],[eB S],[]⟩
theorem vU (S:Sch) (hl:S.types.length<=64) (hs:nmsWt S.types<=1099511627776) (hr:∀ x∈S.types,tz S x.2=true) (s:ByteArray) (i k:Nat) (hi:cO (tL S) s=some i) (hk:endI S (S.types.length + 1) i=some k) :
  EvP prog 37 [.agg (eB S),.v (.string s)] (.v (.int .i64 (firstA S k))):=by
 have hN:=dA S.types;have Kf:=(cS hi).1;rw [jS] at Kf;have nN:=(pX hk).1;have hf:=j9 S s (by omega);have he:=vT S hl hr i Kf;rw [hi] at hf;rw [hk] at he;have Sn:=@mQ S;have Hr:=yR S;obtain ⟨ae,order,types,⟨rh,rp⟩⟩:=S;simp only at hl hs hN Kf nN Sn Hr;refine eG 29 [.tmp 4] func37 rfl ntmps37 rfl fun _ _ _ _=>?_;refine dI ?_;refine cD Pg hf ?_;refine cD TD he ?_;refine lJ (fun e=>Zx ⟨ae,order,types,.mk rh rp⟩ k (firstA ⟨ae,order,types,.mk rh rp⟩ e) e) k (wkM wB) ?_;intro e hek;refine br ?_ ?_<;>intro hL
 ·have av:e < k:=sU hL;obtain ⟨x,hx⟩:∃ x,types[e]? = some x:=⟨_,gE (by omega)⟩;have RQ:=gm (mG hx);have h1:=Sn hx;have h2:=Hr e;have h3:=Hr (e + 1);have h4:=jx x.2;obtain ⟨xw,⟨xh,xp⟩⟩:=x;simp only at RQ h1 h4;refine iX (dNms_get hx) ?_;refine cP O9 (nE _ (.mk xh xp) (aW _) (by omega)) ?_;have qI:IntKind.i64.wrap ((firstA ⟨ae,order,types,.mk rh rp⟩ e:Int) + (gO (flatT (.mk xh xp))).length)=(firstA ⟨ae,order,types,.mk rh rp⟩ (e + 1):Int):=by grind [dB,wrap64]
  exact rE ⟨_,by omega,e + 1,rfl,by omega,rfl⟩ (wkM (wB2 qI (nxt av (by omega))))
 ·have hge:e=k:=by have:=hL;simp at this;omega
  subst hge;exact (rfl:_=_)
theorem HF {S:Sch} {e:Nat} {x:Wd × Ty} (h:S.types[e]? = some x):(tw S)[e]? = some x.1:=by simp [tw,h]
abbrev Zy (S:Sch) (e:Nat):St:=
 ⟨[aD 1 0,aD 2 1,au 3 e],[eB S,[.v (.int .i64 0),.v (.int .i64 0)]],[]⟩
theorem AG (S:Sch) (hs:nmsWt S.types<=1099511627776) :
  EvP prog 159 [.agg (eB S)] (eu S).d:=by
 have hN:=dA S.types;have jd:=jt S.types;have gN:=Hw S;have hF:=eu.eq_1 S;have ji:=@HF S;have Au:=fun s=>j9 S s (by omega);have YN:tL S=az (tw S):=rfl;obtain ⟨ae,order,types,⟨rh,rp⟩⟩:=S;simp only at hs hN jd gN ji hF;generalize hQ:tw ⟨ae,order,types,.mk rh rp⟩=Q at gN hF ji YN;refine eG 47 [.cell 2 44] func159 rfl ntmps159 rfl fun _ _ _ _=>?_;generalize eu ⟨ae,order,types,.mk rh rp⟩=F at hF ⊢;refine br ?_ ?_<;>intro h
 ·have h:64 < types.length:=by simp [hN] at h;omega
  obtain ⟨x,hx⟩:∃ x,types[64]? = some x:=⟨_,gE h⟩;have Ua:=ji hx;rw [ai h,j8 Ua] at hF;obtain ⟨xw,⟨xh,xp⟩⟩:=x;refine iX (dNms_get hx) ?_;refine ⟨_,?_,rfl⟩;rw [hF];exact ax
 have h:¬ 64 < types.length:=by simp [hN] at h;omega
 rw [ah h] at hF;refine lI (fun j st=>∃ e:Nat,st=Zy ⟨ae,order,types,.mk rh rp⟩ e/\e<=types.length/\enumL Q 0 Q=enumL Q e (Q.drop e)/\j=types.length - e) ⟨0,rfl,by omega,rfl,rfl⟩ (wkM wB) ?_;rintro j st ⟨e,rfl,he,aK,rfl⟩;rw [aK] at hF;refine br ?_ ?_<;>intro hL
 ·have av:e < types.length:=by have:=hL;simp [hN] at this;exact this
  obtain ⟨x,hx⟩:=gX av;have RQ:=gm (mG hx);have hq:=ji hx;have bi:=oE hq;obtain ⟨p,hp,J9⟩:=MR hq;obtain ⟨xw,⟨xh,xp⟩⟩:=x;simp only [Wd.wt] at RQ hq bi hp J9;have hf:=Au xw.s;rw [YN,hp] at hf;have hlab:=lA [xw] (by simp only [wdsWt,Wd.wt];omega);have Bp:bJ [xw]=if aM xw.s then (0,0) else (9,xw.a):=by simp [bJ,badWd]
  refine iX (dNms_get hx) ?_;refine cP Ln hlab ?_;refine br ?_ ?_<;>intro hN
  ·have hN:(bJ [xw]).1≠0:=sU hN
   cases bF:aM xw.s with
   | true=>rw [Bp,bF] at hN;exact absurd rfl hN
   | false=>
   rw [bF] at Bp;have Bp:bJ [xw]=(9,xw.a):=Bp;have hf9:aF Q e xw=9:=by simp [aF,bF]
   rw [bi,hf9,ai (by decide)] at hF;refine ⟨_,?_,rfl⟩;rw [hF,Bp];exact ax
  ·have hN:(bJ [xw]).1=0:=sU hN
   cases bF:aM xw.s with
   | false=>rw [Bp,bF] at hN;exact absurd hN (by simp)
   | true=>
   refine cP Pg hf ?_;refine br ?_ ?_<;>intro h2
   ·have h2:p < e:=by have:=h2;simp [oz] at this;exact this
    have hf10:aF Q e xw=10:=by simp [aF,bF,J9.1 h2]
    rw [bi,hf10,ai (by decide)] at hF;refine ⟨_,?_,rfl⟩;rw [hF];exact ax
   ·have h2:¬ p < e:=by have:=h2;simp [oz] at this;omega
    have hd:cq (Q.take e) xw.s=false:=by grind
    have hf0:aF Q e xw=0:=by simp [aF,bF,hd]
    rw [hf0,ah (by simp)] at bi;exact rE ⟨_,by omega,e + 1,rfl,by omega,by rw [aK,bi],rfl⟩ (wkM (wB1 (nxt av (by omega))))
 ·have hge:e=types.length:=sW hN hL;rw [hge,<- gN,List.drop_length] at hF;refine ⟨_,?_,rfl⟩;rw [hF];exact ax
abbrev HG (S:Sch) (t:Ty) (e:Nat):St:=
 ⟨[aD 2 0,aD 3 1,aD 4 2,au 5 e],[eB S,dK t,[.v (.int .i64 0),.v (.int .i64 0)]],[]⟩
theorem qb (S:Sch) (hl:S.types.length<=1099511627776) (hs:wdsWt S.ae<=1099511627776):∀ (k:Nat) (t:Ty),t.wt<=k->t.wt<=1099511627776 ->
  EvP prog 161 [.agg (eB S),.agg (dK t)] (k0 S t).d
 | 0,t,hn,_=>by have:=t.dP;omega
 | k + 1,.mk h ps,hn,bY=>by
  have ih:=qb S hl hs k;simp only [Ty.wt,Hd.wt] at hn bY;have ky:=ps.fq;have hf:=j9 S h.name.s hl;have VB:=fun l hl=>CX S hs l hl;have hS:k0 S (.mk h ps)=if h.ag=9/\cO (tL S) h.name.s=none then (15,h.name.a) else knP ⟨az S.ae,[],[],[],fun _ _=>false⟩ (tL S) ps:=by rw [k0,knT]
  have YM:knP ⟨az S.ae,[],[],[],fun _ _=>false⟩ (tL S) ps=knP ⟨az S.ae,[],[],[],fun _ _=>false⟩ (tL S) (ps.drop 0):=by rw [Pts.drop]
  have hK:∀ e p u,ps.toList[e]? = some (p,u)->knP ⟨az S.ae,[],[],[],fun _ _=>false⟩ (tL S) (ps.drop e)=if (labW (az S.ae) p.label).1≠0 then labW (az S.ae) p.label else if (labW (az S.ae) p.cl).1≠0 then labW (az S.ae) p.cl else if p.bare then knP ⟨az S.ae,[],[],[],fun _ _=>false⟩ (tL S) (ps.drop (e + 1)) else if (k0 S u).1≠0 then k0 S u else knP ⟨az S.ae,[],[],[],fun _ _=>false⟩ (tL S) (ps.drop (e + 1)):=fun e p u hx=>by
   rw [Pts.drop_cons hx,knP];all_goals rfl
  have hK0:knP ⟨az S.ae,[],[],[],fun _ _=>false⟩ (tL S) .nil=(0,0):=by rw [knP]
  generalize knP ⟨az S.ae,[],[],[],fun _ _=>false⟩ (tL S)=KP at hS YM hK hK0;obtain ⟨ae,order,types,⟨rh,rp⟩⟩:=S;refine eG 64 [.cell 4 44] func161 rfl ntmps161 rfl fun _ _ _ _=>?_;generalize k0 ⟨ae,order,types,.mk rh rp⟩ (.mk h ps)=F at hS ⊢;refine have body:=?_;br (fun h9=>KQ Pg hf ax rfl (br (fun hx=>?_) (fun hx=>aP (fun j st=>∃ e:Nat,st=HG ⟨ae,order,types,.mk rh rp⟩ (.mk h ps) e/\e<=ps.len/\F=KP (ps.drop e)/\j=ps.len - e) ps.len (HG ⟨ae,order,types,.mk rh rp⟩ (.mk h ps) 0) (wkM wB) ⟨0,rfl,by omega,?_,by omega⟩ body))) (fun h9=>aP (fun j st=>∃ e:Nat,st=HG ⟨ae,order,types,.mk rh rp⟩ (.mk h ps) e/\e<=ps.len/\F=KP (ps.drop e)/\j=ps.len - e) ps.len (HG ⟨ae,order,types,.mk rh rp⟩ (.mk h ps) 0) (wkM wB) ⟨0,rfl,by omega,?_,by omega⟩ body)
  rotate_left
  ·have h9:h.ag=9:=sU h9;have hx:cO (tL ⟨ae,order,types,.mk rh rp⟩) h.name.s=none:=fw.1 (by simpa [pickB] using hx);rw [ai ⟨h9,hx⟩] at hS;refine ⟨_,?_,rfl⟩;rw [hS];exact ax
  ·have hx:¬ cO (tL ⟨ae,order,types,.mk rh rp⟩) h.name.s=none:=fun hn=>by
    have h3:=fw.2 hn;simp [pickB] at hx;have h3:=of_decide_eq_true h3;omega
   rw [ah (fun hc=>hx hc.2),YM] at hS;exact hS
  ·grind
  rintro j st ⟨e,rfl,he,aK,rfl⟩;refine br ?_ ?_<;>intro hL
  ·have av:e < ps.len:=by simpa [aH] using hL
   obtain ⟨p,t,hx⟩:=Pts.ej av;have Cb:=Pts.fW (mG hx);have hk:=hK e p t hx;have hw1:wdsWt p.label + wdsWt p.cl<=p.wt:=by simp only [Ph.wt];omega
   obtain ⟨u,us⟩:=t;refine iX (bO hx) ?_;refine cP RA (VB p.label (by omega)) ?_;refine br ?_ ?_<;>intro b1
   ·have b1:(labW (az ae) p.label).1=0:=sU b1;rw [ah (by simp [b1])] at hk;refine cP RA (VB p.cl (by omega)) ?_;refine br ?_ ?_<;>intro b2
    ·have b2:(labW (az ae) p.cl).1=0/\p.bare=false:=by
      rw [pickB_and] at b2;simpa using b2
     obtain ⟨b2,b3⟩:=b2;rw [ah (by simp [b2]),ah (by simp [b3])] at hk;refine cP Lk (ih (.mk u us) (by omega) (by omega)) ?_;refine br ?_ ?_<;>intro b4
     ·have b4:(k0 ⟨ae,order,types,.mk rh rp⟩ (.mk u us)).1≠0:=sU b4;rw [ai b4] at hk
      (refine ⟨_,?_,rfl⟩;rw [aK,hk];exact ax)
     ·have b4:(k0 ⟨ae,order,types,.mk rh rp⟩ (.mk u us)).1=0:=sU b4;rw [ah (by simp [b4])] at hk;exact rE ⟨_,by omega,e + 1,rfl,by omega,by rw [aK,hk],rfl⟩ (wkM (wB1 (nxt av (by omega))))
    ·refine br ?_ ?_<;>intro b4
     ·have b4:(labW (az ae) p.cl).1≠0:=sU b4;rw [ai b4] at hk
      (refine ⟨_,?_,rfl⟩;rw [aK,hk];exact ax)
     ·have b4:(labW (az ae) p.cl).1=0:=sU b4
      have b3:p.bare=true:=by
       rw [pickB_and] at b2;simpa [b4] using b2
      rw [ah (by simp [b4]),ai b3] at hk;exact rE ⟨_,by omega,e + 1,rfl,by omega,by rw [aK,hk],rfl⟩ (wkM (wB1 (nxt av (by omega))))
   ·have b1:¬ (labW (az ae) p.label).1=0:=sU b1;rw [ai b1] at hk;refine br ?_ ?_<;>intro b2
    ·rw [pickB_and] at b2;simp [b1] at b2
    ·refine br ?_ ?_<;>intro b4
     ·(refine ⟨_,?_,rfl⟩;rw [aK,hk];exact ax)
     ·simp [b1] at b4
  ·have hge:e=ps.len:=by simp [aH] at hL;omega
   rw [hge,Pts.cW] at aK;refine ⟨_,?_,rfl⟩;rw [aK,hK0];exact ax
abbrev HH (h:Hd) (ps:Pts) (e:Nat) (depth m:Int):St:=
 ⟨[au 2 depth,aD 3 0,aD 4 1,aD 6 2,au 7 e],[[.v (.int .i64 0),.v (.int .i64 0),.v (.int .i64 m)],dK (.mk h ps),[.v (.int .i64 0),.v (.int .i64 0),.v (.int .i64 0)]],[]⟩
theorem AH (k:Nat) (ih:Af k) (h:Hd) (ps:Pts) (depth m:Int) (hk:ps.wt<=k) (bY:(Ty.mk h ps).wt<=1099511627776) (yt:0<=depth) (Eb:depth<=25) (l8:0<=m) (gM:m<=512) :
  EvP prog 160 [wD (0,0) m,.agg (dK (.mk h ps)),.v (.int .i64 depth)] (wD (wrong (.mk h ps) depth m).1 (wrong (.mk h ps) depth m).2):=by
 have yP:=bY;simp only [Ty.wt,Hd.wt] at yP;have ky:=ps.fq;have TN:=bp h.af;have qJ:IntKind.i64.wrap (m + 1)=m + 1:=wrap64 (by omega) (by omega)
 have hW:∀ e a,EvP prog 195 [.agg [.v (.int .i64 0),.v (.int .i64 0),.v (.int .i64 (IntKind.i64.wrap (m + 1)))],.v (.int .i64 e),.v (.int .i64 a)] (wD (e,a) (m + 1)):=by
  intro e a;rw [qJ];exact dZ (0,0) (m + 1) e a
 have hS:=wrong.eq_def (.mk h ps) depth m;simp only at hS;refine eG 201 [.cell 6 248] func160 rfl ntmps160 rfl fun _ _ _ _=>?_;refine br ?_ ?_<;>intro c
 ·have c:24 < depth:=of_decide_eq_true c;refine cP gk (hW 6 h.aE) ?_;rw [ai c] at hS;refine ⟨_,?_,rfl⟩;rw [hS];exact ax
 have c:¬ 24 < depth:=of_decide_eq_false c;rw [ah c] at hS;refine br ?_ ?_<;>intro c
 ·have c:512 < IntKind.i64.wrap (m + 1):=of_decide_eq_true c;rw [qJ] at c;refine cP gk (hW 8 h.aE) ?_;rw [ai c] at hS;refine ⟨_,?_,rfl⟩;rw [hS];exact ax
 have c:¬ 512 < IntKind.i64.wrap (m + 1):=of_decide_eq_false c;rw [qJ] at c;rw [ah c] at hS;refine br ?_ ?_<;>intro c
 ·have c:h.ag < 1∨9 < h.ag:=by simpa [aj] using c
  refine cP gk (hW 14 h.aE) ?_;rw [ai c] at hS;refine ⟨_,?_,rfl⟩;rw [hS];exact ax
 have c:¬ (h.ag < 1∨9 < h.ag):=by simp [aj] at c;omega
 rw [ah c] at hS;refine cP XJ (ER (.mk h ps) (by omega)) ?_;refine br ?_ ?_<;>intro c
 ·have c:uY (.mk h ps)=false:=by simpa [uY] using c
  refine cP gk (hW 19 h.aE) ?_;rw [ai c] at hS;refine ⟨_,?_,rfl⟩;rw [hS];exact ax
 have c:¬ uY (.mk h ps)=false:=by simpa [uY] using c
 rw [ah c] at hS;refine br ?_ ?_<;>intro c
 ·have c:(h.ag=2/\h.hi < h.lo)∨(h.ag=3/\(h.most < 0∨4096 < h.most)):=by simp [aj,pickB_and] at c;omega
  refine cP gk (hW 20 h.aE) ?_;rw [ai c] at hS;refine ⟨_,?_,rfl⟩;rw [hS];exact ax
 have c:¬ ((h.ag=2/\h.hi < h.lo)∨(h.ag=3/\(h.most < 0∨4096 < h.most))):=by simp [aj,pickB_and] at c;omega
 rw [ah c] at hS;refine br ?_ ?_<;>intro k9
 ·have k9:h.ag=9:=sU k9;refine cP su (gl h.name.s (by simp only [Wd.wt] at yP;omega)) ?_;refine br ?_ ?_<;>intro q
  ·have q:aM h.name.s=false:=by simpa [pickB_and,k9] using q
   refine cP gk (hW 9 h.name.a) ?_;rw [ai ⟨k9,q⟩] at hS;refine ⟨_,?_,rfl⟩;rw [hS];exact ax
  ·have q:aM h.name.s=true:=by simpa [pickB_and,k9] using q
   rw [ah (by simp [q]),ah (by omega),ah (by omega),ah (by omega)] at hS;refine br (fun x=>?_) (fun _=>?_)
   ·have:=of_decide_eq_true x;omega
   refine br (fun x=>?_) (fun _=>?_)
   ·simp [aj] at x;omega
   refine br (fun x=>?_) (fun _=>?_)
   ·simp [aj] at x;omega
   refine ⟨_,?_,rfl⟩;rw [hS];exact (o0 qJ)
 ·have k9:¬ h.ag=9:=sU k9;rw [ah (by simp [k9])] at hS;refine br ?_ ?_<;>intro k4
  ·have k4:h.ag=4:=of_decide_eq_true k4;rw [ai k4] at hS;refine br ?_ ?_<;>intro c
   ·have c:h.af=[]:=by simp [ay] at c;exact c
    refine cP gk (hW 15 h.aE) ?_;refine ⟨_,?_,rfl⟩;rw [hS];simp only [il,ai c];exact ax
   have c:¬ h.af=[]:=by simp [ay] at c;exact c
   refine br ?_ ?_<;>intro c2
   ·have av:64 < h.af.length:=by simp [ay] at c2;omega
    obtain ⟨x,hx⟩:=gX av;refine dS ?_;refine ⟨jL x,⟨by omega,aQ hx⟩,?_⟩;refine cD gk (hW 8 x.a) ?_;refine ⟨_,?_,rfl⟩;rw [hS];simp only [il,ah c,ai av,hx,Option.getD_some];exact ax
   have c2:¬ 64 < h.af.length:=by simp [ay] at c2;omega
   have hE:il h=enumL h.af 0 h.af:=by simp only [il,ah c,ah c2]
   rw [hE] at hS
   refine aP (fun j st=>∃ (e:Nat),st=HH h ps e depth (m + 1)/\e<=h.af.length/\enumL h.af 0 h.af=enumL h.af e (h.af.drop e)/\j=h.af.length - e) h.af.length
    (HH h ps 0 depth (m + 1)) (wkB 3 (mw qJ) (wB1 qJ)) ⟨0,rfl,by omega,rfl,by omega⟩ ?_
   rintro j st ⟨e,rfl,he,aK,rfl⟩;refine br ?_ ?_<;>intro hL
   ·have av:e < h.af.length:=by simpa [ay] using hL
    obtain ⟨x,hx⟩:=gX av;rw [drop_cons hx] at aK;simp only [enumL] at aK;refine cP Rz (nX h.af e x (by omega) hx) ?_;refine br ?_ ?_<;>intro hl
    ·have hl:aF h.af e x≠0:=sU hl;rw [ai hl] at aK;refine dS ?_;refine ⟨jL x,⟨by omega,aQ hx⟩,?_⟩;refine cD gk (dZ (0,0) (m + 1) _ x.a) ?_;refine ⟨_,?_,rfl⟩;rw [hS,aK];exact ax
    ·have hl:aF h.af e x=0:=sU hl;rw [ah (by simp [hl])] at aK;exact rE ⟨_,by omega,e + 1,rfl,by omega,aK,rfl⟩ (wkM (wB1 (nxt av (by omega))))
   ·have hge:e=h.af.length:=by simp [ay] at hL;omega
    rw [hge,List.drop_length] at aK;simp only [enumL] at aK;rw [aK] at hS;refine br (fun x=>?_) (fun _=>?_)
    ·simp [aj] at x;omega
    refine br (fun x=>?_) (fun _=>?_)
    ·simp [aj] at x;omega
    refine ⟨_,?_,rfl⟩;rw [hS];exact ax
  ·have k4:¬ h.ag=4:=of_decide_eq_false k4;rw [ah k4] at hS;refine br ?_ ?_<;>intro k5
   ·have k5:h.ag=5∨h.ag=6:=by simpa [aj] using k5
    rw [ai k5] at hS
    cases ps with
    | nil=>
     refine cP gk (hW 19 h.aE) ?_;refine ⟨_,?_,rfl⟩;rw [hS];simp only [wrongOne];exact ax
    | cons p t r=>
     cases r with
     | cons p2 t2 r2=>
      refine cP gk (hW 19 h.aE) ?_;refine ⟨_,?_,rfl⟩;rw [hS];simp only [wrongOne];exact ax
     | nil=>
      obtain ⟨u,us⟩:=t;simp only [wrongOne] at hS;simp only [Ty.wt,Pts.wt] at yP hk;refine ⟨_,⟨by omega,rfl⟩,?_⟩;refine br ?_ ?_<;>intro c
      ·have c:p.name.s=aq:=by
        have:=c;simp [aj] at this;exact this
       refine ⟨_,⟨by omega,rfl⟩,?_⟩;refine cP Lo (lz p eU (dK (.mk u us)) (dK cv) (by omega) (yw _ _ _ _ _) (yw _ _ _ _ _)) ?_;refine br ?_ ?_<;>intro q
       ·have q:cm p eU=false:=by simpa [aj,c] using q
        refine cP gk (hW 19 h.aE) ?_;rw [ai (by simp [q])] at hS;refine ⟨_,?_,rfl⟩;rw [hS];exact ax
       ·have q:cm p eU=true:=by simpa [aj,c] using q
        rw [ah (by simp [q,c])] at hS;refine br ?_ ?_<;>intro x
        ·have x:h.most < 0∨1024 < h.most:=by simpa [aj] using x
         refine cP gk (hW 20 h.aE) ?_;rw [ai x] at hS;refine ⟨_,?_,rfl⟩;rw [hS];exact ax
        ·have x:¬ (h.most < 0∨1024 < h.most):=by simp [aj] at x;omega
         rw [ah x] at hS;refine dS ?_;refine ⟨_,⟨by omega,rfl⟩,?_⟩;refine cD Lj (ih (.mk u us) (depth + 1) (m + 1) (by simp only [Ty.wt];omega) (by simp only [Ty.wt];omega) (by omega) (by omega) (by omega) (by omega)) ?_ (by repeat' (first | exact rfl | exact trivial | exact Or.inr (Or.inl ⟨_,rfl⟩) | exact Or.inr ⟨_,rfl⟩ | exact Or.inl ⟨rfl,rfl⟩ | exact Or.inl rfl | refine Or.inr ⟨_,_,rfl,Nat.zero_le _,rfl,?_⟩ | refine ⟨_,_,rfl,?_,?_⟩ | refine ⟨_,rfl,?_⟩ | exact congrArg (fun z=>DV.v (.int .i64 z)) qJ | exact congrArg (fun z=>DV.v (.int .i64 z)) (wrap64 (by omega) (by omega))| refine Or.inr (Or.inr (Or.inr ⟨_,_,rfl,?_⟩)) | exact Or.inl rfl | refine Or.inr ?_));refine ⟨_,?_,rfl⟩;rw [hS];exact ax
      ·have c:p.name.s≠aq:=by
        have:=c;simp [aj] at this;exact this
       refine cP gk (hW 19 h.aE) ?_;rw [ai (.inl c)] at hS;refine ⟨_,?_,rfl⟩;rw [hS];exact ax
   ·have k5:¬ (h.ag=5∨h.ag=6):=by simp [aj] at k5;omega
    rw [ah k5] at hS;refine br ?_ ?_<;>intro k7
    ·have k7:h.ag=7∨h.ag=8:=by simpa [aj] using k7
     rw [ai k7] at hS;have hP:wrong (.mk h ps) depth m=eI h ps depth (m + 1):=by rw [hS];all_goals rfl
     refine cP XK (Ag k ih h ps depth (m + 1) hk bY yt (by omega) (by omega) (by omega)) ?_ (o0 qJ);refine ⟨_,?_,rfl⟩;rw [hP];exact ax
    ·have k7:¬ (h.ag=7∨h.ag=8):=by simp [aj] at k7;omega
     rw [ah k7] at hS;refine ⟨_,?_,rfl⟩;rw [hS];exact (o0 qJ)
theorem y6:∀ k,Af k
 | 0=>fun t depth m hk=>by have:=t.dP;omega
 | k + 1=>fun t depth m hk bY yt Eb l8 gM=>by
  obtain ⟨h,ps⟩:=t;have gP:=hk;simp only [Ty.wt,Hd.wt] at gP;exact AH k (y6 k) h ps depth m (by omega) bY yt Eb l8 gM
theorem AJ (t:Ty) (depth m:Int) (bY:t.wt<=1099511627776) (yt:0<=depth) (Eb:depth<=25) (l8:0<=m) (gM:m<=512) :
  EvP prog 160 [wD (0,0) m,.agg (dK t),.v (.int .i64 depth)] (wD (wrong t depth m).1 (wrong t depth m).2):=
 y6 t.wt t depth m (aW _) bY yt Eb l8 gM
def eaA:List Ty->Int->Ft × Int
 | [],m=>((0,0),m)
 | t :: r,m=>if (bS t m).1.1≠0 then bS t m else eaA r (bS t m).2
theorem MU (z:Ty):∀ (l:List (Wd × Ty)) (m:Int),((eaA (l.map (fun x=>x.2) ++ [z]) m).1.1=0↔(eaR z l m).1.1=0)/\((eaR z l m).1.1≠0->eaA (l.map (fun x=>x.2) ++ [z]) m=eaR z l m)
 | [],m=>by
  show ((eaA [z] m).1.1=0↔(bS z m).1.1=0)/\((bS z m).1.1≠0->eaA [z] m=bS z m)
  grind [eaA,bS]
 | x :: r,m=>by
  have ih:=MU z r (bS x.2 m).2
  grind [eaA,eaR,bS]
def eaK (F:Ty->Ft):List Ty->Ft
 | []=>(0,0)
 | t :: r=>if (F t).1≠0 then F t else eaK F r
theorem MV (F:Ty->Ft) (z:Ty):∀ l:List (Wd × Ty),((eaK F (l.map (fun x=>x.2) ++ [z])).1=0↔(eaL F (F z) l).1=0)/\((eaL F (F z) l).1≠0->eaK F (l.map (fun x=>x.2) ++ [z])=eaL F (F z) l)
 | []=>by
  show ((eaK F [z]).1=0↔(F z).1=0)/\((F z).1≠0->eaK F [z]=F z)
  grind [eaK]
 | x :: r=>by
  have ih:=MV F z r
  grind [eaK,eaL]
theorem FO {F:Ty->Ft}:∀ {l:List Ty},(eaK F l).1=0->∀ t∈l,(F t).1=0
 | [],_,t,ht=>by cases ht
 | u :: r,h,t,ht=>by
  rw [eaK] at h;split at h
  ·rename_i h1;exact (h1 h).elim
  ·rename_i h1;rcases cr ht with rfl | ht
   ·simpa using h1
   ·exact FO h t ht
theorem HI (S:Sch):km S=if (latF S.ae S.order).1≠0 then latF S.ae S.order
 else if (eu S).1≠0 then eu S
 else if (eaA (fH S) 0).1.1≠0 then (eaA (fH S) 0).1
 else if (eaK (k0 S) (fH S)).1≠0 then eaK (k0 S) (fH S)
 else loopF S:=by
 have h1:=MU S.root S.types 0;have h2:=MV (k0 S) S.root S.types;unfold km fH fG;by_cases a:(eaR S.root S.types 0).1.1=0
 ·grind
 ·grind
abbrev Uy (S:Sch) (T:List Ty) (m:Int) (e:Nat):St:=
 ⟨[aD 1 0,aD 2 1,aZ 5 9 (gO T),au 6 m,au 7 e],[eB S,[.v (.int .i64 0),.v (.int .i64 0)]],[]⟩
abbrev Zz (S:Sch) (T:List Ty) (e:Nat):St:=
 ⟨[aD 1 0,aD 2 1,aZ 5 9 (gO T),au 11 e],[eB S,[.v (.int .i64 0),.v (.int .i64 0)]],[]⟩
abbrev Uz (S:Sch) (e:Nat):St:=
 ⟨[aD 1 0,aD 2 1,au 13 e],[eB S,[.v (.int .i64 0),.v (.int .i64 0)]],[]⟩
theorem AK {S:Sch} (hs:S.wt<=1099511627776):∀ t∈fH S,t.wt<=1099511627776:=by
 intro t ht;unfold Sch.wt at hs;rcases List.mem_append.1 ht with h | h
 ·obtain ⟨x,hx,rfl⟩:=List.mem_map.1 h;have:=gm hx;omega
 all_goals grind
theorem AL (S:Sch) (hs:S.wt<=1099511627776):EvP prog 106 [.agg (eB S)] (km S).d:=by
 have VC:=AK hs;unfold Sch.wt at hs;have hN:=dA S.types;have jd:=jt S.types;have lQ:=AF S.ae S.order (by omega) (by omega);have ZA:=AG S (by omega);have jg:=CY S (by omega);have ZB:=fun t ht=>qb S (by omega) (by omega) _ t (aW _) (VC t ht);have hF:=HI S;have hlen:(fH S).length=S.types.length + 1:=by simp [fH,fG]
 have hnF:(eu S).1=0->S.types.length<=64:=fun h=>by grind [eu]
 obtain ⟨ae,order,types,⟨rh,rp⟩⟩:=S;simp only at hs hN jd lQ ZA hlen hnF hF;generalize hT:fH ⟨ae,order,types,.mk rh rp⟩=T at VC jg ZB hlen hF;refine eG 104 [.cell 2 44] func106 rfl ntmps106 rfl fun _ _ _ _=>?_;generalize km ⟨ae,order,types,.mk rh rp⟩=F at hF ⊢;refine cP Xt lQ ?_;refine br ?_ ?_<;>intro h1
 ·have h1:(latF ae order).1≠0:=sU h1;rw [ai h1] at hF;refine ⟨_,?_,rfl⟩;rw [hF];exact ax
 have h1:(latF ae order).1=0:=sU h1;rw [ah (by simp [h1])] at hF;refine cP Xu ZA ?_;refine br ?_ ?_<;>intro h2
 ·have h2:(eu ⟨ae,order,types,.mk rh rp⟩).1≠0:=sU h2;rw [ai h2] at hF;refine ⟨_,?_,rfl⟩;rw [hF];exact ax
 have h2:(eu ⟨ae,order,types,.mk rh rp⟩).1=0:=sU h2;rw [ah (by simp [h2])] at hF;have UA:=hnF h2;refine cP WJ jg ?_
 refine aP (fun j st=>∃ (e:Nat) (m:Int),st=Uy ⟨ae,order,types,.mk rh rp⟩ T m e/\e<=types.length + 1/\0<=m/\m<=512/\eaA T 0=eaA (T.drop e) m/\j=types.length + 1 - e) (types.length + 1)
  (Uy ⟨ae,order,types,.mk rh rp⟩ T 0 0) (wkM wB) ⟨0,0,rfl,by omega,by omega,by omega,rfl,by omega⟩ ?_
 rintro j st ⟨e,m,rfl,he,l8,gM,aK,rfl⟩;refine br ?_ ?_<;>intro hL
 ·have av:e < types.length + 1:=by have:=hL;simp [dB,hlen] at this;omega
  obtain ⟨t,ht⟩:∃ t,T[e]? = some t:=⟨_,gE (by omega)⟩;have Mj:=VC t (mG ht);have bi:eaA (T.drop e) m=if (bS t m).1.1≠0 then bS t m else eaA (T.drop (e + 1)) (bS t m).2:=by rw [drop_cons ht,eaA]
  have Oq:bS t m=if (wrong t 1 0).1.1≠0 then ((wrong t 1 0).1,m) else if 512 < m + t.cnt then ((8,t.h.aE),m + t.cnt) else ((0,0),m + t.cnt):=rfl
  have Jg:=AJ t 1 0 Mj (by omega) (by omega) (by omega) (by omega);have bL:=j5 _ t (aW _) Mj;have KV:=t.ek;obtain ⟨u,us⟩:=t;refine iX (jW ht) ?_;refine cP Lj Jg ?_;refine br ?_ ?_<;>intro g1
  ·have g1:(wrong (.mk u us) 1 0).1.1≠0:=sU g1;rw [ai g1] at Oq;rw [aK,bi,Oq,ai g1,ai g1] at hF;refine ⟨_,?_,rfl⟩;rw [hF];exact ax
  have g1:(wrong (.mk u us) 1 0).1.1=0:=sU g1;rw [ah (by simp [g1])] at Oq;refine iX (jW ht) ?_;refine cP Pf bL ?_;have qI:IntKind.i64.wrap (m + ((Ty.mk u us).cnt:Int))=m + (Ty.mk u us).cnt:=wrap64 (by omega) (by omega);refine br ?_ ?_<;>intro g2
  ·have g2:512 < IntKind.i64.wrap (m + ((Ty.mk u us).cnt:Int)):=of_decide_eq_true g2;rw [qI] at g2;rw [ai g2] at Oq;rw [aK,bi,Oq,ai (by simp),ai (by simp)] at hF;refine iX (jW ht) ?_;refine ⟨_,?_,rfl⟩;rw [hF];exact ax
  ·have g2:¬ 512 < IntKind.i64.wrap (m + ((Ty.mk u us).cnt:Int)):=of_decide_eq_false g2;rw [qI] at g2;rw [ah g2] at Oq;rw [Oq,ah (by simp)] at bi;exact ⟨Uy ⟨ae,order,types,.mk rh rp⟩ T (m + (Ty.mk u us).cnt) (e + 1),(wkM (wB2 qI (nxt av (by omega)))),types.length + 1 - (e + 1),by omega,e + 1,_,rfl,by omega,by omega,by omega,by rw [aK,bi],rfl⟩
 have hge:e=types.length + 1:=by have:=hL;simp [dB,hlen] at this;omega
 rw [aK,List.drop_of_length_le (by omega),show eaA [] m=((0,0),m) from rfl,ah (by simp)] at hF
 refine aP (fun j st=>∃ (e:Nat),st=Zz ⟨ae,order,types,.mk rh rp⟩ T e/\e<=types.length + 1/\eaK (k0 ⟨ae,order,types,.mk rh rp⟩) T=eaK (k0 ⟨ae,order,types,.mk rh rp⟩) (T.drop e)/\j=types.length + 1 - e) (types.length + 1)
  (Zz ⟨ae,order,types,.mk rh rp⟩ T 0) (wkM wB) ⟨0,rfl,by omega,rfl,by omega⟩ ?_
 clear aK hL hge he e;rintro j st ⟨e,rfl,he,aK,rfl⟩;refine br ?_ ?_<;>intro hL
 ·have av:e < types.length + 1:=by have:=hL;simp [dB,hlen] at this;omega
  obtain ⟨t,ht⟩:∃ t,T[e]? = some t:=⟨_,gE (by omega)⟩;have bi:eaK (k0 ⟨ae,order,types,.mk rh rp⟩) (T.drop e)=if (k0 ⟨ae,order,types,.mk rh rp⟩ t).1≠0 then k0 ⟨ae,order,types,.mk rh rp⟩ t else eaK (k0 ⟨ae,order,types,.mk rh rp⟩) (T.drop (e + 1)):=by rw [drop_cons ht,eaK]
  have hu:=ZB t (mG ht);obtain ⟨u,us⟩:=t;apply np (fun _=>false) 5 6 [0,1,2,3,4,5,6,7] [0,1,2,3,4,6,5,7] 2 2 mo (by decide +kernel)
  ·refine iX (jW ht) ?_;refine cD Lk hu ?_;refine (?_:@Eq St _ _);exact rfl
  ·refine iX (jW ht) ?_;refine cD Lk hu ?_;refine (⟨rfl,rfl,?_⟩:_/\_/\_)
   repeat' (first | exact trivial | refine ⟨rfl,?_⟩)
  ·rfl
  refine br ?_ ?_<;>intro g
  ·have g:(k0 ⟨ae,order,types,.mk rh rp⟩ (.mk u us)).1≠0:=sU g;rw [aK,bi,ai g,ai g] at hF;refine ⟨_,?_,rfl⟩;rw [hF];exact ax
  ·have g:(k0 ⟨ae,order,types,.mk rh rp⟩ (.mk u us)).1=0:=sU g;rw [ah (by simp [g])] at bi;exact rE ⟨_,by omega,e + 1,rfl,by omega,by rw [aK,bi],rfl⟩ (wkM (wB1 (nxt av (by omega))))
 have hge:e=types.length + 1:=by have:=hL;simp [dB,hlen] at this;omega
 have KR:(eaK (k0 ⟨ae,order,types,.mk rh rp⟩) T).1=0:=by rw [aK,List.drop_of_length_le (by omega)];all_goals rfl
 rw [aK,List.drop_of_length_le (by omega),show eaK (k0 ⟨ae,order,types,.mk rh rp⟩) []=(0,0) from rfl,ah (by simp)] at hF
 have Jf:∀ x∈types,tz ⟨ae,order,types,.mk rh rp⟩ x.2=true:=fun x hx=>AA (FO KR x.2 (by
  rw [<- hT]
  exact List.mem_append_left _ (List.mem_map_of_mem hx)))
 have he99:=vT ⟨ae,order,types,.mk rh rp⟩ UA Jf
 have hlo:F=match bc (fun i=>(endI ⟨ae,order,types,.mk rh rp⟩ (types.length + 1) i).isNone) types.length with
  | none=>(0,0)
  | some i=>(11,T6 (tw ⟨ae,order,types,.mk rh rp⟩) i):=hF
 refine aP (fun j st=>∃ e:Nat,st=Uz ⟨ae,order,types,.mk rh rp⟩ e/\e<=types.length/\(∀ i,i < e->(endI ⟨ae,order,types,.mk rh rp⟩ (types.length + 1) i).isNone=false)/\j=types.length - e) types.length
  (Uz ⟨ae,order,types,.mk rh rp⟩ 0) (wkM wB) ⟨0,rfl,by omega,fun _ h=>by omega,by omega⟩ ?_
 clear aK hL hge he e;rintro j st ⟨e,rfl,he,dE,rfl⟩;refine br ?_ ?_<;>intro hL
 ·have av:e < types.length:=by have:=hL;simp [hN] at this;exact this
  obtain ⟨x,hx⟩:=gX av;have Ua:(tw ⟨ae,order,types,.mk rh rp⟩)[e]? = some x.1:=HF hx;have h9:=he99 e av;obtain ⟨xw,⟨xh,xp⟩⟩:=x;refine cP TD h9 ?_;refine br ?_ ?_<;>intro g
  ·have g:endI ⟨ae,order,types,.mk rh rp⟩ (types.length + 1) e=none:=fw.1 g;have Bl:=bP (p:=fun i=>(endI ⟨ae,order,types,.mk rh rp⟩ (types.length + 1) i).isNone) av (by simp only [g];rfl) dE;rw [Bl] at hlo;simp only [j8 Ua] at hlo;refine iX (dNms_get hx) ?_;refine ⟨_,?_,rfl⟩;rw [hlo];exact ax
  ·have g:¬ endI ⟨ae,order,types,.mk rh rp⟩ (types.length + 1) e=none:=fun hn=>by have h3:=fw.2 hn;rw [g] at h3;cases h3
   refine ⟨Uz ⟨ae,order,types,.mk rh rp⟩ (e + 1),(wkM (wB1 (nxt av (by omega)))),types.length - (e + 1),by omega,e + 1,rfl,by omega,fun i hi=>?_,rfl⟩;rcases jB hi with hi | rfl
   ·exact dE i hi
   ·exact Option.isNone_eq_false_iff.2 (Option.isSome_iff_ne_none.2 g)
 ·have hge:e=types.length:=sW hN hL;rw [hge] at dE;rw [bZ dE] at hlo;refine ⟨_,?_,rfl⟩;rw [hlo];exact ax
theorem bm {l:List Ed} {i:Nat} {e:Ed} (h:l[i]? = some e):(fF l)[i]? = some (jv e):=by simp [fF,h]
def Qc (lev:List Wd->Int) (s:Sch) (t:Ty) (k:Nat):Nd:=⟨t.h.ag,t.h.aE,t.h.lo,t.h.hi,t.h.most,az t.h.af,edsP lev s t.ps (k + 1)⟩
mutual
theorem tU (lev:List Wd->Int) (s:Sch):∀ (t:Ty) (k:Nat),ndsT lev s t k=(flatT t).zipIdx.map fun x=>Qc lev s x.1 (k + x.2)
 | .mk h ps,k=>by
  have ih:=AM lev s ps (k + 1);rw [ndsT,flatT];split
  ·rfl
  ·rw [ih,List.zipIdx_cons,List.map_cons];rw [List.zipIdx_succ,List.map_map];refine congr (congrArg List.cons rfl) (List.map_congr_left fun x _=>?_);simp only [Function.comp];congr 1;omega
theorem AM (lev:List Wd->Int) (s:Sch):∀ (ps:Pts) (k:Nat),vG lev s ps k=(flatP ps).zipIdx.map fun x=>Qc lev s x.1 (k + x.2)
 | .nil,k=>rfl
 | .cons p u r,k=>by
  rw [vG,flatP,List.zipIdx_append,List.map_append]
  cases hb:p.bare with
  | true=>
   simp only [if_true,List.zipIdx_nil,List.map_nil,List.nil_append,List.length_nil,Nat.add_zero];exact AM lev s r k
  | false=>
   simp only [Bool.false_eq_true,if_false];rw [tU lev s u k,AM lev s r (k + u.nn),jx];refine congrArg _ ?_;rw [List.zipIdx_eq_map_add (l:=flatP r) (i:=0 + u.nn)];rw [List.map_map];refine List.map_congr_left fun x _=>?_;simp only [Function.comp];congr 1;omega
end
theorem AN {X:Lx} {L:List ByteArray}:∀ {ps:Pts},(knP X L ps).1=0->∀ {p:Ph} {u:Ty},(p,u)∈ps.toList->p.bare=false->(knT X L u).1=0
 | .nil,_,p,u,h,_=>by cases h
 | .cons q v r,hk,p,u,h,hb=>by
  rcases cr h with h | h
  ·cases h;exact (rJ hk).1 hb
  ·exact AN (rJ hk).2 h hb
theorem rR {w:Int} (h:decide (w=0)=true):kI w=3:=by unfold kI;rw [ai (of_decide_eq_true h)]
theorem rS {w:Int} (h:decide (w=0)=false):kI w=w:=by unfold kI;rw [ah (of_decide_eq_false h)]
theorem fT {L:List Ed} {lev:List Wd->Int} {p:Ph} {to w z:Int} (hw:kI p.wide=w) (ht:to=z):fF L ++ [[.v (.string p.name.s),.v (.bool p.bare),.v (.int .i64 p.name.a),.v (.int .i64 z),.v (.int .i64 (lev p.label)),.v (.int .i64 w),.v (.int .i64 p.ck),.v (.int .i64 p.cn),.v (.int .i64 (lev p.cl)),.v (.int .i64 p.ca)]]=fF (L ++ [vF lev p to]):=by
 subst hw ht;simp [fF,jv,vF]
abbrev ZC (S:Sch) (f:Nat->Nat->Bool) (t:Ty) (me:Nat) (q e:Nat):St:=
 ⟨[aZ 1 1 (cH (dt S.ae.length f)),au 3 me,aD 4 0,aD 6 1,aD 8 2,aD 9 3,au 10 e],
  [eB S,dK t,[.v (.int .i64 0),.v (.int .i64 0),.v (.int .i64 0),.v (.int .i64 0),.v (.int .i64 0),.v (.slice none 0 0),.v (.slice none 0 0)],
  [.v (.int .i64 t.h.ag),.v (.int .i64 t.h.aE),.v (.int .i64 t.h.lo),.v (.int .i64 t.h.hi),.v (.int .i64 t.h.most),.sl 1 (eE (az (t.h.af.take e))) (some 0),.v (.slice none 0 0)]],[⟨q,9,1,none⟩]⟩
abbrev C0 (S:Sch) (f:Nat->Nat->Bool) (t:Ty) (q1 q2:Nat) (L:List Ed) (nx e:Nat):St:=
 ⟨[aZ 1 1 (cH (dt S.ae.length f)),aD 4 0,aD 6 1,aD 8 2,aD 9 3,au 11 nx,au 12 e],
  [eB S,dK t,[.v (.int .i64 0),.v (.int .i64 0),.v (.int .i64 0),.v (.int .i64 0),.v (.int .i64 0),.v (.slice none 0 0),.v (.slice none 0 0)],
  [.v (.int .i64 t.h.ag),.v (.int .i64 t.h.aE),.v (.int .i64 t.h.lo),.v (.int .i64 t.h.hi),.v (.int .i64 t.h.most),.sl 1 (eE (az t.h.af)) (some 0),.sl 10 (fF L) (some 1)]],[⟨q1,9,1,none⟩,⟨q2,109,10,none⟩]⟩
set_option maxHeartbeats 2000000 in
theorem FP (S:Sch) (hS:S.wt<=1099511627776) (hl:(latF S.ae S.order).1=0) (UA:S.types.length<=64) (hr:∀ x∈S.types,tz S x.2=true) (hlo:∀ i,i < S.types.length->∃ k,endI S (S.types.length + 1) i=some k)
  (t:Ty) (ht:t.wt<=1099511627776) (hk:(k0 S t).1=0) (me:Nat) (Vx:me<=1099511627776) :
  EvP prog 36 [.agg (eB S),.sl 1 (cH (dt S.ae.length (eC S.ae.length (de (az S.ae) S.order)))) none,.agg (dK t),.v (.int .i64 me)] (.agg (iS (Qc (iz S) S t me))):=by
 obtain ⟨hL,PV⟩:=kK hl;have pq:=hL.pos;unfold Sch.wt at hS;have Fz:=fun l (h:wdsWt l<=1099511627776)=>Jq S.ae (eC S.ae.length (de (az S.ae) S.order)) pq PV (by omega) l h;have hls:∀ l,iz S l=Av (eC S.ae.length (de (az S.ae) S.order)) (az S.ae) l:=fun _=>rfl;have Qd:=fun s i k=>vU S UA (by omega) hr s i k;have gN:=jS S;generalize eC S.ae.length (de (az S.ae) S.order)=f at Fz hls ⊢;obtain ⟨h,ps⟩:=t;have Uj:=(lN hk).2;simp only [Ty.wt,Hd.wt] at ht;have ky:=ps.fq;have hc:=ps.ek;have oc:=ps.gf;have hwl:=bp h.af;generalize R6:iz S=lev at hls ⊢;obtain ⟨ae,order,types,⟨rh,rp⟩⟩:=S;simp only at hS UA hr hlo Fz hls Qd gN Uj;refine eG 131 [.cell 8 100] func36 rfl ntmps36 rfl fun _ _ _ _=>?_;refine lJ (fun e=>ZC ⟨ae,order,types,.mk rh rp⟩ f (.mk h ps) me e e) h.af.length (dJ 4 ⟨0,9,1,none⟩ rfl rfl rfl kZ rfl rfl gR) ?_;intro e he;refine br ?_ ?_<;>intro hL
 ·have av:e < h.af.length:=by have:=hL;simp [ay] at this;exact this
  obtain ⟨w,hw⟩:=gX av;have iq:=jr hw;have ey:(eE (az (h.af.take e))).length=e:=by simp [eE,az];omega
  refine dS ?_;refine iX (aQ hw) ?_;refine ⟨ey,⟨by simp only [Ty.h];rw [ey];simp [maxLen];omega,by simp only [Ty.h];rw [ey];simp;omega⟩,?_⟩;exact rE ⟨_,by omega,e + 1,rfl,by omega,rfl⟩ (wkB 4 (wA2 (nxt av (by omega)) iq) (wB2 (nxt av (by omega)) iq))
 have hge:e=h.af.length:=by have:=hL;simp [ay] at this;omega
 have ZD:IntKind.i64.wrap ((me:Int) + 1)=((me + 1:Nat):Int):=by rw [wrap64 (by omega) (by omega)];omega
 have EA:eE (az (h.af.take e))=eE (az h.af):=by rw [hge,List.take_length]
 refine aP (fun j st=>∃ (e q nx:Nat) (L:List Ed),st=C0 ⟨ae,order,types,.mk rh rp⟩ f (.mk h ps) h.af.length q L nx e/\q=e/\L.length=e/\e<=ps.len/\nx + (ps.drop e).nn=me + 1 + ps.nn/\edsP lev ⟨ae,order,types,.mk rh rp⟩ ps (me + 1)=L ++ edsP lev ⟨ae,order,types,.mk rh rp⟩ (ps.drop e) nx/\j=ps.len - e) ps.len
  (C0 ⟨ae,order,types,.mk rh rp⟩ f (.mk h ps) e 0 [] (me + 1) 0) (dJ 4 ⟨0,109,10,none⟩ rfl rfl rfl (wA2 ZD EA) rfl rfl (wB2 ZD EA)) ⟨0,0,me + 1,[],by rw [hge],rfl,rfl,by omega,rfl,rfl,by omega⟩ ?_
 clear he hL hge EA e;rintro j st ⟨e,q,nx,L,rfl,hq,Zw,he,Fp,aK,rfl⟩;refine br ?_ ?_<;>intro hL
 ·have av:e < ps.len:=by simpa [aH] using hL
  obtain ⟨p,u,hx⟩:=Pts.ej av;have Cb:=Pts.fW (mG hx);have hw1:p.name.wt + wdsWt p.label + wdsWt p.cl<=p.wt:=by simp only [Ph.wt];omega
  rw [Pts.drop_cons hx,edsP] at aK;rw [Pts.drop_cons hx,Pts.nn] at Fp;have GS:=Fz p.label (by omega);have Ui:=Fz p.cl (by omega);unfold I9 at GS Ui;rw [<- hls] at GS Ui;obtain ⟨uh,us⟩:=u;refine iX (bO hx) ?_;refine br ?_ ?_<;>intro hw
  all_goals
   refine cP WW GS ?_;refine cP WW Ui ?_;have ey:(fF L).length=q:=by rw [bT,Zw,hq]
   refine br ?_ ?_<;>intro hB
   ·have hB:p.bare=true:=hB;have nD:tR ⟨ae,order,types,.mk rh rp⟩ p (.mk uh us) nx = -1:=by simp [tR,hB]
    rw [hB] at aK Fp;refine ⟨ey,⟨by rw [ey];simp [maxLen];omega,by rw [ey];simp;omega⟩,?_⟩;exact ⟨C0 ⟨ae,order,types,.mk rh rp⟩ f (.mk h ps) h.af.length (q + 1) (L ++ [vF lev p (tR ⟨ae,order,types,.mk rh rp⟩ p (.mk uh us) nx)]) nx (e + 1),(wkB 4 (by repeat' (first | exact rfl | exact aA rfl | exact aC (nxt av (by omega)) | exact cf (fT (rR hw) nD) rfl | exact cf (fT (rS hw) nD) rfl | refine ⟨_,_,rfl,?_,?_⟩)) (by repeat' (first | exact trivial | exact aA rfl | exact aC (nxt av (by omega)) | exact cf (fT (rR hw) nD) rfl | exact cf (fT (rS hw) nD) rfl | refine ⟨⟨_,rfl,?_⟩,?_⟩))),ps.len - (e + 1),by omega,e + 1,q + 1,nx,_,rfl,by omega,by simp [Zw],by omega,by rw [<- Fp];simp,by rw [aK];simp,rfl⟩
   ·have hB:p.bare=false:=hB;have gL:=AN Uj (mG hx) hB;refine br ?_ ?_<;>intro h9
    ·have h9:uh.ag=9:=sU h9;obtain ⟨i,hi⟩:=Option.ne_none_iff_exists'.1 ((lN gL).1 h9);obtain ⟨k,hk⟩:=hlo i (by have:=(cS hi).1;omega);have nD:tR ⟨ae,order,types,.mk rh rp⟩ p (.mk uh us) nx=(firstA ⟨ae,order,types,.mk rh rp⟩ k:Int):=by simp [tR,hB,mR,Ty.h,h9,Uh,hi,namedN,hk]
     refine cP WK (Qd uh.name.s i k hi hk) ?_;refine ⟨ey,⟨by rw [ey];simp [maxLen];omega,by rw [ey];simp;omega⟩,?_⟩;exact ⟨C0 ⟨ae,order,types,.mk rh rp⟩ f (.mk h ps) h.af.length (q + 1) (L ++ [vF lev p (tR ⟨ae,order,types,.mk rh rp⟩ p (.mk uh us) nx)]) nx (e + 1),(wkB 4 (by repeat' (first | exact rfl | exact aA rfl | exact aC (nxt av (by omega)) | exact cf (fT (rR hw) nD) rfl | exact cf (fT (rS hw) nD) rfl | refine ⟨_,_,rfl,?_,?_⟩)) (by repeat' (first | exact trivial | exact aA rfl | exact aC (nxt av (by omega)) | exact cf (fT (rR hw) nD) rfl | exact cf (fT (rS hw) nD) rfl | refine ⟨⟨_,rfl,?_⟩,?_⟩))),ps.len - (e + 1),by omega,e + 1,q + 1,nx,_,rfl,by omega,by simp [Zw],by omega,by rw [<- Fp];simp [hB,Ty.nn,h9],by rw [aK];simp [hB,Ty.nn,h9],rfl⟩
    ·have h9:¬ uh.ag=9:=sU h9;have nD:tR ⟨ae,order,types,.mk rh rp⟩ p (.mk uh us) nx=(nx:Int):=by simp [tR,hB,mR,Ty.h,h9]
     have hnn:=(Ty.mk uh us).gf;have hct:=(Ty.mk uh us).ek
     have qI:IntKind.i64.wrap ((nx:Int) + (gO (flatT (.mk uh us))).length)=((nx + (Ty.mk uh us).nn:Nat):Int):=by
      rw [dB,jx,wrap64 (by omega) (by omega)];omega
     refine cP O9 (nE _ (.mk uh us) (aW _) (by omega)) ?_;refine ⟨ey,⟨by rw [ey];simp [maxLen];omega,by rw [ey];simp;omega⟩,?_⟩;exact ⟨C0 ⟨ae,order,types,.mk rh rp⟩ f (.mk h ps) h.af.length (q + 1) (L ++ [vF lev p (tR ⟨ae,order,types,.mk rh rp⟩ p (.mk uh us) nx)]) (nx + (Ty.mk uh us).nn) (e + 1),(wkB 4 (by repeat' (first | exact rfl | exact aA rfl | exact aC (nxt av (by omega)) | exact aC qI | exact cf (fT (rR hw) nD) rfl | exact cf (fT (rS hw) nD) rfl | refine ⟨_,_,rfl,?_,?_⟩)) (by repeat' (first | exact trivial | exact aA rfl | exact aC (nxt av (by omega)) | exact aC qI | exact cf (fT (rR hw) nD) rfl | exact cf (fT (rS hw) nD) rfl | refine ⟨⟨_,rfl,?_⟩,?_⟩))),ps.len - (e + 1),by omega,e + 1,q + 1,(nx + (Ty.mk uh us).nn),_,rfl,by omega,by simp [Zw],by omega,by rw [<- Fp];simp [hB];omega,by rw [aK];simp [hB],rfl⟩
 have hge:e=ps.len:=by simp [aH] at hL;omega
 rw [hge,Pts.cW,edsP,List.append_nil] at aK;unfold Qc;simp only [Ty.h,Ty.ps];rw [aK];exact ⟨_,ax,rfl⟩
def ndsA (lev:List Wd->Int) (s:Sch):List Ty->Nat->List Nd
 | [],_=>[]
 | t :: r,k=>ndsT lev s t k ++ ndsA lev s r (k + t.nn)
def rT (l:List Ty):Nat:=(l.map Ty.nn).sum
theorem mU (t:Ty) (l:List Ty):rT (t :: l)=t.nn + rT l:=by simp [rT]
theorem tV (a b:List Ty):rT (a ++ b)=rT a + rT b:=by simp [rT]
theorem kM (lev:List Wd->Int) (s:Sch):∀ (l:List Ty) (k:Nat),(ndsA lev s l k).length=rT l
 | [],_=>rfl
 | t :: r,k=>by simp only [ndsA,List.length_append,jT,kM lev s r,mU]
theorem vV (lev:List Wd->Int) (s:Sch):∀ (a b:List Ty) (k:Nat),ndsA lev s (a ++ b) k=ndsA lev s a k ++ ndsA lev s b (k + rT a)
 | [],b,k=>by simp [ndsA,rT]
 | t :: r,b,k=>by rw [List.cons_append,ndsA,ndsA,vV lev s r b,List.append_assoc,mU,Nat.add_assoc]
theorem vW (lev:List Wd->Int) (s:Sch):∀ (l:List (Wd × Ty)) (k:Nat),ndsAll lev s l k=ndsA lev s (l.map fun x=>x.2) k
 | [],_=>rfl
 | x :: r,k=>by rw [ndsAll,List.map_cons,ndsA,vW lev s r]
theorem vX (s:Sch):(p8 s).length=rT (fG s):=by rw [p8,vW,kM];all_goals rfl
theorem jy (s:Sch):aR s=ndsA (iz s) s (fH s) 0:=by
 unfold aR fH;rw [vV,vX,p8,vW,ndsA,ndsA,List.append_nil,Nat.zero_add];rfl
theorem Jr {lev:List Wd->Int} {s:Sch} {l:List Ty} {e:Nat} {t:Ty} (h:l[e]? = some t):ndsA lev s (l.take (e + 1)) 0=ndsA lev s (l.take e) 0 ++ ndsT lev s t (ndsA lev s (l.take e) 0).length:=by
 rw [List.take_add_one,h,vV,kM,Nat.zero_add];simp [ndsA]
theorem C1 (l:List Ty):∀ e,rT (l.take e)<=rT l:=by
 intro e;have:=tV (l.take e) (l.drop e);rw [List.take_append_drop] at this;omega
theorem FR (s:Sch):rT (fH s)<=s.wt:=by
 have key:∀ l:List (Wd × Ty),rT (l.map fun x=>x.2)<=nmsWt l:=by
  intro l
  induction l with
  | nil=>exact aW _
  | cons x r ih=>
   have:=x.2.gf;have:=x.2.ek
   grind [mU,nmsWt]
 have h1:=key s.types;have h2:=s.root.gf;have h3:=s.root.ek
 grind [fH,tV,mU,Sch.wt,fG,rT]
mutual
theorem vY {X:Lx} {L:List ByteArray}:∀ (t:Ty),(knT X L t).1=0->∀ u∈flatT t,(knT X L u).1=0
 | .mk h ps,hk,u,hu=>by
  rw [flatT] at hu;split at hu
  ·cases hu
  ·rcases cr hu with rfl | hu
   ·exact hk
   ·exact C2 ps (lN hk).2 u hu
theorem C2 {X:Lx} {L:List ByteArray}:∀ (ps:Pts),(knP X L ps).1=0->∀ u∈flatP ps,(knT X L u).1=0
 | .nil,_,u,hu=>by cases hu
 | .cons p v r,hk,u,hu=>by
  rw [flatP] at hu;rcases List.mem_append.1 hu with hu | hu
  ·cases hb:p.bare with
   | true=>rw [hb] at hu;cases hu
   | false=>rw [hb] at hu;exact vY v ((rJ hk).1 hb) u hu
  ·exact C2 r (rJ hk).2 u hu
end
mutual
theorem vZ:∀ (t:Ty),∀ u∈flatT t,u.wt<=t.wt
 | .mk h ps,u,hu=>by
  rw [flatT] at hu;split at hu
  ·cases hu
  ·rcases cr hu with rfl | hu
   ·exact aW _
   ·have:=C3 ps u hu;simp only [Ty.wt];omega
theorem C3:∀ (ps:Pts),∀ u∈flatP ps,u.wt<=ps.wt
 | .nil,u,hu=>by cases hu
 | .cons p v r,u,hu=>by
  rw [flatP] at hu;simp only [Pts.wt];rcases List.mem_append.1 hu with hu | hu
  ·split at hu
   ·cases hu
   ·have:=vZ v u hu;omega
  ·have:=C3 r u hu;omega
end
theorem MW {lev:List Wd->Int} {s:Sch} {t u:Ty} {n k:Nat} (h:(flatT t)[k]? = some u):(ndsT lev s t n)[k]? = some (Qc lev s u (n + k)):=by grind [tU]
structure v7 (S:Sch):Prop where
 lat:(latF S.ae S.order).1=0
 l64:S.types.length<=64
 kn:∀ t∈fH S,(k0 S t).1=0
 ends:∀ i,i < S.types.length->∃ k,endI S (S.types.length + 1) i=some k
 wr:∀ t∈fH S,(wrong t 1 0).1.1=0
theorem MX:∀ {l:List Ty} {m:Int},(eaA l m).1.1=0->∀ t∈l,(wrong t 1 0).1.1=0
 | [],_,_,t,ht=>by cases ht
 | u :: r,m,h,t,ht=>by
  rw [eaA] at h;split at h
  ·rename_i h1;exact (h1 h).elim
  ·rename_i h1;rcases cr ht with rfl | ht
   ·exact (nC (sU h1)).2.2.1
   ·exact MX h t ht
theorem qc {S:Sch} (h:(km S).1=0):v7 S:=by
 rw [HI] at h;split at h
 ·rename_i h1;exact (h1 h).elim
 rename_i h1;split at h
 ·rename_i h2;exact (h2 h).elim
 rename_i h2;split at h
 ·rename_i h3;exact (h3 h).elim
 rename_i h3;split at h
 ·rename_i h4;exact (h4 h).elim
 rename_i h4
 exact {
  lat:=sU h1
  l64:=by grind [eu]
  kn:=FO (sU h4)
  ends:=CP h
  wr:=MX (sU h3) }
theorem v7.refs {S:Sch} (h:v7 S):∀ x∈S.types,tz S x.2=true:=fun x hx=>AA (h.kn x.2 (List.mem_append_left _ (List.mem_map_of_mem hx)))
abbrev wC (S:Sch) (f:Nat->Nat->Bool) (N:DV) (z:Int):List DV:=[.sl 2 (bA S.ae) none,.sl 1 (cH (dt S.ae.length f)) none,N,.v (.int .i64 z)]
abbrev MY (S:Sch) (T:List Ty) (f:Nat->Nat->Bool) (L:List Nd) (z:Int) (e q:Nat):St:=
 ⟨[aD 1 0,aD 2 1,aD 3 2,aZ 4 9 (gO T),au 5 e],[eB S,[.v (.slice none 0 0),.v (.slice none 0 0),.v (.slice none 0 0),.v (.int .i64 0)],wC S f (.sl 7 (cX L) (some 0)) z],[⟨q,100,7,none⟩]⟩
abbrev Sp (S:Sch) (T:List Ty) (f:Nat->Nat->Bool) (L:List Nd) (z:Int) (e:Nat) (F:List Ty) (k q:Nat):St:=
 ⟨[aD 1 0,aD 2 1,aD 3 2,aZ 4 9 (gO T),au 5 e,aZ 6 9 (gO F),au 7 k],[eB S,[.v (.slice none 0 0),.v (.slice none 0 0),.v (.slice none 0 0),.v (.int .i64 0)],wC S f (.sl 7 (cX L) (some 0)) z],[⟨q,100,7,none⟩]⟩
theorem qd (S:Sch) (hS:S.wt<=1099511627776) (hR:(km S).1=0) :
  EvP prog 9 [.agg (eB S)] (.agg (wC S (eC S.ae.length (de (az S.ae) S.order)) (.sl 7 (cX (aR S)) none) (dL S))):=by
 have Ot:=qc hR;obtain ⟨_,PV⟩:=kK Ot.lat;have VC:=AK hS;have TN:=FR S;have hN0:=(oK Ot.lat).2.2.1;have hrr:=Ot.refs;have gW:=fun t ht hk me Vx=>FP S hS Ot.lat Ot.l64 hrr Ot.ends t ht hk me Vx;have hwS:=hS;unfold Sch.wt at hS;have Qe:=CS S.ae S.order PV (by omega) (by omega) hN0;have jg:=CY S (by have:=Ot.l64;omega);have hlen:(fH S).length=S.types.length + 1:=by simp [fH,fG]
 have UA:=Ot.l64;have Qd:=fun s i k=>vU S UA (by omega) hrr s i k;have KR:=Ot.kn;have v8:=Ot.ends;have gN:=jS S;have fD:(fH S)[S.types.length]? = some S.root:=by grind [fH,fG]
 have o8:=vX S;have mc:(fH S).take S.types.length=fG S:=by grind [fH,fG]
 rw [jy];unfold dL;generalize iz S=lev at gW ⊢;generalize eC S.ae.length (de (az S.ae) S.order)=f at gW Qe ⊢;obtain ⟨ae,order,types,⟨rh,rp⟩⟩:=S;simp only at hS Qe hlen UA v8 gN fD mc;generalize hT:fH ⟨ae,order,types,.mk rh rp⟩=T at VC TN jg hlen KR fD mc ⊢;refine eG 67 [.cell 2 50] func9 rfl ntmps9 rfl fun _ _ _ _=>?_;apply np (fun _=>false) 6 8 [0,1,2,3,4,5,6,7,8,9] [0,1,2,3,4,5,8,6,7,9] 2 2 mo (by decide +kernel)
 ·refine cD Tu Qe ?_;refine (?_:@Eq St _ _);exact rfl
 ·refine cD Tu Qe ?_;refine (⟨rfl,rfl,?_⟩:_/\_/\_)
  repeat' (first | exact trivial | refine ⟨rfl,?_⟩)
 ·rfl
 refine cP WJ jg ?_
 have hLN:∀ e,(ndsA lev ⟨ae,order,types,.mk rh rp⟩ (T.take e) 0).length<=1099511627776:=fun e=>by
  rw [kM];have:=C1 T e;omega
 refine aP (fun j st=>∃ (e q:Nat) (z:Int),st=MY ⟨ae,order,types,.mk rh rp⟩ T f (ndsA lev ⟨ae,order,types,.mk rh rp⟩ (T.take e) 0) z e q/\q=(ndsA lev ⟨ae,order,types,.mk rh rp⟩ (T.take e) 0).length/\e<=types.length + 1/\(e=types.length + 1->z=(rT (T.take types.length):Nat))/\j=types.length + 1 - e) (types.length + 1)
  (MY ⟨ae,order,types,.mk rh rp⟩ T f [] 0 0 0) (dJ 3 ⟨0,100,7,none⟩ rfl rfl rfl kZ rfl rfl gR) ⟨0,0,0,rfl,rfl,by omega,fun h=>by omega,by omega⟩ ?_
 rintro j st ⟨e,q,z,rfl,hq,he,hz,rfl⟩;refine br ?_ ?_<;>intro hL
 ·have av:e < types.length + 1:=by have:=hL;simp [dB,hlen] at this;omega
  obtain ⟨t,ht⟩:∃ t,T[e]? = some t:=⟨_,gE (by omega)⟩;have Mj:=VC t (mG ht);have htk':=KR t (mG ht);have Ir:=nE _ t (aW _) Mj;have hfk:=vY t htk';have YR:=vZ t;have VD:=Jr (lev:=lev) (s:=⟨ae,order,types,.mk rh rp⟩) ht;have hfln:=jx t;have jd:=jT lev ⟨ae,order,types,.mk rh rp⟩ t (ndsA lev ⟨ae,order,types,.mk rh rp⟩ (T.take e) 0).length;have ji:=fun k u (h:(flatT t)[k]? = some u)=>MW (lev:=lev) (s:=⟨ae,order,types,.mk rh rp⟩) (n:=(ndsA lev ⟨ae,order,types,.mk rh rp⟩ (T.take e) 0).length) h;have hLe:=hLN e;have UB:=hLN (e + 1);have hLs:=kM lev ⟨ae,order,types,.mk rh rp⟩ (T.take e) 0;rw [VD,List.length_append] at UB;obtain ⟨u,us⟩:=t;generalize ndsA lev ⟨ae,order,types,.mk rh rp⟩ (T.take e) 0=L at hq VD jd ji hLe UB hLs ⊢;generalize ndsT lev ⟨ae,order,types,.mk rh rp⟩ (.mk u us) L.length=M at VD jd ji UB;generalize flatT (.mk u us)=F at Ir hfk YR hfln ji;have cw:((cX L).length:Int)=(L.length:Int):=by rw [eD]
  refine iX (jW ht) ?_;refine cP O9 Ir ?_
  refine aP (fun j st=>∃ (k q:Nat),st=Sp ⟨ae,order,types,.mk rh rp⟩ T f (L ++ M.take k) (L.length:Int) e F k q/\q=(L ++ M.take k).length/\k<=F.length/\j=F.length - k) F.length
   (Sp ⟨ae,order,types,.mk rh rp⟩ T f (L ++ []) (L.length:Int) e F 0 q) (wkB 3 (by repeat' (first | exact rfl | exact aA rfl | exact aC cw | exact cf (by rw [List.append_nil]) rfl | refine ⟨_,_,rfl,?_,?_⟩)) (by repeat' (first | exact trivial | exact aA rfl | exact aC cw | exact cf (by rw [List.append_nil]) rfl | refine ⟨⟨_,rfl,?_⟩,?_⟩))) ⟨0,q,rfl,by simp [hq],by omega,by omega⟩ ?_
  rintro j st ⟨k,q',rfl,ma,hk,rfl⟩;refine br ?_ ?_<;>intro mN
  ·have gL:k < F.length:=by have:=mN;simp [dB] at this;exact this
   obtain ⟨v,hv⟩:∃ v,F[k]? = some v:=⟨_,gE gL⟩;have Vj:=mG hv;have hvw:=YR v Vj;have ey:(cX (L ++ M.take k)).length=q':=by rw [eD,ma]
   have ku:q'=L.length + k:=by rw [ma,List.length_append,ez];omega
   have hnd:=gW v (by omega) (hfk v Vj) (cX (L ++ M.take k)).length (by omega)
   have iq:cX (L ++ M.take k) ++ [iS (Qc lev ⟨ae,order,types,.mk rh rp⟩ v (cX (L ++ M.take k)).length)]=cX (L ++ M.take (k + 1)):=by
    rw [List.take_add_one,ji k v hv,ey,ku];simp [cX]
   obtain ⟨vh,vp⟩:=v;refine dS ?_;refine iX (jW hv) ?_;refine cD en36 hnd ?_;refine ⟨ey,⟨by rw [ey];simp [maxLen];omega,by rw [ey];simp;omega⟩,?_⟩;exact rE ⟨_,by omega,k + 1,q' + 1,rfl,by rw [ku];simp;omega,by omega,rfl⟩ (wkB 3 (wA2 (nxt gL (by omega)) iq) (wB2 (nxt gL (by omega)) iq))
  ·have hge:k=F.length:=by have:=mN;simp [dB] at this;omega
   have hM:M.take k=M:=List.take_of_length_le (by omega);rw [hM] at ma;refine ⟨MY ⟨ae,order,types,.mk rh rp⟩ T f (ndsA lev ⟨ae,order,types,.mk rh rp⟩ (T.take (e + 1)) 0) (L.length:Int) (e + 1) q',(wkB 3 (by repeat' (first | exact rfl | exact aA rfl | exact aC (nxt av (by omega)) | exact cf (by rw [VD,hM]) rfl | refine ⟨_,_,rfl,?_,?_⟩)) (by repeat' (first | exact trivial | exact aA rfl | exact aC (nxt av (by omega)) | exact cf (by rw [VD,hM]) rfl | refine ⟨⟨_,rfl,?_⟩,?_⟩))),types.length + 1 - (e + 1),by omega,e + 1,q',_,rfl,by rw [VD,ma],by omega,fun ZE=>?_,rfl⟩;rw [hLs,show e=types.length by omega]
 ·have hge:e=types.length + 1:=by have:=hL;simp [dB,hlen] at this;omega
  have hTa:T.take e=T:=List.take_of_length_le (by omega);rw [hTa];have hz:=hz hge;rw [mc,<- o8] at hz;have Jf:=KR (.mk rh rp) (mG fD);refine br ?_ ?_<;>intro h9
  ·have h9:rh.ag=9:=sU h9;obtain ⟨i,hi⟩:=Option.ne_none_iff_exists'.1 ((lN Jf).1 h9);obtain ⟨k,hk⟩:=v8 i (by have:=(cS hi).1;omega);have nD:mR ⟨ae,order,types,.mk rh rp⟩ (.mk rh rp) (p8 ⟨ae,order,types,.mk rh rp⟩).length=(firstA ⟨ae,order,types,.mk rh rp⟩ k:Int):=by simp [mR,Ty.h,h9,Uh,hi,namedN,hk]
   refine cP WK (Qd rh.name.s i k hi hk) ?_;rw [nD];exact ⟨_,ax,rfl⟩
  ·have h9:¬ rh.ag=9:=sU h9;have nD:mR ⟨ae,order,types,.mk rh rp⟩ (.mk rh rp) (p8 ⟨ae,order,types,.mk rh rp⟩).length=z:=by simp [mR,Ty.h,h9,hz]
   rw [nD];exact ⟨_,ax,rfl⟩
def Sq (t:Ty):Prop:=∃ d m,(wrong t d m).1.1=0
def HJ (ag:Int) (p:Ph) (t:Ty):Prop:=(p.bare=true/\ag=8/\sameTy t cv=true/\cm p iW=true)∨(p.bare=false/\(dF p).1=0/\Sq t)
structure TyF (h:Hd) (ps:Pts):Prop where
 k1:1<=h.ag
 k9:h.ag<=9
 own:u5 h ps=true
 int:h.ag=2->h.lo<=h.hi
 text:h.ag=3->0<=h.most/\h.most<=4096
 enum:h.ag=4->il h=(0,0)
 one:h.ag=5∨h.ag=6->∃ p t,ps = .cons p t .nil/\p.name.s=aq/\cm p eU=true/\0<=h.most/\h.most<=1024/\Sq t
 many:h.ag=7∨h.ag=8->ps.len<=64/\(h.ag=8->ps.len≠0)/\∀ i p t,ps.toList[i]? = some (p,t)->aF (pNames ps) i p.name=0/\HJ h.ag p t
theorem UC {h:Hd} {ps:Pts} (ho:¬ uY (.mk h ps)=false):u5 h ps=true:=by
 rw [Hh];cases hb:sameTy (.mk h ps) (mask (.mk h ps))
 ·exact absurd hb ho
 ·rfl
theorem mV {ag:Int} {all:List Wd}:∀ {ps:Pts} {i:Nat} {d m:Int},(wrongPts ag all i ps d m).1.1=0->(ag=7∨ag=8)->∀ j p t,ps.toList[j]? = some (p,t)->aF all (i + j) p.name=0/\HJ ag p t
 | .nil,i,d,m,_,_,j,p,t,hx=>by simp [Pts.toList] at hx
 | .cons q u r,i,d,m,he,hk,j,p,t,hx=>by
  simp only [wrongPts] at he;by_cases c0:aF all i q.name≠0
  ·rw [ai c0] at he;exact absurd he c0
  rw [ah c0] at he;have c0:aF all i q.name=0:=sU c0
  have step:∀ d' m',(wrongPts ag all (i + 1) r d' m').1.1=0->HJ ag q u->aF all (i + j) p.name=0/\HJ ag p t:=by
   intro d' m' h hq
   cases j with
   | zero=>grind [Pts.toList]
   | succ j=>
    simp only [Pts.toList,List.getElem?_cons_succ] at hx;have:=mV h hk j p t hx
    grind
  by_cases c1:q.bare=true
  ·rw [ai c1] at he;by_cases c2:ag=7∨sameTy u cv=false∨cm q iW=false
   ·rw [ai c2] at he;simp at he
   rw [ah c2] at he;refine step d m he (.inl ⟨c1,?_,?_,?_⟩)
   all_goals grind
  ·rw [ah c1] at he;by_cases c2:(dF q).1≠0
   ·rw [ai c2] at he;exact absurd he c2
   rw [ah c2] at he;by_cases c3:(wrong u (d + 1) m).1.1≠0
   ·rw [ai c3] at he;exact absurd he c3
   rw [ah c3] at he;exact step d _ he (.inr ⟨by simpa using c1,by simpa using c2,d + 1,m,by simpa using c3⟩)
theorem FT:∀ {t:Ty},Sq t->TyF t.h t.ps
 | .mk h ps,⟨d,m,he⟩=>by
  simp only [Ty.h,Ty.ps];simp only [wrong] at he;by_cases c0:24 < d
  ·rw [ai c0] at he;simp at he
  rw [ah c0] at he;by_cases c1:512 < m + 1
  ·rw [ai c1] at he;simp at he
  rw [ah c1] at he;by_cases c2:h.ag < 1∨9 < h.ag
  ·rw [ai c2] at he;simp at he
  rw [ah c2] at he;by_cases c3:uY (.mk h ps)=false
  ·rw [ai c3] at he;simp at he
  rw [ah c3] at he;by_cases c4:(h.ag=2/\h.hi < h.lo)∨(h.ag=3/\(h.most < 0∨4096 < h.most))
  ·rw [ai c4] at he;simp at he
  rw [ah c4] at he;by_cases c5:h.ag=9/\aM h.name.s=false
  ·rw [ai c5] at he;simp at he
  rw [ah c5] at he;refine { k1:=by omega,k9:=by omega,own:=UC c3,int:=fun h2=>by omega,text:=fun h3=>by omega,enum:=fun h4=>?_,one:=fun h5=>?_,many:=fun h7=>?_ }
  ·rw [ai h4] at he;exact yx h he
  ·rw [ah (by omega),ai h5] at he
   match ps,he with
   | .nil,he=>simp [wrongOne] at he
   | .cons p t (.cons _ _ _),he=>simp [wrongOne] at he
   | .cons p t .nil,he=>
    simp only [wrongOne] at he;by_cases e0:p.name.s≠aq∨cm p eU=false
    ·rw [ai e0] at he;simp at he
    rw [ah e0] at he;by_cases e1:h.most < 0∨1024 < h.most
    ·rw [ai e1] at he;simp at he
    rw [ah e1] at he;refine ⟨p,t,rfl,Classical.byContradiction fun hn=>e0 (.inl hn),?_,by omega,by omega,d + 1,_,he⟩
    grind
  ·rw [ah (by omega),ah (by omega),ai h7] at he;by_cases e0:h.ag=8/\ps.len=0
   ·rw [ai e0] at he;simp at he
   rw [ah e0] at he;by_cases e1:64 < ps.len
   ·rw [ai e1] at he;simp at he
   rw [ah e1] at he;refine ⟨by omega,fun h8=>fun hl=>e0 ⟨h8,hl⟩,fun i p t hx=>?_⟩;have:=mV he h7 i p t hx
   rwa [Nat.zero_add] at this
theorem TyF.sub {h:Hd} {ps:Pts} (hF:TyF h ps) {p:Ph} {u:Ty} (hm:(p,u)∈ps.toList) (hb:p.bare=false):Sq u:=by
 obtain ⟨i,hi⟩:=List.mem_iff_getElem?.1 hm
 have hlen:0 < ps.len:=by
  cases ps with
  | nil=>simp [Pts.toList] at hm
  | cons _ _ _=>simp [Pts.len]
 have hk:5<=h.ag/\h.ag<=8:=by
  have h1:=hF.own
  grind [u5]
 by_cases h5:h.ag=5∨h.ag=6
 ·obtain ⟨q,t,rfl,_,_,_,_,hw⟩:=hF.one h5
  grind [Pts.toList]
 ·rcases ((hF.many (by omega)).2.2 i p u hi).2 with h1 | h1
  ·rw [h1.1] at hb;cases hb
  ·exact h1.2.2
mutual
theorem wa:∀ (t:Ty),Sq t->∀ u∈flatT t,Sq u
 | .mk h ps,hw,u,hu=>by
  rw [flatT] at hu;split at hu
  ·cases hu
  ·rcases cr hu with rfl | hu
   ·exact hw
   ·exact C4 ps (fun p v hm hb=>(FT hw).sub hm hb) u hu
theorem C4:∀ (ps:Pts),(∀ p v,(p,v)∈ps.toList->p.bare=false->Sq v)->∀ u∈flatP ps,Sq u
 | .nil,_,u,hu=>by cases hu
 | .cons p v r,hw,u,hu=>by
  rw [flatP] at hu;rcases List.mem_append.1 hu with hu | hu
  ·cases hb:p.bare with
   | true=>rw [hb] at hu;cases hu
   | false=>rw [hb] at hu;exact wa v (hw p v (by simp [Pts.toList]) hb) u hu
  ·exact C4 r (fun q w hm=>hw q w (by simp [Pts.toList,hm])) u hu
end
mutual
theorem C5:∀ (t:Ty),∀ u∈flatT t,u.h.ag≠9
 | .mk h ps,u,hu=>by
  rw [flatT] at hu;split at hu
  ·cases hu
  ·rename_i h9;rcases cr hu with rfl | hu
   ·exact h9
   ·exact C6 ps u hu
theorem C6:∀ (ps:Pts),∀ u∈flatP ps,u.h.ag≠9
 | .nil,u,hu=>by cases hu
 | .cons p v r,u,hu=>by
  rw [flatP] at hu;rcases List.mem_append.1 hu with hu | hu
  ·split at hu
   ·cases hu
   ·exact C5 v u hu
  ·exact C6 r u hu
end
mutual
theorem y7:∀ (t:Ty) (j:Nat) (u:Ty),(flatT t)[j]? = some u->j + u.nn<=t.nn
 | .mk h ps,j,u,hu=>by
  rw [flatT] at hu;by_cases h9:h.ag=9
  ·rw [ai h9] at hu;simp at hu
  rw [ah h9] at hu
  cases j with
  | zero=>grind
  | succ j=>
   simp only [List.getElem?_cons_succ] at hu;have:=rU ps j u hu;rw [Ty.nn,ah h9];omega
theorem rU:∀ (ps:Pts) (j:Nat) (u:Ty),(flatP ps)[j]? = some u->j + u.nn<=ps.nn
 | .nil,j,u,hu=>by simp [flatP] at hu
 | .cons p v r,j,u,hu=>by
  rw [flatP] at hu;rw [Pts.nn]
  cases hb:p.bare with
  | true=>
   rw [hb] at hu;have:=rU r j u (sU hu);simp only [if_true];omega
  | false=>
   rw [hb] at hu;simp only [Bool.false_eq_true,if_false] at hu ⊢;by_cases hj:j < (flatT v).length
   ·rw [fk hj] at hu;have:=y7 v j u hu;omega
   ·rw [List.getElem?_append_right (by omega)] at hu;have:=rU r _ u hu;have h2:=jx v;omega
end
theorem qf {lev:List Wd->Int} {s:Sch}:∀ {ps:Pts} {k:Nat} {e:Ed},e∈edsP lev s ps k->∃ p u k',(p,u)∈ps.toList/\e=vF lev p (tR s p u k')/\(p.bare=false->k' + u.nn<=k + ps.nn)
 | .nil,k,e,he=>by simp [edsP] at he
 | .cons p u r,k,e,he=>by
  rw [edsP] at he;rcases cr he with rfl | he
  ·grind [Pts.toList,Pts.nn]
  ·obtain ⟨q,v,k',h1,h2,h3⟩:=qf he
   grind [Pts.toList,Pts.nn]
theorem oL {lev:List Wd->Int} {s:Sch}:∀ {ps:Pts} {k:Nat},(edsP lev s ps k).map Ed.name=az (pNames ps)
 | .nil,k=>rfl
 | .cons p u r,k=>by
  rw [edsP,List.map_cons,oL (ps:=r)];rfl
theorem y8 {f:Nat->Nat->Bool} {n:Nat} (hL:dG f n):∀ e,e<=n->∃ b,b < n/\∀ x,x < e->f b x=true
 | 0,_=>⟨0,hL.pos,fun x hx=>by omega⟩
 | e + 1,he=>by
  obtain ⟨b,hb,fN⟩:=y8 hL e (by omega);obtain ⟨k,hk⟩:=hL.mt b e hb (by omega);obtain ⟨g1,g2,g3,g4⟩:=oH hk;refine ⟨k,g1,fun x hx=>?_⟩;rcases jB hx with hx | rfl
  ·exact hL.tr k b x g1 hb (by omega) g2 (fN x hx)
  ·exact g3
theorem sH {f:Nat->Nat->Bool} {n:Nat} (hL:dG f n) (l:List Nat) (hl:∀ x∈l,x < n):∃ c,er f n l=some c:=by
 have key:∀ e,e<=l.length->∃ c,er f n (l.take e)=some c:=by
  intro e
  induction e with
  | zero=>
   intro _;obtain ⟨b,hb,fN⟩:=y8 hL n (aW _);exact ⟨b,oJ hL hb fN⟩
  | succ e ih=>
   intro he;obtain ⟨c,hc⟩:=ih (by omega);obtain ⟨x,hx⟩:∃ x,l[e]? = some x:=⟨_,gE (by omega)⟩;have zP:=hl x (mG hx);obtain ⟨k,hk⟩:=hL.jn c x (nB hc) zP;rw [List.take_add_one,hx]
   grind [sF]
 have:=key l.length (aW _)
 rwa [List.take_length] at this
theorem y9 {L:List ByteArray}:∀ {l:List Wd},(labW L l).1=0->∀ w∈l,∃ i,cO L w.s=some i
 | [],_,w,hw=>by cases hw
 | x :: r,h,w,hw=>by
  rw [labW] at h;split at h
  ·cases h
  ·rename_i h1;rcases cr hw with rfl | hw
   ·exact Option.ne_none_iff_exists'.1 h1
   ·exact y9 h w hw
theorem Js {f:Nat->Nat->Bool} {L:List ByteArray} (hL:dG f L.length) {l:List Wd} (h:(labW L l).1=0):∃ c:Nat,Av f L l=c/\c < L.length:=by
 obtain ⟨c,hc⟩:=sH hL (lK L l) (fun x hx=>by
  unfold lK at hx;obtain ⟨w,hw,rfl⟩:=List.mem_map.1 hx;obtain ⟨i,hi⟩:=y9 h w hw;rw [hi]
  exact (cS hi).1)
 refine ⟨c,?_,nB hc⟩;unfold Av;rw [ai h,hc];rfl
structure Qf (L N:Nat) (e:Ed):Prop where
 to0:e.bare=true->e.to = -1
 to1:e.bare=false->∃ k:Nat,e.to=k/\k < N
 lab:∃ k:Nat,e.label=k/\k < L
 seen:∃ k:Nat,e.seen=k/\k < L
 wide:1<=e.wide/\e.wide<=64
 ck:0<=e.ck/\e.ck<=3
 cn:(e.ck=0->e.cn=0)/\(e.ck=1->1<=e.cn)/\(e.ck=2->0<=e.cn/\e.cn<=4096)/\(e.ck=3->e.cn=0)
structure dg (L N:Nat) (n:Nd):Prop where
 k1:1<=n.ag
 k8:n.ag<=8
 ZF:n.ag=2->n.lo<=n.hi
 lo0:n.ag≠2->n.lo=0/\n.hi=0
 Sr:n.ag=3->0<=n.most/\n.most<=4096
 Ss:n.ag=5->0<=n.most/\n.most<=1024
 ZG:n.ag≠3->n.ag≠5->n.most=0
 af:n.ag=4->n.af ≠ []/\n.af.length<=64/\n.af.Nodup/\∀ s∈n.af,aM s=true
 UD:n.ag≠4->n.af=[]
 leaf:n.ag < 5->n.aw=[]
 one:n.ag=5∨n.ag=6->∃ e,n.aw=[e]/\e.bare=false/\e.name=aq
 many:n.ag=7∨n.ag=8->n.aw.length<=64/\(n.ag=8->n.aw ≠ [])/\(n.aw.map Ed.name).Nodup/\∀ e∈n.aw,aM e.name=true
 bare:∀ e∈n.aw,e.bare=true->n.ag=8
 fZ:∀ e∈n.aw,Qf L N e
theorem wb {l:List Wd} (h:∀ j x,l[j]? = some x->aF l j x=0):(az l).Nodup/\∀ x∈l,aM x.s=true:=by
 have key:∀ e,e<=l.length->(az (l.take e)).Nodup:=by
  intro e
  induction e with
  | zero=>intro _;simp [az]
  | succ e ih=>
   intro he;obtain ⟨x,hx⟩:∃ x,l[e]? = some x:=⟨_,gE (by omega)⟩
   grind [lH]
 refine ⟨by have:=key l.length (aW _);rwa [List.take_length] at this,fun x hx=>?_⟩;obtain ⟨j,hj⟩:=List.mem_iff_getElem?.1 hx
 grind [aF,aM]
theorem za {all:List Wd}:∀ {l:List Wd} {i:Nat},(enumL all i l).1=0->∀ j x,l[j]? = some x->aF all (i + j) x=0
 | [],i,_,j,x,hx=>by simp at hx
 | y :: r,i,h,j,x,hx=>by
  rw [enumL] at h;split at h
  ·rename_i h1;exact (h1 h).elim
  ·rename_i h1
   cases j with
   | zero=>grind
   | succ j=>
    simp only [List.getElem?_cons_succ] at hx;have:=za h j x hx
    grind
theorem AO {h:Hd} (he:il h=(0,0)):h.af ≠ []/\h.af.length<=64/\(az h.af).Nodup/\∀ x∈h.af,aM x.s=true:=by
 unfold il at he;split at he
 ·cases he
 ·rename_i h1;split at he
  ·cases he
  ·rename_i h2;refine ⟨h1,by omega,?_⟩
   exact wb fun j x hx=>by
    have:=za (all:=h.af) (i:=0) (by rw [he]) j x hx
    rwa [Nat.zero_add] at this
theorem HK {X:Lx} {L:List ByteArray}:∀ {ps:Pts},(knP X L ps).1=0->∀ {p:Ph} {u:Ty},(p,u)∈ps.toList->(X.bad p.label).1=0/\(X.bad p.cl).1=0
 | .nil,_,p,u,h=>by cases h
 | .cons q v r,hk,p,u,h=>by
  have hr:=(rJ hk).2;rw [knP] at hk;split at hk
  ·rename_i h1;exact (h1 hk).elim
  rename_i h1;split at hk
  ·rename_i h2;exact (h2 hk).elim
  rename_i h2;rcases cr h with h | h
  ·grind
  ·exact HK hr h
theorem nF {p q:Ph} (h:cm p q=true):p.bare=q.bare/\p.wide=q.wide/\p.ck=q.ck/\p.cn=q.cn:=by grind [cm]
theorem M0 {w:Int} (h:0<=w/\w<=64):1<=kI w/\kI w<=64:=by
 unfold kI;split<;>omega
theorem FU {p:Ph} (h:(aU p).1=0):(0<=p.ck/\p.ck<=3)/\(p.ck=0->p.cn=0)/\(p.ck=1->1<=p.cn)/\(p.ck=2->0<=p.cn/\p.cn<=4096)/\(p.ck=3->p.cn=0):=by grind [aU]
theorem Jt {p:Ph} (h:(dF p).1=0):(0<=p.wide/\p.wide<=64)/\(aU p).1=0:=by grind [dF,bJ]
theorem AP {t:Ty} (h:t.h.ag≠9):1<=t.nn:=by
 obtain ⟨h',ps⟩:=t;have h:¬ h'.ag=9:=h;rw [Ty.nn,ah h];omega
theorem zb {S:Sch} {k:Nat} {x:Wd × Ty} (hx:S.types[k]? = some x):firstA S k + x.2.nn<=rT (fH S):=by
 have h1:=mQ hx;rw [<- h1]
 have h2:firstA S (k + 1)=rT ((fG S).take (k + 1)):=by
  unfold firstA rT fG;rw [<- List.map_take,List.map_map];rfl
 grind [C1,fG,rT,fH,tV]
theorem we {lev:List Wd->Int} {s:Sch} {n:Nd}:∀ {l:List Ty} {k i:Nat},(ndsA lev s l k)[i]? = some n->∃ t∈l,∃ u∈flatT t,n=Qc lev s u (k + i)/\i + u.nn<=rT l
 | [],k,i,h=>by simp [ndsA] at h
 | t :: r,k,i,h=>by
  rw [ndsA] at h;rw [mU];have hl:=jT lev s t k;by_cases hi:i < t.nn
  ·rw [fk (by omega),tU,List.getElem?_map,List.getElem?_zipIdx] at h
   cases hu:(flatT t)[i]? with
   | none=>rw [hu] at h;simp at h
   | some u=>
    rw [hu] at h;simp only [Option.map_some,oI] at h;have:=y7 t i u hu;exact ⟨t,List.mem_cons_self,u,mG hu,by rw [<- h];simp,by omega⟩
  ·rw [List.getElem?_append_right (by omega),hl] at h;obtain ⟨t',h1,u,h2,h3,h4⟩:=we h
   grind
theorem lR (S:Sch):(aR S).length=rT (fH S):=by rw [jy,kM]
theorem rV {S:Sch} (hF:v7 S) {i:Nat} {n:Nd} (h:(aR S)[i]? = some n):dg S.ae.length (aR S).length n:=by
 rw [lR];rw [jy] at h;obtain ⟨t,ht,u,hu,rfl,pq⟩:=we h;rw [Nat.zero_add];have Jg:=wa t ⟨_,_,hF.wr t ht⟩ u hu;have hk:=vY t (hF.kn t ht) u hu;have hk9:=C5 t u hu;have hT:=FT Jg;obtain ⟨ZH,_⟩:=kK hF.lat;have jd:=di S.ae;have v8:=hF.ends;obtain ⟨uh,us⟩:=u;simp only [Ty.h,Ty.ps] at hT hk9;have Uj:=(lN hk).2;have fV:=hT.own;unfold u5 at fV;simp only [aO,Bool.or_eq_true,decide_eq_true_eq] at fV;obtain ⟨⟨⟨⟨o1,o2⟩,o3⟩,o4⟩,o5⟩:=fV;have k1:=hT.k1;have k9:=hT.k9
 have R6:∀ l:List Wd,(labW (az S.ae) l).1=0->∃ k:Nat,iz S l=k/\k < S.ae.length:=by
  intro l hl;have:=Js (f:=eC S.ae.length (de (az S.ae) S.order)) (L:=az S.ae) (by rw [jd];exact ZH) hl
  rwa [jd] at this
 have nD:∀ (p:Ph) (v:Ty) (k':Nat),(p,v)∈us.toList->(p.bare=false->k' + v.nn<=i + 1 + us.nn)->(p.bare=true->tR S p v k' = -1)/\(p.bare=false->∃ k:Nat,tR S p v k'=k/\k < rT (fH S)):=by
  intro p v k' hm fN;refine ⟨fun hb=>by simp [tR,hb],fun hb=>?_⟩;have hkv:=AN Uj hm hb;obtain ⟨vh,vs⟩:=v;by_cases h9:vh.ag=9
  ·obtain ⟨j,hj⟩:=Option.ne_none_iff_exists'.1 ((lN hkv).1 h9);have og:=(cS hj).1;rw [jS] at og;obtain ⟨k,hk⟩:=v8 j og;have nN:=pX hk;obtain ⟨x,hx⟩:∃ x,S.types[k]? = some x:=⟨_,gE nN.1⟩;have h1:=zb hx
   grind [AP,firstA,tR,mR,Ty.h,Uh,namedN]
  ·grind [AP,Ty.nn,tR,mR,Ty.h]
 have CG:∀ p v,(p,v)∈us.toList->(0<=p.wide/\p.wide<=64)/\(0<=p.ck/\p.ck<=3)/\((p.ck=0->p.cn=0)/\(p.ck=1->1<=p.cn)/\(p.ck=2->0<=p.cn/\p.cn<=4096)/\(p.ck=3->p.cn=0))/\(p.bare=true->uh.ag=8):=by
  intro p v hm;obtain ⟨j,hj⟩:=List.mem_iff_getElem?.1 hm
  have hlen:us.len≠0:=by
   cases us with
   | nil=>simp [Pts.toList] at hm
   | cons _ _ _=>simp [Pts.len]
  by_cases h5:uh.ag=5∨uh.ag=6
  ·obtain ⟨q,t',rfl,_,ky,_,_,_⟩:=hT.one h5;simp only [Pts.toList,List.mem_singleton,Prod.mk.injEq] at hm;obtain ⟨rfl,rfl⟩:=hm;obtain ⟨w1,w2,w3,w4⟩:=nF ky;have z1:eU.wide=0:=rfl;have z2:eU.ck=0:=rfl;have z3:eU.cn=0:=rfl;have z4:eU.bare=false:=rfl
   grind
  ·obtain ⟨_,hP⟩:=(hT.many (by omega)).2.2 j p v hj;rcases hP with ⟨hb,h8,_,ky⟩ | ⟨hb,hp,_⟩
   ·obtain ⟨w1,w2,w3,w4⟩:=nF ky;have z1:iW.wide=0:=rfl;have z2:iW.ck=0:=rfl;have z3:iW.cn=0:=rfl;omega
   ·obtain ⟨w1,w2⟩:=Jt hp;obtain ⟨w3,w4⟩:=FU w2
    grind
 have ZI:us.len=0->us = .nil:=fun h=>by
  cases us with
  | nil=>rfl
  | cons _ _ _=>simp [Pts.len] at h
 refine {
  k1:=k1
  k8:=by show uh.ag<=8;omega
  ZF:=hT.int
  lo0:=fun h2=>?_
  Sr:=hT.text
  Ss:=fun h5=>?_
  ZG:=fun h3 h5=>?_
  af:=fun h4=>?_
  UD:=fun h4=>?_
  leaf:=fun h5=>?_
  one:=fun h5=>?_
  many:=fun h7=>?_
  bare:=fun e he hb=>?_
  fZ:=fun e he=>?_ }
 ·show uh.lo=0/\uh.hi=0;exact o1.resolve_left h2
 ·obtain ⟨q,t',rfl,_,_,l8,gM,_⟩:=hT.one (.inl h5);exact ⟨l8,gM⟩
 ·show uh.most=0;exact o2.resolve_left (fun h=>h.elim h3 h5)
 ·obtain ⟨e1,e2,e3,e4⟩:=AO (hT.enum h4);show az uh.af ≠ []/\(az uh.af).length<=64/\(az uh.af).Nodup/\∀ s∈az uh.af,aM s=true
  grind [az,di]
 ·show az uh.af=[];have:=o4.resolve_right h4;have:uh.af=[]:=List.eq_nil_of_length_eq_zero this;rw [this];all_goals rfl
 ·show edsP (iz S) S us (i + 1)=[];have hk5:uh.ag < 5:=h5;rw [ZI (o3.resolve_right (by omega))];rfl
 ·show ∃ e,edsP (iz S) S us (i + 1)=[e]/\_;obtain ⟨q,t',rfl,hn,ky,_,_,_⟩:=hT.one h5;refine ⟨vF (iz S) q (tR S q t' (i + 1)),rfl,?_,hn⟩;exact (nF ky).1
 ·show (edsP (iz S) S us (i + 1)).length<=64/\(_->edsP (iz S) S us (i + 1) ≠ [])/\((edsP (iz S) S us (i + 1)).map Ed.name).Nodup/\∀ e∈edsP (iz S) S us (i + 1),aM e.name=true;obtain ⟨m1,m2,m3⟩:=hT.many h7;have jg:∀ j x,(pNames us)[j]? = some x->aF (pNames us) j x=0:=by grind [fX,Pts.ej,fY]
  obtain ⟨n1,n2⟩:=wb jg;refine ⟨by rw [pY];exact m1,fun h8 hn=>m2 h8 ?_,by rw [oL];exact n1,fun e he=>?_⟩
  ·grind [pY,iz]
  ·have:e.name∈az (pNames us):=by rw [<- oL (lev:=iz S) (s:=S) (k:=i + 1)];exact List.mem_map_of_mem he
   grind [az]
 ·obtain ⟨p,v,k',h1,rfl,_⟩:=qf he;exact (CG p v h1).2.2.2 hb
 ·obtain ⟨p,v,k',h1,rfl,h3⟩:=qf he;obtain ⟨h4,h5⟩:=nD p v k' h1 h3;obtain ⟨h6,h7,h8,_⟩:=CG p v h1;obtain ⟨h9,kA⟩:=HK Uj h1;exact { to0:=h4,to1:=h5,lab:=R6 _ h9,seen:=R6 _ kA,wide:=M0 h6,ck:=h7,cn:=h8 }
theorem FV {S:Sch} (hF:v7 S):∃ k:Nat,dL S=k/\k < (aR S).length:=by
 rw [lR];have Jf:=hF.kn S.root (by unfold fH;simp);have v8:=hF.ends;have fy:=vX S;have ON:rT (fH S)=rT (fG S) + S.root.nn:=by unfold fH;rw [tV];simp [rT]
 unfold dL;obtain ⟨ae,order,types,⟨rh,rp⟩⟩:=S;simp only at Jf v8 ON;by_cases h9:rh.ag=9
 ·obtain ⟨j,hj⟩:=Option.ne_none_iff_exists'.1 ((lN Jf).1 h9);have og:=(cS hj).1;rw [jS] at og;obtain ⟨k,hk⟩:=v8 j og;have nN:=pX hk;obtain ⟨x,hx⟩:∃ x,(Sch.mk ae order types (.mk rh rp)).types[k]? = some x:=⟨_,gE nN.1⟩;have h1:=zb hx
  grind [AP,firstA,mR,Ty.h,Uh,namedN]
 ·grind [AP,p8,mR,Ty.h]
theorem wg {lev:List Wd->Int} {s:Sch} {n:Nd}:∀ {l:List Ty} {k:Nat},n∈ndsA lev s l k->∃ t∈l,∃ u∈flatT t,∃ k',n=Qc lev s u k'
 | [],_,h=>by cases h
 | t :: r,k,h=>by
  rw [ndsA] at h;rcases List.mem_append.1 h with h | h
  ·grind [tU]
  ·obtain ⟨t',ht,h⟩:=wg h;exact ⟨t',gh _ ht,h⟩
theorem kN {S:Sch} {n:Nd} (h:n∈aR S) (hS:S.wt<=1099511627776):n.af.length<=1099511627776/\n.aw.length<=1099511627776:=by
 rw [jy] at h;obtain ⟨t,ht,u,hu,k,rfl⟩:=wg h;have h1:=AK hS t ht;have h2:=vZ t u hu;obtain ⟨uh,us⟩:=u;have h3:=bp uh.af;have h4:=us.fq
 grind [Ty.wt,Hd.wt,Qc,Ty.h,Ty.ps,di,pY]
abbrev zNd:List DV:=[.v (.int .i64 0),.v (.int .i64 0),.v (.int .i64 0),.v (.int .i64 0),.v (.int .i64 0),.v (.slice none 0 0),.v (.slice none 0 0)]
structure jX (S:Sch) (ND:List Nd) (PC:List DV):Prop where
 fine:v7 S
 wt:S.wt<=1099511627776
 Az:ND=aR S
 ok:∀ n∈ND,dg S.ae.length ND.length n
 nl:ND.length<=1099511627776
 len:EvP prog 148 [.pt PC 0] (.v (.int .i64 ND.length))
 root:EvP prog 47 [.pt PC 0] (.v (.int .i64 (dL S)))
 ap:∀ (i:Nat) n,ND[i]? = some n->EvP prog 94 [.pt PC 0,.v (.int .i64 i)] (.tup [.agg (iS n),.v (.bool true)])
 Su:∀ i:Int,(i < 0∨ND.length<=i)->EvP prog 94 [.pt PC 0,.v (.int .i64 i)] (.tup [.agg zNd,.v (.bool false)])
 lat:∃ aG js,(dT S aG js).OK/\EvP prog 15 [.pt PC 0] (dT S aG js).pd
theorem M3 {S:Sch} {d:DV} (hS:S.wt<=1099511627776) (h0:(km S).1=0) (hd:MF S d):∃ PC,d = .pt PC 0/\jX S (aR S) PC:=by
 obtain ⟨aG,ko,js,hX,hT,kX,rfl⟩:=hd;have hF:=qc h0;have bL:=fun n (h:n∈aR S)=>kN h hS
 refine ⟨_,rfl,{
  fine:=hF
  wt:=hS
  Az:=rfl
  ok:=fun n hn=>?_
  nl:=by rw [lR];exact Nat.le_trans (FR S) hS
  len:=rL _ _ _ _ _ _
  root:=FA _ _ _ _ _ _
  ap:=fun i n h=>FB _ _ _ _ _ _ i n h (bL n (mG h)).1 (bL n (mG h)).2
  Su:=fun i h=>FC _ _ _ _ _ _ i h
  lat:=⟨aG,js,hX,Jh _ _ _ _ _ _⟩ }⟩
 obtain ⟨i,hi⟩:=List.mem_iff_getElem?.1 hn;exact rV hF hi
def FW (S:Sch) (r:DV):Prop:=((km S).1≠0/\r = .tup [.v (.pointer none),(km S).d])∨((km S).1=0/\∃ PC,jX S (aR S) PC/\r = .tup [.pt PC 0,Ft.d (0,0)])
theorem zc {S:Sch} (hS:S.wt<=1099511627776) {r:DV} {os:List (List DV)} {tk:List TkE} (h:Fy S r os tk):FW S r:=by
 unfold Fy at h;by_cases h0:(km S).1=0
 ·rw [ah (by rw [h0];simp)] at h;obtain ⟨d,hd,rfl⟩:=h;obtain ⟨PC,rfl,hP⟩:=M3 hS h0 hd;exact .inr ⟨h0,PC,hP,rfl⟩
 ·rw [ai h0] at h;exact .inl ⟨h0,h⟩
inductive Val where
 | mk (k n:Int) (s:ByteArray) (ks:List Val)
def Val.k:Val->Int | .mk k _ _ _=>k
def Val.n:Val->Int | .mk _ n _ _=>n
def Val.s:Val->ByteArray | .mk _ _ s _=>s
def Val.ks:Val->List Val | .mk _ _ _ ks=>ks
mutual
def bD:Val->List DV
 | .mk k n s ks=>[.v (.int .i64 k),.v (.int .i64 n),.v (.string s),.sl 4 (dVals ks) none]
def dVals:List Val->List (List DV)
 | []=>[]
 | v :: r=>bD v :: dVals r
end
theorem kO:∀ l:List Val,dVals l=l.map bD
 | []=>rfl
 | v :: r=>by rw [dVals,kO r];all_goals rfl
theorem bK (l:List Val):(dVals l).length=l.length:=by rw [kO,List.length_map]
theorem eF {l:List Val} {e:Nat} {x:Val} (h:l[e]? = some x):(dVals l)[e]? = some (bD x):=by rw [kO,List.getElem?_map,h];all_goals rfl
theorem FX {l:List Val} {e:Nat} {x:Val} (h:l[e]? = some x):dVals (l.take e) ++ [bD x]=dVals (l.take (e + 1)):=by
 rw [kO,kO,List.take_add_one,h];simp
mutual
def Val.wt:Val->Nat
 | .mk _ _ s ks=>64 + s.size + iL ks
def iL:List Val->Nat
 | []=>0
 | v :: r=>v.wt + iL r
end
theorem Val.dP:∀ v:Val,64<=v.wt
 | .mk _ _ _ _=>by rw [Val.wt];omega
theorem gH:∀ {l:List Val} {x:Val},x∈l->x.wt<=iL l
 | v :: r,x,h=>by
  rcases cr h with rfl | h
  ·rw [iL];omega
  ·have:=gH h;rw [iL];omega
theorem dV:∀ l:List Val,64 * l.length<=iL l
 | []=>aW _
 | v :: r=>by
  have:=dV r;have:=v.dP;rw [iL,List.length_cons];omega
mutual
def C7:Val->Nat
 | .mk _ _ _ ks=>1 + kP ks
def kP:List Val->Nat
 | []=>0
 | v :: r=>C7 v + kP r
end
mutual
def xU:Val->Nat
 | .mk _ _ _ ks=>gY ks + 1
def gY:List Val->Nat
 | []=>0
 | v :: r=>max (xU v) (gY r)
end
mutual
theorem HL:∀ v:Val,C7 v<=v.wt/\xU v<=v.wt
 | .mk _ _ _ ks=>by
  have:=wh ks;rw [C7,xU,Val.wt];omega
theorem wh:∀ l:List Val,kP l<=iL l/\gY l<=iL l
 | []=>⟨aW _,aW _⟩
 | v :: r=>by
  have h1:=HL v;have h2:=wh r;rw [kP,gY,iL];omega
end
theorem wi:∀ (l:List Val) (x:Val),kP (l ++ [x])=kP l + C7 x
 | [],x=>by simp [kP]
 | v :: r,x=>by rw [List.cons_append,kP,kP,wi r];omega
theorem wj:∀ (l:List Val) (x:Val),gY (l ++ [x])=max (gY l) (xU x)
 | [],x=>by simp [gY]
 | v :: r,x=>by rw [List.cons_append,gY,gY,wj r];omega
theorem rW {α:Type} {l:List α} {e:Nat} {x:α} (h:l[e]? = some x):l.take (e + 1)=l.take e ++ [x]:=by rw [List.take_add_one,h];all_goals rfl
theorem FY (l:List Val):∀ e,kP (l.take e)<=iL l/\gY (l.take e)<=iL l:=fun e=>by
 have h1:=wh (l.take e)
 have h2:∀ (l:List Val) e,iL (l.take e)<=iL l:=by
  intro l
  induction l with
  | nil=>intro e;simp [iL]
  | cons v r ih=>
   intro e
   cases e with
   | zero=>simp [iL]
   | succ e=>have:=ih e;simp only [List.take_succ_cons,iL];omega
 have:=h2 l e;omega
abbrev szSt (v:Val) (n d e:Nat):St:=
 ⟨[aD 1 0,au 4 n,au 5 d,au 6 e],[bD v],[]⟩
theorem sI:∀ (k:Nat) (v:Val),v.wt<=k->v.wt<=1099511627776->EvP prog 19 [.agg (bD v)] (.tup [.v (.int .i64 (C7 v:Nat)),.v (.int .i64 (xU v:Nat))])
 | 0,v,h,_=>by have:=v.dP;omega
 | k + 1,.mk q n s ks,h,hb=>by
  have ih:=sI k;have cw:=bK ks;have nN:=dV ks;have mc:=FY ks;rw [Val.wt] at h hb;rw [C7,xU];refine eG 35 [.tmp 2,.tmp 3] func19 rfl ntmps19 rfl fun _ _ _ _=>?_;refine lJ (fun e=>szSt (.mk q n s ks) (1 + kP (ks.take e)) (gY (ks.take e)) e) ks.length (wkM wB) ?_;intro e he;refine br ?_ ?_<;>intro hL
  ·have av:e < ks.length:=by have:=hL;simp [cw] at this;exact this
   obtain ⟨x,hx⟩:=gX av;have Ug:=gH (mG hx);have hc:=wi (ks.take e) x;have hd:=wj (ks.take e) x;rw [<- rW hx] at hc hd;have h1:=mc (e + 1);have hi:=ih x (by omega) (by omega);have hcx:=HL x;obtain ⟨xk,xn,xs,xl⟩:=x;refine iX (eF hx) ?_;refine cP WG hi ?_;have hw:IntKind.i64.wrap (((1 + kP (ks.take e):Nat):Int) + ((C7 (.mk xk xn xs xl):Nat):Int))=((1 + kP (ks.take (e + 1)):Nat):Int):=by rw [wrap64 (by omega) (by omega)];omega
   refine br ?_ ?_<;>intro g
   ·have g:gY (ks.take e) < xU (.mk xk xn xs xl):=sU g;have ED:((xU (.mk xk xn xs xl):Nat):Int)=((gY (ks.take (e + 1)):Nat):Int):=by omega
    exact rE ⟨_,by omega,e + 1,rfl,by omega,rfl⟩ (wkM (Oh hw ED (nxt av (by omega))))
   ·have g:¬ gY (ks.take e) < xU (.mk xk xn xs xl):=sU g;have ED:((gY (ks.take e):Nat):Int)=((gY (ks.take (e + 1)):Nat):Int):=by omega
    exact rE ⟨_,by omega,e + 1,rfl,by omega,rfl⟩ (wkM (Oh hw ED (nxt av (by omega))))
  ·have hge:e=ks.length:=sW cw hL;subst hge;have h1:=mc ks.length;rw [List.take_length] at h1 ⊢;have hw:IntKind.i64.wrap (((gY ks:Nat):Int) + 1)=((gY ks + 1:Nat):Int):=by rw [wrap64 (by omega) (by omega)];omega
   refine ⟨_,(o0 hw),rfl⟩
theorem C8:prog.cellsOf 34=4:=by kernel_rfl
end Go.Proofs.YtphonmiflfhdbaaGreat
namespace Go.Proofs.YtphonmiflfhdbaaGreat
open Go Go.RowKit Dv
def tyVS:List TypeId:=[34,32,9,3]
theorem tyVS_ok:∀ t∈tyVS,lB Tryz.prog tyVS t=true:=by
 have h:(tyVS.all fun t=>lB Tryz.prog tyVS t)=true:=by kernel_rfl
 exact fun t ht=>List.all_eq_true.1 h t ht
end Go.Proofs.YtphonmiflfhdbaaGreat
set_option maxRecDepth 100000
namespace Go.Proofs.YtphonmiflfhdbaaGreat
open Go Go.RowKit Dv Go.Proofs.Tryz
def aY (n u:Int):Int × Bool:=if u < 1 then (0,false) else if n - n % u < -9223372036854775808 then (0,false) else (n - n % u,true)
def wm (r:Int × Bool):DV:=.tup [.v (.int .i64 r.1),.v (.bool r.2)]
theorem qg {n u:Int} (hu:1<=u):(n.tmod u < 0->n.tmod u + u=n % u)/\(¬ n.tmod u < 0->n.tmod u=n % u):=by
 have h1:=Int.emod_nonneg n (show u≠0 by omega);have h2:=Int.emod_lt_of_pos n (show 0 < u by omega);have h3:=Int.tmod_eq_emod (a:=n) (b:=u);have h4:(u.natAbs:Int)=u:=Int.natAbs_of_nonneg (by omega);rw [h3];split<;>omega
theorem lS (n u:Int) (hn : -9223372036854775808<=n/\n<=9223372036854775807) (hu : -9223372036854775808<=u/\u<=9223372036854775807):EvP prog 156 [.v (.int .i64 n),.v (.int .i64 u)] (wm (aY n u)):=by
 have hF:aY n u=if u < 1 then (0,false) else if n - n % u < -9223372036854775808 then (0,false) else (n - n % u,true):=rfl
 generalize aY n u=F at hF ⊢;refine eG 24 [.tmp 4,.tmp 5] func156 rfl ntmps156 rfl fun _ _ _ _=>?_;refine br ?_ ?_<;>intro c
 ·have c:u < 1:=sU c;rw [ai c] at hF;subst hF;exact ⟨_,ax,rfl⟩
 have c:¬ u < 1:=sU c;rw [ah c] at hF;have hm:=qg (n:=n) (u:=u) (by omega);have h1:=Int.emod_nonneg n (show u≠0 by omega);have h2:=Int.emod_lt_of_pos n (show 0 < u by omega);have h5 : -u<=n.tmod u/\n.tmod u < u:=by omega
 have Ij:IntKind.i64.wrap (-9223372036854775808 + n % u) = -9223372036854775808 + n % u:=wrap64 (by omega) (by omega);refine ⟨⟨rfl,by omega⟩,?_⟩;refine br ?_ ?_<;>intro g
 ·have g:n.tmod u < 0:=sU g;have hw2:IntKind.i64.wrap (n.tmod u + u)=n % u:=by rw [hm.1 g];exact wrap64 (by omega) (by omega)
  refine br ?_ ?_<;>intro h
  ·have h:n < IntKind.i64.wrap (-9223372036854775808 + IntKind.i64.wrap (n.tmod u + u)):=sU h;rw [hw2,Ij] at h;rw [ai (by omega)] at hF;subst hF;exact ⟨_,ax,rfl⟩
  ·have h:¬ n < IntKind.i64.wrap (-9223372036854775808 + IntKind.i64.wrap (n.tmod u + u)):=sU h;rw [hw2,Ij] at h;rw [ah (by omega)] at hF;have qI:IntKind.i64.wrap (n - IntKind.i64.wrap (n.tmod u + u))=n - n % u:=by rw [hw2];exact wrap64 (by omega) (by omega)
   refine ⟨.tup [.v (.int .i64 (IntKind.i64.wrap (n - IntKind.i64.wrap (n.tmod u + u)))),.v (.bool true)],ax,?_⟩;rw [hF];exact congrArg (fun z=>DV.tup [.v (.int .i64 z),.v (.bool true)]) qI
 ·have g:¬ n.tmod u < 0:=sU g;have hw2:n.tmod u=n % u:=hm.2 g;refine br ?_ ?_<;>intro h
  ·have h:n < IntKind.i64.wrap (-9223372036854775808 + n.tmod u):=sU h;rw [hw2,Ij] at h;rw [ai (by omega)] at hF;subst hF;exact ⟨_,ax,rfl⟩
  ·have h:¬ n < IntKind.i64.wrap (-9223372036854775808 + n.tmod u):=sU h;rw [hw2,Ij] at h;rw [ah (by omega)] at hF;have qI:IntKind.i64.wrap (n - n.tmod u)=n - n % u:=by rw [hw2];exact wrap64 (by omega) (by omega)
   refine ⟨.tup [.v (.int .i64 (IntKind.i64.wrap (n - n.tmod u))),.v (.bool true)],ax,?_⟩;rw [hF];exact congrArg (fun z=>DV.tup [.v (.int .i64 z),.v (.bool true)]) qI
theorem emod_le {a u:Int} (ha:0<=a) (hu:1<=u):a % u<=a:=by
 have h1:=Int.mul_ediv_add_emod a u;have h2:=Int.mul_nonneg (show 0<=u by omega) (Int.ediv_nonneg ha (show 0<=u by omega));omega
theorem tdiv_le {n u:Int} (hu:1<=u):(0<=n.tdiv u->n.tdiv u<=n.tdiv u * u)/\(n.tdiv u<=0->n.tdiv u * u<=n.tdiv u):=by
 constructor
 ·intro h;have:=Int.mul_le_mul_of_nonneg_left hu h
  rwa [Int.mul_one] at this
 ·intro h;have:=Int.mul_le_mul_of_nonneg_left hu (show 0 <= -(n.tdiv u) by omega);rw [Int.mul_one,Int.neg_mul] at this;omega
theorem wo {q u l:Int} (hu:1<=u) (hl:l<=0):q < l.tdiv u↔q * u < l:=by
 have h1:=Int.mul_tdiv_add_tmod l u;rw [Int.mul_comm] at h1;have hm:=qg (n:=l) (u:=u) hu;have h2:=Int.emod_nonneg l (show u≠0 by omega);have h3:=Int.emod_lt_of_pos l (show 0 < u by omega)
 have h4 : -u < l.tmod u/\l.tmod u<=0:=by
  have h5:(-l).tmod u = -(l.tmod u):=Int.neg_tmod ..;have h6:(-l).tmod u=(-l) % u:=Int.tmod_eq_emod_of_nonneg (by omega);have h7:=Int.emod_nonneg (-l) (show u≠0 by omega);have h8:=Int.emod_lt_of_pos (-l) (show 0 < u by omega);omega
 constructor
 ·intro h;have:=Int.mul_le_mul_of_nonneg_right (a:=q + 1) (b:=l.tdiv u) (c:=u) (by omega) (by omega);rw [Int.add_mul,Int.one_mul] at this;omega
 ·intro h;rcases Int.lt_or_le q (l.tdiv u) with h9 | h9
  ·exact h9
  ·have:=Int.mul_le_mul_of_nonneg_right (a:=l.tdiv u) (b:=q) (c:=u) (by omega) (by omega);omega
theorem qh (n u:Int) (hn : -9223372036854775808<=n/\n<=9223372036854775807) (hu : -9223372036854775808<=u/\u<=9223372036854775807):EvP prog 183 [.v (.int .i64 n),.v (.int .i64 u)] (wm (aY n u)):=by
 have hF:aY n u=if u < 1 then (0,false) else if n - n % u < -9223372036854775808 then (0,false) else (n - n % u,true):=rfl
 generalize aY n u=F at hF ⊢;refine eG 26 [.tmp 4,.tmp 5] func183 rfl ntmps183 rfl fun _ _ _ _=>?_;refine br ?_ ?_<;>intro c
 ·have c:u < 1:=sU c;rw [ai c] at hF;subst hF;exact ⟨_,ax,rfl⟩
 have c:¬ u < 1:=sU c;rw [ah c] at hF;have h1:=Int.emod_nonneg n (show u≠0 by omega);have h2:=Int.emod_lt_of_pos n (show 0 < u by omega);have hT:=Int.mul_tdiv_add_tmod n u;rw [Int.mul_comm] at hT;have hm:=qg (n:=n) (u:=u) (by omega);have hb:=tdiv_le (n:=n) (u:=u) (by omega);have hbl:=tdiv_le (n:=-9223372036854775808) (u:=u) (by omega);have hl:=Int.mul_tdiv_add_tmod (-9223372036854775808) u;rw [Int.mul_comm] at hl;have ey:=qg (n:=-9223372036854775808) (u:=u) (by omega);have hml1:=Int.emod_nonneg (-9223372036854775808) (show u≠0 by omega);have hml2:=Int.emod_lt_of_pos (-9223372036854775808) (show 0 < u by omega)
 have Pk:(0<=n->0<=n.tmod u/\n.tmod u<=n)/\(n<=0->n.tmod u<=0/\n<=n.tmod u):=by
  constructor
  ·intro h;rw [Int.tmod_eq_emod_of_nonneg h];exact ⟨h1,emod_le h (by omega)⟩
  ·intro h;have h5:(-n).tmod u = -(n.tmod u):=Int.neg_tmod ..;rw [Int.tmod_eq_emod_of_nonneg (by omega)] at h5;have h7:=Int.emod_nonneg (-n) (show u≠0 by omega);have h8:=emod_le (show 0 <= -n by omega) (show 1<=u by omega);omega
 have oZ:(-9223372036854775808:Int).tmod u<=0 /\ -9223372036854775808<=(-9223372036854775808:Int).tmod u:=by
  have h5:(-(-9223372036854775808):Int).tmod u = -((-9223372036854775808:Int).tmod u):=Int.neg_tmod ..;rw [Int.tmod_eq_emod_of_nonneg (by omega)] at h5;have h7:=Int.emod_nonneg (-(-9223372036854775808)) (show u≠0 by omega);have h8:=emod_le (show (0:Int) <= -(-9223372036854775808) by omega) (show 1<=u by omega);omega
 have hTr : -9223372036854775808<=n.tdiv u/\n.tdiv u<=9223372036854775807:=by omega
 have hLr : -9223372036854775808<=(-9223372036854775808:Int).tdiv u/\(-9223372036854775808:Int).tdiv u<=9223372036854775807:=by omega
 have hw5:IntKind.i64.wrap ((-9223372036854775808:Int).tdiv u)=(-9223372036854775808:Int).tdiv u:=wrap64 (by omega) (by omega);have hw1:IntKind.i64.wrap (n.tdiv u)=n.tdiv u:=wrap64 (by omega) (by omega);have hw2:IntKind.i64.wrap (IntKind.i64.wrap (n.tdiv u) * u)=n.tdiv u * u:=by rw [hw1];exact wrap64 (by omega) (by omega)
 refine ⟨⟨rfl,by omega⟩,?_⟩;refine br ?_ ?_<;>intro g
 ·have g:n < IntKind.i64.wrap (IntKind.i64.wrap (n.tdiv u) * u):=sU g;rw [hw2] at g;have hR:n.tmod u < 0:=by omega
  have Zo:=hm.1 hR;have hqr : -9223372036854775808<=n.tdiv u - 1:=by omega
  have tf:IntKind.i64.wrap (IntKind.i64.wrap (n.tdiv u) - 1)=n.tdiv u - 1:=by rw [hw1];exact wrap64 hqr (by omega)
  have UE:(n.tdiv u - 1) * u=n - n % u:=by rw [Int.sub_mul,Int.one_mul];omega
  refine ⟨⟨rfl,by omega⟩,?_⟩;refine br ?_ ?_<;>intro h
  ·have h:IntKind.i64.wrap (IntKind.i64.wrap (n.tdiv u) - 1) < IntKind.i64.wrap ((-9223372036854775808:Int).tdiv u):=sU h;rw [hw5,tf,wo (by omega) (by omega),UE] at h;rw [ai (by omega)] at hF;subst hF;exact ⟨_,ax,rfl⟩
  ·have h:¬ IntKind.i64.wrap (IntKind.i64.wrap (n.tdiv u) - 1) < IntKind.i64.wrap ((-9223372036854775808:Int).tdiv u):=sU h;rw [hw5,tf,wo (by omega) (by omega),UE] at h;rw [ah (by omega)] at hF;have qI:IntKind.i64.wrap (IntKind.i64.wrap (IntKind.i64.wrap (n.tdiv u) - 1) * u)=n - n % u:=by rw [tf,UE];exact wrap64 (by omega) (by omega)
   refine ⟨.tup [.v (.int .i64 (IntKind.i64.wrap (IntKind.i64.wrap (IntKind.i64.wrap (n.tdiv u) - 1) * u))),.v (.bool true)],ax,?_⟩;rw [hF];exact congrArg (fun z=>DV.tup [.v (.int .i64 z),.v (.bool true)]) qI
 ·have g:¬ n < IntKind.i64.wrap (IntKind.i64.wrap (n.tdiv u) * u):=sU g;rw [hw2] at g;have hR:¬ n.tmod u < 0:=by omega
  have Zo:=hm.2 hR;have tf:=hw1;have UE:n.tdiv u * u=n - n % u:=by omega
  refine ⟨⟨rfl,by omega⟩,?_⟩;refine br ?_ ?_<;>intro h
  ·have h:IntKind.i64.wrap (n.tdiv u) < IntKind.i64.wrap ((-9223372036854775808:Int).tdiv u):=sU h;rw [hw5,tf,wo (by omega) (by omega),UE] at h;rw [ai (by omega)] at hF;subst hF;exact ⟨_,ax,rfl⟩
  ·have h:¬ IntKind.i64.wrap (n.tdiv u) < IntKind.i64.wrap ((-9223372036854775808:Int).tdiv u):=sU h;rw [hw5,tf,wo (by omega) (by omega),UE] at h;rw [ah (by omega)] at hF;have qI:IntKind.i64.wrap (IntKind.i64.wrap (n.tdiv u) * u)=n - n % u:=by rw [tf,UE];exact wrap64 (by omega) (by omega)
   refine ⟨.tup [.v (.int .i64 (IntKind.i64.wrap (IntKind.i64.wrap (n.tdiv u) * u))),.v (.bool true)],ax,?_⟩;rw [hF];exact congrArg (fun z=>DV.tup [.v (.int .i64 z),.v (.bool true)]) qI
def aT (c:Nat):Nat:=if c < 128 then 1 else if 194<=c/\c<=223 then 2 else if 224<=c/\c<=239 then 3 else if 240<=c/\c<=244 then 4 else 0
def gZ (c:Nat):Nat:=if c=224 then 160 else if c=240 then 144 else 128
def hY (c:Nat):Nat:=if c=237 then 159 else if c=244 then 143 else 191
theorem Ju (c:Nat):EvP prog 262 [.v (.int .u8 c)] (.tup [.v (.int .i64 (aT c:Nat)),.v (.int .u8 (gZ c:Nat)),.v (.int .u8 (hY c:Nat))]):=by
 have hN:aT c=if c < 128 then 1 else if 194<=c/\c<=223 then 2 else if 224<=c/\c<=239 then 3 else if 240<=c/\c<=244 then 4 else 0:=rfl
 have hL:gZ c=if c=224 then 160 else if c=240 then 144 else 128:=rfl
 have hH:hY c=if c=237 then 159 else if c=244 then 143 else 191:=rfl
 generalize aT c=N at hN ⊢;generalize gZ c=L at hL ⊢;generalize hY c=H at hH ⊢;refine eG 41 [.tmp 2,.tmp 3,.tmp 4] func262 rfl ntmps262 rfl fun _ _ _ _=>?_;refine br ?_ ?_<;>intro c1
 ·have c1:(c:Int) < 128:=sU c1;refine br ?_ ?_<;>intro g
  ·have g:(c:Int)=224:=sU g
   have hn:N=1:=by
    rw [hN]
    repeat' split
    all_goals omega
   have hl:L=160:=by
    rw [hL]
    repeat' split
    all_goals omega
   have hh:H=191:=by
    rw [hH]
    repeat' split
    all_goals omega
   rw [hn,hl,hh];exact ⟨_,ax,rfl⟩
  have Qg:¬ (c:Int)=224:=sU g;refine br ?_ ?_<;>intro g
  ·have g:(c:Int)=237:=sU g
   have hn:N=1:=by
    rw [hN]
    repeat' split
    all_goals omega
   have hl:L=128:=by
    rw [hL]
    repeat' split
    all_goals omega
   have hh:H=159:=by
    rw [hH]
    repeat' split
    all_goals omega
   rw [hn,hl,hh];exact ⟨_,ax,rfl⟩
  have Qh:¬ (c:Int)=237:=sU g;refine br ?_ ?_<;>intro g
  ·have g:(c:Int)=240:=sU g
   have hn:N=1:=by
    rw [hN]
    repeat' split
    all_goals omega
   have hl:L=144:=by
    rw [hL]
    repeat' split
    all_goals omega
   have hh:H=191:=by
    rw [hH]
    repeat' split
    all_goals omega
   rw [hn,hl,hh];exact ⟨_,ax,rfl⟩
  have Qi:¬ (c:Int)=240:=sU g;refine br ?_ ?_<;>intro g
  ·have g:(c:Int)=244:=sU g
   have hn:N=1:=by
    rw [hN]
    repeat' split
    all_goals omega
   have hl:L=128:=by
    rw [hL]
    repeat' split
    all_goals omega
   have hh:H=143:=by
    rw [hH]
    repeat' split
    all_goals omega
   rw [hn,hl,hh];exact ⟨_,ax,rfl⟩
  have Qj:¬ (c:Int)=244:=sU g
  have hn:N=1:=by
   rw [hN]
   repeat' split
   all_goals omega
  have hl:L=128:=by
   rw [hL]
   repeat' split
   all_goals omega
  have hh:H=191:=by
   rw [hH]
   repeat' split
   all_goals omega
  rw [hn,hl,hh];exact ⟨_,ax,rfl⟩
 have c1:¬ (c:Int) < 128:=sU c1;refine br ?_ ?_<;>intro k
 ·have k:194<=(c:Int)/\(c:Int)<=223:=by simpa [pickB_and] using k
  refine br ?_ ?_<;>intro g
  ·have g:(c:Int)=224:=sU g
   have hn:N=2:=by
    rw [hN]
    repeat' split
    all_goals omega
   have hl:L=160:=by
    rw [hL]
    repeat' split
    all_goals omega
   have hh:H=191:=by
    rw [hH]
    repeat' split
    all_goals omega
   rw [hn,hl,hh];exact ⟨_,ax,rfl⟩
  have Qg:¬ (c:Int)=224:=sU g;refine br ?_ ?_<;>intro g
  ·have g:(c:Int)=237:=sU g
   have hn:N=2:=by
    rw [hN]
    repeat' split
    all_goals omega
   have hl:L=128:=by
    rw [hL]
    repeat' split
    all_goals omega
   have hh:H=159:=by
    rw [hH]
    repeat' split
    all_goals omega
   rw [hn,hl,hh];exact ⟨_,ax,rfl⟩
  have Qh:¬ (c:Int)=237:=sU g;refine br ?_ ?_<;>intro g
  ·have g:(c:Int)=240:=sU g
   have hn:N=2:=by
    rw [hN]
    repeat' split
    all_goals omega
   have hl:L=144:=by
    rw [hL]
    repeat' split
    all_goals omega
   have hh:H=191:=by
    rw [hH]
    repeat' split
    all_goals omega
   rw [hn,hl,hh];exact ⟨_,ax,rfl⟩
  have Qi:¬ (c:Int)=240:=sU g;refine br ?_ ?_<;>intro g
  ·have g:(c:Int)=244:=sU g
   have hn:N=2:=by
    rw [hN]
    repeat' split
    all_goals omega
   have hl:L=128:=by
    rw [hL]
    repeat' split
    all_goals omega
   have hh:H=143:=by
    rw [hH]
    repeat' split
    all_goals omega
   rw [hn,hl,hh];exact ⟨_,ax,rfl⟩
  have Qj:¬ (c:Int)=244:=sU g
  have hn:N=2:=by
   rw [hN]
   repeat' split
   all_goals omega
  have hl:L=128:=by
   rw [hL]
   repeat' split
   all_goals omega
  have hh:H=191:=by
   rw [hH]
   repeat' split
   all_goals omega
  rw [hn,hl,hh];exact ⟨_,ax,rfl⟩
 have k194:¬ (194<=(c:Int)/\(c:Int)<=223):=by simpa [pickB_and] using k
 refine br ?_ ?_<;>intro k
 ·have k:224<=(c:Int)/\(c:Int)<=239:=by simpa [pickB_and] using k
  refine br ?_ ?_<;>intro g
  ·have g:(c:Int)=224:=sU g
   have hn:N=3:=by
    rw [hN]
    repeat' split
    all_goals omega
   have hl:L=160:=by
    rw [hL]
    repeat' split
    all_goals omega
   have hh:H=191:=by
    rw [hH]
    repeat' split
    all_goals omega
   rw [hn,hl,hh];exact ⟨_,ax,rfl⟩
  have Qg:¬ (c:Int)=224:=sU g;refine br ?_ ?_<;>intro g
  ·have g:(c:Int)=237:=sU g
   have hn:N=3:=by
    rw [hN]
    repeat' split
    all_goals omega
   have hl:L=128:=by
    rw [hL]
    repeat' split
    all_goals omega
   have hh:H=159:=by
    rw [hH]
    repeat' split
    all_goals omega
   rw [hn,hl,hh];exact ⟨_,ax,rfl⟩
  have Qh:¬ (c:Int)=237:=sU g;refine br ?_ ?_<;>intro g
  ·have g:(c:Int)=240:=sU g
   have hn:N=3:=by
    rw [hN]
    repeat' split
    all_goals omega
   have hl:L=144:=by
    rw [hL]
    repeat' split
    all_goals omega
   have hh:H=191:=by
    rw [hH]
    repeat' split
    all_goals omega
   rw [hn,hl,hh];exact ⟨_,ax,rfl⟩
  have Qi:¬ (c:Int)=240:=sU g;refine br ?_ ?_<;>intro g
  ·have g:(c:Int)=244:=sU g
   have hn:N=3:=by
    rw [hN]
    repeat' split
    all_goals omega
   have hl:L=128:=by
    rw [hL]
    repeat' split
    all_goals omega
   have hh:H=143:=by
    rw [hH]
    repeat' split
    all_goals omega
   rw [hn,hl,hh];exact ⟨_,ax,rfl⟩
  have Qj:¬ (c:Int)=244:=sU g
  have hn:N=3:=by
   rw [hN]
   repeat' split
   all_goals omega
  have hl:L=128:=by
   rw [hL]
   repeat' split
   all_goals omega
  have hh:H=191:=by
   rw [hH]
   repeat' split
   all_goals omega
  rw [hn,hl,hh];exact ⟨_,ax,rfl⟩
 have k224:¬ (224<=(c:Int)/\(c:Int)<=239):=by simpa [pickB_and] using k
 refine br ?_ ?_<;>intro k
 ·have k:240<=(c:Int)/\(c:Int)<=244:=by simpa [pickB_and] using k
  refine br ?_ ?_<;>intro g
  ·have g:(c:Int)=224:=sU g
   have hn:N=4:=by
    rw [hN]
    repeat' split
    all_goals omega
   have hl:L=160:=by
    rw [hL]
    repeat' split
    all_goals omega
   have hh:H=191:=by
    rw [hH]
    repeat' split
    all_goals omega
   rw [hn,hl,hh];exact ⟨_,ax,rfl⟩
  have Qg:¬ (c:Int)=224:=sU g;refine br ?_ ?_<;>intro g
  ·have g:(c:Int)=237:=sU g
   have hn:N=4:=by
    rw [hN]
    repeat' split
    all_goals omega
   have hl:L=128:=by
    rw [hL]
    repeat' split
    all_goals omega
   have hh:H=159:=by
    rw [hH]
    repeat' split
    all_goals omega
   rw [hn,hl,hh];exact ⟨_,ax,rfl⟩
  have Qh:¬ (c:Int)=237:=sU g;refine br ?_ ?_<;>intro g
  ·have g:(c:Int)=240:=sU g
   have hn:N=4:=by
    rw [hN]
    repeat' split
    all_goals omega
   have hl:L=144:=by
    rw [hL]
    repeat' split
    all_goals omega
   have hh:H=191:=by
    rw [hH]
    repeat' split
    all_goals omega
   rw [hn,hl,hh];exact ⟨_,ax,rfl⟩
  have Qi:¬ (c:Int)=240:=sU g;refine br ?_ ?_<;>intro g
  ·have g:(c:Int)=244:=sU g
   have hn:N=4:=by
    rw [hN]
    repeat' split
    all_goals omega
   have hl:L=128:=by
    rw [hL]
    repeat' split
    all_goals omega
   have hh:H=143:=by
    rw [hH]
    repeat' split
    all_goals omega
   rw [hn,hl,hh];exact ⟨_,ax,rfl⟩
  have Qj:¬ (c:Int)=244:=sU g
  have hn:N=4:=by
   rw [hN]
   repeat' split
   all_goals omega
  have hl:L=128:=by
   rw [hL]
   repeat' split
   all_goals omega
  have hh:H=191:=by
   rw [hH]
   repeat' split
   all_goals omega
  rw [hn,hl,hh];exact ⟨_,ax,rfl⟩
 have k240:¬ (240<=(c:Int)/\(c:Int)<=244):=by simpa [pickB_and] using k
 refine br ?_ ?_<;>intro g
 ·have g:(c:Int)=224:=sU g
  have hn:N=0:=by
   rw [hN]
   repeat' split
   all_goals omega
  have hl:L=160:=by
   rw [hL]
   repeat' split
   all_goals omega
  have hh:H=191:=by
   rw [hH]
   repeat' split
   all_goals omega
  rw [hn,hl,hh];exact ⟨_,ax,rfl⟩
 have Qg:¬ (c:Int)=224:=sU g;refine br ?_ ?_<;>intro g
 ·have g:(c:Int)=237:=sU g
  have hn:N=0:=by
   rw [hN]
   repeat' split
   all_goals omega
  have hl:L=128:=by
   rw [hL]
   repeat' split
   all_goals omega
  have hh:H=159:=by
   rw [hH]
   repeat' split
   all_goals omega
  rw [hn,hl,hh];exact ⟨_,ax,rfl⟩
 have Qh:¬ (c:Int)=237:=sU g;refine br ?_ ?_<;>intro g
 ·have g:(c:Int)=240:=sU g
  have hn:N=0:=by
   rw [hN]
   repeat' split
   all_goals omega
  have hl:L=144:=by
   rw [hL]
   repeat' split
   all_goals omega
  have hh:H=191:=by
   rw [hH]
   repeat' split
   all_goals omega
  rw [hn,hl,hh];exact ⟨_,ax,rfl⟩
 have Qi:¬ (c:Int)=240:=sU g;refine br ?_ ?_<;>intro g
 ·have g:(c:Int)=244:=sU g
  have hn:N=0:=by
   rw [hN]
   repeat' split
   all_goals omega
  have hl:L=128:=by
   rw [hL]
   repeat' split
   all_goals omega
  have hh:H=143:=by
   rw [hH]
   repeat' split
   all_goals omega
  rw [hn,hl,hh];exact ⟨_,ax,rfl⟩
 have Qj:¬ (c:Int)=244:=sU g
 have hn:N=0:=by
  rw [hN]
  repeat' split
  all_goals omega
 have hl:L=128:=by
  rw [hL]
  repeat' split
  all_goals omega
 have hh:H=191:=by
  rw [hH]
  repeat' split
  all_goals omega
 rw [hn,hl,hh];exact ⟨_,ax,rfl⟩
def recV:List UInt8->Int
 | [a]=>a.toNat
 | [a,b]=>(a.toNat - 192) * 64 + (b.toNat - 128)
 | [a,b,c]=>(a.toNat - 224) * 4096 + (b.toNat - 128) * 64 + (c.toNat - 128)
 | [a,b,c,d]=>(a.toNat - 240) * 262144 + (b.toNat - 128) * 4096 + (c.toNat - 128) * 64 + (d.toNat - 128)
 | _=>0
def Qk:List UInt8->Bool
 | [a]=>decide (a.toNat < 128)
 | [a,b]=>decide (192<=a.toNat/\a.toNat < 224/\128<=b.toNat/\b.toNat < 192)
 | [a,b,c]=>decide (224<=a.toNat/\a.toNat < 240/\128<=b.toNat/\b.toNat < 192/\128<=c.toNat/\c.toNat < 192)
 | [a,b,c,d]=>decide (240<=a.toNat/\a.toNat < 248/\128<=b.toNat/\b.toNat < 192/\128<=c.toNat/\c.toNat < 192/\128<=d.toNat/\d.toNat < 192)
 | _=>false
theorem Jv {n:Int} (h1 : -2147483648<=n) (h2:n<=2147483647):IntKind.i32.wrap n=n:=by
 simp [IntKind.wrap,IntKind.min,IntKind.max,IntKind.signed,IntKind.bits];omega
theorem Ql {x:Nat} (h:x < 4294967296):(BitVec.ofInt 32 (x:Int)).toNat=x:=by
 rw [BitVec.toNat_ofInt];omega
theorem M4 {x m:Nat} (k:Nat) (hk:m=2 ^ k - 1) (hm:m < 256) (h:x < 256):IntKind.i32.wrap ((BitVec.ofInt IntKind.i32.bits (IntKind.i32.wrap (x:Int)) &&& BitVec.ofInt IntKind.i32.bits (m:Int)).toNat:Nat)=((x % 2 ^ k:Nat):Int):=by
 rw [Jv (n:=(x:Int)) (by omega) (by omega)];show IntKind.i32.wrap ((BitVec.ofInt 32 (x:Int) &&& BitVec.ofInt 32 (m:Int)).toNat:Nat)=_;rw [BitVec.toNat_and,Ql (by omega),Ql (by omega),hk,Nat.and_two_pow_sub_one_eq_mod];have:=Nat.mod_le x (2 ^ k);exact Jv (by omega) (by omega)
theorem zd {x:Nat} (hx:x < 256):IntKind.i32.wrap (IntKind.u8.wrap ((BitVec.ofInt IntKind.u8.bits (x:Int) &&& BitVec.ofInt IntKind.u8.bits 63).toNat:Nat))=((x % 64:Nat):Int):=by
 show IntKind.i32.wrap (IntKind.u8.wrap ((BitVec.ofInt 8 (x:Int) &&& BitVec.ofInt 8 63).toNat:Nat))=_;have e:(BitVec.ofInt 8 (x:Int)).toNat=x:=by rw [BitVec.toNat_ofInt];omega
 rw [BitVec.toNat_and,e,show (BitVec.ofInt 8 63).toNat=2 ^ 6 - 1 from rfl,Nat.and_two_pow_sub_one_eq_mod];rw [IntKind.wrap_u8'];rw [Jv (by omega) (by omega)];omega
theorem Jw {x y:Nat} (h:x < 1000000) (hy:y < 64):IntKind.i32.wrap ((BitVec.ofInt IntKind.i32.bits (IntKind.i32.wrap ((x:Int) * 2 ^ min (Int.toNat 6) IntKind.i32.bits)) ||| BitVec.ofInt IntKind.i32.bits (y:Int)).toNat:Nat)=((x * 64 + y:Nat):Int):=by
 show IntKind.i32.wrap ((BitVec.ofInt 32 (IntKind.i32.wrap ((x:Int) * 64)) ||| BitVec.ofInt 32 (y:Int)).toNat:Nat)=_;rw [Jv (n:=(x:Int) * 64) (by omega) (by omega),show (x:Int) * 64=((x * 64:Nat):Int) by omega,BitVec.toNat_or,Ql (by omega),Ql (by omega)];have:=Nat.shiftLeft_add_eq_or_of_lt (i:=6) (b:=y) hy x;rw [Nat.shiftLeft_eq] at this
 grind [Jv]
theorem xV {s:ByteArray} {l:List UInt8} (hl:tx s=l) {z:Int} (k:Nat) (hz:z.toNat=k):bd s z.toNat=(l.getD k 0).toNat:=by
 rw [hz,<- hl];all_goals rfl
theorem FZ (s:ByteArray) (h:1<=s.size/\s.size<=4):Ev prog 263 [.v (.string s)] [] [] (fun r _ _=>∃ z:Int,r = .v (.int .i32 z)/\(Qk (tx s)=true->z=recV (tx s))):=by
 have gN:=bR s;refine eG 57 [.tmp 2] func263 rfl ntmps263 rfl fun _ _ _ _=>?_;refine br ?_ ?_<;>intro c1
 ·refine ⟨⟨by omega,by omega⟩,?_⟩;have c1:s.size=1:=by have:=of_decide_eq_true c1;omega
  obtain ⟨a,hl⟩:∃ a,tx s=[a]:=by
   rw [c1] at gN
   match tx s,gN with
   | [a],_=>exact ⟨a,rfl⟩
  refine ⟨_,rfl,fun _=>?_⟩;have ha:=a.toNat_lt;rw [xV hl 0 rfl,hl];exact Jv (by show _<=(a.toNat:Int);omega) (by show (a.toNat:Int)<=_;omega)
 ·refine dI ?_;refine ⟨⟨by omega,by omega⟩,?_⟩;have hw7:IntKind.i64.wrap (7 - (s.size:Int))=7 - s.size:=wrap64 (by omega) (by omega);have hw2:IntKind.i64.wrap (1 + 1)=2:=rfl;have Ij:IntKind.i64.wrap (IntKind.i64.wrap (1 + 1) + 1)=3:=rfl
  have c1:¬ s.size=1:=by
   have:=of_decide_eq_false c1;omega
  refine ⟨by rw [hw7];omega,?_⟩;refine br ?_ ?_<;>intro c4
  ·have c4:s.size=4:=by have:=of_decide_eq_true c4;omega
   refine ⟨by omega,?_⟩;refine ⟨⟨by first | omega | (rw [hw2];omega),by first | omega | (rw [hw2];omega)⟩,?_⟩;refine ⟨by omega,?_⟩;refine ⟨⟨by first | omega | (rw [hw2];omega),by first | omega | (rw [hw2];omega)⟩,?_⟩;refine ⟨by omega,?_⟩;refine ⟨⟨by first | omega | (rw [Ij];omega),by first | omega | (rw [Ij];omega)⟩,?_⟩
   obtain ⟨a,b,c,d,hl⟩:∃ a b c d,tx s=[a,b,c,d]:=by
    rw [c4] at gN
    match tx s,gN with
    | [a,b,c,d],_=>exact ⟨a,b,c,d,rfl⟩
   refine ⟨_,rfl,fun hi=>?_⟩;have ha:=a.toNat_lt;have hb:=b.toNat_lt;have hc:=c.toNat_lt;have hd:=d.toNat_lt;have hm:IntKind.i32.wrap (IntKind.i32.wrap (1 * 2 ^ min (IntKind.i64.wrap (7 - (s.size:Int))).toNat IntKind.i32.bits) - 1)=((7:Nat):Int):=by rw [c4];all_goals rfl
   rw [hm,xV hl 0 rfl,xV hl 1 rfl,xV hl 2 rfl,xV hl 3 rfl];simp only [List.getD_cons_zero,List.getD_cons_succ];rw [M4 3 rfl (by omega) ha,zd hb,Jw (by omega) (by omega),zd hc,Jw (by omega) (by omega),zd hd,Jw (by omega) (by omega)];rw [hl] at hi ⊢;rw [Qk,decide_eq_true_iff] at hi;simp only [recV];omega
  have c4:¬ s.size=4:=by have:=of_decide_eq_false c4;omega
  refine br ?_ ?_<;>intro c3
  ·have c3:s.size=3:=by have:=of_decide_eq_true c3;omega
   refine ⟨by omega,?_⟩;refine ⟨⟨by first | omega | (rw [hw2];omega),by first | omega | (rw [hw2];omega)⟩,?_⟩;refine ⟨by omega,?_⟩;refine ⟨⟨by first | omega | (rw [hw2];omega),by first | omega | (rw [hw2];omega)⟩,?_⟩
   obtain ⟨a,b,c,hl⟩:∃ a b c,tx s=[a,b,c]:=by
    rw [c3] at gN
    match tx s,gN with
    | [a,b,c],_=>exact ⟨a,b,c,rfl⟩
   refine ⟨_,rfl,fun hi=>?_⟩;have ha:=a.toNat_lt;have hb:=b.toNat_lt;have hc:=c.toNat_lt;have hm:IntKind.i32.wrap (IntKind.i32.wrap (1 * 2 ^ min (IntKind.i64.wrap (7 - (s.size:Int))).toNat IntKind.i32.bits) - 1)=((15:Nat):Int):=by rw [c3];all_goals rfl
   rw [hm,xV hl 0 rfl,xV hl 1 rfl,xV hl 2 rfl];simp only [List.getD_cons_zero,List.getD_cons_succ];rw [M4 4 rfl (by omega) ha,zd hb,Jw (by omega) (by omega),zd hc,Jw (by omega) (by omega)];rw [hl] at hi ⊢;rw [Qk,decide_eq_true_iff] at hi;simp only [recV];omega
  have c3:¬ s.size=3:=by have:=of_decide_eq_false c3;omega
  refine br ?_ ?_<;>intro c2
  ·have c2:s.size=2:=by have:=of_decide_eq_true c2;omega
   refine ⟨by omega,?_⟩;refine ⟨⟨by first | omega | (rw [hw2];omega),by first | omega | (rw [hw2];omega)⟩,?_⟩
   obtain ⟨a,b,hl⟩:∃ a b,tx s=[a,b]:=by
    rw [c2] at gN
    match tx s,gN with
    | [a,b],_=>exact ⟨a,b,rfl⟩
   refine ⟨_,rfl,fun hi=>?_⟩;have ha:=a.toNat_lt;have hb:=b.toNat_lt;have hm:IntKind.i32.wrap (IntKind.i32.wrap (1 * 2 ^ min (IntKind.i64.wrap (7 - (s.size:Int))).toNat IntKind.i32.bits) - 1)=((31:Nat):Int):=by rw [c2];all_goals rfl
   rw [hm,xV hl 0 rfl,xV hl 1 rfl];simp only [List.getD_cons_zero,List.getD_cons_succ];rw [M4 5 rfl (by omega) ha,zd hb,Jw (by omega) (by omega)];rw [hl] at hi ⊢;rw [Qk,decide_eq_true_iff] at hi;simp only [recV];omega
  ·exfalso;have:=of_decide_eq_false c2;omega
def je (c i b:Nat):Bool:=if i=0 then decide (gZ c<=b) && decide (b<=hY c) else decide (128<=b) && decide (b<=191)
def allC (c:Nat) (r:List UInt8) (k:Nat):Bool:=(List.range k).all fun i=>match r[i]? with
 | some b=>je c i b.toNat
 | none=>false
theorem Jx (c:Nat) (r:List UInt8) (k:Nat):allC c r (k + 1)=(allC c r k && match r[k]? with | some b=>je c k b.toNat | none=>false):=by grind [allC]
theorem tW {c:Nat} {r:List UInt8} {k n:Nat} (h:k < n) (hk:(match r[k]? with | some b=>je c k b.toNat | none=>false)=false):allC c r n=false:=by grind [allC]
def okU:List UInt8->Bool
 | []=>false
 | c :: r=>decide (1<=aT c.toNat) && allC c.toNat r (aT c.toNat - 1)
def jk:List UInt8->Nat
 | []=>0
 | c :: r=>if okU (c :: r)=true then aT c.toNat else 1
theorem UF {c:UInt8} {r:List UInt8} (h:okU (c :: r)=true):Qk ((c :: r).take (aT c.toNat))=true:=by
 unfold okU at h;rw [aO,decide_eq_true_iff] at h;obtain ⟨h1,h2⟩:=h;have hb:∀ i,i < aT c.toNat - 1->∃ b:UInt8,r[i]? = some b/\128<=b.toNat/\b.toNat < 192:=fun i hi=>by grind [allC,je,gZ,hY]
 have hn:(aT c.toNat=1/\c.toNat < 128)∨(aT c.toNat=2/\192<=c.toNat/\c.toNat < 224)∨(aT c.toNat=3/\224<=c.toNat/\c.toNat < 240)∨(aT c.toNat=4/\240<=c.toNat/\c.toNat < 248):=by grind [aT]
 rcases hn with ⟨hn,hc⟩ | ⟨hn,hc⟩ | ⟨hn,hc⟩ | ⟨hn,hc⟩<;>rw [hn] at hb ⊢
 ·simp [Qk,hc]
 ·obtain ⟨b,h5,h6⟩:=hb 0 (by omega)
  match r,h5 with
  | x :: r,h5=>grind [Qk]
 ·obtain ⟨b,h5,h6⟩:=hb 0 (by omega);obtain ⟨b',h7,h8⟩:=hb 1 (by omega)
  match r,h5,h7 with
  | x :: y :: r,h5,h7=>grind [Qk]
 ·obtain ⟨b,h5,h6⟩:=hb 0 (by omega);obtain ⟨b',h7,h8⟩:=hb 1 (by omega);obtain ⟨b2,h9,kA⟩:=hb 2 (by omega)
  match r,h5,h7,h9 with
  | x :: y :: v :: r,h5,h7,h9=>simp_all [Qk]
set_option maxHeartbeats 4000000 in
theorem Jy (s:ByteArray) (aE:Nat) (hs:s.size<=1099511627776) (c:UInt8) (r:List UInt8) (h:(tx s).drop aE=c :: r) :
  Ev prog 233 [.v (.string s),.v (.int .i64 aE)] [] [] (fun d _ _=>∃ (z:Int) (n:Nat),d = .tup [.v (.int .i32 z),.v (.int .i64 n),.v (.bool (okU (c :: r)))]/\(okU (c :: r)=true->n=aT c.toNat/\z=recV ((c :: r).take n))/\1<=n):=by
 have hlen:aE < s.size:=by
  have:=congrArg List.length h;rw [List.length_drop,bR] at this;simp at this;omega
 have hB:tx (s.extract (aE:Int).toNat (s.size:Int).toNat)=c :: r:=by
  rw [<- h];simp [tx,iT];exact List.take_of_length_le (by rw [List.length_drop];have:=bR s;unfold tx at this;omega)
 have bL:(s.extract (aE:Int).toNat (s.size:Int).toNat).size=r.length + 1:=by rw [<- bR,hB];all_goals rfl
 have Oc:∀ (k:Nat) b,r[k]? = some b->bd (s.extract (aE:Int).toNat (s.size:Int).toNat) (k + 1)=b.toNat:=fun k b hk=>by
  show ((tx _).getD (k + 1) 0).toNat=_;rw [hB];simp [eM,hk]
 have PK:EvP prog 262 [.v (.int .u8 (bd (s.extract (aE:Int).toNat (s.size:Int).toNat) 0:Nat))] (.tup [.v (.int .i64 (aT c.toNat:Nat)),.v (.int .u8 (gZ c.toNat:Nat)),.v (.int .u8 (hY c.toNat:Nat))]):=by
  have:bd (s.extract (aE:Int).toNat (s.size:Int).toNat) 0=c.toNat:=by
   show ((tx _).getD 0 0).toNat=_;rw [hB];rfl
  rw [this];exact Ju c.toNat
 have hv:=fun (k:Nat) (h1:1<=k) (h2:k<=4) (h3:k<=r.length + 1)=>FZ ((s.extract (aE:Int).toNat (s.size:Int).toNat).extract 0 k) (by
  have:((s.extract (aE:Int).toNat (s.size:Int).toNat).extract 0 k).size=k:=by
   rw [ByteArray.size_extract,bL];omega
  omega)
 have hu:okU (c :: r)=(decide (1<=aT c.toNat) && allC c.toNat r (aT c.toNat - 1)):=rfl;have xN:=UF (c:=c) (r:=r);generalize okU (c :: r)=U at hu xN ⊢
 have hn4:aT c.toNat<=4:=by
  unfold aT
  repeat' split
  all_goals omega
 refine eG 60 [.tmp 4,.tmp 5,.tmp 6] func233 rfl ntmps233 rfl fun _ _ _ _=>?_;refine br (fun c=>absurd c (by simp [aj];omega)) (fun _=>?_);refine ⟨⟨by omega,by omega,by omega⟩,?_⟩;refine ⟨⟨by omega,by rw [bL];omega⟩,?_⟩;refine cP X2 PK ?_;refine br ?_ ?_<;>intro g
 ·have g:aT c.toNat=0:=by have:=of_decide_eq_true g;omega
  have bF:U=false:=by rw [hu,g];all_goals rfl
  subst bF;exact ⟨.tup [.v (.int .i32 0),.v (.int .i64 (1:Nat)),.v (.bool false)],ax,0,1,rfl,fun h=>(by cases h),by omega⟩
 have g:1<=aT c.toNat:=by have:=of_decide_eq_false g;omega
 refine aP (fun j st=>∃ i:Nat,st=⟨[(0,⟨[],.v (.string (s.extract (aE:Int).toNat (s.size:Int).toNat))⟩),au 7 (aT c.toNat:Nat),(8,⟨[],.v (.int .u8 ((if i=0 then gZ c.toNat else 128:Nat):Int))⟩),(9,⟨[],.v (.int .u8 ((if i=0 then hY c.toNat else 191:Nat):Int))⟩),au 10 ((i + 1:Nat):Int)],[],[]⟩/\i + 1<=aT c.toNat/\allC c.toNat r i=true/\j=aT c.toNat - (i + 1)) (aT c.toNat - (0 + 1))
  ⟨[(0,⟨[],.v (.string (s.extract (aE:Int).toNat (s.size:Int).toNat))⟩),au 7 (aT c.toNat:Nat),(8,⟨[],.v (.int .u8 ((if 0=0 then gZ c.toNat else 128:Nat):Int))⟩),(9,⟨[],.v (.int .u8 ((if 0=0 then hY c.toNat else 191:Nat):Int))⟩),au 10 ((0 + 1:Nat):Int)],[],[]⟩ (wkM gR) ⟨0,rfl,by omega,rfl,by omega⟩ ?_
 rintro j st ⟨i,rfl,hi,ha,rfl⟩;refine br ?_ ?_<;>intro hL
 ·have av:i + 1 < aT c.toNat:=by have:=of_decide_eq_true hL;omega
  refine br ?_ ?_<;>intro k
  ·have k:i < r.length:=by
    have:=k;have nM:(s.extract aE s.size).size=r.length + 1:=bL;simp [nM] at this;omega
   obtain ⟨b,hb⟩:∃ b,r[i]? = some b:=⟨_,gE k⟩;have Vn:=Oc i b hb;refine ⟨⟨by omega,by rw [bL];omega⟩,?_⟩
   have Yb:je c.toNat i b.toNat=(decide ((if i=0 then gZ c.toNat else 128)<=b.toNat) && decide (b.toNat<=(if i=0 then hY c.toNat else 191))):=by
    unfold je;split<;>rfl
   have has:=Jx c.toNat r i;rw [ha,hb,Bool.true_and] at has;simp only [Yb] at has;have e:bd (s.extract (aE:Int).toNat (s.size:Int).toNat) (((i + 1:Nat):Int)).toNat=b.toNat:=Vn;refine br ?_ ?_<;>intro k2
   ·have k2:(if i=0 then gZ c.toNat else 128)<=b.toNat:=by
     have k3:=k2;rw [e] at k3;generalize (if i=0 then gZ c.toNat else 128)=lo at k3 ⊢;simp [aj] at k3;omega
    refine ⟨⟨by omega,by rw [bL];omega⟩,?_⟩;refine br ?_ ?_<;>intro k4
    ·have k4:¬ b.toNat<=(if i=0 then hY c.toNat else 191):=by
      have k3:=k4;rw [e] at k3;generalize (if i=0 then hY c.toNat else 191)=hi at k3 ⊢;simp [aj] at k3;omega
     have hf:=tW (c:=c.toNat) (r:=r) (k:=i) (n:=aT c.toNat - 1) (by omega) (by rw [hb];simp only [Yb];simp [k4]);rw [hf,Bool.and_false] at hu;subst hu;exact ⟨.tup [.v (.int .i32 0),.v (.int .i64 ((i + 1:Nat):Int)),.v (.bool false)],ax,0,i + 1,rfl,fun h=>(by cases h),by omega⟩
    ·have k4:b.toNat<=(if i=0 then hY c.toNat else 191):=by
      have k3:=k4;rw [e] at k3;generalize (if i=0 then hY c.toNat else 191)=hi at k3 ⊢;simp [aj] at k3;omega
     rw [decide_eq_true k2,decide_eq_true k4] at has;exact rE ⟨_,by omega,i + 1,rfl,by omega,has,rfl⟩ (wkM (wB1 (nxt av (by omega))))
   ·have k2:¬ (if i=0 then gZ c.toNat else 128)<=b.toNat:=by
     have k3:=k2;rw [e] at k3;generalize (if i=0 then gZ c.toNat else 128)=lo at k3 ⊢;simp [aj] at k3;omega
    have hf:=tW (c:=c.toNat) (r:=r) (k:=i) (n:=aT c.toNat - 1) (by omega) (by rw [hb];simp only [Yb];simp [k2]);rw [hf,Bool.and_false] at hu;subst hu;exact ⟨.tup [.v (.int .i32 0),.v (.int .i64 ((i + 1:Nat):Int)),.v (.bool false)],ax,0,i + 1,rfl,fun h=>(by cases h),by omega⟩
  ·have k:r.length<=i:=by
    have:=k;have nM:(s.extract aE s.size).size=r.length + 1:=bL;simp [nM] at this;omega
   have hf:=tW (c:=c.toNat) (r:=r) (k:=i) (n:=aT c.toNat - 1) (by omega) (by rw [nR k]);rw [hf,Bool.and_false] at hu;subst hu;exact ⟨.tup [.v (.int .i32 0),.v (.int .i64 ((i + 1:Nat):Int)),.v (.bool false)],ax,0,i + 1,rfl,fun h=>(by cases h),by omega⟩
 ·have hge:i + 1=aT c.toNat:=by have:=of_decide_eq_false hL;omega
  have hu1:U=true:=by
   rw [hu,<- hge];simp [ha]
  subst hu1
  have fy:aT c.toNat<=r.length + 1:=by
   rcases Nat.lt_or_ge r.length (aT c.toNat - 1) with h | h
   ·have hf:=tW (c:=c.toNat) (r:=r) (k:=r.length) (n:=aT c.toNat - 1) h (by rw [nR (aW _)]);rw [<- hge,Nat.add_sub_cancel,ha] at hf;cases hf
   ·omega
  have hv:=hv (aT c.toNat) (by omega) hn4 fy;refine ⟨⟨by omega,by omega,by rw [bL];omega⟩,?_⟩;refine bG X3 rfl hv ax (fun q hq=>?_);obtain ⟨z,rfl,hz⟩:=hq;rw [show tx ((s.extract (aE:Int).toNat (s.size:Int).toNat).extract 0 (aT c.toNat))=(c :: r).take (aT c.toNat) from by rw [<- hB,(by simp [tx]:∀ (B:ByteArray) k,tx (B.extract 0 k)=(tx B).take k)]] at hz;exact ⟨.tup [.v (.int .i32 z),.v (.int .i64 (aT c.toNat:Nat)),.v (.bool true)],ax,z,aT c.toNat,rfl,fun _=>⟨rfl,hz (xN rfl)⟩,by omega⟩
def recC (l:List UInt8) (e j:Nat):Int:=if j < e then ((l.getD j 0).toNat:Int) - 128 else 0
abbrev C9 (l:List UInt8) (e:Nat):List DV:=[.v (.int .i64 (recC l e 0)),.v (.int .i64 (recC l e 1)),.v (.int .i64 (recC l e 2)),.v (.int .i64 (recC l e 3))]
abbrev ZJ (s:ByteArray) (e:Nat):St:=⟨[(0,⟨[],.v (.string s)⟩),aD 3 0,au 4 e],[C9 (tx s) e],[]⟩
theorem M5 (l:List UInt8) (e:Nat) (h:e < 4) (z:Int) (hz:z=((l.getD e 0).toNat:Int) - 128):(C9 l e).set e (.v (.int .i64 z))=C9 l (e + 1):=by
 subst hz;have c:e=0∨e=1∨e=2∨e=3:=by omega
 rcases c with rfl | rfl | rfl | rfl<;>simp [C9,recC]
theorem HM {n m:Nat} {tk:List TkE} {l:List DV} {bs:List UInt8} {e:Nat} (h:l=C9 bs e):WeL n m tk l (C9 bs e):=by
 subst h;exact ⟨_,_,rfl,aA rfl,_,_,rfl,aA rfl,_,_,rfl,aA rfl,_,_,rfl,aA rfl,rfl⟩
theorem rec_1 (a:UInt8):IntKind.i64.wrap (((a.toNat:Int) - 128) + 128)=recV [a]:=by
 have ga:=a.toNat_lt
 grind [recV,wrap64]
theorem rec_2 (a b:UInt8):IntKind.i64.wrap (IntKind.i64.wrap (IntKind.i64.wrap (((a.toNat:Int) - 128) - 64) * 64) + ((b.toNat:Int) - 128))=recV [a,b]:=by
 have ga:=a.toNat_lt;have gb:=b.toNat_lt
 grind [recV,wrap64]
theorem rec_3 (a b c:UInt8):IntKind.i64.wrap (IntKind.i64.wrap (IntKind.i64.wrap (IntKind.i64.wrap (((a.toNat:Int) - 128) - 96) * 4096) + IntKind.i64.wrap (((b.toNat:Int) - 128) * 64)) + ((c.toNat:Int) - 128))=recV [a,b,c]:=by
 have ga:=a.toNat_lt;have gb:=b.toNat_lt;have gc:=c.toNat_lt
 grind [recV,wrap64]
theorem rec_4 (a b c d:UInt8):IntKind.i64.wrap (IntKind.i64.wrap (IntKind.i64.wrap (IntKind.i64.wrap (IntKind.i64.wrap (((a.toNat:Int) - 128) - 112) * 262144) + IntKind.i64.wrap (((b.toNat:Int) - 128) * 4096)) + IntKind.i64.wrap (((c.toNat:Int) - 128) * 64)) + ((d.toNat:Int) - 128))=recV [a,b,c,d]:=by
 have ga:=a.toNat_lt;have gb:=b.toNat_lt;have gc:=c.toNat_lt;have gd:=d.toNat_lt
 grind [recV,wrap64]
theorem oM (s:ByteArray) (h:1<=s.size/\s.size<=4):EvP prog 255 [.v (.string s)] (.v (.int .i64 (recV (tx s)))):=by
 have gN:=bR s;refine eG 63 [.tmp 2] func255 rfl ntmps255 rfl fun _ _ _ _=>?_;refine lJ (fun e=>ZJ s e) s.size (wkB 1 kZ gR) ?_;intro e he;refine br ?_ ?_<;>intro hL
 ·have av:e < s.size:=by have:=of_decide_eq_true hL;omega
  refine ⟨⟨by omega,by omega⟩,?_⟩;refine ⟨⟨by omega,by omega⟩,?_⟩;have hb:bd s e=((tx s).getD e 0).toNat:=rfl
  have hz:IntKind.i64.wrap (IntKind.i64.wrap (bd s ((e:Int).toNat):Nat) - 128)=(((tx s).getD e 0).toNat:Int) - 128:=by
   have h1:=((tx s).getD e 0).toNat_lt;have h2:bd s ((e:Int).toNat)=((tx s).getD e 0).toNat:=rfl;rw [h2,wrap64 (n:=(((tx s).getD e 0).toNat:Int)) (by omega) (by omega)];exact wrap64 (by omega) (by omega)
  have cV:(C9 (tx s) e).set (0 + (e:Int).toNat * 1) (.v (.int .i64 (IntKind.i64.wrap (IntKind.i64.wrap (bd s ((e:Int).toNat):Nat) - 128))))=C9 (tx s) (e + 1):=by grind [M5]
  refine ⟨by simp;omega,?_⟩;exact rE ⟨_,by omega,e + 1,rfl,by omega,rfl⟩ (wkB 1 (by repeat' (first | exact rfl | exact aA rfl | exact HM cV | exact aC (nxt av (by omega)) | refine ⟨_,_,rfl,?_,?_⟩)) (by repeat' (first | exact trivial | exact aA rfl | exact HM cV | exact aC (nxt av (by omega)) | refine ⟨⟨_,rfl,?_⟩,?_⟩)))
 ·have hge:e=s.size:=by have:=of_decide_eq_false hL;omega
  subst hge;refine br ?_ ?_<;>intro cn
  ·have cn:s.size=1:=by have:=of_decide_eq_true cn;omega
   obtain ⟨a,hl⟩:∃ a,tx s=[a]:=by
    rw [cn] at gN
    match tx s,gN with
    | [a],_=>exact ⟨a,rfl⟩
   have ha:recC (tx s) s.size 0=(a.toNat:Int) - 128:=by rw [hl,cn];all_goals rfl
   have ga:=a.toNat_lt;refine ⟨⟨by omega,by omega⟩,?_⟩;refine (qY ?_:);rw [ha,hl];exact rec_1 a
  have c1:¬ s.size=1:=by have:=of_decide_eq_false cn;omega
  refine br ?_ ?_<;>intro cn
  ·have cn:s.size=2:=by have:=of_decide_eq_true cn;omega
   obtain ⟨a,b,hl⟩:∃ a b,tx s=[a,b]:=by
    rw [cn] at gN
    match tx s,gN with
    | [a,b],_=>exact ⟨a,b,rfl⟩
   have ha:recC (tx s) s.size 0=(a.toNat:Int) - 128:=by rw [hl,cn];all_goals rfl
   have ga:=a.toNat_lt;have hb:recC (tx s) s.size 1=(b.toNat:Int) - 128:=by rw [hl,cn];all_goals rfl
   have gb:=b.toNat_lt;refine ⟨⟨by omega,by omega⟩,?_⟩;refine ⟨⟨by omega,by omega⟩,?_⟩;refine (qY ?_:);rw [ha,hb,hl];exact rec_2 a b
  have c2:¬ s.size=2:=by have:=of_decide_eq_false cn;omega
  refine br ?_ ?_<;>intro cn
  ·have cn:s.size=3:=by have:=of_decide_eq_true cn;omega
   obtain ⟨a,b,c,hl⟩:∃ a b c,tx s=[a,b,c]:=by
    rw [cn] at gN
    match tx s,gN with
    | [a,b,c],_=>exact ⟨a,b,c,rfl⟩
   have ha:recC (tx s) s.size 0=(a.toNat:Int) - 128:=by rw [hl,cn];all_goals rfl
   have ga:=a.toNat_lt;have hb:recC (tx s) s.size 1=(b.toNat:Int) - 128:=by rw [hl,cn];all_goals rfl
   have gb:=b.toNat_lt;have hc:recC (tx s) s.size 2=(c.toNat:Int) - 128:=by rw [hl,cn];all_goals rfl
   have gc:=c.toNat_lt;refine ⟨⟨by omega,by omega⟩,?_⟩;refine ⟨⟨by omega,by omega⟩,?_⟩;refine ⟨⟨by omega,by omega⟩,?_⟩;refine (qY ?_:);rw [ha,hb,hc,hl];exact rec_3 a b c
  have c3:¬ s.size=3:=by have:=of_decide_eq_false cn;omega
  have cn:s.size=4:=by omega
  obtain ⟨a,b,c,d,hl⟩:∃ a b c d,tx s=[a,b,c,d]:=by
   rw [cn] at gN
   match tx s,gN with
   | [a,b,c,d],_=>exact ⟨a,b,c,d,rfl⟩
  have ha:recC (tx s) s.size 0=(a.toNat:Int) - 128:=by rw [hl,cn];all_goals rfl
  have ga:=a.toNat_lt;have hb:recC (tx s) s.size 1=(b.toNat:Int) - 128:=by rw [hl,cn];all_goals rfl
  have gb:=b.toNat_lt;have hc:recC (tx s) s.size 2=(c.toNat:Int) - 128:=by rw [hl,cn];all_goals rfl
  have gc:=c.toNat_lt;have hd:recC (tx s) s.size 3=(d.toNat:Int) - 128:=by rw [hl,cn];all_goals rfl
  have gd:=d.toNat_lt;refine ⟨⟨by omega,by omega⟩,?_⟩;refine ⟨⟨by omega,by omega⟩,?_⟩;refine ⟨⟨by omega,by omega⟩,?_⟩;refine ⟨⟨by omega,by omega⟩,?_⟩;refine (qY ?_:);rw [ha,hb,hc,hd,hl];exact rec_4 a b c d
def l4 (z:Int):Bool:=decide (0<=z) && decide (z<=1114111) && (decide (z < 55296) || decide (57343 < z))
theorem sJ (z:Int):EvP prog 256 [.v (.int .i32 z)] (.v (.bool (l4 z))):=by
 refine eG 17 [.tmp 2] func256 rfl ntmps256 rfl fun _ _ _ _=>?_;refine (bo ?_:);simp only [pickB_and,aj,l4]
def Da (n:Nat):List UInt8:=
 if n < 128 then [UInt8.ofNat n] else if n < 2048 then [UInt8.ofNat (192 + n / 64),UInt8.ofNat (128 + n % 64)]
 else if n < 65536 then [UInt8.ofNat (224 + n / 4096),UInt8.ofNat (128 + n / 64 % 64),UInt8.ofNat (128 + n % 64)]
 else [UInt8.ofNat (240 + n / 262144),UInt8.ofNat (128 + n / 4096 % 64),UInt8.ofNat (128 + n / 64 % 64),UInt8.ofNat (128 + n % 64)]
def Db (z:Int):List UInt8:=if l4 z=true then Da z.toNat else []
theorem b8 {x:Int} {k:Nat} (hx:x=k) (hk:k < 256):IntKind.u8.wrap x=((UInt8.ofNat k).toNat:Int):=by
 rw [hx,UInt8.toNat_ofNat',IntKind.wrap_u8'];omega
theorem UG {n k:Nat} (hn:n<=1114111):IntKind.i64.wrap ((n:Int).tdiv (k:Int))=((n / k:Nat):Int):=by
 rw [Int.tdiv_eq_ediv_of_nonneg (by omega),<- Int.natCast_ediv];have:=Nat.div_le_self n k
 grind [wrap64]
theorem M6 {n:Nat} (hn:n<=1114111):IntKind.i64.wrap ((n:Int).tdiv 64)=((n / 64:Nat):Int):=UG hn
theorem HN {n:Nat} (hn:n<=1114111):IntKind.i64.wrap ((n:Int).tdiv 4096)=((n / 4096:Nat):Int):=UG hn
theorem Jz {n:Nat} (hn:n<=1114111):IntKind.i64.wrap ((n:Int).tdiv 262144)=((n / 262144:Nat):Int):=UG hn
theorem wu (z:Int):EvP prog 257 [.v (.int .i32 z)] (.v (.string (ba (Db z)))):=by
 have hs:=sJ z;have hE:Db z=if l4 z=true then Da z.toNat else []:=rfl
 have hB:l4 z=(decide (0<=z) && decide (z<=1114111) && (decide (z < 55296) || decide (57343 < z))):=rfl;generalize Db z=E at hE ⊢;generalize l4 z=B at hs hE hB;refine eG 64 [.tmp 2] func257 rfl ntmps257 rfl fun _ _ _ _=>?_;refine cP RD hs ?_
 cases B with
 | false=>
  rw [ah (by simp)] at hE;subst hE;exact (rfl:_=_)
 | true=>
  rw [ai rfl] at hE;have hB:=hB.symm;simp at hB;obtain ⟨n,rfl⟩:∃ n:Nat,z=n:=⟨z.toNat,by omega⟩;rw [iT] at hE;have hn:n<=1114111:=by omega
  have mj:IntKind.i64.wrap (n:Int)=n:=wrap64 (by omega) (by omega);unfold Da at hE;refine br ?_ ?_<;>intro c
  ·have c:n < 128:=by have:=of_decide_eq_true c;omega
   rw [ai c] at hE;refine ⟨[UInt8.ofNat (n)],?_,?_⟩
   ·grind [u8L,b8]
   ·rw [hE];exact (rfl:_=_)
  have c1:¬ n < 128:=by have:=of_decide_eq_false c;omega
  rw [ah c1] at hE;refine br ?_ ?_<;>intro c
  ·have c:n < 2048:=by have:=of_decide_eq_true c;omega
   rw [ai c] at hE;refine ⟨⟨rfl,by decide⟩,?_⟩;refine ⟨⟨rfl,by decide⟩,?_⟩;refine ⟨[UInt8.ofNat (192 + n / 64),UInt8.ofNat (128 + n % 64)],?_,?_⟩
   ·grind [u8L,b8,M6,wrap64]
   ·rw [hE];exact (rfl:_=_)
  have c2:¬ n < 2048:=by have:=of_decide_eq_false c;omega
  rw [ah c2] at hE;refine br ?_ ?_<;>intro c
  ·have c:n < 65536:=by have:=of_decide_eq_true c;omega
   rw [ai c] at hE;refine ⟨⟨rfl,by decide⟩,?_⟩;refine ⟨⟨rfl,by decide⟩,?_⟩;refine ⟨⟨rfl,by decide⟩,?_⟩;refine ⟨⟨rfl,by decide⟩,?_⟩;refine ⟨[UInt8.ofNat (224 + n / 4096),UInt8.ofNat (128 + n / 64 % 64),UInt8.ofNat (128 + n % 64)],?_,?_⟩
   ·grind [u8L,b8,HN,wrap64,M6]
   ·rw [hE];exact (rfl:_=_)
  have c3:¬ n < 65536:=by have:=of_decide_eq_false c;omega
  rw [ah c3] at hE;refine ⟨⟨rfl,by decide⟩,?_⟩;refine ⟨⟨rfl,by decide⟩,?_⟩;refine ⟨⟨rfl,by decide⟩,?_⟩;refine ⟨⟨rfl,by decide⟩,?_⟩;refine ⟨⟨rfl,by decide⟩,?_⟩;refine ⟨⟨rfl,by decide⟩,?_⟩;refine ⟨[UInt8.ofNat (240 + n / 262144),UInt8.ofNat (128 + n / 4096 % 64),UInt8.ofNat (128 + n / 64 % 64),UInt8.ofNat (128 + n % 64)],?_,?_⟩
  ·simp only [List.flatten_cons,List.flatten_nil,List.append_nil,List.cons_append,List.nil_append,u8L,List.cons.injEq,and_true,DV.v.injEq,Value.int.injEq,true_and];refine ⟨?_,?_,?_,?_⟩
   ·grind [b8,Jz,wrap64]
   ·grind [b8,HN,wrap64]
   ·grind [b8,M6,wrap64]
   ·grind [b8,wrap64]
  ·rw [hE];exact (rfl:_=_)
theorem qi (c:UInt8) (r:List UInt8):okU (c :: r)=(decide (1<=aT c.toNat) && allC c.toNat r (aT c.toNat - 1)):=rfl
def Sv (l:List UInt8):Bool:=l4 (recV l) && decide (Db (recV l)=l)
theorem ka {k:Nat} {a:UInt8} (hk:k < 256):UInt8.ofNat k=a↔k=a.toNat:=by
 constructor
 ·rintro rfl;rw [UInt8.toNat_ofNat'];omega
 ·rintro rfl;exact UInt8.ofNat_toNat
theorem tX (l:List UInt8) {v:Int} (hv:recV l=v):Sv l=true↔(0<=v/\v<=1114111/\(v < 55296∨57343 < v))/\Da v.toNat=l:=by grind [Sv,Db,l4,recV]
theorem kQ (c:Nat):(c=224/\gZ c=160)∨(c=240/\gZ c=144)∨(c≠224/\c≠240/\gZ c=128):=by
 unfold gZ
 repeat' split
 all_goals omega
theorem kR (c:Nat):(c=237/\hY c=159)∨(c=244/\hY c=143)∨(c≠237/\c≠244/\hY c=191):=by
 unfold hY
 repeat' split
 all_goals omega
theorem contB_0 (c b:Nat):je c 0 b=true↔gZ c<=b/\b<=hY c:=by grind [je]
theorem qj (c k b:Nat):je c (k + 1) b=true↔128<=b/\b<=191:=by grind [je]
theorem allC_1 (c:Nat) (b:UInt8) (r:List UInt8):allC c (b :: r) 1=je c 0 b.toNat:=by simp [allC,List.range_succ]
theorem allC_2 (c:Nat) (b d:UInt8) (r:List UInt8):allC c (b :: d :: r) 2=(je c 0 b.toNat && je c 1 d.toNat):=by simp [allC,List.range_succ]
theorem allC_3 (c:Nat) (b d e:UInt8) (r:List UInt8):allC c (b :: d :: e :: r) 3=(je c 0 b.toNat && je c 1 d.toNat && je c 2 e.toNat):=by simp [allC,List.range_succ,Bool.and_assoc]
theorem lead_1 (a:Nat):aT a=1↔a < 128:=by
 unfold aT;repeat' split
 all_goals omega
theorem lead_2 (a:Nat):aT a=2↔194<=a/\a<=223:=by
 unfold aT;repeat' split
 all_goals omega
theorem lead_3 (a:Nat):aT a=3↔224<=a/\a<=239:=by
 unfold aT;repeat' split
 all_goals omega
theorem lead_4 (a:Nat):aT a=4↔240<=a/\a<=244:=by
 unfold aT;repeat' split
 all_goals omega
theorem wf_1 (a:UInt8) (r:List UInt8):Sv [a]=true↔okU (a :: r)=true/\aT a.toNat=1:=by
 have ha:=a.toNat_lt;rw [tX _ (v:=(a.toNat:Int)) rfl];rw [iT];unfold Da;rw [qi];constructor
 ·intro ⟨h1,h2⟩;have:a.toNat < 128:=by grind
  have:=(lead_1 _).2 this;rw [this];exact ⟨rfl,rfl⟩
 ·intro ⟨_,h2⟩;have h2:=(lead_1 _).1 h2;rw [ai h2];exact ⟨by omega,by rw [UInt8.ofNat_toNat]⟩
theorem wf_2 (a b:UInt8) (r:List UInt8):Sv [a,b]=true↔okU (a :: b :: r)=true/\aT a.toNat=2:=by
 have ha:=a.toNat_lt;have hb:=b.toNat_lt;rw [tX _ (v:=((a.toNat:Int) - 192) * 64 + ((b.toNat:Int) - 128)) rfl];unfold Da;rw [qi];constructor
 ·grind [ka,lead_2,allC,allC_1,contB_0,kQ,kR]
 ·intro ⟨h1,h2⟩;rw [h2] at h1;have h1:(true && allC _ _ 1)=true:=h1;rw [Bool.true_and,allC_1,contB_0] at h1;have hL:=kQ a.toNat;have hH:=kR a.toNat
  grind [lead_2,ka]
theorem wf_3 (a b c:UInt8) (r:List UInt8):Sv [a,b,c]=true↔okU (a :: b :: c :: r)=true/\aT a.toNat=3:=by
 have ha:=a.toNat_lt;have hb:=b.toNat_lt;have hc:=c.toNat_lt;rw [tX _ (v:=((a.toNat:Int) - 224) * 4096 + ((b.toNat:Int) - 128) * 64 + ((c.toNat:Int) - 128)) rfl];unfold Da;rw [qi];constructor
 ·intro ⟨h1,h2⟩;generalize hn:((((a.toNat:Int) - 224) * 4096 + ((b.toNat:Int) - 128) * 64 + ((c.toNat:Int) - 128))).toNat=n at h2
  repeat' split at h2
  any_goals (simp at h2;done)
  simp only [List.cons.injEq,and_true] at h2;rw [ka (by omega),ka (by omega),ka (by omega)] at h2
  grind [lead_3,allC,allC_2,contB_0,qj,kQ,kR]
 ·intro ⟨h1,h2⟩;rw [h2] at h1;have h1:(true && allC _ _ 2)=true:=h1;rw [Bool.true_and,allC_2,aO,contB_0,qj _ 0] at h1;have hL:=kQ a.toNat;have hH:=kR a.toNat;have h2:=(lead_3 _).1 h2;rw [ah (by omega),ah (by omega),ai (by omega)];simp only [List.cons.injEq,and_true]
  grind [ka]
theorem wf_4 (a b c d:UInt8) (r:List UInt8):Sv [a,b,c,d]=true↔okU (a :: b :: c :: d :: r)=true/\aT a.toNat=4:=by
 have ha:=a.toNat_lt;have hb:=b.toNat_lt;have hc:=c.toNat_lt;have hd:=d.toNat_lt;rw [tX _ (v:=((a.toNat:Int) - 240) * 262144 + ((b.toNat:Int) - 128) * 4096 + ((c.toNat:Int) - 128) * 64 + ((d.toNat:Int) - 128)) rfl];unfold Da;rw [qi];constructor
 ·intro ⟨h1,h2⟩;generalize hn:((((a.toNat:Int) - 240) * 262144 + ((b.toNat:Int) - 128) * 4096 + ((c.toNat:Int) - 128) * 64 + ((d.toNat:Int) - 128))).toNat=n at h2
  repeat' split at h2
  any_goals (simp at h2;done)
  simp only [List.cons.injEq,and_true] at h2;rw [ka (by omega),ka (by omega),ka (by omega),ka (by omega)] at h2
  grind [lead_4,allC,allC_3,contB_0,qj,kQ,kR]
 ·intro ⟨h1,h2⟩;rw [h2] at h1;have h1:(true && allC _ _ 3)=true:=h1;rw [Bool.true_and,allC_3,aO,aO,contB_0,qj _ 0,qj _ 1] at h1;have hL:=kQ a.toNat;have hH:=kR a.toNat;have h2:=(lead_4 _).1 h2;rw [ah (by omega),ah (by omega),ah (by omega)];simp only [List.cons.injEq,and_true];rw [ka (by omega),ka (by omega),ka (by omega),ka (by omega)];omega
theorem Qm (a:Nat):aT a<=4:=by
 unfold aT;repeat' split
 all_goals omega
theorem HO {l:List UInt8} (h:okU l=true):∃ c r,l=c :: r/\1<=aT c.toNat/\aT c.toNat<=l.length/\jk l=aT c.toNat:=by
 cases l with
 | nil=>cases h
 | cons c r=>
  refine ⟨c,r,rfl,?_,?_,?_⟩
  ·grind [okU]
  ·have h0:=h;unfold okU at h;rw [aO] at h;rcases Nat.lt_or_ge r.length (aT c.toNat - 1) with g | g
   ·have h2:=h.2;unfold allC at h2;rw [List.all_eq_true] at h2;have:=h2 r.length (List.mem_range.2 g)
    grind
   ·rw [List.length_cons];omega
  ·show (if _ then _ else _)=_;rw [ai h]
theorem wf_n (c:UInt8) (r:List UInt8) (n:Nat) (h1:1<=n) (h4:n<=4) (hl:n<=r.length + 1):Sv ((c :: r).take n)=(okU (c :: r) && decide (aT c.toNat=n)):=by
 apply Bool.eq_iff_iff.2;rw [aO,decide_eq_true_iff]
 match n,h1,h4,hl with
 | 1,_,_,_=>exact wf_1 c r
 | 2,_,_,h=>match r,h with
  | b :: r,_=>exact wf_2 c b r
 | 3,_,_,h=>match r,h with
  | b :: d :: r,_=>exact wf_3 c b d r
 | 4,_,_,h=>match r,h with
  | b :: d :: e :: r,_=>exact wf_4 c b d e r
theorem lT {l:List UInt8} (h:l ≠ []):1<=jk l/\jk l<=l.length:=by
 cases l with
 | nil=>exact absurd rfl h
 | cons c r=>
  show 1<=(if _ then _ else _)/\(if _ then _ else _)<=_
  grind [HO]
def headL:Nat->List UInt8->List UInt8
 | 0,_=>[]
 | u + 1,l=>l.take (jk l) ++ headL u (l.drop (jk l))
theorem rX (u:Nat):headL u []=[]:=by
 induction u with
 | zero=>rfl
 | succ u ih=>show [].take _ ++ headL u ([].drop _)=[];rw [List.take_nil,List.drop_nil,ih];all_goals rfl
theorem ze (u:Nat) (l:List UInt8):headL u l <+: l:=by
 induction u generalizing l with
 | zero=>exact List.nil_prefix
 | succ u ih=>
  obtain ⟨t,ht⟩:=ih (l.drop (jk l));refine ⟨t,?_⟩;show (_ ++ _) ++ t=l
  simp_all
def zf (n:Nd) (v:Val):Bool:=
 if 0 < v.ks.length∨(v.k≠3/\v.s≠aq)∨(v.k=3/\v.n≠0) then false
 else if n.ag=1 then decide (v.k=1) && (decide (v.n=0) || decide (v.n=1))
 else if n.ag=2 then decide (v.k=2) && decide (n.lo<=v.n) && decide (v.n<=n.hi)
 else if n.ag=3 then decide (v.k=3) && decide ((v.s.size:Int)<=n.most)
 else decide (v.k=4) && decide (0<=v.n) && decide (v.n < n.af.length)
def eJ (v:Val):Bool:=decide (v.s=aq) && (decide (v.n=0) || decide (v.k=8))
def to0 (n:Nd):Int:=match n.aw[0]? with | some e=>e.to | none=>0
def qk (n:Nd) (v:Val):Option Ed:=if v.k=8/\0<=v.n/\v.n < n.aw.length then n.aw[v.n.toNat]? else none
def kidsL (n:Nd) (v:Val):List Int:=
 if n.ag=5∨n.ag=6 then List.replicate v.ks.length (to0 n)
 else if n.ag=7 then n.aw.map Ed.to
 else match qk n v with | none=>[] | some e=>if e.bare=true then [] else [e.to]
def dH (n:Nd) (v:Val):Bool:=
 if n.ag=5∨n.ag=6 then eJ v && decide (v.k=n.ag) && decide ((v.ks.length:Int)<=if n.ag=6 then 1 else n.most)
 else if n.ag=7 then eJ v && decide (v.k=7) && decide (n.aw.length=v.ks.length)
 else match qk n v with | none=>false | some _=>eJ v && decide ((kidsL n v).length=v.ks.length)
def cu (ND:List Nd) (i:Int):Option Nd:=if i < 0 then none else ND[i.toNat]?
mutual
def fitV (ND:List Nd):Val->Int->Bool
 | .mk k n s ks,i=>match cu ND i with
  | none=>false
  | some d=>if d.ag < 5 then zf d (.mk k n s ks) else dH d (.mk k n s ks) && fitVs ND ks (kidsL d (.mk k n s ks))
def fitVs (ND:List Nd):List Val->List Int->Bool
 | v :: r,i :: l=>fitV ND v i && fitVs ND r l
 | _,_=>true
end
def wv (n:Nd) (v:Val) (j:Nat):Int:=
 if n.ag=5 then (if (j:Int) < n.most then to0 n else -1)
 else if n.ag=6 then (if j < 1 then to0 n else -1)
 else if n.ag=7 then (match n.aw[j]? with | some e=>e.to | none=>-1)
 else if n.ag=8 then (if j < 1/\0<=v.n/\v.n < n.aw.length then (match n.aw[v.n.toNat]? with | some e=>e.to | none=>-1) else -1)
 else -1
def AQ (n:Nd) (v:Val):Bool:=decide (v.k≠n.ag) || (decide (v.k≠3) && decide (v.s≠aq)) || (decide (0 < v.s.size) && decide (n.most < (v.s.size:Int)))
def HP (n:Nd) (v:Val):Bool:=
 if n.ag=1 then decide (v.n=0) || decide (v.n=1)
 else if n.ag=2 then decide (n.lo<=v.n) && decide (v.n<=n.hi)
 else if n.ag=4 then decide (0<=v.n) && decide (v.n < n.af.length)
 else if n.ag=7 then decide (v.n=0) && decide (v.ks.length=n.aw.length)
 else if n.ag=8 then (if 0<=v.n/\v.n < n.aw.length then (match n.aw[v.n.toNat]? with | some e=>decide (decide (v.ks.length=0)=e.bare) | none=>false) else false)
 else decide (v.n=0)
mutual
def wx (ND:List Nd):Val->Int->Bool
 | .mk k n s ks,i=>match cu ND i with
  | none=>false
  | some d=>if AQ d (.mk k n s ks)=true then false else HP d (.mk k n s ks) && refVs ND ks (wv d (.mk k n s ks)) 0
def refVs (ND:List Nd):List Val->(Nat->Int)->Nat->Bool
 | [],_,_=>true
 | v :: r,f,j=>wx ND v (f j) && refVs ND r f (j + 1)
end
theorem zg (ND:List Nd) (v:Val):wx ND v (-1)=false:=by
 obtain ⟨k,n,s,ks⟩:=v;rw [wx];rfl
theorem F0 {ND:List Nd}:∀ {ks:List Val} {f:Nat->Int} {j:Nat},f j = -1->refVs ND ks f j=decide (ks=[])
 | [],f,j,h=>by simp [refVs]
 | v :: r,f,j,h=>by rw [refVs,h,zg];simp
theorem mW {ND:List Nd}:∀ {ks:List Val} {f:Nat->Int} {l:List Int} {j:Nat},(∀ v∈ks,∀ i,fitV ND v i=wx ND v i)->l.length=ks.length->(∀ e i,l[e]? = some i->f (j + e)=i)->refVs ND ks f j=fitVs ND ks l
 | [],f,[],j,_,_,_=>by simp [refVs,fitVs]
 | v :: r,f,i :: l,j,ih,hl,h=>by
  have h0:=h 0 i rfl;rw [Nat.add_zero] at h0
  rw [refVs,fitVs,h0,ih v (by simp) i,mW (fun x hx=>ih x (by simp [hx])) (sU hl) fun e i' he=>by
   have:=h (e + 1) i' (sU he)
   rwa [show j + 1 + e=j + (e + 1) by omega]]
 | [],f,_ :: _,j,_,hl,_=>by simp at hl
 | _ :: _,f,[],j,_,hl,_=>by simp at hl
theorem nG {ND:List Nd}:∀ {ks:List Val} {f:Nat->Int} {j m:Nat},j<=m->f m = -1->m < j + ks.length->refVs ND ks f j=false
 | [],f,j,m,h1,_,h3=>by simp at h3;omega
 | v :: r,f,j,m,h1,h2,h3=>by
  rw [refVs];by_cases h:j=m
  ·subst h;rw [h2,zg];all_goals rfl
  ·rw [nG (m:=m) (by omega) h2 (by simp at h3;omega),Bool.and_false]
theorem M7 {L:Nat} {ND:List Nd} {d:Nd} (hd:dg L ND.length d) (v:Val) (ih:∀ x∈v.ks,∀ i,fitV ND x i=wx ND x i) :
  (if d.ag < 5 then zf d v else dH d v && fitVs ND v.ks (kidsL d v))=if AQ d v=true then false else HP d v && refVs ND v.ks (wv d v) 0:=by
 have o6:=hd.k1;have Ou:=hd.k8;have he:(aq:ByteArray).size=0:=rfl;have JA:v.s=aq->v.s.size=0:=fun h=>by rw [h];all_goals rfl
 by_cases h5:d.ag < 5
 ·rw [ai h5];have nD:wv d v 0 = -1:=by grind [wv]
  rw [F0 nD];unfold zf AQ HP;have hif:∀ (P:Prop) [Decidable P] (b:Bool),(if P then false else b)=(!decide P && b):=fun P _ b=>by split<;>simp_all
  have F1:(0 < v.ks.length)↔v.ks ≠ []:=List.length_pos_iff;have hif2:∀ (P b:Bool),(if P=true then false else b)=(!P && b):=fun P b=>by cases P<;>rfl
  rw [hif2,hif];have UH:=hd.Sr
  grind
 rw [ah h5];rcases Decidable.em (¬ v.k=d.ag) with ZK | ZK
 ·grind [AQ,dH,qk]
 have ZK:v.k=d.ag:=Decidable.not_not.1 ZK;rcases Decidable.em (¬ v.s=aq) with hs | hs
 ·grind [AQ,eJ,dH]
 have hs:v.s=aq:=Decidable.not_not.1 hs
 have hb:AQ d v=false:=by
  have:=JA hs;simp [AQ,ZK,hs,he]
 rw [ah (by rw [hb];simp)];by_cases c5:d.ag=5
 ·have hm:=hd.Ss c5;have bF:HP d v=decide (v.n=0):=by grind [HP]
  have Pm:dH d v=(decide (v.n=0) && decide ((v.ks.length:Int)<=d.most)):=by grind [dH,eJ]
  have nN:kidsL d v=List.replicate v.ks.length (to0 d):=by unfold kidsL;rw [ai (.inl c5)]
  rw [bF,Pm,nN];by_cases fN:(v.ks.length:Int)<=d.most
  ·grind [mW,to0,wv]
  ·rw [nG (m:=d.most.toNat) (by omega) (by unfold wv;rw [ai c5,ah (by omega)]) (by omega)];simp [fN]
 by_cases c6:d.ag=6
 ·have bF:HP d v=decide (v.n=0):=by grind [HP]
  have Pm:dH d v=(decide (v.n=0) && decide (v.ks.length<=1)):=by grind [dH,eJ]
  have nN:kidsL d v=List.replicate v.ks.length (to0 d):=by unfold kidsL;rw [ai (.inr c6)]
  rw [bF,Pm,nN];by_cases fN:v.ks.length<=1
  ·grind [mW,to0,wv]
  ·rw [nG (m:=1) (by omega) (by unfold wv;rw [ah c5,ai c6,ah (by omega)]) (by omega)];simp [fN]
 by_cases c7:d.ag=7
 ·grind [HP,dH,eJ,kidsL,mW,wv]
 have c8:d.ag=8:=by omega
 have bF:HP d v=(if 0<=v.n/\v.n < d.aw.length then (match d.aw[v.n.toNat]? with | some e=>decide (decide (v.ks.length=0)=e.bare) | none=>false) else false):=by grind [HP]
 rcases Decidable.em (¬ (0<=v.n/\v.n < d.aw.length)) with hr | hr
 ·grind [qk,dH]
 have hr:0<=v.n/\v.n < d.aw.length:=Decidable.not_not.1 hr;obtain ⟨e,hx⟩:∃ e,d.aw[v.n.toNat]? = some e:=⟨_,gE (by omega)⟩;have ht:qk d v=some e:=by unfold qk;rw [ai ⟨by omega,hr⟩,hx]
 have nN:kidsL d v=if e.bare=true then [] else [e.to]:=by unfold kidsL;rw [ah (by omega),ah c7,ht]
 have Pm:dH d v=decide ((kidsL d v).length=v.ks.length):=by grind [dH,eJ]
 have htr:∀ j,wv d v j=if j < 1 then e.to else -1:=fun j=>by grind [wv]
 rw [Pm,bF,ai hr,hx,nN];simp only
 cases Sw:e.bare with
 | true=>grind [fitVs,refVs]
 | false=>
  simp only [Bool.false_eq_true,if_false];by_cases hl:v.ks.length=1
  ·grind [mW]
  ·have h1:¬ ([e.to]:List Int).length=v.ks.length:=by simpa using fun h=>hl h.symm
   by_cases hz:v.ks.length=0
   ·simp [hz]
   ·rw [nG (m:=1) (by omega) (by rw [htr];simp) (by omega)]
    grind
mutual
theorem M8 {L:Nat} {ND:List Nd} (bF:∀ n∈ND,dg L ND.length n):∀ (v:Val) (i:Int),fitV ND v i=wx ND v i
 | .mk k n s ks,i=>by
  have ih:=HQ bF ks;rw [fitV,wx];unfold cu;split
  ·rfl
  ·rename_i h;split at h
   ·cases h
   ·exact M7 (bF _ (mG h)) (.mk k n s ks) ih
theorem HQ {L:Nat} {ND:List Nd} (bF:∀ n∈ND,dg L ND.length n):∀ (ks:List Val),∀ x∈ks,∀ i:Int,fitV ND x i=wx ND x i
 | [],x,hx,_=>by cases hx
 | v :: r,x,hx,i=>by
  rcases cr hx with hx | hx
  ·rw [hx];exact M8 bF v i
  ·exact HQ bF r x hx i
end
end Go.Proofs.YtphonmiflfhdbaaGreat
