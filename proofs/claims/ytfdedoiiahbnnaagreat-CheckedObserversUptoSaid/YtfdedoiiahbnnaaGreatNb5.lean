/- Part 5 of the proof: The document's relations: Leads; The document's lattices: Find, pairs, Leq, Loop; The document's lattices: what is wrong; The document's labels: over, Least, Of; The document's schemas: Find, word, all, Flat, End, Start; The document's schemas: Flat, End, Start; The document's schemas: named, unknown; The reference's Wrong returns what is wrong with a type; The document's schemas: what is wrong; The document's nodes: Same, of equal ones; the law's node; The document's nodes: node; The document's plan: Build; What is known of a type with which nothing is wrong; labels have levels; What is known of the nodes of a plan; A plan, as its readers know it; Values, plain; how many are in one, how deep they lie; Values that are the same; Which values fit which nodes: plain, as the program finds it and as the document says it; tree's leaf, kids, Fits; tree.Fits; the document's To, Fits; Values as they are written: plain; tree.write, Raw; Paths: data, Step compared with itself; ref09.Begins, Same on the same path; ref25.Step; A lattice, as its readers know it; Leq; joins are the document's; Where steps lead in a plan, and how places are seen, plain; What is seen of values, and where that differs, plain; A text's first units: the document's Head, the program's heads, floors; Whole numbers in texts: the program's Take of a number that there is; Cursors: the program's Peek, step, is, Mark, Word, Take, Need, Fail, Enter, Leave, Fault; Cursors: the program's is, Mark, Word, Take, FailAt, Fail, Need, Enter, Leave, Next; A new cursor; The reader of schemas: wrong, fine, keyword, name. No condition. -/
import Derived.Lib.Hide
import Derived.Test.YtfdedoiiahbnnaaGreatNb3
import Derived.Test.YtfdedoiiahbnnaaGreatNb4
set_option linter.all false
set_option maxRecDepth 100000
namespace Go.Proofs.YtfdedoiiahbnnaaGreat
open Go Go.RowKit Dv Go.Proofs.Tryz
def cB (r:List Bool):List DV:=r.map fun b=>DV.v (.bool b)
def sa (r:List Bool):List (List DV):=r.map fun b=>[DV.v (.bool b)]
def ch (m:List (List Bool)):List (List DV):=m.map fun r=>[DV.sl 1 (sa r) none]
theorem oJ (r:List Bool):(cB r).length=r.length:=by simp [cB]
theorem qf (r:List Bool):(sa r).length=r.length:=by simp [sa]
theorem sb (m:List (List Bool)):(ch m).length=m.length:=by simp [ch]
theorem G6 {r:List Bool} {i:Nat} {b:Bool} (h:r[i]? = some b):(cB r)[i]? = some (DV.v (.bool b)):=by simp [cB,h]
theorem vS (r:List Bool) (i:Nat) (b:Bool):(cB r).set i (DV.v (.bool b))=cB (r.set i b):=by simp [cB,List.map_set]
theorem Cf {r:List Bool} {i:Nat} {b:Bool} (h:r[i]? = some b):(sa r)[i]? = some [DV.v (.bool b)]:=by simp [sa,h]
theorem G7 {m:List (List Bool)} {i:Nat} {r:List Bool} (h:m[i]? = some r):(ch m)[i]? = some [DV.sl 1 (sa r) none]:=by simp [ch,h]
theorem np (r:List Bool):(sa r).flatten=cB r:=by
 induction r with
 | nil=>rfl
 | cons b r ih=>simp only [sa,cB,List.map_cons,List.flatten_cons] at ih ⊢;rw [ih];all_goals rfl
theorem DL (n:Nat):(List.replicate n (vL [Value.bool false])).flatten=cB (List.replicate n false):=by
 induction n with
 | zero=>rfl
 | succ n ih=>simp only [List.replicate_succ,List.flatten_cons,ih];rfl
theorem bK {n m:Nat} {tk:List TkE} {l:List DV} {r:List Bool} (h:l=cB r):WeL n m tk l (cB r):=by
 subst h;refine rF _ fun x hx=>?_;obtain ⟨z,_,rfl⟩:=List.mem_map.1 hx;exact ⟨_,rfl⟩
theorem K9 {bx:List (List DV)} {N n0 m0 n:Nat} {r:List Bool} (hr:r.length=n) (hN:N<=0) (hb:bx[0]? = some (cB r)):Cc bx N n0 m0 (.sl 1 (sa r) none) (.ms 0 1 0 n n):=by
 simp only [Cc];refine Or.inr (Or.inr (Or.inl ⟨0,0,n,_,by rw [qf,hr],hN,hb,?_,?_,?_⟩))
 ·grind [np,oJ,qf]
 ·grind [sa]
 ·intro x hx;rw [np] at hx;obtain ⟨_,_,rfl⟩:=List.mem_map.1 hx;exact .inl ⟨_,rfl⟩
def dZ (n:Nat) (l:List (Nat × Nat)):List (List Bool):=(List.range n).map (pJ n l)
theorem AF (n:Nat) (l:List (Nat × Nat)):(dZ n l).length=n:=by simp [dZ]
theorem AG {n a:Nat} (l:List (Nat × Nat)) (h:a < n):(dZ n l)[a]? = some (pJ n l a):=by simp [dZ,List.getElem?_range h]
theorem DM {n:Nat} {l:List (Nat × Nat)} (h:oo n l):dZ n l=cH n (du n l):=by
 unfold dZ cH;exact List.map_congr_left fun a ha=>Jg h (List.mem_range.1 ha)
def gy (l:List (Nat × Nat)) (r:List Bool) (e:Nat):List Bool:=(l.take e).foldl e9 r
theorem AH (l:List (Nat × Nat)) (r:List Bool) (e:Nat):(gy l r e).length=r.length:=lX (l.take e) r
theorem yr {l:List (Nat × Nat)} {r:List Bool} {e:Nat} {p:Nat × Nat} (h:l[e]? = some p):gy l r (e + 1)=e9 (gy l r e) p:=by
 unfold gy;rw [List.take_add_one,h];simp
abbrev Ve (n:Nat) (l:List (Nat × Nat)) (q e:Nat):St:=
 ⟨[aq 0 n,aS 1 2 (jO l),(5,⟨[],.sl 1 (ch ((dZ n l).take e)) (some 0)⟩),aq 6 e],[],[⟨q,183,1,none⟩]⟩
abbrev Q5 (n:Nat) (l:List (Nat × Nat)) (q e:Nat) (r:List Bool) (k:Nat):St:=
 ⟨[aq 0 n,aS 1 2 (jO l),(5,⟨[],.sl 1 (ch ((dZ n l).take e)) (some 0)⟩),aq 6 e,(7,⟨[],.ms 0 1 0 n n⟩),aq 8 k],[cB r],[⟨q,183,1,none⟩]⟩
abbrev Q6 (n:Nat) (l:List (Nat × Nat)) (q e:Nat) (r:List Bool) (k i:Nat):St:=
 ⟨[aq 0 n,aS 1 2 (jO l),(5,⟨[],.sl 1 (ch ((dZ n l).take e)) (some 0)⟩),aq 6 e,(7,⟨[],.ms 0 1 0 n n⟩),aq 8 k,aq 9 i],[cB r],[⟨q,183,1,none⟩]⟩
abbrev Q7 (n:Nat) (l:List (Nat × Nat)) (q e:Nat) (r:List Bool):St:=
 ⟨[aq 0 n,aS 1 2 (jO l),aq 6 e,(46,⟨[],.sl 1 (ch ((dZ n l).take e)) (some 0)⟩),aS 47 1 (sa r)],[],[⟨q,183,1,none⟩]⟩
theorem AJ (n:Nat) (hn:n<=64) (l:List (Nat × Nat)) (hP:oo n l) (hb:l.length<=1099511627776) :
  aV prog 113 [.v (.int .i64 n),.sl 2 (jO l) none] (.sl 1 (ch (dZ n l)) none):=by
 have zK:=eY l;have Q8:=AF n l;refine eG 51 [.tmp 4] func113 rfl ntmps113 rfl fun _ _ _ _=>?_;refine lJ (fun e=>Ve n l e e) n (dG ⟨0,183,1,none⟩ rfl ⟨_,rfl⟩ rfl wA rfl rfl pE) ?_;intro e he;refine br ?_ ?_<;>intro hL
 ·have ap:e < n:=by have:=hL;simp at this;exact this
  have Vf:((List.replicate n false).set e true).length=n:=by simp
  refine ⟨⟨rfl,by omega,by omega,by omega⟩,?_⟩;refine ⟨⟨by omega,by omega⟩,?_⟩;refine ⟨by rw [DL,oJ,List.length_replicate];omega,?_⟩
  have gk:((List.replicate (n:Int).toNat (vL [Value.bool false])).flatten).set (0 + (e:Int).toNat * 1) (DV.v (.bool true))=cB (cf l ((List.replicate n false).set e true) 0):=by
   rw [DL,show 0 + (e:Int).toNat * 1=e by omega,show (n:Int).toNat=n by omega,vS];rfl
  refine lJ (fun k=>Q5 n l e e (cf l ((List.replicate n false).set e true) k) k) n (ep 1 (ve gk) (c8 gk)) ?_;intro k hk;have iv:=dO l ((List.replicate n false).set e true) k;have qw:=dw l ((List.replicate n false).set e true) k;refine br ?_ ?_<;>intro j2
  ·have eo:k < n:=by have:=j2;simp at this;exact this
   generalize cf l ((List.replicate n false).set e true) k=r at iv qw ⊢;rw [Vf] at iv;refine lJ (fun i=>Q6 n l e e (gy l r i) k i) l.length (ep 1 zB pE) ?_;intro i hi;have nV:=AH l r i;refine br ?_ ?_<;>intro W2
   ·have Q9:i < l.length:=by have:=W2;simp [zK] at this;exact this
    obtain ⟨p,hp⟩:∃ p,l[i]? = some p:=⟨_,gE Q9⟩;obtain ⟨Er,L7⟩:=hP p (mG hp);have Ra:=yr (r:=r) hp;obtain ⟨b,lp⟩:∃ b,(gy l r i)[p.1]? = some b:=⟨_,gE (by omega)⟩;have Kc:(gy l r i).getD p.1 false=b:=by simp [dz,lp]
    rw [e9,Kc] at Ra;refine iX (rB hp) ?_;refine ⟨⟨by decide,by decide⟩,?_⟩;refine ⟨⟨by omega,by omega⟩,?_⟩;refine ⟨_,(show (cB (gy l r i))[0 + (p.1:Int).toNat * 1]? = some (.v (.bool b)) by rw [show 0 + (p.1:Int).toNat * 1=p.1 by omega];exact G6 lp),?_⟩;refine br ?_ ?_<;>intro g
    ·have g:b=true:=g;rw [zIfP g] at Ra;refine iX (rB hp) ?_;refine ⟨⟨by decide,by decide⟩,?_⟩;refine ⟨⟨by omega,by omega⟩,?_⟩;refine ⟨by rw [oJ];omega,?_⟩;have iU:(cB (gy l r i)).set (0 + (p.2:Int).toNat * 1) (DV.v (.bool true))=cB (gy l r (i + 1)):=by grind [vS]
     exact rE ⟨_,by omega,i + 1,rfl,by omega,rfl⟩ (ep 1 (zC iU (aT Q9 (by omega))) (hY iU (aT Q9 (by omega))))
    ·have g:¬ b=true:=by rw [show b=false from g];decide
     rw [ah g] at Ra;exact rE ⟨_,by omega,i + 1,rfl,by omega,rfl⟩ (ep 1 (by repeat' (first | exact rfl | exact au rfl | exact bK (by rw [Ra]) | exact aw (aT Q9 (by omega)) | refine ⟨_,_,rfl,?_,?_⟩)) (by repeat' (first | exact trivial | exact au rfl | exact bK (by rw [Ra]) | exact aw (aT Q9 (by omega)) | refine ⟨⟨_,rfl,?_⟩,?_⟩)))
   ·have hge:i=l.length:=sW zK W2;subst hge;have Rb:gy l r l.length=cf l ((List.replicate n false).set e true) (k + 1):=by rw [qw,gy,List.take_length];all_goals rfl
    exact rE ⟨_,by omega,k + 1,rfl,by omega,rfl⟩ (ep 1 (by repeat' (first | exact rfl | exact au rfl | exact bK (by rw [Rb]) | exact aw (aT eo (by omega)) | refine ⟨_,_,rfl,?_,?_⟩)) (by repeat' (first | exact trivial | exact au rfl | exact bK (by rw [Rb]) | exact aw (aT eo (by omega)) | refine ⟨⟨_,rfl,?_⟩,?_⟩)))
  ·have hge:k=n:=by have:=j2;simp at this;omega
   subst hge;have nX:cf l ((List.replicate k false).set e true) k=pJ k l e:=rfl;rw [nX];have hrw:=nd k l e;refine EH.wk (.zd (st':=Q7 k l e e (pJ k l e)) 0 rfl rfl rfl rfl ?_) rfl rfl ?_
   ·refine ⟨⟨_,rfl,?_⟩,⟨_,rfl,?_⟩,⟨_,rfl,?_⟩,⟨_,rfl,?_⟩,⟨_,rfl,K9 hrw (by omega) rfl⟩,trivial⟩
    ·simp only [Cc]
    ·grind [Cc]
    ·simp only [Cc]
    ·grind [Cc]
   ·have fg:(ch ((dZ k l).take e)).length=e:=by rw [sb,eP,Q8];omega
    have k0:ch ((dZ k l).take e) ++ [[DV.sl 1 (sa (pJ k l e)) none]]=ch ((dZ k l).take (e + 1)):=by rw [List.take_add_one,AG l ap];simp [ch]
    refine ⟨fg,⟨by rw [fg];simp [maxLen];omega,by rw [fg];simp;omega⟩,?_⟩;exact rE ⟨_,by omega,e + 1,rfl,by omega,rfl⟩ (bc (hY (aT ap (by omega)) k0))
 ·have hge:e=n:=by have:=hL;simp at this;omega
  subst hge;have ht:(dZ e l).take e=dZ e l:=by rw [List.take_of_length_le (by rw [Q8];omega)]
  rw [ht];exact ⟨_,ax,rfl⟩
theorem cz {n m:Nat} {tk':List TkE} {x y:Bool} (h:x=y):We n m tk' (.v (.bool x)) (.v (.bool y)):=.inl ⟨by rw [h],rfl⟩
theorem kH {l:List Wd} {j:Nat} {w:Wd} (h:l[j]? = some w):(al l)[j]? = some w.s:=by simp [al,h]
theorem Cg {L:List ByteArray} {s:ByteArray} (h:∀ j,j < L.length->L[j]? ≠ some s):bV L s=none:=lg fun j hj=>by grind
abbrev La (l:List Wd) (s:ByteArray) (e:Nat):St:=
 ⟨[aS 0 2 (bm l),(1,⟨[],.v (.string s)⟩),aq 5 e],[],[]⟩
theorem dP (l:List Wd) (s:ByteArray) (hs:wdsWt l<=1099511627776) :
  aV prog 188 [.sl 2 (bm l) none,.v (.string s)] (.v (.int .i64 (oz (bV (al l) s)))):=by
 have nV:=bd l;have fi:=cw l;refine eG 20 [.tmp 4] func188 rfl ntmps188 rfl fun _ _ _ _=>?_;refine lI (fun j st=>∃ e:Nat,st=La l s e/\e<=l.length/\(∀ j,j < e->(al l)[j]? ≠ some s)/\j=l.length - e) ⟨0,rfl,by omega,fun _ h=>by omega,rfl⟩ (bc wB) ?_;rintro j st ⟨e,rfl,he,hno,rfl⟩;refine br ?_ ?_<;>intro hL
 ·have ap:e < l.length:=by simpa [ak] using hL
  obtain ⟨w,hw⟩:=gX ap;refine ⟨gm w,⟨by omega,aH hw⟩,?_⟩;refine br ?_ ?_<;>intro hq
  ·have hq:w.s=s:=sU hq;rw [p8 (p:=e) (by rw [kH hw,hq]) (fun j hj=>Nat.le_of_not_lt fun hl=>hno j hl hj)];exact (rfl:_=_)
  ·have hq:¬ w.s=s:=sU hq;refine ⟨La l s (e + 1),(bc (c8 (aT ap (by omega)))),l.length - (e + 1),by omega,e + 1,rfl,by omega,fun j hj=>?_,rfl⟩;rcases ka hj with hj | rfl
   ·exact hno j hj
   ·rw [kH hw];simpa using hq
 ·have hge:e=l.length:=by have:=hL;simp [ak] at this;omega
  rw [Cg (fun j hj=>hno j (by omega))];exact (rfl:_=_)
theorem ed {o:Option Nat}:decide (oz o < 0)=true↔o=none:=by
 cases o with
 | none=>simp [oz]
 | some k=>grind [oz]
theorem ys {L:List ByteArray}:∀ {o:List (Wd × Wd)},(numF L o).1=0->∀ x∈o,(∃ a,bV L x.1.s=some a)/\∃ b,bV L x.2.s=some b
 | [],_,x,hx=>by cases hx
 | p :: r,h,x,hx=>by
  rw [numF] at h;split at h
  ·exact absurd h (by simp)
  rename_i h1;split at h
  ·exact absurd h (by simp)
  rename_i h2;rcases cY hx with rfl | hx
  ·exact ⟨Option.ne_none_iff_exists'.1 h1,Option.ne_none_iff_exists'.1 h2⟩
  ·exact ys h x hx
abbrev Rc (l:List Wd) (o:List (Wd × Wd)) (q e:Nat):St:=
 ⟨[aS 0 2 (bm l),aS 1 4 (j4 o),(5,⟨[],.sl 2 (jO (cv (al l) (o.take e))) (some 0)⟩),aq 6 e],[],[⟨q,285,2,none⟩]⟩
theorem AK (l:List Wd) (o:List (Wd × Wd)) (hs:wdsWt l<=1099511627776) (zq:prsWt o<=1099511627776) (hF:(numF (al l) o).1=0) :
  aV prog 114 [.sl 2 (bm l) none,.sl 4 (j4 o) none] (.sl 2 (jO (cv (al l) o)) none):=by
 have nV:=fG o;refine eG 34 [.tmp 4] func114 rfl ntmps114 rfl fun _ _ _ _=>?_;refine lJ (fun e=>Rc l o e e) o.length (dG ⟨0,285,2,none⟩ rfl ⟨_,rfl⟩ rfl wA rfl rfl pE) ?_;intro e he;refine br ?_ ?_<;>intro hL
 ·have ap:e < o.length:=by simpa [ej] using hL
  obtain ⟨w,hw⟩:=gX ap;obtain ⟨⟨a,ha⟩,⟨b,hb⟩⟩:=ys hF w (mG hw);have Ew:=dP l w.1.s hs;have sM:=dP l w.2.s hs;rw [ha] at Ew;rw [hb] at sM;refine dI ?_;refine ⟨Ex w,⟨by omega,eX hw⟩,?_⟩;refine cD qY Ew ?_;refine ⟨Ex w,⟨by omega,eX hw⟩,?_⟩;refine cD qY sM ?_;refine ⟨by simp [eY,cv];omega,⟨by simp [eY,cv,maxLen];omega,by simp [eY,cv];omega⟩,?_⟩;exact rE ⟨_,by omega,e + 1,rfl,by omega,rfl⟩ (bc (hY (aT ap (by omega)) (uk hw ha hb)))
 ·have hge:e=o.length:=by
   have:=hL;simp [ej] at this;omega
  have ht:o.take e=o:=by rw [hge,List.take_length]
  rw [ht];exact ⟨_,ax,rfl⟩
theorem yt (l:List Wd) (o:List (Wd × Wd)) (hl:l.length<=32) (hs:wdsWt l<=1099511627776) (zq:prsWt o<=1099511627776) (hF:(numF (al l) o).1=0) :
  aV prog 49 [.sl 2 (bm l) none,.sl 4 (j4 o) none] (.sl 1 (ch (cH l.length (du l.length (cv (al l) o)))) none):=by
 have nV:=fG o;have hP:oo l.length (cv (al l) o):=by have:=lh hF;rwa [cw] at this
 have hN:=ak l;have Jq:=AJ l.length (by omega) (cv (al l) o) hP (by simp [cv];omega);rw [DM hP] at Jq;refine eG 11 [.tmp 4] func49 rfl ntmps49 rfl fun _ _ _ _=>?_;refine cP Pb (AK l o hs zq hF) ?_;rw [hN];refine cP Pa Jq ?_;exact ⟨_,ax,rfl⟩
theorem yu (n:Nat) (f:Nat->Nat->Bool):(cH n f).length=n:=by simp [cH]
theorem fM (n:Nat) (f:Nat->Nat->Bool):(ch (cH n f)).length=n:=by rw [sb,yu]
theorem dg {n:Nat} {f:Nat->Nat->Bool} {a:Nat} (ha:a < n):(ch (cH n f))[a]? = some [DV.sl 1 (sa ((List.range n).map (f a))) none]:=G7 (ya ha)
theorem cE {n:Nat} {f:Nat->Nat->Bool} {a b:Nat} (hb:b < n):(sa ((List.range n).map (f a)))[b]? = some [DV.v (.bool (f a b))]:=Cf (by simp [List.getElem?_range hb])
abbrev Lb (n:Nat) (f:Nat->Nat->Bool) (e:Nat):St:=
 ⟨[aS 0 1 (ch (cH n f)),aq 3 e],[],[]⟩
abbrev M4 (n:Nat) (f:Nat->Nat->Bool) (e k:Nat):St:=
 ⟨[aS 0 1 (ch (cH n f)),aq 3 e,aq 4 k],[],[]⟩
theorem yv (n:Nat) (f:Nat->Nat->Bool) (hn:n<=64) :
  aV prog 189 [.sl 1 (ch (cH n f)) none] (.v (.int .i64 (oz (bE (iF n f) n)))):=by
 have fg:=fM n f;refine eG 39 [.tmp 2] func189 rfl ntmps189 rfl fun _ _ _ _=>?_;refine lI (fun j st=>∃ e:Nat,st=Lb n f e/\e<=n/\(∀ a,a < e->iF n f a=false)/\j=n - e) ⟨0,rfl,by omega,fun _ h=>by omega,rfl⟩ (bc wB) ?_;rintro j st ⟨e,rfl,he,hno,rfl⟩;refine br ?_ ?_<;>intro hL
 ·have ap:e < n:=sV fg hL;refine lI (fun j st=>∃ k:Nat,st=M4 n f e k/\k<=n/\(∀ b,b < k->(decide (e≠b) && (f e b && f b e))=false)/\j=n - k) ⟨0,rfl,by omega,fun _ h=>by omega,rfl⟩ (bc wB) ?_;rintro j st ⟨k,rfl,hk,nq,rfl⟩;refine br ?_ ?_<;>intro j2
  ·have eo:k < n:=sV fg j2;have xS:(decide (e≠k) && (f e k && f k e))=false->∀ b,b < k + 1->(decide (e≠b) && (f e b && f b e))=false:=fun h b hb=>by grind
   refine br ?_ ?_<;>intro g1
   ·have g1:e≠k:=by have:=g1;simp at this;omega
    refine iX (dg ap) ?_;refine iX (cE eo) ?_;refine br ?_ ?_<;>intro g2
    ·have g2:f e k=true:=by simpa [pickB] using g2
     refine iX (dg eo) ?_;refine iX (cE ap) ?_;refine br ?_ ?_<;>intro g3
     ·have g3:f k e=true:=by simpa [pickB] using g3
      have hp:iF n f e=true:=List.any_eq_true.2 ⟨k,List.mem_range.2 eo,by simp [g1,g2,g3]⟩;rw [cg ap hp hno];exact (rfl:_=_)
     ·have g3:f k e=false:=by simpa [pickB] using g3
      exact rE ⟨_,by omega,k + 1,rfl,by omega,xS (by simp [g3]),rfl⟩ (bc (c8 (aT eo (by omega))))
    ·have g2:f e k=false:=by simpa [pickB] using g2
     exact rE ⟨_,by omega,k + 1,rfl,by omega,xS (by simp [g2]),rfl⟩ (bc (c8 (aT eo (by omega))))
   ·have g1:e=k:=by have:=g1;simp at this;omega
    exact rE ⟨_,by omega,k + 1,rfl,by omega,xS (by simp [g1]),rfl⟩ (bc (c8 (aT eo (by omega))))
  ·have hge:k=n:=sW fg j2;refine ⟨Lb n f (e + 1),(bc (c8 (aT ap (by omega)))),n - (e + 1),by omega,e + 1,rfl,by omega,fun j hj=>?_,rfl⟩;rcases ka hj with hj | rfl
   ·exact hno j hj
   ·grind [iF]
 ·have hge:e=n:=sW fg hL;subst hge;rw [cA hno];exact (rfl:_=_)
abbrev Vg (n:Nat) (f:Nat->Nat->Bool) (q e:Nat):St:=
 ⟨[aS 0 1 (ch (cH n f)),(3,⟨[],.sl 1 (ch ((cH n fun a b=>f b a).take e)) (some 0)⟩),aq 4 e],[],[⟨q,183,1,none⟩]⟩
abbrev Re (n:Nat) (f:Nat->Nat->Bool) (q e:Nat) (r:List Bool) (k:Nat):St:=
 ⟨[aS 0 1 (ch (cH n f)),(3,⟨[],.sl 1 (ch ((cH n fun a b=>f b a).take e)) (some 0)⟩),aq 4 e,(5,⟨[],.ms 0 1 0 n n⟩),aq 6 k],[cB r],[⟨q,183,1,none⟩]⟩
abbrev Rf (n:Nat) (f:Nat->Nat->Bool) (q e:Nat) (r:List Bool):St:=
 ⟨[aS 0 1 (ch (cH n f)),aq 4 e,(32,⟨[],.sl 1 (ch ((cH n fun a b=>f b a).take e)) (some 0)⟩),aS 33 1 (sa r)],[],[⟨q,183,1,none⟩]⟩
def ji (n:Nat) (f:Nat->Nat->Bool) (e k:Nat):List Bool:=(List.range n).map fun b=>if b < k then f b e else false
theorem oK (n:Nat) (f:Nat->Nat->Bool) (e k:Nat):(ji n f e k).length=n:=by simp [ji]
theorem AL (n:Nat) (f:Nat->Nat->Bool) (e:Nat):ji n f e 0=List.replicate n false:=by
 refine List.ext_getElem? fun i=>?_
 grind [ji,oK]
theorem AM (n:Nat) (f:Nat->Nat->Bool) (e k:Nat):(ji n f e k).set k (f k e)=ji n f e (k + 1):=by
 refine List.ext_getElem? fun i=>?_
 grind [ji,oK]
theorem AN (n:Nat) (f:Nat->Nat->Bool) (e:Nat):ji n f e n=(List.range n).map (fun b=>f b e):=by simp_all [ji]
theorem DN (n:Nat) (f:Nat->Nat->Bool) (hn:n<=64) :
  aV prog 190 [.sl 1 (ch (cH n f)) none] (.sl 1 (ch (cH n fun a b=>f b a)) none):=by
 have fg:=fM n f;have Q8:=yu n fun a b=>f b a;refine eG 37 [.tmp 2] func190 rfl ntmps190 rfl fun _ _ _ _=>?_;refine lJ (fun e=>Vg n f e e) n (dG ⟨0,183,1,none⟩ rfl ⟨_,rfl⟩ rfl wA rfl rfl pE) ?_;intro e he;refine br ?_ ?_<;>intro hL
 ·have ap:e < n:=sV fg hL;refine ⟨⟨rfl,by omega,by rw [fg];omega,by rw [fg];omega⟩,?_⟩;rw [fg];have gk:(List.replicate (n:Int).toNat (vL [Value.bool false])).flatten=cB (ji n f e 0):=by grind [DL,AL]
  refine lJ (fun k=>Re n f e e (ji n f e k) k) n (ep 1 (ve gk) (c8 gk)) ?_;intro k hk;refine br ?_ ?_<;>intro j2
  ·have eo:k < n:=sV fg j2;refine iX (dg eo) ?_;refine iX (cE ap) ?_;refine ⟨⟨by omega,by omega⟩,?_⟩;refine ⟨by rw [oJ,oK];omega,?_⟩
   have iU:(cB (ji n f e k)).set (0 + (k:Int).toNat * 1) (DV.v (.bool (f (k:Int).toNat (e:Int).toNat)))=cB (ji n f e (k + 1)):=by
    rw [show 0 + (k:Int).toNat * 1=k by omega,vS,sG,sG,AM]
   exact rE ⟨_,by omega,k + 1,rfl,by omega,rfl⟩ (ep 1 (zC iU (aT eo (by omega))) (hY iU (aT eo (by omega))))
  ·have hge:k=n:=sW fg j2;subst hge;rw [AN];refine EH.wk (.zd (st':=Rf k f e e ((List.range k).map fun b=>f b e)) 0 rfl rfl rfl rfl ?_) rfl rfl ?_
   ·refine ⟨⟨_,rfl,?_⟩,⟨_,rfl,?_⟩,⟨_,rfl,?_⟩,⟨_,rfl,K9 (by simp) (by omega) rfl⟩,trivial⟩
    ·grind [Cc]
    ·simp only [Cc]
    ·grind [Cc]
   ·have Vh:(ch ((cH k fun a b=>f b a).take e)).length=e:=by rw [sb,eP,Q8];omega
    have k0:ch ((cH k fun a b=>f b a).take e) ++ [[DV.sl 1 (sa ((List.range k).map fun b=>f b e)) none]]=ch ((cH k fun a b=>f b a).take (e + 1)):=by rw [List.take_add_one,ya ap];simp [ch]
    refine ⟨Vh,⟨by rw [Vh];simp [maxLen];omega,by rw [Vh];simp;omega⟩,?_⟩;exact rE ⟨_,by omega,e + 1,rfl,by omega,rfl⟩ (bc (hY (aT ap (by omega)) k0))
 ·have hge:e=n:=sW fg hL;subst hge;rw [List.take_of_length_le (by rw [Q8];omega)];exact ⟨_,ax,rfl⟩
def Lc (f:Nat->Nat->Bool) (n a b c:Nat):Bool:=(f a c && f b c) && (List.range n).all fun d=>!(f a d && f b d) || f c d
def jj (f:Nat->Nat->Bool) (n a b:Nat):Option Nat:=bE (Lc f n a b) n
def j7 (f:Nat->Nat->Bool) (a b c k:Nat):Bool:=(f a c && f b c) && (List.range k).all fun d=>!(f a d && f b d) || f c d
theorem DO (f:Nat->Nat->Bool) (a b c k:Nat):j7 f a b c (k + 1)=(j7 f a b c k && (!(f a k && f b k) || f c k)):=by
 simp only [j7,List.range_succ,List.all_append,List.all_cons,List.all_nil,Bool.and_true,Bool.and_assoc]
theorem uE (f:Nat->Nat->Bool) (a b c:Nat):j7 f a b c 0=(f a c && f b c):=by simp [j7]
abbrev Rg (n:Nat) (f:Nat->Nat->Bool) (a b e:Nat):St:=
 ⟨[aS 0 1 (ch (cH n f)),aq 1 a,aq 2 b,aq 7 e],[],[]⟩
abbrev Ch (n:Nat) (f:Nat->Nat->Bool) (a b e:Nat) (x:Bool) (k:Nat):St:=
 ⟨[aS 0 1 (ch (cH n f)),aq 1 a,aq 2 b,aq 7 e,xm 8 x,aq 9 k],[],[]⟩
theorem po (n:Nat) (f:Nat->Nat->Bool) (hn:n<=64) (a b:Nat) (ha:a < n) (hb:b < n) :
  aV prog 191 [.sl 1 (ch (cH n f)) none,.v (.int .i64 a),.v (.int .i64 b)] (.v (.int .i64 (oz (jj f n a b)))):=by
 have fg:=fM n f;refine eG 66 [.tmp 6] func191 rfl ntmps191 rfl fun _ _ _ _=>?_;refine lI (fun j st=>∃ e:Nat,st=Rg n f a b e/\e<=n/\(∀ c,c < e->Lc f n a b c=false)/\j=n - e) ⟨0,rfl,by omega,fun _ h=>by omega,rfl⟩ (bc wB) ?_;rintro j st ⟨e,rfl,he,hno,rfl⟩;refine br ?_ ?_<;>intro hL
 ·have ap:e < n:=sV fg hL;refine iX (dg ha) ?_;refine iX (cE ap) ?_;have e1:(f a e == true)=true->f b e=j7 f a b e 0:=fun g=>by rw [uE,show f a e=true by simpa using g];simp
  have e2:(f a e == true)=false->false=j7 f a b e 0:=fun g=>by rw [uE,show f a e=false by simpa using g];simp
  refine have body:=?_;br (fun g1=>⟨_,⟨by omega,dg hb⟩,⟨_,⟨by omega,cE ap⟩,aW (fun j st=>∃ k:Nat,st=Ch n f a b e (j7 f a b e k) k/\k<=n/\j=n - k) n (Ch n f a b e (j7 f a b e 0) 0) (bc (by repeat' (first | exact trivial | exact au rfl | exact (show We _ _ _ (DV.v (.bool (f b e))) _ from cz (e1 g1)) | refine ⟨⟨_,rfl,?_⟩,?_⟩))) ⟨0,rfl,by omega,by omega⟩ body⟩⟩) (fun g1=>aW (fun j st=>∃ k:Nat,st=Ch n f a b e (j7 f a b e k) k/\k<=n/\j=n - k) n (Ch n f a b e (j7 f a b e 0) 0) (bc (by repeat' (first | exact trivial | exact au rfl | exact (show We _ _ _ (DV.v (.bool false)) _ from cz (e2 g1)) | refine ⟨⟨_,rfl,?_⟩,?_⟩))) ⟨0,rfl,by omega,by omega⟩ body);rintro j st ⟨k,rfl,hk,rfl⟩;refine br ?_ ?_<;>intro j2
  ·have eo:k < n:=sV fg j2;have DP:=DO f a b e k;refine iX (dg ha) ?_;refine iX (cE eo) ?_;refine br ?_ ?_<;>intro g1
   ·refine iX (dg hb) ?_;refine iX (cE eo) ?_;refine br ?_ ?_<;>intro g2
    ·refine iX (dg ap) ?_;refine iX (cE eo) ?_;refine br ?_ ?_<;>intro g3
     ·have hx:false=j7 f a b e (k + 1):=by simp [pickB] at g1 g2 g3;rw [DP];simp [g1,g2,g3]
      exact rE ⟨_,by omega,k + 1,rfl,by omega,rfl⟩ (bc (hY (aT eo (by omega)) hx))
     ·have hx:j7 f a b e k=j7 f a b e (k + 1):=by simp [pickB] at g1 g2 g3;rw [DP];simp [g1,g2,g3]
      exact rE ⟨_,by omega,k + 1,rfl,by omega,rfl⟩ (bc (hY (aT eo (by omega)) hx))
    ·have hx:j7 f a b e k=j7 f a b e (k + 1):=by simp [pickB] at g1 g2;rw [DP];simp [g1,g2]
     exact rE ⟨_,by omega,k + 1,rfl,by omega,rfl⟩ (bc (hY (aT eo (by omega)) hx))
   ·have hx:j7 f a b e k=j7 f a b e (k + 1):=by simp [pickB] at g1;rw [DP];simp [g1]
    exact rE ⟨_,by omega,k + 1,rfl,by omega,rfl⟩ (bc (hY (aT eo (by omega)) hx))
  ·have hge:k=n:=sW fg j2;subst hge;refine br ?_ ?_<;>intro g
   ·have g:Lc f k a b e=true:=g;rw [jj,cg ap g hno];exact (rfl:_=_)
   ·have g:Lc f k a b e=false:=g;refine ⟨Rg k f a b (e + 1),(bc (c8 (aT ap (by omega)))),k - (e + 1),by omega,e + 1,rfl,by omega,fun j hj=>?_,rfl⟩;rcases ka hj with hj | rfl
    ·exact hno j hj
    ·exact g
 ·have hge:e=n:=sW fg hL;subst hge;rw [jj,cA hno];exact (rfl:_=_)
theorem G8 {l:List Wd} {i:Nat} {w:Wd} (hw:l[i]? = some w):∃ p,bV (al l) w.s=some p/\(p < i↔bR (l.take i) w.s=true):=by
 cases h:bV (al l) w.s with
 | none=>exact absurd (mG (kH hw)) (sQ.1 h)
 | some p=>
  refine ⟨p,rfl,?_⟩;obtain ⟨h1,h2,h3⟩:=cC h;rw [cw] at h1;have G9:∃ v,l[p]? = some v/\v.s=w.s:=by grind [kH]
  obtain ⟨v,hv,nW⟩:=G9;unfold bR;rw [List.any_eq_true];refine ⟨fun ap=>⟨v,mG (i:=p) (by rw [bM,zIfP ap];exact hv),by simp [nW]⟩,fun ⟨x,hx,BB⟩=>?_⟩;obtain ⟨j,hj⟩:=List.getElem?_of_mem hx
  grind [kH]
theorem vT {f:Nat->Nat->Bool} {n a b c:Nat}:Lc f n a b c=true↔f a c=true/\f b c=true/\∀ d,d < n->f a d=true->f b d=true->f c d=true:=by grind [Lc]
structure JD (f:Nat->Nat->Bool) (n:Nat):Prop where
 rfl':∀ a,a < n->f a a=true
 Aq:∀ a b,a < n->b < n->f a b=true->f b a=true->a=b
theorem JD.flip {f:Nat->Nat->Bool} {n:Nat} (h:JD f n):JD (fun x y=>f y x) n:=⟨h.rfl',fun a b ha hb h1 h2=>h.Aq a b ha hb h2 h1⟩
theorem Ha {f:Nat->Nat->Bool} {n a b c:Nat} (h:JD f n) (hc:c < n) (hj:Lc f n a b c=true):dE f n a b=some c:=by
 obtain ⟨h1,h2,h3⟩:=vT.1 hj
 have key:∀ e,e<=n->c < e->bestA (fun c=>f a c && f b c) f e=some c:=by
  intro e
  induction e with
  | zero=>intro _ h;omega
  | succ e ih=>
   intro he Qq;rw [bestA];by_cases W3:e=c
   ·subst W3;rw [zIfP];simp only [h1,h2,Bool.and_true,Bool.true_and]
    cases ho:bestA (fun c=>f a c && f b c) f e with
    | none=>rfl
    | some o=>
     have hp:=oy ho;have hl:=kA ho;simp only [bA] at hp;exact h3 o (by omega) hp.1 hp.2
   ·rw [ih (by omega) (by omega),ah];simp only [bA,yc,not_and];intro hp Vi;exact W3 (h.Aq e c (by omega) hc Vi (h3 e (by omega) hp.1 hp.2))
 grind [dE,kz]
theorem nr {f:Nat->Nat->Bool} {n a b:Nat} (h:JD f n):(dE f n a b).isNone=(jj f n a b).isNone:=by
 cases hj:jj f n a b with
 | some c=>
  obtain ⟨hc,hi,_⟩:=dN hj;rw [Ha h hc hi]
 | none=>
  cases hk:dE f n a b with
  | none=>rfl
  | some k=>
   obtain ⟨h1,h2,h3,h4⟩:=rU hk;have:=cL hj k h1;rw [vT.2 ⟨h2,h3,h4⟩] at this;cases this
def lF (f:Nat->Nat->Bool) (n a b:Nat):Bool:=(jj f n a b).isNone || (jj (fun x y=>f y x) n a b).isNone
theorem Ci {f:Nat->Nat->Bool} {n a b:Nat} (h:JD f n):je f n a b=lF f n a b:=by
 unfold je lF;rw [nr h,show gh f n a b=dE (fun x y=>f y x) n a b from rfl,nr h.flip]
theorem sc {f:Nat->Nat->Bool} {n b:Nat} (h:JD f n) (hb:b < n):(jj f n b b).isNone=false:=by
 have hi:Lc f n b b b=true:=vT.2 ⟨h.rfl' b hb,h.rfl' b hb,fun d _ h1 _=>h1⟩
 cases hj:jj f n b b with
 | some c=>rfl
 | none=>rw [cL hj b hb] at hi;cases hi
theorem JE {f:Nat->Nat->Bool} {n b:Nat} (h:JD f n) (hb:b < n):kB f n b=(List.range b).any fun a=>lF f n a b:=by
 unfold kB;rw [List.range_succ,List.any_append];simp only [List.any_cons,List.any_nil,Bool.or_false];rw [Ci h,show lF f n b b=false by unfold lF;rw [sc h hb,sc h.flip hb];rfl,Bool.or_false]
 grind [Ci]
theorem M5 {n:Nat} {l:List (Nat × Nat)} (hP:oo n l) (h4:bE (iF n (du n l)) n=none):JD (du n l) n where
 rfl':=fun a ha=>oq hP ha
 Aq:=fun a b ha hb h6 h7=>by grind [cL,iF]
abbrev Rh (l:List Wd) (o:List (Wd × Wd)) (e:Nat):St:=
 ⟨[aS 0 2 (bm l),aS 1 4 (j4 o),aF 4 0,aq 5 e],[[.v (.int .i64 0),.v (.int .i64 0)]],[]⟩
abbrev Ri (l:List Wd) (o:List (Wd × Wd)) (e:Nat):St:=
 ⟨[aS 0 2 (bm l),aS 1 4 (j4 o),aF 4 0,aq 6 e],[[.v (.int .i64 0),.v (.int .i64 0)]],[]⟩
abbrev Ld (l:List Wd) (n:Nat) (f:Nat->Nat->Bool) (e:Nat):St:=
 ⟨[aS 0 2 (bm l),aF 4 0,aS 7 1 (ch (cH n f)),aS 9 1 (ch (cH n fun a b=>f b a)),aq 10 e],[[.v (.int .i64 0),.v (.int .i64 0)]],[]⟩
abbrev Le (l:List Wd) (n:Nat) (f:Nat->Nat->Bool) (e k:Nat):St:=
 ⟨[aS 0 2 (bm l),aF 4 0,aS 7 1 (ch (cH n f)),aS 9 1 (ch (cH n fun a b=>f b a)),aq 10 e,aq 11 k],[[.v (.int .i64 0),.v (.int .i64 0)]],[]⟩
theorem vU (l:List Wd) (o:List (Wd × Wd)) (hs:wdsWt l<=1099511627776) (zq:prsWt o<=1099511627776) :
  aV prog 104 [.sl 2 (bm l) none,.sl 4 (j4 o) none] (latF l o).d:=by
 have nV:=bd l;have hsl2:=fG o;have hF:latF l o=latF l o:=rfl
 conv at hF=>rhs;unfold latF
 refine eG 150 [.cell 4 26] func104 rfl ntmps104 rfl fun _ _ _ _=>?_;generalize latF l o=F at hF ⊢;refine br ?_ ?_<;>intro h
 ·have h:l=[]:=by simpa [ak] using h
  rw [show ek l o=(15,0) by rw [ek,zIfP h],zIfP (by decide)] at hF;refine ⟨_,?_,rfl⟩;rw [hF];exact ax
 have h:¬ l=[]:=by simpa [ak] using h
 refine br ?_ ?_<;>intro h1
 ·have h1:32 < l.length:=by simp [ak] at h1;omega
  obtain ⟨x,hx⟩:∃ x,l[32]? = some x:=⟨_,gE h1⟩;rw [show ek l o=(8,x.a) by rw [ek,ah h,zIfP h1,hx];rfl,zIfP (by simp)] at hF;refine ⟨gm x,⟨by omega,aH hx⟩,?_⟩;refine ⟨_,?_,rfl⟩;rw [hF];exact ax
 have h1:¬ 32 < l.length:=by simp [ak] at h1;omega
 refine br ?_ ?_<;>intro h2
 ·have h2:256 < o.length:=by simp [ej] at h2;omega
  obtain ⟨x,hx⟩:∃ x,o[256]? = some x:=⟨_,gE h2⟩;rw [show ek l o=(8,x.1.a) by rw [ek,ah h,ah h1,zIfP h2,hx];rfl,zIfP (by simp)] at hF;refine ⟨Ex x,⟨by omega,eX hx⟩,?_⟩;refine ⟨_,?_,rfl⟩;rw [hF];exact ax
 have h2:¬ 256 < o.length:=by simp [ej] at h2;omega
 rw [show ek l o=(0,0) by rw [ek,ah h,ah h1,ah h2],ah (by decide)] at hF;have h0:enumL l 0 l=enumL l 0 (l.drop 0):=rfl;refine lI (fun j st=>∃ e:Nat,st=Rh l o e/\e<=l.length/\enumL l 0 l=enumL l e (l.drop e)/\j=l.length - e) ⟨0,rfl,by omega,rfl,rfl⟩ (bc wB) ?_;rintro j st ⟨e,rfl,he,aD,rfl⟩;refine br ?_ ?_<;>intro hL
 ·have ap:e < l.length:=by simpa [ak] using hL
  obtain ⟨w,hw⟩:=gX ap;have KN:=fA (mG hw);have hst:enumL l e (l.drop e)=if aA l e w≠0 then (aA l e w,w.a) else enumL l (e + 1) (l.drop (e + 1)):=by rw [drop_cons hw,enumL]
  obtain ⟨p,hp,Ei⟩:=G8 hw;have hf:=dP l w.s hs;rw [hp] at hf;refine ⟨gm w,⟨by omega,aH hw⟩,?_⟩;refine cP BO (iC w.s (by omega)) ?_;refine br ?_ ?_<;>intro hN
  ·have hN:aX w.s=false:=sU hN;have hf:aA l e w=9:=by simp [aA,hN]
   rw [aD,hst,hf,zIfP (show (9:Int)≠0 by decide),zIfP (by simp)] at hF;refine ⟨gm w,⟨by omega,aH hw⟩,?_⟩;refine ⟨_,?_,rfl⟩;rw [hF];exact ax
  ·have hN:aX w.s=true:=sU hN;refine ⟨gm w,⟨by omega,aH hw⟩,?_⟩;refine cP qY hf ?_;refine br ?_ ?_<;>intro h2
   ·have h2:p < e:=by have:=h2;simp [oz] at this;exact this
    have hf:aA l e w=10:=by simp [aA,hN,Ei.1 h2]
    rw [aD,hst,hf,zIfP (show (10:Int)≠0 by decide),zIfP (by simp)] at hF;refine ⟨gm w,⟨by omega,aH hw⟩,?_⟩;refine ⟨_,?_,rfl⟩;rw [hF];exact ax
   ·have h2:¬ p < e:=by have:=h2;simp [oz] at this;omega
    have hd:bR (l.take e) w.s=false:=by grind
    have hf:aA l e w=0:=by simp [aA,hN,hd]
    rw [hf,ah (by simp)] at hst;exact rE ⟨_,by omega,e + 1,rfl,by omega,by rw [aD,hst],rfl⟩ (bc (c8 (aT ap (by omega))))
 have hge:e=l.length:=by have:=hL;simp [ak] at this;omega
 rw [aD,hge,List.drop_length,show enumL l l.length []=(0,0) from rfl,ah (by decide)] at hF;refine lI (fun j st=>∃ e:Nat,st=Ri l o e/\e<=o.length/\numF (al l) o=numF (al l) (o.drop e)/\j=o.length - e) ⟨0,rfl,by omega,rfl,rfl⟩ (bc wB) ?_;clear aD hL hge he e;rintro j st ⟨e,rfl,he,aD,rfl⟩;refine br ?_ ?_<;>intro hL
 ·have ap:e < o.length:=by simpa [ej] using hL
  obtain ⟨w,hw⟩:=gX ap;have hst:numF (al l) (o.drop e)=if bV (al l) w.1.s=none then (17,w.1.a) else if bV (al l) w.2.s=none then (17,w.2.a) else numF (al l) (o.drop (e + 1)):=by rw [drop_cons hw,numF]
  refine ⟨Ex w,⟨by omega,eX hw⟩,?_⟩;refine cP qY (dP l w.1.s hs) ?_;refine br ?_ ?_<;>intro ha
  ·have ha:=ed.1 ha;rw [aD,hst,zIfP ha,zIfP (by simp)] at hF;refine ⟨Ex w,⟨by omega,eX hw⟩,?_⟩;refine ⟨_,?_,rfl⟩;rw [hF];exact ax
  have ha:¬ bV (al l) w.1.s=none:=fun hn=>by have:=ed.2 hn;rw [ha] at this;cases this
  refine ⟨Ex w,⟨by omega,eX hw⟩,?_⟩;refine cP qY (dP l w.2.s hs) ?_;refine br ?_ ?_<;>intro hb
  ·have hb:=ed.1 hb;rw [aD,hst,ah ha,zIfP hb,zIfP (by simp)] at hF;refine ⟨Ex w,⟨by omega,eX hw⟩,?_⟩;refine ⟨_,?_,rfl⟩;rw [hF];exact ax
  have hb:¬ bV (al l) w.2.s=none:=fun hn=>by have:=ed.2 hn;rw [hb] at this;cases this
  rw [ah ha,ah hb] at hst;exact rE ⟨_,by omega,e + 1,rfl,by omega,by rw [aD,hst],rfl⟩ (bc (c8 (aT ap (by omega))))
 have hge:e=o.length:=by have:=hL;simp [ej] at this;omega
 rw [hge,List.drop_length,show numF (al l) []=(0,0) from rfl] at aD;rw [aD,ah (by decide)] at hF;have ti:(numF (al l) o).1=0:=by rw [aD]
 have hP:oo l.length (cv (al l) o):=by have:=lh ti;rwa [cw] at this
 have SO:=M5 hP;have fg:=fM l.length (du l.length (cv (al l) o));refine cP Mg (yt l o (by omega) hs zq ti) ?_;generalize du l.length (cv (al l) o)=f at hF SO fg ⊢;refine cP Pp (yv l.length f (by omega)) ?_
 cases hlo:bE (iF l.length f) l.length with
 | some a=>
  rw [hlo] at hF;have ha:=(dN hlo).1;obtain ⟨x,hx⟩:∃ x,l[a]? = some x:=⟨_,gE ha⟩;simp only [iG hx] at hF;refine ⟨gm x,⟨by simp only [oz];omega,aH hx⟩,?_⟩;refine ⟨_,?_,rfl⟩;rw [hF];exact ax
 | none=>
 have SO:=SO hlo;rw [hlo] at hF;simp only at hF;refine cP Pq (DN l.length f (by omega)) ?_;refine lI (fun j st=>∃ e:Nat,st=Ld l l.length f e/\e<=l.length/\(∀ b,b < e->kB f l.length b=false)/\j=l.length - e) ⟨0,rfl,by omega,fun _ h=>by omega,rfl⟩ (bc wB) ?_;clear aD hL hge he e;rintro j st ⟨e,rfl,he,hno,rfl⟩;refine br ?_ ?_<;>intro hL
 ·have ap:e < l.length:=sV fg hL;have E6:=JE SO ap;refine lI (fun j st=>∃ k:Nat,st=Le l l.length f e k/\k<=e/\(∀ a,a < k->lF f l.length a e=false)/\j=e - k) ⟨0,rfl,by omega,fun _ h=>by omega,rfl⟩ (bc wB) ?_;rintro j st ⟨k,rfl,hk,nq,rfl⟩;refine br ?_ ?_<;>intro j2
  ·have eo:k < e:=sU j2;obtain ⟨x,hx⟩:=gX ap
   have DQ:lF f l.length k e=true->F=(12,x.a):=fun MN=>by
    rw [cg ap (by rw [E6,List.any_eq_true];exact ⟨k,by simpa using eo,MN⟩) hno] at hF;simp only [iG hx] at hF;exact hF
   refine cP Kq (po l.length f (by omega) k e (by omega) ap) ?_;refine br ?_ ?_<;>intro g1
   ·have g1:¬ jj f l.length k e=none:=fun hn=>by rw [ed.2 hn] at g1;cases g1
    refine cP Kq (po l.length (fun a b=>f b a) (by omega) k e (by omega) ap) ?_;refine br ?_ ?_<;>intro g2
    ·have g2:jj (fun a b=>f b a) l.length k e=none:=by
      rw [<- ed];simpa [pickB] using g2
     have hF:=DQ (by unfold lF;rw [g2];simp);refine ⟨gm x,⟨by omega,aH hx⟩,?_⟩;refine ⟨_,?_,rfl⟩;rw [hF];exact ax
    ·have g2:¬ jj (fun a b=>f b a) l.length k e=none:=fun hn=>by
      have h3:=ed.2 hn;simp [pickB] at g2;have h3:=of_decide_eq_true h3;omega
     refine ⟨Le l l.length f e (k + 1),(bc (c8 (aT eo (by omega)))),e - (k + 1),by omega,k + 1,rfl,by omega,fun j hj=>?_,rfl⟩;rcases ka hj with hj | rfl
     ·exact nq j hj
     ·unfold lF;rw [Option.isNone_eq_false_iff.2 (Option.isSome_iff_ne_none.2 g1),Option.isNone_eq_false_iff.2 (Option.isSome_iff_ne_none.2 g2)];rfl
   ·have g1:jj f l.length k e=none:=by
     rw [<- ed];simpa using g1
    have hF:=DQ (by unfold lF;rw [g1];rfl);refine ⟨gm x,⟨by omega,aH hx⟩,?_⟩;refine ⟨_,?_,rfl⟩;rw [hF];exact ax
  ·have hge:k=e:=by have:=j2;simp at this;omega
   subst hge;refine ⟨Ld l l.length f (k + 1),(bc (c8 (aT ap (by omega)))),l.length - (k + 1),by omega,k + 1,rfl,by omega,fun j hj=>?_,rfl⟩;rcases ka hj with hj | rfl
   ·exact hno j hj
   ·grind
 ·have hge:e=l.length:=sW fg hL;subst hge;rw [cA hno] at hF;simp only at hF;refine ⟨_,?_,rfl⟩;rw [hF];exact ax
abbrev Vj (n:Nat) (f:Nat->Nat->Bool) (l:List Nat) (c e:Nat):St:=
 ⟨[aS 0 1 (ch (cH n f)),aS 1 1 (dInts l),aq 2 c,aq 7 e],[],[]⟩
theorem uF (n:Nat) (f:Nat->Nat->Bool) (hn:n<=64) (l:List Nat) (hl:∀ i∈l,i < n) (NS:l.length<=1099511627776) (c:Nat) (hc:c < n) :
  aV prog 273 [.sl 1 (ch (cH n f)) none,.sl 1 (dInts l) none,.v (.int .i64 c)] (.v (.bool (fb f l c))):=by
 have fg:=fM n f;have Eu:=aY l;refine eG 25 [.tmp 6] func273 rfl ntmps273 rfl fun _ _ _ _=>?_;refine lI (fun j st=>∃ e:Nat,st=Vj n f l c e/\e<=l.length/\fb f l c=fb f (l.drop e) c/\j=l.length - e) ⟨0,rfl,by omega,rfl,rfl⟩ (bc wB) ?_;rintro j st ⟨e,rfl,he,aD,rfl⟩;rw [aD];refine br ?_ ?_<;>intro hL
 ·have ap:e < l.length:=by have:=hL;simp [Eu] at this;exact this
  obtain ⟨i,hi⟩:=gX ap;have wH:=hl i (mG hi);have hst:fb f (l.drop e) c=(f i c && fb f (l.drop (e + 1)) c):=by unfold fb;rw [drop_cons hi,List.all_cons]
  refine iX (bY hi) ?_;refine iX (dg wH) ?_;refine iX (cE hc) ?_;refine br ?_ ?_<;>intro g
  ·have g:f i c=false:=sU g;rw [hst,g,Bool.false_and];exact (rfl:_=_)
  ·have g:f i c=true:=sU g;rw [g,Bool.true_and] at hst;exact rE ⟨_,by omega,e + 1,rfl,by omega,hst,rfl⟩ (bc (c8 (aT ap (by omega))))
 ·have hge:e=l.length:=sW Eu hL;rw [hge,List.drop_length];exact (rfl:_=_)
def se (f:Nat->Nat->Bool) (l:List Nat) (c k:Nat):Bool:=fb f l c && (List.range k).all fun d=>!fb f l d || f c d
theorem DR (f:Nat->Nat->Bool) (l:List Nat) (c:Nat):se f l c 0=fb f l c:=by simp [se]
theorem DS (f:Nat->Nat->Bool) (l:List Nat) (c k:Nat):se f l c (k + 1)=(se f l c k && (!fb f l k || f c k)):=by grind [se]
abbrev Rj (n:Nat) (f:Nat->Nat->Bool) (l:List Nat) (e:Nat):St:=
 ⟨[aS 0 1 (ch (cH n f)),aS 1 1 (dInts l),aq 5 e],[],[]⟩
abbrev Rk (n:Nat) (f:Nat->Nat->Bool) (l:List Nat) (e:Nat) (x:Bool) (k:Nat):St:=
 ⟨[aS 0 1 (ch (cH n f)),aS 1 1 (dInts l),aq 5 e,xm 6 x,aq 7 k],[],[]⟩
theorem AO (n:Nat) (f:Nat->Nat->Bool) (hn:n<=64) (l:List Nat) (hl:∀ i∈l,i < n) (NS:l.length<=1099511627776) :
  aV prog 202 [.sl 1 (ch (cH n f)) none,.sl 1 (dInts l) none] (.v (.int .i64 (oz (dx f n l)))):=by
 have fg:=fM n f;refine eG 40 [.tmp 4] func202 rfl ntmps202 rfl fun _ _ _ _=>?_;refine lI (fun j st=>∃ e:Nat,st=Rj n f l e/\e<=n/\(∀ c,c < e->oA f n l c=false)/\j=n - e) ⟨0,rfl,by omega,fun _ h=>by omega,rfl⟩ (bc wB) ?_;rintro j st ⟨e,rfl,he,hno,rfl⟩;refine br ?_ ?_<;>intro hL
 ·have ap:e < n:=sV fg hL;refine cP KE (uF n f hn l hl NS e ap) ?_;refine lJ (fun k=>Rk n f l e (se f l e k) k) n (bc (c8 ((DR f l e).symm))) ?_;intro k hk;refine br ?_ ?_<;>intro j2
  ·have eo:k < n:=sV fg j2;have DP:=DS f l e k;refine cP KE (uF n f hn l hl NS k eo) ?_;refine br ?_ ?_<;>intro g1
   ·refine iX (dg ap) ?_;refine iX (cE eo) ?_;refine br ?_ ?_<;>intro g2
    ·have hx:false=se f l e (k + 1):=by simp [pickB] at g1 g2;rw [DP];simp [g1,g2]
     exact rE ⟨_,by omega,k + 1,rfl,by omega,rfl⟩ (bc (hY (aT eo (by omega)) hx))
    ·have hx:se f l e k=se f l e (k + 1):=by simp [pickB] at g1 g2;rw [DP];simp [g1,g2]
     exact rE ⟨_,by omega,k + 1,rfl,by omega,rfl⟩ (bc (hY (aT eo (by omega)) hx))
   ·have hx:se f l e k=se f l e (k + 1):=by simp [pickB] at g1;rw [DP];simp [g1]
    exact rE ⟨_,by omega,k + 1,rfl,by omega,rfl⟩ (bc (hY (aT eo (by omega)) hx))
  ·have hge:k=n:=sW fg j2;subst hge;refine br ?_ ?_<;>intro g
   ·have g:oA f k l e=true:=g;rw [dx,cg ap g hno];exact (rfl:_=_)
   ·have g:oA f k l e=false:=g;refine ⟨Rj k f l (e + 1),(bc (c8 (aT ap (by omega)))),k - (e + 1),by omega,e + 1,rfl,by omega,fun j hj=>?_,rfl⟩;rcases ka hj with hj | rfl
    ·exact hno j hj
    ·exact g
 ·have hge:e=n:=sW fg hL;subst hge;rw [dx,cA hno];exact (rfl:_=_)
abbrev M6 (lv:List Wd) (f:Nat->Nat->Bool) (l:List Wd) (q e:Nat):St:=
 ⟨[aS 0 2 (bm lv),aS 1 1 (ch (cH lv.length f)),aS 2 2 (bm l),aF 7 0,(8,⟨[],.sl 1 (dInts (jU (al lv) (l.take e))) (some 0)⟩),aq 9 e],[[.v (.int .i64 0),.v (.int .i64 0)]],[⟨q,3,1,none⟩]⟩
theorem JF {L:List ByteArray} {l:List Wd} {i:Nat} (h:i∈jU L l) (hL:0 < L.length):i < L.length:=by
 unfold jU at h;obtain ⟨w,_,rfl⟩:=List.mem_map.1 h
 cases hx:bV L w.s with
 | none=>simpa using hL
 | some p=>exact (cC hx).1
theorem AP {L:List ByteArray} {l:List Wd} {e i:Nat} {w:Wd} (h:l[e]? = some w) (hi:bV L w.s=some i):dInts (jU L (l.take e)) ++ [[DV.v (.int .i64 (oz (some i)))]]=dInts (jU L (l.take (e + 1))):=by
 rw [oD h hi];simp [dInts,oz]
theorem DT (lv:List Wd) (f:Nat->Nat->Bool) (h0:0 < lv.length) (hn:lv.length<=32) (hs:wdsWt lv<=1099511627776) (l:List Wd) (hl:wdsWt l<=1099511627776) :
  aV prog 115 [.sl 2 (bm lv) none,.sl 1 (ch (cH lv.length f)) none,.sl 2 (bm l) none] (DE f (al lv) l):=by
 have nV:=bd l;have fi:=cw lv;unfold DE vM;refine eG 40 [.tmp 6,.cell 7 26] func115 rfl ntmps115 rfl fun _ _ _ _=>?_;refine lI (fun j st=>∃ e:Nat,st=M6 lv f l e e/\e<=l.length/\labW (al lv) l=labW (al lv) (l.drop e)/\j=l.length - e) ⟨0,rfl,by omega,rfl,rfl⟩ (dG ⟨0,3,1,none⟩ rfl ⟨_,rfl⟩ rfl wA rfl rfl pE) ?_;rintro j st ⟨e,rfl,he,aD,rfl⟩;rw [aD];refine br ?_ ?_<;>intro hL
 ·have ap:e < l.length:=by simpa [ak] using hL
  obtain ⟨w,hw⟩:=gX ap;have hst:=oC (L:=al lv) hw;refine ⟨gm w,⟨by omega,aH hw⟩,?_⟩;refine cP qY (dP lv w.s hs) ?_;refine br ?_ ?_<;>intro ha
  ·have ha:=ed.1 ha;rw [hst,zIfP ha];refine dS ?_;refine ⟨gm w,⟨by omega,aH hw⟩,?_⟩;exact ⟨_,ax,rfl⟩
  ·cases hi:bV (al lv) w.s with
   | none=>have:=ed.2 hi;rw [ha] at this;cases this
   | some i=>
   rw [ah (by rw [hi];simp)] at hst;refine ⟨by simp [aY,jU];omega,⟨by simp [aY,jU,maxLen];omega,by simp [aY,jU];omega⟩,?_⟩;exact rE ⟨_,by omega,e + 1,rfl,by omega,hst,rfl⟩ (bc (hY (aT ap (by omega)) (AP hw hi)))
 ·have hge:e=l.length:=by have:=hL;simp [ak] at this;omega
  rw [hge,List.drop_length,List.take_length];refine cP Pt (AO lv.length f (by omega) (jU (al lv) l) (fun i hi=>by have:=JF hi (by omega);omega) (by simp [jU];omega)) ?_;rw [<- fi];exact ⟨_,ax,rfl⟩
theorem M7 {S:Sch} {e:Nat} {x:Wd × Ty} (h:S.types[e]? = some x):(tL S)[e]? = some x.1.s:=by simp [tL,al,pL,h]
abbrev Lf (S:Sch) (s:ByteArray) (e:Nat):St:=
 ⟨[(1,⟨[],.v (.string s)⟩),aF 2 0,aq 5 e],[cM S],[]⟩
theorem iH (S:Sch) (s:ByteArray) (hl:S.types.length<=1099511627776) :
  aV prog 116 [.agg (cM S),.v (.string s)] (.v (.int .i64 (oz (bV (tL S) s)))):=by
 have hN:=cO S.types;have lr:=iO S;have gH:=@M7 S;obtain ⟨ae,order,types,⟨rh,rp⟩⟩:=S;simp only at hl hN lr gH;refine eG 23 [.tmp 4] func116 rfl ntmps116 rfl fun _ _ _ _=>?_;refine lI (fun j st=>∃ e:Nat,st=Lf ⟨ae,order,types,.mk rh rp⟩ s e/\e<=types.length/\(∀ j,j < e->(tL ⟨ae,order,types,.mk rh rp⟩)[j]? ≠ some s)/\j=types.length - e) ⟨0,rfl,by omega,fun _ h=>by omega,rfl⟩ (bc wB) ?_;rintro j st ⟨e,rfl,he,hno,rfl⟩;refine br ?_ ?_<;>intro hL
 ·have ap:e < types.length:=by have:=hL;simp [hN] at this;exact this
  obtain ⟨x,hx⟩:=gX ap;have hg:=gH hx;obtain ⟨xw,⟨xh,xp⟩⟩:=x;refine iX (dNms_get hx) ?_;refine br ?_ ?_<;>intro hq
  ·have hq:xw.s=s:=sU hq;rw [p8 (p:=e) (by rw [hg,hq]) (fun j hj=>Nat.le_of_not_lt fun hl=>hno j hl hj)];exact (rfl:_=_)
  ·have hq:¬ xw.s=s:=sU hq;refine ⟨Lf ⟨ae,order,types,.mk rh rp⟩ s (e + 1),(bc (c8 (aT ap (by omega)))),types.length - (e + 1),by omega,e + 1,rfl,by omega,fun j hj=>?_,rfl⟩;rcases ka hj with hj | rfl
   ·exact hno j hj
   ·rw [hg];simpa using hq
 ·have hge:e=types.length:=sW hN hL;rw [Cg (fun j hj=>hno j (by omega))];exact (rfl:_=_)
abbrev Rm (S:Sch) (l:List Wd) (e:Nat):St:=
 ⟨[aS 1 2 (bm l),aF 2 0,aF 4 1,aq 5 e],[cM S,[.v (.int .i64 0),.v (.int .i64 0)]],[]⟩
theorem yw (S:Sch) (hs:wdsWt S.ae<=1099511627776) (l:List Wd) (hl:wdsWt l<=1099511627776) :
  aV prog 198 [.agg (cM S),.sl 2 (bm l) none] (labW (al S.ae) l).d:=by
 have nV:=bd l;obtain ⟨ae,order,types,⟨rh,rp⟩⟩:=S;simp only at hs;refine eG 28 [.cell 4 26] func198 rfl ntmps198 rfl fun _ _ _ _=>?_;refine lI (fun j st=>∃ e:Nat,st=Rm ⟨ae,order,types,.mk rh rp⟩ l e/\e<=l.length/\labW (al ae) l=labW (al ae) (l.drop e)/\j=l.length - e) ⟨0,rfl,by omega,rfl,rfl⟩ (bc wB) ?_;rintro j st ⟨e,rfl,he,aD,rfl⟩;rw [aD];refine br ?_ ?_<;>intro hL
 ·have ap:e < l.length:=by simpa [ak] using hL
  obtain ⟨w,hw⟩:=gX ap;have hst:=oC (L:=al ae) hw;refine dI ?_;refine ⟨gm w,⟨by omega,aH hw⟩,?_⟩;refine cD qY (dP ae w.s hs) ?_;refine br ?_ ?_<;>intro ha
  ·have ha:=ed.1 ha;rw [hst,zIfP ha];refine ⟨gm w,⟨by omega,aH hw⟩,?_⟩;exact ⟨_,ax,rfl⟩
  ·rw [ah (fun hn=>by have:=ed.2 hn;rw [ha] at this;cases this)] at hst;exact rE ⟨_,by omega,e + 1,rfl,by omega,hst,rfl⟩ (bc (c8 (aT ap (by omega))))
 ·have hge:e=l.length:=by have:=hL;simp [ak] at this;omega
  rw [hge,List.drop_length];exact ⟨_,ax,rfl⟩
def fk (l:List Ty):List (List DV):=l.map cX
theorem cQ (l:List Ty):(fk l).length=l.length:=by simp [fk]
theorem iu {l:List Ty} {j:Nat} {t:Ty} (h:l[j]? = some t):(fk l)[j]? = some (cX t):=by simp [fk,h]
def eO (S:Sch):List Ty:=S.types.map fun x=>x.2
def fh (S:Sch):List Ty:=eO S ++ [S.root]
abbrev Rn (S:Sch) (q e:Nat):St:=
 ⟨[aF 1 0,(3,⟨[],.sl 9 (fk ((eO S).take e)) (some 0)⟩),aq 4 e],[cM S],[⟨q,36,9,none⟩]⟩
theorem yx (S:Sch) (hl:S.types.length<=1099511627776) :
  aV prog 50 [.agg (cM S)] (.sl 9 (fk (fh S)) none):=by
 have hN:=cO S.types;obtain ⟨ae,order,types,⟨rh,rp⟩⟩:=S;simp only at hl hN;refine eG 26 [.tmp 2] func50 rfl ntmps50 rfl fun _ _ _ _=>?_;refine lJ (fun e=>Rn ⟨ae,order,types,.mk rh rp⟩ e e) types.length (eS 1 ⟨0,36,9,none⟩ rfl rfl rfl zB rfl rfl pE) ?_;intro e he;have lr:(fk ((eO ⟨ae,order,types,.mk rh rp⟩).take e)).length=e:=by simp [fk,eO];omega
 refine br ?_ ?_<;>intro hL
 ·have ap:e < types.length:=by have:=hL;simp [hN] at this;exact this
  obtain ⟨x,hx⟩:=gX ap
  have k0:fk ((eO ⟨ae,order,types,.mk rh rp⟩).take e) ++ [cX x.2]=fk ((eO ⟨ae,order,types,.mk rh rp⟩).take (e + 1)):=by
   rw [List.take_add_one];simp [eO,hx,fk]
  obtain ⟨xw,⟨xh,xp⟩⟩:=x;refine iX (dNms_get hx) ?_;refine ⟨lr,⟨by rw [lr];simp [maxLen];omega,by rw [lr];simp;omega⟩,?_⟩;exact rE ⟨_,by omega,e + 1,rfl,by omega,rfl⟩ (ep 1 (zC (aT ap (by omega)) k0) (hY (aT ap (by omega)) k0))
 ·have hge:e=types.length:=sW hN hL;have LJ:fk ((eO ⟨ae,order,types,.mk rh rp⟩).take e) ++ [cX (.mk rh rp)]=fk (fh ⟨ae,order,types,.mk rh rp⟩):=by grind [eO,fh,fk]
  refine ⟨lr,⟨by rw [lr];simp [maxLen];omega,by rw [lr];simp;omega⟩,?_⟩;rw [<- LJ];exact ⟨_,ax,rfl⟩
mutual
def flatT:Ty->List Ty
 | .mk h ps=>if h.ai=9 then [] else .mk h ps :: flatP ps
def flatP:Pts->List Ty
 | .nil=>[]
 | .cons p t r=>(if p.bare then [] else flatT t) ++ flatP r
end
mutual
theorem gU:∀ t:Ty,(flatT t).length=t.nn
 | .mk h ps=>by
  have:=oL ps
  grind [flatT,Ty.nn]
theorem oL:∀ ps:Pts,(flatP ps).length=ps.nn
 | .nil=>rfl
 | .cons p t r=>by
  have:=gU t;have:=oL r
  grind [flatP,Pts.nn]
end
theorem JG {P:Program} {f:FuncId} {args:List DV} {e:Nat} {es:List (List DV)} (h:Ev P f args [] [] (fun r _ _=>r = .sl e es none∨(es=[]/\r = .v (.slice none 0 0)))):aV P f args (.sl e es none):=by
 intro E w vs hE ht hv;refine (h E w vs hE ht hv).mono ?_;rintro e' w' ⟨v,rfl,hM,hs,d,os,E',h1,h2,h3,h4,h5,h6⟩;rcases h6 with rfl | ⟨rfl,rfl⟩
 ·exact ⟨v,rfl,hM,hs,_,os,E',h1,h2,h3,h4,h5,rfl⟩
 ·refine ⟨v,rfl,hM,hs,.sl e [] none,os,E',h1,h2,h3,h4,?_,rfl⟩;unfold Rv at h5 ⊢;exact ⟨_,0,0,h5.1,⟨rfl,zLeR _⟩,fun hn=>(hn rfl).elim,fun k hk=>by cases hk⟩
abbrev M8 (t:Ty) (L:List Ty) (q e:Nat):St:=
 ⟨[aF 1 0,(3,⟨[],.sl 9 (fk L) (some 0)⟩),aq 4 e],[cX t],[⟨q,36,9,none⟩]⟩
theorem lk:∀ (k:Nat) (t:Ty),t.wt<=k->t.wt<=1099511627776 ->
  aV prog 51 [.agg (cX t)] (.sl 9 (fk (flatT t)) none)
 | 0,t,hn,_=>by have:=t.gv;omega
 | k + 1,.mk h ps,hn,bI=>by
  simp only [Ty.wt,Hd.wt] at hn bI;have ml:=ps.dX;have hc:=ps.dr;have mC:=ps.eI;have Ow:=oL ps;refine JG ?_;refine vd (s:=false) (bt:=[]) (mu:=[9]) (hbt:=fun p hp=>by cases hp) (fr:=false) (P:=prog) tt tM 5000 34 [.tmp 2] func51 rfl ntmps51 rfl (nL rfl) (fun _ _ _ _=>?_);refine br ?_ ?_<;>intro h9
  ·have h9:h.ai=9:=sU h9;have:flatT (.mk h ps)=[]:=by simp [flatT,h9]
   exact .inr ⟨by rw [this];rfl,rfl⟩
  have h9:¬ h.ai=9:=sU h9;have Vk:flatT (.mk h ps) = .mk h ps :: flatP ps:=by simp [flatT,h9]
  refine My rfl rfl rfl rfl rfl rfl rfl rfl ?_
  refine aW (fun j st=>∃ (e q:Nat) (L:List Ty),st=M8 (.mk h ps) L q e/\q=L.length/\e<=ps.len/\flatT (.mk h ps)=L ++ flatP (ps.drop e)/\j=ps.len - e) ps.len
   (M8 (.mk h ps) [.mk h ps] 1 0) (ep 1 zB pE) ⟨0,1,_,rfl,rfl,by omega,Vk,by omega⟩ ?_
  rintro j st ⟨e,q,L,rfl,hq,he,bi,rfl⟩
  have Ro:L.length<=1 + ps.nn:=by
   have:=congrArg List.length bi;rw [Vk] at this;simp at this;omega
  refine br ?_ ?_<;>intro hL
  ·have ap:e < ps.len:=by simpa [aC] using hL
   obtain ⟨p,t,hx⟩:=Pts.dq ap;have C0:=Pts.eC (mG hx);rw [Pts.drop_cons hx] at bi;simp only [flatP] at bi;obtain ⟨u,us⟩:=t;refine iX (bz hx) ?_;refine br ?_ ?_<;>intro hB
   ·have hB:p.bare=false:=sU hB;have bi:flatT (.mk h ps)=(L ++ flatT (.mk u us)) ++ flatP (ps.drop (e + 1)):=by rw [bi,hB,List.append_assoc];all_goals rfl
    have NS:L.length + (flatT (.mk u us)).length<=1 + ps.nn:=by
     have:=congrArg List.length bi;rw [Vk] at this;simp at this;omega
    have k0:fk L ++ fk (flatT (.mk u us))=fk (L ++ flatT (.mk u us)):=by simp [fk]
    refine iX (bz hx) ?_;refine cP IJ (lk k (.mk u us) (by omega) (by omega)) ?_;refine ⟨by rw [cQ,hq],⟨by simp only [cQ,maxLen];omega,by simp only [cQ];omega⟩,?_⟩;exact ⟨M8 (.mk h ps) (L ++ flatT (.mk u us)) (q + (fk (flatT (.mk u us))).length) (e + 1),(ep 1 (zC (aT ap (by omega)) k0) (hY (aT ap (by omega)) k0)),ps.len - (e + 1),by omega,e + 1,_,_,rfl,by rw [cQ,List.length_append,hq],by omega,bi,rfl⟩
   ·have hB:p.bare=true:=sU hB;rw [hB] at bi;exact rE ⟨_,by omega,e + 1,q,L,rfl,hq,by omega,bi,rfl⟩ (ep 1 (ve (aT ap (by omega))) (c8 (aT ap (by omega))))
  ·have hge:e=ps.len:=by simp [aC] at hL;omega
   rw [hge,Pts.cu] at bi;simp only [flatP,List.append_nil] at bi;rw [bi];exact ⟨_,ax,.inl rfl⟩
theorem sg (S:Sch) (hl:S.types.length<=1099511627776) (hr:∀ x∈S.types,pM S x.2=true):∀ (k i:Nat),i < S.types.length->k<=99 ->
  aV prog 108 [.agg (cM S),.v (.int .i64 i),.v (.int .i64 k)] (.v (.int .i64 (oz (endI S (k + 1) i))))
 | k,i,hi,hk=>by
  have hN:=cO S.types;have rN:=fun s=>iH S s hl;have ih:∀ k' j,k=k' + 1->j < S.types.length->aV prog 108 [.agg (cM S),.v (.int .i64 j),.v (.int .i64 k')] (.v (.int .i64 (oz (endI S (k' + 1) j)))):=fun k' j he hj=>sg S hl hr k' j hj (by omega);obtain ⟨x,hx⟩:∃ x,S.types[i]? = some x:=⟨_,gE hi⟩;have SG:=hr x (mG hx);have lr:=iO S;obtain ⟨xw,⟨xh,xp⟩⟩:=x;have hE:endI S (k + 1) i=if xh.ai=9 then endI S k ((bV (tL S) xh.name.s).getD 0) else some i:=by rw [endI,hx];all_goals rfl
  obtain ⟨ae,order,types,⟨rh,rp⟩⟩:=S;simp only at hl hN hi hx SG lr;refine eG 32 [.tmp 6] func108 rfl ntmps108 rfl fun _ _ _ _=>?_;refine iX (dNms_get hx) ?_;refine br ?_ ?_<;>intro h9
  ·have h9:¬ xh.ai=9:=sU h9;rw [ah h9] at hE;rw [hE];exact (rfl:_=_)
  have h9:xh.ai=9:=sU h9;rw [zIfP h9] at hE;rw [hE];refine br ?_ ?_<;>intro h1
  ·have h1:k=0:=by have:=h1;simp at this;omega
   subst h1;exact (rfl:_=_)
  have h1:1<=k:=by have:=h1;simp at this;omega
  obtain ⟨k',rfl⟩:∃ k',k=k' + 1:=⟨k - 1,by omega⟩;have HW:=of_decide_eq_true SG h9;obtain ⟨j,hj⟩:∃ j,bV (tL ⟨ae,order,types,.mk rh rp⟩) xh.name.s=some j:=Option.ne_none_iff_exists'.1 HW;have pA:=(cC hj).1;rw [lr] at pA;have hf:=rN xh.name.s;rw [hj] at hf ⊢;have fl:IntKind.i64.wrap (((k' + 1:Nat):Int) - 1)=(k':Int):=by rw [wrap64 (by omega) (by omega)];omega
  refine dI ?_;refine iX (dNms_get hx) ?_;refine cD BL hf ?_;refine cD Fs (ih k' j rfl pA) ?_ (pW fl);exact (rfl:_=_)
theorem oM {S:Sch}:∀ {k i j:Nat},endI S k i=some j->endI S (k + 1) i=some j
 | 0,i,j,h=>by cases h
 | k + 1,i,j,h=>by
  rw [endI] at h ⊢
  cases hx:S.types[i]? with
  | none=>rw [hx] at h;cases h
  | some x=>
   rw [hx] at h;simp only at h ⊢;split at h
   ·rename_i h9;rw [zIfP h9];exact oM h
   ·rename_i h9;rw [ah h9];exact h
def sZ (S:Sch) (k:Nat):List Bool:=(List.range S.types.length).map fun i=>(endI S k i).isSome
theorem nu (S:Sch) (k:Nat):(sZ S k).length=S.types.length:=by simp [sZ]
theorem si {S:Sch} {k i:Nat} (hi:i < S.types.length):(sZ S k).getD i false=(endI S k i).isSome:=by grind [sZ]
theorem JH (S:Sch) (k:Nat):HZ (sZ S k) (sZ S (k + 1)):=by
 intro i h;by_cases hi:i < S.types.length
 ·rw [si hi] at h ⊢;obtain ⟨j,hj⟩:=Option.isSome_iff_exists.1 h;rw [oM hj];rfl
 ·grind [nu]
theorem Hb {S:Sch} {k:Nat} (h:sZ S k=sZ S (k + 1)):∀ i,endI S (k + 2) i=endI S (k + 1) i:=by
 intro i
 have key:∀ {j:Nat},j < S.types.length->(endI S k j).isSome=(endI S (k + 1) j).isSome:=fun {j} hj=>by
  rw [<- si hj,<- si hj,h]
 have same:∀ j,endI S (k + 1) j=endI S k j:=fun j=>by
  cases h1:endI S k j with
  | some m=>exact oM h1
  | none=>
   cases h2:endI S (k + 1) j with
   | none=>rfl
   | some m=>grind [endI]
 grind [endI]
theorem uG (S:Sch):∀ k,(∀ i,endI S (k + 1) i=endI S k i)∨k<=pK (sZ S k)
 | 0=>.inr (Nat.zero_le _)
 | k + 1=>by
  rcases uG S k with h | h
  ·grind [endI]
  ·rcases (leB_eq (by rw [nu,nu]) (JH S k)).1 with h2 | h2
   ·exact .inl (Hb h2)
   ·exact .inr (by omega)
theorem yy {S:Sch}:∀ {k:Nat},S.types.length + 1<=k->∀ i,endI S k i=endI S (S.types.length + 1) i:=by
 have hst:∀ i,endI S (S.types.length + 2) i=endI S (S.types.length + 1) i:=fun i=>by
  rcases uG S (S.types.length + 1) with h | h
  ·exact h i
  ·grind [cntB_le,sZ,nu]
 have key:∀ d i,endI S (S.types.length + 1 + (d + 1)) i=endI S (S.types.length + 1 + d) i:=by
  intro d
  induction d with
  | zero=>exact hst
  | succ d ih=>grind [endI]
 intro k hk i;obtain ⟨d,rfl⟩:∃ d,k=S.types.length + 1 + d:=⟨k - (S.types.length + 1),by omega⟩;clear hk
 induction d with
 | zero=>rfl
 | succ d ih=>rw [key,ih]
theorem sj (S:Sch) (hl:S.types.length<=64) (hr:∀ x∈S.types,pM S x.2=true) (i:Nat) (hi:i < S.types.length) :
  aV prog 108 [.agg (cM S),.v (.int .i64 i),.v (.int .i64 (99:Nat))] (.v (.int .i64 (oz (endI S (S.types.length + 1) i)))):=by
 have:=sg S (by omega) hr 99 i hi (zLeR _)
 rwa [yy (by omega)] at this
abbrev Rp (S:Sch) (k n e:Nat):St:=
 ⟨[aF 2 0,aq 5 k,aq 6 n,aq 7 e],[cM S],[]⟩
theorem sk (S:Sch) (hl:S.types.length<=64) (hs:nmsWt S.types<=1099511627776) (hr:∀ x∈S.types,pM S x.2=true) (s:ByteArray) (i k:Nat) (hi:bV (tL S) s=some i) (hk:endI S (S.types.length + 1) i=some k) :
  aV prog 53 [.agg (cM S),.v (.string s)] (.v (.int .i64 (firstA S k))):=by
 have hN:=cO S.types;have Eu:=(cC hi).1;rw [iO] at Eu;have xi:=(qa hk).1;have hf:=iH S s (by omega);have he:=sj S hl hr i Eu;rw [hi] at hf;rw [hk] at he;have W4:=@kE S;have B9:=ux S;obtain ⟨ae,order,types,⟨rh,rp⟩⟩:=S;simp only at hl hs hN Eu xi W4 B9;refine eG 29 [.tmp 4] func53 rfl ntmps53 rfl fun _ _ _ _=>?_;refine dI ?_;refine cD BL hf ?_;refine cD Fs he ?_;refine lJ (fun e=>Rp ⟨ae,order,types,.mk rh rp⟩ k (firstA ⟨ae,order,types,.mk rh rp⟩ e) e) k (bc wB) ?_;intro e hek;refine br ?_ ?_<;>intro hL
 ·have ap:e < k:=sU hL;obtain ⟨x,hx⟩:∃ x,types[e]? = some x:=⟨_,gE (by omega)⟩;have KN:=eN (mG hx);have h1:=W4 hx;have h2:=B9 e;have h3:=B9 (e + 1);have h4:=gU x.2;obtain ⟨xw,⟨xh,xp⟩⟩:=x;simp only at KN h1 h4;refine iX (dNms_get hx) ?_;refine cP IJ (lk _ (.mk xh xp) (zLeR _) (by omega)) ?_;have tT:IntKind.i64.wrap ((firstA ⟨ae,order,types,.mk rh rp⟩ e:Int) + (fk (flatT (.mk xh xp))).length)=(firstA ⟨ae,order,types,.mk rh rp⟩ (e + 1):Int):=by grind [cQ,wrap64]
  exact rE ⟨_,by omega,e + 1,rfl,by omega,rfl⟩ (bc (hY tT (aT ap (by omega))))
 ·have hge:e=k:=by have:=hL;simp at this;omega
  subst hge;exact (rfl:_=_)
theorem Cj {S:Sch} {e:Nat} {x:Wd × Ty} (h:S.types[e]? = some x):(pL S)[e]? = some x.1:=by simp [pL,h]
abbrev Rq (S:Sch) (e:Nat):St:=
 ⟨[aF 1 0,aF 2 1,aq 3 e],[cM S,[.v (.int .i64 0),.v (.int .i64 0)]],[]⟩
theorem vV (S:Sch) (hs:nmsWt S.types<=1099511627776) :
  aV prog 105 [.agg (cM S)] (dy S).d:=by
 have hN:=cO S.types;have fi:=gQ S.types;have lr:=Cd S;have hF:=dy.eq_1 S;have gH:=@Cj S;have rN:=fun s=>iH S s (by omega);have QH:tL S=al (pL S):=rfl;obtain ⟨ae,order,types,⟨rh,rp⟩⟩:=S;simp only at hs hN fi lr gH hF;generalize hQ:pL ⟨ae,order,types,.mk rh rp⟩=Q at lr hF gH QH;refine eG 47 [.cell 2 26] func105 rfl ntmps105 rfl fun _ _ _ _=>?_;generalize dy ⟨ae,order,types,.mk rh rp⟩=F at hF ⊢;refine br ?_ ?_<;>intro h
 ·have h:64 < types.length:=by simp [hN] at h;omega
  obtain ⟨x,hx⟩:∃ x,types[64]? = some x:=⟨_,gE h⟩;have MS:=gH hx;rw [zIfP h,iG MS] at hF;obtain ⟨xw,⟨xh,xp⟩⟩:=x;refine iX (dNms_get hx) ?_;refine ⟨_,?_,rfl⟩;rw [hF];exact ax
 have h:¬ 64 < types.length:=by simp [hN] at h;omega
 rw [ah h] at hF;refine lI (fun j st=>∃ e:Nat,st=Rq ⟨ae,order,types,.mk rh rp⟩ e/\e<=types.length/\enumL Q 0 Q=enumL Q e (Q.drop e)/\j=types.length - e) ⟨0,rfl,by omega,rfl,rfl⟩ (bc wB) ?_;rintro j st ⟨e,rfl,he,aD,rfl⟩;rw [aD] at hF;refine br ?_ ?_<;>intro hL
 ·have ap:e < types.length:=by have:=hL;simp [hN] at this;exact this
  obtain ⟨x,hx⟩:=gX ap;have KN:=eN (mG hx);have hq:=gH hx;have hst:=lZ hq;obtain ⟨p,hp,Ei⟩:=G8 hq;obtain ⟨xw,⟨xh,xp⟩⟩:=x;simp only [Wd.wt] at KN hq hst hp Ei;have hf:=rN xw.s;rw [QH,hp] at hf;have Vl:=jM [xw] (by simp only [wdsWt,Wd.wt];omega);have B4:bp [xw]=if aX xw.s then (0,0) else (9,xw.a):=by simp [bp,badWd]
  refine iX (dNms_get hx) ?_;refine cP FB Vl ?_;refine br ?_ ?_<;>intro hN
  ·have hN:(bp [xw]).1≠0:=sU hN
   cases ef:aX xw.s with
   | true=>rw [B4,ef] at hN;exact absurd rfl hN
   | false=>
   rw [ef] at B4;have B4:bp [xw]=(9,xw.a):=B4;have hf9:aA Q e xw=9:=by simp [aA,ef]
   rw [hst,hf9,zIfP (by decide)] at hF;refine ⟨_,?_,rfl⟩;rw [hF,B4];exact ax
  ·have hN:(bp [xw]).1=0:=sU hN
   cases ef:aX xw.s with
   | false=>rw [B4,ef] at hN;exact absurd hN (by simp)
   | true=>
   refine cP BL hf ?_;refine br ?_ ?_<;>intro h2
   ·have h2:p < e:=by have:=h2;simp [oz] at this;exact this
    have Vm:aA Q e xw=10:=by simp [aA,ef,Ei.1 h2]
    rw [hst,Vm,zIfP (by decide)] at hF;refine ⟨_,?_,rfl⟩;rw [hF];exact ax
   ·have h2:¬ p < e:=by have:=h2;simp [oz] at this;omega
    have hd:bR (Q.take e) xw.s=false:=by grind
    have hf0:aA Q e xw=0:=by simp [aA,ef,hd]
    rw [hf0,ah (by simp)] at hst;exact rE ⟨_,by omega,e + 1,rfl,by omega,by rw [aD,hst],rfl⟩ (bc (c8 (aT ap (by omega))))
 ·have hge:e=types.length:=sW hN hL;rw [hge,<- lr,List.drop_length] at hF;refine ⟨_,?_,rfl⟩;rw [hF];exact ax
abbrev Ck (S:Sch) (t:Ty) (e:Nat):St:=
 ⟨[aF 2 0,aF 3 1,aF 4 2,aq 5 e],[cM S,cX t,[.v (.int .i64 0),.v (.int .i64 0)]],[]⟩
theorem nv (S:Sch) (hl:S.types.length<=1099511627776) (hs:wdsWt S.ae<=1099511627776):∀ (k:Nat) (t:Ty),t.wt<=k->t.wt<=1099511627776 ->
  aV prog 107 [.agg (cM S),.agg (cX t)] (jv S t).d
 | 0,t,hn,_=>by have:=t.gv;omega
 | k + 1,.mk h ps,hn,bI=>by
  have ih:=nv S hl hs k;simp only [Ty.wt,Hd.wt] at hn bI;have ml:=ps.dX;have hf:=iH S h.name.s hl;have W5:=fun l hl=>yw S hs l hl;have hS:jv S (.mk h ps)=if h.ai=9/\bV (tL S) h.name.s=none then (15,h.name.a) else knP ⟨al S.ae,[],[],[],fun _ _=>false⟩ (tL S) ps:=by rw [jv,knT]
  have QG:knP ⟨al S.ae,[],[],[],fun _ _=>false⟩ (tL S) ps=knP ⟨al S.ae,[],[],[],fun _ _=>false⟩ (tL S) (ps.drop 0):=by rw [Pts.drop]
  have hK:∀ e p u,ps.toList[e]? = some (p,u)->knP ⟨al S.ae,[],[],[],fun _ _=>false⟩ (tL S) (ps.drop e)=if (labW (al S.ae) p.label).1≠0 then labW (al S.ae) p.label else if (labW (al S.ae) p.cl).1≠0 then labW (al S.ae) p.cl else if p.bare then knP ⟨al S.ae,[],[],[],fun _ _=>false⟩ (tL S) (ps.drop (e + 1)) else if (jv S u).1≠0 then jv S u else knP ⟨al S.ae,[],[],[],fun _ _=>false⟩ (tL S) (ps.drop (e + 1)):=fun e p u hx=>by
   rw [Pts.drop_cons hx,knP];all_goals rfl
  have SL:knP ⟨al S.ae,[],[],[],fun _ _=>false⟩ (tL S) .nil=(0,0):=by rw [knP]
  generalize knP ⟨al S.ae,[],[],[],fun _ _=>false⟩ (tL S)=KP at hS QG hK SL;obtain ⟨ae,order,types,⟨rh,rp⟩⟩:=S;refine eG 64 [.cell 4 26] func107 rfl ntmps107 rfl fun _ _ _ _=>?_;generalize jv ⟨ae,order,types,.mk rh rp⟩ (.mk h ps)=F at hS ⊢;refine have body:=?_;br (fun h9=>E8 BL hf ax rfl (br (fun hx=>?_) (fun hx=>aW (fun j st=>∃ e:Nat,st=Ck ⟨ae,order,types,.mk rh rp⟩ (.mk h ps) e/\e<=ps.len/\F=KP (ps.drop e)/\j=ps.len - e) ps.len (Ck ⟨ae,order,types,.mk rh rp⟩ (.mk h ps) 0) (bc wB) ⟨0,rfl,by omega,?_,by omega⟩ body))) (fun h9=>aW (fun j st=>∃ e:Nat,st=Ck ⟨ae,order,types,.mk rh rp⟩ (.mk h ps) e/\e<=ps.len/\F=KP (ps.drop e)/\j=ps.len - e) ps.len (Ck ⟨ae,order,types,.mk rh rp⟩ (.mk h ps) 0) (bc wB) ⟨0,rfl,by omega,?_,by omega⟩ body)
  rotate_left
  ·have h9:h.ai=9:=sU h9;have hx:bV (tL ⟨ae,order,types,.mk rh rp⟩) h.name.s=none:=ed.1 (by simpa [pickB] using hx);rw [zIfP ⟨h9,hx⟩] at hS;refine ⟨_,?_,rfl⟩;rw [hS];exact ax
  ·have hx:¬ bV (tL ⟨ae,order,types,.mk rh rp⟩) h.name.s=none:=fun hn=>by
    have h3:=ed.2 hn;simp [pickB] at hx;have h3:=of_decide_eq_true h3;omega
   rw [ah (fun hc=>hx hc.2),QG] at hS;exact hS
  ·grind
  rintro j st ⟨e,rfl,he,aD,rfl⟩;refine br ?_ ?_<;>intro hL
  ·have ap:e < ps.len:=by simpa [aC] using hL
   obtain ⟨p,t,hx⟩:=Pts.dq ap;have C0:=Pts.eC (mG hx);have hk:=hK e p t hx;have zS:wdsWt p.label + wdsWt p.cl<=p.wt:=by simp only [Ph.wt];omega
   obtain ⟨u,us⟩:=t;refine iX (bz hx) ?_;refine cP Ks (W5 p.label (by omega)) ?_;refine br ?_ ?_<;>intro b1
   ·have b1:(labW (al ae) p.label).1=0:=sU b1;rw [ah (by simp [b1])] at hk;refine cP Ks (W5 p.cl (by omega)) ?_;refine br ?_ ?_<;>intro b2
    ·have b2:(labW (al ae) p.cl).1=0/\p.bare=false:=by
      rw [av] at b2;simpa using b2
     obtain ⟨b2,b3⟩:=b2;rw [ah (by simp [b2]),ah (by simp [b3])] at hk;refine cP Fq (ih (.mk u us) (by omega) (by omega)) ?_;refine br ?_ ?_<;>intro b4
     ·have b4:(jv ⟨ae,order,types,.mk rh rp⟩ (.mk u us)).1≠0:=sU b4;rw [zIfP b4] at hk
      (refine ⟨_,?_,rfl⟩;rw [aD,hk];exact ax)
     ·have b4:(jv ⟨ae,order,types,.mk rh rp⟩ (.mk u us)).1=0:=sU b4;rw [ah (by simp [b4])] at hk;exact rE ⟨_,by omega,e + 1,rfl,by omega,by rw [aD,hk],rfl⟩ (bc (c8 (aT ap (by omega))))
    ·refine br ?_ ?_<;>intro b4
     ·have b4:(labW (al ae) p.cl).1≠0:=sU b4;rw [zIfP b4] at hk
      (refine ⟨_,?_,rfl⟩;rw [aD,hk];exact ax)
     ·have b4:(labW (al ae) p.cl).1=0:=sU b4
      have b3:p.bare=true:=by
       rw [av] at b2;simpa [b4] using b2
      rw [ah (by simp [b4]),zIfP b3] at hk;exact rE ⟨_,by omega,e + 1,rfl,by omega,by rw [aD,hk],rfl⟩ (bc (c8 (aT ap (by omega))))
   ·have b1:¬ (labW (al ae) p.label).1=0:=sU b1;rw [zIfP b1] at hk;refine br ?_ ?_<;>intro b2
    ·rw [av] at b2;simp [b1] at b2
    ·refine br ?_ ?_<;>intro b4
     ·(refine ⟨_,?_,rfl⟩;rw [aD,hk];exact ax)
     ·simp [b1] at b4
  ·have hge:e=ps.len:=by simp [aC] at hL;omega
   rw [hge,Pts.cu] at aD;refine ⟨_,?_,rfl⟩;rw [aD,SL];exact ax
abbrev Cl (h:Hd) (ps:Pts) (e:Nat) (depth m:Int):St:=
 ⟨[aq 2 depth,aF 3 0,aF 4 1,aF 6 2,aq 7 e],[[.v (.int .i64 0),.v (.int .i64 0),.v (.int .i64 m)],cX (.mk h ps),[.v (.int .i64 0),.v (.int .i64 0),.v (.int .i64 0)]],[]⟩
theorem vW (k:Nat) (ih:vw k) (h:Hd) (ps:Pts) (depth m:Int) (hk:ps.wt<=k) (bI:(Ty.mk h ps).wt<=1099511627776) (tP:0<=depth) (ze:depth<=25) (mw:0<=m) (iw:m<=512) :
  aV prog 106 [wD (0,0) m,.agg (cX (.mk h ps)),.v (.int .i64 depth)] (wD (wrong (.mk h ps) depth m).1 (wrong (.mk h ps) depth m).2):=by
 have uv:=bI;simp only [Ty.wt,Hd.wt] at uv;have ml:=ps.dX;have Mp:=bd h.af;have nJ:IntKind.i64.wrap (m + 1)=m + 1:=wrap64 (by omega) (by omega)
 have hW:∀ e a,aV prog 193 [.agg [.v (.int .i64 0),.v (.int .i64 0),.v (.int .i64 (IntKind.i64.wrap (m + 1)))],.v (.int .i64 e),.v (.int .i64 a)] (wD (e,a) (m + 1)):=by
  intro e a;rw [nJ];exact dm (0,0) (m + 1) e a
 have hS:=wrong.eq_def (.mk h ps) depth m;simp only at hS;refine eG 201 [.cell 6 179] func106 rfl ntmps106 rfl fun _ _ _ _=>?_;refine br ?_ ?_<;>intro c
 ·have c:24 < depth:=of_decide_eq_true c;refine cP eM (hW 6 h.cW) ?_;rw [zIfP c] at hS;refine ⟨_,?_,rfl⟩;rw [hS];exact ax
 have c:¬ 24 < depth:=of_decide_eq_false c;rw [ah c] at hS;refine br ?_ ?_<;>intro c
 ·have c:512 < IntKind.i64.wrap (m + 1):=of_decide_eq_true c;rw [nJ] at c;refine cP eM (hW 8 h.cW) ?_;rw [zIfP c] at hS;refine ⟨_,?_,rfl⟩;rw [hS];exact ax
 have c:¬ 512 < IntKind.i64.wrap (m + 1):=of_decide_eq_false c;rw [nJ] at c;rw [ah c] at hS;refine br ?_ ?_<;>intro c
 ·have c:h.ai < 1∨9 < h.ai:=by simpa [aj] using c
  refine cP eM (hW 14 h.cW) ?_;rw [zIfP c] at hS;refine ⟨_,?_,rfl⟩;rw [hS];exact ax
 have c:¬ (h.ai < 1∨9 < h.ai):=by simp [aj] at c;omega
 rw [ah c] at hS;refine cP Pr (zQ (.mk h ps) (by omega)) ?_;refine br ?_ ?_<;>intro c
 ·have c:rc (.mk h ps)=false:=by simpa [rc] using c
  refine cP eM (hW 19 h.cW) ?_;rw [zIfP c] at hS;refine ⟨_,?_,rfl⟩;rw [hS];exact ax
 have c:¬ rc (.mk h ps)=false:=by simpa [rc] using c
 rw [ah c] at hS;refine br ?_ ?_<;>intro c
 ·have c:(h.ai=2/\h.hi < h.lo)∨(h.ai=3/\(h.most < 0∨4096 < h.most)):=by simp [aj,av] at c;omega
  refine cP eM (hW 20 h.cW) ?_;rw [zIfP c] at hS;refine ⟨_,?_,rfl⟩;rw [hS];exact ax
 have c:¬ ((h.ai=2/\h.hi < h.lo)∨(h.ai=3/\(h.most < 0∨4096 < h.most))):=by simp [aj,av] at c;omega
 rw [ah c] at hS;refine br ?_ ?_<;>intro k9
 ·have k9:h.ai=9:=sU k9;refine cP BO (iC h.name.s (by simp only [Wd.wt] at uv;omega)) ?_;refine br ?_ ?_<;>intro q
  ·have q:aX h.name.s=false:=by simpa [av,k9] using q
   refine cP eM (hW 9 h.name.a) ?_;rw [zIfP ⟨k9,q⟩] at hS;refine ⟨_,?_,rfl⟩;rw [hS];exact ax
  ·have q:aX h.name.s=true:=by simpa [av,k9] using q
   rw [ah (by simp [q]),ah (by omega),ah (by omega),ah (by omega)] at hS;refine br (fun x=>?_) (fun _=>?_)
   ·have:=of_decide_eq_true x;omega
   refine br (fun x=>?_) (fun _=>?_)
   ·simp [aj] at x;omega
   refine br (fun x=>?_) (fun _=>?_)
   ·simp [aj] at x;omega
   refine ⟨_,?_,rfl⟩;rw [hS];exact (pW nJ)
 ·have k9:¬ h.ai=9:=sU k9;rw [ah (by simp [k9])] at hS;refine br ?_ ?_<;>intro k4
  ·have k4:h.ai=4:=of_decide_eq_true k4;rw [zIfP k4] at hS;refine br ?_ ?_<;>intro c
   ·have c:h.af=[]:=by simp [ak] at c;exact c
    refine cP eM (hW 15 h.cW) ?_;refine ⟨_,?_,rfl⟩;rw [hS];simp only [fD,zIfP c];exact ax
   have c:¬ h.af=[]:=by simp [ak] at c;exact c
   refine br ?_ ?_<;>intro c2
   ·have ap:64 < h.af.length:=by simp [ak] at c2;omega
    obtain ⟨x,hx⟩:=gX ap;refine dS ?_;refine ⟨gm x,⟨by omega,aH hx⟩,?_⟩;refine cD eM (hW 8 x.a) ?_;refine ⟨_,?_,rfl⟩;rw [hS];simp only [fD,ah c,zIfP ap,hx,Option.getD_some];exact ax
   have c2:¬ 64 < h.af.length:=by simp [ak] at c2;omega
   have hE:fD h=enumL h.af 0 h.af:=by simp only [fD,ah c,ah c2]
   rw [hE] at hS
   refine aW (fun j st=>∃ (e:Nat),st=Cl h ps e depth (m + 1)/\e<=h.af.length/\enumL h.af 0 h.af=enumL h.af e (h.af.drop e)/\j=h.af.length - e) h.af.length
    (Cl h ps 0 depth (m + 1)) (ep 3 (ve nJ) (c8 nJ)) ⟨0,rfl,by omega,rfl,by omega⟩ ?_
   rintro j st ⟨e,rfl,he,aD,rfl⟩;refine br ?_ ?_<;>intro hL
   ·have ap:e < h.af.length:=by simpa [ak] using hL
    obtain ⟨x,hx⟩:=gX ap;rw [drop_cons hx] at aD;simp only [enumL] at aD;refine cP Kr (lC h.af e x (by omega) hx) ?_;refine br ?_ ?_<;>intro hl
    ·have hl:aA h.af e x≠0:=sU hl;rw [zIfP hl] at aD;refine dS ?_;refine ⟨gm x,⟨by omega,aH hx⟩,?_⟩;refine cD eM (dm (0,0) (m + 1) _ x.a) ?_;refine ⟨_,?_,rfl⟩;rw [hS,aD];exact ax
    ·have hl:aA h.af e x=0:=sU hl;rw [ah (by simp [hl])] at aD;exact rE ⟨_,by omega,e + 1,rfl,by omega,aD,rfl⟩ (bc (c8 (aT ap (by omega))))
   ·have hge:e=h.af.length:=by simp [ak] at hL;omega
    rw [hge,List.drop_length] at aD;simp only [enumL] at aD;rw [aD] at hS;refine br (fun x=>?_) (fun _=>?_)
    ·simp [aj] at x;omega
    refine br (fun x=>?_) (fun _=>?_)
    ·simp [aj] at x;omega
    refine ⟨_,?_,rfl⟩;rw [hS];exact ax
  ·have k4:¬ h.ai=4:=of_decide_eq_false k4;rw [ah k4] at hS;refine br ?_ ?_<;>intro k5
   ·have k5:h.ai=5∨h.ai=6:=by simpa [aj] using k5
    rw [zIfP k5] at hS
    cases ps with
    | nil=>
     refine cP eM (hW 19 h.cW) ?_;refine ⟨_,?_,rfl⟩;rw [hS];simp only [wrongOne];exact ax
    | cons p t r=>
     cases r with
     | cons p2 t2 r2=>
      refine cP eM (hW 19 h.cW) ?_;refine ⟨_,?_,rfl⟩;rw [hS];simp only [wrongOne];exact ax
     | nil=>
      obtain ⟨u,us⟩:=t;simp only [wrongOne] at hS;simp only [Ty.wt,Pts.wt] at uv hk;refine ⟨_,⟨by omega,rfl⟩,?_⟩;refine br ?_ ?_<;>intro c
      ·have c:p.name.s=aJ:=by
        have:=c;simp [aj] at this;exact this
       refine ⟨_,⟨by omega,rfl⟩,?_⟩;refine cP FC (jL p dJ (cX (.mk u us)) (cX bU) (by omega) (tS _ _ _ _ _) (tS _ _ _ _ _)) ?_;refine br ?_ ?_<;>intro q
       ·have q:bQ p dJ=false:=by simpa [aj,c] using q
        refine cP eM (hW 19 h.cW) ?_;rw [zIfP (by simp [q])] at hS;refine ⟨_,?_,rfl⟩;rw [hS];exact ax
       ·have q:bQ p dJ=true:=by simpa [aj,c] using q
        rw [ah (by simp [q,c])] at hS;refine br ?_ ?_<;>intro x
        ·have x:h.most < 0∨1024 < h.most:=by simpa [aj] using x
         refine cP eM (hW 20 h.cW) ?_;rw [zIfP x] at hS;refine ⟨_,?_,rfl⟩;rw [hS];exact ax
        ·have x:¬ (h.most < 0∨1024 < h.most):=by simp [aj] at x;omega
         rw [ah x] at hS;refine dS ?_;refine ⟨_,⟨by omega,rfl⟩,?_⟩;refine cD Fp (ih (.mk u us) (depth + 1) (m + 1) (by simp only [Ty.wt];omega) (by simp only [Ty.wt];omega) (by omega) (by omega) (by omega) (by omega)) ?_ (by repeat' (first | exact rfl | exact trivial | exact Or.inr (Or.inl ⟨_,rfl⟩) | exact Or.inr ⟨_,rfl⟩ | exact Or.inl ⟨rfl,rfl⟩ | exact Or.inl rfl | refine Or.inr ⟨_,_,rfl,Nat.zero_le _,rfl,?_⟩ | refine ⟨_,_,rfl,?_,?_⟩ | refine ⟨_,rfl,?_⟩ | exact congrArg (fun z=>DV.v (.int .i64 z)) nJ | exact congrArg (fun z=>DV.v (.int .i64 z)) (wrap64 (by omega) (by omega))| refine Or.inr (Or.inr (Or.inr ⟨_,_,rfl,?_⟩)) | exact Or.inl rfl | refine Or.inr ?_));refine ⟨_,?_,rfl⟩;rw [hS];exact ax
      ·have c:p.name.s≠aJ:=by
        have:=c;simp [aj] at this;exact this
       refine cP eM (hW 19 h.cW) ?_;rw [zIfP (.inl c)] at hS;refine ⟨_,?_,rfl⟩;rw [hS];exact ax
   ·have k5:¬ (h.ai=5∨h.ai=6):=by simp [aj] at k5;omega
    rw [ah k5] at hS;refine br ?_ ?_<;>intro k7
    ·have k7:h.ai=7∨h.ai=8:=by simpa [aj] using k7
     rw [zIfP k7] at hS;have hP:wrong (.mk h ps) depth m=dC h ps depth (m + 1):=by rw [hS];all_goals rfl
     refine cP Ps (vx k ih h ps depth (m + 1) hk bI tP (by omega) (by omega) (by omega)) ?_ (pW nJ);refine ⟨_,?_,rfl⟩;rw [hP];exact ax
    ·have k7:¬ (h.ai=7∨h.ai=8):=by simp [aj] at k7;omega
     rw [ah k7] at hS;refine ⟨_,?_,rfl⟩;rw [hS];exact (pW nJ)
theorem uH:∀ k,vw k
 | 0=>fun t depth m hk=>by have:=t.gv;omega
 | k + 1=>fun t depth m hk bI tP ze mw iw=>by
  obtain ⟨h,ps⟩:=t;have fl:=hk;simp only [Ty.wt,Hd.wt] at fl;exact vW k (uH k) h ps depth m (by omega) bI tP ze mw iw
theorem vX (t:Ty) (depth m:Int) (bI:t.wt<=1099511627776) (tP:0<=depth) (ze:depth<=25) (mw:0<=m) (iw:m<=512) :
  aV prog 106 [wD (0,0) m,.agg (cX t),.v (.int .i64 depth)] (wD (wrong t depth m).1 (wrong t depth m).2):=
 uH t.wt t depth m (zLeR _) bI tP ze mw iw
def eaA:List Ty->Int->Ft × Int
 | [],m=>((0,0),m)
 | t :: r,m=>if (bF t m).1.1≠0 then bF t m else eaA r (bF t m).2
theorem Hc (z:Ty):∀ (l:List (Wd × Ty)) (m:Int),((eaA (l.map (fun x=>x.2) ++ [z]) m).1.1=0↔(eaR z l m).1.1=0)/\((eaR z l m).1.1≠0->eaA (l.map (fun x=>x.2) ++ [z]) m=eaR z l m)
 | [],m=>by
  show ((eaA [z] m).1.1=0↔(bF z m).1.1=0)/\((bF z m).1.1≠0->eaA [z] m=bF z m)
  grind [eaA,bF]
 | x :: r,m=>by
  have ih:=Hc z r (bF x.2 m).2
  grind [eaA,eaR,bF]
def eaK (F:Ty->Ft):List Ty->Ft
 | []=>(0,0)
 | t :: r=>if (F t).1≠0 then F t else eaK F r
theorem He (F:Ty->Ft) (z:Ty):∀ l:List (Wd × Ty),((eaK F (l.map (fun x=>x.2) ++ [z])).1=0↔(eaL F (F z) l).1=0)/\((eaL F (F z) l).1≠0->eaK F (l.map (fun x=>x.2) ++ [z])=eaL F (F z) l)
 | []=>by
  show ((eaK F [z]).1=0↔(F z).1=0)/\((F z).1≠0->eaK F [z]=F z)
  grind [eaK]
 | x :: r=>by
  have ih:=He F z r
  grind [eaK,eaL]
theorem AQ {F:Ty->Ft}:∀ {l:List Ty},(eaK F l).1=0->∀ t∈l,(F t).1=0
 | [],_,t,ht=>by cases ht
 | u :: r,h,t,ht=>by
  rw [eaK] at h;split at h
  ·rename_i h1;exact (h1 h).elim
  ·rename_i h1;rcases cY ht with rfl | ht
   ·simpa using h1
   ·exact AQ h t ht
theorem Cm (S:Sch):fc S=if (latF S.ae S.order).1≠0 then latF S.ae S.order
 else if (dy S).1≠0 then dy S
 else if (eaA (fh S) 0).1.1≠0 then (eaA (fh S) 0).1
 else if (eaK (jv S) (fh S)).1≠0 then eaK (jv S) (fh S)
 else loopF S:=by
 have h1:=Hc S.root S.types 0;have h2:=He (jv S) S.root S.types;unfold fc fh eO;by_cases a:(eaR S.root S.types 0).1.1=0
 ·grind
 ·grind
abbrev M9 (S:Sch) (T:List Ty) (m:Int) (e:Nat):St:=
 ⟨[aF 1 0,aF 2 1,aS 5 9 (fk T),aq 6 m,aq 7 e],[cM S,[.v (.int .i64 0),.v (.int .i64 0)]],[]⟩
abbrev Rr (S:Sch) (T:List Ty) (e:Nat):St:=
 ⟨[aF 1 0,aF 2 1,aS 5 9 (fk T),aq 11 e],[cM S,[.v (.int .i64 0),.v (.int .i64 0)]],[]⟩
abbrev Na (S:Sch) (e:Nat):St:=
 ⟨[aF 1 0,aF 2 1,aq 13 e],[cM S,[.v (.int .i64 0),.v (.int .i64 0)]],[]⟩
theorem vY {S:Sch} (hs:S.wt<=1099511627776):∀ t∈fh S,t.wt<=1099511627776:=by
 intro t ht;unfold Sch.wt at hs;rcases List.mem_append.1 ht with h | h
 ·obtain ⟨x,hx,rfl⟩:=List.mem_map.1 h;have:=eN hx;omega
 all_goals grind
theorem vZ (S:Sch) (hs:S.wt<=1099511627776):aV prog 42 [.agg (cM S)] (fc S).d:=by
 have NW:=vY hs;unfold Sch.wt at hs;have hN:=cO S.types;have fi:=gQ S.types;have sm:=vU S.ae S.order (by omega) (by omega);have Rs:=vV S (by omega);have gG:=yx S (by omega);have Rt:=fun t ht=>nv S (by omega) (by omega) _ t (zLeR _) (NW t ht);have hF:=Cm S;have hlen:(fh S).length=S.types.length + 1:=by simp [fh,eO]
 have W6:(dy S).1=0->S.types.length<=64:=fun h=>by grind [dy]
 obtain ⟨ae,order,types,⟨rh,rp⟩⟩:=S;simp only at hs hN fi sm Rs hlen W6 hF;generalize hT:fh ⟨ae,order,types,.mk rh rp⟩=T at NW gG Rt hlen hF;refine eG 104 [.cell 2 26] func42 rfl ntmps42 rfl fun _ _ _ _=>?_;generalize fc ⟨ae,order,types,.mk rh rp⟩=F at hF ⊢;refine cP O6 sm ?_;refine br ?_ ?_<;>intro h1
 ·have h1:(latF ae order).1≠0:=sU h1;rw [zIfP h1] at hF;refine ⟨_,?_,rfl⟩;rw [hF];exact ax
 have h1:(latF ae order).1=0:=sU h1;rw [ah (by simp [h1])] at hF;refine cP O7 Rs ?_;refine br ?_ ?_<;>intro h2
 ·have h2:(dy ⟨ae,order,types,.mk rh rp⟩).1≠0:=sU h2;rw [zIfP h2] at hF;refine ⟨_,?_,rfl⟩;rw [hF];exact ax
 have h2:(dy ⟨ae,order,types,.mk rh rp⟩).1=0:=sU h2;rw [ah (by simp [h2])] at hF;have Nb:=W6 h2;refine cP OY gG ?_
 refine aW (fun j st=>∃ (e:Nat) (m:Int),st=M9 ⟨ae,order,types,.mk rh rp⟩ T m e/\e<=types.length + 1/\0<=m/\m<=512/\eaA T 0=eaA (T.drop e) m/\j=types.length + 1 - e) (types.length + 1)
  (M9 ⟨ae,order,types,.mk rh rp⟩ T 0 0) (bc wB) ⟨0,0,rfl,by omega,by omega,by omega,rfl,by omega⟩ ?_
 rintro j st ⟨e,m,rfl,he,mw,iw,aD,rfl⟩;refine br ?_ ?_<;>intro hL
 ·have ap:e < types.length + 1:=by have:=hL;simp [cQ,hlen] at this;omega
  obtain ⟨t,ht⟩:∃ t,T[e]? = some t:=⟨_,gE (by omega)⟩;have GH:=NW t (mG ht);have hst:eaA (T.drop e) m=if (bF t m).1.1≠0 then bF t m else eaA (T.drop (e + 1)) (bF t m).2:=by rw [drop_cons ht,eaA]
  have Nc:bF t m=if (wrong t 1 0).1.1≠0 then ((wrong t 1 0).1,m) else if 512 < m + t.cnt then ((8,t.h.cW),m + t.cnt) else ((0,0),m + t.cnt):=rfl
  have Jy:=vX t 1 0 GH (by omega) (by omega) (by omega) (by omega);have cR:=iD _ t (zLeR _) GH;have HV:=t.dr;obtain ⟨u,us⟩:=t;refine iX (iu ht) ?_;refine cP Fp Jy ?_;refine br ?_ ?_<;>intro g1
  ·have g1:(wrong (.mk u us) 1 0).1.1≠0:=sU g1;rw [zIfP g1] at Nc;rw [aD,hst,Nc,zIfP g1,zIfP g1] at hF;refine ⟨_,?_,rfl⟩;rw [hF];exact ax
  have g1:(wrong (.mk u us) 1 0).1.1=0:=sU g1;rw [ah (by simp [g1])] at Nc;refine iX (iu ht) ?_;refine cP IG cR ?_;have tT:IntKind.i64.wrap (m + ((Ty.mk u us).cnt:Int))=m + (Ty.mk u us).cnt:=wrap64 (by omega) (by omega);refine br ?_ ?_<;>intro g2
  ·have g2:512 < IntKind.i64.wrap (m + ((Ty.mk u us).cnt:Int)):=of_decide_eq_true g2;rw [tT] at g2;rw [zIfP g2] at Nc;rw [aD,hst,Nc,zIfP (by simp),zIfP (by simp)] at hF;refine iX (iu ht) ?_;refine ⟨_,?_,rfl⟩;rw [hF];exact ax
  ·have g2:¬ 512 < IntKind.i64.wrap (m + ((Ty.mk u us).cnt:Int)):=of_decide_eq_false g2;rw [tT] at g2;rw [ah g2] at Nc;rw [Nc,ah (by simp)] at hst;exact ⟨M9 ⟨ae,order,types,.mk rh rp⟩ T (m + (Ty.mk u us).cnt) (e + 1),(bc (hY tT (aT ap (by omega)))),types.length + 1 - (e + 1),by omega,e + 1,_,rfl,by omega,by omega,by omega,by rw [aD,hst],rfl⟩
 have hge:e=types.length + 1:=by have:=hL;simp [cQ,hlen] at this;omega
 rw [aD,List.drop_of_length_le (by omega),show eaA [] m=((0,0),m) from rfl,ah (by simp)] at hF
 refine aW (fun j st=>∃ (e:Nat),st=Rr ⟨ae,order,types,.mk rh rp⟩ T e/\e<=types.length + 1/\eaK (jv ⟨ae,order,types,.mk rh rp⟩) T=eaK (jv ⟨ae,order,types,.mk rh rp⟩) (T.drop e)/\j=types.length + 1 - e) (types.length + 1)
  (Rr ⟨ae,order,types,.mk rh rp⟩ T 0) (bc wB) ⟨0,rfl,by omega,rfl,by omega⟩ ?_
 clear aD hL hge he e;rintro j st ⟨e,rfl,he,aD,rfl⟩;refine br ?_ ?_<;>intro hL
 ·have ap:e < types.length + 1:=by have:=hL;simp [cQ,hlen] at this;omega
  obtain ⟨t,ht⟩:∃ t,T[e]? = some t:=⟨_,gE (by omega)⟩;have hst:eaK (jv ⟨ae,order,types,.mk rh rp⟩) (T.drop e)=if (jv ⟨ae,order,types,.mk rh rp⟩ t).1≠0 then jv ⟨ae,order,types,.mk rh rp⟩ t else eaK (jv ⟨ae,order,types,.mk rh rp⟩) (T.drop (e + 1)):=by rw [drop_cons ht,eaK]
  have hu:=Rt t (mG ht);obtain ⟨u,us⟩:=t;apply kV (fun _=>false) 5 6 [0,1,2,3,4,5,6,7] [0,1,2,3,4,6,5,7] 2 2 mo (by decide +kernel)
  ·refine iX (iu ht) ?_;refine cD Fq hu ?_;refine (?_:@Eq St _ _);exact rfl
  ·refine iX (iu ht) ?_;refine cD Fq hu ?_;refine (⟨rfl,rfl,?_⟩:_/\_/\_)
   repeat' (first | exact trivial | refine ⟨rfl,?_⟩)
  ·rfl
  refine br ?_ ?_<;>intro g
  ·have g:(jv ⟨ae,order,types,.mk rh rp⟩ (.mk u us)).1≠0:=sU g;rw [aD,hst,zIfP g,zIfP g] at hF;refine ⟨_,?_,rfl⟩;rw [hF];exact ax
  ·have g:(jv ⟨ae,order,types,.mk rh rp⟩ (.mk u us)).1=0:=sU g;rw [ah (by simp [g])] at hst;exact rE ⟨_,by omega,e + 1,rfl,by omega,by rw [aD,hst],rfl⟩ (bc (c8 (aT ap (by omega))))
 have hge:e=types.length + 1:=by have:=hL;simp [cQ,hlen] at this;omega
 have E9:(eaK (jv ⟨ae,order,types,.mk rh rp⟩) T).1=0:=by rw [aD,List.drop_of_length_le (by omega)];all_goals rfl
 rw [aD,List.drop_of_length_le (by omega),show eaK (jv ⟨ae,order,types,.mk rh rp⟩) []=(0,0) from rfl,ah (by simp)] at hF
 have K8:∀ x∈types,pM ⟨ae,order,types,.mk rh rp⟩ x.2=true:=fun x hx=>vQ (AQ E9 x.2 (by
  rw [<- hT]
  exact List.mem_append_left _ (List.mem_map_of_mem hx)))
 have Vn:=sj ⟨ae,order,types,.mk rh rp⟩ Nb K8
 have hlo:F=match bE (fun i=>(endI ⟨ae,order,types,.mk rh rp⟩ (types.length + 1) i).isNone) types.length with
  | none=>(0,0)
  | some i=>(11,MO (pL ⟨ae,order,types,.mk rh rp⟩) i):=hF
 refine aW (fun j st=>∃ e:Nat,st=Na ⟨ae,order,types,.mk rh rp⟩ e/\e<=types.length/\(∀ i,i < e->(endI ⟨ae,order,types,.mk rh rp⟩ (types.length + 1) i).isNone=false)/\j=types.length - e) types.length
  (Na ⟨ae,order,types,.mk rh rp⟩ 0) (bc wB) ⟨0,rfl,by omega,fun _ h=>by omega,by omega⟩ ?_
 clear aD hL hge he e;rintro j st ⟨e,rfl,he,hno,rfl⟩;refine br ?_ ?_<;>intro hL
 ·have ap:e < types.length:=by have:=hL;simp [hN] at this;exact this
  obtain ⟨x,hx⟩:=gX ap;have MS:(pL ⟨ae,order,types,.mk rh rp⟩)[e]? = some x.1:=Cj hx;have h9:=Vn e ap;obtain ⟨xw,⟨xh,xp⟩⟩:=x;refine cP Fs h9 ?_;refine br ?_ ?_<;>intro g
  ·have g:endI ⟨ae,order,types,.mk rh rp⟩ (types.length + 1) e=none:=ed.1 g;have pD:=cg (p:=fun i=>(endI ⟨ae,order,types,.mk rh rp⟩ (types.length + 1) i).isNone) ap (by simp only [g];rfl) hno;rw [pD] at hlo;simp only [iG MS] at hlo;refine iX (dNms_get hx) ?_;refine ⟨_,?_,rfl⟩;rw [hlo];exact ax
  ·have g:¬ endI ⟨ae,order,types,.mk rh rp⟩ (types.length + 1) e=none:=fun hn=>by have h3:=ed.2 hn;rw [g] at h3;cases h3
   refine ⟨Na ⟨ae,order,types,.mk rh rp⟩ (e + 1),(bc (c8 (aT ap (by omega)))),types.length - (e + 1),by omega,e + 1,rfl,by omega,fun i hi=>?_,rfl⟩;rcases ka hi with hi | rfl
   ·exact hno i hi
   ·exact Option.isNone_eq_false_iff.2 (Option.isSome_iff_ne_none.2 g)
 ·have hge:e=types.length:=sW hN hL;rw [hge] at hno;rw [cA hno] at hlo;refine ⟨_,?_,rfl⟩;rw [hlo];exact ax
theorem jk {l:List Ed} {i:Nat} {e:Ed} (h:l[i]? = some e):(iy l)[i]? = some (Jr e):=by simp [iy,h]
def JI (lev:List Wd->Int) (s:Sch) (t:Ty) (k:Nat):Nd:=⟨t.h.ai,t.h.cW,t.h.lo,t.h.hi,t.h.most,al t.h.af,edsP lev s t.ps (k + 1)⟩
mutual
theorem qg (lev:List Wd->Int) (s:Sch):∀ (t:Ty) (k:Nat),ndsT lev s t k=(flatT t).zipIdx.map fun x=>JI lev s x.1 (k + x.2)
 | .mk h ps,k=>by
  have ih:=v7 lev s ps (k + 1);rw [ndsT,flatT];split
  ·rfl
  ·rw [ih,List.zipIdx_cons,List.map_cons];rw [List.zipIdx_succ,List.map_map];refine congr (congrArg List.cons rfl) (List.map_congr_left fun x _=>?_);simp only [Function.comp];congr 1;omega
theorem v7 (lev:List Wd->Int) (s:Sch):∀ (ps:Pts) (k:Nat),r6 lev s ps k=(flatP ps).zipIdx.map fun x=>JI lev s x.1 (k + x.2)
 | .nil,k=>rfl
 | .cons p u r,k=>by
  rw [r6,flatP,List.zipIdx_append,List.map_append]
  cases hb:p.bare with
  | true=>
   simp only [if_true,List.zipIdx_nil,List.map_nil,List.nil_append,List.length_nil,Nat.add_zero];exact v7 lev s r k
  | false=>
   simp only [Bool.false_eq_true,if_false];rw [qg lev s u k,v7 lev s r (k + u.nn),gU];refine congrArg _ ?_;rw [List.zipIdx_eq_map_add (l:=flatP r) (i:=0 + u.nn)];rw [List.map_map];refine List.map_congr_left fun x _=>?_;simp only [Function.comp];congr 1;omega
end
theorem v8 {X:Lx} {L:List ByteArray}:∀ {ps:Pts},(knP X L ps).1=0->∀ {p:Ph} {u:Ty},(p,u)∈ps.toList->p.bare=false->(knT X L u).1=0
 | .nil,_,p,u,h,_=>by cases h
 | .cons q v r,hk,p,u,h,hb=>by
  rcases cY h with h | h
  ·cases h;exact (oF hk).1 hb
  ·exact v8 (oF hk).2 h hb
theorem oN {w:Int} (h:decide (w=0)=true):jg w=3:=by unfold jg;rw [zIfP (of_decide_eq_true h)]
theorem oO {w:Int} (h:decide (w=0)=false):jg w=w:=by unfold jg;rw [ah (of_decide_eq_false h)]
theorem ey {L:List Ed} {lev:List Wd->Int} {p:Ph} {to w z:Int} (hw:jg p.wide=w) (ht:to=z):iy L ++ [[.v (.string p.name.s),.v (.bool p.bare),.v (.int .i64 p.name.a),.v (.int .i64 z),.v (.int .i64 (lev p.label)),.v (.int .i64 w),.v (.int .i64 p.ck),.v (.int .i64 p.cn),.v (.int .i64 (lev p.cl)),.v (.int .i64 p.ca)]]=iy (L ++ [rZ lev p to]):=by
 subst hw ht;simp [iy,Jr,rZ]
abbrev Ru (S:Sch) (f:Nat->Nat->Bool) (t:Ty) (me:Nat) (q e:Nat):St:=
 ⟨[aS 1 1 (ch (cH S.ae.length f)),aq 3 me,aF 4 0,aF 6 1,aF 8 2,aF 9 3,aq 10 e],
  [cM S,cX t,[.v (.int .i64 0),.v (.int .i64 0),.v (.int .i64 0),.v (.int .i64 0),.v (.int .i64 0),.v (.slice none 0 0),.v (.slice none 0 0)],
  [.v (.int .i64 t.h.ai),.v (.int .i64 t.h.cW),.v (.int .i64 t.h.lo),.v (.int .i64 t.h.hi),.v (.int .i64 t.h.most),.sl 1 (dB (al (t.h.af.take e))) (some 0),.v (.slice none 0 0)]],[⟨q,9,1,none⟩]⟩
abbrev yz (S:Sch) (f:Nat->Nat->Bool) (t:Ty) (q1 q2:Nat) (L:List Ed) (nx e:Nat):St:=
 ⟨[aS 1 1 (ch (cH S.ae.length f)),aF 4 0,aF 6 1,aF 8 2,aF 9 3,aq 11 nx,aq 12 e],
  [cM S,cX t,[.v (.int .i64 0),.v (.int .i64 0),.v (.int .i64 0),.v (.int .i64 0),.v (.int .i64 0),.v (.slice none 0 0),.v (.slice none 0 0)],
  [.v (.int .i64 t.h.ai),.v (.int .i64 t.h.cW),.v (.int .i64 t.h.lo),.v (.int .i64 t.h.hi),.v (.int .i64 t.h.most),.sl 1 (dB (al t.h.af)) (some 0),.sl 10 (iy L) (some 1)]],[⟨q1,9,1,none⟩,⟨q2,89,10,none⟩]⟩
set_option maxHeartbeats 2000000 in
theorem AR (S:Sch) (hS:S.wt<=1099511627776) (hl:(latF S.ae S.order).1=0) (Nb:S.types.length<=64) (hr:∀ x∈S.types,pM S x.2=true) (hlo:∀ i,i < S.types.length->∃ k,endI S (S.types.length + 1) i=some k)
  (t:Ty) (ht:t.wt<=1099511627776) (hk:(jv S t).1=0) (me:Nat) (Ut:me<=1099511627776) :
  aV prog 52 [.agg (cM S),.sl 1 (ch (cH S.ae.length (du S.ae.length (cv (al S.ae) S.order)))) none,.agg (cX t),.v (.int .i64 me)] (.agg (zg (JI (fL S) S t me))):=by
 obtain ⟨hL,Ju⟩:=iq hl;have mH:=hL.pos;unfold Sch.wt at hS;have AA:=fun l (h:wdsWt l<=1099511627776)=>DT S.ae (du S.ae.length (cv (al S.ae) S.order)) mH Ju (by omega) l h;have JJ:∀ l,fL S l=vM (du S.ae.length (cv (al S.ae) S.order)) (al S.ae) l:=fun _=>rfl;have JK:=fun s i k=>sk S Nb (by omega) hr s i k;have lr:=iO S;generalize du S.ae.length (cv (al S.ae) S.order)=f at AA JJ ⊢;obtain ⟨h,ps⟩:=t;have MW:=(kF hk).2;simp only [Ty.wt,Hd.wt] at ht;have ml:=ps.dX;have hc:=ps.dr;have mC:=ps.eI;have SJ:=bd h.af;generalize DG:fL S=lev at JJ ⊢;obtain ⟨ae,order,types,⟨rh,rp⟩⟩:=S;simp only at hS Nb hr hlo AA JJ JK lr MW;refine eG 131 [.cell 8 87] func52 rfl ntmps52 rfl fun _ _ _ _=>?_;refine lJ (fun e=>Ru ⟨ae,order,types,.mk rh rp⟩ f (.mk h ps) me e e) h.af.length (eS 4 ⟨0,9,1,none⟩ rfl rfl rfl zB rfl rfl pE) ?_;intro e he;refine br ?_ ?_<;>intro hL
 ·have ap:e < h.af.length:=by have:=hL;simp [ak] at this;exact this
  obtain ⟨w,hw⟩:=gX ap;have k0:=gP hw;have fg:(dB (al (h.af.take e))).length=e:=by simp [dB,al];omega
  refine dS ?_;refine iX (aH hw) ?_;refine ⟨fg,⟨by simp only [Ty.h];rw [fg];simp [maxLen];omega,by simp only [Ty.h];rw [fg];simp;omega⟩,?_⟩;exact rE ⟨_,by omega,e + 1,rfl,by omega,rfl⟩ (ep 4 (zC (aT ap (by omega)) k0) (hY (aT ap (by omega)) k0))
 have hge:e=h.af.length:=by have:=hL;simp [ak] at this;omega
 have Rw:IntKind.i64.wrap ((me:Int) + 1)=((me + 1:Nat):Int):=by rw [wrap64 (by omega) (by omega)];omega
 have zy:dB (al (h.af.take e))=dB (al h.af):=by rw [hge,List.take_length]
 refine aW (fun j st=>∃ (e q nx:Nat) (L:List Ed),st=yz ⟨ae,order,types,.mk rh rp⟩ f (.mk h ps) h.af.length q L nx e/\q=e/\L.length=e/\e<=ps.len/\nx + (ps.drop e).nn=me + 1 + ps.nn/\edsP lev ⟨ae,order,types,.mk rh rp⟩ ps (me + 1)=L ++ edsP lev ⟨ae,order,types,.mk rh rp⟩ (ps.drop e) nx/\j=ps.len - e) ps.len
  (yz ⟨ae,order,types,.mk rh rp⟩ f (.mk h ps) e 0 [] (me + 1) 0) (eS 4 ⟨0,89,10,none⟩ rfl rfl rfl (zC Rw zy) rfl rfl (hY Rw zy)) ⟨0,0,me + 1,[],by rw [hge],rfl,rfl,by omega,rfl,rfl,by omega⟩ ?_
 clear he hL hge zy e;rintro j st ⟨e,q,nx,L,rfl,hq,Ro,he,zf,aD,rfl⟩;refine br ?_ ?_<;>intro hL
 ·have ap:e < ps.len:=by simpa [aC] using hL
  obtain ⟨p,u,hx⟩:=Pts.dq ap;have C0:=Pts.eC (mG hx);have zS:p.name.wt + wdsWt p.label + wdsWt p.cl<=p.wt:=by simp only [Ph.wt];omega
  rw [Pts.drop_cons hx,edsP] at aD;rw [Pts.drop_cons hx,Pts.nn] at zf;have wz:=AA p.label (by omega);have H2:=AA p.cl (by omega);unfold DE at wz H2;rw [<- JJ] at wz H2;obtain ⟨uh,us⟩:=u;refine iX (bz hx) ?_;refine br ?_ ?_<;>intro hw
  all_goals
   refine cP Kh wz ?_;refine cP Kh H2 ?_;have fg:(iy L).length=q:=by rw [de,Ro,hq]
   refine br ?_ ?_<;>intro hB
   ·have hB:p.bare=true:=hB;have oE:qc ⟨ae,order,types,.mk rh rp⟩ p (.mk uh us) nx = -1:=by simp [qc,hB]
    rw [hB] at aD zf;refine ⟨fg,⟨by rw [fg];simp [maxLen];omega,by rw [fg];simp;omega⟩,?_⟩;exact ⟨yz ⟨ae,order,types,.mk rh rp⟩ f (.mk h ps) h.af.length (q + 1) (L ++ [rZ lev p (qc ⟨ae,order,types,.mk rh rp⟩ p (.mk uh us) nx)]) nx (e + 1),(ep 4 (by repeat' (first | exact rfl | exact au rfl | exact aw (aT ap (by omega)) | exact bL (ey (oN hw) oE) rfl | exact bL (ey (oO hw) oE) rfl | refine ⟨_,_,rfl,?_,?_⟩)) (by repeat' (first | exact trivial | exact au rfl | exact aw (aT ap (by omega)) | exact bL (ey (oN hw) oE) rfl | exact bL (ey (oO hw) oE) rfl | refine ⟨⟨_,rfl,?_⟩,?_⟩))),ps.len - (e + 1),by omega,e + 1,q + 1,nx,_,rfl,by omega,by simp [Ro],by omega,by rw [<- zf];simp,by rw [aD];simp,rfl⟩
   ·have hB:p.bare=false:=hB;have eo:=v8 MW (mG hx) hB;refine br ?_ ?_<;>intro h9
    ·have h9:uh.ai=9:=sU h9;obtain ⟨i,hi⟩:=Option.ne_none_iff_exists'.1 ((kF eo).1 h9);obtain ⟨k,hk⟩:=hlo i (by have:=(cC hi).1;omega);have oE:qc ⟨ae,order,types,.mk rh rp⟩ p (.mk uh us) nx=(firstA ⟨ae,order,types,.mk rh rp⟩ k:Int):=by simp [qc,hB,l9,Ty.h,h9,NT,hi,namedN,hk]
     refine cP OZ (JK uh.name.s i k hi hk) ?_;refine ⟨fg,⟨by rw [fg];simp [maxLen];omega,by rw [fg];simp;omega⟩,?_⟩;exact ⟨yz ⟨ae,order,types,.mk rh rp⟩ f (.mk h ps) h.af.length (q + 1) (L ++ [rZ lev p (qc ⟨ae,order,types,.mk rh rp⟩ p (.mk uh us) nx)]) nx (e + 1),(ep 4 (by repeat' (first | exact rfl | exact au rfl | exact aw (aT ap (by omega)) | exact bL (ey (oN hw) oE) rfl | exact bL (ey (oO hw) oE) rfl | refine ⟨_,_,rfl,?_,?_⟩)) (by repeat' (first | exact trivial | exact au rfl | exact aw (aT ap (by omega)) | exact bL (ey (oN hw) oE) rfl | exact bL (ey (oO hw) oE) rfl | refine ⟨⟨_,rfl,?_⟩,?_⟩))),ps.len - (e + 1),by omega,e + 1,q + 1,nx,_,rfl,by omega,by simp [Ro],by omega,by rw [<- zf];simp [hB,Ty.nn,h9],by rw [aD];simp [hB,Ty.nn,h9],rfl⟩
    ·have h9:¬ uh.ai=9:=sU h9;have oE:qc ⟨ae,order,types,.mk rh rp⟩ p (.mk uh us) nx=(nx:Int):=by simp [qc,hB,l9,Ty.h,h9]
     have hnn:=(Ty.mk uh us).eI;have Uk:=(Ty.mk uh us).dr
     have tT:IntKind.i64.wrap ((nx:Int) + (fk (flatT (.mk uh us))).length)=((nx + (Ty.mk uh us).nn:Nat):Int):=by
      rw [cQ,gU,wrap64 (by omega) (by omega)];omega
     refine cP IJ (lk _ (.mk uh us) (zLeR _) (by omega)) ?_;refine ⟨fg,⟨by rw [fg];simp [maxLen];omega,by rw [fg];simp;omega⟩,?_⟩;exact ⟨yz ⟨ae,order,types,.mk rh rp⟩ f (.mk h ps) h.af.length (q + 1) (L ++ [rZ lev p (qc ⟨ae,order,types,.mk rh rp⟩ p (.mk uh us) nx)]) (nx + (Ty.mk uh us).nn) (e + 1),(ep 4 (by repeat' (first | exact rfl | exact au rfl | exact aw (aT ap (by omega)) | exact aw tT | exact bL (ey (oN hw) oE) rfl | exact bL (ey (oO hw) oE) rfl | refine ⟨_,_,rfl,?_,?_⟩)) (by repeat' (first | exact trivial | exact au rfl | exact aw (aT ap (by omega)) | exact aw tT | exact bL (ey (oN hw) oE) rfl | exact bL (ey (oO hw) oE) rfl | refine ⟨⟨_,rfl,?_⟩,?_⟩))),ps.len - (e + 1),by omega,e + 1,q + 1,(nx + (Ty.mk uh us).nn),_,rfl,by omega,by simp [Ro],by omega,by rw [<- zf];simp [hB];omega,by rw [aD];simp [hB],rfl⟩
 have hge:e=ps.len:=by simp [aC] at hL;omega
 rw [hge,Pts.cu,edsP,List.append_nil] at aD;unfold JI;simp only [Ty.h,Ty.ps];rw [aD];exact ⟨_,ax,rfl⟩
def ndsA (lev:List Wd->Int) (s:Sch):List Ty->Nat->List Nd
 | [],_=>[]
 | t :: r,k=>ndsT lev s t k ++ ndsA lev s r (k + t.nn)
def qh (l:List Ty):Nat:=(l.map Ty.nn).sum
theorem kI (t:Ty) (l:List Ty):qh (t :: l)=t.nn + qh l:=by simp [qh]
theorem wb (a b:List Ty):qh (a ++ b)=qh a + qh b:=by simp [qh]
theorem jl (lev:List Wd->Int) (s:Sch):∀ (l:List Ty) (k:Nat),(ndsA lev s l k).length=qh l
 | [],_=>rfl
 | t :: r,k=>by simp only [ndsA,List.length_append,im,jl lev s r,kI]
theorem sq (lev:List Wd->Int) (s:Sch):∀ (a b:List Ty) (k:Nat),ndsA lev s (a ++ b) k=ndsA lev s a k ++ ndsA lev s b (k + qh a)
 | [],b,k=>by simp [ndsA,qh]
 | t :: r,b,k=>by rw [List.cons_append,ndsA,ndsA,sq lev s r b,List.append_assoc,kI,Nat.add_assoc]
theorem sr (lev:List Wd->Int) (s:Sch):∀ (l:List (Wd × Ty)) (k:Nat),ndsAll lev s l k=ndsA lev s (l.map fun x=>x.2) k
 | [],_=>rfl
 | x :: r,k=>by rw [ndsAll,List.map_cons,ndsA,sr lev s r]
theorem yA (s:Sch):(oG s).length=qh (eO s):=by rw [oG,sr,jl];all_goals rfl
theorem jm (s:Sch):aE s=ndsA (fL s) s (fh s) 0:=by
 unfold aE fh;rw [sq,yA,oG,sr,ndsA,ndsA,List.append_nil,Nat.zero_add];rfl
theorem DU {lev:List Wd->Int} {s:Sch} {l:List Ty} {e:Nat} {t:Ty} (h:l[e]? = some t):ndsA lev s (l.take (e + 1)) 0=ndsA lev s (l.take e) 0 ++ ndsT lev s t (ndsA lev s (l.take e) 0).length:=by
 rw [List.take_add_one,h,sq,jl,Nat.zero_add];simp [ndsA]
theorem yB (l:List Ty):∀ e,qh (l.take e)<=qh l:=by
 intro e;have:=wb (l.take e) (l.drop e);rw [List.take_append_drop] at this;omega
theorem AS (s:Sch):qh (fh s)<=s.wt:=by
 have key:∀ l:List (Wd × Ty),qh (l.map fun x=>x.2)<=nmsWt l:=by
  intro l
  induction l with
  | nil=>exact zLeR _
  | cons x r ih=>
   have:=x.2.eI;have:=x.2.dr
   grind [kI,nmsWt]
 have h1:=key s.types;have h2:=s.root.eI;have h3:=s.root.dr
 grind [fh,wb,kI,Sch.wt,eO,qh]
mutual
theorem ss {X:Lx} {L:List ByteArray}:∀ (t:Ty),(knT X L t).1=0->∀ u∈flatT t,(knT X L u).1=0
 | .mk h ps,hk,u,hu=>by
  rw [flatT] at hu;split at hu
  ·cases hu
  ·rcases cY hu with rfl | hu
   ·exact hk
   ·exact yC ps (kF hk).2 u hu
theorem yC {X:Lx} {L:List ByteArray}:∀ (ps:Pts),(knP X L ps).1=0->∀ u∈flatP ps,(knT X L u).1=0
 | .nil,_,u,hu=>by cases hu
 | .cons p v r,hk,u,hu=>by
  rw [flatP] at hu;rcases List.mem_append.1 hu with hu | hu
  ·cases hb:p.bare with
   | true=>rw [hb] at hu;cases hu
   | false=>rw [hb] at hu;exact ss v ((oF hk).1 hb) u hu
  ·exact yC r (oF hk).2 u hu
end
mutual
theorem su:∀ (t:Ty),∀ u∈flatT t,u.wt<=t.wt
 | .mk h ps,u,hu=>by
  rw [flatT] at hu;split at hu
  ·cases hu
  ·rcases cY hu with rfl | hu
   ·exact zLeR _
   ·have:=yD ps u hu;simp only [Ty.wt];omega
theorem yD:∀ (ps:Pts),∀ u∈flatP ps,u.wt<=ps.wt
 | .nil,u,hu=>by cases hu
 | .cons p v r,u,hu=>by
  rw [flatP] at hu;simp only [Pts.wt];rcases List.mem_append.1 hu with hu | hu
  ·split at hu
   ·cases hu
   ·have:=su v u hu;omega
  ·have:=yD r u hu;omega
end
theorem Hf {lev:List Wd->Int} {s:Sch} {t u:Ty} {n k:Nat} (h:(flatT t)[k]? = some u):(ndsT lev s t n)[k]? = some (JI lev s u (n + k)):=by grind [qg]
structure uI (S:Sch):Prop where
 lat:(latF S.ae S.order).1=0
 SP:S.types.length<=64
 kn:∀ t∈fh S,(jv S t).1=0
 ends:∀ i,i < S.types.length->∃ k,endI S (S.types.length + 1) i=some k
 wr:∀ t∈fh S,(wrong t 1 0).1.1=0
theorem Hg:∀ {l:List Ty} {m:Int},(eaA l m).1.1=0->∀ t∈l,(wrong t 1 0).1.1=0
 | [],_,_,t,ht=>by cases ht
 | u :: r,m,h,t,ht=>by
  rw [eaA] at h;split at h
  ·rename_i h1;exact (h1 h).elim
  ·rename_i h1;rcases cY ht with rfl | ht
   ·exact (lj (sU h1)).2.2.1
   ·exact Hg h t ht
theorem ny {S:Sch} (h:(fc S).1=0):uI S:=by
 rw [Cm] at h;split at h
 ·rename_i h1;exact (h1 h).elim
 rename_i h1;split at h
 ·rename_i h2;exact (h2 h).elim
 rename_i h2;split at h
 ·rename_i h3;exact (h3 h).elim
 rename_i h3;split at h
 ·rename_i h4;exact (h4 h).elim
 rename_i h4
 exact {
  lat:=sU h1
  SP:=by grind [dy]
  kn:=AQ (sU h4)
  ends:=yo h
  wr:=Hg (sU h3) }
theorem uI.refs {S:Sch} (h:uI S):∀ x∈S.types,pM S x.2=true:=fun x hx=>vQ (h.kn x.2 (List.mem_append_left _ (List.mem_map_of_mem hx)))
abbrev wC (S:Sch) (f:Nat->Nat->Bool) (N:DV) (z:Int):List DV:=[.sl 2 (bm S.ae) none,.sl 1 (ch (cH S.ae.length f)) none,N,.v (.int .i64 z)]
abbrev Hh (S:Sch) (T:List Ty) (f:Nat->Nat->Bool) (L:List Nd) (z:Int) (e q:Nat):St:=
 ⟨[aF 1 0,aF 2 1,aF 3 2,aS 4 9 (fk T),aq 5 e],[cM S,[.v (.slice none 0 0),.v (.slice none 0 0),.v (.slice none 0 0),.v (.int .i64 0)],wC S f (.sl 7 (bG L) (some 0)) z],[⟨q,87,7,none⟩]⟩
abbrev Lg (S:Sch) (T:List Ty) (f:Nat->Nat->Bool) (L:List Nd) (z:Int) (e:Nat) (F:List Ty) (k q:Nat):St:=
 ⟨[aF 1 0,aF 2 1,aF 3 2,aS 4 9 (fk T),aq 5 e,aS 6 9 (fk F),aq 7 k],[cM S,[.v (.slice none 0 0),.v (.slice none 0 0),.v (.slice none 0 0),.v (.int .i64 0)],wC S f (.sl 7 (bG L) (some 0)) z],[⟨q,87,7,none⟩]⟩
theorem nz (S:Sch) (hS:S.wt<=1099511627776) (hR:(fc S).1=0) :
  aV prog 20 [.agg (cM S)] (.agg (wC S (du S.ae.length (cv (al S.ae) S.order)) (.sl 7 (bG (aE S)) none) (fQ S))):=by
 have H3:=ny hR;obtain ⟨_,Ju⟩:=iq H3.lat;have NW:=vY hS;have Mp:=AS S;have T9:=(mb H3.lat).2.2.1;have Rx:=H3.refs;have jh:=fun t ht hk me Ut=>AR S hS H3.lat H3.SP Rx H3.ends t ht hk me Ut;have hwS:=hS;unfold Sch.wt at hS;have AU:=yt S.ae S.order Ju (by omega) (by omega) T9;have gG:=yx S (by have:=H3.SP;omega);have hlen:(fh S).length=S.types.length + 1:=by simp [fh,eO]
 have Nb:=H3.SP;have JK:=fun s i k=>sk S Nb (by omega) Rx s i k;have E9:=H3.kn;have Cn:=H3.ends;have lr:=iO S;have pk:(fh S)[S.types.length]? = some S.root:=by grind [fh,eO]
 have hrn:=yA S;have nH:(fh S).take S.types.length=eO S:=by grind [fh,eO]
 rw [jm];unfold fQ;generalize fL S=lev at jh ⊢;generalize du S.ae.length (cv (al S.ae) S.order)=f at jh AU ⊢;obtain ⟨ae,order,types,⟨rh,rp⟩⟩:=S;simp only at hS AU hlen Nb Cn lr pk nH;generalize hT:fh ⟨ae,order,types,.mk rh rp⟩=T at NW Mp gG hlen E9 pk nH ⊢;refine eG 67 [.cell 2 52] func20 rfl ntmps20 rfl fun _ _ _ _=>?_;apply kV (fun _=>false) 6 8 [0,1,2,3,4,5,6,7,8,9] [0,1,2,3,4,5,8,6,7,9] 2 2 mo (by decide +kernel)
 ·refine cD Mg AU ?_;refine (?_:@Eq St _ _);exact rfl
 ·refine cD Mg AU ?_;refine (⟨rfl,rfl,?_⟩:_/\_/\_)
  repeat' (first | exact trivial | refine ⟨rfl,?_⟩)
 ·rfl
 refine cP OY gG ?_
 have W7:∀ e,(ndsA lev ⟨ae,order,types,.mk rh rp⟩ (T.take e) 0).length<=1099511627776:=fun e=>by
  rw [jl];have:=yB T e;omega
 refine aW (fun j st=>∃ (e q:Nat) (z:Int),st=Hh ⟨ae,order,types,.mk rh rp⟩ T f (ndsA lev ⟨ae,order,types,.mk rh rp⟩ (T.take e) 0) z e q/\q=(ndsA lev ⟨ae,order,types,.mk rh rp⟩ (T.take e) 0).length/\e<=types.length + 1/\(e=types.length + 1->z=(qh (T.take types.length):Nat))/\j=types.length + 1 - e) (types.length + 1)
  (Hh ⟨ae,order,types,.mk rh rp⟩ T f [] 0 0 0) (eS 3 ⟨0,87,7,none⟩ rfl rfl rfl zB rfl rfl pE) ⟨0,0,0,rfl,rfl,by omega,fun h=>by omega,by omega⟩ ?_
 rintro j st ⟨e,q,z,rfl,hq,he,hz,rfl⟩;refine br ?_ ?_<;>intro hL
 ·have ap:e < types.length + 1:=by have:=hL;simp [cQ,hlen] at this;omega
  obtain ⟨t,ht⟩:∃ t,T[e]? = some t:=⟨_,gE (by omega)⟩;have GH:=NW t (mG ht);have Vo:=E9 t (mG ht);have Ow:=lk _ t (zLeR _) GH;have W8:=ss t Vo;have QL:=su t;have NX:=DU (lev:=lev) (s:=⟨ae,order,types,.mk rh rp⟩) ht;have Vp:=gU t;have fi:=im lev ⟨ae,order,types,.mk rh rp⟩ t (ndsA lev ⟨ae,order,types,.mk rh rp⟩ (T.take e) 0).length;have gH:=fun k u (h:(flatT t)[k]? = some u)=>Hf (lev:=lev) (s:=⟨ae,order,types,.mk rh rp⟩) (n:=(ndsA lev ⟨ae,order,types,.mk rh rp⟩ (T.take e) 0).length) h;have hLe:=W7 e;have Nf:=W7 (e + 1);have Ry:=jl lev ⟨ae,order,types,.mk rh rp⟩ (T.take e) 0;rw [NX,List.length_append] at Nf;obtain ⟨u,us⟩:=t;generalize ndsA lev ⟨ae,order,types,.mk rh rp⟩ (T.take e) 0=L at hq NX fi gH hLe Nf Ry ⊢;generalize ndsT lev ⟨ae,order,types,.mk rh rp⟩ (.mk u us) L.length=M at NX fi gH Nf;generalize flatT (.mk u us)=F at Ow W8 QL Vp gH;have gB:((bG L).length:Int)=(L.length:Int):=by rw [ff]
  refine iX (iu ht) ?_;refine cP IJ Ow ?_
  refine aW (fun j st=>∃ (k q:Nat),st=Lg ⟨ae,order,types,.mk rh rp⟩ T f (L ++ M.take k) (L.length:Int) e F k q/\q=(L ++ M.take k).length/\k<=F.length/\j=F.length - k) F.length
   (Lg ⟨ae,order,types,.mk rh rp⟩ T f (L ++ []) (L.length:Int) e F 0 q) (ep 3 (by repeat' (first | exact rfl | exact au rfl | exact aw gB | exact bL (by rw [List.append_nil]) rfl | refine ⟨_,_,rfl,?_,?_⟩)) (by repeat' (first | exact trivial | exact au rfl | exact aw gB | exact bL (by rw [List.append_nil]) rfl | refine ⟨⟨_,rfl,?_⟩,?_⟩))) ⟨0,q,rfl,by simp [hq],by omega,by omega⟩ ?_
  rintro j st ⟨k,q',rfl,j3,hk,rfl⟩;refine br ?_ ?_<;>intro j2
  ·have eo:k < F.length:=by have:=j2;simp [cQ] at this;exact this
   obtain ⟨v,hv⟩:∃ v,F[k]? = some v:=⟨_,gE eo⟩;have NF:=mG hv;have hvw:=QL v NF;have fg:(bG (L ++ M.take k)).length=q':=by rw [ff,j3]
   have iR:q'=L.length + k:=by rw [j3,List.length_append,eP];omega
   have hnd:=jh v (by omega) (W8 v NF) (bG (L ++ M.take k)).length (by omega)
   have k0:bG (L ++ M.take k) ++ [zg (JI lev ⟨ae,order,types,.mk rh rp⟩ v (bG (L ++ M.take k)).length)]=bG (L ++ M.take (k + 1)):=by
    rw [List.take_add_one,gH k v hv,fg,iR];simp [bG]
   obtain ⟨vh,vp⟩:=v;refine dS ?_;refine iX (iu hv) ?_;refine cD TP hnd ?_;refine ⟨fg,⟨by rw [fg];simp [maxLen];omega,by rw [fg];simp;omega⟩,?_⟩;exact rE ⟨_,by omega,k + 1,q' + 1,rfl,by rw [iR];simp;omega,by omega,rfl⟩ (ep 3 (zC (aT eo (by omega)) k0) (hY (aT eo (by omega)) k0))
  ·have hge:k=F.length:=by have:=j2;simp [cQ] at this;omega
   have hM:M.take k=M:=List.take_of_length_le (by omega);rw [hM] at j3;refine ⟨Hh ⟨ae,order,types,.mk rh rp⟩ T f (ndsA lev ⟨ae,order,types,.mk rh rp⟩ (T.take (e + 1)) 0) (L.length:Int) (e + 1) q',(ep 3 (by repeat' (first | exact rfl | exact au rfl | exact aw (aT ap (by omega)) | exact bL (by rw [NX,hM]) rfl | refine ⟨_,_,rfl,?_,?_⟩)) (by repeat' (first | exact trivial | exact au rfl | exact aw (aT ap (by omega)) | exact bL (by rw [NX,hM]) rfl | refine ⟨⟨_,rfl,?_⟩,?_⟩))),types.length + 1 - (e + 1),by omega,e + 1,q',_,rfl,by rw [NX,j3],by omega,fun he1=>?_,rfl⟩;rw [Ry,show e=types.length by omega]
 ·have hge:e=types.length + 1:=by have:=hL;simp [cQ,hlen] at this;omega
  have hTa:T.take e=T:=List.take_of_length_le (by omega);rw [hTa];have hz:=hz hge;rw [nH,<- hrn] at hz;have K8:=E9 (.mk rh rp) (mG pk);refine br ?_ ?_<;>intro h9
  ·have h9:rh.ai=9:=sU h9;obtain ⟨i,hi⟩:=Option.ne_none_iff_exists'.1 ((kF K8).1 h9);obtain ⟨k,hk⟩:=Cn i (by have:=(cC hi).1;omega);have oE:l9 ⟨ae,order,types,.mk rh rp⟩ (.mk rh rp) (oG ⟨ae,order,types,.mk rh rp⟩).length=(firstA ⟨ae,order,types,.mk rh rp⟩ k:Int):=by simp [l9,Ty.h,h9,NT,hi,namedN,hk]
   refine cP OZ (JK rh.name.s i k hi hk) ?_;rw [oE];exact ⟨_,ax,rfl⟩
  ·have h9:¬ rh.ai=9:=sU h9;have oE:l9 ⟨ae,order,types,.mk rh rp⟩ (.mk rh rp) (oG ⟨ae,order,types,.mk rh rp⟩).length=z:=by simp [l9,Ty.h,h9,hz]
   rw [oE];exact ⟨_,ax,rfl⟩
def Lh (t:Ty):Prop:=∃ d m,(wrong t d m).1.1=0
def Co (ai:Int) (p:Ph) (t:Ty):Prop:=(p.bare=true/\ai=8/\sameTy t bU=true/\bQ p gw=true)∨(p.bare=false/\(cV p).1=0/\Lh t)
structure Vq (h:Hd) (ps:Pts):Prop where
 k1:1<=h.ai
 k9:h.ai<=9
 own:rk h ps=true
 int:h.ai=2->h.lo<=h.hi
 text:h.ai=3->0<=h.most/\h.most<=4096
 enum:h.ai=4->fD h=(0,0)
 one:h.ai=5∨h.ai=6->∃ p t,ps = .cons p t .nil/\p.name.s=aJ/\bQ p dJ=true/\0<=h.most/\h.most<=1024/\Lh t
 many:h.ai=7∨h.ai=8->ps.len<=64/\(h.ai=8->ps.len≠0)/\∀ i p t,ps.toList[i]? = some (p,t)->aA (pNames ps) i p.name=0/\Co h.ai p t
theorem Ng {h:Hd} {ps:Pts} (ho:¬ rc (.mk h ps)=false):rk h ps=true:=by
 rw [BV];cases hb:sameTy (.mk h ps) (mask (.mk h ps))
 ·exact absurd hb ho
 ·rfl
theorem kJ {ai:Int} {all:List Wd}:∀ {ps:Pts} {i:Nat} {d m:Int},(wrongPts ai all i ps d m).1.1=0->(ai=7∨ai=8)->∀ j p t,ps.toList[j]? = some (p,t)->aA all (i + j) p.name=0/\Co ai p t
 | .nil,i,d,m,_,_,j,p,t,hx=>by simp [Pts.toList] at hx
 | .cons q u r,i,d,m,he,hk,j,p,t,hx=>by
  simp only [wrongPts] at he;by_cases c0:aA all i q.name≠0
  ·rw [zIfP c0] at he;exact absurd he c0
  rw [ah c0] at he;have c0:aA all i q.name=0:=sU c0
  have step:∀ d' m',(wrongPts ai all (i + 1) r d' m').1.1=0->Co ai q u->aA all (i + j) p.name=0/\Co ai p t:=by
   intro d' m' h hq
   cases j with
   | zero=>grind [Pts.toList]
   | succ j=>
    simp only [Pts.toList,List.getElem?_cons_succ] at hx;have:=kJ h hk j p t hx
    grind
  by_cases c1:q.bare=true
  ·rw [zIfP c1] at he;by_cases c2:ai=7∨sameTy u bU=false∨bQ q gw=false
   ·rw [zIfP c2] at he;simp at he
   rw [ah c2] at he;refine step d m he (.inl ⟨c1,?_,?_,?_⟩)
   all_goals grind
  ·rw [ah c1] at he;by_cases c2:(cV q).1≠0
   ·rw [zIfP c2] at he;exact absurd he c2
   rw [ah c2] at he;by_cases c3:(wrong u (d + 1) m).1.1≠0
   ·rw [zIfP c3] at he;exact absurd he c3
   rw [ah c3] at he;exact step d _ he (.inr ⟨by simpa using c1,by simpa using c2,d + 1,m,by simpa using c3⟩)
theorem AV:∀ {t:Ty},Lh t->Vq t.h t.ps
 | .mk h ps,⟨d,m,he⟩=>by
  simp only [Ty.h,Ty.ps];simp only [wrong] at he;by_cases c0:24 < d
  ·rw [zIfP c0] at he;simp at he
  rw [ah c0] at he;by_cases c1:512 < m + 1
  ·rw [zIfP c1] at he;simp at he
  rw [ah c1] at he;by_cases c2:h.ai < 1∨9 < h.ai
  ·rw [zIfP c2] at he;simp at he
  rw [ah c2] at he;by_cases c3:rc (.mk h ps)=false
  ·rw [zIfP c3] at he;simp at he
  rw [ah c3] at he;by_cases c4:(h.ai=2/\h.hi < h.lo)∨(h.ai=3/\(h.most < 0∨4096 < h.most))
  ·rw [zIfP c4] at he;simp at he
  rw [ah c4] at he;by_cases c5:h.ai=9/\aX h.name.s=false
  ·rw [zIfP c5] at he;simp at he
  rw [ah c5] at he;refine { k1:=by omega,k9:=by omega,own:=Ng c3,int:=fun h2=>by omega,text:=fun h3=>by omega,enum:=fun h4=>?_,one:=fun h5=>?_,many:=fun h7=>?_ }
  ·rw [zIfP h4] at he;exact tU h he
  ·rw [ah (by omega),zIfP h5] at he
   match ps,he with
   | .nil,he=>simp [wrongOne] at he
   | .cons p t (.cons _ _ _),he=>simp [wrongOne] at he
   | .cons p t .nil,he=>
    simp only [wrongOne] at he;by_cases e0:p.name.s≠aJ∨bQ p dJ=false
    ·rw [zIfP e0] at he;simp at he
    rw [ah e0] at he;by_cases e1:h.most < 0∨1024 < h.most
    ·rw [zIfP e1] at he;simp at he
    rw [ah e1] at he;refine ⟨p,t,rfl,Classical.byContradiction fun hn=>e0 (.inl hn),?_,by omega,by omega,d + 1,_,he⟩
    grind
  ·rw [ah (by omega),ah (by omega),zIfP h7] at he;by_cases e0:h.ai=8/\ps.len=0
   ·rw [zIfP e0] at he;simp at he
   rw [ah e0] at he;by_cases e1:64 < ps.len
   ·rw [zIfP e1] at he;simp at he
   rw [ah e1] at he;refine ⟨by omega,fun h8=>fun hl=>e0 ⟨h8,hl⟩,fun i p t hx=>?_⟩;have:=kJ he h7 i p t hx
   rwa [Nat.zero_add] at this
theorem Vq.sub {h:Hd} {ps:Pts} (hF:Vq h ps) {p:Ph} {u:Ty} (hm:(p,u)∈ps.toList) (hb:p.bare=false):Lh u:=by
 obtain ⟨i,hi⟩:=List.mem_iff_getElem?.1 hm
 have hlen:0 < ps.len:=by
  cases ps with
  | nil=>simp [Pts.toList] at hm
  | cons _ _ _=>simp [Pts.len]
 have hk:5<=h.ai/\h.ai<=8:=by
  have h1:=hF.own
  grind [rk]
 by_cases h5:h.ai=5∨h.ai=6
 ·obtain ⟨q,t,rfl,_,_,_,_,hw⟩:=hF.one h5
  grind [Pts.toList]
 ·rcases ((hF.many (by omega)).2.2 i p u hi).2 with h1 | h1
  ·rw [h1.1] at hb;cases hb
  ·exact h1.2.2
mutual
theorem sv:∀ (t:Ty),Lh t->∀ u∈flatT t,Lh u
 | .mk h ps,hw,u,hu=>by
  rw [flatT] at hu;split at hu
  ·cases hu
  ·rcases cY hu with rfl | hu
   ·exact hw
   ·exact yE ps (fun p v hm hb=>(AV hw).sub hm hb) u hu
theorem yE:∀ (ps:Pts),(∀ p v,(p,v)∈ps.toList->p.bare=false->Lh v)->∀ u∈flatP ps,Lh u
 | .nil,_,u,hu=>by cases hu
 | .cons p v r,hw,u,hu=>by
  rw [flatP] at hu;rcases List.mem_append.1 hu with hu | hu
  ·cases hb:p.bare with
   | true=>rw [hb] at hu;cases hu
   | false=>rw [hb] at hu;exact sv v (hw p v (by simp [Pts.toList]) hb) u hu
  ·exact yE r (fun q w hm=>hw q w (by simp [Pts.toList,hm])) u hu
end
mutual
theorem yF:∀ (t:Ty),∀ u∈flatT t,u.h.ai≠9
 | .mk h ps,u,hu=>by
  rw [flatT] at hu;split at hu
  ·cases hu
  ·rename_i h9;rcases cY hu with rfl | hu
   ·exact h9
   ·exact yG ps u hu
theorem yG:∀ (ps:Pts),∀ u∈flatP ps,u.h.ai≠9
 | .nil,u,hu=>by cases hu
 | .cons p v r,u,hu=>by
  rw [flatP] at hu;rcases List.mem_append.1 hu with hu | hu
  ·split at hu
   ·cases hu
   ·exact yF v u hu
  ·exact yG r u hu
end
mutual
theorem uJ:∀ (t:Ty) (j:Nat) (u:Ty),(flatT t)[j]? = some u->j + u.nn<=t.nn
 | .mk h ps,j,u,hu=>by
  rw [flatT] at hu;by_cases h9:h.ai=9
  ·rw [zIfP h9] at hu;simp at hu
  rw [ah h9] at hu
  cases j with
  | zero=>grind
  | succ j=>
   simp only [List.getElem?_cons_succ] at hu;have:=oP ps j u hu;rw [Ty.nn,ah h9];omega
theorem oP:∀ (ps:Pts) (j:Nat) (u:Ty),(flatP ps)[j]? = some u->j + u.nn<=ps.nn
 | .nil,j,u,hu=>by simp [flatP] at hu
 | .cons p v r,j,u,hu=>by
  rw [flatP] at hu;rw [Pts.nn]
  cases hb:p.bare with
  | true=>
   rw [hb] at hu;have:=oP r j u (sU hu);simp only [if_true];omega
  | false=>
   rw [hb] at hu;simp only [Bool.false_eq_true,if_false] at hu ⊢;by_cases hj:j < (flatT v).length
   ·rw [dF hj] at hu;have:=uJ v j u hu;omega
   ·rw [List.getElem?_append_right (by omega)] at hu;have:=oP r _ u hu;have h2:=gU v;omega
end
theorem nA {lev:List Wd->Int} {s:Sch}:∀ {ps:Pts} {k:Nat} {e:Ed},e∈edsP lev s ps k->∃ p u k',(p,u)∈ps.toList/\e=rZ lev p (qc s p u k')/\(p.bare=false->k' + u.nn<=k + ps.nn)
 | .nil,k,e,he=>by simp [edsP] at he
 | .cons p u r,k,e,he=>by
  rw [edsP] at he;rcases cY he with rfl | he
  ·grind [Pts.toList,Pts.nn]
  ·obtain ⟨q,v,k',h1,h2,h3⟩:=nA he
   grind [Pts.toList,Pts.nn]
theorem mc {lev:List Wd->Int} {s:Sch}:∀ {ps:Pts} {k:Nat},(edsP lev s ps k).map Ed.name=al (pNames ps)
 | .nil,k=>rfl
 | .cons p u r,k=>by
  rw [edsP,List.map_cons,mc (ps:=r)];rfl
theorem uK {f:Nat->Nat->Bool} {n:Nat} (hL:gj f n):∀ e,e<=n->∃ b,b < n/\∀ x,x < e->f b x=true
 | 0,_=>⟨0,hL.pos,fun x hx=>by omega⟩
 | e + 1,he=>by
  obtain ⟨b,hb,fN⟩:=uK hL e (by omega);obtain ⟨k,hk⟩:=hL.mt b e hb (by omega);obtain ⟨g1,g2,g3,g4⟩:=l7 hk;refine ⟨k,g1,fun x hx=>?_⟩;rcases ka hx with hx | rfl
  ·exact hL.tr k b x g1 hb (by omega) g2 (fN x hx)
  ·exact g3
theorem pq {f:Nat->Nat->Bool} {n:Nat} (hL:gj f n) (l:List Nat) (hl:∀ x∈l,x < n):∃ c,dx f n l=some c:=by
 have key:∀ e,e<=l.length->∃ c,dx f n (l.take e)=some c:=by
  intro e
  induction e with
  | zero=>
   intro _;obtain ⟨b,hb,fN⟩:=uK hL n (zLeR _);exact ⟨b,l8 hL hb fN⟩
  | succ e ih=>
   intro he;obtain ⟨c,hc⟩:=ih (by omega);obtain ⟨x,hx⟩:∃ x,l[e]? = some x:=⟨_,gE (by omega)⟩;have w9:=hl x (mG hx);obtain ⟨k,hk⟩:=hL.jn c x (oB hc) w9;rw [List.take_add_one,hx]
   grind [ph]
 have:=key l.length (zLeR _)
 rwa [List.take_length] at this
theorem uL {L:List ByteArray}:∀ {l:List Wd},(labW L l).1=0->∀ w∈l,∃ i,bV L w.s=some i
 | [],_,w,hw=>by cases hw
 | x :: r,h,w,hw=>by
  rw [labW] at h;split at h
  ·cases h
  ·rename_i h1;rcases cY hw with rfl | hw
   ·exact Option.ne_none_iff_exists'.1 h1
   ·exact uL h w hw
theorem DW {f:Nat->Nat->Bool} {L:List ByteArray} (hL:gj f L.length) {l:List Wd} (h:(labW L l).1=0):∃ c:Nat,vM f L l=c/\c < L.length:=by
 obtain ⟨c,hc⟩:=pq hL (jU L l) (fun x hx=>by
  unfold jU at hx;obtain ⟨w,hw,rfl⟩:=List.mem_map.1 hx;obtain ⟨i,hi⟩:=uL h w hw;rw [hi]
  exact (cC hi).1)
 refine ⟨c,?_,oB hc⟩;unfold vM;rw [zIfP h,hc];rfl
structure Vr (L N:Nat) (e:Ed):Prop where
 to0:e.bare=true->e.to = -1
 to1:e.bare=false->∃ k:Nat,e.to=k/\k < N
 lab:∃ k:Nat,e.label=k/\k < L
 seen:∃ k:Nat,e.seen=k/\k < L
 wide:1<=e.wide/\e.wide<=64
 ck:0<=e.ck/\e.ck<=3
 cn:(e.ck=0->e.cn=0)/\(e.ck=1->1<=e.cn)/\(e.ck=2->0<=e.cn/\e.cn<=4096)/\(e.ck=3->e.cn=0)
structure yH (L N:Nat) (n:Nd):Prop where
 k1:1<=n.ai
 k8:n.ai<=8
 Vs:n.ai=2->n.lo<=n.hi
 lo0:n.ai≠2->n.lo=0/\n.hi=0
 Rz:n.ai=3->0<=n.most/\n.most<=4096
 RA:n.ai=5->0<=n.most/\n.most<=1024
 RB:n.ai≠3->n.ai≠5->n.most=0
 af:n.ai=4->n.af ≠ []/\n.af.length<=64/\n.af.Nodup/\∀ s∈n.af,aX s=true
 Nh:n.ai≠4->n.af=[]
 leaf:n.ai < 5->n.bh=[]
 one:n.ai=5∨n.ai=6->∃ e,n.bh=[e]/\e.bare=false/\e.name=aJ
 many:n.ai=7∨n.ai=8->n.bh.length<=64/\(n.ai=8->n.bh ≠ [])/\(n.bh.map Ed.name).Nodup/\∀ e∈n.bh,aX e.name=true
 bare:∀ e∈n.bh,e.bare=true->n.ai=8
 Ai:∀ e∈n.bh,Vr L N e
theorem sw {l:List Wd} (h:∀ j x,l[j]? = some x->aA l j x=0):(al l).Nodup/\∀ x∈l,aX x.s=true:=by
 have key:∀ e,e<=l.length->(al (l.take e)).Nodup:=by
  intro e
  induction e with
  | zero=>intro _;simp [al]
  | succ e ih=>
   intro he;obtain ⟨x,hx⟩:∃ x,l[e]? = some x:=⟨_,gE (by omega)⟩
   grind [jT]
 refine ⟨by have:=key l.length (zLeR _);rwa [List.take_length] at this,fun x hx=>?_⟩;obtain ⟨j,hj⟩:=List.mem_iff_getElem?.1 hx
 grind [aA,aX]
theorem uM {all:List Wd}:∀ {l:List Wd} {i:Nat},(enumL all i l).1=0->∀ j x,l[j]? = some x->aA all (i + j) x=0
 | [],i,_,j,x,hx=>by simp at hx
 | y :: r,i,h,j,x,hx=>by
  rw [enumL] at h;split at h
  ·rename_i h1;exact (h1 h).elim
  ·rename_i h1
   cases j with
   | zero=>grind
   | succ j=>
    simp only [List.getElem?_cons_succ] at hx;have:=uM h j x hx
    grind
theorem we {h:Hd} (he:fD h=(0,0)):h.af ≠ []/\h.af.length<=64/\(al h.af).Nodup/\∀ x∈h.af,aX x.s=true:=by
 unfold fD at he;split at he
 ·cases he
 ·rename_i h1;split at he
  ·cases he
  ·rename_i h2;refine ⟨h1,by omega,?_⟩
   exact sw fun j x hx=>by
    have:=uM (all:=h.af) (i:=0) (by rw [he]) j x hx
    rwa [Nat.zero_add] at this
theorem Cp {X:Lx} {L:List ByteArray}:∀ {ps:Pts},(knP X L ps).1=0->∀ {p:Ph} {u:Ty},(p,u)∈ps.toList->(X.bad p.label).1=0/\(X.bad p.cl).1=0
 | .nil,_,p,u,h=>by cases h
 | .cons q v r,hk,p,u,h=>by
  have hr:=(oF hk).2;rw [knP] at hk;split at hk
  ·rename_i h1;exact (h1 hk).elim
  rename_i h1;split at hk
  ·rename_i h2;exact (h2 hk).elim
  rename_i h2;rcases cY h with h | h
  ·grind
  ·exact Cp hr h
theorem ll {p q:Ph} (h:bQ p q=true):p.bare=q.bare/\p.wide=q.wide/\p.ck=q.ck/\p.cn=q.cn:=by grind [bQ]
theorem Hi {w:Int} (h:0<=w/\w<=64):1<=jg w/\jg w<=64:=by
 unfold jg;split<;>omega
theorem AW {p:Ph} (h:(aN p).1=0):(0<=p.ck/\p.ck<=3)/\(p.ck=0->p.cn=0)/\(p.ck=1->1<=p.cn)/\(p.ck=2->0<=p.cn/\p.cn<=4096)/\(p.ck=3->p.cn=0):=by grind [aN]
theorem DX {p:Ph} (h:(cV p).1=0):(0<=p.wide/\p.wide<=64)/\(aN p).1=0:=by grind [cV,bp]
theorem Hj {t:Ty} (h:t.h.ai≠9):1<=t.nn:=by
 obtain ⟨h',ps⟩:=t;have h:¬ h'.ai=9:=h;rw [Ty.nn,ah h];omega
theorem DY {S:Sch} {k:Nat} {x:Wd × Ty} (hx:S.types[k]? = some x):firstA S k + x.2.nn<=qh (fh S):=by
 have h1:=kE hx;rw [<- h1]
 have h2:firstA S (k + 1)=qh ((eO S).take (k + 1)):=by
  unfold firstA qh eO;rw [<- List.map_take,List.map_map];rfl
 grind [yB,eO,qh,fh,wb]
theorem sx {lev:List Wd->Int} {s:Sch} {n:Nd}:∀ {l:List Ty} {k i:Nat},(ndsA lev s l k)[i]? = some n->∃ t∈l,∃ u∈flatT t,n=JI lev s u (k + i)/\i + u.nn<=qh l
 | [],k,i,h=>by simp [ndsA] at h
 | t :: r,k,i,h=>by
  rw [ndsA] at h;rw [kI];have hl:=im lev s t k;by_cases hi:i < t.nn
  ·rw [dF (by omega),qg,List.getElem?_map,List.getElem?_zipIdx] at h
   cases hu:(flatT t)[i]? with
   | none=>rw [hu] at h;simp at h
   | some u=>
    rw [hu] at h;simp only [Option.map_some,oI] at h;have:=uJ t i u hu;exact ⟨t,List.mem_cons_self,u,mG hu,by rw [<- h];simp,by omega⟩
  ·rw [List.getElem?_append_right (by omega),hl] at h;obtain ⟨t',h1,u,h2,h3,h4⟩:=sx h
   grind
theorem mf (S:Sch):(aE S).length=qh (fh S):=by rw [jm,jl]
theorem oQ {S:Sch} (hF:uI S) {i:Nat} {n:Nd} (h:(aE S)[i]? = some n):yH S.ae.length (aE S).length n:=by
 rw [mf];rw [jm] at h;obtain ⟨t,ht,u,hu,rfl,mH⟩:=sx h;rw [Nat.zero_add];have Jy:=sv t ⟨_,_,hF.wr t ht⟩ u hu;have hk:=ss t (hF.kn t ht) u hu;have UQ:=yF t u hu;have hT:=AV Jy;obtain ⟨RC,_⟩:=iq hF.lat;have fi:=cw S.ae;have Cn:=hF.ends;obtain ⟨uh,us⟩:=u;simp only [Ty.h,Ty.ps] at hT UQ;have MW:=(kF hk).2;have eA:=hT.own;unfold rk at eA;simp only [bA,Bool.or_eq_true,decide_eq_true_eq] at eA;obtain ⟨⟨⟨⟨o1,o2⟩,o3⟩,o4⟩,o5⟩:=eA;have k1:=hT.k1;have k9:=hT.k9
 have DG:∀ l:List Wd,(labW (al S.ae) l).1=0->∃ k:Nat,fL S l=k/\k < S.ae.length:=by
  intro l hl;have:=DW (f:=du S.ae.length (cv (al S.ae) S.order)) (L:=al S.ae) (by rw [fi];exact RC) hl
  rwa [fi] at this
 have oE:∀ (p:Ph) (v:Ty) (k':Nat),(p,v)∈us.toList->(p.bare=false->k' + v.nn<=i + 1 + us.nn)->(p.bare=true->qc S p v k' = -1)/\(p.bare=false->∃ k:Nat,qc S p v k'=k/\k < qh (fh S)):=by
  intro p v k' hm fN;refine ⟨fun hb=>by simp [qc,hb],fun hb=>?_⟩;have hkv:=v8 MW hm hb;obtain ⟨vh,vs⟩:=v;by_cases h9:vh.ai=9
  ·obtain ⟨j,hj⟩:=Option.ne_none_iff_exists'.1 ((kF hkv).1 h9);have pA:=(cC hj).1;rw [iO] at pA;obtain ⟨k,hk⟩:=Cn j pA;have xi:=qa hk;obtain ⟨x,hx⟩:∃ x,S.types[k]? = some x:=⟨_,gE xi.1⟩;have h1:=DY hx
   grind [Hj,firstA,qc,l9,Ty.h,NT,namedN]
  ·grind [Hj,Ty.nn,qc,l9,Ty.h]
 have yh:∀ p v,(p,v)∈us.toList->(0<=p.wide/\p.wide<=64)/\(0<=p.ck/\p.ck<=3)/\((p.ck=0->p.cn=0)/\(p.ck=1->1<=p.cn)/\(p.ck=2->0<=p.cn/\p.cn<=4096)/\(p.ck=3->p.cn=0))/\(p.bare=true->uh.ai=8):=by
  intro p v hm;obtain ⟨j,hj⟩:=List.mem_iff_getElem?.1 hm
  have hlen:us.len≠0:=by
   cases us with
   | nil=>simp [Pts.toList] at hm
   | cons _ _ _=>simp [Pts.len]
  by_cases h5:uh.ai=5∨uh.ai=6
  ·obtain ⟨q,t',rfl,_,ml,_,_,_⟩:=hT.one h5;simp only [Pts.toList,List.mem_singleton,Prod.mk.injEq] at hm;obtain ⟨rfl,rfl⟩:=hm;obtain ⟨w1,w2,w3,w4⟩:=ll ml;have z1:dJ.wide=0:=rfl;have z2:dJ.ck=0:=rfl;have z3:dJ.cn=0:=rfl;have z4:dJ.bare=false:=rfl
   grind
  ·obtain ⟨_,hP⟩:=(hT.many (by omega)).2.2 j p v hj;rcases hP with ⟨hb,h8,_,ml⟩ | ⟨hb,hp,_⟩
   ·obtain ⟨w1,w2,w3,w4⟩:=ll ml;have z1:gw.wide=0:=rfl;have z2:gw.ck=0:=rfl;have z3:gw.cn=0:=rfl;omega
   ·obtain ⟨w1,w2⟩:=DX hp;obtain ⟨w3,w4⟩:=AW w2
    grind
 have RD:us.len=0->us = .nil:=fun h=>by
  cases us with
  | nil=>rfl
  | cons _ _ _=>simp [Pts.len] at h
 refine {
  k1:=k1
  k8:=by show uh.ai<=8;omega
  Vs:=hT.int
  lo0:=fun h2=>?_
  Rz:=hT.text
  RA:=fun h5=>?_
  RB:=fun h3 h5=>?_
  af:=fun h4=>?_
  Nh:=fun h4=>?_
  leaf:=fun h5=>?_
  one:=fun h5=>?_
  many:=fun h7=>?_
  bare:=fun e he hb=>?_
  Ai:=fun e he=>?_ }
 ·show uh.lo=0/\uh.hi=0;exact o1.resolve_left h2
 ·obtain ⟨q,t',rfl,_,_,mw,iw,_⟩:=hT.one (.inl h5);exact ⟨mw,iw⟩
 ·show uh.most=0;exact o2.resolve_left (fun h=>h.elim h3 h5)
 ·obtain ⟨e1,e2,e3,e4⟩:=we (hT.enum h4);show al uh.af ≠ []/\(al uh.af).length<=64/\(al uh.af).Nodup/\∀ s∈al uh.af,aX s=true
  grind [al,cw]
 ·show al uh.af=[];have:=o4.resolve_right h4;have:uh.af=[]:=List.eq_nil_of_length_eq_zero this;rw [this];all_goals rfl
 ·show edsP (fL S) S us (i + 1)=[];have hk5:uh.ai < 5:=h5;rw [RD (o3.resolve_right (by omega))];rfl
 ·show ∃ e,edsP (fL S) S us (i + 1)=[e]/\_;obtain ⟨q,t',rfl,hn,ml,_,_,_⟩:=hT.one h5;refine ⟨rZ (fL S) q (qc S q t' (i + 1)),rfl,?_,hn⟩;exact (ll ml).1
 ·show (edsP (fL S) S us (i + 1)).length<=64/\(_->edsP (fL S) S us (i + 1) ≠ [])/\((edsP (fL S) S us (i + 1)).map Ed.name).Nodup/\∀ e∈edsP (fL S) S us (i + 1),aX e.name=true;obtain ⟨m1,m2,m3⟩:=hT.many h7;have gG:∀ j x,(pNames us)[j]? = some x->aA (pNames us) j x=0:=by grind [eD,Pts.dq,eE]
  obtain ⟨n1,n2⟩:=sw gG;refine ⟨by rw [ni];exact m1,fun h8 hn=>m2 h8 ?_,by rw [mc];exact n1,fun e he=>?_⟩
  ·grind [ni,fL]
  ·have:e.name∈al (pNames us):=by rw [<- mc (lev:=fL S) (s:=S) (k:=i + 1)];exact List.mem_map_of_mem he
   grind [al]
 ·obtain ⟨p,v,k',h1,rfl,_⟩:=nA he;exact (yh p v h1).2.2.2 hb
 ·obtain ⟨p,v,k',h1,rfl,h3⟩:=nA he;obtain ⟨h4,h5⟩:=oE p v k' h1 h3;obtain ⟨h6,h7,h8,_⟩:=yh p v h1;obtain ⟨h9,tv⟩:=Cp MW h1;exact { to0:=h4,to1:=h5,lab:=DG _ h9,seen:=DG _ tv,wide:=Hi h6,ck:=h7,cn:=h8 }
theorem yI {lev:List Wd->Int} {s:Sch} {n:Nd}:∀ {l:List Ty} {k:Nat},n∈ndsA lev s l k->∃ t∈l,∃ u∈flatT t,∃ k',n=JI lev s u k'
 | [],_,h=>by cases h
 | t :: r,k,h=>by
  rw [ndsA] at h;rcases List.mem_append.1 h with h | h
  ·grind [qg]
  ·obtain ⟨t',ht,h⟩:=yI h;exact ⟨t',gA _ ht,h⟩
theorem oR {S:Sch} {n:Nd} (h:n∈aE S) (hS:S.wt<=1099511627776):n.af.length<=1099511627776/\n.bh.length<=1099511627776:=by
 rw [jm] at h;obtain ⟨t,ht,u,hu,k,rfl⟩:=yI h;have h1:=vY hS t ht;have h2:=su t u hu;obtain ⟨uh,us⟩:=u;have h3:=bd uh.af;have h4:=us.dX
 grind [Ty.wt,Hd.wt,JI,Ty.h,Ty.ps,cw,ni]
abbrev zNd:List DV:=[.v (.int .i64 0),.v (.int .i64 0),.v (.int .i64 0),.v (.int .i64 0),.v (.int .i64 0),.v (.slice none 0 0),.v (.slice none 0 0)]
structure jo (S:Sch) (ND:List Nd) (PC:List DV):Prop where
 fine:uI S
 wt:S.wt<=1099511627776
 uy:ND=aE S
 ok:∀ n∈ND,yH S.ae.length ND.length n
 nl:ND.length<=1099511627776
 len:aV prog 22 [.pt PC 0] (.v (.int .i64 ND.length))
 root:aV prog 23 [.pt PC 0] (.v (.int .i64 (fQ S)))
 ag:∀ (i:Nat) n,ND[i]? = some n->aV prog 38 [.pt PC 0,.v (.int .i64 i)] (.bS [.agg (zg n),.v (.bool true)])
 RE:∀ i:Int,(i < 0∨ND.length<=i)->aV prog 38 [.pt PC 0,.v (.int .i64 i)] (.bS [.agg zNd,.v (.bool false)])
 lat:∃ az js,(cr S az js).OK/\aV prog 45 [.pt PC 0] (cr S az js).pd
theorem Hk {S:Sch} {d:DV} (hS:S.wt<=1099511627776) (h0:(fc S).1=0) (hd:GY S d):∃ PC,d = .pt PC 0/\jo S (aE S) PC:=by
 obtain ⟨az,iP,js,hX,hT,iY,rfl⟩:=hd;have hF:=ny h0;have cR:=fun n (h:n∈aE S)=>oR h hS
 refine ⟨_,rfl,{
  fine:=hF
  wt:=hS
  uy:=rfl
  ok:=fun n hn=>?_
  nl:=by rw [mf];exact Nat.le_trans (AS S) hS
  len:=oH _ _ _ _ _ _
  root:=AB _ _ _ _ _ _
  ag:=fun i n h=>AD _ _ _ _ _ _ i n h (cR n (mG h)).1 (cR n (mG h)).2
  RE:=fun i h=>AE _ _ _ _ _ _ i h
  lat:=⟨az,js,hX,DJ _ _ _ _ _ _⟩ }⟩
 obtain ⟨i,hi⟩:=List.mem_iff_getElem?.1 hn;exact oQ hF hi
def Hl (S:Sch) (r:DV):Prop:=((fc S).1≠0/\r = .bS [.v (.pointer none),(fc S).d])∨((fc S).1=0/\∃ PC,jo S (aE S) PC/\r = .bS [.pt PC 0,Ft.d (0,0)])
theorem DZ {S:Sch} (hS:S.wt<=1099511627776) {r:DV} {os:List (List DV)} {tk:List TkE} (h:Ay S r os tk):Hl S r:=by
 unfold Ay at h;by_cases h0:(fc S).1=0
 ·rw [ah (by rw [h0];simp)] at h;obtain ⟨d,hd,rfl⟩:=h;obtain ⟨PC,rfl,hP⟩:=Hk hS h0 hd;exact .inr ⟨h0,PC,hP,rfl⟩
 ·rw [zIfP h0] at h;exact .inl ⟨h0,h⟩
inductive Val where
 | mk (k n:Int) (s:ByteArray) (ks:List Val)
def Val.k:Val->Int | .mk k _ _ _=>k
def Val.n:Val->Int | .mk _ n _ _=>n
def Val.s:Val->ByteArray | .mk _ _ s _=>s
def Val.ks:Val->List Val | .mk _ _ _ ks=>ks
mutual
def Val.wt:Val->Nat
 | .mk _ _ s ks=>64 + s.size + RF ks
def RF:List Val->Nat
 | []=>0
 | v :: r=>v.wt + RF r
end
def to0 (n:Nd):Int:=match n.bh[0]? with | some e=>e.to | none=>0
structure El where
 k:Int
 n:Int
 s:ByteArray
def Hm (f:Nat->Nat->Bool) (n:Nat) (a b:Int):Bool:=decide (0<=a) && decide (a < n) && decide (0<=b) && decide (b < n) && f a.toNat b.toNat
def Vt (f:Nat->Nat->Bool) (n a b:Nat):Nat:=(dE f n a b).getD 0
def AX (f:Nat->Nat->Bool) (n:Nat):Nat:=(dx f n []).getD 0
theorem Hn {f:Nat->Nat->Bool} {n a b:Nat} (ha:a < n) (hb:b < n):Hm f n a b=f a b:=by simp [Hm,ha,hb]
theorem Ho {f:Nat->Nat->Bool} {n a b:Nat} (h:gj f n) (ha:a < n) (hb:b < n):dE f n a b=some (Vt f n a b):=by
 obtain ⟨k,hk⟩:=h.jn a b ha hb;simp [Vt,hk]
theorem uN {f:Nat->Nat->Bool} {n:Nat} (h:gj f n):dx f n []=some (AX f n):=by
 obtain ⟨c,hc⟩:=pq h [] (fun _ h=>by cases h);simp [AX,hc]
section
variable (af:List ByteArray) (tc:List DV) (rows:List Nat) (js:List Int)
theorem D0 (hr:dc rows) (hl:rows.length=af.length) (a b:Int) :
  aV prog 186 [.pt (fq af tc rows js) 0,.v (.int .i64 a),.v (.int .i64 b)] (.v (.bool (hasB rows a b))):=by
 have h1:=uq af tc rows js;have h2:=ja rows hr a b;have hB:hasB rows a b=(decide (0<=a) && decide (a < af.length) && decide (0<=b) && decide (b < af.length) && aK rows a.toNat b.toNat):=by rw [<- hl];all_goals rfl
 generalize hasB rows a b=h at h2 hB ⊢;refine eG 24 [.tmp 6] func186 rfl ntmps186 rfl fun _ _ _ _=>?_;refine cP tN (h1 a) ?_;refine br ?_ ?_<;>intro g
 ·refine cP tN (h1 b) ?_;refine br ?_ ?_<;>intro g2
  ·refine cP xC h2 ?_;exact (rfl:_=_)
  ·refine (cj ?_:);rw [hB];simp only [Bool.and_assoc] at g g2 ⊢;cases hx:decide (0<=b)<;>cases hy:decide (b < af.length)<;>simp_all [pickB]
 ·refine (cj ?_:);rw [hB];cases hx:decide (0<=a)<;>cases hy:decide (a < af.length)<;>simp_all [pickB]
end
structure RG (n:Nat) (f:Nat->Nat->Bool) (af:List ByteArray) (LC:List DV):Prop where
 ok:gj f n
 n32:n<=32
 nl:af.length=n
 len:aV prog 110 [.pt LC 0] (.v (.int .i64 n))
 leq:∀ a b:Int,aV prog 186 [.pt LC 0,.v (.int .i64 a),.v (.int .i64 b)] (.v (.bool (Hm f n a b)))
 join:∀ a b:Nat,a < n->b < n->aV prog 217 [.pt LC 0,.v (.int .i64 a),.v (.int .i64 b)] (.v (.int .i64 (Vt f n a b:Nat)))
 bot:aV prog 46 [.pt LC 0] (.v (.int .i64 (AX f n:Nat)))
abbrev gz (S:Sch):Nat->Nat->Bool:=du S.ae.length (cv (al S.ae) S.order)
theorem jo.RH {S:Sch} {ND:List Nd} {PC:List DV} (hP:jo S ND PC):∃ LC,aV prog 45 [.pt PC 0] (.pt LC 0)/\RG S.ae.length (gz S) (al S.ae) LC:=by
 obtain ⟨az,js,hX,hl⟩:=hP.lat;have fi:=cw S.ae;have B4:=(hP.fine).lat;obtain ⟨hL,Ju⟩:=iq B4;have hpr:∀ p∈cv (al S.ae) S.order,p.1 < S.ae.length/\p.2 < S.ae.length:=by have:=lh (mb B4).2.2.1;rwa [cw] at this
 have iv:(cr S az js).rows.length=S.ae.length:=by
  show (closeR (dL S.ae.length (cv (al S.ae) S.order)) S.ae.length).length=_;rw [dM,ij]
 have hr:dc (cr S az js).rows:=jb (vG (by omega) _ hpr) _ (by omega)
 refine ⟨_,hl,{
  ok:=hL,n32:=Ju,nl:=fi
  len:=?_
  leq:=fun a b=>?_
  join:=fun a b ha hb=>?_
  bot:=?_
  }⟩
 ·have:=ox (cr S az js).af (cd (cr S az js).af (cr S az js).az) (cr S az js).rows (cr S az js).js
  rwa [show (cr S az js).af.length=S.ae.length from fi] at this
 ·have:=D0 (cr S az js).af (cd (cr S az js).af (cr S az js).az) (cr S az js).rows (cr S az js).js hr (by rw [iv];exact fi.symm) a b
  have he:hasB (cr S az js).rows a b=Hm (gz S) S.ae.length a b:=by
   unfold hasB Hm;rw [iv];all_goals rfl
  rwa [he] at this
 ·have hz:=(hX.hj a b (by rw [show (cr S az js).af.length=S.ae.length from fi];exact ha) (by rw [show (cr S az js).af.length=S.ae.length from fi];exact hb)).1;rw [show (cr S az js).af.length=S.ae.length from fi,show (cr S az js).f=gz S from rfl,Ho hL ha hb] at hz;exact rS (cr S az js).af (cd (cr S az js).af (cr S az js).az) (cr S az js).rows (cr S az js).js a b _ (by rw [show (cr S az js).af.length=S.ae.length from fi];exact ha) (by rw [show (cr S az js).af.length=S.ae.length from fi];exact hb) hX.hn hz
 ·have:=ng (cr S az js).af (cd (cr S az js).af (cr S az js).az) (cr S az js).rows (cr S az js).js hX.hL hX.hn hX.hj
  rwa [show (cr S az js).af.length=S.ae.length from fi,show (cr S az js).f=gz S from rfl,uN hL] at this
theorem uO {L:Nat} {ND:List Nd} {d:Nd} (hN:yH L ND.length d) {e:Ed} (he:e∈d.bh):(e.bare=false->e.to=(e.to.toNat:Nat)/\e.to.toNat < ND.length)/\(e.label=(e.label.toNat:Nat)/\e.label.toNat < L)/\(e.seen=(e.seen.toNat:Nat)/\e.seen.toNat < L):=by
 have hE:=hN.Ai e he;refine ⟨fun hb=>?_,?_,?_⟩
 ·obtain ⟨k,h1,h2⟩:=hE.to1 hb;rw [h1];exact ⟨by simp,by simpa using h2⟩
 ·obtain ⟨k,h1,h2⟩:=hE.lab;rw [h1];exact ⟨by simp,by simpa using h2⟩
 ·obtain ⟨k,h1,h2⟩:=hE.seen;rw [h1];exact ⟨by simp,by simpa using h2⟩
section
variable (ND:List Nd) (f:Nat->Nat->Bool) (n obs dep:Nat)
end
theorem JL (s:ByteArray) (n:Nat) (h:s.size<=1099511627776):tx (s.extract n (s.size:Int).toNat)=(tx s).drop n:=by
 simp [tx,sG];exact List.take_of_length_le (by rw [List.length_drop];have:=Ms s;unfold tx at this;omega)
theorem Hp (s:ByteArray) (hs:s.size<=1099511627776) (i:Nat) (hi:i < s.size) (c:UInt8) (hc:s.data.toList[i]? = some c) (hd:kx c=true) (hz:c.toNat=48->digN (s.data.toList.drop i)=1) (hv:eH ((s.data.toList.drop i).take (digN (s.data.toList.drop i)))<=9223372036854775807) :
  aV prog 291 [.v (.string s),.v (.int .i64 i)] (.bS [.v (.int .i64 (eH ((s.data.toList.drop i).take (digN (s.data.toList.drop i))):Nat)),.v (.int .i64 ((i + digN (s.data.toList.drop i):Nat):Int)),Ft.d (0,0)]):=by
 obtain ⟨c',SC,hb⟩:=gO hi
 have pV:c'=c:=by
  have:=congrArg List.head? SC;rw [List.head?_drop,List.head?_cons,hc] at this;exact (Option.some.inj this).symm
 subst pV;have hbi:bq s (i:Int).toNat=c'.toNat:=hb
 have h1:1<=digN (s.data.toList.drop i):=by
  rw [SC,digN,zIfP hd];omega
 have h2:=B0 (s.data.toList.drop i);rw [List.length_drop] at h2;have nV:s.data.toList.length=s.size:=by simp
 unfold kx at hd;simp only [bA,decide_eq_true_eq] at hd;have hx:(s.extract i (s.size:Int).toNat).data.toList=s.data.toList.drop i:=JL s i hs
 have bO:=Dk (s.extract i (s.size:Int).toNat) (by
  have:=congrArg List.length hx;rw [List.length_drop] at this;have h3:(s.extract i (s.size:Int).toNat).data.toList.length=(s.extract i (s.size:Int).toNat).size:=by simp
  omega)
 rw [hx] at bO;have gG:=xY (s.data.toList.drop i);generalize hK:digN (s.data.toList.drop i)=k at *
 have hy:(s.extract i (i + k)).data.toList=(s.data.toList.drop i).take k:=by
  have h3:i + k<=s.size:=by omega
  simp
  all_goals omega
 have hval:=Dl (s.extract i (i + k)) (by
  have:=congrArg List.length hy;rw [eP,List.length_drop] at this;have h3:(s.extract i (i + k)).data.toList.length=(s.extract i (i + k)).size:=by rw [Array.length_toList,ByteArray.size_data]
  omega) false (by rw [hy];exact gG)
 rw [hy] at hval;generalize (s.data.toList.drop i).take k=L at hval hv ⊢
 have hR:pI L false=(((eH L:Nat):Int),true):=by
  unfold pI;rw [ah (by decide),zIfP hv]
 rw [hR] at hval;generalize eH L=V at hval hv ⊢;clear hR gG hx hy
 have hw:IntKind.i64.wrap ((i:Int) + k)=((i + k:Nat):Int):=by
  rw [wrap64 (by omega) (by omega)];omega
 rw [<- hw];refine eG 88 [.tmp 4,.tmp 5,.cell 6 26] func291 rfl ntmps291 rfl fun _ _ _ _=>?_;refine br (fun g=>?_) (fun _=>?_)
 ·exfalso;simp [aj] at g;omega
 refine br (fun _=>?_) (fun g=>absurd (show (i:Int) < s.size by omega) (sU g));refine ⟨⟨by omega,by omega⟩,?_⟩;have W9:¬ ((bq s (i:Int).toNat:Nat):Int)=45:=by omega
 refine br (fun g=>?_) (fun _=>?_)
 ·exfalso;exact W9 (by simpa [pickB] using g)
 refine ⟨⟨by omega,by omega,by omega⟩,?_⟩;refine cP PS bO ?_;refine br (fun g=>?_) (fun _=>?_)
 ·exfalso;have g:((k:Nat):Int)=0/\(i:Int)=s.size:=by simpa [av] using g
  omega
 refine br (fun g=>?_) (fun _=>?_)
 ·exfalso;have g:((k:Nat):Int)=0:=of_decide_eq_true g;omega
 refine ⟨⟨by omega,by omega⟩,?_⟩;refine br (fun g=>?_) (fun _=>?_)
 ·exfalso;simp [av,aj] at g;have h48:bq s i=48:=by omega
  have:=hz (by omega);omega
 have hval:aV prog 335 [.v (.string (s.extract (i:Int).toNat (IntKind.i64.wrap ((i:Int) + k)).toNat)),.v (.bool (decide (((bq s (i:Int).toNat:Nat):Int)=45)))] (.bS [.v (.int .i64 V),.v (.bool true)]):=by
  rw [hw,decide_eq_false W9];exact hval
 refine ⟨⟨by omega,by omega,by omega⟩,?_⟩;refine cP PT hval ?_;exact ⟨_,ax,rfl⟩
abbrev mg (r:DV) (c:aU) (r':DV) (os:List (List DV)) (tk:List TkE):Prop:=r'=r/\os=[bg c]/\tk=[]
theorem aR.get {c:aU} (h:aR c) (h0:c.f.1=0):(fZ c.l)[c.p]? = some (ru c.cF):=by
 obtain ⟨t,h1,h2⟩:=h.cF h0;rw [h2];exact Dg h1
theorem dT (c:aU) (h:aR c):Ev prog 139 [.loc 0 0] [bg c] [] (mg (.agg (ru c.cF)) c):=by
 have hg:=h.get;have DQ:c.f.1≠0->c.cF=j5 c.f.2:=fun h=>by rw [aU.cF,ah h]
 have ap:c.p < (fZ c.l).length:=by rw [fH];exact h.lt
 generalize c.cF=t at hg DQ ⊢;obtain ⟨l,p,d,f1,f2⟩:=c;obtain ⟨k,a,e,s,n⟩:=t;simp only at hg DQ ap;refine eG 35 [.cell 2 218] func139 rfl ntmps139 rfl fun _ _ _ _=>?_;refine br ?_ ?_<;>intro g
 ·have g:¬ f1=0:=sU g;obtain ⟨rfl,rfl,rfl,rfl,rfl⟩:=oh.mk.inj (DQ g);refine dS ?_;exact ⟨.agg _,[bg _],aO,aO,rfl,rfl,rfl⟩
 ·have g:f1=0:=sU g;refine dS ?_;refine iX (hg g) ?_;exact ⟨.agg _,[bg _],aO,aO,rfl,rfl,rfl⟩
theorem mh (c:aU):Ev prog 138 [.loc 0 0] [bg c] [] (mg c.f.d c):=by
 obtain ⟨l,p,d,f1,f2⟩:=c;refine eG 10 [.cell 2 26] func138 rfl ntmps138 rfl fun _ _ _ _=>?_;exact ⟨.agg _,[bg _],aO,aO,rfl,rfl,rfl⟩
theorem uP (c:aU) (h:aR c):Ev prog 284 [.loc 0 0] [bg c] [] (mg (.bS []) c.step):=by
 have hp:=dT c h;have hs:c.step=if c.cF.k=0 then c else { c with p:=c.p + 1 }:=rfl
 have hb:c.p < 1099511627776:=Nat.lt_of_lt_of_le h.lt h.len;generalize c.step=C at hs ⊢;generalize c.cF=t at hp hs;obtain ⟨l,p,d,f1,f2⟩:=c;obtain ⟨k,a,e,s,n⟩:=t;simp only at hb hs;refine eG 13 [] func284 rfl ntmps284 rfl fun _ _ _ _=>?_;refine ay 1 0 mR rfl rfl rfl aO aO hp (fun r os' tk' hΦ _ _=>?_);obtain ⟨rfl,rfl,rfl⟩:=hΦ;refine br ?_ ?_<;>intro g
 ·have g:¬ k=0:=sU g;rw [ah g] at hs;rw [hs]
  have hw:IntKind.i64.wrap ((p:Int) + 1)=((p + 1:Nat):Int):=by
   rw [wrap64 (by omega) (by omega)];omega
  have hX:=congrArg (fun z=>DV.v (Value.int .i64 z)) hw;exact ⟨.bS [],[bg _],(by repeat' (first | exact rfl | exact trivial | exact Or.inr (Or.inl ⟨_,rfl⟩) | exact Or.inr ⟨_,rfl⟩ | exact Or.inl ⟨rfl,rfl⟩ | exact Or.inl rfl | refine Or.inr ⟨_,_,rfl,Nat.zero_le _,rfl,?_⟩ | refine ⟨_,_,rfl,?_,?_⟩ | refine ⟨_,rfl,?_⟩ | exact hX | exact ⟨nL rfl,rfl⟩ | refine Or.inr (Or.inr (Or.inr ⟨_,_,rfl,?_⟩)) | exact Or.inl rfl | refine Or.inr ?_)),(by repeat' (first | exact rfl | exact trivial | exact Or.inr (Or.inl ⟨_,rfl⟩) | exact Or.inr ⟨_,rfl⟩ | exact Or.inl ⟨rfl,rfl⟩ | exact Or.inl rfl | refine Or.inr ⟨_,_,rfl,Nat.zero_le _,rfl,?_⟩ | refine ⟨_,_,rfl,?_,?_⟩ | refine ⟨_,rfl,?_⟩ | exact hX | exact ⟨nL rfl,rfl⟩ | refine Or.inr (Or.inr (Or.inr ⟨_,_,rfl,?_⟩)) | exact Or.inl rfl | refine Or.inr ?_)),rfl,rfl,rfl⟩
 ·have g:k=0:=sU g;rw [zIfP g] at hs;rw [hs];exact ⟨.bS [],[bg _],aO,aO,rfl,rfl,rfl⟩
theorem Cq (c:aU) (h:aR c) (k:Int) (s:ByteArray):Ev prog 247 [.loc 0 0,.v (.int .i64 k),.v (.string s)] [bg c] [] (mg (.v (.bool (c.is k s))) (c.Ez k s)):=by
 have hp:=dT c h;have hs:=uP c h;have hI:c.is k s=(decide (c.cF.k=k) && decide (c.cF.s=s)):=rfl;have hC:c.Ez k s=if c.is k s then c.step else c:=rfl
 generalize c.Ez k s=C2 at hC ⊢;generalize c.is k s=B at hI hC ⊢;generalize c.step=C1 at hs hC;generalize c.cF=t at hp hI;obtain ⟨tk,ta,te,ts,tn⟩:=t;obtain ⟨l,p,d,f1,f2⟩:=c;obtain ⟨l1,p1,d1,f11,f21⟩:=C1;simp only at hI;refine eG 22 [.tmp 6] func247 rfl ntmps247 rfl fun _ _ _ _=>?_;refine ay 1 0 mR rfl rfl rfl aO aO hp (fun r os' tk' hΦ _ _=>?_);obtain ⟨rfl,rfl,rfl⟩:=hΦ;refine br ?_ ?_<;>intro g
 ·have hB:B=false:=by
   rw [hI];have g:¬tk=k∨¬ts=s:=by simpa [aj] using g
   rcases g with g | g<;>simp [g]
  subst hB;rw [ah (by simp)] at hC;rw [hC];exact ⟨.v (.bool false),[bg _],aO,aO,rfl,rfl,rfl⟩
 ·have hB:B=true:=by rw [hI];simpa [aj] using g
  subst hB;rw [zIfP rfl] at hC;rw [hC];refine ay 1 0 KF rfl rfl rfl aO aO hs (fun r os' tk' hΦ _ _=>?_);obtain ⟨rfl,rfl,rfl⟩:=hΦ;exact ⟨.v (.bool true),[bg _],aO,aO,rfl,rfl,rfl⟩
theorem uQ (c:aU) (h:aR c) (s:ByteArray):Ev prog 220 [.loc 0 0,.v (.string s)] [bg c] [] (mg (.v (.bool (c.is 4 s))) (c.Ez 4 s)):=by
 have hs:=Cq c h 4 s;generalize c.Ez 4 s=C2 at hs ⊢;generalize c.is 4 s=B at hs ⊢;obtain ⟨l,p,d,f1,f2⟩:=c;obtain ⟨l1,p1,d1,f11,f21⟩:=C2;refine eG 8 [.tmp 4] func220 rfl ntmps220 rfl fun _ _ _ _=>?_;refine ay 1 0 KB rfl rfl rfl aO aO hs (fun r os' tk' hΦ _ _=>?_);obtain ⟨rfl,rfl,rfl⟩:=hΦ;exact ⟨.v (.bool B),[bg _],aO,aO,rfl,rfl,rfl⟩
theorem oS (c:aU) (h:aR c) (s:ByteArray):Ev prog 163 [.loc 0 0,.v (.string s)] [bg c] [] (mg (.v (.bool (c.is 1 s))) (c.Ez 1 s)):=by
 have hs:=Cq c h 1 s;generalize c.Ez 1 s=C2 at hs ⊢;generalize c.is 1 s=B at hs ⊢;obtain ⟨l,p,d,f1,f2⟩:=c;obtain ⟨l1,p1,d1,f11,f21⟩:=C2;refine eG 8 [.tmp 4] func163 rfl ntmps163 rfl fun _ _ _ _=>?_;refine ay 1 0 KB rfl rfl rfl aO aO hs (fun r os' tk' hΦ _ _=>?_);obtain ⟨rfl,rfl,rfl⟩:=hΦ;exact ⟨.v (.bool B),[bg _],aO,aO,rfl,rfl,rfl⟩
theorem sy (c:aU) (h:aR c) (k:Int):Ev prog 246 [.loc 0 0,.v (.int .i64 k)] [bg c] [] (mg (.bS [.agg (ru (c.EA k)),.v (.bool (c.tk k))]) (c.KT k)):=by
 have hp:=dT c h;have hs:=uP c h;have hI:c.tk k=(!decide (c.cF.k=0) && decide (c.cF.k=k)):=rfl;have hT:c.EA k=if c.tk k then c.cF else ⟨0,0,0,aJ,0⟩:=rfl
 have hC:c.KT k=if c.tk k then c.step else c:=rfl
 generalize c.KT k=C2 at hC ⊢;generalize c.EA k=T2 at hT ⊢;generalize c.tk k=B at hI hC hT ⊢;generalize c.step=C1 at hs hC;generalize c.cF=t at hp hI hT;obtain ⟨tk,ta,te,ts,tn⟩:=t;obtain ⟨l,p,d,f1,f2⟩:=c;obtain ⟨l1,p1,d1,f11,f21⟩:=C1;simp only at hI;refine eG 22 [.cell 4 218,.tmp 5] func246 rfl ntmps246 rfl fun _ _ _ _=>?_;refine ay 1 0 mR rfl rfl rfl aO aO hp (fun r os' tk' hΦ _ _=>?_);obtain ⟨rfl,rfl,rfl⟩:=hΦ;refine br ?_ ?_<;>intro g
 ·have hB:B=false:=by
   rw [hI];have g:tk=0∨¬tk=k:=by simpa [aj] using g
   rcases g with g | g<;>simp [g]
  subst hB;rw [ah (by simp)] at hC hT;rw [hC,hT];exact ⟨.bS [.agg (ru ⟨0,0,0,aJ,0⟩),.v (.bool false)],[bg _],aO,aO,rfl,rfl,rfl⟩
 ·have hB:B=true:=by rw [hI];simpa [aj] using g
  subst hB;rw [zIfP rfl] at hC hT;rw [hC,hT];refine ay 1 0 KF rfl rfl rfl aO aO hs (fun r os' tk' hΦ _ _=>?_);obtain ⟨rfl,rfl,rfl⟩:=hΦ;exact ⟨.bS [.agg (ru _),.v (.bool true)],[bg _],aO,aO,rfl,rfl,rfl⟩
theorem yJ (c:aU) (e a:Int):Ev prog 250 [.loc 0 0,.v (.int .i64 e),.v (.int .i64 a)] [bg c] [] (mg (.bS []) (c.gC e a)):=by
 have hC:c.gC e a=if c.f.1=0/\e≠0 then { c with f:=(e,a) } else c:=rfl
 generalize c.gC e a=C2 at hC ⊢;obtain ⟨l,p,d,f1,f2⟩:=c;simp only at hC;refine eG 26 [] func250 rfl ntmps250 rfl fun _ _ _ _=>?_;refine br ?_ ?_<;>intro g
 ·have g:f1=0/\e≠0:=by simpa [av] using g
  rw [zIfP g] at hC;rw [hC];exact ⟨.bS [],[bg _],aO,aO,rfl,rfl,rfl⟩
 ·have g:¬ (f1=0/\e≠0):=by simpa [av] using g
  rw [ah g] at hC;rw [hC];exact ⟨.bS [],[bg _],aO,aO,rfl,rfl,rfl⟩
theorem jq (c:aU) (h:aR c) (e:Int):Ev prog 168 [.loc 0 0,.v (.int .i64 e)] [bg c] [] (mg (.bS []) (c.fail e)):=by
 have hp:=dT c h;have hs:=yJ c e c.cF.a;have hC:c.fail e=c.gC e c.cF.a:=rfl;rw [hC];generalize c.gC e c.cF.a=C2 at hs ⊢;generalize c.cF=t at hp hs;obtain ⟨tk,ta,te,ts,tn⟩:=t;obtain ⟨l,p,d,f1,f2⟩:=c;obtain ⟨l1,p1,d1,f11,f21⟩:=C2;simp only at hs;refine eG 10 [] func168 rfl ntmps168 rfl fun _ _ _ _=>?_;refine ay 1 0 mR rfl rfl rfl aO aO hp (fun r os' tk' hΦ _ _=>?_);obtain ⟨rfl,rfl,rfl⟩:=hΦ;refine ay 1 0 PG rfl rfl rfl aO aO hs (fun r os' tk' hΦ _ _=>?_);obtain ⟨rfl,rfl,rfl⟩:=hΦ;exact ⟨.bS [],[bg _],aO,aO,rfl,rfl,rfl⟩
theorem uR (c:aU) (h:aR c) (s:ByteArray):Ev prog 159 [.loc 0 0,.v (.string s)] [bg c] [] (mg (.v (.bool (c.is 4 s))) (c.gJ s)):=by
 have hm:=uQ c h s;have hp:=dT c h;have h5:=jq c h 5;have h4:=jq c h 4;have hC:c.gJ s=if c.is 4 s then c.step else c.fail (if c.cF.k=0 then 5 else 4):=rfl
 have hM:c.Ez 4 s=if c.is 4 s then c.step else c:=rfl
 rw [hM] at hm;generalize c.gJ s=C2 at hC ⊢;generalize c.is 4 s=B at hC hm ⊢;generalize c.step=C1 at hm hC;generalize c.cF=t at hp hC;obtain ⟨tk,ta,te,ts,tn⟩:=t;simp only at hC
 cases B with
 | true=>
  rw [zIfP rfl] at hC hm;rw [hC];obtain ⟨l,p,d,f1,f2⟩:=c;obtain ⟨l1,p1,d1,f11,f21⟩:=C1;refine eG 16 [.tmp 4] func159 rfl ntmps159 rfl fun _ _ _ _=>?_;refine ay 1 0 FH rfl rfl rfl aO aO hm (fun r os' tk' hΦ _ _=>?_);obtain ⟨rfl,rfl,rfl⟩:=hΦ;exact ⟨.v (.bool true),[bg _],aO,aO,rfl,rfl,rfl⟩
 | false=>
  rw [ah (by simp)] at hC hm;rw [hC];have e5:tk=0->c.fail (if tk=0 then 5 else 4)=c.fail 5:=fun g=>by rw [zIfP g]
  have e4:¬ tk=0->c.fail (if tk=0 then 5 else 4)=c.fail 4:=fun g=>by rw [ah g]
  generalize c.fail (if tk=0 then 5 else 4)=CX at e5 e4 ⊢;generalize c.fail 5=C5 at h5 e5;generalize c.fail 4=C4 at h4 e4;obtain ⟨l,p,d,f1,f2⟩:=c;obtain ⟨l5,p5,d5,f15,f25⟩:=C5;obtain ⟨l4,p4,d4,f14,f24⟩:=C4;refine eG 16 [.tmp 4] func159 rfl ntmps159 rfl fun _ _ _ _=>?_;refine ay 1 0 FH rfl rfl rfl aO aO hm (fun r os' tk' hΦ _ _=>?_);obtain ⟨rfl,rfl,rfl⟩:=hΦ;refine ay 1 0 mR rfl rfl rfl aO aO hp (fun r os' tk' hΦ _ _=>?_);obtain ⟨rfl,rfl,rfl⟩:=hΦ;refine br ?_ ?_<;>intro g
  ·have g:tk=0:=sU g;rw [e5 g];refine ay 1 0 xB rfl rfl rfl aO aO h5 (fun r os' tk' hΦ _ _=>?_);obtain ⟨rfl,rfl,rfl⟩:=hΦ;exact ⟨.v (.bool false),[bg _],aO,aO,rfl,rfl,rfl⟩
  ·have g:¬ tk=0:=sU g;rw [e4 g];refine ay 1 0 xB rfl rfl rfl aO aO h4 (fun r os' tk' hΦ _ _=>?_);obtain ⟨rfl,rfl,rfl⟩:=hΦ;exact ⟨.v (.bool false),[bg _],aO,aO,rfl,rfl,rfl⟩
theorem AY (c:aU) (h:aR c):Ev prog 248 [.loc 0 0] [bg c] [] (mg (.v (.bool c.enter)) c.ry):=by
 have hf:=jq c h 6;have hI:c.enter = !decide (c.d=24):=rfl;have hC:c.ry=if c.d=24 then c.fail 6 else { c with d:=c.d + 1 }:=rfl
 have hd:=h.dl;generalize c.ry=C2 at hC ⊢;generalize c.enter=B at hI ⊢;generalize c.fail 6=C6 at hf hC;obtain ⟨l,p,d,f1,f2⟩:=c;obtain ⟨l1,p1,d1,f11,f21⟩:=C6;simp only at hI hC hd;refine eG 21 [.tmp 2] func248 rfl ntmps248 rfl fun _ _ _ _=>?_;refine br ?_ ?_<;>intro g
 ·have g:(d:Int)=24:=of_decide_eq_true g;have g:d=24:=by omega
  rw [zIfP g] at hC;rw [hC,hI,decide_eq_true g];refine ay 1 0 xB rfl rfl rfl aO aO hf (fun r os' tk' hΦ _ _=>?_);obtain ⟨rfl,rfl,rfl⟩:=hΦ;exact ⟨.v (.bool false),[bg _],aO,aO,rfl,rfl,rfl⟩
 ·have g:¬ (d:Int)=24:=of_decide_eq_false g;have g:¬ d=24:=by omega
  rw [decide_eq_false g] at hI;rw [ah g] at hC;rw [hC,hI]
  have hw:IntKind.i64.wrap ((d:Int) + 1)=((d + 1:Nat):Int):=by
   rw [wrap64 (by omega) (by omega)];omega
  have hX:=congrArg (fun z=>DV.v (Value.int .i64 z)) hw;exact ⟨.v (.bool true),[bg _],(by repeat' (first | exact rfl | exact trivial | exact Or.inr (Or.inl ⟨_,rfl⟩) | exact Or.inr ⟨_,rfl⟩ | exact Or.inl ⟨rfl,rfl⟩ | exact Or.inl rfl | refine Or.inr ⟨_,_,rfl,Nat.zero_le _,rfl,?_⟩ | refine ⟨_,_,rfl,?_,?_⟩ | refine ⟨_,rfl,?_⟩ | exact hX | exact ⟨nL rfl,rfl⟩ | refine Or.inr (Or.inr (Or.inr ⟨_,_,rfl,?_⟩)) | exact Or.inl rfl | refine Or.inr ?_)),(by repeat' (first | exact rfl | exact trivial | exact Or.inr (Or.inl ⟨_,rfl⟩) | exact Or.inr ⟨_,rfl⟩ | exact Or.inl ⟨rfl,rfl⟩ | exact Or.inl rfl | refine Or.inr ⟨_,_,rfl,Nat.zero_le _,rfl,?_⟩ | refine ⟨_,_,rfl,?_,?_⟩ | refine ⟨_,rfl,?_⟩ | exact hX | exact ⟨nL rfl,rfl⟩ | refine Or.inr (Or.inr (Or.inr ⟨_,_,rfl,?_⟩)) | exact Or.inl rfl | refine Or.inr ?_)),rfl,rfl,rfl⟩
theorem AZ (c:aU) (h:aR c):Ev prog 225 [.loc 0 0] [bg c] [] (mg (.bS []) c.leave):=by
 have hC:c.leave={ c with d:=c.d - 1 }:=rfl;have hd:=h.dl;generalize c.leave=C2 at hC ⊢;obtain ⟨l,p,d,f1,f2⟩:=c;simp only at hC hd;refine eG 13 [] func225 rfl ntmps225 rfl fun _ _ _ _=>?_;rw [hC]
 have hw:max (IntKind.i64.wrap ((d:Int) - 1)) 0=((d - 1:Nat):Int):=by
  rw [wrap64 (by omega) (by omega)];omega
 have hX:=congrArg (fun z=>DV.v (Value.int .i64 z)) hw;exact ⟨.bS [],[bg _],(by repeat' (first | exact rfl | exact trivial | exact Or.inr (Or.inl ⟨_,rfl⟩) | exact Or.inr ⟨_,rfl⟩ | exact Or.inl ⟨rfl,rfl⟩ | exact Or.inl rfl | refine Or.inr ⟨_,_,rfl,Nat.zero_le _,rfl,?_⟩ | refine ⟨_,_,rfl,?_,?_⟩ | refine ⟨_,rfl,?_⟩ | exact hX | exact ⟨nL rfl,rfl⟩ | refine Or.inr (Or.inr (Or.inr ⟨_,_,rfl,?_⟩)) | exact Or.inl rfl | refine Or.inr ?_)),(by repeat' (first | exact rfl | exact trivial | exact Or.inr (Or.inl ⟨_,rfl⟩) | exact Or.inr ⟨_,rfl⟩ | exact Or.inl ⟨rfl,rfl⟩ | exact Or.inl rfl | refine Or.inr ⟨_,_,rfl,Nat.zero_le _,rfl,?_⟩ | refine ⟨_,_,rfl,?_,?_⟩ | refine ⟨_,rfl,?_⟩ | exact hX | exact ⟨nL rfl,rfl⟩ | refine Or.inr (Or.inr (Or.inr ⟨_,_,rfl,?_⟩)) | exact Or.inl rfl | refine Or.inr ?_)),rfl,rfl,rfl⟩
end Go.Proofs.YtfdedoiiahbnnaaGreat
set_option maxRecDepth 100000
namespace Go.Proofs.YtfdedoiiahbnnaaGreat
open Go Go.RowKit Go.Lib Dv Go.Proofs.Tryz
abbrev A0 (l:List oh):aU:=⟨l,0,0,0,0⟩
set_option maxHeartbeats 4000000 in
theorem Ni (s:ByteArray) (l:List oh) (ES:aV prog 157 [.v (.string s)] (.bS [.sl 5 (fZ l) none,Ft.d (0,0)])) :
  Wy prog 85 [.v (.string s)] (fun r os=>r = .bS [.loc 0 0,Ft.d (0,0)]/\os=[bg (A0 l)]):=by
 intro E w vs hE nH hv;simp only [RvL] at hv;obtain ⟨v1,s1,rfl,h1,rfl⟩:=hv;have h1:=bn h1;subst h1;have Sm:=zA hE;obtain ⟨c,β,tk,τ⟩:=E;change Env ⟨c,[],[],[]⟩ [] w at Sm;have mixed:=mo;obtain ⟨w1,zS⟩:∃ w1,w1=w.alloc (.cells #[.int .i64 0,.int .i64 0] 26 (0,0)):=⟨_,rfl⟩;have mn:∀ k,k < w.heap.size->w1.heap[k]? = w.heap[k]?:=fun k hk=>by rw [zS];exact Below.heap_alloc _ _ _ hk
 have lp:w1.heap[w.heap.size]? = some (.cells #[.int .i64 0,.int .i64 0] 26 (0,0)):=by rw [zS];exact Array.getElem?_push_size
 have OQ:=Sm.fx mn;have Fg:=ES _ w1 [.string s] OQ rfl (by simp only [RvL];exact ⟨_,_,rfl,dQ rfl,rfl⟩)
 go_enter func85,ntmps85
 go_wp2_with (go_at_call 157;rw [<- zS];refine Fg.mono ?_)
 have Vu:=Lib.hid zS;clear zS;intro e w2 v2 he sY;subst he;rw [<- Vu.out] at sY;obtain ⟨zt,_,d2,os2,E2,Xa,hβ2,Us,LD,Cz,rfl⟩:=sY;unfold Rv at Cz;obtain ⟨vs,rfl,nW⟩:=Cz;simp only [RvL] at nW;obtain ⟨x1,r1,rfl,hx1,x2,r2,rfl,CO,rfl⟩:=nW;unfold Ft.d Rv at CO;obtain ⟨vs2,rfl,H2,_⟩:=CO;simp only [RvL] at H2;obtain ⟨y1,r3,rfl,sL,y2,r4,rfl,jB,rfl⟩:=H2;obtain rfl:=bn sL;obtain rfl:=bn jB;have RI:=hx1;unfold Rv at hx1;obtain ⟨bs,n,cap,rfl,⟨fi,_⟩,_,_⟩:=hx1;obtain rfl:n=(fZ l).length:=fi;generalize (fZ l).length=n at RI
 go_wp2
 obtain ⟨w3,Ek⟩:∃ w3,w3=w2.alloc (.cells #[.int .i64 0,.int .i64 0] 26 (0,0)):=⟨_,rfl⟩;have hz1:w1.heap.size=w.heap.size + 1:=by rw [Vu.out];simp
 have WL:w1.heap.size<=w2.heap.size:=zt.size;have hz3:w3.heap.size=w2.heap.size + 1:=by rw [Ek];simp
 have hb5:w3.heap[w2.heap.size]? = some (.cells #[.int .i64 0,.int .i64 0] 26 (0,0)):=by rw [Ek];exact Array.getElem?_push_size
 have HT:w3.heap[w.heap.size]? = some (.cells #[.int .i64 0,.int .i64 0] 26 (0,0)):=by
  rw [Ek,Below.heap_alloc _ _ _ (by omega),zt.block _ (by omega) (by
   rintro (h1 | ⟨y,h1,_⟩)
   ·simp at h1
   ·simp at h1)]
  exact lp
 rw [<- Ek];have Xb:=Lib.hid Ek;clear Ek;rename_i K hK
 have L1:∀ x v,E2.c x=some v->x.block < w.heap.size∨(w1.heap.size<=x.block/\x.block < w2.heap.size):=fun x v hx=>by
  rcases LD.cn x v hx with h1 | h1 | ⟨y,h1,_⟩
  ·exact .inl (World.block_lt_of_cell? w x (Sm.sub x v h1))
  ·exact .inr ⟨h1,World.block_lt_of_cell? w2 x (Xa.sub x v hx)⟩
  ·simp at h1
 have Xc:∀ k,k < w2.heap.size->w3.heap[k]? = w2.heap[k]?:=fun k hk=>by rw [Xb.out];exact Below.heap_alloc _ _ _ hk
 have Xd:Env ⟨E2.c,[w.heap.size,w2.heap.size],[],[]⟩ [KS,KS] w3:={
  len:=rfl
  tl:=rfl
  dn:=fun i cs hi=>by
   match i,hi with
   | 0,hi=>
    cases hi;exact ⟨_,_,[.int .i64 0,.int .i64 0],rfl,HT,by simp only [RvL];exact ⟨_,_,rfl,⟨rfl,rfl⟩,_,_,rfl,⟨rfl,rfl⟩,rfl⟩,by intro v hv;simp at hv;subst hv;rfl⟩
   | 1,hi=>
    cases hi;exact ⟨_,_,[.int .i64 0,.int .i64 0],rfl,hb5,by simp only [RvL];exact ⟨_,_,rfl,⟨rfl,rfl⟩,_,_,rfl,⟨rfl,rfl⟩,rfl⟩,by intro v hv;simp at hv;subst hv;rfl⟩
   | i + 2,hi=>simp at hi
  inj:=by simp;omega
  sub:=(Xa.fx Xc).sub
  pc:=fun x v hx hm=>by
   simp only [List.mem_cons,List.not_mem_nil,or_false] at hm;have:=L1 x v hx;omega
  b9:=fun k q y hq=>by simp at hq
  gp:=fun k k' y y' g _ hy=>by simp at hy }
 have S6:E2.tk=[]:=List.eq_nil_of_length_eq_zero Us;have hx4:Rv ⟨E2.c,[w.heap.size,w2.heap.size],[],[]⟩ (.sl 5 (fZ l) none) (.slice bs n cap):=RI.mono (E:=E2) ⟨fun _ _ h=>h,fun i b hb=>by rw [hβ2] at hb;simp at hb,fun k q hq=>by rw [S6] at hq;simp at hq⟩
 refine Df (X:=⟨prog,tt,tM,Tryz.f85,19,[.tmp 2,.cell 3 26],rfl,w3,⟨E2.c,[w.heap.size,w2.heap.size],[],[]⟩,2,0,rfl,rfl,false,fun _ _ _=>False,[],[],false⟩)
  (E:=⟨E2.c,[w.heap.size,w2.heap.size],[],[]⟩) (st:=⟨[(2,⟨[],.v (.pointer none)⟩),aF 3 0,aS 4 5 (fZ l),aF 5 1],[KS,KS],[]⟩)
  (fun st'=>resD tt st' [.tmp 2,.cell 3 26]=some [.loc 2 0,Ft.d (0,0)]/\st'.bx=[KS,KS,bg (A0 l)]) 4000
  {env:=Xd
   tk:=rfl
   sz:=rfl
   tm:=by
    intro i x hx;simp only [ct] at hx;split at hx
    ·rename_i e;cases hx;subst e;exact ⟨fun _=>⟨_,rfl,rfl,rfl⟩,fun hn=>(hn (aM _)).elim⟩
    split at hx
    ·rename_i e;cases hx;subst e;exact ⟨fun _=>⟨_,rfl,w.heap.size,rfl,rfl⟩,fun hn=>(hn (aM _)).elim⟩
    split at hx
    ·rename_i e;cases hx;subst e;exact ⟨fun _=>⟨_,rfl,hx4⟩,fun hn=>(hn (aM _)).elim⟩
    split at hx
    ·rename_i e;cases hx;subst e;exact ⟨fun _=>⟨_,rfl,w2.heap.size,rfl,rfl⟩,fun hn=>(hn (aM _)).elim⟩
    ·cases hx
   df:=rfl
   nw:=Nw.refl Xd
   fr:=⟨rfl,rfl,rfl,zLeR _,fun _ _ _=>rfl⟩
   sh:=fun h=>by cases h
   bt:=fun p hp=>by cases hp } ?_ (fun _ _ _ h=>h) ?_
 ·refine fO [0] (fun _=>false) mo (by decide +kernel) ?_;exact ⟨rfl,rfl⟩
 ·intro st' E' a' w' bD ⟨qH,kT⟩;have hβ':=bD.nw.β;obtain ⟨r,hr,lu⟩:=hβ';have hr:E'.β=[w.heap.size,w2.heap.size] ++ r:=hr;have hlen:=bD.env.len;rw [hr,kT] at hlen
  match r,hlen with
  | [b],_=>
   have hb:E'.β[2]? = some b:=by rw [hr];all_goals rfl
   have BD:w3.heap.size<=b:=lu b (by simp);have RJ:=Gk (i:=2) (cs:=bg (A0 l)) bD.env (by rw [kT];rfl) hb rfl
   have hold:∀ k,k < w.heap.size->w'.heap[k]? = w.heap[k]?:=fun k hk=>by
    rw [bD.fr.block k (by show k < w3.heap.size;omega) (by
     rintro (h1 | ⟨y,h1,_⟩)
     ·simp only [List.mem_cons,List.not_mem_nil,or_false] at h1;omega
     ·simp at h1),Xc k (by omega),zt.block k (by omega) (by
     rintro (h1 | ⟨y,h1,_⟩)
     ·simp at h1
     ·simp at h1),mn k hk]
   refine hK a' w' (wp_ret ?_);refine I7 bD qH fun v hv=>?_;have h1:=bD.fr;have q1:w1.os=w.os/\w1.tape=w.tape/\w1.output=w.output:=by rw [Vu.out];exact ⟨rfl,rfl,rfl⟩
   have q3:w3.os=w2.os/\w3.tape=w2.tape/\w3.output=w2.output:=by rw [Xb.out];exact ⟨rfl,rfl,rfl⟩
   have hz4:w3.heap.size<=w'.heap.size:=h1.size;refine ⟨v,rfl,⟨?_,?_,?_,by omega,fun k hk _=>hold k hk⟩,_,_,_,RJ,rfl,?_,?_,?_,rfl,rfl⟩
   ·rw [show w'.os=w3.os from h1.os,q3.1,zt.os,q1.1]
   ·rw [show w'.tape=w3.tape from h1.tape,q3.2.1,zt.tape,q1.2.1]
   ·rw [show w'.output=w3.output from h1.output,q3.2.2,zt.output,q1.2.2]
   ·have eβ:β=[]:=List.eq_nil_of_length_eq_zero hE.len;have eτ:τ=[]:=List.eq_nil_of_length_eq_zero (by have:=hE.tl;rw [this,nH];rfl);have etk:tk=[]:=nH;subst eβ eτ etk
    exact {
     c:=fun x v hx=>bD.nw.c x v (LD.c x v hx)
     cn:=fun x v hx=>by
      rcases bD.nw.cn x v hx with h2 | h2 | ⟨y,h2,_⟩
      ·rcases LD.cn x v h2 with h3 | h3 | ⟨y,h3,_⟩
       ·exact .inl h3
       ·exact .inr (.inl (by omega))
       ·simp at h3
      ·exact .inr (.inl (by have:w3.heap.size<=x.block:=h2;omega))
      ·simp at h2
     β:=⟨[b],rfl,fun x hx=>by
      simp only [List.mem_singleton] at hx;subst hx
      omega⟩
     tk:=fun k q y hq=>by simp at hq
     tn:=fun k y g _ hy=>by simp at hy
     l0:=rfl }
   ·intro cs cm;simp only [List.mem_singleton] at cm;subst cm;rfl
   ·unfold Rv at hv ⊢;obtain ⟨vs,h2,h3⟩:=hv;refine ⟨vs,h2,?_⟩;simp only [RvL] at h3 ⊢;obtain ⟨a1,s1,rfl,h4,a2,s2,rfl,h5,rfl⟩:=h3;refine ⟨a1,_,rfl,?_,a2,_,rfl,?_,rfl⟩
    ·unfold Rv at h4 ⊢;obtain ⟨b',h6,h7⟩:=h4;rw [hb] at h6;cases h6;exact ⟨b,rfl,h7⟩
    ·exact Rv.mono (E:=E'.cut 0 0) ⟨fun _ _ h=>h,fun i b hb=>by simp [En.cut] at hb,fun k q hq=>by simp [En.cut] at hq⟩ (Rv.cut h5 rfl)
end Go.Proofs.YtfdedoiiahbnnaaGreat
set_option maxRecDepth 100000
namespace Go.Proofs.YtfdedoiiahbnnaaGreat
open Go Go.RowKit Dv Go.Proofs.Tryz
abbrev wI:DV:=.agg [.loc 0 0]
def aU.kw (c:aU) (s:ByteArray):aU:=if c.is 1 s then c.step else c.wrong
def aU.pu (c:aU):Wd:=⟨(c.EA 1).s,(c.EA 1).a⟩
def aU.gD (c:aU):aU:=if c.tk 1 then c.step else c.wrong
theorem kK (c:aU) (h:aR c):Ev prog 245 [wI] [bg c] [] (mg (.bS []) c.wrong):=by
 have hp:=dT c h;have h5:=jq c h 5;have h4:=jq c h 4;have hC:c.wrong=c.fail (if c.cF.k=0 then 5 else 4):=rfl;rw [hC];generalize c.cF=t at hp ⊢;obtain ⟨tk,ta,te,ts,tn⟩:=t;simp only;have e5:tk=0->c.fail (if tk=0 then 5 else 4)=c.fail 5:=fun g=>by rw [zIfP g]
 have e4:¬ tk=0->c.fail (if tk=0 then 5 else 4)=c.fail 4:=fun g=>by rw [ah g]
 generalize c.fail (if tk=0 then 5 else 4)=CX at e5 e4 ⊢;generalize c.fail 5=C5 at h5 e5;generalize c.fail 4=C4 at h4 e4;obtain ⟨l,p,d,f1,f2⟩:=c;obtain ⟨l5,p5,d5,f15,f25⟩:=C5;obtain ⟨l4,p4,d4,f14,f24⟩:=C4;refine eG 13 [] func245 rfl ntmps245 rfl fun _ _ _ _=>?_;refine ay 1 0 mR rfl rfl rfl aO aO hp (fun r os' tk' hΦ _ _=>?_);obtain ⟨rfl,rfl,rfl⟩:=hΦ;refine br ?_ ?_<;>intro g
 ·have g:tk=0:=sU g;rw [e5 g];refine ay 1 0 xB rfl rfl rfl aO aO h5 (fun r os' tk' hΦ _ _=>?_);obtain ⟨rfl,rfl,rfl⟩:=hΦ;exact ⟨.bS [],[bg _],aO,aO,rfl,rfl,rfl⟩
 ·have g:¬ tk=0:=sU g;rw [e4 g];refine ay 1 0 xB rfl rfl rfl aO aO h4 (fun r os' tk' hΦ _ _=>?_);obtain ⟨rfl,rfl,rfl⟩:=hΦ;exact ⟨.bS [],[bg _],aO,aO,rfl,rfl,rfl⟩
theorem mi (c:aU):Ev prog 167 [wI] [bg c] [] (mg (.v (.bool (decide (c.f.1=0)))) c):=by
 have hf:=mh c;obtain ⟨l,p,d,f1,f2⟩:=c;refine eG 8 [.tmp 2] func167 rfl ntmps167 rfl fun _ _ _ _=>?_;refine ay 1 0 Fx rfl rfl rfl aO aO hf (fun r os' tk' hΦ _ _=>?_);obtain ⟨rfl,rfl,rfl⟩:=hΦ;exact ⟨.v (.bool _),[bg _],aO,aO,rfl,rfl,rfl⟩
theorem nB (c:aU) (h:aR c) (s:ByteArray):Ev prog 158 [wI,.v (.string s)] [bg c] [] (mg (.bS []) (c.kw s)):=by
 have hm:=oS c h s;have hw:=kK c h;have hC:c.kw s=if c.is 1 s then c.step else c.wrong:=rfl
 have hM:c.Ez 1 s=if c.is 1 s then c.step else c:=rfl
 rw [hM] at hm;generalize c.kw s=C2 at hC ⊢;generalize c.is 1 s=B at hC hm
 cases B with
 | true=>
  rw [zIfP rfl] at hC hm;rw [hC];generalize c.step=C1 at hm ⊢;obtain ⟨l,p,d,f1,f2⟩:=c;obtain ⟨l1,p1,d1,f11,f21⟩:=C1;refine eG 11 [] func158 rfl ntmps158 rfl fun _ _ _ _=>?_;refine ay 1 0 BM rfl rfl rfl aO aO hm (fun r os' tk' hΦ _ _=>?_);obtain ⟨rfl,rfl,rfl⟩:=hΦ;exact ⟨.bS [],[bg _],aO,aO,rfl,rfl,rfl⟩
 | false=>
  rw [ah (by simp)] at hC hm;rw [hC];generalize c.wrong=C1 at hw ⊢;obtain ⟨l,p,d,f1,f2⟩:=c;obtain ⟨l1,p1,d1,f11,f21⟩:=C1;refine eG 11 [] func158 rfl ntmps158 rfl fun _ _ _ _=>?_;refine ay 1 0 BM rfl rfl rfl aO aO hm (fun r os' tk' hΦ _ _=>?_);obtain ⟨rfl,rfl,rfl⟩:=hΦ;refine ay 1 0 FI rfl rfl rfl aO aO hw (fun r os' tk' hΦ _ _=>?_);obtain ⟨rfl,rfl,rfl⟩:=hΦ;exact ⟨.bS [],[bg _],aO,aO,rfl,rfl,rfl⟩
theorem A1 (c:aU) (h:aR c):Ev prog 162 [wI] [bg c] [] (mg (.agg (gm c.pu)) c.gD):=by
 have hm:=sy c h 1;have hw:=kK c h;have hC:c.gD=if c.tk 1 then c.step else c.wrong:=rfl
 have hW:c.pu=⟨(c.EA 1).s,(c.EA 1).a⟩:=rfl;have hM:c.KT 1=if c.tk 1 then c.step else c:=rfl
 rw [hM] at hm;generalize c.gD=C2 at hC ⊢;generalize c.pu=W at hW ⊢;generalize c.EA 1=t at hm hW;obtain ⟨tk,ta,te,ts,tn⟩:=t;simp only at hW;rw [hW];generalize c.tk 1=B at hC hm
 cases B with
 | true=>
  rw [zIfP rfl] at hC hm;rw [hC];generalize c.step=C1 at hm ⊢;obtain ⟨l,p,d,f1,f2⟩:=c;obtain ⟨l1,p1,d1,f11,f21⟩:=C1;refine eG 20 [.cell 2 34] func162 rfl ntmps162 rfl fun _ _ _ _=>?_;refine ay 1 0 BQ rfl rfl rfl aO aO hm (fun r os' tk' hΦ _ _=>?_);obtain ⟨rfl,rfl,rfl⟩:=hΦ;exact ⟨.agg (gm _),[bg _],aO,aO,rfl,rfl,rfl⟩
 | false=>
  rw [ah (by simp)] at hC hm;rw [hC];generalize c.wrong=C1 at hw ⊢;obtain ⟨l,p,d,f1,f2⟩:=c;obtain ⟨l1,p1,d1,f11,f21⟩:=C1;refine eG 20 [.cell 2 34] func162 rfl ntmps162 rfl fun _ _ _ _=>?_;refine ay 1 0 BQ rfl rfl rfl aO aO hm (fun r os' tk' hΦ _ _=>?_);obtain ⟨rfl,rfl,rfl⟩:=hΦ;refine ay 1 0 FI rfl rfl rfl aO aO hw (fun r os' tk' hΦ _ _=>?_);obtain ⟨rfl,rfl,rfl⟩:=hΦ;exact ⟨.agg (gm _),[bg _],aO,aO,rfl,rfl,rfl⟩
theorem aR.kw {c:aU} (h:aR c) (s:ByteArray):aR (c.kw s):=by
 unfold aU.kw;split
 ·exact h.step
 ·exact h.wrong
theorem aR.gD {c:aU} (h:aR c):aR c.gD:=by
 unfold aU.gD;split
 ·exact h.step
 ·exact h.wrong
theorem sA {c:aU} (h:c.f.1≠0):c.cF=j5 c.f.2:=by rw [aU.cF,ah h]
theorem wg {c:aU} (h:c.f.1≠0) {k:Int} (hk:k≠0) (s:ByteArray):c.is k s=false:=by
 rw [aU.is,sA h];simp [j5,Ne.symm hk]
theorem A2 {c:aU} (h:c.f.1≠0) (k:Int):c.tk k=false:=by
 rw [aU.tk,sA h];simp [j5]
theorem Hq {c:aU} (h:c.f.1≠0) (e a:Int):c.gC e a=c:=by rw [aU.gC,ah (fun g=>h g.1)]
theorem oT {c:aU} (h:c.f.1≠0):c.wrong=c:=Hq h _ _
theorem yK {c:aU} (h:c.f.1≠0) (s:ByteArray):c.gJ s=c:=by rw [aU.gJ,wg h (by decide),ah (by simp),oT h]
theorem Nj {c:aU} (h:c.f.1≠0) (s:ByteArray):c.kw s=c:=by rw [aU.kw,wg h (by decide),ah (by simp),oT h]
end Go.Proofs.YtfdedoiiahbnnaaGreat
