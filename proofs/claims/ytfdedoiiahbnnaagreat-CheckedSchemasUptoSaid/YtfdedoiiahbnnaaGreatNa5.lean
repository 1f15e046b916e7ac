/- Part 5 of the proof: The document's relations: Leads; The document's lattices: Find, pairs, Leq, Loop; The document's lattices: what is wrong; The document's labels: over, Least, Of; The document's schemas: Find, word, all, Flat, End, Start; The document's schemas: Flat, End, Start; The document's schemas: named, unknown; The reference's Wrong returns what is wrong with a type; The document's schemas: what is wrong; The document's nodes: Same, of equal ones; the law's node; The document's nodes: node; The document's plan: Build; What is known of a type with which nothing is wrong; labels have levels; What is known of the nodes of a plan; A plan, as its readers know it; Values, plain; how many are in one, how deep they lie; Values that are the same; Which values fit which nodes: plain, as the program finds it and as the document says it; tree's leaf, kids, Fits; tree.Fits; the document's To, Fits; Values as they are written: plain; tree.write, Raw; Paths: data, Step compared with itself; ref09.Begins, Same on the same path; ref25.Step; A lattice, as its readers know it; Leq; joins are the document's; Where steps lead in a plan, and how places are seen, plain; What is seen of values, and where that differs, plain; A text's first units: the document's Head, the program's heads, floors; Whole numbers in texts: the program's Take of a number that there is; Cursors: the program's Peek, step, is, Mark, Word, Take, Need, Fail, Enter, Leave, Fault; Cursors: the program's is, Mark, Word, Take, FailAt, Fail, Need, Enter, Leave, Next; A new cursor. No condition. -/
import Derived.Lib.Hide
import Derived.Test.YtfdedoiiahbnnaaGreatNa3
import Derived.Test.YtfdedoiiahbnnaaGreatNa4
set_option linter.all false
set_option maxRecDepth 100000
namespace Go.Proofs.YtfdedoiiahbnnaaGreat
open Go Go.RowKit Dv Go.Proofs.Tryz
def cB (r:List Bool):List DV:=r.map fun b=>DV.v (.bool b)
def r7 (r:List Bool):List (List DV):=r.map fun b=>[DV.v (.bool b)]
def ct (m:List (List Bool)):List (List DV):=m.map fun r=>[DV.sl 1 (r7 r) none]
theorem oH (r:List Bool):(cB r).length=r.length:=by simp [cB]
theorem qc (r:List Bool):(r7 r).length=r.length:=by simp [r7]
theorem r8 (m:List (List Bool)):(ct m).length=m.length:=by simp [ct]
theorem G5 {r:List Bool} {i:Nat} {b:Bool} (h:r[i]? = some b):(cB r)[i]? = some (DV.v (.bool b)):=by simp [cB,h]
theorem vO (r:List Bool) (i:Nat) (b:Bool):(cB r).set i (DV.v (.bool b))=cB (r.set i b):=by simp [cB,List.map_set]
theorem B6 {r:List Bool} {i:Nat} {b:Bool} (h:r[i]? = some b):(r7 r)[i]? = some [DV.v (.bool b)]:=by simp [r7,h]
theorem G6 {m:List (List Bool)} {i:Nat} {r:List Bool} (h:m[i]? = some r):(ct m)[i]? = some [DV.sl 1 (r7 r) none]:=by simp [ct,h]
theorem nk (r:List Bool):(r7 r).flatten=cB r:=by
 induction r with
 | nil=>rfl
 | cons b r ih=>simp only [r7,cB,List.map_cons,List.flatten_cons] at ih ⊢;rw [ih];all_goals rfl
theorem DF (n:Nat):(List.replicate n (vL [Value.bool false])).flatten=cB (List.replicate n false):=by
 induction n with
 | zero=>rfl
 | succ n ih=>simp only [List.replicate_succ,List.flatten_cons,ih];rfl
theorem bK {n m:Nat} {tk:List TkE} {l:List DV} {r:List Bool} (h:l=cB r):WeL n m tk l (cB r):=by
 subst h;refine rD _ fun x hx=>?_;obtain ⟨z,_,rfl⟩:=List.mem_map.1 hx;exact ⟨_,rfl⟩
theorem KY {bx:List (List DV)} {N n0 m0 n:Nat} {r:List Bool} (hr:r.length=n) (hN:N<=0) (hb:bx[0]? = some (cB r)):Cc bx N n0 m0 (.sl 1 (r7 r) none) (.ms 0 1 0 n n):=by
 simp only [Cc];refine Or.inr (Or.inr (Or.inl ⟨0,0,n,_,by rw [qc,hr],hN,hb,?_,?_,?_⟩))
 ·grind [nk,oH,qc]
 ·grind [r7]
 ·intro x hx;rw [nk] at hx;obtain ⟨_,_,rfl⟩:=List.mem_map.1 hx;exact .inl ⟨_,rfl⟩
def ed (n:Nat) (l:List (Nat × Nat)):List (List Bool):=(List.range n).map (pI n l)
theorem Ay (n:Nat) (l:List (Nat × Nat)):(ed n l).length=n:=by simp [ed]
theorem Az {n a:Nat} (l:List (Nat × Nat)) (h:a < n):(ed n l)[a]? = some (pI n l a):=by simp [ed,List.getElem?_range h]
theorem DG {n:Nat} {l:List (Nat × Nat)} (h:om n l):ed n l=cW n (dt n l):=by
 unfold ed cW;exact List.map_congr_left fun a ha=>Jc h (List.mem_range.1 ha)
def gx (l:List (Nat × Nat)) (r:List Bool) (e:Nat):List Bool:=(l.take e).foldl fb r
theorem AA (l:List (Nat × Nat)) (r:List Bool) (e:Nat):(gx l r e).length=r.length:=lW (l.take e) r
theorem yl {l:List (Nat × Nat)} {r:List Bool} {e:Nat} {p:Nat × Nat} (h:l[e]? = some p):gx l r (e + 1)=fb (gx l r e) p:=by
 unfold gx;rw [List.take_add_one,h];simp
abbrev U3 (n:Nat) (l:List (Nat × Nat)) (q e:Nat):St:=
 ⟨[al 0 n,aT 1 2 (jM l),(5,⟨[],.sl 1 (ct ((ed n l).take e)) (some 0)⟩),al 6 e],[],[⟨q,183,1,none⟩]⟩
abbrev QV (n:Nat) (l:List (Nat × Nat)) (q e:Nat) (r:List Bool) (k:Nat):St:=
 ⟨[al 0 n,aT 1 2 (jM l),(5,⟨[],.sl 1 (ct ((ed n l).take e)) (some 0)⟩),al 6 e,(7,⟨[],.ms 0 1 0 n n⟩),al 8 k],[cB r],[⟨q,183,1,none⟩]⟩
abbrev QW (n:Nat) (l:List (Nat × Nat)) (q e:Nat) (r:List Bool) (k i:Nat):St:=
 ⟨[al 0 n,aT 1 2 (jM l),(5,⟨[],.sl 1 (ct ((ed n l).take e)) (some 0)⟩),al 6 e,(7,⟨[],.ms 0 1 0 n n⟩),al 8 k,al 9 i],[cB r],[⟨q,183,1,none⟩]⟩
abbrev QX (n:Nat) (l:List (Nat × Nat)) (q e:Nat) (r:List Bool):St:=
 ⟨[al 0 n,aT 1 2 (jM l),al 6 e,(46,⟨[],.sl 1 (ct ((ed n l).take e)) (some 0)⟩),aT 47 1 (r7 r)],[],[⟨q,183,1,none⟩]⟩
theorem AB (n:Nat) (hn:n<=64) (l:List (Nat × Nat)) (hP:om n l) (hb:l.length<=1099511627776) :
  aV prog 113 [.v (.int .i64 n),.sl 2 (jM l) none] (.sl 1 (ct (ed n l)) none):=by
 have zA:=eZ l;have QY:=Ay n l;refine eG 51 [.tmp 4] func113 rfl ntmps113 rfl fun _ _ _ _=>?_;refine lJ (fun e=>U3 n l e e) n (dH ⟨0,183,1,none⟩ rfl ⟨_,rfl⟩ rfl wA rfl rfl pD) ?_;intro e he;refine br ?_ ?_<;>intro hL
 ·have aq:e < n:=by have:=hL;simp at this;exact this
  have U4:((List.replicate n false).set e true).length=n:=by simp
  refine ⟨⟨rfl,by omega,by omega,by omega⟩,?_⟩;refine ⟨⟨by omega,by omega⟩,?_⟩;refine ⟨by rw [DF,oH,List.length_replicate];omega,?_⟩
  have gj:((List.replicate (n:Int).toNat (vL [Value.bool false])).flatten).set (0 + (e:Int).toNat * 1) (DV.v (.bool true))=cB (b9 l ((List.replicate n false).set e true) 0):=by
   rw [DF,show 0 + (e:Int).toNat * 1=e by omega,show (n:Int).toNat=n by omega,vO];rfl
  refine lJ (fun k=>QV n l e e (b9 l ((List.replicate n false).set e true) k) k) n (ep 1 (u7 gj) (c8 gj)) ?_;intro k hk;have ir:=dP l ((List.replicate n false).set e true) k;have qu:=du l ((List.replicate n false).set e true) k;refine br ?_ ?_<;>intro j6
  ·have eB:k < n:=by have:=j6;simp at this;exact this
   generalize b9 l ((List.replicate n false).set e true) k=r at ir qu ⊢;rw [U4] at ir;refine lJ (fun i=>QW n l e e (gx l r i) k i) l.length (ep 1 zo pD) ?_;intro i hi;have nT:=AA l r i;refine br ?_ ?_<;>intro WT
   ·have QZ:i < l.length:=by have:=WT;simp [zA] at this;exact this
    obtain ⟨p,hp⟩:∃ p,l[i]? = some p:=⟨_,gE QZ⟩;obtain ⟨Ej,LW⟩:=hP p (mG hp);have Q0:=yl (r:=r) hp;obtain ⟨b,lm⟩:∃ b,(gx l r i)[p.1]? = some b:=⟨_,gE (by omega)⟩;have J2:(gx l r i).getD p.1 false=b:=by simp [dx,lm]
    rw [fb,J2] at Q0;refine iX (rA hp) ?_;refine ⟨⟨by decide,by decide⟩,?_⟩;refine ⟨⟨by omega,by omega⟩,?_⟩;refine ⟨_,(show (cB (gx l r i))[0 + (p.1:Int).toNat * 1]? = some (.v (.bool b)) by rw [show 0 + (p.1:Int).toNat * 1=p.1 by omega];exact G5 lm),?_⟩;refine br ?_ ?_<;>intro g
    ·have g:b=true:=g;rw [zIfP g] at Q0;refine iX (rA hp) ?_;refine ⟨⟨by decide,by decide⟩,?_⟩;refine ⟨⟨by omega,by omega⟩,?_⟩;refine ⟨by rw [oH];omega,?_⟩;have iT:(cB (gx l r i)).set (0 + (p.2:Int).toNat * 1) (DV.v (.bool true))=cB (gx l r (i + 1)):=by grind [vO]
     exact rE ⟨_,by omega,i + 1,rfl,by omega,rfl⟩ (ep 1 (zp iT (aS QZ (by omega))) (iv iT (aS QZ (by omega))))
    ·have g:¬ b=true:=by rw [show b=false from g];decide
     rw [ah g] at Q0;exact rE ⟨_,by omega,i + 1,rfl,by omega,rfl⟩ (ep 1 (by repeat' (first | exact rfl | exact au rfl | exact bK (by rw [Q0]) | exact aw (aS QZ (by omega)) | refine ⟨_,_,rfl,?_,?_⟩)) (by repeat' (first | exact trivial | exact au rfl | exact bK (by rw [Q0]) | exact aw (aS QZ (by omega)) | refine ⟨⟨_,rfl,?_⟩,?_⟩)))
   ·have hge:i=l.length:=sW zA WT;subst hge;have Q1:gx l r l.length=b9 l ((List.replicate n false).set e true) (k + 1):=by rw [qu,gx,List.take_length];all_goals rfl
    exact rE ⟨_,by omega,k + 1,rfl,by omega,rfl⟩ (ep 1 (by repeat' (first | exact rfl | exact au rfl | exact bK (by rw [Q1]) | exact aw (aS eB (by omega)) | refine ⟨_,_,rfl,?_,?_⟩)) (by repeat' (first | exact trivial | exact au rfl | exact bK (by rw [Q1]) | exact aw (aS eB (by omega)) | refine ⟨⟨_,rfl,?_⟩,?_⟩)))
  ·have hge:k=n:=by have:=j6;simp at this;omega
   subst hge;have nV:b9 l ((List.replicate k false).set e true) k=pI k l e:=rfl;rw [nV];have hrw:=nc k l e;refine EC.wk (.y5 (st':=QX k l e e (pI k l e)) 0 rfl rfl rfl rfl ?_) rfl rfl ?_
   ·refine ⟨⟨_,rfl,?_⟩,⟨_,rfl,?_⟩,⟨_,rfl,?_⟩,⟨_,rfl,?_⟩,⟨_,rfl,KY hrw (by omega) rfl⟩,trivial⟩
    ·simp only [Cc]
    ·grind [Cc]
    ·simp only [Cc]
    ·grind [Cc]
   ·have fN:(ct ((ed k l).take e)).length=e:=by rw [r8,eQ,QY];omega
    have kZ:ct ((ed k l).take e) ++ [[DV.sl 1 (r7 (pI k l e)) none]]=ct ((ed k l).take (e + 1)):=by rw [List.take_add_one,Az l aq];simp [ct]
    refine ⟨fN,⟨by rw [fN];simp [maxLen];omega,by rw [fN];simp;omega⟩,?_⟩;exact rE ⟨_,by omega,e + 1,rfl,by omega,rfl⟩ (bl (iv (aS aq (by omega)) kZ))
 ·have hge:e=n:=by have:=hL;simp at this;omega
  subst hge;have ht:(ed e l).take e=ed e l:=by rw [List.take_of_length_le (by rw [QY];omega)]
  rw [ht];exact ⟨_,ax,rfl⟩
theorem cA {n m:Nat} {tk':List TkE} {x y:Bool} (h:x=y):We n m tk' (.v (.bool x)) (.v (.bool y)):=.inl ⟨by rw [h],rfl⟩
theorem kG {l:List Wd} {j:Nat} {w:Wd} (h:l[j]? = some w):(ap l)[j]? = some w.s:=by simp [ap,h]
theorem B7 {L:List ByteArray} {s:ByteArray} (h:∀ j,j < L.length->L[j]? ≠ some s):cf L s=none:=oq fun j hj=>by grind
abbrev KZ (l:List Wd) (s:ByteArray) (e:Nat):St:=
 ⟨[aT 0 2 (bm l),(1,⟨[],.v (.string s)⟩),al 5 e],[],[]⟩
theorem dQ (l:List Wd) (s:ByteArray) (hs:wdsWt l<=1099511627776) :
  aV prog 188 [.sl 2 (bm l) none,.v (.string s)] (.v (.int .i64 (oz (cf (ap l) s)))):=by
 have nT:=bf l;have fh:=cz l;refine eG 20 [.tmp 4] func188 rfl ntmps188 rfl fun _ _ _ _=>?_;refine lI (fun j st=>∃ e:Nat,st=KZ l s e/\e<=l.length/\(∀ j,j < e->(ap l)[j]? ≠ some s)/\j=l.length - e) ⟨0,rfl,by omega,fun _ h=>by omega,rfl⟩ (bl wB) ?_;rintro j st ⟨e,rfl,he,hno,rfl⟩;refine br ?_ ?_<;>intro hL
 ·have aq:e < l.length:=by simpa [ak] using hL
  obtain ⟨w,hw⟩:=gX aq;refine ⟨gl w,⟨by omega,aH hw⟩,?_⟩;refine br ?_ ?_<;>intro hq
  ·have hq:w.s=s:=sU hq;rw [vF (p:=e) (by rw [kG hw,hq]) (fun j hj=>Nat.le_of_not_lt fun hl=>hno j hl hj)];exact (rfl:_=_)
  ·have hq:¬ w.s=s:=sU hq;refine ⟨KZ l s (e + 1),(bl (c8 (aS aq (by omega)))),l.length - (e + 1),by omega,e + 1,rfl,by omega,fun j hj=>?_,rfl⟩;rcases lE hj with hj | rfl
   ·exact hno j hj
   ·rw [kG hw];simpa using hq
 ·have hge:e=l.length:=by have:=hL;simp [ak] at this;omega
  rw [B7 (fun j hj=>hno j (by omega))];exact (rfl:_=_)
theorem ee {o:Option Nat}:decide (oz o < 0)=true↔o=none:=by
 cases o with
 | none=>simp [oz]
 | some k=>grind [oz]
theorem ym {L:List ByteArray}:∀ {o:List (Wd × Wd)},(numF L o).1=0->∀ x∈o,(∃ a,cf L x.1.s=some a)/\∃ b,cf L x.2.s=some b
 | [],_,x,hx=>by cases hx
 | p :: r,h,x,hx=>by
  rw [numF] at h;split at h
  ·exact absurd h (by simp)
  rename_i h1;split at h
  ·exact absurd h (by simp)
  rename_i h2;rcases cY hx with rfl | hx
  ·exact ⟨Option.ne_none_iff_exists'.1 h1,Option.ne_none_iff_exists'.1 h2⟩
  ·exact ym h x hx
abbrev Q2 (l:List Wd) (o:List (Wd × Wd)) (q e:Nat):St:=
 ⟨[aT 0 2 (bm l),aT 1 4 (j3 o),(5,⟨[],.sl 2 (jM (cr (ap l) (o.take e))) (some 0)⟩),al 6 e],[],[⟨q,285,2,none⟩]⟩
theorem AD (l:List Wd) (o:List (Wd × Wd)) (hs:wdsWt l<=1099511627776) (zf:prsWt o<=1099511627776) (hF:(numF (ap l) o).1=0) :
  aV prog 114 [.sl 2 (bm l) none,.sl 4 (j3 o) none] (.sl 2 (jM (cr (ap l) o)) none):=by
 have nT:=fD o;refine eG 34 [.tmp 4] func114 rfl ntmps114 rfl fun _ _ _ _=>?_;refine lJ (fun e=>Q2 l o e e) o.length (dH ⟨0,285,2,none⟩ rfl ⟨_,rfl⟩ rfl wA rfl rfl pD) ?_;intro e he;refine br ?_ ?_<;>intro hL
 ·have aq:e < o.length:=by simpa [ek] using hL
  obtain ⟨w,hw⟩:=gX aq;obtain ⟨⟨a,ha⟩,⟨b,hb⟩⟩:=ym hF w (mG hw);have Em:=dQ l w.1.s hs;have qB:=dQ l w.2.s hs;rw [ha] at Em;rw [hb] at qB;refine dI ?_;refine ⟨Eo w,⟨by omega,eY hw⟩,?_⟩;refine cD qW Em ?_;refine ⟨Eo w,⟨by omega,eY hw⟩,?_⟩;refine cD qW qB ?_;refine ⟨by simp [eZ,cr];omega,⟨by simp [eZ,cr,maxLen];omega,by simp [eZ,cr];omega⟩,?_⟩;exact rE ⟨_,by omega,e + 1,rfl,by omega,rfl⟩ (bl (iv (aS aq (by omega)) (ue hw ha hb)))
 ·have hge:e=o.length:=by
   have:=hL;simp [ek] at this;omega
  have ht:o.take e=o:=by rw [hge,List.take_length]
  rw [ht];exact ⟨_,ax,rfl⟩
theorem yn (l:List Wd) (o:List (Wd × Wd)) (hl:l.length<=32) (hs:wdsWt l<=1099511627776) (zf:prsWt o<=1099511627776) (hF:(numF (ap l) o).1=0) :
  aV prog 49 [.sl 2 (bm l) none,.sl 4 (j3 o) none] (.sl 1 (ct (cW l.length (dt l.length (cr (ap l) o)))) none):=by
 have nT:=fD o;have hP:om l.length (cr (ap l) o):=by have:=lf hF;rwa [cz] at this
 have hN:=ak l;have Jm:=AB l.length (by omega) (cr (ap l) o) hP (by simp [cr];omega);rw [DG hP] at Jm;refine eG 11 [.tmp 4] func49 rfl ntmps49 rfl fun _ _ _ _=>?_;refine cP O1 (AD l o hs zf hF) ?_;rw [hN];refine cP O0 Jm ?_;exact ⟨_,ax,rfl⟩
theorem yo (n:Nat) (f:Nat->Nat->Bool):(cW n f).length=n:=by simp [cW]
theorem gT (n:Nat) (f:Nat->Nat->Bool):(ct (cW n f)).length=n:=by rw [r8,yo]
theorem dA {n:Nat} {f:Nat->Nat->Bool} {a:Nat} (ha:a < n):(ct (cW n f))[a]? = some [DV.sl 1 (r7 ((List.range n).map (f a))) none]:=G6 (x5 ha)
theorem cJ {n:Nat} {f:Nat->Nat->Bool} {a b:Nat} (hb:b < n):(r7 ((List.range n).map (f a)))[b]? = some [DV.v (.bool (f a b))]:=B6 (by simp [List.getElem?_range hb])
abbrev K0 (n:Nat) (f:Nat->Nat->Bool) (e:Nat):St:=
 ⟨[aT 0 1 (ct (cW n f)),al 3 e],[],[]⟩
abbrev MP (n:Nat) (f:Nat->Nat->Bool) (e k:Nat):St:=
 ⟨[aT 0 1 (ct (cW n f)),al 3 e,al 4 k],[],[]⟩
theorem yp (n:Nat) (f:Nat->Nat->Bool) (hn:n<=64) :
  aV prog 189 [.sl 1 (ct (cW n f)) none] (.v (.int .i64 (oz (bE (iE n f) n)))):=by
 have fN:=gT n f;refine eG 39 [.tmp 2] func189 rfl ntmps189 rfl fun _ _ _ _=>?_;refine lI (fun j st=>∃ e:Nat,st=K0 n f e/\e<=n/\(∀ a,a < e->iE n f a=false)/\j=n - e) ⟨0,rfl,by omega,fun _ h=>by omega,rfl⟩ (bl wB) ?_;rintro j st ⟨e,rfl,he,hno,rfl⟩;refine br ?_ ?_<;>intro hL
 ·have aq:e < n:=sV fN hL;refine lI (fun j st=>∃ k:Nat,st=MP n f e k/\k<=n/\(∀ b,b < k->(decide (e≠b) && (f e b && f b e))=false)/\j=n - k) ⟨0,rfl,by omega,fun _ h=>by omega,rfl⟩ (bl wB) ?_;rintro j st ⟨k,rfl,hk,np,rfl⟩;refine br ?_ ?_<;>intro j6
  ·have eB:k < n:=sV fN j6;have xN:(decide (e≠k) && (f e k && f k e))=false->∀ b,b < k + 1->(decide (e≠b) && (f e b && f b e))=false:=fun h b hb=>by grind
   refine br ?_ ?_<;>intro g1
   ·have g1:e≠k:=by have:=g1;simp at this;omega
    refine iX (dA aq) ?_;refine iX (cJ eB) ?_;refine br ?_ ?_<;>intro g2
    ·have g2:f e k=true:=by simpa [pickB] using g2
     refine iX (dA eB) ?_;refine iX (cJ aq) ?_;refine br ?_ ?_<;>intro g3
     ·have g3:f k e=true:=by simpa [pickB] using g3
      have hp:iE n f e=true:=List.any_eq_true.2 ⟨k,List.mem_range.2 eB,by simp [g1,g2,g3]⟩;rw [cw aq hp hno];exact (rfl:_=_)
     ·have g3:f k e=false:=by simpa [pickB] using g3
      exact rE ⟨_,by omega,k + 1,rfl,by omega,xN (by simp [g3]),rfl⟩ (bl (c8 (aS eB (by omega))))
    ·have g2:f e k=false:=by simpa [pickB] using g2
     exact rE ⟨_,by omega,k + 1,rfl,by omega,xN (by simp [g2]),rfl⟩ (bl (c8 (aS eB (by omega))))
   ·have g1:e=k:=by have:=g1;simp at this;omega
    exact rE ⟨_,by omega,k + 1,rfl,by omega,xN (by simp [g1]),rfl⟩ (bl (c8 (aS eB (by omega))))
  ·have hge:k=n:=sW fN j6;refine ⟨K0 n f (e + 1),(bl (c8 (aS aq (by omega)))),n - (e + 1),by omega,e + 1,rfl,by omega,fun j hj=>?_,rfl⟩;rcases lE hj with hj | rfl
   ·exact hno j hj
   ·grind [iE]
 ·have hge:e=n:=sW fN hL;subst hge;rw [cL hno];exact (rfl:_=_)
abbrev U5 (n:Nat) (f:Nat->Nat->Bool) (q e:Nat):St:=
 ⟨[aT 0 1 (ct (cW n f)),(3,⟨[],.sl 1 (ct ((cW n fun a b=>f b a).take e)) (some 0)⟩),al 4 e],[],[⟨q,183,1,none⟩]⟩
abbrev Q3 (n:Nat) (f:Nat->Nat->Bool) (q e:Nat) (r:List Bool) (k:Nat):St:=
 ⟨[aT 0 1 (ct (cW n f)),(3,⟨[],.sl 1 (ct ((cW n fun a b=>f b a).take e)) (some 0)⟩),al 4 e,(5,⟨[],.ms 0 1 0 n n⟩),al 6 k],[cB r],[⟨q,183,1,none⟩]⟩
abbrev Q4 (n:Nat) (f:Nat->Nat->Bool) (q e:Nat) (r:List Bool):St:=
 ⟨[aT 0 1 (ct (cW n f)),al 4 e,(32,⟨[],.sl 1 (ct ((cW n fun a b=>f b a).take e)) (some 0)⟩),aT 33 1 (r7 r)],[],[⟨q,183,1,none⟩]⟩
def jh (n:Nat) (f:Nat->Nat->Bool) (e k:Nat):List Bool:=(List.range n).map fun b=>if b < k then f b e else false
theorem oJ (n:Nat) (f:Nat->Nat->Bool) (e k:Nat):(jh n f e k).length=n:=by simp [jh]
theorem AE (n:Nat) (f:Nat->Nat->Bool) (e:Nat):jh n f e 0=List.replicate n false:=by
 refine List.ext_getElem? fun i=>?_
 grind [jh,oJ]
theorem AF (n:Nat) (f:Nat->Nat->Bool) (e k:Nat):(jh n f e k).set k (f k e)=jh n f e (k + 1):=by
 refine List.ext_getElem? fun i=>?_
 grind [jh,oJ]
theorem AG (n:Nat) (f:Nat->Nat->Bool) (e:Nat):jh n f e n=(List.range n).map (fun b=>f b e):=by simp_all [jh]
theorem DH (n:Nat) (f:Nat->Nat->Bool) (hn:n<=64) :
  aV prog 190 [.sl 1 (ct (cW n f)) none] (.sl 1 (ct (cW n fun a b=>f b a)) none):=by
 have fN:=gT n f;have QY:=yo n fun a b=>f b a;refine eG 37 [.tmp 2] func190 rfl ntmps190 rfl fun _ _ _ _=>?_;refine lJ (fun e=>U5 n f e e) n (dH ⟨0,183,1,none⟩ rfl ⟨_,rfl⟩ rfl wA rfl rfl pD) ?_;intro e he;refine br ?_ ?_<;>intro hL
 ·have aq:e < n:=sV fN hL;refine ⟨⟨rfl,by omega,by rw [fN];omega,by rw [fN];omega⟩,?_⟩;rw [fN];have gj:(List.replicate (n:Int).toNat (vL [Value.bool false])).flatten=cB (jh n f e 0):=by grind [DF,AE]
  refine lJ (fun k=>Q3 n f e e (jh n f e k) k) n (ep 1 (u7 gj) (c8 gj)) ?_;intro k hk;refine br ?_ ?_<;>intro j6
  ·have eB:k < n:=sV fN j6;refine iX (dA eB) ?_;refine iX (cJ aq) ?_;refine ⟨⟨by omega,by omega⟩,?_⟩;refine ⟨by rw [oH,oJ];omega,?_⟩
   have iT:(cB (jh n f e k)).set (0 + (k:Int).toNat * 1) (DV.v (.bool (f (k:Int).toNat (e:Int).toNat)))=cB (jh n f e (k + 1)):=by
    rw [show 0 + (k:Int).toNat * 1=k by omega,vO,sE,sE,AF]
   exact rE ⟨_,by omega,k + 1,rfl,by omega,rfl⟩ (ep 1 (zp iT (aS eB (by omega))) (iv iT (aS eB (by omega))))
  ·have hge:k=n:=sW fN j6;subst hge;rw [AG];refine EC.wk (.y5 (st':=Q4 k f e e ((List.range k).map fun b=>f b e)) 0 rfl rfl rfl rfl ?_) rfl rfl ?_
   ·refine ⟨⟨_,rfl,?_⟩,⟨_,rfl,?_⟩,⟨_,rfl,?_⟩,⟨_,rfl,KY (by simp) (by omega) rfl⟩,trivial⟩
    ·grind [Cc]
    ·simp only [Cc]
    ·grind [Cc]
   ·have U6:(ct ((cW k fun a b=>f b a).take e)).length=e:=by rw [r8,eQ,QY];omega
    have kZ:ct ((cW k fun a b=>f b a).take e) ++ [[DV.sl 1 (r7 ((List.range k).map fun b=>f b e)) none]]=ct ((cW k fun a b=>f b a).take (e + 1)):=by rw [List.take_add_one,x5 aq];simp [ct]
    refine ⟨U6,⟨by rw [U6];simp [maxLen];omega,by rw [U6];simp;omega⟩,?_⟩;exact rE ⟨_,by omega,e + 1,rfl,by omega,rfl⟩ (bl (iv (aS aq (by omega)) kZ))
 ·have hge:e=n:=sW fN hL;subst hge;rw [List.take_of_length_le (by rw [QY];omega)];exact ⟨_,ax,rfl⟩
def K1 (f:Nat->Nat->Bool) (n a b c:Nat):Bool:=(f a c && f b c) && (List.range n).all fun d=>!(f a d && f b d) || f c d
def ji (f:Nat->Nat->Bool) (n a b:Nat):Option Nat:=bE (K1 f n a b) n
def j7 (f:Nat->Nat->Bool) (a b c k:Nat):Bool:=(f a c && f b c) && (List.range k).all fun d=>!(f a d && f b d) || f c d
theorem DI (f:Nat->Nat->Bool) (a b c k:Nat):j7 f a b c (k + 1)=(j7 f a b c k && (!(f a k && f b k) || f c k)):=by
 simp only [j7,List.range_succ,List.all_append,List.all_cons,List.all_nil,Bool.and_true,Bool.and_assoc]
theorem uz (f:Nat->Nat->Bool) (a b c:Nat):j7 f a b c 0=(f a c && f b c):=by simp [j7]
abbrev Q5 (n:Nat) (f:Nat->Nat->Bool) (a b e:Nat):St:=
 ⟨[aT 0 1 (ct (cW n f)),al 1 a,al 2 b,al 7 e],[],[]⟩
abbrev B8 (n:Nat) (f:Nat->Nat->Bool) (a b e:Nat) (x:Bool) (k:Nat):St:=
 ⟨[aT 0 1 (ct (cW n f)),al 1 a,al 2 b,al 7 e,zq 8 x,al 9 k],[],[]⟩
theorem pk (n:Nat) (f:Nat->Nat->Bool) (hn:n<=64) (a b:Nat) (ha:a < n) (hb:b < n) :
  aV prog 191 [.sl 1 (ct (cW n f)) none,.v (.int .i64 a),.v (.int .i64 b)] (.v (.int .i64 (oz (ji f n a b)))):=by
 have fN:=gT n f;refine eG 66 [.tmp 6] func191 rfl ntmps191 rfl fun _ _ _ _=>?_;refine lI (fun j st=>∃ e:Nat,st=Q5 n f a b e/\e<=n/\(∀ c,c < e->K1 f n a b c=false)/\j=n - e) ⟨0,rfl,by omega,fun _ h=>by omega,rfl⟩ (bl wB) ?_;rintro j st ⟨e,rfl,he,hno,rfl⟩;refine br ?_ ?_<;>intro hL
 ·have aq:e < n:=sV fN hL;refine iX (dA ha) ?_;refine iX (cJ aq) ?_;have e1:(f a e == true)=true->f b e=j7 f a b e 0:=fun g=>by rw [uz,show f a e=true by simpa using g];simp
  have e2:(f a e == true)=false->false=j7 f a b e 0:=fun g=>by rw [uz,show f a e=false by simpa using g];simp
  refine have body:=?_;br (fun g1=>⟨_,⟨by omega,dA hb⟩,⟨_,⟨by omega,cJ aq⟩,aX (fun j st=>∃ k:Nat,st=B8 n f a b e (j7 f a b e k) k/\k<=n/\j=n - k) n (B8 n f a b e (j7 f a b e 0) 0) (bl (by repeat' (first | exact trivial | exact au rfl | exact (show We _ _ _ (DV.v (.bool (f b e))) _ from cA (e1 g1)) | refine ⟨⟨_,rfl,?_⟩,?_⟩))) ⟨0,rfl,by omega,by omega⟩ body⟩⟩) (fun g1=>aX (fun j st=>∃ k:Nat,st=B8 n f a b e (j7 f a b e k) k/\k<=n/\j=n - k) n (B8 n f a b e (j7 f a b e 0) 0) (bl (by repeat' (first | exact trivial | exact au rfl | exact (show We _ _ _ (DV.v (.bool false)) _ from cA (e2 g1)) | refine ⟨⟨_,rfl,?_⟩,?_⟩))) ⟨0,rfl,by omega,by omega⟩ body);rintro j st ⟨k,rfl,hk,rfl⟩;refine br ?_ ?_<;>intro j6
  ·have eB:k < n:=sV fN j6;have K2:=DI f a b e k;refine iX (dA ha) ?_;refine iX (cJ eB) ?_;refine br ?_ ?_<;>intro g1
   ·refine iX (dA hb) ?_;refine iX (cJ eB) ?_;refine br ?_ ?_<;>intro g2
    ·refine iX (dA aq) ?_;refine iX (cJ eB) ?_;refine br ?_ ?_<;>intro g3
     ·have hx:false=j7 f a b e (k + 1):=by simp [pickB] at g1 g2 g3;rw [K2];simp [g1,g2,g3]
      exact rE ⟨_,by omega,k + 1,rfl,by omega,rfl⟩ (bl (iv (aS eB (by omega)) hx))
     ·have hx:j7 f a b e k=j7 f a b e (k + 1):=by simp [pickB] at g1 g2 g3;rw [K2];simp [g1,g2,g3]
      exact rE ⟨_,by omega,k + 1,rfl,by omega,rfl⟩ (bl (iv (aS eB (by omega)) hx))
    ·have hx:j7 f a b e k=j7 f a b e (k + 1):=by simp [pickB] at g1 g2;rw [K2];simp [g1,g2]
     exact rE ⟨_,by omega,k + 1,rfl,by omega,rfl⟩ (bl (iv (aS eB (by omega)) hx))
   ·have hx:j7 f a b e k=j7 f a b e (k + 1):=by simp [pickB] at g1;rw [K2];simp [g1]
    exact rE ⟨_,by omega,k + 1,rfl,by omega,rfl⟩ (bl (iv (aS eB (by omega)) hx))
  ·have hge:k=n:=sW fN j6;subst hge;refine br ?_ ?_<;>intro g
   ·have g:K1 f k a b e=true:=g;rw [ji,cw aq g hno];exact (rfl:_=_)
   ·have g:K1 f k a b e=false:=g;refine ⟨Q5 k f a b (e + 1),(bl (c8 (aS aq (by omega)))),k - (e + 1),by omega,e + 1,rfl,by omega,fun j hj=>?_,rfl⟩;rcases lE hj with hj | rfl
    ·exact hno j hj
    ·exact g
 ·have hge:e=n:=sW fN hL;subst hge;rw [ji,cL hno];exact (rfl:_=_)
theorem G7 {l:List Wd} {i:Nat} {w:Wd} (hw:l[i]? = some w):∃ p,cf (ap l) w.s=some p/\(p < i↔bR (l.take i) w.s=true):=by
 cases h:cf (ap l) w.s with
 | none=>exact absurd (mG (kG hw)) (sN.1 h)
 | some p=>
  refine ⟨p,rfl,?_⟩;obtain ⟨h1,h2,h3⟩:=cx h;rw [cz] at h1;have G8:∃ v,l[p]? = some v/\v.s=w.s:=by grind [kG]
  obtain ⟨v,hv,nU⟩:=G8;unfold bR;rw [List.any_eq_true];refine ⟨fun aq=>⟨v,mG (i:=p) (by rw [bM,zIfP aq];exact hv),by simp [nU]⟩,fun ⟨x,hx,Bq⟩=>?_⟩;obtain ⟨j,hj⟩:=List.getElem?_of_mem hx
  grind [kG]
theorem vP {f:Nat->Nat->Bool} {n a b c:Nat}:K1 f n a b c=true↔f a c=true/\f b c=true/\∀ d,d < n->f a d=true->f b d=true->f c d=true:=by grind [K1]
structure Jw (f:Nat->Nat->Bool) (n:Nat):Prop where
 rfl':∀ a,a < n->f a a=true
 Ak:∀ a b,a < n->b < n->f a b=true->f b a=true->a=b
theorem Jw.flip {f:Nat->Nat->Bool} {n:Nat} (h:Jw f n):Jw (fun x y=>f y x) n:=⟨h.rfl',fun a b ha hb h1 h2=>h.Ak a b ha hb h2 h1⟩
theorem G9 {f:Nat->Nat->Bool} {n a b c:Nat} (h:Jw f n) (hc:c < n) (hj:K1 f n a b c=true):dF f n a b=some c:=by
 obtain ⟨h1,h2,h3⟩:=vP.1 hj
 have key:∀ e,e<=n->c < e->bestA (fun c=>f a c && f b c) f e=some c:=by
  intro e
  induction e with
  | zero=>intro _ h;omega
  | succ e ih=>
   intro he Qg;rw [bestA];by_cases WU:e=c
   ·subst WU;rw [zIfP];simp only [h1,h2,Bool.and_true,Bool.true_and]
    cases ho:bestA (fun c=>f a c && f b c) f e with
    | none=>rfl
    | some o=>
     have hp:=oy ho;have hl:=kz ho;simp only [bA] at hp;exact h3 o (by omega) hp.1 hp.2
   ·rw [ih (by omega) (by omega),ah];simp only [bA,x7,not_and];intro hp U7;exact WU (h.Ak e c (by omega) hc U7 (h3 e (by omega) hp.1 hp.2))
 grind [dF,ky]
theorem nq {f:Nat->Nat->Bool} {n a b:Nat} (h:Jw f n):(dF f n a b).isNone=(ji f n a b).isNone:=by
 cases hj:ji f n a b with
 | some c=>
  obtain ⟨hc,hi,_⟩:=dO hj;rw [G9 h hc hi]
 | none=>
  cases hk:dF f n a b with
  | none=>rfl
  | some k=>
   obtain ⟨h1,h2,h3,h4⟩:=rR hk;have:=cI hj k h1;rw [vP.2 ⟨h2,h3,h4⟩] at this;cases this
def lD (f:Nat->Nat->Bool) (n a b:Nat):Bool:=(ji f n a b).isNone || (ji (fun x y=>f y x) n a b).isNone
theorem B9 {f:Nat->Nat->Bool} {n a b:Nat} (h:Jw f n):jc f n a b=lD f n a b:=by
 unfold jc lD;rw [nq h,show gd f n a b=dF (fun x y=>f y x) n a b from rfl,nq h.flip]
theorem sa {f:Nat->Nat->Bool} {n b:Nat} (h:Jw f n) (hb:b < n):(ji f n b b).isNone=false:=by
 have hi:K1 f n b b b=true:=vP.2 ⟨h.rfl' b hb,h.rfl' b hb,fun d _ h1 _=>h1⟩
 cases hj:ji f n b b with
 | some c=>rfl
 | none=>rw [cI hj b hb] at hi;cases hi
theorem Jx {f:Nat->Nat->Bool} {n b:Nat} (h:Jw f n) (hb:b < n):kA f n b=(List.range b).any fun a=>lD f n a b:=by
 unfold kA;rw [List.range_succ,List.any_append];simp only [List.any_cons,List.any_nil,Bool.or_false];rw [B9 h,show lD f n b b=false by unfold lD;rw [sa h hb,sa h.flip hb];rfl,Bool.or_false]
 grind [B9]
theorem MQ {n:Nat} {l:List (Nat × Nat)} (hP:om n l) (h4:bE (iE n (dt n l)) n=none):Jw (dt n l) n where
 rfl':=fun a ha=>oo hP ha
 Ak:=fun a b ha hb h6 h7=>by grind [cI,iE]
abbrev Q6 (l:List Wd) (o:List (Wd × Wd)) (e:Nat):St:=
 ⟨[aT 0 2 (bm l),aT 1 4 (j3 o),aE 4 0,al 5 e],[[.v (.int .i64 0),.v (.int .i64 0)]],[]⟩
abbrev Q7 (l:List Wd) (o:List (Wd × Wd)) (e:Nat):St:=
 ⟨[aT 0 2 (bm l),aT 1 4 (j3 o),aE 4 0,al 6 e],[[.v (.int .i64 0),.v (.int .i64 0)]],[]⟩
abbrev K3 (l:List Wd) (n:Nat) (f:Nat->Nat->Bool) (e:Nat):St:=
 ⟨[aT 0 2 (bm l),aE 4 0,aT 7 1 (ct (cW n f)),aT 9 1 (ct (cW n fun a b=>f b a)),al 10 e],[[.v (.int .i64 0),.v (.int .i64 0)]],[]⟩
abbrev K4 (l:List Wd) (n:Nat) (f:Nat->Nat->Bool) (e k:Nat):St:=
 ⟨[aT 0 2 (bm l),aE 4 0,aT 7 1 (ct (cW n f)),aT 9 1 (ct (cW n fun a b=>f b a)),al 10 e,al 11 k],[[.v (.int .i64 0),.v (.int .i64 0)]],[]⟩
theorem vQ (l:List Wd) (o:List (Wd × Wd)) (hs:wdsWt l<=1099511627776) (zf:prsWt o<=1099511627776) :
  aV prog 104 [.sl 2 (bm l) none,.sl 4 (j3 o) none] (latF l o).d:=by
 have nT:=bf l;have hsl2:=fD o;have hF:latF l o=latF l o:=rfl
 conv at hF=>rhs;unfold latF
 refine eG 150 [.cell 4 26] func104 rfl ntmps104 rfl fun _ _ _ _=>?_;generalize latF l o=F at hF ⊢;refine br ?_ ?_<;>intro h
 ·have h:l=[]:=by simpa [ak] using h
  rw [show eo l o=(15,0) by rw [eo,zIfP h],zIfP (by decide)] at hF;refine ⟨_,?_,rfl⟩;rw [hF];exact ax
 have h:¬ l=[]:=by simpa [ak] using h
 refine br ?_ ?_<;>intro h1
 ·have h1:32 < l.length:=by simp [ak] at h1;omega
  obtain ⟨x,hx⟩:∃ x,l[32]? = some x:=⟨_,gE h1⟩;rw [show eo l o=(8,x.a) by rw [eo,ah h,zIfP h1,hx];rfl,zIfP (by simp)] at hF;refine ⟨gl x,⟨by omega,aH hx⟩,?_⟩;refine ⟨_,?_,rfl⟩;rw [hF];exact ax
 have h1:¬ 32 < l.length:=by simp [ak] at h1;omega
 refine br ?_ ?_<;>intro h2
 ·have h2:256 < o.length:=by simp [ek] at h2;omega
  obtain ⟨x,hx⟩:∃ x,o[256]? = some x:=⟨_,gE h2⟩;rw [show eo l o=(8,x.1.a) by rw [eo,ah h,ah h1,zIfP h2,hx];rfl,zIfP (by simp)] at hF;refine ⟨Eo x,⟨by omega,eY hx⟩,?_⟩;refine ⟨_,?_,rfl⟩;rw [hF];exact ax
 have h2:¬ 256 < o.length:=by simp [ek] at h2;omega
 rw [show eo l o=(0,0) by rw [eo,ah h,ah h1,ah h2],ah (by decide)] at hF;have h0:enumL l 0 l=enumL l 0 (l.drop 0):=rfl;refine lI (fun j st=>∃ e:Nat,st=Q6 l o e/\e<=l.length/\enumL l 0 l=enumL l e (l.drop e)/\j=l.length - e) ⟨0,rfl,by omega,rfl,rfl⟩ (bl wB) ?_;rintro j st ⟨e,rfl,he,aD,rfl⟩;refine br ?_ ?_<;>intro hL
 ·have aq:e < l.length:=by simpa [ak] using hL
  obtain ⟨w,hw⟩:=gX aq;have KC:=fx (mG hw);have hst:enumL l e (l.drop e)=if az l e w≠0 then (az l e w,w.a) else enumL l (e + 1) (l.drop (e + 1)):=by rw [drop_cons hw,enumL]
  obtain ⟨p,hp,Eb⟩:=G7 hw;have hf:=dQ l w.s hs;rw [hp] at hf;refine ⟨gl w,⟨by omega,aH hw⟩,?_⟩;refine cP BG (iB w.s (by omega)) ?_;refine br ?_ ?_<;>intro hN
  ·have hN:aY w.s=false:=sU hN;have hf:az l e w=9:=by simp [az,hN]
   rw [aD,hst,hf,zIfP (show (9:Int)≠0 by decide),zIfP (by simp)] at hF;refine ⟨gl w,⟨by omega,aH hw⟩,?_⟩;refine ⟨_,?_,rfl⟩;rw [hF];exact ax
  ·have hN:aY w.s=true:=sU hN;refine ⟨gl w,⟨by omega,aH hw⟩,?_⟩;refine cP qW hf ?_;refine br ?_ ?_<;>intro h2
   ·have h2:p < e:=by have:=h2;simp [oz] at this;exact this
    have hf:az l e w=10:=by simp [az,hN,Eb.1 h2]
    rw [aD,hst,hf,zIfP (show (10:Int)≠0 by decide),zIfP (by simp)] at hF;refine ⟨gl w,⟨by omega,aH hw⟩,?_⟩;refine ⟨_,?_,rfl⟩;rw [hF];exact ax
   ·have h2:¬ p < e:=by have:=h2;simp [oz] at this;omega
    have hd:bR (l.take e) w.s=false:=by grind
    have hf:az l e w=0:=by simp [az,hN,hd]
    rw [hf,ah (by simp)] at hst;exact rE ⟨_,by omega,e + 1,rfl,by omega,by rw [aD,hst],rfl⟩ (bl (c8 (aS aq (by omega))))
 have hge:e=l.length:=by have:=hL;simp [ak] at this;omega
 rw [aD,hge,List.drop_length,show enumL l l.length []=(0,0) from rfl,ah (by decide)] at hF;refine lI (fun j st=>∃ e:Nat,st=Q7 l o e/\e<=o.length/\numF (ap l) o=numF (ap l) (o.drop e)/\j=o.length - e) ⟨0,rfl,by omega,rfl,rfl⟩ (bl wB) ?_;clear aD hL hge he e;rintro j st ⟨e,rfl,he,aD,rfl⟩;refine br ?_ ?_<;>intro hL
 ·have aq:e < o.length:=by simpa [ek] using hL
  obtain ⟨w,hw⟩:=gX aq;have hst:numF (ap l) (o.drop e)=if cf (ap l) w.1.s=none then (17,w.1.a) else if cf (ap l) w.2.s=none then (17,w.2.a) else numF (ap l) (o.drop (e + 1)):=by rw [drop_cons hw,numF]
  refine ⟨Eo w,⟨by omega,eY hw⟩,?_⟩;refine cP qW (dQ l w.1.s hs) ?_;refine br ?_ ?_<;>intro ha
  ·have ha:=ee.1 ha;rw [aD,hst,zIfP ha,zIfP (by simp)] at hF;refine ⟨Eo w,⟨by omega,eY hw⟩,?_⟩;refine ⟨_,?_,rfl⟩;rw [hF];exact ax
  have ha:¬ cf (ap l) w.1.s=none:=fun hn=>by have:=ee.2 hn;rw [ha] at this;cases this
  refine ⟨Eo w,⟨by omega,eY hw⟩,?_⟩;refine cP qW (dQ l w.2.s hs) ?_;refine br ?_ ?_<;>intro hb
  ·have hb:=ee.1 hb;rw [aD,hst,ah ha,zIfP hb,zIfP (by simp)] at hF;refine ⟨Eo w,⟨by omega,eY hw⟩,?_⟩;refine ⟨_,?_,rfl⟩;rw [hF];exact ax
  have hb:¬ cf (ap l) w.2.s=none:=fun hn=>by have:=ee.2 hn;rw [hb] at this;cases this
  rw [ah ha,ah hb] at hst;exact rE ⟨_,by omega,e + 1,rfl,by omega,by rw [aD,hst],rfl⟩ (bl (c8 (aS aq (by omega))))
 have hge:e=o.length:=by have:=hL;simp [ek] at this;omega
 rw [hge,List.drop_length,show numF (ap l) []=(0,0) from rfl] at aD;rw [aD,ah (by decide)] at hF;have s8:(numF (ap l) o).1=0:=by rw [aD]
 have hP:om l.length (cr (ap l) o):=by have:=lf s8;rwa [cz] at this
 have Sz:=MQ hP;have fN:=gT l.length (dt l.length (cr (ap l) o));refine cP L3 (yn l o (by omega) hs zf s8) ?_;generalize dt l.length (cr (ap l) o)=f at hF Sz fN ⊢;refine cP Pd (yp l.length f (by omega)) ?_
 cases hlo:bE (iE l.length f) l.length with
 | some a=>
  rw [hlo] at hF;have ha:=(dO hlo).1;obtain ⟨x,hx⟩:∃ x,l[a]? = some x:=⟨_,gE ha⟩;simp only [iF hx] at hF;refine ⟨gl x,⟨by simp only [oz];omega,aH hx⟩,?_⟩;refine ⟨_,?_,rfl⟩;rw [hF];exact ax
 | none=>
 have Sz:=Sz hlo;rw [hlo] at hF;simp only at hF;refine cP Pe (DH l.length f (by omega)) ?_;refine lI (fun j st=>∃ e:Nat,st=K3 l l.length f e/\e<=l.length/\(∀ b,b < e->kA f l.length b=false)/\j=l.length - e) ⟨0,rfl,by omega,fun _ h=>by omega,rfl⟩ (bl wB) ?_;clear aD hL hge he e;rintro j st ⟨e,rfl,he,hno,rfl⟩;refine br ?_ ?_<;>intro hL
 ·have aq:e < l.length:=sV fN hL;have EY:=Jx Sz aq;refine lI (fun j st=>∃ k:Nat,st=K4 l l.length f e k/\k<=e/\(∀ a,a < k->lD f l.length a e=false)/\j=e - k) ⟨0,rfl,by omega,fun _ h=>by omega,rfl⟩ (bl wB) ?_;rintro j st ⟨k,rfl,hk,np,rfl⟩;refine br ?_ ?_<;>intro j6
  ·have eB:k < e:=sU j6;obtain ⟨x,hx⟩:=gX aq
   have DJ:lD f l.length k e=true->F=(12,x.a):=fun MA=>by
    rw [cw aq (by rw [EY,List.any_eq_true];exact ⟨k,by simpa using eB,MA⟩) hno] at hF;simp only [iF hx] at hF;exact hF
   refine cP Kg (pk l.length f (by omega) k e (by omega) aq) ?_;refine br ?_ ?_<;>intro g1
   ·have g1:¬ ji f l.length k e=none:=fun hn=>by rw [ee.2 hn] at g1;cases g1
    refine cP Kg (pk l.length (fun a b=>f b a) (by omega) k e (by omega) aq) ?_;refine br ?_ ?_<;>intro g2
    ·have g2:ji (fun a b=>f b a) l.length k e=none:=by
      rw [<- ee];simpa [pickB] using g2
     have hF:=DJ (by unfold lD;rw [g2];simp);refine ⟨gl x,⟨by omega,aH hx⟩,?_⟩;refine ⟨_,?_,rfl⟩;rw [hF];exact ax
    ·have g2:¬ ji (fun a b=>f b a) l.length k e=none:=fun hn=>by
      have h3:=ee.2 hn;simp [pickB] at g2;have h3:=of_decide_eq_true h3;omega
     refine ⟨K4 l l.length f e (k + 1),(bl (c8 (aS eB (by omega)))),e - (k + 1),by omega,k + 1,rfl,by omega,fun j hj=>?_,rfl⟩;rcases lE hj with hj | rfl
     ·exact np j hj
     ·unfold lD;rw [Option.isNone_eq_false_iff.2 (Option.isSome_iff_ne_none.2 g1),Option.isNone_eq_false_iff.2 (Option.isSome_iff_ne_none.2 g2)];rfl
   ·have g1:ji f l.length k e=none:=by
     rw [<- ee];simpa using g1
    have hF:=DJ (by unfold lD;rw [g1];rfl);refine ⟨gl x,⟨by omega,aH hx⟩,?_⟩;refine ⟨_,?_,rfl⟩;rw [hF];exact ax
  ·have hge:k=e:=by have:=j6;simp at this;omega
   subst hge;refine ⟨K3 l l.length f (k + 1),(bl (c8 (aS aq (by omega)))),l.length - (k + 1),by omega,k + 1,rfl,by omega,fun j hj=>?_,rfl⟩;rcases lE hj with hj | rfl
   ·exact hno j hj
   ·grind
 ·have hge:e=l.length:=sW fN hL;subst hge;rw [cL hno] at hF;simp only at hF;refine ⟨_,?_,rfl⟩;rw [hF];exact ax
abbrev U8 (n:Nat) (f:Nat->Nat->Bool) (l:List Nat) (c e:Nat):St:=
 ⟨[aT 0 1 (ct (cW n f)),aT 1 1 (dInts l),al 2 c,al 7 e],[],[]⟩
theorem uA (n:Nat) (f:Nat->Nat->Bool) (hn:n<=64) (l:List Nat) (hl:∀ i∈l,i < n) (NI:l.length<=1099511627776) (c:Nat) (hc:c < n) :
  aV prog 273 [.sl 1 (ct (cW n f)) none,.sl 1 (dInts l) none,.v (.int .i64 c)] (.v (.bool (fo f l c))):=by
 have fN:=gT n f;have El:=aZ l;refine eG 25 [.tmp 6] func273 rfl ntmps273 rfl fun _ _ _ _=>?_;refine lI (fun j st=>∃ e:Nat,st=U8 n f l c e/\e<=l.length/\fo f l c=fo f (l.drop e) c/\j=l.length - e) ⟨0,rfl,by omega,rfl,rfl⟩ (bl wB) ?_;rintro j st ⟨e,rfl,he,aD,rfl⟩;rw [aD];refine br ?_ ?_<;>intro hL
 ·have aq:e < l.length:=by have:=hL;simp [El] at this;exact this
  obtain ⟨i,hi⟩:=gX aq;have wy:=hl i (mG hi);have hst:fo f (l.drop e) c=(f i c && fo f (l.drop (e + 1)) c):=by unfold fo;rw [drop_cons hi,List.all_cons]
  refine iX (bX hi) ?_;refine iX (dA wy) ?_;refine iX (cJ hc) ?_;refine br ?_ ?_<;>intro g
  ·have g:f i c=false:=sU g;rw [hst,g,Bool.false_and];exact (rfl:_=_)
  ·have g:f i c=true:=sU g;rw [g,Bool.true_and] at hst;exact rE ⟨_,by omega,e + 1,rfl,by omega,hst,rfl⟩ (bl (c8 (aS aq (by omega))))
 ·have hge:e=l.length:=sW El hL;rw [hge,List.drop_length];exact (rfl:_=_)
def sb (f:Nat->Nat->Bool) (l:List Nat) (c k:Nat):Bool:=fo f l c && (List.range k).all fun d=>!fo f l d || f c d
theorem DK (f:Nat->Nat->Bool) (l:List Nat) (c:Nat):sb f l c 0=fo f l c:=by simp [sb]
theorem DL (f:Nat->Nat->Bool) (l:List Nat) (c k:Nat):sb f l c (k + 1)=(sb f l c k && (!fo f l k || f c k)):=by grind [sb]
abbrev Q8 (n:Nat) (f:Nat->Nat->Bool) (l:List Nat) (e:Nat):St:=
 ⟨[aT 0 1 (ct (cW n f)),aT 1 1 (dInts l),al 5 e],[],[]⟩
abbrev Q9 (n:Nat) (f:Nat->Nat->Bool) (l:List Nat) (e:Nat) (x:Bool) (k:Nat):St:=
 ⟨[aT 0 1 (ct (cW n f)),aT 1 1 (dInts l),al 5 e,zq 6 x,al 7 k],[],[]⟩
theorem AH (n:Nat) (f:Nat->Nat->Bool) (hn:n<=64) (l:List Nat) (hl:∀ i∈l,i < n) (NI:l.length<=1099511627776) :
  aV prog 202 [.sl 1 (ct (cW n f)) none,.sl 1 (dInts l) none] (.v (.int .i64 (oz (dZ f n l)))):=by
 have fN:=gT n f;refine eG 40 [.tmp 4] func202 rfl ntmps202 rfl fun _ _ _ _=>?_;refine lI (fun j st=>∃ e:Nat,st=Q8 n f l e/\e<=n/\(∀ c,c < e->yb f n l c=false)/\j=n - e) ⟨0,rfl,by omega,fun _ h=>by omega,rfl⟩ (bl wB) ?_;rintro j st ⟨e,rfl,he,hno,rfl⟩;refine br ?_ ?_<;>intro hL
 ·have aq:e < n:=sV fN hL;refine cP Ku (uA n f hn l hl NI e aq) ?_;refine lJ (fun k=>Q9 n f l e (sb f l e k) k) n (bl (c8 ((DK f l e).symm))) ?_;intro k hk;refine br ?_ ?_<;>intro j6
  ·have eB:k < n:=sV fN j6;have K2:=DL f l e k;refine cP Ku (uA n f hn l hl NI k eB) ?_;refine br ?_ ?_<;>intro g1
   ·refine iX (dA aq) ?_;refine iX (cJ eB) ?_;refine br ?_ ?_<;>intro g2
    ·have hx:false=sb f l e (k + 1):=by simp [pickB] at g1 g2;rw [K2];simp [g1,g2]
     exact rE ⟨_,by omega,k + 1,rfl,by omega,rfl⟩ (bl (iv (aS eB (by omega)) hx))
    ·have hx:sb f l e k=sb f l e (k + 1):=by simp [pickB] at g1 g2;rw [K2];simp [g1,g2]
     exact rE ⟨_,by omega,k + 1,rfl,by omega,rfl⟩ (bl (iv (aS eB (by omega)) hx))
   ·have hx:sb f l e k=sb f l e (k + 1):=by simp [pickB] at g1;rw [K2];simp [g1]
    exact rE ⟨_,by omega,k + 1,rfl,by omega,rfl⟩ (bl (iv (aS eB (by omega)) hx))
  ·have hge:k=n:=sW fN j6;subst hge;refine br ?_ ?_<;>intro g
   ·have g:yb f k l e=true:=g;rw [dZ,cw aq g hno];exact (rfl:_=_)
   ·have g:yb f k l e=false:=g;refine ⟨Q8 k f l (e + 1),(bl (c8 (aS aq (by omega)))),k - (e + 1),by omega,e + 1,rfl,by omega,fun j hj=>?_,rfl⟩;rcases lE hj with hj | rfl
    ·exact hno j hj
    ·exact g
 ·have hge:e=n:=sW fN hL;subst hge;rw [dZ,cL hno];exact (rfl:_=_)
abbrev MR (lv:List Wd) (f:Nat->Nat->Bool) (l:List Wd) (q e:Nat):St:=
 ⟨[aT 0 2 (bm lv),aT 1 1 (ct (cW lv.length f)),aT 2 2 (bm l),aE 7 0,(8,⟨[],.sl 1 (dInts (jS (ap lv) (l.take e))) (some 0)⟩),al 9 e],[[.v (.int .i64 0),.v (.int .i64 0)]],[⟨q,3,1,none⟩]⟩
theorem Jy {L:List ByteArray} {l:List Wd} {i:Nat} (h:i∈jS L l) (hL:0 < L.length):i < L.length:=by
 unfold jS at h;obtain ⟨w,_,rfl⟩:=List.mem_map.1 h
 cases hx:cf L w.s with
 | none=>simpa using hL
 | some p=>exact (cx hx).1
theorem AJ {L:List ByteArray} {l:List Wd} {e i:Nat} {w:Wd} (h:l[e]? = some w) (hi:cf L w.s=some i):dInts (jS L (l.take e)) ++ [[DV.v (.int .i64 (oz (some i)))]]=dInts (jS L (l.take (e + 1))):=by
 rw [oC h hi];simp [dInts,oz]
theorem DM (lv:List Wd) (f:Nat->Nat->Bool) (h0:0 < lv.length) (hn:lv.length<=32) (hs:wdsWt lv<=1099511627776) (l:List Wd) (hl:wdsWt l<=1099511627776) :
  aV prog 115 [.sl 2 (bm lv) none,.sl 1 (ct (cW lv.length f)) none,.sl 2 (bm l) none] (Dx f (ap lv) l):=by
 have nT:=bf l;have fh:=cz lv;unfold Dx vH;refine eG 40 [.tmp 6,.cell 7 26] func115 rfl ntmps115 rfl fun _ _ _ _=>?_;refine lI (fun j st=>∃ e:Nat,st=MR lv f l e e/\e<=l.length/\labW (ap lv) l=labW (ap lv) (l.drop e)/\j=l.length - e) ⟨0,rfl,by omega,rfl,rfl⟩ (dH ⟨0,3,1,none⟩ rfl ⟨_,rfl⟩ rfl wA rfl rfl pD) ?_;rintro j st ⟨e,rfl,he,aD,rfl⟩;rw [aD];refine br ?_ ?_<;>intro hL
 ·have aq:e < l.length:=by simpa [ak] using hL
  obtain ⟨w,hw⟩:=gX aq;have hst:=oB (L:=ap lv) hw;refine ⟨gl w,⟨by omega,aH hw⟩,?_⟩;refine cP qW (dQ lv w.s hs) ?_;refine br ?_ ?_<;>intro ha
  ·have ha:=ee.1 ha;rw [hst,zIfP ha];refine dS ?_;refine ⟨gl w,⟨by omega,aH hw⟩,?_⟩;exact ⟨_,ax,rfl⟩
  ·cases hi:cf (ap lv) w.s with
   | none=>have:=ee.2 hi;rw [ha] at this;cases this
   | some i=>
   rw [ah (by rw [hi];simp)] at hst;refine ⟨by simp [aZ,jS];omega,⟨by simp [aZ,jS,maxLen];omega,by simp [aZ,jS];omega⟩,?_⟩;exact rE ⟨_,by omega,e + 1,rfl,by omega,hst,rfl⟩ (bl (iv (aS aq (by omega)) (AJ hw hi)))
 ·have hge:e=l.length:=by have:=hL;simp [ak] at this;omega
  rw [hge,List.drop_length,List.take_length];refine cP Pj (AH lv.length f (by omega) (jS (ap lv) l) (fun i hi=>by have:=Jy hi (by omega);omega) (by simp [jS];omega)) ?_;rw [<- fh];exact ⟨_,ax,rfl⟩
theorem MS {S:Sch} {e:Nat} {x:Wd × Ty} (h:S.types[e]? = some x):(tL S)[e]? = some x.1.s:=by simp [tL,ap,pK,h]
abbrev K5 (S:Sch) (s:ByteArray) (e:Nat):St:=
 ⟨[(1,⟨[],.v (.string s)⟩),aE 2 0,al 5 e],[cC S],[]⟩
theorem iG (S:Sch) (s:ByteArray) (hl:S.types.length<=1099511627776) :
  aV prog 116 [.agg (cC S),.v (.string s)] (.v (.int .i64 (oz (cf (tL S) s)))):=by
 have hN:=cK S.types;have ln:=iN S;have gF:=@MS S;obtain ⟨ae,order,types,⟨rh,rp⟩⟩:=S;simp only at hl hN ln gF;refine eG 23 [.tmp 4] func116 rfl ntmps116 rfl fun _ _ _ _=>?_;refine lI (fun j st=>∃ e:Nat,st=K5 ⟨ae,order,types,.mk rh rp⟩ s e/\e<=types.length/\(∀ j,j < e->(tL ⟨ae,order,types,.mk rh rp⟩)[j]? ≠ some s)/\j=types.length - e) ⟨0,rfl,by omega,fun _ h=>by omega,rfl⟩ (bl wB) ?_;rintro j st ⟨e,rfl,he,hno,rfl⟩;refine br ?_ ?_<;>intro hL
 ·have aq:e < types.length:=by have:=hL;simp [hN] at this;exact this
  obtain ⟨x,hx⟩:=gX aq;have hg:=gF hx;obtain ⟨xw,⟨xh,xp⟩⟩:=x;refine iX (dNms_get hx) ?_;refine br ?_ ?_<;>intro hq
  ·have hq:xw.s=s:=sU hq;rw [vF (p:=e) (by rw [hg,hq]) (fun j hj=>Nat.le_of_not_lt fun hl=>hno j hl hj)];exact (rfl:_=_)
  ·have hq:¬ xw.s=s:=sU hq;refine ⟨K5 ⟨ae,order,types,.mk rh rp⟩ s (e + 1),(bl (c8 (aS aq (by omega)))),types.length - (e + 1),by omega,e + 1,rfl,by omega,fun j hj=>?_,rfl⟩;rcases lE hj with hj | rfl
   ·exact hno j hj
   ·rw [hg];simpa using hq
 ·have hge:e=types.length:=sW hN hL;rw [B7 (fun j hj=>hno j (by omega))];exact (rfl:_=_)
abbrev Ra (S:Sch) (l:List Wd) (e:Nat):St:=
 ⟨[aT 1 2 (bm l),aE 2 0,aE 4 1,al 5 e],[cC S,[.v (.int .i64 0),.v (.int .i64 0)]],[]⟩
theorem yq (S:Sch) (hs:wdsWt S.ae<=1099511627776) (l:List Wd) (hl:wdsWt l<=1099511627776) :
  aV prog 198 [.agg (cC S),.sl 2 (bm l) none] (labW (ap S.ae) l).d:=by
 have nT:=bf l;obtain ⟨ae,order,types,⟨rh,rp⟩⟩:=S;simp only at hs;refine eG 28 [.cell 4 26] func198 rfl ntmps198 rfl fun _ _ _ _=>?_;refine lI (fun j st=>∃ e:Nat,st=Ra ⟨ae,order,types,.mk rh rp⟩ l e/\e<=l.length/\labW (ap ae) l=labW (ap ae) (l.drop e)/\j=l.length - e) ⟨0,rfl,by omega,rfl,rfl⟩ (bl wB) ?_;rintro j st ⟨e,rfl,he,aD,rfl⟩;rw [aD];refine br ?_ ?_<;>intro hL
 ·have aq:e < l.length:=by simpa [ak] using hL
  obtain ⟨w,hw⟩:=gX aq;have hst:=oB (L:=ap ae) hw;refine dI ?_;refine ⟨gl w,⟨by omega,aH hw⟩,?_⟩;refine cD qW (dQ ae w.s hs) ?_;refine br ?_ ?_<;>intro ha
  ·have ha:=ee.1 ha;rw [hst,zIfP ha];refine ⟨gl w,⟨by omega,aH hw⟩,?_⟩;exact ⟨_,ax,rfl⟩
  ·rw [ah (fun hn=>by have:=ee.2 hn;rw [ha] at this;cases this)] at hst;exact rE ⟨_,by omega,e + 1,rfl,by omega,hst,rfl⟩ (bl (c8 (aS aq (by omega))))
 ·have hge:e=l.length:=by have:=hL;simp [ak] at this;omega
  rw [hge,List.drop_length];exact ⟨_,ax,rfl⟩
def fi (l:List Ty):List (List DV):=l.map cX
theorem cO (l:List Ty):(fi l).length=l.length:=by simp [fi]
theorem iq {l:List Ty} {j:Nat} {t:Ty} (h:l[j]? = some t):(fi l)[j]? = some (cX t):=by simp [fi,h]
def eP (S:Sch):List Ty:=S.types.map fun x=>x.2
def ff (S:Sch):List Ty:=eP S ++ [S.root]
abbrev Rb (S:Sch) (q e:Nat):St:=
 ⟨[aE 1 0,(3,⟨[],.sl 9 (fi ((eP S).take e)) (some 0)⟩),al 4 e],[cC S],[⟨q,36,9,none⟩]⟩
theorem yr (S:Sch) (hl:S.types.length<=1099511627776) :
  aV prog 50 [.agg (cC S)] (.sl 9 (fi (ff S)) none):=by
 have hN:=cK S.types;obtain ⟨ae,order,types,⟨rh,rp⟩⟩:=S;simp only at hl hN;refine eG 26 [.tmp 2] func50 rfl ntmps50 rfl fun _ _ _ _=>?_;refine lJ (fun e=>Rb ⟨ae,order,types,.mk rh rp⟩ e e) types.length (eT 1 ⟨0,36,9,none⟩ rfl rfl rfl zo rfl rfl pD) ?_;intro e he;have ln:(fi ((eP ⟨ae,order,types,.mk rh rp⟩).take e)).length=e:=by simp [fi,eP];omega
 refine br ?_ ?_<;>intro hL
 ·have aq:e < types.length:=by have:=hL;simp [hN] at this;exact this
  obtain ⟨x,hx⟩:=gX aq
  have kZ:fi ((eP ⟨ae,order,types,.mk rh rp⟩).take e) ++ [cX x.2]=fi ((eP ⟨ae,order,types,.mk rh rp⟩).take (e + 1)):=by
   rw [List.take_add_one];simp [eP,hx,fi]
  obtain ⟨xw,⟨xh,xp⟩⟩:=x;refine iX (dNms_get hx) ?_;refine ⟨ln,⟨by rw [ln];simp [maxLen];omega,by rw [ln];simp;omega⟩,?_⟩;exact rE ⟨_,by omega,e + 1,rfl,by omega,rfl⟩ (ep 1 (zp (aS aq (by omega)) kZ) (iv (aS aq (by omega)) kZ))
 ·have hge:e=types.length:=sW hN hL;have Lv:fi ((eP ⟨ae,order,types,.mk rh rp⟩).take e) ++ [cX (.mk rh rp)]=fi (ff ⟨ae,order,types,.mk rh rp⟩):=by grind [eP,ff,fi]
  refine ⟨ln,⟨by rw [ln];simp [maxLen];omega,by rw [ln];simp;omega⟩,?_⟩;rw [<- Lv];exact ⟨_,ax,rfl⟩
mutual
def flatT:Ty->List Ty
 | .mk h ps=>if h.ai=9 then [] else .mk h ps :: flatP ps
def flatP:Pts->List Ty
 | .nil=>[]
 | .cons p t r=>(if p.bare then [] else flatT t) ++ flatP r
end
mutual
theorem gU:∀ t:Ty,(flatT t).length=t.nn
 | .mk h ps=>by
  have:=oK ps
  grind [flatT,Ty.nn]
theorem oK:∀ ps:Pts,(flatP ps).length=ps.nn
 | .nil=>rfl
 | .cons p t r=>by
  have:=gU t;have:=oK r
  grind [flatP,Pts.nn]
end
theorem Jz {P:Program} {f:FuncId} {args:List DV} {e:Nat} {es:List (List DV)} (h:Ev P f args [] [] (fun r _ _=>r = .sl e es none∨(es=[]/\r = .v (.slice none 0 0)))):aV P f args (.sl e es none):=by
 intro E w vs hE ht hv;refine (h E w vs hE ht hv).mono ?_;rintro e' w' ⟨v,rfl,hM,hs,d,os,E',h1,h2,h3,h4,h5,h6⟩;rcases h6 with rfl | ⟨rfl,rfl⟩
 ·exact ⟨v,rfl,hM,hs,_,os,E',h1,h2,h3,h4,h5,rfl⟩
 ·refine ⟨v,rfl,hM,hs,.sl e [] none,os,E',h1,h2,h3,h4,?_,rfl⟩;unfold Rv at h5 ⊢;exact ⟨_,0,0,h5.1,⟨rfl,zLeR _⟩,fun hn=>(hn rfl).elim,fun k hk=>by cases hk⟩
abbrev MT (t:Ty) (L:List Ty) (q e:Nat):St:=
 ⟨[aE 1 0,(3,⟨[],.sl 9 (fi L) (some 0)⟩),al 4 e],[cX t],[⟨q,36,9,none⟩]⟩
theorem lh:∀ (k:Nat) (t:Ty),t.wt<=k->t.wt<=1099511627776 ->
  aV prog 51 [.agg (cX t)] (.sl 9 (fi (flatT t)) none)
 | 0,t,hn,_=>by have:=t.gq;omega
 | k + 1,.mk h ps,hn,bI=>by
  simp only [Ty.wt,Hd.wt] at hn bI;have mj:=ps.dX;have hc:=ps.dq;have mB:=ps.eJ;have Oi:=oK ps;refine Jz ?_;refine u6 (s:=false) (bt:=[]) (mu:=[9]) (hbt:=fun p hp=>by cases hp) (fr:=false) (P:=prog) tt tG 5000 34 [.tmp 2] func51 rfl ntmps51 rfl (nL rfl) (fun _ _ _ _=>?_);refine br ?_ ?_<;>intro h9
  ·have h9:h.ai=9:=sU h9;have:flatT (.mk h ps)=[]:=by simp [flatT,h9]
   exact .inr ⟨by rw [this];rfl,rfl⟩
  have h9:¬ h.ai=9:=sU h9;have U9:flatT (.mk h ps) = .mk h ps :: flatP ps:=by simp [flatT,h9]
  refine Ml rfl rfl rfl rfl rfl rfl rfl rfl ?_
  refine aX (fun j st=>∃ (e q:Nat) (L:List Ty),st=MT (.mk h ps) L q e/\q=L.length/\e<=ps.len/\flatT (.mk h ps)=L ++ flatP (ps.drop e)/\j=ps.len - e) ps.len
   (MT (.mk h ps) [.mk h ps] 1 0) (ep 1 zo pD) ⟨0,1,_,rfl,rfl,by omega,U9,by omega⟩ ?_
  rintro j st ⟨e,q,L,rfl,hq,he,bd,rfl⟩
  have Rc:L.length<=1 + ps.nn:=by
   have:=congrArg List.length bd;rw [U9] at this;simp at this;omega
  refine br ?_ ?_<;>intro hL
  ·have aq:e < ps.len:=by simpa [aC] using hL
   obtain ⟨p,t,hx⟩:=Pts.dp aq;have CS:=Pts.eD (mG hx);rw [Pts.drop_cons hx] at bd;simp only [flatP] at bd;obtain ⟨u,us⟩:=t;refine iX (bz hx) ?_;refine br ?_ ?_<;>intro hB
   ·have hB:p.bare=false:=sU hB;have bd:flatT (.mk h ps)=(L ++ flatT (.mk u us)) ++ flatP (ps.drop (e + 1)):=by rw [bd,hB,List.append_assoc];all_goals rfl
    have NI:L.length + (flatT (.mk u us)).length<=1 + ps.nn:=by
     have:=congrArg List.length bd;rw [U9] at this;simp at this;omega
    have kZ:fi L ++ fi (flatT (.mk u us))=fi (L ++ flatT (.mk u us)):=by simp [fi]
    refine iX (bz hx) ?_;refine cP IF (lh k (.mk u us) (by omega) (by omega)) ?_;refine ⟨by rw [cO,hq],⟨by simp only [cO,maxLen];omega,by simp only [cO];omega⟩,?_⟩;exact ⟨MT (.mk h ps) (L ++ flatT (.mk u us)) (q + (fi (flatT (.mk u us))).length) (e + 1),(ep 1 (zp (aS aq (by omega)) kZ) (iv (aS aq (by omega)) kZ)),ps.len - (e + 1),by omega,e + 1,_,_,rfl,by rw [cO,List.length_append,hq],by omega,bd,rfl⟩
   ·have hB:p.bare=true:=sU hB;rw [hB] at bd;exact rE ⟨_,by omega,e + 1,q,L,rfl,hq,by omega,bd,rfl⟩ (ep 1 (u7 (aS aq (by omega))) (c8 (aS aq (by omega))))
  ·have hge:e=ps.len:=by simp [aC] at hL;omega
   rw [hge,Pts.cq] at bd;simp only [flatP,List.append_nil] at bd;rw [bd];exact ⟨_,ax,.inl rfl⟩
theorem sc (S:Sch) (hl:S.types.length<=1099511627776) (hr:∀ x∈S.types,pL S x.2=true):∀ (k i:Nat),i < S.types.length->k<=99 ->
  aV prog 108 [.agg (cC S),.v (.int .i64 i),.v (.int .i64 k)] (.v (.int .i64 (oz (endI S (k + 1) i))))
 | k,i,hi,hk=>by
  have hN:=cK S.types;have vG:=fun s=>iG S s hl;have ih:∀ k' j,k=k' + 1->j < S.types.length->aV prog 108 [.agg (cC S),.v (.int .i64 j),.v (.int .i64 k')] (.v (.int .i64 (oz (endI S (k' + 1) j)))):=fun k' j he hj=>sc S hl hr k' j hj (by omega);obtain ⟨x,hx⟩:∃ x,S.types[i]? = some x:=⟨_,gE hi⟩;have Ss:=hr x (mG hx);have ln:=iN S;obtain ⟨xw,⟨xh,xp⟩⟩:=x;have hE:endI S (k + 1) i=if xh.ai=9 then endI S k ((cf (tL S) xh.name.s).getD 0) else some i:=by rw [endI,hx];all_goals rfl
  obtain ⟨ae,order,types,⟨rh,rp⟩⟩:=S;simp only at hl hN hi hx Ss ln;refine eG 32 [.tmp 6] func108 rfl ntmps108 rfl fun _ _ _ _=>?_;refine iX (dNms_get hx) ?_;refine br ?_ ?_<;>intro h9
  ·have h9:¬ xh.ai=9:=sU h9;rw [ah h9] at hE;rw [hE];exact (rfl:_=_)
  have h9:xh.ai=9:=sU h9;rw [zIfP h9] at hE;rw [hE];refine br ?_ ?_<;>intro h1
  ·have h1:k=0:=by have:=h1;simp at this;omega
   subst h1;exact (rfl:_=_)
  have h1:1<=k:=by have:=h1;simp at this;omega
  obtain ⟨k',rfl⟩:∃ k',k=k' + 1:=⟨k - 1,by omega⟩;have HV:=of_decide_eq_true Ss h9;obtain ⟨j,hj⟩:∃ j,cf (tL ⟨ae,order,types,.mk rh rp⟩) xh.name.s=some j:=Option.ne_none_iff_exists'.1 HV;have pz:=(cx hj).1;rw [ln] at pz;have hf:=vG xh.name.s;rw [hj] at hf ⊢;have fj:IntKind.i64.wrap (((k' + 1:Nat):Int) - 1)=(k':Int):=by rw [wrap64 (by omega) (by omega)];omega
  refine dI ?_;refine iX (dNms_get hx) ?_;refine cD BD hf ?_;refine cD Fo (ih k' j rfl pz) ?_ (pV fj);exact (rfl:_=_)
theorem oL {S:Sch}:∀ {k i j:Nat},endI S k i=some j->endI S (k + 1) i=some j
 | 0,i,j,h=>by cases h
 | k + 1,i,j,h=>by
  rw [endI] at h ⊢
  cases hx:S.types[i]? with
  | none=>rw [hx] at h;cases h
  | some x=>
   rw [hx] at h;simp only at h ⊢;split at h
   ·rename_i h9;rw [zIfP h9];exact oL h
   ·rename_i h9;rw [ah h9];exact h
def sS (S:Sch) (k:Nat):List Bool:=(List.range S.types.length).map fun i=>(endI S k i).isSome
theorem nr (S:Sch) (k:Nat):(sS S k).length=S.types.length:=by simp [sS]
theorem se {S:Sch} {k i:Nat} (hi:i < S.types.length):(sS S k).getD i false=(endI S k i).isSome:=by grind [sS]
theorem JA (S:Sch) (k:Nat):HY (sS S k) (sS S (k + 1)):=by
 intro i h;by_cases hi:i < S.types.length
 ·rw [se hi] at h ⊢;obtain ⟨j,hj⟩:=Option.isSome_iff_exists.1 h;rw [oL hj];rfl
 ·grind [nr]
theorem Ha {S:Sch} {k:Nat} (h:sS S k=sS S (k + 1)):∀ i,endI S (k + 2) i=endI S (k + 1) i:=by
 intro i
 have key:∀ {j:Nat},j < S.types.length->(endI S k j).isSome=(endI S (k + 1) j).isSome:=fun {j} hj=>by
  rw [<- se hj,<- se hj,h]
 have same:∀ j,endI S (k + 1) j=endI S k j:=fun j=>by
  cases h1:endI S k j with
  | some m=>exact oL h1
  | none=>
   cases h2:endI S (k + 1) j with
   | none=>rfl
   | some m=>grind [endI]
 grind [endI]
theorem uB (S:Sch):∀ k,(∀ i,endI S (k + 1) i=endI S k i)∨k<=pJ (sS S k)
 | 0=>.inr (Nat.zero_le _)
 | k + 1=>by
  rcases uB S k with h | h
  ·grind [endI]
  ·rcases (leB_eq (by rw [nr,nr]) (JA S k)).1 with h2 | h2
   ·exact .inl (Ha h2)
   ·exact .inr (by omega)
theorem ys {S:Sch}:∀ {k:Nat},S.types.length + 1<=k->∀ i,endI S k i=endI S (S.types.length + 1) i:=by
 have hst:∀ i,endI S (S.types.length + 2) i=endI S (S.types.length + 1) i:=fun i=>by
  rcases uB S (S.types.length + 1) with h | h
  ·exact h i
  ·grind [cntB_le,sS,nr]
 have key:∀ d i,endI S (S.types.length + 1 + (d + 1)) i=endI S (S.types.length + 1 + d) i:=by
  intro d
  induction d with
  | zero=>exact hst
  | succ d ih=>grind [endI]
 intro k hk i;obtain ⟨d,rfl⟩:∃ d,k=S.types.length + 1 + d:=⟨k - (S.types.length + 1),by omega⟩;clear hk
 induction d with
 | zero=>rfl
 | succ d ih=>rw [key,ih]
theorem sg (S:Sch) (hl:S.types.length<=64) (hr:∀ x∈S.types,pL S x.2=true) (i:Nat) (hi:i < S.types.length) :
  aV prog 108 [.agg (cC S),.v (.int .i64 i),.v (.int .i64 (99:Nat))] (.v (.int .i64 (oz (endI S (S.types.length + 1) i)))):=by
 have:=sc S (by omega) hr 99 i hi (zLeR _)
 rwa [ys (by omega)] at this
abbrev Re (S:Sch) (k n e:Nat):St:=
 ⟨[aE 2 0,al 5 k,al 6 n,al 7 e],[cC S],[]⟩
theorem si (S:Sch) (hl:S.types.length<=64) (hs:nmsWt S.types<=1099511627776) (hr:∀ x∈S.types,pL S x.2=true) (s:ByteArray) (i k:Nat) (hi:cf (tL S) s=some i) (hk:endI S (S.types.length + 1) i=some k) :
  aV prog 53 [.agg (cC S),.v (.string s)] (.v (.int .i64 (firstA S k))):=by
 have hN:=cK S.types;have El:=(cx hi).1;rw [iN] at El;have xd:=(p8 hk).1;have hf:=iG S s (by omega);have he:=sg S hl hr i El;rw [hi] at hf;rw [hk] at he;have WV:=@kD S;have B0:=uq S;obtain ⟨ae,order,types,⟨rh,rp⟩⟩:=S;simp only at hl hs hN El xd WV B0;refine eG 29 [.tmp 4] func53 rfl ntmps53 rfl fun _ _ _ _=>?_;refine dI ?_;refine cD BD hf ?_;refine cD Fo he ?_;refine lJ (fun e=>Re ⟨ae,order,types,.mk rh rp⟩ k (firstA ⟨ae,order,types,.mk rh rp⟩ e) e) k (bl wB) ?_;intro e hek;refine br ?_ ?_<;>intro hL
 ·have aq:e < k:=sU hL;obtain ⟨x,hx⟩:∃ x,types[e]? = some x:=⟨_,gE (by omega)⟩;have KC:=eO (mG hx);have h1:=WV hx;have h2:=B0 e;have h3:=B0 (e + 1);have h4:=gU x.2;obtain ⟨xw,⟨xh,xp⟩⟩:=x;simp only at KC h1 h4;refine iX (dNms_get hx) ?_;refine cP IF (lh _ (.mk xh xp) (zLeR _) (by omega)) ?_;have tO:IntKind.i64.wrap ((firstA ⟨ae,order,types,.mk rh rp⟩ e:Int) + (fi (flatT (.mk xh xp))).length)=(firstA ⟨ae,order,types,.mk rh rp⟩ (e + 1):Int):=by grind [cO,wrap64]
  exact rE ⟨_,by omega,e + 1,rfl,by omega,rfl⟩ (bl (iv tO (aS aq (by omega))))
 ·have hge:e=k:=by have:=hL;simp at this;omega
  subst hge;exact (rfl:_=_)
theorem Ca {S:Sch} {e:Nat} {x:Wd × Ty} (h:S.types[e]? = some x):(pK S)[e]? = some x.1:=by simp [pK,h]
abbrev Rf (S:Sch) (e:Nat):St:=
 ⟨[aE 1 0,aE 2 1,al 3 e],[cC S,[.v (.int .i64 0),.v (.int .i64 0)]],[]⟩
theorem vR (S:Sch) (hs:nmsWt S.types<=1099511627776) :
  aV prog 105 [.agg (cC S)] (dw S).d:=by
 have hN:=cK S.types;have fh:=gP S.types;have ln:=B4 S;have hF:=dw.eq_1 S;have gF:=@Ca S;have vG:=fun s=>iG S s (by omega);have Qx:tL S=ap (pK S):=rfl;obtain ⟨ae,order,types,⟨rh,rp⟩⟩:=S;simp only at hs hN fh ln gF hF;generalize hQ:pK ⟨ae,order,types,.mk rh rp⟩=Q at ln hF gF Qx;refine eG 47 [.cell 2 26] func105 rfl ntmps105 rfl fun _ _ _ _=>?_;generalize dw ⟨ae,order,types,.mk rh rp⟩=F at hF ⊢;refine br ?_ ?_<;>intro h
 ·have h:64 < types.length:=by simp [hN] at h;omega
  obtain ⟨x,hx⟩:∃ x,types[64]? = some x:=⟨_,gE h⟩;have MF:=gF hx;rw [zIfP h,iF MF] at hF;obtain ⟨xw,⟨xh,xp⟩⟩:=x;refine iX (dNms_get hx) ?_;refine ⟨_,?_,rfl⟩;rw [hF];exact ax
 have h:¬ 64 < types.length:=by simp [hN] at h;omega
 rw [ah h] at hF;refine lI (fun j st=>∃ e:Nat,st=Rf ⟨ae,order,types,.mk rh rp⟩ e/\e<=types.length/\enumL Q 0 Q=enumL Q e (Q.drop e)/\j=types.length - e) ⟨0,rfl,by omega,rfl,rfl⟩ (bl wB) ?_;rintro j st ⟨e,rfl,he,aD,rfl⟩;rw [aD] at hF;refine br ?_ ?_<;>intro hL
 ·have aq:e < types.length:=by have:=hL;simp [hN] at this;exact this
  obtain ⟨x,hx⟩:=gX aq;have KC:=eO (mG hx);have hq:=gF hx;have hst:=lY hq;obtain ⟨p,hp,Eb⟩:=G7 hq;obtain ⟨xw,⟨xh,xp⟩⟩:=x;simp only [Wd.wt] at KC hq hst hp Eb;have hf:=vG xw.s;rw [Qx,hp] at hf;have Va:=jK [xw] (by simp only [wdsWt,Wd.wt];omega);have BU:bp [xw]=if aY xw.s then (0,0) else (9,xw.a):=by simp [bp,badWd]
  refine iX (dNms_get hx) ?_;refine cP Fy Va ?_;refine br ?_ ?_<;>intro hN
  ·have hN:(bp [xw]).1≠0:=sU hN
   cases ei:aY xw.s with
   | true=>rw [BU,ei] at hN;exact absurd rfl hN
   | false=>
   rw [ei] at BU;have BU:bp [xw]=(9,xw.a):=BU;have hf9:az Q e xw=9:=by simp [az,ei]
   rw [hst,hf9,zIfP (by decide)] at hF;refine ⟨_,?_,rfl⟩;rw [hF,BU];exact ax
  ·have hN:(bp [xw]).1=0:=sU hN
   cases ei:aY xw.s with
   | false=>rw [BU,ei] at hN;exact absurd hN (by simp)
   | true=>
   refine cP BD hf ?_;refine br ?_ ?_<;>intro h2
   ·have h2:p < e:=by have:=h2;simp [oz] at this;exact this
    have Vb:az Q e xw=10:=by simp [az,ei,Eb.1 h2]
    rw [hst,Vb,zIfP (by decide)] at hF;refine ⟨_,?_,rfl⟩;rw [hF];exact ax
   ·have h2:¬ p < e:=by have:=h2;simp [oz] at this;omega
    have hd:bR (Q.take e) xw.s=false:=by grind
    have hf0:az Q e xw=0:=by simp [az,ei,hd]
    rw [hf0,ah (by simp)] at hst;exact rE ⟨_,by omega,e + 1,rfl,by omega,by rw [aD,hst],rfl⟩ (bl (c8 (aS aq (by omega))))
 ·have hge:e=types.length:=sW hN hL;rw [hge,<- ln,List.drop_length] at hF;refine ⟨_,?_,rfl⟩;rw [hF];exact ax
abbrev Cb (S:Sch) (t:Ty) (e:Nat):St:=
 ⟨[aE 2 0,aE 3 1,aE 4 2,al 5 e],[cC S,cX t,[.v (.int .i64 0),.v (.int .i64 0)]],[]⟩
theorem nu (S:Sch) (hl:S.types.length<=1099511627776) (hs:wdsWt S.ae<=1099511627776):∀ (k:Nat) (t:Ty),t.wt<=k->t.wt<=1099511627776 ->
  aV prog 107 [.agg (cC S),.agg (cX t)] (jt S t).d
 | 0,t,hn,_=>by have:=t.gq;omega
 | k + 1,.mk h ps,hn,bI=>by
  have ih:=nu S hl hs k;simp only [Ty.wt,Hd.wt] at hn bI;have mj:=ps.dX;have hf:=iG S h.name.s hl;have WW:=fun l hl=>yq S hs l hl;have hS:jt S (.mk h ps)=if h.ai=9/\cf (tL S) h.name.s=none then (15,h.name.a) else knP ⟨ap S.ae,[],[],[],fun _ _=>false⟩ (tL S) ps:=by rw [jt,knT]
  have Qw:knP ⟨ap S.ae,[],[],[],fun _ _=>false⟩ (tL S) ps=knP ⟨ap S.ae,[],[],[],fun _ _=>false⟩ (tL S) (ps.drop 0):=by rw [Pts.drop]
  have hK:∀ e p u,ps.toList[e]? = some (p,u)->knP ⟨ap S.ae,[],[],[],fun _ _=>false⟩ (tL S) (ps.drop e)=if (labW (ap S.ae) p.label).1≠0 then labW (ap S.ae) p.label else if (labW (ap S.ae) p.cl).1≠0 then labW (ap S.ae) p.cl else if p.bare then knP ⟨ap S.ae,[],[],[],fun _ _=>false⟩ (tL S) (ps.drop (e + 1)) else if (jt S u).1≠0 then jt S u else knP ⟨ap S.ae,[],[],[],fun _ _=>false⟩ (tL S) (ps.drop (e + 1)):=fun e p u hx=>by
   rw [Pts.drop_cons hx,knP];all_goals rfl
  have Sx:knP ⟨ap S.ae,[],[],[],fun _ _=>false⟩ (tL S) .nil=(0,0):=by rw [knP]
  generalize knP ⟨ap S.ae,[],[],[],fun _ _=>false⟩ (tL S)=KP at hS Qw hK Sx;obtain ⟨ae,order,types,⟨rh,rp⟩⟩:=S;refine eG 64 [.cell 4 26] func107 rfl ntmps107 rfl fun _ _ _ _=>?_;generalize jt ⟨ae,order,types,.mk rh rp⟩ (.mk h ps)=F at hS ⊢;refine have body:=?_;br (fun h9=>E4 BD hf ax rfl (br (fun hx=>?_) (fun hx=>aX (fun j st=>∃ e:Nat,st=Cb ⟨ae,order,types,.mk rh rp⟩ (.mk h ps) e/\e<=ps.len/\F=KP (ps.drop e)/\j=ps.len - e) ps.len (Cb ⟨ae,order,types,.mk rh rp⟩ (.mk h ps) 0) (bl wB) ⟨0,rfl,by omega,?_,by omega⟩ body))) (fun h9=>aX (fun j st=>∃ e:Nat,st=Cb ⟨ae,order,types,.mk rh rp⟩ (.mk h ps) e/\e<=ps.len/\F=KP (ps.drop e)/\j=ps.len - e) ps.len (Cb ⟨ae,order,types,.mk rh rp⟩ (.mk h ps) 0) (bl wB) ⟨0,rfl,by omega,?_,by omega⟩ body)
  rotate_left
  ·have h9:h.ai=9:=sU h9;have hx:cf (tL ⟨ae,order,types,.mk rh rp⟩) h.name.s=none:=ee.1 (by simpa [pickB] using hx);rw [zIfP ⟨h9,hx⟩] at hS;refine ⟨_,?_,rfl⟩;rw [hS];exact ax
  ·have hx:¬ cf (tL ⟨ae,order,types,.mk rh rp⟩) h.name.s=none:=fun hn=>by
    have h3:=ee.2 hn;simp [pickB] at hx;have h3:=of_decide_eq_true h3;omega
   rw [ah (fun hc=>hx hc.2),Qw] at hS;exact hS
  ·grind
  rintro j st ⟨e,rfl,he,aD,rfl⟩;refine br ?_ ?_<;>intro hL
  ·have aq:e < ps.len:=by simpa [aC] using hL
   obtain ⟨p,t,hx⟩:=Pts.dp aq;have CS:=Pts.eD (mG hx);have hk:=hK e p t hx;have zI:wdsWt p.label + wdsWt p.cl<=p.wt:=by simp only [Ph.wt];omega
   obtain ⟨u,us⟩:=t;refine iX (bz hx) ?_;refine cP Ki (WW p.label (by omega)) ?_;refine br ?_ ?_<;>intro b1
   ·have b1:(labW (ap ae) p.label).1=0:=sU b1;rw [ah (by simp [b1])] at hk;refine cP Ki (WW p.cl (by omega)) ?_;refine br ?_ ?_<;>intro b2
    ·have b2:(labW (ap ae) p.cl).1=0/\p.bare=false:=by
      rw [av] at b2;simpa using b2
     obtain ⟨b2,b3⟩:=b2;rw [ah (by simp [b2]),ah (by simp [b3])] at hk;refine cP Fm (ih (.mk u us) (by omega) (by omega)) ?_;refine br ?_ ?_<;>intro b4
     ·have b4:(jt ⟨ae,order,types,.mk rh rp⟩ (.mk u us)).1≠0:=sU b4;rw [zIfP b4] at hk
      (refine ⟨_,?_,rfl⟩;rw [aD,hk];exact ax)
     ·have b4:(jt ⟨ae,order,types,.mk rh rp⟩ (.mk u us)).1=0:=sU b4;rw [ah (by simp [b4])] at hk;exact rE ⟨_,by omega,e + 1,rfl,by omega,by rw [aD,hk],rfl⟩ (bl (c8 (aS aq (by omega))))
    ·refine br ?_ ?_<;>intro b4
     ·have b4:(labW (ap ae) p.cl).1≠0:=sU b4;rw [zIfP b4] at hk
      (refine ⟨_,?_,rfl⟩;rw [aD,hk];exact ax)
     ·have b4:(labW (ap ae) p.cl).1=0:=sU b4
      have b3:p.bare=true:=by
       rw [av] at b2;simpa [b4] using b2
      rw [ah (by simp [b4]),zIfP b3] at hk;exact rE ⟨_,by omega,e + 1,rfl,by omega,by rw [aD,hk],rfl⟩ (bl (c8 (aS aq (by omega))))
   ·have b1:¬ (labW (ap ae) p.label).1=0:=sU b1;rw [zIfP b1] at hk;refine br ?_ ?_<;>intro b2
    ·rw [av] at b2;simp [b1] at b2
    ·refine br ?_ ?_<;>intro b4
     ·(refine ⟨_,?_,rfl⟩;rw [aD,hk];exact ax)
     ·simp [b1] at b4
  ·have hge:e=ps.len:=by simp [aC] at hL;omega
   rw [hge,Pts.cq] at aD;refine ⟨_,?_,rfl⟩;rw [aD,Sx];exact ax
abbrev Cd (h:Hd) (ps:Pts) (e:Nat) (depth m:Int):St:=
 ⟨[al 2 depth,aE 3 0,aE 4 1,aE 6 2,al 7 e],[[.v (.int .i64 0),.v (.int .i64 0),.v (.int .i64 m)],cX (.mk h ps),[.v (.int .i64 0),.v (.int .i64 0),.v (.int .i64 0)]],[]⟩
theorem vS (k:Nat) (ih:vn k) (h:Hd) (ps:Pts) (depth m:Int) (hk:ps.wt<=k) (bI:(Ty.mk h ps).wt<=1099511627776) (tJ:0<=depth) (y6:depth<=25) (mv:0<=m) (iu:m<=512) :
  aV prog 106 [wD (0,0) m,.agg (cX (.mk h ps)),.v (.int .i64 depth)] (wD (wrong (.mk h ps) depth m).1 (wrong (.mk h ps) depth m).2):=by
 have um:=bI;simp only [Ty.wt,Hd.wt] at um;have mj:=ps.dX;have Mc:=bf h.af;have nH:IntKind.i64.wrap (m + 1)=m + 1:=wrap64 (by omega) (by omega)
 have hW:∀ e a,aV prog 193 [.agg [.v (.int .i64 0),.v (.int .i64 0),.v (.int .i64 (IntKind.i64.wrap (m + 1)))],.v (.int .i64 e),.v (.int .i64 a)] (wD (e,a) (m + 1)):=by
  intro e a;rw [nH];exact dj (0,0) (m + 1) e a
 have hS:=wrong.eq_def (.mk h ps) depth m;simp only at hS;refine eG 201 [.cell 6 179] func106 rfl ntmps106 rfl fun _ _ _ _=>?_;refine br ?_ ?_<;>intro c
 ·have c:24 < depth:=of_decide_eq_true c;refine cP eN (hW 6 h.cV) ?_;rw [zIfP c] at hS;refine ⟨_,?_,rfl⟩;rw [hS];exact ax
 have c:¬ 24 < depth:=of_decide_eq_false c;rw [ah c] at hS;refine br ?_ ?_<;>intro c
 ·have c:512 < IntKind.i64.wrap (m + 1):=of_decide_eq_true c;rw [nH] at c;refine cP eN (hW 8 h.cV) ?_;rw [zIfP c] at hS;refine ⟨_,?_,rfl⟩;rw [hS];exact ax
 have c:¬ 512 < IntKind.i64.wrap (m + 1):=of_decide_eq_false c;rw [nH] at c;rw [ah c] at hS;refine br ?_ ?_<;>intro c
 ·have c:h.ai < 1∨9 < h.ai:=by simpa [aj] using c
  refine cP eN (hW 14 h.cV) ?_;rw [zIfP c] at hS;refine ⟨_,?_,rfl⟩;rw [hS];exact ax
 have c:¬ (h.ai < 1∨9 < h.ai):=by simp [aj] at c;omega
 rw [ah c] at hS;refine cP Pf (zG (.mk h ps) (by omega)) ?_;refine br ?_ ?_<;>intro c
 ·have c:rb (.mk h ps)=false:=by simpa [rb] using c
  refine cP eN (hW 19 h.cV) ?_;rw [zIfP c] at hS;refine ⟨_,?_,rfl⟩;rw [hS];exact ax
 have c:¬ rb (.mk h ps)=false:=by simpa [rb] using c
 rw [ah c] at hS;refine br ?_ ?_<;>intro c
 ·have c:(h.ai=2/\h.hi < h.lo)∨(h.ai=3/\(h.most < 0∨4096 < h.most)):=by simp [aj,av] at c;omega
  refine cP eN (hW 20 h.cV) ?_;rw [zIfP c] at hS;refine ⟨_,?_,rfl⟩;rw [hS];exact ax
 have c:¬ ((h.ai=2/\h.hi < h.lo)∨(h.ai=3/\(h.most < 0∨4096 < h.most))):=by simp [aj,av] at c;omega
 rw [ah c] at hS;refine br ?_ ?_<;>intro k9
 ·have k9:h.ai=9:=sU k9;refine cP BG (iB h.name.s (by simp only [Wd.wt] at um;omega)) ?_;refine br ?_ ?_<;>intro q
  ·have q:aY h.name.s=false:=by simpa [av,k9] using q
   refine cP eN (hW 9 h.name.a) ?_;rw [zIfP ⟨k9,q⟩] at hS;refine ⟨_,?_,rfl⟩;rw [hS];exact ax
  ·have q:aY h.name.s=true:=by simpa [av,k9] using q
   rw [ah (by simp [q]),ah (by omega),ah (by omega),ah (by omega)] at hS;refine br (fun x=>?_) (fun _=>?_)
   ·have:=of_decide_eq_true x;omega
   refine br (fun x=>?_) (fun _=>?_)
   ·simp [aj] at x;omega
   refine br (fun x=>?_) (fun _=>?_)
   ·simp [aj] at x;omega
   refine ⟨_,?_,rfl⟩;rw [hS];exact (pV nH)
 ·have k9:¬ h.ai=9:=sU k9;rw [ah (by simp [k9])] at hS;refine br ?_ ?_<;>intro k4
  ·have k4:h.ai=4:=of_decide_eq_true k4;rw [zIfP k4] at hS;refine br ?_ ?_<;>intro c
   ·have c:h.af=[]:=by simp [ak] at c;exact c
    refine cP eN (hW 15 h.cV) ?_;refine ⟨_,?_,rfl⟩;rw [hS];simp only [fB,zIfP c];exact ax
   have c:¬ h.af=[]:=by simp [ak] at c;exact c
   refine br ?_ ?_<;>intro c2
   ·have aq:64 < h.af.length:=by simp [ak] at c2;omega
    obtain ⟨x,hx⟩:=gX aq;refine dS ?_;refine ⟨gl x,⟨by omega,aH hx⟩,?_⟩;refine cD eN (hW 8 x.a) ?_;refine ⟨_,?_,rfl⟩;rw [hS];simp only [fB,ah c,zIfP aq,hx,Option.getD_some];exact ax
   have c2:¬ 64 < h.af.length:=by simp [ak] at c2;omega
   have hE:fB h=enumL h.af 0 h.af:=by simp only [fB,ah c,ah c2]
   rw [hE] at hS
   refine aX (fun j st=>∃ (e:Nat),st=Cd h ps e depth (m + 1)/\e<=h.af.length/\enumL h.af 0 h.af=enumL h.af e (h.af.drop e)/\j=h.af.length - e) h.af.length
    (Cd h ps 0 depth (m + 1)) (ep 3 (u7 nH) (c8 nH)) ⟨0,rfl,by omega,rfl,by omega⟩ ?_
   rintro j st ⟨e,rfl,he,aD,rfl⟩;refine br ?_ ?_<;>intro hL
   ·have aq:e < h.af.length:=by simpa [ak] using hL
    obtain ⟨x,hx⟩:=gX aq;rw [drop_cons hx] at aD;simp only [enumL] at aD;refine cP Kh (ly h.af e x (by omega) hx) ?_;refine br ?_ ?_<;>intro hl
    ·have hl:az h.af e x≠0:=sU hl;rw [zIfP hl] at aD;refine dS ?_;refine ⟨gl x,⟨by omega,aH hx⟩,?_⟩;refine cD eN (dj (0,0) (m + 1) _ x.a) ?_;refine ⟨_,?_,rfl⟩;rw [hS,aD];exact ax
    ·have hl:az h.af e x=0:=sU hl;rw [ah (by simp [hl])] at aD;exact rE ⟨_,by omega,e + 1,rfl,by omega,aD,rfl⟩ (bl (c8 (aS aq (by omega))))
   ·have hge:e=h.af.length:=by simp [ak] at hL;omega
    rw [hge,List.drop_length] at aD;simp only [enumL] at aD;rw [aD] at hS;refine br (fun x=>?_) (fun _=>?_)
    ·simp [aj] at x;omega
    refine br (fun x=>?_) (fun _=>?_)
    ·simp [aj] at x;omega
    refine ⟨_,?_,rfl⟩;rw [hS];exact ax
  ·have k4:¬ h.ai=4:=of_decide_eq_false k4;rw [ah k4] at hS;refine br ?_ ?_<;>intro k5
   ·have k5:h.ai=5∨h.ai=6:=by simpa [aj] using k5
    rw [zIfP k5] at hS
    cases ps with
    | nil=>
     refine cP eN (hW 19 h.cV) ?_;refine ⟨_,?_,rfl⟩;rw [hS];simp only [wrongOne];exact ax
    | cons p t r=>
     cases r with
     | cons p2 t2 r2=>
      refine cP eN (hW 19 h.cV) ?_;refine ⟨_,?_,rfl⟩;rw [hS];simp only [wrongOne];exact ax
     | nil=>
      obtain ⟨u,us⟩:=t;simp only [wrongOne] at hS;simp only [Ty.wt,Pts.wt] at um hk;refine ⟨_,⟨by omega,rfl⟩,?_⟩;refine br ?_ ?_<;>intro c
      ·have c:p.name.s=aJ:=by
        have:=c;simp [aj] at this;exact this
       refine ⟨_,⟨by omega,rfl⟩,?_⟩;refine cP Fz (jJ p dK (cX (.mk u us)) (cX bT) (by omega) (tN _ _ _ _ _) (tN _ _ _ _ _)) ?_;refine br ?_ ?_<;>intro q
       ·have q:bQ p dK=false:=by simpa [aj,c] using q
        refine cP eN (hW 19 h.cV) ?_;rw [zIfP (by simp [q])] at hS;refine ⟨_,?_,rfl⟩;rw [hS];exact ax
       ·have q:bQ p dK=true:=by simpa [aj,c] using q
        rw [ah (by simp [q,c])] at hS;refine br ?_ ?_<;>intro x
        ·have x:h.most < 0∨1024 < h.most:=by simpa [aj] using x
         refine cP eN (hW 20 h.cV) ?_;rw [zIfP x] at hS;refine ⟨_,?_,rfl⟩;rw [hS];exact ax
        ·have x:¬ (h.most < 0∨1024 < h.most):=by simp [aj] at x;omega
         rw [ah x] at hS;refine dS ?_;refine ⟨_,⟨by omega,rfl⟩,?_⟩;refine cD Fl (ih (.mk u us) (depth + 1) (m + 1) (by simp only [Ty.wt];omega) (by simp only [Ty.wt];omega) (by omega) (by omega) (by omega) (by omega)) ?_ (by repeat' (first | exact rfl | exact trivial | exact Or.inr (Or.inl ⟨_,rfl⟩) | exact Or.inr ⟨_,rfl⟩ | exact Or.inl ⟨rfl,rfl⟩ | exact Or.inl rfl | refine Or.inr ⟨_,_,rfl,Nat.zero_le _,rfl,?_⟩ | refine ⟨_,_,rfl,?_,?_⟩ | refine ⟨_,rfl,?_⟩ | exact congrArg (fun z=>DV.v (.int .i64 z)) nH | exact congrArg (fun z=>DV.v (.int .i64 z)) (wrap64 (by omega) (by omega))| refine Or.inr (Or.inr (Or.inr ⟨_,_,rfl,?_⟩)) | exact Or.inl rfl | refine Or.inr ?_));refine ⟨_,?_,rfl⟩;rw [hS];exact ax
      ·have c:p.name.s≠aJ:=by
        have:=c;simp [aj] at this;exact this
       refine cP eN (hW 19 h.cV) ?_;rw [zIfP (.inl c)] at hS;refine ⟨_,?_,rfl⟩;rw [hS];exact ax
   ·have k5:¬ (h.ai=5∨h.ai=6):=by simp [aj] at k5;omega
    rw [ah k5] at hS;refine br ?_ ?_<;>intro k7
    ·have k7:h.ai=7∨h.ai=8:=by simpa [aj] using k7
     rw [zIfP k7] at hS;have hP:wrong (.mk h ps) depth m=dC h ps depth (m + 1):=by rw [hS];all_goals rfl
     refine cP Pg (vo k ih h ps depth (m + 1) hk bI tJ (by omega) (by omega) (by omega)) ?_ (pV nH);refine ⟨_,?_,rfl⟩;rw [hP];exact ax
    ·have k7:¬ (h.ai=7∨h.ai=8):=by simp [aj] at k7;omega
     rw [ah k7] at hS;refine ⟨_,?_,rfl⟩;rw [hS];exact (pV nH)
theorem uC:∀ k,vn k
 | 0=>fun t depth m hk=>by have:=t.gq;omega
 | k + 1=>fun t depth m hk bI tJ y6 mv iu=>by
  obtain ⟨h,ps⟩:=t;have fj:=hk;simp only [Ty.wt,Hd.wt] at fj;exact vS k (uC k) h ps depth m (by omega) bI tJ y6 mv iu
theorem vT (t:Ty) (depth m:Int) (bI:t.wt<=1099511627776) (tJ:0<=depth) (y6:depth<=25) (mv:0<=m) (iu:m<=512) :
  aV prog 106 [wD (0,0) m,.agg (cX t),.v (.int .i64 depth)] (wD (wrong t depth m).1 (wrong t depth m).2):=
 uC t.wt t depth m (zLeR _) bI tJ y6 mv iu
def eaA:List Ty->Int->Ft × Int
 | [],m=>((0,0),m)
 | t :: r,m=>if (bF t m).1.1≠0 then bF t m else eaA r (bF t m).2
theorem Hb (z:Ty):∀ (l:List (Wd × Ty)) (m:Int),((eaA (l.map (fun x=>x.2) ++ [z]) m).1.1=0↔(eaR z l m).1.1=0)/\((eaR z l m).1.1≠0->eaA (l.map (fun x=>x.2) ++ [z]) m=eaR z l m)
 | [],m=>by
  show ((eaA [z] m).1.1=0↔(bF z m).1.1=0)/\((bF z m).1.1≠0->eaA [z] m=bF z m)
  grind [eaA,bF]
 | x :: r,m=>by
  have ih:=Hb z r (bF x.2 m).2
  grind [eaA,eaR,bF]
def eaK (F:Ty->Ft):List Ty->Ft
 | []=>(0,0)
 | t :: r=>if (F t).1≠0 then F t else eaK F r
theorem Hc (F:Ty->Ft) (z:Ty):∀ l:List (Wd × Ty),((eaK F (l.map (fun x=>x.2) ++ [z])).1=0↔(eaL F (F z) l).1=0)/\((eaL F (F z) l).1≠0->eaK F (l.map (fun x=>x.2) ++ [z])=eaL F (F z) l)
 | []=>by
  show ((eaK F [z]).1=0↔(F z).1=0)/\((F z).1≠0->eaK F [z]=F z)
  grind [eaK]
 | x :: r=>by
  have ih:=Hc F z r
  grind [eaK,eaL]
theorem AK {F:Ty->Ft}:∀ {l:List Ty},(eaK F l).1=0->∀ t∈l,(F t).1=0
 | [],_,t,ht=>by cases ht
 | u :: r,h,t,ht=>by
  rw [eaK] at h;split at h
  ·rename_i h1;exact (h1 h).elim
  ·rename_i h1;rcases cY ht with rfl | ht
   ·simpa using h1
   ·exact AK h t ht
theorem Ce (S:Sch):fc S=if (latF S.ae S.order).1≠0 then latF S.ae S.order
 else if (dw S).1≠0 then dw S
 else if (eaA (ff S) 0).1.1≠0 then (eaA (ff S) 0).1
 else if (eaK (jt S) (ff S)).1≠0 then eaK (jt S) (ff S)
 else loopF S:=by
 have h1:=Hb S.root S.types 0;have h2:=Hc (jt S) S.root S.types;unfold fc ff eP;by_cases a:(eaR S.root S.types 0).1.1=0
 ·grind
 ·grind
abbrev MU (S:Sch) (T:List Ty) (m:Int) (e:Nat):St:=
 ⟨[aE 1 0,aE 2 1,aT 5 9 (fi T),al 6 m,al 7 e],[cC S,[.v (.int .i64 0),.v (.int .i64 0)]],[]⟩
abbrev Rg (S:Sch) (T:List Ty) (e:Nat):St:=
 ⟨[aE 1 0,aE 2 1,aT 5 9 (fi T),al 11 e],[cC S,[.v (.int .i64 0),.v (.int .i64 0)]],[]⟩
abbrev MV (S:Sch) (e:Nat):St:=
 ⟨[aE 1 0,aE 2 1,al 13 e],[cC S,[.v (.int .i64 0),.v (.int .i64 0)]],[]⟩
theorem vU {S:Sch} (hs:S.wt<=1099511627776):∀ t∈ff S,t.wt<=1099511627776:=by
 intro t ht;unfold Sch.wt at hs;rcases List.mem_append.1 ht with h | h
 ·obtain ⟨x,hx,rfl⟩:=List.mem_map.1 h;have:=eO hx;omega
 all_goals grind
theorem vV (S:Sch) (hs:S.wt<=1099511627776):aV prog 42 [.agg (cC S)] (fc S).d:=by
 have NM:=vU hs;unfold Sch.wt at hs;have hN:=cK S.types;have fh:=gP S.types;have DN:=vQ S.ae S.order (by omega) (by omega);have Rh:=vR S (by omega);have gD:=yr S (by omega);have Ri:=fun t ht=>nu S (by omega) (by omega) _ t (zLeR _) (NM t ht);have hF:=Ce S;have hlen:(ff S).length=S.types.length + 1:=by simp [ff,eP]
 have WX:(dw S).1=0->S.types.length<=64:=fun h=>by grind [dw]
 obtain ⟨ae,order,types,⟨rh,rp⟩⟩:=S;simp only at hs hN fh DN Rh hlen WX hF;generalize hT:ff ⟨ae,order,types,.mk rh rp⟩=T at NM gD Ri hlen hF;refine eG 104 [.cell 2 26] func42 rfl ntmps42 rfl fun _ _ _ _=>?_;generalize fc ⟨ae,order,types,.mk rh rp⟩=F at hF ⊢;refine cP OW DN ?_;refine br ?_ ?_<;>intro h1
 ·have h1:(latF ae order).1≠0:=sU h1;rw [zIfP h1] at hF;refine ⟨_,?_,rfl⟩;rw [hF];exact ax
 have h1:(latF ae order).1=0:=sU h1;rw [ah (by simp [h1])] at hF;refine cP OX Rh ?_;refine br ?_ ?_<;>intro h2
 ·have h2:(dw ⟨ae,order,types,.mk rh rp⟩).1≠0:=sU h2;rw [zIfP h2] at hF;refine ⟨_,?_,rfl⟩;rw [hF];exact ax
 have h2:(dw ⟨ae,order,types,.mk rh rp⟩).1=0:=sU h2;rw [ah (by simp [h2])] at hF;have MW:=WX h2;refine cP OO gD ?_
 refine aX (fun j st=>∃ (e:Nat) (m:Int),st=MU ⟨ae,order,types,.mk rh rp⟩ T m e/\e<=types.length + 1/\0<=m/\m<=512/\eaA T 0=eaA (T.drop e) m/\j=types.length + 1 - e) (types.length + 1)
  (MU ⟨ae,order,types,.mk rh rp⟩ T 0 0) (bl wB) ⟨0,0,rfl,by omega,by omega,by omega,rfl,by omega⟩ ?_
 rintro j st ⟨e,m,rfl,he,mv,iu,aD,rfl⟩;refine br ?_ ?_<;>intro hL
 ·have aq:e < types.length + 1:=by have:=hL;simp [cO,hlen] at this;omega
  obtain ⟨t,ht⟩:∃ t,T[e]? = some t:=⟨_,gE (by omega)⟩;have GD:=NM t (mG ht);have hst:eaA (T.drop e) m=if (bF t m).1.1≠0 then bF t m else eaA (T.drop (e + 1)) (bF t m).2:=by rw [drop_cons ht,eaA]
  have MX:bF t m=if (wrong t 1 0).1.1≠0 then ((wrong t 1 0).1,m) else if 512 < m + t.cnt then ((8,t.h.cV),m + t.cnt) else ((0,0),m + t.cnt):=rfl
  have DC:=vT t 1 0 GD (by omega) (by omega) (by omega) (by omega);have cQ:=iC _ t (zLeR _) GD;have HU:=t.dq;obtain ⟨u,us⟩:=t;refine iX (iq ht) ?_;refine cP Fl DC ?_;refine br ?_ ?_<;>intro g1
  ·have g1:(wrong (.mk u us) 1 0).1.1≠0:=sU g1;rw [zIfP g1] at MX;rw [aD,hst,MX,zIfP g1,zIfP g1] at hF;refine ⟨_,?_,rfl⟩;rw [hF];exact ax
  have g1:(wrong (.mk u us) 1 0).1.1=0:=sU g1;rw [ah (by simp [g1])] at MX;refine iX (iq ht) ?_;refine cP IE cQ ?_;have tO:IntKind.i64.wrap (m + ((Ty.mk u us).cnt:Int))=m + (Ty.mk u us).cnt:=wrap64 (by omega) (by omega);refine br ?_ ?_<;>intro g2
  ·have g2:512 < IntKind.i64.wrap (m + ((Ty.mk u us).cnt:Int)):=of_decide_eq_true g2;rw [tO] at g2;rw [zIfP g2] at MX;rw [aD,hst,MX,zIfP (by simp),zIfP (by simp)] at hF;refine iX (iq ht) ?_;refine ⟨_,?_,rfl⟩;rw [hF];exact ax
  ·have g2:¬ 512 < IntKind.i64.wrap (m + ((Ty.mk u us).cnt:Int)):=of_decide_eq_false g2;rw [tO] at g2;rw [ah g2] at MX;rw [MX,ah (by simp)] at hst;exact ⟨MU ⟨ae,order,types,.mk rh rp⟩ T (m + (Ty.mk u us).cnt) (e + 1),(bl (iv tO (aS aq (by omega)))),types.length + 1 - (e + 1),by omega,e + 1,_,rfl,by omega,by omega,by omega,by rw [aD,hst],rfl⟩
 have hge:e=types.length + 1:=by have:=hL;simp [cO,hlen] at this;omega
 rw [aD,List.drop_of_length_le (by omega),show eaA [] m=((0,0),m) from rfl,ah (by simp)] at hF
 refine aX (fun j st=>∃ (e:Nat),st=Rg ⟨ae,order,types,.mk rh rp⟩ T e/\e<=types.length + 1/\eaK (jt ⟨ae,order,types,.mk rh rp⟩) T=eaK (jt ⟨ae,order,types,.mk rh rp⟩) (T.drop e)/\j=types.length + 1 - e) (types.length + 1)
  (Rg ⟨ae,order,types,.mk rh rp⟩ T 0) (bl wB) ⟨0,rfl,by omega,rfl,by omega⟩ ?_
 clear aD hL hge he e;rintro j st ⟨e,rfl,he,aD,rfl⟩;refine br ?_ ?_<;>intro hL
 ·have aq:e < types.length + 1:=by have:=hL;simp [cO,hlen] at this;omega
  obtain ⟨t,ht⟩:∃ t,T[e]? = some t:=⟨_,gE (by omega)⟩;have hst:eaK (jt ⟨ae,order,types,.mk rh rp⟩) (T.drop e)=if (jt ⟨ae,order,types,.mk rh rp⟩ t).1≠0 then jt ⟨ae,order,types,.mk rh rp⟩ t else eaK (jt ⟨ae,order,types,.mk rh rp⟩) (T.drop (e + 1)):=by rw [drop_cons ht,eaK]
  have hu:=Ri t (mG ht);obtain ⟨u,us⟩:=t;apply kU (fun _=>false) 5 6 [0,1,2,3,4,5,6,7] [0,1,2,3,4,6,5,7] 2 2 mo (by decide +kernel)
  ·refine iX (iq ht) ?_;refine cD Fm hu ?_;refine (?_:@Eq St _ _);exact rfl
  ·refine iX (iq ht) ?_;refine cD Fm hu ?_;refine (⟨rfl,rfl,?_⟩:_/\_/\_)
   repeat' (first | exact trivial | refine ⟨rfl,?_⟩)
  ·rfl
  refine br ?_ ?_<;>intro g
  ·have g:(jt ⟨ae,order,types,.mk rh rp⟩ (.mk u us)).1≠0:=sU g;rw [aD,hst,zIfP g,zIfP g] at hF;refine ⟨_,?_,rfl⟩;rw [hF];exact ax
  ·have g:(jt ⟨ae,order,types,.mk rh rp⟩ (.mk u us)).1=0:=sU g;rw [ah (by simp [g])] at hst;exact rE ⟨_,by omega,e + 1,rfl,by omega,by rw [aD,hst],rfl⟩ (bl (c8 (aS aq (by omega))))
 have hge:e=types.length + 1:=by have:=hL;simp [cO,hlen] at this;omega
 have E5:(eaK (jt ⟨ae,order,types,.mk rh rp⟩) T).1=0:=by rw [aD,List.drop_of_length_le (by omega)];all_goals rfl
 rw [aD,List.drop_of_length_le (by omega),show eaK (jt ⟨ae,order,types,.mk rh rp⟩) []=(0,0) from rfl,ah (by simp)] at hF
 have KX:∀ x∈types,pL ⟨ae,order,types,.mk rh rp⟩ x.2=true:=fun x hx=>vM (AK E5 x.2 (by
  rw [<- hT]
  exact List.mem_append_left _ (List.mem_map_of_mem hx)))
 have Vc:=sg ⟨ae,order,types,.mk rh rp⟩ MW KX
 have hlo:F=match bE (fun i=>(endI ⟨ae,order,types,.mk rh rp⟩ (types.length + 1) i).isNone) types.length with
  | none=>(0,0)
  | some i=>(11,MB (pK ⟨ae,order,types,.mk rh rp⟩) i):=hF
 refine aX (fun j st=>∃ e:Nat,st=MV ⟨ae,order,types,.mk rh rp⟩ e/\e<=types.length/\(∀ i,i < e->(endI ⟨ae,order,types,.mk rh rp⟩ (types.length + 1) i).isNone=false)/\j=types.length - e) types.length
  (MV ⟨ae,order,types,.mk rh rp⟩ 0) (bl wB) ⟨0,rfl,by omega,fun _ h=>by omega,by omega⟩ ?_
 clear aD hL hge he e;rintro j st ⟨e,rfl,he,hno,rfl⟩;refine br ?_ ?_<;>intro hL
 ·have aq:e < types.length:=by have:=hL;simp [hN] at this;exact this
  obtain ⟨x,hx⟩:=gX aq;have MF:(pK ⟨ae,order,types,.mk rh rp⟩)[e]? = some x.1:=Ca hx;have h9:=Vc e aq;obtain ⟨xw,⟨xh,xp⟩⟩:=x;refine cP Fo h9 ?_;refine br ?_ ?_<;>intro g
  ·have g:endI ⟨ae,order,types,.mk rh rp⟩ (types.length + 1) e=none:=ee.1 g;have pB:=cw (p:=fun i=>(endI ⟨ae,order,types,.mk rh rp⟩ (types.length + 1) i).isNone) aq (by simp only [g];rfl) hno;rw [pB] at hlo;simp only [iF MF] at hlo;refine iX (dNms_get hx) ?_;refine ⟨_,?_,rfl⟩;rw [hlo];exact ax
  ·have g:¬ endI ⟨ae,order,types,.mk rh rp⟩ (types.length + 1) e=none:=fun hn=>by have h3:=ee.2 hn;rw [g] at h3;cases h3
   refine ⟨MV ⟨ae,order,types,.mk rh rp⟩ (e + 1),(bl (c8 (aS aq (by omega)))),types.length - (e + 1),by omega,e + 1,rfl,by omega,fun i hi=>?_,rfl⟩;rcases lE hi with hi | rfl
   ·exact hno i hi
   ·exact Option.isNone_eq_false_iff.2 (Option.isSome_iff_ne_none.2 g)
 ·have hge:e=types.length:=sW hN hL;rw [hge] at hno;rw [cL hno] at hlo;refine ⟨_,?_,rfl⟩;rw [hlo];exact ax
theorem JB (vs:Array Value) (n:ByteArray) (b:Bool) (z1 z2 z3 z4 z5 z6 z7 z8:Int) (w:World) (hv:vs = #[.string n,.bool b,.int .i64 z1,.int .i64 z2,.int .i64 z3,.int .i64 z4,.int .i64 z5,.int .i64 z6,.int .i64 z7,.int .i64 z8]) :
  (binOp .neq 89 (.agg vs) (.agg vs)).run prog w = .ok (.bool false) w:=by
 have hf:prog.underlying 89=some (.struct (prog.fieldsOf 89)):=by simp [Program.fieldsOf,Tryz.underlying89]
 have qB:(prog.fieldsOf 89).toList=[⟨ "Name",9,0,false, "", "",0⟩,⟨ "Bare",4,1,false, "", "",16⟩,⟨ "At",3,2,false, "", "",24⟩,⟨ "To",3,3,false, "", "",32⟩,⟨ "Label",3,4,false, "", "",40⟩,⟨ "Wide",3,5,false, "", "",48⟩,⟨ "Coarse",3,6,false, "", "",56⟩,⟨ "N",3,7,false, "", "",64⟩,⟨ "Seen",3,8,false, "", "",72⟩,⟨ "CoarseAt",3,9,false, "", "",80⟩]:=by simp [Program.fieldsOf,Tryz.underlying89]
 have hs:prog.stoodInHeld 89=false:=by kernel_rfl
 obtain ⟨d,hm⟩:∃ d,Op.maxDepth=d + 1 + 1:=⟨Op.maxDepth - 2,by decide⟩
 have q9:∀ cs:Array Value,∀ off v,cs[off]? = some v->(part 9 cs off).run prog w = .ok v w:=fun cs off v h=>by
  simp [part,Tryz.isAgg9,h]
 have q4:∀ cs:Array Value,∀ off v,cs[off]? = some v->(part 4 cs off).run prog w = .ok v w:=fun cs off v h=>by
  simp [part,Tryz.isAgg4,h]
 have q3:∀ cs:Array Value,∀ off v,cs[off]? = some v->(part 3 cs off).run prog w = .ok v w:=fun cs off v h=>by
  simp [part,Tryz.isAgg3,h]
 have g0:=q9 vs 0 (.string n) (by rw [hv];rfl);have g1:=q4 vs 1 (.bool b) (by rw [hv];rfl);have g2:=q3 vs 2 (.int .i64 z1) (by rw [hv];rfl);have g3:=q3 vs 3 (.int .i64 z2) (by rw [hv];rfl);have g4:=q3 vs 4 (.int .i64 z3) (by rw [hv];rfl);have g5:=q3 vs 5 (.int .i64 z4) (by rw [hv];rfl);have g6:=q3 vs 6 (.int .i64 z5) (by rw [hv];rfl);have g7:=q3 vs 7 (.int .i64 z6) (by rw [hv];rfl);have g8:=q3 vs 8 (.int .i64 z7) (by rw [hv];rfl);have g9:=q3 vs 9 (.int .i64 z8) (by rw [hv];rfl);have r9:=fun a=>run_equalIn_string w d 9 a a Tryz.underlying9;have r4:=fun a=>run_equalIn_bool w d 4 a a Tryz.underlying4;have r3:=fun a=>run_equalIn_int w d 3 .i64 .i64 a a Tryz.underlying3
 have he:(Op.equal 89 (.agg vs) (.agg vs)).run prog w = .ok true w:=by
  unfold Op.equal;rw [hm,run_equalIn_struct w (d + 1) 89 _ _ hf hs,qB];simp only [Op.eqFields,ne_eq,String.reduceEq,not_false_eq_true,if_true,Sem.run_bind,g0,g1,g2,g3,g4,g5,g6,g7,g8,g9,r9,r4,r3,Result.andThen_ok,beq_self_eq_true,Bool.not_true,Bool.false_eq_true,if_false,Sem.run_pure]
 show ((do let r <- Op.equal 89 _ _;pure (Value.bool !r)):Sem Value).run prog w=_;simp only [Sem.run_bind,he,Result.andThen_ok,Sem.run_pure,Bool.not_true]
theorem He (w:World) (x y:Operand) (vs vs':Array Value):(eqGuard .neq 89 x y (.agg vs) (.agg vs')).run prog w = .ok () w:=by
 have h:prog.eqGuardType prog.depth 89=false:=by kernel_rfl
 simp [eqGuard,run_program,h]
theorem MY (x y:Operand) (e:Ed):uV prog .neq x y 89 (Dz e) (Dz e) false:=
 ⟨_,_,rfl,rfl,fun w=>⟨He w x y _ _,JB _ _ _ _ _ _ _ _ _ _ _ w rfl⟩⟩
theorem gh {l:List Ed} {i:Nat} {e:Ed} (h:l[i]? = some e):(iw l)[i]? = some (Dz e):=by simp [iw,h]
def JC (lev:List Wd->Int) (s:Sch) (t:Ty) (k:Nat):Nd:=⟨t.h.ai,t.h.cV,t.h.lo,t.h.hi,t.h.most,ap t.h.af,edsP lev s t.ps (k + 1)⟩
mutual
theorem qd (lev:List Wd->Int) (s:Sch):∀ (t:Ty) (k:Nat),ndsT lev s t k=(flatT t).zipIdx.map fun x=>JC lev s x.1 (k + x.2)
 | .mk h ps,k=>by
  have ih:=vW lev s ps (k + 1);rw [ndsT,flatT];split
  ·rfl
  ·rw [ih,List.zipIdx_cons,List.map_cons];rw [List.zipIdx_succ,List.map_map];refine congr (congrArg List.cons rfl) (List.map_congr_left fun x _=>?_);simp only [Function.comp];congr 1;omega
theorem vW (lev:List Wd->Int) (s:Sch):∀ (ps:Pts) (k:Nat),rX lev s ps k=(flatP ps).zipIdx.map fun x=>JC lev s x.1 (k + x.2)
 | .nil,k=>rfl
 | .cons p u r,k=>by
  rw [rX,flatP,List.zipIdx_append,List.map_append]
  cases hb:p.bare with
  | true=>
   simp only [if_true,List.zipIdx_nil,List.map_nil,List.nil_append,List.length_nil,Nat.add_zero];exact vW lev s r k
  | false=>
   simp only [Bool.false_eq_true,if_false];rw [qd lev s u k,vW lev s r (k + u.nn),gU];refine congrArg _ ?_;rw [List.zipIdx_eq_map_add (l:=flatP r) (i:=0 + u.nn)];rw [List.map_map];refine List.map_congr_left fun x _=>?_;simp only [Function.comp];congr 1;omega
end
theorem vX {X:Lx} {L:List ByteArray}:∀ {ps:Pts},(knP X L ps).1=0->∀ {p:Ph} {u:Ty},(p,u)∈ps.toList->p.bare=false->(knT X L u).1=0
 | .nil,_,p,u,h,_=>by cases h
 | .cons q v r,hk,p,u,h,hb=>by
  rcases cY h with h | h
  ·cases h;exact (oE hk).1 hb
  ·exact vX (oE hk).2 h hb
theorem oM {w:Int} (h:decide (w=0)=true):je w=3:=by unfold je;rw [zIfP (of_decide_eq_true h)]
theorem oN {w:Int} (h:decide (w=0)=false):je w=w:=by unfold je;rw [ah (of_decide_eq_false h)]
theorem ey {L:List Ed} {lev:List Wd->Int} {p:Ph} {to w z:Int} (hw:je p.wide=w) (ht:to=z):iw L ++ [[.v (.string p.name.s),.v (.bool p.bare),.v (.int .i64 p.name.a),.v (.int .i64 z),.v (.int .i64 (lev p.label)),.v (.int .i64 w),.v (.int .i64 p.ck),.v (.int .i64 p.cn),.v (.int .i64 (lev p.cl)),.v (.int .i64 p.ca)]]=iw (L ++ [rW lev p to]):=by
 subst hw ht;simp [iw,Dz,rW]
abbrev Rj (S:Sch) (f:Nat->Nat->Bool) (t:Ty) (me:Nat) (q e:Nat):St:=
 ⟨[aT 1 1 (ct (cW S.ae.length f)),al 3 me,aE 4 0,aE 6 1,aE 8 2,aE 9 3,al 10 e],
  [cC S,cX t,[.v (.int .i64 0),.v (.int .i64 0),.v (.int .i64 0),.v (.int .i64 0),.v (.int .i64 0),.v (.slice none 0 0),.v (.slice none 0 0)],
  [.v (.int .i64 t.h.ai),.v (.int .i64 t.h.cV),.v (.int .i64 t.h.lo),.v (.int .i64 t.h.hi),.v (.int .i64 t.h.most),.sl 1 (dB (ap (t.h.af.take e))) (some 0),.v (.slice none 0 0)]],[⟨q,9,1,none⟩]⟩
abbrev yt (S:Sch) (f:Nat->Nat->Bool) (t:Ty) (q1 q2:Nat) (L:List Ed) (nx e:Nat):St:=
 ⟨[aT 1 1 (ct (cW S.ae.length f)),aE 4 0,aE 6 1,aE 8 2,aE 9 3,al 11 nx,al 12 e],
  [cC S,cX t,[.v (.int .i64 0),.v (.int .i64 0),.v (.int .i64 0),.v (.int .i64 0),.v (.int .i64 0),.v (.slice none 0 0),.v (.slice none 0 0)],
  [.v (.int .i64 t.h.ai),.v (.int .i64 t.h.cV),.v (.int .i64 t.h.lo),.v (.int .i64 t.h.hi),.v (.int .i64 t.h.most),.sl 1 (dB (ap t.h.af)) (some 0),.sl 10 (iw L) (some 1)]],[⟨q1,9,1,none⟩,⟨q2,89,10,none⟩]⟩
set_option maxHeartbeats 2000000 in
theorem AL (S:Sch) (hS:S.wt<=1099511627776) (hl:(latF S.ae S.order).1=0) (MW:S.types.length<=64) (hr:∀ x∈S.types,pL S x.2=true) (hlo:∀ i,i < S.types.length->∃ k,endI S (S.types.length + 1) i=some k)
  (t:Ty) (ht:t.wt<=1099511627776) (hk:(jt S t).1=0) (me:Nat) (Uh:me<=1099511627776) :
  aV prog 52 [.agg (cC S),.sl 1 (ct (cW S.ae.length (dt S.ae.length (cr (ap S.ae) S.order)))) none,.agg (cX t),.v (.int .i64 me)] (.agg (wz (JC (fK S) S t me))):=by
 obtain ⟨hL,Jp⟩:=jg hl;have mF:=hL.pos;unfold Sch.wt at hS;have Au:=fun l (h:wdsWt l<=1099511627776)=>DM S.ae (dt S.ae.length (cr (ap S.ae) S.order)) mF Jp (by omega) l h;have JD:∀ l,fK S l=vH (dt S.ae.length (cr (ap S.ae) S.order)) (ap S.ae) l:=fun _=>rfl;have JE:=fun s i k=>si S MW (by omega) hr s i k;have ln:=iN S;generalize dt S.ae.length (cr (ap S.ae) S.order)=f at Au JD ⊢;obtain ⟨h,ps⟩:=t;have MJ:=(kE hk).2;simp only [Ty.wt,Hd.wt] at ht;have mj:=ps.dX;have hc:=ps.dq;have mB:=ps.eJ;have hwl:=bf h.af;generalize Ew:fK S=lev at JD ⊢;obtain ⟨ae,order,types,⟨rh,rp⟩⟩:=S;simp only at hS MW hr hlo Au JD JE ln MJ;refine eG 131 [.cell 8 87] func52 rfl ntmps52 rfl fun _ _ _ _=>?_;refine lJ (fun e=>Rj ⟨ae,order,types,.mk rh rp⟩ f (.mk h ps) me e e) h.af.length (eT 4 ⟨0,9,1,none⟩ rfl rfl rfl zo rfl rfl pD) ?_;intro e he;refine br ?_ ?_<;>intro hL
 ·have aq:e < h.af.length:=by have:=hL;simp [ak] at this;exact this
  obtain ⟨w,hw⟩:=gX aq;have kZ:=gO hw;have fN:(dB (ap (h.af.take e))).length=e:=by simp [dB,ap];omega
  refine dS ?_;refine iX (aH hw) ?_;refine ⟨fN,⟨by simp only [Ty.h];rw [fN];simp [maxLen];omega,by simp only [Ty.h];rw [fN];simp;omega⟩,?_⟩;exact rE ⟨_,by omega,e + 1,rfl,by omega,rfl⟩ (ep 4 (zp (aS aq (by omega)) kZ) (iv (aS aq (by omega)) kZ))
 have hge:e=h.af.length:=by have:=hL;simp [ak] at this;omega
 have Rk:IntKind.i64.wrap ((me:Int) + 1)=((me + 1:Nat):Int):=by rw [wrap64 (by omega) (by omega)];omega
 have zm:dB (ap (h.af.take e))=dB (ap h.af):=by rw [hge,List.take_length]
 refine aX (fun j st=>∃ (e q nx:Nat) (L:List Ed),st=yt ⟨ae,order,types,.mk rh rp⟩ f (.mk h ps) h.af.length q L nx e/\q=e/\L.length=e/\e<=ps.len/\nx + (ps.drop e).nn=me + 1 + ps.nn/\edsP lev ⟨ae,order,types,.mk rh rp⟩ ps (me + 1)=L ++ edsP lev ⟨ae,order,types,.mk rh rp⟩ (ps.drop e) nx/\j=ps.len - e) ps.len
  (yt ⟨ae,order,types,.mk rh rp⟩ f (.mk h ps) e 0 [] (me + 1) 0) (eT 4 ⟨0,89,10,none⟩ rfl rfl rfl (zp Rk zm) rfl rfl (iv Rk zm)) ⟨0,0,me + 1,[],by rw [hge],rfl,rfl,by omega,rfl,rfl,by omega⟩ ?_
 clear he hL hge zm e;rintro j st ⟨e,q,nx,L,rfl,hq,Rc,he,Eu,aD,rfl⟩;refine br ?_ ?_<;>intro hL
 ·have aq:e < ps.len:=by simpa [aC] using hL
  obtain ⟨p,u,hx⟩:=Pts.dp aq;have CS:=Pts.eD (mG hx);have zI:p.name.wt + wdsWt p.label + wdsWt p.cl<=p.wt:=by simp only [Ph.wt];omega
  rw [Pts.drop_cons hx,edsP] at aD;rw [Pts.drop_cons hx,Pts.nn] at Eu;have wu:=Au p.label (by omega);have H0:=Au p.cl (by omega);unfold Dx at wu H0;rw [<- JD] at wu H0;obtain ⟨uh,us⟩:=u;refine iX (bz hx) ?_;refine br ?_ ?_<;>intro hw
  all_goals
   refine cP J7 wu ?_;refine cP J7 H0 ?_;have fN:(iw L).length=q:=by rw [cM,Rc,hq]
   refine br ?_ ?_<;>intro hB
   ·have hB:p.bare=true:=hB;have oD:qa ⟨ae,order,types,.mk rh rp⟩ p (.mk uh us) nx = -1:=by simp [qa,hB]
    rw [hB] at aD Eu;refine ⟨fN,⟨by rw [fN];simp [maxLen];omega,by rw [fN];simp;omega⟩,?_⟩;exact ⟨yt ⟨ae,order,types,.mk rh rp⟩ f (.mk h ps) h.af.length (q + 1) (L ++ [rW lev p (qa ⟨ae,order,types,.mk rh rp⟩ p (.mk uh us) nx)]) nx (e + 1),(ep 4 (by repeat' (first | exact rfl | exact au rfl | exact aw (aS aq (by omega)) | exact bL (ey (oM hw) oD) rfl | exact bL (ey (oN hw) oD) rfl | refine ⟨_,_,rfl,?_,?_⟩)) (by repeat' (first | exact trivial | exact au rfl | exact aw (aS aq (by omega)) | exact bL (ey (oM hw) oD) rfl | exact bL (ey (oN hw) oD) rfl | refine ⟨⟨_,rfl,?_⟩,?_⟩))),ps.len - (e + 1),by omega,e + 1,q + 1,nx,_,rfl,by omega,by simp [Rc],by omega,by rw [<- Eu];simp,by rw [aD];simp,rfl⟩
   ·have hB:p.bare=false:=hB;have eB:=vX MJ (mG hx) hB;refine br ?_ ?_<;>intro h9
    ·have h9:uh.ai=9:=sU h9;obtain ⟨i,hi⟩:=Option.ne_none_iff_exists'.1 ((kE eB).1 h9);obtain ⟨k,hk⟩:=hlo i (by have:=(cx hi).1;omega);have oD:qa ⟨ae,order,types,.mk rh rp⟩ p (.mk uh us) nx=(firstA ⟨ae,order,types,.mk rh rp⟩ k:Int):=by simp [qa,hB,l8,Ty.h,h9,NJ,hi,namedN,hk]
     refine cP OP (JE uh.name.s i k hi hk) ?_;refine ⟨fN,⟨by rw [fN];simp [maxLen];omega,by rw [fN];simp;omega⟩,?_⟩;exact ⟨yt ⟨ae,order,types,.mk rh rp⟩ f (.mk h ps) h.af.length (q + 1) (L ++ [rW lev p (qa ⟨ae,order,types,.mk rh rp⟩ p (.mk uh us) nx)]) nx (e + 1),(ep 4 (by repeat' (first | exact rfl | exact au rfl | exact aw (aS aq (by omega)) | exact bL (ey (oM hw) oD) rfl | exact bL (ey (oN hw) oD) rfl | refine ⟨_,_,rfl,?_,?_⟩)) (by repeat' (first | exact trivial | exact au rfl | exact aw (aS aq (by omega)) | exact bL (ey (oM hw) oD) rfl | exact bL (ey (oN hw) oD) rfl | refine ⟨⟨_,rfl,?_⟩,?_⟩))),ps.len - (e + 1),by omega,e + 1,q + 1,nx,_,rfl,by omega,by simp [Rc],by omega,by rw [<- Eu];simp [hB,Ty.nn,h9],by rw [aD];simp [hB,Ty.nn,h9],rfl⟩
    ·have h9:¬ uh.ai=9:=sU h9;have oD:qa ⟨ae,order,types,.mk rh rp⟩ p (.mk uh us) nx=(nx:Int):=by simp [qa,hB,l8,Ty.h,h9]
     have hnn:=(Ty.mk uh us).eJ;have T8:=(Ty.mk uh us).dq
     have tO:IntKind.i64.wrap ((nx:Int) + (fi (flatT (.mk uh us))).length)=((nx + (Ty.mk uh us).nn:Nat):Int):=by
      rw [cO,gU,wrap64 (by omega) (by omega)];omega
     refine cP IF (lh _ (.mk uh us) (zLeR _) (by omega)) ?_;refine ⟨fN,⟨by rw [fN];simp [maxLen];omega,by rw [fN];simp;omega⟩,?_⟩;exact ⟨yt ⟨ae,order,types,.mk rh rp⟩ f (.mk h ps) h.af.length (q + 1) (L ++ [rW lev p (qa ⟨ae,order,types,.mk rh rp⟩ p (.mk uh us) nx)]) (nx + (Ty.mk uh us).nn) (e + 1),(ep 4 (by repeat' (first | exact rfl | exact au rfl | exact aw (aS aq (by omega)) | exact aw tO | exact bL (ey (oM hw) oD) rfl | exact bL (ey (oN hw) oD) rfl | refine ⟨_,_,rfl,?_,?_⟩)) (by repeat' (first | exact trivial | exact au rfl | exact aw (aS aq (by omega)) | exact aw tO | exact bL (ey (oM hw) oD) rfl | exact bL (ey (oN hw) oD) rfl | refine ⟨⟨_,rfl,?_⟩,?_⟩))),ps.len - (e + 1),by omega,e + 1,q + 1,(nx + (Ty.mk uh us).nn),_,rfl,by omega,by simp [Rc],by omega,by rw [<- Eu];simp [hB];omega,by rw [aD];simp [hB],rfl⟩
 have hge:e=ps.len:=by simp [aC] at hL;omega
 rw [hge,Pts.cq,edsP,List.append_nil] at aD;unfold JC;simp only [Ty.h,Ty.ps];rw [aD];exact ⟨_,ax,rfl⟩
def ndsA (lev:List Wd->Int) (s:Sch):List Ty->Nat->List Nd
 | [],_=>[]
 | t :: r,k=>ndsT lev s t k ++ ndsA lev s r (k + t.nn)
def qf (l:List Ty):Nat:=(l.map Ty.nn).sum
theorem kH (t:Ty) (l:List Ty):qf (t :: l)=t.nn + qf l:=by simp [qf]
theorem vY (a b:List Ty):qf (a ++ b)=qf a + qf b:=by simp [qf]
theorem jj (lev:List Wd->Int) (s:Sch):∀ (l:List Ty) (k:Nat),(ndsA lev s l k).length=qf l
 | [],_=>rfl
 | t :: r,k=>by simp only [ndsA,List.length_append,im,jj lev s r,kH]
theorem sj (lev:List Wd->Int) (s:Sch):∀ (a b:List Ty) (k:Nat),ndsA lev s (a ++ b) k=ndsA lev s a k ++ ndsA lev s b (k + qf a)
 | [],b,k=>by simp [ndsA,qf]
 | t :: r,b,k=>by rw [List.cons_append,ndsA,ndsA,sj lev s r b,List.append_assoc,kH,Nat.add_assoc]
theorem sk (lev:List Wd->Int) (s:Sch):∀ (l:List (Wd × Ty)) (k:Nat),ndsAll lev s l k=ndsA lev s (l.map fun x=>x.2) k
 | [],_=>rfl
 | x :: r,k=>by rw [ndsAll,List.map_cons,ndsA,sk lev s r]
theorem yu (s:Sch):(oF s).length=qf (eP s):=by rw [oF,sk,jj];all_goals rfl
theorem jk (s:Sch):aF s=ndsA (fK s) s (ff s) 0:=by
 unfold aF ff;rw [sj,yu,oF,sk,ndsA,ndsA,List.append_nil,Nat.zero_add];rfl
theorem DO {lev:List Wd->Int} {s:Sch} {l:List Ty} {e:Nat} {t:Ty} (h:l[e]? = some t):ndsA lev s (l.take (e + 1)) 0=ndsA lev s (l.take e) 0 ++ ndsT lev s t (ndsA lev s (l.take e) 0).length:=by
 rw [List.take_add_one,h,sj,jj,Nat.zero_add];simp [ndsA]
theorem yv (l:List Ty):∀ e,qf (l.take e)<=qf l:=by
 intro e;have:=vY (l.take e) (l.drop e);rw [List.take_append_drop] at this;omega
theorem AM (s:Sch):qf (ff s)<=s.wt:=by
 have key:∀ l:List (Wd × Ty),qf (l.map fun x=>x.2)<=nmsWt l:=by
  intro l
  induction l with
  | nil=>exact zLeR _
  | cons x r ih=>
   have:=x.2.eJ;have:=x.2.dq
   grind [kH,nmsWt]
 have h1:=key s.types;have h2:=s.root.eJ;have h3:=s.root.dq
 grind [ff,vY,kH,Sch.wt,eP,qf]
mutual
theorem sm {X:Lx} {L:List ByteArray}:∀ (t:Ty),(knT X L t).1=0->∀ u∈flatT t,(knT X L u).1=0
 | .mk h ps,hk,u,hu=>by
  rw [flatT] at hu;split at hu
  ·cases hu
  ·rcases cY hu with rfl | hu
   ·exact hk
   ·exact yw ps (kE hk).2 u hu
theorem yw {X:Lx} {L:List ByteArray}:∀ (ps:Pts),(knP X L ps).1=0->∀ u∈flatP ps,(knT X L u).1=0
 | .nil,_,u,hu=>by cases hu
 | .cons p v r,hk,u,hu=>by
  rw [flatP] at hu;rcases List.mem_append.1 hu with hu | hu
  ·cases hb:p.bare with
   | true=>rw [hb] at hu;cases hu
   | false=>rw [hb] at hu;exact sm v ((oE hk).1 hb) u hu
  ·exact yw r (oE hk).2 u hu
end
mutual
theorem sq:∀ (t:Ty),∀ u∈flatT t,u.wt<=t.wt
 | .mk h ps,u,hu=>by
  rw [flatT] at hu;split at hu
  ·cases hu
  ·rcases cY hu with rfl | hu
   ·exact zLeR _
   ·have:=yx ps u hu;simp only [Ty.wt];omega
theorem yx:∀ (ps:Pts),∀ u∈flatP ps,u.wt<=ps.wt
 | .nil,u,hu=>by cases hu
 | .cons p v r,u,hu=>by
  rw [flatP] at hu;simp only [Pts.wt];rcases List.mem_append.1 hu with hu | hu
  ·split at hu
   ·cases hu
   ·have:=sq v u hu;omega
  ·have:=yx r u hu;omega
end
theorem Hf {lev:List Wd->Int} {s:Sch} {t u:Ty} {n k:Nat} (h:(flatT t)[k]? = some u):(ndsT lev s t n)[k]? = some (JC lev s u (n + k)):=by grind [qd]
structure uD (S:Sch):Prop where
 lat:(latF S.ae S.order).1=0
 SA:S.types.length<=64
 kn:∀ t∈ff S,(jt S t).1=0
 ends:∀ i,i < S.types.length->∃ k,endI S (S.types.length + 1) i=some k
 wr:∀ t∈ff S,(wrong t 1 0).1.1=0
theorem Hg:∀ {l:List Ty} {m:Int},(eaA l m).1.1=0->∀ t∈l,(wrong t 1 0).1.1=0
 | [],_,_,t,ht=>by cases ht
 | u :: r,m,h,t,ht=>by
  rw [eaA] at h;split at h
  ·rename_i h1;exact (h1 h).elim
  ·rename_i h1;rcases cY ht with rfl | ht
   ·exact (lg (sU h1)).2.2.1
   ·exact Hg h t ht
theorem sr {S:Sch} (h:(fc S).1=0):uD S:=by
 rw [Ce] at h;split at h
 ·rename_i h1;exact (h1 h).elim
 rename_i h1;split at h
 ·rename_i h2;exact (h2 h).elim
 rename_i h2;split at h
 ·rename_i h3;exact (h3 h).elim
 rename_i h3;split at h
 ·rename_i h4;exact (h4 h).elim
 rename_i h4
 exact {
  lat:=sU h1
  SA:=by grind [dw]
  kn:=AK (sU h4)
  ends:=yk h
  wr:=Hg (sU h3) }
theorem uD.refs {S:Sch} (h:uD S):∀ x∈S.types,pL S x.2=true:=fun x hx=>vM (h.kn x.2 (List.mem_append_left _ (List.mem_map_of_mem hx)))
abbrev wC (S:Sch) (f:Nat->Nat->Bool) (N:DV) (z:Int):List DV:=[.sl 2 (bm S.ae) none,.sl 1 (ct (cW S.ae.length f)) none,N,.v (.int .i64 z)]
abbrev Hh (S:Sch) (T:List Ty) (f:Nat->Nat->Bool) (L:List Nd) (z:Int) (e q:Nat):St:=
 ⟨[aE 1 0,aE 2 1,aE 3 2,aT 4 9 (fi T),al 5 e],[cC S,[.v (.slice none 0 0),.v (.slice none 0 0),.v (.slice none 0 0),.v (.int .i64 0)],wC S f (.sl 7 (bG L) (some 0)) z],[⟨q,87,7,none⟩]⟩
abbrev K6 (S:Sch) (T:List Ty) (f:Nat->Nat->Bool) (L:List Nd) (z:Int) (e:Nat) (F:List Ty) (k q:Nat):St:=
 ⟨[aE 1 0,aE 2 1,aE 3 2,aT 4 9 (fi T),al 5 e,aT 6 9 (fi F),al 7 k],[cC S,[.v (.slice none 0 0),.v (.slice none 0 0),.v (.slice none 0 0),.v (.int .i64 0)],wC S f (.sl 7 (bG L) (some 0)) z],[⟨q,87,7,none⟩]⟩
theorem nv (S:Sch) (hS:S.wt<=1099511627776) (hR:(fc S).1=0) :
  aV prog 20 [.agg (cC S)] (.agg (wC S (dt S.ae.length (cr (ap S.ae) S.order)) (.sl 7 (bG (aF S)) none) (gI S))):=by
 have H2:=sr hR;obtain ⟨_,Jp⟩:=jg H2.lat;have NM:=vU hS;have Mc:=AM S;have TW:=(l9 H2.lat).2.2.1;have Rm:=H2.refs;have jf:=fun t ht hk me Uh=>AL S hS H2.lat H2.SA Rm H2.ends t ht hk me Uh;have hwS:=hS;unfold Sch.wt at hS;have AN:=yn S.ae S.order Jp (by omega) (by omega) TW;have gD:=yr S (by have:=H2.SA;omega);have hlen:(ff S).length=S.types.length + 1:=by simp [ff,eP]
 have MW:=H2.SA;have JE:=fun s i k=>si S MW (by omega) Rm s i k;have E5:=H2.kn;have Cf:=H2.ends;have ln:=iN S;have pj:(ff S)[S.types.length]? = some S.root:=by grind [ff,eP]
 have hrn:=yu S;have nF:(ff S).take S.types.length=eP S:=by grind [ff,eP]
 rw [jk];unfold gI;generalize fK S=lev at jf ⊢;generalize dt S.ae.length (cr (ap S.ae) S.order)=f at jf AN ⊢;obtain ⟨ae,order,types,⟨rh,rp⟩⟩:=S;simp only at hS AN hlen MW Cf ln pj nF;generalize hT:ff ⟨ae,order,types,.mk rh rp⟩=T at NM Mc gD hlen E5 pj nF ⊢;refine eG 67 [.cell 2 52] func20 rfl ntmps20 rfl fun _ _ _ _=>?_;apply kU (fun _=>false) 6 8 [0,1,2,3,4,5,6,7,8,9] [0,1,2,3,4,5,8,6,7,9] 2 2 mo (by decide +kernel)
 ·refine cD L3 AN ?_;refine (?_:@Eq St _ _);exact rfl
 ·refine cD L3 AN ?_;refine (⟨rfl,rfl,?_⟩:_/\_/\_)
  repeat' (first | exact trivial | refine ⟨rfl,?_⟩)
 ·rfl
 refine cP OO gD ?_
 have WY:∀ e,(ndsA lev ⟨ae,order,types,.mk rh rp⟩ (T.take e) 0).length<=1099511627776:=fun e=>by
  rw [jj];have:=yv T e;omega
 refine aX (fun j st=>∃ (e q:Nat) (z:Int),st=Hh ⟨ae,order,types,.mk rh rp⟩ T f (ndsA lev ⟨ae,order,types,.mk rh rp⟩ (T.take e) 0) z e q/\q=(ndsA lev ⟨ae,order,types,.mk rh rp⟩ (T.take e) 0).length/\e<=types.length + 1/\(e=types.length + 1->z=(qf (T.take types.length):Nat))/\j=types.length + 1 - e) (types.length + 1)
  (Hh ⟨ae,order,types,.mk rh rp⟩ T f [] 0 0 0) (eT 3 ⟨0,87,7,none⟩ rfl rfl rfl zo rfl rfl pD) ⟨0,0,0,rfl,rfl,by omega,fun h=>by omega,by omega⟩ ?_
 rintro j st ⟨e,q,z,rfl,hq,he,hz,rfl⟩;refine br ?_ ?_<;>intro hL
 ·have aq:e < types.length + 1:=by have:=hL;simp [cO,hlen] at this;omega
  obtain ⟨t,ht⟩:∃ t,T[e]? = some t:=⟨_,gE (by omega)⟩;have GD:=NM t (mG ht);have Vd:=E5 t (mG ht);have Oi:=lh _ t (zLeR _) GD;have WZ:=sm t Vd;have QB:=sq t;have NN:=DO (lev:=lev) (s:=⟨ae,order,types,.mk rh rp⟩) ht;have Ve:=gU t;have fh:=im lev ⟨ae,order,types,.mk rh rp⟩ t (ndsA lev ⟨ae,order,types,.mk rh rp⟩ (T.take e) 0).length;have gF:=fun k u (h:(flatT t)[k]? = some u)=>Hf (lev:=lev) (s:=⟨ae,order,types,.mk rh rp⟩) (n:=(ndsA lev ⟨ae,order,types,.mk rh rp⟩ (T.take e) 0).length) h;have hLe:=WY e;have MZ:=WY (e + 1);have Rn:=jj lev ⟨ae,order,types,.mk rh rp⟩ (T.take e) 0;rw [NN,List.length_append] at MZ;obtain ⟨u,us⟩:=t;generalize ndsA lev ⟨ae,order,types,.mk rh rp⟩ (T.take e) 0=L at hq NN fh gF hLe MZ Rn ⊢;generalize ndsT lev ⟨ae,order,types,.mk rh rp⟩ (.mk u us) L.length=M at NN fh gF MZ;generalize flatT (.mk u us)=F at Oi WZ QB Ve gF;have gz:((bG L).length:Int)=(L.length:Int):=by rw [dz]
  refine iX (iq ht) ?_;refine cP IF Oi ?_
  refine aX (fun j st=>∃ (k q:Nat),st=K6 ⟨ae,order,types,.mk rh rp⟩ T f (L ++ M.take k) (L.length:Int) e F k q/\q=(L ++ M.take k).length/\k<=F.length/\j=F.length - k) F.length
   (K6 ⟨ae,order,types,.mk rh rp⟩ T f (L ++ []) (L.length:Int) e F 0 q) (ep 3 (by repeat' (first | exact rfl | exact au rfl | exact aw gz | exact bL (by rw [List.append_nil]) rfl | refine ⟨_,_,rfl,?_,?_⟩)) (by repeat' (first | exact trivial | exact au rfl | exact aw gz | exact bL (by rw [List.append_nil]) rfl | refine ⟨⟨_,rfl,?_⟩,?_⟩))) ⟨0,q,rfl,by simp [hq],by omega,by omega⟩ ?_
  rintro j st ⟨k,q',rfl,j2,hk,rfl⟩;refine br ?_ ?_<;>intro j6
  ·have eB:k < F.length:=by have:=j6;simp [cO] at this;exact this
   obtain ⟨v,hv⟩:∃ v,F[k]? = some v:=⟨_,gE eB⟩;have Nt:=mG hv;have hvw:=QB v Nt;have fN:(bG (L ++ M.take k)).length=q':=by rw [dz,j2]
   have iQ:q'=L.length + k:=by rw [j2,List.length_append,eQ];omega
   have hnd:=jf v (by omega) (WZ v Nt) (bG (L ++ M.take k)).length (by omega)
   have kZ:bG (L ++ M.take k) ++ [wz (JC lev ⟨ae,order,types,.mk rh rp⟩ v (bG (L ++ M.take k)).length)]=bG (L ++ M.take (k + 1)):=by
    rw [List.take_add_one,gF k v hv,fN,iQ];simp [bG]
   obtain ⟨vh,vp⟩:=v;refine dS ?_;refine iX (iq hv) ?_;refine cD TB hnd ?_;refine ⟨fN,⟨by rw [fN];simp [maxLen];omega,by rw [fN];simp;omega⟩,?_⟩;exact rE ⟨_,by omega,k + 1,q' + 1,rfl,by rw [iQ];simp;omega,by omega,rfl⟩ (ep 3 (zp (aS eB (by omega)) kZ) (iv (aS eB (by omega)) kZ))
  ·have hge:k=F.length:=by have:=j6;simp [cO] at this;omega
   have hM:M.take k=M:=List.take_of_length_le (by omega);rw [hM] at j2;refine ⟨Hh ⟨ae,order,types,.mk rh rp⟩ T f (ndsA lev ⟨ae,order,types,.mk rh rp⟩ (T.take (e + 1)) 0) (L.length:Int) (e + 1) q',(ep 3 (by repeat' (first | exact rfl | exact au rfl | exact aw (aS aq (by omega)) | exact bL (by rw [NN,hM]) rfl | refine ⟨_,_,rfl,?_,?_⟩)) (by repeat' (first | exact trivial | exact au rfl | exact aw (aS aq (by omega)) | exact bL (by rw [NN,hM]) rfl | refine ⟨⟨_,rfl,?_⟩,?_⟩))),types.length + 1 - (e + 1),by omega,e + 1,q',_,rfl,by rw [NN,j2],by omega,fun he1=>?_,rfl⟩;rw [Rn,show e=types.length by omega]
 ·have hge:e=types.length + 1:=by have:=hL;simp [cO,hlen] at this;omega
  have hTa:T.take e=T:=List.take_of_length_le (by omega);rw [hTa];have hz:=hz hge;rw [nF,<- hrn] at hz;have KX:=E5 (.mk rh rp) (mG pj);refine br ?_ ?_<;>intro h9
  ·have h9:rh.ai=9:=sU h9;obtain ⟨i,hi⟩:=Option.ne_none_iff_exists'.1 ((kE KX).1 h9);obtain ⟨k,hk⟩:=Cf i (by have:=(cx hi).1;omega);have oD:l8 ⟨ae,order,types,.mk rh rp⟩ (.mk rh rp) (oF ⟨ae,order,types,.mk rh rp⟩).length=(firstA ⟨ae,order,types,.mk rh rp⟩ k:Int):=by simp [l8,Ty.h,h9,NJ,hi,namedN,hk]
   refine cP OP (JE rh.name.s i k hi hk) ?_;rw [oD];exact ⟨_,ax,rfl⟩
  ·have h9:¬ rh.ai=9:=sU h9;have oD:l8 ⟨ae,order,types,.mk rh rp⟩ (.mk rh rp) (oF ⟨ae,order,types,.mk rh rp⟩).length=z:=by simp [l8,Ty.h,h9,hz]
   rw [oD];exact ⟨_,ax,rfl⟩
def K7 (t:Ty):Prop:=∃ d m,(wrong t d m).1.1=0
def Cg (ai:Int) (p:Ph) (t:Ty):Prop:=(p.bare=true/\ai=8/\sameTy t bT=true/\bQ p gv=true)∨(p.bare=false/\(cT p).1=0/\K7 t)
structure Vf (h:Hd) (ps:Pts):Prop where
 k1:1<=h.ai
 k9:h.ai<=9
 own:rj h ps=true
 int:h.ai=2->h.lo<=h.hi
 text:h.ai=3->0<=h.most/\h.most<=4096
 enum:h.ai=4->fB h=(0,0)
 one:h.ai=5∨h.ai=6->∃ p t,ps = .cons p t .nil/\p.name.s=aJ/\bQ p dK=true/\0<=h.most/\h.most<=1024/\K7 t
 many:h.ai=7∨h.ai=8->ps.len<=64/\(h.ai=8->ps.len≠0)/\∀ i p t,ps.toList[i]? = some (p,t)->az (pNames ps) i p.name=0/\Cg h.ai p t
theorem M0 {h:Hd} {ps:Pts} (ho:¬ rb (.mk h ps)=false):rj h ps=true:=by
 rw [BN];cases hb:sameTy (.mk h ps) (mask (.mk h ps))
 ·exact absurd hb ho
 ·rfl
theorem kI {ai:Int} {all:List Wd}:∀ {ps:Pts} {i:Nat} {d m:Int},(wrongPts ai all i ps d m).1.1=0->(ai=7∨ai=8)->∀ j p t,ps.toList[j]? = some (p,t)->az all (i + j) p.name=0/\Cg ai p t
 | .nil,i,d,m,_,_,j,p,t,hx=>by simp [Pts.toList] at hx
 | .cons q u r,i,d,m,he,hk,j,p,t,hx=>by
  simp only [wrongPts] at he;by_cases c0:az all i q.name≠0
  ·rw [zIfP c0] at he;exact absurd he c0
  rw [ah c0] at he;have c0:az all i q.name=0:=sU c0
  have step:∀ d' m',(wrongPts ai all (i + 1) r d' m').1.1=0->Cg ai q u->az all (i + j) p.name=0/\Cg ai p t:=by
   intro d' m' h hq
   cases j with
   | zero=>grind [Pts.toList]
   | succ j=>
    simp only [Pts.toList,List.getElem?_cons_succ] at hx;have:=kI h hk j p t hx
    grind
  by_cases c1:q.bare=true
  ·rw [zIfP c1] at he;by_cases c2:ai=7∨sameTy u bT=false∨bQ q gv=false
   ·rw [zIfP c2] at he;simp at he
   rw [ah c2] at he;refine step d m he (.inl ⟨c1,?_,?_,?_⟩)
   all_goals grind
  ·rw [ah c1] at he;by_cases c2:(cT q).1≠0
   ·rw [zIfP c2] at he;exact absurd he c2
   rw [ah c2] at he;by_cases c3:(wrong u (d + 1) m).1.1≠0
   ·rw [zIfP c3] at he;exact absurd he c3
   rw [ah c3] at he;exact step d _ he (.inr ⟨by simpa using c1,by simpa using c2,d + 1,m,by simpa using c3⟩)
theorem AO:∀ {t:Ty},K7 t->Vf t.h t.ps
 | .mk h ps,⟨d,m,he⟩=>by
  simp only [Ty.h,Ty.ps];simp only [wrong] at he;by_cases c0:24 < d
  ·rw [zIfP c0] at he;simp at he
  rw [ah c0] at he;by_cases c1:512 < m + 1
  ·rw [zIfP c1] at he;simp at he
  rw [ah c1] at he;by_cases c2:h.ai < 1∨9 < h.ai
  ·rw [zIfP c2] at he;simp at he
  rw [ah c2] at he;by_cases c3:rb (.mk h ps)=false
  ·rw [zIfP c3] at he;simp at he
  rw [ah c3] at he;by_cases c4:(h.ai=2/\h.hi < h.lo)∨(h.ai=3/\(h.most < 0∨4096 < h.most))
  ·rw [zIfP c4] at he;simp at he
  rw [ah c4] at he;by_cases c5:h.ai=9/\aY h.name.s=false
  ·rw [zIfP c5] at he;simp at he
  rw [ah c5] at he;refine { k1:=by omega,k9:=by omega,own:=M0 c3,int:=fun h2=>by omega,text:=fun h3=>by omega,enum:=fun h4=>?_,one:=fun h5=>?_,many:=fun h7=>?_ }
  ·rw [zIfP h4] at he;exact tP h he
  ·rw [ah (by omega),zIfP h5] at he
   match ps,he with
   | .nil,he=>simp [wrongOne] at he
   | .cons p t (.cons _ _ _),he=>simp [wrongOne] at he
   | .cons p t .nil,he=>
    simp only [wrongOne] at he;by_cases e0:p.name.s≠aJ∨bQ p dK=false
    ·rw [zIfP e0] at he;simp at he
    rw [ah e0] at he;by_cases e1:h.most < 0∨1024 < h.most
    ·rw [zIfP e1] at he;simp at he
    rw [ah e1] at he;refine ⟨p,t,rfl,Classical.byContradiction fun hn=>e0 (.inl hn),?_,by omega,by omega,d + 1,_,he⟩
    grind
  ·rw [ah (by omega),ah (by omega),zIfP h7] at he;by_cases e0:h.ai=8/\ps.len=0
   ·rw [zIfP e0] at he;simp at he
   rw [ah e0] at he;by_cases e1:64 < ps.len
   ·rw [zIfP e1] at he;simp at he
   rw [ah e1] at he;refine ⟨by omega,fun h8=>fun hl=>e0 ⟨h8,hl⟩,fun i p t hx=>?_⟩;have:=kI he h7 i p t hx
   rwa [Nat.zero_add] at this
theorem Vf.sub {h:Hd} {ps:Pts} (hF:Vf h ps) {p:Ph} {u:Ty} (hm:(p,u)∈ps.toList) (hb:p.bare=false):K7 u:=by
 obtain ⟨i,hi⟩:=List.mem_iff_getElem?.1 hm
 have hlen:0 < ps.len:=by
  cases ps with
  | nil=>simp [Pts.toList] at hm
  | cons _ _ _=>simp [Pts.len]
 have hk:5<=h.ai/\h.ai<=8:=by
  have h1:=hF.own
  grind [rj]
 by_cases h5:h.ai=5∨h.ai=6
 ·obtain ⟨q,t,rfl,_,_,_,_,hw⟩:=hF.one h5
  grind [Pts.toList]
 ·rcases ((hF.many (by omega)).2.2 i p u hi).2 with h1 | h1
  ·rw [h1.1] at hb;cases hb
  ·exact h1.2.2
mutual
theorem ss:∀ (t:Ty),K7 t->∀ u∈flatT t,K7 u
 | .mk h ps,hw,u,hu=>by
  rw [flatT] at hu;split at hu
  ·cases hu
  ·rcases cY hu with rfl | hu
   ·exact hw
   ·exact yy ps (fun p v hm hb=>(AO hw).sub hm hb) u hu
theorem yy:∀ (ps:Pts),(∀ p v,(p,v)∈ps.toList->p.bare=false->K7 v)->∀ u∈flatP ps,K7 u
 | .nil,_,u,hu=>by cases hu
 | .cons p v r,hw,u,hu=>by
  rw [flatP] at hu;rcases List.mem_append.1 hu with hu | hu
  ·cases hb:p.bare with
   | true=>rw [hb] at hu;cases hu
   | false=>rw [hb] at hu;exact ss v (hw p v (by simp [Pts.toList]) hb) u hu
  ·exact yy r (fun q w hm=>hw q w (by simp [Pts.toList,hm])) u hu
end
mutual
theorem yz:∀ (t:Ty),∀ u∈flatT t,u.h.ai≠9
 | .mk h ps,u,hu=>by
  rw [flatT] at hu;split at hu
  ·cases hu
  ·rename_i h9;rcases cY hu with rfl | hu
   ·exact h9
   ·exact yA ps u hu
theorem yA:∀ (ps:Pts),∀ u∈flatP ps,u.h.ai≠9
 | .nil,u,hu=>by cases hu
 | .cons p v r,u,hu=>by
  rw [flatP] at hu;rcases List.mem_append.1 hu with hu | hu
  ·split at hu
   ·cases hu
   ·exact yz v u hu
  ·exact yA r u hu
end
mutual
theorem uE:∀ (t:Ty) (j:Nat) (u:Ty),(flatT t)[j]? = some u->j + u.nn<=t.nn
 | .mk h ps,j,u,hu=>by
  rw [flatT] at hu;by_cases h9:h.ai=9
  ·rw [zIfP h9] at hu;simp at hu
  rw [ah h9] at hu
  cases j with
  | zero=>grind
  | succ j=>
   simp only [List.getElem?_cons_succ] at hu;have:=oO ps j u hu;rw [Ty.nn,ah h9];omega
theorem oO:∀ (ps:Pts) (j:Nat) (u:Ty),(flatP ps)[j]? = some u->j + u.nn<=ps.nn
 | .nil,j,u,hu=>by simp [flatP] at hu
 | .cons p v r,j,u,hu=>by
  rw [flatP] at hu;rw [Pts.nn]
  cases hb:p.bare with
  | true=>
   rw [hb] at hu;have:=oO r j u (sU hu);simp only [if_true];omega
  | false=>
   rw [hb] at hu;simp only [Bool.false_eq_true,if_false] at hu ⊢;by_cases hj:j < (flatT v).length
   ·rw [dG hj] at hu;have:=uE v j u hu;omega
   ·rw [List.getElem?_append_right (by omega)] at hu;have:=oO r _ u hu;have h2:=gU v;omega
end
theorem ny {lev:List Wd->Int} {s:Sch}:∀ {ps:Pts} {k:Nat} {e:Ed},e∈edsP lev s ps k->∃ p u k',(p,u)∈ps.toList/\e=rW lev p (qa s p u k')/\(p.bare=false->k' + u.nn<=k + ps.nn)
 | .nil,k,e,he=>by simp [edsP] at he
 | .cons p u r,k,e,he=>by
  rw [edsP] at he;rcases cY he with rfl | he
  ·grind [Pts.toList,Pts.nn]
  ·obtain ⟨q,v,k',h1,h2,h3⟩:=ny he
   grind [Pts.toList,Pts.nn]
theorem mb {lev:List Wd->Int} {s:Sch}:∀ {ps:Pts} {k:Nat},(edsP lev s ps k).map Ed.name=ap (pNames ps)
 | .nil,k=>rfl
 | .cons p u r,k=>by
  rw [edsP,List.map_cons,mb (ps:=r)];rfl
theorem uF {f:Nat->Nat->Bool} {n:Nat} (hL:il f n):∀ e,e<=n->∃ b,b < n/\∀ x,x < e->f b x=true
 | 0,_=>⟨0,hL.pos,fun x hx=>by omega⟩
 | e + 1,he=>by
  obtain ⟨b,hb,fL⟩:=uF hL e (by omega);obtain ⟨k,hk⟩:=hL.mt b e hb (by omega);obtain ⟨g1,g2,g3,g4⟩:=l6 hk;refine ⟨k,g1,fun x hx=>?_⟩;rcases lE hx with hx | rfl
  ·exact hL.tr k b x g1 hb (by omega) g2 (fL x hx)
  ·exact g3
theorem po {f:Nat->Nat->Bool} {n:Nat} (hL:il f n) (l:List Nat) (hl:∀ x∈l,x < n):∃ c,dZ f n l=some c:=by
 have key:∀ e,e<=l.length->∃ c,dZ f n (l.take e)=some c:=by
  intro e
  induction e with
  | zero=>
   intro _;obtain ⟨b,hb,fL⟩:=uF hL n (zLeR _);exact ⟨b,l7 hL hb fL⟩
  | succ e ih=>
   intro he;obtain ⟨c,hc⟩:=ih (by omega);obtain ⟨x,hx⟩:∃ x,l[e]? = some x:=⟨_,gE (by omega)⟩;have wY:=hl x (mG hx);obtain ⟨k,hk⟩:=hL.jn c x (oA hc) wY;rw [List.take_add_one,hx]
   grind [pg]
 have:=key l.length (zLeR _)
 rwa [List.take_length] at this
theorem uG {L:List ByteArray}:∀ {l:List Wd},(labW L l).1=0->∀ w∈l,∃ i,cf L w.s=some i
 | [],_,w,hw=>by cases hw
 | x :: r,h,w,hw=>by
  rw [labW] at h;split at h
  ·cases h
  ·rename_i h1;rcases cY hw with rfl | hw
   ·exact Option.ne_none_iff_exists'.1 h1
   ·exact uG h w hw
theorem DP {f:Nat->Nat->Bool} {L:List ByteArray} (hL:il f L.length) {l:List Wd} (h:(labW L l).1=0):∃ c:Nat,vH f L l=c/\c < L.length:=by
 obtain ⟨c,hc⟩:=po hL (jS L l) (fun x hx=>by
  unfold jS at hx;obtain ⟨w,hw,rfl⟩:=List.mem_map.1 hx;obtain ⟨i,hi⟩:=uG h w hw;rw [hi]
  exact (cx hi).1)
 refine ⟨c,?_,oA hc⟩;unfold vH;rw [zIfP h,hc];rfl
structure Vg (L N:Nat) (e:Ed):Prop where
 to0:e.bare=true->e.to = -1
 to1:e.bare=false->∃ k:Nat,e.to=k/\k < N
 lab:∃ k:Nat,e.label=k/\k < L
 seen:∃ k:Nat,e.seen=k/\k < L
 wide:1<=e.wide/\e.wide<=64
 ck:0<=e.ck/\e.ck<=3
 cn:(e.ck=0->e.cn=0)/\(e.ck=1->1<=e.cn)/\(e.ck=2->0<=e.cn/\e.cn<=4096)/\(e.ck=3->e.cn=0)
structure yB (L N:Nat) (n:Nd):Prop where
 k1:1<=n.ai
 k8:n.ai<=8
 Vh:n.ai=2->n.lo<=n.hi
 lo0:n.ai≠2->n.lo=0/\n.hi=0
 Ro:n.ai=3->0<=n.most/\n.most<=4096
 Rp:n.ai=5->0<=n.most/\n.most<=1024
 Rq:n.ai≠3->n.ai≠5->n.most=0
 af:n.ai=4->n.af ≠ []/\n.af.length<=64/\n.af.Nodup/\∀ s∈n.af,aY s=true
 M1:n.ai≠4->n.af=[]
 leaf:n.ai < 5->n.aW=[]
 one:n.ai=5∨n.ai=6->∃ e,n.aW=[e]/\e.bare=false/\e.name=aJ
 many:n.ai=7∨n.ai=8->n.aW.length<=64/\(n.ai=8->n.aW ≠ [])/\(n.aW.map Ed.name).Nodup/\∀ e∈n.aW,aY e.name=true
 bare:∀ e∈n.aW,e.bare=true->n.ai=8
 Ab:∀ e∈n.aW,Vg L N e
theorem su {l:List Wd} (h:∀ j x,l[j]? = some x->az l j x=0):(ap l).Nodup/\∀ x∈l,aY x.s=true:=by
 have key:∀ e,e<=l.length->(ap (l.take e)).Nodup:=by
  intro e
  induction e with
  | zero=>intro _;simp [ap]
  | succ e ih=>
   intro he;obtain ⟨x,hx⟩:∃ x,l[e]? = some x:=⟨_,gE (by omega)⟩
   grind [jR]
 refine ⟨by have:=key l.length (zLeR _);rwa [List.take_length] at this,fun x hx=>?_⟩;obtain ⟨j,hj⟩:=List.mem_iff_getElem?.1 hx
 grind [az,aY]
theorem uH {all:List Wd}:∀ {l:List Wd} {i:Nat},(enumL all i l).1=0->∀ j x,l[j]? = some x->az all (i + j) x=0
 | [],i,_,j,x,hx=>by simp at hx
 | y :: r,i,h,j,x,hx=>by
  rw [enumL] at h;split at h
  ·rename_i h1;exact (h1 h).elim
  ·rename_i h1
   cases j with
   | zero=>grind
   | succ j=>
    simp only [List.getElem?_cons_succ] at hx;have:=uH h j x hx
    grind
theorem vZ {h:Hd} (he:fB h=(0,0)):h.af ≠ []/\h.af.length<=64/\(ap h.af).Nodup/\∀ x∈h.af,aY x.s=true:=by
 unfold fB at he;split at he
 ·cases he
 ·rename_i h1;split at he
  ·cases he
  ·rename_i h2;refine ⟨h1,by omega,?_⟩
   exact su fun j x hx=>by
    have:=uH (all:=h.af) (i:=0) (by rw [he]) j x hx
    rwa [Nat.zero_add] at this
theorem Ch {X:Lx} {L:List ByteArray}:∀ {ps:Pts},(knP X L ps).1=0->∀ {p:Ph} {u:Ty},(p,u)∈ps.toList->(X.bad p.label).1=0/\(X.bad p.cl).1=0
 | .nil,_,p,u,h=>by cases h
 | .cons q v r,hk,p,u,h=>by
  have hr:=(oE hk).2;rw [knP] at hk;split at hk
  ·rename_i h1;exact (h1 hk).elim
  rename_i h1;split at hk
  ·rename_i h2;exact (h2 hk).elim
  rename_i h2;rcases cY h with h | h
  ·grind
  ·exact Ch hr h
theorem lj {p q:Ph} (h:bQ p q=true):p.bare=q.bare/\p.wide=q.wide/\p.ck=q.ck/\p.cn=q.cn:=by grind [bQ]
theorem Hi {w:Int} (h:0<=w/\w<=64):1<=je w/\je w<=64:=by
 unfold je;split<;>omega
theorem AP {p:Ph} (h:(aN p).1=0):(0<=p.ck/\p.ck<=3)/\(p.ck=0->p.cn=0)/\(p.ck=1->1<=p.cn)/\(p.ck=2->0<=p.cn/\p.cn<=4096)/\(p.ck=3->p.cn=0):=by grind [aN]
theorem DQ {p:Ph} (h:(cT p).1=0):(0<=p.wide/\p.wide<=64)/\(aN p).1=0:=by grind [cT,bp]
theorem Hj {t:Ty} (h:t.h.ai≠9):1<=t.nn:=by
 obtain ⟨h',ps⟩:=t;have h:¬ h'.ai=9:=h;rw [Ty.nn,ah h];omega
theorem DR {S:Sch} {k:Nat} {x:Wd × Ty} (hx:S.types[k]? = some x):firstA S k + x.2.nn<=qf (ff S):=by
 have h1:=kD hx;rw [<- h1]
 have h2:firstA S (k + 1)=qf ((eP S).take (k + 1)):=by
  unfold firstA qf eP;rw [<- List.map_take,List.map_map];rfl
 grind [yv,eP,qf,ff,vY]
theorem sv {lev:List Wd->Int} {s:Sch} {n:Nd}:∀ {l:List Ty} {k i:Nat},(ndsA lev s l k)[i]? = some n->∃ t∈l,∃ u∈flatT t,n=JC lev s u (k + i)/\i + u.nn<=qf l
 | [],k,i,h=>by simp [ndsA] at h
 | t :: r,k,i,h=>by
  rw [ndsA] at h;rw [kH];have hl:=im lev s t k;by_cases hi:i < t.nn
  ·rw [dG (by omega),qd,List.getElem?_map,List.getElem?_zipIdx] at h
   cases hu:(flatT t)[i]? with
   | none=>rw [hu] at h;simp at h
   | some u=>
    rw [hu] at h;simp only [Option.map_some,oI] at h;have:=uE t i u hu;exact ⟨t,List.mem_cons_self,u,mG hu,by rw [<- h];simp,by omega⟩
  ·rw [List.getElem?_append_right (by omega),hl] at h;obtain ⟨t',h1,u,h2,h3,h4⟩:=sv h
   grind
theorem mc (S:Sch):(aF S).length=qf (ff S):=by rw [jk,jj]
theorem oP {S:Sch} (hF:uD S) {i:Nat} {n:Nd} (h:(aF S)[i]? = some n):yB S.ae.length (aF S).length n:=by
 rw [mc];rw [jk] at h;obtain ⟨t,ht,u,hu,rfl,mF⟩:=sv h;rw [Nat.zero_add];have DC:=ss t ⟨_,_,hF.wr t ht⟩ u hu;have hk:=sm t (hF.kn t ht) u hu;have UF:=yz t u hu;have hT:=AO DC;obtain ⟨Rr,_⟩:=jg hF.lat;have fh:=cz S.ae;have Cf:=hF.ends;obtain ⟨uh,us⟩:=u;simp only [Ty.h,Ty.ps] at hT UF;have MJ:=(kE hk).2;have eA:=hT.own;unfold rj at eA;simp only [bA,Bool.or_eq_true,decide_eq_true_eq] at eA;obtain ⟨⟨⟨⟨o1,o2⟩,o3⟩,o4⟩,o5⟩:=eA;have k1:=hT.k1;have k9:=hT.k9
 have Ew:∀ l:List Wd,(labW (ap S.ae) l).1=0->∃ k:Nat,fK S l=k/\k < S.ae.length:=by
  intro l hl;have:=DP (f:=dt S.ae.length (cr (ap S.ae) S.order)) (L:=ap S.ae) (by rw [fh];exact Rr) hl
  rwa [fh] at this
 have oD:∀ (p:Ph) (v:Ty) (k':Nat),(p,v)∈us.toList->(p.bare=false->k' + v.nn<=i + 1 + us.nn)->(p.bare=true->qa S p v k' = -1)/\(p.bare=false->∃ k:Nat,qa S p v k'=k/\k < qf (ff S)):=by
  intro p v k' hm fL;refine ⟨fun hb=>by simp [qa,hb],fun hb=>?_⟩;have hkv:=vX MJ hm hb;obtain ⟨vh,vs⟩:=v;by_cases h9:vh.ai=9
  ·obtain ⟨j,hj⟩:=Option.ne_none_iff_exists'.1 ((kE hkv).1 h9);have pz:=(cx hj).1;rw [iN] at pz;obtain ⟨k,hk⟩:=Cf j pz;have xd:=p8 hk;obtain ⟨x,hx⟩:∃ x,S.types[k]? = some x:=⟨_,gE xd.1⟩;have h1:=DR hx
   grind [Hj,firstA,qa,l8,Ty.h,NJ,namedN]
  ·grind [Hj,Ty.nn,qa,l8,Ty.h]
 have yd:∀ p v,(p,v)∈us.toList->(0<=p.wide/\p.wide<=64)/\(0<=p.ck/\p.ck<=3)/\((p.ck=0->p.cn=0)/\(p.ck=1->1<=p.cn)/\(p.ck=2->0<=p.cn/\p.cn<=4096)/\(p.ck=3->p.cn=0))/\(p.bare=true->uh.ai=8):=by
  intro p v hm;obtain ⟨j,hj⟩:=List.mem_iff_getElem?.1 hm
  have hlen:us.len≠0:=by
   cases us with
   | nil=>simp [Pts.toList] at hm
   | cons _ _ _=>simp [Pts.len]
  by_cases h5:uh.ai=5∨uh.ai=6
  ·obtain ⟨q,t',rfl,_,mj,_,_,_⟩:=hT.one h5;simp only [Pts.toList,List.mem_singleton,Prod.mk.injEq] at hm;obtain ⟨rfl,rfl⟩:=hm;obtain ⟨w1,w2,w3,w4⟩:=lj mj;have z1:dK.wide=0:=rfl;have z2:dK.ck=0:=rfl;have z3:dK.cn=0:=rfl;have z4:dK.bare=false:=rfl
   grind
  ·obtain ⟨_,hP⟩:=(hT.many (by omega)).2.2 j p v hj;rcases hP with ⟨hb,h8,_,mj⟩ | ⟨hb,hp,_⟩
   ·obtain ⟨w1,w2,w3,w4⟩:=lj mj;have z1:gv.wide=0:=rfl;have z2:gv.ck=0:=rfl;have z3:gv.cn=0:=rfl;omega
   ·obtain ⟨w1,w2⟩:=DQ hp;obtain ⟨w3,w4⟩:=AP w2
    grind
 have Rs:us.len=0->us = .nil:=fun h=>by
  cases us with
  | nil=>rfl
  | cons _ _ _=>simp [Pts.len] at h
 refine {
  k1:=k1
  k8:=by show uh.ai<=8;omega
  Vh:=hT.int
  lo0:=fun h2=>?_
  Ro:=hT.text
  Rp:=fun h5=>?_
  Rq:=fun h3 h5=>?_
  af:=fun h4=>?_
  M1:=fun h4=>?_
  leaf:=fun h5=>?_
  one:=fun h5=>?_
  many:=fun h7=>?_
  bare:=fun e he hb=>?_
  Ab:=fun e he=>?_ }
 ·show uh.lo=0/\uh.hi=0;exact o1.resolve_left h2
 ·obtain ⟨q,t',rfl,_,_,mv,iu,_⟩:=hT.one (.inl h5);exact ⟨mv,iu⟩
 ·show uh.most=0;exact o2.resolve_left (fun h=>h.elim h3 h5)
 ·obtain ⟨e1,e2,e3,e4⟩:=vZ (hT.enum h4);show ap uh.af ≠ []/\(ap uh.af).length<=64/\(ap uh.af).Nodup/\∀ s∈ap uh.af,aY s=true
  grind [ap,cz]
 ·show ap uh.af=[];have:=o4.resolve_right h4;have:uh.af=[]:=List.eq_nil_of_length_eq_zero this;rw [this];all_goals rfl
 ·show edsP (fK S) S us (i + 1)=[];have hk5:uh.ai < 5:=h5;rw [Rs (o3.resolve_right (by omega))];rfl
 ·show ∃ e,edsP (fK S) S us (i + 1)=[e]/\_;obtain ⟨q,t',rfl,hn,mj,_,_,_⟩:=hT.one h5;refine ⟨rW (fK S) q (qa S q t' (i + 1)),rfl,?_,hn⟩;exact (lj mj).1
 ·show (edsP (fK S) S us (i + 1)).length<=64/\(_->edsP (fK S) S us (i + 1) ≠ [])/\((edsP (fK S) S us (i + 1)).map Ed.name).Nodup/\∀ e∈edsP (fK S) S us (i + 1),aY e.name=true;obtain ⟨m1,m2,m3⟩:=hT.many h7;have gD:∀ j x,(pNames us)[j]? = some x->az (pNames us) j x=0:=by grind [eE,Pts.dp,eF]
  obtain ⟨n1,n2⟩:=su gD;refine ⟨by rw [nh];exact m1,fun h8 hn=>m2 h8 ?_,by rw [mb];exact n1,fun e he=>?_⟩
  ·grind [nh,fK]
  ·have:e.name∈ap (pNames us):=by rw [<- mb (lev:=fK S) (s:=S) (k:=i + 1)];exact List.mem_map_of_mem he
   grind [ap]
 ·obtain ⟨p,v,k',h1,rfl,_⟩:=ny he;exact (yd p v h1).2.2.2 hb
 ·obtain ⟨p,v,k',h1,rfl,h3⟩:=ny he;obtain ⟨h4,h5⟩:=oD p v k' h1 h3;obtain ⟨h6,h7,h8,_⟩:=yd p v h1;obtain ⟨h9,ti⟩:=Ch MJ h1;exact { to0:=h4,to1:=h5,lab:=Ew _ h9,seen:=Ew _ ti,wide:=Hi h6,ck:=h7,cn:=h8 }
theorem yC {lev:List Wd->Int} {s:Sch} {n:Nd}:∀ {l:List Ty} {k:Nat},n∈ndsA lev s l k->∃ t∈l,∃ u∈flatT t,∃ k',n=JC lev s u k'
 | [],_,h=>by cases h
 | t :: r,k,h=>by
  rw [ndsA] at h;rcases List.mem_append.1 h with h | h
  ·grind [qd]
  ·obtain ⟨t',ht,h⟩:=yC h;exact ⟨t',gy _ ht,h⟩
theorem oQ {S:Sch} {n:Nd} (h:n∈aF S) (hS:S.wt<=1099511627776):n.af.length<=1099511627776/\n.aW.length<=1099511627776:=by
 rw [jk] at h;obtain ⟨t,ht,u,hu,k,rfl⟩:=yC h;have h1:=vU hS t ht;have h2:=sq t u hu;obtain ⟨uh,us⟩:=u;have h3:=bf uh.af;have h4:=us.dX
 grind [Ty.wt,Hd.wt,JC,Ty.h,Ty.ps,cz,nh]
abbrev zNd:List DV:=[.v (.int .i64 0),.v (.int .i64 0),.v (.int .i64 0),.v (.int .i64 0),.v (.int .i64 0),.v (.slice none 0 0),.v (.slice none 0 0)]
structure j1 (S:Sch) (ND:List Nd) (PC:List DV):Prop where
 fine:uD S
 wt:S.wt<=1099511627776
 ur:ND=aF S
 ok:∀ n∈ND,yB S.ae.length ND.length n
 nl:ND.length<=1099511627776
 len:aV prog 22 [.pt PC 0] (.v (.int .i64 ND.length))
 root:aV prog 23 [.pt PC 0] (.v (.int .i64 (gI S)))
 ag:∀ (i:Nat) n,ND[i]? = some n->aV prog 38 [.pt PC 0,.v (.int .i64 i)] (.bW [.agg (wz n),.v (.bool true)])
 Rt:∀ i:Int,(i < 0∨ND.length<=i)->aV prog 38 [.pt PC 0,.v (.int .i64 i)] (.bW [.agg zNd,.v (.bool false)])
 lat:∃ aA js,(de S aA js).OK/\aV prog 45 [.pt PC 0] (de S aA js).pd
theorem Hk {S:Sch} {d:DV} (hS:S.wt<=1099511627776) (h0:(fc S).1=0) (hd:GV S d):∃ PC,d = .pt PC 0/\j1 S (aF S) PC:=by
 obtain ⟨aA,iO,js,hX,hT,jr,rfl⟩:=hd;have hF:=sr h0;have cQ:=fun n (h:n∈aF S)=>oQ h hS
 refine ⟨_,rfl,{
  fine:=hF
  wt:=hS
  ur:=rfl
  ok:=fun n hn=>?_
  nl:=by rw [mc];exact Nat.le_trans (AM S) hS
  len:=oG _ _ _ _ _ _
  root:=Av _ _ _ _ _ _
  ag:=fun i n h=>Aw _ _ _ _ _ _ i n h (cQ n (mG h)).1 (cQ n (mG h)).2
  Rt:=fun i h=>Ax _ _ _ _ _ _ i h
  lat:=⟨aA,js,hX,DD _ _ _ _ _ _⟩ }⟩
 obtain ⟨i,hi⟩:=List.mem_iff_getElem?.1 hn;exact oP hF hi
def Hl (S:Sch) (r:DV):Prop:=((fc S).1≠0/\r = .bW [.v (.pointer none),(fc S).d])∨((fc S).1=0/\∃ PC,j1 S (aF S) PC/\r = .bW [.pt PC 0,Ft.d (0,0)])
theorem DS {S:Sch} (hS:S.wt<=1099511627776) {r:DV} {os:List (List DV)} {tk:List TkE} (h:Ar S r os tk):Hl S r:=by
 unfold Ar at h;by_cases h0:(fc S).1=0
 ·rw [ah (by rw [h0];simp)] at h;obtain ⟨d,hd,rfl⟩:=h;obtain ⟨PC,rfl,hP⟩:=Hk hS h0 hd;exact .inr ⟨h0,PC,hP,rfl⟩
 ·rw [zIfP h0] at h;exact .inl ⟨h0,h⟩
inductive Val where
 | mk (k n:Int) (s:ByteArray) (ks:List Val)
def Val.k:Val->Int | .mk k _ _ _=>k
def Val.n:Val->Int | .mk _ n _ _=>n
def Val.s:Val->ByteArray | .mk _ _ s _=>s
def Val.ks:Val->List Val | .mk _ _ _ ks=>ks
mutual
def Val.wt:Val->Nat
 | .mk _ _ s ks=>64 + s.size + Ru ks
def Ru:List Val->Nat
 | []=>0
 | v :: r=>v.wt + Ru r
end
def to0 (n:Nd):Int:=match n.aW[0]? with | some e=>e.to | none=>0
structure Ef where
 k:Int
 n:Int
 s:ByteArray
def Hm (f:Nat->Nat->Bool) (n:Nat) (a b:Int):Bool:=decide (0<=a) && decide (a < n) && decide (0<=b) && decide (b < n) && f a.toNat b.toNat
def Vi (f:Nat->Nat->Bool) (n a b:Nat):Nat:=(dF f n a b).getD 0
def M3 (f:Nat->Nat->Bool) (n:Nat):Nat:=(dZ f n []).getD 0
theorem Hn {f:Nat->Nat->Bool} {n a b:Nat} (ha:a < n) (hb:b < n):Hm f n a b=f a b:=by simp [Hm,ha,hb]
theorem Ho {f:Nat->Nat->Bool} {n a b:Nat} (h:il f n) (ha:a < n) (hb:b < n):dF f n a b=some (Vi f n a b):=by
 obtain ⟨k,hk⟩:=h.jn a b ha hb;simp [Vi,hk]
theorem DT {f:Nat->Nat->Bool} {n:Nat} (h:il f n):dZ f n []=some (M3 f n):=by
 obtain ⟨c,hc⟩:=po h [] (fun _ h=>by cases h);simp [M3,hc]
section
variable (af:List ByteArray) (tc:List DV) (rows:List Nat) (js:List Int)
theorem DU (hr:dc rows) (hl:rows.length=af.length) (a b:Int) :
  aV prog 186 [.pt (fJ af tc rows js) 0,.v (.int .i64 a),.v (.int .i64 b)] (.v (.bool (hasB rows a b))):=by
 have h1:=ui af tc rows js;have h2:=iY rows hr a b;have hB:hasB rows a b=(decide (0<=a) && decide (a < af.length) && decide (0<=b) && decide (b < af.length) && aK rows a.toNat b.toNat):=by rw [<- hl];all_goals rfl
 generalize hasB rows a b=h at h2 hB ⊢;refine eG 24 [.tmp 6] func186 rfl ntmps186 rfl fun _ _ _ _=>?_;refine cP tH (h1 a) ?_;refine br ?_ ?_<;>intro g
 ·refine cP tH (h1 b) ?_;refine br ?_ ?_<;>intro g2
  ·refine cP xx h2 ?_;exact (rfl:_=_)
  ·refine (cg ?_:);rw [hB];simp only [Bool.and_assoc] at g g2 ⊢;cases hx:decide (0<=b)<;>cases hy:decide (b < af.length)<;>simp_all [pickB]
 ·refine (cg ?_:);rw [hB];cases hx:decide (0<=a)<;>cases hy:decide (a < af.length)<;>simp_all [pickB]
end
structure Rw (n:Nat) (f:Nat->Nat->Bool) (af:List ByteArray) (LC:List DV):Prop where
 ok:il f n
 n32:n<=32
 nl:af.length=n
 len:aV prog 110 [.pt LC 0] (.v (.int .i64 n))
 leq:∀ a b:Int,aV prog 186 [.pt LC 0,.v (.int .i64 a),.v (.int .i64 b)] (.v (.bool (Hm f n a b)))
 join:∀ a b:Nat,a < n->b < n->aV prog 217 [.pt LC 0,.v (.int .i64 a),.v (.int .i64 b)] (.v (.int .i64 (Vi f n a b:Nat)))
 bot:aV prog 46 [.pt LC 0] (.v (.int .i64 (M3 f n:Nat)))
abbrev jU (S:Sch):Nat->Nat->Bool:=dt S.ae.length (cr (ap S.ae) S.order)
theorem j1.Vj {S:Sch} {ND:List Nd} {PC:List DV} (hP:j1 S ND PC):∃ LC,aV prog 45 [.pt PC 0] (.pt LC 0)/\Rw S.ae.length (jU S) (ap S.ae) LC:=by
 obtain ⟨aA,js,hX,hl⟩:=hP.lat;have fh:=cz S.ae;have BU:=(hP.fine).lat;obtain ⟨hL,Jp⟩:=jg BU;have hpr:∀ p∈cr (ap S.ae) S.order,p.1 < S.ae.length/\p.2 < S.ae.length:=by have:=lf (l9 BU).2.2.1;rwa [cz] at this
 have ir:(de S aA js).rows.length=S.ae.length:=by
  show (closeR (dM S.ae.length (cr (ap S.ae) S.order)) S.ae.length).length=_;rw [dN,ig]
 have hr:dc (de S aA js).rows:=iZ (vA (by omega) _ hpr) _ (by omega)
 refine ⟨_,hl,{
  ok:=hL,n32:=Jp,nl:=fh
  len:=?_
  leq:=fun a b=>?_
  join:=fun a b ha hb=>?_
  bot:=?_
  }⟩
 ·have:=ox (de S aA js).af (cd (de S aA js).af (de S aA js).aA) (de S aA js).rows (de S aA js).js
  rwa [show (de S aA js).af.length=S.ae.length from fh] at this
 ·have:=DU (de S aA js).af (cd (de S aA js).af (de S aA js).aA) (de S aA js).rows (de S aA js).js hr (by rw [ir];exact fh.symm) a b
  have he:hasB (de S aA js).rows a b=Hm (jU S) S.ae.length a b:=by
   unfold hasB Hm;rw [ir];all_goals rfl
  rwa [he] at this
 ·have hz:=(hX.hj a b (by rw [show (de S aA js).af.length=S.ae.length from fh];exact ha) (by rw [show (de S aA js).af.length=S.ae.length from fh];exact hb)).1;rw [show (de S aA js).af.length=S.ae.length from fh,show (de S aA js).f=jU S from rfl,Ho hL ha hb] at hz;exact rP (de S aA js).af (cd (de S aA js).af (de S aA js).aA) (de S aA js).rows (de S aA js).js a b _ (by rw [show (de S aA js).af.length=S.ae.length from fh];exact ha) (by rw [show (de S aA js).af.length=S.ae.length from fh];exact hb) hX.hn hz
 ·have:=nf (de S aA js).af (cd (de S aA js).af (de S aA js).aA) (de S aA js).rows (de S aA js).js hX.hL hX.hn hX.hj
  rwa [show (de S aA js).af.length=S.ae.length from fh,show (de S aA js).f=jU S from rfl,DT hL] at this
theorem uI {L:Nat} {ND:List Nd} {d:Nd} (hN:yB L ND.length d) {e:Ed} (he:e∈d.aW):(e.bare=false->e.to=(e.to.toNat:Nat)/\e.to.toNat < ND.length)/\(e.label=(e.label.toNat:Nat)/\e.label.toNat < L)/\(e.seen=(e.seen.toNat:Nat)/\e.seen.toNat < L):=by
 have hE:=hN.Ab e he;refine ⟨fun hb=>?_,?_,?_⟩
 ·obtain ⟨k,h1,h2⟩:=hE.to1 hb;rw [h1];exact ⟨by simp,by simpa using h2⟩
 ·obtain ⟨k,h1,h2⟩:=hE.lab;rw [h1];exact ⟨by simp,by simpa using h2⟩
 ·obtain ⟨k,h1,h2⟩:=hE.seen;rw [h1];exact ⟨by simp,by simpa using h2⟩
section
variable (ND:List Nd) (f:Nat->Nat->Bool) (n obs dep:Nat)
end
theorem JF (s:ByteArray) (n:Nat) (h:s.size<=1099511627776):tx (s.extract n (s.size:Int).toNat)=(tx s).drop n:=by
 simp [tx,sE];exact List.take_of_length_le (by rw [List.length_drop];have:=Mf s;unfold tx at this;omega)
theorem Hp (s:ByteArray) (hs:s.size<=1099511627776) (i:Nat) (hi:i < s.size) (c:UInt8) (hc:s.data.toList[i]? = some c) (hd:kv c=true) (hz:c.toNat=48->digN (s.data.toList.drop i)=1) (hv:eI ((s.data.toList.drop i).take (digN (s.data.toList.drop i)))<=9223372036854775807) :
  aV prog 291 [.v (.string s),.v (.int .i64 i)] (.bW [.v (.int .i64 (eI ((s.data.toList.drop i).take (digN (s.data.toList.drop i))):Nat)),.v (.int .i64 ((i + digN (s.data.toList.drop i):Nat):Int)),Ft.d (0,0)]):=by
 obtain ⟨c',Sn,hb⟩:=gN hi
 have pU:c'=c:=by
  have:=congrArg List.head? Sn;rw [List.head?_drop,List.head?_cons,hc] at this;exact (Option.some.inj this).symm
 subst pU;have hbi:bq s (i:Int).toNat=c'.toNat:=hb
 have h1:1<=digN (s.data.toList.drop i):=by
  rw [Sn,digN,zIfP hd];omega
 have h2:=BR (s.data.toList.drop i);rw [List.length_drop] at h2;have nT:s.data.toList.length=s.size:=by simp
 unfold kv at hd;simp only [bA,decide_eq_true_eq] at hd;have hx:(s.extract i (s.size:Int).toNat).data.toList=s.data.toList.drop i:=JF s i hs
 have bO:=Dd (s.extract i (s.size:Int).toNat) (by
  have:=congrArg List.length hx;rw [List.length_drop] at this;have h3:(s.extract i (s.size:Int).toNat).data.toList.length=(s.extract i (s.size:Int).toNat).size:=by simp
  omega)
 rw [hx] at bO;have gD:=xT (s.data.toList.drop i);generalize hK:digN (s.data.toList.drop i)=k at *
 have hy:(s.extract i (i + k)).data.toList=(s.data.toList.drop i).take k:=by
  have h3:i + k<=s.size:=by omega
  simp
  all_goals omega
 have hval:=De (s.extract i (i + k)) (by
  have:=congrArg List.length hy;rw [eQ,List.length_drop] at this;have h3:(s.extract i (i + k)).data.toList.length=(s.extract i (i + k)).size:=by rw [Array.length_toList,ByteArray.size_data]
  omega) false (by rw [hy];exact gD)
 rw [hy] at hval;generalize (s.data.toList.drop i).take k=L at hval hv ⊢
 have hR:pH L false=(((eI L:Nat):Int),true):=by
  unfold pH;rw [ah (by decide),zIfP hv]
 rw [hR] at hval;generalize eI L=V at hval hv ⊢;clear hR gD hx hy
 have hw:IntKind.i64.wrap ((i:Int) + k)=((i + k:Nat):Int):=by
  rw [wrap64 (by omega) (by omega)];omega
 rw [<- hw];refine eG 88 [.tmp 4,.tmp 5,.cell 6 26] func291 rfl ntmps291 rfl fun _ _ _ _=>?_;refine br (fun g=>?_) (fun _=>?_)
 ·exfalso;simp [aj] at g;omega
 refine br (fun _=>?_) (fun g=>absurd (show (i:Int) < s.size by omega) (sU g));refine ⟨⟨by omega,by omega⟩,?_⟩;have W0:¬ ((bq s (i:Int).toNat:Nat):Int)=45:=by omega
 refine br (fun g=>?_) (fun _=>?_)
 ·exfalso;exact W0 (by simpa [pickB] using g)
 refine ⟨⟨by omega,by omega,by omega⟩,?_⟩;refine cP PH bO ?_;refine br (fun g=>?_) (fun _=>?_)
 ·exfalso;have g:((k:Nat):Int)=0/\(i:Int)=s.size:=by simpa [av] using g
  omega
 refine br (fun g=>?_) (fun _=>?_)
 ·exfalso;have g:((k:Nat):Int)=0:=of_decide_eq_true g;omega
 refine ⟨⟨by omega,by omega⟩,?_⟩;refine br (fun g=>?_) (fun _=>?_)
 ·exfalso;simp [av,aj] at g;have h48:bq s i=48:=by omega
  have:=hz (by omega);omega
 have hval:aV prog 335 [.v (.string (s.extract (i:Int).toNat (IntKind.i64.wrap ((i:Int) + k)).toNat)),.v (.bool (decide (((bq s (i:Int).toNat:Nat):Int)=45)))] (.bW [.v (.int .i64 V),.v (.bool true)]):=by
  rw [hw,decide_eq_false W0];exact hval
 refine ⟨⟨by omega,by omega,by omega⟩,?_⟩;refine cP PI hval ?_;exact ⟨_,ax,rfl⟩
abbrev mf (r:DV) (c:aU) (r':DV) (os:List (List DV)) (tk:List TkE):Prop:=r'=r/\os=[bh c]/\tk=[]
theorem aR.get {c:aU} (h:aR c) (h0:c.f.1=0):(fX c.l)[c.p]? = some (rr c.cy):=by
 obtain ⟨t,h1,h2⟩:=h.cy h0;rw [h2];exact C9 h1
theorem dT (c:aU) (h:aR c):Ev prog 139 [.loc 0 0] [bh c] [] (mf (.agg (rr c.cy)) c):=by
 have hg:=h.get;have DJ:c.f.1≠0->c.cy=j4 c.f.2:=fun h=>by rw [aU.cy,ah h]
 have aq:c.p < (fX c.l).length:=by rw [fF];exact h.lt
 generalize c.cy=t at hg DJ ⊢;obtain ⟨l,p,d,f1,f2⟩:=c;obtain ⟨k,a,e,s,n⟩:=t;simp only at hg DJ aq;refine eG 35 [.cell 2 218] func139 rfl ntmps139 rfl fun _ _ _ _=>?_;refine br ?_ ?_<;>intro g
 ·have g:¬ f1=0:=sU g;obtain ⟨rfl,rfl,rfl,rfl,rfl⟩:=og.mk.inj (DJ g);refine dS ?_;exact ⟨.agg _,[bh _],aO,aO,rfl,rfl,rfl⟩
 ·have g:f1=0:=sU g;refine dS ?_;refine iX (hg g) ?_;exact ⟨.agg _,[bh _],aO,aO,rfl,rfl,rfl⟩
theorem mg (c:aU):Ev prog 138 [.loc 0 0] [bh c] [] (mf c.f.d c):=by
 obtain ⟨l,p,d,f1,f2⟩:=c;refine eG 10 [.cell 2 26] func138 rfl ntmps138 rfl fun _ _ _ _=>?_;exact ⟨.agg _,[bh _],aO,aO,rfl,rfl,rfl⟩
theorem uJ (c:aU) (h:aR c):Ev prog 284 [.loc 0 0] [bh c] [] (mf (.bW []) c.step):=by
 have hp:=dT c h;have hs:c.step=if c.cy.k=0 then c else { c with p:=c.p + 1 }:=rfl
 have hb:c.p < 1099511627776:=Nat.lt_of_lt_of_le h.lt h.len;generalize c.step=C at hs ⊢;generalize c.cy=t at hp hs;obtain ⟨l,p,d,f1,f2⟩:=c;obtain ⟨k,a,e,s,n⟩:=t;simp only at hb hs;refine eG 13 [] func284 rfl ntmps284 rfl fun _ _ _ _=>?_;refine ay 1 0 mQ rfl rfl rfl aO aO hp (fun r os' tk' hΦ _ _=>?_);obtain ⟨rfl,rfl,rfl⟩:=hΦ;refine br ?_ ?_<;>intro g
 ·have g:¬ k=0:=sU g;rw [ah g] at hs;rw [hs]
  have hw:IntKind.i64.wrap ((p:Int) + 1)=((p + 1:Nat):Int):=by
   rw [wrap64 (by omega) (by omega)];omega
  have hX:=congrArg (fun z=>DV.v (Value.int .i64 z)) hw;exact ⟨.bW [],[bh _],(by repeat' (first | exact rfl | exact trivial | exact Or.inr (Or.inl ⟨_,rfl⟩) | exact Or.inr ⟨_,rfl⟩ | exact Or.inl ⟨rfl,rfl⟩ | exact Or.inl rfl | refine Or.inr ⟨_,_,rfl,Nat.zero_le _,rfl,?_⟩ | refine ⟨_,_,rfl,?_,?_⟩ | refine ⟨_,rfl,?_⟩ | exact hX | exact ⟨nL rfl,rfl⟩ | refine Or.inr (Or.inr (Or.inr ⟨_,_,rfl,?_⟩)) | exact Or.inl rfl | refine Or.inr ?_)),(by repeat' (first | exact rfl | exact trivial | exact Or.inr (Or.inl ⟨_,rfl⟩) | exact Or.inr ⟨_,rfl⟩ | exact Or.inl ⟨rfl,rfl⟩ | exact Or.inl rfl | refine Or.inr ⟨_,_,rfl,Nat.zero_le _,rfl,?_⟩ | refine ⟨_,_,rfl,?_,?_⟩ | refine ⟨_,rfl,?_⟩ | exact hX | exact ⟨nL rfl,rfl⟩ | refine Or.inr (Or.inr (Or.inr ⟨_,_,rfl,?_⟩)) | exact Or.inl rfl | refine Or.inr ?_)),rfl,rfl,rfl⟩
 ·have g:k=0:=sU g;rw [zIfP g] at hs;rw [hs];exact ⟨.bW [],[bh _],aO,aO,rfl,rfl,rfl⟩
theorem Ci (c:aU) (h:aR c) (k:Int) (s:ByteArray):Ev prog 247 [.loc 0 0,.v (.int .i64 k),.v (.string s)] [bh c] [] (mf (.v (.bool (c.is k s))) (c.Er k s)):=by
 have hp:=dT c h;have hs:=uJ c h;have hI:c.is k s=(decide (c.cy.k=k) && decide (c.cy.s=s)):=rfl;have hC:c.Er k s=if c.is k s then c.step else c:=rfl
 generalize c.Er k s=C2 at hC ⊢;generalize c.is k s=B at hI hC ⊢;generalize c.step=C1 at hs hC;generalize c.cy=t at hp hI;obtain ⟨tk,ta,te,ts,tn⟩:=t;obtain ⟨l,p,d,f1,f2⟩:=c;obtain ⟨l1,p1,d1,f11,f21⟩:=C1;simp only at hI;refine eG 22 [.tmp 6] func247 rfl ntmps247 rfl fun _ _ _ _=>?_;refine ay 1 0 mQ rfl rfl rfl aO aO hp (fun r os' tk' hΦ _ _=>?_);obtain ⟨rfl,rfl,rfl⟩:=hΦ;refine br ?_ ?_<;>intro g
 ·have hB:B=false:=by
   rw [hI];have g:¬tk=k∨¬ts=s:=by simpa [aj] using g
   rcases g with g | g<;>simp [g]
  subst hB;rw [ah (by simp)] at hC;rw [hC];exact ⟨.v (.bool false),[bh _],aO,aO,rfl,rfl,rfl⟩
 ·have hB:B=true:=by rw [hI];simpa [aj] using g
  subst hB;rw [zIfP rfl] at hC;rw [hC];refine ay 1 0 Kv rfl rfl rfl aO aO hs (fun r os' tk' hΦ _ _=>?_);obtain ⟨rfl,rfl,rfl⟩:=hΦ;exact ⟨.v (.bool true),[bh _],aO,aO,rfl,rfl,rfl⟩
theorem uK (c:aU) (h:aR c) (s:ByteArray):Ev prog 220 [.loc 0 0,.v (.string s)] [bh c] [] (mf (.v (.bool (c.is 4 s))) (c.Er 4 s)):=by
 have hs:=Ci c h 4 s;generalize c.Er 4 s=C2 at hs ⊢;generalize c.is 4 s=B at hs ⊢;obtain ⟨l,p,d,f1,f2⟩:=c;obtain ⟨l1,p1,d1,f11,f21⟩:=C2;refine eG 8 [.tmp 4] func220 rfl ntmps220 rfl fun _ _ _ _=>?_;refine ay 1 0 Kr rfl rfl rfl aO aO hs (fun r os' tk' hΦ _ _=>?_);obtain ⟨rfl,rfl,rfl⟩:=hΦ;exact ⟨.v (.bool B),[bh _],aO,aO,rfl,rfl,rfl⟩
theorem oR (c:aU) (h:aR c) (s:ByteArray):Ev prog 163 [.loc 0 0,.v (.string s)] [bh c] [] (mf (.v (.bool (c.is 1 s))) (c.Er 1 s)):=by
 have hs:=Ci c h 1 s;generalize c.Er 1 s=C2 at hs ⊢;generalize c.is 1 s=B at hs ⊢;obtain ⟨l,p,d,f1,f2⟩:=c;obtain ⟨l1,p1,d1,f11,f21⟩:=C2;refine eG 8 [.tmp 4] func163 rfl ntmps163 rfl fun _ _ _ _=>?_;refine ay 1 0 Kr rfl rfl rfl aO aO hs (fun r os' tk' hΦ _ _=>?_);obtain ⟨rfl,rfl,rfl⟩:=hΦ;exact ⟨.v (.bool B),[bh _],aO,aO,rfl,rfl,rfl⟩
theorem sw (c:aU) (h:aR c) (k:Int):Ev prog 246 [.loc 0 0,.v (.int .i64 k)] [bh c] [] (mf (.bW [.agg (rr (c.Et k)),.v (.bool (c.tk k))]) (c.KH k)):=by
 have hp:=dT c h;have hs:=uJ c h;have hI:c.tk k=(!decide (c.cy.k=0) && decide (c.cy.k=k)):=rfl;have hT:c.Et k=if c.tk k then c.cy else ⟨0,0,0,aJ,0⟩:=rfl
 have hC:c.KH k=if c.tk k then c.step else c:=rfl
 generalize c.KH k=C2 at hC ⊢;generalize c.Et k=T2 at hT ⊢;generalize c.tk k=B at hI hC hT ⊢;generalize c.step=C1 at hs hC;generalize c.cy=t at hp hI hT;obtain ⟨tk,ta,te,ts,tn⟩:=t;obtain ⟨l,p,d,f1,f2⟩:=c;obtain ⟨l1,p1,d1,f11,f21⟩:=C1;simp only at hI;refine eG 22 [.cell 4 218,.tmp 5] func246 rfl ntmps246 rfl fun _ _ _ _=>?_;refine ay 1 0 mQ rfl rfl rfl aO aO hp (fun r os' tk' hΦ _ _=>?_);obtain ⟨rfl,rfl,rfl⟩:=hΦ;refine br ?_ ?_<;>intro g
 ·have hB:B=false:=by
   rw [hI];have g:tk=0∨¬tk=k:=by simpa [aj] using g
   rcases g with g | g<;>simp [g]
  subst hB;rw [ah (by simp)] at hC hT;rw [hC,hT];exact ⟨.bW [.agg (rr ⟨0,0,0,aJ,0⟩),.v (.bool false)],[bh _],aO,aO,rfl,rfl,rfl⟩
 ·have hB:B=true:=by rw [hI];simpa [aj] using g
  subst hB;rw [zIfP rfl] at hC hT;rw [hC,hT];refine ay 1 0 Kv rfl rfl rfl aO aO hs (fun r os' tk' hΦ _ _=>?_);obtain ⟨rfl,rfl,rfl⟩:=hΦ;exact ⟨.bW [.agg (rr _),.v (.bool true)],[bh _],aO,aO,rfl,rfl,rfl⟩
theorem yD (c:aU) (e a:Int):Ev prog 250 [.loc 0 0,.v (.int .i64 e),.v (.int .i64 a)] [bh c] [] (mf (.bW []) (c.gA e a)):=by
 have hC:c.gA e a=if c.f.1=0/\e≠0 then { c with f:=(e,a) } else c:=rfl
 generalize c.gA e a=C2 at hC ⊢;obtain ⟨l,p,d,f1,f2⟩:=c;simp only at hC;refine eG 26 [] func250 rfl ntmps250 rfl fun _ _ _ _=>?_;refine br ?_ ?_<;>intro g
 ·have g:f1=0/\e≠0:=by simpa [av] using g
  rw [zIfP g] at hC;rw [hC];exact ⟨.bW [],[bh _],aO,aO,rfl,rfl,rfl⟩
 ·have g:¬ (f1=0/\e≠0):=by simpa [av] using g
  rw [ah g] at hC;rw [hC];exact ⟨.bW [],[bh _],aO,aO,rfl,rfl,rfl⟩
theorem jl (c:aU) (h:aR c) (e:Int):Ev prog 168 [.loc 0 0,.v (.int .i64 e)] [bh c] [] (mf (.bW []) (c.fail e)):=by
 have hp:=dT c h;have hs:=yD c e c.cy.a;have hC:c.fail e=c.gA e c.cy.a:=rfl;rw [hC];generalize c.gA e c.cy.a=C2 at hs ⊢;generalize c.cy=t at hp hs;obtain ⟨tk,ta,te,ts,tn⟩:=t;obtain ⟨l,p,d,f1,f2⟩:=c;obtain ⟨l1,p1,d1,f11,f21⟩:=C2;simp only at hs;refine eG 10 [] func168 rfl ntmps168 rfl fun _ _ _ _=>?_;refine ay 1 0 mQ rfl rfl rfl aO aO hp (fun r os' tk' hΦ _ _=>?_);obtain ⟨rfl,rfl,rfl⟩:=hΦ;refine ay 1 0 Pv rfl rfl rfl aO aO hs (fun r os' tk' hΦ _ _=>?_);obtain ⟨rfl,rfl,rfl⟩:=hΦ;exact ⟨.bW [],[bh _],aO,aO,rfl,rfl,rfl⟩
theorem uL (c:aU) (h:aR c) (s:ByteArray):Ev prog 159 [.loc 0 0,.v (.string s)] [bh c] [] (mf (.v (.bool (c.is 4 s))) (c.gH s)):=by
 have hm:=uK c h s;have hp:=dT c h;have h5:=jl c h 5;have h4:=jl c h 4;have hC:c.gH s=if c.is 4 s then c.step else c.fail (if c.cy.k=0 then 5 else 4):=rfl
 have hM:c.Er 4 s=if c.is 4 s then c.step else c:=rfl
 rw [hM] at hm;generalize c.gH s=C2 at hC ⊢;generalize c.is 4 s=B at hC hm ⊢;generalize c.step=C1 at hm hC;generalize c.cy=t at hp hC;obtain ⟨tk,ta,te,ts,tn⟩:=t;simp only at hC
 cases B with
 | true=>
  rw [zIfP rfl] at hC hm;rw [hC];obtain ⟨l,p,d,f1,f2⟩:=c;obtain ⟨l1,p1,d1,f11,f21⟩:=C1;refine eG 16 [.tmp 4] func159 rfl ntmps159 rfl fun _ _ _ _=>?_;refine ay 1 0 FD rfl rfl rfl aO aO hm (fun r os' tk' hΦ _ _=>?_);obtain ⟨rfl,rfl,rfl⟩:=hΦ;exact ⟨.v (.bool true),[bh _],aO,aO,rfl,rfl,rfl⟩
 | false=>
  rw [ah (by simp)] at hC hm;rw [hC];have e5:tk=0->c.fail (if tk=0 then 5 else 4)=c.fail 5:=fun g=>by rw [zIfP g]
  have e4:¬ tk=0->c.fail (if tk=0 then 5 else 4)=c.fail 4:=fun g=>by rw [ah g]
  generalize c.fail (if tk=0 then 5 else 4)=CX at e5 e4 ⊢;generalize c.fail 5=C5 at h5 e5;generalize c.fail 4=C4 at h4 e4;obtain ⟨l,p,d,f1,f2⟩:=c;obtain ⟨l5,p5,d5,f15,f25⟩:=C5;obtain ⟨l4,p4,d4,f14,f24⟩:=C4;refine eG 16 [.tmp 4] func159 rfl ntmps159 rfl fun _ _ _ _=>?_;refine ay 1 0 FD rfl rfl rfl aO aO hm (fun r os' tk' hΦ _ _=>?_);obtain ⟨rfl,rfl,rfl⟩:=hΦ;refine ay 1 0 mQ rfl rfl rfl aO aO hp (fun r os' tk' hΦ _ _=>?_);obtain ⟨rfl,rfl,rfl⟩:=hΦ;refine br ?_ ?_<;>intro g
  ·have g:tk=0:=sU g;rw [e5 g];refine ay 1 0 xu rfl rfl rfl aO aO h5 (fun r os' tk' hΦ _ _=>?_);obtain ⟨rfl,rfl,rfl⟩:=hΦ;exact ⟨.v (.bool false),[bh _],aO,aO,rfl,rfl,rfl⟩
  ·have g:¬ tk=0:=sU g;rw [e4 g];refine ay 1 0 xu rfl rfl rfl aO aO h4 (fun r os' tk' hΦ _ _=>?_);obtain ⟨rfl,rfl,rfl⟩:=hΦ;exact ⟨.v (.bool false),[bh _],aO,aO,rfl,rfl,rfl⟩
theorem AQ (c:aU) (h:aR c):Ev prog 248 [.loc 0 0] [bh c] [] (mf (.v (.bool c.enter)) c.ru):=by
 have hf:=jl c h 6;have hI:c.enter = !decide (c.d=24):=rfl;have hC:c.ru=if c.d=24 then c.fail 6 else { c with d:=c.d + 1 }:=rfl
 have hd:=h.dl;generalize c.ru=C2 at hC ⊢;generalize c.enter=B at hI ⊢;generalize c.fail 6=C6 at hf hC;obtain ⟨l,p,d,f1,f2⟩:=c;obtain ⟨l1,p1,d1,f11,f21⟩:=C6;simp only at hI hC hd;refine eG 21 [.tmp 2] func248 rfl ntmps248 rfl fun _ _ _ _=>?_;refine br ?_ ?_<;>intro g
 ·have g:(d:Int)=24:=of_decide_eq_true g;have g:d=24:=by omega
  rw [zIfP g] at hC;rw [hC,hI,decide_eq_true g];refine ay 1 0 xu rfl rfl rfl aO aO hf (fun r os' tk' hΦ _ _=>?_);obtain ⟨rfl,rfl,rfl⟩:=hΦ;exact ⟨.v (.bool false),[bh _],aO,aO,rfl,rfl,rfl⟩
 ·have g:¬ (d:Int)=24:=of_decide_eq_false g;have g:¬ d=24:=by omega
  rw [decide_eq_false g] at hI;rw [ah g] at hC;rw [hC,hI]
  have hw:IntKind.i64.wrap ((d:Int) + 1)=((d + 1:Nat):Int):=by
   rw [wrap64 (by omega) (by omega)];omega
  have hX:=congrArg (fun z=>DV.v (Value.int .i64 z)) hw;exact ⟨.v (.bool true),[bh _],(by repeat' (first | exact rfl | exact trivial | exact Or.inr (Or.inl ⟨_,rfl⟩) | exact Or.inr ⟨_,rfl⟩ | exact Or.inl ⟨rfl,rfl⟩ | exact Or.inl rfl | refine Or.inr ⟨_,_,rfl,Nat.zero_le _,rfl,?_⟩ | refine ⟨_,_,rfl,?_,?_⟩ | refine ⟨_,rfl,?_⟩ | exact hX | exact ⟨nL rfl,rfl⟩ | refine Or.inr (Or.inr (Or.inr ⟨_,_,rfl,?_⟩)) | exact Or.inl rfl | refine Or.inr ?_)),(by repeat' (first | exact rfl | exact trivial | exact Or.inr (Or.inl ⟨_,rfl⟩) | exact Or.inr ⟨_,rfl⟩ | exact Or.inl ⟨rfl,rfl⟩ | exact Or.inl rfl | refine Or.inr ⟨_,_,rfl,Nat.zero_le _,rfl,?_⟩ | refine ⟨_,_,rfl,?_,?_⟩ | refine ⟨_,rfl,?_⟩ | exact hX | exact ⟨nL rfl,rfl⟩ | refine Or.inr (Or.inr (Or.inr ⟨_,_,rfl,?_⟩)) | exact Or.inl rfl | refine Or.inr ?_)),rfl,rfl,rfl⟩
theorem AR (c:aU) (h:aR c):Ev prog 225 [.loc 0 0] [bh c] [] (mf (.bW []) c.leave):=by
 have hC:c.leave={ c with d:=c.d - 1 }:=rfl;have hd:=h.dl;generalize c.leave=C2 at hC ⊢;obtain ⟨l,p,d,f1,f2⟩:=c;simp only at hC hd;refine eG 13 [] func225 rfl ntmps225 rfl fun _ _ _ _=>?_;rw [hC]
 have hw:max (IntKind.i64.wrap ((d:Int) - 1)) 0=((d - 1:Nat):Int):=by
  rw [wrap64 (by omega) (by omega)];omega
 have hX:=congrArg (fun z=>DV.v (Value.int .i64 z)) hw;exact ⟨.bW [],[bh _],(by repeat' (first | exact rfl | exact trivial | exact Or.inr (Or.inl ⟨_,rfl⟩) | exact Or.inr ⟨_,rfl⟩ | exact Or.inl ⟨rfl,rfl⟩ | exact Or.inl rfl | refine Or.inr ⟨_,_,rfl,Nat.zero_le _,rfl,?_⟩ | refine ⟨_,_,rfl,?_,?_⟩ | refine ⟨_,rfl,?_⟩ | exact hX | exact ⟨nL rfl,rfl⟩ | refine Or.inr (Or.inr (Or.inr ⟨_,_,rfl,?_⟩)) | exact Or.inl rfl | refine Or.inr ?_)),(by repeat' (first | exact rfl | exact trivial | exact Or.inr (Or.inl ⟨_,rfl⟩) | exact Or.inr ⟨_,rfl⟩ | exact Or.inl ⟨rfl,rfl⟩ | exact Or.inl rfl | refine Or.inr ⟨_,_,rfl,Nat.zero_le _,rfl,?_⟩ | refine ⟨_,_,rfl,?_,?_⟩ | refine ⟨_,rfl,?_⟩ | exact hX | exact ⟨nL rfl,rfl⟩ | refine Or.inr (Or.inr (Or.inr ⟨_,_,rfl,?_⟩)) | exact Or.inl rfl | refine Or.inr ?_)),rfl,rfl,rfl⟩
end Go.Proofs.YtfdedoiiahbnnaaGreat
set_option maxRecDepth 100000
namespace Go.Proofs.YtfdedoiiahbnnaaGreat
open Go Go.RowKit Go.Lib Dv Go.Proofs.Tryz
abbrev AS (l:List og):aU:=⟨l,0,0,0,0⟩
set_option maxHeartbeats 4000000 in
theorem M4 (s:ByteArray) (l:List og) (EO:aV prog 157 [.v (.string s)] (.bW [.sl 5 (fX l) none,Ft.d (0,0)])) :
  Wq prog 85 [.v (.string s)] (fun r os=>r = .bW [.loc 0 0,Ft.d (0,0)]/\os=[bh (AS l)]):=by
 intro E w vs hE nF hv;simp only [RvL] at hv;obtain ⟨v1,s1,rfl,h1,rfl⟩:=hv;have h1:=bn h1;subst h1;have R8:=zn hE;obtain ⟨c,β,tk,τ⟩:=E;change Env ⟨c,[],[],[]⟩ [] w at R8;have mixed:=mo;obtain ⟨w1,zI⟩:∃ w1,w1=w.alloc (.cells #[.int .i64 0,.int .i64 0] 26 (0,0)):=⟨_,rfl⟩;have ml:∀ k,k < w.heap.size->w1.heap[k]? = w.heap[k]?:=fun k hk=>by rw [zI];exact Below.heap_alloc _ _ _ hk
 have lm:w1.heap[w.heap.size]? = some (.cells #[.int .i64 0,.int .i64 0] 26 (0,0)):=by rw [zI];exact Array.getElem?_push_size
 have OE:=R8.fv ml;have Fb:=EO _ w1 [.string s] OE rfl (by simp only [RvL];exact ⟨_,_,rfl,dR rfl,rfl⟩)
 go_enter func85,ntmps85
 go_wp2_with (go_at_call 157;rw [<- zI];refine Fb.mono ?_)
 have Vk:=Lib.hid zI;clear zI;intro e w2 v2 he sR;subst he;rw [<- Vk.out] at sR;obtain ⟨zi,_,d2,os2,E2,W1,hβ2,Ug,Lq,Cs,rfl⟩:=sR;unfold Rv at Cs;obtain ⟨vs,rfl,nU⟩:=Cs;simp only [RvL] at nU;obtain ⟨x1,r1,rfl,hx1,x2,r2,rfl,CH,rfl⟩:=nU;unfold Ft.d Rv at CH;obtain ⟨vs2,rfl,H0,_⟩:=CH;simp only [RvL] at H0;obtain ⟨y1,r3,rfl,sJ,y2,r4,rfl,jz,rfl⟩:=H0;obtain rfl:=bn sJ;obtain rfl:=bn jz;have Rx:=hx1;unfold Rv at hx1;obtain ⟨bs,n,cap,rfl,⟨fh,_⟩,_,_⟩:=hx1;obtain rfl:n=(fX l).length:=fh;generalize (fX l).length=n at Rx
 go_wp2
 obtain ⟨w3,Ee⟩:∃ w3,w3=w2.alloc (.cells #[.int .i64 0,.int .i64 0] 26 (0,0)):=⟨_,rfl⟩;have hz1:w1.heap.size=w.heap.size + 1:=by rw [Vk.out];simp
 have Uz:w1.heap.size<=w2.heap.size:=zi.size;have hz3:w3.heap.size=w2.heap.size + 1:=by rw [Ee];simp
 have hb5:w3.heap[w2.heap.size]? = some (.cells #[.int .i64 0,.int .i64 0] 26 (0,0)):=by rw [Ee];exact Array.getElem?_push_size
 have HS:w3.heap[w.heap.size]? = some (.cells #[.int .i64 0,.int .i64 0] 26 (0,0)):=by
  rw [Ee,Below.heap_alloc _ _ _ (by omega),zi.block _ (by omega) (by
   rintro (h1 | ⟨y,h1,_⟩)
   ·simp at h1
   ·simp at h1)]
  exact lm
 rw [<- Ee];have W2:=Lib.hid Ee;clear Ee;rename_i K hK
 have LP:∀ x v,E2.c x=some v->x.block < w.heap.size∨(w1.heap.size<=x.block/\x.block < w2.heap.size):=fun x v hx=>by
  rcases Lq.cn x v hx with h1 | h1 | ⟨y,h1,_⟩
  ·exact .inl (World.block_lt_of_cell? w x (R8.sub x v h1))
  ·exact .inr ⟨h1,World.block_lt_of_cell? w2 x (W1.sub x v hx)⟩
  ·simp at h1
 have W3:∀ k,k < w2.heap.size->w3.heap[k]? = w2.heap[k]?:=fun k hk=>by rw [W2.out];exact Below.heap_alloc _ _ _ hk
 have W4:Env ⟨E2.c,[w.heap.size,w2.heap.size],[],[]⟩ [KG,KG] w3:={
  len:=rfl
  tl:=rfl
  dm:=fun i cs hi=>by
   match i,hi with
   | 0,hi=>
    cases hi;exact ⟨_,_,[.int .i64 0,.int .i64 0],rfl,HS,by simp only [RvL];exact ⟨_,_,rfl,⟨rfl,rfl⟩,_,_,rfl,⟨rfl,rfl⟩,rfl⟩,by intro v hv;simp at hv;subst hv;rfl⟩
   | 1,hi=>
    cases hi;exact ⟨_,_,[.int .i64 0,.int .i64 0],rfl,hb5,by simp only [RvL];exact ⟨_,_,rfl,⟨rfl,rfl⟩,_,_,rfl,⟨rfl,rfl⟩,rfl⟩,by intro v hv;simp at hv;subst hv;rfl⟩
   | i + 2,hi=>simp at hi
  inj:=by simp;omega
  sub:=(W1.fv W3).sub
  pc:=fun x v hx hm=>by
   simp only [List.mem_cons,List.not_mem_nil,or_false] at hm;have:=LP x v hx;omega
  bZ:=fun k q y hq=>by simp at hq
  gn:=fun k k' y y' g _ hy=>by simp at hy }
 have SQ:E2.tk=[]:=List.eq_nil_of_length_eq_zero Ug;have hx4:Rv ⟨E2.c,[w.heap.size,w2.heap.size],[],[]⟩ (.sl 5 (fX l) none) (.slice bs n cap):=Rx.mono (E:=E2) ⟨fun _ _ h=>h,fun i b hb=>by rw [hβ2] at hb;simp at hb,fun k q hq=>by rw [SQ] at hq;simp at hq⟩
 refine C8 (X:=⟨prog,tt,tG,Tryz.f85,19,[.tmp 2,.cell 3 26],rfl,w3,⟨E2.c,[w.heap.size,w2.heap.size],[],[]⟩,2,0,rfl,rfl,false,fun _ _ _=>False,[],[],false⟩)
  (E:=⟨E2.c,[w.heap.size,w2.heap.size],[],[]⟩) (st:=⟨[(2,⟨[],.v (.pointer none)⟩),aE 3 0,aT 4 5 (fX l),aE 5 1],[KG,KG],[]⟩)
  (fun st'=>resD tt st' [.tmp 2,.cell 3 26]=some [.loc 2 0,Ft.d (0,0)]/\st'.bx=[KG,KG,bh (AS l)]) 4000
  {env:=W4
   tk:=rfl
   sz:=rfl
   tm:=by
    intro i x hx;simp only [cp] at hx;split at hx
    ·rename_i e;cases hx;subst e;exact ⟨fun _=>⟨_,rfl,rfl,rfl⟩,fun hn=>(hn (aM _)).elim⟩
    split at hx
    ·rename_i e;cases hx;subst e;exact ⟨fun _=>⟨_,rfl,w.heap.size,rfl,rfl⟩,fun hn=>(hn (aM _)).elim⟩
    split at hx
    ·rename_i e;cases hx;subst e;exact ⟨fun _=>⟨_,rfl,hx4⟩,fun hn=>(hn (aM _)).elim⟩
    split at hx
    ·rename_i e;cases hx;subst e;exact ⟨fun _=>⟨_,rfl,w2.heap.size,rfl,rfl⟩,fun hn=>(hn (aM _)).elim⟩
    ·cases hx
   df:=rfl
   nw:=Nw.refl W4
   fr:=⟨rfl,rfl,rfl,zLeR _,fun _ _ _=>rfl⟩
   sh:=fun h=>by cases h
   bt:=fun p hp=>by cases hp } ?_ (fun _ _ _ h=>h) ?_
 ·refine fM [0] (fun _=>false) mo (by decide +kernel) ?_;exact ⟨rfl,rfl⟩
 ·intro st' E' a' w' bD ⟨qG,kS⟩;have hβ':=bD.nw.β;obtain ⟨r,hr,lp⟩:=hβ';have hr:E'.β=[w.heap.size,w2.heap.size] ++ r:=hr;have hlen:=bD.env.len;rw [hr,kS] at hlen
  match r,hlen with
  | [b],_=>
   have hb:E'.β[2]? = some b:=by rw [hr];all_goals rfl
   have Bt:w3.heap.size<=b:=lp b (by simp);have Ry:=Gh (i:=2) (cs:=bh (AS l)) bD.env (by rw [kS];rfl) hb rfl
   have hold:∀ k,k < w.heap.size->w'.heap[k]? = w.heap[k]?:=fun k hk=>by
    rw [bD.fr.block k (by show k < w3.heap.size;omega) (by
     rintro (h1 | ⟨y,h1,_⟩)
     ·simp only [List.mem_cons,List.not_mem_nil,or_false] at h1;omega
     ·simp at h1),W3 k (by omega),zi.block k (by omega) (by
     rintro (h1 | ⟨y,h1,_⟩)
     ·simp at h1
     ·simp at h1),ml k hk]
   refine hK a' w' (wp_ret ?_);refine I3 bD qG fun v hv=>?_;have h1:=bD.fr;have q1:w1.os=w.os/\w1.tape=w.tape/\w1.output=w.output:=by rw [Vk.out];exact ⟨rfl,rfl,rfl⟩
   have q3:w3.os=w2.os/\w3.tape=w2.tape/\w3.output=w2.output:=by rw [W2.out];exact ⟨rfl,rfl,rfl⟩
   have hz4:w3.heap.size<=w'.heap.size:=h1.size;refine ⟨v,rfl,⟨?_,?_,?_,by omega,fun k hk _=>hold k hk⟩,_,_,_,Ry,rfl,?_,?_,?_,rfl,rfl⟩
   ·rw [show w'.os=w3.os from h1.os,q3.1,zi.os,q1.1]
   ·rw [show w'.tape=w3.tape from h1.tape,q3.2.1,zi.tape,q1.2.1]
   ·rw [show w'.output=w3.output from h1.output,q3.2.2,zi.output,q1.2.2]
   ·have eβ:β=[]:=List.eq_nil_of_length_eq_zero hE.len;have eτ:τ=[]:=List.eq_nil_of_length_eq_zero (by have:=hE.tl;rw [this,nF];rfl);have etk:tk=[]:=nF;subst eβ eτ etk
    exact {
     c:=fun x v hx=>bD.nw.c x v (Lq.c x v hx)
     cn:=fun x v hx=>by
      rcases bD.nw.cn x v hx with h2 | h2 | ⟨y,h2,_⟩
      ·rcases Lq.cn x v h2 with h3 | h3 | ⟨y,h3,_⟩
       ·exact .inl h3
       ·exact .inr (.inl (by omega))
       ·simp at h3
      ·exact .inr (.inl (by have:w3.heap.size<=x.block:=h2;omega))
      ·simp at h2
     β:=⟨[b],rfl,fun x hx=>by
      simp only [List.mem_singleton] at hx;subst hx
      omega⟩
     tk:=fun k q y hq=>by simp at hq
     tn:=fun k y g _ hy=>by simp at hy
     l0:=rfl }
   ·intro cs ch;simp only [List.mem_singleton] at ch;subst ch;rfl
   ·unfold Rv at hv ⊢;obtain ⟨vs,h2,h3⟩:=hv;refine ⟨vs,h2,?_⟩;simp only [RvL] at h3 ⊢;obtain ⟨a1,s1,rfl,h4,a2,s2,rfl,h5,rfl⟩:=h3;refine ⟨a1,_,rfl,?_,a2,_,rfl,?_,rfl⟩
    ·unfold Rv at h4 ⊢;obtain ⟨b',h6,h7⟩:=h4;rw [hb] at h6;cases h6;exact ⟨b,rfl,h7⟩
    ·exact Rv.mono (E:=E'.cut 0 0) ⟨fun _ _ h=>h,fun i b hb=>by simp [En.cut] at hb,fun k q hq=>by simp [En.cut] at hq⟩ (Rv.cut h5 rfl)
end Go.Proofs.YtfdedoiiahbnnaaGreat
