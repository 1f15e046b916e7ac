/- Part 6 of the proof: The reader of schemas: a list, for any reader of its elements that has its own contract; Rules for the evaluator: a call that writes the caller's objects, in a region that draws its order; The reader of schemas: a level's name onto the schema's levels; The reader of schemas: a type where something is wrong; the type bool; The reader of schemas: a schema of levels and a root; The reader of schemas: its end; Parse, what it reads known; The library's IndexByte, laid at this program; HasPrefix; Tokens: Blank, Mark, the token of a name, of a mark, of a number; Tokens: the token of a name, of a mark, of a number; all of a text's; The document's Bottom, Right of paths; the program's Right of paths; The least depths of the values of a plan's nodes: plain; The program's nodes, least depths; A region that draws its order, in which a new object may come at any time among calls: its run with the object made at each of these times serves every order; Where steps lead: the document's Edge, Walk; the program's; The program's way along steps: fits, step, Walk; The document's least depths; fine; the chapter's example; The program's Depths; The law of least depths: fine, the example, the call returns true; With which schemas nothing is wrong: the document's Wrong of chapters 20, 21; the law's fine; The law of checks: the call returns true; What is wrong with a coarse view, exactly: the document's Wrong of chapter 20; What is wrong with a coarse view: the program's effect.Check; The chapter's examples of checked schemas; Observers: the program's, the document's; the law: the call returns true. No condition. -/
import Derived.Shelf.Strings.Search1
import Derived.Test.YtfdedoiiahbnnaaGreatNb2
import Derived.Test.YtfdedoiiahbnnaaGreatNb3
import Derived.Test.YtfdedoiiahbnnaaGreatNb5
set_option linter.all false
set_option maxRecDepth 100000
namespace Go.Proofs.YtfdedoiiahbnnaaGreat
namespace Dv
open Go Go.RowKit
mutual
theorem Cr {bx:List (List DV)} {N n m:Nat}:∀ {d:DV},clB n m d=true->Cc bx N n m d d
 | .v _,_=>by simp only [Cc]
 | .ud,_=>by simp only [Cc]
 | .agg l,h=>by simp only [Cc];exact ⟨l,rfl,bJ (by simpa [clB] using h)⟩
 | .bS l,h=>by simp only [Cc];exact ⟨l,rfl,bJ (by simpa [clB] using h)⟩
 | .sl e es none,_=>by simp only [Cc];exact .inr (.inl ⟨none,rfl⟩)
 | .sl e es (some k),h=>by simp only [Cc];exact ⟨by simpa [clB] using h,trivial⟩
 | .pt cs o,_=>by simp only [Cc];exact .inl trivial
 | .loc i o,h=>by simp only [Cc];exact ⟨by simpa [clB] using h,trivial⟩
 | .el i o,h=>by simp only [Cc];exact ⟨by simpa [clB] using h,trivial⟩
 | .ms i e o l c,h=>by simp only [Cc];exact ⟨by simpa [clB] using h,trivial⟩
 | .fn f a b,h=>by
  simp only [clB,bA] at h;simp only [Cc];exact ⟨a,b,rfl,bJ h.1,bJ h.2⟩
 | .lH t x,h=>by simp only [Cc];exact ⟨x,rfl,Cr (by simpa [clB] using h)⟩
theorem bJ {bx:List (List DV)} {N n m:Nat}:∀ {l:List DV},clB.clL n m l=true->CcL bx N n m l l
 | [],_=>by simp only [CcL]
 | d :: r,h=>by
  simp only [clB.clL,bA] at h;simp only [CcL];exact ⟨d,r,rfl,Cr h.1,bJ h.2⟩
end
mutual
theorem yL {n n' m:Nat} (hn:n<=n'):∀ {d:DV},clB n m d=true->clB n' m d=true
 | .v _,_=>rfl
 | .ud,_=>rfl
 | .agg l,h=>by simp only [clB] at h ⊢;exact jr hn h
 | .bS l,h=>by simp only [clB] at h ⊢;exact jr hn h
 | .sl e es none,_=>rfl
 | .sl e es (some k),h=>by simpa [clB] using h
 | .pt cs o,_=>rfl
 | .loc i o,h=>by simp [clB] at h ⊢;omega
 | .el i o,h=>by simp [clB] at h ⊢;omega
 | .ms i e o l c,h=>by simp [clB] at h ⊢;omega
 | .fn f a b,h=>by
  simp only [clB,bA] at h ⊢;exact ⟨jr hn h.1,jr hn h.2⟩
 | .lH t x,h=>by simp only [clB] at h ⊢;exact yL hn h
theorem jr {n n' m:Nat} (hn:n<=n'):∀ {l:List DV},clB.clL n m l=true->clB.clL n' m l=true
 | [],_=>rfl
 | d :: r,h=>by
  simp only [clB.clL,bA] at h ⊢;exact ⟨yL hn h.1,jr hn h.2⟩
end
theorem dh {n m:Nat} {tk:List TkE}:∀ {l:List DV},clB.clL n m l=true->WeL n m tk l l
 | [],_=>by simp only [WeL]
 | d :: r,h=>by
  simp only [clB.clL,bA] at h;simp only [WeL];exact ⟨d,r,rfl,.inl ⟨rfl,h.1⟩,dh h.2⟩
end Dv
open Go Go.RowKit Dv Go.Proofs.Tryz
def listF {α:Type} (f:aU->α->aU × α) (e:ByteArray):Nat->aU->α->aU × α
 | 0,c,a=>(c,a)
 | n + 1,c,a=>if c.f.1=0 then (if (f c a).1.is 4 e then ((f c a).1.step,(f c a).2) else listF f e n ((f c a).1.gJ ⟨#[44]⟩) (f c a).2) else (c,a)
structure Li {α:Type} (A B C:α->List DV) (T:α->TkE) (f:aU->α->aU × α) (Inv:aU->α->Prop) (g i j:Nat) (c:aU) (a:α):Prop where
 ok:aR (f c a).1
 l:(f c a).1.l=c.l
 p:c.p<=(f c a).1.p
 inv:Inv (f c a).1 (f c a).2
 ev:Ev prog g [.loc i 0,.loc j 0] [bg c,A a,B a,C a] [T a] (fun r os tk=>r = .bS []/\os=[bg (f c a).1,A (f c a).2,B (f c a).2,C (f c a).2]/\tk=[T (f c a).2])
abbrev Nl (g i j:Nat) (e:ByteArray) (c:aU) (X Y Z:List DV) (q:TkE):St:=⟨[(1,⟨[],.v (.string e)⟩),(3,⟨[],.fn g [] [.loc i 0,.loc j 0]⟩),aF 4 4],[bg c,X,Y,Z,[.loc 0 0]],[q]⟩
theorem aU.Hr (c:aU) (s:ByteArray):(c.gJ s).l=c.l:=by
 unfold aU.gJ aU.step aU.wrong aU.fail aU.gC
 repeat' split
 all_goals rfl
theorem aU.Nn (c:aU) (s:ByteArray) (h:(c.gJ s).f.1=0):(c.gJ s).p=c.p + 1:=by
 have hk:c.is 4 s=true->¬ c.cF.k=0:=fun h=>by
  simp only [aU.is,bA,decide_eq_true_eq] at h;omega
 unfold aU.gJ at h ⊢;split
 ·rename_i hi;unfold aU.step;rw [ah (hk hi)]
 ·rename_i hi;rw [ah hi] at h;unfold aU.wrong aU.fail aU.gC at h;exfalso;by_cases h0:c.f.1=0
  ·by_cases h1:c.cF.k=0
   ·rw [zIfP ⟨h0,by rw [zIfP h1];decide⟩,zIfP h1] at h;exact absurd h (by simp)
   ·rw [zIfP ⟨h0,by rw [ah h1];decide⟩,ah h1] at h;exact absurd h (by simp)
  ·rw [ah (fun g=>h0 g.1)] at h;exact h0 h
theorem A4 {α:Type} {A B C:α->List DV} {T:α->TkE} {f:aU->α->aU × α} {Inv:aU->α->Prop} {g i j:Nat} (hi:i < 4) (hj:j < 4) (hA:∀ a,clB.clL 4 1 (A a)=true) (hB:∀ a,clB.clL 4 1 (B a)=true) (hC:∀ a,clB.clL 4 1 (C a)=true) (iW:Enters prog g)
  (Vy:∀ c a,aR c->Inv c a->c.f.1=0->Li A B C T f Inv g i j c a) (RO:∀ c a,aR c->Inv c a->Inv (c.gJ ⟨#[44]⟩) a) (e:ByteArray) (N:Nat) (c:aU) (a:α) (hc:aR c) (ha:Inv c a) (hN:c.l.length<=c.p + N) :
  Ev prog 160 [wI,.v (.string e),.v (.bool false),.fn g [] [.loc i 0,.loc j 0]] [bg c,A a,B a,C a] [T a]
   (fun r os tk=>r = .bS []/\os=[bg (listF f e N c a).1,A (listF f e N c a).2,B (listF f e N c a).2,C (listF f e N c a).2]/\tk=[T (listF f e N c a).2]):=by
 have h5:∀ X:α->List DV,(∀ a,clB.clL 4 1 (X a)=true)->∀ a,clB.clL 5 1 (X a)=true:=fun X h a=>jr (by omega) (h a);have SR:=h5 A hA;have SS:=h5 B hB;have SU:=h5 C hC
 have pD:clB 5 1 (.fn g [] [.loc i 0,.loc j 0])=true:=by
  simp [clB,clB.clL];omega
 refine eG 26 [] func160 rfl ntmps160 rfl fun _ _ _ _=>?_;refine aW (fun n st=>∃ c' a',st=Nl g i j e c' (A a') (B a') (C a') (T a')/\aR c' /\ Inv c' a' /\ (c'.f.1=0->c'.l.length<=c'.p + n)/\listF f e N c a=listF f e n c' a') N (Nl g i j e c (A a) (B a) (C a) (T a)) (ep 5 (by repeat' (first | exact rfl | exact au rfl | exact Or.inl ⟨rfl,pD⟩ | exact dh (SR _) | exact dh (SS _) | exact dh (SU _) | refine ⟨_,_,rfl,?_,?_⟩)) (by repeat' (first | exact trivial | exact au rfl | exact Or.inl ⟨rfl,pD⟩ | exact dh (SR _) | exact dh (SS _) | exact dh (SU _) | refine ⟨⟨_,rfl,?_⟩,?_⟩))) ⟨c,a,rfl,hc,ha,fun _=>hN,rfl⟩ ?_;rintro n st ⟨c',a',rfl,Bs,ha',hn,aD⟩;have hf:=mi c';refine ay 1 0 Fz rfl rfl rfl aO aO hf (fun r os' tk' hΦ _ _=>?_);obtain ⟨rfl,rfl,rfl⟩:=hΦ;refine br ?_ ?_<;>intro q
 ·have q:c'.f.1=0:=sU q;have h1:=Vy c' a' Bs ha' q;have hn:=hn q;have ap:=Bs.lt
  match n,hn with
  | 0,hn=>omega
  | n + 1,hn=>
   rw [listF,zIfP q] at aD;generalize hF:f c' a'=F at aD;obtain ⟨c1,a1⟩:=F;have LM:=h1.ev;have ef:=h1.ok;have wz:=h1.l;have Er:=h1.p;have Vz:=h1.inv;rw [hF] at LM ef wz Er Vz;simp only at LM ef wz Er Vz aD;refine ay 4 1 iW rfl rfl rfl (by repeat' (first | exact rfl | exact trivial | exact Or.inr (Or.inl ⟨_,rfl⟩) | exact Or.inr ⟨_,rfl⟩ | exact Or.inl ⟨rfl,rfl⟩ | exact Or.inl rfl | refine Or.inr ⟨_,_,rfl,Nat.zero_le _,rfl,?_⟩ | refine ⟨_,_,rfl,?_,?_⟩ | refine ⟨_,rfl,?_⟩ | exact ⟨nL rfl,rfl⟩ | exact bJ (hA _) | exact bJ (hB _) | exact bJ (hC _) | refine Or.inr (Or.inr (Or.inr ⟨_,_,rfl,?_⟩)) | exact Or.inl rfl | refine Or.inr ?_)) (by repeat' (first | exact rfl | exact trivial | exact Or.inr (Or.inl ⟨_,rfl⟩) | exact Or.inr ⟨_,rfl⟩ | exact Or.inl ⟨rfl,rfl⟩ | exact Or.inl rfl | refine Or.inr ⟨_,_,rfl,Nat.zero_le _,rfl,?_⟩ | refine ⟨_,_,rfl,?_,?_⟩ | refine ⟨_,rfl,?_⟩ | exact ⟨hi,rfl⟩ | exact ⟨hj,rfl⟩ | refine Or.inr (Or.inr (Or.inr ⟨_,_,rfl,?_⟩)) | exact Or.inl rfl | refine Or.inr ?_)) LM (fun r os' tk' hΦ _ _=>?_);obtain ⟨rfl,rfl,rfl⟩:=hΦ;have hm:=uQ c1 ef e;refine ay 1 0 FH rfl rfl rfl aO aO hm (fun r os' tk' hΦ _ _=>?_);obtain ⟨rfl,rfl,rfl⟩:=hΦ;unfold aU.Ez
   cases hb:c1.is 4 e with
   | true=>
    rw [hb,zIfP rfl] at aD;rw [aD,zIfP rfl];exact ⟨.bS [],[bg c1.step,A a1,B a1,C a1],(by repeat' (first | exact rfl | exact trivial | exact Or.inr (Or.inl ⟨_,rfl⟩) | exact Or.inr ⟨_,rfl⟩ | exact Or.inl ⟨rfl,rfl⟩ | exact Or.inl rfl | refine Or.inr ⟨_,_,rfl,Nat.zero_le _,rfl,?_⟩ | refine ⟨_,_,rfl,?_,?_⟩ | refine ⟨_,rfl,?_⟩ | exact ⟨nL rfl,rfl⟩ | exact bJ (hA _) | exact bJ (hB _) | exact bJ (hC _) | refine Or.inr (Or.inr (Or.inr ⟨_,_,rfl,?_⟩)) | exact Or.inl rfl | refine Or.inr ?_)),(by repeat' (first | exact rfl | exact trivial | exact Or.inr (Or.inl ⟨_,rfl⟩) | exact Or.inr ⟨_,rfl⟩ | exact Or.inl ⟨rfl,rfl⟩ | exact Or.inl rfl | refine Or.inr ⟨_,_,rfl,Nat.zero_le _,rfl,?_⟩ | refine ⟨_,_,rfl,?_,?_⟩ | refine ⟨_,rfl,?_⟩ | exact ⟨nL rfl,rfl⟩ | exact bJ (hA _) | exact bJ (hB _) | exact bJ (hC _) | refine Or.inr (Or.inr (Or.inr ⟨_,_,rfl,?_⟩)) | exact Or.inl rfl | refine Or.inr ?_)),rfl,rfl,rfl⟩
   | false=>
    rw [hb,ah (by simp)] at aD;rw [ah (by simp)];have hnd:=uR c1 ef ⟨#[44]⟩;refine ay 1 0 Kp rfl rfl rfl aO aO hnd (fun r os' tk' hΦ _ _=>?_);obtain ⟨rfl,rfl,rfl⟩:=hΦ
    exact ⟨Nl g i j e (c1.gJ ⟨#[44]⟩) (A a1) (B a1) (C a1) (T a1),(ep 5 (by repeat' (first | exact rfl | exact au rfl | exact Or.inl ⟨rfl,pD⟩ | exact dh (SR _) | exact dh (SS _) | exact dh (SU _) | refine ⟨_,_,rfl,?_,?_⟩)) (by repeat' (first | exact trivial | exact au rfl | exact Or.inl ⟨rfl,pD⟩ | exact dh (SR _) | exact dh (SS _) | exact dh (SU _) | refine ⟨⟨_,rfl,?_⟩,?_⟩))),n,by omega,_,a1,rfl,ef.gJ _,RO c1 a1 ef Vz,fun g0=>by
     rw [aU.Hr,aU.Nn _ _ g0,wz]
     omega,aD⟩
 ·have q:¬ c'.f.1=0:=sU q
  have hst:listF f e n c' a'=(c',a'):=by
   cases n with
   | zero=>rfl
   | succ n=>rw [listF,ah q]
  rw [aD,hst];exact ⟨.bS [],[bg c',A a',B a',C a'],(by repeat' (first | exact rfl | exact trivial | exact Or.inr (Or.inl ⟨_,rfl⟩) | exact Or.inr ⟨_,rfl⟩ | exact Or.inl ⟨rfl,rfl⟩ | exact Or.inl rfl | refine Or.inr ⟨_,_,rfl,Nat.zero_le _,rfl,?_⟩ | refine ⟨_,_,rfl,?_,?_⟩ | refine ⟨_,rfl,?_⟩ | exact ⟨nL rfl,rfl⟩ | exact bJ (hA _) | exact bJ (hB _) | exact bJ (hC _) | refine Or.inr (Or.inr (Or.inr ⟨_,_,rfl,?_⟩)) | exact Or.inl rfl | refine Or.inr ?_)),(by repeat' (first | exact rfl | exact trivial | exact Or.inr (Or.inl ⟨_,rfl⟩) | exact Or.inr ⟨_,rfl⟩ | exact Or.inl ⟨rfl,rfl⟩ | exact Or.inl rfl | refine Or.inr ⟨_,_,rfl,Nat.zero_le _,rfl,?_⟩ | refine ⟨_,_,rfl,?_,?_⟩ | refine ⟨_,rfl,?_⟩ | exact ⟨nL rfl,rfl⟩ | exact bJ (hA _) | exact bJ (hB _) | exact bJ (hC _) | refine Or.inr (Or.inr (Or.inr ⟨_,_,rfl,?_⟩)) | exact Or.inl rfl | refine Or.inr ?_)),rfl,rfl,rfl⟩
end Go.Proofs.YtfdedoiiahbnnaaGreat
namespace Go.Proofs.YtfdedoiiahbnnaaGreat
namespace Dv
open Go Go.RowKit
section
variable {X:Ctx} {st:St} {s0:List (Nat × Sl)} {c:Bool} {i:Nat} {r:List (Nat × Oper)}
def RP (D:Dr) (n:Nat):Bool:=(D.iB.bx.take n).all List.isEmpty
theorem Hs {D:Dr} {n i:Nat} {cs:List DV} (h:RP D n=true) (hi:i < n) (hc:D.iB.bx[i]? = some cs):cs=[]:=by
 have h1:=List.all_eq_true.1 h cs (mG (i:=i) (by rw [bM,zIfP hi];exact hc));simpa using h1
theorem Ht {D:Dr} {f:FuncId} {args aZ:List DV} {os:List (List DV)} {d:Nat} (n1:Nat) (WD:RP D n1=true) (iW:Enters X.P f) (hd:(eK X.nt st.sl (some d) && eK X.nt s0 (some d))=true) (wT:Nat.ble n1 st.bx.length=true)
  (wY:jy [] n1 n1 0 os (st.bx.take n1)) (ha:CcL [] n1 n1 0 aZ args) {Φ:DV->List (List DV)->List TkE->Prop} (hc:Ev X.P f aZ os [] Φ)
  (hk:∀ zH os',Φ zH os' []->os'.length=n1->put2 s0 ⟨st.sl,os' ++ st.bx.drop n1,st.tk⟩ (some d) false [] zH (goD X D 3000 c r)) (hst:X.still=false:=by exact rfl) (hX:X.bt=[]:=by exact rfl):tJ X D c i r f args (some d) s0 st:=by
 refine ⟨iW,fun hl E0 wr hD E a w vs h hv=>(rr n1 0 wT rfl wY ha hc hst hX h.rel hv).mono ?_⟩;rintro e w' ⟨v,r',os',tk',E',rfl,hΦ,h1,h2,bD,hr,hx,hβ,ho⟩;obtain rfl:tk'=[]:=List.eq_nil_of_length_eq_zero h2
 have hC:CC E0 D.iB.bx wr w->CC E0 D.iB.bx wr w':=fun hC=>⟨fun j b cs hb cm bi=>by
  have hge:n1<=j:=by
   rcases Nat.lt_or_ge j n1 with h3 | h3
   ·exact (bi (Hs WD h3 cm)).elim
   ·exact h3
  rw [ho j b hge (h.x.β j b hb)]
  exact hC.o j b cs hb cm bi,fun x v tq=>bD.env.sub x v (hx.c x v (h.x.c x v tq))⟩
 refine ⟨v,rfl,fun _=>hC,?_⟩
 have xu:eB X ⟨D,E0,wr⟩ c E' s0 ⟨st.sl,os' ++ st.bx.drop n1,st.tk⟩ (a.put none v) w':={
  rel:=bD
  x:=by
   refine ⟨fun y v hy=>hx.c y v (h.x.c y v hy),fun j b hb=>hx.β j b (h.x.β j b hb),fun k q hq=>?_⟩;obtain ⟨q1,h1,h2⟩:=h.x.tk k q hq;obtain ⟨q2,h3,h4⟩:=hx.tk k q1 h1
   grind
  β:=by
   obtain ⟨r1,h1⟩:=h.β;exact ⟨r1,by rw [hβ];exact h1⟩
  t0:=fun j x hj=>by
   have h1:=h.t0 j x hj;refine ⟨fun hh=>?_,h1.2⟩;obtain ⟨v,h2,h3⟩:=h1.1 hh;exact ⟨v,h2,Rv.mono (vi hx) h3⟩
  cc:=fun hc=>hC (h.cc hc) }
 obtain ⟨s1,nI,mn,di⟩:=fW xu hd false [] r' v (fun _ _ p hp=>by cases hp) (fun _=>hr) (fun hb=>by cases hb) (fun hn=>(hn (aM _)).elim) (hk r' os' hΦ h1);exact eL (D:=⟨D,E0,wr⟩) hD 3000 c r _ _ mn hl E' _ w' di
end
theorem Hu {X:Ctx} {f:FuncId} {args:List DV} {dst:Option Nat} {k:List It} {st:St} (q:TkE) (st':St) (hq:q.new=true) (ha:WeL st.bx.length st.tk.length (st.tk ++ [q]) args args) (h3:st'.tk=st.tk ++ [q]) (h2:WeLL st.bx.length st.tk.length (st.tk ++ [q]) st.bx st'.bx)
  (h:kh st.bx.length st.tk.length (st.tk ++ [q]) st.sl st'.sl) (hn:Nat.ble X.n0 st.bx.length=true) (hm:Nat.ble X.m0 st.tk.length=true) (hk:CallG X f args dst k st'):CallG X f args dst k st:=by
 obtain ⟨k1,k2,k3⟩:=hk;refine ⟨k1,k2,fun E a w vs hR hv=>?_⟩;have hr:=tE (st':=st') hR (kept:=st.tk) (dropped:=[]) (new:=[q]) (b0:=st.bx) (r:=[]) ⟨nL hm,nL hn,by simp,h3,by simpa using hq,by simp,by rw [h3];exact h2,by rw [h3];exact h⟩;exact k3 _ a w vs hr (nZ (dropped:=[]) (by rw [hR.tk];simp) hR.env.tl (sU hq) ha hv)
end Dv
end Go.Proofs.YtfdedoiiahbnnaaGreat
set_option maxRecDepth 100000
namespace Go.Proofs.YtfdedoiiahbnnaaGreat
open Go Go.RowKit Dv Go.Proofs.Tryz
abbrev Hv (a:List Wd):List DV:=[.sl 2 (bm a) (some 0),.v (.slice none 0 0),.v (.slice none 0 0),.v (.int .i64 0),.v (.int .i64 0),.v (.int .i64 0),.v (.int .i64 0),.v (.int .i64 0),.v (.slice none 0 0),.v (.slice none 0 0),.v (.string ⟨#[]⟩),.v (.int .i64 0)]
abbrev Lj:List DV:=[.v (.slice none 0 0),.v (.slice none 0 0),.v (.slice none 0 0),.v (.int .i64 0),.v (.int .i64 0),.v (.int .i64 0),.v (.int .i64 0),.v (.int .i64 0),.v (.slice none 0 0),.v (.slice none 0 0),.v (.string ⟨#[]⟩),.v (.int .i64 0)]
abbrev Lk:List DV:=[.loc 0 0]
abbrev JN (a:List Wd):TkE:=⟨a.length,34,2,none⟩
theorem Hw (a:List Wd) (w:Wd):JN (a ++ [w])=⟨a.length + 1,34,2,none⟩:=by simp [JN]
theorem Hx (a:List Wd) (w:Wd):Hv (a ++ [w]) = .sl 2 (bm a ++ [gm w]) (some 0) :: (Hv a).tail:=by simp [Hv,bm]
theorem yM (c:aU) (h:aR c) (a:List Wd) (ha:a.length<=1099511627776):Ev prog 161 [.loc 3 0,.loc 1 0] [bg c,Lk,Lj,Hv a] [JN a]
  (fun r os tk=>r = .bS []/\os=[bg c.gD,Lk,Lj,Hv (a ++ [c.pu])]/\tk=[JN (a ++ [c.pu])]):=by
 have hn:=A1 c h;have hl:(bm a).length=a.length:=ak a;generalize c.pu=W at hn ⊢;generalize c.gD=C1 at hn ⊢;obtain ⟨l,p,d,f1,f2⟩:=c;obtain ⟨l1,p1,d1,f11,f21⟩:=C1;obtain ⟨ws,wa⟩:=W;refine eG 9 [] func161 rfl ntmps161 rfl fun _ _ _ _=>?_;refine fO [0] (fun i=>Nat.beq i 7) mo (by decide +kernel) ?_;refine Ht 1 rfl Pk rfl rfl aO aO hn (fun r os' hΦ _=>?_);obtain ⟨rfl,rfl,_⟩:=hΦ;refine ⟨hl,⟨by simp [maxLen,hl];omega,by simp [hl];omega⟩,?_⟩;rw [Hw,Hx];exact ⟨.bS [],[bg ⟨l1,p1,d1,f11,f21⟩,Lk,Lj,.sl 2 (bm a ++ [gm ⟨ws,wa⟩]) (some 0) :: (Hv a).tail],aO,aO,rfl,rfl,rfl⟩
abbrev Ll (k a:Int):List DV:=[.v (.int .i64 k),.v (.int .i64 a),.v (.int .i64 0),.v (.int .i64 0),.v (.int .i64 0),.v (.slice none 0 0),.v (.slice none 0 0),.v (.string ⟨#[]⟩),.v (.int .i64 0)]
abbrev Cs:ByteArray:=⟨#[98,111,111,108]⟩
theorem D2 (c:aU) (k a:Int):Ev prog 249 [wI,.loc 1 0,.v (.string Cs)] [bg c,Ll k a] [] (fun r os tk=>r = .v (.bool true)/\os=[bg c,Ll 1 a]/\tk=[]):=by
 obtain ⟨l,p,d,f1,f2⟩:=c;refine eG 142 [.tmp 6] func249 rfl ntmps249 rfl fun _ _ _ _=>?_;exact ⟨.v (.bool true),[bg _,Ll 1 a],aO,aO,rfl,rfl,rfl⟩
theorem qi {c:aU} (h:aR c) (hd:c.d < 24):aR { c with d:=c.d + 1 }:=⟨h.lt,h.nx,h.len,hd⟩
theorem yN {c:aU} (h:aR c) (hd:c.d < 24):Ev prog 248 [.loc 0 0] [bg c] [] (mg (.v (.bool true)) { c with d:=c.d + 1 }):=by
 have he:=AY c h;have e1:c.enter=true:=by simp [aU.enter];omega
 have e2:c.ry={ c with d:=c.d + 1 }:=by rw [aU.ry,ah (by omega)]
 rw [e1,e2] at he;exact he
theorem yO {c:aU} (h:aR c) (hd:c.d < 24):Ev prog 225 [.loc 0 0] [bg { c with d:=c.d + 1 }] [] (mg (.bS []) c):=AZ _ (qi h hd)
theorem Hy {c:aU} (h:aR c) (hf:c.f.1≠0) (k:Int):Ev prog 246 [.loc 0 0,.v (.int .i64 k)] [bg c] [] (mg (.bS [.agg (ru ⟨0,0,0,aJ,0⟩),.v (.bool false)]) c):=by
 have ht:=sy c h k;have e1:c.EA k=⟨0,0,0,aJ,0⟩:=by rw [aU.EA,A2 hf,ah (by simp)]
 have e2:c.KT k=c:=by rw [aU.KT,A2 hf,ah (by simp)]
 rw [e1,e2,A2 hf] at ht;exact ht
theorem D3 {c:aU} (h:aR c) (hf:c.f.1≠0):Ev prog 245 [wI] [bg c] [] (mg (.bS []) c):=by
 have hw:=kK c h;rw [oT hf] at hw;exact hw
theorem Hz (c:aU) (h:aR c) (hf:c.f.1≠0) (hd:c.d < 24):Ev prog 166 [wI] [bg c] [] (mg (.agg (Ll 0 c.f.2)) c):=by
 have hp:=dT c h;rw [sA hf] at hp;have he:=yN h hd;have ht:=Hy (qi h hd) hf 1;have hw:=D3 (qi h hd) hf;have DG:=yO h hd;obtain ⟨l,p,d,f1,f2⟩:=c;refine eG 42 [.cell 2 36] func166 rfl ntmps166 rfl fun _ _ _ _=>?_;refine ay 1 0 mR rfl rfl rfl aO aO hp (fun r os' tk' hΦ _ _=>?_);obtain ⟨rfl,rfl,rfl⟩:=hΦ;refine ay 1 0 KC rfl rfl rfl aO aO he (fun r os' tk' hΦ _ _=>?_);obtain ⟨rfl,rfl,rfl⟩:=hΦ;refine ay 1 0 BQ rfl rfl rfl aO aO ht (fun r os' tk' hΦ _ _=>?_);obtain ⟨rfl,rfl,rfl⟩:=hΦ;refine ay 1 0 FI rfl rfl rfl aO aO hw (fun r os' tk' hΦ _ _=>?_);obtain ⟨rfl,rfl,rfl⟩:=hΦ;refine ay 1 0 Kw rfl rfl rfl aO aO DG (fun r os' tk' hΦ _ _=>?_);obtain ⟨rfl,rfl,rfl⟩:=hΦ;exact ⟨.agg (Ll 0 f2),[bg _],aO,aO,rfl,rfl,rfl⟩
theorem JO {c:aU} (h:aR c) {t:oh} (hp:c.cF=t) (hk:t.k≠0):Ev prog 246 [.loc 0 0,.v (.int .i64 t.k)] [bg c] [] (mg (.bS [.agg (ru t),.v (.bool true)]) { c with p:=c.p + 1 }):=by
 have ht:=sy c h t.k;have e0:c.tk t.k=true:=by rw [aU.tk,hp];simp [hk]
 have e1:c.EA t.k=t:=by rw [aU.EA,e0,zIfP rfl,hp]
 have e2:c.KT t.k={ c with p:=c.p + 1 }:=by rw [aU.KT,e0,zIfP rfl,aU.step,hp,ah hk]
 rw [e0,e1,e2] at ht;exact ht
theorem D4 (c:aU) (h:aR c) (a e n:Int) (hp:c.cF=⟨1,a,e,Cs,n⟩) (hd:c.d < 24):Ev prog 166 [wI] [bg c] [] (mg (.agg (Ll 1 a)) { c with p:=c.p + 1 }):=by
 have MF:=dT c h;rw [hp] at MF;have he:=yN h hd;have ht:=JO (qi h hd) (show aU.cF { c with d:=c.d + 1 }=⟨1,a,e,Cs,n⟩ from hp) (by simp);have hb:=D2 { c with d:=c.d + 1,p:=c.p + 1 } 0 a;have hs:aR c.step:=h.step;have e2:c.step={ c with p:=c.p + 1 }:=by rw [aU.step,hp,ah (by simp)]
 rw [e2] at hs;have DG:=yO hs hd;obtain ⟨l,p,d,f1,f2⟩:=c;refine eG 42 [.cell 2 36] func166 rfl ntmps166 rfl fun _ _ _ _=>?_;refine ay 1 0 mR rfl rfl rfl aO aO MF (fun r os' tk' hΦ _ _=>?_);obtain ⟨rfl,rfl,rfl⟩:=hΦ;refine ay 1 0 KC rfl rfl rfl aO aO he (fun r os' tk' hΦ _ _=>?_);obtain ⟨rfl,rfl,rfl⟩:=hΦ;refine ay 1 0 BQ rfl rfl rfl aO aO ht (fun r os' tk' hΦ _ _=>?_);obtain ⟨rfl,rfl,rfl⟩:=hΦ;refine CallG.I5 1 3 rfl rfl rfl rfl ?_;refine ay 2 0 PF rfl rfl rfl aO aO hb (fun r os' tk' hΦ _ _=>?_);obtain ⟨rfl,rfl,rfl⟩:=hΦ;refine ay 1 0 Kw rfl rfl rfl aO aO DG (fun r os' tk' hΦ _ _=>?_);obtain ⟨rfl,rfl,rfl⟩:=hΦ;exact ⟨.agg (Ll 1 a),[bg _],aO,aO,rfl,rfl,rfl⟩
abbrev ez:ByteArray:=⟨#[108,101,118,101,108,115]⟩
abbrev HA:ByteArray:=⟨#[111,114,100,101,114]⟩
abbrev Lm:ByteArray:=⟨#[116,121,112,101]⟩
abbrev uS:ByteArray:=⟨#[114,111,111,116]⟩
abbrev nC:ByteArray:=⟨#[123]⟩
abbrev kL:ByteArray:=⟨#[125]⟩
def D5 (c:aU) (a:List Wd):aU × List Wd:=(c.gD,a ++ [c.pu])
def yP (c:aU) (a:List Wd):Prop:=a.length<=c.p∨(c.f.1≠0/\a.length<=c.p + 1)
theorem RQ {c:aU} {k:Int} (h:c.tk k=true):¬ c.cF.k=0:=by
 simp only [aU.tk,bA,Bool.not_eq_true',decide_eq_false_iff_not] at h;exact h.1
theorem JP {c:aU}:c.wrong.f.1≠0:=by
 unfold aU.wrong aU.fail aU.gC;by_cases h0:c.f.1=0
 ·by_cases h1:c.cF.k=0
  ·rw [zIfP ⟨h0,by rw [zIfP h1];decide⟩,zIfP h1];simp
  ·rw [zIfP ⟨h0,by rw [ah h1];decide⟩,ah h1];simp
 ·rw [ah (fun g=>h0 g.1)];exact h0
theorem nD (c:aU):c.wrong.l=c.l/\c.wrong.p=c.p/\c.wrong.d=c.d:=by
 unfold aU.wrong aU.fail aU.gC
 repeat' split
 all_goals exact ⟨rfl,rfl,rfl⟩
theorem uT (c:aU) (s:ByteArray):c.p<=(c.gJ s).p:=by
 unfold aU.gJ aU.step;split
 ·split
  ·exact zLeR _
  ·exact Nat.le_succ _
 ·rw [(nD c).2.1];exact zLeR _
theorem JQ (c:aU) (a:List Wd) (h:aR c) (hi:yP c a) (hf:c.f.1=0):Li (fun _=>Lk) (fun _=>Lj) Hv JN D5 yP 161 3 1 c a where
 ok:=h.gD
 l:=by
  show c.gD.l=c.l;unfold aU.gD aU.step;split
  ·split<;>rfl
  ·exact (nD c).1
 p:=by
  show c.p<=c.gD.p;unfold aU.gD aU.step;split
  ·split
   ·exact zLeR _
   ·exact Nat.le_succ _
  ·rw [(nD c).2.1];exact zLeR _
 inv:=by
  have ha:a.length<=c.p:=by
   rcases hi with h1 | h1
   ·exact h1
   ·exact absurd hf h1.1
  show yP c.gD (a ++ [c.pu]);unfold yP aU.gD;rw [List.length_append]
  cases ht:c.tk 1 with
  | true=>
   rw [zIfP rfl,aU.step,ah (RQ ht)];exact .inl (Nat.succ_le_succ ha)
  | false=>
   rw [ah (by simp)];exact .inr ⟨JP,by rw [(nD c).2.1];exact Nat.succ_le_succ ha⟩
 ev:=yM c h a (by
  have h1:=h.lt;have h2:=h.len
  rcases hi with h3 | h3<;>omega)
theorem HB (c:aU) (a:List Wd) (_:aR c) (hi:yP c a):yP (c.gJ ⟨#[44]⟩) a:=by
 rcases hi with h1 | ⟨h1,h2⟩
 ·exact .inl (Nat.le_trans h1 (uT c _))
 ·rw [yK h1];exact .inr ⟨h1,h2⟩
theorem yQ (N:Nat) (c:aU) (h:aR c) (hN:c.l.length<=c.p + N) (hf:yP c []):Ev prog 160 [wI,.v (.string kL),.v (.bool false),.fn 161 [] [.loc 3 0,.loc 1 0]] [bg c,Lk,Lj,Hv []] [JN []]
  (fun r os tk=>r = .bS []/\os=[bg (listF D5 kL N c []).1,Lk,Lj,Hv (listF D5 kL N c []).2]/\tk=[JN (listF D5 kL N c []).2]):=
 A4 (A:=fun _=>Lk) (B:=fun _=>Lj) (C:=Hv) (T:=JN) (f:=D5) (Inv:=yP) (by decide) (by decide) (fun _=>rfl) (fun _=>rfl) (fun _=>rfl) Pj JQ HB kL N c [] h hf hN
abbrev Ct (k a:Int):Ty:=.mk ⟨k,a,0,0,0,[],⟨aJ,0⟩⟩ .nil
abbrev RR (c:aU) (a:List Wd):St:=⟨[aF 1 1,aF 2 2,aF 3 3],[bg c,Lk,Lj,Hv a],[JN a]⟩
theorem sC (c0:aU) (h0:aR c0) (N:Nat) (hN:(c0.kw ez).l.length<=(c0.kw ez).p + N) (c3:aU) (a:List Wd) (h3:aR c3) (hl:listF D5 kL N ((c0.kw ez).gJ nC) []=(c3,a)) (ho:c3.is 1 HA=false) (ht:c3.is 1 Lm=false) (k cW:Int) (c5:aU)
  (hk:Ev prog 166 [wI] [bg (c3.kw uS)] [] (mg (.agg (Ll k cW)) c5)):Ev prog 86 [wI] [bg c0] [] (mg (.agg (cM ⟨a,[],[],Ct k cW⟩)) c5):=by
 have Xf:=nB c0 h0 ez;have h1:=h0.kw ez;have hnd:=uR _ h1 nC
 have JJ:=yQ N _ (h1.gJ nC) (by
  rw [aU.Hr];have:=uT (c0.kw ez) nC
  omega) (.inl (Nat.zero_le _))
 rw [hl] at JJ;have zS:=oS c3 h3 HA;have zp:=oS c3 h3 Lm;rw [ho,aU.Ez,ho,ah (by simp)] at zS;rw [ht,aU.Ez,ht,ah (by simp)] at zp;have K8:=nB c3 h3 uS;simp only at JJ;generalize c3.kw uS=c4 at K8 hk;generalize (c0.kw ez).gJ nC=c2 at hnd JJ;generalize (c0.kw ez).is 4 nC=B1 at hnd;generalize c0.kw ez=c1 at Xf hnd;refine eG 46 [.cell 2 38] func86 rfl ntmps86 rfl fun _ _ _ _=>?_;refine ay 1 0 Ko rfl rfl rfl aO aO Xf (fun r os' tk' hΦ _ _=>?_);obtain ⟨rfl,rfl,rfl⟩:=hΦ;refine ay 1 0 Kp rfl rfl rfl aO aO hnd (fun r os' tk' hΦ _ _=>?_);obtain ⟨rfl,rfl,rfl⟩:=hΦ;refine Hu ⟨0,34,2,none⟩ (RR c2 []) rfl ?_ rfl ?_ ?_ rfl rfl ?_
 ·repeat' (first | exact rfl | exact au rfl | refine ⟨_,_,rfl,?_,?_⟩)
 ·repeat' (first | exact rfl | exact au rfl | exact cT (zLeR _) rfl | refine ⟨_,_,rfl,?_,?_⟩)
 ·repeat' (first | exact trivial | exact au rfl | refine ⟨⟨_,rfl,?_⟩,?_⟩)
 refine ay 4 1 Pg rfl rfl rfl aO aO JJ (fun r os' tk' hΦ _ _=>?_);obtain ⟨rfl,rfl,rfl⟩:=hΦ;refine ay 1 0 BM rfl rfl rfl aO aO zS (fun r os' tk' hΦ _ _=>?_);obtain ⟨rfl,rfl,rfl⟩:=hΦ;refine lI (fun j st=>st=RR c3 a/\j=0) ⟨rfl,rfl⟩ (ep 4 zB pE) ?_;rintro j st ⟨rfl,rfl⟩;refine ay 1 0 BM rfl rfl rfl aO aO zp (fun r os' tk' hΦ _ _=>?_);obtain ⟨rfl,rfl,rfl⟩:=hΦ;refine ay 1 0 Ko rfl rfl rfl aO aO K8 (fun r os' tk' hΦ _ _=>?_);obtain ⟨rfl,rfl,rfl⟩:=hΦ;refine ay 1 0 Pl rfl rfl rfl aO aO hk (fun r os' tk' hΦ _ _=>?_);obtain ⟨rfl,rfl,rfl⟩:=hΦ;exact ⟨.agg (cM _),[bg c5],aO,aO,rfl,rfl,rfl⟩
theorem JR (c:aU) (h:aR c) (hf:c.f.1≠0):Ev prog 87 [wI] [bg c] [] (mg c.f.d c):=by
 have h1:=mi c;rw [decide_eq_false hf] at h1;have h2:=mh c;obtain ⟨l,p,d,f1,f2⟩:=c;refine eG 18 [.cell 2 26] func87 rfl ntmps87 rfl fun _ _ _ _=>?_;refine ay 1 0 Fz rfl rfl rfl aO aO h1 (fun r os' tk' hΦ _ _=>?_);obtain ⟨rfl,rfl,rfl⟩:=hΦ;refine ay 1 0 Fx rfl rfl rfl aO aO h2 (fun r os' tk' hΦ _ _=>?_);obtain ⟨rfl,rfl,rfl⟩:=hΦ;exact ⟨Ft.d (f1,f2),[bg _],aO,aO,rfl,rfl,rfl⟩
theorem Np (c:aU) (h:aR c) (hf:c.f.1=0) (hp:c.cF.k=0):Ev prog 87 [wI] [bg c] [] (mg c.f.d c):=by
 have h1:=mi c;rw [decide_eq_true hf] at h1;have h2:=mh c;have h3:=dT c h;generalize c.cF=t at hp h3;obtain ⟨tk,ta,te,ts,tn⟩:=t;simp only at hp;subst hp;obtain ⟨l,p,d,f1,f2⟩:=c;refine eG 18 [.cell 2 26] func87 rfl ntmps87 rfl fun _ _ _ _=>?_;refine ay 1 0 Fz rfl rfl rfl aO aO h1 (fun r os' tk' hΦ _ _=>?_);obtain ⟨rfl,rfl,rfl⟩:=hΦ;refine ay 1 0 mR rfl rfl rfl aO aO h3 (fun r os' tk' hΦ _ _=>?_);obtain ⟨rfl,rfl,rfl⟩:=hΦ;refine ay 1 0 Fx rfl rfl rfl aO aO h2 (fun r os' tk' hΦ _ _=>?_);obtain ⟨rfl,rfl,rfl⟩:=hΦ;exact ⟨Ft.d (f1,f2),[bg _],aO,aO,rfl,rfl,rfl⟩
abbrev Nq:Sch:=⟨[],[],[],Ct 0 0⟩
theorem uU (s:ByteArray) (l:List oh) (ES:aV prog 157 [.v (.string s)] (.bS [.sl 5 (fZ l) none,Ft.d (0,0)])) (S:Sch) (c5 c6:aU) (f:Ft) (VA:Ev prog 86 [wI] [bg (A0 l)] [] (mg (.agg (cM S)) c5)) (sY:Ev prog 87 [wI] [bg c5] [] (mg f.d c6)) :
  aV prog 35 [.v (.string s)] (.bS [.agg (cM (if f.1=0 then S else Nq)),f.d]):=by
 have cG:=Ni s l ES;generalize hQ:(if f.1=0 then S else Nq)=Q;obtain ⟨ae,order,types,⟨rh,rp⟩⟩:=S;refine eG 31 [.cell 2 38,.cell 3 26] func35 rfl ntmps35 rfl fun _ _ _ _=>?_;refine Mz TW rfl cG ax (fun r os hΦ=>?_);obtain ⟨rfl,rfl⟩:=hΦ;refine CallG.I5 0 2 rfl rfl rfl rfl ?_;refine ay 1 0 TX rfl rfl rfl aO aO VA (fun r os' tk' hΦ _ _=>?_);obtain ⟨rfl,rfl,rfl⟩:=hΦ;refine ay 1 0 TY rfl rfl rfl aO aO sY (fun r os' tk' hΦ _ _=>?_);obtain ⟨rfl,rfl,rfl⟩:=hΦ;refine br ?_ ?_<;>intro g
 ·have g:¬ f.1=0:=sU g;rw [ah g] at hQ;subst hQ;refine fO [1,2] (fun _=>false) mo (by decide +kernel) ?_;exact ⟨_,ax,rfl⟩
 ·have g:f.1=0:=sU g;rw [zIfP g] at hQ;subst hQ;refine fO [1,2] (fun _=>false) mo (by decide +kernel) ?_;exact ⟨_,ax,rfl⟩
theorem uV (l:List oh) (e:Int) (hl:l.length<=1099511627775):aR (A0 (l ++ [j5 e])) where
 lt:=by show 0 < (l ++ [j5 e]).length;simp
 nx:=fun i t hi hk=>by
  show i + 1 < (l ++ [j5 e]).length;have hi:(l ++ [j5 e])[i]? = some t:=hi;rw [List.getElem?_append] at hi;split at hi
  ·rename_i h;simp;omega
  ·rename_i h;have h2:=(gS hi).1;have h3:i - l.length=0:=by simp at h2;omega
   rw [h3] at hi;simp only [List.getElem?_cons_zero,oI] at hi;subst hi;exact absurd rfl hk
 len:=by show (l ++ [j5 e]).length<=_;simp;omega
 dl:=by show 0<=24;omega
end Go.Proofs.YtfdedoiiahbnnaaGreat
set_option maxRecDepth 100000
namespace Go.Proofs
open Go.Shelf
def Tryz.lays217_ren:Go.Shelf.Ren:=⟨fun | 217=>353 | 266=>361 | n=>n,fun | 9=>9 | 3=>3 | 5=>5 | n=>n,fun | n=>n⟩
theorem Tryz.lays217:Go.Proofs.Lays.n217 prog Tryz.lays217_ren:={
 mixed:=by kernel_rfl
 f217:=func353.trans (congrArg some (by kernel_rfl))
 f266:=func361.trans (congrArg some (by kernel_rfl))
 t3:=Tryz.underlying3
 a3:=Tryz.isAgg3
 z3:=Tryz.sizeOf3
 v3:=Tryz.zeroValue3
 t5:=Tryz.underlying5
 a5:=Tryz.isAgg5
 z5:=Tryz.sizeOf5
 v5:=Tryz.zeroValue5
 t9:=Tryz.underlying9
 a9:=Tryz.isAgg9
 z9:=Tryz.sizeOf9
 v9:=Tryz.zeroValue9 }
end Go.Proofs
namespace Go.Proofs.YtfdedoiiahbnnaaGreat
open Go Go.RowKit Dv Go.Proofs.Tryz
theorem D6 (s:ByteArray) (c:Int):aV prog 353 [.v (.string s),.v (.int .u8 c)] (.v (.int .i64 (Lib.indexByte (tx s) c.toNat.toUInt8))):=by
 refine C8 fun E w vs hE hv=>?_;simp only [RvL] at hv;obtain ⟨v1,s1,rfl,h1,v2,s2,rfl,h2,rfl⟩:=hv;have h1:=bn h1;have h2:=bn h2;subst h1 h2;refine (Any.stringslite_IndexByte Tryz.lays217 s c w).mono ?_;rintro e w' ⟨rfl,rfl⟩;exact ⟨_,rfl,dQ rfl,Below.refl _ _⟩
theorem HC (s:ByteArray) (c:Int):aV prog 333 [.v (.string s),.v (.int .u8 c)] (.v (.int .i64 (Lib.indexByte (tx s) c.toNat.toUInt8))):=by
 refine eG 8 [.tmp 4] func333 rfl ntmps333 rfl fun _ _ _ _=>?_;refine cP PV (D6 s c) ?_;exact (rfl:_=_)
def A5 (s p:ByteArray):Bool:=decide (p.size<=s.size) && decide (s.extract 0 p.size=p)
theorem A6 (s p:ByteArray) (hs:s.size<=4611686018427387904):aV prog 352 [.v (.string s),.v (.string p)] (.v (.bool (A5 s p))):=by
 refine eG 18 [.tmp 4] func352 rfl ntmps352 rfl fun _ _ _ _=>?_;refine br ?_ ?_<;>intro g
 ·have g1:p.size<=s.size:=sU g;refine ⟨⟨by omega,by omega,by omega⟩,?_⟩;refine congrArg (fun z=>DV.v (Value.bool z)) ?_;unfold A5;rw [decide_eq_true g1,Bool.true_and];rfl
 ·have g1:¬ p.size<=s.size:=sU g;refine congrArg (fun z=>DV.v (Value.bool z)) ?_;unfold A5;rw [decide_eq_false g1,Bool.false_and]
theorem D7 (s p:ByteArray) (hs:s.size<=4611686018427387904):aV prog 332 [.v (.string s),.v (.string p)] (.v (.bool (A5 s p))):=by
 refine eG 8 [.tmp 4] func332 rfl ntmps332 rfl fun _ _ _ _=>?_;refine cP PU (A6 s p hs) ?_;exact (rfl:_=_)
end Go.Proofs.YtfdedoiiahbnnaaGreat
set_option maxRecDepth 100000
namespace Go.Proofs.YtfdedoiiahbnnaaGreat
open Go Go.RowKit Dv Go.Proofs.Tryz
def wh (c:Nat):Bool:=decide (c=32) || decide (c=10) || decide (c=9) || decide (c=13)
theorem A7 (c:Nat):aV prog 242 [.v (.int .u8 c)] (.v (.bool (wh c))):=by
 refine eG 17 [.tmp 2] func242 rfl ntmps242 rfl fun _ _ _ _=>?_;refine congrArg (fun z=>DV.v (Value.bool z)) ?_;unfold wh;simp only [aj];have e1:decide ((c:Int)=32)=decide (c=32):=decide_eq_decide.2 (by omega);have e2:decide ((c:Int)=10)=decide (c=10):=decide_eq_decide.2 (by omega);have e3:decide ((c:Int)=9)=decide (c=9):=decide_eq_decide.2 (by omega);have e4:decide ((c:Int)=13)=decide (c=13):=decide_eq_decide.2 (by omega);rw [e1,e2,e3,e4]
def wi:ByteArray:=⟨#[123,125,91,93,40,41,44,58,61,60,62,64,43,35,126,42]⟩
def D8:ByteArray:=⟨#[46,46]⟩
def yR (s:ByteArray) (i:Nat):ByteArray:=if A5 (s.extract i s.size) D8=true then D8 else if 0<=Lib.indexByte (tx wi) (bq s i).toUInt8 then s.extract i (i + 1) else ⟨#[]⟩
theorem sD (s:ByteArray) (hs:s.size<=1099511627776) (i:Nat) (hi:i < s.size):aV prog 290 [.v (.string s),.v (.int .i64 i)] (.v (.string (yR s i))):=by
 have hp:=D7 (s.extract i s.size) D8 (by simp;omega);have hx:=HC wi (bq s i:Nat);have hM:yR s i=if A5 (s.extract i s.size) D8=true then D8 else if 0<=Lib.indexByte (tx wi) (bq s i).toUInt8 then s.extract i (i + 1) else ⟨#[]⟩:=rfl
 rw [sG] at hx;generalize yR s i=M at hM ⊢;generalize A5 (s.extract i s.size) D8=B at hp hM;generalize Lib.indexByte (tx wi) (bq s i).toUInt8=I at hx hM
 have hw:IntKind.i64.wrap ((i:Int) + 1)=((i + 1:Nat):Int):=by
  rw [wrap64 (by omega) (by omega)];omega
 refine eG 30 [.tmp 4] func290 rfl ntmps290 rfl fun _ _ _ _=>?_;refine br (fun g=>?_) (fun _=>?_)
 ·exfalso;simp [aj] at g;omega
 refine ⟨⟨by omega,by omega,by omega⟩,?_⟩;refine cP PQ hp ?_
 cases B with
 | true=>
  rw [zIfP rfl] at hM;rw [hM];exact (rfl:_=_)
 | false=>
  rw [ah (by simp)] at hM;refine ⟨⟨by omega,by omega⟩,?_⟩;refine cP PR hx ?_;refine br ?_ ?_<;>intro g
  ·have g:0<=I:=sU g;rw [zIfP g] at hM;rw [hM];refine ⟨⟨by omega,by rw [hw];omega,by rw [hw];omega⟩,?_⟩;rw [hw];exact (rfl:_=_)
  ·have g:¬ 0<=I:=sU g;rw [ah g] at hM;rw [hM];exact (rfl:_=_)
abbrev HD (t:oh):DV:=.bS [.agg (ru t),Ft.d (0,0)]
theorem A8 (s:ByteArray) (hs:s.size<=1099511627776) (i:Nat) (hi:i < s.size) (e:Nat) (he:i + cp (s.data.toList.drop i)=e) (hn:i < e) (hr:aX (s.extract i e)=true) :
  aV prog 244 [.v (.string s),.v (.int .i64 i)] (HD ⟨1,i,e,s.extract i e,0⟩):=by
 have ht:=kW s i hi (by omega);rw [he] at ht
 have za:e<=s.size:=by
  have:=q4 (s.data.toList.drop i);simp at this;omega
 have Rx:=fC (s.extract i e) (by simp;omega);rw [hr] at Rx
 have bi:¬ s.extract i e=⟨#[]⟩:=fun h=>by
  have:=congrArg ByteArray.size h;simp at this;have h2:(ByteArray.mk #[]).size=0:=rfl;omega
 generalize s.extract i e=M at *;refine eG 103 [.cell 4 218,.cell 5 26] func244 rfl ntmps244 rfl fun _ _ _ _=>?_;refine cP xA ht ?_;refine br (fun _=>?_) (fun g=>absurd (show M=⟨#[]⟩ by simpa using g) bi);refine cP CP Rx ?_;exact ⟨_,ax,rfl⟩
theorem jW (s:ByteArray) (hs:s.size<=1099511627776) (i:Nat) (hi:i < s.size) (hn:cp (s.data.toList.drop i)=0) (M:ByteArray) (hM:yR s i=M) (bi:¬ M=⟨#[]⟩) (cR:M.size<=2) :
  aV prog 244 [.v (.string s),.v (.int .i64 i)] (HD ⟨4,i,(i + M.size:Nat),M,0⟩):=by
 have ht:=kW s i hi (by omega);rw [hn,jJ] at ht;have hm:=sD s hs i hi;rw [hM] at hm
 have hw:IntKind.i64.wrap ((i:Int) + M.size)=((i + M.size:Nat):Int):=by
  rw [wrap64 (by omega) (by omega)];omega
 have hX:=congrArg (fun z=>DV.v (Value.int .i64 z)) hw;refine eG 103 [.cell 4 218,.cell 5 26] func244 rfl ntmps244 rfl fun _ _ _ _=>?_;refine cP xA ht ?_;refine cP KH hm ?_;refine br (fun _=>?_) (fun g=>absurd (show M=⟨#[]⟩ by simpa using g) bi);exact ⟨_,(by repeat' (first | exact rfl | exact trivial | exact Or.inr (Or.inl ⟨_,rfl⟩) | exact Or.inr ⟨_,rfl⟩ | exact Or.inl ⟨rfl,rfl⟩ | exact Or.inl rfl | refine Or.inr ⟨_,_,rfl,Nat.zero_le _,rfl,?_⟩ | refine ⟨_,_,rfl,?_,?_⟩ | refine ⟨_,rfl,?_⟩ | exact hX | refine Or.inr (Or.inr (Or.inr ⟨_,_,rfl,?_⟩)) | exact Or.inl rfl | refine Or.inr ?_)),rfl⟩
theorem D9 (s:ByteArray) (hs:s.size<=1099511627776) (i:Nat) (hi:i < s.size) (hn:cp (s.data.toList.drop i)=0) (hM:yR s i=⟨#[]⟩) (hc:bq s i=45∨48<=bq s i/\bq s i<=57) (z:Int) (e:Nat)
  (hd:aV prog 291 [.v (.string s),.v (.int .i64 i)] (.bS [.v (.int .i64 z),.v (.int .i64 e),Ft.d (0,0)])) :
  aV prog 244 [.v (.string s),.v (.int .i64 i)] (HD ⟨2,i,e,aJ,z⟩):=by
 have ht:=kW s i hi (by omega);rw [hn,jJ] at ht;have hm:=sD s hs i hi;rw [hM] at hm;generalize hB:bq s i=c at hc;refine eG 103 [.cell 4 218,.cell 5 26] func244 rfl ntmps244 rfl fun _ _ _ _=>?_;refine cP xA ht ?_;refine cP KH hm ?_;refine ⟨⟨by omega,by omega⟩,?_⟩;refine br (fun _=>?_) (fun g=>?_)
 ·refine cP PN hd ?_;refine fO [0,1] (fun _=>false) mo (by decide +kernel) ?_;exact ⟨_,ax,rfl⟩
 ·exfalso;rw [sG,hB] at g;simp [aj,av] at g;omega
inductive jX (s:ByteArray):Nat->List oh->Prop
 | nil:jX s s.size []
 | blank {i:Nat} {l:List oh}:i < s.size->wh (bq s i)=true->jX s (i + 1) l->jX s i l
 | tok {i e:Nat} {t:oh} {l:List oh}:i < s.size->wh (bq s i)=false->bq s i≠59->aV prog 244 [.v (.string s),.v (.int .i64 i)] (HD t)->t.e=e->i < e->e<=s.size->jX s e l->jX s i (t :: l)
abbrev RS (s:ByteArray) (L:List oh) (q cW:Nat):St:=⟨[(0,⟨[],.v (.string s)⟩),(2,⟨[],.v (.slice none 0 0)⟩),aF 3 0,(4,⟨[],.sl 5 (fZ L) (some 0)⟩),aF 5 1,aq 6 cW],[KS,KS],[⟨q,218,5,none⟩]⟩
theorem uW (s:ByteArray) (hs:s.size<=65536) (l:List oh) (hl:jX s 0 l):aV prog 157 [.v (.string s)] (.bS [.sl 5 (fZ (l ++ [j5 s.size])) none,Ft.d (0,0)]):=by
 refine eG 63 [.tmp 2,.cell 3 26] func157 rfl ntmps157 rfl fun _ _ _ _=>?_;refine br (fun g=>absurd (show 65536 < s.size by have:=of_decide_eq_true g;omega) (by omega)) (fun _=>?_);refine lI (fun j st=>∃ (i q:Nat) (L r:List oh),st=RS s L q i/\q=L.length/\jX s i r/\L ++ r=l/\L.length<=i/\i<=s.size/\j=s.size - i) ⟨0,0,[],l,rfl,rfl,hl,rfl,by simp,by omega,rfl⟩ (eS 2 ⟨0,218,5,none⟩ rfl rfl rfl zB rfl rfl pE) ?_;rintro j st ⟨i,q,L,r,rfl,hq,hr,SV,hLi,Wi,rfl⟩;refine br (fun ap=>?_) (fun hge=>?_)
 ·have ap:i < s.size:=sU ap;have hb:=A7 (bq s i);refine ⟨⟨by omega,by omega⟩,?_⟩
  cases hr with
  | nil=>omega
  | blank _ h1 h2=>
   rw [h1] at hb;refine cP KA hb ?_;exact ⟨RS s L q (i + 1),(ep 2 (ve (aT ap (by omega))) (c8 (aT ap (by omega)))),s.size - (i + 1),by omega,i + 1,q,L,_,rfl,hq,h2,SV,by omega,by omega,rfl⟩
  | @tok _ e t l' _ h1 h2 h3 h4 h5 h6 h7=>
   rw [h1] at hb;refine cP KA hb ?_;refine ⟨⟨by omega,by omega⟩,?_⟩;refine br (fun g=>absurd (show bq s i=59 by have:=of_decide_eq_true g;rw [sG] at this;omega) h2) (fun _=>?_);obtain ⟨tk,ta,te,ts,tn⟩:=t;simp only at h4;subst h4;refine cP PE h3 ?_;refine ⟨(fH L).trans hq.symm,⟨by simp [maxLen,fH];omega,by simp [fH];omega⟩,?_⟩;exact rE ⟨_,by omega,e,q + 1,L ++ [⟨tk,ta,e,ts,tn⟩],l',rfl,by simp [hq],h7,by simpa using SV,by simp;omega,h6,rfl⟩ (ep 2 (ve (lV L ⟨tk,ta,e,ts,tn⟩)) (c8 (lV L ⟨tk,ta,e,ts,tn⟩)))
 ·have hge:s.size=i:=by
   have:=of_decide_eq_false hge;omega
  subst hge
  cases hr with
  | nil=>
   rw [List.append_nil] at SV;subst SV;refine fO [0] (fun _=>false) mo (by decide +kernel) ?_;refine ⟨(fH L).trans hq.symm,⟨by simp [maxLen,fH];omega,by simp [fH];omega⟩,?_⟩;rw [<- lV];exact ⟨_,ax,rfl⟩
  | blank h=>exact absurd h (Nat.lt_irrefl _)
  | tok h=>exact absurd h (Nat.lt_irrefl _)
def yS (f:Nat->Nat->Bool) (c k:Nat):Bool:=(List.range k).all (f c)
theorem Ea (f:Nat->Nat->Bool) (c k:Nat):yS f c (k + 1)=(yS f c k && f c k):=by simp [yS,List.range_succ]
theorem yT (f:Nat->Nat->Bool) (n c:Nat):oA f n [] c=yS f c n:=by simp [oA,fb,yS]
abbrev Ln (n:Nat) (f:Nat->Nat->Bool) (e:Nat):St:=⟨[aS 0 1 (ch (cH n f)),aq 3 e],[],[]⟩
abbrev RT (n:Nat) (f:Nat->Nat->Bool) (e:Nat) (x:Bool) (k:Nat):St:=⟨[aS 0 1 (ch (cH n f)),aq 3 e,xm 4 x,aq 5 k],[],[]⟩
theorem s5 (n:Nat) (f:Nat->Nat->Bool) (hn:n<=64):aV prog 48 [.sl 1 (ch (cH n f)) none] (.v (.int .i64 (oz (dx f n [])))):=by
 have fg:=fM n f;refine eG 30 [.tmp 2] func48 rfl ntmps48 rfl fun _ _ _ _=>?_;refine lI (fun j st=>∃ e:Nat,st=Ln n f e/\e<=n/\(∀ c,c < e->oA f n [] c=false)/\j=n - e) ⟨0,rfl,by omega,fun _ h=>by omega,rfl⟩ (bc wB) ?_;rintro j st ⟨e,rfl,he,hno,rfl⟩;refine br ?_ ?_<;>intro hL
 ·have ap:e < n:=sV fg hL;refine lJ (fun k=>RT n f e (yS f e k) k) n (bc (by repeat' (first | exact trivial | exact au rfl | exact cz rfl | refine ⟨⟨_,rfl,?_⟩,?_⟩))) ?_;intro k hk;refine br ?_ ?_<;>intro j2
  ·have eo:k < n:=sV fg j2;have DP:=Ea f e k;refine br ?_ ?_<;>intro g
   ·refine iX (dg ap) ?_;refine iX (cE eo) ?_;have g:yS f e k=true:=sU g;rw [g,Bool.true_and] at DP;exact rE ⟨_,by omega,k + 1,rfl,by omega,rfl⟩ (bc (hY (aT eo (by omega)) DP.symm))
   ·have g:yS f e k=false:=sU g;rw [g,Bool.false_and] at DP;exact rE ⟨_,by omega,k + 1,rfl,by omega,rfl⟩ (bc (hY (aT eo (by omega)) DP.symm))
  ·have hge:k=n:=sW fg j2;subst hge;refine br ?_ ?_<;>intro g
   ·have g:oA f k [] e=true:=by rw [yT];exact g
    rw [dx,cg ap g hno];exact (rfl:_=_)
   ·have g:oA f k [] e=false:=by rw [yT];exact g
    refine ⟨Ln k f (e + 1),(bc (c8 (aT ap (by omega)))),k - (e + 1),by omega,e + 1,rfl,by omega,fun j hj=>?_,rfl⟩;rcases ka hj with hj | rfl
    ·exact hno j hj
    ·exact g
 ·have hge:e=n:=sW fg hL;subst hge;rw [dx,cA hno];exact (rfl:_=_)
def kM (K:List Nat) (e:Ed):Nat:=K.getD e.to.toNat 0
def leastR (K:List Nat):List Ed->Nat->Nat
 | [],m=>m + 1
 | e :: r,m=>if kM K e=0 then 0 else leastR K r (max m (kM K e))
def bZ (K:List Nat):List Ed->Nat->Nat
 | [],b=>if b=0 then 0 else b + 1
 | e :: r,b=>if e.bare=true then 1 else if 0 < kM K e/\(b=0∨kM K e < b) then bZ K r (kM K e) else bZ K r b
def bB (n:Nd) (K:List Nat):Nat:=if n.ai=7 then leastR K n.bh 0 else if n.ai=8 then bZ K n.bh 0 else 1
def depN (ND:List Nd):Nat->List Nat
 | 0=>List.replicate ND.length 0
 | d + 1=>ND.map fun n=>bB n (depN ND d)
theorem depN_len (ND:List Nd):∀ d,(depN ND d).length=ND.length
 | 0=>by simp [depN]
 | d + 1=>by simp [depN]
theorem depN_get (ND:List Nd) (d j:Nat):(depN ND (d + 1)).getD j 0=match ND[j]? with | none=>0 | some n=>bB n (depN ND d):=by grind [depN]
def Eb (d:Nat) (A B:List Nat):Prop:=∀ j:Nat,(0 < A.getD j 0->B.getD j 0=A.getD j 0/\A.getD j 0<=d)/\(A.getD j 0=0->B.getD j 0=0∨B.getD j 0=d + 1)
theorem wj {d:Nat} {A B:List Nat} (h:Eb d A B) (j:Nat):B.getD j 0<=d + 1:=by
 obtain ⟨h1,h2⟩:=h j;omega
theorem kN {K:List Nat}:∀ {es:List Ed} {m:Nat},leastR K es m=0↔∃ e∈es,kM K e=0
 | [],m=>by simp [leastR]
 | e :: r,m=>by
  rw [leastR];by_cases h:kM K e=0
  ·grind
  ·rw [ah h,kN]
   grind
theorem pv {d:Nat} {A B:List Nat} (hR:Eb d A B):∀ {es:List Ed} {m:Nat},0 < leastR A es m->leastR B es m=leastR A es m
 | [],m,_=>rfl
 | e :: r,m,h=>by
  rw [leastR] at h ⊢;rw [leastR];by_cases h0:kM A e=0
  ·rw [zIfP h0] at h;omega
  rw [ah h0] at h ⊢;have h1:kM B e=kM A e:=((hR e.to.toNat).1 (by unfold kM at h0;omega)).1;rw [h1,ah h0];exact pv hR h
theorem sE {d:Nat} {A B:List Nat} (hR:Eb d A B):∀ {es:List Ed} {m:Nat},m<=d + 1->(m=d + 1∨∃ e∈es,kM A e=0)->leastR B es m=0∨leastR B es m=d + 2
 | [],m,_,h=>by grind [leastR]
 | e :: r,m,hm,h=>by
  rw [leastR];by_cases h0:kM B e=0
  ·rw [zIfP h0];exact .inl rfl
  rw [ah h0];have fN:kM B e<=d + 1:=wj hR _;refine sE hR (by omega) ?_;rcases h with h | ⟨x,hx,h⟩
  ·left;omega
  ·rcases cY hx with rfl | hx
   ·left;have:=(hR x.to.toNat).2 h;unfold kM at h0 fN ⊢;omega
   ·exact .inr ⟨x,hx,h⟩
theorem jY {d:Nat} {A B:List Nat} (hR:Eb d A B):∀ {es:List Ed} {a b:Nat},(0 < a->b=a/\a<=d)->(a=0->b=0∨b=d + 1) ->
  (0 < bZ A es a->bZ B es b=bZ A es a)/\(bZ A es a=0->bZ B es b=0∨bZ B es b=d + 2)
 | [],a,b,h1,h2=>by grind [bZ]
 | e :: r,a,b,h1,h2=>by
  rw [bZ,bZ];by_cases hb:e.bare=true
  ·grind
  rw [ah hb,ah hb];obtain ⟨g1,g2⟩:=hR e.to.toNat;change (0 < kM A e->kM B e=kM A e/\kM A e<=d) at g1;change (kM A e=0->kM B e=0∨kM B e=d + 1) at g2;by_cases c1:0 < kM A e/\(a=0∨kM A e < a)<;>by_cases c2:0 < kM B e/\(b=0∨kM B e < b)
  ·rw [zIfP c1,zIfP c2];exact jY hR (by omega) (by omega)
  ·omega
  ·rw [ah c1,zIfP c2];exact jY hR (by omega) (by omega)
  ·rw [ah c1,ah c2];exact jY hR (by omega) (by omega)
theorem A9 {d:Nat} {A B:List Nat} (hR:Eb d A B) (n:Nd):(0 < bB n A->bB n B=bB n A)/\(bB n A=0->bB n B=0∨bB n B=d + 2):=by
 unfold bB;by_cases h7:n.ai=7
 ·rw [zIfP h7,zIfP h7];exact ⟨pv hR,fun h=>sE hR (by omega) (.inr (kN.1 h))⟩
 grind [jY]
theorem yU (N:Nat) (e:Ed):kM (List.replicate N 0) e=0:=by grind [kM]
theorem pw (N:Nat):∀ es:List Ed,bZ (List.replicate N 0) es 0=0∨bZ (List.replicate N 0) es 0=1
 | []=>.inl rfl
 | e :: r=>by
  rw [bZ,yU];by_cases hb:e.bare=true
  ·rw [zIfP hb];exact .inr rfl
  ·rw [ah hb,ah (by omega)];exact pw N r
theorem yV (N:Nat) (n:Nd):bB n (List.replicate N 0)=0∨bB n (List.replicate N 0)=1:=by
 unfold bB;by_cases h7:n.ai=7
 ·rw [zIfP h7]
  cases h:n.bh with
  | nil=>right;rfl
  | cons e r=>left;rw [leastR,yU,zIfP rfl]
 grind [pw]
theorem uX (ND:List Nd) (j:Nat):(depN ND 0).getD j 0=0:=by grind [depN]
theorem kO (ND:List Nd):∀ d,Eb d (depN ND d) (depN ND (d + 1))
 | 0=>fun j=>by
  refine ⟨fun h=>by rw [uX] at h;omega,fun _=>?_⟩;rw [depN_get]
  cases ND[j]? with
  | none=>exact .inl rfl
  | some n=>exact yV _ n
 | d + 1=>fun j=>by
  have ih:=kO ND d
  grind [depN_get,A9,wj]
theorem JS (ND:List Nd):∀ d j,(depN ND d).getD j 0<=d
 | 0,j=>by rw [uX];omega
 | d + 1,j=>wj (kO ND d) j
def posL (K:List Nat):List Bool:=K.map fun k=>decide (0 < k)
theorem jt (K:List Nat) (j:Nat):(posL K).getD j false=decide (0 < K.getD j 0):=by grind [posL]
theorem posL_len (K:List Nat):(posL K).length=K.length:=by simp [posL]
theorem nE {A B:List Nat} (hl:A.length=B.length) (h:∀ j,A.getD j 0=B.getD j 0):A=B:=by
 refine List.ext_getElem hl fun j h1 h2=>?_;have:=h j
 grind
theorem depN_posle (ND:List Nd) (d:Nat):HZ (posL (depN ND d)) (posL (depN ND (d + 1))):=fun j h=>by
 rw [jt] at h ⊢;have h:=of_decide_eq_true h;have:=((kO ND d) j).1 h;exact decide_eq_true (by omega)
theorem depN_same {ND:List Nd} {d:Nat} (h:posL (depN ND d)=posL (depN ND (d + 1))):depN ND (d + 1)=depN ND d:=by
 refine nE (by rw [depN_len,depN_len]) fun j=>?_;obtain ⟨h1,h2⟩:=(kO ND d) j;rcases Nat.eq_zero_or_pos ((depN ND d).getD j 0) with h3 | h3
 ·have h4:=jt (depN ND d) j
  grind [jt,depN]
 ·exact (h1 h3).1
theorem depN_step (ND:List Nd):∀ d,depN ND (d + 1)=depN ND d∨d<=pK (posL (depN ND d))
 | 0=>.inr (Nat.zero_le _)
 | d + 1=>by
  rcases depN_step ND d with h | h
  ·grind [bB,depN]
  ·rcases (leB_eq (by rw [posL_len,posL_len,depN_len,depN_len]) (depN_posle ND d)).1 with h2 | h2
   ·grind [depN_same,bB,depN]
   ·exact .inr (by omega)
theorem depN_fix {ND:List Nd} {d:Nat} (h:depN ND (d + 1)=depN ND d):∀ k,depN ND (d + k)=depN ND d
 | 0=>rfl
 | k + 1=>by
  show (ND.map fun n=>bB n (depN ND (d + k)))=_;rw [depN_fix h k];exact h
theorem depN_end (ND:List Nd):depN ND (ND.length + 1)=depN ND ND.length:=by grind [depN_step,leB_eq,posL_len,depN_len,depN_posle,depN_same,cntB_le,posL]
theorem JT {ND:List Nd} {d:Nat} (h:depN ND (d + 1)≠depN ND d):d < ND.length:=by
 rcases Nat.lt_or_ge d ND.length with h1 | h1
 ·exact h1
 ·obtain ⟨k,rfl⟩:∃ k,d=ND.length + k:=⟨d - ND.length,by omega⟩;exfalso;have h2:=depN_fix (depN_end ND) k;have h3:=depN_fix (depN_end ND) (k + 1)
  grind
theorem HE {ND:List Nd} {d:Nat} (h:depN ND (d + 1)=depN ND d):depN ND (d + 1)=depN ND ND.length:=by
 rcases Nat.lt_or_ge d ND.length with h1 | h1
 ·obtain ⟨k,hk⟩:∃ k,ND.length=d + k:=⟨ND.length - d,by omega⟩;rw [hk,depN_fix h k,h]
 ·obtain ⟨k,hk⟩:∃ k,d + 1=ND.length + k:=⟨d + 1 - ND.length,by omega⟩;rw [hk,depN_fix (depN_end ND) k]
def pN (K:List Bool) (e:Ed):Bool:=e.bare || K.getD e.to.toNat false
def Cu (n:Nd) (K:List Bool):Bool:=if n.ai < 7 then true else if n.ai=7 then n.bh.all (pN K) else n.bh.any (pN K)
theorem mj {K:List Nat}:∀ {es:List Ed} {b:Nat},0 < bZ K es b↔(0 < b∨es.any (pN (posL K))=true)
 | [],b=>by grind [bZ]
 | e :: r,b=>by
  have hg:(posL K).getD e.to.toNat false=decide (0 < kM K e):=jt K _;rw [bZ,List.any_cons];by_cases hb:e.bare=true
  ·rw [zIfP hb];simp [pN,hb]
  ·rw [ah hb]
   have wH:pN (posL K) e=decide (0 < kM K e):=by
    unfold pN;rw [hg];simp [hb]
   rw [wH,Bool.or_eq_true,decide_eq_true_eq];split
   ·rename_i h1;rw [mj];omega
   ·rename_i h1;rw [mj]
    grind
theorem Ba {n:Nd} {K:List Nat} (h8:n.ai<=8) (hb:∀ e∈n.bh,e.bare=true->n.ai=8):(0 < bB n K)↔Cu n (posL K)=true:=by
 unfold bB Cu
 grind [leastR,kN,kM,posL,jt,pN,mj]
theorem HF {ND:List Nd} (hN:∀ n∈ND,n.ai<=8/\∀ e∈n.bh,e.bare=true->n.ai=8) (d:Nat) {i:Nat} {n:Nd} (h:ND[i]? = some n) :
  (depN ND (d + 1)).getD i 0=(if Cu n (posL (depN ND d))=true/\(depN ND d).getD i 0=0 then d + 1 else (depN ND d).getD i 0) /\
  (posL (depN ND (d + 1))).getD i false=Cu n (posL (depN ND d)):=by
 obtain ⟨h8,hb⟩:=hN n (mG h);have hp:=Ba (K:=depN ND d) h8 hb;have hg:(depN ND (d + 1)).getD i 0=bB n (depN ND d):=by rw [depN_get,h]
 obtain ⟨h1,h2⟩:=(kO ND d) i;refine ⟨?_,?_⟩
 ·grind
 ·grind [jt]
def cN (l:List Nat):List DV:=l.map fun (z:Nat)=>DV.v (.int .i64 (z:Int))
theorem Bb (l:List Nat):(cN l).length=l.length:=by simp [cN]
theorem HG {l:List Nat} {i z:Nat} (h:l[i]? = some z):(cN l)[i]? = some (DV.v (.int .i64 (z:Int))):=by simp [cN,h]
theorem HH (l:List Nat) (i z:Nat):(cN l).set i (DV.v (.int .i64 (z:Int)))=cN (l.set i z):=by simp [cN,List.map_set]
theorem sF (l:List Nat):(dInts l).flatten=cN l:=by
 induction l with
 | nil=>rfl
 | cons b r ih=>simp only [dInts,cN,List.map_cons,List.flatten_cons] at ih ⊢;rw [ih];all_goals rfl
theorem JU (n:Nat):(List.replicate n (vL [Value.int .i64 0])).flatten=cN (List.replicate n 0):=by
 induction n with
 | zero=>rfl
 | succ n ih=>simp only [List.replicate_succ,List.flatten_cons,ih];rfl
theorem bT {n m:Nat} {tk:List TkE} {l:List DV} {r:List Nat} (h:l=cN r):WeL n m tk l (cN r):=by
 subst h;refine rF _ fun x hx=>?_;obtain ⟨z,_,rfl⟩:=List.mem_map.1 hx;exact ⟨_,rfl⟩
theorem Nr {bx:List (List DV)} {N n0 m0 n i:Nat} {r:List Nat} (hr:r.length=n) (hN:N<=i) (hb:bx[i]? = some (cN r)):Cc bx N n0 m0 (.sl 1 (dInts r) none) (.ms i 1 0 n n):=by
 simp only [Cc];refine Or.inr (Or.inr (Or.inl ⟨i,0,n,_,by rw [aY,hr],hN,hb,?_,?_,?_⟩))
 ·grind [sF,Bb,aY]
 ·grind [dInts]
 ·intro x hx;rw [sF] at hx;obtain ⟨_,_,rfl⟩:=List.mem_map.1 hx;exact .inl ⟨_,rfl⟩
abbrev RU (PC:List DV) (ND:List Nd) (q e:Nat):St:=
 ⟨[qO 0 PC,(3,⟨[],.sl 7 (bG (ND.take e)) (some 0)⟩),aq 8 ND.length,aq 9 e],[],[⟨q,82,7,none⟩]⟩
theorem Ec {l:List Nd} {e:Nat} {n:Nd} (h:l[e]? = some n):bG (l.take e) ++ [zg n]=bG (l.take (e + 1)):=by
 rw [List.take_add_one,h];simp [bG]
theorem nF {S:Sch} {ND:List Nd} {PC:List DV} (hP:jo S ND PC) :
  aV prog 100 [.pt PC 0] (.sl 7 (bG ND) none):=by
 have h1:=hP.len;have h2:=hP.ag;have fi:=hP.nl;refine eG 24 [.tmp 2] func100 rfl ntmps100 rfl fun _ _ _ _=>?_;refine cP IF h1 ?_;refine lJ (fun e=>RU PC ND e e) ND.length (dG ⟨0,82,7,none⟩ rfl ⟨_,rfl⟩ rfl wA rfl rfl pE) ?_;intro e he;refine br ?_ ?_<;>intro hL
 ·have ap:e < ND.length:=by have:=hL;simp at this;exact this
  obtain ⟨n,hn⟩:=gX ap;have fg:(bG (ND.take e)).length=e:=by rw [ff,eP];omega
  refine cP Mf (h2 e n hn) ?_;refine ⟨fg,⟨by rw [fg];simp [maxLen];omega,by rw [fg];simp;omega⟩,?_⟩;exact rE ⟨_,by omega,e + 1,rfl,by omega,rfl⟩ (bc (hY (aT ap (by omega)) (Ec hn)))
 ·have hge:e=ND.length:=by have:=hL;simp at this;omega
  subst hge;rw [List.take_length];exact ⟨_,ax,rfl⟩
abbrev Lo (K:List Nat) (es:List Ed) (m e:Nat):St:=
 ⟨[aS 1 1 (dInts K),aq 5 m,aS 16 10 (iy es),aq 17 ((iy es).length),aq 18 e],[],[]⟩
abbrev yW (K:List Nat) (es:List Ed) (m e:Nat):St:=
 ⟨[aS 1 1 (dInts K),aq 8 m,aS 41 10 (iy es),aq 42 ((iy es).length),aq 43 e],[],[]⟩
theorem wm {L:Nat} {n:Nd} (K:List Nat) (hK:K.length<=1099511627776) (hn:yH L K.length n) (hz:∀ z∈K,z<=1099511627776) (za:n.bh.length<=1099511627776) :
  aV prog 185 [.agg (zg n),.sl 1 (dInts K) none] (.v (.int .i64 (bB n K:Nat))):=by
 have nk:=hn.Ai;have HI:=hn.bare;obtain ⟨ai,cW,lo,hi,most,af,es⟩:=n;simp only at nk HI za;refine eG 80 [.tmp 4] func185 rfl ntmps185 rfl fun _ _ _ _=>?_;refine br ?_ ?_<;>intro h7
 ·have h7:ai=7:=sU h7;have hF:bB ⟨ai,cW,lo,hi,most,af,es⟩ K=leastR K es 0:=by simp [bB,h7]
  rw [hF];refine lI (fun j st=>∃ e m:Nat,st=Lo K es m e/\e<=es.length/\m<=1099511627776/\leastR K es 0=leastR K (es.drop e) m/\j=es.length - e) ⟨0,0,rfl,by omega,by omega,rfl,rfl⟩ (bc wB) ?_;rintro j st ⟨e,m,rfl,he,hm,aD,rfl⟩;refine br ?_ ?_<;>intro hL
  ·have ap:e < es.length:=by have:=hL;simp [de] at this;exact this
   obtain ⟨x,hx⟩:=gX ap;rw [drop_cons hx,leastR] at aD;have EY:=nk x (mG hx);have hxb:x.bare=false:=by grind
   obtain ⟨k,hk,xi⟩:=EY.to1 hxb;obtain ⟨z,hz1⟩:∃ z,K[k]? = some z:=⟨_,gE xi⟩;have hzl:=hz z (mG hz1);have VB:kM K x=z:=by simp [kM,hk,dz,hz1]
   have hg:(dInts K)[x.to.toNat]? = some [DV.v (.int .i64 (z:Int))]:=by rw [hk];exact bY hz1
   rw [VB] at aD;refine iX (jk hx) ?_;refine ⟨_,⟨by omega,hg⟩,?_⟩;refine br ?_ ?_<;>intro g
   ·have g:z=0:=sU g;rw [aD,zIfP g];exact (rfl:_=_)
   ·have g:¬ z=0:=sU g;rw [ah g] at aD;refine ⟨_,⟨by omega,hg⟩,?_⟩;exact ⟨Lo K es (max m z) (e + 1),(bc (hY (show max (m:Int) z=((max m z:Nat):Int) by omega) (aT ap (by omega)))),es.length - (e + 1),by omega,e + 1,_,rfl,by omega,by omega,aD,rfl⟩
  ·have hge:e=es.length:=by have:=hL;simp [de] at this;omega
   subst hge;rw [List.drop_length,leastR] at aD;have hw:IntKind.i64.wrap ((m:Int) + 1)=((m + 1:Nat):Int):=by rw [wrap64 (by omega) (by omega)];omega
   rw [aD];refine (qN ?_:);exact hw
 have h7:¬ ai=7:=sU h7;refine br ?_ ?_<;>intro h8
 ·have h8:ai=8:=sU h8;have hF:bB ⟨ai,cW,lo,hi,most,af,es⟩ K=bZ K es 0:=by simp [bB,h8]
  rw [hF];refine lI (fun j st=>∃ e m:Nat,st=yW K es m e/\e<=es.length/\m<=1099511627776/\bZ K es 0=bZ K (es.drop e) m/\j=es.length - e) ⟨0,0,rfl,by omega,by omega,rfl,rfl⟩ (bc wB) ?_;rintro j st ⟨e,m,rfl,he,hm,aD,rfl⟩;refine br ?_ ?_<;>intro hL
  ·have ap:e < es.length:=by have:=hL;simp [de] at this;exact this
   obtain ⟨x,hx⟩:=gX ap;rw [drop_cons hx,bZ] at aD;have EY:=nk x (mG hx);refine iX (jk hx) ?_;refine br ?_ ?_<;>intro hb
   ·have hb:x.bare=true:=hb;rw [aD,zIfP hb];exact (rfl:_=_)
   have hb:x.bare=false:=hb;rw [ah (by rw [hb];decide)] at aD;obtain ⟨k,hk,xi⟩:=EY.to1 hb;obtain ⟨z,hz1⟩:∃ z,K[k]? = some z:=⟨_,gE xi⟩;have hzl:=hz z (mG hz1);have VB:kM K x=z:=by simp [kM,hk,dz,hz1]
   have hg:(dInts K)[x.to.toNat]? = some [DV.v (.int .i64 (z:Int))]:=by rw [hk];exact bY hz1
   rw [VB] at aD;refine ⟨_,⟨by omega,hg⟩,?_⟩;have fx:¬ (0 < z/\(m=0∨z < m))->bZ K es 0=bZ K (es.drop (e + 1)) m:=fun h=>by rw [aD,ah h]
   have take:(0 < z/\(m=0∨z < m))->bZ K es 0=bZ K (es.drop (e + 1)) z:=fun h=>by rw [aD,zIfP h]
   refine br ?_ ?_<;>intro g1
   ·have g1:0 < z:=by simpa [lastG] using g1
    refine br ?_ ?_<;>intro g2
    ·have g2:¬ m=0:=sU g2;refine ⟨_,⟨by omega,hg⟩,?_⟩;refine br ?_ ?_<;>intro g3
     ·have g3:z < m:=by simpa [pickB,pickD,lastG] using g3
      refine ⟨_,⟨by omega,hg⟩,?_⟩;exact ⟨yW K es z (e + 1),(bc (c8 (aT ap (by omega)))),es.length - (e + 1),by omega,e + 1,_,rfl,by omega,by omega,take ⟨g1,.inr g3⟩,rfl⟩
     ·have g3:¬ z < m:=by simpa [pickB,pickD,lastG] using g3
      exact ⟨yW K es m (e + 1),(bc (c8 (aT ap (by omega)))),es.length - (e + 1),by omega,e + 1,_,rfl,by omega,by omega,fx (by omega),rfl⟩
    ·have g2:m=0:=sU g2;refine ⟨_,⟨by omega,hg⟩,?_⟩;exact ⟨yW K es z (e + 1),(bc (c8 (aT ap (by omega)))),es.length - (e + 1),by omega,e + 1,_,rfl,by omega,by omega,take ⟨g1,.inl g2⟩,rfl⟩
   ·have g1:¬ 0 < z:=by simpa [lastG] using g1
    exact ⟨yW K es m (e + 1),(bc (c8 (aT ap (by omega)))),es.length - (e + 1),by omega,e + 1,_,rfl,by omega,by omega,fx (by omega),rfl⟩
  ·have hge:e=es.length:=by have:=hL;simp [de] at this;omega
   subst hge;rw [List.drop_length,bZ] at aD;refine br ?_ ?_<;>intro g
   ·have g:m=0:=sU g;rw [aD,zIfP g];exact (rfl:_=_)
   ·have g:¬ m=0:=sU g;rw [ah g] at aD;have hw:IntKind.i64.wrap ((m:Int) + 1)=((m + 1:Nat):Int):=by rw [wrap64 (by omega) (by omega)];omega
    rw [aD];refine (qN ?_:);exact hw
 ·have h8:¬ ai=8:=sU h8;have hF:bB ⟨ai,cW,lo,hi,most,af,es⟩ K=1:=by simp [bB,h7,h8]
  rw [hF];exact (rfl:_=_)
abbrev wL (lv:List Wd) (f:Nat->Nat->Bool) (ND:List Nd) (z:Int):List DV:=[.sl 2 (bm lv) none,.sl 1 (ch (cH lv.length f)) none,.sl 7 (bG ND) none,.v (.int .i64 z)]
abbrev Lp (n:Nd) (K:List Bool) (s v:Bool) (e:Nat):St:=
 ⟨[aS 1 1 (sa K),aF 2 0,xm 5 s,xm 6 v,aq 7 e],[zg n],[]⟩
theorem Bc {L:Nat} {n:Nd} (K:List Bool) (hK:K.length<=1099511627776) (hn:yH L K.length n) (za:n.bh.length<=1099511627776) :
  aV prog 109 [.agg (zg n),.sl 1 (sa K) none] (.v (.bool (Cu n K))):=by
 have nk:=hn.Ai;have HI:=hn.bare;have VC:=hn.k8;obtain ⟨ai,cW,lo,hi,most,af,es⟩:=n;simp only at nk HI za VC;refine eG 50 [.tmp 4] func109 rfl ntmps109 rfl fun _ _ _ _=>?_;refine br ?_ ?_<;>intro h7
 ·have h7:ai < 7:=sU h7;refine (cj ?_:);simp [Cu,h7]
 have h7:¬ ai < 7:=sU h7;refine aW (fun j st=>∃ e:Nat,st=Lp ⟨ai,cW,lo,hi,most,af,es⟩ K ((es.take e).any (pN K)) ((es.take e).all (pN K)) e/\e<=es.length/\j=es.length - e) es.length (Lp ⟨ai,cW,lo,hi,most,af,es⟩ K false true 0) (bc wB) ⟨0,by simp,by omega,by omega⟩ ?_;rintro j st ⟨e,rfl,he,rfl⟩;refine br ?_ ?_<;>intro hL
 ·have ap:e < es.length:=by have:=hL;simp [de] at this;exact this
  obtain ⟨x,hx⟩:=gX ap;refine iX (jk hx) ?_;have hs:(es.take (e + 1)).any (pN K)=((es.take e).any (pN K) || pN K x):=by rw [List.take_add_one,hx];simp
  have hv:(es.take (e + 1)).all (pN K)=((es.take e).all (pN K) && pN K x):=by rw [List.take_add_one,hx];simp
  generalize (es.take e).any (pN K)=s at hs ⊢;generalize (es.take e).all (pN K)=v at hv ⊢;refine br ?_ ?_<;>intro hb
  ·have hb:x.bare=false:=sU hb;obtain ⟨k,hk,xi⟩:=(nk x (mG hx)).to1 hb;obtain ⟨b,lp⟩:∃ b,K[k]? = some b:=⟨_,gE xi⟩;have hg:(sa K)[(max x.to 0).toNat]? = some [DV.v (.bool b)]:=by rw [show (max x.to 0).toNat=k by omega];exact Cf lp
   have VD:pN K x=b:=by unfold pN;rw [hb,hk];simp [dz,lp]
   rw [VD] at hs hv;refine iX (jk hx) ?_;refine ⟨_,⟨by omega,hg⟩,?_⟩;have e5:pickB s true b=(es.take (e + 1)).any (pN K):=by rw [hs,aj]
   have e6:pickB v b false=(es.take (e + 1)).all (pN K):=by rw [hv,av]
   exact rE ⟨_,by omega,e + 1,rfl,by omega,rfl⟩ (bc (LW e5 e6 (aT ap (by omega))))
  ·have hb:x.bare=true:=sU hb;have VD:pN K x=true:=by unfold pN;rw [hb];all_goals rfl
   rw [VD] at hs hv;have e5:pickB s true true=(es.take (e + 1)).any (pN K):=by rw [hs,aj]
   have e6:pickB v true false=(es.take (e + 1)).all (pN K):=by rw [hv,av]
   exact rE ⟨_,by omega,e + 1,rfl,by omega,rfl⟩ (bc (LW e5 e6 (aT ap (by omega))))
 ·have hge:e=es.length:=by have:=hL;simp [de] at this;omega
  subst hge;rw [List.take_length];refine br ?_ ?_<;>intro g
  ·have g:ai=7:=sU g;refine (cj ?_:);simp [Cu,g]
  ·have g:¬ ai=7:=sU g;refine (cj ?_:);simp [Cu,g,h7]
theorem RV {bx:List (List DV)} {N n0 m0 n i:Nat} {r:List Bool} (hr:r.length=n) (hN:N<=i) (hb:bx[i]? = some (cB r)):Cc bx N n0 m0 (.sl 1 (sa r) none) (.ms i 1 0 n n):=by
 simp only [Cc];refine Or.inr (Or.inr (Or.inl ⟨i,0,n,_,by rw [qf,hr],hN,hb,?_,?_,?_⟩))
 ·grind [np,oJ,qf]
 ·grind [sa]
 ·intro x hx;rw [np] at hx;obtain ⟨_,_,rfl⟩:=List.mem_map.1 hx;exact .inl ⟨_,rfl⟩
theorem HJ (l:List Nat) (bx:List (List DV)) (N n m:Nat):CcL bx N n m (cN l) (cN l):=by
 induction l with
 | nil=>rfl
 | cons a r ih=>exact ⟨_,_,rfl,rfl,ih⟩
abbrev wG (a b:Nat) (A B:List (List DV)) (ND:List Nd) (z:Int):List DV:=[.sl a A none,.sl b B none,.sl 7 (bG ND) none,.v (.int .i64 z)]
abbrev HK (W:List DV) (O:List Nat) (K:List Bool) (n d:Nat):St:=
 ⟨[aF 1 0,(3,⟨[],.ms 1 1 0 n n⟩),aS 4 1 (sa K),aq 5 d],[W,cN O],[]⟩
abbrev yX (W:List DV) (O:List Nat) (K:List Bool) (M:List Bool) (n d e:Nat):St:=
 ⟨[aF 1 0,(3,⟨[],.ms 1 1 0 n n⟩),aS 4 1 (sa K),aq 5 d,(6,⟨[],.ms 2 1 0 n n⟩),aq 7 e],[W,cN O,cB M],[]⟩
theorem s6 (a b:Nat) (A B:List (List DV)) {ND:List Nd} {L:Nat} (z:Int) (ef:∀ n∈ND,yH L ND.length n) (fi:ND.length<=1099511627776) (cR:∀ n∈ND,n.bh.length<=1099511627776) :
  aV prog 43 [.agg (wG a b A B ND z)] (.sl 1 (dInts (depN ND ND.length)) none):=by
 have gB:=ff ND;refine eG 61 [.tmp 2] func43 rfl ntmps43 rfl fun _ _ _ _=>?_;refine ⟨⟨rfl,by omega,by rw [gB];omega,by rw [gB];omega⟩,?_⟩;refine ⟨⟨rfl,by omega,by rw [gB];omega,by rw [gB];omega⟩,?_⟩;refine z7 (fun j st=>∃ d:Nat,st=HK (wG a b A B ND z) (depN ND d) (posL (depN ND d)) (bG ND).length (d + 1)/\d<=ND.length/\j=ND.length - d) ND.length (HK (wG a b A B ND z) (depN ND 0) (posL (depN ND 0)) (bG ND).length 1) (.zd 2 rfl rfl ?_ rfl ?_) ⟨0,rfl,by omega,by omega⟩ ?_
 ·refine ⟨_,_,rfl,ax,_,_,rfl,?_,rfl⟩;rw [JU,gB];exact HJ _ _ _ _ _
 ·refine ⟨⟨_,rfl,aO⟩,⟨_,rfl,aO⟩,⟨_,rfl,RV (by rw [posL_len,depN_len,gB];omega) (zLeR _) ?_⟩,⟨_,rfl,ax⟩,trivial⟩;refine congrArg some ?_;rw [DL,gB];simp [posL,depN]
 rintro j st ⟨d,rfl,hd,rfl⟩;have ml:(posL (depN ND d)).length=ND.length:=by rw [posL_len,depN_len]
 refine br ?_ ?_<;>intro hc
 ·have ap:d < ND.length:=sW gB hc;refine ⟨⟨rfl,by omega,by rw [gB];omega,by rw [gB];omega⟩,?_⟩;refine aW (fun j st=>∃ (e:Nat) (O:List Nat) (M:List Bool),st=yX (wG a b A B ND z) O (posL (depN ND d)) M (bG ND).length (d + 1) e/\e<=ND.length/\O.length=ND.length/\M.length=ND.length/\(∀ i:Nat,i < e->O.getD i 0=(depN ND (d + 1)).getD i 0/\M.getD i false=(posL (depN ND (d + 1))).getD i false)/\(∀ i:Nat,e<=i->O.getD i 0=(depN ND d).getD i 0)/\j=ND.length - e) ND.length (yX (wG a b A B ND z) (depN ND d) (posL (depN ND d)) (List.replicate ((bG ND).length:Int).toNat false) (bG ND).length (d + 1) 0) (ep 3 (by repeat' (first | exact rfl | exact au rfl | exact bT rfl | exact bK (DL _) | refine ⟨_,_,rfl,?_,?_⟩)) (by repeat' (first | exact trivial | exact au rfl | exact bT rfl | exact bK (DL _) | refine ⟨⟨_,rfl,?_⟩,?_⟩))) ⟨0,_,_,rfl,by omega,by rw [depN_len],by rw [List.length_replicate,gB];omega,fun i hi=>by omega,fun i _=>rfl,by omega⟩ ?_;rintro j st ⟨e,O,M,rfl,he,hO,hM,pU,Cz,rfl⟩;refine br ?_ ?_<;>intro hL
  ·have fN:e < ND.length:=by have:=hL;simp [gB] at this;exact this
   obtain ⟨n,hn⟩:∃ n,ND[e]? = some n:=⟨_,gE fN⟩;have JV:=mG hn;have h1:=Bc (posL (depN ND d)) (by rw [ml];exact fi) (n:=n) (by rw [ml];exact ef n JV) (cR n JV);obtain ⟨r1,r2⟩:=HF (fun m hm=>⟨(ef m hm).k8,(ef m hm).bare⟩) d hn;refine iX (ir hn) ?_;refine cP O8 h1 ?_
   have hst:(cB M).set (0 + (e:Int).toNat * 1) (DV.v (.bool (Cu n (posL (depN ND d)))))=cB (M.set e (Cu n (posL (depN ND d)))):=by
    rw [show 0 + (e:Int).toNat * 1=e by omega,vS]
   have Jq:(cB (M.set e (Cu n (posL (depN ND d)))))[0 + (e:Int).toNat * 1]? = some (DV.v (.bool (Cu n (posL (depN ND d))))):=by
    rw [show 0 + (e:Int).toNat * 1=e by omega];exact G6 (fT (by omega))
   obtain ⟨q,hq⟩:∃ q,O[e]? = some q:=⟨_,gE (by omega)⟩;have hqd:(depN ND d).getD e 0=q:=by rw [<- Cz e (zLeR _),dz,hq];all_goals rfl
   rw [hqd] at r1
   have SX:∀ i:Nat,i < e + 1->(M.set e (Cu n (posL (depN ND d)))).getD i false=(posL (depN ND (d + 1))).getD i false:=fun i hi=>by
    by_cases Et:i=e
    ·subst Et;rw [r2,dz,fT (by omega)];all_goals rfl
    ·rw [dz,List.getElem?_set_ne (Ne.symm Et),<- dz];exact (pU i (by omega)).2
   generalize Cu n (posL (depN ND d))=h at hst Jq r1 SX ⊢;refine ⟨⟨by omega,by rw [gB];omega⟩,?_⟩;refine ⟨by rw [oJ];omega,?_⟩;refine ⟨⟨by omega,by rw [gB];omega⟩,?_⟩;refine ⟨DV.v (.bool h),(by rw [hst];exact Jq),?_⟩
   have VE:∀ v,v=(depN ND (d + 1)).getD e 0->∀ i:Nat,i < e + 1->(O.set e v).getD i 0=(depN ND (d + 1)).getD i 0:=fun v hv i hi=>by
    by_cases Et:i=e
    ·subst Et;rw [<- hv,dz,fT (by omega)];all_goals rfl
    ·rw [dz,List.getElem?_set_ne (Ne.symm Et),<- dz];exact (pU i (by omega)).1
   have hOr:∀ v:Nat,∀ i:Nat,e + 1<=i->(O.set e v).getD i 0=(depN ND d).getD i 0:=fun v i hi=>by
    rw [dz,List.getElem?_set_ne (by omega),<- dz];exact Cz i (by omega)
   have SY:O.set e q=O:=List.ext_getElem? fun i=>by
    by_cases Et:e=i
    ·subst Et;rw [fT (by omega),hq]
    ·rw [List.getElem?_set_ne Et]
   refine br ?_ ?_<;>intro g
   ·have g:h=true:=sU g;refine ⟨⟨by omega,by rw [gB];omega⟩,?_⟩;refine ⟨DV.v (.int .i64 (q:Int)),(by rw [show 0 + (e:Int).toNat * 1=e by omega];exact HG hq),?_⟩;refine br ?_ ?_<;>intro g2
    ·have g2:q=0:=by simpa [pickB,pickD] using g2
     rw [zIfP ⟨g,g2⟩] at r1;refine ⟨⟨by omega,by rw [gB];omega⟩,?_⟩;refine ⟨by rw [Bb];omega,?_⟩
     have LY:(cN O).set (0 + (e:Int).toNat * 1) (DV.v (.int .i64 ((d + 1:Nat):Int)))=cN (O.set e (d + 1)):=by
      rw [show 0 + (e:Int).toNat * 1=e by omega,HH]
     exact ⟨yX (wG a b A B ND z) (O.set e (d + 1)) (posL (depN ND d)) (M.set e h) (bG ND).length (d + 1) (e + 1),(ep 3 (V4 LY hst (aT fN (by omega))) (LW LY hst (aT fN (by omega)))),ND.length - (e + 1),by omega,e + 1,_,_,rfl,by omega,by simp [hO],by rw [List.length_set];exact hM,fun i hi=>⟨VE _ r1.symm i hi,SX i hi⟩,hOr (d + 1),rfl⟩
    ·have g2:¬ q=0:=by simpa [pickB,pickD] using g2
     rw [ah (fun h=>g2 h.2)] at r1;exact ⟨yX (wG a b A B ND z) (O.set e q) (posL (depN ND d)) (M.set e h) (bG ND).length (d + 1) (e + 1),(ep 3 (by repeat' (first | exact rfl | exact au rfl | exact bT (by rw [SY]) | exact bK hst | exact aw (aT fN (by omega)) | refine ⟨_,_,rfl,?_,?_⟩)) (by repeat' (first | exact trivial | exact au rfl | exact bT (by rw [SY]) | exact bK hst | exact aw (aT fN (by omega)) | refine ⟨⟨_,rfl,?_⟩,?_⟩))),ND.length - (e + 1),by omega,e + 1,_,_,rfl,by omega,by simp [hO],by rw [List.length_set];exact hM,fun i hi=>⟨VE _ r1.symm i hi,SX i hi⟩,hOr q,rfl⟩
   ·have g:h=false:=sU g;rw [ah (by rw [g];simp)] at r1;exact ⟨yX (wG a b A B ND z) (O.set e q) (posL (depN ND d)) (M.set e h) (bG ND).length (d + 1) (e + 1),(ep 3 (by repeat' (first | exact rfl | exact au rfl | exact bT (by rw [SY]) | exact bK hst | exact aw (aT fN (by omega)) | refine ⟨_,_,rfl,?_,?_⟩)) (by repeat' (first | exact trivial | exact au rfl | exact bT (by rw [SY]) | exact bK hst | exact aw (aT fN (by omega)) | refine ⟨⟨_,rfl,?_⟩,?_⟩))),ND.length - (e + 1),by omega,e + 1,_,_,rfl,by omega,by simp [hO],by rw [List.length_set];exact hM,fun i hi=>⟨VE _ r1.symm i hi,SX i hi⟩,hOr q,rfl⟩
  ·have hge:e=ND.length:=sW gB hL;subst hge
   have hO2:O=depN ND (d + 1):=nE (by rw [hO,depN_len]) fun j=>by
    rcases Nat.lt_or_ge j ND.length with hj | hj
    ·exact (pU j hj).1
    ·simp only [dz];rw [td (by omega),td (by rw [depN_len];omega)]
   have hM2:M=posL (depN ND (d + 1)):=x9 (by rw [hM,posL_len,depN_len]) (fun j hj=>by
     rcases Nat.lt_or_ge j ND.length with h | h
     ·rw [<- (pU j h).2];exact hj
     ·rw [dz,td (by omega)] at hj;cases hj) (fun j hj=>by
     rcases Nat.lt_or_ge j ND.length with h | h
     ·rw [(pU j h).2];exact hj
     ·rw [dz,td (by rw [posL_len,depN_len];omega)] at hj;cases hj)
   subst hO2 hM2;refine ⟨HK (wG a b A B ND z) (depN ND (d + 1)) (posL (depN ND (d + 1))) (bG ND).length (d + 1 + 1),.zd 2 rfl rfl ⟨_,_,rfl,ax,_,_,rfl,HJ _ _ _ _ _,rfl⟩ rfl ⟨⟨_,rfl,aO⟩,⟨_,rfl,aO⟩,⟨_,rfl,RV (by rw [posL_len,depN_len,gB]) (zLeR _) rfl⟩,⟨_,rfl,?_⟩,trivial⟩,ND.length - (d + 1),by omega,d + 1,rfl,by omega,rfl⟩;exact congrArg (fun z=>DV.v (Value.int .i64 z)) (aT (n:=1099511627777) (by omega) (by omega))
 ·have hge:d=ND.length:=sW gB hc;subst hge;exact ⟨_,Nr (by rw [depN_len,gB]) (Nat.zero_le _) rfl,rfl⟩
def pO (ND:List Nd) (d e:Nat):Bool:=(List.range e).any fun i=>decide (¬ (depN ND (d + 1)).getD i 0=(depN ND d).getD i 0)
theorem Ee (ND:List Nd) (d e:Nat):pO ND d (e + 1)=(pO ND d e || decide (¬ (depN ND (d + 1)).getD e 0=(depN ND d).getD e 0)):=by
 simp [pO,List.range_succ]
theorem yY {ND:List Nd} {d:Nat}:pO ND d ND.length=false↔depN ND (d + 1)=depN ND d:=by grind [nE,depN_len,pO]
theorem Bd {ND:List Nd} {d:Nat} (hd:d<=1099511627776):∀ z∈depN ND d,z<=1099511627776:=fun z hz=>by
 obtain ⟨i,hi⟩:=List.mem_iff_getElem?.1 hz;have:=JS ND d i
 grind
abbrev HL (ND:List Nd) (d:Nat) (c:Bool):St:=
 ⟨[aS 3 7 (bG ND),aS 4 1 (dInts (depN ND d)),xm 5 c],[],[]⟩
abbrev Cv (ND:List Nd) (d:Nat) (c:Bool) (L:List Nat) (e:Nat):St:=
 ⟨[aS 3 7 (bG ND),aS 4 1 (dInts (depN ND d)),xm 5 c,(6,⟨[],.ms 0 1 0 (bG ND).length (bG ND).length⟩),aS 18 7 (bG ND),aq 19 ((bG ND).length),aq 20 e],[cN L],[]⟩
theorem Be {L:Nat} {ND:List Nd} {p:DV} (h0:aV prog 100 [p] (.sl 7 (bG ND) none)) (ef:∀ n∈ND,yH L ND.length n) (fi:ND.length<=1099511627776) (cR:∀ n∈ND,n.bh.length<=1099511627776) (pV:∀ bx N n m,Cc bx N n m p p) :
  aV prog 101 [p] (.sl 1 (dInts (depN ND ND.length)) none):=by
 have gB:=ff ND;refine eG 46 [.tmp 2] func101 rfl ntmps101 rfl fun _ _ _ _=>?_;refine cP Kg h0 ?_ (pW pV);refine ⟨⟨rfl,by omega,by rw [gB];omega,by rw [gB];omega⟩,?_⟩;refine z7 (fun j st=>∃ (d:Nat) (c:Bool),st=HL ND d c/\(c=true->d<=ND.length)/\(c=false->depN ND d=depN ND ND.length)/\j=ND.length + 2 - d) (ND.length + 2) (HL ND 0 true) (.zd 0 rfl rfl rfl rfl ?_) ⟨0,true,rfl,by omega,by simp,by omega⟩ ?_
 ·refine ⟨⟨_,rfl,ax⟩,⟨_,rfl,Nr (by rw [depN_len,gB];omega) (by omega) ?_⟩,⟨_,rfl,ax⟩,trivial⟩;refine congrArg some ?_;rw [JU,gB];rfl
 rintro j st ⟨d,c,rfl,NJ,mC,rfl⟩;refine br ?_ ?_<;>intro hc
 ·have hc:c=true:=hc;have hd:=NJ hc;refine ⟨⟨rfl,by omega,by rw [gB];omega,by rw [gB];omega⟩,?_⟩;refine aW (fun j st=>∃ (e:Nat) (L:List Nat),st=Cv ND d (pO ND d e) L e/\e<=ND.length/\L.length=ND.length/\(∀ i:Nat,i < e->L.getD i 0=(depN ND (d + 1)).getD i 0)/\j=ND.length - e) ND.length (Cv ND d false (List.replicate ((bG ND).length:Int).toNat 0) 0) (ep 1 (by repeat' (first | exact rfl | exact au rfl | exact bT (JU _) | refine ⟨_,_,rfl,?_,?_⟩)) (by repeat' (first | exact trivial | exact au rfl | exact bT (JU _) | refine ⟨⟨_,rfl,?_⟩,?_⟩))) ⟨0,_,rfl,by omega,by rw [List.length_replicate,gB];omega,fun i hi=>by omega,by omega⟩ ?_;rintro j st ⟨e,L,rfl,he,hL,hLv,rfl⟩;refine br ?_ ?_<;>intro ap
  ·have ap:e < ND.length:=by have:=ap;simp [gB] at this;exact this
   obtain ⟨n,hn⟩:=gX ap;have JV:=mG hn;have fN:=wm (depN ND d) (by rw [depN_len];exact fi) (n:=n) (by rw [depN_len];exact ef n JV) (Bd (by omega)) (cR n JV);refine iX (ir hn) ?_;refine cP Pn fN ?_;refine ⟨⟨by omega,by rw [gB];omega⟩,?_⟩;refine ⟨by rw [Bb];omega,?_⟩;refine dI ?_;have hv:=depN_get ND d e;rw [hn] at hv;have hv:(depN ND (d + 1)).getD e 0=bB n (depN ND d):=hv;obtain ⟨z,hz⟩:∃ z,(depN ND d)[e]? = some z:=⟨_,gE (by rw [depN_len];exact ap)⟩;have hzd:(depN ND d).getD e 0=z:=by rw [dz,hz];all_goals rfl
   have cm:=Ee ND d e;rw [hv,hzd] at cm;have hst:(cN L).set (0 + (e:Int).toNat * 1) (DV.v (.int .i64 ((bB n (depN ND d):Nat):Int)))=cN (L.set e (bB n (depN ND d))):=by grind [HH]
   have Ry:∀ i:Nat,i < e + 1->(L.set e (bB n (depN ND d))).getD i 0=(depN ND (d + 1)).getD i 0:=fun i hi=>by grind
   refine br ?_ ?_<;>intro g
   ·have g:pO ND d e=false:=sU g;rw [g,Bool.false_or] at cm;have Jq:(cN (L.set e (bB n (depN ND d))))[0 + (e:Int).toNat * 1]? = some (DV.v (.int .i64 ((bB n (depN ND d):Nat):Int))):=by grind [HG]
    refine ⟨⟨by omega,by rw [gB];omega⟩,?_⟩;rw [hst];refine ⟨_,Jq,?_⟩;refine iX (bY hz) ?_
    have Xg:(!decide (((bB n (depN ND d):Nat):Int)=(z:Int)))=pO ND d (e + 1):=by
     rw [cm,Bool.eq_iff_iff];simp;omega
    exact ⟨Cv ND d (pO ND d (e + 1)) (L.set e (bB n (depN ND d))) (e + 1),(ep 1 (zC Xg (aT ap (by omega))) (hY Xg (aT ap (by omega)))),ND.length - (e + 1),by omega,e + 1,_,rfl,by omega,by rw [List.length_set];exact hL,Ry,rfl⟩
   ·have g:pO ND d e=true:=sU g;rw [g,Bool.true_or] at cm;exact ⟨Cv ND d (pO ND d (e + 1)) (L.set e (bB n (depN ND d))) (e + 1),(ep 1 (V4 hst cm.symm (aT ap (by omega))) (LW hst cm.symm (aT ap (by omega)))),ND.length - (e + 1),by omega,e + 1,_,rfl,by omega,by rw [List.length_set];exact hL,Ry,rfl⟩
  ·have hge:e=ND.length:=sW gB ap;subst hge;have Sn:L=depN ND (d + 1):=nE (by rw [hL,depN_len]) fun j=>by grind [depN_len]
   subst Sn;refine ⟨HL ND (d + 1) (pO ND d ND.length),.zd 0 rfl rfl rfl rfl ⟨⟨_,rfl,ax⟩,⟨_,rfl,Nr (by rw [depN_len,gB]) (by omega) rfl⟩,⟨_,rfl,ax⟩,trivial⟩,ND.length + 2 - (d + 1),by omega,d + 1,_,rfl,fun pV=>?_,fun pV=>HE (yY.1 pV),rfl⟩;have:depN ND (d + 1)≠depN ND d:=fun h=>by rw [yY.2 h] at pV;cases pV
   have:=JT this;omega
 ·have hc:c=false:=hc;rw [mC hc];exact ⟨_,ax,rfl⟩
theorem jo.Xh {S:Sch} {ND:List Nd} {PC:List DV} (hP:jo S ND PC):∀ n∈ND,n.bh.length<=1099511627776:=fun n hn=>by
 have h1:=hP.wt;rw [hP.uy] at hn;exact (oR hn h1).2
theorem yZ {S:Sch} {ND:List Nd} {PC:List DV} (hP:jo S ND PC):aV prog 101 [.pt PC 0] (.sl 1 (dInts (depN ND ND.length)) none):=
 Be (nF hP) hP.ok hP.nl hP.Xh fun _ _ _ _=>ax
theorem px {S:Sch} (hF:uI S) {i:Nat} {n:Nd} (h:(aE S)[i]? = some n) {e:Ed} (he:e∈n.bh) (hb:e.bare=true):e.ck=0:=by
 have VC:=(oQ hF h).bare e he hb;rw [jm] at h;obtain ⟨t,ht,u,hu,rfl,mH⟩:=sx h;have Jy:=sv t ⟨_,_,hF.wr t ht⟩ u hu;have hT:=AV Jy;obtain ⟨uh,us⟩:=u;simp only [Ty.h,Ty.ps] at hT;obtain ⟨p,v,k',h1,rfl,_⟩:=nA he;obtain ⟨j,hj⟩:=List.mem_iff_getElem?.1 h1;obtain ⟨_,hP⟩:=(hT.many (.inr VC)).2.2 j p v hj;rcases hP with ⟨_,_,_,ml⟩ | ⟨ee,_⟩
 ·exact (ll ml).2.2.1
 ·have:p.bare=true:=hb;rw [ee] at this;cases this
def nG (ck:Int):Int:=if ck=3 then 5 else if ck=2 then 3 else 2
abbrev RW (W:List DV) (e:Nat):St:=⟨[aF 1 0,aF 2 1,aq 3 e],[W,[.v (.int .i64 0),.v (.int .i64 0)]],[]⟩
abbrev Ns (W:List DV) (es:List Ed) (e k:Nat):St:=⟨[aF 1 0,aF 2 1,aq 3 e,aS 4 10 (iy es),aq 5 k],[W,[.v (.int .i64 0),.v (.int .i64 0)]],[]⟩
abbrev RX (S:Sch) (a b:Int) (W:List DV) (D:List Nat) (e:Nat):St:=
 ⟨[aF 1 0,aF 3 1,aF 5 3,aS 6 1 (dInts D),aq 7 e],[cM S,[.v (.int .i64 0),.v (.int .i64 0)],[.v (.int .i64 a),.v (.int .i64 b)],W],[]⟩
def chkA:List Nat->List Nd->Ft
 | k :: r,n :: s=>if k=0 then (11,n.cW) else chkA r s
 | _,_=>(0,0)
theorem uY {D:List Nat} {ND:List Nd} {e k:Nat} {n:Nd} (h1:D[e]? = some k) (h2:ND[e]? = some n):chkA (D.drop e) (ND.drop e)=if k=0 then (11,n.cW) else chkA (D.drop (e + 1)) (ND.drop (e + 1)):=by
 rw [drop_cons h1,drop_cons h2,chkA]
theorem y4 (D:List Nat) (ND:List Nd) {e:Nat} (h:D.length<=e):chkA (D.drop e) (ND.drop e)=(0,0):=by
 rw [List.drop_of_length_le h];simp [chkA]
abbrev Nt (D:List Nat) (ND:List Nd) (e:Nat):St:=
 ⟨[aS 3 7 (bG ND),aF 2 0,aS 12 1 (dInts D),aq 13 D.length,aq 14 e],[[.v (.int .i64 0),.v (.int .i64 0)]],[]⟩
theorem wo {S:Sch} {ND:List Nd} {PC:List DV} (hP:jo S ND PC):aV prog 40 [.pt PC 0] (chkA (depN ND ND.length) ND).d:=by
 have h0:=nF hP;have h1:=yZ hP;have hl:=depN_len ND ND.length;have fi:=hP.nl;generalize depN ND ND.length=D at h1 hl ⊢;have gB:=ff ND;have Eh:=aY D;refine eG 29 [.cell 2 26] func40 rfl ntmps40 rfl fun _ _ _ _=>?_;refine cP Kg h0 ?_;refine cP O3 h1 ?_;refine lI (fun j st=>∃ e:Nat,st=Nt D ND e/\e<=ND.length/\chkA D ND=chkA (D.drop e) (ND.drop e)/\j=ND.length - e) ⟨0,rfl,by omega,rfl,rfl⟩ (bc (c8 Eh)) ?_;rintro j st ⟨e,rfl,he,aD,rfl⟩;refine br ?_ ?_<;>intro hL
 ·have ap:e < ND.length:=by have:=hL;simp [hl] at this;exact this
  obtain ⟨n,hn⟩:=gX ap;obtain ⟨k,hk⟩:∃ k,D[e]? = some k:=⟨_,gE (by omega)⟩;rw [uY hk hn] at aD;refine iX (bY hk) ?_;refine br ?_ ?_<;>intro g
  ·have g:k=0:=sU g;rw [zIfP g] at aD;refine iX (ir hn) ?_;rw [aD];exact ⟨_,ax,rfl⟩
  ·have g:¬ k=0:=sU g;rw [ah g] at aD;exact rE ⟨_,by omega,e + 1,rfl,by omega,aD,rfl⟩ (bc (c8 (aT ap (by omega))))
 ·have hge:e=ND.length:=sW hl hL;rw [aD,y4 D ND (by omega)];exact ⟨_,ax,rfl⟩
def effE (f:Nat->Nat->Bool) (ND:List Nd) (e:Ed):Ft:=
 if e.ck=0 then (0,0) else match ND[e.to.toNat]? with | none=>(14,e.ca) | some m=>if m.ai=nG e.ck then (if (f e.seen.toNat e.label.toNat && !f e.label.toNat e.seen.toNat)=true then (0,0) else (18,e.ca)) else (14,e.ca)
def effEs (f:Nat->Nat->Bool) (ND:List Nd):List Ed->Ft
 | []=>(0,0)
 | e :: r=>if (effE f ND e).1=0 then effEs f ND r else effE f ND e
def effN (f:Nat->Nat->Bool) (ND:List Nd):List Nd->Ft
 | []=>(0,0)
 | n :: r=>if (effEs f ND n.bh).1=0 then effN f ND r else effEs f ND n.bh
def j8 (f:Nat->Nat->Bool) (ND:List Nd):Ft:=effN f ND ND
theorem uZ {f:Nat->Nat->Bool} {ND:List Nd}:∀ {l:List Nd},(effN f ND l).1=0->effN f ND l=(0,0)
 | [],_=>rfl
 | n :: r,h=>by
  rw [effN] at h ⊢;split
  ·rename_i h1;rw [zIfP h1] at h;exact uZ h
  ·rename_i h1;rw [ah h1] at h;exact absurd h h1
theorem s7 (lv:List Wd) (f:Nat->Nat->Bool) (ND:List Nd) (z:Int) (hn:lv.length<=32) (ef:∀ n∈ND,yH lv.length ND.length n) (fi:ND.length<=1099511627776) (cR:∀ n∈ND,n.bh.length<=1099511627776) (N3:∀ n∈ND,∀ e∈n.bh,e.bare=true->e.ck=0) :
  aV prog 44 [.agg (wL lv f ND z)] (j8 f ND).d:=by
 have zK:=ff ND;refine eG 79 [.cell 2 26] func44 rfl ntmps44 rfl fun _ _ _ _=>?_;refine lI (fun j st=>∃ e:Nat,st=RW (wL lv f ND z) e/\e<=ND.length/\j8 f ND=effN f ND (ND.drop e)/\j=ND.length - e) ⟨0,rfl,by omega,rfl,rfl⟩ (bc wB) ?_;rintro j st ⟨e,rfl,he,hno,rfl⟩;refine br ?_ ?_<;>intro hL
 ·have ap:e < ND.length:=sV zK hL;obtain ⟨d,hd⟩:=gX ap;have hm:=mG hd;have hN:=ef d hm;have za:=cR d hm;have gB:=de d.bh;have VF:=N3 d hm;rw [drop_cons hd,effN] at hno;refine iX (ir hd) ?_;refine lI (fun j st=>∃ k:Nat,st=Ns (wL lv f ND z) d.bh e k/\k<=d.bh.length/\effEs f ND d.bh=effEs f ND (d.bh.drop k)/\j=d.bh.length - k) ⟨0,rfl,by omega,rfl,rfl⟩ (bc wB) ?_;rintro j st ⟨k,rfl,hk,nq,rfl⟩;refine br ?_ ?_<;>intro j2
  ·have eo:k < d.bh.length:=sV gB j2;obtain ⟨x,hx⟩:∃ x,d.bh[k]? = some x:=⟨_,gE eo⟩;have Nu:=mG hx;obtain ⟨oE,⟨h2,G9⟩,h3,JW⟩:=uO hN Nu;have kT:=VF x Nu;have VG:=(hN.Ai x Nu).ck;rw [drop_cons hx,effEs] at nq;have hE:effE f ND x=if x.ck=0 then ((0,0):Ft) else match ND[x.to.toNat]? with | none=>((14,x.ca):Ft) | some m=>if m.ai=nG x.ck then (if (f x.seen.toNat x.label.toNat && !f x.label.toNat x.seen.toNat)=true then ((0,0):Ft) else (18,x.ca)) else (14,x.ca):=rfl
   generalize effE f ND x=EX at hE nq;have y5:∀ y:Ft,y.1≠0->EX=y->j8 f ND=y:=fun y hy h=>by rw [hno,nq,h,ah hy,ah hy]
   have y6:EX.1=0->effEs f ND d.bh=effEs f ND (d.bh.drop (k + 1)):=fun h=>by rw [nq,zIfP h]
   generalize j8 f ND=FF at y5 ⊢;obtain ⟨en,eb,ea,et,VH,ew,Bf,ecn,VI,VJ⟩:=x;simp only at h2 G9 h3 JW oE kT VG hE;obtain ⟨lb,rfl⟩:∃ n:Nat,VH=n:=⟨_,h2⟩;obtain ⟨sn,rfl⟩:∃ n:Nat,VI=n:=⟨_,h3⟩;simp only [sG] at G9 JW hE;refine iX (jk hx) ?_;refine br ?_ ?_<;>intro g
   ·have g:Bf=0:=sU g;exact rE ⟨_,by omega,k + 1,rfl,by omega,y6 (by rw [hE,zIfP g]),rfl⟩ (ep 2 (ve (aT eo (by omega))) (c8 (aT eo (by omega))))
   have gg:¬ Bf=0:=sU g
   obtain ⟨h1,oY⟩:=oE (by
    cases hb:eb
    ·rfl
    ·exact absurd (kT hb) gg)
   obtain ⟨tn,rfl⟩:∃ n:Nat,et=n:=⟨_,h1⟩;simp only [sG] at oY hE;obtain ⟨m,RY⟩:∃ m,ND[tn]? = some m:=⟨_,gE oY⟩;rw [ah gg] at hE;simp only [RY] at hE;have h3c:(Bf=1/\nG Bf=2)∨(Bf=2/\nG Bf=3)∨(Bf=3/\nG Bf=5):=by unfold nG;omega
   rcases h3c with ⟨rfl,Iq⟩ | ⟨rfl,Iq⟩ | ⟨rfl,Iq⟩
   all_goals
    rw [Iq] at hE;refine ⟨_,⟨wJ _,ir RY⟩,?_⟩;refine br ?_ ?_<;>intro c1
    ·simp at c1;rw [ah c1] at hE;rw [y5 _ (by simp) hE];exact ⟨_,ax,rfl⟩
    simp at c1;rw [zIfP c1] at hE;refine dI ?_;refine ⟨_,⟨wJ _,dg JW⟩,?_⟩;refine ⟨_,⟨wJ _,cE G9⟩,?_⟩;refine br ?_ ?_<;>intro c2
    ·refine ⟨_,⟨wJ _,dg G9⟩,?_⟩;refine ⟨_,⟨wJ _,cE JW⟩,?_⟩;refine br ?_ ?_<;>intro c3
     ·have c2:f sn lb=true:=sU c2;have c3:f lb sn=true:=by simpa [pickB] using c3
      rw [y5 (18,VJ) (by simp) (by rw [hE,ah (by rw [c2,c3];simp)])];exact ⟨_,ax,rfl⟩
     ·have c2:f sn lb=true:=sU c2;have c3:f lb sn=false:=by simpa [pickB] using c3
      have hx:=y6 (by rw [hE,zIfP (by rw [c2,c3];rfl)]);exact rE ⟨_,by omega,k + 1,rfl,by omega,hx,rfl⟩ (ep 2 (ve (aT eo (by omega))) (c8 (aT eo (by omega))))
    ·have c2:f sn lb=false:=sU c2;rw [y5 (18,VJ) (by simp) (by rw [hE,ah (by rw [c2];simp)])];exact ⟨_,ax,rfl⟩
  ·have hge:k=d.bh.length:=sW gB j2;subst hge;exact rE ⟨_,by omega,e + 1,rfl,by omega,by rw [hno,nq,List.drop_length,effEs,zIfP rfl],rfl⟩ (bc (c8 (aT ap (by omega))))
 ·have hge:e=ND.length:=sW zK hL;subst hge;rw [hno,List.drop_length,effN];exact ⟨_,ax,rfl⟩
def zh (S:Sch):Int × Ft:=
 if (fc S).1=0 then (if (chkA (depN (aE S) (aE S).length) (aE S)).1=0 then (if (j8 (gz S) (aE S)).1=0 then (0,(0,0)) else (4,j8 (gz S) (aE S))) else (3,chkA (depN (aE S) (aE S).length) (aE S))) else (2,fc S)
theorem s8 (S:Sch) (hS:S.wt<=1099511627776):aV prog 16 [.agg (cM S)] (.bS [.v (.int .i64 (zh S).1),(zh S).2.d]):=by
 have Jy:=vZ S hS;have hw:=fun h=>nz S hS h;have hst:zh S=if (fc S).1=0 then (if (chkA (depN (aE S) (aE S).length) (aE S)).1=0 then (if (j8 (gz S) (aE S)).1=0 then (0,(0,0)) else (4,j8 (gz S) (aE S))) else (3,chkA (depN (aE S) (aE S).length) (aE S))) else (2,fc S):=rfl
 generalize zh S=ST at hst ⊢;generalize hR:fc S=R at Jy hst;obtain ⟨ae,order,types,⟨rh,rp⟩⟩:=S;refine eG 44 [.tmp 2,.cell 3 26] func16 rfl ntmps16 rfl fun _ _ _ _=>?_;refine cP TM Jy ?_;refine br ?_ ?_<;>intro g
 ·have g:¬ R.1=0:=sU g;rw [ah g] at hst;rw [hst];refine dS ?_;exact ⟨_,ax,rfl⟩
 have g:R.1=0:=sU g;rw [zIfP g] at hst;have h0:(fc ⟨ae,order,types,.mk rh rp⟩).1=0:=by rw [hR];exact g
 have hF:=ny h0;have hw:=hw h0;obtain ⟨RC,Ju⟩:=iq hF.lat;have ef:=fun n (hn:n∈aE ⟨ae,order,types,.mk rh rp⟩)=>(List.mem_iff_getElem?.1 hn).elim fun i hi=>oQ hF hi;have fi:(aE ⟨ae,order,types,.mk rh rp⟩).length<=1099511627776:=by rw [mf];exact Nat.le_trans (AS _) hS
 have cR:=fun n (hn:n∈aE ⟨ae,order,types,.mk rh rp⟩)=>(oR hn hS).2;have N3:=fun n (hn:n∈aE ⟨ae,order,types,.mk rh rp⟩)=>(List.mem_iff_getElem?.1 hn).elim fun i hi e he hb=>px hF hi (e:=e) he hb;have SZ:=fun A B=>s6 2 1 A B (fQ ⟨ae,order,types,.mk rh rp⟩) ef fi cR;have h20:=s7 ae (gz ⟨ae,order,types,.mk rh rp⟩) (aE ⟨ae,order,types,.mk rh rp⟩) (fQ ⟨ae,order,types,.mk rh rp⟩) Ju ef fi cR N3;have FR:=depN_len (aE ⟨ae,order,types,.mk rh rp⟩) (aE ⟨ae,order,types,.mk rh rp⟩).length;generalize depN (aE ⟨ae,order,types,.mk rh rp⟩) (aE ⟨ae,order,types,.mk rh rp⟩).length=D at SZ hst FR;unfold gz at h20 hst;generalize du (Sch.mk ae order types (.mk rh rp)).ae.length (cv (al (Sch.mk ae order types (.mk rh rp)).ae) (Sch.mk ae order types (.mk rh rp)).order)=f at hw h20 hst;generalize aE ⟨ae,order,types,.mk rh rp⟩=ND at hw SZ h20 hst FR fi cR N3 ef;generalize fQ ⟨ae,order,types,.mk rh rp⟩=rt at hw SZ h20;have Eh:=aY D;obtain ⟨R1,R2⟩:=R;simp only at g;subst g;generalize j8 f ND=EF at h20 hst;refine cP Me hw ?_;refine cP TN (SZ _ _) ?_;refine lI (fun j st=>∃ e:Nat,st=RX ⟨ae,order,types,.mk rh rp⟩ 0 R2 (wL ae f ND rt) D e/\e<=D.length/\chkA D ND=chkA (D.drop e) (ND.drop e)/\j=D.length - e) ⟨0,rfl,by omega,rfl,rfl⟩ (bc wB) ?_;rintro j st ⟨e,rfl,he,hno,rfl⟩;refine br ?_ ?_<;>intro hL
 ·have ap:e < D.length:=sV Eh hL;obtain ⟨x,hx⟩:=gX ap;obtain ⟨d,hd⟩:∃ d,ND[e]? = some d:=⟨_,gE (by omega)⟩;rw [uY hx hd] at hno;refine iX (bY hx) ?_;refine br ?_ ?_<;>intro c
  ·have c:x=0:=sU c;rw [zIfP c] at hno;rw [hno,ah (by simp)] at hst;rw [hst];refine dS ?_;refine iX (ir hd) ?_;exact ⟨_,ax,rfl⟩
  ·have c:¬ x=0:=sU c;rw [ah c] at hno;exact rE ⟨_,by omega,e + 1,rfl,by omega,hno,rfl⟩ (ep 4 (ve (aT ap (by omega))) (c8 (aT ap (by omega))))
 ·have hge:e=D.length:=sW Eh hL;subst hge;rw [y4 D ND (zLeR _)] at hno;rw [hno,zIfP rfl] at hst;refine cP en44 h20 ?_;refine br ?_ ?_<;>intro c
  ·have c:¬ EF.1=0:=sU c;rw [ah c] at hst;rw [hst];refine dS ?_;exact ⟨_,ax,rfl⟩
  ·have c:EF.1=0:=sU c;rw [zIfP c] at hst;rw [hst];exact ⟨_,ax,rfl⟩
theorem asks_1:aV prog 102 [.v (.int .i64 1)] (.v (.int .i64 2)):=by
 refine eG 8 [.tmp 2] func102 rfl ntmps102 rfl fun _ _ _ _=>?_;exact (rfl:_=_)
theorem asks_2:aV prog 102 [.v (.int .i64 2)] (.v (.int .i64 3)):=by
 refine eG 8 [.tmp 2] func102 rfl ntmps102 rfl fun _ _ _ _=>?_;exact (rfl:_=_)
theorem asks_3:aV prog 102 [.v (.int .i64 3)] (.v (.int .i64 5)):=by
 refine eG 8 [.tmp 2] func102 rfl ntmps102 rfl fun _ _ _ _=>?_;exact (rfl:_=_)
theorem Ef {ck:Int} (h:ck=1∨ck=2∨ck=3):aV prog 102 [.v (.int .i64 ck)] (.v (.int .i64 (nG ck))):=by
 rcases h with rfl | rfl | rfl
 ·exact asks_1
 ·exact asks_2
 ·exact asks_3
theorem Bg {LC:List DV} (a b:Nat) (B:Bool) (hl:aV prog 186 [.pt LC 0,.v (.int .i64 a),.v (.int .i64 b)] (.v (.bool B))) :
  aV prog 103 [.pt LC 0,.v (.int .i64 a),.v (.int .i64 b)] (.v (.bool (decide (¬ a=b) && B))):=by
 by_cases CS:a=b
 ·subst CS;refine eG 16 [.tmp 6] func103 rfl ntmps103 rfl fun _ _ _ _=>?_;refine br (fun g=>absurd g (by simp)) (fun _=>?_);refine (cj ?_:);simp [pickB]
 ·refine eG 16 [.tmp 6] func103 rfl ntmps103 rfl fun _ _ _ _=>?_;refine br (fun _=>?_) (fun g=>absurd (Int.ofNat.inj (show (a:Int)=b by simpa using g)) CS);refine cP Po hl ?_;refine (cj ?_:);simp [pickB,CS]
theorem Nv {f:Nat->Nat->Bool} {n:Nat} (hL:gj f n) {a b:Nat} (ha:a < n) (hb:b < n):(decide (¬ a=b) && f a b)=(f a b && !f b a):=by
 by_cases CS:a=b
 ·subst CS;rw [hL.rfl' a ha];simp
 ·rw [decide_eq_true CS,Bool.true_and]
  cases h1:f a b with
  | false=>rfl
  | true=>
   cases h2:f b a with
   | false=>rfl
   | true=>exact absurd (hL.Aq a b ha hb h1 h2) CS
abbrev VK (PC:List DV) (n e:Nat):St:=⟨[qO 0 PC,aF 2 0,aq 14 n,aq 15 e],[[.v (.int .i64 0),.v (.int .i64 0)]],[]⟩
abbrev VL (PC:List DV) (n:Nat) (es:List Ed) (e k:Nat):St:=⟨[qO 0 PC,aF 2 0,aq 14 n,aq 15 e,aS 25 10 (iy es),aq 26 es.length,aq 27 k],[[.v (.int .i64 0),.v (.int .i64 0)]],[]⟩
theorem effcheck_spec {S:Sch} {ND:List Nd} {PC LC:List DV} (hP:jo S ND PC) (sm:aV prog 45 [.pt PC 0] (.pt LC 0)) (hR:RG S.ae.length (gz S) (al S.ae) LC) (cR:∀ n∈ND,n.bh.length<=1099511627776) :
  aV prog 41 [.pt PC 0] (j8 (gz S) ND).d:=by
 have hlen:=hP.len;have jh:=hP.ag;have ef:=hP.ok;have fi:=hP.nl;have hL:=hR.ok;have AU:=fun (a b:Nat) (ha:a < S.ae.length) (hb:b < S.ae.length)=>Bg a b _ ((Hn (f:=gz S) ha hb) ▸ hR.leq a b);have E6:=fun (a b:Nat) (ha:a < S.ae.length) (hb:b < S.ae.length)=>Nv hL ha hb;have N3:=fun n (hn:n∈ND) e (he:e∈n.bh) (hb:e.bare=true)=>(List.mem_iff_getElem?.1 hn).elim fun i hi=>px hP.fine (hP.uy ▸ hi) (e:=e) he hb;generalize gz S=f at AU E6 ⊢;have zK:=ff ND;refine eG 66 [.cell 2 26] func41 rfl ntmps41 rfl fun _ _ _ _=>?_;refine cP IF hlen ?_;refine lI (fun j st=>∃ e:Nat,st=VK PC ND.length e/\e<=ND.length/\j8 f ND=effN f ND (ND.drop e)/\j=ND.length - e) ⟨0,rfl,by omega,rfl,rfl⟩ (bc wB) ?_;rintro j st ⟨e,rfl,he,hno,rfl⟩;refine br ?_ ?_<;>intro hL
 ·have ap:e < ND.length:=sU hL;obtain ⟨d,hd⟩:=gX ap;have hm:=mG hd;have hN:=ef d hm;have za:=cR d hm;have gB:=de d.bh;have VF:=N3 d hm;have hnd:=jh e d hd;rw [drop_cons hd,effN] at hno;refine cP Mf hnd ?_;refine lI (fun j st=>∃ k:Nat,st=VL PC ND.length d.bh e k/\k<=d.bh.length/\effEs f ND d.bh=effEs f ND (d.bh.drop k)/\j=d.bh.length - k) ⟨0,rfl,by omega,rfl,rfl⟩ (ep 1 (ve gB) (c8 gB)) ?_;rintro j st ⟨k,rfl,hk,nq,rfl⟩;refine br ?_ ?_<;>intro j2
  ·have eo:k < d.bh.length:=sU j2;obtain ⟨x,hx⟩:∃ x,d.bh[k]? = some x:=⟨_,gE eo⟩;have Nu:=mG hx;obtain ⟨oE,⟨h2,G9⟩,h3,JW⟩:=uO hN Nu;have kT:=VF x Nu;have VG:=(hN.Ai x Nu).ck;rw [drop_cons hx,effEs] at nq;have hE:effE f ND x=if x.ck=0 then ((0,0):Ft) else match ND[x.to.toNat]? with | none=>((14,x.ca):Ft) | some m=>if m.ai=nG x.ck then (if (f x.seen.toNat x.label.toNat && !f x.label.toNat x.seen.toNat)=true then ((0,0):Ft) else (18,x.ca)) else (14,x.ca):=rfl
   generalize effE f ND x=EX at hE nq;have y5:∀ y:Ft,y.1≠0->EX=y->j8 f ND=y:=fun y hy h=>by rw [hno,nq,h,ah hy,ah hy]
   have y6:EX.1=0->effEs f ND d.bh=effEs f ND (d.bh.drop (k + 1)):=fun h=>by rw [nq,zIfP h]
   generalize j8 f ND=FF at y5 ⊢;obtain ⟨en,eb,ea,et,VH,ew,Bf,ecn,VI,VJ⟩:=x;simp only at h2 G9 h3 JW oE kT VG hE;obtain ⟨lb,rfl⟩:∃ n:Nat,VH=n:=⟨_,h2⟩;obtain ⟨sn,rfl⟩:∃ n:Nat,VI=n:=⟨_,h3⟩;simp only [sG] at G9 JW hE;refine iX (jk hx) ?_;refine br ?_ ?_<;>intro g
   ·have g:Bf=0:=sU g;exact rE ⟨_,by omega,k + 1,rfl,by omega,y6 (by rw [hE,zIfP g]),rfl⟩ (ep 1 (ve (aT eo (by omega))) (c8 (aT eo (by omega))))
   have gg:¬ Bf=0:=sU g
   obtain ⟨h1,oY⟩:=oE (by
    cases hb:eb
    ·rfl
    ·exact absurd (kT hb) gg)
   obtain ⟨tn,rfl⟩:∃ n:Nat,et=n:=⟨_,h1⟩;simp only [sG] at oY hE;obtain ⟨m,RY⟩:∃ m,ND[tn]? = some m:=⟨_,gE oY⟩;rw [ah gg] at hE;simp only [RY] at hE;have JV:=jh tn m RY;have has:=Ef (show Bf=1∨Bf=2∨Bf=3 by omega);generalize nG Bf=wk at has hE;have hbl:=AU sn lb JW G9;rw [E6 sn lb JW G9] at hbl;generalize hB:(f sn lb && !f lb sn)=B at hbl;obtain ⟨mk,ma,mlo,mhi,mmo,mnm,mes⟩:=m;simp only at hE;refine cP Mf JV ?_;refine dI ?_;refine cD O4 has ?_;refine br ?_ ?_<;>intro c1
   ·have c1:¬ mk=wk:=sU c1;rw [ah c1] at hE;rw [y5 _ (by simp) hE];exact ⟨_,ax,rfl⟩
   have c1:mk=wk:=sU c1;rw [zIfP c1] at hE;refine dI ?_;refine cD IH sm ?_;refine cD O5 hbl ?_;refine br ?_ ?_<;>intro c2
   ·have c2:B=false:=sU c2;rw [ah (by rw [hB,c2];simp)] at hE;rw [y5 _ (by simp) hE];exact ⟨_,ax,rfl⟩
   ·have c2:B=true:=sU c2;rw [zIfP (by rw [hB,c2])] at hE;exact rE ⟨_,by omega,k + 1,rfl,by omega,y6 (by rw [hE]),rfl⟩ (ep 1 (ve (aT eo (by omega))) (c8 (aT eo (by omega))))
  ·have hge:k=d.bh.length:=by have:=j2;simp at this;omega
   subst hge;exact rE ⟨_,by omega,e + 1,rfl,by omega,by rw [hno,nq,List.drop_length,effEs,zIfP rfl],rfl⟩ (ep 1 (ve (aT ap (by omega))) (c8 (aT ap (by omega))))
 ·have hge:e=ND.length:=by have:=hL;simp at this;omega
  subst hge;rw [hno,List.drop_length,effN];exact ⟨_,ax,rfl⟩
def VM (S:Sch) (r:DV):Prop:=∃ p:DV,r = .bS [p,.v (.int .i64 (zh S).1),(zh S).2.d]/\(((zh S).1≠0/\p = .v (.pointer none))∨((zh S).1=0/\∃ PC,jo S (aE S) PC/\p = .pt PC 0))
theorem kP (S:Sch) (hS:S.wt<=1099511627776):Ev prog 15 [.agg (cM S)] [] [] (fun r _ _=>VM S r):=by
 have hb:=(Az S hS).mono (Ψ:=fun r _ _=>Hl S r) fun _ _ _ h=>DZ hS h;have hst:zh S=if (fc S).1=0 then (if (chkA (depN (aE S) (aE S).length) (aE S)).1=0 then (if (j8 (gz S) (aE S)).1=0 then (0,(0,0)) else (4,j8 (gz S) (aE S))) else (3,chkA (depN (aE S) (aE S).length) (aE S))) else (2,fc S):=rfl
 unfold VM;generalize zh S=ST at hst ⊢;obtain ⟨ae,order,types,⟨rh,rp⟩⟩:=S;refine eG 30 [.tmp 2,.tmp 3,.cell 4 26] func15 rfl ntmps15 rfl fun _ _ _ _=>?_;refine gq TI rfl hb ax (fun r hr=>?_);rcases hr with ⟨h0,rfl⟩ | ⟨h0,PC,hP,rfl⟩
 ·rw [ah h0] at hst;rw [hst];generalize fc ⟨ae,order,types,.mk rh rp⟩=R at h0 ⊢;refine br (fun _=>?_) (fun g=>absurd (show R.1=0 by simpa using g) h0);refine dS ?_;exact ⟨.bS [.v (.pointer none),.v (.int .i64 2),Ft.d R],ax,_,rfl,.inl ⟨by simp,rfl⟩⟩
 ·rw [zIfP h0] at hst;obtain ⟨LC,sm,hR⟩:=hP.RH;have h1:=wo hP;have h2:=effcheck_spec hP sm hR hP.Xh;generalize chkA (depN (aE ⟨ae,order,types,.mk rh rp⟩) (aE ⟨ae,order,types,.mk rh rp⟩).length) (aE ⟨ae,order,types,.mk rh rp⟩)=R1 at h1 hst;have hz:(j8 (gz ⟨ae,order,types,.mk rh rp⟩) (aE ⟨ae,order,types,.mk rh rp⟩)).1=0->j8 (gz ⟨ae,order,types,.mk rh rp⟩) (aE ⟨ae,order,types,.mk rh rp⟩)=(0,0):=uZ;generalize j8 (gz ⟨ae,order,types,.mk rh rp⟩) (aE ⟨ae,order,types,.mk rh rp⟩)=R2 at h2 hst hz;refine cP TJ h1 ?_;refine br ?_ ?_<;>intro g
  ·have g:¬ R1.1=0:=sU g;rw [ah g] at hst;rw [hst];refine dS ?_;exact ⟨.bS [.v (.pointer none),.v (.int .i64 3),Ft.d R1],ax,_,rfl,.inl ⟨by simp,rfl⟩⟩
  have g:R1.1=0:=sU g;rw [zIfP g] at hst;refine cP TL h2 ?_;refine br ?_ ?_<;>intro g
  ·have g:¬ R2.1=0:=sU g;rw [ah g] at hst;rw [hst];refine dS ?_;exact ⟨.bS [.v (.pointer none),.v (.int .i64 4),Ft.d R2],ax,_,rfl,.inl ⟨by simp,rfl⟩⟩
  have g:R2.1=0:=sU g;rw [zIfP g] at hst;rw [hst,hz g];refine dS ?_;exact ⟨.bS [.pt PC 0,.v (.int .i64 0),Ft.d (0,0)],ax,_,rfl,.inr ⟨rfl,PC,hP,rfl⟩⟩
abbrev tA:ByteArray:=⟨#[114,111,111,116,40,49,41]⟩
abbrev tB:ByteArray:=⟨#[108,101,118,101,108,115,32,123,97,125,32,114,111,111,116,32,98,111,111,108]⟩
abbrev RZ:ByteArray:=⟨#[40]⟩
abbrev R0:ByteArray:=⟨#[41]⟩
abbrev VN:ByteArray:=⟨#[97]⟩
def lA:List oh:=[⟨1,0,4,uS,0⟩,⟨4,4,5,RZ,0⟩,⟨2,5,6,aJ,1⟩,⟨4,6,7,R0,0⟩]
def lB:List oh:=[⟨1,0,6,ez,0⟩,⟨4,7,8,nC,0⟩,⟨1,8,9,VN,0⟩,⟨4,9,10,kL,0⟩,⟨1,11,15,uS,0⟩,⟨1,16,20,Cs,0⟩]
theorem y7 {s:ByteArray} (hs:s.size<=1099511627776) {i e:Nat} (hi:i < s.size) (he:i + cp (s.data.toList.drop i)=e) (hn:i < e) {M:ByteArray} (hM:s.extract i e=M) (hr:aX M=true) :
  aV prog 244 [.v (.string s),.v (.int .i64 i)] (HD ⟨1,i,e,M,0⟩):=by
 subst hM;exact A8 s hs i hi e he hn hr
theorem Nx:aV prog 291 [.v (.string tA),.v (.int .i64 (5:Nat))] (.bS [.v (.int .i64 1),.v (.int .i64 (6:Nat)),Ft.d (0,0)]):=by
 have h:=Hp tA (by decide) 5 (by decide) 49 (by decide +kernel) (by decide) (fun h=>absurd h (by decide)) (by decide +kernel);rw [show eH ((tA.data.toList.drop 5).take (digN (tA.data.toList.drop 5)))=1 by decide +kernel,show 5 + digN (tA.data.toList.drop 5)=6 by decide +kernel] at h;exact h
theorem Ny:jX tA 0 lA:=
 .tok (e:=4) (by decide) (by decide +kernel) (by decide +kernel) (y7 (by decide) (by decide) (by decide +kernel) (by decide) (by decide +kernel) (by decide +kernel)) rfl (by decide) (by decide)
 (.tok (e:=5) (by decide) (by decide +kernel) (by decide +kernel) (jW tA (by decide) 4 (by decide) (by decide +kernel) RZ (by decide +kernel) (by decide) (by decide)) rfl (by decide) (by decide)
 (.tok (e:=6) (by decide) (by decide +kernel) (by decide +kernel) (D9 tA (by decide) 5 (by decide) (by decide +kernel) (by decide +kernel) (by decide +kernel) 1 6 Nx) rfl (by decide) (by decide)
 (.tok (e:=7) (by decide) (by decide +kernel) (by decide +kernel) (jW tA (by decide) 6 (by decide) (by decide +kernel) R0 (by decide +kernel) (by decide) (by decide)) rfl (by decide) (by decide) .nil)))
theorem Nz:jX tB 0 lB:=
 .tok (e:=6) (by decide) (by decide +kernel) (by decide +kernel) (y7 (by decide) (by decide) (by decide +kernel) (by decide) (by decide +kernel) (by decide +kernel)) rfl (by decide) (by decide)
 (.blank (by decide) (by decide +kernel)
 (.tok (e:=8) (by decide) (by decide +kernel) (by decide +kernel) (jW tB (by decide) 7 (by decide) (by decide +kernel) nC (by decide +kernel) (by decide) (by decide)) rfl (by decide) (by decide)
 (.tok (e:=9) (by decide) (by decide +kernel) (by decide +kernel) (y7 (by decide) (by decide) (by decide +kernel) (by decide) (by decide +kernel) (by decide +kernel)) rfl (by decide) (by decide)
 (.tok (e:=10) (by decide) (by decide +kernel) (by decide +kernel) (jW tB (by decide) 9 (by decide) (by decide +kernel) kL (by decide +kernel) (by decide) (by decide)) rfl (by decide) (by decide)
 (.blank (by decide) (by decide +kernel)
 (.tok (e:=15) (by decide) (by decide +kernel) (by decide +kernel) (y7 (by decide) (by decide) (by decide +kernel) (by decide) (by decide +kernel) (by decide +kernel)) rfl (by decide) (by decide)
 (.blank (by decide) (by decide +kernel)
 (.tok (e:=20) (by decide) (by decide +kernel) (by decide +kernel) (y7 (by decide) (by decide) (by decide +kernel) (by decide) (by decide +kernel) (by decide +kernel)) rfl (by decide) (by decide) .nil))))))))
abbrev R3:aU:=A0 (lA ++ [j5 7])
abbrev VO:aU:=A0 (lB ++ [j5 20])
theorem HM:aR R3:=uV lA 7 (by decide)
theorem Bh:aR VO:=uV lB 20 (by decide)
abbrev H4:aU:=⟨lA ++ [j5 7],0,0,4,0⟩
theorem HN:aR H4:=⟨HM.lt,HM.nx,HM.len,HM.dl⟩
theorem HO:Ev prog 86 [wI] [bg R3] [] (mg (.agg (cM ⟨[],[],[],Ct 0 0⟩)) H4):=by
 have hk:R3.kw ez=H4:=rfl;have hn:(R3.kw ez).gJ nC=H4:=by rw [hk];exact yK (by decide) _
 refine sC R3 HM 5 (by rw [hk];decide) H4 [] HN (by rw [hn];rfl) (wg (by decide) (by decide) _) (wg (by decide) (by decide) _) 0 0 H4 ?_;rw [Nj (by decide)];exact Hz H4 HN (by decide) (by decide)
theorem JX:aV prog 35 [.v (.string tA)] (.bS [.agg (cM Nq),Ft.d (4,0)]):=
 uU tA _ (uW tA (by decide) lA Ny) _ H4 H4 (4,0) HO (JR H4 HN (by decide))
abbrev VP:aU:=⟨lB ++ [j5 20],4,0,0,0⟩
abbrev VQ:aU:=⟨lB ++ [j5 20],5,0,0,0⟩
abbrev N4:aU:=⟨lB ++ [j5 20],6,0,0,0⟩
theorem R4:aR VP:=⟨by decide,Bh.nx,Bh.len,by decide⟩
theorem R5:aR VQ:=⟨by decide,Bh.nx,Bh.len,by decide⟩
theorem R6:aR N4:=⟨by decide,Bh.nx,Bh.len,by decide⟩
abbrev sB:Sch:=⟨[⟨VN,8⟩],[],[],Ct 1 16⟩
theorem HP:Ev prog 86 [wI] [bg VO] [] (mg (.agg (cM sB)) N4):=by
 refine sC VO Bh 6 (by decide +kernel) VP [⟨VN,8⟩] R4 (by rfl) (by decide +kernel) (by decide +kernel) 1 16 N4 ?_;rw [show VP.kw uS=VQ from rfl];exact D4 VQ R5 16 20 0 rfl (by decide)
theorem JY:aV prog 35 [.v (.string tB)] (.bS [.agg (cM sB),Ft.d (0,0)]):=
 uU tB _ (uW tB (by decide) lB Nz) _ N4 N4 (0,0) HP (Np N4 R6 rfl rfl)
theorem NA:aV prog 11 [.v (.string tA)] (.bS [.v (.pointer none),.v (.int .i64 1),Ft.d (4,0)]):=by
 have hp:=JX;refine eG 21 [.tmp 2,.tmp 3,.cell 4 26] func11 rfl ntmps11 rfl fun _ _ _ _=>?_;refine cP OW hp ?_;refine dS ?_;exact ⟨_,ax,rfl⟩
theorem VR:zh sB=(0,0,0):=by decide +kernel
theorem NB:Ev prog 11 [.v (.string tB)] [] [] (fun r _ _=>∃ PC,r = .bS [.pt PC 0,.v (.int .i64 0),Ft.d (0,0)]):=by
 have hp:=JY;have ho:=kP sB (by decide);refine eG 21 [.tmp 2,.tmp 3,.cell 4 26] func11 rfl ntmps11 rfl fun _ _ _ _=>?_;refine cP OW hp ?_;refine gq OU rfl ho ax (fun r hr=>?_);obtain ⟨p,rfl,hp⟩:=hr;rw [VR] at hp ⊢;rcases hp with ⟨h,_⟩ | ⟨_,PC,_,rfl⟩
 ·exact absurd rfl h
 ·exact ⟨.bS [.pt PC 0,.v (.int .i64 0),Ft.d (0,0)],ax,PC,rfl⟩
theorem wu:aV prog 10 [] (.v (.bool true)):=by
 have hA:=NA;have hB:=NB;refine eG 32 [.tmp 0] func10 rfl ntmps10 rfl fun _ _ _ _=>?_;refine cP OT hA ?_;refine gq OT rfl hB ax (fun r hr=>?_);obtain ⟨PC,rfl⟩:=hr;exact (rfl:_=_)
def JZ (S:Sch) (s:ByteArray):Option Nat:=if s=⟨#[]⟩ then some (AX (gz S) S.ae.length) else bV (al S.ae) s
theorem J0 (s:ByteArray):aV prog 17 [.v (.pointer none),.v (.string s)] (.bS [.v (.int .i64 0),Ft.d (1,0)]):=by
 refine eG 29 [.tmp 4,.cell 5 26] func17 rfl ntmps17 rfl fun _ _ _ _=>?_;exact ⟨_,ax,rfl⟩
def obsD:Option Nat->DV
 | some i=>.bS [.v (.int .i64 (i:Int)),Ft.d (0,0)]
 | none=>.bS [.v (.int .i64 0),Ft.d (17,0)]
theorem HQ {S:Sch} {ND:List Nd} {PC:List DV} (hP:jo S ND PC) (s:ByteArray):aV prog 17 [.pt PC 0,.v (.string s)] (obsD (JZ S s)):=by
 unfold JZ;by_cases hs:s=⟨#[]⟩
 ·rw [zIfP hs];obtain ⟨LC,sm,hR⟩:=hP.RH;have hb:=hR.bot;generalize AX (gz S) S.ae.length=b at hb ⊢;refine eG 29 [.tmp 4,.cell 5 26] func17 rfl ntmps17 rfl fun _ _ _ _=>?_;refine br (fun _=>?_) (fun g=>absurd hs (of_decide_eq_false g));refine cP IH sm ?_;refine cP OX hb ?_;exact ⟨_,ax,rfl⟩
 ·rw [ah hs];obtain ⟨az,js,hX,hl⟩:=hP.lat;have hf:=rR (cr S az js).af (cr S az js).az (cr S az js).rows (cr S az js).js s hX.hT hX.iY;have JV:(cr S az js).af=al S.ae:=rfl;unfold Lx.pd at hl;generalize (fq (cr S az js).af (cd (cr S az js).af (cr S az js).az) (cr S az js).rows (cr S az js).js)=LC at hl hf;rw [JV] at hf;generalize bV (al S.ae) s=o at hf ⊢
  cases o with
  | none=>
   refine eG 29 [.tmp 4,.cell 5 26] func17 rfl ntmps17 rfl fun _ _ _ _=>?_;refine br (fun g=>absurd (of_decide_eq_true g) hs) (fun _=>?_);refine cP IH hl ?_;refine cP II hf ?_;exact ⟨_,ax,rfl⟩
  | some i=>
   refine eG 29 [.tmp 4,.cell 5 26] func17 rfl ntmps17 rfl fun _ _ _ _=>?_;refine br (fun g=>absurd (of_decide_eq_true g) hs) (fun _=>?_);refine cP IH hl ?_;refine cP II hf ?_;exact ⟨_,ax,rfl⟩
def R7:Option Nat->Int
 | some i=>(i:Int)
 | none=>-1
abbrev R8 (W:List DV) (s:ByteArray) (e:Nat):St:=⟨[(1,⟨[],.v (.string s)⟩),aF 2 0,aq 5 e],[W],[]⟩
theorem Bi (lv:List Wd) (f:Nat->Nat->Bool) (ND:List Nd) (z:Int) (hL:gj f lv.length) (hn:lv.length<=32) (s:ByteArray):aV prog 19 [.agg (wL lv f ND z),.v (.string s)]
  (.v (.int .i64 (R7 (if s=⟨#[]⟩ then some (AX f lv.length) else bV (al lv) s)))):=by
 have hb:=s5 lv.length f (by omega);rw [uN hL] at hb;have SJ:=ak lv;have fi:=cw lv;by_cases hs:s=⟨#[]⟩
 ·rw [zIfP hs];refine eG 27 [.tmp 4] func19 rfl ntmps19 rfl fun _ _ _ _=>?_;refine br (fun _=>?_) (fun g=>absurd hs (of_decide_eq_false g));refine cP TO hb ?_;exact (rfl:_=_)
 ·rw [ah hs];refine eG 27 [.tmp 4] func19 rfl ntmps19 rfl fun _ _ _ _=>?_;refine br (fun g=>absurd (of_decide_eq_true g) hs) (fun _=>?_);refine lI (fun j st=>∃ e:Nat,st=R8 (wL lv f ND z) s e/\e<=lv.length/\(∀ i,i < e->(al lv)[i]? ≠ some s)/\j=lv.length - e) ⟨0,rfl,by omega,fun _ h=>by omega,rfl⟩ (bc wB) ?_;rintro j st ⟨e,rfl,he,hno,rfl⟩;refine br (fun ap=>?_) (fun hge=>?_)
  ·have ap:e < lv.length:=sV SJ ap;obtain ⟨x,hx⟩:=gX ap;have zf:(al lv)[e]? = some x.s:=by unfold al;rw [List.getElem?_map,hx];all_goals rfl
   obtain ⟨xs,xa⟩:=x;simp only at zf;refine iX (aH hx) ?_;refine br ?_ ?_<;>intro g
   ·have g:xs=s:=of_decide_eq_true g
    rw [p8 (p:=e) (by rw [zf,g]) (fun j hj=>by
     rcases Nat.lt_or_ge j e with h | h
     ·exact absurd hj (hno j h)
     ·exact h)]
    exact (rfl:_=_)
   ·have g:¬ xs=s:=of_decide_eq_false g
    exact rE ⟨_,by omega,e + 1,rfl,by omega,fun i hi=>by
     rcases ka hi with h | h
     ·exact hno i h
     ·rw [h,zf];exact fun q=>g (Option.some.inj q),rfl⟩ (bc (c8 (aT ap (by omega))))
  ·have hge:lv.length<=e:=by
    have:=hge;simp [SJ] at this;exact this
   rw [lg fun i hi=>hno i (by have:=(gS hi).1;omega) hi];exact (rfl:_=_)
theorem wv (S:Sch) (hS:S.wt<=1099511627776):aV prog 18 [.agg (cM S)] (.v (.bool (decide ((zh S).1=0)))):=by
 have hw:=s8 S hS;generalize zh S=ST at hw ⊢;obtain ⟨sn,sf⟩:=ST;obtain ⟨ae,order,types,⟨rh,rp⟩⟩:=S;refine eG 12 [.tmp 2] func18 rfl ntmps18 rfl fun _ _ _ _=>?_;refine cP TG hw ?_;exact (rfl:_=_)
theorem J1 {S:Sch} (h:(zh S).1=0):(fc S).1=0:=by
 unfold zh at h;by_cases h0:(fc S).1=0
 ·exact h0
 ·rw [ah h0] at h;exact absurd h (by simp)
theorem observers21_law (S:Sch) (hS:S.wt<=1099511627776) (_:Qh S) (name:ByteArray) (_:name.size<=1048576):aV prog 5 [.agg (cM S),.v (.string name)] (.v (.bool true)):=by
 have ga:=vR S hS;have ho:=kP S hS;have rN:=wv S hS;have DG:=wu;have hon:=J0 name;have R9:=fun PC (hP:jo S (aE S) PC)=>HQ hP name;have hw:=fun h=>nz S hS h;have qH:=J1 (S:=S);have sm:(fc S).1=0->gj (gz S) S.ae.length/\S.ae.length<=32:=fun h=>iq (ny h).lat;have s9:=fun h=>Bi S.ae (gz S) (aE S) (fQ S) (sm h).1 (sm h).2 name;have hO:JZ S name=(if name=⟨#[]⟩ then some (AX (gz S) S.ae.length) else bV (al S.ae) name):=rfl;rw [<- hO] at s9;unfold VM at ho;generalize JZ S name=O at s9 R9;generalize zh S=ST at ho rN qH;obtain ⟨sn,sf⟩:=ST;simp only at ho rN qH;obtain ⟨ae,order,types,⟨rh,rp⟩⟩:=S;refine eG 68 [.tmp 4] func5 rfl ntmps5 rfl fun _ _ _ _=>?_;refine cP Md hon ?_;refine ⟨_,JB _ _ (1,0) (1,0),?_⟩;refine gq TF rfl ga ax (fun r hr=>?_);obtain ⟨g,rfl⟩:=hr
 cases g with
 | true=>
  refine cP IE DG ?_;exact (rfl:_=_)
 | false=>
  refine cP TH rN ?_;refine br (fun _=>?_) (fun g=>?_)
  ·refine cP IE DG ?_;exact (rfl:_=_)
  have h0:sn=0:=by simpa [pickB] using g
  have hr0:=qH h0;have hw:=hw hr0;have s9:=s9 hr0;refine gq OU rfl ho ax (fun r hr=>?_);obtain ⟨p,rfl,hp⟩:=hr;rcases hp with ⟨bi,_⟩ | ⟨_,PC,hP,rfl⟩
  ·exact absurd h0 bi
  have R9:=R9 PC hP;generalize aE ⟨ae,order,types,.mk rh rp⟩=ND at hw s9;generalize fQ ⟨ae,order,types,.mk rh rp⟩=rt at hw s9;unfold gz at s9;generalize du (Sch.mk ae order types (.mk rh rp)).ae.length (cv (al (Sch.mk ae order types (.mk rh rp)).ae) (Sch.mk ae order types (.mk rh rp)).order)=f at hw s9
  cases O with
  | none=>
   refine cP Md R9 ?_;refine cP Me hw ?_;refine cP OV s9 ?_;refine ⟨_,G4 _ _ (17,0) (17,0),?_⟩;refine cP IE DG ?_;exact (rfl:_=_)
  | some i=>
   refine cP Md R9 ?_;refine cP Me hw ?_;refine cP OV s9 ?_;refine br (fun _=>?_) (fun g=>absurd g (by simp [R7]));refine ⟨_,G4 _ _ (0,0) (0,0),?_⟩;refine cP IE DG ?_;exact (rfl:_=_)
end Go.Proofs.YtfdedoiiahbnnaaGreat
