/- Part 6 of the proof: The reader of schemas: wrong, fine, keyword, name; The reader of schemas: a list, for any reader of its elements that has its own contract; Rules for the evaluator: a call that writes the caller's objects, in a region that draws its order; The reader of schemas: a level's name onto the schema's levels; The reader of schemas: a type where something is wrong; the type bool; The reader of schemas: a schema of levels and a root; The reader of schemas: its end; Parse, what it reads known; The library's IndexByte, laid at this program; HasPrefix; Tokens: Blank, Mark, the token of a name, of a mark, of a number; Tokens: the token of a name, of a mark, of a number; all of a text's; The document's Bottom, Right of paths; the program's Right of paths; The least depths of the values of a plan's nodes: plain; The program's nodes, least depths; A region that draws its order, in which a new object may come at any time among calls: its run with the object made at each of these times serves every order; Where steps lead: the document's Edge, Walk; the program's; The program's way along steps: fits, step, Walk; The document's least depths; fine; the chapter's example; The program's Depths; The law of least depths: fine, the example, the call returns true; With which schemas nothing is wrong: the document's Wrong of chapters 20, 21; the law's fine; The law of checks: the call returns true; What is wrong with a coarse view, exactly: the document's Wrong of chapter 20; What is wrong with a coarse view: the program's effect.Check; The chapter's examples of checked schemas; The law of checked schemas: the call returns true. No condition. -/
import Derived.Shelf.Strings.Search1
import Derived.Test.YtfdedoiiahbnnaaGreatNa2
import Derived.Test.YtfdedoiiahbnnaaGreatNa3
import Derived.Test.YtfdedoiiahbnnaaGreatNa5
set_option linter.all false
set_option maxRecDepth 100000
namespace Go.Proofs.YtfdedoiiahbnnaaGreat
open Go Go.RowKit Dv Go.Proofs.Tryz
abbrev wE:DV:=.agg [.loc 0 0]
def aU.kw (c:aU) (s:ByteArray):aU:=if c.is 1 s then c.step else c.wrong
def aU.pq (c:aU):Wd:=⟨(c.Et 1).s,(c.Et 1).a⟩
def aU.gB (c:aU):aU:=if c.tk 1 then c.step else c.wrong
theorem kJ (c:aU) (h:aR c):Ev prog 245 [wE] [bh c] [] (mf (.bW []) c.wrong):=by
 have hp:=dT c h;have h5:=jl c h 5;have h4:=jl c h 4;have hC:c.wrong=c.fail (if c.cy.k=0 then 5 else 4):=rfl;rw [hC];generalize c.cy=t at hp ⊢;obtain ⟨tk,ta,te,ts,tn⟩:=t;simp only;have e5:tk=0->c.fail (if tk=0 then 5 else 4)=c.fail 5:=fun g=>by rw [zIfP g]
 have e4:¬ tk=0->c.fail (if tk=0 then 5 else 4)=c.fail 4:=fun g=>by rw [ah g]
 generalize c.fail (if tk=0 then 5 else 4)=CX at e5 e4 ⊢;generalize c.fail 5=C5 at h5 e5;generalize c.fail 4=C4 at h4 e4;obtain ⟨l,p,d,f1,f2⟩:=c;obtain ⟨l5,p5,d5,f15,f25⟩:=C5;obtain ⟨l4,p4,d4,f14,f24⟩:=C4;refine eG 13 [] func245 rfl ntmps245 rfl fun _ _ _ _=>?_;refine ay 1 0 mQ rfl rfl rfl aO aO hp (fun r os' tk' hΦ _ _=>?_);obtain ⟨rfl,rfl,rfl⟩:=hΦ;refine br ?_ ?_<;>intro g
 ·have g:tk=0:=sU g;rw [e5 g];refine ay 1 0 xu rfl rfl rfl aO aO h5 (fun r os' tk' hΦ _ _=>?_);obtain ⟨rfl,rfl,rfl⟩:=hΦ;exact ⟨.bW [],[bh _],aO,aO,rfl,rfl,rfl⟩
 ·have g:¬ tk=0:=sU g;rw [e4 g];refine ay 1 0 xu rfl rfl rfl aO aO h4 (fun r os' tk' hΦ _ _=>?_);obtain ⟨rfl,rfl,rfl⟩:=hΦ;exact ⟨.bW [],[bh _],aO,aO,rfl,rfl,rfl⟩
theorem mh (c:aU):Ev prog 167 [wE] [bh c] [] (mf (.v (.bool (decide (c.f.1=0)))) c):=by
 have hf:=mg c;obtain ⟨l,p,d,f1,f2⟩:=c;refine eG 8 [.tmp 2] func167 rfl ntmps167 rfl fun _ _ _ _=>?_;refine ay 1 0 Fu rfl rfl rfl aO aO hf (fun r os' tk' hΦ _ _=>?_);obtain ⟨rfl,rfl,rfl⟩:=hΦ;exact ⟨.v (.bool _),[bh _],aO,aO,rfl,rfl,rfl⟩
theorem nz (c:aU) (h:aR c) (s:ByteArray):Ev prog 158 [wE,.v (.string s)] [bh c] [] (mf (.bW []) (c.kw s)):=by
 have hm:=oR c h s;have hw:=kJ c h;have hC:c.kw s=if c.is 1 s then c.step else c.wrong:=rfl
 have hM:c.Er 1 s=if c.is 1 s then c.step else c:=rfl
 rw [hM] at hm;generalize c.kw s=C2 at hC ⊢;generalize c.is 1 s=B at hC hm
 cases B with
 | true=>
  rw [zIfP rfl] at hC hm;rw [hC];generalize c.step=C1 at hm ⊢;obtain ⟨l,p,d,f1,f2⟩:=c;obtain ⟨l1,p1,d1,f11,f21⟩:=C1;refine eG 11 [] func158 rfl ntmps158 rfl fun _ _ _ _=>?_;refine ay 1 0 BE rfl rfl rfl aO aO hm (fun r os' tk' hΦ _ _=>?_);obtain ⟨rfl,rfl,rfl⟩:=hΦ;exact ⟨.bW [],[bh _],aO,aO,rfl,rfl,rfl⟩
 | false=>
  rw [ah (by simp)] at hC hm;rw [hC];generalize c.wrong=C1 at hw ⊢;obtain ⟨l,p,d,f1,f2⟩:=c;obtain ⟨l1,p1,d1,f11,f21⟩:=C1;refine eG 11 [] func158 rfl ntmps158 rfl fun _ _ _ _=>?_;refine ay 1 0 BE rfl rfl rfl aO aO hm (fun r os' tk' hΦ _ _=>?_);obtain ⟨rfl,rfl,rfl⟩:=hΦ;refine ay 1 0 FE rfl rfl rfl aO aO hw (fun r os' tk' hΦ _ _=>?_);obtain ⟨rfl,rfl,rfl⟩:=hΦ;exact ⟨.bW [],[bh _],aO,aO,rfl,rfl,rfl⟩
theorem AV (c:aU) (h:aR c):Ev prog 162 [wE] [bh c] [] (mf (.agg (gl c.pq)) c.gB):=by
 have hm:=sw c h 1;have hw:=kJ c h;have hC:c.gB=if c.tk 1 then c.step else c.wrong:=rfl
 have hW:c.pq=⟨(c.Et 1).s,(c.Et 1).a⟩:=rfl;have hM:c.KH 1=if c.tk 1 then c.step else c:=rfl
 rw [hM] at hm;generalize c.gB=C2 at hC ⊢;generalize c.pq=W at hW ⊢;generalize c.Et 1=t at hm hW;obtain ⟨tk,ta,te,ts,tn⟩:=t;simp only at hW;rw [hW];generalize c.tk 1=B at hC hm
 cases B with
 | true=>
  rw [zIfP rfl] at hC hm;rw [hC];generalize c.step=C1 at hm ⊢;obtain ⟨l,p,d,f1,f2⟩:=c;obtain ⟨l1,p1,d1,f11,f21⟩:=C1;refine eG 20 [.cell 2 34] func162 rfl ntmps162 rfl fun _ _ _ _=>?_;refine ay 1 0 BI rfl rfl rfl aO aO hm (fun r os' tk' hΦ _ _=>?_);obtain ⟨rfl,rfl,rfl⟩:=hΦ;exact ⟨.agg (gl _),[bh _],aO,aO,rfl,rfl,rfl⟩
 | false=>
  rw [ah (by simp)] at hC hm;rw [hC];generalize c.wrong=C1 at hw ⊢;obtain ⟨l,p,d,f1,f2⟩:=c;obtain ⟨l1,p1,d1,f11,f21⟩:=C1;refine eG 20 [.cell 2 34] func162 rfl ntmps162 rfl fun _ _ _ _=>?_;refine ay 1 0 BI rfl rfl rfl aO aO hm (fun r os' tk' hΦ _ _=>?_);obtain ⟨rfl,rfl,rfl⟩:=hΦ;refine ay 1 0 FE rfl rfl rfl aO aO hw (fun r os' tk' hΦ _ _=>?_);obtain ⟨rfl,rfl,rfl⟩:=hΦ;exact ⟨.agg (gl _),[bh _],aO,aO,rfl,rfl,rfl⟩
theorem aR.kw {c:aU} (h:aR c) (s:ByteArray):aR (c.kw s):=by
 unfold aU.kw;split
 ·exact h.step
 ·exact h.wrong
theorem aR.gB {c:aU} (h:aR c):aR c.gB:=by
 unfold aU.gB;split
 ·exact h.step
 ·exact h.wrong
theorem sx {c:aU} (h:c.f.1≠0):c.cy=j4 c.f.2:=by rw [aU.cy,ah h]
theorem v7 {c:aU} (h:c.f.1≠0) {k:Int} (hk:k≠0) (s:ByteArray):c.is k s=false:=by
 rw [aU.is,sx h];simp [j4,Ne.symm hk]
theorem AW {c:aU} (h:c.f.1≠0) (k:Int):c.tk k=false:=by
 rw [aU.tk,sx h];simp [j4]
theorem Hq {c:aU} (h:c.f.1≠0) (e a:Int):c.gA e a=c:=by rw [aU.gA,ah (fun g=>h g.1)]
theorem oS {c:aU} (h:c.f.1≠0):c.wrong=c:=Hq h _ _
theorem yE {c:aU} (h:c.f.1≠0) (s:ByteArray):c.gH s=c:=by rw [aU.gH,v7 h (by decide),ah (by simp),oS h]
theorem M6 {c:aU} (h:c.f.1≠0) (s:ByteArray):c.kw s=c:=by rw [aU.kw,v7 h (by decide),ah (by simp),oS h]
end Go.Proofs.YtfdedoiiahbnnaaGreat
set_option maxRecDepth 100000
namespace Go.Proofs.YtfdedoiiahbnnaaGreat
namespace Dv
open Go Go.RowKit
mutual
theorem Cj {bx:List (List DV)} {N n m:Nat}:∀ {d:DV},clB n m d=true->Cc bx N n m d d
 | .v _,_=>by simp only [Cc]
 | .ud,_=>by simp only [Cc]
 | .agg l,h=>by simp only [Cc];exact ⟨l,rfl,bJ (by simpa [clB] using h)⟩
 | .bW l,h=>by simp only [Cc];exact ⟨l,rfl,bJ (by simpa [clB] using h)⟩
 | .sl e es none,_=>by simp only [Cc];exact .inr (.inl ⟨none,rfl⟩)
 | .sl e es (some k),h=>by simp only [Cc];exact ⟨by simpa [clB] using h,trivial⟩
 | .pt cs o,_=>by simp only [Cc];exact .inl trivial
 | .loc i o,h=>by simp only [Cc];exact ⟨by simpa [clB] using h,trivial⟩
 | .el i o,h=>by simp only [Cc];exact ⟨by simpa [clB] using h,trivial⟩
 | .ms i e o l c,h=>by simp only [Cc];exact ⟨by simpa [clB] using h,trivial⟩
 | .fn f a b,h=>by
  simp only [clB,bA] at h;simp only [Cc];exact ⟨a,b,rfl,bJ h.1,bJ h.2⟩
 | .lG t x,h=>by simp only [Cc];exact ⟨x,rfl,Cj (by simpa [clB] using h)⟩
theorem bJ {bx:List (List DV)} {N n m:Nat}:∀ {l:List DV},clB.clL n m l=true->CcL bx N n m l l
 | [],_=>by simp only [CcL]
 | d :: r,h=>by
  simp only [clB.clL,bA] at h;simp only [CcL];exact ⟨d,r,rfl,Cj h.1,bJ h.2⟩
end
mutual
theorem yF {n n' m:Nat} (hn:n<=n'):∀ {d:DV},clB n m d=true->clB n' m d=true
 | .v _,_=>rfl
 | .ud,_=>rfl
 | .agg l,h=>by simp only [clB] at h ⊢;exact jm hn h
 | .bW l,h=>by simp only [clB] at h ⊢;exact jm hn h
 | .sl e es none,_=>rfl
 | .sl e es (some k),h=>by simpa [clB] using h
 | .pt cs o,_=>rfl
 | .loc i o,h=>by simp [clB] at h ⊢;omega
 | .el i o,h=>by simp [clB] at h ⊢;omega
 | .ms i e o l c,h=>by simp [clB] at h ⊢;omega
 | .fn f a b,h=>by
  simp only [clB,bA] at h ⊢;exact ⟨jm hn h.1,jm hn h.2⟩
 | .lG t x,h=>by simp only [clB] at h ⊢;exact yF hn h
theorem jm {n n' m:Nat} (hn:n<=n'):∀ {l:List DV},clB.clL n m l=true->clB.clL n' m l=true
 | [],_=>rfl
 | d :: r,h=>by
  simp only [clB.clL,bA] at h ⊢;exact ⟨yF hn h.1,jm hn h.2⟩
end
theorem dg {n m:Nat} {tk:List TkE}:∀ {l:List DV},clB.clL n m l=true->WeL n m tk l l
 | [],_=>by simp only [WeL]
 | d :: r,h=>by
  simp only [clB.clL,bA] at h;simp only [WeL];exact ⟨d,r,rfl,.inl ⟨rfl,h.1⟩,dg h.2⟩
end Dv
open Go Go.RowKit Dv Go.Proofs.Tryz
def listF {α:Type} (f:aU->α->aU × α) (e:ByteArray):Nat->aU->α->aU × α
 | 0,c,a=>(c,a)
 | n + 1,c,a=>if c.f.1=0 then (if (f c a).1.is 4 e then ((f c a).1.step,(f c a).2) else listF f e n ((f c a).1.gH ⟨#[44]⟩) (f c a).2) else (c,a)
structure K8 {α:Type} (A B C:α->List DV) (T:α->TkE) (f:aU->α->aU × α) (Inv:aU->α->Prop) (g i j:Nat) (c:aU) (a:α):Prop where
 ok:aR (f c a).1
 l:(f c a).1.l=c.l
 p:c.p<=(f c a).1.p
 inv:Inv (f c a).1 (f c a).2
 ev:Ev prog g [.loc i 0,.loc j 0] [bh c,A a,B a,C a] [T a] (fun r os tk=>r = .bW []/\os=[bh (f c a).1,A (f c a).2,B (f c a).2,C (f c a).2]/\tk=[T (f c a).2])
abbrev M7 (g i j:Nat) (e:ByteArray) (c:aU) (X Y Z:List DV) (q:TkE):St:=⟨[(1,⟨[],.v (.string e)⟩),(3,⟨[],.fn g [] [.loc i 0,.loc j 0]⟩),aE 4 4],[bh c,X,Y,Z,[.loc 0 0]],[q]⟩
theorem aU.Hr (c:aU) (s:ByteArray):(c.gH s).l=c.l:=by
 unfold aU.gH aU.step aU.wrong aU.fail aU.gA
 repeat' split
 all_goals rfl
theorem aU.M8 (c:aU) (s:ByteArray) (h:(c.gH s).f.1=0):(c.gH s).p=c.p + 1:=by
 have hk:c.is 4 s=true->¬ c.cy.k=0:=fun h=>by
  simp only [aU.is,bA,decide_eq_true_eq] at h;omega
 unfold aU.gH at h ⊢;split
 ·rename_i hi;unfold aU.step;rw [ah (hk hi)]
 ·rename_i hi;rw [ah hi] at h;unfold aU.wrong aU.fail aU.gA at h;exfalso;by_cases h0:c.f.1=0
  ·by_cases h1:c.cy.k=0
   ·rw [zIfP ⟨h0,by rw [zIfP h1];decide⟩,zIfP h1] at h;exact absurd h (by simp)
   ·rw [zIfP ⟨h0,by rw [ah h1];decide⟩,ah h1] at h;exact absurd h (by simp)
  ·rw [ah (fun g=>h0 g.1)] at h;exact h0 h
theorem AX {α:Type} {A B C:α->List DV} {T:α->TkE} {f:aU->α->aU × α} {Inv:aU->α->Prop} {g i j:Nat} (hi:i < 4) (hj:j < 4) (hA:∀ a,clB.clL 4 1 (A a)=true) (hB:∀ a,clB.clL 4 1 (B a)=true) (hC:∀ a,clB.clL 4 1 (C a)=true) (iV:Enters prog g)
  (Vo:∀ c a,aR c->Inv c a->c.f.1=0->K8 A B C T f Inv g i j c a) (RC:∀ c a,aR c->Inv c a->Inv (c.gH ⟨#[44]⟩) a) (e:ByteArray) (N:Nat) (c:aU) (a:α) (hc:aR c) (ha:Inv c a) (hN:c.l.length<=c.p + N) :
  Ev prog 160 [wE,.v (.string e),.v (.bool false),.fn g [] [.loc i 0,.loc j 0]] [bh c,A a,B a,C a] [T a]
   (fun r os tk=>r = .bW []/\os=[bh (listF f e N c a).1,A (listF f e N c a).2,B (listF f e N c a).2,C (listF f e N c a).2]/\tk=[T (listF f e N c a).2]):=by
 have h5:∀ X:α->List DV,(∀ a,clB.clL 4 1 (X a)=true)->∀ a,clB.clL 5 1 (X a)=true:=fun X h a=>jm (by omega) (h a);have SD:=h5 A hA;have SE:=h5 B hB;have SF:=h5 C hC
 have pB:clB 5 1 (.fn g [] [.loc i 0,.loc j 0])=true:=by
  simp [clB,clB.clL];omega
 refine eG 26 [] func160 rfl ntmps160 rfl fun _ _ _ _=>?_;refine aX (fun n st=>∃ c' a',st=M7 g i j e c' (A a') (B a') (C a') (T a')/\aR c' /\ Inv c' a' /\ (c'.f.1=0->c'.l.length<=c'.p + n)/\listF f e N c a=listF f e n c' a') N (M7 g i j e c (A a) (B a) (C a) (T a)) (ep 5 (by repeat' (first | exact rfl | exact au rfl | exact Or.inl ⟨rfl,pB⟩ | exact dg (SD _) | exact dg (SE _) | exact dg (SF _) | refine ⟨_,_,rfl,?_,?_⟩)) (by repeat' (first | exact trivial | exact au rfl | exact Or.inl ⟨rfl,pB⟩ | exact dg (SD _) | exact dg (SE _) | exact dg (SF _) | refine ⟨⟨_,rfl,?_⟩,?_⟩))) ⟨c,a,rfl,hc,ha,fun _=>hN,rfl⟩ ?_;rintro n st ⟨c',a',rfl,Bi,ha',hn,aD⟩;have hf:=mh c';refine ay 1 0 Fw rfl rfl rfl aO aO hf (fun r os' tk' hΦ _ _=>?_);obtain ⟨rfl,rfl,rfl⟩:=hΦ;refine br ?_ ?_<;>intro q
 ·have q:c'.f.1=0:=sU q;have h1:=Vo c' a' Bi ha' q;have hn:=hn q;have aq:=Bi.lt
  match n,hn with
  | 0,hn=>omega
  | n + 1,hn=>
   rw [listF,zIfP q] at aD;generalize hF:f c' a'=F at aD;obtain ⟨c1,a1⟩:=F;have Lz:=h1.ev;have ei:=h1.ok;have wu:=h1.l;have Ej:=h1.p;have Vp:=h1.inv;rw [hF] at Lz ei wu Ej Vp;simp only at Lz ei wu Ej Vp aD;refine ay 4 1 iV rfl rfl rfl (by repeat' (first | exact rfl | exact trivial | exact Or.inr (Or.inl ⟨_,rfl⟩) | exact Or.inr ⟨_,rfl⟩ | exact Or.inl ⟨rfl,rfl⟩ | exact Or.inl rfl | refine Or.inr ⟨_,_,rfl,Nat.zero_le _,rfl,?_⟩ | refine ⟨_,_,rfl,?_,?_⟩ | refine ⟨_,rfl,?_⟩ | exact ⟨nL rfl,rfl⟩ | exact bJ (hA _) | exact bJ (hB _) | exact bJ (hC _) | refine Or.inr (Or.inr (Or.inr ⟨_,_,rfl,?_⟩)) | exact Or.inl rfl | refine Or.inr ?_)) (by repeat' (first | exact rfl | exact trivial | exact Or.inr (Or.inl ⟨_,rfl⟩) | exact Or.inr ⟨_,rfl⟩ | exact Or.inl ⟨rfl,rfl⟩ | exact Or.inl rfl | refine Or.inr ⟨_,_,rfl,Nat.zero_le _,rfl,?_⟩ | refine ⟨_,_,rfl,?_,?_⟩ | refine ⟨_,rfl,?_⟩ | exact ⟨hi,rfl⟩ | exact ⟨hj,rfl⟩ | refine Or.inr (Or.inr (Or.inr ⟨_,_,rfl,?_⟩)) | exact Or.inl rfl | refine Or.inr ?_)) Lz (fun r os' tk' hΦ _ _=>?_);obtain ⟨rfl,rfl,rfl⟩:=hΦ;have hm:=uK c1 ei e;refine ay 1 0 FD rfl rfl rfl aO aO hm (fun r os' tk' hΦ _ _=>?_);obtain ⟨rfl,rfl,rfl⟩:=hΦ;unfold aU.Er
   cases hb:c1.is 4 e with
   | true=>
    rw [hb,zIfP rfl] at aD;rw [aD,zIfP rfl];exact ⟨.bW [],[bh c1.step,A a1,B a1,C a1],(by repeat' (first | exact rfl | exact trivial | exact Or.inr (Or.inl ⟨_,rfl⟩) | exact Or.inr ⟨_,rfl⟩ | exact Or.inl ⟨rfl,rfl⟩ | exact Or.inl rfl | refine Or.inr ⟨_,_,rfl,Nat.zero_le _,rfl,?_⟩ | refine ⟨_,_,rfl,?_,?_⟩ | refine ⟨_,rfl,?_⟩ | exact ⟨nL rfl,rfl⟩ | exact bJ (hA _) | exact bJ (hB _) | exact bJ (hC _) | refine Or.inr (Or.inr (Or.inr ⟨_,_,rfl,?_⟩)) | exact Or.inl rfl | refine Or.inr ?_)),(by repeat' (first | exact rfl | exact trivial | exact Or.inr (Or.inl ⟨_,rfl⟩) | exact Or.inr ⟨_,rfl⟩ | exact Or.inl ⟨rfl,rfl⟩ | exact Or.inl rfl | refine Or.inr ⟨_,_,rfl,Nat.zero_le _,rfl,?_⟩ | refine ⟨_,_,rfl,?_,?_⟩ | refine ⟨_,rfl,?_⟩ | exact ⟨nL rfl,rfl⟩ | exact bJ (hA _) | exact bJ (hB _) | exact bJ (hC _) | refine Or.inr (Or.inr (Or.inr ⟨_,_,rfl,?_⟩)) | exact Or.inl rfl | refine Or.inr ?_)),rfl,rfl,rfl⟩
   | false=>
    rw [hb,ah (by simp)] at aD;rw [ah (by simp)];have hnd:=uL c1 ei ⟨#[44]⟩;refine ay 1 0 Kf rfl rfl rfl aO aO hnd (fun r os' tk' hΦ _ _=>?_);obtain ⟨rfl,rfl,rfl⟩:=hΦ
    exact ⟨M7 g i j e (c1.gH ⟨#[44]⟩) (A a1) (B a1) (C a1) (T a1),(ep 5 (by repeat' (first | exact rfl | exact au rfl | exact Or.inl ⟨rfl,pB⟩ | exact dg (SD _) | exact dg (SE _) | exact dg (SF _) | refine ⟨_,_,rfl,?_,?_⟩)) (by repeat' (first | exact trivial | exact au rfl | exact Or.inl ⟨rfl,pB⟩ | exact dg (SD _) | exact dg (SE _) | exact dg (SF _) | refine ⟨⟨_,rfl,?_⟩,?_⟩))),n,by omega,_,a1,rfl,ei.gH _,RC c1 a1 ei Vp,fun g0=>by
     rw [aU.Hr,aU.M8 _ _ g0,wu]
     omega,aD⟩
 ·have q:¬ c'.f.1=0:=sU q
  have hst:listF f e n c' a'=(c',a'):=by
   cases n with
   | zero=>rfl
   | succ n=>rw [listF,ah q]
  rw [aD,hst];exact ⟨.bW [],[bh c',A a',B a',C a'],(by repeat' (first | exact rfl | exact trivial | exact Or.inr (Or.inl ⟨_,rfl⟩) | exact Or.inr ⟨_,rfl⟩ | exact Or.inl ⟨rfl,rfl⟩ | exact Or.inl rfl | refine Or.inr ⟨_,_,rfl,Nat.zero_le _,rfl,?_⟩ | refine ⟨_,_,rfl,?_,?_⟩ | refine ⟨_,rfl,?_⟩ | exact ⟨nL rfl,rfl⟩ | exact bJ (hA _) | exact bJ (hB _) | exact bJ (hC _) | refine Or.inr (Or.inr (Or.inr ⟨_,_,rfl,?_⟩)) | exact Or.inl rfl | refine Or.inr ?_)),(by repeat' (first | exact rfl | exact trivial | exact Or.inr (Or.inl ⟨_,rfl⟩) | exact Or.inr ⟨_,rfl⟩ | exact Or.inl ⟨rfl,rfl⟩ | exact Or.inl rfl | refine Or.inr ⟨_,_,rfl,Nat.zero_le _,rfl,?_⟩ | refine ⟨_,_,rfl,?_,?_⟩ | refine ⟨_,rfl,?_⟩ | exact ⟨nL rfl,rfl⟩ | exact bJ (hA _) | exact bJ (hB _) | exact bJ (hC _) | refine Or.inr (Or.inr (Or.inr ⟨_,_,rfl,?_⟩)) | exact Or.inl rfl | refine Or.inr ?_)),rfl,rfl,rfl⟩
end Go.Proofs.YtfdedoiiahbnnaaGreat
namespace Go.Proofs.YtfdedoiiahbnnaaGreat
namespace Dv
open Go Go.RowKit
section
variable {X:Ctx} {st:St} {s0:List (Nat × Sl)} {c:Bool} {i:Nat} {r:List (Nat × Oper)}
def RD (D:Dr) (n:Nat):Bool:=(D.iA.bx.take n).all List.isEmpty
theorem Hs {D:Dr} {n i:Nat} {cs:List DV} (h:RD D n=true) (hi:i < n) (hc:D.iA.bx[i]? = some cs):cs=[]:=by
 have h1:=List.all_eq_true.1 h cs (mG (i:=i) (by rw [bM,zIfP hi];exact hc));simpa using h1
theorem Ht {D:Dr} {f:FuncId} {args ba:List DV} {os:List (List DV)} {d:Nat} (n1:Nat) (Wv:RD D n1=true) (iV:Enters X.P f) (hd:(eL X.nt st.sl (some d) && eL X.nt s0 (some d))=true) (wQ:Nat.ble n1 st.bx.length=true)
  (wV:jw [] n1 n1 0 os (st.bx.take n1)) (ha:CcL [] n1 n1 0 ba args) {Φ:DV->List (List DV)->List TkE->Prop} (hc:Ev X.P f ba os [] Φ)
  (hk:∀ zw os',Φ zw os' []->os'.length=n1->put2 s0 ⟨st.sl,os' ++ st.bx.drop n1,st.tk⟩ (some d) false [] zw (goD X D 3000 c r)) (hst:X.still=false:=by exact rfl) (hX:X.bt=[]:=by exact rfl):tE X D c i r f args (some d) s0 st:=by
 refine ⟨iV,fun hl E0 wr hD E a w vs h hv=>(rq n1 0 wQ rfl wV ha hc hst hX h.rel hv).mono ?_⟩;rintro e w' ⟨v,r',os',tk',E',rfl,hΦ,h1,h2,bD,hr,hx,hβ,ho⟩;obtain rfl:tk'=[]:=List.eq_nil_of_length_eq_zero h2
 have hC:CC E0 D.iA.bx wr w->CC E0 D.iA.bx wr w':=fun hC=>⟨fun j b cs hb ch bd=>by
  have hge:n1<=j:=by
   rcases Nat.lt_or_ge j n1 with h3 | h3
   ·exact (bd (Hs Wv h3 ch)).elim
   ·exact h3
  rw [ho j b hge (h.x.β j b hb)]
  exact hC.o j b cs hb ch bd,fun x v tf=>bD.env.sub x v (hx.c x v (h.x.c x v tf))⟩
 refine ⟨v,rfl,fun _=>hC,?_⟩
 have xl:eC X ⟨D,E0,wr⟩ c E' s0 ⟨st.sl,os' ++ st.bx.drop n1,st.tk⟩ (a.put none v) w':={
  rel:=bD
  x:=by
   refine ⟨fun y v hy=>hx.c y v (h.x.c y v hy),fun j b hb=>hx.β j b (h.x.β j b hb),fun k q hq=>?_⟩;obtain ⟨q1,h1,h2⟩:=h.x.tk k q hq;obtain ⟨q2,h3,h4⟩:=hx.tk k q1 h1
   grind
  β:=by
   obtain ⟨r1,h1⟩:=h.β;exact ⟨r1,by rw [hβ];exact h1⟩
  t0:=fun j x hj=>by
   have h1:=h.t0 j x hj;refine ⟨fun hh=>?_,h1.2⟩;obtain ⟨v,h2,h3⟩:=h1.1 hh;exact ⟨v,h2,Rv.mono (vb hx) h3⟩
  cc:=fun hc=>hC (h.cc hc) }
 obtain ⟨s1,nG,ml,dh⟩:=fU xl hd false [] r' v (fun _ _ p hp=>by cases hp) (fun _=>hr) (fun hb=>by cases hb) (fun hn=>(hn (aM _)).elim) (hk r' os' hΦ h1);exact eM (D:=⟨D,E0,wr⟩) hD 3000 c r _ _ ml hl E' _ w' dh
end
theorem Hu {X:Ctx} {f:FuncId} {args:List DV} {dst:Option Nat} {k:List It} {st:St} (q:TkE) (st':St) (hq:q.new=true) (ha:WeL st.bx.length st.tk.length (st.tk ++ [q]) args args) (h3:st'.tk=st.tk ++ [q]) (h2:WeLL st.bx.length st.tk.length (st.tk ++ [q]) st.bx st'.bx)
  (h:kg st.bx.length st.tk.length (st.tk ++ [q]) st.sl st'.sl) (hn:Nat.ble X.n0 st.bx.length=true) (hm:Nat.ble X.m0 st.tk.length=true) (hk:CallG X f args dst k st'):CallG X f args dst k st:=by
 obtain ⟨k1,k2,k3⟩:=hk;refine ⟨k1,k2,fun E a w vs hR hv=>?_⟩;have hr:=tv (st':=st') hR (kept:=st.tk) (dropped:=[]) (new:=[q]) (b0:=st.bx) (r:=[]) ⟨nL hm,nL hn,by simp,h3,by simpa using hq,by simp,by rw [h3];exact h2,by rw [h3];exact h⟩;exact k3 _ a w vs hr (nX (dropped:=[]) (by rw [hR.tk];simp) hR.env.tl (sU hq) ha hv)
end Dv
end Go.Proofs.YtfdedoiiahbnnaaGreat
set_option maxRecDepth 100000
namespace Go.Proofs.YtfdedoiiahbnnaaGreat
open Go Go.RowKit Dv Go.Proofs.Tryz
abbrev Hv (a:List Wd):List DV:=[.sl 2 (bm a) (some 0),.v (.slice none 0 0),.v (.slice none 0 0),.v (.int .i64 0),.v (.int .i64 0),.v (.int .i64 0),.v (.int .i64 0),.v (.int .i64 0),.v (.slice none 0 0),.v (.slice none 0 0),.v (.string ⟨#[]⟩),.v (.int .i64 0)]
abbrev K9:List DV:=[.v (.slice none 0 0),.v (.slice none 0 0),.v (.slice none 0 0),.v (.int .i64 0),.v (.int .i64 0),.v (.int .i64 0),.v (.int .i64 0),.v (.int .i64 0),.v (.slice none 0 0),.v (.slice none 0 0),.v (.string ⟨#[]⟩),.v (.int .i64 0)]
abbrev La:List DV:=[.loc 0 0]
abbrev JG (a:List Wd):TkE:=⟨a.length,34,2,none⟩
theorem Hw (a:List Wd) (w:Wd):JG (a ++ [w])=⟨a.length + 1,34,2,none⟩:=by simp [JG]
theorem Hx (a:List Wd) (w:Wd):Hv (a ++ [w]) = .sl 2 (bm a ++ [gl w]) (some 0) :: (Hv a).tail:=by simp [Hv,bm]
theorem yG (c:aU) (h:aR c) (a:List Wd) (ha:a.length<=1099511627776):Ev prog 161 [.loc 3 0,.loc 1 0] [bh c,La,K9,Hv a] [JG a]
  (fun r os tk=>r = .bW []/\os=[bh c.gB,La,K9,Hv (a ++ [c.pq])]/\tk=[JG (a ++ [c.pq])]):=by
 have hn:=AV c h;have hl:(bm a).length=a.length:=ak a;generalize c.pq=W at hn ⊢;generalize c.gB=C1 at hn ⊢;obtain ⟨l,p,d,f1,f2⟩:=c;obtain ⟨l1,p1,d1,f11,f21⟩:=C1;obtain ⟨ws,wa⟩:=W;refine eG 9 [] func161 rfl ntmps161 rfl fun _ _ _ _=>?_;refine fM [0] (fun i=>Nat.beq i 7) mo (by decide +kernel) ?_;refine Ht 1 rfl O8 rfl rfl aO aO hn (fun r os' hΦ _=>?_);obtain ⟨rfl,rfl,_⟩:=hΦ;refine ⟨hl,⟨by simp [maxLen,hl];omega,by simp [hl];omega⟩,?_⟩;rw [Hw,Hx];exact ⟨.bW [],[bh ⟨l1,p1,d1,f11,f21⟩,La,K9,.sl 2 (bm a ++ [gl ⟨ws,wa⟩]) (some 0) :: (Hv a).tail],aO,aO,rfl,rfl,rfl⟩
abbrev Lb (k a:Int):List DV:=[.v (.int .i64 k),.v (.int .i64 a),.v (.int .i64 0),.v (.int .i64 0),.v (.int .i64 0),.v (.slice none 0 0),.v (.slice none 0 0),.v (.string ⟨#[]⟩),.v (.int .i64 0)]
abbrev Ck:ByteArray:=⟨#[98,111,111,108]⟩
theorem DX (c:aU) (k a:Int):Ev prog 249 [wE,.loc 1 0,.v (.string Ck)] [bh c,Lb k a] [] (fun r os tk=>r = .v (.bool true)/\os=[bh c,Lb 1 a]/\tk=[]):=by
 obtain ⟨l,p,d,f1,f2⟩:=c;refine eG 142 [.tmp 6] func249 rfl ntmps249 rfl fun _ _ _ _=>?_;exact ⟨.v (.bool true),[bh _,Lb 1 a],aO,aO,rfl,rfl,rfl⟩
theorem qg {c:aU} (h:aR c) (hd:c.d < 24):aR { c with d:=c.d + 1 }:=⟨h.lt,h.nx,h.len,hd⟩
theorem yH {c:aU} (h:aR c) (hd:c.d < 24):Ev prog 248 [.loc 0 0] [bh c] [] (mf (.v (.bool true)) { c with d:=c.d + 1 }):=by
 have he:=AQ c h;have e1:c.enter=true:=by simp [aU.enter];omega
 have e2:c.ru={ c with d:=c.d + 1 }:=by rw [aU.ru,ah (by omega)]
 rw [e1,e2] at he;exact he
theorem yI {c:aU} (h:aR c) (hd:c.d < 24):Ev prog 225 [.loc 0 0] [bh { c with d:=c.d + 1 }] [] (mf (.bW []) c):=AR _ (qg h hd)
theorem Hy {c:aU} (h:aR c) (hf:c.f.1≠0) (k:Int):Ev prog 246 [.loc 0 0,.v (.int .i64 k)] [bh c] [] (mf (.bW [.agg (rr ⟨0,0,0,aJ,0⟩),.v (.bool false)]) c):=by
 have ht:=sw c h k;have e1:c.Et k=⟨0,0,0,aJ,0⟩:=by rw [aU.Et,AW hf,ah (by simp)]
 have e2:c.KH k=c:=by rw [aU.KH,AW hf,ah (by simp)]
 rw [e1,e2,AW hf] at ht;exact ht
theorem DY {c:aU} (h:aR c) (hf:c.f.1≠0):Ev prog 245 [wE] [bh c] [] (mf (.bW []) c):=by
 have hw:=kJ c h;rw [oS hf] at hw;exact hw
theorem Hz (c:aU) (h:aR c) (hf:c.f.1≠0) (hd:c.d < 24):Ev prog 166 [wE] [bh c] [] (mf (.agg (Lb 0 c.f.2)) c):=by
 have hp:=dT c h;rw [sx hf] at hp;have he:=yH h hd;have ht:=Hy (qg h hd) hf 1;have hw:=DY (qg h hd) hf;have Ew:=yI h hd;obtain ⟨l,p,d,f1,f2⟩:=c;refine eG 42 [.cell 2 36] func166 rfl ntmps166 rfl fun _ _ _ _=>?_;refine ay 1 0 mQ rfl rfl rfl aO aO hp (fun r os' tk' hΦ _ _=>?_);obtain ⟨rfl,rfl,rfl⟩:=hΦ;refine ay 1 0 Ks rfl rfl rfl aO aO he (fun r os' tk' hΦ _ _=>?_);obtain ⟨rfl,rfl,rfl⟩:=hΦ;refine ay 1 0 BI rfl rfl rfl aO aO ht (fun r os' tk' hΦ _ _=>?_);obtain ⟨rfl,rfl,rfl⟩:=hΦ;refine ay 1 0 FE rfl rfl rfl aO aO hw (fun r os' tk' hΦ _ _=>?_);obtain ⟨rfl,rfl,rfl⟩:=hΦ;refine ay 1 0 Km rfl rfl rfl aO aO Ew (fun r os' tk' hΦ _ _=>?_);obtain ⟨rfl,rfl,rfl⟩:=hΦ;exact ⟨.agg (Lb 0 f2),[bh _],aO,aO,rfl,rfl,rfl⟩
theorem JH {c:aU} (h:aR c) {t:og} (hp:c.cy=t) (hk:t.k≠0):Ev prog 246 [.loc 0 0,.v (.int .i64 t.k)] [bh c] [] (mf (.bW [.agg (rr t),.v (.bool true)]) { c with p:=c.p + 1 }):=by
 have ht:=sw c h t.k;have e0:c.tk t.k=true:=by rw [aU.tk,hp];simp [hk]
 have e1:c.Et t.k=t:=by rw [aU.Et,e0,zIfP rfl,hp]
 have e2:c.KH t.k={ c with p:=c.p + 1 }:=by rw [aU.KH,e0,zIfP rfl,aU.step,hp,ah hk]
 rw [e0,e1,e2] at ht;exact ht
theorem DZ (c:aU) (h:aR c) (a e n:Int) (hp:c.cy=⟨1,a,e,Ck,n⟩) (hd:c.d < 24):Ev prog 166 [wE] [bh c] [] (mf (.agg (Lb 1 a)) { c with p:=c.p + 1 }):=by
 have Ms:=dT c h;rw [hp] at Ms;have he:=yH h hd;have ht:=JH (qg h hd) (show aU.cy { c with d:=c.d + 1 }=⟨1,a,e,Ck,n⟩ from hp) (by simp);have hb:=DX { c with d:=c.d + 1,p:=c.p + 1 } 0 a;have hs:aR c.step:=h.step;have e2:c.step={ c with p:=c.p + 1 }:=by rw [aU.step,hp,ah (by simp)]
 rw [e2] at hs;have Ew:=yI hs hd;obtain ⟨l,p,d,f1,f2⟩:=c;refine eG 42 [.cell 2 36] func166 rfl ntmps166 rfl fun _ _ _ _=>?_;refine ay 1 0 mQ rfl rfl rfl aO aO Ms (fun r os' tk' hΦ _ _=>?_);obtain ⟨rfl,rfl,rfl⟩:=hΦ;refine ay 1 0 Ks rfl rfl rfl aO aO he (fun r os' tk' hΦ _ _=>?_);obtain ⟨rfl,rfl,rfl⟩:=hΦ;refine ay 1 0 BI rfl rfl rfl aO aO ht (fun r os' tk' hΦ _ _=>?_);obtain ⟨rfl,rfl,rfl⟩:=hΦ;refine CallG.I1 1 3 rfl rfl rfl rfl ?_;refine ay 2 0 Pu rfl rfl rfl aO aO hb (fun r os' tk' hΦ _ _=>?_);obtain ⟨rfl,rfl,rfl⟩:=hΦ;refine ay 1 0 Km rfl rfl rfl aO aO Ew (fun r os' tk' hΦ _ _=>?_);obtain ⟨rfl,rfl,rfl⟩:=hΦ;exact ⟨.agg (Lb 1 a),[bh _],aO,aO,rfl,rfl,rfl⟩
abbrev ez:ByteArray:=⟨#[108,101,118,101,108,115]⟩
abbrev HA:ByteArray:=⟨#[111,114,100,101,114]⟩
abbrev Lc:ByteArray:=⟨#[116,121,112,101]⟩
abbrev uM:ByteArray:=⟨#[114,111,111,116]⟩
abbrev nA:ByteArray:=⟨#[123]⟩
abbrev kK:ByteArray:=⟨#[125]⟩
def D0 (c:aU) (a:List Wd):aU × List Wd:=(c.gB,a ++ [c.pq])
def yJ (c:aU) (a:List Wd):Prop:=a.length<=c.p∨(c.f.1≠0/\a.length<=c.p + 1)
theorem RE {c:aU} {k:Int} (h:c.tk k=true):¬ c.cy.k=0:=by
 simp only [aU.tk,bA,Bool.not_eq_true',decide_eq_false_iff_not] at h;exact h.1
theorem JI {c:aU}:c.wrong.f.1≠0:=by
 unfold aU.wrong aU.fail aU.gA;by_cases h0:c.f.1=0
 ·by_cases h1:c.cy.k=0
  ·rw [zIfP ⟨h0,by rw [zIfP h1];decide⟩,zIfP h1];simp
  ·rw [zIfP ⟨h0,by rw [ah h1];decide⟩,ah h1];simp
 ·rw [ah (fun g=>h0 g.1)];exact h0
theorem nB (c:aU):c.wrong.l=c.l/\c.wrong.p=c.p/\c.wrong.d=c.d:=by
 unfold aU.wrong aU.fail aU.gA
 repeat' split
 all_goals exact ⟨rfl,rfl,rfl⟩
theorem uN (c:aU) (s:ByteArray):c.p<=(c.gH s).p:=by
 unfold aU.gH aU.step;split
 ·split
  ·exact zLeR _
  ·exact Nat.le_succ _
 ·rw [(nB c).2.1];exact zLeR _
theorem JJ (c:aU) (a:List Wd) (h:aR c) (hi:yJ c a) (hf:c.f.1=0):K8 (fun _=>La) (fun _=>K9) Hv JG D0 yJ 161 3 1 c a where
 ok:=h.gB
 l:=by
  show c.gB.l=c.l;unfold aU.gB aU.step;split
  ·split<;>rfl
  ·exact (nB c).1
 p:=by
  show c.p<=c.gB.p;unfold aU.gB aU.step;split
  ·split
   ·exact zLeR _
   ·exact Nat.le_succ _
  ·rw [(nB c).2.1];exact zLeR _
 inv:=by
  have ha:a.length<=c.p:=by
   rcases hi with h1 | h1
   ·exact h1
   ·exact absurd hf h1.1
  show yJ c.gB (a ++ [c.pq]);unfold yJ aU.gB;rw [List.length_append]
  cases ht:c.tk 1 with
  | true=>
   rw [zIfP rfl,aU.step,ah (RE ht)];exact .inl (Nat.succ_le_succ ha)
  | false=>
   rw [ah (by simp)];exact .inr ⟨JI,by rw [(nB c).2.1];exact Nat.succ_le_succ ha⟩
 ev:=yG c h a (by
  have h1:=h.lt;have h2:=h.len
  rcases hi with h3 | h3<;>omega)
theorem HB (c:aU) (a:List Wd) (_:aR c) (hi:yJ c a):yJ (c.gH ⟨#[44]⟩) a:=by
 rcases hi with h1 | ⟨h1,h2⟩
 ·exact .inl (Nat.le_trans h1 (uN c _))
 ·rw [yE h1];exact .inr ⟨h1,h2⟩
theorem yK (N:Nat) (c:aU) (h:aR c) (hN:c.l.length<=c.p + N) (hf:yJ c []):Ev prog 160 [wE,.v (.string kK),.v (.bool false),.fn 161 [] [.loc 3 0,.loc 1 0]] [bh c,La,K9,Hv []] [JG []]
  (fun r os tk=>r = .bW []/\os=[bh (listF D0 kK N c []).1,La,K9,Hv (listF D0 kK N c []).2]/\tk=[JG (listF D0 kK N c []).2]):=
 AX (A:=fun _=>La) (B:=fun _=>K9) (C:=Hv) (T:=JG) (f:=D0) (Inv:=yJ) (by decide) (by decide) (fun _=>rfl) (fun _=>rfl) (fun _=>rfl) O7 JJ HB kK N c [] h hf hN
abbrev Cl (k a:Int):Ty:=.mk ⟨k,a,0,0,0,[],⟨aJ,0⟩⟩ .nil
abbrev RF (c:aU) (a:List Wd):St:=⟨[aE 1 1,aE 2 2,aE 3 3],[bh c,La,K9,Hv a],[JG a]⟩
theorem sy (c0:aU) (h0:aR c0) (N:Nat) (hN:(c0.kw ez).l.length<=(c0.kw ez).p + N) (c3:aU) (a:List Wd) (h3:aR c3) (hl:listF D0 kK N ((c0.kw ez).gH nA) []=(c3,a)) (ho:c3.is 1 HA=false) (ht:c3.is 1 Lc=false) (k cV:Int) (c5:aU)
  (hk:Ev prog 166 [wE] [bh (c3.kw uM)] [] (mf (.agg (Lb k cV)) c5)):Ev prog 86 [wE] [bh c0] [] (mf (.agg (cC ⟨a,[],[],Cl k cV⟩)) c5):=by
 have W6:=nz c0 h0 ez;have h1:=h0.kw ez;have hnd:=uL _ h1 nA
 have JD:=yK N _ (h1.gH nA) (by
  rw [aU.Hr];have:=uN (c0.kw ez) nA
  omega) (.inl (Nat.zero_le _))
 rw [hl] at JD;have zI:=oR c3 h3 HA;have ze:=oR c3 h3 Lc;rw [ho,aU.Er,ho,ah (by simp)] at zI;rw [ht,aU.Er,ht,ah (by simp)] at ze;have KX:=nz c3 h3 uM;simp only at JD;generalize c3.kw uM=c4 at KX hk;generalize (c0.kw ez).gH nA=c2 at hnd JD;generalize (c0.kw ez).is 4 nA=B1 at hnd;generalize c0.kw ez=c1 at W6 hnd;refine eG 46 [.cell 2 38] func86 rfl ntmps86 rfl fun _ _ _ _=>?_;refine ay 1 0 Ke rfl rfl rfl aO aO W6 (fun r os' tk' hΦ _ _=>?_);obtain ⟨rfl,rfl,rfl⟩:=hΦ;refine ay 1 0 Kf rfl rfl rfl aO aO hnd (fun r os' tk' hΦ _ _=>?_);obtain ⟨rfl,rfl,rfl⟩:=hΦ;refine Hu ⟨0,34,2,none⟩ (RF c2 []) rfl ?_ rfl ?_ ?_ rfl rfl ?_
 ·repeat' (first | exact rfl | exact au rfl | refine ⟨_,_,rfl,?_,?_⟩)
 ·repeat' (first | exact rfl | exact au rfl | exact cS (zLeR _) rfl | refine ⟨_,_,rfl,?_,?_⟩)
 ·repeat' (first | exact trivial | exact au rfl | refine ⟨⟨_,rfl,?_⟩,?_⟩)
 refine ay 4 1 O6 rfl rfl rfl aO aO JD (fun r os' tk' hΦ _ _=>?_);obtain ⟨rfl,rfl,rfl⟩:=hΦ;refine ay 1 0 BE rfl rfl rfl aO aO zI (fun r os' tk' hΦ _ _=>?_);obtain ⟨rfl,rfl,rfl⟩:=hΦ;refine lI (fun j st=>st=RF c3 a/\j=0) ⟨rfl,rfl⟩ (ep 4 zo pD) ?_;rintro j st ⟨rfl,rfl⟩;refine ay 1 0 BE rfl rfl rfl aO aO ze (fun r os' tk' hΦ _ _=>?_);obtain ⟨rfl,rfl,rfl⟩:=hΦ;refine ay 1 0 Ke rfl rfl rfl aO aO KX (fun r os' tk' hΦ _ _=>?_);obtain ⟨rfl,rfl,rfl⟩:=hΦ;refine ay 1 0 O9 rfl rfl rfl aO aO hk (fun r os' tk' hΦ _ _=>?_);obtain ⟨rfl,rfl,rfl⟩:=hΦ;exact ⟨.agg (cC _),[bh c5],aO,aO,rfl,rfl,rfl⟩
theorem JK (c:aU) (h:aR c) (hf:c.f.1≠0):Ev prog 87 [wE] [bh c] [] (mf c.f.d c):=by
 have h1:=mh c;rw [decide_eq_false hf] at h1;have h2:=mg c;obtain ⟨l,p,d,f1,f2⟩:=c;refine eG 18 [.cell 2 26] func87 rfl ntmps87 rfl fun _ _ _ _=>?_;refine ay 1 0 Fw rfl rfl rfl aO aO h1 (fun r os' tk' hΦ _ _=>?_);obtain ⟨rfl,rfl,rfl⟩:=hΦ;refine ay 1 0 Fu rfl rfl rfl aO aO h2 (fun r os' tk' hΦ _ _=>?_);obtain ⟨rfl,rfl,rfl⟩:=hΦ;exact ⟨Ft.d (f1,f2),[bh _],aO,aO,rfl,rfl,rfl⟩
theorem M9 (c:aU) (h:aR c) (hf:c.f.1=0) (hp:c.cy.k=0):Ev prog 87 [wE] [bh c] [] (mf c.f.d c):=by
 have h1:=mh c;rw [decide_eq_true hf] at h1;have h2:=mg c;have h3:=dT c h;generalize c.cy=t at hp h3;obtain ⟨tk,ta,te,ts,tn⟩:=t;simp only at hp;subst hp;obtain ⟨l,p,d,f1,f2⟩:=c;refine eG 18 [.cell 2 26] func87 rfl ntmps87 rfl fun _ _ _ _=>?_;refine ay 1 0 Fw rfl rfl rfl aO aO h1 (fun r os' tk' hΦ _ _=>?_);obtain ⟨rfl,rfl,rfl⟩:=hΦ;refine ay 1 0 mQ rfl rfl rfl aO aO h3 (fun r os' tk' hΦ _ _=>?_);obtain ⟨rfl,rfl,rfl⟩:=hΦ;refine ay 1 0 Fu rfl rfl rfl aO aO h2 (fun r os' tk' hΦ _ _=>?_);obtain ⟨rfl,rfl,rfl⟩:=hΦ;exact ⟨Ft.d (f1,f2),[bh _],aO,aO,rfl,rfl,rfl⟩
abbrev Na:Sch:=⟨[],[],[],Cl 0 0⟩
theorem uO (s:ByteArray) (l:List og) (EO:aV prog 157 [.v (.string s)] (.bW [.sl 5 (fX l) none,Ft.d (0,0)])) (S:Sch) (c5 c6:aU) (f:Ft) (Vq:Ev prog 86 [wE] [bh (AS l)] [] (mf (.agg (cC S)) c5)) (sR:Ev prog 87 [wE] [bh c5] [] (mf f.d c6)) :
  aV prog 35 [.v (.string s)] (.bW [.agg (cC (if f.1=0 then S else Na)),f.d]):=by
 have cE:=M4 s l EO;generalize hQ:(if f.1=0 then S else Na)=Q;obtain ⟨ae,order,types,⟨rh,rp⟩⟩:=S;refine eG 31 [.cell 2 38,.cell 3 26] func35 rfl ntmps35 rfl fun _ _ _ _=>?_;refine Mm TI rfl cE ax (fun r os hΦ=>?_);obtain ⟨rfl,rfl⟩:=hΦ;refine CallG.I1 0 2 rfl rfl rfl rfl ?_;refine ay 1 0 TJ rfl rfl rfl aO aO Vq (fun r os' tk' hΦ _ _=>?_);obtain ⟨rfl,rfl,rfl⟩:=hΦ;refine ay 1 0 TL rfl rfl rfl aO aO sR (fun r os' tk' hΦ _ _=>?_);obtain ⟨rfl,rfl,rfl⟩:=hΦ;refine br ?_ ?_<;>intro g
 ·have g:¬ f.1=0:=sU g;rw [ah g] at hQ;subst hQ;refine fM [1,2] (fun _=>false) mo (by decide +kernel) ?_;exact ⟨_,ax,rfl⟩
 ·have g:f.1=0:=sU g;rw [zIfP g] at hQ;subst hQ;refine fM [1,2] (fun _=>false) mo (by decide +kernel) ?_;exact ⟨_,ax,rfl⟩
theorem uP (l:List og) (e:Int) (hl:l.length<=1099511627775):aR (AS (l ++ [j4 e])) where
 lt:=by show 0 < (l ++ [j4 e]).length;simp
 nx:=fun i t hi hk=>by
  show i + 1 < (l ++ [j4 e]).length;have hi:(l ++ [j4 e])[i]? = some t:=hi;rw [List.getElem?_append] at hi;split at hi
  ·rename_i h;simp;omega
  ·rename_i h;have h2:=(gS hi).1;have h3:i - l.length=0:=by simp at h2;omega
   rw [h3] at hi;simp only [List.getElem?_cons_zero,oI] at hi;subst hi;exact absurd rfl hk
 len:=by show (l ++ [j4 e]).length<=_;simp;omega
 dl:=by show 0<=24;omega
end Go.Proofs.YtfdedoiiahbnnaaGreat
set_option maxRecDepth 100000
namespace Go.Proofs
open Go.Shelf
def Tryz.lays217_ren:Go.Shelf.Ren:=⟨fun | 217=>353 | 266=>361 | n=>n,fun | 9=>9 | 3=>3 | 5=>5 | n=>n,fun | n=>n⟩
theorem Tryz.lays217:Go.Proofs.Lays.n217 prog Tryz.lays217_ren:={
 mixed:=by kernel_rfl
 f217:=func353.trans (congrArg some (by kernel_rfl))
 f266:=func361.trans (congrArg some (by kernel_rfl))
 t3:=Tryz.underlying3
 a3:=Tryz.isAgg3
 z3:=Tryz.sizeOf3
 v3:=Tryz.zeroValue3
 t5:=Tryz.underlying5
 a5:=Tryz.isAgg5
 z5:=Tryz.sizeOf5
 v5:=Tryz.zeroValue5
 t9:=Tryz.underlying9
 a9:=Tryz.isAgg9
 z9:=Tryz.sizeOf9
 v9:=Tryz.zeroValue9 }
end Go.Proofs
namespace Go.Proofs.YtfdedoiiahbnnaaGreat
open Go Go.RowKit Dv Go.Proofs.Tryz
theorem D1 (s:ByteArray) (c:Int):aV prog 353 [.v (.string s),.v (.int .u8 c)] (.v (.int .i64 (Lib.indexByte (tx s) c.toNat.toUInt8))):=by
 refine CV fun E w vs hE hv=>?_;simp only [RvL] at hv;obtain ⟨v1,s1,rfl,h1,v2,s2,rfl,h2,rfl⟩:=hv;have h1:=bn h1;have h2:=bn h2;subst h1 h2;refine (Any.stringslite_IndexByte Tryz.lays217 s c w).mono ?_;rintro e w' ⟨rfl,rfl⟩;exact ⟨_,rfl,dR rfl,Below.refl _ _⟩
theorem HC (s:ByteArray) (c:Int):aV prog 333 [.v (.string s),.v (.int .u8 c)] (.v (.int .i64 (Lib.indexByte (tx s) c.toNat.toUInt8))):=by
 refine eG 8 [.tmp 4] func333 rfl ntmps333 rfl fun _ _ _ _=>?_;refine cP PK (D1 s c) ?_;exact (rfl:_=_)
def AY (s p:ByteArray):Bool:=decide (p.size<=s.size) && decide (s.extract 0 p.size=p)
theorem AZ (s p:ByteArray) (hs:s.size<=4611686018427387904):aV prog 352 [.v (.string s),.v (.string p)] (.v (.bool (AY s p))):=by
 refine eG 18 [.tmp 4] func352 rfl ntmps352 rfl fun _ _ _ _=>?_;refine br ?_ ?_<;>intro g
 ·have g1:p.size<=s.size:=sU g;refine ⟨⟨by omega,by omega,by omega⟩,?_⟩;refine congrArg (fun z=>DV.v (Value.bool z)) ?_;unfold AY;rw [decide_eq_true g1,Bool.true_and];rfl
 ·have g1:¬ p.size<=s.size:=sU g;refine congrArg (fun z=>DV.v (Value.bool z)) ?_;unfold AY;rw [decide_eq_false g1,Bool.false_and]
theorem D2 (s p:ByteArray) (hs:s.size<=4611686018427387904):aV prog 332 [.v (.string s),.v (.string p)] (.v (.bool (AY s p))):=by
 refine eG 8 [.tmp 4] func332 rfl ntmps332 rfl fun _ _ _ _=>?_;refine cP PJ (AZ s p hs) ?_;exact (rfl:_=_)
end Go.Proofs.YtfdedoiiahbnnaaGreat
set_option maxRecDepth 100000
namespace Go.Proofs.YtfdedoiiahbnnaaGreat
open Go Go.RowKit Dv Go.Proofs.Tryz
def v8 (c:Nat):Bool:=decide (c=32) || decide (c=10) || decide (c=9) || decide (c=13)
theorem A0 (c:Nat):aV prog 242 [.v (.int .u8 c)] (.v (.bool (v8 c))):=by
 refine eG 17 [.tmp 2] func242 rfl ntmps242 rfl fun _ _ _ _=>?_;refine congrArg (fun z=>DV.v (Value.bool z)) ?_;unfold v8;simp only [aj];have e1:decide ((c:Int)=32)=decide (c=32):=decide_eq_decide.2 (by omega);have e2:decide ((c:Int)=10)=decide (c=10):=decide_eq_decide.2 (by omega);have e3:decide ((c:Int)=9)=decide (c=9):=decide_eq_decide.2 (by omega);have e4:decide ((c:Int)=13)=decide (c=13):=decide_eq_decide.2 (by omega);rw [e1,e2,e3,e4]
def wb:ByteArray:=⟨#[123,125,91,93,40,41,44,58,61,60,62,64,43,35,126,42]⟩
def D3:ByteArray:=⟨#[46,46]⟩
def yL (s:ByteArray) (i:Nat):ByteArray:=if AY (s.extract i s.size) D3=true then D3 else if 0<=Lib.indexByte (tx wb) (bq s i).toUInt8 then s.extract i (i + 1) else ⟨#[]⟩
theorem sA (s:ByteArray) (hs:s.size<=1099511627776) (i:Nat) (hi:i < s.size):aV prog 290 [.v (.string s),.v (.int .i64 i)] (.v (.string (yL s i))):=by
 have hp:=D2 (s.extract i s.size) D3 (by simp;omega);have hx:=HC wb (bq s i:Nat);have hM:yL s i=if AY (s.extract i s.size) D3=true then D3 else if 0<=Lib.indexByte (tx wb) (bq s i).toUInt8 then s.extract i (i + 1) else ⟨#[]⟩:=rfl
 rw [sE] at hx;generalize yL s i=M at hM ⊢;generalize AY (s.extract i s.size) D3=B at hp hM;generalize Lib.indexByte (tx wb) (bq s i).toUInt8=I at hx hM
 have hw:IntKind.i64.wrap ((i:Int) + 1)=((i + 1:Nat):Int):=by
  rw [wrap64 (by omega) (by omega)];omega
 refine eG 30 [.tmp 4] func290 rfl ntmps290 rfl fun _ _ _ _=>?_;refine br (fun g=>?_) (fun _=>?_)
 ·exfalso;simp [aj] at g;omega
 refine ⟨⟨by omega,by omega,by omega⟩,?_⟩;refine cP PF hp ?_
 cases B with
 | true=>
  rw [zIfP rfl] at hM;rw [hM];exact (rfl:_=_)
 | false=>
  rw [ah (by simp)] at hM;refine ⟨⟨by omega,by omega⟩,?_⟩;refine cP PG hx ?_;refine br ?_ ?_<;>intro g
  ·have g:0<=I:=sU g;rw [zIfP g] at hM;rw [hM];refine ⟨⟨by omega,by rw [hw];omega,by rw [hw];omega⟩,?_⟩;rw [hw];exact (rfl:_=_)
  ·have g:¬ 0<=I:=sU g;rw [ah g] at hM;rw [hM];exact (rfl:_=_)
abbrev HD (t:og):DV:=.bW [.agg (rr t),Ft.d (0,0)]
theorem A1 (s:ByteArray) (hs:s.size<=1099511627776) (i:Nat) (hi:i < s.size) (e:Nat) (he:i + cj (s.data.toList.drop i)=e) (hn:i < e) (hr:aY (s.extract i e)=true) :
  aV prog 244 [.v (.string s),.v (.int .i64 i)] (HD ⟨1,i,e,s.extract i e,0⟩):=by
 have ht:=kV s i hi (by omega);rw [he] at ht
 have wo:e<=s.size:=by
  have:=qY (s.data.toList.drop i);simp at this;omega
 have Rm:=fA (s.extract i e) (by simp;omega);rw [hr] at Rm
 have bd:¬ s.extract i e=⟨#[]⟩:=fun h=>by
  have:=congrArg ByteArray.size h;simp at this;have h2:(ByteArray.mk #[]).size=0:=rfl;omega
 generalize s.extract i e=M at *;refine eG 103 [.cell 4 218,.cell 5 26] func244 rfl ntmps244 rfl fun _ _ _ _=>?_;refine cP xr ht ?_;refine br (fun _=>?_) (fun g=>absurd (show M=⟨#[]⟩ by simpa using g) bd);refine cP CI Rm ?_;exact ⟨_,ax,rfl⟩
theorem jV (s:ByteArray) (hs:s.size<=1099511627776) (i:Nat) (hi:i < s.size) (hn:cj (s.data.toList.drop i)=0) (M:ByteArray) (hM:yL s i=M) (bd:¬ M=⟨#[]⟩) (cQ:M.size<=2) :
  aV prog 244 [.v (.string s),.v (.int .i64 i)] (HD ⟨4,i,(i + M.size:Nat),M,0⟩):=by
 have ht:=kV s i hi (by omega);rw [hn,jH] at ht;have hm:=sA s hs i hi;rw [hM] at hm
 have hw:IntKind.i64.wrap ((i:Int) + M.size)=((i + M.size:Nat):Int):=by
  rw [wrap64 (by omega) (by omega)];omega
 have hX:=congrArg (fun z=>DV.v (Value.int .i64 z)) hw;refine eG 103 [.cell 4 218,.cell 5 26] func244 rfl ntmps244 rfl fun _ _ _ _=>?_;refine cP xr ht ?_;refine cP Kx hm ?_;refine br (fun _=>?_) (fun g=>absurd (show M=⟨#[]⟩ by simpa using g) bd);exact ⟨_,(by repeat' (first | exact rfl | exact trivial | exact Or.inr (Or.inl ⟨_,rfl⟩) | exact Or.inr ⟨_,rfl⟩ | exact Or.inl ⟨rfl,rfl⟩ | exact Or.inl rfl | refine Or.inr ⟨_,_,rfl,Nat.zero_le _,rfl,?_⟩ | refine ⟨_,_,rfl,?_,?_⟩ | refine ⟨_,rfl,?_⟩ | exact hX | refine Or.inr (Or.inr (Or.inr ⟨_,_,rfl,?_⟩)) | exact Or.inl rfl | refine Or.inr ?_)),rfl⟩
theorem D4 (s:ByteArray) (hs:s.size<=1099511627776) (i:Nat) (hi:i < s.size) (hn:cj (s.data.toList.drop i)=0) (hM:yL s i=⟨#[]⟩) (hc:bq s i=45∨48<=bq s i/\bq s i<=57) (z:Int) (e:Nat)
  (hd:aV prog 291 [.v (.string s),.v (.int .i64 i)] (.bW [.v (.int .i64 z),.v (.int .i64 e),Ft.d (0,0)])) :
  aV prog 244 [.v (.string s),.v (.int .i64 i)] (HD ⟨2,i,e,aJ,z⟩):=by
 have ht:=kV s i hi (by omega);rw [hn,jH] at ht;have hm:=sA s hs i hi;rw [hM] at hm;generalize hB:bq s i=c at hc;refine eG 103 [.cell 4 218,.cell 5 26] func244 rfl ntmps244 rfl fun _ _ _ _=>?_;refine cP xr ht ?_;refine cP Kx hm ?_;refine ⟨⟨by omega,by omega⟩,?_⟩;refine br (fun _=>?_) (fun g=>?_)
 ·refine cP PD hd ?_;refine fM [0,1] (fun _=>false) mo (by decide +kernel) ?_;exact ⟨_,ax,rfl⟩
 ·exfalso;rw [sE,hB] at g;simp [aj,av] at g;omega
inductive jW (s:ByteArray):Nat->List og->Prop
 | nil:jW s s.size []
 | blank {i:Nat} {l:List og}:i < s.size->v8 (bq s i)=true->jW s (i + 1) l->jW s i l
 | tok {i e:Nat} {t:og} {l:List og}:i < s.size->v8 (bq s i)=false->bq s i≠59->aV prog 244 [.v (.string s),.v (.int .i64 i)] (HD t)->t.e=e->i < e->e<=s.size->jW s e l->jW s i (t :: l)
abbrev RG (s:ByteArray) (L:List og) (q cV:Nat):St:=⟨[(0,⟨[],.v (.string s)⟩),(2,⟨[],.v (.slice none 0 0)⟩),aE 3 0,(4,⟨[],.sl 5 (fX L) (some 0)⟩),aE 5 1,al 6 cV],[KG,KG],[⟨q,218,5,none⟩]⟩
theorem uQ (s:ByteArray) (hs:s.size<=65536) (l:List og) (hl:jW s 0 l):aV prog 157 [.v (.string s)] (.bW [.sl 5 (fX (l ++ [j4 s.size])) none,Ft.d (0,0)]):=by
 refine eG 63 [.tmp 2,.cell 3 26] func157 rfl ntmps157 rfl fun _ _ _ _=>?_;refine br (fun g=>absurd (show 65536 < s.size by have:=of_decide_eq_true g;omega) (by omega)) (fun _=>?_);refine lI (fun j st=>∃ (i q:Nat) (L r:List og),st=RG s L q i/\q=L.length/\jW s i r/\L ++ r=l/\L.length<=i/\i<=s.size/\j=s.size - i) ⟨0,0,[],l,rfl,rfl,hl,rfl,by simp,by omega,rfl⟩ (eT 2 ⟨0,218,5,none⟩ rfl rfl rfl zo rfl rfl pD) ?_;rintro j st ⟨i,q,L,r,rfl,hq,hr,SG,hLi,V7,rfl⟩;refine br (fun aq=>?_) (fun hge=>?_)
 ·have aq:i < s.size:=sU aq;have hb:=A0 (bq s i);refine ⟨⟨by omega,by omega⟩,?_⟩
  cases hr with
  | nil=>omega
  | blank _ h1 h2=>
   rw [h1] at hb;refine cP Kq hb ?_;exact ⟨RG s L q (i + 1),(ep 2 (u7 (aS aq (by omega))) (c8 (aS aq (by omega)))),s.size - (i + 1),by omega,i + 1,q,L,_,rfl,hq,h2,SG,by omega,by omega,rfl⟩
  | @tok _ e t l' _ h1 h2 h3 h4 h5 h6 h7=>
   rw [h1] at hb;refine cP Kq hb ?_;refine ⟨⟨by omega,by omega⟩,?_⟩;refine br (fun g=>absurd (show bq s i=59 by have:=of_decide_eq_true g;rw [sE] at this;omega) h2) (fun _=>?_);obtain ⟨tk,ta,te,ts,tn⟩:=t;simp only at h4;subst h4;refine cP Pt h3 ?_;refine ⟨(fF L).trans hq.symm,⟨by simp [maxLen,fF];omega,by simp [fF];omega⟩,?_⟩;exact rE ⟨_,by omega,e,q + 1,L ++ [⟨tk,ta,e,ts,tn⟩],l',rfl,by simp [hq],h7,by simpa using SG,by simp;omega,h6,rfl⟩ (ep 2 (u7 (lU L ⟨tk,ta,e,ts,tn⟩)) (c8 (lU L ⟨tk,ta,e,ts,tn⟩)))
 ·have hge:s.size=i:=by
   have:=of_decide_eq_false hge;omega
  subst hge
  cases hr with
  | nil=>
   rw [List.append_nil] at SG;subst SG;refine fM [0] (fun _=>false) mo (by decide +kernel) ?_;refine ⟨(fF L).trans hq.symm,⟨by simp [maxLen,fF];omega,by simp [fF];omega⟩,?_⟩;rw [<- lU];exact ⟨_,ax,rfl⟩
  | blank h=>exact absurd h (Nat.lt_irrefl _)
  | tok h=>exact absurd h (Nat.lt_irrefl _)
def kL (K:List Nat) (e:Ed):Nat:=K.getD e.to.toNat 0
def leastR (K:List Nat):List Ed->Nat->Nat
 | [],m=>m + 1
 | e :: r,m=>if kL K e=0 then 0 else leastR K r (max m (kL K e))
def bY (K:List Nat):List Ed->Nat->Nat
 | [],b=>if b=0 then 0 else b + 1
 | e :: r,b=>if e.bare=true then 1 else if 0 < kL K e/\(b=0∨kL K e < b) then bY K r (kL K e) else bY K r b
def bB (n:Nd) (K:List Nat):Nat:=if n.ai=7 then leastR K n.aW 0 else if n.ai=8 then bY K n.aW 0 else 1
def depN (ND:List Nd):Nat->List Nat
 | 0=>List.replicate ND.length 0
 | d + 1=>ND.map fun n=>bB n (depN ND d)
theorem depN_len (ND:List Nd):∀ d,(depN ND d).length=ND.length
 | 0=>by simp [depN]
 | d + 1=>by simp [depN]
theorem depN_get (ND:List Nd) (d j:Nat):(depN ND (d + 1)).getD j 0=match ND[j]? with | none=>0 | some n=>bB n (depN ND d):=by grind [depN]
def D5 (d:Nat) (A B:List Nat):Prop:=∀ j:Nat,(0 < A.getD j 0->B.getD j 0=A.getD j 0/\A.getD j 0<=d)/\(A.getD j 0=0->B.getD j 0=0∨B.getD j 0=d + 1)
theorem we {d:Nat} {A B:List Nat} (h:D5 d A B) (j:Nat):B.getD j 0<=d + 1:=by
 obtain ⟨h1,h2⟩:=h j;omega
theorem kM {K:List Nat}:∀ {es:List Ed} {m:Nat},leastR K es m=0↔∃ e∈es,kL K e=0
 | [],m=>by simp [leastR]
 | e :: r,m=>by
  rw [leastR];by_cases h:kL K e=0
  ·grind
  ·rw [ah h,kM]
   grind
theorem pu {d:Nat} {A B:List Nat} (hR:D5 d A B):∀ {es:List Ed} {m:Nat},0 < leastR A es m->leastR B es m=leastR A es m
 | [],m,_=>rfl
 | e :: r,m,h=>by
  rw [leastR] at h ⊢;rw [leastR];by_cases h0:kL A e=0
  ·rw [zIfP h0] at h;omega
  rw [ah h0] at h ⊢;have h1:kL B e=kL A e:=((hR e.to.toNat).1 (by unfold kL at h0;omega)).1;rw [h1,ah h0];exact pu hR h
theorem sC {d:Nat} {A B:List Nat} (hR:D5 d A B):∀ {es:List Ed} {m:Nat},m<=d + 1->(m=d + 1∨∃ e∈es,kL A e=0)->leastR B es m=0∨leastR B es m=d + 2
 | [],m,_,h=>by grind [leastR]
 | e :: r,m,hm,h=>by
  rw [leastR];by_cases h0:kL B e=0
  ·rw [zIfP h0];exact .inl rfl
  rw [ah h0];have fL:kL B e<=d + 1:=we hR _;refine sC hR (by omega) ?_;rcases h with h | ⟨x,hx,h⟩
  ·left;omega
  ·rcases cY hx with rfl | hx
   ·left;have:=(hR x.to.toNat).2 h;unfold kL at h0 fL ⊢;omega
   ·exact .inr ⟨x,hx,h⟩
theorem jX {d:Nat} {A B:List Nat} (hR:D5 d A B):∀ {es:List Ed} {a b:Nat},(0 < a->b=a/\a<=d)->(a=0->b=0∨b=d + 1) ->
  (0 < bY A es a->bY B es b=bY A es a)/\(bY A es a=0->bY B es b=0∨bY B es b=d + 2)
 | [],a,b,h1,h2=>by grind [bY]
 | e :: r,a,b,h1,h2=>by
  rw [bY,bY];by_cases hb:e.bare=true
  ·grind
  rw [ah hb,ah hb];obtain ⟨g1,g2⟩:=hR e.to.toNat;change (0 < kL A e->kL B e=kL A e/\kL A e<=d) at g1;change (kL A e=0->kL B e=0∨kL B e=d + 1) at g2;by_cases c1:0 < kL A e/\(a=0∨kL A e < a)<;>by_cases c2:0 < kL B e/\(b=0∨kL B e < b)
  ·rw [zIfP c1,zIfP c2];exact jX hR (by omega) (by omega)
  ·omega
  ·rw [ah c1,zIfP c2];exact jX hR (by omega) (by omega)
  ·rw [ah c1,ah c2];exact jX hR (by omega) (by omega)
theorem A2 {d:Nat} {A B:List Nat} (hR:D5 d A B) (n:Nd):(0 < bB n A->bB n B=bB n A)/\(bB n A=0->bB n B=0∨bB n B=d + 2):=by
 unfold bB;by_cases h7:n.ai=7
 ·rw [zIfP h7,zIfP h7];exact ⟨pu hR,fun h=>sC hR (by omega) (.inr (kM.1 h))⟩
 grind [jX]
theorem yM (N:Nat) (e:Ed):kL (List.replicate N 0) e=0:=by grind [kL]
theorem pv (N:Nat):∀ es:List Ed,bY (List.replicate N 0) es 0=0∨bY (List.replicate N 0) es 0=1
 | []=>.inl rfl
 | e :: r=>by
  rw [bY,yM];by_cases hb:e.bare=true
  ·rw [zIfP hb];exact .inr rfl
  ·rw [ah hb,ah (by omega)];exact pv N r
theorem yN (N:Nat) (n:Nd):bB n (List.replicate N 0)=0∨bB n (List.replicate N 0)=1:=by
 unfold bB;by_cases h7:n.ai=7
 ·rw [zIfP h7]
  cases h:n.aW with
  | nil=>right;rfl
  | cons e r=>left;rw [leastR,yM,zIfP rfl]
 grind [pv]
theorem uR (ND:List Nd) (j:Nat):(depN ND 0).getD j 0=0:=by grind [depN]
theorem kN (ND:List Nd):∀ d,D5 d (depN ND d) (depN ND (d + 1))
 | 0=>fun j=>by
  refine ⟨fun h=>by rw [uR] at h;omega,fun _=>?_⟩;rw [depN_get]
  cases ND[j]? with
  | none=>exact .inl rfl
  | some n=>exact yN _ n
 | d + 1=>fun j=>by
  have ih:=kN ND d
  grind [depN_get,A2,we]
theorem JL (ND:List Nd):∀ d j,(depN ND d).getD j 0<=d
 | 0,j=>by rw [uR];omega
 | d + 1,j=>we (kN ND d) j
def posL (K:List Nat):List Bool:=K.map fun k=>decide (0 < k)
theorem jo (K:List Nat) (j:Nat):(posL K).getD j false=decide (0 < K.getD j 0):=by grind [posL]
theorem posL_len (K:List Nat):(posL K).length=K.length:=by simp [posL]
theorem nC {A B:List Nat} (hl:A.length=B.length) (h:∀ j,A.getD j 0=B.getD j 0):A=B:=by
 refine List.ext_getElem hl fun j h1 h2=>?_;have:=h j
 grind
theorem depN_posle (ND:List Nd) (d:Nat):HY (posL (depN ND d)) (posL (depN ND (d + 1))):=fun j h=>by
 rw [jo] at h ⊢;have h:=of_decide_eq_true h;have:=((kN ND d) j).1 h;exact decide_eq_true (by omega)
theorem depN_same {ND:List Nd} {d:Nat} (h:posL (depN ND d)=posL (depN ND (d + 1))):depN ND (d + 1)=depN ND d:=by
 refine nC (by rw [depN_len,depN_len]) fun j=>?_;obtain ⟨h1,h2⟩:=(kN ND d) j;rcases Nat.eq_zero_or_pos ((depN ND d).getD j 0) with h3 | h3
 ·have h4:=jo (depN ND d) j
  grind [jo,depN]
 ·exact (h1 h3).1
theorem depN_step (ND:List Nd):∀ d,depN ND (d + 1)=depN ND d∨d<=pJ (posL (depN ND d))
 | 0=>.inr (Nat.zero_le _)
 | d + 1=>by
  rcases depN_step ND d with h | h
  ·grind [bB,depN]
  ·rcases (leB_eq (by rw [posL_len,posL_len,depN_len,depN_len]) (depN_posle ND d)).1 with h2 | h2
   ·grind [depN_same,bB,depN]
   ·exact .inr (by omega)
theorem depN_fix {ND:List Nd} {d:Nat} (h:depN ND (d + 1)=depN ND d):∀ k,depN ND (d + k)=depN ND d
 | 0=>rfl
 | k + 1=>by
  show (ND.map fun n=>bB n (depN ND (d + k)))=_;rw [depN_fix h k];exact h
theorem depN_end (ND:List Nd):depN ND (ND.length + 1)=depN ND ND.length:=by grind [depN_step,leB_eq,posL_len,depN_len,depN_posle,depN_same,cntB_le,posL]
theorem JN {ND:List Nd} {d:Nat} (h:depN ND (d + 1)≠depN ND d):d < ND.length:=by
 rcases Nat.lt_or_ge d ND.length with h1 | h1
 ·exact h1
 ·obtain ⟨k,rfl⟩:∃ k,d=ND.length + k:=⟨d - ND.length,by omega⟩;exfalso;have h2:=depN_fix (depN_end ND) k;have h3:=depN_fix (depN_end ND) (k + 1)
  grind
theorem HE {ND:List Nd} {d:Nat} (h:depN ND (d + 1)=depN ND d):depN ND (d + 1)=depN ND ND.length:=by
 rcases Nat.lt_or_ge d ND.length with h1 | h1
 ·obtain ⟨k,hk⟩:∃ k,ND.length=d + k:=⟨ND.length - d,by omega⟩;rw [hk,depN_fix h k,h]
 ·obtain ⟨k,hk⟩:∃ k,d + 1=ND.length + k:=⟨d + 1 - ND.length,by omega⟩;rw [hk,depN_fix (depN_end ND) k]
def pM (K:List Bool) (e:Ed):Bool:=e.bare || K.getD e.to.toNat false
def Cm (n:Nd) (K:List Bool):Bool:=if n.ai < 7 then true else if n.ai=7 then n.aW.all (pM K) else n.aW.any (pM K)
theorem mi {K:List Nat}:∀ {es:List Ed} {b:Nat},0 < bY K es b↔(0 < b∨es.any (pM (posL K))=true)
 | [],b=>by grind [bY]
 | e :: r,b=>by
  have hg:(posL K).getD e.to.toNat false=decide (0 < kL K e):=jo K _;rw [bY,List.any_cons];by_cases hb:e.bare=true
  ·rw [zIfP hb];simp [pM,hb]
  ·rw [ah hb]
   have wy:pM (posL K) e=decide (0 < kL K e):=by
    unfold pM;rw [hg];simp [hb]
   rw [wy,Bool.or_eq_true,decide_eq_true_eq];split
   ·rename_i h1;rw [mi];omega
   ·rename_i h1;rw [mi]
    grind
theorem A3 {n:Nd} {K:List Nat} (h8:n.ai<=8) (hb:∀ e∈n.aW,e.bare=true->n.ai=8):(0 < bB n K)↔Cm n (posL K)=true:=by
 unfold bB Cm
 grind [leastR,kM,kL,posL,jo,pM,mi]
theorem HF {ND:List Nd} (hN:∀ n∈ND,n.ai<=8/\∀ e∈n.aW,e.bare=true->n.ai=8) (d:Nat) {i:Nat} {n:Nd} (h:ND[i]? = some n) :
  (depN ND (d + 1)).getD i 0=(if Cm n (posL (depN ND d))=true/\(depN ND d).getD i 0=0 then d + 1 else (depN ND d).getD i 0) /\
  (posL (depN ND (d + 1))).getD i false=Cm n (posL (depN ND d)):=by
 obtain ⟨h8,hb⟩:=hN n (mG h);have hp:=A3 (K:=depN ND d) h8 hb;have hg:(depN ND (d + 1)).getD i 0=bB n (depN ND d):=by rw [depN_get,h]
 obtain ⟨h1,h2⟩:=(kN ND d) i;refine ⟨?_,?_⟩
 ·grind
 ·grind [jo]
def cN (l:List Nat):List DV:=l.map fun (z:Nat)=>DV.v (.int .i64 (z:Int))
theorem A4 (l:List Nat):(cN l).length=l.length:=by simp [cN]
theorem HG {l:List Nat} {i z:Nat} (h:l[i]? = some z):(cN l)[i]? = some (DV.v (.int .i64 (z:Int))):=by simp [cN,h]
theorem HH (l:List Nat) (i z:Nat):(cN l).set i (DV.v (.int .i64 (z:Int)))=cN (l.set i z):=by simp [cN,List.map_set]
theorem sD (l:List Nat):(dInts l).flatten=cN l:=by
 induction l with
 | nil=>rfl
 | cons b r ih=>simp only [dInts,cN,List.map_cons,List.flatten_cons] at ih ⊢;rw [ih];all_goals rfl
theorem JO (n:Nat):(List.replicate n (vL [Value.int .i64 0])).flatten=cN (List.replicate n 0):=by
 induction n with
 | zero=>rfl
 | succ n ih=>simp only [List.replicate_succ,List.flatten_cons,ih];rfl
theorem bS {n m:Nat} {tk:List TkE} {l:List DV} {r:List Nat} (h:l=cN r):WeL n m tk l (cN r):=by
 subst h;refine rD _ fun x hx=>?_;obtain ⟨z,_,rfl⟩:=List.mem_map.1 hx;exact ⟨_,rfl⟩
theorem Nb {bx:List (List DV)} {N n0 m0 n i:Nat} {r:List Nat} (hr:r.length=n) (hN:N<=i) (hb:bx[i]? = some (cN r)):Cc bx N n0 m0 (.sl 1 (dInts r) none) (.ms i 1 0 n n):=by
 simp only [Cc];refine Or.inr (Or.inr (Or.inl ⟨i,0,n,_,by rw [aZ,hr],hN,hb,?_,?_,?_⟩))
 ·grind [sD,A4,aZ]
 ·grind [dInts]
 ·intro x hx;rw [sD] at hx;obtain ⟨_,_,rfl⟩:=List.mem_map.1 hx;exact .inl ⟨_,rfl⟩
abbrev RH (PC:List DV) (ND:List Nd) (q e:Nat):St:=
 ⟨[nZ 0 PC,(3,⟨[],.sl 7 (bG (ND.take e)) (some 0)⟩),al 8 ND.length,al 9 e],[],[⟨q,82,7,none⟩]⟩
theorem D6 {l:List Nd} {e:Nat} {n:Nd} (h:l[e]? = some n):bG (l.take e) ++ [wz n]=bG (l.take (e + 1)):=by
 rw [List.take_add_one,h];simp [bG]
theorem nD {S:Sch} {ND:List Nd} {PC:List DV} (hP:j1 S ND PC) :
  aV prog 100 [.pt PC 0] (.sl 7 (bG ND) none):=by
 have h1:=hP.len;have h2:=hP.ag;have fh:=hP.nl;refine eG 24 [.tmp 2] func100 rfl ntmps100 rfl fun _ _ _ _=>?_;refine cP Fk h1 ?_;refine lJ (fun e=>RH PC ND e e) ND.length (dH ⟨0,82,7,none⟩ rfl ⟨_,rfl⟩ rfl wA rfl rfl pD) ?_;intro e he;refine br ?_ ?_<;>intro hL
 ·have aq:e < ND.length:=by have:=hL;simp at this;exact this
  obtain ⟨n,hn⟩:=gX aq;have fN:(bG (ND.take e)).length=e:=by rw [dz,eQ];omega
  refine cP ID (h2 e n hn) ?_;refine ⟨fN,⟨by rw [fN];simp [maxLen];omega,by rw [fN];simp;omega⟩,?_⟩;exact rE ⟨_,by omega,e + 1,rfl,by omega,rfl⟩ (bl (iv (aS aq (by omega)) (D6 hn)))
 ·have hge:e=ND.length:=by have:=hL;simp at this;omega
  subst hge;rw [List.take_length];exact ⟨_,ax,rfl⟩
abbrev Ld (K:List Nat) (es:List Ed) (m e:Nat):St:=
 ⟨[aT 1 1 (dInts K),al 5 m,aT 16 10 (iw es),al 17 ((iw es).length),al 18 e],[],[]⟩
abbrev yO (K:List Nat) (es:List Ed) (m e:Nat):St:=
 ⟨[aT 1 1 (dInts K),al 8 m,aT 41 10 (iw es),al 42 ((iw es).length),al 43 e],[],[]⟩
theorem wg {L:Nat} {n:Nd} (K:List Nat) (hK:K.length<=1099511627776) (hn:yB L K.length n) (hz:∀ z∈K,z<=1099511627776) (wo:n.aW.length<=1099511627776) :
  aV prog 185 [.agg (wz n),.sl 1 (dInts K) none] (.v (.int .i64 (bB n K:Nat))):=by
 have nj:=hn.Ab;have HI:=hn.bare;obtain ⟨ai,cV,lo,hi,most,af,es⟩:=n;simp only at nj HI wo;refine eG 80 [.tmp 4] func185 rfl ntmps185 rfl fun _ _ _ _=>?_;refine br ?_ ?_<;>intro h7
 ·have h7:ai=7:=sU h7;have hF:bB ⟨ai,cV,lo,hi,most,af,es⟩ K=leastR K es 0:=by simp [bB,h7]
  rw [hF];refine lI (fun j st=>∃ e m:Nat,st=Ld K es m e/\e<=es.length/\m<=1099511627776/\leastR K es 0=leastR K (es.drop e) m/\j=es.length - e) ⟨0,0,rfl,by omega,by omega,rfl,rfl⟩ (bl wB) ?_;rintro j st ⟨e,m,rfl,he,hm,aD,rfl⟩;refine br ?_ ?_<;>intro hL
  ·have aq:e < es.length:=by have:=hL;simp [cM] at this;exact this
   obtain ⟨x,hx⟩:=gX aq;rw [drop_cons hx,leastR] at aD;have ET:=nj x (mG hx);have hxb:x.bare=false:=by grind
   obtain ⟨k,hk,xd⟩:=ET.to1 hxb;obtain ⟨z,hz1⟩:∃ z,K[k]? = some z:=⟨_,gE xd⟩;have hzl:=hz z (mG hz1);have Vr:kL K x=z:=by simp [kL,hk,dx,hz1]
   have hg:(dInts K)[x.to.toNat]? = some [DV.v (.int .i64 (z:Int))]:=by rw [hk];exact bX hz1
   rw [Vr] at aD;refine iX (gh hx) ?_;refine ⟨_,⟨by omega,hg⟩,?_⟩;refine br ?_ ?_<;>intro g
   ·have g:z=0:=sU g;rw [aD,zIfP g];exact (rfl:_=_)
   ·have g:¬ z=0:=sU g;rw [ah g] at aD;refine ⟨_,⟨by omega,hg⟩,?_⟩;exact ⟨Ld K es (max m z) (e + 1),(bl (iv (show max (m:Int) z=((max m z:Nat):Int) by omega) (aS aq (by omega)))),es.length - (e + 1),by omega,e + 1,_,rfl,by omega,by omega,aD,rfl⟩
  ·have hge:e=es.length:=by have:=hL;simp [cM] at this;omega
   subst hge;rw [List.drop_length,leastR] at aD;have hw:IntKind.i64.wrap ((m:Int) + 1)=((m + 1:Nat):Int):=by rw [wrap64 (by omega) (by omega)];omega
   rw [aD];refine (qM ?_:);exact hw
 have h7:¬ ai=7:=sU h7;refine br ?_ ?_<;>intro h8
 ·have h8:ai=8:=sU h8;have hF:bB ⟨ai,cV,lo,hi,most,af,es⟩ K=bY K es 0:=by simp [bB,h8]
  rw [hF];refine lI (fun j st=>∃ e m:Nat,st=yO K es m e/\e<=es.length/\m<=1099511627776/\bY K es 0=bY K (es.drop e) m/\j=es.length - e) ⟨0,0,rfl,by omega,by omega,rfl,rfl⟩ (bl wB) ?_;rintro j st ⟨e,m,rfl,he,hm,aD,rfl⟩;refine br ?_ ?_<;>intro hL
  ·have aq:e < es.length:=by have:=hL;simp [cM] at this;exact this
   obtain ⟨x,hx⟩:=gX aq;rw [drop_cons hx,bY] at aD;have ET:=nj x (mG hx);refine iX (gh hx) ?_;refine br ?_ ?_<;>intro hb
   ·have hb:x.bare=true:=hb;rw [aD,zIfP hb];exact (rfl:_=_)
   have hb:x.bare=false:=hb;rw [ah (by rw [hb];decide)] at aD;obtain ⟨k,hk,xd⟩:=ET.to1 hb;obtain ⟨z,hz1⟩:∃ z,K[k]? = some z:=⟨_,gE xd⟩;have hzl:=hz z (mG hz1);have Vr:kL K x=z:=by simp [kL,hk,dx,hz1]
   have hg:(dInts K)[x.to.toNat]? = some [DV.v (.int .i64 (z:Int))]:=by rw [hk];exact bX hz1
   rw [Vr] at aD;refine ⟨_,⟨by omega,hg⟩,?_⟩;have fv:¬ (0 < z/\(m=0∨z < m))->bY K es 0=bY K (es.drop (e + 1)) m:=fun h=>by rw [aD,ah h]
   have take:(0 < z/\(m=0∨z < m))->bY K es 0=bY K (es.drop (e + 1)) z:=fun h=>by rw [aD,zIfP h]
   refine br ?_ ?_<;>intro g1
   ·have g1:0 < z:=by simpa [lastG] using g1
    refine br ?_ ?_<;>intro g2
    ·have g2:¬ m=0:=sU g2;refine ⟨_,⟨by omega,hg⟩,?_⟩;refine br ?_ ?_<;>intro g3
     ·have g3:z < m:=by simpa [pickB,pickD,lastG] using g3
      refine ⟨_,⟨by omega,hg⟩,?_⟩;exact ⟨yO K es z (e + 1),(bl (c8 (aS aq (by omega)))),es.length - (e + 1),by omega,e + 1,_,rfl,by omega,by omega,take ⟨g1,.inr g3⟩,rfl⟩
     ·have g3:¬ z < m:=by simpa [pickB,pickD,lastG] using g3
      exact ⟨yO K es m (e + 1),(bl (c8 (aS aq (by omega)))),es.length - (e + 1),by omega,e + 1,_,rfl,by omega,by omega,fv (by omega),rfl⟩
    ·have g2:m=0:=sU g2;refine ⟨_,⟨by omega,hg⟩,?_⟩;exact ⟨yO K es z (e + 1),(bl (c8 (aS aq (by omega)))),es.length - (e + 1),by omega,e + 1,_,rfl,by omega,by omega,take ⟨g1,.inl g2⟩,rfl⟩
   ·have g1:¬ 0 < z:=by simpa [lastG] using g1
    exact ⟨yO K es m (e + 1),(bl (c8 (aS aq (by omega)))),es.length - (e + 1),by omega,e + 1,_,rfl,by omega,by omega,fv (by omega),rfl⟩
  ·have hge:e=es.length:=by have:=hL;simp [cM] at this;omega
   subst hge;rw [List.drop_length,bY] at aD;refine br ?_ ?_<;>intro g
   ·have g:m=0:=sU g;rw [aD,zIfP g];exact (rfl:_=_)
   ·have g:¬ m=0:=sU g;rw [ah g] at aD;have hw:IntKind.i64.wrap ((m:Int) + 1)=((m + 1:Nat):Int):=by rw [wrap64 (by omega) (by omega)];omega
    rw [aD];refine (qM ?_:);exact hw
 ·have h8:¬ ai=8:=sU h8;have hF:bB ⟨ai,cV,lo,hi,most,af,es⟩ K=1:=by simp [bB,h7,h8]
  rw [hF];exact (rfl:_=_)
abbrev wL (lv:List Wd) (f:Nat->Nat->Bool) (ND:List Nd) (z:Int):List DV:=[.sl 2 (bm lv) none,.sl 1 (ct (cW lv.length f)) none,.sl 7 (bG ND) none,.v (.int .i64 z)]
abbrev Le (n:Nd) (K:List Bool) (s v:Bool) (e:Nat):St:=
 ⟨[aT 1 1 (r7 K),aE 2 0,zq 5 s,zq 6 v,al 7 e],[wz n],[]⟩
theorem A5 {L:Nat} {n:Nd} (K:List Bool) (hK:K.length<=1099511627776) (hn:yB L K.length n) (wo:n.aW.length<=1099511627776) :
  aV prog 109 [.agg (wz n),.sl 1 (r7 K) none] (.v (.bool (Cm n K))):=by
 have nj:=hn.Ab;have HI:=hn.bare;have Vs:=hn.k8;obtain ⟨ai,cV,lo,hi,most,af,es⟩:=n;simp only at nj HI wo Vs;refine eG 50 [.tmp 4] func109 rfl ntmps109 rfl fun _ _ _ _=>?_;refine br ?_ ?_<;>intro h7
 ·have h7:ai < 7:=sU h7;refine (cg ?_:);simp [Cm,h7]
 have h7:¬ ai < 7:=sU h7;refine aX (fun j st=>∃ e:Nat,st=Le ⟨ai,cV,lo,hi,most,af,es⟩ K ((es.take e).any (pM K)) ((es.take e).all (pM K)) e/\e<=es.length/\j=es.length - e) es.length (Le ⟨ai,cV,lo,hi,most,af,es⟩ K false true 0) (bl wB) ⟨0,by simp,by omega,by omega⟩ ?_;rintro j st ⟨e,rfl,he,rfl⟩;refine br ?_ ?_<;>intro hL
 ·have aq:e < es.length:=by have:=hL;simp [cM] at this;exact this
  obtain ⟨x,hx⟩:=gX aq;refine iX (gh hx) ?_;have hs:(es.take (e + 1)).any (pM K)=((es.take e).any (pM K) || pM K x):=by rw [List.take_add_one,hx];simp
  have hv:(es.take (e + 1)).all (pM K)=((es.take e).all (pM K) && pM K x):=by rw [List.take_add_one,hx];simp
  generalize (es.take e).any (pM K)=s at hs ⊢;generalize (es.take e).all (pM K)=v at hv ⊢;refine br ?_ ?_<;>intro hb
  ·have hb:x.bare=false:=sU hb;obtain ⟨k,hk,xd⟩:=(nj x (mG hx)).to1 hb;obtain ⟨b,lm⟩:∃ b,K[k]? = some b:=⟨_,gE xd⟩;have hg:(r7 K)[(max x.to 0).toNat]? = some [DV.v (.bool b)]:=by rw [show (max x.to 0).toNat=k by omega];exact B6 lm
   have Vt:pM K x=b:=by unfold pM;rw [hb,hk];simp [dx,lm]
   rw [Vt] at hs hv;refine iX (gh hx) ?_;refine ⟨_,⟨by omega,hg⟩,?_⟩;have e5:pickB s true b=(es.take (e + 1)).any (pM K):=by rw [hs,aj]
   have e6:pickB v b false=(es.take (e + 1)).all (pM K):=by rw [hv,av]
   exact rE ⟨_,by omega,e + 1,rfl,by omega,rfl⟩ (bl (LK e5 e6 (aS aq (by omega))))
  ·have hb:x.bare=true:=sU hb;have Vt:pM K x=true:=by unfold pM;rw [hb];all_goals rfl
   rw [Vt] at hs hv;have e5:pickB s true true=(es.take (e + 1)).any (pM K):=by rw [hs,aj]
   have e6:pickB v true false=(es.take (e + 1)).all (pM K):=by rw [hv,av]
   exact rE ⟨_,by omega,e + 1,rfl,by omega,rfl⟩ (bl (LK e5 e6 (aS aq (by omega))))
 ·have hge:e=es.length:=by have:=hL;simp [cM] at this;omega
  subst hge;rw [List.take_length];refine br ?_ ?_<;>intro g
  ·have g:ai=7:=sU g;refine (cg ?_:);simp [Cm,g]
  ·have g:¬ ai=7:=sU g;refine (cg ?_:);simp [Cm,g,h7]
theorem RI {bx:List (List DV)} {N n0 m0 n i:Nat} {r:List Bool} (hr:r.length=n) (hN:N<=i) (hb:bx[i]? = some (cB r)):Cc bx N n0 m0 (.sl 1 (r7 r) none) (.ms i 1 0 n n):=by
 simp only [Cc];refine Or.inr (Or.inr (Or.inl ⟨i,0,n,_,by rw [qc,hr],hN,hb,?_,?_,?_⟩))
 ·grind [nk,oH,qc]
 ·grind [r7]
 ·intro x hx;rw [nk] at hx;obtain ⟨_,_,rfl⟩:=List.mem_map.1 hx;exact .inl ⟨_,rfl⟩
theorem HJ (l:List Nat) (bx:List (List DV)) (N n m:Nat):CcL bx N n m (cN l) (cN l):=by
 induction l with
 | nil=>rfl
 | cons a r ih=>exact ⟨_,_,rfl,rfl,ih⟩
abbrev wG (a b:Nat) (A B:List (List DV)) (ND:List Nd) (z:Int):List DV:=[.sl a A none,.sl b B none,.sl 7 (bG ND) none,.v (.int .i64 z)]
abbrev HK (W:List DV) (O:List Nat) (K:List Bool) (n d:Nat):St:=
 ⟨[aE 1 0,(3,⟨[],.ms 1 1 0 n n⟩),aT 4 1 (r7 K),al 5 d],[W,cN O],[]⟩
abbrev yP (W:List DV) (O:List Nat) (K:List Bool) (M:List Bool) (n d e:Nat):St:=
 ⟨[aE 1 0,(3,⟨[],.ms 1 1 0 n n⟩),aT 4 1 (r7 K),al 5 d,(6,⟨[],.ms 2 1 0 n n⟩),al 7 e],[W,cN O,cB M],[]⟩
theorem sX (a b:Nat) (A B:List (List DV)) {ND:List Nd} {L:Nat} (z:Int) (ei:∀ n∈ND,yB L ND.length n) (fh:ND.length<=1099511627776) (cQ:∀ n∈ND,n.aW.length<=1099511627776) :
  aV prog 43 [.agg (wG a b A B ND z)] (.sl 1 (dInts (depN ND ND.length)) none):=by
 have gz:=dz ND;refine eG 61 [.tmp 2] func43 rfl ntmps43 rfl fun _ _ _ _=>?_;refine ⟨⟨rfl,by omega,by rw [gz];omega,by rw [gz];omega⟩,?_⟩;refine ⟨⟨rfl,by omega,by rw [gz];omega,by rw [gz];omega⟩,?_⟩;refine zR (fun j st=>∃ d:Nat,st=HK (wG a b A B ND z) (depN ND d) (posL (depN ND d)) (bG ND).length (d + 1)/\d<=ND.length/\j=ND.length - d) ND.length (HK (wG a b A B ND z) (depN ND 0) (posL (depN ND 0)) (bG ND).length 1) (.y5 2 rfl rfl ?_ rfl ?_) ⟨0,rfl,by omega,by omega⟩ ?_
 ·refine ⟨_,_,rfl,ax,_,_,rfl,?_,rfl⟩;rw [JO,gz];exact HJ _ _ _ _ _
 ·refine ⟨⟨_,rfl,aO⟩,⟨_,rfl,aO⟩,⟨_,rfl,RI (by rw [posL_len,depN_len,gz];omega) (zLeR _) ?_⟩,⟨_,rfl,ax⟩,trivial⟩;refine congrArg some ?_;rw [DF,gz];simp [posL,depN]
 rintro j st ⟨d,rfl,hd,rfl⟩;have mj:(posL (depN ND d)).length=ND.length:=by rw [posL_len,depN_len]
 refine br ?_ ?_<;>intro hc
 ·have aq:d < ND.length:=sW gz hc;refine ⟨⟨rfl,by omega,by rw [gz];omega,by rw [gz];omega⟩,?_⟩;refine aX (fun j st=>∃ (e:Nat) (O:List Nat) (M:List Bool),st=yP (wG a b A B ND z) O (posL (depN ND d)) M (bG ND).length (d + 1) e/\e<=ND.length/\O.length=ND.length/\M.length=ND.length/\(∀ i:Nat,i < e->O.getD i 0=(depN ND (d + 1)).getD i 0/\M.getD i false=(posL (depN ND (d + 1))).getD i false)/\(∀ i:Nat,e<=i->O.getD i 0=(depN ND d).getD i 0)/\j=ND.length - e) ND.length (yP (wG a b A B ND z) (depN ND d) (posL (depN ND d)) (List.replicate ((bG ND).length:Int).toNat false) (bG ND).length (d + 1) 0) (ep 3 (by repeat' (first | exact rfl | exact au rfl | exact bS rfl | exact bK (DF _) | refine ⟨_,_,rfl,?_,?_⟩)) (by repeat' (first | exact trivial | exact au rfl | exact bS rfl | exact bK (DF _) | refine ⟨⟨_,rfl,?_⟩,?_⟩))) ⟨0,_,_,rfl,by omega,by rw [depN_len],by rw [List.length_replicate,gz];omega,fun i hi=>by omega,fun i _=>rfl,by omega⟩ ?_;rintro j st ⟨e,O,M,rfl,he,hO,hM,pT,Cs,rfl⟩;refine br ?_ ?_<;>intro hL
  ·have fL:e < ND.length:=by have:=hL;simp [gz] at this;exact this
   obtain ⟨n,hn⟩:∃ n,ND[e]? = some n:=⟨_,gE fL⟩;have Nc:=mG hn;have h1:=A5 (posL (depN ND d)) (by rw [mj];exact fh) (n:=n) (by rw [mj];exact ei n Nc) (cQ n Nc);obtain ⟨r1,r2⟩:=HF (fun m hm=>⟨(ei m hm).k8,(ei m hm).bare⟩) d hn;refine iX (gf hn) ?_;refine cP OY h1 ?_
   have hst:(cB M).set (0 + (e:Int).toNat * 1) (DV.v (.bool (Cm n (posL (depN ND d)))))=cB (M.set e (Cm n (posL (depN ND d)))):=by
    rw [show 0 + (e:Int).toNat * 1=e by omega,vO]
   have Jm:(cB (M.set e (Cm n (posL (depN ND d)))))[0 + (e:Int).toNat * 1]? = some (DV.v (.bool (Cm n (posL (depN ND d))))):=by
    rw [show 0 + (e:Int).toNat * 1=e by omega];exact G5 (fO (by omega))
   obtain ⟨q,hq⟩:∃ q,O[e]? = some q:=⟨_,gE (by omega)⟩;have hqd:(depN ND d).getD e 0=q:=by rw [<- Cs e (zLeR _),dx,hq];all_goals rfl
   rw [hqd] at r1
   have SH:∀ i:Nat,i < e + 1->(M.set e (Cm n (posL (depN ND d)))).getD i false=(posL (depN ND (d + 1))).getD i false:=fun i hi=>by
    by_cases Ek:i=e
    ·subst Ek;rw [r2,dx,fO (by omega)];all_goals rfl
    ·rw [dx,List.getElem?_set_ne (Ne.symm Ek),<- dx];exact (pT i (by omega)).2
   generalize Cm n (posL (depN ND d))=h at hst Jm r1 SH ⊢;refine ⟨⟨by omega,by rw [gz];omega⟩,?_⟩;refine ⟨by rw [oH];omega,?_⟩;refine ⟨⟨by omega,by rw [gz];omega⟩,?_⟩;refine ⟨DV.v (.bool h),(by rw [hst];exact Jm),?_⟩
   have Vu:∀ v,v=(depN ND (d + 1)).getD e 0->∀ i:Nat,i < e + 1->(O.set e v).getD i 0=(depN ND (d + 1)).getD i 0:=fun v hv i hi=>by
    by_cases Ek:i=e
    ·subst Ek;rw [<- hv,dx,fO (by omega)];all_goals rfl
    ·rw [dx,List.getElem?_set_ne (Ne.symm Ek),<- dx];exact (pT i (by omega)).1
   have hOr:∀ v:Nat,∀ i:Nat,e + 1<=i->(O.set e v).getD i 0=(depN ND d).getD i 0:=fun v i hi=>by
    rw [dx,List.getElem?_set_ne (by omega),<- dx];exact Cs i (by omega)
   have SI:O.set e q=O:=List.ext_getElem? fun i=>by
    by_cases Ek:e=i
    ·subst Ek;rw [fO (by omega),hq]
    ·rw [List.getElem?_set_ne Ek]
   refine br ?_ ?_<;>intro g
   ·have g:h=true:=sU g;refine ⟨⟨by omega,by rw [gz];omega⟩,?_⟩;refine ⟨DV.v (.int .i64 (q:Int)),(by rw [show 0 + (e:Int).toNat * 1=e by omega];exact HG hq),?_⟩;refine br ?_ ?_<;>intro g2
    ·have g2:q=0:=by simpa [pickB,pickD] using g2
     rw [zIfP ⟨g,g2⟩] at r1;refine ⟨⟨by omega,by rw [gz];omega⟩,?_⟩;refine ⟨by rw [A4];omega,?_⟩
     have LM:(cN O).set (0 + (e:Int).toNat * 1) (DV.v (.int .i64 ((d + 1:Nat):Int)))=cN (O.set e (d + 1)):=by
      rw [show 0 + (e:Int).toNat * 1=e by omega,HH]
     exact ⟨yP (wG a b A B ND z) (O.set e (d + 1)) (posL (depN ND d)) (M.set e h) (bG ND).length (d + 1) (e + 1),(ep 3 (VV LM hst (aS fL (by omega))) (LK LM hst (aS fL (by omega)))),ND.length - (e + 1),by omega,e + 1,_,_,rfl,by omega,by simp [hO],by rw [List.length_set];exact hM,fun i hi=>⟨Vu _ r1.symm i hi,SH i hi⟩,hOr (d + 1),rfl⟩
    ·have g2:¬ q=0:=by simpa [pickB,pickD] using g2
     rw [ah (fun h=>g2 h.2)] at r1;exact ⟨yP (wG a b A B ND z) (O.set e q) (posL (depN ND d)) (M.set e h) (bG ND).length (d + 1) (e + 1),(ep 3 (by repeat' (first | exact rfl | exact au rfl | exact bS (by rw [SI]) | exact bK hst | exact aw (aS fL (by omega)) | refine ⟨_,_,rfl,?_,?_⟩)) (by repeat' (first | exact trivial | exact au rfl | exact bS (by rw [SI]) | exact bK hst | exact aw (aS fL (by omega)) | refine ⟨⟨_,rfl,?_⟩,?_⟩))),ND.length - (e + 1),by omega,e + 1,_,_,rfl,by omega,by simp [hO],by rw [List.length_set];exact hM,fun i hi=>⟨Vu _ r1.symm i hi,SH i hi⟩,hOr q,rfl⟩
   ·have g:h=false:=sU g;rw [ah (by rw [g];simp)] at r1;exact ⟨yP (wG a b A B ND z) (O.set e q) (posL (depN ND d)) (M.set e h) (bG ND).length (d + 1) (e + 1),(ep 3 (by repeat' (first | exact rfl | exact au rfl | exact bS (by rw [SI]) | exact bK hst | exact aw (aS fL (by omega)) | refine ⟨_,_,rfl,?_,?_⟩)) (by repeat' (first | exact trivial | exact au rfl | exact bS (by rw [SI]) | exact bK hst | exact aw (aS fL (by omega)) | refine ⟨⟨_,rfl,?_⟩,?_⟩))),ND.length - (e + 1),by omega,e + 1,_,_,rfl,by omega,by simp [hO],by rw [List.length_set];exact hM,fun i hi=>⟨Vu _ r1.symm i hi,SH i hi⟩,hOr q,rfl⟩
  ·have hge:e=ND.length:=sW gz hL;subst hge
   have hO2:O=depN ND (d + 1):=nC (by rw [hO,depN_len]) fun j=>by
    rcases Nat.lt_or_ge j ND.length with hj | hj
    ·exact (pT j hj).1
    ·simp only [dx];rw [s5 (by omega),s5 (by rw [depN_len];omega)]
   have hM2:M=posL (depN ND (d + 1)):=x4 (by rw [hM,posL_len,depN_len]) (fun j hj=>by
     rcases Nat.lt_or_ge j ND.length with h | h
     ·rw [<- (pT j h).2];exact hj
     ·rw [dx,s5 (by omega)] at hj;cases hj) (fun j hj=>by
     rcases Nat.lt_or_ge j ND.length with h | h
     ·rw [(pT j h).2];exact hj
     ·rw [dx,s5 (by rw [posL_len,depN_len];omega)] at hj;cases hj)
   subst hO2 hM2;refine ⟨HK (wG a b A B ND z) (depN ND (d + 1)) (posL (depN ND (d + 1))) (bG ND).length (d + 1 + 1),.y5 2 rfl rfl ⟨_,_,rfl,ax,_,_,rfl,HJ _ _ _ _ _,rfl⟩ rfl ⟨⟨_,rfl,aO⟩,⟨_,rfl,aO⟩,⟨_,rfl,RI (by rw [posL_len,depN_len,gz]) (zLeR _) rfl⟩,⟨_,rfl,?_⟩,trivial⟩,ND.length - (d + 1),by omega,d + 1,rfl,by omega,rfl⟩;exact congrArg (fun z=>DV.v (Value.int .i64 z)) (aS (n:=1099511627777) (by omega) (by omega))
 ·have hge:d=ND.length:=sW gz hc;subst hge;exact ⟨_,Nb (by rw [depN_len,gz]) (Nat.zero_le _) rfl,rfl⟩
def pN (ND:List Nd) (d e:Nat):Bool:=(List.range e).any fun i=>decide (¬ (depN ND (d + 1)).getD i 0=(depN ND d).getD i 0)
theorem D7 (ND:List Nd) (d e:Nat):pN ND d (e + 1)=(pN ND d e || decide (¬ (depN ND (d + 1)).getD e 0=(depN ND d).getD e 0)):=by
 simp [pN,List.range_succ]
theorem yQ {ND:List Nd} {d:Nat}:pN ND d ND.length=false↔depN ND (d + 1)=depN ND d:=by grind [nC,depN_len,pN]
theorem A6 {ND:List Nd} {d:Nat} (hd:d<=1099511627776):∀ z∈depN ND d,z<=1099511627776:=fun z hz=>by
 obtain ⟨i,hi⟩:=List.mem_iff_getElem?.1 hz;have:=JL ND d i
 grind
abbrev HL (ND:List Nd) (d:Nat) (c:Bool):St:=
 ⟨[aT 3 7 (bG ND),aT 4 1 (dInts (depN ND d)),zq 5 c],[],[]⟩
abbrev Cn (ND:List Nd) (d:Nat) (c:Bool) (L:List Nat) (e:Nat):St:=
 ⟨[aT 3 7 (bG ND),aT 4 1 (dInts (depN ND d)),zq 5 c,(6,⟨[],.ms 0 1 0 (bG ND).length (bG ND).length⟩),aT 18 7 (bG ND),al 19 ((bG ND).length),al 20 e],[cN L],[]⟩
theorem A7 {L:Nat} {ND:List Nd} {p:DV} (h0:aV prog 100 [p] (.sl 7 (bG ND) none)) (ei:∀ n∈ND,yB L ND.length n) (fh:ND.length<=1099511627776) (cQ:∀ n∈ND,n.aW.length<=1099511627776) (pU:∀ bx N n m,Cc bx N n m p p) :
  aV prog 101 [p] (.sl 1 (dInts (depN ND ND.length)) none):=by
 have gz:=dz ND;refine eG 46 [.tmp 2] func101 rfl ntmps101 rfl fun _ _ _ _=>?_;refine cP J6 h0 ?_ (pV pU);refine ⟨⟨rfl,by omega,by rw [gz];omega,by rw [gz];omega⟩,?_⟩;refine zR (fun j st=>∃ (d:Nat) (c:Bool),st=HL ND d c/\(c=true->d<=ND.length)/\(c=false->depN ND d=depN ND ND.length)/\j=ND.length + 2 - d) (ND.length + 2) (HL ND 0 true) (.y5 0 rfl rfl rfl rfl ?_) ⟨0,true,rfl,by omega,by simp,by omega⟩ ?_
 ·refine ⟨⟨_,rfl,ax⟩,⟨_,rfl,Nb (by rw [depN_len,gz];omega) (by omega) ?_⟩,⟨_,rfl,ax⟩,trivial⟩;refine congrArg some ?_;rw [JO,gz];rfl
 rintro j st ⟨d,c,rfl,Ny,mB,rfl⟩;refine br ?_ ?_<;>intro hc
 ·have hc:c=true:=hc;have hd:=Ny hc;refine ⟨⟨rfl,by omega,by rw [gz];omega,by rw [gz];omega⟩,?_⟩;refine aX (fun j st=>∃ (e:Nat) (L:List Nat),st=Cn ND d (pN ND d e) L e/\e<=ND.length/\L.length=ND.length/\(∀ i:Nat,i < e->L.getD i 0=(depN ND (d + 1)).getD i 0)/\j=ND.length - e) ND.length (Cn ND d false (List.replicate ((bG ND).length:Int).toNat 0) 0) (ep 1 (by repeat' (first | exact rfl | exact au rfl | exact bS (JO _) | refine ⟨_,_,rfl,?_,?_⟩)) (by repeat' (first | exact trivial | exact au rfl | exact bS (JO _) | refine ⟨⟨_,rfl,?_⟩,?_⟩))) ⟨0,_,rfl,by omega,by rw [List.length_replicate,gz];omega,fun i hi=>by omega,by omega⟩ ?_;rintro j st ⟨e,L,rfl,he,hL,hLv,rfl⟩;refine br ?_ ?_<;>intro aq
  ·have aq:e < ND.length:=by have:=aq;simp [gz] at this;exact this
   obtain ⟨n,hn⟩:=gX aq;have Nc:=mG hn;have fL:=wg (depN ND d) (by rw [depN_len];exact fh) (n:=n) (by rw [depN_len];exact ei n Nc) (A6 (by omega)) (cQ n Nc);refine iX (gf hn) ?_;refine cP Pb fL ?_;refine ⟨⟨by omega,by rw [gz];omega⟩,?_⟩;refine ⟨by rw [A4];omega,?_⟩;refine dI ?_;have hv:=depN_get ND d e;rw [hn] at hv;have hv:(depN ND (d + 1)).getD e 0=bB n (depN ND d):=hv;obtain ⟨z,hz⟩:∃ z,(depN ND d)[e]? = some z:=⟨_,gE (by rw [depN_len];exact aq)⟩;have hzd:(depN ND d).getD e 0=z:=by rw [dx,hz];all_goals rfl
   have ch:=D7 ND d e;rw [hv,hzd] at ch;have hst:(cN L).set (0 + (e:Int).toNat * 1) (DV.v (.int .i64 ((bB n (depN ND d):Nat):Int)))=cN (L.set e (bB n (depN ND d))):=by grind [HH]
   have Rn:∀ i:Nat,i < e + 1->(L.set e (bB n (depN ND d))).getD i 0=(depN ND (d + 1)).getD i 0:=fun i hi=>by grind
   refine br ?_ ?_<;>intro g
   ·have g:pN ND d e=false:=sU g;rw [g,Bool.false_or] at ch;have Jm:(cN (L.set e (bB n (depN ND d))))[0 + (e:Int).toNat * 1]? = some (DV.v (.int .i64 ((bB n (depN ND d):Nat):Int))):=by grind [HG]
    refine ⟨⟨by omega,by rw [gz];omega⟩,?_⟩;rw [hst];refine ⟨_,Jm,?_⟩;refine iX (bX hz) ?_
    have W7:(!decide (((bB n (depN ND d):Nat):Int)=(z:Int)))=pN ND d (e + 1):=by
     rw [ch,Bool.eq_iff_iff];simp;omega
    exact ⟨Cn ND d (pN ND d (e + 1)) (L.set e (bB n (depN ND d))) (e + 1),(ep 1 (zp W7 (aS aq (by omega))) (iv W7 (aS aq (by omega)))),ND.length - (e + 1),by omega,e + 1,_,rfl,by omega,by rw [List.length_set];exact hL,Rn,rfl⟩
   ·have g:pN ND d e=true:=sU g;rw [g,Bool.true_or] at ch;exact ⟨Cn ND d (pN ND d (e + 1)) (L.set e (bB n (depN ND d))) (e + 1),(ep 1 (VV hst ch.symm (aS aq (by omega))) (LK hst ch.symm (aS aq (by omega)))),ND.length - (e + 1),by omega,e + 1,_,rfl,by omega,by rw [List.length_set];exact hL,Rn,rfl⟩
  ·have hge:e=ND.length:=sW gz aq;subst hge;have R9:L=depN ND (d + 1):=nC (by rw [hL,depN_len]) fun j=>by grind [depN_len]
   subst R9;refine ⟨HL ND (d + 1) (pN ND d ND.length),.y5 0 rfl rfl rfl rfl ⟨⟨_,rfl,ax⟩,⟨_,rfl,Nb (by rw [depN_len,gz]) (by omega) rfl⟩,⟨_,rfl,ax⟩,trivial⟩,ND.length + 2 - (d + 1),by omega,d + 1,_,rfl,fun pU=>?_,fun pU=>HE (yQ.1 pU),rfl⟩;have:depN ND (d + 1)≠depN ND d:=fun h=>by rw [yQ.2 h] at pU;cases pU
   have:=JN this;omega
 ·have hc:c=false:=hc;rw [mB hc];exact ⟨_,ax,rfl⟩
theorem j1.Vv {S:Sch} {ND:List Nd} {PC:List DV} (hP:j1 S ND PC):∀ n∈ND,n.aW.length<=1099511627776:=fun n hn=>by
 have h1:=hP.wt;rw [hP.ur] at hn;exact (oQ hn h1).2
theorem yR {S:Sch} {ND:List Nd} {PC:List DV} (hP:j1 S ND PC):aV prog 101 [.pt PC 0] (.sl 1 (dInts (depN ND ND.length)) none):=
 A7 (nD hP) hP.ok hP.nl hP.Vv fun _ _ _ _=>ax
theorem pw {S:Sch} (hF:uD S) {i:Nat} {n:Nd} (h:(aF S)[i]? = some n) {e:Ed} (he:e∈n.aW) (hb:e.bare=true):e.ck=0:=by
 have Vs:=(oP hF h).bare e he hb;rw [jk] at h;obtain ⟨t,ht,u,hu,rfl,mF⟩:=sv h;have DC:=ss t ⟨_,_,hF.wr t ht⟩ u hu;have hT:=AO DC;obtain ⟨uh,us⟩:=u;simp only [Ty.h,Ty.ps] at hT;obtain ⟨p,v,k',h1,rfl,_⟩:=ny he;obtain ⟨j,hj⟩:=List.mem_iff_getElem?.1 h1;obtain ⟨_,hP⟩:=(hT.many (.inr Vs)).2.2 j p v hj;rcases hP with ⟨_,_,_,mj⟩ | ⟨ef,_⟩
 ·exact (lj mj).2.2.1
 ·have:p.bare=true:=hb;rw [ef] at this;cases this
def nE (ck:Int):Int:=if ck=3 then 5 else if ck=2 then 3 else 2
abbrev RJ (W:List DV) (e:Nat):St:=⟨[aE 1 0,aE 2 1,al 3 e],[W,[.v (.int .i64 0),.v (.int .i64 0)]],[]⟩
abbrev Nf (W:List DV) (es:List Ed) (e k:Nat):St:=⟨[aE 1 0,aE 2 1,al 3 e,aT 4 10 (iw es),al 5 k],[W,[.v (.int .i64 0),.v (.int .i64 0)]],[]⟩
abbrev RL (S:Sch) (a b:Int) (W:List DV) (D:List Nat) (e:Nat):St:=
 ⟨[aE 1 0,aE 3 1,aE 5 3,aT 6 1 (dInts D),al 7 e],[cC S,[.v (.int .i64 0),.v (.int .i64 0)],[.v (.int .i64 a),.v (.int .i64 b)],W],[]⟩
def chkA:List Nat->List Nd->Ft
 | k :: r,n :: s=>if k=0 then (11,n.cV) else chkA r s
 | _,_=>(0,0)
theorem uS {D:List Nat} {ND:List Nd} {e k:Nat} {n:Nd} (h1:D[e]? = some k) (h2:ND[e]? = some n):chkA (D.drop e) (ND.drop e)=if k=0 then (11,n.cV) else chkA (D.drop (e + 1)) (ND.drop (e + 1)):=by
 rw [drop_cons h1,drop_cons h2,chkA]
theorem yS (D:List Nat) (ND:List Nd) {e:Nat} (h:D.length<=e):chkA (D.drop e) (ND.drop e)=(0,0):=by
 rw [List.drop_of_length_le h];simp [chkA]
abbrev Ng (D:List Nat) (ND:List Nd) (e:Nat):St:=
 ⟨[aT 3 7 (bG ND),aE 2 0,aT 12 1 (dInts D),al 13 D.length,al 14 e],[[.v (.int .i64 0),.v (.int .i64 0)]],[]⟩
theorem wh {S:Sch} {ND:List Nd} {PC:List DV} (hP:j1 S ND PC):aV prog 40 [.pt PC 0] (chkA (depN ND ND.length) ND).d:=by
 have h0:=nD hP;have h1:=yR hP;have hl:=depN_len ND ND.length;have fh:=hP.nl;generalize depN ND ND.length=D at h1 hl ⊢;have gz:=dz ND;have Ea:=aZ D;refine eG 29 [.cell 2 26] func40 rfl ntmps40 rfl fun _ _ _ _=>?_;refine cP J6 h0 ?_;refine cP OT h1 ?_;refine lI (fun j st=>∃ e:Nat,st=Ng D ND e/\e<=ND.length/\chkA D ND=chkA (D.drop e) (ND.drop e)/\j=ND.length - e) ⟨0,rfl,by omega,rfl,rfl⟩ (bl (c8 Ea)) ?_;rintro j st ⟨e,rfl,he,aD,rfl⟩;refine br ?_ ?_<;>intro hL
 ·have aq:e < ND.length:=by have:=hL;simp [hl] at this;exact this
  obtain ⟨n,hn⟩:=gX aq;obtain ⟨k,hk⟩:∃ k,D[e]? = some k:=⟨_,gE (by omega)⟩;rw [uS hk hn] at aD;refine iX (bX hk) ?_;refine br ?_ ?_<;>intro g
  ·have g:k=0:=sU g;rw [zIfP g] at aD;refine iX (gf hn) ?_;rw [aD];exact ⟨_,ax,rfl⟩
  ·have g:¬ k=0:=sU g;rw [ah g] at aD;exact rE ⟨_,by omega,e + 1,rfl,by omega,aD,rfl⟩ (bl (c8 (aS aq (by omega))))
 ·have hge:e=ND.length:=sW hl hL;rw [aD,yS D ND (by omega)];exact ⟨_,ax,rfl⟩
def effE (f:Nat->Nat->Bool) (ND:List Nd) (e:Ed):Ft:=
 if e.ck=0 then (0,0) else match ND[e.to.toNat]? with | none=>(14,e.ca) | some m=>if m.ai=nE e.ck then (if (f e.seen.toNat e.label.toNat && !f e.label.toNat e.seen.toNat)=true then (0,0) else (18,e.ca)) else (14,e.ca)
def effEs (f:Nat->Nat->Bool) (ND:List Nd):List Ed->Ft
 | []=>(0,0)
 | e :: r=>if (effE f ND e).1=0 then effEs f ND r else effE f ND e
def effN (f:Nat->Nat->Bool) (ND:List Nd):List Nd->Ft
 | []=>(0,0)
 | n :: r=>if (effEs f ND n.aW).1=0 then effN f ND r else effEs f ND n.aW
def j8 (f:Nat->Nat->Bool) (ND:List Nd):Ft:=effN f ND ND
theorem uT {f:Nat->Nat->Bool} {ND:List Nd}:∀ {l:List Nd},(effN f ND l).1=0->effN f ND l=(0,0)
 | [],_=>rfl
 | n :: r,h=>by
  rw [effN] at h ⊢;split
  ·rename_i h1;rw [zIfP h1] at h;exact uT h
  ·rename_i h1;rw [ah h1] at h;exact absurd h h1
theorem sY (lv:List Wd) (f:Nat->Nat->Bool) (ND:List Nd) (z:Int) (hn:lv.length<=32) (ei:∀ n∈ND,yB lv.length ND.length n) (fh:ND.length<=1099511627776) (cQ:∀ n∈ND,n.aW.length<=1099511627776) (NR:∀ n∈ND,∀ e∈n.aW,e.bare=true->e.ck=0) :
  aV prog 44 [.agg (wL lv f ND z)] (j8 f ND).d:=by
 have zA:=dz ND;refine eG 79 [.cell 2 26] func44 rfl ntmps44 rfl fun _ _ _ _=>?_;refine lI (fun j st=>∃ e:Nat,st=RJ (wL lv f ND z) e/\e<=ND.length/\j8 f ND=effN f ND (ND.drop e)/\j=ND.length - e) ⟨0,rfl,by omega,rfl,rfl⟩ (bl wB) ?_;rintro j st ⟨e,rfl,he,hno,rfl⟩;refine br ?_ ?_<;>intro hL
 ·have aq:e < ND.length:=sV zA hL;obtain ⟨d,hd⟩:=gX aq;have hm:=mG hd;have hN:=ei d hm;have wo:=cQ d hm;have gz:=cM d.aW;have Vw:=NR d hm;rw [drop_cons hd,effN] at hno;refine iX (gf hd) ?_;refine lI (fun j st=>∃ k:Nat,st=Nf (wL lv f ND z) d.aW e k/\k<=d.aW.length/\effEs f ND d.aW=effEs f ND (d.aW.drop k)/\j=d.aW.length - k) ⟨0,rfl,by omega,rfl,rfl⟩ (bl wB) ?_;rintro j st ⟨k,rfl,hk,np,rfl⟩;refine br ?_ ?_<;>intro j6
  ·have eB:k < d.aW.length:=sV gz j6;obtain ⟨x,hx⟩:∃ x,d.aW[k]? = some x:=⟨_,gE eB⟩;have Nh:=mG hx;obtain ⟨oD,⟨h2,G8⟩,h3,JP⟩:=uI hN Nh;have kS:=Vw x Nh;have Vx:=(hN.Ab x Nh).ck;rw [drop_cons hx,effEs] at np;have hE:effE f ND x=if x.ck=0 then ((0,0):Ft) else match ND[x.to.toNat]? with | none=>((14,x.ca):Ft) | some m=>if m.ai=nE x.ck then (if (f x.seen.toNat x.label.toNat && !f x.label.toNat x.seen.toNat)=true then ((0,0):Ft) else (18,x.ca)) else (14,x.ca):=rfl
   generalize effE f ND x=EX at hE np;have yT:∀ y:Ft,y.1≠0->EX=y->j8 f ND=y:=fun y hy h=>by rw [hno,np,h,ah hy,ah hy]
   have yU:EX.1=0->effEs f ND d.aW=effEs f ND (d.aW.drop (k + 1)):=fun h=>by rw [np,zIfP h]
   generalize j8 f ND=FF at yT ⊢;obtain ⟨en,eb,ea,et,Vy,ew,A8,ecn,Vz,VA⟩:=x;simp only at h2 G8 h3 JP oD kS Vx hE;obtain ⟨lb,rfl⟩:∃ n:Nat,Vy=n:=⟨_,h2⟩;obtain ⟨sn,rfl⟩:∃ n:Nat,Vz=n:=⟨_,h3⟩;simp only [sE] at G8 JP hE;refine iX (gh hx) ?_;refine br ?_ ?_<;>intro g
   ·have g:A8=0:=sU g;exact rE ⟨_,by omega,k + 1,rfl,by omega,yU (by rw [hE,zIfP g]),rfl⟩ (ep 2 (u7 (aS eB (by omega))) (c8 (aS eB (by omega))))
   have gg:¬ A8=0:=sU g
   obtain ⟨h1,oX⟩:=oD (by
    cases hb:eb
    ·rfl
    ·exact absurd (kS hb) gg)
   obtain ⟨tn,rfl⟩:∃ n:Nat,et=n:=⟨_,h1⟩;simp only [sE] at oX hE;obtain ⟨m,RM⟩:∃ m,ND[tn]? = some m:=⟨_,gE oX⟩;rw [ah gg] at hE;simp only [RM] at hE;have h3c:(A8=1/\nE A8=2)∨(A8=2/\nE A8=3)∨(A8=3/\nE A8=5):=by unfold nE;omega
   rcases h3c with ⟨rfl,Ip⟩ | ⟨rfl,Ip⟩ | ⟨rfl,Ip⟩
   all_goals
    rw [Ip] at hE;refine ⟨_,⟨wF _,gf RM⟩,?_⟩;refine br ?_ ?_<;>intro c1
    ·simp at c1;rw [ah c1] at hE;rw [yT _ (by simp) hE];exact ⟨_,ax,rfl⟩
    simp at c1;rw [zIfP c1] at hE;refine dI ?_;refine ⟨_,⟨wF _,dA JP⟩,?_⟩;refine ⟨_,⟨wF _,cJ G8⟩,?_⟩;refine br ?_ ?_<;>intro c2
    ·refine ⟨_,⟨wF _,dA G8⟩,?_⟩;refine ⟨_,⟨wF _,cJ JP⟩,?_⟩;refine br ?_ ?_<;>intro c3
     ·have c2:f sn lb=true:=sU c2;have c3:f lb sn=true:=by simpa [pickB] using c3
      rw [yT (18,VA) (by simp) (by rw [hE,ah (by rw [c2,c3];simp)])];exact ⟨_,ax,rfl⟩
     ·have c2:f sn lb=true:=sU c2;have c3:f lb sn=false:=by simpa [pickB] using c3
      have hx:=yU (by rw [hE,zIfP (by rw [c2,c3];rfl)]);exact rE ⟨_,by omega,k + 1,rfl,by omega,hx,rfl⟩ (ep 2 (u7 (aS eB (by omega))) (c8 (aS eB (by omega))))
    ·have c2:f sn lb=false:=sU c2;rw [yT (18,VA) (by simp) (by rw [hE,ah (by rw [c2];simp)])];exact ⟨_,ax,rfl⟩
  ·have hge:k=d.aW.length:=sW gz j6;subst hge;exact rE ⟨_,by omega,e + 1,rfl,by omega,by rw [hno,np,List.drop_length,effEs,zIfP rfl],rfl⟩ (bl (c8 (aS aq (by omega))))
 ·have hge:e=ND.length:=sW zA hL;subst hge;rw [hno,List.drop_length,effN];exact ⟨_,ax,rfl⟩
def Co (S:Sch):Int × Ft:=
 if (fc S).1=0 then (if (chkA (depN (aF S) (aF S).length) (aF S)).1=0 then (if (j8 (jU S) (aF S)).1=0 then (0,(0,0)) else (4,j8 (jU S) (aF S))) else (3,chkA (depN (aF S) (aF S).length) (aF S))) else (2,fc S)
theorem sZ (S:Sch) (hS:S.wt<=1099511627776):aV prog 16 [.agg (cC S)] (.bW [.v (.int .i64 (Co S).1),(Co S).2.d]):=by
 have DC:=vV S hS;have hw:=fun h=>nv S hS h;have hst:Co S=if (fc S).1=0 then (if (chkA (depN (aF S) (aF S).length) (aF S)).1=0 then (if (j8 (jU S) (aF S)).1=0 then (0,(0,0)) else (4,j8 (jU S) (aF S))) else (3,chkA (depN (aF S) (aF S).length) (aF S))) else (2,fc S):=rfl
 generalize Co S=ST at hst ⊢;generalize hR:fc S=R at DC hst;obtain ⟨ae,order,types,⟨rh,rp⟩⟩:=S;refine eG 44 [.tmp 2,.cell 3 26] func16 rfl ntmps16 rfl fun _ _ _ _=>?_;refine cP Tw DC ?_;refine br ?_ ?_<;>intro g
 ·have g:¬ R.1=0:=sU g;rw [ah g] at hst;rw [hst];refine dS ?_;exact ⟨_,ax,rfl⟩
 have g:R.1=0:=sU g;rw [zIfP g] at hst;have h0:(fc ⟨ae,order,types,.mk rh rp⟩).1=0:=by rw [hR];exact g
 have hF:=sr h0;have hw:=hw h0;obtain ⟨Rr,Jp⟩:=jg hF.lat;have ei:=fun n (hn:n∈aF ⟨ae,order,types,.mk rh rp⟩)=>(List.mem_iff_getElem?.1 hn).elim fun i hi=>oP hF hi;have fh:(aF ⟨ae,order,types,.mk rh rp⟩).length<=1099511627776:=by rw [mc];exact Nat.le_trans (AM _) hS
 have cQ:=fun n (hn:n∈aF ⟨ae,order,types,.mk rh rp⟩)=>(oQ hn hS).2;have NR:=fun n (hn:n∈aF ⟨ae,order,types,.mk rh rp⟩)=>(List.mem_iff_getElem?.1 hn).elim fun i hi e he hb=>pw hF hi (e:=e) he hb;have SJ:=fun A B=>sX 2 1 A B (gI ⟨ae,order,types,.mk rh rp⟩) ei fh cQ;have h20:=sY ae (jU ⟨ae,order,types,.mk rh rp⟩) (aF ⟨ae,order,types,.mk rh rp⟩) (gI ⟨ae,order,types,.mk rh rp⟩) Jp ei fh cQ NR;have FO:=depN_len (aF ⟨ae,order,types,.mk rh rp⟩) (aF ⟨ae,order,types,.mk rh rp⟩).length;generalize depN (aF ⟨ae,order,types,.mk rh rp⟩) (aF ⟨ae,order,types,.mk rh rp⟩).length=D at SJ hst FO;unfold jU at h20 hst;generalize dt (Sch.mk ae order types (.mk rh rp)).ae.length (cr (ap (Sch.mk ae order types (.mk rh rp)).ae) (Sch.mk ae order types (.mk rh rp)).order)=f at hw h20 hst;generalize aF ⟨ae,order,types,.mk rh rp⟩=ND at hw SJ h20 hst FO fh cQ NR ei;generalize gI ⟨ae,order,types,.mk rh rp⟩=rt at hw SJ h20;have Ea:=aZ D;obtain ⟨R1,R2⟩:=R;simp only at g;subst g;generalize j8 f ND=EF at h20 hst;refine cP OL hw ?_;refine cP Tx (SJ _ _) ?_;refine lI (fun j st=>∃ e:Nat,st=RL ⟨ae,order,types,.mk rh rp⟩ 0 R2 (wL ae f ND rt) D e/\e<=D.length/\chkA D ND=chkA (D.drop e) (ND.drop e)/\j=D.length - e) ⟨0,rfl,by omega,rfl,rfl⟩ (bl wB) ?_;rintro j st ⟨e,rfl,he,hno,rfl⟩;refine br ?_ ?_<;>intro hL
 ·have aq:e < D.length:=sV Ea hL;obtain ⟨x,hx⟩:=gX aq;obtain ⟨d,hd⟩:∃ d,ND[e]? = some d:=⟨_,gE (by omega)⟩;rw [uS hx hd] at hno;refine iX (bX hx) ?_;refine br ?_ ?_<;>intro c
  ·have c:x=0:=sU c;rw [zIfP c] at hno;rw [hno,ah (by simp)] at hst;rw [hst];refine dS ?_;refine iX (gf hd) ?_;exact ⟨_,ax,rfl⟩
  ·have c:¬ x=0:=sU c;rw [ah c] at hno;exact rE ⟨_,by omega,e + 1,rfl,by omega,hno,rfl⟩ (ep 4 (u7 (aS aq (by omega))) (c8 (aS aq (by omega))))
 ·have hge:e=D.length:=sW Ea hL;subst hge;rw [yS D ND (zLeR _)] at hno;rw [hno,zIfP rfl] at hst;refine cP en44 h20 ?_;refine br ?_ ?_<;>intro c
  ·have c:¬ EF.1=0:=sU c;rw [ah c] at hst;rw [hst];refine dS ?_;exact ⟨_,ax,rfl⟩
  ·have c:EF.1=0:=sU c;rw [zIfP c] at hst;rw [hst];exact ⟨_,ax,rfl⟩
theorem asks_1:aV prog 102 [.v (.int .i64 1)] (.v (.int .i64 2)):=by
 refine eG 8 [.tmp 2] func102 rfl ntmps102 rfl fun _ _ _ _=>?_;exact (rfl:_=_)
theorem asks_2:aV prog 102 [.v (.int .i64 2)] (.v (.int .i64 3)):=by
 refine eG 8 [.tmp 2] func102 rfl ntmps102 rfl fun _ _ _ _=>?_;exact (rfl:_=_)
theorem asks_3:aV prog 102 [.v (.int .i64 3)] (.v (.int .i64 5)):=by
 refine eG 8 [.tmp 2] func102 rfl ntmps102 rfl fun _ _ _ _=>?_;exact (rfl:_=_)
theorem D8 {ck:Int} (h:ck=1∨ck=2∨ck=3):aV prog 102 [.v (.int .i64 ck)] (.v (.int .i64 (nE ck))):=by
 rcases h with rfl | rfl | rfl
 ·exact asks_1
 ·exact asks_2
 ·exact asks_3
theorem A9 {LC:List DV} (a b:Nat) (B:Bool) (hl:aV prog 186 [.pt LC 0,.v (.int .i64 a),.v (.int .i64 b)] (.v (.bool B))) :
  aV prog 103 [.pt LC 0,.v (.int .i64 a),.v (.int .i64 b)] (.v (.bool (decide (¬ a=b) && B))):=by
 by_cases CL:a=b
 ·subst CL;refine eG 16 [.tmp 6] func103 rfl ntmps103 rfl fun _ _ _ _=>?_;refine br (fun g=>absurd g (by simp)) (fun _=>?_);refine (cg ?_:);simp [pickB]
 ·refine eG 16 [.tmp 6] func103 rfl ntmps103 rfl fun _ _ _ _=>?_;refine br (fun _=>?_) (fun g=>absurd (Int.ofNat.inj (show (a:Int)=b by simpa using g)) CL);refine cP Pc hl ?_;refine (cg ?_:);simp [pickB,CL]
theorem Ni {f:Nat->Nat->Bool} {n:Nat} (hL:il f n) {a b:Nat} (ha:a < n) (hb:b < n):(decide (¬ a=b) && f a b)=(f a b && !f b a):=by
 by_cases CL:a=b
 ·subst CL;rw [hL.rfl' a ha];simp
 ·rw [decide_eq_true CL,Bool.true_and]
  cases h1:f a b with
  | false=>rfl
  | true=>
   cases h2:f b a with
   | false=>rfl
   | true=>exact absurd (hL.Ak a b ha hb h1 h2) CL
abbrev VB (PC:List DV) (n e:Nat):St:=⟨[nZ 0 PC,aE 2 0,al 14 n,al 15 e],[[.v (.int .i64 0),.v (.int .i64 0)]],[]⟩
abbrev VC (PC:List DV) (n:Nat) (es:List Ed) (e k:Nat):St:=⟨[nZ 0 PC,aE 2 0,al 14 n,al 15 e,aT 25 10 (iw es),al 26 es.length,al 27 k],[[.v (.int .i64 0),.v (.int .i64 0)]],[]⟩
theorem effcheck_spec {S:Sch} {ND:List Nd} {PC LC:List DV} (hP:j1 S ND PC) (DN:aV prog 45 [.pt PC 0] (.pt LC 0)) (hR:Rw S.ae.length (jU S) (ap S.ae) LC) (cQ:∀ n∈ND,n.aW.length<=1099511627776) :
  aV prog 41 [.pt PC 0] (j8 (jU S) ND).d:=by
 have hlen:=hP.len;have jf:=hP.ag;have ei:=hP.ok;have fh:=hP.nl;have hL:=hR.ok;have AN:=fun (a b:Nat) (ha:a < S.ae.length) (hb:b < S.ae.length)=>A9 a b _ ((Hn (f:=jU S) ha hb) ▸ hR.leq a b);have EY:=fun (a b:Nat) (ha:a < S.ae.length) (hb:b < S.ae.length)=>Ni hL ha hb;have NR:=fun n (hn:n∈ND) e (he:e∈n.aW) (hb:e.bare=true)=>(List.mem_iff_getElem?.1 hn).elim fun i hi=>pw hP.fine (hP.ur ▸ hi) (e:=e) he hb;generalize jU S=f at AN EY ⊢;have zA:=dz ND;refine eG 66 [.cell 2 26] func41 rfl ntmps41 rfl fun _ _ _ _=>?_;refine cP Fk hlen ?_;refine lI (fun j st=>∃ e:Nat,st=VB PC ND.length e/\e<=ND.length/\j8 f ND=effN f ND (ND.drop e)/\j=ND.length - e) ⟨0,rfl,by omega,rfl,rfl⟩ (bl wB) ?_;rintro j st ⟨e,rfl,he,hno,rfl⟩;refine br ?_ ?_<;>intro hL
 ·have aq:e < ND.length:=sU hL;obtain ⟨d,hd⟩:=gX aq;have hm:=mG hd;have hN:=ei d hm;have wo:=cQ d hm;have gz:=cM d.aW;have Vw:=NR d hm;have hnd:=jf e d hd;rw [drop_cons hd,effN] at hno;refine cP ID hnd ?_;refine lI (fun j st=>∃ k:Nat,st=VC PC ND.length d.aW e k/\k<=d.aW.length/\effEs f ND d.aW=effEs f ND (d.aW.drop k)/\j=d.aW.length - k) ⟨0,rfl,by omega,rfl,rfl⟩ (ep 1 (u7 gz) (c8 gz)) ?_;rintro j st ⟨k,rfl,hk,np,rfl⟩;refine br ?_ ?_<;>intro j6
  ·have eB:k < d.aW.length:=sU j6;obtain ⟨x,hx⟩:∃ x,d.aW[k]? = some x:=⟨_,gE eB⟩;have Nh:=mG hx;obtain ⟨oD,⟨h2,G8⟩,h3,JP⟩:=uI hN Nh;have kS:=Vw x Nh;have Vx:=(hN.Ab x Nh).ck;rw [drop_cons hx,effEs] at np;have hE:effE f ND x=if x.ck=0 then ((0,0):Ft) else match ND[x.to.toNat]? with | none=>((14,x.ca):Ft) | some m=>if m.ai=nE x.ck then (if (f x.seen.toNat x.label.toNat && !f x.label.toNat x.seen.toNat)=true then ((0,0):Ft) else (18,x.ca)) else (14,x.ca):=rfl
   generalize effE f ND x=EX at hE np;have yT:∀ y:Ft,y.1≠0->EX=y->j8 f ND=y:=fun y hy h=>by rw [hno,np,h,ah hy,ah hy]
   have yU:EX.1=0->effEs f ND d.aW=effEs f ND (d.aW.drop (k + 1)):=fun h=>by rw [np,zIfP h]
   generalize j8 f ND=FF at yT ⊢;obtain ⟨en,eb,ea,et,Vy,ew,A8,ecn,Vz,VA⟩:=x;simp only at h2 G8 h3 JP oD kS Vx hE;obtain ⟨lb,rfl⟩:∃ n:Nat,Vy=n:=⟨_,h2⟩;obtain ⟨sn,rfl⟩:∃ n:Nat,Vz=n:=⟨_,h3⟩;simp only [sE] at G8 JP hE;refine iX (gh hx) ?_;refine br ?_ ?_<;>intro g
   ·have g:A8=0:=sU g;exact rE ⟨_,by omega,k + 1,rfl,by omega,yU (by rw [hE,zIfP g]),rfl⟩ (ep 1 (u7 (aS eB (by omega))) (c8 (aS eB (by omega))))
   have gg:¬ A8=0:=sU g
   obtain ⟨h1,oX⟩:=oD (by
    cases hb:eb
    ·rfl
    ·exact absurd (kS hb) gg)
   obtain ⟨tn,rfl⟩:∃ n:Nat,et=n:=⟨_,h1⟩;simp only [sE] at oX hE;obtain ⟨m,RM⟩:∃ m,ND[tn]? = some m:=⟨_,gE oX⟩;rw [ah gg] at hE;simp only [RM] at hE;have Nc:=jf tn m RM;have has:=D8 (show A8=1∨A8=2∨A8=3 by omega);generalize nE A8=wk at has hE;have hbl:=AN sn lb JP G8;rw [EY sn lb JP G8] at hbl;generalize hB:(f sn lb && !f lb sn)=B at hbl;obtain ⟨mk,ma,mlo,mhi,mmo,mnm,mes⟩:=m;simp only at hE;refine cP ID Nc ?_;refine dI ?_;refine cD OU has ?_;refine br ?_ ?_<;>intro c1
   ·have c1:¬ mk=wk:=sU c1;rw [ah c1] at hE;rw [yT _ (by simp) hE];exact ⟨_,ax,rfl⟩
   have c1:mk=wk:=sU c1;rw [zIfP c1] at hE;refine dI ?_;refine cD Tz DN ?_;refine cD OV hbl ?_;refine br ?_ ?_<;>intro c2
   ·have c2:B=false:=sU c2;rw [ah (by rw [hB,c2];simp)] at hE;rw [yT _ (by simp) hE];exact ⟨_,ax,rfl⟩
   ·have c2:B=true:=sU c2;rw [zIfP (by rw [hB,c2])] at hE;exact rE ⟨_,by omega,k + 1,rfl,by omega,yU (by rw [hE]),rfl⟩ (ep 1 (u7 (aS eB (by omega))) (c8 (aS eB (by omega))))
  ·have hge:k=d.aW.length:=by have:=j6;simp at this;omega
   subst hge;exact rE ⟨_,by omega,e + 1,rfl,by omega,by rw [hno,np,List.drop_length,effEs,zIfP rfl],rfl⟩ (ep 1 (u7 (aS aq (by omega))) (c8 (aS aq (by omega))))
 ·have hge:e=ND.length:=by have:=hL;simp at this;omega
  subst hge;rw [hno,List.drop_length,effN];exact ⟨_,ax,rfl⟩
def VD (S:Sch) (r:DV):Prop:=∃ p:DV,r = .bW [p,.v (.int .i64 (Co S).1),(Co S).2.d]/\(((Co S).1≠0/\p = .v (.pointer none))∨((Co S).1=0/\∃ PC,j1 S (aF S) PC/\p = .pt PC 0))
theorem kO (S:Sch) (hS:S.wt<=1099511627776):Ev prog 15 [.agg (cC S)] [] [] (fun r _ _=>VD S r):=by
 have hb:=(As S hS).mono (Ψ:=fun r _ _=>Hl S r) fun _ _ _ h=>DS hS h;have hst:Co S=if (fc S).1=0 then (if (chkA (depN (aF S) (aF S).length) (aF S)).1=0 then (if (j8 (jU S) (aF S)).1=0 then (0,(0,0)) else (4,j8 (jU S) (aF S))) else (3,chkA (depN (aF S) (aF S).length) (aF S))) else (2,fc S):=rfl
 unfold VD;generalize Co S=ST at hst ⊢;obtain ⟨ae,order,types,⟨rh,rp⟩⟩:=S;refine eG 30 [.tmp 2,.tmp 3,.cell 4 26] func15 rfl ntmps15 rfl fun _ _ _ _=>?_;refine gp Tt rfl hb ax (fun r hr=>?_);rcases hr with ⟨h0,rfl⟩ | ⟨h0,PC,hP,rfl⟩
 ·rw [ah h0] at hst;rw [hst];generalize fc ⟨ae,order,types,.mk rh rp⟩=R at h0 ⊢;refine br (fun _=>?_) (fun g=>absurd (show R.1=0 by simpa using g) h0);refine dS ?_;exact ⟨.bW [.v (.pointer none),.v (.int .i64 2),Ft.d R],ax,_,rfl,.inl ⟨by simp,rfl⟩⟩
 ·rw [zIfP h0] at hst;obtain ⟨LC,DN,hR⟩:=hP.Vj;have h1:=wh hP;have h2:=effcheck_spec hP DN hR hP.Vv;generalize chkA (depN (aF ⟨ae,order,types,.mk rh rp⟩) (aF ⟨ae,order,types,.mk rh rp⟩).length) (aF ⟨ae,order,types,.mk rh rp⟩)=R1 at h1 hst;have hz:(j8 (jU ⟨ae,order,types,.mk rh rp⟩) (aF ⟨ae,order,types,.mk rh rp⟩)).1=0->j8 (jU ⟨ae,order,types,.mk rh rp⟩) (aF ⟨ae,order,types,.mk rh rp⟩)=(0,0):=uT;generalize j8 (jU ⟨ae,order,types,.mk rh rp⟩) (aF ⟨ae,order,types,.mk rh rp⟩)=R2 at h2 hst hz;refine cP Tu h1 ?_;refine br ?_ ?_<;>intro g
  ·have g:¬ R1.1=0:=sU g;rw [ah g] at hst;rw [hst];refine dS ?_;exact ⟨.bW [.v (.pointer none),.v (.int .i64 3),Ft.d R1],ax,_,rfl,.inl ⟨by simp,rfl⟩⟩
  have g:R1.1=0:=sU g;rw [zIfP g] at hst;refine cP Tv h2 ?_;refine br ?_ ?_<;>intro g
  ·have g:¬ R2.1=0:=sU g;rw [ah g] at hst;rw [hst];refine dS ?_;exact ⟨.bW [.v (.pointer none),.v (.int .i64 4),Ft.d R2],ax,_,rfl,.inl ⟨by simp,rfl⟩⟩
  have g:R2.1=0:=sU g;rw [zIfP g] at hst;rw [hst,hz g];refine dS ?_;exact ⟨.bW [.pt PC 0,.v (.int .i64 0),Ft.d (0,0)],ax,_,rfl,.inr ⟨rfl,PC,hP,rfl⟩⟩
abbrev tA:ByteArray:=⟨#[114,111,111,116,40,49,41]⟩
abbrev tB:ByteArray:=⟨#[108,101,118,101,108,115,32,123,97,125,32,114,111,111,116,32,98,111,111,108]⟩
abbrev RN:ByteArray:=⟨#[40]⟩
abbrev RO:ByteArray:=⟨#[41]⟩
abbrev VE:ByteArray:=⟨#[97]⟩
def lA:List og:=[⟨1,0,4,uM,0⟩,⟨4,4,5,RN,0⟩,⟨2,5,6,aJ,1⟩,⟨4,6,7,RO,0⟩]
def lB:List og:=[⟨1,0,6,ez,0⟩,⟨4,7,8,nA,0⟩,⟨1,8,9,VE,0⟩,⟨4,9,10,kK,0⟩,⟨1,11,15,uM,0⟩,⟨1,16,20,Ck,0⟩]
theorem yV {s:ByteArray} (hs:s.size<=1099511627776) {i e:Nat} (hi:i < s.size) (he:i + cj (s.data.toList.drop i)=e) (hn:i < e) {M:ByteArray} (hM:s.extract i e=M) (hr:aY M=true) :
  aV prog 244 [.v (.string s),.v (.int .i64 i)] (HD ⟨1,i,e,M,0⟩):=by
 subst hM;exact A1 s hs i hi e he hn hr
theorem Nj:aV prog 291 [.v (.string tA),.v (.int .i64 (5:Nat))] (.bW [.v (.int .i64 1),.v (.int .i64 (6:Nat)),Ft.d (0,0)]):=by
 have h:=Hp tA (by decide) 5 (by decide) 49 (by decide +kernel) (by decide) (fun h=>absurd h (by decide)) (by decide +kernel);rw [show eI ((tA.data.toList.drop 5).take (digN (tA.data.toList.drop 5)))=1 by decide +kernel,show 5 + digN (tA.data.toList.drop 5)=6 by decide +kernel] at h;exact h
theorem Nk:jW tA 0 lA:=
 .tok (e:=4) (by decide) (by decide +kernel) (by decide +kernel) (yV (by decide) (by decide) (by decide +kernel) (by decide) (by decide +kernel) (by decide +kernel)) rfl (by decide) (by decide)
 (.tok (e:=5) (by decide) (by decide +kernel) (by decide +kernel) (jV tA (by decide) 4 (by decide) (by decide +kernel) RN (by decide +kernel) (by decide) (by decide)) rfl (by decide) (by decide)
 (.tok (e:=6) (by decide) (by decide +kernel) (by decide +kernel) (D4 tA (by decide) 5 (by decide) (by decide +kernel) (by decide +kernel) (by decide +kernel) 1 6 Nj) rfl (by decide) (by decide)
 (.tok (e:=7) (by decide) (by decide +kernel) (by decide +kernel) (jV tA (by decide) 6 (by decide) (by decide +kernel) RO (by decide +kernel) (by decide) (by decide)) rfl (by decide) (by decide) .nil)))
theorem Nl:jW tB 0 lB:=
 .tok (e:=6) (by decide) (by decide +kernel) (by decide +kernel) (yV (by decide) (by decide) (by decide +kernel) (by decide) (by decide +kernel) (by decide +kernel)) rfl (by decide) (by decide)
 (.blank (by decide) (by decide +kernel)
 (.tok (e:=8) (by decide) (by decide +kernel) (by decide +kernel) (jV tB (by decide) 7 (by decide) (by decide +kernel) nA (by decide +kernel) (by decide) (by decide)) rfl (by decide) (by decide)
 (.tok (e:=9) (by decide) (by decide +kernel) (by decide +kernel) (yV (by decide) (by decide) (by decide +kernel) (by decide) (by decide +kernel) (by decide +kernel)) rfl (by decide) (by decide)
 (.tok (e:=10) (by decide) (by decide +kernel) (by decide +kernel) (jV tB (by decide) 9 (by decide) (by decide +kernel) kK (by decide +kernel) (by decide) (by decide)) rfl (by decide) (by decide)
 (.blank (by decide) (by decide +kernel)
 (.tok (e:=15) (by decide) (by decide +kernel) (by decide +kernel) (yV (by decide) (by decide) (by decide +kernel) (by decide) (by decide +kernel) (by decide +kernel)) rfl (by decide) (by decide)
 (.blank (by decide) (by decide +kernel)
 (.tok (e:=20) (by decide) (by decide +kernel) (by decide +kernel) (yV (by decide) (by decide) (by decide +kernel) (by decide) (by decide +kernel) (by decide +kernel)) rfl (by decide) (by decide) .nil))))))))
abbrev RP:aU:=AS (lA ++ [j4 7])
abbrev VF:aU:=AS (lB ++ [j4 20])
theorem HM:aR RP:=uP lA 7 (by decide)
theorem Ba:aR VF:=uP lB 20 (by decide)
abbrev H3:aU:=⟨lA ++ [j4 7],0,0,4,0⟩
theorem HN:aR H3:=⟨HM.lt,HM.nx,HM.len,HM.dl⟩
theorem HO:Ev prog 86 [wE] [bh RP] [] (mf (.agg (cC ⟨[],[],[],Cl 0 0⟩)) H3):=by
 have hk:RP.kw ez=H3:=rfl;have hn:(RP.kw ez).gH nA=H3:=by rw [hk];exact yE (by decide) _
 refine sy RP HM 5 (by rw [hk];decide) H3 [] HN (by rw [hn];rfl) (v7 (by decide) (by decide) _) (v7 (by decide) (by decide) _) 0 0 H3 ?_;rw [M6 (by decide)];exact Hz H3 HN (by decide) (by decide)
theorem JQ:aV prog 35 [.v (.string tA)] (.bW [.agg (cC Na),Ft.d (4,0)]):=
 uO tA _ (uQ tA (by decide) lA Nk) _ H3 H3 (4,0) HO (JK H3 HN (by decide))
abbrev VG:aU:=⟨lB ++ [j4 20],4,0,0,0⟩
abbrev VH:aU:=⟨lB ++ [j4 20],5,0,0,0⟩
abbrev NS:aU:=⟨lB ++ [j4 20],6,0,0,0⟩
theorem RQ:aR VG:=⟨by decide,Ba.nx,Ba.len,by decide⟩
theorem RR:aR VH:=⟨by decide,Ba.nx,Ba.len,by decide⟩
theorem RS:aR NS:=⟨by decide,Ba.nx,Ba.len,by decide⟩
abbrev sB:Sch:=⟨[⟨VE,8⟩],[],[],Cl 1 16⟩
theorem HP:Ev prog 86 [wE] [bh VF] [] (mf (.agg (cC sB)) NS):=by
 refine sy VF Ba 6 (by decide +kernel) VG [⟨VE,8⟩] RQ (by rfl) (by decide +kernel) (by decide +kernel) 1 16 NS ?_;rw [show VG.kw uM=VH from rfl];exact DZ VH RR 16 20 0 rfl (by decide)
theorem JR:aV prog 35 [.v (.string tB)] (.bW [.agg (cC sB),Ft.d (0,0)]):=
 uO tB _ (uQ tB (by decide) lB Nl) _ NS NS (0,0) HP (M9 NS RS rfl rfl)
theorem Nn:aV prog 11 [.v (.string tA)] (.bW [.v (.pointer none),.v (.int .i64 1),Ft.d (4,0)]):=by
 have hp:=JQ;refine eG 21 [.tmp 2,.tmp 3,.cell 4 26] func11 rfl ntmps11 rfl fun _ _ _ _=>?_;refine cP OM hp ?_;refine dS ?_;exact ⟨_,ax,rfl⟩
theorem VI:Co sB=(0,0,0):=by decide +kernel
theorem Np:Ev prog 11 [.v (.string tB)] [] [] (fun r _ _=>∃ PC,r = .bW [.pt PC 0,.v (.int .i64 0),Ft.d (0,0)]):=by
 have hp:=JR;have ho:=kO sB (by decide);refine eG 21 [.tmp 2,.tmp 3,.cell 4 26] func11 rfl ntmps11 rfl fun _ _ _ _=>?_;refine cP OM hp ?_;refine gp OJ rfl ho ax (fun r hr=>?_);obtain ⟨p,rfl,hp⟩:=hr;rw [VI] at hp ⊢;rcases hp with ⟨h,_⟩ | ⟨_,PC,_,rfl⟩
 ·exact absurd rfl h
 ·exact ⟨.bW [.pt PC 0,.v (.int .i64 0),Ft.d (0,0)],ax,PC,rfl⟩
theorem wi:aV prog 10 [] (.v (.bool true)):=by
 have hA:=Nn;have hB:=Np;refine eG 32 [.tmp 0] func10 rfl ntmps10 rfl fun _ _ _ _=>?_;refine cP OI hA ?_;refine gp OI rfl hB ax (fun r hr=>?_);obtain ⟨PC,rfl⟩:=hr;exact (rfl:_=_)
abbrev RT (S:Sch) (PC W:List DV) (e:Nat):St:=⟨[nZ 0 PC,aE 5 1,al 6 e],[cC S,W],[]⟩
abbrev Nq (S:Sch) (PC W:List DV) (n:Nd) (e k:Nat):St:=⟨[nZ 0 PC,aE 5 1,al 6 e,aE 7 2,aE 9 3,al 10 k],[cC S,W,wz n,wz n],[]⟩
theorem yW {S:Sch} {PC:List DV} (hS:S.wt<=1099511627776) (h0:(fc S).1=0) (hP:j1 S (aF S) PC):aV prog 13 [.pt PC 0,.agg (cC S)] (.v (.bool true)):=by
 have hw0:=nv S hS h0;have h1:=hP.len;have h2:=hP.root;have h5:=hP.ag;have RU:=hP.Vv;have hnn:=hP.nl;obtain ⟨ae,order,types,⟨rh,rp⟩⟩:=S;generalize aF ⟨ae,order,types,.mk rh rp⟩=ND at hw0 h1 h5 RU hnn;generalize gI ⟨ae,order,types,.mk rh rp⟩=rt at hw0 h2;generalize dt (Sch.mk ae order types (.mk rh rp)).ae.length (cr (ap (Sch.mk ae order types (.mk rh rp)).ae) (Sch.mk ae order types (.mk rh rp)).order)=f at hw0;refine eG 87 [.tmp 4] func13 rfl ntmps13 rfl fun _ _ _ _=>?_;refine cP OL hw0 ?_;refine dI ?_;refine cD Fk h1 ?_;refine br (fun _=>?_) (fun g=>absurd g (by simp [dz]));refine cD Ts h2 ?_;refine br (fun g=>absurd g (by simp [aj,dz])) (fun _=>?_);refine lJ (fun e=>RT ⟨ae,order,types,.mk rh rp⟩ PC (wC ⟨ae,order,types,.mk rh rp⟩ f (.sl 7 (bG ND) none) rt) e) ND.length (bl wB) ?_;intro e he;refine br ?_ ?_<;>intro hL
 ·have aq:e < ND.length:=by have:=hL;simp [dz] at this;exact this
  obtain ⟨n,hn⟩:=gX aq;have Uz:=RU n (mG hn);have wo:=cM n.aW;have h6:=h5 e n hn;refine cP ID h6 ?_;refine iX (gf hn) ?_;refine br (fun g=>absurd g (by simp [aj])) (fun _=>?_);refine lJ (fun k=>Nq ⟨ae,order,types,.mk rh rp⟩ PC (wC ⟨ae,order,types,.mk rh rp⟩ f (.sl 7 (bG ND) none) rt) n e k) n.aW.length (bl wB) ?_;intro k hk;refine br ?_ ?_<;>intro j6
  ·have eB:k < n.aW.length:=by have:=j6;simp [wo] at this;exact this
   obtain ⟨x,hx⟩:∃ x,n.aW[k]? = some x:=⟨_,gE eB⟩;refine dI ?_;refine ⟨Dz x,⟨by omega,gh hx⟩,Dz x,⟨by omega,gh hx⟩,_,MY _ _ x,?_⟩;exact rE ⟨_,by omega,k + 1,rfl,by omega,rfl⟩ (bl (c8 (aS eB (by omega))))
  ·exact rE ⟨_,by omega,e + 1,rfl,by omega,rfl⟩ (bl (c8 (aS aq (by omega))))
 ·exact (rfl:_=_)
theorem schemas21_law (S:Sch) (hS:S.wt<=1099511627776) (_:P7 S):aV prog 4 [.agg (cC S)] (.v (.bool true)):=by
 have ga:=vN S hS;have ho:=kO S hS;have DC:=sZ S hS;have Ew:=wi;have N7:=fun h0 PC=>yW (S:=S) (PC:=PC) hS h0
 have qG:(Co S).1=0->(fc S).1=0:=fun h=>by
  unfold Co at h;by_cases h0:(fc S).1=0
  ·exact h0
  ·rw [ah h0] at h;exact absurd h (by simp)
 unfold VD at ho;generalize Co S=ST at ho DC qG;obtain ⟨sn,sf⟩:=ST;simp only at ho DC qG;obtain ⟨ae,order,types,⟨rh,rp⟩⟩:=S;refine eG 49 [.tmp 2] func4 rfl ntmps4 rfl fun _ _ _ _=>?_;refine gp Tq rfl ga ax (fun r hr=>?_);obtain ⟨g,rfl⟩:=hr
 cases g with
 | true=>
  refine cP L2 Ew ?_;exact (rfl:_=_)
 | false=>
  refine gp OJ rfl ho ax (fun r hr=>?_);obtain ⟨p,rfl,hp⟩:=hr;refine cP Tr DC ?_;rcases hp with ⟨bd,rfl⟩ | ⟨h0,PC,hP,rfl⟩
  ·refine br (fun _=>?_) (fun g=>absurd g (by simp));refine ⟨_,G3 _ _ sf sf,?_⟩;refine br (fun _=>?_) (fun g=>absurd g (by simp [pickB,lastG,bd]));refine br (fun g=>absurd g (by simp [bd])) (fun _=>?_);refine cP L2 Ew ?_;exact (rfl:_=_)
  ·obtain rfl:sn=0:=h0;have N7:=N7 (qG rfl) PC hP;refine ⟨_,G3 _ _ sf sf,?_⟩;refine br (fun _=>?_) (fun g=>absurd g (by simp [pickB,lastG]));refine cP Tp N7 ?_;refine cP L2 Ew ?_;exact (rfl:_=_)
end Go.Proofs.YtfdedoiiahbnnaaGreat
