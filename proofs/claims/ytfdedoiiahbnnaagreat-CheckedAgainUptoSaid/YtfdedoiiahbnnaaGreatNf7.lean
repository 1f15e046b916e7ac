/- Part 7 of the proof: The reader of schemas: what stands behind a type's word; The reader of schemas: types; chains; The reader of schemas: a schema; Readers of tokens: the document's Kind; Readers of tokens: the document's order; Readers of tokens: the document's schema, Parse; All tokens of a text, or what is wrong: the program's Scan; Whole numbers in texts: the document's great, Take; Whole numbers in texts: digits compared; the document's Take; Typed values out of values as they are written: plain; Values as they are written, with their records the other way round: plain; Values as they are written, at another place: plain; The first edge of a name; Regions that draw their order, in which two new objects may come in either order; Regions that draw their order, in which several new objects may come in any order; Typed: bad, truth, number, text, enum, find, call; The least depths of the values of a plan's nodes: plain; Which nodes have several values: plain; How many unlike values nodes have: plain, as the document counts; The program's nodes, least depths; The document's least depths; fine; the chapter's example; The program's Depths; The law of least depths: fine, the example, the call returns true; The program's several, Several; The document's count, Many; the law of several values: the call returns true; The document's Many; the law of several values: the call returns true; First and second values: tags, sizes: plain; Regions that draw their order and only read: run with one state; Sample: the program's tags and sizes; Sample: the program's turn, part, first, changed; First and second values: the tables, the values: plain; Sample: the program's first, changed, second; Sample: the program's second; Sample: make1: all sizes; Rules for the evaluator: a slice literal without elements, its cells known; Rules for the evaluator: a slice literal, its cells known; A contract that hands back a fresh row is one of data alone, too; Paths of a value: plain; tree.steps; Where steps lead in a value, and that value with another one there: plain; tree: slices.Index of steps, kid, clone, Get; tree: put, Set; Sample: one: first values; Sample: two: second values; Sample: fits, First, Second; no plan; Values along paths: what stands beside, what is alive, the value itself: plain; The document's Bottom, Right of paths; the program's Right of paths; Where steps lead: the document's Edge, Walk; the program's; The program's way along steps: fits, step, Walk; Sample: what stands beside, the nodes and edges of a path, what is alive; With which schemas nothing is wrong: the document's Wrong of chapters 20, 21; the law's fine; Which levels see a place: the program's Who; Sample: the nodes and edges of a path, what is alive; Sample: a value with another one in it; Typed: list, opt; Typed: opt, union; Typed: union; Typed: record; Typed: record; tree.write, Raw; The document's Fits; Written values: well formed; the document's Same on the same value; its Raw; What is read of a value, as the plain data; What the frames of laws over values share; Values as they are written: how big they are; what is read of them; Typed: Check; how many values are in what is written; The law's turned, where nothing changes places; Whole numbers in texts: the document's Take; Escapes: the document's hex; Escapes: the document's One; Texts in quotes: the unit at a place, as it is written; Texts in quotes: the document's unit; the program's and the document's Quote; Texts in quotes that are read: the document's Unquote; Tokens: the document's Signs at a place, Mark, one; Tokens: the document's Mark, one; All tokens of a text, or what is wrong: the document's Scan; The reader of schemas: its end; Parse, what it reads known; The readers of schemas: any text is read as the document reads it; The law of checks: the call returns true; What is wrong with a coarse view, exactly: the document's Wrong of chapter 20; What is wrong with a coarse view: the program's effect.Check; The chapter's examples of checked schemas; The law of checked schemas: the call returns true; The law of checked texts: the call returns true; Texts that are written: how they are cut; Written texts are read back: single tokens, names, labels; Written texts are read back: marks of a part, lists; Written texts are read back: parts and types; Written texts are read back: types; Types with which nothing is wrong may be written; Which schemas may be written, and their text: plain, and the program's; A schema's text is read back; The numbers of a schema that was read are ints; The reference of chapters 15 and 17 on schemas: Placeless, Same, Great; The law of a type's text: the call returns true; The law of schemas without places: the call returns true. No condition. -/
import Derived.Test.YtfdedoiiahbnnaaGreatNf2
import Derived.Test.YtfdedoiiahbnnaaGreatNf3
import Derived.Test.YtfdedoiiahbnnaaGreatNf4
import Derived.Test.YtfdedoiiahbnnaaGreatNf5
import Derived.Test.YtfdedoiiahbnnaaGreatNf6
set_option linter.all false
set_option maxRecDepth 100000
namespace Go.Proofs.YtfdedoiiahbnnaaGreat
open Go Go.RowKit Dv Go.Proofs.Tryz
abbrev adA (c:au) (a:Int):St:=⟨[bq 3 2,bq 4 3],[aH c,UR a [],ln,WL],[Be []]⟩
section
variable {K:au->Ty × au} {D:Nat} (hK:∀ c,av c->c.d=D->Ev prog 166 [gT] [aH c] [] (jX (.agg (dC (K c).1)) (K c).2)) (hk:IV K D)
include hK hk
set_option maxHeartbeats 4000000 in
theorem I1 (w:ByteArray) (a:Int) (c:au) (h:av c) (hd:c.d=D):Ev prog 249 [gT,.loc 1 0,.v (.string w)] [aH c,Uz 0 a] []
  (fun r os tk=>r = .v (.bool (cj K w a c).1)/\os=[aH (cj K w a c).2.2,dC (cj K w a c).2.1]/\tk=[]):=by
 have hPf:=fun c h hd=>uQ (tag:=false) hk abr (fun c h hd=>F7 hK hk c h hd) c h hd;have hPt:=fun c h hd=>uQ (tag:=true) hk abt (fun c h hd=>M1 hK hk c h hd) c h hd;generalize hR:cj K w a c=R;unfold cj at hR;obtain ⟨l,p,d,f1,f2⟩:=c;refine eG 142 [.tmp 6] func249 rfl ntmps249 rfl fun _ _ _ _=>?_;by_cases e1:w=oE
 ·rw [ah e1] at hR;refine br (fun _=>?_) (fun g=>absurd e1 (sU g));subst hR;exact ⟨.v (.bool true),[aH _,dC _],bB,bB,rfl,rfl,rfl⟩
 refine br (fun g=>absurd (sU g) e1) (fun _=>?_);by_cases e2:w=IE
 ·rw [ag e1,ah e2] at hR;have a1:=bV ⟨l,p,d,f1,f2⟩ h aT;have kL:=av.ai h aT;have Bv:(au.ai ⟨l,p,d,f1,f2⟩ aT).d=D:=((aR.ai _ _).d).trans hd;generalize au.is ⟨l,p,d,f1,f2⟩ 4 aT=B1 at a1;generalize au.ai ⟨l,p,d,f1,f2⟩ aT=c1 at a1 kL Bv hR;obtain ⟨l1,p1,d1,f1,g1⟩:=c1;have a2:=mv ⟨l1,p1,d1,f1,g1⟩ kL;have Bw:=av.bP kL;have N1:(au.bP ⟨l1,p1,d1,f1,g1⟩).d=D:=((aR.bP _).d).trans Bv;generalize au.iu ⟨l1,p1,d1,f1,g1⟩=n2 at a2 hR;generalize au.bP ⟨l1,p1,d1,f1,g1⟩=c2 at a2 Bw N1 hR;obtain ⟨l2,p2,d2,f2,g2⟩:=c2;have a3:=bV ⟨l2,p2,d2,f2,g2⟩ Bw jf;have G6:=av.ai Bw jf;have SF:(au.ai ⟨l2,p2,d2,f2,g2⟩ jf).d=D:=((aR.ai _ _).d).trans N1;generalize au.is ⟨l2,p2,d2,f2,g2⟩ 4 jf=B3 at a3;generalize au.ai ⟨l2,p2,d2,f2,g2⟩ jf=c3 at a3 G6 SF hR;obtain ⟨l3,p3,d3,f3,g3⟩:=c3;have a4:=mv ⟨l3,p3,d3,f3,g3⟩ G6;have Zc:=av.bP G6;have d4':(au.bP ⟨l3,p3,d3,f3,g3⟩).d=D:=((aR.bP _).d).trans SF;generalize au.iu ⟨l3,p3,d3,f3,g3⟩=n4 at a4 hR;generalize au.bP ⟨l3,p3,d3,f3,g3⟩=c4 at a4 Zc d4' hR;obtain ⟨l4,p4,d4,f4,g4⟩:=c4;have a5:=bV ⟨l4,p4,d4,f4,g4⟩ Zc bE;have h5':=av.ai Zc bE;have d5':(au.ai ⟨l4,p4,d4,f4,g4⟩ bE).d=D:=((aR.ai _ _).d).trans d4';generalize au.is ⟨l4,p4,d4,f4,g4⟩ 4 bE=B5 at a5;generalize au.ai ⟨l4,p4,d4,f4,g4⟩ bE=c5 at a5 h5' d5' hR;obtain ⟨l5,p5,d5,f5,g5⟩:=c5;refine br (fun _=>?_) (fun g=>absurd e2 (sU g));refine ak 1 fX a1 ?_;refine cr [0,1] (fun i=>Nat.beq i 5) mo (by decide +kernel) ?_;refine fb 1 rfl Eu rfl rfl bB bB a2 (fun r eO hΦ _=>?_);obtain ⟨rfl,rfl,_⟩:=hΦ;refine ak 1 fX a3 ?_;refine cr [0,1] (fun i=>Nat.beq i 5) mo (by decide +kernel) ?_;refine fb 1 rfl Eu rfl rfl bB bB a4 (fun r eO hΦ _=>?_);obtain ⟨rfl,rfl,_⟩:=hΦ;refine ak 1 fX a5 ?_;subst hR;exact ⟨.v (.bool true),[aH _,dC _],bB,bB,rfl,rfl,rfl⟩
 refine br (fun g=>absurd (sU g) e2) (fun _=>?_);by_cases e3:w=yu
 ·rw [ag e1,ag e2,ah e3] at hR;have a1:=qH _ h;generalize jQ ⟨l,p,d,f1,f2⟩=c1 at a1 hR;obtain ⟨nn,l1,p1,d1,f1,g1⟩:=c1;refine br (fun _=>?_) (fun g=>absurd e3 (sU g));refine cr [0,1] (fun _=>false) mo (by decide +kernel) ?_;refine fb 1 rfl OS rfl rfl bB bB a1 (fun r eO hΦ _=>?_);obtain ⟨rfl,rfl,_⟩:=hΦ;subst hR;exact ⟨.v (.bool true),[aH _,dC _],bB,bB,rfl,rfl,rfl⟩
 refine br (fun g=>absurd (sU g) e3) (fun _=>?_);by_cases e4:w=yv
 ·rw [ag e1,ag e2,ag e3,ah e4] at hR;have a1:=bV ⟨l,p,d,f1,f2⟩ h aT;have kL:=av.ai h aT;have Bv:(au.ai ⟨l,p,d,f1,f2⟩ aT).d=D:=((aR.ai _ _).d).trans hd;generalize au.is ⟨l,p,d,f1,f2⟩ 4 aT=B1 at a1;generalize au.ai ⟨l,p,d,f1,f2⟩ aT=c1 at a1 kL Bv hR;obtain ⟨l1,p1,d1,f1,g1⟩:=c1;have a2:=M4 a ⟨l1,p1,d1,f1,g1⟩ kL;generalize listF fg bE bigN ⟨l1,p1,d1,f1,g1⟩ []=c2 at a2 hR;obtain ⟨⟨l2,p2,d2,f2',g2⟩,nl⟩:=c2;simp only at a2;refine br (fun _=>?_) (fun g=>absurd e4 (sU g));refine ak 1 fX a1 ?_;refine rX (Be []) (adA ⟨l1,p1,d1,f1,g1⟩ a) rfl ?_ rfl ?_ ?_ rfl rfl ?_
  ·repeat' (first | exact rfl | exact az rfl | refine ⟨_,_,rfl,?_,?_⟩)
  ·repeat' (first | exact rfl | exact az rfl | exact dj (bn _) rfl | refine ⟨_,_,rfl,?_,?_⟩)
  ·repeat' (first | exact trivial | exact az rfl | refine ⟨⟨_,rfl,?_⟩,?_⟩)
  refine fw 4 1 Em rfl rfl rfl bB bB a2 (fun r eO cA hΦ _ _=>?_);obtain ⟨rfl,rfl,rfl⟩:=hΦ;subst hR;exact ⟨.v (.bool true),[aH _,dC _],bB,bB,rfl,rfl,rfl⟩
 refine br (fun g=>absurd (sU g) e4) (fun _=>?_);by_cases e5:w=yw
 ·rw [ag e1,ag e2,ag e3,ag e4,ah e5] at hR;have a1:=bV ⟨l,p,d,f1,f2⟩ h aT;have kL:=av.ai h aT;have Bv:(au.ai ⟨l,p,d,f1,f2⟩ aT).d=D:=((aR.ai _ _).d).trans hd;generalize au.is ⟨l,p,d,f1,f2⟩ 4 aT=B1 at a1;generalize au.ai ⟨l,p,d,f1,f2⟩ aT=c1 at a1 kL Bv hR;obtain ⟨l1,p1,d1,f1,g1⟩:=c1;have a2:=hK _ kL Bv;have Bw:=IV.ok hk kL Bv;have N1:(K ⟨l1,p1,d1,f1,g1⟩).2.d=D:=((IV.st hk kL Bv).d).trans Bv;generalize K ⟨l1,p1,d1,f1,g1⟩=c2 at a2 Bw N1 hR;obtain ⟨⟨th2,tp2⟩,l2,p2,d2,f2,g2⟩:=c2;have a3:=bV ⟨l2,p2,d2,f2,g2⟩ Bw cX;have G6:=av.ai Bw cX;have SF:(au.ai ⟨l2,p2,d2,f2,g2⟩ cX).d=D:=((aR.ai _ _).d).trans N1;generalize au.is ⟨l2,p2,d2,f2,g2⟩ 4 cX=B3 at a3;generalize au.ai ⟨l2,p2,d2,f2,g2⟩ cX=c3 at a3 G6 SF hR;obtain ⟨l3,p3,d3,f3,g3⟩:=c3;have a4:=mv ⟨l3,p3,d3,f3,g3⟩ G6;have Zc:=av.bP G6;have d4':(au.bP ⟨l3,p3,d3,f3,g3⟩).d=D:=((aR.bP _).d).trans SF;generalize au.iu ⟨l3,p3,d3,f3,g3⟩=n4 at a4 hR;generalize au.bP ⟨l3,p3,d3,f3,g3⟩=c4 at a4 Zc d4' hR;obtain ⟨l4,p4,d4,f4,g4⟩:=c4;have a5:=bV ⟨l4,p4,d4,f4,g4⟩ Zc bE;have h5':=av.ai Zc bE;have d5':(au.ai ⟨l4,p4,d4,f4,g4⟩ bE).d=D:=((aR.ai _ _).d).trans d4';generalize au.is ⟨l4,p4,d4,f4,g4⟩ 4 bE=B5 at a5;generalize au.ai ⟨l4,p4,d4,f4,g4⟩ bE=c5 at a5 h5' d5' hR;obtain ⟨l5,p5,d5,f5,g5⟩:=c5;refine br (fun _=>?_) (fun g=>absurd e5 (sU g));refine ak 1 fX a1 ?_;refine cr [0,1] (fun i=>Nat.beq i 7) mo (by decide +kernel) ?_;refine fb 1 rfl wN rfl rfl bB bB a2 (fun r eO hΦ _=>?_);obtain ⟨rfl,rfl,_⟩:=hΦ;refine ak 1 fX a3 ?_;refine cr [0,1] (fun i=>Nat.beq i 5) mo (by decide +kernel) ?_;refine fb 1 rfl Eu rfl rfl bB bB a4 (fun r eO hΦ _=>?_);obtain ⟨rfl,rfl,_⟩:=hΦ;refine ak 1 fX a5 ?_;subst hR;exact ⟨.v (.bool true),[aH _,dC _],bB,bB,rfl,rfl,rfl⟩
 refine br (fun g=>absurd (sU g) e5) (fun _=>?_);by_cases e6:w=IF
 ·rw [ag e1,ag e2,ag e3,ag e4,ag e5,ah e6] at hR;have a1:=bV ⟨l,p,d,f1,f2⟩ h aT;have kL:=av.ai h aT;have Bv:(au.ai ⟨l,p,d,f1,f2⟩ aT).d=D:=((aR.ai _ _).d).trans hd;generalize au.is ⟨l,p,d,f1,f2⟩ 4 aT=B1 at a1;generalize au.ai ⟨l,p,d,f1,f2⟩ aT=c1 at a1 kL Bv hR;obtain ⟨l1,p1,d1,f1,g1⟩:=c1;have a2:=hK _ kL Bv;have Bw:=IV.ok hk kL Bv;have N1:(K ⟨l1,p1,d1,f1,g1⟩).2.d=D:=((IV.st hk kL Bv).d).trans Bv;generalize K ⟨l1,p1,d1,f1,g1⟩=c2 at a2 Bw N1 hR;obtain ⟨⟨th2,tp2⟩,l2,p2,d2,f2,g2⟩:=c2;have a3:=bV ⟨l2,p2,d2,f2,g2⟩ Bw bE;have G6:=av.ai Bw bE;have SF:(au.ai ⟨l2,p2,d2,f2,g2⟩ bE).d=D:=((aR.ai _ _).d).trans N1;generalize au.is ⟨l2,p2,d2,f2,g2⟩ 4 bE=B3 at a3;generalize au.ai ⟨l2,p2,d2,f2,g2⟩ bE=c3 at a3 G6 SF hR;obtain ⟨l3,p3,d3,f3,g3⟩:=c3;refine br (fun _=>?_) (fun g=>absurd e6 (sU g));refine ak 1 fX a1 ?_;refine cr [0,1] (fun i=>Nat.beq i 7) mo (by decide +kernel) ?_;refine fb 1 rfl wN rfl rfl bB bB a2 (fun r eO hΦ _=>?_);obtain ⟨rfl,rfl,_⟩:=hΦ;refine ak 1 fX a3 ?_;subst hR;exact ⟨.v (.bool true),[aH _,dC _],bB,bB,rfl,rfl,rfl⟩
 refine br (fun g=>absurd (sU g) e6) (fun _=>?_);by_cases e7:w=IG
 ·have Zd:¬ w=Rh:=by rw [e7];decide
  have RI:¬ w=yx:=by rw [e7];decide
  rw [ag e1,ag e2,ag e3,ag e4,ag e5,ag e6,ag Zd,ag RI,ah e7] at hR;have a1:=bV ⟨l,p,d,f1,f2⟩ h aT;have kL:=av.ai h aT;have Bv:(au.ai ⟨l,p,d,f1,f2⟩ aT).d=D:=((aR.ai _ _).d).trans hd;generalize au.is ⟨l,p,d,f1,f2⟩ 4 aT=B1 at a1;generalize au.ai ⟨l,p,d,f1,f2⟩ aT=c1 at a1 kL Bv hR;obtain ⟨l1,p1,d1,f1,g1⟩:=c1;have a2:=ed ⟨l1,p1,d1,f1,g1⟩ kL;have Bw:=av.aq kL;have N1:(au.aq ⟨l1,p1,d1,f1,g1⟩).d=D:=((aR.aq _).d).trans Bv;generalize au.aK ⟨l1,p1,d1,f1,g1⟩=w2 at a2 hR;generalize au.aq ⟨l1,p1,d1,f1,g1⟩=c2 at a2 Bw N1 hR;obtain ⟨ws2,wa2⟩:=w2;obtain ⟨l2,p2,d2,f2,g2⟩:=c2;have a3:=bV ⟨l2,p2,d2,f2,g2⟩ Bw bE;have G6:=av.ai Bw bE;have SF:(au.ai ⟨l2,p2,d2,f2,g2⟩ bE).d=D:=((aR.ai _ _).d).trans N1;generalize au.is ⟨l2,p2,d2,f2,g2⟩ 4 bE=B3 at a3;generalize au.ai ⟨l2,p2,d2,f2,g2⟩ bE=c3 at a3 G6 SF hR;obtain ⟨l3,p3,d3,f3,g3⟩:=c3;refine br (fun _=>?_) (fun g=>absurd e7 (sU g));refine ak 1 fX a1 ?_;refine cr [0,1] (fun i=>Nat.beq i 5) mo (by decide +kernel) ?_;refine fb 1 rfl nZ rfl rfl bB bB a2 (fun r eO hΦ _=>?_);obtain ⟨rfl,rfl,_⟩:=hΦ;refine ak 1 fX a3 ?_;subst hR;exact ⟨.v (.bool true),[aH _,dC _],bB,bB,rfl,rfl,rfl⟩
 refine br (fun g=>absurd (sU g) e7) (fun _=>?_);by_cases e8:w=Rh
 ·rw [ag e1,ag e2,ag e3,ag e4,ag e5,ag e6,ah e8] at hR;have a1:=hPf _ h hd;generalize cI K false ⟨l,p,d,f1,f2⟩=c1 at a1 hR;obtain ⟨pl,l1,p1,d1,f1,g1⟩:=c1;refine br (fun _=>?_) (fun g=>absurd e8 (sU g));refine cr [0,1] (fun _=>false) mo (by decide +kernel) ?_;refine fb 1 rfl VT rfl rfl bB bB a1 (fun r eO hΦ _=>?_);obtain ⟨rfl,rfl,_⟩:=hΦ;subst hR
  have hX:∀ bx N,CcE bx N (eX (mkPts pl)) (Da pl):=fun bx N=>by
   rw [CY];exact q8 _
  exact ⟨.v (.bool true),[aH _,dC _],(ug hX),(ug hX),rfl,rfl,rfl⟩
 refine br (fun g=>absurd (sU g) e8) (fun _=>?_);by_cases e9:w=yx
 ·rw [ag e1,ag e2,ag e3,ag e4,ag e5,ag e6,ag e8,ah e9] at hR;have a1:=hPt _ h hd;generalize cI K true ⟨l,p,d,f1,f2⟩=c1 at a1 hR;obtain ⟨pl,l1,p1,d1,f1,g1⟩:=c1;refine br (fun _=>?_) (fun g=>absurd e9 (sU g));refine cr [0,1] (fun _=>false) mo (by decide +kernel) ?_;refine fb 1 rfl VT rfl rfl bB bB a1 (fun r eO hΦ _=>?_);obtain ⟨rfl,rfl,_⟩:=hΦ;subst hR
  have hX:∀ bx N,CcE bx N (eX (mkPts pl)) (Da pl):=fun bx N=>by
   rw [CY];exact q8 _
  exact ⟨.v (.bool true),[aH _,dC _],(ug hX),(ug hX),rfl,rfl,rfl⟩
 refine br (fun g=>absurd (sU g) e9) (fun _=>?_);rw [ag e1,ag e2,ag e3,ag e4,ag e5,ag e6,ag e8,ag e9,ag e7] at hR;subst hR;exact ⟨.v (.bool false),[aH _,dC _],bB,bB,rfl,rfl,rfl⟩
end
theorem yM:∀ (n:Nat),n<=24->∀ c,av c->c.d=24 - n->Ev prog 166 [gT] [aH c] [] (jX (.agg (dC (pKind n c).1)) (pKind n c).2)
 | 0,_,c,h,hd=>by
  have hp:=dL c h;have he:=yn c h;have e1:c.enter=false:=by simp [au.enter,hd]
  have e2:c.qC=c.fail 6:=by rw [au.qC,ah hd]
  rw [e1,e2] at he;have hR:pKind 0 c=(NZ 0 c.aF.a,c.fail 6):=rfl;rw [hR];simp only;generalize c.fail 6=C1 at he ⊢;generalize c.aF=t at hp ⊢;obtain ⟨tk,ta,te,ts,tn⟩:=t;obtain ⟨l,p,d,f1,f2⟩:=c;obtain ⟨l1,p1,d1,f11,f21⟩:=C1;refine eG 42 [.cell 2 36] func166 rfl ntmps166 rfl fun _ _ _ _=>?_;refine ak 1 iw hp ?_;refine ak 1 Et he ?_;exact ⟨.agg (dC _),[aH _],bB,bB,rfl,rfl,rfl⟩
 | n + 1,hn,c,h,hd=>by
  have ih:=yM n (by omega);have hp:=dL c h;have he:=yr h (by omega);have L9:({ c with d:=c.d + 1 }:au)=c.deep:=rfl;rw [L9] at he;have o1:=h.deep (show c.d < 24 by omega);have ht:=oC c.deep o1 1;have hT:c.deep.uG 1=if c.deep.tk 1 then c.deep.aF else ⟨0,0,0,aZ,0⟩:=rfl
  have hC:c.deep.SE 1=if c.deep.tk 1 then c.deep.step else c.deep:=rfl
  have G4:c.deep.aF=c.aF:=rfl;rw [hT,hC,G4] at ht
  have d2:c.deep.step.d=24 - n:=by
   rw [(aR.step _).d];show c.d + 1=_;omega
  have hb:=I1 ih (tN n (by omega)) c.aF.s c.aF.a c.deep.step o1.step d2;generalize hR:pKind (n + 1) c=R;rw [pKind,G4] at hR
  cases hB:c.deep.tk 1 with
  | false=>
   rw [hB,ag (by simp)] at ht hR;rw [ag (by simp)] at ht;subst hR;have hw:=gO c.deep o1;have Ig:=nk c.deep.wrong o1.wrong;generalize c.deep.wrong.leave=C3 at Ig ⊢;generalize c.deep.wrong=C2 at hw Ig;generalize c.deep=C1 at he ht hw;generalize c.aF=t at hp ⊢;obtain ⟨tk,ta,te,ts,tn⟩:=t;obtain ⟨l,p,d,f1,f2⟩:=c;obtain ⟨l1,p1,d1,f11,f21⟩:=C1;obtain ⟨l2,p2,d2,f12,f22⟩:=C2;obtain ⟨l3,p3,d3,f13,f23⟩:=C3;refine eG 42 [.cell 2 36] func166 rfl ntmps166 rfl fun _ _ _ _=>?_;refine ak 1 iw hp ?_;refine ak 1 Et he ?_;refine ak 1 uk ht ?_;refine ak 1 Ac hw ?_;refine ak 1 Er Ig ?_;exact ⟨.agg (dC _),[aH _],bB,bB,rfl,rfl,rfl⟩
  | true=>
   rw [hB,ah rfl] at ht hR;rw [ah rfl] at ht;have o2:=o1.step
   have hko:av (cj (pKind n) c.aF.s c.aF.a c.deep.step).2.2:=by
    cases Ze:(cj (pKind n) c.aF.s c.aF.a c.deep.step).1 with
    | true=>exact (Bj (fun c q h hd=>jY n c q h hd (by omega)) (Sm.self o2) d2 Ze).sm.ok
    | false=>
     rw [(yC (fun c q h hd=>jY n c q h hd (by omega)) (q:=([],(0,0))) Ze).1];exact o2
   generalize cj (pKind n) c.aF.s c.aF.a c.deep.step=BB at hb hR hko;generalize c.deep.step=C2 at ht hb;obtain ⟨b,⟨th,tp⟩,C3⟩:=BB;simp only at hb hR hko;have JA:=uI C3 9 c.aF.a;have py:=nk C3 hko;have Ii:=nk (C3.cK 9 c.aF.a) (hko.cK 9 c.aF.a);generalize (C3.cK 9 c.aF.a).leave=C6 at Ii hR;generalize C3.cK 9 c.aF.a=C5 at JA Ii;generalize C3.leave=C4 at py hR;generalize c.deep=C1 at he ht;generalize c.aF=t at hp hb JA ht;obtain ⟨tk,ta,te,ts,tn⟩:=t;obtain ⟨l,p,d,f1,f2⟩:=c;obtain ⟨l1,p1,d1,f11,f21⟩:=C1;obtain ⟨l2,p2,N1,f12,f22⟩:=C2;obtain ⟨l3,p3,d3,f13,f23⟩:=C3;obtain ⟨l4,p4,d4,f14,f24⟩:=C4;obtain ⟨l5,p5,d5,f15,f25⟩:=C5;obtain ⟨l6,p6,d6,f16,f26⟩:=C6;refine eG 42 [.cell 2 36] func166 rfl ntmps166 rfl fun _ _ _ _=>?_;refine ak 1 iw hp ?_;refine ak 1 Et he ?_;refine ak 1 uk ht ?_;refine CallG.Ik 1 3 rfl rfl rfl rfl ?_;refine ak 2 VM hb ?_
   cases b with
   | true=>
    rw [ah rfl] at hR;subst hR;refine ak 1 Er py ?_;exact ⟨.agg (dC _),[aH _],bB,bB,rfl,rfl,rfl⟩
   | false=>
    rw [ag (by simp)] at hR;subst hR;refine ak 1 VN JA ?_;refine ak 1 Er Ii ?_;exact ⟨.agg (dC _),[aH _],bB,bB,rfl,rfl,rfl⟩
theorem WN (c:au) (h:av c) (hd:c.d=0):Ev prog 166 [gT] [aH c] [] (jX (.agg (dC (pKind 24 c).1)) (pKind 24 c).2):=yM 24 (bn _) c h hd
abbrev RJ (c:au) (lo:Wd) (l:List (Wd × Wd)) (n:Nat):St:=⟨[bq 1 1,(2,⟨[],.v (.slice none 0 0)⟩),(3,⟨[],.sl 4 (eY l) (some 0)⟩),bq 4 2],[aH c,ln,nD lo],[⟨n,122,4,none⟩]⟩
theorem tQ (l:List (Wd × Wd)) (a b:Wd):eY l ++ [Tx (a,b)]=eY (l ++ [(a,b)]):=by simp [eY]
theorem Gd (c:au) (h:av c):Ev prog 165 [gT] [aH c] [] (fun r os tk=>r = .sl 4 (eY (dc c).1) none/\os=[aH (dc c).2]/\tk=[]):=by
 generalize hR:dc c=R;unfold dc at hR;have hb:=eS;have h1:=ed c h;have h2:=bV _ h.aq fh;have G3:=h.aq.ai fh;have hlen:=G3.len;generalize c.aq.ai fh=C2 at h2 G3 hR hlen;generalize c.aq.is 4 fh=B2 at h2;generalize c.aq=C1 at h1 h2;generalize c.aK=W at h1 hR;obtain ⟨ws,wa⟩:=W;obtain ⟨l,p,d,f1,f2⟩:=c;obtain ⟨l1,p1,d1,f11,f21⟩:=C1;obtain ⟨l2,p2,d2,f12,f22⟩:=C2;refine eG 25 [.tmp 2] func165 rfl ntmps165 rfl fun _ _ _ _=>?_;refine ak 1 nZ h1 ?_;refine ak 1 fX h2 ?_;refine cH (fun j st=>∃ (c1:au) (lo:Wd) (l':List (Wd × Wd)) (n:Nat),st=RJ c1 lo l' n/\n=l'.length/\av c1/\pChain j l' lo c1=R/\(c1.f.1=0->c1.l.length < c1.p + j)/\1<=j/\l'.length + j<=bigN) bigN (RJ ⟨l2,p2,d2,f12,f22⟩ ⟨ws,wa⟩ [] 0) (jG 3 ⟨0,122,4,none⟩ rfl rfl rfl JB rfl rfl vb) ⟨⟨l2,p2,d2,f12,f22⟩,⟨ws,wa⟩,[],0,rfl,rfl,G3,hR,fun _=>by show l2.length < p2 + bigN;simp only at hlen;omega,by omega,by simp⟩ ?_;rintro j st ⟨c1,lo,l',n,rfl,hn,JE,uO,aE,hj,jk⟩;obtain ⟨j,rfl⟩:∃ m,j=m + 1:=⟨j - 1,by omega⟩;rw [pChain] at uO;have r1:=ed c1 JE;have r2:=fk _ JE.aq fh;unfold au.o9 at r2;have e1:=(aR.aq c1).l;have e2:=@tP c1;have e3:=@Bl c1;have k1:=JE.aq;have k2:=k1.step;have e4:c1.aq.is 4 fh=true->c1.aq.f.1=0/\c1.aq.step={ c1.aq with p:=c1.aq.p + 1 }:=fun hB=>⟨Sm.dE (by decide) hB,vM hB (by decide)⟩;generalize c1.aq.is 4 fh=B at r2 uO e4;generalize c1.aq.step=C4 at r2 uO k2 e4;generalize c1.aq=C3 at r1 r2 uO e1 e2 e3 k1 e4;generalize c1.aK=W at r1 uO;obtain ⟨us,ua⟩:=W;obtain ⟨los,loa⟩:=lo;obtain ⟨l3,p3,d3,f13,f23⟩:=c1;obtain ⟨l4,p4,d4,f14,f24⟩:=C3;obtain ⟨l5,p5,d5,f15,f25⟩:=C4;simp only at aE e1 e2 e3;refine ak 1 nZ r1 ?_;refine ⟨by rw [eB];exact hn.symm,⟨by simp [maxLen,eB];omega,by simp [eB];omega⟩,?_⟩
 cases B with
 | true=>
  rw [ah rfl] at r2 uO;obtain ⟨e5,e6⟩:=e4 rfl;have e2:=e2 e5;have aE:=aE (e3 e5);injection e6 with e7 e8 e9 e10
  have hl5:=k2.lt;simp only at hl5 e2 e7 e8;subst e7 e8 e1;refine ak 1 gZ r2 ?_;exact ⟨RJ ⟨l5,p4 + 1,d5,f15,f25⟩ ⟨us,ua⟩ (l' ++ [(⟨los,loa⟩,⟨us,ua⟩)]) (n + 1),(kD 3 (Ea (tQ l' ⟨los,loa⟩ ⟨us,ua⟩)) (gv (tQ l' ⟨los,loa⟩ ⟨us,ua⟩))),j,by omega,⟨l5,p4 + 1,d5,f15,f25⟩,_,_,_,rfl,by simp [hn],k2,uO,fun _=>by show l5.length < p4 + 1 + j;omega,by omega,by simp;omega⟩
 | false=>
  rw [ag (by simp)] at r2 uO;subst uO;refine ak 1 gZ r2 ?_
  have hX:∀ bx N,CcE bx N (eY (l' ++ [(⟨los,loa⟩,⟨us,ua⟩)])) (eY l' ++ [Tx (⟨los,loa⟩,⟨us,ua⟩)]):=fun bx N=>by
   rw [tQ];exact q8 _
  exact ⟨.sl 4 (eY _) none,[aH _],(ug hX),(ug hX),rfl,rfl,rfl⟩
end Go.Proofs.YtfdedoiiahbnnaaGreat
set_option maxRecDepth 100000
namespace Go.Proofs.YtfdedoiiahbnnaaGreat
namespace Dv
open Go Go.RowKit
theorem Bz {n0 m0:Nat} {st st':St} (n:Nat) (new:List TkE) (dB:∀ q∈new,q.new=true) (h3:st'.tk=new) (hm:m0=0) (hn:Nat.ble n st.bx.length=true) (h4:Nat.ble n0 n=true) (h2:WeLL n 0 new (st.bx.take n) st'.bx) (h:lO n 0 new st.sl st'.sl):pz n0 m0 st st':=by
 have hl:(st.bx.take n).length=n:=by simp_all
 exact ⟨[],st.tk,new,st.bx.take n,st.bx.drop n,by simp [hm],by rw [hl];exact nL h4,rfl,by simpa using h3,dB,(List.take_append_drop n st.bx).symm,by rw [hl,h3];exact h2,by rw [hl,h3];exact h⟩
theorem US {X:Ctx} {st st':St} (h:pz X.n0 X.m0 st st'):Wk X st st':=fun _ _ _ hr=>rc hr h
end Dv
open Go Go.RowKit Dv Go.Proofs.Tryz
theorem BA (l:List (Wd × Ty)) (w:Wd) (t:Ty):dNms l ++ [dNm (w,t)]=dNms (l ++ [(w,t)]):=by simp [dNms]
abbrev scQ (lv:List Wd) (od ty:DV):List DV:=[.sl 2 (cd lv) none,od,ty,.v (.int .i64 0),.v (.int .i64 0),.v (.int .i64 0),.v (.int .i64 0),.v (.int .i64 0),.v (.slice none 0 0),.v (.slice none 0 0),.v (.string ⟨#[]⟩),.v (.int .i64 0)]
abbrev UT (lv:List Wd) (od:List (Wd × Wd)):List DV:=scQ lv (.sl 4 (eY od) (some 0)) (.v (.slice none 0 0))
abbrev zI (a:List (Wd × Wd)):TkE:=⟨a.length,122,4,none⟩
abbrev adE (n:Nat):TkE:=⟨n,93,11,none⟩
abbrev RL (c:au) (lv:List Wd) (od:List (Wd × Wd)) (l:List (Wd × Ty)) (n:Nat):St:=⟨[bq 1 1,bq 2 2,bq 3 3],[aH c,ln,CV,scQ lv (.sl 4 (eY od) none) (.sl 11 (dNms l) (some 0))],[adE n]⟩
abbrev adF (c:au) (lv:List Wd):St:=⟨[bq 1 1,bq 2 2,bq 3 3],[aH c,ln,CV,UT lv []],[zI []]⟩
theorem yN:∀ (n:Nat) (l:List (Wd × Wd)) (w:Wd) (c:au),(pChain n l w c).1.length<=l.length + n
 | 0,_,_,_=>bn _
 | n + 1,l,w,c=>by
  rw [pChain];split
  ·have:=yN n (l ++ [(w,c.aK)]) c.aK c.aq.step
   grind
  ·show (l ++ [_]).length<=_;simp
theorem Ge:∀ (n:Nat) (l:List (Wd × Wd)) (w:Wd) (c:au),(pChain n l w c).2.f.1=0->(pChain n l w c).1.length + c.p<=l.length + (pChain n l w c).2.p
 | 0,_,_,_,_=>bn _
 | n + 1,l,w,c,h0=>by
  rw [pChain] at h0 ⊢;split at h0
  ·rename_i hi;rw [ah hi];have ih:=Ge n _ _ _ h0;have e1:=tP (Sm.dE (by decide) hi)
   grind [vM]
  ·grind [tP]
theorem BC:∀ (n:Nat) (l:List (Wd × Wd)) (w:Wd) (c:au),0 < n->(pChain n l w c).1 ≠ []
 | 0,_,_,_,h=>absurd h (by decide)
 | 1,l,w,c,_=>by
  rw [pChain];split
  ·rw [pChain];simp
  ·simp
 | n + 2,l,w,c,_=>by
  rw [pChain];split
  ·exact BC (n + 1) _ _ _ (by omega)
  ·simp
def RM (c:au) (a:List (Wd × Wd)):Prop:=c.f.1=0->a.length<=c.p
theorem UU (lv:List Wd) (a b:List (Wd × Wd)):UT lv (a ++ b)=scQ lv (.sl 4 (eY a ++ eY b) (some 0)) (.v (.slice none 0 0)):=by simp [UT,eY]
theorem RN (a b:List (Wd × Wd)):zI (a ++ b)=⟨a.length + (eY b).length,122,4,none⟩:=by simp [zI,eY]
theorem Db (lv:List Wd) (c:au) (h:av c) (a:List (Wd × Wd)) (ha:a.length<=274877906944):Ev prog 164 [.loc 3 0,.loc 1 0] [aH c,ln,CV,UT lv a] [zI a]
  (fun r os tk=>r = .bK []/\os=[aH (dc c).2,ln,CV,UT lv (a ++ (dc c).1)]/\tk=[zI (a ++ (dc c).1)]):=by
 have hn:=Gd c h;have hl:(eY a).length=a.length:=eB a;have Ii:(eY (dc c).1).length=(dc c).1.length:=eB _
 have hm:(dc c).1.length<=274877906945:=by
  have:=yN bigN [] c.aK (c.aq.ai fh);rw [eS] at this;unfold dc;rw [eS];simpa using this
 have bo:eY (dc c).1 ≠ []:=fun he=>by grind [dc,eY,BC,eS]
 generalize dc c=R at hn Ii hm bo ⊢;obtain ⟨L,l1,p1,d1,f11,f21⟩:=R;obtain ⟨l,p,d,f1,f2⟩:=c;simp only at Ii hm bo;refine eG 8 [] func164 rfl ntmps164 rfl fun _ _ _ _=>?_;refine cr [0] (fun i=>Nat.beq i 6) mo (by decide +kernel) ?_;refine fb 1 rfl aa8 rfl rfl bB bB hn (fun r eO hΦ _=>?_);obtain ⟨rfl,rfl,_⟩:=hΦ;refine ⟨hl,⟨by simp [maxLen,hl,Ii];omega,by simp [hl,Ii];omega⟩,?_⟩;rw [UU,RN];exact ⟨.bK [],[aH ⟨l1,p1,d1,f11,f21⟩,ln,CV,scQ lv (.sl 4 (eY a ++ eY L) (some 0)) (.v (.slice none 0 0))],bB,bB,rfl,rfl,rfl⟩
theorem UW (lv:List Wd) (c:au) (a:List (Wd × Wd)) (h:av c) (hi:RM c a) (hf:c.f.1=0):yq (fun _=>ln) (fun _=>CV) (fun a=>UT lv a) zI mi RM 164 3 1 c a where
 ok:=(yJ (l:=a) h).1
 l:=(yJ (l:=a) h).2.l
 p:=(yJ (l:=a) h).2.p
 inv:=fun h0=>by
  have h0:(dc c).2.f.1=0:=h0;have e1:=Ge bigN [] c.aK (c.aq.ai fh) h0;have e2:=((aR.aq c).trans (aR.ai c.aq fh)).p;have e3:=hi hf;show (a ++ (dc c).1).length<=(dc c).2.p;rw [List.length_append];unfold dc;simp only [List.length_nil] at e1;omega
 ev:=Db lv c h a (by
  have h1:=h.lt;have h2:=h.len;have h3:=hi hf
  omega)
theorem RO (c:au) (a:List (Wd × Wd)) (_:av c) (hi:RM c a):RM (c.ai ⟨#[44]⟩) a:=fun h0=>Nat.le_trans (hi (bM h0)) (pf c _)
theorem I2 (lv:List Wd) (c:au) (h:av c):Ev prog 160 [gT,.v (.string bl),.v (.bool true),.fn 164 [] [.loc 3 0,.loc 1 0]] [aH c,ln,CV,UT lv []] [zI []]
  (fun r os tk=>r = .bK []/\os=[aH (gf c).2,ln,CV,UT lv (gf c).1]/\tk=[zI (gf c).1]):=by
 have hlen:=h.len;have hb:=eS;have e:=Bu (A:=fun _=>ln) (B:=fun _=>CV) (C:=fun a=>UT lv a) (T:=zI) (f:=mi) (Inv:=RM) (by decide) (by decide) (fun _=>rfl) (fun _=>rfl) (fun _=>rfl) aa7 (fun c a hc hi hf=>UW lv c a hc hi hf) RO bl bigN c [] h (fun _=>Nat.zero_le _) (by omega)
 have hR:gf c=((pU mi bl bigN c []).2,(pU mi bl bigN c []).1):=by
  unfold gf pU pT;simp only [Bool.true_and];split<;>rfl
 rw [hR];exact e
theorem Gf (c:au) (h:av c):Ev prog 160 [gT,.v (.string bl),.v (.bool false),.fn 161 [] [.loc 3 0,.loc 1 0]] [aH c,ln,CV,MS []] [Be []]
  (fun r os tk=>r = .bK []/\os=[aH (listF fg bl bigN c []).1,ln,CV,MS (listF fg bl bigN c []).2]/\tk=[Be (listF fg bl bigN c []).2]):=
 uJ bigN c h (by have:=h.len;have:=eS;omega) (.inl (Nat.zero_le _))
set_option maxHeartbeats 4000000 in
theorem Dc (c:au) (h:av c) (hd:c.d=0):Ev prog 86 [gT] [aH c] [] (jX (.agg (iG (eT c).1)) (eT c).2):=by
 generalize hR:eT c=R;unfold eT MX tK mj at hR;have hb:=eS;have s1:=F6 (Sm.self h);have o1:=s1.sm.ok;have d1:(iQ c).2.d=0:=by rw [s1.st.d,hd]
 have a1:=jO c h b9;have a2:=bV _ (h.kw b9) bI;have a3:=Gf _ ((h.kw b9).ai bI);have hS1:iQ c=((listF fg bl bigN ((c.kw b9).ai bI) []).2,(listF fg bl bigN ((c.kw b9).ai bI) []).1):=rfl;rw [hS1] at hR o1 d1;generalize listF fg bl bigN ((c.kw b9).ai bI) []=R1 at a3 o1 d1 hR;generalize (c.kw b9).ai bI=c2 at a2 a3;generalize (c.kw b9).is 4 bI=B1 at a2;generalize c.kw b9=c1 at a1 a2;obtain ⟨⟨WO,WQ,WR,WS,WT⟩,lv⟩:=R1;simp only at a3 o1 d1 hR;have b1:=cL ⟨WO,WQ,WR,WS,WT⟩ o1 lr;unfold au.o9 at b1;have b2:=bV _ o1.step bI;have o2:=o1.step.ai bI;have s2:=yF (Sm.self o2);have o3:=s2.sm.ok;have d3:(gf ((au.step ⟨WO,WQ,WR,WS,WT⟩).ai bI)).2.d=0:=by rw [s2.st.d,(aR.ai _ _).d,(aR.step _).d];exact d1
 have b3:=I2 lv _ o2;generalize au.is ⟨WO,WQ,WR,WS,WT⟩ 1 lr=B at b1 hR;generalize gf ((au.step ⟨WO,WQ,WR,WS,WT⟩).ai bI)=R2 at b3 o3 d3 hR;generalize (au.step ⟨WO,WQ,WR,WS,WT⟩).ai bI=c4 at b2 b3;generalize (au.step ⟨WO,WQ,WR,WS,WT⟩).is 4 bI=B2 at b2;generalize au.step ⟨WO,WQ,WR,WS,WT⟩=c3 at b1 b2;obtain ⟨l,p,d,f1,f2⟩:=c;obtain ⟨l1,p1,Bv,f11,f21⟩:=c1;obtain ⟨l2,p2,d2,f12,f22⟩:=c2;obtain ⟨l3,p3,SF,f13,f23⟩:=c3;obtain ⟨l4,p4,d4,f14,f24⟩:=c4;obtain ⟨od,s2l,s2p,s2d,s2f,s2g⟩:=R2;simp only at b3 o3 d3 hR;refine eG 46 [.cell 2 38] func86 rfl ntmps86 rfl fun _ _ _ _=>?_;refine ak 1 JL a1 ?_;refine ak 1 fX a2 ?_;refine rX (Be []) (Y1 ⟨l2,p2,d2,f12,f22⟩ []) rfl ?_ rfl ?_ ?_ rfl rfl ?_
 ·repeat' (first | exact rfl | exact az rfl | refine ⟨_,_,rfl,?_,?_⟩)
 ·repeat' (first | exact rfl | exact az rfl | exact dj (bn _) rfl | refine ⟨_,_,rfl,?_,?_⟩)
 ·repeat' (first | exact trivial | exact az rfl | refine ⟨⟨_,rfl,?_⟩,?_⟩)
 refine xu 4 1 Em rfl rfl rfl bB bB a3 (fun r eO cA hΦ _ _=>?_);obtain ⟨rfl,rfl,rfl⟩:=hΦ;refine ⟨adF ⟨WO,WQ,WR,WS,WT⟩ lv,US (Bz 4 [zI []] (by simp [TkE.new,Nat.beq]) rfl rfl rfl rfl (by repeat' (first | exact rfl | exact az rfl | exact dj (bn _) rfl | exact .inr (.inr (.inr (.inl ⟨_,_,_,rfl,rfl⟩))) | refine ⟨_,_,rfl,?_,?_⟩)) wB),?_⟩;cases B;rw [ag (by simp)] at b1 hR;clear b2 b3 o3 d3;have o3:=o1;have d3:=d1
 let od:List (Wd × Wd):=[]
 simp only at hR;refine ak 1 gL b1 ?_
 rotate_left
 rw [ah rfl] at b1 hR;simp only at hR;refine ak 1 gL b1 ?_;refine ak 1 fX b2 ?_;refine fw 4 1 Em rfl rfl rfl bB bB b3 (fun r eO cA hΦ _ _=>?_);obtain ⟨rfl,rfl,rfl⟩:=hΦ
 all_goals
  have hlen:=av.len o3;generalize hR3:pTypes bigN [] _=R3 at hR;refine cH (fun j st=>∃ (c1:au) (l:List (Wd × Ty)) (n:Nat),st=RL c1 lv od l n/\n=l.length/\av c1/\c1.d=0/\pTypes j l c1=R3/\(c1.f.1=0->c1.l.length < c1.p + j)/\1<=j/\l.length + j<=bigN) bigN (RL _ lv od [] 0) (Bz 4 [adE 0] (by simp [TkE.new,Nat.beq]) rfl rfl rfl rfl (by repeat' (first | exact rfl | exact az rfl | exact dj (bn _) rfl | exact .inr (.inr (.inr (.inl ⟨_,_,_,rfl,rfl⟩))) | refine ⟨_,_,rfl,?_,?_⟩)) wB) ⟨_,[],0,rfl,rfl,o3,d3,hR3,fun _=>by simp only at hlen ⊢;omega,by omega,by simp⟩ ?_;rintro j st ⟨c1,l,n,rfl,hn,h1,E7,uO,aE,hj,jk⟩;obtain ⟨m,rfl⟩:∃ m,j=m + 1:=⟨j - 1,by omega⟩;rw [pTypes] at uO;have r1:=cL c1 h1 oF;unfold au.o9 at r1
  cases Ze:c1.is 1 oF with
  | true=>
   rw [Ze,ah rfl] at r1 uO;have f1:c1.f.1=0:=Sm.dE (by decide) Ze;have aE:=aE f1;have o1:=h1.step;have s1:=vM Ze (by decide);have py:=o1.lt;rw [s1] at py;have s2:=(aR.aq c1.step).trans (aR.ai c1.step.aq sq);have d2:(c1.step.aq.ai sq).d=0:=by rw [s2.d,(aR.step _).d,E7]
   have o2:=o1.aq.ai sq;have s3:=k24.st o2 d2;have o3:=k24.ok o2 d2;have r2:=ed _ o1;have r3:=bV _ o1.aq sq;have r4:=WN _ o2 d2
   have ZG:c1.p + 1<=(pKind 24 (c1.step.aq.ai sq)).2.p:=by
    have:=s2.p;have:=s3.p;rw [s1] at *;simp only at *;omega
   have hll:(pKind 24 (c1.step.aq.ai sq)).2.l=c1.l:=by rw [s3.l,s2.l,(aR.step _).l]
   have hdd:(pKind 24 (c1.step.aq.ai sq)).2.d=0:=by rw [s3.d,d2]
   generalize pKind 24 (c1.step.aq.ai sq)=T at r4 uO o3 ZG hll hdd;generalize c1.step.aq.is 4 sq=B3 at r3;generalize c1.step.aq.ai sq=v3 at r3 r4;generalize c1.step.aq=v2 at r2 r3;generalize c1.step.aK=W at r2 uO;generalize c1.step=v1 at r1 r2;obtain ⟨x0,y0,z0,u0,t0⟩:=c1;obtain ⟨x1,y1,z1,u1,t1⟩:=v1;obtain ⟨x2,y2,z2,u2,t2⟩:=v2;obtain ⟨x3,y3,z3,u3,t3⟩:=v3;obtain ⟨ws,wa⟩:=W;obtain ⟨⟨th,tp⟩,x4,y4,z4,u4,t4⟩:=T;simp only at aE ZG hll hdd uO o3 py;refine ak 1 gL r1 ?_;refine ak 1 nZ r2 ?_;refine ak 1 fX r3 ?_;refine ak 1 wN r4 ?_;refine ⟨by rw [dN];exact hn.symm,⟨by simp [maxLen,dN];omega,by simp [dN];omega⟩,?_⟩;exact ⟨RL ⟨x4,y4,z4,u4,t4⟩ lv od (l ++ [(⟨ws,wa⟩,.mk th tp)]) (n + 1),(kD 4 (Ea (BA l ⟨ws,wa⟩ (.mk th tp))) (gv (BA l ⟨ws,wa⟩ (.mk th tp)))),m,by omega,_,_,_,rfl,by simp [hn],o3,hdd,uO,fun _=>by show x4.length < y4 + m;rw [hll];omega,by omega,by simp;omega⟩
  | false=>
   rw [Ze,ag (by simp)] at r1 uO;subst uO;simp only at hR;have r6:=jO c1 h1 fc;have d5:(c1.kw fc).d=0:=by rw [(aR.kw _ _).d,E7]
   have r7:=WN _ (h1.kw fc) d5;generalize pKind 24 (c1.kw fc)=T at r7 hR;generalize c1.kw fc=v5 at r6 r7;obtain ⟨x5,y5,z5,u5,t5⟩:=v5;obtain ⟨⟨th,tp⟩,x6,y6,z6,u6,t6⟩:=T;obtain ⟨x0,y0,z0,u0,t0⟩:=c1;simp only at hR;subst hR;refine ak 1 gL r1 ?_;refine ak 1 JL r6 ?_;refine ak 1 wN r7 ?_;exact ⟨.agg (iG _),[aH _],bB,bB,rfl,rfl,rfl⟩
end Go.Proofs.YtfdedoiiahbnnaaGreat
set_option maxRecDepth 100000
namespace Go.Proofs.YtfdedoiiahbnnaaGreat
open Go Go.RowKit Dv Go.Proofs.Tryz
def KO (l:List dD) (f:Ft):DV:=if f.1=0 then .bK [.sl 5 (gp l) none,Ft.d f] else .bK [.v (.slice none 0 0),Ft.d f]
theorem Gg (l:List dD):KO l (0,0) = .bK [.sl 5 (gp l) none,Ft.d (0,0)]:=rfl
theorem BD {l:List dD} {f:Ft} (h:¬ f.1=0):KO l f = .bK [.v (.slice none 0 0),Ft.d f]:=by rw [KO,ag h]
set_option maxHeartbeats 2000000 in
theorem I3 (s:ByteArray) (hs:s.size<=65536) (l:List dD) (f:Ft) (hl:mf s 0 l f) (hf:f.1=0->f=(0,0)):bA prog 157 [.v (.string s)] (KO (l ++ [gR s.size]) f):=by
 refine eG 63 [.tmp 2,.cell 3 26] func157 rfl ntmps157 rfl fun _ _ _ _=>?_;refine br (fun g=>absurd (show 65536 < s.size by have:=of_decide_eq_true g;omega) (by omega)) (fun _=>?_);refine lI (fun j st=>∃ (i q:Nat) (L r:List dD),st=Q6 s L q i/\q=L.length/\mf s i r f/\(f.1=0->L ++ r=l)/\L.length<=i/\i<=s.size/\j=s.size - i) ⟨0,0,[],l,rfl,rfl,hl,fun _=>rfl,by simp,by omega,rfl⟩ (jG 2 ⟨0,218,5,none⟩ rfl rfl rfl JB rfl rfl vb) ?_;rintro j st ⟨i,q,L,r,rfl,hq,hr,NY,hLi,his,rfl⟩;refine br (fun aE=>?_) (fun hge=>?_)
 ·have aE:i < s.size:=sU aE;have hb:=yl (aA s i);obtain ⟨z,hz⟩:∃ z:Int,z=((aA s i:Nat):Int):=⟨_,rfl⟩;have nV:((aA s (i:Int).toNat:Nat):Int)=z:=by rw [lD,hz]
  rw [<- hz] at hb;refine ⟨⟨by omega,by omega⟩,?_⟩;rw [nV]
  cases hr with
  | nil=>omega
  | blank _ h1 h2=>
   rw [h1] at hb;refine cP wP hb ?_;exact ⟨Q6 s L q (i + 1),(kD 2 (Ea (cR aE (by omega))) (gv (cR aE (by omega)))),s.size - (i + 1),by omega,i + 1,q,L,_,rfl,hq,h2,NY,by omega,by omega,rfl⟩
  | @rem _ e _ _ _ h59 hrm h4 h5 h6=>
   rw [h59] at hz;have hbl:ju (aA s i)=false:=by rw [h59];all_goals rfl
   rw [hbl] at hb;have tW:=uH s (by omega) i his;rw [hrm] at tW;refine cP wP hb ?_;refine ⟨⟨by omega,by omega⟩,?_⟩;rw [nV];refine br (fun _=>?_) (fun g=>absurd (show z=59 by omega) (sU g));refine cP VK tW ?_;exact ⟨Q6 s L q e,(kD 2 JB vb),s.size - e,by omega,e,q,L,_,rfl,hq,h6,NY,by omega,h5,rfl⟩
  | @YU _ e _ _ h59 hrm h4=>
   rw [h59] at hz;have hbl:ju (aA s i)=false:=by rw [h59];all_goals rfl
   rw [hbl] at hb;have tW:=uH s (by omega) i his;rw [hrm] at tW;obtain ⟨f1,f2⟩:=f;rw [BD h4];simp only at h4;refine cP wP hb ?_;refine ⟨⟨by omega,by omega⟩,?_⟩;rw [nV];refine br (fun _=>?_) (fun g=>absurd (show z=59 by omega) (sU g));refine cP VK tW ?_;refine br (fun _=>?_) (fun g=>absurd g (by simp [h4]));refine br (fun _=>?_) (fun g=>absurd g (by simp [h4]));refine cr [0] (fun _=>false) mo (by decide +kernel) ?_;exact ⟨_,ax,rfl⟩
  | @tok _ e t l' _ _ h1 h2 h3 h4 h5 h6 h7=>
   rw [h1] at hb;have gj:=ym s (by omega) i aE;rw [h3] at gj;refine cP wP hb ?_;refine ⟨⟨by omega,by omega⟩,?_⟩;rw [nV];refine br (fun g=>absurd (show aA s i=59 by have:=of_decide_eq_true g;omega) h2) (fun _=>?_);obtain ⟨tk,ta,te,ts,tn⟩:=t;simp only at h4;subst h4;refine cP OQ gj ?_;refine ⟨(dK L).trans hq.symm,⟨by simp [maxLen,dK];omega,by simp [dK];omega⟩,?_⟩;exact rE ⟨_,by omega,e,q + 1,L ++ [⟨tk,ta,e,ts,tn⟩],l',rfl,by simp [hq],h7,fun h=>by simpa using NY h,by simp;omega,h6,rfl⟩ (kD 2 (Ea (iO L ⟨tk,ta,e,ts,tn⟩)) (gv (iO L ⟨tk,ta,e,ts,tn⟩)))
  | @YV _ t _ _ h1 h2 h3 h4=>
   rw [h1] at hb;have gj:=ym s (by omega) i aE;rw [h3] at gj;obtain ⟨f1,f2⟩:=f;rw [BD h4];simp only at h4;obtain ⟨tk,ta,te,ts,tn⟩:=t;refine cP wP hb ?_;refine ⟨⟨by omega,by omega⟩,?_⟩;rw [nV];refine br (fun g=>absurd (show aA s i=59 by have:=of_decide_eq_true g;omega) h2) (fun _=>?_);refine cP OQ gj ?_;refine br (fun _=>?_) (fun g=>absurd g (by simp [h4]));refine br (fun _=>?_) (fun g=>absurd g (by simp [h4]));refine cr [0] (fun _=>false) mo (by decide +kernel) ?_;exact ⟨_,ax,rfl⟩
 ·have hge:s.size=i:=by
   have:=of_decide_eq_false hge;omega
  subst hge
  cases hr with
  | nil=>
   have NY:=NY rfl;rw [List.append_nil] at NY;subst NY;rw [Gg];refine cr [0] (fun _=>false) mo (by decide +kernel) ?_;refine ⟨(dK L).trans hq.symm,⟨by simp [maxLen,dK];omega,by simp [dK];omega⟩,?_⟩;rw [<- iO];exact ⟨_,ax,rfl⟩
  | blank h=>exact absurd h (Nat.lt_irrefl _)
  | rem h=>exact absurd h (Nat.lt_irrefl _)
  | YU h=>exact absurd h (Nat.lt_irrefl _)
  | tok h=>exact absurd h (Nat.lt_irrefl _)
  | YV h=>exact absurd h (Nat.lt_irrefl _)
def pV (K:List Nat) (e:Ed):Nat:=K.getD e.to.toNat 0
def leastR (K:List Nat):List Ed->Nat->Nat
 | [],m=>m + 1
 | e :: r,m=>if pV K e=0 then 0 else leastR K r (max m (pV K e))
def cY (K:List Nat):List Ed->Nat->Nat
 | [],b=>if b=0 then 0 else b + 1
 | e :: r,b=>if e.bare=true then 1 else if 0 < pV K e/\(b=0∨pV K e < b) then cY K r (pV K e) else cY K r b
def cz (n:Nd) (K:List Nat):Nat:=if n.al=7 then leastR K n.cB 0 else if n.al=8 then cY K n.cB 0 else 1
def depN (ND:List Nd):Nat->List Nat
 | 0=>List.replicate ND.length 0
 | d + 1=>ND.map fun n=>cz n (depN ND d)
theorem depN_len (ND:List Nd):∀ d,(depN ND d).length=ND.length
 | 0=>by simp [depN]
 | d + 1=>by simp [depN]
theorem depN_get (ND:List Nd) (d j:Nat):(depN ND (d + 1)).getD j 0=match ND[j]? with | none=>0 | some n=>cz n (depN ND d):=by grind [depN]
def M6 (d:Nat) (A B:List Nat):Prop:=∀ j:Nat,(0 < A.getD j 0->B.getD j 0=A.getD j 0/\A.getD j 0<=d)/\(A.getD j 0=0->B.getD j 0=0∨B.getD j 0=d + 1)
theorem Dd {d:Nat} {A B:List Nat} (h:M6 d A B) (j:Nat):B.getD j 0<=d + 1:=by
 obtain ⟨h1,h2⟩:=h j;omega
theorem uR {K:List Nat}:∀ {es:List Ed} {m:Nat},leastR K es m=0↔∃ e∈es,pV K e=0
 | [],m=>by simp [leastR]
 | e :: r,m=>by
  rw [leastR];by_cases h:pV K e=0
  ·grind
  ·rw [ag h,uR]
   grind
theorem uS {d:Nat} {A B:List Nat} (hR:M6 d A B):∀ {es:List Ed} {m:Nat},0 < leastR A es m->leastR B es m=leastR A es m
 | [],m,_=>rfl
 | e :: r,m,h=>by
  rw [leastR] at h ⊢;rw [leastR];by_cases h0:pV A e=0
  ·rw [ah h0] at h;omega
  rw [ag h0] at h ⊢;have h1:pV B e=pV A e:=((hR e.to.toNat).1 (by unfold pV at h0;omega)).1;rw [h1,ag h0];exact uS hR h
theorem yO {d:Nat} {A B:List Nat} (hR:M6 d A B):∀ {es:List Ed} {m:Nat},m<=d + 1->(m=d + 1∨∃ e∈es,pV A e=0)->leastR B es m=0∨leastR B es m=d + 2
 | [],m,_,h=>by grind [leastR]
 | e :: r,m,hm,h=>by
  rw [leastR];by_cases h0:pV B e=0
  ·rw [ah h0];exact .inl rfl
  rw [ag h0];have jk:pV B e<=d + 1:=Dd hR _;refine yO hR (by omega) ?_;rcases h with h | ⟨x,hx,h⟩
  ·left;omega
  ·rcases dM hx with rfl | hx
   ·left;have:=(hR x.to.toNat).2 h;unfold pV at h0 jk ⊢;omega
   ·exact .inr ⟨x,hx,h⟩
theorem ny {d:Nat} {A B:List Nat} (hR:M6 d A B):∀ {es:List Ed} {a b:Nat},(0 < a->b=a/\a<=d)->(a=0->b=0∨b=d + 1) ->
  (0 < cY A es a->cY B es b=cY A es a)/\(cY A es a=0->cY B es b=0∨cY B es b=d + 2)
 | [],a,b,h1,h2=>by grind [cY]
 | e :: r,a,b,h1,h2=>by
  rw [cY,cY];by_cases hb:e.bare=true
  ·grind
  rw [ag hb,ag hb];obtain ⟨g1,g2⟩:=hR e.to.toNat;change (0 < pV A e->pV B e=pV A e/\pV A e<=d) at g1;change (pV A e=0->pV B e=0∨pV B e=d + 1) at g2;by_cases c1:0 < pV A e/\(a=0∨pV A e < a)<;>by_cases c2:0 < pV B e/\(b=0∨pV B e < b)
  ·rw [ah c1,ah c2];exact ny hR (by omega) (by omega)
  ·omega
  ·rw [ag c1,ah c2];exact ny hR (by omega) (by omega)
  ·rw [ag c1,ag c2];exact ny hR (by omega) (by omega)
theorem I4 {d:Nat} {A B:List Nat} (hR:M6 d A B) (n:Nd):(0 < cz n A->cz n B=cz n A)/\(cz n A=0->cz n B=0∨cz n B=d + 2):=by
 unfold cz;by_cases h7:n.al=7
 ·rw [ah h7,ah h7];exact ⟨uS hR,fun h=>yO hR (by omega) (.inr (uR.1 h))⟩
 grind [ny]
theorem Gh (N:Nat) (e:Ed):pV (List.replicate N 0) e=0:=by grind [pV]
theorem uT (N:Nat):∀ es:List Ed,cY (List.replicate N 0) es 0=0∨cY (List.replicate N 0) es 0=1
 | []=>.inl rfl
 | e :: r=>by
  rw [cY,Gh];by_cases hb:e.bare=true
  ·rw [ah hb];exact .inr rfl
  ·rw [ag hb,ag (by omega)];exact uT N r
theorem Gi (N:Nat) (n:Nd):cz n (List.replicate N 0)=0∨cz n (List.replicate N 0)=1:=by
 unfold cz;by_cases h7:n.al=7
 ·rw [ah h7]
  cases h:n.cB with
  | nil=>right;rfl
  | cons e r=>left;rw [leastR,Gh,ah rfl]
 grind [uT]
theorem BE (ND:List Nd) (j:Nat):(depN ND 0).getD j 0=0:=by grind [depN]
theorem sa (ND:List Nd):∀ d,M6 d (depN ND d) (depN ND (d + 1))
 | 0=>fun j=>by
  refine ⟨fun h=>by rw [BE] at h;omega,fun _=>?_⟩;rw [depN_get]
  cases ND[j]? with
  | none=>exact .inl rfl
  | some n=>exact Gi _ n
 | d + 1=>fun j=>by
  have ih:=sa ND d
  grind [depN_get,I4,Dd]
theorem UX (ND:List Nd):∀ d j,(depN ND d).getD j 0<=d
 | 0,j=>by rw [BE];omega
 | d + 1,j=>Dd (sa ND d) j
def posL (K:List Nat):List Bool:=K.map fun k=>decide (0 < k)
theorem yP (K:List Nat) (j:Nat):(posL K).getD j false=decide (0 < K.getD j 0):=by grind [posL]
theorem posL_len (K:List Nat):(posL K).length=K.length:=by simp [posL]
theorem yQ {A B:List Nat} (hl:A.length=B.length) (h:∀ j,A.getD j 0=B.getD j 0):A=B:=by
 refine List.ext_getElem hl fun j h1 h2=>?_;have:=h j
 grind
theorem depN_posle (ND:List Nd) (d:Nat):LeB (posL (depN ND d)) (posL (depN ND (d + 1))):=fun j h=>by
 rw [yP] at h ⊢;have h:=of_decide_eq_true h;have:=((sa ND d) j).1 h;exact decide_eq_true (by omega)
theorem depN_same {ND:List Nd} {d:Nat} (h:posL (depN ND d)=posL (depN ND (d + 1))):depN ND (d + 1)=depN ND d:=by
 refine yQ (by rw [depN_len,depN_len]) fun j=>?_;obtain ⟨h1,h2⟩:=(sa ND d) j;rcases Nat.eq_zero_or_pos ((depN ND d).getD j 0) with h3 | h3
 ·have h4:=yP (depN ND d) j
  grind [yP,depN]
 ·exact (h1 h3).1
theorem depN_step (ND:List Nd):∀ d,depN ND (d + 1)=depN ND d∨d<=HZ (posL (depN ND d))
 | 0=>.inr (Nat.zero_le _)
 | d + 1=>by
  rcases depN_step ND d with h | h
  ·grind [cz,depN]
  ·rcases (leB_eq (by rw [posL_len,posL_len,depN_len,depN_len]) (depN_posle ND d)).1 with h2 | h2
   ·grind [depN_same,cz,depN]
   ·exact .inr (by omega)
theorem depN_fix {ND:List Nd} {d:Nat} (h:depN ND (d + 1)=depN ND d):∀ k,depN ND (d + k)=depN ND d
 | 0=>rfl
 | k + 1=>by
  show (ND.map fun n=>cz n (depN ND (d + k)))=_;rw [depN_fix h k];exact h
theorem depN_end (ND:List Nd):depN ND (ND.length + 1)=depN ND ND.length:=by grind [depN_step,leB_eq,posL_len,depN_len,depN_posle,depN_same,cntB_le,posL]
theorem UY {ND:List Nd} {d:Nat} (h:depN ND (d + 1)≠depN ND d):d < ND.length:=by
 rcases Nat.lt_or_ge d ND.length with h1 | h1
 ·exact h1
 ·obtain ⟨k,rfl⟩:∃ k,d=ND.length + k:=⟨d - ND.length,by omega⟩;exfalso;have h2:=depN_fix (depN_end ND) k;have h3:=depN_fix (depN_end ND) (k + 1)
  grind
theorem RP {ND:List Nd} {d:Nat} (h:depN ND (d + 1)=depN ND d):depN ND (d + 1)=depN ND ND.length:=by
 rcases Nat.lt_or_ge d ND.length with h1 | h1
 ·obtain ⟨k,hk⟩:∃ k,ND.length=d + k:=⟨ND.length - d,by omega⟩;rw [hk,depN_fix h k,h]
 ·obtain ⟨k,hk⟩:∃ k,d + 1=ND.length + k:=⟨d + 1 - ND.length,by omega⟩;rw [hk,depN_fix (depN_end ND) k]
def cN (l:List Nat):List DV:=l.map fun (z:Nat)=>DV.v (.int .i64 (z:Int))
theorem RQ (l:List Nat):(cN l).length=l.length:=by simp [cN]
theorem Zf {l:List Nat} {i z:Nat} (h:l[i]? = some z):(cN l)[i]? = some (DV.v (.int .i64 (z:Int))):=by simp [cN,h]
theorem Zg (l:List Nat) (i z:Nat):(cN l).set i (DV.v (.int .i64 (z:Int)))=cN (l.set i z):=by simp [cN,List.map_set]
theorem yR (l:List Nat):(dInts l).flatten=cN l:=by
 induction l with
 | nil=>rfl
 | cons b r ih=>simp only [dInts,cN,List.map_cons,List.flatten_cons] at ih ⊢;rw [ih];all_goals rfl
theorem Zh (n:Nat):(List.replicate n (vL [Value.int .i64 0])).flatten=cN (List.replicate n 0):=by
 induction n with
 | zero=>rfl
 | succ n ih=>simp only [List.replicate_succ,List.flatten_cons,ih];rfl
theorem dR {n m:Nat} {tk:List TkE} {l:List DV} {r:List Nat} (h:l=cN r):WeL n m tk l (cN r):=by
 subst h;refine Cz _ fun x hx=>?_;obtain ⟨z,_,rfl⟩:=List.mem_map.1 hx;exact ⟨_,rfl⟩
theorem adH {bx:List (List DV)} {N n0 m0 n i:Nat} {r:List Nat} (hr:r.length=n) (hN:N<=i) (hb:bx[i]? = some (cN r)):Cc bx N n0 m0 (.sl 1 (dInts r) none) (.ms i 1 0 n n):=by
 simp only [Cc];refine Or.inr (Or.inr (Or.inl ⟨i,0,n,_,by rw [cy,hr],hN,hb,?_,?_,?_⟩))
 ·grind [yR,RQ,cy]
 ·grind [dInts]
 ·intro x hx;rw [yR] at hx;obtain ⟨_,_,rfl⟩:=List.mem_map.1 hx;exact .inl ⟨_,rfl⟩
abbrev adI (PC:List DV) (ND:List Nd) (q e:Nat):St:=
 ⟨[wD 0 PC,(3,⟨[],.sl 7 (dW (ND.take e)) (some 0)⟩),aJ 8 ND.length,aJ 9 e],[],[⟨q,82,7,none⟩]⟩
theorem M7 {l:List Nd} {e:Nat} {n:Nd} (h:l[e]? = some n):dW (l.take e) ++ [NV n]=dW (l.take (e + 1)):=by
 rw [List.take_add_one,h];simp [dW]
theorem sb {S:Sch} {ND:List Nd} {PC:List DV} (hP:mc S ND PC) :
  bA prog 100 [.pt PC 0] (.sl 7 (dW ND) none):=by
 have h1:=hP.len;have h2:=hP.aj;have kR:=hP.nl;refine eG 24 [.tmp 2] func100 rfl ntmps100 rfl fun _ _ _ _=>?_;refine cP Lw h1 ?_;refine lJ (fun e=>adI PC ND e e) ND.length (gk ⟨0,82,7,none⟩ rfl ⟨_,rfl⟩ rfl wA rfl rfl vb) ?_;intro e he;refine br ?_ ?_<;>intro hL
 ·have aE:e < ND.length:=by have:=hL;simp at this;exact this
  obtain ⟨n,hn⟩:=gX aE;have hml:(dW (ND.take e)).length=e:=by rw [ow,zLenT];omega
  refine cP XO (h2 e n hn) ?_;refine ⟨hml,⟨by rw [hml];simp [maxLen];omega,by rw [hml];simp;omega⟩,?_⟩;exact rE ⟨_,by omega,e + 1,rfl,by omega,rfl⟩ (dg (re (cR aE (by omega)) (M7 hn)))
 ·have hge:e=ND.length:=by have:=hL;simp at this;omega
  subst hge;rw [List.take_length];exact ⟨_,ax,rfl⟩
abbrev WU (K:List Nat) (es:List Ed) (m e:Nat):St:=
 ⟨[dH 1 1 (dInts K),aJ 5 m,dH 16 10 (pE es),aJ 17 ((pE es).length),aJ 18 e],[],[]⟩
abbrev Gj (K:List Nat) (es:List Ed) (m e:Nat):St:=
 ⟨[dH 1 1 (dInts K),aJ 8 m,dH 41 10 (pE es),aJ 42 ((pE es).length),aJ 43 e],[],[]⟩
theorem De {L:Nat} {n:Nd} (K:List Nat) (hK:K.length<=1099511627776) (hn:QL L K.length n) (hz:∀ z∈K,z<=1099511627776) (Hh:n.cB.length<=1099511627776) :
  bA prog 185 [.agg (NV n),.sl 1 (dInts K) none] (.v (.int .i64 (cz n K:Nat))):=by
 have AS:=hn.Md;have adJ:=hn.bare;obtain ⟨al,dA,lo,hi,most,af,es⟩:=n;simp only at AS adJ Hh;refine eG 80 [.tmp 4] func185 rfl ntmps185 rfl fun _ _ _ _=>?_;refine br ?_ ?_<;>intro h7
 ·have h7:al=7:=sU h7;have hF:cz ⟨al,dA,lo,hi,most,af,es⟩ K=leastR K es 0:=by simp [cz,h7]
  rw [hF];refine lI (fun j st=>∃ e m:Nat,st=WU K es m e/\e<=es.length/\m<=1099511627776/\leastR K es 0=leastR K (es.drop e) m/\j=es.length - e) ⟨0,0,rfl,by omega,by omega,rfl,rfl⟩ (dg wB) ?_;rintro j st ⟨e,m,rfl,he,hm,bN,rfl⟩;refine br ?_ ?_<;>intro hL
  ·have aE:e < es.length:=by have:=hL;simp [ik] at this;exact this
   obtain ⟨x,hx⟩:=gX aE;rw [drop_cons hx,leastR] at bN;have Oi:=AS x (mG hx);have hxb:x.bare=false:=by grind
   obtain ⟨k,hk,D6⟩:=Oi.to1 hxb;obtain ⟨z,hz1⟩:∃ z,K[k]? = some z:=⟨_,gE D6⟩;have hzl:=hz z (mG hz1);have hed:pV K x=z:=by simp [pV,hk,nz,hz1]
   have hg:(dInts K)[x.to.toNat]? = some [DV.v (.int .i64 (z:Int))]:=by rw [hk];exact dJ hz1
   rw [hed] at bN;refine iX (x7 hx) ?_;refine ⟨_,⟨by omega,hg⟩,?_⟩;refine br ?_ ?_<;>intro g
   ·have g:z=0:=sU g;rw [bN,ah g];exact (rfl:_=_)
   ·have g:¬ z=0:=sU g;rw [ag g] at bN;refine ⟨_,⟨by omega,hg⟩,?_⟩;exact ⟨WU K es (max m z) (e + 1),(dg (re (show max (m:Int) z=((max m z:Nat):Int) by omega) (cR aE (by omega)))),es.length - (e + 1),by omega,e + 1,_,rfl,by omega,by omega,bN,rfl⟩
  ·have hge:e=es.length:=by have:=hL;simp [ik] at this;omega
   subst hge;rw [List.drop_length,leastR] at bN;have hw:IntKind.i64.wrap ((m:Int) + 1)=((m + 1:Nat):Int):=by rw [wrap64 (by omega) (by omega)];omega
   rw [bN];refine (Eb ?_:);exact hw
 have h7:¬ al=7:=sU h7;refine br ?_ ?_<;>intro h8
 ·have h8:al=8:=sU h8;have hF:cz ⟨al,dA,lo,hi,most,af,es⟩ K=cY K es 0:=by simp [cz,h8]
  rw [hF];refine lI (fun j st=>∃ e m:Nat,st=Gj K es m e/\e<=es.length/\m<=1099511627776/\cY K es 0=cY K (es.drop e) m/\j=es.length - e) ⟨0,0,rfl,by omega,by omega,rfl,rfl⟩ (dg wB) ?_;rintro j st ⟨e,m,rfl,he,hm,bN,rfl⟩;refine br ?_ ?_<;>intro hL
  ·have aE:e < es.length:=by have:=hL;simp [ik] at this;exact this
   obtain ⟨x,hx⟩:=gX aE;rw [drop_cons hx,cY] at bN;have Oi:=AS x (mG hx);refine iX (x7 hx) ?_;refine br ?_ ?_<;>intro hb
   ·have hb:x.bare=true:=hb;rw [bN,ah hb];exact (rfl:_=_)
   have hb:x.bare=false:=hb;rw [ag (by rw [hb];decide)] at bN;obtain ⟨k,hk,D6⟩:=Oi.to1 hb;obtain ⟨z,hz1⟩:∃ z,K[k]? = some z:=⟨_,gE D6⟩;have hzl:=hz z (mG hz1);have hed:pV K x=z:=by simp [pV,hk,nz,hz1]
   have hg:(dInts K)[x.to.toNat]? = some [DV.v (.int .i64 (z:Int))]:=by rw [hk];exact dJ hz1
   rw [hed] at bN;refine ⟨_,⟨by omega,hg⟩,?_⟩;have gW:¬ (0 < z/\(m=0∨z < m))->cY K es 0=cY K (es.drop (e + 1)) m:=fun h=>by rw [bN,ag h]
   have take:(0 < z/\(m=0∨z < m))->cY K es 0=cY K (es.drop (e + 1)) z:=fun h=>by rw [bN,ah h]
   refine br ?_ ?_<;>intro g1
   ·have g1:0 < z:=by simpa [lastG] using g1
    refine br ?_ ?_<;>intro g2
    ·have g2:¬ m=0:=sU g2;refine ⟨_,⟨by omega,hg⟩,?_⟩;refine br ?_ ?_<;>intro g3
     ·have g3:z < m:=by simpa [pickB,pickD,lastG] using g3
      refine ⟨_,⟨by omega,hg⟩,?_⟩;exact ⟨Gj K es z (e + 1),(dg (gv (cR aE (by omega)))),es.length - (e + 1),by omega,e + 1,_,rfl,by omega,by omega,take ⟨g1,.inr g3⟩,rfl⟩
     ·have g3:¬ z < m:=by simpa [pickB,pickD,lastG] using g3
      exact ⟨Gj K es m (e + 1),(dg (gv (cR aE (by omega)))),es.length - (e + 1),by omega,e + 1,_,rfl,by omega,by omega,gW (by omega),rfl⟩
    ·have g2:m=0:=sU g2;refine ⟨_,⟨by omega,hg⟩,?_⟩;exact ⟨Gj K es z (e + 1),(dg (gv (cR aE (by omega)))),es.length - (e + 1),by omega,e + 1,_,rfl,by omega,by omega,take ⟨g1,.inl g2⟩,rfl⟩
   ·have g1:¬ 0 < z:=by simpa [lastG] using g1
    exact ⟨Gj K es m (e + 1),(dg (gv (cR aE (by omega)))),es.length - (e + 1),by omega,e + 1,_,rfl,by omega,by omega,gW (by omega),rfl⟩
  ·have hge:e=es.length:=by have:=hL;simp [ik] at this;omega
   subst hge;rw [List.drop_length,cY] at bN;refine br ?_ ?_<;>intro g
   ·have g:m=0:=sU g;rw [bN,ah g];exact (rfl:_=_)
   ·have g:¬ m=0:=sU g;rw [ag g] at bN;have hw:IntKind.i64.wrap ((m:Int) + 1)=((m + 1:Nat):Int):=by rw [wrap64 (by omega) (by omega)];omega
    rw [bN];refine (Eb ?_:);exact hw
 ·have h8:¬ al=8:=sU h8;have hF:cz ⟨al,dA,lo,hi,most,af,es⟩ K=1:=by simp [cz,h7,h8]
  rw [hF];exact (rfl:_=_)
def vp (ND:List Nd) (d e:Nat):Bool:=(List.range e).any fun i=>decide (¬ (depN ND (d + 1)).getD i 0=(depN ND d).getD i 0)
theorem M8 (ND:List Nd) (d e:Nat):vp ND d (e + 1)=(vp ND d e || decide (¬ (depN ND (d + 1)).getD e 0=(depN ND d).getD e 0)):=by
 simp [vp,List.range_succ]
theorem Gk {ND:List Nd} {d:Nat}:vp ND d ND.length=false↔depN ND (d + 1)=depN ND d:=by grind [yQ,depN_len,vp]
theorem I5 {ND:List Nd} {d:Nat} (hd:d<=1099511627776):∀ z∈depN ND d,z<=1099511627776:=fun z hz=>by
 obtain ⟨i,hi⟩:=List.mem_iff_getElem?.1 hz;have:=UX ND d i
 grind
abbrev RR (ND:List Nd) (d:Nat) (c:Bool):St:=
 ⟨[dH 3 7 (dW ND),dH 4 1 (dInts (depN ND d)),Oq 5 c],[],[]⟩
abbrev KP (ND:List Nd) (d:Nat) (c:Bool) (L:List Nat) (e:Nat):St:=
 ⟨[dH 3 7 (dW ND),dH 4 1 (dInts (depN ND d)),Oq 5 c,(6,⟨[],.ms 0 1 0 (dW ND).length (dW ND).length⟩),dH 18 7 (dW ND),aJ 19 ((dW ND).length),aJ 20 e],[cN L],[]⟩
theorem I6 {L:Nat} {ND:List Nd} {p:DV} (h0:bA prog 100 [p] (.sl 7 (dW ND) none)) (jh:∀ n∈ND,QL L ND.length n) (kR:ND.length<=1099511627776) (di:∀ n∈ND,n.cB.length<=1099511627776) (pJ:∀ bx N n m,Cc bx N n m p p) :
  bA prog 101 [p] (.sl 1 (dInts (depN ND ND.length)) none):=by
 have qM:=ow ND;refine eG 46 [.tmp 2] func101 rfl ntmps101 rfl fun _ _ _ _=>?_;refine cP Vv h0 ?_ (ug pJ);refine ⟨⟨rfl,by omega,by rw [qM];omega,by rw [qM];omega⟩,?_⟩;refine PJ (fun j st=>∃ (d:Nat) (c:Bool),st=RR ND d c/\(c=true->d<=ND.length)/\(c=false->depN ND d=depN ND ND.length)/\j=ND.length + 2 - d) (ND.length + 2) (RR ND 0 true) (.NR 0 rfl rfl rfl rfl ?_) ⟨0,true,rfl,by omega,by simp,by omega⟩ ?_
 ·refine ⟨⟨_,rfl,ax⟩,⟨_,rfl,adH (by rw [depN_len,qM];omega) (by omega) ?_⟩,⟨_,rfl,ax⟩,trivial⟩;refine congrArg some ?_;rw [Zh,qM];rfl
 rintro j st ⟨d,c,rfl,JE,qU,rfl⟩;refine br ?_ ?_<;>intro hc
 ·have hc:c=true:=hc;have hd:=JE hc;refine ⟨⟨rfl,by omega,by rw [qM];omega,by rw [qM];omega⟩,?_⟩;refine cH (fun j st=>∃ (e:Nat) (L:List Nat),st=KP ND d (vp ND d e) L e/\e<=ND.length/\L.length=ND.length/\(∀ i:Nat,i < e->L.getD i 0=(depN ND (d + 1)).getD i 0)/\j=ND.length - e) ND.length (KP ND d false (List.replicate ((dW ND).length:Int).toNat 0) 0) (kD 1 (by repeat' (first | exact rfl | exact az rfl | exact dR (Zh _) | refine ⟨_,_,rfl,?_,?_⟩)) (by repeat' (first | exact trivial | exact az rfl | exact dR (Zh _) | refine ⟨⟨_,rfl,?_⟩,?_⟩))) ⟨0,_,rfl,by omega,by rw [List.length_replicate,qM];omega,fun i hi=>by omega,by omega⟩ ?_;rintro j st ⟨e,L,rfl,he,hL,hLv,rfl⟩;refine br ?_ ?_<;>intro aE
  ·have aE:e < ND.length:=by have:=aE;simp [qM] at this;exact this
   obtain ⟨n,hn⟩:=gX aE;have hnm:=mG hn;have jk:=De (depN ND d) (by rw [depN_len];exact kR) (n:=n) (by rw [depN_len];exact jh n hnm) (I5 (by omega)) (di n hnm);refine iX (xY hn) ?_;refine cP aba jk ?_;refine ⟨⟨by omega,by rw [qM];omega⟩,?_⟩;refine ⟨by rw [RQ];omega,?_⟩;refine dI ?_;have hv:=depN_get ND d e;rw [hn] at hv;have hv:(depN ND (d + 1)).getD e 0=cz n (depN ND d):=hv;obtain ⟨z,hz⟩:∃ z,(depN ND d)[e]? = some z:=⟨_,gE (by rw [depN_len];exact aE)⟩;have hzd:(depN ND d).getD e 0=z:=by rw [nz,hz];all_goals rfl
   have cx:=M8 ND d e;rw [hv,hzd] at cx;have bp:(cN L).set (0 + (e:Int).toNat * 1) (DV.v (.int .i64 ((cz n (depN ND d):Nat):Int)))=cN (L.set e (cz n (depN ND d))):=by grind [Zg]
   have hLs:∀ i:Nat,i < e + 1->(L.set e (cz n (depN ND d))).getD i 0=(depN ND (d + 1)).getD i 0:=fun i hi=>by grind
   refine br ?_ ?_<;>intro g
   ·have g:vp ND d e=false:=sU g;rw [g,Bool.false_or] at cx;have hld:(cN (L.set e (cz n (depN ND d))))[0 + (e:Int).toNat * 1]? = some (DV.v (.int .i64 ((cz n (depN ND d):Nat):Int))):=by grind [Zf]
    refine ⟨⟨by omega,by rw [qM];omega⟩,?_⟩;rw [bp];refine ⟨_,hld,?_⟩;refine iX (dJ hz) ?_
    have hbo:(!decide (((cz n (depN ND d):Nat):Int)=(z:Int)))=vp ND d (e + 1):=by
     rw [cx,Bool.eq_iff_iff];simp;omega
    exact ⟨KP ND d (vp ND d (e + 1)) (L.set e (cz n (depN ND d))) (e + 1),(kD 1 (Vo hbo (cR aE (by omega))) (re hbo (cR aE (by omega)))),ND.length - (e + 1),by omega,e + 1,_,rfl,by omega,by rw [List.length_set];exact hL,hLs,rfl⟩
   ·have g:vp ND d e=true:=sU g;rw [g,Bool.true_or] at cx;exact ⟨KP ND d (vp ND d (e + 1)) (L.set e (cz n (depN ND d))) (e + 1),(kD 1 (wA3 bp cx.symm (cR aE (by omega))) (wB3 bp cx.symm (cR aE (by omega)))),ND.length - (e + 1),by omega,e + 1,_,rfl,by omega,by rw [List.length_set];exact hL,hLs,rfl⟩
  ·have hge:e=ND.length:=sW qM aE;subst hge;have hLL:L=depN ND (d + 1):=yQ (by rw [hL,depN_len]) fun j=>by grind [depN_len]
   subst hLL;refine ⟨RR ND (d + 1) (vp ND d ND.length),.NR 0 rfl rfl rfl rfl ⟨⟨_,rfl,ax⟩,⟨_,rfl,adH (by rw [depN_len,qM]) (by omega) rfl⟩,⟨_,rfl,ax⟩,trivial⟩,ND.length + 2 - (d + 1),by omega,d + 1,_,rfl,fun pJ=>?_,fun pJ=>RP (Gk.1 pJ),rfl⟩;have:depN ND (d + 1)≠depN ND d:=fun h=>by rw [Gk.2 h] at pJ;cases pJ
   have:=UY this;omega
 ·have hc:c=false:=hc;rw [qU hc];exact ⟨_,ax,rfl⟩
theorem mc.esz {S:Sch} {ND:List Nd} {PC:List DV} (hP:mc S ND PC):∀ n∈ND,n.cB.length<=1099511627776:=fun n hn=>by
 have h1:=hP.wt;rw [hP.AP] at hn;exact (A7 hn h1).2
theorem Gl {S:Sch} {ND:List Nd} {PC:List DV} (hP:mc S ND PC):bA prog 101 [.pt PC 0] (.sl 1 (dInts (depN ND ND.length)) none):=
 I6 (sb hP) hP.ok hP.nl hP.esz fun _ _ _ _=>ax
def cutM (n:Nat):Nat:=min n 4097
def othE (t:List Nat) (k:Nat × Option Nat):Nat:=match k.2 with
 | none=>k.1
 | some j=>if t.getD j 0=0 then 0 else cutM (k.1 + t.getD j 0)
end Go.Proofs.YtfdedoiiahbnnaaGreat
set_option maxRecDepth 100000
namespace Go.Proofs.YtfdedoiiahbnnaaGreat
open Go Go.RowKit
namespace Dv
def effN (X:Ctx) (bx:List (List DV)) (sl:List (Nat × Sl)) (op:Op) (K:DV->Prop):Prop:=
 match isL op with
 | true=>optP (effR X ⟨sl,bx,[]⟩ op K)
 | false=>optP (effR X ⟨sl,[],[]⟩ op K)
section
variable {X:Ctx} {ops:Array Oper} {bx:List (List DV)} {tk:List TkE} {W:Nat->Bool} {k:List It} {s00:List (Nat × Sl)} {t00:List TkE}
end
end Dv
end Go.Proofs.YtfdedoiiahbnnaaGreat
set_option maxRecDepth 100000
namespace Go.Proofs.YtfdedoiiahbnnaaGreat
open Go Go.RowKit Dv Go.Proofs.Tryz
def OtOK (kf:Nat->Option (Nat × Option Nat)) (t:List Nat):Prop:=∀ i,t.getD i 0≠0->∃ k,kf i=some k/\t.getD i 0=othE t k
section
variable {kf:Nat->Option (Nat × Option Nat)} {N:Nat}
theorem oL (kf:Nat->Option (Nat × Option Nat)) (N:Nat):OtOK kf (List.replicate N 0):=fun i hi=>by grind
end
structure Pl where
 i:Nat
 d:Nd
 k:Nat
 s:Hg
theorem Gm {S:Sch} (hF:Km S) {i:Nat} {n:Nd} (h:(aW S)[i]? = some n) {e:Ed} (he:e∈n.cB) (hb:e.bare=true):e.ck=0:=by
 have Zi:=(A6 hF h).bare e he hb;rw [oY] at h;obtain ⟨t,ht,u,hu,rfl,nK⟩:=ye h;have hwr:=yc t ⟨_,_,hF.wr t ht⟩ u hu;have hT:=Iu hwr;obtain ⟨uh,us⟩:=u;simp only [Ty.h,Ty.ps] at hT;obtain ⟨p,v,k',h1,rfl,_⟩:=rS he;obtain ⟨j,hj⟩:=List.mem_iff_getElem?.1 h1;obtain ⟨_,hP⟩:=(hT.many (.inr Zi)).2.2 j p v hj;rcases hP with ⟨_,_,_,kE⟩ | ⟨ef,_⟩
 ·exact (oZ kE).2.2.1
 ·have:p.bare=true:=hb;rw [ef] at this;cases this
def BF (ck:Int):Int:=if ck=3 then 5 else if ck=2 then 3 else 2
theorem BG {c:UInt8} (h:c∈tx lm):c.toNat ∈ [123,125,91,93,40,41,44,58,61,60,62,64,43,35,126,42]:=by
 have e:tx lm=[123,125,91,93,40,41,44,58,61,60,62,64,43,35,126,42]:=rfl;rw [e] at h;simp only [List.mem_cons,List.not_mem_nil,or_false] at h;rcases h with rfl | rfl | rfl | rfl | rfl | rfl | rfl | rfl | rfl | rfl | rfl | rfl | rfl | rfl | rfl | rfl<;>decide
theorem BH {l:List UInt8} {c:UInt8}:0<=Lib.indexByte l c↔c∈l:=by grind [FN]
theorem Df {s:ByteArray} {i:Nat} (hi:i < s.size):xm (s.extract i s.size) pH=true↔aA s i=46/\i + 1 < s.size/\aA s (i + 1)=46:=by
 obtain ⟨c,fx,hb⟩:=bJ hi;have fx:(tx s).drop i=c :: (tx s).drop (i + 1):=fx;have di:(s.extract i s.size).size=s.size - i:=by simp
 have hx:tx ((s.extract i s.size).extract 0 pH.size)=((tx s).drop i).take 2:=by
  rw [J1]
  have:tx (s.extract i s.size)=(tx s).drop i:=by
   simp [tx];exact List.take_of_length_le (by rw [List.length_drop];have:=bH s;unfold tx at this;omega)
  rw [this];rfl
 have hiff:(s.extract i s.size).extract 0 pH.size=pH↔((tx s).drop i).take 2=[46,46]:=by
  rw [<- hx];constructor
  ·intro h;rw [h];all_goals rfl
  ·intro h;have:=cW h;rw [this];rfl
 unfold xm;rw [bg,decide_eq_true_iff,decide_eq_true_iff,hiff,di,fx,show pH.size=2 from rfl,hb];by_cases h2:i + 1 < s.size
 ·obtain ⟨d,pG,iW⟩:=bJ h2;have pG:(tx s).drop (i + 1)=d :: (tx s).drop (i + 1 + 1):=pG;rw [pG,iW];simp only [List.take_succ_cons,List.take_zero,List.cons.injEq,and_true];have e:∀ x:UInt8,x=46↔x.toNat=46:=fun x=>⟨fun h=>by rw [h];rfl,fun h=>UInt8.toNat_inj.1 h⟩
  grind
 all_goals omega
theorem adK (s:ByteArray) (i:Nat):aA s i < 256:=by
 unfold aA;exact UInt8.toNat_lt _
theorem M9 {s:ByteArray} {i:Nat} (hi:i < s.size) (h:aA s i=45∨(48<=aA s i/\aA s i<=57)∨aA s i=34):eZ s i=⟨#[]⟩:=by
 have h8:=adK s i;unfold eZ
 rw [ag (fun hh=>by have:=((Df hi).1 hh).1;omega),ag (fun hh=>by
  have hm:=BG (BH.1 hh);have e:((aA s i).toUInt8).toNat=aA s i:=by simp_all
  rw [e] at hm;simp only [List.mem_cons,List.not_mem_nil,or_false] at hm
  omega)]
theorem KQ (c:au) (h:av c) (hf:c.f.1≠0):Ev prog 87 [gT] [aH c] [] (jX c.f.d c):=by
 have h1:=nq c;rw [decide_eq_false hf] at h1;have h2:=nj c;obtain ⟨l,p,d,f1,f2⟩:=c;refine eG 18 [.cell 2 26] func87 rfl ntmps87 rfl fun _ _ _ _=>?_;refine ak 1 JN h1 ?_;refine ak 1 JK h2 ?_;exact ⟨Ft.d (f1,f2),[aH _],bB,bB,rfl,rfl,rfl⟩
theorem RT (c:au) (h:av c) (hf:c.f.1=0) (hp:c.aF.k=0):Ev prog 87 [gT] [aH c] [] (jX c.f.d c):=by
 have h1:=nq c;rw [decide_eq_true hf] at h1;have h2:=nj c;have h3:=dL c h;generalize c.aF=t at hp h3;obtain ⟨tk,ta,te,ts,tn⟩:=t;simp only at hp;subst hp;obtain ⟨l,p,d,f1,f2⟩:=c;refine eG 18 [.cell 2 26] func87 rfl ntmps87 rfl fun _ _ _ _=>?_;refine ak 1 JN h1 ?_;refine ak 1 iw h3 ?_;refine ak 1 JK h2 ?_;exact ⟨Ft.d (f1,f2),[aH _],bB,bB,rfl,rfl,rfl⟩
abbrev UZ:Sch:=⟨[],[],[],Kv 0 0⟩
theorem tR (s:ByteArray) (l:List dD) (wh:bA prog 157 [.v (.string s)] (.bK [.sl 5 (gp l) none,Ft.d (0,0)])) (S:Sch) (c5 c6:au) (f:Ft) (hsch:Ev prog 86 [gT] [aH (nO l)] [] (jX (.agg (iG S)) c5)) (zF:Ev prog 87 [gT] [aH c5] [] (jX f.d c6)) :
  bA prog 35 [.v (.string s)] (.bK [.agg (iG (if f.1=0 then S else UZ)),f.d]):=by
 have dB:=Y8 s l wh;generalize hQ:(if f.1=0 then S else UZ)=Q;obtain ⟨ae,order,types,⟨rh,rp⟩⟩:=S;refine eG 31 [.cell 2 38,.cell 3 26] func35 rfl ntmps35 rfl fun _ _ _ _=>?_;refine Y7 en85 rfl dB ax (fun r os hΦ=>?_);obtain ⟨rfl,rfl⟩:=hΦ;refine CallG.Ik 0 2 rfl rfl rfl rfl ?_;refine ak 1 en86 hsch ?_;refine ak 1 en87 zF ?_;refine br ?_ ?_<;>intro g
 ·have g:¬ f.1=0:=sU g;rw [ag g] at hQ;subst hQ;refine cr [1,2] (fun _=>false) mo (by decide +kernel) ?_;exact ⟨_,ax,rfl⟩
 ·have g:f.1=0:=sU g;rw [ah g] at hQ;subst hQ;refine cr [1,2] (fun _=>false) mo (by decide +kernel) ?_;exact ⟨_,ax,rfl⟩
theorem tS (l:List dD) (e:Int) (hl:l.length<=274877906943):av (nO (l ++ [gR e])) where
 lt:=by show 0 < (l ++ [gR e]).length;simp
 nx:=fun i t hi hk=>by
  show i + 1 < (l ++ [gR e]).length;have hi:(l ++ [gR e])[i]? = some t:=hi;rw [List.getElem?_append] at hi;split at hi
  ·rename_i h;simp;omega
  ·rename_i h;have h2:=(gS hi).1;have h3:i - l.length=0:=by simp at h2;omega
   rw [h3] at hi;simp only [List.getElem?_cons_zero,oI] at hi;subst hi;exact absurd rfl hk
 len:=by show (l ++ [gR e]).length<=_;simp;omega
 dl:=by show 0<=24;omega
def I7 (c:au):au:=if c.f.1=0/\c.aF.k≠0 then c.fail 4 else c
theorem Na (c:au) (h:av c):Ev prog 87 [gT] [aH c] [] (jX (I7 c).f.d (I7 c)):=by
 unfold I7;by_cases hf:c.f.1=0
 ·by_cases hk:c.aF.k=0
  ·grind [RT]
  ·rw [ah ⟨hf,hk⟩];have h1:=nq c;rw [decide_eq_true hf] at h1;have h3:=dL c h;have h4:=iP c h 4;have h2:=nj (c.fail 4);generalize c.fail 4=C4 at h2 h4 ⊢;generalize c.aF=t at hk h3;obtain ⟨tk,ta,te,ts,tn⟩:=t;simp only at hk;obtain ⟨l,p,d,f1,f2⟩:=c;obtain ⟨l4,p4,d4,f14,f24⟩:=C4;refine eG 18 [.cell 2 26] func87 rfl ntmps87 rfl fun _ _ _ _=>?_;refine ak 1 JN h1 ?_;refine ak 1 iw h3 ?_;refine br (fun _=>?_) (fun g=>absurd (by simpa [pickB] using g) hk);refine ak 1 wO h4 ?_;refine ak 1 JK h2 ?_;exact ⟨Ft.d (f14,f24),[aH _],bB,bB,rfl,rfl,rfl⟩
 ·grind [KQ]
def U0 (L:List dD):Sch × Ft:=(if (I7 (eT (nO L)).2).f.1=0 then (eT (nO L)).1 else UZ,(I7 (eT (nO L)).2).f)
theorem I8 (s:ByteArray) (L:List dD) (hL:av (nO L)) (wh:bA prog 157 [.v (.string s)] (.bK [.sl 5 (gp L) none,Ft.d (0,0)])):bA prog 35 [.v (.string s)] (.bK [.agg (iG (U0 L).1),Ft.d (U0 L).2]):=
 tR s L wh _ _ _ _ (Dc (nO L) hL rfl) (Na _ (uM (Sm.self hL) rfl).sm.ok)
theorem RU {s:ByteArray} {i:Nat} {t:dD} (h:oB s i=(t,(0,0))) (hk:t.k=1):t.s.size<=32:=by
 unfold oB at h;by_cases h1:bu ((tx s).drop i)≠0
 ·rw [ah h1] at h;by_cases h2:bu ((tx s).drop i)<=32
  ·rw [ah h2] at h;injection h with h3 _
   rw [<- h3];show (s.extract i (i + bu ((tx s).drop i))).size<=32;simp;omega
  all_goals grind
 grind
theorem I9 {s:ByteArray} {i:Nat} {l:List dD} {f:Ft} (h:mf s i l f):i<=s.size/\l.length + i<=s.size/\muL l + 1088 * i<=1088 * s.size/\∀ t∈l,t.k≠0:=by
 induction h with
 | nil=>exact ⟨bn _,by simp,by simp [muL],fun t ht=>by cases ht⟩
 | blank h1 _ _ ih=>exact ⟨by omega,by omega,by omega,ih.2.2.2⟩
 | rem h1 _ _ h4 _ _ ih=>exact ⟨by omega,by omega,by omega,ih.2.2.2⟩
 | YU h1 _ _ _=>exact ⟨by omega,by simp;omega,by simp [muL];omega,fun t ht=>by cases ht⟩
 | YV h1 _ _ _ _=>exact ⟨by omega,by simp;omega,by simp [muL];omega,fun t ht=>by cases ht⟩
 | @tok i e t l f h1 h2 h3 h4 h5 h6 h7 h8 ih=>grind [YW,RU,WE,muL]
def chkA:List Nat->List Nd->Ft
 | k :: r,n :: s=>if k=0 then (11,n.dA) else chkA r s
 | _,_=>(0,0)
theorem Nb {D:List Nat} {ND:List Nd} {e k:Nat} {n:Nd} (h1:D[e]? = some k) (h2:ND[e]? = some n):chkA (D.drop e) (ND.drop e)=if k=0 then (11,n.dA) else chkA (D.drop (e + 1)) (ND.drop (e + 1)):=by
 rw [drop_cons h1,drop_cons h2,chkA]
theorem RV (D:List Nat) (ND:List Nd) {e:Nat} (h:D.length<=e):chkA (D.drop e) (ND.drop e)=(0,0):=by
 rw [List.drop_of_length_le h];simp [chkA]
abbrev Zj (D:List Nat) (ND:List Nd) (e:Nat):St:=
 ⟨[dH 3 7 (dW ND),bq 2 0,dH 12 1 (dInts D),aJ 13 D.length,aJ 14 e],[[.v (.int .i64 0),.v (.int .i64 0)]],[]⟩
theorem Dg {S:Sch} {ND:List Nd} {PC:List DV} (hP:mc S ND PC):bA prog 40 [.pt PC 0] (chkA (depN ND ND.length) ND).d:=by
 have h0:=sb hP;have h1:=Gl hP;have hl:=depN_len ND ND.length;have kR:=hP.nl;generalize depN ND ND.length=D at h1 hl ⊢;have qM:=ow ND;have Ll:=cy D;refine eG 29 [.cell 2 26] func40 rfl ntmps40 rfl fun _ _ _ _=>?_;refine cP Vv h0 ?_;refine cP aaV h1 ?_;refine lI (fun j st=>∃ e:Nat,st=Zj D ND e/\e<=ND.length/\chkA D ND=chkA (D.drop e) (ND.drop e)/\j=ND.length - e) ⟨0,rfl,by omega,rfl,rfl⟩ (dg (gv Ll)) ?_;rintro j st ⟨e,rfl,he,bN,rfl⟩;refine br ?_ ?_<;>intro hL
 ·have aE:e < ND.length:=by have:=hL;simp [hl] at this;exact this
  obtain ⟨n,hn⟩:=gX aE;obtain ⟨k,hk⟩:∃ k,D[e]? = some k:=⟨_,gE (by omega)⟩;rw [Nb hk hn] at bN;refine iX (dJ hk) ?_;refine br ?_ ?_<;>intro g
  ·have g:k=0:=sU g;rw [ah g] at bN;refine iX (xY hn) ?_;rw [bN];exact ⟨_,ax,rfl⟩
  ·have g:¬ k=0:=sU g;rw [ag g] at bN;exact rE ⟨_,by omega,e + 1,rfl,by omega,bN,rfl⟩ (dg (gv (cR aE (by omega))))
 ·have hge:e=ND.length:=sW hl hL;rw [bN,RV D ND (by omega)];exact ⟨_,ax,rfl⟩
def effE (f:Nat->Nat->Bool) (ND:List Nd) (e:Ed):Ft:=
 if e.ck=0 then (0,0) else match ND[e.to.toNat]? with | none=>(14,e.ca) | some m=>if m.al=BF e.ck then (if (f e.seen.toNat e.label.toNat && !f e.label.toNat e.seen.toNat)=true then (0,0) else (18,e.ca)) else (14,e.ca)
def effEs (f:Nat->Nat->Bool) (ND:List Nd):List Ed->Ft
 | []=>(0,0)
 | e :: r=>if (effE f ND e).1=0 then effEs f ND r else effE f ND e
def effN (f:Nat->Nat->Bool) (ND:List Nd):List Nd->Ft
 | []=>(0,0)
 | n :: r=>if (effEs f ND n.cB).1=0 then effN f ND r else effEs f ND n.cB
def tT (f:Nat->Nat->Bool) (ND:List Nd):Ft:=effN f ND ND
theorem BI {f:Nat->Nat->Bool} {ND:List Nd}:∀ {l:List Nd},(effN f ND l).1=0->effN f ND l=(0,0)
 | [],_=>rfl
 | n :: r,h=>by
  rw [effN] at h ⊢;split
  ·rename_i h1;rw [ah h1] at h;exact BI h
  ·rename_i h1;rw [ag h1] at h;exact absurd h h1
def uU (S:Sch):Int × Ft:=
 if (kI S).1=0 then (if (chkA (depN (aW S) (aW S).length) (aW S)).1=0 then (if (tT (me S) (aW S)).1=0 then (0,(0,0)) else (4,tT (me S) (aW S))) else (3,chkA (depN (aW S) (aW S).length) (aW S))) else (2,kI S)
theorem asks_1:bA prog 102 [.v (.int .i64 1)] (.v (.int .i64 2)):=by
 refine eG 8 [.tmp 2] func102 rfl ntmps102 rfl fun _ _ _ _=>?_;exact (rfl:_=_)
theorem asks_2:bA prog 102 [.v (.int .i64 2)] (.v (.int .i64 3)):=by
 refine eG 8 [.tmp 2] func102 rfl ntmps102 rfl fun _ _ _ _=>?_;exact (rfl:_=_)
theorem asks_3:bA prog 102 [.v (.int .i64 3)] (.v (.int .i64 5)):=by
 refine eG 8 [.tmp 2] func102 rfl ntmps102 rfl fun _ _ _ _=>?_;exact (rfl:_=_)
theorem Nc {ck:Int} (h:ck=1∨ck=2∨ck=3):bA prog 102 [.v (.int .i64 ck)] (.v (.int .i64 (BF ck))):=by
 rcases h with rfl | rfl | rfl
 ·exact asks_1
 ·exact asks_2
 ·exact asks_3
theorem Ja {LC:List DV} (a b:Nat) (B:Bool) (hl:bA prog 186 [.pt LC 0,.v (.int .i64 a),.v (.int .i64 b)] (.v (.bool B))) :
  bA prog 103 [.pt LC 0,.v (.int .i64 a),.v (.int .i64 b)] (.v (.bool (decide (¬ a=b) && B))):=by
 by_cases Af:a=b
 ·subst Af;refine eG 16 [.tmp 6] func103 rfl ntmps103 rfl fun _ _ _ _=>?_;refine br (fun g=>absurd g (by simp)) (fun _=>?_);refine (dP ?_:);simp [pickB]
 ·refine eG 16 [.tmp 6] func103 rfl ntmps103 rfl fun _ _ _ _=>?_;refine br (fun _=>?_) (fun g=>absurd (Int.ofNat.inj (show (a:Int)=b by simpa using g)) Af);refine cP abb hl ?_;refine (dP ?_:);simp [pickB,Af]
theorem Zk {f:Nat->Nat->Bool} {n:Nat} (hL:kv f n) {a b:Nat} (ha:a < n) (hb:b < n):(decide (¬ a=b) && f a b)=(f a b && !f b a):=by
 by_cases Af:a=b
 ·subst Af;rw [hL.rfl' a ha];simp
 ·rw [decide_eq_true Af,Bool.true_and]
  cases h1:f a b with
  | false=>rfl
  | true=>
   cases h2:f b a with
   | false=>rfl
   | true=>exact absurd (hL.Yu a b ha hb h1 h2) Af
abbrev ecSt (PC:List DV) (n e:Nat):St:=⟨[wD 0 PC,bq 2 0,aJ 14 n,aJ 15 e],[[.v (.int .i64 0),.v (.int .i64 0)]],[]⟩
abbrev ebSt (PC:List DV) (n:Nat) (es:List Ed) (e k:Nat):St:=⟨[wD 0 PC,bq 2 0,aJ 14 n,aJ 15 e,dH 25 10 (pE es),aJ 26 es.length,aJ 27 k],[[.v (.int .i64 0),.v (.int .i64 0)]],[]⟩
theorem effcheck_spec {S:Sch} {ND:List Nd} {PC LC:List DV} (hP:mc S ND PC) (Zl:bA prog 45 [.pt PC 0] (.pt LC 0)) (hR:ac4 S.ae.length (me S) (aO S.ae) LC) (di:∀ n∈ND,n.cB.length<=1099511627776) :
  bA prog 41 [.pt PC 0] (tT (me S) ND).d:=by
 have hlen:=hP.len;have rP:=hP.aj;have jh:=hP.ok;have kR:=hP.nl;have hL:=hR.ok;have adL:=fun (a b:Nat) (ha:a < S.ae.length) (hb:b < S.ae.length)=>Ja a b _ ((QR (f:=me S) ha hb) ▸ hR.leq a b);have nV:=fun (a b:Nat) (ha:a < S.ae.length) (hb:b < S.ae.length)=>Zk hL ha hb;have hbr:=fun n (hn:n∈ND) e (he:e∈n.cB) (hb:e.bare=true)=>(List.mem_iff_getElem?.1 hn).elim fun i hi=>Gm hP.fine (hP.AP ▸ hi) (e:=e) he hb;generalize me S=f at adL nV ⊢;have hNl:=ow ND;refine eG 66 [.cell 2 26] func41 rfl ntmps41 rfl fun _ _ _ _=>?_;refine cP Lw hlen ?_;refine lI (fun j st=>∃ e:Nat,st=ecSt PC ND.length e/\e<=ND.length/\tT f ND=effN f ND (ND.drop e)/\j=ND.length - e) ⟨0,rfl,by omega,rfl,rfl⟩ (dg wB) ?_;rintro j st ⟨e,rfl,he,kG,rfl⟩;refine br ?_ ?_<;>intro hL
 ·have aE:e < ND.length:=sU hL;obtain ⟨d,hd⟩:=gX aE;have hm:=mG hd;have hN:=jh d hm;have Hh:=di d hm;have qM:=ik d.cB;have hbd:=hbr d hm;have hnd:=rP e d hd;rw [drop_cons hd,effN] at kG;refine cP XO hnd ?_;refine lI (fun j st=>∃ k:Nat,st=ebSt PC ND.length d.cB e k/\k<=d.cB.length/\effEs f ND d.cB=effEs f ND (d.cB.drop k)/\j=d.cB.length - k) ⟨0,rfl,by omega,rfl,rfl⟩ (kD 1 (Ea qM) (gv qM)) ?_;rintro j st ⟨k,rfl,hk,RW,rfl⟩;refine br ?_ ?_<;>intro Qd
  ·have DW:k < d.cB.length:=sU Qd;obtain ⟨x,hx⟩:∃ x,d.cB[k]? = some x:=⟨_,gE DW⟩;have hmx:=mG hx;obtain ⟨hto,⟨h2,Bw⟩,h3,G6⟩:=MI hN hmx;have kN:=hbd x hmx;have hck:=(hN.Md x hmx).ck;rw [drop_cons hx,effEs] at RW;have hE:effE f ND x=if x.ck=0 then ((0,0):Ft) else match ND[x.to.toNat]? with | none=>((14,x.ca):Ft) | some m=>if m.al=BF x.ck then (if (f x.seen.toNat x.label.toNat && !f x.label.toNat x.seen.toNat)=true then ((0,0):Ft) else (18,x.ca)) else (14,x.ca):=rfl
   generalize effE f ND x=EX at hE RW;have Zm:∀ y:Ft,y.1≠0->EX=y->tT f ND=y:=fun y hy h=>by rw [kG,RW,h,ag hy,ag hy]
   have WV:EX.1=0->effEs f ND d.cB=effEs f ND (d.cB.drop (k + 1)):=fun h=>by rw [RW,ah h]
   generalize tT f ND=FF at Zm ⊢;obtain ⟨en,eb,ea,et,elb,ew,eck,ecn,ese,eca⟩:=x;simp only at h2 Bw h3 G6 hto kN hck hE;obtain ⟨lb,rfl⟩:∃ n:Nat,elb=n:=⟨_,h2⟩;obtain ⟨sn,rfl⟩:∃ n:Nat,ese=n:=⟨_,h3⟩;simp only [lD] at Bw G6 hE;refine iX (x7 hx) ?_;refine br ?_ ?_<;>intro g
   ·have g:eck=0:=sU g;exact rE ⟨_,by omega,k + 1,rfl,by omega,WV (by rw [hE,ah g]),rfl⟩ (kD 1 (Ea (cR DW (by omega))) (gv (cR DW (by omega))))
   have gg:¬ eck=0:=sU g
   obtain ⟨h1,kL⟩:=hto (by
    cases hb:eb
    ·rfl
    ·exact absurd (kN hb) gg)
   obtain ⟨tn,rfl⟩:∃ n:Nat,et=n:=⟨_,h1⟩;simp only [lD] at kL hE;obtain ⟨m,hmt⟩:∃ m,ND[tn]? = some m:=⟨_,gE kL⟩;rw [ag gg] at hE;simp only [hmt] at hE;have hnm:=rP tn m hmt;have has:=Nc (show eck=1∨eck=2∨eck=3 by omega);generalize BF eck=wk at has hE;have hbl:=adL sn lb G6 Bw;rw [nV sn lb G6 Bw] at hbl;generalize hB:(f sn lb && !f lb sn)=B at hbl;obtain ⟨mk,ma,mlo,mhi,mmo,mnm,mes⟩:=m;simp only at hE;refine cP XO hnm ?_;refine dI ?_;refine cD aaW has ?_;refine br ?_ ?_<;>intro c1
   ·have c1:¬ mk=wk:=sU c1;rw [ag c1] at hE;rw [Zm _ (by simp) hE];exact ⟨_,ax,rfl⟩
   have c1:mk=wk:=sU c1;rw [ah c1] at hE;refine dI ?_;refine cD en45 Zl ?_;refine cD aaX hbl ?_;refine br ?_ ?_<;>intro c2
   ·have c2:B=false:=sU c2;rw [ag (by rw [hB,c2];simp)] at hE;rw [Zm _ (by simp) hE];exact ⟨_,ax,rfl⟩
   ·have c2:B=true:=sU c2;rw [ah (by rw [hB,c2])] at hE;exact rE ⟨_,by omega,k + 1,rfl,by omega,WV (by rw [hE]),rfl⟩ (kD 1 (Ea (cR DW (by omega))) (gv (cR DW (by omega))))
  ·have hge:k=d.cB.length:=by have:=Qd;simp at this;omega
   subst hge;exact rE ⟨_,by omega,e + 1,rfl,by omega,by rw [kG,RW,List.drop_length,effEs,ah rfl],rfl⟩ (kD 1 (Ea (cR aE (by omega))) (gv (cR aE (by omega))))
 ·have hge:e=ND.length:=by have:=hL;simp at this;omega
  subst hge;rw [kG,List.drop_length,effN];exact ⟨_,ax,rfl⟩
def OfΦ (S:Sch) (r:DV):Prop:=∃ p:DV,r = .bK [p,.v (.int .i64 (uU S).1),(uU S).2.d]/\(((uU S).1≠0/\p = .v (.pointer none))∨((uU S).1=0/\∃ PC,mc S (aW S) PC/\p = .pt PC 0))
theorem kB (S:Sch) (hS:S.wt<=1099511627776):Ev prog 15 [.agg (iG S)] [] [] (fun r _ _=>OfΦ S r):=by
 have hb:=(Io S hS).mono (Ψ:=fun r _ _=>QP S r) fun _ _ _ h=>MF hS h;have bp:uU S=if (kI S).1=0 then (if (chkA (depN (aW S) (aW S).length) (aW S)).1=0 then (if (tT (me S) (aW S)).1=0 then (0,(0,0)) else (4,tT (me S) (aW S))) else (3,chkA (depN (aW S) (aW S).length) (aW S))) else (2,kI S):=rfl
 unfold OfΦ;generalize uU S=ST at bp ⊢;obtain ⟨ae,order,types,⟨rh,rp⟩⟩:=S;refine eG 30 [.tmp 2,.tmp 3,.cell 4 26] func15 rfl ntmps15 rfl fun _ _ _ _=>?_;refine eo en26 rfl hb ax (fun r hr=>?_);rcases hr with ⟨h0,rfl⟩ | ⟨h0,PC,hP,rfl⟩
 ·rw [ag h0] at bp;rw [bp];generalize kI ⟨ae,order,types,.mk rh rp⟩=R at h0 ⊢;refine br (fun _=>?_) (fun g=>absurd (show R.1=0 by simpa using g) h0);refine dS ?_;exact ⟨.bK [.v (.pointer none),.v (.int .i64 2),Ft.d R],ax,_,rfl,.inl ⟨by simp,rfl⟩⟩
 ·rw [ah h0] at bp;obtain ⟨LC,Zl,hR⟩:=hP.latR;have h1:=Dg hP;have h2:=effcheck_spec hP Zl hR hP.esz;generalize chkA (depN (aW ⟨ae,order,types,.mk rh rp⟩) (aW ⟨ae,order,types,.mk rh rp⟩).length) (aW ⟨ae,order,types,.mk rh rp⟩)=R1 at h1 bp;have hz:(tT (me ⟨ae,order,types,.mk rh rp⟩) (aW ⟨ae,order,types,.mk rh rp⟩)).1=0->tT (me ⟨ae,order,types,.mk rh rp⟩) (aW ⟨ae,order,types,.mk rh rp⟩)=(0,0):=BI;generalize tT (me ⟨ae,order,types,.mk rh rp⟩) (aW ⟨ae,order,types,.mk rh rp⟩)=R2 at h2 bp hz;refine cP en40 h1 ?_;refine br ?_ ?_<;>intro g
  ·have g:¬ R1.1=0:=sU g;rw [ag g] at bp;rw [bp];refine dS ?_;exact ⟨.bK [.v (.pointer none),.v (.int .i64 3),Ft.d R1],ax,_,rfl,.inl ⟨by simp,rfl⟩⟩
  have g:R1.1=0:=sU g;rw [ah g] at bp;refine cP en41 h2 ?_;refine br ?_ ?_<;>intro g
  ·have g:¬ R2.1=0:=sU g;rw [ag g] at bp;rw [bp];refine dS ?_;exact ⟨.bK [.v (.pointer none),.v (.int .i64 4),Ft.d R2],ax,_,rfl,.inl ⟨by simp,rfl⟩⟩
  have g:R2.1=0:=sU g;rw [ah g] at bp;rw [bp,hz g];refine dS ?_;exact ⟨.bK [.pt PC 0,.v (.int .i64 0),Ft.d (0,0)],ax,_,rfl,.inr ⟨rfl,PC,hP,rfl⟩⟩
abbrev tA:ByteArray:=⟨#[114,111,111,116,40,49,41]⟩
abbrev tB:ByteArray:=⟨#[108,101,118,101,108,115,32,123,97,125,32,114,111,111,116,32,98,111,111,108]⟩
abbrev adM:ByteArray:=⟨#[40]⟩
abbrev adN:ByteArray:=⟨#[41]⟩
abbrev nmA:ByteArray:=⟨#[97]⟩
def lA:List dD:=[⟨1,0,4,fc,0⟩,⟨4,4,5,adM,0⟩,⟨2,5,6,aZ,1⟩,⟨4,6,7,adN,0⟩]
def lB:List dD:=[⟨1,0,6,b9,0⟩,⟨4,7,8,bI,0⟩,⟨1,8,9,nmA,0⟩,⟨4,9,10,bl,0⟩,⟨1,11,15,fc,0⟩,⟨1,16,20,oE,0⟩]
theorem Gn {s:ByteArray} (hs:s.size<=1099511627776) {i e:Nat} (hi:i < s.size) (he:i + bu (s.data.toList.drop i)=e) (hn:i < e) {M:ByteArray} (hM:s.extract i e=M) (hr:ay M=true) :
  bA prog 244 [.v (.string s),.v (.int .i64 i)] (Q5 ⟨1,i,e,M,0⟩):=by
 subst hM;exact IB s hs i hi e he hn hr
theorem Zn:bA prog 291 [.v (.string tA),.v (.int .i64 (5:Nat))] (.bK [.v (.int .i64 1),.v (.int .i64 (6:Nat)),Ft.d (0,0)]):=by
 have h:=Q0 tA (by decide) 5 (by decide) 49 (by decide +kernel) (by decide) (fun h=>absurd h (by decide)) (by decide +kernel);rw [show gd ((tA.data.toList.drop 5).take (digN (tA.data.toList.drop 5)))=1 by decide +kernel,show 5 + digN (tA.data.toList.drop 5)=6 by decide +kernel] at h;exact h
theorem Zo:ni tA 0 lA:=
 .tok (e:=4) (by decide) (by decide +kernel) (by decide +kernel) (Gn (by decide) (by decide) (by decide +kernel) (by decide) (by decide +kernel) (by decide +kernel)) rfl (by decide) (by decide)
 (.tok (e:=5) (by decide) (by decide +kernel) (by decide +kernel) (nh tA (by decide) 4 (by decide) (by decide +kernel) adM (by decide +kernel) (by decide) (by decide)) rfl (by decide) (by decide)
 (.tok (e:=6) (by decide) (by decide +kernel) (by decide +kernel) (MQ tA (by decide) 5 (by decide) (by decide +kernel) (by decide +kernel) (by decide +kernel) 1 6 Zn) rfl (by decide) (by decide)
 (.tok (e:=7) (by decide) (by decide +kernel) (by decide +kernel) (nh tA (by decide) 6 (by decide) (by decide +kernel) adN (by decide +kernel) (by decide) (by decide)) rfl (by decide) (by decide) .nil)))
theorem Zp:ni tB 0 lB:=
 .tok (e:=6) (by decide) (by decide +kernel) (by decide +kernel) (Gn (by decide) (by decide) (by decide +kernel) (by decide) (by decide +kernel) (by decide +kernel)) rfl (by decide) (by decide)
 (.blank (by decide) (by decide +kernel)
 (.tok (e:=8) (by decide) (by decide +kernel) (by decide +kernel) (nh tB (by decide) 7 (by decide) (by decide +kernel) bI (by decide +kernel) (by decide) (by decide)) rfl (by decide) (by decide)
 (.tok (e:=9) (by decide) (by decide +kernel) (by decide +kernel) (Gn (by decide) (by decide) (by decide +kernel) (by decide) (by decide +kernel) (by decide +kernel)) rfl (by decide) (by decide)
 (.tok (e:=10) (by decide) (by decide +kernel) (by decide +kernel) (nh tB (by decide) 9 (by decide) (by decide +kernel) bl (by decide +kernel) (by decide) (by decide)) rfl (by decide) (by decide)
 (.blank (by decide) (by decide +kernel)
 (.tok (e:=15) (by decide) (by decide +kernel) (by decide +kernel) (Gn (by decide) (by decide) (by decide +kernel) (by decide) (by decide +kernel) (by decide +kernel)) rfl (by decide) (by decide)
 (.blank (by decide) (by decide +kernel)
 (.tok (e:=20) (by decide) (by decide +kernel) (by decide +kernel) (Gn (by decide) (by decide) (by decide +kernel) (by decide) (by decide +kernel) (by decide +kernel)) rfl (by decide) (by decide) .nil))))))))
abbrev cuA:au:=nO (lA ++ [gR 7])
abbrev cuB:au:=nO (lB ++ [gR 20])
theorem RX:av cuA:=tS lA 7 (by decide)
theorem Jb:av cuB:=tS lB 20 (by decide)
abbrev SG:au:=⟨lA ++ [gR 7],0,0,4,0⟩
theorem RY:av SG:=⟨RX.lt,RX.nx,RX.len,RX.dl⟩
theorem RZ:Ev prog 86 [gT] [aH cuA] [] (jX (.agg (iG ⟨[],[],[],Kv 0 0⟩)) SG):=by
 have hk:cuA.kw b9=SG:=rfl;have hn:(cuA.kw b9).ai bI=SG:=by rw [hk];exact cM (by decide) _
 refine yt cuA RX 5 (by rw [hk];decide) SG [] RY (by rw [hn];rfl) (eQ (by decide) (by decide) _) (eQ (by decide) (by decide) _) 0 0 SG ?_;rw [CU (by decide)];exact Rf SG RY (by decide) (by decide)
theorem U1:bA prog 35 [.v (.string tA)] (.bK [.agg (iG UZ),Ft.d (4,0)]):=
 tR tA _ (Bc tA (by decide) lA Zo) _ SG SG (4,0) RZ (KQ SG RY (by decide))
abbrev cB3:au:=⟨lB ++ [gR 20],4,0,0,0⟩
abbrev cB4:au:=⟨lB ++ [gR 20],5,0,0,0⟩
abbrev cB5:au:=⟨lB ++ [gR 20],6,0,0,0⟩
theorem adP:av cB3:=⟨by decide,Jb.nx,Jb.len,by decide⟩
theorem adQ:av cB4:=⟨by decide,Jb.nx,Jb.len,by decide⟩
theorem adR:av cB5:=⟨by decide,Jb.nx,Jb.len,by decide⟩
abbrev sB:Sch:=⟨[⟨nmA,8⟩],[],[],Kv 1 16⟩
theorem R0:Ev prog 86 [gT] [aH cuB] [] (jX (.agg (iG sB)) cB5):=by
 refine yt cuB Jb 6 (by decide +kernel) cB3 [⟨nmA,8⟩] adP (by rfl) (by decide +kernel) (by decide +kernel) 1 16 cB5 ?_;rw [show cB3.kw fc=cB4 from rfl];exact MV cB4 adQ 16 20 0 rfl (by decide)
theorem U2:bA prog 35 [.v (.string tB)] (.bK [.agg (iG sB),Ft.d (0,0)]):=
 tR tB _ (Bc tB (by decide) lB Zp) _ cB5 cB5 (0,0) R0 (RT cB5 adR rfl rfl)
theorem Zq:bA prog 11 [.v (.string tA)] (.bK [.v (.pointer none),.v (.int .i64 1),Ft.d (4,0)]):=by
 have hp:=U1;refine eG 21 [.tmp 2,.tmp 3,.cell 4 26] func11 rfl ntmps11 rfl fun _ _ _ _=>?_;refine cP Ti hp ?_;refine dS ?_;exact ⟨_,ax,rfl⟩
theorem st_B:uU sB=(0,0,0):=by decide +kernel
theorem Zr:Ev prog 11 [.v (.string tB)] [] [] (fun r _ _=>∃ PC,r = .bK [.pt PC 0,.v (.int .i64 0),Ft.d (0,0)]):=by
 have hp:=U2;have ho:=kB sB (by decide);refine eG 21 [.tmp 2,.tmp 3,.cell 4 26] func11 rfl ntmps11 rfl fun _ _ _ _=>?_;refine cP Ti hp ?_;refine eo XN rfl ho ax (fun r hr=>?_);obtain ⟨p,rfl,hp⟩:=hr;rw [st_B] at hp ⊢;rcases hp with ⟨h,_⟩ | ⟨_,PC,_,rfl⟩
 ·exact absurd rfl h
 ·exact ⟨.bK [.pt PC 0,.v (.int .i64 0),Ft.d (0,0)],ax,PC,rfl⟩
theorem Dh:bA prog 10 [] (.v (.bool true)):=by
 have hA:=Zq;have hB:=Zr;refine eG 32 [.tmp 0] func10 rfl ntmps10 rfl fun _ _ _ _=>?_;refine cP XM hA ?_;refine eo XM rfl hB ax (fun r hr=>?_);obtain ⟨PC,rfl⟩:=hr;exact (rfl:_=_)
def Zs (S:Sch) (f:Ft):Int × Ft:=if f.1=0 then uU S else (1,f)
def KR (S:Sch) (f:Ft) (r:DV):Prop:=∃ p:DV,r = .bK [p,.v (.int .i64 (Zs S f).1),(Zs S f).2.d]/\(((Zs S f).1≠0/\p = .v (.pointer none))∨((Zs S f).1=0/\∃ PC,mc S (aW S) PC/\p = .pt PC 0))
theorem Jc {s:ByteArray} {S:Sch} {f:Ft} (hp:bA prog 35 [.v (.string s)] (.bK [.agg (iG S),Ft.d f])) (hS:S.wt<=1099511627776):Ev prog 11 [.v (.string s)] [] [] (fun r _ _=>KR S f r):=by
 have ho:=kB S hS;unfold OfΦ at ho;unfold KR Zs;obtain ⟨f1,f2⟩:=f;generalize uU S=ST at ho ⊢;obtain ⟨sn,sf⟩:=ST;simp only at ho ⊢;obtain ⟨ae,order,types,⟨rh,rp⟩⟩:=S;by_cases h0:f1=0
 ·rw [ah h0];refine eG 21 [.tmp 2,.tmp 3,.cell 4 26] func11 rfl ntmps11 rfl fun _ _ _ _=>?_;refine cP Ti hp ?_;refine br (fun g=>absurd h0 (sU g)) (fun _=>?_);refine eo XN rfl ho ax (fun r hr=>?_);obtain ⟨p,rfl,ZG⟩:=hr;rcases ZG with ⟨bo,rfl⟩ | ⟨h1,PC,hP,rfl⟩
  ·exact ⟨.bK [.v (.pointer none),.v (.int .i64 sn),sf.d],ax,_,rfl,.inl ⟨bo,rfl⟩⟩
  ·exact ⟨.bK [.pt PC 0,.v (.int .i64 sn),sf.d],ax,_,rfl,.inr ⟨h1,PC,hP,rfl⟩⟩
 ·rw [ag h0];refine eG 21 [.tmp 2,.tmp 3,.cell 4 26] func11 rfl ntmps11 rfl fun _ _ _ _=>?_;refine cP Ti hp ?_;refine br (fun _=>?_) (fun g=>absurd (sU g) h0);refine dS ?_;exact ⟨.bK [.v (.pointer none),.v (.int .i64 1),Ft.d (f1,f2)],ax,_,rfl,.inl ⟨by show (1:Int)≠0;decide,rfl⟩⟩
def lz (r:List UInt8):Prop:=∀ c,r.head? = some c->gC c.toNat=false
theorem R4 {r:List UInt8} (h:lz r):∀ c,r.head? = some c->gN c=false:=fun c hc=>by
 have:=h c hc;simp only [gC,isLet,Bool.or_eq_false_iff,Bool.and_eq_false_iff,decide_eq_false_iff_not] at this;simp only [gN,Bool.and_eq_false_iff,decide_eq_false_iff_not];omega
theorem yS (n:Nat) (h:n < 10):gN (UInt8.ofNat (48 + n))=true/\(UInt8.ofNat (48 + n)).toNat=48 + n:=by
 have e:(UInt8.ofNat (48 + n)).toNat=48 + n:=by rw [UInt8.toNat_ofNat'];omega
 refine ⟨?_,e⟩;simp only [gN,e,bg,decide_eq_true_eq];omega
theorem yT (n:Nat):∀ c∈fQ n,gN c=true:=by
 induction n using Nat.strongRecOn with
 | _ n ih=>
  by_cases h:n < 10
  ·rw [kS h];intro c hc;rw [List.mem_singleton.1 hc];exact (yS n h).1
  ·rw [oT h];intro c hc;rcases List.mem_append.1 hc with hc | hc
   ·exact ih (n / 10) (by omega) c hc
   ·rw [List.mem_singleton.1 hc];exact (yS (n % 10) (by omega)).1
theorem R5 (n:Nat):gd (fQ n)=n:=by
 induction n using Nat.strongRecOn with
 | _ n ih=>
  by_cases h:n < 10
  ·rw [kS h];have:=(yS n h).2;simp only [gd,List.foldl_cons,List.foldl_nil,this];omega
  ·rw [oT h,Bb,ih (n / 10) (by omega),(yS (n % 10) (by omega)).2];omega
theorem vO (n:Nat):fQ n ≠ []:=by
 by_cases h:n < 10
 ·rw [kS h];simp
 ·rw [oT h];simp
theorem Nf (n:Nat):∀ c,(fQ n).head? = some c->c.toNat=48->n=0:=by
 induction n using Nat.strongRecOn with
 | _ n ih=>
  intro c hc CT;by_cases h:n < 10
  ·rw [kS h] at hc;simp only [List.head?_cons,oI] at hc;rw [<- hc,(yS n h).2] at CT;omega
  ·rw [oT h,List.head?_append] at hc
   obtain ⟨c',zR⟩:∃ c',(fQ (n / 10)).head? = some c':=by
    cases hd:fQ (n / 10) with
    | nil=>exact absurd hd (vO _)
    | cons x l=>exact ⟨x,rfl⟩
   rw [zR] at hc;obtain rfl:c'=c:=sU hc;have:=ih (n / 10) (by omega) c' zR CT;omega
theorem Gp:∀ {l r:List UInt8},(∀ c∈l,gN c=true)->(∀ c,r.head? = some c->gN c=false)->digN (l ++ r)=l.length
 | [],[],_,_=>rfl
 | [],c :: r,_,h=>by
  have:=h c rfl;show digN (c :: r)=0;rw [digN,this,ag (by simp)]
 | c :: l,r,h1,h2=>by
  rw [List.cons_append,digN,ah (h1 c (by simp)),Gp (fun x hx=>h1 x (fA _ hx)) h2,List.length_cons]
theorem Gq {T l r:List UInt8} {a:Nat} (h:T.drop a=l ++ r) (hl:l ≠ []):T[a]? = l.head?:=by
 have:(T.drop a)[0]? = T[a]?:=by rw [List.getElem?_drop];all_goals rfl
 rw [<- this,h]
 cases l with
 | nil=>exact absurd rfl hl
 | cons c l=>rfl
theorem Ng {s:ByteArray} {i:Nat} {z:Int} {r:List UInt8} (hz:kH z) (h:(tx s).drop i=fI z ++ r) (hr:lz r):takeN s i=(z,((i + (fI z).length:Nat):Int),0,0):=by
 have hd:=R4 hr
 have hp:fI z ≠ []:=by
  unfold fI;split
  ·simp
  ·exact vO _
 have hT:=Gq h hp;have hlen:=vO z.natAbs;have zm:(fQ z.natAbs).length≠0:=fun h0=>hlen (List.length_eq_zero_iff.1 h0);have hN:=Gp (yT z.natAbs) hd;have hV:=R5 z.natAbs;have hH:=Nf z.natAbs;obtain ⟨h1,h2⟩:=hz;by_cases adS:z < 0
 ·have e:fI z=45 :: fQ z.natAbs:=EL adS;rw [e] at hT h ⊢;rw [oA (c:=45) hT,ah (by decide),show decide ((45:UInt8).toNat=45)=true from rfl]
  have fx:(tx s).drop (i + 1)=fQ z.natAbs ++ r:=by
   rw [<- List.drop_drop,h];rfl
  have hT2:=Gq fx hlen;unfold vo
  rw [fx,hN,hT2,ag (fun h=>zm h.1),ag zm,ag (fun h=>by
   obtain ⟨c,hc,CT⟩:=Option.map_eq_some_iff.1 h.1;have:=hH c hc CT
   omega),List.take_left,im,ah rfl,hV,ah (show z.natAbs<=9223372036854775808 by omega),ah rfl]
  refine Prod.ext ?_ (Prod.ext ?_ rfl)
  ·show -((z.natAbs:Nat):Int)=z;omega
  ·show ((i + 1 + (fQ z.natAbs).length:Nat):Int)=((i + (45 :: fQ z.natAbs).length:Nat):Int);rw [List.length_cons];omega
 ·have e:fI z=fQ z.natAbs:=by
   unfold fI;rw [ag adS]
  rw [e] at hT h ⊢
  obtain ⟨c,hc⟩:∃ c,(fQ z.natAbs).head? = some c:=by
   cases hd:fQ z.natAbs with
   | nil=>exact absurd hd hlen
   | cons c l=>exact ⟨c,rfl⟩
  rw [hc] at hT;have hcd:=yT z.natAbs c (List.mem_of_mem_head? hc);simp only [gN,bg,decide_eq_true_eq] at hcd;rw [oA hT,ag (by omega),decide_eq_false (show ¬ c.toNat=45 by omega)];unfold vo
  rw [h,hN,hT,ag (fun h=>zm h.1),ag zm,ag (fun h=>by
   have CT:c.toNat=48:=by simpa using h.1
   have:=hH c hc CT;rw [this,kS (by decide)] at h
   simp at h),List.take_left,im,ag (show ¬ false=true by simp),hV,ah (show z.natAbs<=9223372036854775807 by omega),ah rfl]
  refine Prod.ext ?_ rfl;show ((z.natAbs:Nat):Int)=z;omega
theorem BJ:∀ {l r:List UInt8},signs l=l.length->lz r->signs (l ++ r)=l.length
 | [],[],_,_=>rfl
 | [],c :: r,_,h=>by
  show signs (c :: r)=0;rw [signs,h c rfl,ag (by simp)]
 | c :: l,r,h1,h2=>by
  rw [signs] at h1;split at h1
  ·rename_i hc;rw [List.cons_append,signs,ah hc,BJ (sU h1) h2,List.length_cons]
  ·simp at h1
theorem R6 {w:ByteArray} {r:List UInt8} (h:ay w=true) (hr:lz r):bu (tx w ++ r)=w.size/\0 < w.size/\w.size<=32/\∃ c l,tx w=c :: l/\isLet c.toNat=true:=by
 simp only [ay,bg,decide_eq_true_eq] at h;obtain ⟨h1,h2,h3⟩:=h;have h3:bu (tx w)=w.size:=h3;have hl:=bH w
 cases ht:tx w with
 | nil=>rw [ht] at hl;simp at hl;omega
 | cons c l=>
  rw [ht] at h3 hl;rw [bu] at h3;split at h3
  ·rename_i hc;rw [List.length_cons] at hl;refine ⟨?_,h1,h2,c,l,rfl,hc⟩;rw [List.cons_append,bu,ah hc,BJ (by omega) hr];omega
  ·omega
def tkS (t:dD):dD:=⟨t.k,0,0,t.s,t.n⟩
def fV (w:ByteArray):dD:=⟨1,0,0,w,0⟩
def dp (m:UInt8):dD:=⟨4,0,0,⟨#[m]⟩,0⟩
def U3:dD:=⟨4,0,0,pH,0⟩
def Di (z:Int):dD:=⟨2,0,0,aZ,z⟩
inductive aU:List UInt8->List dD->Prop
 | nil:aU [] []
 | blank {r:List UInt8} {L:List dD}:aU r L->aU (32 :: r) L
 | name {w:ByteArray} {r:List UInt8} {L:List dD}:ay w=true->lz r->aU r L->aU (tx w ++ r) (fV w :: L)
 | mark {m:UInt8} {r:List UInt8} {L:List dD}:m∈tx lm->aU r L->aU (m :: r) (dp m :: L)
 | adU {r:List UInt8} {L:List dD}:aU r L->aU (46 :: 46 :: r) (U3 :: L)
 | num {z:Int} {r:List UInt8} {L:List dD}:kH z->lz r->aU r L->aU (fI z ++ r) (Di z :: L)
theorem Gr {T l r:List UInt8} {i:Nat} (h:T.drop i=l ++ r):T.drop (i + l.length)=r:=by
 rw [<- List.drop_drop,h,List.drop_left]
theorem qI {c:UInt8} {r:List UInt8} (h:isLet c.toNat=false):bu (c :: r)=0:=by rw [bu,h,ag (by simp)]
theorem R7 {s:ByteArray}:∀ {T:List UInt8} {L:List dD},aU T L->∀ i,i<=s.size->(tx s).drop i=T->∃ l,mf s i l (0,0)/\l.map tkS=L:=by
 intro T L h
 induction h with
 | nil=>
  intro i hi hT;have hl:=congrArg List.length hT;rw [List.length_drop,bH,List.length_nil] at hl;obtain rfl:i=s.size:=by omega
  exact ⟨[],.nil,rfl⟩
 | @blank r L _ ih=>
  intro i hi hT;have hl:=congrArg List.length hT;rw [List.length_drop,bH,List.length_cons] at hl;have aE:i < s.size:=by omega
  obtain ⟨c,fx,hb⟩:=bJ aE;have fx:(tx s).drop i=c :: (tx s).drop (i + 1):=fx;rw [hT] at fx;obtain ⟨rfl,hr⟩:=List.cons.inj fx;obtain ⟨l,h1,h2⟩:=ih (i + 1) (by omega) hr.symm;exact ⟨l,.blank aE (by rw [hb];rfl) h1,h2⟩
 | @name w r L hw hr _ ih=>
  intro i hi hT;obtain ⟨n1,n2,n3,c,l,n4,n5⟩:=R6 hw hr;have Z5:=bH w;have hl:=congrArg List.length hT;rw [List.length_drop,bH,List.length_append,Z5] at hl;have aE:i < s.size:=by omega
  obtain ⟨c',fx,hb⟩:=bJ aE;have fx:(tx s).drop i=c' :: (tx s).drop (i + 1):=fx;rw [hT,n4] at fx;obtain ⟨rfl,_⟩:=List.cons.inj fx;simp only [isLet,bg,decide_eq_true_eq] at n5;have pG:=Gr hT;rw [Z5] at pG
  have hex:s.extract i (i + w.size)=w:=by
   have e:tx (s.extract i (i + w.size))=tx w:=by
    have e1:tx (s.extract i (i + w.size))=((tx s).drop i).take w.size:=by simp [tx,List.drop_take]
    rw [e1,hT,<- Z5,List.take_left]
   have:=cW e;rw [this,JZ]
  have gj:oB s i=(⟨1,i,(i + w.size:Nat),w,0⟩,(0,0)):=by
   unfold oB;rw [hT,n1,ah (by omega),ah n3,hex]
  obtain ⟨l',h1,h2⟩:=ih (i + w.size) (by omega) pG;refine ⟨_,.tok aE ?_ (by omega) gj rfl (by omega) (by omega) h1,by rw [List.map_cons,h2];rfl⟩;rw [hb];simp only [ju,Bool.or_eq_false_iff,decide_eq_false_iff_not];omega
 | @mark m r L hm _ ih=>
  intro i hi hT;have hl:=congrArg List.length hT;rw [List.length_drop,bH,List.length_cons] at hl;have aE:i < s.size:=by omega
  obtain ⟨c,fx,hb⟩:=bJ aE;have fx:(tx s).drop i=c :: (tx s).drop (i + 1):=fx;rw [hT] at fx;obtain ⟨rfl,hr⟩:=List.cons.inj fx;have h8:=BG hm;simp only [List.mem_cons,List.not_mem_nil,or_false] at h8
  have kG:isLet m.toNat=false:=by
   simp only [isLet,Bool.and_eq_false_iff,decide_eq_false_iff_not];omega
  have Wg:eZ s i=⟨#[m]⟩:=by
   unfold eZ
   rw [ag (fun h=>by have:=(Df aE).1 h;omega),ah (by
    rw [BH]
    have e:(aA s i).toUInt8=m:=by
     rw [hb];exact UInt8.toNat_inj.1 (by simp)
    rw [e]
    exact hm)]
   have e:tx (s.extract i (i + 1))=[m]:=by
    have e1:tx (s.extract i (i + 1))=((tx s).drop i).take 1:=by simp [tx,List.drop_take]
    rw [e1,hT];rfl
   exact cW e
  have gj:oB s i=(⟨4,i,(i + 1:Nat),⟨#[m]⟩,0⟩,(0,0)):=by
   unfold oB;rw [hT,qI kG,ag (by simp),Wg,ah (by simp)];rfl
  obtain ⟨l',h1,h2⟩:=ih (i + 1) (by omega) hr.symm;refine ⟨_,.tok aE ?_ (by omega) gj rfl (by omega) (by omega) h1,by rw [List.map_cons,h2];rfl⟩;rw [hb];simp only [ju,Bool.or_eq_false_iff,decide_eq_false_iff_not];omega
 | @adU r L _ ih=>
  intro i hi hT;have hl:=congrArg List.length hT;rw [List.length_drop,bH,List.length_cons,List.length_cons] at hl;have aE:i < s.size:=by omega
  have Ls:i + 1 < s.size:=by omega
  obtain ⟨c,fx,hb⟩:=bJ aE;obtain ⟨c2,pG,iW⟩:=bJ Ls;have fx:(tx s).drop i=c :: (tx s).drop (i + 1):=fx;have pG:(tx s).drop (i + 1)=c2 :: (tx s).drop (i + 1 + 1):=pG;rw [hT] at fx;obtain ⟨rfl,hr⟩:=List.cons.inj fx;rw [pG] at hr;obtain ⟨qU,Yc⟩:=List.cons.inj hr;subst qU;have hb:aA s i=46:=hb;have iW:aA s (i + 1)=46:=iW
  have Wg:eZ s i=pH:=by
   unfold eZ;rw [ah ((Df aE).2 ⟨hb,Ls,iW⟩)]
  have gj:oB s i=(⟨4,i,(i + 2:Nat),pH,0⟩,(0,0)):=by
   unfold oB;rw [hT,qI (by decide),ag (by simp),Wg,ah (by decide)];rfl
  obtain ⟨l',h1,h2⟩:=ih (i + 2) (by omega) Yc.symm;exact ⟨_,.tok aE (by rw [hb];rfl) (by omega) gj rfl (by omega) (by omega) h1,by rw [List.map_cons,h2];rfl⟩
 | @num z r L hz hr _ ih=>
  intro i hi hT
  have hp:fI z ≠ []:=by
   unfold fI;split
   ·simp
   ·exact vO _
  obtain ⟨c0,l0,WW⟩:∃ c l,fI z=c :: l:=by
   cases h:fI z with
   | nil=>exact absurd h hp
   | cons c l=>exact ⟨c,l,rfl⟩
  have D0:c0.toNat=45∨(48<=c0.toNat/\c0.toNat<=57):=by
   unfold fI at WW;split at WW
   ·obtain ⟨rfl,_⟩:=List.cons.inj WW;exact .inl rfl
   ·have:=yT z.natAbs c0 (by rw [WW];simp);simp only [gN,bg,decide_eq_true_eq] at this;exact .inr this
  have hl:=congrArg List.length hT;rw [List.length_drop,bH,List.length_append] at hl;have kE:0 < (fI z).length:=by rw [WW];simp
  have aE:i < s.size:=by omega
  obtain ⟨c,fx,hb⟩:=bJ aE;have fx:(tx s).drop i=c :: (tx s).drop (i + 1):=fx;have htn:=Ng hz hT hr;have pG:=Gr hT;have hT2:=hT;rw [hT,WW] at fx;obtain ⟨rfl,_⟩:=List.cons.inj fx
  have kG:isLet c0.toNat=false:=by
   simp only [isLet,Bool.and_eq_false_iff,decide_eq_false_iff_not];omega
  have Wg:=M9 aE (by rw [hb];omega)
  have gj:oB s i=(⟨2,i,((i + (fI z).length:Nat):Int),aZ,z⟩,(0,0)):=by
   unfold oB;rw [hT,WW,List.cons_append,qI kG,ag (by simp),Wg,ag (by simp),ah (by rw [hb];exact D0),htn,ah rfl,WW]
  obtain ⟨l',h1,h2⟩:=ih (i + (fI z).length) (by omega) pG;refine ⟨_,.tok aE ?_ (by omega) gj rfl (by omega) (by omega) h1,by rw [List.map_cons,h2];rfl⟩;rw [hb];simp only [ju,Bool.or_eq_false_iff,decide_eq_false_iff_not];omega
structure At (c:au) (L:List dD):Prop where
 ok:av c
 f:c.f.1=0
 l:(c.l.drop c.p).map tkS=L
namespace At
variable {c:au} {L:List dD}
theorem aF {x:dD} (h:At c (x :: L)):c.aF.k=x.k/\c.aF.s=x.s/\c.aF.n=x.n:=by
 obtain ⟨t,h1,h2⟩:=h.ok.aF h.f;have h3:=h.l;rw [drop_cons h1,List.map_cons] at h3;obtain ⟨h4,_⟩:=List.cons.inj h3;rw [h2,<- h4];exact ⟨rfl,rfl,rfl⟩
theorem step {x:dD} (h:At c (x :: L)) (hk:x.k≠0):At c.step L:=by
 obtain ⟨t,h1,h2⟩:=h.ok.aF h.f;have h3:=h.l;rw [drop_cons h1,List.map_cons] at h3;obtain ⟨h4,h5⟩:=List.cons.inj h3;have gU:c.aF.k≠0:=by rw [h.aF.1];exact hk
 have e:c.step={ c with p:=c.p + 1 }:=by rw [au.step,ag gU]
 exact ⟨h.ok.step,by rw [e];exact h.f,by rw [e];exact h5⟩
theorem is {x:dD} (h:At c (x :: L)) (k:Int) (s:ByteArray):c.is k s=(decide (x.k=k) && decide (x.s=s)):=by
 obtain ⟨h1,h2,_⟩:=h.aF;rw [au.is,h1,h2]
theorem ai {m:UInt8} (h:At c (dp m :: L)):At (c.ai ⟨#[m]⟩) L:=by
 have hi:c.is 4 ⟨#[m]⟩=true:=by rw [h.is];simp [dp]
 rw [au.ai,ah hi];exact h.step (by show (4:Int)≠0;decide)
theorem adV (h:At c (U3 :: L)):At (c.ai jf) L:=by
 have hi:c.is 4 jf=true:=by rw [h.is];all_goals rfl
 rw [au.ai,ah hi];exact h.step (by show (4:Int)≠0;decide)
theorem kw {w:ByteArray} (h:At c (fV w :: L)):At (c.kw w) L:=by
 have hi:c.is 1 w=true:=by rw [h.is];simp [fV]
 rw [au.kw,ah hi];exact h.step (by show (1:Int)≠0;decide)
theorem tk {x:dD} (h:At c (x :: L)) (hk:x.k≠0):c.tk x.k=true/\c.uG x.k=c.aF:=by
 have h1:c.tk x.k=true:=by
  rw [au.tk,h.aF.1];simp [hk]
 exact ⟨h1,by rw [au.uG,ah h1]⟩
theorem name {w:ByteArray} (h:At c (fV w :: L)):c.aK.s=w/\At c.aq L:=by
 obtain ⟨h1,h2⟩:=h.tk (show (1:Int)≠0 by decide);have h1:c.tk 1=true:=h1;have h2:c.uG 1=c.aF:=h2;refine ⟨by rw [au.aK,h2];exact h.aF.2.1,?_⟩;rw [au.aq,ah h1];exact h.step (by show (1:Int)≠0;decide)
theorem num {z:Int} (h:At c (Di z :: L)):c.iu=z/\At c.bP L:=by
 obtain ⟨h1,h2⟩:=h.tk (show (2:Int)≠0 by decide);have h1:c.tk 2=true:=h1;have h2:c.uG 2=c.aF:=h2;refine ⟨by rw [au.iu,h2];exact h.aF.2.2,?_⟩;rw [au.bP,ah h1];exact h.step (by show (2:Int)≠0;decide)
theorem SH {m:UInt8} (h:At c (dp m :: L)):c.is 4 ⟨#[m]⟩=true/\At c.step L:=
 ⟨by rw [h.is];simp [dp],h.step (by show (4:Int)≠0;decide)⟩
theorem isN {w:ByteArray} (h:At c (fV w :: L)):c.is 1 w=true/\At c.step L:=
 ⟨by rw [h.is];simp [fV],h.step (by show (1:Int)≠0;decide)⟩
end At
def Jd (ms:List UInt8) (L:List dD):Prop:=∀ m∈ms,∀ x,L.head? = some x->¬ (x.k=4/\x.s=⟨#[m]⟩)
theorem At.notM {c:au} {L:List dD} (h:At c L) {ms:List UInt8} (hn:Jd ms L) {m:UInt8} (hm:m∈ms):c.is 4 ⟨#[m]⟩=false:=by
 obtain ⟨t,h1,h2⟩:=h.ok.aF h.f;have h3:=h.l;rw [drop_cons h1,List.map_cons] at h3;rw [<- h3] at hn;have:=hn m hm (tkS t) rfl;rw [au.is,h2];simp only [Bool.and_eq_false_iff,decide_eq_false_iff_not];by_cases hk:t.k=4
 ·exact .inr fun h=>this ⟨hk,h⟩
 ·exact .inl hk
theorem mw {ms:List UInt8} {m:UInt8} {L:List dD} (h:∀ x∈ms,x≠m):Jd ms (dp m :: L):=fun x hx t ht=>by
 simp only [List.head?_cons,oI] at ht;subst ht;rintro ⟨_,h2⟩;have h2:(⟨#[m]⟩:ByteArray)=⟨#[x]⟩:=h2;have:m=x:=sU h2;exact h x hx this.symm
theorem ph {ms ns:List UInt8} {L:List dD} (h:Jd ms L) (hs:∀ x∈ns,x∈ms):Jd ns L:=fun m hm=>h m (hs m hm)
def labK (l:List Wd):List dD:=match l with
 | []=>[]
 | w :: r=>dp 64 :: fV w.s :: r.flatMap fun y=>[dp 43,fV y.s]
theorem bY {c:UInt8} {r:List UInt8} (h:gC c.toNat=false):lz (c :: r):=fun x hx=>by
 simp only [List.head?_cons,oI] at hx;rw [<- hx];exact h
theorem Gs {r:List UInt8} {L:List dD} (hr:lz r) (h:aU r L):∀ l:List Wd,(∀ w∈l,ay w.s=true)->aU (iF l ++ r) (labK l ++ L)
 | [],_=>h
 | w :: l,hw=>by
  have key:∀ l:List Wd,(∀ w∈l,ay w.s=true)->aU (((l.map mD).flatMap fun y=>[43] ++ y) ++ r) ((l.flatMap fun y=>[dp 43,fV y.s]) ++ L)/\lz (((l.map mD).flatMap fun y=>[43] ++ y) ++ r):=by
   intro l
   induction l with
   | nil=>intro _;exact ⟨h,hr⟩
   | cons x l ih=>
    intro hx;obtain ⟨i1,i2⟩:=ih fun w hw=>hx w (fA _ hw);refine ⟨?_,bY (by decide)⟩;have:=aU.mark (m:=43) (by decide) (aU.name (hx x (by simp)) i2 i1);simpa [List.flatMap_cons,mD] using this
  obtain ⟨k1,k2⟩:=key l fun w W7=>hw w (fA _ W7);have:=aU.blank (aU.mark (m:=64) (by decide) (aU.name (hw w (by simp)) k2 k1));simpa [iF,joinT,labK,mD] using this
theorem Gt {r:List UInt8} (hr:lz r) (l:List Wd):lz (iF l ++ r):=by
 cases l with
 | nil=>exact hr
 | cons w l=>exact bY (by decide)
theorem qJ (w:Wd) (l:List Wd):aw (w :: l)=⟨w.s,0⟩ :: aw l:=rfl
theorem uV (l:List Wd) (w:Wd):aw (l ++ [w])=aw l ++ [⟨w.s,0⟩]:=by
 induction l with
 | nil=>rfl
 | cons x l ih=>rw [List.cons_append,qJ,ih,qJ,List.cons_append]
theorem At.len {c:au} {L:List dD} (h:At c L):L.length<=274877906944:=by
 have h1:=congrArg List.length h.l;rw [List.length_map,List.length_drop] at h1;have:=h.ok.len;omega
theorem Gu {L:List dD} (hL:Jd [43] L):∀ (l:List Wd) (n:Nat) (acc:List Wd) (w:Wd) (c:au),At c (fV w.s :: ((l.flatMap fun y=>[dp 43,fV y.s]) ++ L))->l.length < n->aw (pLab n acc c).1=aw acc ++ aw (w :: l)/\At (pLab n acc c).2 L
 | [],n,acc,w,c,h,hn=>by
  obtain ⟨n,rfl⟩:∃ m,n=m + 1:=⟨n - 1,by simp at hn;omega⟩;obtain ⟨h1,h2⟩:=h.name;have h2:At c.aq L:=h2;rw [pLab,h2.notM hL (by simp),ag (by simp)];exact ⟨by rw [uV,h1];rfl,h2⟩
 | x :: l,n,acc,w,c,h,hn=>by
  obtain ⟨n,rfl⟩:∃ m,n=m + 1:=⟨n - 1,by simp at hn;omega⟩;obtain ⟨h1,h2⟩:=h.name;have h2:At c.aq (dp 43 :: fV x.s :: ((l.flatMap fun y=>[dp 43,fV y.s]) ++ L)):=h2;obtain ⟨h3,h4⟩:=h2.SH;rw [pLab,ah h3];obtain ⟨i1,i2⟩:=Gu hL l n (acc ++ [c.aK]) x _ h4 (by simp at hn;omega);refine ⟨?_,i2⟩;rw [i1,uV,h1,List.append_assoc];rfl
theorem Gv {L:List dD} (hL:Jd [43] L) {l:List Wd} {c:au} (hl:l ≠ []) (h:At c (labK l ++ L)):c.is 4 Rg=true/\aw (fp c.step).1=aw l/\At (fp c.step).2 L:=by
 cases l with
 | nil=>exact absurd rfl hl
 | cons w l=>
  have h:At c (dp 64 :: fV w.s :: ((l.flatMap fun y=>[dp 43,fV y.s]) ++ L)):=h;obtain ⟨h1,h2⟩:=h.SH;refine ⟨h1,?_⟩
  have hlen:l.length < bigN:=by
   have h3:=h2.len
   have h4:l.length<=(l.flatMap fun y=>[dp 43,fV y.s]).length:=by
    have:∀ l:List Wd,l.length<=(l.flatMap fun y=>[dp 43,fV y.s]).length:=by
     intro l
     induction l with
     | nil=>simp
     | cons x l ih=>simp [List.flatMap_cons] at ih ⊢;omega
    exact this l
   rw [List.length_cons,List.length_append] at h3;have:=eS;omega
  have:=Gu hL l bigN [] w _ h2 hlen;simpa [aw,fp] using this
structure zJ (p:Ph):Prop where
 lab:∀ w∈p.label,ay w.s=true
 w0:0<=p.wide
 w1:kH p.wide
 c1:kH p.cn
 ck:(p.ck=0/\p.cn=0/\p.cl=[])∨p.ck=1∨p.ck=2∨(p.ck=3/\p.cn=0)
 cl:∀ w∈p.cl,ay w.s=true
def pW (p:Ph):List dD:=if 0 < p.wide then [dp 35,Di p.wide] else []
def dX (p:Ph):List dD:=
 if p.ck=1 then [dp 126,fV ir,dp 40,Di p.cn,dp 41]
 else if p.ck=2 then [dp 126,fV jv,dp 40,Di p.cn,dp 41]
 else if p.ck=3 then [dp 126,fV lu] else []
def lC (p:Ph):List dD:=labK p.label ++ (pW p ++ (dX p ++ labK p.cl))
theorem Gw {p:Ph} (h:zJ p) {r:List UInt8} {L:List dD} (hr:lz r) (hc:aU r L):aU (fu p ++ r) (dX p ++ L)/\lz (fu p ++ r):=by
 unfold fu dX;split
 ·have:=aU.blank (aU.mark (m:=126) (by decide) (aU.name (w:=ir) (by decide) (bY (c:=40) (by decide)) (aU.mark (m:=40) (by decide) (aU.num h.c1 (bY (c:=41) (by decide)) (aU.mark (m:=41) (by decide) hc)))));exact ⟨by simpa [tx] using this,bY (by decide)⟩
 split
 ·have:=aU.blank (aU.mark (m:=126) (by decide) (aU.name (w:=jv) (by decide) (bY (c:=40) (by decide)) (aU.mark (m:=40) (by decide) (aU.num h.c1 (bY (c:=41) (by decide)) (aU.mark (m:=41) (by decide) hc)))));exact ⟨by simpa [tx] using this,bY (by decide)⟩
 split
 ·have:=aU.blank (aU.mark (m:=126) (by decide) (aU.name (w:=lu) (by decide) hr hc));exact ⟨by simpa [tx] using this,bY (by decide)⟩
 ·exact ⟨hc,hr⟩
theorem Nh {p:Ph} (h:zJ p) {r:List UInt8} {L:List dD} (hr:lz r) (hc:aU r L):aU (kT p ++ r) (pW p ++ L)/\lz (kT p ++ r):=by
 unfold kT pW;split
 ·have:=aU.blank (aU.mark (m:=35) (by decide) (aU.num h.w1 hr hc));exact ⟨by simpa using this,bY (by decide)⟩
 ·exact ⟨hc,hr⟩
theorem yU {p:Ph} (h:zJ p) {r:List UInt8} {L:List dD} (hr:lz r) (hc:aU r L):aU (eA p ++ r) (lC p ++ L)/\lz (eA p ++ r):=by
 have k1:=Gs hr hc p.cl h.cl;have k2:=Gw h (Gt hr p.cl) k1;have k3:=Nh h k2.2 k2.1;have k4:=Gs k3.2 k3.1 p.label h.lab;have k5:=Gt k3.2 p.label;unfold eA lC;simp only [List.append_assoc] at k4 k5 ⊢;exact ⟨k4,k5⟩
theorem yV {p:Ph} (h:zJ p) {L:List dD} (hL:Jd [64,35,126,43] L):Jd [64,35,43] (dX p ++ (labK p.cl ++ L)):=by
 have h0:Jd [64,35,43] L:=ph hL (by decide);have hk:=h.ck;unfold dX;split
 ·exact mw (by decide)
 split
 ·exact mw (by decide)
 split
 ·exact mw (by decide)
 ·rcases hk with ⟨_,_,h3⟩ | h1 | h1 | ⟨h1,_⟩
  ·rw [h3];exact h0
  ·contradiction
  ·contradiction
  ·contradiction
theorem Gx {p:Ph} (h:zJ p) {L:List dD} (hL:Jd [64,35,126,43] L):Jd [64,43] (pW p ++ (dX p ++ (labK p.cl ++ L))):=by
 unfold pW;split
 ·exact mw (by decide)
 ·exact ph (yV h hL) (by decide)
theorem yW {z:Int} {L:List dD} {c:au} (h:At c (dp 40 :: Di z :: dp 41 :: L)):(jQ c).1=z/\At (jQ c).2 L:=by
 have h1:At (c.ai aT) (Di z :: dp 41 :: L):=h.ai;obtain ⟨h2,h3⟩:=h1.num;exact ⟨h2,h3.ai⟩
theorem tU {k n a:Int} {l:List Wd} {L:List dD} (hL:Jd [64,35,126,43] L) {c:au} (h:At c (labK l ++ L)):(fM k n a c).1.k=k/\(fM k n a c).1.n=n/\aw (fM k n a c).1.l=aw l/\At (fM k n a c).2 L:=by
 unfold fM;by_cases hl:l=[]
 ·subst hl;have h:At c L:=h;have:c.is 4 Rg=false:=h.notM hL (by simp);rw [this,ag (by simp)];exact ⟨rfl,rfl,rfl,h⟩
 ·obtain ⟨h1,h2,h3⟩:=Gv (ph hL (by decide)) hl h;rw [ah h1];exact ⟨rfl,rfl,h2,h3⟩
theorem Gy {p:Ph} (h:zJ p) (hk:p.ck≠0) {L:List dD} (hL:Jd [64,35,126,43] L) {c:au} (hc:At c (dX p ++ (labK p.cl ++ L))) :
  c.is 4 tI=true/\(ch c.step).1.k=p.ck/\(ch c.step).1.n=p.cn/\aw (ch c.step).1.l=aw p.cl/\At (ch c.step).2 L:=by
 rcases h.ck with ⟨h0,_⟩ | h1 | h1 | ⟨h1,h2⟩
 ·exact absurd h0 hk
 ·have hc:At c (dp 126 :: fV ir :: dp 40 :: Di p.cn :: dp 41 :: (labK p.cl ++ L)):=by
   unfold dX at hc;rw [ah h1] at hc;exact hc
  obtain ⟨i1,i2⟩:=hc.SH;obtain ⟨i3,i4⟩:=i2.isN;refine ⟨i1,?_⟩;obtain ⟨n1,n2⟩:=yW i4;have:=tU (k:=1) (n:=p.cn) (a:=c.step.aF.a) hL n2;unfold ch;rw [ah i3,n1,h1];exact this
 ·have hc:At c (dp 126 :: fV jv :: dp 40 :: Di p.cn :: dp 41 :: (labK p.cl ++ L)):=by
   unfold dX at hc;rw [ag (by omega),ah h1] at hc;exact hc
  obtain ⟨i1,i2⟩:=hc.SH;obtain ⟨i3,i4⟩:=i2.isN;refine ⟨i1,?_⟩;obtain ⟨n1,n2⟩:=yW i4;have:=tU (k:=2) (n:=p.cn) (a:=c.step.aF.a) hL n2;have i5:¬ c.step.is 1 ir=true:=by rw [i2.is];decide
  unfold ch;rw [ag i5,ah i3,n1,h1];exact this
 ·have hc:At c (dp 126 :: fV lu :: (labK p.cl ++ L)):=by
   unfold dX at hc;rw [ag (by omega),ag (by omega),ah h1] at hc;exact hc
  obtain ⟨i1,i2⟩:=hc.SH;obtain ⟨i3,i4⟩:=i2.isN;refine ⟨i1,?_⟩;have:=tU (k:=3) (n:=0) (a:=c.step.aF.a) hL i4;have i5:¬ c.step.is 1 ir=true:=by rw [i2.is];decide
  have i6:¬ c.step.is 1 jv=true:=by rw [i2.is];decide
  unfold ch;rw [ag i5,ag i6,ah i3,h1,h2];exact this
theorem yX {p:Ph} (h:zJ p) {L:List dD} (hL:Jd [64,35,126,43] L) (w:Wd) {c:au} (hc:At c (lC p ++ L)) :
  aY (bT (kX w false) c).1=⟨⟨w.s,0⟩,false,aw p.label,p.wide,p.ck,p.cn,0,aw p.cl⟩/\At (bT (kX w false) c).2 L:=by
 have hc:At c (labK p.label ++ (pW p ++ (dX p ++ (labK p.cl ++ L)))):=by
  unfold lC at hc;simpa using hc
 have s1:∃ l1,zp (kX w false) c=(⟨w,false,l1,0,0,0,0,[]⟩,(zp (kX w false) c).2)/\aw l1=aw p.label/\At (zp (kX w false) c).2 (pW p ++ (dX p ++ (labK p.cl ++ L))):=by
  unfold zp;by_cases hl:p.label=[]
  ·rw [hl] at hc ⊢;have hc:At c (pW p ++ (dX p ++ (labK p.cl ++ L))):=hc;have:c.is 4 Rg=false:=hc.notM (Gx h hL) (by simp);rw [this,ag (by simp)];exact ⟨[],rfl,rfl,hc⟩
  ·obtain ⟨h1,h2,h3⟩:=Gv (ph (Gx h hL) (by decide)) hl hc;rw [ah h1];exact ⟨_,rfl,h2,h3⟩
 obtain ⟨l1,e1,p1,a1⟩:=s1;unfold bT;rw [e1];generalize (zp (kX w false) c).2=c1 at a1;simp only
 have s2:CZ ⟨w,false,l1,0,0,0,0,[]⟩ c1=(⟨w,false,l1,p.wide,0,0,0,[]⟩,(CZ ⟨w,false,l1,0,0,0,0,[]⟩ c1).2)/\At (CZ ⟨w,false,l1,0,0,0,0,[]⟩ c1).2 (dX p ++ (labK p.cl ++ L)):=by
  unfold CZ;by_cases hl:0 < p.wide
  ·have a1:At c1 (dp 35 :: Di p.wide :: (dX p ++ (labK p.cl ++ L))):=by
    unfold pW at a1;rw [ah hl] at a1;exact a1
   obtain ⟨i1,i2⟩:=a1.SH;obtain ⟨i3,i4⟩:=i2.num;rw [ah i1];exact ⟨by rw [i3],i4⟩
  ·have a1:At c1 (dX p ++ (labK p.cl ++ L)):=by
    unfold pW at a1;rw [ag hl] at a1;exact a1
   have:c1.is 4 F2=false:=a1.notM (yV h hL) (by simp);rw [this,ag (by simp)];have hw:p.wide=0:=by have:=h.w0;omega
   exact ⟨by rw [hw],a1⟩
 obtain ⟨e2,a2⟩:=s2;rw [e2];generalize (CZ ⟨w,false,l1,0,0,0,0,[]⟩ c1).2=c2 at a2;simp only;unfold MW;by_cases hk:p.ck=0
 ·rcases h.ck with ⟨_,h2,h3⟩ | h1 | h1 | ⟨h1,_⟩
  ·have a2:At c2 L:=by
    unfold dX at a2;rw [ag (by omega),ag (by omega),ag (by omega),h3] at a2;exact a2
   have:c2.is 4 tI=false:=a2.notM hL (by simp);rw [this,ag (by simp),hk,h2,h3];refine ⟨?_,a2⟩;show Ph.mk ⟨w.s,0⟩ false (aw l1) p.wide 0 0 0 []=_;rw [p1];rfl
  ·omega
  ·omega
  ·omega
 ·obtain ⟨i1,i2,i3,i4,i5⟩:=Gy h hk hL a2;rw [ah i1];refine ⟨?_,i5⟩;show Ph.mk ⟨w.s,0⟩ false (aw l1) p.wide (ch c2.step).1.k (ch c2.step).1.n 0 (aw (ch c2.step).1.l)=_;rw [p1,i2,i3,i4]
structure yY {α γ:Type} (f:au->List α->au × List α) (ga:α->γ) (D:Nat) (text:List UInt8) (v:γ) (K:List dD):Prop where
 hd:∃ w K',K=fV w :: K'
 U4:∀ r L,lz r->aU r L->aU (text ++ r) (K ++ L)
 read:∀ c L acc,At c (K ++ L)->Jd [64,35,126,43,40,60] L->c.d=D->∃ a,(f c acc).2=acc ++ [a]/\ga a=v/\At (f c acc).1 L/\(f c acc).1.d=D
theorem pj {α γ:Type} {f:au->List α->au × List α} {ga:α->γ} {D:Nat} {m:UInt8} (hm:m∈tx lm) (hs:gC m.toNat=false) (hx:∀ x ∈ [64,35,126,43,40,60],x≠m) (h44:m≠44) :
  ∀ (items:List (List UInt8 × γ)),(∀ b∈items,∃ K,yY f ga D b.1 b.2 K)->items ≠ [] ->
   ∃ K,(∃ w K',K=fV w :: K')/\(∀ r L,aU r L->aU (joinT [] [44,32] (items.map (·.1)) ++ m :: r) (K ++ dp m :: L)) /\
    ∀ c L acc n,items.length<=n->At c (K ++ dp m :: L)->c.d=D->∃ us,(listF f ⟨#[m]⟩ n c acc).2=acc ++ us/\us.map ga=items.map (·.2)/\At (listF f ⟨#[m]⟩ n c acc).1 L/\(listF f ⟨#[m]⟩ n c acc).1.d=D
 | [],_,bo=>absurd rfl bo
 | [b],hb,_=>by
  obtain ⟨K,hK⟩:=hb b (by simp);refine ⟨K,hK.hd,fun r L hc=>?_,fun c L acc n hn h hd=>?_⟩
  ·have:=hK.U4 (m :: r) (dp m :: L) (bY hs) (aU.mark hm hc);simpa [joinT] using this
  ·obtain ⟨n,rfl⟩:∃ k,n=k + 1:=⟨n - 1,by simp at hn;omega⟩;obtain ⟨a,e1,e2,e3,e4⟩:=hK.read c (dp m :: L) acc h (mw hx) hd;obtain ⟨i1,i2⟩:=e3.SH;rw [listF,ah h.f,ah i1];exact ⟨[a],e1,by simp [e2],i2,by rw [(aR.step _).d,e4]⟩
 | b :: b2 :: r',hb,_=>by
  obtain ⟨K,hK⟩:=hb b (by simp);obtain ⟨K2,_,k1,k2⟩:=pj hm hs hx h44 (b2 :: r') (fun x hx=>hb x (fA _ hx)) (by simp);refine ⟨K ++ dp 44 :: K2,by obtain ⟨w,K',e⟩:=hK.hd;exact ⟨w,_,by rw [e];rfl⟩,fun r L hc=>?_,fun c L acc n hn h hd=>?_⟩
  ·have:=hK.U4 _ _ (bY (c:=44) (by decide)) (aU.mark (m:=44) (by decide) (aU.blank (k1 r L hc)));simpa [joinT,List.flatMap_cons] using this
  ·obtain ⟨n,rfl⟩:∃ k,n=k + 1:=⟨n - 1,by simp at hn;omega⟩;have h:At c (K ++ (dp 44 :: (K2 ++ dp m :: L))):=sU h;obtain ⟨a,e1,e2,e3,e4⟩:=hK.read c _ acc h (mw (by decide)) hd
   have i1:(f c acc).1.is 4 ⟨#[m]⟩=false:=by
    rw [e3.is];have:¬ (⟨#[44]⟩:ByteArray)=⟨#[m]⟩:=fun he=>h44 (by simpa using he.symm);simp [dp,this]
   have e5:=e3.ai;obtain ⟨us,o1,o2,o3,o4⟩:=k2 _ L (f c acc).2 n (by simp at hn ⊢;omega) e5 (by rw [(aR.ai _ _).d,e4]);rw [listF,ah h.f,i1,ag (by simp)];refine ⟨a :: us,?_,by simp only [List.map_cons] at o2 ⊢;rw [e2,o2],o3,o4⟩;rw [o1,e1,List.append_assoc];rfl
mutual
inductive Je:Nat->Ty->Prop
 | bool {n:Nat} {h:Hd}:bw h=lx 1 0->Je (n + 1) (.mk h .nil)
 | int {n:Nat} {h:Hd} {a b:Int}:bw h={ lx 2 0 with lo:=a,hi:=b }->kH a->kH b->Je (n + 1) (.mk h .nil)
 | text {n:Nat} {h:Hd} {m:Int}:bw h={ lx 3 0 with most:=m }->kH m->Je (n + 1) (.mk h .nil)
 | enum {n:Nat} {h:Hd} {l:List Wd}:bw h={ lx 4 0 with af:=aw h.af }->h.af ≠ []->h.af.length<=64->(∀ w∈h.af,ay w.s=true)->Je (n + 1) (.mk h .nil)
 | list {n:Nat} {h:Hd} {m:Int} {p:Ph} {t:Ty}:bw h={ lx 5 0 with most:=m }->kH m->aY p=cp->Je n t->Je (n + 1) (.mk h (.cons p t .nil))
 | opt {n:Nat} {h:Hd} {p:Ph} {t:Ty}:bw h=lx 6 0->aY p=cp->Je n t->Je (n + 1) (.mk h (.cons p t .nil))
 | rcd {n:Nat} {h:Hd} {ps:Pts}:bw h=lx 7 0->ps.len<=64->Dj n false ps->Je (n + 1) (.mk h ps)
 | uni {n:Nat} {h:Hd} {ps:Pts}:bw h=lx 8 0->ps.len<=64->ps ≠ .nil->Dj n true ps->Je (n + 1) (.mk h ps)
 | ref {n:Nat} {h:Hd} {w:ByteArray}:bw h={ lx 9 0 with name:=⟨w,0⟩ }->ay w=true->Je (n + 1) (.mk h .nil)
inductive Dj:Nat->Bool->Pts->Prop
 | nil {n:Nat} {tag:Bool}:Dj n tag .nil
 | bare {n:Nat} {p:Ph} {t:Ty} {r:Pts}:ay p.name.s=true->p.bare=true->aY p=kX ⟨p.name.s,0⟩ true->stripT t=bX->Dj n true r->Dj n true (.cons p t r)
 | part {n:Nat} {tag:Bool} {p:Ph} {t:Ty} {r:Pts}:ay p.name.s=true->zJ p->p.bare=false->Je n t->Dj n tag r->Dj n tag (.cons p t r)
end
def G7 (n:Nat) (t:Ty):Prop:=∃ K:List dD,(∀ r L,lz r->aU r L->aU (tyT t ++ r) (K ++ L))/\∀ c L,At c (K ++ L)->c.d + n=24->stripT (pKind n c).1=stripT t/\At (pKind n c).2 L/\(pKind n c).2.d=c.d
theorem uW {h:Hd} {k:Hd} (e:bw h=k):h.al=k.al/\h.lo=k.lo/\h.hi=k.hi/\h.most=k.most/\aw h.af=k.af/\h.name.s=k.name.s:=by
 subst e;exact ⟨rfl,rfl,rfl,rfl,rfl,rfl⟩
theorem At.deep {c:au} {L:List dD} (h:At c L) (hd:c.d < 24):At c.deep L:=⟨h.ok.deep hd,h.f,h.l⟩
theorem At.leave {c:au} {L:List dD} (h:At c L):At c.leave L:=⟨h.ok.leave,h.f,h.l⟩
theorem fW {n:Nat} {c:au} {w:ByteArray} {L L':List dD} {v:Ty} (h:At c (fV w :: L)) (hd:c.d + (n + 1)=24)
  (hb:∀ c',At c' L->c'.d + n=24->(cj (pKind n) w c.aF.a c').1=true/\stripT (cj (pKind n) w c.aF.a c').2.1=v/\At (cj (pKind n) w c.aF.a c').2.2 L' /\ (cj (pKind n) w c.aF.a c').2.2.d=c'.d) :
  stripT (pKind (n + 1) c).1=v/\At (pKind (n + 1) c).2 L' /\ (pKind (n + 1) c).2.d=c.d:=by
 have h1:=h.deep (by omega);have hp:c.deep.aF.s=w:=h1.aF.2.1;have ht:c.deep.tk 1=true:=(h1.tk (show (1:Int)≠0 by decide)).1;have h2:At c.deep.step L:=h1.step (by show (1:Int)≠0;decide);have SS:c.deep.step.d=c.d + 1:=(aR.step c.deep).d;obtain ⟨b1,b2,b3,b4⟩:=hb c.deep.step h2 (by rw [SS];omega);rw [pKind,ah ht,hp,ah b1];refine ⟨b2,b3.leave,?_⟩;show (cj (pKind n) w c.aF.a c.deep.step).2.2.d - 1=c.d;rw [b4,SS];rfl
theorem fy {c:au} {s:ByteArray}:(c.ai s).d=c.d:=(aR.ai _ _).d
theorem U5 {c:au}:c.bP.d=c.d:=(aR.bP _).d
theorem named {c:au}:c.aq.d=c.d:=(aR.aq _).d
theorem Ni {n:Nat} {h:Hd} (e:bw h=lx 1 0):G7 (n + 1) (.mk h .nil):=by
 obtain ⟨e1,e2,e3,e4,e5,e6⟩:=uW e;have hk:h.al=1:=e1;refine ⟨[fV oE],fun r L hr hc=>?_,fun c L h0 hd=>?_⟩
 ·have:=aU.name (w:=oE) (by decide) hr hc;have ht:tyT (.mk h .nil)=tx oE:=by rw [tyT,fv,ah hk];all_goals rfl
  rw [ht];exact this
 ·refine fW h0 hd fun c' h' zl=>?_;have:cj (pKind n) oE c.aF.a c'=(true,NZ 1 c.aF.a,c'):=by rw [cj,ah rfl]
  rw [this];refine ⟨rfl,?_,h',rfl⟩;show Ty.mk _ _=Ty.mk _ _;rw [e];rfl
theorem R8 {n:Nat} {h:Hd} {a b:Int} (e:bw h={ lx 2 0 with lo:=a,hi:=b }) (ha:kH a) (hb:kH b):G7 (n + 1) (.mk h .nil):=by
 obtain ⟨e1,e2,e3,e4,e5,e6⟩:=uW e;have hk:h.al=2:=e1;have e2:h.lo=a:=e2;have e3:h.hi=b:=e3;refine ⟨[fV IE,dp 40,Di a,U3,Di b,dp 41],fun r L hr hc=>?_,fun c L h0 hd=>?_⟩
 ·have:=aU.name (w:=IE) (by decide) (bY (c:=40) (by decide)) (aU.mark (m:=40) (by decide) (aU.num ha (bY (c:=46) (by decide)) (aU.adU (aU.num hb (bY (c:=41) (by decide)) (aU.mark (m:=41) (by decide) hc)))))
  have ht:tyT (.mk h .nil) ++ r=tx IE ++ (40 :: (fI a ++ (46 :: 46 :: (fI b ++ (41 :: r))))):=by
   rw [tyT,fv,ag (by omega),ah hk,e2,e3];simp [tx]
  rw [ht];exact this
 ·refine fW h0 hd fun c' h' zl=>?_;have h':At c' (dp 40 :: Di a :: U3 :: Di b :: dp 41 :: L):=h';obtain ⟨n1,n2⟩:=(h'.ai:At (c'.ai aT) _).num;obtain ⟨n3,n4⟩:=n2.adV.num;have n5:At (((c'.ai aT).bP.ai jf).bP.ai bE) L:=n4.ai
  have:cj (pKind n) IE c.aF.a c'=(true,.mk { lx 2 c.aF.a with lo:=(c'.ai aT).iu,hi:=((c'.ai aT).bP.ai jf).iu } .nil,((c'.ai aT).bP.ai jf).bP.ai bE):=by
   rw [cj,ag (by decide),ah rfl]
  rw [this,n1,n3];refine ⟨rfl,?_,n5,by rw [fy,U5,fy,U5,fy]⟩;show Ty.mk _ _=Ty.mk _ _;rw [e];rfl
theorem Nj {n:Nat} {h:Hd} {m:Int} (e:bw h={ lx 3 0 with most:=m }) (hm:kH m):G7 (n + 1) (.mk h .nil):=by
 obtain ⟨e1,e2,e3,e4,e5,e6⟩:=uW e;have hk:h.al=3:=e1;have e4:h.most=m:=e4;refine ⟨[fV yu,dp 40,Di m,dp 41],fun r L hr hc=>?_,fun c L h0 hd=>?_⟩
 ·have:=aU.name (w:=yu) (by decide) (bY (c:=40) (by decide)) (aU.mark (m:=40) (by decide) (aU.num hm (bY (c:=41) (by decide)) (aU.mark (m:=41) (by decide) hc)))
  have ht:tyT (.mk h .nil) ++ r=tx yu ++ (40 :: (fI m ++ (41 :: r))):=by
   rw [tyT,fv,ag (by omega),ag (by omega),ah hk,e4];simp [tx]
  rw [ht];exact this
 ·refine fW h0 hd fun c' h' zl=>?_;obtain ⟨n1,n2⟩:=yW (h':At c' (dp 40 :: Di m :: dp 41 :: L))
  have:cj (pKind n) yu c.aF.a c'=(true,.mk { lx 3 c.aF.a with most:=(jQ c').1 } .nil,(jQ c').2):=by
   rw [cj,ag (by decide),ag (by decide),ah rfl]
  rw [this,n1];refine ⟨rfl,?_,n2,by show (((c'.ai aT).bP).ai bE).d=c'.d;rw [fy,U5,fy]⟩;show Ty.mk _ _=Ty.mk _ _;rw [e];rfl
theorem R9 {n:Nat} {h:Hd} {w:ByteArray} (e:bw h={ lx 9 0 with name:=⟨w,0⟩ }) (hw:ay w=true):G7 (n + 1) (.mk h .nil):=by
 obtain ⟨e1,e2,e3,e4,e5,e6⟩:=uW e;have hk:h.al=9:=e1;have e6:h.name.s=w:=e6;refine ⟨[fV IG,dp 40,fV w,dp 41],fun r L hr hc=>?_,fun c L h0 hd=>?_⟩
 ·have:=aU.name (w:=IG) (by decide) (bY (c:=40) (by decide)) (aU.mark (m:=40) (by decide) (aU.name hw (bY (c:=41) (by decide)) (aU.mark (m:=41) (by decide) hc)))
  have ht:tyT (.mk h .nil) ++ r=tx IG ++ (40 :: (tx w ++ (41 :: r))):=by
   rw [tyT,fv,ag (by omega),ag (by omega),ag (by omega),ag (by omega),ag (by omega),ah hk,e6];simp [tx]
  rw [ht];exact this
 ·refine fW h0 hd fun c' h' zl=>?_;have h':At c' (dp 40 :: fV w :: dp 41 :: L):=h';obtain ⟨n1,n2⟩:=(h'.ai:At (c'.ai aT) _).name;have n3:At ((c'.ai aT).aq.ai bE) L:=n2.ai
  have:cj (pKind n) IG c.aF.a c'=(true,.mk { lx 9 c.aF.a with name:=(c'.ai aT).aK } .nil,(c'.ai aT).aq.ai bE):=by
   rw [cj,ag (by decide),ag (by decide),ag (by decide),ag (by decide),ag (by decide),ag (by decide),ag (by decide),ag (by decide),ah rfl]
  rw [this];refine ⟨rfl,?_,n3,by rw [fy,named,fy]⟩;show Ty.mk _ _=Ty.mk _ _;rw [e];show Ty.mk { lx 9 0 with name:=⟨(c'.ai aT).aK.s,0⟩ } _=_;rw [n1]
theorem Sa {n:Nat} {h:Hd} {p:Ph} {t:Ty} (e:bw h=lx 6 0) (hp:aY p=cp) (ih:G7 n t):G7 (n + 1) (.mk h (.cons p t .nil)):=by
 obtain ⟨e1,e2,e3,e4,e5,e6⟩:=uW e;have hk:h.al=6:=e1;obtain ⟨K,k1,k2⟩:=ih;refine ⟨fV IF :: dp 40 :: (K ++ [dp 41]),fun r L hr hc=>?_,fun c L h0 hd=>?_⟩
 ·have:=aU.name (w:=IF) (by decide) (bY (c:=40) (by decide)) (aU.mark (m:=40) (by decide) (k1 _ _ (bY (c:=41) (by decide)) (aU.mark (m:=41) (by decide) hc)))
  have ht:tyT (.mk h (.cons p t .nil)) ++ r=tx IF ++ (40 :: (tyT t ++ (41 :: r))):=by
   rw [tyT,fv,ag (by omega),ag (by omega),ag (by omega),ag (by omega),ah hk,firstT];simp [tx]
  rw [ht];simpa using this
 ·refine fW (sU h0) hd fun c' h' zl=>?_;have h':At c' (dp 40 :: (K ++ (dp 41 :: L))):=sU h';have n1:At (c'.ai aT) (K ++ (dp 41 :: L)):=h'.ai;obtain ⟨i1,i2,i3⟩:=k2 _ _ n1 (by rw [fy];exact zl);have n2:At ((pKind n (c'.ai aT)).2.ai bE) L:=i2.ai
  have:cj (pKind n) IF c.aF.a c'=(true,.mk (lx 6 c.aF.a) (.cons cp (pKind n (c'.ai aT)).1 .nil),(pKind n (c'.ai aT)).2.ai bE):=by
   rw [cj,ag (by decide),ag (by decide),ag (by decide),ag (by decide),ag (by decide),ah rfl]
  rw [this];refine ⟨rfl,?_,n2,by rw [fy,i3,fy]⟩;show Ty.mk _ (.cons _ (stripT _) .nil)=Ty.mk _ (.cons _ _ .nil);rw [e,hp,i1];rfl
theorem Gz {n:Nat} {h:Hd} {m:Int} {p:Ph} {t:Ty} (e:bw h={ lx 5 0 with most:=m }) (hm:kH m) (hp:aY p=cp) (ih:G7 n t):G7 (n + 1) (.mk h (.cons p t .nil)):=by
 obtain ⟨e1,e2,e3,e4,e5,e6⟩:=uW e;have hk:h.al=5:=e1;have e4:h.most=m:=e4;obtain ⟨K,k1,k2⟩:=ih;refine ⟨fV yw :: dp 40 :: (K ++ [dp 44,Di m,dp 41]),fun r L hr hc=>?_,fun c L h0 hd=>?_⟩
 ·have:=aU.name (w:=yw) (by decide) (bY (c:=40) (by decide)) (aU.mark (m:=40) (by decide) (k1 _ _ (bY (c:=44) (by decide)) (aU.mark (m:=44) (by decide) (aU.blank (aU.num hm (bY (c:=41) (by decide)) (aU.mark (m:=41) (by decide) hc))))))
  have ht:tyT (.mk h (.cons p t .nil)) ++ r=tx yw ++ (40 :: (tyT t ++ (44 :: 32 :: (fI m ++ (41 :: r))))):=by
   rw [tyT,fv,ag (by omega),ag (by omega),ag (by omega),ah hk,firstT,e4];simp [tx]
  rw [ht];simpa using this
 ·refine fW (sU h0) hd fun c' h' zl=>?_;have h':At c' (dp 40 :: (K ++ (dp 44 :: Di m :: dp 41 :: L))):=sU h';have n1:At (c'.ai aT) (K ++ (dp 44 :: Di m :: dp 41 :: L)):=h'.ai;obtain ⟨i1,i2,i3⟩:=k2 _ _ n1 (by rw [fy];exact zl);obtain ⟨n2,n3⟩:=(i2.ai:At ((pKind n (c'.ai aT)).2.ai cX) _).num;have n4:At (((pKind n (c'.ai aT)).2.ai cX).bP.ai bE) L:=n3.ai
  have:cj (pKind n) yw c.aF.a c'=(true,.mk { lx 5 c.aF.a with most:=((pKind n (c'.ai aT)).2.ai cX).iu } (.cons cp (pKind n (c'.ai aT)).1 .nil),((pKind n (c'.ai aT)).2.ai cX).bP.ai bE):=by
   rw [cj,ag (by decide),ag (by decide),ag (by decide),ag (by decide),ah rfl]
  rw [this,n2];refine ⟨rfl,?_,n4,by rw [fy,U5,fy,i3,fy]⟩;show Ty.mk _ (.cons _ (stripT _) .nil)=Ty.mk _ (.cons _ _ .nil);rw [e,hp,i1];rfl
theorem Nk {w:ByteArray} (hw:ay w=true) (D:Nat):yY fg (fun w:Wd=>(⟨w.s,0⟩:Wd)) D (tx w) ⟨w,0⟩ [fV w] where
 hd:=⟨w,[],rfl⟩
 U4 r L hr hc:=aU.name hw hr hc
 read c L acc h _ hd:=by
  obtain ⟨h1,h2⟩:=(h:At c (fV w :: L)).name;exact ⟨c.aK,rfl,by rw [h1],h2,by show c.aq.d=D;rw [named,hd]⟩
def Zt (l:List Wd):List (List UInt8 × Wd):=l.map fun w=>(tx w.s,(⟨w.s,0⟩:Wd))
theorem U6 (l:List Wd):(Zt l).map (·.1)=l.map mD:=by simp [Zt,mD]
theorem U7 (l:List Wd):(Zt l).map (·.2)=aw l:=by simp [Zt,aw]
theorem yZ {m:UInt8} (hm:m∈tx lm) (hs:gC m.toNat=false) (hx:∀ x ∈ [64,35,126,43,40,60],x≠m) (h44:m≠44) {l:List Wd} (hl:l ≠ []) (hw:∀ w∈l,ay w.s=true) (D:Nat) :
  ∃ K,(∃ w K',K=fV w :: K')/\(∀ r L,aU r L->aU (joinT [] [44,32] (l.map mD) ++ m :: r) (K ++ dp m :: L)) /\
   ∀ c L n,l.length<=n->At c (K ++ dp m :: L)->c.d=D->aw (listF fg ⟨#[m]⟩ n c []).2=aw l/\At (listF fg ⟨#[m]⟩ n c []).1 L/\(listF fg ⟨#[m]⟩ n c []).1.d=D:=by
 obtain ⟨K,k0,k1,k2⟩:=pj (f:=fg) (ga:=fun w:Wd=>(⟨w.s,0⟩:Wd)) (D:=D) hm hs hx h44 (Zt l) (fun b hb=>by
  obtain ⟨w,Z5,rfl⟩:=List.mem_map.1 hb
  exact ⟨_,Nk (hw w Z5) D⟩) (by simpa [Zt] using hl)
 rw [U6] at k1;refine ⟨K,k0,k1,fun c L n hn h hd=>?_⟩;obtain ⟨us,u1,u2,u3,u4⟩:=k2 c L [] n (by simpa [Zt] using hn) h hd;rw [U7] at u2;rw [u1];exact ⟨by simpa [aw] using u2,u3,u4⟩
theorem Nl {n:Nat} {h:Hd} (e:bw h={ lx 4 0 with af:=aw h.af }) (bo:h.af ≠ []) (hlen:h.af.length<=64) (hw:∀ w∈h.af,ay w.s=true):G7 (n + 1) (.mk h .nil):=by
 obtain ⟨e1,e2,e3,e4,e5,e6⟩:=uW e;have hk:h.al=4:=e1;obtain ⟨K,_,k1,k2⟩:=yZ (m:=41) (by decide) (by decide) (by decide) (by decide) bo hw (24 - n);have hb:=eS;refine ⟨fV yv :: dp 40 :: (K ++ [dp 41]),fun r L hr hc=>?_,fun c L h0 hd=>?_⟩
 ·have:=aU.name (w:=yv) (by decide) (bY (c:=40) (by decide)) (aU.mark (m:=40) (by decide) (k1 r L hc))
  have ht:tyT (.mk h .nil) ++ r=tx yv ++ (40 :: (joinT [] [44,32] (h.af.map mD) ++ 41 :: r)):=by
   rw [tyT,fv,ag (by omega),ag (by omega),ag (by omega),ag (by omega),ag (by omega),ag (by omega),ag (by omega),ag (by omega)];simp [tx]
  rw [ht];simpa using this
 ·refine fW (sU h0) hd fun c' h' zl=>?_;have h':At c' (dp 40 :: (K ++ (dp 41 :: L))):=sU h';have n1:At (c'.ai aT) (K ++ (dp 41 :: L)):=h'.ai;obtain ⟨i1,i2,i3⟩:=k2 _ L bigN (by omega) n1 (by rw [fy];omega)
  have:cj (pKind n) yv c.aF.a c'=(true,.mk { lx 4 c.aF.a with af:=(listF fg bE bigN (c'.ai aT) []).2 } .nil,(listF fg bE bigN (c'.ai aT) []).1):=by
   rw [cj,ag (by decide),ag (by decide),ag (by decide),ah rfl]
  rw [this];refine ⟨rfl,?_,i2,by show (listF fg bE bigN (c'.ai aT) []).1.d=c'.d;rw [i3];omega⟩;show Ty.mk _ _=Ty.mk _ _;rw [e];show Ty.mk { lx 4 0 with af:=aw (listF fg bE bigN (c'.ai aT) []).2 } .nil=_;rw [i1];rfl
def gaP (p:Ph × Ty):Ph × Ty:=(aY p.1,stripT p.2)
def itP (tag:Bool):Pts->List (List UInt8 × (Ph × Ty))
 | .nil=>[]
 | .cons p t r=>(ie tag p (tyT t),(aY p,stripT t)) :: itP tag r
theorem KS (tag:Bool):∀ ps:Pts,(itP tag ps).map (·.1)=jI tag ps
 | .nil=>rfl
 | .cons p t r=>by rw [itP,List.map_cons,KS tag r,jI]
theorem KT (tag:Bool):∀ ps:Pts,(itP tag ps).length=ps.len
 | .nil=>rfl
 | .cons p t r=>by rw [itP,List.length_cons,KT tag r,Pts.len]
theorem KU (tag:Bool):∀ ps:Pts,mkPts ((itP tag ps).map (·.2))=stripP ps
 | .nil=>rfl
 | .cons p t r=>by rw [itP,List.map_cons,mkPts,KU tag r,stripP]
theorem GA:∀ l:List (Ph × Ty),stripP (mkPts l)=mkPts (l.map gaP)
 | []=>rfl
 | p :: r=>by rw [mkPts,stripP,GA r,List.map_cons,mkPts];all_goals rfl
theorem GB {p:Ph} (hb:p.bare=false) {w:ByteArray} (hw:w=p.name.s):(⟨⟨w,0⟩,false,aw p.label,p.wide,p.ck,p.cn,0,aw p.cl⟩:Ph)=aY p:=by
 subst hw;obtain ⟨nm,bare,lb,wd,ck,cn,ca,cl⟩:=p;simp only at hb;subst hb;rfl
theorem Nn {n:Nat} {tag:Bool} {p:Ph} {t:Ty} (hn:ay p.name.s=true) (hm:zJ p) (hb:p.bare=false) (ih:G7 n t) (hn24:n<=24):∃ K,yY (mh (pKind n) tag) gaP (24 - n) (ie tag p (tyT t)) (aY p,stripT t) K:=by
 obtain ⟨K,k1,k2⟩:=ih
 cases tag with
 | false=>
  refine ⟨fV p.name.s :: dp 58 :: (K ++ lC p),⟨_,_,rfl⟩,fun r L hr hc=>?_,fun c L acc h hL hd=>?_⟩
  ·obtain ⟨m1,m2⟩:=yU hm hr hc;have:=aU.name hn (bY (c:=58) (by decide)) (aU.mark (m:=58) (by decide) (aU.blank (k1 _ _ m2 m1)))
   have ht:ie false p (tyT t) ++ r=tx p.name.s ++ (58 :: 32 :: (tyT t ++ (eA p ++ r))):=by
    rw [ie,hb];simp
   rw [ht];simpa using this
  ·have h:At c (fV p.name.s :: dp 58 :: (K ++ (lC p ++ L))):=sU h;obtain ⟨n1,n2⟩:=h.name;have n3:At (c.aq.ai cG) (K ++ (lC p ++ L)):=n2.ai;obtain ⟨i1,i2,i3⟩:=k2 _ _ n3 (by rw [fy,named];omega);obtain ⟨j1,j2⟩:=yX hm (ph hL (by decide)) c.aK i2;refine ⟨(ky (pKind n) c).1,rfl,?_,j2,?_⟩
   ·show (aY (bT (kX c.aK false) (pKind n (c.aq.ai cG)).2).1,stripT (pKind n (c.aq.ai cG)).1)=_;rw [j1,i1,GB hb n1]
   ·show (bT (kX c.aK false) (pKind n (c.aq.ai cG)).2).2.d=_;rw [(iR (Sm.self i2.ok)).st.d,i3,fy,named,hd]
 | true=>
  refine ⟨fV p.name.s :: dp 40 :: (K ++ (dp 41 :: lC p)),⟨_,_,rfl⟩,fun r L hr hc=>?_,fun c L acc h hL hd=>?_⟩
  ·obtain ⟨m1,m2⟩:=yU hm hr hc;have:=aU.name hn (bY (c:=40) (by decide)) (aU.mark (m:=40) (by decide) (k1 _ _ (bY (c:=41) (by decide)) (aU.mark (m:=41) (by decide) m1)))
   have ht:ie true p (tyT t) ++ r=tx p.name.s ++ (40 :: (tyT t ++ (41 :: (eA p ++ r)))):=by
    rw [ie,hb];simp
   rw [ht];simpa using this
  ·have h:At c (fV p.name.s :: dp 40 :: (K ++ (dp 41 :: (lC p ++ L)))):=sU h;obtain ⟨n1,n2⟩:=h.name;obtain ⟨n3,n4⟩:=n2.SH;obtain ⟨i1,i2,i3⟩:=k2 _ _ n4 (by rw [(aR.step _).d,named];omega);have n5:At ((pKind n c.aq.step).2.ai bE) (lC p ++ L):=i2.ai;obtain ⟨j1,j2⟩:=yX hm (ph hL (by decide)) c.aK n5;have e:jR (pKind n) c=(((bT (kX c.aK false) ((pKind n c.aq.step).2.ai bE)).1,(pKind n c.aq.step).1),(bT (kX c.aK false) ((pKind n c.aq.step).2.ai bE)).2):=by rw [jR,ah n3]
   refine ⟨(jR (pKind n) c).1,rfl,?_,by show At (jR (pKind n) c).2 L;rw [e];exact j2,?_⟩
   ·rw [e];show (aY (bT (kX c.aK false) ((pKind n c.aq.step).2.ai bE)).1,stripT (pKind n c.aq.step).1)=_;rw [j1,i1,GB hb n1]
   ·show (jR (pKind n) c).2.d=_;rw [e];show (bT (kX c.aK false) ((pKind n c.aq.step).2.ai bE)).2.d=_;rw [(iR (Sm.self n5.ok)).st.d,fy,i3,(aR.step _).d,named,hd]
theorem Np {n:Nat} {p:Ph} {t:Ty} (hn:ay p.name.s=true) (hb:p.bare=true) (hp:aY p=kX ⟨p.name.s,0⟩ true) (ht:stripT t=bX):∃ K,yY (mh (pKind n) true) gaP (24 - n) (ie true p (tyT t)) (aY p,stripT t) K:=by
 refine ⟨[fV p.name.s],⟨_,_,rfl⟩,fun r L hr hc=>?_,fun c L acc h hL hd=>?_⟩
 ·have ht:ie true p (tyT t)=tx p.name.s:=by rw [ie,hb];simp
  rw [ht];exact aU.name hn hr hc
 ·obtain ⟨n1,n2⟩:=(h:At c (fV p.name.s :: L)).name;have n3:c.aq.is 4 aT=false:=n2.notM hL (by simp);have e:jR (pKind n) c=((kX c.aK true,bX),c.aq):=by rw [jR,n3,ag (by simp)]
  refine ⟨(jR (pKind n) c).1,rfl,?_,by show At (jR (pKind n) c).2 L;rw [e];exact n2,by show (jR (pKind n) c).2.d=_;rw [e];show c.aq.d=_;rw [named,hd]⟩;rw [e,hp,ht];show (aY (kX c.aK true),stripT bX)=_;have:aY (kX c.aK true)=kX ⟨c.aK.s,0⟩ true:=rfl;rw [this,n1];rfl
theorem At.KV {c:au} {w:ByteArray} {L:List dD} (h:At c (fV w :: L)) (s:ByteArray):c.is 4 s=false:=by
 rw [h.is];rfl
theorem GC {n:Nat} {tag:Bool} {h:Hd} {ps:Pts} (k:Int) (Zi:k=if tag=true then 8 else 7) (e:bw h=lx k 0) (hlen:ps.len<=64) (bo:tag=true->ps ≠ .nil) (hn24:n < 24) (ih:∀ b∈itP tag ps,∃ K,yY (mh (pKind n) tag) gaP (24 - n) b.1 b.2 K):G7 (n + 1) (.mk h ps):=by
 obtain ⟨e1,e2,e3,e4,e5,e6⟩:=uW e;have hk:h.al=k:=e1;have hb:=eS
 have hdec:decide (h.al=8)=tag:=by
  rw [hk,Zi];cases tag<;>rfl
 obtain ⟨wd,ql⟩:∃ wd:ByteArray,wd=if tag=true then yx else Rh:=⟨_,rfl⟩
 have hT:∀ r,tyT (.mk h ps) ++ r=tx wd ++ (123 :: (joinT [] [44,32] (jI tag ps) ++ 125 :: r)):=fun r=>by
  rw [tyT,hdec];generalize jI tag ps=l;generalize firstT ps=u;subst ql;unfold fv;rw [hk,Zi];cases tag<;>simp [tx]
 have hB:∀ (a:Int) (c:au),cj (pKind n) wd a c=(true,.mk (lx k a) (mkPts (cI (pKind n) tag c).1),(cI (pKind n) tag c).2):=fun a c=>by
  subst ql Zi
  cases tag with
  | true=>rw [ah rfl,cj,ag (by decide),ag (by decide),ag (by decide),ag (by decide),ag (by decide),ag (by decide),ag (by decide),ah rfl,ah rfl]
  | false=>rw [ag (by simp),cj,ag (by decide),ag (by decide),ag (by decide),ag (by decide),ag (by decide),ag (by decide),ah rfl,ag (by simp)]
 have Qu:ay wd=true:=by
  subst ql;cases tag<;>decide
 by_cases LM:ps = .nil
 ·subst LM
  have htag:tag=false:=by
   cases tag with
   | false=>rfl
   | true=>exact absurd rfl (bo rfl)
  subst htag;refine ⟨[fV wd,dp 123,dp 125],fun r L hr hc=>?_,fun c L h0 hd=>?_⟩
  ·rw [hT];exact aU.name Qu (bY (c:=123) (by decide)) (aU.mark (m:=123) (by decide) (aU.mark (m:=125) (by decide) hc))
  ·refine fW h0 hd fun c' h' zl=>?_;have n1:At (c'.ai bI) (dp 125 :: L):=(h':At c' (dp 123 :: dp 125 :: L)).ai;obtain ⟨n2,n3⟩:=n1.SH
   have:cI (pKind n) false c'=([],(c'.ai bI).step):=by
    unfold cI;rw [n2];rfl
   rw [hB,this];refine ⟨rfl,?_,n3,by show (c'.ai bI).step.d=_;rw [(aR.step _).d,fy]⟩;show Ty.mk _ _=Ty.mk _ _;rw [e];rfl
 ·obtain ⟨K,⟨w0,K0,hK0⟩,k1,k2⟩:=pj (f:=mh (pKind n) tag) (ga:=gaP) (D:=24 - n) (m:=125) (by decide) (by decide) (by decide) (by decide) (itP tag ps) ih (by
   cases ps with
   | nil=>exact absurd rfl LM
   | cons p t r=>simp [itP])
  rw [KS] at k1;refine ⟨fV wd :: dp 123 :: (K ++ [dp 125]),fun r L hr hc=>?_,fun c L h0 hd=>?_⟩
  ·rw [hT];have:=aU.name Qu (bY (c:=123) (by decide)) (aU.mark (m:=123) (by decide) (k1 r L hc));simpa using this
  ·refine fW (sU h0) hd fun c' h' zl=>?_;have h':At c' (dp 123 :: (K ++ (dp 125 :: L))):=sU h';have n1:At (c'.ai bI) (K ++ (dp 125 :: L)):=h'.ai
   have n2:(c'.ai bI).is 4 bl=false:=by
    rw [hK0] at n1;exact n1.KV _
   obtain ⟨us,u1,u2,u3,u4⟩:=k2 _ L [] bigN (by rw [KT];omega) n1 (by rw [fy];omega)
   have:cI (pKind n) tag c'=(us,(listF (mh (pKind n) tag) bl bigN (c'.ai bI) []).1):=by
    unfold cI;rw [n2,Bool.and_false,ag (by simp)];exact Prod.ext (by rw [<- List.nil_append us];exact u1) rfl
   rw [hB,this];refine ⟨rfl,?_,u3,by show (listF (mh (pKind n) tag) bl bigN (c'.ai bI) []).1.d=_;rw [u4];omega⟩;show Ty.mk _ (stripP (mkPts us))=Ty.mk _ _;rw [e,GA,u2,KU];rfl
mutual
theorem sc:∀ (t:Ty) (n:Nat),n<=24->Je n t->G7 n t
 | .mk h ps,n,hn,hp=>by
  cases hp with
  | bool e=>exact Ni e
  | int e a b=>exact R8 e a b
  | text e m=>exact Nj e m
  | enum e a b c=>exact Nl e a b c
  | @list _ _ _ p t e m hp ht=>exact Gz e m hp (sc t _ (by omega) ht)
  | @opt _ _ p t e hp ht=>exact Sa e hp (sc t _ (by omega) ht)
  | rcd e hl LM=>exact GC 7 rfl e hl (fun h=>by cases h) (by omega) (pk ps _ _ (by omega) LM)
  | uni e hl bo LM=>exact GC 8 rfl e hl (fun _=>bo) (by omega) (pk ps _ _ (by omega) LM)
  | ref e w=>exact R9 e w
theorem pk:∀ (ps:Pts) (n:Nat) (tag:Bool),n<=24->Dj n tag ps->∀ b∈itP tag ps,∃ K,yY (mh (pKind n) tag) gaP (24 - n) b.1 b.2 K
 | .nil,n,tag,hn,hp=>fun b hb=>by cases hb
 | .cons p t r,n,tag,hn,hp=>fun b hb=>by
  cases hp with
  | bare h1 h2 h3 h4 hr=>
   rcases dM hb with rfl | hb
   ·exact Np h1 h2 h3 h4
   ·exact pk r _ _ hn hr b hb
  | part h1 h2 h3 ht hr=>
   rcases dM hb with rfl | hb
   ·exact Nn h1 h2 h3 (sc t _ hn ht) hn
   ·exact pk r _ _ hn hr b hb
end
theorem gQ {l:List Wd} (h:sameWds l []=true):l=[]:=by
 cases l with
 | nil=>rfl
 | cons x r=>simp [sameWds] at h
theorem GD:∀ {l:List Wd},(badWd l).1=0->∀ w∈l,ay w.s=true
 | [],_,w,hw=>by cases hw
 | x :: r,h,w,hw=>by
  unfold badWd at h;split at h
  ·rename_i hx;rcases dM hw with rfl | hw
   ·exact hx
   ·exact GD h w hw
  ·exact absurd h (by simp)
theorem BK {l:List Wd} (h:(du l).1=0):∀ w∈l,ay w.s=true:=by
 unfold du at h;split at h
 ·exact GD h
 ·exact absurd h (by simp)
theorem y7 {l:List Wd} {i:Nat} {x:Wd} (h:bd l i x=0):ay x.s=true:=by
 unfold bd at h
 grind
theorem GF {all:List Wd}:∀ {l:List Wd} {i:Nat},(enumL all i l).1=0->∀ w∈l,ay w.s=true
 | [],_,_,w,hw=>by cases hw
 | x :: r,i,h,w,hw=>by
  unfold enumL at h;split at h
  ·rename_i hx;exact absurd h hx
  ·rename_i hx;rcases dM hw with rfl | hw
   ·exact y7 (sU hx)
   ·exact GF h w hw
theorem Nq {p:Ph} (h:(dZ p).1=0) (h1:kH p.wide) (h2:kH p.cn):zJ p:=by
 unfold dZ at h;split at h
 ·exact absurd h (by simp)
 rename_i hw;split at h
 ·rename_i hl;exact absurd h hl
 rename_i hl;have adX:=BK (l:=p.label) (sU hl);unfold bW at h;split at h
 ·rename_i hk;split at h
  ·rename_i hz;exact ⟨adX,by omega,h1,h2,.inl ⟨hk,hz.1,hz.2⟩,by rw [hz.2];intro w hw;cases hw⟩
  ·exact absurd h (by simp)
 rename_i hk;split at h
 ·exact absurd h (by simp)
 rename_i G3;split at h
 ·exact absurd h (by simp)
 rename_i hk3;exact ⟨adX,by omega,h1,h2,by omega,BK h⟩
theorem U8 {p:Ph} (hn:p.name.s=aZ) (h:cw p cp=true):aY p=cp:=by
 obtain ⟨⟨ns,na⟩,bare,lb,wide,ck,cn,ca,cl⟩:=p;simp only [cw,cp,bg,decide_eq_true_eq,beq_iff_eq] at h hn;obtain ⟨⟨⟨⟨⟨h1,q2⟩,q3⟩,q4⟩,q5⟩,q6⟩:=h;have h2:wide=0:=of_decide_eq_true q2;have h4:ck=0:=of_decide_eq_true q4;have h5:cn=0:=of_decide_eq_true q5;have h3:=gQ q3;have h6:=gQ q6;subst hn h1 h2 h3 h4 h5 h6;rfl
theorem U9 {p:Ph} (h:cw p hU=true):p.bare=true/\aY p=kX ⟨p.name.s,0⟩ true:=by
 obtain ⟨⟨ns,na⟩,bare,lb,wide,ck,cn,ca,cl⟩:=p;simp only [cw,hU,bg,decide_eq_true_eq,beq_iff_eq] at h;obtain ⟨⟨⟨⟨⟨h1,q2⟩,q3⟩,q4⟩,q5⟩,q6⟩:=h;have h2:wide=0:=of_decide_eq_true q2;have h4:ck=0:=of_decide_eq_true q4;have h5:cn=0:=of_decide_eq_true q5;have h3:=gQ q3;have h6:=gQ q6;subst h1 h2 h3 h4 h5 h6;exact ⟨rfl,rfl⟩
theorem Va {t:Ty} (h:sameTy t bX=true):stripT t=bX:=by
 obtain ⟨⟨al,dA,lo,hi,most,af,⟨ns,na⟩⟩,ps⟩:=t;simp only [bX,Hu,sameTy,lg,bg,decide_eq_true_eq] at h;obtain ⟨⟨⟨⟨⟨⟨h1,h2⟩,h3⟩,h4⟩,h5⟩,h6⟩,h7⟩:=h;have h6:=gQ h6
 cases ps with
 | nil=>
  subst h1 h2 h3 h4 h5 h6;rfl
 | cons p t r=>simp [samePts] at h7
theorem Nr {h:Hd} {ps:Pts} (ho:pA (.mk h ps)=true) :
  bw h=⟨h.al,0,if h.al=2 then h.lo else 0,if h.al=2 then h.hi else 0,if h.al=3∨h.al=5 then h.most else 0,if h.al=4 then aw h.af else [],if h.al=9 then ⟨h.name.s,0⟩ else ⟨aZ,0⟩⟩/\(¬ (4 < h.al/\h.al < 9)->ps = .nil):=by
 obtain ⟨al,dA,lo,hi,most,af,⟨ns,na⟩⟩:=h;simp only [pA,mask,HA,sameTy,lg,bg,decide_eq_true_eq] at ho;obtain ⟨⟨⟨⟨⟨⟨h1,h2⟩,h3⟩,h4⟩,h5⟩,h6⟩,h7⟩:=ho;refine ⟨?_,fun hn=>?_⟩
 ·have e6:aw af=if al=4 then aw af else []:=by
   by_cases hk:al=4
   ·rw [ah hk]
   ·rw [ag hk] at h6 ⊢;rw [gQ h6];rfl
  have e5:(⟨ns,0⟩:Wd)=if al=9 then ⟨ns,0⟩ else ⟨aZ,0⟩:=by
   by_cases hk:al=9
   ·rw [ah hk]
   ·rw [ag hk] at h5 ⊢;rw [h5]
  show Hd.mk al 0 lo hi most (aw af) ⟨ns,0⟩=_;simp only;rw [<- h2,<- h3,<- h4,<- e6,<- e5]
 ·simp only at hn;rw [ag hn] at h7
  cases ps with
  | nil=>rfl
  | cons p t r=>simp [samePts] at h7
mutual
theorem Jf:∀ (t:Ty) (depth m:Int) (n:Nat),rngT t->depth + n=25->(wrong t depth m).1.1=0->Je n t
 | .mk h ps,depth,m,n,hr,hd,he=>by
  simp only [rngT] at hr;obtain ⟨r1,r2,r3,r4⟩:=hr;simp only [wrong] at he;by_cases c0:24 < depth
  ·rw [ah c0] at he;simp at he
  rw [ag c0] at he;obtain ⟨n,rfl⟩:∃ k,n=k + 1:=⟨n - 1,by omega⟩;have i1:=Ns h ps depth (m + 1) n r4 (by omega);have i2:=fun hk=>Dk h.al (pNames ps) ps 0 depth (m + 1) n r4 (by omega) hk;by_cases c1:512 < m + 1
  ·rw [ah c1] at he;simp at he
  rw [ag c1] at he;by_cases c2:h.al < 1∨9 < h.al
  ·rw [ah c2] at he;simp at he
  rw [ag c2] at he;by_cases c3:pA (.mk h ps)=false
  ·rw [ah c3] at he;simp at he
  rw [ag c3] at he;obtain ⟨o1,o2⟩:=Nr (by simpa using c3:pA (.mk h ps)=true);by_cases c4:(h.al=2/\h.hi < h.lo)∨(h.al=3/\(h.most < 0∨4096 < h.most))
  ·rw [ah c4] at he;simp at he
  rw [ag c4] at he;by_cases c5:h.al=9/\ay h.name.s=false
  ·rw [ah c5] at he;simp at he
  rw [ag c5] at he;have hc:h.al=1∨h.al=2∨h.al=3∨h.al=4∨h.al=5∨h.al=6∨h.al=7∨h.al=8∨h.al=9:=by omega
  generalize GY:h.al=k at *;rcases hc with rfl | rfl | rfl | rfl | rfl | rfl | rfl | rfl | rfl
  ·obtain rfl:=o2 (by omega);exact .bool o1
  ·obtain rfl:=o2 (by omega);exact .int o1 r1 r2
  ·obtain rfl:=o2 (by omega);exact .text o1 r3
  ·obtain rfl:=o2 (by omega);rw [ah rfl] at he;unfold iE at he;split at he
   ·exact absurd he (by simp)
   rename_i bo;split at he
   ·exact absurd he (by simp)
   rename_i hlen;exact .enum (l:=[]) o1 bo (by omega) (GF he)
  ·rw [ag (by omega),ah (.inl rfl)] at he;exact (i1 he).elim fun p h=>h.elim fun t ⟨e1,e2,e3⟩=>by subst e1;exact .list o1 r3 e2 e3
  ·rw [ag (by omega),ah (.inr rfl)] at he;exact (i1 he).elim fun p h=>h.elim fun t ⟨e1,e2,e3⟩=>by subst e1;exact .opt o1 e2 e3
  ·rw [ag (by omega),ag (by omega),ah (.inl rfl),ag (by omega)] at he;split at he
   ·exact absurd he (by simp)
   rename_i hl;exact .rcd o1 (by omega) (i2 (.inl rfl) he)
  ·rw [ag (by omega),ag (by omega),ah (.inr rfl)] at he;split at he
   ·exact absurd he (by simp)
   rename_i zm;split at he
   ·exact absurd he (by simp)
   rename_i hl;exact .uni o1 (by omega) (fun LM=>zm ⟨rfl,by rw [LM];rfl⟩) (i2 (.inr rfl) he)
  ·obtain rfl:=o2 (by omega);exact .ref o1 (sU c5)
theorem Ns:∀ (h:Hd) (ps:Pts) (depth m:Int) (n:Nat),rngP ps->depth + (n + 1)=25->(wrongOne h ps depth m).1.1=0->∃ p t,ps = .cons p t .nil/\aY p=cp/\Je n t
 | h,.cons p t .nil,depth,m,n,hr,hd,he=>by
  simp only [rngP] at hr;simp only [wrongOne] at he;by_cases c0:p.name.s≠aZ∨cw p cp=false
  ·rw [ah c0] at he;simp at he
  rw [ag c0] at he;by_cases c1:h.most < 0∨1024 < h.most
  ·rw [ah c1] at he;simp at he
  rw [ag c1] at he;refine ⟨p,t,rfl,U8 ?_ ?_,Jf t (depth + 1) m n hr.2.2.1 (by omega) he⟩
  ·exact Classical.byContradiction fun hn=>c0 (.inl hn)
  ·exact by cases hb:cw p cp with
    | true=>rfl
    | false=>exact absurd (.inr hb) c0
 | h,.nil,depth,m,n,hr,hd,he=>by simp [wrongOne] at he
 | h,.cons p t (.cons q u r),depth,m,n,hr,hd,he=>by simp [wrongOne] at he
theorem Dk:∀ (al:Int) (all:List Wd) (ps:Pts) (i:Nat) (depth m:Int) (n:Nat),rngP ps->depth + (n + 1)=25->(al=7∨al=8)->(wrongPts al all i ps depth m).1.1=0->Dj n (decide (al=8)) ps
 | al,all,.nil,i,depth,m,n,hr,hd,hk,he=>.nil
 | al,all,.cons p t r,i,depth,m,n,hr,hd,hk,he=>by
  simp only [rngP] at hr;simp only [wrongPts] at he;split at he
  ·rename_i hx;exact absurd he hx
  rename_i hx;have hn:=y7 (by simpa using hx:bd all i p.name=0);split at he
  ·rename_i hb;split at he
   ·exact absurd he (by simp)
   rename_i hq;have Zi:al=8:=by omega
   have h1:sameTy t bX=true:=by cases h:sameTy t bX with
    | true=>rfl
    | false=>exact absurd (.inr (.inl h)) hq
   have h2:cw p hU=true:=by cases h:cw p hU with
    | true=>rfl
    | false=>exact absurd (.inr (.inr h)) hq
   have i2:=Dk al all r (i + 1) depth m n hr.2.2.2 hd hk he;subst Zi;obtain ⟨b1,b2⟩:=U9 h2;exact .bare hn b1 b2 (Va h1) i2
  ·rename_i hb;split at he
   ·rename_i hw;exact absurd he hw
   rename_i hw;split at he
   ·rename_i lL;exact absurd he lL
   rename_i lL;exact .part hn (Nq (sU hw) hr.1 hr.2.1) (sU hb) (Jf t (depth + 1) m n hr.2.2.1 (by omega) (sU lL)) (Dk al all r (i + 1) depth _ n hr.2.2.2 hd hk he)
end
def nP (t:Ty):Bool:=decide ((wrong t 1 0).1.1=0)
def dF (s:Sch):Bool:=
 (((decide (s.ae ≠ []) && s.ae.all fun w=>ay w.s) && s.order.all fun p=>ay p.1.s && ay p.2.s) && s.types.all fun x=>ay x.1.s && nP x.2) && nP s.root
def sr (p:Wd × Wd):List UInt8:=tx p.1.s ++ [32,60,32] ++ tx p.2.s
def GG (x:Wd × Ty):List UInt8:=[32,116,121,112,101,32] ++ tx x.1.s ++ [32,61,32] ++ tyT x.2
def nI (s:Sch):List UInt8:=[108,101,118,101,108,115,32,123] ++ joinT [] [44,32] (s.ae.map mD) ++ [125,32,111,114,100,101,114,32,123]
def y8 (s:Sch):List UInt8:=joinT [] [44,32] (s.order.map sr) ++ [125]
def fj (s:Sch):List UInt8:=nI s ++ y8 s ++ (s.types.map GG).flatten ++ ([32,114,111,111,116,32] ++ tyT s.root)
theorem Jg:∀ l:List (Wd × Wd),jl (l.map sr)<=prsWt l
 | []=>bn _
 | p :: r=>by
  have:=Jg r
  grind [jl,prsWt,Wd.wt,sr,bH]
theorem po (w:Wd) (hs:w.s.size<=1099511627776):bA prog 81 [.agg (nD w)] (.v (.bool (!ay w.s))):=by
 refine eG 7 [.tmp 2] func81 rfl ntmps81 rfl fun _ _ _ _=>?_;refine cP Ek (fG w.s (by omega)) ?_;exact (rfl:_=_)
abbrev WX (l:List Wd) (e:Nat) (z:Int):St:=
 ⟨[dH 0 2 (cd l),(1,⟨[],.fn 81 [] []⟩),aJ 7 ((cd l).length),aJ 8 e],[],[]⟩
theorem GH (l:List Wd) (hs:wdsWt l<=1099511627776):Ev prog 155 [.sl 2 (cd l) none,.fn 81 [] []] [] []
  (fun d _ _=>∃ z:Int,d = .v (.int .i64 z)/\((l.all fun w=>ay w.s)=true->z = -1)/\((l.all fun w=>ay w.s)=false->0<=z)):=by
 have hl:=cE l;refine eG 19 [.tmp 4] func155 rfl ntmps155 rfl fun _ _ _ _=>?_;refine lI (fun j st=>∃ e:Nat,st=WX l e 0/\e<=l.length/\(l.all fun w=>ay w.s)=((l.drop e).all fun w=>ay w.s)/\j=l.length - e) ⟨0,rfl,by omega,rfl,rfl⟩ (dg wB) ?_;rintro j st ⟨e,rfl,he,bN,rfl⟩;refine br ?_ ?_<;>intro h
 ·have aE:e < l.length:=by have:=h;simp [aM] at this;exact this
  obtain ⟨w,hw⟩:=gX aE;have LN:=lQ (mG hw);rw [drop_cons hw] at bN;refine ⟨nD w,⟨by omega,dy hw⟩,?_⟩;refine cP Tk (po w (by omega)) ?_;refine br ?_ ?_<;>intro hb
  ·have hb:ay w.s=false:=sU hb;refine ⟨_,rfl,fun hc=>?_,fun _=>by omega⟩;rw [bN,List.all_cons,hb] at hc;cases hc
  ·have hb:ay w.s=true:=sU hb;refine ⟨WX l (e + 1) 0,(dg (gv (cR aE (by omega)))),l.length - (e + 1),by omega,e + 1,rfl,by omega,?_,rfl⟩;rw [bN,List.all_cons,hb,Bool.true_and]
 ·have hge:e=l.length:=by have:=h;simp [aM] at this;omega
  refine ⟨-1,rfl,fun _=>rfl,fun hc=>?_⟩;rw [bN,hge,List.drop_length] at hc;cases hc
theorem y9 (l:List Wd) (hs:wdsWt l<=1099511627776):bA prog 83 [.sl 2 (cd l) none,.fn 81 [] []] (.v (.bool (!(l.all fun w=>ay w.s)))):=by
 have hi:=GH l hs;refine eG 9 [.tmp 4] func83 rfl ntmps83 rfl fun _ _ _ _=>?_;refine eo aa5 rfl hi ax (fun r hr=>?_);obtain ⟨z,rfl,h1,h2⟩:=hr;refine (dP ?_:);cases hc:l.all fun w=>ay w.s
 ·have:=h2 hc;simp;omega
 ·have:=h1 hc;subst this;rfl
abbrev GI (s:Sch) (e:Nat):St:=
 ⟨[bq 1 0,(3,⟨[],.fn 81 [] []⟩),dH 19 4 (eY s.order),aJ 20 ((eY s.order).length),aJ 21 e],[iG s],[]⟩
abbrev GJ (s:Sch) (e:Nat):St:=
 ⟨[bq 1 0,(3,⟨[],.fn 81 [] []⟩),dH 37 11 (dNms s.types),aJ 38 ((dNms s.types).length),aJ 39 e],[iG s],[]⟩
theorem GK (s:Sch) (cV:s.wt<=1099511627776):bA prog 34 [.agg (iG s)] (.v (.bool (dF s))):=by
 have h1:=cE s.ae;have h2:=iH s.order;have h3:=jU s.types;simp only [Sch.wt] at cV;have uB:=ou s.root (by omega);have adY:=y9 s.ae (by omega);have hF:dF s=((((decide (s.ae ≠ []) && s.ae.all fun w=>ay w.s) && s.order.all fun p=>ay p.1.s && ay p.2.s) && s.types.all fun x=>ay x.1.s && nP x.2) && nP s.root):=rfl;have hT:nP s.root=decide ((wrong s.root 1 0).1.1=0):=rfl;generalize dF s=F at hF ⊢;obtain ⟨ae,order,types,⟨h,ps⟩⟩:=s;simp only at h1 h2 h3 cV uB adY hF hT;refine eG 60 [.tmp 2] func34 rfl ntmps34 rfl fun _ _ _ _=>?_;refine br ?_ ?_<;>intro g
 ·have h0:ae ≠ []:=by
   rintro rfl;simp [aM] at g
  have Hw:decide (ae ≠ [])=true:=decide_eq_true h0;rw [Hw,Bool.true_and] at hF;refine cP en83 adY ?_;refine br ?_ ?_<;>intro c
  ·have c:(ae.all fun w=>ay w.s)=false:=by simpa [pickB] using c
   refine (dP ?_:);rw [hF,c];all_goals rfl
  have c:(ae.all fun w=>ay w.s)=true:=by simpa [pickB] using c
  rw [c,Bool.true_and] at hF
  refine cH (fun j st=>∃ e:Nat,st=GI ⟨ae,order,types,.mk h ps⟩ e/\e<=order.length/\F=((((order.drop e).all fun p=>ay p.1.s && ay p.2.s) && types.all fun x=>ay x.1.s && nP x.2) && nP (.mk h ps))/\j=order.length - e) order.length
   (GI ⟨ae,order,types,.mk h ps⟩ 0) (dg wB) ⟨0,rfl,by omega,hF,by omega⟩ ?_
  rintro j st ⟨e,rfl,he,bN,rfl⟩;refine br ?_ ?_<;>intro hL
  ·have aE:e < order.length:=by have:=hL;simp [eB] at this;exact this
   obtain ⟨w,hw⟩:=gX aE;have LN:=sZ (mG hw);simp only [Wd.wt] at LN;rw [drop_cons hw,List.all_cons] at bN;refine iX (rr hw) ?_;refine cP Tk (po w.1 (by omega)) ?_;refine br ?_ ?_<;>intro b1
   ·have b1:ay w.1.s=true:=sU b1;refine cP Tk (po w.2 (by omega)) ?_;refine br ?_ ?_<;>intro b2
    ·have b2:ay w.2.s=false:=by simpa [pickB] using b2
     refine (dP ?_:);rw [bN,b1,b2];all_goals rfl
    ·have b2:ay w.2.s=true:=by simpa [pickB] using b2
     rw [b1,b2,Bool.true_and,Bool.true_and] at bN;exact rE ⟨_,by omega,e + 1,rfl,by omega,bN,rfl⟩ (dg (gv (cR aE (by omega))))
   ·have b1:ay w.1.s=false:=sU b1;refine (dP ?_:);rw [bN,b1];all_goals rfl
  have hge:e=order.length:=by have:=hL;simp [eB] at this;omega
  rw [hge,List.drop_length,List.all_nil,Bool.true_and] at bN
  refine cH (fun j st=>∃ e:Nat,st=GJ ⟨ae,order,types,.mk h ps⟩ e/\e<=types.length/\F=(((types.drop e).all fun x=>ay x.1.s && nP x.2) && nP (.mk h ps))/\j=types.length - e) types.length
   (GJ ⟨ae,order,types,.mk h ps⟩ 0) (dg wB) ⟨0,rfl,by omega,bN,by omega⟩ ?_
  clear bN hge he hL;rintro j st ⟨e,rfl,he,bN,rfl⟩;refine br ?_ ?_<;>intro hL
  ·have aE:e < types.length:=by have:=hL;simp [dN] at this;exact this
   obtain ⟨w,hw⟩:=gX aE;have LN:=gM (mG hw);simp only [Wd.wt] at LN;rw [drop_cons hw,List.all_cons] at bN;have hr:=ou w.2 (by omega);have Lm:nP w.2=decide ((wrong w.2 1 0).1.1=0):=rfl;obtain ⟨w,u,us⟩:=w;simp only at LN bN hr Lm;refine iX (dNms_get hw) ?_;refine cP Tk (po w (by omega)) ?_;refine br ?_ ?_<;>intro b1
   ·have b1:ay w.s=true:=sU b1;refine cP XS hr ?_;refine br ?_ ?_<;>intro b2
    ·have b2:¬ (wrong (.mk u us) 1 0).1.1=0:=by simpa [pickB] using b2
     refine (dP ?_:);rw [bN,b1,Lm,decide_eq_false b2];all_goals rfl
    ·have b2:(wrong (.mk u us) 1 0).1.1=0:=by simpa [pickB] using b2
     rw [b1,Lm,decide_eq_true b2,Bool.true_and,Bool.true_and] at bN;exact rE ⟨_,by omega,e + 1,rfl,by omega,bN,rfl⟩ (dg (gv (cR aE (by omega))))
   ·have b1:ay w.s=false:=sU b1;refine (dP ?_:);rw [bN,b1];all_goals rfl
  have hge:e=types.length:=by have:=hL;simp [dN] at this;omega
  rw [hge,List.drop_length,List.all_nil,Bool.true_and,hT] at bN;refine cP XS uB ?_;refine (dP ?_:);rw [bN]
 ·have h0:ae=[]:=by
   have:=g;simp [aM] at this;exact this
  subst h0;refine (dP ?_:);rw [hF];all_goals rfl
theorem GL {a:List UInt8} (ha:1<=a.length):∀ l:List (List UInt8),l.length<=(joinT [] a l).length + 1
 | []=>by simp [joinT]
 | x :: r=>by
  have key:∀ r:List (List UInt8),r.length<=(r.flatMap fun y=>a ++ y).length:=by
   intro r
   induction r with
   | nil=>simp
   | cons x r ih=>rw [List.flatMap_cons,List.length_cons,List.length_append,List.length_append];omega
  have:=key r;rw [joinT,List.length_cons,List.length_append];omega
theorem Nt {p:Wd × Wd} (h1:ay p.1.s=true) (h2:ay p.2.s=true):yY mi cg 0 (sr p) (cg p) [fV p.1.s,dp 60,fV p.2.s] where
 hd:=⟨p.1.s,_,rfl⟩
 U4 r L hr hc:=by
  have:=aU.name h1 (bY (c:=32) (by decide)) (aU.blank (aU.mark (m:=60) (by decide) (aU.blank (aU.name h2 hr hc))));have e:sr p ++ r=tx p.1.s ++ (32 :: 60 :: 32 :: (tx p.2.s ++ r)):=by simp [sr]
  rw [e];exact this
 read c L acc h hL hd:=by
  obtain ⟨a1,a2⟩:=(h:At c (fV p.1.s :: dp 60 :: fV p.2.s :: L)).name;obtain ⟨a3,a4⟩:=(a2.ai:At (c.aq.ai fh) (fV p.2.s :: L)).name;have a5:(c.aq.ai fh).aq.is 4 fh=false:=a4.notM hL (by simp)
  have e:dc c=([(c.aK,(c.aq.ai fh).aK)],(c.aq.ai fh).aq):=by
   obtain ⟨k,hk⟩:∃ k,bigN=k + 1:=⟨bigN - 1,by have:=eS;omega⟩;rw [dc,hk,pChain,a5,ag (by simp)];rfl
  refine ⟨(c.aK,(c.aq.ai fh).aK),by rw [mi,e],?_,by rw [mi,e];exact a4,by rw [mi,e];show (c.aq.ai fh).aq.d=0;rw [named,fy,named,hd]⟩;show (bZ c.aK,bZ (c.aq.ai fh).aK)=(bZ p.1,bZ p.2);unfold bZ;rw [a1,a3]
theorem Jh {l:List (Wd × Wd)} (hl:l ≠ []) (hw:∀ p∈l,ay p.1.s=true/\ay p.2.s=true) :
  ∃ K,(∃ w K',K=fV w :: K')/\(∀ r L,aU r L->aU (joinT [] [44,32] (l.map sr) ++ 125 :: r) (K ++ dp 125 :: L)) /\
   ∀ c L n,l.length<=n->At c (K ++ dp 125 :: L)->c.d=0->(listF mi bl n c []).2.map cg=l.map cg/\At (listF mi bl n c []).1 L/\(listF mi bl n c []).1.d=0:=by
 obtain ⟨K,k0,k1,k2⟩:=pj (f:=mi) (ga:=cg) (D:=0) (m:=125) (by decide) (by decide) (by decide) (by decide) (l.map fun p=>(sr p,cg p)) (fun b hb=>by
  obtain ⟨p,hp,rfl⟩:=List.mem_map.1 hb
  exact ⟨_,Nt (hw p hp).1 (hw p hp).2⟩) (sU hl)
 have e1:(l.map fun p=>(sr p,cg p)).map (·.1)=l.map sr:=by simp
 have e2:(l.map fun p=>(sr p,cg p)).map (·.2)=l.map cg:=by simp
 rw [e1] at k1;refine ⟨K,k0,k1,fun c L n hn h hd=>?_⟩;obtain ⟨us,u1,u2,u3,u4⟩:=k2 c L [] n (sU hn) h hd;rw [e2] at u2;have u1:(listF mi bl n c []).2=us:=u1;rw [u1];exact ⟨u2,u3,u4⟩
theorem za:∀ (l:List (Wd × Ty)),(∀ x∈l,ay x.1.s=true/\G7 24 x.2) ->
  ∃ K:List dD,l.length<=K.length/\(∀ r L,lz r->aU r L->aU ((l.map GG).flatten ++ r) (K ++ L)/\lz ((l.map GG).flatten ++ r)) /\
   ∀ c L n acc,l.length < n->At c (K ++ fV fc :: L)->c.d=0->(pTypes n acc c).1.map bR=acc.map bR ++ l.map bR/\At (pTypes n acc c).2 (fV fc :: L)/\(pTypes n acc c).2.d=0
 | [],_=>⟨[],bn _,fun r L hr hc=>⟨hc,hr⟩,fun c L n acc hn h hd=>by
  obtain ⟨n,rfl⟩:∃ k,n=k + 1:=⟨n - 1,by simp at hn;omega⟩;have h:At c (fV fc :: L):=h;have hi:c.is 1 oF=false:=by rw [h.is];decide
  rw [pTypes,hi,ag (by simp)]
  exact ⟨by simp,h,hd⟩⟩
 | x :: l,hx=>by
  obtain ⟨K,k0,k1,k2⟩:=za l fun y hy=>hx y (fA _ hy);obtain ⟨uZ,K1,t1,t2⟩:=hx x (by simp);refine ⟨fV oF :: fV x.1.s :: dp 61 :: (K1 ++ K),by simp only [List.length_cons,List.length_append];omega,fun r L hr hc=>?_,fun c L n acc hn h hd=>?_⟩
  ·obtain ⟨m1,m2⟩:=k1 r L hr hc;have:=aU.blank (aU.name (w:=oF) (by decide) (bY (c:=32) (by decide)) (aU.blank (aU.name uZ (bY (c:=32) (by decide)) (aU.blank (aU.mark (m:=61) (by decide) (aU.blank (t1 _ _ m2 m1)))))))
   have e:((x :: l).map GG).flatten ++ r=32 :: (tx oF ++ (32 :: (tx x.1.s ++ (32 :: 61 :: 32 :: (tyT x.2 ++ ((l.map GG).flatten ++ r)))))):=by
    simp [GG,tx]
   rw [e];exact ⟨by simpa using this,bY (by decide)⟩
  ·obtain ⟨n,rfl⟩:∃ k,n=k + 1:=⟨n - 1,by simp at hn;omega⟩;have h:At c (fV oF :: fV x.1.s :: dp 61 :: (K1 ++ (K ++ fV fc :: L))):=sU h;obtain ⟨i1,i2⟩:=h.isN;obtain ⟨i3,i4⟩:=i2.name;have i5:At (c.step.aq.ai sq) (K1 ++ (K ++ fV fc :: L)):=i4.ai;have hd5:(c.step.aq.ai sq).d=0:=by rw [fy,named,(aR.step _).d,hd]
   obtain ⟨j1,j2,j3⟩:=t2 _ _ i5 (by rw [hd5]);obtain ⟨o1,o2,o3⟩:=k2 (pKind 24 (c.step.aq.ai sq)).2 L n (acc ++ [(c.step.aK,(pKind 24 (c.step.aq.ai sq)).1)]) (by simp at hn;omega) j2 (by rw [j3,hd5]);rw [pTypes,ah i1];refine ⟨?_,o2,o3⟩;rw [o1]
   have e:bR (c.step.aK,(pKind 24 (c.step.aq.ai sq)).1)=bR x:=by
    show (bZ c.step.aK,stripT (pKind 24 (c.step.aq.ai sq)).1)=(bZ x.1,stripT x.2);rw [j1];unfold bZ;rw [i3]
   simp [e]
theorem Sb {S:Sch} (h:dF S=true) (hr:s5 S):S.ae ≠ []/\(∀ w∈S.ae,ay w.s=true)/\(∀ p∈S.order,ay p.1.s=true/\ay p.2.s=true)/\(∀ x∈S.types,ay x.1.s=true/\G7 24 x.2)/\G7 24 S.root:=by
 simp only [dF,bg,List.all_eq_true,decide_eq_true_eq] at h;obtain ⟨⟨⟨⟨h1,h2⟩,h3⟩,h4⟩,h5⟩:=h;have key:∀ t,rngT t->nP t=true->G7 24 t:=fun t ht hk=>sc t 24 (bn _) (Jf t 1 0 24 ht (by omega) (of_decide_eq_true hk));exact ⟨h1,h2,h3,fun x hx=>⟨(h4 x hx).1,key _ (hr.1 x hx) (h4 x hx).2⟩,key _ hr.2 h5⟩
theorem GM {S:Sch} (h:dF S=true) (hr:s5 S) (hl:(fj S).length<=65536) :
  ∃ K,aU (fj S) K/\∀ c x,At c (K ++ [x])->c.d=0->aQ (eT c).1=aQ S/\At (eT c).2 [x]:=by
 obtain ⟨h1,h2,h3,h4,h5⟩:=Sb h hr;obtain ⟨K1,_,a1,a2⟩:=yZ (m:=125) (by decide) (by decide) (by decide) (by decide) h1 h2 0;obtain ⟨K3,b0,b1,b2⟩:=za S.types h4;obtain ⟨K4,c1,c2⟩:=h5;have cV:=eS;have l1:=GL (a:=[44,32]) (by decide) (S.ae.map mD);have l2:=GL (a:=[44,32]) (by decide) (S.order.map sr);have wE:=hl;simp only [fj,nI,y8,List.length_append,List.length_map] at wE l1 l2
 have hO:∃ K2,(∀ r L,aU r L->aU (y8 S ++ r) (K2 ++ L))/\∀ c L,At c (K2 ++ L)->c.d=0->(gf c).1.map cg=S.order.map cg/\At (gf c).2 L/\(gf c).2.d=0:=by
  by_cases ho:S.order=[]
  ·refine ⟨[dp 125],fun r L hc=>?_,fun c L h hd=>?_⟩
   ·have:=aU.mark (m:=125) (by decide) hc;rw [y8,ho];exact this
   ·obtain ⟨i1,i2⟩:=(h:At c (dp 125 :: L)).SH;have i1:c.is 4 bl=true:=i1;rw [gf,ah i1,ho];exact ⟨rfl,i2,by show c.step.d=0;rw [(aR.step _).d,hd]⟩
  ·obtain ⟨K2,⟨w,K',k0⟩,k1,k2⟩:=Jh ho h3;refine ⟨K2 ++ [dp 125],fun r L hc=>?_,fun c L h hd=>?_⟩
   ·have:=k1 r L hc;rw [y8];simpa using this
   ·have h:At c (K2 ++ dp 125 :: L):=sU h
    have i1:c.is 4 bl=false:=by
     rw [k0] at h;exact h.KV bl
    rw [gf,i1,ag (by simp)];exact k2 c L bigN (by omega) h hd
 obtain ⟨K2,o1,o2⟩:=hO;refine ⟨fV b9 :: dp 123 :: (K1 ++ dp 125 :: fV lr :: dp 123 :: (K2 ++ (K3 ++ fV fc :: K4))),?_,fun c x hc hd=>?_⟩
 ·have r1:aU (32 :: (tx fc ++ (32 :: tyT S.root))) (fV fc :: K4):=by
   have:=c1 [] [] (fun c hc=>by simp at hc) aU.nil;simp only [List.append_nil] at this;exact aU.blank (aU.name (w:=fc) (by decide) (bY (c:=32) (by decide)) (aU.blank this))
  have r3:=o1 _ _ (b1 _ _ (bY (c:=32) (by decide)) r1).1;have r4:=a1 _ _ (aU.blank (aU.name (w:=lr) (by decide) (bY (c:=32) (by decide)) (aU.blank (aU.mark (m:=123) (by decide) r3))));have r5:=aU.name (w:=b9) (by decide) (bY (c:=32) (by decide)) (aU.blank (aU.mark (m:=123) (by decide) r4))
  have e:fj S=tx b9 ++ (32 :: 123 :: (joinT [] [44,32] (S.ae.map mD) ++ (125 :: (32 :: (tx lr ++ (32 :: 123 :: (y8 S ++ ((S.types.map GG).flatten ++ (32 :: (tx fc ++ (32 :: tyT S.root))))))))))):=by
   simp [fj,nI,tx]
  rw [e];exact r5
 ·have hc:At c (fV b9 :: dp 123 :: (K1 ++ dp 125 :: (fV lr :: dp 123 :: (K2 ++ (K3 ++ fV fc :: (K4 ++ [x])))))):=sU hc;have s1:At ((c.kw b9).ai bI) _:=hc.kw.ai;have Z1:((c.kw b9).ai bI).d=0:=by rw [fy,(aR.kw _ _).d,hd]
  obtain ⟨p1,p2,p3⟩:=a2 _ _ bigN (by omega) s1 Z1;have p1:aw (iQ c).1=aw S.ae:=p1;have p2:At (iQ c).2 _:=p2;have p3:(iQ c).2.d=0:=p3;obtain ⟨q1,q2⟩:=p2.isN;have q3:At ((iQ c).2.step.ai bI) _:=q2.ai;have e2:mj (iQ c).2=gf ((iQ c).2.step.ai bI):=by rw [mj,ah q1]
  obtain ⟨u1,u2,u3⟩:=o2 _ _ q3 (by rw [fy,(aR.step _).d,p3]);rw [<- e2] at u1 u2 u3
  have hlen:S.types.length < bigN:=by
   have h3:=u2.len;rw [List.length_append] at h3;omega
  obtain ⟨v1,v2,v3⟩:=b2 _ _ bigN [] hlen u2 u3;have v1:(tK (mj (iQ c).2).2).1.map bR=S.types.map bR:=v1;have v2:At (tK (mj (iQ c).2).2).2 _:=v2;have v3:(tK (mj (iQ c).2).2).2.d=0:=v3;have w0:At ((tK (mj (iQ c).2).2).2.kw fc) (K4 ++ [x]):=v2.kw;obtain ⟨w1,w2,w3⟩:=c2 _ _ w0 (by rw [(aR.kw _ _).d,v3]);refine ⟨?_,w2⟩;show Sch.mk (aw (iQ c).1) ((mj (iQ c).2).1.map cg) ((tK (mj (iQ c).2).2).1.map bR) (stripT (MX (tK (mj (iQ c).2).2).2).1)=_;rw [p1,u1,v1];have w1:stripT (MX (tK (mj (iQ c).2).2).2).1=stripT S.root:=w1;rw [w1];rfl
theorem Ji {S:Sch} (h:dF S=true) (hr:s5 S) (hl:(fj S).length<=65536) :
  ∃ T:Sch,bA prog 35 [.v (.string (ba (fj S)))] (.bK [.agg (iG T),Ft.d (0,0)])/\aQ T=aQ S:=by
 obtain ⟨K,k1,k2⟩:=GM h hr hl;have di:(ba (fj S)).size=(fj S).length:=by rw [<- bH,nF]
 obtain ⟨l,hR,hK⟩:=R7 (s:=ba (fj S)) k1 0 (Nat.zero_le _) (by rw [nF];rfl);have h1:=I3 (ba (fj S)) (by omega) l (0,0) hR (fun _=>rfl);rw [Gg] at h1;obtain ⟨f1,f2,f3,f4⟩:=I9 hR;have hL:=tS l (ba (fj S)).size (by omega);have g1:=I8 (ba (fj S)) _ hL h1;have hA:At (nO (l ++ [gR (ba (fj S)).size])) (K ++ [tkS (gR (ba (fj S)).size)]):=⟨hL,rfl,by show ((l ++ [gR (ba (fj S)).size]).drop 0).map tkS=_;rw [List.drop_zero,List.map_append,hK];rfl⟩;obtain ⟨i1,i2⟩:=k2 _ _ hA rfl;have hx:=uM (Sm.self hL) rfl;have hg:(eT (nO (l ++ [gR (ba (fj S)).size]))).2.f=(0,0):=hx.st.g i2.f;have hk:(eT (nO (l ++ [gR (ba (fj S)).size]))).2.aF.k=0:=i2.aF.1;have hE:I7 (eT (nO (l ++ [gR (ba (fj S)).size]))).2=(eT (nO (l ++ [gR (ba (fj S)).size]))).2:=by rw [I7,ag (fun g=>g.2 hk)]
 have hP:U0 (l ++ [gR (ba (fj S)).size])=((eT (nO (l ++ [gR (ba (fj S)).size]))).1,(0,0)):=by
  rw [U0,hE,ah i2.f,hg]
 rw [hP] at g1;exact ⟨_,g1,i1⟩
def RgL (l:List dD):Prop:=∀ t∈l,kH t.n
def KRg (K:au->Ty × au):Prop:=∀ c,RgL c.l->rngT (K c).1/\(K c).2.l=c.l
section
variable {K:au->Ty × au} (hK:KRg K)
include hK
end
theorem BL (s:Sch):(aQ s).wt=s.wt:=by
 have h1:∀ l:List (Wd × Wd),prsWt (l.map cg)=prsWt l:=by
  intro l
  induction l with
  | nil=>rfl
  | cons x r ih=>simp only [List.map_cons,prsWt,ih,cg,bZ,Wd.wt]
 have h2:∀ l:List (Wd × Ty),nmsWt (l.map bR)=nmsWt l:=by
  intro l
  induction l with
  | nil=>rfl
  | cons x r ih=>simp only [List.map_cons,nmsWt,ih,bR,bZ,Wd.wt,sY]
 simp only [Sch.wt,aQ,sX,h1,h2,sY]
end Go.Proofs.YtfdedoiiahbnnaaGreat
