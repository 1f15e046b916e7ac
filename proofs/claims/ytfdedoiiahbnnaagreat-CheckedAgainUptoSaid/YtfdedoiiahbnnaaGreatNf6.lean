/- Part 6 of the proof: Cursors: the program's is, Mark, Word, Take, FailAt, Fail, Need, Enter, Leave, Next; The reader of schemas: wrong, fine, keyword, name; The reader of schemas: a list, for any reader of its elements that has its own contract; Rules for the evaluator: calls that hand back fresh rows; Rules for the evaluator: a call that writes the caller's objects, in a region that draws its order; The reader of schemas: a level's name onto the schema's levels; The reader of schemas: a type where something is wrong; the type bool; The reader of schemas: a schema of levels and a root; Readers of tokens: the document's, plain; Readers of tokens: the program's, plain; they read as the document's do; Readers of tokens: lists, parts, types, schemas: the program's as the document's; Readers of tokens: no schema is heavier than its tokens; A region that draws its order, in which a new object may come at any time among calls: its run with the object made at each of these times serves every order; A region that draws its order, run by a schedule: at each point all that may come and has an effect is tried; Rules for the evaluator: a small region that draws its order, of which more than one end may come: all orders are tried; The reader of values: enter, word, a value that is a word; The reader of values: a record's key and value; Rules for the evaluator: calls that hand back new objects; A new cursor; The reader of values: a record of one key; Parse of the example's text; Readers of tokens: the program's number, label; Readers of tokens: the program's coarse; Readers of tokens: the program's marks, field, tag; Rules for the evaluator: elements of rows whose cells nobody else knows, read and written whole; Steps of a drawn region: elements of rows whose cells nobody else knows, read and written whole; Rules for the evaluator: a region that draws its order; what each of its reads asks is told read by read; Rules for the evaluator: in a region that draws its order, an element and an object are written in either order; calls of closures; Readers of tokens: the program's parts; Readers of tokens: the document's Fine, Is, Wrong, On, Need, Mark, May, Any, Name; Readers of tokens: the document's label, number, coarse, marks; Readers of tokens: the document's marks; Readers of tokens: the document's names, part, parts; The reader of schemas: a list of which none may be there; parts; The reader of schemas: parts; a list of names onto a type. No condition. -/
import Derived.Lib.Hide
import Derived.Test.YtfdedoiiahbnnaaGreatNf2
import Derived.Test.YtfdedoiiahbnnaaGreatNf3
import Derived.Test.YtfdedoiiahbnnaaGreatNf5
set_option linter.all false
set_option maxRecDepth 100000
namespace Go.Proofs.YtfdedoiiahbnnaaGreat
open Go Go.RowKit Dv Go.Proofs.Tryz
theorem Ks (c:au) (h:av c) (k:Int) (s:ByteArray):Ev prog 247 [.loc 0 0,.v (.int .i64 k),.v (.string s)] [aH c] [] (jX (.v (.bool (c.is k s))) (c.o9 k s)):=by
 have hp:=dL c h;have hs:=Bd c h;have hI:c.is k s=(decide (c.aF.k=k) && decide (c.aF.s=s)):=rfl;have hC:c.o9 k s=if c.is k s then c.step else c:=rfl
 generalize c.o9 k s=C2 at hC ⊢;generalize c.is k s=B at hI hC ⊢;generalize c.step=C1 at hs hC;generalize c.aF=t at hp hI;obtain ⟨tk,ta,te,ts,tn⟩:=t;obtain ⟨l,p,d,f1,f2⟩:=c;obtain ⟨l1,p1,d1,f11,f21⟩:=C1;simp only at hI;refine eG 22 [.tmp 6] func247 rfl ntmps247 rfl fun _ _ _ _=>?_;refine ak 1 iw hp ?_;refine br ?_ ?_<;>intro g
 ·have hB:B=false:=by
   rw [hI];have g:¬tk=k∨¬ts=s:=by simpa [aD] using g
   rcases g with g | g<;>simp [g]
  subst hB;rw [ag (by simp)] at hC;rw [hC];exact ⟨.v (.bool false),[aH _],bB,bB,rfl,rfl,rfl⟩
 ·have hB:B=true:=by rw [hI];simpa [aD] using g
  subst hB;rw [ah rfl] at hC;rw [hC];refine ak 1 VP hs ?_;exact ⟨.v (.bool true),[aH _],bB,bB,rfl,rfl,rfl⟩
theorem fk (c:au) (h:av c) (s:ByteArray):Ev prog 220 [.loc 0 0,.v (.string s)] [aH c] [] (jX (.v (.bool (c.is 4 s))) (c.o9 4 s)):=by
 have hs:=Ks c h 4 s;generalize c.o9 4 s=C2 at hs ⊢;generalize c.is 4 s=B at hs ⊢;obtain ⟨l,p,d,f1,f2⟩:=c;obtain ⟨l1,p1,d1,f11,f21⟩:=C2;refine eG 8 [.tmp 4] func220 rfl ntmps220 rfl fun _ _ _ _=>?_;refine ak 1 VL hs ?_;exact ⟨.v (.bool B),[aH _],bB,bB,rfl,rfl,rfl⟩
theorem cL (c:au) (h:av c) (s:ByteArray):Ev prog 163 [.loc 0 0,.v (.string s)] [aH c] [] (jX (.v (.bool (c.is 1 s))) (c.o9 1 s)):=by
 have hs:=Ks c h 1 s;generalize c.o9 1 s=C2 at hs ⊢;generalize c.is 1 s=B at hs ⊢;obtain ⟨l,p,d,f1,f2⟩:=c;obtain ⟨l1,p1,d1,f11,f21⟩:=C2;refine eG 8 [.tmp 4] func163 rfl ntmps163 rfl fun _ _ _ _=>?_;refine ak 1 VL hs ?_;exact ⟨.v (.bool B),[aH _],bB,bB,rfl,rfl,rfl⟩
theorem oC (c:au) (h:av c) (k:Int):Ev prog 246 [.loc 0 0,.v (.int .i64 k)] [aH c] [] (jX (.bK [.agg (vn (c.uG k)),.v (.bool (c.tk k))]) (c.SE k)):=by
 have hp:=dL c h;have hs:=Bd c h;have hI:c.tk k=(!decide (c.aF.k=0) && decide (c.aF.k=k)):=rfl;have hT:c.uG k=if c.tk k then c.aF else ⟨0,0,0,aZ,0⟩:=rfl
 have hC:c.SE k=if c.tk k then c.step else c:=rfl
 generalize c.SE k=C2 at hC ⊢;generalize c.uG k=T2 at hT ⊢;generalize c.tk k=B at hI hC hT ⊢;generalize c.step=C1 at hs hC;generalize c.aF=t at hp hI hT;obtain ⟨tk,ta,te,ts,tn⟩:=t;obtain ⟨l,p,d,f1,f2⟩:=c;obtain ⟨l1,p1,d1,f11,f21⟩:=C1;simp only at hI;refine eG 22 [.cell 4 218,.tmp 5] func246 rfl ntmps246 rfl fun _ _ _ _=>?_;refine ak 1 iw hp ?_;refine br ?_ ?_<;>intro g
 ·have hB:B=false:=by
   rw [hI];have g:tk=0∨¬tk=k:=by simpa [aD] using g
   rcases g with g | g<;>simp [g]
  subst hB;rw [ag (by simp)] at hC hT;rw [hC,hT];exact ⟨.bK [.agg (vn ⟨0,0,0,aZ,0⟩),.v (.bool false)],[aH _],bB,bB,rfl,rfl,rfl⟩
 ·have hB:B=true:=by rw [hI];simpa [aD] using g
  subst hB;rw [ah rfl] at hC hT;rw [hC,hT];refine ak 1 VP hs ?_;exact ⟨.bK [.agg (vn _),.v (.bool true)],[aH _],bB,bB,rfl,rfl,rfl⟩
theorem uI (c:au) (e a:Int):Ev prog 250 [.loc 0 0,.v (.int .i64 e),.v (.int .i64 a)] [aH c] [] (jX (.bK []) (c.cK e a)):=by
 have hC:c.cK e a=if c.f.1=0/\e≠0 then { c with f:=(e,a) } else c:=rfl
 generalize c.cK e a=C2 at hC ⊢;obtain ⟨l,p,d,f1,f2⟩:=c;simp only at hC;refine eG 26 [] func250 rfl ntmps250 rfl fun _ _ _ _=>?_;refine br ?_ ?_<;>intro g
 ·have g:f1=0/\e≠0:=by simpa [aC] using g
  rw [ah g] at hC;rw [hC];exact ⟨.bK [],[aH _],bB,bB,rfl,rfl,rfl⟩
 ·have g:¬ (f1=0/\e≠0):=by simpa [aC] using g
  rw [ag g] at hC;rw [hC];exact ⟨.bK [],[aH _],bB,bB,rfl,rfl,rfl⟩
theorem iP (c:au) (h:av c) (e:Int):Ev prog 168 [.loc 0 0,.v (.int .i64 e)] [aH c] [] (jX (.bK []) (c.fail e)):=by
 have hp:=dL c h;have hs:=uI c e c.aF.a;have hC:c.fail e=c.cK e c.aF.a:=rfl;rw [hC];generalize c.cK e c.aF.a=C2 at hs ⊢;generalize c.aF=t at hp hs;obtain ⟨tk,ta,te,ts,tn⟩:=t;obtain ⟨l,p,d,f1,f2⟩:=c;obtain ⟨l1,p1,d1,f11,f21⟩:=C2;simp only at hs;refine eG 10 [] func168 rfl ntmps168 rfl fun _ _ _ _=>?_;refine ak 1 iw hp ?_;refine ak 1 VN hs ?_;exact ⟨.bK [],[aH _],bB,bB,rfl,rfl,rfl⟩
theorem bV (c:au) (h:av c) (s:ByteArray):Ev prog 159 [.loc 0 0,.v (.string s)] [aH c] [] (jX (.v (.bool (c.is 4 s))) (c.ai s)):=by
 have hm:=fk c h s;have hp:=dL c h;have h5:=iP c h 5;have h4:=iP c h 4;have hC:c.ai s=if c.is 4 s then c.step else c.fail (if c.aF.k=0 then 5 else 4):=rfl
 have hM:c.o9 4 s=if c.is 4 s then c.step else c:=rfl
 rw [hM] at hm;generalize c.ai s=C2 at hC ⊢;generalize c.is 4 s=B at hC hm ⊢;generalize c.step=C1 at hm hC;generalize c.aF=t at hp hC;obtain ⟨tk,ta,te,ts,tn⟩:=t;simp only at hC
 cases B with
 | true=>
  rw [ah rfl] at hC hm;rw [hC];obtain ⟨l,p,d,f1,f2⟩:=c;obtain ⟨l1,p1,d1,f11,f21⟩:=C1;refine eG 16 [.tmp 4] func159 rfl ntmps159 rfl fun _ _ _ _=>?_;refine ak 1 gZ hm ?_;exact ⟨.v (.bool true),[aH _],bB,bB,rfl,rfl,rfl⟩
 | false=>
  rw [ag (by simp)] at hC hm;rw [hC];have e5:tk=0->c.fail (if tk=0 then 5 else 4)=c.fail 5:=fun g=>by rw [ah g]
  have e4:¬ tk=0->c.fail (if tk=0 then 5 else 4)=c.fail 4:=fun g=>by rw [ag g]
  generalize c.fail (if tk=0 then 5 else 4)=CX at e5 e4 ⊢;generalize c.fail 5=C5 at h5 e5;generalize c.fail 4=C4 at h4 e4;obtain ⟨l,p,d,f1,f2⟩:=c;obtain ⟨l5,p5,d5,f15,f25⟩:=C5;obtain ⟨l4,p4,d4,f14,f24⟩:=C4;refine eG 16 [.tmp 4] func159 rfl ntmps159 rfl fun _ _ _ _=>?_;refine ak 1 gZ hm ?_;refine ak 1 iw hp ?_;refine br ?_ ?_<;>intro g
  ·have g:tk=0:=sU g;rw [e5 g];refine ak 1 wO h5 ?_;exact ⟨.v (.bool false),[aH _],bB,bB,rfl,rfl,rfl⟩
  ·have g:¬ tk=0:=sU g;rw [e4 g];refine ak 1 wO h4 ?_;exact ⟨.v (.bool false),[aH _],bB,bB,rfl,rfl,rfl⟩
theorem yn (c:au) (h:av c):Ev prog 248 [.loc 0 0] [aH c] [] (jX (.v (.bool c.enter)) c.qC):=by
 have hf:=iP c h 6;have hI:c.enter = !decide (c.d=24):=rfl;have hC:c.qC=if c.d=24 then c.fail 6 else { c with d:=c.d + 1 }:=rfl
 have hd:=h.dl;generalize c.qC=C2 at hC ⊢;generalize c.enter=B at hI ⊢;generalize c.fail 6=C6 at hf hC;obtain ⟨l,p,d,f1,f2⟩:=c;obtain ⟨l1,p1,d1,f11,f21⟩:=C6;simp only at hI hC hd;refine eG 21 [.tmp 2] func248 rfl ntmps248 rfl fun _ _ _ _=>?_;refine br ?_ ?_<;>intro g
 ·have g:(d:Int)=24:=of_decide_eq_true g;have g:d=24:=by omega
  rw [ah g] at hC;rw [hC,hI,decide_eq_true g];refine ak 1 wO hf ?_;exact ⟨.v (.bool false),[aH _],bB,bB,rfl,rfl,rfl⟩
 ·have g:¬ (d:Int)=24:=of_decide_eq_false g;have g:¬ d=24:=by omega
  rw [decide_eq_false g] at hI;rw [ag g] at hC;rw [hC,hI]
  have hw:IntKind.i64.wrap ((d:Int) + 1)=((d + 1:Nat):Int):=by
   rw [wrap64 (by omega) (by omega)];omega
  have hX:=congrArg (fun z=>DV.v (Value.int .i64 z)) hw;exact ⟨.v (.bool true),[aH _],(by repeat' (first | exact rfl | exact trivial | exact Or.inr (Or.inl ⟨_,rfl⟩) | exact Or.inr ⟨_,rfl⟩ | exact Or.inl ⟨rfl,rfl⟩ | exact Or.inl rfl | refine Or.inr ⟨_,_,rfl,Nat.zero_le _,rfl,?_⟩ | refine ⟨_,_,rfl,?_,?_⟩ | refine ⟨_,rfl,?_⟩ | exact hX | exact ⟨nL rfl,rfl⟩ | refine Or.inr (Or.inr (Or.inr ⟨_,_,rfl,?_⟩)) | exact Or.inl rfl | refine Or.inr ?_)),(by repeat' (first | exact rfl | exact trivial | exact Or.inr (Or.inl ⟨_,rfl⟩) | exact Or.inr ⟨_,rfl⟩ | exact Or.inl ⟨rfl,rfl⟩ | exact Or.inl rfl | refine Or.inr ⟨_,_,rfl,Nat.zero_le _,rfl,?_⟩ | refine ⟨_,_,rfl,?_,?_⟩ | refine ⟨_,rfl,?_⟩ | exact hX | exact ⟨nL rfl,rfl⟩ | refine Or.inr (Or.inr (Or.inr ⟨_,_,rfl,?_⟩)) | exact Or.inl rfl | refine Or.inr ?_)),rfl,rfl,rfl⟩
theorem nk (c:au) (h:av c):Ev prog 225 [.loc 0 0] [aH c] [] (jX (.bK []) c.leave):=by
 have hC:c.leave={ c with d:=c.d - 1 }:=rfl;have hd:=h.dl;generalize c.leave=C2 at hC ⊢;obtain ⟨l,p,d,f1,f2⟩:=c;simp only at hC hd;refine eG 13 [] func225 rfl ntmps225 rfl fun _ _ _ _=>?_;rw [hC]
 have hw:max (IntKind.i64.wrap ((d:Int) - 1)) 0=((d - 1:Nat):Int):=by
  rw [wrap64 (by omega) (by omega)];omega
 have hX:=congrArg (fun z=>DV.v (Value.int .i64 z)) hw;exact ⟨.bK [],[aH _],(by repeat' (first | exact rfl | exact trivial | exact Or.inr (Or.inl ⟨_,rfl⟩) | exact Or.inr ⟨_,rfl⟩ | exact Or.inl ⟨rfl,rfl⟩ | exact Or.inl rfl | refine Or.inr ⟨_,_,rfl,Nat.zero_le _,rfl,?_⟩ | refine ⟨_,_,rfl,?_,?_⟩ | refine ⟨_,rfl,?_⟩ | exact hX | exact ⟨nL rfl,rfl⟩ | refine Or.inr (Or.inr (Or.inr ⟨_,_,rfl,?_⟩)) | exact Or.inl rfl | refine Or.inr ?_)),(by repeat' (first | exact rfl | exact trivial | exact Or.inr (Or.inl ⟨_,rfl⟩) | exact Or.inr ⟨_,rfl⟩ | exact Or.inl ⟨rfl,rfl⟩ | exact Or.inl rfl | refine Or.inr ⟨_,_,rfl,Nat.zero_le _,rfl,?_⟩ | refine ⟨_,_,rfl,?_,?_⟩ | refine ⟨_,rfl,?_⟩ | exact hX | exact ⟨nL rfl,rfl⟩ | refine Or.inr (Or.inr (Or.inr ⟨_,_,rfl,?_⟩)) | exact Or.inl rfl | refine Or.inr ?_)),rfl,rfl,rfl⟩
abbrev gT:DV:=.agg [.loc 0 0]
def au.kw (c:au) (s:ByteArray):au:=if c.is 1 s then c.step else c.wrong
def au.aK (c:au):Wd:=⟨(c.uG 1).s,(c.uG 1).a⟩
def au.aq (c:au):au:=if c.tk 1 then c.step else c.wrong
theorem gO (c:au) (h:av c):Ev prog 245 [gT] [aH c] [] (jX (.bK []) c.wrong):=by
 have hp:=dL c h;have h5:=iP c h 5;have h4:=iP c h 4;have hC:c.wrong=c.fail (if c.aF.k=0 then 5 else 4):=rfl;rw [hC];generalize c.aF=t at hp ⊢;obtain ⟨tk,ta,te,ts,tn⟩:=t;simp only;have e5:tk=0->c.fail (if tk=0 then 5 else 4)=c.fail 5:=fun g=>by rw [ah g]
 have e4:¬ tk=0->c.fail (if tk=0 then 5 else 4)=c.fail 4:=fun g=>by rw [ag g]
 generalize c.fail (if tk=0 then 5 else 4)=CX at e5 e4 ⊢;generalize c.fail 5=C5 at h5 e5;generalize c.fail 4=C4 at h4 e4;obtain ⟨l,p,d,f1,f2⟩:=c;obtain ⟨l5,p5,d5,f15,f25⟩:=C5;obtain ⟨l4,p4,d4,f14,f24⟩:=C4;refine eG 13 [] func245 rfl ntmps245 rfl fun _ _ _ _=>?_;refine ak 1 iw hp ?_;refine br ?_ ?_<;>intro g
 ·have g:tk=0:=sU g;rw [e5 g];refine ak 1 wO h5 ?_;exact ⟨.bK [],[aH _],bB,bB,rfl,rfl,rfl⟩
 ·have g:¬ tk=0:=sU g;rw [e4 g];refine ak 1 wO h4 ?_;exact ⟨.bK [],[aH _],bB,bB,rfl,rfl,rfl⟩
theorem nq (c:au):Ev prog 167 [gT] [aH c] [] (jX (.v (.bool (decide (c.f.1=0)))) c):=by
 have hf:=nj c;obtain ⟨l,p,d,f1,f2⟩:=c;refine eG 8 [.tmp 2] func167 rfl ntmps167 rfl fun _ _ _ _=>?_;refine ak 1 JK hf ?_;exact ⟨.v (.bool _),[aH _],bB,bB,rfl,rfl,rfl⟩
theorem jO (c:au) (h:av c) (s:ByteArray):Ev prog 158 [gT,.v (.string s)] [aH c] [] (jX (.bK []) (c.kw s)):=by
 have hm:=cL c h s;have hw:=gO c h;have hC:c.kw s=if c.is 1 s then c.step else c.wrong:=rfl
 have hM:c.o9 1 s=if c.is 1 s then c.step else c:=rfl
 rw [hM] at hm;generalize c.kw s=C2 at hC ⊢;generalize c.is 1 s=B at hC hm
 cases B with
 | true=>
  rw [ah rfl] at hC hm;rw [hC];generalize c.step=C1 at hm ⊢;obtain ⟨l,p,d,f1,f2⟩:=c;obtain ⟨l1,p1,d1,f11,f21⟩:=C1;refine eG 11 [] func158 rfl ntmps158 rfl fun _ _ _ _=>?_;refine ak 1 gL hm ?_;exact ⟨.bK [],[aH _],bB,bB,rfl,rfl,rfl⟩
 | false=>
  rw [ag (by simp)] at hC hm;rw [hC];generalize c.wrong=C1 at hw ⊢;obtain ⟨l,p,d,f1,f2⟩:=c;obtain ⟨l1,p1,d1,f11,f21⟩:=C1;refine eG 11 [] func158 rfl ntmps158 rfl fun _ _ _ _=>?_;refine ak 1 gL hm ?_;refine ak 1 Ac hw ?_;exact ⟨.bK [],[aH _],bB,bB,rfl,rfl,rfl⟩
theorem ed (c:au) (h:av c):Ev prog 162 [gT] [aH c] [] (jX (.agg (nD c.aK)) c.aq):=by
 have hm:=oC c h 1;have hw:=gO c h;have hC:c.aq=if c.tk 1 then c.step else c.wrong:=rfl
 have hW:c.aK=⟨(c.uG 1).s,(c.uG 1).a⟩:=rfl;have hM:c.SE 1=if c.tk 1 then c.step else c:=rfl
 rw [hM] at hm;generalize c.aq=C2 at hC ⊢;generalize c.aK=W at hW ⊢;generalize c.uG 1=t at hm hW;obtain ⟨tk,ta,te,ts,tn⟩:=t;simp only at hW;rw [hW];generalize c.tk 1=B at hC hm
 cases B with
 | true=>
  rw [ah rfl] at hC hm;rw [hC];generalize c.step=C1 at hm ⊢;obtain ⟨l,p,d,f1,f2⟩:=c;obtain ⟨l1,p1,d1,f11,f21⟩:=C1;refine eG 20 [.cell 2 34] func162 rfl ntmps162 rfl fun _ _ _ _=>?_;refine ak 1 uk hm ?_;exact ⟨.agg (nD _),[aH _],bB,bB,rfl,rfl,rfl⟩
 | false=>
  rw [ag (by simp)] at hC hm;rw [hC];generalize c.wrong=C1 at hw ⊢;obtain ⟨l,p,d,f1,f2⟩:=c;obtain ⟨l1,p1,d1,f11,f21⟩:=C1;refine eG 20 [.cell 2 34] func162 rfl ntmps162 rfl fun _ _ _ _=>?_;refine ak 1 uk hm ?_;refine ak 1 Ac hw ?_;exact ⟨.agg (nD _),[aH _],bB,bB,rfl,rfl,rfl⟩
theorem av.kw {c:au} (h:av c) (s:ByteArray):av (c.kw s):=by
 unfold au.kw;split
 ·exact h.step
 ·exact h.wrong
theorem av.aq {c:au} (h:av c):av c.aq:=by
 unfold au.aq;split
 ·exact h.step
 ·exact h.wrong
theorem yo {c:au} (h:c.f.1≠0):c.aF=gR c.f.2:=by rw [au.aF,ag h]
theorem eQ {c:au} (h:c.f.1≠0) {k:Int} (hk:k≠0) (s:ByteArray):c.is k s=false:=by
 rw [au.is,yo h];simp [gR,Ne.symm hk]
theorem oD {c:au} (h:c.f.1≠0) (k:Int):c.tk k=false:=by
 rw [au.tk,yo h];simp [gR]
theorem yp {c:au} (h:c.f.1≠0) (e a:Int):c.cK e a=c:=by rw [au.cK,ag (fun g=>h g.1)]
theorem gP {c:au} (h:c.f.1≠0):c.wrong=c:=yp h _ _
theorem cM {c:au} (h:c.f.1≠0) (s:ByteArray):c.ai s=c:=by rw [au.ai,eQ h (by decide),ag (by simp),gP h]
theorem CU {c:au} (h:c.f.1≠0) (s:ByteArray):c.kw s=c:=by rw [au.kw,eQ h (by decide),ag (by simp),gP h]
theorem eE {c:au} (h:c.f.1≠0):c.aq=c:=by rw [au.aq,oD h,ag (by simp),gP h]
end Go.Proofs.YtfdedoiiahbnnaaGreat
set_option maxRecDepth 100000
namespace Go.Proofs.YtfdedoiiahbnnaaGreat
namespace Dv
open Go Go.RowKit
mutual
theorem Kt {bx:List (List DV)} {N n m:Nat}:∀ {d:DV},clB n m d=true->Cc bx N n m d d
 | .v _,_=>by simp only [Cc]
 | .ud,_=>by simp only [Cc]
 | .agg l,h=>by simp only [Cc];exact ⟨l,rfl,bU (by simpa [clB] using h)⟩
 | .bK l,h=>by simp only [Cc];exact ⟨l,rfl,bU (by simpa [clB] using h)⟩
 | .sl e es none,_=>by simp only [Cc];exact .inr (.inl ⟨none,rfl⟩)
 | .sl e es (some k),h=>by simp only [Cc];exact ⟨by simpa [clB] using h,trivial⟩
 | .pt cs o,_=>by simp only [Cc];exact .inl trivial
 | .loc i o,h=>by simp only [Cc];exact ⟨by simpa [clB] using h,trivial⟩
 | .el i o,h=>by simp only [Cc];exact ⟨by simpa [clB] using h,trivial⟩
 | .ms i e o l c,h=>by simp only [Cc];exact ⟨by simpa [clB] using h,trivial⟩
 | .fn f a b,h=>by
  simp only [clB,bg] at h;simp only [Cc];exact ⟨a,b,rfl,bU h.1,bU h.2⟩
 | .pY t x,h=>by simp only [Cc];exact ⟨x,rfl,Kt (by simpa [clB] using h)⟩
theorem bU {bx:List (List DV)} {N n m:Nat}:∀ {l:List DV},clB.clL n m l=true->CcL bx N n m l l
 | [],_=>by simp only [CcL]
 | d :: r,h=>by
  simp only [clB.clL,bg] at h;simp only [CcL];exact ⟨d,r,rfl,Kt h.1,bU h.2⟩
end
mutual
theorem FV {n n' m:Nat} (hn:n<=n'):∀ {d:DV},clB n m d=true->clB n' m d=true
 | .v _,_=>rfl
 | .ud,_=>rfl
 | .agg l,h=>by simp only [clB] at h ⊢;exact mg hn h
 | .bK l,h=>by simp only [clB] at h ⊢;exact mg hn h
 | .sl e es none,_=>rfl
 | .sl e es (some k),h=>by simpa [clB] using h
 | .pt cs o,_=>rfl
 | .loc i o,h=>by simp [clB] at h ⊢;omega
 | .el i o,h=>by simp [clB] at h ⊢;omega
 | .ms i e o l c,h=>by simp [clB] at h ⊢;omega
 | .fn f a b,h=>by
  simp only [clB,bg] at h ⊢;exact ⟨mg hn h.1,mg hn h.2⟩
 | .pY t x,h=>by simp only [clB] at h ⊢;exact FV hn h
theorem mg {n n' m:Nat} (hn:n<=n'):∀ {l:List DV},clB.clL n m l=true->clB.clL n' m l=true
 | [],_=>rfl
 | d :: r,h=>by
  simp only [clB.clL,bg] at h ⊢;exact ⟨FV hn h.1,mg hn h.2⟩
end
theorem eF {n m:Nat} {tk:List TkE}:∀ {l:List DV},clB.clL n m l=true->WeL n m tk l l
 | [],_=>by simp only [WeL]
 | d :: r,h=>by
  simp only [clB.clL,bg] at h;simp only [WeL];exact ⟨d,r,rfl,.inl ⟨rfl,h.1⟩,eF h.2⟩
end Dv
open Go Go.RowKit Dv Go.Proofs.Tryz
def listF {α:Type} (f:au->α->au × α) (e:ByteArray):Nat->au->α->au × α
 | 0,c,a=>(c,a)
 | n + 1,c,a=>if c.f.1=0 then (if (f c a).1.is 4 e then ((f c a).1.step,(f c a).2) else listF f e n ((f c a).1.ai ⟨#[44]⟩) (f c a).2) else (c,a)
structure yq {α:Type} (A B C:α->List DV) (T:α->TkE) (f:au->α->au × α) (Inv:au->α->Prop) (g i j:Nat) (c:au) (a:α):Prop where
 ok:av (f c a).1
 l:(f c a).1.l=c.l
 p:c.p<=(f c a).1.p
 inv:Inv (f c a).1 (f c a).2
 ev:Ev prog g [.loc i 0,.loc j 0] [aH c,A a,B a,C a] [T a] (fun r os tk=>r = .bK []/\os=[aH (f c a).1,A (f c a).2,B (f c a).2,C (f c a).2]/\tk=[T (f c a).2])
abbrev YY (g i j:Nat) (e:ByteArray) (c:au) (X Y Z:List DV) (q:TkE):St:=⟨[(1,⟨[],.v (.string e)⟩),(3,⟨[],.fn g [] [.loc i 0,.loc j 0]⟩),bq 4 4],[aH c,X,Y,Z,[.loc 0 0]],[q]⟩
theorem au.Ra (c:au) (s:ByteArray):(c.ai s).l=c.l:=by
 unfold au.ai au.step au.wrong au.fail au.cK
 repeat' split
 all_goals rfl
theorem au.YZ (c:au) (s:ByteArray) (h:(c.ai s).f.1=0):(c.ai s).p=c.p + 1:=by
 have hk:c.is 4 s=true->¬ c.aF.k=0:=fun h=>by
  simp only [au.is,bg,decide_eq_true_eq] at h;omega
 unfold au.ai at h ⊢;split
 ·rename_i hi;unfold au.step;rw [ag (hk hi)]
 ·rename_i hi;rw [ag hi] at h;unfold au.wrong au.fail au.cK at h;exfalso;by_cases h0:c.f.1=0
  ·by_cases h1:c.aF.k=0
   ·rw [ah ⟨h0,by rw [ah h1];decide⟩,ah h1] at h;exact absurd h (by simp)
   ·rw [ah ⟨h0,by rw [ag h1];decide⟩,ag h1] at h;exact absurd h (by simp)
  ·rw [ag (fun g=>h0 g.1)] at h;exact h0 h
def pT {α:Type} (none:Bool) (f:au->α->au × α) (e:ByteArray) (N:Nat) (c:au) (a:α):au × α:=if (none && c.is 4 e)=true then (c.step,a) else listF f e N c a
theorem FW {α:Type} {A B C:α->List DV} {T:α->TkE} {f:au->α->au × α} {Inv:au->α->Prop} {g i j:Nat} (none:Bool) (hi:i < 4) (hj:j < 4) (hA:∀ a,clB.clL 4 1 (A a)=true) (hB:∀ a,clB.clL 4 1 (B a)=true) (hC:∀ a,clB.clL 4 1 (C a)=true) (gh:Enters prog g)
  (jo:∀ c a,av c->Inv c a->c.f.1=0->yq A B C T f Inv g i j c a) (FX:∀ c a,av c->Inv c a->Inv (c.ai ⟨#[44]⟩) a) (e:ByteArray) (N:Nat) (c:au) (a:α) (hc:av c) (ha:Inv c a) (hN:c.l.length<=c.p + N) :
  Ev prog 160 [gT,.v (.string e),.v (.bool none),.fn g [] [.loc i 0,.loc j 0]] [aH c,A a,B a,C a] [T a]
   (fun r os tk=>r = .bK []/\os=[aH (pT none f e N c a).1,A (pT none f e N c a).2,B (pT none f e N c a).2,C (pT none f e N c a).2]/\tk=[T (pT none f e N c a).2]):=by
 have h5:∀ X:α->List DV,(∀ a,clB.clL 4 1 (X a)=true)->∀ a,clB.clL 5 1 (X a)=true:=fun X h a=>mg (by omega) (h a);have hA5:=h5 A hA;have hB5:=h5 B hB;have hC5:=h5 C hC
 have wv:clB 5 1 (.fn g [] [.loc i 0,.loc j 0])=true:=by
  simp [clB,clB.clL];omega
 have pu:=fk c hc e;have hLT:pT none f e N c a=if (none && c.is 4 e)=true then (c.step,a) else listF f e N c a:=rfl
 unfold au.o9 at pu;generalize pT none f e N c a=LT at hLT ⊢;refine eG 26 [] func160 rfl ntmps160 rfl fun _ _ _ _=>?_;by_cases Y0:(none && c.is 4 e)=true
 ·rw [ah Y0] at hLT;rw [bg] at Y0;obtain ⟨rfl,Y0⟩:=Y0;rw [Y0,ah rfl] at pu;subst hLT;refine ak 1 gZ pu ?_;exact ⟨.bK [],[aH c.step,A a,B a,C a],(by repeat' (first | exact rfl | exact trivial | exact Or.inr (Or.inl ⟨_,rfl⟩) | exact Or.inr ⟨_,rfl⟩ | exact Or.inl ⟨rfl,rfl⟩ | exact Or.inl rfl | refine Or.inr ⟨_,_,rfl,Nat.zero_le _,rfl,?_⟩ | refine ⟨_,_,rfl,?_,?_⟩ | refine ⟨_,rfl,?_⟩ | exact ⟨nL rfl,rfl⟩ | exact bU (hA _) | exact bU (hB _) | exact bU (hC _) | refine Or.inr (Or.inr (Or.inr ⟨_,_,rfl,?_⟩)) | exact Or.inl rfl | refine Or.inr ?_)),(by repeat' (first | exact rfl | exact trivial | exact Or.inr (Or.inl ⟨_,rfl⟩) | exact Or.inr ⟨_,rfl⟩ | exact Or.inl ⟨rfl,rfl⟩ | exact Or.inl rfl | refine Or.inr ⟨_,_,rfl,Nat.zero_le _,rfl,?_⟩ | refine ⟨_,_,rfl,?_,?_⟩ | refine ⟨_,rfl,?_⟩ | exact ⟨nL rfl,rfl⟩ | exact bU (hA _) | exact bU (hB _) | exact bU (hC _) | refine Or.inr (Or.inr (Or.inr ⟨_,_,rfl,?_⟩)) | exact Or.inl rfl | refine Or.inr ?_)),rfl,rfl,rfl⟩
 rw [ag Y0] at hLT;subst hLT;cases none
 rotate_left
 rw [show c.is 4 e=false by simpa using Y0,ag (by simp)] at pu;refine ak 1 gZ pu ?_
 all_goals
  refine cH (fun n st=>∃ c' a',st=YY g i j e c' (A a') (B a') (C a') (T a')/\av c' /\ Inv c' a' /\ (c'.f.1=0->c'.l.length<=c'.p + n)/\listF f e N c a=listF f e n c' a') N (YY g i j e c (A a) (B a) (C a) (T a)) (kD 5 (by repeat' (first | exact rfl | exact az rfl | exact Or.inl ⟨rfl,wv⟩ | exact eF (hA5 _) | exact eF (hB5 _) | exact eF (hC5 _) | refine ⟨_,_,rfl,?_,?_⟩)) (by repeat' (first | exact trivial | exact az rfl | exact Or.inl ⟨rfl,wv⟩ | exact eF (hA5 _) | exact eF (hB5 _) | exact eF (hC5 _) | refine ⟨⟨_,rfl,?_⟩,?_⟩))) ⟨c,a,rfl,hc,ha,fun _=>hN,rfl⟩ ?_;rintro n st ⟨c',a',rfl,zR,V6,hn,bN⟩;have hf:=nq c';refine ak 1 JN hf ?_;refine br ?_ ?_<;>intro q
  ·have q:c'.f.1=0:=sU q;have h1:=jo c' a' zR V6 q;have hn:=hn q;have aE:=zR.lt
   match n,hn with
   | 0,hn=>omega
   | n + 1,hn=>
    rw [listF,ah q] at bN;generalize hF:f c' a'=F at bN;obtain ⟨c1,a1⟩:=F;have SA:=h1.ev;have jh:=h1.ok;have py:=h1.l;have Oz:=h1.p;have hi1:=h1.inv;rw [hF] at SA jh py Oz hi1;simp only at SA jh py Oz hi1 bN;refine fw 4 1 gh rfl rfl rfl (by repeat' (first | exact rfl | exact trivial | exact Or.inr (Or.inl ⟨_,rfl⟩) | exact Or.inr ⟨_,rfl⟩ | exact Or.inl ⟨rfl,rfl⟩ | exact Or.inl rfl | refine Or.inr ⟨_,_,rfl,Nat.zero_le _,rfl,?_⟩ | refine ⟨_,_,rfl,?_,?_⟩ | refine ⟨_,rfl,?_⟩ | exact ⟨nL rfl,rfl⟩ | exact bU (hA _) | exact bU (hB _) | exact bU (hC _) | refine Or.inr (Or.inr (Or.inr ⟨_,_,rfl,?_⟩)) | exact Or.inl rfl | refine Or.inr ?_)) (by repeat' (first | exact rfl | exact trivial | exact Or.inr (Or.inl ⟨_,rfl⟩) | exact Or.inr ⟨_,rfl⟩ | exact Or.inl ⟨rfl,rfl⟩ | exact Or.inl rfl | refine Or.inr ⟨_,_,rfl,Nat.zero_le _,rfl,?_⟩ | refine ⟨_,_,rfl,?_,?_⟩ | refine ⟨_,rfl,?_⟩ | exact ⟨hi,rfl⟩ | exact ⟨hj,rfl⟩ | refine Or.inr (Or.inr (Or.inr ⟨_,_,rfl,?_⟩)) | exact Or.inl rfl | refine Or.inr ?_)) SA (fun r eO cA hΦ _ _=>?_);obtain ⟨rfl,rfl,rfl⟩:=hΦ;have hm:=fk c1 jh e;refine ak 1 gZ hm ?_;unfold au.o9
    cases hb:c1.is 4 e with
    | true=>
     rw [hb,ah rfl] at bN;rw [bN,ah rfl];exact ⟨.bK [],[aH c1.step,A a1,B a1,C a1],(by repeat' (first | exact rfl | exact trivial | exact Or.inr (Or.inl ⟨_,rfl⟩) | exact Or.inr ⟨_,rfl⟩ | exact Or.inl ⟨rfl,rfl⟩ | exact Or.inl rfl | refine Or.inr ⟨_,_,rfl,Nat.zero_le _,rfl,?_⟩ | refine ⟨_,_,rfl,?_,?_⟩ | refine ⟨_,rfl,?_⟩ | exact ⟨nL rfl,rfl⟩ | exact bU (hA _) | exact bU (hB _) | exact bU (hC _) | refine Or.inr (Or.inr (Or.inr ⟨_,_,rfl,?_⟩)) | exact Or.inl rfl | refine Or.inr ?_)),(by repeat' (first | exact rfl | exact trivial | exact Or.inr (Or.inl ⟨_,rfl⟩) | exact Or.inr ⟨_,rfl⟩ | exact Or.inl ⟨rfl,rfl⟩ | exact Or.inl rfl | refine Or.inr ⟨_,_,rfl,Nat.zero_le _,rfl,?_⟩ | refine ⟨_,_,rfl,?_,?_⟩ | refine ⟨_,rfl,?_⟩ | exact ⟨nL rfl,rfl⟩ | exact bU (hA _) | exact bU (hB _) | exact bU (hC _) | refine Or.inr (Or.inr (Or.inr ⟨_,_,rfl,?_⟩)) | exact Or.inl rfl | refine Or.inr ?_)),rfl,rfl,rfl⟩
    | false=>
     rw [hb,ag (by simp)] at bN;rw [ag (by simp)];have hnd:=bV c1 jh ⟨#[44]⟩;refine ak 1 fX hnd ?_
     exact ⟨YY g i j e (c1.ai ⟨#[44]⟩) (A a1) (B a1) (C a1) (T a1),(kD 5 (by repeat' (first | exact rfl | exact az rfl | exact Or.inl ⟨rfl,wv⟩ | exact eF (hA5 _) | exact eF (hB5 _) | exact eF (hC5 _) | refine ⟨_,_,rfl,?_,?_⟩)) (by repeat' (first | exact trivial | exact az rfl | exact Or.inl ⟨rfl,wv⟩ | exact eF (hA5 _) | exact eF (hB5 _) | exact eF (hC5 _) | refine ⟨⟨_,rfl,?_⟩,?_⟩))),n,by omega,_,a1,rfl,jh.ai _,FX c1 a1 jh hi1,fun g0=>by
      rw [au.Ra,au.YZ _ _ g0,py]
      omega,bN⟩
  ·have q:¬ c'.f.1=0:=sU q
   have bp:listF f e n c' a'=(c',a'):=by
    cases n with
    | zero=>rfl
    | succ n=>rw [listF,ag q]
   rw [bN,bp];exact ⟨.bK [],[aH c',A a',B a',C a'],(by repeat' (first | exact rfl | exact trivial | exact Or.inr (Or.inl ⟨_,rfl⟩) | exact Or.inr ⟨_,rfl⟩ | exact Or.inl ⟨rfl,rfl⟩ | exact Or.inl rfl | refine Or.inr ⟨_,_,rfl,Nat.zero_le _,rfl,?_⟩ | refine ⟨_,_,rfl,?_,?_⟩ | refine ⟨_,rfl,?_⟩ | exact ⟨nL rfl,rfl⟩ | exact bU (hA _) | exact bU (hB _) | exact bU (hC _) | refine Or.inr (Or.inr (Or.inr ⟨_,_,rfl,?_⟩)) | exact Or.inl rfl | refine Or.inr ?_)),(by repeat' (first | exact rfl | exact trivial | exact Or.inr (Or.inl ⟨_,rfl⟩) | exact Or.inr ⟨_,rfl⟩ | exact Or.inl ⟨rfl,rfl⟩ | exact Or.inl rfl | refine Or.inr ⟨_,_,rfl,Nat.zero_le _,rfl,?_⟩ | refine ⟨_,_,rfl,?_,?_⟩ | refine ⟨_,rfl,?_⟩ | exact ⟨nL rfl,rfl⟩ | exact bU (hA _) | exact bU (hB _) | exact bU (hC _) | refine Or.inr (Or.inr (Or.inr ⟨_,_,rfl,?_⟩)) | exact Or.inl rfl | refine Or.inr ?_)),rfl,rfl,rfl⟩
theorem qE {α:Type} {A B C:α->List DV} {T:α->TkE} {f:au->α->au × α} {Inv:au->α->Prop} {g i j:Nat} (hi:i < 4) (hj:j < 4) (hA:∀ a,clB.clL 4 1 (A a)=true) (hB:∀ a,clB.clL 4 1 (B a)=true) (hC:∀ a,clB.clL 4 1 (C a)=true) (gh:Enters prog g)
  (jo:∀ c a,av c->Inv c a->c.f.1=0->yq A B C T f Inv g i j c a) (FX:∀ c a,av c->Inv c a->Inv (c.ai ⟨#[44]⟩) a) (e:ByteArray) (N:Nat) (c:au) (a:α) (hc:av c) (ha:Inv c a) (hN:c.l.length<=c.p + N) :
  Ev prog 160 [gT,.v (.string e),.v (.bool false),.fn g [] [.loc i 0,.loc j 0]] [aH c,A a,B a,C a] [T a]
   (fun r os tk=>r = .bK []/\os=[aH (listF f e N c a).1,A (listF f e N c a).2,B (listF f e N c a).2,C (listF f e N c a).2]/\tk=[T (listF f e N c a).2]):=
 FW (A:=A) (B:=B) (C:=C) (T:=T) (f:=f) (Inv:=Inv) false hi hj hA hB hC gh jo FX e N c a hc ha hN
end Go.Proofs.YtfdedoiiahbnnaaGreat
namespace Go.Proofs.YtfdedoiiahbnnaaGreat
namespace Dv
open Go Go.RowKit
section
variable {X:Ctx} {st:St} {s0:List (Nat × Sl)} {c:Bool} {i:Nat} {r:List (Nat × Oper)}
def adj (D:Dr) (n:Nat):Bool:=(D.kP.bx.take n).all List.isEmpty
theorem Rb {D:Dr} {n i:Nat} {cs:List DV} (h:adj D n=true) (hi:i < n) (hc:D.kP.bx[i]? = some cs):cs=[]:=by
 have h1:=List.all_eq_true.1 h cs (mG (i:=i) (by rw [cQ,ah hi];exact hc));simpa using h1
theorem fb {D:Dr} {f:FuncId} {args bF:List DV} {os:List (List DV)} {d:Nat} (n1:Nat) (Wg:adj D n1=true) (gh:Enters X.P f) (hd:(eV X.nt st.sl (some d) && eV X.nt s0 (some d))=true) (uZ:Nat.ble n1 st.bx.length=true)
  (qZ:kZ [] n1 n1 0 os (st.bx.take n1)) (ha:CcL [] n1 n1 0 bF args) {Φ:DV->List (List DV)->List TkE->Prop} (hc:Ev X.P f bF os [] Φ)
  (hk:∀ Hq eO,Φ Hq eO []->eO.length=n1->put2 s0 ⟨st.sl,eO ++ st.bx.drop n1,st.tk⟩ (some d) false [] Hq (goD X D 3000 c r)) (bp:X.still=false:=by exact rfl) (hX:X.bt=[]:=by exact rfl):wF X D c i r f args (some d) s0 st:=by
 refine ⟨gh,fun hl E0 wr hD E a w vs h hv=>(rz n1 0 uZ rfl qZ ha hc bp hX h.rel hv).mono ?_⟩;rintro e w' ⟨v,r',eO,cA,E',rfl,hΦ,h1,h2,cm,hr,hx,hβ,ho⟩;obtain rfl:cA=[]:=List.eq_nil_of_length_eq_zero h2
 have hC:CC E0 D.kP.bx wr w->CC E0 D.kP.bx wr w':=fun hC=>⟨fun j b cs hb cx bo=>by
  have hge:n1<=j:=by
   rcases Nat.lt_or_ge j n1 with h3 | h3
   ·exact (bo (Rb Wg h3 cx)).elim
   ·exact h3
  rw [ho j b hge (h.x.β j b hb)]
  exact hC.o j b cs hb cx bo,fun x v zQ=>cm.env.sub x v (hx.c x v (h.x.c x v zQ))⟩
 refine ⟨v,rfl,fun _=>hC,?_⟩
 have Eg:gB X ⟨D,E0,wr⟩ c E' s0 ⟨st.sl,eO ++ st.bx.drop n1,st.tk⟩ (a.put none v) w':={
  rel:=cm
  x:=by
   refine ⟨fun y v hy=>hx.c y v (h.x.c y v hy),fun j b hb=>hx.β j b (h.x.β j b hb),fun k q hq=>?_⟩;obtain ⟨q1,h1,h2⟩:=h.x.tk k q hq;obtain ⟨q2,h3,h4⟩:=hx.tk k q1 h1
   grind
  β:=by
   obtain ⟨r1,h1⟩:=h.β;exact ⟨r1,by rw [hβ];exact h1⟩
  t0:=fun j x hj=>by
   have h1:=h.t0 j x hj;refine ⟨fun hh=>?_,h1.2⟩;obtain ⟨v,h2,h3⟩:=h1.1 hh;exact ⟨v,h2,Rv.mono (Ci hx) h3⟩
  cc:=fun hc=>hC (h.cc hc) }
 obtain ⟨s1,sj,qL,eJ⟩:=iY Eg hd false [] r' v (fun _ _ p hp=>by cases hp) (fun _=>hr) (fun hb=>by cases hb) (fun hn=>(hn (aX _)).elim) (hk r' eO hΦ h1);exact gK (D:=⟨D,E0,wr⟩) hD 3000 c r _ _ qL hl E' _ w' eJ
end
theorem rX {X:Ctx} {f:FuncId} {args:List DV} {dst:Option Nat} {k:List It} {st:St} (q:TkE) (st':St) (hq:q.new=true) (ha:WeL st.bx.length st.tk.length (st.tk ++ [q]) args args) (h3:st'.tk=st.tk ++ [q]) (h2:WeLL st.bx.length st.tk.length (st.tk ++ [q]) st.bx st'.bx)
  (h:lO st.bx.length st.tk.length (st.tk ++ [q]) st.sl st'.sl) (hn:Nat.ble X.n0 st.bx.length=true) (hm:Nat.ble X.m0 st.tk.length=true) (hk:CallG X f args dst k st'):CallG X f args dst k st:=by
 obtain ⟨k1,k2,k3⟩:=hk;refine ⟨k1,k2,fun E a w vs hR hv=>?_⟩;have hr:=sG (st':=st') hR (kept:=st.tk) (dropped:=[]) (new:=[q]) (b0:=st.bx) (r:=[]) ⟨nL hm,nL hn,by simp,h3,by simpa using hq,by simp,by rw [h3];exact h2,by rw [h3];exact h⟩;exact k3 _ a w vs hr (sF (dropped:=[]) (by rw [hR.tk];simp) hR.env.tl (sU hq) ha hv)
end Dv
end Go.Proofs.YtfdedoiiahbnnaaGreat
set_option maxRecDepth 100000
namespace Go.Proofs.YtfdedoiiahbnnaaGreat
open Go Go.RowKit Dv Go.Proofs.Tryz
abbrev MS (a:List Wd):List DV:=[.sl 2 (cd a) (some 0),.v (.slice none 0 0),.v (.slice none 0 0),.v (.int .i64 0),.v (.int .i64 0),.v (.int .i64 0),.v (.int .i64 0),.v (.int .i64 0),.v (.slice none 0 0),.v (.slice none 0 0),.v (.string ⟨#[]⟩),.v (.int .i64 0)]
abbrev CV:List DV:=[.v (.slice none 0 0),.v (.slice none 0 0),.v (.slice none 0 0),.v (.int .i64 0),.v (.int .i64 0),.v (.int .i64 0),.v (.int .i64 0),.v (.int .i64 0),.v (.slice none 0 0),.v (.slice none 0 0),.v (.string ⟨#[]⟩),.v (.int .i64 0)]
abbrev ln:List DV:=[.loc 0 0]
abbrev Be (a:List Wd):TkE:=⟨a.length,34,2,none⟩
theorem FY (a:List Wd) (w:Wd):Be (a ++ [w])=⟨a.length + 1,34,2,none⟩:=by simp [Be]
theorem Rc (a:List Wd) (w:Wd):MS (a ++ [w]) = .sl 2 (cd a ++ [nD w]) (some 0) :: (MS a).tail:=by simp [MS,cd]
theorem FZ (c:au) (h:av c) (a:List Wd) (ha:a.length<=1099511627776):Ev prog 161 [.loc 3 0,.loc 1 0] [aH c,ln,CV,MS a] [Be a]
  (fun r os tk=>r = .bK []/\os=[aH c.aq,ln,CV,MS (a ++ [c.aK])]/\tk=[Be (a ++ [c.aK])]):=by
 have hn:=ed c h;have hl:(cd a).length=a.length:=aM a;generalize c.aK=W at hn ⊢;generalize c.aq=C1 at hn ⊢;obtain ⟨l,p,d,f1,f2⟩:=c;obtain ⟨l1,p1,d1,f11,f21⟩:=C1;obtain ⟨ws,wa⟩:=W;refine eG 9 [] func161 rfl ntmps161 rfl fun _ _ _ _=>?_;refine cr [0] (fun i=>Nat.beq i 7) mo (by decide +kernel) ?_;refine fb 1 rfl nZ rfl rfl bB bB hn (fun r eO hΦ _=>?_);obtain ⟨rfl,rfl,_⟩:=hΦ;refine ⟨hl,⟨by simp [maxLen,hl];omega,by simp [hl];omega⟩,?_⟩;rw [FY,Rc];exact ⟨.bK [],[aH ⟨l1,p1,d1,f11,f21⟩,ln,CV,.sl 2 (cd a ++ [nD ⟨ws,wa⟩]) (some 0) :: (MS a).tail],bB,bB,rfl,rfl,rfl⟩
abbrev Uz (k a:Int):List DV:=[.v (.int .i64 k),.v (.int .i64 a),.v (.int .i64 0),.v (.int .i64 0),.v (.int .i64 0),.v (.slice none 0 0),.v (.slice none 0 0),.v (.string ⟨#[]⟩),.v (.int .i64 0)]
abbrev oE:ByteArray:=⟨#[98,111,111,108]⟩
theorem MT (c:au) (k a:Int):Ev prog 249 [gT,.loc 1 0,.v (.string oE)] [aH c,Uz k a] [] (fun r os tk=>r = .v (.bool true)/\os=[aH c,Uz 1 a]/\tk=[]):=by
 obtain ⟨l,p,d,f1,f2⟩:=c;refine eG 142 [.tmp 6] func249 rfl ntmps249 rfl fun _ _ _ _=>?_;exact ⟨.v (.bool true),[aH _,Uz 1 a],bB,bB,rfl,rfl,rfl⟩
theorem pe {c:au} (h:av c) (hd:c.d < 24):av { c with d:=c.d + 1 }:=⟨h.lt,h.nx,h.len,hd⟩
theorem yr {c:au} (h:av c) (hd:c.d < 24):Ev prog 248 [.loc 0 0] [aH c] [] (jX (.v (.bool true)) { c with d:=c.d + 1 }):=by
 have he:=yn c h;have e1:c.enter=true:=by simp [au.enter];omega
 have e2:c.qC={ c with d:=c.d + 1 }:=by rw [au.qC,ag (by omega)]
 rw [e1,e2] at he;exact he
theorem F0 {c:au} (h:av c) (hd:c.d < 24):Ev prog 225 [.loc 0 0] [aH { c with d:=c.d + 1 }] [] (jX (.bK []) c):=nk _ (pe h hd)
theorem Re {c:au} (h:av c) (hf:c.f.1≠0) (k:Int):Ev prog 246 [.loc 0 0,.v (.int .i64 k)] [aH c] [] (jX (.bK [.agg (vn ⟨0,0,0,aZ,0⟩),.v (.bool false)]) c):=by
 have ht:=oC c h k;have e1:c.uG k=⟨0,0,0,aZ,0⟩:=by rw [au.uG,oD hf,ag (by simp)]
 have e2:c.SE k=c:=by rw [au.SE,oD hf,ag (by simp)]
 rw [e1,e2,oD hf] at ht;exact ht
theorem MU {c:au} (h:av c) (hf:c.f.1≠0):Ev prog 245 [gT] [aH c] [] (jX (.bK []) c):=by
 have hw:=gO c h;rw [gP hf] at hw;exact hw
theorem Rf (c:au) (h:av c) (hf:c.f.1≠0) (hd:c.d < 24):Ev prog 166 [gT] [aH c] [] (jX (.agg (Uz 0 c.f.2)) c):=by
 have hp:=dL c h;rw [yo hf] at hp;have he:=yr h hd;have ht:=Re (pe h hd) hf 1;have hw:=MU (pe h hd) hf;have Ig:=F0 h hd;obtain ⟨l,p,d,f1,f2⟩:=c;refine eG 42 [.cell 2 36] func166 rfl ntmps166 rfl fun _ _ _ _=>?_;refine ak 1 iw hp ?_;refine ak 1 Et he ?_;refine ak 1 uk ht ?_;refine ak 1 Ac hw ?_;refine ak 1 Er Ig ?_;exact ⟨.agg (Uz 0 f2),[aH _],bB,bB,rfl,rfl,rfl⟩
theorem UA {c:au} (h:av c) {t:dD} (hp:c.aF=t) (hk:t.k≠0):Ev prog 246 [.loc 0 0,.v (.int .i64 t.k)] [aH c] [] (jX (.bK [.agg (vn t),.v (.bool true)]) { c with p:=c.p + 1 }):=by
 have ht:=oC c h t.k;have e0:c.tk t.k=true:=by rw [au.tk,hp];simp [hk]
 have e1:c.uG t.k=t:=by rw [au.uG,e0,ah rfl,hp]
 have e2:c.SE t.k={ c with p:=c.p + 1 }:=by rw [au.SE,e0,ah rfl,au.step,hp,ag hk]
 rw [e0,e1,e2] at ht;exact ht
theorem MV (c:au) (h:av c) (a e n:Int) (hp:c.aF=⟨1,a,e,oE,n⟩) (hd:c.d < 24):Ev prog 166 [gT] [aH c] [] (jX (.agg (Uz 1 a)) { c with p:=c.p + 1 }):=by
 have G4:=dL c h;rw [hp] at G4;have he:=yr h hd;have ht:=UA (pe h hd) (show au.aF { c with d:=c.d + 1 }=⟨1,a,e,oE,n⟩ from hp) (by simp);have hb:=MT { c with d:=c.d + 1,p:=c.p + 1 } 0 a;have hs:av c.step:=h.step;have e2:c.step={ c with p:=c.p + 1 }:=by rw [au.step,hp,ag (by simp)]
 rw [e2] at hs;have Ig:=F0 hs hd;obtain ⟨l,p,d,f1,f2⟩:=c;refine eG 42 [.cell 2 36] func166 rfl ntmps166 rfl fun _ _ _ _=>?_;refine ak 1 iw G4 ?_;refine ak 1 Et he ?_;refine ak 1 uk ht ?_;refine CallG.Ik 1 3 rfl rfl rfl rfl ?_;refine ak 2 VM hb ?_;refine ak 1 Er Ig ?_;exact ⟨.agg (Uz 1 a),[aH _],bB,bB,rfl,rfl,rfl⟩
abbrev b9:ByteArray:=⟨#[108,101,118,101,108,115]⟩
abbrev lr:ByteArray:=⟨#[111,114,100,101,114]⟩
abbrev oF:ByteArray:=⟨#[116,121,112,101]⟩
abbrev fc:ByteArray:=⟨#[114,111,111,116]⟩
abbrev bI:ByteArray:=⟨#[123]⟩
abbrev bl:ByteArray:=⟨#[125]⟩
def fg (c:au) (a:List Wd):au × List Wd:=(c.aq,a ++ [c.aK])
def ys (c:au) (a:List Wd):Prop:=a.length<=c.p∨(c.f.1≠0/\a.length<=c.p + 1)
theorem Bf {c:au} {k:Int} (h:c.tk k=true):¬ c.aF.k=0:=by
 simp only [au.tk,bg,Bool.not_eq_true',decide_eq_false_iff_not] at h;exact h.1
theorem iq {c:au}:c.wrong.f.1≠0:=by
 unfold au.wrong au.fail au.cK;by_cases h0:c.f.1=0
 ·by_cases h1:c.aF.k=0
  ·rw [ah ⟨h0,by rw [ah h1];decide⟩,ah h1];simp
  ·rw [ah ⟨h0,by rw [ag h1];decide⟩,ag h1];simp
 ·rw [ag (fun g=>h0 g.1)];exact h0
theorem rY (c:au):c.wrong.l=c.l/\c.wrong.p=c.p/\c.wrong.d=c.d:=by
 unfold au.wrong au.fail au.cK
 repeat' split
 all_goals exact ⟨rfl,rfl,rfl⟩
theorem pf (c:au) (s:ByteArray):c.p<=(c.ai s).p:=by
 unfold au.ai au.step;split
 ·split
  ·exact bn _
  ·exact Nat.le_succ _
 ·rw [(rY c).2.1];exact bn _
theorem Ku (c:au) (a:List Wd) (h:av c) (hi:ys c a) (hf:c.f.1=0):yq (fun _=>ln) (fun _=>CV) MS Be fg ys 161 3 1 c a where
 ok:=h.aq
 l:=by
  show c.aq.l=c.l;unfold au.aq au.step;split
  ·split<;>rfl
  ·exact (rY c).1
 p:=by
  show c.p<=c.aq.p;unfold au.aq au.step;split
  ·split
   ·exact bn _
   ·exact Nat.le_succ _
  ·rw [(rY c).2.1];exact bn _
 inv:=by
  have ha:a.length<=c.p:=by
   rcases hi with h1 | h1
   ·exact h1
   ·exact absurd hf h1.1
  show ys c.aq (a ++ [c.aK]);unfold ys au.aq;rw [List.length_append]
  cases ht:c.tk 1 with
  | true=>
   rw [ah rfl,au.step,ag (Bf ht)];exact .inl (Nat.succ_le_succ ha)
  | false=>
   rw [ag (by simp)];exact .inr ⟨iq,by rw [(rY c).2.1];exact Nat.succ_le_succ ha⟩
 ev:=FZ c h a (by
  have h1:=h.lt;have h2:=h.len
  rcases hi with h3 | h3<;>omega)
theorem F1 (c:au) (a:List Wd) (_:av c) (hi:ys c a):ys (c.ai ⟨#[44]⟩) a:=by
 rcases hi with h1 | ⟨h1,h2⟩
 ·exact .inl (Nat.le_trans h1 (pf c _))
 ·rw [cM h1];exact .inr ⟨h1,h2⟩
theorem uJ (N:Nat) (c:au) (h:av c) (hN:c.l.length<=c.p + N) (hf:ys c []):Ev prog 160 [gT,.v (.string bl),.v (.bool false),.fn 161 [] [.loc 3 0,.loc 1 0]] [aH c,ln,CV,MS []] [Be []]
  (fun r os tk=>r = .bK []/\os=[aH (listF fg bl N c []).1,ln,CV,MS (listF fg bl N c []).2]/\tk=[Be (listF fg bl N c []).2]):=
 qE (A:=fun _=>ln) (B:=fun _=>CV) (C:=MS) (T:=Be) (f:=fg) (Inv:=ys) (by decide) (by decide) (fun _=>rfl) (fun _=>rfl) (fun _=>rfl) aa6 Ku F1 bl N c [] h hf hN
abbrev Kv (k a:Int):Ty:=.mk ⟨k,a,0,0,0,[],⟨aZ,0⟩⟩ .nil
abbrev Y1 (c:au) (a:List Wd):St:=⟨[bq 1 1,bq 2 2,bq 3 3],[aH c,ln,CV,MS a],[Be a]⟩
theorem yt (c0:au) (h0:av c0) (N:Nat) (hN:(c0.kw b9).l.length<=(c0.kw b9).p + N) (c3:au) (a:List Wd) (h3:av c3) (hl:listF fg bl N ((c0.kw b9).ai bI) []=(c3,a)) (ho:c3.is 1 lr=false) (ht:c3.is 1 oF=false) (k dA:Int) (c5:au)
  (hk:Ev prog 166 [gT] [aH (c3.kw fc)] [] (jX (.agg (Uz k dA)) c5)):Ev prog 86 [gT] [aH c0] [] (jX (.agg (iG ⟨a,[],[],Kv k dA⟩)) c5):=by
 have hkw:=jO c0 h0 b9;have h1:=h0.kw b9;have hnd:=bV _ h1 bI
 have hls:=uJ N _ (h1.ai bI) (by
  rw [au.Ra];have:=pf (c0.kw b9) bI
  omega) (.inl (Nat.zero_le _))
 rw [hl] at hls;have zA:=cL c3 h3 lr;have lL:=cL c3 h3 oF;rw [ho,au.o9,ho,ag (by simp)] at zA;rw [ht,au.o9,ht,ag (by simp)] at lL;have hkr:=jO c3 h3 fc;simp only at hls;generalize c3.kw fc=c4 at hkr hk;generalize (c0.kw b9).ai bI=c2 at hnd hls;generalize (c0.kw b9).is 4 bI=B1 at hnd;generalize c0.kw b9=c1 at hkw hnd;refine eG 46 [.cell 2 38] func86 rfl ntmps86 rfl fun _ _ _ _=>?_;refine ak 1 JL hkw ?_;refine ak 1 fX hnd ?_;refine rX ⟨0,34,2,none⟩ (Y1 c2 []) rfl ?_ rfl ?_ ?_ rfl rfl ?_
 ·repeat' (first | exact rfl | exact az rfl | refine ⟨_,_,rfl,?_,?_⟩)
 ·repeat' (first | exact rfl | exact az rfl | exact dj (bn _) rfl | refine ⟨_,_,rfl,?_,?_⟩)
 ·repeat' (first | exact trivial | exact az rfl | refine ⟨⟨_,rfl,?_⟩,?_⟩)
 refine fw 4 1 Em rfl rfl rfl bB bB hls (fun r eO cA hΦ _ _=>?_);obtain ⟨rfl,rfl,rfl⟩:=hΦ;refine ak 1 gL zA ?_;refine lI (fun j st=>st=Y1 c3 a/\j=0) ⟨rfl,rfl⟩ (kD 4 JB vb) ?_;rintro j st ⟨rfl,rfl⟩;refine ak 1 gL lL ?_;refine ak 1 JL hkr ?_;refine ak 1 wN hk ?_;exact ⟨.agg (iG _),[aH c5],bB,bB,rfl,rfl,rfl⟩
end Go.Proofs.YtfdedoiiahbnnaaGreat
set_option maxRecDepth 100000
namespace Go.Proofs.YtfdedoiiahbnnaaGreat
open Go Go.RowKit Dv Go.Proofs.Tryz
abbrev Rg:ByteArray:=⟨#[64]⟩
abbrev F2:ByteArray:=⟨#[35]⟩
abbrev tI:ByteArray:=⟨#[126]⟩
abbrev aT:ByteArray:=⟨#[40]⟩
abbrev bE:ByteArray:=⟨#[41]⟩
abbrev cX:ByteArray:=⟨#[44]⟩
abbrev cG:ByteArray:=⟨#[58]⟩
abbrev F3:ByteArray:=⟨#[43]⟩
abbrev fh:ByteArray:=⟨#[60]⟩
abbrev sq:ByteArray:=⟨#[61]⟩
abbrev jf:ByteArray:=⟨#[46,46]⟩
abbrev ir:ByteArray:=⟨#[102,108,111,111,114]⟩
abbrev jv:ByteArray:=⟨#[102,105,114,115,116]⟩
abbrev lu:ByteArray:=⟨#[99,111,117,110,116]⟩
abbrev IE:ByteArray:=⟨#[105,110,116]⟩
abbrev yu:ByteArray:=⟨#[116,101,120,116]⟩
abbrev yv:ByteArray:=⟨#[101,110,117,109]⟩
abbrev yw:ByteArray:=⟨#[108,105,115,116]⟩
abbrev IF:ByteArray:=⟨#[111,112,116]⟩
abbrev Rh:ByteArray:=⟨#[114,101,99,111,114,100]⟩
abbrev yx:ByteArray:=⟨#[117,110,105,111,110]⟩
abbrev IG:ByteArray:=⟨#[114,101,102]⟩
abbrev RS:=List dD × Ft
namespace RS
def hd (q:RS):dD:=q.1.headD (gR 0)
def on (q:RS):RS:=(q.1.tail,q.2)
def wr (q:RS):RS:=if q.2.1=0 then (q.1,(if q.hd.k=0 then 5 else 4,q.hd.a)) else q
def is (q:RS) (k:Int) (s:ByteArray):Bool:=decide (q.hd.k=k) && decide (q.hd.s=s)
def ai (q:RS) (k:Int) (s:ByteArray):RS:=if q.2.1=0 then (if q.is k s=true then q.on else q.wr) else q
def qF (q:RS) (s:ByteArray):Bool:=decide (q.2.1=0) && q.is 4 s
def may (q:RS) (s:ByteArray):RS:=if q.qF s=true then q.on else q
def UB (q:RS) (k:Int):Bool:=decide (q.2.1=0) && decide (q.hd.k=k)
def zG (q:RS) (k:Int):dD:=if q.UB k=true then q.hd else gR 0
def any (q:RS) (k:Int):RS:=if q.UB k=true then q.on else q.wr
def name (q:RS):Wd:=⟨(q.zG 1).s,(q.zG 1).a⟩
def fL (q:RS):RS:=q.any 1
end RS
def dRS (q:RS):List DV:=[.sl 5 (gp q.1) none,.v (.int .i64 q.2.1),.v (.int .i64 q.2.2)]
structure Kw (q:RS):Prop where
 ne:q.2.1=0->q.1 ≠ []
 nx:∀ (i:Nat) t,q.1[i]? = some t->t.k≠0->i + 1 < q.1.length
 len:q.1.length<=274877906944
theorem Kw.cons {q:RS} (h:Kw q) (h0:q.2.1=0):∃ t r,q.1=t :: r/\q.hd=t:=by
 have:=h.ne h0;unfold RS.hd
 cases hq:q.1 with
 | nil=>exact absurd hq this
 | cons t r=>exact ⟨t,r,rfl,rfl⟩
theorem Kw.on {q:RS} (h:Kw q) (h0:q.2.1=0) (hk:q.hd.k≠0):Kw q.on:=by
 obtain ⟨t,r,h1,h2⟩:=h.cons h0;have hn:=h.nx;have hl:=h.len;obtain ⟨l,f⟩:=q;simp only at h1 hn hl;subst h1;rw [h2] at hk;have h3:=hn 0 t rfl hk;simp only [List.length_cons] at h3 hl;refine ⟨fun _ he=>?_,fun i t' hi gU=>?_,?_⟩
 ·simp only [RS.on,List.tail_cons] at he;rw [he] at h3;simp at h3
 ·have:=hn (i + 1) t' (by simpa [RS.on] using hi) gU;simp only [List.length_cons] at this;show i + 1 < r.length;omega
 ·show r.length<=_;omega
theorem Kw.ff {q:RS} (h:Kw q) {e a:Int} (he:e≠0):Kw (q.1,(e,a)):=⟨fun h0=>absurd h0 he,h.nx,h.len⟩
def bigN:Nat:=274877906945
theorem eS:bigN=274877906945:=rfl
attribute [irreducible] bigN
def rLab:Nat->List Wd->RS->List Wd × RS
 | 0,l,q=>(l,q)
 | n + 1,l,q=>if q.fL.qF F3=true then rLab n (l ++ [q.name]) q.fL.on else (l ++ [q.name],q.fL)
def yy (q:RS):List Wd × RS:=rLab bigN [] q
def zH (q:RS):Int × RS:=(((q.ai 4 aT).zG 2).n,((q.ai 4 aT).any 2).ai 4 bE)
structure Cs where
 k:Int
 n:Int
 a:Int
 l:List Wd
def dCs (c:Cs):List DV:=[.v (.int .i64 c.k),.v (.int .i64 c.n),.v (.int .i64 c.a),.sl 2 (cd c.l) none]
def yz (k n a:Int) (q:RS):Cs × RS:=if q.qF Rg=true then (⟨k,n,a,(yy q.on).1⟩,(yy q.on).2) else (⟨k,n,a,[]⟩,q)
def jP (q:RS):Cs × RS:=
 if q.2.1=0 then
  (if q.hd.k=1 then
   (if q.hd.s=ir then yz 1 (zH q.on).1 q.hd.a (zH q.on).2
    else if q.hd.s=jv then yz 2 (zH q.on).1 q.hd.a (zH q.on).2
    else if q.hd.s=lu then yz 3 0 q.hd.a q.on
    else (⟨0,0,q.hd.a,[]⟩,(q.1,(9,q.hd.a))))
   else (⟨0,0,q.hd.a,[]⟩,q.wr))
 else (⟨0,0,0,[]⟩,q)
def UC (x:Ph) (q:RS):Ph × RS:=if q.qF Rg=true then ({ x with label:=(yy q.on).1 },(yy q.on).2) else (x,q)
def WC (x:Ph) (q:RS):Ph × RS:=if q.qF F2=true then ({ x with wide:=(q.on.zG 2).n },q.on.any 2) else (x,q)
def Z7 (x:Ph) (q:RS):Ph × RS:=if q.qF tI=true then ({ x with ck:=(jP q.on).1.k,cn:=(jP q.on).1.n,ca:=(jP q.on).1.a,cl:=(jP q.on).1.l },(jP q.on).2) else (x,q)
def oG (x:Ph) (q:RS):Ph × RS:=Z7 (WC (UC x q).1 (UC x q).2).1 (WC (UC x q).1 (UC x q).2).2
def kX (w:Wd) (b:Bool):Ph:=⟨w,b,[],0,0,0,0,[]⟩
def rLst {β:Type} (g:List β->RS->List β × RS) (e:ByteArray):Nat->List β->RS->List β × RS
 | 0,l,q=>(l,q)
 | n + 1,l,q=>if q.2.1=0 then (if (g l q).2.qF e=true then ((g l q).1,(g l q).2.on) else rLst g e n (g l q).1 ((g l q).2.ai 4 cX)) else ([],q)
section
variable (K:RS->Ty × RS) (tag:Bool)
def Ri (q:RS):(Ph × Ty) × RS:=(((oG (kX q.name false) (K (q.fL.ai 4 cG)).2).1,(K (q.fL.ai 4 cG)).1),(oG (kX q.name false) (K (q.fL.ai 4 cG)).2).2)
def Y2 (q:RS):(Ph × Ty) × RS:=
 if q.fL.qF aT=true then (((oG (kX q.name false) ((K q.fL.on).2.ai 4 bE)).1,(K q.fL.on).1),(oG (kX q.name false) ((K q.fL.on).2.ai 4 bE)).2)
 else ((kX q.name true,bX),q.fL)
def Kx (q:RS):(Ph × Ty) × RS:=if tag=true then Y2 K q else Ri K q
def prG (l:List (Ph × Ty)) (q:RS):List (Ph × Ty) × RS:=(l ++ [(Kx K tag q).1],(Kx K tag q).2)
def UD:Nat->List (Ph × Ty)->RS->List (Ph × Ty) × RS:=rLst (prG K tag) bl
def tJ (q:RS):List (Ph × Ty) × RS:=
 if ((q.ai 4 bI).qF bl && !tag)=true then ([],(q.ai 4 bI).on) else UD K tag bigN [] (q.ai 4 bI)
end
def nmG (l:List Wd) (q:RS):List Wd × RS:=(l ++ [q.name],q.fL)
def CW (e:ByteArray):Nat->List Wd->RS->List Wd × RS:=rLst nmG e
def mkPts:List (Ph × Ty)->Pts
 | []=>.nil
 | p :: r=>.cons p.1 p.2 (mkPts r)
theorem CY:∀ l:List (Ph × Ty),eX (mkPts l)=l.map (fun p=>lR p.1 (dC p.2))
 | []=>rfl
 | p :: r=>by rw [mkPts,eX,CY r,List.map_cons]
def lx (k a:Int):Hd:=⟨k,a,0,0,0,[],⟨aZ,0⟩⟩
def NZ (k a:Int):Ty:=.mk (lx k a) .nil
def F4 (K:RS->Ty × RS) (w:ByteArray) (a:Int) (p:RS):Ty × RS:=
 if w=oE then (NZ 1 a,p)
 else if w=IE then (.mk { lx 2 a with lo:=((p.ai 4 aT).zG 2).n,hi:=((((p.ai 4 aT).any 2).ai 4 jf).zG 2).n } .nil,((((p.ai 4 aT).any 2).ai 4 jf).any 2).ai 4 bE)
 else if w=yu then (.mk { lx 3 a with most:=(zH p).1 } .nil,(zH p).2)
 else if w=yv then (.mk { lx 4 a with af:=(CW bE bigN [] (p.ai 4 aT)).1 } .nil,(CW bE bigN [] (p.ai 4 aT)).2)
 else if w=yw then (.mk { lx 5 a with most:=(((K (p.ai 4 aT)).2.ai 4 cX).zG 2).n } (.cons cp (K (p.ai 4 aT)).1 .nil),((((K (p.ai 4 aT)).2.ai 4 cX).any 2).ai 4 bE))
 else if w=IF then (.mk (lx 6 a) (.cons cp (K (p.ai 4 aT)).1 .nil),(K (p.ai 4 aT)).2.ai 4 bE)
 else if w=Rh then (.mk (lx 7 a) (mkPts (tJ K false p).1),(tJ K false p).2)
 else if w=yx then (.mk (lx 8 a) (mkPts (tJ K true p).1),(tJ K true p).2)
 else if w=IG then (.mk { lx 9 a with name:=(p.ai 4 aT).name } .nil,(p.ai 4 aT).fL.ai 4 bE)
 else (NZ 0 a,(p.1,(9,a)))
def rKind:Nat->RS->Ty × RS
 | 0,q=>if q.2.1=0 then (NZ 0 q.hd.a,(q.1,(6,q.hd.a))) else (bX,q)
 | n + 1,q=>if q.2.1=0 then (if q.hd.k=1 then F4 (rKind n) q.hd.s q.hd.a q.on else (NZ 0 q.hd.a,q.wr)) else (bX,q)
def rChain:Nat->List (Wd × Wd)->Wd->RS->List (Wd × Wd) × RS
 | 0,l,_,q=>(l,q)
 | n + 1,l,lo,q=>if q.fL.qF fh=true then rChain n (l ++ [(lo,q.name)]) q.name q.fL.on else (l ++ [(lo,q.name)],q.fL)
def vJ (l:List (Wd × Wd)) (q:RS):List (Wd × Wd) × RS:=rChain bigN l q.name (q.fL.ai 4 fh)
def UE:Nat->List (Wd × Wd)->RS->List (Wd × Wd) × RS:=rLst vJ bl
def IH (q:RS):List (Wd × Wd) × RS:=if q.qF bl=true then ([],q.on) else UE bigN [] q
def RS.WD (q:RS) (s:ByteArray):Bool:=decide (q.2.1=0) && q.is 1 s
def rTypes:Nat->List (Wd × Ty)->RS->List (Wd × Ty) × RS
 | 0,l,q=>(l,q)
 | n + 1,l,q=>if q.WD oF=true then rTypes n (l ++ [(q.on.name,(rKind 24 (q.on.fL.ai 4 sq)).1)]) (rKind 24 (q.on.fL.ai 4 sq)).2 else (l,q)
def II (q:RS):List Wd × RS:=CW bl bigN [] ((q.ai 1 b9).ai 4 bI)
def IJ (q:RS):List (Wd × Wd) × RS:=if q.WD lr=true then IH (q.on.ai 4 bI) else ([],q)
def UF (q:RS):List (Wd × Ty) × RS:=rTypes bigN [] q
def Y3 (q:RS):Ty × RS:=rKind 24 (q.ai 1 fc)
def UG (q:RS):Sch × RS:=(⟨(II q).1,(IJ (II q).2).1,(UF (IJ (II q).2).2).1,(Y3 (UF (IJ (II q).2).2).2).1⟩,(Y3 (UF (IJ (II q).2).2).2).2)
section
variable {K:RS->Ty × RS} (hK:∀ q,Kw q->Kw (K q).2)
include hK
end
end Go.Proofs.YtfdedoiiahbnnaaGreat
set_option maxRecDepth 100000
namespace Go.Proofs.YtfdedoiiahbnnaaGreat
open Go Go.RowKit Dv Go.Proofs.Tryz
def au.iu (c:au):Int:=(c.uG 2).n
def au.bP (c:au):au:=if c.tk 2 then c.step else c.wrong
def pLab:Nat->List Wd->au->List Wd × au
 | 0,l,c=>(l,c)
 | n + 1,l,c=>if c.aq.is 4 F3=true then pLab n (l ++ [c.aK]) c.aq.step else (l ++ [c.aK],c.aq)
def fp (c:au):List Wd × au:=pLab bigN [] c
def jQ (c:au):Int × au:=((c.ai aT).iu,(c.ai aT).bP.ai bE)
def fM (k n a:Int) (c:au):Cs × au:=if c.is 4 Rg=true then (⟨k,n,a,(fp c.step).1⟩,(fp c.step).2) else (⟨k,n,a,[]⟩,c)
def ch (c:au):Cs × au:=
 if c.is 1 ir=true then fM 1 (jQ c.step).1 c.aF.a (jQ c.step).2
 else if c.is 1 jv=true then fM 2 (jQ c.step).1 c.aF.a (jQ c.step).2
 else if c.is 1 lu=true then fM 3 0 c.aF.a c.step
 else if c.aF.k=1 then fM 0 0 c.aF.a (c.fail 9)
 else fM 0 0 c.aF.a c.wrong
def zp (x:Ph) (c:au):Ph × au:=if c.is 4 Rg=true then ({ x with label:=(fp c.step).1 },(fp c.step).2) else (x,c)
def CZ (x:Ph) (c:au):Ph × au:=if c.is 4 F2=true then ({ x with wide:=c.step.iu },c.step.bP) else (x,c)
def MW (x:Ph) (c:au):Ph × au:=if c.is 4 tI=true then ({ x with ck:=(ch c.step).1.k,cn:=(ch c.step).1.n,ca:=(ch c.step).1.a,cl:=(ch c.step).1.l },(ch c.step).2) else (x,c)
def bT (x:Ph) (c:au):Ph × au:=MW (CZ (zp x c).1 (zp x c).2).1 (CZ (zp x c).1 (zp x c).2).2
section
variable (K:au->Ty × au) (tag:Bool)
def ky (c:au):(Ph × Ty) × au:=(((bT (kX c.aK false) (K (c.aq.ai cG)).2).1,(K (c.aq.ai cG)).1),(bT (kX c.aK false) (K (c.aq.ai cG)).2).2)
def jR (c:au):(Ph × Ty) × au:=
 if c.aq.is 4 aT=true then (((bT (kX c.aK false) ((K c.aq.step).2.ai bE)).1,(K c.aq.step).1),(bT (kX c.aK false) ((K c.aq.step).2.ai bE)).2)
 else ((kX c.aK true,bX),c.aq)
def de (c:au):(Ph × Ty) × au:=if tag=true then jR K c else ky K c
def mh (c:au) (l:List (Ph × Ty)):au × List (Ph × Ty):=((de K tag c).2,l ++ [(de K tag c).1])
def cI (c:au):List (Ph × Ty) × au:=
 if (!tag && (c.ai bI).is 4 bl)=true then ([],(c.ai bI).step) else ((listF (mh K tag) bl bigN (c.ai bI) []).2,(listF (mh K tag) bl bigN (c.ai bI) []).1)
end
def cj (K:au->Ty × au) (w:ByteArray) (a:Int) (c:au):Bool × Ty × au:=
 if w=oE then (true,NZ 1 a,c)
 else if w=IE then (true,.mk { lx 2 a with lo:=(c.ai aT).iu,hi:=((c.ai aT).bP.ai jf).iu } .nil,((c.ai aT).bP.ai jf).bP.ai bE)
 else if w=yu then (true,.mk { lx 3 a with most:=(jQ c).1 } .nil,(jQ c).2)
 else if w=yv then (true,.mk { lx 4 a with af:=(listF fg bE bigN (c.ai aT) []).2 } .nil,(listF fg bE bigN (c.ai aT) []).1)
 else if w=yw then (true,.mk { lx 5 a with most:=((K (c.ai aT)).2.ai cX).iu } (.cons cp (K (c.ai aT)).1 .nil),((K (c.ai aT)).2.ai cX).bP.ai bE)
 else if w=IF then (true,.mk (lx 6 a) (.cons cp (K (c.ai aT)).1 .nil),(K (c.ai aT)).2.ai bE)
 else if w=Rh then (true,.mk (lx 7 a) (mkPts (cI K false c).1),(cI K false c).2)
 else if w=yx then (true,.mk (lx 8 a) (mkPts (cI K true c).1),(cI K true c).2)
 else if w=IG then (true,.mk { lx 9 a with name:=(c.ai aT).aK } .nil,(c.ai aT).aq.ai bE)
 else (false,NZ 0 a,c)
def au.deep (c:au):au:={ c with d:=c.d + 1 }
def pKind:Nat->au->Ty × au
 | 0,c=>(NZ 0 c.aF.a,c.fail 6)
 | n + 1,c=>if c.deep.tk 1=true then (if (cj (pKind n) c.deep.aF.s c.aF.a c.deep.step).1=true then ((cj (pKind n) c.deep.aF.s c.aF.a c.deep.step).2.1,(cj (pKind n) c.deep.aF.s c.aF.a c.deep.step).2.2.leave) else ((cj (pKind n) c.deep.aF.s c.aF.a c.deep.step).2.1,((cj (pKind n) c.deep.aF.s c.aF.a c.deep.step).2.2.cK 9 c.deep.aF.a).leave)) else (NZ 0 c.aF.a,c.deep.wrong.leave)
def pChain:Nat->List (Wd × Wd)->Wd->au->List (Wd × Wd) × au
 | 0,l,_,c=>(l,c)
 | n + 1,l,lo,c=>if c.aq.is 4 fh=true then pChain n (l ++ [(lo,c.aK)]) c.aK c.aq.step else (l ++ [(lo,c.aK)],c.aq)
def dc (c:au):List (Wd × Wd) × au:=pChain bigN [] c.aK (c.aq.ai fh)
def mi (c:au) (l:List (Wd × Wd)):au × List (Wd × Wd):=((dc c).2,l ++ (dc c).1)
def gf (c:au):List (Wd × Wd) × au:=if c.is 4 bl=true then ([],c.step) else ((listF mi bl bigN c []).2,(listF mi bl bigN c []).1)
def pTypes:Nat->List (Wd × Ty)->au->List (Wd × Ty) × au
 | 0,l,c=>(l,c)
 | n + 1,l,c=>if c.is 1 oF=true then pTypes n (l ++ [(c.step.aK,(pKind 24 (c.step.aq.ai sq)).1)]) (pKind 24 (c.step.aq.ai sq)).2 else (l,c)
def iQ (c:au):List Wd × au:=((listF fg bl bigN ((c.kw b9).ai bI) []).2,(listF fg bl bigN ((c.kw b9).ai bI) []).1)
def mj (c:au):List (Wd × Wd) × au:=if c.is 1 lr=true then gf (c.step.ai bI) else ([],c)
def tK (c:au):List (Wd × Ty) × au:=pTypes bigN [] c
def MX (c:au):Ty × au:=pKind 24 (c.kw fc)
def eT (c:au):Sch × au:=(⟨(iQ c).1,(mj (iQ c).2).1,(tK (mj (iQ c).2).2).1,(MX (tK (mj (iQ c).2).2).2).1⟩,(MX (tK (mj (iQ c).2).2).2).2)
structure Sm (c:au) (q:RS):Prop where
 ok:av c
 rok:Kw q
 f:q.2=c.f
 l:c.f.1=0->q.1=c.l.drop c.p
namespace Sm
variable {c:au} {q:RS} (h:Sm c q)
include h
theorem hd (h0:c.f.1=0):q.hd=c.aF:=by
 rw [RS.hd,au.aF,ah h0,h.l h0,List.headD_eq_head?_getD,List.head?_drop]
theorem is (h0:c.f.1=0) (k:Int) (s:ByteArray):c.is k s=q.is k s:=by rw [au.is,RS.is,h.hd h0]
theorem may (s:ByteArray):q.qF s=c.is 4 s:=by
 rw [RS.qF,h.f];by_cases h0:c.f.1=0
 ·rw [decide_eq_true h0,h.is h0,Bool.true_and]
 ·rw [decide_eq_false h0,eQ h0 (by decide),Bool.false_and]
theorem WD (s:ByteArray):q.WD s=c.is 1 s:=by
 rw [RS.WD,h.f];by_cases h0:c.f.1=0
 ·rw [decide_eq_true h0,h.is h0,Bool.true_and]
 ·rw [decide_eq_false h0,eQ h0 (by decide),Bool.false_and]
theorem tk {k:Int} (hk:k≠0):q.UB k=c.tk k:=by
 rw [RS.UB,h.f];by_cases h0:c.f.1=0
 ·rw [decide_eq_true h0,Bool.true_and,h.hd h0,au.tk]
  grind
 ·rw [decide_eq_false h0,oD h0,Bool.false_and]
omit h in
theorem rZ {k:Int} (ht:c.tk k=true):c.f.1=0:=Classical.byContradiction fun h0=>by rw [oD h0] at ht;cases ht
omit h in
theorem dE {k:Int} (hk:k≠0) {s:ByteArray} (ht:c.is k s=true):c.f.1=0:=Classical.byContradiction fun h0=>by rw [eQ h0 hk] at ht;cases ht
theorem uG {k:Int} (hk:k≠0):q.zG k=c.uG k:=by
 rw [RS.zG,au.uG,h.tk hk];by_cases ht:c.tk k=true
 ·rw [ah ht,ah ht,h.hd (Sm.rZ ht)]
 ·rw [ag ht,ag ht];rfl
theorem aK:q.name=c.aK:=by rw [RS.name,au.aK,h.uG (by decide)]
theorem step (h0:c.f.1=0) (hk:c.aF.k≠0):Sm c.step q.on:=by
 have e:c.step={ c with p:=c.p + 1 }:=by rw [au.step,ag hk]
 refine ⟨h.ok.step,h.rok.on (by rw [h.f];exact h0) (by rw [h.hd h0];exact hk),?_,fun _=>?_⟩
 ·rw [e];exact h.f
 ·rw [e];show q.1.tail=c.l.drop (c.p + 1);rw [h.l h0,List.tail_drop]
theorem jC {k:Int} (hk:k≠0) {s:ByteArray} (hi:c.is k s=true):Sm c.step q.on:=by
 have h1:c.aF.k=k:=by
  simp only [au.is,bg,decide_eq_true_eq] at hi;exact hi.1
 exact h.step (Sm.dE hk hi) (by rw [h1];exact hk)
theorem cK {e a:Int} (he:e≠0) (h0:c.f.1=0):Sm (c.cK e a) (q.1,(e,a)):=by
 have e1:c.cK e a={ c with f:=(e,a) }:=by rw [au.cK,ah ⟨h0,he⟩]
 refine ⟨h.ok.cK _ _,h.rok.ff he,?_,fun h1=>?_⟩
 all_goals grind
theorem fail {e:Int} (he:e≠0) (h0:c.f.1=0):Sm (c.fail e) (q.1,(e,q.hd.a)):=by
 rw [h.hd h0];exact h.cK he h0
theorem wrong:Sm c.wrong q.wr:=by
 by_cases h0:c.f.1=0
 ·rw [RS.wr,ah (by rw [h.f];exact h0),h.hd h0];exact h.cK (by split<;>decide) h0
 ·rw [gP h0,RS.wr,ag (by rw [h.f];exact h0)];exact h
theorem ai (s:ByteArray):Sm (c.ai s) (q.ai 4 s):=by
 by_cases h0:c.f.1=0
 ·rw [RS.ai,ah (by rw [h.f];exact h0),<- h.is h0,au.ai];split
  ·rename_i hi;exact h.jC (by decide) hi
  ·exact h.wrong
 ·rw [cM h0,RS.ai,ag (by rw [h.f];exact h0)];exact h
theorem kw (s:ByteArray):Sm (c.kw s) (q.ai 1 s):=by
 by_cases h0:c.f.1=0
 ·rw [RS.ai,ah (by rw [h.f];exact h0),<- h.is h0,au.kw];split
  ·rename_i hi;exact h.jC (by decide) hi
  ·exact h.wrong
 ·rw [CU h0,RS.ai,ag (by rw [h.f];exact h0)];exact h
theorem any {k:Int} (hk:k≠0):Sm (if c.tk k then c.step else c.wrong) (q.any k):=by
 rw [RS.any,h.tk hk];split
 ·rename_i ht;exact h.step (Sm.rZ ht) (Bf ht)
 ·exact h.wrong
theorem aq:Sm c.aq q.fL:=h.any (by decide)
theorem bP:Sm c.bP (q.any 2):=h.any (by decide)
theorem iu:(q.zG 2).n=c.iu:=by rw [au.iu,h.uG (by decide)]
end Sm
theorem ml {c:au} (h:c.f.1≠0):c.bP=c:=by rw [au.bP,oD h,ag (by simp),gP h]
theorem Sm.self {c:au} (h:av c):Sm c (c.l.drop c.p,c.f) where
 ok:=h
 rok:=⟨fun _ he=>by
   have h1:=congrArg List.length he;have h2:=h.lt;simp only [List.length_drop,List.length_nil] at h1;omega,fun i t hi hk=>by
   have h1:=h.nx (c.p + i) t (by rw [<- List.getElem?_drop];exact hi) hk;show i + 1 < (c.l.drop c.p).length;rw [List.length_drop];omega,by
   have h1:=h.len;show (c.l.drop c.p).length<=_;rw [List.length_drop]
   omega⟩
 f:=rfl
 l:=fun _=>rfl
structure aR (c c':au):Prop where
 l:c'.l=c.l
 d:c'.d=c.d
 p:c.p<=c'.p
 g:c'.f.1=0->c'.f=c.f
theorem aR.refl (c:au):aR c c:=⟨rfl,rfl,bn _,fun _=>rfl⟩
theorem aR.trans {a b c:au} (h1:aR a b) (h2:aR b c):aR a c:=⟨h2.l.trans h1.l,h2.d.trans h1.d,Nat.le_trans h1.p h2.p,fun h0=>by
 have e:=h2.g h0;rw [e] at h0 ⊢
 exact h1.g h0⟩
theorem aR.step (c:au):aR c c.step:=by
 unfold au.step;split
 ·exact .refl _
 ·exact ⟨rfl,rfl,Nat.le_succ _,fun _=>rfl⟩
theorem aR.cK (c:au) (e a:Int):aR c (c.cK e a):=by
 unfold au.cK;split
 ·rename_i h;exact ⟨rfl,rfl,bn _,fun h0=>absurd h0 h.2⟩
 ·exact .refl _
theorem aR.wrong (c:au):aR c c.wrong:=.cK _ _ _
theorem aR.ai (c:au) (s:ByteArray):aR c (c.ai s):=by
 unfold au.ai;split
 ·exact .step _
 ·exact .wrong _
theorem aR.kw (c:au) (s:ByteArray):aR c (c.kw s):=by
 unfold au.kw;split
 ·exact .step _
 ·exact .wrong _
theorem aR.aq (c:au):aR c c.aq:=by
 unfold au.aq;split
 ·exact .step _
 ·exact .wrong _
theorem aR.bP (c:au):aR c c.bP:=by
 unfold au.bP;split
 ·exact .step _
 ·exact .wrong _
structure Sx {α:Type} (c:au) (x:α × au) (y:α × RS):Prop where
 sm:Sm x.2 y.2
 bad:c.f.1≠0->x.2=c
 val:x.2.f.1=0->y.1=x.1
 st:aR c x.2
theorem Sx.fine {α:Type} {c:au} {x:α × au} {y:α × RS} (h:Sx c x y) (h0:x.2.f.1=0):c.f.1=0:=Classical.byContradiction fun h1=>by
 rw [h.bad h1] at h0;exact h1 h0
theorem bM {c:au} {s:ByteArray} (h0:(c.ai s).f.1=0):c.f.1=0:=Classical.byContradiction fun h1=>by
 rw [cM h1] at h0;exact h1 h0
theorem F5:∀ (n:Nat) (l:List Wd) (c:au) (q:RS),Sm c q->(rLab n l q).1=(pLab n l c).1/\Sm (pLab n l c).2 (rLab n l q).2/\(c.f.1≠0->(pLab n l c).2=c)/\aR c (pLab n l c).2
 | 0,l,c,q,h=>⟨rfl,h,fun _=>rfl,.refl _⟩
 | n + 1,l,c,q,h=>by
  rw [rLab,pLab,h.aq.may,h.aK];split
  ·rename_i hi;have ih:=F5 n (l ++ [c.aK]) _ _ (h.aq.jC (by decide) hi);refine ⟨ih.1,ih.2.1,fun hb=>?_,((aR.aq c).trans (.step _)).trans ih.2.2.2⟩;rw [eE hb,eQ hb (by decide)] at hi;cases hi
  ·exact ⟨rfl,h.aq,fun hb=>eE hb,.aq _⟩
theorem kz {c:au} {q:RS} (h:Sm c q):Sx c (fp c) (yy q):=
 have h1:=F5 bigN [] c q h
 ⟨h1.2.1,h1.2.2.1,fun _=>h1.1,h1.2.2.2⟩
theorem mn {c:au} {q:RS} (h:Sm c q):Sx c (jQ c) (zH q):=
 ⟨(h.ai _).bP.ai _,fun hb=>by
  show ((c.ai aT).bP.ai bE)=c
  rw [cM hb,ml hb,cM hb],fun _=>(h.ai _).iu,((aR.ai c _).trans (.bP _)).trans (.ai _ _)⟩
theorem fl {k n a:Int} {c:au} (hb:c.f.1≠0):(fM k n a c).2=c:=by rw [fM,eQ hb (by decide),ag (by simp)]
theorem Bg {k n a:Int} {c:au} {q:RS} (h:Sm c q):Sx c (fM k n a c) (yz k n a q):=by
 refine ⟨?_,fl,?_,?_⟩
 ·unfold fM yz;rw [h.may];split
  ·rename_i hi;exact (kz (h.jC (by decide) hi)).sm
  ·exact h
 ·unfold fM yz;rw [h.may];split
  ·rename_i hi;intro h0;rw [(kz (h.jC (by decide) hi)).val h0]
  ·intro _;rfl
 ·unfold fM;split
  ·rename_i hi;exact (aR.step c).trans (kz (h.jC (by decide) hi)).st
  ·exact .refl _
theorem C0 {c:au} {k:Int} {s:ByteArray}:c.is k s=true↔c.aF.k=k/\c.aF.s=s:=by
 simp only [au.is,bg,decide_eq_true_eq]
theorem yA {c:au} {e:Int} (he:e≠0):(c.fail e).f.1≠0:=by
 unfold au.fail au.cK
 grind
theorem kY {c:au} (hb:c.f.1≠0):(ch c).2=c:=by
 unfold ch;rw [eQ hb (by decide),eQ hb (by decide),eQ hb (by decide),ag (by simp),ag (by simp),ag (by simp),gP hb,au.fail,yp hb];split
 ·exact fl hb
 ·exact fl hb
theorem uK {c:au} {q:RS} (h:Sm c q):Sx c (ch c) (jP q):=by
 by_cases h0:c.f.1=0
 ·have hh:=h.hd h0;by_cases h1:c.aF.k=1
  ·have hi:∀ s,c.is 1 s=true↔c.aF.s=s:=fun s=>⟨fun h=>(C0.1 h).2,fun h=>C0.2 ⟨h1,h⟩⟩;have bp:Sm c.step q.on:=h.step h0 (by rw [h1];decide);have hf:c.step.f.1=0:=by rw [au.step,ag (by rw [h1];decide)];exact h0
   rw [jP,ah (by rw [h.f];exact h0),hh,ah h1,ch];have hn:=mn bp
   have key:∀ k,Sx c (fM k (jQ c.step).1 c.aF.a (jQ c.step).2) (yz k (zH q.on).1 c.aF.a (zH q.on).2):=fun k=>by
    have e:(zH q.on).1=(jQ c.step).1:=(bp.ai _).iu;rw [e];have ht:=@Bg k (jQ c.step).1 c.aF.a _ _ hn.sm;exact ⟨ht.sm,fun hb=>absurd h0 hb,ht.val,(aR.step c).trans (hn.st.trans ht.st)⟩
   by_cases e1:c.aF.s=ir
   ·grind
   rw [ag e1,ag (fun h=>e1 ((hi _).1 h))];by_cases e2:c.aF.s=jv
   ·grind
   rw [ag e2,ag (fun h=>e2 ((hi _).1 h))];by_cases e3:c.aF.s=lu
   ·rw [ah e3,ah ((hi _).2 e3)];have ht:=@Bg 3 0 c.aF.a _ _ bp;exact ⟨ht.sm,fun hb=>absurd h0 hb,ht.val,(aR.step c).trans ht.st⟩
   ·rw [ag e3,ag (fun h=>e3 ((hi _).1 h)),ah h1];have JA:=h.fail (e:=9) (by decide) h0;rw [hh] at JA;have H3:(c.fail 9).f.1≠0:=yA (by decide);refine ⟨?_,fun hb=>absurd h0 hb,fun hg=>?_,?_⟩
    rotate_right
    ·rw [fl H3];exact .cK _ _ _
    ·rw [fl H3];exact JA
    ·rw [fl H3] at hg;exact absurd hg H3
  ·have hi:∀ s,¬ (c.is 1 s=true):=fun s hs=>h1 (C0.1 hs).1;rw [jP,ah (by rw [h.f];exact h0),hh,ag h1,ch,ag (hi _),ag (hi _),ag (hi _),ag h1];refine ⟨?_,fun hb=>absurd h0 hb,fun hg=>?_,?_⟩
   rotate_right
   ·rw [fl iq];exact .wrong _
   ·rw [fl iq];exact h.wrong
   ·rw [fl iq] at hg;exact absurd hg iq
 ·rw [jP,ag (by rw [h.f];exact h0)];exact ⟨by rw [kY h0];exact h,fun hb=>kY hb,fun hg=>by rw [kY h0] at hg;exact absurd hg h0,by rw [kY h0];exact .refl _⟩
theorem Ky {x:Ph} {c:au} {q:RS} (h:Sm c q):Sx c (zp x c) (UC x q):=by
 unfold zp UC;rw [h.may];split
 ·rename_i hi;have hl:=kz (h.jC (by decide) hi);exact ⟨hl.sm,fun hb=>absurd (Sm.dE (by decide) hi) hb,fun h0=>by show ({ x with label:=_ }:Ph)={ x with label:=_ };rw [hl.val h0],(aR.step c).trans hl.st⟩
 ·exact ⟨h,fun _=>rfl,fun _=>rfl,.refl _⟩
theorem Kz {x:Ph} {c:au} {q:RS} (h:Sm c q):Sx c (CZ x c) (WC x q):=by
 unfold CZ WC;rw [h.may];split
 ·rename_i hi;have hl:=h.jC (by decide) hi;exact ⟨hl.bP,fun hb=>absurd (Sm.dE (by decide) hi) hb,fun h0=>by show ({ x with wide:=_ }:Ph)={ x with wide:=_ };rw [hl.iu],(aR.step c).trans (.bP _)⟩
 ·exact ⟨h,fun _=>rfl,fun _=>rfl,.refl _⟩
theorem KA {x:Ph} {c:au} {q:RS} (h:Sm c q):Sx c (MW x c) (Z7 x q):=by
 unfold MW Z7;rw [h.may];split
 ·rename_i hi;have hl:=uK (h.jC (by decide) hi)
  exact ⟨hl.sm,fun hb=>absurd (Sm.dE (by decide) hi) hb,fun h0=>by
   show ({ x with ck:=_,cn:=_,ca:=_,cl:=_ }:Ph)={ x with ck:=_,cn:=_,ca:=_,cl:=_ }
   rw [hl.val h0],(aR.step c).trans hl.st⟩
 ·exact ⟨h,fun _=>rfl,fun _=>rfl,.refl _⟩
theorem Sx.comp {α β:Type} {c:au} {x:α × au} {y:α × RS} (h1:Sx c x y) {f:α->au->β × au} {g:α->RS->β × RS} (h2:∀ a,Sx x.2 (f a x.2) (g a y.2)) (h3:∀ a b,x.2.f.1≠0->(g a y.2).2=(g b y.2).2 ):Sx c (f x.1 x.2) (g y.1 y.2) where
 sm:=by
  by_cases h0:x.2.f.1=0
  ·rw [h1.val h0];exact (h2 _).sm
  ·rw [h3 y.1 x.1 h0];exact (h2 _).sm
 bad hb:=by
  have e:=h1.bad hb;have:=(h2 x.1).bad (by rw [e];exact hb);rw [this,e]
 val h0:=by
  have h4:=(h2 x.1).fine h0;rw [h1.val h4];exact (h2 _).val h0
 st:=h1.st.trans (h2 _).st
theorem KB {x:Ph} {q:RS} (hb:q.2.1≠0):WC x q=(x,q):=by
 unfold WC RS.qF
 grind
theorem KC {x:Ph} {q:RS} (hb:q.2.1≠0):Z7 x q=(x,q):=by
 unfold Z7 RS.qF
 grind
theorem iR {x:Ph} {c:au} {q:RS} (h:Sm c q):Sx c (bT x c) (oG x q):=by
 have h1:=@Ky x c q h
 have h2:=h1.comp (f:=CZ) (g:=WC) (fun a=>Kz h1.sm) (fun a b hb=>by
  have hb:(UC x q).2.2.1≠0:=by rw [h1.sm.f];exact hb
  rw [KB hb,KB hb])
 exact h2.comp (f:=MW) (g:=Z7) (fun a=>KA h2.sm) (fun a b hb=>by
  have hb:(WC (UC x q).1 (UC x q).2).2.2.1≠0:=by rw [h2.sm.f];exact hb
  rw [KC hb,KC hb])
theorem IK {x:Ph} {c:au} (hb:c.f.1≠0):bT x c=(x,c):=by
 have e1:zp x c=(x,c):=by rw [zp,eQ hb (by decide),ag (by simp)]
 have e2:CZ x c=(x,c):=by rw [CZ,eQ hb (by decide),ag (by simp)]
 have e3:MW x c=(x,c):=by rw [MW,eQ hb (by decide),ag (by simp)]
 rw [bT,e1,e2,e3]
theorem r8 {β:Type} {f:au->List β->au × List β} {g:List β->RS->List β × RS} {D:Nat} (hfg:∀ c q l,Sm c q->c.d=D->Sx c ((f c l).2,(f c l).1) (g l q)) (e:ByteArray) :
  ∀ (n:Nat) (l:List β) (c:au) (q:RS),Sm c q->c.d=D->Sx c ((listF f e n c l).2,(listF f e n c l).1) (rLst g e n l q)
 | 0,l,c,q,h,_=>⟨h,fun _=>rfl,fun _=>rfl,.refl _⟩
 | n + 1,l,c,q,h,hd=>by
  rw [listF,rLst];by_cases h0:c.f.1=0
  ·have hq:q.2.1=0:=by rw [h.f];exact h0
   rw [ah h0,ah hq];have h1:=hfg c q l h hd;have h2:=h1.sm;have bp:=h1.st;have hv:=h1.val;simp only at h2 bp hv;rw [h2.may];split
   ·rename_i hi;exact ⟨h2.jC (by decide) hi,fun hb=>absurd h0 hb,fun _=>hv (Sm.dE (by decide) hi),bp.trans (.step _)⟩
   ·have hn:=h2.ai cX;by_cases h3:(f c l).1.f.1=0
    ·have ih:=r8 hfg e n (f c l).2 _ _ hn (by rw [(aR.ai _ _).d,bp.d,hd]);rw [hv h3];exact ⟨ih.sm,fun hb=>absurd h0 hb,ih.val,bp.trans ((aR.ai _ _).trans ih.st)⟩
    ·have e1:(f c l).1.ai cX=(f c l).1:=cM h3 _
     have e2:∀ m,listF f e m (f c l).1 (f c l).2=((f c l).1,(f c l).2):=fun m=>by
      cases m with
      | zero=>rfl
      | succ m=>rw [listF,ag h3]
     have h4:((g l q).2.ai 4 cX).2.1≠0:=by
      rw [hn.f,e1];exact h3
     have e3:∀ m,(rLst g e m (g l q).1 ((g l q).2.ai 4 cX)).2=(g l q).2.ai 4 cX:=fun m=>by
      cases m with
      | zero=>rfl
      | succ m=>rw [rLst,ag h4]
     rw [e1] at hn;show Sx c ((listF f e n ((f c l).1.ai cX) (f c l).2).2,(listF f e n ((f c l).1.ai cX) (f c l).2).1) _;rw [e1,e2];exact ⟨by rw [e3];exact hn,fun hb=>absurd h0 hb,fun hg=>absurd hg h3,bp⟩
  ·have hq:¬ q.2.1=0:=by rw [h.f];exact h0
   rw [ag h0,ag hq];exact ⟨h,fun _=>rfl,fun hg=>absurd hg h0,.refl _⟩
theorem Bh {e:ByteArray} {n:Nat} {l:List Wd} {c:au} {q:RS} (h:Sm c q):Sx c ((listF fg e n c l).2,(listF fg e n c l).1) (CW e n l q):=
 r8 (D:=c.d) (fun c q l h _=>⟨h.aq,fun hb=>eE hb,fun _=>by show l ++ [q.name]=l ++ [c.aK];rw [h.aK],.aq _⟩) e n l c q h rfl
theorem Sx.of {α:Type} {c c1:au} {x:α × au} {y:α × RS} (h:Sx c1 x y) (hb:c.f.1≠0->c1=c) (hs:aR c c1):Sx c x y:=
 ⟨h.sm,fun h1=>by
  have e:=hb h1;rw [e] at h
  exact h.bad h1,h.val,hs.trans h.st⟩
section
variable {K:au->Ty × au} {K':RS->Ty × RS} {D:Nat} (hK:∀ c q,Sm c q->c.d=D->Sx c (K c) (K' q))
include hK
theorem IL {c:au} {q:RS} (h:Sm c q) (hd:c.d=D):Sx c (ky K c) (Ri K' q):=by
 have h1:Sm (c.aq.ai cG) (q.fL.ai 4 cG):=h.aq.ai _;have s1:aR c (c.aq.ai cG):=(aR.aq c).trans (.ai _ _);have hk:=hK _ _ h1 (by rw [s1.d,hd]);have hm:=@iR (kX c.aK false) _ _ hk.sm;have hb:c.f.1≠0->c.aq.ai cG=c:=fun hb=>by rw [eE hb,cM hb]
 refine ⟨?_,fun h2=>?_,fun h0=>?_,s1.trans (hk.st.trans hm.st)⟩
 ·show Sm (bT _ _).2 (oG _ _).2;rw [h.aK];exact hm.sm
 ·show (bT _ _).2=c;have e1:=hb h2;have e2:=hk.bad (by rw [e1];exact h2);rw [e1] at e2;have e3:=hm.bad;rw [e1,e2] at e3;rw [e1,e2];exact e3 h2
 ·show ((oG _ _).1,(K' _).1)=((bT _ _).1,(K _).1);rw [h.aK,hm.val h0,hk.val (hm.fine h0)]
theorem Rj {c:au} {q:RS} (h:Sm c q) (hd:c.d=D):Sx c (jR K c) (Y2 K' q):=by
 unfold jR Y2;rw [h.aq.may,h.aK];split
 ·rename_i hi;have h1:=h.aq.jC (by decide) hi;have s1:aR c c.aq.step:=(aR.aq c).trans (.step _)
  have hf:¬ c.f.1≠0:=fun hb=>by
   rw [eE hb,eQ hb (by decide)] at hi;cases hi
  have hk:=hK _ _ h1 (by rw [s1.d,hd]);have h3:=hk.sm.ai bE;have hm:=@iR (kX c.aK false) _ _ h3;refine ⟨hm.sm,fun h2=>absurd h2 hf,fun h0=>?_,s1.trans (hk.st.trans ((aR.ai _ _).trans hm.st))⟩;show ((oG _ _).1,(K' _).1)=((bT _ _).1,(K _).1);rw [hm.val h0,hk.val (bM (hm.fine h0))]
 ·exact ⟨h.aq,fun hb=>eE hb,fun _=>rfl,.aq _⟩
theorem Bi {tag:Bool} {c:au} {q:RS} (h:Sm c q) (hd:c.d=D):Sx c (de K tag c) (Kx K' tag q):=by
 unfold de Kx;split
 ·exact Rj hK h hd
 ·exact IL hK h hd
theorem yB {tag:Bool} {c:au} {q:RS} (h:Sm c q) (hd:c.d=D):Sx c (cI K tag c) (tJ K' tag q):=by
 unfold cI tJ;have h1:=h.ai bI;rw [h1.may,Bool.and_comm];split
 ·rename_i hi
  have hi:(c.ai bI).is 4 bl=true:=by
   rw [bg] at hi;exact hi.1
  exact ⟨h1.jC (by decide) hi,fun hb=>absurd hb (fun hb=>hb (bM (Sm.dE (by decide) hi))),fun _=>rfl,(aR.ai _ _).trans (.step _)⟩
 ·have hl:=r8 (f:=mh K tag) (g:=prG K' tag) (D:=D) (fun c q l h hd=>by
   have hp:=@Bi K K' D hK tag c q h hd
   exact ⟨hp.sm,hp.bad,fun h0=>by
    show l ++ [_]=l ++ [_]
    rw [hp.val h0],hp.st⟩) bl bigN [] _ _ h1 (by rw [(aR.ai _ _).d,hd])
  exact hl.of (fun hb=>cM hb _) (.ai _ _)
theorem Bj {w:ByteArray} {a:Int} {c:au} {q:RS} (h:Sm c q) (hd:c.d=D) (hb:(cj K w a c).1=true):Sx c (cj K w a c).2 (F4 K' w a q):=by
 have h1:=h.ai aT;have s1:=aR.ai c aT;have d1:(c.ai aT).d=D:=by rw [s1.d,hd]
 have hk:=hK _ _ h1 d1;have b1:c.f.1≠0->c.ai aT=c:=fun hb=>cM hb _;unfold cj at hb ⊢;unfold F4;split
 ·exact ⟨h,fun _=>rfl,fun _=>rfl,.refl _⟩
 rename_i e1;rw [ag e1] at hb;split
 ·refine ⟨((h1.bP.ai _).bP.ai _),fun hb=>?_,fun _=>?_,s1.trans ((aR.bP _).trans ((aR.ai _ _).trans ((aR.bP _).trans (.ai _ _))))⟩
  ·show (((c.ai aT).bP.ai jf).bP.ai bE)=c;rw [b1 hb,ml hb,cM hb,ml hb,cM hb]
  ·show Ty.mk _ _=Ty.mk _ _;rw [h1.iu,(h1.bP.ai _).iu]
 rename_i e2;rw [ag e2] at hb;split
 ·have hn:=mn h;exact ⟨hn.sm,hn.bad,fun h0=>by show Ty.mk _ _=Ty.mk _ _;rw [hn.val h0],hn.st⟩
 rename_i e3;rw [ag e3] at hb;split
 ·have hn:=@Bh bE bigN [] _ _ h1
  exact ⟨hn.sm,fun h2=>(hn.of b1 s1).bad h2,fun h0=>by
   show Ty.mk _ _=Ty.mk _ _;have e:=hn.val h0;simp only at e
   rw [e],s1.trans hn.st⟩
 rename_i e4;rw [ag e4] at hb;split
 ·have h2:=hk.sm.ai cX;refine ⟨h2.bP.ai _,fun h3=>?_,fun h0=>?_,s1.trans (hk.st.trans ((aR.ai _ _).trans ((aR.bP _).trans (.ai _ _))))⟩
  ·show (((K (c.ai aT)).2.ai cX).bP.ai bE)=c;have e:=(hk.of b1 s1).bad h3;rw [e,cM h3,ml h3,cM h3]
  ·have h3:((K (c.ai aT)).2.ai cX).f.1=0:=Classical.byContradiction fun h3=>by
    have h0:(((K (c.ai aT)).2.ai cX).bP.ai bE).f.1=0:=h0;rw [ml h3,cM h3] at h0;exact h3 h0
   show Ty.mk _ _=Ty.mk _ _;rw [h2.iu,hk.val (bM h3)]
 rename_i e5;rw [ag e5] at hb;split
 ·refine ⟨hk.sm.ai _,fun h3=>?_,fun h0=>?_,s1.trans (hk.st.trans (.ai _ _))⟩
  ·show ((K (c.ai aT)).2.ai bE)=c;rw [(hk.of b1 s1).bad h3,cM h3]
  ·show Ty.mk _ _=Ty.mk _ _;rw [hk.val (bM h0)]
 rename_i e6;rw [ag e6] at hb;split
 ·have hp:=@yB K K' D hK false c q h hd;exact ⟨hp.sm,hp.bad,fun h0=>by show Ty.mk _ _=Ty.mk _ _;rw [hp.val h0],hp.st⟩
 rename_i e7;rw [ag e7] at hb;split
 ·have hp:=@yB K K' D hK true c q h hd;exact ⟨hp.sm,hp.bad,fun h0=>by show Ty.mk _ _=Ty.mk _ _;rw [hp.val h0],hp.st⟩
 rename_i e8;rw [ag e8] at hb;split
 ·refine ⟨h1.aq.ai _,fun h3=>?_,fun h0=>?_,s1.trans ((aR.aq _).trans (.ai _ _))⟩
  ·show ((c.ai aT).aq.ai bE)=c;rw [b1 h3,eE h3,cM h3]
  ·show Ty.mk _ _=Ty.mk _ _;rw [h1.aK]
 rename_i e9;rw [ag e9] at hb;cases hb
theorem yC {w:ByteArray} {a:Int} {c:au} {q:RS} (hb:(cj K w a c).1=false):(cj K w a c).2=(NZ 0 a,c)/\F4 K' w a q=(NZ 0 a,(q.1,(9,a))):=by
 unfold cj at hb ⊢;unfold F4;split at hb
 all_goals grind
end
theorem Sm.deep {c:au} {q:RS} (h:Sm c q) (hd:c.d < 24):Sm c.deep q:=⟨pe h.ok hd,h.rok,h.f,h.l⟩
theorem IM (c:au):c.deep.leave=c:=by
 obtain ⟨l,p,d,f⟩:=c;rfl
theorem Sm.leave {c:au} {q:RS} (h:Sm c q):Sm c.leave q:=⟨h.ok.leave,h.rok,h.f,h.l⟩
theorem aR.leave {c x:au} (h:aR c.deep x):aR c x.leave:=⟨h.l,by show x.d - 1=c.d;rw [h.d];rfl,h.p,h.g⟩
theorem jY:∀ (n:Nat) (c:au) (q:RS),Sm c q->c.d=24 - n->n<=24->Sx c (pKind n c) (rKind n q)
 | 0,c,q,h,hd,_=>by
  rw [pKind,rKind];by_cases h0:c.f.1=0
  ·rw [ah (by rw [h.f];exact h0),h.hd h0];have hf:=h.fail (e:=6) (by decide) h0;rw [h.hd h0] at hf;exact ⟨hf,fun hb=>absurd h0 hb,fun _=>rfl,.cK _ _ _⟩
  ·rw [ag (by rw [h.f];exact h0),au.fail,yp h0];exact ⟨h,fun _=>rfl,fun hg=>absurd hg h0,.refl _⟩
 | n + 1,c,q,h,hd,hn=>by
  have hdp:=h.deep (by omega);rw [pKind,rKind];by_cases h0:c.f.1=0
  ·have hq:q.2.1=0:=by rw [h.f];exact h0
   rw [ah hq,h.hd h0];have G4:c.deep.aF=c.aF:=rfl;by_cases h1:c.aF.k=1
   ·have ht:c.deep.tk 1=true:=by
     rw [au.tk,G4,h1];rfl
    rw [ah ht,ah h1,G4];have hs:=hdp.step h0 (by rw [G4,h1];decide);have ih:=fun c q h hd=>jY n c q h hd (by omega)
    have SS:c.deep.step.d=24 - n:=by
     rw [(aR.step _).d];show c.d + 1=_;omega
    cases hB:(cj (pKind n) c.aF.s c.aF.a c.deep.step).1 with
    | true=>
     have hb:=Bj ih (w:=c.aF.s) (a:=c.aF.a) hs SS hB;rw [ah rfl];exact ⟨hb.sm.leave,fun h2=>absurd h0 h2,fun h2=>hb.val h2,((aR.step _).trans hb.st).leave⟩
    | false=>
     obtain ⟨e1,e2⟩:=yC ih (q:=q.on) hB;rw [ag (by simp),e1,e2]
     have hf:=hs.cK (e:=9) (a:=c.aF.a) (by decide) (by
      rw [au.step,ag (by rw [G4,h1];decide)]
      exact h0)
     exact ⟨hf.leave,fun h2=>absurd h0 h2,fun _=>rfl,((aR.step _).trans (.cK _ _ _)).leave⟩
   ·have ht:¬ c.deep.tk 1=true:=by
     rw [au.tk,G4];simp [h1]
    rw [ag ht,ag h1];exact ⟨hdp.wrong.leave,fun h2=>absurd h0 h2,fun _=>rfl,(aR.wrong c.deep).leave⟩
  ·have e1:c.deep.tk 1=false:=oD (c:=c.deep) h0 1;have e2:c.deep.wrong=c.deep:=gP (c:=c.deep) h0;have hq:¬ q.2.1=0:=by rw [h.f];exact h0
   rw [ag hq,e1,ag (by simp),e2,IM];exact ⟨h,fun _=>rfl,fun hg=>absurd hg h0,.refl _⟩
theorem yD {c:au} {q:RS} (h:Sm c q) (hd:c.d=0):Sx c (pKind 24 c) (rKind 24 q):=jY 24 c q h hd (bn _)
theorem yE:∀ (n:Nat) (l l':List (Wd × Wd)) (w:Wd) (c:au) (q:RS),Sm c q->(rChain n (l' ++ l) w q).1=l' ++ (pChain n l w c).1/\Sm (pChain n l w c).2 (rChain n (l' ++ l) w q).2/\(c.f.1≠0->(pChain n l w c).2=c)/\aR c (pChain n l w c).2
 | 0,l,l',w,c,q,h=>⟨rfl,h,fun _=>rfl,.refl _⟩
 | n + 1,l,l',w,c,q,h=>by
  rw [rChain,pChain,h.aq.may,h.aK];split
  ·rename_i hi;have ih:=yE n (l ++ [(w,c.aK)]) l' c.aK _ _ (h.aq.jC (by decide) hi);rw [List.append_assoc];refine ⟨ih.1,ih.2.1,fun hb=>?_,((aR.aq c).trans (.step _)).trans ih.2.2.2⟩;rw [eE hb,eQ hb (by decide)] at hi;cases hi
  ·exact ⟨List.append_assoc ..,h.aq,fun hb=>eE hb,.aq _⟩
theorem uL {l:List (Wd × Wd)} {c:au} {q:RS} (h:Sm c q):Sx c ((mi c l).2,(mi c l).1) (vJ l q):=by
 have h1:=yE bigN [] l c.aK _ _ (h.aq.ai fh);rw [List.append_nil,<- h.aK] at h1;rw [h.aK] at h1;unfold vJ;rw [h.aK]
 exact ⟨h1.2.1,fun hb=>by
  show (pChain bigN [] c.aK (c.aq.ai fh)).2=c;have e:c.aq.ai fh=c:=by rw [eE hb,cM hb]
  have h2:=h1.2.2.1;rw [e] at h2 ⊢
  exact h2 hb,fun _=>h1.1,((aR.aq c).trans (.ai _ _)).trans h1.2.2.2⟩
theorem yF {c:au} {q:RS} (h:Sm c q):Sx c (gf c) (IH q):=by
 unfold gf IH;rw [h.may];split
 ·rename_i hi;exact ⟨h.jC (by decide) hi,fun hb=>absurd (Sm.dE (by decide) hi) hb,fun _=>rfl,.step _⟩
 ·exact r8 (f:=mi) (g:=vJ) (D:=c.d) (fun c q l h _=>uL h) bl bigN [] c q h rfl
theorem yG:∀ (n:Nat) (l:List (Wd × Ty)) (c:au) (q:RS),Sm c q->c.d=0->Sx c (pTypes n l c) (rTypes n l q)
 | 0,l,c,q,h,_=>⟨h,fun _=>rfl,fun _=>rfl,.refl _⟩
 | n + 1,l,c,q,h,hd=>by
  rw [pTypes,rTypes,h.WD];split
  ·rename_i hi;have h1:=h.jC (by decide) hi;have h2:=h1.aq.ai sq;have s2:aR c (c.step.aq.ai sq):=(aR.step c).trans ((aR.aq _).trans (.ai _ _));have hk:=yD h2 (by rw [s2.d,hd]);rw [h1.aK];by_cases h0:(pKind 24 (c.step.aq.ai sq)).2.f.1=0
   ·have ih:=yG n (l ++ [(c.step.aK,(pKind 24 (c.step.aq.ai sq)).1)]) _ _ hk.sm (by rw [hk.st.d,s2.d,hd]);rw [hk.val h0];exact ⟨ih.sm,fun hb=>absurd (Sm.dE (by decide) hi) hb,ih.val,s2.trans (hk.st.trans ih.st)⟩
   ·have e1:∀ m l,pTypes m l (pKind 24 (c.step.aq.ai sq)).2=(l,(pKind 24 (c.step.aq.ai sq)).2):=fun m l=>by
     cases m with
     | zero=>rfl
     | succ m=>rw [pTypes,eQ h0 (by decide),ag (by simp)]
    have e2:∀ m l,rTypes m l (rKind 24 (q.on.fL.ai 4 sq)).2=(l,(rKind 24 (q.on.fL.ai 4 sq)).2):=fun m l=>by
     cases m with
     | zero=>rfl
     | succ m=>rw [rTypes,hk.sm.WD,eQ h0 (by decide),ag (by simp)]
    rw [e1,e2];exact ⟨hk.sm,fun hb=>absurd (Sm.dE (by decide) hi) hb,fun hg=>absurd hg h0,s2.trans hk.st⟩
  ·exact ⟨h,fun _=>rfl,fun _=>rfl,.refl _⟩
theorem F6 {c:au} {q:RS} (h:Sm c q):Sx c (iQ c) (II q):=
 (Bh ((h.kw _).ai _)).of (fun hb=>by rw [CU hb,cM hb]) ((aR.kw _ _).trans (.ai _ _))
theorem Rk {c:au} {q:RS} (h:Sm c q):Sx c (mj c) (IJ q):=by
 unfold mj IJ;rw [h.WD];split
 ·rename_i hi;exact (yF ((h.jC (by decide) hi).ai _)).of (fun hb=>absurd (Sm.dE (by decide) hi) hb) ((aR.step _).trans (.ai _ _))
 ·exact ⟨h,fun _=>rfl,fun _=>rfl,.refl _⟩
theorem Rm {c:au} {q:RS} (h:Sm c q) (hd:c.d=0):Sx c (MX c) (Y3 q):=
 (yD (h.kw _) (by rw [(aR.kw _ _).d,hd])).of (fun hb=>CU hb _) (.kw _ _)
theorem uM {c:au} {q:RS} (h:Sm c q) (hd:c.d=0):Sx c (eT c) (UG q):=by
 have h1:=F6 h;have h2:=Rk h1.sm;have h3:Sx _ (tK (mj (iQ c).2).2) (UF (IJ (II q).2).2):=yG bigN [] _ _ h2.sm (by rw [h2.st.d,h1.st.d,hd]);have h4:=Rm h3.sm (by rw [h3.st.d,h2.st.d,h1.st.d,hd]);refine ⟨h4.sm,fun hb=>?_,fun h0=>?_,h1.st.trans (h2.st.trans (h3.st.trans h4.st))⟩
 ·have e1:=h1.bad hb;have b1:(iQ c).2.f.1≠0:=by rw [e1];exact hb
  have e2:=h2.bad b1;have b2:(mj (iQ c).2).2.f.1≠0:=by rw [e2];exact b1
  have e3:=h3.bad b2;have b3:(tK (mj (iQ c).2).2).2.f.1≠0:=by rw [e3];exact b2
  exact (h4.bad b3).trans (e3.trans (e2.trans e1))
 ·have f4:=h4.fine h0;have f3:=h3.fine f4;have f2:=h2.fine f3;show Sch.mk _ _ _ _=Sch.mk _ _ _ _;rw [h4.val h0,h3.val f4,h2.val f3,h1.val f2]
def WE (t:dD):Nat:=1024 + 2 * (if t.k=1 then t.s.size else 0)
def muL:List dD->Nat
 | []=>0
 | t :: r=>WE t + muL r
def fU (c:au):Nat:=muL (c.l.drop c.p)
theorem vK {c:au} (h:av c) (h0:c.f.1=0) (hk:c.aF.k≠0):fU c.step + WE c.aF=fU c:=by
 obtain ⟨t,h1,h2⟩:=h.aF h0;have e:c.step={ c with p:=c.p + 1 }:=by rw [au.step,ag hk]
 rw [e,h2];show muL (c.l.drop (c.p + 1)) + WE t=muL (c.l.drop c.p);rw [drop_cons h1,muL];omega
theorem nG {c:au} (h:av c) {k:Int} (hk:k≠0) {s:ByteArray} (hi:c.is k s=true):fU c.step + 1024<=fU c:=by
 have h0:c.f.1=0:=Sm.dE hk hi;have h1:=vK h h0 (by rw [(C0.1 hi).1];exact hk);unfold WE at h1;omega
theorem dO {c:au} (h:av c) {s:ByteArray} (h0:(c.ai s).f.1=0):fU (c.ai s) + 1024<=fU c:=by
 unfold au.ai at h0 ⊢;split at h0
 ·rename_i hi;rw [ah hi];exact nG h (by decide) hi
 ·exact absurd h0 iq
theorem tk_k {c:au} {k:Int} (h:c.tk k=true):c.aF.k=k:=by
 simp only [au.tk,bg,decide_eq_true_eq] at h;exact h.2
theorem nu {c:au} (h:av c) (h0:c.aq.f.1=0):fU c.aq + 2 * c.aK.wt + 896=fU c:=by
 unfold au.aq at h0 ⊢;split at h0
 ·rename_i ht;have h1:=vK h (Sm.rZ ht) (Bf ht);rw [ah ht,au.aK,au.uG,ah ht];unfold WE at h1;rw [ah (tk_k ht)] at h1;simp only [Wd.wt];omega
 ·exact absurd h0 iq
theorem yH {c:au} (h:av c) (h0:c.bP.f.1=0):fU c.bP + 1024<=fU c:=by
 unfold au.bP at h0 ⊢;split at h0
 ·rename_i ht;have h1:=vK h (Sm.rZ ht) (Bf ht);rw [ah ht];unfold WE at h1;omega
 ·exact absurd h0 iq
theorem Bl {c:au} (h0:c.aq.f.1=0):c.f.1=0:=Classical.byContradiction fun h1=>by
 rw [eE h1] at h0;exact h1 h0
theorem kA {c:au} (h0:c.bP.f.1=0):c.f.1=0:=Classical.byContradiction fun h1=>by
 rw [ml h1] at h0;exact h1 h0
theorem av.bP {c:au} (h:av c):av c.bP:=(Sm.self h).bP.ok
theorem qG (l:List Wd) (w:Wd):wdsWt (l ++ [w])=wdsWt l + w.wt:=by
 induction l with
 | nil=>simp [wdsWt]
 | cons x r ih=>simp only [List.cons_append,wdsWt,ih];omega
theorem IP (l:List (Ph × Ty)) (x:Ph × Ty):(mkPts (l ++ [x])).wt=(mkPts l).wt + (x.1.wt + x.2.wt):=by
 induction l with
 | nil=>simp [mkPts,Pts.wt]
 | cons y r ih=>simp only [List.cons_append,mkPts,Pts.wt,ih];omega
theorem KD:∀ (n:Nat) (l:List Wd) (c:au),av c->(pLab n l c).2.f.1=0->wdsWt (pLab n l c).1 + fU (pLab n l c).2<=wdsWt l + fU c
 | 0,l,c,h,h0=>bn _
 | n + 1,l,c,h,h0=>by
  rw [pLab] at h0 ⊢;split at h0
  ·rename_i hi;rw [ah hi];have ih:=KD n _ _ h.aq.step h0;have h1:=nG h.aq (by decide) hi;have h2:=nu h (Sm.dE (by decide) hi);rw [qG] at ih;omega
  ·rename_i hi;rw [ag hi];have h2:=nu h h0;show wdsWt (l ++ [_]) + _<=_;rw [qG];show _ + fU c.aq<=_;omega
theorem Bm {c:au} (h:av c) (h0:(fp c).2.f.1=0):wdsWt (fp c).1 + fU (fp c).2<=fU c:=by
 have:=KD bigN [] c h h0;simp only [wdsWt] at this;unfold fp;omega
theorem C7 {c:au} (h:av c) (h0:(jQ c).2.f.1=0):fU (jQ c).2<=fU c:=by
 have h0:(((c.ai aT).bP).ai bE).f.1=0:=h0;have h1:=dO (h.ai aT).bP h0;have h2:=yH (h.ai aT) (bM h0);have h3:=dO h (kA (bM h0));show fU ((c.ai aT).bP.ai bE)<=_;omega
theorem yI {k n a:Int} {c:au} (h:av c) (h0:(fM k n a c).2.f.1=0):wdsWt (fM k n a c).1.l + fU (fM k n a c).2<=fU c:=by
 unfold fM at h0 ⊢;split at h0
 ·rename_i hi;rw [ah hi];have h1:=Bm h.step h0;have h2:=nG h (by decide) hi
  grind
 ·rename_i hi;rw [ag hi];show 0 + fU c<=fU c;omega
theorem nv {k n a:Int} {c:au} (h0:(fM k n a c).2.f.1=0):c.f.1=0:=Classical.byContradiction fun h1=>by
 rw [fl h1] at h0;exact h1 h0
theorem IQ {c:au} (h:av c) (h0:(ch c).2.f.1=0):wdsWt (ch c).1.l + fU (ch c).2<=fU c:=by
 unfold ch at h0 ⊢;split at h0
 ·rename_i hi;rw [ah hi];have h1:=yI (mn (Sm.self h.step)).sm.ok h0;have h2:=C7 h.step (nv h0);have h3:=nG h (by decide) hi;omega
 rename_i hi;rw [ag hi];split at h0
 ·rename_i hi;rw [ah hi];have h1:=yI (mn (Sm.self h.step)).sm.ok h0;have h2:=C7 h.step (nv h0);have h3:=nG h (by decide) hi;omega
 rename_i hi;rw [ag hi];split at h0
 ·rename_i hi;rw [ah hi];have h1:=yI h.step h0;have h3:=nG h (by decide) hi;omega
 ·exfalso;split at h0
  ·exact yA (by decide) (nv h0)
  ·exact iq (nv h0)
theorem Y4 {x:Ph} {c:au} (h:av c) (h0:(zp x c).2.f.1=0):(zp x c).1.wt + fU (zp x c).2<=x.wt + fU c:=by
 unfold zp at h0 ⊢;split at h0
 ·rename_i hi;rw [ah hi];have h1:=Bm h.step h0;have h2:=nG h (by decide) hi;simp only [Ph.wt];omega
 all_goals grind
theorem Y5 {x:Ph} {c:au} (h:av c) (h0:(CZ x c).2.f.1=0):(CZ x c).1.wt + fU (CZ x c).2<=x.wt + fU c:=by
 unfold CZ at h0 ⊢;split at h0
 ·rename_i hi;rw [ah hi];have h1:=yH h.step h0;have h2:=nG h (by decide) hi;simp only [Ph.wt];omega
 all_goals grind
theorem Y6 {x:Ph} {c:au} (h:av c) (h0:(MW x c).2.f.1=0):(MW x c).1.wt + fU (MW x c).2<=x.wt + fU c:=by
 unfold MW at h0 ⊢;split at h0
 ·rename_i hi;rw [ah hi];have h1:=IQ h.step h0;have h2:=nG h (by decide) hi;simp only [Ph.wt];omega
 all_goals grind
theorem Bn {x:Ph} {c:au} (h:av c) (h0:(bT x c).2.f.1=0):(bT x c).1.wt + fU (bT x c).2<=x.wt + fU c:=by
 have s1:=@Ky x c _ (Sm.self h);have s2:=@Kz (zp x c).1 _ _ (Sm.self s1.sm.ok);have s3:=@KA (CZ (zp x c).1 (zp x c).2).1 _ _ (Sm.self s2.sm.ok);have h3:=Y6 s2.sm.ok h0;have h2:=Y5 s1.sm.ok (s3.fine h0);have h1:=Y4 h (s2.fine (s3.fine h0));unfold bT;omega
theorem oH {x:Ph} {c:au} (h0:(bT x c).2.f.1=0):c.f.1=0:=Classical.byContradiction fun h1=>by
 rw [IK h1] at h0;exact h1 h0
theorem IU (w:Wd) (b:Bool):(kX w b).wt=256 + w.wt:=rfl
theorem MY:bX.wt=320:=rfl
structure IV (K:au->Ty × au) (D:Nat):Prop where
 sim:∃ K':RS->Ty × RS,∀ c q,Sm c q->c.d=D->Sx c (K c) (K' q)
 wt:∀ c,av c->c.d=D->(K c).2.f.1=0->(K c).1.wt + fU (K c).2<=fU c
section
variable {K:au->Ty × au} {D:Nat} (hK:IV K D)
include hK
theorem IV.ok {c:au} (h:av c) (hd:c.d=D):av (K c).2:=by
 obtain ⟨K',h1⟩:=hK.sim;exact (h1 _ _ (Sm.self h) hd).sm.ok
theorem IV.fine {c:au} (h:av c) (hd:c.d=D) (h0:(K c).2.f.1=0):c.f.1=0:=by
 obtain ⟨K',h1⟩:=hK.sim;exact (h1 _ _ (Sm.self h) hd).fine h0
theorem IV.st {c:au} (h:av c) (hd:c.d=D):aR c (K c).2:=by
 obtain ⟨K',h1⟩:=hK.sim;exact (h1 _ _ (Sm.self h) hd).st
theorem MZ {c:au} (h:av c) (hd:c.d=D) (h0:(ky K c).2.f.1=0):(ky K c).1.1.wt + (ky K c).1.2.wt + fU (ky K c).2<=fU c:=by
 have d1:(c.aq.ai cG).d=D:=by rw [(aR.ai _ _).d,(aR.aq _).d,hd]
 have o1:=h.aq.ai cG;have h0:(bT (kX c.aK false) (K (c.aq.ai cG)).2).2.f.1=0:=h0;have h1:=Bn (hK.ok o1 d1) h0;have f1:=oH h0;have h2:=hK.wt _ o1 d1 f1;have f2:=hK.fine o1 d1 f1;have h3:=dO h.aq f2;have h4:=nu h (bM f2);rw [IU] at h1;show (bT _ _).1.wt + (K _).1.wt + fU (bT _ _).2<=_;omega
theorem UH {c:au} (h:av c) (hd:c.d=D) (h0:(jR K c).2.f.1=0):(jR K c).1.1.wt + (jR K c).1.2.wt + fU (jR K c).2<=fU c:=by
 unfold jR at h0 ⊢;split at h0
 ·rename_i hi;rw [ah hi];have o1:av c.aq.step:=h.aq.step;have d1:c.aq.step.d=D:=by rw [(aR.step _).d,(aR.aq _).d,hd]
  have h0:(bT (kX c.aK false) ((K c.aq.step).2.ai bE)).2.f.1=0:=h0;have h1:=Bn ((hK.ok o1 d1).ai _) h0;have f1:=oH h0;have h5:=dO (hK.ok o1 d1) f1;have h2:=hK.wt _ o1 d1 (bM f1);have h3:=nG h.aq (by decide) hi;have h4:=nu h (Sm.dE (by decide) hi);rw [IU] at h1
  grind
 ·rename_i hi;rw [ag hi];have h4:=nu h h0;show (kX c.aK true).wt + bX.wt + fU c.aq<=_;rw [IU,MY];omega
theorem Rn {tag:Bool} {c:au} (h:av c) (hd:c.d=D) (h0:(de K tag c).2.f.1=0):(de K tag c).1.1.wt + (de K tag c).1.2.wt + fU (de K tag c).2<=fU c:=by
 unfold de at h0 ⊢;split
 ·rename_i hi;rw [ah hi] at h0;exact UH hK h hd h0
 ·rename_i hi;rw [ag hi] at h0;exact MZ hK h hd h0
theorem jZ {tag:Bool} {c:au} (h:av c) (hd:c.d=D):av (de K tag c).2/\aR c (de K tag c).2:=by
 obtain ⟨K',h1⟩:=hK.sim;have h2:=@Bi K K' D h1 tag c _ (Sm.self h) hd;exact ⟨h2.sm.ok,h2.st⟩
end
theorem tM {α:Type} {f:au->α->au × α} {e:ByteArray} {c:au} (hb:c.f.1≠0) (n:Nat) (a:α):listF f e n c a=(c,a):=by
 cases n with
 | zero=>rfl
 | succ m=>rw [listF,ag hb]
theorem C8 {α:Type} {f:au->α->au × α} {W:α->Nat} {D:Nat} (jh:∀ c a,av c->c.d=D->av (f c a).1/\aR c (f c a).1)
  (hf:∀ c a,av c->c.d=D->(f c a).1.f.1=0->W (f c a).2 + fU (f c a).1<=W a + fU c) (e:ByteArray) :
  ∀ (n:Nat) (c:au) (a:α),av c->c.d=D->(listF f e n c a).1.f.1=0->W (listF f e n c a).2 + fU (listF f e n c a).1<=W a + fU c
 | 0,c,a,_,_,_=>bn _
 | n + 1,c,a,h,hd,h0=>by
  rw [listF] at h0 ⊢;by_cases h1:c.f.1=0
  ·rw [ah h1] at h0 ⊢;have ho:=jh c a h hd;split at h0
   ·rename_i hi;rw [ah hi];have h2:=hf c a h hd (Sm.dE (by decide) hi);have h3:=nG ho.1 (by decide) hi
    grind
   ·rename_i hi;rw [ag hi];by_cases h2:((f c a).1.ai ⟨#[44]⟩).f.1=0
    ·have h3:=dO ho.1 h2;have h4:=hf c a h hd (bM h2);have ih:=C8 jh hf e n _ (f c a).2 (ho.1.ai ⟨#[44]⟩) (by rw [(aR.ai _ _).d,ho.2.d,hd]) h0;omega
    ·rw [tM h2] at h0;exact absurd h0 h2
  all_goals grind
theorem Ro {e:ByteArray} {n:Nat} {l:List Wd} {c:au} (h:av c) (h0:(listF fg e n c l).1.f.1=0):wdsWt (listF fg e n c l).2 + fU (listF fg e n c l).1<=wdsWt l + fU c:=
 C8 (W:=wdsWt) (D:=c.d) (fun c a h _=>⟨h.aq,.aq _⟩) (fun c a h _ h0=>by
  have:=nu h h0;show wdsWt (a ++ [c.aK]) + fU c.aq<=_;rw [qG]
  omega) e n c l h rfl h0
section
variable {K:au->Ty × au} {D:Nat} (hK:IV K D)
include hK
theorem Bo {tag:Bool} {c:au} (h:av c) (hd:c.d=D) (h0:(cI K tag c).2.f.1=0):(mkPts (cI K tag c).1).wt + fU (cI K tag c).2<=fU c:=by
 unfold cI at h0 ⊢;split at h0
 ·rename_i hi;rw [ah hi];have hi:(c.ai bI).is 4 bl=true:=(bg _ _ ▸ hi).2;have h1:=nG (h.ai bI) (by decide) hi;have h2:=dO h (Sm.dE (by decide) hi);show 0 + fU (c.ai bI).step<=_;omega
 ·rename_i hi;rw [ag hi]
  have h1:=C8 (f:=mh K tag) (W:=fun l=>(mkPts l).wt) (D:=D) (fun c a h hd=>jZ hK h hd) (fun c a h hd h0=>by
   have:=Rn hK h hd h0;show (mkPts (a ++ [(de K tag c).1])).wt + fU (de K tag c).2<=_;rw [IP]
   omega) bl bigN _ [] (h.ai bI) (by rw [(aR.ai _ _).d,hd]) h0
  have h2:(c.ai bI).f.1=0:=Classical.byContradiction fun hb=>by
   rw [tM hb] at h0;exact hb h0
  have h3:=dO h h2;have e0:(mkPts []).wt=0:=rfl;simp only [e0] at h1;show (mkPts (listF _ _ _ _ _).2).wt + fU (listF _ _ _ _ _).1<=_;omega
theorem Rp {w:ByteArray} {a:Int} {c:au} (h:av c) (hd:c.d=D) (h0:(cj K w a c).2.2.f.1=0):(cj K w a c).2.1.wt + fU (cj K w a c).2.2<=704 + fU c:=by
 have o1:=h.ai aT;have d1:(c.ai aT).d=D:=by rw [(aR.ai _ _).d,hd]
 have hz:cp.wt=320:=rfl;unfold cj at h0 ⊢;split
 ·show 320 + fU c<=_;omega
 rename_i e1;rw [ag e1] at h0;split
 ·rename_i e2;rw [ah e2] at h0;have h0:((((c.ai aT).bP.ai jf).bP).ai bE).f.1=0:=h0;have h1:=dO ((o1.bP.ai _).bP) h0;have h2:=yH (o1.bP.ai _) (bM h0);have h3:=dO o1.bP (kA (bM h0));have h4:=yH o1 (bM (kA (bM h0)));have h5:=dO h (kA (bM (kA (bM h0))));show 320 + fU ((((c.ai aT).bP.ai jf).bP).ai bE)<=_;omega
 rename_i e2;rw [ag e2] at h0;split
 ·rename_i e3;rw [ah e3] at h0;have h1:=C7 h h0;show 320 + fU (jQ c).2<=_;omega
 rename_i e3;rw [ag e3] at h0;split
 ·rename_i e4;rw [ah e4] at h0;have h1:=Ro o1 h0
  have f1:(c.ai aT).f.1=0:=Classical.byContradiction fun hb=>by
   rw [tM hb] at h0;exact hb h0
  have h2:=dO h f1;simp only [wdsWt,Nat.zero_add] at h1;show 256 + wdsWt (listF fg bE bigN (c.ai aT) []).2 + 64 + 0 + fU (listF fg bE bigN (c.ai aT) []).1<=_;omega
 rename_i e4;rw [ag e4] at h0;split
 ·rename_i e5;rw [ah e5] at h0;have h0:(((K (c.ai aT)).2.ai cX).bP.ai bE).f.1=0:=h0;have h1:=dO ((hK.ok o1 d1).ai cX).bP h0;have h2:=yH ((hK.ok o1 d1).ai cX) (bM h0);have h3:=dO (hK.ok o1 d1) (kA (bM h0));have f1:=bM (kA (bM h0));have h4:=hK.wt _ o1 d1 f1;have h5:=dO h (hK.fine o1 d1 f1);show 320 + (cp.wt + (K (c.ai aT)).1.wt + 0) + fU (((K (c.ai aT)).2.ai cX).bP.ai bE)<=_;omega
 rename_i e5;rw [ag e5] at h0;split
 ·rename_i e6;rw [ah e6] at h0;have h0:((K (c.ai aT)).2.ai bE).f.1=0:=h0;have h3:=dO (hK.ok o1 d1) h0;have f1:=bM h0;have h4:=hK.wt _ o1 d1 f1;have h5:=dO h (hK.fine o1 d1 f1);show 320 + (cp.wt + (K (c.ai aT)).1.wt + 0) + fU ((K (c.ai aT)).2.ai bE)<=_;omega
 rename_i e6;rw [ag e6] at h0;split
 ·rename_i e7;rw [ah e7] at h0;have h1:=Bo hK h hd h0;show 320 + (mkPts (cI K false c).1).wt + fU (cI K false c).2<=_;omega
 rename_i e7;rw [ag e7] at h0;split
 ·rename_i e8;rw [ah e8] at h0;have h1:=Bo hK h hd h0;show 320 + (mkPts (cI K true c).1).wt + fU (cI K true c).2<=_;omega
 rename_i e8;rw [ag e8] at h0;split
 ·rename_i e9;rw [ah e9] at h0;have h0:((c.ai aT).aq.ai bE).f.1=0:=h0;have h1:=dO o1.aq h0;have h2:=nu o1 (bM h0);have h3:=dO h (Bl (bM h0));show 256 + 0 + (c.ai aT).aK.wt + 0 + fU ((c.ai aT).aq.ai bE)<=_;omega
 ·show 320 + fU c<=_;omega
end
theorem av.deep {c:au} (h:av c) (hd:c.d < 24):av c.deep:=pe h hd
theorem tN:∀ (n:Nat),n<=24->IV (pKind n) (24 - n)
 | 0,_=>⟨⟨rKind 0,fun c q h hd=>jY 0 c q h hd (by omega)⟩,fun c h hd h0=>by
  rw [pKind] at h0
  exact absurd h0 (yA (by decide))⟩
 | n + 1,hn=>⟨⟨rKind (n + 1),fun c q h hd=>jY (n + 1) c q h hd hn⟩,fun c h hd h0=>by
  have ih:=tN n (by omega);rw [pKind] at h0 ⊢;have o1:=h.deep (by omega);split
  ·rename_i ht;rw [ah ht] at h0;have o2:=o1.step
   have d2:c.deep.step.d=24 - n:=by
    rw [(aR.step _).d];show c.d + 1=_;omega
   have m1:=vK o1 (Sm.rZ ht) (Bf ht);unfold WE at m1;have m1:fU c.deep.step + (1024 + 2 * if c.deep.aF.k=1 then c.deep.aF.s.size else 0)=fU c:=m1;split
   ·rename_i hB;rw [ah hB] at h0;have hb:=Rp ih (w:=c.deep.aF.s) (a:=c.aF.a) o2 d2 h0;show (cj (pKind n) c.deep.aF.s c.aF.a c.deep.step).2.1.wt + fU (cj (pKind n) c.deep.aF.s c.aF.a c.deep.step).2.2<=_;omega
   ·rename_i hB;rw [ag hB] at h0;obtain ⟨K',hs⟩:=ih.sim;obtain ⟨e1,_⟩:=yC (K':=K') hs (q:=([],(0,0))) (by simpa using hB:(cj (pKind n) c.deep.aF.s c.aF.a c.deep.step).1=false);rw [e1] at h0;exfalso;have h0:(c.deep.step.cK 9 c.deep.aF.a).f.1=0:=h0;unfold au.cK at h0
    grind
  ·rename_i ht;rw [ag ht] at h0
   exact absurd h0 (iq (c:=c.deep))⟩
theorem k24:IV (pKind 24) 0:=tN 24 (bn _)
theorem yJ {c:au} {l:List (Wd × Wd)} (h:av c):av (mi c l).1/\aR c (mi c l).1:=by
 have hs:=@uL l c _ (Sm.self h);exact ⟨hs.sm.ok,hs.st⟩
end Go.Proofs.YtfdedoiiahbnnaaGreat
namespace Go.Proofs.YtfdedoiiahbnnaaGreat
namespace Dv
open Go Go.RowKit
inductive nH
 | fin
 | op (i:Nat) (t:nH)
 | ev (i:Nat) (t alt:nH)
 | stop
section
variable {P:Program} {ops:Array Oper} {C:World->Prop} {Q:Act->World->Prop} {W:Nat->Bool}
def rdy (ops:Array Oper) (rem:List Nat) (i:Nat):Bool:=
 match ops[i]? with
 | some o=>o.after.toList.all fun e=>!Region.binds .any e || !rem.contains e.on
 | none=>false
def UI (ops:Array Oper) (i:Nat):Bool:=match ops[i]? with | some o=>isE o.op | none=>false
def chkA (ops:Array Oper):nH->List Nat->Option (List Nat)->Bool
 | .fin,rem,m=>m.isNone && rem.isEmpty
 | .op i t,rem,m=>m.isNone && (rem.contains i && (!UI ops i && (rdy ops rem i && chkA ops t (rem.erase i) none)))
 | .ev i t alt,rem,m=>rem.contains i && (UI ops i && (rdy ops rem i && (chkA ops t (rem.erase i) none && chkA ops alt rem (some (i :: m.getD [])))))
 | .stop,rem,m=>match m with
  | some seen=>rem.all fun j=>!rdy ops rem j || seen.contains j
  | none=>false
def Cl (ops:Array Oper) (rem:List Nat):Prop:=∀ (k:Nat) o,ops[k]? = some o->k ∉ rem->∀ e∈o.after,Region.binds .any e=true->e.on ∉ rem
theorem mq {rem:List Nat} {i:Nat} (h:rdy ops rem i=true):∃ o,ops[i]? = some o/\∀ e∈o.after,Region.binds .any e=true->e.on ∉ rem:=by grind [rdy]
theorem pg {rem:List Nat} {i j:Nat} (h:rdy ops rem i=true):rdy ops (rem.erase j) i=true:=by grind [mq,rdy]
theorem yK {rem:List Nat} (hn:rem.Nodup) (hc:Cl ops rem) {i:Nat} (h:rdy ops rem i=true):Cl ops (rem.erase i):=by
 intro k o ho hk e he hb hm;have mA:=List.mem_of_mem_erase hm;by_cases ue:k=i
 ·grind [mq]
 ·exact hc k o ho (fun hkm=>hk ((List.mem_erase_of_ne ue).2 hkm)) e he hb mA
theorem Rq {rem:List Nat} (hc:Cl ops rem):∀ (n:Nat) (j k:Nat) o,ops[k]? = some o->(∀ e∈o.after,Region.binds .any e=true->e.on ∉ rem)->ordB ops n j k=true->j ∉ rem
 | 0,j,k,o,_,_,h=>by simp [ordB] at h
 | n + 1,j,k,o,ho,iV,h=>by
  simp only [ordB,ho,List.any_eq_true,bg,Bool.or_eq_true] at h;obtain ⟨e,he,hb,hj⟩:=h;have Xx:e∈o.after:=sU he;have h1:=iV e Xx hb;rcases hj with hj | hj
  ·have:e.on=j:=sU hj;rw [<- this];exact h1
  ·cases Xy:ops[e.on]? with
   | none=>
    cases n with
    | zero=>simp [ordB] at hj
    | succ n=>simp [ordB,Xy] at hj
   | some o'=>exact Rq hc n j e.on o' Xy (hc e.on o' Xy h1) hj
theorem Rr {i:Nat} {o:Oper} (h:ops[i]? = some o):UI ops i=isE o.op:=by unfold UI;rw [h]
end
def adn (ops:Array Oper):Bool:=Region.noSelect ops && (List.range ops.size).all fun i=>match ops[i]? with | some o=>o.after.toList.all fun e=>!Region.binds .any e || Nat.blt e.on ops.size | none=>true
section
variable {X:Ctx} {D:Dw}
end
end Dv
end Go.Proofs.YtfdedoiiahbnnaaGreat
namespace Go.Proofs.YtfdedoiiahbnnaaGreat
namespace Dv
open Go Go.RowKit
section
variable {X:Ctx} {st:St} {k:List It} {o:Oper}
theorem Rs:∀ l:List Value,(vL l).length=l.length
 | []=>rfl
 | v :: r=>by simp [vL,Rs r]
theorem Rt {E:En}:∀ l:List Value,(∀ v∈l,v.oneCell'=true)->RvL E (vL l) l
 | [],_=>cO E
 | v :: r,h=>rvL_cons (fm (h v (by simp))) (Rt r fun x hx=>h x (fA _ hx))
theorem Ru {t d et e jS n:Nat} {bb:Bool} {z:List Value} (zs:List Value) (hop:o.op = .buildSlice t 1 #[(0,.const (.agg zs.toArray))]) (kh:o.dst=some d) (hT:X.T.find t=some ⟨n,bb,.sl et e jS,z⟩) (hz1:zs.all (fun v=>v.oneCell')=true)
  (hc:(Nat.beq zs.length e && (Nat.blt 0 e && Nat.ble e 16777216))=true) (hd:eV X.nt st.sl (some d)=true) (bp:X.still=false:=by exact rfl) (hX:X.bt=[]:=by exact rfl)
  : OpS X o st ⟨(d,⟨[],.sl e [vL zs] (some st.tk.length)⟩) :: st.sl,st.bx,st.tk ++ [⟨1,et,e,none⟩]⟩:=by
 simp only [bg,Nat.beq_eq,Nat.ble_eq,Nat.blt_eq] at hc;obtain ⟨hzl,DX,hsm⟩:=hc;obtain ⟨hu,ii,zv,v7,hz,di,zh,NH⟩:=fo X.hT hT;have hz1:∀ v∈zs,v.oneCell'=true:=fun v hv=>List.all_eq_true.1 hz1 v hv;have hvL:(vL zs).length=zs.length:=Rs zs;obtain ⟨len,AU⟩:∃ len,len=1:=⟨1,rfl⟩;obtain ⟨es,Rw⟩:∃ es,es=[vL zs]:=⟨_,rfl⟩;obtain ⟨vs,UJ⟩:∃ vs,vs=[Value.agg zs.toArray]:=⟨_,rfl⟩;rw [<- AU,<- Rw];rw [<- AU] at hop;have nK:0 < len:=by omega
 have hlen:es.length=len:=by rw [Rw,AU];all_goals rfl
 have we:vs.length=es.length:=by rw [UJ,Rw];all_goals rfl
 have fD:∀ v∈vs,v.cells.toList.length=e:=by
  rw [UJ];intro v hv;simp only [List.mem_singleton] at hv;subst hv;simpa [Value.cells] using hzl
 have NU:cellsL vs=zs:=by rw [UJ];simp [cellsL,Value.cells]
 intro E a w h
 have Xi:RvC E.cl es.flatten (cellsL vs):=by
  rw [Rw,NU];refine ⟨?_,hz1⟩;simp only [List.flatten_cons,List.flatten_nil,List.append_nil];exact Rt zs hz1
 have Hh:∀ cs∈es,cs.length=e:=by
  rw [Rw];intro cs cx;simp only [List.mem_singleton] at cx;subst cx;rw [hvL];exact hzl
 have hsm:len * e<=16777216:=by rw [AU];omega
 subst di
 have Lj:len * ii.size≠0:=by
  have:=Nat.mul_pos nK DX;omega
 have lG:Instr.fill (fun i=>some (i * ii.size,ii.size)) ((Array.range (len * ii.size)).map (zv.cells[·% zv.cells.size]!)) ((#[(0,Operand.const (Value.agg zs.toArray))]:Array (Nat × Operand)).map fun (i,x)=>(i,a.eval x)).toList=some (cellsL vs).toArray:=by
  have h0:=qP ii.size vs 0 ((Array.range (len * ii.size)).map (zv.cells[·% zv.cells.size]!)).toList fD (by simp [we,hlen])
  have h1:((#[(0,Operand.const (Value.agg zs.toArray))]:Array (Nat × Operand)).map fun (i,x)=>(i,a.eval x)).toList=enumF 0 vs:=by
   rw [UJ];simp only [List.map_toArray,List.map_cons,List.map_nil];rfl
  rw [h1];simp only [Array.toArray_toList] at h0;rw [h0];simp [we,hlen]
 have bS:(execOp a.eval o).run X.P w = .ok (.value (.slice (some ⟨w.heap.size,0,none⟩) len len)) (w.alloc (.cells (cellsL vs).toArray et)):=by
  simp only [execOp,hop,Sem.run_bind,run_buildSlice w t et len _ _ ii zv hu v7 hz (by omega) Lj lG,Result.andThen_ok,Sem.run_pure]
 refine ej bS ?_;rw [kh];have hr:=sC (arr:=cellsL vs) h bp et
 have Fz:(cellsL vs).length=len * ii.size:=by
  have:∀ l:List Value,(∀ v∈l,v.cells.toList.length=ii.size)->(cellsL l).length=l.length * ii.size:=by
   intro l
   induction l with
   | nil=>intro _;simp [cellsL]
   | cons v l ih=>grind [cellsL]
  rw [this vs fD,we,hlen]
 have j8:=Kk (n:=len) (ty:=et) (e:=ii.size) (cap:=len) hr bp hX (g:=w.heap.size) (cur:=(cellsL vs).toArray) (gI w _) (by simp [Fz]) (bn _) (by
   have:len<=len * ii.size:=Nat.le_mul_of_pos_right _ DX;unfold maxLen;omega) (fun hm=>by have:=h.env.bm hm;omega) (fun x v hx GZ=>by
   have hx:eW E.c (w.alloc (.cells (cellsL vs).toArray et)) w.heap.size (cellsL vs).length x=some v:=hx;unfold eW at hx;split at hx
   ·rename_i hc;rw [<- Fz];exact hc.2.2
   ·have:=World.block_lt_of_cell? w x (h.env.sub x v hx);omega) (fun j y hy hg=>by
   have:=(h.env.own (mG hy) hg).1
   omega) (h.fr.size)
 have ado:Ext E ⟨eW E.c (w.alloc (.cells (cellsL vs).toArray et)) w.heap.size (cellsL vs).length,E.β,E.tk ++ [⟨len,et,ii.size,none⟩],E.τ ++ [.slice (some ⟨w.heap.size,0,none⟩) len len]⟩:=⟨fun x v hx=>by
  have aE:=World.block_lt_of_cell? w x (h.env.sub x v hx);show eW _ _ _ _ _=_;unfold eW;rw [ag (by omega)];exact hx,fun _ _ h=>h,fun k q' hk=>by
  have aE:=(gS hk).1;refine ⟨q',by show (E.tk ++ _)[k]? = _;rw [ei aE];exact hk,.inl ⟨rfl,?_⟩⟩;show (E.τ ++ _)[k]? = _
  rw [ei (by rw [h.env.tl];exact aE)]⟩
 refine ⟨_,bh j8 hd (.sl ii.size es (some st.tk.length)) _ ?_,ado,⟨[],by simp⟩,fun i b hb _=>alloc_old w _ (h.env.bm (mG hb))⟩;unfold Rv;refine ⟨_,_,_,rfl,⟨hlen.symm,bn _⟩,fun bo=>⟨rfl,?_⟩,fun k' gU=>?_⟩
 ·have jk:∀ x v,E.c x=some v->eW E.c (w.alloc (.cells (cellsL vs).toArray et)) w.heap.size (cellsL vs).length x=some v:=fun x v hx=>by
   have aE:=World.block_lt_of_cell? w x (h.env.sub x v hx);unfold eW;rw [ag (by omega)];exact hx
  have hm:RvC (En.cl ⟨eW E.c (w.alloc (.cells (cellsL vs).toArray et)) w.heap.size (cellsL vs).length,E.β,E.tk,E.τ⟩) es.flatten (cellsL vs):=Xi.mono (Ext.SN (E:=E) jk);refine rvEs_flat hm Hh fun j u hj=>?_;show eW _ _ _ _ _=_;have jw:=(gS hj).1;simp only [ab,ao,Nat.zero_add];rw [vw jw,cJ (gI w _)];simpa using hj
 ·cases gU;refine ⟨⟨len,et,ii.size,none⟩,?_,bn _,fun _=>?_⟩
  ·show (E.tk ++ _)[st.tk.length]? = _;rw [h.tk];simp
  ·show (E.τ ++ _)[st.tk.length]? = _;rw [<- h.tk,<- h.env.tl];simp
end
section
variable {X:Ctx}
end
end Dv
end Go.Proofs.YtfdedoiiahbnnaaGreat
namespace Go.Proofs.YtfdedoiiahbnnaaGreat
namespace Dv
open Go Go.RowKit
mutual
def sbD (n:Nat):DV->DV
 | .agg l=>.agg (sbL n l)
 | .bK l=>.bK (sbL n l)
 | .loc i o=>.loc (n + i) o
 | .el i o=>.el (n + i) o
 | .ms i e o l c=>.ms (n + i) e o l c
 | .fn f a b=>.fn f (sbL n a) (sbL n b)
 | .pY t x=>.pY t (sbD n x)
 | .sl e es tk=>.sl e es (match tk with | some _=>none | none=>none)
 | .v x=>.v x
 | .ud=>.ud
 | .pt cs o=>.pt cs o
def sbL (n:Nat):List DV->List DV
 | []=>[]
 | d :: r=>sbD n d :: sbL n r
end
mutual
theorem tO {n:Nat} {E2 E:En} (hc:E.c=E2.c) (hβ:∀ (i:Nat) b,E2.β[i]? = some b->E.β[n + i]? = some b):∀ {d:DV} {v:Value},Rv E2 d v->Rv E (sbD n d) v
 | .v x,v,h=>by simpa only [Rv,sbD] using h
 | .ud,v,h=>by simpa only [Rv,sbD] using h
 | .agg l,v,h=>by
  simp only [Rv,sbD] at h ⊢;obtain ⟨vs,h1,h2,h3⟩:=h;exact ⟨vs,h1,mr hc hβ h2,h3⟩
 | .bK l,v,h=>by
  simp only [Rv,sbD] at h ⊢;obtain ⟨vs,h1,h2⟩:=h;exact ⟨vs,h1,mr hc hβ h2⟩
 | .sl e es tk,v,h=>by
  have he:E.cl=E2.cl:=by simp [En.cl,hc]
  simp only [Rv,sbD] at h ⊢;obtain ⟨b,m,cap,h1,h2,h3,h4⟩:=h;refine ⟨b,m,cap,h1,h2,fun hn=>⟨(h3 hn).1,by rw [he];exact (h3 hn).2⟩,?_⟩;intro k hk;cases tk<;>cases hk
 | .pt cs off,v,h=>by
  have he:E.cl=E2.cl:=by simp [En.cl,hc]
  simp only [Rv,sbD] at h ⊢;rw [he];exact h
 | .loc i off,v,h=>by
  simp only [Rv,sbD] at h ⊢;obtain ⟨b,h1,h2⟩:=h;exact ⟨b,hβ i b h1,h2⟩
 | .el i off,v,h=>by
  simp only [Rv,sbD] at h ⊢;obtain ⟨b,h1,h2⟩:=h;exact ⟨b,hβ i b h1,h2⟩
 | .ms i e off len cap,v,h=>by
  simp only [Rv,sbD] at h ⊢;obtain ⟨b,a,h1,h2⟩:=h;exact ⟨b,a,hβ i b h1,h2⟩
 | .fn f a b,v,h=>by
  simp only [Rv,sbD] at h ⊢;obtain ⟨l,r,h1,h2,h3⟩:=h;exact ⟨l,r,h1,mr hc hβ h2,mr hc hβ h3⟩
 | .pY t x,v,h=>by
  simp only [Rv,sbD] at h ⊢;obtain ⟨z,h1,h2⟩:=h;exact ⟨z,h1,tO hc hβ h2⟩
theorem mr {n:Nat} {E2 E:En} (hc:E.c=E2.c) (hβ:∀ (i:Nat) b,E2.β[i]? = some b->E.β[n + i]? = some b):∀ {l:List DV} {vs:List Value},RvL E2 l vs->RvL E (sbL n l) vs
 | [],vs,h=>by simpa only [RvL,sbL] using h
 | d :: r,vs,h=>by
  simp only [RvL,sbL] at h ⊢;obtain ⟨v,s,h1,h2,h3⟩:=h;exact ⟨v,s,h1,tO hc hβ h2,mr hc hβ h3⟩
end
def EvN (P:Program) (f:FuncId) (args:List DV) (Φ:DV->List (List DV)->Prop):Prop:=
 ∀ (E:En) (w:World) (vs:List Value),Env E [] w->E.tk=[]->RvL E args vs->Calls P f vs.toArray w fun e w'=>∃ v,e = .returned v/\qQ E.S w w' /\
  ∃ d os E',Env E' os w' /\ E'.tk=[]/\Nw E E' w/\(∀ cs∈os,clB.clL 0 0 cs=true)/\Rv E' d v/\Φ d os
section
variable {X:Ctx} {st:St} {k:List It} {E:En} {a:Act} {w:World}
theorem IW (h:Rel X E st a w) (bp:X.still=false) {E2:En} {os:List (List DV)} {w':World} (hm:qQ (E.cl).S w w') (he:Env E2 os w') (hn:Nw E.cl E2 w) (fD:∀ cs∈os,clB.clL 0 0 cs=true) (hbt:X.bt=[]) :
  Rel X ⟨E2.c,E.β ++ E2.β,E.tk,E.τ⟩ ⟨st.sl,st.bx ++ os,st.tk⟩ a w' /\ Ext E ⟨E2.c,E.β ++ E2.β,E.tk,E.τ⟩:=by
 have hh:∀ i,i < w.heap.size->w'.heap[i]? = w.heap[i]?:=fun i hi=>hm.block i hi (by
  rintro (h1 | ⟨y,h1,_⟩)
  ·simp [En.cl] at h1
  ·simp [En.cl] at h1)
 have dB:∀ x v,E2.c x=some v->E.c x=some v∨w.heap.size<=x.block:=fun x v hx=>by
  rcases hn.cn x v hx with h1 | h1 | ⟨y,h1,_⟩
  ·exact .inl h1
  ·exact .inr h1
  ·simp [En.cl] at h1
 have iW:∀ b∈E2.β,w.heap.size<=b:=by
  obtain ⟨r,hr,j8⟩:=hn.β;simp only [En.cl,List.nil_append] at hr;rw [hr];exact j8
 have hx:Ext E ⟨E2.c,E.β ++ E2.β,E.tk,E.τ⟩:=⟨hn.c,fun i b hb=>by
  show (E.β ++ E2.β)[i]? = _;rw [ei (gS hb).1]
  exact hb,fun _ q h=>⟨q,h,.inl ⟨rfl,rfl⟩⟩⟩
 have hk:=h.env.gW hh;refine ⟨dr h hx ?_ h.tk ?_ (h.fr.cu hm.os hm.tape hm.output hm.size fun i hi=>.inr (hh i hi)) (mJ bp) (.nil hbt),hx⟩
 ·exact {
   len:=by
    show (E.β ++ E2.β).length=(st.bx ++ os).length;rw [List.length_append,List.length_append,h.env.len,he.len]
   tl:=h.env.tl
   dY:=fun i cs hi=>by
    rw [List.getElem?_append] at hi;split at hi
    ·obtain ⟨b,ty,arr,hb,hw,hc⟩:=hk.dY i cs hi;exact ⟨b,ty,arr,hx.β i b hb,hw,hc.mono hx⟩
    ·rename_i hge;obtain ⟨b,ty,arr,hb,hw,hc⟩:=he.dY _ cs hi;refine ⟨b,ty,arr,?_,hw,⟨RvL.mono (E:=E2.cut 0 0) ⟨fun _ _ h=>h,fun i b hb=>by simp [En.cut] at hb,fun k q hq=>by simp [En.cut] at hq⟩ (RvL.cut hc.1 (fD cs (mG hi))),hc.2⟩⟩;show (E.β ++ E2.β)[i]? = _;rw [List.getElem?_append_right (by rw [h.env.len];omega),h.env.len];exact hb
   inj:=by
    show (E.β ++ E2.β).Nodup;rw [List.nodup_append];refine ⟨h.env.inj,he.inj,fun x hx1 y zt NQ=>?_⟩;have:=h.env.bm hx1;have:=iW y zt;omega
   sub:=he.sub
   pc:=fun x v hc mA=>by
    rcases List.mem_append.1 mA with mA | mA
    ·rcases dB x v hc with h1 | h1
     ·exact h.env.pc x v h1 mA
     ·have:=h.env.bm mA;omega
    ·exact he.pc x v hc mA
   c9:=fun k q y hq hy=>by
    rcases hk.c9 k q y hq hy with h1 | ⟨g',cap,cur,rfl,h1,h2,h3,h4,h5,h6⟩
    ·exact .inl h1
    ·have hg:=(iD (h.env.c9 k q _ hq hy) (g:=g') rfl).1;refine .inr ⟨g',cap,cur,rfl,h1,⟨h2.1,h2.2.mono hn.c⟩,h3,h4,fun mA=>?_,fun x v hc vY=>?_⟩
     ·rcases List.mem_append.1 mA with mA | mA
      ·exact h5 mA
      ·have:=iW g' mA;omega
     ·rcases dB x v hc with h7 | h7
      ·exact h6 x v h7 vY
      ·omega
   iB:=h.env.iB }
 ·exact {
   c:=fun x v hc=>hn.c x v (h.nw.c x v hc)
   cn:=fun x v hc=>by
    rcases dB x v hc with h1 | h1
    ·exact h.nw.cn x v h1
    ·have:=h.fr.size;exact .inr (.inl (by omega))
   β:=by
    obtain ⟨r,hr,j8⟩:=h.nw.β;refine ⟨r ++ E2.β,by show E.β ++ E2.β=_;rw [hr,List.append_assoc],fun b hb=>?_⟩;rcases List.mem_append.1 hb with hb | hb
    ·exact j8 b hb
    ·exact Nat.le_trans h.fr.size (iW b hb)
   tk:=h.nw.tk
   tn:=h.nw.tn
   l0:=h.nw.l0 }
theorem Y7 {f:FuncId} {args bF:List DV} {d:Nat} (gh:Enters X.P f) (hd:eV X.nt st.sl (some d)=true) {Φ:DV->List (List DV)->Prop} (hc:EvN X.P f bF Φ) (ha:CcL [] 0 0 0 bF args)
  (hk:∀ r os,Φ r os->go X 4000 k ⟨(d,⟨[],sbD st.bx.length r⟩) :: st.sl,st.bx ++ os,st.tk⟩) (hbt:X.bt=[]:=by exact rfl) (bp:X.still=false:=by exact rfl):CallG X f args (some d) k st:=by
 refine ⟨gh,bp,fun E a w vs h hv=>?_⟩;have WZ:RvL E.cl bF vs:=CcL.sound (E:=E) (E':=E.cl) ⟨fun _ _ h=>h,fun i cs _ hi=>by simp at hi⟩ (Jz.zero _ _) ha hv;refine (hc E.cl w vs (Hl h.env) rfl WZ).mono ?_;rintro e w' ⟨v,rfl,hm,r,os,E2,he,_,hn,fD,hr,hΦ⟩;obtain ⟨cm,hx⟩:=IW h bp hm he hn fD hbt;refine go_sound 4000 _ _ (hk r os hΦ) _ _ w' (bh cm hd _ v (tO (E2:=E2) (E:=⟨E2.c,E.β ++ E2.β,E.tk,E.τ⟩) (n:=st.bx.length) rfl (fun i b hb=>?_) hr));show (E.β ++ E2.β)[_]? = _;rw [List.getElem?_append_right (by rw [h.env.len];omega),h.env.len];simpa using hb
theorem M0 {c:Code} {Q:Exit->Act->World->Prop} (J:St->Prop) (n:Nat) (h:Rel X E st a w) (hg:go X n [.code c,.GX J] st) (hΦ:∀ d os tk,¬ X.Φ d os tk) (hp:∀ st' E' a' w',Rel X E' st' a' w' -> J st' -> Q .normal a' w'):c.wp X.P Q a w:=by
 refine wp_mono (go_sound n _ _ hg E a w h) ?_;intro e a w hk
 cases e with
 | normal=>obtain ⟨st',E',h1,h2⟩:=hk;exact hp _ _ _ _ h1 h2
 | ret=>obtain ⟨_,v,_,⟨_,_,d,os,E2,_,_,_,_,_,h⟩,_⟩:=hk;exact (hΦ _ _ _ h).elim
 | exit _=>exact hk.elim
 | goto _=>exact hk.elim
 | panic _=>exact hk.elim
 | outgrown=>exact hk.elim
theorem UK (h:Rel X E st a w) {d e:DV} (hr:resD X.T st X.rs=some [d,e]) {post:Ending->World->Prop} (hp:∀ v,Rv E (.bK [d,e]) v->post (.returned v) w):bodyPost X.P X.fn post .ret a w:=by
 have wv:X.fn.results=X.rs.toArray:=by rw [<- X.tW]
 obtain ⟨vs,va,h1⟩:=ke h hr;have hl:=va.length;have bo:¬ vs.toArray.size=1:=by simp at hl ⊢;omega
 have h2:(results X.fn a.tmps).run X.P w = .ok (if h:vs.toArray.size=1 then vs.toArray[0] else .tuple vs.toArray) w:=by
  rw [wu,wv]
  simp_all
 rw [dif_neg bo] at h2;exact ⟨h.df,_,h2,hp _ (by unfold Rv;exact ⟨vs,rfl,va⟩)⟩
theorem Rx {bx:List (List DV)} (h:Env E bx w) {i b:Nat} {cs:List DV} (hi:bx[i]? = some cs) (hb:E.β[i]? = some b) (fD:clB.clL 0 0 cs=true):Env ⟨E.c,[b],[],[]⟩ [cs] w where
 len:=rfl
 tl:=rfl
 dY:=fun j cs' hj=>by
  cases j with
  | succ j=>simp at hj
  | zero=>
   simp only [List.getElem?_cons_zero,oI] at hj;subst hj;obtain ⟨b',ty,arr,ef,hw,hc⟩:=h.dY i cs hi;rw [hb] at ef;cases ef;exact ⟨b,ty,arr,rfl,hw,⟨RvL.mono (E:=E.cut 0 0) ⟨fun _ _ h=>h,fun i b hb=>by simp [En.cut] at hb,fun k q hq=>by simp [En.cut] at hq⟩ (RvL.cut hc.1 fD),hc.2⟩⟩
 inj:=by simp
 sub:=h.sub
 pc:=fun x v hc hm=>by
  simp only [List.mem_singleton] at hm;exact h.pc x v hc (hm ▸ mG hb)
 c9:=fun k q y hq=>by simp at hq
 iB:=fun k k' y y' g _ hy=>by simp at hy
end
end Dv
end Go.Proofs.YtfdedoiiahbnnaaGreat
set_option maxRecDepth 100000
namespace Go.Proofs.YtfdedoiiahbnnaaGreat
open Go Go.RowKit Go.Lib Dv Go.Proofs.Tryz
abbrev nO (l:List dD):au:=⟨l,0,0,0,0⟩
set_option maxHeartbeats 4000000 in
theorem Y8 (s:ByteArray) (l:List dD) (wh:bA prog 157 [.v (.string s)] (.bK [.sl 5 (gp l) none,Ft.d (0,0)])) :
  EvN prog 85 [.v (.string s)] (fun r os=>r = .bK [.loc 0 0,Ft.d (0,0)]/\os=[aH (nO l)]):=by
 intro E w vs hE gj hv;simp only [RvL] at hv;obtain ⟨v1,s1,rfl,h1,rfl⟩:=hv;have h1:=bL h1;subst h1;have ZK:=Hl hE;obtain ⟨c,β,tk,τ⟩:=E;change Env ⟨c,[],[],[]⟩ [] w at ZK;have mixed:=mo;obtain ⟨w1,zA⟩:∃ w1,w1=w.alloc (.cells #[.int .i64 0,.int .i64 0] 26 (0,0)):=⟨_,rfl⟩;have qL:∀ k,k < w.heap.size->w1.heap[k]? = w.heap[k]?:=fun k hk=>by rw [zA];exact Below.heap_alloc _ _ _ hk
 have nU:w1.heap[w.heap.size]? = some (.cells #[.int .i64 0,.int .i64 0] 26 (0,0)):=by rw [zA];exact Array.getElem?_push_size
 have hE1:=ZK.gW qL;have Oy:=wh _ w1 [.string s] hE1 rfl (by simp only [RvL];exact ⟨_,_,rfl,fm rfl,rfl⟩)
 go_enter func85,ntmps85
 go_wp2_with (go_at_call 157;rw [<- zA];refine Oy.mono ?_)
 have HW1:=Lib.hid zA;clear zA;intro e w2 v2 he zF;subst he;rw [<- HW1.out] at zF;obtain ⟨DR,_,d2,os2,E2,hE2,hβ2,ht2,Sv,Ss,rfl⟩:=zF;unfold Rv at Ss;obtain ⟨vs,rfl,va⟩:=Ss;simp only [RvL] at va;obtain ⟨x1,r1,rfl,hx1,x2,r2,rfl,Aa,rfl⟩:=va;unfold Ft.d Rv at Aa;obtain ⟨vs2,rfl,Ii,_⟩:=Aa;simp only [RvL] at Ii;obtain ⟨y1,r3,rfl,zt,y2,r4,rfl,mK,rfl⟩:=Ii;obtain rfl:=bL zt;obtain rfl:=bL mK;have adp:=hx1;unfold Rv at hx1;obtain ⟨bs,n,cap,rfl,⟨kR,_⟩,_,_⟩:=hx1;obtain rfl:n=(gp l).length:=kR;generalize (gp l).length=n at adp
 go_wp2
 obtain ⟨w3,DA⟩:∃ w3,w3=w2.alloc (.cells #[.int .i64 0,.int .i64 0] 26 (0,0)):=⟨_,rfl⟩;have hz1:w1.heap.size=w.heap.size + 1:=by rw [HW1.out];simp
 have hz2:w1.heap.size<=w2.heap.size:=DR.size;have hz3:w3.heap.size=w2.heap.size + 1:=by rw [DA];simp
 have hb5:w3.heap[w2.heap.size]? = some (.cells #[.int .i64 0,.int .i64 0] 26 (0,0)):=by rw [DA];exact Array.getElem?_push_size
 have Jy:w3.heap[w.heap.size]? = some (.cells #[.int .i64 0,.int .i64 0] 26 (0,0)):=by
  rw [DA,Below.heap_alloc _ _ _ (by omega),DR.block _ (by omega) (by
   rintro (h1 | ⟨y,h1,_⟩)
   ·simp at h1
   ·simp at h1)]
  exact nU
 rw [<- DA];have HW3:=Lib.hid DA;clear DA;rename_i K hK
 have Ls:∀ x v,E2.c x=some v->x.block < w.heap.size∨(w1.heap.size<=x.block/\x.block < w2.heap.size):=fun x v hx=>by
  rcases Sv.cn x v hx with h1 | h1 | ⟨y,h1,_⟩
  ·exact .inl (World.block_lt_of_cell? w x (ZK.sub x v h1))
  ·exact .inr ⟨h1,World.block_lt_of_cell? w2 x (hE2.sub x v hx)⟩
  ·simp at h1
 have hk3:∀ k,k < w2.heap.size->w3.heap[k]? = w2.heap[k]?:=fun k hk=>by rw [HW3.out];exact Below.heap_alloc _ _ _ hk
 have hE3:Env ⟨E2.c,[w.heap.size,w2.heap.size],[],[]⟩ [NX,NX] w3:={
  len:=rfl
  tl:=rfl
  dY:=fun i cs hi=>by
   match i,hi with
   | 0,hi=>
    cases hi;exact ⟨_,_,[.int .i64 0,.int .i64 0],rfl,Jy,by simp only [RvL];exact ⟨_,_,rfl,⟨rfl,rfl⟩,_,_,rfl,⟨rfl,rfl⟩,rfl⟩,by intro v hv;simp at hv;subst hv;rfl⟩
   | 1,hi=>
    cases hi;exact ⟨_,_,[.int .i64 0,.int .i64 0],rfl,hb5,by simp only [RvL];exact ⟨_,_,rfl,⟨rfl,rfl⟩,_,_,rfl,⟨rfl,rfl⟩,rfl⟩,by intro v hv;simp at hv;subst hv;rfl⟩
   | i + 2,hi=>simp at hi
  inj:=by simp;omega
  sub:=(hE2.gW hk3).sub
  pc:=fun x v hx hm=>by
   simp only [List.mem_cons,List.not_mem_nil,or_false] at hm;have:=Ls x v hx;omega
  c9:=fun k q y hq=>by simp at hq
  iB:=fun k k' y y' g _ hy=>by simp at hy }
 have ht3:E2.tk=[]:=List.eq_nil_of_length_eq_zero ht2;have hx4:Rv ⟨E2.c,[w.heap.size,w2.heap.size],[],[]⟩ (.sl 5 (gp l) none) (.slice bs n cap):=adp.mono (E:=E2) ⟨fun _ _ h=>h,fun i b hb=>by rw [hβ2] at hb;simp at hb,fun k q hq=>by rw [ht3] at hq;simp at hq⟩
 refine M0 (X:=⟨prog,tt,ui,Tryz.f85,19,[.tmp 2,.cell 3 26],rfl,w3,⟨E2.c,[w.heap.size,w2.heap.size],[],[]⟩,2,0,rfl,rfl,false,fun _ _ _=>False,[],[],false⟩)
  (E:=⟨E2.c,[w.heap.size,w2.heap.size],[],[]⟩) (st:=⟨[(2,⟨[],.v (.pointer none)⟩),bq 3 0,dH 4 5 (gp l),bq 5 1],[NX,NX],[]⟩)
  (fun st'=>resD tt st' [.tmp 2,.cell 3 26]=some [.loc 2 0,Ft.d (0,0)]/\st'.bx=[NX,NX,aH (nO l)]) 4000
  {env:=hE3
   tk:=rfl
   sz:=rfl
   tm:=by
    intro i x hx;simp only [dx] at hx;split at hx
    ·rename_i e;cases hx;subst e;exact ⟨fun _=>⟨_,rfl,rfl,rfl⟩,fun hn=>(hn (aX _)).elim⟩
    split at hx
    ·rename_i e;cases hx;subst e;exact ⟨fun _=>⟨_,rfl,w.heap.size,rfl,rfl⟩,fun hn=>(hn (aX _)).elim⟩
    split at hx
    ·rename_i e;cases hx;subst e;exact ⟨fun _=>⟨_,rfl,hx4⟩,fun hn=>(hn (aX _)).elim⟩
    split at hx
    ·rename_i e;cases hx;subst e;exact ⟨fun _=>⟨_,rfl,w2.heap.size,rfl,rfl⟩,fun hn=>(hn (aX _)).elim⟩
    ·cases hx
   df:=rfl
   nw:=Nw.refl hE3
   fr:=⟨rfl,rfl,rfl,bn _,fun _ _ _=>rfl⟩
   sh:=fun h=>by cases h
   bt:=fun p hp=>by cases hp } ?_ (fun _ _ _ h=>h) ?_
 ·refine cr [0] (fun _=>false) mo (by decide +kernel) ?_;exact ⟨rfl,rfl⟩
 ·intro st' E' a' w' cm ⟨Hj,kN⟩;have hβ':=cm.nw.β;obtain ⟨r,hr,j8⟩:=hβ';have hr:E'.β=[w.heap.size,w2.heap.size] ++ r:=hr;have hlen:=cm.env.len;rw [hr,kN] at hlen
  match r,hlen with
  | [b],_=>
   have hb:E'.β[2]? = some b:=by rw [hr];all_goals rfl
   have G2:w3.heap.size<=b:=j8 b (by simp);have adq:=Rx (i:=2) (cs:=aH (nO l)) cm.env (by rw [kN];rfl) hb rfl
   have hold:∀ k,k < w.heap.size->w'.heap[k]? = w.heap[k]?:=fun k hk=>by
    rw [cm.fr.block k (by show k < w3.heap.size;omega) (by
     rintro (h1 | ⟨y,h1,_⟩)
     ·simp only [List.mem_cons,List.not_mem_nil,or_false] at h1;omega
     ·simp at h1),hk3 k (by omega),DR.block k (by omega) (by
     rintro (h1 | ⟨y,h1,_⟩)
     ·simp at h1
     ·simp at h1),qL k hk]
   refine hK a' w' (wp_ret ?_);refine UK cm Hj fun v hv=>?_;have h1:=cm.fr;have q1:w1.os=w.os/\w1.tape=w.tape/\w1.output=w.output:=by rw [HW1.out];exact ⟨rfl,rfl,rfl⟩
   have q3:w3.os=w2.os/\w3.tape=w2.tape/\w3.output=w2.output:=by rw [HW3.out];exact ⟨rfl,rfl,rfl⟩
   have hz4:w3.heap.size<=w'.heap.size:=h1.size;refine ⟨v,rfl,⟨?_,?_,?_,by omega,fun k hk _=>hold k hk⟩,_,_,_,adq,rfl,?_,?_,?_,rfl,rfl⟩
   ·rw [show w'.os=w3.os from h1.os,q3.1,DR.os,q1.1]
   ·rw [show w'.tape=w3.tape from h1.tape,q3.2.1,DR.tape,q1.2.1]
   ·rw [show w'.output=w3.output from h1.output,q3.2.2,DR.output,q1.2.2]
   ·have eβ:β=[]:=List.eq_nil_of_length_eq_zero hE.len;have eτ:τ=[]:=List.eq_nil_of_length_eq_zero (by have:=hE.tl;rw [this,gj];rfl);have etk:tk=[]:=gj;subst eβ eτ etk
    exact {
     c:=fun x v hx=>cm.nw.c x v (Sv.c x v hx)
     cn:=fun x v hx=>by
      rcases cm.nw.cn x v hx with h2 | h2 | ⟨y,h2,_⟩
      ·rcases Sv.cn x v h2 with h3 | h3 | ⟨y,h3,_⟩
       ·exact .inl h3
       ·exact .inr (.inl (by omega))
       ·simp at h3
      ·exact .inr (.inl (by have:w3.heap.size<=x.block:=h2;omega))
      ·simp at h2
     β:=⟨[b],rfl,fun x hx=>by
      simp only [List.mem_singleton] at hx;subst hx
      omega⟩
     tk:=fun k q y hq=>by simp at hq
     tn:=fun k y g _ hy=>by simp at hy
     l0:=rfl }
   ·intro cs cx;simp only [List.mem_singleton] at cx;subst cx;rfl
   ·unfold Rv at hv ⊢;obtain ⟨vs,h2,h3⟩:=hv;refine ⟨vs,h2,?_⟩;simp only [RvL] at h3 ⊢;obtain ⟨a1,s1,rfl,h4,a2,s2,rfl,h5,rfl⟩:=h3;refine ⟨a1,_,rfl,?_,a2,_,rfl,?_,rfl⟩
    ·unfold Rv at h4 ⊢;obtain ⟨b',h6,h7⟩:=h4;rw [hb] at h6;cases h6;exact ⟨b,rfl,h7⟩
    ·exact Rv.mono (E:=E'.cut 0 0) ⟨fun _ _ h=>h,fun i b hb=>by simp [En.cut] at hb,fun k q hq=>by simp [En.cut] at hq⟩ (Rv.cut h5 rfl)
end Go.Proofs.YtfdedoiiahbnnaaGreat
set_option maxRecDepth 100000
namespace Go.Proofs.YtfdedoiiahbnnaaGreat
open Go Go.RowKit Dv Go.Proofs.Tryz
theorem adr {c:au} {k:Int} {s:ByteArray} (h:c.is k s=true) (hk:k≠0):¬ c.aF.k=0:=by
 simp only [au.is,bg,decide_eq_true_eq] at h;omega
theorem vM {c:au} {k:Int} {s:ByteArray} (h:c.is k s=true) (hk:k≠0):c.step={ c with p:=c.p + 1 }:=by rw [au.step,ag (adr h hk)]
theorem mv (c:au) (h:av c):Ev prog 294 [gT] [aH c] [] (jX (.v (.int .i64 c.iu)) c.bP):=by
 have hm:=oC c h 2;have hw:=gO c h;have hC:c.bP=if c.tk 2 then c.step else c.wrong:=rfl
 have hW:c.iu=(c.uG 2).n:=rfl;have hM:c.SE 2=if c.tk 2 then c.step else c:=rfl
 rw [hM] at hm;generalize c.bP=C2 at hC ⊢;generalize c.iu=W at hW ⊢;generalize c.uG 2=t at hm hW;obtain ⟨tk,ta,te,ts,tn⟩:=t;simp only at hW;rw [hW];generalize c.tk 2=B at hC hm
 cases B with
 | true=>
  rw [ah rfl] at hC hm;rw [hC];generalize c.step=C1 at hm ⊢;obtain ⟨l,p,d,f1,f2⟩:=c;obtain ⟨l1,p1,d1,f11,f21⟩:=C1;refine eG 17 [.tmp 2] func294 rfl ntmps294 rfl fun _ _ _ _=>?_;refine ak 1 uk hm ?_;exact ⟨.v (.int .i64 _),[aH _],bB,bB,rfl,rfl,rfl⟩
 | false=>
  rw [ag (by simp)] at hC hm;rw [hC];generalize c.wrong=C1 at hw ⊢;obtain ⟨l,p,d,f1,f2⟩:=c;obtain ⟨l1,p1,d1,f11,f21⟩:=C1;refine eG 17 [.tmp 2] func294 rfl ntmps294 rfl fun _ _ _ _=>?_;refine ak 1 uk hm ?_;refine ak 1 Ac hw ?_;exact ⟨.v (.int .i64 _),[aH _],bB,bB,rfl,rfl,rfl⟩
theorem qH (c:au) (h:av c):Ev prog 295 [gT] [aH c] [] (jX (.v (.int .i64 (jQ c).1)) (jQ c).2):=by
 have h1:=bV c h aT;have h2:=mv _ (h.ai aT);have h3:=bV _ (h.ai aT).bP bE;have hR:jQ c=((c.ai aT).iu,(c.ai aT).bP.ai bE):=rfl;rw [hR];simp only;generalize (c.ai aT).bP.ai bE=c3 at h3 ⊢;generalize (c.ai aT).bP.is 4 bE=B3 at h3;generalize (c.ai aT).bP=c2 at h2 h3;generalize (c.ai aT).iu=n at h2 ⊢;generalize c.ai aT=c1 at h1 h2;generalize c.is 4 aT=B1 at h1;obtain ⟨l,p,d,f1,f2⟩:=c;obtain ⟨l1,p1,d1,f11,f21⟩:=c1;obtain ⟨l2,p2,d2,f12,f22⟩:=c2;obtain ⟨l3,p3,d3,f13,f23⟩:=c3;refine eG 13 [.tmp 2] func295 rfl ntmps295 rfl fun _ _ _ _=>?_;refine ak 1 fX h1 ?_;refine ak 1 Eu h2 ?_;refine ak 1 fX h3 ?_;exact ⟨.v (.int .i64 _),[aH _],bB,bB,rfl,rfl,rfl⟩
theorem Bp (l:List Wd) (w:Wd):cd l ++ [nD w]=cd (l ++ [w]):=by simp [cd]
abbrev Ry (c:au) (l:List Wd) (n:Nat):St:=⟨[bq 1 1,(2,⟨[],.v (.slice none 0 0)⟩),(3,⟨[],.sl 2 (cd l) (some 0)⟩)],[aH c,ln],[⟨n,34,2,none⟩]⟩
theorem uN (c:au) (h:av c):Ev prog 356 [gT] [aH c] [] (jX (.sl 2 (cd (fp c).1) none) (fp c).2):=by
 generalize hR:fp c=R;unfold fp at hR;have hb:=eS;obtain ⟨m,hm⟩:∃ m,bigN=m + 1:=⟨bigN - 1,by omega⟩;rw [hm,pLab] at hR;have hlen:=h.len;have h1:=ed c h;have bp:=aR.aq c;have py:c.aq.l=c.l:=bp.l;have h1k:=h.aq;generalize c.aq=C1 at h1 hR py h1k;generalize c.aK=W at h1 hR;obtain ⟨ws,wa⟩:=W;obtain ⟨l,p,d,f1,f2⟩:=c;obtain ⟨l1,p1,d1,f11,f21⟩:=C1;simp only at py hlen;subst py;refine Cd (s:=false) (bt:=[]) (mu:=[6]) (hbt:=fun p hp=>by cases hp) (fr:=false) (P:=prog) tt ui 5000 16 [.tmp 2] func356 rfl ntmps356 rfl (nL rfl) (fun _ _ _ _=>?_);refine ak 1 nZ h1 ?_;refine YD rfl rfl rfl rfl rfl rfl rfl rfl ?_;refine cH (fun j st=>∃ (c1:au) (l':List Wd) (n:Nat),st=Ry c1 l' n/\n=l'.length/\av c1/\(if c1.is 4 F3=true then pLab j l' c1.step else (l',c1))=R/\c1.l.length<=c1.p + j/\l'.length + j<=bigN) m (Ry ⟨l1,p1,d1,f11,f21⟩ [⟨ws,wa⟩] 1) (kD 2 JB vb) ⟨⟨l1,p1,d1,f11,f21⟩,[⟨ws,wa⟩],1,rfl,rfl,h1k,hR,by show l1.length<=p1 + m;omega,by simp;omega⟩ ?_;rintro j st ⟨c1,l',n,rfl,hn,JE,uO,aE,jk⟩;have hm:=fk c1 JE F3;unfold au.o9 at hm;have kE:=JE.lt
 cases hB:c1.is 4 F3 with
 | false=>
  rw [hB,ag (by simp)] at uO hm;subst uO;obtain ⟨l2,p2,d2,f12,f22⟩:=c1;refine ak 1 gZ hm ?_;exact ⟨.sl 2 (cd _) none,[aH _],bB,bB,rfl,rfl,rfl⟩
 | true=>
  rw [hB,ah rfl] at uO hm;obtain ⟨j,rfl⟩:∃ m,j=m + 1:=⟨j - 1,by omega⟩;rw [pLab] at uO;have hs:=JE.step;have bp:=vM hB (by decide);have h2:=ed _ hs;have ads:=aR.aq c1.step;have e1:c1.step.l=c1.l:=by rw [bp]
  have e2:c1.step.p=c1.p + 1:=by rw [bp]
  have e3:=ads.l;have e4:=ads.p;have hk:=hs.aq;generalize c1.step.aq=C3 at h2 uO e3 e4 hk;generalize c1.step.aK=W3 at h2 uO;generalize c1.step=C2 at hm h2 e1 e2 e3 e4;obtain ⟨us,ua⟩:=W3;obtain ⟨l2,p2,d2,f12,f22⟩:=c1;obtain ⟨l3,p3,d3,f13,f23⟩:=C2;obtain ⟨l4,p4,d4,f14,f24⟩:=C3;simp only at aE e1 e2 e3 e4 kE;subst e1 e2 e3;refine ak 1 gZ hm ?_;refine ak 1 nZ h2 ?_;refine ⟨by rw [aM];exact hn.symm,⟨by simp [maxLen,aM];omega,by simp [aM];omega⟩,?_⟩;exact ⟨Ry ⟨l4,p4,d4,f14,f24⟩ (l' ++ [⟨us,ua⟩]) (n + 1),(kD 2 (Ea (Bp l' ⟨us,ua⟩)) (gv (Bp l' ⟨us,ua⟩))),j,by omega,_,_,_,rfl,by simp [hn],hk,uO,by show l4.length<=p4 + j;omega,by simp;omega⟩
set_option maxHeartbeats 1000000 in
theorem C9 (c:au) (h:av c):Ev prog 357 [gT] [aH c] [] (jX (.agg (dCs (ch c).1)) (ch c).2):=by
 generalize hR:ch c=R;unfold ch at hR;have hp:=dL c h;cases e1:c.is 1 ir
 rotate_left
 rw [e1,ah rfl] at hR;have w1:=cL c h ir;unfold au.o9 at w1;rw [e1,ah rfl] at w1;have hn:=qH _ h.step;have kG:=(mn (Sm.self h.step)).sm.ok;generalize jQ c.step=N at hn kG hR;generalize c.step=C1 at w1 hn;generalize c.aF=t at hp hR;obtain ⟨tk,ta,te,ts,tn⟩:=t;obtain ⟨nn,nl,np,nd,WG,WH⟩:=N;obtain ⟨l1,p1,d1,f11,f21⟩:=C1;obtain ⟨l,p,d,f1,f2⟩:=c;simp only at hR kG;refine eG 48 [.cell 2 131] func357 rfl ntmps357 rfl fun _ _ _ _=>?_;refine ak 1 iw hp ?_;refine ak 1 gL w1 ?_;refine ak 1 OS hn ?_
 rotate_right
 rw [e1,ag (by simp)] at hR;cases e2:c.is 1 jv
 rotate_left
 rw [e2,ah rfl] at hR;have w1:=cL c h ir;unfold au.o9 at w1;rw [e1,ag (by simp)] at w1;have w2:=cL c h jv;unfold au.o9 at w2;rw [e2,ah rfl] at w2;have hn:=qH _ h.step;have kG:=(mn (Sm.self h.step)).sm.ok;generalize jQ c.step=N at hn kG hR;generalize c.step=C1 at w2 hn;generalize c.aF=t at hp hR;obtain ⟨tk,ta,te,ts,tn⟩:=t;obtain ⟨nn,nl,np,nd,WG,WH⟩:=N;obtain ⟨l1,p1,d1,f11,f21⟩:=C1;obtain ⟨l,p,d,f1,f2⟩:=c;simp only at hR kG;refine eG 48 [.cell 2 131] func357 rfl ntmps357 rfl fun _ _ _ _=>?_;refine ak 1 iw hp ?_;refine ak 1 gL w1 ?_;refine ak 1 gL w2 ?_;refine ak 1 OS hn ?_
 rotate_right
 rw [e2,ag (by simp)] at hR;cases e3:c.is 1 lu
 rotate_left
 rw [e3,ah rfl] at hR;have w1:=cL c h ir;unfold au.o9 at w1;rw [e1,ag (by simp)] at w1;have w2:=cL c h jv;unfold au.o9 at w2;rw [e2,ag (by simp)] at w2;have w3:=cL c h lu;unfold au.o9 at w3;rw [e3,ah rfl] at w3;have kG:=h.step;generalize c.step=C1 at w3 hR kG;generalize c.aF=t at hp hR;obtain ⟨tk,ta,te,ts,tn⟩:=t;obtain ⟨nl,np,nd,WG,WH⟩:=C1;obtain ⟨l,p,d,f1,f2⟩:=c;simp only at hR;refine eG 48 [.cell 2 131] func357 rfl ntmps357 rfl fun _ _ _ _=>?_;refine ak 1 iw hp ?_;refine ak 1 gL w1 ?_;refine ak 1 gL w2 ?_;refine ak 1 gL w3 ?_
 rotate_right
 rw [e3,ag (by simp)] at hR;by_cases e5:c.aF.k=1;rw [ah e5] at hR;have w1:=cL c h ir;unfold au.o9 at w1;rw [e1,ag (by simp)] at w1;have w2:=cL c h jv;unfold au.o9 at w2;rw [e2,ag (by simp)] at w2;have w3:=cL c h lu;unfold au.o9 at w3;rw [e3,ag (by simp)] at w3;have JA:=iP c h 9;have kG:=h.cK 9 c.aF.a;have e0:c.fail 9=c.cK 9 c.aF.a:=rfl;rw [<- e0] at kG;generalize c.fail 9=C1 at JA hR kG;generalize c.aF=t at hp hR e5;obtain ⟨tk,ta,te,ts,tn⟩:=t;obtain ⟨nl,np,nd,WG,WH⟩:=C1;obtain ⟨l,p,d,f1,f2⟩:=c;simp only at hR e5;refine eG 48 [.cell 2 131] func357 rfl ntmps357 rfl fun _ _ _ _=>?_;refine ak 1 iw hp ?_;refine ak 1 gL w1 ?_;refine ak 1 gL w2 ?_;refine ak 1 gL w3 ?_;refine br (fun _=>?_) (fun g=>absurd e5 (sU g));refine ak 1 wO JA ?_
 rotate_left
 rw [ag e5] at hR;have w1:=cL c h ir;unfold au.o9 at w1;rw [e1,ag (by simp)] at w1;have w2:=cL c h jv;unfold au.o9 at w2;rw [e2,ag (by simp)] at w2;have w3:=cL c h lu;unfold au.o9 at w3;rw [e3,ag (by simp)] at w3;have JA:=gO c h;have kG:=h.wrong;generalize c.wrong=C1 at JA hR kG;generalize c.aF=t at hp hR e5;obtain ⟨tk,ta,te,ts,tn⟩:=t;obtain ⟨nl,np,nd,WG,WH⟩:=C1;obtain ⟨l,p,d,f1,f2⟩:=c;simp only at hR e5;refine eG 48 [.cell 2 131] func357 rfl ntmps357 rfl fun _ _ _ _=>?_;refine ak 1 iw hp ?_;refine ak 1 gL w1 ?_;refine ak 1 gL w2 ?_;refine ak 1 gL w3 ?_;refine br (fun g=>absurd (sU g) e5) (fun _=>?_);refine ak 1 Ac JA ?_
 all_goals
  have hm:=fk ⟨nl,np,nd,WG,WH⟩ kG Rg;unfold au.o9 at hm;have LG:=uN _ (av.step kG);unfold fM at hR;generalize au.is ⟨nl,np,nd,WG,WH⟩ 4 Rg=B at hm hR;generalize fp (au.step ⟨nl,np,nd,WG,WH⟩)=L at LG hR;generalize au.step ⟨nl,np,nd,WG,WH⟩=O at hm LG;obtain ⟨ol,op,od,of1,of2⟩:=O;obtain ⟨lw,ll,lp,ld,lf1,lf2⟩:=L
  cases B with
  | true=>
   rw [ah rfl] at hm hR;subst hR;refine ak 1 gZ hm ?_;refine ak 1 VX LG ?_;exact ⟨.agg (dCs _),[aH _],bB,bB,rfl,rfl,rfl⟩
  | false=>
   rw [ag (by simp)] at hm hR;subst hR;refine ak 1 gZ hm ?_;exact ⟨.agg (dCs _),[aH _],bB,bB,rfl,rfl,rfl⟩
set_option maxHeartbeats 2000000 in
theorem uP (x:Ph) (t:Ty) (c:au) (h:av c):Ev prog 339 [gT,.loc 1 0] [aH c,lR x (dC t)] [] (fun r os tk=>r = .bK []/\os=[aH (bT x c).2,lR (bT x c).1 (dC t)]/\tk=[]):=by
 generalize hR:bT x c=R;unfold bT at hR;obtain ⟨th,tp⟩:=t;obtain ⟨⟨ns,na⟩,bare,lb,wide,ck,cn,ca,cl⟩:=x;obtain ⟨l,p,d,f1,f2⟩:=c;refine eG 28 [] func339 rfl ntmps339 rfl fun _ _ _ _=>?_;generalize Y9:zp _ _=R1 at hR;unfold zp at Y9;have a1:=fk _ h Rg;unfold au.o9 at a1;have k1:=av.step h;have b1:=uN _ k1;have p1:=(kz (Sm.self k1)).sm.ok;generalize au.is _ 4 Rg=B1 at a1 Y9;generalize fp (au.step _)=L1 at b1 p1 Y9;generalize au.step _=O1 at a1 b1;obtain ⟨ol1,op1,od1,of1,og1⟩:=O1;obtain ⟨lw1,ll1,lp1,ld1,lf1,lg1⟩:=L1;cases B1;rw [ag (by simp)] at a1 Y9;have o1:=h;subst Y9
 try simp only at hR
 refine ak 1 gZ a1 ?_
 rotate_left
 rw [ah rfl] at a1 Y9;have o1:=p1;subst Y9
 try simp only at hR
 refine ak 1 gZ a1 ?_;refine ak 1 VX b1 ?_
 all_goals
  generalize WI:CZ _ _=R2 at hR;unfold CZ at WI;have a2:=fk _ o1 F2;unfold au.o9 at a2;have k2:=av.step o1;have b2:=mv _ k2;have p2:=av.bP k2;generalize au.is _ 4 F2=B2 at a2 WI;generalize au.iu (au.step _)=n2 at b2 WI;generalize au.bP (au.step _)=L2 at b2 WI p2;generalize au.step _=O2 at a2 b2;obtain ⟨ol2,op2,od2,of2,og2⟩:=O2;obtain ⟨ll2,lp2,ld2,lf2,lg2⟩:=L2;cases B2;rw [ag (by simp)] at a2 WI;have o2:=o1;subst WI
  try simp only at hR
  refine ak 1 gZ a2 ?_
  rotate_left
  rw [ah rfl] at a2 WI;have o2:=p2;subst WI
  try simp only at hR
  refine ak 1 gZ a2 ?_;refine ak 1 Eu b2 ?_
  all_goals
   generalize Za:MW _ _=R3 at hR;unfold MW at Za;have a3:=fk _ o2 tI;unfold au.o9 at a3;have k3:=av.step o2;have b3:=C9 _ k3;have p3:=(uK (Sm.self k3)).sm.ok;generalize au.is _ 4 tI=B3 at a3 Za;generalize ch (au.step _)=L3 at b3 p3 Za;generalize au.step _=O3 at a3 b3;obtain ⟨ol3,op3,od3,of3,og3⟩:=O3;obtain ⟨⟨ck3,cn3,ca3,cl3⟩,ll3,lp3,ld3,lf3,lg3⟩:=L3;cases B3;rw [ag (by simp)] at a3 Za;have o3:=o2;subst Za
   try simp only at hR
   refine ak 1 gZ a3 ?_
   rotate_left
   rw [ah rfl] at a3 Za;have o3:=p3;subst Za
   try simp only at hR
   refine ak 1 gZ a3 ?_;refine ak 1 abG b3 ?_
   all_goals
    subst hR;exact ⟨.bK [],[aH _,lR _ _],bB,bB,rfl,rfl,rfl⟩
section
variable {K:au->Ty × au} {D:Nat} (hK:∀ c,av c->c.d=D->Ev prog 166 [gT] [aH c] [] (jX (.agg (dC (K c).1)) (K c).2)) (hk:IV K D)
include hK hk
theorem F7 (c:au) (h:av c) (hd:c.d=D):Ev prog 298 [gT] [aH c] [] (jX (.agg (lR (ky K c).1.1 (dC (ky K c).1.2))) (ky K c).2):=by
 have hR:ky K c=(((bT (kX c.aK false) (K (c.aq.ai cG)).2).1,(K (c.aq.ai cG)).1),(bT (kX c.aK false) (K (c.aq.ai cG)).2).2):=rfl;rw [hR];simp only;have a1:=ed c h;have a2:=bV _ h.aq cG;have o2:=h.aq.ai cG;have d2:(c.aq.ai cG).d=D:=by rw [(aR.ai _ _).d,(aR.aq _).d,hd]
 have a3:=hK _ o2 d2;have o3:=hk.ok o2 d2;have a4:=uP (kX c.aK false) (K (c.aq.ai cG)).1 _ o3;generalize bT (kX c.aK false) (K (c.aq.ai cG)).2=M at a4 ⊢;generalize K (c.aq.ai cG)=T at a3 a4 ⊢;generalize c.aq.ai cG=c2 at a2 a3;generalize c.aq.is 4 cG=B2 at a2;generalize c.aq=c1 at a1 a2;generalize c.aK=W at a1 a4;obtain ⟨ws,wa⟩:=W;obtain ⟨l,p,d,f1,f2⟩:=c;obtain ⟨l1,p1,d1,f11,f21⟩:=c1;obtain ⟨l2,p2,d2,f12,f22⟩:=c2;obtain ⟨⟨th,tp⟩,l3,p3,d3,f13,f23⟩:=T;obtain ⟨⟨⟨ns,na⟩,bare,lb,wide,ck,cn,ca,cl⟩,l4,p4,d4,f14,f24⟩:=M;refine eG 16 [.cell 2 133] func298 rfl ntmps298 rfl fun _ _ _ _=>?_;refine ak 1 nZ a1 ?_;refine ak 1 fX a2 ?_;refine ak 1 wN a3 ?_;refine CallG.Ik 1 3 rfl rfl rfl rfl ?_;refine ak 2 VW a4 ?_;exact ⟨.agg (lR _ _),[aH _],bB,bB,rfl,rfl,rfl⟩
theorem M1 (c:au) (h:av c) (hd:c.d=D):Ev prog 299 [gT] [aH c] [] (jX (.agg (lR (jR K c).1.1 (dC (jR K c).1.2))) (jR K c).2):=by
 generalize hR:jR K c=R;unfold jR at hR;have a1:=ed c h;have a2:=fk _ h.aq aT;unfold au.o9 at a2;have o2:=h.aq.step;have d2:c.aq.step.d=D:=by rw [(aR.step _).d,(aR.aq _).d,hd]
 have a3:=hK _ o2 d2;have o3:=hk.ok o2 d2;have a4:=bV _ o3 bE;have a5:=uP (kX c.aK false) (K c.aq.step).1 _ (o3.ai bE);generalize bT (kX c.aK false) ((K c.aq.step).2.ai bE)=M at a5 hR;generalize (K c.aq.step).2.ai bE=c4 at a4 a5;generalize (K c.aq.step).2.is 4 bE=B4 at a4;generalize K c.aq.step=T at a3 a4 a5 hR;generalize c.aq.step=c2 at a2 a3;generalize c.aq.is 4 aT=B2 at a2 hR;generalize c.aq=c1 at a1 a2 hR;generalize c.aK=W at a1 a5 hR;obtain ⟨ws,wa⟩:=W;obtain ⟨l,p,d,f1,f2⟩:=c;obtain ⟨l1,p1,d1,f11,f21⟩:=c1;obtain ⟨l2,p2,d2,f12,f22⟩:=c2;obtain ⟨⟨th,tp⟩,l3,p3,d3,f13,f23⟩:=T;obtain ⟨l5,p5,d5,f15,f25⟩:=c4;obtain ⟨⟨⟨ns,na⟩,bare,lb,wide,ck,cn,ca,cl⟩,l4,p4,d4,f14,f24⟩:=M
 cases B2 with
 | true=>
  rw [ah rfl] at a2 hR;subst hR;refine eG 22 [.cell 2 133] func299 rfl ntmps299 rfl fun _ _ _ _=>?_;refine ak 1 nZ a1 ?_;refine ak 1 gZ a2 ?_;refine ak 1 wN a3 ?_;refine ak 1 fX a4 ?_;refine CallG.Ik 1 3 rfl rfl rfl rfl ?_;refine ak 2 VW a5 ?_;exact ⟨.agg (lR _ _),[aH _],bB,bB,rfl,rfl,rfl⟩
 | false=>
  rw [ag (by simp)] at a2 hR;subst hR;refine eG 22 [.cell 2 133] func299 rfl ntmps299 rfl fun _ _ _ _=>?_;refine ak 1 nZ a1 ?_;refine ak 1 gZ a2 ?_;exact ⟨.agg (lR _ _),[aH _],bB,bB,rfl,rfl,rfl⟩
end
end Go.Proofs.YtfdedoiiahbnnaaGreat
namespace Go.Proofs.YtfdedoiiahbnnaaGreat
namespace Dv
open Go Go.RowKit
section
variable {X:Ctx} {st:St} {k:List It} {E:En} {a:Act} {w:World}
theorem KE (h:Rel X E st a w) {es:List (List DV)} {cs:List DV} {kt m xx e:Nat} {v:Value} (hv:Rv E (.sl 0 es (some kt)) v) (hq:st.tk[kt]? = some ⟨m,xx,e,some cs⟩) (px:es.length=m) (hm:0 < m) :
  ∃ g cap,∃ cur:Array Value,v = .slice (some ⟨g,0,none⟩) m cap/\E.tk[kt]? = some ⟨m,xx,e,some cs⟩/\E.τ[kt]? = some v/\w.heap[g]? = some (.cells cur xx (0,0))/\cur.size=cap * e/\cs.length=m * e/\RvC E.cl cs (cur.toList.take (m * e))/\m<=cap/\cap<=maxLen/\g ∉ E.β/\∀ x u,E.c x=some u->x.block=g->x.off < 0:=by
 unfold Rv at hv;obtain ⟨bs,ns,lN,e1,⟨DC,wh⟩,Vl,wi⟩:=hv;subst DC;obtain ⟨q',nQ,_,Xj⟩:=wi kt rfl;have kF:E.tk[kt]? = some ⟨m,xx,e,some cs⟩:=by rw [h.tk];exact hq
 rw [kF] at nQ;simp only [oI] at nQ;subst nQ;have hy:=Xj px;rcases h.env.c9 kt _ _ kF hy with ⟨_,tX,_⟩ | ⟨g,cap,cur,oN,hw0,⟨q7,DZ⟩,wm,zw,iT,D0⟩
 ·simp only at tX;omega
 obtain ⟨h5,h6⟩:=DZ cs rfl;exact ⟨g,cap,cur,oN,kF,hy,hw0,q7,h5,h6,wm,zw,iT,D0⟩
theorem UL {o1:Oper} {t et e jS nn m g cap:Nat} {bb:Bool} {zz:List Value} {z:Int} {kd:IntKind} {s ix:Operand} (h1:o1.op = .indexAddr t s ix) (e1:a.eval s = .slice (some ⟨g,0,none⟩) m cap) (e2:a.eval ix = .int kd z)
  (hT:X.T.find t=some ⟨nn,bb,.sl et e jS,zz⟩) (hz:0<=z/\z < m) (w:World):(execOp a.eval o1).run X.P w = .ok (.value (.pointer (some ⟨g,z.toNat * e,none⟩))) w:=by
 obtain ⟨hu,ii,zv,v7,_,Ye,_,_⟩:=fo X.hT hT;have nJ:iA X.P et=some e:=by rw [fO v7,Ye]
 have bS:(Instr.indexAt t (.slice (some ⟨g,0,none⟩) m cap) (.int kd z)).run X.P w = .ok (.pointer (some ⟨g,z.toNat * e,none⟩)) w:=by
  simp [Instr.indexAt,asIntOf,run_underlying hu,hz.1,hz.2,aV nJ,Addr.add_lit]
 simp only [execOp,h1,e1,e2,Sem.run_bind,bS,Result.andThen_ok,Sem.run_pure]
theorem KF {o2:Oper} {d1 kt ty e m xx:Nat} {z:Int} {es:List (List DV)} {cs cs':List DV} {v:Value} {x:Operand} {dv:DV} {g cap:Nat}
  (hr1:Rel X E st a w) (h2:o2.op = .store ty (.tmp d1) x) (Yf:a.eval (.tmp d1) = .pointer (some ⟨g,z.toNat * e,none⟩)) (hv:Rv E (.sl 0 es (some kt)) v) (hvg:v = .slice (some ⟨g,0,none⟩) m cap)
  (hx:rv st [] x=some dv) (ZY:eraL dv.cells (fun l=>some l)=some cs') (L9:dv.cells.length=e) (he0:0 < e)
  (di:X.T.sz ty=some e) (hq:st.tk[kt]? = some ⟨m,xx,e,some cs⟩) (px:es.length=m) (hz:0<=z/\z < m) (bp:X.still=false) :
  ∃ w' E',(execOp a.eval o2).run X.P w = .ok .skip w' /\ Rel X E' ⟨st.sl,st.bx,st.tk.set kt ⟨m,xx,e,some (cs.take (z.toNat * e) ++ cs' ++ cs.drop (z.toNat * e + e))⟩⟩ a w':=by
 obtain ⟨g',lN,cur,e1,kF,hy,hw0,q7,h5,h6,wm,zw,iT,D0⟩:=KE hr1 hv hq px (by omega);rw [hvg] at e1;injection e1 with i1 i2 i3
 injection i1 with i1
 injection i1 with i1
 subst i1 i3;rw [hvg] at hy;have e3:=bc hr1.rl hx;have fD:RvC E dv.cells (a.eval x).cells.toList:=e3.cells (gJ (n:=e) L9 (by omega));have we:(a.eval x).cells.toList.length=e:=by rw [fD.1.length];exact L9
 obtain ⟨l',py,hx1,_⟩:=p8 ZY fD;simp only [oI] at py;rw [py] at hx1;have hme:m * e<=cap * e:=Nat.mul_le_mul_right _ wm
 have nK:z.toNat * e + e<=m * e:=by
  have:(z.toNat + 1) * e<=m * e:=Nat.mul_le_mul_right _ (by omega);rw [Nat.add_mul] at this;omega
 have Wb:cur.toList.length=cap * e:=sU q7;have Sz:=gV (P:=X.P) (t:=ty) (off:=z.toNat * e) (n:=e) hw0 (zN X.hT di) we (by rw [q7];omega) (List.all_eq_true.2 fD.2);generalize hN:cur.toList.take (z.toNat * e) ++ (a.eval x).cells.toList ++ cur.toList.drop (z.toNat * e + e)=N at Sz;have hNl:N.length=cap * e:=by grind
 have hNt:N.take (m * e)=(cur.toList.take (m * e)).take (z.toNat * e) ++ (a.eval x).cells.toList ++ (cur.toList.take (m * e)).drop (z.toNat * e + e):=by
  subst hN;rw [List.take_append,List.take_append,List.take_take,List.take_take];have h1:(cur.toList.take (z.toNat * e)).length=z.toNat * e:=by rw [zLenT];omega
  rw [List.length_append,h1,we,Nat.min_eq_right (by omega),Nat.min_eq_left (by omega),List.take_of_length_le (l:=(a.eval x).cells.toList) (by rw [we];omega),List.drop_take]
 have NK:DK (World.c8 w g (.cells N.toArray xx (0,0))) E.c E.β ⟨m,xx,e,some (cs.take (z.toNat * e) ++ cs' ++ cs.drop (z.toNat * e + e))⟩ (.slice (some ⟨g,0,none⟩) m cap):=by
  refine .inr ⟨g,cap,_,rfl,eI hw0,⟨by simpa using hNl,fun sk zR=>?_⟩,wm,zw,iT,D0⟩;simp only [oI] at zR;subst zR;simp only;have h8:=((RvC.take (z.toNat * e) h6).append hx1).append (RvC.drop (z.toNat * e + e) h6);rw [<- hNt] at h8;have hl8:=h8.1.length;refine ⟨?_,by show RvC E.cl _ (N.toArray.toList.take (m * e));simpa using h8⟩;rw [<- hl8,zLenT,hNl];omega
 obtain ⟨cm,_⟩:=B7 (q':=⟨m,xx,e,some (cs.take (z.toNat * e) ++ cs' ++ cs.drop (z.toNat * e + e))⟩) (w':=World.c8 w g (.cells N.toArray xx (0,0))) hr1 bp kF hy rfl rfl rfl (.inl ⟨rfl,rfl⟩) NK (.inl rfl) rfl rfl rfl (by rw [fB];exact bn _) (fun j _ bo=>cS (by
  rintro rfl
  exact bo rfl))
 refine ⟨_,_,?_,cm⟩;simp only [execOp,h2,Yf,Instr.storeAt,Instr.sureAddr,Sem.run_bind,Sem.run_pure,Result.andThen_ok,Sz]
end
end Dv
end Go.Proofs.YtfdedoiiahbnnaaGreat
namespace Go.Proofs.YtfdedoiiahbnnaaGreat
namespace Dv
open Go Go.RowKit
section
variable {P:Program} {ops:Array Oper} {C:Nat->World->Prop} {Q:Act->World->Prop} {W:Nat->Nat->Bool}
def IX (ops:Array Oper) (W:Nat->Nat->Bool) (j i:Nat):Bool:=pK ops (fun k=>W k j) j i
def Bq (ops:Array Oper) (W:Nat->Nat->Bool):Bool:=
 (List.range ops.size).all fun i=>(List.range ops.size).all fun j=>
  Nat.beq i j || ordB ops ops.size i j || ordB ops ops.size j i || (UI ops i && UI ops j) || (IX ops W j i && IX ops W i j)
def runS2 (P:Program) (ops:Array Oper) (W:Nat->Nat->Bool) (C:Nat->World->Prop) (Q:Act->World->Prop):nH->Act->World->Prop
 | .fin,a,w=>Q a w
 | .op i t,a,w=>∃ o,ops[i]? = some o/\∃ v,Yl P ops (C i) o v a/\(isL o.op=true->C i w)/\runS2 P ops W C Q t (a.put o.dst v) w
 | .ev i t alt,a,w=>(∃ o,ops[i]? = some o/\dQ P ops o a w fun a' w'=>(∀ j,W i j=false->C j w->C j w')/\runS2 P ops W C Q t a' w')/\runS2 P ops W C Q alt a w
 | .stop,_,_=>True
def KG (P:Program) (ops:Array Oper) (W:Nat->Nat->Bool) (C:Nat->World->Prop) (Q:Act->World->Prop) (rem:List Nat) (a:Act) (w:World):Prop:=∃ T,chkA ops T rem none=true/\runS2 P ops W C Q T a w
theorem Bs {rem:List Nat} (hP:Bq ops W=true) (hc:Cl ops rem) {i j:Nat} (hi:rdy ops rem i=true) (hj:rdy ops rem j=true) (ve:i∈rem) (CF:j∈rem) (qX:i≠j) (SA:UI ops i=false∨UI ops j=false):IX ops W j i=true:=by
 obtain ⟨o,ho,ha⟩:=mq hi;obtain ⟨o',Js,V6⟩:=mq hj;simp only [Bq,List.all_eq_true,List.mem_range] at hP;have h1:=hP i (Array.getElem?_eq_some_iff.1 ho).1 j (Array.getElem?_eq_some_iff.1 Js).1;simp only [Bool.or_eq_true,bg,Nat.beq_eq] at h1
 grind [Rq]
theorem yL (jE:∀ (j:Nat) (o:Oper) cs b,ops[j]? = some o->o.op ≠ .select cs b) (hP:Bq ops W=true) {i:Nat} {o:Oper} (hi:ops[i]? = some o) (hE:isE o.op=false) :
  ∀ (T:nH) (rem:List Nat) (a:Act) (w:World),rem.Nodup->Cl ops rem->chkA ops T rem none=true->runS2 P ops W C Q T a w->i∈rem->rdy ops rem i=true ->
   ∃ v,Yl P ops (C i) o v a/\(isL o.op=true->C i w)/\KG P ops W C Q (rem.erase i) (a.put o.dst v) w
 | .fin,rem,a,w,_,_,hc,_,ve,_=>by grind [chkA]
 | .stop,rem,a,w,_,_,hc,_,_,_=>by simp [chkA] at hc
 | .ev j t alt,rem,a,w,hn,fD,hc,hr,ve,NT=>by
  exfalso
  have key:∀ (T:nH) (seen:List Nat),(∀ k∈seen,UI ops k=true)->chkA ops T rem (some seen)=true->False:=by
   intro T
   induction T with
   | fin=>intro seen _ h;simp [chkA] at h
   | op=>intro seen _ h;simp [chkA] at h
   | ev k t alt _ ih=>grind [chkA]
   | stop=>grind [chkA,Rr]
  grind [chkA]
 | .op j t,rem,a,w,hn,fD,hc,hr,ve,NT=>by
  simp only [chkA,bg,Bool.not_eq_true'] at hc;obtain ⟨_,CF,hje,hjr,Tq⟩:=hc;have CF:j∈rem:=sU CF;simp only [runS2] at hr;obtain ⟨y,hy,v,XH,hyc,hrt⟩:=hr;by_cases qX:i=j
  ·subst qX;rw [hi] at hy;simp only [oI] at hy;subst hy;exact ⟨v,XH,hyc,t,Tq,hrt⟩
  ·have Lr:=Bs hP fD NT hjr ve CF qX (.inr hje);obtain ⟨Vp,ap2,_,_⟩:=gA Lr hy hi;obtain ⟨u,hu,huc,T',hT',Z8⟩:=yL jE hP hi hE t (rem.erase j) (a.put y.dst v) w (hn.erase j) (yK hn fD hjr) Tq hrt ((List.mem_erase_of_ne qX).2 ve) (pg NT);have Vq:=fun cs b=>jE i o cs b hi;have hsy:=fun cs b=>jE j y cs b hy;obtain ⟨_,hdd,_⟩:=Oper.apart_spec Vp;refine ⟨u,(Yl.same Vp Vq).1 hu,huc,.op j T',?_,?_⟩
   ·grind [chkA,pg]
   ·simp only [runS2];refine ⟨y,hy,v,(Yl.same ap2 hsy).2 XH,hyc,?_⟩;rw [<- Act.put_comm a v u hdd];exact Z8
theorem Bt {e:Nat}:∀ (T:nH) (rem:List Nat) (seen:List Nat) (a:Act) (w:World),chkA ops T rem (some seen)=true->runS2 P ops W C Q T a w->e∈rem->rdy ops rem e=true->e ∉ seen ->
  ∃ o t,ops[e]? = some o/\chkA ops t (rem.erase e) none=true/\dQ P ops o a w fun a' w'=>(∀ j,W e j=false->C j w->C j w')/\runS2 P ops W C Q t a' w'
 | .fin,rem,seen,a,w,hc,_,_,_,_=>by simp [chkA] at hc
 | .op _ _,rem,seen,a,w,hc,_,_,_,_=>by simp [chkA] at hc
 | .stop,rem,seen,a,w,hc,_,hm,hr,hs=>by
  simp only [chkA,List.all_eq_true,Bool.or_eq_true,Bool.not_eq_true'] at hc;rcases hc e hm with h | h
  ·rw [hr] at h;cases h
  ·exact (hs (sU h)).elim
 | .ev i t alt,rem,seen,a,w,hc,hr,hm,NT,hs=>by
  simp only [chkA,bg,Option.getD_some] at hc;simp only [runS2] at hr;obtain ⟨⟨o,ho,bp⟩,hra⟩:=hr;by_cases ZM:i=e
  ·subst ZM;exact ⟨o,t,ho,hc.2.2.2.1,bp⟩
  ·exact Bt alt rem (i :: seen) a w hc.2.2.2.2 hra hm NT (fun h=>by
    rcases dM h with h | h
    ·exact ZM h.symm
    ·exact hs h)
theorem F8 (jE:∀ (j:Nat) (o:Oper) cs b,ops[j]? = some o->o.op ≠ .select cs b) (hP:Bq ops W=true) {i:Nat} {o:Oper} (hi:ops[i]? = some o) (hE:isE o.op=true) :
  ∀ (T:nH) (rem:List Nat) (a:Act) (w:World),rem.Nodup->Cl ops rem->chkA ops T rem none=true->runS2 P ops W C Q T a w->i∈rem->rdy ops rem i=true ->
   dQ P ops o a w (fun a' w'=>(∀ j,W i j=false->C j w->C j w')/\KG P ops W C Q (rem.erase i) a' w')
 | .fin,rem,a,w,_,_,hc,_,ve,_=>by grind [chkA]
 | .stop,rem,a,w,_,_,hc,_,_,_=>by simp [chkA] at hc
 | .ev j t alt,rem,a,w,hn,fD,hc,hr,ve,NT=>by
  simp only [chkA,bg,Option.getD_none] at hc;simp only [runS2] at hr;obtain ⟨⟨y,hy,bp⟩,hra⟩:=hr;by_cases qX:i=j
  ·subst qX;rw [hi] at hy;simp only [oI] at hy;subst hy;exact eN (fun a' w' h=>⟨h.1,t,hc.2.2.2.1,h.2⟩) bp
  ·obtain ⟨o',t',Js,Tq,hs⟩:=Bt alt rem [j] a w hc.2.2.2.2 hra ve NT (sU qX);rw [hi] at Js;simp only [oI] at Js;subst Js;exact eN (fun a' w' h=>⟨h.1,t',Tq,h.2⟩) hs
 | .op j t,rem,a,w,hn,fD,hc,hr,ve,NT=>by
  simp only [chkA,bg,Bool.not_eq_true'] at hc;obtain ⟨_,CF,hje,hjr,Tq⟩:=hc;have CF:j∈rem:=sU CF;simp only [runS2] at hr;obtain ⟨y,hy,v,XH,hyc,hrt⟩:=hr;have qX:i≠j:=by grind [Rr]
  have Lr:=Bs hP fD NT hjr ve CF qX (.inr hje);obtain ⟨Vp,ap2,_,hLW⟩:=gA Lr hy hi;have Vq:=fun cs b=>jE i o cs b hi;have hsy:=fun cs b=>jE j y cs b hy;have ih:=F8 jE hP hi hE t (rem.erase j) (a.put y.dst v) w (hn.erase j) (yK hn fD hjr) Tq hrt ((List.mem_erase_of_ne qX).2 ve) (pg NT);refine eN ?_ (qb ((sI Vp Vq).1 ih));rintro a' w' ⟨⟨Ov,T',hT',Z8⟩,u,rfl⟩;refine ⟨Ov,.op j T',?_,?_⟩
  ·grind [chkA,pg]
  ·grind [runS2,Yl.same]
theorem M3 {Q':Exit->Act->World->Prop} (jE:∀ (j:Nat) (o:Oper) cs b,ops[j]? = some o->o.op ≠ .select cs b) (hP:Bq ops W=true) (hb:∀ (i:Nat) (o:Oper),ops[i]? = some o->∀ e∈o.after,Region.binds .any e=true->e.on < ops.size)
  (hQ:∀ a w,Q a w->Q' .normal a w):∀ (lP:Nat) (bi:Array Bool) (rem:List Nat) (a:Act) (w:World),
  bi.size=ops.size->(∀ i,i∈rem↔i < ops.size/\bi.getD i true=false)->rem.Nodup->Cl ops rem->rem.length<=lP->KG P ops W C Q rem a w->wpAny P .any ops Q' lP bi a w:=by
 have UM:∀ (bi:Array Bool) (rem:List Nat),bi.size=ops.size->(∀ i,i∈rem↔i < ops.size/\bi.getD i true=false)->∀ i,i∈Region.ready .any ops bi↔i∈rem/\rdy ops rem i=true:=by
  intro bi rem di vd i;have hl:∀ k,k < ops.size->(bi.getD k false=true↔k ∉ rem):=fun k hk=>by grind
  rw [mem_ready]
  grind [rdy,mq]
 intro lP
 induction lP with
 | zero=>
  intro bi rem a w di vd hn fD hlen hr;have:rem=[]:=List.length_eq_zero_iff.1 (by omega);subst this;obtain ⟨T,hT,Z8⟩:=hr;refine ⟨?_,hQ _ _ ?_⟩
  ·rw [List.eq_nil_iff_forall_not_mem];intro i hi;cases ((UM bi [] di vd i).1 hi).1
  ·cases T with
   | fin=>exact Z8
   | op i t=>simp [chkA] at hT
   | ev i t alt=>simp [chkA] at hT
   | stop=>simp [chkA] at hT
 | succ lP ih=>
  intro bi rem a w di vd hn fD hlen hr;obtain ⟨T,hT,Z8⟩:=hr;refine ⟨fun h0=>?_,fun i hi=>?_⟩
  ·cases T with
   | fin=>exact hQ _ _ Z8
   | op i t=>
    exfalso;simp only [chkA,bg] at hT;have:=(UM bi rem di vd i).2 ⟨by simpa using hT.2.1,hT.2.2.2.1⟩;rw [h0] at this;cases this
   | ev i t alt=>
    exfalso;simp only [chkA,bg] at hT;have:=(UM bi rem di vd i).2 ⟨by simpa using hT.1,hT.2.2.1⟩;rw [h0] at this;cases this
   | stop=>simp [chkA] at hT
  ·obtain ⟨ve,hir⟩:=(UM bi rem di vd i).1 hi;obtain ⟨o,ho,_⟩:=mq hir;have nB:=(Array.getElem?_eq_some_iff.1 ho).1
   have Eh:∀ k,k∈rem.erase i↔k < ops.size/\(bi.setIfInBounds i true).getD k true=false:=by
    intro k;rw [List.Nodup.mem_erase_iff hn];by_cases ue:k=i
    ·subst ue;simp [di,nB]
    ·rw [getD_set_ne true (Ne.symm ue)]
     grind
   grind [KG,yK,zZ,isE,eN,F8,yL,kQ]
end
section
variable {X:Ctx} {st:St} {E:En} {a:Act} {w:World}
end
section
variable {X:Ctx} {st:St} {k:List It} {E:En} {a:Act} {w:World} {ops:Array Oper} {C:Nat->World->Prop} {Q:Act->World->Prop} {W:Nat->Nat->Bool} {T:nH}
theorem adv {i:Nat} {o:Oper} (hR:Rel X E st a w) (ho:ops[i]? = some o) (hL:isL o.op=false) (hg:o.guard=none) {s:DV} (hs:pureT X.P X.T ⟨st.sl,[],[]⟩ [] o.op=some s) (hd:eV X.nt st.sl o.dst=true)
  (hk:∀ a',Rel X E (st.put o.dst ⟨[],s⟩) a' w->runS2 X.P ops W C Q T a' w):runS2 X.P ops W C Q (.op i T) a w:=by
 have gY:Rl E [] (fun _=>False) st.sl a:=⟨hR.tm,fun i cs hi=>by simp at hi,fun _ _ _ _ h=>h.elim⟩;obtain ⟨v,hv,bS⟩:=fC (st:=⟨st.sl,[],[]⟩) X.hT gY (aX _) hs;exact ⟨o,ho,v,.inl ⟨dn hg,fun w' _=>bS w' fun h=>by rw [hL] at h;cases h⟩,fun h=>(by rw [hL] at h;cases h),hk _ (bh hR hd s v hv)⟩
theorem WJ {i:Nat} {o:Oper} (hR:Rel X E st a w) (ho:ops[i]? = some o) {bx:List (List DV)} (gY:Rl E bx (C i) st.sl a) (XA:C i w) (hg:o.guard=none) {s:DV} (hs:pureT X.P X.T ⟨st.sl,bx,[]⟩ [] o.op=some s) (hd:eV X.nt st.sl o.dst=true)
  (hk:∀ a',Rel X E (st.put o.dst ⟨[],s⟩) a' w->runS2 X.P ops W C Q T a' w):runS2 X.P ops W C Q (.op i T) a w:=by
 obtain ⟨v,hv,bS⟩:=fC (st:=⟨st.sl,bx,[]⟩) X.hT gY (aX _) hs;exact ⟨o,ho,v,.inl ⟨dn hg,fun w' h=>bS w' h⟩,fun _=>XA,hk _ (bh hR hd s v hv)⟩
theorem drawG_2 {id:Nat} (W:Nat->Nat->Bool) (T:nH) (hm:X.P.follows .mixedOrders=true) (hc:(adn ops && Bq ops W && chkA ops T (List.range ops.size) none)=true)
  (h:∀ E a w,Rel X E st a w->∃ C,runS2 X.P ops W C (kq X k .normal) T a w):tZ X id ops k st:=by
 intro E a w hr;have oP:=lK hr;simp only [bg] at hc;obtain ⟨⟨hN,hP⟩,hT⟩:=hc;simp only [adn,bg,List.all_eq_true,List.mem_range] at hN;obtain ⟨C,bS⟩:=h E a w.drew oP;refine wp_region_any hm ?_;refine M3 (C:=C) (Q:=kq X k .normal) (Region.noSelect_spec hN.1) hP (fun i o ho e he hb=>?_) (fun a w hq=>hq) ops.size (Array.replicate ops.size false) (List.range ops.size) a _ (by simp) ?_ List.nodup_range ?_ (by simp) ⟨T,hT,bS⟩
 ·have h1:=hN.2 i (Array.getElem?_eq_some_iff.1 ho).1;rw [ho] at h1;have h2:=List.all_eq_true.1 h1 e (sU he);rw [hb] at h2;simpa using h2
 ·simp_all
 ·intro k o ho hk
  grind
end
end Dv
end Go.Proofs.YtfdedoiiahbnnaaGreat
namespace Go.Proofs.YtfdedoiiahbnnaaGreat
namespace Dv
open Go Go.RowKit
section
variable {X:Ctx} {st:St} {E:En} {a:Act} {w:World}
theorem KH {o:Oper} {ty i off n:Nat} {p x:Operand} {d:DV} {cs:List DV} (h:Rel X E st a w) (ho:o.op = .store ty p x) (hp:rv st [] p=some (.loc i off)) (hx:rv st [] x=some d) (hn:X.T.sz ty=some n) (cx:st.bx[i]? = some cs)
  (hc:(Nat.blt 0 n && Nat.beq d.cells.length n && Nat.ble (off + n) cs.length)=true) (bp:X.still=false) :
  ∃ w',(execOp a.eval o).run X.P w = .ok .skip w' /\ Rel X E ⟨st.sl,st.bx.set i (cs.take off ++ d.cells ++ cs.drop (off + d.cells.length)),st.tk⟩ a w':=by
 have gY:=h.rl;simp only [bg,Nat.beq_eq,Nat.ble_eq,Nat.blt_eq] at hc;have hn:=zN X.hT hn;have e1:=bc gY hp;unfold Rv at e1;obtain ⟨b,hb,e1⟩:=e1;have e2:=bc gY hx;have hvc:=e2.cells (gJ hc.1.2 (by omega));obtain ⟨b',Dz,arr,ef,hw,hca⟩:=h.env.dY i cs cx;rw [hb] at ef;simp only [oI] at ef;subst ef;have ZA:arr.length=cs.length:=hca.1.length;have we:(a.eval x).cells.toList.length=n:=by rw [hvc.1.length];exact hc.1.2
 have Sz:=gV (P:=X.P) (off:=off) hw hn we (by simp;omega) (List.all_eq_true.2 hvc.2);refine ⟨World.c8 w b (.cells ((arr.take off ++ (a.eval x).cells.toList ++ arr.drop (off + n)).toArray) Dz (0,0)),?_,?_⟩
 ·simp only [execOp,ho,e1,Instr.storeAt,Instr.sureAddr,Sem.run_bind,Sem.run_pure,Result.andThen_ok,Sz]
 ·have dB:RvC E (cs.take off ++ d.cells ++ cs.drop (off + d.cells.length)) (arr.take off ++ (a.eval x).cells.toList ++ arr.drop (off + n)):=by
   rw [hc.1.2];exact ((hca.take off).append hvc).append (hca.drop _)
  exact jT (ty:=Dz) h bp hb dB ⟨_,hw⟩
end
section
variable {X:Ctx} {st:St} {E:En} {a:Act} {w:World}
theorem IY {ops:Array Oper} {W:Nat->Nat->Bool} {C:Nat->World->Prop} {Q:Act->World->Prop} {T T':nH} {i:Nat} {o:Oper} (ho:ops[i]? = some o) (hg:o.guard=none) (h:wq X.P o a w fun a' w'=>(∀ j,W i j=false->C j w->C j w')/\runS2 X.P ops W C Q T a' w') (halt:runS2 X.P ops W C Q T' a w):runS2 X.P ops W C Q (.ev i T T') a w:=
 ⟨⟨o,ho,by unfold dQ;rw [ah (dn hg)];exact h⟩,halt⟩
theorem UN {o:Oper} {f:Operand} {args:Array Operand} {Ue:Array TypeId} {g:FuncId} {fi ca ds:List DV} {K:Act->World->Prop} (hR:Rel X E st a w) (hop:o.op = .call ⟨.value f,args,Ue⟩) (hf:rv st [] f=some (.fn g fi ca)) (hl:argsV st [] args.toList=some ds) (gh:Enters X.P g)
  (hc:∀ vs,RvL E (fi ++ ds ++ ca) vs->Calls X.P g vs.toArray w fun e w'=>∃ v,e = .returned v/\K (a.put o.dst v) w'):wq X.P o a w K:=by
 have gY:=hR.rl;have e1:=bc gY hf;unfold Rv at e1;obtain ⟨l1,r1,e1,py,hr1⟩:=e1;have hargs:=gz gY (aX _) _ _ hl;have iV:=(py.append hargs).append hr1;obtain ⟨dst,op,ty,pos,after,gu⟩:=o;simp only at hop;subst hop
 have hr:(execOp a.eval ⟨dst,.call ⟨.value f,args,Ue⟩,ty,pos,after,gu⟩).run X.P w = .ok (.enter g (l1 ++ args.toList.map a.eval ++ r1).toArray) w:=by
  have e3:(l1.toArray ++ args.map a.eval ++ r1.toArray)=(l1 ++ args.toList.map a.eval ++ r1).toArray:=by apply Array.ext';simp
  simp only [execOp,resolve,e1,Deferred.ofValue,Sem.run_bind,Sem.run_pure,Result.andThen_ok,invoke,e3];exact gh _ _
 unfold wq;rw [hr];exact hc _ iV
section
variable {ops:Array Oper} {W:Nat->Nat->Bool} {C:Nat->World->Prop} {Q:Act->World->Prop} {T T':nH} {i:Nat} {o:Oper}
theorem Rz {st':St} (hR:Rel X E st a w) (ho:ops[i]? = some o) (hg:o.guard=none) (hop:OpS X o st st') (hk:∀ a' E' w',Rel X E' st' a' w' -> Hg none E w E' w' -> (∀ j,W i j=false->C j w->C j w')/\runS2 X.P ops W C Q T a' w') (halt:runS2 X.P ops W C Q T' a w):runS2 X.P ops W C Q (.ev i T T') a w:=
 IY ho hg (kM (fun a' w' ⟨E',h1,h2⟩=>hk a' E' w' h1 h2) (hop E a w hR)) halt
theorem KI {S':St} {p:Prop} (hR:Rel X E st a w) (ho:ops[i]? = some o) (hg:o.guard=none) (hd:eV X.nt st.sl o.dst=true) (hp:effC X st o (fun s=>s=S')=some p) (h:p) (hk:∀ a' E' w',Rel X E' S' a' w' -> Hg (stObj st o.op) E w E' w' -> (∀ j,W i j=false->C j w->C j w')/\runS2 X.P ops W C Q T a' w') (halt:runS2 X.P ops W C Q T' a w):runS2 X.P ops W C Q (.ev i T T') a w:=
 IY ho hg (kM (fun a' w' ⟨st',E',h1,h2,h3⟩=>hk a' E' w' (h1 ▸ h2) h3) (mM hd hR hp h)) halt
theorem KJ {f:Operand} {args:Array Operand} {Ue:Array TypeId} {g:FuncId} {fi ca ds bF:List DV} {os:List (List DV)} (hR:Rel X E st a w) (ho:ops[i]? = some o) (hg:o.guard=none) (hop:o.op = .call ⟨.value f,args,Ue⟩) (hf:rv st [] f=some (.fn g fi ca)) (hl:argsV st [] args.toList=some ds) (gh:Enters X.P g)
  (n1 m1:Nat) (uZ:Nat.ble n1 st.bx.length=true) (mC:Nat.ble m1 st.tk.length=true) (qZ:kZ [] n1 n1 m1 os (st.bx.take n1)) (ha:CcL [] n1 n1 m1 bF (fi ++ ds ++ ca)) {Φ:DV->List (List DV)->List TkE->Prop} (hc:Ev X.P g bF os (st.tk.take m1) Φ) (bp:X.still=false) (hX:X.bt=[])
  (hk:∀ v r' eO cA E' w',Φ r' eO cA -> eO.length=n1->cA.length=m1->Rel X E' ⟨st.sl,eO ++ st.bx.drop n1,cA ++ st.tk.drop m1⟩ a w' -> Rv E' r' v->Ext E E' -> E'.β=E.β->(∀ (i:Nat) b,n1<=i->E.β[i]? = some b->w'.heap[b]? = w.heap[b]?)->(∀ j,W i j=false->C j w->C j w')/\runS2 X.P ops W C Q T (a.put o.dst v) w')
  (halt:runS2 X.P ops W C Q T' a w):runS2 X.P ops W C Q (.ev i T T') a w:=
 IY ho hg (UN hR hop hf hl gh (fun vs hv=>(rz n1 m1 uZ mC qZ ha hc bp hX hR hv).mono (fun e w' ⟨v,r',eO,cA,E',h1,h2,h3,h4,h5,h6,h7,h8,h9⟩=>⟨v,h1,hk v r' eO cA E' w' h2 h3 h4 h5 h6 h7 h8 h9⟩))) halt
end
theorem RA {ops:Array Oper} {W:Nat->Nat->Bool} {C:Nat->World->Prop} {k:List It} {i6 i7 i8:Nat} {o6 o7 o8:Oper} {d1 kt t ty et e jS m xx nn ty8 n8 i off:Nat} {bb:Bool} {zz:List Value} {z:Int} {kd:IntKind} {es:List (List DV)} {cs cs' cs8:List DV} {s ix x p x8:Operand} {dv d8:DV}
  (hR:Rel X E st a w) (hW7:∀ j,W i7 j=true) (hW8:∀ j,W i8 j=true)
  (g6:ops[i6]? = some o6) (g7:ops[i7]? = some o7) (g8:ops[i8]? = some o8) (h6:o6.op = .indexAddr t s ix/\o6.dst=some d1/\o6.guard=none) (h7:o7.op = .store ty (.tmp d1) x/\o7.dst=none/\o7.guard=none) (h8:o8.op = .store ty8 p x8/\o8.dst=none/\o8.guard=none)
  (E7:eV X.nt st.sl (some d1)=true) (hs:rv st [] s=some (.sl 0 es (some kt))) (hi:rv st [] ix=some (.v (.int kd z)))
  (hx:∀ bx,rv ⟨(d1,⟨[],.pt [] 0⟩) :: st.sl,bx,st.tk⟩ [] x=some dv) (ZY:eraL dv.cells (fun l=>some l)=some cs') (L9:dv.cells.length=e) (he0:0 < e)
  (hp:∀ tk,rv ⟨(d1,⟨[],.pt [] 0⟩) :: st.sl,st.bx,tk⟩ [] p=some (.loc i off)) (hx8:∀ tk,rv ⟨(d1,⟨[],.pt [] 0⟩) :: st.sl,st.bx,tk⟩ [] x8=some d8) (hn8:X.T.sz ty8=some n8) (adw:st.bx[i]? = some cs8)
  (hc8:(Nat.blt 0 n8 && Nat.beq d8.cells.length n8 && Nat.ble (off + n8) cs8.length)=true)
  (hT:X.T.find t=some ⟨nn,bb,.sl et e jS,zz⟩) (di:X.T.sz ty=some e) (hq:st.tk[kt]? = some ⟨m,xx,e,some cs⟩) (px:es.length=m) (hz:0<=z/\z < m)
  (hk:go X 4000 k ⟨(d1,⟨[],.pt [] 0⟩) :: st.sl,st.bx.set i (cs8.take off ++ d8.cells ++ cs8.drop (off + d8.cells.length)),st.tk.set kt ⟨m,xx,e,some (cs.take (z.toNat * e) ++ cs' ++ cs.drop (z.toNat * e + e))⟩⟩)
  (bp:X.still=false:=by exact rfl):runS2 X.P ops W C (kq X k .normal) (.op i6 (.ev i7 (.ev i8 .fin .stop) (.ev i8 (.ev i7 .fin .stop) .stop))) a w:=by
 have gY:=hR.rl;have e2:=cC (bc gY hi);have hv:=bc gY hs;obtain ⟨g,cap,cur,e1,_⟩:=KE hR hv hq px (by omega);have hr1:Rel X E ⟨(d1,⟨[],.pt [] 0⟩) :: st.sl,st.bx,st.tk⟩ (a.put (some d1) (.pointer (some ⟨g,z.toNat * e,none⟩))) w:=bh hR E7 (.pt [] 0) _ (by unfold Rv;exact ⟨g,z.toNat * e,rfl,by simp only [RvAt]⟩)
 have Yf:(a.put (some d1) (.pointer (some ⟨g,z.toNat * e,none⟩))).eval (.tmp d1) = .pointer (some ⟨g,z.toNat * e,none⟩):=by
  simp only [eV,bg,Nat.blt_eq] at E7;simp [Act.eval,Act.put,hR.sz,E7.1]
 have hL1:isL o6.op=false:=by rw [h6.1];all_goals rfl
 simp only [runS2];refine ⟨_,g6,.pointer (some ⟨g,z.toNat * e,none⟩),.inl ⟨dn h6.2.2,fun w9 _=>UL h6.1 e1 e2 hT hz w9⟩,fun h9=>(by rw [hL1] at h9;cases h9),?_⟩;rw [h6.2.1];generalize a.put (some d1) (.pointer (some ⟨g,z.toNat * e,none⟩))=a1 at hr1 Yf ⊢;have w7:=dn (ops:=ops) (a:=a1) h7.2.2;have w8:=dn (ops:=ops) (a:=a1) h8.2.2;refine ⟨⟨_,g7,?_⟩,⟨_,g8,?_⟩,trivial⟩
 ·unfold dQ;rw [ah w7];obtain ⟨w1,E1,bS,j8⟩:=KF hr1 h7.1 Yf hv e1 (hx _) ZY L9 he0 di hq px hz bp;refine oO bS ?_;rw [h7.2.1,show a1.put none undef=a1 from rfl];refine ⟨fun j hj=>(by rw [hW7] at hj;cases hj),⟨_,g8,?_⟩,trivial⟩;rw [ah w8];obtain ⟨w2,RB,Yc⟩:=KH j8 h8.1 (hp _) (hx8 _) hn8 adw hc8 bp;refine oO RB ?_;rw [h8.2.1];exact ⟨fun j hj=>(by rw [hW8] at hj;cases hj),go_sound 4000 _ _ hk _ _ _ Yc⟩
 ·unfold dQ;rw [ah w8];obtain ⟨w1,bS,j8⟩:=KH hr1 h8.1 (hp _) (hx8 _) hn8 adw hc8 bp;refine oO bS ?_;rw [h8.2.1,show a1.put none undef=a1 from rfl];refine ⟨fun j hj=>(by rw [hW8] at hj;cases hj),⟨_,g7,?_⟩,trivial⟩;rw [ah w7];obtain ⟨w2,E2,RB,Yc⟩:=KF j8 h7.1 Yf hv e1 (hx _) ZY L9 he0 di hq px hz bp;refine oO RB ?_;rw [h7.2.1];exact ⟨fun j hj=>(by rw [hW7] at hj;cases hj),go_sound 4000 _ _ hk _ _ _ Yc⟩
end
end Dv
end Go.Proofs.YtfdedoiiahbnnaaGreat
set_option maxRecDepth 100000
namespace Go.Proofs.YtfdedoiiahbnnaaGreat
open Go Go.RowKit Dv Go.Proofs.Tryz
abbrev DF (n:Nat):List DV:=[.sl 0 (List.replicate n []) (some 0)]
abbrev G5 (n:Nat) (cs:List DV):TkE:=⟨n,133,18,some cs⟩
abbrev r9:List Value:=[.string ⟨#[]⟩,.int .i64 0,.bool false,.slice none 0 0,.int .i64 0,.int .i64 0,.int .i64 0,.int .i64 0,.slice none 0 0,.int .i64 0,.int .i64 0,.int .i64 0,.int .i64 0,.int .i64 0,.slice none 0 0,.slice none 0 0,.string ⟨#[]⟩,.int .i64 0]
theorem F9 (g:Nat) (gh:Enters prog g) (c C1:au) (x:Ph) (t:Ty) (jo:Ev prog g [gT] [aH c] [] (jX (.agg (lR x (dC t))) C1)) (n:Nat) (hn:n<=274877906945) (cs:List DV) (cx:cs.length=n * 18) :
  Ev prog 338 [.loc 3 0,.loc 2 0] [aH c,ln,[.fn g [gT] []],DF n] [G5 n cs] (fun r os tk=>r = .bK []/\os=[aH C1,ln,[.fn g [gT] []],DF (n + 1)]/\tk=[G5 (n + 1) (cs ++ lR x (dC t))]):=by
 obtain ⟨th,tp⟩:=t;obtain ⟨⟨ns,na⟩,bare,lb,wide,ck,cn,ca,cl⟩:=x;obtain ⟨l,p,d,f1,f2⟩:=c;obtain ⟨l1,p1,d1,f11,f21⟩:=C1;refine eG 9 [] func338 rfl ntmps338 rfl fun _ _ _ _=>?_
 have hE:(cs ++ [vL r9].flatten).take (((List.replicate n ([]:List DV)).length:Int).toNat * 18) ++ lR ⟨⟨ns,na⟩,bare,lb,wide,ck,cn,ca,cl⟩ (dC (.mk th tp)) ++ (cs ++ [vL r9].flatten).drop (((List.replicate n ([]:List DV)).length:Int).toNat * 18 + 18)=cs ++ lR ⟨⟨ns,na⟩,bare,lb,wide,ck,cn,ca,cl⟩ (dC (.mk th tp)):=by
  have hz : [vL r9].flatten.length=18:=rfl;rw [List.length_replicate,lD,List.take_left' cx,List.drop_eq_nil_of_le (by rw [List.length_append,hz];omega),List.append_nil]
 refine drawG_2 (fun i _=>Nat.beq i 5 || Nat.beq i 7 || Nat.beq i 8) (.op 0 (.op 1 (.op 3 (.ev 2 (.ev 4 (.ev 5 (.op 6 (.ev 7 (.ev 8 .fin .stop) (.ev 8 (.ev 7 .fin .stop) .stop))) .stop) .stop) (.ev 4 (.ev 2 (.ev 5 (.op 6 (.ev 7 (.ev 8 .fin .stop) (.ev 8 (.ev 7 .fin .stop) .stop))) .stop) .stop) .stop))))) mo (by decide +kernel) (fun Ep ap wp hp=>⟨fun _ w'=>CC Ep [[],ln,[.fn g [gT] []],DF n] wp w',?_⟩);have SD:vf Ep [[],ln,[.fn g [gT] []],DF n] wp:=Kj hp.env [0];refine WJ hp rfl (CL hp SD (fun w' h=>h)) ⟨fun _ _ _ _ _ _=>rfl,hp.env.sub⟩ rfl rfl rfl (fun a0 h0=>?_);refine WJ h0 rfl (CL h0 SD (fun w' h=>h)) ⟨fun _ _ _ _ _ _=>rfl,hp.env.sub⟩ rfl rfl rfl (fun a1 h1=>?_);refine adv h1 rfl rfl rfl rfl rfl (fun a3 h3=>?_);refine KJ h3 rfl rfl rfl rfl rfl gh 1 0 rfl rfl bB bB jo rfl rfl (fun v r eO cA E2 w2 hΦ _ _ hR2 NS Aa hβ2 ho2=>?_) ?_
 ·obtain ⟨rfl,rfl,rfl⟩:=hΦ;refine ⟨fun j _ hC=>⟨fun i b cs' hb cx bo=>?_,fun x u hx=>hR2.env.sub x u (Aa.c x u hx)⟩,?_⟩
  ·match i,cx with
   | 0,cx=>exact absurd (Option.some.inj cx).symm bo
   | i + 1,cx=>rw [ho2 (i + 1) b (by omega) hb]
  have h2:=bh hR2 (show eV _ _ (some 4)=true from rfl) _ v NS;refine Rz h2 rfl rfl (Ru r9 rfl rfl rfl rfl rfl rfl) (fun a4 E4 w4 hR4 Ga=>⟨fun j _ hC=>⟨fun i b cs' hb cx bo=>?_,fun x u hx=>hR4.env.sub x u (Ga.x.c x u (Aa.c x u hx))⟩,?_⟩) trivial
  ·rw [Ga.o i b (by rw [hβ2];exact hb) (by simp)];exact hC.o i b cs' hb cx bo
  refine KI (S':=⟨[(7,⟨[],.sl 0 (List.replicate (n + 1) []) (some 0)⟩),(6,⟨[],.sl 18 [vL r9] (some 1)⟩),(4,⟨[],.agg (lR ⟨⟨ns,na⟩,bare,lb,wide,ck,cn,ca,cl⟩ (dC (.mk th tp)))⟩),aJ 5 ((List.replicate n ([]:List DV)).length),(3,⟨[],.fn g [gT] []⟩),(2,⟨[],.sl 0 (List.replicate n []) (some 0)⟩),bq 0 3,bq 1 2],[aH ⟨l1,p1,d1,f11,f21⟩,ln,[.fn g [gT] []],DF n],[G5 (n + 1) (cs ++ [vL r9].flatten),⟨1,133,18,none⟩]⟩) hR4 rfl rfl rfl rfl ?_ (fun a5 E5 w5 hR5 hst5=>⟨fun j hj=>(by cases hj),?_⟩) trivial
  ·exact ⟨⟨⟨by simp,by simp⟩,by simp [maxLen];omega,by simp;omega⟩,rfl⟩
  refine RA (kt:=0) hR5 (fun _=>rfl) (fun _=>rfl) rfl rfl rfl ⟨rfl,rfl,rfl⟩ ⟨rfl,rfl,rfl⟩ ⟨rfl,rfl,rfl⟩ rfl rfl rfl (fun _=>rfl) rfl rfl (Nat.succ_pos 17) (fun _=>rfl) (fun _=>rfl) rfl rfl rfl rfl rfl rfl (by simp) ⟨by simp,by simp;omega⟩ ?_;exact ⟨.bK [],[aH ⟨l1,p1,d1,f11,f21⟩,ln,[.fn g [gT] []],DF (n + 1)],bB,bB,rfl,rfl,congrArg (fun z=>[G5 (n + 1) z]) hE⟩
 ·refine Rz h3 rfl rfl (Ru r9 rfl rfl rfl rfl rfl rfl) (fun a4 E4 w4 hR4 Ga=>⟨fun j _ hC=>⟨fun i b cs' hb cx bo=>?_,fun x u hx=>hR4.env.sub x u (Ga.x.c x u hx)⟩,?_⟩) trivial
  ·rw [Ga.o i b hb (by simp)]
  obtain ⟨rβ,hβ4⟩:=Ga.β;refine KJ hR4 rfl rfl rfl rfl rfl gh 1 0 rfl rfl bB bB jo rfl rfl (fun v r eO cA E2 w2 hΦ _ _ hR2 NS Aa hβ2 ho2=>?_) trivial;obtain ⟨rfl,rfl,rfl⟩:=hΦ;refine ⟨fun j _ hC=>⟨fun i b cs' hb cx bo=>?_,fun x u hx=>hR2.env.sub x u (Aa.c x u (Ga.x.c x u hx))⟩,?_⟩
  ·match i,cx with
   | 0,cx=>exact absurd (Option.some.inj cx).symm bo
   | i + 1,cx=>
    rw [ho2 (i + 1) b (by omega) (Ga.x.β (i + 1) b hb)];exact hC.o (i + 1) b cs' hb cx bo
  have h2:=bh hR2 (show eV _ _ (some 4)=true from rfl) _ v NS;refine KI (S':=⟨[(7,⟨[],.sl 0 (List.replicate (n + 1) []) (some 0)⟩),(4,⟨[],.agg (lR ⟨⟨ns,na⟩,bare,lb,wide,ck,cn,ca,cl⟩ (dC (.mk th tp)))⟩),(6,⟨[],.sl 18 [vL r9] (some 1)⟩),aJ 5 ((List.replicate n ([]:List DV)).length),(3,⟨[],.fn g [gT] []⟩),(2,⟨[],.sl 0 (List.replicate n []) (some 0)⟩),bq 0 3,bq 1 2],[aH ⟨l1,p1,d1,f11,f21⟩,ln,[.fn g [gT] []],DF n],[G5 (n + 1) (cs ++ [vL r9].flatten),⟨1,133,18,none⟩]⟩) h2 rfl rfl rfl rfl ?_ (fun a5 E5 w5 hR5 hst5=>⟨fun j hj=>(by cases hj),?_⟩) trivial
  ·exact ⟨⟨⟨by simp,by simp⟩,by simp [maxLen];omega,by simp;omega⟩,rfl⟩
  refine RA (kt:=0) hR5 (fun _=>rfl) (fun _=>rfl) rfl rfl rfl ⟨rfl,rfl,rfl⟩ ⟨rfl,rfl,rfl⟩ ⟨rfl,rfl,rfl⟩ rfl rfl rfl (fun _=>rfl) rfl rfl (Nat.succ_pos 17) (fun _=>rfl) (fun _=>rfl) rfl rfl rfl rfl rfl rfl (by simp) ⟨by simp,by simp;omega⟩ ?_;exact ⟨.bK [],[aH ⟨l1,p1,d1,f11,f21⟩,ln,[.fn g [gT] []],DF (n + 1)],bB,bB,rfl,rfl,congrArg (fun z=>[G5 (n + 1) z]) hE⟩
section
variable {K:RS->Ty × RS} {d:Int} (hK:∀ q,Kw q->bA prog 183 [.agg (dRS q),.v (.int .i64 d)] (.bK [.agg (dC (K q).1),.agg (dRS (K q).2)])) (hk:∀ q,Kw q->Kw (K q).2)
include hK hk
end
def Da (l:List (Ph × Ty)):List (List DV):=l.map (fun p=>lR p.1 (dC p.2))
theorem KK (l:List (Ph × Ty)):(Da l).length=l.length:=List.length_map ..
theorem UO (l:List (Ph × Ty)) (p:Ph) (t:Ty):Da l ++ [lR p (dC t)]=Da (l ++ [(p,t)]):=by simp [Da]
abbrev pU {α:Type} (f:au->α->au × α) (e:ByteArray) (N:Nat) (c:au) (a:α):au × α:=pT true f e N c a
theorem Bu {α:Type} {A B C:α->List DV} {T:α->TkE} {f:au->α->au × α} {Inv:au->α->Prop} {g i j:Nat} (hi:i < 4) (hj:j < 4) (hA:∀ a,clB.clL 4 1 (A a)=true) (hB:∀ a,clB.clL 4 1 (B a)=true) (hC:∀ a,clB.clL 4 1 (C a)=true) (gh:Enters prog g)
  (jo:∀ c a,av c->Inv c a->c.f.1=0->yq A B C T f Inv g i j c a) (FX:∀ c a,av c->Inv c a->Inv (c.ai ⟨#[44]⟩) a) (e:ByteArray) (N:Nat) (c:au) (a:α) (hc:av c) (ha:Inv c a) (hN:c.l.length<=c.p + N) :
  Ev prog 160 [gT,.v (.string e),(.v (.bool true)),.fn g [] [.loc i 0,.loc j 0]] [aH c,A a,B a,C a] [T a]
   (fun r os tk=>r = .bK []/\os=[aH (pU f e N c a).1,A (pU f e N c a).2,B (pU f e N c a).2,C (pU f e N c a).2]/\tk=[T (pU f e N c a).2]):=
 FW (A:=A) (B:=B) (C:=C) (T:=T) (f:=f) (Inv:=Inv) true hi hj hA hB hC gh jo FX e N c a hc ha hN
abbrev ppSt (c:au) (g:Nat) (tag:Bool):St:=⟨[Oq 1 (!tag),bq 3 1,bq 5 2,bq 7 3],[aH c,ln,[.fn g [gT] []],DF 0],[G5 0 []]⟩
theorem UP (p:Ph) (t:Ty):(lR p (dC t)).length=18:=by
 obtain ⟨h,ps⟩:=t;rfl
theorem RC {l:List (Ph × Ty)}:∀ x∈Da l,x.length=18:=fun x hx=>by
 obtain ⟨y,_,rfl⟩:=List.mem_map.1 hx;exact UP _ _
theorem RD:∀ {l:List (List DV)},(∀ x∈l,x.length=18)->l.flatten.length=l.length * 18
 | [],_=>rfl
 | x :: r,h=>by
  rw [List.flatten_cons,List.length_append,h x (by simp),RD (fun y hy=>h y (fA _ hy)),List.length_cons];omega
theorem RE (l:List (Ph × Ty)):(Da l).flatten.length=l.length * 18:=by rw [RD RC,KK]
def WK (c:au) (a:List (Ph × Ty)):Prop:=a.length<=c.p∨(c.f.1≠0/\a.length<=c.p + 1)
theorem tP {c:au} (h:c.aq.f.1=0):c.aq.p=c.p + 1:=by grind [au.aq,au.step,Bf,iq]
section
variable {K:au->Ty × au} {D:Nat} (hk:IV K D)
include hk
theorem UQ {tag:Bool} {c:au} (h:av c) (hd:c.d=D) (h0:(de K tag c).2.f.1=0):c.p + 1<=(de K tag c).2.p:=by
 unfold de at h0 ⊢
 cases tag with
 | true=>
  rw [ah rfl] at h0 ⊢;unfold jR at h0 ⊢;split at h0
  ·rename_i hi;rw [ah hi];have o1:av c.aq.step:=h.aq.step;have d1:c.aq.step.d=D:=by rw [(aR.step _).d,(aR.aq _).d,hd]
   have e1:=tP (Sm.dE (by decide) hi);have e2:=(aR.step c.aq).p;have e3:=(hk.st o1 d1).p;have e4:=(aR.ai (K c.aq.step).2 bE).p;have e5:=(@iR (kX c.aK false) _ _ (Sm.self ((hk.ok o1 d1).ai bE))).st.p;show c.p + 1<=(bT _ _).2.p;omega
  ·grind [tP]
 | false=>
  rw [ag (by simp)] at h0 ⊢;have d1:(c.aq.ai cG).d=D:=by rw [(aR.ai _ _).d,(aR.aq _).d,hd]
  have o1:=h.aq.ai cG;have h0:(bT (kX c.aK false) (K (c.aq.ai cG)).2).2.f.1=0:=h0;have f1:=hk.fine o1 d1 (oH h0);have e1:=tP (bM f1);have e2:=(aR.ai c.aq cG).p;have e3:=(hk.st o1 d1).p;have e5:=(@iR (kX c.aK false) _ _ (Sm.self (hk.ok o1 d1))).st.p;show c.p + 1<=(bT _ _).2.p;omega
theorem Gb {tag:Bool} {g:Nat} (gh:Enters prog g) (hP:∀ c,av c->c.d=D->Ev prog g [gT] [aH c] [] (jX (.agg (lR (de K tag c).1.1 (dC (de K tag c).1.2))) (de K tag c).2)) (c:au) (a:List (Ph × Ty)) (h:av c) (hi:WK c a/\c.d=D) (hf:c.f.1=0) :
  yq (fun _=>ln) (fun _=>[.fn g [gT] []]) (fun a=>DF a.length) (fun a=>G5 a.length (Da a).flatten) (mh K tag) (fun c a=>WK c a/\c.d=D) 338 3 2 c a where
 ok:=(jZ hk h hi.2).1
 l:=(jZ hk h hi.2).2.l
 p:=(jZ hk h hi.2).2.p
 inv:=by
  refine ⟨?_,by rw [show (mh K tag c a).1=(de K tag c).2 from rfl,(jZ hk h hi.2).2.d];exact hi.2⟩
  have ha:a.length<=c.p:=by
   rcases hi.1 with h1 | h1
   ·exact h1
   ·exact absurd hf h1.1
  show WK (de K tag c).2 (a ++ [(de K tag c).1]);unfold WK;rw [List.length_append,List.length_singleton];have e1:=(jZ (tag:=tag) hk h hi.2).2.p;by_cases h0:(de K tag c).2.f.1=0
  ·grind [UQ]
  ·exact .inr ⟨h0,by omega⟩
 ev:=by
  have h1:=h.lt;have h2:=h.len
  have hl:a.length<=c.p:=by
   rcases hi.1 with h1 | h1
   ·exact h1
   ·exact absurd hf h1.1
  have hp:=hP c h hi.2;have e:=F9 g gh c (de K tag c).2 (de K tag c).1.1 (de K tag c).1.2 hp a.length (by omega) (Da a).flatten (RE a)
  have e1:DF (mh K tag c a).2.length=DF (a.length + 1):=by
   show DF (a ++ [(de K tag c).1]).length=_;rw [List.length_append,List.length_singleton]
  have e2:G5 (mh K tag c a).2.length (Da (mh K tag c a).2).flatten=G5 (a.length + 1) ((Da a).flatten ++ lR (de K tag c).1.1 (dC (de K tag c).1.2)):=by
   show G5 (a ++ [(de K tag c).1]).length (Da (a ++ [(de K tag c).1])).flatten=_;rw [List.length_append,List.length_singleton,<- UO];simp
  rw [e1,e2];exact e
omit hk in
theorem KL (c:au) (a:List (Ph × Ty)) (_:av c) (hi:WK c a/\c.d=D):WK (c.ai ⟨#[44]⟩) a/\(c.ai ⟨#[44]⟩).d=D:=by
 refine ⟨?_,by rw [(aR.ai _ _).d];exact hi.2⟩;rcases hi.1 with h1 | ⟨h1,h2⟩
 ·exact .inl (Nat.le_trans h1 (pf c _))
 ·rw [cM h1];exact .inr ⟨h1,h2⟩
end
section
variable {K:au->Ty × au} {D:Nat} (hk:IV K D)
include hk
theorem Gc {tag:Bool} {g:Nat} (gh:Enters prog g) (hP:∀ c,av c->c.d=D->Ev prog g [gT] [aH c] [] (jX (.agg (lR (de K tag c).1.1 (dC (de K tag c).1.2))) (de K tag c).2)) (c:au) (h:av c) (hd:c.d=D) :
  Ev prog 160 [gT,.v (.string bl),.v (.bool (!tag)),.fn 338 [] [.loc 3 0,.loc 2 0]] [aH (c.ai bI),ln,[.fn g [gT] []],DF 0] [G5 0 []]
   (fun r os tk=>r = .bK []/\os=[aH (cI K tag c).2,ln,[.fn g [gT] []],DF (cI K tag c).1.length]/\tk=[G5 (cI K tag c).1.length (Da (cI K tag c).1).flatten]):=by
 have o2:=h.ai bI;have d2:(c.ai bI).d=D:=by rw [(aR.ai _ _).d,hd]
 have hlen:=o2.len;have hb:=eS
 cases tag with
 | true=>
  have e:=qE (A:=fun _=>ln) (B:=fun _=>[.fn g [gT] []]) (C:=fun a=>DF a.length) (T:=fun a=>G5 a.length (Da a).flatten) (f:=mh K true) (Inv:=fun c a=>WK c a/\c.d=D) (i:=3) (j:=2) (by decide) (by decide) (fun _=>rfl) (fun _=>rfl) (fun _=>rfl) VV
   (fun c a hc hi hf=>Gb hk gh hP c a hc hi hf) KL bl bigN _ [] o2 ⟨.inl (Nat.zero_le _),d2⟩ (by omega)
  exact e
 | false=>
  have e:=Bu (A:=fun _=>ln) (B:=fun _=>[.fn g [gT] []]) (C:=fun a=>DF a.length) (T:=fun a=>G5 a.length (Da a).flatten) (f:=mh K false) (Inv:=fun c a=>WK c a/\c.d=D) (i:=3) (j:=2) (by decide) (by decide) (fun _=>rfl) (fun _=>rfl) (fun _=>rfl) VV
   (fun c a hc hi hf=>Gb hk gh hP c a hc hi hf) KL bl bigN _ [] o2 ⟨.inl (Nat.zero_le _),d2⟩ (by omega)
  have hR:cI K false c=((pU (mh K false) bl bigN (c.ai bI) []).2,(pU (mh K false) bl bigN (c.ai bI) []).1):=by grind [cI,pT]
  rw [hR];exact e
theorem uQ {tag:Bool} {g:Nat} (gh:Enters prog g) (hP:∀ c,av c->c.d=D->Ev prog g [gT] [aH c] [] (jX (.agg (lR (de K tag c).1.1 (dC (de K tag c).1.2))) (de K tag c).2)) (c:au) (h:av c) (hd:c.d=D) :
  Ev prog 297 [gT,.v (.bool (!tag)),.fn g [gT] []] [aH c] [] (jX (.sl 18 (Da (cI K tag c).1) none) (cI K tag c).2):=by
 have h1:=bV c h bI;have h2:=Gc hk gh hP c h hd;generalize cI K tag c=R at h2 ⊢;generalize c.is 4 bI=B at h1;generalize c.ai bI=c2 at h1 h2;obtain ⟨L,lc,lp,ld,lf1,lf2⟩:=R;obtain ⟨l,p,d,f1,f2⟩:=c;obtain ⟨l2,p2,d2,f12,f22⟩:=c2;simp only at h2;refine eG 16 [.tmp 6] func297 rfl ntmps297 rfl fun _ _ _ _=>?_;refine ak 1 fX h1 ?_;refine rX (G5 0 []) (ppSt ⟨l2,p2,d2,f12,f22⟩ g tag) rfl ?_ rfl ?_ ?_ rfl rfl ?_
 ·repeat' (first | exact rfl | exact az rfl | refine ⟨_,_,rfl,?_,?_⟩)
 ·repeat' (first | exact rfl | exact az rfl | exact dj (bn _) rfl | refine ⟨_,_,rfl,?_,?_⟩)
 ·repeat' (first | exact trivial | exact az rfl | refine ⟨⟨_,rfl,?_⟩,?_⟩)
 refine xu 4 1 Em rfl rfl rfl bB bB h2 (fun r eO cA hΦ _ _=>?_);obtain ⟨rfl,rfl,rfl⟩:=hΦ;refine ⟨_,PI (j:=3) (o:=0) (k:=0) (ty:=133) (e:=18) (ocs:=DF L.length) (n:=L.length) (es:=List.replicate L.length []) (ns:=Da L) rfl RC (KK L) rfl rfl (by simp),?_⟩;exact ⟨.sl 18 (Da L) none,[aH _],bB,bB,rfl,rfl,rfl⟩
end
abbrev UR (a:Int) (l:List Wd):List DV:=[.v (.int .i64 4),.v (.int .i64 a),.v (.int .i64 0),.v (.int .i64 0),.v (.int .i64 0),.sl 2 (cd l) (some 0),.v (.slice none 0 0),.v (.string ⟨#[]⟩),.v (.int .i64 0)]
abbrev WL:List DV:=[.loc 1 0]
theorem RF (a:Int) (l:List Wd) (w:Wd):UR a (l ++ [w])=[.v (.int .i64 4),.v (.int .i64 a),.v (.int .i64 0),.v (.int .i64 0),.v (.int .i64 0),.sl 2 (cd l ++ [nD w]) (some 0),.v (.slice none 0 0),.v (.string ⟨#[]⟩),.v (.int .i64 0)]:=by simp [UR,cd]
theorem IZ (c:au) (h:av c) (dA:Int) (a:List Wd) (ha:a.length<=1099511627776):Ev prog 296 [.loc 3 0,.loc 2 0] [aH c,UR dA a,ln,WL] [Be a]
  (fun r os tk=>r = .bK []/\os=[aH c.aq,UR dA (a ++ [c.aK]),ln,WL]/\tk=[Be (a ++ [c.aK])]):=by
 have hn:=ed c h;have hl:(cd a).length=a.length:=aM a;generalize c.aK=W at hn ⊢;generalize c.aq=C1 at hn ⊢;obtain ⟨l,p,d,f1,f2⟩:=c;obtain ⟨l1,p1,d1,f11,f21⟩:=C1;obtain ⟨ws,wa⟩:=W;refine eG 13 [] func296 rfl ntmps296 rfl fun _ _ _ _=>?_;refine cr [0] (fun i=>Nat.beq i 11) mo (by decide +kernel) ?_;refine fb 1 rfl nZ rfl rfl bB bB hn (fun r eO hΦ _=>?_);obtain ⟨rfl,rfl,_⟩:=hΦ;refine ⟨hl,⟨by simp [maxLen,hl];omega,by simp [hl];omega⟩,?_⟩;rw [FY,RF];exact ⟨.bK [],[aH ⟨l1,p1,d1,f11,f21⟩,[.v (.int .i64 4),.v (.int .i64 dA),.v (.int .i64 0),.v (.int .i64 0),.v (.int .i64 0),.sl 2 (cd a ++ [nD ⟨ws,wa⟩]) (some 0),.v (.slice none 0 0),.v (.string ⟨#[]⟩),.v (.int .i64 0)],ln,WL],bB,bB,rfl,rfl,rfl⟩
theorem RG (dA:Int) (c:au) (a:List Wd) (h:av c) (hi:ys c a) (hf:c.f.1=0):yq (fun a=>UR dA a) (fun _=>ln) (fun _=>WL) Be fg ys 296 3 2 c a where
 ok:=h.aq
 l:=(aR.aq c).l
 p:=(aR.aq c).p
 inv:=(Ku c a h hi hf).inv
 ev:=IZ c h dA a (by
  have h1:=h.lt;have h2:=h.len
  rcases hi with h3 | h3<;>omega)
theorem M4 (dA:Int) (c:au) (h:av c):Ev prog 160 [gT,.v (.string bE),.v (.bool false),.fn 296 [] [.loc 3 0,.loc 2 0]] [aH c,UR dA [],ln,WL] [Be []]
  (fun r os tk=>r = .bK []/\os=[aH (listF fg bE bigN c []).1,UR dA (listF fg bE bigN c []).2,ln,WL]/\tk=[Be (listF fg bE bigN c []).2]):=by
 have hlen:=h.len;have hb:=eS;exact qE (A:=fun a=>UR dA a) (B:=fun _=>ln) (C:=fun _=>WL) (T:=Be) (f:=fg) (Inv:=ys) (by decide) (by decide) (fun _=>rfl) (fun _=>rfl) (fun _=>rfl) abq (fun c a hc hi hf=>RG dA c a hc hi hf) F1 bE bigN c [] h (.inl (Nat.zero_le _)) (by omega)
end Go.Proofs.YtfdedoiiahbnnaaGreat
