/- Part 6 of the proof: Cursors: the program's Peek, step, is, Mark, Word, Take, Need, Fail, Enter, Leave, Fault; Cursors: the program's is, Mark, Word, Take, FailAt, Fail, Need, Enter, Leave, Next; The reader of schemas: wrong, fine, keyword, name; The reader of schemas: a list, for any reader of its elements that has its own contract; Rules for the evaluator: calls that hand back fresh rows; Rules for the evaluator: a call that writes the caller's objects, in a region that draws its order; The reader of schemas: a level's name onto the schema's levels; The reader of schemas: a type where something is wrong; the type bool; The reader of schemas: a schema of levels and a root; Readers of tokens: the document's, plain; Readers of tokens: the program's, plain; they read as the document's do; Readers of tokens: lists, parts, types, schemas: the program's as the document's; Readers of tokens: no schema is heavier than its tokens; A region that draws its order, in which a new object may come at any time among calls: its run with the object made at each of these times serves every order; A region that draws its order, run by a schedule: at each point all that may come and has an effect is tried; Rules for the evaluator: a small region that draws its order, of which more than one end may come: all orders are tried; The reader of values: enter, word, a value that is a word; The reader of values: a record's key and value; Rules for the evaluator: calls that hand back new objects; A new cursor; The library's IndexByte, laid at this program; HasPrefix; Tokens: Blank, Mark, the token of a name, of a mark, of a number; Tokens: the token of a name, of a mark, of a number; all of a text's; The reader of values: a record of one key; Parse of the example's text; Readers of tokens: the program's number, label; Readers of tokens: the program's coarse; Readers of tokens: the program's marks, field, tag; Rules for the evaluator: elements of rows whose cells nobody else knows, read and written whole; Steps of a drawn region: elements of rows whose cells nobody else knows, read and written whole; Rules for the evaluator: a region that draws its order; what each of its reads asks is told read by read; Rules for the evaluator: in a region that draws its order, an element and an object are written in either order; calls of closures. No condition. -/
import Derived.Lib.Hide
import Derived.Shelf.Strings.Search1
import Derived.Test.YtfdedoiiahbnnaaGreatNd2
import Derived.Test.YtfdedoiiahbnnaaGreatNd3
import Derived.Test.YtfdedoiiahbnnaaGreatNd5
set_option linter.all false
set_option maxRecDepth 100000
namespace Go.Proofs.YtfdedoiiahbnnaaGreat
open Go Go.RowKit Dv Go.Proofs.Tryz
theorem S9 {X:Ctx} {st:St} {k:List It} {f d:Nat} {args bO:List DV} {os os2:List (List DV)} {r:DV} (n:Nat) (gY:Enters X.P f) (hc:Ev X.P f bO os [] (fun r' Zj Zi=>r'=r/\Zj=os2/\Zi=[])) (hk:go X 4000 k ⟨(d,⟨[],r⟩) :: st.sl,os2 ++ st.bx.drop n,st.tk⟩) (hd:fU X.nt st.sl (some d)=true:=by exact rfl) (BM:Nat.ble n st.bx.length=true:=by exact rfl)
  (rT:mU [] n n 0 os (st.bx.take n):=by repeat' (first | exact rfl | exact trivial | exact Or.inr (Or.inl ⟨_,rfl⟩) | exact Or.inr ⟨_,rfl⟩ | exact Or.inl ⟨rfl,rfl⟩ | exact Or.inl rfl | refine Or.inr ⟨_,_,rfl,Nat.zero_le _,rfl,?_⟩ | exact ⟨nL rfl,rfl⟩ | refine ⟨_,_,rfl,?_,?_⟩ | refine ⟨_,rfl,?_⟩ | refine Or.inr (Or.inr (Or.inr ⟨_,_,rfl,?_⟩)) | exact Or.inl rfl | refine Or.inr ?_)) (ha:CcL [] n n 0 bO args:=by repeat' (first | exact rfl | exact trivial | exact Or.inr (Or.inl ⟨_,rfl⟩) | exact Or.inr ⟨_,rfl⟩ | exact Or.inl ⟨rfl,rfl⟩ | exact Or.inl rfl | refine Or.inr ⟨_,_,rfl,Nat.zero_le _,rfl,?_⟩ | exact ⟨nL rfl,rfl⟩ | refine ⟨_,_,rfl,?_,?_⟩ | refine ⟨_,rfl,?_⟩ | refine Or.inr (Or.inr (Or.inr ⟨_,_,rfl,?_⟩)) | exact Or.inl rfl | refine Or.inr ?_)) (hst:X.still=false:=by exact rfl) (hX:X.bt=[]:=by exact rfl):CallG X f args (some d) k st:=
 ai n 0 gY hd BM rfl rT ha hc (fun r' Zj Zi hΦ _ _=>by obtain ⟨rfl,rfl,rfl⟩:=hΦ;exact hk) hst hX
abbrev kV (r:DV) (c:au) (r':DV) (os:List (List DV)) (tk:List TkE):Prop:=r'=r/\os=[aH c]/\tk=[]
theorem aw.get {c:au} (h:aw c) (h0:c.f.1=0):(er c.l)[c.p]? = some (tT c.aO):=by
 obtain ⟨t,h1,h2⟩:=h.aO h0;rw [h2];exact Pa h1
theorem dY (c:au) (h:aw c):Ev prog 139 [.loc 0 0] [aH c] [] (kV (.agg (tT c.aO)) c):=by
 have hg:=h.get;have Ip:c.f.1≠0->c.aO=jb c.f.2:=fun h=>by rw [au.aO,af h]
 have az:c.p < (er c.l).length:=by rw [cq];exact h.lt
 generalize c.aO=t at hg Ip ⊢;obtain ⟨l,p,d,f1,f2⟩:=c;obtain ⟨k,a,e,s,n⟩:=t;simp only at hg Ip az;refine eG 35 [.cell 2 218] func139 rfl ntmps139 rfl fun _ _ _ _=>?_;refine br ?_ ?_<;>intro g
 ·have g:¬ f1=0:=sU g;obtain ⟨rfl,rfl,rfl,rfl,rfl⟩:=gZ.mk.inj (Ip g);refine dS ?_;exact ⟨.agg _,[aH _],av,av,rfl,rfl,rfl⟩
 ·have g:f1=0:=sU g;refine dS ?_;refine iX (hg g) ?_;exact ⟨.agg _,[aH _],av,av,rfl,rfl,rfl⟩
theorem oJ (c:au):Ev prog 138 [.loc 0 0] [aH c] [] (kV c.f.d c):=by
 obtain ⟨l,p,d,f1,f2⟩:=c;refine eG 10 [.cell 2 26] func138 rfl ntmps138 rfl fun _ _ _ _=>?_;exact ⟨.agg _,[aH _],av,av,rfl,rfl,rfl⟩
theorem DR (c:au) (h:aw c):Ev prog 284 [.loc 0 0] [aH c] [] (kV (.bo []) c.step):=by
 have hp:=dY c h;have hs:c.step=if c.aO.k=0 then c else { c with p:=c.p + 1 }:=rfl
 have hb:c.p < 274877906944:=Nat.lt_of_lt_of_le h.lt h.len;generalize c.step=C at hs ⊢;generalize c.aO=t at hp hs;obtain ⟨l,p,d,f1,f2⟩:=c;obtain ⟨k,a,e,s,n⟩:=t;simp only at hb hs;refine eG 13 [] func284 rfl ntmps284 rfl fun _ _ _ _=>?_;refine S9 1 jx hp ?_;refine br ?_ ?_<;>intro g
 ·have g:¬ k=0:=sU g;rw [af g] at hs;rw [hs]
  have hw:IntKind.i64.wrap ((p:Int) + 1)=((p + 1:Nat):Int):=by
   rw [wrap64 (by omega) (by omega)];omega
  have hX:=congrArg (fun z=>DV.v (Value.int .i64 z)) hw;exact ⟨.bo [],[aH _],(by repeat' (first | exact rfl | exact trivial | exact Or.inr (Or.inl ⟨_,rfl⟩) | exact Or.inr ⟨_,rfl⟩ | exact Or.inl ⟨rfl,rfl⟩ | exact Or.inl rfl | refine Or.inr ⟨_,_,rfl,Nat.zero_le _,rfl,?_⟩ | refine ⟨_,_,rfl,?_,?_⟩ | refine ⟨_,rfl,?_⟩ | exact hX | exact ⟨nL rfl,rfl⟩ | refine Or.inr (Or.inr (Or.inr ⟨_,_,rfl,?_⟩)) | exact Or.inl rfl | refine Or.inr ?_)),(by repeat' (first | exact rfl | exact trivial | exact Or.inr (Or.inl ⟨_,rfl⟩) | exact Or.inr ⟨_,rfl⟩ | exact Or.inl ⟨rfl,rfl⟩ | exact Or.inl rfl | refine Or.inr ⟨_,_,rfl,Nat.zero_le _,rfl,?_⟩ | refine ⟨_,_,rfl,?_,?_⟩ | refine ⟨_,rfl,?_⟩ | exact hX | exact ⟨nL rfl,rfl⟩ | refine Or.inr (Or.inr (Or.inr ⟨_,_,rfl,?_⟩)) | exact Or.inl rfl | refine Or.inr ?_)),rfl,rfl,rfl⟩
 ·have g:k=0:=sU g;rw [zIfP g] at hs;rw [hs];exact ⟨.bo [],[aH _],av,av,rfl,rfl,rfl⟩
theorem NS (c:au) (h:aw c) (k:Int) (s:ByteArray):Ev prog 247 [.loc 0 0,.v (.int .i64 k),.v (.string s)] [aH c] [] (kV (.v (.bool (c.is k s))) (c.mh k s)):=by
 have hp:=dY c h;have hs:=DR c h;have hI:c.is k s=(decide (c.aO.k=k) && decide (c.aO.s=s)):=rfl;have hC:c.mh k s=if c.is k s then c.step else c:=rfl
 generalize c.mh k s=C2 at hC ⊢;generalize c.is k s=B at hI hC ⊢;generalize c.step=C1 at hs hC;generalize c.aO=t at hp hI;obtain ⟨tk,ta,te,ts,tn⟩:=t;obtain ⟨l,p,d,f1,f2⟩:=c;obtain ⟨l1,p1,d1,f11,f21⟩:=C1;simp only at hI;refine eG 22 [.tmp 6] func247 rfl ntmps247 rfl fun _ _ _ _=>?_;refine S9 1 jx hp ?_;refine br ?_ ?_<;>intro g
 ·have hB:B=false:=by
   rw [hI];have g:¬tk=k∨¬ts=s:=by simpa [ak] using g
   rcases g with g | g<;>simp [g]
  subst hB;rw [af (by simp)] at hC;rw [hC];exact ⟨.v (.bool false),[aH _],av,av,rfl,rfl,rfl⟩
 ·have hB:B=true:=by rw [hI];simpa [ak] using g
  subst hB;rw [zIfP rfl] at hC;rw [hC];refine S9 1 YY hs ?_;exact ⟨.v (.bool true),[aH _],av,av,rfl,rfl,rfl⟩
theorem cr (c:au) (h:aw c) (s:ByteArray):Ev prog 220 [.loc 0 0,.v (.string s)] [aH c] [] (kV (.v (.bool (c.is 4 s))) (c.mh 4 s)):=by
 have hs:=NS c h 4 s;generalize c.mh 4 s=C2 at hs ⊢;generalize c.is 4 s=B at hs ⊢;obtain ⟨l,p,d,f1,f2⟩:=c;obtain ⟨l1,p1,d1,f11,f21⟩:=C2;refine eG 8 [.tmp 4] func220 rfl ntmps220 rfl fun _ _ _ _=>?_;refine S9 1 YR hs ?_;exact ⟨.v (.bool B),[aH _],av,av,rfl,rfl,rfl⟩
theorem cI (c:au) (h:aw c) (s:ByteArray):Ev prog 163 [.loc 0 0,.v (.string s)] [aH c] [] (kV (.v (.bool (c.is 1 s))) (c.mh 1 s)):=by
 have hs:=NS c h 1 s;generalize c.mh 1 s=C2 at hs ⊢;generalize c.is 1 s=B at hs ⊢;obtain ⟨l,p,d,f1,f2⟩:=c;obtain ⟨l1,p1,d1,f11,f21⟩:=C2;refine eG 8 [.tmp 4] func163 rfl ntmps163 rfl fun _ _ _ _=>?_;refine S9 1 YR hs ?_;exact ⟨.v (.bool B),[aH _],av,av,rfl,rfl,rfl⟩
theorem qh (c:au) (h:aw c) (k:Int):Ev prog 246 [.loc 0 0,.v (.int .i64 k)] [aH c] [] (kV (.bo [.agg (tT (c.BR k)),.v (.bool (c.tk k))]) (c.VC k)):=by
 have hp:=dY c h;have hs:=DR c h;have hI:c.tk k=(!decide (c.aO.k=0) && decide (c.aO.k=k)):=rfl;have hT:c.BR k=if c.tk k then c.aO else ⟨0,0,0,aM,0⟩:=rfl
 have hC:c.VC k=if c.tk k then c.step else c:=rfl
 generalize c.VC k=C2 at hC ⊢;generalize c.BR k=T2 at hT ⊢;generalize c.tk k=B at hI hC hT ⊢;generalize c.step=C1 at hs hC;generalize c.aO=t at hp hI hT;obtain ⟨tk,ta,te,ts,tn⟩:=t;obtain ⟨l,p,d,f1,f2⟩:=c;obtain ⟨l1,p1,d1,f11,f21⟩:=C1;simp only at hI;refine eG 22 [.cell 4 218,.tmp 5] func246 rfl ntmps246 rfl fun _ _ _ _=>?_;refine S9 1 jx hp ?_;refine br ?_ ?_<;>intro g
 ·have hB:B=false:=by
   rw [hI];have g:tk=0∨¬tk=k:=by simpa [ak] using g
   rcases g with g | g<;>simp [g]
  subst hB;rw [af (by simp)] at hC hT;rw [hC,hT];exact ⟨.bo [.agg (tT ⟨0,0,0,aM,0⟩),.v (.bool false)],[aH _],av,av,rfl,rfl,rfl⟩
 ·have hB:B=true:=by rw [hI];simpa [ak] using g
  subst hB;rw [zIfP rfl] at hC hT;rw [hC,hT];refine S9 1 YY hs ?_;exact ⟨.bo [.agg (tT _),.v (.bool true)],[aH _],av,av,rfl,rfl,rfl⟩
theorem xN (c:au) (e a:Int):Ev prog 250 [.loc 0 0,.v (.int .i64 e),.v (.int .i64 a)] [aH c] [] (kV (.bo []) (c.cM e a)):=by
 have hC:c.cM e a=if c.f.1=0/\e≠0 then { c with f:=(e,a) } else c:=rfl
 generalize c.cM e a=C2 at hC ⊢;obtain ⟨l,p,d,f1,f2⟩:=c;simp only at hC;refine eG 26 [] func250 rfl ntmps250 rfl fun _ _ _ _=>?_;refine br ?_ ?_<;>intro g
 ·have g:f1=0/\e≠0:=by simpa [pickB_and] using g
  rw [zIfP g] at hC;rw [hC];exact ⟨.bo [],[aH _],av,av,rfl,rfl,rfl⟩
 ·have g:¬ (f1=0/\e≠0):=by simpa [pickB_and] using g
  rw [af g] at hC;rw [hC];exact ⟨.bo [],[aH _],av,av,rfl,rfl,rfl⟩
theorem jV (c:au) (h:aw c) (e:Int):Ev prog 168 [.loc 0 0,.v (.int .i64 e)] [aH c] [] (kV (.bo []) (c.fail e)):=by
 have hp:=dY c h;have hs:=xN c e c.aO.a;have hC:c.fail e=c.cM e c.aO.a:=rfl;rw [hC];generalize c.cM e c.aO.a=C2 at hs ⊢;generalize c.aO=t at hp hs;obtain ⟨tk,ta,te,ts,tn⟩:=t;obtain ⟨l,p,d,f1,f2⟩:=c;obtain ⟨l1,p1,d1,f11,f21⟩:=C2;simp only at hs;refine eG 10 [] func168 rfl ntmps168 rfl fun _ _ _ _=>?_;refine S9 1 jx hp ?_;refine S9 1 YT hs ?_;exact ⟨.bo [],[aH _],av,av,rfl,rfl,rfl⟩
theorem bR (c:au) (h:aw c) (s:ByteArray):Ev prog 159 [.loc 0 0,.v (.string s)] [aH c] [] (kV (.v (.bool (c.is 4 s))) (c.ah s)):=by
 have hm:=cr c h s;have hp:=dY c h;have h5:=jV c h 5;have h4:=jV c h 4;have hC:c.ah s=if c.is 4 s then c.step else c.fail (if c.aO.k=0 then 5 else 4):=rfl
 have hM:c.mh 4 s=if c.is 4 s then c.step else c:=rfl
 rw [hM] at hm;generalize c.ah s=C2 at hC ⊢;generalize c.is 4 s=B at hC hm ⊢;generalize c.step=C1 at hm hC;generalize c.aO=t at hp hC;obtain ⟨tk,ta,te,ts,tn⟩:=t;simp only at hC
 cases B with
 | true=>
  rw [zIfP rfl] at hC hm;rw [hC];obtain ⟨l,p,d,f1,f2⟩:=c;obtain ⟨l1,p1,d1,f11,f21⟩:=C1;refine eG 16 [.tmp 4] func159 rfl ntmps159 rfl fun _ _ _ _=>?_;refine S9 1 dw hm ?_;exact ⟨.v (.bool true),[aH _],av,av,rfl,rfl,rfl⟩
 | false=>
  rw [af (by simp)] at hC hm;rw [hC];have e5:tk=0->c.fail (if tk=0 then 5 else 4)=c.fail 5:=fun g=>by rw [zIfP g]
  have e4:¬ tk=0->c.fail (if tk=0 then 5 else 4)=c.fail 4:=fun g=>by rw [af g]
  generalize c.fail (if tk=0 then 5 else 4)=CX at e5 e4 ⊢;generalize c.fail 5=C5 at h5 e5;generalize c.fail 4=C4 at h4 e4;obtain ⟨l,p,d,f1,f2⟩:=c;obtain ⟨l5,p5,d5,f15,f25⟩:=C5;obtain ⟨l4,p4,d4,f14,f24⟩:=C4;refine eG 16 [.tmp 4] func159 rfl ntmps159 rfl fun _ _ _ _=>?_;refine S9 1 dw hm ?_;refine S9 1 jx hp ?_;refine br ?_ ?_<;>intro g
  ·have g:tk=0:=sU g;rw [e5 g];refine S9 1 zF h5 ?_;exact ⟨.v (.bool false),[aH _],av,av,rfl,rfl,rfl⟩
  ·have g:¬ tk=0:=sU g;rw [e4 g];refine S9 1 zF h4 ?_;exact ⟨.v (.bool false),[aH _],av,av,rfl,rfl,rfl⟩
theorem A0 (c:au) (h:aw c):Ev prog 248 [.loc 0 0] [aH c] [] (kV (.v (.bool c.enter)) c.sk):=by
 have hf:=jV c h 6;have hI:c.enter = !decide (c.d=24):=rfl;have hC:c.sk=if c.d=24 then c.fail 6 else { c with d:=c.d + 1 }:=rfl
 have hd:=h.dl;generalize c.sk=C2 at hC ⊢;generalize c.enter=B at hI ⊢;generalize c.fail 6=C6 at hf hC;obtain ⟨l,p,d,f1,f2⟩:=c;obtain ⟨l1,p1,d1,f11,f21⟩:=C6;simp only at hI hC hd;refine eG 21 [.tmp 2] func248 rfl ntmps248 rfl fun _ _ _ _=>?_;refine br ?_ ?_<;>intro g
 ·have g:(d:Int)=24:=of_decide_eq_true g;have g:d=24:=by omega
  rw [zIfP g] at hC;rw [hC,hI,decide_eq_true g];refine S9 1 zF hf ?_;exact ⟨.v (.bool false),[aH _],av,av,rfl,rfl,rfl⟩
 ·have g:¬ (d:Int)=24:=of_decide_eq_false g;have g:¬ d=24:=by omega
  rw [decide_eq_false g] at hI;rw [af g] at hC;rw [hC,hI]
  have hw:IntKind.i64.wrap ((d:Int) + 1)=((d + 1:Nat):Int):=by
   rw [wrap64 (by omega) (by omega)];omega
  have hX:=congrArg (fun z=>DV.v (Value.int .i64 z)) hw;exact ⟨.v (.bool true),[aH _],(by repeat' (first | exact rfl | exact trivial | exact Or.inr (Or.inl ⟨_,rfl⟩) | exact Or.inr ⟨_,rfl⟩ | exact Or.inl ⟨rfl,rfl⟩ | exact Or.inl rfl | refine Or.inr ⟨_,_,rfl,Nat.zero_le _,rfl,?_⟩ | refine ⟨_,_,rfl,?_,?_⟩ | refine ⟨_,rfl,?_⟩ | exact hX | exact ⟨nL rfl,rfl⟩ | refine Or.inr (Or.inr (Or.inr ⟨_,_,rfl,?_⟩)) | exact Or.inl rfl | refine Or.inr ?_)),(by repeat' (first | exact rfl | exact trivial | exact Or.inr (Or.inl ⟨_,rfl⟩) | exact Or.inr ⟨_,rfl⟩ | exact Or.inl ⟨rfl,rfl⟩ | exact Or.inl rfl | refine Or.inr ⟨_,_,rfl,Nat.zero_le _,rfl,?_⟩ | refine ⟨_,_,rfl,?_,?_⟩ | refine ⟨_,rfl,?_⟩ | exact hX | exact ⟨nL rfl,rfl⟩ | refine Or.inr (Or.inr (Or.inr ⟨_,_,rfl,?_⟩)) | exact Or.inl rfl | refine Or.inr ?_)),rfl,rfl,rfl⟩
theorem oK (c:au) (h:aw c):Ev prog 225 [.loc 0 0] [aH c] [] (kV (.bo []) c.leave):=by
 have hC:c.leave={ c with d:=c.d - 1 }:=rfl;have hd:=h.dl;generalize c.leave=C2 at hC ⊢;obtain ⟨l,p,d,f1,f2⟩:=c;simp only at hC hd;refine eG 13 [] func225 rfl ntmps225 rfl fun _ _ _ _=>?_;rw [hC]
 have hw:max (IntKind.i64.wrap ((d:Int) - 1)) 0=((d - 1:Nat):Int):=by
  rw [wrap64 (by omega) (by omega)];omega
 have hX:=congrArg (fun z=>DV.v (Value.int .i64 z)) hw;exact ⟨.bo [],[aH _],(by repeat' (first | exact rfl | exact trivial | exact Or.inr (Or.inl ⟨_,rfl⟩) | exact Or.inr ⟨_,rfl⟩ | exact Or.inl ⟨rfl,rfl⟩ | exact Or.inl rfl | refine Or.inr ⟨_,_,rfl,Nat.zero_le _,rfl,?_⟩ | refine ⟨_,_,rfl,?_,?_⟩ | refine ⟨_,rfl,?_⟩ | exact hX | exact ⟨nL rfl,rfl⟩ | refine Or.inr (Or.inr (Or.inr ⟨_,_,rfl,?_⟩)) | exact Or.inl rfl | refine Or.inr ?_)),(by repeat' (first | exact rfl | exact trivial | exact Or.inr (Or.inl ⟨_,rfl⟩) | exact Or.inr ⟨_,rfl⟩ | exact Or.inl ⟨rfl,rfl⟩ | exact Or.inl rfl | refine Or.inr ⟨_,_,rfl,Nat.zero_le _,rfl,?_⟩ | refine ⟨_,_,rfl,?_,?_⟩ | refine ⟨_,rfl,?_⟩ | exact hX | exact ⟨nL rfl,rfl⟩ | refine Or.inr (Or.inr (Or.inr ⟨_,_,rfl,?_⟩)) | exact Or.inl rfl | refine Or.inr ?_)),rfl,rfl,rfl⟩
abbrev iQ:DV:=.agg [.loc 0 0]
def au.kw (c:au) (s:ByteArray):au:=if c.is 1 s then c.step else c.wrong
def au.bf (c:au):Wd:=⟨(c.BR 1).s,(c.BR 1).a⟩
def au.al (c:au):au:=if c.tk 1 then c.step else c.wrong
theorem iM (c:au) (h:aw c):Ev prog 245 [iQ] [aH c] [] (kV (.bo []) c.wrong):=by
 have hp:=dY c h;have h5:=jV c h 5;have h4:=jV c h 4;have hC:c.wrong=c.fail (if c.aO.k=0 then 5 else 4):=rfl;rw [hC];generalize c.aO=t at hp ⊢;obtain ⟨tk,ta,te,ts,tn⟩:=t;simp only;have e5:tk=0->c.fail (if tk=0 then 5 else 4)=c.fail 5:=fun g=>by rw [zIfP g]
 have e4:¬ tk=0->c.fail (if tk=0 then 5 else 4)=c.fail 4:=fun g=>by rw [af g]
 generalize c.fail (if tk=0 then 5 else 4)=CX at e5 e4 ⊢;generalize c.fail 5=C5 at h5 e5;generalize c.fail 4=C4 at h4 e4;obtain ⟨l,p,d,f1,f2⟩:=c;obtain ⟨l5,p5,d5,f15,f25⟩:=C5;obtain ⟨l4,p4,d4,f14,f24⟩:=C4;refine eG 13 [] func245 rfl ntmps245 rfl fun _ _ _ _=>?_;refine S9 1 jx hp ?_;refine br ?_ ?_<;>intro g
 ·have g:tk=0:=sU g;rw [e5 g];refine S9 1 zF h5 ?_;exact ⟨.bo [],[aH _],av,av,rfl,rfl,rfl⟩
 ·have g:¬ tk=0:=sU g;rw [e4 g];refine S9 1 zF h4 ?_;exact ⟨.bo [],[aH _],av,av,rfl,rfl,rfl⟩
theorem lM (c:au):Ev prog 167 [iQ] [aH c] [] (kV (.v (.bool (decide (c.f.1=0)))) c):=by
 have hf:=oJ c;obtain ⟨l,p,d,f1,f2⟩:=c;refine eG 8 [.tmp 2] func167 rfl ntmps167 rfl fun _ _ _ _=>?_;refine S9 1 MR hf ?_;exact ⟨.v (.bool _),[aH _],av,av,rfl,rfl,rfl⟩
theorem jh (c:au) (h:aw c) (s:ByteArray):Ev prog 158 [iQ,.v (.string s)] [aH c] [] (kV (.bo []) (c.kw s)):=by
 have hm:=cI c h s;have hw:=iM c h;have hC:c.kw s=if c.is 1 s then c.step else c.wrong:=rfl
 have hM:c.mh 1 s=if c.is 1 s then c.step else c:=rfl
 rw [hM] at hm;generalize c.kw s=C2 at hC ⊢;generalize c.is 1 s=B at hC hm
 cases B with
 | true=>
  rw [zIfP rfl] at hC hm;rw [hC];generalize c.step=C1 at hm ⊢;obtain ⟨l,p,d,f1,f2⟩:=c;obtain ⟨l1,p1,d1,f11,f21⟩:=C1;refine eG 11 [] func158 rfl ntmps158 rfl fun _ _ _ _=>?_;refine S9 1 gL hm ?_;exact ⟨.bo [],[aH _],av,av,rfl,rfl,rfl⟩
 | false=>
  rw [af (by simp)] at hC hm;rw [hC];generalize c.wrong=C1 at hw ⊢;obtain ⟨l,p,d,f1,f2⟩:=c;obtain ⟨l1,p1,d1,f11,f21⟩:=C1;refine eG 11 [] func158 rfl ntmps158 rfl fun _ _ _ _=>?_;refine S9 1 gL hm ?_;refine S9 1 CN hw ?_;exact ⟨.bo [],[aH _],av,av,rfl,rfl,rfl⟩
theorem ef (c:au) (h:aw c):Ev prog 162 [iQ] [aH c] [] (kV (.agg (jK c.bf)) c.al):=by
 have hm:=qh c h 1;have hw:=iM c h;have hC:c.al=if c.tk 1 then c.step else c.wrong:=rfl
 have hW:c.bf=⟨(c.BR 1).s,(c.BR 1).a⟩:=rfl;have hM:c.VC 1=if c.tk 1 then c.step else c:=rfl
 rw [hM] at hm;generalize c.al=C2 at hC ⊢;generalize c.bf=W at hW ⊢;generalize c.BR 1=t at hm hW;obtain ⟨tk,ta,te,ts,tn⟩:=t;simp only at hW;rw [hW];generalize c.tk 1=B at hC hm
 cases B with
 | true=>
  rw [zIfP rfl] at hC hm;rw [hC];generalize c.step=C1 at hm ⊢;obtain ⟨l,p,d,f1,f2⟩:=c;obtain ⟨l1,p1,d1,f11,f21⟩:=C1;refine eG 20 [.cell 2 34] func162 rfl ntmps162 rfl fun _ _ _ _=>?_;refine S9 1 xu hm ?_;exact ⟨.agg (jK _),[aH _],av,av,rfl,rfl,rfl⟩
 | false=>
  rw [af (by simp)] at hC hm;rw [hC];generalize c.wrong=C1 at hw ⊢;obtain ⟨l,p,d,f1,f2⟩:=c;obtain ⟨l1,p1,d1,f11,f21⟩:=C1;refine eG 20 [.cell 2 34] func162 rfl ntmps162 rfl fun _ _ _ _=>?_;refine S9 1 xu hm ?_;refine S9 1 CN hw ?_;exact ⟨.agg (jK _),[aH _],av,av,rfl,rfl,rfl⟩
theorem aw.kw {c:au} (h:aw c) (s:ByteArray):aw (c.kw s):=by
 unfold au.kw;split
 ·exact h.step
 ·exact h.wrong
theorem aw.al {c:au} (h:aw c):aw c.al:=by
 unfold au.al;split
 ·exact h.step
 ·exact h.wrong
theorem A1 {c:au} (h:c.f.1≠0):c.aO=jb c.f.2:=by rw [au.aO,af h]
theorem fG {c:au} (h:c.f.1≠0) {k:Int} (hk:k≠0) (s:ByteArray):c.is k s=false:=by
 rw [au.is,A1 h];simp [jb,Ne.symm hk]
theorem qi {c:au} (h:c.f.1≠0) (k:Int):c.tk k=false:=by
 rw [au.tk,A1 h];simp [jb]
theorem A2 {c:au} (h:c.f.1≠0) (e a:Int):c.cM e a=c:=by rw [au.cM,af (fun g=>h g.1)]
theorem iN {c:au} (h:c.f.1≠0):c.wrong=c:=A2 h _ _
theorem cQ {c:au} (h:c.f.1≠0) (s:ByteArray):c.ah s=c:=by rw [au.ah,fG h (by decide),af (by simp),iN h]
theorem A3 {c:au} (h:c.f.1≠0) (s:ByteArray):c.kw s=c:=by rw [au.kw,fG h (by decide),af (by simp),iN h]
theorem fb {c:au} (h:c.f.1≠0):c.al=c:=by rw [au.al,qi h,af (by simp),iN h]
end Go.Proofs.YtfdedoiiahbnnaaGreat
set_option maxRecDepth 100000
namespace Go.Proofs.YtfdedoiiahbnnaaGreat
namespace Dv
open Go Go.RowKit
mutual
theorem NT {bx:List (List DV)} {N n m:Nat}:∀ {d:DV},clB n m d=true->Cc bx N n m d d
 | .v _,_=>by simp only [Cc]
 | .ud,_=>by simp only [Cc]
 | .agg l,h=>by simp only [Cc];exact ⟨l,rfl,aZ (by simpa [clB] using h)⟩
 | .bo l,h=>by simp only [Cc];exact ⟨l,rfl,aZ (by simpa [clB] using h)⟩
 | .sl e es none,_=>by simp only [Cc];exact .inr (.inl ⟨none,rfl⟩)
 | .sl e es (some k),h=>by simp only [Cc];exact ⟨by simpa [clB] using h,trivial⟩
 | .pt cs o,_=>by simp only [Cc];exact .inl trivial
 | .loc i o,h=>by simp only [Cc];exact ⟨by simpa [clB] using h,trivial⟩
 | .el i o,h=>by simp only [Cc];exact ⟨by simpa [clB] using h,trivial⟩
 | .ms i e o l c,h=>by simp only [Cc];exact ⟨by simpa [clB] using h,trivial⟩
 | .fn f a b,h=>by
  simp only [clB,bh] at h;simp only [Cc];exact ⟨a,b,rfl,aZ h.1,aZ h.2⟩
 | .rR t x,h=>by simp only [Cc];exact ⟨x,rfl,NT (by simpa [clB] using h)⟩
theorem aZ {bx:List (List DV)} {N n m:Nat}:∀ {l:List DV},clB.clL n m l=true->CcL bx N n m l l
 | [],_=>by simp only [CcL]
 | d :: r,h=>by
  simp only [clB.clL,bh] at h;simp only [CcL];exact ⟨d,r,rfl,NT h.1,aZ h.2⟩
end
mutual
theorem IF {n n' m:Nat} (hn:n<=n'):∀ {d:DV},clB n m d=true->clB n' m d=true
 | .v _,_=>rfl
 | .ud,_=>rfl
 | .agg l,h=>by simp only [clB] at h ⊢;exact lN hn h
 | .bo l,h=>by simp only [clB] at h ⊢;exact lN hn h
 | .sl e es none,_=>rfl
 | .sl e es (some k),h=>by simpa [clB] using h
 | .pt cs o,_=>rfl
 | .loc i o,h=>by simp [clB] at h ⊢;omega
 | .el i o,h=>by simp [clB] at h ⊢;omega
 | .ms i e o l c,h=>by simp [clB] at h ⊢;omega
 | .fn f a b,h=>by
  simp only [clB,bh] at h ⊢;exact ⟨lN hn h.1,lN hn h.2⟩
 | .rR t x,h=>by simp only [clB] at h ⊢;exact IF hn h
theorem lN {n n' m:Nat} (hn:n<=n'):∀ {l:List DV},clB.clL n m l=true->clB.clL n' m l=true
 | [],_=>rfl
 | d :: r,h=>by
  simp only [clB.clL,bh] at h ⊢;exact ⟨IF hn h.1,lN hn h.2⟩
end
theorem bY {n m:Nat} {tk:List TkE}:∀ {l:List DV},clB.clL n m l=true->WeL n m tk l l
 | [],_=>by simp only [WeL]
 | d :: r,h=>by
  simp only [clB.clL,bh] at h;simp only [WeL];exact ⟨d,r,rfl,.inl ⟨rfl,h.1⟩,bY h.2⟩
end Dv
open Go Go.RowKit Dv Go.Proofs.Tryz
def listF {α:Type} (f:au->α->au × α) (e:ByteArray):Nat->au->α->au × α
 | 0,c,a=>(c,a)
 | n + 1,c,a=>if c.f.1=0 then (if (f c a).1.is 4 e then ((f c a).1.step,(f c a).2) else listF f e n ((f c a).1.ah ⟨#[44]⟩) (f c a).2) else (c,a)
structure DS {α:Type} (A B C:α->List DV) (T:α->TkE) (f:au->α->au × α) (Inv:au->α->Prop) (g i j:Nat) (c:au) (a:α):Prop where
 ok:aw (f c a).1
 l:(f c a).1.l=c.l
 p:c.p<=(f c a).1.p
 inv:Inv (f c a).1 (f c a).2
 ev:Ev prog g [.loc i 0,.loc j 0] [aH c,A a,B a,C a] [T a] (fun r os tk=>r = .bo []/\os=[aH (f c a).1,A (f c a).2,B (f c a).2,C (f c a).2]/\tk=[T (f c a).2])
abbrev P6 (g i j:Nat) (e:ByteArray) (c:au) (X Y Z:List DV) (q:TkE):St:=⟨[(1,⟨[],.v (.string e)⟩),(3,⟨[],.fn g [] [.loc i 0,.loc j 0]⟩),aJ 4 4],[aH c,X,Y,Z,[.loc 0 0]],[q]⟩
theorem au.Ll (c:au) (s:ByteArray):(c.ah s).l=c.l:=by
 unfold au.ah au.step au.wrong au.fail au.cM
 repeat' split
 all_goals rfl
theorem au.Ue (c:au) (s:ByteArray) (h:(c.ah s).f.1=0):(c.ah s).p=c.p + 1:=by
 have hk:c.is 4 s=true->¬ c.aO.k=0:=fun h=>by
  simp only [au.is,bh,decide_eq_true_eq] at h;omega
 unfold au.ah at h ⊢;split
 ·rename_i hi;unfold au.step;rw [af (hk hi)]
 ·rename_i hi;rw [af hi] at h;unfold au.wrong au.fail au.cM at h;exfalso;by_cases h0:c.f.1=0
  ·by_cases h1:c.aO.k=0
   ·rw [zIfP ⟨h0,by rw [zIfP h1];decide⟩,zIfP h1] at h;exact absurd h (by simp)
   ·rw [zIfP ⟨h0,by rw [af h1];decide⟩,af h1] at h;exact absurd h (by simp)
  ·rw [af (fun g=>h0 g.1)] at h;exact h0 h
def aaa {α:Type} (none:Bool) (f:au->α->au × α) (e:ByteArray) (N:Nat) (c:au) (a:α):au × α:=if (none && c.is 4 e)=true then (c.step,a) else listF f e N c a
theorem aae {α:Type} {A B C:α->List DV} {T:α->TkE} {f:au->α->au × α} {Inv:au->α->Prop} {g i j:Nat} (none:Bool) (hi:i < 4) (hj:j < 4) (hA:∀ a,clB.clL 4 1 (A a)=true) (hB:∀ a,clB.clL 4 1 (B a)=true) (hC:∀ a,clB.clL 4 1 (C a)=true) (gY:Enters prog g)
  (jW:∀ c a,aw c->Inv c a->c.f.1=0->DS A B C T f Inv g i j c a) (Uf:∀ c a,aw c->Inv c a->Inv (c.ah ⟨#[44]⟩) a) (e:ByteArray) (N:Nat) (c:au) (a:α) (hc:aw c) (ha:Inv c a) (hN:c.l.length<=c.p + N) :
  Ev prog 160 [iQ,.v (.string e),.v (.bool none),.fn g [] [.loc i 0,.loc j 0]] [aH c,A a,B a,C a] [T a]
   (fun r os tk=>r = .bo []/\os=[aH (aaa none f e N c a).1,A (aaa none f e N c a).2,B (aaa none f e N c a).2,C (aaa none f e N c a).2]/\tk=[T (aaa none f e N c a).2]):=by
 have h5:∀ X:α->List DV,(∀ a,clB.clL 4 1 (X a)=true)->∀ a,clB.clL 5 1 (X a)=true:=fun X h a=>lN (by omega) (h a);have Xr:=h5 A hA;have Xs:=h5 B hB;have A4:=h5 C hC
 have s6:clB 5 1 (.fn g [] [.loc i 0,.loc j 0])=true:=by
  simp [clB,clB.clL];omega
 have oZ:=cr c hc e;have hLT:aaa none f e N c a=if (none && c.is 4 e)=true then (c.step,a) else listF f e N c a:=rfl
 unfold au.mh at oZ;generalize aaa none f e N c a=LT at hLT ⊢;refine eG 26 [] func160 rfl ntmps160 rfl fun _ _ _ _=>?_;by_cases hB0:(none && c.is 4 e)=true
 ·rw [zIfP hB0] at hLT;rw [bh] at hB0;obtain ⟨rfl,hB0⟩:=hB0;rw [hB0,zIfP rfl] at oZ;subst hLT;refine S9 1 dw oZ ?_;exact ⟨.bo [],[aH c.step,A a,B a,C a],(by repeat' (first | exact rfl | exact trivial | exact Or.inr (Or.inl ⟨_,rfl⟩) | exact Or.inr ⟨_,rfl⟩ | exact Or.inl ⟨rfl,rfl⟩ | exact Or.inl rfl | refine Or.inr ⟨_,_,rfl,Nat.zero_le _,rfl,?_⟩ | refine ⟨_,_,rfl,?_,?_⟩ | refine ⟨_,rfl,?_⟩ | exact ⟨nL rfl,rfl⟩ | exact aZ (hA _) | exact aZ (hB _) | exact aZ (hC _) | refine Or.inr (Or.inr (Or.inr ⟨_,_,rfl,?_⟩)) | exact Or.inl rfl | refine Or.inr ?_)),(by repeat' (first | exact rfl | exact trivial | exact Or.inr (Or.inl ⟨_,rfl⟩) | exact Or.inr ⟨_,rfl⟩ | exact Or.inl ⟨rfl,rfl⟩ | exact Or.inl rfl | refine Or.inr ⟨_,_,rfl,Nat.zero_le _,rfl,?_⟩ | refine ⟨_,_,rfl,?_,?_⟩ | refine ⟨_,rfl,?_⟩ | exact ⟨nL rfl,rfl⟩ | exact aZ (hA _) | exact aZ (hB _) | exact aZ (hC _) | refine Or.inr (Or.inr (Or.inr ⟨_,_,rfl,?_⟩)) | exact Or.inl rfl | refine Or.inr ?_)),rfl,rfl,rfl⟩
 rw [af hB0] at hLT;subst hLT;cases none
 rotate_left
 rw [show c.is 4 e=false by simpa using hB0,af (by simp)] at oZ;refine S9 1 dw oZ ?_
 all_goals
  refine aY (fun n st=>∃ c' a',st=P6 g i j e c' (A a') (B a') (C a') (T a')/\aw c' /\ Inv c' a' /\ (c'.f.1=0->c'.l.length<=c'.p + n)/\listF f e N c a=listF f e n c' a') N (P6 g i j e c (A a) (B a) (C a) (T a)) (ej 5 (by repeat' (first | exact rfl | exact aA rfl | exact Or.inl ⟨rfl,s6⟩ | exact bY (Xr _) | exact bY (Xs _) | exact bY (A4 _) | refine ⟨_,_,rfl,?_,?_⟩)) (by repeat' (first | exact trivial | exact aA rfl | exact Or.inl ⟨rfl,s6⟩ | exact bY (Xr _) | exact bY (Xs _) | exact bY (A4 _) | refine ⟨⟨_,rfl,?_⟩,?_⟩))) ⟨c,a,rfl,hc,ha,fun _=>hN,rfl⟩ ?_;rintro n st ⟨c',a',rfl,Cx,ha',hn,aQ⟩;have hf:=lM c';refine S9 1 Ho hf ?_;refine br ?_ ?_<;>intro q
  ·have q:c'.f.1=0:=sU q;have h1:=jW c' a' Cx ha' q;have hn:=hn q;have az:=Cx.lt
   match n,hn with
   | 0,hn=>omega
   | n + 1,hn=>
    rw [listF,zIfP q] at aQ;generalize hF:f c' a'=F at aQ;obtain ⟨c1,a1⟩:=F;have QR:=h1.ev;have fh:=h1.ok;have jr:=h1.l;have Kg:=h1.p;have hi1:=h1.inv;rw [hF] at QR fh jr Kg hi1;simp only at QR fh jr Kg hi1 aQ;refine ai 4 1 gY rfl rfl rfl (by repeat' (first | exact rfl | exact trivial | exact Or.inr (Or.inl ⟨_,rfl⟩) | exact Or.inr ⟨_,rfl⟩ | exact Or.inl ⟨rfl,rfl⟩ | exact Or.inl rfl | refine Or.inr ⟨_,_,rfl,Nat.zero_le _,rfl,?_⟩ | refine ⟨_,_,rfl,?_,?_⟩ | refine ⟨_,rfl,?_⟩ | exact ⟨nL rfl,rfl⟩ | exact aZ (hA _) | exact aZ (hB _) | exact aZ (hC _) | refine Or.inr (Or.inr (Or.inr ⟨_,_,rfl,?_⟩)) | exact Or.inl rfl | refine Or.inr ?_)) (by repeat' (first | exact rfl | exact trivial | exact Or.inr (Or.inl ⟨_,rfl⟩) | exact Or.inr ⟨_,rfl⟩ | exact Or.inl ⟨rfl,rfl⟩ | exact Or.inl rfl | refine Or.inr ⟨_,_,rfl,Nat.zero_le _,rfl,?_⟩ | refine ⟨_,_,rfl,?_,?_⟩ | refine ⟨_,rfl,?_⟩ | exact ⟨hi,rfl⟩ | exact ⟨hj,rfl⟩ | refine Or.inr (Or.inr (Or.inr ⟨_,_,rfl,?_⟩)) | exact Or.inl rfl | refine Or.inr ?_)) QR (fun r Zj Zi hΦ _ _=>?_);obtain ⟨rfl,rfl,rfl⟩:=hΦ;have hm:=cr c1 fh e;refine S9 1 dw hm ?_;unfold au.mh
    cases hb:c1.is 4 e with
    | true=>
     rw [hb,zIfP rfl] at aQ;rw [aQ,zIfP rfl];exact ⟨.bo [],[aH c1.step,A a1,B a1,C a1],(by repeat' (first | exact rfl | exact trivial | exact Or.inr (Or.inl ⟨_,rfl⟩) | exact Or.inr ⟨_,rfl⟩ | exact Or.inl ⟨rfl,rfl⟩ | exact Or.inl rfl | refine Or.inr ⟨_,_,rfl,Nat.zero_le _,rfl,?_⟩ | refine ⟨_,_,rfl,?_,?_⟩ | refine ⟨_,rfl,?_⟩ | exact ⟨nL rfl,rfl⟩ | exact aZ (hA _) | exact aZ (hB _) | exact aZ (hC _) | refine Or.inr (Or.inr (Or.inr ⟨_,_,rfl,?_⟩)) | exact Or.inl rfl | refine Or.inr ?_)),(by repeat' (first | exact rfl | exact trivial | exact Or.inr (Or.inl ⟨_,rfl⟩) | exact Or.inr ⟨_,rfl⟩ | exact Or.inl ⟨rfl,rfl⟩ | exact Or.inl rfl | refine Or.inr ⟨_,_,rfl,Nat.zero_le _,rfl,?_⟩ | refine ⟨_,_,rfl,?_,?_⟩ | refine ⟨_,rfl,?_⟩ | exact ⟨nL rfl,rfl⟩ | exact aZ (hA _) | exact aZ (hB _) | exact aZ (hC _) | refine Or.inr (Or.inr (Or.inr ⟨_,_,rfl,?_⟩)) | exact Or.inl rfl | refine Or.inr ?_)),rfl,rfl,rfl⟩
    | false=>
     rw [hb,af (by simp)] at aQ;rw [af (by simp)];have hnd:=bR c1 fh ⟨#[44]⟩;refine S9 1 gj hnd ?_
     exact ⟨P6 g i j e (c1.ah ⟨#[44]⟩) (A a1) (B a1) (C a1) (T a1),(ej 5 (by repeat' (first | exact rfl | exact aA rfl | exact Or.inl ⟨rfl,s6⟩ | exact bY (Xr _) | exact bY (Xs _) | exact bY (A4 _) | refine ⟨_,_,rfl,?_,?_⟩)) (by repeat' (first | exact trivial | exact aA rfl | exact Or.inl ⟨rfl,s6⟩ | exact bY (Xr _) | exact bY (Xs _) | exact bY (A4 _) | refine ⟨⟨_,rfl,?_⟩,?_⟩))),n,by omega,_,a1,rfl,fh.ah _,Uf c1 a1 fh hi1,fun g0=>by
      rw [au.Ll,au.Ue _ _ g0,jr]
      omega,aQ⟩
  ·have q:¬ c'.f.1=0:=sU q
   have hst:listF f e n c' a'=(c',a'):=by
    cases n with
    | zero=>rfl
    | succ n=>rw [listF,af q]
   rw [aQ,hst];exact ⟨.bo [],[aH c',A a',B a',C a'],(by repeat' (first | exact rfl | exact trivial | exact Or.inr (Or.inl ⟨_,rfl⟩) | exact Or.inr ⟨_,rfl⟩ | exact Or.inl ⟨rfl,rfl⟩ | exact Or.inl rfl | refine Or.inr ⟨_,_,rfl,Nat.zero_le _,rfl,?_⟩ | refine ⟨_,_,rfl,?_,?_⟩ | refine ⟨_,rfl,?_⟩ | exact ⟨nL rfl,rfl⟩ | exact aZ (hA _) | exact aZ (hB _) | exact aZ (hC _) | refine Or.inr (Or.inr (Or.inr ⟨_,_,rfl,?_⟩)) | exact Or.inl rfl | refine Or.inr ?_)),(by repeat' (first | exact rfl | exact trivial | exact Or.inr (Or.inl ⟨_,rfl⟩) | exact Or.inr ⟨_,rfl⟩ | exact Or.inl ⟨rfl,rfl⟩ | exact Or.inl rfl | refine Or.inr ⟨_,_,rfl,Nat.zero_le _,rfl,?_⟩ | refine ⟨_,_,rfl,?_,?_⟩ | refine ⟨_,rfl,?_⟩ | exact ⟨nL rfl,rfl⟩ | exact aZ (hA _) | exact aZ (hB _) | exact aZ (hC _) | refine Or.inr (Or.inr (Or.inr ⟨_,_,rfl,?_⟩)) | exact Or.inl rfl | refine Or.inr ?_)),rfl,rfl,rfl⟩
theorem sH {α:Type} {A B C:α->List DV} {T:α->TkE} {f:au->α->au × α} {Inv:au->α->Prop} {g i j:Nat} (hi:i < 4) (hj:j < 4) (hA:∀ a,clB.clL 4 1 (A a)=true) (hB:∀ a,clB.clL 4 1 (B a)=true) (hC:∀ a,clB.clL 4 1 (C a)=true) (gY:Enters prog g)
  (jW:∀ c a,aw c->Inv c a->c.f.1=0->DS A B C T f Inv g i j c a) (Uf:∀ c a,aw c->Inv c a->Inv (c.ah ⟨#[44]⟩) a) (e:ByteArray) (N:Nat) (c:au) (a:α) (hc:aw c) (ha:Inv c a) (hN:c.l.length<=c.p + N) :
  Ev prog 160 [iQ,.v (.string e),.v (.bool false),.fn g [] [.loc i 0,.loc j 0]] [aH c,A a,B a,C a] [T a]
   (fun r os tk=>r = .bo []/\os=[aH (listF f e N c a).1,A (listF f e N c a).2,B (listF f e N c a).2,C (listF f e N c a).2]/\tk=[T (listF f e N c a).2]):=
 aae (A:=A) (B:=B) (C:=C) (T:=T) (f:=f) (Inv:=Inv) false hi hj hA hB hC gY jW Uf e N c a hc ha hN
end Go.Proofs.YtfdedoiiahbnnaaGreat
namespace Go.Proofs.YtfdedoiiahbnnaaGreat
namespace Dv
open Go Go.RowKit
section
variable {X:Ctx} {st:St} {s0:List (Nat × Sl)} {c:Bool} {i:Nat} {r:List (Nat × Oper)}
def ag5 (D:Dr) (n:Nat):Bool:=(D.mc.bx.take n).all List.isEmpty
theorem Ug {D:Dr} {n i:Nat} {cs:List DV} (h:ag5 D n=true) (hi:i < n) (hc:D.mc.bx[i]? = some cs):cs=[]:=by
 have h1:=List.all_eq_true.1 h cs (mG (i:=i) (by rw [cJ,zIfP hi];exact hc));simpa using h1
theorem fN {D:Dr} {f:FuncId} {args bO:List DV} {os:List (List DV)} {d:Nat} (n1:Nat) (hmk:ag5 D n1=true) (gY:Enters X.P f) (hd:(fU X.nt st.sl (some d) && fU X.nt s0 (some d))=true) (BM:Nat.ble n1 st.bx.length=true)
  (rT:mU [] n1 n1 0 os (st.bx.take n1)) (ha:CcL [] n1 n1 0 bO args) {Φ:DV->List (List DV)->List TkE->Prop} (hc:Ev X.P f bO os [] Φ)
  (hk:∀ Ke Zj,Φ Ke Zj []->Zj.length=n1->put2 s0 ⟨st.sl,Zj ++ st.bx.drop n1,st.tk⟩ (some d) false [] Ke (goD X D 3000 c r)) (hst:X.still=false:=by exact rfl) (hX:X.bt=[]:=by exact rfl):CI X D c i r f args (some d) s0 st:=by
 refine ⟨gY,fun hl E0 wr hD E a w vs h hv=>(uf n1 0 BM rfl rT ha hc hst hX h.rel hv).mono ?_⟩;rintro e w' ⟨v,r',Zj,Zi,E',rfl,hΦ,h1,h2,cg,hr,hx,hβ,ho⟩;obtain rfl:Zi=[]:=List.eq_nil_of_length_eq_zero h2
 have hC:CC E0 D.mc.bx wr w->CC E0 D.mc.bx wr w':=fun hC=>⟨fun j b cs hb cx bF=>by
  have hge:n1<=j:=by
   rcases Nat.lt_or_ge j n1 with h3 | h3
   ·exact (bF (Ug hmk h3 cx)).elim
   ·exact h3
  rw [ho j b hge (h.x.β j b hb)]
  exact hC.o j b cs hb cx bF,fun x v Cw=>cg.env.sub x v (hx.c x v (h.x.c x v Cw))⟩
 refine ⟨v,rfl,fun _=>hC,?_⟩
 have Hg:iq X ⟨D,E0,wr⟩ c E' s0 ⟨st.sl,Zj ++ st.bx.drop n1,st.tk⟩ (a.put none v) w':={
  rel:=cg
  x:=by
   refine ⟨fun y v hy=>hx.c y v (h.x.c y v hy),fun j b hb=>hx.β j b (h.x.β j b hb),fun k q hq=>?_⟩;obtain ⟨q1,h1,h2⟩:=h.x.tk k q hq;obtain ⟨q2,h3,h4⟩:=hx.tk k q1 h1
   grind
  β:=by
   obtain ⟨r1,h1⟩:=h.β;exact ⟨r1,by rw [hβ];exact h1⟩
  t0:=fun j x hj=>by
   have h1:=h.t0 j x hj;refine ⟨fun hh=>?_,h1.2⟩;obtain ⟨v,h2,h3⟩:=h1.1 hh;exact ⟨v,h2,Rv.mono (EY hx) h3⟩
  cc:=fun hc=>hC (h.cc hc) }
 obtain ⟨s1,u9,lX,fm⟩:=j3 Hg hd false [] r' v (fun _ _ p hp=>by cases hp) (fun _=>hr) (fun hb=>by cases hb) (fun hn=>(hn (bi _)).elim) (hk r' Zj hΦ h1);exact iJ (D:=⟨D,E0,wr⟩) hD 3000 c r _ _ lX hl E' _ w' fm
end
theorem uB {X:Ctx} {f:FuncId} {args:List DV} {dst:Option Nat} {k:List It} {st:St} (q:TkE) (st':St) (hq:q.new=true) (ha:WeL st.bx.length st.tk.length (st.tk ++ [q]) args args) (h3:st'.tk=st.tk ++ [q]) (h2:WeLL st.bx.length st.tk.length (st.tk ++ [q]) st.bx st'.bx)
  (h:nf st.bx.length st.tk.length (st.tk ++ [q]) st.sl st'.sl) (hn:Nat.ble X.n0 st.bx.length=true) (hm:Nat.ble X.m0 st.tk.length=true) (hk:CallG X f args dst k st'):CallG X f args dst k st:=by
 obtain ⟨k1,k2,k3⟩:=hk;refine ⟨k1,k2,fun E a w vs hR hv=>?_⟩;have hr:=vA (st':=st') hR (kept:=st.tk) (dropped:=[]) (new:=[q]) (b0:=st.bx) (r:=[]) ⟨nL hm,nL hn,by simp,h3,by simpa using hq,by simp,by rw [h3];exact h2,by rw [h3];exact h⟩;exact k3 _ a w vs hr (vz (dropped:=[]) (by rw [hR.tk];simp) hR.env.tl (sU hq) ha hv)
end Dv
end Go.Proofs.YtfdedoiiahbnnaaGreat
set_option maxRecDepth 100000
namespace Go.Proofs.YtfdedoiiahbnnaaGreat
open Go Go.RowKit Dv Go.Proofs.Tryz
abbrev P7 (a:List Wd):List DV:=[.sl 2 (bA a) (some 0),.v (.slice none 0 0),.v (.slice none 0 0),.v (.int .i64 0),.v (.int .i64 0),.v (.int .i64 0),.v (.int .i64 0),.v (.int .i64 0),.v (.slice none 0 0),.v (.slice none 0 0),.v (.string ⟨#[]⟩),.v (.int .i64 0)]
abbrev DT:List DV:=[.v (.slice none 0 0),.v (.slice none 0 0),.v (.slice none 0 0),.v (.int .i64 0),.v (.int .i64 0),.v (.int .i64 0),.v (.int .i64 0),.v (.int .i64 0),.v (.slice none 0 0),.v (.slice none 0 0),.v (.string ⟨#[]⟩),.v (.int .i64 0)]
abbrev mL:List DV:=[.loc 0 0]
abbrev DU (a:List Wd):TkE:=⟨a.length,34,2,none⟩
theorem IG (a:List Wd) (w:Wd):DU (a ++ [w])=⟨a.length + 1,34,2,none⟩:=by simp [DU]
theorem Uh (a:List Wd) (w:Wd):P7 (a ++ [w]) = .sl 2 (bA a ++ [jK w]) (some 0) :: (P7 a).tail:=by simp [P7,bA]
theorem IH (c:au) (h:aw c) (a:List Wd) (ha:a.length<=1099511627776):Ev prog 161 [.loc 3 0,.loc 1 0] [aH c,mL,DT,P7 a] [DU a]
  (fun r os tk=>r = .bo []/\os=[aH c.al,mL,DT,P7 (a ++ [c.bf])]/\tk=[DU (a ++ [c.bf])]):=by
 have hn:=ef c h;have hl:(bA a).length=a.length:=aD a;generalize c.bf=W at hn ⊢;generalize c.al=C1 at hn ⊢;obtain ⟨l,p,d,f1,f2⟩:=c;obtain ⟨l1,p1,d1,f11,f21⟩:=C1;obtain ⟨ws,wa⟩:=W;refine eG 9 [] func161 rfl ntmps161 rfl fun _ _ _ _=>?_;refine aE [0] (fun i=>Nat.beq i 7) mo (by decide +kernel) ?_;refine fN 1 rfl pe rfl rfl av av hn (fun r Zj hΦ _=>?_);obtain ⟨rfl,rfl,_⟩:=hΦ;refine ⟨hl,⟨by simp [maxLen,hl];omega,by simp [hl];omega⟩,?_⟩;rw [IG,Uh];exact ⟨.bo [],[aH ⟨l1,p1,d1,f11,f21⟩,mL,DT,.sl 2 (bA a ++ [jK ⟨ws,wa⟩]) (some 0) :: (P7 a).tail],av,av,rfl,rfl,rfl⟩
abbrev Xt (k a:Int):List DV:=[.v (.int .i64 k),.v (.int .i64 a),.v (.int .i64 0),.v (.int .i64 0),.v (.int .i64 0),.v (.slice none 0 0),.v (.slice none 0 0),.v (.string ⟨#[]⟩),.v (.int .i64 0)]
abbrev xO:ByteArray:=⟨#[98,111,111,108]⟩
theorem P8 (c:au) (k a:Int):Ev prog 249 [iQ,.loc 1 0,.v (.string xO)] [aH c,Xt k a] [] (fun r os tk=>r = .v (.bool true)/\os=[aH c,Xt 1 a]/\tk=[]):=by
 obtain ⟨l,p,d,f1,f2⟩:=c;refine eG 142 [.tmp 6] func249 rfl ntmps249 rfl fun _ _ _ _=>?_;exact ⟨.v (.bool true),[aH _,Xt 1 a],av,av,rfl,rfl,rfl⟩
theorem qY {c:au} (h:aw c) (hd:c.d < 24):aw { c with d:=c.d + 1 }:=⟨h.lt,h.nx,h.len,hd⟩
theorem A5 {c:au} (h:aw c) (hd:c.d < 24):Ev prog 248 [.loc 0 0] [aH c] [] (kV (.v (.bool true)) { c with d:=c.d + 1 }):=by
 have he:=A0 c h;have e1:c.enter=true:=by simp [au.enter];omega
 have e2:c.sk={ c with d:=c.d + 1 }:=by rw [au.sk,af (by omega)]
 rw [e1,e2] at he;exact he
theorem II {c:au} (h:aw c) (hd:c.d < 24):Ev prog 225 [.loc 0 0] [aH { c with d:=c.d + 1 }] [] (kV (.bo []) c):=oK _ (qY h hd)
theorem Ui {c:au} (h:aw c) (hf:c.f.1≠0) (k:Int):Ev prog 246 [.loc 0 0,.v (.int .i64 k)] [aH c] [] (kV (.bo [.agg (tT ⟨0,0,0,aM,0⟩),.v (.bool false)]) c):=by
 have ht:=qh c h k;have e1:c.BR k=⟨0,0,0,aM,0⟩:=by rw [au.BR,qi hf,af (by simp)]
 have e2:c.VC k=c:=by rw [au.VC,qi hf,af (by simp)]
 rw [e1,e2,qi hf] at ht;exact ht
theorem P9 {c:au} (h:aw c) (hf:c.f.1≠0):Ev prog 245 [iQ] [aH c] [] (kV (.bo []) c):=by
 have hw:=iM c h;rw [iN hf] at hw;exact hw
theorem Uj (c:au) (h:aw c) (hf:c.f.1≠0) (hd:c.d < 24):Ev prog 166 [iQ] [aH c] [] (kV (.agg (Xt 0 c.f.2)) c):=by
 have hp:=dY c h;rw [A1 hf] at hp;have he:=A5 h hd;have ht:=Ui (qY h hd) hf 1;have hw:=P9 (qY h hd) hf;have JQ:=II h hd;obtain ⟨l,p,d,f1,f2⟩:=c;refine eG 42 [.cell 2 36] func166 rfl ntmps166 rfl fun _ _ _ _=>?_;refine S9 1 jx hp ?_;refine S9 1 Hs he ?_;refine S9 1 xu ht ?_;refine S9 1 CN hw ?_;refine S9 1 Hr JQ ?_;exact ⟨.agg (Xt 0 f2),[aH _],av,av,rfl,rfl,rfl⟩
theorem Xu {c:au} (h:aw c) {t:gZ} (hp:c.aO=t) (hk:t.k≠0):Ev prog 246 [.loc 0 0,.v (.int .i64 t.k)] [aH c] [] (kV (.bo [.agg (tT t),.v (.bool true)]) { c with p:=c.p + 1 }):=by
 have ht:=qh c h t.k;have e0:c.tk t.k=true:=by rw [au.tk,hp];simp [hk]
 have e1:c.BR t.k=t:=by rw [au.BR,e0,zIfP rfl,hp]
 have e2:c.VC t.k={ c with p:=c.p + 1 }:=by rw [au.VC,e0,zIfP rfl,au.step,hp,af hk]
 rw [e0,e1,e2] at ht;exact ht
theorem Qa (c:au) (h:aw c) (a e n:Int) (hp:c.aO=⟨1,a,e,xO,n⟩) (hd:c.d < 24):Ev prog 166 [iQ] [aH c] [] (kV (.agg (Xt 1 a)) { c with p:=c.p + 1 }):=by
 have JP:=dY c h;rw [hp] at JP;have he:=A5 h hd;have ht:=Xu (qY h hd) (show au.aO { c with d:=c.d + 1 }=⟨1,a,e,xO,n⟩ from hp) (by simp);have hb:=P8 { c with d:=c.d + 1,p:=c.p + 1 } 0 a;have hs:aw c.step:=h.step;have e2:c.step={ c with p:=c.p + 1 }:=by rw [au.step,hp,af (by simp)]
 rw [e2] at hs;have JQ:=II hs hd;obtain ⟨l,p,d,f1,f2⟩:=c;refine eG 42 [.cell 2 36] func166 rfl ntmps166 rfl fun _ _ _ _=>?_;refine S9 1 jx JP ?_;refine S9 1 Hs he ?_;refine S9 1 xu ht ?_;refine CallG.KX 1 3 rfl rfl rfl rfl ?_;refine S9 2 YS hb ?_;refine S9 1 Hr JQ ?_;exact ⟨.agg (Xt 1 a),[aH _],av,av,rfl,rfl,rfl⟩
abbrev bL:ByteArray:=⟨#[108,101,118,101,108,115]⟩
abbrev mM:ByteArray:=⟨#[111,114,100,101,114]⟩
abbrev fu:ByteArray:=⟨#[116,121,112,101]⟩
abbrev cm:ByteArray:=⟨#[114,111,111,116]⟩
abbrev bE:ByteArray:=⟨#[123]⟩
abbrev aS:ByteArray:=⟨#[125]⟩
def ia (c:au) (a:List Wd):au × List Wd:=(c.al,a ++ [c.bf])
def A6 (c:au) (a:List Wd):Prop:=a.length<=c.p∨(c.f.1≠0/\a.length<=c.p + 1)
theorem DW {c:au} {k:Int} (h:c.tk k=true):¬ c.aO.k=0:=by
 simp only [au.tk,bh,Bool.not_eq_true',decide_eq_false_iff_not] at h;exact h.1
theorem ij {c:au}:c.wrong.f.1≠0:=by
 unfold au.wrong au.fail au.cM;by_cases h0:c.f.1=0
 ·by_cases h1:c.aO.k=0
  ·rw [zIfP ⟨h0,by rw [zIfP h1];decide⟩,zIfP h1];simp
  ·rw [zIfP ⟨h0,by rw [af h1];decide⟩,af h1];simp
 ·rw [af (fun g=>h0 g.1)];exact h0
theorem uC (c:au):c.wrong.l=c.l/\c.wrong.p=c.p/\c.wrong.d=c.d:=by
 unfold au.wrong au.fail au.cM
 repeat' split
 all_goals exact ⟨rfl,rfl,rfl⟩
theorem qZ (c:au) (s:ByteArray):c.p<=(c.ah s).p:=by
 unfold au.ah au.step;split
 ·split
  ·exact zLeR _
  ·exact Nat.le_succ _
 ·rw [(uC c).2.1];exact zLeR _
theorem NU (c:au) (a:List Wd) (h:aw c) (hi:A6 c a) (hf:c.f.1=0):DS (fun _=>mL) (fun _=>DT) P7 DU ia A6 161 3 1 c a where
 ok:=h.al
 l:=by
  show c.al.l=c.l;unfold au.al au.step;split
  ·split<;>rfl
  ·exact (uC c).1
 p:=by
  show c.p<=c.al.p;unfold au.al au.step;split
  ·split
   ·exact zLeR _
   ·exact Nat.le_succ _
  ·rw [(uC c).2.1];exact zLeR _
 inv:=by
  have ha:a.length<=c.p:=by
   rcases hi with h1 | h1
   ·exact h1
   ·exact absurd hf h1.1
  show A6 c.al (a ++ [c.bf]);unfold A6 au.al;rw [List.length_append]
  cases ht:c.tk 1 with
  | true=>
   rw [zIfP rfl,au.step,af (DW ht)];exact .inl (Nat.succ_le_succ ha)
  | false=>
   rw [af (by simp)];exact .inr ⟨ij,by rw [(uC c).2.1];exact Nat.succ_le_succ ha⟩
 ev:=IH c h a (by
  have h1:=h.lt;have h2:=h.len
  rcases hi with h3 | h3<;>omega)
theorem IJ (c:au) (a:List Wd) (_:aw c) (hi:A6 c a):A6 (c.ah ⟨#[44]⟩) a:=by
 rcases hi with h1 | ⟨h1,h2⟩
 ·exact .inl (Nat.le_trans h1 (qZ c _))
 ·rw [cQ h1];exact .inr ⟨h1,h2⟩
theorem xP (N:Nat) (c:au) (h:aw c) (hN:c.l.length<=c.p + N) (hf:A6 c []):Ev prog 160 [iQ,.v (.string aS),.v (.bool false),.fn 161 [] [.loc 3 0,.loc 1 0]] [aH c,mL,DT,P7 []] [DU []]
  (fun r os tk=>r = .bo []/\os=[aH (listF ia aS N c []).1,mL,DT,P7 (listF ia aS N c []).2]/\tk=[DU (listF ia aS N c []).2]):=
 sH (A:=fun _=>mL) (B:=fun _=>DT) (C:=P7) (T:=DU) (f:=ia) (Inv:=A6) (by decide) (by decide) (fun _=>rfl) (fun _=>rfl) (fun _=>rfl) aey NU IJ aS N c [] h hf hN
abbrev NV (k a:Int):Ty:=.mk ⟨k,a,0,0,0,[],⟨aM,0⟩⟩ .nil
abbrev abW (c:au) (a:List Wd):St:=⟨[aJ 1 1,aJ 2 2,aJ 3 3],[aH c,mL,DT,P7 a],[DU a]⟩
theorem A7 (c0:au) (h0:aw c0) (N:Nat) (hN:(c0.kw bL).l.length<=(c0.kw bL).p + N) (c3:au) (a:List Wd) (h3:aw c3) (hl:listF ia aS N ((c0.kw bL).ah bE) []=(c3,a)) (ho:c3.is 1 mM=false) (ht:c3.is 1 fu=false) (k cT:Int) (c5:au)
  (hk:Ev prog 166 [iQ] [aH (c3.kw cm)] [] (kV (.agg (Xt k cT)) c5)):Ev prog 86 [iQ] [aH c0] [] (kV (.agg (dt ⟨a,[],[],NV k cT⟩)) c5):=by
 have Ta:=jh c0 h0 bL;have h1:=h0.kw bL;have hnd:=bR _ h1 bE
 have Xp:=xP N _ (h1.ah bE) (by
  rw [au.Ll];have:=qZ (c0.kw bL) bE
  omega) (.inl (Nat.zero_le _))
 rw [hl] at Xp;have s7:=cI c3 h3 mM;have rk:=cI c3 h3 fu;rw [ho,au.mh,ho,af (by simp)] at s7;rw [ht,au.mh,ht,af (by simp)] at rk;have ZC:=jh c3 h3 cm;simp only at Xp;generalize c3.kw cm=c4 at ZC hk;generalize (c0.kw bL).ah bE=c2 at hnd Xp;generalize (c0.kw bL).is 4 bE=B1 at hnd;generalize c0.kw bL=c1 at Ta hnd;refine eG 46 [.cell 2 38] func86 rfl ntmps86 rfl fun _ _ _ _=>?_;refine S9 1 Hm Ta ?_;refine S9 1 gj hnd ?_;refine uB ⟨0,34,2,none⟩ (abW c2 []) rfl ?_ rfl ?_ ?_ rfl rfl ?_
 ·repeat' (first | exact rfl | exact aA rfl | refine ⟨_,_,rfl,?_,?_⟩)
 ·repeat' (first | exact rfl | exact aA rfl | exact cz (zLeR _) rfl | refine ⟨_,_,rfl,?_,?_⟩)
 ·repeat' (first | exact trivial | exact aA rfl | refine ⟨⟨_,rfl,?_⟩,?_⟩)
 refine ai 4 1 Hn rfl rfl rfl av av Xp (fun r Zj Zi hΦ _ _=>?_);obtain ⟨rfl,rfl,rfl⟩:=hΦ;refine S9 1 gL s7 ?_;refine lI (fun j st=>st=abW c3 a/\j=0) ⟨rfl,rfl⟩ (ej 4 tJ lW) ?_;rintro j st ⟨rfl,rfl⟩;refine S9 1 gL rk ?_;refine S9 1 Hm ZC ?_;refine S9 1 tO hk ?_;exact ⟨.agg (dt _),[aH c5],av,av,rfl,rfl,rfl⟩
end Go.Proofs.YtfdedoiiahbnnaaGreat
set_option maxRecDepth 100000
namespace Go.Proofs.YtfdedoiiahbnnaaGreat
open Go Go.RowKit Dv Go.Proofs.Tryz
abbrev vd:ByteArray:=⟨#[64]⟩
abbrev pf:ByteArray:=⟨#[35]⟩
abbrev eA:ByteArray:=⟨#[126]⟩
abbrev aU:ByteArray:=⟨#[40]⟩
abbrev bH:ByteArray:=⟨#[41]⟩
abbrev bG:ByteArray:=⟨#[44]⟩
abbrev b5:ByteArray:=⟨#[58]⟩
abbrev rK:ByteArray:=⟨#[43]⟩
abbrev eu:ByteArray:=⟨#[60]⟩
abbrev j1:ByteArray:=⟨#[61]⟩
abbrev lO:ByteArray:=⟨#[46,46]⟩
abbrev mN:ByteArray:=⟨#[102,108,111,111,114]⟩
abbrev oL:ByteArray:=⟨#[102,105,114,115,116]⟩
abbrev qj:ByteArray:=⟨#[99,111,117,110,116]⟩
abbrev Xv:ByteArray:=⟨#[105,110,116]⟩
abbrev NW:ByteArray:=⟨#[116,101,120,116]⟩
abbrev NX:ByteArray:=⟨#[101,110,117,109]⟩
abbrev NY:ByteArray:=⟨#[108,105,115,116]⟩
abbrev Xw:ByteArray:=⟨#[111,112,116]⟩
abbrev Uk:ByteArray:=⟨#[114,101,99,111,114,100]⟩
abbrev A8:ByteArray:=⟨#[117,110,105,111,110]⟩
abbrev Xx:ByteArray:=⟨#[114,101,102]⟩
abbrev RS:=List gZ × Ft
namespace RS
def hd (q:RS):gZ:=q.1.headD (jb 0)
def on (q:RS):RS:=(q.1.tail,q.2)
def wr (q:RS):RS:=if q.2.1=0 then (q.1,(if q.hd.k=0 then 5 else 4,q.hd.a)) else q
def is (q:RS) (k:Int) (s:ByteArray):Bool:=decide (q.hd.k=k) && decide (q.hd.s=s)
def ah (q:RS) (k:Int) (s:ByteArray):RS:=if q.2.1=0 then (if q.is k s=true then q.on else q.wr) else q
def dZ (q:RS) (s:ByteArray):Bool:=decide (q.2.1=0) && q.is 4 s
def may (q:RS) (s:ByteArray):RS:=if q.dZ s=true then q.on else q
def A9 (q:RS) (k:Int):Bool:=decide (q.2.1=0) && decide (q.hd.k=k)
def lP (q:RS) (k:Int):gZ:=if q.A9 k=true then q.hd else jb 0
def any (q:RS) (k:Int):RS:=if q.A9 k=true then q.on else q.wr
def name (q:RS):Wd:=⟨(q.lP 1).s,(q.lP 1).a⟩
def aT (q:RS):RS:=q.any 1
end RS
def jD (q:RS):List DV:=[.sl 5 (er q.1) none,.v (.int .i64 q.2.1),.v (.int .i64 q.2.2)]
structure bP (q:RS):Prop where
 ne:q.2.1=0->q.1 ≠ []
 nx:∀ (i:Nat) t,q.1[i]? = some t->t.k≠0->i + 1 < q.1.length
 len:q.1.length<=274877906944
theorem bP.cons {q:RS} (h:bP q) (h0:q.2.1=0):∃ t r,q.1=t :: r/\q.hd=t:=by
 have:=h.ne h0;unfold RS.hd
 cases hq:q.1 with
 | nil=>exact absurd hq this
 | cons t r=>exact ⟨t,r,rfl,rfl⟩
theorem bP.on {q:RS} (h:bP q) (h0:q.2.1=0) (hk:q.hd.k≠0):bP q.on:=by
 obtain ⟨t,r,h1,h2⟩:=h.cons h0;have hn:=h.nx;have hl:=h.len;obtain ⟨l,f⟩:=q;simp only at h1 hn hl;subst h1;rw [h2] at hk;have h3:=hn 0 t rfl hk;simp only [List.length_cons] at h3 hl;refine ⟨fun _ he=>?_,fun i t' hi iH=>?_,?_⟩
 ·simp only [RS.on,List.tail_cons] at he;rw [he] at h3;simp at h3
 ·have:=hn (i + 1) t' (by simpa [RS.on] using hi) iH;simp only [List.length_cons] at this;show i + 1 < r.length;omega
 ·show r.length<=_;omega
theorem bP.ff {q:RS} (h:bP q) {e a:Int} (he:e≠0):bP (q.1,(e,a)):=⟨fun h0=>absurd h0 he,h.nx,h.len⟩
theorem bP.wr {q:RS} (h:bP q):bP q.wr:=by
 unfold RS.wr;split
 ·exact h.ff (by split<;>decide)
 ·exact h
theorem RS.Xy {q:RS} {k:Int} {s:ByteArray} (h:q.is k s=true):q.hd.k=k:=by
 simp only [RS.is,bh,decide_eq_true_eq] at h;exact h.1
theorem bP.ah {q:RS} (h:bP q) {k:Int} (hk:k≠0) (s:ByteArray):bP (q.ah k s):=by
 unfold RS.ah;split
 ·split
  ·rename_i h0 hi;exact h.on h0 (by rw [RS.Xy hi];exact hk)
  ·exact h.wr
 ·exact h
theorem bP.gG {q:RS} (h:bP q) {s:ByteArray} (hm:q.dZ s=true):bP q.on:=by
 simp only [RS.dZ,bh,decide_eq_true_eq] at hm;exact h.on hm.1 (by rw [RS.Xy hm.2];decide)
theorem bP.any {q:RS} (h:bP q) {k:Int} (hk:k≠0):bP (q.any k):=by
 unfold RS.any;split
 ·rename_i hm;simp only [RS.A9,bh,decide_eq_true_eq] at hm;exact h.on hm.1 (by rw [hm.2];exact hk)
 ·exact h.wr
theorem bP.name {q:RS} (h:bP q):bP q.aT:=h.any (by decide)
theorem RS.wK {q:RS} (h:bP q) (h0:q.2.1=0):q.on.1.length < q.1.length:=by
 obtain ⟨t,r,h1,_⟩:=h.cons h0;show q.1.tail.length < _;rw [h1];simp
theorem RS.Ul {q:RS}:q.wr.2.1≠0:=by
 unfold RS.wr
 grind
theorem RS.uD {q:RS} (h:bP q) {k:Int} {s:ByteArray} (h0:(q.ah k s).2.1=0):(q.ah k s).1.length < q.1.length:=by
 unfold RS.ah at h0 ⊢
 grind [RS.wK,RS.Ul]
theorem RS.FV {q:RS} (h:bP q) {k:Int} (h0:(q.any k).2.1=0):(q.any k).1.length < q.1.length:=by
 unfold RS.any at h0 ⊢;split at h0
 ·rename_i h2;rw [zIfP h2];simp only [RS.A9,bh,decide_eq_true_eq] at h2;exact RS.wK h h2.1
 ·exact absurd h0 RS.Ul
theorem RS.NZ {q:RS} (h:bP q) {s:ByteArray} (hm:q.dZ s=true):q.on.1.length < q.1.length:=by
 simp only [RS.dZ,bh,decide_eq_true_eq] at hm;exact RS.wK h hm.1
theorem RS.IK {q:RS} {s:ByteArray} (hm:q.dZ s=true):q.2.1=0:=by
 simp only [RS.dZ,bh,decide_eq_true_eq] at hm;exact hm.1
def bigN:Nat:=274877906945
theorem fH:bigN=274877906945:=rfl
attribute [irreducible] bigN
def rLab:Nat->List Wd->RS->List Wd × RS
 | 0,l,q=>(l,q)
 | n + 1,l,q=>if q.aT.dZ rK=true then rLab n (l ++ [q.name]) q.aT.on else (l ++ [q.name],q.aT)
def iA (q:RS):List Wd × RS:=rLab bigN [] q
def pw (q:RS):Int × RS:=(((q.ah 4 aU).lP 2).n,((q.ah 4 aU).any 2).ah 4 bH)
structure Cs where
 k:Int
 n:Int
 a:Int
 l:List Wd
def QY (c:Cs):List DV:=[.v (.int .i64 c.k),.v (.int .i64 c.n),.v (.int .i64 c.a),.sl 2 (bA c.l) none]
def mv (k n a:Int) (q:RS):Cs × RS:=if q.dZ vd=true then (⟨k,n,a,(iA q.on).1⟩,(iA q.on).2) else (⟨k,n,a,[]⟩,q)
def dz (q:RS):Cs × RS:=
 if q.2.1=0 then
  (if q.hd.k=1 then
   (if q.hd.s=mN then mv 1 (pw q.on).1 q.hd.a (pw q.on).2
    else if q.hd.s=oL then mv 2 (pw q.on).1 q.hd.a (pw q.on).2
    else if q.hd.s=qj then mv 3 0 q.hd.a q.on
    else (⟨0,0,q.hd.a,[]⟩,(q.1,(9,q.hd.a))))
   else (⟨0,0,q.hd.a,[]⟩,q.wr))
 else (⟨0,0,0,[]⟩,q)
def Lm (x:Ph) (q:RS):Ph × RS:=if q.dZ vd=true then ({ x with label:=(iA q.on).1 },(iA q.on).2) else (x,q)
def JS (x:Ph) (q:RS):Ph × RS:=if q.dZ pf=true then ({ x with wide:=(q.on.lP 2).n },q.on.any 2) else (x,q)
def GH (x:Ph) (q:RS):Ph × RS:=if q.dZ eA=true then ({ x with ck:=(dz q.on).1.k,cn:=(dz q.on).1.n,ca:=(dz q.on).1.a,cl:=(dz q.on).1.l },(dz q.on).2) else (x,q)
def gh (x:Ph) (q:RS):Ph × RS:=GH (JS (Lm x q).1 (Lm x q).2).1 (JS (Lm x q).1 (Lm x q).2).2
def sI (w:Wd) (b:Bool):Ph:=⟨w,b,[],0,0,0,0,[]⟩
def rLst {β:Type} (g:List β->RS->List β × RS) (e:ByteArray):Nat->List β->RS->List β × RS
 | 0,l,q=>(l,q)
 | n + 1,l,q=>if q.2.1=0 then (if (g l q).2.dZ e=true then ((g l q).1,(g l q).2.on) else rLst g e n (g l q).1 ((g l q).2.ah 4 bG)) else ([],q)
section
variable (K:RS->Ty × RS) (tag:Bool)
def sJ (q:RS):(Ph × Ty) × RS:=(((gh (sI q.name false) (K (q.aT.ah 4 b5)).2).1,(K (q.aT.ah 4 b5)).1),(gh (sI q.name false) (K (q.aT.ah 4 b5)).2).2)
def Ba (q:RS):(Ph × Ty) × RS:=
 if q.aT.dZ aU=true then (((gh (sI q.name false) ((K q.aT.on).2.ah 4 bH)).1,(K q.aT.on).1),(gh (sI q.name false) ((K q.aT.on).2.ah 4 bH)).2)
 else ((sI q.name true,cp),q.aT)
def dN (q:RS):(Ph × Ty) × RS:=if tag=true then Ba K q else sJ K q
def prG (l:List (Ph × Ty)) (q:RS):List (Ph × Ty) × RS:=(l ++ [(dN K tag q).1],(dN K tag q).2)
def FW:Nat->List (Ph × Ty)->RS->List (Ph × Ty) × RS:=rLst (prG K tag) aS
def gU (q:RS):List (Ph × Ty) × RS:=
 if ((q.ah 4 bE).dZ aS && !tag)=true then ([],(q.ah 4 bE).on) else FW K tag bigN [] (q.ah 4 bE)
end
def nmG (l:List Wd) (q:RS):List Wd × RS:=(l ++ [q.name],q.aT)
def kr (e:ByteArray):Nat->List Wd->RS->List Wd × RS:=rLst nmG e
def mkPts:List (Ph × Ty)->Pts
 | []=>.nil
 | p :: r=>.cons p.1 p.2 (mkPts r)
theorem uE:∀ l:List (Ph × Ty),gm (mkPts l)=l.map (fun p=>kv p.1 (cL p.2))
 | []=>rfl
 | p :: r=>by rw [mkPts,gm,uE r,List.map_cons]
def IL (k a:Int):Hd:=⟨k,a,0,0,0,[],⟨aM,0⟩⟩
def Um (k a:Int):Ty:=.mk (IL k a) .nil
def rL (K:RS->Ty × RS) (w:ByteArray) (a:Int) (p:RS):Ty × RS:=
 if w=xO then (Um 1 a,p)
 else if w=Xv then (.mk { IL 2 a with lo:=((p.ah 4 aU).lP 2).n,hi:=((((p.ah 4 aU).any 2).ah 4 lO).lP 2).n } .nil,((((p.ah 4 aU).any 2).ah 4 lO).any 2).ah 4 bH)
 else if w=NW then (.mk { IL 3 a with most:=(pw p).1 } .nil,(pw p).2)
 else if w=NX then (.mk { IL 4 a with ag:=(kr bH bigN [] (p.ah 4 aU)).1 } .nil,(kr bH bigN [] (p.ah 4 aU)).2)
 else if w=NY then (.mk { IL 5 a with most:=(((K (p.ah 4 aU)).2.ah 4 bG).lP 2).n } (.cons dP (K (p.ah 4 aU)).1 .nil),((((K (p.ah 4 aU)).2.ah 4 bG).any 2).ah 4 bH))
 else if w=Xw then (.mk (IL 6 a) (.cons dP (K (p.ah 4 aU)).1 .nil),(K (p.ah 4 aU)).2.ah 4 bH)
 else if w=Uk then (.mk (IL 7 a) (mkPts (gU K false p).1),(gU K false p).2)
 else if w=A8 then (.mk (IL 8 a) (mkPts (gU K true p).1),(gU K true p).2)
 else if w=Xx then (.mk { IL 9 a with name:=(p.ah 4 aU).name } .nil,(p.ah 4 aU).aT.ah 4 bH)
 else (Um 0 a,(p.1,(9,a)))
def rKind:Nat->RS->Ty × RS
 | 0,q=>if q.2.1=0 then (Um 0 q.hd.a,(q.1,(6,q.hd.a))) else (cp,q)
 | n + 1,q=>if q.2.1=0 then (if q.hd.k=1 then rL (rKind n) q.hd.s q.hd.a q.on else (Um 0 q.hd.a,q.wr)) else (cp,q)
def rChain:Nat->List (Wd × Wd)->Wd->RS->List (Wd × Wd) × RS
 | 0,l,_,q=>(l,q)
 | n + 1,l,lo,q=>if q.aT.dZ eu=true then rChain n (l ++ [(lo,q.name)]) q.name q.aT.on else (l ++ [(lo,q.name)],q.aT)
def mw (l:List (Wd × Wd)) (q:RS):List (Wd × Wd) × RS:=rChain bigN l q.name (q.aT.ah 4 eu)
def FX:Nat->List (Wd × Wd)->RS->List (Wd × Wd) × RS:=rLst mw aS
def mO (q:RS):List (Wd × Wd) × RS:=if q.dZ aS=true then ([],q.on) else FX bigN [] q
def RS.BS (q:RS) (s:ByteArray):Bool:=decide (q.2.1=0) && q.is 1 s
def rTypes:Nat->List (Wd × Ty)->RS->List (Wd × Ty) × RS
 | 0,l,q=>(l,q)
 | n + 1,l,q=>if q.BS fu=true then rTypes n (l ++ [(q.on.name,(rKind 24 (q.on.aT.ah 4 j1)).1)]) (rKind 24 (q.on.aT.ah 4 j1)).2 else (l,q)
def FY (q:RS):List Wd × RS:=kr aS bigN [] ((q.ah 1 bL).ah 4 bE)
def Cf (q:RS):List (Wd × Wd) × RS:=if q.BS mM=true then mO (q.on.ah 4 bE) else ([],q)
def Qb (q:RS):List (Wd × Ty) × RS:=rTypes bigN [] q
def Un (q:RS):Ty × RS:=rKind 24 (q.ah 1 cm)
def gK (q:RS):Sch × RS:=(⟨(FY q).1,(Cf (FY q).2).1,(Qb (Cf (FY q).2).2).1,(Un (Qb (Cf (FY q).2).2).2).1⟩,(Un (Qb (Cf (FY q).2).2).2).2)
theorem N1:∀ (n:Nat) (l:List Wd) (q:RS),bP q->bP (rLab n l q).2
 | 0,_,_,h=>h
 | n + 1,l,q,h=>by
  rw [rLab];split
  ·exact N1 n _ _ (h.name.gG ‹_›)
  ·exact h.name
theorem wM {q:RS} (h:bP q):bP (iA q).2:=N1 _ _ _ h
theorem uF {q:RS} (h:bP q):bP (pw q).2:=((h.ah (by decide) _).any (by decide)).ah (by decide) _
theorem Bb {k n a:Int} {q:RS} (h:bP q):bP (mv k n a q).2:=by
 unfold mv;split
 ·exact wM (h.gG ‹_›)
 ·exact h
theorem lQ {q:RS} (h:bP q):bP (dz q).2:=by
 unfold dz;split
 ·rename_i h0;split
  ·rename_i h1;have ho:bP q.on:=h.on h0 (by rw [h1];decide)
   repeat' split
   ·exact Bb (uF ho)
   ·exact Bb (uF ho)
   ·exact Bb ho
   ·exact h.ff (by decide)
  ·exact h.wr
 ·exact h
theorem abY {x:Ph} {q:RS} (h:bP q):bP (Lm x q).2:=by
 unfold Lm;split
 ·exact wM (h.gG ‹_›)
 ·exact h
theorem abZ {x:Ph} {q:RS} (h:bP q):bP (JS x q).2:=by
 unfold JS;split
 ·exact (h.gG ‹_›).any (by decide)
 ·exact h
theorem ab0 {x:Ph} {q:RS} (h:bP q):bP (GH x q).2:=by
 unfold GH;split
 ·exact lQ (h.gG ‹_›)
 ·exact h
theorem DX {x:Ph} {q:RS} (h:bP q):bP (gh x q).2:=ab0 (abZ (abY h))
theorem yL {β:Type} {g:List β->RS->List β × RS} (hg:∀ l q,bP q->bP (g l q).2) {e:ByteArray}:∀ (n:Nat) (l:List β) (q:RS),bP q->bP (rLst g e n l q).2
 | 0,_,_,h=>h
 | n + 1,l,q,h=>by
  rw [rLst];split
  ·split
   ·exact (hg l q h).gG ‹_›
   ·exact yL hg n _ _ ((hg l q h).ah (by decide) _)
  ·exact h
section
variable {K:RS->Ty × RS} (hK:∀ q,bP q->bP (K q).2)
include hK
theorem Qc {q:RS} (h:bP q):bP (sJ K q).2:=DX (hK _ (h.name.ah (by decide) _))
theorem Xz {q:RS} (h:bP q):bP (Ba K q).2:=by
 unfold Ba;split
 ·exact DX ((hK _ (h.name.gG ‹_›)).ah (by decide) _)
 ·exact h.name
theorem Bc {tag:Bool} {q:RS} (h:bP q):bP (dN K tag q).2:=by grind [dN,Xz,Qc]
theorem Ln {tag:Bool} (n:Nat) (l:List (Ph × Ty)) (q:RS) (h:bP q):bP (FW K tag n l q).2:=yL (fun _ _ h=>Bc hK h) n l q h
theorem DY {tag:Bool} {q:RS} (h:bP q):bP (gU K tag q).2:=by
 unfold gU;have h1:bP (q.ah 4 bE):=h.ah (by decide) _;split
 ·rename_i hm;exact h1.gG (bh _ _ ▸ hm).1
 ·exact Ln hK _ _ _ h1
end
theorem DZ {e:ByteArray} (n:Nat) (l:List Wd) (q:RS) (h:bP q):bP (kr e n l q).2:=yL (fun _ _ h=>h.name) n l q h
theorem Uo {K:RS->Ty × RS} (hK:∀ q,bP q->bP (K q).2) {w:ByteArray} {a:Int} {p:RS} (h:bP p):bP (rL K w a p).2:=by
 have h1:bP (p.ah 4 aU):=h.ah (by decide) _;unfold rL
 repeat' split
 ·exact h
 ·exact (((h1.any (by decide)).ah (by decide) _).any (by decide)).ah (by decide) _
 ·exact uF h
 ·exact DZ _ _ _ h1
 ·exact (((hK _ h1).ah (by decide) _).any (by decide)).ah (by decide) _
 ·exact (hK _ h1).ah (by decide) _
 ·exact DY hK h
 ·exact DY hK h
 ·exact h1.name.ah (by decide) _
 ·exact h.ff (by decide)
theorem lR:∀ (n:Nat) (q:RS),bP q->bP (rKind n q).2
 | 0,q,h=>by
  rw [rKind];split
  ·exact h.ff (by decide)
  ·exact h
 | n + 1,q,h=>by
  rw [rKind];split
  ·rename_i h0;split
   ·rename_i h1;exact Uo (lR n) (h.on h0 (by rw [h1];decide))
   ·exact h.wr
  ·exact h
theorem D0:∀ (n:Nat) (l:List (Wd × Wd)) (w:Wd) (q:RS),bP q->bP (rChain n l w q).2
 | 0,_,_,_,h=>h
 | n + 1,l,w,q,h=>by
  rw [rChain];split
  ·exact D0 n _ _ _ (h.name.gG ‹_›)
  ·exact h.name
theorem Bd {l:List (Wd × Wd)} {q:RS} (h:bP q):bP (mw l q).2:=D0 _ _ _ _ (h.name.ah (by decide) _)
theorem Lo (n:Nat) (l:List (Wd × Wd)) (q:RS) (h:bP q):bP (FX n l q).2:=yL (fun _ _ h=>Bd h) n l q h
theorem D1 {q:RS} (h:bP q):bP (mO q).2:=by
 unfold mO;split
 ·exact h.gG ‹_›
 ·exact Lo _ _ _ h
theorem RS.yM {q:RS} {s:ByteArray} (hm:q.BS s=true):q.2.1=0/\q.is 1 s=true:=by grind [RS.BS]
theorem bP.Qd {q:RS} (h:bP q) {s:ByteArray} (hm:q.BS s=true):bP q.on:=h.on (RS.yM hm).1 (by rw [RS.Xy (RS.yM hm).2];decide)
theorem D2:∀ (n:Nat) (l:List (Wd × Ty)) (q:RS),bP q->bP (rTypes n l q).2
 | 0,_,_,h=>h
 | n + 1,l,q,h=>by
  rw [rTypes];split
  ·exact D2 n _ _ (lR _ _ ((h.Qd ‹_›).name.ah (by decide) _))
  ·exact h
theorem N2 {q:RS} (h:bP q):bP (FY q).2:=DZ _ _ _ ((h.ah (by decide) _).ah (by decide) _)
theorem XA {q:RS} (h:bP q):bP (Cf q).2:=by
 unfold Cf;split
 ·exact D1 ((h.Qd ‹_›).ah (by decide) _)
 ·exact h
theorem XB {q:RS} (h:bP q):bP (Qb q).2:=D2 _ _ _ h
theorem XC {q:RS} (h:bP q):bP (Un q).2:=lR _ _ (h.ah (by decide) _)
theorem Lp {q:RS} (h:bP q):bP (gK q).2:=XC (XB (XA (N2 h)))
end Go.Proofs.YtfdedoiiahbnnaaGreat
set_option maxRecDepth 100000
namespace Go.Proofs.YtfdedoiiahbnnaaGreat
open Go Go.RowKit Dv Go.Proofs.Tryz
def au.kG (c:au):Int:=(c.BR 2).n
def au.b7 (c:au):au:=if c.tk 2 then c.step else c.wrong
def pLab:Nat->List Wd->au->List Wd × au
 | 0,l,c=>(l,c)
 | n + 1,l,c=>if c.al.is 4 rK=true then pLab n (l ++ [c.bf]) c.al.step else (l ++ [c.bf],c.al)
def eO (c:au):List Wd × au:=pLab bigN [] c
def nM (c:au):Int × au:=((c.ah aU).kG,(c.ah aU).b7.ah bH)
def gN (k n a:Int) (c:au):Cs × au:=if c.is 4 vd=true then (⟨k,n,a,(eO c.step).1⟩,(eO c.step).2) else (⟨k,n,a,[]⟩,c)
def dj (c:au):Cs × au:=
 if c.is 1 mN=true then gN 1 (nM c.step).1 c.aO.a (nM c.step).2
 else if c.is 1 oL=true then gN 2 (nM c.step).1 c.aO.a (nM c.step).2
 else if c.is 1 qj=true then gN 3 0 c.aO.a c.step
 else if c.aO.k=1 then gN 0 0 c.aO.a (c.fail 9)
 else gN 0 0 c.aO.a c.wrong
def IM (x:Ph) (c:au):Ph × au:=if c.is 4 vd=true then ({ x with label:=(eO c.step).1 },(eO c.step).2) else (x,c)
def JT (x:Ph) (c:au):Ph × au:=if c.is 4 pf=true then ({ x with wide:=c.step.kG },c.step.b7) else (x,c)
def GI (x:Ph) (c:au):Ph × au:=if c.is 4 eA=true then ({ x with ck:=(dj c.step).1.k,cn:=(dj c.step).1.n,ca:=(dj c.step).1.a,cl:=(dj c.step).1.l },(dj c.step).2) else (x,c)
def cF (x:Ph) (c:au):Ph × au:=GI (JT (IM x c).1 (IM x c).2).1 (JT (IM x c).1 (IM x c).2).2
section
variable (K:au->Ty × au) (tag:Bool)
def mP (c:au):(Ph × Ty) × au:=(((cF (sI c.bf false) (K (c.al.ah b5)).2).1,(K (c.al.ah b5)).1),(cF (sI c.bf false) (K (c.al.ah b5)).2).2)
def uG (c:au):(Ph × Ty) × au:=
 if c.al.is 4 aU=true then (((cF (sI c.bf false) ((K c.al.step).2.ah bH)).1,(K c.al.step).1),(cF (sI c.bf false) ((K c.al.step).2.ah bH)).2)
 else ((sI c.bf true,cp),c.al)
def dp (c:au):(Ph × Ty) × au:=if tag=true then uG K c else mP K c
def wN (c:au) (l:List (Ph × Ty)):au × List (Ph × Ty):=((dp K tag c).2,l ++ [(dp K tag c).1])
def dH (c:au):List (Ph × Ty) × au:=
 if (!tag && (c.ah bE).is 4 aS)=true then ([],(c.ah bE).step) else ((listF (wN K tag) aS bigN (c.ah bE) []).2,(listF (wN K tag) aS bigN (c.ah bE) []).1)
end
def fc (K:au->Ty × au) (w:ByteArray) (a:Int) (c:au):Bool × Ty × au:=
 if w=xO then (true,Um 1 a,c)
 else if w=Xv then (true,.mk { IL 2 a with lo:=(c.ah aU).kG,hi:=((c.ah aU).b7.ah lO).kG } .nil,((c.ah aU).b7.ah lO).b7.ah bH)
 else if w=NW then (true,.mk { IL 3 a with most:=(nM c).1 } .nil,(nM c).2)
 else if w=NX then (true,.mk { IL 4 a with ag:=(listF ia bH bigN (c.ah aU) []).2 } .nil,(listF ia bH bigN (c.ah aU) []).1)
 else if w=NY then (true,.mk { IL 5 a with most:=((K (c.ah aU)).2.ah bG).kG } (.cons dP (K (c.ah aU)).1 .nil),((K (c.ah aU)).2.ah bG).b7.ah bH)
 else if w=Xw then (true,.mk (IL 6 a) (.cons dP (K (c.ah aU)).1 .nil),(K (c.ah aU)).2.ah bH)
 else if w=Uk then (true,.mk (IL 7 a) (mkPts (dH K false c).1),(dH K false c).2)
 else if w=A8 then (true,.mk (IL 8 a) (mkPts (dH K true c).1),(dH K true c).2)
 else if w=Xx then (true,.mk { IL 9 a with name:=(c.ah aU).bf } .nil,(c.ah aU).al.ah bH)
 else (false,Um 0 a,c)
def au.deep (c:au):au:={ c with d:=c.d + 1 }
def pKind:Nat->au->Ty × au
 | 0,c=>(Um 0 c.aO.a,c.fail 6)
 | n + 1,c=>if c.deep.tk 1=true then (if (fc (pKind n) c.deep.aO.s c.aO.a c.deep.step).1=true then ((fc (pKind n) c.deep.aO.s c.aO.a c.deep.step).2.1,(fc (pKind n) c.deep.aO.s c.aO.a c.deep.step).2.2.leave) else ((fc (pKind n) c.deep.aO.s c.aO.a c.deep.step).2.1,((fc (pKind n) c.deep.aO.s c.aO.a c.deep.step).2.2.cM 9 c.deep.aO.a).leave)) else (Um 0 c.aO.a,c.deep.wrong.leave)
def pChain:Nat->List (Wd × Wd)->Wd->au->List (Wd × Wd) × au
 | 0,l,_,c=>(l,c)
 | n + 1,l,lo,c=>if c.al.is 4 eu=true then pChain n (l ++ [(lo,c.bf)]) c.bf c.al.step else (l ++ [(lo,c.bf)],c.al)
def cG (c:au):List (Wd × Wd) × au:=pChain bigN [] c.bf (c.al.ah eu)
def yn (c:au) (l:List (Wd × Wd)):au × List (Wd × Wd):=((cG c).2,l ++ (cG c).1)
def ji (c:au):List (Wd × Wd) × au:=if c.is 4 aS=true then ([],c.step) else ((listF yn aS bigN c []).2,(listF yn aS bigN c []).1)
def pTypes:Nat->List (Wd × Ty)->au->List (Wd × Ty) × au
 | 0,l,c=>(l,c)
 | n + 1,l,c=>if c.is 1 fu=true then pTypes n (l ++ [(c.step.bf,(pKind 24 (c.step.al.ah j1)).1)]) (pKind 24 (c.step.al.ah j1)).2 else (l,c)
def iB (c:au):List Wd × au:=((listF ia aS bigN ((c.kw bL).ah bE) []).2,(listF ia aS bigN ((c.kw bL).ah bE) []).1)
def kH (c:au):List (Wd × Wd) × au:=if c.is 1 mM=true then ji (c.step.ah bE) else ([],c)
def uH (c:au):List (Wd × Ty) × au:=pTypes bigN [] c
def XD (c:au):Ty × au:=pKind 24 (c.kw cm)
def dQ (c:au):Sch × au:=(⟨(iB c).1,(kH (iB c).2).1,(uH (kH (iB c).2).2).1,(XD (uH (kH (iB c).2).2).2).1⟩,(XD (uH (kH (iB c).2).2).2).2)
structure Sm (c:au) (q:RS):Prop where
 ok:aw c
 rok:bP q
 f:q.2=c.f
 l:c.f.1=0->q.1=c.l.drop c.p
namespace Sm
variable {c:au} {q:RS} (h:Sm c q)
include h
theorem hd (h0:c.f.1=0):q.hd=c.aO:=by
 rw [RS.hd,au.aO,zIfP h0,h.l h0,List.headD_eq_head?_getD,List.head?_drop]
theorem is (h0:c.f.1=0) (k:Int) (s:ByteArray):c.is k s=q.is k s:=by rw [au.is,RS.is,h.hd h0]
theorem may (s:ByteArray):q.dZ s=c.is 4 s:=by
 rw [RS.dZ,h.f];by_cases h0:c.f.1=0
 ·rw [decide_eq_true h0,h.is h0,Bool.true_and]
 ·rw [decide_eq_false h0,fG h0 (by decide),Bool.false_and]
theorem BS (s:ByteArray):q.BS s=c.is 1 s:=by
 rw [RS.BS,h.f];by_cases h0:c.f.1=0
 ·rw [decide_eq_true h0,h.is h0,Bool.true_and]
 ·rw [decide_eq_false h0,fG h0 (by decide),Bool.false_and]
theorem tk {k:Int} (hk:k≠0):q.A9 k=c.tk k:=by
 rw [RS.A9,h.f];by_cases h0:c.f.1=0
 ·rw [decide_eq_true h0,Bool.true_and,h.hd h0,au.tk]
  grind
 ·rw [decide_eq_false h0,qi h0,Bool.false_and]
omit h in
theorem uI {k:Int} (ht:c.tk k=true):c.f.1=0:=Classical.byContradiction fun h0=>by rw [qi h0] at ht;cases ht
omit h in
theorem dA {k:Int} (hk:k≠0) {s:ByteArray} (ht:c.is k s=true):c.f.1=0:=Classical.byContradiction fun h0=>by rw [fG h0 hk] at ht;cases ht
theorem BR {k:Int} (hk:k≠0):q.lP k=c.BR k:=by
 rw [RS.lP,au.BR,h.tk hk];by_cases ht:c.tk k=true
 ·rw [zIfP ht,zIfP ht,h.hd (Sm.uI ht)]
 ·rw [af ht,af ht];rfl
theorem bf:q.name=c.bf:=by rw [RS.name,au.bf,h.BR (by decide)]
theorem step (h0:c.f.1=0) (hk:c.aO.k≠0):Sm c.step q.on:=by
 have e:c.step={ c with p:=c.p + 1 }:=by rw [au.step,af hk]
 refine ⟨h.ok.step,h.rok.on (by rw [h.f];exact h0) (by rw [h.hd h0];exact hk),?_,fun _=>?_⟩
 ·rw [e];exact h.f
 ·rw [e];show q.1.tail=c.l.drop (c.p + 1);rw [h.l h0,List.tail_drop]
theorem ky {k:Int} (hk:k≠0) {s:ByteArray} (hi:c.is k s=true):Sm c.step q.on:=by
 have h1:c.aO.k=k:=by
  simp only [au.is,bh,decide_eq_true_eq] at hi;exact hi.1
 exact h.step (Sm.dA hk hi) (by rw [h1];exact hk)
theorem cM {e a:Int} (he:e≠0) (h0:c.f.1=0):Sm (c.cM e a) (q.1,(e,a)):=by
 have e1:c.cM e a={ c with f:=(e,a) }:=by rw [au.cM,zIfP ⟨h0,he⟩]
 refine ⟨h.ok.cM _ _,h.rok.ff he,?_,fun h1=>?_⟩
 all_goals grind
theorem fail {e:Int} (he:e≠0) (h0:c.f.1=0):Sm (c.fail e) (q.1,(e,q.hd.a)):=by
 rw [h.hd h0];exact h.cM he h0
theorem wrong:Sm c.wrong q.wr:=by
 by_cases h0:c.f.1=0
 ·rw [RS.wr,zIfP (by rw [h.f];exact h0),h.hd h0];exact h.cM (by split<;>decide) h0
 ·rw [iN h0,RS.wr,af (by rw [h.f];exact h0)];exact h
theorem ah (s:ByteArray):Sm (c.ah s) (q.ah 4 s):=by
 by_cases h0:c.f.1=0
 ·rw [RS.ah,zIfP (by rw [h.f];exact h0),<- h.is h0,au.ah];split
  ·rename_i hi;exact h.ky (by decide) hi
  ·exact h.wrong
 ·rw [cQ h0,RS.ah,af (by rw [h.f];exact h0)];exact h
theorem kw (s:ByteArray):Sm (c.kw s) (q.ah 1 s):=by
 by_cases h0:c.f.1=0
 ·rw [RS.ah,zIfP (by rw [h.f];exact h0),<- h.is h0,au.kw];split
  ·rename_i hi;exact h.ky (by decide) hi
  ·exact h.wrong
 ·rw [A3 h0,RS.ah,af (by rw [h.f];exact h0)];exact h
theorem any {k:Int} (hk:k≠0):Sm (if c.tk k then c.step else c.wrong) (q.any k):=by
 rw [RS.any,h.tk hk];split
 ·rename_i ht;exact h.step (Sm.uI ht) (DW ht)
 ·exact h.wrong
theorem al:Sm c.al q.aT:=h.any (by decide)
theorem b7:Sm c.b7 (q.any 2):=h.any (by decide)
theorem kG:(q.lP 2).n=c.kG:=by rw [au.kG,h.BR (by decide)]
end Sm
theorem nN {c:au} (h:c.f.1≠0):c.b7=c:=by rw [au.b7,qi h,af (by simp),iN h]
theorem Sm.self {c:au} (h:aw c):Sm c (c.l.drop c.p,c.f) where
 ok:=h
 rok:=⟨fun _ he=>by
   have h1:=congrArg List.length he;have h2:=h.lt;simp only [List.length_drop,List.length_nil] at h1;omega,fun i t hi hk=>by
   have h1:=h.nx (c.p + i) t (by rw [<- List.getElem?_drop];exact hi) hk;show i + 1 < (c.l.drop c.p).length;rw [List.length_drop];omega,by
   have h1:=h.len;show (c.l.drop c.p).length<=_;rw [List.length_drop]
   omega⟩
 f:=rfl
 l:=fun _=>rfl
structure aW (c c':au):Prop where
 l:c'.l=c.l
 d:c'.d=c.d
 p:c.p<=c'.p
 g:c'.f.1=0->c'.f=c.f
theorem aW.refl (c:au):aW c c:=⟨rfl,rfl,zLeR _,fun _=>rfl⟩
theorem aW.trans {a b c:au} (h1:aW a b) (h2:aW b c):aW a c:=⟨h2.l.trans h1.l,h2.d.trans h1.d,Nat.le_trans h1.p h2.p,fun h0=>by
 have e:=h2.g h0;rw [e] at h0 ⊢
 exact h1.g h0⟩
theorem aW.step (c:au):aW c c.step:=by
 unfold au.step;split
 ·exact .refl _
 ·exact ⟨rfl,rfl,Nat.le_succ _,fun _=>rfl⟩
theorem aW.cM (c:au) (e a:Int):aW c (c.cM e a):=by
 unfold au.cM;split
 ·rename_i h;exact ⟨rfl,rfl,zLeR _,fun h0=>absurd h0 h.2⟩
 ·exact .refl _
theorem aW.wrong (c:au):aW c c.wrong:=.cM _ _ _
theorem aW.ah (c:au) (s:ByteArray):aW c (c.ah s):=by
 unfold au.ah;split
 ·exact .step _
 ·exact .wrong _
theorem aW.kw (c:au) (s:ByteArray):aW c (c.kw s):=by
 unfold au.kw;split
 ·exact .step _
 ·exact .wrong _
theorem aW.al (c:au):aW c c.al:=by
 unfold au.al;split
 ·exact .step _
 ·exact .wrong _
theorem aW.b7 (c:au):aW c c.b7:=by
 unfold au.b7;split
 ·exact .step _
 ·exact .wrong _
structure Sx {α:Type} (c:au) (x:α × au) (y:α × RS):Prop where
 sm:Sm x.2 y.2
 bad:c.f.1≠0->x.2=c
 val:x.2.f.1=0->y.1=x.1
 st:aW c x.2
theorem Sx.fine {α:Type} {c:au} {x:α × au} {y:α × RS} (h:Sx c x y) (h0:x.2.f.1=0):c.f.1=0:=Classical.byContradiction fun h1=>by
 rw [h.bad h1] at h0;exact h1 h0
theorem bI {c:au} {s:ByteArray} (h0:(c.ah s).f.1=0):c.f.1=0:=Classical.byContradiction fun h1=>by
 rw [cQ h1] at h0;exact h1 h0
theorem IP:∀ (n:Nat) (l:List Wd) (c:au) (q:RS),Sm c q->(rLab n l q).1=(pLab n l c).1/\Sm (pLab n l c).2 (rLab n l q).2/\(c.f.1≠0->(pLab n l c).2=c)/\aW c (pLab n l c).2
 | 0,l,c,q,h=>⟨rfl,h,fun _=>rfl,.refl _⟩
 | n + 1,l,c,q,h=>by
  rw [rLab,pLab,h.al.may,h.bf];split
  ·rename_i hi;have ih:=IP n (l ++ [c.bf]) _ _ (h.al.ky (by decide) hi);refine ⟨ih.1,ih.2.1,fun hb=>?_,((aW.al c).trans (.step _)).trans ih.2.2.2⟩;rw [fb hb,fG hb (by decide)] at hi;cases hi
  ·exact ⟨rfl,h.al,fun hb=>fb hb,.al _⟩
theorem lS {c:au} {q:RS} (h:Sm c q):Sx c (eO c) (iA q):=
 have h1:=IP bigN [] c q h
 ⟨h1.2.1,h1.2.2.1,fun _=>h1.1,h1.2.2.2⟩
theorem nO {c:au} {q:RS} (h:Sm c q):Sx c (nM c) (pw q):=
 ⟨(h.ah _).b7.ah _,fun hb=>by
  show ((c.ah aU).b7.ah bH)=c
  rw [cQ hb,nN hb,cQ hb],fun _=>(h.ah _).kG,((aW.ah c _).trans (.b7 _)).trans (.ah _ _)⟩
theorem fT {k n a:Int} {c:au} (hb:c.f.1≠0):(gN k n a c).2=c:=by rw [gN,fG hb (by decide),af (by simp)]
theorem D3 {k n a:Int} {c:au} {q:RS} (h:Sm c q):Sx c (gN k n a c) (mv k n a q):=by
 refine ⟨?_,fT,?_,?_⟩
 ·unfold gN mv;rw [h.may];split
  ·rename_i hi;exact (lS (h.ky (by decide) hi)).sm
  ·exact h
 ·unfold gN mv;rw [h.may];split
  ·rename_i hi;intro h0;rw [(lS (h.ky (by decide) hi)).val h0]
  ·intro _;rfl
 ·unfold gN;split
  ·rename_i hi;exact (aW.step c).trans (lS (h.ky (by decide) hi)).st
  ·exact .refl _
theorem FZ {c:au} {k:Int} {s:ByteArray}:c.is k s=true↔c.aO.k=k/\c.aO.s=s:=by
 simp only [au.is,bh,decide_eq_true_eq]
theorem uJ {c:au} {e:Int} (he:e≠0):(c.fail e).f.1≠0:=by
 unfold au.fail au.cM
 grind
theorem my {c:au} (hb:c.f.1≠0):(dj c).2=c:=by
 unfold dj;rw [fG hb (by decide),fG hb (by decide),fG hb (by decide),af (by simp),af (by simp),af (by simp),iN hb,au.fail,A2 hb];split
 ·exact fT hb
 ·exact fT hb
theorem ka {c:au} {q:RS} (h:Sm c q):Sx c (dj c) (dz q):=by
 by_cases h0:c.f.1=0
 ·have hh:=h.hd h0;by_cases h1:c.aO.k=1
  ·have hi:∀ s,c.is 1 s=true↔c.aO.s=s:=fun s=>⟨fun h=>(FZ.1 h).2,fun h=>FZ.2 ⟨h1,h⟩⟩;have hst:Sm c.step q.on:=h.step h0 (by rw [h1];decide);have hf:c.step.f.1=0:=by rw [au.step,af (by rw [h1];decide)];exact h0
   rw [dz,zIfP (by rw [h.f];exact h0),hh,zIfP h1,dj];have hn:=nO hst
   have key:∀ k,Sx c (gN k (nM c.step).1 c.aO.a (nM c.step).2) (mv k (pw q.on).1 c.aO.a (pw q.on).2):=fun k=>by
    have e:(pw q.on).1=(nM c.step).1:=(hst.ah _).kG;rw [e];have ht:=@D3 k (nM c.step).1 c.aO.a _ _ hn.sm;exact ⟨ht.sm,fun hb=>absurd h0 hb,ht.val,(aW.step c).trans (hn.st.trans ht.st)⟩
   by_cases e1:c.aO.s=mN
   ·grind
   rw [af e1,af (fun h=>e1 ((hi _).1 h))];by_cases e2:c.aO.s=oL
   ·grind
   rw [af e2,af (fun h=>e2 ((hi _).1 h))];by_cases e3:c.aO.s=qj
   ·rw [zIfP e3,zIfP ((hi _).2 e3)];have ht:=@D3 3 0 c.aO.a _ _ hst;exact ⟨ht.sm,fun hb=>absurd h0 hb,ht.val,(aW.step c).trans ht.st⟩
   ·rw [af e3,af (fun h=>e3 ((hi _).1 h)),zIfP h1];have GA:=h.fail (e:=9) (by decide) h0;rw [hh] at GA;have Fz:(c.fail 9).f.1≠0:=uJ (by decide);refine ⟨?_,fun hb=>absurd h0 hb,fun hg=>?_,?_⟩
    rotate_right
    ·rw [fT Fz];exact .cM _ _ _
    ·rw [fT Fz];exact GA
    ·rw [fT Fz] at hg;exact absurd hg Fz
  ·have hi:∀ s,¬ (c.is 1 s=true):=fun s hs=>h1 (FZ.1 hs).1;rw [dz,zIfP (by rw [h.f];exact h0),hh,af h1,dj,af (hi _),af (hi _),af (hi _),af h1];refine ⟨?_,fun hb=>absurd h0 hb,fun hg=>?_,?_⟩
   rotate_right
   ·rw [fT ij];exact .wrong _
   ·rw [fT ij];exact h.wrong
   ·rw [fT ij] at hg;exact absurd hg ij
 ·rw [dz,af (by rw [h.f];exact h0)];exact ⟨by rw [my h0];exact h,fun hb=>my hb,fun hg=>by rw [my h0] at hg;exact absurd hg h0,by rw [my h0];exact .refl _⟩
theorem N3 {x:Ph} {c:au} {q:RS} (h:Sm c q):Sx c (IM x c) (Lm x q):=by
 unfold IM Lm;rw [h.may];split
 ·rename_i hi;have hl:=lS (h.ky (by decide) hi);exact ⟨hl.sm,fun hb=>absurd (Sm.dA (by decide) hi) hb,fun h0=>by show ({ x with label:=_ }:Ph)={ x with label:=_ };rw [hl.val h0],(aW.step c).trans hl.st⟩
 ·exact ⟨h,fun _=>rfl,fun _=>rfl,.refl _⟩
theorem N4 {x:Ph} {c:au} {q:RS} (h:Sm c q):Sx c (JT x c) (JS x q):=by
 unfold JT JS;rw [h.may];split
 ·rename_i hi;have hl:=h.ky (by decide) hi;exact ⟨hl.b7,fun hb=>absurd (Sm.dA (by decide) hi) hb,fun h0=>by show ({ x with wide:=_ }:Ph)={ x with wide:=_ };rw [hl.kG],(aW.step c).trans (.b7 _)⟩
 ·exact ⟨h,fun _=>rfl,fun _=>rfl,.refl _⟩
theorem N5 {x:Ph} {c:au} {q:RS} (h:Sm c q):Sx c (GI x c) (GH x q):=by
 unfold GI GH;rw [h.may];split
 ·rename_i hi;have hl:=ka (h.ky (by decide) hi)
  exact ⟨hl.sm,fun hb=>absurd (Sm.dA (by decide) hi) hb,fun h0=>by
   show ({ x with ck:=_,cn:=_,ca:=_,cl:=_ }:Ph)={ x with ck:=_,cn:=_,ca:=_,cl:=_ }
   rw [hl.val h0],(aW.step c).trans hl.st⟩
 ·exact ⟨h,fun _=>rfl,fun _=>rfl,.refl _⟩
theorem Sx.comp {α β:Type} {c:au} {x:α × au} {y:α × RS} (h1:Sx c x y) {f:α->au->β × au} {g:α->RS->β × RS} (h2:∀ a,Sx x.2 (f a x.2) (g a y.2)) (h3:∀ a b,x.2.f.1≠0->(g a y.2).2=(g b y.2).2 ):Sx c (f x.1 x.2) (g y.1 y.2) where
 sm:=by
  by_cases h0:x.2.f.1=0
  ·rw [h1.val h0];exact (h2 _).sm
  ·rw [h3 y.1 x.1 h0];exact (h2 _).sm
 bad hb:=by
  have e:=h1.bad hb;have:=(h2 x.1).bad (by rw [e];exact hb);rw [this,e]
 val h0:=by
  have h4:=(h2 x.1).fine h0;rw [h1.val h4];exact (h2 _).val h0
 st:=h1.st.trans (h2 _).st
theorem N6 {x:Ph} {q:RS} (hb:q.2.1≠0):JS x q=(x,q):=by
 unfold JS RS.dZ
 grind
theorem N7 {x:Ph} {q:RS} (hb:q.2.1≠0):GH x q=(x,q):=by
 unfold GH RS.dZ
 grind
theorem oM {x:Ph} {c:au} {q:RS} (h:Sm c q):Sx c (cF x c) (gh x q):=by
 have h1:=@N3 x c q h
 have h2:=h1.comp (f:=JT) (g:=JS) (fun a=>N4 h1.sm) (fun a b hb=>by
  have hb:(Lm x q).2.2.1≠0:=by rw [h1.sm.f];exact hb
  rw [N6 hb,N6 hb])
 exact h2.comp (f:=GI) (g:=GH) (fun a=>N5 h2.sm) (fun a b hb=>by
  have hb:(JS (Lm x q).1 (Lm x q).2).2.2.1≠0:=by rw [h2.sm.f];exact hb
  rw [N7 hb,N7 hb])
theorem Lq {x:Ph} {c:au} (hb:c.f.1≠0):cF x c=(x,c):=by
 have e1:IM x c=(x,c):=by rw [IM,fG hb (by decide),af (by simp)]
 have e2:JT x c=(x,c):=by rw [JT,fG hb (by decide),af (by simp)]
 have e3:GI x c=(x,c):=by rw [GI,fG hb (by decide),af (by simp)]
 rw [cF,e1,e2,e3]
theorem uK {β:Type} {f:au->List β->au × List β} {g:List β->RS->List β × RS} {D:Nat} (hfg:∀ c q l,Sm c q->c.d=D->Sx c ((f c l).2,(f c l).1) (g l q)) (e:ByteArray) :
  ∀ (n:Nat) (l:List β) (c:au) (q:RS),Sm c q->c.d=D->Sx c ((listF f e n c l).2,(listF f e n c l).1) (rLst g e n l q)
 | 0,l,c,q,h,_=>⟨h,fun _=>rfl,fun _=>rfl,.refl _⟩
 | n + 1,l,c,q,h,hd=>by
  rw [listF,rLst];by_cases h0:c.f.1=0
  ·have hq:q.2.1=0:=by rw [h.f];exact h0
   rw [zIfP h0,zIfP hq];have h1:=hfg c q l h hd;have h2:=h1.sm;have hst:=h1.st;have hv:=h1.val;simp only at h2 hst hv;rw [h2.may];split
   ·rename_i hi;exact ⟨h2.ky (by decide) hi,fun hb=>absurd h0 hb,fun _=>hv (Sm.dA (by decide) hi),hst.trans (.step _)⟩
   ·have hn:=h2.ah bG;by_cases h3:(f c l).1.f.1=0
    ·have ih:=uK hfg e n (f c l).2 _ _ hn (by rw [(aW.ah _ _).d,hst.d,hd]);rw [hv h3];exact ⟨ih.sm,fun hb=>absurd h0 hb,ih.val,hst.trans ((aW.ah _ _).trans ih.st)⟩
    ·have e1:(f c l).1.ah bG=(f c l).1:=cQ h3 _
     have e2:∀ m,listF f e m (f c l).1 (f c l).2=((f c l).1,(f c l).2):=fun m=>by
      cases m with
      | zero=>rfl
      | succ m=>rw [listF,af h3]
     have h4:((g l q).2.ah 4 bG).2.1≠0:=by
      rw [hn.f,e1];exact h3
     have e3:∀ m,(rLst g e m (g l q).1 ((g l q).2.ah 4 bG)).2=(g l q).2.ah 4 bG:=fun m=>by
      cases m with
      | zero=>rfl
      | succ m=>rw [rLst,af h4]
     rw [e1] at hn;show Sx c ((listF f e n ((f c l).1.ah bG) (f c l).2).2,(listF f e n ((f c l).1.ah bG) (f c l).2).1) _;rw [e1,e2];exact ⟨by rw [e3];exact hn,fun hb=>absurd h0 hb,fun hg=>absurd hg h3,hst⟩
  ·have hq:¬ q.2.1=0:=by rw [h.f];exact h0
   rw [af h0,af hq];exact ⟨h,fun _=>rfl,fun hg=>absurd hg h0,.refl _⟩
theorem D4 {e:ByteArray} {n:Nat} {l:List Wd} {c:au} {q:RS} (h:Sm c q):Sx c ((listF ia e n c l).2,(listF ia e n c l).1) (kr e n l q):=
 uK (D:=c.d) (fun c q l h _=>⟨h.al,fun hb=>fb hb,fun _=>by show l ++ [q.name]=l ++ [c.bf];rw [h.bf],.al _⟩) e n l c q h rfl
theorem Sx.of {α:Type} {c c1:au} {x:α × au} {y:α × RS} (h:Sx c1 x y) (hb:c.f.1≠0->c1=c) (hs:aW c c1):Sx c x y:=
 ⟨h.sm,fun h1=>by
  have e:=hb h1;rw [e] at h
  exact h.bad h1,h.val,hs.trans h.st⟩
section
variable {K:au->Ty × au} {K':RS->Ty × RS} {D:Nat} (hK:∀ c q,Sm c q->c.d=D->Sx c (K c) (K' q))
include hK
theorem Lr {c:au} {q:RS} (h:Sm c q) (hd:c.d=D):Sx c (mP K c) (sJ K' q):=by
 have h1:Sm (c.al.ah b5) (q.aT.ah 4 b5):=h.al.ah _;have s1:aW c (c.al.ah b5):=(aW.al c).trans (.ah _ _);have hk:=hK _ _ h1 (by rw [s1.d,hd]);have hm:=@oM (sI c.bf false) _ _ hk.sm;have hb:c.f.1≠0->c.al.ah b5=c:=fun hb=>by rw [fb hb,cQ hb]
 refine ⟨?_,fun h2=>?_,fun h0=>?_,s1.trans (hk.st.trans hm.st)⟩
 ·show Sm (cF _ _).2 (gh _ _).2;rw [h.bf];exact hm.sm
 ·show (cF _ _).2=c;have e1:=hb h2;have e2:=hk.bad (by rw [e1];exact h2);rw [e1] at e2;have e3:=hm.bad;rw [e1,e2] at e3;rw [e1,e2];exact e3 h2
 ·show ((gh _ _).1,(K' _).1)=((cF _ _).1,(K _).1);rw [h.bf,hm.val h0,hk.val (hm.fine h0)]
theorem Up {c:au} {q:RS} (h:Sm c q) (hd:c.d=D):Sx c (uG K c) (Ba K' q):=by
 unfold uG Ba;rw [h.al.may,h.bf];split
 ·rename_i hi;have h1:=h.al.ky (by decide) hi;have s1:aW c c.al.step:=(aW.al c).trans (.step _)
  have hf:¬ c.f.1≠0:=fun hb=>by
   rw [fb hb,fG hb (by decide)] at hi;cases hi
  have hk:=hK _ _ h1 (by rw [s1.d,hd]);have h3:=hk.sm.ah bH;have hm:=@oM (sI c.bf false) _ _ h3;refine ⟨hm.sm,fun h2=>absurd h2 hf,fun h0=>?_,s1.trans (hk.st.trans ((aW.ah _ _).trans hm.st))⟩;show ((gh _ _).1,(K' _).1)=((cF _ _).1,(K _).1);rw [hm.val h0,hk.val (bI (hm.fine h0))]
 ·exact ⟨h.al,fun hb=>fb hb,fun _=>rfl,.al _⟩
theorem D5 {tag:Bool} {c:au} {q:RS} (h:Sm c q) (hd:c.d=D):Sx c (dp K tag c) (dN K' tag q):=by
 unfold dp dN;split
 ·exact Up hK h hd
 ·exact Lr hK h hd
theorem Be {tag:Bool} {c:au} {q:RS} (h:Sm c q) (hd:c.d=D):Sx c (dH K tag c) (gU K' tag q):=by
 unfold dH gU;have h1:=h.ah bE;rw [h1.may,Bool.and_comm];split
 ·rename_i hi
  have hi:(c.ah bE).is 4 aS=true:=by
   rw [bh] at hi;exact hi.1
  exact ⟨h1.ky (by decide) hi,fun hb=>absurd hb (fun hb=>hb (bI (Sm.dA (by decide) hi))),fun _=>rfl,(aW.ah _ _).trans (.step _)⟩
 ·have hl:=uK (f:=wN K tag) (g:=prG K' tag) (D:=D) (fun c q l h hd=>by
   have hp:=@D5 K K' D hK tag c q h hd
   exact ⟨hp.sm,hp.bad,fun h0=>by
    show l ++ [_]=l ++ [_]
    rw [hp.val h0],hp.st⟩) aS bigN [] _ _ h1 (by rw [(aW.ah _ _).d,hd])
  exact hl.of (fun hb=>cQ hb _) (.ah _ _)
theorem D6 {w:ByteArray} {a:Int} {c:au} {q:RS} (h:Sm c q) (hd:c.d=D) (hb:(fc K w a c).1=true):Sx c (fc K w a c).2 (rL K' w a q):=by
 have h1:=h.ah aU;have s1:=aW.ah c aU;have d1:(c.ah aU).d=D:=by rw [s1.d,hd]
 have hk:=hK _ _ h1 d1;have b1:c.f.1≠0->c.ah aU=c:=fun hb=>cQ hb _;unfold fc at hb ⊢;unfold rL;split
 ·exact ⟨h,fun _=>rfl,fun _=>rfl,.refl _⟩
 rename_i e1;rw [af e1] at hb;split
 ·refine ⟨((h1.b7.ah _).b7.ah _),fun hb=>?_,fun _=>?_,s1.trans ((aW.b7 _).trans ((aW.ah _ _).trans ((aW.b7 _).trans (.ah _ _))))⟩
  ·show (((c.ah aU).b7.ah lO).b7.ah bH)=c;rw [b1 hb,nN hb,cQ hb,nN hb,cQ hb]
  ·show Ty.mk _ _=Ty.mk _ _;rw [h1.kG,(h1.b7.ah _).kG]
 rename_i e2;rw [af e2] at hb;split
 ·have hn:=nO h;exact ⟨hn.sm,hn.bad,fun h0=>by show Ty.mk _ _=Ty.mk _ _;rw [hn.val h0],hn.st⟩
 rename_i e3;rw [af e3] at hb;split
 ·have hn:=@D4 bH bigN [] _ _ h1
  exact ⟨hn.sm,fun h2=>(hn.of b1 s1).bad h2,fun h0=>by
   show Ty.mk _ _=Ty.mk _ _;have e:=hn.val h0;simp only at e
   rw [e],s1.trans hn.st⟩
 rename_i e4;rw [af e4] at hb;split
 ·have h2:=hk.sm.ah bG;refine ⟨h2.b7.ah _,fun h3=>?_,fun h0=>?_,s1.trans (hk.st.trans ((aW.ah _ _).trans ((aW.b7 _).trans (.ah _ _))))⟩
  ·show (((K (c.ah aU)).2.ah bG).b7.ah bH)=c;have e:=(hk.of b1 s1).bad h3;rw [e,cQ h3,nN h3,cQ h3]
  ·have h3:((K (c.ah aU)).2.ah bG).f.1=0:=Classical.byContradiction fun h3=>by
    have h0:(((K (c.ah aU)).2.ah bG).b7.ah bH).f.1=0:=h0;rw [nN h3,cQ h3] at h0;exact h3 h0
   show Ty.mk _ _=Ty.mk _ _;rw [h2.kG,hk.val (bI h3)]
 rename_i e5;rw [af e5] at hb;split
 ·refine ⟨hk.sm.ah _,fun h3=>?_,fun h0=>?_,s1.trans (hk.st.trans (.ah _ _))⟩
  ·show ((K (c.ah aU)).2.ah bH)=c;rw [(hk.of b1 s1).bad h3,cQ h3]
  ·show Ty.mk _ _=Ty.mk _ _;rw [hk.val (bI h0)]
 rename_i e6;rw [af e6] at hb;split
 ·have hp:=@Be K K' D hK false c q h hd;exact ⟨hp.sm,hp.bad,fun h0=>by show Ty.mk _ _=Ty.mk _ _;rw [hp.val h0],hp.st⟩
 rename_i e7;rw [af e7] at hb;split
 ·have hp:=@Be K K' D hK true c q h hd;exact ⟨hp.sm,hp.bad,fun h0=>by show Ty.mk _ _=Ty.mk _ _;rw [hp.val h0],hp.st⟩
 rename_i e8;rw [af e8] at hb;split
 ·refine ⟨h1.al.ah _,fun h3=>?_,fun h0=>?_,s1.trans ((aW.al _).trans (.ah _ _))⟩
  ·show ((c.ah aU).al.ah bH)=c;rw [b1 h3,fb h3,cQ h3]
  ·show Ty.mk _ _=Ty.mk _ _;rw [h1.bf]
 rename_i e9;rw [af e9] at hb;cases hb
theorem Bf {w:ByteArray} {a:Int} {c:au} {q:RS} (hb:(fc K w a c).1=false):(fc K w a c).2=(Um 0 a,c)/\rL K' w a q=(Um 0 a,(q.1,(9,a))):=by
 unfold fc at hb ⊢;unfold rL;split at hb
 all_goals grind
end
theorem Sm.deep {c:au} {q:RS} (h:Sm c q) (hd:c.d < 24):Sm c.deep q:=⟨qY h.ok hd,h.rok,h.f,h.l⟩
theorem Ls (c:au):c.deep.leave=c:=by
 obtain ⟨l,p,d,f⟩:=c;rfl
theorem Sm.leave {c:au} {q:RS} (h:Sm c q):Sm c.leave q:=⟨h.ok.leave,h.rok,h.f,h.l⟩
theorem aW.leave {c x:au} (h:aW c.deep x):aW c x.leave:=⟨h.l,by show x.d - 1=c.d;rw [h.d];rfl,h.p,h.g⟩
theorem kW:∀ (n:Nat) (c:au) (q:RS),Sm c q->c.d=24 - n->n<=24->Sx c (pKind n c) (rKind n q)
 | 0,c,q,h,hd,_=>by
  rw [pKind,rKind];by_cases h0:c.f.1=0
  ·rw [zIfP (by rw [h.f];exact h0),h.hd h0];have hf:=h.fail (e:=6) (by decide) h0;rw [h.hd h0] at hf;exact ⟨hf,fun hb=>absurd h0 hb,fun _=>rfl,.cM _ _ _⟩
  ·rw [af (by rw [h.f];exact h0),au.fail,A2 h0];exact ⟨h,fun _=>rfl,fun hg=>absurd hg h0,.refl _⟩
 | n + 1,c,q,h,hd,hn=>by
  have hdp:=h.deep (by omega);rw [pKind,rKind];by_cases h0:c.f.1=0
  ·have hq:q.2.1=0:=by rw [h.f];exact h0
   rw [zIfP hq,h.hd h0];have JP:c.deep.aO=c.aO:=rfl;by_cases h1:c.aO.k=1
   ·have ht:c.deep.tk 1=true:=by
     rw [au.tk,JP,h1];rfl
    rw [zIfP ht,zIfP h1,JP];have hs:=hdp.step h0 (by rw [JP,h1];decide);have ih:=fun c q h hd=>kW n c q h hd (by omega)
    have hds:c.deep.step.d=24 - n:=by
     rw [(aW.step _).d];show c.d + 1=_;omega
    cases hB:(fc (pKind n) c.aO.s c.aO.a c.deep.step).1 with
    | true=>
     have hb:=D6 ih (w:=c.aO.s) (a:=c.aO.a) hs hds hB;rw [zIfP rfl];exact ⟨hb.sm.leave,fun h2=>absurd h0 h2,fun h2=>hb.val h2,((aW.step _).trans hb.st).leave⟩
    | false=>
     obtain ⟨e1,e2⟩:=Bf ih (q:=q.on) hB;rw [af (by simp),e1,e2]
     have hf:=hs.cM (e:=9) (a:=c.aO.a) (by decide) (by
      rw [au.step,af (by rw [JP,h1];decide)]
      exact h0)
     exact ⟨hf.leave,fun h2=>absurd h0 h2,fun _=>rfl,((aW.step _).trans (.cM _ _ _)).leave⟩
   ·have ht:¬ c.deep.tk 1=true:=by
     rw [au.tk,JP];simp [h1]
    rw [af ht,af h1];exact ⟨hdp.wrong.leave,fun h2=>absurd h0 h2,fun _=>rfl,(aW.wrong c.deep).leave⟩
  ·have e1:c.deep.tk 1=false:=qi (c:=c.deep) h0 1;have e2:c.deep.wrong=c.deep:=iN (c:=c.deep) h0;have hq:¬ q.2.1=0:=by rw [h.f];exact h0
   rw [af hq,e1,af (by simp),e2,Ls];exact ⟨h,fun _=>rfl,fun hg=>absurd hg h0,.refl _⟩
theorem Bg {c:au} {q:RS} (h:Sm c q) (hd:c.d=0):Sx c (pKind 24 c) (rKind 24 q):=kW 24 c q h hd (zLeR _)
theorem sK:∀ (n:Nat) (l l':List (Wd × Wd)) (w:Wd) (c:au) (q:RS),Sm c q->(rChain n (l' ++ l) w q).1=l' ++ (pChain n l w c).1/\Sm (pChain n l w c).2 (rChain n (l' ++ l) w q).2/\(c.f.1≠0->(pChain n l w c).2=c)/\aW c (pChain n l w c).2
 | 0,l,l',w,c,q,h=>⟨rfl,h,fun _=>rfl,.refl _⟩
 | n + 1,l,l',w,c,q,h=>by
  rw [rChain,pChain,h.al.may,h.bf];split
  ·rename_i hi;have ih:=sK n (l ++ [(w,c.bf)]) l' c.bf _ _ (h.al.ky (by decide) hi);rw [List.append_assoc];refine ⟨ih.1,ih.2.1,fun hb=>?_,((aW.al c).trans (.step _)).trans ih.2.2.2⟩;rw [fb hb,fG hb (by decide)] at hi;cases hi
  ·exact ⟨List.append_assoc ..,h.al,fun hb=>fb hb,.al _⟩
theorem xQ {l:List (Wd × Wd)} {c:au} {q:RS} (h:Sm c q):Sx c ((yn c l).2,(yn c l).1) (mw l q):=by
 have h1:=sK bigN [] l c.bf _ _ (h.al.ah eu);rw [List.append_nil,<- h.bf] at h1;rw [h.bf] at h1;unfold mw;rw [h.bf]
 exact ⟨h1.2.1,fun hb=>by
  show (pChain bigN [] c.bf (c.al.ah eu)).2=c;have e:c.al.ah eu=c:=by rw [fb hb,cQ hb]
  have h2:=h1.2.2.1;rw [e] at h2 ⊢
  exact h2 hb,fun _=>h1.1,((aW.al c).trans (.ah _ _)).trans h1.2.2.2⟩
theorem sL {c:au} {q:RS} (h:Sm c q):Sx c (ji c) (mO q):=by
 unfold ji mO;rw [h.may];split
 ·rename_i hi;exact ⟨h.ky (by decide) hi,fun hb=>absurd (Sm.dA (by decide) hi) hb,fun _=>rfl,.step _⟩
 ·exact uK (f:=yn) (g:=mw) (D:=c.d) (fun c q l h _=>xQ h) aS bigN [] c q h rfl
theorem oN:∀ (n:Nat) (l:List (Wd × Ty)) (c:au) (q:RS),Sm c q->c.d=0->Sx c (pTypes n l c) (rTypes n l q)
 | 0,l,c,q,h,_=>⟨h,fun _=>rfl,fun _=>rfl,.refl _⟩
 | n + 1,l,c,q,h,hd=>by
  rw [pTypes,rTypes,h.BS];split
  ·rename_i hi;have h1:=h.ky (by decide) hi;have h2:=h1.al.ah j1;have s2:aW c (c.step.al.ah j1):=(aW.step c).trans ((aW.al _).trans (.ah _ _));have hk:=Bg h2 (by rw [s2.d,hd]);rw [h1.bf];by_cases h0:(pKind 24 (c.step.al.ah j1)).2.f.1=0
   ·have ih:=oN n (l ++ [(c.step.bf,(pKind 24 (c.step.al.ah j1)).1)]) _ _ hk.sm (by rw [hk.st.d,s2.d,hd]);rw [hk.val h0];exact ⟨ih.sm,fun hb=>absurd (Sm.dA (by decide) hi) hb,ih.val,s2.trans (hk.st.trans ih.st)⟩
   ·have e1:∀ m l,pTypes m l (pKind 24 (c.step.al.ah j1)).2=(l,(pKind 24 (c.step.al.ah j1)).2):=fun m l=>by
     cases m with
     | zero=>rfl
     | succ m=>rw [pTypes,fG h0 (by decide),af (by simp)]
    have e2:∀ m l,rTypes m l (rKind 24 (q.on.aT.ah 4 j1)).2=(l,(rKind 24 (q.on.aT.ah 4 j1)).2):=fun m l=>by
     cases m with
     | zero=>rfl
     | succ m=>rw [rTypes,hk.sm.BS,fG h0 (by decide),af (by simp)]
    rw [e1,e2];exact ⟨hk.sm,fun hb=>absurd (Sm.dA (by decide) hi) hb,fun hg=>absurd hg h0,s2.trans hk.st⟩
  ·exact ⟨h,fun _=>rfl,fun _=>rfl,.refl _⟩
theorem Bh {c:au} {q:RS} (h:Sm c q):Sx c (iB c) (FY q):=
 (D4 ((h.kw _).ah _)).of (fun hb=>by rw [A3 hb,cQ hb]) ((aW.kw _ _).trans (.ah _ _))
theorem IQ {c:au} {q:RS} (h:Sm c q):Sx c (kH c) (Cf q):=by
 unfold kH Cf;rw [h.BS];split
 ·rename_i hi;exact (sL ((h.ky (by decide) hi).ah _)).of (fun hb=>absurd (Sm.dA (by decide) hi) hb) ((aW.step _).trans (.ah _ _))
 ·exact ⟨h,fun _=>rfl,fun _=>rfl,.refl _⟩
theorem Uq {c:au} {q:RS} (h:Sm c q) (hd:c.d=0):Sx c (XD c) (Un q):=
 (Bg (h.kw _) (by rw [(aW.kw _ _).d,hd])).of (fun hb=>A3 hb _) (.kw _ _)
theorem xR {c:au} {q:RS} (h:Sm c q) (hd:c.d=0):Sx c (dQ c) (gK q):=by
 have h1:=Bh h;have h2:=IQ h1.sm;have h3:Sx _ (uH (kH (iB c).2).2) (Qb (Cf (FY q).2).2):=oN bigN [] _ _ h2.sm (by rw [h2.st.d,h1.st.d,hd]);have h4:=Uq h3.sm (by rw [h3.st.d,h2.st.d,h1.st.d,hd]);refine ⟨h4.sm,fun hb=>?_,fun h0=>?_,h1.st.trans (h2.st.trans (h3.st.trans h4.st))⟩
 ·have e1:=h1.bad hb;have b1:(iB c).2.f.1≠0:=by rw [e1];exact hb
  have e2:=h2.bad b1;have b2:(kH (iB c).2).2.f.1≠0:=by rw [e2];exact b1
  have e3:=h3.bad b2;have b3:(uH (kH (iB c).2).2).2.f.1≠0:=by rw [e3];exact b2
  exact (h4.bad b3).trans (e3.trans (e2.trans e1))
 ·have f4:=h4.fine h0;have f3:=h3.fine f4;have f2:=h2.fine f3;show Sch.mk _ _ _ _=Sch.mk _ _ _ _;rw [h4.val h0,h3.val f4,h2.val f3,h1.val f2]
def XE (t:gZ):Nat:=1024 + 2 * (if t.k=1 then t.s.size else 0)
def muL:List gZ->Nat
 | []=>0
 | t :: r=>XE t + muL r
def ed (c:au):Nat:=muL (c.l.drop c.p)
theorem yN {c:au} (h:aw c) (h0:c.f.1=0) (hk:c.aO.k≠0):ed c.step + XE c.aO=ed c:=by
 obtain ⟨t,h1,h2⟩:=h.aO h0;have e:c.step={ c with p:=c.p + 1 }:=by rw [au.step,af hk]
 rw [e,h2];show muL (c.l.drop (c.p + 1)) + XE t=muL (c.l.drop c.p);rw [drop_cons h1,muL];omega
theorem kb {c:au} (h:aw c) {k:Int} (hk:k≠0) {s:ByteArray} (hi:c.is k s=true):ed c.step + 1024<=ed c:=by
 have h0:c.f.1=0:=Sm.dA hk hi;have h1:=yN h h0 (by rw [(FZ.1 hi).1];exact hk);unfold XE at h1;omega
theorem dm {c:au} (h:aw c) {s:ByteArray} (h0:(c.ah s).f.1=0):ed (c.ah s) + 1024<=ed c:=by
 unfold au.ah at h0 ⊢;split at h0
 ·rename_i hi;rw [zIfP hi];exact kb h (by decide) hi
 ·exact absurd h0 ij
theorem ZO {c:au} (h:aw c) {s:ByteArray} (h0:(c.kw s).f.1=0):ed (c.kw s) + 1024<=ed c:=by
 unfold au.kw at h0 ⊢;split at h0
 ·rename_i hi;rw [zIfP hi];exact kb h (by decide) hi
 ·exact absurd h0 ij
theorem tk_k {c:au} {k:Int} (h:c.tk k=true):c.aO.k=k:=by
 simp only [au.tk,bh,decide_eq_true_eq] at h;exact h.2
theorem jj {c:au} (h:aw c) (h0:c.al.f.1=0):ed c.al + 2 * c.bf.wt + 896=ed c:=by
 unfold au.al at h0 ⊢;split at h0
 ·rename_i ht;have h1:=yN h (Sm.uI ht) (DW ht);rw [zIfP ht,au.bf,au.BR,zIfP ht];unfold XE at h1;rw [zIfP (tk_k ht)] at h1;simp only [Wd.wt];omega
 ·exact absurd h0 ij
theorem Bi {c:au} (h:aw c) (h0:c.b7.f.1=0):ed c.b7 + 1024<=ed c:=by
 unfold au.b7 at h0 ⊢;split at h0
 ·rename_i ht;have h1:=yN h (Sm.uI ht) (DW ht);rw [zIfP ht];unfold XE at h1;omega
 ·exact absurd h0 ij
theorem D7 {c:au} (h0:c.al.f.1=0):c.f.1=0:=Classical.byContradiction fun h1=>by
 rw [fb h1] at h0;exact h1 h0
theorem lT {c:au} (h0:c.b7.f.1=0):c.f.1=0:=Classical.byContradiction fun h1=>by
 rw [nN h1] at h0;exact h1 h0
theorem yM {c:au} {s:ByteArray} (h0:(c.kw s).f.1=0):c.f.1=0:=Classical.byContradiction fun h1=>by
 rw [A3 h1] at h0;exact h1 h0
theorem aw.b7 {c:au} (h:aw c):aw c.b7:=(Sm.self h).b7.ok
theorem sM (l:List Wd) (w:Wd):wdsWt (l ++ [w])=wdsWt l + w.wt:=by
 induction l with
 | nil=>simp [wdsWt]
 | cons x r ih=>simp only [List.cons_append,wdsWt,ih];omega
theorem Bj (l:List (Wd × Wd)) (w:Wd × Wd):prsWt (l ++ [w])=prsWt l + (w.1.wt + w.2.wt):=by
 induction l with
 | nil=>simp [prsWt]
 | cons x r ih=>simp only [List.cons_append,prsWt,ih];omega
theorem Lt (l:List (Wd × Ty)) (w:Wd × Ty):nmsWt (l ++ [w])=nmsWt l + (w.1.wt + w.2.wt):=by
 induction l with
 | nil=>simp [nmsWt]
 | cons x r ih=>simp only [List.cons_append,nmsWt,ih];omega
theorem Lu (l:List (Ph × Ty)) (x:Ph × Ty):(mkPts (l ++ [x])).wt=(mkPts l).wt + (x.1.wt + x.2.wt):=by
 induction l with
 | nil=>simp [mkPts,Pts.wt]
 | cons y r ih=>simp only [List.cons_append,mkPts,Pts.wt,ih];omega
theorem N8:∀ (n:Nat) (l:List Wd) (c:au),aw c->(pLab n l c).2.f.1=0->wdsWt (pLab n l c).1 + ed (pLab n l c).2<=wdsWt l + ed c
 | 0,l,c,h,h0=>zLeR _
 | n + 1,l,c,h,h0=>by
  rw [pLab] at h0 ⊢;split at h0
  ·rename_i hi;rw [zIfP hi];have ih:=N8 n _ _ h.al.step h0;have h1:=kb h.al (by decide) hi;have h2:=jj h (Sm.dA (by decide) hi);rw [sM] at ih;omega
  ·rename_i hi;rw [af hi];have h2:=jj h h0;show wdsWt (l ++ [_]) + _<=_;rw [sM];show _ + ed c.al<=_;omega
theorem D8 {c:au} (h:aw c) (h0:(eO c).2.f.1=0):wdsWt (eO c).1 + ed (eO c).2<=ed c:=by
 have:=N8 bigN [] c h h0;simp only [wdsWt] at this;unfold eO;omega
theorem F0 {c:au} (h:aw c) (h0:(nM c).2.f.1=0):ed (nM c).2<=ed c:=by
 have h0:(((c.ah aU).b7).ah bH).f.1=0:=h0;have h1:=dm (h.ah aU).b7 h0;have h2:=Bi (h.ah aU) (bI h0);have h3:=dm h (lT (bI h0));show ed ((c.ah aU).b7.ah bH)<=_;omega
theorem Bk {k n a:Int} {c:au} (h:aw c) (h0:(gN k n a c).2.f.1=0):wdsWt (gN k n a c).1.l + ed (gN k n a c).2<=ed c:=by
 unfold gN at h0 ⊢;split at h0
 ·rename_i hi;rw [zIfP hi];have h1:=D8 h.step h0;have h2:=kb h (by decide) hi
  grind
 ·rename_i hi;rw [af hi];show 0 + ed c<=ed c;omega
theorem oO {k n a:Int} {c:au} (h0:(gN k n a c).2.f.1=0):c.f.1=0:=Classical.byContradiction fun h1=>by
 rw [fT h1] at h0;exact h1 h0
theorem Lv {c:au} (h:aw c) (h0:(dj c).2.f.1=0):wdsWt (dj c).1.l + ed (dj c).2<=ed c:=by
 unfold dj at h0 ⊢;split at h0
 ·rename_i hi;rw [zIfP hi];have h1:=Bk (nO (Sm.self h.step)).sm.ok h0;have h2:=F0 h.step (oO h0);have h3:=kb h (by decide) hi;omega
 rename_i hi;rw [af hi];split at h0
 ·rename_i hi;rw [zIfP hi];have h1:=Bk (nO (Sm.self h.step)).sm.ok h0;have h2:=F0 h.step (oO h0);have h3:=kb h (by decide) hi;omega
 rename_i hi;rw [af hi];split at h0
 ·rename_i hi;rw [zIfP hi];have h1:=Bk h.step h0;have h3:=kb h (by decide) hi;omega
 ·exfalso;split at h0
  ·exact uJ (by decide) (oO h0)
  ·exact ij (oO h0)
theorem ab1 {x:Ph} {c:au} (h:aw c) (h0:(IM x c).2.f.1=0):(IM x c).1.wt + ed (IM x c).2<=x.wt + ed c:=by
 unfold IM at h0 ⊢;split at h0
 ·rename_i hi;rw [zIfP hi];have h1:=D8 h.step h0;have h2:=kb h (by decide) hi;simp only [Ph.wt];omega
 all_goals grind
theorem ab2 {x:Ph} {c:au} (h:aw c) (h0:(JT x c).2.f.1=0):(JT x c).1.wt + ed (JT x c).2<=x.wt + ed c:=by
 unfold JT at h0 ⊢;split at h0
 ·rename_i hi;rw [zIfP hi];have h1:=Bi h.step h0;have h2:=kb h (by decide) hi;simp only [Ph.wt];omega
 all_goals grind
theorem ab3 {x:Ph} {c:au} (h:aw c) (h0:(GI x c).2.f.1=0):(GI x c).1.wt + ed (GI x c).2<=x.wt + ed c:=by
 unfold GI at h0 ⊢;split at h0
 ·rename_i hi;rw [zIfP hi];have h1:=Lv h.step h0;have h2:=kb h (by decide) hi;simp only [Ph.wt];omega
 all_goals grind
theorem D9 {x:Ph} {c:au} (h:aw c) (h0:(cF x c).2.f.1=0):(cF x c).1.wt + ed (cF x c).2<=x.wt + ed c:=by
 have s1:=@N3 x c _ (Sm.self h);have s2:=@N4 (IM x c).1 _ _ (Sm.self s1.sm.ok);have s3:=@N5 (JT (IM x c).1 (IM x c).2).1 _ _ (Sm.self s2.sm.ok);have h3:=ab3 s2.sm.ok h0;have h2:=ab2 s1.sm.ok (s3.fine h0);have h1:=ab1 h (s2.fine (s3.fine h0));unfold cF;omega
theorem qk {x:Ph} {c:au} (h0:(cF x c).2.f.1=0):c.f.1=0:=Classical.byContradiction fun h1=>by
 rw [Lq h1] at h0;exact h1 h0
theorem Lw (w:Wd) (b:Bool):(sI w b).wt=256 + w.wt:=rfl
theorem Qe:cp.wt=320:=rfl
structure Ly (K:au->Ty × au) (D:Nat):Prop where
 sim:∃ K':RS->Ty × RS,∀ c q,Sm c q->c.d=D->Sx c (K c) (K' q)
 wt:∀ c,aw c->c.d=D->(K c).2.f.1=0->(K c).1.wt + ed (K c).2<=ed c
section
variable {K:au->Ty × au} {D:Nat} (hK:Ly K D)
include hK
theorem Ly.ok {c:au} (h:aw c) (hd:c.d=D):aw (K c).2:=by
 obtain ⟨K',h1⟩:=hK.sim;exact (h1 _ _ (Sm.self h) hd).sm.ok
theorem Ly.fine {c:au} (h:aw c) (hd:c.d=D) (h0:(K c).2.f.1=0):c.f.1=0:=by
 obtain ⟨K',h1⟩:=hK.sim;exact (h1 _ _ (Sm.self h) hd).fine h0
theorem Ly.st {c:au} (h:aw c) (hd:c.d=D):aW c (K c).2:=by
 obtain ⟨K',h1⟩:=hK.sim;exact (h1 _ _ (Sm.self h) hd).st
theorem Qf {c:au} (h:aw c) (hd:c.d=D) (h0:(mP K c).2.f.1=0):(mP K c).1.1.wt + (mP K c).1.2.wt + ed (mP K c).2<=ed c:=by
 have d1:(c.al.ah b5).d=D:=by rw [(aW.ah _ _).d,(aW.al _).d,hd]
 have o1:=h.al.ah b5;have h0:(cF (sI c.bf false) (K (c.al.ah b5)).2).2.f.1=0:=h0;have h1:=D9 (hK.ok o1 d1) h0;have f1:=qk h0;have h2:=hK.wt _ o1 d1 f1;have f2:=hK.fine o1 d1 f1;have h3:=dm h.al f2;have h4:=jj h (bI f2);rw [Lw] at h1;show (cF _ _).1.wt + (K _).1.wt + ed (cF _ _).2<=_;omega
theorem XF {c:au} (h:aw c) (hd:c.d=D) (h0:(uG K c).2.f.1=0):(uG K c).1.1.wt + (uG K c).1.2.wt + ed (uG K c).2<=ed c:=by
 unfold uG at h0 ⊢;split at h0
 ·rename_i hi;rw [zIfP hi];have o1:aw c.al.step:=h.al.step;have d1:c.al.step.d=D:=by rw [(aW.step _).d,(aW.al _).d,hd]
  have h0:(cF (sI c.bf false) ((K c.al.step).2.ah bH)).2.f.1=0:=h0;have h1:=D9 ((hK.ok o1 d1).ah _) h0;have f1:=qk h0;have h5:=dm (hK.ok o1 d1) f1;have h2:=hK.wt _ o1 d1 (bI f1);have h3:=kb h.al (by decide) hi;have h4:=jj h (Sm.dA (by decide) hi);rw [Lw] at h1
  grind
 ·rename_i hi;rw [af hi];have h4:=jj h h0;show (sI c.bf true).wt + cp.wt + ed c.al<=_;rw [Lw,Qe];omega
theorem Ur {tag:Bool} {c:au} (h:aw c) (hd:c.d=D) (h0:(dp K tag c).2.f.1=0):(dp K tag c).1.1.wt + (dp K tag c).1.2.wt + ed (dp K tag c).2<=ed c:=by
 unfold dp at h0 ⊢;split
 ·rename_i hi;rw [zIfP hi] at h0;exact XF hK h hd h0
 ·rename_i hi;rw [af hi] at h0;exact Qf hK h hd h0
theorem kX {tag:Bool} {c:au} (h:aw c) (hd:c.d=D):aw (dp K tag c).2/\aW c (dp K tag c).2:=by
 obtain ⟨K',h1⟩:=hK.sim;have h2:=@D5 K K' D h1 tag c _ (Sm.self h) hd;exact ⟨h2.sm.ok,h2.st⟩
end
theorem q6 {α:Type} {f:au->α->au × α} {e:ByteArray} {c:au} (hb:c.f.1≠0) (n:Nat) (a:α):listF f e n c a=(c,a):=by
 cases n with
 | zero=>rfl
 | succ m=>rw [listF,af hb]
theorem yO {α:Type} {f:au->α->au × α} {W:α->Nat} {D:Nat} (fh:∀ c a,aw c->c.d=D->aw (f c a).1/\aW c (f c a).1)
  (hf:∀ c a,aw c->c.d=D->(f c a).1.f.1=0->W (f c a).2 + ed (f c a).1<=W a + ed c) (e:ByteArray) :
  ∀ (n:Nat) (c:au) (a:α),aw c->c.d=D->(listF f e n c a).1.f.1=0->W (listF f e n c a).2 + ed (listF f e n c a).1<=W a + ed c
 | 0,c,a,_,_,_=>zLeR _
 | n + 1,c,a,h,hd,h0=>by
  rw [listF] at h0 ⊢;by_cases h1:c.f.1=0
  ·rw [zIfP h1] at h0 ⊢;have ho:=fh c a h hd;split at h0
   ·rename_i hi;rw [zIfP hi];have h2:=hf c a h hd (Sm.dA (by decide) hi);have h3:=kb ho.1 (by decide) hi
    grind
   ·rename_i hi;rw [af hi];by_cases h2:((f c a).1.ah ⟨#[44]⟩).f.1=0
    ·have h3:=dm ho.1 h2;have h4:=hf c a h hd (bI h2);have ih:=yO fh hf e n _ (f c a).2 (ho.1.ah ⟨#[44]⟩) (by rw [(aW.ah _ _).d,ho.2.d,hd]) h0;omega
    ·rw [q6 h2] at h0;exact absurd h0 h2
  all_goals grind
theorem IU {e:ByteArray} {n:Nat} {l:List Wd} {c:au} (h:aw c) (h0:(listF ia e n c l).1.f.1=0):wdsWt (listF ia e n c l).2 + ed (listF ia e n c l).1<=wdsWt l + ed c:=
 yO (W:=wdsWt) (D:=c.d) (fun c a h _=>⟨h.al,.al _⟩) (fun c a h _ h0=>by
  have:=jj h h0;show wdsWt (a ++ [c.bf]) + ed c.al<=_;rw [sM]
  omega) e n c l h rfl h0
section
variable {K:au->Ty × au} {D:Nat} (hK:Ly K D)
include hK
theorem Ea {tag:Bool} {c:au} (h:aw c) (hd:c.d=D) (h0:(dH K tag c).2.f.1=0):(mkPts (dH K tag c).1).wt + ed (dH K tag c).2<=ed c:=by
 unfold dH at h0 ⊢;split at h0
 ·rename_i hi;rw [zIfP hi];have hi:(c.ah bE).is 4 aS=true:=(bh _ _ ▸ hi).2;have h1:=kb (h.ah bE) (by decide) hi;have h2:=dm h (Sm.dA (by decide) hi);show 0 + ed (c.ah bE).step<=_;omega
 ·rename_i hi;rw [af hi]
  have h1:=yO (f:=wN K tag) (W:=fun l=>(mkPts l).wt) (D:=D) (fun c a h hd=>kX hK h hd) (fun c a h hd h0=>by
   have:=Ur hK h hd h0;show (mkPts (a ++ [(dp K tag c).1])).wt + ed (dp K tag c).2<=_;rw [Lu]
   omega) aS bigN _ [] (h.ah bE) (by rw [(aW.ah _ _).d,hd]) h0
  have h2:(c.ah bE).f.1=0:=Classical.byContradiction fun hb=>by
   rw [q6 hb] at h0;exact hb h0
  have h3:=dm h h2;have e0:(mkPts []).wt=0:=rfl;simp only [e0] at h1;show (mkPts (listF _ _ _ _ _).2).wt + ed (listF _ _ _ _ _).1<=_;omega
theorem Us {w:ByteArray} {a:Int} {c:au} (h:aw c) (hd:c.d=D) (h0:(fc K w a c).2.2.f.1=0):(fc K w a c).2.1.wt + ed (fc K w a c).2.2<=704 + ed c:=by
 have o1:=h.ah aU;have d1:(c.ah aU).d=D:=by rw [(aW.ah _ _).d,hd]
 have hz:dP.wt=320:=rfl;unfold fc at h0 ⊢;split
 ·show 320 + ed c<=_;omega
 rename_i e1;rw [af e1] at h0;split
 ·rename_i e2;rw [zIfP e2] at h0;have h0:((((c.ah aU).b7.ah lO).b7).ah bH).f.1=0:=h0;have h1:=dm ((o1.b7.ah _).b7) h0;have h2:=Bi (o1.b7.ah _) (bI h0);have h3:=dm o1.b7 (lT (bI h0));have h4:=Bi o1 (bI (lT (bI h0)));have h5:=dm h (lT (bI (lT (bI h0))));show 320 + ed ((((c.ah aU).b7.ah lO).b7).ah bH)<=_;omega
 rename_i e2;rw [af e2] at h0;split
 ·rename_i e3;rw [zIfP e3] at h0;have h1:=F0 h h0;show 320 + ed (nM c).2<=_;omega
 rename_i e3;rw [af e3] at h0;split
 ·rename_i e4;rw [zIfP e4] at h0;have h1:=IU o1 h0
  have f1:(c.ah aU).f.1=0:=Classical.byContradiction fun hb=>by
   rw [q6 hb] at h0;exact hb h0
  have h2:=dm h f1;simp only [wdsWt,Nat.zero_add] at h1;show 256 + wdsWt (listF ia bH bigN (c.ah aU) []).2 + 64 + 0 + ed (listF ia bH bigN (c.ah aU) []).1<=_;omega
 rename_i e4;rw [af e4] at h0;split
 ·rename_i e5;rw [zIfP e5] at h0;have h0:(((K (c.ah aU)).2.ah bG).b7.ah bH).f.1=0:=h0;have h1:=dm ((hK.ok o1 d1).ah bG).b7 h0;have h2:=Bi ((hK.ok o1 d1).ah bG) (bI h0);have h3:=dm (hK.ok o1 d1) (lT (bI h0));have f1:=bI (lT (bI h0));have h4:=hK.wt _ o1 d1 f1;have h5:=dm h (hK.fine o1 d1 f1);show 320 + (dP.wt + (K (c.ah aU)).1.wt + 0) + ed (((K (c.ah aU)).2.ah bG).b7.ah bH)<=_;omega
 rename_i e5;rw [af e5] at h0;split
 ·rename_i e6;rw [zIfP e6] at h0;have h0:((K (c.ah aU)).2.ah bH).f.1=0:=h0;have h3:=dm (hK.ok o1 d1) h0;have f1:=bI h0;have h4:=hK.wt _ o1 d1 f1;have h5:=dm h (hK.fine o1 d1 f1);show 320 + (dP.wt + (K (c.ah aU)).1.wt + 0) + ed ((K (c.ah aU)).2.ah bH)<=_;omega
 rename_i e6;rw [af e6] at h0;split
 ·rename_i e7;rw [zIfP e7] at h0;have h1:=Ea hK h hd h0;show 320 + (mkPts (dH K false c).1).wt + ed (dH K false c).2<=_;omega
 rename_i e7;rw [af e7] at h0;split
 ·rename_i e8;rw [zIfP e8] at h0;have h1:=Ea hK h hd h0;show 320 + (mkPts (dH K true c).1).wt + ed (dH K true c).2<=_;omega
 rename_i e8;rw [af e8] at h0;split
 ·rename_i e9;rw [zIfP e9] at h0;have h0:((c.ah aU).al.ah bH).f.1=0:=h0;have h1:=dm o1.al h0;have h2:=jj o1 (bI h0);have h3:=dm h (D7 (bI h0));show 256 + 0 + (c.ah aU).bf.wt + 0 + ed ((c.ah aU).al.ah bH)<=_;omega
 ·show 320 + ed c<=_;omega
end
theorem aw.deep {c:au} (h:aw c) (hd:c.d < 24):aw c.deep:=qY h hd
theorem wO:∀ (n:Nat),n<=24->Ly (pKind n) (24 - n)
 | 0,_=>⟨⟨rKind 0,fun c q h hd=>kW 0 c q h hd (by omega)⟩,fun c h hd h0=>by
  rw [pKind] at h0
  exact absurd h0 (uJ (by decide))⟩
 | n + 1,hn=>⟨⟨rKind (n + 1),fun c q h hd=>kW (n + 1) c q h hd hn⟩,fun c h hd h0=>by
  have ih:=wO n (by omega);rw [pKind] at h0 ⊢;have o1:=h.deep (by omega);split
  ·rename_i ht;rw [zIfP ht] at h0;have o2:=o1.step
   have d2:c.deep.step.d=24 - n:=by
    rw [(aW.step _).d];show c.d + 1=_;omega
   have m1:=yN o1 (Sm.uI ht) (DW ht);unfold XE at m1;have m1:ed c.deep.step + (1024 + 2 * if c.deep.aO.k=1 then c.deep.aO.s.size else 0)=ed c:=m1;split
   ·rename_i hB;rw [zIfP hB] at h0;have hb:=Us ih (w:=c.deep.aO.s) (a:=c.aO.a) o2 d2 h0;show (fc (pKind n) c.deep.aO.s c.aO.a c.deep.step).2.1.wt + ed (fc (pKind n) c.deep.aO.s c.aO.a c.deep.step).2.2<=_;omega
   ·rename_i hB;rw [af hB] at h0;obtain ⟨K',hs⟩:=ih.sim;obtain ⟨e1,_⟩:=Bf (K':=K') hs (q:=([],(0,0))) (by simpa using hB:(fc (pKind n) c.deep.aO.s c.aO.a c.deep.step).1=false);rw [e1] at h0;exfalso;have h0:(c.deep.step.cM 9 c.deep.aO.a).f.1=0:=h0;unfold au.cM at h0
    grind
  ·rename_i ht;rw [af ht] at h0
   exact absurd h0 (ij (c:=c.deep))⟩
theorem VI:Ly (pKind 24) 0:=wO 24 (zLeR _)
theorem Eb:∀ (n:Nat) (l:List (Wd × Wd)) (w:Wd) (c:au),aw c->(pChain n l w c).2.f.1=0->prsWt (pChain n l w c).1 + ed (pChain n l w c).2<=prsWt l + w.wt + ed c
 | 0,l,w,c,h,h0=>by
  show prsWt l + ed c<=_;omega
 | n + 1,l,w,c,h,h0=>by
  rw [pChain] at h0 ⊢;split at h0
  ·rename_i hi;rw [zIfP hi];have ih:=Eb n _ _ _ h.al.step h0;have h1:=kb h.al (by decide) hi;have h2:=jj h (Sm.dA (by decide) hi);rw [Bj] at ih;simp only at ih;omega
  ·rename_i hi;rw [af hi];have h2:=jj h h0;show prsWt (l ++ [_]) + ed c.al<=_;rw [Bj];simp only;omega
theorem Qg (a b:List (Wd × Wd)):prsWt (a ++ b)=prsWt a + prsWt b:=by
 induction a with
 | nil=>simp [prsWt]
 | cons x r ih=>simp only [List.cons_append,prsWt,ih];omega
theorem Lz {c:au} (h:aw c) (h0:(cG c).2.f.1=0):prsWt (cG c).1 + ed (cG c).2<=ed c:=by
 have h1:=Eb bigN [] c.bf _ (h.al.ah eu) h0;have hs:=sK bigN [] [] c.bf _ _ (Sm.self (h.al.ah eu))
 have f1:(c.al.ah eu).f.1=0:=Classical.byContradiction fun hb=>by
  have h0:(pChain bigN [] c.bf (c.al.ah eu)).2.f.1=0:=h0;rw [hs.2.2.1 hb] at h0;exact hb h0
 have h2:=dm h.al f1;have h3:=jj h (bI f1);simp only [prsWt] at h1;unfold cG;omega
theorem uL {c:au} {l:List (Wd × Wd)} (h:aw c):aw (yn c l).1/\aW c (yn c l).1:=by
 have hs:=@xQ l c _ (Sm.self h);exact ⟨hs.sm.ok,hs.st⟩
theorem Qh {c:au} (h:aw c) (h0:(ji c).2.f.1=0):prsWt (ji c).1 + ed (ji c).2<=ed c:=by
 unfold ji at h0 ⊢;split at h0
 ·rename_i hi;rw [zIfP hi];have:=kb h (by decide) hi;show 0 + ed c.step<=_;omega
 ·rename_i hi;rw [af hi]
  have h1:=yO (f:=yn) (W:=prsWt) (D:=c.d) (fun c a h _=>uL h) (fun c a h _ h0=>by
   have:=Lz h h0;show prsWt (a ++ (cG c).1) + ed (cG c).2<=_;rw [Qg]
   omega) aS bigN c [] h rfl h0
  simp only [prsWt,Nat.zero_add] at h1;exact h1
theorem Ec:∀ (n:Nat) (l:List (Wd × Ty)) (c:au),aw c->c.d=0->(pTypes n l c).2.f.1=0->nmsWt (pTypes n l c).1 + ed (pTypes n l c).2<=nmsWt l + ed c
 | 0,l,c,h,_,h0=>zLeR _
 | n + 1,l,c,h,hd,h0=>by
  rw [pTypes] at h0 ⊢;split at h0
  ·rename_i hi;rw [zIfP hi];have o1:=h.step.al.ah j1;have d1:(c.step.al.ah j1).d=0:=by rw [(aW.ah _ _).d,(aW.al _).d,(aW.step _).d,hd]
   have o2:=VI.ok o1 d1;have d2:(pKind 24 (c.step.al.ah j1)).2.d=0:=by rw [(VI.st o1 d1).d,d1]
   have ih:=Ec n _ _ o2 d2 h0;have f2:=(oN n (l ++ [(c.step.bf,(pKind 24 (c.step.al.ah j1)).1)]) _ _ (Sm.self o2) d2).fine h0;have h1:=VI.wt _ o1 d1 f2;have f1:=VI.fine o1 d1 f2;have h2:=dm h.step.al f1;have h3:=jj h.step (bI f1);have h4:=kb h (by decide) hi;rw [Lt] at ih;simp only at ih;omega
  all_goals grind
theorem LA {c:au} (h:aw c) (hd:c.d=0) (h0:(dQ c).2.f.1=0):(dQ c).1.wt<=ed c:=by
 have s1:=Bh (Sm.self h);have o1:=s1.sm.ok;have s2:=IQ (Sm.self o1);have o2:=s2.sm.ok;have d2:(kH (iB c).2).2.d=0:=by rw [s2.st.d,s1.st.d,hd]
 have s3:Sx _ (uH (kH (iB c).2).2) _:=oN bigN [] _ _ (Sm.self o2) d2;have o3:=s3.sm.ok;have d3:(uH (kH (iB c).2).2).2.d=0:=by rw [s3.st.d,d2]
 have h0:(pKind 24 ((uH (kH (iB c).2).2).2.kw cm)).2.f.1=0:=h0;have o4:=o3.kw cm;have d4:((uH (kH (iB c).2).2).2.kw cm).d=0:=by rw [(aW.kw _ _).d,d3]
 have w4:=VI.wt _ o4 d4 h0;have f4:=VI.fine o4 d4 h0;have m4:=ZO o3 f4;have f3:=yM f4;have w3:nmsWt (uH (kH (iB c).2).2).1 + ed (uH (kH (iB c).2).2).2<=nmsWt [] + ed (kH (iB c).2).2:=Ec bigN [] _ o2 d2 f3;have f2:=s3.fine f3;have f1:=s2.fine f2
 have w2:prsWt (kH (iB c).2).1 + ed (kH (iB c).2).2<=ed (iB c).2:=by
  have f2:=f2;unfold kH at f2 ⊢;split at f2
  ·rename_i hi;rw [zIfP hi];have h1:=Qh (o1.step.ah bE) f2;have hf:=(sL (Sm.self (o1.step.ah bE))).fine f2;have h2:=dm o1.step hf;have h3:=kb o1 (by decide) hi;omega
  ·rename_i hi;rw [af hi];show 0 + ed (iB c).2<=ed (iB c).2;omega
 have w1:wdsWt (iB c).1 + ed (iB c).2<=ed c:=by
  have f1:(listF ia aS bigN ((c.kw bL).ah bE) []).1.f.1=0:=f1;have h1:=IU ((h.kw bL).ah bE) f1
  have f0:((c.kw bL).ah bE).f.1=0:=Classical.byContradiction fun hb=>by
   rw [q6 hb] at f1;exact hb f1
  have h2:=dm (h.kw bL) f0;have h3:=ZO h (bI f0);simp only [wdsWt,Nat.zero_add] at h1;show wdsWt (listF ia aS bigN ((c.kw bL).ah bE) []).2 + ed (listF ia aS bigN ((c.kw bL).ah bE) []).1<=_;omega
 have e3:nmsWt []=0:=rfl;show wdsWt (iB c).1 + prsWt (kH (iB c).2).1 + nmsWt (uH (kH (iB c).2).2).1 + (pKind 24 ((uH (kH (iB c).2).2).2.kw cm)).1.wt<=_;omega
end Go.Proofs.YtfdedoiiahbnnaaGreat
namespace Go.Proofs.YtfdedoiiahbnnaaGreat
namespace Dv
open Go Go.RowKit
inductive pg
 | fin
 | op (i:Nat) (t:pg)
 | ev (i:Nat) (t alt:pg)
 | stop
section
variable {P:Program} {ops:Array Oper} {C:World->Prop} {Q:Act->World->Prop} {W:Nat->Bool}
def rdy (ops:Array Oper) (rem:List Nat) (i:Nat):Bool:=
 match ops[i]? with
 | some o=>o.after.toList.all fun e=>!Region.binds .any e || !rem.contains e.on
 | none=>false
def XG (ops:Array Oper) (i:Nat):Bool:=match ops[i]? with | some o=>isE o.op | none=>false
def chkA (ops:Array Oper):pg->List Nat->Option (List Nat)->Bool
 | .fin,rem,m=>m.isNone && rem.isEmpty
 | .op i t,rem,m=>m.isNone && (rem.contains i && (!XG ops i && (rdy ops rem i && chkA ops t (rem.erase i) none)))
 | .ev i t alt,rem,m=>rem.contains i && (XG ops i && (rdy ops rem i && (chkA ops t (rem.erase i) none && chkA ops alt rem (some (i :: m.getD [])))))
 | .stop,rem,m=>match m with
  | some seen=>rem.all fun j=>!rdy ops rem j || seen.contains j
  | none=>false
def Cl (ops:Array Oper) (rem:List Nat):Prop:=∀ (k:Nat) o,ops[k]? = some o->k ∉ rem->∀ e∈o.after,Region.binds .any e=true->e.on ∉ rem
theorem nP {rem:List Nat} {i:Nat} (h:rdy ops rem i=true):∃ o,ops[i]? = some o/\∀ e∈o.after,Region.binds .any e=true->e.on ∉ rem:=by grind [rdy]
theorem q7 {rem:List Nat} {i j:Nat} (h:rdy ops rem i=true):rdy ops (rem.erase j) i=true:=by grind [nP,rdy]
theorem Bl {rem:List Nat} (hn:rem.Nodup) (hc:Cl ops rem) {i:Nat} (h:rdy ops rem i=true):Cl ops (rem.erase i):=by
 intro k o ho hk e he hb hm;have nY:=List.mem_of_mem_erase hm;by_cases xl:k=i
 ·grind [nP]
 ·exact hc k o ho (fun hkm=>hk ((List.mem_erase_of_ne xl).2 hkm)) e he hb nY
theorem Ut {rem:List Nat} (hc:Cl ops rem):∀ (n:Nat) (j k:Nat) o,ops[k]? = some o->(∀ e∈o.after,Region.binds .any e=true->e.on ∉ rem)->ordB ops n j k=true->j ∉ rem
 | 0,j,k,o,_,_,h=>by simp [ordB] at h
 | n + 1,j,k,o,ho,fW,h=>by
  simp only [ordB,ho,List.any_eq_true,bh,Bool.or_eq_true] at h;obtain ⟨e,he,hb,hj⟩:=h;have V9:e∈o.after:=sU he;have h1:=fW e V9 hb;rcases hj with hj | hj
  ·have:e.on=j:=sU hj;rw [<- this];exact h1
  ·cases hoe:ops[e.on]? with
   | none=>
    cases n with
    | zero=>simp [ordB] at hj
    | succ n=>simp [ordB,hoe] at hj
   | some o'=>exact Ut hc n j e.on o' hoe (hc e.on o' hoe h1) hj
theorem Uu {i:Nat} {o:Oper} (h:ops[i]? = some o):XG ops i=isE o.op:=by unfold XG;rw [h]
end
def ag7 (ops:Array Oper):Bool:=Region.noSelect ops && (List.range ops.size).all fun i=>match ops[i]? with | some o=>o.after.toList.all fun e=>!Region.binds .any e || Nat.blt e.on ops.size | none=>true
section
variable {X:Ctx} {D:Dw}
end
end Dv
end Go.Proofs.YtfdedoiiahbnnaaGreat
namespace Go.Proofs.YtfdedoiiahbnnaaGreat
namespace Dv
open Go Go.RowKit
section
variable {X:Ctx} {st:St} {k:List It} {o:Oper}
theorem Uv:∀ l:List Value,(vL l).length=l.length
 | []=>rfl
 | v :: r=>by simp [vL,Uv r]
theorem Uw {E:En}:∀ l:List Value,(∀ v∈l,v.oneCell'=true)->RvL E (vL l) l
 | [],_=>cW E
 | v :: r,h=>rvL_cons (gl (h v (by simp))) (Uw r fun x hx=>h x (iS _ hx))
theorem Ux {t d et e kL n:Nat} {bb:Bool} {z:List Value} (zs:List Value) (hop:o.op = .buildSlice t 1 #[(0,.const (.agg zs.toArray))]) (lr:o.dst=some d) (hT:X.T.find t=some ⟨n,bb,.sl et e kL,z⟩) (hz1:zs.all (fun v=>v.oneCell')=true)
  (hc:(Nat.beq zs.length e && (Nat.blt 0 e && Nat.ble e 16777216))=true) (hd:fU X.nt st.sl (some d)=true) (hst:X.still=false:=by exact rfl) (hX:X.bt=[]:=by exact rfl)
  : OpS X o st ⟨(d,⟨[],.sl e [vL zs] (some st.tk.length)⟩) :: st.sl,st.bx,st.tk ++ [⟨1,et,e,none⟩]⟩:=by
 simp only [bh,Nat.beq_eq,Nat.ble_eq,Nat.blt_eq] at hc;obtain ⟨hzl,G2,hsm⟩:=hc;obtain ⟨hu,ii,zv,zd,hz,cK,BL,OC⟩:=fV X.hT hT;have hz1:∀ v∈zs,v.oneCell'=true:=fun v hv=>List.all_eq_true.1 hz1 v hv;have hvL:(vL zs).length=zs.length:=Uv zs;obtain ⟨len,DA⟩:∃ len,len=1:=⟨1,rfl⟩;obtain ⟨es,Uy⟩:∃ es,es=[vL zs]:=⟨_,rfl⟩;obtain ⟨vs,XH⟩:∃ vs,vs=[Value.agg zs.toArray]:=⟨_,rfl⟩;rw [<- DA,<- Uy];rw [<- DA] at hop;have lk:0 < len:=by omega
 have hlen:es.length=len:=by rw [Uy,DA];all_goals rfl
 have zf:vs.length=es.length:=by rw [XH,Uy];all_goals rfl
 have fX:∀ v∈vs,v.cells.toList.length=e:=by
  rw [XH];intro v hv;simp only [List.mem_singleton] at hv;subst hv;simpa [Value.cells] using hzl
 have VJ:cellsL vs=zs:=by rw [XH];simp [cellsL,Value.cells]
 intro E a w h
 have hrc:RvC E.cl es.flatten (cellsL vs):=by
  rw [Uy,VJ];refine ⟨?_,hz1⟩;simp only [List.flatten_cons,List.flatten_nil,List.append_nil];exact Uw zs hz1
 have Gz:∀ cs∈es,cs.length=e:=by
  rw [Uy];intro cs cx;simp only [List.mem_singleton] at cx;subst cx;rw [hvL];exact hzl
 have hsm:len * e<=16777216:=by rw [DA];omega
 subst cK
 have OG:len * ii.size≠0:=by
  have:=Nat.mul_pos lk G2;omega
 have mV:Instr.fill (fun i=>some (i * ii.size,ii.size)) ((Array.range (len * ii.size)).map (zv.cells[·% zv.cells.size]!)) ((#[(0,Operand.const (Value.agg zs.toArray))]:Array (Nat × Operand)).map fun (i,x)=>(i,a.eval x)).toList=some (cellsL vs).toArray:=by
  have h0:=tf ii.size vs 0 ((Array.range (len * ii.size)).map (zv.cells[·% zv.cells.size]!)).toList fX (by simp [zf,hlen])
  have h1:((#[(0,Operand.const (Value.agg zs.toArray))]:Array (Nat × Operand)).map fun (i,x)=>(i,a.eval x)).toList=enumF 0 vs:=by
   rw [XH];simp only [List.map_toArray,List.map_cons,List.map_nil];rfl
  rw [h1];simp only [Array.toArray_toList] at h0;rw [h0];simp [zf,hlen]
 have bV:(execOp a.eval o).run X.P w = .ok (.value (.slice (some ⟨w.heap.size,0,none⟩) len len)) (w.alloc (.cells (cellsL vs).toArray et)):=by
  simp only [execOp,hop,Sem.run_bind,run_buildSlice w t et len _ _ ii zv hu zd hz (by omega) OG mV,Result.andThen_ok,Sem.run_pure]
 refine eV bV ?_;rw [lr];have hr:=vo (arr:=cellsL vs) h hst et
 have Ih:(cellsL vs).length=len * ii.size:=by
  have:∀ l:List Value,(∀ v∈l,v.cells.toList.length=ii.size)->(cellsL l).length=l.length * ii.size:=by
   intro l
   induction l with
   | nil=>intro _;simp [cellsL]
   | cons v l ih=>grind [cellsL]
  rw [this vs fX,zf,hlen]
 have ki:=NG (n:=len) (ty:=et) (e:=ii.size) (cap:=len) hr hst hX (g:=w.heap.size) (cur:=(cellsL vs).toArray) (iF w _) (by simp [Ih]) (zLeR _) (by
   have:len<=len * ii.size:=Nat.le_mul_of_pos_right _ G2;unfold maxLen;omega) (fun hm=>by have:=h.env.bw hm;omega) (fun x v hx JH=>by
   have hx:fJ E.c (w.alloc (.cells (cellsL vs).toArray et)) w.heap.size (cellsL vs).length x=some v:=hx;unfold fJ at hx;split at hx
   ·rename_i hc;rw [<- Ih];exact hc.2.2
   ·have:=World.block_lt_of_cell? w x (h.env.sub x v hx);omega) (fun j y hy hg=>by
   have:=(h.env.own (mG hy) hg).1
   omega) (h.fr.size)
 have ag8:Ext E ⟨fJ E.c (w.alloc (.cells (cellsL vs).toArray et)) w.heap.size (cellsL vs).length,E.β,E.tk ++ [⟨len,et,ii.size,none⟩],E.τ ++ [.slice (some ⟨w.heap.size,0,none⟩) len len]⟩:=⟨fun x v hx=>by
  have az:=World.block_lt_of_cell? w x (h.env.sub x v hx);show fJ _ _ _ _ _=_;unfold fJ;rw [af (by omega)];exact hx,fun _ _ h=>h,fun k q' hk=>by
  have az:=(gS hk).1;refine ⟨q',by show (E.tk ++ _)[k]? = _;rw [eT az];exact hk,.inl ⟨rfl,?_⟩⟩;show (E.τ ++ _)[k]? = _
  rw [eT (by rw [h.env.tl];exact az)]⟩
 refine ⟨_,bu ki hd (.sl ii.size es (some st.tk.length)) _ ?_,ag8,⟨[],by simp⟩,fun i b hb _=>alloc_old w _ (h.env.bw (mG hb))⟩;unfold Rv;refine ⟨_,_,_,rfl,⟨hlen.symm,zLeR _⟩,fun bF=>⟨rfl,?_⟩,fun k' iH=>?_⟩
 ·have fO:∀ x v,E.c x=some v->fJ E.c (w.alloc (.cells (cellsL vs).toArray et)) w.heap.size (cellsL vs).length x=some v:=fun x v hx=>by
   have az:=World.block_lt_of_cell? w x (h.env.sub x v hx);unfold fJ;rw [af (by omega)];exact hx
  have hm:RvC (En.cl ⟨fJ E.c (w.alloc (.cells (cellsL vs).toArray et)) w.heap.size (cellsL vs).length,E.β,E.tk,E.τ⟩) es.flatten (cellsL vs):=hrc.mono (Ext.VS (E:=E) fO);refine rvEs_flat hm Gz fun j u hj=>?_;show fJ _ _ _ _ _=_;have ku:=(gS hj).1;simp only [ab,ao,Nat.zero_add];rw [yy ku,cO (iF w _)];simpa using hj
 ·cases iH;refine ⟨⟨len,et,ii.size,none⟩,?_,zLeR _,fun _=>?_⟩
  ·show (E.tk ++ _)[st.tk.length]? = _;rw [h.tk];simp
  ·show (E.τ ++ _)[st.tk.length]? = _;rw [<- h.tk,<- h.env.tl];simp
end
section
variable {X:Ctx}
end
end Dv
end Go.Proofs.YtfdedoiiahbnnaaGreat
namespace Go.Proofs.YtfdedoiiahbnnaaGreat
namespace Dv
open Go Go.RowKit
mutual
def sbD (n:Nat):DV->DV
 | .agg l=>.agg (sbL n l)
 | .bo l=>.bo (sbL n l)
 | .loc i o=>.loc (n + i) o
 | .el i o=>.el (n + i) o
 | .ms i e o l c=>.ms (n + i) e o l c
 | .fn f a b=>.fn f (sbL n a) (sbL n b)
 | .rR t x=>.rR t (sbD n x)
 | .sl e es tk=>.sl e es (match tk with | some _=>none | none=>none)
 | .v x=>.v x
 | .ud=>.ud
 | .pt cs o=>.pt cs o
def sbL (n:Nat):List DV->List DV
 | []=>[]
 | d :: r=>sbD n d :: sbL n r
end
mutual
theorem wP {n:Nat} {E2 E:En} (hc:E.c=E2.c) (hβ:∀ (i:Nat) b,E2.β[i]? = some b->E.β[n + i]? = some b):∀ {d:DV} {v:Value},Rv E2 d v->Rv E (sbD n d) v
 | .v x,v,h=>by simpa only [Rv,sbD] using h
 | .ud,v,h=>by simpa only [Rv,sbD] using h
 | .agg l,v,h=>by
  simp only [Rv,sbD] at h ⊢;obtain ⟨vs,h1,h2,h3⟩:=h;exact ⟨vs,h1,nQ hc hβ h2,h3⟩
 | .bo l,v,h=>by
  simp only [Rv,sbD] at h ⊢;obtain ⟨vs,h1,h2⟩:=h;exact ⟨vs,h1,nQ hc hβ h2⟩
 | .sl e es tk,v,h=>by
  have he:E.cl=E2.cl:=by simp [En.cl,hc]
  simp only [Rv,sbD] at h ⊢;obtain ⟨b,m,cap,h1,h2,h3,h4⟩:=h;refine ⟨b,m,cap,h1,h2,fun hn=>⟨(h3 hn).1,by rw [he];exact (h3 hn).2⟩,?_⟩;intro k hk;cases tk<;>cases hk
 | .pt cs off,v,h=>by
  have he:E.cl=E2.cl:=by simp [En.cl,hc]
  simp only [Rv,sbD] at h ⊢;rw [he];exact h
 | .loc i off,v,h=>by
  simp only [Rv,sbD] at h ⊢;obtain ⟨b,h1,h2⟩:=h;exact ⟨b,hβ i b h1,h2⟩
 | .el i off,v,h=>by
  simp only [Rv,sbD] at h ⊢;obtain ⟨b,h1,h2⟩:=h;exact ⟨b,hβ i b h1,h2⟩
 | .ms i e off len cap,v,h=>by
  simp only [Rv,sbD] at h ⊢;obtain ⟨b,a,h1,h2⟩:=h;exact ⟨b,a,hβ i b h1,h2⟩
 | .fn f a b,v,h=>by
  simp only [Rv,sbD] at h ⊢;obtain ⟨l,r,h1,h2,h3⟩:=h;exact ⟨l,r,h1,nQ hc hβ h2,nQ hc hβ h3⟩
 | .rR t x,v,h=>by
  simp only [Rv,sbD] at h ⊢;obtain ⟨z,h1,h2⟩:=h;exact ⟨z,h1,wP hc hβ h2⟩
theorem nQ {n:Nat} {E2 E:En} (hc:E.c=E2.c) (hβ:∀ (i:Nat) b,E2.β[i]? = some b->E.β[n + i]? = some b):∀ {l:List DV} {vs:List Value},RvL E2 l vs->RvL E (sbL n l) vs
 | [],vs,h=>by simpa only [RvL,sbL] using h
 | d :: r,vs,h=>by
  simp only [RvL,sbL] at h ⊢;obtain ⟨v,s,h1,h2,h3⟩:=h;exact ⟨v,s,h1,wP hc hβ h2,nQ hc hβ h3⟩
end
def EvN (P:Program) (f:FuncId) (args:List DV) (Φ:DV->List (List DV)->Prop):Prop:=
 ∀ (E:En) (w:World) (vs:List Value),Env E [] w->E.tk=[]->RvL E args vs->Calls P f vs.toArray w fun e w'=>∃ v,e = .returned v/\tg E.S w w' /\
  ∃ d os E',Env E' os w' /\ E'.tk=[]/\Nw E E' w/\(∀ cs∈os,clB.clL 0 0 cs=true)/\Rv E' d v/\Φ d os
section
variable {X:Ctx} {st:St} {k:List It} {E:En} {a:Act} {w:World}
theorem LB (h:Rel X E st a w) (hst:X.still=false) {E2:En} {os:List (List DV)} {w':World} (hm:tg (E.cl).S w w') (he:Env E2 os w') (hn:Nw E.cl E2 w) (fX:∀ cs∈os,clB.clL 0 0 cs=true) (hbt:X.bt=[]) :
  Rel X ⟨E2.c,E.β ++ E2.β,E.tk,E.τ⟩ ⟨st.sl,st.bx ++ os,st.tk⟩ a w' /\ Ext E ⟨E2.c,E.β ++ E2.β,E.tk,E.τ⟩:=by
 have hh:∀ i,i < w.heap.size->w'.heap[i]? = w.heap[i]?:=fun i hi=>hm.block i hi (by
  rintro (h1 | ⟨y,h1,_⟩)
  ·simp [En.cl] at h1
  ·simp [En.cl] at h1)
 have dO:∀ x v,E2.c x=some v->E.c x=some v∨w.heap.size<=x.block:=fun x v hx=>by
  rcases hn.cn x v hx with h1 | h1 | ⟨y,h1,_⟩
  ·exact .inl h1
  ·exact .inr h1
  ·simp [En.cl] at h1
 have iI:∀ b∈E2.β,w.heap.size<=b:=by
  obtain ⟨r,hr,ki⟩:=hn.β;simp only [En.cl,List.nil_append] at hr;rw [hr];exact ki
 have hx:Ext E ⟨E2.c,E.β ++ E2.β,E.tk,E.τ⟩:=⟨hn.c,fun i b hb=>by
  show (E.β ++ E2.β)[i]? = _;rw [eT (gS hb).1]
  exact hb,fun _ q h=>⟨q,h,.inl ⟨rfl,rfl⟩⟩⟩
 have hk:=h.env.iU hh;refine ⟨dF h hx ?_ h.tk ?_ (h.fr.cy hm.os hm.tape hm.output hm.size fun i hi=>.inr (hh i hi)) (pj hst) (.nil hbt),hx⟩
 ·exact {
   len:=by
    show (E.β ++ E2.β).length=(st.bx ++ os).length;rw [List.length_append,List.length_append,h.env.len,he.len]
   tl:=h.env.tl
   eQ:=fun i cs hi=>by
    rw [List.getElem?_append] at hi;split at hi
    ·obtain ⟨b,ty,arr,hb,hw,hc⟩:=hk.eQ i cs hi;exact ⟨b,ty,arr,hx.β i b hb,hw,hc.mono hx⟩
    ·rename_i hge;obtain ⟨b,ty,arr,hb,hw,hc⟩:=he.eQ _ cs hi;refine ⟨b,ty,arr,?_,hw,⟨RvL.mono (E:=E2.cut 0 0) ⟨fun _ _ h=>h,fun i b hb=>by simp [En.cut] at hb,fun k q hq=>by simp [En.cut] at hq⟩ (RvL.cut hc.1 (fX cs (mG hi))),hc.2⟩⟩;show (E.β ++ E2.β)[i]? = _;rw [List.getElem?_append_right (by rw [h.env.len];omega),h.env.len];exact hb
   inj:=by
    show (E.β ++ E2.β).Nodup;rw [List.nodup_append];refine ⟨h.env.inj,he.inj,fun x hx1 y BU ML=>?_⟩;have:=h.env.bw hx1;have:=iI y BU;omega
   sub:=he.sub
   pc:=fun x v hc nY=>by
    rcases List.mem_append.1 nY with nY | nY
    ·rcases dO x v hc with h1 | h1
     ·exact h.env.pc x v h1 nY
     ·have:=h.env.bw nY;omega
    ·exact he.pc x v hc nY
   dh:=fun k q y hq hy=>by
    rcases hk.dh k q y hq hy with h1 | ⟨g',cap,cur,rfl,h1,h2,h3,h4,h5,h6⟩
    ·exact .inl h1
    ·have hg:=(jH (h.env.dh k q _ hq hy) (g:=g') rfl).1;refine .inr ⟨g',cap,cur,rfl,h1,⟨h2.1,h2.2.mono hn.c⟩,h3,h4,fun nY=>?_,fun x v hc za=>?_⟩
     ·rcases List.mem_append.1 nY with nY | nY
      ·exact h5 nY
      ·have:=iI g' nY;omega
     ·rcases dO x v hc with h7 | h7
      ·exact h6 x v h7 za
      ·omega
   jY:=h.env.jY }
 ·exact {
   c:=fun x v hc=>hn.c x v (h.nw.c x v hc)
   cn:=fun x v hc=>by
    rcases dO x v hc with h1 | h1
    ·exact h.nw.cn x v h1
    ·have:=h.fr.size;exact .inr (.inl (by omega))
   β:=by
    obtain ⟨r,hr,ki⟩:=h.nw.β;refine ⟨r ++ E2.β,by show E.β ++ E2.β=_;rw [hr,List.append_assoc],fun b hb=>?_⟩;rcases List.mem_append.1 hb with hb | hb
    ·exact ki b hb
    ·exact Nat.le_trans h.fr.size (iI b hb)
   tk:=h.nw.tk
   tn:=h.nw.tn
   l0:=h.nw.l0 }
theorem ab4 {f:FuncId} {args bO:List DV} {d:Nat} (gY:Enters X.P f) (hd:fU X.nt st.sl (some d)=true) {Φ:DV->List (List DV)->Prop} (hc:EvN X.P f bO Φ) (ha:CcL [] 0 0 0 bO args)
  (hk:∀ r os,Φ r os->go X 4000 k ⟨(d,⟨[],sbD st.bx.length r⟩) :: st.sl,st.bx ++ os,st.tk⟩) (hbt:X.bt=[]:=by exact rfl) (hst:X.still=false:=by exact rfl):CallG X f args (some d) k st:=by
 refine ⟨gY,hst,fun E a w vs h hv=>?_⟩;have Z8:RvL E.cl bO vs:=CcL.sound (E:=E) (E':=E.cl) ⟨fun _ _ h=>h,fun i cs _ hi=>by simp at hi⟩ (MF.zero _ _) ha hv;refine (hc E.cl w vs (J8 h.env) rfl Z8).mono ?_;rintro e w' ⟨v,rfl,hm,r,os,E2,he,_,hn,fX,hr,hΦ⟩;obtain ⟨cg,hx⟩:=LB h hst hm he hn fX hbt;refine go_sound 4000 _ _ (hk r os hΦ) _ _ w' (bu cg hd _ v (wP (E2:=E2) (E:=⟨E2.c,E.β ++ E2.β,E.tk,E.τ⟩) (n:=st.bx.length) rfl (fun i b hb=>?_) hr));show (E.β ++ E2.β)[_]? = _;rw [List.getElem?_append_right (by rw [h.env.len];omega),h.env.len];simpa using hb
theorem Qi {c:Code} {Q:Exit->Act->World->Prop} (J:St->Prop) (n:Nat) (h:Rel X E st a w) (hg:go X n [.code c,.Gw J] st) (hΦ:∀ d os tk,¬ X.Φ d os tk) (hp:∀ st' E' a' w',Rel X E' st' a' w' -> J st' -> Q .normal a' w'):c.wp X.P Q a w:=by
 refine wp_mono (go_sound n _ _ hg E a w h) ?_;intro e a w hk
 cases e with
 | normal=>obtain ⟨st',E',h1,h2⟩:=hk;exact hp _ _ _ _ h1 h2
 | ret=>obtain ⟨_,v,_,⟨_,_,d,os,E2,_,_,_,_,_,h⟩,_⟩:=hk;exact (hΦ _ _ _ h).elim
 | exit _=>exact hk.elim
 | goto _=>exact hk.elim
 | panic _=>exact hk.elim
 | outgrown=>exact hk.elim
theorem XI (h:Rel X E st a w) {d e:DV} (hr:resD X.T st X.rs=some [d,e]) {post:Ending->World->Prop} (hp:∀ v,Rv E (.bo [d,e]) v->post (.returned v) w):bodyPost X.P X.fn post .ret a w:=by
 have s6:X.fn.results=X.rs.toArray:=by rw [<- X.ti]
 obtain ⟨vs,vu,h1⟩:=lm h hr;have hl:=vu.length;have bF:¬ vs.toArray.size=1:=by simp at hl ⊢;omega
 have h2:(results X.fn a.tmps).run X.P w = .ok (if h:vs.toArray.size=1 then vs.toArray[0] else .tuple vs.toArray) w:=by
  rw [zl,s6]
  simp_all
 rw [dif_neg bF] at h2;exact ⟨h.df,_,h2,hp _ (by unfold Rv;exact ⟨vs,rfl,vu⟩)⟩
theorem Uz {bx:List (List DV)} (h:Env E bx w) {i b:Nat} {cs:List DV} (hi:bx[i]? = some cs) (hb:E.β[i]? = some b) (fX:clB.clL 0 0 cs=true):Env ⟨E.c,[b],[],[]⟩ [cs] w where
 len:=rfl
 tl:=rfl
 eQ:=fun j cs' hj=>by
  cases j with
  | succ j=>simp at hj
  | zero=>
   simp only [List.getElem?_cons_zero,oI] at hj;subst hj;obtain ⟨b',ty,arr,fj,hw,hc⟩:=h.eQ i cs hi;rw [hb] at fj;cases fj;exact ⟨b,ty,arr,rfl,hw,⟨RvL.mono (E:=E.cut 0 0) ⟨fun _ _ h=>h,fun i b hb=>by simp [En.cut] at hb,fun k q hq=>by simp [En.cut] at hq⟩ (RvL.cut hc.1 fX),hc.2⟩⟩
 inj:=by simp
 sub:=h.sub
 pc:=fun x v hc hm=>by
  simp only [List.mem_singleton] at hm;exact h.pc x v hc (hm ▸ mG hb)
 dh:=fun k q y hq=>by simp at hq
 jY:=fun k k' y y' g _ hy=>by simp at hy
end
end Dv
end Go.Proofs.YtfdedoiiahbnnaaGreat
set_option maxRecDepth 100000
namespace Go.Proofs.YtfdedoiiahbnnaaGreat
open Go Go.RowKit Go.Lib Dv Go.Proofs.Tryz
abbrev jX (l:List gZ):au:=⟨l,0,0,0,0⟩
set_option maxHeartbeats 4000000 in
theorem ab5 (s:ByteArray) (l:List gZ) (nc:aR prog 157 [.v (.string s)] (.bo [.sl 5 (er l) none,Ft.d (0,0)])) :
  EvN prog 85 [.v (.string s)] (fun r os=>r = .bo [.loc 0 0,Ft.d (0,0)]/\os=[aH (jX l)]):=by
 intro E w vs hE jt hv;simp only [RvL] at hv;obtain ⟨v1,s1,rfl,h1,rfl⟩:=hv;have h1:=bN h1;subst h1;have hE0:=J8 hE;obtain ⟨c,β,tk,τ⟩:=E;change Env ⟨c,[],[],[]⟩ [] w at hE0;have mixed:=mo;obtain ⟨w1,s7⟩:∃ w1,w1=w.alloc (.cells #[.int .i64 0,.int .i64 0] 26 (0,0)):=⟨_,rfl⟩;have lX:∀ k,k < w.heap.size->w1.heap[k]? = w.heap[k]?:=fun k hk=>by rw [s7];exact Below.heap_alloc _ _ _ hk
 have mb:w1.heap[w.heap.size]? = some (.cells #[.int .i64 0,.int .i64 0] 26 (0,0)):=by rw [s7];exact Array.getElem?_push_size
 have hE1:=hE0.iU lX;have RD:=nc _ w1 [.string s] hE1 rfl (by simp only [RvL];exact ⟨_,_,rfl,gl rfl,rfl⟩)
 go_enter func85,ntmps85
 go_wp2_with (go_at_call 157;rw [<- s7];refine RD.mono ?_)
 have HW1:=Lib.hid s7;clear s7;intro e w2 v2 he ly;subst he;rw [<- HW1.out] at ly;obtain ⟨GX,_,d2,os2,E2,hE2,hβ2,ht2,EO,JY,rfl⟩:=ly;unfold Rv at JY;obtain ⟨vs,rfl,vu⟩:=JY;simp only [RvL] at vu;obtain ⟨x1,r1,rfl,hx1,x2,r2,rfl,GC,rfl⟩:=vu;unfold Ft.d Rv at GC;obtain ⟨vs2,rfl,wg,_⟩:=GC;simp only [RvL] at wg;obtain ⟨y1,r3,rfl,BU,y2,r4,rfl,og,rfl⟩:=wg;obtain rfl:=bN BU;obtain rfl:=bN og;have ag9:=hx1;unfold Rv at hx1;obtain ⟨bs,n,cap,rfl,⟨ir,_⟩,_,_⟩:=hx1;obtain rfl:n=(er l).length:=ir;generalize (er l).length=n at ag9
 go_wp2
 obtain ⟨w3,BV⟩:∃ w3,w3=w2.alloc (.cells #[.int .i64 0,.int .i64 0] 26 (0,0)):=⟨_,rfl⟩;have hz1:w1.heap.size=w.heap.size + 1:=by rw [HW1.out];simp
 have hz2:w1.heap.size<=w2.heap.size:=GX.size;have hz3:w3.heap.size=w2.heap.size + 1:=by rw [BV];simp
 have hb5:w3.heap[w2.heap.size]? = some (.cells #[.int .i64 0,.int .i64 0] 26 (0,0)):=by rw [BV];exact Array.getElem?_push_size
 have MD:w3.heap[w.heap.size]? = some (.cells #[.int .i64 0,.int .i64 0] 26 (0,0)):=by
  rw [BV,Below.heap_alloc _ _ _ (by omega),GX.block _ (by omega) (by
   rintro (h1 | ⟨y,h1,_⟩)
   ·simp at h1
   ·simp at h1)]
  exact mb
 rw [<- BV];have HW3:=Lib.hid BV;clear BV;rename_i K hK
 have RB:∀ x v,E2.c x=some v->x.block < w.heap.size∨(w1.heap.size<=x.block/\x.block < w2.heap.size):=fun x v hx=>by
  rcases EO.cn x v hx with h1 | h1 | ⟨y,h1,_⟩
  ·exact .inl (World.block_lt_of_cell? w x (hE0.sub x v h1))
  ·exact .inr ⟨h1,World.block_lt_of_cell? w2 x (hE2.sub x v hx)⟩
  ·simp at h1
 have hk3:∀ k,k < w2.heap.size->w3.heap[k]? = w2.heap[k]?:=fun k hk=>by rw [HW3.out];exact Below.heap_alloc _ _ _ hk
 have hE3:Env ⟨E2.c,[w.heap.size,w2.heap.size],[],[]⟩ [JN,JN] w3:={
  len:=rfl
  tl:=rfl
  eQ:=fun i cs hi=>by
   match i,hi with
   | 0,hi=>
    cases hi;exact ⟨_,_,[.int .i64 0,.int .i64 0],rfl,MD,by simp only [RvL];exact ⟨_,_,rfl,⟨rfl,rfl⟩,_,_,rfl,⟨rfl,rfl⟩,rfl⟩,by intro v hv;simp at hv;subst hv;rfl⟩
   | 1,hi=>
    cases hi;exact ⟨_,_,[.int .i64 0,.int .i64 0],rfl,hb5,by simp only [RvL];exact ⟨_,_,rfl,⟨rfl,rfl⟩,_,_,rfl,⟨rfl,rfl⟩,rfl⟩,by intro v hv;simp at hv;subst hv;rfl⟩
   | i + 2,hi=>simp at hi
  inj:=by simp;omega
  sub:=(hE2.iU hk3).sub
  pc:=fun x v hx hm=>by
   simp only [List.mem_cons,List.not_mem_nil,or_false] at hm;have:=RB x v hx;omega
  dh:=fun k q y hq=>by simp at hq
  jY:=fun k k' y y' g _ hy=>by simp at hy }
 have ht3:E2.tk=[]:=List.eq_nil_of_length_eq_zero ht2;have hx4:Rv ⟨E2.c,[w.heap.size,w2.heap.size],[],[]⟩ (.sl 5 (er l) none) (.slice bs n cap):=ag9.mono (E:=E2) ⟨fun _ _ h=>h,fun i b hb=>by rw [hβ2] at hb;simp at hb,fun k q hq=>by rw [ht3] at hq;simp at hq⟩
 refine Qi (X:=⟨prog,tt,xq,Tryz.f85,19,[.tmp 2,.cell 3 26],rfl,w3,⟨E2.c,[w.heap.size,w2.heap.size],[],[]⟩,2,0,rfl,rfl,false,fun _ _ _=>False,[],[],false⟩)
  (E:=⟨E2.c,[w.heap.size,w2.heap.size],[],[]⟩) (st:=⟨[(2,⟨[],.v (.pointer none)⟩),aJ 3 0,bJ 4 5 (er l),aJ 5 1],[JN,JN],[]⟩)
  (fun st'=>resD tt st' [.tmp 2,.cell 3 26]=some [.loc 2 0,Ft.d (0,0)]/\st'.bx=[JN,JN,aH (jX l)]) 4000
  {env:=hE3
   tk:=rfl
   sz:=rfl
   tm:=by
    intro i x hx;simp only [dJ] at hx;split at hx
    ·rename_i e;cases hx;subst e;exact ⟨fun _=>⟨_,rfl,rfl,rfl⟩,fun hn=>(hn (bi _)).elim⟩
    split at hx
    ·rename_i e;cases hx;subst e;exact ⟨fun _=>⟨_,rfl,w.heap.size,rfl,rfl⟩,fun hn=>(hn (bi _)).elim⟩
    split at hx
    ·rename_i e;cases hx;subst e;exact ⟨fun _=>⟨_,rfl,hx4⟩,fun hn=>(hn (bi _)).elim⟩
    split at hx
    ·rename_i e;cases hx;subst e;exact ⟨fun _=>⟨_,rfl,w2.heap.size,rfl,rfl⟩,fun hn=>(hn (bi _)).elim⟩
    ·cases hx
   df:=rfl
   nw:=Nw.refl hE3
   fr:=⟨rfl,rfl,rfl,zLeR _,fun _ _ _=>rfl⟩
   sh:=fun h=>by cases h
   bt:=fun p hp=>by cases hp } ?_ (fun _ _ _ h=>h) ?_
 ·refine aE [0] (fun _=>false) mo (by decide +kernel) ?_;exact ⟨rfl,rfl⟩
 ·intro st' E' a' w' cg ⟨zm,lV⟩;have hβ':=cg.nw.β;obtain ⟨r,hr,ki⟩:=hβ';have hr:E'.β=[w.heap.size,w2.heap.size] ++ r:=hr;have hlen:=cg.env.len;rw [hr,lV] at hlen
  match r,hlen with
  | [b],_=>
   have hb:E'.β[2]? = some b:=by rw [hr];all_goals rfl
   have MG:w3.heap.size<=b:=ki b (by simp);have ahb:=Uz (i:=2) (cs:=aH (jX l)) cg.env (by rw [lV];rfl) hb rfl
   have hold:∀ k,k < w.heap.size->w'.heap[k]? = w.heap[k]?:=fun k hk=>by
    rw [cg.fr.block k (by show k < w3.heap.size;omega) (by
     rintro (h1 | ⟨y,h1,_⟩)
     ·simp only [List.mem_cons,List.not_mem_nil,or_false] at h1;omega
     ·simp at h1),hk3 k (by omega),GX.block k (by omega) (by
     rintro (h1 | ⟨y,h1,_⟩)
     ·simp at h1
     ·simp at h1),lX k hk]
   refine hK a' w' (wp_ret ?_);refine XI cg zm fun v hv=>?_;have h1:=cg.fr;have q1:w1.os=w.os/\w1.tape=w.tape/\w1.output=w.output:=by rw [HW1.out];exact ⟨rfl,rfl,rfl⟩
   have q3:w3.os=w2.os/\w3.tape=w2.tape/\w3.output=w2.output:=by rw [HW3.out];exact ⟨rfl,rfl,rfl⟩
   have hz4:w3.heap.size<=w'.heap.size:=h1.size;refine ⟨v,rfl,⟨?_,?_,?_,by omega,fun k hk _=>hold k hk⟩,_,_,_,ahb,rfl,?_,?_,?_,rfl,rfl⟩
   ·rw [show w'.os=w3.os from h1.os,q3.1,GX.os,q1.1]
   ·rw [show w'.tape=w3.tape from h1.tape,q3.2.1,GX.tape,q1.2.1]
   ·rw [show w'.output=w3.output from h1.output,q3.2.2,GX.output,q1.2.2]
   ·have eβ:β=[]:=List.eq_nil_of_length_eq_zero hE.len;have eτ:τ=[]:=List.eq_nil_of_length_eq_zero (by have:=hE.tl;rw [this,jt];rfl);have etk:tk=[]:=jt;subst eβ eτ etk
    exact {
     c:=fun x v hx=>cg.nw.c x v (EO.c x v hx)
     cn:=fun x v hx=>by
      rcases cg.nw.cn x v hx with h2 | h2 | ⟨y,h2,_⟩
      ·rcases EO.cn x v h2 with h3 | h3 | ⟨y,h3,_⟩
       ·exact .inl h3
       ·exact .inr (.inl (by omega))
       ·simp at h3
      ·exact .inr (.inl (by have:w3.heap.size<=x.block:=h2;omega))
      ·simp at h2
     β:=⟨[b],rfl,fun x hx=>by
      simp only [List.mem_singleton] at hx;subst hx
      omega⟩
     tk:=fun k q y hq=>by simp at hq
     tn:=fun k y g _ hy=>by simp at hy
     l0:=rfl }
   ·intro cs cx;simp only [List.mem_singleton] at cx;subst cx;rfl
   ·unfold Rv at hv ⊢;obtain ⟨vs,h2,h3⟩:=hv;refine ⟨vs,h2,?_⟩;simp only [RvL] at h3 ⊢;obtain ⟨a1,s1,rfl,h4,a2,s2,rfl,h5,rfl⟩:=h3;refine ⟨a1,_,rfl,?_,a2,_,rfl,?_,rfl⟩
    ·unfold Rv at h4 ⊢;obtain ⟨b',h6,h7⟩:=h4;rw [hb] at h6;cases h6;exact ⟨b,rfl,h7⟩
    ·exact Rv.mono (E:=E'.cut 0 0) ⟨fun _ _ h=>h,fun i b hb=>by simp [En.cut] at hb,fun k q hq=>by simp [En.cut] at hq⟩ (Rv.cut h5 rfl)
end Go.Proofs.YtfdedoiiahbnnaaGreat
set_option maxRecDepth 100000
namespace Go.Proofs
open Go.Shelf
def Tryz.lays217_ren:Go.Shelf.Ren:=⟨fun | 217=>353 | 266=>361 | n=>n,fun | 9=>9 | 3=>3 | 5=>5 | n=>n,fun | n=>n⟩
theorem Tryz.lays217:Go.Proofs.Lays.n217 prog Tryz.lays217_ren:={
 mixed:=by kernel_rfl
 f217:=func353.trans (congrArg some (by kernel_rfl))
 f266:=func361.trans (congrArg some (by kernel_rfl))
 t3:=Tryz.underlying3
 a3:=Tryz.isAgg3
 z3:=Tryz.sizeOf3
 v3:=Tryz.zeroValue3
 t5:=Tryz.underlying5
 a5:=Tryz.isAgg5
 z5:=Tryz.sizeOf5
 v5:=Tryz.zeroValue5
 t9:=Tryz.underlying9
 a9:=Tryz.isAgg9
 z9:=Tryz.sizeOf9
 v9:=Tryz.zeroValue9 }
end Go.Proofs
namespace Go.Proofs.YtfdedoiiahbnnaaGreat
open Go Go.RowKit Dv Go.Proofs.Tryz
theorem Qj (s:ByteArray) (c:Int):aR prog 353 [.v (.string s),.v (.int .u8 c)] (.v (.int .i64 (Lib.indexByte (tx s) c.toNat.toUInt8))):=by
 refine C9 fun E w vs hE hv=>?_;simp only [RvL] at hv;obtain ⟨v1,s1,rfl,h1,v2,s2,rfl,h2,rfl⟩:=hv;have h1:=bN h1;have h2:=bN h2;subst h1 h2;refine (Any.stringslite_IndexByte Tryz.lays217 s c w).mono ?_;rintro e w' ⟨rfl,rfl⟩;exact ⟨_,rfl,gl rfl,Below.refl _ _⟩
theorem IV (s:ByteArray) (c:Int):aR prog 333 [.v (.string s),.v (.int .u8 c)] (.v (.int .i64 (Lib.indexByte (tx s) c.toNat.toUInt8))):=by
 refine eG 8 [.tmp 4] func333 rfl ntmps333 rfl fun _ _ _ _=>?_;refine cP afo (Qj s c) ?_;exact (rfl:_=_)
def wQ (s p:ByteArray):Bool:=decide (p.size<=s.size) && decide (s.extract 0 p.size=p)
theorem LD (s p:ByteArray) (hs:s.size<=4611686018427387904):aR prog 352 [.v (.string s),.v (.string p)] (.v (.bool (wQ s p))):=by
 refine eG 18 [.tmp 4] func352 rfl ntmps352 rfl fun _ _ _ _=>?_;refine br ?_ ?_<;>intro g
 ·have g1:p.size<=s.size:=sU g;refine ⟨⟨by omega,by omega,by omega⟩,?_⟩;refine congrArg (fun z=>DV.v (Value.bool z)) ?_;unfold wQ;rw [decide_eq_true g1,Bool.true_and];rfl
 ·have g1:¬ p.size<=s.size:=sU g;refine congrArg (fun z=>DV.v (Value.bool z)) ?_;unfold wQ;rw [decide_eq_false g1,Bool.false_and]
theorem Qk (s p:ByteArray) (hs:s.size<=4611686018427387904):aR prog 332 [.v (.string s),.v (.string p)] (.v (.bool (wQ s p))):=by
 refine eG 8 [.tmp 4] func332 rfl ntmps332 rfl fun _ _ _ _=>?_;refine cP afn (LD s p hs) ?_;exact (rfl:_=_)
end Go.Proofs.YtfdedoiiahbnnaaGreat
set_option maxRecDepth 100000
namespace Go.Proofs.YtfdedoiiahbnnaaGreat
open Go Go.RowKit Dv Go.Proofs.Tryz
def jk (c:Nat):Bool:=decide (c=32) || decide (c=10) || decide (c=9) || decide (c=13)
theorem Bm (c:Nat):aR prog 242 [.v (.int .u8 c)] (.v (.bool (jk c))):=by
 refine eG 17 [.tmp 2] func242 rfl ntmps242 rfl fun _ _ _ _=>?_;refine congrArg (fun z=>DV.v (Value.bool z)) ?_;unfold jk;simp only [ak];have e1:decide ((c:Int)=32)=decide (c=32):=decide_eq_decide.2 (by omega);have e2:decide ((c:Int)=10)=decide (c=10):=decide_eq_decide.2 (by omega);have e3:decide ((c:Int)=9)=decide (c=9):=decide_eq_decide.2 (by omega);have e4:decide ((c:Int)=13)=decide (c=13):=decide_eq_decide.2 (by omega);rw [e1,e2,e3,e4]
def eP:ByteArray:=⟨#[123,125,91,93,40,41,44,58,61,60,62,64,43,35,126,42]⟩
def rm:ByteArray:=⟨#[46,46]⟩
def ey (s:ByteArray) (i:Nat):ByteArray:=if wQ (s.extract i s.size) rm=true then rm else if 0<=Lib.indexByte (tx eP) (aq s i).toUInt8 then s.extract i (i + 1) else ⟨#[]⟩
theorem sN (s:ByteArray) (hs:s.size<=1099511627776) (i:Nat) (hi:i < s.size):aR prog 290 [.v (.string s),.v (.int .i64 i)] (.v (.string (ey s i))):=by
 have hp:=Qk (s.extract i s.size) rm (by simp;omega);have hx:=IV eP (aq s i:Nat);have hM:ey s i=if wQ (s.extract i s.size) rm=true then rm else if 0<=Lib.indexByte (tx eP) (aq s i).toUInt8 then s.extract i (i + 1) else ⟨#[]⟩:=rfl
 rw [dV] at hx;generalize ey s i=M at hM ⊢;generalize wQ (s.extract i s.size) rm=B at hp hM;generalize Lib.indexByte (tx eP) (aq s i).toUInt8=I at hx hM
 have hw:IntKind.i64.wrap ((i:Int) + 1)=((i + 1:Nat):Int):=by
  rw [wrap64 (by omega) (by omega)];omega
 refine eG 30 [.tmp 4] func290 rfl ntmps290 rfl fun _ _ _ _=>?_;refine br (fun g=>?_) (fun _=>?_)
 ·exfalso;simp [ak] at g;omega
 refine ⟨⟨by omega,by omega,by omega⟩,?_⟩;refine cP afi hp ?_
 cases B with
 | true=>
  rw [zIfP rfl] at hM;rw [hM];exact (rfl:_=_)
 | false=>
  rw [af (by simp)] at hM;refine ⟨⟨by omega,by omega⟩,?_⟩;refine cP Y6 hx ?_;refine br ?_ ?_<;>intro g
  ·have g:0<=I:=sU g;rw [zIfP g] at hM;rw [hM];refine ⟨⟨by omega,by rw [hw];omega,by rw [hw];omega⟩,?_⟩;rw [hw];exact (rfl:_=_)
  ·have g:¬ 0<=I:=sU g;rw [af g] at hM;rw [hM];exact (rfl:_=_)
abbrev UA (t:gZ):DV:=.bo [.agg (tT t),Ft.d (0,0)]
theorem LF (s:ByteArray) (hs:s.size<=1099511627776) (i:Nat) (hi:i < s.size) (e:Nat) (he:i + bc (s.data.toList.drop i)=e) (hn:i < e) (hr:bM (s.extract i e)=true) :
  aR prog 244 [.v (.string s),.v (.int .i64 i)] (UA ⟨1,i,e,s.extract i e,0⟩):=by
 have ht:=nj s i hi (by omega);rw [he] at ht
 have Gz:e<=s.size:=by
  have:=jL (s.data.toList.drop i);simp at this;omega
 have ZM:=iv (s.extract i e) (by simp;omega);rw [hr] at ZM
 have bF:¬ s.extract i e=⟨#[]⟩:=fun h=>by
  have:=congrArg ByteArray.size h;simp at this;have h2:(ByteArray.mk #[]).size=0:=rfl;omega
 generalize s.extract i e=M at *;refine eG 103 [.cell 4 218,.cell 5 26] func244 rfl ntmps244 rfl fun _ _ _ _=>?_;refine cP xr ht ?_;refine br (fun _=>?_) (fun g=>absurd (show M=⟨#[]⟩ by simpa using g) bF);refine cP Ki ZM ?_;exact ⟨_,ax,rfl⟩
theorem oP (s:ByteArray) (hs:s.size<=1099511627776) (i:Nat) (hi:i < s.size) (hn:bc (s.data.toList.drop i)=0) (M:ByteArray) (hM:ey s i=M) (bF:¬ M=⟨#[]⟩) (cK:M.size<=2) :
  aR prog 244 [.v (.string s),.v (.int .i64 i)] (UA ⟨4,i,(i + M.size:Nat),M,0⟩):=by
 have ht:=nj s i hi (by omega);rw [hn,kE] at ht;have hm:=sN s hs i hi;rw [hM] at hm
 have hw:IntKind.i64.wrap ((i:Int) + M.size)=((i + M.size:Nat):Int):=by
  rw [wrap64 (by omega) (by omega)];omega
 have hX:=congrArg (fun z=>DV.v (Value.int .i64 z)) hw;refine eG 103 [.cell 4 218,.cell 5 26] func244 rfl ntmps244 rfl fun _ _ _ _=>?_;refine cP xr ht ?_;refine cP MZ hm ?_;refine br (fun _=>?_) (fun g=>absurd (show M=⟨#[]⟩ by simpa using g) bF);exact ⟨_,(by repeat' (first | exact rfl | exact trivial | exact Or.inr (Or.inl ⟨_,rfl⟩) | exact Or.inr ⟨_,rfl⟩ | exact Or.inl ⟨rfl,rfl⟩ | exact Or.inl rfl | refine Or.inr ⟨_,_,rfl,Nat.zero_le _,rfl,?_⟩ | refine ⟨_,_,rfl,?_,?_⟩ | refine ⟨_,rfl,?_⟩ | exact hX | refine Or.inr (Or.inr (Or.inr ⟨_,_,rfl,?_⟩)) | exact Or.inl rfl | refine Or.inr ?_)),rfl⟩
theorem Ql (s:ByteArray) (hs:s.size<=1099511627776) (i:Nat) (hi:i < s.size) (hn:bc (s.data.toList.drop i)=0) (hM:ey s i=⟨#[]⟩) (hc:aq s i=45∨48<=aq s i/\aq s i<=57) (z:Int) (e:Nat)
  (hd:aR prog 291 [.v (.string s),.v (.int .i64 i)] (.bo [.v (.int .i64 z),.v (.int .i64 e),Ft.d (0,0)])) :
  aR prog 244 [.v (.string s),.v (.int .i64 i)] (UA ⟨2,i,e,aM,z⟩):=by
 have ht:=nj s i hi (by omega);rw [hn,kE] at ht;have hm:=sN s hs i hi;rw [hM] at hm;generalize hB:aq s i=c at hc;refine eG 103 [.cell 4 218,.cell 5 26] func244 rfl ntmps244 rfl fun _ _ _ _=>?_;refine cP xr ht ?_;refine cP MZ hm ?_;refine ⟨⟨by omega,by omega⟩,?_⟩;refine br (fun _=>?_) (fun g=>?_)
 ·refine cP Y1 hd ?_;refine aE [0,1] (fun _=>false) mo (by decide +kernel) ?_;exact ⟨_,ax,rfl⟩
 ·exfalso;rw [dV,hB] at g;simp [ak,pickB_and] at g;omega
inductive oQ (s:ByteArray):Nat->List gZ->Prop
 | nil:oQ s s.size []
 | blank {i:Nat} {l:List gZ}:i < s.size->jk (aq s i)=true->oQ s (i + 1) l->oQ s i l
 | tok {i e:Nat} {t:gZ} {l:List gZ}:i < s.size->jk (aq s i)=false->aq s i≠59->aR prog 244 [.v (.string s),.v (.int .i64 i)] (UA t)->t.e=e->i < e->e<=s.size->oQ s e l->oQ s i (t :: l)
abbrev UB (s:ByteArray) (L:List gZ) (q cT:Nat):St:=⟨[(0,⟨[],.v (.string s)⟩),(2,⟨[],.v (.slice none 0 0)⟩),aJ 3 0,(4,⟨[],.sl 5 (er L) (some 0)⟩),aJ 5 1,aC 6 cT],[JN,JN],[⟨q,218,5,none⟩]⟩
theorem Ee (s:ByteArray) (hs:s.size<=65536) (l:List gZ) (hl:oQ s 0 l):aR prog 157 [.v (.string s)] (.bo [.sl 5 (er (l ++ [jb s.size])) none,Ft.d (0,0)]):=by
 refine eG 63 [.tmp 2,.cell 3 26] func157 rfl ntmps157 rfl fun _ _ _ _=>?_;refine br (fun g=>absurd (show 65536 < s.size by have:=of_decide_eq_true g;omega) (by omega)) (fun _=>?_);refine lI (fun j st=>∃ (i q:Nat) (L r:List gZ),st=UB s L q i/\q=L.length/\oQ s i r/\L ++ r=l/\L.length<=i/\i<=s.size/\j=s.size - i) ⟨0,0,[],l,rfl,rfl,hl,rfl,by simp,by omega,rfl⟩ (di 2 ⟨0,218,5,none⟩ rfl rfl rfl tJ rfl rfl lW) ?_;rintro j st ⟨i,q,L,r,rfl,hq,hr,yP,hLi,his,rfl⟩;refine br (fun az=>?_) (fun hge=>?_)
 ·have az:i < s.size:=sU az;have hb:=Bm (aq s i);refine ⟨⟨by omega,by omega⟩,?_⟩
  cases hr with
  | nil=>omega
  | blank _ h1 h2=>
   rw [h1] at hb;refine cP zH hb ?_;exact ⟨UB s L q (i + 1),(ej 2 (ng (nxt az (by omega))) (wB1 (nxt az (by omega)))),s.size - (i + 1),by omega,i + 1,q,L,_,rfl,hq,h2,yP,by omega,by omega,rfl⟩
  | @tok _ e t l' _ h1 h2 h3 h4 h5 h6 h7=>
   rw [h1] at hb;refine cP zH hb ?_;refine ⟨⟨by omega,by omega⟩,?_⟩;refine br (fun g=>absurd (show aq s i=59 by have:=of_decide_eq_true g;rw [dV] at this;omega) h2) (fun _=>?_);obtain ⟨tk,ta,te,ts,tn⟩:=t;simp only at h4;subst h4;refine cP R4 h3 ?_;refine ⟨(cq L).trans hq.symm,⟨by simp [maxLen,cq];omega,by simp [cq];omega⟩,?_⟩;exact rE ⟨_,by omega,e,q + 1,L ++ [⟨tk,ta,e,ts,tn⟩],l',rfl,by simp [hq],h7,by simpa using yP,by simp;omega,h6,rfl⟩ (ej 2 (ng (fA L ⟨tk,ta,e,ts,tn⟩)) (wB1 (fA L ⟨tk,ta,e,ts,tn⟩)))
 ·have hge:s.size=i:=by
   have:=of_decide_eq_false hge;omega
  subst hge
  cases hr with
  | nil=>
   rw [List.append_nil] at yP;subst yP;refine aE [0] (fun _=>false) mo (by decide +kernel) ?_;refine ⟨(cq L).trans hq.symm,⟨by simp [maxLen,cq];omega,by simp [cq];omega⟩,?_⟩;rw [<- fA];exact ⟨_,ax,rfl⟩
  | blank h=>exact absurd h (Nat.lt_irrefl _)
  | tok h=>exact absurd h (Nat.lt_irrefl _)
theorem ahc {c:au} {k:Int} {s:ByteArray} (h:c.is k s=true) (hk:k≠0):¬ c.aO.k=0:=by
 simp only [au.is,bh,decide_eq_true_eq] at h;omega
theorem uM {c:au} {k:Int} {s:ByteArray} (h:c.is k s=true) (hk:k≠0):c.step={ c with p:=c.p + 1 }:=by rw [au.step,af (ahc h hk)]
theorem kY (c:au) (h:aw c):Ev prog 294 [iQ] [aH c] [] (kV (.v (.int .i64 c.kG)) c.b7):=by
 have hm:=qh c h 2;have hw:=iM c h;have hC:c.b7=if c.tk 2 then c.step else c.wrong:=rfl
 have hW:c.kG=(c.BR 2).n:=rfl;have hM:c.VC 2=if c.tk 2 then c.step else c:=rfl
 rw [hM] at hm;generalize c.b7=C2 at hC ⊢;generalize c.kG=W at hW ⊢;generalize c.BR 2=t at hm hW;obtain ⟨tk,ta,te,ts,tn⟩:=t;simp only at hW;rw [hW];generalize c.tk 2=B at hC hm
 cases B with
 | true=>
  rw [zIfP rfl] at hC hm;rw [hC];generalize c.step=C1 at hm ⊢;obtain ⟨l,p,d,f1,f2⟩:=c;obtain ⟨l1,p1,d1,f11,f21⟩:=C1;refine eG 17 [.tmp 2] func294 rfl ntmps294 rfl fun _ _ _ _=>?_;refine S9 1 xu hm ?_;exact ⟨.v (.int .i64 _),[aH _],av,av,rfl,rfl,rfl⟩
 | false=>
  rw [af (by simp)] at hC hm;rw [hC];generalize c.wrong=C1 at hw ⊢;obtain ⟨l,p,d,f1,f2⟩:=c;obtain ⟨l1,p1,d1,f11,f21⟩:=C1;refine eG 17 [.tmp 2] func294 rfl ntmps294 rfl fun _ _ _ _=>?_;refine S9 1 xu hm ?_;refine S9 1 CN hw ?_;exact ⟨.v (.int .i64 _),[aH _],av,av,rfl,rfl,rfl⟩
theorem sO (c:au) (h:aw c):Ev prog 295 [iQ] [aH c] [] (kV (.v (.int .i64 (nM c).1)) (nM c).2):=by
 have h1:=bR c h aU;have h2:=kY _ (h.ah aU);have h3:=bR _ (h.ah aU).b7 bH;have hR:nM c=((c.ah aU).kG,(c.ah aU).b7.ah bH):=rfl;rw [hR];simp only;generalize (c.ah aU).b7.ah bH=c3 at h3 ⊢;generalize (c.ah aU).b7.is 4 bH=B3 at h3;generalize (c.ah aU).b7=c2 at h2 h3;generalize (c.ah aU).kG=n at h2 ⊢;generalize c.ah aU=c1 at h1 h2;generalize c.is 4 aU=B1 at h1;obtain ⟨l,p,d,f1,f2⟩:=c;obtain ⟨l1,p1,d1,f11,f21⟩:=c1;obtain ⟨l2,p2,d2,f12,f22⟩:=c2;obtain ⟨l3,p3,d3,f13,f23⟩:=c3;refine eG 13 [.tmp 2] func295 rfl ntmps295 rfl fun _ _ _ _=>?_;refine S9 1 gj h1 ?_;refine S9 1 CO h2 ?_;refine S9 1 gj h3 ?_;exact ⟨.v (.int .i64 _),[aH _],av,av,rfl,rfl,rfl⟩
theorem Ef (l:List Wd) (w:Wd):bA l ++ [jK w]=bA (l ++ [w]):=by simp [bA]
abbrev UC (c:au) (l:List Wd) (n:Nat):St:=⟨[aJ 1 1,(2,⟨[],.v (.slice none 0 0)⟩),(3,⟨[],.sl 2 (bA l) (some 0)⟩)],[aH c,mL],[⟨n,34,2,none⟩]⟩
theorem iO (c:au) (h:aw c):Ev prog 356 [iQ] [aH c] [] (kV (.sl 2 (bA (eO c).1) none) (eO c).2):=by
 generalize hR:eO c=R;unfold eO at hR;have hb:=fH;obtain ⟨m,hm⟩:∃ m,bigN=m + 1:=⟨bigN - 1,by omega⟩;rw [hm,pLab] at hR;have hlen:=h.len;have h1:=ef c h;have hst:=aW.al c;have jr:c.al.l=c.l:=hst.l;have h1k:=h.al;generalize c.al=C1 at h1 hR jr h1k;generalize c.bf=W at h1 hR;obtain ⟨ws,wa⟩:=W;obtain ⟨l,p,d,f1,f2⟩:=c;obtain ⟨l1,p1,d1,f11,f21⟩:=C1;simp only at jr hlen;subst jr;refine yz (s:=false) (bt:=[]) (mu:=[6]) (hbt:=fun p hp=>by cases hp) (fr:=false) (P:=prog) tt xq 5000 16 [.tmp 2] func356 rfl ntmps356 rfl (nL rfl) (fun _ _ _ _=>?_);refine S9 1 pe h1 ?_;refine TF rfl rfl rfl rfl rfl rfl rfl rfl ?_;refine aY (fun j st=>∃ (c1:au) (l':List Wd) (n:Nat),st=UC c1 l' n/\n=l'.length/\aw c1/\(if c1.is 4 rK=true then pLab j l' c1.step else (l',c1))=R/\c1.l.length<=c1.p + j/\l'.length + j<=bigN) m (UC ⟨l1,p1,d1,f11,f21⟩ [⟨ws,wa⟩] 1) (ej 2 tJ lW) ⟨⟨l1,p1,d1,f11,f21⟩,[⟨ws,wa⟩],1,rfl,rfl,h1k,hR,by show l1.length<=p1 + m;omega,by simp;omega⟩ ?_;rintro j st ⟨c1,l',n,rfl,hn,MK,cw,az,fO⟩;have hm:=cr c1 MK rK;unfold au.mh at hm;have jZ:=MK.lt
 cases hB:c1.is 4 rK with
 | false=>
  rw [hB,af (by simp)] at cw hm;subst cw;obtain ⟨l2,p2,d2,f12,f22⟩:=c1;refine S9 1 dw hm ?_;exact ⟨.sl 2 (bA _) none,[aH _],av,av,rfl,rfl,rfl⟩
 | true=>
  rw [hB,zIfP rfl] at cw hm;obtain ⟨j,rfl⟩:∃ m,j=m + 1:=⟨j - 1,by omega⟩;rw [pLab] at cw;have hs:=MK.step;have hst:=uM hB (by decide);have h2:=ef _ hs;have ahd:=aW.al c1.step;have e1:c1.step.l=c1.l:=by rw [hst]
  have e2:c1.step.p=c1.p + 1:=by rw [hst]
  have e3:=ahd.l;have e4:=ahd.p;have hk:=hs.al;generalize c1.step.al=C3 at h2 cw e3 e4 hk;generalize c1.step.bf=W3 at h2 cw;generalize c1.step=C2 at hm h2 e1 e2 e3 e4;obtain ⟨us,ua⟩:=W3;obtain ⟨l2,p2,d2,f12,f22⟩:=c1;obtain ⟨l3,p3,d3,f13,f23⟩:=C2;obtain ⟨l4,p4,d4,f14,f24⟩:=C3;simp only at az e1 e2 e3 e4 jZ;subst e1 e2 e3;refine S9 1 dw hm ?_;refine S9 1 pe h2 ?_;refine ⟨by rw [aD];exact hn.symm,⟨by simp [maxLen,aD];omega,by simp [aD];omega⟩,?_⟩;exact ⟨UC ⟨l4,p4,d4,f14,f24⟩ (l' ++ [⟨us,ua⟩]) (n + 1),(ej 2 (ng (Ef l' ⟨us,ua⟩)) (wB1 (Ef l' ⟨us,ua⟩))),j,by omega,_,_,_,rfl,by simp [hn],hk,cw,by show l4.length<=p4 + j;omega,by simp;omega⟩
set_option maxHeartbeats 1000000 in
theorem kI (c:au) (h:aw c):Ev prog 357 [iQ] [aH c] [] (kV (.agg (QY (dj c).1)) (dj c).2):=by
 generalize hR:dj c=R;unfold dj at hR;have hp:=dY c h;cases e1:c.is 1 mN
 rotate_left
 rw [e1,zIfP rfl] at hR;have w1:=cI c h mN;unfold au.mh at w1;rw [e1,zIfP rfl] at w1;have hn:=sO _ h.step;have hno:=(nO (Sm.self h.step)).sm.ok;generalize nM c.step=N at hn hno hR;generalize c.step=C1 at w1 hn;generalize c.aO=t at hp hR;obtain ⟨tk,ta,te,ts,tn⟩:=t;obtain ⟨nn,nl,np,nd,q8,ra⟩:=N;obtain ⟨l1,p1,d1,f11,f21⟩:=C1;obtain ⟨l,p,d,f1,f2⟩:=c;simp only at hR hno;refine eG 48 [.cell 2 131] func357 rfl ntmps357 rfl fun _ _ _ _=>?_;refine S9 1 jx hp ?_;refine S9 1 gL w1 ?_;refine S9 1 Sb hn ?_
 rotate_right
 rw [e1,af (by simp)] at hR;cases e2:c.is 1 oL
 rotate_left
 rw [e2,zIfP rfl] at hR;have w1:=cI c h mN;unfold au.mh at w1;rw [e1,af (by simp)] at w1;have w2:=cI c h oL;unfold au.mh at w2;rw [e2,zIfP rfl] at w2;have hn:=sO _ h.step;have hno:=(nO (Sm.self h.step)).sm.ok;generalize nM c.step=N at hn hno hR;generalize c.step=C1 at w2 hn;generalize c.aO=t at hp hR;obtain ⟨tk,ta,te,ts,tn⟩:=t;obtain ⟨nn,nl,np,nd,q8,ra⟩:=N;obtain ⟨l1,p1,d1,f11,f21⟩:=C1;obtain ⟨l,p,d,f1,f2⟩:=c;simp only at hR hno;refine eG 48 [.cell 2 131] func357 rfl ntmps357 rfl fun _ _ _ _=>?_;refine S9 1 jx hp ?_;refine S9 1 gL w1 ?_;refine S9 1 gL w2 ?_;refine S9 1 Sb hn ?_
 rotate_right
 rw [e2,af (by simp)] at hR;cases e3:c.is 1 qj
 rotate_left
 rw [e3,zIfP rfl] at hR;have w1:=cI c h mN;unfold au.mh at w1;rw [e1,af (by simp)] at w1;have w2:=cI c h oL;unfold au.mh at w2;rw [e2,af (by simp)] at w2;have w3:=cI c h qj;unfold au.mh at w3;rw [e3,zIfP rfl] at w3;have hno:=h.step;generalize c.step=C1 at w3 hR hno;generalize c.aO=t at hp hR;obtain ⟨tk,ta,te,ts,tn⟩:=t;obtain ⟨nl,np,nd,q8,ra⟩:=C1;obtain ⟨l,p,d,f1,f2⟩:=c;simp only at hR;refine eG 48 [.cell 2 131] func357 rfl ntmps357 rfl fun _ _ _ _=>?_;refine S9 1 jx hp ?_;refine S9 1 gL w1 ?_;refine S9 1 gL w2 ?_;refine S9 1 gL w3 ?_
 rotate_right
 rw [e3,af (by simp)] at hR;by_cases e5:c.aO.k=1;rw [zIfP e5] at hR;have w1:=cI c h mN;unfold au.mh at w1;rw [e1,af (by simp)] at w1;have w2:=cI c h oL;unfold au.mh at w2;rw [e2,af (by simp)] at w2;have w3:=cI c h qj;unfold au.mh at w3;rw [e3,af (by simp)] at w3;have GA:=jV c h 9;have hno:=h.cM 9 c.aO.a;have e0:c.fail 9=c.cM 9 c.aO.a:=rfl;rw [<- e0] at hno;generalize c.fail 9=C1 at GA hR hno;generalize c.aO=t at hp hR e5;obtain ⟨tk,ta,te,ts,tn⟩:=t;obtain ⟨nl,np,nd,q8,ra⟩:=C1;obtain ⟨l,p,d,f1,f2⟩:=c;simp only at hR e5;refine eG 48 [.cell 2 131] func357 rfl ntmps357 rfl fun _ _ _ _=>?_;refine S9 1 jx hp ?_;refine S9 1 gL w1 ?_;refine S9 1 gL w2 ?_;refine S9 1 gL w3 ?_;refine br (fun _=>?_) (fun g=>absurd e5 (sU g));refine S9 1 zF GA ?_
 rotate_left
 rw [af e5] at hR;have w1:=cI c h mN;unfold au.mh at w1;rw [e1,af (by simp)] at w1;have w2:=cI c h oL;unfold au.mh at w2;rw [e2,af (by simp)] at w2;have w3:=cI c h qj;unfold au.mh at w3;rw [e3,af (by simp)] at w3;have GA:=iM c h;have hno:=h.wrong;generalize c.wrong=C1 at GA hR hno;generalize c.aO=t at hp hR e5;obtain ⟨tk,ta,te,ts,tn⟩:=t;obtain ⟨nl,np,nd,q8,ra⟩:=C1;obtain ⟨l,p,d,f1,f2⟩:=c;simp only at hR e5;refine eG 48 [.cell 2 131] func357 rfl ntmps357 rfl fun _ _ _ _=>?_;refine S9 1 jx hp ?_;refine S9 1 gL w1 ?_;refine S9 1 gL w2 ?_;refine S9 1 gL w3 ?_;refine br (fun g=>absurd (sU g) e5) (fun _=>?_);refine S9 1 CN GA ?_
 all_goals
  have hm:=cr ⟨nl,np,nd,q8,ra⟩ hno vd;unfold au.mh at hm;have tQ:=iO _ (aw.step hno);unfold gN at hR;generalize au.is ⟨nl,np,nd,q8,ra⟩ 4 vd=B at hm hR;generalize eO (au.step ⟨nl,np,nd,q8,ra⟩)=L at tQ hR;generalize au.step ⟨nl,np,nd,q8,ra⟩=O at hm tQ;obtain ⟨ol,op,od,pA,ph⟩:=O;obtain ⟨lw,ll,lp,ld,ve,vf⟩:=L
  cases B with
  | true=>
   rw [zIfP rfl] at hm hR;subst hR;refine S9 1 dw hm ?_;refine S9 1 CQ tQ ?_;exact ⟨.agg (QY _),[aH _],av,av,rfl,rfl,rfl⟩
  | false=>
   rw [af (by simp)] at hm hR;subst hR;refine S9 1 dw hm ?_;exact ⟨.agg (QY _),[aH _],av,av,rfl,rfl,rfl⟩
set_option maxHeartbeats 2000000 in
theorem xS (x:Ph) (t:Ty) (c:au) (h:aw c):Ev prog 339 [iQ,.loc 1 0] [aH c,kv x (cL t)] [] (fun r os tk=>r = .bo []/\os=[aH (cF x c).2,kv (cF x c).1 (cL t)]/\tk=[]):=by
 generalize hR:cF x c=R;unfold cF at hR;obtain ⟨th,tp⟩:=t;obtain ⟨⟨ns,na⟩,bare,lb,wide,ck,cn,ca,cl⟩:=x;obtain ⟨l,p,d,f1,f2⟩:=c;refine eG 28 [] func339 rfl ntmps339 rfl fun _ _ _ _=>?_;generalize LG:IM _ _=R1 at hR;unfold IM at LG;have a1:=cr _ h vd;unfold au.mh at a1;have k1:=aw.step h;have b1:=iO _ k1;have p1:=(lS (Sm.self k1)).sm.ok;generalize au.is _ 4 vd=B1 at a1 LG;generalize eO (au.step _)=L1 at b1 p1 LG;generalize au.step _=O1 at a1 b1;obtain ⟨ol1,op1,od1,pA,og1⟩:=O1;obtain ⟨lw1,F1,XJ,XK,ve,F2⟩:=L1;cases B1;rw [af (by simp)] at a1 LG;have o1:=h;subst LG
 try simp only at hR
 refine S9 1 dw a1 ?_
 rotate_left
 rw [zIfP rfl] at a1 LG;have o1:=p1;subst LG
 try simp only at hR
 refine S9 1 dw a1 ?_;refine S9 1 CQ b1 ?_
 all_goals
  generalize qm:JT _ _=R2 at hR;unfold JT at qm;have a2:=cr _ o1 pf;unfold au.mh at a2;have k2:=aw.step o1;have b2:=kY _ k2;have p2:=aw.b7 k2;generalize au.is _ 4 pf=B2 at a2 qm;generalize au.kG (au.step _)=n2 at b2 qm;generalize au.b7 (au.step _)=L2 at b2 qm p2;generalize au.step _=O2 at a2 b2;obtain ⟨ol2,op2,od2,ph,og2⟩:=O2;obtain ⟨F3,XL,XM,vf,F4⟩:=L2;cases B2;rw [af (by simp)] at a2 qm;have o2:=o1;subst qm
  try simp only at hR
  refine S9 1 dw a2 ?_
  rotate_left
  rw [zIfP rfl] at a2 qm;have o2:=p2;subst qm
  try simp only at hR
  refine S9 1 dw a2 ?_;refine S9 1 CO b2 ?_
  all_goals
   generalize iC:GI _ _=R3 at hR;unfold GI at iC;have a3:=cr _ o2 eA;unfold au.mh at a3;have k3:=aw.step o2;have b3:=kI _ k3;have p3:=(ka (Sm.self k3)).sm.ok;generalize au.is _ 4 eA=B3 at a3 iC;generalize dj (au.step _)=L3 at b3 p3 iC;generalize au.step _=O3 at a3 b3;obtain ⟨ol3,op3,od3,of3,og3⟩:=O3;obtain ⟨⟨ck3,cn3,ca3,cl3⟩,ll3,lp3,ld3,lf3,lg3⟩:=L3;cases B3;rw [af (by simp)] at a3 iC;have o3:=o2;subst iC
   try simp only at hR
   refine S9 1 dw a3 ?_
   rotate_left
   rw [zIfP rfl] at a3 iC;have o3:=p3;subst iC
   try simp only at hR
   refine S9 1 dw a3 ?_;refine S9 1 M4 b3 ?_
   all_goals
    subst hR;exact ⟨.bo [],[aH _,kv _ _],av,av,rfl,rfl,rfl⟩
section
variable {K:au->Ty × au} {D:Nat} (hK:∀ c,aw c->c.d=D->Ev prog 166 [iQ] [aH c] [] (kV (.agg (cL (K c).1)) (K c).2)) (hk:Ly K D)
include hK hk
theorem IW (c:au) (h:aw c) (hd:c.d=D):Ev prog 298 [iQ] [aH c] [] (kV (.agg (kv (mP K c).1.1 (cL (mP K c).1.2))) (mP K c).2):=by
 have hR:mP K c=(((cF (sI c.bf false) (K (c.al.ah b5)).2).1,(K (c.al.ah b5)).1),(cF (sI c.bf false) (K (c.al.ah b5)).2).2):=rfl;rw [hR];simp only;have a1:=ef c h;have a2:=bR _ h.al b5;have o2:=h.al.ah b5;have d2:(c.al.ah b5).d=D:=by rw [(aW.ah _ _).d,(aW.al _).d,hd]
 have a3:=hK _ o2 d2;have o3:=hk.ok o2 d2;have a4:=xS (sI c.bf false) (K (c.al.ah b5)).1 _ o3;generalize cF (sI c.bf false) (K (c.al.ah b5)).2=M at a4 ⊢;generalize K (c.al.ah b5)=T at a3 a4 ⊢;generalize c.al.ah b5=c2 at a2 a3;generalize c.al.is 4 b5=B2 at a2;generalize c.al=c1 at a1 a2;generalize c.bf=W at a1 a4;obtain ⟨ws,wa⟩:=W;obtain ⟨l,p,d,f1,f2⟩:=c;obtain ⟨l1,p1,d1,f11,f21⟩:=c1;obtain ⟨l2,p2,d2,f12,f22⟩:=c2;obtain ⟨⟨th,tp⟩,l3,p3,d3,f13,f23⟩:=T;obtain ⟨⟨⟨ns,na⟩,bare,lb,wide,ck,cn,ca,cl⟩,l4,p4,d4,f14,f24⟩:=M;refine eG 16 [.cell 2 133] func298 rfl ntmps298 rfl fun _ _ _ _=>?_;refine S9 1 pe a1 ?_;refine S9 1 gj a2 ?_;refine S9 1 tO a3 ?_;refine CallG.KX 1 3 rfl rfl rfl rfl ?_;refine S9 2 Y8 a4 ?_;exact ⟨.agg (kv _ _),[aH _],av,av,rfl,rfl,rfl⟩
theorem Qm (c:au) (h:aw c) (hd:c.d=D):Ev prog 299 [iQ] [aH c] [] (kV (.agg (kv (uG K c).1.1 (cL (uG K c).1.2))) (uG K c).2):=by
 generalize hR:uG K c=R;unfold uG at hR;have a1:=ef c h;have a2:=cr _ h.al aU;unfold au.mh at a2;have o2:=h.al.step;have d2:c.al.step.d=D:=by rw [(aW.step _).d,(aW.al _).d,hd]
 have a3:=hK _ o2 d2;have o3:=hk.ok o2 d2;have a4:=bR _ o3 bH;have a5:=xS (sI c.bf false) (K c.al.step).1 _ (o3.ah bH);generalize cF (sI c.bf false) ((K c.al.step).2.ah bH)=M at a5 hR;generalize (K c.al.step).2.ah bH=c4 at a4 a5;generalize (K c.al.step).2.is 4 bH=B4 at a4;generalize K c.al.step=T at a3 a4 a5 hR;generalize c.al.step=c2 at a2 a3;generalize c.al.is 4 aU=B2 at a2 hR;generalize c.al=c1 at a1 a2 hR;generalize c.bf=W at a1 a5 hR;obtain ⟨ws,wa⟩:=W;obtain ⟨l,p,d,f1,f2⟩:=c;obtain ⟨l1,p1,d1,f11,f21⟩:=c1;obtain ⟨l2,p2,d2,f12,f22⟩:=c2;obtain ⟨⟨th,tp⟩,l3,p3,d3,f13,f23⟩:=T;obtain ⟨l5,p5,d5,f15,f25⟩:=c4;obtain ⟨⟨⟨ns,na⟩,bare,lb,wide,ck,cn,ca,cl⟩,l4,p4,d4,f14,f24⟩:=M
 cases B2 with
 | true=>
  rw [zIfP rfl] at a2 hR;subst hR;refine eG 22 [.cell 2 133] func299 rfl ntmps299 rfl fun _ _ _ _=>?_;refine S9 1 pe a1 ?_;refine S9 1 dw a2 ?_;refine S9 1 tO a3 ?_;refine S9 1 gj a4 ?_;refine CallG.KX 1 3 rfl rfl rfl rfl ?_;refine S9 2 Y8 a5 ?_;exact ⟨.agg (kv _ _),[aH _],av,av,rfl,rfl,rfl⟩
 | false=>
  rw [af (by simp)] at a2 hR;subst hR;refine eG 22 [.cell 2 133] func299 rfl ntmps299 rfl fun _ _ _ _=>?_;refine S9 1 pe a1 ?_;refine S9 1 dw a2 ?_;exact ⟨.agg (kv _ _),[aH _],av,av,rfl,rfl,rfl⟩
end
end Go.Proofs.YtfdedoiiahbnnaaGreat
namespace Go.Proofs.YtfdedoiiahbnnaaGreat
namespace Dv
open Go Go.RowKit
section
variable {X:Ctx} {st:St} {k:List It} {E:En} {a:Act} {w:World}
theorem N9 (h:Rel X E st a w) {es:List (List DV)} {cs:List DV} {kt m Ap e:Nat} {v:Value} (hv:Rv E (.sl 0 es (some kt)) v) (hq:st.tk[kt]? = some ⟨m,Ap,e,some cs⟩) (tG:es.length=m) (hm:0 < m) :
  ∃ g cap,∃ cur:Array Value,v = .slice (some ⟨g,0,none⟩) m cap/\E.tk[kt]? = some ⟨m,Ap,e,some cs⟩/\E.τ[kt]? = some v/\w.heap[g]? = some (.cells cur Ap (0,0))/\cur.size=cap * e/\cs.length=m * e/\RvC E.cl cs (cur.toList.take (m * e))/\m<=cap/\cap<=maxLen/\g ∉ E.β/\∀ x u,E.c x=some u->x.block=g->x.off < 0:=by
 unfold Rv at hv;obtain ⟨bs,ns,nb,e1,⟨GB,nc⟩,Yr,zg⟩:=hv;subst GB;obtain ⟨q',mY,_,hτk⟩:=zg kt rfl;have kN:E.tk[kt]? = some ⟨m,Ap,e,some cs⟩:=by rw [h.tk];exact hq
 rw [kN] at mY;simp only [oI] at mY;subst mY;have hy:=hτk tG;rcases h.env.dh kt _ _ kN hy with ⟨_,tj,_⟩ | ⟨g,cap,cur,qI,sZ,⟨xm,G3⟩,zh,BX,ib,J4⟩
 ·simp only at tj;omega
 obtain ⟨h5,h6⟩:=G3 cs rfl;exact ⟨g,cap,cur,qI,kN,hy,sZ,xm,h5,h6,zh,BX,ib,J4⟩
theorem XN {o1:Oper} {t et e kL nn m g cap:Nat} {bb:Bool} {zz:List Value} {z:Int} {kd:IntKind} {s ix:Operand} (h1:o1.op = .indexAddr t s ix) (e1:a.eval s = .slice (some ⟨g,0,none⟩) m cap) (e2:a.eval ix = .int kd z)
  (hT:X.T.find t=some ⟨nn,bb,.sl et e kL,zz⟩) (hz:0<=z/\z < m) (w:World):(execOp a.eval o1).run X.P w = .ok (.value (.pointer (some ⟨g,z.toNat * e,none⟩))) w:=by
 obtain ⟨hu,ii,zv,zd,_,abk,_,_⟩:=fV X.hT hT;have pk:jF X.P et=some e:=by rw [gH zd,abk]
 have bV:(Instr.indexAt t (.slice (some ⟨g,0,none⟩) m cap) (.int kd z)).run X.P w = .ok (.pointer (some ⟨g,z.toNat * e,none⟩)) w:=by
  simp [Instr.indexAt,asIntOf,run_underlying hu,hz.1,hz.2,aX pk,Addr.add_lit]
 simp only [execOp,h1,e1,e2,Sem.run_bind,bV,Result.andThen_ok,Sem.run_pure]
theorem Oa {o2:Oper} {d1 kt ty e m Ap:Nat} {z:Int} {es:List (List DV)} {cs cs':List DV} {v:Value} {x:Operand} {dv:DV} {g cap:Nat}
  (hr1:Rel X E st a w) (h2:o2.op = .store ty (.tmp d1) x) (ht1:a.eval (.tmp d1) = .pointer (some ⟨g,z.toNat * e,none⟩)) (hv:Rv E (.sl 0 es (some kt)) v) (hvg:v = .slice (some ⟨g,0,none⟩) m cap)
  (hx:rv st [] x=some dv) (hdv:eraL dv.cells (fun l=>some l)=some cs') (Pd:dv.cells.length=e) (he0:0 < e)
  (cK:X.T.sz ty=some e) (hq:st.tk[kt]? = some ⟨m,Ap,e,some cs⟩) (tG:es.length=m) (hz:0<=z/\z < m) (hst:X.still=false) :
  ∃ w' E',(execOp a.eval o2).run X.P w = .ok .skip w' /\ Rel X E' ⟨st.sl,st.bx,st.tk.set kt ⟨m,Ap,e,some (cs.take (z.toNat * e) ++ cs' ++ cs.drop (z.toNat * e + e))⟩⟩ a w':=by
 obtain ⟨g',nb,cur,e1,kN,hy,sZ,xm,h5,h6,zh,BX,ib,J4⟩:=N9 hr1 hv hq tG (by omega);rw [hvg] at e1;injection e1 with i1 i2 i3
 injection i1 with i1
 injection i1 with i1
 subst i1 i3;rw [hvg] at hy;have e3:=bm hr1.rl hx;have fX:RvC E dv.cells (a.eval x).cells.toList:=e3.cells (iG (n:=e) Pd (by omega));have zf:(a.eval x).cells.toList.length=e:=by rw [fX.1.length];exact Pd
 obtain ⟨l',jr,hx1,_⟩:=rV hdv fX;simp only [oI] at jr;rw [jr] at hx1;have hme:m * e<=cap * e:=Nat.mul_le_mul_right _ zh
 have lk:z.toNat * e + e<=m * e:=by
  have:(z.toNat + 1) * e<=m * e:=Nat.mul_le_mul_right _ (by omega);rw [Nat.add_mul] at this;omega
 have Zo:cur.toList.length=cap * e:=sU xm;have Vv:=iT (P:=X.P) (t:=ty) (off:=z.toNat * e) (n:=e) sZ (Ct X.hT cK) zf (by rw [xm];omega) (List.all_eq_true.2 fX.2);generalize hN:cur.toList.take (z.toNat * e) ++ (a.eval x).cells.toList ++ cur.toList.drop (z.toNat * e + e)=N at Vv;have hNl:N.length=cap * e:=by grind
 have hNt:N.take (m * e)=(cur.toList.take (m * e)).take (z.toNat * e) ++ (a.eval x).cells.toList ++ (cur.toList.take (m * e)).drop (z.toNat * e + e):=by
  subst hN;rw [List.take_append,List.take_append,List.take_take,List.take_take];have h1:(cur.toList.take (z.toNat * e)).length=z.toNat * e:=by rw [zLenT];omega
  rw [List.length_append,h1,zf,Nat.min_eq_right (by omega),Nat.min_eq_left (by omega),List.take_of_length_le (l:=(a.eval x).cells.toList) (by rw [zf];omega),List.drop_take]
 have QQ:GQ (World.dc w g (.cells N.toArray Ap (0,0))) E.c E.β ⟨m,Ap,e,some (cs.take (z.toNat * e) ++ cs' ++ cs.drop (z.toNat * e + e))⟩ (.slice (some ⟨g,0,none⟩) m cap):=by
  refine .inr ⟨g,cap,_,rfl,fl sZ,⟨by simpa using hNl,fun va Cx=>?_⟩,zh,BX,ib,J4⟩;simp only [oI] at Cx;subst Cx;simp only;have h8:=((RvC.take (z.toNat * e) h6).append hx1).append (RvC.drop (z.toNat * e + e) h6);rw [<- hNt] at h8;have hl8:=h8.1.length;refine ⟨?_,by show RvC E.cl _ (N.toArray.toList.take (m * e));simpa using h8⟩;rw [<- hl8,zLenT,hNl];omega
 obtain ⟨cg,_⟩:=EQ (q':=⟨m,Ap,e,some (cs.take (z.toNat * e) ++ cs' ++ cs.drop (z.toNat * e + e))⟩) (w':=World.dc w g (.cells N.toArray Ap (0,0))) hr1 hst kN hy rfl rfl rfl (.inl ⟨rfl,rfl⟩) QQ (.inl rfl) rfl rfl rfl (by rw [gq];exact zLeR _) (fun j _ bF=>cV (by
  rintro rfl
  exact bF rfl))
 refine ⟨_,_,?_,cg⟩;simp only [execOp,h2,ht1,Instr.storeAt,Instr.sureAddr,Sem.run_bind,Sem.run_pure,Result.andThen_ok,Vv]
end
end Dv
end Go.Proofs.YtfdedoiiahbnnaaGreat
namespace Go.Proofs.YtfdedoiiahbnnaaGreat
namespace Dv
open Go Go.RowKit
section
variable {P:Program} {ops:Array Oper} {C:Nat->World->Prop} {Q:Act->World->Prop} {W:Nat->Nat->Bool}
def LH (ops:Array Oper) (W:Nat->Nat->Bool) (j i:Nat):Bool:=rz ops (fun k=>W k j) j i
def Eg (ops:Array Oper) (W:Nat->Nat->Bool):Bool:=
 (List.range ops.size).all fun i=>(List.range ops.size).all fun j=>
  Nat.beq i j || ordB ops ops.size i j || ordB ops ops.size j i || (XG ops i && XG ops j) || (LH ops W j i && LH ops W i j)
def runS2 (P:Program) (ops:Array Oper) (W:Nat->Nat->Bool) (C:Nat->World->Prop) (Q:Act->World->Prop):pg->Act->World->Prop
 | .fin,a,w=>Q a w
 | .op i t,a,w=>∃ o,ops[i]? = some o/\∃ v,Yl P ops (C i) o v a/\(isL o.op=true->C i w)/\runS2 P ops W C Q t (a.put o.dst v) w
 | .ev i t alt,a,w=>(∃ o,ops[i]? = some o/\ep P ops o a w fun a' w'=>(∀ j,W i j=false->C j w->C j w')/\runS2 P ops W C Q t a' w')/\runS2 P ops W C Q alt a w
 | .stop,_,_=>True
def Ob (P:Program) (ops:Array Oper) (W:Nat->Nat->Bool) (C:Nat->World->Prop) (Q:Act->World->Prop) (rem:List Nat) (a:Act) (w:World):Prop:=∃ T,chkA ops T rem none=true/\runS2 P ops W C Q T a w
theorem Eh {rem:List Nat} (hP:Eg ops W=true) (hc:Cl ops rem) {i j:Nat} (hi:rdy ops rem i=true) (hj:rdy ops rem j=true) (yc:i∈rem) (FA:j∈rem) (tD:i≠j) (QR:XG ops i=false∨XG ops j=false):LH ops W j i=true:=by
 obtain ⟨o,ho,ha⟩:=nP hi;obtain ⟨o',My,ha'⟩:=nP hj;simp only [Eg,List.all_eq_true,List.mem_range] at hP;have h1:=hP i (Array.getElem?_eq_some_iff.1 ho).1 j (Array.getElem?_eq_some_iff.1 My).1;simp only [Bool.or_eq_true,bh,Nat.beq_eq] at h1
 grind [Ut]
theorem Bn (kC:∀ (j:Nat) (o:Oper) cs b,ops[j]? = some o->o.op ≠ .select cs b) (hP:Eg ops W=true) {i:Nat} {o:Oper} (hi:ops[i]? = some o) (hE:isE o.op=false) :
  ∀ (T:pg) (rem:List Nat) (a:Act) (w:World),rem.Nodup->Cl ops rem->chkA ops T rem none=true->runS2 P ops W C Q T a w->i∈rem->rdy ops rem i=true ->
   ∃ v,Yl P ops (C i) o v a/\(isL o.op=true->C i w)/\Ob P ops W C Q (rem.erase i) (a.put o.dst v) w
 | .fin,rem,a,w,_,_,hc,_,yc,_=>by grind [chkA]
 | .stop,rem,a,w,_,_,hc,_,_,_=>by simp [chkA] at hc
 | .ev j t alt,rem,a,w,hn,fX,hc,hr,yc,QZ=>by
  exfalso
  have key:∀ (T:pg) (seen:List Nat),(∀ k∈seen,XG ops k=true)->chkA ops T rem (some seen)=true->False:=by
   intro T
   induction T with
   | fin=>intro seen _ h;simp [chkA] at h
   | op=>intro seen _ h;simp [chkA] at h
   | ev k t alt _ ih=>grind [chkA]
   | stop=>grind [chkA,Uu]
  grind [chkA]
 | .op j t,rem,a,w,hn,fX,hc,hr,yc,QZ=>by
  simp only [chkA,bh,Bool.not_eq_true'] at hc;obtain ⟨_,FA,hje,hjr,VA⟩:=hc;have FA:j∈rem:=sU FA;simp only [runS2] at hr;obtain ⟨y,hy,v,hyv,hyc,hrt⟩:=hr;by_cases tD:i=j
  ·subst tD;rw [hi] at hy;simp only [oI] at hy;subst hy;exact ⟨v,hyv,hyc,t,VA,hrt⟩
  ·have OQ:=Eh hP fX QZ hjr yc FA tD (.inr hje);obtain ⟨Yt,ap2,_,_⟩:=im OQ hy hi;obtain ⟨u,hu,huc,T',hT',hrT⟩:=Bn kC hP hi hE t (rem.erase j) (a.put y.dst v) w (hn.erase j) (Bl hn fX hjr) VA hrt ((List.mem_erase_of_ne tD).2 yc) (q7 QZ);have Rz:=fun cs b=>kC i o cs b hi;have hsy:=fun cs b=>kC j y cs b hy;obtain ⟨_,XO,_⟩:=Oper.apart_spec Yt;refine ⟨u,(Yl.same Yt Rz).1 hu,huc,.op j T',?_,?_⟩
   ·grind [chkA,q7]
   ·simp only [runS2];refine ⟨y,hy,v,(Yl.same ap2 hsy).2 hyv,hyc,?_⟩;rw [<- Act.put_comm a v u XO];exact hrT
theorem Ei {e:Nat}:∀ (T:pg) (rem:List Nat) (seen:List Nat) (a:Act) (w:World),chkA ops T rem (some seen)=true->runS2 P ops W C Q T a w->e∈rem->rdy ops rem e=true->e ∉ seen ->
  ∃ o t,ops[e]? = some o/\chkA ops t (rem.erase e) none=true/\ep P ops o a w fun a' w'=>(∀ j,W e j=false->C j w->C j w')/\runS2 P ops W C Q t a' w'
 | .fin,rem,seen,a,w,hc,_,_,_,_=>by simp [chkA] at hc
 | .op _ _,rem,seen,a,w,hc,_,_,_,_=>by simp [chkA] at hc
 | .stop,rem,seen,a,w,hc,_,hm,hr,hs=>by
  simp only [chkA,List.all_eq_true,Bool.or_eq_true,Bool.not_eq_true'] at hc;rcases hc e hm with h | h
  ·rw [hr] at h;cases h
  ·exact (hs (sU h)).elim
 | .ev i t alt,rem,seen,a,w,hc,hr,hm,QZ,hs=>by
  simp only [chkA,bh,Option.getD_some] at hc;simp only [runS2] at hr;obtain ⟨⟨o,ho,hst⟩,hra⟩:=hr;by_cases Kk:i=e
  ·subst Kk;exact ⟨o,t,ho,hc.2.2.2.1,hst⟩
  ·exact Ei alt rem (i :: seen) a w hc.2.2.2.2 hra hm QZ (fun h=>by
    rcases eU h with h | h
    ·exact Kk h.symm
    ·exact hs h)
theorem IX (kC:∀ (j:Nat) (o:Oper) cs b,ops[j]? = some o->o.op ≠ .select cs b) (hP:Eg ops W=true) {i:Nat} {o:Oper} (hi:ops[i]? = some o) (hE:isE o.op=true) :
  ∀ (T:pg) (rem:List Nat) (a:Act) (w:World),rem.Nodup->Cl ops rem->chkA ops T rem none=true->runS2 P ops W C Q T a w->i∈rem->rdy ops rem i=true ->
   ep P ops o a w (fun a' w'=>(∀ j,W i j=false->C j w->C j w')/\Ob P ops W C Q (rem.erase i) a' w')
 | .fin,rem,a,w,_,_,hc,_,yc,_=>by grind [chkA]
 | .stop,rem,a,w,_,_,hc,_,_,_=>by simp [chkA] at hc
 | .ev j t alt,rem,a,w,hn,fX,hc,hr,yc,QZ=>by
  simp only [chkA,bh,Option.getD_none] at hc;simp only [runS2] at hr;obtain ⟨⟨y,hy,hst⟩,hra⟩:=hr;by_cases tD:i=j
  ·subst tD;rw [hi] at hy;simp only [oI] at hy;subst hy;exact fw (fun a' w' h=>⟨h.1,t,hc.2.2.2.1,h.2⟩) hst
  ·obtain ⟨o',t',My,VA,hs⟩:=Ei alt rem [j] a w hc.2.2.2.2 hra yc QZ (sU tD);rw [hi] at My;simp only [oI] at My;subst My;exact fw (fun a' w' h=>⟨h.1,t',VA,h.2⟩) hs
 | .op j t,rem,a,w,hn,fX,hc,hr,yc,QZ=>by
  simp only [chkA,bh,Bool.not_eq_true'] at hc;obtain ⟨_,FA,hje,hjr,VA⟩:=hc;have FA:j∈rem:=sU FA;simp only [runS2] at hr;obtain ⟨y,hy,v,hyv,hyc,hrt⟩:=hr;have tD:i≠j:=by grind [Uu]
  have OQ:=Eh hP fX QZ hjr yc FA tD (.inr hje);obtain ⟨Yt,ap2,_,hLW⟩:=im OQ hy hi;have Rz:=fun cs b=>kC i o cs b hi;have hsy:=fun cs b=>kC j y cs b hy;have ih:=IX kC hP hi hE t (rem.erase j) (a.put y.dst v) w (hn.erase j) (Bl hn fX hjr) VA hrt ((List.mem_erase_of_ne tD).2 yc) (q7 QZ);refine fw ?_ (rZ ((vD Yt Rz).1 ih));rintro a' w' ⟨⟨QV,T',hT',hrT⟩,u,rfl⟩;refine ⟨QV,.op j T',?_,?_⟩
  ·grind [chkA,q7]
  ·grind [runS2,Yl.same]
theorem Qn {Q':Exit->Act->World->Prop} (kC:∀ (j:Nat) (o:Oper) cs b,ops[j]? = some o->o.op ≠ .select cs b) (hP:Eg ops W=true) (hb:∀ (i:Nat) (o:Oper),ops[i]? = some o->∀ e∈o.after,Region.binds .any e=true->e.on < ops.size)
  (hQ:∀ a w,Q a w->Q' .normal a w):∀ (nh:Nat) (bq:Array Bool) (rem:List Nat) (a:Act) (w:World),
  bq.size=ops.size->(∀ i,i∈rem↔i < ops.size/\bq.getD i true=false)->rem.Nodup->Cl ops rem->rem.length<=nh->Ob P ops W C Q rem a w->wpAny P .any ops Q' nh bq a w:=by
 have XP:∀ (bq:Array Bool) (rem:List Nat),bq.size=ops.size->(∀ i,i∈rem↔i < ops.size/\bq.getD i true=false)->∀ i,i∈Region.ready .any ops bq↔i∈rem/\rdy ops rem i=true:=by
  intro bq rem cK yb i;have hl:∀ k,k < ops.size->(bq.getD k false=true↔k ∉ rem):=fun k hk=>by grind
  rw [mem_ready]
  grind [rdy,nP]
 intro nh
 induction nh with
 | zero=>
  intro bq rem a w cK yb hn fX hlen hr;have:rem=[]:=List.length_eq_zero_iff.1 (by omega);subst this;obtain ⟨T,hT,hrT⟩:=hr;refine ⟨?_,hQ _ _ ?_⟩
  ·rw [List.eq_nil_iff_forall_not_mem];intro i hi;cases ((XP bq [] cK yb i).1 hi).1
  ·cases T with
   | fin=>exact hrT
   | op i t=>simp [chkA] at hT
   | ev i t alt=>simp [chkA] at hT
   | stop=>simp [chkA] at hT
 | succ nh ih=>
  intro bq rem a w cK yb hn fX hlen hr;obtain ⟨T,hT,hrT⟩:=hr;refine ⟨fun h0=>?_,fun i hi=>?_⟩
  ·cases T with
   | fin=>exact hQ _ _ hrT
   | op i t=>
    exfalso;simp only [chkA,bh] at hT;have:=(XP bq rem cK yb i).2 ⟨by simpa using hT.2.1,hT.2.2.2.1⟩;rw [h0] at this;cases this
   | ev i t alt=>
    exfalso;simp only [chkA,bh] at hT;have:=(XP bq rem cK yb i).2 ⟨by simpa using hT.1,hT.2.2.1⟩;rw [h0] at this;cases this
   | stop=>simp [chkA] at hT
  ·obtain ⟨yc,hir⟩:=(XP bq rem cK yb i).1 hi;obtain ⟨o,ho,_⟩:=nP hir;have o0:=(Array.getElem?_eq_some_iff.1 ho).1
   have Hh:∀ k,k∈rem.erase i↔k < ops.size/\(bq.setIfInBounds i true).getD k true=false:=by
    intro k;rw [List.Nodup.mem_erase_iff hn];by_cases xl:k=i
    ·subst xl;simp [cK,o0]
    ·rw [getD_set_ne true (Ne.symm xl)]
     grind
   grind [Ob,Bl,CJ,isE,fw,IX,Bn,mf]
end
section
variable {X:Ctx} {st:St} {E:En} {a:Act} {w:World}
end
section
variable {X:Ctx} {st:St} {k:List It} {E:En} {a:Act} {w:World} {ops:Array Oper} {C:Nat->World->Prop} {Q:Act->World->Prop} {W:Nat->Nat->Bool} {T:pg}
theorem ahf {i:Nat} {o:Oper} (hR:Rel X E st a w) (ho:ops[i]? = some o) (hL:isL o.op=false) (hg:o.guard=none) {s:DV} (hs:pureT X.P X.T ⟨st.sl,[],[]⟩ [] o.op=some s) (hd:fU X.nt st.sl o.dst=true)
  (hk:∀ a',Rel X E (st.put o.dst ⟨[],s⟩) a' w->runS2 X.P ops W C Q T a' w):runS2 X.P ops W C Q (.op i T) a w:=by
 have gW:Rl E [] (fun _=>False) st.sl a:=⟨hR.tm,fun i cs hi=>by simp at hi,fun _ _ _ _ h=>h.elim⟩;obtain ⟨v,hv,bV⟩:=gv (st:=⟨st.sl,[],[]⟩) X.hT gW (bi _) hs;exact ⟨o,ho,v,.inl ⟨dD hg,fun w' _=>bV w' fun h=>by rw [hL] at h;cases h⟩,fun h=>(by rw [hL] at h;cases h),hk _ (bu hR hd s v hv)⟩
theorem ZP {i:Nat} {o:Oper} (hR:Rel X E st a w) (ho:ops[i]? = some o) {bx:List (List DV)} (gW:Rl E bx (C i) st.sl a) (hCw:C i w) (hg:o.guard=none) {s:DV} (hs:pureT X.P X.T ⟨st.sl,bx,[]⟩ [] o.op=some s) (hd:fU X.nt st.sl o.dst=true)
  (hk:∀ a',Rel X E (st.put o.dst ⟨[],s⟩) a' w->runS2 X.P ops W C Q T a' w):runS2 X.P ops W C Q (.op i T) a w:=by
 obtain ⟨v,hv,bV⟩:=gv (st:=⟨st.sl,bx,[]⟩) X.hT gW (bi _) hs;exact ⟨o,ho,v,.inl ⟨dD hg,fun w' h=>bV w' h⟩,fun _=>hCw,hk _ (bu hR hd s v hv)⟩
theorem drawG_2 {id:Nat} (W:Nat->Nat->Bool) (T:pg) (hm:X.P.follows .mixedOrders=true) (hc:(ag7 ops && Eg ops W && chkA ops T (List.range ops.size) none)=true)
  (h:∀ E a w,Rel X E st a w->∃ C,runS2 X.P ops W C (kq X k .normal) T a w):xi X id ops k st:=by
 intro E a w hr;have py:=mX hr;simp only [bh] at hc;obtain ⟨⟨hN,hP⟩,hT⟩:=hc;simp only [ag7,bh,List.all_eq_true,List.mem_range] at hN;obtain ⟨C,bV⟩:=h E a w.drew py;refine wp_region_any hm ?_;refine Qn (C:=C) (Q:=kq X k .normal) (Region.noSelect_spec hN.1) hP (fun i o ho e he hb=>?_) (fun a w hq=>hq) ops.size (Array.replicate ops.size false) (List.range ops.size) a _ (by simp) ?_ List.nodup_range ?_ (by simp) ⟨T,hT,bV⟩
 ·have h1:=hN.2 i (Array.getElem?_eq_some_iff.1 ho).1;rw [ho] at h1;have h2:=List.all_eq_true.1 h1 e (sU he);rw [hb] at h2;simpa using h2
 ·simp_all
 ·intro k o ho hk
  grind
end
end Dv
end Go.Proofs.YtfdedoiiahbnnaaGreat
namespace Go.Proofs.YtfdedoiiahbnnaaGreat
namespace Dv
open Go Go.RowKit
section
variable {X:Ctx} {st:St} {E:En} {a:Act} {w:World}
theorem Oc {o:Oper} {ty i off n:Nat} {p x:Operand} {d:DV} {cs:List DV} (h:Rel X E st a w) (ho:o.op = .store ty p x) (hp:rv st [] p=some (.loc i off)) (hx:rv st [] x=some d) (hn:X.T.sz ty=some n) (cx:st.bx[i]? = some cs)
  (hc:(Nat.blt 0 n && Nat.beq d.cells.length n && Nat.ble (off + n) cs.length)=true) (hst:X.still=false) :
  ∃ w',(execOp a.eval o).run X.P w = .ok .skip w' /\ Rel X E ⟨st.sl,st.bx.set i (cs.take off ++ d.cells ++ cs.drop (off + d.cells.length)),st.tk⟩ a w':=by
 have gW:=h.rl;simp only [bh,Nat.beq_eq,Nat.ble_eq,Nat.blt_eq] at hc;have hn:=Ct X.hT hn;have e1:=bm gW hp;unfold Rv at e1;obtain ⟨b,hb,e1⟩:=e1;have e2:=bm gW hx;have hvc:=e2.cells (iG hc.1.2 (by omega));obtain ⟨b',Gy,arr,fj,hw,hca⟩:=h.env.eQ i cs cx;rw [hb] at fj;simp only [oI] at fj;subst fj;have Yq:arr.length=cs.length:=hca.1.length;have zf:(a.eval x).cells.toList.length=n:=by rw [hvc.1.length];exact hc.1.2
 have Vv:=iT (P:=X.P) (off:=off) hw hn zf (by simp;omega) (List.all_eq_true.2 hvc.2);refine ⟨World.dc w b (.cells ((arr.take off ++ (a.eval x).cells.toList ++ arr.drop (off + n)).toArray) Gy (0,0)),?_,?_⟩
 ·simp only [execOp,ho,e1,Instr.storeAt,Instr.sureAddr,Sem.run_bind,Sem.run_pure,Result.andThen_ok,Vv]
 ·have dO:RvC E (cs.take off ++ d.cells ++ cs.drop (off + d.cells.length)) (arr.take off ++ (a.eval x).cells.toList ++ arr.drop (off + n)):=by
   rw [hc.1.2];exact ((hca.take off).append hvc).append (hca.drop _)
  exact kM (ty:=Gy) h hst hb dO ⟨_,hw⟩
end
section
variable {X:Ctx} {st:St} {E:En} {a:Act} {w:World}
theorem LI {ops:Array Oper} {W:Nat->Nat->Bool} {C:Nat->World->Prop} {Q:Act->World->Prop} {T T':pg} {i:Nat} {o:Oper} (ho:ops[i]? = some o) (hg:o.guard=none) (h:wq X.P o a w fun a' w'=>(∀ j,W i j=false->C j w->C j w')/\runS2 X.P ops W C Q T a' w') (halt:runS2 X.P ops W C Q T' a w):runS2 X.P ops W C Q (.ev i T T') a w:=
 ⟨⟨o,ho,by unfold ep;rw [zIfP (dD hg)];exact h⟩,halt⟩
theorem XQ {o:Oper} {f:Operand} {args:Array Operand} {W9:Array TypeId} {g:FuncId} {fi ca ds:List DV} {K:Act->World->Prop} (hR:Rel X E st a w) (hop:o.op = .call ⟨.value f,args,W9⟩) (hf:rv st [] f=some (.fn g fi ca)) (hl:argsV st [] args.toList=some ds) (gY:Enters X.P g)
  (hc:∀ vs,RvL E (fi ++ ds ++ ca) vs->Calls X.P g vs.toArray w fun e w'=>∃ v,e = .returned v/\K (a.put o.dst v) w'):wq X.P o a w K:=by
 have gW:=hR.rl;have e1:=bm gW hf;unfold Rv at e1;obtain ⟨l1,r1,e1,jr,hr1⟩:=e1;have hargs:=ik gW (bi _) _ _ hl;have fW:=(jr.append hargs).append hr1;obtain ⟨dst,op,ty,pos,after,gu⟩:=o;simp only at hop;subst hop
 have hr:(execOp a.eval ⟨dst,.call ⟨.value f,args,W9⟩,ty,pos,after,gu⟩).run X.P w = .ok (.enter g (l1 ++ args.toList.map a.eval ++ r1).toArray) w:=by
  have e3:(l1.toArray ++ args.map a.eval ++ r1.toArray)=(l1 ++ args.toList.map a.eval ++ r1).toArray:=by apply Array.ext';simp
  simp only [execOp,resolve,e1,Deferred.ofValue,Sem.run_bind,Sem.run_pure,Result.andThen_ok,invoke,e3];exact gY _ _
 unfold wq;rw [hr];exact hc _ fW
section
variable {ops:Array Oper} {W:Nat->Nat->Bool} {C:Nat->World->Prop} {Q:Act->World->Prop} {T T':pg} {i:Nat} {o:Oper}
theorem UD {st':St} (hR:Rel X E st a w) (ho:ops[i]? = some o) (hg:o.guard=none) (hop:OpS X o st st') (hk:∀ a' E' w',Rel X E' st' a' w' -> J3 none E w E' w' -> (∀ j,W i j=false->C j w->C j w')/\runS2 X.P ops W C Q T a' w') (halt:runS2 X.P ops W C Q T' a w):runS2 X.P ops W C Q (.ev i T T') a w:=
 LI ho hg (kA (fun a' w' ⟨E',h1,h2⟩=>hk a' E' w' h1 h2) (hop E a w hR)) halt
theorem Od {S':St} {p:Prop} (hR:Rel X E st a w) (ho:ops[i]? = some o) (hg:o.guard=none) (hd:fU X.nt st.sl o.dst=true) (hp:effC X st o (fun s=>s=S')=some p) (h:p) (hk:∀ a' E' w',Rel X E' S' a' w' -> J3 (stObj st o.op) E w E' w' -> (∀ j,W i j=false->C j w->C j w')/\runS2 X.P ops W C Q T a' w') (halt:runS2 X.P ops W C Q T' a w):runS2 X.P ops W C Q (.ev i T T') a w:=
 LI ho hg (kA (fun a' w' ⟨st',E',h1,h2,h3⟩=>hk a' E' w' (h1 ▸ h2) h3) (lj hd hR hp h)) halt
theorem Oe {f:Operand} {args:Array Operand} {W9:Array TypeId} {g:FuncId} {fi ca ds bO:List DV} {os:List (List DV)} (hR:Rel X E st a w) (ho:ops[i]? = some o) (hg:o.guard=none) (hop:o.op = .call ⟨.value f,args,W9⟩) (hf:rv st [] f=some (.fn g fi ca)) (hl:argsV st [] args.toList=some ds) (gY:Enters X.P g)
  (n1 m1:Nat) (BM:Nat.ble n1 st.bx.length=true) (kO:Nat.ble m1 st.tk.length=true) (rT:mU [] n1 n1 m1 os (st.bx.take n1)) (ha:CcL [] n1 n1 m1 bO (fi ++ ds ++ ca)) {Φ:DV->List (List DV)->List TkE->Prop} (hc:Ev X.P g bO os (st.tk.take m1) Φ) (hst:X.still=false) (hX:X.bt=[])
  (hk:∀ v r' Zj Zi E' w',Φ r' Zj Zi -> Zj.length=n1->Zi.length=m1->Rel X E' ⟨st.sl,Zj ++ st.bx.drop n1,Zi ++ st.tk.drop m1⟩ a w' -> Rv E' r' v->Ext E E' -> E'.β=E.β->(∀ (i:Nat) b,n1<=i->E.β[i]? = some b->w'.heap[b]? = w.heap[b]?)->(∀ j,W i j=false->C j w->C j w')/\runS2 X.P ops W C Q T (a.put o.dst v) w')
  (halt:runS2 X.P ops W C Q T' a w):runS2 X.P ops W C Q (.ev i T T') a w:=
 LI ho hg (XQ hR hop hf hl gY (fun vs hv=>(uf n1 m1 BM kO rT ha hc hst hX hR hv).mono (fun e w' ⟨v,r',Zj,Zi,E',h1,h2,h3,h4,h5,h6,h7,h8,h9⟩=>⟨v,h1,hk v r' Zj Zi E' w' h2 h3 h4 h5 h6 h7 h8 h9⟩))) halt
end
theorem UE {ops:Array Oper} {W:Nat->Nat->Bool} {C:Nat->World->Prop} {k:List It} {i6 i7 i8:Nat} {o6 o7 o8:Oper} {d1 kt t ty et e kL m Ap nn ty8 n8 i off:Nat} {bb:Bool} {zz:List Value} {z:Int} {kd:IntKind} {es:List (List DV)} {cs cs' cs8:List DV} {s ix x p x8:Operand} {dv d8:DV}
  (hR:Rel X E st a w) (hW7:∀ j,W i7 j=true) (hW8:∀ j,W i8 j=true)
  (g6:ops[i6]? = some o6) (g7:ops[i7]? = some o7) (g8:ops[i8]? = some o8) (h6:o6.op = .indexAddr t s ix/\o6.dst=some d1/\o6.guard=none) (h7:o7.op = .store ty (.tmp d1) x/\o7.dst=none/\o7.guard=none) (h8:o8.op = .store ty8 p x8/\o8.dst=none/\o8.guard=none)
  (vb:fU X.nt st.sl (some d1)=true) (hs:rv st [] s=some (.sl 0 es (some kt))) (hi:rv st [] ix=some (.v (.int kd z)))
  (hx:∀ bx,rv ⟨(d1,⟨[],.pt [] 0⟩) :: st.sl,bx,st.tk⟩ [] x=some dv) (hdv:eraL dv.cells (fun l=>some l)=some cs') (Pd:dv.cells.length=e) (he0:0 < e)
  (hp:∀ tk,rv ⟨(d1,⟨[],.pt [] 0⟩) :: st.sl,st.bx,tk⟩ [] p=some (.loc i off)) (hx8:∀ tk,rv ⟨(d1,⟨[],.pt [] 0⟩) :: st.sl,st.bx,tk⟩ [] x8=some d8) (hn8:X.T.sz ty8=some n8) (ahg:st.bx[i]? = some cs8)
  (hc8:(Nat.blt 0 n8 && Nat.beq d8.cells.length n8 && Nat.ble (off + n8) cs8.length)=true)
  (hT:X.T.find t=some ⟨nn,bb,.sl et e kL,zz⟩) (cK:X.T.sz ty=some e) (hq:st.tk[kt]? = some ⟨m,Ap,e,some cs⟩) (tG:es.length=m) (hz:0<=z/\z < m)
  (hk:go X 4000 k ⟨(d1,⟨[],.pt [] 0⟩) :: st.sl,st.bx.set i (cs8.take off ++ d8.cells ++ cs8.drop (off + d8.cells.length)),st.tk.set kt ⟨m,Ap,e,some (cs.take (z.toNat * e) ++ cs' ++ cs.drop (z.toNat * e + e))⟩⟩)
  (hst:X.still=false:=by exact rfl):runS2 X.P ops W C (kq X k .normal) (.op i6 (.ev i7 (.ev i8 .fin .stop) (.ev i8 (.ev i7 .fin .stop) .stop))) a w:=by
 have gW:=hR.rl;have e2:=cH (bm gW hi);have hv:=bm gW hs;obtain ⟨g,cap,cur,e1,_⟩:=N9 hR hv hq tG (by omega);have hr1:Rel X E ⟨(d1,⟨[],.pt [] 0⟩) :: st.sl,st.bx,st.tk⟩ (a.put (some d1) (.pointer (some ⟨g,z.toNat * e,none⟩))) w:=bu hR vb (.pt [] 0) _ (by unfold Rv;exact ⟨g,z.toNat * e,rfl,by simp only [RvAt]⟩)
 have ht1:(a.put (some d1) (.pointer (some ⟨g,z.toNat * e,none⟩))).eval (.tmp d1) = .pointer (some ⟨g,z.toNat * e,none⟩):=by
  simp only [fU,bh,Nat.blt_eq] at vb;simp [Act.eval,Act.put,hR.sz,vb.1]
 have hL1:isL o6.op=false:=by rw [h6.1];all_goals rfl
 simp only [runS2];refine ⟨_,g6,.pointer (some ⟨g,z.toNat * e,none⟩),.inl ⟨dD h6.2.2,fun w9 _=>XN h6.1 e1 e2 hT hz w9⟩,fun h9=>(by rw [hL1] at h9;cases h9),?_⟩;rw [h6.2.1];generalize a.put (some d1) (.pointer (some ⟨g,z.toNat * e,none⟩))=a1 at hr1 ht1 ⊢;have w7:=dD (ops:=ops) (a:=a1) h7.2.2;have w8:=dD (ops:=ops) (a:=a1) h8.2.2;refine ⟨⟨_,g7,?_⟩,⟨_,g8,?_⟩,trivial⟩
 ·unfold ep;rw [zIfP w7];obtain ⟨w1,E1,bV,ki⟩:=Oa hr1 h7.1 ht1 hv e1 (hx _) hdv Pd he0 cK hq tG hz hst;refine qK bV ?_;rw [h7.2.1,show a1.put none undef=a1 from rfl];refine ⟨fun j hj=>(by rw [hW7] at hj;cases hj),⟨_,g8,?_⟩,trivial⟩;rw [zIfP w8];obtain ⟨w2,UF,hr3⟩:=Oc ki h8.1 (hp _) (hx8 _) hn8 ahg hc8 hst;refine qK UF ?_;rw [h8.2.1];exact ⟨fun j hj=>(by rw [hW8] at hj;cases hj),go_sound 4000 _ _ hk _ _ _ hr3⟩
 ·unfold ep;rw [zIfP w8];obtain ⟨w1,bV,ki⟩:=Oc hr1 h8.1 (hp _) (hx8 _) hn8 ahg hc8 hst;refine qK bV ?_;rw [h8.2.1,show a1.put none undef=a1 from rfl];refine ⟨fun j hj=>(by rw [hW8] at hj;cases hj),⟨_,g7,?_⟩,trivial⟩;rw [zIfP w7];obtain ⟨w2,E2,UF,hr3⟩:=Oa ki h7.1 ht1 hv e1 (hx _) hdv Pd he0 cK hq tG hz hst;refine qK UF ?_;rw [h7.2.1];exact ⟨fun j hj=>(by rw [hW7] at hj;cases hj),go_sound 4000 _ _ hk _ _ _ hr3⟩
end
end Dv
end Go.Proofs.YtfdedoiiahbnnaaGreat
