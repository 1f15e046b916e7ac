/- Part 8 of the proof: Whole numbers in texts: the program's Take, whatever stands there; Tokens, whatever stands there: plain; the program's token; Tokens, whatever stands there: the program's token, remark; Remarks; all tokens of a text: plain; the program's remark; All tokens of a text, or what is wrong: plain; the program's Scan; All tokens of a text, or what is wrong: the program's Scan; Whole numbers in texts: the document's great, Take; Whole numbers in texts: digits compared; the document's Take; Typed values out of values as they are written: plain; Values as they are written, with their records the other way round: plain; Values as they are written, at another place: plain; The first edge of a name; Regions that draw their order, in which two new objects may come in either order; Regions that draw their order, in which several new objects may come in any order; Typed: bad, truth, number, text, enum, find, call; The least depths of the values of a plan's nodes: plain; Which nodes have several values: plain; How many unlike values nodes have: plain, as the document counts; The program's nodes, least depths; The document's least depths; fine; the chapter's example; The program's Depths; The law of least depths: fine, the example, the call returns true; The program's several, Several; The document's count, Many; the law of several values: the call returns true; The document's Many; the law of several values: the call returns true; First and second values: tags, sizes: plain; Regions that draw their order and only read: run with one state; Sample: the program's tags and sizes; Sample: the program's turn, part, first, changed; First and second values: the tables, the values: plain; Sample: the program's first, changed, second; Sample: the program's second; Sample: make1: all sizes; Rules for the evaluator: a slice literal without elements, its cells known; Rules for the evaluator: a slice literal, its cells known; A contract that hands back a fresh row is one of data alone, too; Paths of a value: plain; tree.steps; Where steps lead in a value, and that value with another one there: plain; tree: slices.Index of steps, kid, clone, Get; tree: put, Set; Sample: one: first values; Sample: two: second values; Sample: fits, First, Second; no plan; Values along paths: what stands beside, what is alive, the value itself: plain; The document's Bottom, Right of paths; the program's Right of paths; Where steps lead: the document's Edge, Walk; the program's; The program's way along steps: fits, step, Walk; Sample: what stands beside, the nodes and edges of a path, what is alive; With which schemas nothing is wrong: the document's Wrong of chapters 20, 21; the law's fine; Which levels see a place: the program's Who; Sample: the nodes and edges of a path, what is alive; Sample: a value with another one in it; Typed: list, opt; Typed: opt, union; Typed: union; Typed: record; Typed: record; tree.write, Raw; The document's Fits; Written values: well formed; the document's Same on the same value; its Raw; What is read of a value, as the plain data; What the frames of laws over values share; Values as they are written: how big they are; what is read of them; Typed: Check; how many values are in what is written; The law's turned, where nothing changes places; Whole numbers in texts: the document's Take; Escapes: the document's hex; Escapes: the document's One; Texts in quotes: the unit at a place, as it is written; Texts in quotes: the document's unit; the program's and the document's Quote; Texts in quotes that are read: the document's Unquote; Tokens: the document's Signs at a place, Mark, one; Tokens: the document's Mark, one; All tokens of a text, or what is wrong: the document's Scan; The reader of schemas: its end; Parse, what it reads known; The readers of schemas: any text is read as the document reads it; The law of checks: the call returns true; What is wrong with a coarse view, exactly: the document's Wrong of chapter 20; What is wrong with a coarse view: the program's effect.Check; The chapter's examples of checked schemas. No condition. -/
import Derived.Test.YtfdedoiiahbnnaaGreatNd2
import Derived.Test.YtfdedoiiahbnnaaGreatNd3
import Derived.Test.YtfdedoiiahbnnaaGreatNd4
import Derived.Test.YtfdedoiiahbnnaaGreatNd5
import Derived.Test.YtfdedoiiahbnnaaGreatNd6
import Derived.Test.YtfdedoiiahbnnaaGreatNd7
set_option linter.all false
set_option maxRecDepth 100000
namespace Go.Proofs.YtfdedoiiahbnnaaGreat
open Go Go.RowKit Dv Go.Proofs.Tryz
def yo (T:List UInt8) (n i a:Nat) (m:Bool):Int × Int × Int × Int:=
 if digN (T.drop a)=0/\a=n then (0,0,5,a)
 else if digN (T.drop a)=0 then (0,0,19,a)
 else if (T[a]?).map UInt8.toNat=some 48/\(1 < digN (T.drop a)∨m=true) then (0,0,19,i)
 else if (gn ((T.drop a).take (digN (T.drop a))) m).2=true then ((gn ((T.drop a).take (digN (T.drop a))) m).1,(a + digN (T.drop a):Nat),0,0)
 else (0,0,13,i)
theorem uV {s:ByteArray} {i:Nat} {c:UInt8} (h:(tx s)[i]? = some c):takeN s i=yo (tx s) s.size i (if c.toNat=45 then i + 1 else i) (decide (c.toNat=45)):=by
 unfold takeN yo;have h':s.data.toList[i]? = some c:=h;rw [h'];by_cases h5:c.toNat=45
 ·simp only [h5,decide_true,if_true];rfl
 ·simp only [decide_eq_false h5,af h5];rfl
theorem Jl {l:List UInt8} {m:Bool} (h:(gn l m).2=false):gn l m=(0,false):=by grind [gn]
abbrev tkD (q:Int × Int × Int × Int):DV:=.bo [.v (.int .i64 q.1),.v (.int .i64 q.2.1),Ft.d q.2.2]
set_option maxHeartbeats 2000000 in
theorem LX (s:ByteArray) (hs:s.size<=1099511627776) (i:Nat) (hi:i < s.size):aR prog 291 [.v (.string s),.v (.int .i64 i)] (tkD (takeN s i)):=by
 have gf:=bd s;obtain ⟨c,eH,hb⟩:=bl hi
 have V8:(tx s)[i]? = some c:=by
  have:=congrArg List.head? eH
  rwa [List.head?_drop,List.head?_cons] at this
 rw [uV V8];obtain ⟨zi,yp⟩:∃ zi:Int,zi=(i:Nat):=⟨_,rfl⟩;obtain ⟨z,hz⟩:∃ z:Int,z=((c.toNat:Nat):Int):=⟨_,rfl⟩;have jI:((aq s zi.toNat:Nat):Int)=z:=by rw [yp,dV,hb,hz]
 have s7:IntKind.i64.wrap (zi + 1)=((i + 1:Nat):Int):=by rw [yp];exact nxt hi (by omega)
 rw [<- yp];by_cases P5:c.toNat=45
 ·have X7:z=45:=by omega
  rw [zIfP P5,decide_eq_true P5];have hA:IntKind.i64.wrap (zi + 1)=((i + 1:Nat):Int):=s7;have hle0:i + 1<=s.size:=by omega
  have hx:tx (s.extract (IntKind.i64.wrap (zi + 1)).toNat (s.size:Int).toNat)=(tx s).drop (i + 1):=by rw [hA,dV];exact uA s (i + 1) hs
  have MC:=congrArg List.length hx;rw [bd,List.length_drop,gf] at MC;have bV:aR prog 334 [.v (.string (s.extract (IntKind.i64.wrap (zi + 1)).toNat (s.size:Int).toNat))] (.v (.int .i64 (digN (tx (s.extract (IntKind.i64.wrap (zi + 1)).toNat (s.size:Int).toNat)):Nat))):=vN _ (by omega);rw [hx] at bV;have iP:=qP ((tx s).drop (i + 1));rw [List.length_drop,gf] at iP;have fW:=pQ ((tx s).drop (i + 1))
  have hR:yo (tx s) s.size i (i + 1) true=if digN ((tx s).drop (i + 1))=0/\(i + 1)=s.size then (0,0,5,((i + 1:Nat):Int))
   else if digN ((tx s).drop (i + 1))=0 then (0,0,19,((i + 1:Nat):Int))
   else if ((tx s)[i + 1]?).map UInt8.toNat=some 48/\(1 < digN ((tx s).drop (i + 1))∨true=true) then (0,0,19,((i:Nat):Int))
   else if (gn (((tx s).drop (i + 1)).take (digN ((tx s).drop (i + 1)))) true).2=true then ((gn (((tx s).drop (i + 1)).take (digN ((tx s).drop (i + 1)))) true).1,(((i + 1) + digN ((tx s).drop (i + 1)):Nat):Int),0,0)
   else (0,0,13,((i:Nat):Int)):=rfl
  generalize yo (tx s) s.size i (i + 1) true=R at hR ⊢;have hy:∀ k,(i + 1) + k<=s.size->tx (s.extract (i + 1) ((i + 1) + k))=((tx s).drop (i + 1)).take k:=fun k hk=>by simp [tx,List.drop_take]
  generalize hK:digN ((tx s).drop (i + 1))=k at *;obtain ⟨zk,hzk⟩:∃ zk:Int,zk=((k:Nat):Int):=⟨_,rfl⟩;rw [<- hzk] at bV;have hY:=hy k (by omega);have OP:IntKind.i64.wrap (IntKind.i64.wrap (zi + 1) + zk)=((i + 1 + k:Nat):Int):=by rw [hA,hzk,wrap64 (by omega) (by omega)];omega
  have BQ:(IntKind.i64.wrap (IntKind.i64.wrap (zi + 1) + zk)).toNat=i + 1 + k:=by omega
  have Q8:(IntKind.i64.wrap (zi + 1)).toNat=i + 1:=by omega
  have hval:=vO (s.extract (IntKind.i64.wrap (zi + 1)).toNat (IntKind.i64.wrap (IntKind.i64.wrap (zi + 1) + zk)).toNat) (by
   rw [Q8,BQ];have:=congrArg List.length hY;rw [bd,zLenT,List.length_drop] at this
   omega) true (by rw [Q8,BQ];show ∀ c∈tx _,_;rw [hY];exact fW)
  have hY':(s.extract (IntKind.i64.wrap (zi + 1)).toNat (IntKind.i64.wrap (IntKind.i64.wrap (zi + 1) + zk)).toNat).data.toList=((tx s).drop (i + 1)).take k:=by rw [Q8,BQ];exact hY
  rw [hY'] at hval;have hvb:=@Jl (((tx s).drop (i + 1)).take k) true;generalize gn (((tx s).drop (i + 1)).take k) true=V at hval hR hvb;obtain ⟨V1,V2⟩:=V;simp only at hR hvb;have hvD:DV.v (.bool (decide (z=45))) = .v (.bool true):=by rw [decide_eq_true X7]
  rw [<- hvD] at hval;refine eG 88 [.tmp 4,.tmp 5,.cell 6 26] func291 rfl ntmps291 rfl fun _ _ _ _=>?_;refine br (fun g=>?_) (fun _=>?_)
  ·exfalso;simp [ak] at g;omega
  refine br (fun _=>?_) (fun g=>absurd (show zi < s.size by omega) (sU g));refine ⟨⟨by omega,by omega⟩,?_⟩;rw [jI];refine br (fun _=>?_) (fun g=>?_)
  rotate_left
  ·exfalso;simp [pickB,X7] at g
  refine ⟨⟨by omega,by omega,by omega⟩,?_⟩;refine cP Sc bV ?_;by_cases h0:k=0
  ·by_cases hE:i + 1=s.size
   ·rw [zIfP ⟨h0,hE⟩] at hR;subst hR;refine br (fun _=>?_) (fun g=>?_)
    rotate_left
    ·exfalso;simp [pickB_and] at g;omega
    have hX:=congrArg (fun z=>DV.v (.int .i64 z)) hA;exact ⟨_,(by repeat' (first | exact rfl | exact trivial | exact Or.inr (Or.inl ⟨_,rfl⟩) | exact Or.inr ⟨_,rfl⟩ | exact Or.inl ⟨rfl,rfl⟩ | exact Or.inl rfl | refine Or.inr ⟨_,_,rfl,Nat.zero_le _,rfl,?_⟩ | refine ⟨_,_,rfl,?_,?_⟩ | refine ⟨_,rfl,?_⟩ | exact hX | refine Or.inr (Or.inr (Or.inr ⟨_,_,rfl,?_⟩)) | exact Or.inl rfl | refine Or.inr ?_)),rfl⟩
   ·rw [af (fun h=>hE h.2),zIfP h0] at hR;subst hR;refine br (fun g=>?_) (fun _=>?_)
    ·exfalso;simp [pickB_and] at g;omega
    refine br (fun _=>?_) (fun g=>absurd (show zk=0 by omega) (sU g));have hX:=congrArg (fun z=>DV.v (.int .i64 z)) hA;exact ⟨_,(by repeat' (first | exact rfl | exact trivial | exact Or.inr (Or.inl ⟨_,rfl⟩) | exact Or.inr ⟨_,rfl⟩ | exact Or.inl ⟨rfl,rfl⟩ | exact Or.inl rfl | refine Or.inr ⟨_,_,rfl,Nat.zero_le _,rfl,?_⟩ | refine ⟨_,_,rfl,?_,?_⟩ | refine ⟨_,rfl,?_⟩ | exact hX | refine Or.inr (Or.inr (Or.inr ⟨_,_,rfl,?_⟩)) | exact Or.inl rfl | refine Or.inr ?_)),rfl⟩
  rw [af (fun h=>h0 h.1),af h0] at hR;refine br (fun g=>?_) (fun _=>?_)
  ·exfalso;simp [pickB_and] at g;omega
  refine br (fun g=>absurd (of_decide_eq_true g) (by omega)) (fun _=>?_);obtain ⟨b,U6,JJ⟩:=bl (s:=s) (k:=i + 1) (by omega)
  have hbi:(tx s)[i + 1]? = some b:=by
   have:=congrArg List.head? U6
   rwa [List.head?_drop,List.head?_cons] at this
  rw [hbi] at hR;obtain ⟨zb,Qy⟩:∃ zb:Int,zb=((b.toNat:Nat):Int):=⟨_,rfl⟩;have LY:((aq s (IntKind.i64.wrap (zi + 1)).toNat:Nat):Int)=zb:=by rw [Q8,JJ,Qy]
  refine ⟨⟨by omega,by omega⟩,?_⟩;rw [LY];by_cases DQ:b.toNat=48/\(1 < k∨true=true)
  ·rw [zIfP ⟨by simp [DQ.1],by simpa using DQ.2⟩] at hR;subst hR;refine br (fun _=>?_) (fun g=>?_)
   rotate_left
   ·exfalso;have:=DQ.1;simp [pickB_and,ak,X7] at g;omega
   have hX:=congrArg (fun z=>DV.v (.int .i64 z)) yp;exact ⟨_,(by repeat' (first | exact rfl | exact trivial | exact Or.inr (Or.inl ⟨_,rfl⟩) | exact Or.inr ⟨_,rfl⟩ | exact Or.inl ⟨rfl,rfl⟩ | exact Or.inl rfl | refine Or.inr ⟨_,_,rfl,Nat.zero_le _,rfl,?_⟩ | refine ⟨_,_,rfl,?_,?_⟩ | refine ⟨_,rfl,?_⟩ | exact hX | refine Or.inr (Or.inr (Or.inr ⟨_,_,rfl,?_⟩)) | exact Or.inl rfl | refine Or.inr ?_)),rfl⟩
  rw [af (fun h=>DQ ⟨by simpa using h.1,by simpa using h.2⟩)] at hR;refine br (fun g=>?_) (fun _=>?_)
  ·exfalso;simp [pickB_and,ak,X7] at g;apply DQ;exact ⟨by omega,.inr rfl⟩
  refine ⟨⟨by omega,by omega,by omega⟩,?_⟩;refine cP Sd hval ?_
  cases V2 with
  | true=>
   rw [zIfP rfl] at hR;subst hR;have hX:=congrArg (fun z=>DV.v (.int .i64 z)) OP;exact ⟨_,(by repeat' (first | exact rfl | exact trivial | exact Or.inr (Or.inl ⟨_,rfl⟩) | exact Or.inr ⟨_,rfl⟩ | exact Or.inl ⟨rfl,rfl⟩ | exact Or.inl rfl | refine Or.inr ⟨_,_,rfl,Nat.zero_le _,rfl,?_⟩ | refine ⟨_,_,rfl,?_,?_⟩ | refine ⟨_,rfl,?_⟩ | exact hX | refine Or.inr (Or.inr (Or.inr ⟨_,_,rfl,?_⟩)) | exact Or.inl rfl | refine Or.inr ?_)),rfl⟩
  | false=>
   have:=hvb rfl;injection this with hV1 _
   subst hV1;rw [af (by simp)] at hR;subst hR;have hX:=congrArg (fun z=>DV.v (.int .i64 z)) yp;exact ⟨_,(by repeat' (first | exact rfl | exact trivial | exact Or.inr (Or.inl ⟨_,rfl⟩) | exact Or.inr ⟨_,rfl⟩ | exact Or.inl ⟨rfl,rfl⟩ | exact Or.inl rfl | refine Or.inr ⟨_,_,rfl,Nat.zero_le _,rfl,?_⟩ | refine ⟨_,_,rfl,?_,?_⟩ | refine ⟨_,rfl,?_⟩ | exact hX | refine Or.inr (Or.inr (Or.inr ⟨_,_,rfl,?_⟩)) | exact Or.inl rfl | refine Or.inr ?_)),rfl⟩
 ·have X7:¬ z=45:=by omega
  rw [af P5,decide_eq_false P5];have hA:zi=((i:Nat):Int):=yp;have hle0:i<=s.size:=by omega
  have hx:tx (s.extract (zi).toNat (s.size:Int).toNat)=(tx s).drop (i):=by rw [hA,dV];exact uA s (i) hs
  have MC:=congrArg List.length hx;rw [bd,List.length_drop,gf] at MC;have bV:aR prog 334 [.v (.string (s.extract (zi).toNat (s.size:Int).toNat))] (.v (.int .i64 (digN (tx (s.extract (zi).toNat (s.size:Int).toNat)):Nat))):=vN _ (by omega);rw [hx] at bV;have iP:=qP ((tx s).drop (i));rw [List.length_drop,gf] at iP;have fW:=pQ ((tx s).drop (i))
  have hR:yo (tx s) s.size i (i) false=if digN ((tx s).drop (i))=0/\(i)=s.size then (0,0,5,((i:Nat):Int))
   else if digN ((tx s).drop (i))=0 then (0,0,19,((i:Nat):Int))
   else if ((tx s)[i]?).map UInt8.toNat=some 48/\(1 < digN ((tx s).drop (i))∨false=true) then (0,0,19,((i:Nat):Int))
   else if (gn (((tx s).drop (i)).take (digN ((tx s).drop (i)))) false).2=true then ((gn (((tx s).drop (i)).take (digN ((tx s).drop (i)))) false).1,(((i) + digN ((tx s).drop (i)):Nat):Int),0,0)
   else (0,0,13,((i:Nat):Int)):=rfl
  generalize yo (tx s) s.size i (i) false=R at hR ⊢;have hy:∀ k,(i) + k<=s.size->tx (s.extract (i) ((i) + k))=((tx s).drop (i)).take k:=fun k hk=>by simp [tx,List.drop_take]
  generalize hK:digN ((tx s).drop (i))=k at *;obtain ⟨zk,hzk⟩:∃ zk:Int,zk=((k:Nat):Int):=⟨_,rfl⟩;rw [<- hzk] at bV;have hY:=hy k (by omega);have OP:IntKind.i64.wrap (zi + zk)=((i + k:Nat):Int):=by rw [hA,hzk,wrap64 (by omega) (by omega)];omega
  have BQ:(IntKind.i64.wrap (zi + zk)).toNat=i + k:=by omega
  have Q8:(zi).toNat=i:=by omega
  have hval:=vO (s.extract (zi).toNat (IntKind.i64.wrap (zi + zk)).toNat) (by
   rw [Q8,BQ];have:=congrArg List.length hY;rw [bd,zLenT,List.length_drop] at this
   omega) false (by rw [Q8,BQ];show ∀ c∈tx _,_;rw [hY];exact fW)
  have hY':(s.extract (zi).toNat (IntKind.i64.wrap (zi + zk)).toNat).data.toList=((tx s).drop (i)).take k:=by rw [Q8,BQ];exact hY
  rw [hY'] at hval;have hvb:=@Jl (((tx s).drop (i)).take k) false;generalize gn (((tx s).drop (i)).take k) false=V at hval hR hvb;obtain ⟨V1,V2⟩:=V;simp only at hR hvb;have hvD:DV.v (.bool (decide (z=45))) = .v (.bool false):=by rw [decide_eq_false X7]
  rw [<- hvD] at hval;refine eG 88 [.tmp 4,.tmp 5,.cell 6 26] func291 rfl ntmps291 rfl fun _ _ _ _=>?_;refine br (fun g=>?_) (fun _=>?_)
  ·exfalso;simp [ak] at g;omega
  refine br (fun _=>?_) (fun g=>absurd (show zi < s.size by omega) (sU g));refine ⟨⟨by omega,by omega⟩,?_⟩;rw [jI];refine br (fun g=>?_) (fun _=>?_)
  ·exfalso;simp [pickB] at g;exact X7 g
  refine ⟨⟨by omega,by omega,by omega⟩,?_⟩;refine cP Sc bV ?_;by_cases h0:k=0
  ·by_cases hE:i=s.size
   ·rw [zIfP ⟨h0,hE⟩] at hR;subst hR;refine br (fun _=>?_) (fun g=>?_)
    rotate_left
    ·exfalso;simp [pickB_and] at g;omega
    have hX:=congrArg (fun z=>DV.v (.int .i64 z)) hA;exact ⟨_,(by repeat' (first | exact rfl | exact trivial | exact Or.inr (Or.inl ⟨_,rfl⟩) | exact Or.inr ⟨_,rfl⟩ | exact Or.inl ⟨rfl,rfl⟩ | exact Or.inl rfl | refine Or.inr ⟨_,_,rfl,Nat.zero_le _,rfl,?_⟩ | refine ⟨_,_,rfl,?_,?_⟩ | refine ⟨_,rfl,?_⟩ | exact hX | refine Or.inr (Or.inr (Or.inr ⟨_,_,rfl,?_⟩)) | exact Or.inl rfl | refine Or.inr ?_)),rfl⟩
   ·rw [af (fun h=>hE h.2),zIfP h0] at hR;subst hR;refine br (fun g=>?_) (fun _=>?_)
    ·exfalso;simp [pickB_and] at g;omega
    refine br (fun _=>?_) (fun g=>absurd (show zk=0 by omega) (sU g));have hX:=congrArg (fun z=>DV.v (.int .i64 z)) hA;exact ⟨_,(by repeat' (first | exact rfl | exact trivial | exact Or.inr (Or.inl ⟨_,rfl⟩) | exact Or.inr ⟨_,rfl⟩ | exact Or.inl ⟨rfl,rfl⟩ | exact Or.inl rfl | refine Or.inr ⟨_,_,rfl,Nat.zero_le _,rfl,?_⟩ | refine ⟨_,_,rfl,?_,?_⟩ | refine ⟨_,rfl,?_⟩ | exact hX | refine Or.inr (Or.inr (Or.inr ⟨_,_,rfl,?_⟩)) | exact Or.inl rfl | refine Or.inr ?_)),rfl⟩
  rw [af (fun h=>h0 h.1),af h0] at hR;refine br (fun g=>?_) (fun _=>?_)
  ·exfalso;simp [pickB_and] at g;omega
  refine br (fun g=>absurd (of_decide_eq_true g) (by omega)) (fun _=>?_);obtain ⟨b,U6,JJ⟩:=bl (s:=s) (k:=i) (by omega)
  have hbi:(tx s)[i]? = some b:=by
   have:=congrArg List.head? U6
   rwa [List.head?_drop,List.head?_cons] at this
  rw [hbi] at hR;obtain ⟨zb,Qy⟩:∃ zb:Int,zb=((b.toNat:Nat):Int):=⟨_,rfl⟩;have LY:((aq s (zi).toNat:Nat):Int)=zb:=by rw [Q8,JJ,Qy]
  refine ⟨⟨by omega,by omega⟩,?_⟩;rw [LY];by_cases DQ:b.toNat=48/\(1 < k∨false=true)
  ·rw [zIfP ⟨by simp [DQ.1],by simpa using DQ.2⟩] at hR;subst hR;refine br (fun _=>?_) (fun g=>?_)
   rotate_left
   ·exfalso;have:=DQ.2.resolve_right (by simp);simp [pickB_and,ak,X7] at g;omega
   have hX:=congrArg (fun z=>DV.v (.int .i64 z)) yp;exact ⟨_,(by repeat' (first | exact rfl | exact trivial | exact Or.inr (Or.inl ⟨_,rfl⟩) | exact Or.inr ⟨_,rfl⟩ | exact Or.inl ⟨rfl,rfl⟩ | exact Or.inl rfl | refine Or.inr ⟨_,_,rfl,Nat.zero_le _,rfl,?_⟩ | refine ⟨_,_,rfl,?_,?_⟩ | refine ⟨_,rfl,?_⟩ | exact hX | refine Or.inr (Or.inr (Or.inr ⟨_,_,rfl,?_⟩)) | exact Or.inl rfl | refine Or.inr ?_)),rfl⟩
  rw [af (fun h=>DQ ⟨by simpa using h.1,by simpa using h.2⟩)] at hR;refine br (fun g=>?_) (fun _=>?_)
  ·exfalso;simp [pickB_and,ak,X7] at g;apply DQ;exact ⟨by omega,.inl (by omega)⟩
  refine ⟨⟨by omega,by omega,by omega⟩,?_⟩;refine cP Sd hval ?_
  cases V2 with
  | true=>
   rw [zIfP rfl] at hR;subst hR;have hX:=congrArg (fun z=>DV.v (.int .i64 z)) OP;exact ⟨_,(by repeat' (first | exact rfl | exact trivial | exact Or.inr (Or.inl ⟨_,rfl⟩) | exact Or.inr ⟨_,rfl⟩ | exact Or.inl ⟨rfl,rfl⟩ | exact Or.inl rfl | refine Or.inr ⟨_,_,rfl,Nat.zero_le _,rfl,?_⟩ | refine ⟨_,_,rfl,?_,?_⟩ | refine ⟨_,rfl,?_⟩ | exact hX | refine Or.inr (Or.inr (Or.inr ⟨_,_,rfl,?_⟩)) | exact Or.inl rfl | refine Or.inr ?_)),rfl⟩
  | false=>
   have:=hvb rfl;injection this with hV1 _
   subst hV1;rw [af (by simp)] at hR;subst hR;have hX:=congrArg (fun z=>DV.v (.int .i64 z)) yp;exact ⟨_,(by repeat' (first | exact rfl | exact trivial | exact Or.inr (Or.inl ⟨_,rfl⟩) | exact Or.inr ⟨_,rfl⟩ | exact Or.inl ⟨rfl,rfl⟩ | exact Or.inl rfl | refine Or.inr ⟨_,_,rfl,Nat.zero_le _,rfl,?_⟩ | refine ⟨_,_,rfl,?_,?_⟩ | refine ⟨_,rfl,?_⟩ | exact hX | refine Or.inr (Or.inr (Or.inr ⟨_,_,rfl,?_⟩)) | exact Or.inl rfl | refine Or.inr ?_)),rfl⟩
def yq:gZ:=⟨0,0,0,aM,0⟩
def qx (s:ByteArray) (i:Nat):gZ × Ft:=
 if bc ((tx s).drop i)≠0 then (if bc ((tx s).drop i)<=32 then (⟨1,i,(i + bc ((tx s).drop i):Nat),s.extract i (i + bc ((tx s).drop i)),0⟩,(0,0)) else (yq,(9,(i:Int))))
 else if ¬ ey s i=⟨#[]⟩ then (⟨4,i,(i + (ey s i).size:Nat),ey s i,0⟩,(0,0))
 else if aq s i=45∨(48<=aq s i/\aq s i<=57) then (if (takeN s i).2.2.1=0 then (⟨2,i,(takeN s i).2.1,aM,(takeN s i).1⟩,(0,0)) else (yq,(takeN s i).2.2))
 else if aq s i=34 then (if (ke (tx s) i).2.2.1=0 then (⟨3,i,(ke (tx s) i).2.1,ba (ke (tx s) i).1,0⟩,(0,0)) else (yq,(ke (tx s) i).2.2))
 else (yq,(if okU ((tx s).drop i)=true then 3 else 2,(i:Int)))
theorem X8 {T:List UInt8} {n i a:Nat} {m:Bool} (h:(yo T n i a m).2.2.1=0):(yo T n i a m).2.2=(0,0):=by grind [yo,digN,gn]
theorem Jm {s:ByteArray} {i:Nat} (hi:i < s.size) (h:(takeN s i).2.2.1=0):(takeN s i).2.2=(0,0):=by
 obtain ⟨c,eH,hb⟩:=bl hi
 have V8:(tx s)[i]? = some c:=by
  have:=congrArg List.head? eH
  rwa [List.head?_drop,List.head?_cons] at this
 rw [uV V8] at h ⊢;exact X8 h
theorem Ot:∀ (k:Nat) (l:List UInt8) (a:Nat) (out:List UInt8),(unqU k l a out).2.2.1=0->(unqU k l a out).2.2=(0,0)/\a < (unqU k l a out).2.1/\(unqU k l a out).2.1<=a + l.length
 | 0,_,_,_,h=>by simp [unqU] at h
 | _ + 1,[],_,_,h=>by simp [unqU] at h
 | k + 1,c :: r,a,out,h=>by
  have hu:=gJ (l:=c :: r) (by simp);have ho:=re (c :: r);have ih:=Ot k
  grind [unqU,oneE,okU,mQ,recV,gp]
theorem Gm {s:ByteArray} {i:Nat} (hi:i < s.size) (h:(ke (tx s) i).2.2.1=0):(ke (tx s) i).2.2=(0,0)/\i < (ke (tx s) i).2.1/\(ke (tx s) i).2.1<=s.size:=by grind [Ot,tx,bd,ke,unqU]
theorem LZ (s:ByteArray) (hs:s.size<=1099511627776) (i:Nat) (hi:i < s.size):aR prog 293 [.v (.string s),.v (.int .i64 i)] (Ft.d (if okU ((tx s).drop i)=true then 3 else 2,(i:Int))):=by
 obtain ⟨c,eH,hb⟩:=bl hi;have eH:(tx s).drop i=c :: (tx s).drop (i + 1):=eH;have hu:=vP s i hs c _ eH;rw [eH];generalize okU (c :: (tx s).drop (i + 1))=ok at hu ⊢;refine eG 21 [.cell 4 26] func293 rfl ntmps293 rfl fun _ _ _ _=>?_;refine bZ Sa rfl hu ax (fun q hq=>?_);obtain ⟨z,n,rfl,_,_⟩:=hq
 cases ok with
 | true=>exact ⟨_,ax,rfl⟩
 | false=>exact ⟨_,ax,rfl⟩
theorem L0 {s:ByteArray} {i n:Nat} (hn:bc ((tx s).drop i)=n) (h0:n≠0):bM (s.extract i (i + n))=decide (n<=32):=by
 have fO:=jL ((tx s).drop i);rw [hn,List.length_drop,bd] at fO;have hx:(s.extract i (i + n)).data.toList=((tx s).drop i).take n:=by simp_all [tx]
 have cK:(s.extract i (i + n)).size=n:=by simp;omega
 have key:∀ l:List UInt8,signs (l.take (signs l))=signs l:=by
  intro l
  induction l with
  | nil=>rfl
  | cons c r ih=>grind [fY,signs]
 have ahI:bc (((tx s).drop i).take n)=n:=by
  generalize (tx s).drop i=l at hn
  cases l with
  | nil=>exact absurd hn.symm (by simpa [bc] using h0)
  | cons c r=>grind [isLet,lu,signs,xx,bc]
 rw [bM,hx,cK,ahI];simp;omega
abbrev ahJ (p:gZ × Ft):DV:=.bo [.agg (tT p.1),Ft.d p.2]
set_option maxHeartbeats 2000000 in
theorem BE (s:ByteArray) (hs:s.size<=1099511627776) (i:Nat) (hi:i < s.size):aR prog 244 [.v (.string s),.v (.int .i64 i)] (ahJ (qx s i)):=by
 have hR:qx s i=if bc ((tx s).drop i)≠0 then (if bc ((tx s).drop i)<=32 then (⟨1,i,(i + bc ((tx s).drop i):Nat),s.extract i (i + bc ((tx s).drop i)),0⟩,(0,0)) else (yq,(9,(i:Int))))
  else if ¬ ey s i=⟨#[]⟩ then (⟨4,i,(i + (ey s i).size:Nat),ey s i,0⟩,(0,0))
  else if aq s i=45∨(48<=aq s i/\aq s i<=57) then (if (takeN s i).2.2.1=0 then (⟨2,i,(takeN s i).2.1,aM,(takeN s i).1⟩,(0,0)) else (yq,(takeN s i).2.2))
  else if aq s i=34 then (if (ke (tx s) i).2.2.1=0 then (⟨3,i,(ke (tx s) i).2.1,ba (ke (tx s) i).1,0⟩,(0,0)) else (yq,(ke (tx s) i).2.2))
  else (yq,(if okU ((tx s).drop i)=true then 3 else 2,(i:Int))):=rfl
 generalize qx s i=R at hR ⊢;have ht:=nj s i hi (by omega);have fh:=@L0 s i _ rfl;have ir:=jL ((tx s).drop i);rw [List.length_drop,bd] at ir;have ht:aR prog 154 [.v (.string s),.v (.int .i64 i)] (.bo [.v (.string (s.extract i (i + bc ((tx s).drop i)))),.v (.int .i64 ((i + bc ((tx s).drop i):Nat):Int))]):=ht;have hm:=sN s hs i hi;have jt:=LX s hs i hi;have U7:=Jm hi;have huq:=Gk s hs i hi;have U8:=Gm hi;have hot:=LZ s hs i hi
 have hmz:(ey s i).size<=2:=by
  unfold ey;split
  ·decide
  ·split
   ·simp;omega
   ·decide
 obtain ⟨zi,yp⟩:∃ zi:Int,zi=(i:Nat):=⟨_,rfl⟩;generalize bc ((tx s).drop i)=n at *;by_cases h0:n≠0
 ·rw [zIfP h0] at hR
  have bF:¬ s.extract i (i + n)=⟨#[]⟩:=fun h=>by
   have:=congrArg ByteArray.size h;simp at this;have h2:(ByteArray.mk #[]).size=0:=rfl;omega
  have cK:(s.extract i (i + n)).size<=4611686018427387904:=by simp;omega
  have ZM:=iv (s.extract i (i + n)) cK;rw [fh h0] at ZM;generalize s.extract i (i + n)=M at *;refine eG 103 [.cell 4 218,.cell 5 26] func244 rfl ntmps244 rfl fun _ _ _ _=>?_;refine cP xr ht ?_;refine br (fun _=>?_) (fun g=>absurd (show M=⟨#[]⟩ by simpa using g) bF);refine cP Ki ZM ?_;by_cases JR:n<=32
  ·rw [zIfP JR] at hR;subst hR;refine br (fun g=>absurd g (by simp [JR])) (fun _=>?_);exact ⟨_,ax,rfl⟩
  ·rw [af JR] at hR;subst hR;refine br (fun _=>?_) (fun g=>absurd g (by simp;omega));exact ⟨_,ax,rfl⟩
 have h0:n=0:=by omega
 subst h0;rw [af (by simp)] at hR;rw [kE] at ht;generalize ey s i=M at *;by_cases hM:¬ M=⟨#[]⟩
 ·rw [zIfP hM] at hR;subst hR
  have hw:IntKind.i64.wrap ((i:Int) + M.size)=((i + M.size:Nat):Int):=by
   rw [wrap64 (by omega) (by omega)];omega
  have hX:=congrArg (fun z=>DV.v (Value.int .i64 z)) hw;refine eG 103 [.cell 4 218,.cell 5 26] func244 rfl ntmps244 rfl fun _ _ _ _=>?_;refine cP xr ht ?_;refine cP MZ hm ?_;refine br (fun _=>?_) (fun g=>absurd (show M=⟨#[]⟩ by simpa using g) hM);exact ⟨_,(by repeat' (first | exact rfl | exact trivial | exact Or.inr (Or.inl ⟨_,rfl⟩) | exact Or.inr ⟨_,rfl⟩ | exact Or.inl ⟨rfl,rfl⟩ | exact Or.inl rfl | refine Or.inr ⟨_,_,rfl,Nat.zero_le _,rfl,?_⟩ | refine ⟨_,_,rfl,?_,?_⟩ | refine ⟨_,rfl,?_⟩ | exact hX | refine Or.inr (Or.inr (Or.inr ⟨_,_,rfl,?_⟩)) | exact Or.inl rfl | refine Or.inr ?_)),rfl⟩
 rw [af hM] at hR;have hM:M=⟨#[]⟩:=sU hM;subst hM;obtain ⟨z,hz⟩:∃ z:Int,z=((aq s i:Nat):Int):=⟨_,rfl⟩;have jI:((aq s (i:Int).toNat:Nat):Int)=z:=by rw [dV,hz]
 refine eG 103 [.cell 4 218,.cell 5 26] func244 rfl ntmps244 rfl fun _ _ _ _=>?_;refine cP xr ht ?_;refine cP MZ hm ?_;refine ⟨⟨by omega,by omega⟩,?_⟩;rw [jI];by_cases hd:aq s i=45∨(48<=aq s i/\aq s i<=57)
 ·rw [zIfP hd] at hR;refine br (fun _=>?_) (fun g=>?_)
  rotate_left
  ·grind [ak,pickB_and]
  generalize takeN s i=Q at *;obtain ⟨Q1,Q2,Q3,Q4⟩:=Q;simp only at hR U7;refine cP Y1 jt ?_;by_cases hq:Q3=0
  ·have L4:=U7 hq;injection L4 with h3 h4
   rw [zIfP hq] at hR;subst hR h3 h4;refine aE [0,1] (fun _=>false) mo (by decide +kernel) ?_;exact ⟨_,ax,rfl⟩
  ·rw [af hq] at hR;subst hR;refine br (fun _=>?_) (fun g=>absurd g (by simp [hq]));refine aE [0,1] (fun _=>false) mo (by decide +kernel) ?_;exact ⟨_,ax,rfl⟩
 rw [af hd] at hR;refine br (fun g=>?_) (fun _=>?_)
 ·grind [ak,pickB_and]
 by_cases L4:aq s i=34
 ·rw [zIfP L4] at hR;refine br (fun _=>?_) (fun g=>absurd (show z=34 by omega) (sU g));have huq:=huq L4;generalize ke (tx s) i=Q at *;obtain ⟨Q1,Q2,Q3,Q4⟩:=Q;simp only at hR U8;refine cP ae5 huq ?_;by_cases hq:Q3=0
  ·have L4:=(U8 hq).1;injection L4 with h3 h4
   rw [zIfP hq] at hR;subst hR h3 h4;refine aE [0,1] (fun _=>false) mo (by decide +kernel) ?_;exact ⟨_,ax,rfl⟩
  ·rw [af hq] at hR;subst hR;refine br (fun _=>?_) (fun g=>absurd g (by simp [hq]));refine aE [0,1] (fun _=>false) mo (by decide +kernel) ?_;exact ⟨_,ax,rfl⟩
 rw [af L4] at hR;subst hR;refine br (fun g=>?_) (fun _=>?_)
 ·exfalso;have:=of_decide_eq_true g;omega
 refine cP ae6 hot ?_;exact ⟨_,ax,rfl⟩
def remU:Nat->List UInt8->Nat->Nat × Ft
 | 0,_,a=>(a,(0,0))
 | _ + 1,[],a=>(a,(0,0))
 | k + 1,c :: r,a=>if c.toNat=10 then (a,(0,0)) else if okU (c :: r)=false then (0,(2,(a:Int)))
  else if ¬ recV ((c :: r).take (gp (c :: r)))=9/\mQ (recV ((c :: r).take (gp (c :: r))))=true then (0,(3,(a:Int))) else remU k ((c :: r).drop (gp (c :: r))) (a + gp (c :: r))
theorem xc:∀ (n:Nat) (l:List UInt8) (a:Nat),l.length<=n->remU n l a=remU l.length l a
 | 0,l,a,h=>by grind
 | n + 1,[],a,h=>rfl
 | n + 1,c :: r,a,h=>by
  have ih:=xc n;rw [List.length_cons] at h;have hu:=gJ (l:=c :: r) (by simp);rw [List.length_cons] at hu ⊢;have ih2:=xc r.length
  grind [remU]
termination_by n=>n
abbrev l7 (l:List UInt8) (a:Nat):=remU l.length l a
theorem nV (c:UInt8) (r:List UInt8) (a:Nat):l7 (c :: r) a=if c.toNat=10 then (a,(0,0)) else if okU (c :: r)=false then (0,(2,(a:Int)))
  else if ¬ recV ((c :: r).take (gp (c :: r)))=9/\mQ (recV ((c :: r).take (gp (c :: r))))=true then (0,(3,(a:Int))) else l7 ((c :: r).drop (gp (c :: r))) (a + gp (c :: r)):=by
 have hu:=gJ (l:=c :: r) (by simp);rw [List.length_cons] at hu;show remU (r.length + 1) (c :: r) a=_;rw [remU];split
 ·rfl
 split
 ·rfl
 split
 ·rfl
 ·grind [xc]
theorem Jn (a:Nat):l7 [] a=(a,(0,0)):=rfl
theorem oV:∀ (k:Nat) (l:List UInt8) (a:Nat),(remU k l a).2.1=0->(remU k l a).2=(0,0)/\a<=(remU k l a).1/\(remU k l a).1<=a + l.length
 | 0,l,a,_=>⟨rfl,zLeR _,by show a<=a + l.length;omega⟩
 | _ + 1,[],a,_=>⟨rfl,zLeR _,by show a<=a + 0;omega⟩
 | k + 1,c :: r,a,h=>by
  have hu:=gJ (l:=c :: r) (by simp);have ih:=oV k
  grind [remU,okU,recV,gp,mQ]
abbrev remD (p:Nat × Ft):DV:=.bo [.v (.int .i64 p.1),Ft.d p.2]
abbrev rmSt (s:ByteArray) (e:Nat):St:=⟨[(0,⟨[],.v (.string s)⟩),aC 1 e,aJ 5 0],[JN],[]⟩
theorem xW (s:ByteArray) (hs:s.size<=1099511627776) (i:Nat) (hi:i<=s.size):aR prog 243 [.v (.string s),.v (.int .i64 i)] (remD (l7 ((tx s).drop i) i)):=by
 have gf:=bd s;obtain ⟨R,hR⟩:∃ R,R=l7 ((tx s).drop i) i:=⟨_,rfl⟩;rw [<- hR];refine eG 45 [.tmp 4,.cell 5 26] func243 rfl ntmps243 rfl fun _ _ _ _=>?_;refine lI (fun j st=>∃ e:Nat,st=rmSt s e/\R=l7 ((tx s).drop e) e/\e<=s.size/\j=s.size - e) ⟨i,rfl,hR,by omega,rfl⟩ (wkM wB) ?_;rintro _ st ⟨e,rfl,eM,he,rfl⟩;refine br ?_ ?_<;>intro hL
 rotate_left
 ·have hge:e=s.size:=by simp at hL;omega
  rw [List.drop_eq_nil_of_le (by omega),Jn] at eM;subst eM;exact ⟨_,ax,rfl⟩
 have az:e < s.size:=by simp at hL;omega
 obtain ⟨c,eH,hb⟩:=bl az;have eH:(tx s).drop e=c :: (tx s).drop (e + 1):=eH;have hu:=vP s e hs c _ eH;have sc:=gJ (l:=(tx s).drop e) (by rw [eH];simp);rw [List.length_drop,gf] at sc;have Ex:(tx s).drop (e + gp ((tx s).drop e))=((tx s).drop e).drop (gp ((tx s).drop e)):=by rw [List.drop_drop]
 rw [eH,nV] at eM;rw [eH] at sc Ex;have qy:gp (c :: (tx s).drop (e + 1))=if okU (c :: (tx s).drop (e + 1))=true then a7 c.toNat else 1:=rfl
 generalize (tx s).drop (e + 1)=r at *;obtain ⟨z,hz⟩:∃ z:Int,z=((c.toNat:Nat):Int):=⟨_,rfl⟩;have jI:((aq s (e:Int).toNat:Nat):Int)=z:=by rw [dV,hb,hz]
 refine ⟨⟨by omega,by omega⟩,?_⟩;rw [jI];by_cases u7:c.toNat=10
 ·rw [zIfP u7] at eM;subst eM;refine br (fun g=>absurd g (by simp [pickB];omega)) (fun _=>?_);exact ⟨_,ax,rfl⟩
 rw [af u7] at eM;refine br (fun _=>?_) (fun g=>absurd g (by simp [pickB];omega));generalize okU (c :: r)=ok at hu eM qy;generalize gp (c :: r)=N at *;refine bZ Sa rfl hu ax (fun q hq=>?_);obtain ⟨zr,nr,rfl,hn,hp⟩:=hq
 cases ok with
 | false=>
  rw [zIfP rfl] at eM;subst eM;exact ⟨_,ax,rfl⟩
 | true=>
  rw [af (by simp)] at eM;rw [zIfP rfl] at qy;obtain ⟨BM,EO⟩:=hn rfl;rw [BM,<- qy] at EO;rw [<- EO] at eM;have hnN:nr=N:=by omega
  subst hnN;have hw:IntKind.i64.wrap ((e:Int) + (nr:Nat))=((e + nr:Nat):Int):=by rw [wrap64 (by omega) (by omega)];omega
  by_cases h9:zr=9
  ·rw [af (fun h=>h.1 h9),<- Ex] at eM;refine br (fun g=>absurd h9 (sU g)) (fun _=>?_);exact rE ⟨_,by omega,e + nr,rfl,eM,by omega,rfl⟩ (wkM (wB1 hw))
  refine br (fun _=>?_) (fun g=>absurd (sU g) h9);have hsf:=xV zr;generalize mQ zr=bz at hsf eM;refine cP Y0 hsf ?_
  cases bz with
  | true=>
   rw [zIfP ⟨h9,rfl⟩] at eM;subst eM;exact ⟨_,ax,rfl⟩
  | false=>
   rw [af (fun h=>by simpa using h.2),<- Ex] at eM;exact rE ⟨_,by omega,e + nr,rfl,eM,by omega,rfl⟩ (wkM (wB1 hw))
inductive jq (s:ByteArray):Nat->List gZ->Ft->Prop
 | nil:jq s s.size [] (0,0)
 | blank {i:Nat} {l:List gZ} {f:Ft}:i < s.size->jk (aq s i)=true->jq s (i + 1) l f->jq s i l f
 | rem {i e:Nat} {l:List gZ} {f:Ft}:i < s.size->aq s i=59->l7 ((tx s).drop i) i=(e,(0,0))->i < e->e<=s.size->jq s e l f->jq s i l f
 | Jo {i e:Nat} {f:Ft}:i < s.size->aq s i=59->l7 ((tx s).drop i) i=(e,f)->¬ f.1=0->jq s i [] f
 | tok {i e:Nat} {t:gZ} {l:List gZ} {f:Ft}:i < s.size->jk (aq s i)=false->aq s i≠59->qx s i=(t,(0,0))->t.e=e->i < e->e<=s.size->jq s e l f->jq s i (t :: l) f
 | Jp {i:Nat} {t:gZ} {f:Ft}:i < s.size->jk (aq s i)=false->aq s i≠59->qx s i=(t,f)->¬ f.1=0->jq s i [] f
theorem acD {c:UInt8} {r:List UInt8} (h:c.toNat < 128):okU (c :: r)=true/\gp (c :: r)=1/\recV ((c :: r).take (gp (c :: r)))=c.toNat:=by
 have h1:a7 c.toNat=1:=by
  unfold a7;rw [zIfP h]
 have h2:okU (c :: r)=true:=by
  show (decide (1<=a7 c.toNat) && allC c.toNat r (a7 c.toNat - 1))=true;rw [h1];rfl
 have h3:gp (c :: r)=1:=by
  show (if okU (c :: r)=true then a7 c.toNat else 1)=1;rw [zIfP h2,h1]
 exact ⟨h2,h3,by rw [h3];rfl⟩
theorem U9 {s:ByteArray} {i:Nat} {t:gZ} (hi:i < s.size) (h:qx s i=(t,(0,0))):∃ e:Nat,t.e=e/\i < e/\e<=s.size/\¬ t.k=0:=by
 unfold qx at h;have ir:=jL ((tx s).drop i);rw [List.length_drop,bd] at ir;by_cases h1:bc ((tx s).drop i)≠0
 ·grind
 rw [af h1] at h;by_cases h2:¬ ey s i=⟨#[]⟩
 ·rw [zIfP h2] at h;injection h with h3 _
  rw [<- h3]
  have hms:1<=(ey s i).size/\i + (ey s i).size<=s.size:=by
   have h0:(ey s i).size≠0:=fun h=>h2 (by
    apply ByteArray.ext
    exact Array.eq_empty_of_size_eq_zero h)
   unfold ey at h0 ⊢;by_cases hh:wQ (s.extract i s.size) rm=true
   ·rw [zIfP hh];unfold wQ at hh;rw [bh,decide_eq_true_iff] at hh;have h5:=hh.1;have h6:(s.extract i s.size).size=s.size - i:=by simp
    have h7:rm.size=2:=rfl;omega
   ·rw [af hh] at h0 ⊢;by_cases h8:0<=Lib.indexByte (tx eP) (aq s i).toUInt8
    ·rw [zIfP h8];have h6:(s.extract i (i + 1)).size=1:=by simp;omega
     omega
    ·rw [af h8] at h0;exact absurd rfl h0
  exact ⟨_,rfl,by omega,by omega,by show ¬ (4:Int)=0;decide⟩
 rw [af h2] at h;by_cases h3:aq s i=45∨(48<=aq s i/\aq s i<=57)
 ·rw [zIfP h3] at h;by_cases h4:(takeN s i).2.2.1=0
  ·rw [zIfP h4] at h;injection h with h5 _
   rw [<- h5];obtain ⟨c,eH,hb⟩:=bl hi
   have V8:(tx s)[i]? = some c:=by
    have:=congrArg List.head? eH
    rwa [List.head?_drop,List.head?_cons] at this
   have ha:(if c.toNat=45 then i + 1 else i)<=s.size:=by split<;>omega
   have hai:i<=(if c.toNat=45 then i + 1 else i):=by split<;>omega
   rw [uV V8] at h4 ⊢;generalize (if c.toNat=45 then i + 1 else i)=a at h4 ha hai ⊢;have iP:=qP ((tx s).drop a);rw [List.length_drop,bd] at iP;unfold yo at h4 ⊢;by_cases q1:digN ((tx s).drop a)=0/\a=s.size
   ·rw [zIfP q1] at h4;simp at h4
   rw [af q1] at h4 ⊢;by_cases q2:digN ((tx s).drop a)=0
   ·rw [zIfP q2] at h4;simp at h4
   rw [af q2] at h4 ⊢;by_cases q3:((tx s)[a]?).map UInt8.toNat=some 48/\(1 < digN ((tx s).drop a)∨(decide (c.toNat=45))=true)
   ·rw [zIfP q3] at h4;simp at h4
   rw [af q3] at h4 ⊢;by_cases q4:(gn (((tx s).drop a).take (digN ((tx s).drop a))) (decide (c.toNat=45))).2=true
   ·rw [zIfP q4];exact ⟨_,rfl,by omega,by omega,by show ¬ (2:Int)=0;decide⟩
   ·rw [af q4] at h4;simp at h4
  all_goals grind
 grind [aq,ke,tx,Gm]
theorem acE {s:ByteArray} {i:Nat} (hi:i < s.size) (h:(qx s i).2.1=0):(qx s i).2=(0,0):=by grind [qx]
theorem uW (s:ByteArray):∀ (k i:Nat),i<=s.size->s.size - i<=k->∃ l f,jq s i l f/\(f.1=0->f=(0,0))
 | 0,i,h1,h2=>by
  have:i=s.size:=by omega
  subst this;exact ⟨[],(0,0),.nil,fun _=>rfl⟩
 | k + 1,i,h1,h2=>by
  rcases Nat.lt_or_ge i s.size with hi | hi
  ·by_cases hb:jk (aq s i)=true
   ·obtain ⟨l,f,h,hf⟩:=uW s k (i + 1) (by omega) (by omega);exact ⟨l,f,.blank hi hb h,hf⟩
   by_cases JV:aq s i=59
   ·obtain ⟨c,eH,JJ⟩:=bl hi;have eH:(tx s).drop i=c :: (tx s).drop (i + 1):=eH;have hc:c.toNat=59:=by omega
    obtain ⟨q1,q2,q3⟩:=acD (c:=c) (r:=(tx s).drop (i + 1)) (by omega);have hu:=gJ (l:=(tx s).drop i) (by rw [eH];simp);by_cases hf:(l7 ((tx s).drop i) i).2.1=0
    ·have hge:i < (l7 ((tx s).drop i) i).1:=by grind [nV,recV,tx,gp,mQ,oV]
     obtain ⟨p1,p2,p3⟩:=oV _ _ _ hf;rw [List.length_drop,bd] at p3
     have p3':(l7 ((tx s).drop i) i).1<=s.size:=by
      have:(l7 ((tx s).drop i) i).1=(remU (s.size - i) ((tx s).drop i) i).1:=by
       unfold l7;rw [List.length_drop,bd]
      omega
     obtain ⟨l,f,h,hff⟩:=uW s k _ p3' (by omega);exact ⟨l,f,.rem hi JV (by rw [<- p1]) hge p3' h,hff⟩
    ·exact ⟨[],_,.Jo hi JV rfl hf,fun h=>absurd h hf⟩
   ·have hb:jk (aq s i)=false:=sU hb;by_cases hf:(qx s i).2.1=0
    ·have h0:=acE hi hf;obtain ⟨e,e1,e2,e3,_⟩:=U9 (t:=(qx s i).1) hi (by rw [<- h0]);obtain ⟨l,f,h,hff⟩:=uW s k e e3 (by omega);exact ⟨_,f,.tok hi hb JV (by rw [<- h0]) e1 e2 e3 h,hff⟩
    ·exact ⟨[],_,.Jp hi hb JV rfl hf,fun h=>absurd h hf⟩
  ·have:i=s.size:=by omega
   subst this;exact ⟨[],(0,0),.nil,fun _=>rfl⟩
def BF (l:List gZ) (f:Ft):DV:=if f.1=0 then .bo [.sl 5 (er l) none,Ft.d f] else .bo [.v (.slice none 0 0),Ft.d f]
theorem BG (l:List gZ):BF l (0,0) = .bo [.sl 5 (er l) none,Ft.d (0,0)]:=rfl
theorem fg {l:List gZ} {f:Ft} (h:¬ f.1=0):BF l f = .bo [.v (.slice none 0 0),Ft.d f]:=by rw [BF,af h]
theorem Va (s:ByteArray) (h:65536 < s.size):aR prog 157 [.v (.string s)] (BF [] (7,65536)):=by
 rw [fg (by decide)];refine eG 63 [.tmp 2,.cell 3 26] func157 rfl ntmps157 rfl fun _ _ _ _=>?_;refine br (fun _=>?_) (fun g=>absurd (show 65536 < (s.size:Int) by omega) (of_decide_eq_false g));exact ⟨_,ax,rfl⟩
set_option maxHeartbeats 2000000 in
theorem L6 (s:ByteArray) (hs:s.size<=65536) (l:List gZ) (f:Ft) (hl:jq s 0 l f) (hf:f.1=0->f=(0,0)):aR prog 157 [.v (.string s)] (BF (l ++ [jb s.size]) f):=by
 refine eG 63 [.tmp 2,.cell 3 26] func157 rfl ntmps157 rfl fun _ _ _ _=>?_;refine br (fun g=>absurd (show 65536 < s.size by have:=of_decide_eq_true g;omega) (by omega)) (fun _=>?_);refine lI (fun j st=>∃ (i q:Nat) (L r:List gZ),st=UB s L q i/\q=L.length/\jq s i r f/\(f.1=0->L ++ r=l)/\L.length<=i/\i<=s.size/\j=s.size - i) ⟨0,0,[],l,rfl,rfl,hl,fun _=>rfl,by simp,by omega,rfl⟩ (di 2 ⟨0,218,5,none⟩ rfl rfl rfl tJ rfl rfl lW) ?_;rintro j st ⟨i,q,L,r,rfl,hq,hr,yP,hLi,his,rfl⟩;refine br (fun az=>?_) (fun hge=>?_)
 ·have az:i < s.size:=sU az;have hb:=Bm (aq s i);obtain ⟨z,hz⟩:∃ z:Int,z=((aq s i:Nat):Int):=⟨_,rfl⟩;have jI:((aq s (i:Int).toNat:Nat):Int)=z:=by rw [dV,hz]
  rw [<- hz] at hb;refine ⟨⟨by omega,by omega⟩,?_⟩;rw [jI]
  cases hr with
  | nil=>omega
  | blank _ h1 h2=>
   rw [h1] at hb;refine cP zH hb ?_;exact ⟨UB s L q (i + 1),(ej 2 (ng (nxt az (by omega))) (wB1 (nxt az (by omega)))),s.size - (i + 1),by omega,i + 1,q,L,_,rfl,hq,h2,yP,by omega,by omega,rfl⟩
  | @rem _ e _ _ _ JV hrm h4 h5 h6=>
   rw [JV] at hz;have hbl:jk (aq s i)=false:=by rw [JV];all_goals rfl
   rw [hbl] at hb;have ti:=xW s (by omega) i his;rw [hrm] at ti;refine cP zH hb ?_;refine ⟨⟨by omega,by omega⟩,?_⟩;rw [jI];refine br (fun _=>?_) (fun g=>absurd (show z=59 by omega) (sU g));refine cP YQ ti ?_;exact ⟨UB s L q e,(ej 2 tJ lW),s.size - e,by omega,e,q,L,_,rfl,hq,h6,yP,by omega,h5,rfl⟩
  | @Jo _ e _ _ JV hrm h4=>
   rw [JV] at hz;have hbl:jk (aq s i)=false:=by rw [JV];all_goals rfl
   rw [hbl] at hb;have ti:=xW s (by omega) i his;rw [hrm] at ti;obtain ⟨f1,f2⟩:=f;rw [fg h4];simp only at h4;refine cP zH hb ?_;refine ⟨⟨by omega,by omega⟩,?_⟩;rw [jI];refine br (fun _=>?_) (fun g=>absurd (show z=59 by omega) (sU g));refine cP YQ ti ?_;refine br (fun _=>?_) (fun g=>absurd g (by simp [h4]));refine br (fun _=>?_) (fun g=>absurd g (by simp [h4]));refine aE [0] (fun _=>false) mo (by decide +kernel) ?_;exact ⟨_,ax,rfl⟩
  | @tok _ e t l' _ _ h1 h2 h3 h4 h5 h6 h7=>
   rw [h1] at hb;have jt:=BE s (by omega) i az;rw [h3] at jt;refine cP zH hb ?_;refine ⟨⟨by omega,by omega⟩,?_⟩;rw [jI];refine br (fun g=>absurd (show aq s i=59 by have:=of_decide_eq_true g;omega) h2) (fun _=>?_);obtain ⟨tk,ta,te,ts,tn⟩:=t;simp only at h4;subst h4;refine cP R4 jt ?_;refine ⟨(cq L).trans hq.symm,⟨by simp [maxLen,cq];omega,by simp [cq];omega⟩,?_⟩;exact rE ⟨_,by omega,e,q + 1,L ++ [⟨tk,ta,e,ts,tn⟩],l',rfl,by simp [hq],h7,fun h=>by simpa using yP h,by simp;omega,h6,rfl⟩ (ej 2 (ng (fA L ⟨tk,ta,e,ts,tn⟩)) (wB1 (fA L ⟨tk,ta,e,ts,tn⟩)))
  | @Jp _ t _ _ h1 h2 h3 h4=>
   rw [h1] at hb;have jt:=BE s (by omega) i az;rw [h3] at jt;obtain ⟨f1,f2⟩:=f;rw [fg h4];simp only at h4;obtain ⟨tk,ta,te,ts,tn⟩:=t;refine cP zH hb ?_;refine ⟨⟨by omega,by omega⟩,?_⟩;rw [jI];refine br (fun g=>absurd (show aq s i=59 by have:=of_decide_eq_true g;omega) h2) (fun _=>?_);refine cP R4 jt ?_;refine br (fun _=>?_) (fun g=>absurd g (by simp [h4]));refine br (fun _=>?_) (fun g=>absurd g (by simp [h4]));refine aE [0] (fun _=>false) mo (by decide +kernel) ?_;exact ⟨_,ax,rfl⟩
 ·have hge:s.size=i:=by
   have:=of_decide_eq_false hge;omega
  subst hge
  cases hr with
  | nil=>
   have yP:=yP rfl;rw [List.append_nil] at yP;subst yP;rw [BG];refine aE [0] (fun _=>false) mo (by decide +kernel) ?_;refine ⟨(cq L).trans hq.symm,⟨by simp [maxLen,cq];omega,by simp [cq];omega⟩,?_⟩;rw [<- fA];exact ⟨_,ax,rfl⟩
  | blank h=>exact absurd h (Nat.lt_irrefl _)
  | rem h=>exact absurd h (Nat.lt_irrefl _)
  | Jo h=>exact absurd h (Nat.lt_irrefl _)
  | tok h=>exact absurd h (Nat.lt_irrefl _)
  | Jp h=>exact absurd h (Nat.lt_irrefl _)
end Go.Proofs.YtfdedoiiahbnnaaGreat
set_option maxRecDepth 100000
namespace Go.Proofs.YtfdedoiiahbnnaaGreat
open Go Go.RowKit Go.Lib Dv Go.Proofs.Tryz
def xe (s m:ByteArray):Bool:=if s.size≠m.size then decide (m.size < s.size) else !(Op.bytesLess s.toList m.toList || s.toList == m.toList)
theorem QA (s m:ByteArray) (w:World):Calls prog 304 #[.string s,.string m] w fun e w'=>e = .returned (.bool (xe s m))/\w'=w:=by
 have hG:(binOp .gtr 9 (.string s) (.string m)).run prog w = .ok (.bool !(Op.bytesLess s.toList m.toList || s.toList == m.toList)) w:=by
  simp [binOp,Op.stringOp]
 have mixed:=mo
 go_enter func304,ntmps304
 go_wp2
 ·rename_i h;have h:s.size≠m.size:=by simp at h;omega
  go_ret
  exact ⟨by rw [xe,zIfP h];rfl,rfl⟩
 ·rename_i h;have h:¬ s.size≠m.size:=by simp at h;omega
  go_ret
  exact ⟨by rw [xe,af h,Bool.not_or];rfl,rfl⟩
theorem L7 (s m:ByteArray):aR prog 304 [.v (.string s),.v (.string m)] (.v (.bool (xe s m))):=by
 refine C9 fun E w vs hE hv=>?_;simp only [RvL] at hv;obtain ⟨v1,s1,rfl,h1,v2,s2,rfl,h2,rfl⟩:=hv;have h1:=bN h1;have h2:=bN h2;subst h1 h2;refine (QA s m w).mono ?_;rintro e w' ⟨rfl,rfl⟩;exact ⟨_,rfl,gl rfl,Below.refl _ _⟩
end Go.Proofs.YtfdedoiiahbnnaaGreat
set_option maxRecDepth 100000
namespace Go.Proofs.YtfdedoiiahbnnaaGreat
open Go Go.RowKit Dv Go.Proofs.Tryz
theorem ri (c:UInt8) (r:List UInt8):cd (c :: r)=(c.toNat - 48) * 10 ^ r.length + cd r:=by
 have key:∀ (r:List UInt8) (n:Nat),r.foldl (fun n c=>n * 10 + (c.toNat - 48)) n=n * 10 ^ r.length + r.foldl (fun n c=>n * 10 + (c.toNat - 48)) 0:=by
  intro r
  induction r with
  | nil=>intro n;simp
  | cons b r ih=>grind
 grind [cd]
theorem yT:∀ l:List UInt8,(∀ c∈l,fq c=true)->cd l < 10 ^ l.length
 | [],_=>by simp [cd]
 | c :: r,h=>by
  have ih:=yT r fun x hx=>h x (iS _ hx);have hc:=h c (by simp);unfold fq at hc;simp only [bh,decide_eq_true_eq] at hc;rw [ri,List.length_cons,Nat.pow_succ];have:(c.toNat - 48) * 10 ^ r.length<=9 * 10 ^ r.length:=Nat.mul_le_mul_right _ (by omega);omega
theorem Ow:∀ (a b:List UInt8),a.length=b.length->(∀ c∈a,fq c=true)->(∀ c∈b,fq c=true)->(Op.bytesLess a b=decide (cd a < cd b))/\(a=b↔cd a=cd b)
 | [],[],_,_,_=>by simp [Op.bytesLess]
 | [],_ :: _,h,_,_=>by simp at h
 | _ :: _,[],h,_,_=>by simp at h
 | x :: a,y :: b,h,ha,hb=>by
  have hl:a.length=b.length:=sU h;obtain ⟨i1,i2⟩:=Ow a b hl (fun c hc=>ha c (iS _ hc)) fun c hc=>hb c (iS _ hc);have la:=yT a fun c hc=>ha c (iS _ hc);have lb:=yT b fun c hc=>hb c (iS _ hc);have hx:=ha x (by simp);have hy:=hb y (by simp);unfold fq at hx hy;simp only [bh,decide_eq_true_eq] at hx hy;rw [ri,ri,hl] at *;rw [hl] at la;generalize 10 ^ b.length=P at *;have az:x < y↔x.toNat < y.toNat:=UInt8.lt_iff_toNat_lt;have aQ:x=y↔x.toNat=y.toNat:=UInt8.toNat_inj.symm
  have ahM:∀ u v:Nat,u < v->u * P + P<=v * P:=fun u v huv=>by
   have:(u + 1) * P<=v * P:=Nat.mul_le_mul_right _ huv
   grind
  unfold Op.bytesLess;rw [i1,List.cons.injEq,i2,aQ];rcases Nat.lt_trichotomy x.toNat y.toNat with h1 | h1 | h1
  ·have:=ahM (x.toNat - 48) (y.toNat - 48) (by omega)
   grind
  ·grind
  ·have:=ahM (y.toNat - 48) (x.toNat - 48) (by omega)
   grind
def rN:ByteArray:=⟨#[57,50,50,51,51,55,50,48,51,54,56,53,52,55,55,53,56,48,55]⟩
def rO:ByteArray:=⟨#[57,50,50,51,51,55,50,48,51,54,56,53,52,55,55,53,56,48,56]⟩
theorem X9 {l:List UInt8} {c:UInt8} {r:List UInt8} (h:l=c :: r) (hc:fq c=true) (h0:c.toNat≠48):10 ^ r.length<=cd l:=by
 unfold fq at hc;simp only [bh,decide_eq_true_eq] at hc;rw [h,ri];have:1 * 10 ^ r.length<=(c.toNat - 48) * 10 ^ r.length:=Nat.mul_le_mul_right _ (by omega);omega
theorem QB {s:ByteArray} {L:List UInt8} (hs:tx s=L) (hd:∀ c∈L,fq c=true) (hn:L ≠ []) (h0:∀ c r,L=c :: r->c.toNat=48->r=[]) (m:Bool):xe s (if m=true then rO else rN) = !(gn L m).2:=by
 have cK:s.size=L.length:=by rw [<- hs,bd]
 have hms:(if m=true then rO else rN).size=19:=by cases m<;>rfl
 have ju:(if m=true then rO else rN).toList=tx (if m=true then rO else rN):=by rw [ByteArray.toList_eq];all_goals rfl
 have qJ:s.toList=L:=by rw [<- hs,ByteArray.toList_eq];all_goals rfl
 have hmv:cd (tx (if m=true then rO else rN))=if m=true then 9223372036854775808 else 9223372036854775807:=by cases m<;>decide
 have hmd:∀ c∈tx (if m=true then rO else rN),fq c=true:=by cases m<;>decide
 have hmn:(tx (if m=true then rO else rN)).length=19:=by cases m<;>rfl
 have JY:(gn L m).2=decide (cd L<=if m=true then 9223372036854775808 else 9223372036854775807):=by grind [gn,cd]
 rw [JY,xe,hms,qJ,ju,cK];have hb:(if m=true then 9223372036854775808 else 9223372036854775807:Nat)<=9223372036854775808/\9223372036854775807<=(if m=true then 9223372036854775808 else 9223372036854775807:Nat):=by cases m<;>decide
 generalize (if m=true then 9223372036854775808 else 9223372036854775807:Nat)=M at hmv hb ⊢;generalize tx (if m=true then rO else rN)=T at *;by_cases hl:L.length=19
 ·rw [af (by omega)];obtain ⟨c1,c2⟩:=Ow L T (by omega) hd hmd
  grind
 ·rw [zIfP hl];rcases Nat.lt_or_ge L.length 19 with h | h
  ·have h1:=yT L hd;have h2:10 ^ L.length<=10 ^ 18:=Nat.pow_le_pow_right (by decide) (by omega)
   grind
  ·cases hL:L with
   | nil=>exact absurd hL hn
   | cons c r=>
    have hc:c.toNat≠48:=fun hc=>by grind
    have h1:=X9 hL (hd c (by rw [hL];simp)) hc;have gW:19<=r.length:=by rw [hL,List.length_cons] at h hl;omega
    have h2:10 ^ 19<=10 ^ r.length:=Nat.pow_le_pow_right (by decide) gW
    grind
end Go.Proofs.YtfdedoiiahbnnaaGreat
set_option maxRecDepth 100000
namespace Go.Proofs.YtfdedoiiahbnnaaGreat
open Go Go.RowKit
namespace Dv
section
variable {X:Ctx} {st:St}
theorem AN {i j:Nat} {s S:St} (h:se s (gx i j S):=by refine (⟨rfl,rfl,?_⟩:_/\_/\_);repeat' (first | exact trivial | refine ⟨rfl,?_⟩)):(s=S∨se s S)∨se s (gx i j S):=.inr h
end
end Dv
end Go.Proofs.YtfdedoiiahbnnaaGreat
set_option maxRecDepth 100000
namespace Go.Proofs.YtfdedoiiahbnnaaGreat
open Go Go.RowKit Dv Go.Proofs.Tryz
def qz (K:List Nat) (e:Ed):Nat:=K.getD e.to.toNat 0
def leastR (K:List Nat):List Ed->Nat->Nat
 | [],m=>m + 1
 | e :: r,m=>if qz K e=0 then 0 else leastR K r (max m (qz K e))
def du (K:List Nat):List Ed->Nat->Nat
 | [],b=>if b=0 then 0 else b + 1
 | e :: r,b=>if e.bare=true then 1 else if 0 < qz K e/\(b=0∨qz K e < b) then du K r (qz K e) else du K r b
def ct (n:Nd) (K:List Nat):Nat:=if n.ay=7 then leastR K n.bK 0 else if n.ay=8 then du K n.bK 0 else 1
def depN (ND:List Nd):Nat->List Nat
 | 0=>List.replicate ND.length 0
 | d + 1=>ND.map fun n=>ct n (depN ND d)
theorem depN_len (ND:List Nd):∀ d,(depN ND d).length=ND.length
 | 0=>by simp [depN]
 | d + 1=>by simp [depN]
theorem depN_get (ND:List Nd) (d j:Nat):(depN ND (d + 1)).getD j 0=match ND[j]? with | none=>0 | some n=>ct n (depN ND d):=by grind [depN]
def QC (d:Nat) (A B:List Nat):Prop:=∀ j:Nat,(0 < A.getD j 0->B.getD j 0=A.getD j 0/\A.getD j 0<=d)/\(A.getD j 0=0->B.getD j 0=0∨B.getD j 0=d + 1)
theorem Gn {d:Nat} {A B:List Nat} (h:QC d A B) (j:Nat):B.getD j 0<=d + 1:=by
 obtain ⟨h1,h2⟩:=h j;omega
theorem qA {K:List Nat}:∀ {es:List Ed} {m:Nat},leastR K es m=0↔∃ e∈es,qz K e=0
 | [],m=>by simp [leastR]
 | e :: r,m=>by
  rw [leastR];by_cases h:qz K e=0
  ·grind
  ·rw [af h,qA]
   grind
theorem xX {d:Nat} {A B:List Nat} (hR:QC d A B):∀ {es:List Ed} {m:Nat},0 < leastR A es m->leastR B es m=leastR A es m
 | [],m,_=>rfl
 | e :: r,m,h=>by
  rw [leastR] at h ⊢;rw [leastR];by_cases h0:qz A e=0
  ·rw [zIfP h0] at h;omega
  rw [af h0] at h ⊢;have h1:qz B e=qz A e:=((hR e.to.toNat).1 (by unfold qz at h0;omega)).1;rw [h1,af h0];exact xX hR h
theorem BH {d:Nat} {A B:List Nat} (hR:QC d A B):∀ {es:List Ed} {m:Nat},m<=d + 1->(m=d + 1∨∃ e∈es,qz A e=0)->leastR B es m=0∨leastR B es m=d + 2
 | [],m,_,h=>by grind [leastR]
 | e :: r,m,hm,h=>by
  rw [leastR];by_cases h0:qz B e=0
  ·rw [zIfP h0];exact .inl rfl
  rw [af h0];have fO:qz B e<=d + 1:=Gn hR _;refine BH hR (by omega) ?_;rcases h with h | ⟨x,hx,h⟩
  ·left;omega
  ·rcases eU hx with rfl | hx
   ·left;have:=(hR x.to.toNat).2 h;unfold qz at h0 fO ⊢;omega
   ·exact .inr ⟨x,hx,h⟩
theorem oW {d:Nat} {A B:List Nat} (hR:QC d A B):∀ {es:List Ed} {a b:Nat},(0 < a->b=a/\a<=d)->(a=0->b=0∨b=d + 1) ->
  (0 < du A es a->du B es b=du A es a)/\(du A es a=0->du B es b=0∨du B es b=d + 2)
 | [],a,b,h1,h2=>by grind [du]
 | e :: r,a,b,h1,h2=>by
  rw [du,du];by_cases hb:e.bare=true
  ·grind
  rw [af hb,af hb];obtain ⟨g1,g2⟩:=hR e.to.toNat;change (0 < qz A e->qz B e=qz A e/\qz A e<=d) at g1;change (qz A e=0->qz B e=0∨qz B e=d + 1) at g2;by_cases c1:0 < qz A e/\(a=0∨qz A e < a)<;>by_cases c2:0 < qz B e/\(b=0∨qz B e < b)
  ·rw [zIfP c1,zIfP c2];exact oW hR (by omega) (by omega)
  ·omega
  ·rw [af c1,zIfP c2];exact oW hR (by omega) (by omega)
  ·rw [af c1,af c2];exact oW hR (by omega) (by omega)
theorem L8 {d:Nat} {A B:List Nat} (hR:QC d A B) (n:Nd):(0 < ct n A->ct n B=ct n A)/\(ct n A=0->ct n B=0∨ct n B=d + 2):=by
 unfold ct;by_cases h7:n.ay=7
 ·rw [zIfP h7,zIfP h7];exact ⟨xX hR,fun h=>BH hR (by omega) (.inr (qA.1 h))⟩
 grind [oW]
theorem Jq (N:Nat) (e:Ed):qz (List.replicate N 0) e=0:=by grind [qz]
theorem xY (N:Nat):∀ es:List Ed,du (List.replicate N 0) es 0=0∨du (List.replicate N 0) es 0=1
 | []=>.inl rfl
 | e :: r=>by
  rw [du,Jq];by_cases hb:e.bare=true
  ·rw [zIfP hb];exact .inr rfl
  ·rw [af hb,af (by omega)];exact xY N r
theorem Jr (N:Nat) (n:Nd):ct n (List.replicate N 0)=0∨ct n (List.replicate N 0)=1:=by
 unfold ct;by_cases h7:n.ay=7
 ·rw [zIfP h7]
  cases h:n.bK with
  | nil=>right;rfl
  | cons e r=>left;rw [leastR,Jq,zIfP rfl]
 grind [xY]
theorem Ey (ND:List Nd) (j:Nat):(depN ND 0).getD j 0=0:=by grind [depN]
theorem qB (ND:List Nd):∀ d,QC d (depN ND d) (depN ND (d + 1))
 | 0=>fun j=>by
  refine ⟨fun h=>by rw [Ey] at h;omega,fun _=>?_⟩;rw [depN_get]
  cases ND[j]? with
  | none=>exact .inl rfl
  | some n=>exact Jr _ n
 | d + 1=>fun j=>by
  have ih:=qB ND d
  grind [depN_get,L8,Gn]
theorem Ya (ND:List Nd):∀ d j,(depN ND d).getD j 0<=d
 | 0,j=>by rw [Ey];omega
 | d + 1,j=>Gn (qB ND d) j
def posL (K:List Nat):List Bool:=K.map fun k=>decide (0 < k)
theorem nW (K:List Nat) (j:Nat):(posL K).getD j false=decide (0 < K.getD j 0):=by grind [posL]
theorem posL_len (K:List Nat):(posL K).length=K.length:=by simp [posL]
theorem uX {A B:List Nat} (hl:A.length=B.length) (h:∀ j,A.getD j 0=B.getD j 0):A=B:=by
 refine List.ext_getElem hl fun j h1 h2=>?_;have:=h j
 grind
theorem depN_posle (ND:List Nd) (d:Nat):VD (posL (depN ND d)) (posL (depN ND (d + 1))):=fun j h=>by
 rw [nW] at h ⊢;have h:=of_decide_eq_true h;have:=((qB ND d) j).1 h;exact decide_eq_true (by omega)
theorem depN_same {ND:List Nd} {d:Nat} (h:posL (depN ND d)=posL (depN ND (d + 1))):depN ND (d + 1)=depN ND d:=by
 refine uX (by rw [depN_len,depN_len]) fun j=>?_;obtain ⟨h1,h2⟩:=(qB ND d) j;rcases Nat.eq_zero_or_pos ((depN ND d).getD j 0) with h3 | h3
 ·have h4:=nW (depN ND d) j
  grind [nW,depN]
 ·exact (h1 h3).1
theorem depN_step (ND:List Nd):∀ d,depN ND (d + 1)=depN ND d∨d<=yj (posL (depN ND d))
 | 0=>.inr (Nat.zero_le _)
 | d + 1=>by
  rcases depN_step ND d with h | h
  ·grind [ct,depN]
  ·rcases (leB_eq (by rw [posL_len,posL_len,depN_len,depN_len]) (depN_posle ND d)).1 with h2 | h2
   ·grind [depN_same,ct,depN]
   ·exact .inr (by omega)
theorem depN_fix {ND:List Nd} {d:Nat} (h:depN ND (d + 1)=depN ND d):∀ k,depN ND (d + k)=depN ND d
 | 0=>rfl
 | k + 1=>by
  show (ND.map fun n=>ct n (depN ND (d + k)))=_;rw [depN_fix h k];exact h
theorem depN_end (ND:List Nd):depN ND (ND.length + 1)=depN ND ND.length:=by grind [depN_step,leB_eq,posL_len,depN_len,depN_posle,depN_same,cntB_le,posL]
theorem Yb {ND:List Nd} {d:Nat} (h:depN ND (d + 1)≠depN ND d):d < ND.length:=by
 rcases Nat.lt_or_ge d ND.length with h1 | h1
 ·exact h1
 ·obtain ⟨k,rfl⟩:∃ k,d=ND.length + k:=⟨d - ND.length,by omega⟩;exfalso;have h2:=depN_fix (depN_end ND) k;have h3:=depN_fix (depN_end ND) (k + 1)
  grind
theorem Vb {ND:List Nd} {d:Nat} (h:depN ND (d + 1)=depN ND d):depN ND (d + 1)=depN ND ND.length:=by
 rcases Nat.lt_or_ge d ND.length with h1 | h1
 ·obtain ⟨k,hk⟩:∃ k,ND.length=d + k:=⟨ND.length - d,by omega⟩;rw [hk,depN_fix h k,h]
 ·obtain ⟨k,hk⟩:∃ k,d + 1=ND.length + k:=⟨d + 1 - ND.length,by omega⟩;rw [hk,depN_fix (depN_end ND) k]
def yr (K:List Bool) (e:Ed):Bool:=e.bare || K.getD e.to.toNat false
def Ox (n:Nd) (K:List Bool):Bool:=if n.ay < 7 then true else if n.ay=7 then n.bK.all (yr K) else n.bK.any (yr K)
theorem sS {K:List Nat}:∀ {es:List Ed} {b:Nat},0 < du K es b↔(0 < b∨es.any (yr (posL K))=true)
 | [],b=>by grind [du]
 | e :: r,b=>by
  have hg:(posL K).getD e.to.toNat false=decide (0 < qz K e):=nW K _;rw [du,List.any_cons];by_cases hb:e.bare=true
  ·rw [zIfP hb];simp [yr,hb]
  ·rw [af hb]
   have B8:yr (posL K) e=decide (0 < qz K e):=by
    unfold yr;rw [hg];simp [hb]
   rw [B8,Bool.or_eq_true,decide_eq_true_eq];split
   ·rename_i h1;rw [sS];omega
   ·rename_i h1;rw [sS]
    grind
theorem L9 {n:Nd} {K:List Nat} (h8:n.ay<=8) (hb:∀ e∈n.bK,e.bare=true->n.ay=8):(0 < ct n K)↔Ox n (posL K)=true:=by
 unfold ct Ox
 grind [leastR,qA,qz,posL,nW,yr,sS]
theorem Vc {ND:List Nd} (hN:∀ n∈ND,n.ay<=8/\∀ e∈n.bK,e.bare=true->n.ay=8) (d:Nat) {i:Nat} {n:Nd} (h:ND[i]? = some n) :
  (depN ND (d + 1)).getD i 0=(if Ox n (posL (depN ND d))=true/\(depN ND d).getD i 0=0 then d + 1 else (depN ND d).getD i 0) /\
  (posL (depN ND (d + 1))).getD i false=Ox n (posL (depN ND d)):=by
 obtain ⟨h8,hb⟩:=hN n (mG h);have hp:=L9 (K:=depN ND d) h8 hb;have hg:(depN ND (d + 1)).getD i 0=ct n (depN ND d):=by rw [depN_get,h]
 obtain ⟨h1,h2⟩:=(qB ND d) i;refine ⟨?_,?_⟩
 ·grind
 ·grind [nW]
def cN (l:List Nat):List DV:=l.map fun (z:Nat)=>DV.v (.int .i64 (z:Int))
theorem Ma (l:List Nat):(cN l).length=l.length:=by simp [cN]
theorem Vd {l:List Nat} {i z:Nat} (h:l[i]? = some z):(cN l)[i]? = some (DV.v (.int .i64 (z:Int))):=by simp [cN,h]
theorem Ve (l:List Nat) (i z:Nat):(cN l).set i (DV.v (.int .i64 (z:Int)))=cN (l.set i z):=by simp [cN,List.map_set]
theorem BI (l:List Nat):(dInts l).flatten=cN l:=by
 induction l with
 | nil=>rfl
 | cons b r ih=>simp only [dInts,cN,List.map_cons,List.flatten_cons] at ih ⊢;rw [ih];all_goals rfl
theorem Yc (n:Nat):(List.replicate n (vL [Value.int .i64 0])).flatten=cN (List.replicate n 0):=by
 induction n with
 | zero=>rfl
 | succ n ih=>simp only [List.replicate_succ,List.flatten_cons,ih];rfl
theorem de {n m:Nat} {tk:List TkE} {l:List DV} {r:List Nat} (h:l=cN r):WeL n m tk l (cN r):=by
 subst h;refine Af _ fun x hx=>?_;obtain ⟨z,_,rfl⟩:=List.mem_map.1 hx;exact ⟨_,rfl⟩
theorem acF {bx:List (List DV)} {N n0 m0 n i:Nat} {r:List Nat} (hr:r.length=n) (hN:N<=i) (hb:bx[i]? = some (cN r)):Cc bx N n0 m0 (.sl 1 (dInts r) none) (.ms i 1 0 n n):=by
 simp only [Cc];refine Or.inr (Or.inr (Or.inl ⟨i,0,n,_,by rw [bQ,hr],hN,hb,?_,?_,?_⟩))
 ·grind [BI,Ma,bQ]
 ·grind [dInts]
 ·intro x hx;rw [BI] at hx;obtain ⟨_,_,rfl⟩:=List.mem_map.1 hx;exact .inl ⟨_,rfl⟩
abbrev ahN (PC:List DV) (ND:List Nd) (q e:Nat):St:=
 ⟨[vC 0 PC,(3,⟨[],.sl 7 (cE (ND.take e)) (some 0)⟩),aC 8 ND.length,aC 9 e],[],[⟨q,82,7,none⟩]⟩
theorem QD {l:List Nd} {e:Nat} {n:Nd} (h:l[e]? = some n):cE (l.take e) ++ [GG n]=cE (l.take (e + 1)):=by
 rw [List.take_add_one,h];simp [cE]
theorem uY {S:Sch} {ND:List Nd} {PC:List DV} (hP:nK S ND PC) :
  aR prog 100 [.pt PC 0] (.sl 7 (cE ND) none):=by
 have h1:=hP.len;have h2:=hP.aj;have ir:=hP.nl;refine eG 24 [.tmp 2] func100 rfl ntmps100 rfl fun _ _ _ _=>?_;refine cP RL h1 ?_;refine lJ (fun e=>ahN PC ND e e) ND.length (gw ⟨0,82,7,none⟩ rfl ⟨_,rfl⟩ rfl wA rfl rfl lW) ?_;intro e he;refine br ?_ ?_<;>intro hL
 ·have az:e < ND.length:=by have:=hL;simp at this;exact this
  obtain ⟨n,hn⟩:=gX az;have ju:(cE (ND.take e)).length=e:=by rw [fL,zLenT];omega
  refine cP Wp (h2 e n hn) ?_;refine ⟨ju,⟨by rw [ju];simp [maxLen];omega,by rw [ju];simp;omega⟩,?_⟩;exact rE ⟨_,by omega,e + 1,rfl,by omega,rfl⟩ (wkM (wB2 (nxt az (by omega)) (QD hn)))
 ·have hge:e=ND.length:=by have:=hL;simp at this;omega
  subst hge;rw [List.take_length];exact ⟨_,ax,rfl⟩
abbrev Z0 (K:List Nat) (es:List Ed) (m e:Nat):St:=
 ⟨[bJ 1 1 (dInts K),aC 5 m,bJ 16 10 (lZ es),aC 17 ((lZ es).length),aC 18 e],[],[]⟩
abbrev Js (K:List Nat) (es:List Ed) (m e:Nat):St:=
 ⟨[bJ 1 1 (dInts K),aC 8 m,bJ 41 10 (lZ es),aC 42 ((lZ es).length),aC 43 e],[],[]⟩
theorem Gp {L:Nat} {n:Nd} (K:List Nat) (hK:K.length<=1099511627776) (hn:ID L K.length n) (hz:∀ z∈K,z<=1099511627776) (Gz:n.bK.length<=1099511627776) :
  aR prog 185 [.agg (GG n),.sl 1 (dInts K) none] (.v (.int .i64 (ct n K:Nat))):=by
 have uq:=hn.HO;have Vf:=hn.bare;obtain ⟨ay,cT,lo,hi,most,ag,es⟩:=n;simp only at uq Vf Gz;refine eG 80 [.tmp 4] func185 rfl ntmps185 rfl fun _ _ _ _=>?_;refine br ?_ ?_<;>intro h7
 ·have h7:ay=7:=sU h7;have hF:ct ⟨ay,cT,lo,hi,most,ag,es⟩ K=leastR K es 0:=by simp [ct,h7]
  rw [hF];refine lI (fun j st=>∃ e m:Nat,st=Z0 K es m e/\e<=es.length/\m<=1099511627776/\leastR K es 0=leastR K (es.drop e) m/\j=es.length - e) ⟨0,0,rfl,by omega,by omega,rfl,rfl⟩ (wkM wB) ?_;rintro j st ⟨e,m,rfl,he,hm,aQ,rfl⟩;refine br ?_ ?_<;>intro hL
  ·have az:e < es.length:=by have:=hL;simp [eJ] at this;exact this
   obtain ⟨x,hx⟩:=gX az;rw [drop_cons hx,leastR] at aQ;have OL:=uq x (mG hx);have hxb:x.bare=false:=by grind
   obtain ⟨k,hk,BO⟩:=OL.to1 hxb;obtain ⟨z,hz1⟩:∃ z,K[k]? = some z:=⟨_,gE BO⟩;have hzl:=hz z (mG hz1);have hed:qz K x=z:=by simp [qz,hk,eo,hz1]
   have hg:(dInts K)[x.to.toNat]? = some [DV.v (.int .i64 (z:Int))]:=by rw [hk];exact dr hz1
   rw [hed] at aQ;refine iX (j9 hx) ?_;refine ⟨_,⟨by omega,hg⟩,?_⟩;refine br ?_ ?_<;>intro g
   ·have g:z=0:=sU g;rw [aQ,zIfP g];exact (rfl:_=_)
   ·have g:¬ z=0:=sU g;rw [af g] at aQ;refine ⟨_,⟨by omega,hg⟩,?_⟩;exact ⟨Z0 K es (max m z) (e + 1),(wkM (wB2 (show max (m:Int) z=((max m z:Nat):Int) by omega) (nxt az (by omega)))),es.length - (e + 1),by omega,e + 1,_,rfl,by omega,by omega,aQ,rfl⟩
  ·have hge:e=es.length:=by have:=hL;simp [eJ] at this;omega
   subst hge;rw [List.drop_length,leastR] at aQ;have hw:IntKind.i64.wrap ((m:Int) + 1)=((m + 1:Nat):Int):=by rw [wrap64 (by omega) (by omega)];omega
   rw [aQ];refine (rY ?_:);exact hw
 have h7:¬ ay=7:=sU h7;refine br ?_ ?_<;>intro h8
 ·have h8:ay=8:=sU h8;have hF:ct ⟨ay,cT,lo,hi,most,ag,es⟩ K=du K es 0:=by simp [ct,h8]
  rw [hF];refine lI (fun j st=>∃ e m:Nat,st=Js K es m e/\e<=es.length/\m<=1099511627776/\du K es 0=du K (es.drop e) m/\j=es.length - e) ⟨0,0,rfl,by omega,by omega,rfl,rfl⟩ (wkM wB) ?_;rintro j st ⟨e,m,rfl,he,hm,aQ,rfl⟩;refine br ?_ ?_<;>intro hL
  ·have az:e < es.length:=by have:=hL;simp [eJ] at this;exact this
   obtain ⟨x,hx⟩:=gX az;rw [drop_cons hx,du] at aQ;have OL:=uq x (mG hx);refine iX (j9 hx) ?_;refine br ?_ ?_<;>intro hb
   ·have hb:x.bare=true:=hb;rw [aQ,zIfP hb];exact (rfl:_=_)
   have hb:x.bare=false:=hb;rw [af (by rw [hb];decide)] at aQ;obtain ⟨k,hk,BO⟩:=OL.to1 hb;obtain ⟨z,hz1⟩:∃ z,K[k]? = some z:=⟨_,gE BO⟩;have hzl:=hz z (mG hz1);have hed:qz K x=z:=by simp [qz,hk,eo,hz1]
   have hg:(dInts K)[x.to.toNat]? = some [DV.v (.int .i64 (z:Int))]:=by rw [hk];exact dr hz1
   rw [hed] at aQ;refine ⟨_,⟨by omega,hg⟩,?_⟩;have iU:¬ (0 < z/\(m=0∨z < m))->du K es 0=du K (es.drop (e + 1)) m:=fun h=>by rw [aQ,af h]
   have take:(0 < z/\(m=0∨z < m))->du K es 0=du K (es.drop (e + 1)) z:=fun h=>by rw [aQ,zIfP h]
   refine br ?_ ?_<;>intro g1
   ·have g1:0 < z:=by simpa [lastG] using g1
    refine br ?_ ?_<;>intro g2
    ·have g2:¬ m=0:=sU g2;refine ⟨_,⟨by omega,hg⟩,?_⟩;refine br ?_ ?_<;>intro g3
     ·have g3:z < m:=by simpa [pickB,pickD,lastG] using g3
      refine ⟨_,⟨by omega,hg⟩,?_⟩;exact ⟨Js K es z (e + 1),(wkM (wB1 (nxt az (by omega)))),es.length - (e + 1),by omega,e + 1,_,rfl,by omega,by omega,take ⟨g1,.inr g3⟩,rfl⟩
     ·have g3:¬ z < m:=by simpa [pickB,pickD,lastG] using g3
      exact ⟨Js K es m (e + 1),(wkM (wB1 (nxt az (by omega)))),es.length - (e + 1),by omega,e + 1,_,rfl,by omega,by omega,iU (by omega),rfl⟩
    ·have g2:m=0:=sU g2;refine ⟨_,⟨by omega,hg⟩,?_⟩;exact ⟨Js K es z (e + 1),(wkM (wB1 (nxt az (by omega)))),es.length - (e + 1),by omega,e + 1,_,rfl,by omega,by omega,take ⟨g1,.inl g2⟩,rfl⟩
   ·have g1:¬ 0 < z:=by simpa [lastG] using g1
    exact ⟨Js K es m (e + 1),(wkM (wB1 (nxt az (by omega)))),es.length - (e + 1),by omega,e + 1,_,rfl,by omega,by omega,iU (by omega),rfl⟩
  ·have hge:e=es.length:=by have:=hL;simp [eJ] at this;omega
   subst hge;rw [List.drop_length,du] at aQ;refine br ?_ ?_<;>intro g
   ·have g:m=0:=sU g;rw [aQ,zIfP g];exact (rfl:_=_)
   ·have g:¬ m=0:=sU g;rw [af g] at aQ;have hw:IntKind.i64.wrap ((m:Int) + 1)=((m + 1:Nat):Int):=by rw [wrap64 (by omega) (by omega)];omega
    rw [aQ];refine (rY ?_:);exact hw
 ·have h8:¬ ay=8:=sU h8;have hF:ct ⟨ay,cT,lo,hi,most,ag,es⟩ K=1:=by simp [ct,h7,h8]
  rw [hF];exact (rfl:_=_)
abbrev Z1 (n:Nd) (K:List Bool) (s v:Bool) (e:Nat):St:=
 ⟨[bJ 1 1 (AH K),aJ 2 0,zt 5 s,zt 6 v,aC 7 e],[GG n],[]⟩
theorem Mb {L:Nat} {n:Nd} (K:List Bool) (hK:K.length<=1099511627776) (hn:ID L K.length n) (Gz:n.bK.length<=1099511627776) :
  aR prog 109 [.agg (GG n),.sl 1 (AH K) none] (.v (.bool (Ox n K))):=by
 have uq:=hn.HO;have Vf:=hn.bare;have hk8:=hn.k8;obtain ⟨ay,cT,lo,hi,most,ag,es⟩:=n;simp only at uq Vf Gz hk8;refine eG 50 [.tmp 4] func109 rfl ntmps109 rfl fun _ _ _ _=>?_;refine br ?_ ?_<;>intro h7
 ·have h7:ay < 7:=sU h7;refine (dq ?_:);simp [Ox,h7]
 have h7:¬ ay < 7:=sU h7;refine aY (fun j st=>∃ e:Nat,st=Z1 ⟨ay,cT,lo,hi,most,ag,es⟩ K ((es.take e).any (yr K)) ((es.take e).all (yr K)) e/\e<=es.length/\j=es.length - e) es.length (Z1 ⟨ay,cT,lo,hi,most,ag,es⟩ K false true 0) (wkM wB) ⟨0,by simp,by omega,by omega⟩ ?_;rintro j st ⟨e,rfl,he,rfl⟩;refine br ?_ ?_<;>intro hL
 ·have az:e < es.length:=by have:=hL;simp [eJ] at this;exact this
  obtain ⟨x,hx⟩:=gX az;refine iX (j9 hx) ?_;have hs:(es.take (e + 1)).any (yr K)=((es.take e).any (yr K) || yr K x):=by rw [List.take_add_one,hx];simp
  have hv:(es.take (e + 1)).all (yr K)=((es.take e).all (yr K) && yr K x):=by rw [List.take_add_one,hx];simp
  generalize (es.take e).any (yr K)=s at hs ⊢;generalize (es.take e).all (yr K)=v at hv ⊢;refine br ?_ ?_<;>intro hb
  ·have hb:x.bare=false:=sU hb;obtain ⟨k,hk,BO⟩:=(uq x (mG hx)).to1 hb;obtain ⟨b,mb⟩:∃ b,K[k]? = some b:=⟨_,gE BO⟩;have hg:(AH K)[(max x.to 0).toNat]? = some [DV.v (.bool b)]:=by rw [show (max x.to 0).toNat=k by omega];exact NH mb
   have hik:yr K x=b:=by unfold yr;rw [hb,hk];simp [eo,mb]
   rw [hik] at hs hv;refine iX (j9 hx) ?_;refine ⟨_,⟨by omega,hg⟩,?_⟩;have e5:pickB s true b=(es.take (e + 1)).any (yr K):=by rw [hs,ak]
   have e6:pickB v b false=(es.take (e + 1)).all (yr K):=by rw [hv,pickB_and]
   exact rE ⟨_,by omega,e + 1,rfl,by omega,rfl⟩ (wkM (wB3 e5 e6 (nxt az (by omega))))
  ·have hb:x.bare=true:=sU hb;have hik:yr K x=true:=by unfold yr;rw [hb];all_goals rfl
   rw [hik] at hs hv;have e5:pickB s true true=(es.take (e + 1)).any (yr K):=by rw [hs,ak]
   have e6:pickB v true false=(es.take (e + 1)).all (yr K):=by rw [hv,pickB_and]
   exact rE ⟨_,by omega,e + 1,rfl,by omega,rfl⟩ (wkM (wB3 e5 e6 (nxt az (by omega))))
 ·have hge:e=es.length:=by have:=hL;simp [eJ] at this;omega
  subst hge;rw [List.take_length];refine br ?_ ?_<;>intro g
  ·have g:ay=7:=sU g;refine (dq ?_:);simp [Ox,g]
  ·have g:¬ ay=7:=sU g;refine (dq ?_:);simp [Ox,g,h7]
theorem ahO {bx:List (List DV)} {N n0 m0 n i:Nat} {r:List Bool} (hr:r.length=n) (hN:N<=i) (hb:bx[i]? = some (cB r)):Cc bx N n0 m0 (.sl 1 (AH r) none) (.ms i 1 0 n n):=by
 simp only [Cc];refine Or.inr (Or.inr (Or.inl ⟨i,0,n,_,by rw [yI,hr],hN,hb,?_,?_,?_⟩))
 ·grind [ur,wv,yI]
 ·grind [AH]
 ·intro x hx;rw [ur] at hx;obtain ⟨_,_,rfl⟩:=List.mem_map.1 hx;exact .inl ⟨_,rfl⟩
theorem Vg (l:List Nat) (bx:List (List DV)) (N n m:Nat):CcL bx N n m (cN l) (cN l):=by
 induction l with
 | nil=>rfl
 | cons a r ih=>exact ⟨_,_,rfl,rfl,ih⟩
abbrev wG (a b:Nat) (A B:List (List DV)) (ND:List Nd) (z:Int):List DV:=[.sl a A none,.sl b B none,.sl 7 (cE ND) none,.v (.int .i64 z)]
abbrev Vh (W:List DV) (O:List Nat) (K:List Bool) (n d:Nat):St:=
 ⟨[aJ 1 0,(3,⟨[],.ms 1 1 0 n n⟩),bJ 4 1 (AH K),aC 5 d],[W,cN O],[]⟩
abbrev Jt (W:List DV) (O:List Nat) (K:List Bool) (M:List Bool) (n d e:Nat):St:=
 ⟨[aJ 1 0,(3,⟨[],.ms 1 1 0 n n⟩),bJ 4 1 (AH K),aC 5 d,(6,⟨[],.ms 2 1 0 n n⟩),aC 7 e],[W,cN O,cB M],[]⟩
theorem Cj (a b:Nat) (A B:List (List DV)) {ND:List Nd} {L:Nat} (z:Int) (fh:∀ n∈ND,ID L ND.length n) (ir:ND.length<=1099511627776) (cK:∀ n∈ND,n.bK.length<=1099511627776) :
  aR prog 43 [.agg (wG a b A B ND z)] (.sl 1 (dInts (depN ND ND.length)) none):=by
 have iP:=fL ND;refine eG 61 [.tmp 2] func43 rfl ntmps43 rfl fun _ _ _ _=>?_;refine ⟨⟨rfl,by omega,by rw [iP];omega,by rw [iP];omega⟩,?_⟩;refine ⟨⟨rfl,by omega,by rw [iP];omega,by rw [iP];omega⟩,?_⟩;refine KH (fun j st=>∃ d:Nat,st=Vh (wG a b A B ND z) (depN ND d) (posL (depN ND d)) (cE ND).length (d + 1)/\d<=ND.length/\j=ND.length - d) ND.length (Vh (wG a b A B ND z) (depN ND 0) (posL (depN ND 0)) (cE ND).length 1) (.JL 2 rfl rfl ?_ rfl ?_) ⟨0,rfl,by omega,by omega⟩ ?_
 ·refine ⟨_,_,rfl,ax,_,_,rfl,?_,rfl⟩;rw [Yc,iP];exact Vg _ _ _ _ _
 ·refine ⟨⟨_,rfl,av⟩,⟨_,rfl,av⟩,⟨_,rfl,ahO (by rw [posL_len,depN_len,iP];omega) (zLeR _) ?_⟩,⟨_,rfl,ax⟩,trivial⟩;refine congrArg some ?_;rw [PL,iP];simp [posL,depN]
 rintro j st ⟨d,rfl,hd,rfl⟩;have jZ:(posL (depN ND d)).length=ND.length:=by rw [posL_len,depN_len]
 refine br ?_ ?_<;>intro hc
 ·have az:d < ND.length:=sW iP hc;refine ⟨⟨rfl,by omega,by rw [iP];omega,by rw [iP];omega⟩,?_⟩;refine aY (fun j st=>∃ (e:Nat) (O:List Nat) (M:List Bool),st=Jt (wG a b A B ND z) O (posL (depN ND d)) M (cE ND).length (d + 1) e/\e<=ND.length/\O.length=ND.length/\M.length=ND.length/\(∀ i:Nat,i < e->O.getD i 0=(depN ND (d + 1)).getD i 0/\M.getD i false=(posL (depN ND (d + 1))).getD i false)/\(∀ i:Nat,e<=i->O.getD i 0=(depN ND d).getD i 0)/\j=ND.length - e) ND.length (Jt (wG a b A B ND z) (depN ND d) (posL (depN ND d)) (List.replicate ((cE ND).length:Int).toNat false) (cE ND).length (d + 1) 0) (ej 3 (by repeat' (first | exact rfl | exact aA rfl | exact de rfl | exact cR (PL _) | refine ⟨_,_,rfl,?_,?_⟩)) (by repeat' (first | exact trivial | exact aA rfl | exact de rfl | exact cR (PL _) | refine ⟨⟨_,rfl,?_⟩,?_⟩))) ⟨0,_,_,rfl,by omega,by rw [depN_len],by rw [List.length_replicate,iP];omega,fun i hi=>by omega,fun i _=>rfl,by omega⟩ ?_;rintro j st ⟨e,O,M,rfl,he,hO,hM,yx,JY,rfl⟩;refine br ?_ ?_<;>intro hL
  ·have fO:e < ND.length:=by have:=hL;simp [iP] at this;exact this
   obtain ⟨n,hn⟩:∃ n,ND[e]? = some n:=⟨_,gE fO⟩;have Yd:=mG hn;have h1:=Mb (posL (depN ND d)) (by rw [jZ];exact ir) (n:=n) (by rw [jZ];exact fh n Yd) (cK n Yd);obtain ⟨r1,r2⟩:=Vc (fun m hm=>⟨(fh m hm).k8,(fh m hm).bare⟩) d hn;refine iX (j8 hn) ?_;refine cP aep h1 ?_
   have hst:(cB M).set (0 + (e:Int).toNat * 1) (DV.v (.bool (Ox n (posL (depN ND d)))))=cB (M.set e (Ox n (posL (depN ND d)))):=by
    rw [show 0 + (e:Int).toNat * 1=e by omega,FI]
   have SG:(cB (M.set e (Ox n (posL (depN ND d)))))[0 + (e:Int).toNat * 1]? = some (DV.v (.bool (Ox n (posL (depN ND d))))):=by
    rw [show 0 + (e:Int).toNat * 1=e by omega];exact TQ (iR (by omega))
   obtain ⟨q,hq⟩:∃ q,O[e]? = some q:=⟨_,gE (by omega)⟩;have hqd:(depN ND d).getD e 0=q:=by rw [<- JY e (zLeR _),eo,hq];all_goals rfl
   rw [hqd] at r1
   have hMs:∀ i:Nat,i < e + 1->(M.set e (Ox n (posL (depN ND d)))).getD i false=(posL (depN ND (d + 1))).getD i false:=fun i hi=>by
    by_cases Kk:i=e
    ·subst Kk;rw [r2,eo,iR (by omega)];all_goals rfl
    ·rw [eo,List.getElem?_set_ne (Ne.symm Kk),<- eo];exact (yx i (by omega)).2
   generalize Ox n (posL (depN ND d))=h at hst SG r1 hMs ⊢;refine ⟨⟨by omega,by rw [iP];omega⟩,?_⟩;refine ⟨by rw [wv];omega,?_⟩;refine ⟨⟨by omega,by rw [iP];omega⟩,?_⟩;refine ⟨DV.v (.bool h),(by rw [hst];exact SG),?_⟩
   have hOs:∀ v,v=(depN ND (d + 1)).getD e 0->∀ i:Nat,i < e + 1->(O.set e v).getD i 0=(depN ND (d + 1)).getD i 0:=fun v hv i hi=>by
    by_cases Kk:i=e
    ·subst Kk;rw [<- hv,eo,iR (by omega)];all_goals rfl
    ·rw [eo,List.getElem?_set_ne (Ne.symm Kk),<- eo];exact (yx i (by omega)).1
   have hOr:∀ v:Nat,∀ i:Nat,e + 1<=i->(O.set e v).getD i 0=(depN ND d).getD i 0:=fun v i hi=>by
    rw [eo,List.getElem?_set_ne (by omega),<- eo];exact JY i (by omega)
   have hOq:O.set e q=O:=List.ext_getElem? fun i=>by
    by_cases Kk:e=i
    ·subst Kk;rw [iR (by omega),hq]
    ·rw [List.getElem?_set_ne Kk]
   refine br ?_ ?_<;>intro g
   ·have g:h=true:=sU g;refine ⟨⟨by omega,by rw [iP];omega⟩,?_⟩;refine ⟨DV.v (.int .i64 (q:Int)),(by rw [show 0 + (e:Int).toNat * 1=e by omega];exact Vd hq),?_⟩;refine br ?_ ?_<;>intro g2
    ·have g2:q=0:=by simpa [pickB,pickD] using g2
     rw [zIfP ⟨g,g2⟩] at r1;refine ⟨⟨by omega,by rw [iP];omega⟩,?_⟩;refine ⟨by rw [Ma];omega,?_⟩
     have Rz:(cN O).set (0 + (e:Int).toNat * 1) (DV.v (.int .i64 ((d + 1:Nat):Int)))=cN (O.set e (d + 1)):=by
      rw [show 0 + (e:Int).toNat * 1=e by omega,Ve]
     exact ⟨Jt (wG a b A B ND z) (O.set e (d + 1)) (posL (depN ND d)) (M.set e h) (cE ND).length (d + 1) (e + 1),(ej 3 (wA3 Rz hst (nxt fO (by omega))) (wB3 Rz hst (nxt fO (by omega)))),ND.length - (e + 1),by omega,e + 1,_,_,rfl,by omega,by simp [hO],by rw [List.length_set];exact hM,fun i hi=>⟨hOs _ r1.symm i hi,hMs i hi⟩,hOr (d + 1),rfl⟩
    ·have g2:¬ q=0:=by simpa [pickB,pickD] using g2
     rw [af (fun h=>g2 h.2)] at r1;exact ⟨Jt (wG a b A B ND z) (O.set e q) (posL (depN ND d)) (M.set e h) (cE ND).length (d + 1) (e + 1),(ej 3 (by repeat' (first | exact rfl | exact aA rfl | exact de (by rw [hOq]) | exact cR hst | exact aG (nxt fO (by omega)) | refine ⟨_,_,rfl,?_,?_⟩)) (by repeat' (first | exact trivial | exact aA rfl | exact de (by rw [hOq]) | exact cR hst | exact aG (nxt fO (by omega)) | refine ⟨⟨_,rfl,?_⟩,?_⟩))),ND.length - (e + 1),by omega,e + 1,_,_,rfl,by omega,by simp [hO],by rw [List.length_set];exact hM,fun i hi=>⟨hOs _ r1.symm i hi,hMs i hi⟩,hOr q,rfl⟩
   ·have g:h=false:=sU g;rw [af (by rw [g];simp)] at r1;exact ⟨Jt (wG a b A B ND z) (O.set e q) (posL (depN ND d)) (M.set e h) (cE ND).length (d + 1) (e + 1),(ej 3 (by repeat' (first | exact rfl | exact aA rfl | exact de (by rw [hOq]) | exact cR hst | exact aG (nxt fO (by omega)) | refine ⟨_,_,rfl,?_,?_⟩)) (by repeat' (first | exact trivial | exact aA rfl | exact de (by rw [hOq]) | exact cR hst | exact aG (nxt fO (by omega)) | refine ⟨⟨_,rfl,?_⟩,?_⟩))),ND.length - (e + 1),by omega,e + 1,_,_,rfl,by omega,by simp [hO],by rw [List.length_set];exact hM,fun i hi=>⟨hOs _ r1.symm i hi,hMs i hi⟩,hOr q,rfl⟩
  ·have hge:e=ND.length:=sW iP hL;subst hge
   have hO2:O=depN ND (d + 1):=uX (by rw [hO,depN_len]) fun j=>by
    rcases Nat.lt_or_ge j ND.length with hj | hj
    ·exact (yx j hj).1
    ·simp only [eo];rw [rr (by omega),rr (by rw [depN_len];omega)]
   have hM2:M=posL (depN ND (d + 1)):=HQ (by rw [hM,posL_len,depN_len]) (fun j hj=>by
     rcases Nat.lt_or_ge j ND.length with h | h
     ·rw [<- (yx j h).2];exact hj
     ·rw [eo,rr (by omega)] at hj;cases hj) (fun j hj=>by
     rcases Nat.lt_or_ge j ND.length with h | h
     ·rw [(yx j h).2];exact hj
     ·rw [eo,rr (by rw [posL_len,depN_len];omega)] at hj;cases hj)
   subst hO2 hM2;refine ⟨Vh (wG a b A B ND z) (depN ND (d + 1)) (posL (depN ND (d + 1))) (cE ND).length (d + 1 + 1),.JL 2 rfl rfl ⟨_,_,rfl,ax,_,_,rfl,Vg _ _ _ _ _,rfl⟩ rfl ⟨⟨_,rfl,av⟩,⟨_,rfl,av⟩,⟨_,rfl,ahO (by rw [posL_len,depN_len,iP]) (zLeR _) rfl⟩,⟨_,rfl,?_⟩,trivial⟩,ND.length - (d + 1),by omega,d + 1,rfl,by omega,rfl⟩;exact congrArg (fun z=>DV.v (Value.int .i64 z)) (nxt (n:=1099511627777) (by omega) (by omega))
 ·have hge:d=ND.length:=sW iP hc;subst hge;exact ⟨_,acF (by rw [depN_len,iP]) (Nat.zero_le _) rfl,rfl⟩
def ys (ND:List Nd) (d e:Nat):Bool:=(List.range e).any fun i=>decide (¬ (depN ND (d + 1)).getD i 0=(depN ND d).getD i 0)
theorem QE (ND:List Nd) (d e:Nat):ys ND d (e + 1)=(ys ND d e || decide (¬ (depN ND (d + 1)).getD e 0=(depN ND d).getD e 0)):=by
 simp [ys,List.range_succ]
theorem Ju {ND:List Nd} {d:Nat}:ys ND d ND.length=false↔depN ND (d + 1)=depN ND d:=by grind [uX,depN_len,ys]
theorem Mc {ND:List Nd} {d:Nat} (hd:d<=1099511627776):∀ z∈depN ND d,z<=1099511627776:=fun z hz=>by
 obtain ⟨i,hi⟩:=List.mem_iff_getElem?.1 hz;have:=Ya ND d i
 grind
abbrev Vi (ND:List Nd) (d:Nat) (c:Bool):St:=
 ⟨[bJ 3 7 (cE ND),bJ 4 1 (dInts (depN ND d)),zt 5 c],[],[]⟩
abbrev Oy (ND:List Nd) (d:Nat) (c:Bool) (L:List Nat) (e:Nat):St:=
 ⟨[bJ 3 7 (cE ND),bJ 4 1 (dInts (depN ND d)),zt 5 c,(6,⟨[],.ms 0 1 0 (cE ND).length (cE ND).length⟩),bJ 18 7 (cE ND),aC 19 ((cE ND).length),aC 20 e],[cN L],[]⟩
theorem Md {L:Nat} {ND:List Nd} {p:DV} (h0:aR prog 100 [p] (.sl 7 (cE ND) none)) (fh:∀ n∈ND,ID L ND.length n) (ir:ND.length<=1099511627776) (cK:∀ n∈ND,n.bK.length<=1099511627776) (sY:∀ bx N n m,Cc bx N n m p p) :
  aR prog 101 [p] (.sl 1 (dInts (depN ND ND.length)) none):=by
 have iP:=fL ND;refine eG 46 [.tmp 2] func101 rfl ntmps101 rfl fun _ _ _ _=>?_;refine cP Yy h0 ?_ (o9 sY);refine ⟨⟨rfl,by omega,by rw [iP];omega,by rw [iP];omega⟩,?_⟩;refine KH (fun j st=>∃ (d:Nat) (c:Bool),st=Vi ND d c/\(c=true->d<=ND.length)/\(c=false->depN ND d=depN ND ND.length)/\j=ND.length + 2 - d) (ND.length + 2) (Vi ND 0 true) (.JL 0 rfl rfl rfl rfl ?_) ⟨0,true,rfl,by omega,by simp,by omega⟩ ?_
 ·refine ⟨⟨_,rfl,ax⟩,⟨_,rfl,acF (by rw [depN_len,iP];omega) (by omega) ?_⟩,⟨_,rfl,ax⟩,trivial⟩;refine congrArg some ?_;rw [Yc,iP];rfl
 rintro j st ⟨d,c,rfl,MK,tw,rfl⟩;refine br ?_ ?_<;>intro hc
 ·have hc:c=true:=hc;have hd:=MK hc;refine ⟨⟨rfl,by omega,by rw [iP];omega,by rw [iP];omega⟩,?_⟩;refine aY (fun j st=>∃ (e:Nat) (L:List Nat),st=Oy ND d (ys ND d e) L e/\e<=ND.length/\L.length=ND.length/\(∀ i:Nat,i < e->L.getD i 0=(depN ND (d + 1)).getD i 0)/\j=ND.length - e) ND.length (Oy ND d false (List.replicate ((cE ND).length:Int).toNat 0) 0) (ej 1 (by repeat' (first | exact rfl | exact aA rfl | exact de (Yc _) | refine ⟨_,_,rfl,?_,?_⟩)) (by repeat' (first | exact trivial | exact aA rfl | exact de (Yc _) | refine ⟨⟨_,rfl,?_⟩,?_⟩))) ⟨0,_,rfl,by omega,by rw [List.length_replicate,iP];omega,fun i hi=>by omega,by omega⟩ ?_;rintro j st ⟨e,L,rfl,he,hL,hLv,rfl⟩;refine br ?_ ?_<;>intro az
  ·have az:e < ND.length:=by have:=az;simp [iP] at this;exact this
   obtain ⟨n,hn⟩:=gX az;have Yd:=mG hn;have fO:=Gp (depN ND d) (by rw [depN_len];exact ir) (n:=n) (by rw [depN_len];exact fh n Yd) (Mc (by omega)) (cK n Yd);refine iX (j8 hn) ?_;refine cP aeD fO ?_;refine ⟨⟨by omega,by rw [iP];omega⟩,?_⟩;refine ⟨by rw [Ma];omega,?_⟩;refine dI ?_;have hv:=depN_get ND d e;rw [hn] at hv;have hv:(depN ND (d + 1)).getD e 0=ct n (depN ND d):=hv;obtain ⟨z,hz⟩:∃ z,(depN ND d)[e]? = some z:=⟨_,gE (by rw [depN_len];exact az)⟩;have hzd:(depN ND d).getD e 0=z:=by rw [eo,hz];all_goals rfl
   have cx:=QE ND d e;rw [hv,hzd] at cx;have hst:(cN L).set (0 + (e:Int).toNat * 1) (DV.v (.int .i64 ((ct n (depN ND d):Nat):Int)))=cN (L.set e (ct n (depN ND d))):=by grind [Ve]
   have hLs:∀ i:Nat,i < e + 1->(L.set e (ct n (depN ND d))).getD i 0=(depN ND (d + 1)).getD i 0:=fun i hi=>by grind
   refine br ?_ ?_<;>intro g
   ·have g:ys ND d e=false:=sU g;rw [g,Bool.false_or] at cx;have SG:(cN (L.set e (ct n (depN ND d))))[0 + (e:Int).toNat * 1]? = some (DV.v (.int .i64 ((ct n (depN ND d):Nat):Int))):=by grind [Vd]
    refine ⟨⟨by omega,by rw [iP];omega⟩,?_⟩;rw [hst];refine ⟨_,SG,?_⟩;refine iX (dr hz) ?_
    have hbo:(!decide (((ct n (depN ND d):Nat):Int)=(z:Int)))=ys ND d (e + 1):=by
     rw [cx,Bool.eq_iff_iff];simp;omega
    exact ⟨Oy ND d (ys ND d (e + 1)) (L.set e (ct n (depN ND d))) (e + 1),(ej 1 (J9 hbo (nxt az (by omega))) (wB2 hbo (nxt az (by omega)))),ND.length - (e + 1),by omega,e + 1,_,rfl,by omega,by rw [List.length_set];exact hL,hLs,rfl⟩
   ·have g:ys ND d e=true:=sU g;rw [g,Bool.true_or] at cx;exact ⟨Oy ND d (ys ND d (e + 1)) (L.set e (ct n (depN ND d))) (e + 1),(ej 1 (wA3 hst cx.symm (nxt az (by omega))) (wB3 hst cx.symm (nxt az (by omega)))),ND.length - (e + 1),by omega,e + 1,_,rfl,by omega,by rw [List.length_set];exact hL,hLs,rfl⟩
  ·have hge:e=ND.length:=sW iP az;subst hge;have hLL:L=depN ND (d + 1):=uX (by rw [hL,depN_len]) fun j=>by grind [depN_len]
   subst hLL;refine ⟨Vi ND (d + 1) (ys ND d ND.length),.JL 0 rfl rfl rfl rfl ⟨⟨_,rfl,ax⟩,⟨_,rfl,acF (by rw [depN_len,iP]) (by omega) rfl⟩,⟨_,rfl,ax⟩,trivial⟩,ND.length + 2 - (d + 1),by omega,d + 1,_,rfl,fun sY=>?_,fun sY=>Vb (Ju.1 sY),rfl⟩;have:depN ND (d + 1)≠depN ND d:=fun h=>by rw [Ju.2 h] at sY;cases sY
   have:=Yb this;omega
 ·have hc:c=false:=hc;rw [tw hc];exact ⟨_,ax,rfl⟩
theorem nK.esz {S:Sch} {ND:List Nd} {PC:List DV} (hP:nK S ND PC):∀ n∈ND,n.bK.length<=1099511627776:=fun n hn=>by
 have h1:=hP.wt;rw [hP.Dx] at hn;exact (wJ hn h1).2
theorem Jv {S:Sch} {ND:List Nd} {PC:List DV} (hP:nK S ND PC):aR prog 101 [.pt PC 0] (.sl 1 (dInts (depN ND ND.length)) none):=
 Md (uY hP) hP.ok hP.nl hP.esz fun _ _ _ _=>ax
def cutM (n:Nat):Nat:=min n 4097
def othE (t:List Nat) (k:Nat × Option Nat):Nat:=match k.2 with
 | none=>k.1
 | some j=>if t.getD j 0=0 then 0 else cutM (k.1 + t.getD j 0)
end Go.Proofs.YtfdedoiiahbnnaaGreat
set_option maxRecDepth 100000
namespace Go.Proofs.YtfdedoiiahbnnaaGreat
open Go Go.RowKit
namespace Dv
def effN (X:Ctx) (bx:List (List DV)) (sl:List (Nat × Sl)) (op:Op) (K:DV->Prop):Prop:=
 match isL op with
 | true=>optP (effR X ⟨sl,bx,[]⟩ op K)
 | false=>optP (effR X ⟨sl,[],[]⟩ op K)
section
variable {X:Ctx} {ops:Array Oper} {bx:List (List DV)} {tk:List TkE} {W:Nat->Bool} {k:List It} {s00:List (Nat × Sl)} {t00:List TkE}
end
end Dv
end Go.Proofs.YtfdedoiiahbnnaaGreat
set_option maxRecDepth 100000
namespace Go.Proofs.YtfdedoiiahbnnaaGreat
open Go Go.RowKit Dv Go.Proofs.Tryz
def OtOK (kf:Nat->Option (Nat × Option Nat)) (t:List Nat):Prop:=∀ i,t.getD i 0≠0->∃ k,kf i=some k/\t.getD i 0=othE t k
section
variable {kf:Nat->Option (Nat × Option Nat)} {N:Nat}
theorem qG (kf:Nat->Option (Nat × Option Nat)) (N:Nat):OtOK kf (List.replicate N 0):=fun i hi=>by grind
end
structure Pl where
 i:Nat
 d:Nd
 k:Nat
 s:J3
abbrev wL (lv:List Wd) (f:Nat->Nat->Bool) (ND:List Nd) (z:Int):List DV:=[.sl 2 (bA lv) none,.sl 1 (dM (eS lv.length f)) none,.sl 7 (cE ND) none,.v (.int .i64 z)]
theorem xZ {S:Sch} (hF:DK S) {i:Nat} {n:Nd} (h:(aV S)[i]? = some n) {e:Ed} (he:e∈n.bK) (hb:e.bare=true):e.ck=0:=by
 have hk8:=(wI hF h).bare e he hb;rw [nJ] at h;obtain ⟨t,ht,u,hu,rfl,lk⟩:=AZ h;have PI:=AX t ⟨_,_,hF.wr t ht⟩ u hu;have hT:=Lj PI;obtain ⟨uh,us⟩:=u;simp only [Ty.h,Ty.ps] at hT;obtain ⟨p,v,k',h1,rfl,_⟩:=uz he;obtain ⟨j,hj⟩:=List.mem_iff_getElem?.1 h1;obtain ⟨_,hP⟩:=(hT.many (.inr hk8)).2.2 j p v hj;rcases hP with ⟨_,_,_,jZ⟩ | ⟨fj,_⟩
 ·exact (qW jZ).2.2.1
 ·have:p.bare=true:=hb;rw [fj] at this;cases this
def uZ (ck:Int):Int:=if ck=3 then 5 else if ck=2 then 3 else 2
abbrev ahP (W:List DV) (e:Nat):St:=⟨[aJ 1 0,aJ 2 1,aC 3 e],[W,[.v (.int .i64 0),.v (.int .i64 0)]],[]⟩
abbrev acG (W:List DV) (es:List Ed) (e k:Nat):St:=⟨[aJ 1 0,aJ 2 1,aC 3 e,bJ 4 10 (lZ es),aC 5 k],[W,[.v (.int .i64 0),.v (.int .i64 0)]],[]⟩
abbrev ahQ (S:Sch) (a b:Int) (W:List DV) (D:List Nat) (e:Nat):St:=
 ⟨[aJ 1 0,aJ 3 1,aJ 5 3,bJ 6 1 (dInts D),aC 7 e],[dt S,[.v (.int .i64 0),.v (.int .i64 0)],[.v (.int .i64 a),.v (.int .i64 b)],W],[]⟩
end Go.Proofs.YtfdedoiiahbnnaaGreat
set_option maxRecDepth 100000
namespace Go.Proofs.YtfdedoiiahbnnaaGreat
namespace Dv
open Go Go.RowKit
theorem Jw {X:Ctx} {c:Code} {id:Nat} {k:List It} {st:St} (J:St->Prop) (h:ru X c [.Cr id,.Gw J] st) (hJ:∀ s,J s->∃ s',Wk X s s' /\ go X 4000 k s'):ru X c (.Cr id :: k) st:=fun E a w hr=>by
 have key:∀ a w,kq X [.Gw J] .normal a w->kq X k .normal a w:=by
  rintro a w ⟨s,E,h1,h2⟩;obtain ⟨s',h3,h4⟩:=hJ s h2;obtain ⟨E',h5⟩:=h3 E a w h1;exact go_sound 4000 _ _ h4 E' a w h5
 refine wp_mono (h E a w hr) ?_;intro e a w hq
 cases e with
 | normal=>exact key a w hq
 | ret=>exact vy (.Cr id :: k) a w hq
 | exit i=>
  simp only [kq] at hq ⊢;split at hq
  ·rename_i hi;rw [zIfP hi];exact key a w hq
  ·exact hq.elim
 | goto _=>exact hq.elim
 | panic _=>exact hq.elim
 | outgrown=>exact hq.elim
end Dv
open Go Go.RowKit Dv Go.Proofs.Tryz
end Go.Proofs.YtfdedoiiahbnnaaGreat
set_option maxRecDepth 100000
namespace Go.Proofs.YtfdedoiiahbnnaaGreat
open Go Go.RowKit Dv Go.Proofs.Tryz
theorem Ez (c:UInt8) (z:Int) (hz:z=((c.toNat:Nat):Int)):aR prog 303 [.v (.int .u8 z)] (.v (.bool (fq c))):=by
 have h:fq c=(decide (48<=z) && decide (z<=57)):=by
  unfold fq;rw [show decide (48<=c.toNat)=decide (48<=z) from decide_eq_decide.2 (by omega),show decide (c.toNat<=57)=decide (z<=57) from decide_eq_decide.2 (by omega)]
 rw [h];refine eG 9 [.tmp 2] func303 rfl ntmps303 rfl fun _ _ _ _=>?_;exact (congrArg (fun b=>DV.v (.bool b)) (pickB_and _ _):_=_)
abbrev BJ (s:ByteArray) (zi A:Int) (M:ByteArray) (sg e:Int):St:=⟨[(0,⟨[],.v (.string s)⟩),aC 1 zi,aJ 6 0,aC 7 A,(8,⟨[],.v (.string M)⟩),aC 9 sg,aC 10 e],[JN],[]⟩
abbrev Z2 (s:ByteArray) (zi A sg E n e:Int):St:=⟨[(0,⟨[],.v (.string s)⟩),aC 1 zi,aJ 6 0,aC 7 A,aC 9 sg,aC 10 E,aC 11 n,aC 12 e],[JN],[]⟩
set_option maxHeartbeats 4000000 in
theorem Me (s:ByteArray) (hs:s.size<=1099511627776) (i:Nat) (hi:i < s.size):aR prog 261 [.v (.string s),.v (.int .i64 i)] (tkD (takeN s i)):=by
 have gf:=bd s;obtain ⟨c,eH,hb⟩:=bl hi
 have V8:(tx s)[i]? = some c:=by
  have:=congrArg List.head? eH
  rwa [List.head?_drop,List.head?_cons] at this
 rw [uV V8];obtain ⟨zi,yp⟩:∃ zi:Int,zi=(i:Nat):=⟨_,rfl⟩;obtain ⟨z,hz⟩:∃ z:Int,z=((c.toNat:Nat):Int):=⟨_,rfl⟩;have jI:((aq s zi.toNat:Nat):Int)=z:=by rw [yp,dV,hb,hz]
 have s7:IntKind.i64.wrap (zi + 1)=((i + 1:Nat):Int):=by rw [yp];exact nxt hi (by omega)
 rw [<- yp];obtain ⟨m,hm⟩:∃ m:Bool,m=decide (c.toNat=45):=⟨_,rfl⟩;obtain ⟨a,ha⟩:∃ a:Nat,a=if c.toNat=45 then i + 1 else i:=⟨_,rfl⟩
 rw [<- hm,<- ha];obtain ⟨A,hA⟩:∃ A:Int,A=((a:Nat):Int):=⟨_,rfl⟩;obtain ⟨M,hM⟩:∃ M:ByteArray,M=if m=true then rO else rN:=⟨_,rfl⟩
 obtain ⟨sg,Vz⟩:∃ sg:Int,sg=if m=true then -1 else 1:=⟨_,rfl⟩
 have hae:a<=s.size:=by rw [ha];split<;>omega
 have iP:=qP ((tx s).drop a);rw [List.length_drop,gf] at iP;have fW:=pQ ((tx s).drop a)
 have hR:yo (tx s) s.size i a m=if digN ((tx s).drop a)=0/\a=s.size then (0,0,5,((a:Nat):Int))
   else if digN ((tx s).drop a)=0 then (0,0,19,((a:Nat):Int))
   else if ((tx s)[a]?).map UInt8.toNat=some 48/\(1 < digN ((tx s).drop a)∨m=true) then (0,0,19,((i:Nat):Int))
   else if (gn (((tx s).drop a).take (digN ((tx s).drop a))) m).2=true then ((gn (((tx s).drop a).take (digN ((tx s).drop a))) m).1,((a + digN ((tx s).drop a):Nat):Int),0,0)
   else (0,0,13,((i:Nat):Int)):=rfl
 generalize yo (tx s) s.size i a m=R at hR ⊢;have hEnd:∀ e,a<=e->e<=s.size->e + digN ((tx s).drop e)=a + digN ((tx s).drop a)->e<=a + digN ((tx s).drop a):=fun e _ _ h=>by omega
 obtain ⟨k,hK⟩:∃ k,k=digN ((tx s).drop a):=⟨_,rfl⟩;rw [<- hK] at hR iP fW;have hY:tx (s.extract a (a + k))=((tx s).drop a).take k:=by simp [tx,List.drop_take]
 obtain ⟨L,hL⟩:∃ L,L=((tx s).drop a).take k:=⟨_,rfl⟩;rw [<- hL] at hR fW hY;have VG:L.length=k:=by rw [hL,zLenT,List.length_drop,gf];omega
 obtain ⟨E,hE⟩:∃ E:Int,E=((a + k:Nat):Int):=⟨_,rfl⟩;have Q8:A.toNat=a:=by omega
 have hEt:E.toNat=a + k:=by omega
 have jo:IntKind.i64.wrap (E - A)=k:=by rw [wrap64 (by omega) (by omega)];omega
 have hLg:∀ j,j < k->∃ b,L[j]? = some b/\(tx s)[a + j]? = some b:=fun j hj=>by
  refine ⟨_,gE (by omega),?_⟩;rw [<- gE,hL,cJ,zIfP hj,List.getElem?_drop]
 refine eG 102 [.tmp 4,.tmp 5,.cell 6 26] func261 rfl ntmps261 rfl fun _ _ _ _=>?_;refine br (fun g=>?_) (fun _=>?_)
 ·exfalso;simp [ak] at g;omega
 refine br (fun _=>?_) (fun g=>absurd (show zi < s.size by omega) (sU g));refine ⟨⟨by omega,by omega⟩,?_⟩;rw [jI];refine br ?_ ?_<;>intro g
 have P5:c.toNat=45:=by simp [pickB] at g;omega
 rw [decide_eq_true P5] at hm;rw [zIfP P5] at ha;have e1:IntKind.i64.wrap (zi + 1)=A:=by omega
 have e2:rO=M:=by rw [hM,zIfP hm]
 have e3:(-1:Int)=sg:=by rw [Vz,zIfP hm]
 refine Jw (fun s'=>po 0 0 s' (BJ s zi A M sg E)) (aY (fun j st=>∃ e:Nat,st=BJ s zi A M sg e/\a<=e/\e<=s.size/\e + digN ((tx s).drop e)=a + k/\j=s.size - e) (s.size - a) (BJ s zi A M sg a) (wkM (by repeat' (first | exact trivial | exact aA rfl | exact aG e1 | exact Fl e2 | exact aG e3 | exact aG (e1.trans hA) | refine ⟨⟨_,rfl,?_⟩,?_⟩))) ⟨a,rfl,by omega,by omega,by omega,rfl⟩ ?_) ?_
 ·rintro _ st ⟨e,rfl,h1,h2,h3,rfl⟩;refine br ?_ ?_<;>intro hL
  rotate_left
  ·have hge:e=s.size:=by simp at hL;omega
   rw [List.drop_eq_nil_of_le (by omega)] at h3;have h3:e + 0=a + k:=h3;have e4:((e:Nat):Int)=E:=by omega
   exact (wkM (wB1 e4))
  have az:e < s.size:=by simp at hL;omega
  obtain ⟨b,U6,JJ⟩:=bl az;have U6:(tx s).drop e=b :: (tx s).drop (e + 1):=U6;rw [U6,digN] at h3;obtain ⟨zb,Qy⟩:∃ zb:Int,zb=((b.toNat:Nat):Int):=⟨_,rfl⟩;have hbz:((aq s (e:Int).toNat:Nat):Int)=zb:=by rw [dV,JJ,Qy]
  have Oq:=Ez b zb Qy;generalize fq b=B at Oq h3;refine ⟨⟨by omega,by omega⟩,?_⟩;rw [hbz];refine cP Y4 Oq ?_
  cases B with
  | true=>
   rw [zIfP rfl] at h3;exact rE ⟨_,by omega,e + 1,rfl,by omega,by omega,by omega,rfl⟩ (wkM (wB1 (nxt az (by omega))))
  | false=>
   rw [af (by simp)] at h3;have e4:((e:Nat):Int)=E:=by omega
   exact (wkM (wB1 e4))
 rotate_left
 have P5:¬ c.toNat=45:=fun h=>by simp [pickB] at g;omega
 rw [decide_eq_false P5] at hm;rw [af P5] at ha;have e1:zi=A:=by omega
 have e2:rN=M:=by rw [hM,hm];all_goals rfl
 have e3:(1:Int)=sg:=by rw [Vz,hm];all_goals rfl
 refine Jw (fun s'=>po 0 0 s' (BJ s zi A M sg E)) (aY (fun j st=>∃ e:Nat,st=BJ s zi A M sg e/\a<=e/\e<=s.size/\e + digN ((tx s).drop e)=a + k/\j=s.size - e) (s.size - a) (BJ s zi A M sg a) (wkM (by repeat' (first | exact trivial | exact aA rfl | exact aG e1 | exact Fl e2 | exact aG e3 | exact aG (e1.trans hA) | refine ⟨⟨_,rfl,?_⟩,?_⟩))) ⟨a,rfl,by omega,by omega,by omega,rfl⟩ ?_) ?_
 ·rintro _ st ⟨e,rfl,h1,h2,h3,rfl⟩;refine br ?_ ?_<;>intro hL
  rotate_left
  ·have hge:e=s.size:=by simp at hL;omega
   rw [List.drop_eq_nil_of_le (by omega)] at h3;have h3:e + 0=a + k:=h3;have e4:((e:Nat):Int)=E:=by omega
   exact (wkM (wB1 e4))
  have az:e < s.size:=by simp at hL;omega
  obtain ⟨b,U6,JJ⟩:=bl az;have U6:(tx s).drop e=b :: (tx s).drop (e + 1):=U6;rw [U6,digN] at h3;obtain ⟨zb,Qy⟩:∃ zb:Int,zb=((b.toNat:Nat):Int):=⟨_,rfl⟩;have hbz:((aq s (e:Int).toNat:Nat):Int)=zb:=by rw [dV,JJ,Qy]
  have Oq:=Ez b zb Qy;generalize fq b=B at Oq h3;refine ⟨⟨by omega,by omega⟩,?_⟩;rw [hbz];refine cP Y4 Oq ?_
  cases B with
  | true=>
   rw [zIfP rfl] at h3;exact rE ⟨_,by omega,e + 1,rfl,by omega,by omega,by omega,rfl⟩ (wkM (wB1 (nxt az (by omega))))
  | false=>
   rw [af (by simp)] at h3;have e4:((e:Nat):Int)=E:=by omega
   exact (wkM (wB1 e4))
 all_goals
  intro s' hs';refine ⟨BJ s zi A M sg E,fun E' a' w' hr=>pE hr hs',?_⟩;by_cases h0:k=0
  ·have hEa:E=((a:Nat):Int):=by omega
   have hX:=congrArg (fun z=>DV.v (.int .i64 z)) hEa;refine br (fun _=>?_) (fun g=>absurd (show E=A by omega) (sU g));by_cases hZ:a=s.size
   ·rw [zIfP ⟨h0,hZ⟩] at hR;subst hR;refine br (fun _=>?_) (fun g=>absurd (show E=s.size by omega) (sU g));exact ⟨_,(by repeat' (first | exact rfl | exact trivial | exact Or.inr (Or.inl ⟨_,rfl⟩) | exact Or.inr ⟨_,rfl⟩ | exact Or.inl ⟨rfl,rfl⟩ | exact Or.inl rfl | refine Or.inr ⟨_,_,rfl,Nat.zero_le _,rfl,?_⟩ | refine ⟨_,_,rfl,?_,?_⟩ | refine ⟨_,rfl,?_⟩ | exact hX | refine Or.inr (Or.inr (Or.inr ⟨_,_,rfl,?_⟩)) | exact Or.inl rfl | refine Or.inr ?_)),rfl⟩
   ·rw [af (fun h=>hZ h.2),zIfP h0] at hR;subst hR;refine br (fun g=>absurd (of_decide_eq_true g) (by omega)) (fun _=>?_);exact ⟨_,(by repeat' (first | exact rfl | exact trivial | exact Or.inr (Or.inl ⟨_,rfl⟩) | exact Or.inr ⟨_,rfl⟩ | exact Or.inl ⟨rfl,rfl⟩ | exact Or.inl rfl | refine Or.inr ⟨_,_,rfl,Nat.zero_le _,rfl,?_⟩ | refine ⟨_,_,rfl,?_,?_⟩ | refine ⟨_,rfl,?_⟩ | exact hX | refine Or.inr (Or.inr (Or.inr ⟨_,_,rfl,?_⟩)) | exact Or.inl rfl | refine Or.inr ?_)),rfl⟩
  rw [af (fun h=>h0 h.1),af h0] at hR;refine br (fun g=>absurd (of_decide_eq_true g) (by omega)) (fun _=>?_);obtain ⟨b,ib,hba⟩:=hLg 0 (by omega);rw [Nat.add_zero] at hba;rw [hba] at hR;obtain ⟨zb,Qy⟩:∃ zb:Int,zb=((b.toNat:Nat):Int):=⟨_,rfl⟩
  have LY:((aq s A.toNat:Nat):Int)=zb:=by
   rw [pS (s:=s) (l:=tx s) rfl a Q8,eo,hba,Qy];rfl
  have hX:=congrArg (fun z=>DV.v (.int .i64 z)) yp
  have Cy:(m=true/\sg = -1)∨(m=false/\sg=1):=by
   rw [Vz];cases m
   ·right;exact ⟨rfl,rfl⟩
   ·left;exact ⟨rfl,rfl⟩
  refine ⟨⟨by omega,by omega⟩,?_⟩;rw [LY];by_cases DQ:b.toNat=48/\(1 < k∨m=true)
  ·rw [zIfP ⟨by simp [DQ.1],DQ.2⟩] at hR;subst hR;refine br (fun _=>?_) (fun g=>?_)
   rotate_left
   ·exfalso;simp only [pickB_and,ak,jo] at g;simp at g;have:=g (by omega);rcases DQ.2 with h | h
    ·omega
    ·rcases Cy with ⟨_,h2⟩ | ⟨h2,_⟩
     ·omega
     ·rw [h2] at h;cases h
   exact ⟨_,(by repeat' (first | exact rfl | exact trivial | exact Or.inr (Or.inl ⟨_,rfl⟩) | exact Or.inr ⟨_,rfl⟩ | exact Or.inl ⟨rfl,rfl⟩ | exact Or.inl rfl | refine Or.inr ⟨_,_,rfl,Nat.zero_le _,rfl,?_⟩ | refine ⟨_,_,rfl,?_,?_⟩ | refine ⟨_,rfl,?_⟩ | exact hX | refine Or.inr (Or.inr (Or.inr ⟨_,_,rfl,?_⟩)) | exact Or.inl rfl | refine Or.inr ?_)),rfl⟩
  rw [af (fun h=>DQ ⟨by simpa using h.1,h.2⟩)] at hR;refine br (fun g=>?_) (fun _=>?_)
  ·exfalso;simp only [pickB_and,ak,jo] at g;simp at g;apply DQ;refine ⟨by omega,?_⟩;rcases g.2 with h | h
   ·left;omega
   ·right;rcases Cy with ⟨h2,_⟩ | ⟨_,h2⟩
    ·exact h2
    ·omega
  have hYY:tx (s.extract A.toNat E.toNat)=L:=by rw [Q8,hEt];exact hY
  have tj:L ≠ []:=fun h=>by rw [h] at VG;simp at VG;omega
  have hgv:=QB hYY fW tj (fun c r hcr h=>by
   rw [hcr] at ib VG;simp at ib VG;have hbc:c=b:=ib;rw [hbc] at h;rcases Nat.lt_or_ge 1 k with h1 | h1
   ·exact absurd ⟨h,.inl h1⟩ DQ
   ·exact List.length_eq_zero_iff.1 (by omega)) m
  have Gx:=L7 (s.extract A.toNat E.toNat) M;rw [hM,hgv,<- hM] at Gx
  have hV:(gn L m).2=true->(gn L m).1=sg * (cd L:Nat)/\((m=true/\sg = -1/\cd L<=9223372036854775808)∨(m=false/\sg=1/\cd L<=9223372036854775807)):=fun h=>by
   unfold gn at h ⊢;rcases Cy with ⟨h1,h2⟩ | ⟨h1,h2⟩
   ·rw [zIfP h1] at h ⊢;by_cases hh:cd L<=9223372036854775808
    ·rw [zIfP hh,h2];exact ⟨by show -((cd L:Nat):Int)=_;omega,.inl ⟨h1,rfl,hh⟩⟩
    ·rw [af hh] at h;cases h
   ·rw [af (by rw [h1];simp)] at h ⊢;by_cases hh:cd L<=9223372036854775807
    ·rw [zIfP hh,h2];exact ⟨by show ((cd L:Nat):Int)=_;omega,.inr ⟨h1,rfl,hh⟩⟩
    ·rw [af hh] at h;cases h
  generalize gn L m=V at hR Gx hV;obtain ⟨V1,V2⟩:=V;simp only at hR Gx hV;refine ⟨⟨by omega,by omega,by omega⟩,?_⟩;refine cP afc Gx ?_
  cases V2 with
  | false=>
   rw [af (by simp)] at hR;subst hR;exact ⟨_,(by repeat' (first | exact rfl | exact trivial | exact Or.inr (Or.inl ⟨_,rfl⟩) | exact Or.inr ⟨_,rfl⟩ | exact Or.inl ⟨rfl,rfl⟩ | exact Or.inl rfl | refine Or.inr ⟨_,_,rfl,Nat.zero_le _,rfl,?_⟩ | refine ⟨_,_,rfl,?_,?_⟩ | refine ⟨_,rfl,?_⟩ | exact hX | refine Or.inr (Or.inr (Or.inr ⟨_,_,rfl,?_⟩)) | exact Or.inl rfl | refine Or.inr ?_)),rfl⟩
  | true=>
   rw [zIfP rfl] at hR;subst hR;obtain ⟨hV1,hVb⟩:=hV rfl
   have Ro:∀ x:Nat,x<=cd L -> -9223372036854775808<=sg * (x:Int)/\sg * (x:Int)<=9223372036854775807:=fun x hx=>by
    rcases hVb with ⟨_,h1,h2⟩ | ⟨_,h1,h2⟩
    ·rw [h1];omega
    ·rw [h1];omega
   refine aY (fun j st=>∃ e:Nat,st=Z2 s zi A sg E (sg * (cd (L.take e):Nat)) ((a + e:Nat):Int)/\e<=k/\j=k - e) k (Z2 s zi A sg E (sg * (cd (L.take 0):Nat)) ((a + 0:Nat):Int)) ?_ ⟨0,rfl,by omega,by omega⟩ ?_
   ·have e1:(0:Int)=sg * (cd (L.take 0):Nat):=by rw [List.take_zero];simp [cd]
    exact (wkM (wB2 e1 hA))
   rintro _ st ⟨e,rfl,he,rfl⟩;refine br ?_ ?_<;>intro n7
   rotate_left
   ·have hge:e=k:=by have:=of_decide_eq_false n7;omega
    subst hge;have e1:sg * (cd (L.take e):Nat)=V1:=by rw [List.take_of_length_le (by omega)];exact hV1.symm
    have hX1:=congrArg (fun z=>DV.v (.int .i64 z)) e1;have hX2:=congrArg (fun z=>DV.v (.int .i64 z)) hE;exact ⟨_,(by repeat' (first | exact rfl | exact trivial | exact Or.inr (Or.inl ⟨_,rfl⟩) | exact Or.inr ⟨_,rfl⟩ | exact Or.inl ⟨rfl,rfl⟩ | exact Or.inl rfl | refine Or.inr ⟨_,_,rfl,Nat.zero_le _,rfl,?_⟩ | refine ⟨_,_,rfl,?_,?_⟩ | refine ⟨_,rfl,?_⟩ | exact hX1 | exact hX2 | refine Or.inr (Or.inr (Or.inr ⟨_,_,rfl,?_⟩)) | exact Or.inl rfl | refine Or.inr ?_)),rfl⟩
   have az:e < k:=by have:=of_decide_eq_true n7;omega
   obtain ⟨y,hy,hya⟩:=hLg e az;have hyd:=fW y (mG hy);unfold fq at hyd;simp only [bh,decide_eq_true_eq] at hyd;have hst:=Da hy;have fO:=Ni L (e + 1)
   have hbe3:((aq s (((a + e:Nat):Int)).toNat:Nat):Int)=((y.toNat:Nat):Int):=by
    rw [pS (s:=s) (l:=tx s) rfl (a + e) (dV _),eo,hya];rfl
   have vb:IntKind.i64.wrap (IntKind.u8.wrap (((y.toNat:Nat):Int) - 48))=((y.toNat - 48:Nat):Int):=by
    rw [IntKind.wrap_u8',wrap64 (by omega) (by omega)];omega
   have mb:=Ro (cd (L.take (e + 1))) fO;have iI:=Ro (cd (L.take e) * 10) (by omega)
   have hw:IntKind.i64.wrap (IntKind.i64.wrap (sg * (cd (L.take e):Nat) * 10) + IntKind.i64.wrap (sg * IntKind.i64.wrap (IntKind.u8.wrap (((y.toNat:Nat):Int) - 48))))=sg * (cd (L.take (e + 1)):Nat):=by
    rw [vb];rcases Cy with ⟨_,h2⟩ | ⟨_,h2⟩
    ·rw [h2] at mb iI ⊢;rw [wrap64 (n:=-1 * ((cd (L.take e):Nat):Int) * 10) (by omega) (by omega),wrap64 (n:=-1 * ((y.toNat - 48:Nat):Int)) (by omega) (by omega),wrap64 (by omega) (by omega)];omega
    ·rw [h2] at mb iI ⊢;rw [wrap64 (n:=1 * ((cd (L.take e):Nat):Int) * 10) (by omega) (by omega),wrap64 (n:=1 * ((y.toNat - 48:Nat):Int)) (by omega) (by omega),wrap64 (by omega) (by omega)];omega
   have rk:IntKind.i64.wrap (((a + e:Nat):Int) + 1)=((a + (e + 1):Nat):Int):=by rw [wrap64 (by omega) (by omega)];omega
   refine ⟨⟨by omega,by omega⟩,?_⟩;rw [hbe3];exact rE ⟨_,by omega,e + 1,rfl,by omega,rfl⟩ (wkM (wB2 hw rk))
def Mf (l:List UInt8):Int:=if 1<=l.length/\l.length<=6/\lU l=true then fk l else -1
abbrev ahR (s:ByteArray) (n:Int) (e:Nat) (x y:Int):St:=⟨[(0,⟨[],.v (.string s)⟩),aC 3 n,aC 4 e],[],[]⟩
theorem EA (s:ByteArray) (hs:s.size<=1099511627776):aR prog 340 [.v (.string s)] (.v (.int .i64 (Mf (tx s)))):=by
 have gf:=bd s;have hZ:Mf (tx s)=if 1<=(tx s).length/\(tx s).length<=6/\lU (tx s)=true then (fk (tx s):Int) else -1:=rfl
 rw [gf] at hZ;generalize Mf (tx s)=Z at hZ ⊢;refine eG 56 [.tmp 2] func340 rfl ntmps340 rfl fun _ _ _ _=>?_;refine br ?_ ?_<;>intro g
 ·rw [af (by intro h;simp [ak] at g;omega)] at hZ;subst hZ;exact (rfl:_=_)
 have cK:1<=s.size/\s.size<=6:=by simp [ak] at g;omega
 refine lI (fun j st=>∃ e:Nat,st=ahR s (fk ((tx s).take e):Nat) e 0 0/\e<=s.size/\lU ((tx s).take e)=true/\j=s.size - e) ⟨0,rfl,by omega,rfl,rfl⟩ (wkM wB) ?_;rintro j st ⟨e,rfl,he,hA,rfl⟩;have GK:=hexN_6 hA (by rw [zLenT,bd];omega);refine br ?_ ?_<;>intro h
 ·have az:e < s.size:=by have:=of_decide_eq_true h;omega
  obtain ⟨c,eH,hb⟩:=bl az
  have GD:(tx s)[e]? = some c:=by
   have:=congrArg List.head? eH
   rwa [List.head?_drop,List.head?_cons] at this
  have fX:=c.toNat_lt;have iP:=Jd c.toNat;have pz:=wZ GD;have hsa:=w6 GD;rw [hA,Bool.true_and] at hsa;have OH:=mG GD;have Ip:¬ jE c.toNat < 16->Z = -1:=fun h=>by rw [hZ,af (fun hh=>by rw [Bw OH h] at hh;exact absurd hh.2.2 (by simp))]
  have Oq:jE c.toNat=if 48<=c.toNat/\c.toNat<=57 then c.toNat - 48 else if 97<=c.toNat/\c.toNat<=102 then c.toNat - 87 else if 65<=c.toNat/\c.toNat<=70 then c.toNat - 55 else 16:=rfl
  generalize jE c.toNat=d at *;obtain ⟨z,hz⟩:∃ z:Int,z=((c.toNat:Nat):Int):=⟨_,rfl⟩;have jI:((aq s (e:Int).toNat:Nat):Int)=z:=by rw [dV,hb,hz]
  have sX:IntKind.i64.wrap z=z:=wrap64 (by omega) (by omega)
  have vv:∀ x:Int,x=(d:Nat)->d < 16->IntKind.i64.wrap (IntKind.i64.wrap (16 * ((fk ((tx s).take e):Nat):Int)) + x)=((fk ((tx s).take (e + 1)):Nat):Int):=fun x hx hd=>by
   rw [wrap64 (n:=16 * ((fk ((tx s).take e):Nat):Int)) (by omega) (by omega),wrap64 (by omega) (by omega)];omega
  have DQ:IntKind.i64.wrap (IntKind.i64.wrap z - 48)=z - 48:=by rw [sX];exact wrap64 (by omega) (by omega)
  have h55:IntKind.i64.wrap (IntKind.i64.wrap z - 55)=z - 55:=by rw [sX];exact wrap64 (by omega) (by omega)
  have h87:IntKind.i64.wrap (IntKind.i64.wrap z - 87)=z - 87:=by rw [sX];exact wrap64 (by omega) (by omega)
  have ly:d < 16->lU ((tx s).take (e + 1))=true:=fun h=>by rw [hsa,decide_eq_true h]
  refine ⟨⟨by omega,by omega⟩,?_⟩;rw [jI];refine br ?_ ?_<;>intro g1
  ·have g1:48<=z/\z < 58:=by simpa [pickB_and,sX] using g1
   refine br (fun g2=>?_) (fun _=>?_)
   ·exfalso;simp [pickB_and,sX] at g2;omega
   refine br (fun g2=>?_) (fun _=>?_)
   ·exfalso;simp [pickB_and,sX] at g2;omega
   refine br (fun g2=>?_) (fun _=>?_)
   ·exfalso;have:=of_decide_eq_true g2;omega
   rw [zIfP (by omega)] at Oq;have hw:=vv (IntKind.i64.wrap (IntKind.i64.wrap z - 48)) (by omega) (by omega);exact rE ⟨_,by omega,e + 1,rfl,by omega,ly (by omega),rfl⟩ (wkM (wB2 (nxt az (by omega)) hw))
  have g1:¬ (48<=z/\z < 58):=fun h=>by simp [pickB_and,sX] at g1;omega
  rw [af (by omega)] at Oq;refine br ?_ ?_<;>intro g2
  ·have g2:65<=z/\z < 71:=by simpa [pickB_and,sX] using g2
   refine br (fun g3=>?_) (fun _=>?_)
   ·exfalso;simp [pickB_and,sX] at g3;omega
   refine br (fun g3=>?_) (fun _=>?_)
   ·exfalso;have:=of_decide_eq_true g3;omega
   rw [af (by omega),zIfP (by omega)] at Oq;have hw:=vv (IntKind.i64.wrap (IntKind.i64.wrap z - 55)) (by omega) (by omega);exact rE ⟨_,by omega,e + 1,rfl,by omega,ly (by omega),rfl⟩ (wkM (wB2 (nxt az (by omega)) hw))
  have g2:¬ (65<=z/\z < 71):=fun h=>by simp [pickB_and,sX] at g2;omega
  refine br ?_ ?_<;>intro g3
  ·have g3:97<=z/\z < 103:=by simpa [pickB_and,sX] using g3
   refine br (fun g4=>?_) (fun _=>?_)
   ·exfalso;have:=of_decide_eq_true g4;omega
   rw [zIfP (by omega)] at Oq;have hw:=vv (IntKind.i64.wrap (IntKind.i64.wrap z - 87)) (by omega) (by omega);exact rE ⟨_,by omega,e + 1,rfl,by omega,ly (by omega),rfl⟩ (wkM (wB2 (nxt az (by omega)) hw))
  have g3:¬ (97<=z/\z < 103):=fun h=>by simp [pickB_and,sX] at g3;omega
  rw [af (by omega),af (by omega)] at Oq;rw [Ip (by omega)];exact (rfl:_=_)
 ·have hge:e=s.size:=by have:=of_decide_eq_false h;omega
  subst hge;rw [List.take_of_length_le (by rw [bd];exact zLeR _)] at hA ⊢;rw [zIfP ⟨cK.1,cK.2,hA⟩] at hZ;subst hZ;exact (rfl:_=_)
def qC (t:List UInt8) (j:Nat):Bool:=decide (t[j]? = some 125) && (lU (t.take j) && gM (fk (t.take j):Nat))
theorem Vj {t:List UInt8} {j:Nat} (h:t[j]? = some 125) (hA:lU (t.take j)=true):t.idxOf 125=j:=by
 have az:=(gS h).1
 have hn:∀ k,k < j->t[k]? ≠ some 125:=fun k hk he=>by
  have hm:(125:UInt8)∈t.take j:=mG (i:=k) (by rw [cJ,zIfP hk];exact he);rw [Bw hm (by decide)] at hA;cases hA
 have key:∀ (t:List UInt8) (j:Nat),t[j]? = some 125->(∀ k,k < j->t[k]? ≠ some 125)->t.idxOf 125=j:=by
  intro t
  induction t with
  | nil=>intro j h;simp at h
  | cons c t ih=>
   intro j h hn;rw [List.idxOf_cons]
   cases j with
   | zero=>
    simp at h;rw [h];rfl
   | succ j=>
    have h0:=hn 0 (by omega)
    have hc:(c == 125)=false:=by
     apply beq_eq_false_iff_ne.2;intro h';rw [h'] at h0;exact h0 rfl
    rw [hc,ih j (sU h) (fun k hk=>by simpa using hn (k + 1) (by omega))];rfl
 exact key t j h hn
theorem QF {x:UInt8} {t:List UInt8} {j:Nat} (hx:x.toNat=123) (h1:1<=j) (h6:j<=6) (h:qC t j=true):scaP (x :: t)=(lY (fk (t.take j):Nat),j + 2)/\lY (fk (t.take j):Nat) ≠ []:=by
 unfold qC at h;simp only [bh,decide_eq_true_eq] at h;obtain ⟨ha,hb,hc⟩:=h;have hi:=Vj ha hb;have az:=(gS ha).1
 have hB:iE (t.take (t.idxOf 125))=true:=by
  rw [iE,hi,hb,Bool.and_true]
  cases ht:t.take j with
  | nil=>
   have:=congrArg List.length ht;rw [zLenT,List.length_nil] at this;omega
  | cons _ _=>rfl
 refine ⟨?_,?_⟩
 ·rw [scaP,zIfP ⟨hx,by omega,by omega,hB⟩,hi]
 ·rw [lY,zIfP hc];have:=Jj (fk (t.take j):Int).toNat;intro h0;rw [h0] at this;simp at this
theorem QG {x:UInt8} {t:List UInt8} (h:¬ x.toNat=123∨∀ j,1<=j->j<=6->j < t.length->qC t j=false):(scaP (x :: t)).1=[]:=by
 rw [scaP];split
 ·rename_i hh;obtain ⟨h1,h2,h3,h4⟩:=hh;rcases h with h | h
  ·exact absurd h1 h
  have hB:=h4;rw [iE,bh] at hB
  have hp:1<=t.idxOf 125:=by
   rcases Nat.eq_zero_or_pos (t.idxOf 125) with h0 | h0
   ·rw [h0] at h4;simp [iE] at h4
   ·exact h0
  have hg:=h _ hp h3 h2
  have h125:t[t.idxOf 125]? = some 125:=by
   rw [gE h2,List.getElem_idxOf h2]
  rw [qC,decide_eq_true h125,hB.2,Bool.true_and,Bool.true_and] at hg;show lY _=[];rw [lY,af (by rw [hg];simp)]
 ·rfl
abbrev Z3 (s W:ByteArray) (i:Int) (z:Int) (e:Nat):St:=⟨[(0,⟨[],.v (.string s)⟩),aC 1 i,(6,⟨[],.v (.string W)⟩),aC 7 e],[],[]⟩
abbrev on5D (p:List UInt8 × Nat):DV:=.bo [.v (.string (ba p.1)),.v (.int .i64 p.2)]
set_option maxHeartbeats 2000000 in
theorem QH (s:ByteArray) (hs:s.size<=1099511627776) (i:Nat) (hi:i < s.size):aR prog 305 [.v (.string s),.v (.int .i64 i)] (on5D (oneE ((tx s).drop i))):=by
 have gf:=bd s;obtain ⟨b,eH,hb⟩:=bl hi;have eH:(tx s).drop i=b :: (tx s).drop (i + 1):=eH;have jo:tx (s.extract (i:Int).toNat (s.size:Int).toNat)=(tx s).drop i:=by rw [dV i];exact uA s i hs
 have CA:(s.extract (i:Int).toNat (s.size:Int).toNat).size=s.size - i:=by
  have:=congrArg List.length jo;rw [bd,List.length_drop,gf] at this;exact this
 rw [eH] at jo ⊢;obtain ⟨zi,yp⟩:∃ zi:Int,zi=(i:Nat):=⟨_,rfl⟩;have BV:IntKind.i64.wrap ((s.size:Int) - zi)=(s.size:Int) - zi:=wrap64 (by omega) (by omega);obtain ⟨zb,Qy⟩:∃ zb:Int,zb=((b.toNat:Nat):Int):=⟨_,rfl⟩;have jI:((aq s zi.toNat:Nat):Int)=zb:=by rw [yp,dV,hb,Qy]
 rw [<- yp] at jo CA ⊢;generalize hRR:s.extract zi.toNat (s.size:Int).toNat=W at jo CA;obtain ⟨zs,OC⟩:∃ zs:Int,zs=((s.size:Nat):Int):=⟨_,rfl⟩;by_cases h2:i + 1 < s.size
 rotate_left
 ·have acA:(tx s).drop (i + 1)=[]:=List.drop_eq_nil_of_le (by omega);rw [acA];refine eG 106 [.tmp 4,.tmp 5] func305 rfl ntmps305 rfl fun _ _ _ _=>?_;refine br (fun g=>?_) (fun _=>?_)
  ·exfalso;rw [BV] at g;simp [ak] at g;omega
  exact ⟨_,ax,rfl⟩
 obtain ⟨c,BA,hc⟩:=bl h2;have BA:(tx s).drop (i + 1)=c :: (tx s).drop (i + 2):=BA;rw [BA] at jo ⊢;have gW:((tx s).drop (i + 2)).length=s.size - (i + 2):=by rw [List.length_drop,gf]
 generalize (tx s).drop (i + 2)=r at jo gW ⊢
 have hO:oneE (b :: c :: r)=if b.toNat≠92 then ([],0) else if c.toNat=34∨c.toNat=92 then ([c],2) else if c.toNat=116 then ([9],2) else if c.toNat=110 then ([10],2) else if c.toNat=114 then ([13],2)
  else if c.toNat=120 then (if 2<=r.length/\iE (r.take 2)=true then ([UInt8.ofNat (fk (r.take 2))],4) else ([],0))
  else if c.toNat=117 then (if (scaP r).1=[] then ([],0) else ((scaP r).1,2 + (scaP r).2)) else ([],0):=rfl
 generalize oneE (b :: c :: r)=O at hO ⊢;refine eG 106 [.tmp 4,.tmp 5] func305 rfl ntmps305 rfl fun _ _ _ _=>?_;refine br (fun _=>?_) (fun g=>?_)
 rotate_left
 ·exfalso;rw [BV] at g;simp [ak] at g;omega
 refine ⟨⟨by omega,by omega⟩,?_⟩;rw [jI];refine br ?_ ?_<;>intro g
 ·rw [zIfP (by intro h;simp [ak] at g;omega)] at hO;subst hO;exact ⟨_,ax,rfl⟩
 have hb92:b.toNat=92:=by simp [ak] at g;omega
 rw [af (by omega)] at hO;refine ⟨⟨by omega,by omega,by omega⟩,?_⟩;rw [hRR];have hWl:=congrArg List.length jo;rw [bd,List.length_cons,List.length_cons] at hWl;refine ⟨⟨by omega,by omega⟩,?_⟩;obtain ⟨z,hz⟩:∃ z:Int,z=((c.toNat:Nat):Int):=⟨_,rfl⟩
 have GD:((aq W (1:Int).toNat:Nat):Int)=z:=by
  have:=pS (s:=W) jo (z:=1) 1 rfl;rw [this,hz];rfl
 rw [GD];have n5:∀ (y:Int) (k:Nat),y=(k:Nat)->z=y->c.toNat=k:=fun y k h1 h2=>by omega
 refine br ?_ ?_<;>intro g
 ·refine br (fun _=>?_) (fun g'=>absurd (g.symm.trans g') (by decide));have g:c.toNat=34:=n5 _ 34 rfl (of_decide_eq_true g);rw [zIfP (.inl g)] at hO;subst hO;refine ⟨⟨by omega,by omega,by omega⟩,?_⟩
  have hx1:W.extract (1:Int).toNat (2:Int).toNat=ba [c]:=pP (by
   have:tx (W.extract 1 2)=((tx W).take 2).drop 1:=by simp [tx,List.drop_take]
   rw [show (1:Int).toNat=1 from rfl,show (2:Int).toNat=2 from rfl,this,jo]
   rfl)
  rw [hx1];exact ⟨_,ax,rfl⟩
 have g1:¬ c.toNat=34:=fun h=>of_decide_eq_false g (by omega);refine br ?_ ?_<;>intro g
 ·have g:c.toNat=92:=n5 _ 92 rfl (of_decide_eq_true g);rw [zIfP (.inr g)] at hO;subst hO;refine ⟨⟨by omega,by omega,by omega⟩,?_⟩
  have hx1:W.extract (1:Int).toNat (2:Int).toNat=ba [c]:=pP (by
   have:tx (W.extract 1 2)=((tx W).take 2).drop 1:=by simp [tx,List.drop_take]
   rw [show (1:Int).toNat=1 from rfl,show (2:Int).toNat=2 from rfl,this,jo]
   rfl)
  rw [hx1];exact ⟨_,ax,rfl⟩
 have g2:¬ c.toNat=92:=fun h=>of_decide_eq_false g (by omega);rw [af (by omega)] at hO;refine br ?_ ?_<;>intro g
 ·have g:c.toNat=116:=n5 _ 116 rfl (of_decide_eq_true g);rw [zIfP g] at hO;subst hO;exact ⟨_,ax,rfl⟩
 have g3:¬ c.toNat=116:=fun h=>of_decide_eq_false g (by omega);rw [af g3] at hO;refine br ?_ ?_<;>intro g
 ·have g:c.toNat=110:=n5 _ 110 rfl (of_decide_eq_true g);rw [zIfP g] at hO;subst hO;exact ⟨_,ax,rfl⟩
 have g4:¬ c.toNat=110:=fun h=>of_decide_eq_false g (by omega);rw [af g4] at hO;refine br ?_ ?_<;>intro g
 ·have g:c.toNat=114:=n5 _ 114 rfl (of_decide_eq_true g);rw [zIfP g] at hO;subst hO;exact ⟨_,ax,rfl⟩
 have g5:¬ c.toNat=114:=fun h=>of_decide_eq_false g (by omega);rw [af g5] at hO;refine br ?_ ?_<;>intro g
 ·have g:c.toNat=120:=n5 _ 120 rfl (of_decide_eq_true g);rw [zIfP g] at hO;refine br ?_ ?_<;>intro g
  rotate_left
  ·have g:¬ 3 < W.size:=by simp at g;omega
   rw [af (fun h=>by have:=h.1;omega)] at hO;subst hO;exact ⟨_,ax,rfl⟩
  have g:3 < W.size:=by simp at g;omega
  refine ⟨⟨by omega,by omega,by omega⟩,?_⟩
  have ZX:tx (W.extract (2:Int).toNat (4:Int).toNat)=r.take 2:=by
   have:tx (W.extract 2 4)=((tx W).take 4).drop 2:=by simp [tx,List.drop_take]
   rw [show (2:Int).toNat=2 from rfl,show (4:Int).toNat=4 from rfl,this,jo];rfl
  have Vk:(r.take 2).length=2:=by rw [zLenT];omega
  have Oz:=EA (W.extract (2:Int).toNat (4:Int).toNat) (by
   have:=congrArg List.length ZX;rw [bd] at this
   omega)
  rw [ZX] at Oz;have hZ:Mf (r.take 2)=if 1<=(r.take 2).length/\(r.take 2).length<=6/\lU (r.take 2)=true then (fk (r.take 2):Int) else -1:=rfl
  have hBA:iE (r.take 2)=lU (r.take 2):=by
   cases ht:r.take 2 with
   | nil=>rw [ht] at Vk;simp at Vk
   | cons _ _=>rfl
  rw [hBA] at hO;have GK:=Gi (r.take 2);have ki:2<=r.length:=by omega
  rw [Vk] at hZ GK;generalize lU (r.take 2)=B at hZ hO GK;generalize fk (r.take 2)=N at hZ hO GK;generalize Mf (r.take 2)=Z at Oz hZ;generalize Xe:W.extract (2:Int).toNat (4:Int).toNat=X at Oz ⊢
  cases B with
  | false=>
   rw [af (fun h=>by simpa using h.2)] at hO;rw [af (fun h=>by simpa using h.2.2)] at hZ;subst hO hZ;refine cP zJ Oz ?_;exact ⟨_,ax,rfl⟩
  | true=>
   rw [zIfP ⟨ki,rfl⟩] at hO;rw [zIfP ⟨by omega,by omega,rfl⟩] at hZ;subst hO;have hN:N < 256:=GK rfl;refine cP zJ Oz ?_;refine br (fun _=>?_) (fun g=>?_)
   rotate_left
   ·exfalso;simp [pickB_and] at g;omega
   refine ⟨⟨by omega,by omega,by omega⟩,?_⟩;rw [Xe];refine cP zJ Oz ?_;refine ⟨[UInt8.ofNat N],?_,?_⟩
   ·have e1:IntKind.u8.wrap Z=((UInt8.ofNat N).toNat:Int):=b8 hZ hN;exact congrArg (fun z=>[DV.v (.int .u8 z)]) e1
   exact ⟨_,ax,rfl⟩
 have g6:¬ c.toNat=120:=fun h=>of_decide_eq_false g (by omega);rw [af g6] at hO;refine br ?_ ?_<;>intro g
 rotate_left
 ·have g7:¬ c.toNat=117:=fun h=>of_decide_eq_false g (by omega);rw [af g7] at hO;subst hO;exact ⟨_,ax,rfl⟩
 have g:c.toNat=117:=n5 _ 117 rfl (of_decide_eq_true g);rw [zIfP g] at hO
 cases r with
 | nil=>
  have hO:O=([],0):=hO;subst hO;have hW2:W.size=2:=hWl;refine lI (fun j st=>st=Z3 s W zi z 4/\j=0) ⟨rfl,rfl⟩ (wkM wB) ?_;rintro _ st ⟨rfl,rfl⟩;refine br ?_ ?_<;>intro g
  ·exfalso;simp [pickB_and] at g;omega
  exact ⟨_,ax,rfl⟩
 | cons x t=>
 have hWt:W.size=t.length + 3:=by rw [hWl,List.length_cons]
 have Z4:=fun {j:Nat}=>@QF x t j;have ME:=@QG x t;generalize scaP (x :: t)=S at hO Z4 ME;obtain ⟨zx,hzx⟩:∃ zx:Int,zx=((x.toNat:Nat):Int):=⟨_,rfl⟩
 have OL:((aq W (2:Int).toNat:Nat):Int)=zx:=by
  have:=pS (s:=W) jo (z:=2) 2 rfl;rw [this,hzx];rfl
 refine lI (fun j st=>∃ e:Nat,st=Z3 s W zi z e/\4<=e/\e<=10/\(¬ x.toNat=123∨∀ j,1<=j->j + 3 < e->j < t.length->qC t j=false)/\j=10 - e) ⟨4,rfl,by omega,by omega,.inr (fun j h1 h2=>by omega),rfl⟩ (wkM wB) ?_;rintro _ st ⟨e,rfl,h4,u7,hinv,rfl⟩;refine br ?_ ?_<;>intro g
 rotate_left
 ·have g:¬ (e<=9/\e < W.size):=by simp [pickB_and] at g;omega
  rw [zIfP (ME (hinv.imp_right fun h j h1 h6 hj=>h j h1 (by omega) hj))] at hO;subst hO;exact ⟨_,ax,rfl⟩
 have g:e<=9/\e < W.size:=by simp [pickB_and] at g;omega
 refine ⟨⟨by omega,by omega⟩,?_⟩;rw [OL];have GF:=nxt (show e < 100 by omega) (by omega);refine br ?_ ?_<;>intro Mg
 rotate_left
 ·have Mg:¬ x.toNat=123:=fun h=>by simp at Mg;omega
  exact rE ⟨_,by omega,e + 1,rfl,by omega,by omega,.inl Mg,rfl⟩ (wkM (wB1 GF))
 have Mg:x.toNat=123:=by simp at Mg;omega
 have hinv:∀ j,1<=j->j + 3 < e->j < t.length->qC t j=false:=hinv.resolve_left (fun h=>h Mg)
 have rF:qC t (e - 3)=false->¬ x.toNat=123∨∀ j,1<=j->j + 3 < e + 1->j < t.length->qC t j=false:=fun h=>.inr fun j h1 h2 h3=>by
  rcases Nat.lt_or_ge (j + 3) e with h4 | h4
  ·exact hinv j h1 h4 h3
  ·have:j=e - 3:=by omega
   rw [this];exact h
 have BZ:qC t (e - 3)=(decide (t[e - 3]? = some 125) && (lU (t.take (e - 3)) && gM (fk (t.take (e - 3)):Nat))):=rfl;obtain ⟨y,hy⟩:∃ y,t[e - 3]? = some y:=⟨_,gE (by omega)⟩;rw [hy] at BZ;obtain ⟨zy,hzy⟩:∃ zy:Int,zy=((y.toNat:Nat):Int):=⟨_,rfl⟩
 have hye:((aq W (e:Int).toNat:Nat):Int)=zy:=by
  have:=pS (s:=W) jo (z:=(e:Int)) e (dV e);rw [this,hzy];have e3:e=(e - 3) + 1 + 1 + 1:=by omega
  have:(b :: c :: x :: t).getD e 0=y:=by
   rw [eo,e3];simp only [List.getElem?_cons_succ];rw [hy];rfl
  rw [this]
 refine ⟨⟨by omega,by omega⟩,?_⟩;rw [hye];refine br ?_ ?_<;>intro QI
 rotate_left
 ·have QI:¬ zy=125:=fun h=>by simp [pickB,h] at QI
  have hG:qC t (e - 3)=false:=by
   rw [BZ,decide_eq_false (fun h=>QI (by
    rw [Option.some.inj h] at hzy
    exact hzy)),Bool.false_and]
  exact rE ⟨_,by omega,e + 1,rfl,by omega,by omega,rF hG,rfl⟩ (wkM (wB1 GF))
 have QI:zy=125:=by simp [pickB] at QI;exact QI
 have hy5:y=125:=UInt8.toNat_inj.1 (by show y.toNat=125;omega);rw [decide_eq_true (by rw [hy5]),Bool.true_and] at BZ;refine ⟨⟨by omega,by omega,by omega⟩,?_⟩
 have ZX:tx (W.extract (3:Int).toNat (e:Int).toNat)=t.take (e - 3):=by
  have:tx (W.extract 3 e)=((tx W).take e).drop 3:=by simp [tx,List.drop_take]
  rw [show (3:Int).toNat=3 from rfl,dV,this,jo];have e3:e=(e - 3) + 1 + 1 + 1:=by omega
  rw [e3];rfl
 have hTl:(t.take (e - 3)).length=e - 3:=by rw [zLenT];omega
 have Oz:=EA (W.extract (3:Int).toNat (e:Int).toNat) (by
  have:=congrArg List.length ZX;rw [bd] at this
  omega)
 rw [ZX] at Oz;have hZ:Mf (t.take (e - 3))=if 1<=(t.take (e - 3)).length/\(t.take (e - 3)).length<=6/\lU (t.take (e - 3))=true then (fk (t.take (e - 3)):Int) else -1:=rfl
 have GK:=fun h=>hexN_6 (l:=t.take (e - 3)) h (by omega);have hG2:=fun h=>Z4 (j:=e - 3) Mg (by omega) (by omega) h;rw [hTl] at hZ;generalize lU (t.take (e - 3))=B at hZ BZ GK;generalize fk (t.take (e - 3))=N at hZ BZ GK hG2;generalize Mf (t.take (e - 3))=Z at Oz hZ;generalize qC t (e - 3)=G at rF BZ hG2;generalize Xe:W.extract (3:Int).toNat (e:Int).toNat=X at Oz
 cases B with
 | false=>
  rw [af (fun h=>by simpa using h.2.2)] at hZ;subst hZ;refine cP zJ Oz ?_;exact rE ⟨_,by omega,e + 1,rfl,by omega,by omega,rF (by rw [BZ];rfl),rfl⟩ (wkM (wB1 GF))
 | true=>
  rw [zIfP ⟨by omega,by omega,rfl⟩] at hZ;have hN:=GK rfl;rw [Bool.true_and] at BZ;have hZ0:0<=Z:=by omega
  have Kw:IntKind.i32.wrap Z=Z:=Fm (by omega) (by omega);have nc:=pT Z;have gY:=sr Z;rw [<- hZ] at BZ hG2;rw [<- BZ,<- Kw] at nc;have gY:aR prog 254 [.v (.int .i32 (IntKind.i32.wrap Z))] (.v (.string (ba (lY Z)))):=by rw [Kw];exact gY
  refine cP zJ Oz ?_;refine br (fun _=>?_) (fun g=>?_)
  rotate_left
  ·exfalso;simp [pickB] at g;omega
  refine ⟨⟨by omega,by omega,by omega⟩,?_⟩;rw [Xe];refine cP zJ Oz ?_;refine cP R6 nc ?_
  cases G with
  | false=>
   exact rE ⟨_,by omega,e + 1,rfl,by omega,by omega,rF rfl,rfl⟩ (wkM (wB1 GF))
  | true=>
   obtain ⟨hS1,hS2⟩:=hG2 rfl;rw [hS1,af hS2] at hO;subst hO;refine ⟨⟨by omega,by omega,by omega⟩,?_⟩;rw [Xe];refine cP zJ Oz ?_;refine cP R7 gY ?_;have hw9:IntKind.i64.wrap ((e:Int) + 1)=((2 + (e - 3 + 2):Nat):Int):=by rw [GF];omega
   have hX:=congrArg (fun z=>DV.v (.int .i64 z)) hw9;exact ⟨_,(by repeat' (first | exact rfl | exact trivial | exact Or.inr (Or.inl ⟨_,rfl⟩) | exact Or.inr ⟨_,rfl⟩ | exact Or.inl ⟨rfl,rfl⟩ | exact Or.inl rfl | refine Or.inr ⟨_,_,rfl,Nat.zero_le _,rfl,?_⟩ | refine ⟨_,_,rfl,?_,?_⟩ | refine ⟨_,rfl,?_⟩ | exact hX | refine Or.inr (Or.inr (Or.inr ⟨_,_,rfl,?_⟩)) | exact Or.inl rfl | refine Or.inr ?_)),rfl⟩
abbrev ahT (s:ByteArray) (i:Int) (l:List UInt8) (e:Nat):St:=⟨[(0,⟨[],.v (.string s)⟩),aC 1 i,aJ 6 0,(7,⟨[],.v (.string (ba l))⟩),aC 8 e],[JN],[]⟩
set_option maxHeartbeats 2000000 in
theorem Ck (s:ByteArray) (hs:s.size<=1099511627776) (i:Nat) (hi:i < s.size) (hq:aq s i=34):aR prog 262 [.v (.string s),.v (.int .i64 i)] (ahC (ke (tx s) i)):=by
 have gf:=bd s;have hR:ke (tx s) i=Jk ((tx s).drop (i + 1)) (i + 1) []:=rfl;generalize ke (tx s) i=R at hR ⊢;have s7:IntKind.i64.wrap ((i:Int) + 1)=((i + 1:Nat):Int):=nxt hi (by omega);obtain ⟨zi,yp⟩:∃ zi:Int,zi=(i:Nat):=⟨_,rfl⟩;have hbi:((aq s zi.toNat:Nat):Int)=34:=by rw [yp,dV,hq];all_goals rfl
 rw [<- yp] at s7 ⊢;refine eG 99 [.tmp 4,.tmp 5,.cell 6 26] func262 rfl ntmps262 rfl fun _ _ _ _=>?_;refine br (fun g=>?_) (fun _=>?_)
 ·exfalso;simp [ak] at g;omega
 refine br (fun _=>?_) (fun g=>absurd (show zi < s.size by omega) (sU g));refine ⟨⟨by omega,by omega⟩,?_⟩;rw [hbi];refine lI (fun j st=>∃ (e:Nat) (l:List UInt8),st=ahT s zi l e/\R=Jk ((tx s).drop e) e l/\e<=s.size/\l.length<=e/\j=s.size - e) ⟨i + 1,[],rfl,hR,by omega,by simp,rfl⟩ (wkM (wB1 s7)) ?_;rintro _ st ⟨e,l,rfl,eM,he,fO,rfl⟩;refine br ?_ ?_<;>intro hL
 rotate_left
 ·have hge:e=s.size:=by have:=of_decide_eq_false hL;omega
  rw [List.drop_eq_nil_of_le (by omega),BD] at eM;subst eM;subst hge;exact ⟨_,ax,rfl⟩
 have az:e < s.size:=by have:=of_decide_eq_true hL;omega
 obtain ⟨c,eH,hb⟩:=bl az;have eH:(tx s).drop e=c :: (tx s).drop (e + 1):=eH;have jW:=QH s hs e az;have hu:=lz s e hs c _ eH;have sc:=gJ (l:=(tx s).drop e) (by rw [eH];simp);have LW:=re ((tx s).drop e);rw [List.length_drop,gf] at sc LW;have Ex:(tx s).drop (e + gp ((tx s).drop e))=((tx s).drop e).drop (gp ((tx s).drop e)):=by rw [List.drop_drop]
 have rT:(tx s).drop (e + (oneE ((tx s).drop e)).2)=((tx s).drop e).drop (oneE ((tx s).drop e)).2:=by rw [List.drop_drop]
 have U5:tx (s.extract e (e + gp ((tx s).drop e)))=((tx s).drop e).take (gp ((tx s).drop e)):=by
  simp [tx,List.drop_take]
 have hnb:¬ c.toNat=92->oneE ((tx s).drop e)=([],0):=fun h=>by
  rw [eH];unfold oneE;split
  ·rfl
  ·rfl
  ·rename_i aQ;injection aQ with h1 h2
   rw [<- h1,zIfP h]
 rw [eH,xa] at eM;rw [eH] at jW sc LW Ex rT U5 hnb;have qy:gp (c :: (tx s).drop (e + 1))=if okU (c :: (tx s).drop (e + 1))=true then a7 c.toNat else 1:=rfl
 generalize (tx s).drop (e + 1)=r at *;generalize okU (c :: r)=ok at hu eM qy;generalize gp (c :: r)=N at *;generalize oneE (c :: r)=O at *;obtain ⟨W,n⟩:=O;simp only at LW rT eM;obtain ⟨z,hz⟩:∃ z:Int,z=((c.toNat:Nat):Int):=⟨_,rfl⟩;have jI:((aq s (e:Int).toNat:Nat):Int)=z:=by rw [dV,hb,hz]
 have n5:∀ k:Nat,z=((k:Nat):Int)->c.toNat=k:=fun k h=>by omega
 obtain ⟨zn,Q7⟩:∃ zn:Int,zn=((n:Nat):Int):=⟨_,rfl⟩;have jW:aR prog 305 [.v (.string s),.v (.int .i64 e)] (.bo [.v (.string (ba W)),.v (.int .i64 zn)]):=by rw [Q7];exact jW
 refine ⟨⟨by omega,by omega⟩,?_⟩;rw [jI];refine br ?_ ?_<;>intro g
 ·have g:c.toNat=34:=n5 34 (of_decide_eq_true g);rw [zIfP g] at eM;subst eM;have hw:=congrArg (fun z=>DV.v (.int .i64 z)) (nxt az (by omega));exact ⟨_,(by repeat' (first | exact rfl | exact trivial | exact Or.inr (Or.inl ⟨_,rfl⟩) | exact Or.inr ⟨_,rfl⟩ | exact Or.inl ⟨rfl,rfl⟩ | exact Or.inl rfl | refine Or.inr ⟨_,_,rfl,Nat.zero_le _,rfl,?_⟩ | refine ⟨_,_,rfl,?_,?_⟩ | refine ⟨_,rfl,?_⟩ | exact hw | refine Or.inr (Or.inr (Or.inr ⟨_,_,rfl,?_⟩)) | exact Or.inl rfl | refine Or.inr ?_)),rfl⟩
 have g34:¬ c.toNat=34:=fun h=>of_decide_eq_false g (by omega);rw [af g34] at eM;refine cP afd jW ?_;refine ⟨⟨by omega,by omega⟩,?_⟩;rw [jI];by_cases h92:c.toNat=92
 ·rw [zIfP h92] at eM;by_cases hn:n=0
  ·rw [zIfP hn] at eM;subst eM;refine br (fun _=>?_) (fun g=>?_)
   rotate_left
   ·exfalso;simp [pickB_and] at g;omega
   exact ⟨_,ax,rfl⟩
  rw [af hn,<- rT] at eM;obtain ⟨p1,p2,p3,p4⟩:=LW hn;refine br (fun g=>?_) (fun _=>?_)
  ·exfalso;simp [pickB_and] at g;omega
  refine br (fun g=>?_) (fun _=>?_)
  ·exfalso;have:=of_decide_eq_true g;omega
  have hw:IntKind.i64.wrap ((e:Int) + zn)=((e + n:Nat):Int):=by rw [Q7,wrap64 (by omega) (by omega)];omega
  refine ⟨by show l.length + W.length<=_;omega,?_⟩;exact rE ⟨_,by omega,e + n,l ++ W,rfl,eM,by omega,by rw [List.length_append];omega,rfl⟩ (wkM (by repeat' (first | exact trivial | exact aA rfl | exact aG hw | exact Fl (acH l W) | refine ⟨⟨_,rfl,?_⟩,?_⟩)))
 rw [af h92] at eM;have hO:=hnb h92;injection hO with hO1 hO2
 subst hO1 hO2;subst Q7;refine br (fun g=>?_) (fun _=>?_)
 ·exfalso;simp [pickB_and] at g;omega
 refine bZ Hp rfl hu ax (fun q hq=>?_);obtain ⟨zr,nr,rfl,hn⟩:=hq
 cases ok with
 | false=>
  rw [zIfP rfl] at eM;subst eM;exact ⟨_,ax,rfl⟩
 | true=>
  rw [af (by simp)] at eM;rw [zIfP rfl] at qy;obtain ⟨BM,EO,hn3⟩:=hn rfl;rw [<- qy] at EO;rw [<- EO] at eM;have nc:=hn3;unfold gM at nc;simp at nc;have hk:=qw zr (by omega) (by omega);generalize mQ zr=bz at hk eM;refine bZ RV rfl hk ax (fun q hq=>?_);obtain ⟨kk,rfl,BN⟩:=hq
  cases bz with
  | true=>
   rw [zIfP rfl] at eM;subst eM;refine br (fun _=>?_) (fun g=>absurd (BN.symm.trans g) (by decide));exact ⟨_,ax,rfl⟩
  | false=>
   rw [af (by simp),<- Ex] at eM;refine br (fun g=>absurd (BN.symm.trans g) (by decide)) (fun _=>?_);have hnr:nr=(N:Nat):=by omega
   have hw:IntKind.i64.wrap ((e:Int) + nr)=((e + N:Nat):Int):=by rw [hnr,wrap64 (by omega) (by omega)];omega
   have VE:(IntKind.i64.wrap ((e:Int) + nr)).toNat=e + N:=by omega
   have fX:((c :: r).take N).length=N:=by
    have:=congrArg List.length U5;rw [<- this,bd];simp;omega
   generalize (c :: r).take N=W at *;have hext:s.extract e (e + N)=ba W:=pP U5;have Gl:(l ++ W).length<=e + N:=by rw [List.length_append];omega
   refine ⟨⟨by omega,by omega,by omega⟩,?_⟩;rw [VE,dV,hext];refine ⟨by show l.length + W.length<=_;omega,?_⟩;exact rE ⟨_,by omega,e + N,l ++ W,rfl,eM,by omega,Gl,rfl⟩ (wkM (by repeat' (first | exact trivial | exact aA rfl | exact aG hw | exact Fl (acH l W) | refine ⟨⟨_,rfl,?_⟩,?_⟩)))
abbrev Z5 (s:ByteArray) (i n:Nat) (e:Nat):St:=⟨[aC 5 n,aC 6 e,(0,⟨[],.v (.string s)⟩),aC 1 i],[],[]⟩
theorem Jx (s:ByteArray) (hs:s.size<=1099511627776) (i:Nat) (hi:i<=s.size):aR prog 260 [.v (.string s),.v (.int .i64 i)] (.v (.int .i64 (bc ((tx s).drop i):Nat))):=by
 obtain ⟨K,hK⟩:∃ K,K=bc ((tx s).drop i):=⟨_,rfl⟩;rw [<- hK];refine eG 47 [.tmp 4] func260 rfl ntmps260 rfl fun _ _ _ _=>?_;refine lI (fun j st=>∃ n:Nat,st=Z5 s i n (i + n)/\i + n<=s.size/\(n=0∨n + signs ((tx s).drop (i + n))=K)/\j=s.size - (i + n)) ⟨0,rfl,by omega,.inl rfl,rfl⟩ (wkM wB) ?_;rintro j st ⟨n,rfl,hn,hinv,rfl⟩;refine br ?_ ?_<;>intro h
 ·have az:i + n < s.size:=by have:=of_decide_eq_true h;omega
  obtain ⟨c,hd,hb⟩:=bl az;have hd:(tx s).drop (i + n)=c :: (tx s).drop (i + n + 1):=hd;obtain ⟨z,hz⟩:∃ z:Int,z=((c.toNat:Nat):Int):=⟨_,rfl⟩;have jI:((aq s (((i + n:Nat):Int)).toNat:Nat):Int)=z:=by rw [dV,hb,hz]
  have key:K=if (n=0/\isLet z=true)∨(n≠0/\fY z=true) then (n + 1) + signs ((tx s).drop (i + n + 1)) else n:=by
   rw [hz];by_cases h0:n=0
   ·subst h0;rw [Nat.add_zero] at hd hinv;rw [hK,hd,bc];by_cases hl:isLet c.toNat=true
    ·grind
    ·grind
   ·have h1:=hinv.resolve_left h0;rw [hd,signs] at h1;by_cases hl:fY c.toNat=true
    ·grind
    ·grind
  refine ⟨⟨by omega,by omega⟩,?_⟩;rw [jI];refine br ?_ ?_<;>intro h2
  ·have:K=n:=by grind [pickB_and,ak,fY,isLet]
   rw [this];exact (rfl:_=_)
  ·refine ⟨Z5 s i (n + 1) (i + (n + 1)),(wkM (wB2 (nxt (show n < 1099511627776 by omega) (by omega)) (nxt az (by omega)))),s.size - (i + (n + 1)),by omega,n + 1,rfl,by omega,.inr ?_,rfl⟩;rw [key,zIfP]
   ·rfl
   simp only [pickB_and,ak,fY,isLet] at h2 ⊢;simp at h2 ⊢;omega
 ·have hge:i + n=s.size:=by have:=of_decide_eq_false h;omega
  have:K=n:=by
   rcases hinv with h0 | h0
   ·subst h0;rw [hK,List.drop_eq_nil_of_le (by rw [bd];omega)];rfl
   ·grind [bd,signs]
  rw [this];exact (rfl:_=_)
theorem EB {c:UInt8} (h:c∈tx eP):c.toNat ∈ [123,125,91,93,40,41,44,58,61,60,62,64,43,35,126,42]:=by
 have e:tx eP=[123,125,91,93,40,41,44,58,61,60,62,64,43,35,126,42]:=rfl;rw [e] at h;simp only [List.mem_cons,List.not_mem_nil,or_false] at h;rcases h with rfl | rfl | rfl | rfl | rfl | rfl | rfl | rfl | rfl | rfl | rfl | rfl | rfl | rfl | rfl | rfl<;>decide
theorem EC {l:List UInt8} {c:UInt8}:0<=Lib.indexByte l c↔c∈l:=by grind [Jg]
theorem OA {s:ByteArray} {i:Nat} (hi:i < s.size):wQ (s.extract i s.size) rm=true↔aq s i=46/\i + 1 < s.size/\aq s (i + 1)=46:=by
 obtain ⟨c,eH,hb⟩:=bl hi;have eH:(tx s).drop i=c :: (tx s).drop (i + 1):=eH;have cK:(s.extract i s.size).size=s.size - i:=by simp
 have hx:tx ((s.extract i s.size).extract 0 rm.size)=((tx s).drop i).take 2:=by
  rw [Fo]
  have:tx (s.extract i s.size)=(tx s).drop i:=by
   simp [tx];exact List.take_of_length_le (by rw [List.length_drop];have:=bd s;unfold tx at this;omega)
  rw [this];rfl
 have hiff:(s.extract i s.size).extract 0 rm.size=rm↔((tx s).drop i).take 2=[46,46]:=by
  rw [<- hx];constructor
  ·intro h;rw [h];all_goals rfl
  ·intro h;have:=pP h;rw [this];rfl
 unfold wQ;rw [bh,decide_eq_true_iff,decide_eq_true_iff,hiff,cK,eH,show rm.size=2 from rfl,hb];by_cases h2:i + 1 < s.size
 ·obtain ⟨d,BA,iI⟩:=bl h2;have BA:(tx s).drop (i + 1)=d :: (tx s).drop (i + 1 + 1):=BA;rw [BA,iI];simp only [List.take_succ_cons,List.take_zero,List.cons.injEq,and_true];have e:∀ x:UInt8,x=46↔x.toNat=46:=fun x=>⟨fun h=>by rw [h];rfl,fun h=>UInt8.toNat_inj.1 h⟩
  grind
 all_goals omega
theorem Z6 (s:ByteArray) (i:Nat):aq s i < 256:=by
 unfold aq;exact UInt8.toNat_lt _
theorem QJ {s:ByteArray} {i:Nat} (hi:i < s.size) (h:aq s i=45∨(48<=aq s i/\aq s i<=57)∨aq s i=34):ey s i=⟨#[]⟩:=by
 have h8:=Z6 s i;unfold ey
 rw [af (fun hh=>by have:=((OA hi).1 hh).1;omega),af (fun hh=>by
  have hm:=EB (EC.1 hh);have e:((aq s i).toUInt8).toNat=aq s i:=by simp_all
  rw [e] at hm;simp only [List.mem_cons,List.not_mem_nil,or_false] at hm
  omega)]
abbrev ahV (s:ByteArray) (i:Int) (e:Nat):St:=⟨[(0,⟨[],.v (.string s)⟩),aC 1 i,(5,⟨[],.v (.string eP)⟩),aC 6 e],[],[]⟩
set_option maxHeartbeats 2000000 in
theorem Mh (s:ByteArray) (hs:s.size<=1099511627776) (i:Nat) (hi:i < s.size):aR prog 263 [.v (.string s),.v (.int .i64 i)] (.v (.string (ey s i))):=by
 have hM:ey s i=if wQ (s.extract i s.size) rm=true then rm else if 0<=Lib.indexByte (tx eP) (aq s i).toUInt8 then s.extract i (i + 1) else ⟨#[]⟩:=rfl
 have h2:=OA hi;generalize wQ (s.extract i s.size) rm=B2 at hM h2;rw [show (if 0<=Lib.indexByte (tx eP) (aq s i).toUInt8 then s.extract i (i + 1) else (⟨#[]⟩:ByteArray))=if (aq s i).toUInt8∈tx eP then s.extract i (i + 1) else ⟨#[]⟩ from by simp only [EC]] at hM;have hmm:=@EB (aq s i).toUInt8;have h8:=Z6 s i
 have hu:((aq s i).toUInt8).toNat=aq s i:=by
  show (UInt8.ofNat _).toNat=_;rw [UInt8.toNat_ofNat'];omega
 rw [hu] at hmm;generalize ey s i=M at hM ⊢;obtain ⟨z,hz⟩:∃ z:Int,z=((aq s i:Nat):Int):=⟨_,rfl⟩;obtain ⟨zi,yp⟩:∃ zi:Int,zi=(i:Nat):=⟨_,rfl⟩;have jI:((aq s zi.toNat:Nat):Int)=z:=by rw [yp,dV,hz]
 have s7:IntKind.i64.wrap (zi + 1)=((i + 1:Nat):Int):=by rw [yp];exact nxt hi (by omega)
 have hwd:IntKind.i64.wrap ((s.size:Int) - zi)=(s.size:Int) - zi:=wrap64 (by omega) (by omega);rw [<- yp];refine eG 49 [.tmp 4] func263 rfl ntmps263 rfl fun _ _ _ _=>?_;refine br (fun g=>?_) (fun _=>?_)
 ·exfalso;simp [ak] at g;omega
 refine ⟨⟨by omega,by omega⟩,?_⟩;rw [jI];by_cases h46:aq s i=46
 ·refine br (fun _=>?_) (fun g=>absurd (show z=46 by omega) (sU g))
  have Yd:¬ (aq s i).toUInt8∈tx eP:=fun h=>by
   have:=hmm h;simp only [List.mem_cons,List.not_mem_nil,or_false] at this;omega
  rw [af Yd] at hM;by_cases az:i + 1 < s.size
  ·refine br (fun _=>?_) (fun g=>?_)
   rotate_left
   ·exfalso;simp [hwd] at g;omega
   obtain ⟨z2,hz2⟩:∃ z2:Int,z2=((aq s (i + 1):Nat):Int):=⟨_,rfl⟩;have LY:((aq s (IntKind.i64.wrap (zi + 1)).toNat:Nat):Int)=z2:=by rw [s7,dV,hz2]
   refine ⟨⟨by omega,by omega⟩,?_⟩;rw [LY];by_cases h47:aq s (i + 1)=46
   ·rw [zIfP (h2.2 ⟨h46,az,h47⟩)] at hM;subst hM;refine br (fun _=>?_) (fun g=>absurd g (by simp [pickB];omega));exact (rfl:_=_)
   ·rw [af (fun h=>h47 (h2.1 h).2.2)] at hM;subst hM;refine br (fun g=>absurd g (by simp [pickB];omega)) (fun _=>?_);exact (rfl:_=_)
  ·rw [af (fun h=>az (h2.1 h).2.1)] at hM;subst hM;refine br (fun g=>?_) (fun _=>?_)
   ·exfalso;simp [hwd] at g;omega
   exact (rfl:_=_)
 rw [af (fun h=>h46 (h2.1 h).1)] at hM;refine br (fun g=>absurd (show aq s i=46 by have:=of_decide_eq_true g;omega) h46) (fun _=>?_);have ju:(tx eP).length=16:=rfl;refine lI (fun j st=>∃ e:Nat,st=ahV s zi e/\e<=16/\(∀ k y,k < e->(tx eP)[k]? = some y->¬ y=(aq s i).toUInt8)/\j=16 - e) ⟨0,rfl,by omega,fun k _ h=>by omega,rfl⟩ (wkM wB) ?_;rintro _ st ⟨e,rfl,he,hinv,rfl⟩;refine br ?_ ?_<;>intro hL
 rotate_left
 ·have hge:e=16:=by
   have h16:((eP.size:Nat):Int)=16:=rfl;have:=of_decide_eq_false hL;omega
  rw [af (fun h=>by
   obtain ⟨k,hk⟩:=List.mem_iff_getElem?.1 h;have BO:=(gS hk).1
   exact hinv k _ (by omega) hk rfl)] at hM
  subst hM;exact (rfl:_=_)
 have az:e < 16:=by
  have h16:((eP.size:Nat):Int)=16:=rfl;have:=of_decide_eq_true hL;omega
 obtain ⟨y,hy⟩:∃ y,(tx eP)[e]? = some y:=⟨_,gE (by omega)⟩;obtain ⟨zy,hzy⟩:∃ zy:Int,zy=((y.toNat:Nat):Int):=⟨_,rfl⟩
 have hye:((aq eP (e:Int).toNat:Nat):Int)=zy:=by
  rw [pS (s:=eP) (l:=tx eP) rfl e (dV _),eo,hy,hzy];rfl
 have hms:eP.size=16:=rfl;refine dI ?_;refine ⟨⟨by omega,by omega⟩,?_⟩;rw [hye];refine ⟨⟨by omega,by omega⟩,?_⟩;rw [jI];refine br ?_ ?_<;>intro g
 ·have g:y=(aq s i).toUInt8:=UInt8.toNat_inj.1 (by rw [hu];have:=of_decide_eq_true g;omega);rw [zIfP (by rw [<- g];exact mG hy)] at hM;subst hM;refine ⟨⟨by omega,by omega,by omega⟩,?_⟩;rw [s7,yp];exact (rfl:_=_)
 ·have g:¬ y=(aq s i).toUInt8:=fun h=>of_decide_eq_false g (by
   have:=congrArg UInt8.toNat h;rw [hu] at this
   omega)
  exact rE ⟨_,by omega,e + 1,rfl,by omega,fun k x hk hx=>by
   rcases Nat.lt_or_ge k e with h | h
   ·exact hinv k x h hx
   ·have:k=e:=by omega
    rw [this,hy] at hx;rw [<- Option.some.inj hx]
    exact g,rfl⟩ (wkM (wB1 (nxt (show e < 100 by omega) (by omega))))
set_option maxHeartbeats 2000000 in
theorem BK (s:ByteArray) (hs:s.size<=1099511627776) (i:Nat) (hi:i < s.size):aR prog 176 [.v (.string s),.v (.int .i64 i)] (ahJ (qx s i)):=by
 have hR:qx s i=if bc ((tx s).drop i)≠0 then (if bc ((tx s).drop i)<=32 then (⟨1,i,(i + bc ((tx s).drop i):Nat),s.extract i (i + bc ((tx s).drop i)),0⟩,(0,0)) else (yq,(9,(i:Int))))
  else if ¬ ey s i=⟨#[]⟩ then (⟨4,i,(i + (ey s i).size:Nat),ey s i,0⟩,(0,0))
  else if aq s i=45∨(48<=aq s i/\aq s i<=57) then (if (takeN s i).2.2.1=0 then (⟨2,i,(takeN s i).2.1,aM,(takeN s i).1⟩,(0,0)) else (yq,(takeN s i).2.2))
  else if aq s i=34 then (if (ke (tx s) i).2.2.1=0 then (⟨3,i,(ke (tx s) i).2.1,ba (ke (tx s) i).1,0⟩,(0,0)) else (yq,(ke (tx s) i).2.2))
  else (yq,(if okU ((tx s).drop i)=true then 3 else 2,(i:Int))):=rfl
 generalize qx s i=R at hR ⊢;have Vz:=Jx s hs i (by omega);have ir:=jL ((tx s).drop i);rw [List.length_drop,bd] at ir;have hm:=Mh s hs i hi;have hmn:=@QJ s i hi;have jt:=Me s hs i hi;have U7:=Jm hi;have huq:=Ck s hs i hi;have U8:=Gm hi;obtain ⟨c,eH,_⟩:=bl hi;have eH:(tx s).drop i=c :: (tx s).drop (i + 1):=eH;have hu:=lz s i hs c _ eH;rw [<- eH] at hu
 have hmz:(ey s i).size<=2:=by
  unfold ey;split
  ·decide
  ·split
   ·simp;omega
   ·decide
 obtain ⟨z,hz⟩:∃ z:Int,z=((aq s i:Nat):Int):=⟨_,rfl⟩;have jI:((aq s (i:Int).toNat:Nat):Int)=z:=by rw [dV,hz]
 generalize hnn:bc ((tx s).drop i)=n at *;obtain ⟨zn,Q7⟩:∃ zn:Int,zn=((n:Nat):Int):=⟨_,rfl⟩;rw [<- Q7] at Vz;generalize okU ((tx s).drop i)=ok at hu hR;refine eG 117 [.cell 4 218,.cell 5 26] func176 rfl ntmps176 rfl fun _ _ _ _=>?_;refine ⟨⟨by omega,by omega⟩,?_⟩;rw [jI];refine cP YV Vz ?_;by_cases h0:n≠0
 ·rw [zIfP h0] at hR;refine br (fun _=>?_) (fun g=>absurd (show 0 < zn by omega) (of_decide_eq_false g));by_cases JR:n<=32
  ·rw [zIfP JR] at hR;subst hR;refine br (fun g=>absurd (of_decide_eq_true g) (by omega)) (fun _=>?_);have hw:IntKind.i64.wrap ((i:Int) + zn)=((i + n:Nat):Int):=by rw [Q7,wrap64 (by omega) (by omega)];omega
   have BQ:(IntKind.i64.wrap ((i:Int) + zn)).toNat=i + n:=by omega
   refine ⟨⟨by omega,by omega,by omega⟩,?_⟩;rw [BQ,dV];have hX:=congrArg (fun z=>DV.v (Value.int .i64 z)) hw;exact ⟨_,(by repeat' (first | exact rfl | exact trivial | exact Or.inr (Or.inl ⟨_,rfl⟩) | exact Or.inr ⟨_,rfl⟩ | exact Or.inl ⟨rfl,rfl⟩ | exact Or.inl rfl | refine Or.inr ⟨_,_,rfl,Nat.zero_le _,rfl,?_⟩ | refine ⟨_,_,rfl,?_,?_⟩ | refine ⟨_,rfl,?_⟩ | exact hX | refine Or.inr (Or.inr (Or.inr ⟨_,_,rfl,?_⟩)) | exact Or.inl rfl | refine Or.inr ?_)),rfl⟩
  ·rw [af JR] at hR;subst hR;refine br (fun _=>?_) (fun g=>absurd (show 32 < zn by omega) (of_decide_eq_false g));exact ⟨_,ax,rfl⟩
 have h0:n=0:=by omega
 subst h0;rw [af (by simp)] at hR;refine br (fun g=>absurd (of_decide_eq_true g) (by omega)) (fun _=>?_);by_cases hd:aq s i=45∨(48<=aq s i/\aq s i<=57)
 ·rw [af (by rw [hmn (by omega)];simp),zIfP hd] at hR;refine br (fun _=>?_) (fun g=>?_)
  rotate_left
  ·grind [ak,pickB_and]
  generalize takeN s i=Q at *;obtain ⟨Q1,Q2,Q3,Q4⟩:=Q;simp only at hR U7;refine cP aeX jt ?_;by_cases hq:Q3=0
  ·have L4:=U7 hq;injection L4 with h3 h4
   rw [zIfP hq] at hR;subst hR h3 h4;refine aE [0,1] (fun _=>false) mo (by decide +kernel) ?_;exact ⟨_,ax,rfl⟩
  ·rw [af hq] at hR;subst hR;refine br (fun _=>?_) (fun g=>absurd g (by simp [hq]));refine aE [0,1] (fun _=>false) mo (by decide +kernel) ?_;exact ⟨_,ax,rfl⟩
 refine br (fun g=>?_) (fun _=>?_)
 ·grind [ak,pickB_and]
 by_cases L4:aq s i=34
 ·rw [af (by rw [hmn (by omega)];simp),af hd,zIfP L4] at hR;refine br (fun _=>?_) (fun g=>absurd (show z=34 by omega) (sU g));have huq:=huq L4;generalize ke (tx s) i=Q at *;obtain ⟨Q1,Q2,Q3,Q4⟩:=Q;simp only at hR U8;refine cP aeY huq ?_;by_cases hq:Q3=0
  ·have L4:=(U8 hq).1;injection L4 with h3 h4
   rw [zIfP hq] at hR;subst hR h3 h4;refine aE [0,1] (fun _=>false) mo (by decide +kernel) ?_;exact ⟨_,ax,rfl⟩
  ·rw [af hq] at hR;subst hR;refine br (fun _=>?_) (fun g=>absurd g (by simp [hq]));refine aE [0,1] (fun _=>false) mo (by decide +kernel) ?_;exact ⟨_,ax,rfl⟩
 refine br (fun g=>?_) (fun _=>?_)
 ·exfalso;have:=of_decide_eq_true g;omega
 generalize ey s i=M at *;refine cP aeZ hm ?_;by_cases hM:¬ M=⟨#[]⟩
 ·rw [zIfP hM] at hR;subst hR
  have hw:IntKind.i64.wrap ((i:Int) + M.size)=((i + M.size:Nat):Int):=by
   rw [wrap64 (by omega) (by omega)];omega
  have hX:=congrArg (fun z=>DV.v (Value.int .i64 z)) hw;refine br (fun _=>?_) (fun g=>absurd (show M=⟨#[]⟩ by simpa using g) hM);exact ⟨_,(by repeat' (first | exact rfl | exact trivial | exact Or.inr (Or.inl ⟨_,rfl⟩) | exact Or.inr ⟨_,rfl⟩ | exact Or.inl ⟨rfl,rfl⟩ | exact Or.inl rfl | refine Or.inr ⟨_,_,rfl,Nat.zero_le _,rfl,?_⟩ | refine ⟨_,_,rfl,?_,?_⟩ | refine ⟨_,rfl,?_⟩ | exact hX | refine Or.inr (Or.inr (Or.inr ⟨_,_,rfl,?_⟩)) | exact Or.inl rfl | refine Or.inr ?_)),rfl⟩
 rw [af hM,af hd,af L4] at hR;refine br (fun g=>absurd (sU g) hM) (fun _=>?_);refine bZ Hp rfl hu ax (fun q hq=>?_);obtain ⟨zr,nr,rfl,_⟩:=hq;subst hR
 cases ok with
 | true=>exact ⟨_,ax,rfl⟩
 | false=>exact ⟨_,ax,rfl⟩
theorem ED (s:ByteArray) (hs:s.size<=1099511627776) (i:Nat) (h:i < s.size):Ev prog 175 [.v (.string s),.v (.int .i64 i)] [] [] (fun d _ _=>∃ c:Int,d = .bo [.v (.int .i64 c),.v (.int .i64 (gp ((tx s).drop i):Nat))]):=by
 obtain ⟨c,eH,_⟩:=bl h;have eH:(tx s).drop i=c :: (tx s).drop (i + 1):=eH;have hu:=lz s i hs c _ eH;rw [eH];generalize (tx s).drop (i + 1)=r at *;have sc:gp (c :: r)=if okU (c :: r)=true then a7 c.toNat else 1:=rfl
 rw [sc];generalize okU (c :: r)=ok at hu ⊢;refine eG 21 [.tmp 4,.tmp 5] func175 rfl ntmps175 rfl fun _ _ _ _=>?_;refine bZ Hp rfl hu ax (fun q hq=>?_);obtain ⟨z,n,rfl,hn⟩:=hq
 cases ok with
 | true=>
  have:=(hn rfl).1;subst this;refine bZ aeW rfl (HJ z) ax (fun q hq=>?_);obtain ⟨m,rfl⟩:=hq;exact ⟨.bo [.v (.int .i64 m),.v (.int .i64 (a7 c.toNat:Nat))],ax,_,rfl⟩
 | false=>
  exact ⟨.bo [.v (.int .i64 1),.v (.int .i64 ((1:Nat):Int))],ax,_,rfl⟩
def ahW (s:ByteArray) (i:Nat) (r:List gZ) (f:Ft):Prop:=∃ e g,l7 ((tx s).drop i) i=(e,g)/\((g=(0,0)/\i<=e/\e<=s.size/\jq s e r f)∨(¬ g.1=0/\g=f))
theorem Mi (s:ByteArray) (h:65536 < s.size):aR prog 94 [.v (.string s)] (BF [] (7,65536)):=by
 rw [fg (by decide)];refine eG 105 [.tmp 2,.cell 3 26] func94 rfl ntmps94 rfl fun _ _ _ _=>?_;refine br (fun _=>?_) (fun g=>absurd (show 65536 < (s.size:Int) by omega) (of_decide_eq_false g));exact ⟨_,ax,rfl⟩
abbrev oX (s:ByteArray) (L:List gZ) (q i:Nat) (b:Bool):St:=⟨[(0,⟨[],.v (.string s)⟩),(2,⟨[],.v (.slice none 0 0)⟩),aJ 3 0,(4,⟨[],.sl 5 (er L) (some 0)⟩),zt 5 b,aC 6 i],[JN],[⟨q,218,5,none⟩]⟩
set_option maxHeartbeats 4000000 in
theorem Jy (s:ByteArray) (hs:s.size<=65536) (l:List gZ) (f:Ft) (hl:jq s 0 l f) (hf:f.1=0->f=(0,0)):aR prog 94 [.v (.string s)] (BF (l ++ [jb s.size]) f):=by
 refine eG 105 [.tmp 2,.cell 3 26] func94 rfl ntmps94 rfl fun _ _ _ _=>?_;refine br (fun g=>absurd (show 65536 < s.size by have:=of_decide_eq_true g;omega) (by omega)) (fun _=>?_);refine aY (fun j st=>∃ (i q:Nat) (L r:List gZ) (b:Bool),st=oX s L q i b/\q=L.length/\(f.1=0->L ++ r=l)/\L.length<=i/\i<=s.size/\j=s.size - i/\(b=false/\jq s i r f∨b=true/\ahW s i r f)) s.size (oX s [] 0 0 false) (di 1 ⟨0,218,5,none⟩ rfl rfl rfl tJ rfl rfl lW) ⟨0,0,[],l,false,rfl,rfl,fun _=>rfl,by simp,by omega,by omega,.inl ⟨rfl,hl⟩⟩ ?_;rintro j st ⟨i,qq,L,r,b,rfl,vq,yP,hLi,his,rfl,hr⟩;refine br (fun az=>?_) (fun hge=>?_)
 ·have az:i < s.size:=sU az;obtain ⟨c,eH,JJ⟩:=bl az;have eH:(tx s).drop i=c :: (tx s).drop (i + 1):=eH;obtain ⟨z,hz⟩:∃ z:Int,z=((aq s i:Nat):Int):=⟨_,rfl⟩;have jI:((aq s (i:Int).toNat:Nat):Int)=z:=by rw [dV,hz]
  refine ⟨⟨by omega,by omega⟩,?_⟩;rw [jI];by_cases u7:aq s i=10
  ·have hS:jq s i r f:=by
    rcases hr with ⟨_,hr⟩ | ⟨_,e,g,he,hg⟩
    ·exact hr
    ·rw [eH,nV,zIfP (show c.toNat=10 by omega)] at he;obtain ⟨rfl,rfl⟩:i=e/\((0,0):Ft)=g:=sU he;rcases hg with hg | hg
     ·exact hg.2.2.2
     ·exact absurd rfl hg.1
   have hS:jq s (i + 1) r f:=by
    cases hS with
    | nil=>omega
    | blank _ _ h=>exact h
    | rem _ h _ _ _ _=>omega
    | Jo _ h _ _=>omega
    | tok _ h _ _ _ _ _ _=>rw [u7] at h;cases h
    | Jp _ h _ _ _=>rw [u7] at h;cases h
   refine br (fun _=>?_) (fun g=>absurd (show z=10 by omega) (sU g));refine br (fun g=>absurd (of_decide_eq_true g) (by omega)) (fun _=>?_);refine br (fun _=>?_) (fun g=>absurd g (by rw [show z=10 by omega];simp [pickB]));exact ⟨oX s L qq (i + 1) false,(ej 1 (ng (nxt az (by omega))) (wB1 (nxt az (by omega)))),s.size - (i + 1),by omega,i + 1,qq,L,r,false,rfl,vq,yP,by omega,by omega,rfl,.inl ⟨rfl,hS⟩⟩
  refine br (fun g=>absurd (of_decide_eq_true g) (by omega)) (fun _=>?_);by_cases JV:aq s i=59
  rotate_left
  refine br (fun g=>absurd (of_decide_eq_true g) (by omega)) (fun _=>?_);rcases hr with ⟨rfl,hr⟩ | ⟨rfl,HR⟩
  ·cases hr with
   | nil=>omega
   | blank _ h1 h2=>
    have h3:aq s i=9∨aq s i=13∨aq s i=32:=by grind [jk]
    refine br (fun _=>?_) (fun g=>absurd g (by
     rcases h3 with h3 | h3 | h3
     ·rw [show z=9 by omega];simp [pickB]
     ·rw [show z=13 by omega];simp [pickB]
     ·rw [show z=32 by omega];simp [pickB]))
    exact ⟨oX s L qq (i + 1) false,(ej 1 (ng (nxt az (by omega))) (wB1 (nxt az (by omega)))),s.size - (i + 1),by omega,i + 1,qq,L,r,false,rfl,vq,yP,by omega,by omega,rfl,.inl ⟨rfl,h2⟩⟩
   | rem _ h _ _ _ _=>exact absurd h JV
   | Jo _ h _ _=>exact absurd h JV
   | @tok _ e t l' _ _ h1 h2 h3 h4 h5 h6 h7=>
    have h8:¬ aq s i=9/\¬ aq s i=13/\¬ aq s i=32:=by grind [jk]
    have jt:=BK s (by omega) i az;rw [h3] at jt;refine br (fun g=>absurd g (by simp [pickB,show ¬ z=9 by omega,show ¬ z=10 by omega,show ¬ z=13 by omega,show ¬ z=32 by omega])) (fun _=>?_);obtain ⟨tk,ta,te,ts,tn⟩:=t;simp only at h4;subst h4;refine cP YG jt ?_;refine ⟨(cq L).trans vq.symm,⟨by simp [maxLen,cq];omega,by simp [cq];omega⟩,?_⟩;exact ⟨oX s (L ++ [⟨tk,ta,e,ts,tn⟩]) (qq + 1) e false,(ej 1 (ng (fA L ⟨tk,ta,e,ts,tn⟩)) (wB1 (fA L ⟨tk,ta,e,ts,tn⟩))),s.size - e,by omega,e,qq + 1,L ++ [⟨tk,ta,e,ts,tn⟩],l',false,rfl,by simp [vq],fun h=>by simpa using yP h,by simp;omega,h6,rfl,.inl ⟨rfl,h7⟩⟩
   | @Jp _ t _ _ h1 h2 h3 h4=>
    have h8:¬ aq s i=9/\¬ aq s i=13/\¬ aq s i=32:=by grind [jk]
    have jt:=BK s (by omega) i az;rw [h3] at jt;obtain ⟨f1,f2⟩:=f;rw [fg h4];simp only at h4;obtain ⟨tk,ta,te,ts,tn⟩:=t;refine br (fun g=>absurd g (by simp [pickB,show ¬ z=9 by omega,show ¬ z=10 by omega,show ¬ z=13 by omega,show ¬ z=32 by omega])) (fun _=>?_);refine cP YG jt ?_;refine br (fun _=>?_) (fun g=>absurd g (by simp [h4]));refine aE [0] (fun _=>false) mo (by decide +kernel) ?_;exact ⟨_,ax,rfl⟩
  rotate_left
  have HR:ahW s i r f:=by
   rcases hr with ⟨_,hr⟩ | ⟨_,hr⟩
   ·cases hr with
    | nil=>omega
    | blank _ h _=>rw [JV] at h;cases h
    | @rem _ e _ _ _ _ h2 h3 h4 h5=>exact ⟨e,(0,0),h2,.inl ⟨rfl,by omega,h4,h5⟩⟩
    | @Jo _ e _ _ _ h2 h3=>exact ⟨e,f,h2,.inr ⟨h3,rfl⟩⟩
    | tok _ _ h _ _ _ _ _=>exact absurd JV h
    | Jp _ _ h _ _=>exact absurd JV h
   ·exact hr
  refine br (fun _=>?_) (fun g=>absurd (show z=59 by omega) (sU g))
  all_goals
   obtain ⟨e,g,he,hg⟩:=HR;rw [eH,nV,af (show ¬ c.toNat=10 by omega)] at he;have hu:=lz s i (by omega) c _ eH;have Gq:=ED s (by omega) i az;have sc:=gJ (l:=(tx s).drop i) (by rw [eH];simp);rw [List.length_drop,bd] at sc;have Ex:(tx s).drop (i + gp ((tx s).drop i))=((tx s).drop i).drop (gp ((tx s).drop i)):=by rw [List.drop_drop]
   rw [eH] at sc Ex Gq;have qy:gp (c :: (tx s).drop (i + 1))=if okU (c :: (tx s).drop (i + 1))=true then a7 c.toNat else 1:=rfl
   generalize okU (c :: (tx s).drop (i + 1))=ok at hu he qy;generalize gp (c :: (tx s).drop (i + 1))=N at he sc Ex Gq qy;have hw:IntKind.i64.wrap ((i:Int) + (N:Nat))=((i + N:Nat):Int):=by rw [wrap64 (by omega) (by omega)];omega
   refine bZ Hp rfl hu ax (fun q hq=>?_);obtain ⟨zr,nr,rfl,hn⟩:=hq
   cases ok with
   | false=>
    rw [zIfP rfl] at he;obtain ⟨rfl,rfl⟩:0=e/\((2,(i:Int)):Ft)=g:=sU he;rcases hg with hg | hg
    ·exact absurd hg.1 (by simp)
    ·rw [<- hg.2];rw [fg (by simp)];exact ⟨_,ax,rfl⟩
   | true=>
    rw [af (by simp)] at he;rw [zIfP rfl] at qy;obtain ⟨_,EO,hn3⟩:=hn rfl;rw [<- qy] at EO;rw [<- EO,<- Ex] at he;by_cases h9:zr=9
    ·rw [af (fun h=>h.1 h9)] at he;refine br (fun g=>absurd h9 (sU g)) (fun _=>?_);refine bZ MT rfl Gq ax (fun q hq=>?_);obtain ⟨cu,rfl⟩:=hq
     exact ⟨oX s L qq (i + N) true,(ej 1 (ng hw) (wB1 hw)),s.size - (i + N),by omega,i + N,qq,L,r,true,rfl,vq,yP,by omega,by omega,rfl,.inr ⟨rfl,e,g,he,hg.imp (fun h=>⟨h.1,by
      have h5:i + N<=(l7 ((tx s).drop (i + N)) (i + N)).1:=(oV ((tx s).drop (i + N)).length ((tx s).drop (i + N)) (i + N) (by show (l7 _ _).2.1=0;rw [he,h.1])).2.1;rw [he] at h5
      exact h5,h.2.2.1,h.2.2.2⟩) id⟩⟩
    refine br (fun _=>?_) (fun g=>absurd (sU g) h9);have hz1:0<=zr/\zr<=1114111:=by grind [gM]
    refine bZ RV rfl (qw zr hz1.1 hz1.2) ax (fun q hq=>?_);obtain ⟨kk,rfl,BN⟩:=hq;rw [<- BN] at he;by_cases Ye:kk=0
    ·rw [af (fun h=>by simp [Ye] at h)] at he;refine br (fun g=>absurd Ye (by simpa [pickB] using g)) (fun _=>?_);refine bZ MT rfl Gq ax (fun q hq=>?_);obtain ⟨cu,rfl⟩:=hq
     exact ⟨oX s L qq (i + N) true,(ej 1 (ng hw) (wB1 hw)),s.size - (i + N),by omega,i + N,qq,L,r,true,rfl,vq,yP,by omega,by omega,rfl,.inr ⟨rfl,e,g,he,hg.imp (fun h=>⟨h.1,by
      have h5:i + N<=(l7 ((tx s).drop (i + N)) (i + N)).1:=(oV ((tx s).drop (i + N)).length ((tx s).drop (i + N)) (i + N) (by show (l7 _ _).2.1=0;rw [he,h.1])).2.1;rw [he] at h5
      exact h5,h.2.2.1,h.2.2.2⟩) id⟩⟩
    ·rw [zIfP ⟨h9,by simp [Ye]⟩] at he;refine br (fun _=>?_) (fun g=>absurd (by simpa [pickB] using g) Ye);obtain ⟨rfl,rfl⟩:0=e/\((3,(i:Int)):Ft)=g:=sU he;rcases hg with hg | hg
     ·exact absurd hg.1 (by simp)
     ·rw [<- hg.2];rw [fg (by simp)];exact ⟨_,ax,rfl⟩
 ·have hge:s.size=i:=by
   have:=of_decide_eq_false hge;omega
  subst hge
  have hS:jq s s.size r f:=by
   rcases hr with ⟨_,hr⟩ | ⟨_,e,g,he,hg⟩
   ·exact hr
   ·rw [List.drop_eq_nil_of_le (by rw [bd];omega),Jn] at he;obtain ⟨rfl,rfl⟩:s.size=e/\((0,0):Ft)=g:=sU he;rcases hg with hg | hg
    ·exact hg.2.2.2
    ·exact absurd rfl hg.1
  cases hS with
  | nil=>
   have yP:=yP rfl;rw [List.append_nil] at yP;subst yP;rw [BG];refine ⟨(cq L).trans vq.symm,⟨by simp [maxLen,cq];omega,by simp [cq];omega⟩,?_⟩
   have hX:∀ bx N,CcE bx N (er (L ++ [jb s.size])) (er L ++ [tT (jb s.size)]):=fun bx N=>by
    rw [fA];exact fK _
   exact ⟨_,(o9 hX),rfl⟩
  | blank h=>exact absurd h (Nat.lt_irrefl _)
  | rem h=>exact absurd h (Nat.lt_irrefl _)
  | Jo h=>exact absurd h (Nat.lt_irrefl _)
  | tok h=>exact absurd h (Nat.lt_irrefl _)
  | Jp h=>exact absurd h (Nat.lt_irrefl _)
theorem OB (c:au) (h:aw c) (hf:c.f.1≠0):Ev prog 87 [iQ] [aH c] [] (kV c.f.d c):=by
 have h1:=lM c;rw [decide_eq_false hf] at h1;have h2:=oJ c;obtain ⟨l,p,d,f1,f2⟩:=c;refine eG 18 [.cell 2 26] func87 rfl ntmps87 rfl fun _ _ _ _=>?_;refine S9 1 Ho h1 ?_;refine S9 1 MR h2 ?_;exact ⟨Ft.d (f1,f2),[aH _],av,av,rfl,rfl,rfl⟩
theorem Vl (c:au) (h:aw c) (hf:c.f.1=0) (hp:c.aO.k=0):Ev prog 87 [iQ] [aH c] [] (kV c.f.d c):=by
 have h1:=lM c;rw [decide_eq_true hf] at h1;have h2:=oJ c;have h3:=dY c h;generalize c.aO=t at hp h3;obtain ⟨tk,ta,te,ts,tn⟩:=t;simp only at hp;subst hp;obtain ⟨l,p,d,f1,f2⟩:=c;refine eG 18 [.cell 2 26] func87 rfl ntmps87 rfl fun _ _ _ _=>?_;refine S9 1 Ho h1 ?_;refine S9 1 jx h3 ?_;refine S9 1 MR h2 ?_;exact ⟨Ft.d (f1,f2),[aH _],av,av,rfl,rfl,rfl⟩
abbrev Gr:Sch:=⟨[],[],[],NV 0 0⟩
theorem xf (s:ByteArray) (l:List gZ) (nc:aR prog 157 [.v (.string s)] (.bo [.sl 5 (er l) none,Ft.d (0,0)])) (S:Sch) (c5 c6:au) (f:Ft) (hsch:Ev prog 86 [iQ] [aH (jX l)] [] (kV (.agg (dt S)) c5)) (ly:Ev prog 87 [iQ] [aH c5] [] (kV f.d c6)) :
  aR prog 35 [.v (.string s)] (.bo [.agg (dt (if f.1=0 then S else Gr)),f.d]):=by
 have dO:=ab5 s l nc;generalize hQ:(if f.1=0 then S else Gr)=Q;obtain ⟨ae,order,types,⟨rh,rp⟩⟩:=S;refine eG 31 [.cell 2 38,.cell 3 26] func35 rfl ntmps35 rfl fun _ _ _ _=>?_;refine ab4 aeh rfl dO ax (fun r os hΦ=>?_);obtain ⟨rfl,rfl⟩:=hΦ;refine CallG.KX 0 2 rfl rfl rfl rfl ?_;refine S9 1 en86 hsch ?_;refine S9 1 en87 ly ?_;refine br ?_ ?_<;>intro g
 ·have g:¬ f.1=0:=sU g;rw [af g] at hQ;subst hQ;refine aE [1,2] (fun _=>false) mo (by decide +kernel) ?_;exact ⟨_,ax,rfl⟩
 ·have g:f.1=0:=sU g;rw [zIfP g] at hQ;subst hQ;refine aE [1,2] (fun _=>false) mo (by decide +kernel) ?_;exact ⟨_,ax,rfl⟩
theorem xg (l:List gZ) (e:Int) (hl:l.length<=274877906943):aw (jX (l ++ [jb e])) where
 lt:=by show 0 < (l ++ [jb e]).length;simp
 nx:=fun i t hi hk=>by
  show i + 1 < (l ++ [jb e]).length;have hi:(l ++ [jb e])[i]? = some t:=hi;rw [List.getElem?_append] at hi;split at hi
  ·rename_i h;simp;omega
  ·rename_i h;have h2:=(gS hi).1;have h3:i - l.length=0:=by simp at h2;omega
   rw [h3] at hi;simp only [List.getElem?_cons_zero,oI] at hi;subst hi;exact absurd rfl hk
 len:=by show (l ++ [jb e]).length<=_;simp;omega
 dl:=by show 0<=24;omega
def Jz (c:au):au:=if c.f.1=0/\c.aO.k≠0 then c.fail 4 else c
theorem QK (c:au) (h:aw c):Ev prog 87 [iQ] [aH c] [] (kV (Jz c).f.d (Jz c)):=by
 unfold Jz;by_cases hf:c.f.1=0
 ·by_cases hk:c.aO.k=0
  ·grind [Vl]
  ·rw [zIfP ⟨hf,hk⟩];have h1:=lM c;rw [decide_eq_true hf] at h1;have h3:=dY c h;have h4:=jV c h 4;have h2:=oJ (c.fail 4);generalize c.fail 4=C4 at h2 h4 ⊢;generalize c.aO=t at hk h3;obtain ⟨tk,ta,te,ts,tn⟩:=t;simp only at hk;obtain ⟨l,p,d,f1,f2⟩:=c;obtain ⟨l4,p4,d4,f14,f24⟩:=C4;refine eG 18 [.cell 2 26] func87 rfl ntmps87 rfl fun _ _ _ _=>?_;refine S9 1 Ho h1 ?_;refine S9 1 jx h3 ?_;refine br (fun _=>?_) (fun g=>absurd (by simpa [pickB] using g) hk);refine S9 1 zF h4 ?_;refine S9 1 MR h2 ?_;exact ⟨Ft.d (f14,f24),[aH _],av,av,rfl,rfl,rfl⟩
 ·grind [OB]
theorem Yf (s:ByteArray) (f:Ft) (h0:¬ f.1=0) (nc:aR prog 157 [.v (.string s)] (.bo [.v (.slice none 0 0),Ft.d f])):aR prog 85 [.v (.string s)] (.bo [.v (.pointer none),Ft.d f]):=by
 obtain ⟨f1,f2⟩:=f;simp only at h0;refine eG 19 [.tmp 2,.cell 3 26] func85 rfl ntmps85 rfl fun _ _ _ _=>?_;refine cP aex nc ?_;refine br (fun _=>?_) (fun g=>absurd (sU g) h0);refine aE [0] (fun _=>false) mo (by decide +kernel) ?_;exact ⟨_,ax,rfl⟩
theorem EE (s:ByteArray) (f:Ft) (h0:¬ f.1=0) (nc:aR prog 157 [.v (.string s)] (.bo [.v (.slice none 0 0),Ft.d f])):aR prog 35 [.v (.string s)] (.bo [.agg (dt Gr),Ft.d f]):=by
 have hn:=Yf s f h0 nc;obtain ⟨f1,f2⟩:=f;simp only at h0;refine eG 31 [.cell 2 38,.cell 3 26] func35 rfl ntmps35 rfl fun _ _ _ _=>?_;refine cP aeh hn ?_;refine br (fun _=>?_) (fun g=>absurd (sU g) h0);refine aE [0,1] (fun _=>false) mo (by decide +kernel) ?_;exact ⟨_,ax,rfl⟩
def QL (L:List gZ):Sch × Ft:=(if (Jz (dQ (jX L)).2).f.1=0 then (dQ (jX L)).1 else Gr,(Jz (dQ (jX L)).2).f)
theorem Mj (s:ByteArray) (L:List gZ) (hL:aw (jX L)) (nc:aR prog 157 [.v (.string s)] (.bo [.sl 5 (er L) none,Ft.d (0,0)])):aR prog 35 [.v (.string s)] (.bo [.agg (dt (QL L).1),Ft.d (QL L).2]):=
 xf s L nc _ _ _ _ (F9 (jX L) hL rfl) (QK _ (xR (Sm.self hL) rfl).sm.ok)
def JA (L:List gZ):Sch × Ft:=if ((gK (L,(0,0))).2.ah 0 aM).2.1=0 then ((gK (L,(0,0))).1,(0,0)) else (Gr,((gK (L,(0,0))).2.ah 0 aM).2)
theorem acI {L:List gZ} (hL:aw (jX L)) (hz:∀ t∈L,t.k=0->t.s=aM):QL L=JA L:=by
 have hx:=xR (Sm.self hL) rfl;have hs:((jX L).l.drop (jX L).p,(jX L).f)=(L,((0,0):Ft)):=rfl;rw [hs] at hx;have Z7:Jz (dQ (jX L)).2=if (dQ (jX L)).2.f.1=0/\(dQ (jX L)).2.aO.k≠0 then (dQ (jX L)).2.fail 4 else (dQ (jX L)).2:=rfl
 unfold QL JA;generalize Jz (dQ (jX L)).2=PE at Z7 ⊢;generalize hX:dQ (jX L)=X at hx Z7 ⊢;generalize gK (L,(0,0))=Y at hx ⊢;by_cases h0:X.2.f.1=0
 ·have hq:Y.2.2.1=0:=by rw [hx.sm.f];exact h0
  have hh:=hx.sm.hd h0;have hg:X.2.f=(0,0):=hx.st.g h0;obtain ⟨t,h1,h2⟩:=hx.sm.ok.aO h0;have hl:X.2.l=L:=hx.st.l;rw [hl] at h1;have hz:=hz t (mG h1);rw [<- h2] at hz;by_cases hk:X.2.aO.k=0
  ·have hi:Y.2.is 0 aM=true:=by
    rw [RS.is,hh,hk,hz hk];simp
   have hn:Y.2.ah 0 aM=Y.2.on:=by rw [RS.ah,zIfP hq,zIfP hi]
   have ho:Y.2.on.2.1=0:=hq;rw [af (fun g=>g.2 hk)] at Z7;rw [Z7,hn,zIfP ho,zIfP h0,hg,hx.val h0]
  ·have hi:¬ Y.2.is 0 aM=true:=fun h=>hk (by rw [<- hh];exact RS.Xy h)
   have hn:Y.2.ah 0 aM=(Y.2.1,(4,X.2.aO.a)):=by
    rw [RS.ah,zIfP hq,af hi,RS.wr,zIfP hq,hh,af hk]
   grind [au.fail,au.cM]
 ·have hq:¬ Y.2.2.1=0:=by rw [hx.sm.f];exact h0
  have hn:Y.2.ah 0 aM=Y.2:=I9 hq 0 aM;rw [af (fun g=>h0 g.1)] at Z7;rw [Z7,hn,af hq,af h0,hx.sm.f]
theorem x7 (s:ByteArray) (f:Ft) (h0:¬ f.1=0) (nc:aR prog 94 [.v (.string s)] (.bo [.v (.slice none 0 0),Ft.d f])):aR prog 37 [.v (.string s)] (.bo [.agg (dt Gr),Ft.d f]):=by
 obtain ⟨f1,f2⟩:=f;simp only at h0;refine eG 34 [.cell 2 38,.cell 3 26] func37 rfl ntmps37 rfl fun _ _ _ _=>?_;refine cP aaT nc ?_;refine br (fun _=>?_) (fun g=>absurd (sU g) h0);refine aE [0,1] (fun _=>false) mo (by decide +kernel) ?_;exact ⟨_,ax,rfl⟩
theorem Gs (s:ByteArray) (L:List gZ) (hL:bP (L,(0,0))) (nc:aR prog 94 [.v (.string s)] (.bo [.sl 5 (er L) none,Ft.d (0,0)])):aR prog 37 [.v (.string s)] (.bo [.agg (dt (JA L).1),Ft.d (JA L).2]):=by
 generalize hR:JA L=R;unfold JA at hR;have h1:=Ch (L,(0,0)) hL;have o1:=Lp hL;have h2:=eL _ o1 0 aM;have h3:=cj ((gK (L,(0,0))).2.ah 0 aM);generalize (gK (L,(0,0))).2.ah 0 aM=q at h2 h3 hR;generalize gK (L,(0,0))=Y at h1 h2 hR;obtain ⟨⟨ae,order,types,⟨rh,rp⟩⟩,yl,yf1,yf2⟩:=Y;obtain ⟨ql,UG,VK⟩:=q;simp only at hR;by_cases h0:UG=0
 ·rw [zIfP h0] at hR;subst hR;rw [decide_eq_true (show ((ql,(UG,VK)):RS).2.1=0 from h0)] at h3;refine eG 34 [.cell 2 38,.cell 3 26] func37 rfl ntmps37 rfl fun _ _ _ _=>?_;refine cP aaT nc ?_;refine cP aei h1 ?_;refine cP yg h2 ?_;refine cP gI h3 ?_;exact ⟨_,ax,rfl⟩
 ·rw [af h0] at hR;subst hR;rw [decide_eq_false (show ¬ ((ql,(UG,VK)):RS).2.1=0 from h0)] at h3;refine eG 34 [.cell 2 38,.cell 3 26] func37 rfl ntmps37 rfl fun _ _ _ _=>?_;refine cP aaT nc ?_;refine cP aei h1 ?_;refine cP yg h2 ?_;refine cP gI h3 ?_;refine aE [0,1] (fun _=>false) mo (by decide +kernel) ?_;exact ⟨_,ax,rfl⟩
theorem Vm {s:ByteArray} {i:Nat} {t:gZ} (h:qx s i=(t,(0,0))) (hk:t.k=1):t.s.size<=32:=by
 unfold qx at h;by_cases h1:bc ((tx s).drop i)≠0
 ·rw [zIfP h1] at h;by_cases h2:bc ((tx s).drop i)<=32
  ·rw [zIfP h2] at h;injection h with h3 _
   rw [<- h3];show (s.extract i (i + bc ((tx s).drop i))).size<=32;simp;omega
  all_goals grind
 grind
theorem Mk {s:ByteArray} {i:Nat} {l:List gZ} {f:Ft} (h:jq s i l f):i<=s.size/\l.length + i<=s.size/\muL l + 1088 * i<=1088 * s.size/\∀ t∈l,t.k≠0:=by
 induction h with
 | nil=>exact ⟨zLeR _,by simp,by simp [muL],fun t ht=>by cases ht⟩
 | blank h1 _ _ ih=>exact ⟨by omega,by omega,by omega,ih.2.2.2⟩
 | rem h1 _ _ h4 _ _ ih=>exact ⟨by omega,by omega,by omega,ih.2.2.2⟩
 | Jo h1 _ _ _=>exact ⟨by omega,by simp;omega,by simp [muL];omega,fun t ht=>by cases ht⟩
 | Jp h1 _ _ _ _=>exact ⟨by omega,by simp;omega,by simp [muL];omega,fun t ht=>by cases ht⟩
 | @tok i e t l f h1 h2 h3 h4 h5 h6 h7 h8 ih=>grind [U9,Vm,XE,muL]
theorem Yg (a b:List gZ):muL (a ++ b)=muL a + muL b:=by
 induction a with
 | nil=>simp [muL]
 | cons t r ih=>simp only [List.cons_append,muL,ih];omega
theorem Yh {L:List gZ} (hL:aw (jX L)):(QL L).1.wt<=muL L + 320:=by
 unfold QL;split
 ·rename_i h0;have h1:(dQ (jX L)).2.f.1=0:=by grind [Jz,uJ]
  have:=LA hL rfl h1;have e:ed (jX L)=muL L:=rfl;show (dQ (jX L)).1.wt<=_;omega
 ·show 320<=_;omega
theorem Ml (s:ByteArray):∃ (S:Sch) (f:Ft),aR prog 35 [.v (.string s)] (.bo [.agg (dt S),Ft.d f])/\aR prog 37 [.v (.string s)] (.bo [.agg (dt S),Ft.d f])/\S.wt<=1000000000:=by
 rcases Nat.lt_or_ge 65536 s.size with hs | hs
 ·have h1:=Va s hs;have h2:=Mi s hs;rw [fg (by decide)] at h1 h2;exact ⟨Gr,(7,65536),EE s _ (by decide) h1,x7 s _ (by decide) h2,by decide⟩
 ·obtain ⟨l,f,hR,hf⟩:=uW s s.size 0 (Nat.zero_le _) (zLeR _);have h1:=L6 s hs l f hR hf;have h2:=Jy s hs l f hR hf;by_cases h0:f.1=0
  ·rw [hf h0,BG] at h1 h2;obtain ⟨f1,f2,f3,f4⟩:=Mk hR;have hL:=xg l s.size (by omega)
   have hz:∀ t∈l ++ [jb s.size],t.k=0->t.s=aM:=fun t ht hk=>by
    rcases List.mem_append.1 ht with ht | ht
    ·exact absurd hk (f4 t ht)
    ·rw [List.mem_singleton.1 ht];rfl
   have g1:=Mj s _ hL h1;have g2:=Gs s _ (Sm.self hL).rok h2;have g2:aR prog 37 [.v (.string s)] (.bo [.agg (dt (JA (l ++ [jb s.size])).1),Ft.d (JA (l ++ [jb s.size])).2]):=g2;rw [<- acI hL hz] at g2;refine ⟨_,_,g1,g2,?_⟩;have:=Yh hL;have e:muL (l ++ [jb s.size])=muL l + 1024:=by rw [Yg];all_goals rfl
   omega
  ·rw [fg h0] at h1 h2;exact ⟨Gr,f,EE s f h0 h1,x7 s f h0 h2,by decide⟩
def chkA:List Nat->List Nd->Ft
 | k :: r,n :: s=>if k=0 then (11,n.cT) else chkA r s
 | _,_=>(0,0)
theorem EG {D:List Nat} {ND:List Nd} {e k:Nat} {n:Nd} (h1:D[e]? = some k) (h2:ND[e]? = some n):chkA (D.drop e) (ND.drop e)=if k=0 then (11,n.cT) else chkA (D.drop (e + 1)) (ND.drop (e + 1)):=by
 rw [drop_cons h1,drop_cons h2,chkA]
theorem JB (D:List Nat) (ND:List Nd) {e:Nat} (h:D.length<=e):chkA (D.drop e) (ND.drop e)=(0,0):=by
 rw [List.drop_of_length_le h];simp [chkA]
abbrev acJ (D:List Nat) (ND:List Nd) (e:Nat):St:=
 ⟨[bJ 3 7 (cE ND),aJ 2 0,bJ 12 1 (dInts D),aC 13 D.length,aC 14 e],[[.v (.int .i64 0),.v (.int .i64 0)]],[]⟩
theorem Gt {S:Sch} {ND:List Nd} {PC:List DV} (hP:nK S ND PC):aR prog 40 [.pt PC 0] (chkA (depN ND ND.length) ND).d:=by
 have h0:=uY hP;have h1:=Jv hP;have hl:=depN_len ND ND.length;have ir:=hP.nl;generalize depN ND ND.length=D at h1 hl ⊢;have iP:=fL ND;have JG:=bQ D;refine eG 29 [.cell 2 26] func40 rfl ntmps40 rfl fun _ _ _ _=>?_;refine cP Yy h0 ?_;refine cP aek h1 ?_;refine lI (fun j st=>∃ e:Nat,st=acJ D ND e/\e<=ND.length/\chkA D ND=chkA (D.drop e) (ND.drop e)/\j=ND.length - e) ⟨0,rfl,by omega,rfl,rfl⟩ (wkM (wB1 JG)) ?_;rintro j st ⟨e,rfl,he,aQ,rfl⟩;refine br ?_ ?_<;>intro hL
 ·have az:e < ND.length:=by have:=hL;simp [hl] at this;exact this
  obtain ⟨n,hn⟩:=gX az;obtain ⟨k,hk⟩:∃ k,D[e]? = some k:=⟨_,gE (by omega)⟩;rw [EG hk hn] at aQ;refine iX (dr hk) ?_;refine br ?_ ?_<;>intro g
  ·have g:k=0:=sU g;rw [zIfP g] at aQ;refine iX (j8 hn) ?_;rw [aQ];exact ⟨_,ax,rfl⟩
  ·have g:¬ k=0:=sU g;rw [af g] at aQ;exact rE ⟨_,by omega,e + 1,rfl,by omega,aQ,rfl⟩ (wkM (wB1 (nxt az (by omega))))
 ·have hge:e=ND.length:=sW hl hL;rw [aQ,JB D ND (by omega)];exact ⟨_,ax,rfl⟩
def effE (f:Nat->Nat->Bool) (ND:List Nd) (e:Ed):Ft:=
 if e.ck=0 then (0,0) else match ND[e.to.toNat]? with | none=>(14,e.ca) | some m=>if m.ay=uZ e.ck then (if (f e.seen.toNat e.label.toNat && !f e.label.toNat e.seen.toNat)=true then (0,0) else (18,e.ca)) else (14,e.ca)
def effEs (f:Nat->Nat->Bool) (ND:List Nd):List Ed->Ft
 | []=>(0,0)
 | e :: r=>if (effE f ND e).1=0 then effEs f ND r else effE f ND e
def effN (f:Nat->Nat->Bool) (ND:List Nd):List Nd->Ft
 | []=>(0,0)
 | n :: r=>if (effEs f ND n.bK).1=0 then effN f ND r else effEs f ND n.bK
def px (f:Nat->Nat->Bool) (ND:List Nd):Ft:=effN f ND ND
theorem EH {f:Nat->Nat->Bool} {ND:List Nd}:∀ {l:List Nd},(effN f ND l).1=0->effN f ND l=(0,0)
 | [],_=>rfl
 | n :: r,h=>by
  rw [effN] at h ⊢;split
  ·rename_i h1;rw [zIfP h1] at h;exact EH h
  ·rename_i h1;rw [af h1] at h;exact absurd h h1
theorem Cm (lv:List Wd) (f:Nat->Nat->Bool) (ND:List Nd) (z:Int) (hn:lv.length<=32) (fh:∀ n∈ND,ID lv.length ND.length n) (ir:ND.length<=1099511627776) (cK:∀ n∈ND,n.bK.length<=1099511627776) (hbr:∀ n∈ND,∀ e∈n.bK,e.bare=true->e.ck=0) :
  aR prog 44 [.agg (wL lv f ND z)] (px f ND).d:=by
 have hNl:=fL ND;refine eG 79 [.cell 2 26] func44 rfl ntmps44 rfl fun _ _ _ _=>?_;refine lI (fun j st=>∃ e:Nat,st=ahP (wL lv f ND z) e/\e<=ND.length/\px f ND=effN f ND (ND.drop e)/\j=ND.length - e) ⟨0,rfl,by omega,rfl,rfl⟩ (wkM wB) ?_;rintro j st ⟨e,rfl,he,hno,rfl⟩;refine br ?_ ?_<;>intro hL
 ·have az:e < ND.length:=sV hNl hL;obtain ⟨d,hd⟩:=gX az;have hm:=mG hd;have hN:=fh d hm;have Gz:=cK d hm;have iP:=eJ d.bK;have hbd:=hbr d hm;rw [drop_cons hd,effN] at hno;refine iX (j8 hd) ?_;refine lI (fun j st=>∃ k:Nat,st=acG (wL lv f ND z) d.bK e k/\k<=d.bK.length/\effEs f ND d.bK=effEs f ND (d.bK.drop k)/\j=d.bK.length - k) ⟨0,rfl,by omega,rfl,rfl⟩ (wkM wB) ?_;rintro j st ⟨k,rfl,hk,uu,rfl⟩;refine br ?_ ?_<;>intro n7
  ·have il:k < d.bK.length:=sV iP n7;obtain ⟨x,hx⟩:∃ x,d.bK[k]? = some x:=⟨_,gE il⟩;have hmx:=mG hx;obtain ⟨wh,⟨h2,mK⟩,h3,rn⟩:=DP hN hmx;have lV:=hbd x hmx;have hck:=(hN.HO x hmx).ck;rw [drop_cons hx,effEs] at uu;have hE:effE f ND x=if x.ck=0 then ((0,0):Ft) else match ND[x.to.toNat]? with | none=>((14,x.ca):Ft) | some m=>if m.ay=uZ x.ck then (if (f x.seen.toNat x.label.toNat && !f x.label.toNat x.seen.toNat)=true then ((0,0):Ft) else (18,x.ca)) else (14,x.ca):=rfl
   generalize effE f ND x=EX at hE uu;have JC:∀ y:Ft,y.1≠0->EX=y->px f ND=y:=fun y hy h=>by rw [hno,uu,h,af hy,af hy]
   have xF:EX.1=0->effEs f ND d.bK=effEs f ND (d.bK.drop (k + 1)):=fun h=>by rw [uu,zIfP h]
   generalize px f ND=FF at JC ⊢;obtain ⟨en,eb,ea,et,elb,ew,Mm,ecn,ese,eca⟩:=x;simp only at h2 mK h3 rn wh lV hck hE;obtain ⟨lb,rfl⟩:∃ n:Nat,elb=n:=⟨_,h2⟩;obtain ⟨sn,rfl⟩:∃ n:Nat,ese=n:=⟨_,h3⟩;simp only [dV] at mK rn hE;refine iX (j9 hx) ?_;refine br ?_ ?_<;>intro g
   ·have g:Mm=0:=sU g;exact rE ⟨_,by omega,k + 1,rfl,by omega,xF (by rw [hE,zIfP g]),rfl⟩ (ej 2 (ng (nxt il (by omega))) (wB1 (nxt il (by omega))))
   have gg:¬ Mm=0:=sU g
   obtain ⟨h1,gV⟩:=wh (by
    cases hb:eb
    ·rfl
    ·exact absurd (lV hb) gg)
   obtain ⟨tn,rfl⟩:∃ n:Nat,et=n:=⟨_,h1⟩;simp only [dV] at gV hE;obtain ⟨m,hmt⟩:∃ m,ND[tn]? = some m:=⟨_,gE gV⟩;rw [af gg] at hE;simp only [hmt] at hE;have h3c:(Mm=1/\uZ Mm=2)∨(Mm=2/\uZ Mm=3)∨(Mm=3/\uZ Mm=5):=by unfold uZ;omega
   rcases h3c with ⟨rfl,OP⟩ | ⟨rfl,OP⟩ | ⟨rfl,OP⟩
   all_goals
    rw [OP] at hE;refine ⟨_,⟨GL _,j8 hmt⟩,?_⟩;refine br ?_ ?_<;>intro c1
    ·simp at c1;rw [af c1] at hE;rw [JC _ (by simp) hE];exact ⟨_,ax,rfl⟩
    simp at c1;rw [zIfP c1] at hE;refine dI ?_;refine ⟨_,⟨GL _,fM rn⟩,?_⟩;refine ⟨_,⟨GL _,eE mK⟩,?_⟩;refine br ?_ ?_<;>intro c2
    ·refine ⟨_,⟨GL _,fM mK⟩,?_⟩;refine ⟨_,⟨GL _,eE rn⟩,?_⟩;refine br ?_ ?_<;>intro c3
     ·have c2:f sn lb=true:=sU c2;have c3:f lb sn=true:=by simpa [pickB] using c3
      rw [JC (18,eca) (by simp) (by rw [hE,af (by rw [c2,c3];simp)])];exact ⟨_,ax,rfl⟩
     ·have c2:f sn lb=true:=sU c2;have c3:f lb sn=false:=by simpa [pickB] using c3
      have hx:=xF (by rw [hE,zIfP (by rw [c2,c3];rfl)]);exact rE ⟨_,by omega,k + 1,rfl,by omega,hx,rfl⟩ (ej 2 (ng (nxt il (by omega))) (wB1 (nxt il (by omega))))
    ·have c2:f sn lb=false:=sU c2;rw [JC (18,eca) (by simp) (by rw [hE,af (by rw [c2];simp)])];exact ⟨_,ax,rfl⟩
  ·have hge:k=d.bK.length:=sW iP n7;subst hge;exact rE ⟨_,by omega,e + 1,rfl,by omega,by rw [hno,uu,List.drop_length,effEs,zIfP rfl],rfl⟩ (wkM (wB1 (nxt az (by omega))))
 ·have hge:e=ND.length:=sW hNl hL;subst hge;rw [hno,List.drop_length,effN];exact ⟨_,ax,rfl⟩
def Mn (S:Sch):Int × Ft:=
 if (jf S).1=0 then (if (chkA (depN (aV S) (aV S).length) (aV S)).1=0 then (if (px (oH S) (aV S)).1=0 then (0,(0,0)) else (4,px (oH S) (aV S))) else (3,chkA (depN (aV S) (aV S).length) (aV S))) else (2,jf S)
theorem Cn (S:Sch) (hS:S.wt<=1099511627776):aR prog 16 [.agg (dt S)] (.bo [.v (.int .i64 (Mn S).1),(Mn S).2.d]):=by
 have PI:=FP S hS;have hw:=fun h=>uy S hS h;have hst:Mn S=if (jf S).1=0 then (if (chkA (depN (aV S) (aV S).length) (aV S)).1=0 then (if (px (oH S) (aV S)).1=0 then (0,(0,0)) else (4,px (oH S) (aV S))) else (3,chkA (depN (aV S) (aV S).length) (aV S))) else (2,jf S):=rfl
 generalize Mn S=ST at hst ⊢;generalize hR:jf S=R at PI hst;obtain ⟨ae,order,types,⟨rh,rp⟩⟩:=S;refine eG 44 [.tmp 2,.cell 3 26] func16 rfl ntmps16 rfl fun _ _ _ _=>?_;refine cP en42 PI ?_;refine br ?_ ?_<;>intro g
 ·have g:¬ R.1=0:=sU g;rw [af g] at hst;rw [hst];refine dS ?_;exact ⟨_,ax,rfl⟩
 have g:R.1=0:=sU g;rw [zIfP g] at hst;have h0:(jf ⟨ae,order,types,.mk rh rp⟩).1=0:=by rw [hR];exact g
 have hF:=AW h0;have hw:=hw h0;obtain ⟨agW,JR⟩:=nF hF.lat;have fh:=fun n (hn:n∈aV ⟨ae,order,types,.mk rh rp⟩)=>(List.mem_iff_getElem?.1 hn).elim fun i hi=>wI hF hi;have ir:(aV ⟨ae,order,types,.mk rh rp⟩).length<=1099511627776:=by rw [sG];exact Nat.le_trans (Lh _) hS
 have cK:=fun n (hn:n∈aV ⟨ae,order,types,.mk rh rp⟩)=>(wJ hn hS).2;have hbr:=fun n (hn:n∈aV ⟨ae,order,types,.mk rh rp⟩)=>(List.mem_iff_getElem?.1 hn).elim fun i hi e he hb=>xZ hF hi (e:=e) he hb;have h19:=fun A B=>Cj 2 1 A B (kF ⟨ae,order,types,.mk rh rp⟩) fh ir cK;have h20:=Cm ae (oH ⟨ae,order,types,.mk rh rp⟩) (aV ⟨ae,order,types,.mk rh rp⟩) (kF ⟨ae,order,types,.mk rh rp⟩) JR fh ir cK hbr;have Sn:=depN_len (aV ⟨ae,order,types,.mk rh rp⟩) (aV ⟨ae,order,types,.mk rh rp⟩).length;generalize depN (aV ⟨ae,order,types,.mk rh rp⟩) (aV ⟨ae,order,types,.mk rh rp⟩).length=D at h19 hst Sn;unfold oH at h20 hst;generalize fC (Sch.mk ae order types (.mk rh rp)).ae.length (dL (aF (Sch.mk ae order types (.mk rh rp)).ae) (Sch.mk ae order types (.mk rh rp)).order)=f at hw h20 hst;generalize aV ⟨ae,order,types,.mk rh rp⟩=ND at hw h19 h20 hst Sn ir cK hbr fh;generalize kF ⟨ae,order,types,.mk rh rp⟩=rt at hw h19 h20;have JG:=bQ D;obtain ⟨R1,R2⟩:=R;simp only at g;subst g;generalize px f ND=EF at h20 hst;refine cP ad8 hw ?_;refine cP en43 (h19 _ _) ?_;refine lI (fun j st=>∃ e:Nat,st=ahQ ⟨ae,order,types,.mk rh rp⟩ 0 R2 (wL ae f ND rt) D e/\e<=D.length/\chkA D ND=chkA (D.drop e) (ND.drop e)/\j=D.length - e) ⟨0,rfl,by omega,rfl,rfl⟩ (wkM wB) ?_;rintro j st ⟨e,rfl,he,hno,rfl⟩;refine br ?_ ?_<;>intro hL
 ·have az:e < D.length:=sV JG hL;obtain ⟨x,hx⟩:=gX az;obtain ⟨d,hd⟩:∃ d,ND[e]? = some d:=⟨_,gE (by omega)⟩;rw [EG hx hd] at hno;refine iX (dr hx) ?_;refine br ?_ ?_<;>intro c
  ·have c:x=0:=sU c;rw [zIfP c] at hno;rw [hno,af (by simp)] at hst;rw [hst];refine dS ?_;refine iX (j8 hd) ?_;exact ⟨_,ax,rfl⟩
  ·have c:¬ x=0:=sU c;rw [af c] at hno;exact rE ⟨_,by omega,e + 1,rfl,by omega,hno,rfl⟩ (ej 4 (ng (nxt az (by omega))) (wB1 (nxt az (by omega))))
 ·have hge:e=D.length:=sW JG hL;subst hge;rw [JB D ND (zLeR _)] at hno;rw [hno,zIfP rfl] at hst;refine cP en44 h20 ?_;refine br ?_ ?_<;>intro c
  ·have c:¬ EF.1=0:=sU c;rw [af c] at hst;rw [hst];refine dS ?_;exact ⟨_,ax,rfl⟩
  ·have c:EF.1=0:=sU c;rw [zIfP c] at hst;rw [hst];exact ⟨_,ax,rfl⟩
theorem asks_1:aR prog 102 [.v (.int .i64 1)] (.v (.int .i64 2)):=by
 refine eG 8 [.tmp 2] func102 rfl ntmps102 rfl fun _ _ _ _=>?_;exact (rfl:_=_)
theorem asks_2:aR prog 102 [.v (.int .i64 2)] (.v (.int .i64 3)):=by
 refine eG 8 [.tmp 2] func102 rfl ntmps102 rfl fun _ _ _ _=>?_;exact (rfl:_=_)
theorem asks_3:aR prog 102 [.v (.int .i64 3)] (.v (.int .i64 5)):=by
 refine eG 8 [.tmp 2] func102 rfl ntmps102 rfl fun _ _ _ _=>?_;exact (rfl:_=_)
theorem QM {ck:Int} (h:ck=1∨ck=2∨ck=3):aR prog 102 [.v (.int .i64 ck)] (.v (.int .i64 (uZ ck))):=by
 rcases h with rfl | rfl | rfl
 ·exact asks_1
 ·exact asks_2
 ·exact asks_3
theorem Mo {LC:List DV} (a b:Nat) (B:Bool) (hl:aR prog 186 [.pt LC 0,.v (.int .i64 a),.v (.int .i64 b)] (.v (.bool B))) :
  aR prog 103 [.pt LC 0,.v (.int .i64 a),.v (.int .i64 b)] (.v (.bool (decide (¬ a=b) && B))):=by
 by_cases yh:a=b
 ·subst yh;refine eG 16 [.tmp 6] func103 rfl ntmps103 rfl fun _ _ _ _=>?_;refine br (fun g=>absurd g (by simp)) (fun _=>?_);refine (dq ?_:);simp [pickB]
 ·refine eG 16 [.tmp 6] func103 rfl ntmps103 rfl fun _ _ _ _=>?_;refine br (fun _=>?_) (fun g=>absurd (Int.ofNat.inj (show (a:Int)=b by simpa using g)) yh);refine cP aeE hl ?_;refine (dq ?_:);simp [pickB,yh]
theorem acL {f:Nat->Nat->Bool} {n:Nat} (hL:lH f n) {a b:Nat} (ha:a < n) (hb:b < n):(decide (¬ a=b) && f a b)=(f a b && !f b a):=by
 by_cases yh:a=b
 ·subst yh;rw [hL.rfl' a ha];simp
 ·rw [decide_eq_true yh,Bool.true_and]
  cases h1:f a b with
  | false=>rfl
  | true=>
   cases h2:f b a with
   | false=>rfl
   | true=>exact absurd (hL.KN a b ha hb h1 h2) yh
abbrev ecSt (PC:List DV) (n e:Nat):St:=⟨[vC 0 PC,aJ 2 0,aC 14 n,aC 15 e],[[.v (.int .i64 0),.v (.int .i64 0)]],[]⟩
abbrev ebSt (PC:List DV) (n:Nat) (es:List Ed) (e k:Nat):St:=⟨[vC 0 PC,aJ 2 0,aC 14 n,aC 15 e,bJ 25 10 (lZ es),aC 26 es.length,aC 27 k],[[.v (.int .i64 0),.v (.int .i64 0)]],[]⟩
theorem effcheck_spec {S:Sch} {ND:List Nd} {PC LC:List DV} (hP:nK S ND PC) (PT:aR prog 45 [.pt PC 0] (.pt LC 0)) (hR:ag0 S.ae.length (oH S) (aF S.ae) LC) (cK:∀ n∈ND,n.bK.length<=1099511627776) :
  aR prog 41 [.pt PC 0] (px (oH S) ND).d:=by
 have hlen:=hP.len;have nE:=hP.aj;have fh:=hP.ok;have ir:=hP.nl;have hL:=hR.ok;have Li:=fun (a b:Nat) (ha:a < S.ae.length) (hb:b < S.ae.length)=>Mo a b _ ((Ub (f:=oH S) ha hb) ▸ hR.leq a b);have jI:=fun (a b:Nat) (ha:a < S.ae.length) (hb:b < S.ae.length)=>acL hL ha hb;have hbr:=fun n (hn:n∈ND) e (he:e∈n.bK) (hb:e.bare=true)=>(List.mem_iff_getElem?.1 hn).elim fun i hi=>xZ hP.fine (hP.Dx ▸ hi) (e:=e) he hb;generalize oH S=f at Li jI ⊢;have hNl:=fL ND;refine eG 66 [.cell 2 26] func41 rfl ntmps41 rfl fun _ _ _ _=>?_;refine cP RL hlen ?_;refine lI (fun j st=>∃ e:Nat,st=ecSt PC ND.length e/\e<=ND.length/\px f ND=effN f ND (ND.drop e)/\j=ND.length - e) ⟨0,rfl,by omega,rfl,rfl⟩ (wkM wB) ?_;rintro j st ⟨e,rfl,he,hno,rfl⟩;refine br ?_ ?_<;>intro hL
 ·have az:e < ND.length:=sU hL;obtain ⟨d,hd⟩:=gX az;have hm:=mG hd;have hN:=fh d hm;have Gz:=cK d hm;have iP:=eJ d.bK;have hbd:=hbr d hm;have hnd:=nE e d hd;rw [drop_cons hd,effN] at hno;refine cP Wp hnd ?_;refine lI (fun j st=>∃ k:Nat,st=ebSt PC ND.length d.bK e k/\k<=d.bK.length/\effEs f ND d.bK=effEs f ND (d.bK.drop k)/\j=d.bK.length - k) ⟨0,rfl,by omega,rfl,rfl⟩ (ej 1 (ng iP) (wB1 iP)) ?_;rintro j st ⟨k,rfl,hk,uu,rfl⟩;refine br ?_ ?_<;>intro n7
  ·have il:k < d.bK.length:=sU n7;obtain ⟨x,hx⟩:∃ x,d.bK[k]? = some x:=⟨_,gE il⟩;have hmx:=mG hx;obtain ⟨wh,⟨h2,mK⟩,h3,rn⟩:=DP hN hmx;have lV:=hbd x hmx;have hck:=(hN.HO x hmx).ck;rw [drop_cons hx,effEs] at uu;have hE:effE f ND x=if x.ck=0 then ((0,0):Ft) else match ND[x.to.toNat]? with | none=>((14,x.ca):Ft) | some m=>if m.ay=uZ x.ck then (if (f x.seen.toNat x.label.toNat && !f x.label.toNat x.seen.toNat)=true then ((0,0):Ft) else (18,x.ca)) else (14,x.ca):=rfl
   generalize effE f ND x=EX at hE uu;have JC:∀ y:Ft,y.1≠0->EX=y->px f ND=y:=fun y hy h=>by rw [hno,uu,h,af hy,af hy]
   have xF:EX.1=0->effEs f ND d.bK=effEs f ND (d.bK.drop (k + 1)):=fun h=>by rw [uu,zIfP h]
   generalize px f ND=FF at JC ⊢;obtain ⟨en,eb,ea,et,elb,ew,Mm,ecn,ese,eca⟩:=x;simp only at h2 mK h3 rn wh lV hck hE;obtain ⟨lb,rfl⟩:∃ n:Nat,elb=n:=⟨_,h2⟩;obtain ⟨sn,rfl⟩:∃ n:Nat,ese=n:=⟨_,h3⟩;simp only [dV] at mK rn hE;refine iX (j9 hx) ?_;refine br ?_ ?_<;>intro g
   ·have g:Mm=0:=sU g;exact rE ⟨_,by omega,k + 1,rfl,by omega,xF (by rw [hE,zIfP g]),rfl⟩ (ej 1 (ng (nxt il (by omega))) (wB1 (nxt il (by omega))))
   have gg:¬ Mm=0:=sU g
   obtain ⟨h1,gV⟩:=wh (by
    cases hb:eb
    ·rfl
    ·exact absurd (lV hb) gg)
   obtain ⟨tn,rfl⟩:∃ n:Nat,et=n:=⟨_,h1⟩;simp only [dV] at gV hE;obtain ⟨m,hmt⟩:∃ m,ND[tn]? = some m:=⟨_,gE gV⟩;rw [af gg] at hE;simp only [hmt] at hE;have Yd:=nE tn m hmt;have has:=QM (show Mm=1∨Mm=2∨Mm=3 by omega);generalize uZ Mm=wk at has hE;have hbl:=Li sn lb rn mK;rw [jI sn lb rn mK] at hbl;generalize hB:(f sn lb && !f lb sn)=B at hbl;obtain ⟨mk,ma,mlo,mhi,mmo,mnm,mes⟩:=m;simp only at hE;refine cP Wp Yd ?_;refine dI ?_;refine cD ael has ?_;refine br ?_ ?_<;>intro c1
   ·have c1:¬ mk=wk:=sU c1;rw [af c1] at hE;rw [JC _ (by simp) hE];exact ⟨_,ax,rfl⟩
   have c1:mk=wk:=sU c1;rw [zIfP c1] at hE;refine dI ?_;refine cD en45 PT ?_;refine cD aem hbl ?_;refine br ?_ ?_<;>intro c2
   ·have c2:B=false:=sU c2;rw [af (by rw [hB,c2];simp)] at hE;rw [JC _ (by simp) hE];exact ⟨_,ax,rfl⟩
   ·have c2:B=true:=sU c2;rw [zIfP (by rw [hB,c2])] at hE;exact rE ⟨_,by omega,k + 1,rfl,by omega,xF (by rw [hE]),rfl⟩ (ej 1 (ng (nxt il (by omega))) (wB1 (nxt il (by omega))))
  ·have hge:k=d.bK.length:=by have:=n7;simp at this;omega
   subst hge;exact rE ⟨_,by omega,e + 1,rfl,by omega,by rw [hno,uu,List.drop_length,effEs,zIfP rfl],rfl⟩ (ej 1 (ng (nxt az (by omega))) (wB1 (nxt az (by omega))))
 ·have hge:e=ND.length:=by have:=hL;simp at this;omega
  subst hge;rw [hno,List.drop_length,effN];exact ⟨_,ax,rfl⟩
def OfΦ (S:Sch) (r:DV):Prop:=∃ p:DV,r = .bo [p,.v (.int .i64 (Mn S).1),(Mn S).2.d]/\(((Mn S).1≠0/\p = .v (.pointer none))∨((Mn S).1=0/\∃ PC,nK S (aV S) PC/\p = .pt PC 0))
theorem qD (S:Sch) (hS:S.wt<=1099511627776):Ev prog 15 [.agg (dt S)] [] [] (fun r _ _=>OfΦ S r):=by
 have hb:=(K0 S hS).mono (Ψ:=fun r _ _=>T9 S r) fun _ _ _ h=>PY hS h;have hst:Mn S=if (jf S).1=0 then (if (chkA (depN (aV S) (aV S).length) (aV S)).1=0 then (if (px (oH S) (aV S)).1=0 then (0,(0,0)) else (4,px (oH S) (aV S))) else (3,chkA (depN (aV S) (aV S).length) (aV S))) else (2,jf S):=rfl
 unfold OfΦ;generalize Mn S=ST at hst ⊢;obtain ⟨ae,order,types,⟨rh,rp⟩⟩:=S;refine eG 30 [.tmp 2,.tmp 3,.cell 4 26] func15 rfl ntmps15 rfl fun _ _ _ _=>?_;refine bZ en26 rfl hb ax (fun r hr=>?_);rcases hr with ⟨h0,rfl⟩ | ⟨h0,PC,hP,rfl⟩
 ·rw [af h0] at hst;rw [hst];generalize jf ⟨ae,order,types,.mk rh rp⟩=R at h0 ⊢;refine br (fun _=>?_) (fun g=>absurd (show R.1=0 by simpa using g) h0);refine dS ?_;exact ⟨.bo [.v (.pointer none),.v (.int .i64 2),Ft.d R],ax,_,rfl,.inl ⟨by simp,rfl⟩⟩
 ·rw [zIfP h0] at hst;obtain ⟨LC,PT,hR⟩:=hP.latR;have h1:=Gt hP;have h2:=effcheck_spec hP PT hR hP.esz;generalize chkA (depN (aV ⟨ae,order,types,.mk rh rp⟩) (aV ⟨ae,order,types,.mk rh rp⟩).length) (aV ⟨ae,order,types,.mk rh rp⟩)=R1 at h1 hst;have hz:(px (oH ⟨ae,order,types,.mk rh rp⟩) (aV ⟨ae,order,types,.mk rh rp⟩)).1=0->px (oH ⟨ae,order,types,.mk rh rp⟩) (aV ⟨ae,order,types,.mk rh rp⟩)=(0,0):=EH;generalize px (oH ⟨ae,order,types,.mk rh rp⟩) (aV ⟨ae,order,types,.mk rh rp⟩)=R2 at h2 hst hz;refine cP en40 h1 ?_;refine br ?_ ?_<;>intro g
  ·have g:¬ R1.1=0:=sU g;rw [af g] at hst;rw [hst];refine dS ?_;exact ⟨.bo [.v (.pointer none),.v (.int .i64 3),Ft.d R1],ax,_,rfl,.inl ⟨by simp,rfl⟩⟩
  have g:R1.1=0:=sU g;rw [zIfP g] at hst;refine cP en41 h2 ?_;refine br ?_ ?_<;>intro g
  ·have g:¬ R2.1=0:=sU g;rw [af g] at hst;rw [hst];refine dS ?_;exact ⟨.bo [.v (.pointer none),.v (.int .i64 4),Ft.d R2],ax,_,rfl,.inl ⟨by simp,rfl⟩⟩
  have g:R2.1=0:=sU g;rw [zIfP g] at hst;rw [hst,hz g];refine dS ?_;exact ⟨.bo [.pt PC 0,.v (.int .i64 0),Ft.d (0,0)],ax,_,rfl,.inr ⟨rfl,PC,hP,rfl⟩⟩
abbrev tA:ByteArray:=⟨#[114,111,111,116,40,49,41]⟩
abbrev tB:ByteArray:=⟨#[108,101,118,101,108,115,32,123,97,125,32,114,111,111,116,32,98,111,111,108]⟩
abbrev ahY:ByteArray:=⟨#[40]⟩
abbrev ahZ:ByteArray:=⟨#[41]⟩
abbrev nmA:ByteArray:=⟨#[97]⟩
def lA:List gZ:=[⟨1,0,4,cm,0⟩,⟨4,4,5,ahY,0⟩,⟨2,5,6,aM,1⟩,⟨4,6,7,ahZ,0⟩]
def lB:List gZ:=[⟨1,0,6,bL,0⟩,⟨4,7,8,bE,0⟩,⟨1,8,9,nmA,0⟩,⟨4,9,10,aS,0⟩,⟨1,11,15,cm,0⟩,⟨1,16,20,xO,0⟩]
theorem JD {s:ByteArray} (hs:s.size<=1099511627776) {i e:Nat} (hi:i < s.size) (he:i + bc (s.data.toList.drop i)=e) (hn:i < e) {M:ByteArray} (hM:s.extract i e=M) (hr:bM M=true) :
  aR prog 244 [.v (.string s),.v (.int .i64 i)] (UA ⟨1,i,e,M,0⟩):=by
 subst hM;exact LF s hs i hi e he hn hr
theorem acM:aR prog 291 [.v (.string tA),.v (.int .i64 (5:Nat))] (.bo [.v (.int .i64 1),.v (.int .i64 (6:Nat)),Ft.d (0,0)]):=by
 have h:=Ud tA (by decide) 5 (by decide) 49 (by decide +kernel) (by decide) (fun h=>absurd h (by decide)) (by decide +kernel);rw [show cd ((tA.data.toList.drop 5).take (digN (tA.data.toList.drop 5)))=1 by decide +kernel,show 5 + digN (tA.data.toList.drop 5)=6 by decide +kernel] at h;exact h
theorem acN:oQ tA 0 lA:=
 .tok (e:=4) (by decide) (by decide +kernel) (by decide +kernel) (JD (by decide) (by decide) (by decide +kernel) (by decide) (by decide +kernel) (by decide +kernel)) rfl (by decide) (by decide)
 (.tok (e:=5) (by decide) (by decide +kernel) (by decide +kernel) (oP tA (by decide) 4 (by decide) (by decide +kernel) ahY (by decide +kernel) (by decide) (by decide)) rfl (by decide) (by decide)
 (.tok (e:=6) (by decide) (by decide +kernel) (by decide +kernel) (Ql tA (by decide) 5 (by decide) (by decide +kernel) (by decide +kernel) (by decide +kernel) 1 6 acM) rfl (by decide) (by decide)
 (.tok (e:=7) (by decide) (by decide +kernel) (by decide +kernel) (oP tA (by decide) 6 (by decide) (by decide +kernel) ahZ (by decide +kernel) (by decide) (by decide)) rfl (by decide) (by decide) .nil)))
theorem acO:oQ tB 0 lB:=
 .tok (e:=6) (by decide) (by decide +kernel) (by decide +kernel) (JD (by decide) (by decide) (by decide +kernel) (by decide) (by decide +kernel) (by decide +kernel)) rfl (by decide) (by decide)
 (.blank (by decide) (by decide +kernel)
 (.tok (e:=8) (by decide) (by decide +kernel) (by decide +kernel) (oP tB (by decide) 7 (by decide) (by decide +kernel) bE (by decide +kernel) (by decide) (by decide)) rfl (by decide) (by decide)
 (.tok (e:=9) (by decide) (by decide +kernel) (by decide +kernel) (JD (by decide) (by decide) (by decide +kernel) (by decide) (by decide +kernel) (by decide +kernel)) rfl (by decide) (by decide)
 (.tok (e:=10) (by decide) (by decide +kernel) (by decide +kernel) (oP tB (by decide) 9 (by decide) (by decide +kernel) aS (by decide +kernel) (by decide) (by decide)) rfl (by decide) (by decide)
 (.blank (by decide) (by decide +kernel)
 (.tok (e:=15) (by decide) (by decide +kernel) (by decide +kernel) (JD (by decide) (by decide) (by decide +kernel) (by decide) (by decide +kernel) (by decide +kernel)) rfl (by decide) (by decide)
 (.blank (by decide) (by decide +kernel)
 (.tok (e:=20) (by decide) (by decide +kernel) (by decide +kernel) (JD (by decide) (by decide) (by decide +kernel) (by decide) (by decide +kernel) (by decide +kernel)) rfl (by decide) (by decide) .nil))))))))
abbrev cuA:au:=jX (lA ++ [jb 7])
abbrev cuB:au:=jX (lB ++ [jb 20])
theorem Vn:aw cuA:=xg lA 7 (by decide)
theorem Mp:aw cuB:=xg lB 20 (by decide)
abbrev VM:au:=⟨lA ++ [jb 7],0,0,4,0⟩
theorem Vo:aw VM:=⟨Vn.lt,Vn.nx,Vn.len,Vn.dl⟩
theorem Vp:Ev prog 86 [iQ] [aH cuA] [] (kV (.agg (dt ⟨[],[],[],NV 0 0⟩)) VM):=by
 have hk:cuA.kw bL=VM:=rfl;have hn:(cuA.kw bL).ah bE=VM:=by rw [hk];exact cQ (by decide) _
 refine A7 cuA Vn 5 (by rw [hk];decide) VM [] Vo (by rw [hn];rfl) (fG (by decide) (by decide) _) (fG (by decide) (by decide) _) 0 0 VM ?_;rw [A3 (by decide)];exact Uj VM Vo (by decide) (by decide)
theorem Yi:aR prog 35 [.v (.string tA)] (.bo [.agg (dt Gr),Ft.d (4,0)]):=
 xf tA _ (Ee tA (by decide) lA acN) _ VM VM (4,0) Vp (OB VM Vo (by decide))
abbrev cB3:au:=⟨lB ++ [jb 20],4,0,0,0⟩
abbrev cB4:au:=⟨lB ++ [jb 20],5,0,0,0⟩
abbrev cB5:au:=⟨lB ++ [jb 20],6,0,0,0⟩
theorem ah1:aw cB3:=⟨by decide,Mp.nx,Mp.len,by decide⟩
theorem ah2:aw cB4:=⟨by decide,Mp.nx,Mp.len,by decide⟩
theorem ah3:aw cB5:=⟨by decide,Mp.nx,Mp.len,by decide⟩
abbrev sB:Sch:=⟨[⟨nmA,8⟩],[],[],NV 1 16⟩
theorem Vq:Ev prog 86 [iQ] [aH cuB] [] (kV (.agg (dt sB)) cB5):=by
 refine A7 cuB Mp 6 (by decide +kernel) cB3 [⟨nmA,8⟩] ah1 (by rfl) (by decide +kernel) (by decide +kernel) 1 16 cB5 ?_;rw [show cB3.kw cm=cB4 from rfl];exact Qa cB4 ah2 16 20 0 rfl (by decide)
theorem Yj:aR prog 35 [.v (.string tB)] (.bo [.agg (dt sB),Ft.d (0,0)]):=
 xf tB _ (Ee tB (by decide) lB acO) _ cB5 cB5 (0,0) Vq (Vl cB5 ah3 rfl rfl)
theorem acP:aR prog 11 [.v (.string tA)] (.bo [.v (.pointer none),.v (.int .i64 1),Ft.d (4,0)]):=by
 have hp:=Yi;refine eG 21 [.tmp 2,.tmp 3,.cell 4 26] func11 rfl ntmps11 rfl fun _ _ _ _=>?_;refine cP Wo hp ?_;refine dS ?_;exact ⟨_,ax,rfl⟩
theorem st_B:Mn sB=(0,0,0):=by decide +kernel
theorem acQ:Ev prog 11 [.v (.string tB)] [] [] (fun r _ _=>∃ PC,r = .bo [.pt PC 0,.v (.int .i64 0),Ft.d (0,0)]):=by
 have hp:=Yj;have ho:=qD sB (by decide);refine eG 21 [.tmp 2,.tmp 3,.cell 4 26] func11 rfl ntmps11 rfl fun _ _ _ _=>?_;refine cP Wo hp ?_;refine bZ ad7 rfl ho ax (fun r hr=>?_);obtain ⟨p,rfl,hp⟩:=hr;rw [st_B] at hp ⊢;rcases hp with ⟨h,_⟩ | ⟨_,PC,_,rfl⟩
 ·exact absurd rfl h
 ·exact ⟨.bo [.pt PC 0,.v (.int .i64 0),Ft.d (0,0)],ax,PC,rfl⟩
theorem Gu:aR prog 10 [] (.v (.bool true)):=by
 have hA:=acP;have hB:=acQ;refine eG 32 [.tmp 0] func10 rfl ntmps10 rfl fun _ _ _ _=>?_;refine cP aaQ hA ?_;refine bZ aaQ rfl hB ax (fun r hr=>?_);obtain ⟨PC,rfl⟩:=hr;exact (rfl:_=_)
end Go.Proofs.YtfdedoiiahbnnaaGreat
