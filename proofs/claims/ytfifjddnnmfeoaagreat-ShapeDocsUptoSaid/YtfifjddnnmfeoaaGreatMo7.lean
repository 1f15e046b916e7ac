/- Part 7 of the proof: How what is seen of values is written: the program's plain, word, of; Reading of values whose numbers are ints, and of arrays of two; What is known of values that are written; how long their texts are: plain; How what is seen of values is written: the program's write; A text's first units: the document's Head, the program's heads, floors; The numbers of a plan's nodes are ints; The least depths of the values of a plan's nodes: plain; The program's nodes, least depths; A region that draws its order, in which a new object may come at any time among calls: its run with the object made at each of these times serves every order; Where steps lead: the document's Edge, Walk; the program's; The program's way along steps: fits, step, Walk; The document's least depths; fine; the chapter's example; The program's Depths; The law of least depths: fine, the example, the call returns true; With which schemas nothing is wrong: the document's Wrong of chapters 20, 21; the law's fine; Which levels see a place: the program's Who; A region that draws its order, run by a schedule: at each point all that may come and has an effect is tried; The document's rows of an audit: With, Under, How, Rows; The document's Fits; What is seen of a value: the document's Edge, Coarse, Erase, Seen; How what is seen of values is written: Compact; the document's open, end, Text; How what is seen of values is written: the document's Text; what is seen may be written; Documents: plain (as values); the program's Text, Line, Soft, Cat, Nest, Group; What is seen of a value: the program's look, sees, coarsely, edge, coarse; Paths of a value: plain; tree.steps; Where steps lead in a value, and that value with another one there: plain; Rules for the evaluator: calls that hand back fresh rows; Rules for the evaluator: elements of rows whose cells nobody else knows, read and written whole; tree: slices.Index of steps, kid, clone, Get; tree.write, Raw; Written values: well formed; the document's Same on the same value; its Raw; The document's Kid, Get, Set of a value that fits; The document's Same of values, Set; ref25.Paths; The document's rows of an audit; All rows of an audit, by the document; the law's bounds; Alike, differ: the document's; What is seen of a value: the program's erase, Erase, Hidden; Which values may be what is seen of one: shell, May, outer, plain, the document's May; Which values may be what is seen of one: the program's fits, Fits, the document's Fits, Seeable; The law of what may be seen; What is seen may be written; the example of chapter 33; the laws of Leaf and Compact; The example of chapter 33; the laws of Leaf and Compact: the calls return true. No condition. -/
import Derived.OpenShut
import Derived.Test.YtfifjddnnmfeoaaGreatMo2
import Derived.Test.YtfifjddnnmfeoaaGreatMo3
import Derived.Test.YtfifjddnnmfeoaaGreatMo4
import Derived.Test.YtfifjddnnmfeoaaGreatMo5
import Derived.Test.YtfifjddnnmfeoaaGreatMo6
set_option linter.all false
set_option maxRecDepth 100000
namespace Go.Proofs.YtfifjddnnmfeoaaGreat
open Go Go.RowKit Dv Tryz
namespace Dv
section
variable {X:Ctx} {st:St} {k:List It}
theorem Ov {o:Oper} {t d e:Nat} {x:Operand} {es:List (List DV)} {tk:Option Nat} {n et e' jP:Nat} {bb:Bool} {z:List Value} (kK:∃ t',o.op = .binOp .neq t x (.const (.slice none 0 0)) t') (gW:o.dst=some d) (hx:rv st [] x=some (.sl e es tk)) (aN:es ≠ []) (hT:X.T.find t=some ⟨n,bb,.sl et e' jP,z⟩) (hd:fi X.nt st.sl (some d)=true)
  (hk:go X 4000 k ⟨(d,⟨[],.v (.bool true)⟩) :: st.sl,st.bx,st.tk⟩):IQ X o k st:=by
 intro E a w h;obtain ⟨t',kK⟩:=kK;have e1:=aQ h.rl hx;unfold Rv at e1;obtain ⟨b,m,cap,e1,⟨rfl,_⟩,hr,_⟩:=e1;obtain ⟨hu,_⟩:=eB X.hT hT;have aH:=vB hu b es.length cap w;have hb:b.isNone=false:=by rw [mA (hr aN).1];all_goals rfl
 have bZ:(execOp a.eval o).run X.P w = .ok (.value (.bool true)) w:=by
  have hc:a.eval (.const (.slice none 0 0)) = .slice none 0 0:=rfl;rw [hb] at aH;simp [execOp,kK,e1,hc,eqGuard,binOp,aH]
 refine ir bZ ?_;rw [gW];exact go_sound 4000 _ _ hk E _ w (aV h hd (.v (.bool true)) _ (by unfold Rv;exact ⟨rfl,rfl⟩))
theorem Gu {o:Oper} {t d et e' jP n:Nat} {x:Operand} {bb:Bool} {z:List Value} (kK:∃ t',o.op = .binOp .neq t x (.const (.slice none 0 0)) t') (gW:o.dst=some d) (hx:rv st [] x=some (.v (.slice none 0 0))) (hT:X.T.find t=some ⟨n,bb,.sl et e' jP,z⟩) (hd:fi X.nt st.sl (some d)=true)
  (hk:go X 4000 k ⟨(d,⟨[],.v (.bool false)⟩) :: st.sl,st.bx,st.tk⟩):IQ X o k st:=by
 intro E a w h;obtain ⟨t',kK⟩:=kK;have e1:=aQ h.rl hx;unfold Rv at e1;obtain ⟨hu,_⟩:=eB X.hT hT;have aH:=vB hu none 0 0 w
 have bZ:(execOp a.eval o).run X.P w = .ok (.value (.bool false)) w:=by
  have hc:a.eval (.const (.slice none 0 0)) = .slice none 0 0:=rfl;simp [execOp,kK,e1.1,hc,eqGuard,binOp,aH]
 refine ir bZ ?_;rw [gW];exact go_sound 4000 _ _ hk E _ w (aV h hd (.v (.bool false)) _ (by unfold Rv;exact ⟨rfl,rfl⟩))
end
end Dv
theorem qA (v:Val):EvP Tryz.prog 139 [.agg (aU v)] (.v (.bool (decide (v.k < 5) || decide (8 < v.k)))):=by
 obtain ⟨k,n,s,ks⟩:=v;refine ev_go (P:=Tryz.prog) tt tt_ok 5000 11 [.tmp 2] Tryz.func139 rfl Tryz.ntmps139 rfl (nL rfl) (fun E9 w9 hn9 hm9=>?_);refine (congrArg (fun b=>DV.v (.bool b)) ?_:_=_);simp only [aj,Val.k];rfl
section
variable {d:Nd} {v:Val}
theorem opn_1 (h:v.k=1) (g:v.n=1):cS d v=[116,114,117,101]:=by rw [cS,if_pos h,if_pos g]
theorem Gv (h:v.k=1) (g:¬ v.n=1):cS d v=[102,97,108,115,101]:=by rw [cS,if_pos h,if_neg g]
theorem opn_4 {x:ByteArray} (h:v.k=4) (g:d.af[v.n.toNat]? = some x):cS d v=tx x:=by rw [cS,if_neg (by omega),if_pos h,g]
theorem opn_5 (h:v.k=5):cS d v=[91]:=by rw [cS,if_neg (by omega),if_neg (by omega),if_pos h]
theorem opn_6 (h:v.k=6):cS d v=if v.ks=[] then [110,111,110,101] else [115,111,109,101,40]:=by rw [cS,if_neg (by omega),if_neg (by omega),if_neg (by omega),if_pos h]
theorem Gw (h:v.k=6) (g:v.ks=[]):cS d v=[110,111,110,101]:=by rw [opn_6 h,if_pos g]
theorem Gx (h:v.k=6) (g:v.ks ≠ []):cS d v=[115,111,109,101,40]:=by rw [opn_6 h,if_neg g]
theorem opn_7 (h:v.k=7):cS d v=[123]:=by rw [cS,if_neg (by omega),if_neg (by omega),if_neg (by omega),if_neg (by omega),if_pos h]
theorem opn_8 {e:Ed} (h:v.k=8) (g:d.au[v.n.toNat]? = some e):cS d v=if v.ks=[] then tx e.name else tx e.name ++ [40]:=by
 rw [cS,if_neg (by omega),if_neg (by omega),if_neg (by omega),if_neg (by omega),if_neg (by omega),if_pos h,nmE,g]
theorem Gy {e:Ed} (h:v.k=8) (g:d.au[v.n.toNat]? = some e) (c:v.ks=[]):cS d v=tx e.name:=by rw [opn_8 h g,if_pos c]
theorem Gz {e:Ed} (h:v.k=8) (g:d.au[v.n.toNat]? = some e) (c:v.ks ≠ []):cS d v=tx e.name ++ [40]:=by rw [opn_8 h g,if_neg c]
theorem zl (h:v.k≠1/\v.k≠4/\v.k≠5/\v.k≠6/\v.k≠7/\v.k≠8):cS d v=dH v:=by
 rw [cS,if_neg h.1,if_neg h.2.1,if_neg h.2.2.1,if_neg h.2.2.2.1,if_neg h.2.2.2.2.1,if_neg h.2.2.2.2.2]
theorem end_5 (h:v.k=5):fh v=[93]:=by rw [fh,if_pos h]
theorem end_7 (h:v.k=7):fh v=[125]:=by rw [fh,if_neg (by omega),if_pos h]
theorem SC (h:v.k≠5/\v.k≠7):fh v=if v.ks=[] then [] else [41]:=by rw [fh,if_neg h.1,if_neg h.2]
theorem DW (h:v.k≠5/\v.k≠7) (g:v.ks=[]):fh v=[]:=by rw [SC h,if_pos g]
theorem SD (h:v.k≠5/\v.k≠7) (g:v.ks ≠ []):fh v=[41]:=by rw [SC h,if_neg g]
end
theorem sR (d:Nd) (v:Val) (hs:v.s.size<=1099511627776) (hn:uX v.n) (hk:v.k<=4∨9<=v.k) (h4:v.k=4->0<=v.n/\v.n < d.af.length) :
  EvP Tryz.prog 140 [.agg (jR d),.agg (aU v)] (.v (.string (ba (cS d v)))):=by
 have hl:=DT v hs hn;have o1:=@opn_1 d v;have o2:=@Gv d v;have o3:=fun x=>@opn_4 d v x;have o4:=@zl d v;generalize cS d v=O at *;generalize dH v=S at *;generalize bS v=B at *;obtain ⟨ag,aC,lo,hi,most,af,es⟩:=d;obtain ⟨k,n,s,ks⟩:=v;simp only [Val.k,Val.n] at *;refine ev_go (P:=Tryz.prog) tt tt_ok 5000 28 [.tmp 4] Tryz.func140 rfl Tryz.ntmps140 rfl (nL rfl) (fun E9 w9 hn9 hm9=>?_);refine br (fun c=>?_) (fun c=>?_)
 ·have c:k=1:=by simpa using c
  refine br (fun g=>?_) (fun g=>?_)
  ·rw [o1 c (by simpa using g)];exact (rfl:_=_)
  ·rw [o2 c (by simpa using g)];exact (rfl:_=_)
 have c1:¬ k=1:=by simpa using c
 refine br (fun c=>?_) (fun c=>?_)
 ·have c4:k=4:=by simpa using c
  obtain ⟨h0,h1⟩:=h4 c4;obtain ⟨x,hx⟩:∃ x,af[n.toNat]? = some x:=⟨_,gE (by omega)⟩;rw [o3 x c4 hx];refine ⟨_,⟨by omega,eX hx⟩,?_⟩;exact congrArg (fun q=>DV.v (.string q)) (oe x).symm
 have c4:¬ k=4:=by simpa using c
 rw [o4 (by omega)];refine call_p en27 (hl) ax rfl ?_;exact (rfl:_=_)
def tosL (d:Nd) (v:Val) (m:Nat):List Int:=(List.range m).map fun j=>match cd d v.n j with | some e=>e.to | none=>0
theorem Ow (d:Nd) (v:Val) (m:Nat):(tosL d v m).length=m:=by simp [tosL]
theorem DX {d:Nd} {v:Val} {m j:Nat} {e:Ed} (h:cd d v.n j=some e) (hj:j < m):(tosL d v m)[j]? = some e.to:=by
 simp [tosL,hj,h]
theorem Kp {d:Nd} {v:Val} {m:Nat} {e:Ed} (h:cd d v.n m=some e):tosL d v (m + 1)=tosL d v m ++ [e.to]:=by
 simp [tosL,List.range_succ,h]
def xV (d:Nd) (m:Nat):List (List UInt8):=(d.au.take m).map fun e=>tx e.name ++ [58,32]
theorem Ox {d:Nd} {m:Nat} {e:Ed} (h:d.au[m]? = some e):xV d (m + 1)=xV d m ++ [tx e.name ++ [58,32]]:=by
 simp [xV,List.take_add_one,h]
def zm (d:Nd):DV:=if d.ag=7 then .sl 1 (jz (xV d d.au.length)) none else .v (.slice none 0 0)
abbrev zF:List DV:=[.v (.string al),.v (.string al),.v (.slice none 0 0)]
abbrev GA (d:Nd) (v:Val) (l:List Int) (q e:Nat):St:=
 ⟨[(2,⟨[],.loc 0 0⟩),(3,⟨[],.loc 1 0⟩),(4,⟨[],.loc 2 0⟩),(6,⟨[],.loc 3 0⟩),(7,⟨[],.sl 1 (nS l) (some 0)⟩),(14,⟨[],.v (.int .i64 (dVals v.ks).length)⟩),(15,⟨[],.v (.int .i64 e)⟩)],[jR d,aU v,zF,zF],[⟨q,3,1,none⟩]⟩
abbrev Oy (d:Nd) (v:Val) (l:List Int) (q u:Nat):St:=
 ⟨[(2,⟨[],.loc 0 0⟩),(3,⟨[],.loc 1 0⟩),(4,⟨[],.loc 2 0⟩),(6,⟨[],.loc 3 0⟩),(7,⟨[],.sl 1 (nS l) (some 0)⟩),(54,⟨[],.sl 10 (fv d.au) none⟩),(55,⟨[],.v (.int .i64 (fv d.au).length)⟩),(56,⟨[],.v (.int .i64 u)⟩)],
  [jR d,aU v,zF,[.v (.string (ba [123])),.v (.string (ba [125])),.sl 1 (jz (xV d u)) (some 1)]],[⟨q,3,1,none⟩,⟨u,9,1,none⟩]⟩
theorem IC (d:Nd) (m:Nat) (h:m<=d.au.length):(xV d m).length=m:=by simp [xV];omega
theorem A4 (x:ByteArray) (l:List UInt8):x ++ ba l=ba (tx x ++ l):=(congrArg (·++ ba l) (oe x)).symm.trans (bU (tx x) l)
theorem zn {L N:Nat} {d:Nd} (hN:dI L N d) (h5:5<=d.ag) (v:Val) (hv:v.wt<=1099511627776) (hk:v.k=d.ag) (Oz:∀ m,m < v.ks.length->∃ e,cd d v.n m=some e) (h8:d.ag=8->0<=v.n/\v.n < d.au.length) :
  EvP Tryz.prog 141 [.agg (jR d),.agg (aU v)] (.tup [.agg [.v (.string (ba (cS d v))),.v (.string (ba (fh v))),zm d],.sl 1 (nS (tosL d v v.ks.length)) none]):=by
 have Er:=hN.k8;have sO:=hN.many;have o5:=@opn_5 d v;have o6n:=@Gw d v;have o6s:=@Gx d v;have o7:=@opn_7 d v;have o8n:=fun e=>@Gy d v e;have o8s:=fun e=>@Gz d v e;have e5:=@end_5 v;have e7:=@end_7 v;have en:=@DW v;have es9:=@SD v;have hn7:d.ag=7->zm d = .sl 1 (jz (xV d d.au.length)) none:=fun h=>by rw [zm,if_pos h]
 have hnn:d.ag≠7->zm d = .v (.slice none 0 0):=fun h=>by rw [zm,if_neg h]
 have hts:=fun m e=>@Kp d v m e;have eJ:=Ow d v;have su:=fun m e=>@Ox d m e;have gI:=IC d
 have hed1:∀ m e,cd d v.n m=some e->d.au[(if d.ag=7 then (m:Int) else if d.ag=8 then v.n else 0).toNat]? = some e:=fun m e h=>by
  unfold cd at h;split at h
  ·rename_i c;rw [if_pos c];exact h
  ·rename_i c;rw [if_neg c];split at h
   ·rename_i c8;rw [if_pos c8];exact h
   ·rename_i c8;rw [if_neg c8];exact h
 have kj:=cE d.au;generalize cS d v=O at *;generalize fh v=Z at *;generalize zm d=ND at *;have ht0:tosL d v 0=[]:=rfl;have jS:xV d 0=[]:=rfl;generalize tosL d v=T at *;generalize Kq:xV d=NM at *;have Kr:d.ag=7∨d.ag=8->∀ e∈d.au,e.name.size<=32:=fun h e he=>eY ((sO h).2.2.2 e he);obtain ⟨ag,aC,lo,hi,most,af,es⟩:=d;obtain ⟨k,n,s,ks⟩:=v;have cH:=aW ks;have iL:=dC ks;rw [Val.wt] at hv;simp only [Val.k,Val.n,Val.ks] at *;subst hk;refine ev_go (P:=Tryz.prog) tt tt_ok 5000 90 [.cell 4 238,.tmp 5] Tryz.func141 rfl Tryz.ntmps141 rfl (nL rfl) (fun E9 w9 hn9 hm9=>?_);refine aq (fun j st=>∃ e:Nat,st=GA ⟨k,aC,lo,hi,most,af,es⟩ (.mk k n s ks) (T e) e e/\e<=ks.length/\j=ks.length - e) ks.length (GA ⟨k,aC,lo,hi,most,af,es⟩ (.mk k n s ks) [] 0 0) (dj 4 ⟨0,3,1,none⟩ rfl rfl rfl (by repeat' (first | exact rfl | exact ah rfl | exact aX (Nat.le_refl _) rfl | exact aX (Nat.le_refl _) rfl | refine ⟨_,_,rfl,?_,?_⟩)) rfl rfl zS) ⟨0,by rw [ht0],by omega,by omega⟩ ?_;rintro _ st ⟨e,rfl,he,rfl⟩;refine br (fun hL=>?_) (fun hL=>?_)
 ·have ap:e < ks.length:=by simpa [cH,Val.ks] using hL
  obtain ⟨ed,l5⟩:=Oz e ap;have uq:=hed1 e ed l5;have eE:nS (T e) ++ [[DV.v (.int .i64 ed.to)]]=nS (T (e + 1)):=by rw [hts e ed l5,qz]
  have A5:(nS (T e)).length=e:=by rw [kf,eJ]
  have iK:∃ j',j' < ks.length - e/\∃ e':Nat,GA ⟨k,aC,lo,hi,most,af,es⟩ (.mk k n s ks) (T (e + 1)) (e + 1) (e + 1)=GA ⟨k,aC,lo,hi,most,af,es⟩ (.mk k n s ks) (T e') e' e' /\ e' <= ks.length/\j'=ks.length - e':=⟨ks.length - (e + 1),by omega,e + 1,rfl,by omega,rfl⟩;have BZ:=(gS uq).1;refine br (fun c=>?_) (fun c=>?_)
  ·have c:k=7:=by simpa using c
   rw [if_pos c] at uq BZ;refine ⟨_,⟨by omega,bI uq⟩,?_⟩;refine ⟨A5,⟨by rw [A5];simp [maxLen];omega,by rw [A5];simp;omega⟩,?_⟩;obtain ⟨j',h1,h2⟩:=iK;exact ⟨GA ⟨k,aC,lo,hi,most,af,es⟩ (.mk k n s ks) (T (e + 1)) (e + 1) (e + 1),(az 4 rfl (yc ap eE) rfl rfl rfl (tg ap eE)),j',h1,h2⟩
  ·have c7:¬ k=7:=by simpa using c
   rw [if_neg c7] at uq BZ;refine br (fun c=>?_) (fun c=>?_)
   ·have c:k=8:=by simpa using c
    have h8:=h8 c;rw [if_pos c] at uq BZ;refine ⟨_,⟨by omega,bI uq⟩,?_⟩;refine ⟨A5,⟨by rw [A5];simp [maxLen];omega,by rw [A5];simp;omega⟩,?_⟩;obtain ⟨j',h1,h2⟩:=iK;exact ⟨GA ⟨k,aC,lo,hi,most,af,es⟩ (.mk k n s ks) (T (e + 1)) (e + 1) (e + 1),(az 4 rfl (yc ap eE) rfl rfl rfl (tg ap eE)),j',h1,h2⟩
   ·have c8:¬ k=8:=by simpa using c
    rw [if_neg c8] at uq BZ;refine ⟨_,⟨by simp at BZ;omega,bI uq⟩,?_⟩;refine ⟨A5,⟨by rw [A5];simp [maxLen];omega,by rw [A5];simp;omega⟩,?_⟩;obtain ⟨j',h1,h2⟩:=iK;exact ⟨GA ⟨k,aC,lo,hi,most,af,es⟩ (.mk k n s ks) (T (e + 1)) (e + 1) (e + 1),(az 4 rfl (yc ap eE) rfl rfl rfl (tg ap eE)),j',h1,h2⟩
 have aO:e=ks.length:=by
  have:=hL;simp [cH,Val.ks] at this;omega
 subst aO;refine br (fun c=>?_) (fun c=>?_)
 ·have c:k=5:=by simpa using c
  rw [hnn (by omega),o5 c,e5 c];exact ⟨_,ax,rfl⟩
 have c5:¬ k=5:=by simpa using c
 refine br (fun c=>?_) (fun c=>?_)
 ·have c:k=6:=by simpa using c
  rw [hnn (by omega)];refine br (fun g=>?_) (fun g=>?_)
  ·have g:ks ≠ []:=by rintro rfl;simp [cH] at g
   rw [o6s c g,es9 (by omega) g];exact ⟨_,ax,rfl⟩
  ·have g:ks=[]:=by simpa [cH] using g
   rw [o6n c g,en (by omega) g];exact ⟨_,ax,rfl⟩
 have c6:¬ k=6:=by simpa using c
 refine br (fun c=>?_) (fun c=>?_)
 ·have c:k=7:=by simpa using c
  rw [hn7 c,o7 c,e7 c];have jQ:=(sO (.inl c)).1;subst Kq;refine aq (fun j st=>∃ u:Nat,st=Oy ⟨k,aC,lo,hi,most,af,es⟩ (.mk k n s ks) (T ks.length) ks.length u/\u<=es.length/\j=es.length - u) es.length (Oy ⟨k,aC,lo,hi,most,af,es⟩ (.mk k n s ks) (T ks.length) ks.length 0) (dj 4 ⟨0,9,1,none⟩ rfl rfl rfl (by repeat' (first | exact rfl | exact ah rfl | exact aX (Nat.le_refl _) rfl | exact aX (Nat.le_refl _) rfl | refine ⟨_,_,rfl,?_,?_⟩)) rfl rfl zS) ⟨0,rfl,by omega,by omega⟩ ?_;rintro _ st ⟨u,rfl,hu,rfl⟩;refine br (fun hL=>?_) (fun hL=>?_)
  ·have ap:u < es.length:=by simpa [kj] using hL
   obtain ⟨x,hx⟩:∃ x,es[u]? = some x:=⟨_,gE ap⟩;have oA:=Kr (.inl c) x (mG hx);have dW:(jz (xV ⟨k,aC,lo,hi,most,af,es⟩ u)).length=u:=by rw [Jq,gI u (by omega)]
   have eE:jz (xV ⟨k,aC,lo,hi,most,af,es⟩ u) ++ [[DV.v (.string (x.name ++ ba [58,32]))]]=jz (xV ⟨k,aC,lo,hi,most,af,es⟩ (u + 1)):=by
    rw [su u x hx];simp only [jz,List.map_append,List.map_cons,List.map_nil];exact congrArg (fun q=>_ ++ [[DV.v (.string q)]]) (A4 _ _)
   refine ⟨_,⟨by omega,bI hx⟩,?_⟩;refine ⟨by show x.name.size + 2<=_;omega,?_⟩;refine ⟨dW,⟨by rw [dW];simp [maxLen];omega,by rw [dW];simp;omega⟩,?_⟩;exact ⟨Oy ⟨k,aC,lo,hi,most,af,es⟩ (.mk k n s ks) (T ks.length) ks.length (u + 1),(az 4 rfl (yc ap eE) rfl rfl rfl (tg ap eE)),es.length - (u + 1),by omega,u + 1,rfl,by omega,rfl⟩
  ·have aO:u=es.length:=by
    have:=hL;simp [kj] at this;omega
   subst aO;exact ⟨_,ax,rfl⟩
 have c7:¬ k=7:=by simpa using c
 have c8:k=8:=by omega
 refine br (fun _=>?_) (fun g=>absurd c8 (by simpa using g));have h8:=h8 c8;obtain ⟨x,hx⟩:∃ x,es[n.toNat]? = some x:=⟨_,gE (by omega)⟩;have oA:=Kr (.inr c8) x (mG hx);rw [hnn (by omega)];refine ⟨_,⟨by omega,bI hx⟩,?_⟩;refine br (fun g=>?_) (fun g=>?_)
 ·have g:ks ≠ []:=by rintro rfl;simp [cH] at g
  rw [o8s x c8 hx g,es9 (by omega) g,<- A4];refine ⟨by show x.name.size + 1<=_;omega,?_⟩;exact ⟨_,ax,rfl⟩
 ·have g:ks=[]:=by simpa [cH] using g
  rw [o8n x c8 hx g,en (by omega) g,oe];exact ⟨_,ax,rfl⟩
mutual
def rngW:Val->Prop
 | .mk k n _ ks=>uX k/\uX n/\rngWs ks
def rngWs:List Val->Prop
 | []=>True
 | v :: r=>rngW v/\rngWs r
end
theorem ik:∀ {l:List Val} {x:Val},rngWs l->x∈l->rngW x
 | v :: r,x,h,hm=>by
  rw [rngWs] at h;rcases List.mem_cons.1 hm with rfl | hm
  ·exact h.1
  ·exact ik h.2 hm
theorem GB {v:Val} (h:rngW v) : -9223372036854775808<=v.n/\v.n<=9223372036854775807:=by
 obtain ⟨k,n,s,ks⟩:=v;rw [rngW] at h;exact h.2.1
theorem ID {v:Val} (h:rngW v):rngWs v.ks:=by
 obtain ⟨k,n,s,ks⟩:=v;rw [rngW] at h;exact h.2.2
theorem IE {m:Nat} (ih:∀ k,k<=m->∀ ds,Typ Tryz.prog k 45 ds->∃ v:Val,ds=aU v/\rngW v/\v.wt<=wgL ds) :
  ∀ {es:List (List DV)},(∀ cs∈es,Typ Tryz.prog m 45 cs)->∃ l:List Val,es=dVals l/\rngWs l/\dJ l<=wgEs es
 | [],h=>⟨[],rfl,by simp [rngWs],by simp [dJ]⟩
 | cs :: r,h=>by
  obtain ⟨l,rfl,hr,hl⟩:=IE ih (es:=r) (fun c hc=>h c (List.mem_cons_of_mem _ hc));obtain ⟨v,rfl,hr2,hv⟩:=ih m (Nat.le_refl _) cs (h cs (by simp));exact ⟨v :: l,rfl,by rw [rngWs];exact ⟨hr2,hr⟩,by simp only [dJ,wgEs];omega⟩
theorem typ_valr:∀ (n:Nat) (ds:List DV),Typ Tryz.prog n 45 ds->∃ v:Val,ds=aU v/\rngW v/\v.wt<=wgL ds:=by
 intro n
 induction n using Nat.strongRecOn with
 | _ n ih=>
  intro ds h;obtain ⟨m,rfl,hf⟩:=lL Tryz.underlying45 h;obtain ⟨a1,b1,rfl,h1,a2,b2,rfl,h2,a3,b3,rfl,h3,a4,b4,rfl,h4,rfl⟩:=hf;obtain ⟨k,rfl,r1⟩:=kM h1;obtain ⟨z,rfl,r2⟩:=kM h2;obtain ⟨s,rfl⟩:=HN Tryz.underlying9 h3;obtain ⟨j,es,rfl,rfl,jQ⟩:=uZ Tryz.underlying43 h4;obtain ⟨l,rfl,r3,wl⟩:=IE (fun i hi=>ih i (by omega)) jQ;rw [Dp];refine ⟨.mk k z s l,rfl,by rw [rngW];exact ⟨r1,r2,r3⟩,?_⟩;simp only [Val.wt,eT,wgL,wgD] at *;omega
namespace Dv
end Dv
section
variable {ND:List Nd}
theorem la {v:Val} {i:Int} (h:jL ND v i=true):∃ d,dq ND i=some d/\((9<=v.k/\bS v=true/\v.ks=[])∨(v.k=d.ag/\d.ag < 5/\v.ks=[]/\(v.k=4->0<=v.n/\v.n < d.af.length))∨(v.k=d.ag/\5<=d.ag/\shellF d v=true/\gj ND v.ks d v.n 0=true)):=by
 obtain ⟨k,n,s,ks⟩:=v;unfold jL at h
 cases hd:dq ND i with
 | none=>rw [hd] at h;cases h
 | some d=>
  rw [hd] at h;refine ⟨d,rfl,?_⟩;simp only at h;split at h
  ·rename_i c;rw [Bool.and_eq_true,decide_eq_true_iff] at h;exact .inl ⟨c,h.1,h.2⟩
  ·split at h
   ·cases h
   ·rename_i c;have c:k=d.ag:=Decidable.not_not.1 c;split at h
    ·rename_i c5;rw [Bool.and_eq_true,Bool.or_eq_true,decide_eq_true_iff,decide_eq_true_iff,decide_eq_true_iff] at h;exact .inr (.inl ⟨c,c5,h.1,fun c4=>h.2.resolve_left (fun g=>g c4)⟩)
    ·rename_i c5;rw [Bool.and_eq_true] at h;exact .inr (.inr ⟨c,by omega,h.1,h.2⟩)
theorem shell_8 {d:Nd} {v:Val} (h:shellF d v=true) (h8:d.ag=8):0<=v.n/\v.n < d.au.length:=by
 unfold shellF at h;split at h
 ·cases h
 rw [if_neg (by omega),if_neg (by omega),if_neg (by omega)] at h;split at h
 ·cases h
 ·omega
theorem qB {d:Nd} {z:Int} {j:Nat} {e:Ed} (h:cd d z j=some e):e∈d.au:=by
 unfold cd at h;split at h
 ·exact mG h
 ·split at h<;>exact mG h
theorem QO (n:Nat):ku n ≠ []:=by
 by_cases h:n < 10
 ·rw [lI h];simp
 ·rw [pL h];simp
theorem QP (z:Int):iT z ≠ []:=by
 unfold iT;split
 ·simp
 ·exact QO _
theorem DY {v:Val} (h:bS v=true):dH v ≠ []:=by
 rw [dH,if_pos h];unfold oq
 repeat' split
 all_goals (first | exact QP _ | simp [oX])
theorem zo {v:Val} (hn:uX v.n) (h:bS v=true):(dH v).length<=88 + 12 * v.s.size:=by
 rw [dH,if_pos h];exact Kn hn h
theorem qC {L N:Nat} {d:Nd} {v:Val} (hN:dI L N d) (hn:uX v.n) (h:(9<=v.k/\bS v=true/\v.ks=[])∨(v.k=d.ag/\d.ag < 5/\v.ks=[]/\(v.k=4->0<=v.n/\v.n < d.af.length))∨(v.k=d.ag/\5<=d.ag/\shellF d v=true/\gj ND v.ks d v.n 0=true)) :
  cS d v ≠ []/\(cS d v).length<=88 + 12 * v.s.size:=by
 have mn:=hN.k1;have Er:=hN.k8;rcases h with ⟨h9,hb,_⟩ | ⟨hk,h5,_,h4⟩ | ⟨hk,h5,hs,_⟩
 ·rw [zl (by omega)];exact ⟨DY hb,zo hn hb⟩
 ·by_cases c1:v.k=1
  ·by_cases c:v.n=1
   ·rw [opn_1 c1 c];simp;omega
   ·rw [Gv c1 c];simp;omega
  by_cases c4:v.k=4
  ·obtain ⟨g0,g1⟩:=h4 c4;obtain ⟨x,hx⟩:∃ x,d.af[v.n.toNat]? = some x:=⟨_,gE (by omega)⟩;have bG:=(hN.af (by omega)).2.2.2 x (mG hx);have JP:=eY bG;have ki:0 < x.size:=by simp [aY] at bG;exact bG.1
   rw [opn_4 c4 hx];refine ⟨fun e=>?_,by rw [bm];omega⟩;have:=congrArg List.length e;rw [bm,List.length_nil] at this;omega
  ·rw [zl (by omega)]
   have hb:bS v=true:=by
    have:v.k=2∨v.k=3:=by omega
    rcases this with c | c<;>simp [bS,c]
   exact ⟨DY hb,zo hn hb⟩
 ·have:v.k=5∨v.k=6∨v.k=7∨v.k=8:=by omega
  rcases this with c | c | c | c
  ·rw [opn_5 c];simp;omega
  ·by_cases g:v.ks=[]
   ·rw [Gw c g];simp;omega
   ·rw [Gx c g];simp;omega
  ·rw [opn_7 c];simp;omega
  ·obtain ⟨g0,g1⟩:=shell_8 hs (by omega);obtain ⟨x,hx⟩:∃ x,d.au[v.n.toNat]? = some x:=⟨_,gE (by omega)⟩;have bG:=(hN.many (.inr (by omega))).2.2.2 x (mG hx);have JP:=eY bG;have ki:0 < x.name.size:=by simp [aY] at bG;exact bG.1
   have hl:=bm x.name;by_cases g:v.ks=[]
   ·rw [Gy c hx g];refine ⟨fun e=>?_,by omega⟩;rw [e,List.length_nil] at hl;omega
   ·rw [Gz c hx g];exact ⟨by simp,by rw [List.length_append,hl];simp;omega⟩
theorem tZ (v:Val):(fh v).length<=1:=by
 unfold fh
 repeat' split
 all_goals simp
end
section
variable {ND:List Nd} {L:Nat}
mutual
theorem nU (bG:∀ d∈ND,dI L ND.length d):∀ (v:Val) (i:Int),rngW v->jL ND v i=true->(textV ND v i).length + 36<=50 * v.wt
 | .mk k n s ks,i,hr,hw=>by
  obtain ⟨d,hd,hc⟩:=la hw;have hN:=bG d (mG (cO hd).2);rw [rngW] at hr;have h1:=(qC (v:=.mk k n s ks) hN hr.2.1 hc).2;have h2:=tZ (.mk k n s ks);have hs:(Val.mk k n s ks).s=s:=rfl;rw [hs] at h1;rw [textV,hd,Val.wt];simp only [List.length_append];rcases hc with ⟨_,_,h0⟩ | ⟨_,_,h0,_⟩ | ⟨_,h5,_,h0⟩
  ·have h0:ks=[]:=h0;subst h0;rw [textVs,dJ];simp only [List.length_nil];omega
  ·have h0:ks=[]:=h0;subst h0;rw [textVs,dJ];simp only [List.length_nil];omega
  ·have:=l6 bG ks d n 0 hN h5 hr.2.2 h0;omega
theorem l6 (bG:∀ d∈ND,dI L ND.length d):∀ (l:List Val) (d:Nd) (z:Int) (j:Nat),dI L ND.length d->5<=d.ag->rngWs l->gj ND l d z j=true->(textVs ND l d z j).length<=50 * dJ l
 | [],d,z,j,_,_,_,_=>by rw [textVs];exact Nat.zero_le _
 | x :: r,d,z,j,hN,h5,hr,hw=>by
  rw [gj,Bool.and_eq_true] at hw;rw [rngWs] at hr;rw [textVs,dJ]
  cases he:cd d z j with
  | none=>rw [he] at hw;exact absurd hw.1 (by simp)
  | some e=>
   rw [he] at hw;have h1:=nU bG x e.to hr.1 hw.1;have h2:=l6 bG r d z (j + 1) hN h5 hr.2 hw.2
   have h3:(if d.ag=7 then tx e.name ++ [58,32] else []).length<=34:=by
    split
    ·rename_i c;have:=eY ((hN.many (.inl c)).2.2.2 e (qB he));rw [List.length_append,bm];simp;omega
    ·simp
   have h4:(if j=0 then [] else [44,32]:List UInt8).length<=2:=by split<;>simp
   simp only [List.length_append];omega
end
theorem sa:∀ {ks:List Val} {e:Nat} {x:Val},ks[e]? = some x->dJ (ks.take e) + x.wt<=dJ ks
 | [],e,x,h=>by simp at h
 | y :: r,e,x,h=>by
  cases e with
  | zero=>
   simp only [List.getElem?_cons_zero,oI] at h;subst h;rw [List.take_zero,dJ,dJ];omega
  | succ e=>
   have:=sa (ks:=r) (e:=e) (x:=x) (by simpa using h);rw [List.take_succ_cons,dJ,dJ];omega
theorem A6:∀ (ks:List Val) (e:Nat),dJ (ks.take e)<=dJ ks
 | [],e=>by rw [List.take_nil];exact Nat.le_refl _
 | y :: r,0=>by rw [List.take_zero,dJ];exact Nat.zero_le _
 | y :: r,e + 1=>by
  have:=A6 r e;rw [List.take_succ_cons,dJ,dJ];omega
theorem wI:∀ {ks:List Val} {d:Nd} {z:Int} {j:Nat} (e:Nat),gj ND ks d z j=true->gj ND (ks.take e) d z j=true
 | [],_,_,_,e,h=>by rw [List.take_nil];exact h
 | y :: r,_,_,_,0,h=>by rw [List.take_zero,gj]
 | y :: r,d,z,j,e + 1,h=>by
  rw [gj,Bool.and_eq_true] at h;rw [List.take_succ_cons,gj,Bool.and_eq_true];exact ⟨h.1,wI e h.2⟩
theorem wJ:∀ {ks:List Val} (e:Nat),rngWs ks->rngWs (ks.take e)
 | [],e,h=>by rw [List.take_nil];exact h
 | y :: r,0,h=>by rw [List.take_zero,rngWs];trivial
 | y :: r,e + 1,h=>by
  rw [rngWs] at h;rw [List.take_succ_cons,rngWs];exact ⟨h.1,wJ e h.2⟩
end
abbrev bO (p:DV) (l:List UInt8):List DV:=[p,.sl 1 (bD l) (some 0)]
abbrev bT (l:List UInt8):List TkE:=[⟨l.length,5,1,none⟩]
def U2 (y:Val) (l:List UInt8) (r:DV) (os:List (List DV)) (cI:List TkE):Prop:=r = .tup []/\os=[aU y,bO (.loc 1 0) l]/\cI=bT l
abbrev zp (y:Val) (PC:List DV) (d:Nd) (v:Val) (O Z:List UInt8) (NM:DV) (T:List Int) (L:List UInt8) (e:Nat):St:=
 ⟨[(0,⟨[],.loc 1 0⟩),(1,⟨[],.pt PC 0⟩),(10,⟨[],.loc 4 0⟩),(11,⟨[],.sl 1 (nS T) none⟩),(38,⟨[],.sl 4 (dVals v.ks) none⟩),(39,⟨[],.v (.int .i64 (dVals v.ks).length)⟩),(40,⟨[],.v (.int .i64 e)⟩)],
  [aU y,bO (.loc 1 0) L,aU v,jR d,[.v (.string (ba O)),.v (.string (ba Z)),NM]],bT L⟩
theorem qD {S:Sch} {ND:List Nd} {PC:List DV} (hP:ke S ND PC) (y:Val):∀ (k:Nat) (v:Val),v.wt<=k->v.wt<=1099511627776->rngW v->∀ i:Int,jL ND v i=true->∀ (l:List UInt8) (p:DV),p = .v (.pointer none)∨p = .loc 1 0->l.length + 50 * v.wt<=140737488355328 ->
  Ws false Tryz.prog 79 [.loc 1 0,.pt PC 0,.v (.int .i64 i),.agg (aU v)] [aU y,bO p l] (bT l) [(1,161)] (U2 y (l ++ textV ND v i))
 | 0,v,h,_=>by have:=v.de;omega
 | k + 1,v,h,hb=>fun hr i hw l p hp hl=>by
  have ih:=qD hP y k;obtain ⟨yk,yn,ys,yl⟩:=y;obtain ⟨d,hd,hc⟩:=la hw;obtain ⟨h0,hg⟩:=cO hd;obtain ⟨j,rfl⟩:∃ j:Nat,i=j:=⟨i.toNat,by omega⟩;have hg:ND[j]? = some d:=by simpa using hg
  have hN:=hP.ok d (mG hg);have mn:=hN.k1;have Er:=hN.k8;have fw:=hP.ai j d hg;have iE:=qA v;obtain ⟨ZH,ja⟩:=qC hN (by obtain ⟨_,_,_,_⟩:=v;rw [rngW] at hr;exact hr.2.1) hc;have hol2:(cS d v).length + 1<=50 * (64 + v.s.size):=by omega
  have eJ:=nU hP.ok v j hr hw
  have hT:textV ND v j=cS d v ++ textVs ND v.ks d v.n 0 ++ fh v:=by
   obtain ⟨q,z,s,ks⟩:=v;rw [textV,hd];rfl
  have Zo:v.wt=64 + v.s.size + dJ v.ks:=by obtain ⟨q,z,s,ks⟩:=v;rfl
  have qE:=fun a b=>sR d v (by omega) (by obtain ⟨_,_,_,_⟩:=v;rw [rngW] at hr;exact hr.2.1) a b;by_cases c9:v.k < 5∨8 < v.k
  ·have sS:v.ks=[]:=by
    rcases hc with h | h | h
    ·exact h.2.2
    ·exact h.2.2.1
    ·omega
   have h4:v.k=4->0<=v.n/\v.n < d.af.length:=by
    rcases hc with h | h | h
    ·omega
    ·exact h.2.2.2
    ·omega
   have qE:=qE (by omega) h4;have iK:fh v=[]:=DW (by omega) sS;rw [sS,iK,textVs,List.append_nil,List.append_nil] at hT;rw [hT] at eJ ⊢;rw [show (decide (v.k < 5) || decide (8 < v.k))=true by simpa using c9] at iE;generalize cS d v=O at *;clear hc hT;obtain ⟨q,z,s,ks⟩:=v;obtain ⟨ag,aC,lo,hi,most,af,es⟩:=d;refine zP (s:=false) (bt:=[(1,161)]) (mu:=[]) (fr:=false) (P:=Tryz.prog) tt tt_ok 5000 72 [] Tryz.func79 rfl Tryz.ntmps79 rfl (nL rfl) (fun E9 w9 hn9 hm9=>?_);refine call_p zU (fw) ax rfl ?_;refine call_p Cb (iE) ax rfl ?_;refine call_p Rp (qE) ax rfl ?_;refine jK rfl (l ++ O) (l:=l) (kt:=0) rfl (.head _) rfl hp rfl (by simp [ZH]) (by rw [List.length_append];omega) rfl (fun n9=>?_);exact ⟨.tup [],[aU ⟨yk,yn,ys,yl⟩,bO (.loc 1 0) (l ++ O)],aL,aL,rfl,rfl,rfl⟩
  ·obtain ⟨hk,h5,A7,xj⟩:v.k=d.ag/\5<=d.ag/\shellF d v=true/\gj ND v.ks d v.n 0=true:=by
    rcases hc with h | h | h
    ·omega
    ·omega
    ·exact h
   clear qE
   have Oz:∀ m,m < v.ks.length->∃ e,cd d v.n m=some e/\jL ND (v.ks[m]?.getD v) e.to=true:=fun m hm=>by
    obtain ⟨e,h1,h2⟩:=nf xj (gE hm);rw [Nat.zero_add] at h1;exact ⟨e,h1,by rw [gE hm];exact h2⟩
   have Vy:=zn hN h5 v hb hk (fun m hm=>(Oz m hm).imp fun e h=>h.1) (fun c=>shell_8 A7 c);rw [show (decide (v.k < 5) || decide (8 < v.k))=false by simp;omega] at iE;have mb:=fun e (he:e<=v.ks.length)=>l6 hP.ok (v.ks.take e) d v.n 0 hN h5 (wJ e (by obtain ⟨_,_,_,_⟩:=v;rw [rngW] at hr;exact hr.2.2)) (wI e xj);have Py:=A6 v.ks;have kj:=tZ v;have VU:d.ag=7->zm d = .sl 1 (jz (xV d d.au.length)) none:=fun c=>by rw [zm,if_pos c]
   have VV:d.ag≠7->zm d = .v (.slice none 0 0):=fun c=>by rw [zm,if_neg c]
   have OA:∀ (n m:Nat) (tk:List TkE),We n m tk (zm d) (zm d):=fun n m tk=>by
    by_cases c:d.ag=7
    ·rw [VU c];exact ah rfl
    ·rw [VV c];exact ah rfl
   have htg:=fun m e h1 h2=>@DX d v v.ks.length m e h1 h2;have hNL:=IC d d.au.length (Nat.le_refl _)
   have hNg:∀ (m:Nat) (e:Ed),d.ag=7->cd d v.n m=some e->(jz (xV d d.au.length))[m]? = some [.v (.string (ba (tx e.name ++ [58,32])))]:=fun m e c h=>by
    unfold cd at h;rw [if_pos c] at h;simp [jz,xV,h]
   have su:∀ e∈d.au,d.ag=7->e.name.size<=32:=fun e he c=>eY ((hN.many (.inl c)).2.2.2 e he);have ZI:=fun e x ed (h1:v.ks[e]? = some x) (h2:cd d v.n e=some ed)=>sQ (ND:=ND) h1 h2;have ZJ:textVs ND (v.ks.take 0) d v.n 0=[]:=by rw [List.take_zero,textVs]
   have ZK:textVs ND (v.ks.take v.ks.length) d v.n 0=textVs ND v.ks d v.n 0:=by rw [List.take_length]
   rw [hT] at eJ ⊢;rw [<- ZK];generalize Pb:(fun e=>textVs ND (v.ks.take e) d v.n 0)=X at *;have hX:∀ e,textVs ND (v.ks.take e) d v.n 0=X e:=fun e=>by rw [<- Pb]
   simp only [hX] at ZI ZJ mb ⊢;generalize cS d v=O at *;generalize fh v=Z at *;generalize zm d=NM at *;generalize tosL d v v.ks.length=T at *;generalize xV d d.au.length=M at *;clear hc hT ZK A7 eJ hX Pb;obtain ⟨q,z,s,ks⟩:=v;obtain ⟨ag,aC,lo,hi,most,af,es⟩:=d;have cH:=aW ks;have iL:=dC ks;simp only [Val.k,Val.n,Val.s,Val.ks] at *;refine zP (s:=false) (bt:=[(1,161)]) (mu:=[]) (fr:=false) (P:=Tryz.prog) tt tt_ok 5000 72 [] Tryz.func79 rfl Tryz.ntmps79 rfl (nL rfl) (fun E9 w9 hn9 hm9=>?_);refine call_p zU (fw) ax rfl ?_;refine call_p Cb (iE) ax rfl ?_;refine call_p LF (Vy) ax rfl ?_;refine jK rfl (l ++ O) (l:=l) (kt:=0) rfl (.head _) rfl hp rfl (by simp [ZH]) (by rw [List.length_append];omega) rfl (fun n9=>?_);refine aq (fun j st=>∃ e:Nat,st=zp ⟨yk,yn,ys,yl⟩ PC ⟨ag,aC,lo,hi,most,af,es⟩ (.mk q z s ks) O Z NM T (l ++ O ++ X e) e/\e<=ks.length/\j=ks.length - e) ks.length (zp ⟨yk,yn,ys,yl⟩ PC ⟨ag,aC,lo,hi,most,af,es⟩ (.mk q z s ks) O Z NM T (l ++ O) 0) (az 5 rfl (by repeat' (first | exact rfl | exact ah rfl | exact OA _ _ _ | refine ⟨_,_,rfl,?_,?_⟩)) rfl rfl rfl (by repeat' (first | exact trivial | exact ah rfl | exact OA _ _ _ | refine ⟨⟨_,rfl,?_⟩,?_⟩))) ⟨0,by rw [ZJ,List.append_nil],by omega,by omega⟩ ?_;rintro _ st ⟨e,rfl,he,rfl⟩;have hXl:=mb e he;refine br (fun hL=>?_) (fun hL=>?_)
   ·have ap:e < ks.length:=by simpa [cH,Val.ks] using hL
    obtain ⟨ed,l5,IF⟩:=Oz e ap;obtain ⟨x,hx⟩:∃ x,ks[e]? = some x:=⟨_,gE ap⟩;rw [hx] at IF;have R6:=fA (mG hx);have hxt:=sa hx;have KF:rngW x:=by rw [rngW] at hr;exact ik hr.2.2 (mG hx)
    have jU:=fun (L1:List UInt8) h1=>ih x (by omega) (by omega) KF ed.to IF L1 (.loc 1 0) (.inr rfl) h1;have wK:=ZI e x ed hx l5;have VW:=htg e ed l5 ap;have A8:=fun c=>hNg e ed c l5;have qF:=su ed (qB l5);generalize textV ND x ed.to=t at jU wK;obtain ⟨xk,xn,xs,xl⟩:=x;refine ⟨_,⟨by omega,bP (by simpa [Val.ks] using hx)⟩,?_⟩;refine br (fun c=>?_) (fun c=>?_)
    ·have c:e≠0:=by rintro rfl;simp at c
     rw [if_neg c] at wK;refine jK rfl (l ++ O ++ X e ++ [44,32]) (l:=l ++ O ++ X e) (kt:=0) rfl (.head _) rfl (.inr rfl) rfl (by simp) (by simp only [List.length_append,List.length_cons,List.length_nil];omega) rfl (fun n9=>?_);by_cases c7:ag=7
     ·have A8:=A8 c7;have qF:=qF c7;have Kq:=VU c7;subst Kq;rw [if_pos c7] at wK;refine Ov ⟨_,rfl⟩ rfl rfl (by intro h9;rw [h9] at A8;simp at A8) rfl rfl ?_;refine ⟨_,⟨by omega,A8⟩,?_⟩;refine jK rfl ((l ++ O ++ X e ++ [44,32]) ++ (tx ed.name ++ [58,32])) (l:=(l ++ O ++ X e ++ [44,32])) (kt:=0) rfl (.head _) rfl (.inr rfl) rfl (by simp) (by simp only [List.length_append,List.length_cons,List.length_nil,bm];omega) rfl (fun n9=>?_);refine aE (fun i=>Nat.beq i 7) mo (by decide +kernel) ?_;refine ⟨_,⟨by omega,nT VW⟩,?_⟩;have A9:(l ++ O ++ X e ++ [44,32]) ++ (tx ed.name ++ [58,32]) ++ t=l ++ O ++ X (e + 1):=by rw [wK];simp only [List.append_assoc]
      refine jv rfl (mM 2 1 Lz rfl rfl rfl aL aL (jU ((l ++ O ++ X e ++ [44,32]) ++ (tx ed.name ++ [58,32])) (by simp only [List.length_append,List.length_cons,List.length_nil,bm];omega)) (fun r gG bW hΦ h1 h2=>?_));rw [A9] at hΦ;obtain ⟨rfl,rfl,rfl⟩:=hΦ;exact ⟨zp ⟨yk,yn,ys,yl⟩ PC ⟨ag,aC,lo,hi,most,af,es⟩ (.mk q z s ks) O Z _ T (l ++ O ++ X (e + 1)) (e + 1),(az 5 rfl (Em ap) rfl rfl rfl (wNB ap)),ks.length - (e + 1),by omega,e + 1,rfl,by omega,rfl⟩
     ·have Kq:=VV c7;subst Kq;rw [if_neg c7,List.nil_append] at wK;refine Gu ⟨_,rfl⟩ rfl rfl rfl rfl ?_;refine aE (fun i=>Nat.beq i 7) mo (by decide +kernel) ?_;refine ⟨_,⟨by omega,nT VW⟩,?_⟩;have A9:(l ++ O ++ X e ++ [44,32]) ++ t=l ++ O ++ X (e + 1):=by rw [wK];simp only [List.append_assoc]
      refine jv rfl (mM 2 1 Lz rfl rfl rfl aL aL (jU (l ++ O ++ X e ++ [44,32]) (by simp only [List.length_append,List.length_cons,List.length_nil];omega)) (fun r gG bW hΦ h1 h2=>?_));rw [A9] at hΦ;obtain ⟨rfl,rfl,rfl⟩:=hΦ;exact ⟨zp ⟨yk,yn,ys,yl⟩ PC ⟨ag,aC,lo,hi,most,af,es⟩ (.mk q z s ks) O Z _ T (l ++ O ++ X (e + 1)) (e + 1),(az 5 rfl (Em ap) rfl rfl rfl (wNB ap)),ks.length - (e + 1),by omega,e + 1,rfl,by omega,rfl⟩
    ·have c:e=0:=by simp at c;omega
     rw [if_pos c,List.nil_append] at wK;by_cases c7:ag=7
     ·have A8:=A8 c7;have qF:=qF c7;have Kq:=VU c7;subst Kq;rw [if_pos c7] at wK;refine Ov ⟨_,rfl⟩ rfl rfl (by intro h9;rw [h9] at A8;simp at A8) rfl rfl ?_;refine ⟨_,⟨by omega,A8⟩,?_⟩;refine jK rfl ((l ++ O ++ X e) ++ (tx ed.name ++ [58,32])) (l:=(l ++ O ++ X e)) (kt:=0) rfl (.head _) rfl (.inr rfl) rfl (by simp) (by simp only [List.length_append,List.length_cons,List.length_nil,bm];omega) rfl (fun n9=>?_);refine aE (fun i=>Nat.beq i 7) mo (by decide +kernel) ?_;refine ⟨_,⟨by omega,nT VW⟩,?_⟩;have A9:(l ++ O ++ X e) ++ (tx ed.name ++ [58,32]) ++ t=l ++ O ++ X (e + 1):=by rw [wK];simp only [List.append_assoc]
      refine jv rfl (mM 2 1 Lz rfl rfl rfl aL aL (jU ((l ++ O ++ X e) ++ (tx ed.name ++ [58,32])) (by simp only [List.length_append,List.length_cons,List.length_nil,bm];omega)) (fun r gG bW hΦ h1 h2=>?_));rw [A9] at hΦ;obtain ⟨rfl,rfl,rfl⟩:=hΦ;exact ⟨zp ⟨yk,yn,ys,yl⟩ PC ⟨ag,aC,lo,hi,most,af,es⟩ (.mk q z s ks) O Z _ T (l ++ O ++ X (e + 1)) (e + 1),(az 5 rfl (Em ap) rfl rfl rfl (wNB ap)),ks.length - (e + 1),by omega,e + 1,rfl,by omega,rfl⟩
     ·have Kq:=VV c7;subst Kq;rw [if_neg c7,List.nil_append] at wK;refine Gu ⟨_,rfl⟩ rfl rfl rfl rfl ?_;refine aE (fun i=>Nat.beq i 7) mo (by decide +kernel) ?_;refine ⟨_,⟨by omega,nT VW⟩,?_⟩;have A9:(l ++ O ++ X e) ++ t=l ++ O ++ X (e + 1):=by rw [wK];simp only [List.append_assoc]
      refine jv rfl (mM 2 1 Lz rfl rfl rfl aL aL (jU (l ++ O ++ X e) (by simp only [List.length_append,List.length_cons,List.length_nil];omega)) (fun r gG bW hΦ h1 h2=>?_));rw [A9] at hΦ;obtain ⟨rfl,rfl,rfl⟩:=hΦ;exact ⟨zp ⟨yk,yn,ys,yl⟩ PC ⟨ag,aC,lo,hi,most,af,es⟩ (.mk q z s ks) O Z _ T (l ++ O ++ X (e + 1)) (e + 1),(az 5 rfl (Em ap) rfl rfl rfl (wNB ap)),ks.length - (e + 1),by omega,e + 1,rfl,by omega,rfl⟩
   ·have aO:e=ks.length:=by
     have:=hL;simp [cH,Val.ks] at this;omega
    subst aO;have hw9:=Py ks.length;rw [<- List.append_assoc,<- List.append_assoc];refine jK rfl (l ++ O ++ X ks.length ++ Z) (l:=l ++ O ++ X ks.length) (kt:=0) rfl (.head _) rfl (.inr rfl) rfl (by simp [ZH]) (by simp only [List.length_append];omega) rfl (fun n9=>?_);exact ⟨.tup [],[aU ⟨yk,yn,ys,yl⟩,bO (.loc 1 0) (l ++ O ++ X ks.length ++ Z)],aL,aL,rfl,rfl,rfl⟩
theorem IG (s:ByteArray) (n:Nat) (h:s.size<=1099511627776):tx (s.extract n (s.size:Int).toNat)=(tx s).drop n:=by
 simp [tx,Int.toNat_natCast];exact List.take_of_length_le (by rw [List.length_drop];have:=bm s;unfold tx at this;omega)
theorem Ks (s:ByteArray):s=⟨#[]⟩↔tx s=[]:=⟨fun h=>by rw [h];rfl,fun h=>by rw [<- oe s,h]⟩
theorem sU:∀ (u:Nat) (s:ByteArray),s.size<=1099511627776->∀ z:Int,z<=9223372036854775807->z.toNat=u->EvP Tryz.prog 205 [.v (.string s),.v (.int .i64 z)] (.v (.string (ba (headL u (tx s)))))
 | 0,s,hs,z,hz,hu=>by
  refine ev_go (P:=Tryz.prog) tt tt_ok 5000 28 [.tmp 4] Tryz.func205 rfl Tryz.ntmps205 rfl (nL rfl) (fun E9 w9 hn9 hm9=>?_);refine br (fun _=>(rfl:_=_)) (fun c=>absurd c (by simp [aj];omega))
 | u + 1,s,hs,z,hz,hu=>by
  by_cases he:s=⟨#[]⟩
  ·subst he;rw [show tx ⟨#[]⟩=[] from rfl,ze];refine ev_go (P:=Tryz.prog) tt tt_ok 5000 28 [.tmp 4] Tryz.func205 rfl Tryz.ntmps205 rfl (nL rfl) (fun E9 w9 hn9 hm9=>?_);refine br (fun _=>(rfl:_=_)) (fun c=>absurd c (by simp [aj]))
  have aN:tx s ≠ []:=fun h=>he ((Ks s).2 h);obtain ⟨h1,h2⟩:=qw aN;rw [bm] at h2;have ye:=DB s hs (by omega);have hdr:=IG s (iV (tx s)) hs;have iH:=tX s (iV (tx s));have hl:=Km u ((tx s).drop (iV (tx s)));rw [List.length_drop,bm] at hl;have hD:headL (u + 1) (tx s)=(tx s).take (iV (tx s)) ++ headL u ((tx s).drop (iV (tx s))):=rfl;rw [hD,<- iH,<- hdr];rw [<- hdr] at hl;have eJ:(s.extract 0 (iV (tx s))).size=iV (tx s):=by rw [<- bm,tX,List.length_take,bm];omega
  have cH:(s.extract (iV (tx s)) (s.size:Int).toNat).size=s.size - iV (tx s):=by rw [<- bm,IG _ _ hs,List.length_drop,bm]
  have ih:=sU u (s.extract (iV (tx s)) (s.size:Int).toNat) (by omega) (IntKind.i64.wrap (z - 1)) (by rw [wrap64 (by omega) (by omega)];omega) (by rw [wrap64 (by omega) (by omega)];omega);generalize iV (tx s)=n at ye h1 h2 ih eJ cH hl;refine ev_go (P:=Tryz.prog) tt tt_ok 5000 28 [.tmp 4] Tryz.func205 rfl Tryz.ntmps205 rfl (nL rfl) (fun E9 w9 hn9 hm9=>?_);refine br (fun c=>absurd c (by simp [aj];exact ⟨by omega,he⟩)) (fun _=>?_);refine bq XQ rfl ye ax (fun q hq=>?_);obtain ⟨c0,rfl⟩:=hq;refine aE (fun _=>false) mo (by decide +kernel) ?_;refine ⟨⟨by omega,by omega,by omega⟩,?_⟩;refine ⟨⟨by omega,by omega,by omega⟩,?_⟩;refine ay RC (ih) ax rfl ?_;have O4:(ba (headL u (tx (s.extract n (s.size:Int).toNat)))).size=(headL u (tx (s.extract n (s.size:Int).toNat))).length:=by rw [<- bm,mI]
  have DZ:s.extract 0 n ++ ba (headL u (tx (s.extract n (s.size:Int).toNat)))=ba (tx (s.extract 0 n) ++ headL u (tx (s.extract n (s.size:Int).toNat))):=rk (by rw [Mg,mI (headL u (tx (s.extract n (s.size:Int).toNat)))]);refine ⟨by show (s.extract 0 n).size + _<=_;omega,?_⟩;exact (congrArg (fun z=>DV.v (.string z)) DZ:_=_)
mutual
theorem zq:∀ (t:Ty),rngT t->∀ u∈flatT t,rngT u
 | .mk h ps,hr,u,hu=>by
  rw [flatT] at hu;split at hu
  ·cases hu
  ·rcases List.mem_cons.1 hu with rfl | hu
   ·exact hr
   ·rw [rngT] at hr;exact zr ps hr.2.2.2 u hu
theorem zr:∀ (ps:Pts),rngP ps->∀ u∈flatP ps,rngT u
 | .nil,_,u,hu=>by cases hu
 | .cons p v r,hr,u,hu=>by
  rw [flatP] at hu;rw [rngP] at hr;rcases List.mem_append.1 hu with hu | hu
  ·split at hu
   ·cases hu
   ·exact zq v hr.2.2.1 u hu
  ·exact zr r hr.2.2.2 u hu
end
theorem D0 {lev:List Wd->Int} {s:Sch}:∀ (ps:Pts) (k:Nat),rngP ps->∀ e∈edsP lev s ps k,uX e.cn
 | .nil,_,_,e,he=>by cases he
 | .cons p v r,k,hr,e,he=>by
  rw [edsP] at he;rw [rngP] at hr;rcases List.mem_cons.1 he with rfl | he
  ·exact hr.2.1
  ·exact D0 r _ hr.2.2.2 e he
def Ba (n:Nd):Prop:=uX n.lo/\uX n.hi/\∀ e∈n.au,uX e.cn
theorem wM {S:Sch} (hr:PT S) {n:Nd} (h:n∈aR S):Ba n:=by
 rw [jg] at h;obtain ⟨t,ht,u,hu,k,rfl⟩:=vY h
 have h1:rngT t:=by
  rcases List.mem_append.1 ht with h | h
  ·obtain ⟨x,hx,rfl⟩:=List.mem_map.1 h;exact hr.1 x hx
  ·simp only [List.mem_singleton] at h;subst h;exact hr.2
 have h2:=zq t h1 u hu;obtain ⟨uh,us⟩:=u;rw [rngT] at h2;exact ⟨h2.1,h2.2.1,D0 us _ h2.2.2.2⟩
def n7 (K:List Nat) (e:Ed):Nat:=K.getD e.to.toNat 0
def leastR (K:List Nat):List Ed->Nat->Nat
 | [],m=>m + 1
 | e :: r,m=>if n7 K e=0 then 0 else leastR K r (max m (n7 K e))
def er (K:List Nat):List Ed->Nat->Nat
 | [],b=>if b=0 then 0 else b + 1
 | e :: r,b=>if e.bare=true then 1 else if 0 < n7 K e/\(b=0∨n7 K e < b) then er K r (n7 K e) else er K r b
def fN (n:Nd) (K:List Nat):Nat:=if n.ag=7 then leastR K n.au 0 else if n.ag=8 then er K n.au 0 else 1
def depN (ND:List Nd):Nat->List Nat
 | 0=>List.replicate ND.length 0
 | d + 1=>ND.map fun n=>fN n (depN ND d)
theorem fB (ND:List Nd):∀ d,(depN ND d).length=ND.length
 | 0=>by simp [depN]
 | d + 1=>by simp [depN]
theorem depN_get (ND:List Nd) (d j:Nat):(depN ND (d + 1)).getD j 0=match ND[j]? with | none=>0 | some n=>fN n (depN ND d):=by
 simp only [depN,List.getD_eq_getElem?_getD,List.getElem?_map];cases ND[j]?<;>rfl
def Kt (d:Nat) (A B:List Nat):Prop:=∀ j:Nat,(0 < A.getD j 0->B.getD j 0=A.getD j 0/\A.getD j 0<=d)/\(A.getD j 0=0->B.getD j 0=0∨B.getD j 0=d + 1)
theorem IH {d:Nat} {A B:List Nat} (h:Kt d A B) (j:Nat):B.getD j 0<=d + 1:=by
 obtain ⟨h1,h2⟩:=h j;rcases Nat.eq_zero_or_pos (A.getD j 0) with h3 | h3
 ·rcases h2 h3 with h4 | h4<;>omega
 ·have:=h1 h3;omega
theorem ng {K:List Nat}:∀ {es:List Ed} {m:Nat},leastR K es m=0↔∃ e∈es,n7 K e=0
 | [],m=>by simp [leastR]
 | e :: r,m=>by
  rw [leastR];by_cases h:n7 K e=0
  ·rw [if_pos h];exact ⟨fun _=>⟨e,by simp,h⟩,fun _=>rfl⟩
  ·rw [if_neg h,ng];constructor
   ·rintro ⟨x,hx,h2⟩;exact ⟨x,by simp [hx],h2⟩
   ·rintro ⟨x,hx,h2⟩;rcases List.mem_cons.1 hx with rfl | hx
    ·exact (h h2).elim
    ·exact ⟨x,hx,h2⟩
theorem sV {d:Nat} {A B:List Nat} (hR:Kt d A B):∀ {es:List Ed} {m:Nat},0 < leastR A es m->leastR B es m=leastR A es m
 | [],m,_=>rfl
 | e :: r,m,h=>by
  rw [leastR] at h ⊢;rw [leastR];by_cases h0:n7 A e=0
  ·rw [if_pos h0] at h;omega
  rw [if_neg h0] at h ⊢;have h1:n7 B e=n7 A e:=((hR e.to.toNat).1 (by unfold n7 at h0;omega)).1;rw [h1,if_neg h0];exact sV hR h
theorem wN {d:Nat} {A B:List Nat} (hR:Kt d A B):∀ {es:List Ed} {m:Nat},m<=d + 1->(m=d + 1∨∃ e∈es,n7 A e=0)->leastR B es m=0∨leastR B es m=d + 2
 | [],m,_,h=>by
  rcases h with h | ⟨e,he,_⟩
  ·right;rw [leastR,h]
  ·cases he
 | e :: r,m,hm,h=>by
  rw [leastR];by_cases h0:n7 B e=0
  ·rw [if_pos h0];exact .inl rfl
  rw [if_neg h0];have fQ:n7 B e<=d + 1:=IH hR _;refine wN hR (by omega) ?_;rcases h with h | ⟨x,hx,h⟩
  ·left;omega
  ·rcases List.mem_cons.1 hx with rfl | hx
   ·left;have:=(hR x.to.toNat).2 h;unfold n7 at h0 fQ ⊢;omega
   ·exact .inr ⟨x,hx,h⟩
theorem jM {d:Nat} {A B:List Nat} (hR:Kt d A B):∀ {es:List Ed} {a b:Nat},(0 < a->b=a/\a<=d)->(a=0->b=0∨b=d + 1) ->
  (0 < er A es a->er B es b=er A es a)/\(er A es a=0->er B es b=0∨er B es b=d + 2)
 | [],a,b,h1,h2=>by
  rw [er,er];rcases Nat.eq_zero_or_pos a with h | h
  ·rw [if_pos h];refine ⟨fun h=>by omega,fun _=>?_⟩;rcases h2 h with h3 | h3
   ·left;rw [if_pos h3]
   ·right;rw [if_neg (by omega)];omega
  ·obtain ⟨h3,h4⟩:=h1 h;rw [if_neg (by omega),if_neg (by omega),h3];exact ⟨fun _=>rfl,fun h=>by omega⟩
 | e :: r,a,b,h1,h2=>by
  rw [er,er];by_cases hb:e.bare=true
  ·rw [if_pos hb,if_pos hb];exact ⟨fun _=>rfl,fun h=>by omega⟩
  rw [if_neg hb,if_neg hb];obtain ⟨g1,g2⟩:=hR e.to.toNat;change (0 < n7 A e->n7 B e=n7 A e/\n7 A e<=d) at g1;change (n7 A e=0->n7 B e=0∨n7 B e=d + 1) at g2;by_cases c1:0 < n7 A e/\(a=0∨n7 A e < a)<;>by_cases c2:0 < n7 B e/\(b=0∨n7 B e < b)
  ·rw [if_pos c1,if_pos c2];exact jM hR (by omega) (by omega)
  ·rw [if_pos c1,if_neg c2];exact jM hR (by omega) (by omega)
  ·rw [if_neg c1,if_pos c2];exact jM hR (by omega) (by omega)
  ·rw [if_neg c1,if_neg c2];exact jM hR (by omega) (by omega)
theorem GC {d:Nat} {A B:List Nat} (hR:Kt d A B) (n:Nd):(0 < fN n A->fN n B=fN n A)/\(fN n A=0->fN n B=0∨fN n B=d + 2):=by
 unfold fN;by_cases h7:n.ag=7
 ·rw [if_pos h7,if_pos h7];exact ⟨sV hR,fun h=>wN hR (by omega) (.inr (ng.1 h))⟩
 rw [if_neg h7,if_neg h7];by_cases h8:n.ag=8
 ·rw [if_pos h8,if_pos h8];exact jM hR (by omega) (by omega)
 rw [if_neg h8,if_neg h8];exact ⟨fun _=>rfl,fun h=>by omega⟩
theorem D1 (N:Nat) (e:Ed):n7 (List.replicate N 0) e=0:=by
 unfold n7;rw [List.getD_eq_getElem?_getD,List.getElem?_replicate];split<;>rfl
theorem sW (N:Nat):∀ es:List Ed,er (List.replicate N 0) es 0=0∨er (List.replicate N 0) es 0=1
 | []=>.inl rfl
 | e :: r=>by
  rw [er,D1];by_cases hb:e.bare=true
  ·rw [if_pos hb];exact .inr rfl
  ·rw [if_neg hb,if_neg (by omega)];exact sW N r
theorem D2 (N:Nat) (n:Nd):fN n (List.replicate N 0)=0∨fN n (List.replicate N 0)=1:=by
 unfold fN;by_cases h7:n.ag=7
 ·rw [if_pos h7]
  cases h:n.au with
  | nil=>right;rfl
  | cons e r=>left;rw [leastR,D1,if_pos rfl]
 rw [if_neg h7];by_cases h8:n.ag=8
 ·rw [if_pos h8];exact sW N n.au
 ·rw [if_neg h8];exact .inr rfl
theorem Ku (ND:List Nd) (j:Nat):(depN ND 0).getD j 0=0:=by
 rw [depN,List.getD_eq_getElem?_getD,List.getElem?_replicate];split<;>rfl
theorem D3 (ND:List Nd):∀ d,Kt d (depN ND d) (depN ND (d + 1))
 | 0=>fun j=>by
  refine ⟨fun h=>by rw [Ku] at h;omega,fun _=>?_⟩;rw [depN_get]
  cases ND[j]? with
  | none=>exact .inl rfl
  | some n=>exact D2 _ n
 | d + 1=>fun j=>by
  have ih:=D3 ND d;rw [depN_get ND (d + 1),depN_get ND d]
  cases hn:ND[j]? with
  | none=>exact ⟨fun h=>by simp at h,fun _=>.inl rfl⟩
  | some n=>
   obtain ⟨h1,h2⟩:=GC ih n;refine ⟨fun h=>⟨h1 h,?_⟩,h2⟩;have:=IH ih j;rw [depN_get ND d,hn] at this;exact this
def eZ (K:List Nat):List Bool:=K.map fun k=>decide (0 < k)
theorem qG (K:List Nat) (j:Nat):(eZ K).getD j false=decide (0 < K.getD j 0):=by
 unfold eZ;simp only [List.getD_eq_getElem?_getD,List.getElem?_map];cases K[j]?<;>simp
theorem nh (K:List Nat):(eZ K).length=K.length:=by simp [eZ]
theorem OB {A B:List Nat} (hl:A.length=B.length) (h:∀ j,A.getD j 0=B.getD j 0):A=B:=by
 refine List.ext_getElem hl fun j h1 h2=>?_;have:=h j;simp only [List.getD_eq_getElem?_getD,gE h1,gE h2,Option.getD_some] at this;exact this
def o8 (K:List Bool) (e:Ed):Bool:=e.bare || K.getD e.to.toNat false
def GD (n:Nd) (K:List Bool):Bool:=if n.ag < 7 then true else if n.ag=7 then n.au.all (o8 K) else n.au.any (o8 K)
theorem oZ {K:List Nat}:∀ {es:List Ed} {b:Nat},0 < er K es b↔(0 < b∨es.any (o8 (eZ K))=true)
 | [],b=>by
  rw [er];by_cases h:b=0
  ·rw [if_pos h];simp [h]
  ·rw [if_neg h];simp;omega
 | e :: r,b=>by
  have hg:(eZ K).getD e.to.toNat false=decide (0 < n7 K e):=qG K _;rw [er,List.any_cons];by_cases hb:e.bare=true
  ·rw [if_pos hb];simp [o8,hb]
  ·rw [if_neg hb]
   have rf:o8 (eZ K) e=decide (0 < n7 K e):=by
    unfold o8;rw [hg];simp [hb]
   rw [rf,Bool.or_eq_true,decide_eq_true_eq];split
   ·rename_i h1;rw [oZ];constructor
    ·exact fun _=>.inr (.inl h1.1)
    ·exact fun _=>.inl h1.1
   ·rename_i h1;rw [oZ];constructor
    ·rintro (h | h)
     ·exact .inl h
     ·exact .inr (.inr h)
    ·rintro (h | h | h)
     ·exact .inl h
     ·by_cases gk:b=0
      ·exact (h1 ⟨h,.inl gk⟩).elim
      ·left;omega
     ·exact .inr h
theorem GF {n:Nd} {K:List Nat} (h8:n.ag<=8) (hb:∀ e∈n.au,e.bare=true->n.ag=8):(0 < fN n K)↔GD n (eZ K)=true:=by
 unfold fN GD;by_cases h7:n.ag=7
 ·rw [if_pos h7,if_neg (by omega),if_pos h7,List.all_eq_true];have:0 < leastR K n.au 0↔¬ leastR K n.au 0=0:=by omega
  rw [this,ng];constructor
  ·intro h e he
   have h1:e.bare=false:=by
    cases BR:e.bare
    ·rfl
    ·have:=hb e he BR;omega
   have h2:¬ n7 K e=0:=fun h3=>h ⟨e,he,h3⟩;have hg:(eZ K).getD e.to.toNat false=decide (0 < n7 K e):=qG K _;simp only [o8,h1,hg,Bool.false_or,decide_eq_true_eq];omega
  ·rintro h ⟨e,he,h3⟩
   have h1:e.bare=false:=by
    cases BR:e.bare
    ·rfl
    ·have:=hb e he BR;omega
   have hg:(eZ K).getD e.to.toNat false=decide (0 < n7 K e):=qG K _;have:=h e he;simp only [o8,h1,hg,Bool.false_or,decide_eq_true_eq] at this;omega
 rw [if_neg h7];by_cases h8':n.ag=8
 ·rw [if_pos h8',if_neg (by omega),if_neg h7,oZ];simp
 ·rw [if_neg h8',if_pos (by omega)];simp
theorem OC {ND:List Nd} (hN:∀ n∈ND,n.ag<=8/\∀ e∈n.au,e.bare=true->n.ag=8) (d:Nat) {i:Nat} {n:Nd} (h:ND[i]? = some n) :
  (depN ND (d + 1)).getD i 0=(if GD n (eZ (depN ND d))=true/\(depN ND d).getD i 0=0 then d + 1 else (depN ND d).getD i 0) /\
  (eZ (depN ND (d + 1))).getD i false=GD n (eZ (depN ND d)):=by
 obtain ⟨h8,hb⟩:=hN n (mG h);have hp:=GF (K:=depN ND d) h8 hb;have hg:(depN ND (d + 1)).getD i 0=fN n (depN ND d):=by rw [depN_get,h]
 obtain ⟨h1,h2⟩:=(D3 ND d) i;refine ⟨?_,?_⟩
 ·rcases Nat.eq_zero_or_pos ((depN ND d).getD i 0) with h3 | h3
  ·by_cases h4:GD n (eZ (depN ND d))=true
   ·rw [if_pos ⟨h4,h3⟩];have:=h2 h3;rw [<- hp,<- hg] at h4;omega
   ·rw [if_neg (fun h=>h4 h.1),h3];rw [<- hp,<- hg] at h4;omega
  ·rw [if_neg (by omega)];exact (h1 h3).1
 ·rw [qG,hg,Bool.eq_iff_iff,decide_eq_true_eq];exact hp
def cN (l:List Nat):List DV:=l.map fun (z:Nat)=>DV.v (.int .i64 (z:Int))
theorem OD (l:List Nat):(cN l).length=l.length:=by simp [cN]
theorem U3 {l:List Nat} {i z:Nat} (h:l[i]? = some z):(cN l)[i]? = some (DV.v (.int .i64 (z:Int))):=by simp [cN,h]
theorem U4 (l:List Nat) (i z:Nat):(cN l).set i (DV.v (.int .i64 (z:Int)))=cN (l.set i z):=by simp [cN,List.map_set]
theorem wO (l:List Nat):(dInts l).flatten=cN l:=by
 induction l with
 | nil=>rfl
 | cons b r ih=>simp only [dInts,cN,List.map_cons,List.flatten_cons] at ih ⊢;rw [ih];all_goals rfl
theorem repN (n:Nat):(List.replicate n (vL [Value.int .i64 0])).flatten=cN (List.replicate n 0):=by
 induction n with
 | zero=>rfl
 | succ n ih=>simp only [List.replicate_succ,List.flatten_cons,ih];rfl
theorem ni {n m:Nat} {tk:List TkE} {l:List DV} {r:List Nat} (h:l=cN r):WeL n m tk l (cN r):=by
 subst h;refine u5 _ fun x hx=>?_;obtain ⟨z,_,rfl⟩:=List.mem_map.1 hx;exact ⟨_,rfl⟩
theorem ms_n {bx:List (List DV)} {N n0 m0 n i:Nat} {r:List Nat} (hr:r.length=n) (hN:N<=i) (hb:bx[i]? = some (cN r)):Cc bx N n0 m0 (.sl 1 (dInts r) none) (.ms i 1 0 n n):=by
 simp only [Cc];refine Or.inr (Or.inr (Or.inl ⟨i,0,n,_,by rw [bh,hr],hN,hb,?_,?_,?_⟩))
 ·rw [wO,List.drop_zero,List.take_of_length_le (by rw [OD,bh];omega)]
 ·intro x hx;simp only [dInts,List.mem_map] at hx;obtain ⟨_,_,rfl⟩:=hx;rfl
 ·intro x hx;rw [wO] at hx;obtain ⟨_,_,rfl⟩:=List.mem_map.1 hx;exact .inl ⟨_,rfl⟩
end Go.Proofs.YtfifjddnnmfeoaaGreat
namespace Go.Proofs.YtfifjddnnmfeoaaGreat
namespace Dv
open Go Go.RowKit
section
variable {P:Program} {ops:Array Oper} {C:World->Prop} {Q:Act->World->Prop} {W:Nat->Bool} {x:Nat}
def runX (P:Program) (ops:Array Oper) (W:Nat->Bool) (C:World->Prop) (Q:Act->World->Prop) (x:Nat):List Nat->Act->World->Prop
 | [],a,w=>runT P ops W C Q [x] a w
 | i :: r,a,w=>
  match ops[i]? with
  | none=>False
  | some o=>
   if ordB ops ops.size x i=true then runT P ops W C Q (x :: i :: r) a w
   else if gQ o.op=true then runT P ops W C Q (x :: i :: r) a w/\dG P ops o a w fun a' w'=>(W i=false->C w->C w')/\runX P ops W C Q x r a' w'
   else ∃ v,Yl P ops C o v a/\(ma o.op=true->C w)/\runX P ops W C Q x r (a.put o.dst v) w
theorem D4 {xo:Oper} (dM:∀ (j:Nat) (o:Oper) cs b,ops[j]? = some o->o.op ≠ .select cs b) (hx:ops[x]? = some xo) (U5:gQ xo.op=true) (ZL:∀ (j:Nat) (o:Oper),ops[j]? = some o->ma o.op=true->W x=false) :
  ∀ (rem:List Nat) (a:Act) (w:World),runX P ops W C Q x rem a w->(∀ j∈rem,∀ o,ops[j]? = some o->gQ o.op=false->ordB ops ops.size x j=false->fV ops W x j=true) ->
   dG P ops xo a w (fun a' w'=>(W x=false->C w->C w')/\runT P ops W C Q rem a' w')
 | [],a,w,hr,_=>by
  simp only [runX,runT,hx,U5,if_true] at hr;exact hr
 | i :: r,a,w,hr,xg=>by
  have ZM:runT P ops W C Q (x :: i :: r) a w->dG P ops xo a w (fun a' w'=>(W x=false->C w->C w')/\runT P ops W C Q (i :: r) a' w'):=fun h=>by
   unfold runT at h;rw [hx] at h;simp only [U5,if_true] at h;exact h
  cases ho:ops[i]? with
  | none=>simp only [runX,ho] at hr
  | some o=>
   simp only [runX,ho] at hr;by_cases hd:ordB ops ops.size x i=true
   ·rw [if_pos hd] at hr;exact ZM hr
   ·rw [if_neg hd] at hr;by_cases he:gQ o.op=true
    ·rw [if_pos he] at hr;exact ZM hr.1
    ·rw [if_neg he] at hr;obtain ⟨v,hy,hc,gV⟩:=hr;have xC:ordB ops ops.size x i=false:=by simpa using hd
     have Lp:gQ o.op=false:=by simpa using he
     obtain ⟨O6,Q6,_,_⟩:=eO (xg i (by simp) o ho Lp xC) hx ho;have xB:=fun cs b=>dM x xo cs b hx;have KJ:=fun cs b=>dM i o cs b ho;have ih:=D4 dM hx U5 ZL r (a.put o.dst v) w gV (fun j hj=>xg j (List.mem_cons_of_mem _ hj));refine dc ?_ (jr ((kJ Q6 xB).1 ih));rintro a' w' ⟨⟨qM,hr2⟩,u,rfl⟩;refine ⟨qM,?_⟩;simp only [runT,ho];rw [if_neg he];exact ⟨v,(Yl.same (u:=u) O6 KJ).2 hy,fun hL=>qM (ZL i o ho hL) (hc hL),hr2⟩
theorem sc {π:Nat->Nat} (dM:∀ (j:Nat) (o:Oper) cs b,ops[j]? = some o->o.op ≠ .select cs b) (qL:∀ j i x y,π j < π i->ops[i]? = some x->ops[j]? = some y->ma x.op=true->W j=false)
  {i:Nat} {o:Oper} (hi:ops[i]? = some o) (QQ:∀ z,ops[x]? = some z->ma z.op=false) (ZN:x≠i) (hnd:ordB ops ops.size x i=false) (xB:gQ o.op=false->fV ops W x i=true) :
  ∀ (rem:List Nat) (a:Act) (w:World),(xA ops (x :: rem)->C w)->runX P ops W C Q x rem a w->i∈rem->(∀ j∈rem,j≠i->π j < π i->fV ops W j i=true)->(x :: rem).Pairwise (fun a b=>π a < π b) ->
   (gQ o.op=true->∀ j∈rem,π j < π i->ordB ops ops.size x j=false) ->
   dG P ops o a w (fun a' w'=>(W i=false->C w->C w')/\runX P ops W C Q x (rem.erase i) a' w')
 | [],_,_,_,_,hm,_,_,_=>by cases hm
 | h :: rem,a,w,hC,hr,hm,xg,hp,Yu=>by
  by_cases jU:h=i
  ·subst jU;rw [List.erase_cons_head];simp only [runX,hi] at hr;rw [if_neg (by simp [hnd])] at hr;split at hr
   ·exact hr.2
   ·obtain ⟨v,hy,hc,gV⟩:=hr;exact iv hy hc ⟨fun _ h=>h,gV⟩
  ·have ow:i∈rem:=by
    rcases List.mem_cons.1 hm with e | e
    ·exact (jU e.symm).elim
    ·exact e
   have q8:=List.pairwise_cons.1 hp;have B3:=List.pairwise_cons.1 q8.2;have ap:π h < π i:=B3.1 i ow;have hpr:(x :: rem).Pairwise (fun a b=>π a < π b):=List.pairwise_cons.2 ⟨fun y hy=>q8.1 y (List.mem_cons_of_mem _ hy),B3.2⟩
   have U6:gQ o.op=false->∀ j∈x :: h :: rem,j≠i->π j < π i->fV ops W j i=true:=fun he j hj aN hl=>by
    rcases List.mem_cons.1 hj with rfl | hj
    ·exact xB he
    ·exact xg j hj aN hl
   have QR:i∈x :: h :: rem:=List.mem_cons_of_mem _ hm
   have ZO:(x :: h :: rem).erase i=x :: h :: rem.erase i:=by
    rw [List.erase_cons_tail (by simpa using ZN),List.erase_cons_tail (by simpa using jU)]
   rw [List.erase_cons_tail (by simpa using jU)];have Lm:∀ j∈rem,j≠i->π j < π i->fV ops W j i=true:=fun j hj=>xg j (List.mem_cons_of_mem _ hj);have ZP:gQ o.op=true->∀ j∈rem,π j < π i->ordB ops ops.size x j=false:=fun he j hj=>Yu he j (List.mem_cons_of_mem _ hj)
   have hCt:xA ops (x :: rem)->C w:=fun hl=>hC (by
    obtain ⟨l,z,Ln,hz,hL⟩:=hl;rcases List.mem_cons.1 Ln with rfl | Ln
    ·exact ⟨l,z,by simp,hz,hL⟩
    ·exact ⟨l,z,by simp [Ln],hz,hL⟩)
   cases hh:ops[h]? with
   | none=>simp only [runX,hh] at hr
   | some y=>
    obtain ⟨O6,Q6,hEE,hLW⟩:=eO (xg h (by simp) jU ap) hh hi;have hsy:=fun cs b=>dM h y cs b hh;have KJ:=fun cs b=>dM i o cs b hi;simp only [runX,hh] at hr;by_cases hd:ordB ops ops.size x h=true
    ·rw [if_pos hd] at hr
     have he:gQ o.op=false:=by
      cases he:gQ o.op
      ·rfl
      ·have:=Yu he h (by simp) ap;rw [hd] at this;cases this
     have aT:=fl dM qL hi (x :: h :: rem) a w hC hr QR (U6 he) hp;refine dc ?_ aT;rintro a' w' ⟨qM,hr2⟩;refine ⟨qM,?_⟩;simp only [runX,hh];rw [if_pos hd,<- ZO];exact hr2
    ·rw [if_neg hd] at hr;by_cases hE:gQ y.op=true
     ·rw [if_pos hE] at hr;obtain ⟨hl,hr⟩:=hr
      have he:gQ o.op=false:=by
       cases he:gQ o.op
       ·rfl
       ·exact (hEE ⟨hE,he⟩).elim
      obtain ⟨v,PE⟩:=jt (π:=π) dM hi he (x :: h :: rem) a w hl QR (U6 he) hp;have Tc:ma o.op=true->C w:=fun hL=>hC ⟨i,o,QR,hi,hL⟩;have aT:=fl dM qL hi (x :: h :: rem) a w hC hl QR (U6 he) hp;have mn:=fU PE Tc aT;refine iv PE Tc ⟨fun _ h=>h,?_⟩;simp only [runX,hh];rw [if_neg hd,if_pos hE];refine ⟨by rw [<- ZO];exact mn.2,?_⟩;refine (kJ Q6 hsy).2 ?_;refine dc ?_ (jr hr);rintro a' w' ⟨⟨qM,gV⟩,u,rfl⟩;refine ⟨qM,?_⟩
      have Td:xA ops (x :: rem)->C w':=by
       intro q4;have Pa:=q4;obtain ⟨l,z,Ln,hz,hL⟩:=q4;refine qM ?_ (hCt Pa);rcases List.mem_cons.1 Ln with e | Ln
       ·rw [e] at hz;rw [QQ z hz] at hL;cases hL
       ·exact qL h l z y (B3.1 l Ln) hz hh hL
      have ih:=sc dM qL hi QQ ZN hnd xB rem _ w' Td gV ow Lm hpr ZP;have gp:=(Yl.same (u:=u) O6 KJ).2 PE;exact (fU gp (fun hL=>Td ⟨i,o,List.mem_cons_of_mem _ ow,hi,hL⟩) ih).2
     ·rw [if_neg hE] at hr;obtain ⟨v,PE,hc,gV⟩:=hr;have ih:=sc dM qL hi QQ ZN hnd xB rem (a.put y.dst v) w hCt gV ow Lm hpr ZP;refine dc ?_ (jr ((kJ O6 KJ).1 ih));rintro a' w' ⟨⟨qM,hr2⟩,u,rfl⟩;refine ⟨qM,?_⟩;simp only [runX,hh];rw [if_neg hd,if_neg hE];refine ⟨v,(Yl.same (u:=u) Q6 hsy).2 PE,fun hL=>?_,hr2⟩
      have hWi:W i=false:=by
       cases hw:W i
       ·rfl
       ·exact (hLW ⟨hL,hw⟩).elim
      exact qM hWi (hc hL)
def exX (ops:Array Oper) (x:Nat) (j i:Nat):Bool:=Nat.beq j x && (match ops[i]? with | some o=>gQ o.op | none=>false)
def U7 (ops:Array Oper) (x:Nat) (π:Nat->Nat):Bool:=
 (List.range ops.size).all fun i=>
  match ops[i]? with
  | none=>true
  | some o=>!gQ o.op || Nat.beq i x || ordB ops ops.size x i || (List.range ops.size).all fun j=>Nat.beq j x || !Nat.blt (π j) (π i) || !ordB ops ops.size x j
theorem OE {π:Nat->Nat} {xo:Oper} {Q':Exit->Act->World->Prop} (hx:ops[x]? = some xo) (U5:gQ xo.op=true) (QQ:ma xo.op=false) (VX:∀ j,j≠x->π x < π j) (Q7:pA ops W π=true) (Te:ti ops W π (exX ops x)=true) (hD:U7 ops x π=true)
  (hQ:∀ a w,Q a w->Q' .normal a w):∀ (kk:Nat) (listed:Array Bool) (rem:List Nat) (a:Act) (w:World),
  listed.size=ops.size->Dn ops listed->listed.getD x true=false->(∀ i,i∈rem↔i≠x/\i < ops.size/\listed.getD i true=false)->(x :: rem).Pairwise (fun a b=>π a < π b)->rem.length + 1<=kk->(xA ops (x :: rem)->C w) ->
   runX P ops W C Q x rem a w->wpAny P .any ops Q' kk listed a w:=by
 have dM:=pD Q7;have qL:=pB Q7;have BX:=q5 Q7;have hcS':=Te;have oA:=(Array.getElem?_eq_some_iff.1 hx).1
 have ZL:∀ (j:Nat) (o:Oper),ops[j]? = some o->ma o.op=true->W x=false:=fun j o hj hL=>by
  refine qL x j o xo (VX j ?_) hj hx hL;rintro rfl;rw [hx] at hj;simp only [oI] at hj;rw [<- hj,QQ] at hL;cases hL
 simp only [ti,List.all_eq_true,List.mem_range,Bool.or_eq_true,Bool.not_eq_true'] at Te
 have xB:∀ (i:Nat) (o:Oper),ops[i]? = some o->i≠x->gQ o.op=false->ordB ops ops.size x i=false->fV ops W x i=true:=fun i o ho aN he hd=>by
  rcases Te i (Array.getElem?_eq_some_iff.1 ho).1 x oA with ((h1 | h1) | h1) | h1
  ·have:¬ Nat.blt (π x) (π i)=true:=by simp [h1]
   have:=VX i aN;simp at *;omega
  ·simp [exX,ho,he] at h1
  ·rw [hd] at h1;cases h1
  ·exact h1
 intro kk
 induction kk with
 | zero=>intro listed rem a w _ _ _ _ _ hlen;omega
 | succ kk ih=>
  intro listed rem a w bE O7 hxu lB hp hlen hC hr;have q8:=List.pairwise_cons.1 hp;have hnd:rem.Nodup:=mq q8.2;refine ⟨fun h0=>?_,fun i hi=>?_⟩
  ·have:x∈Region.ready .any ops listed:=by
    refine mem_ready.2 ⟨hxu,_,hx,fun e he hb=>?_⟩;obtain ⟨ap,BZ⟩:=BX x _ hx e he hb;cases hg:listed.getD e.on false
    ·have aN:e.on≠x:=fun h=>by rw [h] at ap;omega
     have:=VX e.on aN;omega
    ·rfl
   rw [h0] at this;cases this
  ·obtain ⟨ye,o,ho,gH⟩:=mem_ready.1 hi;have dE:=(Array.getElem?_eq_some_iff.1 ho).1
   have I8:Dn ops (listed.setIfInBounds i true):=by
    intro k z hz hk e he hb;by_cases lg:k=i
    ·subst lg;rw [ho] at hz;simp only [oI] at hz;subst hz;exact getD_set_true (gH e he hb)
    ·rw [getD_set_ne true (Ne.symm lg)] at hk;exact getD_set_true (O7 k z hz hk e he hb)
   refine yf ho ?_;by_cases Bs:i=x
   ·subst Bs;rw [hx] at ho;simp only [oI] at ho;subst ho;have aT:=D4 dM hx U5 ZL rem a w hr (fun j hj o ho he hd=>xB j o ho ((lB j).1 hj).1 he hd);refine dc ?_ aT;rintro a' w' ⟨qM,gV⟩;refine lA (C:=C) (exX ops i) Q7 hcS' hQ kk _ rem a' w' (by simp [bE]) I8 ?_ q8.2 (by omega) ?_ ?_ gV
    ·intro k;rw [lB k];by_cases lg:k=i
     ·subst lg;simp [bE,dE]
     ·rw [getD_set_ne true (Ne.symm lg)];simp [lg]
    ·intro j hj k _;have:=((lB j).1 hj).1;simp [exX,this]
    ·rintro ⟨l,z,hl,hz,hL⟩;exact qM (ZL l z hz hL) (hC ⟨l,z,List.mem_cons_of_mem _ hl,hz,hL⟩)
   ·have B0:i∈rem:=(lB i).2 ⟨Bs,dE,ye⟩
    have gI:∀ j,j < ops.size->listed.getD j true=false->ordB ops ops.size j i=false:=by
     intro j hj hu;cases h1:ordB ops ops.size j i
     ·rfl
     ·have h2:=j2 O7 _ _ _ _ ho gH h1;have:j < listed.size:=by rw [bE];exact hj
      simp [this] at h2 hu;rw [h2] at hu;cases hu
    have U8:=gI x oA hxu
    have xg:∀ j∈rem,j≠i->π j < π i->fV ops W j i=true:=by
     intro j hj _ ap;have fT:=(lB j).1 hj;rcases Te i dE j fT.2.1 with ((h1 | h1) | h1) | h1
     ·have:¬ Nat.blt (π j) (π i)=true:=by simp [h1]
      simp at this;omega
     ·simp [exX,fT.1] at h1
     ·rw [gI j fT.2.1 fT.2.2] at h1;cases h1
     ·exact h1
    have Yu:gQ o.op=true->∀ j∈rem,π j < π i->ordB ops ops.size x j=false:=by
     intro he j hj ap;simp only [U7,List.all_eq_true,List.mem_range] at hD;have h1:=hD i dE;rw [ho] at h1;simp only [he,U8,Bool.not_true,Bool.false_or,Bool.or_false,Bool.or_eq_true,List.all_eq_true,List.mem_range,Bool.not_eq_true',Nat.beq_eq] at h1;rcases h1 with h1 | h1
     ·exact (Bs h1).elim
     ·have fT:=(lB j).1 hj;rcases h1 j fT.2.1 with (h2 | h2) | h2
      ·exact (fT.1 h2).elim
      ·have:¬ Nat.blt (π j) (π i)=true:=by simp [h2]
       simp at this;omega
      ·exact h2
    have aT:=sc (π:=π) dM qL ho (fun z hz=>by rw [hx] at hz;simp only [oI] at hz;rw [<- hz];exact QQ) (Ne.symm Bs) U8 (fun he=>xB i o ho Bs he U8) rem a w hC hr B0 xg hp Yu;refine dc ?_ aT;rintro a' w' ⟨qM,gV⟩;have ZN:=getD_set_ne (listed:=listed) true Bs;refine ih (listed.setIfInBounds i true) (rem.erase i) a' w' (by simp [bE]) I8 (by rw [ZN];exact hxu) ?_ (List.pairwise_cons.2 ⟨fun y hy=>q8.1 y (List.mem_of_mem_erase hy),q8.2.sublist List.erase_sublist⟩) (by rw [List.length_erase_of_mem B0];have:=List.length_pos_of_mem B0;omega) ?_ gV
    ·intro k;rw [List.Nodup.mem_erase_iff hnd];by_cases lg:k=i
     ·subst lg;simp [bE,dE]
     ·rw [getD_set_ne true (Ne.symm lg)];simp only [ne_eq,lg,not_false_eq_true,true_and];exact lB k
    ·rintro ⟨l,z,hl,hz,hL⟩
     have hlx:l≠x:=by
      rintro rfl;rw [hx] at hz;simp only [oI] at hz;rw [<- hz,QQ] at hL;cases hL
     have hl:l∈rem.erase i:=by
      rcases List.mem_cons.1 hl with h | h
      ·exact (hlx h).elim
      ·exact h
     have q4:=List.mem_of_mem_erase hl;have aN:l≠i:=((List.Nodup.mem_erase_iff hnd).1 hl).1;have Tg:=hC ⟨l,z,List.mem_cons_of_mem _ q4,hz,hL⟩;refine qM ?_ Tg;rcases uz q8.2 B0 q4 aN.symm with h1 | h1
     ·exact qL i l z o h1 hz ho hL
     ·have:=xg l q4 aN h1;obtain ⟨_,_,_,h4⟩:=eO this hz ho;cases hw:W i
      ·rfl
      ·exact (h4 ⟨hL,hw⟩).elim
theorem zs {π:Nat->Nat} (dM:∀ (j:Nat) (o:Oper) cs b,ops[j]? = some o->o.op ≠ .select cs b) (qL:∀ j i x y,π j < π i->ops[i]? = some x->ops[j]? = some y->ma x.op=true->W j=false)
  (xB:∀ (i:Nat) (o:Oper),ops[i]? = some o->i≠x->gQ o.op=false->ordB ops ops.size x i=false->fV ops W x i=true) :
  ∀ (l:List Nat) (a:Act) (w:World),(xA ops (x :: l)->C w)->runT P ops W C Q (x :: l) a w->(∀ i∈l,i≠x/\∃ o,ops[i]? = some o/\(ordB ops ops.size x i=true∨gQ o.op=false))->(x :: l).Pairwise (fun a b=>π a < π b)->runX P ops W C Q x l a w
 | [],a,w,_,h,_,_=>by simpa only [runX] using h
 | i :: r,a,w,hC,h,hl,hp=>by
  obtain ⟨aN,o,ho,Wy⟩:=hl i (by simp);simp only [runX,ho];by_cases hd:ordB ops ops.size x i=true
  ·rw [if_pos hd];exact h
  ·rw [if_neg hd]
   have he:gQ o.op=false:=by
    rcases Wy with h | h
    ·exact (hd h).elim
    ·exact h
   rw [if_neg (by simp [he])];have xC:ordB ops ops.size x i=false:=by simpa using hd
   have q8:=List.pairwise_cons.1 hp;have B3:=List.pairwise_cons.1 q8.2
   have xg:∀ j∈x :: i :: r,j≠i->π j < π i->fV ops W j i=true:=fun j hj O5 ap=>by
    rcases List.mem_cons.1 hj with rfl | hj
    ·exact xB i o ho aN he xC
    ·rcases List.mem_cons.1 hj with rfl | hj
     ·exact (O5 rfl).elim
     ·have:=B3.1 j hj;omega
   have Tc:ma o.op=true->C w:=fun hL=>hC ⟨i,o,by simp,ho,hL⟩;obtain ⟨v,hy⟩:=jt (π:=π) dM ho he _ a w h (by simp) xg hp;have aT:=fl dM qL ho _ a w hC h (by simp) xg hp;have hk:=(fU hy Tc aT).2;rw [List.erase_cons_tail (by simpa using Ne.symm aN),List.erase_cons_head] at hk;refine ⟨v,hy,Tc,zs dM qL xB r _ w (fun hl=>?_) hk (fun j hj=>hl j (List.mem_cons_of_mem _ hj)) (List.pairwise_cons.2 ⟨fun y hy=>q8.1 y (List.mem_cons_of_mem _ hy),B3.2⟩)⟩;obtain ⟨l,z,Ln,hz,hL⟩:=hl;refine hC ⟨l,z,?_,hz,hL⟩;rcases List.mem_cons.1 Ln with h | h
   ·simp [h]
   ·simp [h]
end
theorem wP {ops:Array Oper}:∀ {l:List Nat},(∀ i∈l,i < ops.size)->(selL ops.toList l).map (·.1)=l
 | [],_=>rfl
 | i :: r,h=>by
  have hi:ops.toList[i]? = some (ops[i]'(h i (by simp))):=by
   rw [gE (by simpa using h i (by simp))];simp
  unfold selL;rw [hi];simp only [List.map_cons];rw [wP fun j hj=>h j (List.mem_cons_of_mem _ hj)]
def goX (X:Ctx) (D:Dr) (x:Nat) (tail:List Nat):List Nat->Bool->List (Nat × Sl)->St->Prop
 | [],c,s0,st=>
  match c with
  | true=>goD X D 3000 true (selL D.ops.toList (x :: tail)) s0 st
  | false=>False
 | i :: r,c,s0,st=>
  match D.ops.toList[i]? with
  | none=>False
  | some o=>
   match gQ o.op with
   | true=>goD X D 3000 c (selL D.ops.toList (x :: i :: (r ++ tail))) s0 st/\goD X ⟨D.ops,D.W,D.k,D.kI,some (goX X D x tail r)⟩ 3000 c [(i,o)] s0 st
   | false=>goD X ⟨D.ops,D.W,D.k,D.kI,some (goX X D x tail r)⟩ 3000 c [(i,o)] s0 st
def ZQ (ops:Array Oper) (W:Nat->Bool) (x:Nat) (pre tail:List Nat):Bool:=
 EQ ops (x :: (pre ++ tail)) && pA ops W (plc (x :: (pre ++ tail))) && ti ops W (plc (x :: (pre ++ tail))) (exX ops x) && U7 ops x (plc (x :: (pre ++ tail))) &&
  (match ops[x]? with | some o=>gQ o.op && !ma o.op | none=>false) && pre.all (fun i=>!ordB ops ops.size x i) && tail.all (fun i=>match ops[i]? with | some o=>ordB ops ops.size x i || !gQ o.op | none=>false)
section
variable {X:Ctx} {D:Dw} {x:Nat} {tail:List Nat} {π:Nat->Nat}
theorem zt (hD:tj D.E0 D.d.kI.bx D.wr) (dM:∀ (j:Nat) (o:Oper) cs b,D.d.ops[j]? = some o->o.op ≠ .select cs b) (qL:∀ j i x y,π j < π i->D.d.ops[i]? = some x->D.d.ops[j]? = some y->ma x.op=true->D.d.W j=false)
  (xB:∀ (i:Nat) (o:Oper),D.d.ops[i]? = some o->i≠x->gQ o.op=false->ordB D.d.ops D.d.ops.size x i=false->fV D.d.ops D.d.W x i=true)
  (eJ:∀ i∈tail,i≠x/\∃ o,D.d.ops[i]? = some o/\(ordB D.d.ops D.d.ops.size x i=true∨gQ o.op=false)) (oA:x < D.d.ops.size):∀ (pre:List Nat),(∀ i∈pre,i < D.d.ops.size/\ordB D.d.ops D.d.ops.size x i=false)->(x :: (pre ++ tail)).Pairwise (fun a b=>π a < π b) ->
  ∀ c s0 st,goX X D.d x tail pre c s0 st->∀ E a w,fm X D c E s0 st a w->runX X.P D.d.ops D.d.W D.C (D.Q X) x (pre ++ tail) a w
 | [],_,hp,c,s0,st,hg,E,a,w,h=>by
  have htl2:∀ i∈x :: tail,i < D.d.ops.size:=fun i hi=>by
   rcases List.mem_cons.1 hi with rfl | hi
   ·exact oA
   ·obtain ⟨_,o,ho,_⟩:=eJ i hi;exact (Array.getElem?_eq_some_iff.1 ho).1
  simp only [goX] at hg;split at hg
  ·have h1:=eA hD 3000 true _ _ _ hg (fun p hp=>by simpa using uE hp) E a w h;rw [wP htl2] at h1;exact zs dM qL xB tail a w (fun _=>h.cc rfl) h1 eJ hp
  ·exact hg.elim
 | i :: r,OG,hp,c,s0,st,hg,E,a,w,h=>by
  obtain ⟨Ys,hnd⟩:=OG i (by simp);have ho:D.d.ops[i]? = some D.d.ops[i]:=Array.getElem?_eq_getElem Ys;have ja:D.d.ops.toList[i]? = some D.d.ops[i]:=by simpa using ho
  have q8:=List.pairwise_cons.1 hp;have B3:=List.pairwise_cons.1 q8.2
  have gH:∀ j∈x :: i :: (r ++ tail),j < D.d.ops.size:=fun j hj=>by
   rcases List.mem_cons.1 hj with rfl | hj
   ·exact oA
   ·rcases List.mem_cons.1 hj with rfl | hj
    ·exact Ys
    ·rcases List.mem_append.1 hj with hj | hj
     ·exact (OG j (by simp [hj])).1
     ·obtain ⟨_,o,ho,_⟩:=eJ j hj;exact (Array.getElem?_eq_some_iff.1 ho).1
  have ih:=zt hD dM qL xB eJ oA r (fun j hj=>OG j (by simp [hj])) (List.pairwise_cons.2 ⟨fun y hy=>q8.1 y (List.mem_cons_of_mem _ hy),B3.2⟩);generalize D.d.ops[i]=o at ho ja
  have xR:∀ c s0 st,goD X ⟨D.d.ops,D.d.W,D.d.k,D.d.kI,some (goX X D.d x tail r)⟩ 3000 c [(i,o)] s0 st->fm X D c E s0 st a w->runT X.P D.d.ops D.d.W D.C (fun a w=>runX X.P D.d.ops D.d.W D.C (D.Q X) x (r ++ tail) a w) [i] a w:=fun c s0 st hg h=>by
   have h1:=eA (D:=⟨⟨D.d.ops,D.d.W,D.d.k,D.d.kI,some (goX X D.d x tail r)⟩,D.E0,D.wr⟩) hD 3000 c [(i,o)] s0 st hg (fun p hp=>by
    rw [List.mem_singleton] at hp;rw [hp]
    exact ho) E a w ⟨h.rel,h.x,h.β,h.t0,h.cc⟩
   refine ny ?_ h1;rintro a w ⟨c,E,s0,st,h2,h3⟩;exact ih c s0 st h3 E a w ⟨h2.rel,h2.x,h2.β,h2.t0,h2.cc⟩
  simp only [goX,ja] at hg;simp only [List.cons_append,runX,ho];rw [if_neg (by simp [hnd])];split at hg
  ·rename_i hE;obtain ⟨h1,h2⟩:=hg;rw [if_pos hE];have h3:=eA hD 3000 c _ _ _ h1 (fun p hp=>by simpa using uE hp) E a w h;rw [wP gH] at h3;refine ⟨h3,?_⟩;have h4:=xR c s0 st h2 h;simp only [runT,ho,hE,if_true] at h4;exact h4
  ·rename_i hE;rw [if_neg (by simp [hE])];have h4:=xR c s0 st hg h;simp only [runT,ho,hE,Bool.false_eq_true,if_false] at h4;exact h4
theorem OH (x:Nat) (l:List Nat):plc (x :: l) x=0:=by simp [plc]
theorem QS {x j:Nat} (l:List Nat) (h:j≠x):0 < plc (x :: l) j:=by
 have:Nat.beq x j=false:=by
  cases hb:Nat.beq x j
  ·rfl
  ·exact (h (Nat.eq_of_beq_eq_true hb).symm).elim
 simp [plc,this]
theorem U9 {s S:St} (h:ko s S:=by refine ⟨rfl,rfl,?_⟩;repeat' (first | exact trivial | refine ⟨rfl,?_⟩)):s=S∨ko s S:=.inr h
theorem Bb {id:Nat} {ops:Array Oper} {k:List It} {st:St} (W:Nat->Bool) (x:Nat) (pre tail:List Nat) (hm:X.P.follows .mixedOrders=true) (hc:ZQ ops W x pre tail=true) (S:St)
  (h:goX X ⟨ops,W,[.Ej fun s=>s=S∨ko s S],st,none⟩ x tail pre true st.sl st) (hk:go X 4000 k S):x0 X id ops k st:=by
 intro E a w hr;have gV:=kH hr;simp only [ZQ,Bool.and_eq_true] at hc;obtain ⟨⟨⟨⟨⟨⟨hL,hO⟩,hS⟩,hDD⟩,hX⟩,OG⟩,ZR⟩:=hc
 cases O0:ops[x]? with
 | none=>rw [O0] at hX;cases hX
 | some xo=>
 rw [O0] at hX;simp only [Bool.and_eq_true,Bool.not_eq_true'] at hX;obtain ⟨U5,QQ⟩:=hX;simp only [EQ,Bool.and_eq_true,List.all_eq_true,Nat.blt_eq,Nat.ble_eq,beq_iff_eq,List.mem_range] at hL;obtain ⟨⟨⟨⟨_,Q9⟩,h1c⟩,hlen⟩,h1d⟩:=hL;have hp:=pG h1d;have q8:=List.pairwise_cons.1 hp;have dM:=pD hO;have qL:=pB hO
 have VX:∀ j,j≠x->plc (x :: (pre ++ tail)) x < plc (x :: (pre ++ tail)) j:=fun j hj=>by
  rw [OH];exact QS _ hj
 have oA:=(Array.getElem?_eq_some_iff.1 O0).1;have hS':=hS;simp only [ti,List.all_eq_true,List.mem_range,Bool.or_eq_true,Bool.not_eq_true'] at hS'
 have xB:∀ (i:Nat) (o:Oper),ops[i]? = some o->i≠x->gQ o.op=false->ordB ops ops.size x i=false->fV ops W x i=true:=fun i o ho aN he hd=>by
  rcases hS' i (Array.getElem?_eq_some_iff.1 ho).1 x oA with ((h1 | h1) | h1) | h1
  ·have:¬ Nat.blt (plc (x :: (pre ++ tail)) x) (plc (x :: (pre ++ tail)) i)=true:=by simp [h1]
   have:=VX i aN;simp at *;omega
  ·simp [exX,ho,he] at h1
  ·rw [hd] at h1;cases h1
  ·exact h1
 have aN:∀ i∈pre ++ tail,i≠x:=fun i hi e=>by
  have:=q8.1 i hi;rw [e] at this;omega
 have hs:=oD gV (ops:=ops) (W:=W) (k:=[.Ej fun s=>s=S∨ko s S])
 have bZ:=zt (D:=⟨⟨ops,W,[.Ej fun s=>s=S∨ko s S],st,none⟩,E,w.drew⟩) gV.env.em dM qL xB (fun i hi=>by
  refine ⟨aN i (List.mem_append_right _ hi),?_⟩;have:=List.all_eq_true.1 ZR i hi
  cases ho:ops[i]? with
  | none=>rw [ho] at this;cases this
  | some o=>
   rw [ho] at this;simp only [Bool.or_eq_true,Bool.not_eq_true'] at this;exact ⟨o,rfl,this⟩) oA pre (fun i hi=>by
  refine ⟨h1c i (by simp [hi]),?_⟩;have:=List.all_eq_true.1 OG i hi
  simpa using this) hp true st.sl st h E a w.drew hs
 refine wp_region_any hm ?_;refine OE (C:=CC E st.bx w.drew) (Q:=kq X [.Ej fun s=>s=S∨ko s S] .normal) (π:=plc (x :: (pre ++ tail))) O0 U5 QQ VX hO hS hDD (fun a w hq=>?_) ops.size (Array.replicate ops.size false) (pre ++ tail) a _ (by simp) ?_ (by simp [oA]) ?_ hp ?_ (fun _=>hs.cc rfl) bZ
 ·obtain ⟨qN,E1,cf,hJ⟩:=hq;rcases hJ with rfl | hJ
  ·exact go_sound 4000 _ _ hk E1 a w cf
  ·exact go_sound 4000 _ _ hk E1 a w (B6 cf hJ)
 ·intro i o ho hl;have:i < ops.size:=(Array.getElem?_eq_some_iff.1 ho).1;simp [this] at hl
 ·intro i;constructor
  ·intro hi;have:=h1c i (by simp [List.mem_append.1 hi]);exact ⟨aN i hi,this,by simp [this]⟩
  ·rintro ⟨h1,h2,_⟩;have:=Q9 i h2;have h4:i=x∨i∈pre ++ tail:=by simpa using this
   exact h4.resolve_left h1
 ·simp only [List.length_cons] at hlen;exact hlen
end
end Dv
end Go.Proofs.YtfifjddnnmfeoaaGreat
set_option maxRecDepth 100000
namespace Go.Proofs.YtfifjddnnmfeoaaGreat
open Go Go.RowKit Dv Tryz
abbrev wL (lv:List Wd) (f:Nat->Nat->Bool) (ND:List Nd) (z:Int):List DV:=[.sl 2 (bu lv) none,.sl 1 (cz (dm lv.length f)) none,.sl 7 (cR ND) none,.v (.int .i64 z)]
end Go.Proofs.YtfifjddnnmfeoaaGreat
set_option maxRecDepth 100000
namespace Go.Proofs.YtfifjddnnmfeoaaGreat
open Go Go.RowKit Dv Tryz
end Go.Proofs.YtfifjddnnmfeoaaGreat
set_option maxRecDepth 100000
namespace Go.Proofs.YtfifjddnnmfeoaaGreat
open Go Go.RowKit Dv Tryz
abbrev II (n:Nd) (K:List Bool) (s v:Bool) (e:Nat):St:=
 ⟨[(1,⟨[],.sl 1 (vF K) none⟩),(2,⟨[],.loc 0 0⟩),(5,⟨[],.v (.bool s)⟩),(6,⟨[],.v (.bool v)⟩),(7,⟨[],.v (.int .i64 e)⟩)],[jR n],[]⟩
theorem GG {L:Nat} {n:Nd} (K:List Bool) (hK:K.length<=1099511627776) (hn:dI L K.length n) (kj:n.au.length<=1099511627776) :
  EvP Tryz.prog 235 [.agg (jR n),.sl 1 (vF K) none] (.v (.bool (GD n K))):=by
 have oi:=hn.mL;have ZS:=hn.bare;have Er:=hn.k8;obtain ⟨ag,aC,lo,hi,most,af,es⟩:=n;simp only at oi ZS kj Er;refine ev_go (P:=Tryz.prog) tt tt_ok 5000 50 [.tmp 4] Tryz.func235 rfl Tryz.ntmps235 rfl (nL rfl) (fun E9 w9 hn9 hm9=>?_);refine br (fun h7=>?_) (fun h7=>?_)
 ·have h7:ag < 7:=by simpa using h7
  refine (congrArg (fun b=>DV.v (.bool b)) ?_:_=_);simp [GD,h7]
 have h7:¬ ag < 7:=by simpa using h7
 refine aq (fun j st=>∃ e:Nat,st=II ⟨ag,aC,lo,hi,most,af,es⟩ K ((es.take e).any (o8 K)) ((es.take e).all (o8 K)) e/\e<=es.length/\j=es.length - e) es.length (II ⟨ag,aC,lo,hi,most,af,es⟩ K false true 0) (weak_mk ⟨_,rfl⟩ wA rfl rfl rfl wB) ⟨0,by simp,by omega,by omega⟩ ?_;rintro j st ⟨e,rfl,he,rfl⟩;refine br (fun hL=>?_) (fun hL=>?_)
 ·have ap:e < es.length:=by have:=hL;simp [cE] at this;exact this
  obtain ⟨x,hx⟩:∃ x,es[e]? = some x:=⟨_,gE ap⟩;refine ⟨_,⟨by omega,bI hx⟩,?_⟩;have hs:(es.take (e + 1)).any (o8 K)=((es.take e).any (o8 K) || o8 K x):=by rw [List.take_add_one,hx];simp
  have hv:(es.take (e + 1)).all (o8 K)=((es.take e).all (o8 K) && o8 K x):=by rw [List.take_add_one,hx];simp
  generalize (es.take e).any (o8 K)=s at hs ⊢;generalize (es.take e).all (o8 K)=v at hv ⊢;refine br (fun hb=>?_) (fun hb=>?_)
  ·have hb:x.bare=false:=by simpa using hb
   obtain ⟨k,hk,iL⟩:=(oi x (mG hx)).to1 hb;obtain ⟨b,iu⟩:∃ b,K[k]? = some b:=⟨_,gE iL⟩;have hg:(vF K)[(max x.to 0).toNat]? = some [DV.v (.bool b)]:=by rw [show (max x.to 0).toNat=k by omega];exact H7 iu
   have hik:o8 K x=b:=by unfold o8;rw [hb,hk];simp [List.getD_eq_getElem?_getD,iu]
   rw [hik] at hs hv;refine ⟨_,⟨by omega,bI hx⟩,?_⟩;refine ⟨_,⟨by omega,hg⟩,?_⟩;have e5:pickB s true b=(es.take (e + 1)).any (o8 K):=by rw [hs,aj]
   have e6:pickB v b false=(es.take (e + 1)).all (o8 K):=by rw [hv,pickB_and]
   exact ⟨II ⟨ag,aC,lo,hi,most,af,es⟩ K ((es.take (e + 1)).any (o8 K)) ((es.take (e + 1)).all (o8 K)) (e + 1),(weak_mk ⟨_,rfl⟩ wA rfl rfl rfl (by repeat' (first | exact trivial | exact ah rfl | exact cr e5 | exact cr e6 | exact ak (cx ap (by omega)) | refine ⟨⟨_,rfl,?_⟩,?_⟩))),es.length - (e + 1),by omega,e + 1,rfl,by omega,rfl⟩
  ·have hb:x.bare=true:=by simpa using hb
   have hik:o8 K x=true:=by unfold o8;rw [hb];all_goals rfl
   rw [hik] at hs hv;have e5:pickB s true true=(es.take (e + 1)).any (o8 K):=by rw [hs,aj]
   have e6:pickB v true false=(es.take (e + 1)).all (o8 K):=by rw [hv,pickB_and]
   exact ⟨II ⟨ag,aC,lo,hi,most,af,es⟩ K ((es.take (e + 1)).any (o8 K)) ((es.take (e + 1)).all (o8 K)) (e + 1),(weak_mk ⟨_,rfl⟩ wA rfl rfl rfl (by repeat' (first | exact trivial | exact ah rfl | exact cr e5 | exact cr e6 | exact ak (cx ap (by omega)) | refine ⟨⟨_,rfl,?_⟩,?_⟩))),es.length - (e + 1),by omega,e + 1,rfl,by omega,rfl⟩
 ·have aO:e=es.length:=by have:=hL;simp [cE] at this;omega
  subst aO;rw [List.take_length];refine br (fun g=>?_) (fun g=>?_)
  ·have g:ag=7:=by simpa using g
   refine (congrArg (fun b=>DV.v (.bool b)) ?_:_=_);simp [GD,g]
  ·have g:¬ ag=7:=by simpa using g
   refine (congrArg (fun b=>DV.v (.bool b)) ?_:_=_);simp [GD,g,h7]
theorem ZT {bx:List (List DV)} {N n0 m0 n i:Nat} {r:List Bool} (hr:r.length=n) (hN:N<=i) (hb:bx[i]? = some (cB r)):Cc bx N n0 m0 (.sl 1 (vF r) none) (.ms i 1 0 n n):=by
 simp only [Cc];refine Or.inr (Or.inr (Or.inl ⟨i,0,n,_,by rw [tT,hr],hN,hb,?_,?_,?_⟩))
 ·rw [qg,List.drop_zero,List.take_of_length_le (by rw [rK,tT];omega)]
 ·intro x hx;simp only [vF,List.mem_map] at hx;obtain ⟨_,_,rfl⟩:=hx;rfl
 ·intro x hx;rw [qg] at hx;obtain ⟨_,_,rfl⟩:=List.mem_map.1 hx;exact .inl ⟨_,rfl⟩
theorem OI (l:List Nat) (bx:List (List DV)) (N n m:Nat):CcL bx N n m (cN l) (cN l):=by
 induction l with
 | nil=>rfl
 | cons a r ih=>exact ⟨_,_,rfl,rfl,ih⟩
abbrev wG (a b:Nat) (A B:List (List DV)) (ND:List Nd) (z:Int):List DV:=[.sl a A none,.sl b B none,.sl 7 (cR ND) none,.v (.int .i64 z)]
abbrev OJ (W:List DV) (O:List Nat) (K:List Bool) (n d:Nat):St:=
 ⟨[(1,⟨[],.loc 0 0⟩),(3,⟨[],.ms 1 1 0 n n⟩),(4,⟨[],.sl 1 (vF K) none⟩),(5,⟨[],.v (.int .i64 d)⟩)],[W,cN O],[]⟩
abbrev D5 (W:List DV) (O:List Nat) (K:List Bool) (M:List Bool) (n d e:Nat):St:=
 ⟨[(1,⟨[],.loc 0 0⟩),(3,⟨[],.ms 1 1 0 n n⟩),(4,⟨[],.sl 1 (vF K) none⟩),(5,⟨[],.v (.int .i64 d)⟩),(6,⟨[],.ms 2 1 0 n n⟩),(7,⟨[],.v (.int .i64 e)⟩)],[W,cN O,cB M],[]⟩
theorem xW (a b:Nat) (A B:List (List DV)) {ND:List Nd} {L:Nat} (z:Int) (bG:∀ n∈ND,dI L ND.length n) (gI:ND.length<=1099511627776) (bE:∀ n∈ND,n.au.length<=1099511627776) :
  EvP Tryz.prog 191 [.agg (wG a b A B ND z)] (.sl 1 (dInts (depN ND ND.length)) none):=by
 have cH:=kV ND;refine ev_go (P:=Tryz.prog) tt tt_ok 5000 61 [.tmp 2] Tryz.func191 rfl Tryz.ntmps191 rfl (nL rfl) (fun E9 w9 hn9 hm9=>?_);refine ⟨⟨rfl,by omega,by rw [cH];omega,by rw [cH];omega⟩,?_⟩;refine ⟨⟨rfl,by omega,by rw [cH];omega,by rw [cH];omega⟩,?_⟩;refine MK (fun j st=>∃ d:Nat,st=OJ (wG a b A B ND z) (depN ND d) (eZ (depN ND d)) (cR ND).length (d + 1)/\d<=ND.length/\j=ND.length - d) ND.length (OJ (wG a b A B ND z) (depN ND 0) (eZ (depN ND 0)) (cR ND).length 1) (.Hr 2 rfl rfl ?_ rfl ?_) ⟨0,rfl,by omega,by omega⟩ ?_
 ·refine ⟨_,_,rfl,ax,_,_,rfl,?_,rfl⟩;rw [repN,cH];exact OI _ _ _ _ _
 ·refine ⟨⟨_,rfl,aL⟩,⟨_,rfl,aL⟩,⟨_,rfl,ZT (by rw [nh,fB,cH];omega) (Nat.le_refl _) ?_⟩,⟨_,rfl,ax⟩,trivial⟩;refine congrArg some ?_;rw [JR,cH];simp [eZ,depN]
 rintro j st ⟨d,rfl,hd,rfl⟩;have iE:(eZ (depN ND d)).length=ND.length:=by rw [nh,fB]
 refine br (fun hc=>?_) (fun hc=>?_)
 ·have ap:d < ND.length:=by have:=hc;simp [cH] at this;omega
  refine ⟨⟨rfl,by omega,by rw [cH];omega,by rw [cH];omega⟩,?_⟩;refine aq (fun j st=>∃ (e:Nat) (O:List Nat) (M:List Bool),st=D5 (wG a b A B ND z) O (eZ (depN ND d)) M (cR ND).length (d + 1) e/\e<=ND.length/\O.length=ND.length/\M.length=ND.length/\(∀ i:Nat,i < e->O.getD i 0=(depN ND (d + 1)).getD i 0/\M.getD i false=(eZ (depN ND (d + 1))).getD i false)/\(∀ i:Nat,e<=i->O.getD i 0=(depN ND d).getD i 0)/\j=ND.length - e) ND.length (D5 (wG a b A B ND z) (depN ND d) (eZ (depN ND d)) (List.replicate ((cR ND).length:Int).toNat false) (cR ND).length (d + 1) 0) (az 3 rfl (by repeat' (first | exact rfl | exact ah rfl | exact ni rfl | exact dt (JR _) | refine ⟨_,_,rfl,?_,?_⟩)) rfl rfl rfl (by repeat' (first | exact trivial | exact ah rfl | exact ni rfl | exact dt (JR _) | refine ⟨⟨_,rfl,?_⟩,?_⟩))) ⟨0,_,_,rfl,by omega,by rw [fB],by rw [List.length_replicate,cH];omega,fun i hi=>by omega,fun i _=>rfl,by omega⟩ ?_;rintro j st ⟨e,O,M,rfl,he,hO,hM,o6,IW,rfl⟩;refine br (fun hL=>?_) (fun hL=>?_)
  ·have fQ:e < ND.length:=by have:=hL;simp [cH] at this;exact this
   obtain ⟨n,hn⟩:∃ n,ND[e]? = some n:=⟨_,gE fQ⟩;have A8:=mG hn;have h1:=GG (eZ (depN ND d)) (by rw [iE];exact gI) (n:=n) (by rw [iE];exact bG n A8) (bE n A8);obtain ⟨r1,r2⟩:=OC (fun m hm=>⟨(bG m hm).k8,(bG m hm).bare⟩) d hn;refine ⟨_,⟨by omega,fx hn⟩,?_⟩;refine call_p XN (h1) ax rfl ?_
   have aT:(cB M).set (0 + (e:Int).toNat * 1) (DV.v (.bool (GD n (eZ (depN ND d)))))=cB (M.set e (GD n (eZ (depN ND d)))):=by
    rw [show 0 + (e:Int).toNat * 1=e by omega,Aw]
   have Qa:(cB (M.set e (GD n (eZ (depN ND d)))))[0 + (e:Int).toNat * 1]? = some (DV.v (.bool (GD n (eZ (depN ND d))))):=by
    rw [show 0 + (e:Int).toNat * 1=e by omega];exact Nj (List.getElem?_set_self (by omega))
   obtain ⟨q,hq⟩:∃ q,O[e]? = some q:=⟨_,gE (by omega)⟩;have hqd:(depN ND d).getD e 0=q:=by rw [<- IW e (Nat.le_refl _),List.getD_eq_getElem?_getD,hq];all_goals rfl
   rw [hqd] at r1
   have hMs:∀ i:Nat,i < e + 1->(M.set e (GD n (eZ (depN ND d)))).getD i false=(eZ (depN ND (d + 1))).getD i false:=fun i hi=>by
    by_cases HB:i=e
    ·subst HB;rw [r2,List.getD_eq_getElem?_getD,List.getElem?_set_self (by omega)];all_goals rfl
    ·rw [List.getD_eq_getElem?_getD,List.getElem?_set_ne (Ne.symm HB),<- List.getD_eq_getElem?_getD];exact (o6 i (by omega)).2
   generalize GD n (eZ (depN ND d))=h at aT Qa r1 hMs ⊢;refine ⟨⟨by omega,by rw [cH];omega⟩,?_⟩;refine ⟨by rw [rK];omega,?_⟩;refine ⟨⟨by omega,by rw [cH];omega⟩,?_⟩;refine ⟨DV.v (.bool h),(by rw [aT];exact Qa),?_⟩
   have hOs:∀ v,v=(depN ND (d + 1)).getD e 0->∀ i:Nat,i < e + 1->(O.set e v).getD i 0=(depN ND (d + 1)).getD i 0:=fun v hv i hi=>by
    by_cases HB:i=e
    ·subst HB;rw [<- hv,List.getD_eq_getElem?_getD,List.getElem?_set_self (by omega)];all_goals rfl
    ·rw [List.getD_eq_getElem?_getD,List.getElem?_set_ne (Ne.symm HB),<- List.getD_eq_getElem?_getD];exact (o6 i (by omega)).1
   have hOr:∀ v:Nat,∀ i:Nat,e + 1<=i->(O.set e v).getD i 0=(depN ND d).getD i 0:=fun v i hi=>by
    rw [List.getD_eq_getElem?_getD,List.getElem?_set_ne (by omega),<- List.getD_eq_getElem?_getD];exact IW i (by omega)
   have hOq:O.set e q=O:=List.ext_getElem? fun i=>by
    by_cases HB:e=i
    ·subst HB;rw [List.getElem?_set_self (by omega),hq]
    ·rw [List.getElem?_set_ne HB]
   refine br (fun g=>?_) (fun g=>?_)
   ·have g:h=true:=by simpa using g
    refine ⟨⟨by omega,by rw [cH];omega⟩,?_⟩;refine ⟨DV.v (.int .i64 (q:Int)),(by rw [show 0 + (e:Int).toNat * 1=e by omega];exact U3 hq),?_⟩;refine br (fun g2=>?_) (fun g2=>?_)
    ·have g2:q=0:=by simpa [pickB,pickD] using g2
     rw [if_pos ⟨g,g2⟩] at r1;refine ⟨⟨by omega,by rw [cH];omega⟩,?_⟩;refine ⟨by rw [OD];omega,?_⟩
     have KJ:(cN O).set (0 + (e:Int).toNat * 1) (DV.v (.int .i64 ((d + 1:Nat):Int)))=cN (O.set e (d + 1)):=by
      rw [show 0 + (e:Int).toNat * 1=e by omega,U4]
     exact ⟨D5 (wG a b A B ND z) (O.set e (d + 1)) (eZ (depN ND d)) (M.set e h) (cR ND).length (d + 1) (e + 1),(az 3 rfl (by repeat' (first | exact rfl | exact ah rfl | exact ni KJ | exact dt aT | exact ak (cx fQ (by omega)) | refine ⟨_,_,rfl,?_,?_⟩)) rfl rfl rfl (by repeat' (first | exact trivial | exact ah rfl | exact ni KJ | exact dt aT | exact ak (cx fQ (by omega)) | refine ⟨⟨_,rfl,?_⟩,?_⟩))),ND.length - (e + 1),by omega,e + 1,_,_,rfl,by omega,by simp [hO],by rw [List.length_set];exact hM,fun i hi=>⟨hOs _ r1.symm i hi,hMs i hi⟩,hOr (d + 1),rfl⟩
    ·have g2:¬ q=0:=by simpa [pickB,pickD] using g2
     rw [if_neg (fun h=>g2 h.2)] at r1;exact ⟨D5 (wG a b A B ND z) (O.set e q) (eZ (depN ND d)) (M.set e h) (cR ND).length (d + 1) (e + 1),(az 3 rfl (by repeat' (first | exact rfl | exact ah rfl | exact ni (by rw [hOq]) | exact dt aT | exact ak (cx fQ (by omega)) | refine ⟨_,_,rfl,?_,?_⟩)) rfl rfl rfl (by repeat' (first | exact trivial | exact ah rfl | exact ni (by rw [hOq]) | exact dt aT | exact ak (cx fQ (by omega)) | refine ⟨⟨_,rfl,?_⟩,?_⟩))),ND.length - (e + 1),by omega,e + 1,_,_,rfl,by omega,by simp [hO],by rw [List.length_set];exact hM,fun i hi=>⟨hOs _ r1.symm i hi,hMs i hi⟩,hOr q,rfl⟩
   ·have g:h=false:=by simpa using g
    rw [if_neg (by rw [g];simp)] at r1;exact ⟨D5 (wG a b A B ND z) (O.set e q) (eZ (depN ND d)) (M.set e h) (cR ND).length (d + 1) (e + 1),(az 3 rfl (by repeat' (first | exact rfl | exact ah rfl | exact ni (by rw [hOq]) | exact dt aT | exact ak (cx fQ (by omega)) | refine ⟨_,_,rfl,?_,?_⟩)) rfl rfl rfl (by repeat' (first | exact trivial | exact ah rfl | exact ni (by rw [hOq]) | exact dt aT | exact ak (cx fQ (by omega)) | refine ⟨⟨_,rfl,?_⟩,?_⟩))),ND.length - (e + 1),by omega,e + 1,_,_,rfl,by omega,by simp [hO],by rw [List.length_set];exact hM,fun i hi=>⟨hOs _ r1.symm i hi,hMs i hi⟩,hOr q,rfl⟩
  ·have aO:e=ND.length:=by have:=hL;simp [cH] at this;omega
   subst aO
   have hO2:O=depN ND (d + 1):=OB (by rw [hO,fB]) fun j=>by
    rcases Nat.lt_or_ge j ND.length with hj | hj
    ·exact (o6 j hj).1
    ·simp only [List.getD_eq_getElem?_getD];rw [List.getElem?_eq_none (by omega),List.getElem?_eq_none (by rw [fB];omega)]
   have hM2:M=eZ (depN ND (d + 1)):=CJ (by rw [hM,nh,fB]) (fun j hj=>by
     rcases Nat.lt_or_ge j ND.length with h | h
     ·rw [<- (o6 j h).2];exact hj
     ·rw [List.getD_eq_getElem?_getD,List.getElem?_eq_none (by omega)] at hj;cases hj) (fun j hj=>by
     rcases Nat.lt_or_ge j ND.length with h | h
     ·rw [(o6 j h).2];exact hj
     ·rw [List.getD_eq_getElem?_getD,List.getElem?_eq_none (by rw [nh,fB];omega)] at hj;cases hj)
   subst hO2 hM2;refine ⟨OJ (wG a b A B ND z) (depN ND (d + 1)) (eZ (depN ND (d + 1))) (cR ND).length (d + 1 + 1),.Hr 2 rfl rfl ⟨_,_,rfl,ax,_,_,rfl,OI _ _ _ _ _,rfl⟩ rfl ⟨⟨_,rfl,aL⟩,⟨_,rfl,aL⟩,⟨_,rfl,ZT (by rw [nh,fB,cH]) (Nat.le_refl _) rfl⟩,⟨_,rfl,?_⟩,trivial⟩,ND.length - (d + 1),by omega,d + 1,rfl,by omega,rfl⟩;exact congrArg (fun z=>DV.v (Value.int .i64 z)) (cx (n:=1099511627777) (by omega) (by omega))
 ·have aO:d=ND.length:=by have:=hc;simp [cH] at this;omega
  subst aO;exact ⟨_,ms_n (by rw [fB,cH]) (Nat.zero_le _) rfl,rfl⟩
end Go.Proofs.YtfifjddnnmfeoaaGreat
set_option maxRecDepth 100000
namespace Go.Proofs.YtfifjddnnmfeoaaGreat
open Go Go.RowKit Dv Tryz
end Go.Proofs.YtfifjddnnmfeoaaGreat
set_option maxRecDepth 100000
namespace Go.Proofs.YtfifjddnnmfeoaaGreat
open Go Go.RowKit Dv Tryz
def exH (k:Int):Hd:=⟨k,0,0,0,0,[],⟨al,0⟩⟩
theorem D6 {S:Sch} (hF:vT S) {i:Nat} {n:Nd} (h:(aR S)[i]? = some n) {e:Ed} (he:e∈n.au) (hb:e.bare=true):e.ck=0:=by
 have Er:=(rT hF h).bare e he hb;rw [jg] at h;obtain ⟨t,ht,u,hu,rfl,ki⟩:=vX h;have KU:=vV t ⟨_,_,hF.wr t ht⟩ u hu;have hT:=F6 KU;obtain ⟨uh,us⟩:=u;simp only [Ty.h,Ty.ps] at hT;obtain ⟨p,v,k',h1,rfl,_⟩:=qm he;obtain ⟨j,hj⟩:=List.mem_iff_getElem?.1 h1;obtain ⟨_,hP⟩:=(hT.many (.inr Er)).2.2 j p v hj;rcases hP with ⟨_,_,_,iE⟩ | ⟨dS,_⟩
 ·exact (nN iE).2.2.1
 ·have:p.bare=true:=hb;rw [dS] at this;cases this
def IJ (ck:Int):Int:=if ck=3 then 5 else if ck=2 then 3 else 2
def GH (f:Nat->Nat->Bool) (ND:List Nd) (e:Ed):Prop:=e.ck≠0->(∃ m,ND[e.to.toNat]? = some m/\m.ag=IJ e.ck)/\f e.seen.toNat e.label.toNat=true/\f e.label.toNat e.seen.toNat=false
def OL (f:Nat->Nat->Bool) (ND:List Nd):Prop:=∀ n∈ND,∀ e∈n.au,GH f ND e
abbrev OM (W:List DV) (e:Nat):St:=⟨[(1,⟨[],.loc 0 0⟩),(2,⟨[],.loc 1 0⟩),(3,⟨[],.v (.int .i64 e)⟩)],[W,[.v (.int .i64 0),.v (.int .i64 0)]],[]⟩
abbrev Bc (W:List DV) (es:List Ed) (e k:Nat):St:=⟨[(1,⟨[],.loc 0 0⟩),(2,⟨[],.loc 1 0⟩),(3,⟨[],.v (.int .i64 e)⟩),(4,⟨[],.sl 10 (fv es) none⟩),(5,⟨[],.v (.int .i64 k)⟩)],[W,[.v (.int .i64 0),.v (.int .i64 0)]],[]⟩
def W20Φ (f:Nat->Nat->Bool) (ND:List Nd) (r:DV):Prop:=∃ ft:Ft,r=ft.d/\(ft.1=0->OL f ND)
theorem Bd (lv:List Wd) (f:Nat->Nat->Bool) (ND:List Nd) (z:Int) (hn:lv.length<=32) (bG:∀ n∈ND,dI lv.length ND.length n) (gI:ND.length<=1099511627776) (bE:∀ n∈ND,n.au.length<=1099511627776) (ZB:∀ n∈ND,∀ e∈n.au,e.bare=true->e.ck=0) :
  Ev Tryz.prog 192 [.agg (wL lv f ND z)] [] [] (fun r _ _=>W20Φ f ND r):=by
 have B7:=kV ND;refine ev_go (P:=Tryz.prog) tt tt_ok 5000 79 [.cell 2 54] Tryz.func192 rfl Tryz.ntmps192 rfl (nL rfl) (fun E9 w9 hn9 hm9=>?_);refine aq (fun j st=>∃ e:Nat,st=OM (wL lv f ND z) e/\e<=ND.length/\(∀ c n,c < e->ND[c]? = some n->∀ x∈n.au,GH f ND x)/\j=ND.length - e) ND.length (OM (wL lv f ND z) 0) (weak_mk ⟨_,rfl⟩ wA rfl rfl rfl wB) ⟨0,rfl,by omega,fun _ _ h=>by omega,by omega⟩ ?_;rintro j st ⟨e,rfl,he,eI,rfl⟩;refine br (fun hL=>?_) (fun hL=>?_)
 ·have ap:e < ND.length:=by simpa [B7] using hL
  obtain ⟨d,hd⟩:∃ d,ND[e]? = some d:=⟨_,gE ap⟩;have hm:=mG hd;have hN:=bG d hm;have kj:=bE d hm;have cH:=cE d.au;have hbd:=ZB d hm;refine ⟨_,⟨by omega,fx hd⟩,?_⟩;refine aq (fun j st=>∃ k:Nat,st=Bc (wL lv f ND z) d.au e k/\k<=d.au.length/\(∀ c x,c < k->d.au[c]? = some x->GH f ND x)/\j=d.au.length - k) d.au.length (Bc (wL lv f ND z) d.au e 0) (weak_mk ⟨_,rfl⟩ wA rfl rfl rfl wB) ⟨0,rfl,by omega,fun _ _ h=>by omega,by omega⟩ ?_;rintro j st ⟨k,rfl,hk,C9,rfl⟩;refine br (fun jD=>?_) (fun jD=>?_)
  ·have gF:k < d.au.length:=by simpa [cH] using jD
   obtain ⟨x,hx⟩:∃ x,d.au[k]? = some x:=⟨_,gE gF⟩;have ZU:=mG hx;obtain ⟨nK,⟨h2,CH⟩,h3,Kv⟩:=k0 hN ZU;have lx:=hbd x ZU;have Va:=(hN.mL x ZU).ck
   have zf:GH f ND x->∀ c y,c < k + 1->d.au[c]? = some y->GH f ND y:=fun h c y hc hy=>by
    rcases Nat.lt_succ_iff_lt_or_eq.1 hc with h1 | h1
    ·exact C9 c y h1 hy
    ·rw [h1,hx] at hy;simp only [oI] at hy;rw [<- hy];exact h
   have hE:GH f ND x=(x.ck≠0->(∃ m,ND[x.to.toNat]? = some m/\m.ag=IJ x.ck)/\f x.seen.toNat x.label.toNat=true/\f x.label.toNat x.seen.toNat=false):=rfl;generalize GH f ND x=EX at hE zf;obtain ⟨en,eb,ea,et,D7,ew,ml,D8,D9,xX⟩:=x;simp only at h2 CH h3 Kv nK lx Va hE;obtain ⟨lb,rfl⟩:∃ n:Nat,D7=n:=⟨_,h2⟩;obtain ⟨sn,rfl⟩:∃ n:Nat,D9=n:=⟨_,h3⟩;simp only [Int.toNat_natCast] at CH Kv hE;refine ⟨_,⟨by omega,bI hx⟩,?_⟩;refine br (fun g=>?_) (fun g=>?_)
   ·have g:ml=0:=by simpa using g
    exact ⟨Bc (wL lv f ND z) d.au e (k + 1),(az 2 rfl (Em gF) rfl rfl rfl (wNB gF)),d.au.length - (k + 1),by omega,k + 1,rfl,by omega,zf (by rw [hE];intro h;exact absurd g h),rfl⟩
   have g:¬ ml=0:=by simpa using g
   obtain ⟨h1,ta⟩:=nK (by
    cases hb:eb
    ·rfl
    ·exact absurd (lx hb) g)
   obtain ⟨tn,rfl⟩:∃ n:Nat,et=n:=⟨_,h1⟩;simp only [Int.toNat_natCast] at ta hE;obtain ⟨m,hmt⟩:∃ m,ND[tn]? = some m:=⟨_,gE ta⟩
   have hW:∀ w:Int,w=IJ ml->(m.ag=w/\f sn lb=true/\f lb sn=false)->EX:=fun w h1 h2=>by
    rw [hE];exact fun _=>⟨⟨m,hmt,by rw [<- h1];exact h2.1⟩,h2.2⟩
   have h3c:ml=1∨ml=2∨ml=3:=by omega
   rcases h3c with rfl | rfl | rfl
   all_goals
    refine ⟨_,⟨Int.natCast_nonneg _,fx hmt⟩,?_⟩;refine br (fun c1=>?_) (fun c1=>?_)
    ·exact ⟨Ft.d (14,xX),ax,(14,xX),rfl,fun h=>by simp at h⟩
    refine aE (fun _=>false) mo (by decide +kernel) ?_;refine ⟨_,⟨Int.natCast_nonneg _,dh Kv⟩,?_⟩;refine ⟨_,⟨Int.natCast_nonneg _,cw CH⟩,?_⟩;refine br (fun c2=>?_) (fun c2=>?_)
    ·refine ⟨_,⟨Int.natCast_nonneg _,dh CH⟩,?_⟩;refine ⟨_,⟨Int.natCast_nonneg _,cw Kv⟩,?_⟩;refine br (fun c3=>?_) (fun c3=>?_)
     ·exact ⟨Ft.d (18,xX),ax,(18,xX),rfl,fun h=>by simp at h⟩
     ·have hx:=zf (hW _ rfl ⟨by simpa [IJ] using c1,by simpa using c2,by simpa [pickB] using c3⟩);exact ⟨Bc (wL lv f ND z) d.au e (k + 1),(az 2 rfl (Em gF) rfl rfl rfl (wNB gF)),d.au.length - (k + 1),by omega,k + 1,rfl,by omega,hx,rfl⟩
    ·exact ⟨Ft.d (18,xX),ax,(18,xX),rfl,fun h=>by simp at h⟩
  ·have aO:k=d.au.length:=by have:=jD;simp [cH] at this;omega
   subst aO
   exact ⟨OM (wL lv f ND z) (e + 1),(weak_mk ⟨_,rfl⟩ wA rfl rfl rfl (wNB ap)),ND.length - (e + 1),by omega,e + 1,rfl,by omega,fun c n hc hn x VH=>by
    rcases Nat.lt_succ_iff_lt_or_eq.1 hc with h1 | h1
    ·exact eI c n h1 hn x VH
    ·rw [h1,hd] at hn;simp only [oI] at hn;rw [<- hn] at VH;obtain ⟨q,hq⟩:=List.mem_iff_getElem?.1 VH
     exact C9 q x (gS hq).1 hq,rfl⟩
 ·have aO:e=ND.length:=by have:=hL;simp [B7] at this;omega
  subst aO
  exact ⟨Ft.d (0,0),ax,(0,0),rfl,fun _ n hn x hx=>by
   obtain ⟨q,hq⟩:=List.mem_iff_getElem?.1 hn
   exact eI q n (gS hq).1 hq x hx⟩
structure wQ (S:Sch):Prop where
 KK:(ky S).1=0
 live:∀ i:Nat,i < (aR S).length->(depN (aR S) (aR S).length).getD i 0≠0
 eff:OL (cA S) (aR S)
abbrev ON (S:Sch) (a b:Int) (W:List DV) (D:List Nat) (e:Nat):St:=
 ⟨[(1,⟨[],.loc 0 0⟩),(3,⟨[],.loc 1 0⟩),(5,⟨[],.loc 3 0⟩),(6,⟨[],.sl 1 (dInts D) none⟩),(7,⟨[],.v (.int .i64 e)⟩)],[eK S,[.v (.int .i64 0),.v (.int .i64 0)],[.v (.int .i64 a),.v (.int .i64 b)],W],[]⟩
theorem Be (S:Sch) (hS:S.wt<=1099511627776):Ev Tryz.prog 130 [.agg (eK S)] [] [] (fun r _ _=>∃ (z:Int) (ft:Ft),r = .tup [.v (.int .i64 z),ft.d]/\(z=0->wQ S)):=by
 have KU:=AF S hS;have hw:=fun h=>ql S hS h;generalize hR:ky S=R at KU;obtain ⟨ae,order,types,⟨rh,rp⟩⟩:=S;refine ev_go (P:=Tryz.prog) tt tt_ok 5000 44 [.tmp 2,.cell 3 54] Tryz.func130 rfl Tryz.ntmps130 rfl (nL rfl) (fun E9 w9 hn9 hm9=>?_);refine call_p Xt (KU) ax rfl ?_;refine br (fun g=>?_) (fun g=>?_)
 ·refine aP mo (by decide +kernel) ?_;exact ⟨.tup [.v (.int .i64 2),Ft.d R],ax,2,R,rfl,fun h=>by simp at h⟩
 have g:R.1=0:=by simpa using g
 have h0:(ky ⟨ae,order,types,.mk rh rp⟩).1=0:=by rw [hR];exact g
 have hF:=qk h0;have hw:=hw h0;obtain ⟨Zp,JP⟩:=kU hF.lat;have bG:=fun n (hn:n∈aR ⟨ae,order,types,.mk rh rp⟩)=>(List.mem_iff_getElem?.1 hn).elim fun i hi=>rT hF hi;have gI:(aR ⟨ae,order,types,.mk rh rp⟩).length<=1099511627776:=by rw [lX];exact Nat.le_trans (F5 _) hS
 have bE:=fun n (hn:n∈aR ⟨ae,order,types,.mk rh rp⟩)=>(nO hn hS).2;have ZB:=fun n (hn:n∈aR ⟨ae,order,types,.mk rh rp⟩)=>(List.mem_iff_getElem?.1 hn).elim fun i hi e he hb=>D6 hF hi (e:=e) he hb;have h19:=fun A B=>xW 2 1 A B (bN ⟨ae,order,types,.mk rh rp⟩) bG gI bE;have ZV:=Bd ae (cA ⟨ae,order,types,.mk rh rp⟩) (aR ⟨ae,order,types,.mk rh rp⟩) (bN ⟨ae,order,types,.mk rh rp⟩) JP bG gI bE ZB;have TZ:(∀ i:Nat,i < (aR ⟨ae,order,types,.mk rh rp⟩).length->(depN (aR ⟨ae,order,types,.mk rh rp⟩) (aR ⟨ae,order,types,.mk rh rp⟩).length).getD i 0≠0)->OL (cA ⟨ae,order,types,.mk rh rp⟩) (aR ⟨ae,order,types,.mk rh rp⟩)->wQ ⟨ae,order,types,.mk rh rp⟩:=fun h1 h2=>⟨h0,h1,h2⟩;have HF:=fB (aR ⟨ae,order,types,.mk rh rp⟩) (aR ⟨ae,order,types,.mk rh rp⟩).length;generalize depN (aR ⟨ae,order,types,.mk rh rp⟩) (aR ⟨ae,order,types,.mk rh rp⟩).length=D at h19 TZ HF;unfold cA at ZV TZ;generalize ez (Sch.mk ae order types (.mk rh rp)).ae.length (cT (av (Sch.mk ae order types (.mk rh rp)).ae) (Sch.mk ae order types (.mk rh rp)).order)=f at hw ZV TZ;generalize aR ⟨ae,order,types,.mk rh rp⟩=ND at hw h19 ZV TZ HF gI bE ZB bG;generalize bN ⟨ae,order,types,.mk rh rp⟩=rt at hw h19 ZV;have xr:=bh D;obtain ⟨R1,R2⟩:=R;simp only at g;subst g;refine call_p Tu (hw) ax rfl ?_;refine call_p Xu (h19 _ _) ax rfl ?_;refine aq (fun j st=>∃ e:Nat,st=ON ⟨ae,order,types,.mk rh rp⟩ 0 R2 (wL ae f ND rt) D e/\e<=D.length/\(∀ i < e,D.getD i 0≠0)/\j=D.length - e) D.length (ON ⟨ae,order,types,.mk rh rp⟩ 0 R2 (wL ae f ND rt) D 0) (weak_mk ⟨_,rfl⟩ wA rfl rfl rfl wB) ⟨0,rfl,by omega,fun _ h=>by omega,by omega⟩ ?_;rintro j st ⟨e,rfl,he,eI,rfl⟩;refine br (fun hL=>?_) (fun hL=>?_)
 ·have ap:e < D.length:=by simpa [xr] using hL
  obtain ⟨x,hx⟩:∃ x,D[e]? = some x:=⟨_,gE ap⟩;obtain ⟨d,hd⟩:∃ d,ND[e]? = some d:=⟨_,gE (by omega)⟩;refine ⟨_,⟨by omega,dO hx⟩,?_⟩;refine br (fun c=>?_) (fun c=>?_)
  ·refine aP mo (by decide +kernel) ?_;refine ⟨_,⟨by omega,fx hd⟩,?_⟩;exact ⟨.tup [.v (.int .i64 3),Ft.d (11,d.aC)],ax,3,(11,d.aC),rfl,fun h=>by simp at h⟩
  ·have c:x≠0:=by simp at c;omega
   exact ⟨ON ⟨ae,order,types,.mk rh rp⟩ 0 R2 (wL ae f ND rt) D (e + 1),(az 4 rfl (Em ap) rfl rfl rfl (wNB ap)),D.length - (e + 1),by omega,e + 1,rfl,by omega,fun i hi=>by
    rcases Nat.lt_succ_iff_lt_or_eq.1 hi with h1 | h1
    ·exact eI i h1
    ·rw [h1,List.getD_eq_getElem?_getD,hx];exact c,rfl⟩
 ·have aO:e=D.length:=by have:=hL;simp [xr] at this;omega
  subst aO;refine bq Xv rfl ZV ax (fun r hr=>?_);obtain ⟨ft,rfl,KV⟩:=hr;refine br (fun c=>?_) (fun c=>?_)
  ·refine aP mo (by decide +kernel) ?_;exact ⟨.tup [.v (.int .i64 4),Ft.d ft],ax,4,ft,rfl,fun h=>by simp at h⟩
  ·have c:ft.1=0:=by simpa using c
   exact ⟨.tup [.v (.int .i64 0),Ft.d (0,0)],ax,0,(0,0),rfl,fun _=>TZ (fun i hi=>eI i (by omega)) (KV c)⟩
theorem Ea (S:Sch) (hS:S.wt<=1099511627776):Ev Tryz.prog 72 [.agg (eK S)] [] [] (fun r _ _=>∃ b:Bool,r = .v (.bool b)/\(b=true->wQ S)):=by
 have hw:=Be S hS;obtain ⟨ae,order,types,⟨rh,rp⟩⟩:=S;refine ev_go (P:=Tryz.prog) tt tt_ok 5000 12 [.tmp 2] Tryz.func72 rfl Tryz.ntmps72 rfl (nL rfl) (fun E9 w9 hn9 hm9=>?_);refine bq Xa rfl hw ax (fun r hr=>?_);obtain ⟨z,ft,rfl,hz⟩:=hr;exact ⟨_,rfl,fun h=>hz (by simpa using h)⟩
end Go.Proofs.YtfifjddnnmfeoaaGreat
set_option maxRecDepth 100000
namespace Go.Proofs.YtfifjddnnmfeoaaGreat
open Go Go.RowKit Dv Tryz
end Go.Proofs.YtfifjddnnmfeoaaGreat
namespace Go.Proofs.YtfifjddnnmfeoaaGreat
namespace Dv
open Go Go.RowKit
section
variable {P:Program} {ops:Array Oper} {C:World->Prop} {Q:Act->World->Prop} {W:Nat->Bool}
end
section
variable {X:Ctx} {D:Dw}
end
end Dv
end Go.Proofs.YtfifjddnnmfeoaaGreat
set_option maxRecDepth 100000
namespace Go.Proofs.YtfifjddnnmfeoaaGreat
open Go Go.RowKit Dv Tryz
theorem qH (lv:List Wd) (f:Nat->Nat->Bool) (ND:List Nd) (z:Int) (hL:dZ f lv.length) (hn:lv.length<=32) (d:Nd) (e:Ed) (a:Nat) (ha:a < lv.length) (hN:dI lv.length ND.length d) (hm:e∈d.au) :
  EvP Tryz.prog 146 [.agg (wL lv f ND z),.agg (jR d),.agg (vx e),.v (.int .i64 a)] (.v (.int .i64 (if d.ag < 7 then a else xm f lv.length a e.label.toNat:Nat))):=by
 obtain ⟨_,⟨h2,CH⟩,_⟩:=k0 hN hm;obtain ⟨ag,aC,lo,hi,most,af,es⟩:=d;obtain ⟨en,eb,ea,et,D7,ew,ml,D8,D9,xX⟩:=e;simp only at h2 CH;obtain ⟨lb,rfl⟩:∃ n:Nat,D7=n:=⟨_,h2⟩;simp only [Int.toNat_natCast] at CH ⊢;have hj:=ka lv.length f (by omega) a lb ha CH;rw [wF hL ha CH] at hj;refine ev_go (P:=Tryz.prog) tt tt_ok 5000 19 [.tmp 8] Tryz.func146 rfl Tryz.ntmps146 rfl (nL rfl) (fun E9 w9 hn9 hm9=>?_);refine br (fun c=>?_) (fun c=>?_)
 ·have c:ag < 7:=by simpa using c
  rw [if_pos c];exact (rfl:_=_)
 ·have c:¬ ag < 7:=by simpa using c
  rw [if_neg c];refine call_p Hx (hj) ax rfl ?_;exact (rfl:_=_)
theorem GI (lv:List Wd) (f:Nat->Nat->Bool) (ND:List Nd) (z:Int) (hL:dZ f lv.length) (hn:lv.length<=32) (d:Nd) (e:Ed) (bQ a:Nat) (ho:bQ < lv.length) (ha:a < lv.length) (hN:dI lv.length ND.length d) (hm:e∈d.au) :
  EvP Tryz.prog 145 [.agg (wL lv f ND z),.v (.int .i64 bQ),.agg (jR d),.agg (vx e),.v (.int .i64 a)] (.v (.int .i64 (r8 f lv.length bQ d e a:Nat))):=by
 have hu:=qH lv f ND z hL hn d e a ha hN hm;obtain ⟨_,⟨h2,CH⟩,h3,Kv⟩:=k0 hN hm
 have hul:(if d.ag < 7 then a else xm f lv.length a e.label.toNat) < lv.length:=by
  split
  ·exact ha
  ·exact A2 hL ha CH
 have hH:r8 f lv.length bQ d e a=if f (if d.ag < 7 then a else xm f lv.length a e.label.toNat) bQ=true then 2 else if e.ck≠0/\f (xm f lv.length a e.seen.toNat) bQ=true then 1 else 0:=rfl
 generalize r8 f lv.length bQ d e a=H at hH ⊢;generalize (if d.ag < 7 then a else xm f lv.length a e.label.toNat)=u at hu hul hH;obtain ⟨ag,aC,lo,hi,most,af,es⟩:=d;obtain ⟨en,eb,ea,et,D7,ew,ml,D8,D9,xX⟩:=e;simp only at h3 Kv hH;obtain ⟨sn,rfl⟩:∃ n:Nat,D9=n:=⟨_,h3⟩;simp only [Int.toNat_natCast] at Kv hH;have hj:=ka lv.length f (by omega) a sn ha Kv;rw [wF hL ha Kv] at hj;have lh:=A2 hL ha Kv;refine ev_go (P:=Tryz.prog) tt tt_ok 5000 41 [.tmp 10] Tryz.func145 rfl Tryz.ntmps145 rfl (nL rfl) (fun E9 w9 hn9 hm9=>?_);refine aE (fun _=>false) mo (by decide +kernel) ?_;refine ay Rr (hu) ax rfl ?_;refine ⟨_,⟨by omega,dh hul⟩,?_⟩;refine ⟨_,⟨by omega,cw ho⟩,?_⟩;refine br (fun c=>?_) (fun c=>?_)
 ·have c:f u bQ=true:=by simpa using c
  rw [if_pos c] at hH;subst hH;exact (rfl:_=_)
 have c:f u bQ=false:=by simpa using c
 rw [if_neg (by rw [c];simp)] at hH;refine aE (fun _=>false) mo (by decide +kernel) ?_;refine br (fun g=>?_) (fun g=>?_)
 ·have g:ml≠0:=by simpa using g
  refine ay Hx (hj) ax rfl ?_;refine ⟨_,⟨by simp [oz],by simpa [oz] using dh lh⟩,?_⟩;refine ⟨_,⟨by omega,cw ho⟩,?_⟩;refine br (fun c2=>?_) (fun c2=>?_)
  ·have c2:f (xm f lv.length a sn) bQ=true:=by simpa [pickB] using c2
   rw [if_pos ⟨g,c2⟩] at hH;subst hH;exact (rfl:_=_)
  ·have c2:f (xm f lv.length a sn) bQ=false:=by simpa [pickB] using c2
   rw [if_neg (by rw [c2];simp)] at hH;subst hH;exact (rfl:_=_)
 ·have g:ml=0:=by simpa using g
  rw [if_neg (by simp [g])] at hH;subst hH;exact (rfl:_=_)
theorem GJ {ND:List Nd} {ks:List Val} {f:Nat->Int} {e:Nat} {x:Val} (h:ks[e]? = some x):refVs ND (ks.drop e) f e=(wx ND x (f e) && refVs ND (ks.drop (e + 1)) f (e + 1)):=by
 rw [drop_cons h,refVs]
abbrev Vb (W:List DV) (v:Val) (d:Nd) (ok:Bool) (e:Nat):St:=
 ⟨[(3,⟨[],.loc 0 0⟩),(5,⟨[],.loc 1 0⟩),(7,⟨[],.loc 2 0⟩),(8,⟨[],.v (.bool ok)⟩),(9,⟨[],.v (.int .i64 e)⟩)],[W,aU v,jR d],[]⟩
set_option maxHeartbeats 4000000 in
theorem sX (a b:Nat) (A B:List (List DV)) (rt:Int) {ND:List Nd} {L:Nat} (bG:∀ n∈ND,dI L ND.length n):∀ (k:Nat) (v:Val),v.wt<=k->v.wt<=1099511627776->∀ i:Int,EvP Tryz.prog 142 [.agg (wG a b A B ND rt),.v (.int .i64 i),.agg (aU v)] (.v (.bool (wx ND v i)))
 | 0,v,h,_=>by have:=v.de;omega
 | k + 1,.mk q z s ks,h,hb=>fun i=>by
  have ih:=sX a b A B rt bG k;have iL:=dC ks;have cH:=aW ks;have dS:=hb;rw [Val.wt] at h hb;rw [wx];have B7:=kV ND
  cases hd:dq ND i with
  | none=>
   have hn:=wy hd;refine ev_go (P:=Tryz.prog) tt tt_ok 5000 164 [.tmp 6] Tryz.func142 rfl Tryz.ntmps142 rfl (nL rfl) (fun E9 w9 hn9 hm9=>?_);refine br (fun _=>?_) (fun c=>?_)
   ·exact (rfl:_=_)
   ·exfalso;have:=c;simp [aj,B7] at this;omega
  | some d=>
   obtain ⟨h0,hg⟩:=cO hd;obtain ⟨j,rfl⟩:∃ j:Nat,i=j:=⟨i.toNat,by omega⟩;have hg:ND[j]? = some d:=by simpa using hg
   have lh:=(gS hg).1;have hN:=bG d (mG hg);have mn:=hN.k1;have Er:=hN.k8;have sO:=hN.many;have nK:=fun m=>Ki hN (.mk q z s ks) m;simp only;have kj:=cE d.au;have hbl:=bR d.af;generalize hf:Iw d (.mk q z s ks)=f at nK;have hF:DQ d (.mk q z s ks)=DQ d (.mk q z s ks):=rfl;obtain ⟨ag,aC,lo,hi,most,af,es⟩:=d;simp only at mn Er sO kj hbl;have hkc:((ks.length:Int)=(es.length:Int))↔ks.length=es.length:=by omega
   have Ny:∀ b:Bool,b=pickB (pickB (!decide (q=ag)) true (pickB (!decide (q=3)) (!decide (s=⟨#[]⟩)) false)) true (pickB (decide (0 < (s.size:Int))) (decide (most < (s.size:Int))) false)->b=wv ⟨ag,aC,lo,hi,most,af,es⟩ (.mk q z s ks):=fun b h=>by
    rw [h,r6,Bool.eq_iff_iff];have hB:wv ⟨ag,aC,lo,hi,most,af,es⟩ (.mk q z s ks)=(decide (q≠ag) || (decide (q≠3) && decide (s≠al)) || (decide (0 < s.size) && decide (most < (s.size:Int)))):=rfl;rw [hB];simp [aj,pickB_and,or_assoc]
   refine ev_go (P:=Tryz.prog) tt tt_ok 5000 164 [.tmp 6] Tryz.func142 rfl Tryz.ntmps142 rfl (nL rfl) (fun E9 w9 hn9 hm9=>?_);refine br (fun c=>?_) (fun _=>?_)
   ·exfalso;have:=c;simp [aj,B7] at this;omega
   refine ⟨_,⟨by omega,fx hg⟩,?_⟩;refine br (fun c=>?_) (fun c=>?_)
   ·have c:=(Ny _ rfl).symm.trans c;rw [if_pos c];exact (rfl:_=_)
   have c:=(Ny _ rfl).symm.trans c;rw [if_neg (by rw [c];simp)];rcases (show ag=1∨ag=2∨ag=3∨ag=4∨ag=5∨ag=6∨ag=7∨ag=8 by omega) with c | c | c | c | c | c | c | c
   all_goals
    repeat (first | (refine br (fun h=>?_) (fun _=>?_);focus (simp [c] at h;done)) | (refine br (fun _=>?_) (fun h=>?_);rotate_left;focus (simp [c] at h;done)))
   all_goals
    try
     refine aE (fun _=>false) mo (by decide +kernel) ?_
     have hc:∀ b:Bool,b=pickB (decide (0<=z)) (decide (z < ((fv es).length:Int))) false->b=decide (0<=z/\z < es.length):=fun b h=>by
      rw [h,kj,pickB_and,Bool.eq_iff_iff];simp
     refine br (fun g=>?pp) (fun g=>?nn)
     case' pp=>
      have g8:=of_decide_eq_true ((hc _ rfl).symm.trans (by simpa using g));obtain ⟨x,hx8⟩:∃ x,es[z.toNat]? = some x:=⟨_,gE (by omega)⟩;have hm64:=(sO (.inr c)).1;have hw:max 0 (min z (IntKind.i64.wrap (((fv es).length:Int) - 1)))=z:=by rw [kj,wrap64 (by omega) (by omega)];omega
      refine ⟨_,⟨Int.le_max_left _ _,by rw [hw];exact bI hx8⟩,?_⟩;show si _ _ _ _
     case' nn=>
      have g8:=of_decide_eq_false ((hc _ rfl).symm.trans (by simpa using g));show si _ _ _ _
   all_goals
    refine aq (fun j st=>∃ (e:Nat) (ok:Bool),st=Vb (wG a b A B ND rt) (.mk q z s ks) ⟨ag,aC,lo,hi,most,af,es⟩ ok e/\e<=ks.length/\(DQ ⟨ag,aC,lo,hi,most,af,es⟩ (.mk q z s ks) && refVs ND ks f 0)=(ok && refVs ND (ks.drop e) f e)/\j=ks.length - e) ks.length (Vb (wG a b A B ND rt) (.mk q z s ks) ⟨ag,aC,lo,hi,most,af,es⟩ _ 0) (weak_mk ⟨_,rfl⟩ wA rfl rfl rfl wB) ⟨0,_,rfl,by omega,congrArg (fun b=>b && refVs ND ks f 0) ?_,by omega⟩ ?_
    ·first
      | (simp [DQ,c,aj,pickB_and,Val.n,Val.ks,kj,hbl,cH,hkc,g8,hx8];rw [(gS hx8).2];cases x.bare<;>simp;done)
      | (simp [DQ,c,aj,pickB_and,Val.n,Val.ks,kj,hbl,cH,hkc,g8];try rfl;done)
      | (simp [DQ,c,aj,pickB_and,Val.n,Val.ks,kj,hbl,cH,hkc];try rfl;done)
    ·rintro _ st ⟨e,ok,rfl,he,aH,rfl⟩;refine br (fun hL=>?_) (fun hL=>?_)
     ·have hL:e < ks.length/\ok=true:=by
       have:=hL;simp [pickB_and,cH] at this;exact this
      obtain ⟨ap,hok1⟩:=hL;obtain ⟨x,hx⟩:∃ x,ks[e]? = some x:=⟨_,gE ap⟩;have R6:=fA (mG hx);rw [hok1,Bool.true_and,GJ hx] at aH;have dE:=ih x (by omega) (by omega) (f e);obtain ⟨xk,xn,xs,xl⟩:=x;refine aE (fun _=>false) mo (by decide +kernel) ?_;refine ay XB (nK e) ax rfl ?_;refine ⟨_,⟨by omega,bP hx⟩,?_⟩;refine ay Rq (dE) ax rfl ?_;exact ⟨Vb (wG a b A B ND rt) (.mk q z s ks) ⟨ag,aC,lo,hi,most,af,es⟩ _ (e + 1),(weak_mk ⟨_,rfl⟩ wA rfl rfl rfl (wNB ap)),ks.length - (e + 1),by omega,e + 1,_,rfl,by omega,aH,rfl⟩
     ·have hL:¬ (e < ks.length/\ok=true):=by
       have:=hL;simp [pickB_and,cH] at this;simpa using this
      refine (congrArg (fun b=>DV.v (.bool b)) ?_:_=_);rw [aH]
      cases ok with
      | false=>rfl
      | true=>rw [List.drop_of_length_le (by simp at hL;omega),refVs];all_goals rfl
theorem nj (d:Nd) (v:Val) (j:Nat) (e:Ed) (h:cd d v.n j=some e) (hz:d.ag=8->0<=v.n/\v.n < d.au.length) (jQ:d.au.length<=1099511627776) :
  EvP Tryz.prog 84 [.agg (jR d),.agg (aU v),.v (.int .i64 j)] (.agg (vx e)):=by
 obtain ⟨ag,aC,lo,hi,most,af,es⟩:=d;obtain ⟨k,n,s,ks⟩:=v;simp only [Val.n] at h hz jQ;have kj:=cE es;unfold cd at h;simp only at h;refine ev_go (P:=Tryz.prog) tt tt_ok 5000 28 [.cell 6 168] Tryz.func84 rfl Tryz.ntmps84 rfl (nL rfl) (fun E9 w9 hn9 hm9=>?_);refine br (fun c=>?_) (fun c=>?_)
 ·have c:ag=7:=by simpa using c
  rw [if_pos c] at h;have hj:=(gS h).1;refine ⟨_,⟨by omega,bI h⟩,?_⟩;exact ⟨_,ax,rfl⟩
 have c7:¬ ag=7:=by simpa using c
 rw [if_neg c7] at h;refine br (fun c=>?_) (fun c=>?_)
 ·have c:ag=8:=by simpa using c
  rw [if_pos c] at h;have hz:=hz c;refine ⟨_,⟨by omega,bI h⟩,?_⟩;exact ⟨_,ax,rfl⟩
 have c8:¬ ag=8:=by simpa using c
 rw [if_neg c8] at h;refine ⟨_,⟨by omega,bI h⟩,?_⟩;exact ⟨_,ax,rfl⟩
theorem qI {v:Val} (h:rngW v):uX v.n:=by obtain ⟨_,_,_,_⟩:=v;rw [rngW] at h;exact h.2.1
theorem OO {L:Nat} {ND:List Nd} (bG:∀ d∈ND,dI L ND.length d) {v:Val} {i:Int} (hr:rngW v) (h:jL ND v i=true):textV ND v i ≠ []:=by
 obtain ⟨d,hd,hc⟩:=la h;have h1:=(qC (bG d (mG (cO hd).2)) (qI hr) hc).1;obtain ⟨k,n,s,ks⟩:=v;rw [textV,hd];simp [h1]
def QT (ND:List Nd) (x:Val) (i:Int) (B:Bool):List UInt8:=if B=true then textV ND x i else []
theorem Bf {S:Sch} {ND:List Nd} {PC:List DV} (hP:ke S ND PC) (x:Val) (hx:x.wt<=1099511627776) (tP:rngW x) (o:Int) (B:Bool) (IM:EvP Tryz.prog 78 [.pt PC 0,.v (.int .i64 o),.agg (aU x)] (.v (.bool B))) (hw:B=true->jL ND x (bN S)=true) :
  EvP Tryz.prog 31 [.pt PC 0,.v (.int .i64 o),.agg (aU x)] (.tup [.v (.string (ba (QT ND x (bN S) B))),.v (.bool B)]):=by
 have gN:=hP.root;have aN:=fun h=>OO hP.ok tP (hw h);have KU:=fun h p hp=>qD hP x x.wt x (Nat.le_refl _) hx tP (bN S) (hw h) [] p hp (by rw [List.length_nil];omega);unfold QT;simp only [List.nil_append] at KU;generalize textV ND x (bN S)=T at *;generalize bN S=rt at *;clear hw;obtain ⟨k,n,s,ks⟩:=x;refine zR (s:=false) (bt:=[(1,161)]) (hbt:=fun p hp=>Nat.zero_le _) (P:=Tryz.prog) tt tt_ok 5000 20 [.tmp 6,.tmp 7] Tryz.func31 rfl Tryz.ntmps31 rfl (nL rfl) (fun E9 w9 hn9 hm9=>?_);refine call_p WW (IM) ax rfl ?_
 cases B with
 | false=>
  rw [if_neg (by simp)];exact ⟨.tup [.v (.string _),.v (.bool _)],ax,rfl⟩
 | true=>
  rw [if_pos rfl];refine aE (fun i=>Nat.beq i 4) mo (by decide +kernel) ?_;refine ay Ts (gN) ax rfl ?_;refine jv rfl (DF ⟨0,5,1,none⟩ ⟨[(8,⟨[],.loc 1 0⟩)],[aU (.mk k n s ks),[.v (.pointer none),.sl 1 [] (some 0)]],[⟨0,5,1,none⟩]⟩ rfl ?_ rfl ?_ ⟨⟨_,rfl,ah rfl⟩,trivial⟩ rfl rfl ?_)
  ·repeat' (first | exact rfl | exact ah rfl | refine ⟨_,_,rfl,?_,?_⟩)
  ·repeat' (first | exact rfl | exact ah rfl | exact aX (Nat.le_refl _) rfl | refine ⟨_,_,rfl,?_,?_⟩)
  refine mM 2 1 Lz rfl rfl rfl aL aL (KU rfl (.v (.pointer none)) (.inl rfl)) (fun r gG bW hΦ h1 h2=>?_);obtain ⟨rfl,rfl,rfl⟩:=hΦ;refine Ip rfl (kt:=0) (l:=T) (.head _) rfl (aN rfl) rfl rfl rfl rfl ?_;exact ⟨.tup [.v (.string _),.v (.bool _)],ax,rfl⟩
theorem wR (v:Val) (hv:v.wt<=1099511627776):EvP Tryz.prog 85 [.agg (aU v)] (.v (.string (ba (fh v)))):=by
 have e5:=@end_5 v;have e7:=@end_7 v;have en:=@DW v;have es9:=@SD v;generalize fh v=Z at *;obtain ⟨k,n,s,ks⟩:=v;have cH:=aW ks;simp only [Val.k,Val.ks] at *;refine ev_go (P:=Tryz.prog) tt tt_ok 5000 13 [.tmp 2] Tryz.func85 rfl Tryz.ntmps85 rfl (nL rfl) (fun E9 w9 hn9 hm9=>?_);refine br (fun c=>?_) (fun c=>?_)
 ·rw [e5 (by simpa using c)];exact (rfl:_=_)
 have c5:¬ k=5:=by simpa using c
 refine br (fun c=>?_) (fun c=>?_)
 ·rw [e7 (by simpa using c)];exact (rfl:_=_)
 have c7:¬ k=7:=by simpa using c
 refine br (fun g=>?_) (fun g=>?_)
 ·have g:ks ≠ []:=by rintro rfl;simp [cH] at g
  rw [es9 ⟨c5,c7⟩ g];exact (rfl:_=_)
 ·have g:ks=[]:=by simpa [cH] using g
  rw [en ⟨c5,c7⟩ g];exact (rfl:_=_)
theorem nk (d:Nd) (v:Val) (hs:v.s.size<=1099511627776) (hn:uX v.n) (h4:v.k=4->0<=v.n/\v.n < d.af.length) (h8:v.k=8->0<=v.n/\v.n < d.au.length) (JP:∀ e∈d.au,v.k=8->e.name.size<=32) :
  EvP Tryz.prog 83 [.agg (jR d),.agg (aU v)] (.v (.string (ba (cS d v)))):=by
 have hl:=Gs v hs hn;have o1:=@opn_1 d v;have o2:=@Gv d v;have o3:=fun x=>@opn_4 d v x;have o4:=@zl d v;have o5:=@opn_5 d v;have o6n:=@Gw d v;have o6s:=@Gx d v;have o7:=@opn_7 d v;have o8n:=fun e=>@Gy d v e;have o8s:=fun e=>@Gz d v e;generalize cS d v=O at *;generalize dH v=S at *;generalize bS v=B at *;obtain ⟨ag,aC,lo,hi,most,af,es⟩:=d;obtain ⟨k,n,s,ks⟩:=v;have cH:=aW ks;simp only [Val.k,Val.n,Val.ks] at *
 have hgp:∀ b:Bool,b=decide (0 < ((dVals ks).length:Int))->(b=true->ks ≠ [])/\(b=false->ks=[]):=fun b hb=>by
  rw [hb,cH];refine ⟨fun g=>?_,fun g=>by simpa using g⟩;rintro rfl;simp at g
 refine ev_go (P:=Tryz.prog) tt tt_ok 5000 58 [.tmp 4] Tryz.func83 rfl Tryz.ntmps83 rfl (nL rfl) (fun E9 w9 hn9 hm9=>?_);obtain ⟨hM1,hM2⟩:=hgp _ rfl;refine br (fun c=>?_) (fun c=>?_)
 ·have c:k=1:=by simpa using c
  refine br (fun g=>?_) (fun g=>?_)
  ·rw [o1 c (by simpa using g)];exact (rfl:_=_)
  ·rw [o2 c (by simpa using g)];exact (rfl:_=_)
 have c1:¬ k=1:=by simpa using c
 refine br (fun c=>?_) (fun c=>?_)
 ·have c4:k=4:=by simpa using c
  obtain ⟨h0,h1⟩:=h4 c4;obtain ⟨x,hx⟩:∃ x,af[n.toNat]? = some x:=⟨_,gE (by omega)⟩;rw [o3 x c4 hx];refine ⟨_,⟨by omega,eX hx⟩,?_⟩;exact congrArg (fun q=>DV.v (.string q)) (oe x).symm
 have c4:¬ k=4:=by simpa using c
 refine br (fun c=>?_) (fun c=>?_)
 ·rw [o5 (by simpa using c)];exact (rfl:_=_)
 have c5:¬ k=5:=by simpa using c
 refine br (fun c=>?_) (fun c=>?_)
 ·have c:k=6:=by simpa using c
  refine br (fun g=>?_) (fun g=>?_)
  ·rw [o6s c (hM1 g)];exact (rfl:_=_)
  ·rw [o6n c (hM2 g)];exact (rfl:_=_)
 have c6:¬ k=6:=by simpa using c
 refine br (fun c=>?_) (fun c=>?_)
 ·rw [o7 (by simpa using c)];exact (rfl:_=_)
 have c7:¬ k=7:=by simpa using c
 refine br (fun c=>?_) (fun c=>?_)
 ·have c8:k=8:=by simpa using c
  obtain ⟨h0,h1⟩:=h8 c8;obtain ⟨x,hx⟩:∃ x,es[n.toNat]? = some x:=⟨_,gE (by omega)⟩;have oA:=JP x (mG hx) c8;refine br (fun g=>?_) (fun g=>?_)
  ·rw [o8s x c8 hx (hM1 g),<- A4];refine ⟨_,⟨by omega,bI hx⟩,?_⟩;refine ⟨by show x.name.size + 1<=_;omega,?_⟩;exact (rfl:_=_)
  ·rw [o8n x c8 hx (hM2 g),oe];refine ⟨_,⟨by omega,bI hx⟩,?_⟩;exact (rfl:_=_)
 have c8:¬ k=8:=by simpa using c
 rw [o4 (by omega)];refine call_p en28 (hl) ax rfl ?_;exact (rfl:_=_)
abbrev zN0:Nd:=⟨0,0,0,0,0,[],[]⟩
abbrev sY (W:List DV) (v:Val) (n:List DV) (L:List UInt8) (e:Nat):St:=
 ⟨[(3,⟨[],.loc 0 0⟩),(5,⟨[],.loc 1 0⟩),(7,⟨[],.loc 2 0⟩),(8,⟨[],.v (.string (ba L))⟩),(9,⟨[],.v (.int .i64 e)⟩)],[W,aU v,n],[]⟩
theorem sZ (lv:List Wd) (f:Nat->Nat->Bool) (ND:List Nd) (z0:Int) (bG:∀ n∈ND,dI lv.length ND.length n) (bE:∀ n∈ND,n.au.length<=1099511627776) :
  ∀ (k:Nat) (v:Val),v.wt<=k->v.wt<=1099511627776->rngW v->∀ i:Int,jL ND v i=true ->
   EvP Tryz.prog 33 [.agg (wL lv f ND z0),.v (.int .i64 i),.agg (aU v)] (.v (.string (ba (textV ND v i))))
 | 0,v,h,_=>by have:=v.de;omega
 | k + 1,v,h,hb=>fun hr i hw=>by
  have ih:=sZ lv f ND z0 bG bE k;obtain ⟨d,hd,hc⟩:=la hw;obtain ⟨h0,hg⟩:=cO hd;obtain ⟨j,rfl⟩:∃ j:Nat,i=j:=⟨i.toNat,by omega⟩;have hg:ND[j]? = some d:=by simpa using hg
  have lh:=(gS hg).1;have hN:=bG d (mG hg);have Bg:=bE d (mG hg);have mn:=hN.k1;have Er:=hN.k8;have hnn:=qI hr;obtain ⟨ZH,ja⟩:=qC hN hnn hc;have Zo:v.wt=64 + v.s.size + dJ v.ks:=by obtain ⟨q,z,s,ks⟩:=v;rfl
  have eJ:=nU bG v j hr hw
  have hT:textV ND v j=cS d v ++ textVs ND v.ks d v.n 0 ++ fh v:=by
   obtain ⟨q,z,s,ks⟩:=v;rw [textV,hd];rfl
  have j1:=wR v hb;by_cases c9:9<=v.k
  ·have sS:v.ks=[]:=by
    rcases hc with h | h | h
    ·exact h.2.2
    ·exact h.2.2.1
    ·omega
   have kK:=nk zN0 v (by omega) hnn (by omega) (by omega) (by simp);rw [show cS zN0 v=cS d v by rw [zl (by omega),zl (by omega)]] at kK;have iK:fh v=[]:=DW (by omega) sS;rw [sS,iK,textVs,List.append_nil,List.append_nil] at hT;rw [iK] at j1;rw [hT] at eJ ⊢;generalize cS d v=O at *;clear hc hT;obtain ⟨q,z,s,ks⟩:=v;simp only [Val.k,Val.n,Val.s,Val.ks] at *;subst sS;refine ev_go (P:=Tryz.prog) tt tt_ok 5000 61 [.tmp 6] Tryz.func33 rfl Tryz.ntmps33 rfl (nL rfl) (fun E9 w9 hn9 hm9=>?_);refine br (fun c=>absurd c (by simp;omega)) (fun _=>?_);refine call_p TB (kK) ax rfl ?_;refine aq (fun j st=>st=sY (wL lv f ND z0) (.mk q z s []) zNd O 0/\j=0) 0 (sY (wL lv f ND z0) (.mk q z s []) zNd O 0) (weak_mk ⟨_,rfl⟩ wA rfl rfl rfl EJ) ⟨rfl,rfl⟩ ?_;rintro _ st ⟨rfl,rfl⟩;refine call_p TC (j1) ax rfl ?_;refine ⟨by show O.length + 0<=_;omega,?_⟩;refine (congrArg (fun q=>DV.v (.string q)) ((bU O []).trans (by rw [List.append_nil])):_=_)
  ·have kK:=nk d v (by omega) hnn (by
    intro c4;rcases hc with h | h | h
    ·omega
    ·exact h.2.2.2 c4
    ·omega) (by
    intro c8;rcases hc with h | h | h
    ·omega
    ·omega
    ·exact shell_8 h.2.2.1 (by omega)) (by
    intro e he c8
    have hk:v.k=d.ag:=by
     rcases hc with h | h | h
     ·omega
     ·exact h.1
     ·exact h.1
    exact eY ((hN.many (.inr (by omega))).2.2.2 e he))
   have xj:v.ks=[]∨(v.k=d.ag/\5<=d.ag/\shellF d v=true/\gj ND v.ks d v.n 0=true):=by
    rcases hc with h | h | h
    ·omega
    ·exact .inl h.2.2.1
    ·exact .inr h
   have Oz:∀ m,m < v.ks.length->∃ e,cd d v.n m=some e/\jL ND (v.ks[m]?.getD v) e.to=true/\v.k=d.ag/\(d.ag=8->0<=v.n/\v.n < d.au.length)/\5<=d.ag:=fun m hm=>by
    rcases xj with h | h
    ·rw [h] at hm;exact absurd hm (Nat.not_lt_zero _)
    ·obtain ⟨e,h1,h2⟩:=nf h.2.2.2 (gE hm);rw [Nat.zero_add] at h1;exact ⟨e,h1,by rw [gE hm];exact h2,h.1,shell_8 h.2.2.1,h.2.1⟩
   have hE:=fun m e h1 h2=>nj d v m e h1 h2 Bg;have su:∀ e∈d.au,d.ag=7->e.name.size<=32:=fun e he c=>eY ((hN.many (.inl c)).2.2.2 e he);have ZI:=fun e x ed (h1:v.ks[e]? = some x) (h2:cd d v.n e=some ed)=>sQ (ND:=ND) h1 h2;have ZJ:textVs ND (v.ks.take 0) d v.n 0=[]:=by rw [List.take_zero,textVs]
   have ZK:textVs ND (v.ks.take v.ks.length) d v.n 0=textVs ND v.ks d v.n 0:=by rw [List.take_length]
   have mb:∀ e,e<=v.ks.length->(textVs ND (v.ks.take e) d v.n 0).length<=50 * dJ (v.ks.take e):=fun e he=>by
    rcases xj with h | h
    ·rw [h,List.take_nil,textVs];exact Nat.zero_le _
    ·exact l6 bG (v.ks.take e) d v.n 0 hN h.2.1 (wJ e (by obtain ⟨_,_,_,_⟩:=v;rw [rngW] at hr;exact hr.2.2)) (wI e h.2.2.2)
   have Py:=A6 v.ks;have kj:=tZ v;rw [hT] at eJ ⊢;rw [<- ZK];generalize Pb:(fun e=>textVs ND (v.ks.take e) d v.n 0)=X at *;have hX:∀ e,textVs ND (v.ks.take e) d v.n 0=X e:=fun e=>by rw [<- Pb]
   simp only [hX] at ZI ZJ mb ⊢;generalize cS d v=O at *;generalize fh v=Z at *;clear hc hT ZK eJ hX Pb xj;obtain ⟨q,z,s,ks⟩:=v;obtain ⟨ag,aC,lo,hi,most,af,es⟩:=d;have cH:=aW ks;have iL:=dC ks;simp only [Val.k,Val.n,Val.s,Val.ks] at *;refine ev_go (P:=Tryz.prog) tt tt_ok 5000 61 [.tmp 6] Tryz.func33 rfl Tryz.ntmps33 rfl (nL rfl) (fun E9 w9 hn9 hm9=>?_);refine br (fun _=>?_) (fun c=>absurd c (by simp;omega));refine ⟨_,⟨by omega,fx hg⟩,?_⟩;refine call_p TB (kK) ax rfl ?_;refine aq (fun j st=>∃ e:Nat,st=sY (wL lv f ND z0) (.mk q z s ks) (jR ⟨ag,aC,lo,hi,most,af,es⟩) (O ++ X e) e/\e<=ks.length/\j=ks.length - e) ks.length (sY (wL lv f ND z0) (.mk q z s ks) (jR ⟨ag,aC,lo,hi,most,af,es⟩) O 0) (weak_mk ⟨_,rfl⟩ wA rfl rfl rfl EJ) ⟨0,by rw [ZJ,List.append_nil],by omega,by omega⟩ ?_;rintro _ st ⟨e,rfl,he,rfl⟩;have hXl:=mb e he;refine br (fun hL=>?_) (fun hL=>?_)
   ·have ap:e < ks.length:=by simpa [cH,Val.ks] using hL
    obtain ⟨ed,l5,IF,Bo,hk88,h5⟩:=Oz e ap;obtain ⟨x,hx⟩:∃ x,ks[e]? = some x:=⟨_,gE ap⟩;rw [hx] at IF;have R6:=fA (mG hx);have hxt:=sa hx;have KF:rngW x:=by rw [rngW] at hr;exact ik hr.2.2 (mG hx)
    have xf:=nU bG x ed.to KF IF;have jU:=ih x (by omega) (by omega) KF ed.to IF;have wK:=ZI e x ed hx l5;have hE:=hE e ed l5 hk88;have qF:=su ed (qB l5);generalize textV ND x ed.to=t at jU wK xf;obtain ⟨xk,xn,xs,xl⟩:=x;refine br (fun c=>?_) (fun c=>?_)
    ·have c:e≠0:=by rintro rfl;simp at c
     rw [if_neg c] at wK;refine ⟨by show (O ++ X e).length + 2<=_;simp only [List.length_append];omega,?_⟩;refine call_p LA (hE) ax rfl ?_;refine br (fun c7=>?_) (fun c7=>?_)
     ·have c7:ag=7:=by have:=of_decide_eq_true c7;omega
      have qF:=qF c7;rw [if_pos c7] at wK;have hV:(ba (O ++ X e) ++ ba [44,32])=ba (O ++ X e ++ [44,32]):=(bU (O ++ X e) [44,32])
      have A9:(((ba (O ++ X e) ++ ba [44,32]) ++ ed.name) ++ ba [58,32]) ++ ba t=ba (O ++ X (e + 1)):=by
       rw [hV,wK,<- oe ed.name];refine (congrArg (fun q=>(q ++ ba [58,32]) ++ ba t) (bU _ _)).trans ?_;refine (congrArg (fun q=>q ++ ba t) (bU _ _)).trans ?_;refine (bU _ _).trans (congrArg ba ?_);simp only [List.append_assoc,mI]
      have BF:((ba (O ++ X e) ++ ba [44,32])).size=((O ++ X e ++ [44,32])).length:=by rw [hV];all_goals rfl
      refine ⟨by rw [BF];simp only [List.length_append,List.length_cons,List.length_nil];omega,?_⟩;refine ⟨by rw [eS,BF];show _ + 2<=_;simp only [List.length_append,List.length_cons,List.length_nil];omega,?_⟩;refine aE (fun _=>false) mo (by decide +kernel) ?_;refine ⟨_,⟨by omega,bP hx⟩,?_⟩;refine ay Ly (jU) ax rfl ?_;refine ⟨by rw [eS,eS,BF];show _ + 2 + t.length<=_;simp only [List.length_append,List.length_cons,List.length_nil];omega,?_⟩;exact ⟨sY (wL lv f ND z0) (.mk q z s ks) (jR ⟨ag,aC,lo,hi,most,af,es⟩) (O ++ X (e + 1)) (e + 1),(az 3 rfl (by repeat' (first | exact rfl | exact ah rfl | exact ak (cx ap (by omega)) | exact iJ A9 | refine ⟨_,_,rfl,?_,?_⟩)) rfl rfl rfl (by repeat' (first | exact trivial | exact ah rfl | exact ak (cx ap (by omega)) | exact iJ A9 | refine ⟨⟨_,rfl,?_⟩,?_⟩))),ks.length - (e + 1),by omega,e + 1,rfl,by omega,rfl⟩
     ·have c7:¬ ag=7:=by have:=of_decide_eq_false c7;omega
      rw [if_neg c7,List.nil_append] at wK;have hV:(ba (O ++ X e) ++ ba [44,32])=ba (O ++ X e ++ [44,32]):=(bU (O ++ X e) [44,32])
      have A9:(ba (O ++ X e) ++ ba [44,32]) ++ ba t=ba (O ++ X (e + 1)):=by
       rw [hV,wK];refine (bU _ _).trans (congrArg ba ?_);simp only [List.append_assoc]
      have BF:((ba (O ++ X e) ++ ba [44,32])).size=((O ++ X e ++ [44,32])).length:=by rw [hV];all_goals rfl
      refine aE (fun _=>false) mo (by decide +kernel) ?_;refine ⟨_,⟨by omega,bP hx⟩,?_⟩;refine ay Ly (jU) ax rfl ?_;refine ⟨by rw [BF];show _ + t.length<=_;simp only [List.length_append,List.length_cons,List.length_nil];omega,?_⟩;exact ⟨sY (wL lv f ND z0) (.mk q z s ks) (jR ⟨ag,aC,lo,hi,most,af,es⟩) (O ++ X (e + 1)) (e + 1),(az 3 rfl (by repeat' (first | exact rfl | exact ah rfl | exact ak (cx ap (by omega)) | exact iJ A9 | refine ⟨_,_,rfl,?_,?_⟩)) rfl rfl rfl (by repeat' (first | exact trivial | exact ah rfl | exact ak (cx ap (by omega)) | exact iJ A9 | refine ⟨⟨_,rfl,?_⟩,?_⟩))),ks.length - (e + 1),by omega,e + 1,rfl,by omega,rfl⟩
    ·have c:e=0:=by simp at c;omega
     rw [if_pos c,List.nil_append] at wK;refine call_p LA (hE) ax rfl ?_;refine br (fun c7=>?_) (fun c7=>?_)
     ·have c7:ag=7:=by have:=of_decide_eq_true c7;omega
      have qF:=qF c7;rw [if_pos c7] at wK;have hV:ba (O ++ X e)=ba (O ++ X e):=rfl
      have A9:((ba (O ++ X e) ++ ed.name) ++ ba [58,32]) ++ ba t=ba (O ++ X (e + 1)):=by
       rw [hV,wK,<- oe ed.name];refine (congrArg (fun q=>(q ++ ba [58,32]) ++ ba t) (bU _ _)).trans ?_;refine (congrArg (fun q=>q ++ ba t) (bU _ _)).trans ?_;refine (bU _ _).trans (congrArg ba ?_);simp only [List.append_assoc,mI]
      have BF:(ba (O ++ X e)).size=((O ++ X e)).length:=by rw [hV];all_goals rfl
      refine ⟨by rw [BF];simp only [List.length_append,List.length_cons,List.length_nil];omega,?_⟩;refine ⟨by rw [eS,BF];show _ + 2<=_;simp only [List.length_append,List.length_cons,List.length_nil];omega,?_⟩;refine aE (fun _=>false) mo (by decide +kernel) ?_;refine ⟨_,⟨by omega,bP hx⟩,?_⟩;refine ay Ly (jU) ax rfl ?_;refine ⟨by rw [eS,eS,BF];show _ + 2 + t.length<=_;simp only [List.length_append,List.length_cons,List.length_nil];omega,?_⟩;exact ⟨sY (wL lv f ND z0) (.mk q z s ks) (jR ⟨ag,aC,lo,hi,most,af,es⟩) (O ++ X (e + 1)) (e + 1),(az 3 rfl (by repeat' (first | exact rfl | exact ah rfl | exact ak (cx ap (by omega)) | exact iJ A9 | refine ⟨_,_,rfl,?_,?_⟩)) rfl rfl rfl (by repeat' (first | exact trivial | exact ah rfl | exact ak (cx ap (by omega)) | exact iJ A9 | refine ⟨⟨_,rfl,?_⟩,?_⟩))),ks.length - (e + 1),by omega,e + 1,rfl,by omega,rfl⟩
     ·have c7:¬ ag=7:=by have:=of_decide_eq_false c7;omega
      rw [if_neg c7,List.nil_append] at wK;have hV:ba (O ++ X e)=ba (O ++ X e):=rfl
      have A9:ba (O ++ X e) ++ ba t=ba (O ++ X (e + 1)):=by
       rw [hV,wK];refine (bU _ _).trans (congrArg ba ?_);simp only [List.append_assoc]
      have BF:(ba (O ++ X e)).size=((O ++ X e)).length:=by rw [hV];all_goals rfl
      refine aE (fun _=>false) mo (by decide +kernel) ?_;refine ⟨_,⟨by omega,bP hx⟩,?_⟩;refine ay Ly (jU) ax rfl ?_;refine ⟨by rw [BF];show _ + t.length<=_;simp only [List.length_append,List.length_cons,List.length_nil];omega,?_⟩;exact ⟨sY (wL lv f ND z0) (.mk q z s ks) (jR ⟨ag,aC,lo,hi,most,af,es⟩) (O ++ X (e + 1)) (e + 1),(az 3 rfl (by repeat' (first | exact rfl | exact ah rfl | exact ak (cx ap (by omega)) | exact iJ A9 | refine ⟨_,_,rfl,?_,?_⟩)) rfl rfl rfl (by repeat' (first | exact trivial | exact ah rfl | exact ak (cx ap (by omega)) | exact iJ A9 | refine ⟨⟨_,rfl,?_⟩,?_⟩))),ks.length - (e + 1),by omega,e + 1,rfl,by omega,rfl⟩
   ·have aO:e=ks.length:=by
     have:=hL;simp [cH,Val.ks] at this;omega
    subst aO;have hw9:=Py ks.length;refine call_p TC (j1) ax rfl ?_;refine ⟨by show (O ++ X ks.length).length + Z.length<=_;simp only [List.length_append];omega,?_⟩;exact congrArg (fun q=>DV.v (.string q)) (bU (O ++ X ks.length) Z)
def dT (l:List UInt8):Val:=.mk 1 0 (ba l) []
theorem il (l:List UInt8):EvP Tryz.prog 148 [.v (.string (ba l))] (.agg (aU (dT l))):=by
 refine ev_go (P:=Tryz.prog) tt tt_ok 5000 5 [.cell 2 88] Tryz.func148 rfl Tryz.ntmps148 rfl (nL rfl) (fun E9 w9 hn9 hm9=>?_);exact ⟨_,ax,rfl⟩
theorem jN (l:List UInt8):EvP Tryz.prog 87 [.v (.string (ba l))] (.agg (aU (dT l))):=by
 refine ev_go (P:=Tryz.prog) tt tt_ok 5000 5 [.cell 2 88] Tryz.func87 rfl Tryz.ntmps87 rfl (nL rfl) (fun E9 w9 hn9 hm9=>?_);exact ⟨_,ax,rfl⟩
theorem GK:EvP Tryz.prog 151 [] (.agg (aU (.mk 2 0 al []))):=by
 refine ev_go (P:=Tryz.prog) tt tt_ok 5000 2 [.cell 0 88] Tryz.func151 rfl Tryz.ntmps151 rfl (nL rfl) (fun E9 w9 hn9 hm9=>?_);exact ⟨_,ax,rfl⟩
theorem wS:EvP Tryz.prog 154 [] (.agg (aU (.mk 3 0 al []))):=by
 refine ev_go (P:=Tryz.prog) tt tt_ok 5000 2 [.cell 0 88] Tryz.func154 rfl Tryz.ntmps154 rfl (nL rfl) (fun E9 w9 hn9 hm9=>?_);exact ⟨_,ax,rfl⟩
theorem se (l:List Val) (hl:l.length<=2199023255552):EvP Tryz.prog 149 [.sl 4 (dVals l) none] (.agg (aU (.mk 5 0 al l))):=by
 have hd:=aW l;refine ev_go (P:=Tryz.prog) tt tt_ok 5000 6 [.cell 2 88] Tryz.func149 rfl Tryz.ntmps149 rfl (nL rfl) (fun E9 w9 hn9 hm9=>?_);refine ⟨⟨by rw [hd];simp [maxLen];omega,by rw [hd];simp;omega⟩,?_⟩;exact ⟨_,ax,rfl⟩
theorem Eb (l:List Val) (hl:l.length<=2199023255552):EvP Tryz.prog 152 [.sl 4 (dVals l) none] (.agg (aU (.mk 7 0 al l))):=by
 have hd:=aW l;refine ev_go (P:=Tryz.prog) tt tt_ok 5000 6 [.cell 2 88] Tryz.func152 rfl Tryz.ntmps152 rfl (nL rfl) (fun E9 w9 hn9 hm9=>?_);refine ⟨⟨by rw [hd];simp [maxLen];omega,by rw [hd];simp;omega⟩,?_⟩;exact ⟨_,ax,rfl⟩
theorem GL (z:Int) (l:List Val) (hl:l.length<=2199023255552):EvP Tryz.prog 153 [.v (.int .i64 z),.sl 4 (dVals l) none] (.agg (aU (.mk 6 z al l))):=by
 have hd:=aW l;refine ev_go (P:=Tryz.prog) tt tt_ok 5000 9 [.cell 4 88] Tryz.func153 rfl Tryz.ntmps153 rfl (nL rfl) (fun E9 w9 hn9 hm9=>?_);refine ⟨⟨by rw [hd];simp [maxLen];omega,by rw [hd];simp;omega⟩,?_⟩;exact ⟨_,ax,rfl⟩
def cX (b:Val):Nat->List Val->List Val
 | _,[]=>[]
 | j,x :: r=>(if j=0 then [x] else [b,x]) ++ cX b (j + 1) r
theorem wT (b:Val):∀ (l:List Val) (j:Nat) (x:Val),cX b j (l ++ [x])=cX b j l ++ (if j + l.length=0 then [x] else [b,x])
 | [],j,x=>by simp [cX]
 | y :: r,j,x=>by
  rw [List.cons_append,cX,cX,wT b r (j + 1) x,List.append_assoc,List.length_cons,show j + 1 + r.length=j + (r.length + 1) by omega]
theorem ld (b:Val):∀ (l:List Val) (j:Nat),(cX b j l).length<=2 * l.length
 | [],j=>Nat.zero_le _
 | x :: r,j=>by
  have:=ld b r (j + 1);rw [cX,List.length_append,List.length_cons];have h2:(if j=0 then [x] else [b,x]).length<=2:=by split<;>simp
  omega
theorem wU {b:Val} {l:List Val} {e:Nat} {x:Val} (h:l[e]? = some x):cX b 0 (l.take (e + 1))=cX b 0 (l.take e) ++ (if e=0 then [x] else [b,x]):=by
 have hl:(l.take e).length=e:=by rw [List.length_take];have:=(gS h).1;omega
 rw [List.take_add_one,h];show cX b 0 (l.take e ++ [x])=_;rw [wT,hl,Nat.zero_add]
abbrev QU (b:Val) (l O:List Val) (q e:Nat):St:=
 ⟨[(2,⟨[],.loc 0 0⟩),(4,⟨[],.loc 1 0⟩),(5,⟨[],.sl 4 (dVals O) (some 0)⟩),(8,⟨[],.sl 4 (dVals l) none⟩),(9,⟨[],.v (.int .i64 (dVals l).length)⟩),(10,⟨[],.v (.int .i64 e)⟩)],
  [aU b,[.v (.int .i64 0),.v (.int .i64 0),.v (.string al),.v (.slice none 0 0)]],[⟨q,88,4,none⟩]⟩
theorem jh (a b:List Val):dVals (a ++ b)=dVals a ++ dVals b:=by
 induction a with
 | nil=>rfl
 | cons x r ih=>rw [List.cons_append,dVals,dVals,ih];all_goals rfl
theorem GM (b:Val) (l:List Val) (hl:l.length<=1099511627776):EvP Tryz.prog 150 [.agg (aU b),.sl 4 (dVals l) none] (.agg (aU (.mk 5 0 al (cX b 0 l)))):=by
 have hd:=aW l;have DZ:=se (cX b 0 l) (by have:=ld b l 0;omega);have lh:=fun e=>ld b (l.take e) 0;have ZW:=fun e x=>@wU b l e x;have sq:cX b 0 (l.take 0)=[]:=by rw [List.take_zero];all_goals rfl
 have ZX:cX b 0 (l.take l.length)=cX b 0 l:=by rw [List.take_length]
 generalize hO:(fun e=>cX b 0 (l.take e))=O at *;have hO:∀ e,cX b 0 (l.take e)=O e:=fun e=>by rw [<- hO]
 simp only [hO] at lh ZW sq ZX;rw [<- ZX] at DZ ⊢;obtain ⟨bk,bn,bs,bl⟩:=b;refine ev_go (P:=Tryz.prog) tt tt_ok 5000 28 [.cell 4 88] Tryz.func150 rfl Tryz.ntmps150 rfl (nL rfl) (fun E9 w9 hn9 hm9=>?_);refine aq (fun j st=>∃ e q:Nat,st=QU (.mk bk bn bs bl) l (O e) q e/\q=(O e).length/\e<=l.length/\j=l.length - e) l.length (QU (.mk bk bn bs bl) l [] 0 0) (dj 2 ⟨0,88,4,none⟩ rfl rfl rfl (by repeat' (first | exact rfl | exact ah rfl | exact aX (Nat.le_refl _) rfl | exact aX (Nat.le_refl _) rfl | refine ⟨_,_,rfl,?_,?_⟩)) rfl rfl zS) ⟨0,0,by rw [sq],by rw [sq];rfl,by omega,by omega⟩ ?_;rintro _ st ⟨e,q,rfl,hq,he,rfl⟩;have QV:(dVals (O e)).length=q:=by rw [aW,hq]
 have ZE:q<=2199023255552:=by have:=lh e;rw [List.length_take] at this;omega
 refine br (fun hL=>?_) (fun hL=>?_)
 ·have ap:e < l.length:=by simpa [hd] using hL
  obtain ⟨x,hx⟩:∃ x,l[e]? = some x:=⟨_,gE ap⟩;have hn:=ZW e x hx;have VC:q < 2199023255552:=by have:=lh e;rw [List.length_take] at this;omega
  obtain ⟨xk,xn,xs,xl⟩:=x;refine ⟨_,⟨by omega,bP hx⟩,?_⟩;refine br (fun c=>?_) (fun c=>?_)
  ·have c:e≠0:=by rintro rfl;simp at c
   rw [if_neg c] at hn;have eE:dVals (O e) ++ [aU (.mk bk bn bs bl)] ++ [aU (.mk xk xn xs xl)]=dVals (O (e + 1)):=by rw [hn,jh,List.append_assoc];all_goals rfl
   have iG:(O (e + 1)).length=q + 1 + 1:=by rw [hn,List.length_append,hq];all_goals rfl
   refine ⟨by rw [QV],⟨by rw [QV];simp [maxLen];omega,by rw [QV];simp;omega⟩,?_⟩;refine ⟨by simp [QV],⟨by simp [maxLen,QV];omega,by simp [QV];omega⟩,?_⟩;exact ⟨QU (.mk bk bn bs bl) l (O (e + 1)) (q + 1 + 1) (e + 1),(az 2 rfl (yc ap eE) rfl rfl rfl (tg ap eE)),l.length - (e + 1),by omega,e + 1,q + 1 + 1,rfl,iG.symm,by omega,rfl⟩
  ·have c:e=0:=by simp at c;omega
   rw [if_pos c] at hn;have eE:dVals (O e) ++ [aU (.mk xk xn xs xl)]=dVals (O (e + 1)):=by rw [hn,jh];all_goals rfl
   have iG:(O (e + 1)).length=q + 1:=by rw [hn,List.length_append,hq];all_goals rfl
   refine ⟨by rw [QV],⟨by rw [QV];simp [maxLen];omega,by rw [QV];simp;omega⟩,?_⟩;exact ⟨QU (.mk bk bn bs bl) l (O (e + 1)) (q + 1) (e + 1),(az 2 rfl (yc ap eE) rfl rfl rfl (tg ap eE)),l.length - (e + 1),by omega,e + 1,q + 1,rfl,iG.symm,by omega,rfl⟩
 ·have aO:e=l.length:=by
   have:=hL;simp [hd] at this;omega
  subst aO;refine call_p LG (DZ) ax rfl ?_;exact ⟨_,ax,rfl⟩
abbrev VY (PC LC:List DV) (bQ:Int):List DV:=[.pt PC 0,.pt LC 0,.v (.int .i64 bQ)]
section
variable {n:Nat} {f:Nat->Nat->Bool} {af:List ByteArray} {LC:List DV} (hR:Kl n f af LC) (PC:List DV)
include hR
theorem wV (bQ a:Nat) (ho:bQ < n) (ha:a < n):EvP Tryz.prog 198 [.agg (VY PC LC bQ),.v (.int .i64 a)] (.v (.bool (f a bQ))):=by
 have hq:=hR.leq a bQ;rw [Oo ha ho] at hq;refine ev_go (P:=Tryz.prog) tt tt_ok 5000 11 [.tmp 4] Tryz.func198 rfl Tryz.ntmps198 rfl (nL rfl) (fun E9 w9 hn9 hm9=>?_);refine call_p en88 (hq) ax rfl ?_;exact (rfl:_=_)
theorem wW {ND:List Nd} (bQ a:Nat) (ho:bQ < n) (ha:a < n) (d:Nd) (e:Ed) (hN:dI n ND.length d) (hm:e∈d.au):EvP Tryz.prog 199 [.agg (VY PC LC bQ),.agg (vx e),.v (.int .i64 a)] (.v (.bool (decide (e.ck≠0) && f (xm f n a e.seen.toNat) bQ))):=by
 obtain ⟨_,_,h3,Kv⟩:=k0 hN hm;have hj:=hR.join a e.seen.toNat ha Kv;rw [<- h3] at hj;have hs:=wV hR PC bQ (xm f n a e.seen.toNat) ho (A2 hR.ok ha Kv);obtain ⟨en,eb,ea,et,D7,ew,ml,D8,D9,xX⟩:=e;refine ev_go (P:=Tryz.prog) tt tt_ok 5000 20 [.tmp 6] Tryz.func199 rfl Tryz.ntmps199 rfl (nL rfl) (fun E9 w9 hn9 hm9=>?_);refine aE (fun _=>false) mo (by decide +kernel) ?_;refine br (fun c=>?_) (fun c=>?_)
 ·have c:ml≠0:=by simpa using c
  refine ay LL (hj) ax rfl ?_;refine ay Rz (hs) ax rfl ?_;rw [show decide ((⟨en,eb,ea,et,D7,ew,ml,D8,D9,xX⟩:Ed).ck≠0)=true from decide_eq_true c,Bool.true_and];exact (rfl:_=_)
 ·have c:¬ ml≠0:=by simpa using c
  rw [show decide ((⟨en,eb,ea,et,D7,ew,ml,D8,D9,xX⟩:Ed).ck≠0)=false from decide_eq_false c,Bool.false_and];exact (rfl:_=_)
theorem GN {ND:List Nd} (bQ:Int) (a:Nat) (ha:a < n) (d:Nd) (v:Val) (j:Nat) (e:Ed) (h:cd d v.n j=some e) (hm:e∈d.au) (hN:dI n ND.length d) (h5:5<=d.ag) (hz:d.ag=8->(0<=v.n/\v.n < d.au.length)/\j=0) (jQ:d.au.length<=1099511627776) :
  EvP Tryz.prog 197 [.agg (VY PC LC bQ),.agg (jR d),.agg (aU v),.v (.int .i64 j),.v (.int .i64 a)] (.tup [.agg (vx e),.v (.int .i64 (mj f n d e a:Nat))]):=by
 obtain ⟨_,⟨h2,CH⟩,_⟩:=k0 hN hm;have hj:=hR.join a e.label.toNat ha CH;rw [<- h2] at hj;have hU:mj f n d e a=if d.ag < 7 then a else xm f n a e.label.toNat:=rfl
 generalize mj f n d e a=U at hU ⊢;have h8:=hN.k8;obtain ⟨ag,aC,lo,hi,most,VZ,es⟩:=d;obtain ⟨k,z,s,ks⟩:=v;simp only [Val.n] at h hz jQ hU h5 h8;have kj:=cE es;unfold cd at h;simp only at h;have hd:∃ en eb ea et D7 ew ml D8 D9 xX,e=⟨en,eb,ea,et,D7,ew,ml,D8,D9,xX⟩:=⟨_,_,_,_,_,_,_,_,_,_,rfl⟩
 have Vc:∃ (l:List (List DV)) (b:Bool),EvP Tryz.prog 237 [.agg (jR ⟨ag,aC,lo,hi,most,VZ,es⟩),.agg (aU (.mk k z s ks))] (.tup [.sl 10 l none,.v (.bool b)])/\(if ag < 7 then b=false/\l[0]? = some (vx e) else b=true/\l[j]? = some (vx e)):=by
  by_cases c7:ag=7
  ·rw [if_pos c7] at h;refine ⟨fv es,true,?_,by rw [if_neg (by omega)];exact ⟨rfl,bI h⟩⟩;refine ev_go (P:=Tryz.prog) tt tt_ok 5000 24 [.tmp 4,.tmp 5] Tryz.func237 rfl Tryz.ntmps237 rfl (nL rfl) (fun E9 w9 hn9 hm9=>?_);refine br (fun _=>?_) (fun c=>absurd c7 (by simpa using c));exact ⟨_,ax,rfl⟩
  rw [if_neg c7] at h;by_cases c8:ag=8
  ·rw [if_pos c8] at h;have hz:=hz c8;have hw:IntKind.i64.wrap (z + 1)=z + 1:=wrap64 (by omega) (by omega);refine ⟨((fv es).take (IntKind.i64.wrap (z + 1)).toNat).drop z.toNat,true,?_,by rw [if_neg (by omega),hz.2,List.getElem?_drop,List.getElem?_take,if_pos (by rw [hw];omega)];exact ⟨rfl,bI h⟩⟩;refine ev_go (P:=Tryz.prog) tt tt_ok 5000 24 [.tmp 4,.tmp 5] Tryz.func237 rfl Tryz.ntmps237 rfl (nL rfl) (fun E9 w9 hn9 hm9=>?_);refine br (fun c=>absurd (by simpa using c) c7) (fun _=>?_);refine br (fun _=>?_) (fun c=>absurd c8 (by simpa using c));refine ⟨⟨by omega,by rw [hw];omega,by rw [hw,cE];simp only;omega⟩,?_⟩;exact ⟨_,ax,rfl⟩
  ·rw [if_neg c8] at h;refine ⟨fv es,false,?_,by rw [if_pos (by omega)];exact ⟨rfl,bI h⟩⟩;refine ev_go (P:=Tryz.prog) tt tt_ok 5000 24 [.tmp 4,.tmp 5] Tryz.func237 rfl Tryz.ntmps237 rfl (nL rfl) (fun E9 w9 hn9 hm9=>?_);refine br (fun c=>absurd (by simpa using c) c7) (fun _=>?_);refine br (fun c=>absurd (by simpa using c) c8) (fun _=>?_);exact ⟨_,ax,rfl⟩
 obtain ⟨l,b,hE,hl⟩:=Vc;by_cases c:ag < 7
 ·rw [if_pos c] at hl hU;obtain ⟨rfl,hl⟩:=hl;subst hU;obtain ⟨en,eb,ea,et,D7,ew,ml,D8,D9,xX,rfl⟩:=hd;refine ev_go (P:=Tryz.prog) tt tt_ok 5000 38 [.cell 10 176,.tmp 11] Tryz.func197 rfl Tryz.ntmps197 rfl (nL rfl) (fun E9 w9 hn9 hm9=>?_);refine call_p RJ (hE) ax rfl ?_;refine ⟨_,⟨by omega,hl⟩,?_⟩;exact ⟨_,ax,rfl⟩
 ·rw [if_neg c] at hl hU;obtain ⟨rfl,hl⟩:=hl;subst hU;obtain ⟨en,eb,ea,et,D7,ew,ml,D8,D9,xX,rfl⟩:=hd;refine ev_go (P:=Tryz.prog) tt tt_ok 5000 38 [.cell 10 176,.tmp 11] Tryz.func197 rfl Tryz.ntmps197 rfl (nL rfl) (fun E9 w9 hn9 hm9=>?_);refine call_p RJ (hE) ax rfl ?_;refine ⟨_,⟨by omega,hl⟩,?_⟩;refine aP mo (by decide +kernel) ?_;refine ay LL (hj) ax rfl ?_;exact ⟨_,ax,rfl⟩
end
abbrev OP (a:ByteArray) (aC:Nat) (m:Int) (e:Nat):St:=⟨[(0,⟨[],.v (.string a)⟩),(5,⟨[],.v (.int .i64 aC)⟩),(8,⟨[],.v (.int .i64 m)⟩),(9,⟨[],.v (.int .i64 e)⟩)],[],[]⟩
theorem GO (a:ByteArray) (ha:a.size<=1099511627776) (m:Int) (hm:m<=9223372036854775807):EvP Tryz.prog 239 [.v (.string a),.v (.int .i64 m)] (.v (.string (ba (headL m.toNat (tx a))))):=by
 refine ev_go (P:=Tryz.prog) tt tt_ok 5000 28 [.tmp 4] Tryz.func239 rfl Tryz.ntmps239 rfl (nL rfl) (fun E9 w9 hn9 hm9=>?_);refine aq (fun j st=>∃ e aC:Nat,st=OP a aC m e/\(e:Int)<=max m 0/\aC <= a.size/\(tx a).take aC ++ headL (m.toNat - e) ((tx a).drop aC)=headL m.toNat (tx a)/\j=m.toNat - e) m.toNat (OP a 0 m 0) (weak_mk ⟨_,rfl⟩ wA rfl rfl rfl EJ) ⟨0,0,rfl,by omega,by omega,by simp,by omega⟩ ?_;rintro j st ⟨e,aC,rfl,he,h1,hE,rfl⟩;have eJ:=bm a
 have ZY:headL (m.toNat - e) ((tx a).drop aC)=[]->a.extract 0 aC=ba (headL m.toNat (tx a)):=fun h=>by
  rw [h,List.append_nil] at hE;rw [<- hE];exact rk (tX a aC)
 refine br (fun hL=>?_) (fun hL=>?_)
 rotate_left
 ·have aO:m.toNat - e=0:=by have:=of_decide_eq_false hL;omega
  refine ⟨⟨by omega,by omega,by omega⟩,?_⟩;exact (congrArg (fun z=>DV.v (.string z)) (ZY (by rw [aO];rfl)):_=_)
 have ap:(e:Int) < m:=of_decide_eq_true hL;refine br (fun c=>?_) (fun c=>?_)
 ·have c:aC=a.size:=by have:=of_decide_eq_true c;omega
  refine ⟨⟨by omega,by omega,by omega⟩,?_⟩;exact (congrArg (fun z=>DV.v (.string z)) (ZY (by rw [List.drop_of_length_le (by omega),ze])):_=_)
 have c:aC < a.size:=by have:=of_decide_eq_false c;omega
 have hua:=Kc a aC ha h1
 have aN:(tx a).drop aC ≠ []:=fun h=>by
  have:=congrArg List.length h;rw [List.length_drop,List.length_nil] at this;omega
 have hup:=qw aN;rw [List.length_drop] at hup;obtain ⟨k,hk⟩:∃ k,m.toNat - e=k + 1:=⟨m.toNat - e - 1,by omega⟩;rw [hk,show headL (k + 1) ((tx a).drop aC)=((tx a).drop aC).take (iV ((tx a).drop aC)) ++ headL k (((tx a).drop aC).drop (iV ((tx a).drop aC))) from rfl,<- List.append_assoc,List.drop_drop,<- List.take_add] at hE;generalize iV ((tx a).drop aC)=w at hua hup hE;refine bq X1 rfl hua ax (fun q hq=>?_);obtain ⟨z1,rfl⟩:=hq
 have hw:IntKind.i64.wrap ((aC:Int) + w)=((aC + w:Nat):Int):=by
  rw [wrap64 (by omega) (by omega)];omega
 have he1:IntKind.i64.wrap ((e:Int) + 1)=((e + 1:Nat):Int):=by
  rw [wrap64 (by omega) (by omega)];omega
 exact ⟨OP a (aC + w) m (e + 1),(weak_mk ⟨_,rfl⟩ wA rfl rfl rfl (by repeat' (first | exact trivial | exact ah rfl | exact ak hw | exact ak he1 | refine ⟨⟨_,rfl,?_⟩,?_⟩))),m.toNat - (e + 1),by omega,e + 1,aC + w,rfl,by omega,by omega,by rw [show m.toNat - (e + 1)=k by omega];exact hE,rfl⟩
end Go.Proofs.YtfifjddnnmfeoaaGreat
set_option maxRecDepth 100000
namespace Go.Proofs.YtfifjddnnmfeoaaGreat
open Go Go.RowKit Dv Tryz
end Go.Proofs.YtfifjddnnmfeoaaGreat
set_option maxRecDepth 100000
namespace Go.Proofs.YtfifjddnnmfeoaaGreat
open Go Go.RowKit Dv Tryz
section
variable {L:Nat} {ND:List Nd} (bG:∀ n∈ND,dI L ND.length n)
include bG
end
section
variable {L:Nat} {ND:List Nd} (bG:∀ n∈ND,dI L ND.length n)
include bG
end
end Go.Proofs.YtfifjddnnmfeoaaGreat
namespace Go.Proofs.YtfifjddnnmfeoaaGreat
namespace Dv
open Go Go.RowKit
section
variable {X:Ctx} {st:St} {k:List It} {E:En} {a:Act} {w:World}
end
end Dv
end Go.Proofs.YtfifjddnnmfeoaaGreat
namespace Go.Proofs.YtfifjddnnmfeoaaGreat
namespace Dv
open Go Go.RowKit
section
variable {X:Ctx} {st:St} {k:List It} {E:En} {a:Act} {w:World}
end
end Dv
end Go.Proofs.YtfifjddnnmfeoaaGreat
set_option maxRecDepth 100000
namespace Go.Proofs.YtfifjddnnmfeoaaGreat
open Go Go.RowKit Dv Tryz
end Go.Proofs.YtfifjddnnmfeoaaGreat
set_option maxRecDepth 100000
namespace Go.Proofs.YtfifjddnnmfeoaaGreat
open Go Go.RowKit Dv Tryz
end Go.Proofs.YtfifjddnnmfeoaaGreat
set_option maxRecDepth 100000
namespace Go.Proofs.YtfifjddnnmfeoaaGreat
open Go Go.RowKit Dv Tryz
end Go.Proofs.YtfifjddnnmfeoaaGreat
set_option maxRecDepth 100000
namespace Go.Proofs.YtfifjddnnmfeoaaGreat
open Go Go.RowKit Dv Tryz
section
variable (a b:Nat) (A B:List (List DV)) (rt:Int) {ND:List Nd} {L:Nat} (bG:∀ n∈ND,dI L ND.length n)
include bG
end
section
variable (a b:Nat) (A B:List (List DV)) (rt:Int) {ND:List Nd} {L:Nat} (bG:∀ n∈ND,dI L ND.length n)
include bG
end
end Go.Proofs.YtfifjddnnmfeoaaGreat
set_option maxRecDepth 100000
namespace Go.Proofs.YtfifjddnnmfeoaaGreat
open Go Go.RowKit Dv Tryz
end Go.Proofs.YtfifjddnnmfeoaaGreat
set_option maxRecDepth 100000
set_option maxHeartbeats 4000000
namespace Go.Proofs.YtfifjddnnmfeoaaGreat
open Go Go.RowKit Dv Tryz
section
variable (lv:List Wd) (f:Nat->Nat->Bool) (ND:List Nd) (z:Int) (hL:dZ f lv.length) (hn:lv.length<=32) (bG:∀ n∈ND,dI lv.length ND.length n) (bE:∀ n∈ND,n.au.length<=1099511627776) (bQ:Nat) (ho:bQ < lv.length) (dep:Nat) (hdep:dep<=64)
include hL hn bG bE ho hdep
end
section
variable (lv:List Wd) (f:Nat->Nat->Bool) (ND:List Nd) (root:Nat) (gN:root < ND.length) (hL:dZ f lv.length) (hn:lv.length<=32) (bG:∀ n∈ND,dI lv.length ND.length n) (bE:∀ n∈ND,n.au.length<=1099511627776) (bQ:Nat) (ho:bQ < lv.length)
include gN hL hn bG bE ho
end
section
variable (lv:List Wd) (f:Nat->Nat->Bool) (ND:List Nd) (rt:Nat) (hL:dZ f lv.length) (hn:lv.length<=32) (bG:∀ n∈ND,dI lv.length ND.length n) (bE:∀ n∈ND,n.au.length<=1099511627776) (J0:∀ n∈ND,Ba n)
include hL hn bG bE J0
end
section
variable {S:Sch} {ND:List Nd} {PC LC:List DV} (hP:ke S ND PC) (rP:EvP Tryz.prog 38 [.pt PC 0] (.pt LC 0)) (hR:Kl S.ae.length (cA S) (av S.ae) LC) (Vd:∀ n∈ND,Ba n) (bE:∀ n∈ND,n.au.length<=1099511627776) (rt:Nat) (GP:bN S=rt)
include rP hR
theorem GQ (o:Int):EvP Tryz.prog 136 [.pt PC 0,.v (.int .i64 o)] (.tup [.agg (VY PC LC o),.v (.bool (decide (0<=o/\o < S.ae.length)))]):=by
 have hlen:=hR.len;refine ev_go (P:=Tryz.prog) tt tt_ok 5000 21 [.cell 4 232,.tmp 5] Tryz.func136 rfl Tryz.ntmps136 rfl (nL rfl) (fun E9 w9 hn9 hm9=>?_);refine call_p en38 (rP) ax rfl ?_;refine br (fun c=>?_) (fun c=>?_)
 ·have c:0<=o:=by simpa using c
  refine call_p Hw (hlen) ax rfl ?_;have hd:decide (0<=o/\o < (S.ae.length:Int))=decide (o < (S.ae.length:Int)):=decide_eq_decide.2 ⟨fun h=>h.2,fun h=>⟨c,h⟩⟩;rw [hd];exact ⟨_,ax,rfl⟩
 ·have c:¬ 0<=o:=by simpa using c
  rw [show decide (0<=o/\o < (S.ae.length:Int))=false from decide_eq_false (fun h=>c h.1)];exact ⟨_,ax,rfl⟩
include hP Vd bE GP
end
theorem shellF_567 {d:Nd} {v:Val} (c:d.ag=5∨d.ag=6∨d.ag=7):shellF d v=(decide (v.s=al) && decide (v.k=d.ag) && decide (v.n=0) && (if d.ag=5 then decide ((v.ks.length:Int)<=d.most) else if d.ag=6 then decide (v.ks.length < 2) else decide (v.ks.length=d.au.length))):=by
 unfold shellF;by_cases h1:v.s=al<;>by_cases h2:v.k=d.ag<;>by_cases h3:v.n=0
 all_goals (first
  | (rw [if_neg (by rintro (h | h | h);exact h h2;exact h h1;exact h.2 h3)];rw [decide_eq_true h1,decide_eq_true h2,decide_eq_true h3];rcases c with c | c | c<;>simp [c])
  | (rw [if_pos (by first | exact .inr (.inl h1) | exact .inl h2 | exact .inr (.inr ⟨by omega,h3⟩))];simp [h1,h2,h3]))
theorem shellF_8 {d:Nd} {v:Val} (c:d.ag=8):shellF d v=if v.s≠al∨v.k≠8∨v.n < 0∨(d.au.length:Int)<=v.n then false else match d.au[v.n.toNat]? with
  | none=>false
  | some e=>(decide (v.ks.length=0) == e.bare) && decide (v.ks.length < 2):=by
 unfold shellF;rw [c];by_cases h1:v.s=al
 ·by_cases h2:v.k=8
  ·rw [if_neg (by rintro (h | h | h);exact h h2;exact h h1;exact h.1 rfl),if_neg (by decide),if_neg (by decide),if_neg (by decide)];by_cases h3:v.n < 0∨(d.au.length:Int)<=v.n
   ·rw [if_pos h3,if_pos (.inr (.inr h3))]
   ·rw [if_neg h3,if_neg (by rintro (h | h | h);exact h h1;exact h h2;exact h3 h)]
    cases d.au[v.n.toNat]? with
    | none=>rfl
    | some e=>
     simp only
     have key:∀ m:Nat,(if e.bare=true then decide (m=0) else decide (m=1))=((decide (m=0) == e.bare) && decide (m < 2)):=fun m=>by
      cases e.bare<;>(match m with
       | 0=>rfl
       | 1=>rfl
       | m + 2=>simp)
     exact key _
  ·rw [if_pos (.inl h2),if_pos (.inr (.inl h2))]
 ·rw [if_pos (.inr (.inl h1)),if_pos (.inl h1)]
theorem Ec (d:Nd) (v:Val) (h5:5<=d.ag) (h8:d.ag<=8) (jQ:d.au.length<=1099511627776) (hv:v.wt<=1099511627776):EvP Tryz.prog 196 [.agg (jR d),.agg (aU v)] (.v (.bool (shellF d v))):=by
 have hA:=fun c=>shellF_567 (d:=d) (v:=v) c;have hB:=fun c=>shellF_8 (d:=d) (v:=v) c;have V0:d.ag=5->shellF d v=(decide (v.s=al) && decide (v.k=5) && decide (v.n=0) && decide ((v.ks.length:Int)<=d.most)):=fun c=>by rw [hA (.inl c),if_pos c,c]
 have V1:d.ag=6->shellF d v=(decide (v.s=al) && decide (v.k=6) && decide (v.n=0) && decide (v.ks.length < 2)):=fun c=>by rw [hA (.inr (.inl c)),if_neg (by omega),if_pos c,c]
 have V2:d.ag=7->shellF d v=(decide (v.s=al) && decide (v.k=7) && decide (v.n=0) && decide (v.ks.length=d.au.length)):=fun c=>by rw [hA (.inr (.inr c)),if_neg (by omega),if_neg (by omega),c]
 have hB1:d.ag=8->(v.s≠al∨v.k≠8∨v.n < 0∨(d.au.length:Int)<=v.n)->shellF d v=false:=fun c h=>by rw [hB c,if_pos h]
 have hB2:d.ag=8->¬ (v.s≠al∨v.k≠8∨v.n < 0∨(d.au.length:Int)<=v.n)->∀ e,d.au[v.n.toNat]? = some e->shellF d v=((decide (v.ks.length=0) == e.bare) && decide (v.ks.length < 2)):=fun c h e he=>by rw [hB c,if_neg h,he]
 clear hA hB;generalize shellF d v=B at V0 V1 V2 hB1 hB2 ⊢;obtain ⟨ag,aC,lo,hi,most,VZ,es⟩:=d;obtain ⟨k,z,s,ks⟩:=v;simp only [Val.k,Val.n,Val.s,Val.ks] at V0 V1 V2 hB1 hB2 h5 h8 jQ;have kj:=cE es;have cH:=aW ks;refine ev_go (P:=Tryz.prog) tt tt_ok 5000 111 [.tmp 4] Tryz.func196 rfl Tryz.ntmps196 rfl (nL rfl) (fun E9 w9 hn9 hm9=>?_);refine br (fun c=>?_) (fun c=>?_)
 ·have c:ag=5:=by simpa using c
  subst c;rw [V0 rfl];refine (congrArg (fun b=>DV.v (.bool b)) ?_:_=_);simp only [pickB_and,cH];rfl
 have c5:¬ ag=5:=by simpa using c
 refine br (fun c=>?_) (fun c=>?_)
 ·have c:ag=6:=by simpa using c
  subst c;rw [V1 rfl];refine (congrArg (fun b=>DV.v (.bool b)) ?_:_=_);simp only [pickB_and,cH];rw [show decide ((ks.length:Int)<=1)=decide (ks.length < 2) from decide_eq_decide.2 ⟨fun h=>by omega,fun h=>by omega⟩];rfl
 have c6:¬ ag=6:=by simpa using c
 refine br (fun c=>?_) (fun c=>?_)
 ·have c:ag=7:=by simpa using c
  subst c;rw [V2 rfl];refine (congrArg (fun b=>DV.v (.bool b)) ?_:_=_);simp only [pickB_and,cH,kj];rw [show decide ((ks.length:Int)=es.length)=decide (ks.length=es.length) from decide_eq_decide.2 ⟨fun h=>by omega,fun h=>by omega⟩];rfl
 have c7:¬ ag=7:=by simpa using c
 refine br (fun c=>?_) (fun c=>?_)
 ·have c:s≠al∨k≠8∨z < 0∨(es.length:Int)<=z:=by
   simp [aj,kj] at c;rcases c with ((c | c) | c) | c
   ·exact .inl c
   ·exact .inr (.inl c)
   ·exact .inr (.inr (.inl c))
   ·exact .inr (.inr (.inr c))
  rw [hB1 (by omega) c];exact (rfl:_=_)
 ·have c:¬ (s≠al∨k≠8∨z < 0∨(es.length:Int)<=z):=by
   simp [aj,kj] at c;rintro (h | h | h | h)
   ·exact h c.1.1.1
   ·exact h c.1.1.2
   ·omega
   ·omega
  obtain ⟨e,he⟩:∃ e,es[z.toNat]? = some e:=⟨_,gE (by omega)⟩;rw [hB2 (by omega) c e he];obtain ⟨en,eb,ea,et,D7,ew,ml,D8,D9,xX⟩:=e;refine aE (fun _=>false) mo (by decide +kernel) ?_;refine ⟨_,⟨by omega,bI he⟩,?_⟩;refine (congrArg (fun b=>DV.v (.bool b)) ?_:_=_);simp only [pickB_and,cH];rw [show decide ((ks.length:Int)=0)=decide (ks.length=0) from decide_eq_decide.2 ⟨fun h=>by omega,fun h=>by omega⟩,show decide ((ks.length:Int) < 2)=decide (ks.length < 2) from decide_eq_decide.2 ⟨fun h=>by omega,fun h=>by omega⟩];rfl
theorem gC (v:Val) (k n:Int) (s:ByteArray):EvP Tryz.prog 144 [.agg (aU v),.v (.int .i64 k),.v (.int .i64 n),.v (.string s)] (.v (.bool (bV v k n s))):=by
 obtain ⟨q,z,t,ks⟩:=v;have cH:=aW ks;refine ev_go (P:=Tryz.prog) tt tt_ok 5000 31 [.tmp 8] Tryz.func144 rfl Tryz.ntmps144 rfl (nL rfl) (fun E9 w9 hn9 hm9=>?_);refine (congrArg (fun b=>DV.v (.bool b)) ?_:_=_);unfold bV;simp only [pickB_and,cH];rw [show decide ((ks.length:Int)=0)=decide (ks.length=0) from decide_eq_decide.2 ⟨fun h=>by omega,fun h=>by omega⟩];rfl
theorem Bh (d:Nd) (v:Val) (h5:5<=d.ag) (h8:d.ag<=8) (jQ:d.au.length<=1099511627776) (hv:v.wt<=1099511627776):EvP Tryz.prog 143 [.agg (jR d),.agg (aU v)] (.v (.bool (shellF d v))):=by
 have hS:shellF d v=if v.k≠d.ag∨v.s≠al∨(d.ag≠8/\v.n≠0) then false
  else if d.ag=5 then decide ((v.ks.length:Int)<=d.most)
  else if d.ag=6 then decide (v.ks.length < 2)
  else if d.ag=7 then decide (v.ks.length=d.au.length)
  else if v.n < 0∨(d.au.length:Int)<=v.n then false
  else match d.au[v.n.toNat]? with
   | none=>false
   | some e=>if e.bare=true then decide (v.ks.length=0) else decide (v.ks.length=1):=rfl
 generalize shellF d v=B at hS ⊢;have hA0:(v.k≠d.ag∨v.s≠al∨(d.ag≠8/\v.n≠0))->B=false:=fun h=>by rw [hS,if_pos h]
 have V0:¬ (v.k≠d.ag∨v.s≠al∨(d.ag≠8/\v.n≠0))->d.ag=5->B=decide ((v.ks.length:Int)<=d.most):=fun h c=>by rw [hS,if_neg h,if_pos c]
 have V1:¬ (v.k≠d.ag∨v.s≠al∨(d.ag≠8/\v.n≠0))->d.ag=6->B=decide (v.ks.length < 2):=fun h c=>by rw [hS,if_neg h,if_neg (by omega),if_pos c]
 have V2:¬ (v.k≠d.ag∨v.s≠al∨(d.ag≠8/\v.n≠0))->d.ag=7->B=decide (v.ks.length=d.au.length):=fun h c=>by rw [hS,if_neg h,if_neg (by omega),if_neg (by omega),if_pos c]
 have hA8:¬ (v.k≠d.ag∨v.s≠al∨(d.ag≠8/\v.n≠0))->d.ag=8->(v.n < 0∨(d.au.length:Int)<=v.n)->B=false:=fun h c g=>by rw [hS,if_neg h,if_neg (by omega),if_neg (by omega),if_neg (by omega),if_pos g]
 have hA9:¬ (v.k≠d.ag∨v.s≠al∨(d.ag≠8/\v.n≠0))->d.ag=8->¬ (v.n < 0∨(d.au.length:Int)<=v.n)->∀ e,d.au[v.n.toNat]? = some e->B=if e.bare=true then decide (v.ks.length=0) else decide (v.ks.length=1):=fun h c g e he=>by rw [hS,if_neg h,if_neg (by omega),if_neg (by omega),if_neg (by omega),if_neg g,he]
 clear hS;obtain ⟨ag,aC,lo,hi,most,VZ,es⟩:=d;obtain ⟨k,z,s,ks⟩:=v;simp only [Val.k,Val.n,Val.s,Val.ks] at hA0 V0 V1 V2 hA8 hA9 h5 h8 jQ;have kj:=cE es;have cH:=aW ks;refine ev_go (P:=Tryz.prog) tt tt_ok 5000 77 [.tmp 4] Tryz.func143 rfl Tryz.ntmps143 rfl (nL rfl) (fun E9 w9 hn9 hm9=>?_);refine br (fun c=>?_) (fun c=>?_)
 ·have c:k≠ag∨s≠al∨(ag≠8/\z≠0):=by
   simp [aj,pickB_and] at c;rcases c with (c | c) | c
   ·exact .inl c
   ·exact .inr (.inl c)
   ·exact .inr (.inr c)
  rw [hA0 c];exact (rfl:_=_)
 have eI:¬ (k≠ag∨s≠al∨(ag≠8/\z≠0)):=by
  simp [aj,pickB_and] at c;rintro (h | h | h)
  ·exact h c.1.1
  ·exact h c.1.2
  ·exact h.2 (c.2 h.1)
 refine br (fun c=>?_) (fun c=>?_)
 ·have c:ag=5:=by simpa using c
  rw [V0 eI c];refine (congrArg (fun b=>DV.v (.bool b)) ?_:_=_);simp only [cH];exact decide_eq_decide.2 Iff.rfl
 have c5:¬ ag=5:=by simpa using c
 refine br (fun c=>?_) (fun c=>?_)
 ·have c:ag=6:=by simpa using c
  rw [V1 eI c];refine (congrArg (fun b=>DV.v (.bool b)) ?_:_=_);simp only [cH];exact decide_eq_decide.2 ⟨fun h=>by omega,fun h=>by omega⟩
 have c6:¬ ag=6:=by simpa using c
 refine br (fun c=>?_) (fun c=>?_)
 ·have c:ag=7:=by simpa using c
  rw [V2 eI c];refine (congrArg (fun b=>DV.v (.bool b)) ?_:_=_);simp only [cH,kj];exact decide_eq_decide.2 ⟨fun h=>by omega,fun h=>by omega⟩
 have c7:¬ ag=7:=by simpa using c
 refine br (fun c=>?_) (fun c=>?_)
 ·have c:z < 0∨(es.length:Int)<=z:=by simpa [aj,kj] using c
  rw [hA8 eI (by omega) c];exact (rfl:_=_)
 have c:¬ (z < 0∨(es.length:Int)<=z):=by simpa [aj,kj] using c
 obtain ⟨e,he⟩:∃ e,es[z.toNat]? = some e:=⟨_,gE (by omega)⟩;rw [hA9 eI (by omega) c e he];refine ⟨_,⟨by omega,bI he⟩,?_⟩;obtain ⟨en,eb,ea,et,D7,ew,ml,D8,D9,xX⟩:=e
 cases eb with
 | true=>
  refine (congrArg (fun b=>DV.v (.bool b)) ?_:_=_);simp only [cH,reduceIte];exact decide_eq_decide.2 ⟨fun h=>by omega,fun h=>by omega⟩
 | false=>
  refine (congrArg (fun b=>DV.v (.bool b)) ?_:_=_);simp only [cH];rw [if_neg (by simp)];exact decide_eq_decide.2 ⟨fun h=>by omega,fun h=>by omega⟩
theorem jO {v:Val} {k n:Int} {s:ByteArray} (h:0 < v.ks.length):bV v k n s=false:=by
 unfold bV;rw [decide_eq_false (show ¬ v.ks.length=0 by omega),Bool.and_false]
theorem tmod_zero {z u:Int} (hu:1<=u):z.tmod u=0↔z % u=0:=by
 rw [<- Int.dvd_iff_tmod_eq_zero,<- Int.dvd_iff_emod_eq_zero]
theorem GR {z u:Int} (hz : -9223372036854775808<=z) (hu:1<=u):((bw z u).2 && decide ((bw z u).1=z))=decide (z % u=0):=by
 rw [Ot hu];have h1:=Int.emod_nonneg z (b:=u) (by omega);by_cases c:z - z % u < -9223372036854775808
 ·rw [if_pos c,decide_eq_false (show ¬ z % u=0 by omega)];rfl
 ·rw [if_neg c];show (true && decide (z - z % u=z))=_;rw [Bool.true_and];exact decide_eq_decide.2 ⟨fun h=>by omega,fun h=>by omega⟩
theorem mayF_1 {e:Ed} {d:Nd} {v:Val} (c:e.ck=1/\d.ag=2):ij e d v=if bV v 9 e.wide al=true then !(bw d.lo e.cn).2
  else bV v 10 v.n al && decide (v.n % e.cn=0) && (bw d.hi e.cn).2 && decide (v.n<=(bw d.hi e.cn).1) && (!(bw d.lo e.cn).2 || decide ((bw d.lo e.cn).1<=v.n)):=by
 unfold ij;rw [if_pos c]
theorem mayF_2 {e:Ed} {d:Nd} {v:Val} (c:e.ck=2/\d.ag=3):ij e d v=(bV v 11 0 v.s && decide ((v.s.size:Int)<=d.most) && decide (headL e.cn.toNat (tx v.s)=tx v.s)):=by
 unfold ij;rw [if_neg (by omega),if_pos c]
theorem mayF_3 {e:Ed} {d:Nd} {v:Val} (c:e.ck=3/\d.ag=5):ij e d v=(bV v 12 v.n al && decide (0<=v.n) && decide (v.n<=d.most)):=by
 unfold ij;rw [if_neg (by omega),if_neg (by omega),if_pos c]
theorem mayF_0 {e:Ed} {d:Nd} {v:Val} (c1:¬ (e.ck=1/\d.ag=2)) (c2:¬ (e.ck=2/\d.ag=3)) (c3:¬ (e.ck=3/\d.ag=5)):ij e d v=bV v 9 e.wide al:=by
 unfold ij;rw [if_neg c1,if_neg c2,if_neg c3]
theorem OQ {e:Ed} {d:Nd} {v:Val} (h:0 < v.ks.length):ij e d v=false:=by
 by_cases c1:e.ck=1/\d.ag=2
 ·rw [mayF_1 c1,jO h,jO h,if_neg (by simp)];rfl
 by_cases c2:e.ck=2/\d.ag=3
 ·rw [mayF_2 c2,jO h];rfl
 by_cases c3:e.ck=3/\d.ag=5
 ·rw [mayF_3 c3,jO h];rfl
 rw [mayF_0 c1 c2 c3,jO h]
theorem np {v:Val} {k n:Int} {s:ByteArray} (h:v.ks=[]):bV v k n s=(decide (v.k=k) && decide (v.n=n) && decide (v.s=s)):=by
 unfold bV;rw [h];exact Bool.and_true _
theorem mayF_9 {e:Ed} {d:Nd} {v:Val} (c:e.ck=1/\d.ag=2) (xj:v.ks=[]) (h:v.k=9):ij e d v=(!(bw d.lo e.cn).2 && decide (v.n=e.wide) && decide (v.s=al)):=by
 rw [mayF_1 c,np xj,np xj,h];by_cases h1:v.n=e.wide<;>by_cases h2:v.s=al<;>simp [h1,h2]
theorem mayF_10 {e:Ed} {d:Nd} {v:Val} (c:e.ck=1/\d.ag=2) (xj:v.ks=[]) (h:¬ v.k=9) (hn : -9223372036854775808<=v.n) (SE:1<=e.cn) :
  ij e d v=(decide (v.k=10) && decide (v.s=al) && (bw v.n e.cn).2 && decide ((bw v.n e.cn).1=v.n) && (bw d.hi e.cn).2 && (!(bw d.lo e.cn).2 || decide ((bw d.lo e.cn).1<=v.n)) && decide (v.n<=(bw d.hi e.cn).1)):=by
 rw [mayF_1 c,np xj,np xj,decide_eq_false h,<- GR hn SE];generalize (bw v.n e.cn).2=b1;generalize decide ((bw v.n e.cn).1=v.n)=b2;generalize (bw d.hi e.cn).2=b3;generalize decide (v.n<=(bw d.hi e.cn).1)=b4;generalize (!(bw d.lo e.cn).2 || decide ((bw d.lo e.cn).1<=v.n))=b5;generalize decide (v.k=10)=b6;generalize decide (v.s=al)=b7;rw [show decide (v.n=v.n)=true from decide_eq_true rfl];cases b1<;>cases b2<;>cases b3<;>cases b4<;>cases b5<;>cases b6<;>cases b7<;>rfl
theorem Bi (e:Ed) (d:Nd) (v:Val) (xj:v.ks=[]) (Va:e.ck=1/\d.ag=2) (SE:1<=e.cn) (hn : -9223372036854775808<=v.n/\v.n<=9223372036854775807) (hlo : -9223372036854775808<=d.lo/\d.lo<=9223372036854775807) (n4 : -9223372036854775808<=d.hi/\d.hi<=9223372036854775807) (hc : -9223372036854775808<=e.cn/\e.cn<=9223372036854775807) :
  EvP Tryz.prog 238 [.agg (vx e),.agg (jR d),.agg (aU v)] (.v (.bool (ij e d v))):=by
 have h1:=oT d.lo e.cn hlo hc;have h2:=oT v.n e.cn hn hc;have h3:=oT d.hi e.cn n4 hc;have fD:=mayF_9 Va xj;have qW:=fun h=>mayF_10 Va xj h hn.1 SE;generalize ij e d v=B at fD qW ⊢;unfold AL at h1 h2 h3;generalize bw d.lo e.cn=L at h1 fD qW;generalize bw v.n e.cn=M at h2 qW;generalize bw d.hi e.cn=H at h3 qW;obtain ⟨L1,L2⟩:=L;obtain ⟨M1,M2⟩:=M;obtain ⟨H1,H2⟩:=H;obtain ⟨q,z,s,ks⟩:=v;obtain ⟨en,eb,ea,et,D7,ew,ml,D8,D9,xX⟩:=e;obtain ⟨ag,aC,lo,hi,most,VZ,es⟩:=d;refine ev_go (P:=Tryz.prog) tt tt_ok 5000 90 [.tmp 6] Tryz.func238 rfl Tryz.ntmps238 rfl (nL rfl) (fun E9 w9 hn9 hm9=>?_);refine call_p LS (h1) ax rfl ?_;refine br (fun c=>?_) (fun c=>?_)
 ·have c:q=9:=by simpa using c
  rw [fD c];refine (congrArg (fun b=>DV.v (.bool b)) ?_:_=_);simp only [pickB_and];rfl
 ·have c:¬ q=9:=by simpa using c
  rw [qW c];refine call_p LS (h2) ax rfl ?_;refine call_p LS (h3) ax rfl ?_;refine (congrArg (fun b=>DV.v (.bool b)) ?_:_=_);simp only [pickB_and,aj];rfl
theorem zu (e:Ed) (d:Nd) (v:Val) (SE:e.ck=1->1<=e.cn) (hn : -9223372036854775808<=v.n/\v.n<=9223372036854775807) (hlo : -9223372036854775808<=d.lo/\d.lo<=9223372036854775807) (n4 : -9223372036854775808<=d.hi/\d.hi<=9223372036854775807) (hc : -9223372036854775808<=e.cn/\e.cn<=9223372036854775807) (hv:v.wt<=1099511627776) :
  EvP Tryz.prog 200 [.agg (vx e),.agg (jR d),.agg (aU v)] (.v (.bool (ij e d v))):=by
 have Le:=fun xj Va=>Bi e d v xj Va (SE Va.1) hn hlo n4 hc
 have bE:v.s.size<=1099511627776/\v.ks.length<=1099511627776:=by
  obtain ⟨k,n,s,ks⟩:=v;have:=dC ks;rw [Val.wt] at hv;exact ⟨by show s.size<=_;omega,by show ks.length<=_;omega⟩
 have hh:=GO v.s bE.1 e.cn hc.2;have hlen:=fun h=>OQ (e:=e) (d:=d) (v:=v) h;have qW:=fun c=>mayF_2 (e:=e) (d:=d) (v:=v) c;have Sy:=fun c=>mayF_3 (e:=e) (d:=d) (v:=v) c;have jX:=fun a b c=>mayF_0 (e:=e) (d:=d) (v:=v) a b c;have iE:=fun k n s h=>np (v:=v) (k:=k) (n:=n) (s:=s) h;generalize ij e d v=B at Le hlen qW Sy jX ⊢
 have Ve:(e.ck=2/\d.ag=3)->v.ks=[]->B=(decide (v.k=11) && decide (v.n=0) && decide ((v.s.size:Int)<=d.most) && decide (headL e.cn.toNat (tx v.s)=tx v.s)):=fun c h=>by
  rw [qW c,iE _ _ _ h,show decide (v.s=v.s)=true from decide_eq_true rfl,Bool.and_true]
 have ZZ:(e.ck=3/\d.ag=5)->v.ks=[]->B=(decide (v.k=12) && decide (v.s=al) && decide (0<=v.n) && decide (v.n<=d.most)):=fun c h=>by
  rw [Sy c,iE _ _ _ h,show decide (v.n=v.n)=true from decide_eq_true rfl,Bool.and_true]
 have tv:¬ (e.ck=1/\d.ag=2)->¬ (e.ck=2/\d.ag=3)->¬ (e.ck=3/\d.ag=5)->v.ks=[]->B=(decide (v.k=9) && decide (v.n=e.wide) && decide (v.s=al)):=fun a b c h=>by
  rw [jX a b c,iE _ _ _ h]
 clear qW Sy jX iE;generalize headL e.cn.toNat (tx v.s)=HD at hh Ve;obtain ⟨q,z,s,ks⟩:=v;simp only [Val.ks,Val.s] at Le hlen Ve ZZ tv hh bE;have cH:=aW ks;obtain ⟨en,eb,ea,et,D7,ew,ml,D8,D9,xX⟩:=e;obtain ⟨ag,aC,lo,hi,most,VZ,es⟩:=d;refine ev_go (P:=Tryz.prog) tt tt_ok 5000 104 [.tmp 6] Tryz.func200 rfl Tryz.ntmps200 rfl (nL rfl) (fun E9 w9 hn9 hm9=>?_);refine br (fun c=>?_) (fun c=>?_)
 ·have c:0 < ks.length:=by simpa [cH] using c
  rw [hlen c];exact (rfl:_=_)
 have c0:ks=[]:=by
  have:¬ 0 < ks.length:=by simpa [cH] using c
  exact List.eq_nil_of_length_eq_zero (by omega)
 refine br (fun c=>?_) (fun c=>?_)
 ·have c:ml=1/\ag=2:=by simpa [pickB_and] using c
  have Le:=Le c0 c;refine call_p XO (Le) ax rfl ?_;exact (rfl:_=_)
 have c1:¬ (ml=1/\ag=2):=by simpa [pickB_and] using c
 refine br (fun c=>?_) (fun c=>?_)
 ·have c:ml=2/\ag=3:=by simpa [pickB_and] using c
  have hB:B=((decide (q=11) && decide (z=0) && decide ((s.size:Int)<=most)) && decide (HD=tx s)):=Ve c c0;have hbt:decide (ba HD=s)=decide (HD=tx s):=decide_eq_decide.2 ⟨fun h=>by rw [<- h,mI],fun h=>by rw [h,oe]⟩;refine aE (fun _=>false) mo (by decide +kernel) ?_;refine br (fun g=>?_) (fun g=>?_)
  ·have g:(decide (q=11) && decide (z=0) && decide ((s.size:Int)<=most))=true:=by simpa [pickB_and] using g
   rw [g,Bool.true_and] at hB;refine ay XP (hh) ax rfl ?_;refine (congrArg (fun b=>DV.v (.bool b)) ?_:_=_);rw [hB,<- hbt];rfl
  ·have g:(decide (q=11) && decide (z=0) && decide ((s.size:Int)<=most))=false:=by simpa [pickB_and] using g
   rw [g,Bool.false_and] at hB;rw [hB];exact (rfl:_=_)
 have c2:¬ (ml=2/\ag=3):=by simpa [pickB_and] using c
 refine br (fun c=>?_) (fun c=>?_)
 ·have c:ml=3/\ag=5:=by simpa [pickB_and] using c
  rw [ZZ c c0];refine (congrArg (fun b=>DV.v (.bool b)) ?_:_=_);simp only [pickB_and];rfl
 have c3:¬ (ml=3/\ag=5):=by simpa [pickB_and] using c
 rw [tv c1 c2 c3 c0];refine (congrArg (fun b=>DV.v (.bool b)) ?_:_=_);simp only [pickB_and];rfl
theorem GS (e:Ed) (d:Nd) (v:Val) (SE:e.ck=1->1<=e.cn) (hn : -9223372036854775808<=v.n/\v.n<=9223372036854775807) (hlo : -9223372036854775808<=d.lo/\d.lo<=9223372036854775807) (n4 : -9223372036854775808<=d.hi/\d.hi<=9223372036854775807) (hc : -9223372036854775808<=e.cn/\e.cn<=9223372036854775807) (hv:v.wt<=1099511627776) :
  EvP Tryz.prog 147 [.agg (vx e),.agg (jR d),.agg (aU v)] (.v (.bool (ij e d v))):=by
 have h1:=qq d.lo e.cn hlo hc;have h3:=qq d.hi e.cn n4 hc
 have bE:v.s.size<=1099511627776:=by
  obtain ⟨k,n,s,ks⟩:=v;rw [Val.wt] at hv;show s.size<=_;omega
 have hh:=sU e.cn.toNat v.s bE e.cn hc.2 rfl;have hp9:=gC v 9 e.wide al;have Z0:=gC v 10 v.n al;have Z1:=gC v 11 0 v.s;have Z2:=gC v 12 v.n al;have fD:=fun c=>mayF_1 (e:=e) (d:=d) (v:=v) c;have qW:=fun c=>mayF_2 (e:=e) (d:=d) (v:=v) c;have Sy:=fun c=>mayF_3 (e:=e) (d:=d) (v:=v) c;have jX:=fun a b c=>mayF_0 (e:=e) (d:=d) (v:=v) a b c
 have hmz:e.ck=1->decide (v.n.tmod (max e.cn 1)=0)=decide (v.n % e.cn=0):=fun h=>by
  rw [show max e.cn 1=e.cn by have:=SE h;omega];exact decide_eq_decide.2 (tmod_zero (SE h))
 generalize ij e d v=B at fD qW Sy jX ⊢;generalize bV v 9 e.wide al=P9 at hp9 fD jX;generalize bV v 10 v.n al=P10 at Z0 fD;generalize bV v 11 0 v.s=P11 at Z1 qW;generalize bV v 12 v.n al=P12 at Z2 Sy;unfold AL at h1 h3;generalize bw d.lo e.cn=L at h1 fD;generalize bw d.hi e.cn=H at h3 fD;generalize headL e.cn.toNat (tx v.s)=HD at hh qW;generalize decide (v.n % e.cn=0)=MZ at fD hmz;obtain ⟨L1,L2⟩:=L;obtain ⟨H1,H2⟩:=H;obtain ⟨q,z,s,ks⟩:=v;obtain ⟨en,eb,ea,et,D7,ew,ml,D8,D9,xX⟩:=e;obtain ⟨ag,aC,lo,hi,most,VZ,es⟩:=d;refine ev_go (P:=Tryz.prog) tt tt_ok 5000 131 [.tmp 6] Tryz.func147 rfl Tryz.ntmps147 rfl (nL rfl) (fun E9 w9 hn9 hm9=>?_);refine br (fun c=>?_) (fun c=>?_)
 ·have c:ml=1/\ag=2:=by simpa [pickB_and] using c
  have hB:=fD c;have hmz:=hmz c.1;have ZU:max D8 1≠0:=by omega
  refine call_p RB (h1) ax rfl ?_;refine call_p RB (h3) ax rfl ?_;refine call_p yh (hp9) ax rfl ?_
  cases P9 with
  | true=>
   rw [if_pos rfl] at hB;rw [hB];exact (rfl:_=_)
  | false=>
   rw [if_neg (by simp)] at hB;refine call_p yh (Z0) ax rfl ?_
   cases P10 with
   | true=>
    refine ⟨⟨rfl,ZU⟩,?_⟩;refine (congrArg (fun b=>DV.v (.bool b)) ?_:_=_);rw [hB];simp only [pickB_and,aj];have hmz':decide (z.tmod (max D8 1)=0)=MZ:=hmz;rw [hmz'];rfl
   | false=>
    rw [hB];exact (rfl:_=_)
 have c1:¬ (ml=1/\ag=2):=by simpa [pickB_and] using c
 refine br (fun c=>?_) (fun c=>?_)
 ·have c:ml=2/\ag=3:=by simpa [pickB_and] using c
  have hB:B=(P11 && decide ((s.size:Int)<=most) && decide (HD=tx s)):=qW c;have hbt:decide (ba HD=s)=decide (HD=tx s):=decide_eq_decide.2 ⟨fun h=>by rw [<- h,mI],fun h=>by rw [h,oe]⟩;refine aE (fun _=>false) mo (by decide +kernel) ?_;refine ay yh (Z1) ax rfl ?_;refine br (fun g=>?_) (fun g=>?_)
  ·have g:(P11 && decide ((s.size:Int)<=most))=true:=by simpa [pickB_and] using g
   rw [g,Bool.true_and] at hB;refine ay RC (hh) ax rfl ?_;refine (congrArg (fun b=>DV.v (.bool b)) ?_:_=_);rw [hB,<- hbt];rfl
  ·have g:(P11 && decide ((s.size:Int)<=most))=false:=by simpa [pickB_and] using g
   rw [g,Bool.false_and] at hB;rw [hB];exact (rfl:_=_)
 have c2:¬ (ml=2/\ag=3):=by simpa [pickB_and] using c
 refine br (fun c=>?_) (fun c=>?_)
 ·have c:ml=3/\ag=5:=by simpa [pickB_and] using c
  rw [Sy c];refine call_p yh (Z2) ax rfl ?_;refine (congrArg (fun b=>DV.v (.bool b)) ?_:_=_);simp only [pickB_and];rfl
 have c3:¬ (ml=3/\ag=5):=by simpa [pickB_and] using c
 rw [jX c1 c2 c3];refine call_p yh (hp9) ax rfl ?_;exact (rfl:_=_)
def edW (w:Int):Ed:=⟨al,false,0,0,0,w,0,0,0,0⟩
theorem Vf (w:Int) (d:Nd) (v:Val):ij (edW w) d v=bV v 9 w al:=by
 rw [mayF_0 (by rintro ⟨h,_⟩;cases h) (by rintro ⟨h,_⟩;cases h) (by rintro ⟨h,_⟩;cases h)];rfl
theorem wX {N:Nat} {ND:List Nd} {d:Nd} (hN:dI N ND.length d) {v:Val} (h:shellF d v=true) (c:d.ag=8) {m:Nat} (hm:m < v.ks.length):(0<=v.n/\v.n < d.au.length)/\m=0:=by
 rw [shellF_8 c] at h;split at h
 ·cases h
 rename_i hc;have h1:¬ v.n < 0:=fun g=>hc (.inr (.inr (.inl g)));have h2:¬ (d.au.length:Int)<=v.n:=fun g=>hc (.inr (.inr (.inr g)));split at h
 ·cases h
 ·rw [Bool.and_eq_true,decide_eq_true_iff] at h;have:=h.2;omega
def GU (ND:List Nd) (f:Nat->Nat->Bool) (L bQ:Nat) (d:Nd) (e:Ed) (a:Nat) (x:Val):Bool:=if r8 f L bQ d e a=2 then seeV ND f L bQ x e.to (mj f L d e a) else if r8 f L bQ d e a=1 then (match dq ND e.to with | none=>false | some t=>ij e t x) else bV x 9 e.wide al
theorem zw {ND:List Nd} {f:Nat->Nat->Bool} {L bQ:Nat} {ks:List Val} {d:Nd} {z:Int} {a j m:Nat} {x:Val} {e:Ed} (h:ks[m]? = some x) (he:cd d z j=some e):seeVs ND f L bQ (ks.drop m) d z a j=(GU ND f L bQ d e a x && seeVs ND f L bQ (ks.drop (m + 1)) d z a (j + 1)):=by
 rw [Gp h,he];rfl
abbrev GV (PC LC:List DV) (bQ a:Nat) (v:Val) (d:Nd) (e:Nat):St:=
 ⟨[(2,⟨[],.v (.int .i64 a)⟩),(4,⟨[],.loc 0 0⟩),(7,⟨[],.loc 1 0⟩),(9,⟨[],.loc 2 0⟩),(38,⟨[],.sl 4 (dVals v.ks) none⟩),(39,⟨[],.v (.int .i64 (dVals v.ks).length)⟩),(40,⟨[],.v (.int .i64 e)⟩)],[VY PC LC bQ,aU v,jR d],[]⟩
theorem s5 {S:Sch} {ND:List Nd} {PC LC:List DV} (hP:ke S ND PC) (hR:Kl S.ae.length (cA S) (av S.ae) LC) (J0:∀ n∈ND,Ba n) (bE:∀ n∈ND,n.au.length<=1099511627776) (bQ:Nat) (ho:bQ < S.ae.length) :
  ∀ (k:Nat) (v:Val),v.wt<=k->v.wt<=1099511627776->rngW v->∀ (i a:Nat),a < S.ae.length->i < ND.length ->
   EvP Tryz.prog 137 [.agg (VY PC LC bQ),.v (.int .i64 i),.v (.int .i64 a),.agg (aU v)] (.v (.bool (seeV ND (cA S) S.ae.length bQ v i a)))
 | 0,v,h,_=>by have:=v.de;omega
 | k + 1,v,h,hb=>fun hr i a ha hi=>by
  have ih:=s5 hP hR J0 bE bQ ho k;have hL:=hR.ok;obtain ⟨d,hg⟩:∃ d,ND[i]? = some d:=⟨_,gE hi⟩
  have hnd:dq ND (i:Int)=some d:=by
   unfold dq;rw [if_neg (by omega),Int.toNat_natCast,hg]
  have tf:=mG hg;have hN:=hP.ok d tf;have fw:=hP.ai i d hg;have Bg:=bE d tf;have Vg:=J0 d tf;have KV:=wz hP _ v (Nat.le_refl _) hb i;have A7:=fun h5=>Ec d v h5 hN.k8 Bg hb;have GW:=fun h5 hs m hm=>r9 hN h5 (v:=v) hs (m:=m) hm;have GX:=fun hs c m hm=>wX hN (v:=v) hs c (m:=m) hm
  have hV:seeV ND (cA S) S.ae.length bQ v i a=if d.ag < 5 then fitV ND v i else shellF d v && seeVs ND (cA S) S.ae.length bQ v.ks d v.n a 0:=by
   obtain ⟨q,z,s,ks⟩:=v;rw [seeV,hnd];rfl
  have Vh:d.ag < 5->seeV ND (cA S) S.ae.length bQ v i a=fitV ND v i:=fun c=>by rw [hV,if_pos c]
  have Bj:¬ d.ag < 5->seeV ND (cA S) S.ae.length bQ v i a=(shellF d v && seeVs ND (cA S) S.ae.length bQ v.ks d v.n a 0):=fun c=>by rw [hV,if_neg c]
  clear hV;generalize seeV ND (cA S) S.ae.length bQ v i a=B at Vh Bj ⊢;generalize fitV ND v i=F at KV Vh;generalize shellF d v=SH at A7 GW GX Bj;obtain ⟨vk,vn,vs,ks⟩:=v;have iL:=dC ks;have cH:=aW ks;rw [Val.wt] at h hb;have Z3:=ID hr;simp only [Val.ks,Val.n] at Bj Z3 GW GX;obtain ⟨ag,aC,lo,dE,most,af,es⟩:=d;refine ev_go (P:=Tryz.prog) tt tt_ok 5000 90 [.tmp 8] Tryz.func137 rfl Tryz.ntmps137 rfl (nL rfl) (fun E9 w9 hn9 hm9=>?_);refine call_p zU (fw) ax rfl ?_;refine br (fun c=>?_) (fun c=>?_)
  ·have c:ag < 5:=by simpa using c
   rw [Vh c];refine call_p WL (KV) ax rfl ?_;exact (rfl:_=_)
  have c5:¬ ag < 5:=by simpa using c
  have Bj:=Bj c5;have h5:5<=ag:=by omega
  have A7:=A7 h5;refine call_p Xx (A7) ax rfl ?_
  cases SH with
  | false=>
   rw [Bool.false_and] at Bj;rw [Bj];exact (rfl:_=_)
  | true=>
   rw [Bool.true_and] at Bj;refine aq (fun t st=>∃ e:Nat,st=GV PC LC bQ a (.mk vk vn vs ks) ⟨ag,aC,lo,dE,most,af,es⟩ e/\e<=ks.length/\B=seeVs ND (cA S) S.ae.length bQ (ks.drop e) ⟨ag,aC,lo,dE,most,af,es⟩ vn a e/\t=ks.length - e) ks.length (GV PC LC bQ a (.mk vk vn vs ks) ⟨ag,aC,lo,dE,most,af,es⟩ 0) (az 3 rfl wRA rfl rfl rfl EJ) ⟨0,rfl,by omega,Bj,by omega⟩ ?_;rintro t st ⟨e,rfl,he,hE,rfl⟩;refine br (fun MU=>?_) (fun MU=>?_)
   ·have ap:e < ks.length:=by simpa [cH,Val.ks] using MU
    obtain ⟨x,hx⟩:∃ x,ks[e]? = some x:=⟨_,gE ap⟩;obtain ⟨ed,hK⟩:=GW h5 rfl e ap;have hm:=mG hx;have IF:=fA hm;have tP:=ik Z3 hm;obtain ⟨h1,t2,h2⟩:=Oq hN hK.mem hK.bare;obtain ⟨_,Eo⟩:=cO h2;have eJ:=(gS Eo).1;have nK:ed.to=(ed.to.toNat:Nat):=by omega
    have GY:=J0 t2 (mG Eo);have OR:=hP.ai ed.to.toNat t2 Eo;rw [<- nK] at OR;rw [zw hx hK.mL] at hE;have oi:=GN hR PC bQ a ha ⟨ag,aC,lo,dE,most,af,es⟩ (.mk vk vn vs ks) e ed hK.mL hK.mem hN h5 (fun c=>GX rfl c e ap) Bg;have hU:=Iz hL hN hK.mem ha;have OS:=wV hR PC bQ (mj (cA S) S.ae.length ⟨ag,aC,lo,dE,most,af,es⟩ ed a) ho hU;have hco:=wW hR PC bQ a ho ha ⟨ag,aC,lo,dE,most,af,es⟩ ed hN hK.mem;have Vi:=Vg.2.2 ed hK.mem;have Vj:=(hN.mL ed hK.mem).cn.2.1;have OT:=zu ed t2 x Vj (GB tP) GY.1 GY.2.1 Vi (by omega);have OU:=zu (edW ed.wide) t2 x (fun h=>by cases h) (GB tP) GY.1 GY.2.1 ⟨by show (-9223372036854775808:Int)<=0;decide,by show (0:Int)<=9223372036854775807;decide⟩ (by omega);rw [Vf] at OU;have rV:=ih x (by omega) (by omega) tP ed.to.toNat (mj (cA S) S.ae.length ⟨ag,aC,lo,dE,most,af,es⟩ ed a) hU eJ;rw [<- nK] at rV
    have qJ:GU ND (cA S) S.ae.length bQ ⟨ag,aC,lo,dE,most,af,es⟩ ed a x=if cA S (mj (cA S) S.ae.length ⟨ag,aC,lo,dE,most,af,es⟩ ed a) bQ=true then seeV ND (cA S) S.ae.length bQ x ed.to (mj (cA S) S.ae.length ⟨ag,aC,lo,dE,most,af,es⟩ ed a) else if (decide (ed.ck≠0) && cA S (xm (cA S) S.ae.length a ed.seen.toNat) bQ)=true then ij ed t2 x else bV x 9 ed.wide al:=by
     unfold GU;rw [QN,h2];by_cases g1:cA S (mj (cA S) S.ae.length ⟨ag,aC,lo,dE,most,af,es⟩ ed a) bQ=true
     ·simp only [if_pos g1,reduceIte]
     ·by_cases g2:ed.ck≠0/\cA S (xm (cA S) S.ae.length a ed.seen.toNat) bQ=true
      ·simp only [if_neg g1,if_pos g2,reduceIte];rw [if_neg (by decide),if_pos (by rw [decide_eq_true g2.1,g2.2];rfl)]
      ·simp only [if_neg g1,if_neg g2]
       rw [if_neg (by decide),if_neg (by decide),if_neg (by
        intro h;rw [Bool.and_eq_true,decide_eq_true_iff] at h
        exact g2 h)]
    generalize GU ND (cA S) S.ae.length bQ ⟨ag,aC,lo,dE,most,af,es⟩ ed a x=KS at hE qJ;generalize mj (cA S) S.ae.length ⟨ag,aC,lo,dE,most,af,es⟩ ed a=U at oi OS rV qJ;generalize cA S U bQ=b1 at OS qJ;generalize (decide (ed.ck≠0) && cA S (xm (cA S) S.ae.length a ed.seen.toNat) bQ)=b2 at hco qJ;generalize seeV ND (cA S) S.ae.length bQ x ed.to U=R1 at rV qJ;generalize ij ed t2 x=R2 at OT qJ;generalize bV x 9 ed.wide al=R3 at OU qJ;have rL:KS=false->B=false:=fun h=>by rw [hE,h,Bool.false_and]
    have oB:KS=true->∃ j',j' < ks.length - e/\∃ e',GV PC LC bQ a (.mk vk vn vs ks) ⟨ag,aC,lo,dE,most,af,es⟩ (e + 1)=GV PC LC bQ a (.mk vk vn vs ks) ⟨ag,aC,lo,dE,most,af,es⟩ e' /\ e' <= ks.length/\B=seeVs ND (cA S) S.ae.length bQ (ks.drop e') ⟨ag,aC,lo,dE,most,af,es⟩ vn a e' /\ j'=ks.length - e':=fun h=>⟨ks.length - (e + 1),by omega,e + 1,rfl,by omega,by rw [hE,h,Bool.true_and],rfl⟩;obtain ⟨xk,xn,xs,xks⟩:=x;obtain ⟨en,eb,ea,et,D7,ew,ml,D8,D9,xX⟩:=ed;obtain ⟨kind2,at2,lo2,sr,most2,adY,es2⟩:=t2;clear hE;refine ⟨_,⟨by omega,bP hx⟩,?_⟩;refine call_p Xy (oi) ax rfl ?_;refine call_p zU (OR) ax rfl ?_;refine call_p Rz (OS) ax rfl ?_
    cases b1 with
    | true=>
     refine call_p Rn (rV) ax rfl ?_
     cases R1 with
     | false=>
      have hB:=rL (by rw [qJ];rfl);rw [hB];exact (rfl:_=_)
     | true=>
      obtain ⟨j',g1,g2⟩:=oB (by rw [qJ];rfl);exact ⟨GV PC LC bQ a (.mk vk vn vs ks) ⟨ag,aC,lo,dE,most,af,es⟩ (e + 1),(az 3 rfl (Em ap) rfl rfl rfl (wNB ap)),j',g1,g2⟩
    | false=>
     refine call_p Xz (hco) ax rfl ?_
     cases b2 with
     | true=>
      refine call_p RA (OT) ax rfl ?_
      cases R2 with
      | false=>
       have hB:=rL (by rw [qJ];rfl);rw [hB];exact (rfl:_=_)
      | true=>
       obtain ⟨j',g1,g2⟩:=oB (by rw [qJ];rfl);exact ⟨GV PC LC bQ a (.mk vk vn vs ks) ⟨ag,aC,lo,dE,most,af,es⟩ (e + 1),(az 3 rfl (Em ap) rfl rfl rfl (wNB ap)),j',g1,g2⟩
     | false=>
      refine call_p RA (OU) ax rfl ?_
      cases R3 with
      | false=>
       have hB:=rL (by rw [qJ];rfl);rw [hB];exact (rfl:_=_)
      | true=>
       obtain ⟨j',g1,g2⟩:=oB (by rw [qJ];rfl);exact ⟨GV PC LC bQ a (.mk vk vn vs ks) ⟨ag,aC,lo,dE,most,af,es⟩ (e + 1),(az 3 rfl (Em ap) rfl rfl rfl (wNB ap)),j',g1,g2⟩
   ·have aO:e=ks.length:=by have:=MU;simp [cH,Val.ks] at this;omega
    subst aO;rw [List.drop_length,seeVs] at hE;rw [hE];exact (rfl:_=_)
def wY (ND:List Nd) (f:Nat->Nat->Bool) (n rt:Nat) (o:Int) (v:Val):Bool:=decide (0<=o/\o < n) && seeV ND f n o.toNat v rt (xT f n)
theorem s6 {S:Sch} {ND:List Nd} {PC LC:List DV} (hP:ke S ND PC) (rP:EvP Tryz.prog 38 [.pt PC 0] (.pt LC 0)) (hR:Kl S.ae.length (cA S) (av S.ae) LC) (Vd:∀ n∈ND,Ba n) (bE:∀ n∈ND,n.au.length<=1099511627776) (rt:Nat) (GP:bN S=rt) (gl:rt < ND.length) (o:Int) (v:Val) (hv:v.wt<=1099511627776) (HG:rngW v) :
  EvP Tryz.prog 78 [.pt PC 0,.v (.int .i64 o),.agg (aU v)] (.v (.bool (wY ND (cA S) S.ae.length rt o v))):=by
 have KR:=GQ rP hR o;have gN:=hP.root;rw [GP] at gN;have MT:=hR.bot;have hs:=fun (bQ:Nat) (ho:bQ < S.ae.length)=>s5 hP hR Vd bE bQ ho _ v (Nat.le_refl _) hv HG rt (xT (cA S) S.ae.length) (Iy hR.ok) gl;have hS:wY ND (cA S) S.ae.length rt o v=(decide (0<=o/\o < S.ae.length) && seeV ND (cA S) S.ae.length o.toNat v rt (xT (cA S) S.ae.length)):=rfl;generalize wY ND (cA S) S.ae.length rt o v=SF at hS ⊢;by_cases ho:0<=o/\o < S.ae.length
 ·obtain ⟨ob,rfl⟩:∃ n:Nat,o=n:=⟨_,(Int.toNat_of_nonneg ho.1).symm⟩;have hs:=hs ob (by omega);rw [show decide (0<=(ob:Int)/\(ob:Int) < (S.ae.length:Int))=true from decide_eq_true ho] at KR hS;rw [Int.toNat_natCast,Bool.true_and] at hS;rw [<- hS] at hs;generalize xT (cA S) S.ae.length=bt at MT hs;obtain ⟨k,n,s,ks⟩:=v;refine ev_go (P:=Tryz.prog) tt tt_ok 5000 26 [.tmp 6] Tryz.func78 rfl Tryz.ntmps78 rfl (nL rfl) (fun E9 w9 hn9 hm9=>?_);refine call_p Rm (KR) ax rfl ?_;refine aE (fun _=>false) mo (by decide +kernel) ?_;refine ay Ts (gN) ax rfl ?_;refine ay Ro (MT) ax rfl ?_;refine ay Rn (hs) ax rfl ?_;exact (rfl:_=_)
 ·rw [show decide (0<=o/\o < (S.ae.length:Int))=false from decide_eq_false ho] at KR hS;rw [Bool.false_and] at hS;rw [hS];obtain ⟨k,n,s,ks⟩:=v;refine ev_go (P:=Tryz.prog) tt tt_ok 5000 26 [.tmp 6] Tryz.func78 rfl Tryz.ntmps78 rfl (nL rfl) (fun E9 w9 hn9 hm9=>?_);refine call_p Rm (KR) ax rfl ?_;refine aE (fun _=>false) mo (by decide +kernel) ?_;exact (rfl:_=_)
abbrev o0 (W:List DV) (v:Val) (bQ a:Nat) (d:Nd) (e:Nat):St:=
 ⟨[(1,⟨[],.v (.int .i64 bQ)⟩),(3,⟨[],.v (.int .i64 a)⟩),(5,⟨[],.loc 0 0⟩),(9,⟨[],.loc 1 0⟩),(11,⟨[],.loc 2 0⟩),(12,⟨[],.v (.int .i64 e)⟩)],[W,aU v,jR d],[]⟩
theorem s7 (lv:List Wd) (f:Nat->Nat->Bool) (ND:List Nd) (z:Int) (hL:dZ f lv.length) (hn:lv.length<=32) (bG:∀ n∈ND,dI lv.length ND.length n) (bE:∀ n∈ND,n.au.length<=1099511627776) (J0:∀ n∈ND,Ba n) (bQ:Nat) (ho:bQ < lv.length) :
  ∀ (k:Nat) (v:Val),v.wt<=k->v.wt<=1099511627776->rngW v->∀ (i a:Nat),a < lv.length->i < ND.length ->
   EvP Tryz.prog 81 [.agg (wL lv f ND z),.v (.int .i64 bQ),.v (.int .i64 i),.v (.int .i64 a),.agg (aU v)] (.v (.bool (seeV ND f lv.length bQ v i a)))
 | 0,v,h,_=>by have:=v.de;omega
 | k + 1,v,h,hb=>fun hr i a ha hi=>by
  have ih:=s7 lv f ND z hL hn bG bE J0 bQ ho k;obtain ⟨d,hg⟩:∃ d,ND[i]? = some d:=⟨_,gE hi⟩
  have hnd:dq ND (i:Int)=some d:=by
   unfold dq;rw [if_neg (by omega),Int.toNat_natCast,hg]
  have tf:=mG hg;have hN:=bG d tf;have Bg:=bE d tf;have Vg:=J0 d tf;have KV:=sX 2 1 (bu lv) (cz (dm lv.length f)) z bG v.wt v (Nat.le_refl _) hb i;rw [<- Oj bG] at KV;have A7:=fun h5=>Bh d v h5 hN.k8 Bg hb;have GW:=fun h5 hs m hm=>r9 hN h5 (v:=v) hs (m:=m) hm;have GX:=fun hs c m hm=>wX hN (v:=v) hs c (m:=m) hm
  have hV:seeV ND f lv.length bQ v i a=if d.ag < 5 then fitV ND v i else shellF d v && seeVs ND f lv.length bQ v.ks d v.n a 0:=by
   obtain ⟨q,z,s,ks⟩:=v;rw [seeV,hnd];rfl
  have Vh:d.ag < 5->seeV ND f lv.length bQ v i a=fitV ND v i:=fun c=>by rw [hV,if_pos c]
  have Bj:¬ d.ag < 5->seeV ND f lv.length bQ v i a=(shellF d v && seeVs ND f lv.length bQ v.ks d v.n a 0):=fun c=>by rw [hV,if_neg c]
  clear hV;generalize seeV ND f lv.length bQ v i a=B at Vh Bj ⊢;generalize fitV ND v i=F at KV Vh;generalize shellF d v=SH at A7 GW GX Bj;obtain ⟨vk,vn,vs,ks⟩:=v;have iL:=dC ks;have cH:=aW ks;rw [Val.wt] at h hb;have Z3:=ID hr;simp only [Val.ks,Val.n] at Bj Z3 GW GX;have Vk:=fun e (he:e∈d.au)=>qH lv f ND z hL hn d e a ha hN he;have hhow:=fun e (he:e∈d.au)=>GI lv f ND z hL hn d e bQ a ho ha hN he;obtain ⟨ag,aC,lo,dE,most,af,es⟩:=d;refine ev_go (P:=Tryz.prog) tt tt_ok 5000 90 [.tmp 10] Tryz.func81 rfl Tryz.ntmps81 rfl (nL rfl) (fun E9 w9 hn9 hm9=>?_);refine ⟨_,⟨by omega,fx hg⟩,?_⟩;refine br (fun c=>?_) (fun c=>?_)
  ·have c:ag < 5:=by simpa using c
   rw [Vh c];refine call_p Rq (KV) ax rfl ?_;exact (rfl:_=_)
  have c5:¬ ag < 5:=by simpa using c
  have Bj:=Bj c5;have h5:5<=ag:=by omega
  have A7:=A7 h5;refine call_p Xd (A7) ax rfl ?_
  cases SH with
  | false=>
   rw [Bool.false_and] at Bj;rw [Bj];exact (rfl:_=_)
  | true=>
   rw [Bool.true_and] at Bj;refine aq (fun t st=>∃ e:Nat,st=o0 (wL lv f ND z) (.mk vk vn vs ks) bQ a ⟨ag,aC,lo,dE,most,af,es⟩ e/\e<=ks.length/\B=seeVs ND f lv.length bQ (ks.drop e) ⟨ag,aC,lo,dE,most,af,es⟩ vn a e/\t=ks.length - e) ks.length (o0 (wL lv f ND z) (.mk vk vn vs ks) bQ a ⟨ag,aC,lo,dE,most,af,es⟩ 0) (az 3 rfl wRA rfl rfl rfl EJ) ⟨0,rfl,by omega,Bj,by omega⟩ ?_;rintro t st ⟨e,rfl,he,hE,rfl⟩;refine br (fun MU=>?_) (fun MU=>?_)
   ·have ap:e < ks.length:=by simpa [cH,Val.ks] using MU
    obtain ⟨x,hx⟩:∃ x,ks[e]? = some x:=⟨_,gE ap⟩;obtain ⟨ed,hK⟩:=GW h5 rfl e ap;have hm:=mG hx;have IF:=fA hm;have tP:=ik Z3 hm;obtain ⟨h1,t2,h2⟩:=Oq hN hK.mem hK.bare;obtain ⟨_,Eo⟩:=cO h2;have eJ:=(gS Eo).1;have nK:ed.to=(ed.to.toNat:Nat):=by omega
    have GY:=J0 t2 (mG Eo);rw [zw hx hK.mL] at hE;have oi:=nj ⟨ag,aC,lo,dE,most,af,es⟩ (.mk vk vn vs ks) e ed hK.mL (fun c=>(GX rfl c e ap).1) Bg;have ye:=Vk ed hK.mem;have hho:=hhow ed hK.mem;have Vi:=Vg.2.2 ed hK.mem;have Vj:=(hN.mL ed hK.mem).cn.2.1;have OT:=GS ed t2 x Vj (GB tP) GY.1 GY.2.1 Vi (by omega);have iE:=gC x 9 ed.wide al;have rV:=ih x (by omega) (by omega) tP ed.to.toNat (mj f lv.length ⟨ag,aC,lo,dE,most,af,es⟩ ed a) (Iz hL hN hK.mem ha) eJ;rw [<- nK] at rV
    have qJ:GU ND f lv.length bQ ⟨ag,aC,lo,dE,most,af,es⟩ ed a x=if r8 f lv.length bQ ⟨ag,aC,lo,dE,most,af,es⟩ ed a=2 then seeV ND f lv.length bQ x ed.to (mj f lv.length ⟨ag,aC,lo,dE,most,af,es⟩ ed a) else if r8 f lv.length bQ ⟨ag,aC,lo,dE,most,af,es⟩ ed a=1 then ij ed t2 x else bV x 9 ed.wide al:=by
     unfold GU;rw [h2]
    generalize GU ND f lv.length bQ ⟨ag,aC,lo,dE,most,af,es⟩ ed a x=KS at hE qJ;generalize r8 f lv.length bQ ⟨ag,aC,lo,dE,most,af,es⟩ ed a=H at hho qJ;generalize seeV ND f lv.length bQ x ed.to (mj f lv.length ⟨ag,aC,lo,dE,most,af,es⟩ ed a)=R1 at rV qJ;generalize ij ed t2 x=R2 at OT qJ;generalize bV x 9 ed.wide al=R3 at iE qJ;have rL:KS=false->B=false:=fun h=>by rw [hE,h,Bool.false_and]
    have oB:KS=true->∃ j',j' < ks.length - e/\∃ e',o0 (wL lv f ND z) (.mk vk vn vs ks) bQ a ⟨ag,aC,lo,dE,most,af,es⟩ (e + 1)=o0 (wL lv f ND z) (.mk vk vn vs ks) bQ a ⟨ag,aC,lo,dE,most,af,es⟩ e' /\ e' <= ks.length/\B=seeVs ND f lv.length bQ (ks.drop e') ⟨ag,aC,lo,dE,most,af,es⟩ vn a e' /\ j'=ks.length - e':=fun h=>⟨ks.length - (e + 1),by omega,e + 1,rfl,by omega,by rw [hE,h,Bool.true_and],rfl⟩;obtain ⟨xk,xn,xs,xks⟩:=x;clear hE;refine call_p LA (oi) ax rfl ?_;refine aE (fun _=>false) mo (by decide +kernel) ?_;refine ⟨_,⟨by omega,bP hx⟩,?_⟩;refine ay yh (iE) ax rfl ?_;refine call_p Xe (hho) ax rfl ?_;refine br (fun c=>?_) (fun c=>?_)
    ·have c:H=2:=by
      have:=of_decide_eq_true c;omega
     rw [if_pos c] at qJ;refine aE (fun _=>false) mo (by decide +kernel) ?_;refine ay Rr (ye) ax rfl ?_;refine ⟨_,⟨by omega,bP hx⟩,?_⟩;refine ay WX (rV) ax rfl ?_
     cases R1 with
     | false=>
      have hB:=rL (by rw [qJ]);rw [hB];exact (rfl:_=_)
     | true=>
      obtain ⟨j',g1,g2⟩:=oB (by rw [qJ]);exact ⟨o0 (wL lv f ND z) (.mk vk vn vs ks) bQ a ⟨ag,aC,lo,dE,most,af,es⟩ (e + 1),(az 3 rfl (Em ap) rfl rfl rfl (wNB ap)),j',g1,g2⟩
    ·have c2:¬ H=2:=by
      have:=of_decide_eq_false c;omega
     rw [if_neg c2] at qJ;refine br (fun c=>?_) (fun c=>?_)
     ·have c:H=1:=by
       have:=of_decide_eq_true c;omega
      rw [if_pos c] at qJ;refine aE (fun _=>false) mo (by decide +kernel) ?_;refine ⟨_,⟨by omega,fx Eo⟩,?_⟩;refine ⟨_,⟨by omega,bP hx⟩,?_⟩;refine ay Xf (OT) ax rfl ?_
      cases R2 with
      | false=>
       have hB:=rL (by rw [qJ]);rw [hB];exact (rfl:_=_)
      | true=>
       obtain ⟨j',g1,g2⟩:=oB (by rw [qJ]);exact ⟨o0 (wL lv f ND z) (.mk vk vn vs ks) bQ a ⟨ag,aC,lo,dE,most,af,es⟩ (e + 1),(az 3 rfl (Em ap) rfl rfl rfl (wNB ap)),j',g1,g2⟩
     ·have c1:¬ H=1:=by
       have:=of_decide_eq_false c;omega
      rw [if_neg c1] at qJ
      cases R3 with
      | false=>
       have hB:=rL (by rw [qJ]);rw [hB];exact (rfl:_=_)
      | true=>
       obtain ⟨j',g1,g2⟩:=oB (by rw [qJ]);exact ⟨o0 (wL lv f ND z) (.mk vk vn vs ks) bQ a ⟨ag,aC,lo,dE,most,af,es⟩ (e + 1),(az 3 rfl (Em ap) rfl rfl rfl (wNB ap)),j',g1,g2⟩
   ·have aO:e=ks.length:=by have:=MU;simp [cH,Val.ks] at this;omega
    subst aO;rw [List.drop_length,seeVs] at hE;rw [hE];exact (rfl:_=_)
theorem wZ (lv:List Wd) (f:Nat->Nat->Bool) (ND:List Nd) (rt:Nat) (gl:rt < ND.length) (hL:dZ f lv.length) (hn:lv.length<=32) (bG:∀ n∈ND,dI lv.length ND.length n) (bE:∀ n∈ND,n.au.length<=1099511627776) (J0:∀ n∈ND,Ba n) (o:Int) (v:Val) (hv:v.wt<=1099511627776) (HG:rngW v) :
  EvP Tryz.prog 32 [.agg (wL lv f ND (rt:Nat)),.v (.int .i64 o),.agg (aU v)] (.v (.bool (wY ND f lv.length rt o v))):=by
 have hb:=xU lv.length f (by omega);rw [r7 hL] at hb;have dW:=fZ lv.length f;have hs:=fun (bQ:Nat) (ho:bQ < lv.length)=>s7 lv f ND (rt:Nat) hL hn bG bE J0 bQ ho _ v (Nat.le_refl _) hv HG rt (xT f lv.length) (Iy hL) gl;have hS:wY ND f lv.length rt o v=(decide (0<=o/\o < lv.length) && seeV ND f lv.length o.toNat v rt (xT f lv.length)):=rfl;generalize wY ND f lv.length rt o v=SF at hS ⊢;by_cases ho:0<=o/\o < lv.length
 ·obtain ⟨ob,rfl⟩:∃ n:Nat,o=n:=⟨_,(Int.toNat_of_nonneg ho.1).symm⟩;have hs:=hs ob (by omega);rw [show decide (0<=(ob:Int)/\(ob:Int) < (lv.length:Int))=true from decide_eq_true ho,Int.toNat_natCast,Bool.true_and] at hS;rw [<- hS] at hs;obtain ⟨k,n,s,ks⟩:=v;refine ev_go (P:=Tryz.prog) tt tt_ok 5000 27 [.tmp 6] Tryz.func32 rfl Tryz.ntmps32 rfl (nL rfl) (fun E9 w9 hn9 hm9=>?_);refine aE (fun _=>false) mo (by decide +kernel) ?_;refine br (fun _=>?_) (fun c=>absurd c (by simp [pickB_and,dW];omega));refine ay en82 (hb) ax rfl ?_;refine ay WX (hs) ax rfl ?_;exact (rfl:_=_)
 ·rw [show decide (0<=o/\o < (lv.length:Int))=false from decide_eq_false ho,Bool.false_and] at hS;rw [hS];obtain ⟨k,n,s,ks⟩:=v;refine ev_go (P:=Tryz.prog) tt tt_ok 5000 27 [.tmp 6] Tryz.func32 rfl Tryz.ntmps32 rfl (nL rfl) (fun E9 w9 hn9 hm9=>?_);refine aE (fun _=>false) mo (by decide +kernel) ?_;refine br (fun c=>absurd c (by simp [pickB_and,dW];omega)) (fun _=>?_);exact (rfl:_=_)
end Go.Proofs.YtfifjddnnmfeoaaGreat
set_option maxRecDepth 100000
namespace Go.Proofs.YtfifjddnnmfeoaaGreat
open Go Go.RowKit Dv Tryz
end Go.Proofs.YtfifjddnnmfeoaaGreat
set_option maxRecDepth 100000
namespace Go.Proofs.YtfifjddnnmfeoaaGreat
open Go Go.RowKit Dv Tryz
section
variable {ND:List Nd} {f:Nat->Nat->Bool} {L bQ:Nat}
theorem QW {v:Val} {i:Int} {d:Nd} (hd:dq ND i=some d) (h9:9<=v.k) (hb:bS v=true) (hk:v.ks=[]):jL ND v i=true:=by
 obtain ⟨k,n,s,ks⟩:=v;have hk:ks=[]:=hk;subst hk;have h9:9<=k:=h9;rw [jL,hd];simp only;rw [if_pos h9,hb];rfl
theorem im {v:Val} {i:Int} {d:Nd} {k n:Int} {s:ByteArray} (hd:dq ND i=some d) (h:bV v k n s=true) (hk:(k=9/\1<=n/\n<=64)∨k=10∨k=11∨k=12):jL ND v i=true:=by
 rw [Gq.1 h];refine QW hd (by show 9<=k;omega) ?_ rfl;rcases hk with ⟨rfl,h1,h2⟩ | rfl | rfl | rfl<;>simp [bS,Val.k,Val.n]
 exact ⟨decide_eq_true h1,decide_eq_true h2⟩
theorem QX {v:Val} {i:Int} {d:Nd} {e:Ed} {t:Nd} (hd:dq ND i=some d) (hw:1<=e.wide/\e.wide<=64) (h:ij e t v=true):jL ND v i=true:=by
 unfold ij at h;split at h
 ·split at h
  ·rename_i c;exact im hd c (.inl ⟨rfl,hw⟩)
  ·simp only [Bool.and_eq_true] at h;exact im hd h.1.1.1.1 (.inr (.inl rfl))
 ·split at h
  ·simp only [Bool.and_eq_true] at h;exact im hd h.1.1 (.inr (.inr (.inl rfl)))
  ·split at h
   ·simp only [Bool.and_eq_true] at h;exact im hd h.1.1 (.inr (.inr (.inr rfl)))
   ·exact im hd h (.inl ⟨rfl,hw⟩)
mutual
theorem IK (bG:∀ n∈ND,dI L ND.length n):∀ (v:Val) (i:Int) (a:Nat),seeV ND f L bQ v i a=true->jL ND v i=true
 | .mk k n s ks,i,a,h=>by
  rw [seeV] at h
  cases hd:dq ND i with
  | none=>rw [hd] at h;cases h
  | some d=>
   rw [hd] at h;simp only at h;have hN:=bG d (mG (cO hd).2);have Er:=hN.k8;rw [jL,hd];simp only;split at h
   ·rename_i c5;obtain ⟨d',hF⟩:=Kj bG h;have hdd:=hF.ai;rw [hd] at hdd;injection hdd with hdd
    subst hdd;have h1:k=d.ag:=hF.k;have h2:ks=[]:=hF.leaf c5;have h3:=hF.enum;rw [if_neg (by omega),if_neg (by omega),if_pos c5,h2];simp only [decide_true,Bool.true_and,Bool.or_eq_true,decide_eq_true_iff];by_cases c4:k=4
    ·exact .inr (h3 (by omega))
    ·exact .inl c4
   ·rename_i c5;rw [Bool.and_eq_true] at h
    have hk:k=d.ag:=by
     by_cases c:k=d.ag
     ·exact c
     ·have:=h.1;unfold shellF at this;rw [if_pos (.inl c)] at this;cases this
    rw [if_neg (by omega),if_neg (by omega),if_neg c5,Bool.and_eq_true];exact ⟨h.1,Ee bG ks d n a 0 hN (fun m hm=>by rw [Nat.zero_add];exact r9 hN (by omega) h.1 hm) h.2⟩
theorem Ee (bG:∀ n∈ND,dI L ND.length n):∀ (l:List Val) (d:Nd) (z:Int) (a j:Nat),dI L ND.length d->(∀ m,m < l.length->∃ e,ZD ND d z (j + m) e)->seeVs ND f L bQ l d z a j=true->gj ND l d z j=true
 | [],_,_,_,_,_,_,_=>by rw [gj]
 | x :: r,d,z,a,j,hN,hK,h=>by
  rw [seeVs,Bool.and_eq_true] at h;rw [gj,Bool.and_eq_true];refine ⟨?_,Ee bG r d z a (j + 1) hN (fun m hm=>by have:=hK (m + 1) (by rw [List.length_cons];omega);rwa [show j + (m + 1)=j + 1 + m by omega] at this) h.2⟩;obtain ⟨e,hE⟩:=hK 0 (by simp);have he:=hE.mL;rw [Nat.add_zero] at he;have h1:=h.1;rw [he] at h1 ⊢;simp only at h1 ⊢;obtain ⟨g1,t,ht⟩:=Oq hN hE.mem hE.bare;have hw:=(hN.mL e hE.mem).wide;split at h1
  ·exact IK bG x e.to _ h1
  ·split at h1
   ·rw [ht] at h1;exact QX ht hw h1
   ·exact im ht h1 (.inl ⟨rfl,hw⟩)
end
theorem w7 (bG:∀ n∈ND,dI L ND.length n) {rt:Nat} {o:Int} {v:Val} (h:wY ND f L rt o v=true):jL ND v (rt:Nat)=true:=by
 unfold wY at h;rw [Bool.and_eq_true] at h;exact IK bG v _ _ h.2
end
theorem Bl {S:Sch} {ND:List Nd} {PC LC:List DV} (hP:ke S ND PC) (rP:EvP Tryz.prog 38 [.pt PC 0] (.pt LC 0)) (hR:Kl S.ae.length (cA S) (av S.ae) LC) (Vd:∀ n∈ND,Ba n) (bE:∀ n∈ND,n.au.length<=1099511627776) (rt:Nat) (GP:bN S=rt) (gl:rt < ND.length) (o:Int) (x:Val) (hx:x.wt<=1099511627776) (tP:rngW x) :
  EvP Tryz.prog 31 [.pt PC 0,.v (.int .i64 o),.agg (aU x)] (.tup [.v (.string (ba (QT ND x (rt:Nat) (wY ND (cA S) S.ae.length rt o x)))),.v (.bool (wY ND (cA S) S.ae.length rt o x))]):=by
 rw [<- GP];exact Bf hP x hx tP o _ (s6 hP rP hR Vd bE rt GP gl o x hx tP) (fun h=>by rw [GP];exact w7 hP.ok h)
def gD:Sch:=⟨[⟨⟨#[108,111,119]⟩,0⟩,⟨⟨#[104,105,103,104]⟩,0⟩],[(⟨⟨#[108,111,119]⟩,0⟩,⟨⟨#[104,105,103,104]⟩,0⟩)],[],.mk (exH 7) (.cons ⟨⟨⟨#[120]⟩,0⟩,false,[⟨⟨#[104,105,103,104]⟩,0⟩],2,0,0,0,[]⟩ (.mk (exH 1) .nil) .nil)⟩
def IL:Val:=.mk 7 0 al [.mk 9 2 al []]
theorem Kw:(ky gD).1=0:=by decide +kernel
theorem zx:bN gD=((bN gD).toNat:Nat)/\(bN gD).toNat < (aR gD).length:=by decide +kernel
theorem OV:wY (aR gD) (cA gD) gD.ae.length (bN gD).toNat 0 IL=true:=by decide +kernel
theorem Kx:textV (aR gD) IL ((bN gD).toNat:Nat)=[123,120,58,32,60,42,42,62,125]:=by decide +kernel
theorem l7:EvP Tryz.prog 26 [] (.v (.bool true)):=by
 have Cm:gD.wt<=1099511627776:=by decide +kernel
 have hb:=(vE gD Cm).mono (Ψ:=fun r _ _=>F9 gD r) fun _ _ _ h=>za Cm h;refine ev_go (P:=Tryz.prog) tt tt_ok 5000 43 [.tmp 0] Tryz.func26 rfl Tryz.ntmps26 rfl (nL rfl) (fun E9 w9 hn9 hm9=>?_);refine bq WK rfl hb ax (fun r hr=>?_);rcases hr with ⟨hr,_⟩ | ⟨_,PC,hP,rfl⟩
 ·exact (hr Kw).elim
 obtain ⟨LC,rP,hR⟩:=hP.ZC;have hrng:∀ n∈aR gD,Ba n:=fun n hn=>wM (S:=gD) (by simp [gD,PT,rngT,rngP,exH,uX]) hn;have bE:∀ n∈aR gD,n.au.length<=1099511627776:=fun n hn=>(nO hn Cm).2;have hl:=Bl hP rP hR hrng bE (bN gD).toNat zx.1 zx.2 0 IL (by decide +kernel) (by simp [IL,rngW,rngWs,uX]);rw [OV,QT,if_pos rfl,Kx] at hl;refine call_p en31 (hl) ax rfl ?_;exact (rfl:_=_)
theorem Ef (S:Sch) (hS:S.wt<=1099511627776) (x:Val) (hx:x.wt<=1099511627776) :
  Ev Tryz.prog 29 [.agg (eK S),.agg (aU x)] [] [] (fun r _ _=>∃ b:Bool,r = .v (.bool b)/\(b=true->wQ S)):=by
 have ga:=Av S hS;have hf:=Ea S hS;have h1:=sL x.wt x (Nat.le_refl _) hx;generalize Dm x=c1 at h1;generalize xL x=d1 at h1;obtain ⟨ae,order,types,⟨rh,rp⟩⟩:=S;obtain ⟨xk,xn,xs,xks⟩:=x;refine ev_go (P:=Tryz.prog) tt tt_ok 5000 23 [.tmp 4] Tryz.func29 rfl Tryz.ntmps29 rfl (nL rfl) (fun E9 w9 hn9 hm9=>?_);refine call_p WJ (h1) ax rfl ?_;refine br (fun c=>?_) (fun c=>?_)
 ·refine bq en14 rfl ga ax (fun r hr=>?_);obtain ⟨g,rfl⟩:=hr
  cases g with
  | true=>
   refine ⟨false,?_,fun h=>by cases h⟩;refine (congrArg (fun b=>DV.v (.bool b)) ?_:_=_);simp only [pickB_and,Bool.not_true,Bool.and_false,Bool.false_and]
  | false=>
   refine bq en72 rfl hf ax (fun r hr=>?_);obtain ⟨b,rfl,hb⟩:=hr;exact ⟨b,rfl,hb⟩
 ·exact ⟨false,rfl,fun h=>by cases h⟩
end Go.Proofs.YtfifjddnnmfeoaaGreat
