/- Part 6 of the proof: How what is seen of values is written: the program's plain, word, of; Reading of values whose numbers are ints, and of arrays of two; What is known of values that are written; how long their texts are: plain; How what is seen of values is written: the program's write; A text's first units: the document's Head, the program's heads, floors; The numbers of a plan's nodes are ints; The least depths of the values of a plan's nodes: plain; The program's nodes, least depths; A region that draws its order, in which a new object may come at any time among calls: its run with the object made at each of these times serves every order; Where steps lead: the document's Edge, Walk; the program's; The program's way along steps: fits, step, Walk; The document's least depths; fine; the chapter's example; The program's Depths; The law of least depths: fine, the example, the call returns true; With which schemas nothing is wrong: the document's Wrong of chapters 20, 21; the law's fine; Which levels see a place: the program's Who; A region that draws its order, run by a schedule: at each point all that may come and has an effect is tried; The document's rows of an audit: With, Under, How, Rows; The document's Fits; What is seen of a value: the document's Edge, Coarse, Erase, Seen; How what is seen of values is written: Compact; the document's open, end, Text; How what is seen of values is written: the document's Text; what is seen may be written; What is seen of a value: the program's look, sees, coarsely, edge, coarse; Paths of a value: plain; tree.steps; Where steps lead in a value, and that value with another one there: plain; Rules for the evaluator: calls that hand back fresh rows; Rules for the evaluator: elements of rows whose cells nobody else knows, read and written whole; tree: slices.Index of steps, kid, clone, Get; tree.write, Raw; Written values: well formed; the document's Same on the same value; its Raw; The document's Kid, Get, Set of a value that fits; The document's Same of values, Set; ref25.Paths; The document's rows of an audit; All rows of an audit, by the document; the law's bounds; Alike, differ: the document's; What is seen of a value: the program's erase, Erase, Hidden; Which values may be what is seen of one: shell, May, outer, plain, the document's May; Which values may be what is seen of one: the program's fits, Fits, the document's Fits, Seeable; The law of what may be seen; What is seen may be written; the example of chapter 33; the laws of Leaf and Compact; The example of chapter 33; the laws of Leaf and Compact: the calls return true. No condition. -/
import Derived.OpenShut
import Derived.Test.YtfifjddnnmfeoaaGreatMl2
import Derived.Test.YtfifjddnnmfeoaaGreatMl3
import Derived.Test.YtfifjddnnmfeoaaGreatMl4
import Derived.Test.YtfifjddnnmfeoaaGreatMl5
set_option linter.all false
set_option maxRecDepth 100000
namespace Go.Proofs.YtfifjddnnmfeoaaGreat
open Go Go.RowKit Dv Tryz
namespace Dv
section
variable {X:Ctx} {st:St} {k:List It}
theorem JU {o:Oper} {t d e:Nat} {x:Operand} {es:List (List DV)} {tk:Option Nat} {n et e' gj:Nat} {bb:Bool} {z:List Value} (kk:∃ t',o.op = .binOp .neq t x (.const (.slice none 0 0)) t') (eW:o.dst=some d) (hx:rv st [] x=some (.sl e es tk)) (aM:es ≠ []) (hT:X.T.find t=some ⟨n,bb,.sl et e' gj,z⟩) (hd:dq X.nt st.sl (some d)=true)
  (hk:go X 4000 k ⟨(d,⟨[],.v (.bool true)⟩) :: st.sl,st.bx,st.tk⟩):IC X o k st:=by
 intro E a w h;obtain ⟨t',kk⟩:=kk;have e1:=aE h.rl hx;unfold Rv at e1;obtain ⟨b,m,cap,e1,⟨rfl,_⟩,hr,_⟩:=e1;obtain ⟨hu,_⟩:=cT X.hT hT;have bd:=qj hu b es.length cap w;have hb:b.isNone=false:=by rw [jh (hr aM).1];all_goals rfl
 have bz:(execOp a.eval o).run X.P w = .ok (.value (.bool true)) w:=by
  have hc:a.eval (.const (.slice none 0 0)) = .slice none 0 0:=rfl;rw [hb] at bd;simp [execOp,kk,e1,hc,eqGuard,binOp,bd]
 refine fB bz ?_;rw [eW];exact go_sound 4000 _ _ hk E _ w (aG h hd (.v (.bool true)) _ (by unfold Rv;exact ⟨rfl,rfl⟩))
theorem F0 {o:Oper} {t d et e' gj n:Nat} {x:Operand} {bb:Bool} {z:List Value} (kk:∃ t',o.op = .binOp .neq t x (.const (.slice none 0 0)) t') (eW:o.dst=some d) (hx:rv st [] x=some (.v (.slice none 0 0))) (hT:X.T.find t=some ⟨n,bb,.sl et e' gj,z⟩) (hd:dq X.nt st.sl (some d)=true)
  (hk:go X 4000 k ⟨(d,⟨[],.v (.bool false)⟩) :: st.sl,st.bx,st.tk⟩):IC X o k st:=by
 intro E a w h;obtain ⟨t',kk⟩:=kk;have e1:=aE h.rl hx;unfold Rv at e1;obtain ⟨hu,_⟩:=cT X.hT hT;have bd:=qj hu none 0 0 w
 have bz:(execOp a.eval o).run X.P w = .ok (.value (.bool false)) w:=by
  have hc:a.eval (.const (.slice none 0 0)) = .slice none 0 0:=rfl;simp [execOp,kk,e1.1,hc,eqGuard,binOp,bd]
 refine fB bz ?_;rw [eW];exact go_sound 4000 _ _ hk E _ w (aG h hd (.v (.bool false)) _ (by unfold Rv;exact ⟨rfl,rfl⟩))
end
end Dv
theorem uk (v:Val):EvP Tryz.prog 139 [.agg (cH v)] (.v (.bool (decide (v.k < 5) || decide (8 < v.k)))):=by
 obtain ⟨k,n,s,ks⟩:=v;refine ev_go (P:=Tryz.prog) tt tt_ok 5000 11 [.tmp 2] Tryz.func139 rfl Tryz.ntmps139 rfl (nL rfl) (fun E9 w9 hn9 hm9=>?_);refine (congrArg (fun b=>DV.v (.bool b)) ?_:_=_);simp only [ak,Val.k];rfl
section
variable {d:Nd} {v:Val}
theorem opn_1 (h:v.k=1) (g:v.n=1):dy d v=[116,114,117,101]:=by rw [dy,if_pos h,if_pos g]
theorem F1 (h:v.k=1) (g:¬ v.n=1):dy d v=[102,97,108,115,101]:=by rw [dy,if_pos h,if_neg g]
theorem opn_4 {x:ByteArray} (h:v.k=4) (g:d.ae[v.n.toNat]? = some x):dy d v=tx x:=by rw [dy,if_neg (by omega),if_pos h,g]
theorem opn_5 (h:v.k=5):dy d v=[91]:=by rw [dy,if_neg (by omega),if_neg (by omega),if_pos h]
theorem opn_6 (h:v.k=6):dy d v=if v.ks=[] then [110,111,110,101] else [115,111,109,101,40]:=by rw [dy,if_neg (by omega),if_neg (by omega),if_neg (by omega),if_pos h]
theorem F2 (h:v.k=6) (g:v.ks=[]):dy d v=[110,111,110,101]:=by rw [opn_6 h,if_pos g]
theorem F3 (h:v.k=6) (g:v.ks ≠ []):dy d v=[115,111,109,101,40]:=by rw [opn_6 h,if_neg g]
theorem opn_7 (h:v.k=7):dy d v=[123]:=by rw [dy,if_neg (by omega),if_neg (by omega),if_neg (by omega),if_neg (by omega),if_pos h]
theorem opn_8 {e:Ed} (h:v.k=8) (g:d.ay[v.n.toNat]? = some e):dy d v=if v.ks=[] then tx e.name else tx e.name ++ [40]:=by
 rw [dy,if_neg (by omega),if_neg (by omega),if_neg (by omega),if_neg (by omega),if_neg (by omega),if_pos h,S3,g]
theorem F4 {e:Ed} (h:v.k=8) (g:d.ay[v.n.toNat]? = some e) (c:v.ks=[]):dy d v=tx e.name:=by rw [opn_8 h g,if_pos c]
theorem F5 {e:Ed} (h:v.k=8) (g:d.ay[v.n.toNat]? = some e) (c:v.ks ≠ []):dy d v=tx e.name ++ [40]:=by rw [opn_8 h g,if_neg c]
theorem F6 (h:v.k≠1/\v.k≠4/\v.k≠5/\v.k≠6/\v.k≠7/\v.k≠8):dy d v=cq v:=by
 rw [dy,if_neg h.1,if_neg h.2.1,if_neg h.2.2.1,if_neg h.2.2.2.1,if_neg h.2.2.2.2.1,if_neg h.2.2.2.2.2]
theorem end_5 (h:v.k=5):kh v=[93]:=by rw [kh,if_pos h]
theorem end_7 (h:v.k=7):kh v=[125]:=by rw [kh,if_neg (by omega),if_pos h]
theorem JV (h:v.k≠5/\v.k≠7):kh v=if v.ks=[] then [] else [41]:=by rw [kh,if_neg h.1,if_neg h.2]
theorem JW (h:v.k≠5/\v.k≠7) (g:v.ks=[]):kh v=[]:=by rw [JV h,if_pos g]
theorem PU (h:v.k≠5/\v.k≠7) (g:v.ks ≠ []):kh v=[41]:=by rw [JV h,if_neg g]
end
theorem xc (d:Nd) (v:Val) (hs:v.s.size<=1099511627776) (hn:qS v.n) (hk:v.k<=4∨9<=v.k) (h4:v.k=4->0<=v.n/\v.n < d.ae.length) :
  EvP Tryz.prog 140 [.agg (n7 d),.agg (cH v)] (.v (.string (ba (dy d v)))):=by
 have hl:=nR v hs hn;have o1:=@opn_1 d v;have o2:=@F1 d v;have o3:=fun x=>@opn_4 d v x;have o4:=@F6 d v;generalize dy d v=O at *;generalize cq v=S at *;generalize bf v=B at *;obtain ⟨ag,aC,lo,hi,most,ae,es⟩:=d;obtain ⟨k,n,s,ks⟩:=v;simp only [Val.k,Val.n] at *;refine ev_go (P:=Tryz.prog) tt tt_ok 5000 28 [.tmp 4] Tryz.func140 rfl Tryz.ntmps140 rfl (nL rfl) (fun E9 w9 hn9 hm9=>?_);refine br (fun c=>?_) (fun c=>?_)
 ·have c:k=1:=by simpa using c
  refine br (fun g=>?_) (fun g=>?_)
  ·rw [o1 c (by simpa using g)];exact (rfl:_=_)
  ·rw [o2 c (by simpa using g)];exact (rfl:_=_)
 have c1:¬ k=1:=by simpa using c
 refine br (fun c=>?_) (fun c=>?_)
 ·have c4:k=4:=by simpa using c
  obtain ⟨h0,h1⟩:=h4 c4;obtain ⟨x,hx⟩:∃ x,ae[n.toNat]? = some x:=⟨_,gE (by omega)⟩;rw [o3 x c4 hx];refine ⟨_,⟨by omega,dr hx⟩,?_⟩;exact congrArg (fun q=>DV.v (.string q)) (Ab x).symm
 have c4:¬ k=4:=by simpa using c
 rw [o4 (by omega)];refine call_p Nk (hl) ax rfl ?_;exact (rfl:_=_)
def tosL (d:Nd) (v:Val) (m:Nat):List Int:=(List.range m).map fun j=>match cp d v.n j with | some e=>e.to | none=>0
theorem F7 (d:Nd) (v:Val) (m:Nat):(tosL d v m).length=m:=by simp [tosL]
theorem F8 {d:Nd} {v:Val} {m j:Nat} {e:Ed} (h:cp d v.n j=some e) (hj:j < m):(tosL d v m)[j]? = some e.to:=by
 simp [tosL,hj,h]
theorem Cs {d:Nd} {v:Val} {m:Nat} {e:Ed} (h:cp d v.n m=some e):tosL d v (m + 1)=tosL d v m ++ [e.to]:=by
 simp [tosL,List.range_succ,h]
def xe (d:Nd) (m:Nat):List (List UInt8):=(d.ay.take m).map fun e=>tx e.name ++ [58,32]
theorem F9 {d:Nd} {m:Nat} {e:Ed} (h:d.ay[m]? = some e):xe d (m + 1)=xe d m ++ [tx e.name ++ [58,32]]:=by
 simp [xe,List.take_add_one,h]
def Ct (d:Nd):DV:=if d.ag=7 then .sl 1 (iT (xe d d.ay.length)) none else .v (.slice none 0 0)
abbrev zF:List DV:=[.v (.string al),.v (.string al),.v (.slice none 0 0)]
abbrev zi (d:Nd) (v:Val) (l:List Int) (q e:Nat):St:=
 ⟨[(2,⟨[],.loc 0 0⟩),(3,⟨[],.loc 1 0⟩),(4,⟨[],.loc 2 0⟩),(6,⟨[],.loc 3 0⟩),(7,⟨[],.sl 1 (kg l) (some 0)⟩),(14,⟨[],.v (.int .i64 (dVals v.ks).length)⟩),(15,⟨[],.v (.int .i64 e)⟩)],[n7 d,cH v,zF,zF],[⟨q,3,1,none⟩]⟩
abbrev Ga (d:Nd) (v:Val) (l:List Int) (q u:Nat):St:=
 ⟨[(2,⟨[],.loc 0 0⟩),(3,⟨[],.loc 1 0⟩),(4,⟨[],.loc 2 0⟩),(6,⟨[],.loc 3 0⟩),(7,⟨[],.sl 1 (kg l) (some 0)⟩),(54,⟨[],.sl 10 (gD d.ay) none⟩),(55,⟨[],.v (.int .i64 (gD d.ay).length)⟩),(56,⟨[],.v (.int .i64 u)⟩)],
  [n7 d,cH v,zF,[.v (.string (ba [123])),.v (.string (ba [125])),.sl 1 (iT (xe d u)) (some 1)]],[⟨q,3,1,none⟩,⟨u,9,1,none⟩]⟩
theorem AO (d:Nd) (m:Nat) (h:m<=d.ay.length):(xe d m).length=m:=by simp [xe];omega
theorem Gb (x:ByteArray) (l:List UInt8):x ++ ba l=ba (tx x ++ l):=(congrArg (·++ ba l) (Ab x)).symm.trans (cN (tx x) l)
theorem Cu {L N:Nat} {d:Nd} (hN:dX L N d) (h5:5<=d.ag) (v:Val) (hv:v.wt<=1099511627776) (hk:v.k=d.ag) (QN:∀ m,m < v.ks.length->∃ e,cp d v.n m=some e) (h8:d.ag=8->0<=v.n/\v.n < d.ay.length) :
  EvP Tryz.prog 141 [.agg (n7 d),.agg (cH v)] (.tup [.agg [.v (.string (ba (dy d v))),.v (.string (ba (kh v))),Ct d],.sl 1 (kg (tosL d v v.ks.length)) none]):=by
 have Mu:=hN.k8;have wZ:=hN.many;have o5:=@opn_5 d v;have o6n:=@F2 d v;have o6s:=@F3 d v;have o7:=@opn_7 d v;have o8n:=fun e=>@F4 d v e;have o8s:=fun e=>@F5 d v e;have e5:=@end_5 v;have e7:=@end_7 v;have en:=@JW v;have UR:=@PU v;have hn7:d.ag=7->Ct d = .sl 1 (iT (xe d d.ay.length)) none:=fun h=>by rw [Ct,if_pos h]
 have hnn:d.ag≠7->Ct d = .v (.slice none 0 0):=fun h=>by rw [Ct,if_neg h]
 have hts:=fun m e=>@Cs d v m e;have ic:=F7 d v;have qR:=fun m e=>@F9 d m e;have iX:=AO d
 have Ti:∀ m e,cp d v.n m=some e->d.ay[(if d.ag=7 then (m:Int) else if d.ag=8 then v.n else 0).toNat]? = some e:=fun m e h=>by
  unfold cp at h;split at h
  ·rename_i c;rw [if_pos c];exact h
  ·rename_i c;rw [if_neg c];split at h
   ·rename_i c8;rw [if_pos c8];exact h
   ·rename_i c8;rw [if_neg c8];exact h
 have rr:=dR d.ay;generalize dy d v=O at *;generalize kh v=Z at *;generalize Ct d=ND at *;have ht0:tosL d v 0=[]:=rfl;have gI:xe d 0=[]:=rfl;generalize tosL d v=T at *;generalize Io:xe d=NM at *;have PV:d.ag=7∨d.ag=8->∀ e∈d.ay,e.name.size<=32:=fun h e he=>hY ((wZ h).2.2.2 e he);obtain ⟨ag,aC,lo,hi,most,ae,es⟩:=d;obtain ⟨k,n,s,ks⟩:=v;have iS:=dB ks;have mn:=fV ks;rw [Val.wt] at hv;simp only [Val.k,Val.n,Val.ks] at *;subst hk;refine ev_go (P:=Tryz.prog) tt tt_ok 5000 90 [.cell 4 238,.tmp 5] Tryz.func141 rfl Tryz.ntmps141 rfl (nL rfl) (fun E9 w9 hn9 hm9=>?_);refine aw (fun j st=>∃ e:Nat,st=zi ⟨k,aC,lo,hi,most,ae,es⟩ (.mk k n s ks) (T e) e e/\e<=ks.length/\j=ks.length - e) ks.length (zi ⟨k,aC,lo,hi,most,ae,es⟩ (.mk k n s ks) [] 0 0) (dI 4 ⟨0,3,1,none⟩ rfl rfl rfl (by repeat' (first | exact rfl | exact ai rfl | exact bp (Nat.le_refl _) rfl | exact bp (Nat.le_refl _) rfl | refine ⟨_,_,rfl,?_,?_⟩)) rfl rfl Gv) ⟨0,by rw [ht0],by omega,by omega⟩ ?_;rintro _ st ⟨e,rfl,he,rfl⟩;refine br (fun hL=>?_) (fun hL=>?_)
 ·have aq:e < ks.length:=by simpa [iS,Val.ks] using hL
  obtain ⟨ed,zj⟩:=QN e aq;have oM:=Ti e ed zj;have iY:kg (T e) ++ [[DV.v (.int .i64 ed.to)]]=kg (T (e + 1)):=by rw [hts e ed zj,mh]
  have um:(kg (T e)).length=e:=by rw [gv,ic]
  have gV:∃ j',j' < ks.length - e/\∃ e':Nat,zi ⟨k,aC,lo,hi,most,ae,es⟩ (.mk k n s ks) (T (e + 1)) (e + 1) (e + 1)=zi ⟨k,aC,lo,hi,most,ae,es⟩ (.mk k n s ks) (T e') e' e' /\ e' <= ks.length/\j'=ks.length - e':=⟨ks.length - (e + 1),by omega,e + 1,rfl,by omega,rfl⟩;have xT:=(gS oM).1;refine br (fun c=>?_) (fun c=>?_)
  ·have c:k=7:=by simpa using c
   rw [if_pos c] at oM xT;refine ⟨_,⟨by omega,cY oM⟩,?_⟩;refine ⟨um,⟨by rw [um];simp [maxLen];omega,by rw [um];simp;omega⟩,?_⟩;obtain ⟨j',h1,h2⟩:=gV;exact ⟨zi ⟨k,aC,lo,hi,most,ae,es⟩ (.mk k n s ks) (T (e + 1)) (e + 1) (e + 1),(aH 4 rfl (Gu aq iY) rfl rfl rfl (A8 aq iY)),j',h1,h2⟩
  ·have c7:¬ k=7:=by simpa using c
   rw [if_neg c7] at oM xT;refine br (fun c=>?_) (fun c=>?_)
   ·have c:k=8:=by simpa using c
    have h8:=h8 c;rw [if_pos c] at oM xT;refine ⟨_,⟨by omega,cY oM⟩,?_⟩;refine ⟨um,⟨by rw [um];simp [maxLen];omega,by rw [um];simp;omega⟩,?_⟩;obtain ⟨j',h1,h2⟩:=gV;exact ⟨zi ⟨k,aC,lo,hi,most,ae,es⟩ (.mk k n s ks) (T (e + 1)) (e + 1) (e + 1),(aH 4 rfl (Gu aq iY) rfl rfl rfl (A8 aq iY)),j',h1,h2⟩
   ·have c8:¬ k=8:=by simpa using c
    rw [if_neg c8] at oM xT;refine ⟨_,⟨by simp at xT;omega,cY oM⟩,?_⟩;refine ⟨um,⟨by rw [um];simp [maxLen];omega,by rw [um];simp;omega⟩,?_⟩;obtain ⟨j',h1,h2⟩:=gV;exact ⟨zi ⟨k,aC,lo,hi,most,ae,es⟩ (.mk k n s ks) (T (e + 1)) (e + 1) (e + 1),(aH 4 rfl (Gu aq iY) rfl rfl rfl (A8 aq iY)),j',h1,h2⟩
 have bJ:e=ks.length:=by
  have:=hL;simp [iS,Val.ks] at this;omega
 subst bJ;refine br (fun c=>?_) (fun c=>?_)
 ·have c:k=5:=by simpa using c
  rw [hnn (by omega),o5 c,e5 c];exact ⟨_,ax,rfl⟩
 have c5:¬ k=5:=by simpa using c
 refine br (fun c=>?_) (fun c=>?_)
 ·have c:k=6:=by simpa using c
  rw [hnn (by omega)];refine br (fun g=>?_) (fun g=>?_)
  ·have g:ks ≠ []:=by rintro rfl;simp [iS] at g
   rw [o6s c g,UR (by omega) g];exact ⟨_,ax,rfl⟩
  ·have g:ks=[]:=by simpa [iS] using g
   rw [o6n c g,en (by omega) g];exact ⟨_,ax,rfl⟩
 have c6:¬ k=6:=by simpa using c
 refine br (fun c=>?_) (fun c=>?_)
 ·have c:k=7:=by simpa using c
  rw [hn7 c,o7 c,e7 c];have kj:=(wZ (.inl c)).1;subst Io;refine aw (fun j st=>∃ u:Nat,st=Ga ⟨k,aC,lo,hi,most,ae,es⟩ (.mk k n s ks) (T ks.length) ks.length u/\u<=es.length/\j=es.length - u) es.length (Ga ⟨k,aC,lo,hi,most,ae,es⟩ (.mk k n s ks) (T ks.length) ks.length 0) (dI 4 ⟨0,9,1,none⟩ rfl rfl rfl (by repeat' (first | exact rfl | exact ai rfl | exact bp (Nat.le_refl _) rfl | exact bp (Nat.le_refl _) rfl | refine ⟨_,_,rfl,?_,?_⟩)) rfl rfl Gv) ⟨0,rfl,by omega,by omega⟩ ?_;rintro _ st ⟨u,rfl,hu,rfl⟩;refine br (fun hL=>?_) (fun hL=>?_)
  ·have aq:u < es.length:=by simpa [rr] using hL
   obtain ⟨x,hx⟩:∃ x,es[u]? = some x:=⟨_,gE aq⟩;have A2:=PV (.inl c) x (mG hx);have rc:(iT (xe ⟨k,aC,lo,hi,most,ae,es⟩ u)).length=u:=by rw [Bw,iX u (by omega)]
   have iY:iT (xe ⟨k,aC,lo,hi,most,ae,es⟩ u) ++ [[DV.v (.string (x.name ++ ba [58,32]))]]=iT (xe ⟨k,aC,lo,hi,most,ae,es⟩ (u + 1)):=by
    rw [qR u x hx];simp only [iT,List.map_append,List.map_cons,List.map_nil];exact congrArg (fun q=>_ ++ [[DV.v (.string q)]]) (Gb _ _)
   refine ⟨_,⟨by omega,cY hx⟩,?_⟩;refine ⟨by show x.name.size + 2<=_;omega,?_⟩;refine ⟨rc,⟨by rw [rc];simp [maxLen];omega,by rw [rc];simp;omega⟩,?_⟩;exact ⟨Ga ⟨k,aC,lo,hi,most,ae,es⟩ (.mk k n s ks) (T ks.length) ks.length (u + 1),(aH 4 rfl (Gu aq iY) rfl rfl rfl (A8 aq iY)),es.length - (u + 1),by omega,u + 1,rfl,by omega,rfl⟩
  ·have bJ:u=es.length:=by
    have:=hL;simp [rr] at this;omega
   subst bJ;exact ⟨_,ax,rfl⟩
 have c7:¬ k=7:=by simpa using c
 have c8:k=8:=by omega
 refine br (fun _=>?_) (fun g=>absurd c8 (by simpa using g));have h8:=h8 c8;obtain ⟨x,hx⟩:∃ x,es[n.toNat]? = some x:=⟨_,gE (by omega)⟩;have A2:=PV (.inr c8) x (mG hx);rw [hnn (by omega)];refine ⟨_,⟨by omega,cY hx⟩,?_⟩;refine br (fun g=>?_) (fun g=>?_)
 ·have g:ks ≠ []:=by rintro rfl;simp [iS] at g
  rw [o8s x c8 hx g,UR (by omega) g,<- Gb];refine ⟨by show x.name.size + 1<=_;omega,?_⟩;exact ⟨_,ax,rfl⟩
 ·have g:ks=[]:=by simpa [iS] using g
  rw [o8n x c8 hx g,en (by omega) g,Ab];exact ⟨_,ax,rfl⟩
mutual
def rngW:Val->Prop
 | .mk k n _ ks=>qS k/\qS n/\rngWs ks
def rngWs:List Val->Prop
 | []=>True
 | v :: r=>rngW v/\rngWs r
end
theorem np:∀ {l:List Val} {x:Val},rngWs l->x∈l->rngW x
 | v :: r,x,h,hm=>by
  rw [rngWs] at h;rcases List.mem_cons.1 hm with rfl | hm
  ·exact h.1
  ·exact np h.2 hm
theorem Gc {v:Val} (h:rngW v) : -9223372036854775808<=v.n/\v.n<=9223372036854775807:=by
 obtain ⟨k,n,s,ks⟩:=v;rw [rngW] at h;exact h.2.1
theorem Ip {v:Val} (h:rngW v):rngWs v.ks:=by
 obtain ⟨k,n,s,ks⟩:=v;rw [rngW] at h;exact h.2.2
theorem AP {m:Nat} (ih:∀ k,k<=m->∀ ds,Typ Tryz.prog k 45 ds->∃ v:Val,ds=cH v/\rngW v/\v.wt<=wgL ds) :
  ∀ {es:List (List DV)},(∀ cs∈es,Typ Tryz.prog m 45 cs)->∃ l:List Val,es=dVals l/\rngWs l/\eN l<=wgEs es
 | [],h=>⟨[],rfl,by simp [rngWs],by simp [eN]⟩
 | cs :: r,h=>by
  obtain ⟨l,rfl,hr,hl⟩:=AP ih (es:=r) (fun c hc=>h c (List.mem_cons_of_mem _ hc));obtain ⟨v,rfl,jb,hv⟩:=ih m (Nat.le_refl _) cs (h cs (by simp));exact ⟨v :: l,rfl,by rw [rngWs];exact ⟨jb,hr⟩,by simp only [eN,wgEs];omega⟩
theorem typ_valr:∀ (n:Nat) (ds:List DV),Typ Tryz.prog n 45 ds->∃ v:Val,ds=cH v/\rngW v/\v.wt<=wgL ds:=by
 intro n
 induction n using Nat.strongRecOn with
 | _ n ih=>
  intro ds h;obtain ⟨m,rfl,hf⟩:=KY Tryz.underlying45 h;obtain ⟨a1,b1,rfl,h1,a2,b2,rfl,h2,a3,b3,rfl,h3,a4,b4,rfl,h4,rfl⟩:=hf;obtain ⟨k,rfl,r1⟩:=Jq h1;obtain ⟨z,rfl,r2⟩:=Jq h2;obtain ⟨s,rfl⟩:=Hv Tryz.underlying9 h3;obtain ⟨j,es,rfl,rfl,kj⟩:=KX Tryz.underlying43 h4;obtain ⟨l,rfl,r3,wl⟩:=AP (fun i hi=>ih i (by omega)) kj;rw [wF];refine ⟨.mk k z s l,rfl,by rw [rngW];exact ⟨r1,r2,r3⟩,?_⟩;simp only [Val.wt,kM,wgL,wgD] at *;omega
namespace Dv
end Dv
section
variable {ND:List Nd}
theorem qI {v:Val} {i:Int} (h:ki ND v i=true):∃ d,cQ ND i=some d/\((9<=v.k/\bf v=true/\v.ks=[])∨(v.k=d.ag/\d.ag < 5/\v.ks=[]/\(v.k=4->0<=v.n/\v.n < d.ae.length))∨(v.k=d.ag/\5<=d.ag/\shellF d v=true/\eP ND v.ks d v.n 0=true)):=by
 obtain ⟨k,n,s,ks⟩:=v;unfold ki at h
 cases hd:cQ ND i with
 | none=>rw [hd] at h;cases h
 | some d=>
  rw [hd] at h;refine ⟨d,rfl,?_⟩;simp only at h;split at h
  ·rename_i c;rw [Bool.and_eq_true,decide_eq_true_iff] at h;exact .inl ⟨c,h.1,h.2⟩
  ·split at h
   ·cases h
   ·rename_i c;have c:k=d.ag:=Decidable.not_not.1 c;split at h
    ·rename_i c5;rw [Bool.and_eq_true,Bool.or_eq_true,decide_eq_true_iff,decide_eq_true_iff,decide_eq_true_iff] at h;exact .inr (.inl ⟨c,c5,h.1,fun c4=>h.2.resolve_left (fun g=>g c4)⟩)
    ·rename_i c5;rw [Bool.and_eq_true] at h;exact .inr (.inr ⟨c,by omega,h.1,h.2⟩)
theorem shell_8 {d:Nd} {v:Val} (h:shellF d v=true) (h8:d.ag=8):0<=v.n/\v.n < d.ay.length:=by
 unfold shellF at h;split at h
 ·cases h
 rw [if_neg (by omega),if_neg (by omega),if_neg (by omega)] at h;split at h
 ·cases h
 ·omega
theorem xf {d:Nd} {z:Int} {j:Nat} {e:Ed} (h:cp d z j=some e):e∈d.ay:=by
 unfold cp at h;split at h
 ·exact mG h
 ·split at h<;>exact mG h
theorem Iq (n:Nat):gA n ≠ []:=by
 by_cases h:n < 10
 ·rw [iC h];simp
 ·rw [lK h];simp
theorem Ir (z:Int):fi z ≠ []:=by
 unfold fi;split
 ·simp
 ·exact Iq _
theorem xg {v:Val} (h:bf v=true):cq v ≠ []:=by
 rw [cq,if_pos h];unfold kx
 repeat' split
 all_goals (first | exact Ir _ | simp [kX])
theorem sK {v:Val} (hn:qS v.n) (h:bf v=true):(cq v).length<=88 + 12 * v.s.size:=by
 rw [cq,if_pos h];exact Cr hn h
theorem uo {L N:Nat} {d:Nd} {v:Val} (hN:dX L N d) (hn:qS v.n) (h:(9<=v.k/\bf v=true/\v.ks=[])∨(v.k=d.ag/\d.ag < 5/\v.ks=[]/\(v.k=4->0<=v.n/\v.n < d.ae.length))∨(v.k=d.ag/\5<=d.ag/\shellF d v=true/\eP ND v.ks d v.n 0=true)) :
  dy d v ≠ []/\(dy d v).length<=88 + 12 * v.s.size:=by
 have mr:=hN.k1;have Mu:=hN.k8;rcases h with ⟨h9,hb,_⟩ | ⟨hk,h5,_,h4⟩ | ⟨hk,h5,hs,_⟩
 ·rw [F6 (by omega)];exact ⟨xg hb,sK hn hb⟩
 ·by_cases c1:v.k=1
  ·by_cases c:v.n=1
   ·rw [opn_1 c1 c];simp;omega
   ·rw [F1 c1 c];simp;omega
  by_cases c4:v.k=4
  ·obtain ⟨g0,g1⟩:=h4 c4;obtain ⟨x,hx⟩:∃ x,d.ae[v.n.toNat]? = some x:=⟨_,gE (by omega)⟩;have cj:=(hN.ae (by omega)).2.2.2 x (mG hx);have Pg:=hY cj;have ke:0 < x.size:=by simp [a7] at cj;exact cj.1
   rw [opn_4 c4 hx];refine ⟨fun e=>?_,by rw [bc];omega⟩;have:=congrArg List.length e;rw [bc,List.length_nil] at this;omega
  ·rw [F6 (by omega)]
   have hb:bf v=true:=by
    have:v.k=2∨v.k=3:=by omega
    rcases this with c | c<;>simp [bf,c]
   exact ⟨xg hb,sK hn hb⟩
 ·have:v.k=5∨v.k=6∨v.k=7∨v.k=8:=by omega
  rcases this with c | c | c | c
  ·rw [opn_5 c];simp;omega
  ·by_cases g:v.ks=[]
   ·rw [F2 c g];simp;omega
   ·rw [F3 c g];simp;omega
  ·rw [opn_7 c];simp;omega
  ·obtain ⟨g0,g1⟩:=shell_8 hs (by omega);obtain ⟨x,hx⟩:∃ x,d.ay[v.n.toNat]? = some x:=⟨_,gE (by omega)⟩;have cj:=(hN.many (.inr (by omega))).2.2.2 x (mG hx);have Pg:=hY cj;have ke:0 < x.name.size:=by simp [a7] at cj;exact cj.1
   have hl:=bc x.name;by_cases g:v.ks=[]
   ·rw [F4 c hx g];refine ⟨fun e=>?_,by omega⟩;rw [e,List.length_nil] at hl;omega
   ·rw [F5 c hx g];exact ⟨by simp,by rw [List.length_append,hl];simp;omega⟩
theorem AQ (v:Val):(kh v).length<=1:=by
 unfold kh
 repeat' split
 all_goals simp
end
section
variable {ND:List Nd} {L:Nat}
mutual
theorem sL (cj:∀ d∈ND,dX L ND.length d):∀ (v:Val) (i:Int),rngW v->ki ND v i=true->(textV ND v i).length + 36<=50 * v.wt
 | .mk k n s ks,i,hr,hw=>by
  obtain ⟨d,hd,hc⟩:=qI hw;have hN:=cj d (mG (dx hd).2);rw [rngW] at hr;have h1:=(uo (v:=.mk k n s ks) hN hr.2.1 hc).2;have h2:=AQ (.mk k n s ks);have hs:(Val.mk k n s ks).s=s:=rfl;rw [hs] at h1;rw [textV,hd,Val.wt];simp only [List.length_append];rcases hc with ⟨_,_,h0⟩ | ⟨_,_,h0,_⟩ | ⟨_,h5,_,h0⟩
  ·have h0:ks=[]:=h0;subst h0;rw [textVs,eN];simp only [List.length_nil];omega
  ·have h0:ks=[]:=h0;subst h0;rw [textVs,eN];simp only [List.length_nil];omega
  ·have:=k0 cj ks d n 0 hN h5 hr.2.2 h0;omega
theorem k0 (cj:∀ d∈ND,dX L ND.length d):∀ (l:List Val) (d:Nd) (z:Int) (j:Nat),dX L ND.length d->5<=d.ag->rngWs l->eP ND l d z j=true->(textVs ND l d z j).length<=50 * eN l
 | [],d,z,j,_,_,_,_=>by rw [textVs];exact Nat.zero_le _
 | x :: r,d,z,j,hN,h5,hr,hw=>by
  rw [eP,Bool.and_eq_true] at hw;rw [rngWs] at hr;rw [textVs,eN]
  cases he:cp d z j with
  | none=>rw [he] at hw;exact absurd hw.1 (by simp)
  | some e=>
   rw [he] at hw;have h1:=sL cj x e.to hr.1 hw.1;have h2:=k0 cj r d z (j + 1) hN h5 hr.2 hw.2
   have h3:(if d.ag=7 then tx e.name ++ [58,32] else []).length<=34:=by
    split
    ·rename_i c;have:=hY ((hN.many (.inl c)).2.2.2 e (xf he));rw [List.length_append,bc];simp;omega
    ·simp
   have h4:(if j=0 then [] else [44,32]:List UInt8).length<=2:=by split<;>simp
   simp only [List.length_append];omega
end
theorem sM:∀ {ks:List Val} {e:Nat} {x:Val},ks[e]? = some x->eN (ks.take e) + x.wt<=eN ks
 | [],e,x,h=>by simp at h
 | y :: r,e,x,h=>by
  cases e with
  | zero=>
   simp only [List.getElem?_cons_zero,oI] at h;subst h;rw [List.take_zero,eN,eN];omega
  | succ e=>
   have:=sM (ks:=r) (e:=e) (x:=x) (by simpa using h);rw [List.take_succ_cons,eN,eN];omega
theorem AR:∀ (ks:List Val) (e:Nat),eN (ks.take e)<=eN ks
 | [],e=>by rw [List.take_nil];exact Nat.le_refl _
 | y :: r,0=>by rw [List.take_zero,eN];exact Nat.zero_le _
 | y :: r,e + 1=>by
  have:=AR r e;rw [List.take_succ_cons,eN,eN];omega
theorem xi:∀ {ks:List Val} {d:Nd} {z:Int} {j:Nat} (e:Nat),eP ND ks d z j=true->eP ND (ks.take e) d z j=true
 | [],_,_,_,e,h=>by rw [List.take_nil];exact h
 | y :: r,_,_,_,0,h=>by rw [List.take_zero,eP]
 | y :: r,d,z,j,e + 1,h=>by
  rw [eP,Bool.and_eq_true] at h;rw [List.take_succ_cons,eP,Bool.and_eq_true];exact ⟨h.1,xi e h.2⟩
theorem xj:∀ {ks:List Val} (e:Nat),rngWs ks->rngWs (ks.take e)
 | [],e,h=>by rw [List.take_nil];exact h
 | y :: r,0,h=>by rw [List.take_zero,rngWs];trivial
 | y :: r,e + 1,h=>by
  rw [rngWs] at h;rw [List.take_succ_cons,rngWs];exact ⟨h.1,xj e h.2⟩
end
abbrev bO (p:DV) (l:List UInt8):List DV:=[p,.sl 1 (bD l) (some 0)]
abbrev bT (l:List UInt8):List TkE:=[⟨l.length,5,1,none⟩]
def LS (y:Val) (l:List UInt8) (r:DV) (os:List (List DV)) (bQ:List TkE):Prop:=r = .tup []/\os=[cH y,bO (.loc 1 0) l]/\bQ=bT l
abbrev sN (y:Val) (PC:List DV) (d:Nd) (v:Val) (O Z:List UInt8) (NM:DV) (T:List Int) (L:List UInt8) (e:Nat):St:=
 ⟨[(0,⟨[],.loc 1 0⟩),(1,⟨[],.pt PC 0⟩),(10,⟨[],.loc 4 0⟩),(11,⟨[],.sl 1 (kg T) none⟩),(38,⟨[],.sl 4 (dVals v.ks) none⟩),(39,⟨[],.v (.int .i64 (dVals v.ks).length)⟩),(40,⟨[],.v (.int .i64 e)⟩)],
  [cH y,bO (.loc 1 0) L,cH v,n7 d,[.v (.string (ba O)),.v (.string (ba Z)),NM]],bT L⟩
theorem mi {S:Sch} {ND:List Nd} {PC:List DV} (hP:jF S ND PC) (y:Val):∀ (k:Nat) (v:Val),v.wt<=k->v.wt<=1099511627776->rngW v->∀ i:Int,ki ND v i=true->∀ (l:List UInt8) (p:DV),p = .v (.pointer none)∨p = .loc 1 0->l.length + 50 * v.wt<=140737488355328 ->
  MT false Tryz.prog 79 [.loc 1 0,.pt PC 0,.v (.int .i64 i),.agg (cH v)] [cH y,bO p l] (bT l) [(1,161)] (LS y (l ++ textV ND v i))
 | 0,v,h,_=>by have:=v.eX;omega
 | k + 1,v,h,hb=>fun hr i hw l p hp hl=>by
  have ih:=mi hP y k;obtain ⟨yk,yn,ys,yl⟩:=y;obtain ⟨d,hd,hc⟩:=qI hw;obtain ⟨h0,hg⟩:=dx hd;obtain ⟨j,rfl⟩:∃ j:Nat,i=j:=⟨i.toNat,by omega⟩;have hg:ND[j]? = some d:=by simpa using hg
  have hN:=hP.ok d (mG hg);have mr:=hN.k1;have Mu:=hN.k8;have gX:=hP.ah j d hg;have lm:=uk v;obtain ⟨Tj,gJ⟩:=uo hN (by obtain ⟨_,_,_,_⟩:=v;rw [rngW] at hr;exact hr.2.1) hc;have hol2:(dy d v).length + 1<=50 * (64 + v.s.size):=by omega
  have ic:=sL hP.ok v j hr hw
  have hT:textV ND v j=dy d v ++ textVs ND v.ks d v.n 0 ++ kh v:=by
   obtain ⟨q,z,s,ks⟩:=v;rw [textV,hd];rfl
  have hvw:v.wt=64 + v.s.size + eN v.ks:=by obtain ⟨q,z,s,ks⟩:=v;rfl
  have AS:=fun a b=>xc d v (by omega) (by obtain ⟨_,_,_,_⟩:=v;rw [rngW] at hr;exact hr.2.1) a b;by_cases c9:v.k < 5∨8 < v.k
  ·have US:v.ks=[]:=by
    rcases hc with h | h | h
    ·exact h.2.2
    ·exact h.2.2.1
    ·omega
   have h4:v.k=4->0<=v.n/\v.n < d.ae.length:=by
    rcases hc with h | h | h
    ·omega
    ·exact h.2.2.2
    ·omega
   have AS:=AS (by omega) h4;have gV:kh v=[]:=JW (by omega) US;rw [US,gV,textVs,List.append_nil,List.append_nil] at hT;rw [hT] at ic ⊢;rw [show (decide (v.k < 5) || decide (8 < v.k))=true by simpa using c9] at lm;generalize dy d v=O at *;clear hc hT;obtain ⟨q,z,s,ks⟩:=v;obtain ⟨ag,aC,lo,hi,most,ae,es⟩:=d;refine s9 (s:=false) (bt:=[(1,161)]) (mu:=[]) (fr:=false) (P:=Tryz.prog) tt tt_ok 5000 72 [] Tryz.func79 rfl Tryz.ntmps79 rfl (nL rfl) (fun E9 w9 hn9 hm9=>?_);refine call_p Be (gX) ax rfl ?_;refine call_p IZ (lm) ax rfl ?_;refine call_p NE (AS) ax rfl ?_;refine fX rfl (l ++ O) (l:=l) (kt:=0) rfl (.head _) rfl hp rfl (by simp [Tj]) (by rw [List.length_append];omega) rfl (fun n9=>?_);exact ⟨.tup [],[cH ⟨yk,yn,ys,yl⟩,bO (.loc 1 0) (l ++ O)],aL,aL,rfl,rfl,rfl⟩
  ·obtain ⟨hk,h5,LU,Cv⟩:v.k=d.ag/\5<=d.ag/\shellF d v=true/\eP ND v.ks d v.n 0=true:=by
    rcases hc with h | h | h
    ·omega
    ·omega
    ·exact h
   clear AS
   have QN:∀ m,m < v.ks.length->∃ e,cp d v.n m=some e/\ki ND (v.ks[m]?.getD v) e.to=true:=fun m hm=>by
    obtain ⟨e,h1,h2⟩:=w8 Cv (gE hm);rw [Nat.zero_add] at h1;exact ⟨e,h1,by rw [gE hm];exact h2⟩
   have R6:=Cu hN h5 v hb hk (fun m hm=>(QN m hm).imp fun e h=>h.1) (fun c=>shell_8 LU c);rw [show (decide (v.k < 5) || decide (8 < v.k))=false by simp;omega] at lm;have oN:=fun e (he:e<=v.ks.length)=>k0 hP.ok (v.ks.take e) d v.n 0 hN h5 (xj e (by obtain ⟨_,_,_,_⟩:=v;rw [rngW] at hr;exact hr.2.2)) (xi e Cv);have Kn:=AR v.ks;have rr:=AQ v;have Tk:d.ag=7->Ct d = .sl 1 (iT (xe d d.ay.length)) none:=fun c=>by rw [Ct,if_pos c]
   have Tl:d.ag≠7->Ct d = .v (.slice none 0 0):=fun c=>by rw [Ct,if_neg c]
   have PW:∀ (n m:Nat) (tk:List TkE),We n m tk (Ct d) (Ct d):=fun n m tk=>by
    by_cases c:d.ag=7
    ·rw [Tk c];exact ai rfl
    ·rw [Tl c];exact ai rfl
   have htg:=fun m e h1 h2=>@F8 d v v.ks.length m e h1 h2;have hNL:=AO d d.ay.length (Nat.le_refl _)
   have hNg:∀ (m:Nat) (e:Ed),d.ag=7->cp d v.n m=some e->(iT (xe d d.ay.length))[m]? = some [.v (.string (ba (tx e.name ++ [58,32])))]:=fun m e c h=>by
    unfold cp at h;rw [if_pos c] at h;simp [iT,xe,h]
   have qR:∀ e∈d.ay,d.ag=7->e.name.size<=32:=fun e he c=>hY ((hN.many (.inl c)).2.2.2 e he);have UT:=fun e x ed (h1:v.ks[e]? = some x) (h2:cp d v.n e=some ed)=>w7 (ND:=ND) h1 h2;have UU:textVs ND (v.ks.take 0) d v.n 0=[]:=by rw [List.take_zero,textVs]
   have UW:textVs ND (v.ks.take v.ks.length) d v.n 0=textVs ND v.ks d v.n 0:=by rw [List.take_length]
   rw [hT] at ic ⊢;rw [<- UW];generalize Lo:(fun e=>textVs ND (v.ks.take e) d v.n 0)=X at *;have hX:∀ e,textVs ND (v.ks.take e) d v.n 0=X e:=fun e=>by rw [<- Lo]
   simp only [hX] at UT UU oN ⊢;generalize dy d v=O at *;generalize kh v=Z at *;generalize Ct d=NM at *;generalize tosL d v v.ks.length=T at *;generalize xe d d.ay.length=M at *;clear hc hT UW LU ic hX Lo;obtain ⟨q,z,s,ks⟩:=v;obtain ⟨ag,aC,lo,hi,most,ae,es⟩:=d;have iS:=dB ks;have mn:=fV ks;simp only [Val.k,Val.n,Val.s,Val.ks] at *;refine s9 (s:=false) (bt:=[(1,161)]) (mu:=[]) (fr:=false) (P:=Tryz.prog) tt tt_ok 5000 72 [] Tryz.func79 rfl Tryz.ntmps79 rfl (nL rfl) (fun E9 w9 hn9 hm9=>?_);refine call_p Be (gX) ax rfl ?_;refine call_p IZ (lm) ax rfl ?_;refine call_p NF (R6) ax rfl ?_;refine fX rfl (l ++ O) (l:=l) (kt:=0) rfl (.head _) rfl hp rfl (by simp [Tj]) (by rw [List.length_append];omega) rfl (fun n9=>?_);refine aw (fun j st=>∃ e:Nat,st=sN ⟨yk,yn,ys,yl⟩ PC ⟨ag,aC,lo,hi,most,ae,es⟩ (.mk q z s ks) O Z NM T (l ++ O ++ X e) e/\e<=ks.length/\j=ks.length - e) ks.length (sN ⟨yk,yn,ys,yl⟩ PC ⟨ag,aC,lo,hi,most,ae,es⟩ (.mk q z s ks) O Z NM T (l ++ O) 0) (aH 5 rfl (by repeat' (first | exact rfl | exact ai rfl | exact PW _ _ _ | refine ⟨_,_,rfl,?_,?_⟩)) rfl rfl rfl (by repeat' (first | exact trivial | exact ai rfl | exact PW _ _ _ | refine ⟨⟨_,rfl,?_⟩,?_⟩))) ⟨0,by rw [UU,List.append_nil],by omega,by omega⟩ ?_;rintro _ st ⟨e,rfl,he,rfl⟩;have hXl:=oN e he;refine br (fun hL=>?_) (fun hL=>?_)
   ·have aq:e < ks.length:=by simpa [iS,Val.ks] using hL
    obtain ⟨ed,zj,Tm⟩:=QN e aq;obtain ⟨x,hx⟩:∃ x,ks[e]? = some x:=⟨_,gE aq⟩;rw [hx] at Tm;have Sy:=ma (mG hx);have TG:=sM hx;have MM:rngW x:=by rw [rngW] at hr;exact np hr.2.2 (mG hx)
    have qQ:=fun (L1:List UInt8) h1=>ih x (by omega) (by omega) MM ed.to Tm L1 (.loc 1 0) (.inr rfl) h1;have Gd:=UT e x ed hx zj;have QO:=htg e ed zj aq;have GD:=fun c=>hNg e ed c zj;have Is:=qR ed (xf zj);generalize textV ND x ed.to=t at qQ Gd;obtain ⟨xk,xn,xs,xl⟩:=x;refine ⟨_,⟨by omega,nf (by simpa [Val.ks] using hx)⟩,?_⟩;refine br (fun c=>?_) (fun c=>?_)
    ·have c:e≠0:=by rintro rfl;simp at c
     rw [if_neg c] at Gd;refine fX rfl (l ++ O ++ X e ++ [44,32]) (l:=l ++ O ++ X e) (kt:=0) rfl (.head _) rfl (.inr rfl) rfl (by simp) (by simp only [List.length_append,List.length_cons,List.length_nil];omega) rfl (fun n9=>?_);by_cases c7:ag=7
     ·have GD:=GD c7;have Is:=Is c7;have Io:=Tk c7;subst Io;rw [if_pos c7] at Gd;refine JU ⟨_,rfl⟩ rfl rfl (by intro h9;rw [h9] at GD;simp at GD) rfl rfl ?_;refine ⟨_,⟨by omega,GD⟩,?_⟩;refine fX rfl ((l ++ O ++ X e ++ [44,32]) ++ (tx ed.name ++ [58,32])) (l:=(l ++ O ++ X e ++ [44,32])) (kt:=0) rfl (.head _) rfl (.inr rfl) rfl (by simp) (by simp only [List.length_append,List.length_cons,List.length_nil,bc];omega) rfl (fun n9=>?_);refine aR (fun i=>Nat.beq i 7) mo (by decide +kernel) ?_;refine ⟨_,⟨by omega,mg QO⟩,?_⟩;have LV:(l ++ O ++ X e ++ [44,32]) ++ (tx ed.name ++ [58,32]) ++ t=l ++ O ++ X (e + 1):=by rw [Gd];simp only [List.append_assoc]
      refine fJ rfl (jy 2 1 DB rfl rfl rfl aL aL (qQ ((l ++ O ++ X e ++ [44,32]) ++ (tx ed.name ++ [58,32])) (by simp only [List.length_append,List.length_cons,List.length_nil,bc];omega)) (fun r dT bi hΦ h1 h2=>?_));rw [LV] at hΦ;obtain ⟨rfl,rfl,rfl⟩:=hΦ;exact ⟨sN ⟨yk,yn,ys,yl⟩ PC ⟨ag,aC,lo,hi,most,ae,es⟩ (.mk q z s ks) O Z _ T (l ++ O ++ X (e + 1)) (e + 1),(aH 5 rfl (G6 aq) rfl rfl rfl (wNB aq)),ks.length - (e + 1),by omega,e + 1,rfl,by omega,rfl⟩
     ·have Io:=Tl c7;subst Io;rw [if_neg c7,List.nil_append] at Gd;refine F0 ⟨_,rfl⟩ rfl rfl rfl rfl ?_;refine aR (fun i=>Nat.beq i 7) mo (by decide +kernel) ?_;refine ⟨_,⟨by omega,mg QO⟩,?_⟩;have LV:(l ++ O ++ X e ++ [44,32]) ++ t=l ++ O ++ X (e + 1):=by rw [Gd];simp only [List.append_assoc]
      refine fJ rfl (jy 2 1 DB rfl rfl rfl aL aL (qQ (l ++ O ++ X e ++ [44,32]) (by simp only [List.length_append,List.length_cons,List.length_nil];omega)) (fun r dT bi hΦ h1 h2=>?_));rw [LV] at hΦ;obtain ⟨rfl,rfl,rfl⟩:=hΦ;exact ⟨sN ⟨yk,yn,ys,yl⟩ PC ⟨ag,aC,lo,hi,most,ae,es⟩ (.mk q z s ks) O Z _ T (l ++ O ++ X (e + 1)) (e + 1),(aH 5 rfl (G6 aq) rfl rfl rfl (wNB aq)),ks.length - (e + 1),by omega,e + 1,rfl,by omega,rfl⟩
    ·have c:e=0:=by simp at c;omega
     rw [if_pos c,List.nil_append] at Gd;by_cases c7:ag=7
     ·have GD:=GD c7;have Is:=Is c7;have Io:=Tk c7;subst Io;rw [if_pos c7] at Gd;refine JU ⟨_,rfl⟩ rfl rfl (by intro h9;rw [h9] at GD;simp at GD) rfl rfl ?_;refine ⟨_,⟨by omega,GD⟩,?_⟩;refine fX rfl ((l ++ O ++ X e) ++ (tx ed.name ++ [58,32])) (l:=(l ++ O ++ X e)) (kt:=0) rfl (.head _) rfl (.inr rfl) rfl (by simp) (by simp only [List.length_append,List.length_cons,List.length_nil,bc];omega) rfl (fun n9=>?_);refine aR (fun i=>Nat.beq i 7) mo (by decide +kernel) ?_;refine ⟨_,⟨by omega,mg QO⟩,?_⟩;have LV:(l ++ O ++ X e) ++ (tx ed.name ++ [58,32]) ++ t=l ++ O ++ X (e + 1):=by rw [Gd];simp only [List.append_assoc]
      refine fJ rfl (jy 2 1 DB rfl rfl rfl aL aL (qQ ((l ++ O ++ X e) ++ (tx ed.name ++ [58,32])) (by simp only [List.length_append,List.length_cons,List.length_nil,bc];omega)) (fun r dT bi hΦ h1 h2=>?_));rw [LV] at hΦ;obtain ⟨rfl,rfl,rfl⟩:=hΦ;exact ⟨sN ⟨yk,yn,ys,yl⟩ PC ⟨ag,aC,lo,hi,most,ae,es⟩ (.mk q z s ks) O Z _ T (l ++ O ++ X (e + 1)) (e + 1),(aH 5 rfl (G6 aq) rfl rfl rfl (wNB aq)),ks.length - (e + 1),by omega,e + 1,rfl,by omega,rfl⟩
     ·have Io:=Tl c7;subst Io;rw [if_neg c7,List.nil_append] at Gd;refine F0 ⟨_,rfl⟩ rfl rfl rfl rfl ?_;refine aR (fun i=>Nat.beq i 7) mo (by decide +kernel) ?_;refine ⟨_,⟨by omega,mg QO⟩,?_⟩;have LV:(l ++ O ++ X e) ++ t=l ++ O ++ X (e + 1):=by rw [Gd];simp only [List.append_assoc]
      refine fJ rfl (jy 2 1 DB rfl rfl rfl aL aL (qQ (l ++ O ++ X e) (by simp only [List.length_append,List.length_cons,List.length_nil];omega)) (fun r dT bi hΦ h1 h2=>?_));rw [LV] at hΦ;obtain ⟨rfl,rfl,rfl⟩:=hΦ;exact ⟨sN ⟨yk,yn,ys,yl⟩ PC ⟨ag,aC,lo,hi,most,ae,es⟩ (.mk q z s ks) O Z _ T (l ++ O ++ X (e + 1)) (e + 1),(aH 5 rfl (G6 aq) rfl rfl rfl (wNB aq)),ks.length - (e + 1),by omega,e + 1,rfl,by omega,rfl⟩
   ·have bJ:e=ks.length:=by
     have:=hL;simp [iS,Val.ks] at this;omega
    subst bJ;have hw9:=Kn ks.length;rw [<- List.append_assoc,<- List.append_assoc];refine fX rfl (l ++ O ++ X ks.length ++ Z) (l:=l ++ O ++ X ks.length) (kt:=0) rfl (.head _) rfl (.inr rfl) rfl (by simp [Tj]) (by simp only [List.length_append];omega) rfl (fun n9=>?_);exact ⟨.tup [],[cH ⟨yk,yn,ys,yl⟩,bO (.loc 1 0) (l ++ O ++ X ks.length ++ Z)],aL,aL,rfl,rfl,rfl⟩
end Go.Proofs.YtfifjddnnmfeoaaGreat
set_option maxRecDepth 100000
namespace Go.Proofs.YtfifjddnnmfeoaaGreat
open Go Go.RowKit Dv Tryz
end Go.Proofs.YtfifjddnnmfeoaaGreat
set_option maxRecDepth 100000
namespace Go.Proofs.YtfifjddnnmfeoaaGreat
open Go Go.RowKit Dv Tryz
mutual
theorem sO:∀ (t:Ty),rngT t->∀ u∈flatT t,rngT u
 | .mk h ps,hr,u,hu=>by
  rw [flatT] at hu;split at hu
  ·cases hu
  ·rcases List.mem_cons.1 hu with rfl | hu
   ·exact hr
   ·rw [rngT] at hr;exact sP ps hr.2.2.2 u hu
theorem sP:∀ (ps:Pts),rngP ps->∀ u∈flatP ps,rngT u
 | .nil,_,u,hu=>by cases hu
 | .cons p v r,hr,u,hu=>by
  rw [flatP] at hu;rw [rngP] at hr;rcases List.mem_append.1 hu with hu | hu
  ·split at hu
   ·cases hu
   ·exact sO v hr.2.2.1 u hu
  ·exact sP r hr.2.2.2 u hu
end
theorem xm {lev:List Wd->Int} {s:Sch}:∀ (ps:Pts) (k:Nat),rngP ps->∀ e∈edsP lev s ps k,qS e.cn
 | .nil,_,_,e,he=>by cases he
 | .cons p v r,k,hr,e,he=>by
  rw [edsP] at he;rw [rngP] at hr;rcases List.mem_cons.1 he with rfl | he
  ·exact hr.2.1
  ·exact xm r _ hr.2.2.2 e he
def zk (n:Nd):Prop:=qS n.lo/\qS n.hi/\∀ e∈n.ay,qS e.cn
theorem zl {S:Sch} (hr:OP S) {n:Nd} (h:n∈bW S):zk n:=by
 rw [j4] at h;obtain ⟨t,ht,u,hu,k,rfl⟩:=qA h
 have h1:rngT t:=by
  rcases List.mem_append.1 ht with h | h
  ·obtain ⟨x,hx,rfl⟩:=List.mem_map.1 h;exact hr.1 x hx
  ·simp only [List.mem_singleton] at h;subst h;exact hr.2
 have h2:=sO t h1 u hu;obtain ⟨uh,us⟩:=u;rw [rngT] at h2;exact ⟨h2.1,h2.2.1,xm us _ h2.2.2.2⟩
end Go.Proofs.YtfifjddnnmfeoaaGreat
set_option maxRecDepth 100000
namespace Go.Proofs.YtfifjddnnmfeoaaGreat
open Go Go.RowKit Dv Tryz
end Go.Proofs.YtfifjddnnmfeoaaGreat
set_option maxRecDepth 100000
namespace Go.Proofs.YtfifjddnnmfeoaaGreat
open Go Go.RowKit Dv Tryz
end Go.Proofs.YtfifjddnnmfeoaaGreat
namespace Go.Proofs.YtfifjddnnmfeoaaGreat
namespace Dv
open Go Go.RowKit
section
variable {P:Program} {ops:Array Oper} {C:World->Prop} {Q:Act->World->Prop} {W:Nat->Bool} {x:Nat}
end
section
variable {X:Ctx} {D:Dw} {x:Nat} {tail:List Nat} {π:Nat->Nat}
end
end Dv
end Go.Proofs.YtfifjddnnmfeoaaGreat
set_option maxRecDepth 100000
namespace Go.Proofs.YtfifjddnnmfeoaaGreat
open Go Go.RowKit Dv Tryz
end Go.Proofs.YtfifjddnnmfeoaaGreat
set_option maxRecDepth 100000
namespace Go.Proofs.YtfifjddnnmfeoaaGreat
open Go Go.RowKit Dv Tryz
end Go.Proofs.YtfifjddnnmfeoaaGreat
set_option maxRecDepth 100000
namespace Go.Proofs.YtfifjddnnmfeoaaGreat
open Go Go.RowKit Dv Tryz
end Go.Proofs.YtfifjddnnmfeoaaGreat
set_option maxRecDepth 100000
namespace Go.Proofs.YtfifjddnnmfeoaaGreat
open Go Go.RowKit Dv Tryz
end Go.Proofs.YtfifjddnnmfeoaaGreat
set_option maxRecDepth 100000
namespace Go.Proofs.YtfifjddnnmfeoaaGreat
open Go Go.RowKit Dv Tryz
def Tn (k:Int):Hd:=⟨k,0,0,0,0,[],⟨al,0⟩⟩
end Go.Proofs.YtfifjddnnmfeoaaGreat
set_option maxRecDepth 100000
namespace Go.Proofs.YtfifjddnnmfeoaaGreat
open Go Go.RowKit Dv Tryz
end Go.Proofs.YtfifjddnnmfeoaaGreat
set_option maxRecDepth 100000
namespace Go.Proofs.YtfifjddnnmfeoaaGreat
open Go Go.RowKit Dv Tryz
end Go.Proofs.YtfifjddnnmfeoaaGreat
namespace Go.Proofs.YtfifjddnnmfeoaaGreat
namespace Dv
open Go Go.RowKit
section
variable {P:Program} {ops:Array Oper} {C:World->Prop} {Q:Act->World->Prop} {W:Nat->Bool}
end
section
variable {X:Ctx} {D:Dw}
end
end Dv
end Go.Proofs.YtfifjddnnmfeoaaGreat
set_option maxRecDepth 100000
namespace Go.Proofs.YtfifjddnnmfeoaaGreat
open Go Go.RowKit Dv Tryz
end Go.Proofs.YtfifjddnnmfeoaaGreat
set_option maxRecDepth 100000
namespace Go.Proofs.YtfifjddnnmfeoaaGreat
open Go Go.RowKit Dv Tryz
end Go.Proofs.YtfifjddnnmfeoaaGreat
set_option maxRecDepth 100000
namespace Go.Proofs.YtfifjddnnmfeoaaGreat
open Go Go.RowKit Dv Tryz
end Go.Proofs.YtfifjddnnmfeoaaGreat
set_option maxRecDepth 100000
namespace Go.Proofs.YtfifjddnnmfeoaaGreat
open Go Go.RowKit Dv Tryz
theorem uq {v:Val} (h:rngW v):qS v.n:=by obtain ⟨_,_,_,_⟩:=v;rw [rngW] at h;exact h.2.1
theorem Ge {L:Nat} {ND:List Nd} (cj:∀ d∈ND,dX L ND.length d) {v:Val} {i:Int} (hr:rngW v) (h:ki ND v i=true):textV ND v i ≠ []:=by
 obtain ⟨d,hd,hc⟩:=qI h;have h1:=(uo (cj d (mG (dx hd).2)) (uq hr) hc).1;obtain ⟨k,n,s,ks⟩:=v;rw [textV,hd];simp [h1]
def Iu (ND:List Nd) (x:Val) (i:Int) (B:Bool):List UInt8:=if B=true then textV ND x i else []
theorem ur {S:Sch} {ND:List Nd} {PC:List DV} (hP:jF S ND PC) (x:Val) (hx:x.wt<=1099511627776) (Ar:rngW x) (o:Int) (B:Bool) (GK:EvP Tryz.prog 78 [.pt PC 0,.v (.int .i64 o),.agg (cH x)] (.v (.bool B))) (hw:B=true->ki ND x (ch S)=true) :
  EvP Tryz.prog 31 [.pt PC 0,.v (.int .i64 o),.agg (cH x)] (.tup [.v (.string (ba (Iu ND x (ch S) B))),.v (.bool B)]):=by
 have nI:=hP.root;have aM:=fun h=>Ge hP.ok Ar (hw h);have Po:=fun h p hp=>mi hP x x.wt x (Nat.le_refl _) hx Ar (ch S) (hw h) [] p hp (by rw [List.length_nil];omega);unfold Iu;simp only [List.nil_append] at Po;generalize textV ND x (ch S)=T at *;generalize ch S=rt at *;clear hw;obtain ⟨k,n,s,ks⟩:=x;refine ta (s:=false) (bt:=[(1,161)]) (hbt:=fun p hp=>Nat.zero_le _) (P:=Tryz.prog) tt tt_ok 5000 20 [.tmp 6,.tmp 7] Tryz.func31 rfl Tryz.ntmps31 rfl (nL rfl) (fun E9 w9 hn9 hm9=>?_);refine call_p RH (GK) ax rfl ?_
 cases B with
 | false=>
  rw [if_neg (by simp)];exact ⟨.tup [.v (.string _),.v (.bool _)],ax,rfl⟩
 | true=>
  rw [if_pos rfl];refine aR (fun i=>Nat.beq i 4) mo (by decide +kernel) ?_;refine cr Nh (nI) ax rfl ?_;refine fJ rfl (wO ⟨0,5,1,none⟩ ⟨[(8,⟨[],.loc 1 0⟩)],[cH (.mk k n s ks),[.v (.pointer none),.sl 1 [] (some 0)]],[⟨0,5,1,none⟩]⟩ rfl ?_ rfl ?_ ⟨⟨_,rfl,ai rfl⟩,trivial⟩ rfl rfl ?_)
  ·repeat' (first | exact rfl | exact ai rfl | refine ⟨_,_,rfl,?_,?_⟩)
  ·repeat' (first | exact rfl | exact ai rfl | exact bp (Nat.le_refl _) rfl | refine ⟨_,_,rfl,?_,?_⟩)
  refine jy 2 1 DB rfl rfl rfl aL aL (Po rfl (.v (.pointer none)) (.inl rfl)) (fun r dT bi hΦ h1 h2=>?_);obtain ⟨rfl,rfl,rfl⟩:=hΦ;refine AE rfl (kt:=0) (l:=T) (.head _) rfl (aM rfl) rfl rfl rfl rfl ?_;exact ⟨.tup [.v (.string _),.v (.bool _)],ax,rfl⟩
end Go.Proofs.YtfifjddnnmfeoaaGreat
set_option maxRecDepth 100000
namespace Go.Proofs.YtfifjddnnmfeoaaGreat
open Go Go.RowKit Dv Tryz
end Go.Proofs.YtfifjddnnmfeoaaGreat
set_option maxRecDepth 100000
namespace Go.Proofs.YtfifjddnnmfeoaaGreat
open Go Go.RowKit Dv Tryz
abbrev Mw (PC LC:List DV) (cm:Int):List DV:=[.pt PC 0,.pt LC 0,.v (.int .i64 cm)]
section
variable {n:Nat} {f:Nat->Nat->Bool} {ae:List ByteArray} {LC:List DV} (hR:Cq n f ae LC) (PC:List DV)
include hR
theorem qJ (cm a:Nat) (ho:cm < n) (ha:a < n):EvP Tryz.prog 198 [.agg (Mw PC LC cm),.v (.int .i64 a)] (.v (.bool (f a cm))):=by
 have hq:=hR.leq a cm;rw [FX ha ho] at hq;refine ev_go (P:=Tryz.prog) tt tt_ok 5000 11 [.tmp 4] Tryz.func198 rfl Tryz.ntmps198 rfl (nL rfl) (fun E9 w9 hn9 hm9=>?_);refine call_p RJ (hq) ax rfl ?_;exact (rfl:_=_)
theorem qK {ND:List Nd} (cm a:Nat) (ho:cm < n) (ha:a < n) (d:Nd) (e:Ed) (hN:dX n ND.length d) (hm:e∈d.ay):EvP Tryz.prog 199 [.agg (Mw PC LC cm),.agg (xF e),.v (.int .i64 a)] (.v (.bool (decide (e.ck≠0) && f (AM f n a e.seen.toNat) cm))):=by
 obtain ⟨_,_,h3,UX⟩:=sI hN hm;have hj:=hR.join a e.seen.toNat ha UX;rw [<- h3] at hj;have hs:=qJ hR PC cm (AM f n a e.seen.toNat) ho (FY hR.ok ha UX);obtain ⟨en,eb,ea,et,GF,ew,uI,GG,GH,GI⟩:=e;refine ev_go (P:=Tryz.prog) tt tt_ok 5000 20 [.tmp 6] Tryz.func199 rfl Tryz.ntmps199 rfl (nL rfl) (fun E9 w9 hn9 hm9=>?_);refine aR (fun _=>false) mo (by decide +kernel) ?_;refine br (fun c=>?_) (fun c=>?_)
 ·have c:uI≠0:=by simpa using c
  refine cr DH (hj) ax rfl ?_;refine cr I4 (hs) ax rfl ?_;rw [show decide ((⟨en,eb,ea,et,GF,ew,uI,GG,GH,GI⟩:Ed).ck≠0)=true from decide_eq_true c,Bool.true_and];exact (rfl:_=_)
 ·have c:¬ uI≠0:=by simpa using c
  rw [show decide ((⟨en,eb,ea,et,GF,ew,uI,GG,GH,GI⟩:Ed).ck≠0)=false from decide_eq_false c,Bool.false_and];exact (rfl:_=_)
theorem zm {ND:List Nd} (cm:Int) (a:Nat) (ha:a < n) (d:Nd) (v:Val) (j:Nat) (e:Ed) (h:cp d v.n j=some e) (hm:e∈d.ay) (hN:dX n ND.length d) (h5:5<=d.ag) (hz:d.ag=8->(0<=v.n/\v.n < d.ay.length)/\j=0) (kj:d.ay.length<=1099511627776) :
  EvP Tryz.prog 197 [.agg (Mw PC LC cm),.agg (n7 d),.agg (cH v),.v (.int .i64 j),.v (.int .i64 a)] (.tup [.agg (xF e),.v (.int .i64 (kZ f n d e a:Nat))]):=by
 obtain ⟨_,⟨h2,R9⟩,_⟩:=sI hN hm;have hj:=hR.join a e.label.toNat ha R9;rw [<- h2] at hj;have hU:kZ f n d e a=if d.ag < 7 then a else AM f n a e.label.toNat:=rfl
 generalize kZ f n d e a=U at hU ⊢;have h8:=hN.k8;obtain ⟨ag,aC,lo,hi,most,QP,es⟩:=d;obtain ⟨k,z,s,ks⟩:=v;simp only [Val.n] at h hz kj hU h5 h8;have rr:=dR es;unfold cp at h;simp only at h;have hd:∃ en eb ea et GF ew uI GG GH GI,e=⟨en,eb,ea,et,GF,ew,uI,GG,GH,GI⟩:=⟨_,_,_,_,_,_,_,_,_,_,rfl⟩
 have LW:∃ (l:List (List DV)) (b:Bool),EvP Tryz.prog 237 [.agg (n7 ⟨ag,aC,lo,hi,most,QP,es⟩),.agg (cH (.mk k z s ks))] (.tup [.sl 10 l none,.v (.bool b)])/\(if ag < 7 then b=false/\l[0]? = some (xF e) else b=true/\l[j]? = some (xF e)):=by
  by_cases c7:ag=7
  ·rw [if_pos c7] at h;refine ⟨gD es,true,?_,by rw [if_neg (by omega)];exact ⟨rfl,cY h⟩⟩;refine ev_go (P:=Tryz.prog) tt tt_ok 5000 24 [.tmp 4,.tmp 5] Tryz.func237 rfl Tryz.ntmps237 rfl (nL rfl) (fun E9 w9 hn9 hm9=>?_);refine br (fun _=>?_) (fun c=>absurd c7 (by simpa using c));exact ⟨_,ax,rfl⟩
  rw [if_neg c7] at h;by_cases c8:ag=8
  ·rw [if_pos c8] at h;have hz:=hz c8;have hw:IntKind.i64.wrap (z + 1)=z + 1:=wrap64 (by omega) (by omega);refine ⟨((gD es).take (IntKind.i64.wrap (z + 1)).toNat).drop z.toNat,true,?_,by rw [if_neg (by omega),hz.2,List.getElem?_drop,List.getElem?_take,if_pos (by rw [hw];omega)];exact ⟨rfl,cY h⟩⟩;refine ev_go (P:=Tryz.prog) tt tt_ok 5000 24 [.tmp 4,.tmp 5] Tryz.func237 rfl Tryz.ntmps237 rfl (nL rfl) (fun E9 w9 hn9 hm9=>?_);refine br (fun c=>absurd (by simpa using c) c7) (fun _=>?_);refine br (fun _=>?_) (fun c=>absurd c8 (by simpa using c));refine ⟨⟨by omega,by rw [hw];omega,by rw [hw,dR];simp only;omega⟩,?_⟩;exact ⟨_,ax,rfl⟩
  ·rw [if_neg c8] at h;refine ⟨gD es,false,?_,by rw [if_pos (by omega)];exact ⟨rfl,cY h⟩⟩;refine ev_go (P:=Tryz.prog) tt tt_ok 5000 24 [.tmp 4,.tmp 5] Tryz.func237 rfl Tryz.ntmps237 rfl (nL rfl) (fun E9 w9 hn9 hm9=>?_);refine br (fun c=>absurd (by simpa using c) c7) (fun _=>?_);refine br (fun c=>absurd (by simpa using c) c8) (fun _=>?_);exact ⟨_,ax,rfl⟩
 obtain ⟨l,b,hE,hl⟩:=LW;by_cases c:ag < 7
 ·rw [if_pos c] at hl hU;obtain ⟨rfl,hl⟩:=hl;subst hU;obtain ⟨en,eb,ea,et,GF,ew,uI,GG,GH,GI,rfl⟩:=hd;refine ev_go (P:=Tryz.prog) tt tt_ok 5000 38 [.cell 10 176,.tmp 11] Tryz.func197 rfl Tryz.ntmps197 rfl (nL rfl) (fun E9 w9 hn9 hm9=>?_);refine call_p Jc (hE) ax rfl ?_;refine ⟨_,⟨by omega,hl⟩,?_⟩;exact ⟨_,ax,rfl⟩
 ·rw [if_neg c] at hl hU;obtain ⟨rfl,hl⟩:=hl;subst hU;obtain ⟨en,eb,ea,et,GF,ew,uI,GG,GH,GI,rfl⟩:=hd;refine ev_go (P:=Tryz.prog) tt tt_ok 5000 38 [.cell 10 176,.tmp 11] Tryz.func197 rfl Tryz.ntmps197 rfl (nL rfl) (fun E9 w9 hn9 hm9=>?_);refine call_p Jc (hE) ax rfl ?_;refine ⟨_,⟨by omega,hl⟩,?_⟩;refine aZ mo (by decide +kernel) ?_;refine cr DH (hj) ax rfl ?_;exact ⟨_,ax,rfl⟩
end
abbrev Gf (a:ByteArray) (aC:Nat) (m:Int) (e:Nat):St:=⟨[(0,⟨[],.v (.string a)⟩),(5,⟨[],.v (.int .i64 aC)⟩),(8,⟨[],.v (.int .i64 m)⟩),(9,⟨[],.v (.int .i64 e)⟩)],[],[]⟩
theorem zn (a:ByteArray) (ha:a.size<=1099511627776) (m:Int) (hm:m<=9223372036854775807):EvP Tryz.prog 239 [.v (.string a),.v (.int .i64 m)] (.v (.string (ba (headL m.toNat (tx a))))):=by
 refine ev_go (P:=Tryz.prog) tt tt_ok 5000 28 [.tmp 4] Tryz.func239 rfl Tryz.ntmps239 rfl (nL rfl) (fun E9 w9 hn9 hm9=>?_);refine aw (fun j st=>∃ e aC:Nat,st=Gf a aC m e/\(e:Int)<=max m 0/\aC <= a.size/\(tx a).take aC ++ headL (m.toNat - e) ((tx a).drop aC)=headL m.toNat (tx a)/\j=m.toNat - e) m.toNat (Gf a 0 m 0) (weak_mk ⟨_,rfl⟩ wA rfl rfl rfl Di) ⟨0,0,rfl,by omega,by omega,by simp,by omega⟩ ?_;rintro j st ⟨e,aC,rfl,he,h1,hE,rfl⟩;have ic:=bc a
 have PX:headL (m.toNat - e) ((tx a).drop aC)=[]->a.extract 0 aC=ba (headL m.toNat (tx a)):=fun h=>by
  rw [h,List.append_nil] at hE;rw [<- hE];exact pF (Az a aC)
 refine br (fun hL=>?_) (fun hL=>?_)
 rotate_left
 ·have bJ:m.toNat - e=0:=by have:=of_decide_eq_false hL;omega
  refine ⟨⟨by omega,by omega,by omega⟩,?_⟩;exact (congrArg (fun z=>DV.v (.string z)) (PX (by rw [bJ];rfl)):_=_)
 have aq:(e:Int) < m:=of_decide_eq_true hL;refine br (fun c=>?_) (fun c=>?_)
 ·have c:aC=a.size:=by have:=of_decide_eq_true c;omega
  refine ⟨⟨by omega,by omega,by omega⟩,?_⟩;exact (congrArg (fun z=>DV.v (.string z)) (PX (by rw [List.drop_of_length_le (by omega),Cf])):_=_)
 have c:aC < a.size:=by have:=of_decide_eq_false c;omega
 have UY:=Ci a aC ha h1
 have aM:(tx a).drop aC ≠ []:=fun h=>by
  have:=congrArg List.length h;rw [List.length_drop,List.length_nil] at this;omega
 have UZ:=oB aM;rw [List.length_drop] at UZ;obtain ⟨k,hk⟩:∃ k,m.toNat - e=k + 1:=⟨m.toNat - e - 1,by omega⟩;rw [hk,show headL (k + 1) ((tx a).drop aC)=((tx a).drop aC).take (jG ((tx a).drop aC)) ++ headL k (((tx a).drop aC).drop (jG ((tx a).drop aC))) from rfl,<- List.append_assoc,List.drop_drop,<- List.take_add] at hE;generalize jG ((tx a).drop aC)=w at UY UZ hE;refine bP Od rfl UY ax (fun q hq=>?_);obtain ⟨z1,rfl⟩:=hq
 have hw:IntKind.i64.wrap ((aC:Int) + w)=((aC + w:Nat):Int):=by
  rw [wrap64 (by omega) (by omega)];omega
 have he1:IntKind.i64.wrap ((e:Int) + 1)=((e + 1:Nat):Int):=by
  rw [wrap64 (by omega) (by omega)];omega
 exact ⟨Gf a (aC + w) m (e + 1),(weak_mk ⟨_,rfl⟩ wA rfl rfl rfl (by repeat' (first | exact trivial | exact ai rfl | exact aj hw | exact aj he1 | refine ⟨⟨_,rfl,?_⟩,?_⟩))),m.toNat - (e + 1),by omega,e + 1,aC + w,rfl,by omega,by omega,by rw [show m.toNat - (e + 1)=k by omega];exact hE,rfl⟩
end Go.Proofs.YtfifjddnnmfeoaaGreat
set_option maxRecDepth 100000
namespace Go.Proofs.YtfifjddnnmfeoaaGreat
open Go Go.RowKit Dv Tryz
end Go.Proofs.YtfifjddnnmfeoaaGreat
set_option maxRecDepth 100000
namespace Go.Proofs.YtfifjddnnmfeoaaGreat
open Go Go.RowKit Dv Tryz
section
variable {L:Nat} {ND:List Nd} (cj:∀ n∈ND,dX L ND.length n)
include cj
end
section
variable {L:Nat} {ND:List Nd} (cj:∀ n∈ND,dX L ND.length n)
include cj
end
end Go.Proofs.YtfifjddnnmfeoaaGreat
namespace Go.Proofs.YtfifjddnnmfeoaaGreat
namespace Dv
open Go Go.RowKit
section
variable {X:Ctx} {st:St} {k:List It} {E:En} {a:Act} {w:World}
end
end Dv
end Go.Proofs.YtfifjddnnmfeoaaGreat
namespace Go.Proofs.YtfifjddnnmfeoaaGreat
namespace Dv
open Go Go.RowKit
section
variable {X:Ctx} {st:St} {k:List It} {E:En} {a:Act} {w:World}
end
end Dv
end Go.Proofs.YtfifjddnnmfeoaaGreat
set_option maxRecDepth 100000
namespace Go.Proofs.YtfifjddnnmfeoaaGreat
open Go Go.RowKit Dv Tryz
end Go.Proofs.YtfifjddnnmfeoaaGreat
set_option maxRecDepth 100000
namespace Go.Proofs.YtfifjddnnmfeoaaGreat
open Go Go.RowKit Dv Tryz
end Go.Proofs.YtfifjddnnmfeoaaGreat
set_option maxRecDepth 100000
namespace Go.Proofs.YtfifjddnnmfeoaaGreat
open Go Go.RowKit Dv Tryz
end Go.Proofs.YtfifjddnnmfeoaaGreat
set_option maxRecDepth 100000
namespace Go.Proofs.YtfifjddnnmfeoaaGreat
open Go Go.RowKit Dv Tryz
section
variable (a b:Nat) (A B:List (List DV)) (rt:Int) {ND:List Nd} {L:Nat} (cj:∀ n∈ND,dX L ND.length n)
include cj
end
section
variable (a b:Nat) (A B:List (List DV)) (rt:Int) {ND:List Nd} {L:Nat} (cj:∀ n∈ND,dX L ND.length n)
include cj
end
end Go.Proofs.YtfifjddnnmfeoaaGreat
set_option maxRecDepth 100000
namespace Go.Proofs.YtfifjddnnmfeoaaGreat
open Go Go.RowKit Dv Tryz
end Go.Proofs.YtfifjddnnmfeoaaGreat
set_option maxRecDepth 100000
set_option maxHeartbeats 4000000
namespace Go.Proofs.YtfifjddnnmfeoaaGreat
open Go Go.RowKit Dv Tryz
section
variable (lv:List Wd) (f:Nat->Nat->Bool) (ND:List Nd) (z:Int) (hL:dA f lv.length) (hn:lv.length<=32) (cj:∀ n∈ND,dX lv.length ND.length n) (bI:∀ n∈ND,n.ay.length<=1099511627776) (cm:Nat) (ho:cm < lv.length) (dep:Nat) (Tp:dep<=64)
include hL hn cj bI ho Tp
end
section
variable (lv:List Wd) (f:Nat->Nat->Bool) (ND:List Nd) (root:Nat) (nI:root < ND.length) (hL:dA f lv.length) (hn:lv.length<=32) (cj:∀ n∈ND,dX lv.length ND.length n) (bI:∀ n∈ND,n.ay.length<=1099511627776) (cm:Nat) (ho:cm < lv.length)
include nI hL hn cj bI ho
end
section
variable (lv:List Wd) (f:Nat->Nat->Bool) (ND:List Nd) (rt:Nat) (hL:dA f lv.length) (hn:lv.length<=32) (cj:∀ n∈ND,dX lv.length ND.length n) (bI:∀ n∈ND,n.ay.length<=1099511627776) (PY:∀ n∈ND,zk n)
include hL hn cj bI PY
end
section
variable {S:Sch} {ND:List Nd} {PC LC:List DV} (hP:jF S ND PC) (xq:EvP Tryz.prog 38 [.pt PC 0] (.pt LC 0)) (hR:Cq S.af.length (bZ S) (au S.af) LC) (PZ:∀ n∈ND,zk n) (bI:∀ n∈ND,n.ay.length<=1099511627776) (rt:Nat) (LX:ch S=rt)
include xq hR
theorem zo (o:Int):EvP Tryz.prog 136 [.pt PC 0,.v (.int .i64 o)] (.tup [.agg (Mw PC LC o),.v (.bool (decide (0<=o/\o < S.af.length)))]):=by
 have hlen:=hR.len;refine ev_go (P:=Tryz.prog) tt tt_ok 5000 21 [.cell 4 232,.tmp 5] Tryz.func136 rfl Tryz.ntmps136 rfl (nL rfl) (fun E9 w9 hn9 hm9=>?_);refine call_p Rz (xq) ax rfl ?_;refine br (fun c=>?_) (fun c=>?_)
 ·have c:0<=o:=by simpa using c
  refine call_p zW (hlen) ax rfl ?_;have hd:decide (0<=o/\o < (S.af.length:Int))=decide (o < (S.af.length:Int)):=decide_eq_decide.2 ⟨fun h=>h.2,fun h=>⟨c,h⟩⟩;rw [hd];exact ⟨_,ax,rfl⟩
 ·have c:¬ 0<=o:=by simpa using c
  rw [show decide (0<=o/\o < (S.af.length:Int))=false from decide_eq_false (fun h=>c h.1)];exact ⟨_,ax,rfl⟩
include hP PZ bI LX
end
theorem shellF_567 {d:Nd} {v:Val} (c:d.ag=5∨d.ag=6∨d.ag=7):shellF d v=(decide (v.s=al) && decide (v.k=d.ag) && decide (v.n=0) && (if d.ag=5 then decide ((v.ks.length:Int)<=d.most) else if d.ag=6 then decide (v.ks.length < 2) else decide (v.ks.length=d.ay.length))):=by
 unfold shellF;by_cases h1:v.s=al<;>by_cases h2:v.k=d.ag<;>by_cases h3:v.n=0
 all_goals (first
  | (rw [if_neg (by rintro (h | h | h);exact h h2;exact h h1;exact h.2 h3)];rw [decide_eq_true h1,decide_eq_true h2,decide_eq_true h3];rcases c with c | c | c<;>simp [c])
  | (rw [if_pos (by first | exact .inr (.inl h1) | exact .inl h2 | exact .inr (.inr ⟨by omega,h3⟩))];simp [h1,h2,h3]))
theorem shellF_8 {d:Nd} {v:Val} (c:d.ag=8):shellF d v=if v.s≠al∨v.k≠8∨v.n < 0∨(d.ay.length:Int)<=v.n then false else match d.ay[v.n.toNat]? with
  | none=>false
  | some e=>(decide (v.ks.length=0) == e.bare) && decide (v.ks.length < 2):=by
 unfold shellF;rw [c];by_cases h1:v.s=al
 ·by_cases h2:v.k=8
  ·rw [if_neg (by rintro (h | h | h);exact h h2;exact h h1;exact h.1 rfl),if_neg (by decide),if_neg (by decide),if_neg (by decide)];by_cases h3:v.n < 0∨(d.ay.length:Int)<=v.n
   ·rw [if_pos h3,if_pos (.inr (.inr h3))]
   ·rw [if_neg h3,if_neg (by rintro (h | h | h);exact h h1;exact h h2;exact h3 h)]
    cases d.ay[v.n.toNat]? with
    | none=>rfl
    | some e=>
     simp only
     have key:∀ m:Nat,(if e.bare=true then decide (m=0) else decide (m=1))=((decide (m=0) == e.bare) && decide (m < 2)):=fun m=>by
      cases e.bare<;>(match m with
       | 0=>rfl
       | 1=>rfl
       | m + 2=>simp)
     exact key _
  ·rw [if_pos (.inl h2),if_pos (.inr (.inl h2))]
 ·rw [if_pos (.inr (.inl h1)),if_pos (.inl h1)]
theorem xr (d:Nd) (v:Val) (h5:5<=d.ag) (h8:d.ag<=8) (kj:d.ay.length<=1099511627776) (hv:v.wt<=1099511627776):EvP Tryz.prog 196 [.agg (n7 d),.agg (cH v)] (.v (.bool (shellF d v))):=by
 have hA:=fun c=>shellF_567 (d:=d) (v:=v) c;have hB:=fun c=>shellF_8 (d:=d) (v:=v) c;have Tq:d.ag=5->shellF d v=(decide (v.s=al) && decide (v.k=5) && decide (v.n=0) && decide ((v.ks.length:Int)<=d.most)):=fun c=>by rw [hA (.inl c),if_pos c,c]
 have Tr:d.ag=6->shellF d v=(decide (v.s=al) && decide (v.k=6) && decide (v.n=0) && decide (v.ks.length < 2)):=fun c=>by rw [hA (.inr (.inl c)),if_neg (by omega),if_pos c,c]
 have Ts:d.ag=7->shellF d v=(decide (v.s=al) && decide (v.k=7) && decide (v.n=0) && decide (v.ks.length=d.ay.length)):=fun c=>by rw [hA (.inr (.inr c)),if_neg (by omega),if_neg (by omega),c]
 have Tt:d.ag=8->(v.s≠al∨v.k≠8∨v.n < 0∨(d.ay.length:Int)<=v.n)->shellF d v=false:=fun c h=>by rw [hB c,if_pos h]
 have QK:d.ag=8->¬ (v.s≠al∨v.k≠8∨v.n < 0∨(d.ay.length:Int)<=v.n)->∀ e,d.ay[v.n.toNat]? = some e->shellF d v=((decide (v.ks.length=0) == e.bare) && decide (v.ks.length < 2)):=fun c h e he=>by rw [hB c,if_neg h,he]
 clear hA hB;generalize shellF d v=B at Tq Tr Ts Tt QK ⊢;obtain ⟨ag,aC,lo,hi,most,QP,es⟩:=d;obtain ⟨k,z,s,ks⟩:=v;simp only [Val.k,Val.n,Val.s,Val.ks] at Tq Tr Ts Tt QK h5 h8 kj;have rr:=dR es;have iS:=dB ks;refine ev_go (P:=Tryz.prog) tt tt_ok 5000 111 [.tmp 4] Tryz.func196 rfl Tryz.ntmps196 rfl (nL rfl) (fun E9 w9 hn9 hm9=>?_);refine br (fun c=>?_) (fun c=>?_)
 ·have c:ag=5:=by simpa using c
  subst c;rw [Tq rfl];refine (congrArg (fun b=>DV.v (.bool b)) ?_:_=_);simp only [pickB_and,iS];rfl
 have c5:¬ ag=5:=by simpa using c
 refine br (fun c=>?_) (fun c=>?_)
 ·have c:ag=6:=by simpa using c
  subst c;rw [Tr rfl];refine (congrArg (fun b=>DV.v (.bool b)) ?_:_=_);simp only [pickB_and,iS];rw [show decide ((ks.length:Int)<=1)=decide (ks.length < 2) from decide_eq_decide.2 ⟨fun h=>by omega,fun h=>by omega⟩];rfl
 have c6:¬ ag=6:=by simpa using c
 refine br (fun c=>?_) (fun c=>?_)
 ·have c:ag=7:=by simpa using c
  subst c;rw [Ts rfl];refine (congrArg (fun b=>DV.v (.bool b)) ?_:_=_);simp only [pickB_and,iS,rr];rw [show decide ((ks.length:Int)=es.length)=decide (ks.length=es.length) from decide_eq_decide.2 ⟨fun h=>by omega,fun h=>by omega⟩];rfl
 have c7:¬ ag=7:=by simpa using c
 refine br (fun c=>?_) (fun c=>?_)
 ·have c:s≠al∨k≠8∨z < 0∨(es.length:Int)<=z:=by
   simp [ak,rr] at c;rcases c with ((c | c) | c) | c
   ·exact .inl c
   ·exact .inr (.inl c)
   ·exact .inr (.inr (.inl c))
   ·exact .inr (.inr (.inr c))
  rw [Tt (by omega) c];exact (rfl:_=_)
 ·have c:¬ (s≠al∨k≠8∨z < 0∨(es.length:Int)<=z):=by
   simp [ak,rr] at c;rintro (h | h | h | h)
   ·exact h c.1.1.1
   ·exact h c.1.1.2
   ·omega
   ·omega
  obtain ⟨e,he⟩:∃ e,es[z.toNat]? = some e:=⟨_,gE (by omega)⟩;rw [QK (by omega) c e he];obtain ⟨en,eb,ea,et,GF,ew,uI,GG,GH,GI⟩:=e;refine aR (fun _=>false) mo (by decide +kernel) ?_;refine ⟨_,⟨by omega,cY he⟩,?_⟩;refine (congrArg (fun b=>DV.v (.bool b)) ?_:_=_);simp only [pickB_and,iS];rw [show decide ((ks.length:Int)=0)=decide (ks.length=0) from decide_eq_decide.2 ⟨fun h=>by omega,fun h=>by omega⟩,show decide ((ks.length:Int) < 2)=decide (ks.length < 2) from decide_eq_decide.2 ⟨fun h=>by omega,fun h=>by omega⟩];rfl
theorem fZ {v:Val} {k n:Int} {s:ByteArray} (h:0 < v.ks.length):bX v k n s=false:=by
 unfold bX;rw [decide_eq_false (show ¬ v.ks.length=0 by omega),Bool.and_false]
theorem zp {z u:Int} (hz : -9223372036854775808<=z) (hu:1<=u):((aY z u).2 && decide ((aY z u).1=z))=decide (z % u=0):=by
 rw [FZ hu];have h1:=Int.emod_nonneg z (b:=u) (by omega);by_cases c:z - z % u < -9223372036854775808
 ·rw [if_pos c,decide_eq_false (show ¬ z % u=0 by omega)];rfl
 ·rw [if_neg c];show (true && decide (z - z % u=z))=_;rw [Bool.true_and];exact decide_eq_decide.2 ⟨fun h=>by omega,fun h=>by omega⟩
theorem mayF_1 {e:Ed} {d:Nd} {v:Val} (c:e.ck=1/\d.ag=2):fY e d v=if bX v 9 e.wide al=true then !(aY d.lo e.cn).2
  else bX v 10 v.n al && decide (v.n % e.cn=0) && (aY d.hi e.cn).2 && decide (v.n<=(aY d.hi e.cn).1) && (!(aY d.lo e.cn).2 || decide ((aY d.lo e.cn).1<=v.n)):=by
 unfold fY;rw [if_pos c]
theorem mayF_2 {e:Ed} {d:Nd} {v:Val} (c:e.ck=2/\d.ag=3):fY e d v=(bX v 11 0 v.s && decide ((v.s.size:Int)<=d.most) && decide (headL e.cn.toNat (tx v.s)=tx v.s)):=by
 unfold fY;rw [if_neg (by omega),if_pos c]
theorem mayF_3 {e:Ed} {d:Nd} {v:Val} (c:e.ck=3/\d.ag=5):fY e d v=(bX v 12 v.n al && decide (0<=v.n) && decide (v.n<=d.most)):=by
 unfold fY;rw [if_neg (by omega),if_neg (by omega),if_pos c]
theorem mayF_0 {e:Ed} {d:Nd} {v:Val} (c1:¬ (e.ck=1/\d.ag=2)) (c2:¬ (e.ck=2/\d.ag=3)) (c3:¬ (e.ck=3/\d.ag=5)):fY e d v=bX v 9 e.wide al:=by
 unfold fY;rw [if_neg c1,if_neg c2,if_neg c3]
theorem Gg {e:Ed} {d:Nd} {v:Val} (h:0 < v.ks.length):fY e d v=false:=by
 by_cases c1:e.ck=1/\d.ag=2
 ·rw [mayF_1 c1,fZ h,fZ h,if_neg (by simp)];rfl
 by_cases c2:e.ck=2/\d.ag=3
 ·rw [mayF_2 c2,fZ h];rfl
 by_cases c3:e.ck=3/\d.ag=5
 ·rw [mayF_3 c3,fZ h];rfl
 rw [mayF_0 c1 c2 c3,fZ h]
theorem jM {v:Val} {k n:Int} {s:ByteArray} (h:v.ks=[]):bX v k n s=(decide (v.k=k) && decide (v.n=n) && decide (v.s=s)):=by
 unfold bX;rw [h];exact Bool.and_true _
theorem mayF_9 {e:Ed} {d:Nd} {v:Val} (c:e.ck=1/\d.ag=2) (Cv:v.ks=[]) (h:v.k=9):fY e d v=(!(aY d.lo e.cn).2 && decide (v.n=e.wide) && decide (v.s=al)):=by
 rw [mayF_1 c,jM Cv,jM Cv,h];by_cases h1:v.n=e.wide<;>by_cases h2:v.s=al<;>simp [h1,h2]
theorem mayF_10 {e:Ed} {d:Nd} {v:Val} (c:e.ck=1/\d.ag=2) (Cv:v.ks=[]) (h:¬ v.k=9) (hn : -9223372036854775808<=v.n) (P0:1<=e.cn) :
  fY e d v=(decide (v.k=10) && decide (v.s=al) && (aY v.n e.cn).2 && decide ((aY v.n e.cn).1=v.n) && (aY d.hi e.cn).2 && (!(aY d.lo e.cn).2 || decide ((aY d.lo e.cn).1<=v.n)) && decide (v.n<=(aY d.hi e.cn).1)):=by
 rw [mayF_1 c,jM Cv,jM Cv,decide_eq_false h,<- zp hn P0];generalize (aY v.n e.cn).2=b1;generalize decide ((aY v.n e.cn).1=v.n)=b2;generalize (aY d.hi e.cn).2=b3;generalize decide (v.n<=(aY d.hi e.cn).1)=b4;generalize (!(aY d.lo e.cn).2 || decide ((aY d.lo e.cn).1<=v.n))=b5;generalize decide (v.k=10)=b6;generalize decide (v.s=al)=b7;rw [show decide (v.n=v.n)=true from decide_eq_true rfl];cases b1<;>cases b2<;>cases b3<;>cases b4<;>cases b5<;>cases b6<;>cases b7<;>rfl
theorem uu (e:Ed) (d:Nd) (v:Val) (Cv:v.ks=[]) (P1:e.ck=1/\d.ag=2) (P0:1<=e.cn) (hn : -9223372036854775808<=v.n/\v.n<=9223372036854775807) (hlo : -9223372036854775808<=d.lo/\d.lo<=9223372036854775807) (kC : -9223372036854775808<=d.hi/\d.hi<=9223372036854775807) (hc : -9223372036854775808<=e.cn/\e.cn<=9223372036854775807) :
  EvP Tryz.prog 238 [.agg (xF e),.agg (n7 d),.agg (cH v)] (.v (.bool (fY e d v))):=by
 have h1:=kU d.lo e.cn hlo hc;have h2:=kU v.n e.cn hn hc;have h3:=kU d.hi e.cn kC hc;have fm:=mayF_9 P1 Cv;have qO:=fun h=>mayF_10 P1 Cv h hn.1 P0;generalize fY e d v=B at fm qO ⊢;unfold Fu at h1 h2 h3;generalize aY d.lo e.cn=L at h1 fm qO;generalize aY v.n e.cn=M at h2 qO;generalize aY d.hi e.cn=H at h3 qO;obtain ⟨L1,L2⟩:=L;obtain ⟨M1,M2⟩:=M;obtain ⟨H1,H2⟩:=H;obtain ⟨q,z,s,ks⟩:=v;obtain ⟨en,eb,ea,et,GF,ew,uI,GG,GH,GI⟩:=e;obtain ⟨ag,aC,lo,hi,most,QP,es⟩:=d;refine ev_go (P:=Tryz.prog) tt tt_ok 5000 90 [.tmp 6] Tryz.func238 rfl Tryz.ntmps238 rfl (nL rfl) (fun E9 w9 hn9 hm9=>?_);refine call_p DK (h1) ax rfl ?_;refine br (fun c=>?_) (fun c=>?_)
 ·have c:q=9:=by simpa using c
  rw [fm c];refine (congrArg (fun b=>DV.v (.bool b)) ?_:_=_);simp only [pickB_and];rfl
 ·have c:¬ q=9:=by simpa using c
  rw [qO c];refine call_p DK (h2) ax rfl ?_;refine call_p DK (h3) ax rfl ?_;refine (congrArg (fun b=>DV.v (.bool b)) ?_:_=_);simp only [pickB_and,ak];rfl
theorem sQ (e:Ed) (d:Nd) (v:Val) (P0:e.ck=1->1<=e.cn) (hn : -9223372036854775808<=v.n/\v.n<=9223372036854775807) (hlo : -9223372036854775808<=d.lo/\d.lo<=9223372036854775807) (kC : -9223372036854775808<=d.hi/\d.hi<=9223372036854775807) (hc : -9223372036854775808<=e.cn/\e.cn<=9223372036854775807) (hv:v.wt<=1099511627776) :
  EvP Tryz.prog 200 [.agg (xF e),.agg (n7 d),.agg (cH v)] (.v (.bool (fY e d v))):=by
 have Kg:=fun Cv P1=>uu e d v Cv P1 (P0 P1.1) hn hlo kC hc
 have bI:v.s.size<=1099511627776/\v.ks.length<=1099511627776:=by
  obtain ⟨k,n,s,ks⟩:=v;have:=fV ks;rw [Val.wt] at hv;exact ⟨by show s.size<=_;omega,by show ks.length<=_;omega⟩
 have hh:=zn v.s bI.1 e.cn hc.2;have hlen:=fun h=>Gg (e:=e) (d:=d) (v:=v) h;have qO:=fun c=>mayF_2 (e:=e) (d:=d) (v:=v) c;have Tu:=fun c=>mayF_3 (e:=e) (d:=d) (v:=v) c;have kz:=fun a b c=>mayF_0 (e:=e) (d:=d) (v:=v) a b c;have lm:=fun k n s h=>jM (v:=v) (k:=k) (n:=n) (s:=s) h;generalize fY e d v=B at Kg hlen qO Tu kz ⊢
 have LY:(e.ck=2/\d.ag=3)->v.ks=[]->B=(decide (v.k=11) && decide (v.n=0) && decide ((v.s.size:Int)<=d.most) && decide (headL e.cn.toNat (tx v.s)=tx v.s)):=fun c h=>by
  rw [qO c,lm _ _ _ h,show decide (v.s=v.s)=true from decide_eq_true rfl,Bool.and_true]
 have P2:(e.ck=3/\d.ag=5)->v.ks=[]->B=(decide (v.k=12) && decide (v.s=al) && decide (0<=v.n) && decide (v.n<=d.most)):=fun c h=>by
  rw [Tu c,lm _ _ _ h,show decide (v.n=v.n)=true from decide_eq_true rfl,Bool.and_true]
 have vT:¬ (e.ck=1/\d.ag=2)->¬ (e.ck=2/\d.ag=3)->¬ (e.ck=3/\d.ag=5)->v.ks=[]->B=(decide (v.k=9) && decide (v.n=e.wide) && decide (v.s=al)):=fun a b c h=>by
  rw [kz a b c,lm _ _ _ h]
 clear qO Tu kz lm;generalize headL e.cn.toNat (tx v.s)=HD at hh LY;obtain ⟨q,z,s,ks⟩:=v;simp only [Val.ks,Val.s] at Kg hlen LY P2 vT hh bI;have iS:=dB ks;obtain ⟨en,eb,ea,et,GF,ew,uI,GG,GH,GI⟩:=e;obtain ⟨ag,aC,lo,hi,most,QP,es⟩:=d;refine ev_go (P:=Tryz.prog) tt tt_ok 5000 104 [.tmp 6] Tryz.func200 rfl Tryz.ntmps200 rfl (nL rfl) (fun E9 w9 hn9 hm9=>?_);refine br (fun c=>?_) (fun c=>?_)
 ·have c:0 < ks.length:=by simpa [iS] using c
  rw [hlen c];exact (rfl:_=_)
 have c0:ks=[]:=by
  have:¬ 0 < ks.length:=by simpa [iS] using c
  exact List.eq_nil_of_length_eq_zero (by omega)
 refine br (fun c=>?_) (fun c=>?_)
 ·have c:uI=1/\ag=2:=by simpa [pickB_and] using c
  have Kg:=Kg c0 c;refine call_p N5 (Kg) ax rfl ?_;exact (rfl:_=_)
 have c1:¬ (uI=1/\ag=2):=by simpa [pickB_and] using c
 refine br (fun c=>?_) (fun c=>?_)
 ·have c:uI=2/\ag=3:=by simpa [pickB_and] using c
  have hB:B=((decide (q=11) && decide (z=0) && decide ((s.size:Int)<=most)) && decide (HD=tx s)):=LY c c0;have hbt:decide (ba HD=s)=decide (HD=tx s):=decide_eq_decide.2 ⟨fun h=>by rw [<- h,rS],fun h=>by rw [h,Ab]⟩;refine aR (fun _=>false) mo (by decide +kernel) ?_;refine br (fun g=>?_) (fun g=>?_)
  ·have g:(decide (q=11) && decide (z=0) && decide ((s.size:Int)<=most))=true:=by simpa [pickB_and] using g
   rw [g,Bool.true_and] at hB;refine cr N6 (hh) ax rfl ?_;refine (congrArg (fun b=>DV.v (.bool b)) ?_:_=_);rw [hB,<- hbt];rfl
  ·have g:(decide (q=11) && decide (z=0) && decide ((s.size:Int)<=most))=false:=by simpa [pickB_and] using g
   rw [g,Bool.false_and] at hB;rw [hB];exact (rfl:_=_)
 have c2:¬ (uI=2/\ag=3):=by simpa [pickB_and] using c
 refine br (fun c=>?_) (fun c=>?_)
 ·have c:uI=3/\ag=5:=by simpa [pickB_and] using c
  rw [P2 c c0];refine (congrArg (fun b=>DV.v (.bool b)) ?_:_=_);simp only [pickB_and];rfl
 have c3:¬ (uI=3/\ag=5):=by simpa [pickB_and] using c
 rw [vT c1 c2 c3 c0];refine (congrArg (fun b=>DV.v (.bool b)) ?_:_=_);simp only [pickB_and];rfl
def U0 (w:Int):Ed:=⟨al,false,0,0,0,w,0,0,0,0⟩
theorem LZ (w:Int) (d:Nd) (v:Val):fY (U0 w) d v=bX v 9 w al:=by
 rw [mayF_0 (by rintro ⟨h,_⟩;cases h) (by rintro ⟨h,_⟩;cases h) (by rintro ⟨h,_⟩;cases h)];rfl
theorem zq {N:Nat} {ND:List Nd} {d:Nd} (hN:dX N ND.length d) {v:Val} (h:shellF d v=true) (c:d.ag=8) {m:Nat} (hm:m < v.ks.length):(0<=v.n/\v.n < d.ay.length)/\m=0:=by
 rw [shellF_8 c] at h;split at h
 ·cases h
 rename_i hc;have h1:¬ v.n < 0:=fun g=>hc (.inr (.inr (.inl g)));have h2:¬ (d.ay.length:Int)<=v.n:=fun g=>hc (.inr (.inr (.inr g)));split at h
 ·cases h
 ·rw [Bool.and_eq_true,decide_eq_true_iff] at h;have:=h.2;omega
def Iv (ND:List Nd) (f:Nat->Nat->Bool) (L cm:Nat) (d:Nd) (e:Ed) (a:Nat) (x:Val):Bool:=if zc f L cm d e a=2 then seeV ND f L cm x e.to (kZ f L d e a) else if zc f L cm d e a=1 then (match cQ ND e.to with | none=>false | some t=>fY e t x) else bX x 9 e.wide al
theorem Cw {ND:List Nd} {f:Nat->Nat->Bool} {L cm:Nat} {ks:List Val} {d:Nd} {z:Int} {a j m:Nat} {x:Val} {e:Ed} (h:ks[m]? = some x) (he:cp d z j=some e):seeVs ND f L cm (ks.drop m) d z a j=(Iv ND f L cm d e a x && seeVs ND f L cm (ks.drop (m + 1)) d z a (j + 1)):=by
 rw [zd h,he];rfl
abbrev zr (PC LC:List DV) (cm a:Nat) (v:Val) (d:Nd) (e:Nat):St:=
 ⟨[(2,⟨[],.v (.int .i64 a)⟩),(4,⟨[],.loc 0 0⟩),(7,⟨[],.loc 1 0⟩),(9,⟨[],.loc 2 0⟩),(38,⟨[],.sl 4 (dVals v.ks) none⟩),(39,⟨[],.v (.int .i64 (dVals v.ks).length)⟩),(40,⟨[],.v (.int .i64 e)⟩)],[Mw PC LC cm,cH v,n7 d],[]⟩
theorem nS {S:Sch} {ND:List Nd} {PC LC:List DV} (hP:jF S ND PC) (hR:Cq S.af.length (bZ S) (au S.af) LC) (PY:∀ n∈ND,zk n) (bI:∀ n∈ND,n.ay.length<=1099511627776) (cm:Nat) (ho:cm < S.af.length) :
  ∀ (k:Nat) (v:Val),v.wt<=k->v.wt<=1099511627776->rngW v->∀ (i a:Nat),a < S.af.length->i < ND.length ->
   EvP Tryz.prog 137 [.agg (Mw PC LC cm),.v (.int .i64 i),.v (.int .i64 a),.agg (cH v)] (.v (.bool (seeV ND (bZ S) S.af.length cm v i a)))
 | 0,v,h,_=>by have:=v.eX;omega
 | k + 1,v,h,hb=>fun hr i a ha hi=>by
  have ih:=nS hP hR PY bI cm ho k;have hL:=hR.ok;obtain ⟨d,hg⟩:∃ d,ND[i]? = some d:=⟨_,gE hi⟩
  have hnd:cQ ND (i:Int)=some d:=by
   unfold cQ;rw [if_neg (by omega),Int.toNat_natCast,hg]
  have uU:=mG hg;have hN:=hP.ok d uU;have gX:=hP.ah i d hg;have P3:=bI d uU;have Tv:=PY d uU;have U1:=qH hP _ v (Nat.le_refl _) hb i;have LU:=fun h5=>xr d v h5 hN.k8 P3 hb;have L0:=fun h5 hs m hm=>sJ hN h5 (v:=v) hs (m:=m) hm;have L3:=fun hs c m hm=>zq hN (v:=v) hs c (m:=m) hm
  have hV:seeV ND (bZ S) S.af.length cm v i a=if d.ag < 5 then fitV ND v i else shellF d v && seeVs ND (bZ S) S.af.length cm v.ks d v.n a 0:=by
   obtain ⟨q,z,s,ks⟩:=v;rw [seeV,hnd];rfl
  have Tw:d.ag < 5->seeV ND (bZ S) S.af.length cm v i a=fitV ND v i:=fun c=>by rw [hV,if_pos c]
  have Iw:¬ d.ag < 5->seeV ND (bZ S) S.af.length cm v i a=(shellF d v && seeVs ND (bZ S) S.af.length cm v.ks d v.n a 0):=fun c=>by rw [hV,if_neg c]
  clear hV;generalize seeV ND (bZ S) S.af.length cm v i a=B at Tw Iw ⊢;generalize fitV ND v i=F at U1 Tw;generalize shellF d v=SH at LU L0 L3 Iw;obtain ⟨vk,vn,vs,ks⟩:=v;have mn:=fV ks;have iS:=dB ks;rw [Val.wt] at h hb;have U2:=Ip hr;simp only [Val.ks,Val.n] at Iw U2 L0 L3;obtain ⟨ag,aC,lo,dE,most,ae,es⟩:=d;refine ev_go (P:=Tryz.prog) tt tt_ok 5000 90 [.tmp 8] Tryz.func137 rfl Tryz.ntmps137 rfl (nL rfl) (fun E9 w9 hn9 hm9=>?_);refine call_p Be (gX) ax rfl ?_;refine br (fun c=>?_) (fun c=>?_)
  ·have c:ag < 5:=by simpa using c
   rw [Tw c];refine call_p Ni (U1) ax rfl ?_;exact (rfl:_=_)
  have c5:¬ ag < 5:=by simpa using c
  have Iw:=Iw c5;have h5:5<=ag:=by omega
  have LU:=LU h5;refine call_p NR (LU) ax rfl ?_
  cases SH with
  | false=>
   rw [Bool.false_and] at Iw;rw [Iw];exact (rfl:_=_)
  | true=>
   rw [Bool.true_and] at Iw;refine aw (fun t st=>∃ e:Nat,st=zr PC LC cm a (.mk vk vn vs ks) ⟨ag,aC,lo,dE,most,ae,es⟩ e/\e<=ks.length/\B=seeVs ND (bZ S) S.af.length cm (ks.drop e) ⟨ag,aC,lo,dE,most,ae,es⟩ vn a e/\t=ks.length - e) ks.length (zr PC LC cm a (.mk vk vn vs ks) ⟨ag,aC,lo,dE,most,ae,es⟩ 0) (aH 3 rfl wRA rfl rfl rfl Di) ⟨0,rfl,by omega,Iw,by omega⟩ ?_;rintro t st ⟨e,rfl,he,hE,rfl⟩;refine br (fun Lf=>?_) (fun Lf=>?_)
   ·have aq:e < ks.length:=by simpa [iS,Val.ks] using Lf
    obtain ⟨x,hx⟩:∃ x,ks[e]? = some x:=⟨_,gE aq⟩;obtain ⟨ed,hK⟩:=L0 h5 rfl e aq;have hm:=mG hx;have Tm:=ma hm;have Ar:=np U2 hm;obtain ⟨h1,t2,h2⟩:=JQ hN hK.mem hK.bare;obtain ⟨_,Ks⟩:=dx h2;have ic:=(gS Ks).1;have Pb:ed.to=(ed.to.toNat:Nat):=by omega
    have Ix:=PY t2 (mG Ks);have Gh:=hP.ah ed.to.toNat t2 Ks;rw [<- Pb] at Gh;rw [Cw hx hK.n5] at hE;have wb:=zm hR PC cm a ha ⟨ag,aC,lo,dE,most,ae,es⟩ (.mk vk vn vs ks) e ed hK.n5 hK.mem hN h5 (fun c=>L3 rfl c e aq) P3;have hU:=Im hL hN hK.mem ha;have Gi:=qJ hR PC cm (kZ (bZ S) S.af.length ⟨ag,aC,lo,dE,most,ae,es⟩ ed a) ho hU;have U3:=qK hR PC cm a ho ha ⟨ag,aC,lo,dE,most,ae,es⟩ ed hN hK.mem;have Tx:=Tv.2.2 ed hK.mem;have Tz:=(hN.n5 ed hK.mem).cn.2.1;have P4:=sQ ed t2 x Tz (Gc Ar) Ix.1 Ix.2.1 Tx (by omega);have Gj:=sQ (U0 ed.wide) t2 x (fun h=>by cases h) (Gc Ar) Ix.1 Ix.2.1 ⟨by show (-9223372036854775808:Int)<=0;decide,by show (0:Int)<=9223372036854775807;decide⟩ (by omega);rw [LZ] at Gj;have tV:=ih x (by omega) (by omega) Ar ed.to.toNat (kZ (bZ S) S.af.length ⟨ag,aC,lo,dE,most,ae,es⟩ ed a) hU ic;rw [<- Pb] at tV
    have Cx:Iv ND (bZ S) S.af.length cm ⟨ag,aC,lo,dE,most,ae,es⟩ ed a x=if bZ S (kZ (bZ S) S.af.length ⟨ag,aC,lo,dE,most,ae,es⟩ ed a) cm=true then seeV ND (bZ S) S.af.length cm x ed.to (kZ (bZ S) S.af.length ⟨ag,aC,lo,dE,most,ae,es⟩ ed a) else if (decide (ed.ck≠0) && bZ S (AM (bZ S) S.af.length a ed.seen.toNat) cm)=true then fY ed t2 x else bX x 9 ed.wide al:=by
     unfold Iv;rw [Il,h2];by_cases g1:bZ S (kZ (bZ S) S.af.length ⟨ag,aC,lo,dE,most,ae,es⟩ ed a) cm=true
     ·simp only [if_pos g1,reduceIte]
     ·by_cases g2:ed.ck≠0/\bZ S (AM (bZ S) S.af.length a ed.seen.toNat) cm=true
      ·simp only [if_neg g1,if_pos g2,reduceIte];rw [if_neg (by decide),if_pos (by rw [decide_eq_true g2.1,g2.2];rfl)]
      ·simp only [if_neg g1,if_neg g2]
       rw [if_neg (by decide),if_neg (by decide),if_neg (by
        intro h;rw [Bool.and_eq_true,decide_eq_true_iff] at h
        exact g2 h)]
    generalize Iv ND (bZ S) S.af.length cm ⟨ag,aC,lo,dE,most,ae,es⟩ ed a x=KS at hE Cx;generalize kZ (bZ S) S.af.length ⟨ag,aC,lo,dE,most,ae,es⟩ ed a=U at wb Gi tV Cx;generalize bZ S U cm=b1 at Gi Cx;generalize (decide (ed.ck≠0) && bZ S (AM (bZ S) S.af.length a ed.seen.toNat) cm)=b2 at U3 Cx;generalize seeV ND (bZ S) S.af.length cm x ed.to U=R1 at tV Cx;generalize fY ed t2 x=R2 at P4 Cx;generalize bX x 9 ed.wide al=R3 at Gj Cx;have Cg:KS=false->B=false:=fun h=>by rw [hE,h,Bool.false_and]
    have nV:KS=true->∃ j',j' < ks.length - e/\∃ e',zr PC LC cm a (.mk vk vn vs ks) ⟨ag,aC,lo,dE,most,ae,es⟩ (e + 1)=zr PC LC cm a (.mk vk vn vs ks) ⟨ag,aC,lo,dE,most,ae,es⟩ e' /\ e' <= ks.length/\B=seeVs ND (bZ S) S.af.length cm (ks.drop e') ⟨ag,aC,lo,dE,most,ae,es⟩ vn a e' /\ j'=ks.length - e':=fun h=>⟨ks.length - (e + 1),by omega,e + 1,rfl,by omega,by rw [hE,h,Bool.true_and],rfl⟩;obtain ⟨xk,xn,xs,xks⟩:=x;obtain ⟨en,eb,ea,et,GF,ew,uI,GG,GH,GI⟩:=ed;obtain ⟨U4,at2,lo2,s5,U5,TA,es2⟩:=t2;clear hE;refine ⟨_,⟨by omega,nf hx⟩,?_⟩;refine call_p NS (wb) ax rfl ?_;refine call_p Be (Gh) ax rfl ?_;refine call_p I4 (Gi) ax rfl ?_
    cases b1 with
    | true=>
     refine call_p IX (tV) ax rfl ?_
     cases R1 with
     | false=>
      have hB:=Cg (by rw [Cx];rfl);rw [hB];exact (rfl:_=_)
     | true=>
      obtain ⟨j',g1,g2⟩:=nV (by rw [Cx];rfl);exact ⟨zr PC LC cm a (.mk vk vn vs ks) ⟨ag,aC,lo,dE,most,ae,es⟩ (e + 1),(aH 3 rfl (G6 aq) rfl rfl rfl (wNB aq)),j',g1,g2⟩
    | false=>
     refine call_p NT (U3) ax rfl ?_
     cases b2 with
     | true=>
      refine call_p I5 (P4) ax rfl ?_
      cases R2 with
      | false=>
       have hB:=Cg (by rw [Cx];rfl);rw [hB];exact (rfl:_=_)
      | true=>
       obtain ⟨j',g1,g2⟩:=nV (by rw [Cx];rfl);exact ⟨zr PC LC cm a (.mk vk vn vs ks) ⟨ag,aC,lo,dE,most,ae,es⟩ (e + 1),(aH 3 rfl (G6 aq) rfl rfl rfl (wNB aq)),j',g1,g2⟩
     | false=>
      refine call_p I5 (Gj) ax rfl ?_
      cases R3 with
      | false=>
       have hB:=Cg (by rw [Cx];rfl);rw [hB];exact (rfl:_=_)
      | true=>
       obtain ⟨j',g1,g2⟩:=nV (by rw [Cx];rfl);exact ⟨zr PC LC cm a (.mk vk vn vs ks) ⟨ag,aC,lo,dE,most,ae,es⟩ (e + 1),(aH 3 rfl (G6 aq) rfl rfl rfl (wNB aq)),j',g1,g2⟩
   ·have bJ:e=ks.length:=by have:=Lf;simp [iS,Val.ks] at this;omega
    subst bJ;rw [List.drop_length,seeVs] at hE;rw [hE];exact (rfl:_=_)
def xu (ND:List Nd) (f:Nat->Nat->Bool) (n rt:Nat) (o:Int) (v:Val):Bool:=decide (0<=o/\o < n) && seeV ND f n o.toNat v rt (w5 f n)
theorem xx {S:Sch} {ND:List Nd} {PC LC:List DV} (hP:jF S ND PC) (xq:EvP Tryz.prog 38 [.pt PC 0] (.pt LC 0)) (hR:Cq S.af.length (bZ S) (au S.af) LC) (PZ:∀ n∈ND,zk n) (bI:∀ n∈ND,n.ay.length<=1099511627776) (rt:Nat) (LX:ch S=rt) (eV:rt < ND.length) (o:Int) (v:Val) (hv:v.wt<=1099511627776) (CO:rngW v) :
  EvP Tryz.prog 78 [.pt PC 0,.v (.int .i64 o),.agg (cH v)] (.v (.bool (xu ND (bZ S) S.af.length rt o v))):=by
 have Gz:=zo xq hR o;have nI:=hP.root;rw [LX] at nI;have EJ:=hR.bot;have hs:=fun (cm:Nat) (ho:cm < S.af.length)=>nS hP hR PZ bI cm ho _ v (Nat.le_refl _) hv CO rt (w5 (bZ S) S.af.length) (Ik hR.ok) eV;have hS:xu ND (bZ S) S.af.length rt o v=(decide (0<=o/\o < S.af.length) && seeV ND (bZ S) S.af.length o.toNat v rt (w5 (bZ S) S.af.length)):=rfl;generalize xu ND (bZ S) S.af.length rt o v=SF at hS ⊢;by_cases ho:0<=o/\o < S.af.length
 ·obtain ⟨ob,rfl⟩:∃ n:Nat,o=n:=⟨_,(Int.toNat_of_nonneg ho.1).symm⟩;have hs:=hs ob (by omega);rw [show decide (0<=(ob:Int)/\(ob:Int) < (S.af.length:Int))=true from decide_eq_true ho] at Gz hS;rw [Int.toNat_natCast,Bool.true_and] at hS;rw [<- hS] at hs;generalize w5 (bZ S) S.af.length=bt at EJ hs;obtain ⟨k,n,s,ks⟩:=v;refine ev_go (P:=Tryz.prog) tt tt_ok 5000 26 [.tmp 6] Tryz.func78 rfl Tryz.ntmps78 rfl (nL rfl) (fun E9 w9 hn9 hm9=>?_);refine call_p IW (Gz) ax rfl ?_;refine aR (fun _=>false) mo (by decide +kernel) ?_;refine cr Nh (nI) ax rfl ?_;refine cr IY (EJ) ax rfl ?_;refine cr IX (hs) ax rfl ?_;exact (rfl:_=_)
 ·rw [show decide (0<=o/\o < (S.af.length:Int))=false from decide_eq_false ho] at Gz hS;rw [Bool.false_and] at hS;rw [hS];obtain ⟨k,n,s,ks⟩:=v;refine ev_go (P:=Tryz.prog) tt tt_ok 5000 26 [.tmp 6] Tryz.func78 rfl Tryz.ntmps78 rfl (nL rfl) (fun E9 w9 hn9 hm9=>?_);refine call_p IW (Gz) ax rfl ?_;refine aR (fun _=>false) mo (by decide +kernel) ?_;exact (rfl:_=_)
end Go.Proofs.YtfifjddnnmfeoaaGreat
set_option maxRecDepth 100000
namespace Go.Proofs.YtfifjddnnmfeoaaGreat
open Go Go.RowKit Dv Tryz
end Go.Proofs.YtfifjddnnmfeoaaGreat
set_option maxRecDepth 100000
namespace Go.Proofs.YtfifjddnnmfeoaaGreat
open Go Go.RowKit Dv Tryz
section
variable {ND:List Nd} {f:Nat->Nat->Bool} {L cm:Nat}
theorem Iy {v:Val} {i:Int} {d:Nd} (hd:cQ ND i=some d) (h9:9<=v.k) (hb:bf v=true) (hk:v.ks=[]):ki ND v i=true:=by
 obtain ⟨k,n,s,ks⟩:=v;have hk:ks=[]:=hk;subst hk;have h9:9<=k:=h9;rw [ki,hd];simp only;rw [if_pos h9,hb];rfl
theorem eC {v:Val} {i:Int} {d:Nd} {k n:Int} {s:ByteArray} (hd:cQ ND i=some d) (h:bX v k n s=true) (hk:(k=9/\1<=n/\n<=64)∨k=10∨k=11∨k=12):ki ND v i=true:=by
 rw [ze.1 h];refine Iy hd (by show 9<=k;omega) ?_ rfl;rcases hk with ⟨rfl,h1,h2⟩ | rfl | rfl | rfl<;>simp [bf,Val.k,Val.n]
 exact ⟨decide_eq_true h1,decide_eq_true h2⟩
theorem Iz {v:Val} {i:Int} {d:Nd} {e:Ed} {t:Nd} (hd:cQ ND i=some d) (hw:1<=e.wide/\e.wide<=64) (h:fY e t v=true):ki ND v i=true:=by
 unfold fY at h;split at h
 ·split at h
  ·rename_i c;exact eC hd c (.inl ⟨rfl,hw⟩)
  ·simp only [Bool.and_eq_true] at h;exact eC hd h.1.1.1.1 (.inr (.inl rfl))
 ·split at h
  ·simp only [Bool.and_eq_true] at h;exact eC hd h.1.1 (.inr (.inr (.inl rfl)))
  ·split at h
   ·simp only [Bool.and_eq_true] at h;exact eC hd h.1.1 (.inr (.inr (.inr rfl)))
   ·exact eC hd h (.inl ⟨rfl,hw⟩)
mutual
theorem AU (cj:∀ n∈ND,dX L ND.length n):∀ (v:Val) (i:Int) (a:Nat),seeV ND f L cm v i a=true->ki ND v i=true
 | .mk k n s ks,i,a,h=>by
  rw [seeV] at h
  cases hd:cQ ND i with
  | none=>rw [hd] at h;cases h
  | some d=>
   rw [hd] at h;simp only at h;have hN:=cj d (mG (dx hd).2);have Mu:=hN.k8;rw [ki,hd];simp only;split at h
   ·rename_i c5;obtain ⟨d',hF⟩:=Co cj h;have QQ:=hF.ah;rw [hd] at QQ;injection QQ with QQ
    subst QQ;have h1:k=d.ag:=hF.k;have h2:ks=[]:=hF.leaf c5;have h3:=hF.enum;rw [if_neg (by omega),if_neg (by omega),if_pos c5,h2];simp only [decide_true,Bool.true_and,Bool.or_eq_true,decide_eq_true_iff];by_cases c4:k=4
    ·exact .inr (h3 (by omega))
    ·exact .inl c4
   ·rename_i c5;rw [Bool.and_eq_true] at h
    have hk:k=d.ag:=by
     by_cases c:k=d.ag
     ·exact c
     ·have:=h.1;unfold shellF at this;rw [if_pos (.inl c)] at this;cases this
    rw [if_neg (by omega),if_neg (by omega),if_neg c5,Bool.and_eq_true];exact ⟨h.1,xy cj ks d n a 0 hN (fun m hm=>by rw [Nat.zero_add];exact sJ hN (by omega) h.1 hm) h.2⟩
theorem xy (cj:∀ n∈ND,dX L ND.length n):∀ (l:List Val) (d:Nd) (z:Int) (a j:Nat),dX L ND.length d->(∀ m,m < l.length->∃ e,PR ND d z (j + m) e)->seeVs ND f L cm l d z a j=true->eP ND l d z j=true
 | [],_,_,_,_,_,_,_=>by rw [eP]
 | x :: r,d,z,a,j,hN,hK,h=>by
  rw [seeVs,Bool.and_eq_true] at h;rw [eP,Bool.and_eq_true];refine ⟨?_,xy cj r d z a (j + 1) hN (fun m hm=>by have:=hK (m + 1) (by rw [List.length_cons];omega);rwa [show j + (m + 1)=j + 1 + m by omega] at this) h.2⟩;obtain ⟨e,hE⟩:=hK 0 (by simp);have he:=hE.n5;rw [Nat.add_zero] at he;have h1:=h.1;rw [he] at h1 ⊢;simp only at h1 ⊢;obtain ⟨g1,t,ht⟩:=JQ hN hE.mem hE.bare;have hw:=(hN.n5 e hE.mem).wide;split at h1
  ·exact AU cj x e.to _ h1
  ·split at h1
   ·rw [ht] at h1;exact Iz ht hw h1
   ·exact eC ht h1 (.inl ⟨rfl,hw⟩)
end
theorem Gk (cj:∀ n∈ND,dX L ND.length n) {rt:Nat} {o:Int} {v:Val} (h:xu ND f L rt o v=true):ki ND v (rt:Nat)=true:=by
 unfold xu at h;rw [Bool.and_eq_true] at h;exact AU cj v _ _ h.2
end
theorem uv {S:Sch} {ND:List Nd} {PC LC:List DV} (hP:jF S ND PC) (xq:EvP Tryz.prog 38 [.pt PC 0] (.pt LC 0)) (hR:Cq S.af.length (bZ S) (au S.af) LC) (PZ:∀ n∈ND,zk n) (bI:∀ n∈ND,n.ay.length<=1099511627776) (rt:Nat) (LX:ch S=rt) (eV:rt < ND.length) (o:Int) (x:Val) (hx:x.wt<=1099511627776) (Ar:rngW x) :
  EvP Tryz.prog 31 [.pt PC 0,.v (.int .i64 o),.agg (cH x)] (.tup [.v (.string (ba (Iu ND x (rt:Nat) (xu ND (bZ S) S.af.length rt o x)))),.v (.bool (xu ND (bZ S) S.af.length rt o x))]):=by
 rw [<- LX];exact ur hP x hx Ar o _ (xx hP xq hR PZ bI rt LX eV o x hx Ar) (fun h=>by rw [LX];exact Gk hP.ok h)
def dS:Sch:=⟨[⟨⟨#[108,111,119]⟩,0⟩,⟨⟨#[104,105,103,104]⟩,0⟩],[(⟨⟨#[108,111,119]⟩,0⟩,⟨⟨#[104,105,103,104]⟩,0⟩)],[],.mk (Tn 7) (.cons ⟨⟨⟨#[120]⟩,0⟩,false,[⟨⟨#[104,105,103,104]⟩,0⟩],2,0,0,0,[]⟩ (.mk (Tn 1) .nil) .nil)⟩
def AV:Val:=.mk 7 0 al [.mk 9 2 al []]
theorem Cy:(kS dS).1=0:=by decide +kernel
theorem sR:ch dS=((ch dS).toNat:Nat)/\(ch dS).toNat < (bW dS).length:=by decide +kernel
theorem Gl:xu (bW dS) (bZ dS) dS.af.length (ch dS).toNat 0 AV=true:=by decide +kernel
theorem Cz:textV (bW dS) AV ((ch dS).toNat:Nat)=[123,120,58,32,60,42,42,62,125]:=by decide +kernel
theorem mj:EvP Tryz.prog 26 [] (.v (.bool true)):=by
 have GB:dS.wt<=1099511627776:=by decide +kernel
 have hb:=(yQ dS GB).mono (Ψ:=fun r _ _=>Fs dS r) fun _ _ _ h=>B6 GB h;refine ev_go (P:=Tryz.prog) tt tt_ok 5000 43 [.tmp 0] Tryz.func26 rfl Tryz.ntmps26 rfl (nL rfl) (fun E9 w9 hn9 hm9=>?_);refine bP Rw rfl hb ax (fun r hr=>?_);rcases hr with ⟨hr,_⟩ | ⟨_,PC,hP,rfl⟩
 ·exact (hr Cy).elim
 obtain ⟨LC,xq,hR⟩:=hP.S2;have TB:∀ n∈bW dS,zk n:=fun n hn=>zl (S:=dS) (by simp [dS,OP,rngT,rngP,Tn,qS]) hn;have bI:∀ n∈bW dS,n.ay.length<=1099511627776:=fun n hn=>(sA hn GB).2;have hl:=uv hP xq hR TB bI (ch dS).toNat sR.1 sR.2 0 AV (by decide +kernel) (by simp [AV,rngW,rngWs,qS]);rw [Gl,Iu,if_pos rfl,Cz] at hl;refine call_p Ry (hl) ax rfl ?_;exact (rfl:_=_)
theorem leaves33_law (x:Val) (hx:x.wt<=1099511627776) (Ar:rngW x):EvP Tryz.prog 5 [.agg (cH x)] (.v (.bool true)):=by
 have hs:x.s.size<=1099511627776:=by
  obtain ⟨k,n,s,ks⟩:=x;rw [Val.wt] at hx;show s.size<=_;omega
 have h1:=nR x hs (uq Ar);have h2:=zg x hs (uq Ar);generalize cq x=S at *;generalize bf x=B at *;obtain ⟨k,n,s,ks⟩:=x;refine ev_go (P:=Tryz.prog) tt tt_ok 5000 33 [.tmp 2] Tryz.func5 rfl Tryz.ntmps5 rfl (nL rfl) (fun E9 w9 hn9 hm9=>?_);refine br (fun _=>?_) (fun _=>?_)
 ·refine call_p Nj (mj) ax rfl ?_;exact (rfl:_=_)
 refine call_p Nk (h1) ax rfl ?_;refine call_p Rx (h2) ax rfl ?_;refine br (fun _=>?_) (fun c=>absurd c (by simp [pickB_and]));refine call_p Nj (mj) ax rfl ?_;cases B<;>exact (rfl:_=_)
end Go.Proofs.YtfifjddnnmfeoaaGreat
