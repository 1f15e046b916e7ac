/- Part 7 of the proof: How what is seen of values is written: the program's plain, word, of; Reading of values whose numbers are ints, and of arrays of two; What is known of values that are written; how long their texts are: plain; How what is seen of values is written: the program's write; A text's first units: the document's Head, the program's heads, floors; The numbers of a plan's nodes are ints; The least depths of the values of a plan's nodes: plain; The program's nodes, least depths; A region that draws its order, in which a new object may come at any time among calls: its run with the object made at each of these times serves every order; Where steps lead: the document's Edge, Walk; the program's; The program's way along steps: fits, step, Walk; The document's least depths; fine; the chapter's example; The program's Depths; The law of least depths: fine, the example, the call returns true; With which schemas nothing is wrong: the document's Wrong of chapters 20, 21; the law's fine; Which levels see a place: the program's Who; A region that draws its order, run by a schedule: at each point all that may come and has an effect is tried; The document's rows of an audit: With, Under, How, Rows; The document's Fits; What is seen of a value: the document's Edge, Coarse, Erase, Seen; How what is seen of values is written: Compact; the document's open, end, Text; How what is seen of values is written: the document's Text; what is seen may be written; What is seen of a value: the program's look, sees, coarsely, edge, coarse; Paths of a value: plain; tree.steps; Where steps lead in a value, and that value with another one there: plain; Rules for the evaluator: calls that hand back fresh rows; Rules for the evaluator: elements of rows whose cells nobody else knows, read and written whole; tree: slices.Index of steps, kid, clone, Get; tree.write, Raw; Written values: well formed; the document's Same on the same value; its Raw; The document's Kid, Get, Set of a value that fits; The document's Same of values, Set; ref25.Paths; The document's rows of an audit; All rows of an audit, by the document; the law's bounds; Alike, differ: the document's; What is seen of a value: the program's erase, Erase, Hidden; Which values may be what is seen of one: shell, May, outer, plain, the document's May; Which values may be what is seen of one: the program's fits, Fits, the document's Fits, Seeable; The law of what may be seen; What is seen may be written; the example of chapter 33; the laws of Leaf and Compact; The example of chapter 33; the laws of Leaf and Compact: the calls return true; The law of Compact: the call returns true. No condition. -/
import Derived.OpenShut
import Derived.Test.YtfifjddnnmfeoaaGreatMm2
import Derived.Test.YtfifjddnnmfeoaaGreatMm3
import Derived.Test.YtfifjddnnmfeoaaGreatMm4
import Derived.Test.YtfifjddnnmfeoaaGreatMm5
import Derived.Test.YtfifjddnnmfeoaaGreatMm6
set_option linter.all false
set_option maxRecDepth 100000
namespace Go.Proofs.YtfifjddnnmfeoaaGreat
open Go Go.RowKit Dv Tryz
namespace Dv
section
variable {X:Ctx} {st:St} {k:List It}
theorem Q6 {o:Oper} {t d e:Nat} {x:Operand} {es:List (List DV)} {tk:Option Nat} {n et e' jo:Nat} {bb:Bool} {z:List Value} (kJ:∃ t',o.op = .binOp .neq t x (.const (.slice none 0 0)) t') (gw:o.dst=some d) (hx:rv st [] x=some (.sl e es tk)) (aR:es ≠ []) (hT:X.T.find t=some ⟨n,bb,.sl et e' jo,z⟩) (hd:eT X.nt st.sl (some d)=true)
  (hk:go X 4000 k ⟨(d,⟨[],.v (.bool true)⟩) :: st.sl,st.bx,st.tk⟩):Ht X o k st:=by
 intro E a w h;obtain ⟨t',kJ⟩:=kJ;have e1:=aO h.rl hx;unfold Rv at e1;obtain ⟨b,m,cap,e1,⟨rfl,_⟩,hr,_⟩:=e1;obtain ⟨hu,_⟩:=ef X.hT hT;have aH:=uK hu b es.length cap w;have hb:b.isNone=false:=by rw [lJ (hr aR).1];all_goals rfl
 have bW:(execOp a.eval o).run X.P w = .ok (.value (.bool true)) w:=by
  have hc:a.eval (.const (.slice none 0 0)) = .slice none 0 0:=rfl;rw [hb] at aH;simp [execOp,kJ,e1,hc,eqGuard,binOp,aH]
 refine gO bW ?_;rw [gw];exact go_sound 4000 _ _ hk E _ w (aT h hd (.v (.bool true)) _ (by unfold Rv;exact ⟨rfl,rfl⟩))
theorem Nf {o:Oper} {t d et e' jo n:Nat} {x:Operand} {bb:Bool} {z:List Value} (kJ:∃ t',o.op = .binOp .neq t x (.const (.slice none 0 0)) t') (gw:o.dst=some d) (hx:rv st [] x=some (.v (.slice none 0 0))) (hT:X.T.find t=some ⟨n,bb,.sl et e' jo,z⟩) (hd:eT X.nt st.sl (some d)=true)
  (hk:go X 4000 k ⟨(d,⟨[],.v (.bool false)⟩) :: st.sl,st.bx,st.tk⟩):Ht X o k st:=by
 intro E a w h;obtain ⟨t',kJ⟩:=kJ;have e1:=aO h.rl hx;unfold Rv at e1;obtain ⟨hu,_⟩:=ef X.hT hT;have aH:=uK hu none 0 0 w
 have bW:(execOp a.eval o).run X.P w = .ok (.value (.bool false)) w:=by
  have hc:a.eval (.const (.slice none 0 0)) = .slice none 0 0:=rfl;simp [execOp,kJ,e1.1,hc,eqGuard,binOp,aH]
 refine gO bW ?_;rw [gw];exact go_sound 4000 _ _ hk E _ w (aT h hd (.v (.bool false)) _ (by unfold Rv;exact ⟨rfl,rfl⟩))
end
end Dv
theorem zQ (v:Val):EvP Tryz.prog 139 [.agg (bV v)] (.v (.bool (decide (v.k < 5) || decide (8 < v.k)))):=by
 obtain ⟨k,n,s,ks⟩:=v;refine ev_go (P:=Tryz.prog) tt tt_ok 5000 11 [.tmp 2] Tryz.func139 rfl Tryz.ntmps139 rfl (nL rfl) (fun E9 w9 hn9 hm9=>?_);refine (congrArg (fun b=>DV.v (.bool b)) ?_:_=_);simp only [aj,Val.k];rfl
section
variable {d:Nd} {v:Val}
theorem opn_1 (h:v.k=1) (g:v.n=1):ee d v=[116,114,117,101]:=by rw [ee,if_pos h,if_pos g]
theorem Fg (h:v.k=1) (g:¬ v.n=1):ee d v=[102,97,108,115,101]:=by rw [ee,if_pos h,if_neg g]
theorem opn_4 {x:ByteArray} (h:v.k=4) (g:d.af[v.n.toNat]? = some x):ee d v=tx x:=by rw [ee,if_neg (by omega),if_pos h,g]
theorem opn_5 (h:v.k=5):ee d v=[91]:=by rw [ee,if_neg (by omega),if_neg (by omega),if_pos h]
theorem opn_6 (h:v.k=6):ee d v=if v.ks=[] then [110,111,110,101] else [115,111,109,101,40]:=by rw [ee,if_neg (by omega),if_neg (by omega),if_neg (by omega),if_pos h]
theorem Fh (h:v.k=6) (g:v.ks=[]):ee d v=[110,111,110,101]:=by rw [opn_6 h,if_pos g]
theorem Fi (h:v.k=6) (g:v.ks ≠ []):ee d v=[115,111,109,101,40]:=by rw [opn_6 h,if_neg g]
theorem opn_7 (h:v.k=7):ee d v=[123]:=by rw [ee,if_neg (by omega),if_neg (by omega),if_neg (by omega),if_neg (by omega),if_pos h]
theorem opn_8 {e:Ed} (h:v.k=8) (g:d.au[v.n.toNat]? = some e):ee d v=if v.ks=[] then tx e.name else tx e.name ++ [40]:=by
 rw [ee,if_neg (by omega),if_neg (by omega),if_neg (by omega),if_neg (by omega),if_neg (by omega),if_pos h,nmE,g]
theorem Fj {e:Ed} (h:v.k=8) (g:d.au[v.n.toNat]? = some e) (c:v.ks=[]):ee d v=tx e.name:=by rw [opn_8 h g,if_pos c]
theorem Fk {e:Ed} (h:v.k=8) (g:d.au[v.n.toNat]? = some e) (c:v.ks ≠ []):ee d v=tx e.name ++ [40]:=by rw [opn_8 h g,if_neg c]
theorem yf (h:v.k≠1/\v.k≠4/\v.k≠5/\v.k≠6/\v.k≠7/\v.k≠8):ee d v=dw v:=by
 rw [ee,if_neg h.1,if_neg h.2.1,if_neg h.2.2.1,if_neg h.2.2.2.1,if_neg h.2.2.2.2.1,if_neg h.2.2.2.2.2]
theorem end_5 (h:v.k=5):jY v=[93]:=by rw [jY,if_pos h]
theorem end_7 (h:v.k=7):jY v=[125]:=by rw [jY,if_neg (by omega),if_pos h]
theorem Q7 (h:v.k≠5/\v.k≠7):jY v=if v.ks=[] then [] else [41]:=by rw [jY,if_neg h.1,if_neg h.2]
theorem Hg (h:v.k≠5/\v.k≠7) (g:v.ks=[]):jY v=[]:=by rw [Q7 h,if_pos g]
theorem Q8 (h:v.k≠5/\v.k≠7) (g:v.ks ≠ []):jY v=[41]:=by rw [Q7 h,if_neg g]
end
theorem CK (d:Nd) (v:Val) (hs:v.s.size<=1099511627776) (hn:tW v.n) (hk:v.k<=4∨9<=v.k) (h4:v.k=4->0<=v.n/\v.n < d.af.length) :
  EvP Tryz.prog 140 [.agg (jG d),.agg (bV v)] (.v (.string (ba (ee d v)))):=by
 have hl:=CI v hs hn;have o1:=@opn_1 d v;have o2:=@Fg d v;have o3:=fun x=>@opn_4 d v x;have o4:=@yf d v;generalize ee d v=O at *;generalize dw v=S at *;generalize bM v=B at *;obtain ⟨ag,aC,lo,hi,most,af,es⟩:=d;obtain ⟨k,n,s,ks⟩:=v;simp only [Val.k,Val.n] at *;refine ev_go (P:=Tryz.prog) tt tt_ok 5000 28 [.tmp 4] Tryz.func140 rfl Tryz.ntmps140 rfl (nL rfl) (fun E9 w9 hn9 hm9=>?_);refine br (fun c=>?_) (fun c=>?_)
 ·have c:k=1:=by simpa using c
  refine br (fun g=>?_) (fun g=>?_)
  ·rw [o1 c (by simpa using g)];exact (rfl:_=_)
  ·rw [o2 c (by simpa using g)];exact (rfl:_=_)
 have c1:¬ k=1:=by simpa using c
 refine br (fun c=>?_) (fun c=>?_)
 ·have c4:k=4:=by simpa using c
  obtain ⟨h0,h1⟩:=h4 c4;obtain ⟨x,hx⟩:∃ x,af[n.toNat]? = some x:=⟨_,gE (by omega)⟩;rw [o3 x c4 hx];refine ⟨_,⟨by omega,eK hx⟩,?_⟩;exact congrArg (fun q=>DV.v (.string q)) (nq x).symm
 have c4:¬ k=4:=by simpa using c
 rw [o4 (by omega)];refine call_p ZO (hl) ax rfl ?_;exact (rfl:_=_)
def tosL (d:Nd) (v:Val) (m:Nat):List Int:=(List.range m).map fun j=>match cP d v.n j with | some e=>e.to | none=>0
theorem Ng (d:Nd) (v:Val) (m:Nat):(tosL d v m).length=m:=by simp [tosL]
theorem Nh {d:Nd} {v:Val} {m j:Nat} {e:Ed} (h:cP d v.n j=some e) (hj:j < m):(tosL d v m)[j]? = some e.to:=by
 simp [tosL,hj,h]
theorem Jc {d:Nd} {v:Val} {m:Nat} {e:Ed} (h:cP d v.n m=some e):tosL d v (m + 1)=tosL d v m ++ [e.to]:=by
 simp [tosL,List.range_succ,h]
def CL (d:Nd) (m:Nat):List (List UInt8):=(d.au.take m).map fun e=>tx e.name ++ [58,32]
theorem Ni {d:Nd} {m:Nat} {e:Ed} (h:d.au[m]? = some e):CL d (m + 1)=CL d m ++ [tx e.name ++ [58,32]]:=by
 simp [CL,List.take_add_one,h]
def Jd (d:Nd):DV:=if d.ag=7 then .sl 1 (lm (CL d d.au.length)) none else .v (.slice none 0 0)
abbrev zF:List DV:=[.v (.string ap),.v (.string ap),.v (.slice none 0 0)]
abbrev Fl (d:Nd) (v:Val) (l:List Int) (q e:Nat):St:=
 ⟨[(2,⟨[],.loc 0 0⟩),(3,⟨[],.loc 1 0⟩),(4,⟨[],.loc 2 0⟩),(6,⟨[],.loc 3 0⟩),(7,⟨[],.sl 1 (nd l) (some 0)⟩),(14,⟨[],.v (.int .i64 (dVals v.ks).length)⟩),(15,⟨[],.v (.int .i64 e)⟩)],[jG d,bV v,zF,zF],[⟨q,3,1,none⟩]⟩
abbrev Nj (d:Nd) (v:Val) (l:List Int) (q u:Nat):St:=
 ⟨[(2,⟨[],.loc 0 0⟩),(3,⟨[],.loc 1 0⟩),(4,⟨[],.loc 2 0⟩),(6,⟨[],.loc 3 0⟩),(7,⟨[],.sl 1 (nd l) (some 0)⟩),(54,⟨[],.sl 10 (e9 d.au) none⟩),(55,⟨[],.v (.int .i64 (e9 d.au).length)⟩),(56,⟨[],.v (.int .i64 u)⟩)],
  [jG d,bV v,zF,[.v (.string (ba [123])),.v (.string (ba [125])),.sl 1 (lm (CL d u)) (some 1)]],[⟨q,3,1,none⟩,⟨u,9,1,none⟩]⟩
theorem Hh (d:Nd) (m:Nat) (h:m<=d.au.length):(CL d m).length=m:=by simp [CL];omega
theorem Fm (x:ByteArray) (l:List UInt8):x ++ ba l=ba (tx x ++ l):=(congrArg (·++ ba l) (nq x)).symm.trans (bU (tx x) l)
theorem Je {L N:Nat} {d:Nd} (hN:dE L N d) (h5:5<=d.ag) (v:Val) (hv:v.wt<=1099511627776) (hk:v.k=d.ag) (Uk:∀ m,m < v.ks.length->∃ e,cP d v.n m=some e) (h8:d.ag=8->0<=v.n/\v.n < d.au.length) :
  EvP Tryz.prog 141 [.agg (jG d),.agg (bV v)] (.tup [.agg [.v (.string (ba (ee d v))),.v (.string (ba (jY v))),Jd d],.sl 1 (nd (tosL d v v.ks.length)) none]):=by
 have Ha:=hN.k8;have rO:=hN.many;have o5:=@opn_5 d v;have o6n:=@Fh d v;have o6s:=@Fi d v;have o7:=@opn_7 d v;have o8n:=fun e=>@Fj d v e;have o8s:=fun e=>@Fk d v e;have e5:=@end_5 v;have e7:=@end_7 v;have en:=@Hg v;have Y2:=@Q8 v;have hn7:d.ag=7->Jd d = .sl 1 (lm (CL d d.au.length)) none:=fun h=>by rw [Jd,if_pos h]
 have hnn:d.ag≠7->Jd d = .v (.slice none 0 0):=fun h=>by rw [Jd,if_neg h]
 have hts:=fun m e=>@Jc d v m e;have eM:=Ng d v;have sC:=fun m e=>@Ni d m e;have gj:=Hh d
 have hed1:∀ m e,cP d v.n m=some e->d.au[(if d.ag=7 then (m:Int) else if d.ag=8 then v.n else 0).toNat]? = some e:=fun m e h=>by
  unfold cP at h;split at h
  ·rename_i c;rw [if_pos c];exact h
  ·rename_i c;rw [if_neg c];split at h
   ·rename_i c8;rw [if_pos c8];exact h
   ·rename_i c8;rw [if_neg c8];exact h
 have j1:=cy d.au;generalize ee d v=O at *;generalize jY v=Z at *;generalize Jd d=ND at *;have ht0:tosL d v 0=[]:=rfl;have jr:CL d 0=[]:=rfl;generalize tosL d v=T at *;generalize Pw:CL d=NM at *;have Jf:d.ag=7∨d.ag=8->∀ e∈d.au,e.name.size<=32:=fun h e he=>gK ((rO h).2.2.2 e he);obtain ⟨ag,aC,lo,hi,most,af,es⟩:=d;obtain ⟨k,n,s,ks⟩:=v;have cR:=ch ks;have iP:=eJ ks;rw [Val.wt] at hv;simp only [Val.k,Val.n,Val.ks] at *;subst hk;refine ev_go (P:=Tryz.prog) tt tt_ok 5000 90 [.cell 4 238,.tmp 5] Tryz.func141 rfl Tryz.ntmps141 rfl (nL rfl) (fun E9 w9 hn9 hm9=>?_);refine aq (fun j st=>∃ e:Nat,st=Fl ⟨k,aC,lo,hi,most,af,es⟩ (.mk k n s ks) (T e) e e/\e<=ks.length/\j=ks.length - e) ks.length (Fl ⟨k,aC,lo,hi,most,af,es⟩ (.mk k n s ks) [] 0 0) (dO 4 ⟨0,3,1,none⟩ rfl rfl rfl (by repeat' (first | exact rfl | exact ah rfl | exact bm (Nat.le_refl _) rfl | exact bm (Nat.le_refl _) rfl | refine ⟨_,_,rfl,?_,?_⟩)) rfl rfl Ah) ⟨0,by rw [ht0],by omega,by omega⟩ ?_;rintro _ st ⟨e,rfl,he,rfl⟩;refine br (fun hL=>?_) (fun hL=>?_)
 ·have al:e < ks.length:=by simpa [cR,Val.ks] using hL
  obtain ⟨ed,vx⟩:=Uk e al;have ta:=hed1 e ed vx;have gR:nd (T e) ++ [[DV.v (.int .i64 ed.to)]]=nd (T (e + 1)):=by rw [hts e ed vx,pJ]
  have zR:(nd (T e)).length=e:=by rw [jK,eM]
  have jd:∃ j',j' < ks.length - e/\∃ e':Nat,Fl ⟨k,aC,lo,hi,most,af,es⟩ (.mk k n s ks) (T (e + 1)) (e + 1) (e + 1)=Fl ⟨k,aC,lo,hi,most,af,es⟩ (.mk k n s ks) (T e') e' e' /\ e' <= ks.length/\j'=ks.length - e':=⟨ks.length - (e + 1),by omega,e + 1,rfl,by omega,rfl⟩;have Dq:=(gS ta).1;refine br (fun c=>?_) (fun c=>?_)
  ·have c:k=7:=by simpa using c
   rw [if_pos c] at ta Dq;refine ⟨_,⟨by omega,bA ta⟩,?_⟩;refine ⟨zR,⟨by rw [zR];simp [maxLen];omega,by rw [zR];simp;omega⟩,?_⟩;obtain ⟨j',h1,h2⟩:=jd;exact ⟨Fl ⟨k,aC,lo,hi,most,af,es⟩ (.mk k n s ks) (T (e + 1)) (e + 1) (e + 1),(ay 4 rfl (F1 al gR) rfl rfl rfl (yF al gR)),j',h1,h2⟩
  ·have c7:¬ k=7:=by simpa using c
   rw [if_neg c7] at ta Dq;refine br (fun c=>?_) (fun c=>?_)
   ·have c:k=8:=by simpa using c
    have h8:=h8 c;rw [if_pos c] at ta Dq;refine ⟨_,⟨by omega,bA ta⟩,?_⟩;refine ⟨zR,⟨by rw [zR];simp [maxLen];omega,by rw [zR];simp;omega⟩,?_⟩;obtain ⟨j',h1,h2⟩:=jd;exact ⟨Fl ⟨k,aC,lo,hi,most,af,es⟩ (.mk k n s ks) (T (e + 1)) (e + 1) (e + 1),(ay 4 rfl (F1 al gR) rfl rfl rfl (yF al gR)),j',h1,h2⟩
   ·have c8:¬ k=8:=by simpa using c
    rw [if_neg c8] at ta Dq;refine ⟨_,⟨by simp at Dq;omega,bA ta⟩,?_⟩;refine ⟨zR,⟨by rw [zR];simp [maxLen];omega,by rw [zR];simp;omega⟩,?_⟩;obtain ⟨j',h1,h2⟩:=jd;exact ⟨Fl ⟨k,aC,lo,hi,most,af,es⟩ (.mk k n s ks) (T (e + 1)) (e + 1) (e + 1),(ay 4 rfl (F1 al gR) rfl rfl rfl (yF al gR)),j',h1,h2⟩
 have aN:e=ks.length:=by
  have:=hL;simp [cR,Val.ks] at this;omega
 subst aN;refine br (fun c=>?_) (fun c=>?_)
 ·have c:k=5:=by simpa using c
  rw [hnn (by omega),o5 c,e5 c];exact ⟨_,ax,rfl⟩
 have c5:¬ k=5:=by simpa using c
 refine br (fun c=>?_) (fun c=>?_)
 ·have c:k=6:=by simpa using c
  rw [hnn (by omega)];refine br (fun g=>?_) (fun g=>?_)
  ·have g:ks ≠ []:=by rintro rfl;simp [cR] at g
   rw [o6s c g,Y2 (by omega) g];exact ⟨_,ax,rfl⟩
  ·have g:ks=[]:=by simpa [cR] using g
   rw [o6n c g,en (by omega) g];exact ⟨_,ax,rfl⟩
 have c6:¬ k=6:=by simpa using c
 refine br (fun c=>?_) (fun c=>?_)
 ·have c:k=7:=by simpa using c
  rw [hn7 c,o7 c,e7 c];have jq:=(rO (.inl c)).1;subst Pw;refine aq (fun j st=>∃ u:Nat,st=Nj ⟨k,aC,lo,hi,most,af,es⟩ (.mk k n s ks) (T ks.length) ks.length u/\u<=es.length/\j=es.length - u) es.length (Nj ⟨k,aC,lo,hi,most,af,es⟩ (.mk k n s ks) (T ks.length) ks.length 0) (dO 4 ⟨0,9,1,none⟩ rfl rfl rfl (by repeat' (first | exact rfl | exact ah rfl | exact bm (Nat.le_refl _) rfl | exact bm (Nat.le_refl _) rfl | refine ⟨_,_,rfl,?_,?_⟩)) rfl rfl Ah) ⟨0,rfl,by omega,by omega⟩ ?_;rintro _ st ⟨u,rfl,hu,rfl⟩;refine br (fun hL=>?_) (fun hL=>?_)
  ·have al:u < es.length:=by simpa [j1] using hL
   obtain ⟨x,hx⟩:∃ x,es[u]? = some x:=⟨_,gE al⟩;have wM:=Jf (.inl c) x (mG hx);have dI:(lm (CL ⟨k,aC,lo,hi,most,af,es⟩ u)).length=u:=by rw [H6,gj u (by omega)]
   have gR:lm (CL ⟨k,aC,lo,hi,most,af,es⟩ u) ++ [[DV.v (.string (x.name ++ ba [58,32]))]]=lm (CL ⟨k,aC,lo,hi,most,af,es⟩ (u + 1)):=by
    rw [sC u x hx];simp only [lm,List.map_append,List.map_cons,List.map_nil];exact congrArg (fun q=>_ ++ [[DV.v (.string q)]]) (Fm _ _)
   refine ⟨_,⟨by omega,bA hx⟩,?_⟩;refine ⟨by show x.name.size + 2<=_;omega,?_⟩;refine ⟨dI,⟨by rw [dI];simp [maxLen];omega,by rw [dI];simp;omega⟩,?_⟩;exact ⟨Nj ⟨k,aC,lo,hi,most,af,es⟩ (.mk k n s ks) (T ks.length) ks.length (u + 1),(ay 4 rfl (F1 al gR) rfl rfl rfl (yF al gR)),es.length - (u + 1),by omega,u + 1,rfl,by omega,rfl⟩
  ·have aN:u=es.length:=by
    have:=hL;simp [j1] at this;omega
   subst aN;exact ⟨_,ax,rfl⟩
 have c7:¬ k=7:=by simpa using c
 have c8:k=8:=by omega
 refine br (fun _=>?_) (fun g=>absurd c8 (by simpa using g));have h8:=h8 c8;obtain ⟨x,hx⟩:∃ x,es[n.toNat]? = some x:=⟨_,gE (by omega)⟩;have wM:=Jf (.inr c8) x (mG hx);rw [hnn (by omega)];refine ⟨_,⟨by omega,bA hx⟩,?_⟩;refine br (fun g=>?_) (fun g=>?_)
 ·have g:ks ≠ []:=by rintro rfl;simp [cR] at g
  rw [o8s x c8 hx g,Y2 (by omega) g,<- Fm];refine ⟨by show x.name.size + 1<=_;omega,?_⟩;exact ⟨_,ax,rfl⟩
 ·have g:ks=[]:=by simpa [cR] using g
  rw [o8n x c8 hx g,en (by omega) g,nq];exact ⟨_,ax,rfl⟩
mutual
def rngW:Val->Prop
 | .mk k n _ ks=>tW k/\tW n/\rngWs ks
def rngWs:List Val->Prop
 | []=>True
 | v :: r=>rngW v/\rngWs r
end
theorem km:∀ {l:List Val} {x:Val},rngWs l->x∈l->rngW x
 | v :: r,x,h,hm=>by
  rw [rngWs] at h;rcases List.mem_cons.1 hm with rfl | hm
  ·exact h.1
  ·exact km h.2 hm
theorem Fo {v:Val} (h:rngW v) : -9223372036854775808<=v.n/\v.n<=9223372036854775807:=by
 obtain ⟨k,n,s,ks⟩:=v;rw [rngW] at h;exact h.2.1
theorem Hi {v:Val} (h:rngW v):rngWs v.ks:=by
 obtain ⟨k,n,s,ks⟩:=v;rw [rngW] at h;exact h.2.2
theorem Hj {m:Nat} (ih:∀ k,k<=m->∀ ds,Typ Tryz.prog k 45 ds->∃ v:Val,ds=bV v/\rngW v/\v.wt<=wgL ds) :
  ∀ {es:List (List DV)},(∀ cs∈es,Typ Tryz.prog m 45 cs)->∃ l:List Val,es=dVals l/\rngWs l/\dZ l<=wgEs es
 | [],h=>⟨[],rfl,by simp [rngWs],by simp [dZ]⟩
 | cs :: r,h=>by
  obtain ⟨l,rfl,hr,hl⟩:=Hj ih (es:=r) (fun c hc=>h c (List.mem_cons_of_mem _ hc));obtain ⟨v,rfl,ko,hv⟩:=ih m (Nat.le_refl _) cs (h cs (by simp));exact ⟨v :: l,rfl,by rw [rngWs];exact ⟨ko,hr⟩,by simp only [dZ,wgEs];omega⟩
theorem typ_valr:∀ (n:Nat) (ds:List DV),Typ Tryz.prog n 45 ds->∃ v:Val,ds=bV v/\rngW v/\v.wt<=wgL ds:=by
 intro n
 induction n using Nat.strongRecOn with
 | _ n ih=>
  intro ds h;obtain ⟨m,rfl,hf⟩:=lV Tryz.underlying45 h;obtain ⟨a1,b1,rfl,h1,a2,b2,rfl,h2,a3,b3,rfl,h3,a4,b4,rfl,h4,rfl⟩:=hf;obtain ⟨k,rfl,r1⟩:=lW h1;obtain ⟨z,rfl,r2⟩:=lW h2;obtain ⟨s,rfl⟩:=Gu Tryz.underlying9 h3;obtain ⟨j,es,rfl,rfl,jq⟩:=tY Tryz.underlying43 h4;obtain ⟨l,rfl,r3,wl⟩:=Hj (fun i hi=>ih i (by omega)) jq;rw [Cg];refine ⟨.mk k z s l,rfl,by rw [rngW];exact ⟨r1,r2,r3⟩,?_⟩;simp only [Val.wt,eF,wgL,wgD] at *;omega
namespace Dv
end Dv
section
variable {ND:List Nd}
theorem pK {v:Val} {i:Int} (h:lA ND v i=true):∃ d,dq ND i=some d/\((9<=v.k/\bM v=true/\v.ks=[])∨(v.k=d.ag/\d.ag < 5/\v.ks=[]/\(v.k=4->0<=v.n/\v.n < d.af.length))∨(v.k=d.ag/\5<=d.ag/\shellF d v=true/\gn ND v.ks d v.n 0=true)):=by
 obtain ⟨k,n,s,ks⟩:=v;unfold lA at h
 cases hd:dq ND i with
 | none=>rw [hd] at h;cases h
 | some d=>
  rw [hd] at h;refine ⟨d,rfl,?_⟩;simp only at h;split at h
  ·rename_i c;rw [Bool.and_eq_true,decide_eq_true_iff] at h;exact .inl ⟨c,h.1,h.2⟩
  ·split at h
   ·cases h
   ·rename_i c;have c:k=d.ag:=Decidable.not_not.1 c;split at h
    ·rename_i c5;rw [Bool.and_eq_true,Bool.or_eq_true,decide_eq_true_iff,decide_eq_true_iff,decide_eq_true_iff] at h;exact .inr (.inl ⟨c,c5,h.1,fun c4=>h.2.resolve_left (fun g=>g c4)⟩)
    ·rename_i c5;rw [Bool.and_eq_true] at h;exact .inr (.inr ⟨c,by omega,h.1,h.2⟩)
theorem shell_8 {d:Nd} {v:Val} (h:shellF d v=true) (h8:d.ag=8):0<=v.n/\v.n < d.au.length:=by
 unfold shellF at h;split at h
 ·cases h
 rw [if_neg (by omega),if_neg (by omega),if_neg (by omega)] at h;split at h
 ·cases h
 ·omega
theorem vy {d:Nd} {z:Int} {j:Nat} {e:Ed} (h:cP d z j=some e):e∈d.au:=by
 unfold cP at h;split at h
 ·exact mG h
 ·split at h<;>exact mG h
theorem Px (n:Nat):jR n ≠ []:=by
 by_cases h:n < 10
 ·rw [kO h];simp
 ·rw [oP h];simp
theorem Py (z:Int):ir z ≠ []:=by
 unfold ir;split
 ·simp
 ·exact Px _
theorem CM {v:Val} (h:bM v=true):dw v ≠ []:=by
 rw [dw,if_pos h];unfold nA
 repeat' split
 all_goals (first | exact Py _ | simp [n8])
theorem yg {v:Val} (hn:tW v.n) (h:bM v=true):(dw v).length<=88 + 12 * v.s.size:=by
 rw [dw,if_pos h];exact Ja hn h
theorem sS {L N:Nat} {d:Nd} {v:Val} (hN:dE L N d) (hn:tW v.n) (h:(9<=v.k/\bM v=true/\v.ks=[])∨(v.k=d.ag/\d.ag < 5/\v.ks=[]/\(v.k=4->0<=v.n/\v.n < d.af.length))∨(v.k=d.ag/\5<=d.ag/\shellF d v=true/\gn ND v.ks d v.n 0=true)) :
  ee d v ≠ []/\(ee d v).length<=88 + 12 * v.s.size:=by
 have ni:=hN.k1;have Ha:=hN.k8;rcases h with ⟨h9,hb,_⟩ | ⟨hk,h5,_,h4⟩ | ⟨hk,h5,hs,_⟩
 ·rw [yf (by omega)];exact ⟨CM hb,yg hn hb⟩
 ·by_cases c1:v.k=1
  ·by_cases c:v.n=1
   ·rw [opn_1 c1 c];simp;omega
   ·rw [Fg c1 c];simp;omega
  by_cases c4:v.k=4
  ·obtain ⟨g0,g1⟩:=h4 c4;obtain ⟨x,hx⟩:∃ x,d.af[v.n.toNat]? = some x:=⟨_,gE (by omega)⟩;have bE:=(hN.af (by omega)).2.2.2 x (mG hx);have Iy:=gK bE;have jM:0 < x.size:=by simp [aU] at bE;exact bE.1
   rw [opn_4 c4 hx];refine ⟨fun e=>?_,by rw [bh];omega⟩;have:=congrArg List.length e;rw [bh,List.length_nil] at this;omega
  ·rw [yf (by omega)]
   have hb:bM v=true:=by
    have:v.k=2∨v.k=3:=by omega
    rcases this with c | c<;>simp [bM,c]
   exact ⟨CM hb,yg hn hb⟩
 ·have:v.k=5∨v.k=6∨v.k=7∨v.k=8:=by omega
  rcases this with c | c | c | c
  ·rw [opn_5 c];simp;omega
  ·by_cases g:v.ks=[]
   ·rw [Fh c g];simp;omega
   ·rw [Fi c g];simp;omega
  ·rw [opn_7 c];simp;omega
  ·obtain ⟨g0,g1⟩:=shell_8 hs (by omega);obtain ⟨x,hx⟩:∃ x,d.au[v.n.toNat]? = some x:=⟨_,gE (by omega)⟩;have bE:=(hN.many (.inr (by omega))).2.2.2 x (mG hx);have Iy:=gK bE;have jM:0 < x.name.size:=by simp [aU] at bE;exact bE.1
   have hl:=bh x.name;by_cases g:v.ks=[]
   ·rw [Fj c hx g];refine ⟨fun e=>?_,by omega⟩;rw [e,List.length_nil] at hl;omega
   ·rw [Fk c hx g];exact ⟨by simp,by rw [List.length_append,hl];simp;omega⟩
theorem zS (v:Val):(jY v).length<=1:=by
 unfold jY
 repeat' split
 all_goals simp
end
section
variable {ND:List Nd} {L:Nat}
mutual
theorem mW (bE:∀ d∈ND,dE L ND.length d):∀ (v:Val) (i:Int),rngW v->lA ND v i=true->(textV ND v i).length + 36<=50 * v.wt
 | .mk k n s ks,i,hr,hw=>by
  obtain ⟨d,hd,hc⟩:=pK hw;have hN:=bE d (mG (du hd).2);rw [rngW] at hr;have h1:=(sS (v:=.mk k n s ks) hN hr.2.1 hc).2;have h2:=zS (.mk k n s ks);have hs:(Val.mk k n s ks).s=s:=rfl;rw [hs] at h1;rw [textV,hd,Val.wt];simp only [List.length_append];rcases hc with ⟨_,_,h0⟩ | ⟨_,_,h0,_⟩ | ⟨_,h5,_,h0⟩
  ·have h0:ks=[]:=h0;subst h0;rw [textVs,dZ];simp only [List.length_nil];omega
  ·have h0:ks=[]:=h0;subst h0;rw [textVs,dZ];simp only [List.length_nil];omega
  ·have:=lh bE ks d n 0 hN h5 hr.2.2 h0;omega
theorem lh (bE:∀ d∈ND,dE L ND.length d):∀ (l:List Val) (d:Nd) (z:Int) (j:Nat),dE L ND.length d->5<=d.ag->rngWs l->gn ND l d z j=true->(textVs ND l d z j).length<=50 * dZ l
 | [],d,z,j,_,_,_,_=>by rw [textVs];exact Nat.zero_le _
 | x :: r,d,z,j,hN,h5,hr,hw=>by
  rw [gn,Bool.and_eq_true] at hw;rw [rngWs] at hr;rw [textVs,dZ]
  cases he:cP d z j with
  | none=>rw [he] at hw;exact absurd hw.1 (by simp)
  | some e=>
   rw [he] at hw;have h1:=mW bE x e.to hr.1 hw.1;have h2:=lh bE r d z (j + 1) hN h5 hr.2 hw.2
   have h3:(if d.ag=7 then tx e.name ++ [58,32] else []).length<=34:=by
    split
    ·rename_i c;have:=gK ((hN.many (.inl c)).2.2.2 e (vy he));rw [List.length_append,bh];simp;omega
    ·simp
   have h4:(if j=0 then [] else [44,32]:List UInt8).length<=2:=by split<;>simp
   simp only [List.length_append];omega
end
theorem rc:∀ {ks:List Val} {e:Nat} {x:Val},ks[e]? = some x->dZ (ks.take e) + x.wt<=dZ ks
 | [],e,x,h=>by simp at h
 | y :: r,e,x,h=>by
  cases e with
  | zero=>
   simp only [List.getElem?_cons_zero,oI] at h;subst h;rw [List.take_zero,dZ,dZ];omega
  | succ e=>
   have:=rc (ks:=r) (e:=e) (x:=x) (by simpa using h);rw [List.take_succ_cons,dZ,dZ];omega
theorem zT:∀ (ks:List Val) (e:Nat),dZ (ks.take e)<=dZ ks
 | [],e=>by rw [List.take_nil];exact Nat.le_refl _
 | y :: r,0=>by rw [List.take_zero,dZ];exact Nat.zero_le _
 | y :: r,e + 1=>by
  have:=zT r e;rw [List.take_succ_cons,dZ,dZ];omega
theorem vz:∀ {ks:List Val} {d:Nd} {z:Int} {j:Nat} (e:Nat),gn ND ks d z j=true->gn ND (ks.take e) d z j=true
 | [],_,_,_,e,h=>by rw [List.take_nil];exact h
 | y :: r,_,_,_,0,h=>by rw [List.take_zero,gn]
 | y :: r,d,z,j,e + 1,h=>by
  rw [gn,Bool.and_eq_true] at h;rw [List.take_succ_cons,gn,Bool.and_eq_true];exact ⟨h.1,vz e h.2⟩
theorem vA:∀ {ks:List Val} (e:Nat),rngWs ks->rngWs (ks.take e)
 | [],e,h=>by rw [List.take_nil];exact h
 | y :: r,0,h=>by rw [List.take_zero,rngWs];trivial
 | y :: r,e + 1,h=>by
  rw [rngWs] at h;rw [List.take_succ_cons,rngWs];exact ⟨h.1,vA e h.2⟩
end
abbrev bO (p:DV) (l:List UInt8):List DV:=[p,.sl 1 (bD l) (some 0)]
abbrev bT (l:List UInt8):List TkE:=[⟨l.length,5,1,none⟩]
def Tr (y:Val) (l:List UInt8) (r:DV) (os:List (List DV)) (cD:List TkE):Prop:=r = .tup []/\os=[bV y,bO (.loc 1 0) l]/\cD=bT l
abbrev yh (y:Val) (PC:List DV) (d:Nd) (v:Val) (O Z:List UInt8) (NM:DV) (T:List Int) (L:List UInt8) (e:Nat):St:=
 ⟨[(0,⟨[],.loc 1 0⟩),(1,⟨[],.pt PC 0⟩),(10,⟨[],.loc 4 0⟩),(11,⟨[],.sl 1 (nd T) none⟩),(38,⟨[],.sl 4 (dVals v.ks) none⟩),(39,⟨[],.v (.int .i64 (dVals v.ks).length)⟩),(40,⟨[],.v (.int .i64 e)⟩)],
  [bV y,bO (.loc 1 0) L,bV v,jG d,[.v (.string (ba O)),.v (.string (ba Z)),NM]],bT L⟩
theorem pL {S:Sch} {ND:List Nd} {PC:List DV} (hP:ln S ND PC) (y:Val):∀ (k:Nat) (v:Val),v.wt<=k->v.wt<=1099511627776->rngW v->∀ i:Int,lA ND v i=true->∀ (l:List UInt8) (p:DV),p = .v (.pointer none)∨p = .loc 1 0->l.length + 50 * v.wt<=140737488355328 ->
  UK false Tryz.prog 79 [.loc 1 0,.pt PC 0,.v (.int .i64 i),.agg (bV v)] [bV y,bO p l] (bT l) [(1,161)] (Tr y (l ++ textV ND v i))
 | 0,v,h,_=>by have:=v.dr;omega
 | k + 1,v,h,hb=>fun hr i hw l p hp hl=>by
  have ih:=pL hP y k;obtain ⟨yk,yn,ys,yl⟩:=y;obtain ⟨d,hd,hc⟩:=pK hw;obtain ⟨h0,hg⟩:=du hd;obtain ⟨j,rfl⟩:∃ j:Nat,i=j:=⟨i.toNat,by omega⟩;have hg:ND[j]? = some d:=by simpa using hg
  have hN:=hP.ok d (mG hg);have ni:=hN.k1;have Ha:=hN.k8;have gW:=hP.ai j d hg;have jt:=zQ v;obtain ⟨Y3,jN⟩:=sS hN (by obtain ⟨_,_,_,_⟩:=v;rw [rngW] at hr;exact hr.2.1) hc;have hol2:(ee d v).length + 1<=50 * (64 + v.s.size):=by omega
  have eM:=mW hP.ok v j hr hw
  have hT:textV ND v j=ee d v ++ textVs ND v.ks d v.n 0 ++ jY v:=by
   obtain ⟨q,z,s,ks⟩:=v;rw [textV,hd];rfl
  have hvw:v.wt=64 + v.s.size + dZ v.ks:=by obtain ⟨q,z,s,ks⟩:=v;rfl
  have Hk:=fun a b=>CK d v (by omega) (by obtain ⟨_,_,_,_⟩:=v;rw [rngW] at hr;exact hr.2.1) a b;by_cases c9:v.k < 5∨8 < v.k
  ·have Ul:v.ks=[]:=by
    rcases hc with h | h | h
    ·exact h.2.2
    ·exact h.2.2.1
    ·omega
   have h4:v.k=4->0<=v.n/\v.n < d.af.length:=by
    rcases hc with h | h | h
    ·omega
    ·exact h.2.2.2
    ·omega
   have Hk:=Hk (by omega) h4;have jd:jY v=[]:=Hg (by omega) Ul;rw [Ul,jd,textVs,List.append_nil,List.append_nil] at hT;rw [hT] at eM ⊢;rw [show (decide (v.k < 5) || decide (8 < v.k))=true by simpa using c9] at jt;generalize ee d v=O at *;clear hc hT;obtain ⟨q,z,s,ks⟩:=v;obtain ⟨ag,aC,lo,hi,most,af,es⟩:=d;refine yD (s:=false) (bt:=[(1,161)]) (mu:=[]) (fr:=false) (P:=Tryz.prog) tt tt_ok 5000 72 [] Tryz.func79 rfl Tryz.ntmps79 rfl (nL rfl) (fun E9 w9 hn9 hm9=>?_);refine call_p HO (gW) ax rfl ?_;refine call_p P0 (jt) ax rfl ?_;refine call_p Vx (Hk) ax rfl ?_;refine jk rfl (l ++ O) (l:=l) (kt:=0) rfl (.head _) rfl hp rfl (by simp [Y3]) (by rw [List.length_append];omega) rfl (fun n9=>?_);exact ⟨.tup [],[bV ⟨yk,yn,ys,yl⟩,bO (.loc 1 0) (l ++ O)],aL,aL,rfl,rfl,rfl⟩
  ·obtain ⟨hk,h5,JI,Am⟩:v.k=d.ag/\5<=d.ag/\shellF d v=true/\gn ND v.ks d v.n 0=true:=by
    rcases hc with h | h | h
    ·omega
    ·omega
    ·exact h
   clear Hk
   have Uk:∀ m,m < v.ks.length->∃ e,cP d v.n m=some e/\lA ND (v.ks[m]?.getD v) e.to=true:=fun m hm=>by
    obtain ⟨e,h1,h2⟩:=vv Am (gE hm);rw [Nat.zero_add] at h1;exact ⟨e,h1,by rw [gE hm];exact h2⟩
   have hof:=Je hN h5 v hb hk (fun m hm=>(Uk m hm).imp fun e h=>h.1) (fun c=>shell_8 JI c);rw [show (decide (v.k < 5) || decide (8 < v.k))=false by simp;omega] at jt;have ll:=fun e (he:e<=v.ks.length)=>lh hP.ok (v.ks.take e) d v.n 0 hN h5 (vA e (by obtain ⟨_,_,_,_⟩:=v;rw [rngW] at hr;exact hr.2.2)) (vz e Am);have N9:=zT v.ks;have j1:=zS v;have hT7:d.ag=7->Jd d = .sl 1 (lm (CL d d.au.length)) none:=fun c=>by rw [Jd,if_pos c]
   have hTn:d.ag≠7->Jd d = .v (.slice none 0 0):=fun c=>by rw [Jd,if_neg c]
   have X1:∀ (n m:Nat) (tk:List TkE),We n m tk (Jd d) (Jd d):=fun n m tk=>by
    by_cases c:d.ag=7
    ·rw [hT7 c];exact ah rfl
    ·rw [hTn c];exact ah rfl
   have htg:=fun m e h1 h2=>@Nh d v v.ks.length m e h1 h2;have hNL:=Hh d d.au.length (Nat.le_refl _)
   have hNg:∀ (m:Nat) (e:Ed),d.ag=7->cP d v.n m=some e->(lm (CL d d.au.length))[m]? = some [.v (.string (ba (tx e.name ++ [58,32])))]:=fun m e c h=>by
    unfold cP at h;rw [if_pos c] at h;simp [lm,CL,h]
   have sC:∀ e∈d.au,d.ag=7->e.name.size<=32:=fun e he c=>gK ((hN.many (.inl c)).2.2.2 e he);have X2:=fun e x ed (h1:v.ks[e]? = some x) (h2:cP d v.n e=some ed)=>rQ (ND:=ND) h1 h2;have X3:textVs ND (v.ks.take 0) d v.n 0=[]:=by rw [List.take_zero,textVs]
   have X4:textVs ND (v.ks.take v.ks.length) d v.n 0=textVs ND v.ks d v.n 0:=by rw [List.take_length]
   rw [hT] at eM ⊢;rw [<- X4];generalize NL:(fun e=>textVs ND (v.ks.take e) d v.n 0)=X at *;have hX:∀ e,textVs ND (v.ks.take e) d v.n 0=X e:=fun e=>by rw [<- NL]
   simp only [hX] at X2 X3 ll ⊢;generalize ee d v=O at *;generalize jY v=Z at *;generalize Jd d=NM at *;generalize tosL d v v.ks.length=T at *;generalize CL d d.au.length=M at *;clear hc hT X4 JI eM hX NL;obtain ⟨q,z,s,ks⟩:=v;obtain ⟨ag,aC,lo,hi,most,af,es⟩:=d;have cR:=ch ks;have iP:=eJ ks;simp only [Val.k,Val.n,Val.s,Val.ks] at *;refine yD (s:=false) (bt:=[(1,161)]) (mu:=[]) (fr:=false) (P:=Tryz.prog) tt tt_ok 5000 72 [] Tryz.func79 rfl Tryz.ntmps79 rfl (nL rfl) (fun E9 w9 hn9 hm9=>?_);refine call_p HO (gW) ax rfl ?_;refine call_p P0 (jt) ax rfl ?_;refine call_p Vy (hof) ax rfl ?_;refine jk rfl (l ++ O) (l:=l) (kt:=0) rfl (.head _) rfl hp rfl (by simp [Y3]) (by rw [List.length_append];omega) rfl (fun n9=>?_);refine aq (fun j st=>∃ e:Nat,st=yh ⟨yk,yn,ys,yl⟩ PC ⟨ag,aC,lo,hi,most,af,es⟩ (.mk q z s ks) O Z NM T (l ++ O ++ X e) e/\e<=ks.length/\j=ks.length - e) ks.length (yh ⟨yk,yn,ys,yl⟩ PC ⟨ag,aC,lo,hi,most,af,es⟩ (.mk q z s ks) O Z NM T (l ++ O) 0) (ay 5 rfl (by repeat' (first | exact rfl | exact ah rfl | exact X1 _ _ _ | refine ⟨_,_,rfl,?_,?_⟩)) rfl rfl rfl (by repeat' (first | exact trivial | exact ah rfl | exact X1 _ _ _ | refine ⟨⟨_,rfl,?_⟩,?_⟩))) ⟨0,by rw [X3,List.append_nil],by omega,by omega⟩ ?_;rintro _ st ⟨e,rfl,he,rfl⟩;have hXl:=ll e he;refine br (fun hL=>?_) (fun hL=>?_)
   ·have al:e < ks.length:=by simpa [cR,Val.ks] using hL
    obtain ⟨ed,vx,Q9⟩:=Uk e al;obtain ⟨x,hx⟩:∃ x,ks[e]? = some x:=⟨_,gE al⟩;rw [hx] at Q9;have T5:=gY (mG hx);have Zf:=rc hx;have PJ:rngW x:=by rw [rngW] at hr;exact km hr.2.2 (mG hx)
    have nh:=fun (L1:List UInt8) h1=>ih x (by omega) (by omega) PJ ed.to Q9 L1 (.loc 1 0) (.inr rfl) h1;have vB:=X2 e x ed hx vx;have Y4:=htg e ed vx al;have Jg:=fun c=>hNg e ed c vx;have zU:=sC ed (vy vx);generalize textV ND x ed.to=t at nh vB;obtain ⟨xk,xn,xs,xl⟩:=x;refine ⟨_,⟨by omega,dh (by simpa [Val.ks] using hx)⟩,?_⟩;refine br (fun c=>?_) (fun c=>?_)
    ·have c:e≠0:=by rintro rfl;simp at c
     rw [if_neg c] at vB;refine jk rfl (l ++ O ++ X e ++ [44,32]) (l:=l ++ O ++ X e) (kt:=0) rfl (.head _) rfl (.inr rfl) rfl (by simp) (by simp only [List.length_append,List.length_cons,List.length_nil];omega) rfl (fun n9=>?_);by_cases c7:ag=7
     ·have Jg:=Jg c7;have zU:=zU c7;have Pw:=hT7 c7;subst Pw;rw [if_pos c7] at vB;refine Q6 ⟨_,rfl⟩ rfl rfl (by intro h9;rw [h9] at Jg;simp at Jg) rfl rfl ?_;refine ⟨_,⟨by omega,Jg⟩,?_⟩;refine jk rfl ((l ++ O ++ X e ++ [44,32]) ++ (tx ed.name ++ [58,32])) (l:=(l ++ O ++ X e ++ [44,32])) (kt:=0) rfl (.head _) rfl (.inr rfl) rfl (by simp) (by simp only [List.length_append,List.length_cons,List.length_nil,bh];omega) rfl (fun n9=>?_);refine aD (fun i=>Nat.beq i 7) mo (by decide +kernel) ?_;refine ⟨_,⟨by omega,pI Y4⟩,?_⟩;have zV:(l ++ O ++ X e ++ [44,32]) ++ (tx ed.name ++ [58,32]) ++ t=l ++ O ++ X (e + 1):=by rw [vB];simp only [List.append_assoc]
      refine iU rfl (l4 2 1 Kq rfl rfl rfl aL aL (nh ((l ++ O ++ X e ++ [44,32]) ++ (tx ed.name ++ [58,32])) (by simp only [List.length_append,List.length_cons,List.length_nil,bh];omega)) (fun r fZ bR hΦ h1 h2=>?_));rw [zV] at hΦ;obtain ⟨rfl,rfl,rfl⟩:=hΦ;exact ⟨yh ⟨yk,yn,ys,yl⟩ PC ⟨ag,aC,lo,hi,most,af,es⟩ (.mk q z s ks) O Z _ T (l ++ O ++ X (e + 1)) (e + 1),(ay 5 rfl (C6 al) rfl rfl rfl (wNB al)),ks.length - (e + 1),by omega,e + 1,rfl,by omega,rfl⟩
     ·have Pw:=hTn c7;subst Pw;rw [if_neg c7,List.nil_append] at vB;refine Nf ⟨_,rfl⟩ rfl rfl rfl rfl ?_;refine aD (fun i=>Nat.beq i 7) mo (by decide +kernel) ?_;refine ⟨_,⟨by omega,pI Y4⟩,?_⟩;have zV:(l ++ O ++ X e ++ [44,32]) ++ t=l ++ O ++ X (e + 1):=by rw [vB];simp only [List.append_assoc]
      refine iU rfl (l4 2 1 Kq rfl rfl rfl aL aL (nh (l ++ O ++ X e ++ [44,32]) (by simp only [List.length_append,List.length_cons,List.length_nil];omega)) (fun r fZ bR hΦ h1 h2=>?_));rw [zV] at hΦ;obtain ⟨rfl,rfl,rfl⟩:=hΦ;exact ⟨yh ⟨yk,yn,ys,yl⟩ PC ⟨ag,aC,lo,hi,most,af,es⟩ (.mk q z s ks) O Z _ T (l ++ O ++ X (e + 1)) (e + 1),(ay 5 rfl (C6 al) rfl rfl rfl (wNB al)),ks.length - (e + 1),by omega,e + 1,rfl,by omega,rfl⟩
    ·have c:e=0:=by simp at c;omega
     rw [if_pos c,List.nil_append] at vB;by_cases c7:ag=7
     ·have Jg:=Jg c7;have zU:=zU c7;have Pw:=hT7 c7;subst Pw;rw [if_pos c7] at vB;refine Q6 ⟨_,rfl⟩ rfl rfl (by intro h9;rw [h9] at Jg;simp at Jg) rfl rfl ?_;refine ⟨_,⟨by omega,Jg⟩,?_⟩;refine jk rfl ((l ++ O ++ X e) ++ (tx ed.name ++ [58,32])) (l:=(l ++ O ++ X e)) (kt:=0) rfl (.head _) rfl (.inr rfl) rfl (by simp) (by simp only [List.length_append,List.length_cons,List.length_nil,bh];omega) rfl (fun n9=>?_);refine aD (fun i=>Nat.beq i 7) mo (by decide +kernel) ?_;refine ⟨_,⟨by omega,pI Y4⟩,?_⟩;have zV:(l ++ O ++ X e) ++ (tx ed.name ++ [58,32]) ++ t=l ++ O ++ X (e + 1):=by rw [vB];simp only [List.append_assoc]
      refine iU rfl (l4 2 1 Kq rfl rfl rfl aL aL (nh ((l ++ O ++ X e) ++ (tx ed.name ++ [58,32])) (by simp only [List.length_append,List.length_cons,List.length_nil,bh];omega)) (fun r fZ bR hΦ h1 h2=>?_));rw [zV] at hΦ;obtain ⟨rfl,rfl,rfl⟩:=hΦ;exact ⟨yh ⟨yk,yn,ys,yl⟩ PC ⟨ag,aC,lo,hi,most,af,es⟩ (.mk q z s ks) O Z _ T (l ++ O ++ X (e + 1)) (e + 1),(ay 5 rfl (C6 al) rfl rfl rfl (wNB al)),ks.length - (e + 1),by omega,e + 1,rfl,by omega,rfl⟩
     ·have Pw:=hTn c7;subst Pw;rw [if_neg c7,List.nil_append] at vB;refine Nf ⟨_,rfl⟩ rfl rfl rfl rfl ?_;refine aD (fun i=>Nat.beq i 7) mo (by decide +kernel) ?_;refine ⟨_,⟨by omega,pI Y4⟩,?_⟩;have zV:(l ++ O ++ X e) ++ t=l ++ O ++ X (e + 1):=by rw [vB];simp only [List.append_assoc]
      refine iU rfl (l4 2 1 Kq rfl rfl rfl aL aL (nh (l ++ O ++ X e) (by simp only [List.length_append,List.length_cons,List.length_nil];omega)) (fun r fZ bR hΦ h1 h2=>?_));rw [zV] at hΦ;obtain ⟨rfl,rfl,rfl⟩:=hΦ;exact ⟨yh ⟨yk,yn,ys,yl⟩ PC ⟨ag,aC,lo,hi,most,af,es⟩ (.mk q z s ks) O Z _ T (l ++ O ++ X (e + 1)) (e + 1),(ay 5 rfl (C6 al) rfl rfl rfl (wNB al)),ks.length - (e + 1),by omega,e + 1,rfl,by omega,rfl⟩
   ·have aN:e=ks.length:=by
     have:=hL;simp [cR,Val.ks] at this;omega
    subst aN;have hw9:=N9 ks.length;rw [<- List.append_assoc,<- List.append_assoc];refine jk rfl (l ++ O ++ X ks.length ++ Z) (l:=l ++ O ++ X ks.length) (kt:=0) rfl (.head _) rfl (.inr rfl) rfl (by simp [Y3]) (by simp only [List.length_append];omega) rfl (fun n9=>?_);exact ⟨.tup [],[bV ⟨yk,yn,ys,yl⟩,bO (.loc 1 0) (l ++ O ++ X ks.length ++ Z)],aL,aL,rfl,rfl,rfl⟩
theorem Hl (s:ByteArray) (n:Nat) (h:s.size<=1099511627776):tx (s.extract n (s.size:Int).toNat)=(tx s).drop n:=by
 simp [tx,Int.toNat_natCast];exact List.take_of_length_le (by rw [List.length_drop];have:=bh s;unfold tx at this;omega)
theorem Jh (s:ByteArray):s=⟨#[]⟩↔tx s=[]:=⟨fun h=>by rw [h];rfl,fun h=>by rw [<- nq s,h]⟩
theorem rR:∀ (u:Nat) (s:ByteArray),s.size<=1099511627776->∀ z:Int,z<=9223372036854775807->z.toNat=u->EvP Tryz.prog 205 [.v (.string s),.v (.int .i64 z)] (.v (.string (ba (headL u (tx s)))))
 | 0,s,hs,z,hz,hu=>by
  refine ev_go (P:=Tryz.prog) tt tt_ok 5000 28 [.tmp 4] Tryz.func205 rfl Tryz.ntmps205 rfl (nL rfl) (fun E9 w9 hn9 hm9=>?_);refine br (fun _=>(rfl:_=_)) (fun c=>absurd c (by simp [aj];omega))
 | u + 1,s,hs,z,hz,hu=>by
  by_cases he:s=⟨#[]⟩
  ·subst he;rw [show tx ⟨#[]⟩=[] from rfl,x8];refine ev_go (P:=Tryz.prog) tt tt_ok 5000 28 [.tmp 4] Tryz.func205 rfl Tryz.ntmps205 rfl (nL rfl) (fun E9 w9 hn9 hm9=>?_);refine br (fun _=>(rfl:_=_)) (fun c=>absurd c (by simp [aj]))
  have aR:tx s ≠ []:=fun h=>he ((Jh s).2 h);obtain ⟨h1,h2⟩:=pF aR;rw [bh] at h2;have Ai:=Cp s hs (by omega);have hdr:=Hl s (iv (tx s)) hs;have ia:=sQ s (iv (tx s));have hl:=I9 u ((tx s).drop (iv (tx s)));rw [List.length_drop,bh] at hl;have hD:headL (u + 1) (tx s)=(tx s).take (iv (tx s)) ++ headL u ((tx s).drop (iv (tx s))):=rfl;rw [hD,<- ia,<- hdr];rw [<- hdr] at hl;have eM:(s.extract 0 (iv (tx s))).size=iv (tx s):=by rw [<- bh,sQ,List.length_take,bh];omega
  have cR:(s.extract (iv (tx s)) (s.size:Int).toNat).size=s.size - iv (tx s):=by rw [<- bh,Hl _ _ hs,List.length_drop,bh]
  have ih:=rR u (s.extract (iv (tx s)) (s.size:Int).toNat) (by omega) (IntKind.i64.wrap (z - 1)) (by rw [wrap64 (by omega) (by omega)];omega) (by rw [wrap64 (by omega) (by omega)];omega);generalize iv (tx s)=n at Ai h1 h2 ih eM cR hl;refine ev_go (P:=Tryz.prog) tt tt_ok 5000 28 [.tmp 4] Tryz.func205 rfl Tryz.ntmps205 rfl (nL rfl) (fun E9 w9 hn9 hm9=>?_);refine br (fun c=>absurd c (by simp [aj];exact ⟨by omega,he⟩)) (fun _=>?_);refine bl V8 rfl Ai ax (fun q hq=>?_);obtain ⟨c0,rfl⟩:=hq;refine aD (fun _=>false) mo (by decide +kernel) ?_;refine ⟨⟨by omega,by omega,by omega⟩,?_⟩;refine ⟨⟨by omega,by omega,by omega⟩,?_⟩;refine aG Qc (ih) ax rfl ?_;have NH:(ba (headL u (tx (s.extract n (s.size:Int).toNat)))).size=(headL u (tx (s.extract n (s.size:Int).toNat))).length:=by rw [<- bh,lU]
  have hcat:s.extract 0 n ++ ba (headL u (tx (s.extract n (s.size:Int).toNat)))=ba (tx (s.extract 0 n) ++ headL u (tx (s.extract n (s.size:Int).toNat))):=qu (by rw [K3,lU (headL u (tx (s.extract n (s.size:Int).toNat)))]);refine ⟨by show (s.extract 0 n).size + _<=_;omega,?_⟩;exact (congrArg (fun z=>DV.v (.string z)) hcat:_=_)
mutual
theorem yi:∀ (t:Ty),rngT t->∀ u∈flatT t,rngT u
 | .mk h ps,hr,u,hu=>by
  rw [flatT] at hu;split at hu
  ·cases hu
  ·rcases List.mem_cons.1 hu with rfl | hu
   ·exact hr
   ·rw [rngT] at hr;exact yj ps hr.2.2.2 u hu
theorem yj:∀ (ps:Pts),rngP ps->∀ u∈flatP ps,rngT u
 | .nil,_,u,hu=>by cases hu
 | .cons p v r,hr,u,hu=>by
  rw [flatP] at hu;rw [rngP] at hr;rcases List.mem_append.1 hu with hu | hu
  ·split at hu
   ·cases hu
   ·exact yi v hr.2.2.1 u hu
  ·exact yj r hr.2.2.2 u hu
end
theorem CN {lev:List Wd->Int} {s:Sch}:∀ (ps:Pts) (k:Nat),rngP ps->∀ e∈edsP lev s ps k,tW e.cn
 | .nil,_,_,e,he=>by cases he
 | .cons p v r,k,hr,e,he=>by
  rw [edsP] at he;rw [rngP] at hr;rcases List.mem_cons.1 he with rfl | he
  ·exact hr.2.1
  ·exact CN r _ hr.2.2.2 e he
def zW (n:Nd):Prop:=tW n.lo/\tW n.hi/\∀ e∈n.au,tW e.cn
theorem vC {S:Sch} (hr:Oy S) {n:Nd} (h:n∈aQ S):zW n:=by
 rw [iG] at h;obtain ⟨t,ht,u,hu,k,rfl⟩:=u6 h
 have h1:rngT t:=by
  rcases List.mem_append.1 ht with h | h
  ·obtain ⟨x,hx,rfl⟩:=List.mem_map.1 h;exact hr.1 x hx
  ·simp only [List.mem_singleton] at h;subst h;exact hr.2
 have h2:=yi t h1 u hu;obtain ⟨uh,us⟩:=u;rw [rngT] at h2;exact ⟨h2.1,h2.2.1,CN us _ h2.2.2.2⟩
def nf (K:List Nat) (e:Ed):Nat:=K.getD e.to.toNat 0
def leastR (K:List Nat):List Ed->Nat->Nat
 | [],m=>m + 1
 | e :: r,m=>if nf K e=0 then 0 else leastR K r (max m (nf K e))
def dV (K:List Nat):List Ed->Nat->Nat
 | [],b=>if b=0 then 0 else b + 1
 | e :: r,b=>if e.bare=true then 1 else if 0 < nf K e/\(b=0∨nf K e < b) then dV K r (nf K e) else dV K r b
def fq (n:Nd) (K:List Nat):Nat:=if n.ag=7 then leastR K n.au 0 else if n.ag=8 then dV K n.au 0 else 1
def depN (ND:List Nd):Nat->List Nat
 | 0=>List.replicate ND.length 0
 | d + 1=>ND.map fun n=>fq n (depN ND d)
theorem fc (ND:List Nd):∀ d,(depN ND d).length=ND.length
 | 0=>by simp [depN]
 | d + 1=>by simp [depN]
theorem depN_get (ND:List Nd) (d j:Nat):(depN ND (d + 1)).getD j 0=match ND[j]? with | none=>0 | some n=>fq n (depN ND d):=by
 simp only [depN,List.getD_eq_getElem?_getD,List.getElem?_map];cases ND[j]?<;>rfl
def Ji (d:Nat) (A B:List Nat):Prop:=∀ j:Nat,(0 < A.getD j 0->B.getD j 0=A.getD j 0/\A.getD j 0<=d)/\(A.getD j 0=0->B.getD j 0=0∨B.getD j 0=d + 1)
theorem Hm {d:Nat} {A B:List Nat} (h:Ji d A B) (j:Nat):B.getD j 0<=d + 1:=by
 obtain ⟨h1,h2⟩:=h j;rcases Nat.eq_zero_or_pos (A.getD j 0) with h3 | h3
 ·rcases h2 h3 with h4 | h4<;>omega
 ·have:=h1 h3;omega
theorem mv {K:List Nat}:∀ {es:List Ed} {m:Nat},leastR K es m=0↔∃ e∈es,nf K e=0
 | [],m=>by simp [leastR]
 | e :: r,m=>by
  rw [leastR];by_cases h:nf K e=0
  ·rw [if_pos h];exact ⟨fun _=>⟨e,by simp,h⟩,fun _=>rfl⟩
  ·rw [if_neg h,mv];constructor
   ·rintro ⟨x,hx,h2⟩;exact ⟨x,by simp [hx],h2⟩
   ·rintro ⟨x,hx,h2⟩;rcases List.mem_cons.1 hx with rfl | hx
    ·exact (h h2).elim
    ·exact ⟨x,hx,h2⟩
theorem rS {d:Nat} {A B:List Nat} (hR:Ji d A B):∀ {es:List Ed} {m:Nat},0 < leastR A es m->leastR B es m=leastR A es m
 | [],m,_=>rfl
 | e :: r,m,h=>by
  rw [leastR] at h ⊢;rw [leastR];by_cases h0:nf A e=0
  ·rw [if_pos h0] at h;omega
  rw [if_neg h0] at h ⊢;have h1:nf B e=nf A e:=((hR e.to.toNat).1 (by unfold nf at h0;omega)).1;rw [h1,if_neg h0];exact rS hR h
theorem vD {d:Nat} {A B:List Nat} (hR:Ji d A B):∀ {es:List Ed} {m:Nat},m<=d + 1->(m=d + 1∨∃ e∈es,nf A e=0)->leastR B es m=0∨leastR B es m=d + 2
 | [],m,_,h=>by
  rcases h with h | ⟨e,he,_⟩
  ·right;rw [leastR,h]
  ·cases he
 | e :: r,m,hm,h=>by
  rw [leastR];by_cases h0:nf B e=0
  ·rw [if_pos h0];exact .inl rfl
  rw [if_neg h0];have fv:nf B e<=d + 1:=Hm hR _;refine vD hR (by omega) ?_;rcases h with h | ⟨x,hx,h⟩
  ·left;omega
  ·rcases List.mem_cons.1 hx with rfl | hx
   ·left;have:=(hR x.to.toNat).2 h;unfold nf at h0 fv ⊢;omega
   ·exact .inr ⟨x,hx,h⟩
theorem jl {d:Nat} {A B:List Nat} (hR:Ji d A B):∀ {es:List Ed} {a b:Nat},(0 < a->b=a/\a<=d)->(a=0->b=0∨b=d + 1) ->
  (0 < dV A es a->dV B es b=dV A es a)/\(dV A es a=0->dV B es b=0∨dV B es b=d + 2)
 | [],a,b,h1,h2=>by
  rw [dV,dV];rcases Nat.eq_zero_or_pos a with h | h
  ·rw [if_pos h];refine ⟨fun h=>by omega,fun _=>?_⟩;rcases h2 h with h3 | h3
   ·left;rw [if_pos h3]
   ·right;rw [if_neg (by omega)];omega
  ·obtain ⟨h3,h4⟩:=h1 h;rw [if_neg (by omega),if_neg (by omega),h3];exact ⟨fun _=>rfl,fun h=>by omega⟩
 | e :: r,a,b,h1,h2=>by
  rw [dV,dV];by_cases hb:e.bare=true
  ·rw [if_pos hb,if_pos hb];exact ⟨fun _=>rfl,fun h=>by omega⟩
  rw [if_neg hb,if_neg hb];obtain ⟨g1,g2⟩:=hR e.to.toNat;change (0 < nf A e->nf B e=nf A e/\nf A e<=d) at g1;change (nf A e=0->nf B e=0∨nf B e=d + 1) at g2;by_cases c1:0 < nf A e/\(a=0∨nf A e < a)<;>by_cases c2:0 < nf B e/\(b=0∨nf B e < b)
  ·rw [if_pos c1,if_pos c2];exact jl hR (by omega) (by omega)
  ·rw [if_pos c1,if_neg c2];exact jl hR (by omega) (by omega)
  ·rw [if_neg c1,if_pos c2];exact jl hR (by omega) (by omega)
  ·rw [if_neg c1,if_neg c2];exact jl hR (by omega) (by omega)
theorem Fp {d:Nat} {A B:List Nat} (hR:Ji d A B) (n:Nd):(0 < fq n A->fq n B=fq n A)/\(fq n A=0->fq n B=0∨fq n B=d + 2):=by
 unfold fq;by_cases h7:n.ag=7
 ·rw [if_pos h7,if_pos h7];exact ⟨rS hR,fun h=>vD hR (by omega) (.inr (mv.1 h))⟩
 rw [if_neg h7,if_neg h7];by_cases h8:n.ag=8
 ·rw [if_pos h8,if_pos h8];exact jl hR (by omega) (by omega)
 rw [if_neg h8,if_neg h8];exact ⟨fun _=>rfl,fun h=>by omega⟩
theorem CO (N:Nat) (e:Ed):nf (List.replicate N 0) e=0:=by
 unfold nf;rw [List.getD_eq_getElem?_getD,List.getElem?_replicate];split<;>rfl
theorem rT (N:Nat):∀ es:List Ed,dV (List.replicate N 0) es 0=0∨dV (List.replicate N 0) es 0=1
 | []=>.inl rfl
 | e :: r=>by
  rw [dV,CO];by_cases hb:e.bare=true
  ·rw [if_pos hb];exact .inr rfl
  ·rw [if_neg hb,if_neg (by omega)];exact rT N r
theorem CP (N:Nat) (n:Nd):fq n (List.replicate N 0)=0∨fq n (List.replicate N 0)=1:=by
 unfold fq;by_cases h7:n.ag=7
 ·rw [if_pos h7]
  cases h:n.au with
  | nil=>right;rfl
  | cons e r=>left;rw [leastR,CO,if_pos rfl]
 rw [if_neg h7];by_cases h8:n.ag=8
 ·rw [if_pos h8];exact rT N n.au
 ·rw [if_neg h8];exact .inr rfl
theorem Jj (ND:List Nd) (j:Nat):(depN ND 0).getD j 0=0:=by
 rw [depN,List.getD_eq_getElem?_getD,List.getElem?_replicate];split<;>rfl
theorem CQ (ND:List Nd):∀ d,Ji d (depN ND d) (depN ND (d + 1))
 | 0=>fun j=>by
  refine ⟨fun h=>by rw [Jj] at h;omega,fun _=>?_⟩;rw [depN_get]
  cases ND[j]? with
  | none=>exact .inl rfl
  | some n=>exact CP _ n
 | d + 1=>fun j=>by
  have ih:=CQ ND d;rw [depN_get ND (d + 1),depN_get ND d]
  cases hn:ND[j]? with
  | none=>exact ⟨fun h=>by simp at h,fun _=>.inl rfl⟩
  | some n=>
   obtain ⟨h1,h2⟩:=Fp ih n;refine ⟨fun h=>⟨h1 h,?_⟩,h2⟩;have:=Hm ih j;rw [depN_get ND d,hn] at this;exact this
def eL (K:List Nat):List Bool:=K.map fun k=>decide (0 < k)
theorem pM (K:List Nat) (j:Nat):(eL K).getD j false=decide (0 < K.getD j 0):=by
 unfold eL;simp only [List.getD_eq_getElem?_getD,List.getElem?_map];cases K[j]?<;>simp
theorem mw (K:List Nat):(eL K).length=K.length:=by simp [eL]
theorem Nk {A B:List Nat} (hl:A.length=B.length) (h:∀ j,A.getD j 0=B.getD j 0):A=B:=by
 refine List.ext_getElem hl fun j h1 h2=>?_;have:=h j;simp only [List.getD_eq_getElem?_getD,gE h1,gE h2,Option.getD_some] at this;exact this
def og (K:List Bool) (e:Ed):Bool:=e.bare || K.getD e.to.toNat false
def Fq (n:Nd) (K:List Bool):Bool:=if n.ag < 7 then true else if n.ag=7 then n.au.all (og K) else n.au.any (og K)
theorem oc {K:List Nat}:∀ {es:List Ed} {b:Nat},0 < dV K es b↔(0 < b∨es.any (og (eL K))=true)
 | [],b=>by
  rw [dV];by_cases h:b=0
  ·rw [if_pos h];simp [h]
  ·rw [if_neg h];simp;omega
 | e :: r,b=>by
  have hg:(eL K).getD e.to.toNat false=decide (0 < nf K e):=pM K _;rw [dV,List.any_cons];by_cases hb:e.bare=true
  ·rw [if_pos hb];simp [og,hb]
  ·rw [if_neg hb]
   have qm:og (eL K) e=decide (0 < nf K e):=by
    unfold og;rw [hg];simp [hb]
   rw [qm,Bool.or_eq_true,decide_eq_true_eq];split
   ·rename_i h1;rw [oc];constructor
    ·exact fun _=>.inr (.inl h1.1)
    ·exact fun _=>.inl h1.1
   ·rename_i h1;rw [oc];constructor
    ·rintro (h | h)
     ·exact .inl h
     ·exact .inr (.inr h)
    ·rintro (h | h | h)
     ·exact .inl h
     ·by_cases fF:b=0
      ·exact (h1 ⟨h,.inl fF⟩).elim
      ·left;omega
     ·exact .inr h
theorem Fs {n:Nd} {K:List Nat} (h8:n.ag<=8) (hb:∀ e∈n.au,e.bare=true->n.ag=8):(0 < fq n K)↔Fq n (eL K)=true:=by
 unfold fq Fq;by_cases h7:n.ag=7
 ·rw [if_pos h7,if_neg (by omega),if_pos h7,List.all_eq_true];have:0 < leastR K n.au 0↔¬ leastR K n.au 0=0:=by omega
  rw [this,mv];constructor
  ·intro h e he
   have h1:e.bare=false:=by
    cases AJ:e.bare
    ·rfl
    ·have:=hb e he AJ;omega
   have h2:¬ nf K e=0:=fun h3=>h ⟨e,he,h3⟩;have hg:(eL K).getD e.to.toNat false=decide (0 < nf K e):=pM K _;simp only [og,h1,hg,Bool.false_or,decide_eq_true_eq];omega
  ·rintro h ⟨e,he,h3⟩
   have h1:e.bare=false:=by
    cases AJ:e.bare
    ·rfl
    ·have:=hb e he AJ;omega
   have hg:(eL K).getD e.to.toNat false=decide (0 < nf K e):=pM K _;have:=h e he;simp only [og,h1,hg,Bool.false_or,decide_eq_true_eq] at this;omega
 rw [if_neg h7];by_cases h8':n.ag=8
 ·rw [if_pos h8',if_neg (by omega),if_neg h7,oc];simp
 ·rw [if_neg h8',if_pos (by omega)];simp
theorem Nl {ND:List Nd} (hN:∀ n∈ND,n.ag<=8/\∀ e∈n.au,e.bare=true->n.ag=8) (d:Nat) {i:Nat} {n:Nd} (h:ND[i]? = some n) :
  (depN ND (d + 1)).getD i 0=(if Fq n (eL (depN ND d))=true/\(depN ND d).getD i 0=0 then d + 1 else (depN ND d).getD i 0) /\
  (eL (depN ND (d + 1))).getD i false=Fq n (eL (depN ND d)):=by
 obtain ⟨h8,hb⟩:=hN n (mG h);have hp:=Fs (K:=depN ND d) h8 hb;have hg:(depN ND (d + 1)).getD i 0=fq n (depN ND d):=by rw [depN_get,h]
 obtain ⟨h1,h2⟩:=(CQ ND d) i;refine ⟨?_,?_⟩
 ·rcases Nat.eq_zero_or_pos ((depN ND d).getD i 0) with h3 | h3
  ·by_cases h4:Fq n (eL (depN ND d))=true
   ·rw [if_pos ⟨h4,h3⟩];have:=h2 h3;rw [<- hp,<- hg] at h4;omega
   ·rw [if_neg (fun h=>h4 h.1),h3];rw [<- hp,<- hg] at h4;omega
  ·rw [if_neg (by omega)];exact (h1 h3).1
 ·rw [pM,hg,Bool.eq_iff_iff,decide_eq_true_eq];exact hp
def cN (l:List Nat):List DV:=l.map fun (z:Nat)=>DV.v (.int .i64 (z:Int))
theorem Nn (l:List Nat):(cN l).length=l.length:=by simp [cN]
theorem Ts {l:List Nat} {i z:Nat} (h:l[i]? = some z):(cN l)[i]? = some (DV.v (.int .i64 (z:Int))):=by simp [cN,h]
theorem Tt (l:List Nat) (i z:Nat):(cN l).set i (DV.v (.int .i64 (z:Int)))=cN (l.set i z):=by simp [cN,List.map_set]
theorem vE (l:List Nat):(dInts l).flatten=cN l:=by
 induction l with
 | nil=>rfl
 | cons b r ih=>simp only [dInts,cN,List.map_cons,List.flatten_cons] at ih ⊢;rw [ih];all_goals rfl
theorem repN (n:Nat):(List.replicate n (vL [Value.int .i64 0])).flatten=cN (List.replicate n 0):=by
 induction n with
 | zero=>rfl
 | succ n ih=>simp only [List.replicate_succ,List.flatten_cons,ih];rfl
theorem my {n m:Nat} {tk:List TkE} {l:List DV} {r:List Nat} (h:l=cN r):WeL n m tk l (cN r):=by
 subst h;refine uf _ fun x hx=>?_;obtain ⟨z,_,rfl⟩:=List.mem_map.1 hx;exact ⟨_,rfl⟩
theorem ms_n {bx:List (List DV)} {N n0 m0 n i:Nat} {r:List Nat} (hr:r.length=n) (hN:N<=i) (hb:bx[i]? = some (cN r)):Cc bx N n0 m0 (.sl 1 (dInts r) none) (.ms i 1 0 n n):=by
 simp only [Cc];refine Or.inr (Or.inr (Or.inl ⟨i,0,n,_,by rw [bf,hr],hN,hb,?_,?_,?_⟩))
 ·rw [vE,List.drop_zero,List.take_of_length_le (by rw [Nn,bf];omega)]
 ·intro x hx;simp only [dInts,List.mem_map] at hx;obtain ⟨_,_,rfl⟩:=hx;rfl
 ·intro x hx;rw [vE] at hx;obtain ⟨_,_,rfl⟩:=List.mem_map.1 hx;exact .inl ⟨_,rfl⟩
end Go.Proofs.YtfifjddnnmfeoaaGreat
namespace Go.Proofs.YtfifjddnnmfeoaaGreat
namespace Dv
open Go Go.RowKit
section
variable {P:Program} {ops:Array Oper} {C:World->Prop} {Q:Act->World->Prop} {W:Nat->Bool} {x:Nat}
end
section
variable {X:Ctx} {D:Dw} {x:Nat} {tail:List Nat} {π:Nat->Nat}
end
end Dv
end Go.Proofs.YtfifjddnnmfeoaaGreat
set_option maxRecDepth 100000
namespace Go.Proofs.YtfifjddnnmfeoaaGreat
open Go Go.RowKit Dv Tryz
abbrev wL (lv:List Wd) (f:Nat->Nat->Bool) (ND:List Nd) (z:Int):List DV:=[.sl 2 (bn lv) none,.sl 1 (ct (cW lv.length f)) none,.sl 7 (cK ND) none,.v (.int .i64 z)]
end Go.Proofs.YtfifjddnnmfeoaaGreat
set_option maxRecDepth 100000
namespace Go.Proofs.YtfifjddnnmfeoaaGreat
open Go Go.RowKit Dv Tryz
end Go.Proofs.YtfifjddnnmfeoaaGreat
set_option maxRecDepth 100000
namespace Go.Proofs.YtfifjddnnmfeoaaGreat
open Go Go.RowKit Dv Tryz
abbrev Hn (n:Nd) (K:List Bool) (s v:Bool) (e:Nat):St:=
 ⟨[(1,⟨[],.sl 1 (uO K) none⟩),(2,⟨[],.loc 0 0⟩),(5,⟨[],.v (.bool s)⟩),(6,⟨[],.v (.bool v)⟩),(7,⟨[],.v (.int .i64 e)⟩)],[jG n],[]⟩
theorem Fu {L:Nat} {n:Nd} (K:List Bool) (hK:K.length<=1099511627776) (hn:dE L K.length n) (j1:n.au.length<=1099511627776) :
  EvP Tryz.prog 235 [.agg (jG n),.sl 1 (uO K) none] (.v (.bool (Fq n K))):=by
 have nv:=hn.lZ;have X5:=hn.bare;have Ha:=hn.k8;obtain ⟨ag,aC,lo,hi,most,af,es⟩:=n;simp only at nv X5 j1 Ha;refine ev_go (P:=Tryz.prog) tt tt_ok 5000 50 [.tmp 4] Tryz.func235 rfl Tryz.ntmps235 rfl (nL rfl) (fun E9 w9 hn9 hm9=>?_);refine br (fun h7=>?_) (fun h7=>?_)
 ·have h7:ag < 7:=by simpa using h7
  refine (congrArg (fun b=>DV.v (.bool b)) ?_:_=_);simp [Fq,h7]
 have h7:¬ ag < 7:=by simpa using h7
 refine aq (fun j st=>∃ e:Nat,st=Hn ⟨ag,aC,lo,hi,most,af,es⟩ K ((es.take e).any (og K)) ((es.take e).all (og K)) e/\e<=es.length/\j=es.length - e) es.length (Hn ⟨ag,aC,lo,hi,most,af,es⟩ K false true 0) (weak_mk ⟨_,rfl⟩ wA rfl rfl rfl wB) ⟨0,by simp,by omega,by omega⟩ ?_;rintro j st ⟨e,rfl,he,rfl⟩;refine br (fun hL=>?_) (fun hL=>?_)
 ·have al:e < es.length:=by have:=hL;simp [cy] at this;exact this
  obtain ⟨x,hx⟩:∃ x,es[e]? = some x:=⟨_,gE al⟩;refine ⟨_,⟨by omega,bA hx⟩,?_⟩;have hs:(es.take (e + 1)).any (og K)=((es.take e).any (og K) || og K x):=by rw [List.take_add_one,hx];simp
  have hv:(es.take (e + 1)).all (og K)=((es.take e).all (og K) && og K x):=by rw [List.take_add_one,hx];simp
  generalize (es.take e).any (og K)=s at hs ⊢;generalize (es.take e).all (og K)=v at hv ⊢;refine br (fun hb=>?_) (fun hb=>?_)
  ·have hb:x.bare=false:=by simpa using hb
   obtain ⟨k,hk,iP⟩:=(nv x (mG hx)).to1 hb;obtain ⟨b,gP⟩:∃ b,K[k]? = some b:=⟨_,gE iP⟩;have hg:(uO K)[(max x.to 0).toNat]? = some [DV.v (.bool b)]:=by rw [show (max x.to 0).toNat=k by omega];exact GN gP
   have hik:og K x=b:=by unfold og;rw [hb,hk];simp [List.getD_eq_getElem?_getD,gP]
   rw [hik] at hs hv;refine ⟨_,⟨by omega,bA hx⟩,?_⟩;refine ⟨_,⟨by omega,hg⟩,?_⟩;have e5:pickB s true b=(es.take (e + 1)).any (og K):=by rw [hs,aj]
   have e6:pickB v b false=(es.take (e + 1)).all (og K):=by rw [hv,pickB_and]
   exact ⟨Hn ⟨ag,aC,lo,hi,most,af,es⟩ K ((es.take (e + 1)).any (og K)) ((es.take (e + 1)).all (og K)) (e + 1),(weak_mk ⟨_,rfl⟩ wA rfl rfl rfl (by repeat' (first | exact trivial | exact ah rfl | exact cg e5 | exact cg e6 | exact ak (cA al (by omega)) | refine ⟨⟨_,rfl,?_⟩,?_⟩))),es.length - (e + 1),by omega,e + 1,rfl,by omega,rfl⟩
  ·have hb:x.bare=true:=by simpa using hb
   have hik:og K x=true:=by unfold og;rw [hb];all_goals rfl
   rw [hik] at hs hv;have e5:pickB s true true=(es.take (e + 1)).any (og K):=by rw [hs,aj]
   have e6:pickB v true false=(es.take (e + 1)).all (og K):=by rw [hv,pickB_and]
   exact ⟨Hn ⟨ag,aC,lo,hi,most,af,es⟩ K ((es.take (e + 1)).any (og K)) ((es.take (e + 1)).all (og K)) (e + 1),(weak_mk ⟨_,rfl⟩ wA rfl rfl rfl (by repeat' (first | exact trivial | exact ah rfl | exact cg e5 | exact cg e6 | exact ak (cA al (by omega)) | refine ⟨⟨_,rfl,?_⟩,?_⟩))),es.length - (e + 1),by omega,e + 1,rfl,by omega,rfl⟩
 ·have aN:e=es.length:=by have:=hL;simp [cy] at this;omega
  subst aN;rw [List.take_length];refine br (fun g=>?_) (fun g=>?_)
  ·have g:ag=7:=by simpa using g
   refine (congrArg (fun b=>DV.v (.bool b)) ?_:_=_);simp [Fq,g]
  ·have g:¬ ag=7:=by simpa using g
   refine (congrArg (fun b=>DV.v (.bool b)) ?_:_=_);simp [Fq,g,h7]
theorem X6 {bx:List (List DV)} {N n0 m0 n i:Nat} {r:List Bool} (hr:r.length=n) (hN:N<=i) (hb:bx[i]? = some (cB r)):Cc bx N n0 m0 (.sl 1 (uO r) none) (.ms i 1 0 n n):=by
 simp only [Cc];refine Or.inr (Or.inr (Or.inl ⟨i,0,n,_,by rw [sM,hr],hN,hb,?_,?_,?_⟩))
 ·rw [pk,List.drop_zero,List.take_of_length_le (by rw [qM,sM];omega)]
 ·intro x hx;simp only [uO,List.mem_map] at hx;obtain ⟨_,_,rfl⟩:=hx;rfl
 ·intro x hx;rw [pk] at hx;obtain ⟨_,_,rfl⟩:=List.mem_map.1 hx;exact .inl ⟨_,rfl⟩
theorem Np (l:List Nat) (bx:List (List DV)) (N n m:Nat):CcL bx N n m (cN l) (cN l):=by
 induction l with
 | nil=>rfl
 | cons a r ih=>exact ⟨_,_,rfl,rfl,ih⟩
abbrev wG (a b:Nat) (A B:List (List DV)) (ND:List Nd) (z:Int):List DV:=[.sl a A none,.sl b B none,.sl 7 (cK ND) none,.v (.int .i64 z)]
abbrev Nq (W:List DV) (O:List Nat) (K:List Bool) (n d:Nat):St:=
 ⟨[(1,⟨[],.loc 0 0⟩),(3,⟨[],.ms 1 1 0 n n⟩),(4,⟨[],.sl 1 (uO K) none⟩),(5,⟨[],.v (.int .i64 d)⟩)],[W,cN O],[]⟩
abbrev CR (W:List DV) (O:List Nat) (K:List Bool) (M:List Bool) (n d e:Nat):St:=
 ⟨[(1,⟨[],.loc 0 0⟩),(3,⟨[],.ms 1 1 0 n n⟩),(4,⟨[],.sl 1 (uO K) none⟩),(5,⟨[],.v (.int .i64 d)⟩),(6,⟨[],.ms 2 1 0 n n⟩),(7,⟨[],.v (.int .i64 e)⟩)],[W,cN O,cB M],[]⟩
theorem wy (a b:Nat) (A B:List (List DV)) {ND:List Nd} {L:Nat} (z:Int) (bE:∀ n∈ND,dE L ND.length n) (gj:ND.length<=1099511627776) (bI:∀ n∈ND,n.au.length<=1099511627776) :
  EvP Tryz.prog 191 [.agg (wG a b A B ND z)] (.sl 1 (dInts (depN ND ND.length)) none):=by
 have cR:=kg ND;refine ev_go (P:=Tryz.prog) tt tt_ok 5000 61 [.tmp 2] Tryz.func191 rfl Tryz.ntmps191 rfl (nL rfl) (fun E9 w9 hn9 hm9=>?_);refine ⟨⟨rfl,by omega,by rw [cR];omega,by rw [cR];omega⟩,?_⟩;refine ⟨⟨rfl,by omega,by rw [cR];omega,by rw [cR];omega⟩,?_⟩;refine Ly (fun j st=>∃ d:Nat,st=Nq (wG a b A B ND z) (depN ND d) (eL (depN ND d)) (cK ND).length (d + 1)/\d<=ND.length/\j=ND.length - d) ND.length (Nq (wG a b A B ND z) (depN ND 0) (eL (depN ND 0)) (cK ND).length 1) (.Ga 2 rfl rfl ?_ rfl ?_) ⟨0,rfl,by omega,by omega⟩ ?_
 ·refine ⟨_,_,rfl,ax,_,_,rfl,?_,rfl⟩;rw [repN,cR];exact Np _ _ _ _ _
 ·refine ⟨⟨_,rfl,aL⟩,⟨_,rfl,aL⟩,⟨_,rfl,X6 (by rw [mw,fc,cR];omega) (Nat.le_refl _) ?_⟩,⟨_,rfl,ax⟩,trivial⟩;refine congrArg some ?_;rw [IA,cR];simp [eL,depN]
 rintro j st ⟨d,rfl,hd,rfl⟩;have jt:(eL (depN ND d)).length=ND.length:=by rw [mw,fc]
 refine br (fun hc=>?_) (fun hc=>?_)
 ·have al:d < ND.length:=by have:=hc;simp [cR] at this;omega
  refine ⟨⟨rfl,by omega,by rw [cR];omega,by rw [cR];omega⟩,?_⟩;refine aq (fun j st=>∃ (e:Nat) (O:List Nat) (M:List Bool),st=CR (wG a b A B ND z) O (eL (depN ND d)) M (cK ND).length (d + 1) e/\e<=ND.length/\O.length=ND.length/\M.length=ND.length/\(∀ i:Nat,i < e->O.getD i 0=(depN ND (d + 1)).getD i 0/\M.getD i false=(eL (depN ND (d + 1))).getD i false)/\(∀ i:Nat,e<=i->O.getD i 0=(depN ND d).getD i 0)/\j=ND.length - e) ND.length (CR (wG a b A B ND z) (depN ND d) (eL (depN ND d)) (List.replicate ((cK ND).length:Int).toNat false) (cK ND).length (d + 1) 0) (ay 3 rfl (by repeat' (first | exact rfl | exact ah rfl | exact my rfl | exact dc (IA _) | refine ⟨_,_,rfl,?_,?_⟩)) rfl rfl rfl (by repeat' (first | exact trivial | exact ah rfl | exact my rfl | exact dc (IA _) | refine ⟨⟨_,rfl,?_⟩,?_⟩))) ⟨0,_,_,rfl,by omega,by rw [fc],by rw [List.length_replicate,cR];omega,fun i hi=>by omega,fun i _=>rfl,by omega⟩ ?_;rintro j st ⟨e,O,M,rfl,he,hO,hM,oe,Hw,rfl⟩;refine br (fun hL=>?_) (fun hL=>?_)
  ·have fv:e < ND.length:=by have:=hL;simp [cR] at this;exact this
   obtain ⟨n,hn⟩:∃ n,ND[e]? = some n:=⟨_,gE fv⟩;have Jg:=mG hn;have h1:=Fu (eL (depN ND d)) (by rw [jt];exact gj) (n:=n) (by rw [jt];exact bE n Jg) (bI n Jg);obtain ⟨r1,r2⟩:=Nl (fun m hm=>⟨(bE m hm).k8,(bE m hm).bare⟩) d hn;refine ⟨_,⟨by omega,fV hn⟩,?_⟩;refine call_p V5 (h1) ax rfl ?_
   have aS:(cB M).set (0 + (e:Int).toNat * 1) (DV.v (.bool (Fq n (eL (depN ND d)))))=cB (M.set e (Fq n (eL (depN ND d)))):=by
    rw [show 0 + (e:Int).toNat * 1=e by omega,zh]
   have OQ:(cB (M.set e (Fq n (eL (depN ND d)))))[0 + (e:Int).toNat * 1]? = some (DV.v (.bool (Fq n (eL (depN ND d))))):=by
    rw [show 0 + (e:Int).toNat * 1=e by omega];exact L8 (List.getElem?_set_self (by omega))
   obtain ⟨q,hq⟩:∃ q,O[e]? = some q:=⟨_,gE (by omega)⟩;have hqd:(depN ND d).getD e 0=q:=by rw [<- Hw e (Nat.le_refl _),List.getD_eq_getElem?_getD,hq];all_goals rfl
   rw [hqd] at r1
   have Y5:∀ i:Nat,i < e + 1->(M.set e (Fq n (eL (depN ND d)))).getD i false=(eL (depN ND (d + 1))).getD i false:=fun i hi=>by
    by_cases Gj:i=e
    ·subst Gj;rw [r2,List.getD_eq_getElem?_getD,List.getElem?_set_self (by omega)];all_goals rfl
    ·rw [List.getD_eq_getElem?_getD,List.getElem?_set_ne (Ne.symm Gj),<- List.getD_eq_getElem?_getD];exact (oe i (by omega)).2
   generalize Fq n (eL (depN ND d))=h at aS OQ r1 Y5 ⊢;refine ⟨⟨by omega,by rw [cR];omega⟩,?_⟩;refine ⟨by rw [qM];omega,?_⟩;refine ⟨⟨by omega,by rw [cR];omega⟩,?_⟩;refine ⟨DV.v (.bool h),(by rw [aS];exact OQ),?_⟩
   have hOs:∀ v,v=(depN ND (d + 1)).getD e 0->∀ i:Nat,i < e + 1->(O.set e v).getD i 0=(depN ND (d + 1)).getD i 0:=fun v hv i hi=>by
    by_cases Gj:i=e
    ·subst Gj;rw [<- hv,List.getD_eq_getElem?_getD,List.getElem?_set_self (by omega)];all_goals rfl
    ·rw [List.getD_eq_getElem?_getD,List.getElem?_set_ne (Ne.symm Gj),<- List.getD_eq_getElem?_getD];exact (oe i (by omega)).1
   have hOr:∀ v:Nat,∀ i:Nat,e + 1<=i->(O.set e v).getD i 0=(depN ND d).getD i 0:=fun v i hi=>by
    rw [List.getD_eq_getElem?_getD,List.getElem?_set_ne (by omega),<- List.getD_eq_getElem?_getD];exact Hw i (by omega)
   have Y6:O.set e q=O:=List.ext_getElem? fun i=>by
    by_cases Gj:e=i
    ·subst Gj;rw [List.getElem?_set_self (by omega),hq]
    ·rw [List.getElem?_set_ne Gj]
   refine br (fun g=>?_) (fun g=>?_)
   ·have g:h=true:=by simpa using g
    refine ⟨⟨by omega,by rw [cR];omega⟩,?_⟩;refine ⟨DV.v (.int .i64 (q:Int)),(by rw [show 0 + (e:Int).toNat * 1=e by omega];exact Ts hq),?_⟩;refine br (fun g2=>?_) (fun g2=>?_)
    ·have g2:q=0:=by simpa [pickB,pickD] using g2
     rw [if_pos ⟨g,g2⟩] at r1;refine ⟨⟨by omega,by rw [cR];omega⟩,?_⟩;refine ⟨by rw [Nn];omega,?_⟩
     have RE:(cN O).set (0 + (e:Int).toNat * 1) (DV.v (.int .i64 ((d + 1:Nat):Int)))=cN (O.set e (d + 1)):=by
      rw [show 0 + (e:Int).toNat * 1=e by omega,Tt]
     exact ⟨CR (wG a b A B ND z) (O.set e (d + 1)) (eL (depN ND d)) (M.set e h) (cK ND).length (d + 1) (e + 1),(ay 3 rfl (by repeat' (first | exact rfl | exact ah rfl | exact my RE | exact dc aS | exact ak (cA fv (by omega)) | refine ⟨_,_,rfl,?_,?_⟩)) rfl rfl rfl (by repeat' (first | exact trivial | exact ah rfl | exact my RE | exact dc aS | exact ak (cA fv (by omega)) | refine ⟨⟨_,rfl,?_⟩,?_⟩))),ND.length - (e + 1),by omega,e + 1,_,_,rfl,by omega,by simp [hO],by rw [List.length_set];exact hM,fun i hi=>⟨hOs _ r1.symm i hi,Y5 i hi⟩,hOr (d + 1),rfl⟩
    ·have g2:¬ q=0:=by simpa [pickB,pickD] using g2
     rw [if_neg (fun h=>g2 h.2)] at r1;exact ⟨CR (wG a b A B ND z) (O.set e q) (eL (depN ND d)) (M.set e h) (cK ND).length (d + 1) (e + 1),(ay 3 rfl (by repeat' (first | exact rfl | exact ah rfl | exact my (by rw [Y6]) | exact dc aS | exact ak (cA fv (by omega)) | refine ⟨_,_,rfl,?_,?_⟩)) rfl rfl rfl (by repeat' (first | exact trivial | exact ah rfl | exact my (by rw [Y6]) | exact dc aS | exact ak (cA fv (by omega)) | refine ⟨⟨_,rfl,?_⟩,?_⟩))),ND.length - (e + 1),by omega,e + 1,_,_,rfl,by omega,by simp [hO],by rw [List.length_set];exact hM,fun i hi=>⟨hOs _ r1.symm i hi,Y5 i hi⟩,hOr q,rfl⟩
   ·have g:h=false:=by simpa using g
    rw [if_neg (by rw [g];simp)] at r1;exact ⟨CR (wG a b A B ND z) (O.set e q) (eL (depN ND d)) (M.set e h) (cK ND).length (d + 1) (e + 1),(ay 3 rfl (by repeat' (first | exact rfl | exact ah rfl | exact my (by rw [Y6]) | exact dc aS | exact ak (cA fv (by omega)) | refine ⟨_,_,rfl,?_,?_⟩)) rfl rfl rfl (by repeat' (first | exact trivial | exact ah rfl | exact my (by rw [Y6]) | exact dc aS | exact ak (cA fv (by omega)) | refine ⟨⟨_,rfl,?_⟩,?_⟩))),ND.length - (e + 1),by omega,e + 1,_,_,rfl,by omega,by simp [hO],by rw [List.length_set];exact hM,fun i hi=>⟨hOs _ r1.symm i hi,Y5 i hi⟩,hOr q,rfl⟩
  ·have aN:e=ND.length:=by have:=hL;simp [cR] at this;omega
   subst aN
   have hO2:O=depN ND (d + 1):=Nk (by rw [hO,fc]) fun j=>by
    rcases Nat.lt_or_ge j ND.length with hj | hj
    ·exact (oe j hj).1
    ·simp only [List.getD_eq_getElem?_getD];rw [List.getElem?_eq_none (by omega),List.getElem?_eq_none (by rw [fc];omega)]
   have Y7:M=eL (depN ND (d + 1)):=BA (by rw [hM,mw,fc]) (fun j hj=>by
     rcases Nat.lt_or_ge j ND.length with h | h
     ·rw [<- (oe j h).2];exact hj
     ·rw [List.getD_eq_getElem?_getD,List.getElem?_eq_none (by omega)] at hj;cases hj) (fun j hj=>by
     rcases Nat.lt_or_ge j ND.length with h | h
     ·rw [(oe j h).2];exact hj
     ·rw [List.getD_eq_getElem?_getD,List.getElem?_eq_none (by rw [mw,fc];omega)] at hj;cases hj)
   subst hO2 Y7;refine ⟨Nq (wG a b A B ND z) (depN ND (d + 1)) (eL (depN ND (d + 1))) (cK ND).length (d + 1 + 1),.Ga 2 rfl rfl ⟨_,_,rfl,ax,_,_,rfl,Np _ _ _ _ _,rfl⟩ rfl ⟨⟨_,rfl,aL⟩,⟨_,rfl,aL⟩,⟨_,rfl,X6 (by rw [mw,fc,cR]) (Nat.le_refl _) rfl⟩,⟨_,rfl,?_⟩,trivial⟩,ND.length - (d + 1),by omega,d + 1,rfl,by omega,rfl⟩;exact congrArg (fun z=>DV.v (Value.int .i64 z)) (cA (n:=1099511627777) (by omega) (by omega))
 ·have aN:d=ND.length:=by have:=hc;simp [cR] at this;omega
  subst aN;exact ⟨_,ms_n (by rw [fc,cR]) (Nat.zero_le _) rfl,rfl⟩
end Go.Proofs.YtfifjddnnmfeoaaGreat
set_option maxRecDepth 100000
namespace Go.Proofs.YtfifjddnnmfeoaaGreat
open Go Go.RowKit Dv Tryz
end Go.Proofs.YtfifjddnnmfeoaaGreat
set_option maxRecDepth 100000
namespace Go.Proofs.YtfifjddnnmfeoaaGreat
open Go Go.RowKit Dv Tryz
def exH (k:Int):Hd:=⟨k,0,0,0,0,[],⟨ap,0⟩⟩
theorem CS {S:Sch} (hF:u1 S) {i:Nat} {n:Nd} (h:(aQ S)[i]? = some n) {e:Ed} (he:e∈n.au) (hb:e.bare=true):e.ck=0:=by
 have Ha:=(qV hF h).bare e he hb;rw [iG] at h;obtain ⟨t,ht,u,hu,rfl,jM⟩:=u5 h;have JG:=u3 t ⟨_,_,hF.wr t ht⟩ u hu;have hT:=EL JG;obtain ⟨uh,us⟩:=u;simp only [Ty.h,Ty.ps] at hT;obtain ⟨p,v,k',h1,rfl,_⟩:=pz he;obtain ⟨j,hj⟩:=List.mem_iff_getElem?.1 h1;obtain ⟨_,hP⟩:=(hT.many (.inr Ha)).2.2 j p v hj;rcases hP with ⟨_,_,_,jt⟩ | ⟨dG,_⟩
 ·exact (mR jt).2.2.1
 ·have:p.bare=true:=hb;rw [dG] at this;cases this
def Ho (ck:Int):Int:=if ck=3 then 5 else if ck=2 then 3 else 2
def Fv (f:Nat->Nat->Bool) (ND:List Nd) (e:Ed):Prop:=e.ck≠0->(∃ m,ND[e.to.toNat]? = some m/\m.ag=Ho e.ck)/\f e.seen.toNat e.label.toNat=true/\f e.label.toNat e.seen.toNat=false
def Nr (f:Nat->Nat->Bool) (ND:List Nd):Prop:=∀ n∈ND,∀ e∈n.au,Fv f ND e
abbrev Ns (W:List DV) (e:Nat):St:=⟨[(1,⟨[],.loc 0 0⟩),(2,⟨[],.loc 1 0⟩),(3,⟨[],.v (.int .i64 e)⟩)],[W,[.v (.int .i64 0),.v (.int .i64 0)]],[]⟩
abbrev zX (W:List DV) (es:List Ed) (e k:Nat):St:=⟨[(1,⟨[],.loc 0 0⟩),(2,⟨[],.loc 1 0⟩),(3,⟨[],.v (.int .i64 e)⟩),(4,⟨[],.sl 10 (e9 es) none⟩),(5,⟨[],.v (.int .i64 k)⟩)],[W,[.v (.int .i64 0),.v (.int .i64 0)]],[]⟩
def W20Φ (f:Nat->Nat->Bool) (ND:List Nd) (r:DV):Prop:=∃ ft:Ft,r=ft.d/\(ft.1=0->Nr f ND)
theorem zY (lv:List Wd) (f:Nat->Nat->Bool) (ND:List Nd) (z:Int) (hn:lv.length<=32) (bE:∀ n∈ND,dE lv.length ND.length n) (gj:ND.length<=1099511627776) (bI:∀ n∈ND,n.au.length<=1099511627776) (XW:∀ n∈ND,∀ e∈n.au,e.bare=true->e.ck=0) :
  Ev Tryz.prog 192 [.agg (wL lv f ND z)] [] [] (fun r _ _=>W20Φ f ND r):=by
 have AX:=kg ND;refine ev_go (P:=Tryz.prog) tt tt_ok 5000 79 [.cell 2 54] Tryz.func192 rfl Tryz.ntmps192 rfl (nL rfl) (fun E9 w9 hn9 hm9=>?_);refine aq (fun j st=>∃ e:Nat,st=Ns (wL lv f ND z) e/\e<=ND.length/\(∀ c n,c < e->ND[c]? = some n->∀ x∈n.au,Fv f ND x)/\j=ND.length - e) ND.length (Ns (wL lv f ND z) 0) (weak_mk ⟨_,rfl⟩ wA rfl rfl rfl wB) ⟨0,rfl,by omega,fun _ _ h=>by omega,by omega⟩ ?_;rintro j st ⟨e,rfl,he,eu,rfl⟩;refine br (fun hL=>?_) (fun hL=>?_)
 ·have al:e < ND.length:=by simpa [AX] using hL
  obtain ⟨d,hd⟩:∃ d,ND[e]? = some d:=⟨_,gE al⟩;have hm:=mG hd;have hN:=bE d hm;have j1:=bI d hm;have cR:=cy d.au;have hbd:=XW d hm;refine ⟨_,⟨by omega,fV hd⟩,?_⟩;refine aq (fun j st=>∃ k:Nat,st=zX (wL lv f ND z) d.au e k/\k<=d.au.length/\(∀ c x,c < k->d.au[c]? = some x->Fv f ND x)/\j=d.au.length - k) d.au.length (zX (wL lv f ND z) d.au e 0) (weak_mk ⟨_,rfl⟩ wA rfl rfl rfl wB) ⟨0,rfl,by omega,fun _ _ h=>by omega,by omega⟩ ?_;rintro j st ⟨k,rfl,hk,B1,rfl⟩;refine br (fun jb=>?_) (fun jb=>?_)
  ·have fY:k < d.au.length:=by simpa [cR] using jb
   obtain ⟨x,hx⟩:∃ x,d.au[k]? = some x:=⟨_,gE fY⟩;have X7:=mG hx;obtain ⟨mP,⟨h2,Bw⟩,h3,Jk⟩:=kk hN X7;have kE:=hbd x X7;have Tu:=(hN.lZ x X7).ck
   have x9:Fv f ND x->∀ c y,c < k + 1->d.au[c]? = some y->Fv f ND y:=fun h c y hc hy=>by
    rcases Nat.lt_succ_iff_lt_or_eq.1 hc with h1 | h1
    ·exact B1 c y h1 hy
    ·rw [h1,hx] at hy;simp only [oI] at hy;rw [<- hy];exact h
   have hE:Fv f ND x=(x.ck≠0->(∃ m,ND[x.to.toNat]? = some m/\m.ag=Ho x.ck)/\f x.seen.toNat x.label.toNat=true/\f x.label.toNat x.seen.toNat=false):=rfl;generalize Fv f ND x=EX at hE x9;obtain ⟨en,eb,ea,et,CT,ew,lB,CU,CV,wz⟩:=x;simp only at h2 Bw h3 Jk mP kE Tu hE;obtain ⟨lb,rfl⟩:∃ n:Nat,CT=n:=⟨_,h2⟩;obtain ⟨sn,rfl⟩:∃ n:Nat,CV=n:=⟨_,h3⟩;simp only [Int.toNat_natCast] at Bw Jk hE;refine ⟨_,⟨by omega,bA hx⟩,?_⟩;refine br (fun g=>?_) (fun g=>?_)
   ·have g:lB=0:=by simpa using g
    exact ⟨zX (wL lv f ND z) d.au e (k + 1),(ay 2 rfl (C6 fY) rfl rfl rfl (wNB fY)),d.au.length - (k + 1),by omega,k + 1,rfl,by omega,x9 (by rw [hE];intro h;exact absurd g h),rfl⟩
   have g:¬ lB=0:=by simpa using g
   obtain ⟨h1,r9⟩:=mP (by
    cases hb:eb
    ·rfl
    ·exact absurd (kE hb) g)
   obtain ⟨tn,rfl⟩:∃ n:Nat,et=n:=⟨_,h1⟩;simp only [Int.toNat_natCast] at r9 hE;obtain ⟨m,hmt⟩:∃ m,ND[tn]? = some m:=⟨_,gE r9⟩
   have hW:∀ w:Int,w=Ho lB->(m.ag=w/\f sn lb=true/\f lb sn=false)->EX:=fun w h1 h2=>by
    rw [hE];exact fun _=>⟨⟨m,hmt,by rw [<- h1];exact h2.1⟩,h2.2⟩
   have h3c:lB=1∨lB=2∨lB=3:=by omega
   rcases h3c with rfl | rfl | rfl
   all_goals
    refine ⟨_,⟨Int.natCast_nonneg _,fV hmt⟩,?_⟩;refine br (fun c1=>?_) (fun c1=>?_)
    ·exact ⟨Ft.d (14,wz),ax,(14,wz),rfl,fun h=>by simp at h⟩
    refine aD (fun _=>false) mo (by decide +kernel) ?_;refine ⟨_,⟨Int.natCast_nonneg _,cT Jk⟩,?_⟩;refine ⟨_,⟨Int.natCast_nonneg _,cq Bw⟩,?_⟩;refine br (fun c2=>?_) (fun c2=>?_)
    ·refine ⟨_,⟨Int.natCast_nonneg _,cT Bw⟩,?_⟩;refine ⟨_,⟨Int.natCast_nonneg _,cq Jk⟩,?_⟩;refine br (fun c3=>?_) (fun c3=>?_)
     ·exact ⟨Ft.d (18,wz),ax,(18,wz),rfl,fun h=>by simp at h⟩
     ·have hx:=x9 (hW _ rfl ⟨by simpa [Ho] using c1,by simpa using c2,by simpa [pickB] using c3⟩);exact ⟨zX (wL lv f ND z) d.au e (k + 1),(ay 2 rfl (C6 fY) rfl rfl rfl (wNB fY)),d.au.length - (k + 1),by omega,k + 1,rfl,by omega,hx,rfl⟩
    ·exact ⟨Ft.d (18,wz),ax,(18,wz),rfl,fun h=>by simp at h⟩
  ·have aN:k=d.au.length:=by have:=jb;simp [cR] at this;omega
   subst aN
   exact ⟨Ns (wL lv f ND z) (e + 1),(weak_mk ⟨_,rfl⟩ wA rfl rfl rfl (wNB al)),ND.length - (e + 1),by omega,e + 1,rfl,by omega,fun c n hc hn x T9=>by
    rcases Nat.lt_succ_iff_lt_or_eq.1 hc with h1 | h1
    ·exact eu c n h1 hn x T9
    ·rw [h1,hd] at hn;simp only [oI] at hn;rw [<- hn] at T9;obtain ⟨q,hq⟩:=List.mem_iff_getElem?.1 T9
     exact B1 q x (gS hq).1 hq,rfl⟩
 ·have aN:e=ND.length:=by have:=hL;simp [AX] at this;omega
  subst aN
  exact ⟨Ft.d (0,0),ax,(0,0),rfl,fun _ n hn x hx=>by
   obtain ⟨q,hq⟩:=List.mem_iff_getElem?.1 hn
   exact eu q n (gS hq).1 hq x hx⟩
structure vF (S:Sch):Prop where
 Jz:(jU S).1=0
 live:∀ i:Nat,i < (aQ S).length->(depN (aQ S) (aQ S).length).getD i 0≠0
 eff:Nr (cu S) (aQ S)
abbrev Nt (S:Sch) (a b:Int) (W:List DV) (D:List Nat) (e:Nat):St:=
 ⟨[(1,⟨[],.loc 0 0⟩),(3,⟨[],.loc 1 0⟩),(5,⟨[],.loc 3 0⟩),(6,⟨[],.sl 1 (dInts D) none⟩),(7,⟨[],.v (.int .i64 e)⟩)],[ey S,[.v (.int .i64 0),.v (.int .i64 0)],[.v (.int .i64 a),.v (.int .i64 b)],W],[]⟩
theorem zZ (S:Sch) (hS:S.wt<=1099511627776):Ev Tryz.prog 130 [.agg (ey S)] [] [] (fun r _ _=>∃ (z:Int) (ft:Ft),r = .tup [.v (.int .i64 z),ft.d]/\(z=0->vF S)):=by
 have JG:=zp S hS;have hw:=fun h=>px S hS h;generalize hR:jU S=R at JG;obtain ⟨ae,order,types,⟨rh,rp⟩⟩:=S;refine ev_go (P:=Tryz.prog) tt tt_ok 5000 44 [.tmp 2,.cell 3 54] Tryz.func130 rfl Tryz.ntmps130 rfl (nL rfl) (fun E9 w9 hn9 hm9=>?_);refine call_p VL (JG) ax rfl ?_;refine br (fun g=>?_) (fun g=>?_)
 ·refine aX mo (by decide +kernel) ?_;exact ⟨.tup [.v (.int .i64 2),Ft.d R],ax,2,R,rfl,fun h=>by simp at h⟩
 have g:R.1=0:=by simpa using g
 have h0:(jU ⟨ae,order,types,.mk rh rp⟩).1=0:=by rw [hR];exact g
 have hF:=pw h0;have hw:=hw h0;obtain ⟨XK,Iy⟩:=kf hF.lat;have bE:=fun n (hn:n∈aQ ⟨ae,order,types,.mk rh rp⟩)=>(List.mem_iff_getElem?.1 hn).elim fun i hi=>qV hF hi;have gj:(aQ ⟨ae,order,types,.mk rh rp⟩).length<=1099511627776:=by rw [la];exact Nat.le_trans (EK _) hS
 have bI:=fun n (hn:n∈aQ ⟨ae,order,types,.mk rh rp⟩)=>(mS hn hS).2;have XW:=fun n (hn:n∈aQ ⟨ae,order,types,.mk rh rp⟩)=>(List.mem_iff_getElem?.1 hn).elim fun i hi e he hb=>CS hF hi (e:=e) he hb;have Y8:=fun A B=>wy 2 1 A B (bL ⟨ae,order,types,.mk rh rp⟩) bE gj bI;have X8:=zY ae (cu ⟨ae,order,types,.mk rh rp⟩) (aQ ⟨ae,order,types,.mk rh rp⟩) (bL ⟨ae,order,types,.mk rh rp⟩) Iy bE gj bI XW;have Sk:(∀ i:Nat,i < (aQ ⟨ae,order,types,.mk rh rp⟩).length->(depN (aQ ⟨ae,order,types,.mk rh rp⟩) (aQ ⟨ae,order,types,.mk rh rp⟩).length).getD i 0≠0)->Nr (cu ⟨ae,order,types,.mk rh rp⟩) (aQ ⟨ae,order,types,.mk rh rp⟩)->vF ⟨ae,order,types,.mk rh rp⟩:=fun h1 h2=>⟨h0,h1,h2⟩;have KT:=fc (aQ ⟨ae,order,types,.mk rh rp⟩) (aQ ⟨ae,order,types,.mk rh rp⟩).length;generalize depN (aQ ⟨ae,order,types,.mk rh rp⟩) (aQ ⟨ae,order,types,.mk rh rp⟩).length=D at Y8 Sk KT;unfold cu at X8 Sk;generalize dY (Sch.mk ae order types (.mk rh rp)).ae.length (cL (av (Sch.mk ae order types (.mk rh rp)).ae) (Sch.mk ae order types (.mk rh rp)).order)=f at hw X8 Sk;generalize aQ ⟨ae,order,types,.mk rh rp⟩=ND at hw Y8 X8 Sk KT gj bI XW bE;generalize bL ⟨ae,order,types,.mk rh rp⟩=rt at hw Y8 X8;have vR:=bf D;obtain ⟨R1,R2⟩:=R;simp only at g;subst g;refine call_p U7 (hw) ax rfl ?_;refine call_p VM (Y8 _ _) ax rfl ?_;refine aq (fun j st=>∃ e:Nat,st=Nt ⟨ae,order,types,.mk rh rp⟩ 0 R2 (wL ae f ND rt) D e/\e<=D.length/\(∀ i < e,D.getD i 0≠0)/\j=D.length - e) D.length (Nt ⟨ae,order,types,.mk rh rp⟩ 0 R2 (wL ae f ND rt) D 0) (weak_mk ⟨_,rfl⟩ wA rfl rfl rfl wB) ⟨0,rfl,by omega,fun _ h=>by omega,by omega⟩ ?_;rintro j st ⟨e,rfl,he,eu,rfl⟩;refine br (fun hL=>?_) (fun hL=>?_)
 ·have al:e < D.length:=by simpa [vR] using hL
  obtain ⟨x,hx⟩:∃ x,D[e]? = some x:=⟨_,gE al⟩;obtain ⟨d,hd⟩:∃ d,ND[e]? = some d:=⟨_,gE (by omega)⟩;refine ⟨_,⟨by omega,dA hx⟩,?_⟩;refine br (fun c=>?_) (fun c=>?_)
  ·refine aX mo (by decide +kernel) ?_;refine ⟨_,⟨by omega,fV hd⟩,?_⟩;exact ⟨.tup [.v (.int .i64 3),Ft.d (11,d.aC)],ax,3,(11,d.aC),rfl,fun h=>by simp at h⟩
  ·have c:x≠0:=by simp at c;omega
   exact ⟨Nt ⟨ae,order,types,.mk rh rp⟩ 0 R2 (wL ae f ND rt) D (e + 1),(ay 4 rfl (C6 al) rfl rfl rfl (wNB al)),D.length - (e + 1),by omega,e + 1,rfl,by omega,fun i hi=>by
    rcases Nat.lt_succ_iff_lt_or_eq.1 hi with h1 | h1
    ·exact eu i h1
    ·rw [h1,List.getD_eq_getElem?_getD,hx];exact c,rfl⟩
 ·have aN:e=D.length:=by have:=hL;simp [vR] at this;omega
  subst aN;refine bl VN rfl X8 ax (fun r hr=>?_);obtain ⟨ft,rfl,JH⟩:=hr;refine br (fun c=>?_) (fun c=>?_)
  ·refine aX mo (by decide +kernel) ?_;exact ⟨.tup [.v (.int .i64 4),Ft.d ft],ax,4,ft,rfl,fun h=>by simp at h⟩
  ·have c:ft.1=0:=by simpa using c
   exact ⟨.tup [.v (.int .i64 0),Ft.d (0,0)],ax,0,(0,0),rfl,fun _=>Sk (fun i hi=>eu i (by omega)) (JH c)⟩
theorem CW (S:Sch) (hS:S.wt<=1099511627776):Ev Tryz.prog 72 [.agg (ey S)] [] [] (fun r _ _=>∃ b:Bool,r = .v (.bool b)/\(b=true->vF S)):=by
 have hw:=zZ S hS;obtain ⟨ae,order,types,⟨rh,rp⟩⟩:=S;refine ev_go (P:=Tryz.prog) tt tt_ok 5000 12 [.tmp 2] Tryz.func72 rfl Tryz.ntmps72 rfl (nL rfl) (fun E9 w9 hn9 hm9=>?_);refine bl Vu rfl hw ax (fun r hr=>?_);obtain ⟨z,ft,rfl,hz⟩:=hr;exact ⟨_,rfl,fun h=>hz (by simpa using h)⟩
end Go.Proofs.YtfifjddnnmfeoaaGreat
set_option maxRecDepth 100000
namespace Go.Proofs.YtfifjddnnmfeoaaGreat
open Go Go.RowKit Dv Tryz
end Go.Proofs.YtfifjddnnmfeoaaGreat
namespace Go.Proofs.YtfifjddnnmfeoaaGreat
namespace Dv
open Go Go.RowKit
section
variable {P:Program} {ops:Array Oper} {C:World->Prop} {Q:Act->World->Prop} {W:Nat->Bool}
end
section
variable {X:Ctx} {D:Dw}
end
end Dv
end Go.Proofs.YtfifjddnnmfeoaaGreat
set_option maxRecDepth 100000
namespace Go.Proofs.YtfifjddnnmfeoaaGreat
open Go Go.RowKit Dv Tryz
theorem pN (lv:List Wd) (f:Nat->Nat->Bool) (ND:List Nd) (z:Int) (hL:dL f lv.length) (hn:lv.length<=32) (d:Nd) (e:Ed) (a:Nat) (ha:a < lv.length) (hN:dE lv.length ND.length d) (hm:e∈d.au) :
  EvP Tryz.prog 146 [.agg (wL lv f ND z),.agg (jG d),.agg (uG e),.v (.int .i64 a)] (.v (.int .i64 (if d.ag < 7 then a else vP f lv.length a e.label.toNat:Nat))):=by
 obtain ⟨_,⟨h2,Bw⟩,_⟩:=kk hN hm;obtain ⟨ag,aC,lo,hi,most,af,es⟩:=d;obtain ⟨en,eb,ea,et,CT,ew,lB,CU,CV,wz⟩:=e;simp only at h2 Bw;obtain ⟨lb,rfl⟩:∃ n:Nat,CT=n:=⟨_,h2⟩;simp only [Int.toNat_natCast] at Bw ⊢;have hj:=jI lv.length f (by omega) a lb ha Bw;rw [vu hL ha Bw] at hj;refine ev_go (P:=Tryz.prog) tt tt_ok 5000 19 [.tmp 8] Tryz.func146 rfl Tryz.ntmps146 rfl (nL rfl) (fun E9 w9 hn9 hm9=>?_);refine br (fun c=>?_) (fun c=>?_)
 ·have c:ag < 7:=by simpa using c
  rw [if_pos c];exact (rfl:_=_)
 ·have c:¬ ag < 7:=by simpa using c
  rw [if_neg c];refine call_p Gf (hj) ax rfl ?_;exact (rfl:_=_)
theorem Fw (lv:List Wd) (f:Nat->Nat->Bool) (ND:List Nd) (z:Int) (hL:dL f lv.length) (hn:lv.length<=32) (d:Nd) (e:Ed) (bJ a:Nat) (ho:bJ < lv.length) (ha:a < lv.length) (hN:dE lv.length ND.length d) (hm:e∈d.au) :
  EvP Tryz.prog 145 [.agg (wL lv f ND z),.v (.int .i64 bJ),.agg (jG d),.agg (uG e),.v (.int .i64 a)] (.v (.int .i64 (ra f lv.length bJ d e a:Nat))):=by
 have hu:=pN lv f ND z hL hn d e a ha hN hm;obtain ⟨_,⟨h2,Bw⟩,h3,Jk⟩:=kk hN hm
 have hul:(if d.ag < 7 then a else vP f lv.length a e.label.toNat) < lv.length:=by
  split
  ·exact ha
  ·exact zN hL ha Bw
 have hH:ra f lv.length bJ d e a=if f (if d.ag < 7 then a else vP f lv.length a e.label.toNat) bJ=true then 2 else if e.ck≠0/\f (vP f lv.length a e.seen.toNat) bJ=true then 1 else 0:=rfl
 generalize ra f lv.length bJ d e a=H at hH ⊢;generalize (if d.ag < 7 then a else vP f lv.length a e.label.toNat)=u at hu hul hH;obtain ⟨ag,aC,lo,hi,most,af,es⟩:=d;obtain ⟨en,eb,ea,et,CT,ew,lB,CU,CV,wz⟩:=e;simp only at h3 Jk hH;obtain ⟨sn,rfl⟩:∃ n:Nat,CV=n:=⟨_,h3⟩;simp only [Int.toNat_natCast] at Jk hH;have hj:=jI lv.length f (by omega) a sn ha Jk;rw [vu hL ha Jk] at hj;have ng:=zN hL ha Jk;refine ev_go (P:=Tryz.prog) tt tt_ok 5000 41 [.tmp 10] Tryz.func145 rfl Tryz.ntmps145 rfl (nL rfl) (fun E9 w9 hn9 hm9=>?_);refine aD (fun _=>false) mo (by decide +kernel) ?_;refine aG P2 (hu) ax rfl ?_;refine ⟨_,⟨by omega,cT hul⟩,?_⟩;refine ⟨_,⟨by omega,cq ho⟩,?_⟩;refine br (fun c=>?_) (fun c=>?_)
 ·have c:f u bJ=true:=by simpa using c
  rw [if_pos c] at hH;subst hH;exact (rfl:_=_)
 have c:f u bJ=false:=by simpa using c
 rw [if_neg (by rw [c];simp)] at hH;refine aD (fun _=>false) mo (by decide +kernel) ?_;refine br (fun g=>?_) (fun g=>?_)
 ·have g:lB≠0:=by simpa using g
  refine aG Gf (hj) ax rfl ?_;refine ⟨_,⟨by simp [oz],by simpa [oz] using cT ng⟩,?_⟩;refine ⟨_,⟨by omega,cq ho⟩,?_⟩;refine br (fun c2=>?_) (fun c2=>?_)
  ·have c2:f (vP f lv.length a sn) bJ=true:=by simpa [pickB] using c2
   rw [if_pos ⟨g,c2⟩] at hH;subst hH;exact (rfl:_=_)
  ·have c2:f (vP f lv.length a sn) bJ=false:=by simpa [pickB] using c2
   rw [if_neg (by rw [c2];simp)] at hH;subst hH;exact (rfl:_=_)
 ·have g:lB=0:=by simpa using g
  rw [if_neg (by simp [g])] at hH;subst hH;exact (rfl:_=_)
theorem Fx {ND:List Nd} {ks:List Val} {f:Nat->Int} {e:Nat} {x:Val} (h:ks[e]? = some x):refVs ND (ks.drop e) f e=(vm ND x (f e) && refVs ND (ks.drop (e + 1)) f (e + 1)):=by
 rw [drop_cons h,refVs]
abbrev Tv (W:List DV) (v:Val) (d:Nd) (ok:Bool) (e:Nat):St:=
 ⟨[(3,⟨[],.loc 0 0⟩),(5,⟨[],.loc 1 0⟩),(7,⟨[],.loc 2 0⟩),(8,⟨[],.v (.bool ok)⟩),(9,⟨[],.v (.int .i64 e)⟩)],[W,bV v,jG d],[]⟩
set_option maxHeartbeats 4000000 in
theorem rU (a b:Nat) (A B:List (List DV)) (rt:Int) {ND:List Nd} {L:Nat} (bE:∀ n∈ND,dE L ND.length n):∀ (k:Nat) (v:Val),v.wt<=k->v.wt<=1099511627776->∀ i:Int,EvP Tryz.prog 142 [.agg (wG a b A B ND rt),.v (.int .i64 i),.agg (bV v)] (.v (.bool (vm ND v i)))
 | 0,v,h,_=>by have:=v.dr;omega
 | k + 1,.mk q z s ks,h,hb=>fun i=>by
  have ih:=rU a b A B rt bE k;have iP:=eJ ks;have cR:=ch ks;have dG:=hb;rw [Val.wt] at h hb;rw [vm];have AX:=kg ND
  cases hd:dq ND i with
  | none=>
   have hn:=vo hd;refine ev_go (P:=Tryz.prog) tt tt_ok 5000 164 [.tmp 6] Tryz.func142 rfl Tryz.ntmps142 rfl (nL rfl) (fun E9 w9 hn9 hm9=>?_);refine br (fun _=>?_) (fun c=>?_)
   ·exact (rfl:_=_)
   ·exfalso;have:=c;simp [aj,AX] at this;omega
  | some d=>
   obtain ⟨h0,hg⟩:=du hd;obtain ⟨j,rfl⟩:∃ j:Nat,i=j:=⟨i.toNat,by omega⟩;have hg:ND[j]? = some d:=by simpa using hg
   have ng:=(gS hg).1;have hN:=bE d (mG hg);have ni:=hN.k1;have Ha:=hN.k8;have rO:=hN.many;have mP:=fun m=>I5 hN (.mk q z s ks) m;simp only;have j1:=cy d.au;have hbl:=bK d.af;generalize hf:G9 d (.mk q z s ks)=f at mP;have hF:CF d (.mk q z s ks)=CF d (.mk q z s ks):=rfl;obtain ⟨ag,aC,lo,hi,most,af,es⟩:=d;simp only at ni Ha rO j1 hbl;have hkc:((ks.length:Int)=(es.length:Int))↔ks.length=es.length:=by omega
   have Mk:∀ b:Bool,b=pickB (pickB (!decide (q=ag)) true (pickB (!decide (q=3)) (!decide (s=⟨#[]⟩)) false)) true (pickB (decide (0 < (s.size:Int))) (decide (most < (s.size:Int))) false)->b=vl ⟨ag,aC,lo,hi,most,af,es⟩ (.mk q z s ks):=fun b h=>by
    rw [h,q7,Bool.eq_iff_iff];have hB:vl ⟨ag,aC,lo,hi,most,af,es⟩ (.mk q z s ks)=(decide (q≠ag) || (decide (q≠3) && decide (s≠ap)) || (decide (0 < s.size) && decide (most < (s.size:Int)))):=rfl;rw [hB];simp [aj,pickB_and,or_assoc]
   refine ev_go (P:=Tryz.prog) tt tt_ok 5000 164 [.tmp 6] Tryz.func142 rfl Tryz.ntmps142 rfl (nL rfl) (fun E9 w9 hn9 hm9=>?_);refine br (fun c=>?_) (fun _=>?_)
   ·exfalso;have:=c;simp [aj,AX] at this;omega
   refine ⟨_,⟨by omega,fV hg⟩,?_⟩;refine br (fun c=>?_) (fun c=>?_)
   ·have c:=(Mk _ rfl).symm.trans c;rw [if_pos c];exact (rfl:_=_)
   have c:=(Mk _ rfl).symm.trans c;rw [if_neg (by rw [c];simp)];rcases (show ag=1∨ag=2∨ag=3∨ag=4∨ag=5∨ag=6∨ag=7∨ag=8 by omega) with c | c | c | c | c | c | c | c
   all_goals
    repeat (first | (refine br (fun h=>?_) (fun _=>?_);focus (simp [c] at h;done)) | (refine br (fun _=>?_) (fun h=>?_);rotate_left;focus (simp [c] at h;done)))
   all_goals
    try
     refine aD (fun _=>false) mo (by decide +kernel) ?_
     have hc:∀ b:Bool,b=pickB (decide (0<=z)) (decide (z < ((e9 es).length:Int))) false->b=decide (0<=z/\z < es.length):=fun b h=>by
      rw [h,j1,pickB_and,Bool.eq_iff_iff];simp
     refine br (fun g=>?pp) (fun g=>?nn)
     case' pp=>
      have g8:=of_decide_eq_true ((hc _ rfl).symm.trans (by simpa using g));obtain ⟨x,hx8⟩:∃ x,es[z.toNat]? = some x:=⟨_,gE (by omega)⟩;have hm64:=(rO (.inr c)).1;have hw:max 0 (min z (IntKind.i64.wrap (((e9 es).length:Int) - 1)))=z:=by rw [j1,wrap64 (by omega) (by omega)];omega
      refine ⟨_,⟨Int.le_max_left _ _,by rw [hw];exact bA hx8⟩,?_⟩;show rf _ _ _ _
     case' nn=>
      have g8:=of_decide_eq_false ((hc _ rfl).symm.trans (by simpa using g));show rf _ _ _ _
   all_goals
    refine aq (fun j st=>∃ (e:Nat) (ok:Bool),st=Tv (wG a b A B ND rt) (.mk q z s ks) ⟨ag,aC,lo,hi,most,af,es⟩ ok e/\e<=ks.length/\(CF ⟨ag,aC,lo,hi,most,af,es⟩ (.mk q z s ks) && refVs ND ks f 0)=(ok && refVs ND (ks.drop e) f e)/\j=ks.length - e) ks.length (Tv (wG a b A B ND rt) (.mk q z s ks) ⟨ag,aC,lo,hi,most,af,es⟩ _ 0) (weak_mk ⟨_,rfl⟩ wA rfl rfl rfl wB) ⟨0,_,rfl,by omega,congrArg (fun b=>b && refVs ND ks f 0) ?_,by omega⟩ ?_
    ·first
      | (simp [CF,c,aj,pickB_and,Val.n,Val.ks,j1,hbl,cR,hkc,g8,hx8];rw [(gS hx8).2];cases x.bare<;>simp;done)
      | (simp [CF,c,aj,pickB_and,Val.n,Val.ks,j1,hbl,cR,hkc,g8];try rfl;done)
      | (simp [CF,c,aj,pickB_and,Val.n,Val.ks,j1,hbl,cR,hkc];try rfl;done)
    ·rintro _ st ⟨e,ok,rfl,he,aH,rfl⟩;refine br (fun hL=>?_) (fun hL=>?_)
     ·have hL:e < ks.length/\ok=true:=by
       have:=hL;simp [pickB_and,cR] at this;exact this
      obtain ⟨al,hok1⟩:=hL;obtain ⟨x,hx⟩:∃ x,ks[e]? = some x:=⟨_,gE al⟩;have T5:=gY (mG hx);rw [hok1,Bool.true_and,Fx hx] at aH;have dF:=ih x (by omega) (by omega) (f e);obtain ⟨xk,xn,xs,xl⟩:=x;refine aD (fun _=>false) mo (by decide +kernel) ?_;refine aG VT (mP e) ax rfl ?_;refine ⟨_,⟨by omega,dh hx⟩,?_⟩;refine aG P1 (dF) ax rfl ?_;exact ⟨Tv (wG a b A B ND rt) (.mk q z s ks) ⟨ag,aC,lo,hi,most,af,es⟩ _ (e + 1),(weak_mk ⟨_,rfl⟩ wA rfl rfl rfl (wNB al)),ks.length - (e + 1),by omega,e + 1,_,rfl,by omega,aH,rfl⟩
     ·have hL:¬ (e < ks.length/\ok=true):=by
       have:=hL;simp [pickB_and,cR] at this;simpa using this
      refine (congrArg (fun b=>DV.v (.bool b)) ?_:_=_);rw [aH]
      cases ok with
      | false=>rfl
      | true=>rw [List.drop_of_length_le (by simp at hL;omega),refVs];all_goals rfl
theorem rV (d:Nd) (v:Val) (j:Nat) (e:Ed) (h:cP d v.n j=some e) (hz:d.ag=8->0<=v.n/\v.n < d.au.length) (jq:d.au.length<=1099511627776) :
  EvP Tryz.prog 84 [.agg (jG d),.agg (bV v),.v (.int .i64 j)] (.agg (uG e)):=by
 obtain ⟨ag,aC,lo,hi,most,af,es⟩:=d;obtain ⟨k,n,s,ks⟩:=v;simp only [Val.n] at h hz jq;have j1:=cy es;unfold cP at h;simp only at h;refine ev_go (P:=Tryz.prog) tt tt_ok 5000 28 [.cell 6 168] Tryz.func84 rfl Tryz.ntmps84 rfl (nL rfl) (fun E9 w9 hn9 hm9=>?_);refine br (fun c=>?_) (fun c=>?_)
 ·have c:ag=7:=by simpa using c
  rw [if_pos c] at h;have hj:=(gS h).1;refine ⟨_,⟨by omega,bA h⟩,?_⟩;exact ⟨_,ax,rfl⟩
 have c7:¬ ag=7:=by simpa using c
 rw [if_neg c7] at h;refine br (fun c=>?_) (fun c=>?_)
 ·have c:ag=8:=by simpa using c
  rw [if_pos c] at h;have hz:=hz c;refine ⟨_,⟨by omega,bA h⟩,?_⟩;exact ⟨_,ax,rfl⟩
 have c8:¬ ag=8:=by simpa using c
 rw [if_neg c8] at h;refine ⟨_,⟨by omega,bA h⟩,?_⟩;exact ⟨_,ax,rfl⟩
theorem Hp {v:Val} (h:rngW v):tW v.n:=by obtain ⟨_,_,_,_⟩:=v;rw [rngW] at h;exact h.2.1
theorem Nu {L:Nat} {ND:List Nd} (bE:∀ d∈ND,dE L ND.length d) {v:Val} {i:Int} (hr:rngW v) (h:lA ND v i=true):textV ND v i ≠ []:=by
 obtain ⟨d,hd,hc⟩:=pK h;have h1:=(sS (bE d (mG (du hd).2)) (Hp hr) hc).1;obtain ⟨k,n,s,ks⟩:=v;rw [textV,hd];simp [h1]
def Pz (ND:List Nd) (x:Val) (i:Int) (B:Bool):List UInt8:=if B=true then textV ND x i else []
theorem z6 {S:Sch} {ND:List Nd} {PC:List DV} (hP:ln S ND PC) (x:Val) (hx:x.wt<=1099511627776) (wb:rngW x) (o:Int) (B:Bool) (NQ:EvP Tryz.prog 78 [.pt PC 0,.v (.int .i64 o),.agg (bV x)] (.v (.bool B))) (hw:B=true->lA ND x (bL S)=true) :
  EvP Tryz.prog 31 [.pt PC 0,.v (.int .i64 o),.agg (bV x)] (.tup [.v (.string (ba (Pz ND x (bL S) B))),.v (.bool B)]):=by
 have je:=hP.root;have aR:=fun h=>Nu hP.ok wb (hw h);have JG:=fun h p hp=>pL hP x x.wt x (Nat.le_refl _) hx wb (bL S) (hw h) [] p hp (by rw [List.length_nil];omega);unfold Pz;simp only [List.nil_append] at JG;generalize textV ND x (bL S)=T at *;generalize bL S=rt at *;clear hw;obtain ⟨k,n,s,ks⟩:=x;refine sB (s:=false) (bt:=[(1,161)]) (hbt:=fun p hp=>Nat.zero_le _) (P:=Tryz.prog) tt tt_ok 5000 20 [.tmp 6,.tmp 7] Tryz.func31 rfl Tryz.ntmps31 rfl (nL rfl) (fun E9 w9 hn9 hm9=>?_);refine call_p Vg (NQ) ax rfl ?_
 cases B with
 | false=>
  rw [if_neg (by simp)];exact ⟨.tup [.v (.string _),.v (.bool _)],ax,rfl⟩
 | true=>
  rw [if_pos rfl];refine aD (fun i=>Nat.beq i 4) mo (by decide +kernel) ?_;refine aG U5 (je) ax rfl ?_;refine iU rfl (Ct ⟨0,5,1,none⟩ ⟨[(8,⟨[],.loc 1 0⟩)],[bV (.mk k n s ks),[.v (.pointer none),.sl 1 [] (some 0)]],[⟨0,5,1,none⟩]⟩ rfl ?_ rfl ?_ ⟨⟨_,rfl,ah rfl⟩,trivial⟩ rfl rfl ?_)
  ·repeat' (first | exact rfl | exact ah rfl | refine ⟨_,_,rfl,?_,?_⟩)
  ·repeat' (first | exact rfl | exact ah rfl | exact bm (Nat.le_refl _) rfl | refine ⟨_,_,rfl,?_,?_⟩)
  refine l4 2 1 Kq rfl rfl rfl aL aL (JG rfl (.v (.pointer none)) (.inl rfl)) (fun r fZ bR hΦ h1 h2=>?_);obtain ⟨rfl,rfl,rfl⟩:=hΦ;refine G3 rfl (kt:=0) (l:=T) (.head _) rfl (aR rfl) rfl rfl rfl rfl ?_;exact ⟨.tup [.v (.string _),.v (.bool _)],ax,rfl⟩
theorem Fy (v:Val) (hv:v.wt<=1099511627776):EvP Tryz.prog 85 [.agg (bV v)] (.v (.string (ba (jY v)))):=by
 have e5:=@end_5 v;have e7:=@end_7 v;have en:=@Hg v;have Y2:=@Q8 v;generalize jY v=Z at *;obtain ⟨k,n,s,ks⟩:=v;have cR:=ch ks;simp only [Val.k,Val.ks] at *;refine ev_go (P:=Tryz.prog) tt tt_ok 5000 13 [.tmp 2] Tryz.func85 rfl Tryz.ntmps85 rfl (nL rfl) (fun E9 w9 hn9 hm9=>?_);refine br (fun c=>?_) (fun c=>?_)
 ·rw [e5 (by simpa using c)];exact (rfl:_=_)
 have c5:¬ k=5:=by simpa using c
 refine br (fun c=>?_) (fun c=>?_)
 ·rw [e7 (by simpa using c)];exact (rfl:_=_)
 have c7:¬ k=7:=by simpa using c
 refine br (fun g=>?_) (fun g=>?_)
 ·have g:ks ≠ []:=by rintro rfl;simp [cR] at g
  rw [Y2 ⟨c5,c7⟩ g];exact (rfl:_=_)
 ·have g:ks=[]:=by simpa [cR] using g
  rw [en ⟨c5,c7⟩ g];exact (rfl:_=_)
theorem rW (d:Nd) (v:Val) (hs:v.s.size<=1099511627776) (hn:tW v.n) (h4:v.k=4->0<=v.n/\v.n < d.af.length) (h8:v.k=8->0<=v.n/\v.n < d.au.length) (Iy:∀ e∈d.au,v.k=8->e.name.size<=32) :
  EvP Tryz.prog 83 [.agg (jG d),.agg (bV v)] (.v (.string (ba (ee d v)))):=by
 have hl:=Fe v hs hn;have o1:=@opn_1 d v;have o2:=@Fg d v;have o3:=fun x=>@opn_4 d v x;have o4:=@yf d v;have o5:=@opn_5 d v;have o6n:=@Fh d v;have o6s:=@Fi d v;have o7:=@opn_7 d v;have o8n:=fun e=>@Fj d v e;have o8s:=fun e=>@Fk d v e;generalize ee d v=O at *;generalize dw v=S at *;generalize bM v=B at *;obtain ⟨ag,aC,lo,hi,most,af,es⟩:=d;obtain ⟨k,n,s,ks⟩:=v;have cR:=ch ks;simp only [Val.k,Val.n,Val.ks] at *
 have YB:∀ b:Bool,b=decide (0 < ((dVals ks).length:Int))->(b=true->ks ≠ [])/\(b=false->ks=[]):=fun b hb=>by
  rw [hb,cR];refine ⟨fun g=>?_,fun g=>by simpa using g⟩;rintro rfl;simp at g
 refine ev_go (P:=Tryz.prog) tt tt_ok 5000 58 [.tmp 4] Tryz.func83 rfl Tryz.ntmps83 rfl (nL rfl) (fun E9 w9 hn9 hm9=>?_);obtain ⟨hM1,Y7⟩:=YB _ rfl;refine br (fun c=>?_) (fun c=>?_)
 ·have c:k=1:=by simpa using c
  refine br (fun g=>?_) (fun g=>?_)
  ·rw [o1 c (by simpa using g)];exact (rfl:_=_)
  ·rw [o2 c (by simpa using g)];exact (rfl:_=_)
 have c1:¬ k=1:=by simpa using c
 refine br (fun c=>?_) (fun c=>?_)
 ·have c4:k=4:=by simpa using c
  obtain ⟨h0,h1⟩:=h4 c4;obtain ⟨x,hx⟩:∃ x,af[n.toNat]? = some x:=⟨_,gE (by omega)⟩;rw [o3 x c4 hx];refine ⟨_,⟨by omega,eK hx⟩,?_⟩;exact congrArg (fun q=>DV.v (.string q)) (nq x).symm
 have c4:¬ k=4:=by simpa using c
 refine br (fun c=>?_) (fun c=>?_)
 ·rw [o5 (by simpa using c)];exact (rfl:_=_)
 have c5:¬ k=5:=by simpa using c
 refine br (fun c=>?_) (fun c=>?_)
 ·have c:k=6:=by simpa using c
  refine br (fun g=>?_) (fun g=>?_)
  ·rw [o6s c (hM1 g)];exact (rfl:_=_)
  ·rw [o6n c (Y7 g)];exact (rfl:_=_)
 have c6:¬ k=6:=by simpa using c
 refine br (fun c=>?_) (fun c=>?_)
 ·rw [o7 (by simpa using c)];exact (rfl:_=_)
 have c7:¬ k=7:=by simpa using c
 refine br (fun c=>?_) (fun c=>?_)
 ·have c8:k=8:=by simpa using c
  obtain ⟨h0,h1⟩:=h8 c8;obtain ⟨x,hx⟩:∃ x,es[n.toNat]? = some x:=⟨_,gE (by omega)⟩;have wM:=Iy x (mG hx) c8;refine br (fun g=>?_) (fun g=>?_)
  ·rw [o8s x c8 hx (hM1 g),<- Fm];refine ⟨_,⟨by omega,bA hx⟩,?_⟩;refine ⟨by show x.name.size + 1<=_;omega,?_⟩;exact (rfl:_=_)
  ·rw [o8n x c8 hx (Y7 g),nq];refine ⟨_,⟨by omega,bA hx⟩,?_⟩;exact (rfl:_=_)
 have c8:¬ k=8:=by simpa using c
 rw [o4 (by omega)];refine call_p ZP (hl) ax rfl ?_;exact (rfl:_=_)
abbrev zN0:Nd:=⟨0,0,0,0,0,[],[]⟩
abbrev rX (W:List DV) (v:Val) (n:List DV) (L:List UInt8) (e:Nat):St:=
 ⟨[(3,⟨[],.loc 0 0⟩),(5,⟨[],.loc 1 0⟩),(7,⟨[],.loc 2 0⟩),(8,⟨[],.v (.string (ba L))⟩),(9,⟨[],.v (.int .i64 e)⟩)],[W,bV v,n],[]⟩
theorem rY (lv:List Wd) (f:Nat->Nat->Bool) (ND:List Nd) (z0:Int) (bE:∀ n∈ND,dE lv.length ND.length n) (bI:∀ n∈ND,n.au.length<=1099511627776) :
  ∀ (k:Nat) (v:Val),v.wt<=k->v.wt<=1099511627776->rngW v->∀ i:Int,lA ND v i=true ->
   EvP Tryz.prog 33 [.agg (wL lv f ND z0),.v (.int .i64 i),.agg (bV v)] (.v (.string (ba (textV ND v i))))
 | 0,v,h,_=>by have:=v.dr;omega
 | k + 1,v,h,hb=>fun hr i hw=>by
  have ih:=rY lv f ND z0 bE bI k;obtain ⟨d,hd,hc⟩:=pK hw;obtain ⟨h0,hg⟩:=du hd;obtain ⟨j,rfl⟩:∃ j:Nat,i=j:=⟨i.toNat,by omega⟩;have hg:ND[j]? = some d:=by simpa using hg
  have ng:=(gS hg).1;have hN:=bE d (mG hg);have Fz:=bI d (mG hg);have ni:=hN.k1;have Ha:=hN.k8;have hnn:=Hp hr;obtain ⟨Y3,jN⟩:=sS hN hnn hc;have hvw:v.wt=64 + v.s.size + dZ v.ks:=by obtain ⟨q,z,s,ks⟩:=v;rfl
  have eM:=mW bE v j hr hw
  have hT:textV ND v j=ee d v ++ textVs ND v.ks d v.n 0 ++ jY v:=by
   obtain ⟨q,z,s,ks⟩:=v;rw [textV,hd];rfl
  have j2:=Fy v hb;by_cases c9:9<=v.k
  ·have Ul:v.ks=[]:=by
    rcases hc with h | h | h
    ·exact h.2.2
    ·exact h.2.2.1
    ·omega
   have kJ:=rW zN0 v (by omega) hnn (by omega) (by omega) (by simp);rw [show ee zN0 v=ee d v by rw [yf (by omega),yf (by omega)]] at kJ;have jd:jY v=[]:=Hg (by omega) Ul;rw [Ul,jd,textVs,List.append_nil,List.append_nil] at hT;rw [jd] at j2;rw [hT] at eM ⊢;generalize ee d v=O at *;clear hc hT;obtain ⟨q,z,s,ks⟩:=v;simp only [Val.k,Val.n,Val.s,Val.ks] at *;subst Ul;refine ev_go (P:=Tryz.prog) tt tt_ok 5000 61 [.tmp 6] Tryz.func33 rfl Tryz.ntmps33 rfl (nL rfl) (fun E9 w9 hn9 hm9=>?_);refine br (fun c=>absurd c (by simp;omega)) (fun _=>?_);refine call_p Vi (kJ) ax rfl ?_;refine aq (fun j st=>st=rX (wL lv f ND z0) (.mk q z s []) zNd O 0/\j=0) 0 (rX (wL lv f ND z0) (.mk q z s []) zNd O 0) (weak_mk ⟨_,rfl⟩ wA rfl rfl rfl F2) ⟨rfl,rfl⟩ ?_;rintro _ st ⟨rfl,rfl⟩;refine call_p Vj (j2) ax rfl ?_;refine ⟨by show O.length + 0<=_;omega,?_⟩;refine (congrArg (fun q=>DV.v (.string q)) ((bU O []).trans (by rw [List.append_nil])):_=_)
  ·have kJ:=rW d v (by omega) hnn (by
    intro c4;rcases hc with h | h | h
    ·omega
    ·exact h.2.2.2 c4
    ·omega) (by
    intro c8;rcases hc with h | h | h
    ·omega
    ·omega
    ·exact shell_8 h.2.2.1 (by omega)) (by
    intro e he c8
    have hk:v.k=d.ag:=by
     rcases hc with h | h | h
     ·omega
     ·exact h.1
     ·exact h.1
    exact gK ((hN.many (.inr (by omega))).2.2.2 e he))
   have Am:v.ks=[]∨(v.k=d.ag/\5<=d.ag/\shellF d v=true/\gn ND v.ks d v.n 0=true):=by
    rcases hc with h | h | h
    ·omega
    ·exact .inl h.2.2.1
    ·exact .inr h
   have Uk:∀ m,m < v.ks.length->∃ e,cP d v.n m=some e/\lA ND (v.ks[m]?.getD v) e.to=true/\v.k=d.ag/\(d.ag=8->0<=v.n/\v.n < d.au.length)/\5<=d.ag:=fun m hm=>by
    rcases Am with h | h
    ·rw [h] at hm;exact absurd hm (Nat.not_lt_zero _)
    ·obtain ⟨e,h1,h2⟩:=vv h.2.2.2 (gE hm);rw [Nat.zero_add] at h1;exact ⟨e,h1,by rw [gE hm];exact h2,h.1,shell_8 h.2.2.1,h.2.1⟩
   have hE:=fun m e h1 h2=>rV d v m e h1 h2 Fz;have sC:∀ e∈d.au,d.ag=7->e.name.size<=32:=fun e he c=>gK ((hN.many (.inl c)).2.2.2 e he);have X2:=fun e x ed (h1:v.ks[e]? = some x) (h2:cP d v.n e=some ed)=>rQ (ND:=ND) h1 h2;have X3:textVs ND (v.ks.take 0) d v.n 0=[]:=by rw [List.take_zero,textVs]
   have X4:textVs ND (v.ks.take v.ks.length) d v.n 0=textVs ND v.ks d v.n 0:=by rw [List.take_length]
   have ll:∀ e,e<=v.ks.length->(textVs ND (v.ks.take e) d v.n 0).length<=50 * dZ (v.ks.take e):=fun e he=>by
    rcases Am with h | h
    ·rw [h,List.take_nil,textVs];exact Nat.zero_le _
    ·exact lh bE (v.ks.take e) d v.n 0 hN h.2.1 (vA e (by obtain ⟨_,_,_,_⟩:=v;rw [rngW] at hr;exact hr.2.2)) (vz e h.2.2.2)
   have N9:=zT v.ks;have j1:=zS v;rw [hT] at eM ⊢;rw [<- X4];generalize NL:(fun e=>textVs ND (v.ks.take e) d v.n 0)=X at *;have hX:∀ e,textVs ND (v.ks.take e) d v.n 0=X e:=fun e=>by rw [<- NL]
   simp only [hX] at X2 X3 ll ⊢;generalize ee d v=O at *;generalize jY v=Z at *;clear hc hT X4 eM hX NL Am;obtain ⟨q,z,s,ks⟩:=v;obtain ⟨ag,aC,lo,hi,most,af,es⟩:=d;have cR:=ch ks;have iP:=eJ ks;simp only [Val.k,Val.n,Val.s,Val.ks] at *;refine ev_go (P:=Tryz.prog) tt tt_ok 5000 61 [.tmp 6] Tryz.func33 rfl Tryz.ntmps33 rfl (nL rfl) (fun E9 w9 hn9 hm9=>?_);refine br (fun _=>?_) (fun c=>absurd c (by simp;omega));refine ⟨_,⟨by omega,fV hg⟩,?_⟩;refine call_p Vi (kJ) ax rfl ?_;refine aq (fun j st=>∃ e:Nat,st=rX (wL lv f ND z0) (.mk q z s ks) (jG ⟨ag,aC,lo,hi,most,af,es⟩) (O ++ X e) e/\e<=ks.length/\j=ks.length - e) ks.length (rX (wL lv f ND z0) (.mk q z s ks) (jG ⟨ag,aC,lo,hi,most,af,es⟩) O 0) (weak_mk ⟨_,rfl⟩ wA rfl rfl rfl F2) ⟨0,by rw [X3,List.append_nil],by omega,by omega⟩ ?_;rintro _ st ⟨e,rfl,he,rfl⟩;have hXl:=ll e he;refine br (fun hL=>?_) (fun hL=>?_)
   ·have al:e < ks.length:=by simpa [cR,Val.ks] using hL
    obtain ⟨ed,vx,Q9,Ad,hk88,h5⟩:=Uk e al;obtain ⟨x,hx⟩:∃ x,ks[e]? = some x:=⟨_,gE al⟩;rw [hx] at Q9;have T5:=gY (mG hx);have Zf:=rc hx;have PJ:rngW x:=by rw [rngW] at hr;exact km hr.2.2 (mG hx)
    have vN:=mW bE x ed.to PJ Q9;have nh:=ih x (by omega) (by omega) PJ ed.to Q9;have vB:=X2 e x ed hx vx;have hE:=hE e ed vx hk88;have zU:=sC ed (vy vx);generalize textV ND x ed.to=t at nh vB vN;obtain ⟨xk,xn,xs,xl⟩:=x;refine br (fun c=>?_) (fun c=>?_)
    ·have c:e≠0:=by rintro rfl;simp at c
     rw [if_neg c] at vB;refine ⟨by show (O ++ X e).length + 2<=_;simp only [List.length_append];omega,?_⟩;refine call_p RX (hE) ax rfl ?_;refine br (fun c7=>?_) (fun c7=>?_)
     ·have c7:ag=7:=by have:=of_decide_eq_true c7;omega
      have zU:=zU c7;rw [if_pos c7] at vB;have hV:(ba (O ++ X e) ++ ba [44,32])=ba (O ++ X e ++ [44,32]):=(bU (O ++ X e) [44,32])
      have zV:(((ba (O ++ X e) ++ ba [44,32]) ++ ed.name) ++ ba [58,32]) ++ ba t=ba (O ++ X (e + 1)):=by
       rw [hV,vB,<- nq ed.name];refine (congrArg (fun q=>(q ++ ba [58,32]) ++ ba t) (bU _ _)).trans ?_;refine (congrArg (fun q=>q ++ ba t) (bU _ _)).trans ?_;refine (bU _ _).trans (congrArg ba ?_);simp only [List.append_assoc,lU]
      have Aw:((ba (O ++ X e) ++ ba [44,32])).size=((O ++ X e ++ [44,32])).length:=by rw [hV];all_goals rfl
      refine ⟨by rw [Aw];simp only [List.length_append,List.length_cons,List.length_nil];omega,?_⟩;refine ⟨by rw [eE,Aw];show _ + 2<=_;simp only [List.length_append,List.length_cons,List.length_nil];omega,?_⟩;refine aD (fun _=>false) mo (by decide +kernel) ?_;refine ⟨_,⟨by omega,dh hx⟩,?_⟩;refine aG Kp (nh) ax rfl ?_;refine ⟨by rw [eE,eE,Aw];show _ + 2 + t.length<=_;simp only [List.length_append,List.length_cons,List.length_nil];omega,?_⟩;exact ⟨rX (wL lv f ND z0) (.mk q z s ks) (jG ⟨ag,aC,lo,hi,most,af,es⟩) (O ++ X (e + 1)) (e + 1),(ay 3 rfl (by repeat' (first | exact rfl | exact ah rfl | exact ak (cA al (by omega)) | exact ic zV | refine ⟨_,_,rfl,?_,?_⟩)) rfl rfl rfl (by repeat' (first | exact trivial | exact ah rfl | exact ak (cA al (by omega)) | exact ic zV | refine ⟨⟨_,rfl,?_⟩,?_⟩))),ks.length - (e + 1),by omega,e + 1,rfl,by omega,rfl⟩
     ·have c7:¬ ag=7:=by have:=of_decide_eq_false c7;omega
      rw [if_neg c7,List.nil_append] at vB;have hV:(ba (O ++ X e) ++ ba [44,32])=ba (O ++ X e ++ [44,32]):=(bU (O ++ X e) [44,32])
      have zV:(ba (O ++ X e) ++ ba [44,32]) ++ ba t=ba (O ++ X (e + 1)):=by
       rw [hV,vB];refine (bU _ _).trans (congrArg ba ?_);simp only [List.append_assoc]
      have Aw:((ba (O ++ X e) ++ ba [44,32])).size=((O ++ X e ++ [44,32])).length:=by rw [hV];all_goals rfl
      refine aD (fun _=>false) mo (by decide +kernel) ?_;refine ⟨_,⟨by omega,dh hx⟩,?_⟩;refine aG Kp (nh) ax rfl ?_;refine ⟨by rw [Aw];show _ + t.length<=_;simp only [List.length_append,List.length_cons,List.length_nil];omega,?_⟩;exact ⟨rX (wL lv f ND z0) (.mk q z s ks) (jG ⟨ag,aC,lo,hi,most,af,es⟩) (O ++ X (e + 1)) (e + 1),(ay 3 rfl (by repeat' (first | exact rfl | exact ah rfl | exact ak (cA al (by omega)) | exact ic zV | refine ⟨_,_,rfl,?_,?_⟩)) rfl rfl rfl (by repeat' (first | exact trivial | exact ah rfl | exact ak (cA al (by omega)) | exact ic zV | refine ⟨⟨_,rfl,?_⟩,?_⟩))),ks.length - (e + 1),by omega,e + 1,rfl,by omega,rfl⟩
    ·have c:e=0:=by simp at c;omega
     rw [if_pos c,List.nil_append] at vB;refine call_p RX (hE) ax rfl ?_;refine br (fun c7=>?_) (fun c7=>?_)
     ·have c7:ag=7:=by have:=of_decide_eq_true c7;omega
      have zU:=zU c7;rw [if_pos c7] at vB;have hV:ba (O ++ X e)=ba (O ++ X e):=rfl
      have zV:((ba (O ++ X e) ++ ed.name) ++ ba [58,32]) ++ ba t=ba (O ++ X (e + 1)):=by
       rw [hV,vB,<- nq ed.name];refine (congrArg (fun q=>(q ++ ba [58,32]) ++ ba t) (bU _ _)).trans ?_;refine (congrArg (fun q=>q ++ ba t) (bU _ _)).trans ?_;refine (bU _ _).trans (congrArg ba ?_);simp only [List.append_assoc,lU]
      have Aw:(ba (O ++ X e)).size=((O ++ X e)).length:=by rw [hV];all_goals rfl
      refine ⟨by rw [Aw];simp only [List.length_append,List.length_cons,List.length_nil];omega,?_⟩;refine ⟨by rw [eE,Aw];show _ + 2<=_;simp only [List.length_append,List.length_cons,List.length_nil];omega,?_⟩;refine aD (fun _=>false) mo (by decide +kernel) ?_;refine ⟨_,⟨by omega,dh hx⟩,?_⟩;refine aG Kp (nh) ax rfl ?_;refine ⟨by rw [eE,eE,Aw];show _ + 2 + t.length<=_;simp only [List.length_append,List.length_cons,List.length_nil];omega,?_⟩;exact ⟨rX (wL lv f ND z0) (.mk q z s ks) (jG ⟨ag,aC,lo,hi,most,af,es⟩) (O ++ X (e + 1)) (e + 1),(ay 3 rfl (by repeat' (first | exact rfl | exact ah rfl | exact ak (cA al (by omega)) | exact ic zV | refine ⟨_,_,rfl,?_,?_⟩)) rfl rfl rfl (by repeat' (first | exact trivial | exact ah rfl | exact ak (cA al (by omega)) | exact ic zV | refine ⟨⟨_,rfl,?_⟩,?_⟩))),ks.length - (e + 1),by omega,e + 1,rfl,by omega,rfl⟩
     ·have c7:¬ ag=7:=by have:=of_decide_eq_false c7;omega
      rw [if_neg c7,List.nil_append] at vB;have hV:ba (O ++ X e)=ba (O ++ X e):=rfl
      have zV:ba (O ++ X e) ++ ba t=ba (O ++ X (e + 1)):=by
       rw [hV,vB];refine (bU _ _).trans (congrArg ba ?_);simp only [List.append_assoc]
      have Aw:(ba (O ++ X e)).size=((O ++ X e)).length:=by rw [hV];all_goals rfl
      refine aD (fun _=>false) mo (by decide +kernel) ?_;refine ⟨_,⟨by omega,dh hx⟩,?_⟩;refine aG Kp (nh) ax rfl ?_;refine ⟨by rw [Aw];show _ + t.length<=_;simp only [List.length_append,List.length_cons,List.length_nil];omega,?_⟩;exact ⟨rX (wL lv f ND z0) (.mk q z s ks) (jG ⟨ag,aC,lo,hi,most,af,es⟩) (O ++ X (e + 1)) (e + 1),(ay 3 rfl (by repeat' (first | exact rfl | exact ah rfl | exact ak (cA al (by omega)) | exact ic zV | refine ⟨_,_,rfl,?_,?_⟩)) rfl rfl rfl (by repeat' (first | exact trivial | exact ah rfl | exact ak (cA al (by omega)) | exact ic zV | refine ⟨⟨_,rfl,?_⟩,?_⟩))),ks.length - (e + 1),by omega,e + 1,rfl,by omega,rfl⟩
   ·have aN:e=ks.length:=by
     have:=hL;simp [cR,Val.ks] at this;omega
    subst aN;have hw9:=N9 ks.length;refine call_p Vj (j2) ax rfl ?_;refine ⟨by show (O ++ X ks.length).length + Z.length<=_;simp only [List.length_append];omega,?_⟩;exact congrArg (fun q=>DV.v (.string q)) (bU (O ++ X ks.length) Z)
abbrev Um (PC LC:List DV) (bJ:Int):List DV:=[.pt PC 0,.pt LC 0,.v (.int .i64 bJ)]
section
variable {n:Nat} {f:Nat->Nat->Bool} {af:List ByteArray} {LC:List DV} (hR:I8 n f af LC) (PC:List DV)
include hR
theorem vG (bJ a:Nat) (ho:bJ < n) (ha:a < n):EvP Tryz.prog 198 [.agg (Um PC LC bJ),.v (.int .i64 a)] (.v (.bool (f a bJ))):=by
 have hq:=hR.leq a bJ;rw [M9 ha ho] at hq;refine ev_go (P:=Tryz.prog) tt tt_ok 5000 11 [.tmp 4] Tryz.func198 rfl Tryz.ntmps198 rfl (nL rfl) (fun E9 w9 hn9 hm9=>?_);refine call_p Z3 (hq) ax rfl ?_;exact (rfl:_=_)
theorem vH {ND:List Nd} (bJ a:Nat) (ho:bJ < n) (ha:a < n) (d:Nd) (e:Ed) (hN:dE n ND.length d) (hm:e∈d.au):EvP Tryz.prog 199 [.agg (Um PC LC bJ),.agg (uG e),.v (.int .i64 a)] (.v (.bool (decide (e.ck≠0) && f (vP f n a e.seen.toNat) bJ))):=by
 obtain ⟨_,_,h3,Jk⟩:=kk hN hm;have hj:=hR.join a e.seen.toNat ha Jk;rw [<- h3] at hj;have hs:=vG hR PC bJ (vP f n a e.seen.toNat) ho (zN hR.ok ha Jk);obtain ⟨en,eb,ea,et,CT,ew,lB,CU,CV,wz⟩:=e;refine ev_go (P:=Tryz.prog) tt tt_ok 5000 20 [.tmp 6] Tryz.func199 rfl Tryz.ntmps199 rfl (nL rfl) (fun E9 w9 hn9 hm9=>?_);refine aD (fun _=>false) mo (by decide +kernel) ?_;refine br (fun c=>?_) (fun c=>?_)
 ·have c:lB≠0:=by simpa using c
  refine aG Ky (hj) ax rfl ?_;refine aG P8 (hs) ax rfl ?_;rw [show decide ((⟨en,eb,ea,et,CT,ew,lB,CU,CV,wz⟩:Ed).ck≠0)=true from decide_eq_true c,Bool.true_and];exact (rfl:_=_)
 ·have c:¬ lB≠0:=by simpa using c
  rw [show decide ((⟨en,eb,ea,et,CT,ew,lB,CU,CV,wz⟩:Ed).ck≠0)=false from decide_eq_false c,Bool.false_and];exact (rfl:_=_)
theorem FA {ND:List Nd} (bJ:Int) (a:Nat) (ha:a < n) (d:Nd) (v:Val) (j:Nat) (e:Ed) (h:cP d v.n j=some e) (hm:e∈d.au) (hN:dE n ND.length d) (h5:5<=d.ag) (hz:d.ag=8->(0<=v.n/\v.n < d.au.length)/\j=0) (jq:d.au.length<=1099511627776) :
  EvP Tryz.prog 197 [.agg (Um PC LC bJ),.agg (jG d),.agg (bV v),.v (.int .i64 j),.v (.int .i64 a)] (.tup [.agg (uG e),.v (.int .i64 (lz f n d e a:Nat))]):=by
 obtain ⟨_,⟨h2,Bw⟩,_⟩:=kk hN hm;have hj:=hR.join a e.label.toNat ha Bw;rw [<- h2] at hj;have hU:lz f n d e a=if d.ag < 7 then a else vP f n a e.label.toNat:=rfl
 generalize lz f n d e a=U at hU ⊢;have h8:=hN.k8;obtain ⟨ag,aC,lo,hi,most,Un,es⟩:=d;obtain ⟨k,z,s,ks⟩:=v;simp only [Val.n] at h hz jq hU h5 h8;have j1:=cy es;unfold cP at h;simp only at h;have hd:∃ en eb ea et CT ew lB CU CV wz,e=⟨en,eb,ea,et,CT,ew,lB,CU,CV,wz⟩:=⟨_,_,_,_,_,_,_,_,_,_,rfl⟩
 have Tw:∃ (l:List (List DV)) (b:Bool),EvP Tryz.prog 237 [.agg (jG ⟨ag,aC,lo,hi,most,Un,es⟩),.agg (bV (.mk k z s ks))] (.tup [.sl 10 l none,.v (.bool b)])/\(if ag < 7 then b=false/\l[0]? = some (uG e) else b=true/\l[j]? = some (uG e)):=by
  by_cases c7:ag=7
  ·rw [if_pos c7] at h;refine ⟨e9 es,true,?_,by rw [if_neg (by omega)];exact ⟨rfl,bA h⟩⟩;refine ev_go (P:=Tryz.prog) tt tt_ok 5000 24 [.tmp 4,.tmp 5] Tryz.func237 rfl Tryz.ntmps237 rfl (nL rfl) (fun E9 w9 hn9 hm9=>?_);refine br (fun _=>?_) (fun c=>absurd c7 (by simpa using c));exact ⟨_,ax,rfl⟩
  rw [if_neg c7] at h;by_cases c8:ag=8
  ·rw [if_pos c8] at h;have hz:=hz c8;have hw:IntKind.i64.wrap (z + 1)=z + 1:=wrap64 (by omega) (by omega);refine ⟨((e9 es).take (IntKind.i64.wrap (z + 1)).toNat).drop z.toNat,true,?_,by rw [if_neg (by omega),hz.2,List.getElem?_drop,List.getElem?_take,if_pos (by rw [hw];omega)];exact ⟨rfl,bA h⟩⟩;refine ev_go (P:=Tryz.prog) tt tt_ok 5000 24 [.tmp 4,.tmp 5] Tryz.func237 rfl Tryz.ntmps237 rfl (nL rfl) (fun E9 w9 hn9 hm9=>?_);refine br (fun c=>absurd (by simpa using c) c7) (fun _=>?_);refine br (fun _=>?_) (fun c=>absurd c8 (by simpa using c));refine ⟨⟨by omega,by rw [hw];omega,by rw [hw,cy];simp only;omega⟩,?_⟩;exact ⟨_,ax,rfl⟩
  ·rw [if_neg c8] at h;refine ⟨e9 es,false,?_,by rw [if_pos (by omega)];exact ⟨rfl,bA h⟩⟩;refine ev_go (P:=Tryz.prog) tt tt_ok 5000 24 [.tmp 4,.tmp 5] Tryz.func237 rfl Tryz.ntmps237 rfl (nL rfl) (fun E9 w9 hn9 hm9=>?_);refine br (fun c=>absurd (by simpa using c) c7) (fun _=>?_);refine br (fun c=>absurd (by simpa using c) c8) (fun _=>?_);exact ⟨_,ax,rfl⟩
 obtain ⟨l,b,hE,hl⟩:=Tw;by_cases c:ag < 7
 ·rw [if_pos c] at hl hU;obtain ⟨rfl,hl⟩:=hl;subst hU;obtain ⟨en,eb,ea,et,CT,ew,lB,CU,CV,wz,rfl⟩:=hd;refine ev_go (P:=Tryz.prog) tt tt_ok 5000 38 [.cell 10 176,.tmp 11] Tryz.func197 rfl Tryz.ntmps197 rfl (nL rfl) (fun E9 w9 hn9 hm9=>?_);refine call_p Qj (hE) ax rfl ?_;refine ⟨_,⟨by omega,hl⟩,?_⟩;exact ⟨_,ax,rfl⟩
 ·rw [if_neg c] at hl hU;obtain ⟨rfl,hl⟩:=hl;subst hU;obtain ⟨en,eb,ea,et,CT,ew,lB,CU,CV,wz,rfl⟩:=hd;refine ev_go (P:=Tryz.prog) tt tt_ok 5000 38 [.cell 10 176,.tmp 11] Tryz.func197 rfl Tryz.ntmps197 rfl (nL rfl) (fun E9 w9 hn9 hm9=>?_);refine call_p Qj (hE) ax rfl ?_;refine ⟨_,⟨by omega,hl⟩,?_⟩;refine aX mo (by decide +kernel) ?_;refine aG Ky (hj) ax rfl ?_;exact ⟨_,ax,rfl⟩
end
abbrev Nv (a:ByteArray) (aC:Nat) (m:Int) (e:Nat):St:=⟨[(0,⟨[],.v (.string a)⟩),(5,⟨[],.v (.int .i64 aC)⟩),(8,⟨[],.v (.int .i64 m)⟩),(9,⟨[],.v (.int .i64 e)⟩)],[],[]⟩
theorem FB (a:ByteArray) (ha:a.size<=1099511627776) (m:Int) (hm:m<=9223372036854775807):EvP Tryz.prog 239 [.v (.string a),.v (.int .i64 m)] (.v (.string (ba (headL m.toNat (tx a))))):=by
 refine ev_go (P:=Tryz.prog) tt tt_ok 5000 28 [.tmp 4] Tryz.func239 rfl Tryz.ntmps239 rfl (nL rfl) (fun E9 w9 hn9 hm9=>?_);refine aq (fun j st=>∃ e aC:Nat,st=Nv a aC m e/\(e:Int)<=max m 0/\aC <= a.size/\(tx a).take aC ++ headL (m.toNat - e) ((tx a).drop aC)=headL m.toNat (tx a)/\j=m.toNat - e) m.toNat (Nv a 0 m 0) (weak_mk ⟨_,rfl⟩ wA rfl rfl rfl F2) ⟨0,0,rfl,by omega,by omega,by simp,by omega⟩ ?_;rintro j st ⟨e,aC,rfl,he,h1,hE,rfl⟩;have eM:=bh a
 have X9:headL (m.toNat - e) ((tx a).drop aC)=[]->a.extract 0 aC=ba (headL m.toNat (tx a)):=fun h=>by
  rw [h,List.append_nil] at hE;rw [<- hE];exact qu (sQ a aC)
 refine br (fun hL=>?_) (fun hL=>?_)
 rotate_left
 ·have aN:m.toNat - e=0:=by have:=of_decide_eq_false hL;omega
  refine ⟨⟨by omega,by omega,by omega⟩,?_⟩;exact (congrArg (fun z=>DV.v (.string z)) (X9 (by rw [aN];rfl)):_=_)
 have al:(e:Int) < m:=of_decide_eq_true hL;refine br (fun c=>?_) (fun c=>?_)
 ·have c:aC=a.size:=by have:=of_decide_eq_true c;omega
  refine ⟨⟨by omega,by omega,by omega⟩,?_⟩;exact (congrArg (fun z=>DV.v (.string z)) (X9 (by rw [List.drop_of_length_le (by omega),x8])):_=_)
 have c:aC < a.size:=by have:=of_decide_eq_false c;omega
 have hua:=IZ a aC ha h1
 have aR:(tx a).drop aC ≠ []:=fun h=>by
  have:=congrArg List.length h;rw [List.length_drop,List.length_nil] at this;omega
 have hup:=pF aR;rw [List.length_drop] at hup;obtain ⟨k,hk⟩:∃ k,m.toNat - e=k + 1:=⟨m.toNat - e - 1,by omega⟩;rw [hk,show headL (k + 1) ((tx a).drop aC)=((tx a).drop aC).take (iv ((tx a).drop aC)) ++ headL k (((tx a).drop aC).drop (iv ((tx a).drop aC))) from rfl,<- List.append_assoc,List.drop_drop,<- List.take_add] at hE;generalize iv ((tx a).drop aC)=w at hua hup hE;refine bl Wm rfl hua ax (fun q hq=>?_);obtain ⟨z1,rfl⟩:=hq
 have hw:IntKind.i64.wrap ((aC:Int) + w)=((aC + w:Nat):Int):=by
  rw [wrap64 (by omega) (by omega)];omega
 have he1:IntKind.i64.wrap ((e:Int) + 1)=((e + 1:Nat):Int):=by
  rw [wrap64 (by omega) (by omega)];omega
 exact ⟨Nv a (aC + w) m (e + 1),(weak_mk ⟨_,rfl⟩ wA rfl rfl rfl (by repeat' (first | exact trivial | exact ah rfl | exact ak hw | exact ak he1 | refine ⟨⟨_,rfl,?_⟩,?_⟩))),m.toNat - (e + 1),by omega,e + 1,aC + w,rfl,by omega,by omega,by rw [show m.toNat - (e + 1)=k by omega];exact hE,rfl⟩
end Go.Proofs.YtfifjddnnmfeoaaGreat
set_option maxRecDepth 100000
namespace Go.Proofs.YtfifjddnnmfeoaaGreat
open Go Go.RowKit Dv Tryz
end Go.Proofs.YtfifjddnnmfeoaaGreat
set_option maxRecDepth 100000
namespace Go.Proofs.YtfifjddnnmfeoaaGreat
open Go Go.RowKit Dv Tryz
section
variable {L:Nat} {ND:List Nd} (bE:∀ n∈ND,dE L ND.length n)
include bE
end
section
variable {L:Nat} {ND:List Nd} (bE:∀ n∈ND,dE L ND.length n)
include bE
end
end Go.Proofs.YtfifjddnnmfeoaaGreat
namespace Go.Proofs.YtfifjddnnmfeoaaGreat
namespace Dv
open Go Go.RowKit
section
variable {X:Ctx} {st:St} {k:List It} {E:En} {a:Act} {w:World}
end
end Dv
end Go.Proofs.YtfifjddnnmfeoaaGreat
namespace Go.Proofs.YtfifjddnnmfeoaaGreat
namespace Dv
open Go Go.RowKit
section
variable {X:Ctx} {st:St} {k:List It} {E:En} {a:Act} {w:World}
end
end Dv
end Go.Proofs.YtfifjddnnmfeoaaGreat
set_option maxRecDepth 100000
namespace Go.Proofs.YtfifjddnnmfeoaaGreat
open Go Go.RowKit Dv Tryz
end Go.Proofs.YtfifjddnnmfeoaaGreat
set_option maxRecDepth 100000
namespace Go.Proofs.YtfifjddnnmfeoaaGreat
open Go Go.RowKit Dv Tryz
end Go.Proofs.YtfifjddnnmfeoaaGreat
set_option maxRecDepth 100000
namespace Go.Proofs.YtfifjddnnmfeoaaGreat
open Go Go.RowKit Dv Tryz
end Go.Proofs.YtfifjddnnmfeoaaGreat
set_option maxRecDepth 100000
namespace Go.Proofs.YtfifjddnnmfeoaaGreat
open Go Go.RowKit Dv Tryz
section
variable (a b:Nat) (A B:List (List DV)) (rt:Int) {ND:List Nd} {L:Nat} (bE:∀ n∈ND,dE L ND.length n)
include bE
end
section
variable (a b:Nat) (A B:List (List DV)) (rt:Int) {ND:List Nd} {L:Nat} (bE:∀ n∈ND,dE L ND.length n)
include bE
end
end Go.Proofs.YtfifjddnnmfeoaaGreat
set_option maxRecDepth 100000
namespace Go.Proofs.YtfifjddnnmfeoaaGreat
open Go Go.RowKit Dv Tryz
end Go.Proofs.YtfifjddnnmfeoaaGreat
set_option maxRecDepth 100000
set_option maxHeartbeats 4000000
namespace Go.Proofs.YtfifjddnnmfeoaaGreat
open Go Go.RowKit Dv Tryz
section
variable (lv:List Wd) (f:Nat->Nat->Bool) (ND:List Nd) (z:Int) (hL:dL f lv.length) (hn:lv.length<=32) (bE:∀ n∈ND,dE lv.length ND.length n) (bI:∀ n∈ND,n.au.length<=1099511627776) (bJ:Nat) (ho:bJ < lv.length) (dep:Nat) (hdep:dep<=64)
include hL hn bE bI ho hdep
end
section
variable (lv:List Wd) (f:Nat->Nat->Bool) (ND:List Nd) (root:Nat) (je:root < ND.length) (hL:dL f lv.length) (hn:lv.length<=32) (bE:∀ n∈ND,dE lv.length ND.length n) (bI:∀ n∈ND,n.au.length<=1099511627776) (bJ:Nat) (ho:bJ < lv.length)
include je hL hn bE bI ho
end
section
variable (lv:List Wd) (f:Nat->Nat->Bool) (ND:List Nd) (rt:Nat) (hL:dL f lv.length) (hn:lv.length<=32) (bE:∀ n∈ND,dE lv.length ND.length n) (bI:∀ n∈ND,n.au.length<=1099511627776) (IJ:∀ n∈ND,zW n)
include hL hn bE bI IJ
end
section
variable {S:Sch} {ND:List Nd} {PC LC:List DV} (hP:ln S ND PC) (qR:EvP Tryz.prog 38 [.pt PC 0] (.pt LC 0)) (hR:I8 S.ae.length (cu S) (av S.ae) LC) (Tx:∀ n∈ND,zW n) (bI:∀ n∈ND,n.au.length<=1099511627776) (rt:Nat) (JJ:bL S=rt)
include qR hR
theorem FC (o:Int):EvP Tryz.prog 136 [.pt PC 0,.v (.int .i64 o)] (.tup [.agg (Um PC LC o),.v (.bool (decide (0<=o/\o < S.ae.length)))]):=by
 have hlen:=hR.len;refine ev_go (P:=Tryz.prog) tt tt_ok 5000 21 [.cell 4 232,.tmp 5] Tryz.func136 rfl Tryz.ntmps136 rfl (nL rfl) (fun E9 w9 hn9 hm9=>?_);refine call_p U8 (qR) ax rfl ?_;refine br (fun c=>?_) (fun c=>?_)
 ·have c:0<=o:=by simpa using c
  refine call_p A2 (hlen) ax rfl ?_;have hd:decide (0<=o/\o < (S.ae.length:Int))=decide (o < (S.ae.length:Int)):=decide_eq_decide.2 ⟨fun h=>h.2,fun h=>⟨c,h⟩⟩;rw [hd];exact ⟨_,ax,rfl⟩
 ·have c:¬ 0<=o:=by simpa using c
  rw [show decide (0<=o/\o < (S.ae.length:Int))=false from decide_eq_false (fun h=>c h.1)];exact ⟨_,ax,rfl⟩
include hP Tx bI JJ
end
theorem shellF_567 {d:Nd} {v:Val} (c:d.ag=5∨d.ag=6∨d.ag=7):shellF d v=(decide (v.s=ap) && decide (v.k=d.ag) && decide (v.n=0) && (if d.ag=5 then decide ((v.ks.length:Int)<=d.most) else if d.ag=6 then decide (v.ks.length < 2) else decide (v.ks.length=d.au.length))):=by
 unfold shellF;by_cases h1:v.s=ap<;>by_cases h2:v.k=d.ag<;>by_cases h3:v.n=0
 all_goals (first
  | (rw [if_neg (by rintro (h | h | h);exact h h2;exact h h1;exact h.2 h3)];rw [decide_eq_true h1,decide_eq_true h2,decide_eq_true h3];rcases c with c | c | c<;>simp [c])
  | (rw [if_pos (by first | exact .inr (.inl h1) | exact .inl h2 | exact .inr (.inr ⟨by omega,h3⟩))];simp [h1,h2,h3]))
theorem shellF_8 {d:Nd} {v:Val} (c:d.ag=8):shellF d v=if v.s≠ap∨v.k≠8∨v.n < 0∨(d.au.length:Int)<=v.n then false else match d.au[v.n.toNat]? with
  | none=>false
  | some e=>(decide (v.ks.length=0) == e.bare) && decide (v.ks.length < 2):=by
 unfold shellF;rw [c];by_cases h1:v.s=ap
 ·by_cases h2:v.k=8
  ·rw [if_neg (by rintro (h | h | h);exact h h2;exact h h1;exact h.1 rfl),if_neg (by decide),if_neg (by decide),if_neg (by decide)];by_cases h3:v.n < 0∨(d.au.length:Int)<=v.n
   ·rw [if_pos h3,if_pos (.inr (.inr h3))]
   ·rw [if_neg h3,if_neg (by rintro (h | h | h);exact h h1;exact h h2;exact h3 h)]
    cases d.au[v.n.toNat]? with
    | none=>rfl
    | some e=>
     simp only
     have key:∀ m:Nat,(if e.bare=true then decide (m=0) else decide (m=1))=((decide (m=0) == e.bare) && decide (m < 2)):=fun m=>by
      cases e.bare<;>(match m with
       | 0=>rfl
       | 1=>rfl
       | m + 2=>simp)
     exact key _
  ·rw [if_pos (.inl h2),if_pos (.inr (.inl h2))]
 ·rw [if_pos (.inr (.inl h1)),if_pos (.inl h1)]
theorem CX (d:Nd) (v:Val) (h5:5<=d.ag) (h8:d.ag<=8) (jq:d.au.length<=1099511627776) (hv:v.wt<=1099511627776):EvP Tryz.prog 196 [.agg (jG d),.agg (bV v)] (.v (.bool (shellF d v))):=by
 have hA:=fun c=>shellF_567 (d:=d) (v:=v) c;have hB:=fun c=>shellF_8 (d:=d) (v:=v) c;have Uo:d.ag=5->shellF d v=(decide (v.s=ap) && decide (v.k=5) && decide (v.n=0) && decide ((v.ks.length:Int)<=d.most)):=fun c=>by rw [hA (.inl c),if_pos c,c]
 have Up:d.ag=6->shellF d v=(decide (v.s=ap) && decide (v.k=6) && decide (v.n=0) && decide (v.ks.length < 2)):=fun c=>by rw [hA (.inr (.inl c)),if_neg (by omega),if_pos c,c]
 have Uq:d.ag=7->shellF d v=(decide (v.s=ap) && decide (v.k=7) && decide (v.n=0) && decide (v.ks.length=d.au.length)):=fun c=>by rw [hA (.inr (.inr c)),if_neg (by omega),if_neg (by omega),c]
 have hB1:d.ag=8->(v.s≠ap∨v.k≠8∨v.n < 0∨(d.au.length:Int)<=v.n)->shellF d v=false:=fun c h=>by rw [hB c,if_pos h]
 have YZ:d.ag=8->¬ (v.s≠ap∨v.k≠8∨v.n < 0∨(d.au.length:Int)<=v.n)->∀ e,d.au[v.n.toNat]? = some e->shellF d v=((decide (v.ks.length=0) == e.bare) && decide (v.ks.length < 2)):=fun c h e he=>by rw [hB c,if_neg h,he]
 clear hA hB;generalize shellF d v=B at Uo Up Uq hB1 YZ ⊢;obtain ⟨ag,aC,lo,hi,most,Un,es⟩:=d;obtain ⟨k,z,s,ks⟩:=v;simp only [Val.k,Val.n,Val.s,Val.ks] at Uo Up Uq hB1 YZ h5 h8 jq;have j1:=cy es;have cR:=ch ks;refine ev_go (P:=Tryz.prog) tt tt_ok 5000 111 [.tmp 4] Tryz.func196 rfl Tryz.ntmps196 rfl (nL rfl) (fun E9 w9 hn9 hm9=>?_);refine br (fun c=>?_) (fun c=>?_)
 ·have c:ag=5:=by simpa using c
  subst c;rw [Uo rfl];refine (congrArg (fun b=>DV.v (.bool b)) ?_:_=_);simp only [pickB_and,cR];rfl
 have c5:¬ ag=5:=by simpa using c
 refine br (fun c=>?_) (fun c=>?_)
 ·have c:ag=6:=by simpa using c
  subst c;rw [Up rfl];refine (congrArg (fun b=>DV.v (.bool b)) ?_:_=_);simp only [pickB_and,cR];rw [show decide ((ks.length:Int)<=1)=decide (ks.length < 2) from decide_eq_decide.2 ⟨fun h=>by omega,fun h=>by omega⟩];rfl
 have c6:¬ ag=6:=by simpa using c
 refine br (fun c=>?_) (fun c=>?_)
 ·have c:ag=7:=by simpa using c
  subst c;rw [Uq rfl];refine (congrArg (fun b=>DV.v (.bool b)) ?_:_=_);simp only [pickB_and,cR,j1];rw [show decide ((ks.length:Int)=es.length)=decide (ks.length=es.length) from decide_eq_decide.2 ⟨fun h=>by omega,fun h=>by omega⟩];rfl
 have c7:¬ ag=7:=by simpa using c
 refine br (fun c=>?_) (fun c=>?_)
 ·have c:s≠ap∨k≠8∨z < 0∨(es.length:Int)<=z:=by
   simp [aj,j1] at c;rcases c with ((c | c) | c) | c
   ·exact .inl c
   ·exact .inr (.inl c)
   ·exact .inr (.inr (.inl c))
   ·exact .inr (.inr (.inr c))
  rw [hB1 (by omega) c];exact (rfl:_=_)
 ·have c:¬ (s≠ap∨k≠8∨z < 0∨(es.length:Int)<=z):=by
   simp [aj,j1] at c;rintro (h | h | h | h)
   ·exact h c.1.1.1
   ·exact h c.1.1.2
   ·omega
   ·omega
  obtain ⟨e,he⟩:∃ e,es[z.toNat]? = some e:=⟨_,gE (by omega)⟩;rw [YZ (by omega) c e he];obtain ⟨en,eb,ea,et,CT,ew,lB,CU,CV,wz⟩:=e;refine aD (fun _=>false) mo (by decide +kernel) ?_;refine ⟨_,⟨by omega,bA he⟩,?_⟩;refine (congrArg (fun b=>DV.v (.bool b)) ?_:_=_);simp only [pickB_and,cR];rw [show decide ((ks.length:Int)=0)=decide (ks.length=0) from decide_eq_decide.2 ⟨fun h=>by omega,fun h=>by omega⟩,show decide ((ks.length:Int) < 2)=decide (ks.length < 2) from decide_eq_decide.2 ⟨fun h=>by omega,fun h=>by omega⟩];rfl
theorem fW (v:Val) (k n:Int) (s:ByteArray):EvP Tryz.prog 144 [.agg (bV v),.v (.int .i64 k),.v (.int .i64 n),.v (.string s)] (.v (.bool (bN v k n s))):=by
 obtain ⟨q,z,t,ks⟩:=v;have cR:=ch ks;refine ev_go (P:=Tryz.prog) tt tt_ok 5000 31 [.tmp 8] Tryz.func144 rfl Tryz.ntmps144 rfl (nL rfl) (fun E9 w9 hn9 hm9=>?_);refine (congrArg (fun b=>DV.v (.bool b)) ?_:_=_);unfold bN;simp only [pickB_and,cR];rw [show decide ((ks.length:Int)=0)=decide (ks.length=0) from decide_eq_decide.2 ⟨fun h=>by omega,fun h=>by omega⟩];rfl
theorem z7 (d:Nd) (v:Val) (h5:5<=d.ag) (h8:d.ag<=8) (jq:d.au.length<=1099511627776) (hv:v.wt<=1099511627776):EvP Tryz.prog 143 [.agg (jG d),.agg (bV v)] (.v (.bool (shellF d v))):=by
 have hS:shellF d v=if v.k≠d.ag∨v.s≠ap∨(d.ag≠8/\v.n≠0) then false
  else if d.ag=5 then decide ((v.ks.length:Int)<=d.most)
  else if d.ag=6 then decide (v.ks.length < 2)
  else if d.ag=7 then decide (v.ks.length=d.au.length)
  else if v.n < 0∨(d.au.length:Int)<=v.n then false
  else match d.au[v.n.toNat]? with
   | none=>false
   | some e=>if e.bare=true then decide (v.ks.length=0) else decide (v.ks.length=1):=rfl
 generalize shellF d v=B at hS ⊢;have hA0:(v.k≠d.ag∨v.s≠ap∨(d.ag≠8/\v.n≠0))->B=false:=fun h=>by rw [hS,if_pos h]
 have Uo:¬ (v.k≠d.ag∨v.s≠ap∨(d.ag≠8/\v.n≠0))->d.ag=5->B=decide ((v.ks.length:Int)<=d.most):=fun h c=>by rw [hS,if_neg h,if_pos c]
 have Up:¬ (v.k≠d.ag∨v.s≠ap∨(d.ag≠8/\v.n≠0))->d.ag=6->B=decide (v.ks.length < 2):=fun h c=>by rw [hS,if_neg h,if_neg (by omega),if_pos c]
 have Uq:¬ (v.k≠d.ag∨v.s≠ap∨(d.ag≠8/\v.n≠0))->d.ag=7->B=decide (v.ks.length=d.au.length):=fun h c=>by rw [hS,if_neg h,if_neg (by omega),if_neg (by omega),if_pos c]
 have hA8:¬ (v.k≠d.ag∨v.s≠ap∨(d.ag≠8/\v.n≠0))->d.ag=8->(v.n < 0∨(d.au.length:Int)<=v.n)->B=false:=fun h c g=>by rw [hS,if_neg h,if_neg (by omega),if_neg (by omega),if_neg (by omega),if_pos g]
 have hA9:¬ (v.k≠d.ag∨v.s≠ap∨(d.ag≠8/\v.n≠0))->d.ag=8->¬ (v.n < 0∨(d.au.length:Int)<=v.n)->∀ e,d.au[v.n.toNat]? = some e->B=if e.bare=true then decide (v.ks.length=0) else decide (v.ks.length=1):=fun h c g e he=>by rw [hS,if_neg h,if_neg (by omega),if_neg (by omega),if_neg (by omega),if_neg g,he]
 clear hS;obtain ⟨ag,aC,lo,hi,most,Un,es⟩:=d;obtain ⟨k,z,s,ks⟩:=v;simp only [Val.k,Val.n,Val.s,Val.ks] at hA0 Uo Up Uq hA8 hA9 h5 h8 jq;have j1:=cy es;have cR:=ch ks;refine ev_go (P:=Tryz.prog) tt tt_ok 5000 77 [.tmp 4] Tryz.func143 rfl Tryz.ntmps143 rfl (nL rfl) (fun E9 w9 hn9 hm9=>?_);refine br (fun c=>?_) (fun c=>?_)
 ·have c:k≠ag∨s≠ap∨(ag≠8/\z≠0):=by
   simp [aj,pickB_and] at c;rcases c with (c | c) | c
   ·exact .inl c
   ·exact .inr (.inl c)
   ·exact .inr (.inr c)
  rw [hA0 c];exact (rfl:_=_)
 have eu:¬ (k≠ag∨s≠ap∨(ag≠8/\z≠0)):=by
  simp [aj,pickB_and] at c;rintro (h | h | h)
  ·exact h c.1.1
  ·exact h c.1.2
  ·exact h.2 (c.2 h.1)
 refine br (fun c=>?_) (fun c=>?_)
 ·have c:ag=5:=by simpa using c
  rw [Uo eu c];refine (congrArg (fun b=>DV.v (.bool b)) ?_:_=_);simp only [cR];exact decide_eq_decide.2 Iff.rfl
 have c5:¬ ag=5:=by simpa using c
 refine br (fun c=>?_) (fun c=>?_)
 ·have c:ag=6:=by simpa using c
  rw [Up eu c];refine (congrArg (fun b=>DV.v (.bool b)) ?_:_=_);simp only [cR];exact decide_eq_decide.2 ⟨fun h=>by omega,fun h=>by omega⟩
 have c6:¬ ag=6:=by simpa using c
 refine br (fun c=>?_) (fun c=>?_)
 ·have c:ag=7:=by simpa using c
  rw [Uq eu c];refine (congrArg (fun b=>DV.v (.bool b)) ?_:_=_);simp only [cR,j1];exact decide_eq_decide.2 ⟨fun h=>by omega,fun h=>by omega⟩
 have c7:¬ ag=7:=by simpa using c
 refine br (fun c=>?_) (fun c=>?_)
 ·have c:z < 0∨(es.length:Int)<=z:=by simpa [aj,j1] using c
  rw [hA8 eu (by omega) c];exact (rfl:_=_)
 have c:¬ (z < 0∨(es.length:Int)<=z):=by simpa [aj,j1] using c
 obtain ⟨e,he⟩:∃ e,es[z.toNat]? = some e:=⟨_,gE (by omega)⟩;rw [hA9 eu (by omega) c e he];refine ⟨_,⟨by omega,bA he⟩,?_⟩;obtain ⟨en,eb,ea,et,CT,ew,lB,CU,CV,wz⟩:=e
 cases eb with
 | true=>
  refine (congrArg (fun b=>DV.v (.bool b)) ?_:_=_);simp only [cR,reduceIte];exact decide_eq_decide.2 ⟨fun h=>by omega,fun h=>by omega⟩
 | false=>
  refine (congrArg (fun b=>DV.v (.bool b)) ?_:_=_);simp only [cR];rw [if_neg (by simp)];exact decide_eq_decide.2 ⟨fun h=>by omega,fun h=>by omega⟩
theorem jm {v:Val} {k n:Int} {s:ByteArray} (h:0 < v.ks.length):bN v k n s=false:=by
 unfold bN;rw [decide_eq_false (show ¬ v.ks.length=0 by omega),Bool.and_false]
theorem tmod_zero {z u:Int} (hu:1<=u):z.tmod u=0↔z % u=0:=by
 rw [<- Int.dvd_iff_tmod_eq_zero,<- Int.dvd_iff_emod_eq_zero]
theorem FD {z u:Int} (hz : -9223372036854775808<=z) (hu:1<=u):((bo z u).2 && decide ((bo z u).1=z))=decide (z % u=0):=by
 rw [Nb hu];have h1:=Int.emod_nonneg z (b:=u) (by omega);by_cases c:z - z % u < -9223372036854775808
 ·rw [if_pos c,decide_eq_false (show ¬ z % u=0 by omega)];rfl
 ·rw [if_neg c];show (true && decide (z - z % u=z))=_;rw [Bool.true_and];exact decide_eq_decide.2 ⟨fun h=>by omega,fun h=>by omega⟩
theorem mayF_1 {e:Ed} {d:Nd} {v:Val} (c:e.ck=1/\d.ag=2):gJ e d v=if bN v 9 e.wide ap=true then !(bo d.lo e.cn).2
  else bN v 10 v.n ap && decide (v.n % e.cn=0) && (bo d.hi e.cn).2 && decide (v.n<=(bo d.hi e.cn).1) && (!(bo d.lo e.cn).2 || decide ((bo d.lo e.cn).1<=v.n)):=by
 unfold gJ;rw [if_pos c]
theorem mayF_2 {e:Ed} {d:Nd} {v:Val} (c:e.ck=2/\d.ag=3):gJ e d v=(bN v 11 0 v.s && decide ((v.s.size:Int)<=d.most) && decide (headL e.cn.toNat (tx v.s)=tx v.s)):=by
 unfold gJ;rw [if_neg (by omega),if_pos c]
theorem mayF_3 {e:Ed} {d:Nd} {v:Val} (c:e.ck=3/\d.ag=5):gJ e d v=(bN v 12 v.n ap && decide (0<=v.n) && decide (v.n<=d.most)):=by
 unfold gJ;rw [if_neg (by omega),if_neg (by omega),if_pos c]
theorem mayF_0 {e:Ed} {d:Nd} {v:Val} (c1:¬ (e.ck=1/\d.ag=2)) (c2:¬ (e.ck=2/\d.ag=3)) (c3:¬ (e.ck=3/\d.ag=5)):gJ e d v=bN v 9 e.wide ap:=by
 unfold gJ;rw [if_neg c1,if_neg c2,if_neg c3]
theorem Nx {e:Ed} {d:Nd} {v:Val} (h:0 < v.ks.length):gJ e d v=false:=by
 by_cases c1:e.ck=1/\d.ag=2
 ·rw [mayF_1 c1,jm h,jm h,if_neg (by simp)];rfl
 by_cases c2:e.ck=2/\d.ag=3
 ·rw [mayF_2 c2,jm h];rfl
 by_cases c3:e.ck=3/\d.ag=5
 ·rw [mayF_3 c3,jm h];rfl
 rw [mayF_0 c1 c2 c3,jm h]
theorem mz {v:Val} {k n:Int} {s:ByteArray} (h:v.ks=[]):bN v k n s=(decide (v.k=k) && decide (v.n=n) && decide (v.s=s)):=by
 unfold bN;rw [h];exact Bool.and_true _
theorem mayF_9 {e:Ed} {d:Nd} {v:Val} (c:e.ck=1/\d.ag=2) (Am:v.ks=[]) (h:v.k=9):gJ e d v=(!(bo d.lo e.cn).2 && decide (v.n=e.wide) && decide (v.s=ap)):=by
 rw [mayF_1 c,mz Am,mz Am,h];by_cases h1:v.n=e.wide<;>by_cases h2:v.s=ap<;>simp [h1,h2]
theorem mayF_10 {e:Ed} {d:Nd} {v:Val} (c:e.ck=1/\d.ag=2) (Am:v.ks=[]) (h:¬ v.k=9) (hn : -9223372036854775808<=v.n) (Ra:1<=e.cn) :
  gJ e d v=(decide (v.k=10) && decide (v.s=ap) && (bo v.n e.cn).2 && decide ((bo v.n e.cn).1=v.n) && (bo d.hi e.cn).2 && (!(bo d.lo e.cn).2 || decide ((bo d.lo e.cn).1<=v.n)) && decide (v.n<=(bo d.hi e.cn).1)):=by
 rw [mayF_1 c,mz Am,mz Am,decide_eq_false h,<- FD hn Ra];generalize (bo v.n e.cn).2=b1;generalize decide ((bo v.n e.cn).1=v.n)=b2;generalize (bo d.hi e.cn).2=b3;generalize decide (v.n<=(bo d.hi e.cn).1)=b4;generalize (!(bo d.lo e.cn).2 || decide ((bo d.lo e.cn).1<=v.n))=b5;generalize decide (v.k=10)=b6;generalize decide (v.s=ap)=b7;rw [show decide (v.n=v.n)=true from decide_eq_true rfl];cases b1<;>cases b2<;>cases b3<;>cases b4<;>cases b5<;>cases b6<;>cases b7<;>rfl
theorem z8 (e:Ed) (d:Nd) (v:Val) (Am:v.ks=[]) (Tu:e.ck=1/\d.ag=2) (Ra:1<=e.cn) (hn : -9223372036854775808<=v.n/\v.n<=9223372036854775807) (hlo : -9223372036854775808<=d.lo/\d.lo<=9223372036854775807) (nb : -9223372036854775808<=d.hi/\d.hi<=9223372036854775807) (hc : -9223372036854775808<=e.cn/\e.cn<=9223372036854775807) :
  EvP Tryz.prog 238 [.agg (uG e),.agg (jG d),.agg (bV v)] (.v (.bool (gJ e d v))):=by
 have h1:=nZ d.lo e.cn hlo hc;have h2:=nZ v.n e.cn hn hc;have h3:=nZ d.hi e.cn nb hc;have fg:=mayF_9 Tu Am;have p9:=fun h=>mayF_10 Tu Am h hn.1 Ra;generalize gJ e d v=B at fg p9 ⊢;unfold zu at h1 h2 h3;generalize bo d.lo e.cn=L at h1 fg p9;generalize bo v.n e.cn=M at h2 p9;generalize bo d.hi e.cn=H at h3 p9;obtain ⟨L1,L2⟩:=L;obtain ⟨M1,M2⟩:=M;obtain ⟨H1,H2⟩:=H;obtain ⟨q,z,s,ks⟩:=v;obtain ⟨en,eb,ea,et,CT,ew,lB,CU,CV,wz⟩:=e;obtain ⟨ag,aC,lo,hi,most,Un,es⟩:=d;refine ev_go (P:=Tryz.prog) tt tt_ok 5000 90 [.tmp 6] Tryz.func238 rfl Tryz.ntmps238 rfl (nL rfl) (fun E9 w9 hn9 hm9=>?_);refine call_p KF (h1) ax rfl ?_;refine br (fun c=>?_) (fun c=>?_)
 ·have c:q=9:=by simpa using c
  rw [fg c];refine (congrArg (fun b=>DV.v (.bool b)) ?_:_=_);simp only [pickB_and];rfl
 ·have c:¬ q=9:=by simpa using c
  rw [p9 c];refine call_p KF (h2) ax rfl ?_;refine call_p KF (h3) ax rfl ?_;refine (congrArg (fun b=>DV.v (.bool b)) ?_:_=_);simp only [pickB_and,aj];rfl
theorem ym (e:Ed) (d:Nd) (v:Val) (Ra:e.ck=1->1<=e.cn) (hn : -9223372036854775808<=v.n/\v.n<=9223372036854775807) (hlo : -9223372036854775808<=d.lo/\d.lo<=9223372036854775807) (nb : -9223372036854775808<=d.hi/\d.hi<=9223372036854775807) (hc : -9223372036854775808<=e.cn/\e.cn<=9223372036854775807) (hv:v.wt<=1099511627776) :
  EvP Tryz.prog 200 [.agg (uG e),.agg (jG d),.agg (bV v)] (.v (.bool (gJ e d v))):=by
 have J3:=fun Am Tu=>z8 e d v Am Tu (Ra Tu.1) hn hlo nb hc
 have bI:v.s.size<=1099511627776/\v.ks.length<=1099511627776:=by
  obtain ⟨k,n,s,ks⟩:=v;have:=eJ ks;rw [Val.wt] at hv;exact ⟨by show s.size<=_;omega,by show ks.length<=_;omega⟩
 have hh:=FB v.s bI.1 e.cn hc.2;have hlen:=fun h=>Nx (e:=e) (d:=d) (v:=v) h;have p9:=fun c=>mayF_2 (e:=e) (d:=d) (v:=v) c;have Q2:=fun c=>mayF_3 (e:=e) (d:=d) (v:=v) c;have jx:=fun a b c=>mayF_0 (e:=e) (d:=d) (v:=v) a b c;have jt:=fun k n s h=>mz (v:=v) (k:=k) (n:=n) (s:=s) h;generalize gJ e d v=B at J3 hlen p9 Q2 jx ⊢
 have Tz:(e.ck=2/\d.ag=3)->v.ks=[]->B=(decide (v.k=11) && decide (v.n=0) && decide ((v.s.size:Int)<=d.most) && decide (headL e.cn.toNat (tx v.s)=tx v.s)):=fun c h=>by
  rw [p9 c,jt _ _ _ h,show decide (v.s=v.s)=true from decide_eq_true rfl,Bool.and_true]
 have Ya:(e.ck=3/\d.ag=5)->v.ks=[]->B=(decide (v.k=12) && decide (v.s=ap) && decide (0<=v.n) && decide (v.n<=d.most)):=fun c h=>by
  rw [Q2 c,jt _ _ _ h,show decide (v.n=v.n)=true from decide_eq_true rfl,Bool.and_true]
 have sk:¬ (e.ck=1/\d.ag=2)->¬ (e.ck=2/\d.ag=3)->¬ (e.ck=3/\d.ag=5)->v.ks=[]->B=(decide (v.k=9) && decide (v.n=e.wide) && decide (v.s=ap)):=fun a b c h=>by
  rw [jx a b c,jt _ _ _ h]
 clear p9 Q2 jx jt;generalize headL e.cn.toNat (tx v.s)=HD at hh Tz;obtain ⟨q,z,s,ks⟩:=v;simp only [Val.ks,Val.s] at J3 hlen Tz Ya sk hh bI;have cR:=ch ks;obtain ⟨en,eb,ea,et,CT,ew,lB,CU,CV,wz⟩:=e;obtain ⟨ag,aC,lo,hi,most,Un,es⟩:=d;refine ev_go (P:=Tryz.prog) tt tt_ok 5000 104 [.tmp 6] Tryz.func200 rfl Tryz.ntmps200 rfl (nL rfl) (fun E9 w9 hn9 hm9=>?_);refine br (fun c=>?_) (fun c=>?_)
 ·have c:0 < ks.length:=by simpa [cR] using c
  rw [hlen c];exact (rfl:_=_)
 have c0:ks=[]:=by
  have:¬ 0 < ks.length:=by simpa [cR] using c
  exact List.eq_nil_of_length_eq_zero (by omega)
 refine br (fun c=>?_) (fun c=>?_)
 ·have c:lB=1/\ag=2:=by simpa [pickB_and] using c
  have J3:=J3 c0 c;refine call_p V6 (J3) ax rfl ?_;exact (rfl:_=_)
 have c1:¬ (lB=1/\ag=2):=by simpa [pickB_and] using c
 refine br (fun c=>?_) (fun c=>?_)
 ·have c:lB=2/\ag=3:=by simpa [pickB_and] using c
  have hB:B=((decide (q=11) && decide (z=0) && decide ((s.size:Int)<=most)) && decide (HD=tx s)):=Tz c c0;have hbt:decide (ba HD=s)=decide (HD=tx s):=decide_eq_decide.2 ⟨fun h=>by rw [<- h,lU],fun h=>by rw [h,nq]⟩;refine aD (fun _=>false) mo (by decide +kernel) ?_;refine br (fun g=>?_) (fun g=>?_)
  ·have g:(decide (q=11) && decide (z=0) && decide ((s.size:Int)<=most))=true:=by simpa [pickB_and] using g
   rw [g,Bool.true_and] at hB;refine aG V7 (hh) ax rfl ?_;refine (congrArg (fun b=>DV.v (.bool b)) ?_:_=_);rw [hB,<- hbt];rfl
  ·have g:(decide (q=11) && decide (z=0) && decide ((s.size:Int)<=most))=false:=by simpa [pickB_and] using g
   rw [g,Bool.false_and] at hB;rw [hB];exact (rfl:_=_)
 have c2:¬ (lB=2/\ag=3):=by simpa [pickB_and] using c
 refine br (fun c=>?_) (fun c=>?_)
 ·have c:lB=3/\ag=5:=by simpa [pickB_and] using c
  rw [Ya c c0];refine (congrArg (fun b=>DV.v (.bool b)) ?_:_=_);simp only [pickB_and];rfl
 have c3:¬ (lB=3/\ag=5):=by simpa [pickB_and] using c
 rw [sk c1 c2 c3 c0];refine (congrArg (fun b=>DV.v (.bool b)) ?_:_=_);simp only [pickB_and];rfl
theorem FE (e:Ed) (d:Nd) (v:Val) (Ra:e.ck=1->1<=e.cn) (hn : -9223372036854775808<=v.n/\v.n<=9223372036854775807) (hlo : -9223372036854775808<=d.lo/\d.lo<=9223372036854775807) (nb : -9223372036854775808<=d.hi/\d.hi<=9223372036854775807) (hc : -9223372036854775808<=e.cn/\e.cn<=9223372036854775807) (hv:v.wt<=1099511627776) :
  EvP Tryz.prog 147 [.agg (uG e),.agg (jG d),.agg (bV v)] (.v (.bool (gJ e d v))):=by
 have h1:=pB d.lo e.cn hlo hc;have h3:=pB d.hi e.cn nb hc
 have bI:v.s.size<=1099511627776:=by
  obtain ⟨k,n,s,ks⟩:=v;rw [Val.wt] at hv;show s.size<=_;omega
 have hh:=rR e.cn.toNat v.s bI e.cn hc.2 rfl;have hp9:=fW v 9 e.wide ap;have Yb:=fW v 10 v.n ap;have Yc:=fW v 11 0 v.s;have Yd:=fW v 12 v.n ap;have fg:=fun c=>mayF_1 (e:=e) (d:=d) (v:=v) c;have p9:=fun c=>mayF_2 (e:=e) (d:=d) (v:=v) c;have Q2:=fun c=>mayF_3 (e:=e) (d:=d) (v:=v) c;have jx:=fun a b c=>mayF_0 (e:=e) (d:=d) (v:=v) a b c
 have Y9:e.ck=1->decide (v.n.tmod (max e.cn 1)=0)=decide (v.n % e.cn=0):=fun h=>by
  rw [show max e.cn 1=e.cn by have:=Ra h;omega];exact decide_eq_decide.2 (tmod_zero (Ra h))
 generalize gJ e d v=B at fg p9 Q2 jx ⊢;generalize bN v 9 e.wide ap=P9 at hp9 fg jx;generalize bN v 10 v.n ap=P10 at Yb fg;generalize bN v 11 0 v.s=P11 at Yc p9;generalize bN v 12 v.n ap=P12 at Yd Q2;unfold zu at h1 h3;generalize bo d.lo e.cn=L at h1 fg;generalize bo d.hi e.cn=H at h3 fg;generalize headL e.cn.toNat (tx v.s)=HD at hh p9;generalize decide (v.n % e.cn=0)=MZ at fg Y9;obtain ⟨L1,L2⟩:=L;obtain ⟨H1,H2⟩:=H;obtain ⟨q,z,s,ks⟩:=v;obtain ⟨en,eb,ea,et,CT,ew,lB,CU,CV,wz⟩:=e;obtain ⟨ag,aC,lo,hi,most,Un,es⟩:=d;refine ev_go (P:=Tryz.prog) tt tt_ok 5000 131 [.tmp 6] Tryz.func147 rfl Tryz.ntmps147 rfl (nL rfl) (fun E9 w9 hn9 hm9=>?_);refine br (fun c=>?_) (fun c=>?_)
 ·have c:lB=1/\ag=2:=by simpa [pickB_and] using c
  have hB:=fg c;have Y9:=Y9 c.1;have X7:max CU 1≠0:=by omega
  refine call_p Qb (h1) ax rfl ?_;refine call_p Qb (h3) ax rfl ?_;refine call_p wX (hp9) ax rfl ?_
  cases P9 with
  | true=>
   rw [if_pos rfl] at hB;rw [hB];exact (rfl:_=_)
  | false=>
   rw [if_neg (by simp)] at hB;refine call_p wX (Yb) ax rfl ?_
   cases P10 with
   | true=>
    refine ⟨⟨rfl,X7⟩,?_⟩;refine (congrArg (fun b=>DV.v (.bool b)) ?_:_=_);rw [hB];simp only [pickB_and,aj];have hmz':decide (z.tmod (max CU 1)=0)=MZ:=Y9;rw [hmz'];rfl
   | false=>
    rw [hB];exact (rfl:_=_)
 have c1:¬ (lB=1/\ag=2):=by simpa [pickB_and] using c
 refine br (fun c=>?_) (fun c=>?_)
 ·have c:lB=2/\ag=3:=by simpa [pickB_and] using c
  have hB:B=(P11 && decide ((s.size:Int)<=most) && decide (HD=tx s)):=p9 c;have hbt:decide (ba HD=s)=decide (HD=tx s):=decide_eq_decide.2 ⟨fun h=>by rw [<- h,lU],fun h=>by rw [h,nq]⟩;refine aD (fun _=>false) mo (by decide +kernel) ?_;refine aG wX (Yc) ax rfl ?_;refine br (fun g=>?_) (fun g=>?_)
  ·have g:(P11 && decide ((s.size:Int)<=most))=true:=by simpa [pickB_and] using g
   rw [g,Bool.true_and] at hB;refine aG Qc (hh) ax rfl ?_;refine (congrArg (fun b=>DV.v (.bool b)) ?_:_=_);rw [hB,<- hbt];rfl
  ·have g:(P11 && decide ((s.size:Int)<=most))=false:=by simpa [pickB_and] using g
   rw [g,Bool.false_and] at hB;rw [hB];exact (rfl:_=_)
 have c2:¬ (lB=2/\ag=3):=by simpa [pickB_and] using c
 refine br (fun c=>?_) (fun c=>?_)
 ·have c:lB=3/\ag=5:=by simpa [pickB_and] using c
  rw [Q2 c];refine call_p wX (Yd) ax rfl ?_;refine (congrArg (fun b=>DV.v (.bool b)) ?_:_=_);simp only [pickB_and];rfl
 have c3:¬ (lB=3/\ag=5):=by simpa [pickB_and] using c
 rw [jx c1 c2 c3];refine call_p wX (hp9) ax rfl ?_;exact (rfl:_=_)
def edW (w:Int):Ed:=⟨ap,false,0,0,0,w,0,0,0,0⟩
theorem TA (w:Int) (d:Nd) (v:Val):gJ (edW w) d v=bN v 9 w ap:=by
 rw [mayF_0 (by rintro ⟨h,_⟩;cases h) (by rintro ⟨h,_⟩;cases h) (by rintro ⟨h,_⟩;cases h)];rfl
theorem vI {N:Nat} {ND:List Nd} {d:Nd} (hN:dE N ND.length d) {v:Val} (h:shellF d v=true) (c:d.ag=8) {m:Nat} (hm:m < v.ks.length):(0<=v.n/\v.n < d.au.length)/\m=0:=by
 rw [shellF_8 c] at h;split at h
 ·cases h
 rename_i hc;have h1:¬ v.n < 0:=fun g=>hc (.inr (.inr (.inl g)));have h2:¬ (d.au.length:Int)<=v.n:=fun g=>hc (.inr (.inr (.inr g)));split at h
 ·cases h
 ·rw [Bool.and_eq_true,decide_eq_true_iff] at h;have:=h.2;omega
def FF (ND:List Nd) (f:Nat->Nat->Bool) (L bJ:Nat) (d:Nd) (e:Ed) (a:Nat) (x:Val):Bool:=if ra f L bJ d e a=2 then seeV ND f L bJ x e.to (lz f L d e a) else if ra f L bJ d e a=1 then (match dq ND e.to with | none=>false | some t=>gJ e t x) else bN x 9 e.wide ap
theorem yo {ND:List Nd} {f:Nat->Nat->Bool} {L bJ:Nat} {ks:List Val} {d:Nd} {z:Int} {a j m:Nat} {x:Val} {e:Ed} (h:ks[m]? = some x) (he:cP d z j=some e):seeVs ND f L bJ (ks.drop m) d z a j=(FF ND f L bJ d e a x && seeVs ND f L bJ (ks.drop (m + 1)) d z a (j + 1)):=by
 rw [Fa h,he];rfl
abbrev FG (PC LC:List DV) (bJ a:Nat) (v:Val) (d:Nd) (e:Nat):St:=
 ⟨[(2,⟨[],.v (.int .i64 a)⟩),(4,⟨[],.loc 0 0⟩),(7,⟨[],.loc 1 0⟩),(9,⟨[],.loc 2 0⟩),(38,⟨[],.sl 4 (dVals v.ks) none⟩),(39,⟨[],.v (.int .i64 (dVals v.ks).length)⟩),(40,⟨[],.v (.int .i64 e)⟩)],[Um PC LC bJ,bV v,jG d],[]⟩
theorem rZ {S:Sch} {ND:List Nd} {PC LC:List DV} (hP:ln S ND PC) (hR:I8 S.ae.length (cu S) (av S.ae) LC) (IJ:∀ n∈ND,zW n) (bI:∀ n∈ND,n.au.length<=1099511627776) (bJ:Nat) (ho:bJ < S.ae.length) :
  ∀ (k:Nat) (v:Val),v.wt<=k->v.wt<=1099511627776->rngW v->∀ (i a:Nat),a < S.ae.length->i < ND.length ->
   EvP Tryz.prog 137 [.agg (Um PC LC bJ),.v (.int .i64 i),.v (.int .i64 a),.agg (bV v)] (.v (.bool (seeV ND (cu S) S.ae.length bJ v i a)))
 | 0,v,h,_=>by have:=v.dr;omega
 | k + 1,v,h,hb=>fun hr i a ha hi=>by
  have ih:=rZ hP hR IJ bI bJ ho k;have hL:=hR.ok;obtain ⟨d,hg⟩:∃ d,ND[i]? = some d:=⟨_,gE hi⟩
  have hnd:dq ND (i:Int)=some d:=by
   unfold dq;rw [if_neg (by omega),Int.toNat_natCast,hg]
  have se:=mG hg;have hN:=hP.ok d se;have gW:=hP.ai i d hg;have Fz:=bI d se;have TB:=IJ d se;have JH:=vq hP _ v (Nat.le_refl _) hb i;have JI:=fun h5=>CX d v h5 hN.k8 Fz hb;have FH:=fun h5 hs m hm=>rb hN h5 (v:=v) hs (m:=m) hm;have FI:=fun hs c m hm=>vI hN (v:=v) hs c (m:=m) hm
  have hV:seeV ND (cu S) S.ae.length bJ v i a=if d.ag < 5 then fitV ND v i else shellF d v && seeVs ND (cu S) S.ae.length bJ v.ks d v.n a 0:=by
   obtain ⟨q,z,s,ks⟩:=v;rw [seeV,hnd];rfl
  have TC:d.ag < 5->seeV ND (cu S) S.ae.length bJ v i a=fitV ND v i:=fun c=>by rw [hV,if_pos c]
  have Aa:¬ d.ag < 5->seeV ND (cu S) S.ae.length bJ v i a=(shellF d v && seeVs ND (cu S) S.ae.length bJ v.ks d v.n a 0):=fun c=>by rw [hV,if_neg c]
  clear hV;generalize seeV ND (cu S) S.ae.length bJ v i a=B at TC Aa ⊢;generalize fitV ND v i=F at JH TC;generalize shellF d v=SH at JI FH FI Aa;obtain ⟨vk,vn,vs,ks⟩:=v;have iP:=eJ ks;have cR:=ch ks;rw [Val.wt] at h hb;have Ye:=Hi hr;simp only [Val.ks,Val.n] at Aa Ye FH FI;obtain ⟨ag,aC,lo,dF,most,af,es⟩:=d;refine ev_go (P:=Tryz.prog) tt tt_ok 5000 90 [.tmp 8] Tryz.func137 rfl Tryz.ntmps137 rfl (nL rfl) (fun E9 w9 hn9 hm9=>?_);refine call_p HO (gW) ax rfl ?_;refine br (fun c=>?_) (fun c=>?_)
  ·have c:ag < 5:=by simpa using c
   rw [TC c];refine call_p U6 (JH) ax rfl ?_;exact (rfl:_=_)
  have c5:¬ ag < 5:=by simpa using c
  have Aa:=Aa c5;have h5:5<=ag:=by omega
  have JI:=JI h5;refine call_p VP (JI) ax rfl ?_
  cases SH with
  | false=>
   rw [Bool.false_and] at Aa;rw [Aa];exact (rfl:_=_)
  | true=>
   rw [Bool.true_and] at Aa;refine aq (fun t st=>∃ e:Nat,st=FG PC LC bJ a (.mk vk vn vs ks) ⟨ag,aC,lo,dF,most,af,es⟩ e/\e<=ks.length/\B=seeVs ND (cu S) S.ae.length bJ (ks.drop e) ⟨ag,aC,lo,dF,most,af,es⟩ vn a e/\t=ks.length - e) ks.length (FG PC LC bJ a (.mk vk vn vs ks) ⟨ag,aC,lo,dF,most,af,es⟩ 0) (ay 3 rfl wRA rfl rfl rfl F2) ⟨0,rfl,by omega,Aa,by omega⟩ ?_;rintro t st ⟨e,rfl,he,hE,rfl⟩;refine br (fun LK=>?_) (fun LK=>?_)
   ·have al:e < ks.length:=by simpa [cR,Val.ks] using LK
    obtain ⟨x,hx⟩:∃ x,ks[e]? = some x:=⟨_,gE al⟩;obtain ⟨ed,hK⟩:=FH h5 rfl e al;have hm:=mG hx;have Q9:=gY hm;have wb:=km Ye hm;obtain ⟨h1,t2,h2⟩:=Na hN hK.mem hK.bare;obtain ⟨_,C7⟩:=du h2;have eM:=(gS C7).1;have mP:ed.to=(ed.to.toNat:Nat):=by omega
    have FJ:=IJ t2 (mG C7);have Ny:=hP.ai ed.to.toNat t2 C7;rw [<- mP] at Ny;rw [yo hx hK.lZ] at hE;have nv:=FA hR PC bJ a ha ⟨ag,aC,lo,dF,most,af,es⟩ (.mk vk vn vs ks) e ed hK.lZ hK.mem hN h5 (fun c=>FI rfl c e al) Fz;have hU:=He hL hN hK.mem ha;have Nz:=vG hR PC bJ (lz (cu S) S.ae.length ⟨ag,aC,lo,dF,most,af,es⟩ ed a) ho hU;have hco:=vH hR PC bJ a ho ha ⟨ag,aC,lo,dF,most,af,es⟩ ed hN hK.mem;have TD:=TB.2.2 ed hK.mem;have TF:=(hN.lZ ed hK.mem).cn.2.1;have NA:=ym ed t2 x TF (Fo wb) FJ.1 FJ.2.1 TD (by omega);have NB:=ym (edW ed.wide) t2 x (fun h=>by cases h) (Fo wb) FJ.1 FJ.2.1 ⟨by show (-9223372036854775808:Int)<=0;decide,by show (0:Int)<=9223372036854775807;decide⟩ (by omega);rw [TA] at NB;have qY:=ih x (by omega) (by omega) wb ed.to.toNat (lz (cu S) S.ae.length ⟨ag,aC,lo,dF,most,af,es⟩ ed a) hU eM;rw [<- mP] at qY
    have pO:FF ND (cu S) S.ae.length bJ ⟨ag,aC,lo,dF,most,af,es⟩ ed a x=if cu S (lz (cu S) S.ae.length ⟨ag,aC,lo,dF,most,af,es⟩ ed a) bJ=true then seeV ND (cu S) S.ae.length bJ x ed.to (lz (cu S) S.ae.length ⟨ag,aC,lo,dF,most,af,es⟩ ed a) else if (decide (ed.ck≠0) && cu S (vP (cu S) S.ae.length a ed.seen.toNat) bJ)=true then gJ ed t2 x else bN x 9 ed.wide ap:=by
     unfold FF;rw [Pv,h2];by_cases g1:cu S (lz (cu S) S.ae.length ⟨ag,aC,lo,dF,most,af,es⟩ ed a) bJ=true
     ·simp only [if_pos g1,reduceIte]
     ·by_cases g2:ed.ck≠0/\cu S (vP (cu S) S.ae.length a ed.seen.toNat) bJ=true
      ·simp only [if_neg g1,if_pos g2,reduceIte];rw [if_neg (by decide),if_pos (by rw [decide_eq_true g2.1,g2.2];rfl)]
      ·simp only [if_neg g1,if_neg g2]
       rw [if_neg (by decide),if_neg (by decide),if_neg (by
        intro h;rw [Bool.and_eq_true,decide_eq_true_iff] at h
        exact g2 h)]
    generalize FF ND (cu S) S.ae.length bJ ⟨ag,aC,lo,dF,most,af,es⟩ ed a x=KS at hE pO;generalize lz (cu S) S.ae.length ⟨ag,aC,lo,dF,most,af,es⟩ ed a=U at nv Nz qY pO;generalize cu S U bJ=b1 at Nz pO;generalize (decide (ed.ck≠0) && cu S (vP (cu S) S.ae.length a ed.seen.toNat) bJ)=b2 at hco pO;generalize seeV ND (cu S) S.ae.length bJ x ed.to U=R1 at qY pO;generalize gJ ed t2 x=R2 at NA pO;generalize bN x 9 ed.wide ap=R3 at NB pO;have qN:KS=false->B=false:=fun h=>by rw [hE,h,Bool.false_and]
    have nF:KS=true->∃ j',j' < ks.length - e/\∃ e',FG PC LC bJ a (.mk vk vn vs ks) ⟨ag,aC,lo,dF,most,af,es⟩ (e + 1)=FG PC LC bJ a (.mk vk vn vs ks) ⟨ag,aC,lo,dF,most,af,es⟩ e' /\ e' <= ks.length/\B=seeVs ND (cu S) S.ae.length bJ (ks.drop e') ⟨ag,aC,lo,dF,most,af,es⟩ vn a e' /\ j'=ks.length - e':=fun h=>⟨ks.length - (e + 1),by omega,e + 1,rfl,by omega,by rw [hE,h,Bool.true_and],rfl⟩;obtain ⟨xk,xn,xs,xks⟩:=x;obtain ⟨en,eb,ea,et,CT,ew,lB,CU,CV,wz⟩:=ed;obtain ⟨kind2,at2,lo2,rn,most2,ab0,es2⟩:=t2;clear hE;refine ⟨_,⟨by omega,dh hx⟩,?_⟩;refine call_p VQ (nv) ax rfl ?_;refine call_p HO (Ny) ax rfl ?_;refine call_p P8 (Nz) ax rfl ?_
    cases b1 with
    | true=>
     refine call_p PY (qY) ax rfl ?_
     cases R1 with
     | false=>
      have hB:=qN (by rw [pO];rfl);rw [hB];exact (rfl:_=_)
     | true=>
      obtain ⟨j',g1,g2⟩:=nF (by rw [pO];rfl);exact ⟨FG PC LC bJ a (.mk vk vn vs ks) ⟨ag,aC,lo,dF,most,af,es⟩ (e + 1),(ay 3 rfl (C6 al) rfl rfl rfl (wNB al)),j',g1,g2⟩
    | false=>
     refine call_p VR (hco) ax rfl ?_
     cases b2 with
     | true=>
      refine call_p Qa (NA) ax rfl ?_
      cases R2 with
      | false=>
       have hB:=qN (by rw [pO];rfl);rw [hB];exact (rfl:_=_)
      | true=>
       obtain ⟨j',g1,g2⟩:=nF (by rw [pO];rfl);exact ⟨FG PC LC bJ a (.mk vk vn vs ks) ⟨ag,aC,lo,dF,most,af,es⟩ (e + 1),(ay 3 rfl (C6 al) rfl rfl rfl (wNB al)),j',g1,g2⟩
     | false=>
      refine call_p Qa (NB) ax rfl ?_
      cases R3 with
      | false=>
       have hB:=qN (by rw [pO];rfl);rw [hB];exact (rfl:_=_)
      | true=>
       obtain ⟨j',g1,g2⟩:=nF (by rw [pO];rfl);exact ⟨FG PC LC bJ a (.mk vk vn vs ks) ⟨ag,aC,lo,dF,most,af,es⟩ (e + 1),(ay 3 rfl (C6 al) rfl rfl rfl (wNB al)),j',g1,g2⟩
   ·have aN:e=ks.length:=by have:=LK;simp [cR,Val.ks] at this;omega
    subst aN;rw [List.drop_length,seeVs] at hE;rw [hE];exact (rfl:_=_)
def vJ (ND:List Nd) (f:Nat->Nat->Bool) (n rt:Nat) (o:Int) (v:Val):Bool:=decide (0<=o/\o < n) && seeV ND f n o.toNat v rt (wv f n)
theorem CY {S:Sch} {ND:List Nd} {PC LC:List DV} (hP:ln S ND PC) (qR:EvP Tryz.prog 38 [.pt PC 0] (.pt LC 0)) (hR:I8 S.ae.length (cu S) (av S.ae) LC) (Tx:∀ n∈ND,zW n) (bI:∀ n∈ND,n.au.length<=1099511627776) (rt:Nat) (JJ:bL S=rt) (fH:rt < ND.length) (o:Int) (v:Val) (hv:v.wt<=1099511627776) (Gm:rngW v) :
  EvP Tryz.prog 78 [.pt PC 0,.v (.int .i64 o),.agg (bV v)] (.v (.bool (vJ ND (cu S) S.ae.length rt o v))):=by
 have GJ:=FC qR hR o;have je:=hP.root;rw [JJ] at je;have LJ:=hR.bot;have hs:=fun (bJ:Nat) (ho:bJ < S.ae.length)=>rZ hP hR Tx bI bJ ho _ v (Nat.le_refl _) hv Gm rt (wv (cu S) S.ae.length) (Hc hR.ok) fH;have hS:vJ ND (cu S) S.ae.length rt o v=(decide (0<=o/\o < S.ae.length) && seeV ND (cu S) S.ae.length o.toNat v rt (wv (cu S) S.ae.length)):=rfl;generalize vJ ND (cu S) S.ae.length rt o v=SF at hS ⊢;by_cases ho:0<=o/\o < S.ae.length
 ·obtain ⟨ob,rfl⟩:∃ n:Nat,o=n:=⟨_,(Int.toNat_of_nonneg ho.1).symm⟩;have hs:=hs ob (by omega);rw [show decide (0<=(ob:Int)/\(ob:Int) < (S.ae.length:Int))=true from decide_eq_true ho] at GJ hS;rw [Int.toNat_natCast,Bool.true_and] at hS;rw [<- hS] at hs;generalize wv (cu S) S.ae.length=bt at LJ hs;obtain ⟨k,n,s,ks⟩:=v;refine ev_go (P:=Tryz.prog) tt tt_ok 5000 26 [.tmp 6] Tryz.func78 rfl Tryz.ntmps78 rfl (nL rfl) (fun E9 w9 hn9 hm9=>?_);refine call_p Kt (GJ) ax rfl ?_;refine aD (fun _=>false) mo (by decide +kernel) ?_;refine aG U5 (je) ax rfl ?_;refine aG PZ (LJ) ax rfl ?_;refine aG PY (hs) ax rfl ?_;exact (rfl:_=_)
 ·rw [show decide (0<=o/\o < (S.ae.length:Int))=false from decide_eq_false ho] at GJ hS;rw [Bool.false_and] at hS;rw [hS];obtain ⟨k,n,s,ks⟩:=v;refine ev_go (P:=Tryz.prog) tt tt_ok 5000 26 [.tmp 6] Tryz.func78 rfl Tryz.ntmps78 rfl (nL rfl) (fun E9 w9 hn9 hm9=>?_);refine call_p Kt (GJ) ax rfl ?_;refine aD (fun _=>false) mo (by decide +kernel) ?_;exact (rfl:_=_)
theorem Jl:EvP Tryz.prog 195 [.v (.pointer none)] (.v (.int .i64 0)):=by
 refine ev_go (P:=Tryz.prog) tt tt_ok 5000 10 [.tmp 2] Tryz.func195 rfl Tryz.ntmps195 rfl (nL rfl) (fun E9 w9 hn9 hm9=>?_);exact (rfl:_=_)
theorem Jm (o:Int):EvP Tryz.prog 136 [.v (.pointer none),.v (.int .i64 o)] (.tup [.agg [.v (.pointer none),.v (.pointer none),.v (.int .i64 o)],.v (.bool false)]):=by
 refine ev_go (P:=Tryz.prog) tt tt_ok 5000 21 [.cell 4 232,.tmp 5] Tryz.func136 rfl Tryz.ntmps136 rfl (nL rfl) (fun E9 w9 hn9 hm9=>?_);refine call_p U8 (L7) ax rfl ?_;refine br (fun c=>?_) (fun c=>?_)
 ·have c:0<=o:=by simpa using c
  refine call_p A2 (Jl) ax rfl ?_;refine ⟨.tup [.agg [.v (.pointer none),.v (.pointer none),.v (.int .i64 o)],.v (.bool (decide (o < 0)))],ax,?_⟩;rw [show decide (o < 0)=false from decide_eq_false (by omega)]
 ·exact ⟨_,ax,rfl⟩
theorem FK (o:Int) (v:Val):EvP Tryz.prog 78 [.v (.pointer none),.v (.int .i64 o),.agg (bV v)] (.v (.bool false)):=by
 have GJ:=Jm o;obtain ⟨k,n,s,ks⟩:=v;refine ev_go (P:=Tryz.prog) tt tt_ok 5000 26 [.tmp 6] Tryz.func78 rfl Tryz.ntmps78 rfl (nL rfl) (fun E9 w9 hn9 hm9=>?_);refine call_p Kt (GJ) ax rfl ?_;refine aD (fun _=>false) mo (by decide +kernel) ?_;exact (rfl:_=_)
abbrev od (W:List DV) (v:Val) (bJ a:Nat) (d:Nd) (e:Nat):St:=
 ⟨[(1,⟨[],.v (.int .i64 bJ)⟩),(3,⟨[],.v (.int .i64 a)⟩),(5,⟨[],.loc 0 0⟩),(9,⟨[],.loc 1 0⟩),(11,⟨[],.loc 2 0⟩),(12,⟨[],.v (.int .i64 e)⟩)],[W,bV v,jG d],[]⟩
theorem r6 (lv:List Wd) (f:Nat->Nat->Bool) (ND:List Nd) (z:Int) (hL:dL f lv.length) (hn:lv.length<=32) (bE:∀ n∈ND,dE lv.length ND.length n) (bI:∀ n∈ND,n.au.length<=1099511627776) (IJ:∀ n∈ND,zW n) (bJ:Nat) (ho:bJ < lv.length) :
  ∀ (k:Nat) (v:Val),v.wt<=k->v.wt<=1099511627776->rngW v->∀ (i a:Nat),a < lv.length->i < ND.length ->
   EvP Tryz.prog 81 [.agg (wL lv f ND z),.v (.int .i64 bJ),.v (.int .i64 i),.v (.int .i64 a),.agg (bV v)] (.v (.bool (seeV ND f lv.length bJ v i a)))
 | 0,v,h,_=>by have:=v.dr;omega
 | k + 1,v,h,hb=>fun hr i a ha hi=>by
  have ih:=r6 lv f ND z hL hn bE bI IJ bJ ho k;obtain ⟨d,hg⟩:∃ d,ND[i]? = some d:=⟨_,gE hi⟩
  have hnd:dq ND (i:Int)=some d:=by
   unfold dq;rw [if_neg (by omega),Int.toNat_natCast,hg]
  have se:=mG hg;have hN:=bE d se;have Fz:=bI d se;have TB:=IJ d se;have JH:=rU 2 1 (bn lv) (ct (cW lv.length f)) z bE v.wt v (Nat.le_refl _) hb i;rw [<- M5 bE] at JH;have JI:=fun h5=>z7 d v h5 hN.k8 Fz hb;have FH:=fun h5 hs m hm=>rb hN h5 (v:=v) hs (m:=m) hm;have FI:=fun hs c m hm=>vI hN (v:=v) hs c (m:=m) hm
  have hV:seeV ND f lv.length bJ v i a=if d.ag < 5 then fitV ND v i else shellF d v && seeVs ND f lv.length bJ v.ks d v.n a 0:=by
   obtain ⟨q,z,s,ks⟩:=v;rw [seeV,hnd];rfl
  have TC:d.ag < 5->seeV ND f lv.length bJ v i a=fitV ND v i:=fun c=>by rw [hV,if_pos c]
  have Aa:¬ d.ag < 5->seeV ND f lv.length bJ v i a=(shellF d v && seeVs ND f lv.length bJ v.ks d v.n a 0):=fun c=>by rw [hV,if_neg c]
  clear hV;generalize seeV ND f lv.length bJ v i a=B at TC Aa ⊢;generalize fitV ND v i=F at JH TC;generalize shellF d v=SH at JI FH FI Aa;obtain ⟨vk,vn,vs,ks⟩:=v;have iP:=eJ ks;have cR:=ch ks;rw [Val.wt] at h hb;have Ye:=Hi hr;simp only [Val.ks,Val.n] at Aa Ye FH FI;have TG:=fun e (he:e∈d.au)=>pN lv f ND z hL hn d e a ha hN he;have hhow:=fun e (he:e∈d.au)=>Fw lv f ND z hL hn d e bJ a ho ha hN he;obtain ⟨ag,aC,lo,dF,most,af,es⟩:=d;refine ev_go (P:=Tryz.prog) tt tt_ok 5000 90 [.tmp 10] Tryz.func81 rfl Tryz.ntmps81 rfl (nL rfl) (fun E9 w9 hn9 hm9=>?_);refine ⟨_,⟨by omega,fV hg⟩,?_⟩;refine br (fun c=>?_) (fun c=>?_)
  ·have c:ag < 5:=by simpa using c
   rw [TC c];refine call_p P1 (JH) ax rfl ?_;exact (rfl:_=_)
  have c5:¬ ag < 5:=by simpa using c
  have Aa:=Aa c5;have h5:5<=ag:=by omega
  have JI:=JI h5;refine call_p Vz (JI) ax rfl ?_
  cases SH with
  | false=>
   rw [Bool.false_and] at Aa;rw [Aa];exact (rfl:_=_)
  | true=>
   rw [Bool.true_and] at Aa;refine aq (fun t st=>∃ e:Nat,st=od (wL lv f ND z) (.mk vk vn vs ks) bJ a ⟨ag,aC,lo,dF,most,af,es⟩ e/\e<=ks.length/\B=seeVs ND f lv.length bJ (ks.drop e) ⟨ag,aC,lo,dF,most,af,es⟩ vn a e/\t=ks.length - e) ks.length (od (wL lv f ND z) (.mk vk vn vs ks) bJ a ⟨ag,aC,lo,dF,most,af,es⟩ 0) (ay 3 rfl wRA rfl rfl rfl F2) ⟨0,rfl,by omega,Aa,by omega⟩ ?_;rintro t st ⟨e,rfl,he,hE,rfl⟩;refine br (fun LK=>?_) (fun LK=>?_)
   ·have al:e < ks.length:=by simpa [cR,Val.ks] using LK
    obtain ⟨x,hx⟩:∃ x,ks[e]? = some x:=⟨_,gE al⟩;obtain ⟨ed,hK⟩:=FH h5 rfl e al;have hm:=mG hx;have Q9:=gY hm;have wb:=km Ye hm;obtain ⟨h1,t2,h2⟩:=Na hN hK.mem hK.bare;obtain ⟨_,C7⟩:=du h2;have eM:=(gS C7).1;have mP:ed.to=(ed.to.toNat:Nat):=by omega
    have FJ:=IJ t2 (mG C7);rw [yo hx hK.lZ] at hE;have nv:=rV ⟨ag,aC,lo,dF,most,af,es⟩ (.mk vk vn vs ks) e ed hK.lZ (fun c=>(FI rfl c e al).1) Fz;have Ai:=TG ed hK.mem;have hho:=hhow ed hK.mem;have TD:=TB.2.2 ed hK.mem;have TF:=(hN.lZ ed hK.mem).cn.2.1;have NA:=FE ed t2 x TF (Fo wb) FJ.1 FJ.2.1 TD (by omega);have jt:=fW x 9 ed.wide ap;have qY:=ih x (by omega) (by omega) wb ed.to.toNat (lz f lv.length ⟨ag,aC,lo,dF,most,af,es⟩ ed a) (He hL hN hK.mem ha) eM;rw [<- mP] at qY
    have pO:FF ND f lv.length bJ ⟨ag,aC,lo,dF,most,af,es⟩ ed a x=if ra f lv.length bJ ⟨ag,aC,lo,dF,most,af,es⟩ ed a=2 then seeV ND f lv.length bJ x ed.to (lz f lv.length ⟨ag,aC,lo,dF,most,af,es⟩ ed a) else if ra f lv.length bJ ⟨ag,aC,lo,dF,most,af,es⟩ ed a=1 then gJ ed t2 x else bN x 9 ed.wide ap:=by
     unfold FF;rw [h2]
    generalize FF ND f lv.length bJ ⟨ag,aC,lo,dF,most,af,es⟩ ed a x=KS at hE pO;generalize ra f lv.length bJ ⟨ag,aC,lo,dF,most,af,es⟩ ed a=H at hho pO;generalize seeV ND f lv.length bJ x ed.to (lz f lv.length ⟨ag,aC,lo,dF,most,af,es⟩ ed a)=R1 at qY pO;generalize gJ ed t2 x=R2 at NA pO;generalize bN x 9 ed.wide ap=R3 at jt pO;have qN:KS=false->B=false:=fun h=>by rw [hE,h,Bool.false_and]
    have nF:KS=true->∃ j',j' < ks.length - e/\∃ e',od (wL lv f ND z) (.mk vk vn vs ks) bJ a ⟨ag,aC,lo,dF,most,af,es⟩ (e + 1)=od (wL lv f ND z) (.mk vk vn vs ks) bJ a ⟨ag,aC,lo,dF,most,af,es⟩ e' /\ e' <= ks.length/\B=seeVs ND f lv.length bJ (ks.drop e') ⟨ag,aC,lo,dF,most,af,es⟩ vn a e' /\ j'=ks.length - e':=fun h=>⟨ks.length - (e + 1),by omega,e + 1,rfl,by omega,by rw [hE,h,Bool.true_and],rfl⟩;obtain ⟨xk,xn,xs,xks⟩:=x;clear hE;refine call_p RX (nv) ax rfl ?_;refine aD (fun _=>false) mo (by decide +kernel) ?_;refine ⟨_,⟨by omega,dh hx⟩,?_⟩;refine aG wX (jt) ax rfl ?_;refine call_p VA (hho) ax rfl ?_;refine br (fun c=>?_) (fun c=>?_)
    ·have c:H=2:=by
      have:=of_decide_eq_true c;omega
     rw [if_pos c] at pO;refine aD (fun _=>false) mo (by decide +kernel) ?_;refine aG P2 (Ai) ax rfl ?_;refine ⟨_,⟨by omega,dh hx⟩,?_⟩;refine aG Vh (qY) ax rfl ?_
     cases R1 with
     | false=>
      have hB:=qN (by rw [pO]);rw [hB];exact (rfl:_=_)
     | true=>
      obtain ⟨j',g1,g2⟩:=nF (by rw [pO]);exact ⟨od (wL lv f ND z) (.mk vk vn vs ks) bJ a ⟨ag,aC,lo,dF,most,af,es⟩ (e + 1),(ay 3 rfl (C6 al) rfl rfl rfl (wNB al)),j',g1,g2⟩
    ·have c2:¬ H=2:=by
      have:=of_decide_eq_false c;omega
     rw [if_neg c2] at pO;refine br (fun c=>?_) (fun c=>?_)
     ·have c:H=1:=by
       have:=of_decide_eq_true c;omega
      rw [if_pos c] at pO;refine aD (fun _=>false) mo (by decide +kernel) ?_;refine ⟨_,⟨by omega,fV C7⟩,?_⟩;refine ⟨_,⟨by omega,dh hx⟩,?_⟩;refine aG VB (NA) ax rfl ?_
      cases R2 with
      | false=>
       have hB:=qN (by rw [pO]);rw [hB];exact (rfl:_=_)
      | true=>
       obtain ⟨j',g1,g2⟩:=nF (by rw [pO]);exact ⟨od (wL lv f ND z) (.mk vk vn vs ks) bJ a ⟨ag,aC,lo,dF,most,af,es⟩ (e + 1),(ay 3 rfl (C6 al) rfl rfl rfl (wNB al)),j',g1,g2⟩
     ·have c1:¬ H=1:=by
       have:=of_decide_eq_false c;omega
      rw [if_neg c1] at pO
      cases R3 with
      | false=>
       have hB:=qN (by rw [pO]);rw [hB];exact (rfl:_=_)
      | true=>
       obtain ⟨j',g1,g2⟩:=nF (by rw [pO]);exact ⟨od (wL lv f ND z) (.mk vk vn vs ks) bJ a ⟨ag,aC,lo,dF,most,af,es⟩ (e + 1),(ay 3 rfl (C6 al) rfl rfl rfl (wNB al)),j',g1,g2⟩
   ·have aN:e=ks.length:=by have:=LK;simp [cR,Val.ks] at this;omega
    subst aN;rw [List.drop_length,seeVs] at hE;rw [hE];exact (rfl:_=_)
theorem vK (lv:List Wd) (f:Nat->Nat->Bool) (ND:List Nd) (rt:Nat) (fH:rt < ND.length) (hL:dL f lv.length) (hn:lv.length<=32) (bE:∀ n∈ND,dE lv.length ND.length n) (bI:∀ n∈ND,n.au.length<=1099511627776) (IJ:∀ n∈ND,zW n) (o:Int) (v:Val) (hv:v.wt<=1099511627776) (Gm:rngW v) :
  EvP Tryz.prog 32 [.agg (wL lv f ND (rt:Nat)),.v (.int .i64 o),.agg (bV v)] (.v (.bool (vJ ND f lv.length rt o v))):=by
 have hb:=wx lv.length f (by omega);rw [q8 hL] at hb;have dI:=fA lv.length f;have hs:=fun (bJ:Nat) (ho:bJ < lv.length)=>r6 lv f ND (rt:Nat) hL hn bE bI IJ bJ ho _ v (Nat.le_refl _) hv Gm rt (wv f lv.length) (Hc hL) fH;have hS:vJ ND f lv.length rt o v=(decide (0<=o/\o < lv.length) && seeV ND f lv.length o.toNat v rt (wv f lv.length)):=rfl;generalize vJ ND f lv.length rt o v=SF at hS ⊢;by_cases ho:0<=o/\o < lv.length
 ·obtain ⟨ob,rfl⟩:∃ n:Nat,o=n:=⟨_,(Int.toNat_of_nonneg ho.1).symm⟩;have hs:=hs ob (by omega);rw [show decide (0<=(ob:Int)/\(ob:Int) < (lv.length:Int))=true from decide_eq_true ho,Int.toNat_natCast,Bool.true_and] at hS;rw [<- hS] at hs;obtain ⟨k,n,s,ks⟩:=v;refine ev_go (P:=Tryz.prog) tt tt_ok 5000 27 [.tmp 6] Tryz.func32 rfl Tryz.ntmps32 rfl (nL rfl) (fun E9 w9 hn9 hm9=>?_);refine aD (fun _=>false) mo (by decide +kernel) ?_;refine br (fun _=>?_) (fun c=>absurd c (by simp [pickB_and,dI];omega));refine aG Z2 (hb) ax rfl ?_;refine aG Vh (hs) ax rfl ?_;exact (rfl:_=_)
 ·rw [show decide (0<=o/\o < (lv.length:Int))=false from decide_eq_false ho,Bool.false_and] at hS;rw [hS];obtain ⟨k,n,s,ks⟩:=v;refine ev_go (P:=Tryz.prog) tt tt_ok 5000 27 [.tmp 6] Tryz.func32 rfl Tryz.ntmps32 rfl (nL rfl) (fun E9 w9 hn9 hm9=>?_);refine aD (fun _=>false) mo (by decide +kernel) ?_;refine br (fun c=>absurd c (by simp [pickB_and,dI];omega)) (fun _=>?_);exact (rfl:_=_)
end Go.Proofs.YtfifjddnnmfeoaaGreat
set_option maxRecDepth 100000
namespace Go.Proofs.YtfifjddnnmfeoaaGreat
open Go Go.RowKit Dv Tryz
end Go.Proofs.YtfifjddnnmfeoaaGreat
set_option maxRecDepth 100000
namespace Go.Proofs.YtfifjddnnmfeoaaGreat
open Go Go.RowKit Dv Tryz
section
variable {ND:List Nd} {f:Nat->Nat->Bool} {L bJ:Nat}
theorem PA {v:Val} {i:Int} {d:Nd} (hd:dq ND i=some d) (h9:9<=v.k) (hb:bM v=true) (hk:v.ks=[]):lA ND v i=true:=by
 obtain ⟨k,n,s,ks⟩:=v;have hk:ks=[]:=hk;subst hk;have h9:9<=k:=h9;rw [lA,hd];simp only;rw [if_pos h9,hb];rfl
theorem gL {v:Val} {i:Int} {d:Nd} {k n:Int} {s:ByteArray} (hd:dq ND i=some d) (h:bN v k n s=true) (hk:(k=9/\1<=n/\n<=64)∨k=10∨k=11∨k=12):lA ND v i=true:=by
 rw [Fb.1 h];refine PA hd (by show 9<=k;omega) ?_ rfl;rcases hk with ⟨rfl,h1,h2⟩ | rfl | rfl | rfl<;>simp [bM,Val.k,Val.n]
 exact ⟨decide_eq_true h1,decide_eq_true h2⟩
theorem PB {v:Val} {i:Int} {d:Nd} {e:Ed} {t:Nd} (hd:dq ND i=some d) (hw:1<=e.wide/\e.wide<=64) (h:gJ e t v=true):lA ND v i=true:=by
 unfold gJ at h;split at h
 ·split at h
  ·rename_i c;exact gL hd c (.inl ⟨rfl,hw⟩)
  ·simp only [Bool.and_eq_true] at h;exact gL hd h.1.1.1.1 (.inr (.inl rfl))
 ·split at h
  ·simp only [Bool.and_eq_true] at h;exact gL hd h.1.1 (.inr (.inr (.inl rfl)))
  ·split at h
   ·simp only [Bool.and_eq_true] at h;exact gL hd h.1.1 (.inr (.inr (.inr rfl)))
   ·exact gL hd h (.inl ⟨rfl,hw⟩)
mutual
theorem Hq (bE:∀ n∈ND,dE L ND.length n):∀ (v:Val) (i:Int) (a:Nat),seeV ND f L bJ v i a=true->lA ND v i=true
 | .mk k n s ks,i,a,h=>by
  rw [seeV] at h
  cases hd:dq ND i with
  | none=>rw [hd] at h;cases h
  | some d=>
   rw [hd] at h;simp only at h;have hN:=bE d (mG (du hd).2);have Ha:=hN.k8;rw [lA,hd];simp only;split at h
   ·rename_i c5;obtain ⟨d',hF⟩:=I6 bE h;have Za:=hF.ai;rw [hd] at Za;injection Za with Za
    subst Za;have h1:k=d.ag:=hF.k;have h2:ks=[]:=hF.leaf c5;have h3:=hF.enum;rw [if_neg (by omega),if_neg (by omega),if_pos c5,h2];simp only [decide_true,Bool.true_and,Bool.or_eq_true,decide_eq_true_iff];by_cases c4:k=4
    ·exact .inr (h3 (by omega))
    ·exact .inl c4
   ·rename_i c5;rw [Bool.and_eq_true] at h
    have hk:k=d.ag:=by
     by_cases c:k=d.ag
     ·exact c
     ·have:=h.1;unfold shellF at this;rw [if_pos (.inl c)] at this;cases this
    rw [if_neg (by omega),if_neg (by omega),if_neg c5,Bool.and_eq_true];exact ⟨h.1,CZ bE ks d n a 0 hN (fun m hm=>by rw [Nat.zero_add];exact rb hN (by omega) h.1 hm) h.2⟩
theorem CZ (bE:∀ n∈ND,dE L ND.length n):∀ (l:List Val) (d:Nd) (z:Int) (a j:Nat),dE L ND.length d->(∀ m,m < l.length->∃ e,XY ND d z (j + m) e)->seeVs ND f L bJ l d z a j=true->gn ND l d z j=true
 | [],_,_,_,_,_,_,_=>by rw [gn]
 | x :: r,d,z,a,j,hN,hK,h=>by
  rw [seeVs,Bool.and_eq_true] at h;rw [gn,Bool.and_eq_true];refine ⟨?_,CZ bE r d z a (j + 1) hN (fun m hm=>by have:=hK (m + 1) (by rw [List.length_cons];omega);rwa [show j + (m + 1)=j + 1 + m by omega] at this) h.2⟩;obtain ⟨e,hE⟩:=hK 0 (by simp);have he:=hE.lZ;rw [Nat.add_zero] at he;have h1:=h.1;rw [he] at h1 ⊢;simp only at h1 ⊢;obtain ⟨g1,t,ht⟩:=Na hN hE.mem hE.bare;have hw:=(hN.lZ e hE.mem).wide;split at h1
  ·exact Hq bE x e.to _ h1
  ·split at h1
   ·rw [ht] at h1;exact PB ht hw h1
   ·exact gL ht h1 (.inl ⟨rfl,hw⟩)
end
theorem C0 (bE:∀ n∈ND,dE L ND.length n) {rt:Nat} {o:Int} {v:Val} (h:vJ ND f L rt o v=true):lA ND v (rt:Nat)=true:=by
 unfold vJ at h;rw [Bool.and_eq_true] at h;exact Hq bE v _ _ h.2
end
theorem pP {S:Sch} {ND:List Nd} {PC LC:List DV} (hP:ln S ND PC) (qR:EvP Tryz.prog 38 [.pt PC 0] (.pt LC 0)) (hR:I8 S.ae.length (cu S) (av S.ae) LC) (Tx:∀ n∈ND,zW n) (bI:∀ n∈ND,n.au.length<=1099511627776) (rt:Nat) (JJ:bL S=rt) (fH:rt < ND.length) (o:Int) (x:Val) (hx:x.wt<=1099511627776) (wb:rngW x) :
  EvP Tryz.prog 31 [.pt PC 0,.v (.int .i64 o),.agg (bV x)] (.tup [.v (.string (ba (Pz ND x (rt:Nat) (vJ ND (cu S) S.ae.length rt o x)))),.v (.bool (vJ ND (cu S) S.ae.length rt o x))]):=by
 rw [<- JJ];exact z6 hP x hx wb o _ (CY hP qR hR Tx bI rt JJ fH o x hx wb) (fun h=>by rw [JJ];exact C0 hP.ok h)
theorem C1 (o:Int) (x:Val):EvP Tryz.prog 31 [.v (.pointer none),.v (.int .i64 o),.agg (bV x)] (.tup [.v (.string (ba [])),.v (.bool false)]):=by
 have hf:=FK o x;obtain ⟨k,n,s,ks⟩:=x;refine sB (s:=false) (bt:=[(1,161)]) (hbt:=fun p hp=>Nat.zero_le _) (P:=Tryz.prog) tt tt_ok 5000 20 [.tmp 6,.tmp 7] Tryz.func31 rfl Tryz.ntmps31 rfl (nL rfl) (fun E9 w9 hn9 hm9=>?_);refine call_p Vg (hf) ax rfl ?_;exact ⟨.tup [.v (.string _),.v (.bool _)],ax,rfl⟩
def fX:Sch:=⟨[⟨⟨#[108,111,119]⟩,0⟩,⟨⟨#[104,105,103,104]⟩,0⟩],[(⟨⟨#[108,111,119]⟩,0⟩,⟨⟨#[104,105,103,104]⟩,0⟩)],[],.mk (exH 7) (.cons ⟨⟨⟨#[120]⟩,0⟩,false,[⟨⟨#[104,105,103,104]⟩,0⟩],2,0,0,0,[]⟩ (.mk (exH 1) .nil) .nil)⟩
def Hr:Val:=.mk 7 0 ap [.mk 9 2 ap []]
theorem Jn:(jU fX).1=0:=by decide +kernel
theorem yp:bL fX=((bL fX).toNat:Nat)/\(bL fX).toNat < (aQ fX).length:=by decide +kernel
theorem NC:vJ (aQ fX) (cu fX) fX.ae.length (bL fX).toNat 0 Hr=true:=by decide +kernel
theorem Jo:textV (aQ fX) Hr ((bL fX).toNat:Nat)=[123,120,58,32,60,42,42,62,125]:=by decide +kernel
theorem lj:EvP Tryz.prog 26 [] (.v (.bool true)):=by
 have Ba:fX.wt<=1099511627776:=by decide +kernel
 have hb:=(uN fX Ba).mono (Ψ:=fun r _ _=>EO fX r) fun _ _ _ h=>x4 Ba h;refine ev_go (P:=Tryz.prog) tt tt_ok 5000 43 [.tmp 0] Tryz.func26 rfl Tryz.ntmps26 rfl (nL rfl) (fun E9 w9 hn9 hm9=>?_);refine bl U4 rfl hb ax (fun r hr=>?_);rcases hr with ⟨hr,_⟩ | ⟨_,PC,hP,rfl⟩
 ·exact (hr Jn).elim
 obtain ⟨LC,qR,hR⟩:=hP.XX;have hrng:∀ n∈aQ fX,zW n:=fun n hn=>vC (S:=fX) (by simp [fX,Oy,rngT,rngP,exH,tW]) hn;have bI:∀ n∈aQ fX,n.au.length<=1099511627776:=fun n hn=>(mS hn Ba).2;have hl:=pP hP qR hR hrng bI (bL fX).toNat yp.1 yp.2 0 Hr (by decide +kernel) (by simp [Hr,rngW,rngWs,tW]);rw [NC,Pz,if_pos rfl,Jo] at hl;refine call_p RT (hl) ax rfl ?_;exact (rfl:_=_)
theorem C2 (S:Sch) (hS:S.wt<=1099511627776) (x:Val) (hx:x.wt<=1099511627776) :
  Ev Tryz.prog 29 [.agg (ey S),.agg (bV x)] [] [] (fun r _ _=>∃ b:Bool,r = .v (.bool b)/\(b=true->vF S)):=by
 have ga:=zg S hS;have hf:=CW S hS;have h1:=rL x.wt x (Nat.le_refl _) hx;generalize Cf x=c1 at h1;generalize wg x=d1 at h1;obtain ⟨ae,order,types,⟨rh,rp⟩⟩:=S;obtain ⟨xk,xn,xs,xks⟩:=x;refine ev_go (P:=Tryz.prog) tt tt_ok 5000 23 [.tmp 4] Tryz.func29 rfl Tryz.ntmps29 rfl (nL rfl) (fun E9 w9 hn9 hm9=>?_);refine call_p U3 (h1) ax rfl ?_;refine br (fun c=>?_) (fun c=>?_)
 ·refine bl ZN rfl ga ax (fun r hr=>?_);obtain ⟨g,rfl⟩:=hr
  cases g with
  | true=>
   refine ⟨false,?_,fun h=>by cases h⟩;refine (congrArg (fun b=>DV.v (.bool b)) ?_:_=_);simp only [pickB_and,Bool.not_true,Bool.and_false,Bool.false_and]
  | false=>
   refine bl ZZ rfl hf ax (fun r hr=>?_);obtain ⟨b,rfl,hb⟩:=hr;exact ⟨b,rfl,hb⟩
 ·exact ⟨false,rfl,fun h=>by cases h⟩
theorem compact33_law (S:Sch) (hS:S.wt<=1099511627776) (Tx:Oy S) (x:Val) (hx:x.wt<=1099511627776) (wb:rngW x) (o:Int) :
  EvP Tryz.prog 6 [.agg (ey S),.agg (bV x),.v (.int .i64 o)] (.v (.bool true)):=by
 have hf:=C2 S hS x hx;have hb:=(uN S hS).mono (Ψ:=fun r _ _=>EO S r) fun _ _ _ h=>x4 hS h;have hw:=fun h=>px S hS h;have Pb:=@EN S;have gj:=C1 o x;have hRr:=fun n (hn:n∈aQ S)=>vC Tx hn;have Jf:∀ n∈aQ S,n.au.length<=1099511627776:=fun n hn=>(mS hn hS).2;generalize hSS:S=SS at *;subst hSS
 have key:vF S->∀ PC,ln S (aQ S) PC->∃ (B:Bool) (T:List UInt8) (root:Nat),bL S=root/\EvP Tryz.prog 31 [.pt PC 0,.v (.int .i64 o),.agg (bV x)] (.tup [.v (.string (ba (if B=true then T else []))),.v (.bool B)])/\EvP Tryz.prog 32 [.agg (wL S.ae (cu S) (aQ S) (root:Nat)),.v (.int .i64 o),.agg (bV x)] (.v (.bool B)) /\
   (B=true->EvP Tryz.prog 33 [.agg (wL S.ae (cu S) (aQ S) (root:Nat)),.v (.int .i64 (root:Nat)),.agg (bV x)] (.v (.string (ba T)))):=fun h0 PC hP=>by
  obtain ⟨root,JJ,fH⟩:=Pb (pw h0.Jz);obtain ⟨LC,qR,hR⟩:=hP.XX;refine ⟨_,_,root,JJ,pP hP qR hR hRr Jf root JJ fH o x hx wb,vK S.ae (cu S) (aQ S) root fH hR.ok hR.n32 hP.ok Jf hRr o x hx wb,fun h=>?_⟩;exact rY S.ae (cu S) (aQ S) root hP.ok Jf _ x (Nat.le_refl _) hx wb root (C0 hP.ok h)
 obtain ⟨ae,order,types,⟨rh,rp⟩⟩:=S;obtain ⟨xk,xn,xs,xks⟩:=x;refine ev_go (P:=Tryz.prog) tt tt_ok 5000 66 [.tmp 6] Tryz.func6 rfl Tryz.ntmps6 rfl (nL rfl) (fun E9 w9 hn9 hm9=>?_);refine bl ZQ rfl hf ax (fun r hr=>?_);obtain ⟨b,rfl,h0⟩:=hr
 cases b with
 | false=>
  refine call_p RS (lj) ax rfl ?_;exact (rfl:_=_)
 | true=>
  have hF:=h0 rfl;have h0:=hF.Jz;have hw:=hw h0;refine bl U4 rfl hb ax (fun r hr=>?_);rcases hr with ⟨hr,_⟩ | ⟨_,PC,hP,rfl⟩
  ·exact (hr h0).elim
  obtain ⟨B,T,root,JJ,hA1,hA2,hA3⟩:=key hF PC hP;rw [JJ] at hw;refine call_p U7 (hw) ax rfl ?_;refine call_p RT (hA1) ax rfl ?_;refine call_p RT (gj) ax rfl ?_;refine call_p ZR (hA2) ax rfl ?_
  cases B with
  | false=>
   rw [if_neg (by simp)];refine call_p RS (lj) ax rfl ?_;exact (rfl:_=_)
  | true=>
   rw [if_pos rfl];have hA3:=hA3 rfl;refine call_p Kp (hA3) ax rfl ?_;refine br (fun _=>?_) (fun c=>absurd c (by simp [pickB_and]))
   ·refine call_p RS (lj) ax rfl ?_;refine (congrArg (fun b=>DV.v (.bool b)) ?_:_=_);simp [pickB_and]
end Go.Proofs.YtfifjddnnmfeoaaGreat
