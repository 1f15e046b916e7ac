/- Part 5 of the proof: Regions that draw their order, in which two new objects may come in either order; Regions that draw their order, in which several new objects may come in any order; Typed: bad, truth, number, text, enum, find, call; The least depths of the values of a plan's nodes: plain; Which nodes have several values: plain; How many unlike values nodes have: plain, as the document counts; The program's nodes, least depths; The document's least depths; fine; the chapter's example; The program's Depths; The law of least depths: fine, the example, the call returns true; The program's several, Several; The document's count, Many; the law of several values: the call returns true; The document's Many; the law of several values: the call returns true; First and second values: tags, sizes: plain; Regions that draw their order and only read: run with one state; Sample: the program's tags and sizes; Sample: the program's turn, part, first, changed; First and second values: the tables, the values: plain; Sample: the program's first, changed, second; Sample: the program's second; Sample: make1: all sizes; Rules for the evaluator: calls that hand back fresh rows; Rules for the evaluator: elements of rows whose cells nobody else knows, read and written whole; Rules for the evaluator: a slice literal without elements, its cells known; Rules for the evaluator: a slice literal, its cells known; A contract that hands back a fresh row is one of data alone, too; Paths of a value: plain; tree.steps; Where steps lead in a value, and that value with another one there: plain; tree: slices.Index of steps, kid, clone, Get; tree: put, Set; Sample: one: first values; Sample: two: second values; Sample: fits, First, Second; no plan; Values along paths: what stands beside, what is alive, the value itself: plain; The document's Bottom, Right of paths; the program's Right of paths; Where steps lead: the document's Edge, Walk; the program's; The program's way along steps: fits, step, Walk; Sample: what stands beside, the nodes and edges of a path, what is alive; With which schemas nothing is wrong: the document's Wrong of chapters 20, 21; the law's fine; Which levels see a place: the program's Who; Sample: the nodes and edges of a path, what is alive; Sample: a value with another one in it; Typed: list, opt; Typed: opt, union; Typed: union; Typed: record; Typed: record; tree.write, Raw; The document's Fits; Written values: well formed; the document's Same on the same value; its Raw; What is read of a value, as the plain data; What the frames of laws over values share; Values as they are written: how big they are; what is read of them; Typed: Check; how many values are in what is written; What is written of a value that fits is checked as that value; Typed: plain facts for the round trip; what is read of a value as it is written; The document's Raw; The law of values that fit: fine, the example, the call returns true; ref25.Paths; tree: walk, Paths; What is read of steps, and of steps with a value; Rules for the evaluator: a small region that draws its order, of which more than one end may come: all orders are tried; Cursors: plain; The greatest multiple of a unit that is at most a number; Whole numbers in texts, plain; Whole numbers in texts: the program's run, value, Take; UTF-8: the program's lead, value; UTF-8: the program's Decode; UTF-8: the document's reckoned, Scalar, Encode; UTF-8: the document's Scalar, Encode; UTF-8, plain: the document's well-formed bytes are the program's; a text's first units; UTF-8: the document's begins, left, Decode; Tables of runes; the unit at a place: the program's and the document's; What is seen of values, and where that differs, plain; A text's first units: the document's Head, the program's heads, floors; Whole numbers in texts: the program's Take of a number that there is; Cursors: the program's Peek, step, is, Mark, Word, Take, Need, Fail, Enter, Leave, Fault; Cursors: the program's is, Mark, Word, Take, FailAt, Fail, Need, Enter, Leave, Next; Rules for the evaluator: a call that writes the caller's objects, in a region that draws its order; The reader of schemas: wrong, fine, keyword, name; The reader of schemas: a type where something is wrong; the type bool; The reader of values: enter, word, a value that is a word; The reader of values: a record's key and value; Rules for the evaluator: calls that hand back new objects; A new cursor; The library's IndexByte, laid at this program; HasPrefix; Tokens: Blank, Mark, the token of a name, of a mark, of a number; Tokens: the token of a name, of a mark, of a number; all of a text's; The reader of values: a record of one key; Parse of the example's text; The chapter's example of values that are read. No condition. -/
import Derived.Lib.Hide
import Derived.Shelf.Strings.Search1
import Derived.Test.YtfdedoiiahbnnaaGreatNc2
import Derived.Test.YtfdedoiiahbnnaaGreatNc3
import Derived.Test.YtfdedoiiahbnnaaGreatNc4
set_option linter.all false
set_option maxRecDepth 100000
namespace Go.Proofs.YtfdedoiiahbnnaaGreat
open Go Go.RowKit
namespace Dv
section
variable {X:Ctx} {st:St}
theorem Is {id:Nat} {ops:Array Oper} {k:List It} (W:Nat->Bool) (T:dg) (i j:Nat) (hm:X.P.follows .mixedOrders=true) (hc:(zE ops && xB ops W && chkA ops T (List.range ops.size) none)=true) (S:St)
  (h:goA X ⟨ops,W,[.mC fun s=>(s=S∨cp s S)∨cp s (ch i j S)],st,none⟩ T true st.sl st) (fL:(Nat.ble X.n0 i && Nat.ble X.n0 j && Nat.blt i S.bx.length && Nat.blt j S.bx.length)=true) (hk:go X 4000 k S) (hX:X.bt=[]:=by exact rfl):jo X id ops k st:=by
 intro E a w hr;have ei:=eE hr;simp only [aP] at hc;simp only [aP,Nat.ble_eq,Nat.blt_eq] at fL;obtain ⟨⟨hN,hP⟩,hT⟩:=hc;simp only [zE,aP,List.all_eq_true,List.mem_range] at hN;have hs:=kY ei (ops:=ops) (W:=W) (k:=[.mC fun s=>(s=S∨cp s S)∨cp s (ch i j S)]);have bg:=tu (D:=⟨⟨ops,W,[.mC fun s=>(s=S∨cp s S)∨cp s (ch i j S)],st,none⟩,E,w.drew⟩) ei.env.em rfl T _ _ hT true st.sl st h E a w.drew hs;refine wp_region_any hm ?_;refine xE (C:=CC E st.bx w.drew) (Q:=kq X [.mC fun s=>(s=S∨cp s S)∨cp s (ch i j S)] .normal) (Region.noSelect_spec hN.1) hP (fun i o ho e he hb=>?_) (fun a w hq=>?_) ops.size (Array.replicate ops.size false) (List.range ops.size) a _ (by simp) ?_ List.nodup_range ?_ (by simp) ⟨T,hT,bg⟩
 ·have h1:=hN.2 i (Array.getElem?_eq_some_iff.1 ho).1;rw [ho] at h1;have h2:=List.all_eq_true.1 h1 e (sU he);rw [hb] at h2;simpa using h2
 ·obtain ⟨lz,E1,ba,hJ⟩:=hq;rcases hJ with (rfl | hJ) | hJ
  ·exact go_sound 4000 _ _ hk E1 a w ba
  ·exact go_sound 4000 _ _ hk E1 a w (pE ba hJ)
  ·obtain ⟨E2,lU⟩:=tY hX (pE ba hJ) fL.1.1.1 fL.1.1.2 fL.1.2 fL.2;exact go_sound 4000 _ _ hk E2 a w lU
 ·simp_all
 ·intro k o ho hk
  grind
theorem gK {id:Nat} {ops:Array Oper} {k:List It} (T:dg) (i j:Nat) (hm:X.P.follows .mixedOrders=true) (hc:(zE ops && xB ops (I1 ops) && chkA ops T (List.range ops.size) none)=true) (S:St)
  (h:goA X ⟨ops,I1 ops,[.mC fun s=>(s=S∨cp s S)∨cp s (ch i j S)],st,none⟩ T true st.sl st) (fL:(Nat.ble X.n0 i && Nat.ble X.n0 j && Nat.blt i S.bx.length && Nat.blt j S.bx.length)=true) (hk:go X 4000 k S) (hX:X.bt=[]:=by exact rfl):jo X id ops k st:=
 Is (I1 ops) T i j hm hc S h fL hk hX
end
end Dv
end Go.Proofs.YtfdedoiiahbnnaaGreat
set_option maxRecDepth 100000
namespace Go.Proofs.YtfdedoiiahbnnaaGreat
open Go Go.RowKit Dv Go.Proofs.Tryz
abbrev oQ (r:zB):DV:=.cj [.agg (lr r.1),Ft.d r.2]
def rwA:Rw->Int
 | .mk _ a _ _ _ _=>a
theorem dE (e:Int) (r:Rw):bh prog 149 [.v (.int .i64 e),.agg (dRw r)] (oQ (bS e (rwA r))):=by
 obtain ⟨k,a,n,s,keys,ks⟩:=r;refine eG 11 [.cell 4 61,.cell 5 26] func149 rfl ntmps149 rfl fun _ _ _ _=>?_;refine cy [1,2] (fun _=>false) mo (by decide +kernel) ?_;exact ⟨_,ax,rfl⟩
theorem ob (k a n:Int) (s:ByteArray) (keys:List Wd) (ks:List Rw):bh prog 151 [.agg (dRw (.mk k a n s keys ks))] (.v (.bool (decide (k=6) && decide (ks.length=1)))):=by
 have hl:(dRws ks).length=ks.length:=by rw [dR,List.length_map]
 refine eG 12 [.tmp 2] func151 rfl ntmps151 rfl fun _ _ _ _=>?_;refine (dH ?_:);rw [aH,hl];congr 1;exact decide_eq_decide.2 (by omega)
theorem uN (d:Nd) (h1:d.ai=1) (k a n:Int) (s:ByteArray) (keys:List Wd) (ks:List Rw):bh prog 72 [.agg (dRw (.mk k a n s keys ks))] (oQ (ckLeaf d k a n s)):=by
 have hb:=dE 14 (Rw.mk k a n s keys ks);unfold ckLeaf;rw [aj h1];refine eG 30 [.cell 2 61,.cell 3 26] func72 rfl ntmps72 rfl fun _ _ _ _=>?_;refine br ?_ ?_<;>intro c
 ·have c:k=1/\s=n9:=by
   have c:k=1/\s=⟨#[116,114,117,101]⟩:=by simpa [aH] using c
   exact c
  rw [aj c];exact ⟨_,ax,rfl⟩
 have c1:¬ (k=1/\s=n9):=by
  intro h;have h2:s=⟨#[116,114,117,101]⟩:=h.2;simp [aH,h.1,h2] at c
 rw [ah c1];refine br ?_ ?_<;>intro c
 ·have c:k=1/\s=uL:=by
   have c:k=1/\s=⟨#[102,97,108,115,101]⟩:=by simpa [aH] using c
   exact c
  rw [aj c];exact ⟨_,ax,rfl⟩
 have c2:¬ (k=1/\s=uL):=by
  intro h;have h2:s=⟨#[102,97,108,115,101]⟩:=h.2;simp [aH,h.1,h2] at c
 rw [ah c2];refine cP fp hb ?_;exact ⟨_,ax,rfl⟩
theorem rH (d:Nd) (h2:d.ai=2) (k a n:Int) (s:ByteArray) (keys:List Wd) (ks:List Rw):bh prog 73 [.agg (n5 d),.agg (dRw (.mk k a n s keys ks))] (oQ (ckLeaf d k a n s)):=by
 have hb:=fun e=>dE e (Rw.mk k a n s keys ks);unfold ckLeaf;rw [ah (by omega),aj h2];obtain ⟨ai,cF,lo,hi,most,af,es⟩:=d;simp only;refine eG 35 [.cell 4 61,.cell 5 26] func73 rfl ntmps73 rfl fun _ _ _ _=>?_;refine br ?_ ?_<;>intro c
 ·have c:k≠2:=sU c;rw [aj c];refine cP fp (hb 14) ?_;exact ⟨_,ax,rfl⟩
 have c:¬ k≠2:=sU c;rw [ah c];refine br ?_ ?_<;>intro c
 ·have c:n < lo∨hi < n:=by simpa [aF] using c
  rw [aj c];refine cP fp (hb 20) ?_;exact ⟨_,ax,rfl⟩
 ·have c:¬ (n < lo∨hi < n):=by
   intro h;rw [aF,Bool.or_eq_false_iff] at c;have h1:¬ n < lo:=of_decide_eq_false c.1;have h2:¬ hi < n:=of_decide_eq_false c.2;omega
  rw [ah c];exact ⟨_,ax,rfl⟩
theorem xF (d:Nd) (h3:d.ai=3) (k a n:Int) (s:ByteArray) (keys:List Wd) (ks:List Rw):bh prog 74 [.agg (n5 d),.agg (dRw (.mk k a n s keys ks))] (oQ (ckLeaf d k a n s)):=by
 have hb:=fun e=>dE e (Rw.mk k a n s keys ks);unfold ckLeaf;rw [ah (by omega),ah (by omega),aj h3];obtain ⟨ai,cF,lo,hi,most,af,es⟩:=d;simp only;refine eG 29 [.cell 4 61,.cell 5 26] func74 rfl ntmps74 rfl fun _ _ _ _=>?_;refine br ?_ ?_<;>intro c
 ·have c:k≠3:=sU c;rw [aj c];refine cP fp (hb 14) ?_;exact ⟨_,ax,rfl⟩
 have c:¬ k≠3:=sU c;rw [ah c];refine br ?_ ?_<;>intro c
 ·have c:most < (s.size:Int):=sU c;rw [aj c];refine cP fp (hb 20) ?_;exact ⟨_,ax,rfl⟩
 ·have c:¬ most < (s.size:Int):=sU c;rw [ah c];exact ⟨_,ax,rfl⟩
abbrev LJ (L:List ByteArray) (s:ByteArray) (e:Nat):St:=
 ⟨[dJ 0 1 (dj L),(1,⟨[],.v (.string s)⟩),aA 7 ((dj L).length),aA 8 e],[],[]⟩
theorem uP (L:List ByteArray) (s:ByteArray) (hl:L.length<=1099511627776):bh prog 150 [.sl 1 (dj L) none,.v (.string s)] (.v (.int .i64 (oz (cY L s)))):=by
 have sn:=bz L;have hI:cY L s=bq (fun i=>decide (L[i]? = some s)) L.length:=rfl;rw [hI];refine eG 19 [.tmp 4] func150 rfl ntmps150 rfl fun _ _ _ _=>?_;refine lI (fun j st=>∃ e:Nat,st=LJ L s e/\e<=L.length/\(∀ c,c < e->decide (L[c]? = some s)=false)/\j=L.length - e) ⟨0,rfl,by omega,fun _ h=>by omega,rfl⟩ (cL wB) ?_;rintro j st ⟨e,rfl,he,gQ,rfl⟩;refine br ?_ ?_<;>intro hL
 ·have av:e < L.length:=sV sn hL;obtain ⟨x,hx⟩:=gX av;refine iX (dX hx) ?_;refine br ?_ ?_<;>intro g
  ·have g:s=x:=sU g;rw [cQ av (decide_eq_true (by rw [hx,g])) gQ];exact (rfl:_=_)
  ·have g:¬ s=x:=sU g
   exact rE ⟨_,by omega,e + 1,rfl,by omega,fun c jD=>by
     rcases q7 jD with h | h
     ·exact gQ c h
     ·rw [h,hx];exact decide_eq_false (fun h=>g (Option.some.inj h).symm),rfl⟩ (cL (iG (bV av (by omega))))
 ·have bO:e=L.length:=sW sn hL;subst bO;rw [dC gQ];exact (rfl:_=_)
theorem xG (d:Nd) (h4:d.ai=4) (hl:d.af.length<=1099511627776) (k a n:Int) (s:ByteArray) (keys:List Wd) (ks:List Rw):bh prog 75 [.agg (n5 d),.agg (dRw (.mk k a n s keys ks))] (oQ (ckLeaf d k a n s)):=by
 have hb:=fun e=>dE e (Rw.mk k a n s keys ks);have mY:=uP d.af s hl;unfold ckLeaf;rw [ah (by omega),ah (by omega),ah (by omega)];generalize cY d.af s=I at mY ⊢;obtain ⟨ai,cF,lo,hi,most,af,es⟩:=d;simp only at mY ⊢;by_cases c1:k≠1
 ·rw [aj c1];refine eG 30 [.cell 4 61,.cell 5 26] func75 rfl ntmps75 rfl fun _ _ _ _=>?_;refine cP D5 mY ?_;refine br (fun _=>?_) (fun c=>absurd c (sU c1));refine cP fp (hb 14) ?_;exact ⟨_,ax,rfl⟩
 ·rw [ah c1]
  cases I with
  | none=>
   refine eG 30 [.cell 4 61,.cell 5 26] func75 rfl ntmps75 rfl fun _ _ _ _=>?_;refine cP D5 mY ?_;refine br (fun c=>absurd c (sU c1)) (fun _=>?_);refine cP fp (hb 9) ?_;exact ⟨_,ax,rfl⟩
  | some i=>
   obtain ⟨J,hJ⟩:∃ J:Int,J=(i:Int):=⟨_,rfl⟩;have mY:bh prog 150 [.sl 1 (dj af) none,.v (.string s)] (.v (.int .i64 J)):=by rw [hJ];exact mY
   simp only;rw [<- hJ];refine eG 30 [.cell 4 61,.cell 5 26] func75 rfl ntmps75 rfl fun _ _ _ _=>?_;refine cP D5 mY ?_;refine br (fun c=>absurd c (sU c1)) (fun _=>?_);refine br (fun c=>?_) (fun _=>?_)
   ·exfalso;have c:J < 0:=sU c;omega
   exact ⟨_,ax,rfl⟩
theorem zG (x:Ed) (s:ByteArray):bh prog 233 [.agg (H0 x),.pt [.v (.string s)] 0] (.v (.bool (decide (x.name=s)))):=by
 obtain ⟨en,eb,ea,et,P9,ew,Qa,Qb,Qc,Qd⟩:=x;refine eG 8 [.tmp 3] func233 rfl ntmps233 rfl fun _ _ _ _=>?_;exact (rfl:_=_)
abbrev Iu (es:List Ed) (s:ByteArray) (e:Nat):St:=
 ⟨[dJ 0 10 (iv es),(1,⟨[],.fn 233 [] [.pt [.v (.string s)] 0]⟩),aA 7 ((iv es).length),aA 8 e],[],[]⟩
theorem zH (es:List Ed) (s:ByteArray) (q4:es.length<=1099511627776) :
  bh prog 232 [.sl 10 (iv es) none,.fn 233 [] [.pt [.v (.string s)] 0]] (.v (.int .i64 (oz (bq (tj es s) es.length)))):=by
 have sn:=dD es;refine eG 19 [.tmp 4] func232 rfl ntmps232 rfl fun _ _ _ _=>?_;refine lI (fun j st=>∃ e:Nat,st=Iu es s e/\e<=es.length/\(∀ c,c < e->tj es s c=false)/\j=es.length - e) ⟨0,rfl,by omega,fun _ h=>by omega,rfl⟩ (cL wB) ?_;rintro j st ⟨e,rfl,he,gQ,rfl⟩;refine br ?_ ?_<;>intro hL
 ·have av:e < es.length:=sV sn hL;obtain ⟨x,hx⟩:=gX av;have hP:tj es s e=decide (x.name=s):=by unfold tj;rw [hx]
  refine iX (gJ hx) ?_;refine cP Ns (zG x s) ?_;refine br ?_ ?_<;>intro g
  ·rw [cQ av (hP.trans g) gQ];exact (rfl:_=_)
  ·exact rE ⟨_,by omega,e + 1,rfl,by omega,fun c jD=>by
     rcases q7 jD with h | h
     ·exact gQ c h
     ·rw [h];exact hP.trans g,rfl⟩ (cL (iG (bV av (by omega))))
 ·have bO:e=es.length:=sW sn hL;subst bO;rw [dC gQ];exact (rfl:_=_)
theorem CI (d:Nd) (s:ByteArray):bq (tj d.aR s) d.aR.length=mF d s:=by
 unfold mF cY;rw [List.length_map];congr 1;funext i;unfold tj;rw [List.getElem?_map]
 cases d.aR[i]? with
 | none=>simp
 | some e=>simp
theorem oc (d:Nd) (s:ByteArray) (q4:d.aR.length<=1099511627776):bh prog 152 [.agg (n5 d),.v (.string s)] (.v (.int .i64 (oz (mF d s)))):=by
 have mY:=zH d.aR s q4;rw [CI] at mY;generalize mF d s=I at mY ⊢;obtain ⟨ai,cF,lo,hi,most,af,es⟩:=d;refine eG 9 [.tmp 4] func152 rfl ntmps152 rfl fun _ _ _ _=>?_;refine na Nr mY ax rfl ?_;exact (rfl:_=_)
theorem SG {bx:List (List DV)} {N n0 m0 n i:Nat} {r:List Bool} (hr:r.length=n) (hN:N<=i) (hb:bx[i]? = some (cB r)):Cc bx N n0 m0 (.sl 1 (Cy r) none) (.ms i 1 0 n n):=by
 simp only [Cc];refine Or.inr (Or.inr (Or.inl ⟨i,0,n,_,by rw [uG,hr],hN,hb,?_,?_,?_⟩))
 ·grind [wX,FM,uG]
 ·grind [Cy]
 ·intro x hx;rw [wX] at hx;obtain ⟨_,_,rfl⟩:=List.mem_map.1 hx;exact .inl ⟨_,rfl⟩
def SH (n:Nat):Nat:=min n 4097
def othE (t:List Nat) (k:Nat × Option Nat):Nat:=match k.2 with
 | none=>k.1
 | some j=>if t.getD j 0=0 then 0 else SH (k.1 + t.getD j 0)
def SI (kf:Nat->Option (Nat × Option Nat)) (t:List Nat):Prop:=∀ i,t.getD i 0≠0->∃ k,kf i=some k/\t.getD i 0=othE t k
section
variable {kf:Nat->Option (Nat × Option Nat)} {N:Nat}
theorem j8 (kf:Nat->Option (Nat × Option Nat)) (N:Nat):SI kf (List.replicate N 0):=fun i hi=>by grind
end
end Go.Proofs.YtfdedoiiahbnnaaGreat
namespace Go.Proofs.YtfdedoiiahbnnaaGreat
namespace Dv
open Go Go.RowKit
section
variable {X:Ctx} {st:St} {k:List It} {E:En} {a:Act} {w:World}
theorem uQ (h:Rel X E st a w) {es:List (List DV)} {cs:List DV} {kt m oB e:Nat} {v:Value} (hv:Rv E (.sl 0 es (some kt)) v) (hq:st.tk[kt]? = some ⟨m,oB,e,some cs⟩) (gU:es.length=m) (hm:0 < m) :
  ∃ g cap,∃ cur:Array Value,v = .slice (some ⟨g,0,none⟩) m cap/\E.tk[kt]? = some ⟨m,oB,e,some cs⟩/\E.τ[kt]? = some v/\w.heap[g]? = some (.cells cur oB (0,0))/\cur.size=cap * e/\cs.length=m * e/\RvC E.cl cs (cur.toList.take (m * e))/\m<=cap/\cap<=maxLen/\g ∉ E.β/\∀ x u,E.c x=some u->x.block=g->x.off < 0:=by
 unfold Rv at hv;obtain ⟨bs,ns,jF,e1,⟨u6,GG⟩,G9,yl⟩:=hv;subst u6;obtain ⟨q',jq,_,Ko⟩:=yl kt rfl;have gh:E.tk[kt]? = some ⟨m,oB,e,some cs⟩:=by rw [h.tk];exact hq
 rw [gh] at jq;simp only [oI] at jq;subst jq;have hy:=Ko gU;rcases h.env.bN kt _ _ gh hy with ⟨_,tG,_⟩ | ⟨g,cap,cur,mO,hw0,⟨vE,vF⟩,pj,ru,fI,hc0⟩
 ·simp only at tG;omega
 obtain ⟨h5,h6⟩:=vF cs rfl;exact ⟨g,cap,cur,mO,gh,hy,hw0,vE,h5,h6,pj,ru,fI,hc0⟩
theorem A6 {o1:Oper} {t et e gg nn m g cap:Nat} {bb:Bool} {zz:List Value} {z:Int} {kd:IntKind} {s ix:Operand} (h1:o1.op = .indexAddr t s ix) (e1:a.eval s = .slice (some ⟨g,0,none⟩) m cap) (e2:a.eval ix = .int kd z)
  (hT:X.T.find t=some ⟨nn,bb,.sl et e gg,zz⟩) (hz:0<=z/\z < m) (w:World):(execOp a.eval o1).run X.P w = .ok (.value (.pointer (some ⟨g,z.toNat * e,none⟩))) w:=by
 obtain ⟨hu,ii,zv,rj,_,Ld,_,_⟩:=dt X.hT hT;have lQ:eW X.P et=some e:=by rw [dG rj,Ld]
 have bg:(Instr.indexAt t (.slice (some ⟨g,0,none⟩) m cap) (.int kd z)).run X.P w = .ok (.pointer (some ⟨g,z.toNat * e,none⟩)) w:=by
  simp [Instr.indexAt,asIntOf,run_underlying hu,hz.1,hz.2,aD lQ,Addr.add_lit]
 simp only [execOp,h1,e1,e2,Sem.run_bind,bg,Result.andThen_ok,Sem.run_pure]
end
end Dv
end Go.Proofs.YtfdedoiiahbnnaaGreat
set_option maxRecDepth 100000
namespace Go.Proofs.YtfdedoiiahbnnaaGreat
open Go Go.RowKit Dv Go.Proofs.Tryz
abbrev Iv:List DV:=[.v (.int .i64 0),.v (.int .i64 0),.v (.string al),.v (.slice none 0 0)]
abbrev zeroV:Val:=.mk 0 0 al []
theorem tv {α:Type} {c:Nat} {x:List α}:∀ {l:List (List α)} {e:Nat},(∀ y∈l,y.length=c)->e < l.length->(l.set e x).flatten=l.flatten.take (e * c) ++ x ++ l.flatten.drop (e * c + c)
 | [],e,_,h=>by simp at h
 | y :: r,0,hl,h=>by
  have hy:=hl y (by simp);subst hy;simp
 | y :: r,e + 1,hl,h=>by
  have hy:=hl y (by simp);have ih:=tv (x:=x) (l:=r) (e:=e) (fun z hz=>hl z (by simp [hz])) (sU h);have h1:(e + 1) * c=y.length + e * c:=by rw [hy,Nat.add_mul,Nat.one_mul,Nat.add_comm]
  have h2:(e + 1) * c + c=y.length + (e * c + c):=by rw [h1];omega
  rw [List.set_cons_succ,List.flatten_cons,List.flatten_cons,ih,h2,h1,List.take_length_add_append,List.drop_length_add_append];simp
theorem j3:∀ (l:List Val),∀ x∈dVals l,x.length=4
 | [],x,h=>by simp [dVals] at h
 | .mk _ _ _ _ :: r,x,h=>by
  rw [dVals] at h;rcases bX h with h | h
  ·rw [h];all_goals rfl
  ·exact j3 r x h
theorem CJ (l:List Val) (e:Nat) (y:Val):dVals (l.set e y)=(dVals l).set e (lr y):=by rw [ez,ez,List.map_set]
structure Pl where
 i:Nat
 d:Nd
 k:Nat
 s:Bu
theorem A7 {n0 m0:Nat} {st aJ:St} (n:Nat) (q r:TkE) (hq:q.new=true) (hr:r.new=true) (hn:Nat.ble n st.bx.length=true) (h3:st.tk ++ [q,r]=aJ.tk) (h2:WeLL n st.tk.length aJ.tk (st.bx.take n) aJ.bx) (h4:Nat.ble n0 n=true) (h5:Nat.ble m0 st.tk.length=true)
  (h:jr n st.tk.length aJ.tk st.sl aJ.sl):kG n0 m0 st aJ:=by
 have hl:(st.bx.take n).length=n:=by simp_all
 exact ⟨st.tk,[],[q,r],st.bx.take n,st.bx.drop n,by simpa using h5,by rw [hl];simpa using h4,by simp,h3.symm,by simpa using ⟨hq,hr⟩,(List.take_append_drop n st.bx).symm,by rw [hl];exact h2,by rw [hl];exact h⟩
section
variable (PC:List DV) (ND:List Nd) (D:List Nat) (K:List Bool) (sz ot:List Nat) {L:Nat}
end
section
variable (PC:List DV) (ND:List Nd) (D:List Nat) (K:List Bool) (sz ot:List Nat) {L:Nat}
abbrev SJ (k:Int) (l:List Val):List DV:=[.v (.int .i64 k),.v (.int .i64 0),.v (.string .empty),.sl 4 (dVals l) (some 0)]
end
theorem xH {ND:List Nd} {i:Int}:∀ {l:List Rw} {acc:List Val} {e:Nat} {x:Rw},l[e]? = some x->(∀ r∈l.take e,(ckV ND r i).2.1=0)->ckL ND l i acc=if (ckV ND x i).2.1≠0 then ([],(ckV ND x i).2) else ckL ND (l.drop (e + 1)) i (acc ++ (l.take (e + 1)).map fun r=>(ckV ND r i).1)
 | [],acc,e,x,h,_=>by simp at h
 | r :: l,acc,0,x,h,_=>by
  simp at h;subst h;rw [ckL];simp
 | r :: l,acc,e + 1,x,h,hr=>by
  have h0:=hr r (by simp);rw [ckL,ah (sU h0),xH (l:=l) (e:=e) (x:=x) (sU h) (fun y hy=>hr y (by simp [hy]))];simp
theorem CK {i j:Nat} {s S:St} (h:cp s (ch i j S):=by refine (⟨rfl,rfl,?_⟩:_/\_/\_);(repeat (refine (⟨?_,?_⟩:_/\_);exact rfl));exact trivial):(s=S∨cp s S)∨cp s (ch i j S):=.inr h
section
variable (PC:List DV)
abbrev Ut:List DV:=[.v (.int .i64 0),.v (.int .i64 0)]
abbrev LK (d:Nd) (r:Rw) (ks:List Rw) (vs:List Val) (n e:Nat):St:=
 ⟨[ry 0 PC,aS 4 0,aS 6 2,aS 7 3,aS 8 4,dJ 34 6 (dRws ks),aA 35 ((dRws ks).length),aA 36 e],[n5 d,dRw r,Iv,Ut,SJ 5 vs],[⟨n,61,4,none⟩]⟩
set_option maxHeartbeats 4000000 in
theorem xI {ND:List Nd} (d:Nd) (h5:d.ai=5) {y:Ed} (hy:d.aR[0]? = some y) (hm:d.most<=1024) (k a n:Int) (s:ByteArray) (keys:List Wd) (ks:List Rw) (lB:∀ r∈ks,bh prog 31 [.pt PC 0,.v (.int .i64 y.to),.agg (dRw r)] (oQ (ckV ND r y.to))) :
  bh prog 76 [.pt PC 0,.agg (n5 d),.agg (dRw (.mk k a n s keys ks))] (oQ (if k≠4 then bS 14 a else if d.most < (ks.length:Int) then bS 20 a else eM 5 0 (ckL ND ks y.to []))):=by
 have hb:=fun e=>dE e (Rw.mk k a n s keys ks);have mV:=fB ks;obtain ⟨ai,cF,lo,hi,most,af,es⟩:=d;simp only at hy hm h5 ⊢;refine eG 65 [.cell 6 61,.cell 7 26] func76 rfl ntmps76 rfl fun _ _ _ _=>?_;refine br ?_ ?_<;>intro c
 ·have c:k≠4:=sU c;rw [aj c];refine cP fp (hb 14) ?_;exact ⟨_,ax,rfl⟩
 have c:¬ k≠4:=sU c;rw [ah c];refine br ?_ ?_<;>intro c
 ·have c:most < (ks.length:Int):=sV mV c;rw [aj c];refine cP fp (hb 20) ?_;exact ⟨_,ax,rfl⟩
 have c:¬ most < (ks.length:Int):=sV mV c;rw [ah c];refine lI (fun j st=>∃ e:Nat,st=LK PC ⟨ai,cF,lo,hi,most,af,es⟩ (.mk k a n s keys ks) ks ((ks.take e).map fun r=>(ckV ND r y.to).1) e e/\e<=ks.length/\(∀ r∈ks.take e,(ckV ND r y.to).2.1=0)/\j=ks.length - e) ⟨0,rfl,by omega,fun r hr=>by simp at hr,rfl⟩ (fj 5 ⟨0,61,4,none⟩ rfl rfl rfl BC rfl rfl tU) ?_;rintro j st ⟨e,rfl,he,gQ,rfl⟩;refine br ?_ ?_<;>intro hL
 ·have av:e < ks.length:=sV mV hL;obtain ⟨x,hx⟩:=gX av;have lB:=lB x (mG hx);have bo:=xH (ND:=ND) (i:=y.to) (acc:=[]) hx gQ;have SK:(dVals ((ks.take e).map fun r=>(ckV ND r y.to).1)).length=e:=by rw [iy,List.length_map,zLenT];omega
  have lA:dVals ((ks.take e).map fun r=>(ckV ND r y.to).1) ++ [lr (ckV ND x y.to).1]=dVals ((ks.take (e + 1)).map fun r=>(ckV ND r y.to).1):=by
   rw [nC hx,List.map_append,ez,ez,List.map_append];all_goals rfl
  have LL:(ckV ND x y.to).2.1=0->∀ r∈ks.take (e + 1),(ckV ND r y.to).2.1=0:=fun h r hr=>by
   rw [nC hx] at hr;rcases List.mem_append.1 hr with hr | hr
   ·exact gQ r hr
   ·simp at hr;rw [hr];exact h
  have hF:eM 5 0 (ckL ND ks y.to [])=if (ckV ND x y.to).2.1≠0 then (.mk 0 0 al [],(ckV ND x y.to).2) else eM 5 0 (ckL ND ks y.to []):=by
   split
   ·rename_i h;rw [bo,aj h];unfold eM;rw [aj h]
   ·rfl
  generalize ckV ND x y.to=R at lB lA LL hF;obtain ⟨⟨Rk,Rn,Rs,Rl⟩,Re,Ra⟩:=R;obtain ⟨xk,xa,xn,xs,xq,xl⟩:=x;obtain ⟨en,eb,ea,et,P9,ew,Qa,Qb,Qc,Qd⟩:=y;simp only at lB lA LL hF;refine iX (j1 hx) ?_;apply gK (.op 0 (.op 1 (.op 2 (.op 3 (.op 4 (.op 5 (.op 6 (.ev 7 (.op 8 (.op 9 (.op 10 (.ev 11 (.ev 12 (.ev 13 (.ev 14 .fin .stop) .stop) .stop) (.ev 12 (.ev 11 (.ev 13 (.ev 14 .fin .stop) .stop) .stop) .stop))))) (.ev 11 (.ev 7 (.op 8 (.op 9 (.op 10 (.ev 12 (.ev 13 (.ev 14 .fin .stop) .stop) .stop)))) (.ev 12 (.ev 7 (.op 8 (.op 9 (.op 10 (.ev 13 (.ev 14 .fin .stop) .stop)))) .stop) .stop)) (.ev 12 (.ev 7 (.op 8 (.op 9 (.op 10 (.ev 11 (.ev 13 (.ev 14 .fin .stop) .stop) .stop)))) (.ev 11 (.ev 7 (.op 8 (.op 9 (.op 10 (.ev 13 (.ev 14 .fin .stop) .stop)))) .stop) .stop)) .stop)))))))))) 6 7 mo (by decide +kernel);·repeat' (first | refine iX (gJ hy) ?_ | refine cD vV lB ?_ | exact Or.inl (Or.inl rfl) | exact Or.inl my | exact CK | exact trivial | exact Or.inl (Or.inl rfl) | exact Or.inl my | exact zu | refine ⟨?_,?_⟩)
  ·exact (rfl:_=_)
  refine br ?_ ?_<;>intro g
  ·have g:Re≠0:=sU g;rw [hF,aj g];refine cy [2,3] (fun _=>false) mo (by decide +kernel) ?_;exact ⟨_,ax,rfl⟩
  ·have g:Re=0:=sU g;refine ⟨SK,⟨by rw [SK];simp [maxLen];omega,by rw [SK];simp;omega⟩,?_⟩;exact rE ⟨_,by omega,e + 1,rfl,by omega,LL g,rfl⟩ (jy 5 (Hh (bV av (by omega)) lA) (q5 (bV av (by omega)) lA))
 ·have bO:e=ks.length:=sW mV hL;subst bO;rw [List.take_length] at gQ;rw [zC gQ,List.take_length];exact ⟨_,ax,rfl⟩
end
theorem A8 (ND:List Nd) (r:Rw) (i:Int):ckL ND [r] i []=if (ckV ND r i).2.1≠0 then ([],(ckV ND r i).2) else ([(ckV ND r i).1],0,0):=by
 rw [ckL];split
 ·rfl
 ·rw [ckL];all_goals rfl
theorem uR {k n:Int} {t:List Val × Int × Int} (h:(eM k n t).2.1=0):(eM k n t).2.2=0:=by
 unfold eM at h ⊢;split at h
 ·rename_i h1;exact (h1 h).elim
 ·rename_i h1;rw [ah h1];all_goals rfl
theorem Iw {a:Int} {t:List (Option Val) × Int × Int} (h:(fC a t).2.1=0):(fC a t).2.2=0:=by
 unfold fC at h ⊢;split at h
 ·rename_i h1;exact (h1 h).elim
 ·rename_i h1;rw [ah h1];split at h
  ·exact (by cases h)
  ·rename_i h2;rw [ah h2];all_goals rfl
theorem CL {d:Nd} {k a n:Int} {s:ByteArray}:(ckLeaf d k a n s).2.1=0->(ckLeaf d k a n s).2.2=0:=by
 unfold ckLeaf
 repeat' split
 all_goals first | exact fun _=>rfl | exact fun h=>by cases h
theorem F3 {ND:List Nd} (r:Rw) (i:Int) (h:(ckV ND r i).2.1=0):(ckV ND r i).2.2=0:=by
 obtain ⟨k,a,n,s,keys,ks⟩:=r;rw [ckV] at h ⊢;split
 ·rename_i hd;rw [hd] at h;exact (by cases h)
 ·rename_i d hd;rw [hd] at h;simp only at h;by_cases c5:d.ai < 5
  ·rw [aj c5] at h ⊢;exact CL h
  rw [ah c5] at h ⊢;by_cases c:d.ai=5
  ·rw [aj c] at h ⊢;by_cases c1:k≠4
   ·rw [aj c1] at h;cases h
   rw [ah c1] at h ⊢;by_cases c2:d.most < (ks.length:Int)
   ·rw [aj c2] at h;cases h
   rw [ah c2] at h ⊢;exact uR h
  rw [ah c] at h ⊢;by_cases c6:d.ai=6
  ·rw [aj c6] at h ⊢;by_cases c1:k=1/\s=qH
   ·rw [aj c1];all_goals rfl
   rw [ah c1] at h ⊢;by_cases c2:k≠6∨ks.length≠1∨s≠xz
   ·rw [aj c2] at h;cases h
   rw [ah c2] at h ⊢;exact uR h
  rw [ah c6] at h ⊢;by_cases c7:d.ai=7
  ·rw [aj c7] at h ⊢;by_cases c1:k≠5∨keys.length≠ks.length
   ·rw [aj c1] at h;cases h
   rw [ah c1] at h ⊢;exact Iw h
  rw [ah c7] at h ⊢;by_cases c8:k≠1/\(k≠6∨ks.length≠1)
  ·rw [aj c8] at h;cases h
  rw [ah c8] at h ⊢
  cases Uu:mF d s with
  | none=>rw [Uu] at h;cases h
  | some c=>
   rw [Uu] at h;simp only at h ⊢
   cases he:d.aR[c]? with
   | none=>rw [he] at h;cases h
   | some e=>
    rw [he] at h;simp only at h ⊢;by_cases c1:k=1
    ·rw [aj c1] at h ⊢;by_cases cb:e.bare=true
     ·rw [aj cb];all_goals rfl
     ·rw [ah cb] at h;cases h
    ·rw [ah c1] at h ⊢;by_cases cb:e.bare=true
     ·rw [aj cb] at h;cases h
     ·rw [ah cb] at h ⊢;exact uR h
section
variable (PC:List DV)
set_option maxHeartbeats 4000000 in
theorem zI {ND:List Nd} (d:Nd) {y:Ed} (hy:d.aR[0]? = some y) (k a n:Int) (s:ByteArray) (keys:List Wd) (ks:List Rw) (lB:∀ r∈ks,bh prog 31 [.pt PC 0,.v (.int .i64 y.to),.agg (dRw r)] (oQ (ckV ND r y.to))) :
  bh prog 77 [.pt PC 0,.agg (n5 d),.agg (dRw (.mk k a n s keys ks))] (oQ (if k=1/\s=qH then jz (.mk 6 0 al []) else if k≠6∨ks.length≠1∨s≠xz then bS 14 a else eM 6 0 (ckL ND ks y.to []))):=by
 have hb:=fun e=>dE e (Rw.mk k a n s keys ks);have mV:=fB ks;have jJ:=ob k a n s keys ks;generalize cC:(decide (k=6) && decide (ks.length=1))=cl at jJ;have CM:cl=true↔k=6/\ks.length=1:=by rw [<- cC];simp
 obtain ⟨ai,cF,lo,hi,most,af,es⟩:=d;simp only at hy;refine eG 57 [.cell 6 61,.cell 7 26] func77 rfl ntmps77 rfl fun _ _ _ _=>?_;refine br ?_ ?_<;>intro c
 ·have c:k=1/\s=qH:=by
   have c:k=1/\s=⟨#[110,111,110,101]⟩:=by simpa [aH] using c
   exact c
  rw [aj c];exact ⟨_,ax,rfl⟩
 have c1:¬ (k=1/\s=qH):=by
  intro h;have h2:s=⟨#[110,111,110,101]⟩:=h.2;simp [aH,h.1,h2] at c
 rw [ah c1];refine cP Av jJ ?_;refine br ?_ ?_<;>intro c
 ·have c:k≠6∨ks.length≠1∨s≠xz:=by
   by_cases h1:k=6
   ·by_cases h2:ks.length=1
    ·refine .inr (.inr fun h3=>?_);have h3:s=⟨#[115,111,109,101]⟩:=h3;rw [CM.2 ⟨h1,h2⟩] at c;simp [aF,h3] at c
    ·exact .inr (.inl h2)
   ·exact .inl h1
  rw [aj c];refine cP fp (hb 14) ?_;exact ⟨_,ax,rfl⟩
 have c2:cl=true/\s=xz:=by
  cases cl with
  | false=>simp [aF] at c
  | true=>
   refine ⟨rfl,?_⟩;have:s=⟨#[115,111,109,101]⟩:=by simpa [aF] using c
   exact this
 obtain ⟨LM,gL⟩:=CM.1 c2.1
 rw [ah (by
  intro h;rcases h with h | h | h
  ·exact h LM
  ·exact h gL
  ·exact h c2.2)]
 obtain ⟨x,rfl⟩:=List.length_eq_one_iff.1 gL;have lB:=lB x (by simp);have ri:=F3 (ND:=ND) x y.to;rw [A8];generalize ckV ND x y.to=R at lB ri ⊢;obtain ⟨⟨Rk,Rn,Rs,Rl⟩,Re,Ra⟩:=R;have SL:(dRws [x])[0]? = some (dRw x):=rfl;obtain ⟨xk,xa,xn,xs,xq,xl⟩:=x;obtain ⟨en,eb,ea,et,P9,ew,Qa,Qb,Qc,Qd⟩:=y;simp only at lB ri ⊢;apply gK (.op 0 (.op 1 (.op 2 (.op 3 (.op 4 (.op 5 (.op 6 (.op 7 (.op 8 (.op 9 (.ev 10 (.op 11 (.op 12 (.op 13 (.ev 14 (.ev 15 (.ev 16 (.ev 17 .fin .stop) .stop) .stop) (.ev 15 (.ev 14 (.ev 16 (.ev 17 .fin .stop) .stop) .stop) .stop))))) (.ev 14 (.ev 10 (.op 11 (.op 12 (.op 13 (.ev 15 (.ev 16 (.ev 17 .fin .stop) .stop) .stop)))) (.ev 15 (.ev 10 (.op 11 (.op 12 (.op 13 (.ev 16 (.ev 17 .fin .stop) .stop)))) .stop) .stop)) (.ev 15 (.ev 10 (.op 11 (.op 12 (.op 13 (.ev 14 (.ev 16 (.ev 17 .fin .stop) .stop) .stop)))) (.ev 14 (.ev 10 (.op 11 (.op 12 (.op 13 (.ev 16 (.ev 17 .fin .stop) .stop)))) .stop) .stop)) .stop))))))))))))) 4 5 mo (by decide +kernel);·repeat' (first | refine iX (gJ hy) ?_ | refine ⟨_,⟨by omega,SL⟩,?_⟩ | refine cD vV lB ?_ | exact Or.inl (Or.inl rfl) | exact Or.inl my | exact CK | exact trivial | exact Or.inl (Or.inl rfl) | exact Or.inl my | exact zu | refine ⟨?_,?_⟩)
 ·exact (rfl:_=_)
 refine br ?_ ?_<;>intro g
 ·have g:Re≠0:=sU g;rw [aj g];have hl:eM 6 0 (([],Re,Ra):List Val × Int × Int)=(.mk 0 0 al [],Re,Ra):=by unfold eM;rw [aj g]
  rw [hl];refine cy [2,3] (fun _=>false) mo (by decide +kernel) ?_;exact ⟨_,ax,rfl⟩
 ·have g:Re=0:=sU g;have LN:Ra=0:=ri g;subst g;subst LN;rw [ah (by simp)];have hl:eM 6 0 (([Val.mk Rk Rn Rs Rl],0,0):List Val × Int × Int)=(.mk 6 0 al [.mk Rk Rn Rs Rl],0,0):=by unfold eM;rw [ah (by simp)];all_goals rfl
  rw [hl];refine cy [2,3] (fun _=>false) mo (by decide +kernel) ?_;exact ⟨_,ax,rfl⟩
end
section
variable (PC:List DV)
set_option maxHeartbeats 8000000 in
theorem union24_spec {ND:List Nd} (d:Nd) (q4:d.aR.length<=1099511627776) (k a n:Int) (s:ByteArray) (keys:List Wd) (ks:List Rw) (lB:∀ r∈ks,∀ e∈d.aR,e.bare=false->bh prog 31 [.pt PC 0,.v (.int .i64 e.to),.agg (dRw r)] (oQ (ckV ND r e.to))) :
  bh prog 79 [.pt PC 0,.agg (n5 d),.agg (dRw (.mk k a n s keys ks))] (oQ (if k≠1/\(k≠6∨ks.length≠1) then bS 14 a
   else match mF d s with
    | none=>bS 9 a
    | some c=>match d.aR[c]? with
     | none=>bS 9 a
     | some e=>if k=1 then (if e.bare=true then jz (.mk 8 c al []) else bS 15 a) else if e.bare=true then bS 19 a else eM 8 c (ckL ND ks e.to []))):=by
 have hb:=fun e=>dE e (Rw.mk k a n s keys ks);have jJ:=ob k a n s keys ks;have du:=oc d s q4;generalize cC:(decide (k=6) && decide (ks.length=1))=cl at jJ;have CM:cl=true↔k=6/\ks.length=1:=by rw [<- cC];simp
 have gU:=fun {c}=>@j2 d s c;generalize mF d s=I at du gU ⊢;obtain ⟨ai,cF,lo,hi,most,af,es⟩:=d;simp only at lB gU ⊢;by_cases c0:k≠1/\(k≠6∨ks.length≠1)
 ·rw [aj c0]
  have SM:cl=false:=by
   cases cl with
   | false=>rfl
   | true=>have:=CM.1 rfl;omega
  subst SM;refine eG 98 [.cell 6 61,.cell 7 26] func79 rfl ntmps79 rfl fun _ _ _ _=>?_;refine br (fun c=>?_) (fun c=>absurd c (by simpa using c0.1));refine cP Av jJ ?_;refine cP fp (hb 14) ?_;exact ⟨_,ax,rfl⟩
 rw [ah c0];have rW:k=1∨(k=6/\ks.length=1):=by omega
 cases I with
 | none=>
  rcases rW with gL | ⟨LM,gL⟩
  ·subst gL;refine eG 98 [.cell 6 61,.cell 7 26] func79 rfl ntmps79 rfl fun _ _ _ _=>?_;refine cP sj du ?_;refine cP fp (hb 9) ?_;exact ⟨_,ax,rfl⟩
  ·have F4:cl=true:=CM.2 ⟨LM,gL⟩;subst F4 LM;refine eG 98 [.cell 6 61,.cell 7 26] func79 rfl ntmps79 rfl fun _ _ _ _=>?_;refine cP Av jJ ?_;refine cP sj du ?_;refine cP fp (hb 9) ?_;exact ⟨_,ax,rfl⟩
 | some c=>
  obtain ⟨e,he,hnm⟩:=gU rfl;have DR:=mG he;obtain ⟨J,hJ⟩:∃ J:Int,J=(c:Int):=⟨_,rfl⟩;have du:bh prog 152 [.agg (n5 ⟨ai,cF,lo,hi,most,af,es⟩),.v (.string s)] (.v (.int .i64 J)):=by rw [hJ];exact du
  have Qe:¬ J < 0:=by omega
  have O5:J.toNat=c:=by omega
  simp only [he];rw [<- hJ];rcases rW with gL | ⟨LM,gL⟩
  ·subst gL;rw [aj rfl];refine eG 98 [.cell 6 61,.cell 7 26] func79 rfl ntmps79 rfl fun _ _ _ _=>?_;refine cP sj du ?_;refine br (fun c=>absurd (show J < 0 by simpa using c) Qe) (fun _=>?_);refine ⟨_,⟨by omega,by rw [O5];exact gJ he⟩,?_⟩;refine br ?_ ?_<;>intro c
   ·have c:e.bare=false:=by simpa [pickB] using c
    rw [ah (by rw [c];simp)];refine cP fp (hb 15) ?_;exact ⟨_,ax,rfl⟩
   ·have c:e.bare=true:=by simpa [pickB] using c
    rw [aj c];exact ⟨_,ax,rfl⟩
  ·obtain ⟨x,rfl⟩:=List.length_eq_one_iff.1 gL;have F4:cl=true:=CM.2 ⟨LM,rfl⟩;subst F4 LM;rw [ah (by omega)];have lB:=lB x (by simp) e DR;have ri:=F3 (ND:=ND) x e.to;rw [A8];generalize ckV ND x e.to=R at lB ri ⊢;obtain ⟨⟨Rk,Rn,Rs,Rl⟩,Re,Ra⟩:=R;have SL:(dRws [x])[0]? = some (dRw x):=rfl;obtain ⟨xk,xa,xn,xs,xq,xl⟩:=x;simp only at lB ri ⊢;refine eG 98 [.cell 6 61,.cell 7 26] func79 rfl ntmps79 rfl fun _ _ _ _=>?_;refine cP Av jJ ?_;refine cP sj du ?_;refine br (fun c=>absurd (show J < 0 by simpa using c) Qe) (fun _=>?_);refine ⟨_,⟨by omega,by rw [O5];exact gJ he⟩,?_⟩;refine br ?_ ?_<;>intro c
   ·have c:e.bare=true:=by simpa [pickB] using c
    rw [aj c];refine cP fp (hb 19) ?_;exact ⟨_,ax,rfl⟩
   ·have c:e.bare=false:=by simpa [pickB] using c
    have lB:=lB c;rw [ah (by rw [c];simp)];obtain ⟨en,eb,ea,et,P9,ew,Qa,Qb,Qc,Qd⟩:=e;simp only at lB;apply gK (.op 0 (.op 1 (.op 2 (.op 3 (.op 4 (.op 5 (.op 6 (.op 7 (.op 8 (.op 9 (.op 10 (.ev 11 (.op 12 (.op 13 (.op 14 (.ev 15 (.ev 16 (.ev 17 (.ev 18 .fin .stop) .stop) .stop) (.ev 16 (.ev 15 (.ev 17 (.ev 18 .fin .stop) .stop) .stop) .stop))))) (.ev 15 (.ev 11 (.op 12 (.op 13 (.op 14 (.ev 16 (.ev 17 (.ev 18 .fin .stop) .stop) .stop)))) (.ev 16 (.ev 11 (.op 12 (.op 13 (.op 14 (.ev 17 (.ev 18 .fin .stop) .stop)))) .stop) .stop)) (.ev 16 (.ev 11 (.op 12 (.op 13 (.op 14 (.ev 15 (.ev 17 (.ev 18 .fin .stop) .stop) .stop)))) (.ev 15 (.ev 11 (.op 12 (.op 13 (.op 14 (.ev 17 (.ev 18 .fin .stop) .stop)))) .stop) .stop)) .stop)))))))))))))) 5 6 mo (by decide +kernel);·repeat' (first | refine ⟨_,⟨by omega,by rw [O5];exact gJ he⟩,?_⟩ | refine ⟨_,⟨by omega,SL⟩,?_⟩ | refine cD vV lB ?_ | exact Or.inl (Or.inl rfl) | exact Or.inl my | exact CK | exact trivial | exact Or.inl (Or.inl rfl) | exact Or.inl my | exact zu | refine ⟨?_,?_⟩)
    ·exact (rfl:_=_)
    refine br ?_ ?_<;>intro g
    ·have g:Re≠0:=sU g;rw [aj g];have hl:eM 8 J (([],Re,Ra):List Val × Int × Int)=(.mk 0 0 al [],Re,Ra):=by unfold eM;rw [aj g]
     rw [hl];refine cy [2,3] (fun _=>false) mo (by decide +kernel) ?_;exact ⟨_,ax,rfl⟩
    ·have g:Re=0:=sU g;have LN:Ra=0:=ri g;subst g;subst LN;rw [ah (by simp)];have hl:eM 8 J (([Val.mk Rk Rn Rs Rl],0,0):List Val × Int × Int)=(.mk 8 J al [.mk Rk Rn Rs Rl],0,0):=by unfold eM;rw [ah (by simp)];all_goals rfl
     rw [hl];exact ⟨_,ax,rfl⟩
end
theorem uS {n m:Nat} {tk:List TkE}:∀ {a a' b b':List DV},WeL n m tk a a' -> WeL n m tk b b' -> WeL n m tk (a ++ b) (a' ++ b')
 | [],a',b,b',h,h2=>by simp only [WeL] at h;subst h;exact h2
 | x :: r,a',b,b',h,h2=>by
  simp only [WeL] at h;obtain ⟨x',r',rfl,h3,h4⟩:=h;simp only [List.cons_append,WeL];exact ⟨x',r' ++ b',rfl,h3,uS h4 h2⟩
theorem F5 {n m:Nat} {tk:List TkE}:∀ k:Nat,WeL n m tk (List.replicate k Iv).flatten (dVals (List.replicate k zeroV)).flatten
 | 0=>by simp [dVals,WeL]
 | k + 1=>by
  rw [List.replicate_succ,List.replicate_succ,List.flatten_cons,dVals,List.flatten_cons];refine uS ?_ (F5 k);exact ⟨_,_,rfl,au rfl,_,_,rfl,au rfl,_,_,rfl,au rfl,_,_,rfl,KA,rfl⟩
theorem F6 {n m:Nat} {tk:List TkE}:∀ vs:List Val,WeL n m tk (dVals vs).flatten (dVals vs).flatten
 | []=>by simp [dVals,WeL]
 | v :: r=>by
  obtain ⟨k,z,s,ks⟩:=v;rw [dVals,List.flatten_cons];exact uS ⟨_,_,rfl,au rfl,_,_,rfl,au rfl,_,_,rfl,au rfl,_,_,rfl,au rfl,rfl⟩ (F6 r)
theorem F7 {n m:Nat} {tk:List TkE} {l:List DV} {vs:List Val} (h:l=(dVals vs).flatten):WeL n m tk l (dVals vs).flatten:=by rw [h];exact F6 vs
theorem SN {bx:List (List DV)} {N n0 m0 n i:Nat} {vs:List Val} (hr:vs.length=n) (hN:N<=i) (hb:bx[i]? = some (dVals vs).flatten):Cc bx N n0 m0 (.sl 4 (dVals vs) none) (.ms i 4 0 n n):=by
 simp only [Cc]
 have hl:(dVals vs).flatten.length=vs.length * 4:=by
  clear hr hb
  induction vs with
  | nil=>rfl
  | cons v r ih=>
   obtain ⟨k,z,s,ks⟩:=v;rw [dVals,List.flatten_cons,List.length_append,ih,List.length_cons];show 4 + r.length * 4=_;omega
 refine Or.inr (Or.inr (Or.inl ⟨i,0,n,_,by rw [iy,hr],hN,hb,?_,j3 vs,?_⟩))
 ·rw [List.drop_zero,List.take_of_length_le (by rw [hl,iy];omega)]
 ·intro x hx;obtain ⟨l,H2,hx⟩:=List.mem_flatten.1 hx;rw [ez] at H2;obtain ⟨⟨k,z,s,ks⟩,_,rfl⟩:=List.mem_map.1 H2;simp [lr] at hx;rcases hx with rfl | rfl | rfl | rfl
  ·exact .inl ⟨_,rfl⟩
  ·exact .inl ⟨_,rfl⟩
  ·exact .inl ⟨_,rfl⟩
  ·exact .inr ⟨_,_,rfl⟩
abbrev O6 (L:List Bool) (e:Nat):St:=
 ⟨[dJ 0 1 (Cy L),QJ 1 false,aA 7 ((Cy L).length),aA 8 e],[],[]⟩
theorem xJ (L:List Bool) (hl:L.length<=1099511627776):bh prog 234 [.sl 1 (Cy L) none,.v (.bool false)] (.v (.int .i64 (oz (bq (fun i=>decide (L[i]? = some false)) L.length)))):=by
 have sn:=uG L;refine eG 19 [.tmp 4] func234 rfl ntmps234 rfl fun _ _ _ _=>?_;refine lI (fun j st=>∃ e:Nat,st=O6 L e/\e<=L.length/\(∀ c,c < e->decide (L[c]? = some false)=false)/\j=L.length - e) ⟨0,rfl,by omega,fun _ h=>by omega,rfl⟩ (cL wB) ?_;rintro j st ⟨e,rfl,he,gQ,rfl⟩;refine br ?_ ?_<;>intro hL
 ·have av:e < L.length:=sV sn hL;obtain ⟨x,hx⟩:=gX av;refine iX (Il hx) ?_
  cases x with
  | false=>
   rw [cQ av (decide_eq_true hx) gQ];exact (rfl:_=_)
  | true=>
   exact rE ⟨_,by omega,e + 1,rfl,by omega,fun c jD=>by
     rcases q7 jD with h | h
     ·exact gQ c h
     ·rw [h,hx];rfl,rfl⟩ (cL (iG (bV av (by omega))))
 ·have bO:e=L.length:=sW sn hL;subst bO;rw [dC gQ];exact (rfl:_=_)
theorem rI (L:List Bool) (hl:L.length<=1099511627776):bh prog 153 [.sl 1 (Cy L) none,.v (.bool false)] (.v (.bool (!L.all id))):=by
 have mY:=xJ L hl
 cases hI:bq (fun i=>decide (L[i]? = some false)) L.length with
 | none=>
  rw [hI] at mY
  have eC:L.all id=true:=by
   rw [List.all_eq_true];intro x hx;obtain ⟨i,hi,rfl⟩:=List.getElem_of_mem hx;have:=dZ hI i hi;rw [gE hi] at this
   cases h:L[i] with
   | true=>rfl
   | false=>rw [h] at this;simp at this
  rw [eC];refine eG 9 [.tmp 4] func153 rfl ntmps153 rfl fun _ _ _ _=>?_;refine cP Je mY ?_;exact (rfl:_=_)
 | some i=>
  rw [hI] at mY;obtain ⟨J,hJ⟩:∃ J:Int,J=(i:Int):=⟨_,rfl⟩;have mY:bh prog 234 [.sl 1 (Cy L) none,.v (.bool false)] (.v (.int .i64 J)):=by rw [hJ];exact mY
  have eC:L.all id=false:=by
   have h:=of_decide_eq_true (ey hI).2.1;rw [List.all_eq_false];exact ⟨false,mG h,by simp⟩
  rw [eC];refine eG 9 [.tmp 4] func153 rfl ntmps153 rfl fun _ _ _ _=>?_;refine cP Je mY ?_;refine (dH ?_:);exact decide_eq_true (by omega)
abbrev j4 (acc:List (Option Val)):List Val:=acc.map fun x=>x.getD (.mk 0 0 al [])
abbrev iB (acc:List (Option Val)):List Bool:=acc.map Option.isSome
theorem F8 {n m:Nat} {tk:List TkE} {N k:Nat} (h:N=k):WeL n m tk (List.replicate N Iv).flatten (dVals (j4 (List.replicate k none))).flatten:=by
 subst h;have h2:j4 (List.replicate N none)=List.replicate N zeroV:=by simp [j4]
 rw [h2];exact F5 N
theorem O7 {N k:Nat} (h:N=k):(List.replicate N (vL [Value.bool false])).flatten=cB (iB (List.replicate k none)):=by
 subst h;rw [Sp];simp [iB]
theorem mz (es:List Ed):(((iv es).length:Nat):Int).toNat=es.length:=by rw [Dl,dD]
theorem qJ:∀ l:List Val,(dVals l).flatten.length=l.length * 4
 | []=>rfl
 | .mk k z s ks :: r=>by
  rw [dVals,List.flatten_cons,List.length_append,qJ r,List.length_cons];show 4 + r.length * 4=_;omega
theorem xK:∀ acc:List (Option Val),(iB acc).all id = !acc.any Option.isNone
 | []=>rfl
 | x :: r=>by
  rw [iB,List.map_cons,List.all_cons,List.any_cons];have h:=xK r;rw [iB] at h;rw [h];cases x<;>rfl
theorem O8 {a b c d K H K' H' g x y:List DV} (h1:K'=K) (h2:H'=H) : [a,b,c,d,K,H,g,x,y]=[a,b,c,d,K',H',g,x,y]:=by rw [h1,h2]
theorem A9 (f:Nat->Nat):∀ l:List Bool,renL f (cB l)=cB l
 | []=>rfl
 | b :: r=>by rw [show cB (b :: r) = .v (.bool b) :: cB r from rfl,renL,A9 f r];all_goals rfl
theorem Ba (f:Nat->Nat):∀ l:List Val,renL f (dVals l).flatten=(dVals l).flatten
 | []=>rfl
 | .mk k z s ks :: r=>by
  have h:(dVals (.mk k z s ks :: r)).flatten = .v (.int .i64 k) :: .v (.int .i64 z) :: .v (.string s) :: .sl 4 (dVals ks) none :: (dVals r).flatten:=rfl;rw [h];simp only [renL,renD,Ba f r]
theorem SO {i j:Nat} {s S:St} (h:cp s (ch i j S):=by refine (⟨O8 (Ba _ _) (A9 _ _),rfl,?_⟩:_/\_/\_);(repeat (refine (⟨?_,?_⟩:_/\_);exact rfl));exact trivial):(s=S∨cp s S)∨cp s (ch i j S):=.inr h
section
variable (PC:List DV)
abbrev zJ (d:Nd) (r:Rw) (ws:List Wd) (acc:List (Option Val)) (n e:Nat):St:=
 ⟨[ry 0 PC,aS 4 0,aS 5 1,aS 6 2,aS 7 3,(8,⟨[],.ms 4 4 0 n n⟩),(9,⟨[],.ms 5 1 0 n n⟩),dJ 40 2 (bf ws),aA 41 ((bf ws).length),aA 42 e],[n5 d,dRw r,Iv,Ut,(dVals (j4 acc)).flatten,cB (iB acc)],[]⟩
set_option maxHeartbeats 8000000 in
theorem rJ {ND:List Nd} (d:Nd) (q4:d.aR.length<=1099511627776) (k a n:Int) (s:ByteArray) (keys:List Wd) (ks:List Rw) (Uv:keys.length<=1099511627776) (lB:∀ r∈ks,∀ e∈d.aR,bh prog 31 [.pt PC 0,.v (.int .i64 e.to),.agg (dRw r)] (oQ (ckV ND r e.to))) :
  bh prog 78 [.pt PC 0,.agg (n5 d),.agg (dRw (.mk k a n s keys ks))] (oQ (if k≠5∨keys.length≠ks.length then bS 14 a else fC a (ckK ND d ks keys (List.replicate d.aR.length none)))):=by
 have hb:=fun e=>dE e (Rw.mk k a n s keys ks);have mV:=fB ks;have Mk:=aE keys;have du:=fun w=>oc d w q4;have gU:=fun w {c}=>@j2 d w c;have GS:=fun l (h:(iB l).length<=1099511627776)=>rI (iB l) h;by_cases c0:k≠5∨keys.length≠ks.length
 ·rw [aj c0];obtain ⟨ai,cF,lo,hi,most,af,es⟩:=d;refine eG 105 [.cell 6 61,.cell 7 26] func78 rfl ntmps78 rfl fun _ _ _ _=>?_;refine br ?_ ?_<;>intro c
  ·refine cP fp (hb 14) ?_;exact ⟨_,ax,rfl⟩
  ·exfalso
   have c:¬ (k≠5∨keys.length≠ks.length):=by
    intro c0;simp [lastG,aF,mV,Mk] at c;omega
   exact c c0
 rw [ah c0];obtain ⟨Uo,hlen⟩:k=5/\keys.length=ks.length:=by omega
 subst Uo;generalize hF:ckK ND d ks keys (List.replicate d.aR.length none)=F;obtain ⟨ai,cF,lo,hi,most,af,es⟩:=d;simp only at lB gU q4 hF ⊢;refine eG 105 [.cell 6 61,.cell 7 26] func78 rfl ntmps78 rfl fun _ _ _ _=>?_;refine br ?_ ?_<;>intro c
 ·exfalso;simp [lastG,aF,mV,Mk] at c;omega
 refine ⟨⟨rfl,by omega,by simp only [dD];omega,by simp only [dD];omega⟩,?_⟩;refine ⟨⟨rfl,by omega,by simp only [dD];omega,by simp only [dD];omega⟩,?_⟩;refine b9 (fun j st=>∃ (e:Nat) (acc:List (Option Val)),st=zJ PC ⟨ai,cF,lo,hi,most,af,es⟩ (.mk 5 a n s keys ks) keys acc (iv es).length e/\e<=keys.length/\acc.length=es.length/\ckK ND ⟨ai,cF,lo,hi,most,af,es⟩ (ks.drop e) (keys.drop e) acc=F/\j=keys.length - e) keys.length (zJ PC ⟨ai,cF,lo,hi,most,af,es⟩ (.mk 5 a n s keys ks) keys (List.replicate es.length none) (iv es).length 0) (jy 6 (by repeat' (first | exact rfl | exact au rfl | exact F8 (mz es) | exact cI (O7 (mz es)) | refine ⟨_,_,rfl,?_,?_⟩)) (by repeat' (first | exact trivial | exact au rfl | exact F8 (mz es) | exact cI (O7 (mz es)) | refine ⟨⟨_,rfl,?_⟩,?_⟩))) ⟨0,_,rfl,by omega,by simp,hF,by omega⟩ ?_;have HD:=dD es;rintro j st ⟨e,acc,rfl,he,CN,hg,rfl⟩;refine br ?_ ?_<;>intro hL
 ·have av:e < keys.length:=sV Mk hL;obtain ⟨w,hw⟩:=gX av;obtain ⟨x,hx⟩:∃ x,ks[e]? = some x:=⟨_,gE (by omega)⟩
  have Mb:keys.drop e=w :: keys.drop (e + 1):=by
   obtain ⟨h1,h2⟩:=List.getElem?_eq_some_iff.1 hw;rw [List.drop_eq_getElem_cons h1,h2]
  have hdx:ks.drop e=x :: ks.drop (e + 1):=by
   obtain ⟨h1,h2⟩:=List.getElem?_eq_some_iff.1 hx;rw [List.drop_eq_getElem_cons h1,h2]
  rw [Mb,hdx,ckK] at hg;have du:=du w.s;have gU:=fun {c}=>@gU w.s c;generalize mF ⟨ai,cF,lo,hi,most,af,es⟩ w.s=I at du gU hg;obtain ⟨ws,wa⟩:=w;simp only at du gU hg;refine iX (cz hw) ?_
  cases I with
  | none=>
   simp only at hg;subst hg;refine cP sj du ?_;refine cy [2,3] (fun _=>false) mo (by decide +kernel) ?_;exact ⟨_,ax,rfl⟩
  | some c=>
   obtain ⟨y,hy,_⟩:=gU rfl;simp only at hy hg;have cC:=(gS hy).1;have lB:=lB x (mG hx) y (mG hy);have O9:oC ⟨ai,cF,lo,hi,most,af,es⟩ c=y.to:=by unfold oC;simp only [hy]
   rw [O9] at hg;obtain ⟨J,hJ⟩:∃ J:Int,J=(c:Int):=⟨_,rfl⟩;have du:bh prog 152 [.agg (n5 ⟨ai,cF,lo,hi,most,af,es⟩),.v (.string ws)] (.v (.int .i64 J)):=by rw [hJ];exact du
   have Qe:¬ J < 0:=by omega
   have O5:J.toNat=c:=by omega
   obtain ⟨q,hq⟩:∃ q,acc[c]? = some q:=⟨_,gE (by omega)⟩;have GJ:acc.getD c none=q:=by rw [jl,hq];all_goals rfl
   rw [GJ] at hg
   have TO:(cB (iB acc))[0 + J.toNat * 1]? = some (.v (.bool q.isSome)):=by
    rw [show 0 + J.toNat * 1=c by omega];exact LA (by rw [iB,List.getElem?_map,hq];rfl)
   refine cP sj du ?_;refine br (fun c=>absurd (show J < 0 by simpa using c) Qe) (fun _=>?_);refine ⟨⟨by omega,by omega⟩,?_⟩;refine ⟨.v (.bool q.isSome),TO,?_⟩;refine br ?_ ?_<;>intro cq
   ·have cq:q.isSome=true:=sU cq;rw [aj cq] at hg;subst hg;refine cy [2,3] (fun _=>false) mo (by decide +kernel) ?_;exact ⟨_,ax,rfl⟩
   have cq:¬ q.isSome=true:=sU cq;rw [ah cq] at hg;have ri:=F3 (ND:=ND) x y.to;generalize ckV ND x y.to=R at lB ri hg;obtain ⟨⟨Rk,Rn,Rs,Rl⟩,Re,Ra⟩:=R;obtain ⟨xk,xa,xn,xs,xq,xl⟩:=x;obtain ⟨en,eb,ea,et,P9,ew,Qa,Qb,Qc,Qd⟩:=y;simp only at lB ri hg;apply gK (.op 0 (.op 1 (.op 2 (.op 3 (.op 4 (.op 5 (.op 6 (.op 7 (.op 8 (.op 9 (.op 10 (.op 11 (.ev 12 (.op 13 (.op 14 (.op 15 (.ev 16 (.ev 17 (.ev 18 (.ev 19 .fin .stop) .stop) .stop) (.ev 17 (.ev 16 (.ev 18 (.ev 19 .fin .stop) .stop) .stop) .stop))))) (.ev 16 (.ev 12 (.op 13 (.op 14 (.op 15 (.ev 17 (.ev 18 (.ev 19 .fin .stop) .stop) .stop)))) (.ev 17 (.ev 12 (.op 13 (.op 14 (.op 15 (.ev 18 (.ev 19 .fin .stop) .stop)))) .stop) .stop)) (.ev 17 (.ev 12 (.op 13 (.op 14 (.op 15 (.ev 16 (.ev 18 (.ev 19 .fin .stop) .stop) .stop)))) (.ev 16 (.ev 12 (.op 13 (.op 14 (.op 15 (.ev 18 (.ev 19 .fin .stop) .stop)))) .stop) .stop)) .stop))))))))))))))) 7 8 mo (by decide +kernel);·repeat' (first | refine ⟨_,⟨by omega,by rw [O5];exact gJ hy⟩,?_⟩ | refine iX (j1 hx) ?_ | refine cD vV lB ?_ | exact Or.inl (Or.inl rfl) | exact Or.inl my | exact SO | exact trivial | exact Or.inl (Or.inl rfl) | exact Or.inl my | exact zu | refine ⟨?_,?_⟩)
   ·exact (rfl:_=_)
   refine br ?_ ?_<;>intro g
   ·have g:Re≠0:=sU g;rw [aj g] at hg;subst hg;refine cy [2,3] (fun _=>false) mo (by decide +kernel) ?_;have hl:fC a (([],Re,Ra):List (Option Val) × Int × Int)=(.mk 0 0 al [],Re,Ra):=by unfold fC;rw [aj g]
    rw [hl];exact ⟨_,ax,rfl⟩
   have g:Re=0:=sU g;rw [ah (by rw [g];simp)] at hg;have hsk:(j4 (acc.set c (some (Val.mk Rk Rn Rs Rl))))=(j4 acc).set c (.mk Rk Rn Rs Rl):=by rw [j4,List.map_set];all_goals rfl
   have hsh:iB (acc.set c (some (Val.mk Rk Rn Rs Rl)))=(iB acc).set c true:=by rw [iB,List.map_set];all_goals rfl
   have gM:(j4 acc).length=es.length:=by rw [j4,List.length_map,CN]
   have Uw:(iB acc).length=es.length:=by rw [iB,List.length_map,CN]
   have JX:=tv (x:=lr (.mk Rk Rn Rs Rl)) (j3 (j4 acc)) (e:=c) (by rw [iy,gM];exact cC);rw [<- CJ,<- hsk] at JX;have Tt:(dVals (j4 acc)).flatten.length=es.length * 4:=by rw [qJ,gM]
   have Ux:(dVals (j4 acc)).flatten.take (0 + J.toNat * 4) ++ lr (.mk Rk Rn Rs Rl) ++ (dVals (j4 acc)).flatten.drop (0 + J.toNat * 4 + 4)=(dVals (j4 (acc.set c (some (Val.mk Rk Rn Rs Rl))))).flatten:=by
    rw [show 0 + J.toNat * 4=c * 4 by omega];exact JX.symm
   have Uy:(cB (iB acc)).set (0 + J.toNat * 1) (.v (.bool true))=cB (iB (acc.set c (some (Val.mk Rk Rn Rs Rl)))):=by
    rw [show 0 + J.toNat * 1=c by omega,hsh,LB]
   refine ⟨⟨by omega,by omega⟩,?_⟩;refine ⟨by show 0 + J.toNat * 4 + 4<=_;omega,?_⟩;refine ⟨⟨by omega,by omega⟩,?_⟩;refine ⟨by show 0 + J.toNat * 1 + 1<=_;rw [FM];omega,?_⟩;exact ⟨zJ PC ⟨ai,cF,lo,hi,most,af,es⟩ (.mk 5 a n s keys ks) keys (acc.set c (some (Val.mk Rk Rn Rs Rl))) (iv es).length (e + 1),(jy 6 (by repeat' (first | exact rfl | exact au rfl | exact az (bV av (by omega)) | exact F7 Ux | exact cI Uy | refine ⟨_,_,rfl,?_,?_⟩)) (by repeat' (first | exact trivial | exact au rfl | exact az (bV av (by omega)) | exact F7 Ux | exact cI Uy | refine ⟨⟨_,rfl,?_⟩,?_⟩))),keys.length - (e + 1),by omega,e + 1,_,rfl,by omega,by rw [List.length_set];exact CN,hg,rfl⟩
 ·have bO:e=keys.length:=sW Mk hL;subst bO;rw [hlen,List.drop_length,ckK] at hg
  ·subst hg;have GS:=GS acc (by rw [List.length_map,CN];exact q4);have Uw:(iB acc).length=(iv es).length:=by rw [iB,List.length_map,CN,HD]
   have gM:(j4 acc).length=(iv es).length:=by rw [j4,List.length_map,CN,HD]
   have eC:(iB acc).all id = !acc.any Option.isNone:=xK acc;rw [eC] at GS;have hR:fC a ((acc,0,0):List (Option Val) × Int × Int)=if acc.any Option.isNone=true then bS 15 a else jz (.mk 7 0 al (j4 acc)):=by unfold fC;rw [ah (by simp)]
   rw [hR];clear hR eC;generalize acc.any Option.isNone=bb at GS ⊢;refine na Nb GS (by repeat' (first | exact rfl | exact trivial | exact Or.inr (Or.inl ⟨_,rfl⟩) | exact Or.inr ⟨_,rfl⟩ | exact Or.inl ⟨rfl,rfl⟩ | exact Or.inl rfl | refine Or.inr ⟨_,_,rfl,Nat.zero_le _,rfl,?_⟩ | refine ⟨_,_,rfl,?_,?_⟩ | refine ⟨_,rfl,?_⟩ | exact SG Uw (Nat.zero_le _) rfl | refine Or.inr (Or.inr (Or.inr ⟨_,_,rfl,?_⟩)) | exact Or.inl rfl | refine Or.inr ?_)) rfl ?_;refine br ?_ ?_<;>intro g
   ·have g:bb=true:=sU g;rw [aj g];refine cP fp (hb 15) ?_;exact ⟨_,ax,rfl⟩
   ·have g:¬ bb=true:=sU g;rw [ah g];exact ⟨_,(by repeat' (first | exact rfl | exact trivial | exact Or.inr (Or.inl ⟨_,rfl⟩) | exact Or.inr ⟨_,rfl⟩ | exact Or.inl ⟨rfl,rfl⟩ | exact Or.inl rfl | refine Or.inr ⟨_,_,rfl,Nat.zero_le _,rfl,?_⟩ | refine ⟨_,_,rfl,?_,?_⟩ | refine ⟨_,rfl,?_⟩ | exact SN gM (Nat.zero_le _) rfl | refine Or.inr (Or.inr (Or.inr ⟨_,_,rfl,?_⟩)) | exact Or.inl rfl | refine Or.inr ?_)),rfl⟩
  ·intro _ _ _ _ h;cases h
end
mutual
def RwB:Rw->Prop
 | .mk _ _ _ _ keys ks=>keys.length<=1099511627776/\RwBs ks
def RwBs:List Rw->Prop
 | []=>True
 | v :: r=>RwB v/\RwBs r
end
theorem xL:∀ {l:List Rw} {x:Rw},RwBs l->x∈l->RwB x
 | v :: r,x,h,hm=>by
  rw [RwBs] at h;rcases bX hm with rfl | hm
  ·exact h.1
  ·exact xL h.2 hm
mutual
def oR:Rw->Nat
 | .mk _ _ _ s keys ks=>64 + s.size + wdsWt keys + eN ks
def eN:List Rw->Nat
 | []=>0
 | v :: r=>oR v + eN r
end
theorem qK:∀ {l:List Rw} {x:Rw},x∈l->oR x<=eN l
 | v :: r,x,h=>by
  rw [eN];rcases bX h with rfl | h
  ·omega
  ·have:=qK h;omega
theorem uT:∀ r:Rw,64<=oR r
 | .mk _ _ _ _ _ _=>by rw [oR];omega
theorem qL:∀ l:List Rw,l.length<=eN l
 | []=>bd _
 | v :: r=>by
  have:=qL r;have:=uT v;rw [eN,List.length_cons];omega
mutual
theorem F9:∀ r:Rw,oR r<=1099511627776->RwB r
 | .mk _ _ _ s keys ks,h=>by
  rw [oR] at h;rw [RwB];have:=bQ keys;exact ⟨by omega,Bb ks (by omega)⟩
theorem Bb:∀ l:List Rw,eN l<=1099511627776->RwBs l
 | [],_=>trivial
 | v :: r,h=>by
  rw [eN] at h;rw [RwBs];exact ⟨F9 v (by omega),Bb r (by omega)⟩
end
mutual
def rK:Rw->Nat
 | .mk _ _ _ _ _ ks=>eV ks + 1
def eV:List Rw->Nat
 | []=>0
 | v :: r=>max (rK v) (eV r)
end
mutual
theorem Bc:∀ v:Rw,jj v<=oR v/\rK v<=oR v
 | .mk _ _ _ _ _ ks=>by
  have:=qM ks;rw [jj,rK,oR];omega
theorem qM:∀ l:List Rw,fQ l<=eN l/\eV l<=eN l
 | []=>⟨bd _,bd _⟩
 | v :: r=>by
  have h1:=Bc v;have h2:=qM r;rw [fQ,eV,eN];omega
end
theorem qN:∀ (l:List Rw) (x:Rw),fQ (l ++ [x])=fQ l + jj x
 | [],x=>by simp [fQ]
 | v :: r,x=>by rw [List.cons_append,fQ,fQ,qN r];omega
theorem qO:∀ (l:List Rw) (x:Rw),eV (l ++ [x])=max (eV l) (rK x)
 | [],x=>by simp [eV]
 | v :: r,x=>by rw [List.cons_append,eV,eV,qO r];omega
theorem zK (l:List Rw):∀ e,fQ (l.take e)<=eN l/\eV (l.take e)<=eN l:=fun e=>by
 have h1:=qM (l.take e)
 have h2:∀ (l:List Rw) e,eN (l.take e)<=eN l:=by
  intro l
  induction l with
  | nil=>intro e;simp [eN]
  | cons v r ih=>
   intro e
   cases e with
   | zero=>simp [eN]
   | succ e=>have:=ih e;simp only [List.take_succ_cons,eN];omega
 have:=h2 l e;omega
abbrev Pa (v:Rw) (n d e:Nat):St:=
 ⟨[aS 1 0,aA 4 n,aA 5 d,aA 6 e],[dRw v],[]⟩
theorem od:∀ (k:Nat) (v:Rw),oR v<=k->oR v<=1099511627776->bh prog 30 [.agg (dRw v)] (.cj [.v (.int .i64 (jj v:Nat)),.v (.int .i64 (rK v:Nat))])
 | 0,v,h,_=>by have:=uT v;omega
 | k + 1,.mk q a n s keys ks,h,hb=>by
  have ih:=od k;have sn:=fB ks;have mV:=qL ks;have oo:=zK ks;rw [oR] at h hb;rw [jj,rK];refine eG 35 [.tmp 2,.tmp 3] func30 rfl ntmps30 rfl fun _ _ _ _=>?_;refine lJ (fun e=>Pa (.mk q a n s keys ks) (1 + fQ (ks.take e)) (eV (ks.take e)) e) ks.length (cL wB) ?_;intro e he;refine br ?_ ?_<;>intro hL
  ·have av:e < ks.length:=by have:=hL;simp [sn] at this;exact this
   obtain ⟨x,hx⟩:=gX av;have OE:=qK (mG hx);have hc:=qN (ks.take e) x;have hd:=qO (ks.take e) x;rw [<- nC hx] at hc hd;have h1:=oo (e + 1);have hi:=ih x (by omega) (by omega);have GS:=Bc x;obtain ⟨xk,xa,xn,xs,xq,xl⟩:=x;refine iX (j1 hx) ?_;refine cP M0 hi ?_;have hw:IntKind.i64.wrap (((1 + fQ (ks.take e):Nat):Int) + ((jj (.mk xk xa xn xs xq xl):Nat):Int))=((1 + fQ (ks.take (e + 1)):Nat):Int):=by rw [wrap64 (by omega) (by omega)];omega
   refine br ?_ ?_<;>intro g
   ·have g:eV (ks.take e) < rK (.mk xk xa xn xs xq xl):=sU g;have BG:((rK (.mk xk xa xn xs xq xl):Nat):Int)=((eV (ks.take (e + 1)):Nat):Int):=by omega
    exact rE ⟨_,by omega,e + 1,rfl,by omega,rfl⟩ (cL (MK hw BG (bV av (by omega))))
   ·have g:¬ eV (ks.take e) < rK (.mk xk xa xn xs xq xl):=sU g;have BG:((eV (ks.take e):Nat):Int)=((eV (ks.take (e + 1)):Nat):Int):=by omega
    exact rE ⟨_,by omega,e + 1,rfl,by omega,rfl⟩ (cL (MK hw BG (bV av (by omega))))
  ·have bO:e=ks.length:=sW sn hL;subst bO;have h1:=oo ks.length;rw [List.take_length] at h1 ⊢;have hw:IntKind.i64.wrap (((eV ks:Nat):Int) + 1)=((eV ks + 1:Nat):Int):=by rw [wrap64 (by omega) (by omega)];omega
   refine ⟨_,(r9 hw),rfl⟩
theorem CO:prog.cellsOf 70=6:=by kernel_rfl
theorem Bd {m:Nat} (ih:∀ k,k<=m->∀ ds,Typ prog k 70 ds->∃ v:Rw,ds=dRw v/\oR v<=wgL ds) :
  ∀ {es:List (List DV)},(∀ cs∈es,Typ prog m 70 cs)->∃ l:List Rw,es=dRws l/\eN l<=wgEs es
 | [],h=>⟨[],rfl,by simp [eN]⟩
 | cs :: r,h=>by
  obtain ⟨l,rfl,hl⟩:=Bd ih (es:=r) (fun c hc=>h c (dn _ hc));obtain ⟨v,rfl,hv⟩:=ih m (bd _) cs (h cs (by simp));exact ⟨v :: l,rfl,by simp only [eN,wgEs];omega⟩
theorem typ_raw:∀ (n:Nat) (ds:List DV),Typ prog n 70 ds->∃ v:Rw,ds=dRw v/\oR v<=wgL ds:=by
 intro n
 induction n using Nat.strongRecOn with
 | _ n ih=>
  intro ds h;obtain ⟨m,rfl,hf⟩:=jQ Tryz.underlying70 h;obtain ⟨a1,b1,rfl,h1,a2,b2,rfl,h2,a3,b3,rfl,h3,a4,b4,rfl,h4,a5,b5,rfl,h5,a6,b6,rfl,h6,rfl⟩:=hf;obtain ⟨k,rfl,_⟩:=ju h1;obtain ⟨a,rfl,_⟩:=ju h2;obtain ⟨z,rfl,_⟩:=ju h3;obtain ⟨s,rfl⟩:=AJ Tryz.underlying9 h4;obtain ⟨keys,rfl,hw⟩:=l8 h5;obtain ⟨j,es,rfl,rfl,gU⟩:=pV Tryz.underlying68 h6;obtain ⟨l,rfl,wl⟩:=Bd (fun i hi=>ih i (by omega)) gU;rw [CO];refine ⟨.mk k a z s keys l,rfl,?_⟩;simp only [oR,dB,wgL,wgD] at *;omega
def tyRS:List TypeId:=[70,68,29,34,9,3]
theorem tyRS_ok:∀ t∈tyRS,lg prog tyRS t=true:=by
 have h:(tyRS.all fun t=>lg prog tyRS t)=true:=by kernel_rfl
 exact fun t ht=>List.all_eq_true.1 h t ht
set_option maxHeartbeats 4000000 in
theorem eO {S:Sch} {ND:List Nd} {PC:List DV} (hP:A0 S ND PC):∀ (m:Nat) (r:Rw),jj r<=m->RwB r->∀ i:Int,bh prog 31 [.pt PC 0,.v (.int .i64 i),.agg (dRw r)] (oQ (ckV ND r i))
 | 0,r,h,_=>by have:=mv r;omega
 | m + 1,.mk k a n s keys ks,h,hB=>fun i=>by
  have ih:=eO hP m;rw [RwB] at hB;rw [jj] at h;have Uv:=hB.1;have Qf:∀ r∈ks,∀ i:Int,bh prog 31 [.pt PC 0,.v (.int .i64 i),.agg (dRw r)] (oQ (ckV ND r i)):=fun r hr=>ih r (by have:=iz hr;omega) (xL hB.2 hr);clear ih hB h;rw [ckV];have fA:=hP.ag;have LO:=hP.JV;have fM:=hP.ok
  cases hd:gT ND i with
  | none=>
   refine eG 79 [.cell 6 61,.cell 7 26] func31 rfl ntmps31 rfl fun _ _ _ _=>?_;refine cP tZ (LO i (zA hd)) ?_;exact ⟨_,ax,rfl⟩
  | some d=>
   obtain ⟨h0,hg⟩:=ji hd;obtain ⟨j,rfl⟩:∃ j:Nat,i=j:=⟨i.toNat,by omega⟩;have hg:ND[j]? = some d:=sU hg;have hN:=fM d (mG hg);have gL:=hN.k1;have Up:=hN.k8
   have q4:d.aR.length<=1099511627776:=by
    by_cases c:d.ai < 5
    ·rw [hN.leaf c];simp
    by_cases c2:d.ai=5∨d.ai=6
    ·obtain ⟨e,he,_⟩:=hN.one c2;rw [he];simp
    ·have:=(hN.many (by omega)).1;omega
   have fA:=fA j _ hg;simp only;rcases (show d.ai=1∨d.ai=2∨d.ai=3∨d.ai=4∨d.ai=5∨d.ai=6∨d.ai=7∨d.ai=8 by omega) with c | c | c | c | c | c | c | c
   ·have hx:=uN d c k a n s keys ks;rw [aj (by omega)];generalize ckLeaf d k a n s=R at hx ⊢;obtain ⟨⟨Rk,Rn,Rs,Rl⟩,Re,Ra⟩:=R;obtain ⟨ai,cF,lo,hi,most,af,es⟩:=d;simp only at c;subst c;refine eG 79 [.cell 6 61,.cell 7 26] func31 rfl ntmps31 rfl fun _ _ _ _=>?_;refine cP tZ fA ?_;refine cP Q6 hx ?_;exact ⟨_,ax,rfl⟩
   ·have hx:=rH d c k a n s keys ks;rw [aj (by omega)];generalize ckLeaf d k a n s=R at hx ⊢;obtain ⟨⟨Rk,Rn,Rs,Rl⟩,Re,Ra⟩:=R;obtain ⟨ai,cF,lo,hi,most,af,es⟩:=d;simp only at c;subst c;refine eG 79 [.cell 6 61,.cell 7 26] func31 rfl ntmps31 rfl fun _ _ _ _=>?_;refine cP tZ fA ?_;refine cP Q7 hx ?_;exact ⟨_,ax,rfl⟩
   ·have hx:=xF d c k a n s keys ks;rw [aj (by omega)];generalize ckLeaf d k a n s=R at hx ⊢;obtain ⟨⟨Rk,Rn,Rs,Rl⟩,Re,Ra⟩:=R;obtain ⟨ai,cF,lo,hi,most,af,es⟩:=d;simp only at c;subst c;refine eG 79 [.cell 6 61,.cell 7 26] func31 rfl ntmps31 rfl fun _ _ _ _=>?_;refine cP tZ fA ?_;refine cP Q8 hx ?_;exact ⟨_,ax,rfl⟩
   ·have hx:=xG d c (by have:=(hN.af c).2.1;omega) k a n s keys ks;rw [aj (by omega)];generalize ckLeaf d k a n s=R at hx ⊢;obtain ⟨⟨Rk,Rn,Rs,Rl⟩,Re,Ra⟩:=R;obtain ⟨ai,cF,lo,hi,most,af,es⟩:=d;simp only at c;subst c;refine eG 79 [.cell 6 61,.cell 7 26] func31 rfl ntmps31 rfl fun _ _ _ _=>?_;refine cP tZ fA ?_;refine cP Q9 hx ?_;exact ⟨_,ax,rfl⟩
   ·obtain ⟨y,hy,_⟩:=hN.one (by omega);have rf:d.aR[0]? = some y:=by rw [hy];all_goals rfl
    have O9:oC d 0=y.to:=by unfold oC;rw [rf]
    have hx:=xI PC d c rf (hN.JU c).2 k a n s keys ks (fun r hr=>Qf r hr y.to);rw [ah (by omega),aj c,O9]
    suffices key:∀ R:zB,bh prog 76 [.pt PC 0,.agg (n5 d),.agg (dRw (.mk k a n s keys ks))] (oQ R)->bh prog 31 [.pt PC 0,.v (.int .i64 (j:Nat)),.agg (dRw (.mk k a n s keys ks))] (oQ R) from key _ hx
    clear hx;rintro ⟨⟨Rk,Rn,Rs,Rl⟩,Re,Ra⟩ hx;obtain ⟨ai,cF,lo,hi,most,af,es⟩:=d;simp only at c;subst c;refine eG 79 [.cell 6 61,.cell 7 26] func31 rfl ntmps31 rfl fun _ _ _ _=>?_;refine cP tZ fA ?_;refine cP Rb hx ?_;exact ⟨_,ax,rfl⟩
   ·obtain ⟨y,hy,_⟩:=hN.one (by omega);have rf:d.aR[0]? = some y:=by rw [hy];all_goals rfl
    have O9:oC d 0=y.to:=by unfold oC;rw [rf]
    have hx:=zI PC d rf k a n s keys ks (fun r hr=>Qf r hr y.to);rw [ah (by omega),ah (by omega),aj c,O9]
    suffices key:∀ R:zB,bh prog 77 [.pt PC 0,.agg (n5 d),.agg (dRw (.mk k a n s keys ks))] (oQ R)->bh prog 31 [.pt PC 0,.v (.int .i64 (j:Nat)),.agg (dRw (.mk k a n s keys ks))] (oQ R) from key _ hx
    clear hx;rintro ⟨⟨Rk,Rn,Rs,Rl⟩,Re,Ra⟩ hx;obtain ⟨ai,cF,lo,hi,most,af,es⟩:=d;simp only at c;subst c;refine eG 79 [.cell 6 61,.cell 7 26] func31 rfl ntmps31 rfl fun _ _ _ _=>?_;refine cP tZ fA ?_;refine cP Rc hx ?_;exact ⟨_,ax,rfl⟩
   ·have hx:=rJ PC d q4 k a n s keys ks Uv (fun r hr e _=>Qf r hr e.to);rw [ah (by omega),ah (by omega),ah (by omega),aj c]
    suffices key:∀ R:zB,bh prog 78 [.pt PC 0,.agg (n5 d),.agg (dRw (.mk k a n s keys ks))] (oQ R)->bh prog 31 [.pt PC 0,.v (.int .i64 (j:Nat)),.agg (dRw (.mk k a n s keys ks))] (oQ R) from key _ hx
    clear hx;rintro ⟨⟨Rk,Rn,Rs,Rl⟩,Re,Ra⟩ hx;obtain ⟨ai,cF,lo,hi,most,af,es⟩:=d;simp only at c;subst c;refine eG 79 [.cell 6 61,.cell 7 26] func31 rfl ntmps31 rfl fun _ _ _ _=>?_;refine cP tZ fA ?_;refine cP Rf hx ?_;exact ⟨_,ax,rfl⟩
   ·have hx:=union24_spec PC d q4 k a n s keys ks (fun r hr e _ _=>Qf r hr e.to);rw [ah (by omega),ah (by omega),ah (by omega),ah (by omega)]
    suffices key:∀ R:zB,bh prog 79 [.pt PC 0,.agg (n5 d),.agg (dRw (.mk k a n s keys ks))] (oQ R)->bh prog 31 [.pt PC 0,.v (.int .i64 (j:Nat)),.agg (dRw (.mk k a n s keys ks))] (oQ R) from key _ hx
    clear hx;rintro ⟨⟨Rk,Rn,Rs,Rl⟩,Re,Ra⟩ hx;obtain ⟨ai,cF,lo,hi,most,af,es⟩:=d;simp only at c;subst c;refine eG 79 [.cell 6 61,.cell 7 26] func31 rfl ntmps31 rfl fun _ _ _ _=>?_;refine cP tZ fA ?_;refine cP Rg hx ?_;exact ⟨_,ax,rfl⟩
theorem xM:∀ (a b:List Val),eD (a ++ b)=eD a + eD b
 | [],b=>by simp [eD]
 | v :: r,b=>by rw [List.cons_append,eD,eD,xM r b];omega
theorem mA:al.size=0:=rfl
theorem CP {d:Nd} {k a n:Int} {s:ByteArray}:(ckLeaf d k a n s).1.wt<=64 + s.size:=by
 have he:=mA;unfold ckLeaf
 repeat' split
 all_goals (simp only [jz,bS,Val.wt,eD];omega)
def wtO:List (Option Val)->Nat
 | []=>0
 | x :: r=>(match x with | some v=>v.wt | none=>0) + wtO r
theorem Be:∀ n:Nat,wtO (List.replicate n none)=0
 | 0=>rfl
 | n + 1=>by rw [List.replicate_succ,wtO,Be n]
theorem Bf {v:Val}:∀ {l:List (Option Val)} {c:Nat},(l.getD c none).isSome≠true->wtO (l.set c (some v))<=wtO l + v.wt
 | [],c,_=>by simp [wtO]
 | x :: r,0,h=>by
  cases x with
  | none=>simp only [List.set_cons_zero,wtO];omega
  | some y=>exact (h rfl).elim
 | x :: r,c + 1,h=>by
  have:=Bf (v:=v) (l:=r) (c:=c) (sU h);simp only [List.set_cons_succ,wtO];omega
theorem Bg:∀ {l:List (Option Val)},l.any Option.isNone≠true->eD (l.map fun x=>x.getD (.mk 0 0 al []))=wtO l
 | [],_=>rfl
 | x :: r,h=>by
  rw [List.any_cons] at h
  cases x with
  | none=>exact (h rfl).elim
  | some y=>
   rw [List.map_cons,eD,wtO,Bg (sU h)];rfl
theorem uU {k n:Int} {t:List Val × Int × Int} {m:Nat} (h:t.2.1=0->eD t.1<=m):(eM k n t).1.wt<=64 + m:=by
 have he:=mA;unfold eM;split
 ·simp only [Val.wt,eD];omega
 ·rename_i h1;have:=h (Decidable.not_not.1 h1);simp only [jz,Val.wt];omega
theorem Ix {a:Int} {t:List (Option Val) × Int × Int} {m:Nat} (h:t.2.1=0->wtO t.1<=m):(fC a t).1.wt<=64 + m:=by
 have he:=mA;unfold fC;split
 ·simp only [Val.wt,eD];omega
 ·rename_i h1;split
  ·simp only [bS,Val.wt,eD];omega
  ·rename_i h2;have:=h (Decidable.not_not.1 h1);simp only [jz,Val.wt];rw [Bg h2];omega
theorem Ga {ND:List Nd}:∀ {l:List Rw} {i:Int} {acc:List Val},(∀ r∈l,∀ i,(ckV ND r i).1.wt<=oR r)->eD (ckL ND l i acc).1<=eD acc + eN l
 | [],i,acc,_=>by rw [ckL];exact Nat.le_add_right _ _
 | r :: l,i,acc,h=>by
  rw [ckL,eN];split
  ·simp only [eD];omega
  ·have h1:=Ga (l:=l) (i:=i) (acc:=acc ++ [(ckV ND r i).1]) (fun x hx=>h x (dn _ hx));have h2:=h r List.mem_cons_self i;rw [xM,eD,eD] at h1;omega
theorem Gb {ND:List Nd} {d:Nd}:∀ {l:List Rw} {ws:List Wd} {acc:List (Option Val)},(∀ r∈l,∀ i,(ckV ND r i).1.wt<=oR r)->wtO (ckK ND d l ws acc).1<=wtO acc + eN l
 | [],ws,acc,_=>by
  rw [ckK]
  ·exact Nat.le_add_right _ _
  ·simp
 | r :: l,[],acc,_=>by
  rw [ckK]
  ·exact Nat.le_add_right _ _
  ·simp
 | r :: l,w :: ws,acc,h=>by
  rw [ckK,eN]
  cases mF d w.s with
  | none=>simp only [wtO];omega
  | some c=>
   simp only;split
   ·simp only [wtO];omega
   ·rename_i h1;split
    ·simp only [wtO];omega
    ·have h2:=Gb (d:=d) (l:=l) (ws:=ws) (acc:=acc.set c (some (ckV ND r (oC d c)).1)) (fun x hx=>h x (dn _ hx));have h3:=h r List.mem_cons_self (oC d c);have h4:=Bf (v:=(ckV ND r (oC d c)).1) h1;omega
theorem JY {ND:List Nd}:∀ (m:Nat) (r:Rw),jj r<=m->∀ i,(ckV ND r i).1.wt<=oR r
 | 0,r,h=>by have:=mv r;omega
 | m + 1,.mk k a n s keys ks,h=>fun i=>by
  have he:=mA;have ih:∀ r∈ks,∀ i,(ckV ND r i).1.wt<=oR r:=fun r hr=>JY m r (by have:=iz hr;rw [jj] at h;omega);have hL:=fun j=>Ga (ND:=ND) (l:=ks) (i:=j) (acc:=[]) ih;have hz:∀ e b:Int,(bS e b).1.wt=64:=fun _ _=>rfl;rw [ckV,oR]
  cases hd:gT ND i with
  | none=>simp only [hz];omega
  | some d=>
   have hK:=Gb (ND:=ND) (d:=d) (l:=ks) (ws:=keys) (acc:=List.replicate d.aR.length none) ih;rw [Be] at hK;simp only;split
   ·have:=@CP d k a n s;omega
   split
   ·split
    ·rw [hz];omega
    split
    ·rw [hz];omega
    have:=@uU 5 0 (ckL ND ks (oC d 0) []) (eN ks) (fun _=>by have:=hL (oC d 0);rw [eD] at this;omega);omega
   split
   ·split
    ·simp only [jz,Val.wt,eD];omega
    split
    ·rw [hz];omega
    have:=@uU 6 0 (ckL ND ks (oC d 0) []) (eN ks) (fun _=>by have:=hL (oC d 0);rw [eD] at this;omega);omega
   split
   ·split
    ·rw [hz];omega
    have:=@Ix a (ckK ND d ks keys (List.replicate d.aR.length none)) (eN ks) (fun _=>by omega);omega
   split
   ·rw [hz];omega
   cases mF d s with
   | none=>simp only [hz];omega
   | some c=>
    simp only
    cases d.aR[c]? with
    | none=>simp only [hz];omega
    | some e=>
     simp only;split
     ·split
      ·simp only [jz,Val.wt,eD];omega
      ·rw [hz];omega
     split
     ·rw [hz];omega
     have:=@uU 8 c (ckL ND ks e.to []) (eN ks) (fun _=>by have:=hL e.to;rw [eD] at this;omega);omega
end Go.Proofs.YtfdedoiiahbnnaaGreat
namespace Go.Proofs.YtfdedoiiahbnnaaGreat
namespace Dv
open Go Go.RowKit
def stepO (X:Ctx) (ops:Array Oper) (i:Nat) (st:St) (K:St->Prop):Prop:=
 match ops.toList[i]? with
 | none=>False
 | some o=>
  match dF X.nt st.sl o.dst with
  | false=>False
  | true=>
   match o.guard with
   | some _=>False
   | none=>
    match pureT X.P X.T st [] o.op with
    | some s=>putK st o.dst ⟨[],s⟩ K
    | none=>eff X (go X 4000) o [.mC K] st
def Gc (X:Ctx) (ops:Array Oper) (k:List It):dg->St->Prop
 | .fin,st=>go X 4000 k st
 | .op i t,st=>stepO X ops i st (Gc X ops k t)
 | .ev i t alt,st=>stepO X ops i st (Gc X ops k t)/\Gc X ops k alt st
 | .stop,_=>True
def chkT9 (ops:Array Oper):dg->Nat->Array Bool->List Nat->Bool
 | .fin,_,ak,seen=>seen.isEmpty && (Region.ready .any ops ak).isEmpty
 | .op _ _,0,_,_=>false
 | .op i t,n + 1,ak,seen=>seen.isEmpty && (!(Region.ready .any ops ak).isEmpty && ((Region.ready .any ops ak).all (Nat.beq i) && chkT9 ops t n (ak.setIfInBounds i true) []))
 | .ev _ _ _,0,_,_=>false
 | .ev i t alt,n + 1,ak,seen=>!(Region.ready .any ops ak).isEmpty && (chkT9 ops t n (ak.setIfInBounds i true) [] && chkT9 ops alt (n + 1) ak (i :: seen))
 | .stop,_,ak,seen=>!seen.isEmpty && (Region.ready .any ops ak).all seen.contains
theorem oe {X:Ctx} {ops:Array Oper} {Q:Exit->Act->World->Prop} {K:St->Prop} {K':Act->World->Prop} {i:Nat} {st:St} (hs:stepO X ops i st K) {E:En} {a:Act} {w:World} (h:Rel X E st a w)
  (hk:∀ aJ E' a' w',K aJ -> Rel X E' aJ a' w' -> K' a' w'):wpOp X.P ops Q i K' a w:=by
 unfold stepO at hs;split at hs
 ·exact hs.elim
 rename_i o ho;have ho:ops[i]? = some o:=sU ho;split at hs
 ·exact hs.elim
 rename_i hd;split at hs
 ·exact hs.elim
 rename_i GJ;unfold wpOp;rw [ho];simp only [bK GJ,if_true];split at hs
 ·rename_i s hp;rw [iJ] at hs;obtain ⟨v,hv,bg⟩:=cR X.hT h.rl (aG _) hp;exact .inl (ij (bg w fun _=>rfl) (hk _ _ _ _ hs (aO h hd s v hv)))
 ·refine .inl (pq (fun a' w' hq=>?_) (fun e a w hq=>hq.elim) (mS (go_sound 4000) hd h hs));obtain ⟨aJ,E',h1,h2⟩:=hq;exact hk _ _ _ _ h2 h1
theorem kB {X:Ctx} {ops:Array Oper} {k:List It}:∀ (T:dg) (n:Nat) (ak:Array Bool) (seen:List Nat),chkT9 ops T n ak seen=true->∀ st,Gc X ops k T st->∀ E a w,Rel X E st a w ->
  (seen=[]->wpAny X.P .any ops (kq X k) n ak a w)/\∀ i∈Region.ready .any ops ak,i∈seen∨∃ m,n=m + 1/\wpOp X.P ops (kq X k) i (wpAny X.P .any ops (kq X k) m (ak.setIfInBounds i true)) a w
 | .fin,n,ak,seen,hc,st,hg,E,a,w,h=>by
  simp only [chkT9,aP,List.isEmpty_iff] at hc;refine ⟨fun _=>?_,fun i hi=>by rw [hc.2] at hi;cases hi⟩;have hq:=go_sound 4000 _ _ hg E a w h
  cases n with
  | zero=>exact ⟨hc.2,hq⟩
  | succ n=>exact ⟨fun _=>hq,fun i hi=>by rw [hc.2] at hi;cases hi⟩
 | .stop,n,ak,seen,hc,st,hg,E,a,w,h=>by
  simp only [chkT9,aP,List.all_eq_true,Bool.not_eq_true',List.isEmpty_eq_false_iff] at hc;exact ⟨fun he=>(hc.1 he).elim,fun i hi=>.inl (by simpa using hc.2 i hi)⟩
 | .op i t,0,ak,seen,hc,st,hg,E,a,w,h=>by simp [chkT9] at hc
 | .ev i t alt,0,ak,seen,hc,st,hg,E,a,w,h=>by simp [chkT9] at hc
 | .op i t,n + 1,ak,seen,hc,st,hg,E,a,w,h=>by
  simp only [chkT9,aP,List.all_eq_true,Bool.not_eq_true',List.isEmpty_eq_false_iff,List.isEmpty_iff] at hc;obtain ⟨h1,h2,h3,h4⟩:=hc
  have eC:∀ j∈Region.ready .any ops ak,wpOp X.P ops (kq X k) j (wpAny X.P .any ops (kq X k) n (ak.setIfInBounds j true)) a w:=fun j hj=>by
   have fL:i=j:=Nat.eq_of_beq_eq_true (h3 j hj);subst fL;exact oe hg h fun aJ E' a' w' om ei=>(kB t n _ _ h4 aJ om E' a' w' ei).1 rfl
  exact ⟨fun _=>⟨fun he=>(h2 he).elim,eC⟩,fun j hj=>.inr ⟨n,rfl,eC j hj⟩⟩
 | .ev i t alt,n + 1,ak,seen,hc,st,hg,E,a,w,h=>by
  simp only [chkT9,aP,Bool.not_eq_true',List.isEmpty_eq_false_iff] at hc;obtain ⟨h2,h4,h5⟩:=hc
  have hi:wpOp X.P ops (kq X k) i (wpAny X.P .any ops (kq X k) n (ak.setIfInBounds i true)) a w:=
   oe hg.1 h fun aJ E' a' w' om ei=>(kB t n _ _ h4 aJ om E' a' w' ei).1 rfl
  have eC:∀ j∈Region.ready .any ops ak,j∈seen∨∃ m,n + 1=m + 1/\wpOp X.P ops (kq X k) j (wpAny X.P .any ops (kq X k) m (ak.setIfInBounds j true)) a w:=fun j hj=>by
   rcases (kB alt (n + 1) ak (i :: seen) h5 st hg.2 E a w h).2 j hj with h6 | h6
   ·rcases bX h6 with rfl | h6
    ·exact .inr ⟨n,rfl,hi⟩
    ·exact .inl h6
   ·exact .inr h6
  refine ⟨fun he=>⟨fun hn=>(h2 hn).elim,fun j hj=>?_⟩,eC⟩;rcases eC j hj with h6 | ⟨m,hm,h6⟩
  ·rw [he] at h6;cases h6
  ·cases hm;exact h6
theorem Iy {X:Ctx} {id:Nat} {ops:Array Oper} {k:List It} {st:St} (T:dg) (hm:X.P.follows .mixedOrders=true) (hc:chkT9 ops T ops.size (Array.replicate ops.size false) []=true) (h:Gc X ops k T st):jo X id ops k st:=fun E a w hr=>
 wp_region_any hm ((kB T _ _ _ hc st h E a _ (eE hr)).1 rfl)
section
variable {X:Ctx} {st:St} {k:List It} {o:Oper}
theorem Gd:∀ l:List Value,(vL l).length=l.length
 | []=>rfl
 | v :: r=>by simp [vL,Gd r]
theorem Ge {E:En}:∀ l:List Value,(∀ v∈l,v.oneCell'=true)->RvL E (vL l) l
 | [],_=>bE E
 | v :: r,h=>rvL_cons (dq (h v (by simp))) (Ge r fun x hx=>h x (dn _ hx))
theorem Gf {t d et e gg n:Nat} {bb:Bool} {z:List Value} (zs:List Value) (ou:o.op = .buildSlice t 1 #[(0,.const (.agg zs.toArray))]) (gz:o.dst=some d) (hT:X.T.find t=some ⟨n,bb,.sl et e gg,z⟩) (hz1:zs.all (fun v=>v.oneCell')=true)
  (hc:(Nat.beq zs.length e && (Nat.blt 0 e && Nat.ble e 16777216))=true) (hd:dF X.nt st.sl (some d)=true) (bo:X.still=false:=by exact rfl) (hX:X.bt=[]:=by exact rfl)
  : L6 X o st ⟨(d,⟨[],.sl e [vL zs] (some st.tk.length)⟩) :: st.sl,st.bx,st.tk ++ [⟨1,et,e,none⟩]⟩:=by
 simp only [aP,Nat.beq_eq,Nat.ble_eq,Nat.blt_eq] at hc;obtain ⟨Uz,Bv,Kn⟩:=hc;obtain ⟨hu,ii,zv,rj,hz,cf,x9,Dq⟩:=dt X.hT hT;have hz1:∀ v∈zs,v.oneCell'=true:=fun v hv=>List.all_eq_true.1 hz1 v hv;have hvL:(vL zs).length=zs.length:=Gd zs;obtain ⟨len,sR⟩:∃ len,len=1:=⟨1,rfl⟩;obtain ⟨es,Gg⟩:∃ es,es=[vL zs]:=⟨_,rfl⟩;obtain ⟨vs,Iz⟩:∃ vs,vs=[Value.agg zs.toArray]:=⟨_,rfl⟩;rw [<- sR,<- Gg];rw [<- sR] at ou;have mQ:0 < len:=by omega
 have hlen:es.length=len:=by rw [Gg,sR];all_goals rfl
 have vB:vs.length=es.length:=by rw [Iz,Gg];all_goals rfl
 have cC:∀ v∈vs,v.cells.toList.length=e:=by
  rw [Iz];intro v hv;simp only [List.mem_singleton] at hv;subst hv;simpa [Value.cells] using Uz
 have LP:cellsL vs=zs:=by rw [Iz];simp [cellsL,Value.cells]
 intro E a w h
 have G8:RvC E.cl es.flatten (cellsL vs):=by
  rw [Gg,LP];refine ⟨?_,hz1⟩;simp only [List.flatten_cons,List.flatten_nil,List.append_nil];exact Ge zs hz1
 have q4:∀ cs∈es,cs.length=e:=by
  rw [Gg];intro cs bP;simp only [List.mem_singleton] at bP;subst bP;rw [hvL];exact Uz
 have Kn:len * e<=16777216:=by rw [sR];omega
 subst cf
 have DA:len * ii.size≠0:=by
  have:=Nat.mul_pos mQ Bv;omega
 have jE:Instr.fill (fun i=>some (i * ii.size,ii.size)) ((Array.range (len * ii.size)).map (zv.cells[·% zv.cells.size]!)) ((#[(0,Operand.const (Value.agg zs.toArray))]:Array (Nat × Operand)).map fun (i,x)=>(i,a.eval x)).toList=some (cellsL vs).toArray:=by
  have h0:=o6 ii.size vs 0 ((Array.range (len * ii.size)).map (zv.cells[·% zv.cells.size]!)).toList cC (by simp [vB,hlen])
  have h1:((#[(0,Operand.const (Value.agg zs.toArray))]:Array (Nat × Operand)).map fun (i,x)=>(i,a.eval x)).toList=enumF 0 vs:=by
   rw [Iz];simp only [List.map_toArray,List.map_cons,List.map_nil];rfl
  rw [h1];simp only [Array.toArray_toList] at h0;rw [h0];simp [vB,hlen]
 have bg:(execOp a.eval o).run X.P w = .ok (.value (.slice (some ⟨w.heap.size,0,none⟩) len len)) (w.alloc (.cells (cellsL vs).toArray et)):=by
  simp only [execOp,ou,Sem.run_bind,run_buildSlice w t et len _ _ ii zv hu rj hz (by omega) DA jE,Result.andThen_ok,Sem.run_pure]
 refine cG bg ?_;rw [gz];have hr:=rV (arr:=cellsL vs) h bo et
 have JZ:(cellsL vs).length=len * ii.size:=by
  have:∀ l:List Value,(∀ v∈l,v.cells.toList.length=ii.size)->(cellsL l).length=l.length * ii.size:=by
   intro l
   induction l with
   | nil=>intro _;simp [cellsL]
   | cons v l ih=>grind [cellsL]
  rw [this vs cC,vB,hlen]
 have ly:=Ia (n:=len) (ty:=et) (e:=ii.size) (cap:=len) hr bo hX (g:=w.heap.size) (cur:=(cellsL vs).toArray) (gf w _) (by simp [JZ]) (bd _) (by
   have:len<=len * ii.size:=Nat.le_mul_of_pos_right _ Bv;unfold maxLen;omega) (fun hm=>by have:=h.env.aN hm;omega) (fun x v hx yh=>by
   have hx:ef E.c (w.alloc (.cells (cellsL vs).toArray et)) w.heap.size (cellsL vs).length x=some v:=hx;unfold ef at hx;split at hx
   ·rename_i hc;rw [<- JZ];exact hc.2.2
   ·have:=World.block_lt_of_cell? w x (h.env.sub x v hx);omega) (fun j y hy hg=>by
   have:=(h.env.own (mG hy) hg).1
   omega) (h.fr.size)
 have Pb:Ext E ⟨ef E.c (w.alloc (.cells (cellsL vs).toArray et)) w.heap.size (cellsL vs).length,E.β,E.tk ++ [⟨len,et,ii.size,none⟩],E.τ ++ [.slice (some ⟨w.heap.size,0,none⟩) len len]⟩:=⟨fun x v hx=>by
  have av:=World.block_lt_of_cell? w x (h.env.sub x v hx);show ef _ _ _ _ _=_;unfold ef;rw [ah (by omega)];exact hx,fun _ _ h=>h,fun k q' hk=>by
  have av:=(gS hk).1;refine ⟨q',by show (E.tk ++ _)[k]? = _;rw [c9 av];exact hk,.inl ⟨rfl,?_⟩⟩;show (E.τ ++ _)[k]? = _
  rw [c9 (by rw [h.env.tl];exact av)]⟩
 refine ⟨_,aO ly hd (.sl ii.size es (some st.tk.length)) _ ?_,Pb,⟨[],by simp⟩,fun i b hb _=>alloc_old w _ (h.env.aN (mG hb))⟩;unfold Rv;refine ⟨_,_,_,rfl,⟨hlen.symm,bd _⟩,fun aY=>⟨rfl,?_⟩,fun k' fF=>?_⟩
 ·have jv:∀ x v,E.c x=some v->ef E.c (w.alloc (.cells (cellsL vs).toArray et)) w.heap.size (cellsL vs).length x=some v:=fun x v hx=>by
   have av:=World.block_lt_of_cell? w x (h.env.sub x v hx);unfold ef;rw [ah (by omega)];exact hx
  have hm:RvC (En.cl ⟨ef E.c (w.alloc (.cells (cellsL vs).toArray et)) w.heap.size (cellsL vs).length,E.β,E.tk,E.τ⟩) es.flatten (cellsL vs):=G8.mono (Ext.J6 (E:=E) jv);refine rvEs_flat hm q4 fun j u hj=>?_;show ef _ _ _ _ _=_;have eQ:=(gS hj).1;simp only [ab,ao,Nat.zero_add];rw [tM eQ,bD (gf w _)];simpa using hj
 ·cases fF;refine ⟨⟨len,et,ii.size,none⟩,?_,bd _,fun _=>?_⟩
  ·show (E.tk ++ _)[st.tk.length]? = _;rw [h.tk];simp
  ·show (E.τ ++ _)[st.tk.length]? = _;rw [<- h.tk,<- h.env.tl];simp
end
section
variable {X:Ctx}
theorem Gh {id:Nat} {ops:Array Oper} {k:List It} {st:St} (m:List Nat) (W:Nat->Bool) (T:dg) (hm:X.P.follows .mixedOrders=true) (hc:(zE ops && xB ops W && chkA ops T (List.range ops.size) none)=true)
  (h:goA X ⟨ops,W,[.mC fun s=>go X 4000 k s],⟨st.sl,maskL m 0 st.bx,st.tk⟩,none⟩ T true st.sl st):jo X id ops k st:=by
 intro E a w hr;have ei:=eE hr;simp only [aP] at hc;obtain ⟨⟨hN,hP⟩,hT⟩:=hc;simp only [zE,aP,List.all_eq_true,List.mem_range] at hN;have hs:dy X ⟨⟨ops,W,[.mC fun s=>go X 4000 k s],⟨st.sl,maskL m 0 st.bx,st.tk⟩,none⟩,E,w.drew⟩ true E st.sl st a w.drew:=⟨ei,Ext.refl E,⟨[],by simp⟩,ei.tm,fun _=>⟨fun _ _ _ _ _ _=>rfl,ei.env.sub⟩⟩
 have DR:mW E (maskL m 0 st.bx) w.drew:=⟨by rw [ke];exact ei.env.len,fun i cs hi aY=>by
  rcases kg m _ _ _ _ hi with h1 | h1
  ·exact (aY h1).elim
  ·exact ei.env.cM i cs h1⟩
 have bg:=tu (D:=⟨⟨ops,W,[.mC fun s=>go X 4000 k s],⟨st.sl,maskL m 0 st.bx,st.tk⟩,none⟩,E,w.drew⟩) DR rfl T _ _ hT true st.sl st h E a w.drew hs;refine wp_region_any hm ?_;refine xE (C:=CC E (maskL m 0 st.bx) w.drew) (Q:=kq X [.mC fun s=>go X 4000 k s] .normal) (Region.noSelect_spec hN.1) hP (fun i o ho e he hb=>?_) (fun a w hq=>?_) ops.size (Array.replicate ops.size false) (List.range ops.size) a _ (by simp) ?_ List.nodup_range ?_ (by simp) ⟨T,hT,bg⟩
 ·have h1:=hN.2 i (Array.getElem?_eq_some_iff.1 ho).1;rw [ho] at h1;have h2:=List.all_eq_true.1 h1 e (sU he);rw [hb] at h2;simpa using h2
 ·obtain ⟨lz,E1,ba,hJ⟩:=hq;exact go_sound 4000 _ _ hJ E1 a w ba
 ·simp_all
 ·intro k o ho hk
  grind
end
end Dv
end Go.Proofs.YtfdedoiiahbnnaaGreat
set_option maxRecDepth 100000
namespace Go.Proofs.YtfdedoiiahbnnaaGreat
open Go Go.RowKit Dv Go.Proofs.Tryz
abbrev J0:List DV:=[.v (.int .i64 0),.v (.int .i64 0)]
structure oD where
 k:Int
 a:Int
 e:Int
 s:ByteArray
 n:Int
def oE (t:oD):List DV:=[.v (.int .i64 t.k),.v (.int .i64 t.a),.v (.int .i64 t.e),.v (.string t.s),.v (.int .i64 t.n)]
def fT (l:List oD):List (List DV):=l.map oE
theorem fh (l:List oD):(fT l).length=l.length:=List.length_map ..
theorem CQ {l:List oD} {i:Nat} {t:oD} (h:l[i]? = some t):(fT l)[i]? = some (oE t):=by rw [fT,List.getElem?_map,h];all_goals rfl
theorem lu (l:List oD) (t:oD):fT l ++ [oE t]=fT (l ++ [t]):=by simp [fT]
def lv (a:Int):oD:=⟨0,a,a,al,0⟩
structure bA where
 l:List oD
 p:Nat
 d:Nat
 f:Ft
def bp (c:bA):List DV:=[.sl 5 (fT c.l) none,.v (.int .i64 c.p),.v (.int .i64 c.d),.v (.int .i64 c.f.1),.v (.int .i64 c.f.2)]
def bA.bY (c:bA):oD:=if c.f.1=0 then c.l[c.p]?.getD (lv 0) else lv c.f.2
def bA.step (c:bA):bA:=if c.bY.k=0 then c else { c with p:=c.p + 1 }
def bA.is (c:bA) (k:Int) (s:ByteArray):Bool:=decide (c.bY.k=k) && decide (c.bY.s=s)
def bA.IA (c:bA) (k:Int) (s:ByteArray):bA:=if c.is k s then c.step else c
def bA.tk (c:bA) (k:Int):Bool:=!decide (c.bY.k=0) && decide (c.bY.k=k)
def bA.Pc (c:bA) (k:Int):oD:=if c.tk k then c.bY else ⟨0,0,0,al,0⟩
def bA.Pd (c:bA) (k:Int):bA:=if c.tk k then c.step else c
def bA.tw (c:bA) (e a:Int):bA:=if c.f.1=0/\e≠0 then { c with f:=(e,a) } else c
def bA.fail (c:bA) (e:Int):bA:=c.tw e c.bY.a
def bA.wrong (c:bA):bA:=c.fail (if c.bY.k=0 then 5 else 4)
def bA.Gi (c:bA) (s:ByteArray):bA:=if c.is 4 s then c.step else c.wrong
def bA.enter (c:bA):Bool:=!decide (c.d=24)
def bA.qP (c:bA):bA:=if c.d=24 then c.fail 6 else { c with d:=c.d + 1 }
def bA.leave (c:bA):bA:={ c with d:=c.d - 1 }
structure bw (c:bA):Prop where
 lt:c.p < c.l.length
 nx:∀ (i:Nat) t,c.l[i]? = some t->t.k≠0->i + 1 < c.l.length
 len:c.l.length<=274877906944
 dl:c.d<=24
theorem bw.bY {c:bA} (h:bw c) (h0:c.f.1=0):∃ t,c.l[c.p]? = some t/\c.bY=t:=by
 refine ⟨_,gE h.lt,?_⟩;rw [bA.bY,aj h0,gE h.lt];rfl
theorem bw.step {c:bA} (h:bw c):bw c.step:=by
 unfold bA.step;split
 ·exact h
 ·rename_i hk;refine ⟨?_,h.nx,h.len,h.dl⟩;by_cases h0:c.f.1=0
  ·obtain ⟨t,h1,h2⟩:=h.bY h0;rw [h2] at hk;exact h.nx _ t h1 hk
  ·exfalso;rw [bA.bY,ah h0] at hk;exact hk rfl
abbrev xN (r:DV) (c:bA) (r':DV) (os:List (List DV)) (tk:List TkE):Prop:=r'=r/\os=[bp c]/\tk=[]
theorem bw.get {c:bA} (h:bw c) (h0:c.f.1=0):(fT c.l)[c.p]? = some (oE c.bY):=by
 obtain ⟨t,h1,h2⟩:=h.bY h0;rw [h2];exact CQ h1
theorem dO (c:bA) (h:bw c):Ev prog 139 [.loc 0 0] [bp c] [] (xN (.agg (oE c.bY)) c):=by
 have hg:=h.get;have LQ:c.f.1≠0->c.bY=lv c.f.2:=fun h=>by rw [bA.bY,ah h]
 have av:c.p < (fT c.l).length:=by rw [fh];exact h.lt
 generalize c.bY=t at hg LQ ⊢;obtain ⟨l,p,d,f1,f2⟩:=c;obtain ⟨k,a,e,s,n⟩:=t;simp only at hg LQ av;refine eG 35 [.cell 2 218] func139 rfl ntmps139 rfl fun _ _ _ _=>?_;refine br ?_ ?_<;>intro g
 ·have g:¬ f1=0:=sU g;obtain ⟨rfl,rfl,rfl,rfl,rfl⟩:=oD.mk.inj (LQ g);refine dS ?_;exact ⟨.agg _,[bp _],aT,aT,rfl,rfl,rfl⟩
 ·have g:f1=0:=sU g;refine dS ?_;refine iX (hg g) ?_;exact ⟨.agg _,[bp _],aT,aT,rfl,rfl,rfl⟩
theorem qQ (c:bA):Ev prog 138 [.loc 0 0] [bp c] [] (xN c.f.d c):=by
 obtain ⟨l,p,d,f1,f2⟩:=c;refine eG 10 [.cell 2 26] func138 rfl ntmps138 rfl fun _ _ _ _=>?_;exact ⟨.agg _,[bp _],aT,aT,rfl,rfl,rfl⟩
theorem nG (c:bA) (h:bw c):Ev prog 284 [.loc 0 0] [bp c] [] (xN (.cj []) c.step):=by
 have hp:=dO c h;have hs:c.step=if c.bY.k=0 then c else { c with p:=c.p + 1 }:=rfl
 have hb:c.p < 274877906944:=Nat.lt_of_lt_of_le h.lt h.len;generalize c.step=C at hs ⊢;generalize c.bY=t at hp hs;obtain ⟨l,p,d,f1,f2⟩:=c;obtain ⟨k,a,e,s,n⟩:=t;simp only at hb hs;refine eG 13 [] func284 rfl ntmps284 rfl fun _ _ _ _=>?_;refine aC 1 0 lY rfl rfl rfl aT aT hp (fun r cg bl hΦ _ _=>?_);obtain ⟨rfl,rfl,rfl⟩:=hΦ;refine br ?_ ?_<;>intro g
 ·have g:¬ k=0:=sU g;rw [ah g] at hs;rw [hs]
  have hw:IntKind.i64.wrap ((p:Int) + 1)=((p + 1:Nat):Int):=by
   rw [wrap64 (by omega) (by omega)];omega
  have hX:=congrArg (fun z=>DV.v (Value.int .i64 z)) hw;exact ⟨.cj [],[bp _],(by repeat' (first | exact rfl | exact trivial | exact Or.inr (Or.inl ⟨_,rfl⟩) | exact Or.inr ⟨_,rfl⟩ | exact Or.inl ⟨rfl,rfl⟩ | exact Or.inl rfl | refine Or.inr ⟨_,_,rfl,Nat.zero_le _,rfl,?_⟩ | refine ⟨_,_,rfl,?_,?_⟩ | refine ⟨_,rfl,?_⟩ | exact hX | exact ⟨nL rfl,rfl⟩ | refine Or.inr (Or.inr (Or.inr ⟨_,_,rfl,?_⟩)) | exact Or.inl rfl | refine Or.inr ?_)),(by repeat' (first | exact rfl | exact trivial | exact Or.inr (Or.inl ⟨_,rfl⟩) | exact Or.inr ⟨_,rfl⟩ | exact Or.inl ⟨rfl,rfl⟩ | exact Or.inl rfl | refine Or.inr ⟨_,_,rfl,Nat.zero_le _,rfl,?_⟩ | refine ⟨_,_,rfl,?_,?_⟩ | refine ⟨_,rfl,?_⟩ | exact hX | exact ⟨nL rfl,rfl⟩ | refine Or.inr (Or.inr (Or.inr ⟨_,_,rfl,?_⟩)) | exact Or.inl rfl | refine Or.inr ?_)),rfl,rfl,rfl⟩
 ·have g:k=0:=sU g;rw [aj g] at hs;rw [hs];exact ⟨.cj [],[bp _],aT,aT,rfl,rfl,rfl⟩
theorem IB (c:bA) (h:bw c) (k:Int) (s:ByteArray):Ev prog 247 [.loc 0 0,.v (.int .i64 k),.v (.string s)] [bp c] [] (xN (.v (.bool (c.is k s))) (c.IA k s)):=by
 have hp:=dO c h;have hs:=nG c h;have hI:c.is k s=(decide (c.bY.k=k) && decide (c.bY.s=s)):=rfl;have hC:c.IA k s=if c.is k s then c.step else c:=rfl
 generalize c.IA k s=C2 at hC ⊢;generalize c.is k s=B at hI hC ⊢;generalize c.step=C1 at hs hC;generalize c.bY=t at hp hI;obtain ⟨tk,ta,te,ts,tn⟩:=t;obtain ⟨l,p,d,f1,f2⟩:=c;obtain ⟨l1,p1,d1,f11,f21⟩:=C1;simp only at hI;refine eG 22 [.tmp 6] func247 rfl ntmps247 rfl fun _ _ _ _=>?_;refine aC 1 0 lY rfl rfl rfl aT aT hp (fun r cg bl hΦ _ _=>?_);obtain ⟨rfl,rfl,rfl⟩:=hΦ;refine br ?_ ?_<;>intro g
 ·have hB:B=false:=by
   rw [hI];have g:¬tk=k∨¬ts=s:=by simpa [aF] using g
   rcases g with g | g<;>simp [g]
  subst hB;rw [ah (by simp)] at hC;rw [hC];exact ⟨.v (.bool false),[bp _],aT,aT,rfl,rfl,rfl⟩
 ·have hB:B=true:=by rw [hI];simpa [aF] using g
  subst hB;rw [aj rfl] at hC;rw [hC];refine aC 1 0 Ec rfl rfl rfl aT aT hs (fun r cg bl hΦ _ _=>?_);obtain ⟨rfl,rfl,rfl⟩:=hΦ;exact ⟨.v (.bool true),[bp _],aT,aT,rfl,rfl,rfl⟩
theorem kC (c:bA) (h:bw c) (s:ByteArray):Ev prog 220 [.loc 0 0,.v (.string s)] [bp c] [] (xN (.v (.bool (c.is 4 s))) (c.IA 4 s)):=by
 have hs:=IB c h 4 s;generalize c.IA 4 s=C2 at hs ⊢;generalize c.is 4 s=B at hs ⊢;obtain ⟨l,p,d,f1,f2⟩:=c;obtain ⟨l1,p1,d1,f11,f21⟩:=C2;refine eG 8 [.tmp 4] func220 rfl ntmps220 rfl fun _ _ _ _=>?_;refine aC 1 0 Nz rfl rfl rfl aT aT hs (fun r cg bl hΦ _ _=>?_);obtain ⟨rfl,rfl,rfl⟩:=hΦ;exact ⟨.v (.bool B),[bp _],aT,aT,rfl,rfl,rfl⟩
theorem Gj (c:bA) (h:bw c) (k:Int):Ev prog 246 [.loc 0 0,.v (.int .i64 k)] [bp c] [] (xN (.cj [.agg (oE (c.Pc k)),.v (.bool (c.tk k))]) (c.Pd k)):=by
 have hp:=dO c h;have hs:=nG c h;have hI:c.tk k=(!decide (c.bY.k=0) && decide (c.bY.k=k)):=rfl;have hT:c.Pc k=if c.tk k then c.bY else ⟨0,0,0,al,0⟩:=rfl
 have hC:c.Pd k=if c.tk k then c.step else c:=rfl
 generalize c.Pd k=C2 at hC ⊢;generalize c.Pc k=T2 at hT ⊢;generalize c.tk k=B at hI hC hT ⊢;generalize c.step=C1 at hs hC;generalize c.bY=t at hp hI hT;obtain ⟨tk,ta,te,ts,tn⟩:=t;obtain ⟨l,p,d,f1,f2⟩:=c;obtain ⟨l1,p1,d1,f11,f21⟩:=C1;simp only at hI;refine eG 22 [.cell 4 218,.tmp 5] func246 rfl ntmps246 rfl fun _ _ _ _=>?_;refine aC 1 0 lY rfl rfl rfl aT aT hp (fun r cg bl hΦ _ _=>?_);obtain ⟨rfl,rfl,rfl⟩:=hΦ;refine br ?_ ?_<;>intro g
 ·have hB:B=false:=by
   rw [hI];have g:tk=0∨¬tk=k:=by simpa [aF] using g
   rcases g with g | g<;>simp [g]
  subst hB;rw [ah (by simp)] at hC hT;rw [hC,hT];exact ⟨.cj [.agg (oE ⟨0,0,0,al,0⟩),.v (.bool false)],[bp _],aT,aT,rfl,rfl,rfl⟩
 ·have hB:B=true:=by rw [hI];simpa [aF] using g
  subst hB;rw [aj rfl] at hC hT;rw [hC,hT];refine aC 1 0 Ec rfl rfl rfl aT aT hs (fun r cg bl hΦ _ _=>?_);obtain ⟨rfl,rfl,rfl⟩:=hΦ;exact ⟨.cj [.agg (oE _),.v (.bool true)],[bp _],aT,aT,rfl,rfl,rfl⟩
theorem xO (c:bA) (e a:Int):Ev prog 250 [.loc 0 0,.v (.int .i64 e),.v (.int .i64 a)] [bp c] [] (xN (.cj []) (c.tw e a)):=by
 have hC:c.tw e a=if c.f.1=0/\e≠0 then { c with f:=(e,a) } else c:=rfl
 generalize c.tw e a=C2 at hC ⊢;obtain ⟨l,p,d,f1,f2⟩:=c;simp only at hC;refine eG 26 [] func250 rfl ntmps250 rfl fun _ _ _ _=>?_;refine br ?_ ?_<;>intro g
 ·have g:f1=0/\e≠0:=by simpa [aH] using g
  rw [aj g] at hC;rw [hC];exact ⟨.cj [],[bp _],aT,aT,rfl,rfl,rfl⟩
 ·have g:¬ (f1=0/\e≠0):=by simpa [aH] using g
  rw [ah g] at hC;rw [hC];exact ⟨.cj [],[bp _],aT,aT,rfl,rfl,rfl⟩
theorem nH (c:bA) (h:bw c) (e:Int):Ev prog 168 [.loc 0 0,.v (.int .i64 e)] [bp c] [] (xN (.cj []) (c.fail e)):=by
 have hp:=dO c h;have hs:=xO c e c.bY.a;have hC:c.fail e=c.tw e c.bY.a:=rfl;rw [hC];generalize c.tw e c.bY.a=C2 at hs ⊢;generalize c.bY=t at hp hs;obtain ⟨tk,ta,te,ts,tn⟩:=t;obtain ⟨l,p,d,f1,f2⟩:=c;obtain ⟨l1,p1,d1,f11,f21⟩:=C2;simp only at hs;refine eG 10 [] func168 rfl ntmps168 rfl fun _ _ _ _=>?_;refine aC 1 0 lY rfl rfl rfl aT aT hp (fun r cg bl hΦ _ _=>?_);obtain ⟨rfl,rfl,rfl⟩:=hΦ;refine aC 1 0 NB rfl rfl rfl aT aT hs (fun r cg bl hΦ _ _=>?_);obtain ⟨rfl,rfl,rfl⟩:=hΦ;exact ⟨.cj [],[bp _],aT,aT,rfl,rfl,rfl⟩
theorem CR (c:bA) (h:bw c) (s:ByteArray):Ev prog 159 [.loc 0 0,.v (.string s)] [bp c] [] (xN (.v (.bool (c.is 4 s))) (c.Gi s)):=by
 have hm:=kC c h s;have hp:=dO c h;have h5:=nH c h 5;have h4:=nH c h 4;have hC:c.Gi s=if c.is 4 s then c.step else c.fail (if c.bY.k=0 then 5 else 4):=rfl
 have hM:c.IA 4 s=if c.is 4 s then c.step else c:=rfl
 rw [hM] at hm;generalize c.Gi s=C2 at hC ⊢;generalize c.is 4 s=B at hC hm ⊢;generalize c.step=C1 at hm hC;generalize c.bY=t at hp hC;obtain ⟨tk,ta,te,ts,tn⟩:=t;simp only at hC
 cases B with
 | true=>
  rw [aj rfl] at hC hm;rw [hC];obtain ⟨l,p,d,f1,f2⟩:=c;obtain ⟨l1,p1,d1,f11,f21⟩:=C1;refine eG 16 [.tmp 4] func159 rfl ntmps159 rfl fun _ _ _ _=>?_;refine aC 1 0 nQ rfl rfl rfl aT aT hm (fun r cg bl hΦ _ _=>?_);obtain ⟨rfl,rfl,rfl⟩:=hΦ;exact ⟨.v (.bool true),[bp _],aT,aT,rfl,rfl,rfl⟩
 | false=>
  rw [ah (by simp)] at hC hm;rw [hC];have e5:tk=0->c.fail (if tk=0 then 5 else 4)=c.fail 5:=fun g=>by rw [aj g]
  have e4:¬ tk=0->c.fail (if tk=0 then 5 else 4)=c.fail 4:=fun g=>by rw [ah g]
  generalize c.fail (if tk=0 then 5 else 4)=CX at e5 e4 ⊢;generalize c.fail 5=C5 at h5 e5;generalize c.fail 4=C4 at h4 e4;obtain ⟨l,p,d,f1,f2⟩:=c;obtain ⟨l5,p5,d5,f15,f25⟩:=C5;obtain ⟨l4,p4,d4,f14,f24⟩:=C4;refine eG 16 [.tmp 4] func159 rfl ntmps159 rfl fun _ _ _ _=>?_;refine aC 1 0 nQ rfl rfl rfl aT aT hm (fun r cg bl hΦ _ _=>?_);obtain ⟨rfl,rfl,rfl⟩:=hΦ;refine aC 1 0 lY rfl rfl rfl aT aT hp (fun r cg bl hΦ _ _=>?_);obtain ⟨rfl,rfl,rfl⟩:=hΦ;refine br ?_ ?_<;>intro g
  ·have g:tk=0:=sU g;rw [e5 g];refine aC 1 0 D7 rfl rfl rfl aT aT h5 (fun r cg bl hΦ _ _=>?_);obtain ⟨rfl,rfl,rfl⟩:=hΦ;exact ⟨.v (.bool false),[bp _],aT,aT,rfl,rfl,rfl⟩
  ·have g:¬ tk=0:=sU g;rw [e4 g];refine aC 1 0 D7 rfl rfl rfl aT aT h4 (fun r cg bl hΦ _ _=>?_);obtain ⟨rfl,rfl,rfl⟩:=hΦ;exact ⟨.v (.bool false),[bp _],aT,aT,rfl,rfl,rfl⟩
theorem zL (c:bA) (h:bw c):Ev prog 248 [.loc 0 0] [bp c] [] (xN (.v (.bool c.enter)) c.qP):=by
 have hf:=nH c h 6;have hI:c.enter = !decide (c.d=24):=rfl;have hC:c.qP=if c.d=24 then c.fail 6 else { c with d:=c.d + 1 }:=rfl
 have hd:=h.dl;generalize c.qP=C2 at hC ⊢;generalize c.enter=B at hI ⊢;generalize c.fail 6=C6 at hf hC;obtain ⟨l,p,d,f1,f2⟩:=c;obtain ⟨l1,p1,d1,f11,f21⟩:=C6;simp only at hI hC hd;refine eG 21 [.tmp 2] func248 rfl ntmps248 rfl fun _ _ _ _=>?_;refine br ?_ ?_<;>intro g
 ·have g:(d:Int)=24:=of_decide_eq_true g;have g:d=24:=by omega
  rw [aj g] at hC;rw [hC,hI,decide_eq_true g];refine aC 1 0 D7 rfl rfl rfl aT aT hf (fun r cg bl hΦ _ _=>?_);obtain ⟨rfl,rfl,rfl⟩:=hΦ;exact ⟨.v (.bool false),[bp _],aT,aT,rfl,rfl,rfl⟩
 ·have g:¬ (d:Int)=24:=of_decide_eq_false g;have g:¬ d=24:=by omega
  rw [decide_eq_false g] at hI;rw [ah g] at hC;rw [hC,hI]
  have hw:IntKind.i64.wrap ((d:Int) + 1)=((d + 1:Nat):Int):=by
   rw [wrap64 (by omega) (by omega)];omega
  have hX:=congrArg (fun z=>DV.v (Value.int .i64 z)) hw;exact ⟨.v (.bool true),[bp _],(by repeat' (first | exact rfl | exact trivial | exact Or.inr (Or.inl ⟨_,rfl⟩) | exact Or.inr ⟨_,rfl⟩ | exact Or.inl ⟨rfl,rfl⟩ | exact Or.inl rfl | refine Or.inr ⟨_,_,rfl,Nat.zero_le _,rfl,?_⟩ | refine ⟨_,_,rfl,?_,?_⟩ | refine ⟨_,rfl,?_⟩ | exact hX | exact ⟨nL rfl,rfl⟩ | refine Or.inr (Or.inr (Or.inr ⟨_,_,rfl,?_⟩)) | exact Or.inl rfl | refine Or.inr ?_)),(by repeat' (first | exact rfl | exact trivial | exact Or.inr (Or.inl ⟨_,rfl⟩) | exact Or.inr ⟨_,rfl⟩ | exact Or.inl ⟨rfl,rfl⟩ | exact Or.inl rfl | refine Or.inr ⟨_,_,rfl,Nat.zero_le _,rfl,?_⟩ | refine ⟨_,_,rfl,?_,?_⟩ | refine ⟨_,rfl,?_⟩ | exact hX | exact ⟨nL rfl,rfl⟩ | refine Or.inr (Or.inr (Or.inr ⟨_,_,rfl,?_⟩)) | exact Or.inl rfl | refine Or.inr ?_)),rfl,rfl,rfl⟩
theorem zM (c:bA) (h:bw c):Ev prog 225 [.loc 0 0] [bp c] [] (xN (.cj []) c.leave):=by
 have hC:c.leave={ c with d:=c.d - 1 }:=rfl;have hd:=h.dl;generalize c.leave=C2 at hC ⊢;obtain ⟨l,p,d,f1,f2⟩:=c;simp only at hC hd;refine eG 13 [] func225 rfl ntmps225 rfl fun _ _ _ _=>?_;rw [hC]
 have hw:max (IntKind.i64.wrap ((d:Int) - 1)) 0=((d - 1:Nat):Int):=by
  rw [wrap64 (by omega) (by omega)];omega
 have hX:=congrArg (fun z=>DV.v (Value.int .i64 z)) hw;exact ⟨.cj [],[bp _],(by repeat' (first | exact rfl | exact trivial | exact Or.inr (Or.inl ⟨_,rfl⟩) | exact Or.inr ⟨_,rfl⟩ | exact Or.inl ⟨rfl,rfl⟩ | exact Or.inl rfl | refine Or.inr ⟨_,_,rfl,Nat.zero_le _,rfl,?_⟩ | refine ⟨_,_,rfl,?_,?_⟩ | refine ⟨_,rfl,?_⟩ | exact hX | exact ⟨nL rfl,rfl⟩ | refine Or.inr (Or.inr (Or.inr ⟨_,_,rfl,?_⟩)) | exact Or.inl rfl | refine Or.inr ?_)),(by repeat' (first | exact rfl | exact trivial | exact Or.inr (Or.inl ⟨_,rfl⟩) | exact Or.inr ⟨_,rfl⟩ | exact Or.inl ⟨rfl,rfl⟩ | exact Or.inl rfl | refine Or.inr ⟨_,_,rfl,Nat.zero_le _,rfl,?_⟩ | refine ⟨_,_,rfl,?_,?_⟩ | refine ⟨_,rfl,?_⟩ | exact hX | exact ⟨nL rfl,rfl⟩ | refine Or.inr (Or.inr (Or.inr ⟨_,_,rfl,?_⟩)) | exact Or.inl rfl | refine Or.inr ?_)),rfl,rfl,rfl⟩
theorem CS (c:bA) (h:bw c):Ev prog 223 [.loc 0 0] [bp c] [] (xN (.agg (oE c.bY)) c.step):=by
 have hp:=dO c h;have hs:=nG c h;generalize c.step=C1 at hs ⊢;generalize c.bY=t at hp ⊢;obtain ⟨tk,ta,te,ts,tn⟩:=t;obtain ⟨l,p,d,f1,f2⟩:=c;obtain ⟨l1,p1,d1,f11,f21⟩:=C1;refine eG 9 [.cell 2 218] func223 rfl ntmps223 rfl fun _ _ _ _=>?_;refine aC 1 0 lY rfl rfl rfl aT aT hp (fun r cg bl hΦ _ _=>?_);obtain ⟨rfl,rfl,rfl⟩:=hΦ;refine aC 1 0 Ec rfl rfl rfl aT aT hs (fun r cg bl hΦ _ _=>?_);obtain ⟨rfl,rfl,rfl⟩:=hΦ;exact ⟨.agg (oE _),[bp _],aT,aT,rfl,rfl,rfl⟩
end Go.Proofs.YtfdedoiiahbnnaaGreat
namespace Go.Proofs.YtfdedoiiahbnnaaGreat
namespace Dv
open Go Go.RowKit
section
variable {X:Ctx} {st:St} {s0:List (Nat × Sl)} {c:Bool} {i:Nat} {r:List (Nat × Oper)}
def Pe (D:Dr) (n:Nat):Bool:=(D.fY.bx.take n).all List.isEmpty
theorem Gk {D:Dr} {n i:Nat} {cs:List DV} (h:Pe D n=true) (hi:i < n) (hc:D.fY.bx[i]? = some cs):cs=[]:=by
 have h1:=List.all_eq_true.1 h cs (mG (i:=i) (by rw [bJ,aj hi];exact hc));simpa using h1
theorem qR {D:Dr} {f:FuncId} {args aV:List DV} {os:List (List DV)} {d:Nat} (n1:Nat) (Od:Pe D n1=true) (gV:Enters X.P f) (hd:(dF X.nt st.sl (some d) && dF X.nt s0 (some d))=true) (vu:Nat.ble n1 st.bx.length=true)
  (vz:jw [] n1 n1 0 os (st.bx.take n1)) (ha:CcL [] n1 n1 0 aV args) {Φ:DV->List (List DV)->List TkE->Prop} (hc:Ev X.P f aV os [] Φ)
  (hk:∀ yy cg,Φ yy cg []->cg.length=n1->put2 s0 ⟨st.sl,cg ++ st.bx.drop n1,st.tk⟩ (some d) false [] yy (goD X D 3000 c r)) (bo:X.still=false:=by exact rfl) (hX:X.bt=[]:=by exact rfl):sc X D c i r f args (some d) s0 st:=by
 refine ⟨gV,fun hl E0 wr hD E a w vs h hv=>(qd n1 0 vu rfl vz ha hc bo hX h.rel hv).mono ?_⟩;rintro e w' ⟨v,r',cg,bl,E',rfl,hΦ,h1,h2,ba,hr,hx,hβ,ho⟩;obtain rfl:bl=[]:=List.eq_nil_of_length_eq_zero h2
 have hC:CC E0 D.fY.bx wr w->CC E0 D.fY.bx wr w':=fun hC=>⟨fun j b cs hb bP aY=>by
  have bO:n1<=j:=by
   rcases Nat.lt_or_ge j n1 with h3 | h3
   ·exact (aY (Gk Od h3 bP)).elim
   ·exact h3
  rw [ho j b bO (h.x.β j b hb)]
  exact hC.o j b cs hb bP aY,fun x v rU=>ba.env.sub x v (hx.c x v (h.x.c x v rU))⟩
 refine ⟨v,rfl,fun _=>hC,?_⟩
 have vS:dy X ⟨D,E0,wr⟩ c E' s0 ⟨st.sl,cg ++ st.bx.drop n1,st.tk⟩ (a.put none v) w':={
  rel:=ba
  x:=by
   refine ⟨fun y v hy=>hx.c y v (h.x.c y v hy),fun j b hb=>hx.β j b (h.x.β j b hb),fun k q hq=>?_⟩;obtain ⟨q1,h1,h2⟩:=h.x.tk k q hq;obtain ⟨q2,h3,h4⟩:=hx.tk k q1 h1
   grind
  β:=by
   obtain ⟨r1,h1⟩:=h.β;exact ⟨r1,by rw [hβ];exact h1⟩
  t0:=fun j x hj=>by
   have h1:=h.t0 j x hj;refine ⟨fun hh=>?_,h1.2⟩;obtain ⟨v,h2,h3⟩:=h1.1 hh;exact ⟨v,h2,Rv.mono (tX hx) h3⟩
  cc:=fun hc=>hC (h.cc hc) }
 obtain ⟨s1,lz,gL,cN⟩:=fo vS hd false [] r' v (fun _ _ p hp=>by cases hp) (fun _=>hr) (fun hb=>by cases hb) (fun hn=>(hn (aG _)).elim) (hk r' cg hΦ h1);exact dh (D:=⟨D,E0,wr⟩) hD 3000 c r _ _ gL hl E' _ w' cN
end
end Dv
end Go.Proofs.YtfdedoiiahbnnaaGreat
set_option maxRecDepth 100000
namespace Go.Proofs.YtfdedoiiahbnnaaGreat
open Go Go.RowKit Dv Go.Proofs.Tryz
theorem uV {c:bA} (h:bw c) (hd:c.d < 24):bw { c with d:=c.d + 1 }:=⟨h.lt,h.nx,h.len,hd⟩
theorem Gl {c:bA} (h:bw c) (hd:c.d < 24):Ev prog 248 [.loc 0 0] [bp c] [] (xN (.v (.bool true)) { c with d:=c.d + 1 }):=by
 have he:=zL c h;have e1:c.enter=true:=by simp [bA.enter];omega
 have e2:c.qP={ c with d:=c.d + 1 }:=by rw [bA.qP,ah (by omega)]
 rw [e1,e2] at he;exact he
theorem xP {c:bA} (h:bw c) (hd:c.d < 24):Ev prog 225 [.loc 0 0] [bp { c with d:=c.d + 1 }] [] (xN (.cj []) c):=zM _ (uV h hd)
theorem IC {c:bA} (h:bw c) {t:oD} (hp:c.bY=t) (hk:t.k≠0):Ev prog 246 [.loc 0 0,.v (.int .i64 t.k)] [bp c] [] (xN (.cj [.agg (oE t),.v (.bool true)]) { c with p:=c.p + 1 }):=by
 have ht:=Gj c h t.k;have e0:c.tk t.k=true:=by rw [bA.tk,hp];simp [hk]
 have e1:c.Pc t.k=t:=by rw [bA.Pc,e0,aj rfl,hp]
 have e2:c.Pd t.k={ c with p:=c.p + 1 }:=by rw [bA.Pd,e0,aj rfl,bA.step,hp,ah hk]
 rw [e0,e1,e2] at ht;exact ht
abbrev fD (m:Nat):List DV:=[.loc 0 0,.v (.int .i64 m)]
abbrev q6 (k a:Int) (s:ByteArray):List DV:=[.v (.int .i64 k),.v (.int .i64 a),.v (.int .i64 0),.v (.string s),.v (.slice none 0 0),.v (.slice none 0 0)]
theorem tz (c:bA) (h:bw c) (hd:c.d < 24) (m:Nat) (hm:m < 4096):Ev prog 219 [.loc 1 0] [bp c,fD m] [] (fun r os tk=>r = .v (.bool true)/\os=[bp { c with d:=c.d + 1 },fD (m + 1)]/\tk=[]):=by
 have he:=Gl h hd
 have hw:IntKind.i64.wrap ((m:Int) + 1)=((m + 1:Nat):Int):=by
  rw [wrap64 (by omega) (by omega)];omega
 have hX:=congrArg (fun z=>DV.v (Value.int .i64 z)) hw;obtain ⟨l,p,d,f1,f2⟩:=c;refine eG 26 [.tmp 2] func219 rfl ntmps219 rfl fun _ _ _ _=>?_;refine aC 1 0 NA rfl rfl rfl aT aT he (fun r cg bl hΦ _ _=>?_);obtain ⟨rfl,rfl,rfl⟩:=hΦ;refine br (fun g=>absurd (of_decide_eq_true g) (by omega)) (fun _=>?_);exact ⟨.v (.bool true),[bp _,fD (m + 1)],(by repeat' (first | exact rfl | exact trivial | exact Or.inr (Or.inl ⟨_,rfl⟩) | exact Or.inr ⟨_,rfl⟩ | exact Or.inl ⟨rfl,rfl⟩ | exact Or.inl rfl | refine Or.inr ⟨_,_,rfl,Nat.zero_le _,rfl,?_⟩ | refine ⟨_,_,rfl,?_,?_⟩ | refine ⟨_,rfl,?_⟩ | exact hX | exact ⟨nL rfl,rfl⟩ | refine Or.inr (Or.inr (Or.inr ⟨_,_,rfl,?_⟩)) | exact Or.inl rfl | refine Or.inr ?_)),(by repeat' (first | exact rfl | exact trivial | exact Or.inr (Or.inl ⟨_,rfl⟩) | exact Or.inr ⟨_,rfl⟩ | exact Or.inl ⟨rfl,rfl⟩ | exact Or.inl rfl | refine Or.inr ⟨_,_,rfl,Nat.zero_le _,rfl,?_⟩ | refine ⟨_,_,rfl,?_,?_⟩ | refine ⟨_,rfl,?_⟩ | exact hX | exact ⟨nL rfl,rfl⟩ | refine Or.inr (Or.inr (Or.inr ⟨_,_,rfl,?_⟩)) | exact Or.inl rfl | refine Or.inr ?_)),rfl,rfl,rfl⟩
theorem Gm (c:bA) (h:bw c) (hn:c.is 4 ⟨#[40]⟩=false) (m:Nat) (k a:Int) (s:ByteArray):Ev prog 224 [.loc 1 0,.loc 2 0] [bp c,fD m,q6 k a s] [] (fun r os tk=>r = .cj []/\os=[bp c,fD m,q6 1 a s]/\tk=[]):=by
 have hm:=kC c h ⟨#[40]⟩;rw [hn,bA.IA,hn,ah (by simp)] at hm;obtain ⟨l,p,d,f1,f2⟩:=c;refine eG 26 [] func224 rfl ntmps224 rfl fun _ _ _ _=>?_;refine aC 1 0 nQ rfl rfl rfl aT aT hm (fun r cg bl hΦ _ _=>?_);obtain ⟨rfl,rfl,rfl⟩:=hΦ;exact ⟨.cj [],[bp _,fD m,q6 1 a s],aT,aT,rfl,rfl,rfl⟩
theorem uW {c:bA} (h:bw c) {s:ByteArray} (hn:c.is 4 s=false):Ev prog 220 [.loc 0 0,.v (.string s)] [bp c] [] (xN (.v (.bool false)) c):=by
 have hm:=kC c h s;rw [hn,bA.IA,hn,ah (by simp)] at hm;exact hm
theorem xQ {c:bA} (h:bw c) {s:ByteArray} (hn:c.is 4 s=true):Ev prog 220 [.loc 0 0,.v (.string s)] [bp c] [] (xN (.v (.bool true)) c.step):=by
 have hm:=kC c h s;rw [hn,bA.IA,hn,aj rfl] at hm;exact hm
theorem zN (c:bA) (h:bw c) (hd:c.d < 24) (a e n:Int) (s:ByteArray) (hp:c.bY=⟨1,a,e,s,n⟩) (m:Nat) (hm:m < 4096) (hn:bA.is { c with p:=c.p + 1 } 4 ⟨#[40]⟩=false) :
  Ev prog 137 [.loc 1 0] [bp c,fD m] [] (fun r os tk=>r = .agg (q6 1 a s)/\os=[bp { c with p:=c.p + 1 },fD (m + 1)]/\tk=[]):=by
 have GQ:=dO c h;rw [hp] at GQ;have gV:=tz c h hd m hm;have uX:=uV h hd;have x6:bA.bY { c with d:=c.d + 1 }=⟨1,a,e,s,n⟩:=hp;have gQ:∀ t,bA.is { c with d:=c.d + 1 } 4 t=false:=fun t=>by rw [bA.is,x6];simp
 have iH:=uW uX (gQ ⟨#[123]⟩);have vv:=uW uX (gQ ⟨#[91]⟩);have HW:=CS _ uX;have e2:bA.step { c with d:=c.d + 1 }={ c with d:=c.d + 1,p:=c.p + 1 }:=by rw [bA.step,x6,ah (by simp)]
 rw [x6,e2] at HW;have LR:bw { c with d:=c.d + 1,p:=c.p + 1 }:=by rw [<- e2];exact uX.step
 have hs:bw c.step:=h.step;have e3:c.step={ c with p:=c.p + 1 }:=by rw [bA.step,hp,ah (by simp)]
 rw [e3] at hs;have hw:=Gm _ LR hn (m + 1) 0 a s;have Ls:=xP hs hd;obtain ⟨l,p,d,f1,f2⟩:=c;refine eG 78 [.cell 2 70] func137 rfl ntmps137 rfl fun _ _ _ _=>?_;refine aC 1 0 lY rfl rfl rfl aT aT GQ (fun r cg bl hΦ _ _=>?_);obtain ⟨rfl,rfl,rfl⟩:=hΦ;refine aC 2 0 Jc rfl rfl rfl aT aT gV (fun r cg bl hΦ _ _=>?_);obtain ⟨rfl,rfl,rfl⟩:=hΦ;refine aC 1 0 nQ rfl rfl rfl aT aT iH (fun r cg bl hΦ _ _=>?_);obtain ⟨rfl,rfl,rfl⟩:=hΦ;refine aC 1 0 nQ rfl rfl rfl aT aT vv (fun r cg bl hΦ _ _=>?_);obtain ⟨rfl,rfl,rfl⟩:=hΦ;refine aC 1 0 Np rfl rfl rfl aT aT HW (fun r cg bl hΦ _ _=>?_);obtain ⟨rfl,rfl,rfl⟩:=hΦ;refine CallG.Cv 2 4 rfl rfl rfl rfl ?_;refine aC 3 0 Nq rfl rfl rfl aT aT hw (fun r cg bl hΦ _ _=>?_);obtain ⟨rfl,rfl,rfl⟩:=hΦ;refine aC 1 0 Jd rfl rfl rfl aT aT Ls (fun r cg bl hΦ _ _=>?_);obtain ⟨rfl,rfl,rfl⟩:=hΦ;exact ⟨.agg (q6 1 a s),[bp _,fD (m + 1)],aT,aT,rfl,rfl,rfl⟩
abbrev CT:ByteArray:=⟨#[58]⟩
abbrev Gn (a:Int) (w:Wd) (x:List DV):List DV:=[.v (.int .i64 5),.v (.int .i64 a),.v (.int .i64 0),.v (.string ⟨#[]⟩),.sl 2 [kj w] none,.sl 6 [x] none]
theorem J1 {bx:List (List DV)} {N n0 m0 i c:Nat} (a:Int) (s:ByteArray) (r:List DV) (hb:bx[i]? = some (q6 1 a s ++ r)) (hN:N<=i):Cc bx N n0 m0 (.sl 6 [q6 1 a s] none) (.ms i 6 0 1 c):=by
 simp only [Cc];refine .inr (.inr (.inl ⟨i,0,c,_,rfl,hN,hb,rfl,by simp,?_⟩));intro x hx;simp at hx;rcases hx with rfl | rfl | rfl | rfl | rfl<;>exact .inl ⟨_,rfl⟩
theorem ID (c:bA) (h:bw c) (hd:c.d < 24) (a e n:Int) (s:ByteArray) (hp:c.bY=⟨1,a,e,s,n⟩) (LS:bA.is { c with p:=c.p + 1 } 4 CT=true) (a2 e2 n2:Int) (s2:ByteArray) (GN:bA.bY { c with p:=c.p + 2 }=⟨1,a2,e2,s2,n2⟩)
  (m:Nat) (hm:m < 4096) (hn:bA.is { c with p:=c.p + 3 } 4 ⟨#[40]⟩=false) (va:Int) :
  Ev prog 282 [.loc 3 0,.loc 4 0] [bp c,fD m,q6 5 va ⟨#[]⟩,[.loc 1 0],[.loc 2 0]] []
   (fun r os tk=>r = .cj []/\os=[bp { c with p:=c.p + 3 },fD (m + 1),Gn va ⟨s,a⟩ (q6 1 a2 s2),[.loc 1 0],[.loc 2 0]]/\tk=[]):=by
 have ht:=IC h hp (by simp)
 have uX:bw { c with p:=c.p + 1 }:=by
  have:=h.step;rw [bA.step,hp,ah (by simp)] at this;exact this
 have hnd:=CR _ uX CT
 have gL:¬ (bA.bY { c with p:=c.p + 1 }).k=0:=by
  have:=LS;simp only [bA.is,aP,decide_eq_true_eq] at this;omega
 have e3:bA.step { c with p:=c.p + 1 }={ c with p:=c.p + 2 }:=by rw [bA.step,ah gL]
 have e4:bA.Gi { c with p:=c.p + 1 } CT={ c with p:=c.p + 2 }:=by rw [bA.Gi,LS,aj rfl,e3]
 rw [LS,e4] at hnd;have LR:bw { c with p:=c.p + 2 }:=by rw [<- e3];exact uX.step
 have hv:=zN _ LR hd a2 e2 n2 s2 GN m hm hn;obtain ⟨l,p,d,f1,f2⟩:=c;refine tT (s:=false) (bt:=[]) (mu:=[45]) (hbt:=fun p hp=>by cases hp) (fr:=false) (P:=prog) tt si 5000 60 [] func282 rfl ntmps282 rfl (nL rfl) (fun _ _ _ _=>?_);refine aC 1 0 Ny rfl rfl rfl aT aT ht (fun r cg bl hΦ _ _=>?_);obtain ⟨rfl,rfl,rfl⟩:=hΦ;refine aC 1 0 Nc rfl rfl rfl aT aT hnd (fun r cg bl hΦ _ _=>?_);obtain ⟨rfl,rfl,rfl⟩:=hΦ;refine dS ?_;refine ⟨⟨by simp [maxLen],by simp⟩,?_⟩;refine Iy (.op 0 (.ev 1 (.op 2 (.op 3 .fin)) (.ev 2 (.op 1 (.op 3 .fin)) .stop))) mo (by decide +kernel) ?_;refine ⟨?_,?_,trivial⟩
 ·refine cy [0,1] (fun i=>Nat.beq i 11) mo (by decide +kernel) ?_;refine qR 2 rfl Au rfl rfl aT aT hv (fun r cg hΦ _=>?_);obtain ⟨rfl,rfl,_⟩:=hΦ;refine ⟨⟨by simp [maxLen],by simp⟩,?_⟩;exact ⟨.cj [],[bp _,fD (m + 1),Gn va ⟨s,a⟩ (q6 1 a2 s2),[.loc 1 0],[.loc 2 0]],aT,aT,rfl,rfl,rfl⟩
 ·refine Gh [0,1] (fun i=>Nat.beq i 11) (.op 0 (.op 1 (.op 2 (.op 3 (.op 4 (.op 6 (.ev 5 (.ev 7 (.ev 8 (.op 9 (.op 10 (.ev 11 .fin .stop))) .stop) .stop) (.ev 7 (.ev 5 (.ev 8 (.op 9 (.op 10 (.ev 11 .fin .stop))) .stop) .stop) .stop)))))))) mo (by decide +kernel) ?_;refine ⟨?_,⟨?_,trivial⟩⟩
  ·refine qR 2 rfl Au rfl rfl aT aT hv (fun r cg hΦ _=>?_);obtain ⟨rfl,rfl,_⟩:=hΦ;refine ⟨?_,trivial⟩;refine (Gf [.int .i64 0,.int .i64 0,.int .i64 0,.string ⟨#[]⟩,.slice none 0 0,.slice none 0 0] rfl rfl rfl rfl rfl rfl).d rfl rfl ?_;refine ⟨?_,trivial⟩;refine ⟨⟨by simp,by simp [maxLen],by simp⟩,fun cap vA=>?_⟩;refine ⟨?_,trivial⟩;refine ⟨⟨by simp,by simp⟩,?_⟩;refine ⟨by simp [vL],?_⟩;refine ⟨.cj [],[bp _,fD (m + 1),Gn va ⟨s,a⟩ (q6 1 a2 s2),[.loc 1 0],[.loc 2 0]],aT,?_,rfl,rfl,rfl⟩;refine ⟨_,_,rfl,aT,_,_,rfl,aT,_,_,rfl,?_,_,_,rfl,aT,_,_,rfl,aT,rfl⟩;refine ⟨_,_,rfl,rfl,_,_,rfl,rfl,_,_,rfl,rfl,_,_,rfl,rfl,_,_,rfl,.inr (.inl ⟨_,rfl⟩),_,_,rfl,?_,rfl⟩;exact J1 a2 s2 _ rfl (nL rfl)
  ·refine (Gf [.int .i64 0,.int .i64 0,.int .i64 0,.string ⟨#[]⟩,.slice none 0 0,.slice none 0 0] rfl rfl rfl rfl rfl rfl).d rfl rfl ?_;refine ⟨?_,trivial⟩;refine qR 2 rfl Au rfl rfl aT aT hv (fun r cg hΦ _=>?_);obtain ⟨rfl,rfl,_⟩:=hΦ;refine ⟨?_,trivial⟩;refine ⟨⟨by simp,by simp [maxLen],by simp⟩,fun cap vA=>?_⟩;refine ⟨?_,trivial⟩;refine ⟨⟨by simp,by simp⟩,?_⟩;refine ⟨by simp [vL],?_⟩;refine ⟨.cj [],[bp _,fD (m + 1),Gn va ⟨s,a⟩ (q6 1 a2 s2),[.loc 1 0],[.loc 2 0]],aT,?_,rfl,rfl,rfl⟩;refine ⟨_,_,rfl,aT,_,_,rfl,aT,_,_,rfl,?_,_,_,rfl,aT,_,_,rfl,aT,rfl⟩;refine ⟨_,_,rfl,rfl,_,_,rfl,rfl,_,_,rfl,rfl,_,_,rfl,rfl,_,_,rfl,.inr (.inl ⟨_,rfl⟩),_,_,rfl,?_,rfl⟩;exact J1 a2 s2 _ rfl (nL rfl)
end Go.Proofs.YtfdedoiiahbnnaaGreat
namespace Go.Proofs.YtfdedoiiahbnnaaGreat
namespace Dv
open Go Go.RowKit
mutual
def sbD (n:Nat):DV->DV
 | .agg l=>.agg (sbL n l)
 | .cj l=>.cj (sbL n l)
 | .loc i o=>.loc (n + i) o
 | .el i o=>.el (n + i) o
 | .ms i e o l c=>.ms (n + i) e o l c
 | .fn f a b=>.fn f (sbL n a) (sbL n b)
 | .lF t x=>.lF t (sbD n x)
 | .sl e es tk=>.sl e es (match tk with | some _=>none | none=>none)
 | .v x=>.v x
 | .ud=>.ud
 | .pt cs o=>.pt cs o
def sbL (n:Nat):List DV->List DV
 | []=>[]
 | d :: r=>sbD n d :: sbL n r
end
mutual
theorem nI {n:Nat} {E2 E:En} (hc:E.c=E2.c) (hβ:∀ (i:Nat) b,E2.β[i]? = some b->E.β[n + i]? = some b):∀ {d:DV} {v:Value},Rv E2 d v->Rv E (sbD n d) v
 | .v x,v,h=>by simpa only [Rv,sbD] using h
 | .ud,v,h=>by simpa only [Rv,sbD] using h
 | .agg l,v,h=>by
  simp only [Rv,sbD] at h ⊢;obtain ⟨vs,h1,h2,h3⟩:=h;exact ⟨vs,h1,iC hc hβ h2,h3⟩
 | .cj l,v,h=>by
  simp only [Rv,sbD] at h ⊢;obtain ⟨vs,h1,h2⟩:=h;exact ⟨vs,h1,iC hc hβ h2⟩
 | .sl e es tk,v,h=>by
  have he:E.cl=E2.cl:=by simp [En.cl,hc]
  simp only [Rv,sbD] at h ⊢;obtain ⟨b,m,cap,h1,h2,h3,h4⟩:=h;refine ⟨b,m,cap,h1,h2,fun hn=>⟨(h3 hn).1,by rw [he];exact (h3 hn).2⟩,?_⟩;intro k hk;cases tk<;>cases hk
 | .pt cs off,v,h=>by
  have he:E.cl=E2.cl:=by simp [En.cl,hc]
  simp only [Rv,sbD] at h ⊢;rw [he];exact h
 | .loc i off,v,h=>by
  simp only [Rv,sbD] at h ⊢;obtain ⟨b,h1,h2⟩:=h;exact ⟨b,hβ i b h1,h2⟩
 | .el i off,v,h=>by
  simp only [Rv,sbD] at h ⊢;obtain ⟨b,h1,h2⟩:=h;exact ⟨b,hβ i b h1,h2⟩
 | .ms i e off len cap,v,h=>by
  simp only [Rv,sbD] at h ⊢;obtain ⟨b,a,h1,h2⟩:=h;exact ⟨b,a,hβ i b h1,h2⟩
 | .fn f a b,v,h=>by
  simp only [Rv,sbD] at h ⊢;obtain ⟨l,r,h1,h2,h3⟩:=h;exact ⟨l,r,h1,iC hc hβ h2,iC hc hβ h3⟩
 | .lF t x,v,h=>by
  simp only [Rv,sbD] at h ⊢;obtain ⟨z,h1,h2⟩:=h;exact ⟨z,h1,nI hc hβ h2⟩
theorem iC {n:Nat} {E2 E:En} (hc:E.c=E2.c) (hβ:∀ (i:Nat) b,E2.β[i]? = some b->E.β[n + i]? = some b):∀ {l:List DV} {vs:List Value},RvL E2 l vs->RvL E (sbL n l) vs
 | [],vs,h=>by simpa only [RvL,sbL] using h
 | d :: r,vs,h=>by
  simp only [RvL,sbL] at h ⊢;obtain ⟨v,s,h1,h2,h3⟩:=h;exact ⟨v,s,h1,nI hc hβ h2,iC hc hβ h3⟩
end
def UA (P:Program) (f:FuncId) (args:List DV) (Φ:DV->List (List DV)->Prop):Prop:=
 ∀ (E:En) (w:World) (vs:List Value),Env E [] w->E.tk=[]->RvL E args vs->Calls P f vs.toArray w fun e w'=>∃ v,e = .returned v/\lG E.S w w' /\
  ∃ d os E',Env E' os w' /\ E'.tk=[]/\Nw E E' w/\(∀ cs∈os,clB.clL 0 0 cs=true)/\Rv E' d v/\Φ d os
section
variable {X:Ctx} {st:St} {k:List It} {E:En} {a:Act} {w:World}
theorem zO (h:Rel X E st a w) (bo:X.still=false) {E2:En} {os:List (List DV)} {w':World} (hm:lG (E.cl).S w w') (he:Env E2 os w') (hn:Nw E.cl E2 w) (cC:∀ cs∈os,clB.clL 0 0 cs=true) (hbt:X.bt=[]) :
  Rel X ⟨E2.c,E.β ++ E2.β,E.tk,E.τ⟩ ⟨st.sl,st.bx ++ os,st.tk⟩ a w' /\ Ext E ⟨E2.c,E.β ++ E2.β,E.tk,E.τ⟩:=by
 have hh:∀ i,i < w.heap.size->w'.heap[i]? = w.heap[i]?:=fun i hi=>hm.block i hi (by
  rintro (h1 | ⟨y,h1,_⟩)
  ·simp [En.cl] at h1
  ·simp [En.cl] at h1)
 have cm:∀ x v,E2.c x=some v->E.c x=some v∨w.heap.size<=x.block:=fun x v hx=>by
  rcases hn.cn x v hx with h1 | h1 | ⟨y,h1,_⟩
  ·exact .inl h1
  ·exact .inr h1
  ·simp [En.cl] at h1
 have kR:∀ b∈E2.β,w.heap.size<=b:=by
  obtain ⟨r,hr,ly⟩:=hn.β;simp only [En.cl,List.nil_append] at hr;rw [hr];exact ly
 have hx:Ext E ⟨E2.c,E.β ++ E2.β,E.tk,E.τ⟩:=⟨hn.c,fun i b hb=>by
  show (E.β ++ E2.β)[i]? = _;rw [c9 (gS hb).1]
  exact hb,fun _ q h=>⟨q,h,.inl ⟨rfl,rfl⟩⟩⟩
 have hk:=h.env.fX hh;refine ⟨bU h hx ?_ h.tk ?_ (h.fr.bF hm.os hm.tape hm.output hm.size fun i hi=>.inr (hh i hi)) (kF bo) (.nil hbt),hx⟩
 ·exact {
   len:=by
    show (E.β ++ E2.β).length=(st.bx ++ os).length;rw [List.length_append,List.length_append,h.env.len,he.len]
   tl:=h.env.tl
   cM:=fun i cs hi=>by
    rw [List.getElem?_append] at hi;split at hi
    ·obtain ⟨b,ty,arr,hb,hw,hc⟩:=hk.cM i cs hi;exact ⟨b,ty,arr,hx.β i b hb,hw,hc.mono hx⟩
    ·rename_i bO;obtain ⟨b,ty,arr,hb,hw,hc⟩:=he.cM _ cs hi;refine ⟨b,ty,arr,?_,hw,⟨RvL.mono (E:=E2.cut 0 0) ⟨fun _ _ h=>h,fun i b hb=>by simp [En.cut] at hb,fun k q hq=>by simp [En.cut] at hq⟩ (RvL.cut hc.1 (cC cs (mG hi))),hc.2⟩⟩;show (E.β ++ E2.β)[i]? = _;rw [List.getElem?_append_right (by rw [h.env.len];omega),h.env.len];exact hb
   inj:=by
    show (E.β ++ E2.β).Nodup;rw [List.nodup_append];refine ⟨h.env.inj,he.inj,fun x hx1 y re Dg=>?_⟩;have:=h.env.aN hx1;have:=kR y re;omega
   sub:=he.sub
   pc:=fun x v hc iE=>by
    rcases List.mem_append.1 iE with iE | iE
    ·rcases cm x v hc with h1 | h1
     ·exact h.env.pc x v h1 iE
     ·have:=h.env.aN iE;omega
    ·exact he.pc x v hc iE
   bN:=fun k q y hq hy=>by
    rcases hk.bN k q y hq hy with h1 | ⟨g',cap,cur,rfl,h1,h2,h3,h4,h5,h6⟩
    ·exact .inl h1
    ·have hg:=(e7 (h.env.bN k q _ hq hy) (g:=g') rfl).1;refine .inr ⟨g',cap,cur,rfl,h1,⟨h2.1,h2.2.mono hn.c⟩,h3,h4,fun iE=>?_,fun x v hc om=>?_⟩
     ·rcases List.mem_append.1 iE with iE | iE
      ·exact h5 iE
      ·have:=kR g' iE;omega
     ·rcases cm x v hc with h7 | h7
      ·exact h6 x v h7 om
      ·omega
   fH:=h.env.fH }
 ·exact {
   c:=fun x v hc=>hn.c x v (h.nw.c x v hc)
   cn:=fun x v hc=>by
    rcases cm x v hc with h1 | h1
    ·exact h.nw.cn x v h1
    ·have:=h.fr.size;exact .inr (.inl (by omega))
   β:=by
    obtain ⟨r,hr,ly⟩:=h.nw.β;refine ⟨r ++ E2.β,by show E.β ++ E2.β=_;rw [hr,List.append_assoc],fun b hb=>?_⟩;rcases List.mem_append.1 hb with hb | hb
    ·exact ly b hb
    ·exact Nat.le_trans h.fr.size (kR b hb)
   tk:=h.nw.tk
   tn:=h.nw.tn
   l0:=h.nw.l0 }
theorem LU {f:FuncId} {args aV:List DV} {d:Nat} (gV:Enters X.P f) (hd:dF X.nt st.sl (some d)=true) {Φ:DV->List (List DV)->Prop} (hc:UA X.P f aV Φ) (ha:CcL [] 0 0 0 aV args)
  (hk:∀ r os,Φ r os->go X 4000 k ⟨(d,⟨[],sbD st.bx.length r⟩) :: st.sl,st.bx ++ os,st.tk⟩) (hbt:X.bt=[]:=by exact rfl) (bo:X.still=false:=by exact rfl):CallG X f args (some d) k st:=by
 refine ⟨gV,bo,fun E a w vs h hv=>?_⟩;have J4:RvL E.cl aV vs:=CcL.sound (E:=E) (E':=E.cl) ⟨fun _ _ h=>h,fun i cs _ hi=>by simp at hi⟩ (Al.zero _ _) ha hv;refine (hc E.cl w vs (yq h.env) rfl J4).mono ?_;rintro e w' ⟨v,rfl,hm,r,os,E2,he,_,hn,cC,hr,hΦ⟩;obtain ⟨ba,hx⟩:=zO h bo hm he hn cC hbt;refine go_sound 4000 _ _ (hk r os hΦ) _ _ w' (aO ba hd _ v (nI (E2:=E2) (E:=⟨E2.c,E.β ++ E2.β,E.tk,E.τ⟩) (n:=st.bx.length) rfl (fun i b hb=>?_) hr));show (E.β ++ E2.β)[_]? = _;rw [List.getElem?_append_right (by rw [h.env.len];omega),h.env.len];simpa using hb
theorem CU {c:Code} {Q:Exit->Act->World->Prop} (J:St->Prop) (n:Nat) (h:Rel X E st a w) (hg:go X n [.code c,.mC J] st) (hΦ:∀ d os tk,¬ X.Φ d os tk) (hp:∀ aJ E' a' w',Rel X E' aJ a' w' -> J aJ -> Q .normal a' w'):c.wp X.P Q a w:=by
 refine wp_mono (go_sound n _ _ hg E a w h) ?_;intro e a w hk
 cases e with
 | normal=>obtain ⟨aJ,E',h1,h2⟩:=hk;exact hp _ _ _ _ h1 h2
 | ret=>obtain ⟨_,v,_,⟨_,_,d,os,E2,_,_,_,_,_,h⟩,_⟩:=hk;exact (hΦ _ _ _ h).elim
 | exit _=>exact hk.elim
 | goto _=>exact hk.elim
 | panic _=>exact hk.elim
 | outgrown=>exact hk.elim
theorem IE (h:Rel X E st a w) {d e:DV} (hr:resD X.T st X.rs=some [d,e]) {post:Ending->World->Prop} (hp:∀ v,Rv E (.cj [d,e]) v->post (.returned v) w):bodyPost X.P X.fn post .ret a w:=by
 have u5:X.fn.results=X.rs.toArray:=by rw [<- X.rP]
 obtain ⟨vs,pe,h1⟩:=gx h hr;have hl:=pe.length;have aY:¬ vs.toArray.size=1:=by simp at hl ⊢;omega
 have h2:(results X.fn a.tmps).run X.P w = .ok (if h:vs.toArray.size=1 then vs.toArray[0] else .tuple vs.toArray) w:=by
  rw [po,u5]
  simp_all
 rw [dif_neg aY] at h2;exact ⟨h.df,_,h2,hp _ (by unfold Rv;exact ⟨vs,rfl,pe⟩)⟩
theorem Gp {bx:List (List DV)} (h:Env E bx w) {i b:Nat} {cs:List DV} (hi:bx[i]? = some cs) (hb:E.β[i]? = some b) (cC:clB.clL 0 0 cs=true):Env ⟨E.c,[b],[],[]⟩ [cs] w where
 len:=rfl
 tl:=rfl
 cM:=fun j cs' hj=>by
  cases j with
  | succ j=>simp at hj
  | zero=>
   simp only [List.getElem?_cons_zero,oI] at hj;subst hj;obtain ⟨b',ty,arr,ee,hw,hc⟩:=h.cM i cs hi;rw [hb] at ee;cases ee;exact ⟨b,ty,arr,rfl,hw,⟨RvL.mono (E:=E.cut 0 0) ⟨fun _ _ h=>h,fun i b hb=>by simp [En.cut] at hb,fun k q hq=>by simp [En.cut] at hq⟩ (RvL.cut hc.1 cC),hc.2⟩⟩
 inj:=by simp
 sub:=h.sub
 pc:=fun x v hc hm=>by
  simp only [List.mem_singleton] at hm;exact h.pc x v hc (hm ▸ mG hb)
 bN:=fun k q y hq=>by simp at hq
 fH:=fun k k' y y' g _ hy=>by simp at hy
end
end Dv
end Go.Proofs.YtfdedoiiahbnnaaGreat
set_option maxRecDepth 100000
namespace Go.Proofs.YtfdedoiiahbnnaaGreat
open Go Go.RowKit Go.Lib Dv Go.Proofs.Tryz
abbrev Gq (l:List oD):bA:=⟨l,0,0,0,0⟩
set_option maxHeartbeats 4000000 in
theorem LV (s:ByteArray) (l:List oD) (GG:bh prog 157 [.v (.string s)] (.cj [.sl 5 (fT l) none,Ft.d (0,0)])) :
  UA prog 85 [.v (.string s)] (fun r os=>r = .cj [.loc 0 0,Ft.d (0,0)]/\os=[bp (Gq l)]):=by
 intro E w vs hE oo hv;simp only [RvL] at hv;obtain ⟨v1,s1,rfl,h1,rfl⟩:=hv;have h1:=aZ h1;subst h1;have PH:=yq hE;obtain ⟨c,β,tk,τ⟩:=E;change Env ⟨c,[],[],[]⟩ [] w at PH;have mixed:=mo;obtain ⟨w1,hw1⟩:∃ w1,w1=w.alloc (.cells #[.int .i64 0,.int .i64 0] 26 (0,0)):=⟨_,rfl⟩;have gL:∀ k,k < w.heap.size->w1.heap[k]? = w.heap[k]?:=fun k hk=>by rw [hw1];exact Below.heap_alloc _ _ _ hk
 have mR:w1.heap[w.heap.size]? = some (.cells #[.int .i64 0,.int .i64 0] 26 (0,0)):=by rw [hw1];exact Array.getElem?_push_size
 have KN:=PH.fX gL;have jJ:=GG _ w1 [.string s] KN rfl (by simp only [RvL];exact ⟨_,_,rfl,dq rfl,rfl⟩)
 go_enter func85,ntmps85
 go_wp2_with (go_at_call 157;rw [<- hw1];refine jJ.mono ?_)
 have SP:=Lib.hid hw1;clear hw1;intro e w2 v2 he wP;subst he;rw [<- SP.out] at wP;obtain ⟨vv,_,d2,os2,E2,Qg,hβ2,yY,Ki,Da,rfl⟩:=wP;unfold Rv at Da;obtain ⟨vs,rfl,pe⟩:=Da;simp only [RvL] at pe;obtain ⟨x1,r1,rfl,hx1,x2,r2,rfl,BK,rfl⟩:=pe;unfold Ft.d Rv at BK;obtain ⟨vs2,rfl,H2,_⟩:=BK;simp only [RvL] at H2;obtain ⟨y1,r3,rfl,re,y2,r4,rfl,iL,rfl⟩:=H2;obtain rfl:=aZ re;obtain rfl:=aZ iL;have Pf:=hx1;unfold Rv at hx1;obtain ⟨bs,n,cap,rfl,⟨ox,_⟩,_,_⟩:=hx1;obtain rfl:n=(fT l).length:=ox;generalize (fT l).length=n at Pf
 go_wp2
 obtain ⟨w3,G3⟩:∃ w3,w3=w2.alloc (.cells #[.int .i64 0,.int .i64 0] 26 (0,0)):=⟨_,rfl⟩;have hz1:w1.heap.size=w.heap.size + 1:=by rw [SP.out];simp
 have Uc:w1.heap.size<=w2.heap.size:=vv.size;have hz3:w3.heap.size=w2.heap.size + 1:=by rw [G3];simp
 have hb5:w3.heap[w2.heap.size]? = some (.cells #[.int .i64 0,.int .i64 0] 26 (0,0)):=by rw [G3];exact Array.getElem?_push_size
 have GI:w3.heap[w.heap.size]? = some (.cells #[.int .i64 0,.int .i64 0] 26 (0,0)):=by
  rw [G3,Below.heap_alloc _ _ _ (by omega),vv.block _ (by omega) (by
   rintro (h1 | ⟨y,h1,_⟩)
   ·simp at h1
   ·simp at h1)]
  exact mR
 rw [<- G3];have UB:=Lib.hid G3;clear G3;rename_i K hK
 have KG:∀ x v,E2.c x=some v->x.block < w.heap.size∨(w1.heap.size<=x.block/\x.block < w2.heap.size):=fun x v hx=>by
  rcases Ki.cn x v hx with h1 | h1 | ⟨y,h1,_⟩
  ·exact .inl (World.block_lt_of_cell? w x (PH.sub x v h1))
  ·exact .inr ⟨h1,World.block_lt_of_cell? w2 x (Qg.sub x v hx)⟩
  ·simp at h1
 have UC:∀ k,k < w2.heap.size->w3.heap[k]? = w2.heap[k]?:=fun k hk=>by rw [UB.out];exact Below.heap_alloc _ _ _ hk
 have UD:Env ⟨E2.c,[w.heap.size,w2.heap.size],[],[]⟩ [J0,J0] w3:={
  len:=rfl
  tl:=rfl
  cM:=fun i cs hi=>by
   match i,hi with
   | 0,hi=>
    cases hi;exact ⟨_,_,[.int .i64 0,.int .i64 0],rfl,GI,by simp only [RvL];exact ⟨_,_,rfl,⟨rfl,rfl⟩,_,_,rfl,⟨rfl,rfl⟩,rfl⟩,by intro v hv;simp at hv;subst hv;rfl⟩
   | 1,hi=>
    cases hi;exact ⟨_,_,[.int .i64 0,.int .i64 0],rfl,hb5,by simp only [RvL];exact ⟨_,_,rfl,⟨rfl,rfl⟩,_,_,rfl,⟨rfl,rfl⟩,rfl⟩,by intro v hv;simp at hv;subst hv;rfl⟩
   | i + 2,hi=>simp at hi
  inj:=by simp;omega
  sub:=(Qg.fX UC).sub
  pc:=fun x v hx hm=>by
   simp only [List.mem_cons,List.not_mem_nil,or_false] at hm;have:=KG x v hx;omega
  bN:=fun k q y hq=>by simp at hq
  fH:=fun k k' y y' g _ hy=>by simp at hy }
 have Qt:E2.tk=[]:=List.eq_nil_of_length_eq_zero yY;have hx4:Rv ⟨E2.c,[w.heap.size,w2.heap.size],[],[]⟩ (.sl 5 (fT l) none) (.slice bs n cap):=Pf.mono (E:=E2) ⟨fun _ _ h=>h,fun i b hb=>by rw [hβ2] at hb;simp at hb,fun k q hq=>by rw [Qt] at hq;simp at hq⟩
 refine CU (X:=⟨prog,tt,si,Tryz.f85,19,[.tmp 2,.cell 3 26],rfl,w3,⟨E2.c,[w.heap.size,w2.heap.size],[],[]⟩,2,0,rfl,rfl,false,fun _ _ _=>False,[],[],false⟩)
  (E:=⟨E2.c,[w.heap.size,w2.heap.size],[],[]⟩) (st:=⟨[(2,⟨[],.v (.pointer none)⟩),aS 3 0,dJ 4 5 (fT l),aS 5 1],[J0,J0],[]⟩)
  (fun aJ=>resD tt aJ [.tmp 2,.cell 3 26]=some [.loc 2 0,Ft.d (0,0)]/\aJ.bx=[J0,J0,bp (Gq l)]) 4000
  {env:=UD
   tk:=rfl
   sz:=rfl
   tm:=by
    intro i x hx;simp only [bT] at hx;split at hx
    ·rename_i e;cases hx;subst e;exact ⟨fun _=>⟨_,rfl,rfl,rfl⟩,fun hn=>(hn (aG _)).elim⟩
    split at hx
    ·rename_i e;cases hx;subst e;exact ⟨fun _=>⟨_,rfl,w.heap.size,rfl,rfl⟩,fun hn=>(hn (aG _)).elim⟩
    split at hx
    ·rename_i e;cases hx;subst e;exact ⟨fun _=>⟨_,rfl,hx4⟩,fun hn=>(hn (aG _)).elim⟩
    split at hx
    ·rename_i e;cases hx;subst e;exact ⟨fun _=>⟨_,rfl,w2.heap.size,rfl,rfl⟩,fun hn=>(hn (aG _)).elim⟩
    ·cases hx
   df:=rfl
   nw:=Nw.refl UD
   fr:=⟨rfl,rfl,rfl,bd _,fun _ _ _=>rfl⟩
   sh:=fun h=>by cases h
   bt:=fun p hp=>by cases hp } ?_ (fun _ _ _ h=>h) ?_
 ·refine cy [0] (fun _=>false) mo (by decide +kernel) ?_;exact ⟨rfl,rfl⟩
 ·intro aJ E' a' w' ba ⟨yo,nO⟩;have hβ':=ba.nw.β;obtain ⟨r,hr,ly⟩:=hβ';have hr:E'.β=[w.heap.size,w2.heap.size] ++ r:=hr;have hlen:=ba.env.len;rw [hr,nO] at hlen
  match r,hlen with
  | [b],_=>
   have hb:E'.β[2]? = some b:=by rw [hr];all_goals rfl
   have An:w3.heap.size<=b:=ly b (by simp);have Pg:=Gp (i:=2) (cs:=bp (Gq l)) ba.env (by rw [nO];rfl) hb rfl
   have hold:∀ k,k < w.heap.size->w'.heap[k]? = w.heap[k]?:=fun k hk=>by
    rw [ba.fr.block k (by show k < w3.heap.size;omega) (by
     rintro (h1 | ⟨y,h1,_⟩)
     ·simp only [List.mem_cons,List.not_mem_nil,or_false] at h1;omega
     ·simp at h1),UC k (by omega),vv.block k (by omega) (by
     rintro (h1 | ⟨y,h1,_⟩)
     ·simp at h1
     ·simp at h1),gL k hk]
   refine hK a' w' (wp_ret ?_);refine IE ba yo fun v hv=>?_;have h1:=ba.fr;have q1:w1.os=w.os/\w1.tape=w.tape/\w1.output=w.output:=by rw [SP.out];exact ⟨rfl,rfl,rfl⟩
   have q3:w3.os=w2.os/\w3.tape=w2.tape/\w3.output=w2.output:=by rw [UB.out];exact ⟨rfl,rfl,rfl⟩
   have hz4:w3.heap.size<=w'.heap.size:=h1.size;refine ⟨v,rfl,⟨?_,?_,?_,by omega,fun k hk _=>hold k hk⟩,_,_,_,Pg,rfl,?_,?_,?_,rfl,rfl⟩
   ·rw [show w'.os=w3.os from h1.os,q3.1,vv.os,q1.1]
   ·rw [show w'.tape=w3.tape from h1.tape,q3.2.1,vv.tape,q1.2.1]
   ·rw [show w'.output=w3.output from h1.output,q3.2.2,vv.output,q1.2.2]
   ·have eβ:β=[]:=List.eq_nil_of_length_eq_zero hE.len;have eτ:τ=[]:=List.eq_nil_of_length_eq_zero (by have:=hE.tl;rw [this,oo];rfl);have etk:tk=[]:=oo;subst eβ eτ etk
    exact {
     c:=fun x v hx=>ba.nw.c x v (Ki.c x v hx)
     cn:=fun x v hx=>by
      rcases ba.nw.cn x v hx with h2 | h2 | ⟨y,h2,_⟩
      ·rcases Ki.cn x v h2 with h3 | h3 | ⟨y,h3,_⟩
       ·exact .inl h3
       ·exact .inr (.inl (by omega))
       ·simp at h3
      ·exact .inr (.inl (by have:w3.heap.size<=x.block:=h2;omega))
      ·simp at h2
     β:=⟨[b],rfl,fun x hx=>by
      simp only [List.mem_singleton] at hx;subst hx
      omega⟩
     tk:=fun k q y hq=>by simp at hq
     tn:=fun k y g _ hy=>by simp at hy
     l0:=rfl }
   ·intro cs bP;simp only [List.mem_singleton] at bP;subst bP;rfl
   ·unfold Rv at hv ⊢;obtain ⟨vs,h2,h3⟩:=hv;refine ⟨vs,h2,?_⟩;simp only [RvL] at h3 ⊢;obtain ⟨a1,s1,rfl,h4,a2,s2,rfl,h5,rfl⟩:=h3;refine ⟨a1,_,rfl,?_,a2,_,rfl,?_,rfl⟩
    ·unfold Rv at h4 ⊢;obtain ⟨b',h6,h7⟩:=h4;rw [hb] at h6;cases h6;exact ⟨b,rfl,h7⟩
    ·exact Rv.mono (E:=E'.cut 0 0) ⟨fun _ _ h=>h,fun i b hb=>by simp [En.cut] at hb,fun k q hq=>by simp [En.cut] at hq⟩ (Rv.cut h5 rfl)
end Go.Proofs.YtfdedoiiahbnnaaGreat
set_option maxRecDepth 100000
namespace Go.Proofs
open Go.Shelf
def Tryz.lays217_ren:Go.Shelf.Ren:=⟨fun | 217=>353 | 266=>361 | n=>n,fun | 9=>9 | 3=>3 | 5=>5 | n=>n,fun | n=>n⟩
theorem Tryz.lays217:Go.Proofs.Lays.n217 prog Tryz.lays217_ren:={
 mixed:=by kernel_rfl
 f217:=func353.trans (congrArg some (by kernel_rfl))
 f266:=func361.trans (congrArg some (by kernel_rfl))
 t3:=Tryz.underlying3
 a3:=Tryz.isAgg3
 z3:=Tryz.sizeOf3
 v3:=Tryz.zeroValue3
 t5:=Tryz.underlying5
 a5:=Tryz.isAgg5
 z5:=Tryz.sizeOf5
 v5:=Tryz.zeroValue5
 t9:=Tryz.underlying9
 a9:=Tryz.isAgg9
 z9:=Tryz.sizeOf9
 v9:=Tryz.zeroValue9 }
end Go.Proofs
namespace Go.Proofs.YtfdedoiiahbnnaaGreat
open Go Go.RowKit Dv Go.Proofs.Tryz
theorem CV (s:ByteArray) (c:Int):bh prog 353 [.v (.string s),.v (.int .u8 c)] (.v (.int .i64 (Lib.indexByte (tx s) c.toNat.toUInt8))):=by
 refine B0 fun E w vs hE hv=>?_;simp only [RvL] at hv;obtain ⟨v1,s1,rfl,h1,v2,s2,rfl,h2,rfl⟩:=hv;have h1:=aZ h1;have h2:=aZ h2;subst h1 h2;refine (Any.stringslite_IndexByte Tryz.lays217 s c w).mono ?_;rintro e w' ⟨rfl,rfl⟩;exact ⟨_,rfl,dq rfl,Below.refl _ _⟩
theorem Gr (s:ByteArray) (c:Int):bh prog 333 [.v (.string s),.v (.int .u8 c)] (.v (.int .i64 (Lib.indexByte (tx s) c.toNat.toUInt8))):=by
 refine eG 8 [.tmp 4] func333 rfl ntmps333 rfl fun _ _ _ _=>?_;refine cP NM (CV s c) ?_;exact (rfl:_=_)
def zP (s p:ByteArray):Bool:=decide (p.size<=s.size) && decide (s.extract 0 p.size=p)
theorem zQ (s p:ByteArray) (hs:s.size<=4611686018427387904):bh prog 352 [.v (.string s),.v (.string p)] (.v (.bool (zP s p))):=by
 refine eG 18 [.tmp 4] func352 rfl ntmps352 rfl fun _ _ _ _=>?_;refine br ?_ ?_<;>intro g
 ·have g1:p.size<=s.size:=sU g;refine ⟨⟨by omega,by omega,by omega⟩,?_⟩;refine congrArg (fun z=>DV.v (Value.bool z)) ?_;unfold zP;rw [decide_eq_true g1,Bool.true_and];rfl
 ·have g1:¬ p.size<=s.size:=sU g;refine congrArg (fun z=>DV.v (Value.bool z)) ?_;unfold zP;rw [decide_eq_false g1,Bool.false_and]
theorem CW (s p:ByteArray) (hs:s.size<=4611686018427387904):bh prog 332 [.v (.string s),.v (.string p)] (.v (.bool (zP s p))):=by
 refine eG 8 [.tmp 4] func332 rfl ntmps332 rfl fun _ _ _ _=>?_;refine cP NL (zQ s p hs) ?_;exact (rfl:_=_)
end Go.Proofs.YtfdedoiiahbnnaaGreat
set_option maxRecDepth 100000
namespace Go.Proofs.YtfdedoiiahbnnaaGreat
open Go Go.RowKit Dv Go.Proofs.Tryz
def uY (c:Nat):Bool:=decide (c=32) || decide (c=10) || decide (c=9) || decide (c=13)
theorem zR (c:Nat):bh prog 242 [.v (.int .u8 c)] (.v (.bool (uY c))):=by
 refine eG 17 [.tmp 2] func242 rfl ntmps242 rfl fun _ _ _ _=>?_;refine congrArg (fun z=>DV.v (Value.bool z)) ?_;unfold uY;simp only [aF];have e1:decide ((c:Int)=32)=decide (c=32):=decide_eq_decide.2 (by omega);have e2:decide ((c:Int)=10)=decide (c=10):=decide_eq_decide.2 (by omega);have e3:decide ((c:Int)=9)=decide (c=9):=decide_eq_decide.2 (by omega);have e4:decide ((c:Int)=13)=decide (c=13):=decide_eq_decide.2 (by omega);rw [e1,e2,e3,e4]
def uZ:ByteArray:=⟨#[123,125,91,93,40,41,44,58,61,60,62,64,43,35,126,42]⟩
def CY:ByteArray:=⟨#[46,46]⟩
def Bh (s:ByteArray) (i:Nat):ByteArray:=if zP (s.extract i s.size) CY=true then CY else if 0<=Lib.indexByte (tx uZ) (di s i).toUInt8 then s.extract i (i + 1) else ⟨#[]⟩
theorem zS (s:ByteArray) (hs:s.size<=1099511627776) (i:Nat) (hi:i < s.size):bh prog 290 [.v (.string s),.v (.int .i64 i)] (.v (.string (Bh s i))):=by
 have hp:=CW (s.extract i s.size) CY (by simp;omega);have hx:=Gr uZ (di s i:Nat);have hM:Bh s i=if zP (s.extract i s.size) CY=true then CY else if 0<=Lib.indexByte (tx uZ) (di s i).toUInt8 then s.extract i (i + 1) else ⟨#[]⟩:=rfl
 rw [Dl] at hx;generalize Bh s i=M at hM ⊢;generalize zP (s.extract i s.size) CY=B at hp hM;generalize Lib.indexByte (tx uZ) (di s i).toUInt8=I at hx hM
 have hw:IntKind.i64.wrap ((i:Int) + 1)=((i + 1:Nat):Int):=by
  rw [wrap64 (by omega) (by omega)];omega
 refine eG 30 [.tmp 4] func290 rfl ntmps290 rfl fun _ _ _ _=>?_;refine br (fun g=>?_) (fun _=>?_)
 ·exfalso;simp [aF] at g;omega
 refine ⟨⟨by omega,by omega,by omega⟩,?_⟩;refine cP NJ hp ?_
 cases B with
 | true=>
  rw [aj rfl] at hM;rw [hM];exact (rfl:_=_)
 | false=>
  rw [ah (by simp)] at hM;refine ⟨⟨by omega,by omega⟩,?_⟩;refine cP NK hx ?_;refine br ?_ ?_<;>intro g
  ·have g:0<=I:=sU g;rw [aj g] at hM;rw [hM];refine ⟨⟨by omega,by rw [hw];omega,by rw [hw];omega⟩,?_⟩;rw [hw];exact (rfl:_=_)
  ·have g:¬ 0<=I:=sU g;rw [ah g] at hM;rw [hM];exact (rfl:_=_)
abbrev IF (t:oD):DV:=.cj [.agg (oE t),Ft.d (0,0)]
theorem zT (s:ByteArray) (hs:s.size<=1099511627776) (i:Nat) (hi:i < s.size) (e:Nat) (he:i + dK (s.data.toList.drop i)=e) (hn:i < e) (hr:bG (s.extract i e)=true) :
  bh prog 244 [.v (.string s),.v (.int .i64 i)] (IF ⟨1,i,e,s.extract i e,0⟩):=by
 have ht:=nb s i hi (by omega);rw [he] at ht
 have q4:e<=s.size:=by
  have:=pG (s.data.toList.drop i);simp at this;omega
 have UE:=e9 (s.extract i e) (by simp;omega);rw [hr] at UE
 have aY:¬ s.extract i e=⟨#[]⟩:=fun h=>by
  have:=congrArg ByteArray.size h;simp at this;have h2:(ByteArray.mk #[]).size=0:=rfl;omega
 generalize s.extract i e=M at *;refine eG 103 [.cell 4 218,.cell 5 26] func244 rfl ntmps244 rfl fun _ _ _ _=>?_;refine cP Aw ht ?_;refine br (fun _=>?_) (fun g=>absurd (show M=⟨#[]⟩ by simpa using g) aY);refine cP BL UE ?_;exact ⟨_,ax,rfl⟩
theorem lx (s:ByteArray) (hs:s.size<=1099511627776) (i:Nat) (hi:i < s.size) (hn:dK (s.data.toList.drop i)=0) (M:ByteArray) (hM:Bh s i=M) (aY:¬ M=⟨#[]⟩) (cf:M.size<=2) :
  bh prog 244 [.v (.string s),.v (.int .i64 i)] (IF ⟨4,i,(i + M.size:Nat),M,0⟩):=by
 have ht:=nb s i hi (by omega);rw [hn,lZ] at ht;have hm:=zS s hs i hi;rw [hM] at hm
 have hw:IntKind.i64.wrap ((i:Int) + M.size)=((i + M.size:Nat):Int):=by
  rw [wrap64 (by omega) (by omega)];omega
 have hX:=congrArg (fun z=>DV.v (Value.int .i64 z)) hw;refine eG 103 [.cell 4 218,.cell 5 26] func244 rfl ntmps244 rfl fun _ _ _ _=>?_;refine cP Aw ht ?_;refine cP NH hm ?_;refine br (fun _=>?_) (fun g=>absurd (show M=⟨#[]⟩ by simpa using g) aY);exact ⟨_,(by repeat' (first | exact rfl | exact trivial | exact Or.inr (Or.inl ⟨_,rfl⟩) | exact Or.inr ⟨_,rfl⟩ | exact Or.inl ⟨rfl,rfl⟩ | exact Or.inl rfl | refine Or.inr ⟨_,_,rfl,Nat.zero_le _,rfl,?_⟩ | refine ⟨_,_,rfl,?_,?_⟩ | refine ⟨_,rfl,?_⟩ | exact hX | refine Or.inr (Or.inr (Or.inr ⟨_,_,rfl,?_⟩)) | exact Or.inl rfl | refine Or.inr ?_)),rfl⟩
inductive j5 (s:ByteArray):Nat->List oD->Prop
 | nil:j5 s s.size []
 | blank {i:Nat} {l:List oD}:i < s.size->uY (di s i)=true->j5 s (i + 1) l->j5 s i l
 | tok {i e:Nat} {t:oD} {l:List oD}:i < s.size->uY (di s i)=false->di s i≠59->bh prog 244 [.v (.string s),.v (.int .i64 i)] (IF t)->t.e=e->i < e->e<=s.size->j5 s e l->j5 s i (t :: l)
abbrev Pj (s:ByteArray) (L:List oD) (q cF:Nat):St:=⟨[(0,⟨[],.v (.string s)⟩),(2,⟨[],.v (.slice none 0 0)⟩),aS 3 0,(4,⟨[],.sl 5 (fT L) (some 0)⟩),aS 5 1,aA 6 cF],[J0,J0],[⟨q,218,5,none⟩]⟩
theorem CZ (s:ByteArray) (hs:s.size<=65536) (l:List oD) (hl:j5 s 0 l):bh prog 157 [.v (.string s)] (.cj [.sl 5 (fT (l ++ [lv s.size])) none,Ft.d (0,0)]):=by
 refine eG 63 [.tmp 2,.cell 3 26] func157 rfl ntmps157 rfl fun _ _ _ _=>?_;refine br (fun g=>absurd (show 65536 < s.size by have:=of_decide_eq_true g;omega) (by omega)) (fun _=>?_);refine lI (fun j st=>∃ (i q:Nat) (L r:List oD),st=Pj s L q i/\q=L.length/\j5 s i r/\L ++ r=l/\L.length<=i/\i<=s.size/\j=s.size - i) ⟨0,0,[],l,rfl,rfl,hl,rfl,by simp,by omega,rfl⟩ (fj 2 ⟨0,218,5,none⟩ rfl rfl rfl BC rfl rfl tU) ?_;rintro j st ⟨i,q,L,r,rfl,hq,hr,Qh,hLi,NS,rfl⟩;refine br (fun av=>?_) (fun bO=>?_)
 ·have av:i < s.size:=sU av;have hb:=zR (di s i);refine ⟨⟨by omega,by omega⟩,?_⟩
  cases hr with
  | nil=>omega
  | blank _ h1 h2=>
   rw [h1] at hb;refine cP Ji hb ?_;exact ⟨Pj s L q (i + 1),(jy 2 (GK (bV av (by omega))) (iG (bV av (by omega)))),s.size - (i + 1),by omega,i + 1,q,L,_,rfl,hq,h2,Qh,by omega,by omega,rfl⟩
  | @tok _ e t l' _ h1 h2 h3 h4 h5 h6 h7=>
   rw [h1] at hb;refine cP Ji hb ?_;refine ⟨⟨by omega,by omega⟩,?_⟩;refine br (fun g=>absurd (show di s i=59 by have:=of_decide_eq_true g;rw [Dl] at this;omega) h2) (fun _=>?_);obtain ⟨tk,ta,te,ts,tn⟩:=t;simp only at h4;subst h4;refine cP Nx h3 ?_;refine ⟨(fh L).trans hq.symm,⟨by simp [maxLen,fh];omega,by simp [fh];omega⟩,?_⟩;exact rE ⟨_,by omega,e,q + 1,L ++ [⟨tk,ta,e,ts,tn⟩],l',rfl,by simp [hq],h7,by simpa using Qh,by simp;omega,h6,rfl⟩ (jy 2 (GK (lu L ⟨tk,ta,e,ts,tn⟩)) (iG (lu L ⟨tk,ta,e,ts,tn⟩)))
 ·have bO:s.size=i:=by
   have:=of_decide_eq_false bO;omega
  subst bO
  cases hr with
  | nil=>
   rw [List.append_nil] at Qh;subst Qh;refine cy [0] (fun _=>false) mo (by decide +kernel) ?_;refine ⟨(fh L).trans hq.symm,⟨by simp [maxLen,fh];omega,by simp [fh];omega⟩,?_⟩;rw [<- lu];exact ⟨_,ax,rfl⟩
  | blank h=>exact absurd h (Nat.lt_irrefl _)
  | tok h=>exact absurd h (Nat.lt_irrefl _)
abbrev Pk:ByteArray:=⟨#[123]⟩
abbrev C0:ByteArray:=⟨#[125]⟩
theorem Pm {c:bA} {k:Int} {s:ByteArray} (h:c.is k s=true) (hk:k≠0):¬ c.bY.k=0:=by
 simp only [bA.is,aP,decide_eq_true_eq] at h;omega
theorem oS {c:bA} {k:Int} {s:ByteArray} (h:c.is k s=true) (hk:k≠0):c.step={ c with p:=c.p + 1 }:=by rw [bA.step,ah (Pm h hk)]
structure qS (c:bA) (a e n:Int) (s:ByteArray) (a2 e2 n2:Int) (s2:ByteArray):Prop where
 ok:bw c
 f:c.f.1=0
 d:c.d < 24
 key:c.bY=⟨1,a,e,s,n⟩
 UF:bA.is { c with p:=c.p + 1 } 4 CT=true
 v:bA.bY { c with p:=c.p + 2 }=⟨1,a2,e2,s2,n2⟩
 nx:bA.is { c with p:=c.p + 3 } 4 C0=true
theorem qS.UG {c:bA} {a e n:Int} {s:ByteArray} {a2 e2 n2:Int} {s2:ByteArray} (h:qS c a e n s a2 e2 n2 s2):bw { c with p:=c.p + 3 }:=by
 have h1:bw { c with p:=c.p + 1 }:=by
  have:=h.ok.step;rw [bA.step,h.key,ah (by simp)] at this;exact this
 have h2:bw { c with p:=c.p + 2 }:=by
  have:=h1.step;rw [oS h.UF (by decide)] at this;exact this
 have:=h2.step;rw [bA.step,h.v,ah (by simp)] at this;exact this
theorem qS.SQ {c:bA} {a e n:Int} {s:ByteArray} {a2 e2 n2:Int} {s2:ByteArray} (h:qS c a e n s a2 e2 n2 s2):bA.is { c with p:=c.p + 3 } 4 ⟨#[40]⟩=false:=by
 have:=h.nx;simp only [bA.is,aP,decide_eq_true_eq] at this;rw [bA.is,this.2];simp
abbrev Pn (c:bA) (m:Nat) (va:Int):St:=⟨[aS 0 1,(1,⟨[],.v (.string C0)⟩),(2,⟨[],.fn 282 [] [.loc 3 0,.loc 4 0]⟩)],[bp c,fD m,q6 5 va ⟨#[]⟩,[.loc 1 0],[.loc 2 0]],[]⟩
theorem Gs {c:bA} {a e n:Int} {s:ByteArray} {a2 e2 n2:Int} {s2:ByteArray} (h:qS c a e n s a2 e2 n2 s2) (m:Nat) (hm:m < 4096) (va:Int) :
  Ev prog 281 [.loc 1 0,.v (.string C0),.fn 282 [] [.loc 3 0,.loc 4 0]] [bp c,fD m,q6 5 va ⟨#[]⟩,[.loc 1 0],[.loc 2 0]] []
   (fun r os tk=>r = .cj []/\os=[bp { c with p:=c.p + 4 },fD (m + 1),Gn va ⟨s,a⟩ (q6 1 a2 s2),[.loc 1 0],[.loc 2 0]]/\tk=[]):=by
 have h1:=uW h.ok (s:=C0) (by rw [bA.is,h.key];simp);have h2:=qQ c;have h3:=ID c h.ok h.d a e n s h.key h.UF a2 e2 n2 s2 h.v m hm h.SQ va;have h4:=xQ h.UG h.nx;rw [oS h.nx (by decide)] at h4;have hf:=h.f;obtain ⟨l,p,d,f1,f2⟩:=c;simp only at hf;subst hf;refine eG 32 [] func281 rfl ntmps281 rfl fun _ _ _ _=>?_;refine aC 1 0 nQ rfl rfl rfl aT aT h1 (fun r cg bl hΦ _ _=>?_);obtain ⟨rfl,rfl,rfl⟩:=hΦ;refine lI (fun j st=>st=Pn ⟨l,p,d,0,f2⟩ m va/\j=0) ⟨rfl,rfl⟩ (jy 5 BC tU) ?_;rintro j st ⟨rfl,rfl⟩;refine aC 1 0 D4 rfl rfl rfl aT aT h2 (fun r cg bl hΦ _ _=>?_);obtain ⟨rfl,rfl,rfl⟩:=hΦ;refine aC 5 0 NE rfl rfl rfl aT aT h3 (fun r cg bl hΦ _ _=>?_);obtain ⟨rfl,rfl,rfl⟩:=hΦ;refine aC 1 0 nQ rfl rfl rfl aT aT h4 (fun r cg bl hΦ _ _=>?_);obtain ⟨rfl,rfl,rfl⟩:=hΦ;exact ⟨.cj [],[bp _,fD (m + 1),Gn va ⟨s,a⟩ (q6 1 a2 s2),[.loc 1 0],[.loc 2 0]],aT,aT,rfl,rfl,rfl⟩
theorem zU {c:bA} {a e n:Int} {s:ByteArray} {a2 e2 n2:Int} {s2:ByteArray} (h:qS c a e n s a2 e2 n2 s2) (m:Nat) (hm:m < 4096) (va:Int) :
  Ev prog 221 [.loc 1 0,.loc 2 0] [bp c,fD m,q6 0 va ⟨#[]⟩] []
   (fun r os tk=>r = .cj []/\os=[bp { c with p:=c.p + 4 },fD (m + 1),Gn va ⟨s,a⟩ (q6 1 a2 s2)]/\tk=[]):=by
 have h1:=Gs h m hm va;obtain ⟨l,p,d,f1,f2⟩:=c;refine eG 10 [] func221 rfl ntmps221 rfl fun _ _ _ _=>?_;refine aC 5 0 NC rfl rfl rfl aT aT h1 (fun r cg bl hΦ _ _=>?_);obtain ⟨rfl,rfl,rfl⟩:=hΦ;exact ⟨.cj [],[bp _,fD (m + 1),Gn va ⟨s,a⟩ (q6 1 a2 s2)],aT,aT,rfl,rfl,rfl⟩
theorem C3 (c:bA) (hc:bw c) (hd:c.d < 24) (a0 e0 n0:Int) (hp:c.bY=⟨4,a0,e0,Pk,n0⟩) {a e n:Int} {s:ByteArray} {a2 e2 n2:Int} {s2:ByteArray} (h:qS { c with d:=c.d + 1,p:=c.p + 1 } a e n s a2 e2 n2 s2) (m:Nat) (hm:m + 1 < 4096) :
  Ev prog 137 [.loc 1 0] [bp c,fD m] []
   (fun r os tk=>r = .agg (Gn a0 ⟨s,a⟩ (q6 1 a2 s2))/\os=[bp { c with p:=c.p + 5 },fD (m + 2)]/\tk=[]):=by
 have GQ:=dO c hc;rw [hp] at GQ;have gV:=tz c hc hd m (by omega);have uX:=uV hc hd
 have NS:bA.is { c with d:=c.d + 1 } 4 Pk=true:=by
  have x6:bA.bY { c with d:=c.d + 1 }=⟨4,a0,e0,Pk,n0⟩:=hp;rw [bA.is,x6];simp
 have Od:=xQ uX NS;rw [oS NS (by decide)] at Od;have G8:=zU h (m + 1) hm a0
 have SR:bw { c with p:=c.p + 5 }:=by
  have h4:=h.UG.step;rw [oS h.nx (by decide)] at h4;exact ⟨h4.lt,hc.nx,hc.len,hc.dl⟩
 have Ls:=xP SR hd;obtain ⟨l,p,d,f1,f2⟩:=c;refine eG 78 [.cell 2 70] func137 rfl ntmps137 rfl fun _ _ _ _=>?_;refine aC 1 0 lY rfl rfl rfl aT aT GQ (fun r cg bl hΦ _ _=>?_);obtain ⟨rfl,rfl,rfl⟩:=hΦ;refine aC 2 0 Jc rfl rfl rfl aT aT gV (fun r cg bl hΦ _ _=>?_);obtain ⟨rfl,rfl,rfl⟩:=hΦ;refine aC 1 0 nQ rfl rfl rfl aT aT Od (fun r cg bl hΦ _ _=>?_);obtain ⟨rfl,rfl,rfl⟩:=hΦ;refine CallG.Cv 2 4 rfl rfl rfl rfl ?_;refine aC 3 0 Nn rfl rfl rfl aT aT G8 (fun r cg bl hΦ _ _=>?_);obtain ⟨rfl,rfl,rfl⟩:=hΦ;refine aC 1 0 Jd rfl rfl rfl aT aT Ls (fun r cg bl hΦ _ _=>?_);obtain ⟨rfl,rfl,rfl⟩:=hΦ;exact ⟨.agg (Gn a0 ⟨s,a⟩ (q6 1 a2 s2)),[bp _,fD (m + 2)],aT,aT,rfl,rfl,rfl⟩
abbrev tC:ByteArray:=⟨#[123,98,58,32,116,114,117,101,125]⟩
abbrev Gt:ByteArray:=⟨#[98]⟩
def lC:List oD:=[⟨4,0,1,Pk,0⟩,⟨1,1,2,Gt,0⟩,⟨4,2,3,CT,0⟩,⟨1,4,8,n9,0⟩,⟨4,8,9,C0,0⟩]
theorem J2 {s:ByteArray} (hs:s.size<=1099511627776) {i e:Nat} (hi:i < s.size) (he:i + dK (s.data.toList.drop i)=e) (hn:i < e) {M:ByteArray} (hM:s.extract i e=M) (hr:bG M=true) :
  bh prog 244 [.v (.string s),.v (.int .i64 i)] (IF ⟨1,i,e,M,0⟩):=by
 subst hM;exact zT s hs i hi e he hn hr
theorem LW:j5 tC 0 lC:=
 .tok (e:=1) (by decide) (by decide +kernel) (by decide +kernel) (lx tC (by decide) 0 (by decide) (by decide +kernel) Pk (by decide +kernel) (by decide) (by decide)) rfl (by decide) (by decide)
 (.tok (e:=2) (by decide) (by decide +kernel) (by decide +kernel) (J2 (by decide) (by decide) (by decide +kernel) (by decide) (by decide +kernel) (by decide +kernel)) rfl (by decide) (by decide)
 (.tok (e:=3) (by decide) (by decide +kernel) (by decide +kernel) (lx tC (by decide) 2 (by decide) (by decide +kernel) CT (by decide +kernel) (by decide) (by decide)) rfl (by decide) (by decide)
 (.blank (by decide) (by decide +kernel)
 (.tok (e:=8) (by decide) (by decide +kernel) (by decide +kernel) (J2 (by decide) (by decide) (by decide +kernel) (by decide) (by decide +kernel) (by decide +kernel)) rfl (by decide) (by decide)
 (.tok (e:=9) (by decide) (by decide +kernel) (by decide +kernel) (lx tC (by decide) 8 (by decide) (by decide +kernel) C0 (by decide +kernel) (by decide) (by decide)) rfl (by decide) (by decide) .nil)))))
theorem IG (l:List oD) (e:Int) (hl:l.length<=274877906943):bw (Gq (l ++ [lv e])) where
 lt:=by show 0 < (l ++ [lv e]).length;simp
 nx:=fun i t hi hk=>by
  show i + 1 < (l ++ [lv e]).length;have hi:(l ++ [lv e])[i]? = some t:=hi;rw [List.getElem?_append] at hi;split at hi
  ·rename_i h;simp;omega
  ·rename_i h;have h2:=(gS hi).1;have h3:i - l.length=0:=by simp at h2;omega
   rw [h3] at hi;simp only [List.getElem?_cons_zero,oI] at hi;subst hi;exact absurd rfl hk
 len:=by show (l ++ [lv e]).length<=_;simp;omega
 dl:=by show 0<=24;omega
abbrev SS:bA:=Gq (lC ++ [lv 9])
theorem Gu:bw SS:=IG lC 9 (by decide)
def Ml:Rw:=.mk 5 0 0 al [⟨Gt,1⟩] [.mk 1 4 0 n9 [] []]
theorem IH:Ev prog 137 [.loc 1 0] [bp SS,fD 0] []
   (fun r os tk=>r = .agg (Gn 0 ⟨Gt,1⟩ (q6 1 4 n9))/\os=[bp ⟨lC ++ [lv 9],5,0,0,0⟩,fD 2]/\tk=[]):=
 C3 SS Gu (by decide) 0 1 0 rfl (a:=1) (e:=2) (n:=0) (s:=Gt) (a2:=4) (e2:=8) (n2:=0) (s2:=n9) ⟨⟨by decide,Gu.nx,Gu.len,by decide⟩,rfl,by decide,rfl,by decide +kernel,rfl,by decide +kernel⟩ 0 (by decide)
theorem Po:bw ⟨lC ++ [lv 9],5,0,0,0⟩:=⟨by decide,Gu.nx,Gu.len,by decide⟩
theorem zV:bh prog 69 [.v (.string tC)] (.cj [.agg (dRw Ml),Ft.d (0,0)]):=by
 have cm:=LV tC _ (CZ tC (by decide) lC LW);have hv:=IH;have hf:=qQ ⟨lC ++ [lv 9],5,0,0,0⟩;have hp:=dO _ Po;rw [show bA.bY ⟨lC ++ [lv 9],5,0,0,0⟩=lv 9 from rfl] at hp;refine eG 53 [.cell 2 70,.cell 3 26] func69 rfl ntmps69 rfl fun _ _ _ _=>?_;refine LU Ri rfl cm ax (fun r os hΦ=>?_);obtain ⟨rfl,rfl⟩:=hΦ;refine CallG.Cv 0 2 rfl rfl rfl rfl (CallG.Cv 1 4 rfl rfl rfl rfl ?_);refine aC 2 0 Au rfl rfl rfl aT aT hv (fun r cg bl hΦ _ _=>?_);obtain ⟨rfl,rfl,rfl⟩:=hΦ;refine aC 1 0 D4 rfl rfl rfl aT aT hf (fun r cg bl hΦ _ _=>?_);obtain ⟨rfl,rfl,rfl⟩:=hΦ;refine aC 1 0 lY rfl rfl rfl aT aT hp (fun r cg bl hΦ _ _=>?_);obtain ⟨rfl,rfl,rfl⟩:=hΦ;refine aC 1 0 D4 rfl rfl rfl aT aT hf (fun r cg bl hΦ _ _=>?_);obtain ⟨rfl,rfl,rfl⟩:=hΦ;refine cy [2,4] (fun _=>false) mo (by decide +kernel) ?_;exact ⟨_,ax,rfl⟩
theorem Gv {S:Sch} {ND:List Nd} {PC:List DV} (hP:A0 S ND PC):bh prog 27 [.pt PC 0,.v (.string tC)] (oQ (ckV ND Ml (dm S))):=by
 have h1:=zV;have h2:=hP.root;have h3:=eO hP _ Ml (bd _) (by simp [Ml,RwB,RwBs]) (dm S);generalize ckV ND Ml (dm S)=K at h3 ⊢;generalize dm S=rt at h2 h3;obtain ⟨⟨vk,vn,vs,vl⟩,f1,f2⟩:=K;refine eG 25 [.cell 4 61,.cell 5 26] func27 rfl ntmps27 rfl fun _ _ _ _=>?_;refine cP Q5 h1 ?_;refine cy [0,1] (fun _=>false) mo (by decide +kernel) ?_;refine cD Hv h2 ?_;refine cD vV h3 ?_;exact ⟨_,ax,rfl⟩
def sC:Sch:=⟨[⟨⟨#[97]⟩,0⟩],[],[],.mk ⟨7,0,0,0,0,[],⟨al,0⟩⟩ (.cons ⟨⟨Gt,0⟩,false,[],0,0,0,0,[]⟩ (.mk ⟨1,0,0,0,0,[],⟨al,0⟩⟩ .nil) .nil)⟩
theorem SU:ckV (cu sC) Ml (dm sC)=(.mk 7 0 al [.mk 1 1 al []],0,0):=by rfl
theorem eP:bh prog 25 [] (.v (.bool true)):=by
 have hb:=(qz sC (by decide)).mono (Ψ:=fun r _ _=>zy sC r) fun _ _ _ h=>tf (by decide) h;refine eG 46 [.tmp 0] func25 rfl ntmps25 rfl fun _ _ _ _=>?_;refine gW MZ rfl hb ax (fun r hr=>?_);rcases hr with ⟨h0,_⟩ | ⟨_,PC,hP,rfl⟩
 ·exact absurd (by decide +kernel) h0
 have ht:=Gv hP;rw [SU] at ht;refine cP QZ ht ?_;refine ⟨_,Lz _ _ (0,0) (0,0),?_⟩;refine ⟨_,⟨by decide,rfl⟩,?_⟩;exact (rfl:_=_)
end Go.Proofs.YtfdedoiiahbnnaaGreat
