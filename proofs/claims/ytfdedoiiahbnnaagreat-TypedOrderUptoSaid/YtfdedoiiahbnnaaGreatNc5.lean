/- Part 5 of the proof: Regions that draw their order, in which two new objects may come in either order; Regions that draw their order, in which several new objects may come in any order; Typed: bad, truth, number, text, enum, find, call; The least depths of the values of a plan's nodes: plain; Which nodes have several values: plain; How many unlike values nodes have: plain, as the document counts; The program's nodes, least depths; The document's least depths; fine; the chapter's example; The program's Depths; The law of least depths: fine, the example, the call returns true; The program's several, Several; The document's count, Many; the law of several values: the call returns true; The document's Many; the law of several values: the call returns true; First and second values: tags, sizes: plain; Regions that draw their order and only read: run with one state; Sample: the program's tags and sizes; Sample: the program's turn, part, first, changed; First and second values: the tables, the values: plain; Sample: the program's first, changed, second; Sample: the program's second; Sample: make1: all sizes; Rules for the evaluator: calls that hand back fresh rows; Rules for the evaluator: elements of rows whose cells nobody else knows, read and written whole; Rules for the evaluator: a slice literal without elements, its cells known; Rules for the evaluator: a slice literal, its cells known; A contract that hands back a fresh row is one of data alone, too; Paths of a value: plain; tree.steps; Where steps lead in a value, and that value with another one there: plain; tree: slices.Index of steps, kid, clone, Get; tree: put, Set; Sample: one: first values; Sample: two: second values; Sample: fits, First, Second; no plan; Values along paths: what stands beside, what is alive, the value itself: plain; The document's Bottom, Right of paths; the program's Right of paths; Where steps lead: the document's Edge, Walk; the program's; The program's way along steps: fits, step, Walk; Sample: what stands beside, the nodes and edges of a path, what is alive; With which schemas nothing is wrong: the document's Wrong of chapters 20, 21; the law's fine; Which levels see a place: the program's Who; Sample: the nodes and edges of a path, what is alive; Sample: a value with another one in it; Typed: list, opt; Typed: opt, union; Typed: union; Typed: record; Typed: record; tree.write, Raw; The document's Fits; Written values: well formed; the document's Same on the same value; its Raw; What is read of a value, as the plain data; What the frames of laws over values share; Values as they are written: how big they are; what is read of them; Typed: Check; how many values are in what is written; What is written of a value that fits is checked as that value; Typed: plain facts for the round trip; what is read of a value as it is written; The document's Raw; The law of values that fit: fine, the example, the call returns true; ref25.Paths; tree: walk, Paths; What is read of steps, and of steps with a value; Rules for the evaluator: a small region that draws its order, of which more than one end may come: all orders are tried; Cursors: plain; The greatest multiple of a unit that is at most a number; Whole numbers in texts, plain; Whole numbers in texts: the program's run, value, Take; UTF-8: the program's lead, value; UTF-8: the program's Decode; UTF-8: the document's reckoned, Scalar, Encode; UTF-8: the document's Scalar, Encode; UTF-8, plain: the document's well-formed bytes are the program's; a text's first units; UTF-8: the document's begins, left, Decode; Tables of runes; the unit at a place: the program's and the document's; What is seen of values, and where that differs, plain; A text's first units: the document's Head, the program's heads, floors; Whole numbers in texts: the program's Take of a number that there is; Cursors: the program's Peek, step, is, Mark, Word, Take, Need, Fail, Enter, Leave, Fault; Cursors: the program's is, Mark, Word, Take, FailAt, Fail, Need, Enter, Leave, Next; Rules for the evaluator: a call that writes the caller's objects, in a region that draws its order; The reader of schemas: wrong, fine, keyword, name; The reader of schemas: a type where something is wrong; the type bool; The reader of values: enter, word, a value that is a word; The reader of values: a record's key and value; Rules for the evaluator: calls that hand back new objects; A new cursor; The library's IndexByte, laid at this program; HasPrefix; Tokens: Blank, Mark, the token of a name, of a mark, of a number; Tokens: the token of a name, of a mark, of a number; all of a text's; The reader of values: a record of one key; Parse of the example's text; The chapter's example of values that are read. No condition. -/
import Derived.Lib.Hide
import Derived.Shelf.Strings.Search1
import Derived.Test.YtfdedoiiahbnnaaGreatNc2
import Derived.Test.YtfdedoiiahbnnaaGreatNc3
import Derived.Test.YtfdedoiiahbnnaaGreatNc4
set_option linter.all false
set_option maxRecDepth 100000
namespace Go.Proofs.YtfdedoiiahbnnaaGreat
open Go Go.RowKit
namespace Dv
section
variable {X:Ctx} {st:St}
theorem Ir {id:Nat} {ops:Array Oper} {k:List It} (W:Nat->Bool) (T:de) (i j:Nat) (hm:X.P.follows .mixedOrders=true) (hc:(zD ops && xA ops W && chkA ops T (List.range ops.size) none)=true) (S:St)
  (h:goA X ⟨ops,W,[.mB fun s=>(s=S∨cp s S)∨cp s (ch i j S)],st,none⟩ T true st.sl st) (fK:(Nat.ble X.n0 i && Nat.ble X.n0 j && Nat.blt i S.bx.length && Nat.blt j S.bx.length)=true) (hk:go X 4000 k S) (hX:X.bt=[]:=by exact rfl):jm X id ops k st:=by
 intro E a w hr;have eh:=eD hr;simp only [aP] at hc;simp only [aP,Nat.ble_eq,Nat.blt_eq] at fK;obtain ⟨⟨hN,hP⟩,hT⟩:=hc;simp only [zD,aP,List.all_eq_true,List.mem_range] at hN;have hs:=kX eh (ops:=ops) (W:=W) (k:=[.mB fun s=>(s=S∨cp s S)∨cp s (ch i j S)]);have bg:=tp (D:=⟨⟨ops,W,[.mB fun s=>(s=S∨cp s S)∨cp s (ch i j S)],st,none⟩,E,w.drew⟩) eh.env.em rfl T _ _ hT true st.sl st h E a w.drew hs;refine wp_region_any hm ?_;refine xD (C:=CC E st.bx w.drew) (Q:=kq X [.mB fun s=>(s=S∨cp s S)∨cp s (ch i j S)] .normal) (Region.noSelect_spec hN.1) hP (fun i o ho e he hb=>?_) (fun a w hq=>?_) ops.size (Array.replicate ops.size false) (List.range ops.size) a _ (by simp) ?_ List.nodup_range ?_ (by simp) ⟨T,hT,bg⟩
 ·have h1:=hN.2 i (Array.getElem?_eq_some_iff.1 ho).1;rw [ho] at h1;have h2:=List.all_eq_true.1 h1 e (sU he);rw [hb] at h2;simpa using h2
 ·obtain ⟨ly,E1,ba,hJ⟩:=hq;rcases hJ with (rfl | hJ) | hJ
  ·exact go_sound 4000 _ _ hk E1 a w ba
  ·exact go_sound 4000 _ _ hk E1 a w (pD ba hJ)
  ·obtain ⟨E2,lT⟩:=tX hX (pD ba hJ) fK.1.1.1 fK.1.1.2 fK.1.2 fK.2;exact go_sound 4000 _ _ hk E2 a w lT
 ·simp_all
 ·intro k o ho hk
  grind
theorem gJ {id:Nat} {ops:Array Oper} {k:List It} (T:de) (i j:Nat) (hm:X.P.follows .mixedOrders=true) (hc:(zD ops && xA ops (I0 ops) && chkA ops T (List.range ops.size) none)=true) (S:St)
  (h:goA X ⟨ops,I0 ops,[.mB fun s=>(s=S∨cp s S)∨cp s (ch i j S)],st,none⟩ T true st.sl st) (fK:(Nat.ble X.n0 i && Nat.ble X.n0 j && Nat.blt i S.bx.length && Nat.blt j S.bx.length)=true) (hk:go X 4000 k S) (hX:X.bt=[]:=by exact rfl):jm X id ops k st:=
 Ir (I0 ops) T i j hm hc S h fK hk hX
end
end Dv
end Go.Proofs.YtfdedoiiahbnnaaGreat
set_option maxRecDepth 100000
namespace Go.Proofs.YtfdedoiiahbnnaaGreat
open Go Go.RowKit Dv Go.Proofs.Tryz
abbrev oP (r:zA):DV:=.cj [.agg (lp r.1),Ft.d r.2]
def rwA:Rw->Int
 | .mk _ a _ _ _ _=>a
theorem dD (e:Int) (r:Rw):bh prog 149 [.v (.int .i64 e),.agg (dRw r)] (oP (bS e (rwA r))):=by
 obtain ⟨k,a,n,s,keys,ks⟩:=r;refine eG 11 [.cell 4 61,.cell 5 26] func149 rfl ntmps149 rfl fun _ _ _ _=>?_;refine cy [1,2] (fun _=>false) mo (by decide +kernel) ?_;exact ⟨_,ax,rfl⟩
theorem oa (k a n:Int) (s:ByteArray) (keys:List Wd) (ks:List Rw):bh prog 151 [.agg (dRw (.mk k a n s keys ks))] (.v (.bool (decide (k=6) && decide (ks.length=1)))):=by
 have hl:(dRws ks).length=ks.length:=by rw [dQ,List.length_map]
 refine eG 12 [.tmp 2] func151 rfl ntmps151 rfl fun _ _ _ _=>?_;refine (dG ?_:);rw [aH,hl];congr 1;exact decide_eq_decide.2 (by omega)
theorem uM (d:Nd) (h1:d.ai=1) (k a n:Int) (s:ByteArray) (keys:List Wd) (ks:List Rw):bh prog 72 [.agg (dRw (.mk k a n s keys ks))] (oP (ckLeaf d k a n s)):=by
 have hb:=dD 14 (Rw.mk k a n s keys ks);unfold ckLeaf;rw [aj h1];refine eG 30 [.cell 2 61,.cell 3 26] func72 rfl ntmps72 rfl fun _ _ _ _=>?_;refine br ?_ ?_<;>intro c
 ·have c:k=1/\s=n8:=by
   have c:k=1/\s=⟨#[116,114,117,101]⟩:=by simpa [aH] using c
   exact c
  rw [aj c];exact ⟨_,ax,rfl⟩
 have c1:¬ (k=1/\s=n8):=by
  intro h;have h2:s=⟨#[116,114,117,101]⟩:=h.2;simp [aH,h.1,h2] at c
 rw [ah c1];refine br ?_ ?_<;>intro c
 ·have c:k=1/\s=uK:=by
   have c:k=1/\s=⟨#[102,97,108,115,101]⟩:=by simpa [aH] using c
   exact c
  rw [aj c];exact ⟨_,ax,rfl⟩
 have c2:¬ (k=1/\s=uK):=by
  intro h;have h2:s=⟨#[102,97,108,115,101]⟩:=h.2;simp [aH,h.1,h2] at c
 rw [ah c2];refine cP fo hb ?_;exact ⟨_,ax,rfl⟩
theorem rG (d:Nd) (h2:d.ai=2) (k a n:Int) (s:ByteArray) (keys:List Wd) (ks:List Rw):bh prog 73 [.agg (n4 d),.agg (dRw (.mk k a n s keys ks))] (oP (ckLeaf d k a n s)):=by
 have hb:=fun e=>dD e (Rw.mk k a n s keys ks);unfold ckLeaf;rw [ah (by omega),aj h2];obtain ⟨ai,cF,lo,hi,most,af,es⟩:=d;simp only;refine eG 35 [.cell 4 61,.cell 5 26] func73 rfl ntmps73 rfl fun _ _ _ _=>?_;refine br ?_ ?_<;>intro c
 ·have c:k≠2:=sU c;rw [aj c];refine cP fo (hb 14) ?_;exact ⟨_,ax,rfl⟩
 have c:¬ k≠2:=sU c;rw [ah c];refine br ?_ ?_<;>intro c
 ·have c:n < lo∨hi < n:=by simpa [aF] using c
  rw [aj c];refine cP fo (hb 20) ?_;exact ⟨_,ax,rfl⟩
 ·have c:¬ (n < lo∨hi < n):=by
   intro h;rw [aF,Bool.or_eq_false_iff] at c;have h1:¬ n < lo:=of_decide_eq_false c.1;have h2:¬ hi < n:=of_decide_eq_false c.2;omega
  rw [ah c];exact ⟨_,ax,rfl⟩
theorem xE (d:Nd) (h3:d.ai=3) (k a n:Int) (s:ByteArray) (keys:List Wd) (ks:List Rw):bh prog 74 [.agg (n4 d),.agg (dRw (.mk k a n s keys ks))] (oP (ckLeaf d k a n s)):=by
 have hb:=fun e=>dD e (Rw.mk k a n s keys ks);unfold ckLeaf;rw [ah (by omega),ah (by omega),aj h3];obtain ⟨ai,cF,lo,hi,most,af,es⟩:=d;simp only;refine eG 29 [.cell 4 61,.cell 5 26] func74 rfl ntmps74 rfl fun _ _ _ _=>?_;refine br ?_ ?_<;>intro c
 ·have c:k≠3:=sU c;rw [aj c];refine cP fo (hb 14) ?_;exact ⟨_,ax,rfl⟩
 have c:¬ k≠3:=sU c;rw [ah c];refine br ?_ ?_<;>intro c
 ·have c:most < (s.size:Int):=sU c;rw [aj c];refine cP fo (hb 20) ?_;exact ⟨_,ax,rfl⟩
 ·have c:¬ most < (s.size:Int):=sU c;rw [ah c];exact ⟨_,ax,rfl⟩
abbrev LI (L:List ByteArray) (s:ByteArray) (e:Nat):St:=
 ⟨[dH 0 1 (di L),(1,⟨[],.v (.string s)⟩),aA 7 ((di L).length),aA 8 e],[],[]⟩
theorem uN (L:List ByteArray) (s:ByteArray) (hl:L.length<=1099511627776):bh prog 150 [.sl 1 (di L) none,.v (.string s)] (.v (.int .i64 (oz (cX L s)))):=by
 have sm:=bz L;have hI:cX L s=bq (fun i=>decide (L[i]? = some s)) L.length:=rfl;rw [hI];refine eG 19 [.tmp 4] func150 rfl ntmps150 rfl fun _ _ _ _=>?_;refine lI (fun j st=>∃ e:Nat,st=LI L s e/\e<=L.length/\(∀ c,c < e->decide (L[c]? = some s)=false)/\j=L.length - e) ⟨0,rfl,by omega,fun _ h=>by omega,rfl⟩ (cL wB) ?_;rintro j st ⟨e,rfl,he,gP,rfl⟩;refine br ?_ ?_<;>intro hL
 ·have av:e < L.length:=sV sm hL;obtain ⟨x,hx⟩:=gX av;refine iX (dW hx) ?_;refine br ?_ ?_<;>intro g
  ·have g:s=x:=sU g;rw [cO av (decide_eq_true (by rw [hx,g])) gP];exact (rfl:_=_)
  ·have g:¬ s=x:=sU g
   exact rE ⟨_,by omega,e + 1,rfl,by omega,fun c jC=>by
     rcases q6 jC with h | h
     ·exact gP c h
     ·rw [h,hx];exact decide_eq_false (fun h=>g (Option.some.inj h).symm),rfl⟩ (cL (iF (bV av (by omega))))
 ·have bO:e=L.length:=sW sm hL;subst bO;rw [dB gP];exact (rfl:_=_)
theorem xF (d:Nd) (h4:d.ai=4) (hl:d.af.length<=1099511627776) (k a n:Int) (s:ByteArray) (keys:List Wd) (ks:List Rw):bh prog 75 [.agg (n4 d),.agg (dRw (.mk k a n s keys ks))] (oP (ckLeaf d k a n s)):=by
 have hb:=fun e=>dD e (Rw.mk k a n s keys ks);have mX:=uN d.af s hl;unfold ckLeaf;rw [ah (by omega),ah (by omega),ah (by omega)];generalize cX d.af s=I at mX ⊢;obtain ⟨ai,cF,lo,hi,most,af,es⟩:=d;simp only at mX ⊢;by_cases c1:k≠1
 ·rw [aj c1];refine eG 30 [.cell 4 61,.cell 5 26] func75 rfl ntmps75 rfl fun _ _ _ _=>?_;refine cP D4 mX ?_;refine br (fun _=>?_) (fun c=>absurd c (sU c1));refine cP fo (hb 14) ?_;exact ⟨_,ax,rfl⟩
 ·rw [ah c1]
  cases I with
  | none=>
   refine eG 30 [.cell 4 61,.cell 5 26] func75 rfl ntmps75 rfl fun _ _ _ _=>?_;refine cP D4 mX ?_;refine br (fun c=>absurd c (sU c1)) (fun _=>?_);refine cP fo (hb 9) ?_;exact ⟨_,ax,rfl⟩
  | some i=>
   obtain ⟨J,hJ⟩:∃ J:Int,J=(i:Int):=⟨_,rfl⟩;have mX:bh prog 150 [.sl 1 (di af) none,.v (.string s)] (.v (.int .i64 J)):=by rw [hJ];exact mX
   simp only;rw [<- hJ];refine eG 30 [.cell 4 61,.cell 5 26] func75 rfl ntmps75 rfl fun _ _ _ _=>?_;refine cP D4 mX ?_;refine br (fun c=>absurd c (sU c1)) (fun _=>?_);refine br (fun c=>?_) (fun _=>?_)
   ·exfalso;have c:J < 0:=sU c;omega
   exact ⟨_,ax,rfl⟩
theorem zF (x:Ed) (s:ByteArray):bh prog 233 [.agg (HZ x),.pt [.v (.string s)] 0] (.v (.bool (decide (x.name=s)))):=by
 obtain ⟨en,eb,ea,et,P8,ew,P9,Qa,Qb,Qc⟩:=x;refine eG 8 [.tmp 3] func233 rfl ntmps233 rfl fun _ _ _ _=>?_;exact (rfl:_=_)
abbrev Is (es:List Ed) (s:ByteArray) (e:Nat):St:=
 ⟨[dH 0 10 (iu es),(1,⟨[],.fn 233 [] [.pt [.v (.string s)] 0]⟩),aA 7 ((iu es).length),aA 8 e],[],[]⟩
theorem zG (es:List Ed) (s:ByteArray) (qZ:es.length<=1099511627776) :
  bh prog 232 [.sl 10 (iu es) none,.fn 233 [] [.pt [.v (.string s)] 0]] (.v (.int .i64 (oz (bq (ti es s) es.length)))):=by
 have sm:=dC es;refine eG 19 [.tmp 4] func232 rfl ntmps232 rfl fun _ _ _ _=>?_;refine lI (fun j st=>∃ e:Nat,st=Is es s e/\e<=es.length/\(∀ c,c < e->ti es s c=false)/\j=es.length - e) ⟨0,rfl,by omega,fun _ h=>by omega,rfl⟩ (cL wB) ?_;rintro j st ⟨e,rfl,he,gP,rfl⟩;refine br ?_ ?_<;>intro hL
 ·have av:e < es.length:=sV sm hL;obtain ⟨x,hx⟩:=gX av;have hP:ti es s e=decide (x.name=s):=by unfold ti;rw [hx]
  refine iX (gI hx) ?_;refine cP Nr (zF x s) ?_;refine br ?_ ?_<;>intro g
  ·rw [cO av (hP.trans g) gP];exact (rfl:_=_)
  ·exact rE ⟨_,by omega,e + 1,rfl,by omega,fun c jC=>by
     rcases q6 jC with h | h
     ·exact gP c h
     ·rw [h];exact hP.trans g,rfl⟩ (cL (iF (bV av (by omega))))
 ·have bO:e=es.length:=sW sm hL;subst bO;rw [dB gP];exact (rfl:_=_)
theorem CH (d:Nd) (s:ByteArray):bq (ti d.aR s) d.aR.length=mE d s:=by
 unfold mE cX;rw [List.length_map];congr 1;funext i;unfold ti;rw [List.getElem?_map]
 cases d.aR[i]? with
 | none=>simp
 | some e=>simp
theorem ob (d:Nd) (s:ByteArray) (qZ:d.aR.length<=1099511627776):bh prog 152 [.agg (n4 d),.v (.string s)] (.v (.int .i64 (oz (mE d s)))):=by
 have mX:=zG d.aR s qZ;rw [CH] at mX;generalize mE d s=I at mX ⊢;obtain ⟨ai,cF,lo,hi,most,af,es⟩:=d;refine eG 9 [.tmp 4] func152 rfl ntmps152 rfl fun _ _ _ _=>?_;refine mZ Nq mX ax rfl ?_;exact (rfl:_=_)
theorem SF {bx:List (List DV)} {N n0 m0 n i:Nat} {r:List Bool} (hr:r.length=n) (hN:N<=i) (hb:bx[i]? = some (cB r)):Cc bx N n0 m0 (.sl 1 (Cx r) none) (.ms i 1 0 n n):=by
 simp only [Cc];refine Or.inr (Or.inr (Or.inl ⟨i,0,n,_,by rw [uF,hr],hN,hb,?_,?_,?_⟩))
 ·grind [wW,FL,uF]
 ·grind [Cx]
 ·intro x hx;rw [wW] at hx;obtain ⟨_,_,rfl⟩:=List.mem_map.1 hx;exact .inl ⟨_,rfl⟩
def SG (n:Nat):Nat:=min n 4097
def othE (t:List Nat) (k:Nat × Option Nat):Nat:=match k.2 with
 | none=>k.1
 | some j=>if t.getD j 0=0 then 0 else SG (k.1 + t.getD j 0)
def SH (kf:Nat->Option (Nat × Option Nat)) (t:List Nat):Prop:=∀ i,t.getD i 0≠0->∃ k,kf i=some k/\t.getD i 0=othE t k
section
variable {kf:Nat->Option (Nat × Option Nat)} {N:Nat}
theorem j7 (kf:Nat->Option (Nat × Option Nat)) (N:Nat):SH kf (List.replicate N 0):=fun i hi=>by grind
end
end Go.Proofs.YtfdedoiiahbnnaaGreat
namespace Go.Proofs.YtfdedoiiahbnnaaGreat
namespace Dv
open Go Go.RowKit
section
variable {X:Ctx} {st:St} {k:List It} {E:En} {a:Act} {w:World}
theorem uP (h:Rel X E st a w) {es:List (List DV)} {cs:List DV} {kt m oA e:Nat} {v:Value} (hv:Rv E (.sl 0 es (some kt)) v) (hq:st.tk[kt]? = some ⟨m,oA,e,some cs⟩) (gT:es.length=m) (hm:0 < m) :
  ∃ g cap,∃ cur:Array Value,v = .slice (some ⟨g,0,none⟩) m cap/\E.tk[kt]? = some ⟨m,oA,e,some cs⟩/\E.τ[kt]? = some v/\w.heap[g]? = some (.cells cur oA (0,0))/\cur.size=cap * e/\cs.length=m * e/\RvC E.cl cs (cur.toList.take (m * e))/\m<=cap/\cap<=maxLen/\g ∉ E.β/\∀ x u,E.c x=some u->x.block=g->x.off < 0:=by
 unfold Rv at hv;obtain ⟨bs,ns,jE,e1,⟨u5,GF⟩,G8,yj⟩:=hv;subst u5;obtain ⟨q',jo,_,Kn⟩:=yj kt rfl;have gg:E.tk[kt]? = some ⟨m,oA,e,some cs⟩:=by rw [h.tk];exact hq
 rw [gg] at jo;simp only [oI] at jo;subst jo;have hy:=Kn gT;rcases h.env.bN kt _ _ gg hy with ⟨_,tF,_⟩ | ⟨g,cap,cur,mN,hw0,⟨vD,vE⟩,ph,rr,fH,hc0⟩
 ·simp only at tF;omega
 obtain ⟨h5,h6⟩:=vE cs rfl;exact ⟨g,cap,cur,mN,gg,hy,hw0,vD,h5,h6,ph,rr,fH,hc0⟩
theorem A5 {o1:Oper} {t et e gf nn m g cap:Nat} {bb:Bool} {zz:List Value} {z:Int} {kd:IntKind} {s ix:Operand} (h1:o1.op = .indexAddr t s ix) (e1:a.eval s = .slice (some ⟨g,0,none⟩) m cap) (e2:a.eval ix = .int kd z)
  (hT:X.T.find t=some ⟨nn,bb,.sl et e gf,zz⟩) (hz:0<=z/\z < m) (w:World):(execOp a.eval o1).run X.P w = .ok (.value (.pointer (some ⟨g,z.toNat * e,none⟩))) w:=by
 obtain ⟨hu,ii,zv,ri,_,Lc,_,_⟩:=dq X.hT hT;have lP:eV X.P et=some e:=by rw [dF ri,Lc]
 have bg:(Instr.indexAt t (.slice (some ⟨g,0,none⟩) m cap) (.int kd z)).run X.P w = .ok (.pointer (some ⟨g,z.toNat * e,none⟩)) w:=by
  simp [Instr.indexAt,asIntOf,run_underlying hu,hz.1,hz.2,aD lP,Addr.add_lit]
 simp only [execOp,h1,e1,e2,Sem.run_bind,bg,Result.andThen_ok,Sem.run_pure]
end
end Dv
end Go.Proofs.YtfdedoiiahbnnaaGreat
set_option maxRecDepth 100000
namespace Go.Proofs.YtfdedoiiahbnnaaGreat
open Go Go.RowKit Dv Go.Proofs.Tryz
abbrev Iu:List DV:=[.v (.int .i64 0),.v (.int .i64 0),.v (.string al),.v (.slice none 0 0)]
abbrev zeroV:Val:=.mk 0 0 al []
theorem tu {α:Type} {c:Nat} {x:List α}:∀ {l:List (List α)} {e:Nat},(∀ y∈l,y.length=c)->e < l.length->(l.set e x).flatten=l.flatten.take (e * c) ++ x ++ l.flatten.drop (e * c + c)
 | [],e,_,h=>by simp at h
 | y :: r,0,hl,h=>by
  have hy:=hl y (by simp);subst hy;simp
 | y :: r,e + 1,hl,h=>by
  have hy:=hl y (by simp);have ih:=tu (x:=x) (l:=r) (e:=e) (fun z hz=>hl z (by simp [hz])) (sU h);have h1:(e + 1) * c=y.length + e * c:=by rw [hy,Nat.add_mul,Nat.one_mul,Nat.add_comm]
  have h2:(e + 1) * c + c=y.length + (e * c + c):=by rw [h1];omega
  rw [List.set_cons_succ,List.flatten_cons,List.flatten_cons,ih,h2,h1,List.take_length_add_append,List.drop_length_add_append];simp
theorem j2:∀ (l:List Val),∀ x∈dVals l,x.length=4
 | [],x,h=>by simp [dVals] at h
 | .mk _ _ _ _ :: r,x,h=>by
  rw [dVals] at h;rcases bX h with h | h
  ·rw [h];all_goals rfl
  ·exact j2 r x h
theorem CI (l:List Val) (e:Nat) (y:Val):dVals (l.set e y)=(dVals l).set e (lp y):=by rw [ey,ey,List.map_set]
structure Pl where
 i:Nat
 d:Nd
 k:Nat
 s:Bt
theorem A6 {n0 m0:Nat} {st aJ:St} (n:Nat) (q r:TkE) (hq:q.new=true) (hr:r.new=true) (hn:Nat.ble n st.bx.length=true) (h3:st.tk ++ [q,r]=aJ.tk) (h2:WeLL n st.tk.length aJ.tk (st.bx.take n) aJ.bx) (h4:Nat.ble n0 n=true) (h5:Nat.ble m0 st.tk.length=true)
  (h:jq n st.tk.length aJ.tk st.sl aJ.sl):kF n0 m0 st aJ:=by
 have hl:(st.bx.take n).length=n:=by simp_all
 exact ⟨st.tk,[],[q,r],st.bx.take n,st.bx.drop n,by simpa using h5,by rw [hl];simpa using h4,by simp,h3.symm,by simpa using ⟨hq,hr⟩,(List.take_append_drop n st.bx).symm,by rw [hl];exact h2,by rw [hl];exact h⟩
section
variable (PC:List DV) (ND:List Nd) (D:List Nat) (K:List Bool) (sz ot:List Nat) {L:Nat}
end
section
variable (PC:List DV) (ND:List Nd) (D:List Nat) (K:List Bool) (sz ot:List Nat) {L:Nat}
abbrev SI (k:Int) (l:List Val):List DV:=[.v (.int .i64 k),.v (.int .i64 0),.v (.string .empty),.sl 4 (dVals l) (some 0)]
end
theorem xG {ND:List Nd} {i:Int}:∀ {l:List Rw} {acc:List Val} {e:Nat} {x:Rw},l[e]? = some x->(∀ r∈l.take e,(ckV ND r i).2.1=0)->ckL ND l i acc=if (ckV ND x i).2.1≠0 then ([],(ckV ND x i).2) else ckL ND (l.drop (e + 1)) i (acc ++ (l.take (e + 1)).map fun r=>(ckV ND r i).1)
 | [],acc,e,x,h,_=>by simp at h
 | r :: l,acc,0,x,h,_=>by
  simp at h;subst h;rw [ckL];simp
 | r :: l,acc,e + 1,x,h,hr=>by
  have h0:=hr r (by simp);rw [ckL,ah (sU h0),xG (l:=l) (e:=e) (x:=x) (sU h) (fun y hy=>hr y (by simp [hy]))];simp
theorem CJ {i j:Nat} {s S:St} (h:cp s (ch i j S):=by refine (⟨rfl,rfl,?_⟩:_/\_/\_);(repeat (refine (⟨?_,?_⟩:_/\_);exact rfl));exact trivial):(s=S∨cp s S)∨cp s (ch i j S):=.inr h
section
variable (PC:List DV)
abbrev Us:List DV:=[.v (.int .i64 0),.v (.int .i64 0)]
abbrev LJ (d:Nd) (r:Rw) (ks:List Rw) (vs:List Val) (n e:Nat):St:=
 ⟨[ru 0 PC,aS 4 0,aS 6 2,aS 7 3,aS 8 4,dH 34 6 (dRws ks),aA 35 ((dRws ks).length),aA 36 e],[n4 d,dRw r,Iu,Us,SI 5 vs],[⟨n,61,4,none⟩]⟩
set_option maxHeartbeats 4000000 in
theorem xH {ND:List Nd} (d:Nd) (h5:d.ai=5) {y:Ed} (hy:d.aR[0]? = some y) (hm:d.most<=1024) (k a n:Int) (s:ByteArray) (keys:List Wd) (ks:List Rw) (lA:∀ r∈ks,bh prog 31 [.pt PC 0,.v (.int .i64 y.to),.agg (dRw r)] (oP (ckV ND r y.to))) :
  bh prog 76 [.pt PC 0,.agg (n4 d),.agg (dRw (.mk k a n s keys ks))] (oP (if k≠4 then bS 14 a else if d.most < (ks.length:Int) then bS 20 a else eL 5 0 (ckL ND ks y.to []))):=by
 have hb:=fun e=>dD e (Rw.mk k a n s keys ks);have mU:=fA ks;obtain ⟨ai,cF,lo,hi,most,af,es⟩:=d;simp only at hy hm h5 ⊢;refine eG 65 [.cell 6 61,.cell 7 26] func76 rfl ntmps76 rfl fun _ _ _ _=>?_;refine br ?_ ?_<;>intro c
 ·have c:k≠4:=sU c;rw [aj c];refine cP fo (hb 14) ?_;exact ⟨_,ax,rfl⟩
 have c:¬ k≠4:=sU c;rw [ah c];refine br ?_ ?_<;>intro c
 ·have c:most < (ks.length:Int):=sV mU c;rw [aj c];refine cP fo (hb 20) ?_;exact ⟨_,ax,rfl⟩
 have c:¬ most < (ks.length:Int):=sV mU c;rw [ah c];refine lI (fun j st=>∃ e:Nat,st=LJ PC ⟨ai,cF,lo,hi,most,af,es⟩ (.mk k a n s keys ks) ks ((ks.take e).map fun r=>(ckV ND r y.to).1) e e/\e<=ks.length/\(∀ r∈ks.take e,(ckV ND r y.to).2.1=0)/\j=ks.length - e) ⟨0,rfl,by omega,fun r hr=>by simp at hr,rfl⟩ (fi 5 ⟨0,61,4,none⟩ rfl rfl rfl BB rfl rfl tT) ?_;rintro j st ⟨e,rfl,he,gP,rfl⟩;refine br ?_ ?_<;>intro hL
 ·have av:e < ks.length:=sV mU hL;obtain ⟨x,hx⟩:=gX av;have lA:=lA x (mG hx);have bo:=xG (ND:=ND) (i:=y.to) (acc:=[]) hx gP;have SJ:(dVals ((ks.take e).map fun r=>(ckV ND r y.to).1)).length=e:=by rw [iw,List.length_map,zLenT];omega
  have lz:dVals ((ks.take e).map fun r=>(ckV ND r y.to).1) ++ [lp (ckV ND x y.to).1]=dVals ((ks.take (e + 1)).map fun r=>(ckV ND r y.to).1):=by
   rw [nB hx,List.map_append,ey,ey,List.map_append];all_goals rfl
  have LK:(ckV ND x y.to).2.1=0->∀ r∈ks.take (e + 1),(ckV ND r y.to).2.1=0:=fun h r hr=>by
   rw [nB hx] at hr;rcases List.mem_append.1 hr with hr | hr
   ·exact gP r hr
   ·simp at hr;rw [hr];exact h
  have hF:eL 5 0 (ckL ND ks y.to [])=if (ckV ND x y.to).2.1≠0 then (.mk 0 0 al [],(ckV ND x y.to).2) else eL 5 0 (ckL ND ks y.to []):=by
   split
   ·rename_i h;rw [bo,aj h];unfold eL;rw [aj h]
   ·rfl
  generalize ckV ND x y.to=R at lA lz LK hF;obtain ⟨⟨Rk,Rn,Rs,Rl⟩,Re,Ra⟩:=R;obtain ⟨xk,xa,xn,xs,xq,xl⟩:=x;obtain ⟨en,eb,ea,et,P8,ew,P9,Qa,Qb,Qc⟩:=y;simp only at lA lz LK hF;refine iX (jZ hx) ?_;apply gJ (.op 0 (.op 1 (.op 2 (.op 3 (.op 4 (.op 5 (.op 6 (.ev 7 (.op 8 (.op 9 (.op 10 (.ev 11 (.ev 12 (.ev 13 (.ev 14 .fin .stop) .stop) .stop) (.ev 12 (.ev 11 (.ev 13 (.ev 14 .fin .stop) .stop) .stop) .stop))))) (.ev 11 (.ev 7 (.op 8 (.op 9 (.op 10 (.ev 12 (.ev 13 (.ev 14 .fin .stop) .stop) .stop)))) (.ev 12 (.ev 7 (.op 8 (.op 9 (.op 10 (.ev 13 (.ev 14 .fin .stop) .stop)))) .stop) .stop)) (.ev 12 (.ev 7 (.op 8 (.op 9 (.op 10 (.ev 11 (.ev 13 (.ev 14 .fin .stop) .stop) .stop)))) (.ev 11 (.ev 7 (.op 8 (.op 9 (.op 10 (.ev 13 (.ev 14 .fin .stop) .stop)))) .stop) .stop)) .stop)))))))))) 6 7 mo (by decide +kernel);·repeat' (first | refine iX (gI hy) ?_ | refine cD vU lA ?_ | exact Or.inl (Or.inl rfl) | exact Or.inl mw | exact CJ | exact trivial | exact Or.inl (Or.inl rfl) | exact Or.inl mw | exact zt | refine ⟨?_,?_⟩)
  ·exact (rfl:_=_)
  refine br ?_ ?_<;>intro g
  ·have g:Re≠0:=sU g;rw [hF,aj g];refine cy [2,3] (fun _=>false) mo (by decide +kernel) ?_;exact ⟨_,ax,rfl⟩
  ·have g:Re=0:=sU g;refine ⟨SJ,⟨by rw [SJ];simp [maxLen];omega,by rw [SJ];simp;omega⟩,?_⟩;exact rE ⟨_,by omega,e + 1,rfl,by omega,LK g,rfl⟩ (jx 5 (Hg (bV av (by omega)) lz) (q4 (bV av (by omega)) lz))
 ·have bO:e=ks.length:=sW mU hL;subst bO;rw [List.take_length] at gP;rw [zB gP,List.take_length];exact ⟨_,ax,rfl⟩
end
theorem A7 (ND:List Nd) (r:Rw) (i:Int):ckL ND [r] i []=if (ckV ND r i).2.1≠0 then ([],(ckV ND r i).2) else ([(ckV ND r i).1],0,0):=by
 rw [ckL];split
 ·rfl
 ·rw [ckL];all_goals rfl
theorem uQ {k n:Int} {t:List Val × Int × Int} (h:(eL k n t).2.1=0):(eL k n t).2.2=0:=by
 unfold eL at h ⊢;split at h
 ·rename_i h1;exact (h1 h).elim
 ·rename_i h1;rw [ah h1];all_goals rfl
theorem Iv {a:Int} {t:List (Option Val) × Int × Int} (h:(fB a t).2.1=0):(fB a t).2.2=0:=by
 unfold fB at h ⊢;split at h
 ·rename_i h1;exact (h1 h).elim
 ·rename_i h1;rw [ah h1];split at h
  ·exact (by cases h)
  ·rename_i h2;rw [ah h2];all_goals rfl
theorem CK {d:Nd} {k a n:Int} {s:ByteArray}:(ckLeaf d k a n s).2.1=0->(ckLeaf d k a n s).2.2=0:=by
 unfold ckLeaf
 repeat' split
 all_goals first | exact fun _=>rfl | exact fun h=>by cases h
theorem F2 {ND:List Nd} (r:Rw) (i:Int) (h:(ckV ND r i).2.1=0):(ckV ND r i).2.2=0:=by
 obtain ⟨k,a,n,s,keys,ks⟩:=r;rw [ckV] at h ⊢;split
 ·rename_i hd;rw [hd] at h;exact (by cases h)
 ·rename_i d hd;rw [hd] at h;simp only at h;by_cases c5:d.ai < 5
  ·rw [aj c5] at h ⊢;exact CK h
  rw [ah c5] at h ⊢;by_cases c:d.ai=5
  ·rw [aj c] at h ⊢;by_cases c1:k≠4
   ·rw [aj c1] at h;cases h
   rw [ah c1] at h ⊢;by_cases c2:d.most < (ks.length:Int)
   ·rw [aj c2] at h;cases h
   rw [ah c2] at h ⊢;exact uQ h
  rw [ah c] at h ⊢;by_cases c6:d.ai=6
  ·rw [aj c6] at h ⊢;by_cases c1:k=1/\s=qG
   ·rw [aj c1];all_goals rfl
   rw [ah c1] at h ⊢;by_cases c2:k≠6∨ks.length≠1∨s≠xy
   ·rw [aj c2] at h;cases h
   rw [ah c2] at h ⊢;exact uQ h
  rw [ah c6] at h ⊢;by_cases c7:d.ai=7
  ·rw [aj c7] at h ⊢;by_cases c1:k≠5∨keys.length≠ks.length
   ·rw [aj c1] at h;cases h
   rw [ah c1] at h ⊢;exact Iv h
  rw [ah c7] at h ⊢;by_cases c8:k≠1/\(k≠6∨ks.length≠1)
  ·rw [aj c8] at h;cases h
  rw [ah c8] at h ⊢
  cases Ut:mE d s with
  | none=>rw [Ut] at h;cases h
  | some c=>
   rw [Ut] at h;simp only at h ⊢
   cases he:d.aR[c]? with
   | none=>rw [he] at h;cases h
   | some e=>
    rw [he] at h;simp only at h ⊢;by_cases c1:k=1
    ·rw [aj c1] at h ⊢;by_cases cb:e.bare=true
     ·rw [aj cb];all_goals rfl
     ·rw [ah cb] at h;cases h
    ·rw [ah c1] at h ⊢;by_cases cb:e.bare=true
     ·rw [aj cb] at h;cases h
     ·rw [ah cb] at h ⊢;exact uQ h
section
variable (PC:List DV)
set_option maxHeartbeats 4000000 in
theorem zH {ND:List Nd} (d:Nd) {y:Ed} (hy:d.aR[0]? = some y) (k a n:Int) (s:ByteArray) (keys:List Wd) (ks:List Rw) (lA:∀ r∈ks,bh prog 31 [.pt PC 0,.v (.int .i64 y.to),.agg (dRw r)] (oP (ckV ND r y.to))) :
  bh prog 77 [.pt PC 0,.agg (n4 d),.agg (dRw (.mk k a n s keys ks))] (oP (if k=1/\s=qG then jy (.mk 6 0 al []) else if k≠6∨ks.length≠1∨s≠xy then bS 14 a else eL 6 0 (ckL ND ks y.to []))):=by
 have hb:=fun e=>dD e (Rw.mk k a n s keys ks);have mU:=fA ks;have jI:=oa k a n s keys ks;generalize cC:(decide (k=6) && decide (ks.length=1))=cl at jI;have CL:cl=true↔k=6/\ks.length=1:=by rw [<- cC];simp
 obtain ⟨ai,cF,lo,hi,most,af,es⟩:=d;simp only at hy;refine eG 57 [.cell 6 61,.cell 7 26] func77 rfl ntmps77 rfl fun _ _ _ _=>?_;refine br ?_ ?_<;>intro c
 ·have c:k=1/\s=qG:=by
   have c:k=1/\s=⟨#[110,111,110,101]⟩:=by simpa [aH] using c
   exact c
  rw [aj c];exact ⟨_,ax,rfl⟩
 have c1:¬ (k=1/\s=qG):=by
  intro h;have h2:s=⟨#[110,111,110,101]⟩:=h.2;simp [aH,h.1,h2] at c
 rw [ah c1];refine cP Au jI ?_;refine br ?_ ?_<;>intro c
 ·have c:k≠6∨ks.length≠1∨s≠xy:=by
   by_cases h1:k=6
   ·by_cases h2:ks.length=1
    ·refine .inr (.inr fun h3=>?_);have h3:s=⟨#[115,111,109,101]⟩:=h3;rw [CL.2 ⟨h1,h2⟩] at c;simp [aF,h3] at c
    ·exact .inr (.inl h2)
   ·exact .inl h1
  rw [aj c];refine cP fo (hb 14) ?_;exact ⟨_,ax,rfl⟩
 have c2:cl=true/\s=xy:=by
  cases cl with
  | false=>simp [aF] at c
  | true=>
   refine ⟨rfl,?_⟩;have:s=⟨#[115,111,109,101]⟩:=by simpa [aF] using c
   exact this
 obtain ⟨LL,gK⟩:=CL.1 c2.1
 rw [ah (by
  intro h;rcases h with h | h | h
  ·exact h LL
  ·exact h gK
  ·exact h c2.2)]
 obtain ⟨x,rfl⟩:=List.length_eq_one_iff.1 gK;have lA:=lA x (by simp);have rf:=F2 (ND:=ND) x y.to;rw [A7];generalize ckV ND x y.to=R at lA rf ⊢;obtain ⟨⟨Rk,Rn,Rs,Rl⟩,Re,Ra⟩:=R;have SK:(dRws [x])[0]? = some (dRw x):=rfl;obtain ⟨xk,xa,xn,xs,xq,xl⟩:=x;obtain ⟨en,eb,ea,et,P8,ew,P9,Qa,Qb,Qc⟩:=y;simp only at lA rf ⊢;apply gJ (.op 0 (.op 1 (.op 2 (.op 3 (.op 4 (.op 5 (.op 6 (.op 7 (.op 8 (.op 9 (.ev 10 (.op 11 (.op 12 (.op 13 (.ev 14 (.ev 15 (.ev 16 (.ev 17 .fin .stop) .stop) .stop) (.ev 15 (.ev 14 (.ev 16 (.ev 17 .fin .stop) .stop) .stop) .stop))))) (.ev 14 (.ev 10 (.op 11 (.op 12 (.op 13 (.ev 15 (.ev 16 (.ev 17 .fin .stop) .stop) .stop)))) (.ev 15 (.ev 10 (.op 11 (.op 12 (.op 13 (.ev 16 (.ev 17 .fin .stop) .stop)))) .stop) .stop)) (.ev 15 (.ev 10 (.op 11 (.op 12 (.op 13 (.ev 14 (.ev 16 (.ev 17 .fin .stop) .stop) .stop)))) (.ev 14 (.ev 10 (.op 11 (.op 12 (.op 13 (.ev 16 (.ev 17 .fin .stop) .stop)))) .stop) .stop)) .stop))))))))))))) 4 5 mo (by decide +kernel);·repeat' (first | refine iX (gI hy) ?_ | refine ⟨_,⟨by omega,SK⟩,?_⟩ | refine cD vU lA ?_ | exact Or.inl (Or.inl rfl) | exact Or.inl mw | exact CJ | exact trivial | exact Or.inl (Or.inl rfl) | exact Or.inl mw | exact zt | refine ⟨?_,?_⟩)
 ·exact (rfl:_=_)
 refine br ?_ ?_<;>intro g
 ·have g:Re≠0:=sU g;rw [aj g];have hl:eL 6 0 (([],Re,Ra):List Val × Int × Int)=(.mk 0 0 al [],Re,Ra):=by unfold eL;rw [aj g]
  rw [hl];refine cy [2,3] (fun _=>false) mo (by decide +kernel) ?_;exact ⟨_,ax,rfl⟩
 ·have g:Re=0:=sU g;have LM:Ra=0:=rf g;subst g;subst LM;rw [ah (by simp)];have hl:eL 6 0 (([Val.mk Rk Rn Rs Rl],0,0):List Val × Int × Int)=(.mk 6 0 al [.mk Rk Rn Rs Rl],0,0):=by unfold eL;rw [ah (by simp)];all_goals rfl
  rw [hl];refine cy [2,3] (fun _=>false) mo (by decide +kernel) ?_;exact ⟨_,ax,rfl⟩
end
section
variable (PC:List DV)
set_option maxHeartbeats 8000000 in
theorem union24_spec {ND:List Nd} (d:Nd) (qZ:d.aR.length<=1099511627776) (k a n:Int) (s:ByteArray) (keys:List Wd) (ks:List Rw) (lA:∀ r∈ks,∀ e∈d.aR,e.bare=false->bh prog 31 [.pt PC 0,.v (.int .i64 e.to),.agg (dRw r)] (oP (ckV ND r e.to))) :
  bh prog 79 [.pt PC 0,.agg (n4 d),.agg (dRw (.mk k a n s keys ks))] (oP (if k≠1/\(k≠6∨ks.length≠1) then bS 14 a
   else match mE d s with
    | none=>bS 9 a
    | some c=>match d.aR[c]? with
     | none=>bS 9 a
     | some e=>if k=1 then (if e.bare=true then jy (.mk 8 c al []) else bS 15 a) else if e.bare=true then bS 19 a else eL 8 c (ckL ND ks e.to []))):=by
 have hb:=fun e=>dD e (Rw.mk k a n s keys ks);have jI:=oa k a n s keys ks;have dt:=ob d s qZ;generalize cC:(decide (k=6) && decide (ks.length=1))=cl at jI;have CL:cl=true↔k=6/\ks.length=1:=by rw [<- cC];simp
 have gT:=fun {c}=>@j1 d s c;generalize mE d s=I at dt gT ⊢;obtain ⟨ai,cF,lo,hi,most,af,es⟩:=d;simp only at lA gT ⊢;by_cases c0:k≠1/\(k≠6∨ks.length≠1)
 ·rw [aj c0]
  have SL:cl=false:=by
   cases cl with
   | false=>rfl
   | true=>have:=CL.1 rfl;omega
  subst SL;refine eG 98 [.cell 6 61,.cell 7 26] func79 rfl ntmps79 rfl fun _ _ _ _=>?_;refine br (fun c=>?_) (fun c=>absurd c (by simpa using c0.1));refine cP Au jI ?_;refine cP fo (hb 14) ?_;exact ⟨_,ax,rfl⟩
 rw [ah c0];have rV:k=1∨(k=6/\ks.length=1):=by omega
 cases I with
 | none=>
  rcases rV with gK | ⟨LL,gK⟩
  ·subst gK;refine eG 98 [.cell 6 61,.cell 7 26] func79 rfl ntmps79 rfl fun _ _ _ _=>?_;refine cP si dt ?_;refine cP fo (hb 9) ?_;exact ⟨_,ax,rfl⟩
  ·have F3:cl=true:=CL.2 ⟨LL,gK⟩;subst F3 LL;refine eG 98 [.cell 6 61,.cell 7 26] func79 rfl ntmps79 rfl fun _ _ _ _=>?_;refine cP Au jI ?_;refine cP si dt ?_;refine cP fo (hb 9) ?_;exact ⟨_,ax,rfl⟩
 | some c=>
  obtain ⟨e,he,hnm⟩:=gT rfl;have DQ:=mG he;obtain ⟨J,hJ⟩:∃ J:Int,J=(c:Int):=⟨_,rfl⟩;have dt:bh prog 152 [.agg (n4 ⟨ai,cF,lo,hi,most,af,es⟩),.v (.string s)] (.v (.int .i64 J)):=by rw [hJ];exact dt
  have Qd:¬ J < 0:=by omega
  have O4:J.toNat=c:=by omega
  simp only [he];rw [<- hJ];rcases rV with gK | ⟨LL,gK⟩
  ·subst gK;rw [aj rfl];refine eG 98 [.cell 6 61,.cell 7 26] func79 rfl ntmps79 rfl fun _ _ _ _=>?_;refine cP si dt ?_;refine br (fun c=>absurd (show J < 0 by simpa using c) Qd) (fun _=>?_);refine ⟨_,⟨by omega,by rw [O4];exact gI he⟩,?_⟩;refine br ?_ ?_<;>intro c
   ·have c:e.bare=false:=by simpa [pickB] using c
    rw [ah (by rw [c];simp)];refine cP fo (hb 15) ?_;exact ⟨_,ax,rfl⟩
   ·have c:e.bare=true:=by simpa [pickB] using c
    rw [aj c];exact ⟨_,ax,rfl⟩
  ·obtain ⟨x,rfl⟩:=List.length_eq_one_iff.1 gK;have F3:cl=true:=CL.2 ⟨LL,rfl⟩;subst F3 LL;rw [ah (by omega)];have lA:=lA x (by simp) e DQ;have rf:=F2 (ND:=ND) x e.to;rw [A7];generalize ckV ND x e.to=R at lA rf ⊢;obtain ⟨⟨Rk,Rn,Rs,Rl⟩,Re,Ra⟩:=R;have SK:(dRws [x])[0]? = some (dRw x):=rfl;obtain ⟨xk,xa,xn,xs,xq,xl⟩:=x;simp only at lA rf ⊢;refine eG 98 [.cell 6 61,.cell 7 26] func79 rfl ntmps79 rfl fun _ _ _ _=>?_;refine cP Au jI ?_;refine cP si dt ?_;refine br (fun c=>absurd (show J < 0 by simpa using c) Qd) (fun _=>?_);refine ⟨_,⟨by omega,by rw [O4];exact gI he⟩,?_⟩;refine br ?_ ?_<;>intro c
   ·have c:e.bare=true:=by simpa [pickB] using c
    rw [aj c];refine cP fo (hb 19) ?_;exact ⟨_,ax,rfl⟩
   ·have c:e.bare=false:=by simpa [pickB] using c
    have lA:=lA c;rw [ah (by rw [c];simp)];obtain ⟨en,eb,ea,et,P8,ew,P9,Qa,Qb,Qc⟩:=e;simp only at lA;apply gJ (.op 0 (.op 1 (.op 2 (.op 3 (.op 4 (.op 5 (.op 6 (.op 7 (.op 8 (.op 9 (.op 10 (.ev 11 (.op 12 (.op 13 (.op 14 (.ev 15 (.ev 16 (.ev 17 (.ev 18 .fin .stop) .stop) .stop) (.ev 16 (.ev 15 (.ev 17 (.ev 18 .fin .stop) .stop) .stop) .stop))))) (.ev 15 (.ev 11 (.op 12 (.op 13 (.op 14 (.ev 16 (.ev 17 (.ev 18 .fin .stop) .stop) .stop)))) (.ev 16 (.ev 11 (.op 12 (.op 13 (.op 14 (.ev 17 (.ev 18 .fin .stop) .stop)))) .stop) .stop)) (.ev 16 (.ev 11 (.op 12 (.op 13 (.op 14 (.ev 15 (.ev 17 (.ev 18 .fin .stop) .stop) .stop)))) (.ev 15 (.ev 11 (.op 12 (.op 13 (.op 14 (.ev 17 (.ev 18 .fin .stop) .stop)))) .stop) .stop)) .stop)))))))))))))) 5 6 mo (by decide +kernel);·repeat' (first | refine ⟨_,⟨by omega,by rw [O4];exact gI he⟩,?_⟩ | refine ⟨_,⟨by omega,SK⟩,?_⟩ | refine cD vU lA ?_ | exact Or.inl (Or.inl rfl) | exact Or.inl mw | exact CJ | exact trivial | exact Or.inl (Or.inl rfl) | exact Or.inl mw | exact zt | refine ⟨?_,?_⟩)
    ·exact (rfl:_=_)
    refine br ?_ ?_<;>intro g
    ·have g:Re≠0:=sU g;rw [aj g];have hl:eL 8 J (([],Re,Ra):List Val × Int × Int)=(.mk 0 0 al [],Re,Ra):=by unfold eL;rw [aj g]
     rw [hl];refine cy [2,3] (fun _=>false) mo (by decide +kernel) ?_;exact ⟨_,ax,rfl⟩
    ·have g:Re=0:=sU g;have LM:Ra=0:=rf g;subst g;subst LM;rw [ah (by simp)];have hl:eL 8 J (([Val.mk Rk Rn Rs Rl],0,0):List Val × Int × Int)=(.mk 8 J al [.mk Rk Rn Rs Rl],0,0):=by unfold eL;rw [ah (by simp)];all_goals rfl
     rw [hl];exact ⟨_,ax,rfl⟩
end
theorem uR {n m:Nat} {tk:List TkE}:∀ {a a' b b':List DV},WeL n m tk a a' -> WeL n m tk b b' -> WeL n m tk (a ++ b) (a' ++ b')
 | [],a',b,b',h,h2=>by simp only [WeL] at h;subst h;exact h2
 | x :: r,a',b,b',h,h2=>by
  simp only [WeL] at h;obtain ⟨x',r',rfl,h3,h4⟩:=h;simp only [List.cons_append,WeL];exact ⟨x',r' ++ b',rfl,h3,uR h4 h2⟩
theorem F4 {n m:Nat} {tk:List TkE}:∀ k:Nat,WeL n m tk (List.replicate k Iu).flatten (dVals (List.replicate k zeroV)).flatten
 | 0=>by simp [dVals,WeL]
 | k + 1=>by
  rw [List.replicate_succ,List.replicate_succ,List.flatten_cons,dVals,List.flatten_cons];refine uR ?_ (F4 k);exact ⟨_,_,rfl,au rfl,_,_,rfl,au rfl,_,_,rfl,au rfl,_,_,rfl,Kz,rfl⟩
theorem F5 {n m:Nat} {tk:List TkE}:∀ vs:List Val,WeL n m tk (dVals vs).flatten (dVals vs).flatten
 | []=>by simp [dVals,WeL]
 | v :: r=>by
  obtain ⟨k,z,s,ks⟩:=v;rw [dVals,List.flatten_cons];exact uR ⟨_,_,rfl,au rfl,_,_,rfl,au rfl,_,_,rfl,au rfl,_,_,rfl,au rfl,rfl⟩ (F5 r)
theorem F6 {n m:Nat} {tk:List TkE} {l:List DV} {vs:List Val} (h:l=(dVals vs).flatten):WeL n m tk l (dVals vs).flatten:=by rw [h];exact F5 vs
theorem SM {bx:List (List DV)} {N n0 m0 n i:Nat} {vs:List Val} (hr:vs.length=n) (hN:N<=i) (hb:bx[i]? = some (dVals vs).flatten):Cc bx N n0 m0 (.sl 4 (dVals vs) none) (.ms i 4 0 n n):=by
 simp only [Cc]
 have hl:(dVals vs).flatten.length=vs.length * 4:=by
  clear hr hb
  induction vs with
  | nil=>rfl
  | cons v r ih=>
   obtain ⟨k,z,s,ks⟩:=v;rw [dVals,List.flatten_cons,List.length_append,ih,List.length_cons];show 4 + r.length * 4=_;omega
 refine Or.inr (Or.inr (Or.inl ⟨i,0,n,_,by rw [iw,hr],hN,hb,?_,j2 vs,?_⟩))
 ·rw [List.drop_zero,List.take_of_length_le (by rw [hl,iw];omega)]
 ·intro x hx;obtain ⟨l,H0,hx⟩:=List.mem_flatten.1 hx;rw [ey] at H0;obtain ⟨⟨k,z,s,ks⟩,_,rfl⟩:=List.mem_map.1 H0;simp [lp] at hx;rcases hx with rfl | rfl | rfl | rfl
  ·exact .inl ⟨_,rfl⟩
  ·exact .inl ⟨_,rfl⟩
  ·exact .inl ⟨_,rfl⟩
  ·exact .inr ⟨_,_,rfl⟩
abbrev O5 (L:List Bool) (e:Nat):St:=
 ⟨[dH 0 1 (Cx L),QI 1 false,aA 7 ((Cx L).length),aA 8 e],[],[]⟩
theorem xI (L:List Bool) (hl:L.length<=1099511627776):bh prog 234 [.sl 1 (Cx L) none,.v (.bool false)] (.v (.int .i64 (oz (bq (fun i=>decide (L[i]? = some false)) L.length)))):=by
 have sm:=uF L;refine eG 19 [.tmp 4] func234 rfl ntmps234 rfl fun _ _ _ _=>?_;refine lI (fun j st=>∃ e:Nat,st=O5 L e/\e<=L.length/\(∀ c,c < e->decide (L[c]? = some false)=false)/\j=L.length - e) ⟨0,rfl,by omega,fun _ h=>by omega,rfl⟩ (cL wB) ?_;rintro j st ⟨e,rfl,he,gP,rfl⟩;refine br ?_ ?_<;>intro hL
 ·have av:e < L.length:=sV sm hL;obtain ⟨x,hx⟩:=gX av;refine iX (Ik hx) ?_
  cases x with
  | false=>
   rw [cO av (decide_eq_true hx) gP];exact (rfl:_=_)
  | true=>
   exact rE ⟨_,by omega,e + 1,rfl,by omega,fun c jC=>by
     rcases q6 jC with h | h
     ·exact gP c h
     ·rw [h,hx];rfl,rfl⟩ (cL (iF (bV av (by omega))))
 ·have bO:e=L.length:=sW sm hL;subst bO;rw [dB gP];exact (rfl:_=_)
theorem rH (L:List Bool) (hl:L.length<=1099511627776):bh prog 153 [.sl 1 (Cx L) none,.v (.bool false)] (.v (.bool (!L.all id))):=by
 have mX:=xI L hl
 cases hI:bq (fun i=>decide (L[i]? = some false)) L.length with
 | none=>
  rw [hI] at mX
  have eB:L.all id=true:=by
   rw [List.all_eq_true];intro x hx;obtain ⟨i,hi,rfl⟩:=List.getElem_of_mem hx;have:=dY hI i hi;rw [gE hi] at this
   cases h:L[i] with
   | true=>rfl
   | false=>rw [h] at this;simp at this
  rw [eB];refine eG 9 [.tmp 4] func153 rfl ntmps153 rfl fun _ _ _ _=>?_;refine cP Jd mX ?_;exact (rfl:_=_)
 | some i=>
  rw [hI] at mX;obtain ⟨J,hJ⟩:∃ J:Int,J=(i:Int):=⟨_,rfl⟩;have mX:bh prog 234 [.sl 1 (Cx L) none,.v (.bool false)] (.v (.int .i64 J)):=by rw [hJ];exact mX
  have eB:L.all id=false:=by
   have h:=of_decide_eq_true (eu hI).2.1;rw [List.all_eq_false];exact ⟨false,mG h,by simp⟩
  rw [eB];refine eG 9 [.tmp 4] func153 rfl ntmps153 rfl fun _ _ _ _=>?_;refine cP Jd mX ?_;refine (dG ?_:);exact decide_eq_true (by omega)
abbrev j3 (acc:List (Option Val)):List Val:=acc.map fun x=>x.getD (.mk 0 0 al [])
abbrev iA (acc:List (Option Val)):List Bool:=acc.map Option.isSome
theorem F7 {n m:Nat} {tk:List TkE} {N k:Nat} (h:N=k):WeL n m tk (List.replicate N Iu).flatten (dVals (j3 (List.replicate k none))).flatten:=by
 subst h;have h2:j3 (List.replicate N none)=List.replicate N zeroV:=by simp [j3]
 rw [h2];exact F4 N
theorem O6 {N k:Nat} (h:N=k):(List.replicate N (vL [Value.bool false])).flatten=cB (iA (List.replicate k none)):=by
 subst h;rw [Sn];simp [iA]
theorem my (es:List Ed):(((iu es).length:Nat):Int).toNat=es.length:=by rw [Dk,dC]
theorem qI:∀ l:List Val,(dVals l).flatten.length=l.length * 4
 | []=>rfl
 | .mk k z s ks :: r=>by
  rw [dVals,List.flatten_cons,List.length_append,qI r,List.length_cons];show 4 + r.length * 4=_;omega
theorem xJ:∀ acc:List (Option Val),(iA acc).all id = !acc.any Option.isNone
 | []=>rfl
 | x :: r=>by
  rw [iA,List.map_cons,List.all_cons,List.any_cons];have h:=xJ r;rw [iA] at h;rw [h];cases x<;>rfl
theorem O7 {a b c d K H K' H' g x y:List DV} (h1:K'=K) (h2:H'=H) : [a,b,c,d,K,H,g,x,y]=[a,b,c,d,K',H',g,x,y]:=by rw [h1,h2]
theorem A8 (f:Nat->Nat):∀ l:List Bool,renL f (cB l)=cB l
 | []=>rfl
 | b :: r=>by rw [show cB (b :: r) = .v (.bool b) :: cB r from rfl,renL,A8 f r];all_goals rfl
theorem A9 (f:Nat->Nat):∀ l:List Val,renL f (dVals l).flatten=(dVals l).flatten
 | []=>rfl
 | .mk k z s ks :: r=>by
  have h:(dVals (.mk k z s ks :: r)).flatten = .v (.int .i64 k) :: .v (.int .i64 z) :: .v (.string s) :: .sl 4 (dVals ks) none :: (dVals r).flatten:=rfl;rw [h];simp only [renL,renD,A9 f r]
theorem SN {i j:Nat} {s S:St} (h:cp s (ch i j S):=by refine (⟨O7 (A9 _ _) (A8 _ _),rfl,?_⟩:_/\_/\_);(repeat (refine (⟨?_,?_⟩:_/\_);exact rfl));exact trivial):(s=S∨cp s S)∨cp s (ch i j S):=.inr h
section
variable (PC:List DV)
abbrev zI (d:Nd) (r:Rw) (ws:List Wd) (acc:List (Option Val)) (n e:Nat):St:=
 ⟨[ru 0 PC,aS 4 0,aS 5 1,aS 6 2,aS 7 3,(8,⟨[],.ms 4 4 0 n n⟩),(9,⟨[],.ms 5 1 0 n n⟩),dH 40 2 (bf ws),aA 41 ((bf ws).length),aA 42 e],[n4 d,dRw r,Iu,Us,(dVals (j3 acc)).flatten,cB (iA acc)],[]⟩
set_option maxHeartbeats 8000000 in
theorem rI {ND:List Nd} (d:Nd) (qZ:d.aR.length<=1099511627776) (k a n:Int) (s:ByteArray) (keys:List Wd) (ks:List Rw) (Uu:keys.length<=1099511627776) (lA:∀ r∈ks,∀ e∈d.aR,bh prog 31 [.pt PC 0,.v (.int .i64 e.to),.agg (dRw r)] (oP (ckV ND r e.to))) :
  bh prog 78 [.pt PC 0,.agg (n4 d),.agg (dRw (.mk k a n s keys ks))] (oP (if k≠5∨keys.length≠ks.length then bS 14 a else fB a (ckK ND d ks keys (List.replicate d.aR.length none)))):=by
 have hb:=fun e=>dD e (Rw.mk k a n s keys ks);have mU:=fA ks;have Mj:=aE keys;have dt:=fun w=>ob d w qZ;have gT:=fun w {c}=>@j1 d w c;have GR:=fun l (h:(iA l).length<=1099511627776)=>rH (iA l) h;by_cases c0:k≠5∨keys.length≠ks.length
 ·rw [aj c0];obtain ⟨ai,cF,lo,hi,most,af,es⟩:=d;refine eG 105 [.cell 6 61,.cell 7 26] func78 rfl ntmps78 rfl fun _ _ _ _=>?_;refine br ?_ ?_<;>intro c
  ·refine cP fo (hb 14) ?_;exact ⟨_,ax,rfl⟩
  ·exfalso
   have c:¬ (k≠5∨keys.length≠ks.length):=by
    intro c0;simp [lastG,aF,mU,Mj] at c;omega
   exact c c0
 rw [ah c0];obtain ⟨Un,hlen⟩:k=5/\keys.length=ks.length:=by omega
 subst Un;generalize hF:ckK ND d ks keys (List.replicate d.aR.length none)=F;obtain ⟨ai,cF,lo,hi,most,af,es⟩:=d;simp only at lA gT qZ hF ⊢;refine eG 105 [.cell 6 61,.cell 7 26] func78 rfl ntmps78 rfl fun _ _ _ _=>?_;refine br ?_ ?_<;>intro c
 ·exfalso;simp [lastG,aF,mU,Mj] at c;omega
 refine ⟨⟨rfl,by omega,by simp only [dC];omega,by simp only [dC];omega⟩,?_⟩;refine ⟨⟨rfl,by omega,by simp only [dC];omega,by simp only [dC];omega⟩,?_⟩;refine b9 (fun j st=>∃ (e:Nat) (acc:List (Option Val)),st=zI PC ⟨ai,cF,lo,hi,most,af,es⟩ (.mk 5 a n s keys ks) keys acc (iu es).length e/\e<=keys.length/\acc.length=es.length/\ckK ND ⟨ai,cF,lo,hi,most,af,es⟩ (ks.drop e) (keys.drop e) acc=F/\j=keys.length - e) keys.length (zI PC ⟨ai,cF,lo,hi,most,af,es⟩ (.mk 5 a n s keys ks) keys (List.replicate es.length none) (iu es).length 0) (jx 6 (by repeat' (first | exact rfl | exact au rfl | exact F7 (my es) | exact cI (O6 (my es)) | refine ⟨_,_,rfl,?_,?_⟩)) (by repeat' (first | exact trivial | exact au rfl | exact F7 (my es) | exact cI (O6 (my es)) | refine ⟨⟨_,rfl,?_⟩,?_⟩))) ⟨0,_,rfl,by omega,by simp,hF,by omega⟩ ?_;have HC:=dC es;rintro j st ⟨e,acc,rfl,he,CM,hg,rfl⟩;refine br ?_ ?_<;>intro hL
 ·have av:e < keys.length:=sV Mj hL;obtain ⟨w,hw⟩:=gX av;obtain ⟨x,hx⟩:∃ x,ks[e]? = some x:=⟨_,gE (by omega)⟩
  have Ma:keys.drop e=w :: keys.drop (e + 1):=by
   obtain ⟨h1,h2⟩:=List.getElem?_eq_some_iff.1 hw;rw [List.drop_eq_getElem_cons h1,h2]
  have hdx:ks.drop e=x :: ks.drop (e + 1):=by
   obtain ⟨h1,h2⟩:=List.getElem?_eq_some_iff.1 hx;rw [List.drop_eq_getElem_cons h1,h2]
  rw [Ma,hdx,ckK] at hg;have dt:=dt w.s;have gT:=fun {c}=>@gT w.s c;generalize mE ⟨ai,cF,lo,hi,most,af,es⟩ w.s=I at dt gT hg;obtain ⟨ws,wa⟩:=w;simp only at dt gT hg;refine iX (cz hw) ?_
  cases I with
  | none=>
   simp only at hg;subst hg;refine cP si dt ?_;refine cy [2,3] (fun _=>false) mo (by decide +kernel) ?_;exact ⟨_,ax,rfl⟩
  | some c=>
   obtain ⟨y,hy,_⟩:=gT rfl;simp only at hy hg;have cC:=(gS hy).1;have lA:=lA x (mG hx) y (mG hy);have O8:oB ⟨ai,cF,lo,hi,most,af,es⟩ c=y.to:=by unfold oB;simp only [hy]
   rw [O8] at hg;obtain ⟨J,hJ⟩:∃ J:Int,J=(c:Int):=⟨_,rfl⟩;have dt:bh prog 152 [.agg (n4 ⟨ai,cF,lo,hi,most,af,es⟩),.v (.string ws)] (.v (.int .i64 J)):=by rw [hJ];exact dt
   have Qd:¬ J < 0:=by omega
   have O4:J.toNat=c:=by omega
   obtain ⟨q,hq⟩:∃ q,acc[c]? = some q:=⟨_,gE (by omega)⟩;have GI:acc.getD c none=q:=by rw [jk,hq];all_goals rfl
   rw [GI] at hg
   have TN:(cB (iA acc))[0 + J.toNat * 1]? = some (.v (.bool q.isSome)):=by
    rw [show 0 + J.toNat * 1=c by omega];exact Lz (by rw [iA,List.getElem?_map,hq];rfl)
   refine cP si dt ?_;refine br (fun c=>absurd (show J < 0 by simpa using c) Qd) (fun _=>?_);refine ⟨⟨by omega,by omega⟩,?_⟩;refine ⟨.v (.bool q.isSome),TN,?_⟩;refine br ?_ ?_<;>intro cq
   ·have cq:q.isSome=true:=sU cq;rw [aj cq] at hg;subst hg;refine cy [2,3] (fun _=>false) mo (by decide +kernel) ?_;exact ⟨_,ax,rfl⟩
   have cq:¬ q.isSome=true:=sU cq;rw [ah cq] at hg;have rf:=F2 (ND:=ND) x y.to;generalize ckV ND x y.to=R at lA rf hg;obtain ⟨⟨Rk,Rn,Rs,Rl⟩,Re,Ra⟩:=R;obtain ⟨xk,xa,xn,xs,xq,xl⟩:=x;obtain ⟨en,eb,ea,et,P8,ew,P9,Qa,Qb,Qc⟩:=y;simp only at lA rf hg;apply gJ (.op 0 (.op 1 (.op 2 (.op 3 (.op 4 (.op 5 (.op 6 (.op 7 (.op 8 (.op 9 (.op 10 (.op 11 (.ev 12 (.op 13 (.op 14 (.op 15 (.ev 16 (.ev 17 (.ev 18 (.ev 19 .fin .stop) .stop) .stop) (.ev 17 (.ev 16 (.ev 18 (.ev 19 .fin .stop) .stop) .stop) .stop))))) (.ev 16 (.ev 12 (.op 13 (.op 14 (.op 15 (.ev 17 (.ev 18 (.ev 19 .fin .stop) .stop) .stop)))) (.ev 17 (.ev 12 (.op 13 (.op 14 (.op 15 (.ev 18 (.ev 19 .fin .stop) .stop)))) .stop) .stop)) (.ev 17 (.ev 12 (.op 13 (.op 14 (.op 15 (.ev 16 (.ev 18 (.ev 19 .fin .stop) .stop) .stop)))) (.ev 16 (.ev 12 (.op 13 (.op 14 (.op 15 (.ev 18 (.ev 19 .fin .stop) .stop)))) .stop) .stop)) .stop))))))))))))))) 7 8 mo (by decide +kernel);·repeat' (first | refine ⟨_,⟨by omega,by rw [O4];exact gI hy⟩,?_⟩ | refine iX (jZ hx) ?_ | refine cD vU lA ?_ | exact Or.inl (Or.inl rfl) | exact Or.inl mw | exact SN | exact trivial | exact Or.inl (Or.inl rfl) | exact Or.inl mw | exact zt | refine ⟨?_,?_⟩)
   ·exact (rfl:_=_)
   refine br ?_ ?_<;>intro g
   ·have g:Re≠0:=sU g;rw [aj g] at hg;subst hg;refine cy [2,3] (fun _=>false) mo (by decide +kernel) ?_;have hl:fB a (([],Re,Ra):List (Option Val) × Int × Int)=(.mk 0 0 al [],Re,Ra):=by unfold fB;rw [aj g]
    rw [hl];exact ⟨_,ax,rfl⟩
   have g:Re=0:=sU g;rw [ah (by rw [g];simp)] at hg;have hsk:(j3 (acc.set c (some (Val.mk Rk Rn Rs Rl))))=(j3 acc).set c (.mk Rk Rn Rs Rl):=by rw [j3,List.map_set];all_goals rfl
   have hsh:iA (acc.set c (some (Val.mk Rk Rn Rs Rl)))=(iA acc).set c true:=by rw [iA,List.map_set];all_goals rfl
   have gL:(j3 acc).length=es.length:=by rw [j3,List.length_map,CM]
   have Uv:(iA acc).length=es.length:=by rw [iA,List.length_map,CM]
   have JW:=tu (x:=lp (.mk Rk Rn Rs Rl)) (j2 (j3 acc)) (e:=c) (by rw [iw,gL];exact cC);rw [<- CI,<- hsk] at JW;have Ts:(dVals (j3 acc)).flatten.length=es.length * 4:=by rw [qI,gL]
   have Uw:(dVals (j3 acc)).flatten.take (0 + J.toNat * 4) ++ lp (.mk Rk Rn Rs Rl) ++ (dVals (j3 acc)).flatten.drop (0 + J.toNat * 4 + 4)=(dVals (j3 (acc.set c (some (Val.mk Rk Rn Rs Rl))))).flatten:=by
    rw [show 0 + J.toNat * 4=c * 4 by omega];exact JW.symm
   have Ux:(cB (iA acc)).set (0 + J.toNat * 1) (.v (.bool true))=cB (iA (acc.set c (some (Val.mk Rk Rn Rs Rl)))):=by
    rw [show 0 + J.toNat * 1=c by omega,hsh,LA]
   refine ⟨⟨by omega,by omega⟩,?_⟩;refine ⟨by show 0 + J.toNat * 4 + 4<=_;omega,?_⟩;refine ⟨⟨by omega,by omega⟩,?_⟩;refine ⟨by show 0 + J.toNat * 1 + 1<=_;rw [FL];omega,?_⟩;exact ⟨zI PC ⟨ai,cF,lo,hi,most,af,es⟩ (.mk 5 a n s keys ks) keys (acc.set c (some (Val.mk Rk Rn Rs Rl))) (iu es).length (e + 1),(jx 6 (by repeat' (first | exact rfl | exact au rfl | exact az (bV av (by omega)) | exact F6 Uw | exact cI Ux | refine ⟨_,_,rfl,?_,?_⟩)) (by repeat' (first | exact trivial | exact au rfl | exact az (bV av (by omega)) | exact F6 Uw | exact cI Ux | refine ⟨⟨_,rfl,?_⟩,?_⟩))),keys.length - (e + 1),by omega,e + 1,_,rfl,by omega,by rw [List.length_set];exact CM,hg,rfl⟩
 ·have bO:e=keys.length:=sW Mj hL;subst bO;rw [hlen,List.drop_length,ckK] at hg
  ·subst hg;have GR:=GR acc (by rw [List.length_map,CM];exact qZ);have Uv:(iA acc).length=(iu es).length:=by rw [iA,List.length_map,CM,HC]
   have gL:(j3 acc).length=(iu es).length:=by rw [j3,List.length_map,CM,HC]
   have eB:(iA acc).all id = !acc.any Option.isNone:=xJ acc;rw [eB] at GR;have hR:fB a ((acc,0,0):List (Option Val) × Int × Int)=if acc.any Option.isNone=true then bS 15 a else jy (.mk 7 0 al (j3 acc)):=by unfold fB;rw [ah (by simp)]
   rw [hR];clear hR eB;generalize acc.any Option.isNone=bb at GR ⊢;refine mZ Na GR (by repeat' (first | exact rfl | exact trivial | exact Or.inr (Or.inl ⟨_,rfl⟩) | exact Or.inr ⟨_,rfl⟩ | exact Or.inl ⟨rfl,rfl⟩ | exact Or.inl rfl | refine Or.inr ⟨_,_,rfl,Nat.zero_le _,rfl,?_⟩ | refine ⟨_,_,rfl,?_,?_⟩ | refine ⟨_,rfl,?_⟩ | exact SF Uv (Nat.zero_le _) rfl | refine Or.inr (Or.inr (Or.inr ⟨_,_,rfl,?_⟩)) | exact Or.inl rfl | refine Or.inr ?_)) rfl ?_;refine br ?_ ?_<;>intro g
   ·have g:bb=true:=sU g;rw [aj g];refine cP fo (hb 15) ?_;exact ⟨_,ax,rfl⟩
   ·have g:¬ bb=true:=sU g;rw [ah g];exact ⟨_,(by repeat' (first | exact rfl | exact trivial | exact Or.inr (Or.inl ⟨_,rfl⟩) | exact Or.inr ⟨_,rfl⟩ | exact Or.inl ⟨rfl,rfl⟩ | exact Or.inl rfl | refine Or.inr ⟨_,_,rfl,Nat.zero_le _,rfl,?_⟩ | refine ⟨_,_,rfl,?_,?_⟩ | refine ⟨_,rfl,?_⟩ | exact SM gL (Nat.zero_le _) rfl | refine Or.inr (Or.inr (Or.inr ⟨_,_,rfl,?_⟩)) | exact Or.inl rfl | refine Or.inr ?_)),rfl⟩
  ·intro _ _ _ _ h;cases h
end
mutual
def RwB:Rw->Prop
 | .mk _ _ _ _ keys ks=>keys.length<=1099511627776/\RwBs ks
def RwBs:List Rw->Prop
 | []=>True
 | v :: r=>RwB v/\RwBs r
end
theorem xK:∀ {l:List Rw} {x:Rw},RwBs l->x∈l->RwB x
 | v :: r,x,h,hm=>by
  rw [RwBs] at h;rcases bX hm with rfl | hm
  ·exact h.1
  ·exact xK h.2 hm
mutual
def oQ:Rw->Nat
 | .mk _ _ _ s keys ks=>64 + s.size + wdsWt keys + eM ks
def eM:List Rw->Nat
 | []=>0
 | v :: r=>oQ v + eM r
end
theorem qJ:∀ {l:List Rw} {x:Rw},x∈l->oQ x<=eM l
 | v :: r,x,h=>by
  rw [eM];rcases bX h with rfl | h
  ·omega
  ·have:=qJ h;omega
theorem uS:∀ r:Rw,64<=oQ r
 | .mk _ _ _ _ _ _=>by rw [oQ];omega
theorem qK:∀ l:List Rw,l.length<=eM l
 | []=>bd _
 | v :: r=>by
  have:=qK r;have:=uS v;rw [eM,List.length_cons];omega
mutual
theorem F8:∀ r:Rw,oQ r<=1099511627776->RwB r
 | .mk _ _ _ s keys ks,h=>by
  rw [oQ] at h;rw [RwB];have:=bQ keys;exact ⟨by omega,Ba ks (by omega)⟩
theorem Ba:∀ l:List Rw,eM l<=1099511627776->RwBs l
 | [],_=>trivial
 | v :: r,h=>by
  rw [eM] at h;rw [RwBs];exact ⟨F8 v (by omega),Ba r (by omega)⟩
end
mutual
def rJ:Rw->Nat
 | .mk _ _ _ _ _ ks=>eU ks + 1
def eU:List Rw->Nat
 | []=>0
 | v :: r=>max (rJ v) (eU r)
end
mutual
theorem Bb:∀ v:Rw,ji v<=oQ v/\rJ v<=oQ v
 | .mk _ _ _ _ _ ks=>by
  have:=qL ks;rw [ji,rJ,oQ];omega
theorem qL:∀ l:List Rw,fO l<=eM l/\eU l<=eM l
 | []=>⟨bd _,bd _⟩
 | v :: r=>by
  have h1:=Bb v;have h2:=qL r;rw [fO,eU,eM];omega
end
theorem qM:∀ (l:List Rw) (x:Rw),fO (l ++ [x])=fO l + ji x
 | [],x=>by simp [fO]
 | v :: r,x=>by rw [List.cons_append,fO,fO,qM r];omega
theorem qN:∀ (l:List Rw) (x:Rw),eU (l ++ [x])=max (eU l) (rJ x)
 | [],x=>by simp [eU]
 | v :: r,x=>by rw [List.cons_append,eU,eU,qN r];omega
theorem zJ (l:List Rw):∀ e,fO (l.take e)<=eM l/\eU (l.take e)<=eM l:=fun e=>by
 have h1:=qL (l.take e)
 have h2:∀ (l:List Rw) e,eM (l.take e)<=eM l:=by
  intro l
  induction l with
  | nil=>intro e;simp [eM]
  | cons v r ih=>
   intro e
   cases e with
   | zero=>simp [eM]
   | succ e=>have:=ih e;simp only [List.take_succ_cons,eM];omega
 have:=h2 l e;omega
abbrev O9 (v:Rw) (n d e:Nat):St:=
 ⟨[aS 1 0,aA 4 n,aA 5 d,aA 6 e],[dRw v],[]⟩
theorem oc:∀ (k:Nat) (v:Rw),oQ v<=k->oQ v<=1099511627776->bh prog 30 [.agg (dRw v)] (.cj [.v (.int .i64 (ji v:Nat)),.v (.int .i64 (rJ v:Nat))])
 | 0,v,h,_=>by have:=uS v;omega
 | k + 1,.mk q a n s keys ks,h,hb=>by
  have ih:=oc k;have sm:=fA ks;have mU:=qK ks;have om:=zJ ks;rw [oQ] at h hb;rw [ji,rJ];refine eG 35 [.tmp 2,.tmp 3] func30 rfl ntmps30 rfl fun _ _ _ _=>?_;refine lJ (fun e=>O9 (.mk q a n s keys ks) (1 + fO (ks.take e)) (eU (ks.take e)) e) ks.length (cL wB) ?_;intro e he;refine br ?_ ?_<;>intro hL
  ·have av:e < ks.length:=by have:=hL;simp [sm] at this;exact this
   obtain ⟨x,hx⟩:=gX av;have OD:=qJ (mG hx);have hc:=qM (ks.take e) x;have hd:=qN (ks.take e) x;rw [<- nB hx] at hc hd;have h1:=om (e + 1);have hi:=ih x (by omega) (by omega);have GR:=Bb x;obtain ⟨xk,xa,xn,xs,xq,xl⟩:=x;refine iX (jZ hx) ?_;refine cP MZ hi ?_;have hw:IntKind.i64.wrap (((1 + fO (ks.take e):Nat):Int) + ((ji (.mk xk xa xn xs xq xl):Nat):Int))=((1 + fO (ks.take (e + 1)):Nat):Int):=by rw [wrap64 (by omega) (by omega)];omega
   refine br ?_ ?_<;>intro g
   ·have g:eU (ks.take e) < rJ (.mk xk xa xn xs xq xl):=sU g;have BF:((rJ (.mk xk xa xn xs xq xl):Nat):Int)=((eU (ks.take (e + 1)):Nat):Int):=by omega
    exact rE ⟨_,by omega,e + 1,rfl,by omega,rfl⟩ (cL (MJ hw BF (bV av (by omega))))
   ·have g:¬ eU (ks.take e) < rJ (.mk xk xa xn xs xq xl):=sU g;have BF:((eU (ks.take e):Nat):Int)=((eU (ks.take (e + 1)):Nat):Int):=by omega
    exact rE ⟨_,by omega,e + 1,rfl,by omega,rfl⟩ (cL (MJ hw BF (bV av (by omega))))
  ·have bO:e=ks.length:=sW sm hL;subst bO;have h1:=om ks.length;rw [List.take_length] at h1 ⊢;have hw:IntKind.i64.wrap (((eU ks:Nat):Int) + 1)=((eU ks + 1:Nat):Int):=by rw [wrap64 (by omega) (by omega)];omega
   refine ⟨_,(r8 hw),rfl⟩
theorem CN:prog.cellsOf 70=6:=by kernel_rfl
theorem Bc {m:Nat} (ih:∀ k,k<=m->∀ ds,Typ prog k 70 ds->∃ v:Rw,ds=dRw v/\oQ v<=wgL ds) :
  ∀ {es:List (List DV)},(∀ cs∈es,Typ prog m 70 cs)->∃ l:List Rw,es=dRws l/\eM l<=wgEs es
 | [],h=>⟨[],rfl,by simp [eM]⟩
 | cs :: r,h=>by
  obtain ⟨l,rfl,hl⟩:=Bc ih (es:=r) (fun c hc=>h c (dm _ hc));obtain ⟨v,rfl,hv⟩:=ih m (bd _) cs (h cs (by simp));exact ⟨v :: l,rfl,by simp only [eM,wgEs];omega⟩
theorem typ_raw:∀ (n:Nat) (ds:List DV),Typ prog n 70 ds->∃ v:Rw,ds=dRw v/\oQ v<=wgL ds:=by
 intro n
 induction n using Nat.strongRecOn with
 | _ n ih=>
  intro ds h;obtain ⟨m,rfl,hf⟩:=jP Tryz.underlying70 h;obtain ⟨a1,b1,rfl,h1,a2,b2,rfl,h2,a3,b3,rfl,h3,a4,b4,rfl,h4,a5,b5,rfl,h5,a6,b6,rfl,h6,rfl⟩:=hf;obtain ⟨k,rfl,_⟩:=jt h1;obtain ⟨a,rfl,_⟩:=jt h2;obtain ⟨z,rfl,_⟩:=jt h3;obtain ⟨s,rfl⟩:=AH Tryz.underlying9 h4;obtain ⟨keys,rfl,hw⟩:=l7 h5;obtain ⟨j,es,rfl,rfl,gT⟩:=pU Tryz.underlying68 h6;obtain ⟨l,rfl,wl⟩:=Bc (fun i hi=>ih i (by omega)) gT;rw [CN];refine ⟨.mk k a z s keys l,rfl,?_⟩;simp only [oQ,dA,wgL,wgD] at *;omega
def tyRS:List TypeId:=[70,68,29,34,9,3]
theorem tyRS_ok:∀ t∈tyRS,lf prog tyRS t=true:=by
 have h:(tyRS.all fun t=>lf prog tyRS t)=true:=by kernel_rfl
 exact fun t ht=>List.all_eq_true.1 h t ht
set_option maxHeartbeats 4000000 in
theorem eN {S:Sch} {ND:List Nd} {PC:List DV} (hP:AZ S ND PC):∀ (m:Nat) (r:Rw),ji r<=m->RwB r->∀ i:Int,bh prog 31 [.pt PC 0,.v (.int .i64 i),.agg (dRw r)] (oP (ckV ND r i))
 | 0,r,h,_=>by have:=mr r;omega
 | m + 1,.mk k a n s keys ks,h,hB=>fun i=>by
  have ih:=eN hP m;rw [RwB] at hB;rw [ji] at h;have Uu:=hB.1;have Qe:∀ r∈ks,∀ i:Int,bh prog 31 [.pt PC 0,.v (.int .i64 i),.agg (dRw r)] (oP (ckV ND r i)):=fun r hr=>ih r (by have:=iy hr;omega) (xK hB.2 hr);clear ih hB h;rw [ckV];have fy:=hP.ag;have LN:=hP.JU;have fL:=hP.ok
  cases hd:gR ND i with
  | none=>
   refine eG 79 [.cell 6 61,.cell 7 26] func31 rfl ntmps31 rfl fun _ _ _ _=>?_;refine cP tY (LN i (zy hd)) ?_;exact ⟨_,ax,rfl⟩
  | some d=>
   obtain ⟨h0,hg⟩:=jh hd;obtain ⟨j,rfl⟩:∃ j:Nat,i=j:=⟨i.toNat,by omega⟩;have hg:ND[j]? = some d:=sU hg;have hN:=fL d (mG hg);have gK:=hN.k1;have Uo:=hN.k8
   have qZ:d.aR.length<=1099511627776:=by
    by_cases c:d.ai < 5
    ·rw [hN.leaf c];simp
    by_cases c2:d.ai=5∨d.ai=6
    ·obtain ⟨e,he,_⟩:=hN.one c2;rw [he];simp
    ·have:=(hN.many (by omega)).1;omega
   have fy:=fy j _ hg;simp only;rcases (show d.ai=1∨d.ai=2∨d.ai=3∨d.ai=4∨d.ai=5∨d.ai=6∨d.ai=7∨d.ai=8 by omega) with c | c | c | c | c | c | c | c
   ·have hx:=uM d c k a n s keys ks;rw [aj (by omega)];generalize ckLeaf d k a n s=R at hx ⊢;obtain ⟨⟨Rk,Rn,Rs,Rl⟩,Re,Ra⟩:=R;obtain ⟨ai,cF,lo,hi,most,af,es⟩:=d;simp only at c;subst c;refine eG 79 [.cell 6 61,.cell 7 26] func31 rfl ntmps31 rfl fun _ _ _ _=>?_;refine cP tY fy ?_;refine cP Q5 hx ?_;exact ⟨_,ax,rfl⟩
   ·have hx:=rG d c k a n s keys ks;rw [aj (by omega)];generalize ckLeaf d k a n s=R at hx ⊢;obtain ⟨⟨Rk,Rn,Rs,Rl⟩,Re,Ra⟩:=R;obtain ⟨ai,cF,lo,hi,most,af,es⟩:=d;simp only at c;subst c;refine eG 79 [.cell 6 61,.cell 7 26] func31 rfl ntmps31 rfl fun _ _ _ _=>?_;refine cP tY fy ?_;refine cP Q6 hx ?_;exact ⟨_,ax,rfl⟩
   ·have hx:=xE d c k a n s keys ks;rw [aj (by omega)];generalize ckLeaf d k a n s=R at hx ⊢;obtain ⟨⟨Rk,Rn,Rs,Rl⟩,Re,Ra⟩:=R;obtain ⟨ai,cF,lo,hi,most,af,es⟩:=d;simp only at c;subst c;refine eG 79 [.cell 6 61,.cell 7 26] func31 rfl ntmps31 rfl fun _ _ _ _=>?_;refine cP tY fy ?_;refine cP Q7 hx ?_;exact ⟨_,ax,rfl⟩
   ·have hx:=xF d c (by have:=(hN.af c).2.1;omega) k a n s keys ks;rw [aj (by omega)];generalize ckLeaf d k a n s=R at hx ⊢;obtain ⟨⟨Rk,Rn,Rs,Rl⟩,Re,Ra⟩:=R;obtain ⟨ai,cF,lo,hi,most,af,es⟩:=d;simp only at c;subst c;refine eG 79 [.cell 6 61,.cell 7 26] func31 rfl ntmps31 rfl fun _ _ _ _=>?_;refine cP tY fy ?_;refine cP Q8 hx ?_;exact ⟨_,ax,rfl⟩
   ·obtain ⟨y,hy,_⟩:=hN.one (by omega);have re:d.aR[0]? = some y:=by rw [hy];all_goals rfl
    have O8:oB d 0=y.to:=by unfold oB;rw [re]
    have hx:=xH PC d c re (hN.JT c).2 k a n s keys ks (fun r hr=>Qe r hr y.to);rw [ah (by omega),aj c,O8]
    suffices key:∀ R:zA,bh prog 76 [.pt PC 0,.agg (n4 d),.agg (dRw (.mk k a n s keys ks))] (oP R)->bh prog 31 [.pt PC 0,.v (.int .i64 (j:Nat)),.agg (dRw (.mk k a n s keys ks))] (oP R) from key _ hx
    clear hx;rintro ⟨⟨Rk,Rn,Rs,Rl⟩,Re,Ra⟩ hx;obtain ⟨ai,cF,lo,hi,most,af,es⟩:=d;simp only at c;subst c;refine eG 79 [.cell 6 61,.cell 7 26] func31 rfl ntmps31 rfl fun _ _ _ _=>?_;refine cP tY fy ?_;refine cP Q9 hx ?_;exact ⟨_,ax,rfl⟩
   ·obtain ⟨y,hy,_⟩:=hN.one (by omega);have re:d.aR[0]? = some y:=by rw [hy];all_goals rfl
    have O8:oB d 0=y.to:=by unfold oB;rw [re]
    have hx:=zH PC d re k a n s keys ks (fun r hr=>Qe r hr y.to);rw [ah (by omega),ah (by omega),aj c,O8]
    suffices key:∀ R:zA,bh prog 77 [.pt PC 0,.agg (n4 d),.agg (dRw (.mk k a n s keys ks))] (oP R)->bh prog 31 [.pt PC 0,.v (.int .i64 (j:Nat)),.agg (dRw (.mk k a n s keys ks))] (oP R) from key _ hx
    clear hx;rintro ⟨⟨Rk,Rn,Rs,Rl⟩,Re,Ra⟩ hx;obtain ⟨ai,cF,lo,hi,most,af,es⟩:=d;simp only at c;subst c;refine eG 79 [.cell 6 61,.cell 7 26] func31 rfl ntmps31 rfl fun _ _ _ _=>?_;refine cP tY fy ?_;refine cP Rb hx ?_;exact ⟨_,ax,rfl⟩
   ·have hx:=rI PC d qZ k a n s keys ks Uu (fun r hr e _=>Qe r hr e.to);rw [ah (by omega),ah (by omega),ah (by omega),aj c]
    suffices key:∀ R:zA,bh prog 78 [.pt PC 0,.agg (n4 d),.agg (dRw (.mk k a n s keys ks))] (oP R)->bh prog 31 [.pt PC 0,.v (.int .i64 (j:Nat)),.agg (dRw (.mk k a n s keys ks))] (oP R) from key _ hx
    clear hx;rintro ⟨⟨Rk,Rn,Rs,Rl⟩,Re,Ra⟩ hx;obtain ⟨ai,cF,lo,hi,most,af,es⟩:=d;simp only at c;subst c;refine eG 79 [.cell 6 61,.cell 7 26] func31 rfl ntmps31 rfl fun _ _ _ _=>?_;refine cP tY fy ?_;refine cP Rc hx ?_;exact ⟨_,ax,rfl⟩
   ·have hx:=union24_spec PC d qZ k a n s keys ks (fun r hr e _ _=>Qe r hr e.to);rw [ah (by omega),ah (by omega),ah (by omega),ah (by omega)]
    suffices key:∀ R:zA,bh prog 79 [.pt PC 0,.agg (n4 d),.agg (dRw (.mk k a n s keys ks))] (oP R)->bh prog 31 [.pt PC 0,.v (.int .i64 (j:Nat)),.agg (dRw (.mk k a n s keys ks))] (oP R) from key _ hx
    clear hx;rintro ⟨⟨Rk,Rn,Rs,Rl⟩,Re,Ra⟩ hx;obtain ⟨ai,cF,lo,hi,most,af,es⟩:=d;simp only at c;subst c;refine eG 79 [.cell 6 61,.cell 7 26] func31 rfl ntmps31 rfl fun _ _ _ _=>?_;refine cP tY fy ?_;refine cP Rf hx ?_;exact ⟨_,ax,rfl⟩
theorem xL:∀ (a b:List Val),eC (a ++ b)=eC a + eC b
 | [],b=>by simp [eC]
 | v :: r,b=>by rw [List.cons_append,eC,eC,xL r b];omega
theorem mz:al.size=0:=rfl
theorem CO {d:Nd} {k a n:Int} {s:ByteArray}:(ckLeaf d k a n s).1.wt<=64 + s.size:=by
 have he:=mz;unfold ckLeaf
 repeat' split
 all_goals (simp only [jy,bS,Val.wt,eC];omega)
def wtO:List (Option Val)->Nat
 | []=>0
 | x :: r=>(match x with | some v=>v.wt | none=>0) + wtO r
theorem Bd:∀ n:Nat,wtO (List.replicate n none)=0
 | 0=>rfl
 | n + 1=>by rw [List.replicate_succ,wtO,Bd n]
theorem Be {v:Val}:∀ {l:List (Option Val)} {c:Nat},(l.getD c none).isSome≠true->wtO (l.set c (some v))<=wtO l + v.wt
 | [],c,_=>by simp [wtO]
 | x :: r,0,h=>by
  cases x with
  | none=>simp only [List.set_cons_zero,wtO];omega
  | some y=>exact (h rfl).elim
 | x :: r,c + 1,h=>by
  have:=Be (v:=v) (l:=r) (c:=c) (sU h);simp only [List.set_cons_succ,wtO];omega
theorem Bf:∀ {l:List (Option Val)},l.any Option.isNone≠true->eC (l.map fun x=>x.getD (.mk 0 0 al []))=wtO l
 | [],_=>rfl
 | x :: r,h=>by
  rw [List.any_cons] at h
  cases x with
  | none=>exact (h rfl).elim
  | some y=>
   rw [List.map_cons,eC,wtO,Bf (sU h)];rfl
theorem uT {k n:Int} {t:List Val × Int × Int} {m:Nat} (h:t.2.1=0->eC t.1<=m):(eL k n t).1.wt<=64 + m:=by
 have he:=mz;unfold eL;split
 ·simp only [Val.wt,eC];omega
 ·rename_i h1;have:=h (Decidable.not_not.1 h1);simp only [jy,Val.wt];omega
theorem Iw {a:Int} {t:List (Option Val) × Int × Int} {m:Nat} (h:t.2.1=0->wtO t.1<=m):(fB a t).1.wt<=64 + m:=by
 have he:=mz;unfold fB;split
 ·simp only [Val.wt,eC];omega
 ·rename_i h1;split
  ·simp only [bS,Val.wt,eC];omega
  ·rename_i h2;have:=h (Decidable.not_not.1 h1);simp only [jy,Val.wt];rw [Bf h2];omega
theorem F9 {ND:List Nd}:∀ {l:List Rw} {i:Int} {acc:List Val},(∀ r∈l,∀ i,(ckV ND r i).1.wt<=oQ r)->eC (ckL ND l i acc).1<=eC acc + eM l
 | [],i,acc,_=>by rw [ckL];exact Nat.le_add_right _ _
 | r :: l,i,acc,h=>by
  rw [ckL,eM];split
  ·simp only [eC];omega
  ·have h1:=F9 (l:=l) (i:=i) (acc:=acc ++ [(ckV ND r i).1]) (fun x hx=>h x (dm _ hx));have h2:=h r List.mem_cons_self i;rw [xL,eC,eC] at h1;omega
theorem Ga {ND:List Nd} {d:Nd}:∀ {l:List Rw} {ws:List Wd} {acc:List (Option Val)},(∀ r∈l,∀ i,(ckV ND r i).1.wt<=oQ r)->wtO (ckK ND d l ws acc).1<=wtO acc + eM l
 | [],ws,acc,_=>by
  rw [ckK]
  ·exact Nat.le_add_right _ _
  ·simp
 | r :: l,[],acc,_=>by
  rw [ckK]
  ·exact Nat.le_add_right _ _
  ·simp
 | r :: l,w :: ws,acc,h=>by
  rw [ckK,eM]
  cases mE d w.s with
  | none=>simp only [wtO];omega
  | some c=>
   simp only;split
   ·simp only [wtO];omega
   ·rename_i h1;split
    ·simp only [wtO];omega
    ·have h2:=Ga (d:=d) (l:=l) (ws:=ws) (acc:=acc.set c (some (ckV ND r (oB d c)).1)) (fun x hx=>h x (dm _ hx));have h3:=h r List.mem_cons_self (oB d c);have h4:=Be (v:=(ckV ND r (oB d c)).1) h1;omega
theorem JX {ND:List Nd}:∀ (m:Nat) (r:Rw),ji r<=m->∀ i,(ckV ND r i).1.wt<=oQ r
 | 0,r,h=>by have:=mr r;omega
 | m + 1,.mk k a n s keys ks,h=>fun i=>by
  have he:=mz;have ih:∀ r∈ks,∀ i,(ckV ND r i).1.wt<=oQ r:=fun r hr=>JX m r (by have:=iy hr;rw [ji] at h;omega);have hL:=fun j=>F9 (ND:=ND) (l:=ks) (i:=j) (acc:=[]) ih;have hz:∀ e b:Int,(bS e b).1.wt=64:=fun _ _=>rfl;rw [ckV,oQ]
  cases hd:gR ND i with
  | none=>simp only [hz];omega
  | some d=>
   have hK:=Ga (ND:=ND) (d:=d) (l:=ks) (ws:=keys) (acc:=List.replicate d.aR.length none) ih;rw [Bd] at hK;simp only;split
   ·have:=@CO d k a n s;omega
   split
   ·split
    ·rw [hz];omega
    split
    ·rw [hz];omega
    have:=@uT 5 0 (ckL ND ks (oB d 0) []) (eM ks) (fun _=>by have:=hL (oB d 0);rw [eC] at this;omega);omega
   split
   ·split
    ·simp only [jy,Val.wt,eC];omega
    split
    ·rw [hz];omega
    have:=@uT 6 0 (ckL ND ks (oB d 0) []) (eM ks) (fun _=>by have:=hL (oB d 0);rw [eC] at this;omega);omega
   split
   ·split
    ·rw [hz];omega
    have:=@Iw a (ckK ND d ks keys (List.replicate d.aR.length none)) (eM ks) (fun _=>by omega);omega
   split
   ·rw [hz];omega
   cases mE d s with
   | none=>simp only [hz];omega
   | some c=>
    simp only
    cases d.aR[c]? with
    | none=>simp only [hz];omega
    | some e=>
     simp only;split
     ·split
      ·simp only [jy,Val.wt,eC];omega
      ·rw [hz];omega
     split
     ·rw [hz];omega
     have:=@uT 8 c (ckL ND ks e.to []) (eM ks) (fun _=>by have:=hL e.to;rw [eC] at this;omega);omega
end Go.Proofs.YtfdedoiiahbnnaaGreat
namespace Go.Proofs.YtfdedoiiahbnnaaGreat
namespace Dv
open Go Go.RowKit
def stepO (X:Ctx) (ops:Array Oper) (i:Nat) (st:St) (K:St->Prop):Prop:=
 match ops.toList[i]? with
 | none=>False
 | some o=>
  match dE X.nt st.sl o.dst with
  | false=>False
  | true=>
   match o.guard with
   | some _=>False
   | none=>
    match pureT X.P X.T st [] o.op with
    | some s=>putK st o.dst ⟨[],s⟩ K
    | none=>eff X (go X 4000) o [.mB K] st
def Gb (X:Ctx) (ops:Array Oper) (k:List It):de->St->Prop
 | .fin,st=>go X 4000 k st
 | .op i t,st=>stepO X ops i st (Gb X ops k t)
 | .ev i t alt,st=>stepO X ops i st (Gb X ops k t)/\Gb X ops k alt st
 | .stop,_=>True
def chkT9 (ops:Array Oper):de->Nat->Array Bool->List Nat->Bool
 | .fin,_,ak,seen=>seen.isEmpty && (Region.ready .any ops ak).isEmpty
 | .op _ _,0,_,_=>false
 | .op i t,n + 1,ak,seen=>seen.isEmpty && (!(Region.ready .any ops ak).isEmpty && ((Region.ready .any ops ak).all (Nat.beq i) && chkT9 ops t n (ak.setIfInBounds i true) []))
 | .ev _ _ _,0,_,_=>false
 | .ev i t alt,n + 1,ak,seen=>!(Region.ready .any ops ak).isEmpty && (chkT9 ops t n (ak.setIfInBounds i true) [] && chkT9 ops alt (n + 1) ak (i :: seen))
 | .stop,_,ak,seen=>!seen.isEmpty && (Region.ready .any ops ak).all seen.contains
theorem od {X:Ctx} {ops:Array Oper} {Q:Exit->Act->World->Prop} {K:St->Prop} {K':Act->World->Prop} {i:Nat} {st:St} (hs:stepO X ops i st K) {E:En} {a:Act} {w:World} (h:Rel X E st a w)
  (hk:∀ aJ E' a' w',K aJ -> Rel X E' aJ a' w' -> K' a' w'):wpOp X.P ops Q i K' a w:=by
 unfold stepO at hs;split at hs
 ·exact hs.elim
 rename_i o ho;have ho:ops[i]? = some o:=sU ho;split at hs
 ·exact hs.elim
 rename_i hd;split at hs
 ·exact hs.elim
 rename_i GI;unfold wpOp;rw [ho];simp only [bK GI,if_true];split at hs
 ·rename_i s hp;rw [iI] at hs;obtain ⟨v,hv,bg⟩:=cQ X.hT h.rl (aG _) hp;exact .inl (ig (bg w fun _=>rfl) (hk _ _ _ _ hs (aO h hd s v hv)))
 ·refine .inl (po (fun a' w' hq=>?_) (fun e a w hq=>hq.elim) (mR (go_sound 4000) hd h hs));obtain ⟨aJ,E',h1,h2⟩:=hq;exact hk _ _ _ _ h2 h1
theorem kA {X:Ctx} {ops:Array Oper} {k:List It}:∀ (T:de) (n:Nat) (ak:Array Bool) (seen:List Nat),chkT9 ops T n ak seen=true->∀ st,Gb X ops k T st->∀ E a w,Rel X E st a w ->
  (seen=[]->wpAny X.P .any ops (kq X k) n ak a w)/\∀ i∈Region.ready .any ops ak,i∈seen∨∃ m,n=m + 1/\wpOp X.P ops (kq X k) i (wpAny X.P .any ops (kq X k) m (ak.setIfInBounds i true)) a w
 | .fin,n,ak,seen,hc,st,hg,E,a,w,h=>by
  simp only [chkT9,aP,List.isEmpty_iff] at hc;refine ⟨fun _=>?_,fun i hi=>by rw [hc.2] at hi;cases hi⟩;have hq:=go_sound 4000 _ _ hg E a w h
  cases n with
  | zero=>exact ⟨hc.2,hq⟩
  | succ n=>exact ⟨fun _=>hq,fun i hi=>by rw [hc.2] at hi;cases hi⟩
 | .stop,n,ak,seen,hc,st,hg,E,a,w,h=>by
  simp only [chkT9,aP,List.all_eq_true,Bool.not_eq_true',List.isEmpty_eq_false_iff] at hc;exact ⟨fun he=>(hc.1 he).elim,fun i hi=>.inl (by simpa using hc.2 i hi)⟩
 | .op i t,0,ak,seen,hc,st,hg,E,a,w,h=>by simp [chkT9] at hc
 | .ev i t alt,0,ak,seen,hc,st,hg,E,a,w,h=>by simp [chkT9] at hc
 | .op i t,n + 1,ak,seen,hc,st,hg,E,a,w,h=>by
  simp only [chkT9,aP,List.all_eq_true,Bool.not_eq_true',List.isEmpty_eq_false_iff,List.isEmpty_iff] at hc;obtain ⟨h1,h2,h3,h4⟩:=hc
  have eB:∀ j∈Region.ready .any ops ak,wpOp X.P ops (kq X k) j (wpAny X.P .any ops (kq X k) n (ak.setIfInBounds j true)) a w:=fun j hj=>by
   have fK:i=j:=Nat.eq_of_beq_eq_true (h3 j hj);subst fK;exact od hg h fun aJ E' a' w' oi eh=>(kA t n _ _ h4 aJ oi E' a' w' eh).1 rfl
  exact ⟨fun _=>⟨fun he=>(h2 he).elim,eB⟩,fun j hj=>.inr ⟨n,rfl,eB j hj⟩⟩
 | .ev i t alt,n + 1,ak,seen,hc,st,hg,E,a,w,h=>by
  simp only [chkT9,aP,Bool.not_eq_true',List.isEmpty_eq_false_iff] at hc;obtain ⟨h2,h4,h5⟩:=hc
  have hi:wpOp X.P ops (kq X k) i (wpAny X.P .any ops (kq X k) n (ak.setIfInBounds i true)) a w:=
   od hg.1 h fun aJ E' a' w' oi eh=>(kA t n _ _ h4 aJ oi E' a' w' eh).1 rfl
  have eB:∀ j∈Region.ready .any ops ak,j∈seen∨∃ m,n + 1=m + 1/\wpOp X.P ops (kq X k) j (wpAny X.P .any ops (kq X k) m (ak.setIfInBounds j true)) a w:=fun j hj=>by
   rcases (kA alt (n + 1) ak (i :: seen) h5 st hg.2 E a w h).2 j hj with h6 | h6
   ·rcases bX h6 with rfl | h6
    ·exact .inr ⟨n,rfl,hi⟩
    ·exact .inl h6
   ·exact .inr h6
  refine ⟨fun he=>⟨fun hn=>(h2 hn).elim,fun j hj=>?_⟩,eB⟩;rcases eB j hj with h6 | ⟨m,hm,h6⟩
  ·rw [he] at h6;cases h6
  ·cases hm;exact h6
theorem Ix {X:Ctx} {id:Nat} {ops:Array Oper} {k:List It} {st:St} (T:de) (hm:X.P.follows .mixedOrders=true) (hc:chkT9 ops T ops.size (Array.replicate ops.size false) []=true) (h:Gb X ops k T st):jm X id ops k st:=fun E a w hr=>
 wp_region_any hm ((kA T _ _ _ hc st h E a _ (eD hr)).1 rfl)
section
variable {X:Ctx} {st:St} {k:List It} {o:Oper}
theorem Gc:∀ l:List Value,(vL l).length=l.length
 | []=>rfl
 | v :: r=>by simp [vL,Gc r]
theorem Gd {E:En}:∀ l:List Value,(∀ v∈l,v.oneCell'=true)->RvL E (vL l) l
 | [],_=>bE E
 | v :: r,h=>rvL_cons (dp (h v (by simp))) (Gd r fun x hx=>h x (dm _ hx))
theorem Ge {t d et e gf n:Nat} {bb:Bool} {z:List Value} (zs:List Value) (oq:o.op = .buildSlice t 1 #[(0,.const (.agg zs.toArray))]) (gy:o.dst=some d) (hT:X.T.find t=some ⟨n,bb,.sl et e gf,z⟩) (hz1:zs.all (fun v=>v.oneCell')=true)
  (hc:(Nat.beq zs.length e && (Nat.blt 0 e && Nat.ble e 16777216))=true) (hd:dE X.nt st.sl (some d)=true) (bo:X.still=false:=by exact rfl) (hX:X.bt=[]:=by exact rfl)
  : L5 X o st ⟨(d,⟨[],.sl e [vL zs] (some st.tk.length)⟩) :: st.sl,st.bx,st.tk ++ [⟨1,et,e,none⟩]⟩:=by
 simp only [aP,Nat.beq_eq,Nat.ble_eq,Nat.blt_eq] at hc;obtain ⟨Uy,Bu,Km⟩:=hc;obtain ⟨hu,ii,zv,ri,hz,cf,x8,Dp⟩:=dq X.hT hT;have hz1:∀ v∈zs,v.oneCell'=true:=fun v hv=>List.all_eq_true.1 hz1 v hv;have hvL:(vL zs).length=zs.length:=Gc zs;obtain ⟨len,sQ⟩:∃ len,len=1:=⟨1,rfl⟩;obtain ⟨es,Gf⟩:∃ es,es=[vL zs]:=⟨_,rfl⟩;obtain ⟨vs,Iy⟩:∃ vs,vs=[Value.agg zs.toArray]:=⟨_,rfl⟩;rw [<- sQ,<- Gf];rw [<- sQ] at oq;have mP:0 < len:=by omega
 have hlen:es.length=len:=by rw [Gf,sQ];all_goals rfl
 have vA:vs.length=es.length:=by rw [Iy,Gf];all_goals rfl
 have cC:∀ v∈vs,v.cells.toList.length=e:=by
  rw [Iy];intro v hv;simp only [List.mem_singleton] at hv;subst hv;simpa [Value.cells] using Uy
 have LO:cellsL vs=zs:=by rw [Iy];simp [cellsL,Value.cells]
 intro E a w h
 have G7:RvC E.cl es.flatten (cellsL vs):=by
  rw [Gf,LO];refine ⟨?_,hz1⟩;simp only [List.flatten_cons,List.flatten_nil,List.append_nil];exact Gd zs hz1
 have qZ:∀ cs∈es,cs.length=e:=by
  rw [Gf];intro cs bP;simp only [List.mem_singleton] at bP;subst bP;rw [hvL];exact Uy
 have Km:len * e<=16777216:=by rw [sQ];omega
 subst cf
 have Dz:len * ii.size≠0:=by
  have:=Nat.mul_pos mP Bu;omega
 have jD:Instr.fill (fun i=>some (i * ii.size,ii.size)) ((Array.range (len * ii.size)).map (zv.cells[·% zv.cells.size]!)) ((#[(0,Operand.const (Value.agg zs.toArray))]:Array (Nat × Operand)).map fun (i,x)=>(i,a.eval x)).toList=some (cellsL vs).toArray:=by
  have h0:=o0 ii.size vs 0 ((Array.range (len * ii.size)).map (zv.cells[·% zv.cells.size]!)).toList cC (by simp [vA,hlen])
  have h1:((#[(0,Operand.const (Value.agg zs.toArray))]:Array (Nat × Operand)).map fun (i,x)=>(i,a.eval x)).toList=enumF 0 vs:=by
   rw [Iy];simp only [List.map_toArray,List.map_cons,List.map_nil];rfl
  rw [h1];simp only [Array.toArray_toList] at h0;rw [h0];simp [vA,hlen]
 have bg:(execOp a.eval o).run X.P w = .ok (.value (.slice (some ⟨w.heap.size,0,none⟩) len len)) (w.alloc (.cells (cellsL vs).toArray et)):=by
  simp only [execOp,oq,Sem.run_bind,run_buildSlice w t et len _ _ ii zv hu ri hz (by omega) Dz jD,Result.andThen_ok,Sem.run_pure]
 refine cG bg ?_;rw [gy];have hr:=rU (arr:=cellsL vs) h bo et
 have JY:(cellsL vs).length=len * ii.size:=by
  have:∀ l:List Value,(∀ v∈l,v.cells.toList.length=ii.size)->(cellsL l).length=l.length * ii.size:=by
   intro l
   induction l with
   | nil=>intro _;simp [cellsL]
   | cons v l ih=>grind [cellsL]
  rw [this vs cC,vA,hlen]
 have lx:=H9 (n:=len) (ty:=et) (e:=ii.size) (cap:=len) hr bo hX (g:=w.heap.size) (cur:=(cellsL vs).toArray) (gd w _) (by simp [JY]) (bd _) (by
   have:len<=len * ii.size:=Nat.le_mul_of_pos_right _ Bu;unfold maxLen;omega) (fun hm=>by have:=h.env.aN hm;omega) (fun x v hx yg=>by
   have hx:ee E.c (w.alloc (.cells (cellsL vs).toArray et)) w.heap.size (cellsL vs).length x=some v:=hx;unfold ee at hx;split at hx
   ·rename_i hc;rw [<- JY];exact hc.2.2
   ·have:=World.block_lt_of_cell? w x (h.env.sub x v hx);omega) (fun j y hy hg=>by
   have:=(h.env.own (mG hy) hg).1
   omega) (h.fr.size)
 have Pa:Ext E ⟨ee E.c (w.alloc (.cells (cellsL vs).toArray et)) w.heap.size (cellsL vs).length,E.β,E.tk ++ [⟨len,et,ii.size,none⟩],E.τ ++ [.slice (some ⟨w.heap.size,0,none⟩) len len]⟩:=⟨fun x v hx=>by
  have av:=World.block_lt_of_cell? w x (h.env.sub x v hx);show ee _ _ _ _ _=_;unfold ee;rw [ah (by omega)];exact hx,fun _ _ h=>h,fun k q' hk=>by
  have av:=(gS hk).1;refine ⟨q',by show (E.tk ++ _)[k]? = _;rw [cY av];exact hk,.inl ⟨rfl,?_⟩⟩;show (E.τ ++ _)[k]? = _
  rw [cY (by rw [h.env.tl];exact av)]⟩
 refine ⟨_,aO lx hd (.sl ii.size es (some st.tk.length)) _ ?_,Pa,⟨[],by simp⟩,fun i b hb _=>alloc_old w _ (h.env.aN (mG hb))⟩;unfold Rv;refine ⟨_,_,_,rfl,⟨hlen.symm,bd _⟩,fun aY=>⟨rfl,?_⟩,fun k' fD=>?_⟩
 ·have ju:∀ x v,E.c x=some v->ee E.c (w.alloc (.cells (cellsL vs).toArray et)) w.heap.size (cellsL vs).length x=some v:=fun x v hx=>by
   have av:=World.block_lt_of_cell? w x (h.env.sub x v hx);unfold ee;rw [ah (by omega)];exact hx
  have hm:RvC (En.cl ⟨ee E.c (w.alloc (.cells (cellsL vs).toArray et)) w.heap.size (cellsL vs).length,E.β,E.tk,E.τ⟩) es.flatten (cellsL vs):=G7.mono (Ext.J5 (E:=E) ju);refine rvEs_flat hm qZ fun j u hj=>?_;show ee _ _ _ _ _=_;have eP:=(gS hj).1;simp only [ab,ao,Nat.zero_add];rw [tK eP,bD (gd w _)];simpa using hj
 ·cases fD;refine ⟨⟨len,et,ii.size,none⟩,?_,bd _,fun _=>?_⟩
  ·show (E.tk ++ _)[st.tk.length]? = _;rw [h.tk];simp
  ·show (E.τ ++ _)[st.tk.length]? = _;rw [<- h.tk,<- h.env.tl];simp
end
section
variable {X:Ctx}
theorem Gg {id:Nat} {ops:Array Oper} {k:List It} {st:St} (m:List Nat) (W:Nat->Bool) (T:de) (hm:X.P.follows .mixedOrders=true) (hc:(zD ops && xA ops W && chkA ops T (List.range ops.size) none)=true)
  (h:goA X ⟨ops,W,[.mB fun s=>go X 4000 k s],⟨st.sl,maskL m 0 st.bx,st.tk⟩,none⟩ T true st.sl st):jm X id ops k st:=by
 intro E a w hr;have eh:=eD hr;simp only [aP] at hc;obtain ⟨⟨hN,hP⟩,hT⟩:=hc;simp only [zD,aP,List.all_eq_true,List.mem_range] at hN;have hs:dx X ⟨⟨ops,W,[.mB fun s=>go X 4000 k s],⟨st.sl,maskL m 0 st.bx,st.tk⟩,none⟩,E,w.drew⟩ true E st.sl st a w.drew:=⟨eh,Ext.refl E,⟨[],by simp⟩,eh.tm,fun _=>⟨fun _ _ _ _ _ _=>rfl,eh.env.sub⟩⟩
 have DQ:mV E (maskL m 0 st.bx) w.drew:=⟨by rw [kb];exact eh.env.len,fun i cs hi aY=>by
  rcases ke m _ _ _ _ hi with h1 | h1
  ·exact (aY h1).elim
  ·exact eh.env.bxs i cs h1⟩
 have bg:=tp (D:=⟨⟨ops,W,[.mB fun s=>go X 4000 k s],⟨st.sl,maskL m 0 st.bx,st.tk⟩,none⟩,E,w.drew⟩) DQ rfl T _ _ hT true st.sl st h E a w.drew hs;refine wp_region_any hm ?_;refine xD (C:=CC E (maskL m 0 st.bx) w.drew) (Q:=kq X [.mB fun s=>go X 4000 k s] .normal) (Region.noSelect_spec hN.1) hP (fun i o ho e he hb=>?_) (fun a w hq=>?_) ops.size (Array.replicate ops.size false) (List.range ops.size) a _ (by simp) ?_ List.nodup_range ?_ (by simp) ⟨T,hT,bg⟩
 ·have h1:=hN.2 i (Array.getElem?_eq_some_iff.1 ho).1;rw [ho] at h1;have h2:=List.all_eq_true.1 h1 e (sU he);rw [hb] at h2;simpa using h2
 ·obtain ⟨ly,E1,ba,hJ⟩:=hq;exact go_sound 4000 _ _ hJ E1 a w ba
 ·simp_all
 ·intro k o ho hk
  grind
end
end Dv
end Go.Proofs.YtfdedoiiahbnnaaGreat
set_option maxRecDepth 100000
namespace Go.Proofs.YtfdedoiiahbnnaaGreat
open Go Go.RowKit Dv Go.Proofs.Tryz
abbrev JZ:List DV:=[.v (.int .i64 0),.v (.int .i64 0)]
structure oC where
 k:Int
 a:Int
 e:Int
 s:ByteArray
 n:Int
def oD (t:oC):List DV:=[.v (.int .i64 t.k),.v (.int .i64 t.a),.v (.int .i64 t.e),.v (.string t.s),.v (.int .i64 t.n)]
def fQ (l:List oC):List (List DV):=l.map oD
theorem fg (l:List oC):(fQ l).length=l.length:=List.length_map ..
theorem CP {l:List oC} {i:Nat} {t:oC} (h:l[i]? = some t):(fQ l)[i]? = some (oD t):=by rw [fQ,List.getElem?_map,h];all_goals rfl
theorem lr (l:List oC) (t:oC):fQ l ++ [oD t]=fQ (l ++ [t]):=by simp [fQ]
def lu (a:Int):oC:=⟨0,a,a,al,0⟩
structure bA where
 l:List oC
 p:Nat
 d:Nat
 f:Ft
def bp (c:bA):List DV:=[.sl 5 (fQ c.l) none,.v (.int .i64 c.p),.v (.int .i64 c.d),.v (.int .i64 c.f.1),.v (.int .i64 c.f.2)]
def bA.bY (c:bA):oC:=if c.f.1=0 then c.l[c.p]?.getD (lu 0) else lu c.f.2
def bA.step (c:bA):bA:=if c.bY.k=0 then c else { c with p:=c.p + 1 }
def bA.is (c:bA) (k:Int) (s:ByteArray):Bool:=decide (c.bY.k=k) && decide (c.bY.s=s)
def bA.Iz (c:bA) (k:Int) (s:ByteArray):bA:=if c.is k s then c.step else c
def bA.tk (c:bA) (k:Int):Bool:=!decide (c.bY.k=0) && decide (c.bY.k=k)
def bA.Pb (c:bA) (k:Int):oC:=if c.tk k then c.bY else ⟨0,0,0,al,0⟩
def bA.Pc (c:bA) (k:Int):bA:=if c.tk k then c.step else c
def bA.tv (c:bA) (e a:Int):bA:=if c.f.1=0/\e≠0 then { c with f:=(e,a) } else c
def bA.fail (c:bA) (e:Int):bA:=c.tv e c.bY.a
def bA.wrong (c:bA):bA:=c.fail (if c.bY.k=0 then 5 else 4)
def bA.Gh (c:bA) (s:ByteArray):bA:=if c.is 4 s then c.step else c.wrong
def bA.enter (c:bA):Bool:=!decide (c.d=24)
def bA.qO (c:bA):bA:=if c.d=24 then c.fail 6 else { c with d:=c.d + 1 }
def bA.leave (c:bA):bA:={ c with d:=c.d - 1 }
structure bw (c:bA):Prop where
 lt:c.p < c.l.length
 nx:∀ (i:Nat) t,c.l[i]? = some t->t.k≠0->i + 1 < c.l.length
 len:c.l.length<=1099511627776
 dl:c.d<=24
theorem bw.bY {c:bA} (h:bw c) (h0:c.f.1=0):∃ t,c.l[c.p]? = some t/\c.bY=t:=by
 refine ⟨_,gE h.lt,?_⟩;rw [bA.bY,aj h0,gE h.lt];rfl
theorem bw.step {c:bA} (h:bw c):bw c.step:=by
 unfold bA.step;split
 ·exact h
 ·rename_i hk;refine ⟨?_,h.nx,h.len,h.dl⟩;by_cases h0:c.f.1=0
  ·obtain ⟨t,h1,h2⟩:=h.bY h0;rw [h2] at hk;exact h.nx _ t h1 hk
  ·exfalso;rw [bA.bY,ah h0] at hk;exact hk rfl
abbrev xM (r:DV) (c:bA) (r':DV) (os:List (List DV)) (tk:List TkE):Prop:=r'=r/\os=[bp c]/\tk=[]
theorem bw.get {c:bA} (h:bw c) (h0:c.f.1=0):(fQ c.l)[c.p]? = some (oD c.bY):=by
 obtain ⟨t,h1,h2⟩:=h.bY h0;rw [h2];exact CP h1
theorem dN (c:bA) (h:bw c):Ev prog 139 [.loc 0 0] [bp c] [] (xM (.agg (oD c.bY)) c):=by
 have hg:=h.get;have LP:c.f.1≠0->c.bY=lu c.f.2:=fun h=>by rw [bA.bY,ah h]
 have av:c.p < (fQ c.l).length:=by rw [fg];exact h.lt
 generalize c.bY=t at hg LP ⊢;obtain ⟨l,p,d,f1,f2⟩:=c;obtain ⟨k,a,e,s,n⟩:=t;simp only at hg LP av;refine eG 35 [.cell 2 218] func139 rfl ntmps139 rfl fun _ _ _ _=>?_;refine br ?_ ?_<;>intro g
 ·have g:¬ f1=0:=sU g;obtain ⟨rfl,rfl,rfl,rfl,rfl⟩:=oC.mk.inj (LP g);refine dS ?_;exact ⟨.agg _,[bp _],aT,aT,rfl,rfl,rfl⟩
 ·have g:f1=0:=sU g;refine dS ?_;refine iX (hg g) ?_;exact ⟨.agg _,[bp _],aT,aT,rfl,rfl,rfl⟩
theorem qP (c:bA):Ev prog 138 [.loc 0 0] [bp c] [] (xM c.f.d c):=by
 obtain ⟨l,p,d,f1,f2⟩:=c;refine eG 10 [.cell 2 26] func138 rfl ntmps138 rfl fun _ _ _ _=>?_;exact ⟨.agg _,[bp _],aT,aT,rfl,rfl,rfl⟩
theorem nF (c:bA) (h:bw c):Ev prog 284 [.loc 0 0] [bp c] [] (xM (.cj []) c.step):=by
 have hp:=dN c h;have hs:c.step=if c.bY.k=0 then c else { c with p:=c.p + 1 }:=rfl
 have hb:c.p < 1099511627776:=Nat.lt_of_lt_of_le h.lt h.len;generalize c.step=C at hs ⊢;generalize c.bY=t at hp hs;obtain ⟨l,p,d,f1,f2⟩:=c;obtain ⟨k,a,e,s,n⟩:=t;simp only at hb hs;refine eG 13 [] func284 rfl ntmps284 rfl fun _ _ _ _=>?_;refine aC 1 0 lX rfl rfl rfl aT aT hp (fun r cg bl hΦ _ _=>?_);obtain ⟨rfl,rfl,rfl⟩:=hΦ;refine br ?_ ?_<;>intro g
 ·have g:¬ k=0:=sU g;rw [ah g] at hs;rw [hs]
  have hw:IntKind.i64.wrap ((p:Int) + 1)=((p + 1:Nat):Int):=by
   rw [wrap64 (by omega) (by omega)];omega
  have hX:=congrArg (fun z=>DV.v (Value.int .i64 z)) hw;exact ⟨.cj [],[bp _],(by repeat' (first | exact rfl | exact trivial | exact Or.inr (Or.inl ⟨_,rfl⟩) | exact Or.inr ⟨_,rfl⟩ | exact Or.inl ⟨rfl,rfl⟩ | exact Or.inl rfl | refine Or.inr ⟨_,_,rfl,Nat.zero_le _,rfl,?_⟩ | refine ⟨_,_,rfl,?_,?_⟩ | refine ⟨_,rfl,?_⟩ | exact hX | exact ⟨nL rfl,rfl⟩ | refine Or.inr (Or.inr (Or.inr ⟨_,_,rfl,?_⟩)) | exact Or.inl rfl | refine Or.inr ?_)),(by repeat' (first | exact rfl | exact trivial | exact Or.inr (Or.inl ⟨_,rfl⟩) | exact Or.inr ⟨_,rfl⟩ | exact Or.inl ⟨rfl,rfl⟩ | exact Or.inl rfl | refine Or.inr ⟨_,_,rfl,Nat.zero_le _,rfl,?_⟩ | refine ⟨_,_,rfl,?_,?_⟩ | refine ⟨_,rfl,?_⟩ | exact hX | exact ⟨nL rfl,rfl⟩ | refine Or.inr (Or.inr (Or.inr ⟨_,_,rfl,?_⟩)) | exact Or.inl rfl | refine Or.inr ?_)),rfl,rfl,rfl⟩
 ·have g:k=0:=sU g;rw [aj g] at hs;rw [hs];exact ⟨.cj [],[bp _],aT,aT,rfl,rfl,rfl⟩
theorem IA (c:bA) (h:bw c) (k:Int) (s:ByteArray):Ev prog 247 [.loc 0 0,.v (.int .i64 k),.v (.string s)] [bp c] [] (xM (.v (.bool (c.is k s))) (c.Iz k s)):=by
 have hp:=dN c h;have hs:=nF c h;have hI:c.is k s=(decide (c.bY.k=k) && decide (c.bY.s=s)):=rfl;have hC:c.Iz k s=if c.is k s then c.step else c:=rfl
 generalize c.Iz k s=C2 at hC ⊢;generalize c.is k s=B at hI hC ⊢;generalize c.step=C1 at hs hC;generalize c.bY=t at hp hI;obtain ⟨tk,ta,te,ts,tn⟩:=t;obtain ⟨l,p,d,f1,f2⟩:=c;obtain ⟨l1,p1,d1,f11,f21⟩:=C1;simp only at hI;refine eG 22 [.tmp 6] func247 rfl ntmps247 rfl fun _ _ _ _=>?_;refine aC 1 0 lX rfl rfl rfl aT aT hp (fun r cg bl hΦ _ _=>?_);obtain ⟨rfl,rfl,rfl⟩:=hΦ;refine br ?_ ?_<;>intro g
 ·have hB:B=false:=by
   rw [hI];have g:¬tk=k∨¬ts=s:=by simpa [aF] using g
   rcases g with g | g<;>simp [g]
  subst hB;rw [ah (by simp)] at hC;rw [hC];exact ⟨.v (.bool false),[bp _],aT,aT,rfl,rfl,rfl⟩
 ·have hB:B=true:=by rw [hI];simpa [aF] using g
  subst hB;rw [aj rfl] at hC;rw [hC];refine aC 1 0 Eb rfl rfl rfl aT aT hs (fun r cg bl hΦ _ _=>?_);obtain ⟨rfl,rfl,rfl⟩:=hΦ;exact ⟨.v (.bool true),[bp _],aT,aT,rfl,rfl,rfl⟩
theorem kB (c:bA) (h:bw c) (s:ByteArray):Ev prog 220 [.loc 0 0,.v (.string s)] [bp c] [] (xM (.v (.bool (c.is 4 s))) (c.Iz 4 s)):=by
 have hs:=IA c h 4 s;generalize c.Iz 4 s=C2 at hs ⊢;generalize c.is 4 s=B at hs ⊢;obtain ⟨l,p,d,f1,f2⟩:=c;obtain ⟨l1,p1,d1,f11,f21⟩:=C2;refine eG 8 [.tmp 4] func220 rfl ntmps220 rfl fun _ _ _ _=>?_;refine aC 1 0 Ny rfl rfl rfl aT aT hs (fun r cg bl hΦ _ _=>?_);obtain ⟨rfl,rfl,rfl⟩:=hΦ;exact ⟨.v (.bool B),[bp _],aT,aT,rfl,rfl,rfl⟩
theorem Gi (c:bA) (h:bw c) (k:Int):Ev prog 246 [.loc 0 0,.v (.int .i64 k)] [bp c] [] (xM (.cj [.agg (oD (c.Pb k)),.v (.bool (c.tk k))]) (c.Pc k)):=by
 have hp:=dN c h;have hs:=nF c h;have hI:c.tk k=(!decide (c.bY.k=0) && decide (c.bY.k=k)):=rfl;have hT:c.Pb k=if c.tk k then c.bY else ⟨0,0,0,al,0⟩:=rfl
 have hC:c.Pc k=if c.tk k then c.step else c:=rfl
 generalize c.Pc k=C2 at hC ⊢;generalize c.Pb k=T2 at hT ⊢;generalize c.tk k=B at hI hC hT ⊢;generalize c.step=C1 at hs hC;generalize c.bY=t at hp hI hT;obtain ⟨tk,ta,te,ts,tn⟩:=t;obtain ⟨l,p,d,f1,f2⟩:=c;obtain ⟨l1,p1,d1,f11,f21⟩:=C1;simp only at hI;refine eG 22 [.cell 4 218,.tmp 5] func246 rfl ntmps246 rfl fun _ _ _ _=>?_;refine aC 1 0 lX rfl rfl rfl aT aT hp (fun r cg bl hΦ _ _=>?_);obtain ⟨rfl,rfl,rfl⟩:=hΦ;refine br ?_ ?_<;>intro g
 ·have hB:B=false:=by
   rw [hI];have g:tk=0∨¬tk=k:=by simpa [aF] using g
   rcases g with g | g<;>simp [g]
  subst hB;rw [ah (by simp)] at hC hT;rw [hC,hT];exact ⟨.cj [.agg (oD ⟨0,0,0,al,0⟩),.v (.bool false)],[bp _],aT,aT,rfl,rfl,rfl⟩
 ·have hB:B=true:=by rw [hI];simpa [aF] using g
  subst hB;rw [aj rfl] at hC hT;rw [hC,hT];refine aC 1 0 Eb rfl rfl rfl aT aT hs (fun r cg bl hΦ _ _=>?_);obtain ⟨rfl,rfl,rfl⟩:=hΦ;exact ⟨.cj [.agg (oD _),.v (.bool true)],[bp _],aT,aT,rfl,rfl,rfl⟩
theorem xN (c:bA) (e a:Int):Ev prog 250 [.loc 0 0,.v (.int .i64 e),.v (.int .i64 a)] [bp c] [] (xM (.cj []) (c.tv e a)):=by
 have hC:c.tv e a=if c.f.1=0/\e≠0 then { c with f:=(e,a) } else c:=rfl
 generalize c.tv e a=C2 at hC ⊢;obtain ⟨l,p,d,f1,f2⟩:=c;simp only at hC;refine eG 26 [] func250 rfl ntmps250 rfl fun _ _ _ _=>?_;refine br ?_ ?_<;>intro g
 ·have g:f1=0/\e≠0:=by simpa [aH] using g
  rw [aj g] at hC;rw [hC];exact ⟨.cj [],[bp _],aT,aT,rfl,rfl,rfl⟩
 ·have g:¬ (f1=0/\e≠0):=by simpa [aH] using g
  rw [ah g] at hC;rw [hC];exact ⟨.cj [],[bp _],aT,aT,rfl,rfl,rfl⟩
theorem nG (c:bA) (h:bw c) (e:Int):Ev prog 168 [.loc 0 0,.v (.int .i64 e)] [bp c] [] (xM (.cj []) (c.fail e)):=by
 have hp:=dN c h;have hs:=xN c e c.bY.a;have hC:c.fail e=c.tv e c.bY.a:=rfl;rw [hC];generalize c.tv e c.bY.a=C2 at hs ⊢;generalize c.bY=t at hp hs;obtain ⟨tk,ta,te,ts,tn⟩:=t;obtain ⟨l,p,d,f1,f2⟩:=c;obtain ⟨l1,p1,d1,f11,f21⟩:=C2;simp only at hs;refine eG 10 [] func168 rfl ntmps168 rfl fun _ _ _ _=>?_;refine aC 1 0 lX rfl rfl rfl aT aT hp (fun r cg bl hΦ _ _=>?_);obtain ⟨rfl,rfl,rfl⟩:=hΦ;refine aC 1 0 NA rfl rfl rfl aT aT hs (fun r cg bl hΦ _ _=>?_);obtain ⟨rfl,rfl,rfl⟩:=hΦ;exact ⟨.cj [],[bp _],aT,aT,rfl,rfl,rfl⟩
theorem CQ (c:bA) (h:bw c) (s:ByteArray):Ev prog 159 [.loc 0 0,.v (.string s)] [bp c] [] (xM (.v (.bool (c.is 4 s))) (c.Gh s)):=by
 have hm:=kB c h s;have hp:=dN c h;have h5:=nG c h 5;have h4:=nG c h 4;have hC:c.Gh s=if c.is 4 s then c.step else c.fail (if c.bY.k=0 then 5 else 4):=rfl
 have hM:c.Iz 4 s=if c.is 4 s then c.step else c:=rfl
 rw [hM] at hm;generalize c.Gh s=C2 at hC ⊢;generalize c.is 4 s=B at hC hm ⊢;generalize c.step=C1 at hm hC;generalize c.bY=t at hp hC;obtain ⟨tk,ta,te,ts,tn⟩:=t;simp only at hC
 cases B with
 | true=>
  rw [aj rfl] at hC hm;rw [hC];obtain ⟨l,p,d,f1,f2⟩:=c;obtain ⟨l1,p1,d1,f11,f21⟩:=C1;refine eG 16 [.tmp 4] func159 rfl ntmps159 rfl fun _ _ _ _=>?_;refine aC 1 0 nP rfl rfl rfl aT aT hm (fun r cg bl hΦ _ _=>?_);obtain ⟨rfl,rfl,rfl⟩:=hΦ;exact ⟨.v (.bool true),[bp _],aT,aT,rfl,rfl,rfl⟩
 | false=>
  rw [ah (by simp)] at hC hm;rw [hC];have e5:tk=0->c.fail (if tk=0 then 5 else 4)=c.fail 5:=fun g=>by rw [aj g]
  have e4:¬ tk=0->c.fail (if tk=0 then 5 else 4)=c.fail 4:=fun g=>by rw [ah g]
  generalize c.fail (if tk=0 then 5 else 4)=CX at e5 e4 ⊢;generalize c.fail 5=C5 at h5 e5;generalize c.fail 4=C4 at h4 e4;obtain ⟨l,p,d,f1,f2⟩:=c;obtain ⟨l5,p5,d5,f15,f25⟩:=C5;obtain ⟨l4,p4,d4,f14,f24⟩:=C4;refine eG 16 [.tmp 4] func159 rfl ntmps159 rfl fun _ _ _ _=>?_;refine aC 1 0 nP rfl rfl rfl aT aT hm (fun r cg bl hΦ _ _=>?_);obtain ⟨rfl,rfl,rfl⟩:=hΦ;refine aC 1 0 lX rfl rfl rfl aT aT hp (fun r cg bl hΦ _ _=>?_);obtain ⟨rfl,rfl,rfl⟩:=hΦ;refine br ?_ ?_<;>intro g
  ·have g:tk=0:=sU g;rw [e5 g];refine aC 1 0 D6 rfl rfl rfl aT aT h5 (fun r cg bl hΦ _ _=>?_);obtain ⟨rfl,rfl,rfl⟩:=hΦ;exact ⟨.v (.bool false),[bp _],aT,aT,rfl,rfl,rfl⟩
  ·have g:¬ tk=0:=sU g;rw [e4 g];refine aC 1 0 D6 rfl rfl rfl aT aT h4 (fun r cg bl hΦ _ _=>?_);obtain ⟨rfl,rfl,rfl⟩:=hΦ;exact ⟨.v (.bool false),[bp _],aT,aT,rfl,rfl,rfl⟩
theorem zK (c:bA) (h:bw c):Ev prog 248 [.loc 0 0] [bp c] [] (xM (.v (.bool c.enter)) c.qO):=by
 have hf:=nG c h 6;have hI:c.enter = !decide (c.d=24):=rfl;have hC:c.qO=if c.d=24 then c.fail 6 else { c with d:=c.d + 1 }:=rfl
 have hd:=h.dl;generalize c.qO=C2 at hC ⊢;generalize c.enter=B at hI ⊢;generalize c.fail 6=C6 at hf hC;obtain ⟨l,p,d,f1,f2⟩:=c;obtain ⟨l1,p1,d1,f11,f21⟩:=C6;simp only at hI hC hd;refine eG 21 [.tmp 2] func248 rfl ntmps248 rfl fun _ _ _ _=>?_;refine br ?_ ?_<;>intro g
 ·have g:(d:Int)=24:=of_decide_eq_true g;have g:d=24:=by omega
  rw [aj g] at hC;rw [hC,hI,decide_eq_true g];refine aC 1 0 D6 rfl rfl rfl aT aT hf (fun r cg bl hΦ _ _=>?_);obtain ⟨rfl,rfl,rfl⟩:=hΦ;exact ⟨.v (.bool false),[bp _],aT,aT,rfl,rfl,rfl⟩
 ·have g:¬ (d:Int)=24:=of_decide_eq_false g;have g:¬ d=24:=by omega
  rw [decide_eq_false g] at hI;rw [ah g] at hC;rw [hC,hI]
  have hw:IntKind.i64.wrap ((d:Int) + 1)=((d + 1:Nat):Int):=by
   rw [wrap64 (by omega) (by omega)];omega
  have hX:=congrArg (fun z=>DV.v (Value.int .i64 z)) hw;exact ⟨.v (.bool true),[bp _],(by repeat' (first | exact rfl | exact trivial | exact Or.inr (Or.inl ⟨_,rfl⟩) | exact Or.inr ⟨_,rfl⟩ | exact Or.inl ⟨rfl,rfl⟩ | exact Or.inl rfl | refine Or.inr ⟨_,_,rfl,Nat.zero_le _,rfl,?_⟩ | refine ⟨_,_,rfl,?_,?_⟩ | refine ⟨_,rfl,?_⟩ | exact hX | exact ⟨nL rfl,rfl⟩ | refine Or.inr (Or.inr (Or.inr ⟨_,_,rfl,?_⟩)) | exact Or.inl rfl | refine Or.inr ?_)),(by repeat' (first | exact rfl | exact trivial | exact Or.inr (Or.inl ⟨_,rfl⟩) | exact Or.inr ⟨_,rfl⟩ | exact Or.inl ⟨rfl,rfl⟩ | exact Or.inl rfl | refine Or.inr ⟨_,_,rfl,Nat.zero_le _,rfl,?_⟩ | refine ⟨_,_,rfl,?_,?_⟩ | refine ⟨_,rfl,?_⟩ | exact hX | exact ⟨nL rfl,rfl⟩ | refine Or.inr (Or.inr (Or.inr ⟨_,_,rfl,?_⟩)) | exact Or.inl rfl | refine Or.inr ?_)),rfl,rfl,rfl⟩
theorem zL (c:bA) (h:bw c):Ev prog 225 [.loc 0 0] [bp c] [] (xM (.cj []) c.leave):=by
 have hC:c.leave={ c with d:=c.d - 1 }:=rfl;have hd:=h.dl;generalize c.leave=C2 at hC ⊢;obtain ⟨l,p,d,f1,f2⟩:=c;simp only at hC hd;refine eG 13 [] func225 rfl ntmps225 rfl fun _ _ _ _=>?_;rw [hC]
 have hw:max (IntKind.i64.wrap ((d:Int) - 1)) 0=((d - 1:Nat):Int):=by
  rw [wrap64 (by omega) (by omega)];omega
 have hX:=congrArg (fun z=>DV.v (Value.int .i64 z)) hw;exact ⟨.cj [],[bp _],(by repeat' (first | exact rfl | exact trivial | exact Or.inr (Or.inl ⟨_,rfl⟩) | exact Or.inr ⟨_,rfl⟩ | exact Or.inl ⟨rfl,rfl⟩ | exact Or.inl rfl | refine Or.inr ⟨_,_,rfl,Nat.zero_le _,rfl,?_⟩ | refine ⟨_,_,rfl,?_,?_⟩ | refine ⟨_,rfl,?_⟩ | exact hX | exact ⟨nL rfl,rfl⟩ | refine Or.inr (Or.inr (Or.inr ⟨_,_,rfl,?_⟩)) | exact Or.inl rfl | refine Or.inr ?_)),(by repeat' (first | exact rfl | exact trivial | exact Or.inr (Or.inl ⟨_,rfl⟩) | exact Or.inr ⟨_,rfl⟩ | exact Or.inl ⟨rfl,rfl⟩ | exact Or.inl rfl | refine Or.inr ⟨_,_,rfl,Nat.zero_le _,rfl,?_⟩ | refine ⟨_,_,rfl,?_,?_⟩ | refine ⟨_,rfl,?_⟩ | exact hX | exact ⟨nL rfl,rfl⟩ | refine Or.inr (Or.inr (Or.inr ⟨_,_,rfl,?_⟩)) | exact Or.inl rfl | refine Or.inr ?_)),rfl,rfl,rfl⟩
theorem CR (c:bA) (h:bw c):Ev prog 223 [.loc 0 0] [bp c] [] (xM (.agg (oD c.bY)) c.step):=by
 have hp:=dN c h;have hs:=nF c h;generalize c.step=C1 at hs ⊢;generalize c.bY=t at hp ⊢;obtain ⟨tk,ta,te,ts,tn⟩:=t;obtain ⟨l,p,d,f1,f2⟩:=c;obtain ⟨l1,p1,d1,f11,f21⟩:=C1;refine eG 9 [.cell 2 218] func223 rfl ntmps223 rfl fun _ _ _ _=>?_;refine aC 1 0 lX rfl rfl rfl aT aT hp (fun r cg bl hΦ _ _=>?_);obtain ⟨rfl,rfl,rfl⟩:=hΦ;refine aC 1 0 Eb rfl rfl rfl aT aT hs (fun r cg bl hΦ _ _=>?_);obtain ⟨rfl,rfl,rfl⟩:=hΦ;exact ⟨.agg (oD _),[bp _],aT,aT,rfl,rfl,rfl⟩
end Go.Proofs.YtfdedoiiahbnnaaGreat
namespace Go.Proofs.YtfdedoiiahbnnaaGreat
namespace Dv
open Go Go.RowKit
section
variable {X:Ctx} {st:St} {s0:List (Nat × Sl)} {c:Bool} {i:Nat} {r:List (Nat × Oper)}
def Pd (D:Dr) (n:Nat):Bool:=(D.fX.bx.take n).all List.isEmpty
theorem Gj {D:Dr} {n i:Nat} {cs:List DV} (h:Pd D n=true) (hi:i < n) (hc:D.fX.bx[i]? = some cs):cs=[]:=by
 have h1:=List.all_eq_true.1 h cs (mG (i:=i) (by rw [bJ,aj hi];exact hc));simpa using h1
theorem qQ {D:Dr} {f:FuncId} {args aV:List DV} {os:List (List DV)} {d:Nat} (n1:Nat) (Oc:Pd D n1=true) (gU:Enters X.P f) (hd:(dE X.nt st.sl (some d) && dE X.nt s0 (some d))=true) (vt:Nat.ble n1 st.bx.length=true)
  (vy:jv [] n1 n1 0 os (st.bx.take n1)) (ha:CcL [] n1 n1 0 aV args) {Φ:DV->List (List DV)->List TkE->Prop} (hc:Ev X.P f aV os [] Φ)
  (hk:∀ yx cg,Φ yx cg []->cg.length=n1->put2 s0 ⟨st.sl,cg ++ st.bx.drop n1,st.tk⟩ (some d) false [] yx (goD X D 3000 c r)) (bo:X.still=false:=by exact rfl) (hX:X.bt=[]:=by exact rfl):sb X D c i r f args (some d) s0 st:=by
 refine ⟨gU,fun hl E0 wr hD E a w vs h hv=>(qc n1 0 vt rfl vy ha hc bo hX h.rel hv).mono ?_⟩;rintro e w' ⟨v,r',cg,bl,E',rfl,hΦ,h1,h2,ba,hr,hx,hβ,ho⟩;obtain rfl:bl=[]:=List.eq_nil_of_length_eq_zero h2
 have hC:CC E0 D.fX.bx wr w->CC E0 D.fX.bx wr w':=fun hC=>⟨fun j b cs hb bP aY=>by
  have bO:n1<=j:=by
   rcases Nat.lt_or_ge j n1 with h3 | h3
   ·exact (aY (Gj Oc h3 bP)).elim
   ·exact h3
  rw [ho j b bO (h.x.β j b hb)]
  exact hC.o j b cs hb bP aY,fun x v rT=>ba.env.sub x v (hx.c x v (h.x.c x v rT))⟩
 refine ⟨v,rfl,fun _=>hC,?_⟩
 have vR:dx X ⟨D,E0,wr⟩ c E' s0 ⟨st.sl,cg ++ st.bx.drop n1,st.tk⟩ (a.put none v) w':={
  rel:=ba
  x:=by
   refine ⟨fun y v hy=>hx.c y v (h.x.c y v hy),fun j b hb=>hx.β j b (h.x.β j b hb),fun k q hq=>?_⟩;obtain ⟨q1,h1,h2⟩:=h.x.tk k q hq;obtain ⟨q2,h3,h4⟩:=hx.tk k q1 h1
   grind
  β:=by
   obtain ⟨r1,h1⟩:=h.β;exact ⟨r1,by rw [hβ];exact h1⟩
  t0:=fun j x hj=>by
   have h1:=h.t0 j x hj;refine ⟨fun hh=>?_,h1.2⟩;obtain ⟨v,h2,h3⟩:=h1.1 hh;exact ⟨v,h2,Rv.mono (tW hx) h3⟩
  cc:=fun hc=>hC (h.cc hc) }
 obtain ⟨s1,ly,gK,cM⟩:=fm vR hd false [] r' v (fun _ _ p hp=>by cases hp) (fun _=>hr) (fun hb=>by cases hb) (fun hn=>(hn (aG _)).elim) (hk r' cg hΦ h1);exact dg (D:=⟨D,E0,wr⟩) hD 3000 c r _ _ gK hl E' _ w' cM
end
end Dv
end Go.Proofs.YtfdedoiiahbnnaaGreat
set_option maxRecDepth 100000
namespace Go.Proofs.YtfdedoiiahbnnaaGreat
open Go Go.RowKit Dv Go.Proofs.Tryz
theorem uU {c:bA} (h:bw c) (hd:c.d < 24):bw { c with d:=c.d + 1 }:=⟨h.lt,h.nx,h.len,hd⟩
theorem Gk {c:bA} (h:bw c) (hd:c.d < 24):Ev prog 248 [.loc 0 0] [bp c] [] (xM (.v (.bool true)) { c with d:=c.d + 1 }):=by
 have he:=zK c h;have e1:c.enter=true:=by simp [bA.enter];omega
 have e2:c.qO={ c with d:=c.d + 1 }:=by rw [bA.qO,ah (by omega)]
 rw [e1,e2] at he;exact he
theorem xO {c:bA} (h:bw c) (hd:c.d < 24):Ev prog 225 [.loc 0 0] [bp { c with d:=c.d + 1 }] [] (xM (.cj []) c):=zL _ (uU h hd)
theorem IB {c:bA} (h:bw c) {t:oC} (hp:c.bY=t) (hk:t.k≠0):Ev prog 246 [.loc 0 0,.v (.int .i64 t.k)] [bp c] [] (xM (.cj [.agg (oD t),.v (.bool true)]) { c with p:=c.p + 1 }):=by
 have ht:=Gi c h t.k;have e0:c.tk t.k=true:=by rw [bA.tk,hp];simp [hk]
 have e1:c.Pb t.k=t:=by rw [bA.Pb,e0,aj rfl,hp]
 have e2:c.Pc t.k={ c with p:=c.p + 1 }:=by rw [bA.Pc,e0,aj rfl,bA.step,hp,ah hk]
 rw [e0,e1,e2] at ht;exact ht
abbrev fC (m:Nat):List DV:=[.loc 0 0,.v (.int .i64 m)]
abbrev q5 (k a:Int) (s:ByteArray):List DV:=[.v (.int .i64 k),.v (.int .i64 a),.v (.int .i64 0),.v (.string s),.v (.slice none 0 0),.v (.slice none 0 0)]
theorem tw (c:bA) (h:bw c) (hd:c.d < 24) (m:Nat) (hm:m < 4096):Ev prog 219 [.loc 1 0] [bp c,fC m] [] (fun r os tk=>r = .v (.bool true)/\os=[bp { c with d:=c.d + 1 },fC (m + 1)]/\tk=[]):=by
 have he:=Gk h hd
 have hw:IntKind.i64.wrap ((m:Int) + 1)=((m + 1:Nat):Int):=by
  rw [wrap64 (by omega) (by omega)];omega
 have hX:=congrArg (fun z=>DV.v (Value.int .i64 z)) hw;obtain ⟨l,p,d,f1,f2⟩:=c;refine eG 26 [.tmp 2] func219 rfl ntmps219 rfl fun _ _ _ _=>?_;refine aC 1 0 Nz rfl rfl rfl aT aT he (fun r cg bl hΦ _ _=>?_);obtain ⟨rfl,rfl,rfl⟩:=hΦ;refine br (fun g=>absurd (of_decide_eq_true g) (by omega)) (fun _=>?_);exact ⟨.v (.bool true),[bp _,fC (m + 1)],(by repeat' (first | exact rfl | exact trivial | exact Or.inr (Or.inl ⟨_,rfl⟩) | exact Or.inr ⟨_,rfl⟩ | exact Or.inl ⟨rfl,rfl⟩ | exact Or.inl rfl | refine Or.inr ⟨_,_,rfl,Nat.zero_le _,rfl,?_⟩ | refine ⟨_,_,rfl,?_,?_⟩ | refine ⟨_,rfl,?_⟩ | exact hX | exact ⟨nL rfl,rfl⟩ | refine Or.inr (Or.inr (Or.inr ⟨_,_,rfl,?_⟩)) | exact Or.inl rfl | refine Or.inr ?_)),(by repeat' (first | exact rfl | exact trivial | exact Or.inr (Or.inl ⟨_,rfl⟩) | exact Or.inr ⟨_,rfl⟩ | exact Or.inl ⟨rfl,rfl⟩ | exact Or.inl rfl | refine Or.inr ⟨_,_,rfl,Nat.zero_le _,rfl,?_⟩ | refine ⟨_,_,rfl,?_,?_⟩ | refine ⟨_,rfl,?_⟩ | exact hX | exact ⟨nL rfl,rfl⟩ | refine Or.inr (Or.inr (Or.inr ⟨_,_,rfl,?_⟩)) | exact Or.inl rfl | refine Or.inr ?_)),rfl,rfl,rfl⟩
theorem Gl (c:bA) (h:bw c) (hn:c.is 4 ⟨#[40]⟩=false) (m:Nat) (k a:Int) (s:ByteArray):Ev prog 224 [.loc 1 0,.loc 2 0] [bp c,fC m,q5 k a s] [] (fun r os tk=>r = .cj []/\os=[bp c,fC m,q5 1 a s]/\tk=[]):=by
 have hm:=kB c h ⟨#[40]⟩;rw [hn,bA.Iz,hn,ah (by simp)] at hm;obtain ⟨l,p,d,f1,f2⟩:=c;refine eG 26 [] func224 rfl ntmps224 rfl fun _ _ _ _=>?_;refine aC 1 0 nP rfl rfl rfl aT aT hm (fun r cg bl hΦ _ _=>?_);obtain ⟨rfl,rfl,rfl⟩:=hΦ;exact ⟨.cj [],[bp _,fC m,q5 1 a s],aT,aT,rfl,rfl,rfl⟩
theorem uV {c:bA} (h:bw c) {s:ByteArray} (hn:c.is 4 s=false):Ev prog 220 [.loc 0 0,.v (.string s)] [bp c] [] (xM (.v (.bool false)) c):=by
 have hm:=kB c h s;rw [hn,bA.Iz,hn,ah (by simp)] at hm;exact hm
theorem xP {c:bA} (h:bw c) {s:ByteArray} (hn:c.is 4 s=true):Ev prog 220 [.loc 0 0,.v (.string s)] [bp c] [] (xM (.v (.bool true)) c.step):=by
 have hm:=kB c h s;rw [hn,bA.Iz,hn,aj rfl] at hm;exact hm
theorem zM (c:bA) (h:bw c) (hd:c.d < 24) (a e n:Int) (s:ByteArray) (hp:c.bY=⟨1,a,e,s,n⟩) (m:Nat) (hm:m < 4096) (hn:bA.is { c with p:=c.p + 1 } 4 ⟨#[40]⟩=false) :
  Ev prog 137 [.loc 1 0] [bp c,fC m] [] (fun r os tk=>r = .agg (q5 1 a s)/\os=[bp { c with p:=c.p + 1 },fC (m + 1)]/\tk=[]):=by
 have GP:=dN c h;rw [hp] at GP;have gU:=tw c h hd m hm;have uW:=uU h hd;have x5:bA.bY { c with d:=c.d + 1 }=⟨1,a,e,s,n⟩:=hp;have gP:∀ t,bA.is { c with d:=c.d + 1 } 4 t=false:=fun t=>by rw [bA.is,x5];simp
 have iG:=uV uW (gP ⟨#[123]⟩);have vu:=uV uW (gP ⟨#[91]⟩);have HV:=CR _ uW;have e2:bA.step { c with d:=c.d + 1 }={ c with d:=c.d + 1,p:=c.p + 1 }:=by rw [bA.step,x5,ah (by simp)]
 rw [x5,e2] at HV;have LQ:bw { c with d:=c.d + 1,p:=c.p + 1 }:=by rw [<- e2];exact uW.step
 have hs:bw c.step:=h.step;have e3:c.step={ c with p:=c.p + 1 }:=by rw [bA.step,hp,ah (by simp)]
 rw [e3] at hs;have hw:=Gl _ LQ hn (m + 1) 0 a s;have Lr:=xO hs hd;obtain ⟨l,p,d,f1,f2⟩:=c;refine eG 78 [.cell 2 70] func137 rfl ntmps137 rfl fun _ _ _ _=>?_;refine aC 1 0 lX rfl rfl rfl aT aT GP (fun r cg bl hΦ _ _=>?_);obtain ⟨rfl,rfl,rfl⟩:=hΦ;refine aC 2 0 Jb rfl rfl rfl aT aT gU (fun r cg bl hΦ _ _=>?_);obtain ⟨rfl,rfl,rfl⟩:=hΦ;refine aC 1 0 nP rfl rfl rfl aT aT iG (fun r cg bl hΦ _ _=>?_);obtain ⟨rfl,rfl,rfl⟩:=hΦ;refine aC 1 0 nP rfl rfl rfl aT aT vu (fun r cg bl hΦ _ _=>?_);obtain ⟨rfl,rfl,rfl⟩:=hΦ;refine aC 1 0 Nn rfl rfl rfl aT aT HV (fun r cg bl hΦ _ _=>?_);obtain ⟨rfl,rfl,rfl⟩:=hΦ;refine CallG.Cu 2 4 rfl rfl rfl rfl ?_;refine aC 3 0 Np rfl rfl rfl aT aT hw (fun r cg bl hΦ _ _=>?_);obtain ⟨rfl,rfl,rfl⟩:=hΦ;refine aC 1 0 Jc rfl rfl rfl aT aT Lr (fun r cg bl hΦ _ _=>?_);obtain ⟨rfl,rfl,rfl⟩:=hΦ;exact ⟨.agg (q5 1 a s),[bp _,fC (m + 1)],aT,aT,rfl,rfl,rfl⟩
abbrev CS:ByteArray:=⟨#[58]⟩
abbrev Gm (a:Int) (w:Wd) (x:List DV):List DV:=[.v (.int .i64 5),.v (.int .i64 a),.v (.int .i64 0),.v (.string ⟨#[]⟩),.sl 2 [ki w] none,.sl 6 [x] none]
theorem J0 {bx:List (List DV)} {N n0 m0 i c:Nat} (a:Int) (s:ByteArray) (r:List DV) (hb:bx[i]? = some (q5 1 a s ++ r)) (hN:N<=i):Cc bx N n0 m0 (.sl 6 [q5 1 a s] none) (.ms i 6 0 1 c):=by
 simp only [Cc];refine .inr (.inr (.inl ⟨i,0,c,_,rfl,hN,hb,rfl,by simp,?_⟩));intro x hx;simp at hx;rcases hx with rfl | rfl | rfl | rfl | rfl<;>exact .inl ⟨_,rfl⟩
theorem IC (c:bA) (h:bw c) (hd:c.d < 24) (a e n:Int) (s:ByteArray) (hp:c.bY=⟨1,a,e,s,n⟩) (LR:bA.is { c with p:=c.p + 1 } 4 CS=true) (a2 e2 n2:Int) (s2:ByteArray) (GM:bA.bY { c with p:=c.p + 2 }=⟨1,a2,e2,s2,n2⟩)
  (m:Nat) (hm:m < 4096) (hn:bA.is { c with p:=c.p + 3 } 4 ⟨#[40]⟩=false) (va:Int) :
  Ev prog 282 [.loc 3 0,.loc 4 0] [bp c,fC m,q5 5 va ⟨#[]⟩,[.loc 1 0],[.loc 2 0]] []
   (fun r os tk=>r = .cj []/\os=[bp { c with p:=c.p + 3 },fC (m + 1),Gm va ⟨s,a⟩ (q5 1 a2 s2),[.loc 1 0],[.loc 2 0]]/\tk=[]):=by
 have ht:=IB h hp (by simp)
 have uW:bw { c with p:=c.p + 1 }:=by
  have:=h.step;rw [bA.step,hp,ah (by simp)] at this;exact this
 have hnd:=CQ _ uW CS
 have gK:¬ (bA.bY { c with p:=c.p + 1 }).k=0:=by
  have:=LR;simp only [bA.is,aP,decide_eq_true_eq] at this;omega
 have e3:bA.step { c with p:=c.p + 1 }={ c with p:=c.p + 2 }:=by rw [bA.step,ah gK]
 have e4:bA.Gh { c with p:=c.p + 1 } CS={ c with p:=c.p + 2 }:=by rw [bA.Gh,LR,aj rfl,e3]
 rw [LR,e4] at hnd;have LQ:bw { c with p:=c.p + 2 }:=by rw [<- e3];exact uW.step
 have hv:=zM _ LQ hd a2 e2 n2 s2 GM m hm hn;obtain ⟨l,p,d,f1,f2⟩:=c;refine tS (s:=false) (bt:=[]) (mu:=[45]) (hbt:=fun p hp=>by cases hp) (fr:=false) (P:=prog) tt sg 5000 60 [] func282 rfl ntmps282 rfl (nL rfl) (fun _ _ _ _=>?_);refine aC 1 0 Nx rfl rfl rfl aT aT ht (fun r cg bl hΦ _ _=>?_);obtain ⟨rfl,rfl,rfl⟩:=hΦ;refine aC 1 0 Nb rfl rfl rfl aT aT hnd (fun r cg bl hΦ _ _=>?_);obtain ⟨rfl,rfl,rfl⟩:=hΦ;refine dS ?_;refine ⟨⟨by simp [maxLen],by simp⟩,?_⟩;refine Ix (.op 0 (.ev 1 (.op 2 (.op 3 .fin)) (.ev 2 (.op 1 (.op 3 .fin)) .stop))) mo (by decide +kernel) ?_;refine ⟨?_,?_,trivial⟩
 ·refine cy [0,1] (fun i=>Nat.beq i 11) mo (by decide +kernel) ?_;refine qQ 2 rfl As rfl rfl aT aT hv (fun r cg hΦ _=>?_);obtain ⟨rfl,rfl,_⟩:=hΦ;refine ⟨⟨by simp [maxLen],by simp⟩,?_⟩;exact ⟨.cj [],[bp _,fC (m + 1),Gm va ⟨s,a⟩ (q5 1 a2 s2),[.loc 1 0],[.loc 2 0]],aT,aT,rfl,rfl,rfl⟩
 ·refine Gg [0,1] (fun i=>Nat.beq i 11) (.op 0 (.op 1 (.op 2 (.op 3 (.op 4 (.op 6 (.ev 5 (.ev 7 (.ev 8 (.op 9 (.op 10 (.ev 11 .fin .stop))) .stop) .stop) (.ev 7 (.ev 5 (.ev 8 (.op 9 (.op 10 (.ev 11 .fin .stop))) .stop) .stop) .stop)))))))) mo (by decide +kernel) ?_;refine ⟨?_,⟨?_,trivial⟩⟩
  ·refine qQ 2 rfl As rfl rfl aT aT hv (fun r cg hΦ _=>?_);obtain ⟨rfl,rfl,_⟩:=hΦ;refine ⟨?_,trivial⟩;refine (Ge [.int .i64 0,.int .i64 0,.int .i64 0,.string ⟨#[]⟩,.slice none 0 0,.slice none 0 0] rfl rfl rfl rfl rfl rfl).d rfl rfl ?_;refine ⟨?_,trivial⟩;refine ⟨⟨by simp,by simp [maxLen],by simp⟩,fun cap vz=>?_⟩;refine ⟨?_,trivial⟩;refine ⟨⟨by simp,by simp⟩,?_⟩;refine ⟨by simp [vL],?_⟩;refine ⟨.cj [],[bp _,fC (m + 1),Gm va ⟨s,a⟩ (q5 1 a2 s2),[.loc 1 0],[.loc 2 0]],aT,?_,rfl,rfl,rfl⟩;refine ⟨_,_,rfl,aT,_,_,rfl,aT,_,_,rfl,?_,_,_,rfl,aT,_,_,rfl,aT,rfl⟩;refine ⟨_,_,rfl,rfl,_,_,rfl,rfl,_,_,rfl,rfl,_,_,rfl,rfl,_,_,rfl,.inr (.inl ⟨_,rfl⟩),_,_,rfl,?_,rfl⟩;exact J0 a2 s2 _ rfl (nL rfl)
  ·refine (Ge [.int .i64 0,.int .i64 0,.int .i64 0,.string ⟨#[]⟩,.slice none 0 0,.slice none 0 0] rfl rfl rfl rfl rfl rfl).d rfl rfl ?_;refine ⟨?_,trivial⟩;refine qQ 2 rfl As rfl rfl aT aT hv (fun r cg hΦ _=>?_);obtain ⟨rfl,rfl,_⟩:=hΦ;refine ⟨?_,trivial⟩;refine ⟨⟨by simp,by simp [maxLen],by simp⟩,fun cap vz=>?_⟩;refine ⟨?_,trivial⟩;refine ⟨⟨by simp,by simp⟩,?_⟩;refine ⟨by simp [vL],?_⟩;refine ⟨.cj [],[bp _,fC (m + 1),Gm va ⟨s,a⟩ (q5 1 a2 s2),[.loc 1 0],[.loc 2 0]],aT,?_,rfl,rfl,rfl⟩;refine ⟨_,_,rfl,aT,_,_,rfl,aT,_,_,rfl,?_,_,_,rfl,aT,_,_,rfl,aT,rfl⟩;refine ⟨_,_,rfl,rfl,_,_,rfl,rfl,_,_,rfl,rfl,_,_,rfl,rfl,_,_,rfl,.inr (.inl ⟨_,rfl⟩),_,_,rfl,?_,rfl⟩;exact J0 a2 s2 _ rfl (nL rfl)
end Go.Proofs.YtfdedoiiahbnnaaGreat
namespace Go.Proofs.YtfdedoiiahbnnaaGreat
namespace Dv
open Go Go.RowKit
mutual
def sbD (n:Nat):DV->DV
 | .agg l=>.agg (sbL n l)
 | .cj l=>.cj (sbL n l)
 | .loc i o=>.loc (n + i) o
 | .el i o=>.el (n + i) o
 | .ms i e o l c=>.ms (n + i) e o l c
 | .fn f a b=>.fn f (sbL n a) (sbL n b)
 | .lE t x=>.lE t (sbD n x)
 | .sl e es tk=>.sl e es (match tk with | some _=>none | none=>none)
 | .v x=>.v x
 | .ud=>.ud
 | .pt cs o=>.pt cs o
def sbL (n:Nat):List DV->List DV
 | []=>[]
 | d :: r=>sbD n d :: sbL n r
end
mutual
theorem nH {n:Nat} {E2 E:En} (hc:E.c=E2.c) (hβ:∀ (i:Nat) b,E2.β[i]? = some b->E.β[n + i]? = some b):∀ {d:DV} {v:Value},Rv E2 d v->Rv E (sbD n d) v
 | .v x,v,h=>by simpa only [Rv,sbD] using h
 | .ud,v,h=>by simpa only [Rv,sbD] using h
 | .agg l,v,h=>by
  simp only [Rv,sbD] at h ⊢;obtain ⟨vs,h1,h2,h3⟩:=h;exact ⟨vs,h1,iB hc hβ h2,h3⟩
 | .cj l,v,h=>by
  simp only [Rv,sbD] at h ⊢;obtain ⟨vs,h1,h2⟩:=h;exact ⟨vs,h1,iB hc hβ h2⟩
 | .sl e es tk,v,h=>by
  have he:E.cl=E2.cl:=by simp [En.cl,hc]
  simp only [Rv,sbD] at h ⊢;obtain ⟨b,m,cap,h1,h2,h3,h4⟩:=h;refine ⟨b,m,cap,h1,h2,fun hn=>⟨(h3 hn).1,by rw [he];exact (h3 hn).2⟩,?_⟩;intro k hk;cases tk<;>cases hk
 | .pt cs off,v,h=>by
  have he:E.cl=E2.cl:=by simp [En.cl,hc]
  simp only [Rv,sbD] at h ⊢;rw [he];exact h
 | .loc i off,v,h=>by
  simp only [Rv,sbD] at h ⊢;obtain ⟨b,h1,h2⟩:=h;exact ⟨b,hβ i b h1,h2⟩
 | .el i off,v,h=>by
  simp only [Rv,sbD] at h ⊢;obtain ⟨b,h1,h2⟩:=h;exact ⟨b,hβ i b h1,h2⟩
 | .ms i e off len cap,v,h=>by
  simp only [Rv,sbD] at h ⊢;obtain ⟨b,a,h1,h2⟩:=h;exact ⟨b,a,hβ i b h1,h2⟩
 | .fn f a b,v,h=>by
  simp only [Rv,sbD] at h ⊢;obtain ⟨l,r,h1,h2,h3⟩:=h;exact ⟨l,r,h1,iB hc hβ h2,iB hc hβ h3⟩
 | .lE t x,v,h=>by
  simp only [Rv,sbD] at h ⊢;obtain ⟨z,h1,h2⟩:=h;exact ⟨z,h1,nH hc hβ h2⟩
theorem iB {n:Nat} {E2 E:En} (hc:E.c=E2.c) (hβ:∀ (i:Nat) b,E2.β[i]? = some b->E.β[n + i]? = some b):∀ {l:List DV} {vs:List Value},RvL E2 l vs->RvL E (sbL n l) vs
 | [],vs,h=>by simpa only [RvL,sbL] using h
 | d :: r,vs,h=>by
  simp only [RvL,sbL] at h ⊢;obtain ⟨v,s,h1,h2,h3⟩:=h;exact ⟨v,s,h1,nH hc hβ h2,iB hc hβ h3⟩
end
def Uz (P:Program) (f:FuncId) (args:List DV) (Φ:DV->List (List DV)->Prop):Prop:=
 ∀ (E:En) (w:World) (vs:List Value),Env E [] w->E.tk=[]->RvL E args vs->Calls P f vs.toArray w fun e w'=>∃ v,e = .returned v/\lF E.S w w' /\
  ∃ d os E',Env E' os w' /\ E'.tk=[]/\Nw E E' w/\(∀ cs∈os,clB.clL 0 0 cs=true)/\Rv E' d v/\Φ d os
section
variable {X:Ctx} {st:St} {k:List It} {E:En} {a:Act} {w:World}
theorem zN (h:Rel X E st a w) (bo:X.still=false) {E2:En} {os:List (List DV)} {w':World} (hm:lF (E.cl).S w w') (he:Env E2 os w') (hn:Nw E.cl E2 w) (cC:∀ cs∈os,clB.clL 0 0 cs=true) (hbt:X.bt=[]) :
  Rel X ⟨E2.c,E.β ++ E2.β,E.tk,E.τ⟩ ⟨st.sl,st.bx ++ os,st.tk⟩ a w' /\ Ext E ⟨E2.c,E.β ++ E2.β,E.tk,E.τ⟩:=by
 have hh:∀ i,i < w.heap.size->w'.heap[i]? = w.heap[i]?:=fun i hi=>hm.block i hi (by
  rintro (h1 | ⟨y,h1,_⟩)
  ·simp [En.cl] at h1
  ·simp [En.cl] at h1)
 have cm:∀ x v,E2.c x=some v->E.c x=some v∨w.heap.size<=x.block:=fun x v hx=>by
  rcases hn.cn x v hx with h1 | h1 | ⟨y,h1,_⟩
  ·exact .inl h1
  ·exact .inr h1
  ·simp [En.cl] at h1
 have kQ:∀ b∈E2.β,w.heap.size<=b:=by
  obtain ⟨r,hr,lx⟩:=hn.β;simp only [En.cl,List.nil_append] at hr;rw [hr];exact lx
 have hx:Ext E ⟨E2.c,E.β ++ E2.β,E.tk,E.τ⟩:=⟨hn.c,fun i b hb=>by
  show (E.β ++ E2.β)[i]? = _;rw [cY (gS hb).1]
  exact hb,fun _ q h=>⟨q,h,.inl ⟨rfl,rfl⟩⟩⟩
 have hk:=h.env.fW hh;refine ⟨bU h hx ?_ h.tk ?_ (h.fr.bF hm.os hm.tape hm.output hm.size fun i hi=>.inr (hh i hi)) (kE bo) (.nil hbt),hx⟩
 ·exact {
   len:=by
    show (E.β ++ E2.β).length=(st.bx ++ os).length;rw [List.length_append,List.length_append,h.env.len,he.len]
   tl:=h.env.tl
   bxs:=fun i cs hi=>by
    rw [List.getElem?_append] at hi;split at hi
    ·obtain ⟨b,ty,arr,hb,hw,hc⟩:=hk.bxs i cs hi;exact ⟨b,ty,arr,hx.β i b hb,hw,hc.mono hx⟩
    ·rename_i bO;obtain ⟨b,ty,arr,hb,hw,hc⟩:=he.bxs _ cs hi;refine ⟨b,ty,arr,?_,hw,⟨RvL.mono (E:=E2.cut 0 0) ⟨fun _ _ h=>h,fun i b hb=>by simp [En.cut] at hb,fun k q hq=>by simp [En.cut] at hq⟩ (RvL.cut hc.1 (cC cs (mG hi))),hc.2⟩⟩;show (E.β ++ E2.β)[i]? = _;rw [List.getElem?_append_right (by rw [h.env.len];omega),h.env.len];exact hb
   inj:=by
    show (E.β ++ E2.β).Nodup;rw [List.nodup_append];refine ⟨h.env.inj,he.inj,fun x hx1 y rc Df=>?_⟩;have:=h.env.aN hx1;have:=kQ y rc;omega
   sub:=he.sub
   pc:=fun x v hc iD=>by
    rcases List.mem_append.1 iD with iD | iD
    ·rcases cm x v hc with h1 | h1
     ·exact h.env.pc x v h1 iD
     ·have:=h.env.aN iD;omega
    ·exact he.pc x v hc iD
   bN:=fun k q y hq hy=>by
    rcases hk.bN k q y hq hy with h1 | ⟨g',cap,cur,rfl,h1,h2,h3,h4,h5,h6⟩
    ·exact .inl h1
    ·have hg:=(eZ (h.env.bN k q _ hq hy) (g:=g') rfl).1;refine .inr ⟨g',cap,cur,rfl,h1,⟨h2.1,h2.2.mono hn.c⟩,h3,h4,fun iD=>?_,fun x v hc oi=>?_⟩
     ·rcases List.mem_append.1 iD with iD | iD
      ·exact h5 iD
      ·have:=kQ g' iD;omega
     ·rcases cm x v hc with h7 | h7
      ·exact h6 x v h7 oi
      ·omega
   fG:=h.env.fG }
 ·exact {
   c:=fun x v hc=>hn.c x v (h.nw.c x v hc)
   cn:=fun x v hc=>by
    rcases cm x v hc with h1 | h1
    ·exact h.nw.cn x v h1
    ·have:=h.fr.size;exact .inr (.inl (by omega))
   β:=by
    obtain ⟨r,hr,lx⟩:=h.nw.β;refine ⟨r ++ E2.β,by show E.β ++ E2.β=_;rw [hr,List.append_assoc],fun b hb=>?_⟩;rcases List.mem_append.1 hb with hb | hb
    ·exact lx b hb
    ·exact Nat.le_trans h.fr.size (kQ b hb)
   tk:=h.nw.tk
   tn:=h.nw.tn
   l0:=h.nw.l0 }
theorem LS {f:FuncId} {args aV:List DV} {d:Nat} (gU:Enters X.P f) (hd:dE X.nt st.sl (some d)=true) {Φ:DV->List (List DV)->Prop} (hc:Uz X.P f aV Φ) (ha:CcL [] 0 0 0 aV args)
  (hk:∀ r os,Φ r os->go X 4000 k ⟨(d,⟨[],sbD st.bx.length r⟩) :: st.sl,st.bx ++ os,st.tk⟩) (hbt:X.bt=[]:=by exact rfl) (bo:X.still=false:=by exact rfl):CallG X f args (some d) k st:=by
 refine ⟨gU,bo,fun E a w vs h hv=>?_⟩;have J3:RvL E.cl aV vs:=CcL.sound (E:=E) (E':=E.cl) ⟨fun _ _ h=>h,fun i cs _ hi=>by simp at hi⟩ (Ak.zero _ _) ha hv;refine (hc E.cl w vs (yp h.env) rfl J3).mono ?_;rintro e w' ⟨v,rfl,hm,r,os,E2,he,_,hn,cC,hr,hΦ⟩;obtain ⟨ba,hx⟩:=zN h bo hm he hn cC hbt;refine go_sound 4000 _ _ (hk r os hΦ) _ _ w' (aO ba hd _ v (nH (E2:=E2) (E:=⟨E2.c,E.β ++ E2.β,E.tk,E.τ⟩) (n:=st.bx.length) rfl (fun i b hb=>?_) hr));show (E.β ++ E2.β)[_]? = _;rw [List.getElem?_append_right (by rw [h.env.len];omega),h.env.len];simpa using hb
theorem CT {c:Code} {Q:Exit->Act->World->Prop} (J:St->Prop) (n:Nat) (h:Rel X E st a w) (hg:go X n [.code c,.mB J] st) (hΦ:∀ d os tk,¬ X.Φ d os tk) (hp:∀ aJ E' a' w',Rel X E' aJ a' w' -> J aJ -> Q .normal a' w'):c.wp X.P Q a w:=by
 refine wp_mono (go_sound n _ _ hg E a w h) ?_;intro e a w hk
 cases e with
 | normal=>obtain ⟨aJ,E',h1,h2⟩:=hk;exact hp _ _ _ _ h1 h2
 | ret=>obtain ⟨_,v,_,⟨_,_,d,os,E2,_,_,_,_,_,h⟩,_⟩:=hk;exact (hΦ _ _ _ h).elim
 | exit _=>exact hk.elim
 | goto _=>exact hk.elim
 | panic _=>exact hk.elim
 | outgrown=>exact hk.elim
theorem ID (h:Rel X E st a w) {d e:DV} (hr:resD X.T st X.rs=some [d,e]) {post:Ending->World->Prop} (hp:∀ v,Rv E (.cj [d,e]) v->post (.returned v) w):bodyPost X.P X.fn post .ret a w:=by
 have u4:X.fn.results=X.rs.toArray:=by rw [<- X.rO]
 obtain ⟨vs,pa,h1⟩:=gw h hr;have hl:=pa.length;have aY:¬ vs.toArray.size=1:=by simp at hl ⊢;omega
 have h2:(results X.fn a.tmps).run X.P w = .ok (if h:vs.toArray.size=1 then vs.toArray[0] else .tuple vs.toArray) w:=by
  rw [pk,u4]
  simp_all
 rw [dif_neg aY] at h2;exact ⟨h.df,_,h2,hp _ (by unfold Rv;exact ⟨vs,rfl,pa⟩)⟩
theorem Gn {bx:List (List DV)} (h:Env E bx w) {i b:Nat} {cs:List DV} (hi:bx[i]? = some cs) (hb:E.β[i]? = some b) (cC:clB.clL 0 0 cs=true):Env ⟨E.c,[b],[],[]⟩ [cs] w where
 len:=rfl
 tl:=rfl
 bxs:=fun j cs' hj=>by
  cases j with
  | succ j=>simp at hj
  | zero=>
   simp only [List.getElem?_cons_zero,oI] at hj;subst hj;obtain ⟨b',ty,arr,ed,hw,hc⟩:=h.bxs i cs hi;rw [hb] at ed;cases ed;exact ⟨b,ty,arr,rfl,hw,⟨RvL.mono (E:=E.cut 0 0) ⟨fun _ _ h=>h,fun i b hb=>by simp [En.cut] at hb,fun k q hq=>by simp [En.cut] at hq⟩ (RvL.cut hc.1 cC),hc.2⟩⟩
 inj:=by simp
 sub:=h.sub
 pc:=fun x v hc hm=>by
  simp only [List.mem_singleton] at hm;exact h.pc x v hc (hm ▸ mG hb)
 bN:=fun k q y hq=>by simp at hq
 fG:=fun k k' y y' g _ hy=>by simp at hy
end
end Dv
end Go.Proofs.YtfdedoiiahbnnaaGreat
set_option maxRecDepth 100000
namespace Go.Proofs.YtfdedoiiahbnnaaGreat
open Go Go.RowKit Go.Lib Dv Go.Proofs.Tryz
abbrev Gp (l:List oC):bA:=⟨l,0,0,0,0⟩
set_option maxHeartbeats 4000000 in
theorem LU (s:ByteArray) (l:List oC) (GF:bh prog 157 [.v (.string s)] (.cj [.sl 5 (fQ l) none,Ft.d (0,0)])) :
  Uz prog 85 [.v (.string s)] (fun r os=>r = .cj [.loc 0 0,Ft.d (0,0)]/\os=[bp (Gp l)]):=by
 intro E w vs hE om hv;simp only [RvL] at hv;obtain ⟨v1,s1,rfl,h1,rfl⟩:=hv;have h1:=aZ h1;subst h1;have PG:=yp hE;obtain ⟨c,β,tk,τ⟩:=E;change Env ⟨c,[],[],[]⟩ [] w at PG;have mixed:=mo;obtain ⟨w1,hw1⟩:∃ w1,w1=w.alloc (.cells #[.int .i64 0,.int .i64 0] 26 (0,0)):=⟨_,rfl⟩;have gK:∀ k,k < w.heap.size->w1.heap[k]? = w.heap[k]?:=fun k hk=>by rw [hw1];exact Below.heap_alloc _ _ _ hk
 have mQ:w1.heap[w.heap.size]? = some (.cells #[.int .i64 0,.int .i64 0] 26 (0,0)):=by rw [hw1];exact Array.getElem?_push_size
 have KM:=PG.fW gK;have jI:=GF _ w1 [.string s] KM rfl (by simp only [RvL];exact ⟨_,_,rfl,dp rfl,rfl⟩)
 go_enter func85,ntmps85
 go_wp2_with (go_at_call 157;rw [<- hw1];refine jI.mono ?_)
 have SO:=Lib.hid hw1;clear hw1;intro e w2 v2 he wO;subst he;rw [<- SO.out] at wO;obtain ⟨vu,_,d2,os2,E2,Qf,hβ2,yX,Kh,C9,rfl⟩:=wO;unfold Rv at C9;obtain ⟨vs,rfl,pa⟩:=C9;simp only [RvL] at pa;obtain ⟨x1,r1,rfl,hx1,x2,r2,rfl,BJ,rfl⟩:=pa;unfold Ft.d Rv at BJ;obtain ⟨vs2,rfl,H0,_⟩:=BJ;simp only [RvL] at H0;obtain ⟨y1,r3,rfl,rc,y2,r4,rfl,iK,rfl⟩:=H0;obtain rfl:=aZ rc;obtain rfl:=aZ iK;have Pe:=hx1;unfold Rv at hx1;obtain ⟨bs,n,cap,rfl,⟨ow,_⟩,_,_⟩:=hx1;obtain rfl:n=(fQ l).length:=ow;generalize (fQ l).length=n at Pe
 go_wp2
 obtain ⟨w3,G2⟩:∃ w3,w3=w2.alloc (.cells #[.int .i64 0,.int .i64 0] 26 (0,0)):=⟨_,rfl⟩;have hz1:w1.heap.size=w.heap.size + 1:=by rw [SO.out];simp
 have Ub:w1.heap.size<=w2.heap.size:=vu.size;have hz3:w3.heap.size=w2.heap.size + 1:=by rw [G2];simp
 have hb5:w3.heap[w2.heap.size]? = some (.cells #[.int .i64 0,.int .i64 0] 26 (0,0)):=by rw [G2];exact Array.getElem?_push_size
 have GH:w3.heap[w.heap.size]? = some (.cells #[.int .i64 0,.int .i64 0] 26 (0,0)):=by
  rw [G2,Below.heap_alloc _ _ _ (by omega),vu.block _ (by omega) (by
   rintro (h1 | ⟨y,h1,_⟩)
   ·simp at h1
   ·simp at h1)]
  exact mQ
 rw [<- G2];have UA:=Lib.hid G2;clear G2;rename_i K hK
 have KF:∀ x v,E2.c x=some v->x.block < w.heap.size∨(w1.heap.size<=x.block/\x.block < w2.heap.size):=fun x v hx=>by
  rcases Kh.cn x v hx with h1 | h1 | ⟨y,h1,_⟩
  ·exact .inl (World.block_lt_of_cell? w x (PG.sub x v h1))
  ·exact .inr ⟨h1,World.block_lt_of_cell? w2 x (Qf.sub x v hx)⟩
  ·simp at h1
 have UB:∀ k,k < w2.heap.size->w3.heap[k]? = w2.heap[k]?:=fun k hk=>by rw [UA.out];exact Below.heap_alloc _ _ _ hk
 have UC:Env ⟨E2.c,[w.heap.size,w2.heap.size],[],[]⟩ [JZ,JZ] w3:={
  len:=rfl
  tl:=rfl
  bxs:=fun i cs hi=>by
   match i,hi with
   | 0,hi=>
    cases hi;exact ⟨_,_,[.int .i64 0,.int .i64 0],rfl,GH,by simp only [RvL];exact ⟨_,_,rfl,⟨rfl,rfl⟩,_,_,rfl,⟨rfl,rfl⟩,rfl⟩,by intro v hv;simp at hv;subst hv;rfl⟩
   | 1,hi=>
    cases hi;exact ⟨_,_,[.int .i64 0,.int .i64 0],rfl,hb5,by simp only [RvL];exact ⟨_,_,rfl,⟨rfl,rfl⟩,_,_,rfl,⟨rfl,rfl⟩,rfl⟩,by intro v hv;simp at hv;subst hv;rfl⟩
   | i + 2,hi=>simp at hi
  inj:=by simp;omega
  sub:=(Qf.fW UB).sub
  pc:=fun x v hx hm=>by
   simp only [List.mem_cons,List.not_mem_nil,or_false] at hm;have:=KF x v hx;omega
  bN:=fun k q y hq=>by simp at hq
  fG:=fun k k' y y' g _ hy=>by simp at hy }
 have Qs:E2.tk=[]:=List.eq_nil_of_length_eq_zero yX;have hx4:Rv ⟨E2.c,[w.heap.size,w2.heap.size],[],[]⟩ (.sl 5 (fQ l) none) (.slice bs n cap):=Pe.mono (E:=E2) ⟨fun _ _ h=>h,fun i b hb=>by rw [hβ2] at hb;simp at hb,fun k q hq=>by rw [Qs] at hq;simp at hq⟩
 refine CT (X:=⟨prog,tt,sg,Tryz.f85,19,[.tmp 2,.cell 3 26],rfl,w3,⟨E2.c,[w.heap.size,w2.heap.size],[],[]⟩,2,0,rfl,rfl,false,fun _ _ _=>False,[],[],false⟩)
  (E:=⟨E2.c,[w.heap.size,w2.heap.size],[],[]⟩) (st:=⟨[(2,⟨[],.v (.pointer none)⟩),aS 3 0,dH 4 5 (fQ l),aS 5 1],[JZ,JZ],[]⟩)
  (fun aJ=>resD tt aJ [.tmp 2,.cell 3 26]=some [.loc 2 0,Ft.d (0,0)]/\aJ.bx=[JZ,JZ,bp (Gp l)]) 4000
  {env:=UC
   tk:=rfl
   sz:=rfl
   tm:=by
    intro i x hx;simp only [bT] at hx;split at hx
    ·rename_i e;cases hx;subst e;exact ⟨fun _=>⟨_,rfl,rfl,rfl⟩,fun hn=>(hn (aG _)).elim⟩
    split at hx
    ·rename_i e;cases hx;subst e;exact ⟨fun _=>⟨_,rfl,w.heap.size,rfl,rfl⟩,fun hn=>(hn (aG _)).elim⟩
    split at hx
    ·rename_i e;cases hx;subst e;exact ⟨fun _=>⟨_,rfl,hx4⟩,fun hn=>(hn (aG _)).elim⟩
    split at hx
    ·rename_i e;cases hx;subst e;exact ⟨fun _=>⟨_,rfl,w2.heap.size,rfl,rfl⟩,fun hn=>(hn (aG _)).elim⟩
    ·cases hx
   df:=rfl
   nw:=Nw.refl UC
   fr:=⟨rfl,rfl,rfl,bd _,fun _ _ _=>rfl⟩
   sh:=fun h=>by cases h
   bt:=fun p hp=>by cases hp } ?_ (fun _ _ _ h=>h) ?_
 ·refine cy [0] (fun _=>false) mo (by decide +kernel) ?_;exact ⟨rfl,rfl⟩
 ·intro aJ E' a' w' ba ⟨ym,nN⟩;have hβ':=ba.nw.β;obtain ⟨r,hr,lx⟩:=hβ';have hr:E'.β=[w.heap.size,w2.heap.size] ++ r:=hr;have hlen:=ba.env.len;rw [hr,nN] at hlen
  match r,hlen with
  | [b],_=>
   have hb:E'.β[2]? = some b:=by rw [hr];all_goals rfl
   have Am:w3.heap.size<=b:=lx b (by simp);have Pf:=Gn (i:=2) (cs:=bp (Gp l)) ba.env (by rw [nN];rfl) hb rfl
   have hold:∀ k,k < w.heap.size->w'.heap[k]? = w.heap[k]?:=fun k hk=>by
    rw [ba.fr.block k (by show k < w3.heap.size;omega) (by
     rintro (h1 | ⟨y,h1,_⟩)
     ·simp only [List.mem_cons,List.not_mem_nil,or_false] at h1;omega
     ·simp at h1),UB k (by omega),vu.block k (by omega) (by
     rintro (h1 | ⟨y,h1,_⟩)
     ·simp at h1
     ·simp at h1),gK k hk]
   refine hK a' w' (wp_ret ?_);refine ID ba ym fun v hv=>?_;have h1:=ba.fr;have q1:w1.os=w.os/\w1.tape=w.tape/\w1.output=w.output:=by rw [SO.out];exact ⟨rfl,rfl,rfl⟩
   have q3:w3.os=w2.os/\w3.tape=w2.tape/\w3.output=w2.output:=by rw [UA.out];exact ⟨rfl,rfl,rfl⟩
   have hz4:w3.heap.size<=w'.heap.size:=h1.size;refine ⟨v,rfl,⟨?_,?_,?_,by omega,fun k hk _=>hold k hk⟩,_,_,_,Pf,rfl,?_,?_,?_,rfl,rfl⟩
   ·rw [show w'.os=w3.os from h1.os,q3.1,vu.os,q1.1]
   ·rw [show w'.tape=w3.tape from h1.tape,q3.2.1,vu.tape,q1.2.1]
   ·rw [show w'.output=w3.output from h1.output,q3.2.2,vu.output,q1.2.2]
   ·have eβ:β=[]:=List.eq_nil_of_length_eq_zero hE.len;have eτ:τ=[]:=List.eq_nil_of_length_eq_zero (by have:=hE.tl;rw [this,om];rfl);have etk:tk=[]:=om;subst eβ eτ etk
    exact {
     c:=fun x v hx=>ba.nw.c x v (Kh.c x v hx)
     cn:=fun x v hx=>by
      rcases ba.nw.cn x v hx with h2 | h2 | ⟨y,h2,_⟩
      ·rcases Kh.cn x v h2 with h3 | h3 | ⟨y,h3,_⟩
       ·exact .inl h3
       ·exact .inr (.inl (by omega))
       ·simp at h3
      ·exact .inr (.inl (by have:w3.heap.size<=x.block:=h2;omega))
      ·simp at h2
     β:=⟨[b],rfl,fun x hx=>by
      simp only [List.mem_singleton] at hx;subst hx
      omega⟩
     tk:=fun k q y hq=>by simp at hq
     tn:=fun k y g _ hy=>by simp at hy
     l0:=rfl }
   ·intro cs bP;simp only [List.mem_singleton] at bP;subst bP;rfl
   ·unfold Rv at hv ⊢;obtain ⟨vs,h2,h3⟩:=hv;refine ⟨vs,h2,?_⟩;simp only [RvL] at h3 ⊢;obtain ⟨a1,s1,rfl,h4,a2,s2,rfl,h5,rfl⟩:=h3;refine ⟨a1,_,rfl,?_,a2,_,rfl,?_,rfl⟩
    ·unfold Rv at h4 ⊢;obtain ⟨b',h6,h7⟩:=h4;rw [hb] at h6;cases h6;exact ⟨b,rfl,h7⟩
    ·exact Rv.mono (E:=E'.cut 0 0) ⟨fun _ _ h=>h,fun i b hb=>by simp [En.cut] at hb,fun k q hq=>by simp [En.cut] at hq⟩ (Rv.cut h5 rfl)
end Go.Proofs.YtfdedoiiahbnnaaGreat
set_option maxRecDepth 100000
namespace Go.Proofs
open Go.Shelf
def Tryz.lays217_ren:Go.Shelf.Ren:=⟨fun | 217=>353 | 266=>361 | n=>n,fun | 9=>9 | 3=>3 | 5=>5 | n=>n,fun | n=>n⟩
theorem Tryz.lays217:Go.Proofs.Lays.n217 prog Tryz.lays217_ren:={
 mixed:=by kernel_rfl
 f217:=func353.trans (congrArg some (by kernel_rfl))
 f266:=func361.trans (congrArg some (by kernel_rfl))
 t3:=Tryz.underlying3
 a3:=Tryz.isAgg3
 z3:=Tryz.sizeOf3
 v3:=Tryz.zeroValue3
 t5:=Tryz.underlying5
 a5:=Tryz.isAgg5
 z5:=Tryz.sizeOf5
 v5:=Tryz.zeroValue5
 t9:=Tryz.underlying9
 a9:=Tryz.isAgg9
 z9:=Tryz.sizeOf9
 v9:=Tryz.zeroValue9 }
end Go.Proofs
namespace Go.Proofs.YtfdedoiiahbnnaaGreat
open Go Go.RowKit Dv Go.Proofs.Tryz
theorem CU (s:ByteArray) (c:Int):bh prog 353 [.v (.string s),.v (.int .u8 c)] (.v (.int .i64 (Lib.indexByte (tx s) c.toNat.toUInt8))):=by
 refine BZ fun E w vs hE hv=>?_;simp only [RvL] at hv;obtain ⟨v1,s1,rfl,h1,v2,s2,rfl,h2,rfl⟩:=hv;have h1:=aZ h1;have h2:=aZ h2;subst h1 h2;refine (Any.stringslite_IndexByte Tryz.lays217 s c w).mono ?_;rintro e w' ⟨rfl,rfl⟩;exact ⟨_,rfl,dp rfl,Below.refl _ _⟩
theorem Gq (s:ByteArray) (c:Int):bh prog 333 [.v (.string s),.v (.int .u8 c)] (.v (.int .i64 (Lib.indexByte (tx s) c.toNat.toUInt8))):=by
 refine eG 8 [.tmp 4] func333 rfl ntmps333 rfl fun _ _ _ _=>?_;refine cP NL (CU s c) ?_;exact (rfl:_=_)
def zO (s p:ByteArray):Bool:=decide (p.size<=s.size) && decide (s.extract 0 p.size=p)
theorem zP (s p:ByteArray) (hs:s.size<=4611686018427387904):bh prog 352 [.v (.string s),.v (.string p)] (.v (.bool (zO s p))):=by
 refine eG 18 [.tmp 4] func352 rfl ntmps352 rfl fun _ _ _ _=>?_;refine br ?_ ?_<;>intro g
 ·have g1:p.size<=s.size:=sU g;refine ⟨⟨by omega,by omega,by omega⟩,?_⟩;refine congrArg (fun z=>DV.v (Value.bool z)) ?_;unfold zO;rw [decide_eq_true g1,Bool.true_and];rfl
 ·have g1:¬ p.size<=s.size:=sU g;refine congrArg (fun z=>DV.v (Value.bool z)) ?_;unfold zO;rw [decide_eq_false g1,Bool.false_and]
theorem CV (s p:ByteArray) (hs:s.size<=4611686018427387904):bh prog 332 [.v (.string s),.v (.string p)] (.v (.bool (zO s p))):=by
 refine eG 8 [.tmp 4] func332 rfl ntmps332 rfl fun _ _ _ _=>?_;refine cP NK (zP s p hs) ?_;exact (rfl:_=_)
end Go.Proofs.YtfdedoiiahbnnaaGreat
set_option maxRecDepth 100000
namespace Go.Proofs.YtfdedoiiahbnnaaGreat
open Go Go.RowKit Dv Go.Proofs.Tryz
def uX (c:Nat):Bool:=decide (c=32) || decide (c=10) || decide (c=9) || decide (c=13)
theorem zQ (c:Nat):bh prog 242 [.v (.int .u8 c)] (.v (.bool (uX c))):=by
 refine eG 17 [.tmp 2] func242 rfl ntmps242 rfl fun _ _ _ _=>?_;refine congrArg (fun z=>DV.v (Value.bool z)) ?_;unfold uX;simp only [aF];have e1:decide ((c:Int)=32)=decide (c=32):=decide_eq_decide.2 (by omega);have e2:decide ((c:Int)=10)=decide (c=10):=decide_eq_decide.2 (by omega);have e3:decide ((c:Int)=9)=decide (c=9):=decide_eq_decide.2 (by omega);have e4:decide ((c:Int)=13)=decide (c=13):=decide_eq_decide.2 (by omega);rw [e1,e2,e3,e4]
def uY:ByteArray:=⟨#[123,125,91,93,40,41,44,58,61,60,62,64,43,35,126,42]⟩
def CW:ByteArray:=⟨#[46,46]⟩
def Bg (s:ByteArray) (i:Nat):ByteArray:=if zO (s.extract i s.size) CW=true then CW else if 0<=Lib.indexByte (tx uY) (dh s i).toUInt8 then s.extract i (i + 1) else ⟨#[]⟩
theorem zR (s:ByteArray) (hs:s.size<=1099511627776) (i:Nat) (hi:i < s.size):bh prog 290 [.v (.string s),.v (.int .i64 i)] (.v (.string (Bg s i))):=by
 have hp:=CV (s.extract i s.size) CW (by simp;omega);have hx:=Gq uY (dh s i:Nat);have hM:Bg s i=if zO (s.extract i s.size) CW=true then CW else if 0<=Lib.indexByte (tx uY) (dh s i).toUInt8 then s.extract i (i + 1) else ⟨#[]⟩:=rfl
 rw [Dk] at hx;generalize Bg s i=M at hM ⊢;generalize zO (s.extract i s.size) CW=B at hp hM;generalize Lib.indexByte (tx uY) (dh s i).toUInt8=I at hx hM
 have hw:IntKind.i64.wrap ((i:Int) + 1)=((i + 1:Nat):Int):=by
  rw [wrap64 (by omega) (by omega)];omega
 refine eG 30 [.tmp 4] func290 rfl ntmps290 rfl fun _ _ _ _=>?_;refine br (fun g=>?_) (fun _=>?_)
 ·exfalso;simp [aF] at g;omega
 refine ⟨⟨by omega,by omega,by omega⟩,?_⟩;refine cP NI hp ?_
 cases B with
 | true=>
  rw [aj rfl] at hM;rw [hM];exact (rfl:_=_)
 | false=>
  rw [ah (by simp)] at hM;refine ⟨⟨by omega,by omega⟩,?_⟩;refine cP NJ hx ?_;refine br ?_ ?_<;>intro g
  ·have g:0<=I:=sU g;rw [aj g] at hM;rw [hM];refine ⟨⟨by omega,by rw [hw];omega,by rw [hw];omega⟩,?_⟩;rw [hw];exact (rfl:_=_)
  ·have g:¬ 0<=I:=sU g;rw [ah g] at hM;rw [hM];exact (rfl:_=_)
abbrev IE (t:oC):DV:=.cj [.agg (oD t),Ft.d (0,0)]
theorem zS (s:ByteArray) (hs:s.size<=1099511627776) (i:Nat) (hi:i < s.size) (e:Nat) (he:i + dJ (s.data.toList.drop i)=e) (hn:i < e) (hr:bG (s.extract i e)=true) :
  bh prog 244 [.v (.string s),.v (.int .i64 i)] (IE ⟨1,i,e,s.extract i e,0⟩):=by
 have ht:=na s i hi (by omega);rw [he] at ht
 have qZ:e<=s.size:=by
  have:=pF (s.data.toList.drop i);simp at this;omega
 have UD:=e8 (s.extract i e) (by simp;omega);rw [hr] at UD
 have aY:¬ s.extract i e=⟨#[]⟩:=fun h=>by
  have:=congrArg ByteArray.size h;simp at this;have h2:(ByteArray.mk #[]).size=0:=rfl;omega
 generalize s.extract i e=M at *;refine eG 103 [.cell 4 218,.cell 5 26] func244 rfl ntmps244 rfl fun _ _ _ _=>?_;refine cP Av ht ?_;refine br (fun _=>?_) (fun g=>absurd (show M=⟨#[]⟩ by simpa using g) aY);refine cP BK UD ?_;exact ⟨_,ax,rfl⟩
theorem lv (s:ByteArray) (hs:s.size<=1099511627776) (i:Nat) (hi:i < s.size) (hn:dJ (s.data.toList.drop i)=0) (M:ByteArray) (hM:Bg s i=M) (aY:¬ M=⟨#[]⟩) (cf:M.size<=2) :
  bh prog 244 [.v (.string s),.v (.int .i64 i)] (IE ⟨4,i,(i + M.size:Nat),M,0⟩):=by
 have ht:=na s i hi (by omega);rw [hn,lY] at ht;have hm:=zR s hs i hi;rw [hM] at hm
 have hw:IntKind.i64.wrap ((i:Int) + M.size)=((i + M.size:Nat):Int):=by
  rw [wrap64 (by omega) (by omega)];omega
 have hX:=congrArg (fun z=>DV.v (Value.int .i64 z)) hw;refine eG 103 [.cell 4 218,.cell 5 26] func244 rfl ntmps244 rfl fun _ _ _ _=>?_;refine cP Av ht ?_;refine cP NG hm ?_;refine br (fun _=>?_) (fun g=>absurd (show M=⟨#[]⟩ by simpa using g) aY);exact ⟨_,(by repeat' (first | exact rfl | exact trivial | exact Or.inr (Or.inl ⟨_,rfl⟩) | exact Or.inr ⟨_,rfl⟩ | exact Or.inl ⟨rfl,rfl⟩ | exact Or.inl rfl | refine Or.inr ⟨_,_,rfl,Nat.zero_le _,rfl,?_⟩ | refine ⟨_,_,rfl,?_,?_⟩ | refine ⟨_,rfl,?_⟩ | exact hX | refine Or.inr (Or.inr (Or.inr ⟨_,_,rfl,?_⟩)) | exact Or.inl rfl | refine Or.inr ?_)),rfl⟩
inductive j4 (s:ByteArray):Nat->List oC->Prop
 | nil:j4 s s.size []
 | blank {i:Nat} {l:List oC}:i < s.size->uX (dh s i)=true->j4 s (i + 1) l->j4 s i l
 | tok {i e:Nat} {t:oC} {l:List oC}:i < s.size->uX (dh s i)=false->dh s i≠59->bh prog 244 [.v (.string s),.v (.int .i64 i)] (IE t)->t.e=e->i < e->e<=s.size->j4 s e l->j4 s i (t :: l)
abbrev Pg (s:ByteArray) (L:List oC) (q cF:Nat):St:=⟨[(0,⟨[],.v (.string s)⟩),(2,⟨[],.v (.slice none 0 0)⟩),aS 3 0,(4,⟨[],.sl 5 (fQ L) (some 0)⟩),aS 5 1,aA 6 cF],[JZ,JZ],[⟨q,218,5,none⟩]⟩
theorem CY (s:ByteArray) (hs:s.size<=65536) (l:List oC) (hl:j4 s 0 l):bh prog 157 [.v (.string s)] (.cj [.sl 5 (fQ (l ++ [lu s.size])) none,Ft.d (0,0)]):=by
 refine eG 63 [.tmp 2,.cell 3 26] func157 rfl ntmps157 rfl fun _ _ _ _=>?_;refine br (fun g=>absurd (show 65536 < s.size by have:=of_decide_eq_true g;omega) (by omega)) (fun _=>?_);refine lI (fun j st=>∃ (i q:Nat) (L r:List oC),st=Pg s L q i/\q=L.length/\j4 s i r/\L ++ r=l/\L.length<=i/\i<=s.size/\j=s.size - i) ⟨0,0,[],l,rfl,rfl,hl,rfl,by simp,by omega,rfl⟩ (fi 2 ⟨0,218,5,none⟩ rfl rfl rfl BB rfl rfl tT) ?_;rintro j st ⟨i,q,L,r,rfl,hq,hr,Qg,hLi,NR,rfl⟩;refine br (fun av=>?_) (fun bO=>?_)
 ·have av:i < s.size:=sU av;have hb:=zQ (dh s i);refine ⟨⟨by omega,by omega⟩,?_⟩
  cases hr with
  | nil=>omega
  | blank _ h1 h2=>
   rw [h1] at hb;refine cP Jh hb ?_;exact ⟨Pg s L q (i + 1),(jx 2 (GJ (bV av (by omega))) (iF (bV av (by omega)))),s.size - (i + 1),by omega,i + 1,q,L,_,rfl,hq,h2,Qg,by omega,by omega,rfl⟩
  | @tok _ e t l' _ h1 h2 h3 h4 h5 h6 h7=>
   rw [h1] at hb;refine cP Jh hb ?_;refine ⟨⟨by omega,by omega⟩,?_⟩;refine br (fun g=>absurd (show dh s i=59 by have:=of_decide_eq_true g;rw [Dk] at this;omega) h2) (fun _=>?_);obtain ⟨tk,ta,te,ts,tn⟩:=t;simp only at h4;subst h4;refine cP Nv h3 ?_;refine ⟨(fg L).trans hq.symm,⟨by simp [maxLen,fg];omega,by simp [fg];omega⟩,?_⟩;exact rE ⟨_,by omega,e,q + 1,L ++ [⟨tk,ta,e,ts,tn⟩],l',rfl,by simp [hq],h7,by simpa using Qg,by simp;omega,h6,rfl⟩ (jx 2 (GJ (lr L ⟨tk,ta,e,ts,tn⟩)) (iF (lr L ⟨tk,ta,e,ts,tn⟩)))
 ·have bO:s.size=i:=by
   have:=of_decide_eq_false bO;omega
  subst bO
  cases hr with
  | nil=>
   rw [List.append_nil] at Qg;subst Qg;refine cy [0] (fun _=>false) mo (by decide +kernel) ?_;refine ⟨(fg L).trans hq.symm,⟨by simp [maxLen,fg];omega,by simp [fg];omega⟩,?_⟩;rw [<- lr];exact ⟨_,ax,rfl⟩
  | blank h=>exact absurd h (Nat.lt_irrefl _)
  | tok h=>exact absurd h (Nat.lt_irrefl _)
abbrev Pj:ByteArray:=⟨#[123]⟩
abbrev CZ:ByteArray:=⟨#[125]⟩
theorem Pk {c:bA} {k:Int} {s:ByteArray} (h:c.is k s=true) (hk:k≠0):¬ c.bY.k=0:=by
 simp only [bA.is,aP,decide_eq_true_eq] at h;omega
theorem oR {c:bA} {k:Int} {s:ByteArray} (h:c.is k s=true) (hk:k≠0):c.step={ c with p:=c.p + 1 }:=by rw [bA.step,ah (Pk h hk)]
structure qR (c:bA) (a e n:Int) (s:ByteArray) (a2 e2 n2:Int) (s2:ByteArray):Prop where
 ok:bw c
 f:c.f.1=0
 d:c.d < 24
 key:c.bY=⟨1,a,e,s,n⟩
 UE:bA.is { c with p:=c.p + 1 } 4 CS=true
 v:bA.bY { c with p:=c.p + 2 }=⟨1,a2,e2,s2,n2⟩
 nx:bA.is { c with p:=c.p + 3 } 4 CZ=true
theorem qR.UF {c:bA} {a e n:Int} {s:ByteArray} {a2 e2 n2:Int} {s2:ByteArray} (h:qR c a e n s a2 e2 n2 s2):bw { c with p:=c.p + 3 }:=by
 have h1:bw { c with p:=c.p + 1 }:=by
  have:=h.ok.step;rw [bA.step,h.key,ah (by simp)] at this;exact this
 have h2:bw { c with p:=c.p + 2 }:=by
  have:=h1.step;rw [oR h.UE (by decide)] at this;exact this
 have:=h2.step;rw [bA.step,h.v,ah (by simp)] at this;exact this
theorem qR.SP {c:bA} {a e n:Int} {s:ByteArray} {a2 e2 n2:Int} {s2:ByteArray} (h:qR c a e n s a2 e2 n2 s2):bA.is { c with p:=c.p + 3 } 4 ⟨#[40]⟩=false:=by
 have:=h.nx;simp only [bA.is,aP,decide_eq_true_eq] at this;rw [bA.is,this.2];simp
abbrev Pm (c:bA) (m:Nat) (va:Int):St:=⟨[aS 0 1,(1,⟨[],.v (.string CZ)⟩),(2,⟨[],.fn 282 [] [.loc 3 0,.loc 4 0]⟩)],[bp c,fC m,q5 5 va ⟨#[]⟩,[.loc 1 0],[.loc 2 0]],[]⟩
theorem Gr {c:bA} {a e n:Int} {s:ByteArray} {a2 e2 n2:Int} {s2:ByteArray} (h:qR c a e n s a2 e2 n2 s2) (m:Nat) (hm:m < 4096) (va:Int) :
  Ev prog 281 [.loc 1 0,.v (.string CZ),.fn 282 [] [.loc 3 0,.loc 4 0]] [bp c,fC m,q5 5 va ⟨#[]⟩,[.loc 1 0],[.loc 2 0]] []
   (fun r os tk=>r = .cj []/\os=[bp { c with p:=c.p + 4 },fC (m + 1),Gm va ⟨s,a⟩ (q5 1 a2 s2),[.loc 1 0],[.loc 2 0]]/\tk=[]):=by
 have h1:=uV h.ok (s:=CZ) (by rw [bA.is,h.key];simp);have h2:=qP c;have h3:=IC c h.ok h.d a e n s h.key h.UE a2 e2 n2 s2 h.v m hm h.SP va;have h4:=xP h.UF h.nx;rw [oR h.nx (by decide)] at h4;have hf:=h.f;obtain ⟨l,p,d,f1,f2⟩:=c;simp only at hf;subst hf;refine eG 32 [] func281 rfl ntmps281 rfl fun _ _ _ _=>?_;refine aC 1 0 nP rfl rfl rfl aT aT h1 (fun r cg bl hΦ _ _=>?_);obtain ⟨rfl,rfl,rfl⟩:=hΦ;refine lI (fun j st=>st=Pm ⟨l,p,d,0,f2⟩ m va/\j=0) ⟨rfl,rfl⟩ (jx 5 BB tT) ?_;rintro j st ⟨rfl,rfl⟩;refine aC 1 0 D3 rfl rfl rfl aT aT h2 (fun r cg bl hΦ _ _=>?_);obtain ⟨rfl,rfl,rfl⟩:=hΦ;refine aC 5 0 NC rfl rfl rfl aT aT h3 (fun r cg bl hΦ _ _=>?_);obtain ⟨rfl,rfl,rfl⟩:=hΦ;refine aC 1 0 nP rfl rfl rfl aT aT h4 (fun r cg bl hΦ _ _=>?_);obtain ⟨rfl,rfl,rfl⟩:=hΦ;exact ⟨.cj [],[bp _,fC (m + 1),Gm va ⟨s,a⟩ (q5 1 a2 s2),[.loc 1 0],[.loc 2 0]],aT,aT,rfl,rfl,rfl⟩
theorem zT {c:bA} {a e n:Int} {s:ByteArray} {a2 e2 n2:Int} {s2:ByteArray} (h:qR c a e n s a2 e2 n2 s2) (m:Nat) (hm:m < 4096) (va:Int) :
  Ev prog 221 [.loc 1 0,.loc 2 0] [bp c,fC m,q5 0 va ⟨#[]⟩] []
   (fun r os tk=>r = .cj []/\os=[bp { c with p:=c.p + 4 },fC (m + 1),Gm va ⟨s,a⟩ (q5 1 a2 s2)]/\tk=[]):=by
 have h1:=Gr h m hm va;obtain ⟨l,p,d,f1,f2⟩:=c;refine eG 10 [] func221 rfl ntmps221 rfl fun _ _ _ _=>?_;refine aC 5 0 NB rfl rfl rfl aT aT h1 (fun r cg bl hΦ _ _=>?_);obtain ⟨rfl,rfl,rfl⟩:=hΦ;exact ⟨.cj [],[bp _,fC (m + 1),Gm va ⟨s,a⟩ (q5 1 a2 s2)],aT,aT,rfl,rfl,rfl⟩
theorem C0 (c:bA) (hc:bw c) (hd:c.d < 24) (a0 e0 n0:Int) (hp:c.bY=⟨4,a0,e0,Pj,n0⟩) {a e n:Int} {s:ByteArray} {a2 e2 n2:Int} {s2:ByteArray} (h:qR { c with d:=c.d + 1,p:=c.p + 1 } a e n s a2 e2 n2 s2) (m:Nat) (hm:m + 1 < 4096) :
  Ev prog 137 [.loc 1 0] [bp c,fC m] []
   (fun r os tk=>r = .agg (Gm a0 ⟨s,a⟩ (q5 1 a2 s2))/\os=[bp { c with p:=c.p + 5 },fC (m + 2)]/\tk=[]):=by
 have GP:=dN c hc;rw [hp] at GP;have gU:=tw c hc hd m (by omega);have uW:=uU hc hd
 have NR:bA.is { c with d:=c.d + 1 } 4 Pj=true:=by
  have x5:bA.bY { c with d:=c.d + 1 }=⟨4,a0,e0,Pj,n0⟩:=hp;rw [bA.is,x5];simp
 have Oc:=xP uW NR;rw [oR NR (by decide)] at Oc;have G7:=zT h (m + 1) hm a0
 have SQ:bw { c with p:=c.p + 5 }:=by
  have h4:=h.UF.step;rw [oR h.nx (by decide)] at h4;exact ⟨h4.lt,hc.nx,hc.len,hc.dl⟩
 have Lr:=xO SQ hd;obtain ⟨l,p,d,f1,f2⟩:=c;refine eG 78 [.cell 2 70] func137 rfl ntmps137 rfl fun _ _ _ _=>?_;refine aC 1 0 lX rfl rfl rfl aT aT GP (fun r cg bl hΦ _ _=>?_);obtain ⟨rfl,rfl,rfl⟩:=hΦ;refine aC 2 0 Jb rfl rfl rfl aT aT gU (fun r cg bl hΦ _ _=>?_);obtain ⟨rfl,rfl,rfl⟩:=hΦ;refine aC 1 0 nP rfl rfl rfl aT aT Oc (fun r cg bl hΦ _ _=>?_);obtain ⟨rfl,rfl,rfl⟩:=hΦ;refine CallG.Cu 2 4 rfl rfl rfl rfl ?_;refine aC 3 0 Nl rfl rfl rfl aT aT G7 (fun r cg bl hΦ _ _=>?_);obtain ⟨rfl,rfl,rfl⟩:=hΦ;refine aC 1 0 Jc rfl rfl rfl aT aT Lr (fun r cg bl hΦ _ _=>?_);obtain ⟨rfl,rfl,rfl⟩:=hΦ;exact ⟨.agg (Gm a0 ⟨s,a⟩ (q5 1 a2 s2)),[bp _,fC (m + 2)],aT,aT,rfl,rfl,rfl⟩
abbrev tC:ByteArray:=⟨#[123,98,58,32,116,114,117,101,125]⟩
abbrev Gs:ByteArray:=⟨#[98]⟩
def lC:List oC:=[⟨4,0,1,Pj,0⟩,⟨1,1,2,Gs,0⟩,⟨4,2,3,CS,0⟩,⟨1,4,8,n8,0⟩,⟨4,8,9,CZ,0⟩]
theorem J1 {s:ByteArray} (hs:s.size<=1099511627776) {i e:Nat} (hi:i < s.size) (he:i + dJ (s.data.toList.drop i)=e) (hn:i < e) {M:ByteArray} (hM:s.extract i e=M) (hr:bG M=true) :
  bh prog 244 [.v (.string s),.v (.int .i64 i)] (IE ⟨1,i,e,M,0⟩):=by
 subst hM;exact zS s hs i hi e he hn hr
theorem LV:j4 tC 0 lC:=
 .tok (e:=1) (by decide) (by decide +kernel) (by decide +kernel) (lv tC (by decide) 0 (by decide) (by decide +kernel) Pj (by decide +kernel) (by decide) (by decide)) rfl (by decide) (by decide)
 (.tok (e:=2) (by decide) (by decide +kernel) (by decide +kernel) (J1 (by decide) (by decide) (by decide +kernel) (by decide) (by decide +kernel) (by decide +kernel)) rfl (by decide) (by decide)
 (.tok (e:=3) (by decide) (by decide +kernel) (by decide +kernel) (lv tC (by decide) 2 (by decide) (by decide +kernel) CS (by decide +kernel) (by decide) (by decide)) rfl (by decide) (by decide)
 (.blank (by decide) (by decide +kernel)
 (.tok (e:=8) (by decide) (by decide +kernel) (by decide +kernel) (J1 (by decide) (by decide) (by decide +kernel) (by decide) (by decide +kernel) (by decide +kernel)) rfl (by decide) (by decide)
 (.tok (e:=9) (by decide) (by decide +kernel) (by decide +kernel) (lv tC (by decide) 8 (by decide) (by decide +kernel) CZ (by decide +kernel) (by decide) (by decide)) rfl (by decide) (by decide) .nil)))))
theorem IF (l:List oC) (e:Int) (hl:l.length<=1099511627775):bw (Gp (l ++ [lu e])) where
 lt:=by show 0 < (l ++ [lu e]).length;simp
 nx:=fun i t hi hk=>by
  show i + 1 < (l ++ [lu e]).length;have hi:(l ++ [lu e])[i]? = some t:=hi;rw [List.getElem?_append] at hi;split at hi
  ·rename_i h;simp;omega
  ·rename_i h;have h2:=(gS hi).1;have h3:i - l.length=0:=by simp at h2;omega
   rw [h3] at hi;simp only [List.getElem?_cons_zero,oI] at hi;subst hi;exact absurd rfl hk
 len:=by show (l ++ [lu e]).length<=_;simp;omega
 dl:=by show 0<=24;omega
abbrev SR:bA:=Gp (lC ++ [lu 9])
theorem Gt:bw SR:=IF lC 9 (by decide)
def Mk:Rw:=.mk 5 0 0 al [⟨Gs,1⟩] [.mk 1 4 0 n8 [] []]
theorem IG:Ev prog 137 [.loc 1 0] [bp SR,fC 0] []
   (fun r os tk=>r = .agg (Gm 0 ⟨Gs,1⟩ (q5 1 4 n8))/\os=[bp ⟨lC ++ [lu 9],5,0,0,0⟩,fC 2]/\tk=[]):=
 C0 SR Gt (by decide) 0 1 0 rfl (a:=1) (e:=2) (n:=0) (s:=Gs) (a2:=4) (e2:=8) (n2:=0) (s2:=n8) ⟨⟨by decide,Gt.nx,Gt.len,by decide⟩,rfl,by decide,rfl,by decide +kernel,rfl,by decide +kernel⟩ 0 (by decide)
theorem Pn:bw ⟨lC ++ [lu 9],5,0,0,0⟩:=⟨by decide,Gt.nx,Gt.len,by decide⟩
theorem zU:bh prog 69 [.v (.string tC)] (.cj [.agg (dRw Mk),Ft.d (0,0)]):=by
 have cm:=LU tC _ (CY tC (by decide) lC LV);have hv:=IG;have hf:=qP ⟨lC ++ [lu 9],5,0,0,0⟩;have hp:=dN _ Pn;rw [show bA.bY ⟨lC ++ [lu 9],5,0,0,0⟩=lu 9 from rfl] at hp;refine eG 53 [.cell 2 70,.cell 3 26] func69 rfl ntmps69 rfl fun _ _ _ _=>?_;refine LS Rh rfl cm ax (fun r os hΦ=>?_);obtain ⟨rfl,rfl⟩:=hΦ;refine CallG.Cu 0 2 rfl rfl rfl rfl (CallG.Cu 1 4 rfl rfl rfl rfl ?_);refine aC 2 0 As rfl rfl rfl aT aT hv (fun r cg bl hΦ _ _=>?_);obtain ⟨rfl,rfl,rfl⟩:=hΦ;refine aC 1 0 D3 rfl rfl rfl aT aT hf (fun r cg bl hΦ _ _=>?_);obtain ⟨rfl,rfl,rfl⟩:=hΦ;refine aC 1 0 lX rfl rfl rfl aT aT hp (fun r cg bl hΦ _ _=>?_);obtain ⟨rfl,rfl,rfl⟩:=hΦ;refine aC 1 0 D3 rfl rfl rfl aT aT hf (fun r cg bl hΦ _ _=>?_);obtain ⟨rfl,rfl,rfl⟩:=hΦ;refine cy [2,4] (fun _=>false) mo (by decide +kernel) ?_;exact ⟨_,ax,rfl⟩
theorem Gu {S:Sch} {ND:List Nd} {PC:List DV} (hP:AZ S ND PC):bh prog 27 [.pt PC 0,.v (.string tC)] (oP (ckV ND Mk (dj S))):=by
 have h1:=zU;have h2:=hP.root;have h3:=eN hP _ Mk (bd _) (by simp [Mk,RwB,RwBs]) (dj S);generalize ckV ND Mk (dj S)=K at h3 ⊢;generalize dj S=rt at h2 h3;obtain ⟨⟨vk,vn,vs,vl⟩,f1,f2⟩:=K;refine eG 25 [.cell 4 61,.cell 5 26] func27 rfl ntmps27 rfl fun _ _ _ _=>?_;refine cP Q4 h1 ?_;refine cy [0,1] (fun _=>false) mo (by decide +kernel) ?_;refine cD Hu h2 ?_;refine cD vU h3 ?_;exact ⟨_,ax,rfl⟩
def sC:Sch:=⟨[⟨⟨#[97]⟩,0⟩],[],[],.mk ⟨7,0,0,0,0,[],⟨al,0⟩⟩ (.cons ⟨⟨Gs,0⟩,false,[],0,0,0,0,[]⟩ (.mk ⟨1,0,0,0,0,[],⟨al,0⟩⟩ .nil) .nil)⟩
theorem SS:ckV (cu sC) Mk (dj sC)=(.mk 7 0 al [.mk 1 1 al []],0,0):=by rfl
theorem eO:bh prog 25 [] (.v (.bool true)):=by
 have hb:=(qy sC (by decide)).mono (Ψ:=fun r _ _=>zx sC r) fun _ _ _ h=>td (by decide) h;refine eG 46 [.tmp 0] func25 rfl ntmps25 rfl fun _ _ _ _=>?_;refine gV MY rfl hb ax (fun r hr=>?_);rcases hr with ⟨h0,_⟩ | ⟨_,PC,hP,rfl⟩
 ·exact absurd (by decide +kernel) h0
 have ht:=Gu hP;rw [SS] at ht;refine cP QY ht ?_;refine ⟨_,Ly _ _ (0,0) (0,0),?_⟩;refine ⟨_,⟨by decide,rfl⟩,?_⟩;exact (rfl:_=_)
end Go.Proofs.YtfdedoiiahbnnaaGreat
