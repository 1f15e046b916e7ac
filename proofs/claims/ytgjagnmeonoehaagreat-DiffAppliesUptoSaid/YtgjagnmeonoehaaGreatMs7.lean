/- Part 7 of the proof: Rules for the evaluator: String of a Builder that holds nothing; The text of a path, of a row: plain, the program's, the document's; How what is seen of values is written: the program's plain, word, of; Reading of values whose numbers are ints, and of arrays of two; What is known of values that are written; how long their texts are: plain; Paths of a value: plain; tree.steps; Where steps lead in a value, and that value with another one there: plain; Rules for the evaluator: calls that hand back fresh rows; Rules for the evaluator: elements of rows whose cells nobody else knows, read and written whole; tree: slices.Index of steps, kid, clone, Get; tree.write, Raw; The least depths of the values of a plan's nodes: plain; The program's nodes, least depths; The document's least depths; fine; the chapter's example; The program's Depths; The law of least depths: fine, the example, the call returns true; The document's Fits; Written values: well formed; the document's Same on the same value; its Raw; ref25.Paths; tree: walk, Paths; What is different between two values: plain; How what is seen of values is written: the program's write; A text's first units: the document's Head, the program's heads, floors; The numbers of a plan's nodes are ints; A region that draws its order, in which a new object may come at any time among calls: its run with the object made at each of these times serves every order; Where steps lead: the document's Edge, Walk; the program's; The program's way along steps: fits, step, Walk; With which schemas nothing is wrong: the document's Wrong of chapters 20, 21; the law's fine; Which levels see a place: the program's Who; A region that draws its order, run by a schedule: at each point all that may come and has an effect is tried; The document's rows of an audit: With, Under, How, Rows; What is seen of a value: the document's Edge, Coarse, Erase, Seen; How what is seen of values is written: Compact; the document's open, end, Text; How what is seen of values is written: the document's Text; what is seen may be written; Documents: plain (as values); the program's Text, Line, Soft, Cat, Nest, Group; What is seen of a value: the program's look, sees, coarsely, edge, coarse; The document's Kid, Get, Set of a value that fits; The document's Same of values, Set; The document's rows of an audit; All rows of an audit, by the document; the law's bounds; Alike, differ: the document's; What is seen of a value: the program's erase, Erase, Hidden. No condition. -/
import Derived.OpenShut
import Derived.Test.YtgjagnmeonoehaaGreatMs2
import Derived.Test.YtgjagnmeonoehaaGreatMs3
import Derived.Test.YtgjagnmeonoehaaGreatMs4
import Derived.Test.YtgjagnmeonoehaaGreatMs5
import Derived.Test.YtgjagnmeonoehaaGreatMs6
set_option linter.all false
set_option maxRecDepth 100000
namespace Go.Proofs.YtgjagnmeonoehaaGreat
open Go Go.RowKit Dv Go.Proofs.Tryz
theorem TW (b:Nat) (p:Value) (w:World) (pX:w.heap[b]? = some (.cells #[p,.slice none 0 0] 160 (0,0))) :
  Calls prog 76 #[.pointer (some ⟨b,0,none⟩)] w fun e w'=>e = .returned (.string ⟨#[]⟩)/\w'=w.drew:=by
 have c1:w.drew.cell? ⟨b,1,none⟩=some (.slice none 0 0):=by
  have:w.drew.heap[b]? = some (.cells #[p,.slice none 0 0] 160 (0,0)):=pX;rw [Lib.cell_of_heap this];all_goals rfl
 have hSD:(Builtin.unsafeSliceData_ #[158] 258 #[.slice none 0 0]).run prog w.drew = .ok (.pointer none) w.drew:=
  Lib.run_unsafeSliceData_nil _ _ _ _ _
 have hUS:(Builtin.unsafeString_ #[258,3] 9 #[.pointer none,.int .i64 0]).run prog w.drew = .ok (.string ⟨#[]⟩) w.drew:=
  Lib.run_unsafeString_none w.drew 258 3 9 none
 have mixed:=mo
 go_enter func76,ntmps76
 go_wp2
 go_region_o
 all_goals (go_wp2;go_ret;exact ⟨rfl,rfl⟩)
theorem Q0 {X:Ctx} {st:St} {k:List It} (hP:X.P=prog) {i d:Nat} {p:DV} (hbt:(i,160)∈X.bt) (jU:st.bx[i]? = some [p,.v (.slice none 0 0)])
  (jO:X.n0=0) (kg:X.m0=0) (hd:eB X.nt st.sl (some d)=true)
  (hk:go X 4000 k ⟨[(d,⟨[],.v (.string ⟨#[]⟩)⟩)],[],[]⟩) (aR:X.still=false:=by exact rfl):dH X 76 [.loc i 0] (some d) k st:=by
 refine ⟨?_,aR,fun E a w vs h hv=>?_⟩
 ·rw [hP];exact aaF
 rw [hP];simp only [RvL] at hv;obtain ⟨v1,vr,rfl,h1,rfl⟩:=hv;unfold Rv at h1;obtain ⟨b,hb,rfl⟩:=h1;obtain ⟨b',ty,arr,eC,hw,u7⟩:=h.env.eA i _ jU;rw [hb] at eC;simp only [oI] at eC;subst eC;obtain ⟨Sz,qm⟩:=h.bt _ hbt b hb;rw [hw] at qm;simp only [oI,Obj.cells.injEq] at qm;have Sa:ty=160:=qm.2.1;subst Sa;obtain ⟨hr,ho⟩:=u7;simp only [RvL] at hr;obtain ⟨pv,r1,rfl,TJ,cv,r2,rfl,QG,rfl⟩:=hr;unfold Rv at QG;obtain ⟨rfl,_⟩:=QG;refine (TW b pv w hw).mono ?_;rintro e w' ⟨rfl,rfl⟩;have hE0:X.E0.β=[]:=List.eq_nil_of_length_eq_zero (by rw [X.jO,jO]);have Yi:X.E0.tk=[]:=List.eq_nil_of_length_eq_zero (by rw [X.kg,kg])
 let E':En:=⟨E.c,[],[],[]⟩
 have bM:Rel X E' ⟨[],[],[]⟩ a w.drew:={
  env:={
   len:=rfl
   tl:=rfl
   eA:=by simp
   inj:=List.nodup_nil
   sub:=fun x v hx=>h.env.sub x v hx
   pc:=by simp [E']
   bQ:=by simp [E']
   iZ:=by simp [E'] }
  tk:=rfl
  sz:=h.sz
  tm:=fun i x hx=>by cases hx
  df:=h.df
  nw:={
   c:=fun x v hx=>h.nw.c x v hx
   cn:=fun x v hx=>h.nw.cn x v hx
   β:=⟨[],by rw [hE0];rfl,by simp⟩
   tk:=fun k q y hq _=>by rw [Yi] at hq;simp at hq
   tn:=fun k y g' _ hy _=>by simp [E'] at hy
   l0:=h.nw.l0 }
  fr:=h.fr.cu rfl rfl rfl (aO _) fun j hj=>Or.inr rfl
  sh:=mB aR
  bt:=fun p hp b hb=>by simp [E'] at hb }
 have lR:eB X.nt ([]:List (Nat × Sl)) (some d)=true:=by
  simp only [eB,aD] at hd ⊢;exact ⟨hd.1,rfl⟩
 exact go_sound 4000 _ _ hk _ _ _ (aY (st:=⟨[],[],[]⟩) bM lR (.v (.string ⟨#[]⟩)) _ (by unfold Rv;exact ⟨rfl,rfl⟩))
def stepT (s:ch):List UInt8:=if s.k=1 then 46 :: tx s.s else if s.k=2 then 91 :: (iw s.n ++ [93]) else if s.k=3 then [91,93] else if s.k=4 then [63] else 33 :: tx s.s
def yE (l:List ch):List UInt8:=if lK l=true then (l.map stepT).flatten else []
def Q1 (s:ch):Prop:=(-9223372036854775808<=s.n/\s.n<=9223372036854775807)/\s.s.size<=1099511627776
theorem FT (s:ch):stepT s ≠ []:=by
 unfold stepT
 repeat' split
 all_goals simp
theorem jy {s:ByteArray} (h:bd s=true):s.size<=32:=by
 unfold bd at h;simp only [aD,decide_eq_true_eq] at h;exact h.2.1
theorem MM {s:ch} (hi:Q1 s) (h:dR s=true):(stepT s).length<=33:=by
 have hp:=wS hi.1.1 hi.1.2;unfold dR at h;unfold stepT;by_cases h1:s.k=1
 ·rw [ai h1];rw [ai (.inl h1)] at h;simp only [aD] at h;have:=jy h.2;simp only [List.length_cons,bB];omega
 ·rw [ah h1];by_cases h2:s.k=2
  ·rw [ai h2];simp only [List.length_cons,List.length_append,List.length_nil];omega
  ·rw [ah h2];by_cases h3:s.k=3
   ·rw [ai h3];simp
   ·rw [ah h3];by_cases h4:s.k=4
    ·rw [ai h4];simp
    ·rw [ah h4];by_cases h5:s.k=5
     ·rw [ai (.inr h5)] at h;simp only [aD] at h;have:=jy h.2;simp only [List.length_cons,bB];omega
     ·rw [ah (by omega),ah h2,ah (by omega)] at h;cases h
theorem Ba:∀ {l:List ch},(∀ s∈l,Q1 s)->l.all dR=true->((l.map stepT).flatten).length<=33 * l.length
 | [],_,_=>by simp
 | s :: r,hi,h=>by
  simp only [List.all_cons,aD] at h;have h1:=MM (hi s (by simp)) h.1;have h2:=Ba (l:=r) (fun x hx=>hi x (by simp [hx])) h.2;simp only [List.map_cons,List.flatten_cons,List.length_append,List.length_cons];omega
theorem yF (s:ch) (hi:Q1 s):EvP prog 220 [.agg (lH s)] (.v (.string (ba (stepT s)))):=by
 have hp:=Ej s.n hi.1.1 hi.1.2;have iJ:=LD hi.1.1 hi.1.2;obtain ⟨k,n,t⟩:=s;have hs:=hi.2;simp only at hs hp iJ;have hF:stepT ⟨k,n,t⟩=if k=1 then 46 :: tx t else if k=2 then 91 :: (iw n ++ [93]) else if k=3 then [91,93] else if k=4 then [63] else 33 :: tx t:=rfl
 generalize stepT ⟨k,n,t⟩=F at hF ⊢;refine eG 24 [.tmp 2] func220 rfl ntmps220 rfl fun _ _ _ _=>?_;refine br ?_ ?_<;>intro c
 ·have c:k=1:=sU c;rw [ai c] at hF;subst hF;refine ⟨by (simp only [jM,uc,List.length_cons,List.length_nil];omega),?_⟩;refine (congrArg (fun s=>DV.v (.string s)) (mT ?_):_=_);simp [wT,O1]
 have c1:¬ k=1:=sU c;rw [ah c1] at hF;refine br ?_ ?_<;>intro c
 ·have c:k=2:=sU c;rw [ai c] at hF;subst hF;refine cP JQ hp ?_;refine ⟨by (simp only [jM,uc,List.length_cons,List.length_nil];omega),?_⟩;refine ⟨by (simp only [jM,uc,List.length_cons,List.length_nil];omega),?_⟩;refine (congrArg (fun s=>DV.v (.string s)) (mT ?_):_=_);simp [wT,O1,SP]
 have c2:¬ k=2:=sU c;rw [ah c2] at hF;refine br ?_ ?_<;>intro c
 ·have c:k=3:=sU c;rw [ai c] at hF;subst hF;exact (rfl:_=_)
 have c3:¬ k=3:=sU c;rw [ah c3] at hF;refine br ?_ ?_<;>intro c
 ·have c:k=4:=sU c;rw [ai c] at hF;subst hF;exact (rfl:_=_)
 have c4:¬ k=4:=sU c;rw [ah c4] at hF;subst hF;refine ⟨by (simp only [jM,uc,List.length_cons,List.length_nil];omega),?_⟩;refine (congrArg (fun s=>DV.v (.string s)) (mT ?_):_=_);simp [wT,O1]
def lr (l:List ch) (e:Nat):List UInt8:=((l.take e).map stepT).flatten
theorem yG {l:List ch} {e:Nat} {x:ch} (h:l[e]? = some x):lr l (e + 1)=lr l e ++ stepT x:=by
 unfold lr;rw [List.take_add_one,h];simp
theorem MN {l:List ch} (hi:∀ s∈l,Q1 s) (hr:l.all dR=true) (hl:l.length<=64) (e:Nat):(lr l e).length<=2112:=by
 have h1:=Ba (l:=l.take e) (fun s hs=>hi s (List.mem_of_mem_take hs)) (List.all_eq_true.2 fun s hs=>List.all_eq_true.1 hr s (List.mem_of_mem_take hs));have h2:(l.take e).length<=l.length:=by rw [zLenT];omega
 unfold lr;omega
theorem FU {l:List ch} (h:lK l=true):yE l=lr l l.length:=by unfold yE lr;rw [ai h,List.take_length]
theorem CP {l:List ch} (h:lK l=true):l.length<=64/\l.all dR=true:=by
 unfold lK at h;simp only [aD,decide_eq_true_eq] at h;exact h
abbrev Wf (l:List ch):St:=⟨[aab 3 0,aad 9 3 (bm l),aaa 10 ((bm l).length),aaa 11 (0:Nat)],[[.v (.pointer none),.v (.slice none 0 0)]],[]⟩
abbrev Yq (l:List ch) (T:List UInt8) (e:Nat):St:=⟨[aab 3 0,aad 9 3 (bm l),aaa 10 ((bm l).length),aaa 11 e],[[.loc 0 0,.sl 1 (bD T) (some 0)]],[⟨T.length,5,1,none⟩]⟩
theorem Bb (l:List ch) (hi:∀ s∈l,Q1 s):EvP prog 151 [.sl 3 (bm l) none] (.v (.string (ba (yE l)))):=by
 have CQ:=ux l (fun s hs=>by have:=(hi s hs).2;omega);have bz:=fl l
 cases hR:lK l with
 | false=>
  rw [hR] at CQ;have hF:yE l=[]:=by unfold yE;rw [hR];all_goals rfl
  rw [hF];refine mI (s:=false) (bt:=[(0,160)]) (hbt:=fun p hp=>Nat.zero_le _) (P:=prog) tt jC 5000 20 [.tmp 2] func151 rfl ntmps151 rfl (nL rfl) (fun _ _ _ _=>?_);refine cP JR CQ ?_;exact (rfl:_=_)
 | true=>
 rw [hR] at CQ;obtain ⟨Tv,gp⟩:=CP hR;have hF:=FU hR;have iJ:=MN hi gp Tv;rw [hF];refine mI (s:=false) (bt:=[(0,160)]) (hbt:=fun p hp=>Nat.zero_le _) (P:=prog) tt jC 5000 20 [.tmp 2] func151 rfl ntmps151 rfl (nL rfl) (fun _ _ _ _=>?_);refine cP JR CQ ?_;refine aT (fun j st=>∃ e:Nat,((e=0/\st=Wf l)∨(lr l e ≠ []/\st=Yq l (lr l e) e))/\e<=l.length/\j=l.length - e) l.length (Wf l) (wkM wB) ⟨0,.inl ⟨rfl,rfl⟩,by omega,by omega⟩ ?_;rintro j st ⟨e,(⟨rfl,rfl⟩ | ⟨Yi,rfl⟩),he,rfl⟩
 ·refine br ?_ ?_<;>intro hL
  ·have aq:0 < l.length:=sV bz hL;obtain ⟨x,hx⟩:=gX aq;have TX:=hi x (mG hx);have ht:=yF x TX;have fB:=yG hx;have aQ:=FT x;have hp0:lr l 0=[]:=rfl;rw [hp0,List.nil_append] at fB;have u9:=iJ (0 + 1);rw [fB] at u9;have za:0 < (stepT x).length:=List.length_pos_iff.2 aQ;obtain ⟨xk,xn,xs⟩:=x;refine iX (fW hx) ?_;refine cP U2 ht ?_;refine Fw rfl (stepT ⟨xk,xn,xs⟩) (l:=[]) (kt:=0) (by simp [nY]) (.head _) rfl (.inl rfl) (.inl ⟨rfl,rfl,rfl,rfl⟩) (by (simp only [jM,uc,List.length_cons,List.length_nil];omega)) (by omega) rfl ?_;refine ⟨Yq l (stepT ⟨xk,xn,xs⟩) 1,(wkM (wB1 (nxt aq (by omega)))),l.length - 1,by omega,1,.inr ⟨by rw [fB];exact aQ,by rw [fB]⟩,by omega,rfl⟩
  ·have aS:l.length=0:=by have:=hL;simp [bz] at this;first | omega | simp [this]
   rw [aS];refine Q0 rfl (.head _) rfl rfl rfl rfl ?_;exact (rfl:_=_)
 ·refine br ?_ ?_<;>intro hL
  ·have aq:e < l.length:=sV bz hL;obtain ⟨x,hx⟩:=gX aq;have TX:=hi x (mG hx);have ht:=yF x TX;have fB:=yG hx;have aQ:=FT x;have u9:=iJ (e + 1);have za:0 < (stepT x).length:=List.length_pos_iff.2 aQ;obtain ⟨xk,xn,xs⟩:=x;refine iX (fW hx) ?_;refine cP U2 ht ?_;refine Fw rfl (lr l (e + 1)) (l:=lr l e) (kt:=0) (by rw [fB];all_goals simp [nY]) (.head _) rfl (.inr rfl) (.inr ⟨rfl,Yi,rfl,rfl⟩) (by (simp only [jM,uc,List.length_cons,List.length_nil];omega)) (by omega) rfl ?_;refine ⟨Yq l (lr l (e + 1)) (e + 1),(wkM (wB1 (nxt aq (by omega)))),l.length - (e + 1),by omega,e + 1,.inr ⟨by rw [fB];simp [aQ],rfl⟩,by omega,rfl⟩
  ·have aS:e=l.length:=sW bz hL;subst aS;refine vA rfl (l:=lr l l.length) (kt:=0) (.head _) rfl Yi rfl rfl rfl rfl ?_;exact (rfl:_=_)
namespace Dv
section
variable {X:Ctx} {st:St} {k:List It}
theorem Wg {o:Oper} {t d e:Nat} {x:Operand} {es:List (List DV)} {tk:Option Nat} {n et e' iI:Nat} {bb:Bool} {z:List Value} (kW:∃ t',o.op = .binOp .neq t x (.const (.slice none 0 0)) t') (eX:o.dst=some d) (hx:rv st [] x=some (.sl e es tk)) (aQ:es ≠ []) (hT:X.T.find t=some ⟨n,bb,.sl et e' iI,z⟩) (hd:eB X.nt st.sl (some d)=true)
  (hk:go X 4000 k ⟨(d,⟨[],.v (.bool true)⟩) :: st.sl,st.bx,st.tk⟩):Gx X o k st:=by
 intro E a w h;obtain ⟨t',kW⟩:=kW;have e1:=aU h.rl hx;unfold Rv at e1;obtain ⟨b,m,cap,e1,⟨rfl,_⟩,hr,_⟩:=e1;obtain ⟨hu,_⟩:=ey X.hT hT;have aK:=ry hu b es.length cap w;have hb:b.isNone=false:=by rw [nO (hr aQ).1];all_goals rfl
 have bU:(execOp a.eval o).run X.P w = .ok (.value (.bool true)) w:=by
  have hc:a.eval (.const (.slice none 0 0)) = .slice none 0 0:=rfl;rw [hb] at aK;simp [execOp,kW,e1,hc,eqGuard,binOp,aK]
 refine gq bU ?_;rw [eX];exact go_sound 4000 _ _ hk E _ w (aY h hd (.v (.bool true)) _ (by unfold Rv;exact ⟨rfl,rfl⟩))
theorem Q2 {o:Oper} {t d et e' iI n:Nat} {x:Operand} {bb:Bool} {z:List Value} (kW:∃ t',o.op = .binOp .neq t x (.const (.slice none 0 0)) t') (eX:o.dst=some d) (hx:rv st [] x=some (.v (.slice none 0 0))) (hT:X.T.find t=some ⟨n,bb,.sl et e' iI,z⟩) (hd:eB X.nt st.sl (some d)=true)
  (hk:go X 4000 k ⟨(d,⟨[],.v (.bool false)⟩) :: st.sl,st.bx,st.tk⟩):Gx X o k st:=by
 intro E a w h;obtain ⟨t',kW⟩:=kW;have e1:=aU h.rl hx;unfold Rv at e1;obtain ⟨hu,_⟩:=ey X.hT hT;have aK:=ry hu none 0 0 w
 have bU:(execOp a.eval o).run X.P w = .ok (.value (.bool false)) w:=by
  have hc:a.eval (.const (.slice none 0 0)) = .slice none 0 0:=rfl;simp [execOp,kW,e1.1,hc,eqGuard,binOp,aK]
 refine gq bU ?_;rw [eX];exact go_sound 4000 _ _ hk E _ w (aY h hd (.v (.bool false)) _ (by unfold Rv;exact ⟨rfl,rfl⟩))
end
end Dv
theorem rR (v:Val):EvP prog 262 [.agg (aH v)] (.v (.bool (decide (v.k < 5) || decide (8 < v.k)))):=by
 obtain ⟨k,n,s,ks⟩:=v;refine eG 11 [.tmp 2] func262 rfl ntmps262 rfl fun _ _ _ _=>?_;refine (aae ?_:);simp only [ap,Val.k];rfl
section
variable {d:Nd} {v:Val}
theorem opn_1 (h:v.k=1) (g:v.n=1):gG d v=[116,114,117,101]:=by rw [gG,ai h,ai g]
theorem Q3 (h:v.k=1) (g:¬ v.n=1):gG d v=[102,97,108,115,101]:=by rw [gG,ai h,ah g]
theorem opn_4 {x:ByteArray} (h:v.k=4) (g:d.af[v.n.toNat]? = some x):gG d v=tx x:=by rw [gG,ah (by omega),ai h,g]
theorem opn_5 (h:v.k=5):gG d v=[91]:=by rw [gG,ah (by omega),ah (by omega),ai h]
theorem opn_6 (h:v.k=6):gG d v=if v.ks=[] then [110,111,110,101] else [115,111,109,101,40]:=by rw [gG,ah (by omega),ah (by omega),ah (by omega),ai h]
theorem Q4 (h:v.k=6) (g:v.ks=[]):gG d v=[110,111,110,101]:=by rw [opn_6 h,ai g]
theorem Q5 (h:v.k=6) (g:v.ks ≠ []):gG d v=[115,111,109,101,40]:=by rw [opn_6 h,ah g]
theorem opn_7 (h:v.k=7):gG d v=[123]:=by rw [gG,ah (by omega),ah (by omega),ah (by omega),ah (by omega),ai h]
theorem opn_8 {e:Ed} (h:v.k=8) (g:d.av[v.n.toNat]? = some e):gG d v=if v.ks=[] then tx e.name else tx e.name ++ [40]:=by
 rw [gG,ah (by omega),ah (by omega),ah (by omega),ah (by omega),ah (by omega),ai h,nmE,g]
theorem Q6 {e:Ed} (h:v.k=8) (g:d.av[v.n.toNat]? = some e) (c:v.ks=[]):gG d v=tx e.name:=by rw [opn_8 h g,ai c]
theorem Q7 {e:Ed} (h:v.k=8) (g:d.av[v.n.toNat]? = some e) (c:v.ks ≠ []):gG d v=tx e.name ++ [40]:=by rw [opn_8 h g,ah c]
theorem Q8 (h:v.k≠1/\v.k≠4/\v.k≠5/\v.k≠6/\v.k≠7/\v.k≠8):gG d v=eT v:=by
 rw [gG,ah h.1,ah h.2.1,ah h.2.2.1,ah h.2.2.2.1,ah h.2.2.2.2.1,ah h.2.2.2.2.2]
theorem end_5 (h:v.k=5):oy v=[93]:=by rw [oy,ai h]
theorem end_7 (h:v.k=7):oy v=[125]:=by rw [oy,ah (by omega),ai h]
theorem Wh (h:v.k≠5/\v.k≠7):oy v=if v.ks=[] then [] else [41]:=by rw [oy,ah h.1,ah h.2]
theorem Wi (h:v.k≠5/\v.k≠7) (g:v.ks=[]):oy v=[]:=by rw [Wh h,ai g]
theorem adQ (h:v.k≠5/\v.k≠7) (g:v.ks ≠ []):oy v=[41]:=by rw [Wh h,ah g]
end
theorem FV (d:Nd) (v:Val) (hs:v.s.size<=1099511627776) (hn:sN v.n) (hk:v.k<=4∨9<=v.k) (h4:v.k=4->0<=v.n/\v.n < d.af.length) :
  EvP prog 264 [.agg (jt d),.agg (aH v)] (.v (.string (ba (gG d v)))):=by
 have hl:=FO v hs hn;have o1:=@opn_1 d v;have o2:=@Q3 d v;have o3:=fun x=>@opn_4 d v x;have o4:=@Q8 d v;generalize gG d v=O at *;generalize eT v=S at *;generalize cJ v=B at *;obtain ⟨ag,aG,lo,hi,most,af,es⟩:=d;obtain ⟨k,n,s,ks⟩:=v;simp only [Val.k,Val.n] at *;refine eG 28 [.tmp 4] func264 rfl ntmps264 rfl fun _ _ _ _=>?_;refine br ?_ ?_<;>intro c
 ·have c:k=1:=sU c;refine br ?_ ?_<;>intro g
  ·rw [o1 c (sU g)];exact (rfl:_=_)
  ·rw [o2 c (sU g)];exact (rfl:_=_)
 have c1:¬ k=1:=sU c;refine br ?_ ?_<;>intro c
 ·have c4:k=4:=sU c;obtain ⟨h0,h1⟩:=h4 c4;obtain ⟨x,hx⟩:∃ x,af[n.toNat]? = some x:=⟨_,gE (by omega)⟩;rw [o3 x c4 hx];refine iX (fT hx) ?_;exact congrArg (fun q=>DV.v (.string q)) (Aj x).symm
 have c4:¬ k=4:=sU c;rw [o4 (by omega)];refine cP abt hl ?_;exact (rfl:_=_)
def tosL (d:Nd) (v:Val) (m:Nat):List Int:=(List.range m).map fun j=>match bY d v.n j with | some e=>e.to | none=>0
theorem Q9 (d:Nd) (v:Val) (m:Nat):(tosL d v m).length=m:=by simp [tosL]
theorem Ra {d:Nd} {v:Val} {m j:Nat} {e:Ed} (h:bY d v.n j=some e) (hj:j < m):(tosL d v m)[j]? = some e.to:=by
 simp [tosL,hj,h]
theorem MO {d:Nd} {v:Val} {m:Nat} {e:Ed} (h:bY d v.n m=some e):tosL d v (m + 1)=tosL d v m ++ [e.to]:=by
 simp [tosL,List.range_succ,h]
def FW (d:Nd) (m:Nat):List (List UInt8):=(d.av.take m).map fun e=>tx e.name ++ [58,32]
theorem Rb {d:Nd} {m:Nat} {e:Ed} (h:d.av[m]? = some e):FW d (m + 1)=FW d m ++ [tx e.name ++ [58,32]]:=by
 simp [FW,List.take_add_one,h]
def MP (d:Nd):DV:=if d.ag=7 then .sl 1 (nu (FW d d.av.length)) none else .v (.slice none 0 0)
abbrev zF:List DV:=[.v (.string au),.v (.string au),.v (.slice none 0 0)]
abbrev IG (d:Nd) (v:Val) (l:List Int) (q e:Nat):St:=
 ⟨[aab 2 0,aab 3 1,aab 4 2,aab 6 3,(7,⟨[],.sl 1 (pk l) (some 0)⟩),aaa 14 ((dVals v.ks).length),aaa 15 e],[jt d,aH v,zF,zF],[⟨q,3,1,none⟩]⟩
abbrev adR (d:Nd) (v:Val) (l:List Int) (q u:Nat):St:=
 ⟨[aab 2 0,aab 3 1,aab 4 2,aab 6 3,(7,⟨[],.sl 1 (pk l) (some 0)⟩),aad 54 10 (fU d.av),aaa 55 ((fU d.av).length),aaa 56 u],
  [jt d,aH v,zF,[.v (.string (ba [123])),.v (.string (ba [125])),.sl 1 (nu (FW d u)) (some 1)]],[⟨q,3,1,none⟩,⟨u,9,1,none⟩]⟩
theorem KQ (d:Nd) (m:Nat) (h:m<=d.av.length):(FW d m).length=m:=by simp [FW];omega
theorem Rc (x:ByteArray) (l:List UInt8):x ++ ba l=ba (tx x ++ l):=(congrArg (·++ ba l) (Aj x)).symm.trans (mS (tx x) l)
theorem MQ {L N:Nat} {d:Nd} (hN:eD L N d) (h5:5<=d.ag) (v:Val) (hv:v.wt<=1099511627776) (hk:v.k=d.ag) (hed:∀ m,m < v.ks.length->∃ e,bY d v.n m=some e) (h8:d.ag=8->0<=v.n/\v.n < d.av.length) :
  EvP prog 263 [.agg (jt d),.agg (aH v)] (.tup [.agg [.v (.string (ba (gG d v))),.v (.string (ba (oy v))),MP d],.sl 1 (pk (tosL d v v.ks.length)) none]):=by
 have A5:=hN.k8;have uu:=hN.many;have o5:=@opn_5 d v;have o6n:=@Q4 d v;have o6s:=@Q5 d v;have o7:=@opn_7 d v;have o8n:=fun e=>@Q6 d v e;have o8s:=fun e=>@Q7 d v e;have e5:=@end_5 v;have e7:=@end_7 v;have en:=@Wi v;have es9:=@adQ v;have hn7:d.ag=7->MP d = .sl 1 (nu (FW d d.av.length)) none:=fun h=>by rw [MP,ai h]
 have hnn:d.ag≠7->MP d = .v (.slice none 0 0):=fun h=>by rw [MP,ah h]
 have hts:=fun m e=>@MO d v m e;have fi:=Q9 d v;have va:=fun m e=>@Rb d m e;have ik:=KQ d
 have hed1:∀ m e,bY d v.n m=some e->d.av[(if d.ag=7 then (m:Int) else if d.ag=8 then v.n else 0).toNat]? = some e:=fun m e h=>by
  unfold bY at h;split at h
  ·rename_i c;rw [ai c];exact h
  ·rename_i c;rw [ah c];split at h
   ·rename_i c8;rw [ai c8];exact h
   ·rename_i c8;rw [ah c8];exact h
 have kL:=cm d.av;generalize gG d v=O at *;generalize oy v=Z at *;generalize MP d=ND at *;have ht0:tosL d v 0=[]:=rfl;have jO:FW d 0=[]:=rfl;generalize tosL d v=T at *;generalize TY:FW d=NM at *;have MR:d.ag=7∨d.ag=8->∀ e∈d.av,e.name.size<=32:=fun h e he=>jy ((uu h).2.2.2 e he);obtain ⟨ag,aG,lo,hi,most,af,es⟩:=d;obtain ⟨k,n,s,ks⟩:=v;have bz:=aP ks;have ir:=b9 ks;rw [Val.wt] at hv;simp only [Val.k,Val.n,Val.ks] at *;subst hk;refine eG 90 [.cell 4 358,.tmp 5] func263 rfl ntmps263 rfl fun _ _ _ _=>?_;refine aT (fun j st=>∃ e:Nat,st=IG ⟨k,aG,lo,hi,most,af,es⟩ (.mk k n s ks) (T e) e e/\e<=ks.length/\j=ks.length - e) ks.length (IG ⟨k,aG,lo,hi,most,af,es⟩ (.mk k n s ks) [] 0 0) (dT 4 ⟨0,3,1,none⟩ rfl rfl rfl qT rfl rfl kr) ⟨0,by rw [ht0],by omega,by omega⟩ ?_;rintro _ st ⟨e,rfl,he,rfl⟩;refine br ?_ ?_<;>intro hL
 ·have aq:e < ks.length:=by simpa [bz,Val.ks] using hL
  obtain ⟨ed,IH⟩:=hed e aq;have vT:=hed1 e ed IH;have fB:pk (T e) ++ [[DV.v (.int .i64 ed.to)]]=pk (T (e + 1)):=by rw [hts e ed IH,rP]
  have CR:(pk (T e)).length=e:=by rw [lp,fi]
  have lZ:∃ j',j' < ks.length - e/\∃ e':Nat,IG ⟨k,aG,lo,hi,most,af,es⟩ (.mk k n s ks) (T (e + 1)) (e + 1) (e + 1)=IG ⟨k,aG,lo,hi,most,af,es⟩ (.mk k n s ks) (T e') e' e' /\ e' <= ks.length/\j'=ks.length - e':=⟨ks.length - (e + 1),by omega,e + 1,rfl,by omega,rfl⟩;have DM:=(gS vT).1;refine br ?_ ?_<;>intro c
  ·have c:k=7:=sU c;rw [ai c] at vT DM;refine iX (bi vT) ?_;refine ⟨CR,⟨by rw [CR];simp [maxLen];omega,by rw [CR];simp;omega⟩,?_⟩;obtain ⟨j',h1,h2⟩:=lZ;exact ⟨IG ⟨k,aG,lo,hi,most,af,es⟩ (.mk k n s ks) (T (e + 1)) (e + 1) (e + 1),(QT 4 (nQ (nxt aq (by omega)) fB) (gw (nxt aq (by omega)) fB)),j',h1,h2⟩
  ·have c7:¬ k=7:=sU c;rw [ah c7] at vT DM;refine br ?_ ?_<;>intro c
   ·have c:k=8:=sU c;have h8:=h8 c;rw [ai c] at vT DM;refine iX (bi vT) ?_;refine ⟨CR,⟨by rw [CR];simp [maxLen];omega,by rw [CR];simp;omega⟩,?_⟩;obtain ⟨j',h1,h2⟩:=lZ;exact ⟨IG ⟨k,aG,lo,hi,most,af,es⟩ (.mk k n s ks) (T (e + 1)) (e + 1) (e + 1),(QT 4 (nQ (nxt aq (by omega)) fB) (gw (nxt aq (by omega)) fB)),j',h1,h2⟩
   ·have c8:¬ k=8:=sU c;rw [ah c8] at vT DM;refine ⟨_,⟨by simp at DM;omega,bi vT⟩,?_⟩;refine ⟨CR,⟨by rw [CR];simp [maxLen];omega,by rw [CR];simp;omega⟩,?_⟩;obtain ⟨j',h1,h2⟩:=lZ;exact ⟨IG ⟨k,aG,lo,hi,most,af,es⟩ (.mk k n s ks) (T (e + 1)) (e + 1) (e + 1),(QT 4 (nQ (nxt aq (by omega)) fB) (gw (nxt aq (by omega)) fB)),j',h1,h2⟩
 have aS:e=ks.length:=by
  have:=hL;simp [bz,Val.ks] at this;omega
 subst aS;refine br ?_ ?_<;>intro c
 ·have c:k=5:=sU c;rw [hnn (by omega),o5 c,e5 c];exact ⟨_,ax,rfl⟩
 have c5:¬ k=5:=sU c;refine br ?_ ?_<;>intro c
 ·have c:k=6:=sU c;rw [hnn (by omega)];refine br ?_ ?_<;>intro g
  ·have g:ks ≠ []:=by rintro rfl;simp [bz] at g
   rw [o6s c g,es9 (by omega) g];exact ⟨_,ax,rfl⟩
  ·have g:ks=[]:=sV bz g;rw [o6n c g,en (by omega) g];exact ⟨_,ax,rfl⟩
 have c6:¬ k=6:=sU c;refine br ?_ ?_<;>intro c
 ·have c:k=7:=sU c;rw [hn7 c,o7 c,e7 c];have iq:=(uu (.inl c)).1;subst TY;refine lJ (fun u=>adR ⟨k,aG,lo,hi,most,af,es⟩ (.mk k n s ks) (T ks.length) ks.length u) es.length (dT 4 ⟨0,9,1,none⟩ rfl rfl rfl qT rfl rfl kr) ?_;intro u hu;refine br ?_ ?_<;>intro hL
  ·have aq:u < es.length:=sV kL hL;obtain ⟨x,hx⟩:=gX aq;have pw:=MR (.inl c) x (mG hx);have eP:(nu (FW ⟨k,aG,lo,hi,most,af,es⟩ u)).length=u:=by rw [LG,ik u (by omega)]
   have fB:nu (FW ⟨k,aG,lo,hi,most,af,es⟩ u) ++ [[DV.v (.string (x.name ++ ba [58,32]))]]=nu (FW ⟨k,aG,lo,hi,most,af,es⟩ (u + 1)):=by
    rw [va u x hx];simp only [nu,List.map_append,List.map_cons,List.map_nil];exact congrArg (fun q=>_ ++ [[DV.v (.string q)]]) (Rc _ _)
   refine iX (bi hx) ?_;refine ⟨by show x.name.size + 2<=_;omega,?_⟩;refine ⟨eP,⟨by rw [eP];simp [maxLen];omega,by rw [eP];simp;omega⟩,?_⟩;exact rE ⟨_,by omega,u + 1,rfl,by omega,rfl⟩ (QT 4 (nQ (nxt aq (by omega)) fB) (gw (nxt aq (by omega)) fB))
  ·have aS:u=es.length:=sW kL hL;subst aS;exact ⟨_,ax,rfl⟩
 have c7:¬ k=7:=sU c;have c8:k=8:=by omega
 refine br (fun _=>?_) (fun g=>absurd c8 (sU g));have h8:=h8 c8;obtain ⟨x,hx⟩:∃ x,es[n.toNat]? = some x:=⟨_,gE (by omega)⟩;have pw:=MR (.inr c8) x (mG hx);rw [hnn (by omega)];refine iX (bi hx) ?_;refine br ?_ ?_<;>intro g
 ·have g:ks ≠ []:=by rintro rfl;simp [bz] at g
  rw [o8s x c8 hx g,es9 (by omega) g,<- Rc];refine ⟨by show x.name.size + 1<=_;omega,?_⟩;exact ⟨_,ax,rfl⟩
 ·have g:ks=[]:=sV bz g;rw [o8n x c8 hx g,en (by omega) g,Aj];exact ⟨_,ax,rfl⟩
mutual
def rngW:Val->Prop
 | .mk k n _ ks=>sN k/\sN n/\rngWs ks
def rngWs:List Val->Prop
 | []=>True
 | v :: r=>rngW v/\rngWs r
end
theorem mf:∀ {l:List Val} {x:Val},rngWs l->x∈l->rngW x
 | v :: r,x,h,hm=>by
  rw [rngWs] at h;rcases bp hm with rfl | hm
  ·exact h.1
  ·exact mf h.2 hm
theorem II {v:Val} (h:rngW v) : -9223372036854775808<=v.n/\v.n<=9223372036854775807:=by
 obtain ⟨k,n,s,ks⟩:=v;rw [rngW] at h;exact h.2.1
theorem KR {v:Val} (h:rngW v):rngWs v.ks:=by
 obtain ⟨k,n,s,ks⟩:=v;rw [rngW] at h;exact h.2.2
theorem KT {m:Nat} (ih:∀ k,k<=m->∀ ds,Typ prog k 34 ds->∃ v:Val,ds=aH v/\rngW v/\v.wt<=wgL ds) :
  ∀ {es:List (List DV)},(∀ cs∈es,Typ prog m 34 cs)->∃ l:List Val,es=dVals l/\rngWs l/\cO l<=wgEs es
 | [],h=>⟨[],rfl,by simp [rngWs],by simp [cO]⟩
 | cs :: r,h=>by
  obtain ⟨l,rfl,hr,hl⟩:=KT ih (es:=r) (fun c hc=>h c (dB _ hc));obtain ⟨v,rfl,hr2,hv⟩:=ih m (aO _) cs (h cs (by simp));exact ⟨v :: l,rfl,by rw [rngWs];exact ⟨hr2,hr⟩,by simp only [cO,wgEs];omega⟩
theorem typ_valr:∀ (n:Nat) (ds:List DV),Typ prog n 34 ds->∃ v:Val,ds=aH v/\rngW v/\v.wt<=wgL ds:=by
 intro n
 induction n using Nat.strongRecOn with
 | _ n ih=>
  intro ds h;obtain ⟨m,rfl,hf⟩:=ky Tryz.underlying34 h;obtain ⟨a1,b1,rfl,h1,a2,b2,rfl,h2,a3,b3,rfl,h3,a4,b4,rfl,h4,rfl⟩:=hf;obtain ⟨k,rfl,r1⟩:=kz h1;obtain ⟨z,rfl,r2⟩:=kz h2;obtain ⟨s,rfl⟩:=B6 Tryz.underlying9 h3;obtain ⟨j,es,rfl,rfl,iq⟩:=pY Tryz.underlying32 h4;obtain ⟨l,rfl,r3,wl⟩:=KT (fun i hi=>ih i (by omega)) iq;rw [Fg];refine ⟨.mk k z s l,rfl,by rw [rngW];exact ⟨r1,r2,r3⟩,?_⟩;simp only [Val.wt,cY,wgL,wgD] at *;omega
namespace Dv
end Dv
section
variable {ND:List Nd}
theorem jI {v:Val} {i:Int} (h:gm ND v i=true):∃ d,cT ND i=some d/\((9<=v.k/\cJ v=true/\v.ks=[])∨(v.k=d.ag/\d.ag < 5/\v.ks=[]/\(v.k=4->0<=v.n/\v.n < d.af.length))∨(v.k=d.ag/\5<=d.ag/\shellF d v=true/\iG ND v.ks d v.n 0=true)):=by
 obtain ⟨k,n,s,ks⟩:=v;unfold gm at h
 cases hd:cT ND i with
 | none=>rw [hd] at h;cases h
 | some d=>
  rw [hd] at h;refine ⟨d,rfl,?_⟩;simp only at h;split at h
  ·rename_i c;rw [aD,decide_eq_true_iff] at h;exact .inl ⟨c,h.1,h.2⟩
  ·split at h
   ·cases h
   ·rename_i c;have c:k=d.ag:=Decidable.not_not.1 c;split at h
    ·rename_i c5;rw [aD,Bool.or_eq_true,decide_eq_true_iff,decide_eq_true_iff,decide_eq_true_iff] at h;exact .inr (.inl ⟨c,c5,h.1,fun c4=>h.2.resolve_left (fun g=>g c4)⟩)
    ·rename_i c5;rw [aD] at h;exact .inr (.inr ⟨c,by omega,h.1,h.2⟩)
theorem shell_8 {d:Nd} {v:Val} (h:shellF d v=true) (h8:d.ag=8):0<=v.n/\v.n < d.av.length:=by
 unfold shellF at h;split at h
 ·cases h
 rw [ah (by omega),ah (by omega),ah (by omega)] at h;split at h
 ·cases h
 ·omega
theorem FX {d:Nd} {z:Int} {j:Nat} {e:Ed} (h:bY d z j=some e):e∈d.av:=by
 unfold bY at h;split at h
 ·exact mG h
 ·split at h<;>exact mG h
theorem TZ (n:Nat):lB n ≠ []:=by
 by_cases h:n < 10
 ·rw [vd h];simp
 ·rw [B3 h];simp
theorem T0 (z:Int):iw z ≠ []:=by
 unfold iw;split
 ·simp
 ·exact TZ _
theorem FY {v:Val} (h:cJ v=true):eT v ≠ []:=by
 rw [eT,ai h];unfold ox
 repeat' split
 all_goals (first | exact T0 _ | simp [yo])
theorem Bc {v:Val} (hn:sN v.n) (h:cJ v=true):(eT v).length<=88 + 12 * v.s.size:=by
 rw [eT,ai h];exact MJ hn h
theorem CS {L N:Nat} {d:Nd} {v:Val} (hN:eD L N d) (hn:sN v.n) (h:(9<=v.k/\cJ v=true/\v.ks=[])∨(v.k=d.ag/\d.ag < 5/\v.ks=[]/\(v.k=4->0<=v.n/\v.n < d.af.length))∨(v.k=d.ag/\5<=d.ag/\shellF d v=true/\iG ND v.ks d v.n 0=true)) :
  gG d v ≠ []/\(gG d v).length<=88 + 12 * v.s.size:=by
 have mM:=hN.k1;have A5:=hN.k8;rcases h with ⟨h9,hb,_⟩ | ⟨hk,h5,_,h4⟩ | ⟨hk,h5,hs,_⟩
 ·rw [Q8 (by omega)];exact ⟨FY hb,Bc hn hb⟩
 ·by_cases c1:v.k=1
  ·by_cases c:v.n=1
   ·rw [opn_1 c1 c];simp;omega
   ·rw [Q3 c1 c];simp;omega
  by_cases c4:v.k=4
  ·obtain ⟨g0,g1⟩:=h4 c4;obtain ⟨x,hx⟩:∃ x,d.af[v.n.toNat]? = some x:=⟨_,gE (by omega)⟩;have bZ:=(hN.af (by omega)).2.2.2 x (mG hx);have PX:=jy bZ;have kN:0 < x.size:=by simp [bd] at bZ;exact bZ.1
   rw [opn_4 c4 hx];refine ⟨fun e=>?_,by rw [bB];omega⟩;have:=congrArg List.length e;rw [bB,List.length_nil] at this;omega
  ·rw [Q8 (by omega)]
   have hb:cJ v=true:=by
    have:v.k=2∨v.k=3:=by omega
    rcases this with c | c<;>simp [cJ,c]
   exact ⟨FY hb,Bc hn hb⟩
 ·have:v.k=5∨v.k=6∨v.k=7∨v.k=8:=by omega
  rcases this with c | c | c | c
  ·rw [opn_5 c];simp;omega
  ·by_cases g:v.ks=[]
   ·rw [Q4 c g];simp;omega
   ·rw [Q5 c g];simp;omega
  ·rw [opn_7 c];simp;omega
  ·obtain ⟨g0,g1⟩:=shell_8 hs (by omega);obtain ⟨x,hx⟩:∃ x,d.av[v.n.toNat]? = some x:=⟨_,gE (by omega)⟩;have bZ:=(hN.many (.inr (by omega))).2.2.2 x (mG hx);have PX:=jy bZ;have kN:0 < x.name.size:=by simp [bd] at bZ;exact bZ.1
   have hl:=bB x.name;by_cases g:v.ks=[]
   ·rw [Q6 c hx g];refine ⟨fun e=>?_,by omega⟩;rw [e,List.length_nil] at hl;omega
   ·rw [Q7 c hx g];exact ⟨by simp,by rw [List.length_append,hl];simp;omega⟩
theorem KU (v:Val):(oy v).length<=1:=by
 unfold oy
 repeat' split
 all_goals simp
end
section
variable {ND:List Nd} {L:Nat}
mutual
theorem Bd (bZ:∀ d∈ND,eD L ND.length d):∀ (v:Val) (i:Int),rngW v->gm ND v i=true->(textV ND v i).length + 36<=50 * v.wt
 | .mk k n s ks,i,hr,hw=>by
  obtain ⟨d,hd,hc⟩:=jI hw;have hN:=bZ d (mG (de hd).2);rw [rngW] at hr;have h1:=(CS (v:=.mk k n s ks) hN hr.2.1 hc).2;have h2:=KU (.mk k n s ks);have hs:(Val.mk k n s ks).s=s:=rfl;rw [hs] at h1;rw [textV,hd,Val.wt];simp only [List.length_append];rcases hc with ⟨_,_,h0⟩ | ⟨_,_,h0,_⟩ | ⟨_,h5,_,h0⟩
  ·have h0:ks=[]:=h0;subst h0;rw [textVs,cO];simp only [List.length_nil];omega
  ·have h0:ks=[]:=h0;subst h0;rw [textVs,cO];simp only [List.length_nil];omega
  ·have:=qu bZ ks d n 0 hN h5 hr.2.2 h0;omega
theorem qu (bZ:∀ d∈ND,eD L ND.length d):∀ (l:List Val) (d:Nd) (z:Int) (j:Nat),eD L ND.length d->5<=d.ag->rngWs l->iG ND l d z j=true->(textVs ND l d z j).length<=50 * cO l
 | [],d,z,j,_,_,_,_=>by rw [textVs];exact Nat.zero_le _
 | x :: r,d,z,j,hN,h5,hr,hw=>by
  rw [iG,aD] at hw;rw [rngWs] at hr;rw [textVs,cO]
  cases he:bY d z j with
  | none=>rw [he] at hw;exact absurd hw.1 (by simp)
  | some e=>
   rw [he] at hw;have h1:=Bd bZ x e.to hr.1 hw.1;have h2:=qu bZ r d z (j + 1) hN h5 hr.2 hw.2
   have h3:(if d.ag=7 then tx e.name ++ [58,32] else []).length<=34:=by
    split
    ·rename_i c;have:=jy ((hN.many (.inl c)).2.2.2 e (FX he));rw [List.length_append,bB];simp;omega
    ·simp
   have h4:(if j=0 then [] else [44,32]:List UInt8).length<=2:=by split<;>simp
   simp only [List.length_append];omega
end
theorem Be:∀ {ks:List Val} {e:Nat} {x:Val},ks[e]? = some x->cO (ks.take e) + x.wt<=cO ks
 | [],e,x,h=>by simp at h
 | y :: r,e,x,h=>by
  cases e with
  | zero=>
   simp only [List.getElem?_cons_zero,oI] at h;subst h;rw [List.take_zero,cO,cO];omega
  | succ e=>
   have:=Be (ks:=r) (e:=e) (x:=x) (sU h);rw [List.take_succ_cons,cO,cO];omega
theorem CT:∀ (ks:List Val) (e:Nat),cO (ks.take e)<=cO ks
 | [],e=>by rw [List.take_nil];exact aO _
 | y :: r,0=>by rw [List.take_zero,cO];exact Nat.zero_le _
 | y :: r,e + 1=>by
  have:=CT r e;rw [List.take_succ_cons,cO,cO];omega
theorem FZ:∀ {ks:List Val} {d:Nd} {z:Int} {j:Nat} (e:Nat),iG ND ks d z j=true->iG ND (ks.take e) d z j=true
 | [],_,_,_,e,h=>by rw [List.take_nil];exact h
 | y :: r,_,_,_,0,h=>by rw [List.take_zero,iG]
 | y :: r,d,z,j,e + 1,h=>by
  rw [iG,aD] at h;rw [List.take_succ_cons,iG,aD];exact ⟨h.1,FZ e h.2⟩
theorem yH:∀ {ks:List Val} (e:Nat),rngWs ks->rngWs (ks.take e)
 | [],e,h=>by rw [List.take_nil];exact h
 | y :: r,0,h=>by rw [List.take_zero,rngWs];trivial
 | y :: r,e + 1,h=>by
  rw [rngWs] at h;rw [List.take_succ_cons,rngWs];exact ⟨h.1,yH e h.2⟩
end
def CU (d:Nd) (v:Val) (s:ch):Option Nat:=(List.range v.ks.length).find? fun e=>gl (stpR d v e) s
section
variable {L:Nat} {ND:List Nd} (bZ:∀ n∈ND,eD L ND.length n)
include bZ
end
theorem F0:∀ {l:List Val} {e:Nat} {x y:Val},l[e]? = some x->cO (l.set e y) + x.wt=cO l + y.wt
 | [],e,x,y,h=>by simp at h
 | v :: r,0,x,y,h=>by
  simp only [List.getElem?_cons_zero,oI] at h;subst h;simp only [List.set_cons_zero,cO];omega
 | v :: r,e + 1,x,y,h=>by
  simp only [List.getElem?_cons_succ] at h;have:=F0 (y:=y) h;simp only [List.set_cons_succ,cO];omega
section
variable {L:Nat} {ND:List Nd} (bZ:∀ n∈ND,eD L ND.length n)
include bZ
end
end Go.Proofs.YtgjagnmeonoehaaGreat
namespace Go.Proofs.YtgjagnmeonoehaaGreat
namespace Dv
open Go Go.RowKit
mutual
def shD (m:Nat):DV->DV
 | .agg l=>.agg (shL m l)
 | .tup l=>.tup (shL m l)
 | .sl e es tk=>.sl e es (match tk with | some k=>some (m + k) | none=>none)
 | .fn f a b=>.fn f (shL m a) (shL m b)
 | .qG t x=>.qG t (shD m x)
 | .v x=>.v x
 | .ud=>.ud
 | .pt cs o=>.pt cs o
 | .loc i o=>.loc i o
 | .el i o=>.el i o
 | .ms i e o l c=>.ms i e o l c
def shL (m:Nat):List DV->List DV
 | []=>[]
 | d :: r=>shD m d :: shL m r
end
mutual
theorem tJ {m:Nat} {E2 E:En} (hβ:E2.β=[]) (hc:E.c=E2.c) (ht:∀ (k:Nat) q,E2.tk[k]? = some q->E.tk[m + k]? = some q/\E.τ[m + k]? = E2.τ[k]?):∀ {d:DV} {v:Value},Rv E2 d v->Rv E (shD m d) v
 | .v x,v,h=>by simpa only [Rv,shD] using h
 | .ud,v,h=>by simpa only [Rv,shD] using h
 | .agg l,v,h=>by
  simp only [Rv,shD] at h ⊢;obtain ⟨vs,h1,h2,h3⟩:=h;exact ⟨vs,h1,mg hβ hc ht h2,h3⟩
 | .tup l,v,h=>by
  simp only [Rv,shD] at h ⊢;obtain ⟨vs,h1,h2⟩:=h;exact ⟨vs,h1,mg hβ hc ht h2⟩
 | .sl e es tk,v,h=>by
  have he:E.cl=E2.cl:=by simp [En.cl,hc]
  simp only [Rv,shD] at h ⊢;obtain ⟨b,n,cap,h1,h2,h3,h4⟩:=h;refine ⟨b,n,cap,h1,h2,fun hn=>⟨(h3 hn).1,by rw [he];exact (h3 hn).2⟩,?_⟩;intro k' fq
  cases tk with
  | none=>cases fq
  | some k=>
   simp only [oI] at fq;subst fq;obtain ⟨q,g1,g2,g3⟩:=h4 k rfl;obtain ⟨g4,g5⟩:=ht k q g1;exact ⟨q,g4,g2,fun hn=>by rw [g5];exact g3 hn⟩
 | .pt cs off,v,h=>by
  have he:E.cl=E2.cl:=by simp [En.cl,hc]
  simp only [Rv,shD] at h ⊢;rw [he];exact h
 | .loc i off,v,h=>by
  simp only [Rv] at h;obtain ⟨b,h1,_⟩:=h;rw [hβ] at h1;simp at h1
 | .el i off,v,h=>by
  simp only [Rv] at h;obtain ⟨b,h1,_⟩:=h;rw [hβ] at h1;simp at h1
 | .ms i e off len cap,v,h=>by
  simp only [Rv] at h;obtain ⟨b,_,h1,_⟩:=h;rw [hβ] at h1;simp at h1
 | .fn f a b,v,h=>by
  simp only [Rv,shD] at h ⊢;obtain ⟨l,r,h1,h2,h3⟩:=h;exact ⟨l,r,h1,mg hβ hc ht h2,mg hβ hc ht h3⟩
 | .qG t x,v,h=>by
  simp only [Rv,shD] at h ⊢;obtain ⟨z,h1,h2⟩:=h;exact ⟨z,h1,tJ hβ hc ht h2⟩
theorem mg {m:Nat} {E2 E:En} (hβ:E2.β=[]) (hc:E.c=E2.c) (ht:∀ (k:Nat) q,E2.tk[k]? = some q->E.tk[m + k]? = some q/\E.τ[m + k]? = E2.τ[k]?):∀ {l:List DV} {vs:List Value},RvL E2 l vs->RvL E (shL m l) vs
 | [],vs,h=>by simpa only [RvL,shL] using h
 | d :: r,vs,h=>by
  simp only [RvL,shL] at h ⊢;obtain ⟨v,s,h1,h2,h3⟩:=h;exact ⟨v,s,h1,tJ hβ hc ht h2,mg hβ hc ht h3⟩
end
section
variable {X:Ctx} {st:St} {k:List It} {E:En} {a:Act} {w:World}
theorem IJ (h:Rel X E st a w) (aR:X.still=false) {E2:En} {w':World} (hm:qH (E.cl).S w w') (he:Env E2 [] w') (hn:Nw E.cl E2 w):Rel X ⟨E2.c,E.β,E.tk ++ E2.tk,E.τ ++ E2.τ⟩ ⟨st.sl,st.bx,st.tk ++ E2.tk⟩ a w':=by
 have hq:=zS h aR hm he hn;have Si:∀ (j:Nat) y g,E2.τ[j]? = some y->y.ownBlock=some g->w.heap.size<=g:=fun j y g hy hg=>hn.tn j y g (Nat.zero_le _) hy hg;have hold:∀ (k:Nat) y g,E.τ[k]? = some y->y.ownBlock=some g->g < w.heap.size:=fun k y g hy hg=>(h.env.own (mG hy) hg).1;have fi:E.τ.length=E.tk.length:=h.env.tl
 have hτ:∀ (k:Nat) y,(E.τ ++ E2.τ)[k]? = some y->(k < E.τ.length/\E.τ[k]? = some y)∨(E.τ.length<=k/\E2.τ[k - E.τ.length]? = some y):=fun k y hy=>by
  rw [List.getElem?_append] at hy;split at hy
  ·rename_i hk;exact .inl ⟨hk,hy⟩
  ·rename_i hk;exact .inr ⟨by omega,hy⟩
 have hx:Ext ⟨E2.c,E.β,E.tk,E.τ⟩ ⟨E2.c,E.β,E.tk ++ E2.tk,E.τ ++ E2.τ⟩:=⟨fun _ _ h=>h,fun _ _ h=>h,fun j q hj=>by
  have hj:E.tk[j]? = some q:=hj;have aq:=(gS hj).1;refine ⟨q,by show (E.tk ++ _)[j]? = _;rw [bF aq];exact hj,.inl ⟨rfl,?_⟩⟩;show (E.τ ++ _)[j]? = _
  rw [bF (by rw [fi];exact aq)]⟩
 refine dw hq hx ?_ (by show E.tk ++ _=_;rw [h.tk]) ?_ hq.fr (mB aR) hq.bt
 ·exact {
   len:=h.env.len
   tl:=by show (E.τ ++ _).length=(E.tk ++ _).length;simp [fi,he.tl]
   eA:=fun i cs hi=>by
    obtain ⟨b,t,arr,hb,hw,hc⟩:=hq.env.eA i cs hi;exact ⟨b,t,arr,hb,hw,hc.mono hx⟩
   inj:=h.env.inj
   sub:=he.sub
   pc:=hq.env.pc
   bQ:=fun j q y PA hy=>by
    have PA:(E.tk ++ E2.tk)[j]? = some q:=PA;rcases hτ j y hy with ⟨aq,fy⟩ | ⟨fQ,fy⟩
    ·rw [bF (by rw [<- fi];exact aq)] at PA;exact hq.env.bQ j q y PA fy
    ·rw [List.getElem?_append_right (by rw [<- fi];exact fQ),<- fi] at PA;rcases he.bQ _ q y PA fy with h1 | ⟨g,cap,cur,rfl,h1,h2,h3,h4,_,h6⟩
     ·exact .inl h1
     ·refine .inr ⟨g,cap,cur,rfl,h1,h2,h3,h4,fun nE=>?_,h6⟩;have:=Si _ _ g fy rfl;have:=h.env.aZ nE;omega
   iZ:=fun i j y y' g mr hy fy hg qy=>by
    rcases hτ i y hy with ⟨_,h1⟩ | ⟨h0,h1⟩
    ·rcases hτ j y' fy with ⟨_,h2⟩ | ⟨_,h2⟩
     ·exact h.env.iZ i j y y' g mr h1 h2 hg qy
     ·have:=hold i y g h1 hg;have:=Si _ y' g h2 qy;omega
    ·rcases hτ j y' fy with ⟨_,h2⟩ | ⟨h00,h2⟩
     ·have:=hold j y' g h2 qy;have:=Si _ y g h1 hg;omega
     ·exact he.iZ _ _ y y' g (by omega) h1 h2 hg qy }
 ·exact {
   c:=hq.nw.c
   cn:=hq.nw.cn
   β:=h.nw.β
   tk:=fun j q0 y0 qO BG=>by
    obtain ⟨q',y',h1,h2,h3⟩:=h.nw.tk j q0 y0 qO BG;exact ⟨q',y',by show (E.tk ++ _)[j]? = _;rw [bF (gS h1).1];exact h1,by show (E.τ ++ _)[j]? = _;rw [bF (gS h2).1];exact h2,h3⟩
   tn:=fun j y g hj hy hg=>by
    rcases hτ j y hy with ⟨_,h1⟩ | ⟨_,h1⟩
    ·exact h.nw.tn j y g hj h1 hg
    ·exact Nat.le_trans h.fr.size (Si _ y g h1 hg)
   l0:=h.nw.l0 }
theorem KV {P:Program} (h:Rel X E st a w) (aR:X.still=false) {f:FuncId} {args bh:List DV} {vs:List Value} {Φ:DV->List (List DV)->List TkE->Prop} (hc:Sm P f bh [] [] Φ) (ha:CcL [] 0 0 0 bh args) (hv:RvL E args vs) :
  Calls P f vs.toArray w fun e w'=>∃ v E' d bQ,e = .returned v/\Rel X E' ⟨st.sl,st.bx,st.tk ++ bQ⟩ a w' /\ Rv E' (shD st.tk.length d) v/\Φ d [] bQ/\qH E.cl.S w w' /\ Ext E E' /\ E'.β=E.β:=by
 have Ws:RvL E.cl bh vs:=CcL.sound (E:=E) (E':=E.cl) ⟨fun _ _ h=>h,fun i cs _ hi=>by simp at hi⟩ (JB.zero _ _) ha hv;refine (hc E.cl w vs (NY h.env) rfl Ws).mono ?_;rintro e w' ⟨v,rfl,hm,_,d,os,E2,he,hβ,_,hn,Sn,hΦ⟩;have hβ:E2.β=[]:=hβ
 have vS:os=[]:=by
  have:=he.len;rw [hβ] at this;exact List.eq_nil_of_length_eq_zero this.symm
 subst vS;have fi:E.τ.length=E.tk.length:=h.env.tl
 have hx:Ext E ⟨E2.c,E.β,E.tk ++ E2.tk,E.τ ++ E2.τ⟩:=⟨hn.c,fun _ _ h=>h,fun j q hj=>by
  have aq:=(gS hj).1;refine ⟨q,by show (E.tk ++ _)[j]? = _;rw [bF aq];exact hj,.inl ⟨rfl,?_⟩⟩;show (E.τ ++ _)[j]? = _
  rw [bF (by rw [fi];exact aq)]⟩
 refine ⟨v,_,d,E2.tk,rfl,IJ h aR hm he hn,tJ (E2:=E2) (E:=⟨E2.c,E.β,E.tk ++ E2.tk,E.τ ++ E2.τ⟩) (m:=st.tk.length) hβ rfl (fun k q hq=>?_) Sn,hΦ,hm,hx,rfl⟩;rw [<- h.tk];constructor
 ·show (E.tk ++ E2.tk)[_]? = _;rw [List.getElem?_append_right (by omega)];simpa using hq
 ·show (E.τ ++ E2.τ)[_]? = _;rw [List.getElem?_append_right (by omega),fi];simp
theorem Yr {f:FuncId} {args bh:List DV} {d:Nat} (j2:Enters X.P f) (hd:eB X.nt st.sl (some d)=true) {Φ:DV->List (List DV)->List TkE->Prop} (hc:Sm X.P f bh [] [] Φ) (ha:CcL [] 0 0 0 bh args)
  (hk:∀ r bQ,Φ r [] bQ->go X 4000 k ⟨(d,⟨[],shD st.tk.length r⟩) :: st.sl,st.bx,st.tk ++ bQ⟩) (aR:X.still=false:=by exact rfl):dH X f args (some d) k st:=by
 refine ⟨j2,aR,fun E a w vs h hv=>(KV h aR hc ha hv).mono ?_⟩;rintro e w' ⟨v,E',r,bQ,rfl,bM,hr,hΦ,_⟩;exact go_sound 4000 _ _ (hk r bQ hΦ) E' _ w' (aY bM hd _ v hr)
theorem CV {D:Dr} {c:Bool} {i:Nat} {s0:List (Nat × Sl)} {f:FuncId} {args bh:List DV} {d:Nat} {r:List (Nat × Oper)} (j2:Enters X.P f) (hd:(eB X.nt st.sl (some d) && eB X.nt s0 (some d))=true) {Φ:DV->List (List DV)->List TkE->Prop} (hc:Sm X.P f bh [] [] Φ) (ha:CcL [] 0 0 0 bh args)
  (hk:∀ uO bQ,Φ uO [] bQ->put2 s0 ⟨st.sl,st.bx,st.tk ++ bQ⟩ (some d) false [] (shD st.tk.length uO) (goD X D 3000 c r)) (aR:X.still=false:=by exact rfl):wb X D c i r f args (some d) s0 st:=by
 refine ⟨j2,fun hl E0 wr hD E a w vs h hv=>(KV h.rel aR hc ha hv).mono ?_⟩;rintro e w' ⟨v,E',uO,bQ,rfl,bM,hr,hΦ,hm,hx,hβ⟩
 have hh:∀ b,b < w.heap.size->w'.heap[b]? = w.heap[b]?:=fun b hb=>hm.block b hb (by
  rintro (h1 | ⟨y,h1,_⟩)
  ·simp [En.cl] at h1
  ·simp [En.cl] at h1)
 have hs:ch none E w E' w':=⟨hx,⟨[],by rw [hβ];simp⟩,fun j b hb _=>hh b (h.rel.env.aZ (mG hb))⟩;have hC:=zW h hs bM (fun j hj=>by cases hj);refine ⟨v,rfl,fun _=>hC,?_⟩;have DP:fx X ⟨D,E0,wr⟩ c E' s0 ⟨st.sl,st.bx,st.tk ++ bQ⟩ (a.put none v) w':=nR h hs bM (fun h1=>hC (h.cc h1)) (fun i x hx=>.inr ⟨hx,fun d hd=>by cases hd⟩) rfl;obtain ⟨s1,qD,mM,eQ⟩:=jB DP hd false [] _ v (fun _ _ p hp=>by cases hp) (fun _=>hr) (fun hb=>by cases hb) (fun hn=>(hn (bg _)).elim) (hk uO bQ hΦ);exact dK (D:=⟨D,E0,wr⟩) hD 3000 c r _ _ mM hl E' _ w' eQ
theorem T5 {o:Oper} {t d et e' iI n:Nat} {x:Operand} {bb:Bool} {z:List Value} (kW:∃ t',o.op = .binOp .eql t x (.const (.slice none 0 0)) t') (eX:o.dst=some d) (hx:rv st [] x=some (.v (.slice none 0 0))) (hT:X.T.find t=some ⟨n,bb,.sl et e' iI,z⟩) (hd:eB X.nt st.sl (some d)=true)
  (hk:go X 4000 k ⟨(d,⟨[],.v (.bool true)⟩) :: st.sl,st.bx,st.tk⟩):Gx X o k st:=by
 intro E a w h;obtain ⟨t',kW⟩:=kW;have e1:=aU h.rl hx;unfold Rv at e1;obtain ⟨hu,_⟩:=ey X.hT hT;have aK:=ry hu none 0 0 w
 have bU:(execOp a.eval o).run X.P w = .ok (.value (.bool true)) w:=by
  have hc:a.eval (.const (.slice none 0 0)) = .slice none 0 0:=rfl;simp [execOp,kW,e1.1,hc,eqGuard,binOp,aK]
 refine gq bU ?_;rw [eX];exact go_sound 4000 _ _ hk E _ w (aY h hd (.v (.bool true)) _ (by unfold Rv;exact ⟨rfl,rfl⟩))
end
end Dv
end Go.Proofs.YtgjagnmeonoehaaGreat
namespace Go.Proofs.YtgjagnmeonoehaaGreat
namespace Dv
open Go Go.RowKit
section
variable {X:Ctx} {st:St} {k:List It} {E:En} {a:Act} {w:World}
theorem KW (h:Rel X E st a w) {es:List (List DV)} {cs:List DV} {kt m xq e:Nat} {v:Value} (hv:Rv E (.sl 0 es (some kt)) v) (hq:st.tk[kt]? = some ⟨m,xq,e,some cs⟩) (iq:es.length=m) (hm:0 < m) :
  ∃ g cap,∃ cur:Array Value,v = .slice (some ⟨g,0,none⟩) m cap/\E.tk[kt]? = some ⟨m,xq,e,some cs⟩/\E.τ[kt]? = some v/\w.heap[g]? = some (.cells cur xq (0,0))/\cur.size=cap * e/\cs.length=m * e/\RvC E.cl cs (cur.toList.take (m * e))/\m<=cap/\cap<=maxLen/\g ∉ E.β/\∀ x u,E.c x=some u->x.block=g->x.off < 0:=by
 unfold Rv at hv;obtain ⟨bs,ns,lQ,e1,⟨va,DB⟩,JA,vW⟩:=hv;subst va;obtain ⟨q',lx,_,WE⟩:=vW kt rfl;have j1:E.tk[kt]? = some ⟨m,xq,e,some cs⟩:=by rw [h.tk];exact hq
 rw [j1] at lx;simp only [oI] at lx;subst lx;have hy:=WE iq;rcases h.env.bQ kt _ _ j1 hy with ⟨_,jO,_⟩ | ⟨g,cap,cur,nM,hw0,⟨sv,DC⟩,vX,zg,gv,GO⟩
 ·simp only at jO;omega
 obtain ⟨h5,h6⟩:=DC cs rfl;exact ⟨g,cap,cur,nM,j1,hy,hw0,sv,h5,h6,vX,zg,gv,GO⟩
theorem T6 {o1:Oper} {t et e iI nn m g cap:Nat} {bb:Bool} {zz:List Value} {z:Int} {kd:IntKind} {s ix:Operand} (h1:o1.op = .indexAddr t s ix) (e1:a.eval s = .slice (some ⟨g,0,none⟩) m cap) (e2:a.eval ix = .int kd z)
  (hT:X.T.find t=some ⟨nn,bb,.sl et e iI,zz⟩) (hz:0<=z/\z < m) (w:World):(execOp a.eval o1).run X.P w = .ok (.value (.pointer (some ⟨g,z.toNat * e,none⟩))) w:=by
 obtain ⟨hu,ii,zv,qz,_,XA,_,_⟩:=ey X.hT hT;have lP:iN X.P et=some e:=by rw [eU qz,XA]
 have bU:(Instr.indexAt t (.slice (some ⟨g,0,none⟩) m cap) (.int kd z)).run X.P w = .ok (.pointer (some ⟨g,z.toNat * e,none⟩)) w:=by
  simp [Instr.indexAt,asIntOf,run_underlying hu,hz.1,hz.2,aN lP,Addr.add_lit]
 simp only [execOp,h1,e1,e2,Sem.run_bind,bU,Result.andThen_ok,Sem.run_pure]
theorem T7 {o2:Oper} {d1 kt ty e m xq:Nat} {z:Int} {es:List (List DV)} {cs cs':List DV} {v:Value} {x:Operand} {dv:DV} {g cap:Nat}
  (hr1:Rel X E st a w) (h2:o2.op = .store ty (.tmp d1) x) (ht1:a.eval (.tmp d1) = .pointer (some ⟨g,z.toNat * e,none⟩)) (hv:Rv E (.sl 0 es (some kt)) v) (hvg:v = .slice (some ⟨g,0,none⟩) m cap)
  (hx:rv st [] x=some dv) (hdv:eraL dv.cells (fun l=>some l)=some cs') (Xz:dv.cells.length=e) (he0:0 < e)
  (bH:X.T.sz ty=some e) (hq:st.tk[kt]? = some ⟨m,xq,e,some cs⟩) (iq:es.length=m) (hz:0<=z/\z < m) (aR:X.still=false) :
  ∃ w' E',(execOp a.eval o2).run X.P w = .ok .skip w' /\ Rel X E' ⟨st.sl,st.bx,st.tk.set kt ⟨m,xq,e,some (cs.take (z.toNat * e) ++ cs' ++ cs.drop (z.toNat * e + e))⟩⟩ a w':=by
 obtain ⟨g',lQ,cur,e1,j1,hy,hw0,sv,h5,h6,vX,zg,gv,GO⟩:=KW hr1 hv hq iq (by omega);rw [hvg] at e1;injection e1 with i1 i2 i3
 injection i1 with i1
 injection i1 with i1
 subst i1 i3;rw [hvg] at hy;have e3:=aU hr1.rl hx;have fY:RvC E dv.cells (a.eval x).cells.toList:=e3.cells (ja (n:=e) Xz (by omega));have Da:(a.eval x).cells.toList.length=e:=by rw [fY.1.length];exact Xz
 obtain ⟨l',u9,hx1,_⟩:=pP hdv fY;simp only [oI] at u9;rw [u9] at hx1;have hme:m * e<=cap * e:=Nat.mul_le_mul_right _ vX
 have kN:z.toNat * e + e<=m * e:=by
  have:(z.toNat + 1) * e<=m * e:=Nat.mul_le_mul_right _ (by omega);rw [Nat.add_mul] at this;omega
 have Pz:cur.toList.length=cap * e:=sU sv;have Uw:=jT (P:=X.P) (t:=ty) (off:=z.toNat * e) (n:=e) hw0 (Dt X.hT bH) Da (by rw [sv];omega) (List.all_eq_true.2 fY.2);generalize hN:cur.toList.take (z.toNat * e) ++ (a.eval x).cells.toList ++ cur.toList.drop (z.toNat * e + e)=N at Uw
 have hNl:N.length=cap * e:=by
  subst hN;simp only [List.length_append,zLenT,List.length_drop,Da,Pz];omega
 have hNt:N.take (m * e)=(cur.toList.take (m * e)).take (z.toNat * e) ++ (a.eval x).cells.toList ++ (cur.toList.take (m * e)).drop (z.toNat * e + e):=by
  subst hN;rw [List.take_append,List.take_append,List.take_take,List.take_take];have h1:(cur.toList.take (z.toNat * e)).length=z.toNat * e:=by rw [zLenT];omega
  rw [List.length_append,h1,Da,Nat.min_eq_right (by omega),Nat.min_eq_left (by omega),List.take_of_length_le (l:=(a.eval x).cells.toList) (by rw [Da];omega),List.drop_take]
 have Nn:Dp (World.cV w g (.cells N.toArray xq (0,0))) E.c E.β ⟨m,xq,e,some (cs.take (z.toNat * e) ++ cs' ++ cs.drop (z.toNat * e + e))⟩ (.slice (some ⟨g,0,none⟩) m cap):=by
  refine .inr ⟨g,cap,_,rfl,dG hw0,⟨by simpa using hNl,fun r7 Ju=>?_⟩,vX,zg,gv,GO⟩;simp only [oI] at Ju;subst Ju;simp only;have h8:=((RvC.take (z.toNat * e) h6).append hx1).append (RvC.drop (z.toNat * e + e) h6);rw [<- hNt] at h8;have hl8:=h8.1.length;refine ⟨?_,by show RvC E.cl _ (N.toArray.toList.take (m * e));simpa using h8⟩;rw [<- hl8,zLenT,hNl];omega
 obtain ⟨bM,_⟩:=BH (q':=⟨m,xq,e,some (cs.take (z.toNat * e) ++ cs' ++ cs.drop (z.toNat * e + e))⟩) (w':=World.cV w g (.cells N.toArray xq (0,0))) hr1 aR j1 hy rfl rfl rfl (.inl ⟨rfl,rfl⟩) Nn (.inl rfl) rfl rfl rfl (by rw [fC];exact aO _) (fun j _ aQ=>cp (by
  rintro rfl
  exact aQ rfl))
 refine ⟨_,_,?_,bM⟩;simp only [execOp,h2,ht1,Instr.storeAt,Instr.sureAddr,Sem.run_bind,Sem.run_pure,Result.andThen_ok,Uw]
end
end Dv
end Go.Proofs.YtgjagnmeonoehaaGreat
set_option maxRecDepth 100000
namespace Go.Proofs.YtgjagnmeonoehaaGreat
open Go Go.RowKit Dv Go.Proofs.Tryz
abbrev zeroV:Val:=.mk 0 0 au []
theorem KX (s:ch) (p:List ch):DV.sl 3 (((bm (s :: p)).take (((bm (s :: p)).length:Nat):Int).toNat).drop (1:Int).toNat) none = .sl 3 (bm p) none:=by
 rw [iW,List.take_length];all_goals rfl
def pq (K:List Nat) (e:Ed):Nat:=K.getD e.to.toNat 0
def leastR (K:List Nat):List Ed->Nat->Nat
 | [],m=>m + 1
 | e :: r,m=>if pq K e=0 then 0 else leastR K r (max m (pq K e))
def fg (K:List Nat):List Ed->Nat->Nat
 | [],b=>if b=0 then 0 else b + 1
 | e :: r,b=>if e.bare=true then 1 else if 0 < pq K e/\(b=0∨pq K e < b) then fg K r (pq K e) else fg K r b
def gR (n:Nd) (K:List Nat):Nat:=if n.ag=7 then leastR K n.av 0 else if n.ag=8 then fg K n.av 0 else 1
def depN (ND:List Nd):Nat->List Nat
 | 0=>List.replicate ND.length 0
 | d + 1=>ND.map fun n=>gR n (depN ND d)
theorem gH (ND:List Nd):∀ d,(depN ND d).length=ND.length
 | 0=>by simp [depN]
 | d + 1=>by simp [depN]
theorem depN_get (ND:List Nd) (d j:Nat):(depN ND (d + 1)).getD j 0=match ND[j]? with | none=>0 | some n=>gR n (depN ND d):=by
 simp only [depN,cH,List.getElem?_map];cases ND[j]?<;>rfl
def MS (d:Nat) (A B:List Nat):Prop:=∀ j:Nat,(0 < A.getD j 0->B.getD j 0=A.getD j 0/\A.getD j 0<=d)/\(A.getD j 0=0->B.getD j 0=0∨B.getD j 0=d + 1)
theorem KY {d:Nat} {A B:List Nat} (h:MS d A B) (j:Nat):B.getD j 0<=d + 1:=by
 obtain ⟨h1,h2⟩:=h j;rcases Nat.eq_zero_or_pos (A.getD j 0) with h3 | h3
 ·rcases h2 h3 with h4 | h4<;>omega
 ·have:=h1 h3;omega
theorem oB {K:List Nat}:∀ {es:List Ed} {m:Nat},leastR K es m=0↔∃ e∈es,pq K e=0
 | [],m=>by simp [leastR]
 | e :: r,m=>by
  rw [leastR];by_cases h:pq K e=0
  ·rw [ai h];exact ⟨fun _=>⟨e,by simp,h⟩,fun _=>rfl⟩
  ·rw [ah h,oB];constructor
   ·rintro ⟨x,hx,h2⟩;exact ⟨x,by simp [hx],h2⟩
   ·rintro ⟨x,hx,h2⟩;rcases bp hx with rfl | hx
    ·exact (h h2).elim
    ·exact ⟨x,hx,h2⟩
theorem uy {d:Nat} {A B:List Nat} (hR:MS d A B):∀ {es:List Ed} {m:Nat},0 < leastR A es m->leastR B es m=leastR A es m
 | [],m,_=>rfl
 | e :: r,m,h=>by
  rw [leastR] at h ⊢;rw [leastR];by_cases h0:pq A e=0
  ·rw [ai h0] at h;omega
  rw [ah h0] at h ⊢;have h1:pq B e=pq A e:=((hR e.to.toNat).1 (by unfold pq at h0;omega)).1;rw [h1,ah h0];exact uy hR h
theorem yI {d:Nat} {A B:List Nat} (hR:MS d A B):∀ {es:List Ed} {m:Nat},m<=d + 1->(m=d + 1∨∃ e∈es,pq A e=0)->leastR B es m=0∨leastR B es m=d + 2
 | [],m,_,h=>by
  rcases h with h | ⟨e,he,_⟩
  ·right;rw [leastR,h]
  ·cases he
 | e :: r,m,hm,h=>by
  rw [leastR];by_cases h0:pq B e=0
  ·rw [ai h0];exact .inl rfl
  rw [ah h0];have fQ:pq B e<=d + 1:=KY hR _;refine yI hR (by omega) ?_;rcases h with h | ⟨x,hx,h⟩
  ·left;omega
  ·rcases bp hx with rfl | hx
   ·left;have:=(hR x.to.toNat).2 h;unfold pq at h0 fQ ⊢;omega
   ·exact .inr ⟨x,hx,h⟩
theorem kH {d:Nat} {A B:List Nat} (hR:MS d A B):∀ {es:List Ed} {a b:Nat},(0 < a->b=a/\a<=d)->(a=0->b=0∨b=d + 1) ->
  (0 < fg A es a->fg B es b=fg A es a)/\(fg A es a=0->fg B es b=0∨fg B es b=d + 2)
 | [],a,b,h1,h2=>by
  rw [fg,fg];rcases Nat.eq_zero_or_pos a with h | h
  ·rw [ai h];refine ⟨fun h=>by omega,fun _=>?_⟩;rcases h2 h with h3 | h3
   ·left;rw [ai h3]
   ·right;rw [ah (by omega)];omega
  ·obtain ⟨h3,h4⟩:=h1 h;rw [ah (by omega),ah (by omega),h3];exact ⟨fun _=>rfl,fun h=>by omega⟩
 | e :: r,a,b,h1,h2=>by
  rw [fg,fg];by_cases hb:e.bare=true
  ·rw [ai hb,ai hb];exact ⟨fun _=>rfl,fun h=>by omega⟩
  rw [ah hb,ah hb];obtain ⟨g1,g2⟩:=hR e.to.toNat;change (0 < pq A e->pq B e=pq A e/\pq A e<=d) at g1;change (pq A e=0->pq B e=0∨pq B e=d + 1) at g2;by_cases c1:0 < pq A e/\(a=0∨pq A e < a)<;>by_cases c2:0 < pq B e/\(b=0∨pq B e < b)
  ·rw [ai c1,ai c2];exact kH hR (by omega) (by omega)
  ·rw [ai c1,ah c2];exact kH hR (by omega) (by omega)
  ·rw [ah c1,ai c2];exact kH hR (by omega) (by omega)
  ·rw [ah c1,ah c2];exact kH hR (by omega) (by omega)
theorem IK {d:Nat} {A B:List Nat} (hR:MS d A B) (n:Nd):(0 < gR n A->gR n B=gR n A)/\(gR n A=0->gR n B=0∨gR n B=d + 2):=by
 unfold gR;by_cases h7:n.ag=7
 ·rw [ai h7,ai h7];exact ⟨uy hR,fun h=>yI hR (by omega) (.inr (oB.1 h))⟩
 rw [ah h7,ah h7];by_cases h8:n.ag=8
 ·rw [ai h8,ai h8];exact kH hR (by omega) (by omega)
 rw [ah h8,ah h8];exact ⟨fun _=>rfl,fun h=>by omega⟩
theorem F1 (N:Nat) (e:Ed):pq (List.replicate N 0) e=0:=by
 unfold pq;rw [cH,List.getElem?_replicate];split<;>rfl
theorem uz (N:Nat):∀ es:List Ed,fg (List.replicate N 0) es 0=0∨fg (List.replicate N 0) es 0=1
 | []=>.inl rfl
 | e :: r=>by
  rw [fg,F1];by_cases hb:e.bare=true
  ·rw [ai hb];exact .inr rfl
  ·rw [ah hb,ah (by omega)];exact uz N r
theorem F2 (N:Nat) (n:Nd):gR n (List.replicate N 0)=0∨gR n (List.replicate N 0)=1:=by
 unfold gR;by_cases h7:n.ag=7
 ·rw [ai h7]
  cases h:n.av with
  | nil=>right;rfl
  | cons e r=>left;rw [leastR,F1,ai rfl]
 rw [ah h7];by_cases h8:n.ag=8
 ·rw [ai h8];exact uz N n.av
 ·rw [ah h8];exact .inr rfl
theorem MT (ND:List Nd) (j:Nat):(depN ND 0).getD j 0=0:=by
 rw [depN,cH,List.getElem?_replicate];split<;>rfl
theorem F3 (ND:List Nd):∀ d,MS d (depN ND d) (depN ND (d + 1))
 | 0=>fun j=>by
  refine ⟨fun h=>by rw [MT] at h;omega,fun _=>?_⟩;rw [depN_get]
  cases ND[j]? with
  | none=>exact .inl rfl
  | some n=>exact F2 _ n
 | d + 1=>fun j=>by
  have ih:=F3 ND d;rw [depN_get ND (d + 1),depN_get ND d]
  cases hn:ND[j]? with
  | none=>exact ⟨fun h=>by simp at h,fun _=>.inl rfl⟩
  | some n=>
   obtain ⟨h1,h2⟩:=IK ih n;refine ⟨fun h=>⟨h1 h,?_⟩,h2⟩;have:=KY ih j;rw [depN_get ND d,hn] at this;exact this
def fX (K:List Nat):List Bool:=K.map fun k=>decide (0 < k)
theorem rS (K:List Nat) (j:Nat):(fX K).getD j false=decide (0 < K.getD j 0):=by
 unfold fX;simp only [cH,List.getElem?_map];cases K[j]?<;>simp
theorem oC (K:List Nat):(fX K).length=K.length:=by simp [fX]
theorem Re {A B:List Nat} (hl:A.length=B.length) (h:∀ j,A.getD j 0=B.getD j 0):A=B:=by
 refine List.ext_getElem hl fun j h1 h2=>?_;have:=h j;simp only [cH,gE h1,gE h2,Option.getD_some] at this;exact this
def uA (K:List Bool) (e:Ed):Bool:=e.bare || K.getD e.to.toNat false
def IL (n:Nd) (K:List Bool):Bool:=if n.ag < 7 then true else if n.ag=7 then n.av.all (uA K) else n.av.any (uA K)
theorem qv {K:List Nat}:∀ {es:List Ed} {b:Nat},0 < fg K es b↔(0 < b∨es.any (uA (fX K))=true)
 | [],b=>by
  rw [fg];by_cases h:b=0
  ·rw [ai h];simp [h]
  ·rw [ah h];simp;omega
 | e :: r,b=>by
  have hg:(fX K).getD e.to.toNat false=decide (0 < pq K e):=rS K _;rw [fg,List.any_cons];by_cases hb:e.bare=true
  ·rw [ai hb];simp [uA,hb]
  ·rw [ah hb]
   have vc:uA (fX K) e=decide (0 < pq K e):=by
    unfold uA;rw [hg];simp [hb]
   rw [vc,Bool.or_eq_true,decide_eq_true_eq];split
   ·rename_i h1;rw [qv];constructor
    ·exact fun _=>.inr (.inl h1.1)
    ·exact fun _=>.inl h1.1
   ·rename_i h1;rw [qv];constructor
    ·rintro (h | h)
     ·exact .inl h
     ·exact .inr (.inr h)
    ·rintro (h | h | h)
     ·exact .inl h
     ·by_cases gv:b=0
      ·exact (h1 ⟨h,.inl gv⟩).elim
      ·left;omega
     ·exact .inr h
theorem IM {n:Nd} {K:List Nat} (h8:n.ag<=8) (hb:∀ e∈n.av,e.bare=true->n.ag=8):(0 < gR n K)↔IL n (fX K)=true:=by
 unfold gR IL;by_cases h7:n.ag=7
 ·rw [ai h7,ah (by omega),ai h7,List.all_eq_true];have:0 < leastR K n.av 0↔¬ leastR K n.av 0=0:=by omega
  rw [this,oB];constructor
  ·intro h e he
   have h1:e.bare=false:=by
    cases kU:e.bare
    ·rfl
    ·have:=hb e he kU;omega
   have h2:¬ pq K e=0:=fun h3=>h ⟨e,he,h3⟩;have hg:(fX K).getD e.to.toNat false=decide (0 < pq K e):=rS K _;simp only [uA,h1,hg,Bool.false_or,decide_eq_true_eq];omega
  ·rintro h ⟨e,he,h3⟩
   have h1:e.bare=false:=by
    cases kU:e.bare
    ·rfl
    ·have:=hb e he kU;omega
   have hg:(fX K).getD e.to.toNat false=decide (0 < pq K e):=rS K _;have:=h e he;simp only [uA,h1,hg,Bool.false_or,decide_eq_true_eq] at this;omega
 rw [ah h7];by_cases h8':n.ag=8
 ·rw [ai h8',ah (by omega),ah h7,qv];simp
 ·rw [ah h8',ai (by omega)];simp
theorem Rf {ND:List Nd} (hN:∀ n∈ND,n.ag<=8/\∀ e∈n.av,e.bare=true->n.ag=8) (d:Nat) {i:Nat} {n:Nd} (h:ND[i]? = some n) :
  (depN ND (d + 1)).getD i 0=(if IL n (fX (depN ND d))=true/\(depN ND d).getD i 0=0 then d + 1 else (depN ND d).getD i 0) /\
  (fX (depN ND (d + 1))).getD i false=IL n (fX (depN ND d)):=by
 obtain ⟨h8,hb⟩:=hN n (mG h);have hp:=IM (K:=depN ND d) h8 hb;have hg:(depN ND (d + 1)).getD i 0=gR n (depN ND d):=by rw [depN_get,h]
 obtain ⟨h1,h2⟩:=(F3 ND d) i;refine ⟨?_,?_⟩
 ·rcases Nat.eq_zero_or_pos ((depN ND d).getD i 0) with h3 | h3
  ·by_cases h4:IL n (fX (depN ND d))=true
   ·rw [ai ⟨h4,h3⟩];have:=h2 h3;rw [<- hp,<- hg] at h4;omega
   ·rw [ah (fun h=>h4 h.1),h3];rw [<- hp,<- hg] at h4;omega
  ·rw [ah (by omega)];exact (h1 h3).1
 ·rw [rS,hg,Bool.eq_iff_iff,decide_eq_true_eq];exact hp
def cN (l:List Nat):List DV:=l.map fun (z:Nat)=>DV.v (.int .i64 (z:Int))
theorem Rg (l:List Nat):(cN l).length=l.length:=by simp [cN]
theorem Ys {l:List Nat} {i z:Nat} (h:l[i]? = some z):(cN l)[i]? = some (DV.v (.int .i64 (z:Int))):=by simp [cN,h]
theorem Yt (l:List Nat) (i z:Nat):(cN l).set i (DV.v (.int .i64 (z:Int)))=cN (l.set i z):=by simp [cN,List.map_set]
theorem yJ (l:List Nat):(dInts l).flatten=cN l:=by
 induction l with
 | nil=>rfl
 | cons b r ih=>simp only [dInts,cN,List.map_cons,List.flatten_cons] at ih ⊢;rw [ih];all_goals rfl
theorem repN (n:Nat):(List.replicate n (vL [Value.int .i64 0])).flatten=cN (List.replicate n 0):=by
 induction n with
 | zero=>rfl
 | succ n ih=>simp only [List.replicate_succ,List.flatten_cons,ih];rfl
theorem dm {n m:Nat} {tk:List TkE} {l:List DV} {r:List Nat} (h:l=cN r):WeL n m tk l (cN r):=by
 subst h;refine wZ _ fun x hx=>?_;obtain ⟨z,_,rfl⟩:=List.mem_map.1 hx;exact ⟨_,rfl⟩
theorem ms_n {bx:List (List DV)} {N n0 m0 n i:Nat} {r:List Nat} (hr:r.length=n) (hN:N<=i) (hb:bx[i]? = some (cN r)):Cc bx N n0 m0 (.sl 1 (dInts r) none) (.ms i 1 0 n n):=by
 simp only [Cc];refine Or.inr (Or.inr (Or.inl ⟨i,0,n,_,by rw [bw,hr],hN,hb,?_,?_,?_⟩))
 ·rw [yJ,List.drop_zero,List.take_of_length_le (by rw [Rg,bw];omega)]
 ·intro x hx;simp only [dInts,List.mem_map] at hx;obtain ⟨_,_,rfl⟩:=hx;rfl
 ·intro x hx;rw [yJ] at hx;obtain ⟨_,_,rfl⟩:=List.mem_map.1 hx;exact .inl ⟨_,rfl⟩
abbrev Wj (n:Nd) (K:List Bool) (s v:Bool) (e:Nat):St:=
 ⟨[aad 1 1 (xK K),aab 2 0,aap 5 s,aap 6 v,aaa 7 e],[jt n],[]⟩
theorem IP {L:Nat} {n:Nd} (K:List Bool) (hK:K.length<=1099511627776) (hn:eD L K.length n) (kL:n.av.length<=1099511627776) :
  EvP prog 244 [.agg (jt n),.sl 1 (xK K) none] (.v (.bool (IL n K))):=by
 have pG:=hn.n5;have adS:=hn.bare;have A5:=hn.k8;obtain ⟨ag,aG,lo,hi,most,af,es⟩:=n;simp only at pG adS kL A5;refine eG 50 [.tmp 4] func244 rfl ntmps244 rfl fun _ _ _ _=>?_;refine br ?_ ?_<;>intro h7
 ·have h7:ag < 7:=sU h7;refine (aae ?_:);simp [IL,h7]
 have h7:¬ ag < 7:=sU h7;refine aT (fun j st=>∃ e:Nat,st=Wj ⟨ag,aG,lo,hi,most,af,es⟩ K ((es.take e).any (uA K)) ((es.take e).all (uA K)) e/\e<=es.length/\j=es.length - e) es.length (Wj ⟨ag,aG,lo,hi,most,af,es⟩ K false true 0) (wkM wB) ⟨0,by simp,by omega,by omega⟩ ?_;rintro j st ⟨e,rfl,he,rfl⟩;refine br ?_ ?_<;>intro hL
 ·have aq:e < es.length:=by have:=hL;simp [cm] at this;exact this
  obtain ⟨x,hx⟩:=gX aq;refine iX (bi hx) ?_;have hs:(es.take (e + 1)).any (uA K)=((es.take e).any (uA K) || uA K x):=by rw [List.take_add_one,hx];simp
  have hv:(es.take (e + 1)).all (uA K)=((es.take e).all (uA K) && uA K x):=by rw [List.take_add_one,hx];simp
  generalize (es.take e).any (uA K)=s at hs ⊢;generalize (es.take e).all (uA K)=v at hv ⊢;refine br ?_ ?_<;>intro hb
  ·have hb:x.bare=false:=sU hb;obtain ⟨k,hk,ir⟩:=(pG x (mG hx)).to1 hb;obtain ⟨b,fA⟩:∃ b,K[k]? = some b:=⟨_,gE ir⟩;have hg:(xK K)[(max x.to 0).toNat]? = some [DV.v (.bool b)]:=by rw [show (max x.to 0).toNat=k by omega];exact Kl fA
   have hik:uA K x=b:=by unfold uA;rw [hb,hk];simp [cH,fA]
   rw [hik] at hs hv;refine iX (bi hx) ?_;refine ⟨_,⟨by omega,hg⟩,?_⟩;have e5:pickB s true b=(es.take (e + 1)).any (uA K):=by rw [hs,ap]
   have e6:pickB v b false=(es.take (e + 1)).all (uA K):=by rw [hv,pickB_and]
   exact rE ⟨_,by omega,e + 1,rfl,by omega,rfl⟩ (wkM (Uy e5 e6 (nxt aq (by omega))))
  ·have hb:x.bare=true:=sU hb;have hik:uA K x=true:=by unfold uA;rw [hb];all_goals rfl
   rw [hik] at hs hv;have e5:pickB s true true=(es.take (e + 1)).any (uA K):=by rw [hs,ap]
   have e6:pickB v true false=(es.take (e + 1)).all (uA K):=by rw [hv,pickB_and]
   exact rE ⟨_,by omega,e + 1,rfl,by omega,rfl⟩ (wkM (Uy e5 e6 (nxt aq (by omega))))
 ·have aS:e=es.length:=by have:=hL;simp [cm] at this;omega
  subst aS;rw [List.take_length];refine br ?_ ?_<;>intro g
  ·have g:ag=7:=sU g;refine (aae ?_:);simp [IL,g]
  ·have g:¬ ag=7:=sU g;refine (aae ?_:);simp [IL,g,h7]
theorem adT {bx:List (List DV)} {N n0 m0 n i:Nat} {r:List Bool} (hr:r.length=n) (hN:N<=i) (hb:bx[i]? = some (cB r)):Cc bx N n0 m0 (.sl 1 (xK r) none) (.ms i 1 0 n n):=by
 simp only [Cc];refine Or.inr (Or.inr (Or.inl ⟨i,0,n,_,by rw [vq,hr],hN,hb,?_,?_,?_⟩))
 ·rw [rA,List.drop_zero,List.take_of_length_le (by rw [ti,vq];omega)]
 ·intro x hx;simp only [xK,List.mem_map] at hx;obtain ⟨_,_,rfl⟩:=hx;rfl
 ·intro x hx;rw [rA] at hx;obtain ⟨_,_,rfl⟩:=List.mem_map.1 hx;exact .inl ⟨_,rfl⟩
theorem Rh (l:List Nat) (bx:List (List DV)) (N n m:Nat):CcL bx N n m (cN l) (cN l):=by
 induction l with
 | nil=>rfl
 | cons a r ih=>exact ⟨_,_,rfl,rfl,ih⟩
abbrev wG (a b:Nat) (A B:List (List DV)) (ND:List Nd) (z:Int):List DV:=[.sl a A none,.sl b B none,.sl 7 (dD ND) none,.v (.int .i64 z)]
abbrev Ri (W:List DV) (O:List Nat) (K:List Bool) (n d:Nat):St:=
 ⟨[aab 1 0,(3,⟨[],.ms 1 1 0 n n⟩),aad 4 1 (xK K),aaa 5 d],[W,cN O],[]⟩
abbrev F4 (W:List DV) (O:List Nat) (K:List Bool) (M:List Bool) (n d e:Nat):St:=
 ⟨[aab 1 0,(3,⟨[],.ms 1 1 0 n n⟩),aad 4 1 (xK K),aaa 5 d,(6,⟨[],.ms 2 1 0 n n⟩),aaa 7 e],[W,cN O,cB M],[]⟩
theorem zG (a b:Nat) (A B:List (List DV)) {ND:List Nd} {L:Nat} (z:Int) (bZ:∀ n∈ND,eD L ND.length n) (ik:ND.length<=1099511627776) (bH:∀ n∈ND,n.av.length<=1099511627776) :
  EvP prog 186 [.agg (wG a b A B ND z)] (.sl 1 (dInts (depN ND ND.length)) none):=by
 have bz:=l8 ND;refine eG 61 [.tmp 2] func186 rfl ntmps186 rfl fun _ _ _ _=>?_;refine ⟨⟨rfl,by omega,by rw [bz];omega,by rw [bz];omega⟩,?_⟩;refine ⟨⟨rfl,by omega,by rw [bz];omega,by rw [bz];omega⟩,?_⟩;refine PD (fun j st=>∃ d:Nat,st=Ri (wG a b A B ND z) (depN ND d) (fX (depN ND d)) (dD ND).length (d + 1)/\d<=ND.length/\j=ND.length - d) ND.length (Ri (wG a b A B ND z) (depN ND 0) (fX (depN ND 0)) (dD ND).length 1) (.GC 2 rfl rfl ?_ rfl ?_) ⟨0,rfl,by omega,by omega⟩ ?_
 ·refine ⟨_,_,rfl,ax,_,_,rfl,?_,rfl⟩;rw [repN,bz];exact Rh _ _ _ _ _
 ·refine ⟨⟨_,rfl,ie⟩,⟨_,rfl,ie⟩,⟨_,rfl,adT (by rw [oC,gH,bz];omega) (aO _) ?_⟩,⟨_,rfl,ax⟩,trivial⟩;refine congrArg some ?_;rw [Ma,bz];simp [fX,depN]
 rintro j st ⟨d,rfl,hd,rfl⟩;have iJ:(fX (depN ND d)).length=ND.length:=by rw [oC,gH]
 refine br ?_ ?_<;>intro hc
 ·have aq:d < ND.length:=sW bz hc;refine ⟨⟨rfl,by omega,by rw [bz];omega,by rw [bz];omega⟩,?_⟩;refine aT (fun j st=>∃ (e:Nat) (O:List Nat) (M:List Bool),st=F4 (wG a b A B ND z) O (fX (depN ND d)) M (dD ND).length (d + 1) e/\e<=ND.length/\O.length=ND.length/\M.length=ND.length/\(∀ i:Nat,i < e->O.getD i 0=(depN ND (d + 1)).getD i 0/\M.getD i false=(fX (depN ND (d + 1))).getD i false)/\(∀ i:Nat,e<=i->O.getD i 0=(depN ND d).getD i 0)/\j=ND.length - e) ND.length (F4 (wG a b A B ND z) (depN ND d) (fX (depN ND d)) (List.replicate ((dD ND).length:Int).toNat false) (dD ND).length (d + 1) 0) (QT 3 (by repeat' (first | exact rfl | exact aw rfl | exact dm rfl | exact cF (Ma _) | refine ⟨_,_,rfl,?_,?_⟩)) (by repeat' (first | exact trivial | exact aw rfl | exact dm rfl | exact cF (Ma _) | refine ⟨⟨_,rfl,?_⟩,?_⟩))) ⟨0,_,_,rfl,by omega,by rw [gH],by rw [List.length_replicate,bz];omega,fun i hi=>by omega,fun i _=>rfl,by omega⟩ ?_;rintro j st ⟨e,O,M,rfl,he,hO,hM,qx,Lb,rfl⟩;refine br ?_ ?_<;>intro hL
  ·have fQ:e < ND.length:=by have:=hL;simp [bz] at this;exact this
   obtain ⟨n,hn⟩:∃ n,ND[e]? = some n:=⟨_,gE fQ⟩;have MU:=mG hn;have h1:=IP (fX (depN ND d)) (by rw [iJ];exact ik) (n:=n) (by rw [iJ];exact bZ n MU) (bH n MU);obtain ⟨r1,r2⟩:=Rf (fun m hm=>⟨(bZ m hm).k8,(bZ m hm).bare⟩) d hn;refine iX (gD hn) ?_;refine cP abl h1 ?_
   have aR:(cB M).set (0 + (e:Int).toNat * 1) (DV.v (.bool (IL n (fX (depN ND d)))))=cB (M.set e (IL n (fX (depN ND d)))):=by
    rw [show 0 + (e:Int).toNat * 1=e by omega,Co]
   have Tb:(cB (M.set e (IL n (fX (depN ND d)))))[0 + (e:Int).toNat * 1]? = some (DV.v (.bool (IL n (fX (depN ND d))))):=by
    rw [show 0 + (e:Int).toNat * 1=e by omega];exact P8 (du (by omega))
   obtain ⟨q,hq⟩:∃ q,O[e]? = some q:=⟨_,gE (by omega)⟩;have hqd:(depN ND d).getD e 0=q:=by rw [<- Lb e (aO _),cH,hq];all_goals rfl
   rw [hqd] at r1
   have hMs:∀ i:Nat,i < e + 1->(M.set e (IL n (fX (depN ND d)))).getD i false=(fX (depN ND (d + 1))).getD i false:=fun i hi=>by
    by_cases D1:i=e
    ·subst D1;rw [r2,cH,du (by omega)];all_goals rfl
    ·rw [cH,List.getElem?_set_ne (Ne.symm D1),<- cH];exact (qx i (by omega)).2
   generalize IL n (fX (depN ND d))=h at aR Tb r1 hMs ⊢;refine ⟨⟨by omega,by rw [bz];omega⟩,?_⟩;refine ⟨by rw [ti];omega,?_⟩;refine ⟨⟨by omega,by rw [bz];omega⟩,?_⟩;refine ⟨DV.v (.bool h),(by rw [aR];exact Tb),?_⟩
   have hOs:∀ v,v=(depN ND (d + 1)).getD e 0->∀ i:Nat,i < e + 1->(O.set e v).getD i 0=(depN ND (d + 1)).getD i 0:=fun v hv i hi=>by
    by_cases D1:i=e
    ·subst D1;rw [<- hv,cH,du (by omega)];all_goals rfl
    ·rw [cH,List.getElem?_set_ne (Ne.symm D1),<- cH];exact (qx i (by omega)).1
   have hOr:∀ v:Nat,∀ i:Nat,e + 1<=i->(O.set e v).getD i 0=(depN ND d).getD i 0:=fun v i hi=>by
    rw [cH,List.getElem?_set_ne (by omega),<- cH];exact Lb i (by omega)
   have hOq:O.set e q=O:=List.ext_getElem? fun i=>by
    by_cases D1:e=i
    ·subst D1;rw [du (by omega),hq]
    ·rw [List.getElem?_set_ne D1]
   refine br ?_ ?_<;>intro g
   ·have g:h=true:=sU g;refine ⟨⟨by omega,by rw [bz];omega⟩,?_⟩;refine ⟨DV.v (.int .i64 (q:Int)),(by rw [show 0 + (e:Int).toNat * 1=e by omega];exact Ys hq),?_⟩;refine br ?_ ?_<;>intro g2
    ·have g2:q=0:=by simpa [pickB,pickD] using g2
     rw [ai ⟨g,g2⟩] at r1;refine ⟨⟨by omega,by rw [bz];omega⟩,?_⟩;refine ⟨by rw [Rg];omega,?_⟩
     have GA:(cN O).set (0 + (e:Int).toNat * 1) (DV.v (.int .i64 ((d + 1:Nat):Int)))=cN (O.set e (d + 1)):=by
      rw [show 0 + (e:Int).toNat * 1=e by omega,Yt]
     exact ⟨F4 (wG a b A B ND z) (O.set e (d + 1)) (fX (depN ND d)) (M.set e h) (dD ND).length (d + 1) (e + 1),(QT 3 (wA3 GA aR (nxt fQ (by omega))) (Uy GA aR (nxt fQ (by omega)))),ND.length - (e + 1),by omega,e + 1,_,_,rfl,by omega,by simp [hO],by rw [List.length_set];exact hM,fun i hi=>⟨hOs _ r1.symm i hi,hMs i hi⟩,hOr (d + 1),rfl⟩
    ·have g2:¬ q=0:=by simpa [pickB,pickD] using g2
     rw [ah (fun h=>g2 h.2)] at r1;exact ⟨F4 (wG a b A B ND z) (O.set e q) (fX (depN ND d)) (M.set e h) (dD ND).length (d + 1) (e + 1),(QT 3 (by repeat' (first | exact rfl | exact aw rfl | exact dm (by rw [hOq]) | exact cF aR | exact ay (nxt fQ (by omega)) | refine ⟨_,_,rfl,?_,?_⟩)) (by repeat' (first | exact trivial | exact aw rfl | exact dm (by rw [hOq]) | exact cF aR | exact ay (nxt fQ (by omega)) | refine ⟨⟨_,rfl,?_⟩,?_⟩))),ND.length - (e + 1),by omega,e + 1,_,_,rfl,by omega,by simp [hO],by rw [List.length_set];exact hM,fun i hi=>⟨hOs _ r1.symm i hi,hMs i hi⟩,hOr q,rfl⟩
   ·have g:h=false:=sU g;rw [ah (by rw [g];simp)] at r1;exact ⟨F4 (wG a b A B ND z) (O.set e q) (fX (depN ND d)) (M.set e h) (dD ND).length (d + 1) (e + 1),(QT 3 (by repeat' (first | exact rfl | exact aw rfl | exact dm (by rw [hOq]) | exact cF aR | exact ay (nxt fQ (by omega)) | refine ⟨_,_,rfl,?_,?_⟩)) (by repeat' (first | exact trivial | exact aw rfl | exact dm (by rw [hOq]) | exact cF aR | exact ay (nxt fQ (by omega)) | refine ⟨⟨_,rfl,?_⟩,?_⟩))),ND.length - (e + 1),by omega,e + 1,_,_,rfl,by omega,by simp [hO],by rw [List.length_set];exact hM,fun i hi=>⟨hOs _ r1.symm i hi,hMs i hi⟩,hOr q,rfl⟩
  ·have aS:e=ND.length:=sW bz hL;subst aS
   have Wl:O=depN ND (d + 1):=Re (by rw [hO,gH]) fun j=>by
    rcases Nat.lt_or_ge j ND.length with hj | hj
    ·exact (qx j hj).1
    ·simp only [cH];rw [dA (by omega),dA (by rw [gH];omega)]
   have hM2:M=fX (depN ND (d + 1)):=Ew (by rw [hM,oC,gH]) (fun j hj=>by
     rcases Nat.lt_or_ge j ND.length with h | h
     ·rw [<- (qx j h).2];exact hj
     ·rw [cH,dA (by omega)] at hj;cases hj) (fun j hj=>by
     rcases Nat.lt_or_ge j ND.length with h | h
     ·rw [(qx j h).2];exact hj
     ·rw [cH,dA (by rw [oC,gH];omega)] at hj;cases hj)
   subst Wl hM2;refine ⟨Ri (wG a b A B ND z) (depN ND (d + 1)) (fX (depN ND (d + 1))) (dD ND).length (d + 1 + 1),.GC 2 rfl rfl ⟨_,_,rfl,ax,_,_,rfl,Rh _ _ _ _ _,rfl⟩ rfl ⟨⟨_,rfl,ie⟩,⟨_,rfl,ie⟩,⟨_,rfl,adT (by rw [oC,gH,bz]) (aO _) rfl⟩,⟨_,rfl,?_⟩,trivial⟩,ND.length - (d + 1),by omega,d + 1,rfl,by omega,rfl⟩;exact congrArg (fun z=>DV.v (Value.int .i64 z)) (nxt (n:=1099511627777) (by omega) (by omega))
 ·have aS:d=ND.length:=sW bz hc;subst aS;exact ⟨_,ms_n (by rw [gH,bz]) (Nat.zero_le _) rfl,rfl⟩
theorem IQ {ND:List Nd} {ks:List Val} {f:Nat->Int} {e:Nat} {x:Val} (h:ks[e]? = some x):refVs ND (ks.drop e) f e=(yv ND x (f e) && refVs ND (ks.drop (e + 1)) f (e + 1)):=by
 rw [drop_cons h,refVs]
abbrev Yu (W:List DV) (v:Val) (d:Nd) (ok:Bool) (e:Nat):St:=
 ⟨[aab 3 0,aab 5 1,aab 7 2,aap 8 ok,aaa 9 e],[W,aH v,jt d],[]⟩
set_option maxHeartbeats 4000000 in
theorem uB (a b:Nat) (A B:List (List DV)) (rt:Int) {ND:List Nd} {L:Nat} (bZ:∀ n∈ND,eD L ND.length n):∀ (k:Nat) (v:Val),v.wt<=k->v.wt<=1099511627776->∀ i:Int,EvP prog 81 [.agg (wG a b A B ND rt),.v (.int .i64 i),.agg (aH v)] (.v (.bool (yv ND v i)))
 | 0,v,h,_=>by have:=v.dz;omega
 | k + 1,.mk q z s ks,h,hb=>fun i=>by
  have ih:=uB a b A B rt bZ k;have ir:=b9 ks;have bz:=aP ks;have eC:=hb;rw [Val.wt] at h hb;rw [yv];have hNl:=l8 ND
  cases hd:cT ND i with
  | none=>
   have hn:=yw hd;refine eG 164 [.tmp 6] func81 rfl ntmps81 rfl fun _ _ _ _=>?_;refine br (fun _=>?_) (fun c=>?_)
   ·exact (rfl:_=_)
   ·exfalso;have:=c;simp [ap,hNl] at this;omega
  | some d=>
   obtain ⟨h0,hg⟩:=de hd;obtain ⟨j,rfl⟩:∃ j:Nat,i=j:=⟨i.toNat,by omega⟩;have hg:ND[j]? = some d:=sU hg;have pN:=(gS hg).1;have hN:=bZ d (mG hg);have mM:=hN.k1;have A5:=hN.k8;have uu:=hN.many;have kP:=fun m=>ME hN (.mk q z s ks) m;simp only;have kL:=cm d.av;have hbl:=cr d.af;generalize hf:KI d (.mk q z s ks)=f at kP;have hF:FI d (.mk q z s ks)=FI d (.mk q z s ks):=rfl;obtain ⟨ag,aG,lo,hi,most,af,es⟩:=d;simp only at mM A5 uu kL hbl;have hkc:((ks.length:Int)=(es.length:Int))↔ks.length=es.length:=by omega
   have Qd:∀ b:Bool,b=pickB (pickB (!decide (q=ag)) true (pickB (!decide (q=3)) (!decide (s=⟨#[]⟩)) false)) true (pickB (decide (0 < (s.size:Int))) (decide (most < (s.size:Int))) false)->b=yu ⟨ag,aG,lo,hi,most,af,es⟩ (.mk q z s ks):=fun b h=>by
    rw [h,tE,Bool.eq_iff_iff];have hB:yu ⟨ag,aG,lo,hi,most,af,es⟩ (.mk q z s ks)=(decide (q≠ag) || (decide (q≠3) && decide (s≠au)) || (decide (0 < s.size) && decide (most < (s.size:Int)))):=rfl;rw [hB];simp [ap,pickB_and,or_assoc]
   refine eG 164 [.tmp 6] func81 rfl ntmps81 rfl fun _ _ _ _=>?_;refine br (fun c=>?_) (fun _=>?_)
   ·exfalso;have:=c;simp [ap,hNl] at this;omega
   refine iX (gD hg) ?_;refine br ?_ ?_<;>intro c
   ·have c:=(Qd _ rfl).symm.trans c;rw [ai c];exact (rfl:_=_)
   have c:=(Qd _ rfl).symm.trans c;rw [ah (by rw [c];simp)];rcases (show ag=1∨ag=2∨ag=3∨ag=4∨ag=5∨ag=6∨ag=7∨ag=8 by omega) with c | c | c | c | c | c | c | c
   all_goals
    repeat (first | (refine br (fun h=>?_) (fun _=>?_);focus (simp [c] at h;done)) | (refine br (fun _=>?_) (fun h=>?_);rotate_left;focus (simp [c] at h;done)))
   all_goals
    try
     refine dI ?_
     have hc:∀ b:Bool,b=pickB (decide (0<=z)) (decide (z < ((fU es).length:Int))) false->b=decide (0<=z/\z < es.length):=fun b h=>by
      rw [h,kL,pickB_and,Bool.eq_iff_iff];simp
     refine br (fun g=>?pp) (fun g=>?nn)
     case' pp=>
      have g8:=of_decide_eq_true ((hc _ rfl).symm.trans (sU g));obtain ⟨x,hx8⟩:∃ x,es[z.toNat]? = some x:=⟨_,gE (by omega)⟩;have hm64:=(uu (.inr c)).1;have hw:max 0 (min z (IntKind.i64.wrap (((fU es).length:Int) - 1)))=z:=by rw [kL,wrap64 (by omega) (by omega)];omega
      refine ⟨_,⟨Int.le_max_left _ _,by rw [hw];exact bi hx8⟩,?_⟩;show pu _ _ _ _
     case' nn=>
      have g8:=of_decide_eq_false ((hc _ rfl).symm.trans (sU g));show pu _ _ _ _
   all_goals
    refine aT (fun j st=>∃ (e:Nat) (ok:Bool),st=Yu (wG a b A B ND rt) (.mk q z s ks) ⟨ag,aG,lo,hi,most,af,es⟩ ok e/\e<=ks.length/\(FI ⟨ag,aG,lo,hi,most,af,es⟩ (.mk q z s ks) && refVs ND ks f 0)=(ok && refVs ND (ks.drop e) f e)/\j=ks.length - e) ks.length (Yu (wG a b A B ND rt) (.mk q z s ks) ⟨ag,aG,lo,hi,most,af,es⟩ _ 0) (wkM wB) ⟨0,_,rfl,by omega,congrArg (fun b=>b && refVs ND ks f 0) ?_,by omega⟩ ?_
    ·first
      | (simp [FI,c,ap,pickB_and,Val.n,Val.ks,kL,hbl,bz,hkc,g8,hx8];rw [(gS hx8).2];cases x.bare<;>simp;done)
      | (simp [FI,c,ap,pickB_and,Val.n,Val.ks,kL,hbl,bz,hkc,g8];try rfl;done)
      | (simp [FI,c,ap,pickB_and,Val.n,Val.ks,kL,hbl,bz,hkc];try rfl;done)
    ·rintro _ st ⟨e,ok,rfl,he,aK,rfl⟩;refine br ?_ ?_<;>intro hL
     ·have hL:e < ks.length/\ok=true:=by
       have:=hL;simp [pickB_and,bz] at this;exact this
      obtain ⟨aq,hok1⟩:=hL;obtain ⟨x,hx⟩:=gX aq;have EP:=cS (mG hx);rw [hok1,Bool.true_and,IQ hx] at aK;have dY:=ih x (by omega) (by omega) (f e);obtain ⟨xk,xn,xs,xl⟩:=x;refine dI ?_;refine cD aa2 (kP e) ?_;refine iX (bf hx) ?_;refine cD aaG dY ?_;exact ⟨Yu (wG a b A B ND rt) (.mk q z s ks) ⟨ag,aG,lo,hi,most,af,es⟩ _ (e + 1),(wkM (wB1 (nxt aq (by omega)))),ks.length - (e + 1),by omega,e + 1,_,rfl,by omega,aK,rfl⟩
     ·have hL:¬ (e < ks.length/\ok=true):=by
       have:=hL;simp [pickB_and,bz] at this;simpa using this
      refine (aae ?_:);rw [aK]
      cases ok with
      | false=>rfl
      | true=>rw [List.drop_of_length_le (by simp at hL;omega),refVs];all_goals rfl
theorem IU (l:List ch) (x:ch):bm l ++ [lH x]=bm (l ++ [x]):=by simp [bm]
def dP:List ch->DV
 | []=>.v (.slice none 0 0)
 | s :: p=>.sl 3 (bm (s :: p)) none
theorem Rj:EvP prog 216 [.v (.slice none 0 0)] (.v (.slice none 0 0)):=by
 refine eG 8 [.tmp 2] func216 rfl ntmps216 rfl fun _ _ _ _=>?_;refine T5 ⟨_,rfl⟩ rfl rfl rfl rfl ?_;exact (rfl:_=_)
theorem Rk (s:ch) (p:List ch) (hl:(s :: p).length<=1099511627776):Sm prog 216 [.sl 3 (bm (s :: p)) none] [] [] (fun r _ bQ=>r = .sl 3 (bm (s :: p)) (some 0)/\bQ=[⟨(s :: p).length,141,3,none⟩]):=by
 have bz:=fl (s :: p);have aQ:bm (s :: p) ≠ []:=by simp [bm]
 refine mH (s:=false) (bt:=[]) (mu:=[]) (hbt:=fun p hp=>by cases hp) (fr:=true) (P:=prog) tt jC 5000 8 [.tmp 2] func216 rfl ntmps216 rfl (nL rfl) (fun _ _ _ _=>?_);refine qf ⟨_,rfl⟩ rfl rfl rfl rfl (fun b hb=>?_);rw [hb aQ];refine l6 rfl rfl rfl rfl (hk:=?_);refine ⟨rfl,⟨by simp [maxLen,bz];simp at hl;omega,by simp [bz];simp at hl;omega⟩,?_⟩;refine ⟨_,[],ie,rfl,rfl,?_⟩;show [(⟨0 + (bm (s :: p)).length,_,3,none⟩:TkE)]=_;rw [bz,Nat.zero_add]
structure iL where
 k:Int
 p:List ch
 x:Option Val
 y:Option Val
def vD:Option Val->List DV
 | none=>[.v (.int .i64 0),.v (.int .i64 0),.v (.string au),.v (.slice none 0 0)]
 | some v=>aH v
def F5 (c:iL):List DV:=[.v (.int .i64 c.k),dP c.p] ++ (vD c.x ++ vD c.y)
def dr (l:List iL):List (List DV):=l.map F5
theorem mh (l:List iL):(dr l).length=l.length:=by simp [dr]
theorem kI (l:List iL) (c:iL):dr l ++ [F5 c]=dr (l ++ [c]):=by simp [dr]
def yK (x y:Val):Bool:=decide (x.k=y.k) && (decide (x.n=y.n) && (decide (x.s=y.s) && (decide (x.ks.length=y.ks.length) || decide (x.k=5))))
def dg (j:Nat):ch:=⟨2,j,au⟩
def addC (p:List ch):List Val->Nat->List iL
 | [],_=>[]
 | y :: r,j=>⟨2,p ++ [dg j],none,some y⟩ :: addC p r (j + 1)
def CW (p:List ch):List Val->Nat->List iL
 | [],_=>[]
 | x :: r,j=>CW p r (j + 1) ++ [⟨3,p ++ [dg j],some x,none⟩]
section
variable (ND:List Nd)
def kidD (F:Val->Val->Int->List ch->List iL) (d:Nd) (x y:Val) (p:List ch) (j:Nat):List iL:=
 match x.ks[j]?,y.ks[j]?,bY d x.n j with
 | some a,some b,some e=>F a b e.to (p ++ [stpR d x j])
 | _,_,_=>[]
def kidsD (F:Val->Val->Int->List ch->List iL) (d:Nd) (x y:Val) (p:List ch):Nat->List iL
 | 0=>[]
 | j + 1=>kidsD F d x y p j ++ kidD F d x y p j
def dfK:Nat->Val->Val->Int->List ch->List iL
 | 0,_,_,_,_=>[]
 | k + 1,x,y,i,p=>if yK x y=true then (match cT ND i with
  | none=>[]
  | some d=>kidsD (dfK k) d x y p (min x.ks.length y.ks.length) ++ addC p (y.ks.drop x.ks.length) x.ks.length ++ CW p (x.ks.drop y.ks.length) y.ks.length) else [⟨1,p,some x,some y⟩]
end
theorem yL (p:List ch):∀ (l:List Val) (j:Nat),(addC p l j).length=l.length
 | [],_=>rfl
 | _ :: r,j=>by rw [addC,List.length_cons,List.length_cons,yL p r]
theorem rT (p:List ch):∀ (l:List Val) (j:Nat),(CW p l j).length=l.length
 | [],_=>rfl
 | _ :: r,j=>by rw [CW,List.length_append,List.length_cons,rT p r];all_goals rfl
theorem F6 (p:List ch):∀ {l:List Val} {j e:Nat} {y:Val},l[e]? = some y->(addC p l j)[e]? = some ⟨2,p ++ [dg (j + e)],none,some y⟩
 | [],_,_,_,h=>by simp at h
 | z :: r,j,0,y,h=>by
  simp only [List.getElem?_cons_zero,oI] at h;subst h;rfl
 | z :: r,j,e + 1,y,h=>by
  rw [addC,List.getElem?_cons_succ,F6 p (j:=j + 1) (sU h),show j + 1 + e=j + (e + 1) by omega]
theorem F7 (p:List ch):∀ {l:List Val} {j t:Nat} {x:Val},t < l.length->l[l.length - 1 - t]? = some x->(CW p l j)[t]? = some ⟨3,p ++ [dg (j + (l.length - 1 - t))],some x,none⟩
 | [],_,_,_,h,_=>by simp at h
 | z :: r,j,t,x,h,hx=>by
  rw [CW];have hl:=rT p r (j + 1);rw [List.length_cons] at h hx ⊢;by_cases c:t < r.length
  ·rw [bF (by omega),F7 p c (x:=x) (by rw [show r.length + 1 - 1 - t=(r.length - 1 - t) + 1 by omega,List.getElem?_cons_succ] at hx;exact hx),show j + 1 + (r.length - 1 - t)=j + (r.length + 1 - 1 - t) by omega]
  ·have ht:t=r.length:=by omega
   subst ht;rw [show r.length + 1 - 1 - r.length=0 by omega,List.getElem?_cons_zero] at hx;cases hx;rw [List.getElem?_append_right (by omega),hl,show r.length - r.length=0 by omega,show r.length + 1 - 1 - r.length=0 by omega,Nat.add_zero];rfl
theorem mi:∀ l:List Val,l.length<=bP l
 | []=>by simp [bP]
 | v :: r=>by
  have:=mi r;have h1:1<=fV v:=by obtain ⟨_,_,_,_⟩:=v;rw [fV];omega
  rw [bP,List.length_cons];omega
theorem kJ:∀ (l:List Val) (m:Nat),bP (l.take m) + bP (l.drop m)=bP l
 | [],m=>by simp [bP]
 | v :: r,0=>by simp [bP]
 | v :: r,m + 1=>by
  have:=kJ r m;simp only [List.take_succ_cons,List.drop_succ_cons,bP];omega
theorem oD {l:List Val} {j:Nat} {a:Val} (h:l[j]? = some a):bP (l.take (j + 1))=bP (l.take j) + fV a:=by
 rw [List.take_add_one,h];exact qi _ _
theorem yM (l:List Val) (m:Nat):bP (l.take m)<=bP (l.take (m + 1)):=by
 cases h:l[m]? with
 | none=>rw [List.take_add_one,h];simp
 | some a=>rw [oD h];omega
theorem F8 {F:Val->Val->Int->List ch->List iL} (hF:∀ x y i p,(F x y i p).length<=fV x + fV y) (d:Nd) (x y:Val) (p:List ch):∀ m,(kidsD F d x y p m).length<=bP (x.ks.take m) + bP (y.ks.take m):=by
 intro m
 induction m with
 | zero=>simp [kidsD]
 | succ m im=>
  rw [kidsD,List.length_append]
  have h2:(kidD F d x y p m).length + (bP (x.ks.take m) + bP (y.ks.take m))<=bP (x.ks.take (m + 1)) + bP (y.ks.take (m + 1)):=by
   have gy:=yM x.ks m;have rZ:=yM y.ks m;unfold kidD;split
   ·rename_i a b e h1 h2 h3;have:=hF a b e.to (p ++ [stpR d x m]);rw [oD h1,oD h2];omega
   ·simp only [List.length_nil];omega
  omega
theorem KZ (ND:List Nd):∀ (k:Nat) (x y:Val) (i:Int) (p:List ch),(dfK ND k x y i p).length<=fV x + fV y
 | 0,_,_,_,_=>Nat.zero_le _
 | k + 1,x,y,i,p=>by
  have ih:=KZ ND k;rw [dfK];have hx1:fV x=1 + bP x.ks:=by obtain ⟨_,_,_,_⟩:=x;rfl
  have vQ:fV y=1 + bP y.ks:=by obtain ⟨_,_,_,_⟩:=y;rfl
  split
  ·cases hd:cT ND i with
   | none=>simp only [List.length_nil];omega
   | some d=>
    have hk:=F8 (F:=dfK ND k) ih d x y p;have h1:=hk (min x.ks.length y.ks.length);have h2:=yL p (y.ks.drop x.ks.length) x.ks.length;have h3:=rT p (x.ks.drop y.ks.length) y.ks.length;have h4:=mi (y.ks.drop x.ks.length);have h5:=mi (x.ks.drop y.ks.length);have h6:=kJ x.ks (min x.ks.length y.ks.length);have h7:=kJ y.ks (min x.ks.length y.ks.length);simp only [List.length_append];rcases Nat.le_total x.ks.length y.ks.length with c | c
    ·rw [Nat.min_eq_left c] at *;rw [List.drop_eq_nil_of_le c] at h3 h5 ⊢;simp only [List.length_nil] at h3;omega
    ·rw [Nat.min_eq_right c] at *;rw [List.drop_eq_nil_of_le c] at h2 h4 ⊢;simp only [List.length_nil] at h2;omega
  ·simp only [List.length_cons,List.length_nil];omega
theorem MV (ND:List Nd) (k:Nat) (d:Nd) (x y:Val) (p:List ch) (m:Nat):(kidsD (dfK ND k) d x y p m).length<=bP (x.ks.take m) + bP (y.ks.take m):=F8 (KZ ND k) d x y p m
end Go.Proofs.YtgjagnmeonoehaaGreat
set_option maxRecDepth 100000
namespace Go.Proofs.YtgjagnmeonoehaaGreat
open Go Go.RowKit Dv Tryz
abbrev bO (p:DV) (l:List UInt8):List DV:=[p,.sl 1 (bD l) (some 0)]
abbrev bT (l:List UInt8):List TkE:=[⟨l.length,5,1,none⟩]
def Yv (y:Val) (l:List UInt8) (r:DV) (os:List (List DV)) (bQ:List TkE):Prop:=r = .tup []/\os=[aH y,bO (.loc 1 0) l]/\bQ=bT l
abbrev Wm (y:Val) (PC:List DV) (d:Nd) (v:Val) (O Z:List UInt8) (NM:DV) (T:List Int) (L:List UInt8) (e:Nat):St:=
 ⟨[(0,⟨[],.loc 1 0⟩),(1,⟨[],.pt PC 0⟩),(10,⟨[],.loc 4 0⟩),(11,⟨[],.sl 1 (pk T) none⟩),(38,⟨[],.sl 4 (dVals v.ks) none⟩),(39,⟨[],.v (.int .i64 (dVals v.ks).length)⟩),(40,⟨[],.v (.int .i64 e)⟩)],
  [aH y,bO (.loc 1 0) L,aH v,jt d,[.v (.string (ba O)),.v (.string (ba Z)),NM]],bT L⟩
theorem rU {S:Sch} {ND:List Nd} {PC:List DV} (hP:fw S ND PC) (y:Val):∀ (k:Nat) (v:Val),v.wt<=k->v.wt<=1099511627776->rngW v->∀ i:Int,gm ND v i=true->∀ (l:List UInt8) (p:DV),p = .v (.pointer none)∨p = .loc 1 0->l.length + 50 * v.wt<=140737488355328 ->
  Z6 false Tryz.prog 219 [.loc 1 0,.pt PC 0,.v (.int .i64 i),.agg (aH v)] [aH y,bO p l] (bT l) [(1,160)] (Yv y (l ++ textV ND v i))
 | 0,v,h,_=>by have:=v.dz;omega
 | k + 1,v,h,hb=>fun hr i hw l p hp hl=>by
  have ih:=rU hP y k;obtain ⟨yk,yn,ys,yl⟩:=y;obtain ⟨d,hd,hc⟩:=jI hw;obtain ⟨h0,hg⟩:=de hd;obtain ⟨j,rfl⟩:∃ j:Nat,i=j:=⟨i.toNat,by omega⟩;have hg:ND[j]? = some d:=by simpa using hg
  have hN:=hP.ok d (mG hg);have mM:=hN.k1;have A5:=hN.k8;have ep:=hP.aj j d hg;have iJ:=rR v;obtain ⟨hon,kO⟩:=CS hN (by obtain ⟨_,_,_,_⟩:=v;rw [rngW] at hr;exact hr.2.1) hc;have hol2:(gG d v).length + 1<=50 * (64 + v.s.size):=by omega
  have fi:=Bd hP.ok v j hr hw
  have hT:textV ND v j=gG d v ++ textVs ND v.ks d v.n 0 ++ oy v:=by
   obtain ⟨q,z,s,ks⟩:=v;rw [textV,hd];rfl
  have hvw:v.wt=64 + v.s.size + cO v.ks:=by obtain ⟨q,z,s,ks⟩:=v;rfl
  have K0:=fun a b=>FV d v (by omega) (by obtain ⟨_,_,_,_⟩:=v;rw [rngW] at hr;exact hr.2.1) a b;by_cases c9:v.k < 5∨8 < v.k
  ·have hk0:v.ks=[]:=by
    rcases hc with h | h | h
    ·exact h.2.2
    ·exact h.2.2.1
    ·omega
   have h4:v.k=4->0<=v.n/\v.n < d.af.length:=by
    rcases hc with h | h | h
    ·omega
    ·exact h.2.2.2
    ·omega
   have K0:=K0 (by omega) h4;have lZ:oy v=[]:=Wi (by omega) hk0;rw [hk0,lZ,textVs,List.append_nil,List.append_nil] at hT;rw [hT] at fi ⊢;rw [show (decide (v.k < 5) || decide (8 < v.k))=true by simpa using c9] at iJ;generalize gG d v=O at *;clear hc hT;obtain ⟨q,z,s,ks⟩:=v;obtain ⟨ag,aG,lo,hi,most,af,es⟩:=d;refine BK (s:=false) (bt:=[(1,160)]) (mu:=[]) (fr:=false) (P:=Tryz.prog) tt jC 5000 72 [] Tryz.func219 rfl Tryz.ntmps219 rfl (nL rfl) (fun E9 w9 hn9 hm9=>?_);refine NZ sI (ep) ax rfl ?_;refine NZ Oy (iJ) ax rfl ?_;refine NZ abv (K0) ax rfl ?_;refine iF rfl (l ++ O) (l:=l) (kt:=0) rfl (.head _) rfl hp rfl (by simp [hon]) (by rw [List.length_append];omega) rfl (fun n9=>?_);exact ⟨.tup [],[aH ⟨yk,yn,ys,yl⟩,bO (.loc 1 0) (l ++ O)],aL,aL,rfl,rfl,rfl⟩
  ·obtain ⟨hk,h5,NB,KJ⟩:v.k=d.ag/\5<=d.ag/\shellF d v=true/\iG ND v.ks d v.n 0=true:=by
    rcases hc with h | h | h
    ·omega
    ·omega
    ·exact h
   clear K0
   have hed:∀ m,m < v.ks.length->∃ e,bY d v.n m=some e/\gm ND (v.ks[m]?.getD v) e.to=true:=fun m hm=>by
    obtain ⟨e,h1,h2⟩:=oA KJ (gE hm);rw [Nat.zero_add] at h1;exact ⟨e,h1,by rw [gE hm];exact h2⟩
   have LJ:=MQ hN h5 v hb hk (fun m hm=>(hed m hm).imp fun e h=>h.1) (fun c=>shell_8 NB c);rw [show (decide (v.k < 5) || decide (8 < v.k))=false by simp;omega] at iJ;have nz:=fun e (he:e<=v.ks.length)=>qu hP.ok (v.ks.take e) d v.n 0 hN h5 (yH e (by obtain ⟨_,_,_,_⟩:=v;rw [rngW] at hr;exact hr.2.2)) (FZ e KJ);have Lj:=CT v.ks;have kL:=KU v;have hT7:d.ag=7->MP d = .sl 1 (nu (FW d d.av.length)) none:=fun c=>by rw [MP,if_pos c]
   have hTn:d.ag≠7->MP d = .v (.slice none 0 0):=fun c=>by rw [MP,if_neg c]
   have adU:∀ (n m:Nat) (tk:List TkE),We n m tk (MP d) (MP d):=fun n m tk=>by
    by_cases c:d.ag=7
    ·rw [hT7 c];exact aw rfl
    ·rw [hTn c];exact aw rfl
   have htg:=fun m e h1 h2=>@Ra d v v.ks.length m e h1 h2;have hNL:=KQ d d.av.length (Nat.le_refl _)
   have hNg:∀ (m:Nat) (e:Ed),d.ag=7->bY d v.n m=some e->(nu (FW d d.av.length))[m]? = some [.v (.string (ba (tx e.name ++ [58,32])))]:=fun m e c h=>by
    unfold bY at h;rw [if_pos c] at h;simp [nu,FW,h]
   have va:∀ e∈d.av,d.ag=7->e.name.size<=32:=fun e he c=>jy ((hN.many (.inl c)).2.2.2 e he);have hXs:=fun e x ed (h1:v.ks[e]? = some x) (h2:bY d v.n e=some ed)=>FM (ND:=ND) h1 h2;have hX0:textVs ND (v.ks.take 0) d v.n 0=[]:=by rw [List.take_zero,textVs]
   have hXf:textVs ND (v.ks.take v.ks.length) d v.n 0=textVs ND v.ks d v.n 0:=by rw [List.take_length]
   rw [hT] at fi ⊢;rw [<- hXf];generalize XU:(fun e=>textVs ND (v.ks.take e) d v.n 0)=X at *;have hX:∀ e,textVs ND (v.ks.take e) d v.n 0=X e:=fun e=>by rw [<- XU]
   simp only [hX] at hXs hX0 nz ⊢;generalize gG d v=O at *;generalize oy v=Z at *;generalize MP d=NM at *;generalize tosL d v v.ks.length=T at *;generalize FW d d.av.length=M at *;clear hc hT hXf NB fi hX XU;obtain ⟨q,z,s,ks⟩:=v;obtain ⟨ag,aG,lo,hi,most,af,es⟩:=d;have bz:=aP ks;have ir:=b9 ks;simp only [Val.k,Val.n,Val.s,Val.ks] at *;refine BK (s:=false) (bt:=[(1,160)]) (mu:=[]) (fr:=false) (P:=Tryz.prog) tt jC 5000 72 [] Tryz.func219 rfl Tryz.ntmps219 rfl (nL rfl) (fun E9 w9 hn9 hm9=>?_);refine NZ sI (ep) ax rfl ?_;refine NZ Oy (iJ) ax rfl ?_;refine NZ abu (LJ) ax rfl ?_;refine iF rfl (l ++ O) (l:=l) (kt:=0) rfl (.head _) rfl hp rfl (by simp [hon]) (by rw [List.length_append];omega) rfl (fun n9=>?_);refine aT (fun j st=>∃ e:Nat,st=Wm ⟨yk,yn,ys,yl⟩ PC ⟨ag,aG,lo,hi,most,af,es⟩ (.mk q z s ks) O Z NM T (l ++ O ++ X e) e/\e<=ks.length/\j=ks.length - e) ks.length (Wm ⟨yk,yn,ys,yl⟩ PC ⟨ag,aG,lo,hi,most,af,es⟩ (.mk q z s ks) O Z NM T (l ++ O) 0) (az 5 rfl (by repeat' (first | exact rfl | exact aw rfl | exact adU _ _ _ | refine ⟨_,_,rfl,?_,?_⟩)) rfl rfl rfl (by repeat' (first | exact trivial | exact aw rfl | exact adU _ _ _ | refine ⟨⟨_,rfl,?_⟩,?_⟩))) ⟨0,by rw [hX0,List.append_nil],by omega,by omega⟩ ?_;rintro _ st ⟨e,rfl,he,rfl⟩;have hXl:=nz e he;refine br (fun hL=>?_) (fun hL=>?_)
   ·have aq:e < ks.length:=by simpa [bz,Val.ks] using hL
    obtain ⟨ed,IH,Yw⟩:=hed e aq;obtain ⟨x,hx⟩:∃ x,ks[e]? = some x:=⟨_,gE aq⟩;rw [hx] at Yw;have EP:=cS (mG hx);have hxt:=Be hx;have Z0:rngW x:=by rw [rngW] at hr;exact mf hr.2.2 (mG hx)
    have px:=fun (L1:List UInt8) h1=>ih x (by omega) (by omega) Z0 ed.to Yw L1 (.loc 1 0) (.inr rfl) h1;have Rm:=hXs e x ed hx IH;have hTg:=htg e ed IH aq;have MU:=fun c=>hNg e ed c IH;have T8:=va ed (FX IH);generalize textV ND x ed.to=t at px Rm;obtain ⟨xk,xn,xs,xl⟩:=x;refine ⟨_,⟨by omega,bf (by simpa [Val.ks] using hx)⟩,?_⟩;refine br (fun c=>?_) (fun c=>?_)
    ·have c:e≠0:=by rintro rfl;simp at c
     rw [if_neg c] at Rm;refine iF rfl (l ++ O ++ X e ++ [44,32]) (l:=l ++ O ++ X e) (kt:=0) rfl (.head _) rfl (.inr rfl) rfl (by simp) (by simp only [List.length_append,List.length_cons,List.length_nil];omega) rfl (fun n9=>?_);by_cases c7:ag=7
     ·have MU:=MU c7;have T8:=T8 c7;have TY:=hT7 c7;subst TY;rw [if_pos c7] at Rm;refine Wg ⟨_,rfl⟩ rfl rfl (by intro h9;rw [h9] at MU;simp at MU) rfl rfl ?_;refine ⟨_,⟨by omega,MU⟩,?_⟩;refine iF rfl ((l ++ O ++ X e ++ [44,32]) ++ (tx ed.name ++ [58,32])) (l:=(l ++ O ++ X e ++ [44,32])) (kt:=0) rfl (.head _) rfl (.inr rfl) rfl (by simp) (by simp only [List.length_append,List.length_cons,List.length_nil,bB];omega) rfl (fun n9=>?_);refine jA (fun i=>Nat.beq i 7) mo (by decide +kernel) ?_;refine ⟨_,⟨by omega,rO hTg⟩,?_⟩;have Yx:(l ++ O ++ X e ++ [44,32]) ++ (tx ed.name ++ [58,32]) ++ t=l ++ O ++ X (e + 1):=by rw [Rm];simp only [List.append_assoc]
      refine gM rfl (n7 2 1 DX rfl rfl rfl aL aL (px ((l ++ O ++ X e ++ [44,32]) ++ (tx ed.name ++ [58,32])) (by simp only [List.length_append,List.length_cons,List.length_nil,bB];omega)) (fun r il cd hΦ h1 h2=>?_));rw [Yx] at hΦ;obtain ⟨rfl,rfl,rfl⟩:=hΦ;exact ⟨Wm ⟨yk,yn,ys,yl⟩ PC ⟨ag,aG,lo,hi,most,af,es⟩ (.mk q z s ks) O Z _ T (l ++ O ++ X (e + 1)) (e + 1),(az 5 rfl (wNA aq) rfl rfl rfl (wNB aq)),ks.length - (e + 1),by omega,e + 1,rfl,by omega,rfl⟩
     ·have TY:=hTn c7;subst TY;rw [if_neg c7,List.nil_append] at Rm;refine Q2 ⟨_,rfl⟩ rfl rfl rfl rfl ?_;refine jA (fun i=>Nat.beq i 7) mo (by decide +kernel) ?_;refine ⟨_,⟨by omega,rO hTg⟩,?_⟩;have Yx:(l ++ O ++ X e ++ [44,32]) ++ t=l ++ O ++ X (e + 1):=by rw [Rm];simp only [List.append_assoc]
      refine gM rfl (n7 2 1 DX rfl rfl rfl aL aL (px (l ++ O ++ X e ++ [44,32]) (by simp only [List.length_append,List.length_cons,List.length_nil];omega)) (fun r il cd hΦ h1 h2=>?_));rw [Yx] at hΦ;obtain ⟨rfl,rfl,rfl⟩:=hΦ;exact ⟨Wm ⟨yk,yn,ys,yl⟩ PC ⟨ag,aG,lo,hi,most,af,es⟩ (.mk q z s ks) O Z _ T (l ++ O ++ X (e + 1)) (e + 1),(az 5 rfl (wNA aq) rfl rfl rfl (wNB aq)),ks.length - (e + 1),by omega,e + 1,rfl,by omega,rfl⟩
    ·have c:e=0:=by simp at c;omega
     rw [if_pos c,List.nil_append] at Rm;by_cases c7:ag=7
     ·have MU:=MU c7;have T8:=T8 c7;have TY:=hT7 c7;subst TY;rw [if_pos c7] at Rm;refine Wg ⟨_,rfl⟩ rfl rfl (by intro h9;rw [h9] at MU;simp at MU) rfl rfl ?_;refine ⟨_,⟨by omega,MU⟩,?_⟩;refine iF rfl ((l ++ O ++ X e) ++ (tx ed.name ++ [58,32])) (l:=(l ++ O ++ X e)) (kt:=0) rfl (.head _) rfl (.inr rfl) rfl (by simp) (by simp only [List.length_append,List.length_cons,List.length_nil,bB];omega) rfl (fun n9=>?_);refine jA (fun i=>Nat.beq i 7) mo (by decide +kernel) ?_;refine ⟨_,⟨by omega,rO hTg⟩,?_⟩;have Yx:(l ++ O ++ X e) ++ (tx ed.name ++ [58,32]) ++ t=l ++ O ++ X (e + 1):=by rw [Rm];simp only [List.append_assoc]
      refine gM rfl (n7 2 1 DX rfl rfl rfl aL aL (px ((l ++ O ++ X e) ++ (tx ed.name ++ [58,32])) (by simp only [List.length_append,List.length_cons,List.length_nil,bB];omega)) (fun r il cd hΦ h1 h2=>?_));rw [Yx] at hΦ;obtain ⟨rfl,rfl,rfl⟩:=hΦ;exact ⟨Wm ⟨yk,yn,ys,yl⟩ PC ⟨ag,aG,lo,hi,most,af,es⟩ (.mk q z s ks) O Z _ T (l ++ O ++ X (e + 1)) (e + 1),(az 5 rfl (wNA aq) rfl rfl rfl (wNB aq)),ks.length - (e + 1),by omega,e + 1,rfl,by omega,rfl⟩
     ·have TY:=hTn c7;subst TY;rw [if_neg c7,List.nil_append] at Rm;refine Q2 ⟨_,rfl⟩ rfl rfl rfl rfl ?_;refine jA (fun i=>Nat.beq i 7) mo (by decide +kernel) ?_;refine ⟨_,⟨by omega,rO hTg⟩,?_⟩;have Yx:(l ++ O ++ X e) ++ t=l ++ O ++ X (e + 1):=by rw [Rm];simp only [List.append_assoc]
      refine gM rfl (n7 2 1 DX rfl rfl rfl aL aL (px (l ++ O ++ X e) (by simp only [List.length_append,List.length_cons,List.length_nil];omega)) (fun r il cd hΦ h1 h2=>?_));rw [Yx] at hΦ;obtain ⟨rfl,rfl,rfl⟩:=hΦ;exact ⟨Wm ⟨yk,yn,ys,yl⟩ PC ⟨ag,aG,lo,hi,most,af,es⟩ (.mk q z s ks) O Z _ T (l ++ O ++ X (e + 1)) (e + 1),(az 5 rfl (wNA aq) rfl rfl rfl (wNB aq)),ks.length - (e + 1),by omega,e + 1,rfl,by omega,rfl⟩
   ·have aS:e=ks.length:=by
     have:=hL;simp [bz,Val.ks] at this;omega
    subst aS;have hw9:=Lj ks.length;rw [<- List.append_assoc,<- List.append_assoc];refine iF rfl (l ++ O ++ X ks.length ++ Z) (l:=l ++ O ++ X ks.length) (kt:=0) rfl (.head _) rfl (.inr rfl) rfl (by simp [hon]) (by simp only [List.length_append];omega) rfl (fun n9=>?_);exact ⟨.tup [],[aH ⟨yk,yn,ys,yl⟩,bO (.loc 1 0) (l ++ O ++ X ks.length ++ Z)],aL,aL,rfl,rfl,rfl⟩
end Go.Proofs.YtgjagnmeonoehaaGreat
set_option maxRecDepth 100000
namespace Go.Proofs.YtgjagnmeonoehaaGreat
open Go Go.RowKit Dv Go.Proofs.Tryz
theorem K1 (s:ByteArray) (n:Nat) (h:s.size<=1099511627776):tx (s.extract n (s.size:Int).toNat)=(tx s).drop n:=by
 simp [tx,iW];exact List.take_of_length_le (by rw [List.length_drop];have:=bB s;unfold tx at this;omega)
theorem MW (s:ByteArray):s=⟨#[]⟩↔tx s=[]:=⟨fun h=>by rw [h];rfl,fun h=>by rw [<- Aj s,h]⟩
theorem uC:∀ (u:Nat) (s:ByteArray),s.size<=1099511627776->∀ z:Int,z<=9223372036854775807->z.toNat=u->EvP prog 212 [.v (.string s),.v (.int .i64 z)] (.v (.string (ba (headL u (tx s)))))
 | 0,s,hs,z,hz,hu=>by
  refine eG 28 [.tmp 4] func212 rfl ntmps212 rfl fun _ _ _ _=>?_;refine br (fun _=>(rfl:_=_)) (fun c=>absurd c (by simp [ap];omega))
 | u + 1,s,hs,z,hz,hu=>by
  by_cases he:s=⟨#[]⟩
  ·subst he;rw [show tx ⟨#[]⟩=[] from rfl,A0];refine eG 28 [.tmp 4] func212 rfl ntmps212 rfl fun _ _ _ _=>?_;refine br (fun _=>(rfl:_=_)) (fun c=>absurd c (by simp [ap]))
  have aQ:tx s ≠ []:=fun h=>he ((MW s).2 h);obtain ⟨h1,h2⟩:=rL aQ;rw [bB] at h2;have DN:=Fu s hs (by omega);have hdr:=K1 s (lm (tx s)) hs;have je:=vy s (lm (tx s));have hl:=MI u ((tx s).drop (lm (tx s)));rw [List.length_drop,bB] at hl;have hD:headL (u + 1) (tx s)=(tx s).take (lm (tx s)) ++ headL u ((tx s).drop (lm (tx s))):=rfl;rw [hD,<- je,<- hdr];rw [<- hdr] at hl;have fi:(s.extract 0 (lm (tx s))).size=lm (tx s):=by rw [<- bB,vy,zLenT,bB];omega
  have bz:(s.extract (lm (tx s)) (s.size:Int).toNat).size=s.size - lm (tx s):=by rw [<- bB,K1 _ _ hs,List.length_drop,bB]
  have ih:=uC u (s.extract (lm (tx s)) (s.size:Int).toNat) (by omega) (IntKind.i64.wrap (z - 1)) (by rw [wrap64 (by omega) (by omega)];omega) (by rw [wrap64 (by omega) (by omega)];omega);generalize lm (tx s)=n at DN h1 h2 ih fi bz hl;refine eG 28 [.tmp 4] func212 rfl ntmps212 rfl fun _ _ _ _=>?_;refine br (fun c=>absurd c (by simp [ap];exact ⟨by omega,he⟩)) (fun _=>?_);refine bE abq rfl DN ax (fun q hq=>?_);obtain ⟨c0,rfl⟩:=hq;refine dI ?_;refine ⟨⟨by omega,by omega,by omega⟩,?_⟩;refine ⟨⟨by omega,by omega,by omega⟩,?_⟩;refine cD UY ih ?_;have RN:(ba (headL u (tx (s.extract n (s.size:Int).toNat)))).size=(headL u (tx (s.extract n (s.size:Int).toNat))).length:=by rw [<- bB,nY]
  have hcat:s.extract 0 n ++ ba (headL u (tx (s.extract n (s.size:Int).toNat)))=ba (tx (s.extract 0 n) ++ headL u (tx (s.extract n (s.size:Int).toNat))):=mT (by rw [wT,nY (headL u (tx (s.extract n (s.size:Int).toNat)))]);refine ⟨by show (s.extract 0 n).size + _<=_;omega,?_⟩;exact (congrArg (fun z=>DV.v (.string z)) hcat:_=_)
mutual
theorem Bf:∀ (t:Ty),rngT t->∀ u∈flatT t,rngT u
 | .mk h ps,hr,u,hu=>by
  rw [flatT] at hu;split at hu
  ·cases hu
  ·rcases bp hu with rfl | hu
   ·exact hr
   ·rw [rngT] at hr;exact Bg ps hr.2.2.2 u hu
theorem Bg:∀ (ps:Pts),rngP ps->∀ u∈flatP ps,rngT u
 | .nil,_,u,hu=>by cases hu
 | .cons p v r,hr,u,hu=>by
  rw [flatP] at hu;rw [rngP] at hr;rcases List.mem_append.1 hu with hu | hu
  ·split at hu
   ·cases hu
   ·exact Bf v hr.2.2.1 u hu
  ·exact Bg r hr.2.2.2 u hu
end
theorem F9 {lev:List Wd->Int} {s:Sch}:∀ (ps:Pts) (k:Nat),rngP ps->∀ e∈edsP lev s ps k,sN e.cn
 | .nil,_,_,e,he=>by cases he
 | .cons p v r,k,hr,e,he=>by
  rw [edsP] at he;rw [rngP] at hr;rcases bp he with rfl | he
  ·exact hr.2.1
  ·exact F9 r _ hr.2.2.2 e he
def IV (n:Nd):Prop:=sN n.lo/\sN n.hi/\∀ e∈n.av,sN e.cn
theorem yN {S:Sch} (hr:SR S) {n:Nd} (h:n∈aM S):IV n:=by
 rw [j9] at h;obtain ⟨t,ht,u,hu,k,rfl⟩:=x9 h
 have h1:rngT t:=by
  rcases List.mem_append.1 ht with h | h
  ·obtain ⟨x,hx,rfl⟩:=List.mem_map.1 h;exact hr.1 x hx
  ·simp only [List.mem_singleton] at h;subst h;exact hr.2
 have h2:=Bf t h1 u hu;obtain ⟨uh,us⟩:=u;rw [rngT] at h2;exact ⟨h2.1,h2.2.1,F9 us _ h2.2.2.2⟩
end Go.Proofs.YtgjagnmeonoehaaGreat
namespace Go.Proofs.YtgjagnmeonoehaaGreat
namespace Dv
open Go Go.RowKit
section
variable {P:Program} {ops:Array Oper} {C:World->Prop} {Q:Act->World->Prop} {W:Nat->Bool} {x:Nat}
def runX (P:Program) (ops:Array Oper) (W:Nat->Bool) (C:World->Prop) (Q:Act->World->Prop) (x:Nat):List Nat->Act->World->Prop
 | [],a,w=>runT P ops W C Q [x] a w
 | i :: r,a,w=>
  match ops[i]? with
  | none=>False
  | some o=>
   if ordB ops ops.size x i=true then runT P ops W C Q (x :: i :: r) a w
   else if gT o.op=true then runT P ops W C Q (x :: i :: r) a w/\dN P ops o a w fun a' w'=>(W i=false->C w->C w')/\runX P ops W C Q x r a' w'
   else ∃ v,Yl P ops C o v a/\(mq o.op=true->C w)/\runX P ops W C Q x r (a.put o.dst v) w
theorem Ga {xo:Oper} (dt:∀ (j:Nat) (o:Oper) cs b,ops[j]? = some o->o.op ≠ .select cs b) (hx:ops[x]? = some xo) (Yy:gT xo.op=true) (hWx:∀ (j:Nat) (o:Oper),ops[j]? = some o->mq o.op=true->W x=false) :
  ∀ (rem:List Nat) (a:Act) (w:World),runX P ops W C Q x rem a w->(∀ j∈rem,∀ o,ops[j]? = some o->gT o.op=false->ordB ops ops.size x j=false->fH ops W x j=true) ->
   dN P ops xo a w (fun a' w'=>(W x=false->C w->C w')/\runT P ops W C Q rem a' w')
 | [],a,w,hr,_=>by
  simp only [runX,runT,hx,Yy,if_true] at hr;exact hr
 | i :: r,a,w,hr,qB=>by
  have adW:runT P ops W C Q (x :: i :: r) a w->dN P ops xo a w (fun a' w'=>(W x=false->C w->C w')/\runT P ops W C Q (i :: r) a' w'):=fun h=>by
   unfold runT at h;rw [hx] at h;simp only [Yy,if_true] at h;exact h
  cases ho:ops[i]? with
  | none=>simp only [runX,ho] at hr
  | some o=>
   simp only [runX,ho] at hr;by_cases hd:ordB ops ops.size x i=true
   ·rw [ai hd] at hr;exact adW hr
   ·rw [ah hd] at hr;by_cases he:gT o.op=true
    ·rw [ai he] at hr;exact adW hr.1
    ·rw [ah he] at hr;obtain ⟨v,hy,hc,ig⟩:=hr;have lR:ordB ops ops.size x i=false:=sU hd;have GB:gT o.op=false:=sU he;obtain ⟨GV,Nt,_,_⟩:=ez (qB i (by simp) o ho GB lR) hx ho;have zb:=fun cs b=>dt x xo cs b hx;have GA:=fun cs b=>dt i o cs b ho;have ih:=Ga dt hx Yy hWx r (a.put o.dst v) w ig (fun j hj=>qB j (dB _ hj));refine cz ?_ (jf ((j3 Nt zb).1 ih));rintro a' w' ⟨⟨pT,hr2⟩,u,rfl⟩;refine ⟨pT,?_⟩;simp only [runT,ho];rw [ah he];exact ⟨v,(Yl.same (u:=u) GV GA).2 hy,fun hL=>pT (hWx i o ho hL) (hc hL),hr2⟩
theorem tK {π:Nat->Nat} (dt:∀ (j:Nat) (o:Oper) cs b,ops[j]? = some o->o.op ≠ .select cs b) (r6:∀ j i x y,π j < π i->ops[i]? = some x->ops[j]? = some y->mq x.op=true->W j=false)
  {i:Nat} {o:Oper} (hi:ops[i]? = some o) (T9:∀ z,ops[x]? = some z->mq z.op=false) (TX:x≠i) (hnd:ordB ops ops.size x i=false) (zb:gT o.op=false->fH ops W x i=true) :
  ∀ (rem:List Nat) (a:Act) (w:World),(zj ops (x :: rem)->C w)->runX P ops W C Q x rem a w->i∈rem->(∀ j∈rem,j≠i->π j < π i->fH ops W j i=true)->(x :: rem).Pairwise (fun a b=>π a < π b) ->
   (gT o.op=true->∀ j∈rem,π j < π i->ordB ops ops.size x j=false) ->
   dN P ops o a w (fun a' w'=>(W i=false->C w->C w')/\runX P ops W C Q x (rem.erase i) a' w')
 | [],_,_,_,_,hm,_,_,_=>by cases hm
 | h :: rem,a,w,hC,hr,hm,qB,hp,hdp=>by
  by_cases px:h=i
  ·subst px;rw [List.erase_cons_head];simp only [runX,hi] at hr;rw [ah (by simp [hnd])] at hr;split at hr
   ·exact hr.2
   ·obtain ⟨v,hy,hc,ig⟩:=hr;exact gW hy hc ⟨fun _ h=>h,ig⟩
  ·have nE:i∈rem:=by
    rcases bp hm with e | e
    ·exact (px e.symm).elim
    ·exact e
   have sG:=List.pairwise_cons.1 hp;have DQ:=List.pairwise_cons.1 sG.2;have aq:π h < π i:=DQ.1 i nE;have hpr:(x :: rem).Pairwise (fun a b=>π a < π b):=List.pairwise_cons.2 ⟨fun y hy=>sG.1 y (dB _ hy),DQ.2⟩
   have Yz:gT o.op=false->∀ j∈x :: h :: rem,j≠i->π j < π i->fH ops W j i=true:=fun he j hj aQ hl=>by
    rcases bp hj with rfl | hj
    ·exact zb he
    ·exact qB j hj aQ hl
   have Ua:i∈x :: h :: rem:=dB _ hm
   have adX:(x :: h :: rem).erase i=x :: h :: rem.erase i:=by
    rw [List.erase_cons_tail (sU TX),List.erase_cons_tail (sU px)]
   rw [List.erase_cons_tail (sU px)];have N3:∀ j∈rem,j≠i->π j < π i->fH ops W j i=true:=fun j hj=>qB j (dB _ hj);have adY:gT o.op=true->∀ j∈rem,π j < π i->ordB ops ops.size x j=false:=fun he j hj=>hdp he j (dB _ hj)
   have hCt:zj ops (x :: rem)->C w:=fun hl=>hC (by
    obtain ⟨l,z,N4,hz,hL⟩:=hl;rcases bp N4 with rfl | N4
    ·exact ⟨l,z,by simp,hz,hL⟩
    ·exact ⟨l,z,by simp [N4],hz,hL⟩)
   cases hh:ops[h]? with
   | none=>simp only [runX,hh] at hr
   | some y=>
    obtain ⟨GV,Nt,hEE,hLW⟩:=ez (qB h (by simp) px aq) hh hi;have ZC:=fun cs b=>dt h y cs b hh;have GA:=fun cs b=>dt i o cs b hi;simp only [runX,hh] at hr;by_cases hd:ordB ops ops.size x h=true
    ·rw [ai hd] at hr
     have he:gT o.op=false:=by
      cases he:gT o.op
      ·rfl
      ·have:=hdp he h (by simp) aq;rw [hd] at this;cases this
     have aR:=gx dt r6 hi (x :: h :: rem) a w hC hr Ua (Yz he) hp;refine cz ?_ aR;rintro a' w' ⟨pT,hr2⟩;refine ⟨pT,?_⟩;simp only [runX,hh];rw [ai hd,<- adX];exact hr2
    ·rw [ah hd] at hr;by_cases hE:gT y.op=true
     ·rw [ai hE] at hr;obtain ⟨hl,hr⟩:=hr
      have he:gT o.op=false:=by
       cases he:gT o.op
       ·rfl
       ·exact (hEE ⟨hE,he⟩).elim
      obtain ⟨v,JF⟩:=ku (π:=π) dt hi he (x :: h :: rem) a w hl Ua (Yz he) hp;have WT:mq o.op=true->C w:=fun hL=>hC ⟨i,o,Ua,hi,hL⟩;have aR:=gx dt r6 hi (x :: h :: rem) a w hC hl Ua (Yz he) hp;have mM:=gY JF WT aR;refine gW JF WT ⟨fun _ h=>h,?_⟩;simp only [runX,hh];rw [ah hd,ai hE];refine ⟨by rw [<- adX];exact mM.2,?_⟩;refine (j3 Nt ZC).2 ?_;refine cz ?_ (jf hr);rintro a' w' ⟨⟨pT,ig⟩,u,rfl⟩;refine ⟨pT,?_⟩
      have WU:zj ops (x :: rem)->C w':=by
       intro qC;have RU:=qC;obtain ⟨l,z,N4,hz,hL⟩:=qC;refine pT ?_ (hCt RU);rcases bp N4 with e | N4
       ·rw [e] at hz;rw [T9 z hz] at hL;cases hL
       ·exact r6 h l z y (DQ.1 l N4) hz hh hL
      have ih:=tK dt r6 hi T9 TX hnd zb rem _ w' WU ig nE N3 hpr adY;have fy:=(Yl.same (u:=u) GV GA).2 JF;exact (gY fy (fun hL=>WU ⟨i,o,dB _ nE,hi,hL⟩) ih).2
     ·rw [ah hE] at hr;obtain ⟨v,JF,hc,ig⟩:=hr;have ih:=tK dt r6 hi T9 TX hnd zb rem (a.put y.dst v) w hCt ig nE N3 hpr adY;refine cz ?_ (jf ((j3 GV GA).1 ih));rintro a' w' ⟨⟨pT,hr2⟩,u,rfl⟩;refine ⟨pT,?_⟩;simp only [runX,hh];rw [ah hd,ah hE];refine ⟨v,(Yl.same (u:=u) Nt ZC).2 JF,fun hL=>?_,hr2⟩
      have hWi:W i=false:=by
       cases hw:W i
       ·rfl
       ·exact (hLW ⟨hL,hw⟩).elim
      exact pT hWi (hc hL)
def exX (ops:Array Oper) (x:Nat) (j i:Nat):Bool:=Nat.beq j x && (match ops[i]? with | some o=>gT o.op | none=>false)
def YA (ops:Array Oper) (x:Nat) (π:Nat->Nat):Bool:=
 (List.range ops.size).all fun i=>
  match ops[i]? with
  | none=>true
  | some o=>!gT o.op || Nat.beq i x || ordB ops ops.size x i || (List.range ops.size).all fun j=>Nat.beq j x || !Nat.blt (π j) (π i) || !ordB ops ops.size x j
theorem Rn {π:Nat->Nat} {xo:Oper} {Q':Exit->Act->World->Prop} (hx:ops[x]? = some xo) (Yy:gT xo.op=true) (T9:mq xo.op=false) (ZD:∀ j,j≠x->π x < π j) (Uz:qV ops W π=true) (WV:uM ops W π (exX ops x)=true) (hD:YA ops x π=true)
  (hQ:∀ a w,Q a w->Q' .normal a w):∀ (iO:Nat) (listed:Array Bool) (rem:List Nat) (a:Act) (w:World),
  listed.size=ops.size->Dn ops listed->listed.getD x true=false->(∀ i,i∈rem↔i≠x/\i < ops.size/\listed.getD i true=false)->(x :: rem).Pairwise (fun a b=>π a < π b)->rem.length + 1<=iO->(zj ops (x :: rem)->C w) ->
   runX P ops W C Q x rem a w->wpAny P .any ops Q' iO listed a w:=by
 have dt:=qX Uz;have r6:=qW Uz;have DL:=sB Uz;have hcS':=WV;have pw:=(Array.getElem?_eq_some_iff.1 hx).1
 have hWx:∀ (j:Nat) (o:Oper),ops[j]? = some o->mq o.op=true->W x=false:=fun j o hj hL=>by
  refine r6 x j o xo (ZD j ?_) hj hx hL;rintro rfl;rw [hx] at hj;simp only [oI] at hj;rw [<- hj,T9] at hL;cases hL
 simp only [uM,List.all_eq_true,List.mem_range,Bool.or_eq_true,Bool.not_eq_true'] at WV
 have zb:∀ (i:Nat) (o:Oper),ops[i]? = some o->i≠x->gT o.op=false->ordB ops ops.size x i=false->fH ops W x i=true:=fun i o ho aQ he hd=>by
  rcases WV i (Array.getElem?_eq_some_iff.1 ho).1 x pw with ((h1 | h1) | h1) | h1
  ·have:¬ Nat.blt (π x) (π i)=true:=by simp [h1]
   have:=ZD i aQ;simp at *;omega
  ·simp [exX,ho,he] at h1
  ·rw [hd] at h1;cases h1
  ·exact h1
 intro iO
 induction iO with
 | zero=>intro listed rem a w _ _ _ _ _ hlen;omega
 | succ iO ih=>
  intro listed rem a w bH RQ hxu ij hp hlen hC hr;have sG:=List.pairwise_cons.1 hp;have hnd:rem.Nodup:=nH sG.2;refine ⟨fun h0=>?_,fun i hi=>?_⟩
  ·have:x∈Region.ready .any ops listed:=by
    refine mem_ready.2 ⟨hxu,_,hx,fun e he hb=>?_⟩;obtain ⟨aq,DM⟩:=DL x _ hx e he hb;cases hg:listed.getD e.on false
    ·have aQ:e.on≠x:=fun h=>by rw [h] at aq;omega
     have:=ZD e.on aQ;omega
    ·rfl
   rw [h0] at this;cases this
  ·obtain ⟨DN,o,ho,gp⟩:=mem_ready.1 hi;have dY:=(Array.getElem?_eq_some_iff.1 ho).1
   have Ll:Dn ops (listed.setIfInBounds i true):=by
    intro k z hz hk e he hb;by_cases kj:k=i
    ·subst kj;rw [ho] at hz;simp only [oI] at hz;subst hz;exact getD_set_true (gp e he hb)
    ·rw [getD_set_ne true (Ne.symm kj)] at hk;exact getD_set_true (RQ k z hz hk e he hb)
   refine sF ho ?_;by_cases De:i=x
   ·subst De;rw [hx] at ho;simp only [oI] at ho;subst ho;have aR:=Ga dt hx Yy hWx rem a w hr (fun j hj o ho he hd=>zb j o ho ((ij j).1 hj).1 he hd);refine cz ?_ aR;rintro a' w' ⟨pT,ig⟩;refine mJ (C:=C) (exX ops i) Uz hcS' hQ iO _ rem a' w' (by simp [bH]) Ll ?_ sG.2 (by omega) ?_ ?_ ig
    ·intro k;rw [ij k];by_cases kj:k=i
     ·subst kj;simp [bH,dY]
     ·rw [getD_set_ne true (Ne.symm kj)];simp [kj]
    ·intro j hj k _;have:=((ij j).1 hj).1;simp [exX,this]
    ·rintro ⟨l,z,hl,hz,hL⟩;exact pT (hWx l z hz hL) (hC ⟨l,z,dB _ hl,hz,hL⟩)
   ·have mv:i∈rem:=(ij i).2 ⟨De,dY,DN⟩
    have ik:∀ j,j < ops.size->listed.getD j true=false->ordB ops ops.size j i=false:=by
     intro j hj hu;cases h1:ordB ops ops.size j i
     ·rfl
     ·have h2:=kV RQ _ _ _ _ ho gp h1;have:j < listed.size:=by rw [bH];exact hj
      simp [this] at h2 hu;rw [h2] at hu;cases hu
    have YB:=ik x pw hxu
    have qB:∀ j∈rem,j≠i->π j < π i->fH ops W j i=true:=by
     intro j hj _ aq;have gU:=(ij j).1 hj;rcases WV i dY j gU.2.1 with ((h1 | h1) | h1) | h1
     ·have:¬ Nat.blt (π j) (π i)=true:=by simp [h1]
      simp at this;omega
     ·simp [exX,gU.1] at h1
     ·rw [ik j gU.2.1 gU.2.2] at h1;cases h1
     ·exact h1
    have hdp:gT o.op=true->∀ j∈rem,π j < π i->ordB ops ops.size x j=false:=by
     intro he j hj aq;simp only [YA,List.all_eq_true,List.mem_range] at hD;have h1:=hD i dY;rw [ho] at h1;simp only [he,YB,Bool.not_true,Bool.false_or,Bool.or_false,Bool.or_eq_true,List.all_eq_true,List.mem_range,Bool.not_eq_true',Nat.beq_eq] at h1;rcases h1 with h1 | h1
     ·exact (De h1).elim
     ·have gU:=(ij j).1 hj;rcases h1 j gU.2.1 with (h2 | h2) | h2
      ·exact (gU.1 h2).elim
      ·have:¬ Nat.blt (π j) (π i)=true:=by simp [h2]
       simp at this;omega
      ·exact h2
    have aR:=tK (π:=π) dt r6 ho (fun z hz=>by rw [hx] at hz;simp only [oI] at hz;rw [<- hz];exact T9) (Ne.symm De) YB (fun he=>zb i o ho De he YB) rem a w hC hr mv qB hp hdp;refine cz ?_ aR;rintro a' w' ⟨pT,ig⟩;have TX:=getD_set_ne (listed:=listed) true De;refine ih (listed.setIfInBounds i true) (rem.erase i) a' w' (by simp [bH]) Ll (by rw [TX];exact hxu) ?_ (List.pairwise_cons.2 ⟨fun y hy=>sG.1 y (List.mem_of_mem_erase hy),sG.2.sublist List.erase_sublist⟩) (by rw [List.length_erase_of_mem mv];have:=List.length_pos_of_mem mv;omega) ?_ ig
    ·intro k;rw [List.Nodup.mem_erase_iff hnd];by_cases kj:k=i
     ·subst kj;simp [bH,dY]
     ·rw [getD_set_ne true (Ne.symm kj)];simp only [ne_eq,kj,not_false_eq_true,true_and];exact ij k
    ·rintro ⟨l,z,hl,hz,hL⟩
     have hlx:l≠x:=by
      rintro rfl;rw [hx] at hz;simp only [oI] at hz;rw [<- hz,T9] at hL;cases hL
     have hl:l∈rem.erase i:=by
      rcases bp hl with h | h
      ·exact (hlx h).elim
      ·exact h
     have qC:=List.mem_of_mem_erase hl;have aQ:l≠i:=((List.Nodup.mem_erase_iff hnd).1 hl).1;have WX:=hC ⟨l,z,dB _ qC,hz,hL⟩;refine pT ?_ WX;rcases wa sG.2 mv qC aQ.symm with h1 | h1
     ·exact r6 i l z o h1 hz ho hL
     ·have:=qB l qC aQ h1;obtain ⟨_,_,_,h4⟩:=ez this hz ho;cases hw:W i
      ·rfl
      ·exact (h4 ⟨hL,hw⟩).elim
theorem Bh {π:Nat->Nat} (dt:∀ (j:Nat) (o:Oper) cs b,ops[j]? = some o->o.op ≠ .select cs b) (r6:∀ j i x y,π j < π i->ops[i]? = some x->ops[j]? = some y->mq x.op=true->W j=false)
  (zb:∀ (i:Nat) (o:Oper),ops[i]? = some o->i≠x->gT o.op=false->ordB ops ops.size x i=false->fH ops W x i=true) :
  ∀ (l:List Nat) (a:Act) (w:World),(zj ops (x :: l)->C w)->runT P ops W C Q (x :: l) a w->(∀ i∈l,i≠x/\∃ o,ops[i]? = some o/\(ordB ops ops.size x i=true∨gT o.op=false))->(x :: l).Pairwise (fun a b=>π a < π b)->runX P ops W C Q x l a w
 | [],a,w,_,h,_,_=>by simpa only [runX] using h
 | i :: r,a,w,hC,h,hl,hp=>by
  obtain ⟨aQ,o,ho,Sp⟩:=hl i (by simp);simp only [runX,ho];by_cases hd:ordB ops ops.size x i=true
  ·rw [ai hd];exact h
  ·rw [ah hd]
   have he:gT o.op=false:=by
    rcases Sp with h | h
    ·exact (hd h).elim
    ·exact h
   rw [ah (by simp [he])];have lR:ordB ops ops.size x i=false:=sU hd;have sG:=List.pairwise_cons.1 hp;have DQ:=List.pairwise_cons.1 sG.2
   have qB:∀ j∈x :: i :: r,j≠i->π j < π i->fH ops W j i=true:=fun j hj RO aq=>by
    rcases bp hj with rfl | hj
    ·exact zb i o ho aQ he lR
    ·rcases bp hj with rfl | hj
     ·exact (RO rfl).elim
     ·have:=DQ.1 j hj;omega
   have WT:mq o.op=true->C w:=fun hL=>hC ⟨i,o,by simp,ho,hL⟩;obtain ⟨v,hy⟩:=ku (π:=π) dt ho he _ a w h (by simp) qB hp;have aR:=gx dt r6 ho _ a w hC h (by simp) qB hp;have hk:=(gY hy WT aR).2;rw [List.erase_cons_tail (by simpa using Ne.symm aQ),List.erase_cons_head] at hk;refine ⟨v,hy,WT,Bh dt r6 zb r _ w (fun hl=>?_) hk (fun j hj=>hl j (dB _ hj)) (List.pairwise_cons.2 ⟨fun y hy=>sG.1 y (dB _ hy),DQ.2⟩)⟩;obtain ⟨l,z,N4,hz,hL⟩:=hl;refine hC ⟨l,z,?_,hz,hL⟩;rcases bp N4 with h | h
   ·simp [h]
   ·simp [h]
end
theorem yO {ops:Array Oper}:∀ {l:List Nat},(∀ i∈l,i < ops.size)->(selL ops.toList l).map (·.1)=l
 | [],_=>rfl
 | i :: r,h=>by
  have hi:ops.toList[i]? = some (ops[i]'(h i (by simp))):=by
   rw [gE (by simpa using h i (by simp))];simp
  unfold selL;rw [hi];simp only [List.map_cons];rw [yO fun j hj=>h j (dB _ hj)]
def goX (X:Ctx) (D:Dr) (x:Nat) (tail:List Nat):List Nat->Bool->List (Nat × Sl)->St->Prop
 | [],c,s0,st=>
  match c with
  | true=>goD X D 3000 true (selL D.ops.toList (x :: tail)) s0 st
  | false=>False
 | i :: r,c,s0,st=>
  match D.ops.toList[i]? with
  | none=>False
  | some o=>
   match gT o.op with
   | true=>goD X D 3000 c (selL D.ops.toList (x :: i :: (r ++ tail))) s0 st/\goD X ⟨D.ops,D.W,D.k,D.jP,some (goX X D x tail r)⟩ 3000 c [(i,o)] s0 st
   | false=>goD X ⟨D.ops,D.W,D.k,D.jP,some (goX X D x tail r)⟩ 3000 c [(i,o)] s0 st
def adZ (ops:Array Oper) (W:Nat->Bool) (x:Nat) (pre tail:List Nat):Bool:=
 G3 ops (x :: (pre ++ tail)) && qV ops W (plc (x :: (pre ++ tail))) && uM ops W (plc (x :: (pre ++ tail))) (exX ops x) && YA ops x (plc (x :: (pre ++ tail))) &&
  (match ops[x]? with | some o=>gT o.op && !mq o.op | none=>false) && pre.all (fun i=>!ordB ops ops.size x i) && tail.all (fun i=>match ops[i]? with | some o=>ordB ops ops.size x i || !gT o.op | none=>false)
section
variable {X:Ctx} {D:Dw} {x:Nat} {tail:List Nat} {π:Nat->Nat}
theorem Bi (hD:sC D.E0 D.d.jP.bx D.wr) (dt:∀ (j:Nat) (o:Oper) cs b,D.d.ops[j]? = some o->o.op ≠ .select cs b) (r6:∀ j i x y,π j < π i->D.d.ops[i]? = some x->D.d.ops[j]? = some y->mq x.op=true->D.d.W j=false)
  (zb:∀ (i:Nat) (o:Oper),D.d.ops[i]? = some o->i≠x->gT o.op=false->ordB D.d.ops D.d.ops.size x i=false->fH D.d.ops D.d.W x i=true)
  (fi:∀ i∈tail,i≠x/\∃ o,D.d.ops[i]? = some o/\(ordB D.d.ops D.d.ops.size x i=true∨gT o.op=false)) (pw:x < D.d.ops.size):∀ (pre:List Nat),(∀ i∈pre,i < D.d.ops.size/\ordB D.d.ops D.d.ops.size x i=false)->(x :: (pre ++ tail)).Pairwise (fun a b=>π a < π b) ->
  ∀ c s0 st,goX X D.d x tail pre c s0 st->∀ E a w,fx X D c E s0 st a w->runX X.P D.d.ops D.d.W D.C (D.Q X) x (pre ++ tail) a w
 | [],_,hp,c,s0,st,hg,E,a,w,h=>by
  have htl2:∀ i∈x :: tail,i < D.d.ops.size:=fun i hi=>by
   rcases bp hi with rfl | hi
   ·exact pw
   ·obtain ⟨_,o,ho,_⟩:=fi i hi;exact (Array.getElem?_eq_some_iff.1 ho).1
  simp only [goX] at hg;split at hg
  ·have h1:=dK hD 3000 true _ _ _ hg (fun p hp=>by simpa using wi hp) E a w h;rw [yO htl2] at h1;exact Bh dt r6 zb tail a w (fun _=>h.cc rfl) h1 fi hp
  ·exact hg.elim
 | i :: r,tM,hp,c,s0,st,hg,E,a,w,h=>by
  obtain ⟨his,hnd⟩:=tM i (by simp);have ho:D.d.ops[i]? = some D.d.ops[i]:=Array.getElem?_eq_getElem his;have kO:D.d.ops.toList[i]? = some D.d.ops[i]:=sU ho;have sG:=List.pairwise_cons.1 hp;have DQ:=List.pairwise_cons.1 sG.2
  have gp:∀ j∈x :: i :: (r ++ tail),j < D.d.ops.size:=fun j hj=>by
   rcases bp hj with rfl | hj
   ·exact pw
   ·rcases bp hj with rfl | hj
    ·exact his
    ·rcases List.mem_append.1 hj with hj | hj
     ·exact (tM j (by simp [hj])).1
     ·obtain ⟨_,o,ho,_⟩:=fi j hj;exact (Array.getElem?_eq_some_iff.1 ho).1
  have ih:=Bi hD dt r6 zb fi pw r (fun j hj=>tM j (by simp [hj])) (List.pairwise_cons.2 ⟨fun y hy=>sG.1 y (dB _ hy),DQ.2⟩);generalize D.d.ops[i]=o at ho kO
  have tF:∀ c s0 st,goD X ⟨D.d.ops,D.d.W,D.d.k,D.d.jP,some (goX X D.d x tail r)⟩ 3000 c [(i,o)] s0 st->fx X D c E s0 st a w->runT X.P D.d.ops D.d.W D.C (fun a w=>runX X.P D.d.ops D.d.W D.C (D.Q X) x (r ++ tail) a w) [i] a w:=fun c s0 st hg h=>by
   have h1:=dK (D:=⟨⟨D.d.ops,D.d.W,D.d.k,D.d.jP,some (goX X D.d x tail r)⟩,D.E0,D.wr⟩) hD 3000 c [(i,o)] s0 st hg (fun p hp=>by
    rw [List.mem_singleton] at hp;rw [hp]
    exact ho) E a w ⟨h.rel,h.x,h.β,h.t0,h.cc⟩
   refine lS ?_ h1;rintro a w ⟨c,E,s0,st,h2,h3⟩;exact ih c s0 st h3 E a w ⟨h2.rel,h2.x,h2.β,h2.t0,h2.cc⟩
  simp only [goX,kO] at hg;simp only [List.cons_append,runX,ho];rw [ah (by simp [hnd])];split at hg
  ·rename_i hE;obtain ⟨h1,h2⟩:=hg;rw [ai hE];have h3:=dK hD 3000 c _ _ _ h1 (fun p hp=>by simpa using wi hp) E a w h;rw [yO gp] at h3;refine ⟨h3,?_⟩;have h4:=tF c s0 st h2 h;simp only [runT,ho,hE,if_true] at h4;exact h4
  ·rename_i hE;rw [ah (by simp [hE])];have h4:=tF c s0 st hg h;simp only [runT,ho,hE,Bool.false_eq_true,if_false] at h4;exact h4
theorem Ro (x:Nat) (l:List Nat):plc (x :: l) x=0:=by simp [plc]
theorem Ub {x j:Nat} (l:List Nat) (h:j≠x):0 < plc (x :: l) j:=by
 have:Nat.beq x j=false:=by
  cases hb:Nat.beq x j
  ·rfl
  ·exact (h (Nat.eq_of_beq_eq_true hb).symm).elim
 simp [plc,this]
theorem uY {s S:St} (h:fm s S:=by refine ⟨rfl,rfl,?_⟩;repeat' (first | exact trivial | refine ⟨rfl,?_⟩)):s=S∨fm s S:=.inr h
theorem K2 {id:Nat} {ops:Array Oper} {k:List It} {st:St} (W:Nat->Bool) (x:Nat) (pre tail:List Nat) (hm:X.P.follows .mixedOrders=true) (hc:adZ ops W x pre tail=true) (S:St)
  (h:goX X ⟨ops,W,[.vJ fun s=>s=S∨fm s S],st,none⟩ x tail pre true st.sl st) (hk:go X 4000 k S):kQ X id ops k st:=by
 intro E a w hr;have ig:=km hr;simp only [adZ,aD] at hc;obtain ⟨⟨⟨⟨⟨⟨hL,hO⟩,hS⟩,hDD⟩,hX⟩,tM⟩,Gb⟩:=hc
 cases RK:ops[x]? with
 | none=>rw [RK] at hX;cases hX
 | some xo=>
 rw [RK] at hX;simp only [aD,Bool.not_eq_true'] at hX;obtain ⟨Yy,T9⟩:=hX;simp only [G3,aD,List.all_eq_true,Nat.blt_eq,Nat.ble_eq,beq_iff_eq,List.mem_range] at hL;obtain ⟨⟨⟨⟨_,UC⟩,h1c⟩,hlen⟩,h1d⟩:=hL;have hp:=qY h1d;have sG:=List.pairwise_cons.1 hp;have dt:=qX hO;have r6:=qW hO
 have ZD:∀ j,j≠x->plc (x :: (pre ++ tail)) x < plc (x :: (pre ++ tail)) j:=fun j hj=>by
  rw [Ro];exact Ub _ hj
 have pw:=(Array.getElem?_eq_some_iff.1 RK).1;have hS':=hS;simp only [uM,List.all_eq_true,List.mem_range,Bool.or_eq_true,Bool.not_eq_true'] at hS'
 have zb:∀ (i:Nat) (o:Oper),ops[i]? = some o->i≠x->gT o.op=false->ordB ops ops.size x i=false->fH ops W x i=true:=fun i o ho aQ he hd=>by
  rcases hS' i (Array.getElem?_eq_some_iff.1 ho).1 x pw with ((h1 | h1) | h1) | h1
  ·have:¬ Nat.blt (plc (x :: (pre ++ tail)) x) (plc (x :: (pre ++ tail)) i)=true:=by simp [h1]
   have:=ZD i aQ;simp at *;omega
  ·simp [exX,ho,he] at h1
  ·rw [hd] at h1;cases h1
  ·exact h1
 have aQ:∀ i∈pre ++ tail,i≠x:=fun i hi e=>by
  have:=sG.1 i hi;rw [e] at this;omega
 have hs:=mN ig (ops:=ops) (W:=W) (k:=[.vJ fun s=>s=S∨fm s S])
 have bU:=Bi (D:=⟨⟨ops,W,[.vJ fun s=>s=S∨fm s S],st,none⟩,E,w.drew⟩) ig.env.em dt r6 zb (fun i hi=>by
  refine ⟨aQ i (List.mem_append_right _ hi),?_⟩;have:=List.all_eq_true.1 Gb i hi
  cases ho:ops[i]? with
  | none=>rw [ho] at this;cases this
  | some o=>
   rw [ho] at this;simp only [Bool.or_eq_true,Bool.not_eq_true'] at this;exact ⟨o,rfl,this⟩) pw pre (fun i hi=>by
  refine ⟨h1c i (by simp [hi]),?_⟩;have:=List.all_eq_true.1 tM i hi
  simpa using this) hp true st.sl st h E a w.drew hs
 refine wp_region_any hm ?_;refine Rn (C:=CC E st.bx w.drew) (Q:=kq X [.vJ fun s=>s=S∨fm s S] .normal) (π:=plc (x :: (pre ++ tail))) RK Yy T9 ZD hO hS hDD (fun a w hq=>?_) ops.size (Array.replicate ops.size false) (pre ++ tail) a _ (by simp) ?_ (by simp [pw]) ?_ hp ?_ (fun _=>hs.cc rfl) bU
 ·obtain ⟨qD,E1,bM,hJ⟩:=hq;rcases hJ with rfl | hJ
  ·exact go_sound 4000 _ _ hk E1 a w bM
  ·exact go_sound 4000 _ _ hk E1 a w (wm bM hJ)
 ·intro i o ho hl;have:i < ops.size:=(Array.getElem?_eq_some_iff.1 ho).1;simp [this] at hl
 ·intro i;constructor
  ·intro hi;have:=h1c i (by simp [List.mem_append.1 hi]);exact ⟨aQ i hi,this,by simp [this]⟩
  ·rintro ⟨h1,h2,_⟩;have:=UC i h2;have h4:i=x∨i∈pre ++ tail:=sU this;exact h4.resolve_left h1
 ·simp only [List.length_cons] at hlen;exact hlen
end
end Dv
end Go.Proofs.YtgjagnmeonoehaaGreat
set_option maxRecDepth 100000
namespace Go.Proofs.YtgjagnmeonoehaaGreat
open Go Go.RowKit Dv Go.Proofs.Tryz
abbrev wL (lv:List Wd) (f:Nat->Nat->Bool) (ND:List Nd) (z:Int):List DV:=[.sl 2 (bJ lv) none,.sl 1 (dj (dW lv.length f)) none,.sl 7 (dD ND) none,.v (.int .i64 z)]
theorem IW (d:Nd) (e:Ed) (s:ch):EvP prog 232 [.agg (jt d),.agg (uV e),.agg (lH s)] (.v (.bool (IB d s e))):=by
 obtain ⟨ag,aG,lo,hi,most,af,es⟩:=d;obtain ⟨en,eb,ea,et,vB,ew,lL,yP,yQ,tN⟩:=e;obtain ⟨k,n,t⟩:=s
 have hF:IB ⟨ag,aG,lo,hi,most,af,es⟩ ⟨k,n,t⟩ ⟨en,eb,ea,et,vB,ew,lL,yP,yQ,tN⟩=if k=1 then decide (ag=7) && decide (en=t)
  else if k=5 then decide (ag=8) && decide (en=t) && !eb
  else if k=2 then decide (ag=5) && decide (n < most)
  else if k=3 then decide (ag=5) && decide (0 < most)
  else decide (ag=6):=rfl
 generalize IB ⟨ag,aG,lo,hi,most,af,es⟩ ⟨k,n,t⟩ ⟨en,eb,ea,et,vB,ew,lL,yP,yQ,tN⟩=F at hF ⊢;refine eG 63 [.tmp 6] func232 rfl ntmps232 rfl fun _ _ _ _=>?_;refine br ?_ ?_<;>intro c
 ·have c:k=1:=sU c;rw [ai c] at hF;refine (aae ?_:);rw [hF];simp only [pickB_and]
 have c1:¬ k=1:=sU c;rw [ah c1] at hF;refine br ?_ ?_<;>intro c
 ·have c:k=5:=sU c;rw [ai c] at hF;refine (aae ?_:);rw [hF];simp only [pickB_and]
 have c5:¬ k=5:=sU c;rw [ah c5] at hF;refine br ?_ ?_<;>intro c
 ·have c:k=2:=sU c;rw [ai c] at hF;refine (aae ?_:);rw [hF];simp only [pickB_and]
 have c2:¬ k=2:=sU c;rw [ah c2] at hF;refine br ?_ ?_<;>intro c
 ·have c:k=3:=sU c;rw [ai c] at hF;refine (aae ?_:);rw [hF];simp only [pickB_and]
 have c3:¬ k=3:=sU c;rw [ah c3] at hF;refine (aae ?_:);rw [hF]
def estW (ND:List Nd) (f:Nat->Nat->Bool) (n:Nat) (s:ch) (i a:Nat):Option (Nat × Nat):=match ND[i]? with
 | none=>none
 | some d=>match yC d s with
  | none=>none
  | some k=>match d.av[k]? with
   | none=>none
   | some e=>some (e.to.toNat,uv f n a e.label.toNat)
theorem walkV_drop (ND:List Nd) (f:Nat->Nat->Bool) (n:Nat) (p:List ch) (e i a:Nat):walkV ND f n (p.drop e) i a=match p[e]? with
  | none=>some (i,a)
  | some s=>match estW ND f n s i a with
   | none=>none
   | some (j,b)=>walkV ND f n (p.drop (e + 1)) j b:=by
 cases hs:p[e]? with
 | none=>rw [List.drop_eq_nil_of_le (List.getElem?_eq_none_iff.1 hs)];all_goals rfl
 | some s=>
  obtain ⟨h1,h2⟩:=List.getElem?_eq_some_iff.1 hs;rw [List.drop_eq_getElem_cons h1,h2,walkV];simp only [estW]
  cases hd:ND[i]? with
  | none=>rfl
  | some d=>
   simp only
   cases hk:yC d s with
   | none=>rfl
   | some k=>
    simp only
    cases he:d.av[k]? with
    | none=>rfl
    | some x=>rfl
theorem Uc {f:Nat->Nat->Bool} {L:Nat} (hL:fk f L) {ND:List Nd} (bZ:∀ n∈ND,eD L ND.length n) {s:ch} {i a j b:Nat} (hi:i < ND.length) (ha:a < L) (h:estW ND f L s i a=some (j,b)):j < ND.length/\b < L:=by
 have hw:=walkV_drop ND f L [s] 0 i a;simp only [List.getElem?_cons_zero,h] at hw;exact FL hL bZ [s] i a hi ha hw
def ad0 (o:Option (Nat × Nat)):DV:=match o with
 | some (j,b)=>.tup [.agg [.v (.int .i64 (j:Nat)),.v (.int .i64 (b:Nat))],.v (.bool true)]
 | none=>.tup [.agg [.v (.int .i64 0),.v (.int .i64 0)],.v (.bool false)]
abbrev ad1 (PC:List DV) (i a:Nat) (s:ch) (d:Nd) (e:Nat):St:=
 ⟨[aam 0 PC,aab 4 0,aab 5 1,aab 6 2,aab 8 3,aad 20 10 (fU d.av),aaa 21 ((fU d.av).length),aaa 22 e],
  [[.v (.int .i64 i),.v (.int .i64 a)],lH s,[.v (.int .i64 0),.v (.int .i64 0)],jt d],[]⟩
theorem IX {S:Sch} {ND:List Nd} {PC:List DV} (hP:fw S ND PC) (s:ch) (hr:dR s=true) (i a:Nat) (hi:i < ND.length) (ha:a < S.ae.length) :
  EvP prog 167 [.pt PC 0,.agg [.v (.int .i64 i),.v (.int .i64 a)],.agg (lH s)] (ad0 (estW ND (bL S) S.ae.length s i a)):=by
 obtain ⟨LC,nh,hLR⟩:=hP.TS;obtain ⟨d,hd⟩:∃ d,ND[i]? = some d:=⟨_,gE hi⟩;have hN:=hP.ok d (mG hd);have ep:=hP.aj i d hd
 have kL:d.av.length<=1099511627776:=by
  have:=ma (S:=S) (n:=d) (by rw [<- hP.Ck];exact mG hd) hP.wt;exact this.2
 have hjn:=fun b hb=>hLR.join a b ha hb
 have hW:estW ND (bL S) S.ae.length s i a=match bX (A9 d s) d.av.length with
  | none=>none
  | some k=>match d.av[k]? with
   | none=>none
   | some e=>some (e.to.toNat,uv (bL S) S.ae.length a e.label.toNat):=by
  unfold estW;simp only [hd,yC,ai hr]
 have hPe:∀ (e:Nat) x,d.av[e]? = some x->A9 d s e=IB d s x:=fun e x h=>by
  rw [KM hN hr (mG h)];unfold A9;rw [h]
 have Sd:=fun x=>IW d x s;have zw:=fun (e:Ed) (he:e∈d.av) (h:yB d s e=true)=>And.intro ((ic hN he).1 (yD hN he h)) (ic hN he).2.1;have Np:=fun x hx=>KM hN hr (e:=x) hx;generalize estW ND (bL S) S.ae.length s i a=R at hW ⊢;generalize A9 d s=pE at hW hPe;generalize uv (bL S) S.ae.length a=jn at hW hjn;obtain ⟨ag,aG,lo,dY,most,af,es⟩:=d;obtain ⟨k,n,t⟩:=s;have bz:=cm es;simp only at hW hPe kL;refine eG 42 [.cell 6 272,.tmp 7] func167 rfl ntmps167 rfl fun _ _ _ _=>?_;refine cP sI ep ?_;refine lI (fun j st=>∃ e:Nat,st=ad1 PC i a ⟨k,n,t⟩ ⟨ag,aG,lo,dY,most,af,es⟩ e/\e<=es.length/\(∀ c,c < e->pE c=false)/\j=es.length - e) ⟨0,rfl,by omega,fun _ h=>by omega,rfl⟩ (wkM wB) ?_;rintro j st ⟨e,rfl,he,eW,rfl⟩;refine br ?_ ?_<;>intro hL
 ·have aq:e < es.length:=sV bz hL;obtain ⟨x,hx⟩:=gX aq;have hPx:=hPe e x hx;have hfx:=Sd x;have Bj:=mG hx;have GD:=zw x Bj;have YC:=Np x Bj
  cases hv:IB ⟨ag,aG,lo,dY,most,af,es⟩ ⟨k,n,t⟩ x with
  | true=>
   rw [hv] at hPx hfx YC;obtain ⟨⟨h1,_⟩,h2,h3⟩:=GD YC.symm;rw [cR aq hPx eW] at hW;simp only [hx] at hW;clear zw Np GD YC Sd;obtain ⟨en,eb,ea,et,vB,ew,lL,yP,yQ,tN⟩:=x;simp only at h1 h2 h3;obtain ⟨lb,rfl⟩:∃ n:Nat,vB=n:=⟨_,h2⟩;obtain ⟨tn,rfl⟩:∃ n:Nat,et=n:=⟨_,h1⟩;simp only [iW] at h3 hW;have hj:=hjn lb h3;subst hW;refine iX (bi hx) ?_;refine cP U3 hfx ?_;refine dS ?_;refine cD SG nh ?_;refine cD JS hj ?_;exact ⟨_,ax,rfl⟩
  | false=>
   rw [hv] at hPx hfx;obtain ⟨en,eb,ea,et,vB,ew,lL,yP,yQ,tN⟩:=x;refine iX (bi hx) ?_;refine cP U3 hfx ?_
   exact rE ⟨_,by omega,e + 1,rfl,by omega,fun c hc=>by
    rcases iM hc with h | h
    ·exact eW c h
    ·rw [h];exact hPx,rfl⟩ (QT 4 (nG (nxt aq (by omega))) (wB1 (nxt aq (by omega))))
 ·have aS:e=es.length:=sW bz hL;subst aS;rw [dn eW] at hW;simp only at hW;subst hW;exact ⟨_,ax,rfl⟩
def Gc (o:Option (Nat × Nat)):DV:=match o with
 | some (j,b)=>.tup [.v (.int .i64 (j:Nat)),.v (.int .i64 (b:Nat)),.v (.bool true)]
 | none=>.tup [.v (.int .i64 (-1)),.v (.int .i64 (-1)),.v (.bool false)]
abbrev ad3 (PC:List DV) (p:List ch) (i a e:Nat):St:=
 ⟨[aam 0 PC,aab 7 0,aad 18 3 (bm p),aaa 19 ((bm p).length),aaa 20 e],[[.v (.int .i64 i),.v (.int .i64 a)]],[]⟩
theorem yR {S:Sch} {ND:List Nd} {PC:List DV} (hP:fw S ND PC) (p:List ch) (hp:p.length<=1099511627776) (hs:∀ s∈p,s.s.size<=4611686018427387904) (rt:Nat) (zc:dV S=rt) (gV:rt < ND.length) :
  EvP prog 87 [.pt PC 0,.sl 3 (bm p) none] (Gc (walkV ND (bL S) S.ae.length p rt (po (bL S) S.ae.length))):=by
 obtain ⟨LC,nh,hLR⟩:=hP.TS;have gC:=hP.root;rw [zc] at gC;have EF:=hLR.bot;have hbl:=CM hLR.ok;have aR:=fun s hr i a hi ha=>IX hP s hr i a hi ha;have Zt:=walkV_drop ND (bL S) S.ae.length p;have bZ:=fun {s i a j b}=>@Uc _ _ hLR.ok _ hP.ok s i a j b;have bz:=fl p
 have JA:∀ s i a,dR s=false->estW ND (bL S) S.ae.length s i a=none:=fun s i a h=>by
  unfold estW
  cases ND[i]? with
  | none=>rfl
  | some d=>simp [yC,h]
 generalize hR:walkV ND (bL S) S.ae.length p rt (po (bL S) S.ae.length)=R;have VK:walkV ND (bL S) S.ae.length (p.drop 0) rt (po (bL S) S.ae.length)=R:=by rw [List.drop_zero];exact hR
 clear hR;generalize po (bL S) S.ae.length=bt at EF hbl VK;refine eG 42 [.tmp 4,.tmp 5,.tmp 6] func87 rfl ntmps87 rfl fun _ _ _ _=>?_;refine cP Oc gC ?_;refine cP SG nh ?_;refine cP Xa EF ?_;refine lI (fun j st=>∃ e i a:Nat,st=ad3 PC p i a e/\e<=p.length/\i < ND.length/\a < S.ae.length/\walkV ND (bL S) S.ae.length (p.drop e) i a=R/\j=p.length - e) ⟨0,rt,bt,rfl,by omega,gV,hbl,VK,rfl⟩ (wkM wB) ?_;rintro j st ⟨e,i,a,rfl,he,hi,ha,hw,rfl⟩;rw [Zt] at hw;refine br ?_ ?_<;>intro hL
 ·have aq:e < p.length:=sV bz hL;obtain ⟨x,hx⟩:=gX aq;have pw:=hs x (mG hx);have hr:=ux [x] (sU pw);rw [IA] at hr;rw [hx] at hw;simp only at hw
  cases um:dR x with
  | false=>
   rw [JA x i a um] at hw;simp only at hw;subst hw;rw [um] at hr;obtain ⟨xk,xn,xt⟩:=x;refine iX (fW hx) ?_;refine cP JR hr ?_;exact ⟨_,ax,rfl⟩
  | true=>
   have zb:=aR x um i a hi ha;have hkx:=@bZ x i a;rw [um] at hr;generalize estW ND (bL S) S.ae.length x i a=o at hw zb hkx;obtain ⟨xk,xn,xt⟩:=x;refine iX (fW hx) ?_;refine cP JR hr ?_;refine cP aa3 zb ?_
   cases o with
   | none=>
    simp only at hw;subst hw;exact ⟨_,ax,rfl⟩
   | some r=>
    obtain ⟨j,b⟩:=r;simp only at hw;obtain ⟨h1,h2⟩:=hkx hi ha rfl;exact rE ⟨_,by omega,e + 1,j,b,rfl,by omega,h1,h2,hw,rfl⟩ (QT 1 (nG (nxt aq (by omega))) (wB1 (nxt aq (by omega))))
 ·have aS:p.length<=e:=sV bz hL;rw [dA aS] at hw;simp only at hw;subst hw;refine dI ?_;exact ⟨_,ax,rfl⟩
theorem Gd {S:Sch} (hF:xZ S) {i:Nat} {n:Nd} (h:(aM S)[i]? = some n) {e:Ed} (he:e∈n.av) (hb:e.bare=true):e.ck=0:=by
 have A5:=(tA hF h).bare e he hb;rw [j9] at h;obtain ⟨t,ht,u,hu,rfl,kN⟩:=x8 h;have L8:=x6 t ⟨_,_,hF.wr t ht⟩ u hu;have hT:=H9 L8;obtain ⟨uh,us⟩:=u;simp only [Ty.h,Ty.ps] at hT;obtain ⟨p,v,k',h1,rfl,_⟩:=rH he;obtain ⟨j,hj⟩:=List.mem_iff_getElem?.1 h1;obtain ⟨_,hP⟩:=(hT.many (.inr A5)).2.2 j p v hj;rcases hP with ⟨_,_,_,iJ⟩ | ⟨eC,_⟩
 ·exact (o6 iJ).2.2.1
 ·have:p.bare=true:=hb;rw [eC] at this;cases this
def K3 (ck:Int):Int:=if ck=3 then 5 else if ck=2 then 3 else 2
def IY (f:Nat->Nat->Bool) (ND:List Nd) (e:Ed):Prop:=e.ck≠0->(∃ m,ND[e.to.toNat]? = some m/\m.ag=K3 e.ck)/\f e.seen.toNat e.label.toNat=true/\f e.label.toNat e.seen.toNat=false
def Rp (f:Nat->Nat->Bool) (ND:List Nd):Prop:=∀ n∈ND,∀ e∈n.av,IY f ND e
abbrev ad4 (W:List DV) (e:Nat):St:=⟨[aab 1 0,aab 2 1,aaa 3 e],[W,[.v (.int .i64 0),.v (.int .i64 0)]],[]⟩
abbrev YD (W:List DV) (es:List Ed) (e k:Nat):St:=⟨[aab 1 0,aab 2 1,aaa 3 e,aad 4 10 (fU es),aaa 5 k],[W,[.v (.int .i64 0),.v (.int .i64 0)]],[]⟩
def W20Φ (f:Nat->Nat->Bool) (ND:List Nd) (r:DV):Prop:=∃ ft:Ft,r=ft.d/\(ft.1=0->Rp f ND)
theorem CX (lv:List Wd) (f:Nat->Nat->Bool) (ND:List Nd) (z:Int) (hn:lv.length<=32) (bZ:∀ n∈ND,eD lv.length ND.length n) (ik:ND.length<=1099511627776) (bH:∀ n∈ND,n.av.length<=1099511627776) (hbr:∀ n∈ND,∀ e∈n.av,e.bare=true->e.ck=0) :
  Ev prog 187 [.agg (wL lv f ND z)] [] [] (fun r _ _=>W20Φ f ND r):=by
 have hNl:=l8 ND;refine eG 79 [.cell 2 44] func187 rfl ntmps187 rfl fun _ _ _ _=>?_;refine lI (fun j st=>∃ e:Nat,st=ad4 (wL lv f ND z) e/\e<=ND.length/\(∀ c n,c < e->ND[c]? = some n->∀ x∈n.av,IY f ND x)/\j=ND.length - e) ⟨0,rfl,by omega,fun _ _ h=>by omega,rfl⟩ (wkM wB) ?_;rintro j st ⟨e,rfl,he,eW,rfl⟩;refine br ?_ ?_<;>intro hL
 ·have aq:e < ND.length:=sV hNl hL;obtain ⟨d,hd⟩:=gX aq;have hm:=mG hd;have hN:=bZ d hm;have kL:=bH d hm;have bz:=cm d.av;have hbd:=hbr d hm;refine iX (gD hd) ?_;refine lI (fun j st=>∃ k:Nat,st=YD (wL lv f ND z) d.av e k/\k<=d.av.length/\(∀ c x,c < k->d.av[c]? = some x->IY f ND x)/\j=d.av.length - k) ⟨0,rfl,by omega,fun _ _ h=>by omega,rfl⟩ (wkM wB) ?_;rintro j st ⟨k,rfl,hk,EZ,rfl⟩;refine br ?_ ?_<;>intro od
  ·have iK:k < d.av.length:=sV bz od;obtain ⟨x,hx⟩:∃ x,d.av[k]? = some x:=⟨_,gE iK⟩;have Bj:=mG hx;obtain ⟨kP,⟨h2,Et⟩,h3,MX⟩:=ic hN Bj;have jU:=hbd x Bj;have YE:=(hN.n5 x Bj).ck
   have rM:IY f ND x->∀ c y,c < k + 1->d.av[c]? = some y->IY f ND y:=fun h c y hc hy=>by
    rcases iM hc with h1 | h1
    ·exact EZ c y h1 hy
    ·rw [h1,hx] at hy;simp only [oI] at hy;rw [<- hy];exact h
   have hE:IY f ND x=(x.ck≠0->(∃ m,ND[x.to.toNat]? = some m/\m.ag=K3 x.ck)/\f x.seen.toNat x.label.toNat=true/\f x.label.toNat x.seen.toNat=false):=rfl;generalize IY f ND x=EX at hE rM;obtain ⟨en,eb,ea,et,vB,ew,lL,yP,yQ,tN⟩:=x;simp only at h2 Et h3 MX kP jU YE hE;obtain ⟨lb,rfl⟩:∃ n:Nat,vB=n:=⟨_,h2⟩;obtain ⟨sn,rfl⟩:∃ n:Nat,yQ=n:=⟨_,h3⟩;simp only [iW] at Et MX hE;refine iX (bi hx) ?_;refine br ?_ ?_<;>intro g
   ·have g:lL=0:=sU g;exact rE ⟨_,by omega,k + 1,rfl,by omega,rM (by rw [hE];intro h;exact absurd g h),rfl⟩ (QT 2 (nG (nxt iK (by omega))) (wB1 (nxt iK (by omega))))
   have g:¬ lL=0:=sU g
   obtain ⟨h1,uJ⟩:=kP (by
    cases hb:eb
    ·rfl
    ·exact absurd (jU hb) g)
   obtain ⟨tn,rfl⟩:∃ n:Nat,et=n:=⟨_,h1⟩;simp only [iW] at uJ hE;obtain ⟨m,hmt⟩:∃ m,ND[tn]? = some m:=⟨_,gE uJ⟩
   have hW:∀ w:Int,w=K3 lL->(m.ag=w/\f sn lb=true/\f lb sn=false)->EX:=fun w h1 h2=>by
    rw [hE];exact fun _=>⟨⟨m,hmt,by rw [<- h1];exact h2.1⟩,h2.2⟩
   have h3c:lL=1∨lL=2∨lL=3:=by omega
   rcases h3c with rfl | rfl | rfl
   all_goals
    refine ⟨_,⟨Di _,gD hmt⟩,?_⟩;refine br ?_ ?_<;>intro c1
    ·exact ⟨Ft.d (14,tN),ax,(14,tN),rfl,fun h=>by simp at h⟩
    refine dI ?_;refine ⟨_,⟨Di _,dQ MX⟩,?_⟩;refine ⟨_,⟨Di _,dc Et⟩,?_⟩;refine br ?_ ?_<;>intro c2
    ·refine ⟨_,⟨Di _,dQ Et⟩,?_⟩;refine ⟨_,⟨Di _,dc MX⟩,?_⟩;refine br ?_ ?_<;>intro c3
     ·exact ⟨Ft.d (18,tN),ax,(18,tN),rfl,fun h=>by simp at h⟩
     ·have hx:=rM (hW _ rfl ⟨by simpa [K3] using c1,by simpa using c2,by simpa [pickB] using c3⟩);exact rE ⟨_,by omega,k + 1,rfl,by omega,hx,rfl⟩ (QT 2 (nG (nxt iK (by omega))) (wB1 (nxt iK (by omega))))
    ·exact ⟨Ft.d (18,tN),ax,(18,tN),rfl,fun h=>by simp at h⟩
  ·have aS:k=d.av.length:=sW bz od;subst aS
   exact rE ⟨_,by omega,e + 1,rfl,by omega,fun c n hc hn x Zq=>by
    rcases iM hc with h1 | h1
    ·exact eW c n h1 hn x Zq
    ·rw [h1,hd] at hn;simp only [oI] at hn;rw [<- hn] at Zq;obtain ⟨q,hq⟩:=List.mem_iff_getElem?.1 Zq
     exact EZ q x (gS hq).1 hq,rfl⟩ (wkM (wB1 (nxt aq (by omega))))
 ·have aS:e=ND.length:=sW hNl hL;subst aS
  exact ⟨Ft.d (0,0),ax,(0,0),rfl,fun _ n hn x hx=>by
   obtain ⟨q,hq⟩:=List.mem_iff_getElem?.1 hn
   exact eW q n (gS hq).1 hq x hx⟩
structure yS (S:Sch):Prop where
 uO:(lE S).1=0
 live:∀ i:Nat,i < (aM S).length->(depN (aM S) (aM S).length).getD i 0≠0
 eff:Rp (bL S) (aM S)
abbrev ad5 (S:Sch) (a b:Int) (W:List DV) (D:List Nat) (e:Nat):St:=
 ⟨[aab 1 0,aab 3 1,aab 5 3,aad 6 1 (dInts D),aaa 7 e],[eJ S,[.v (.int .i64 0),.v (.int .i64 0)],[.v (.int .i64 a),.v (.int .i64 b)],W],[]⟩
theorem CY (S:Sch) (hS:S.wt<=1099511627776):Ev prog 102 [.agg (eJ S)] [] [] (fun r _ _=>∃ (z:Int) (ft:Ft),r = .tup [.v (.int .i64 z),ft.d]/\(z=0->yS S)):=by
 have L8:=Cv S hS;have hw:=fun h=>rG S hS h;generalize hR:lE S=R at L8;obtain ⟨ae,order,types,⟨rh,rp⟩⟩:=S;refine eG 44 [.tmp 2,.cell 3 44] func102 rfl ntmps102 rfl fun _ _ _ _=>?_;refine cP aa4 L8 ?_;refine br ?_ ?_<;>intro g
 ·refine dS ?_;exact ⟨.tup [.v (.int .i64 2),Ft.d R],ax,2,R,rfl,fun h=>by simp at h⟩
 have g:R.1=0:=sU g;have h0:(lE ⟨ae,order,types,.mk rh rp⟩).1=0:=by rw [hR];exact g
 have hF:=rF h0;have hw:=hw h0;obtain ⟨adu,PX⟩:=l7 hF.lat;have bZ:=fun n (hn:n∈aM ⟨ae,order,types,.mk rh rp⟩)=>(List.mem_iff_getElem?.1 hn).elim fun i hi=>tA hF hi;have ik:(aM ⟨ae,order,types,.mk rh rp⟩).length<=1099511627776:=by rw [ni];exact Nat.le_trans (H8 _) hS
 have bH:=fun n (hn:n∈aM ⟨ae,order,types,.mk rh rp⟩)=>(ma hn hS).2;have hbr:=fun n (hn:n∈aM ⟨ae,order,types,.mk rh rp⟩)=>(List.mem_iff_getElem?.1 hn).elim fun i hi e he hb=>Gd hF hi (e:=e) he hb;have h19:=fun A B=>zG 2 1 A B (dV ⟨ae,order,types,.mk rh rp⟩) bZ ik bH;have h20:=CX ae (bL ⟨ae,order,types,.mk rh rp⟩) (aM ⟨ae,order,types,.mk rh rp⟩) (dV ⟨ae,order,types,.mk rh rp⟩) PX bZ ik bH hbr;have Xv:(∀ i:Nat,i < (aM ⟨ae,order,types,.mk rh rp⟩).length->(depN (aM ⟨ae,order,types,.mk rh rp⟩) (aM ⟨ae,order,types,.mk rh rp⟩).length).getD i 0≠0)->Rp (bL ⟨ae,order,types,.mk rh rp⟩) (aM ⟨ae,order,types,.mk rh rp⟩)->yS ⟨ae,order,types,.mk rh rp⟩:=fun h1 h2=>⟨h0,h1,h2⟩;have Hb:=gH (aM ⟨ae,order,types,.mk rh rp⟩) (aM ⟨ae,order,types,.mk rh rp⟩).length;generalize depN (aM ⟨ae,order,types,.mk rh rp⟩) (aM ⟨ae,order,types,.mk rh rp⟩).length=D at h19 Xv Hb;unfold bL at h20 Xv;generalize fj (Sch.mk ae order types (.mk rh rp)).ae.length (dF (aA (Sch.mk ae order types (.mk rh rp)).ae) (Sch.mk ae order types (.mk rh rp)).order)=f at hw h20 Xv;generalize aM ⟨ae,order,types,.mk rh rp⟩=ND at hw h19 h20 Xv Hb ik bH hbr bZ;generalize dV ⟨ae,order,types,.mk rh rp⟩=rt at hw h19 h20;have ze:=bw D;obtain ⟨R1,R2⟩:=R;simp only at g;subst g;refine cP aas hw ?_;refine cP aa5 (h19 _ _) ?_;refine lI (fun j st=>∃ e:Nat,st=ad5 ⟨ae,order,types,.mk rh rp⟩ 0 R2 (wL ae f ND rt) D e/\e<=D.length/\(∀ i < e,D.getD i 0≠0)/\j=D.length - e) ⟨0,rfl,by omega,fun _ h=>by omega,rfl⟩ (wkM wB) ?_;rintro j st ⟨e,rfl,he,eW,rfl⟩;refine br ?_ ?_<;>intro hL
 ·have aq:e < D.length:=sV ze hL;obtain ⟨x,hx⟩:=gX aq;obtain ⟨d,hd⟩:∃ d,ND[e]? = some d:=⟨_,gE (by omega)⟩;refine iX (eI hx) ?_;refine br ?_ ?_<;>intro c
  ·refine dS ?_;refine iX (gD hd) ?_;exact ⟨.tup [.v (.int .i64 3),Ft.d (11,d.aG)],ax,3,(11,d.aG),rfl,fun h=>by simp at h⟩
  ·have c:x≠0:=by simp at c;omega
   exact rE ⟨_,by omega,e + 1,rfl,by omega,fun i hi=>by
    rcases iM hi with h1 | h1
    ·exact eW i h1
    ·rw [h1,cH,hx];exact c,rfl⟩ (QT 4 (nG (nxt aq (by omega))) (wB1 (nxt aq (by omega))))
 ·have aS:e=D.length:=sW ze hL;subst aS;refine bE aa6 rfl h20 ax (fun r hr=>?_);obtain ⟨ft,rfl,NA⟩:=hr;refine br ?_ ?_<;>intro c
  ·refine dS ?_;exact ⟨.tup [.v (.int .i64 4),Ft.d ft],ax,4,ft,rfl,fun h=>by simp at h⟩
  ·have c:ft.1=0:=sU c;exact ⟨.tup [.v (.int .i64 0),Ft.d (0,0)],ax,0,(0,0),rfl,fun _=>Xv (fun i hi=>eW i (by omega)) (NA c)⟩
theorem Ge (S:Sch) (hS:S.wt<=1099511627776):Ev prog 44 [.agg (eJ S)] [] [] (fun r _ _=>∃ b:Bool,r = .v (.bool b)/\(b=true->yS S)):=by
 have hw:=CY S hS;obtain ⟨ae,order,types,⟨rh,rp⟩⟩:=S;refine eG 12 [.tmp 2] func44 rfl ntmps44 rfl fun _ _ _ _=>?_;refine bE aaK rfl hw ax (fun r hr=>?_);obtain ⟨z,ft,rfl,hz⟩:=hr;exact ⟨_,rfl,fun h=>hz (sU h)⟩
end Go.Proofs.YtgjagnmeonoehaaGreat
namespace Go.Proofs.YtgjagnmeonoehaaGreat
namespace Dv
open Go Go.RowKit
inductive mj
 | fin
 | op (i:Nat) (t:mj)
 | ev (i:Nat) (t alt:mj)
 | stop
section
variable {P:Program} {ops:Array Oper} {C:World->Prop} {Q:Act->World->Prop} {W:Nat->Bool}
def rdy (ops:Array Oper) (rem:List Nat) (i:Nat):Bool:=
 match ops[i]? with
 | some o=>o.after.toList.all fun e=>!Region.binds .any e || !rem.contains e.on
 | none=>false
def Ud (ops:Array Oper) (i:Nat):Bool:=match ops[i]? with | some o=>gT o.op | none=>false
def chkA (ops:Array Oper):mj->List Nat->Option (List Nat)->Bool
 | .fin,rem,m=>m.isNone && rem.isEmpty
 | .op i t,rem,m=>m.isNone && (rem.contains i && (!Ud ops i && (rdy ops rem i && chkA ops t (rem.erase i) none)))
 | .ev i t alt,rem,m=>rem.contains i && (Ud ops i && (rdy ops rem i && (chkA ops t (rem.erase i) none && chkA ops alt rem (some (i :: m.getD [])))))
 | .stop,rem,m=>match m with
  | some seen=>rem.all fun j=>!rdy ops rem j || seen.contains j
  | none=>false
def IZ (ops:Array Oper) (W:Nat->Bool):Bool:=
 (List.range ops.size).all fun i=>(List.range ops.size).all fun j=>
  Nat.beq i j || ordB ops ops.size i j || ordB ops ops.size j i || (Ud ops i && Ud ops j) || (fH ops W j i && fH ops W i j)
def runS (P:Program) (ops:Array Oper) (W:Nat->Bool) (C:World->Prop) (Q:Act->World->Prop):mj->Act->World->Prop
 | .fin,a,w=>Q a w
 | .op i t,a,w=>∃ o,ops[i]? = some o/\∃ v,Yl P ops C o v a/\(mq o.op=true->C w)/\runS P ops W C Q t (a.put o.dst v) w
 | .ev i t alt,a,w=>(∃ o,ops[i]? = some o/\dN P ops o a w fun a' w'=>(W i=false->C w->C w')/\runS P ops W C Q t a' w')/\runS P ops W C Q alt a w
 | .stop,_,_=>True
def Ue (P:Program) (ops:Array Oper) (W:Nat->Bool) (C:World->Prop) (Q:Act->World->Prop) (rem:List Nat) (a:Act) (w:World):Prop:=∃ T,chkA ops T rem none=true/\runS P ops W C Q T a w
def Cl (ops:Array Oper) (rem:List Nat):Prop:=∀ (k:Nat) o,ops[k]? = some o->k ∉ rem->∀ e∈o.after,Region.binds .any e=true->e.on ∉ rem
theorem ml {rem:List Nat} {i:Nat} (h:rdy ops rem i=true):∃ o,ops[i]? = some o/\∀ e∈o.after,Region.binds .any e=true->e.on ∉ rem:=by
 unfold rdy at h;split at h
 ·rename_i o ho;refine ⟨o,ho,fun e he hb=>?_⟩;have:=List.all_eq_true.1 h e (sU he);rw [hb] at this;simpa using this
 ·cases h
theorem pa {rem:List Nat} {i j:Nat} (h:rdy ops rem i=true):rdy ops (rem.erase j) i=true:=by
 obtain ⟨o,ho,ha⟩:=ml h;unfold rdy;rw [ho];simp only [List.all_eq_true,Bool.or_eq_true,Bool.not_eq_true'];intro e he;cases hb:Region.binds .any e
 ·exact .inl rfl
 ·right;have:=ha e (sU he) hb;simp only [List.contains_eq_mem,decide_eq_false_iff_not];exact fun hm=>this (List.mem_of_mem_erase hm)
theorem yT {rem:List Nat} (hn:rem.Nodup) (hc:Cl ops rem) {i:Nat} (h:rdy ops rem i=true):Cl ops (rem.erase i):=by
 intro k o ho hk e he hb hm;have nE:=List.mem_of_mem_erase hm;by_cases kj:k=i
 ·subst kj;obtain ⟨o',BE,ha⟩:=ml h;rw [ho] at BE;simp only [oI] at BE;subst BE;exact ha e he hb nE
 ·exact hc k o ho (fun hkm=>hk ((List.mem_erase_of_ne kj).2 hkm)) e he hb nE
theorem I0 {rem:List Nat} (hc:Cl ops rem):∀ (n:Nat) (j k:Nat) o,ops[k]? = some o->(∀ e∈o.after,Region.binds .any e=true->e.on ∉ rem)->ordB ops n j k=true->j ∉ rem
 | 0,j,k,o,_,_,h=>by simp [ordB] at h
 | n + 1,j,k,o,ho,gp,h=>by
  simp only [ordB,ho,List.any_eq_true,aD,Bool.or_eq_true] at h;obtain ⟨e,he,hb,hj⟩:=h;have GB:e∈o.after:=sU he;have h1:=gp e GB hb;rcases hj with hj | hj
  ·have:e.on=j:=sU hj;rw [<- this];exact h1
  ·cases Sp:ops[e.on]? with
   | none=>
    cases n with
    | zero=>simp [ordB] at hj
    | succ n=>simp [ordB,Sp] at hj
   | some o'=>exact I0 hc n j e.on o' Sp (hc e.on o' Sp h1) hj
theorem Gf {rem:List Nat} (hP:IZ ops W=true) (hc:Cl ops rem) {i j:Nat} (hi:rdy ops rem i=true) (hj:rdy ops rem j=true) (mv:i∈rem) (vi:j∈rem) (mr:i≠j) (Se:Ud ops i=false∨Ud ops j=false):fH ops W j i=true:=by
 obtain ⟨o,ho,ha⟩:=ml hi;obtain ⟨o',BE,Xo⟩:=ml hj;simp only [IZ,List.all_eq_true,List.mem_range] at hP;have h1:=hP i (Array.getElem?_eq_some_iff.1 ho).1 j (Array.getElem?_eq_some_iff.1 BE).1;simp only [Bool.or_eq_true,aD,Nat.beq_eq] at h1;rcases h1 with (((h1 | h1) | h1) | h1) | h1
 ·exact (mr h1).elim
 ·exact (I0 hc _ _ _ o' BE Xo h1 mv).elim
 ·exact (I0 hc _ _ _ o ho ha h1 vi).elim
 ·rcases Se with h | h
  ·rw [h] at h1;simp at h1
  ·rw [h] at h1;simp at h1
 ·exact h1.1
theorem CZ {i:Nat} {o:Oper} (h:ops[i]? = some o):Ud ops i=gT o.op:=by unfold Ud;rw [h]
theorem Bl (dt:∀ (j:Nat) (o:Oper) cs b,ops[j]? = some o->o.op ≠ .select cs b) (hP:IZ ops W=true) {i:Nat} {o:Oper} (hi:ops[i]? = some o) (hE:gT o.op=false) :
  ∀ (T:mj) (rem:List Nat) (a:Act) (w:World),rem.Nodup->Cl ops rem->chkA ops T rem none=true->runS P ops W C Q T a w->i∈rem->rdy ops rem i=true ->
   ∃ v,Yl P ops C o v a/\(mq o.op=true->C w)/\Ue P ops W C Q (rem.erase i) (a.put o.dst v) w
 | .fin,rem,a,w,_,_,hc,_,mv,_=>by
  simp only [chkA,aD,List.isEmpty_iff] at hc;rw [hc.2] at mv;cases mv
 | .stop,rem,a,w,_,_,hc,_,_,_=>by simp [chkA] at hc
 | .ev j t alt,rem,a,w,hn,fY,hc,hr,mv,Mu=>by
  exfalso
  have key:∀ (T:mj) (seen:List Nat),(∀ k∈seen,Ud ops k=true)->chkA ops T rem (some seen)=true->False:=by
   intro T
   induction T with
   | fin=>intro seen _ h;simp [chkA] at h
   | op=>intro seen _ h;simp [chkA] at h
   | ev k t alt _ ih=>
    intro seen hs h;simp only [chkA,aD,Option.getD_some] at h
    exact ih (k :: seen) (fun q hq=>by
     rcases bp hq with rfl | hq
     ·exact h.2.1
     ·exact hs q hq) h.2.2.2.2
   | stop=>
    intro seen hs h;simp only [chkA,List.all_eq_true,Bool.or_eq_true,Bool.not_eq_true'] at h;rcases h i mv with h1 | h1
    ·rw [Mu] at h1;cases h1
    ·have:=hs i (sU h1);rw [CZ hi,hE] at this;cases this
  simp only [chkA,aD,Option.getD_none] at hc;exact key alt [j] (fun k hk=>by rw [List.mem_singleton] at hk;rw [hk];exact hc.2.1) hc.2.2.2.2
 | .op j t,rem,a,w,hn,fY,hc,hr,mv,Mu=>by
  simp only [chkA,aD,Bool.not_eq_true'] at hc;obtain ⟨_,vi,Nx,YF,RT⟩:=hc;have vi:j∈rem:=sU vi;simp only [runS] at hr;obtain ⟨y,hy,v,JF,hyc,zc⟩:=hr;by_cases mr:i=j
  ·subst mr;rw [hi] at hy;simp only [oI] at hy;subst hy;exact ⟨v,JF,hyc,t,RT,zc⟩
  ·have qB:=Gf hP fY Mu YF mv vi mr (.inr Nx);obtain ⟨GV,Nt,_,_⟩:=ez qB hy hi;obtain ⟨u,hu,huc,T',hT',Uf⟩:=Bl dt hP hi hE t (rem.erase j) (a.put y.dst v) w (hn.erase j) (yT hn fY YF) RT zc ((List.mem_erase_of_ne mr).2 mv) (pa Mu);have GA:=fun cs b=>dt i o cs b hi;have ZC:=fun cs b=>dt j y cs b hy;obtain ⟨_,ZE,_⟩:=Oper.apart_spec GV;refine ⟨u,(Yl.same GV GA).1 hu,huc,.op j T',?_,?_⟩
   ·simp only [chkA,aD,Bool.not_eq_true'];refine ⟨rfl,?_,Nx,pa YF,?_⟩
    ·simpa using (List.mem_erase_of_ne (Ne.symm mr)).2 vi
    ·rw [List.erase_comm];exact hT'
   ·simp only [runS];refine ⟨y,hy,v,(Yl.same Nt ZC).2 JF,hyc,?_⟩;rw [<- Act.put_comm a v u ZE];exact Uf
theorem Gg {e:Nat}:∀ (T:mj) (rem:List Nat) (seen:List Nat) (a:Act) (w:World),chkA ops T rem (some seen)=true->runS P ops W C Q T a w->e∈rem->rdy ops rem e=true->e ∉ seen ->
  ∃ o t,ops[e]? = some o/\chkA ops t (rem.erase e) none=true/\dN P ops o a w fun a' w'=>(W e=false->C w->C w')/\runS P ops W C Q t a' w'
 | .fin,rem,seen,a,w,hc,_,_,_,_=>by simp [chkA] at hc
 | .op _ _,rem,seen,a,w,hc,_,_,_,_=>by simp [chkA] at hc
 | .stop,rem,seen,a,w,hc,_,hm,hr,hs=>by
  simp only [chkA,List.all_eq_true,Bool.or_eq_true,Bool.not_eq_true'] at hc;rcases hc e hm with h | h
  ·rw [hr] at h;cases h
  ·exact (hs (sU h)).elim
 | .ev i t alt,rem,seen,a,w,hc,hr,hm,Mu,hs=>by
  simp only [chkA,aD,Option.getD_some] at hc;simp only [runS] at hr;obtain ⟨⟨o,ho,aR⟩,hra⟩:=hr;by_cases D1:i=e
  ·subst D1;exact ⟨o,t,ho,hc.2.2.2.1,aR⟩
  ·exact Gg alt rem (i :: seen) a w hc.2.2.2.2 hra hm Mu (fun h=>by
    rcases bp h with h | h
    ·exact D1 h.symm
    ·exact hs h)
theorem K4 (dt:∀ (j:Nat) (o:Oper) cs b,ops[j]? = some o->o.op ≠ .select cs b) (hP:IZ ops W=true) {i:Nat} {o:Oper} (hi:ops[i]? = some o) (hE:gT o.op=true) :
  ∀ (T:mj) (rem:List Nat) (a:Act) (w:World),rem.Nodup->Cl ops rem->chkA ops T rem none=true->runS P ops W C Q T a w->i∈rem->rdy ops rem i=true ->
   dN P ops o a w (fun a' w'=>(W i=false->C w->C w')/\Ue P ops W C Q (rem.erase i) a' w')
 | .fin,rem,a,w,_,_,hc,_,mv,_=>by
  simp only [chkA,aD,List.isEmpty_iff] at hc;rw [hc.2] at mv;cases mv
 | .stop,rem,a,w,_,_,hc,_,_,_=>by simp [chkA] at hc
 | .ev j t alt,rem,a,w,hn,fY,hc,hr,mv,Mu=>by
  simp only [chkA,aD,Option.getD_none] at hc;simp only [runS] at hr;obtain ⟨⟨y,hy,aR⟩,hra⟩:=hr;by_cases mr:i=j
  ·subst mr;rw [hi] at hy;simp only [oI] at hy;subst hy;exact cz (fun a' w' h=>⟨h.1,t,hc.2.2.2.1,h.2⟩) aR
  ·obtain ⟨o',t',BE,RT,hs⟩:=Gg alt rem [j] a w hc.2.2.2.2 hra mv Mu (sU mr);rw [hi] at BE;simp only [oI] at BE;subst BE;exact cz (fun a' w' h=>⟨h.1,t',RT,h.2⟩) hs
 | .op j t,rem,a,w,hn,fY,hc,hr,mv,Mu=>by
  simp only [chkA,aD,Bool.not_eq_true'] at hc;obtain ⟨_,vi,Nx,YF,RT⟩:=hc;have vi:j∈rem:=sU vi;simp only [runS] at hr;obtain ⟨y,hy,v,JF,hyc,zc⟩:=hr
  have mr:i≠j:=by
   rintro rfl;rw [CZ hi,hE] at Nx;cases Nx
  have qB:=Gf hP fY Mu YF mv vi mr (.inr Nx);obtain ⟨GV,Nt,_,hLW⟩:=ez qB hy hi;have GA:=fun cs b=>dt i o cs b hi;have ZC:=fun cs b=>dt j y cs b hy;have ih:=K4 dt hP hi hE t (rem.erase j) (a.put y.dst v) w (hn.erase j) (yT hn fY YF) RT zc ((List.mem_erase_of_ne mr).2 mv) (pa Mu);refine cz ?_ (jf ((j3 GV GA).1 ih));rintro a' w' ⟨⟨pT,T',hT',Uf⟩,u,rfl⟩;refine ⟨pT,.op j T',?_,?_⟩
  ·simp only [chkA,aD,Bool.not_eq_true'];refine ⟨rfl,?_,Nx,pa YF,?_⟩
   ·simpa using (List.mem_erase_of_ne (Ne.symm mr)).2 vi
   ·rw [List.erase_comm];exact hT'
  ·simp only [runS];refine ⟨y,hy,v,(Yl.same (u:=u) Nt ZC).2 JF,fun hL=>?_,Uf⟩
   have hWi:W i=false:=by
    cases hw:W i
    ·rfl
    ·exact (hLW ⟨hL,hw⟩).elim
   exact pT hWi (hyc hL)
theorem Rq {Q':Exit->Act->World->Prop} (dt:∀ (j:Nat) (o:Oper) cs b,ops[j]? = some o->o.op ≠ .select cs b) (hP:IZ ops W=true) (hb:∀ (i:Nat) (o:Oper),ops[i]? = some o->∀ e∈o.after,Region.binds .any e=true->e.on < ops.size)
  (hQ:∀ a w,Q a w->Q' .normal a w):∀ (iO:Nat) (listed:Array Bool) (rem:List Nat) (a:Act) (w:World),
  listed.size=ops.size->(∀ i,i∈rem↔i < ops.size/\listed.getD i true=false)->rem.Nodup->Cl ops rem->rem.length<=iO->Ue P ops W C Q rem a w->wpAny P .any ops Q' iO listed a w:=by
 have Ug:∀ (listed:Array Bool) (rem:List Nat),listed.size=ops.size->(∀ i,i∈rem↔i < ops.size/\listed.getD i true=false)->∀ i,i∈Region.ready .any ops listed↔i∈rem/\rdy ops rem i=true:=by
  intro listed rem bH ij i
  have hl:∀ k,k < ops.size->(listed.getD k false=true↔k ∉ rem):=fun k hk=>by
   have fq:k < listed.size:=by rw [bH];exact hk
   rw [ij k];simp [hk,fq]
  rw [mem_ready];constructor
  ·rintro ⟨h1,o,ho,h2⟩;have hi:=(Array.getElem?_eq_some_iff.1 ho).1;refine ⟨(ij i).2 ⟨hi,h1⟩,?_⟩;unfold rdy;rw [ho];simp only [List.all_eq_true,Bool.or_eq_true,Bool.not_eq_true'];intro e he;cases kU:Region.binds .any e
   ·exact .inl rfl
   ·right;have GB:e∈o.after:=sU he;simp only [List.contains_eq_mem,decide_eq_false_iff_not];exact (hl _ (hb i o ho e GB kU)).1 (h2 e GB kU)
  ·rintro ⟨h1,h2⟩;obtain ⟨o,ho,h3⟩:=ml h2;exact ⟨((ij i).1 h1).2,o,ho,fun e he kU=>(hl _ (hb i o ho e he kU)).2 (h3 e he kU)⟩
 intro iO
 induction iO with
 | zero=>
  intro listed rem a w bH ij hn fY hlen hr;have:rem=[]:=List.length_eq_zero_iff.1 (by omega);subst this;obtain ⟨T,hT,Uf⟩:=hr;refine ⟨?_,hQ _ _ ?_⟩
  ·rw [List.eq_nil_iff_forall_not_mem];intro i hi;cases ((Ug listed [] bH ij i).1 hi).1
  ·cases T with
   | fin=>exact Uf
   | op i t=>simp [chkA] at hT
   | ev i t alt=>simp [chkA] at hT
   | stop=>simp [chkA] at hT
 | succ iO ih=>
  intro listed rem a w bH ij hn fY hlen hr;obtain ⟨T,hT,Uf⟩:=hr;refine ⟨fun h0=>?_,fun i hi=>?_⟩
  ·cases T with
   | fin=>exact hQ _ _ Uf
   | op i t=>
    exfalso;simp only [chkA,aD] at hT;have:=(Ug listed rem bH ij i).2 ⟨by simpa using hT.2.1,hT.2.2.2.1⟩;rw [h0] at this;cases this
   | ev i t alt=>
    exfalso;simp only [chkA,aD] at hT;have:=(Ug listed rem bH ij i).2 ⟨by simpa using hT.1,hT.2.2.1⟩;rw [h0] at this;cases this
   | stop=>simp [chkA] at hT
  ·obtain ⟨mv,hir⟩:=(Ug listed rem bH ij i).1 hi;obtain ⟨o,ho,_⟩:=ml hir;have dY:=(Array.getElem?_eq_some_iff.1 ho).1
   have zX:∀ k,k∈rem.erase i↔k < ops.size/\(listed.setIfInBounds i true).getD k true=false:=by
    intro k;rw [List.Nodup.mem_erase_iff hn];by_cases kj:k=i
    ·subst kj;simp [bH,dY]
    ·rw [getD_set_ne true (Ne.symm kj)];simp only [ne_eq,kj,not_false_eq_true,true_and];exact ij k
   have rM:∀ a' w',Ue P ops W C Q (rem.erase i) a' w' -> wpAny P .any ops Q' iO (listed.setIfInBounds i true) a' w':=fun a' w' h=>
    ih _ (rem.erase i) a' w' (by simp [bH]) zX (hn.erase i) (yT hn fY hir) (by rw [List.length_erase_of_mem mv];have:=List.length_pos_of_mem mv;omega) h
   refine sF ho ?_
   cases hE:gT o.op with
   | true=>exact cz (fun a' w' h=>rM a' w' h.2) (K4 dt hP ho hE T rem a w hn fY hT Uf mv hir)
   | false=>
    obtain ⟨v,hy,hc,h⟩:=Bl dt hP ho hE T rem a w hn fY hT Uf mv hir;exact gW hy hc (rM _ _ h)
end
def goA (X:Ctx) (D:Dr):mj->Bool->List (Nat × Sl)->St->Prop
 | .fin,_,_,st=>go X 4000 D.k st
 | .op i t,c,s0,st=>
  match D.ops.toList[i]? with
  | some o=>goD X ⟨D.ops,D.W,D.k,D.jP,some (goA X D t)⟩ 3000 c [(i,o)] s0 st
  | none=>False
 | .ev i t alt,c,s0,st=>
  (match D.ops.toList[i]? with
  | some o=>goD X ⟨D.ops,D.W,D.k,D.jP,some (goA X D t)⟩ 3000 c [(i,o)] s0 st
  | none=>False)/\goA X D alt c s0 st
 | .stop,_,_,_=>True
def YG (ops:Array Oper):Bool:=Region.noSelect ops && (List.range ops.size).all fun i=>match ops[i]? with | some o=>o.after.toList.all fun e=>!Region.binds .any e || Nat.blt e.on ops.size | none=>true
section
variable {X:Ctx} {D:Dw}
theorem MY (hD:sC D.E0 D.d.jP.bx D.wr) (hf:D.d.fin=none):∀ (T:mj) (rem:List Nat) m,chkA D.d.ops T rem m=true->∀ c s0 st,goA X D.d T c s0 st->∀ E a w,fx X D c E s0 st a w->runS X.P D.d.ops D.d.W D.C (D.Q X) T a w:=by
 intro T
 have tF:∀ (t:mj) (i:Nat) (o:Oper),D.d.ops[i]? = some o->(∀ c s0 st,goA X D.d t c s0 st->∀ E a w,fx X D c E s0 st a w->runS X.P D.d.ops D.d.W D.C (D.Q X) t a w)->∀ c s0 st,goD X ⟨D.d.ops,D.d.W,D.d.k,D.d.jP,some (goA X D.d t)⟩ 3000 c [(i,o)] s0 st->∀ E a w,fx X D c E s0 st a w ->
   runT X.P D.d.ops D.d.W D.C (fun a w=>runS X.P D.d.ops D.d.W D.C (D.Q X) t a w) [i] a w:=fun t i o ho ih c s0 st hg E a w h=>by
  have h1:=dK (D:=⟨⟨D.d.ops,D.d.W,D.d.k,D.d.jP,some (goA X D.d t)⟩,D.E0,D.wr⟩) hD 3000 c [(i,o)] s0 st hg (fun p hp=>by
   rw [List.mem_singleton] at hp;rw [hp]
   exact ho) E a w ⟨h.rel,h.x,h.β,h.t0,h.cc⟩
  refine lS ?_ h1;rintro a w ⟨c,E,s0,st,h2,h3⟩;exact ih c s0 st h3 E a w ⟨h2.rel,h2.x,h2.β,h2.t0,h2.cc⟩
 induction T with
 | fin=>
  intro rem m _ c s0 st hg E a w h;show D.Q X a w;unfold Dw.Q;rw [hf];exact go_sound 4000 _ _ hg E a w h.rel
 | stop=>intro rem m _ c s0 st hg E a w h;exact trivial
 | op i t ih=>
  intro rem m hc c s0 st hg E a w h;simp only [chkA,aD,Bool.not_eq_true'] at hc;simp only [goA] at hg;split at hg
  ·rename_i o ho;have ho:D.d.ops[i]? = some o:=sU ho;have h4:=tF t i o ho (ih _ _ hc.2.2.2.2) c s0 st hg E a w h;have hE:gT o.op=false:=by rw [<- CZ ho];exact hc.2.2.1
   simp only [runT,ho,hE,Bool.false_eq_true,if_false] at h4;exact ⟨o,ho,h4⟩
  ·exact hg.elim
 | ev i t alt ih1 ih2=>
  intro rem m hc c s0 st hg E a w h;simp only [chkA,aD] at hc;obtain ⟨hg,Dd⟩:=hg;refine ⟨?_,ih2 _ _ hc.2.2.2.2 c s0 st Dd E a w h⟩;split at hg
  ·rename_i o ho;have ho:D.d.ops[i]? = some o:=sU ho;have h4:=tF t i o ho (ih1 _ _ hc.2.2.2.1) c s0 st hg E a w h;have hE:gT o.op=true:=by rw [<- CZ ho];exact hc.2.1
   simp only [runT,ho,hE,if_true] at h4;exact ⟨o,ho,h4⟩
  ·exact hg.elim
theorem C0 {id:Nat} {ops:Array Oper} {k:List It} {st:St} (W:Nat->Bool) (T:mj) (hm:X.P.follows .mixedOrders=true) (hc:(YG ops && IZ ops W && chkA ops T (List.range ops.size) none)=true) (S:St)
  (h:goA X ⟨ops,W,[.vJ fun s=>s=S∨fm s S],st,none⟩ T true st.sl st) (hk:go X 4000 k S):kQ X id ops k st:=by
 intro E a w hr;have ig:=km hr;simp only [aD] at hc;obtain ⟨⟨hN,hP⟩,hT⟩:=hc;simp only [YG,aD,List.all_eq_true,List.mem_range] at hN;have hs:=mN ig (ops:=ops) (W:=W) (k:=[.vJ fun s=>s=S∨fm s S]);have bU:=MY (D:=⟨⟨ops,W,[.vJ fun s=>s=S∨fm s S],st,none⟩,E,w.drew⟩) ig.env.em rfl T _ _ hT true st.sl st h E a w.drew hs;refine wp_region_any hm ?_;refine Rq (C:=CC E st.bx w.drew) (Q:=kq X [.vJ fun s=>s=S∨fm s S] .normal) (Region.noSelect_spec hN.1) hP (fun i o ho e he hb=>?_) (fun a w hq=>?_) ops.size (Array.replicate ops.size false) (List.range ops.size) a _ (by simp) ?_ List.nodup_range ?_ (by simp) ⟨T,hT,bU⟩
 ·have h1:=hN.2 i (Array.getElem?_eq_some_iff.1 ho).1;rw [ho] at h1;have h2:=List.all_eq_true.1 h1 e (sU he);rw [hb] at h2;simpa using h2
 ·obtain ⟨qD,E1,bM,hJ⟩:=hq;rcases hJ with rfl | hJ
  ·exact go_sound 4000 _ _ hk E1 a w bM
  ·exact go_sound 4000 _ _ hk E1 a w (wm bM hJ)
 ·intro i;simp only [List.mem_range];constructor
  ·intro hi;exact ⟨hi,by simp [hi]⟩
  ·intro hi;exact hi.1
 ·intro k o ho hk;exact (hk (List.mem_range.2 (Array.getElem?_eq_some_iff.1 ho).1)).elim
end
end Dv
end Go.Proofs.YtgjagnmeonoehaaGreat
set_option maxRecDepth 100000
namespace Go.Proofs.YtgjagnmeonoehaaGreat
open Go Go.RowKit Dv Go.Proofs.Tryz
theorem rV (lv:List Wd) (f:Nat->Nat->Bool) (ND:List Nd) (z:Int) (hL:fk f lv.length) (hn:lv.length<=32) (d:Nd) (e:Ed) (a:Nat) (ha:a < lv.length) (hN:eD lv.length ND.length d) (hm:e∈d.av) :
  EvP prog 135 [.agg (wL lv f ND z),.agg (jt d),.agg (uV e),.v (.int .i64 a)] (.v (.int .i64 (if d.ag < 7 then a else uv f lv.length a e.label.toNat:Nat))):=by
 obtain ⟨_,⟨h2,Et⟩,_⟩:=ic hN hm;obtain ⟨ag,aG,lo,hi,most,af,es⟩:=d;obtain ⟨en,eb,ea,et,vB,ew,lL,yP,yQ,tN⟩:=e;simp only at h2 Et;obtain ⟨lb,rfl⟩:∃ n:Nat,vB=n:=⟨_,h2⟩;simp only [iW] at Et ⊢;have hj:=lj lv.length f (by omega) a lb ha Et;rw [yA hL ha Et] at hj;refine eG 19 [.tmp 8] func135 rfl ntmps135 rfl fun _ _ _ _=>?_;refine br ?_ ?_<;>intro c
 ·have c:ag < 7:=sU c;rw [ai c];exact (rfl:_=_)
 ·have c:¬ ag < 7:=sU c;rw [ah c];refine cP JU hj ?_;exact (rfl:_=_)
theorem I1 (lv:List Wd) (f:Nat->Nat->Bool) (ND:List Nd) (z:Int) (hL:fk f lv.length) (hn:lv.length<=32) (d:Nd) (e:Ed) (cE a:Nat) (ho:cE < lv.length) (ha:a < lv.length) (hN:eD lv.length ND.length d) (hm:e∈d.av) :
  EvP prog 134 [.agg (wL lv f ND z),.v (.int .i64 cE),.agg (jt d),.agg (uV e),.v (.int .i64 a)] (.v (.int .i64 (tH f lv.length cE d e a:Nat))):=by
 have hu:=rV lv f ND z hL hn d e a ha hN hm;obtain ⟨_,⟨h2,Et⟩,h3,MX⟩:=ic hN hm
 have hul:(if d.ag < 7 then a else uv f lv.length a e.label.toNat) < lv.length:=by
  split
  ·exact ha
  ·exact yz hL ha Et
 have hH:tH f lv.length cE d e a=if f (if d.ag < 7 then a else uv f lv.length a e.label.toNat) cE=true then 2 else if e.ck≠0/\f (uv f lv.length a e.seen.toNat) cE=true then 1 else 0:=rfl
 generalize tH f lv.length cE d e a=H at hH ⊢;generalize (if d.ag < 7 then a else uv f lv.length a e.label.toNat)=u at hu hul hH;obtain ⟨ag,aG,lo,hi,most,af,es⟩:=d;obtain ⟨en,eb,ea,et,vB,ew,lL,yP,yQ,tN⟩:=e;simp only at h3 MX hH;obtain ⟨sn,rfl⟩:∃ n:Nat,yQ=n:=⟨_,h3⟩;simp only [iW] at MX hH;have hj:=lj lv.length f (by omega) a sn ha MX;rw [yA hL ha MX] at hj;have pN:=yz hL ha MX;refine eG 41 [.tmp 10] func134 rfl ntmps134 rfl fun _ _ _ _=>?_;refine dI ?_;refine cD UN hu ?_;refine iX (dQ hul) ?_;refine iX (dc ho) ?_;refine br ?_ ?_<;>intro c
 ·have c:f u cE=true:=sU c;rw [ai c] at hH;subst hH;exact (rfl:_=_)
 have c:f u cE=false:=sU c;rw [ah (by rw [c];simp)] at hH;refine dI ?_;refine br ?_ ?_<;>intro g
 ·have g:lL≠0:=sU g;refine cD JU hj ?_;refine ⟨_,⟨by simp [oz],by simpa [oz] using dQ pN⟩,?_⟩;refine iX (dc ho) ?_;refine br ?_ ?_<;>intro c2
  ·have c2:f (uv f lv.length a sn) cE=true:=by simpa [pickB] using c2
   rw [ai ⟨g,c2⟩] at hH;subst hH;exact (rfl:_=_)
  ·have c2:f (uv f lv.length a sn) cE=false:=by simpa [pickB] using c2
   rw [ah (by rw [c2];simp)] at hH;subst hH;exact (rfl:_=_)
 ·have g:lL=0:=sU g;rw [ah (by simp [g])] at hH;subst hH;exact (rfl:_=_)
theorem uD (d:Nd) (v:Val) (j:Nat) (e:Ed) (h:bY d v.n j=some e) (hz:d.ag=8->0<=v.n/\v.n < d.av.length) (iq:d.av.length<=1099511627776) :
  EvP prog 64 [.agg (jt d),.agg (aH v),.v (.int .i64 j)] (.agg (uV e)):=by
 obtain ⟨ag,aG,lo,hi,most,af,es⟩:=d;obtain ⟨k,n,s,ks⟩:=v;simp only [Val.n] at h hz iq;have kL:=cm es;unfold bY at h;simp only at h;refine eG 28 [.cell 6 144] func64 rfl ntmps64 rfl fun _ _ _ _=>?_;refine br ?_ ?_<;>intro c
 ·have c:ag=7:=sU c;rw [ai c] at h;have hj:=(gS h).1;refine iX (bi h) ?_;exact ⟨_,ax,rfl⟩
 have c7:¬ ag=7:=sU c;rw [ah c7] at h;refine br ?_ ?_<;>intro c
 ·have c:ag=8:=sU c;rw [ai c] at h;have hz:=hz c;refine iX (bi h) ?_;exact ⟨_,ax,rfl⟩
 have c8:¬ ag=8:=sU c;rw [ah c8] at h;refine iX (bi h) ?_;exact ⟨_,ax,rfl⟩
theorem Uh {v:Val} (h:rngW v):sN v.n:=by obtain ⟨_,_,_,_⟩:=v;rw [rngW] at h;exact h.2.1
theorem Rr {L:Nat} {ND:List Nd} (bZ:∀ d∈ND,eD L ND.length d) {v:Val} {i:Int} (hr:rngW v) (h:gm ND v i=true):textV ND v i ≠ []:=by
 obtain ⟨d,hd,hc⟩:=jI h;have h1:=(CS (bZ d (mG (de hd).2)) (Uh hr) hc).1;obtain ⟨k,n,s,ks⟩:=v;rw [textV,hd];simp [h1]
abbrev ZF (PC LC:List DV) (cE:Int):List DV:=[.pt PC 0,.pt LC 0,.v (.int .i64 cE)]
section
variable {n:Nat} {f:Nat->Nat->Bool} {af:List ByteArray} {LC:List DV} (hR:MH n f af LC) (PC:List DV)
include hR
theorem yU (cE a:Nat) (ho:cE < n) (ha:a < n):EvP prog 140 [.agg (ZF PC LC cE),.v (.int .i64 a)] (.v (.bool (f a cE))):=by
 have hq:=hR.leq a cE;rw [QV ha ho] at hq;refine eG 11 [.tmp 4] func140 rfl ntmps140 rfl fun _ _ _ _=>?_;refine cP en88 hq ?_;exact (rfl:_=_)
theorem yV {ND:List Nd} (cE a:Nat) (ho:cE < n) (ha:a < n) (d:Nd) (e:Ed) (hN:eD n ND.length d) (hm:e∈d.av):EvP prog 141 [.agg (ZF PC LC cE),.agg (uV e),.v (.int .i64 a)] (.v (.bool (decide (e.ck≠0) && f (uv f n a e.seen.toNat) cE))):=by
 obtain ⟨_,_,h3,MX⟩:=ic hN hm;have hj:=hR.join a e.seen.toNat ha MX;rw [<- h3] at hj;have hs:=yU hR PC cE (uv f n a e.seen.toNat) ho (yz hR.ok ha MX);obtain ⟨en,eb,ea,et,vB,ew,lL,yP,yQ,tN⟩:=e;refine eG 20 [.tmp 6] func141 rfl ntmps141 rfl fun _ _ _ _=>?_;refine dI ?_;refine br ?_ ?_<;>intro c
 ·have c:lL≠0:=sU c;refine cD JS hj ?_;refine cD UO hs ?_;rw [show decide ((⟨en,eb,ea,et,vB,ew,lL,yP,yQ,tN⟩:Ed).ck≠0)=true from decide_eq_true c,Bool.true_and];exact (rfl:_=_)
 ·have c:¬ lL≠0:=sU c;rw [show decide ((⟨en,eb,ea,et,vB,ew,lL,yP,yQ,tN⟩:Ed).ck≠0)=false from decide_eq_false c,Bool.false_and];exact (rfl:_=_)
theorem I2 {ND:List Nd} (cE:Int) (a:Nat) (ha:a < n) (d:Nd) (v:Val) (j:Nat) (e:Ed) (h:bY d v.n j=some e) (hm:e∈d.av) (hN:eD n ND.length d) (h5:5<=d.ag) (hz:d.ag=8->(0<=v.n/\v.n < d.av.length)/\j=0) (iq:d.av.length<=1099511627776) :
  EvP prog 139 [.agg (ZF PC LC cE),.agg (jt d),.agg (aH v),.v (.int .i64 j),.v (.int .i64 a)] (.tup [.agg (uV e),.v (.int .i64 (nD f n d e a:Nat))]):=by
 obtain ⟨_,⟨h2,Et⟩,_⟩:=ic hN hm;have hj:=hR.join a e.label.toNat ha Et;rw [<- h2] at hj;have hU:nD f n d e a=if d.ag < 7 then a else uv f n a e.label.toNat:=rfl
 generalize nD f n d e a=U at hU ⊢;have h8:=hN.k8;obtain ⟨ag,aG,lo,hi,most,ZG,es⟩:=d;obtain ⟨k,z,s,ks⟩:=v;simp only [Val.n] at h hz iq hU h5 h8;have kL:=cm es;unfold bY at h;simp only at h;have hd:∃ en eb ea et vB ew lL yP yQ tN,e=⟨en,eb,ea,et,vB,ew,lL,yP,yQ,tN⟩:=⟨_,_,_,_,_,_,_,_,_,_,rfl⟩
 have YH:∃ (l:List (List DV)) (b:Bool),EvP prog 213 [.agg (jt ⟨ag,aG,lo,hi,most,ZG,es⟩),.agg (aH (.mk k z s ks))] (.tup [.sl 10 l none,.v (.bool b)])/\(if ag < 7 then b=false/\l[0]? = some (uV e) else b=true/\l[j]? = some (uV e)):=by
  by_cases c7:ag=7
  ·rw [ai c7] at h;refine ⟨fU es,true,?_,by rw [ah (by omega)];exact ⟨rfl,bi h⟩⟩;refine eG 24 [.tmp 4,.tmp 5] func213 rfl ntmps213 rfl fun _ _ _ _=>?_;refine br (fun _=>?_) (fun c=>absurd c7 (sU c));exact ⟨_,ax,rfl⟩
  rw [ah c7] at h;by_cases c8:ag=8
  ·rw [ai c8] at h;have hz:=hz c8;have hw:IntKind.i64.wrap (z + 1)=z + 1:=wrap64 (by omega) (by omega);refine ⟨((fU es).take (IntKind.i64.wrap (z + 1)).toNat).drop z.toNat,true,?_,by rw [ah (by omega),hz.2,List.getElem?_drop,bG,ai (by rw [hw];omega)];exact ⟨rfl,bi h⟩⟩;refine eG 24 [.tmp 4,.tmp 5] func213 rfl ntmps213 rfl fun _ _ _ _=>?_;refine br (fun c=>absurd (sU c) c7) (fun _=>?_);refine br (fun _=>?_) (fun c=>absurd c8 (sU c));refine ⟨⟨by omega,by rw [hw];omega,by rw [hw,cm];simp only;omega⟩,?_⟩;exact ⟨_,ax,rfl⟩
  ·rw [ah c8] at h;refine ⟨fU es,false,?_,by rw [ai (by omega)];exact ⟨rfl,bi h⟩⟩;refine eG 24 [.tmp 4,.tmp 5] func213 rfl ntmps213 rfl fun _ _ _ _=>?_;refine br (fun c=>absurd (sU c) c7) (fun _=>?_);refine br (fun c=>absurd (sU c) c8) (fun _=>?_);exact ⟨_,ax,rfl⟩
 obtain ⟨l,b,hE,hl⟩:=YH;by_cases c:ag < 7
 ·rw [ai c] at hl hU;obtain ⟨rfl,hl⟩:=hl;subst hU;obtain ⟨en,eb,ea,et,vB,ew,lL,yP,yQ,tN,rfl⟩:=hd;refine eG 38 [.cell 10 193,.tmp 11] func139 rfl ntmps139 rfl fun _ _ _ _=>?_;refine cP UZ hE ?_;refine ⟨_,⟨by omega,hl⟩,?_⟩;exact ⟨_,ax,rfl⟩
 ·rw [ah c] at hl hU;obtain ⟨rfl,hl⟩:=hl;subst hU;obtain ⟨en,eb,ea,et,vB,ew,lL,yP,yQ,tN,rfl⟩:=hd;refine eG 38 [.cell 10 193,.tmp 11] func139 rfl ntmps139 rfl fun _ _ _ _=>?_;refine cP UZ hE ?_;refine ⟨_,⟨by omega,hl⟩,?_⟩;refine dS ?_;refine cD JS hj ?_;exact ⟨_,ax,rfl⟩
end
abbrev ad8 (a:ByteArray) (aG:Nat) (m:Int) (e:Nat):St:=⟨[(0,⟨[],.v (.string a)⟩),aaa 5 aG,aaa 8 m,aaa 9 e],[],[]⟩
theorem I3 (a:ByteArray) (ha:a.size<=1099511627776) (m:Int) (hm:m<=9223372036854775807):EvP prog 215 [.v (.string a),.v (.int .i64 m)] (.v (.string (ba (headL m.toNat (tx a))))):=by
 refine eG 28 [.tmp 4] func215 rfl ntmps215 rfl fun _ _ _ _=>?_;refine lI (fun j st=>∃ e aG:Nat,st=ad8 a aG m e/\(e:Int)<=max m 0/\aG <= a.size/\(tx a).take aG ++ headL (m.toNat - e) ((tx a).drop aG)=headL m.toNat (tx a)/\j=m.toNat - e) ⟨0,0,rfl,by omega,by omega,by simp,rfl⟩ (wkM kr) ?_;rintro j st ⟨e,aG,rfl,he,h1,hE,rfl⟩;have fi:=bB a
 have ad9:headL (m.toNat - e) ((tx a).drop aG)=[]->a.extract 0 aG=ba (headL m.toNat (tx a)):=fun h=>by
  rw [h,List.append_nil] at hE;rw [<- hE];exact mT (vy a aG)
 refine br ?_ ?_<;>intro hL
 rotate_left
 ·have aS:m.toNat - e=0:=by have:=of_decide_eq_false hL;omega
  refine ⟨⟨by omega,by omega,by omega⟩,?_⟩;exact (congrArg (fun z=>DV.v (.string z)) (ad9 (by rw [aS];rfl)):_=_)
 have aq:(e:Int) < m:=of_decide_eq_true hL;refine br ?_ ?_<;>intro c
 ·have c:aG=a.size:=by have:=of_decide_eq_true c;omega
  refine ⟨⟨by omega,by omega,by omega⟩,?_⟩;exact (congrArg (fun z=>DV.v (.string z)) (ad9 (by rw [List.drop_of_length_le (by omega),A0])):_=_)
 have c:aG < a.size:=by have:=of_decide_eq_false c;omega
 have hua:=Mt a aG ha h1
 have aQ:(tx a).drop aG ≠ []:=fun h=>by
  have:=congrArg List.length h;rw [List.length_drop,List.length_nil] at this;omega
 have hup:=rL aQ;rw [List.length_drop] at hup;obtain ⟨k,hk⟩:∃ k,m.toNat - e=k + 1:=⟨m.toNat - e - 1,by omega⟩;rw [hk,show headL (k + 1) ((tx a).drop aG)=((tx a).drop aG).take (lm ((tx a).drop aG)) ++ headL k (((tx a).drop aG).drop (lm ((tx a).drop aG))) from rfl,<- List.append_assoc,List.drop_drop,<- List.take_add] at hE;generalize lm ((tx a).drop aG)=w at hua hup hE;refine bE abr rfl hua ax (fun q hq=>?_);obtain ⟨z1,rfl⟩:=hq
 have hw:IntKind.i64.wrap ((aG:Int) + w)=((aG + w:Nat):Int):=by
  rw [wrap64 (by omega) (by omega)];omega
 have Ku:IntKind.i64.wrap ((e:Int) + 1)=((e + 1:Nat):Int):=by
  rw [wrap64 (by omega) (by omega)];omega
 exact rE ⟨_,by omega,e + 1,aG + w,rfl,by omega,by omega,by rw [show m.toNat - (e + 1)=k by omega];exact hE,rfl⟩ (wkM (gw hw Ku))
abbrev Wn (a b:Val) (e:Nat):St:=⟨[aab 2 0,aab 3 1,aaa 5 e],[aH a,aH b],[]⟩
theorem uE:∀ (k:Nat) (a:Val),a.wt<=k->a.wt<=1099511627776->∀ b:Val,EvP prog 66 [.agg (aH a),.agg (aH b)] (.v (.bool (sameV a b)))
 | 0,v,h,_=>by have:=v.dz;omega
 | k + 1,.mk q n s ks,h,hb=>fun b=>by
  have ih:=uE k;rw [Val.wt] at h hb;obtain ⟨bk,bn,bs,bl⟩:=b;have NP:=b9 ks;have h1:=aP ks;have h2:=aP bl;have hS:sameV (.mk q n s ks) (.mk bk bn bs bl)=(decide (q=bk) && decide (n=bn) && decide (s=bs) && sameVs ks bl):=by rw [sameV]
  refine eG 53 [.tmp 4] func66 rfl ntmps66 rfl fun _ _ _ _=>?_;refine br ?_ ?_<;>intro c
  ·have c:¬ (q=bk/\n=bn/\s=bs/\ks.length=bl.length):=by
    have:=c;simp [ap,h1,h2] at this;intro hh;obtain ⟨a1,a2,a3,a4⟩:=hh;simp [a1,a2,a3,a4] at this
   refine (aae ?_:);rw [hS];by_cases hl:ks.length=bl.length
   ·symm;rw [Bool.and_eq_false_iff];left;simp only [Bool.and_eq_false_iff,decide_eq_false_iff_not];by_cases a1:q=bk
    ·by_cases a2:n=bn
     ·right;exact fun a3=>c ⟨a1,a2,a3,hl⟩
     ·left;right;exact a2
    ·left;left;exact a1
   ·rw [qp hl,Bool.and_false]
  ·have c:q=bk/\n=bn/\s=bs/\ks.length=bl.length:=by
    have:=c;simp [ap,h1,h2] at this;obtain ⟨⟨⟨a1,a2⟩,a3⟩,a4⟩:=this;exact ⟨a1,a2,a3,by omega⟩
   obtain ⟨rfl,rfl,rfl,hl⟩:=c;simp only [decide_true,Bool.true_and] at hS;rw [hS]
   refine aT (fun j st=>∃ e:Nat,st=Wn (.mk q n s ks) (.mk q n s bl) e/\e<=ks.length/\sameVs ks bl=sameVs (ks.drop e) (bl.drop e)/\j=ks.length - e) ks.length
    (Wn (.mk q n s ks) (.mk q n s bl) 0) (wkM wB) ⟨0,rfl,by omega,rfl,by omega⟩ ?_
   rintro _ st ⟨e,rfl,he,aK,rfl⟩;refine br ?_ ?_<;>intro h
   ·have aq:e < ks.length:=sV h1 h;obtain ⟨x,hx⟩:=gX aq;obtain ⟨y,hy⟩:∃ y,bl[e]? = some y:=⟨_,gE (hl ▸ aq)⟩;rw [drop_cons hx,drop_cons hy,sameVs] at aK;have EP:=cS (mG hx);have Se:=ih x (by omega) (by omega) y;obtain ⟨xk,xn,xs,xl⟩:=x;obtain ⟨yk,yn,ys,yl⟩:=y;refine dI ?_;refine iX (bf hx) ?_;refine iX (bf hy) ?_;refine cD aaB Se ?_;refine br ?_ ?_<;>intro h
    ·have aQ:sameV (.mk xk xn xs xl) (.mk yk yn ys yl)=false:=sU h;refine (aae ?_:);rw [aK,aQ,Bool.false_and]
    ·have aQ:sameV (.mk xk xn xs xl) (.mk yk yn ys yl)=true:=sU h;rw [aQ,Bool.true_and] at aK;exact rE ⟨_,by omega,e + 1,rfl,by omega,aK,rfl⟩ (wkM (wB1 (nxt aq (by omega))))
   ·have aS:ks.length<=e:=sV h1 h;rw [List.drop_of_length_le (by omega),List.drop_of_length_le (by omega)] at aK;refine (aae ?_:);rw [aK];simp [sameVs]
theorem lu (a:Val) (ha:a.wt<=1099511627776) (b:Val):EvP prog 17 [.agg (aH a),.agg (aH b)] (.v (.bool (sameV a b))):=by
 have h:=uE _ a (aO _) ha b;obtain ⟨q,n,s,ks⟩:=a;obtain ⟨bk,bn,bs,bl⟩:=b;refine eG 8 [.tmp 4] func17 rfl ntmps17 rfl fun _ _ _ _=>?_;refine cP aaB h ?_;exact (rfl:_=_)
section
variable (a b:Nat) (A B:List (List DV)) (rt:Int) {ND:List Nd} {L:Nat} (bZ:∀ n∈ND,eD L ND.length n)
include bZ
end
section
variable {S:Sch} {ND:List Nd} {PC LC:List DV} (hP:fw S ND PC) (nh:EvP prog 72 [.pt PC 0] (.pt LC 0)) (hR:MH S.ae.length (bL S) (aA S.ae) LC) (hrS:∀ n∈ND,IV n) (bH:∀ n∈ND,n.av.length<=1099511627776) (rt:Nat) (zc:dV S=rt)
include nh hR
theorem I4 (o:Int):EvP prog 67 [.pt PC 0,.v (.int .i64 o)] (.tup [.agg (ZF PC LC o),.v (.bool (decide (0<=o/\o < S.ae.length)))]):=by
 have hlen:=hR.len;refine eG 21 [.cell 4 148,.tmp 5] func67 rfl ntmps67 rfl fun _ _ _ _=>?_;refine cP SG nh ?_;refine br ?_ ?_<;>intro c
 ·have c:0<=o:=sU c;refine cP Od hlen ?_;have hd:decide (0<=o/\o < (S.ae.length:Int))=decide (o < (S.ae.length:Int)):=decide_eq_decide.2 ⟨fun h=>h.2,fun h=>⟨c,h⟩⟩;rw [hd];exact ⟨_,ax,rfl⟩
 ·have c:¬ 0<=o:=sU c;rw [show decide (0<=o/\o < (S.ae.length:Int))=false from decide_eq_false (fun h=>c h.1)];exact ⟨_,ax,rfl⟩
include hP hrS bH zc
end
end Go.Proofs.YtgjagnmeonoehaaGreat
