/- Part 7 of the proof: Rules for the evaluator: String of a Builder that holds nothing; The text of a path, of a row: plain, the program's, the document's; How what is seen of values is written: the program's plain, word, of; Reading of values whose numbers are ints, and of arrays of two; What is known of values that are written; how long their texts are: plain; Paths of a value: plain; tree.steps; Where steps lead in a value, and that value with another one there: plain; Rules for the evaluator: calls that hand back fresh rows; Rules for the evaluator: elements of rows whose cells nobody else knows, read and written whole; tree: slices.Index of steps, kid, clone, Get; tree.write, Raw; The least depths of the values of a plan's nodes: plain; The program's nodes, least depths; The document's least depths; fine; the chapter's example; The program's Depths; The law of least depths: fine, the example, the call returns true; The document's Fits; Written values: well formed; the document's Same on the same value; its Raw; ref25.Paths; tree: walk, Paths; What is different between two values: plain; How what is seen of values is written: the program's write; A text's first units: the document's Head, the program's heads, floors; The numbers of a plan's nodes are ints; A region that draws its order, in which a new object may come at any time among calls: its run with the object made at each of these times serves every order; Where steps lead: the document's Edge, Walk; the program's; The program's way along steps: fits, step, Walk; With which schemas nothing is wrong: the document's Wrong of chapters 20, 21; the law's fine; Which levels see a place: the program's Who; A region that draws its order, run by a schedule: at each point all that may come and has an effect is tried; The document's rows of an audit: With, Under, How, Rows; What is seen of a value: the document's Edge, Coarse, Erase, Seen; How what is seen of values is written: Compact; the document's open, end, Text; How what is seen of values is written: the document's Text; what is seen may be written; Documents: plain (as values); the program's Text, Line, Soft, Cat, Nest, Group; What is seen of a value: the program's look, sees, coarsely, edge, coarse; The document's Kid, Get, Set of a value that fits; The document's Same of values, Set; The document's rows of an audit; All rows of an audit, by the document; the law's bounds; Alike, differ: the document's; What is seen of a value: the program's erase, Erase, Hidden; Which values may be what is seen of one: shell, May, outer, plain, the document's May; Which values may be what is seen of one: the program's fits, Fits, the document's Fits, Seeable. No condition. -/
import Derived.OpenShut
import Derived.Test.YtffhgcbfpidfiaaGreatMr2
import Derived.Test.YtffhgcbfpidfiaaGreatMr3
import Derived.Test.YtffhgcbfpidfiaaGreatMr4
import Derived.Test.YtffhgcbfpidfiaaGreatMr5
import Derived.Test.YtffhgcbfpidfiaaGreatMr6
set_option linter.all false
set_option maxRecDepth 100000
namespace Go.Proofs.YtffhgcbfpidfiaaGreat
open Go Go.RowKit Dv Go.Proofs.Tryz
theorem SJ (b:Nat) (p:Value) (w:World) (mT:w.heap[b]? = some (.cells #[p,.slice none 0 0] 135 (0,0))) :
  Calls prog 60 #[.pointer (some ⟨b,0,none⟩)] w fun e w'=>e = .returned (.string ⟨#[]⟩)/\w'=w.drew:=by
 have c1:w.drew.cell? ⟨b,1,none⟩=some (.slice none 0 0):=by
  have:w.drew.heap[b]? = some (.cells #[p,.slice none 0 0] 135 (0,0)):=mT;rw [Lib.cell_of_heap this];all_goals rfl
 have hSD:(Builtin.unsafeSliceData_ #[133] 209 #[.slice none 0 0]).run prog w.drew = .ok (.pointer none) w.drew:=
  Lib.run_unsafeSliceData_nil _ _ _ _ _
 have hUS:(Builtin.unsafeString_ #[209,3] 9 #[.pointer none,.int .i64 0]).run prog w.drew = .ok (.string ⟨#[]⟩) w.drew:=
  Lib.run_unsafeString_none w.drew 209 3 9 none
 have mixed:=mo
 go_enter func60,ntmps60
 go_wp2
 go_region_o
 all_goals (go_wp2;go_ret;exact ⟨rfl,rfl⟩)
theorem PL {X:Ctx} {st:St} {k:List It} (hP:X.P=prog) {i d:Nat} {p:DV} (hbt:(i,135)∈X.bt) (jL:st.bx[i]? = some [p,.v (.slice none 0 0)])
  (jt:X.n0=0) (jG:X.m0=0) (hd:eL X.nt st.sl (some d)=true)
  (hk:go X 4000 k ⟨[(d,⟨[],.v (.string ⟨#[]⟩)⟩)],[],[]⟩) (aU:X.still=false:=by exact rfl):dx X 60 [.loc i 0] (some d) k st:=by
 refine ⟨?_,aU,fun E a w vs h hv=>?_⟩
 ·rw [hP];exact Y0
 rw [hP];simp only [RvL] at hv;obtain ⟨v1,vr,rfl,h1,rfl⟩:=hv;unfold Rv at h1;obtain ⟨b,hb,rfl⟩:=h1;obtain ⟨b',ty,arr,dO,hw,q7⟩:=h.env.ek i _ jL;rw [hb] at dO;simp only [oI] at dO;subst dO;obtain ⟨Rh,po⟩:=h.bt _ hbt b hb;rw [hw] at po;simp only [oI,Obj.cells.injEq] at po;have QX:ty=135:=po.2.1;subst QX;obtain ⟨hr,ho⟩:=q7;simp only [RvL] at hr;obtain ⟨pv,r1,rfl,Su,cv,r2,rfl,Po,rfl⟩:=hr;unfold Rv at Po;obtain ⟨rfl,_⟩:=Po;refine (SJ b pv w hw).mono ?_;rintro e w' ⟨rfl,rfl⟩;have hE0:X.E0.β=[]:=List.eq_nil_of_length_eq_zero (by rw [X.jt,jt]);have WQ:X.E0.tk=[]:=List.eq_nil_of_length_eq_zero (by rw [X.jG,jG])
 let E':En:=⟨E.c,[],[],[]⟩
 have bY:Rel X E' ⟨[],[],[]⟩ a w.drew:={
  env:={
   len:=rfl
   tl:=rfl
   ek:=by simp
   inj:=List.nodup_nil
   sub:=fun x v hx=>h.env.sub x v hx
   pc:=by simp [E']
   ct:=by simp [E']
   iW:=by simp [E'] }
  tk:=rfl
  sz:=h.sz
  tm:=fun i x hx=>by cases hx
  df:=h.df
  nw:={
   c:=fun x v hx=>h.nw.c x v hx
   cn:=fun x v hx=>h.nw.cn x v hx
   β:=⟨[],by rw [hE0];rfl,by simp⟩
   tk:=fun k q y hq _=>by rw [WQ] at hq;simp at hq
   tn:=fun k y g' _ hy _=>by simp [E'] at hy
   l0:=h.nw.l0 }
  fr:=h.fr.cj rfl rfl rfl (Nat.le_refl _) fun j hj=>Or.inr rfl
  sh:=mh aU
  bt:=fun p hp b hb=>by simp [E'] at hb }
 have ra:eL X.nt ([]:List (Nat × Sl)) (some d)=true:=by
  simp only [eL,Bool.and_eq_true] at hd ⊢;exact ⟨hd.1,rfl⟩
 exact go_sound 4000 _ _ hk _ _ _ (aZ (st:=⟨[],[],[]⟩) bY ra (.v (.string ⟨#[]⟩)) _ (by unfold Rv;exact ⟨rfl,rfl⟩))
def stepT (s:bV):List UInt8:=if s.k=1 then 46 :: tx s.s else if s.k=2 then 91 :: (gO s.n ++ [93]) else if s.k=3 then [91,93] else if s.k=4 then [63] else 33 :: tx s.s
def xJ (l:List bV):List UInt8:=if kI l=true then (l.map stepT).flatten else []
def PM (s:bV):Prop:=(-9223372036854775808<=s.n/\s.n<=9223372036854775807)/\s.s.size<=1099511627776
theorem Et (s:bV):stepT s ≠ []:=by
 unfold stepT
 repeat' split
 all_goals simp
theorem iK {s:ByteArray} (h:bd s=true):s.size<=32:=by
 unfold bd at h;simp only [Bool.and_eq_true,decide_eq_true_eq] at h;exact h.2.1
theorem Lp {s:bV} (hi:PM s) (h:du s=true):(stepT s).length<=33:=by
 have hp:=vy hi.1.1 hi.1.2;unfold du at h;unfold stepT;by_cases h1:s.k=1
 ·rw [if_pos h1];rw [if_pos (.inl h1)] at h;simp only [Bool.and_eq_true] at h;have:=iK h.2;simp only [List.length_cons,bB];omega
 ·rw [if_neg h1];by_cases h2:s.k=2
  ·rw [if_pos h2];simp only [List.length_cons,List.length_append,List.length_nil];omega
  ·rw [if_neg h2];by_cases h3:s.k=3
   ·rw [if_pos h3];simp
   ·rw [if_neg h3];by_cases h4:s.k=4
    ·rw [if_pos h4];simp
    ·rw [if_neg h4];by_cases h5:s.k=5
     ·rw [if_pos (.inr h5)] at h;simp only [Bool.and_eq_true] at h;have:=iK h.2;simp only [List.length_cons,bB];omega
     ·rw [if_neg (by omega),if_neg h2,if_neg (by omega)] at h;cases h
theorem zX:∀ {l:List bV},(∀ s∈l,PM s)->l.all du=true->((l.map stepT).flatten).length<=33 * l.length
 | [],_,_=>by simp
 | s :: r,hi,h=>by
  simp only [List.all_cons,Bool.and_eq_true] at h;have h1:=Lp (hi s (by simp)) h.1;have h2:=zX (l:=r) (fun x hx=>hi x (by simp [hx])) h.2;simp only [List.map_cons,List.flatten_cons,List.length_append,List.length_cons];omega
theorem UD (a:Array UInt8):tx ⟨a⟩=a.toList:=rfl
theorem xK (s:bV) (hi:PM s):EvP prog 166 [.agg (l9 s)] (.v (.string (ba (stepT s)))):=by
 have hp:=C1 s.n hi.1.1 hi.1.2;have hpl:=Ke hi.1.1 hi.1.2;obtain ⟨k,n,t⟩:=s;have hs:=hi.2;simp only at hs hp hpl;have hF:stepT ⟨k,n,t⟩=if k=1 then 46 :: tx t else if k=2 then 91 :: (gO n ++ [93]) else if k=3 then [91,93] else if k=4 then [63] else 33 :: tx t:=rfl
 generalize stepT ⟨k,n,t⟩=F at hF ⊢;refine eG 24 [.tmp 2] func166 rfl ntmps166 rfl fun _ _ _ _=>?_;refine br ?_ ?_<;>intro c
 ·have c:k=1:=sU c;rw [if_pos c] at hF;subst hF;refine ⟨by (simp only [jb,sS,List.length_cons,List.length_nil];omega),?_⟩;refine (congrArg (fun s=>DV.v (.string s)) (lR ?_):_=_);simp [vz,UD]
 have c1:¬ k=1:=sU c;rw [if_neg c1] at hF;refine br ?_ ?_<;>intro c
 ·have c:k=2:=sU c;rw [if_pos c] at hF;subst hF;refine cP Iu hp ?_;refine ⟨by (simp only [jb,sS,List.length_cons,List.length_nil];omega),?_⟩;refine ⟨by (simp only [jb,sS,List.length_cons,List.length_nil];omega),?_⟩;refine (congrArg (fun s=>DV.v (.string s)) (lR ?_):_=_);simp [vz,UD,Ru]
 have c2:¬ k=2:=sU c;rw [if_neg c2] at hF;refine br ?_ ?_<;>intro c
 ·have c:k=3:=sU c;rw [if_pos c] at hF;subst hF;exact (rfl:_=_)
 have c3:¬ k=3:=sU c;rw [if_neg c3] at hF;refine br ?_ ?_<;>intro c
 ·have c:k=4:=sU c;rw [if_pos c] at hF;subst hF;exact (rfl:_=_)
 have c4:¬ k=4:=sU c;rw [if_neg c4] at hF;subst hF;refine ⟨by (simp only [jb,sS,List.length_cons,List.length_nil];omega),?_⟩;refine (congrArg (fun s=>DV.v (.string s)) (lR ?_):_=_);simp [vz,UD]
def kp (l:List bV) (e:Nat):List UInt8:=((l.take e).map stepT).flatten
theorem xL {l:List bV} {e:Nat} {x:bV} (h:l[e]? = some x):kp l (e + 1)=kp l e ++ stepT x:=by
 unfold kp;rw [List.take_add_one,h];simp
theorem Lq {l:List bV} (hi:∀ s∈l,PM s) (hr:l.all du=true) (hl:l.length<=64) (e:Nat):(kp l e).length<=2112:=by
 have h1:=zX (l:=l.take e) (fun s hs=>hi s (List.mem_of_mem_take hs)) (List.all_eq_true.2 fun s hs=>List.all_eq_true.1 hr s (List.mem_of_mem_take hs));have h2:(l.take e).length<=l.length:=by rw [List.length_take];omega
 unfold kp;omega
theorem Eu {l:List bV} (h:kI l=true):xJ l=kp l l.length:=by unfold xJ kp;rw [if_pos h,List.take_length]
theorem BH {l:List bV} (h:kI l=true):l.length<=64/\l.all du=true:=by
 unfold kI at h;simp only [Bool.and_eq_true,decide_eq_true_eq] at h;exact h
abbrev UE (l:List bV):St:=⟨[(3,⟨[],.loc 0 0⟩),(9,⟨[],.sl 3 (ch l) none⟩),(10,⟨[],.v (.int .i64 (ch l).length)⟩),(11,⟨[],.v (.int .i64 (0:Nat))⟩)],[[.v (.pointer none),.v (.slice none 0 0)]],[]⟩
abbrev W0 (l:List bV) (T:List UInt8) (e:Nat):St:=⟨[(3,⟨[],.loc 0 0⟩),(9,⟨[],.sl 3 (ch l) none⟩),(10,⟨[],.v (.int .i64 (ch l).length)⟩),(11,⟨[],.v (.int .i64 e)⟩)],[[.loc 0 0,.sl 1 (bD T) (some 0)]],[⟨T.length,5,1,none⟩]⟩
theorem zY (l:List bV) (hi:∀ s∈l,PM s):EvP prog 118 [.sl 3 (ch l) none] (.v (.string (ba (xJ l)))):=by
 have BI:=te l (fun s hs=>by have:=(hi s hs).2;omega);have cu:=gD l
 cases hR:kI l with
 | false=>
  rw [hR] at BI;have hF:xJ l=[]:=by unfold xJ;rw [hR];all_goals rfl
  rw [hF];refine abe (s:=false) (bt:=[(0,135)]) (hbt:=fun p hp=>Nat.zero_le _) (P:=prog) tt aaP 5000 20 [.tmp 2] func118 rfl ntmps118 rfl (nL rfl) (fun _ _ _ _=>?_);refine cP Is BI ?_;exact (rfl:_=_)
 | true=>
 rw [hR] at BI;obtain ⟨Sd,ir⟩:=BH hR;have hF:=Eu hR;have hpl:=Lq hi ir Sd;rw [hF];refine abe (s:=false) (bt:=[(0,135)]) (hbt:=fun p hp=>Nat.zero_le _) (P:=prog) tt aaP 5000 20 [.tmp 2] func118 rfl ntmps118 rfl (nL rfl) (fun _ _ _ _=>?_);refine cP Is BI ?_;refine av (fun j st=>∃ e:Nat,((e=0/\st=UE l)∨(kp l e ≠ []/\st=W0 l (kp l e) e))/\e<=l.length/\j=l.length - e) l.length (UE l) (weak_mk ⟨_,rfl⟩ wA rfl rfl rfl wB) ⟨0,.inl ⟨rfl,rfl⟩,by omega,by omega⟩ ?_;rintro j st ⟨e,(⟨rfl,rfl⟩ | ⟨WQ,rfl⟩),he,rfl⟩
 ·refine br ?_ ?_<;>intro hL
  ·have au:0 < l.length:=sV cu hL;obtain ⟨x,hx⟩:=gX au;have UF:=hi x (mG hx);have ht:=xK x UF;have fu:=xL hx;have aT:=Et x;have hp0:kp l 0=[]:=rfl;rw [hp0,List.nil_append] at fu;have yb:=hpl (0 + 1);rw [fu] at yb;have ub:0 < (stepT x).length:=List.length_pos_iff.2 aT;obtain ⟨xk,xn,xs⟩:=x;refine iX (iG hx) ?_;refine cP TD ht ?_;refine D6 rfl (stepT ⟨xk,xn,xs⟩) (l:=[]) (kt:=0) (by simp [mR]) (.head _) rfl (.inl rfl) (.inl ⟨rfl,rfl,rfl,rfl⟩) (by (simp only [jb,sS,List.length_cons,List.length_nil];omega)) (by omega) rfl ?_;refine ⟨W0 l (stepT ⟨xk,xn,xs⟩) 1,(weak_mk ⟨_,rfl⟩ wA rfl rfl rfl (wB1 (nxt au (by omega)))),l.length - 1,by omega,1,.inr ⟨by rw [fu];exact aT,by rw [fu]⟩,by omega,rfl⟩
  ·have aN:l.length=0:=by have:=hL;simp [cu] at this;first | omega | simp [this]
   rw [aN];refine PL rfl (.head _) rfl rfl rfl rfl ?_;exact (rfl:_=_)
 ·refine br ?_ ?_<;>intro hL
  ·have au:e < l.length:=sV cu hL;obtain ⟨x,hx⟩:=gX au;have UF:=hi x (mG hx);have ht:=xK x UF;have fu:=xL hx;have aT:=Et x;have yb:=hpl (e + 1);have ub:0 < (stepT x).length:=List.length_pos_iff.2 aT;obtain ⟨xk,xn,xs⟩:=x;refine iX (iG hx) ?_;refine cP TD ht ?_;refine D6 rfl (kp l (e + 1)) (l:=kp l e) (kt:=0) (by rw [fu];all_goals simp [mR]) (.head _) rfl (.inr rfl) (.inr ⟨rfl,WQ,rfl,rfl⟩) (by (simp only [jb,sS,List.length_cons,List.length_nil];omega)) (by omega) rfl ?_;refine ⟨W0 l (kp l (e + 1)) (e + 1),(weak_mk ⟨_,rfl⟩ wA rfl rfl rfl (wB1 (nxt au (by omega)))),l.length - (e + 1),by omega,e + 1,.inr ⟨by rw [fu];simp [aT],rfl⟩,by omega,rfl⟩
  ·have aN:e=l.length:=sW cu hL;subst aN;refine uF rfl (l:=kp l l.length) (kt:=0) (.head _) rfl WQ rfl rfl rfl rfl ?_;exact (rfl:_=_)
namespace Dv
section
variable {X:Ctx} {st:St} {k:List It}
theorem UG {o:Oper} {t d e:Nat} {x:Operand} {es:List (List DV)} {tk:Option Nat} {n et e' je:Nat} {bb:Bool} {z:List Value} (ly:∃ t',o.op = .binOp .neq t x (.const (.slice none 0 0)) t') (fg:o.dst=some d) (hx:rv st [] x=some (.sl e es tk)) (aT:es ≠ []) (hT:X.T.find t=some ⟨n,bb,.sl et e' je,z⟩) (hd:eL X.nt st.sl (some d)=true)
  (hk:go X 4000 k ⟨(d,⟨[],.v (.bool true)⟩) :: st.sl,st.bx,st.tk⟩):HS X o k st:=by
 intro E a w h;obtain ⟨t',ly⟩:=ly;have e1:=aW h.rl hx;unfold Rv at e1;obtain ⟨b,m,cap,e1,⟨rfl,_⟩,hr,_⟩:=e1;obtain ⟨hu,_⟩:=eA X.hT hT;have aK:=qB hu b es.length cap w;have hb:b.isNone=false:=by rw [mE (hr aT).1];all_goals rfl
 have cf:(execOp a.eval o).run X.P w = .ok (.value (.bool true)) w:=by
  have hc:a.eval (.const (.slice none 0 0)) = .slice none 0 0:=rfl;rw [hb] at aK;simp [execOp,ly,e1,hc,eqGuard,binOp,aK]
 refine gK cf ?_;rw [fg];exact go_sound 4000 _ _ hk E _ w (aZ h hd (.v (.bool true)) _ (by unfold Rv;exact ⟨rfl,rfl⟩))
theorem PN {o:Oper} {t d et e' je n:Nat} {x:Operand} {bb:Bool} {z:List Value} (ly:∃ t',o.op = .binOp .neq t x (.const (.slice none 0 0)) t') (fg:o.dst=some d) (hx:rv st [] x=some (.v (.slice none 0 0))) (hT:X.T.find t=some ⟨n,bb,.sl et e' je,z⟩) (hd:eL X.nt st.sl (some d)=true)
  (hk:go X 4000 k ⟨(d,⟨[],.v (.bool false)⟩) :: st.sl,st.bx,st.tk⟩):HS X o k st:=by
 intro E a w h;obtain ⟨t',ly⟩:=ly;have e1:=aW h.rl hx;unfold Rv at e1;obtain ⟨hu,_⟩:=eA X.hT hT;have aK:=qB hu none 0 0 w
 have cf:(execOp a.eval o).run X.P w = .ok (.value (.bool false)) w:=by
  have hc:a.eval (.const (.slice none 0 0)) = .slice none 0 0:=rfl;simp [execOp,ly,e1.1,hc,eqGuard,binOp,aK]
 refine gK cf ?_;rw [fg];exact go_sound 4000 _ _ hk E _ w (aZ h hd (.v (.bool false)) _ (by unfold Rv;exact ⟨rfl,rfl⟩))
end
end Dv
theorem qS (v:Val):EvP prog 196 [.agg (aM v)] (.v (.bool (decide (v.k < 5) || decide (8 < v.k)))):=by
 obtain ⟨k,n,s,ks⟩:=v;refine eG 11 [.tmp 2] func196 rfl ntmps196 rfl fun _ _ _ _=>?_;refine (congrArg (fun b=>DV.v (.bool b)) ?_:_=_);simp only [ap,Val.k];rfl
section
variable {d:Nd} {v:Val}
theorem opn_1 (h:v.k=1) (g:v.n=1):fO d v=[116,114,117,101]:=by rw [fO,if_pos h,if_pos g]
theorem PO (h:v.k=1) (g:¬ v.n=1):fO d v=[102,97,108,115,101]:=by rw [fO,if_pos h,if_neg g]
theorem opn_4 {x:ByteArray} (h:v.k=4) (g:d.af[v.n.toNat]? = some x):fO d v=tx x:=by rw [fO,if_neg (by omega),if_pos h,g]
theorem opn_5 (h:v.k=5):fO d v=[91]:=by rw [fO,if_neg (by omega),if_neg (by omega),if_pos h]
theorem opn_6 (h:v.k=6):fO d v=if v.ks=[] then [110,111,110,101] else [115,111,109,101,40]:=by rw [fO,if_neg (by omega),if_neg (by omega),if_neg (by omega),if_pos h]
theorem PQ (h:v.k=6) (g:v.ks=[]):fO d v=[110,111,110,101]:=by rw [opn_6 h,if_pos g]
theorem PR (h:v.k=6) (g:v.ks ≠ []):fO d v=[115,111,109,101,40]:=by rw [opn_6 h,if_neg g]
theorem opn_7 (h:v.k=7):fO d v=[123]:=by rw [fO,if_neg (by omega),if_neg (by omega),if_neg (by omega),if_neg (by omega),if_pos h]
theorem opn_8 {e:Ed} (h:v.k=8) (g:d.aw[v.n.toNat]? = some e):fO d v=if v.ks=[] then tx e.name else tx e.name ++ [40]:=by
 rw [fO,if_neg (by omega),if_neg (by omega),if_neg (by omega),if_neg (by omega),if_neg (by omega),if_pos h,nmE,g]
theorem PS {e:Ed} (h:v.k=8) (g:d.aw[v.n.toNat]? = some e) (c:v.ks=[]):fO d v=tx e.name:=by rw [opn_8 h g,if_pos c]
theorem PT {e:Ed} (h:v.k=8) (g:d.aw[v.n.toNat]? = some e) (c:v.ks ≠ []):fO d v=tx e.name ++ [40]:=by rw [opn_8 h g,if_neg c]
theorem PU (h:v.k≠1/\v.k≠4/\v.k≠5/\v.k≠6/\v.k≠7/\v.k≠8):fO d v=ez v:=by
 rw [fO,if_neg h.1,if_neg h.2.1,if_neg h.2.2.1,if_neg h.2.2.2.1,if_neg h.2.2.2.2.1,if_neg h.2.2.2.2.2]
theorem end_5 (h:v.k=5):nz v=[93]:=by rw [nz,if_pos h]
theorem end_7 (h:v.k=7):nz v=[125]:=by rw [nz,if_neg (by omega),if_pos h]
theorem UH (h:v.k≠5/\v.k≠7):nz v=if v.ks=[] then [] else [41]:=by rw [nz,if_neg h.1,if_neg h.2]
theorem UI (h:v.k≠5/\v.k≠7) (g:v.ks=[]):nz v=[]:=by rw [UH h,if_pos g]
theorem abE (h:v.k≠5/\v.k≠7) (g:v.ks ≠ []):nz v=[41]:=by rw [UH h,if_neg g]
end
theorem Ew (d:Nd) (v:Val) (hs:v.s.size<=1099511627776) (hn:rK v.n) (hk:v.k<=4∨9<=v.k) (h4:v.k=4->0<=v.n/\v.n < d.af.length) :
  EvP prog 198 [.agg (jc d),.agg (aM v)] (.v (.string (ba (fO d v)))):=by
 have hl:=Eo v hs hn;have o1:=@opn_1 d v;have o2:=@PO d v;have o3:=fun x=>@opn_4 d v x;have o4:=@PU d v;generalize fO d v=O at *;generalize ez v=S at *;generalize cw v=B at *;obtain ⟨ag,aD,lo,hi,most,af,es⟩:=d;obtain ⟨k,n,s,ks⟩:=v;simp only [Val.k,Val.n] at *;refine eG 28 [.tmp 4] func198 rfl ntmps198 rfl fun _ _ _ _=>?_;refine br ?_ ?_<;>intro c
 ·have c:k=1:=sU c;refine br ?_ ?_<;>intro g
  ·rw [o1 c (sU g)];exact (rfl:_=_)
  ·rw [o2 c (sU g)];exact (rfl:_=_)
 have c1:¬ k=1:=sU c;refine br ?_ ?_<;>intro c
 ·have c4:k=4:=sU c;obtain ⟨h0,h1⟩:=h4 c4;obtain ⟨x,hx⟩:∃ x,af[n.toNat]? = some x:=⟨_,gE (by omega)⟩;rw [o3 x c4 hx];refine iX (fW hx) ?_;exact congrArg (fun q=>DV.v (.string q)) (y7 x).symm
 have c4:¬ k=4:=sU c;rw [o4 (by omega)];refine cP ZI hl ?_;exact (rfl:_=_)
def tosL (d:Nd) (v:Val) (m:Nat):List Int:=(List.range m).map fun j=>match cd d v.n j with | some e=>e.to | none=>0
theorem PV (d:Nd) (v:Val) (m:Nat):(tosL d v m).length=m:=by simp [tosL]
theorem PW {d:Nd} {v:Val} {m j:Nat} {e:Ed} (h:cd d v.n j=some e) (hj:j < m):(tosL d v m)[j]? = some e.to:=by
 simp [tosL,hj,h]
theorem Lr {d:Nd} {v:Val} {m:Nat} {e:Ed} (h:cd d v.n m=some e):tosL d v (m + 1)=tosL d v m ++ [e.to]:=by
 simp [tosL,List.range_succ,h]
def Ex (d:Nd) (m:Nat):List (List UInt8):=(d.aw.take m).map fun e=>tx e.name ++ [58,32]
theorem PX {d:Nd} {m:Nat} {e:Ed} (h:d.aw[m]? = some e):Ex d (m + 1)=Ex d m ++ [tx e.name ++ [58,32]]:=by
 simp [Ex,List.take_add_one,h]
def Ls (d:Nd):DV:=if d.ag=7 then .sl 1 (mc (Ex d d.aw.length)) none else .v (.slice none 0 0)
abbrev zF:List DV:=[.v (.string aq),.v (.string aq),.v (.slice none 0 0)]
abbrev Hf (d:Nd) (v:Val) (l:List Int) (q e:Nat):St:=
 ⟨[(2,⟨[],.loc 0 0⟩),(3,⟨[],.loc 1 0⟩),(4,⟨[],.loc 2 0⟩),(6,⟨[],.loc 3 0⟩),(7,⟨[],.sl 1 (ou l) (some 0)⟩),(14,⟨[],.v (.int .i64 (dVals v.ks).length)⟩),(15,⟨[],.v (.int .i64 e)⟩)],[jc d,aM v,zF,zF],[⟨q,3,1,none⟩]⟩
abbrev PY (d:Nd) (v:Val) (l:List Int) (q u:Nat):St:=
 ⟨[(2,⟨[],.loc 0 0⟩),(3,⟨[],.loc 1 0⟩),(4,⟨[],.loc 2 0⟩),(6,⟨[],.loc 3 0⟩),(7,⟨[],.sl 1 (ou l) (some 0)⟩),(54,⟨[],.sl 10 (fv d.aw) none⟩),(55,⟨[],.v (.int .i64 (fv d.aw).length)⟩),(56,⟨[],.v (.int .i64 u)⟩)],
  [jc d,aM v,zF,[.v (.string (ba [123])),.v (.string (ba [125])),.sl 1 (mc (Ex d u)) (some 1)]],[⟨q,3,1,none⟩,⟨u,9,1,none⟩]⟩
theorem Jq (d:Nd) (m:Nat) (h:m<=d.aw.length):(Ex d m).length=m:=by simp [Ex];omega
theorem PZ (x:ByteArray) (l:List UInt8):x ++ ba l=ba (tx x ++ l):=(congrArg (·++ ba l) (y7 x)).symm.trans (lQ (tx x) l)
theorem Lt {L N:Nat} {d:Nd} (hN:dB L N d) (h5:5<=d.ag) (v:Val) (hv:v.wt<=1099511627776) (hk:v.k=d.ag) (hed:∀ m,m < v.ks.length->∃ e,cd d v.n m=some e) (h8:d.ag=8->0<=v.n/\v.n < d.aw.length) :
  EvP prog 197 [.agg (jc d),.agg (aM v)] (.tup [.agg [.v (.string (ba (fO d v))),.v (.string (ba (nz v))),Ls d],.sl 1 (ou (tosL d v v.ks.length)) none]):=by
 have B7:=hN.k8;have s9:=hN.many;have o5:=@opn_5 d v;have o6n:=@PQ d v;have o6s:=@PR d v;have o7:=@opn_7 d v;have o8n:=fun e=>@PS d v e;have o8s:=fun e=>@PT d v e;have e5:=@end_5 v;have e7:=@end_7 v;have en:=@UI v;have es9:=@abE v;have hn7:d.ag=7->Ls d = .sl 1 (mc (Ex d d.aw.length)) none:=fun h=>by rw [Ls,if_pos h]
 have hnn:d.ag≠7->Ls d = .v (.slice none 0 0):=fun h=>by rw [Ls,if_neg h]
 have hts:=fun m e=>@Lr d v m e;have eZ:=PV d v;have hns:=fun m e=>@PX d m e;have fV:=Jq d
 have hed1:∀ m e,cd d v.n m=some e->d.aw[(if d.ag=7 then (m:Int) else if d.ag=8 then v.n else 0).toNat]? = some e:=fun m e h=>by
  unfold cd at h;split at h
  ·rename_i c;rw [if_pos c];exact h
  ·rename_i c;rw [if_neg c];split at h
   ·rename_i c8;rw [if_pos c8];exact h
   ·rename_i c8;rw [if_neg c8];exact h
 have j1:=bZ d.aw;generalize fO d v=O at *;generalize nz v=Z at *;generalize Ls d=ND at *;have ht0:tosL d v 0=[]:=rfl;have jt:Ex d 0=[]:=rfl;generalize tosL d v=T at *;generalize SK:Ex d=NM at *;have BJ:d.ag=7∨d.ag=8->∀ e∈d.aw,e.name.size<=32:=fun h e he=>iK ((s9 h).2.2.2 e he);obtain ⟨ag,aD,lo,hi,most,af,es⟩:=d;obtain ⟨k,n,s,ks⟩:=v;have cu:=bo ks;have jm:=dc ks;rw [Val.wt] at hv;simp only [Val.k,Val.n,Val.ks] at *;subst hk;refine eG 90 [.cell 4 289,.tmp 5] func197 rfl ntmps197 rfl fun _ _ _ _=>?_;refine av (fun j st=>∃ e:Nat,st=Hf ⟨k,aD,lo,hi,most,af,es⟩ (.mk k n s ks) (T e) e e/\e<=ks.length/\j=ks.length - e) ks.length (Hf ⟨k,aD,lo,hi,most,af,es⟩ (.mk k n s ks) [] 0 0) (dG 4 ⟨0,3,1,none⟩ rfl rfl rfl wA0 rfl rfl wB0) ⟨0,by rw [ht0],by omega,by omega⟩ ?_;rintro _ st ⟨e,rfl,he,rfl⟩;refine br ?_ ?_<;>intro hL
 ·have au:e < ks.length:=by simpa [cu,Val.ks] using hL
  obtain ⟨ed,Hg⟩:=hed e au;have uR:=hed1 e ed Hg;have fu:ou (T e) ++ [[DV.v (.int .i64 ed.to)]]=ou (T (e + 1)):=by rw [hts e ed Hg,qR]
  have BK:(ou (T e)).length=e:=by rw [ko,eZ]
  have kW:∃ j',j' < ks.length - e/\∃ e':Nat,Hf ⟨k,aD,lo,hi,most,af,es⟩ (.mk k n s ks) (T (e + 1)) (e + 1) (e + 1)=Hf ⟨k,aD,lo,hi,most,af,es⟩ (.mk k n s ks) (T e') e' e' /\ e' <= ks.length/\j'=ks.length - e':=⟨ks.length - (e + 1),by omega,e + 1,rfl,by omega,rfl⟩;have Fs:=(gS uR).1;refine br ?_ ?_<;>intro c
  ·have c:k=7:=sU c;rw [if_pos c] at uR Fs;refine iX (bm uR) ?_;refine ⟨BK,⟨by rw [BK];simp [maxLen];omega,by rw [BK];simp;omega⟩,?_⟩;obtain ⟨j',h1,h2⟩:=kW;exact ⟨Hf ⟨k,aD,lo,hi,most,af,es⟩ (.mk k n s ks) (T (e + 1)) (e + 1) (e + 1),(az 4 rfl (wA2 (nxt au (by omega)) fu) rfl rfl rfl (dm (nxt au (by omega)) fu)),j',h1,h2⟩
  ·have c7:¬ k=7:=sU c;rw [if_neg c7] at uR Fs;refine br ?_ ?_<;>intro c
   ·have c:k=8:=sU c;have h8:=h8 c;rw [if_pos c] at uR Fs;refine iX (bm uR) ?_;refine ⟨BK,⟨by rw [BK];simp [maxLen];omega,by rw [BK];simp;omega⟩,?_⟩;obtain ⟨j',h1,h2⟩:=kW;exact ⟨Hf ⟨k,aD,lo,hi,most,af,es⟩ (.mk k n s ks) (T (e + 1)) (e + 1) (e + 1),(az 4 rfl (wA2 (nxt au (by omega)) fu) rfl rfl rfl (dm (nxt au (by omega)) fu)),j',h1,h2⟩
   ·have c8:¬ k=8:=sU c;rw [if_neg c8] at uR Fs;refine ⟨_,⟨by simp at Fs;omega,bm uR⟩,?_⟩;refine ⟨BK,⟨by rw [BK];simp [maxLen];omega,by rw [BK];simp;omega⟩,?_⟩;obtain ⟨j',h1,h2⟩:=kW;exact ⟨Hf ⟨k,aD,lo,hi,most,af,es⟩ (.mk k n s ks) (T (e + 1)) (e + 1) (e + 1),(az 4 rfl (wA2 (nxt au (by omega)) fu) rfl rfl rfl (dm (nxt au (by omega)) fu)),j',h1,h2⟩
 have aN:e=ks.length:=by
  have:=hL;simp [cu,Val.ks] at this;omega
 subst aN;refine br ?_ ?_<;>intro c
 ·have c:k=5:=sU c;rw [hnn (by omega),o5 c,e5 c];exact ⟨_,ax,rfl⟩
 have c5:¬ k=5:=sU c;refine br ?_ ?_<;>intro c
 ·have c:k=6:=sU c;rw [hnn (by omega)];refine br ?_ ?_<;>intro g
  ·have g:ks ≠ []:=by rintro rfl;simp [cu] at g
   rw [o6s c g,es9 (by omega) g];exact ⟨_,ax,rfl⟩
  ·have g:ks=[]:=sV cu g;rw [o6n c g,en (by omega) g];exact ⟨_,ax,rfl⟩
 have c6:¬ k=6:=sU c;refine br ?_ ?_<;>intro c
 ·have c:k=7:=sU c;rw [hn7 c,o7 c,e7 c];have jk:=(s9 (.inl c)).1;subst SK;refine lJ (fun u=>PY ⟨k,aD,lo,hi,most,af,es⟩ (.mk k n s ks) (T ks.length) ks.length u) es.length (dG 4 ⟨0,9,1,none⟩ rfl rfl rfl wA0 rfl rfl wB0) ?_;intro u hu;refine br ?_ ?_<;>intro hL
  ·have au:u < es.length:=sV j1 hL;obtain ⟨x,hx⟩:=gX au;have ya:=BJ (.inl c) x (mG hx);have ep:(mc (Ex ⟨k,aD,lo,hi,most,af,es⟩ u)).length=u:=by rw [Kg,fV u (by omega)]
   have fu:mc (Ex ⟨k,aD,lo,hi,most,af,es⟩ u) ++ [[DV.v (.string (x.name ++ ba [58,32]))]]=mc (Ex ⟨k,aD,lo,hi,most,af,es⟩ (u + 1)):=by
    rw [hns u x hx];simp only [mc,List.map_append,List.map_cons,List.map_nil];exact congrArg (fun q=>_ ++ [[DV.v (.string q)]]) (PZ _ _)
   refine iX (bm hx) ?_;refine ⟨by show x.name.size + 2<=_;omega,?_⟩;refine ⟨ep,⟨by rw [ep];simp [maxLen];omega,by rw [ep];simp;omega⟩,?_⟩;exact rE ⟨_,by omega,u + 1,rfl,by omega,rfl⟩ (az 4 rfl (wA2 (nxt au (by omega)) fu) rfl rfl rfl (dm (nxt au (by omega)) fu))
  ·have aN:u=es.length:=sW j1 hL;subst aN;exact ⟨_,ax,rfl⟩
 have c7:¬ k=7:=sU c;have c8:k=8:=by omega
 refine br (fun _=>?_) (fun g=>absurd c8 (sU g));have h8:=h8 c8;obtain ⟨x,hx⟩:∃ x,es[n.toNat]? = some x:=⟨_,gE (by omega)⟩;have ya:=BJ (.inr c8) x (mG hx);rw [hnn (by omega)];refine iX (bm hx) ?_;refine br ?_ ?_<;>intro g
 ·have g:ks ≠ []:=by rintro rfl;simp [cu] at g
  rw [o8s x c8 hx g,es9 (by omega) g,<- PZ];refine ⟨by show x.name.size + 1<=_;omega,?_⟩;exact ⟨_,ax,rfl⟩
 ·have g:ks=[]:=sV cu g;rw [o8n x c8 hx g,en (by omega) g,y7];exact ⟨_,ax,rfl⟩
mutual
def rngW:Val->Prop
 | .mk k n _ ks=>rK k/\rK n/\rngWs ks
def rngWs:List Val->Prop
 | []=>True
 | v :: r=>rngW v/\rngWs r
end
theorem oc:∀ {l:List Val} {x:Val},rngWs l->x∈l->rngW x
 | v :: r,x,h,hm=>by
  rw [rngWs] at h;rcases List.mem_cons.1 hm with rfl | hm
  ·exact h.1
  ·exact oc h.2 hm
theorem Hh {v:Val} (h:rngW v) : -9223372036854775808<=v.n/\v.n<=9223372036854775807:=by
 obtain ⟨k,n,s,ks⟩:=v;rw [rngW] at h;exact h.2.1
theorem Jr {v:Val} (h:rngW v):rngWs v.ks:=by
 obtain ⟨k,n,s,ks⟩:=v;rw [rngW] at h;exact h.2.2
theorem Js {m:Nat} (ih:∀ k,k<=m->∀ ds,Typ prog k 34 ds->∃ v:Val,ds=aM v/\rngW v/\v.wt<=wgL ds) :
  ∀ {es:List (List DV)},(∀ cs∈es,Typ prog m 34 cs)->∃ l:List Val,es=dVals l/\rngWs l/\aav l<=wgEs es
 | [],h=>⟨[],rfl,by simp [rngWs],by simp [aav]⟩
 | cs :: r,h=>by
  obtain ⟨l,rfl,hr,hl⟩:=Js ih (es:=r) (fun c hc=>h c (List.mem_cons_of_mem _ hc));obtain ⟨v,rfl,lp,hv⟩:=ih m (Nat.le_refl _) cs (h cs (by simp));exact ⟨v :: l,rfl,by rw [rngWs];exact ⟨lp,hr⟩,by simp only [aav,wgEs];omega⟩
theorem typ_valr:∀ (n:Nat) (ds:List DV),Typ prog n 34 ds->∃ v:Val,ds=aM v/\rngW v/\v.wt<=wgL ds:=by
 intro n
 induction n using Nat.strongRecOn with
 | _ n ih=>
  intro ds h;obtain ⟨m,rfl,hf⟩:=mU Tryz.underlying34 h;obtain ⟨a1,b1,rfl,h1,a2,b2,rfl,h2,a3,b3,rfl,h3,a4,b4,rfl,h4,rfl⟩:=hf;obtain ⟨k,rfl,r1⟩:=mV h1;obtain ⟨z,rfl,r2⟩:=mV h2;obtain ⟨s,rfl⟩:=IE Tryz.underlying9 h3;obtain ⟨j,es,rfl,rfl,jk⟩:=vB Tryz.underlying32 h4;obtain ⟨l,rfl,r3,wl⟩:=Js (fun i hi=>ih i (by omega)) jk;rw [DS];refine ⟨.mk k z s l,rfl,by rw [rngW];exact ⟨r1,r2,r3⟩,?_⟩;simp only [Val.wt,fk,wgL,wgD] at *;omega
namespace Dv
theorem arg_ar2 {H:Type} {enc:TypeId × Value->H} {P:Program} {W:World} {base:Nat} {S:List TypeId} {bk:DataW H->Nat} (mT:Bk bk) (hS:∀ t∈S,mS P S t=true) {t e:TypeId} {v:Value} {d:DataW H} {ps:List MemPlace} (he:e∈S) (hu:P.underlying t=some (.array 2 e)) (hc:P.cellsOf t=2 * P.cellsOf e)
  (hval:Value.okWide P W .any base t v) (h:DataW.Trod enc P W 0 (fun _=>true) true t v d ps):∃ n a b,Rv (E6 W) (.agg (a ++ b)) v/\Typ P n e a/\Typ P n e b/\wgL a + wgL b<=64 * bk d:=by
 unfold Value.okWide at hval;rw [hu] at hval;obtain ⟨cs,rfl,_,_⟩:=hval;obtain ⟨n,hn⟩:=h;obtain ⟨xs,m,rfl,hx,hlen,ub,hf⟩:=DataW.trod_array hu hn
 match xs,ub with
 | [x,y],_=>
  obtain ⟨a,a1,a2,a3,a4,a5⟩:=qg mT hS m e _ x he (hf 0 (by omega));obtain ⟨b,b1,b2,b3,b4,b5⟩:=qg mT hS m e _ y he (hf 1 (by omega));cases hx;have hb:=mT.agg [x.1,y.1];rw [hc] at hlen
  have cG:cs.toList=(cs.toList.drop (0 * P.cellsOf e)).take (P.cellsOf e) ++ (cs.toList.drop (1 * P.cellsOf e)).take (P.cellsOf e):=by
   have h1:(Value.agg cs).cells.toList=cs.toList:=rfl;rw [h1] at hlen;rw [Nat.zero_mul,Nat.one_mul,List.drop_zero,List.take_of_length_le (l:=cs.toList.drop (P.cellsOf e)) (by rw [List.length_drop];omega),List.take_append_drop]
  refine ⟨m,a,b,?_,a3,b3,?_⟩
  ·unfold Rv;refine ⟨cs.toList,by simp,?_,?_⟩
   ·rw [cG];exact RvL.append a1 b1
   ·rw [cG];intro v hv;rcases List.mem_append.1 hv with hv | hv
    ·exact a2 v hv
    ·exact b2 v hv
  ·simp only [List.map_cons,List.map_nil,bkS] at hb ⊢;omega
end Dv
section
variable {ND:List Nd}
theorem jX {v:Val} {i:Int} (h:iI ND v i=true):∃ d,cS ND i=some d/\((9<=v.k/\cw v=true/\v.ks=[])∨(v.k=d.ag/\d.ag < 5/\v.ks=[]/\(v.k=4->0<=v.n/\v.n < d.af.length))∨(v.k=d.ag/\5<=d.ag/\shellF d v=true/\fQ ND v.ks d v.n 0=true)):=by
 obtain ⟨k,n,s,ks⟩:=v;unfold iI at h
 cases hd:cS ND i with
 | none=>rw [hd] at h;cases h
 | some d=>
  rw [hd] at h;refine ⟨d,rfl,?_⟩;simp only at h;split at h
  ·rename_i c;rw [Bool.and_eq_true,decide_eq_true_iff] at h;exact .inl ⟨c,h.1,h.2⟩
  ·split at h
   ·cases h
   ·rename_i c;have c:k=d.ag:=Decidable.not_not.1 c;split at h
    ·rename_i c5;rw [Bool.and_eq_true,Bool.or_eq_true,decide_eq_true_iff,decide_eq_true_iff,decide_eq_true_iff] at h;exact .inr (.inl ⟨c,c5,h.1,fun c4=>h.2.resolve_left (fun g=>g c4)⟩)
    ·rename_i c5;rw [Bool.and_eq_true] at h;exact .inr (.inr ⟨c,by omega,h.1,h.2⟩)
theorem shell_8 {d:Nd} {v:Val} (h:shellF d v=true) (h8:d.ag=8):0<=v.n/\v.n < d.aw.length:=by
 unfold shellF at h;split at h
 ·cases h
 rw [if_neg (by omega),if_neg (by omega),if_neg (by omega)] at h;split at h
 ·cases h
 ·omega
theorem Ey {d:Nd} {z:Int} {j:Nat} {e:Ed} (h:cd d z j=some e):e∈d.aw:=by
 unfold cd at h;split at h
 ·exact mG h
 ·split at h<;>exact mG h
theorem SL (n:Nat):kC n ≠ []:=by
 by_cases h:n < 10
 ·rw [ui h];simp
 ·rw [AU h];simp
theorem SM (z:Int):gO z ≠ []:=by
 unfold gO;split
 ·simp
 ·exact SL _
theorem Ez {v:Val} (h:cw v=true):ez v ≠ []:=by
 rw [ez,if_pos h];unfold ny
 repeat' split
 all_goals (first | exact SM _ | simp [xj])
theorem zZ {v:Val} (hn:rK v.n) (h:cw v=true):(ez v).length<=88 + 12 * v.s.size:=by
 rw [ez,if_pos h];exact Lm hn h
theorem BL {L N:Nat} {d:Nd} {v:Val} (hN:dB L N d) (hn:rK v.n) (h:(9<=v.k/\cw v=true/\v.ks=[])∨(v.k=d.ag/\d.ag < 5/\v.ks=[]/\(v.k=4->0<=v.n/\v.n < d.af.length))∨(v.k=d.ag/\5<=d.ag/\shellF d v=true/\fQ ND v.ks d v.n 0=true)) :
  fO d v ≠ []/\(fO d v).length<=88 + 12 * v.s.size:=by
 have om:=hN.k1;have B7:=hN.k8;rcases h with ⟨h9,hb,_⟩ | ⟨hk,h5,_,h4⟩ | ⟨hk,h5,hs,_⟩
 ·rw [PU (by omega)];exact ⟨Ez hb,zZ hn hb⟩
 ·by_cases c1:v.k=1
  ·by_cases c:v.n=1
   ·rw [opn_1 c1 c];simp;omega
   ·rw [PO c1 c];simp;omega
  by_cases c4:v.k=4
  ·obtain ⟨g0,g1⟩:=h4 c4;obtain ⟨x,hx⟩:∃ x,d.af[v.n.toNat]? = some x:=⟨_,gE (by omega)⟩;have bS:=(hN.af (by omega)).2.2.2 x (mG hx);have On:=iK bS;have kx:0 < x.size:=by simp [bd] at bS;exact bS.1
   rw [opn_4 c4 hx];refine ⟨fun e=>?_,by rw [bB];omega⟩;have:=congrArg List.length e;rw [bB,List.length_nil] at this;omega
  ·rw [PU (by omega)]
   have hb:cw v=true:=by
    have:v.k=2∨v.k=3:=by omega
    rcases this with c | c<;>simp [cw,c]
   exact ⟨Ez hb,zZ hn hb⟩
 ·have:v.k=5∨v.k=6∨v.k=7∨v.k=8:=by omega
  rcases this with c | c | c | c
  ·rw [opn_5 c];simp;omega
  ·by_cases g:v.ks=[]
   ·rw [PQ c g];simp;omega
   ·rw [PR c g];simp;omega
  ·rw [opn_7 c];simp;omega
  ·obtain ⟨g0,g1⟩:=shell_8 hs (by omega);obtain ⟨x,hx⟩:∃ x,d.aw[v.n.toNat]? = some x:=⟨_,gE (by omega)⟩;have bS:=(hN.many (.inr (by omega))).2.2.2 x (mG hx);have On:=iK bS;have kx:0 < x.name.size:=by simp [bd] at bS;exact bS.1
   have hl:=bB x.name;by_cases g:v.ks=[]
   ·rw [PS c hx g];refine ⟨fun e=>?_,by omega⟩;rw [e,List.length_nil] at hl;omega
   ·rw [PT c hx g];exact ⟨by simp,by rw [List.length_append,hl];simp;omega⟩
theorem Jt (v:Val):(nz v).length<=1:=by
 unfold nz
 repeat' split
 all_goals simp
end
section
variable {ND:List Nd} {L:Nat}
mutual
theorem z6 (bS:∀ d∈ND,dB L ND.length d):∀ (v:Val) (i:Int),rngW v->iI ND v i=true->(textV ND v i).length + 36<=50 * v.wt
 | .mk k n s ks,i,hr,hw=>by
  obtain ⟨d,hd,hc⟩:=jX hw;have hN:=bS d (mG (dt hd).2);rw [rngW] at hr;have h1:=(BL (v:=.mk k n s ks) hN hr.2.1 hc).2;have h2:=Jt (.mk k n s ks);have hs:(Val.mk k n s ks).s=s:=rfl;rw [hs] at h1;rw [textV,hd,Val.wt];simp only [List.length_append];rcases hc with ⟨_,_,h0⟩ | ⟨_,_,h0,_⟩ | ⟨_,h5,_,h0⟩
  ·have h0:ks=[]:=h0;subst h0;rw [textVs,aav];simp only [List.length_nil];omega
  ·have h0:ks=[]:=h0;subst h0;rw [textVs,aav];simp only [List.length_nil];omega
  ·have:=pq bS ks d n 0 hN h5 hr.2.2 h0;omega
theorem pq (bS:∀ d∈ND,dB L ND.length d):∀ (l:List Val) (d:Nd) (z:Int) (j:Nat),dB L ND.length d->5<=d.ag->rngWs l->fQ ND l d z j=true->(textVs ND l d z j).length<=50 * aav l
 | [],d,z,j,_,_,_,_=>by rw [textVs];exact Nat.zero_le _
 | x :: r,d,z,j,hN,h5,hr,hw=>by
  rw [fQ,Bool.and_eq_true] at hw;rw [rngWs] at hr;rw [textVs,aav]
  cases he:cd d z j with
  | none=>rw [he] at hw;exact absurd hw.1 (by simp)
  | some e=>
   rw [he] at hw;have h1:=z6 bS x e.to hr.1 hw.1;have h2:=pq bS r d z (j + 1) hN h5 hr.2 hw.2
   have h3:(if d.ag=7 then tx e.name ++ [58,32] else []).length<=34:=by
    split
    ·rename_i c;have:=iK ((hN.many (.inl c)).2.2.2 e (Ey he));rw [List.length_append,bB];simp;omega
    ·simp
   have h4:(if j=0 then [] else [44,32]:List UInt8).length<=2:=by split<;>simp
   simp only [List.length_append];omega
end
theorem z7:∀ {ks:List Val} {e:Nat} {x:Val},ks[e]? = some x->aav (ks.take e) + x.wt<=aav ks
 | [],e,x,h=>by simp at h
 | y :: r,e,x,h=>by
  cases e with
  | zero=>
   simp only [List.getElem?_cons_zero,oI] at h;subst h;rw [List.take_zero,aav,aav];omega
  | succ e=>
   have:=z7 (ks:=r) (e:=e) (x:=x) (sU h);rw [List.take_succ_cons,aav,aav];omega
theorem Ju:∀ (ks:List Val) (e:Nat),aav (ks.take e)<=aav ks
 | [],e=>by rw [List.take_nil];exact Nat.le_refl _
 | y :: r,0=>by rw [List.take_zero,aav];exact Nat.zero_le _
 | y :: r,e + 1=>by
  have:=Ju r e;rw [List.take_succ_cons,aav,aav];omega
theorem EA:∀ {ks:List Val} {d:Nd} {z:Int} {j:Nat} (e:Nat),fQ ND ks d z j=true->fQ ND (ks.take e) d z j=true
 | [],_,_,_,e,h=>by rw [List.take_nil];exact h
 | y :: r,_,_,_,0,h=>by rw [List.take_zero,fQ]
 | y :: r,d,z,j,e + 1,h=>by
  rw [fQ,Bool.and_eq_true] at h;rw [List.take_succ_cons,fQ,Bool.and_eq_true];exact ⟨h.1,EA e h.2⟩
theorem EB:∀ {ks:List Val} (e:Nat),rngWs ks->rngWs (ks.take e)
 | [],e,h=>by rw [List.take_nil];exact h
 | y :: r,0,h=>by rw [List.take_zero,rngWs];trivial
 | y :: r,e + 1,h=>by
  rw [rngWs] at h;rw [List.take_succ_cons,rngWs];exact ⟨h.1,EB e h.2⟩
end
end Go.Proofs.YtffhgcbfpidfiaaGreat
namespace Go.Proofs.YtffhgcbfpidfiaaGreat
namespace Dv
open Go Go.RowKit
mutual
def shD (m:Nat):DV->DV
 | .agg l=>.agg (shL m l)
 | .tup l=>.tup (shL m l)
 | .sl e es tk=>.sl e es (match tk with | some k=>some (m + k) | none=>none)
 | .fn f a b=>.fn f (shL m a) (shL m b)
 | .pI t x=>.pI t (shD m x)
 | .v x=>.v x
 | .ud=>.ud
 | .pt cs o=>.pt cs o
 | .loc i o=>.loc i o
 | .el i o=>.el i o
 | .ms i e o l c=>.ms i e o l c
def shL (m:Nat):List DV->List DV
 | []=>[]
 | d :: r=>shD m d :: shL m r
end
mutual
theorem sA {m:Nat} {E2 E:En} (hβ:E2.β=[]) (hc:E.c=E2.c) (ht:∀ (k:Nat) q,E2.tk[k]? = some q->E.tk[m + k]? = some q/\E.τ[m + k]? = E2.τ[k]?):∀ {d:DV} {v:Value},Rv E2 d v->Rv E (shD m d) v
 | .v x,v,h=>by simpa only [Rv,shD] using h
 | .ud,v,h=>by simpa only [Rv,shD] using h
 | .agg l,v,h=>by
  simp only [Rv,shD] at h ⊢;obtain ⟨vs,h1,h2,h3⟩:=h;exact ⟨vs,h1,lk hβ hc ht h2,h3⟩
 | .tup l,v,h=>by
  simp only [Rv,shD] at h ⊢;obtain ⟨vs,h1,h2⟩:=h;exact ⟨vs,h1,lk hβ hc ht h2⟩
 | .sl e es tk,v,h=>by
  have he:E.cl=E2.cl:=by simp [En.cl,hc]
  simp only [Rv,shD] at h ⊢;obtain ⟨b,n,cap,h1,h2,h3,h4⟩:=h;refine ⟨b,n,cap,h1,h2,fun hn=>⟨(h3 hn).1,by rw [he];exact (h3 hn).2⟩,?_⟩;intro k' fF
  cases tk with
  | none=>cases fF
  | some k=>
   simp only [oI] at fF;subst fF;obtain ⟨q,g1,g2,g3⟩:=h4 k rfl;obtain ⟨g4,g5⟩:=ht k q g1;exact ⟨q,g4,g2,fun hn=>by rw [g5];exact g3 hn⟩
 | .pt cs off,v,h=>by
  have he:E.cl=E2.cl:=by simp [En.cl,hc]
  simp only [Rv,shD] at h ⊢;rw [he];exact h
 | .loc i off,v,h=>by
  simp only [Rv] at h;obtain ⟨b,h1,_⟩:=h;rw [hβ] at h1;simp at h1
 | .el i off,v,h=>by
  simp only [Rv] at h;obtain ⟨b,h1,_⟩:=h;rw [hβ] at h1;simp at h1
 | .ms i e off len cap,v,h=>by
  simp only [Rv] at h;obtain ⟨b,_,h1,_⟩:=h;rw [hβ] at h1;simp at h1
 | .fn f a b,v,h=>by
  simp only [Rv,shD] at h ⊢;obtain ⟨l,r,h1,h2,h3⟩:=h;exact ⟨l,r,h1,lk hβ hc ht h2,lk hβ hc ht h3⟩
 | .pI t x,v,h=>by
  simp only [Rv,shD] at h ⊢;obtain ⟨z,h1,h2⟩:=h;exact ⟨z,h1,sA hβ hc ht h2⟩
theorem lk {m:Nat} {E2 E:En} (hβ:E2.β=[]) (hc:E.c=E2.c) (ht:∀ (k:Nat) q,E2.tk[k]? = some q->E.tk[m + k]? = some q/\E.τ[m + k]? = E2.τ[k]?):∀ {l:List DV} {vs:List Value},RvL E2 l vs->RvL E (shL m l) vs
 | [],vs,h=>by simpa only [RvL,shL] using h
 | d :: r,vs,h=>by
  simp only [RvL,shL] at h ⊢;obtain ⟨v,s,h1,h2,h3⟩:=h;exact ⟨v,s,h1,sA hβ hc ht h2,lk hβ hc ht h3⟩
end
section
variable {X:Ctx} {st:St} {k:List It} {E:En} {a:Act} {w:World}
theorem Hi (h:Rel X E st a w) (aU:X.still=false) {E2:En} {w':World} (hm:pJ (E.cl).S w w') (he:Env E2 [] w') (hn:Nw E.cl E2 w):Rel X ⟨E2.c,E.β,E.tk ++ E2.tk,E.τ ++ E2.τ⟩ ⟨st.sl,st.bx,st.tk ++ E2.tk⟩ a w':=by
 have hq:=yH h aU hm he hn;have Q6:∀ (j:Nat) y g,E2.τ[j]? = some y->y.ownBlock=some g->w.heap.size<=g:=fun j y g hy hg=>hn.tn j y g (Nat.zero_le _) hy hg;have hold:∀ (k:Nat) y g,E.τ[k]? = some y->y.ownBlock=some g->g < w.heap.size:=fun k y g hy hg=>(h.env.own (mG hy) hg).1;have eZ:E.τ.length=E.tk.length:=h.env.tl
 have hτ:∀ (k:Nat) y,(E.τ ++ E2.τ)[k]? = some y->(k < E.τ.length/\E.τ[k]? = some y)∨(E.τ.length<=k/\E2.τ[k - E.τ.length]? = some y):=fun k y hy=>by
  rw [List.getElem?_append] at hy;split at hy
  ·rename_i hk;exact .inl ⟨hk,hy⟩
  ·rename_i hk;exact .inr ⟨by omega,hy⟩
 have hx:Ext ⟨E2.c,E.β,E.tk,E.τ⟩ ⟨E2.c,E.β,E.tk ++ E2.tk,E.τ ++ E2.τ⟩:=⟨fun _ _ h=>h,fun _ _ h=>h,fun j q hj=>by
  have hj:E.tk[j]? = some q:=hj;have au:=(gS hj).1;refine ⟨q,by show (E.tk ++ _)[j]? = _;rw [List.getElem?_append_left au];exact hj,.inl ⟨rfl,?_⟩⟩;show (E.τ ++ _)[j]? = _
  rw [List.getElem?_append_left (by rw [eZ];exact au)]⟩
 refine dg hq hx ?_ (by show E.tk ++ _=_;rw [h.tk]) ?_ hq.fr (mh aU) hq.bt
 ·exact {
   len:=h.env.len
   tl:=by show (E.τ ++ _).length=(E.tk ++ _).length;simp [eZ,he.tl]
   ek:=fun i cs hi=>by
    obtain ⟨b,t,arr,hb,hw,hc⟩:=hq.env.ek i cs hi;exact ⟨b,t,arr,hb,hw,hc.mono hx⟩
   inj:=h.env.inj
   sub:=he.sub
   pc:=hq.env.pc
   ct:=fun j q y NX hy=>by
    have NX:(E.tk ++ E2.tk)[j]? = some q:=NX;rcases hτ j y hy with ⟨au,fG⟩ | ⟨eV,fG⟩
    ·rw [List.getElem?_append_left (by rw [<- eZ];exact au)] at NX;exact hq.env.ct j q y NX fG
    ·rw [List.getElem?_append_right (by rw [<- eZ];exact eV),<- eZ] at NX;rcases he.ct _ q y NX fG with h1 | ⟨g,cap,cur,rfl,h1,h2,h3,h4,_,h6⟩
     ·exact .inl h1
     ·refine .inr ⟨g,cap,cur,rfl,h1,h2,h3,h4,fun oK=>?_,h6⟩;have:=Q6 _ _ g fG rfl;have:=h.env.bc oK;omega
   iW:=fun i j y y' g lu hy fG hg sG=>by
    rcases hτ i y hy with ⟨_,h1⟩ | ⟨h0,h1⟩
    ·rcases hτ j y' fG with ⟨_,h2⟩ | ⟨_,h2⟩
     ·exact h.env.iW i j y y' g lu h1 h2 hg sG
     ·have:=hold i y g h1 hg;have:=Q6 _ y' g h2 sG;omega
    ·rcases hτ j y' fG with ⟨_,h2⟩ | ⟨h00,h2⟩
     ·have:=hold j y' g h2 sG;have:=Q6 _ y g h1 hg;omega
     ·exact he.iW _ _ y y' g (by omega) h1 h2 hg sG }
 ·exact {
   c:=hq.nw.c
   cn:=hq.nw.cn
   β:=h.nw.β
   tk:=fun j q0 y0 rr Cj=>by
    obtain ⟨q',y',h1,h2,h3⟩:=h.nw.tk j q0 y0 rr Cj;exact ⟨q',y',by show (E.tk ++ _)[j]? = _;rw [List.getElem?_append_left (gS h1).1];exact h1,by show (E.τ ++ _)[j]? = _;rw [List.getElem?_append_left (gS h2).1];exact h2,h3⟩
   tn:=fun j y g hj hy hg=>by
    rcases hτ j y hy with ⟨_,h1⟩ | ⟨_,h1⟩
    ·exact h.nw.tn j y g hj h1 hg
    ·exact Nat.le_trans h.fr.size (Q6 _ y g h1 hg)
   l0:=h.nw.l0 }
theorem SN {P:Program} (h:Rel X E st a w) (aU:X.still=false) {f:FuncId} {args bE:List DV} {vs:List Value} {Φ:DV->List (List DV)->List TkE->Prop} (hc:EvF P f bE [] [] Φ) (ha:CcL [] 0 0 0 bE args) (hv:RvL E args vs) :
  Calls P f vs.toArray w fun e w'=>∃ v E' d ct,e = .returned v/\Rel X E' ⟨st.sl,st.bx,st.tk ++ ct⟩ a w' /\ Rv E' (shD st.tk.length d) v/\Φ d [] ct/\pJ E.cl.S w w' /\ Ext E E' /\ E'.β=E.β:=by
 have UL:RvL E.cl bE vs:=CcL.sound (E:=E) (E':=E.cl) ⟨fun _ _ h=>h,fun i cs _ hi=>by simp at hi⟩ (H9.zero _ _) ha hv;refine (hc E.cl w vs (Mr h.env) rfl UL).mono ?_;rintro e w' ⟨v,rfl,hm,_,d,os,E2,he,hβ,_,hn,Q9,hΦ⟩;have hβ:E2.β=[]:=hβ
 have uQ:os=[]:=by
  have:=he.len;rw [hβ] at this;exact List.eq_nil_of_length_eq_zero this.symm
 subst uQ;have eZ:E.τ.length=E.tk.length:=h.env.tl
 have hx:Ext E ⟨E2.c,E.β,E.tk ++ E2.tk,E.τ ++ E2.τ⟩:=⟨hn.c,fun _ _ h=>h,fun j q hj=>by
  have au:=(gS hj).1;refine ⟨q,by show (E.tk ++ _)[j]? = _;rw [List.getElem?_append_left au];exact hj,.inl ⟨rfl,?_⟩⟩;show (E.τ ++ _)[j]? = _
  rw [List.getElem?_append_left (by rw [eZ];exact au)]⟩
 refine ⟨v,_,d,E2.tk,rfl,Hi h aU hm he hn,sA (E2:=E2) (E:=⟨E2.c,E.β,E.tk ++ E2.tk,E.τ ++ E2.τ⟩) (m:=st.tk.length) hβ rfl (fun k q hq=>?_) Q9,hΦ,hm,hx,rfl⟩;rw [<- h.tk];constructor
 ·show (E.tk ++ E2.tk)[_]? = _;rw [List.getElem?_append_right (by omega)];simpa using hq
 ·show (E.τ ++ E2.τ)[_]? = _;rw [List.getElem?_append_right (by omega),eZ];simp
theorem SO {D:Dr} {c:Bool} {i:Nat} {s0:List (Nat × Sl)} {f:FuncId} {args bE:List DV} {d:Nat} {r:List (Nat × Oper)} (lx:Enters X.P f) (hd:(eL X.nt st.sl (some d) && eL X.nt s0 (some d))=true) {Φ:DV->List (List DV)->List TkE->Prop} (hc:EvF X.P f bE [] [] Φ) (ha:CcL [] 0 0 0 bE args)
  (hk:∀ yO ct,Φ yO [] ct->put2 s0 ⟨st.sl,st.bx,st.tk ++ ct⟩ (some d) false [] (shD st.tk.length yO) (goD X D 3000 c r)) (aU:X.still=false:=by exact rfl):yM X D c i r f args (some d) s0 st:=by
 refine ⟨lx,fun hl E0 wr hD E a w vs h hv=>(SN h.rel aU hc ha hv).mono ?_⟩;rintro e w' ⟨v,E',yO,ct,rfl,bY,hr,hΦ,hm,hx,hβ⟩
 have hh:∀ b,b < w.heap.size->w'.heap[b]? = w.heap[b]?:=fun b hb=>hm.block b hb (by
  rintro (h1 | ⟨y,h1,_⟩)
  ·simp [En.cl] at h1
  ·simp [En.cl] at h1)
 have hs:bV none E w E' w':=⟨hx,⟨[],by rw [hβ];simp⟩,fun j b hb _=>hh b (h.rel.env.bc (mG hb))⟩;have hC:=yN h hs bY (fun j hj=>by cases hj);refine ⟨v,rfl,fun _=>hC,?_⟩;have Cz:fq X ⟨D,E0,wr⟩ c E' s0 ⟨st.sl,st.bx,st.tk ++ ct⟩ (a.put none v) w':=mL h hs bY (fun h1=>hC (h.cc h1)) (fun i x hx=>.inr ⟨hx,fun d hd=>by cases hd⟩) rfl;obtain ⟨s1,p8,om,er⟩:=iP Cz hd false [] _ v (fun _ _ p hp=>by cases hp) (fun _=>hr) (fun hb=>by cases hb) (fun hn=>(hn (bh _)).elim) (hk yO ct hΦ);exact eQ (D:=⟨D,E0,wr⟩) hD 3000 c r _ _ om hl E' _ w' er
theorem SP {o:Oper} {t d et e' je n:Nat} {x:Operand} {bb:Bool} {z:List Value} (ly:∃ t',o.op = .binOp .eql t x (.const (.slice none 0 0)) t') (fg:o.dst=some d) (hx:rv st [] x=some (.v (.slice none 0 0))) (hT:X.T.find t=some ⟨n,bb,.sl et e' je,z⟩) (hd:eL X.nt st.sl (some d)=true)
  (hk:go X 4000 k ⟨(d,⟨[],.v (.bool true)⟩) :: st.sl,st.bx,st.tk⟩):HS X o k st:=by
 intro E a w h;obtain ⟨t',ly⟩:=ly;have e1:=aW h.rl hx;unfold Rv at e1;obtain ⟨hu,_⟩:=eA X.hT hT;have aK:=qB hu none 0 0 w
 have cf:(execOp a.eval o).run X.P w = .ok (.value (.bool true)) w:=by
  have hc:a.eval (.const (.slice none 0 0)) = .slice none 0 0:=rfl;simp [execOp,ly,e1.1,hc,eqGuard,binOp,aK]
 refine gK cf ?_;rw [fg];exact go_sound 4000 _ _ hk E _ w (aZ h hd (.v (.bool true)) _ (by unfold Rv;exact ⟨rfl,rfl⟩))
end
end Dv
end Go.Proofs.YtffhgcbfpidfiaaGreat
set_option maxRecDepth 100000
namespace Go.Proofs.YtffhgcbfpidfiaaGreat
open Go Go.RowKit Dv Go.Proofs.Tryz
abbrev zeroV:Val:=.mk 0 0 aq []
def ow (K:List Nat) (e:Ed):Nat:=K.getD e.to.toNat 0
def leastR (K:List Nat):List Ed->Nat->Nat
 | [],m=>m + 1
 | e :: r,m=>if ow K e=0 then 0 else leastR K r (max m (ow K e))
def eJ (K:List Nat):List Ed->Nat->Nat
 | [],b=>if b=0 then 0 else b + 1
 | e :: r,b=>if e.bare=true then 1 else if 0 < ow K e/\(b=0∨ow K e < b) then eJ K r (ow K e) else eJ K r b
def gp (n:Nd) (K:List Nat):Nat:=if n.ag=7 then leastR K n.aw 0 else if n.ag=8 then eJ K n.aw 0 else 1
def depN (ND:List Nd):Nat->List Nat
 | 0=>List.replicate ND.length 0
 | d + 1=>ND.map fun n=>gp n (depN ND d)
theorem fT (ND:List Nd):∀ d,(depN ND d).length=ND.length
 | 0=>by simp [depN]
 | d + 1=>by simp [depN]
theorem depN_get (ND:List Nd) (d j:Nat):(depN ND (d + 1)).getD j 0=match ND[j]? with | none=>0 | some n=>gp n (depN ND d):=by
 simp only [depN,List.getD_eq_getElem?_getD,List.getElem?_map];cases ND[j]?<;>rfl
def Lu (d:Nat) (A B:List Nat):Prop:=∀ j:Nat,(0 < A.getD j 0->B.getD j 0=A.getD j 0/\A.getD j 0<=d)/\(A.getD j 0=0->B.getD j 0=0∨B.getD j 0=d + 1)
theorem Jv {d:Nat} {A B:List Nat} (h:Lu d A B) (j:Nat):B.getD j 0<=d + 1:=by
 obtain ⟨h1,h2⟩:=h j;rcases Nat.eq_zero_or_pos (A.getD j 0) with h3 | h3
 ·rcases h2 h3 with h4 | h4<;>omega
 ·have:=h1 h3;omega
theorem nA {K:List Nat}:∀ {es:List Ed} {m:Nat},leastR K es m=0↔∃ e∈es,ow K e=0
 | [],m=>by simp [leastR]
 | e :: r,m=>by
  rw [leastR];by_cases h:ow K e=0
  ·rw [if_pos h];exact ⟨fun _=>⟨e,by simp,h⟩,fun _=>rfl⟩
  ·rw [if_neg h,nA];constructor
   ·rintro ⟨x,hx,h2⟩;exact ⟨x,by simp [hx],h2⟩
   ·rintro ⟨x,hx,h2⟩;rcases List.mem_cons.1 hx with rfl | hx
    ·exact (h h2).elim
    ·exact ⟨x,hx,h2⟩
theorem tf {d:Nat} {A B:List Nat} (hR:Lu d A B):∀ {es:List Ed} {m:Nat},0 < leastR A es m->leastR B es m=leastR A es m
 | [],m,_=>rfl
 | e :: r,m,h=>by
  rw [leastR] at h ⊢;rw [leastR];by_cases h0:ow A e=0
  ·rw [if_pos h0] at h;omega
  rw [if_neg h0] at h ⊢;have h1:ow B e=ow A e:=((hR e.to.toNat).1 (by unfold ow at h0;omega)).1;rw [h1,if_neg h0];exact tf hR h
theorem xM {d:Nat} {A B:List Nat} (hR:Lu d A B):∀ {es:List Ed} {m:Nat},m<=d + 1->(m=d + 1∨∃ e∈es,ow A e=0)->leastR B es m=0∨leastR B es m=d + 2
 | [],m,_,h=>by
  rcases h with h | ⟨e,he,_⟩
  ·right;rw [leastR,h]
  ·cases he
 | e :: r,m,hm,h=>by
  rw [leastR];by_cases h0:ow B e=0
  ·rw [if_pos h0];exact .inl rfl
  rw [if_neg h0];have eV:ow B e<=d + 1:=Jv hR _;refine xM hR (by omega) ?_;rcases h with h | ⟨x,hx,h⟩
  ·left;omega
  ·rcases List.mem_cons.1 hx with rfl | hx
   ·left;have:=(hR x.to.toNat).2 h;unfold ow at h0 eV ⊢;omega
   ·exact .inr ⟨x,hx,h⟩
theorem jY {d:Nat} {A B:List Nat} (hR:Lu d A B):∀ {es:List Ed} {a b:Nat},(0 < a->b=a/\a<=d)->(a=0->b=0∨b=d + 1) ->
  (0 < eJ A es a->eJ B es b=eJ A es a)/\(eJ A es a=0->eJ B es b=0∨eJ B es b=d + 2)
 | [],a,b,h1,h2=>by
  rw [eJ,eJ];rcases Nat.eq_zero_or_pos a with h | h
  ·rw [if_pos h];refine ⟨fun h=>by omega,fun _=>?_⟩;rcases h2 h with h3 | h3
   ·left;rw [if_pos h3]
   ·right;rw [if_neg (by omega)];omega
  ·obtain ⟨h3,h4⟩:=h1 h;rw [if_neg (by omega),if_neg (by omega),h3];exact ⟨fun _=>rfl,fun h=>by omega⟩
 | e :: r,a,b,h1,h2=>by
  rw [eJ,eJ];by_cases hb:e.bare=true
  ·rw [if_pos hb,if_pos hb];exact ⟨fun _=>rfl,fun h=>by omega⟩
  rw [if_neg hb,if_neg hb];obtain ⟨g1,g2⟩:=hR e.to.toNat;change (0 < ow A e->ow B e=ow A e/\ow A e<=d) at g1;change (ow A e=0->ow B e=0∨ow B e=d + 1) at g2;by_cases c1:0 < ow A e/\(a=0∨ow A e < a)<;>by_cases c2:0 < ow B e/\(b=0∨ow B e < b)
  ·rw [if_pos c1,if_pos c2];exact jY hR (by omega) (by omega)
  ·rw [if_pos c1,if_neg c2];exact jY hR (by omega) (by omega)
  ·rw [if_neg c1,if_pos c2];exact jY hR (by omega) (by omega)
  ·rw [if_neg c1,if_neg c2];exact jY hR (by omega) (by omega)
theorem Hj {d:Nat} {A B:List Nat} (hR:Lu d A B) (n:Nd):(0 < gp n A->gp n B=gp n A)/\(gp n A=0->gp n B=0∨gp n B=d + 2):=by
 unfold gp;by_cases h7:n.ag=7
 ·rw [if_pos h7,if_pos h7];exact ⟨tf hR,fun h=>xM hR (by omega) (.inr (nA.1 h))⟩
 rw [if_neg h7,if_neg h7];by_cases h8:n.ag=8
 ·rw [if_pos h8,if_pos h8];exact jY hR (by omega) (by omega)
 rw [if_neg h8,if_neg h8];exact ⟨fun _=>rfl,fun h=>by omega⟩
theorem EC (N:Nat) (e:Ed):ow (List.replicate N 0) e=0:=by
 unfold ow;rw [List.getD_eq_getElem?_getD,List.getElem?_replicate];split<;>rfl
theorem tg (N:Nat):∀ es:List Ed,eJ (List.replicate N 0) es 0=0∨eJ (List.replicate N 0) es 0=1
 | []=>.inl rfl
 | e :: r=>by
  rw [eJ,EC];by_cases hb:e.bare=true
  ·rw [if_pos hb];exact .inr rfl
  ·rw [if_neg hb,if_neg (by omega)];exact tg N r
theorem ED (N:Nat) (n:Nd):gp n (List.replicate N 0)=0∨gp n (List.replicate N 0)=1:=by
 unfold gp;by_cases h7:n.ag=7
 ·rw [if_pos h7]
  cases h:n.aw with
  | nil=>right;rfl
  | cons e r=>left;rw [leastR,EC,if_pos rfl]
 rw [if_neg h7];by_cases h8:n.ag=8
 ·rw [if_pos h8];exact tg N n.aw
 ·rw [if_neg h8];exact .inr rfl
theorem Lv (ND:List Nd) (j:Nat):(depN ND 0).getD j 0=0:=by
 rw [depN,List.getD_eq_getElem?_getD,List.getElem?_replicate];split<;>rfl
theorem EE (ND:List Nd):∀ d,Lu d (depN ND d) (depN ND (d + 1))
 | 0=>fun j=>by
  refine ⟨fun h=>by rw [Lv] at h;omega,fun _=>?_⟩;rw [depN_get]
  cases ND[j]? with
  | none=>exact .inl rfl
  | some n=>exact ED _ n
 | d + 1=>fun j=>by
  have ih:=EE ND d;rw [depN_get ND (d + 1),depN_get ND d]
  cases hn:ND[j]? with
  | none=>exact ⟨fun h=>by simp at h,fun _=>.inl rfl⟩
  | some n=>
   obtain ⟨h1,h2⟩:=Hj ih n;refine ⟨fun h=>⟨h1 h,?_⟩,h2⟩;have:=Jv ih j;rw [depN_get ND d,hn] at this;exact this
def fw (K:List Nat):List Bool:=K.map fun k=>decide (0 < k)
theorem qT (K:List Nat) (j:Nat):(fw K).getD j false=decide (0 < K.getD j 0):=by
 unfold fw;simp only [List.getD_eq_getElem?_getD,List.getElem?_map];cases K[j]?<;>simp
theorem nB (K:List Nat):(fw K).length=K.length:=by simp [fw]
theorem aaQ {A B:List Nat} (hl:A.length=B.length) (h:∀ j,A.getD j 0=B.getD j 0):A=B:=by
 refine List.ext_getElem hl fun j h1 h2=>?_;have:=h j;simp only [List.getD_eq_getElem?_getD,gE h1,gE h2,Option.getD_some] at this;exact this
def pD (K:List Bool) (e:Ed):Bool:=e.bare || K.getD e.to.toNat false
def Hk (n:Nd) (K:List Bool):Bool:=if n.ag < 7 then true else if n.ag=7 then n.aw.all (pD K) else n.aw.any (pD K)
theorem pu {K:List Nat}:∀ {es:List Ed} {b:Nat},0 < eJ K es b↔(0 < b∨es.any (pD (fw K))=true)
 | [],b=>by
  rw [eJ];by_cases h:b=0
  ·rw [if_pos h];simp [h]
  ·rw [if_neg h];simp;omega
 | e :: r,b=>by
  have hg:(fw K).getD e.to.toNat false=decide (0 < ow K e):=qT K _;rw [eJ,List.any_cons];by_cases hb:e.bare=true
  ·rw [if_pos hb];simp [pD,hb]
  ·rw [if_neg hb]
   have uf:pD (fw K) e=decide (0 < ow K e):=by
    unfold pD;rw [hg];simp [hb]
   rw [uf,Bool.or_eq_true,decide_eq_true_eq];split
   ·rename_i h1;rw [pu];constructor
    ·exact fun _=>.inr (.inl h1.1)
    ·exact fun _=>.inl h1.1
   ·rename_i h1;rw [pu];constructor
    ·rintro (h | h)
     ·exact .inl h
     ·exact .inr (.inr h)
    ·rintro (h | h | h)
     ·exact .inl h
     ·by_cases gH:b=0
      ·exact (h1 ⟨h,.inl gH⟩).elim
      ·left;omega
     ·exact .inr h
theorem Hl {n:Nd} {K:List Nat} (h8:n.ag<=8) (hb:∀ e∈n.aw,e.bare=true->n.ag=8):(0 < gp n K)↔Hk n (fw K)=true:=by
 unfold gp Hk;by_cases h7:n.ag=7
 ·rw [if_pos h7,if_neg (by omega),if_pos h7,List.all_eq_true];have:0 < leastR K n.aw 0↔¬ leastR K n.aw 0=0:=by omega
  rw [this,nA];constructor
  ·intro h e he
   have h1:e.bare=false:=by
    cases gf:e.bare
    ·rfl
    ·have:=hb e he gf;omega
   have h2:¬ ow K e=0:=fun h3=>h ⟨e,he,h3⟩;have hg:(fw K).getD e.to.toNat false=decide (0 < ow K e):=qT K _;simp only [pD,h1,hg,Bool.false_or,decide_eq_true_eq];omega
  ·rintro h ⟨e,he,h3⟩
   have h1:e.bare=false:=by
    cases gf:e.bare
    ·rfl
    ·have:=hb e he gf;omega
   have hg:(fw K).getD e.to.toNat false=decide (0 < ow K e):=qT K _;have:=h e he;simp only [pD,h1,hg,Bool.false_or,decide_eq_true_eq] at this;omega
 rw [if_neg h7];by_cases h8':n.ag=8
 ·rw [if_pos h8',if_neg (by omega),if_neg h7,pu];simp
 ·rw [if_neg h8',if_pos (by omega)];simp
theorem aaS {ND:List Nd} (hN:∀ n∈ND,n.ag<=8/\∀ e∈n.aw,e.bare=true->n.ag=8) (d:Nat) {i:Nat} {n:Nd} (h:ND[i]? = some n) :
  (depN ND (d + 1)).getD i 0=(if Hk n (fw (depN ND d))=true/\(depN ND d).getD i 0=0 then d + 1 else (depN ND d).getD i 0) /\
  (fw (depN ND (d + 1))).getD i false=Hk n (fw (depN ND d)):=by
 obtain ⟨h8,hb⟩:=hN n (mG h);have hp:=Hl (K:=depN ND d) h8 hb;have hg:(depN ND (d + 1)).getD i 0=gp n (depN ND d):=by rw [depN_get,h]
 obtain ⟨h1,h2⟩:=(EE ND d) i;refine ⟨?_,?_⟩
 ·rcases Nat.eq_zero_or_pos ((depN ND d).getD i 0) with h3 | h3
  ·by_cases h4:Hk n (fw (depN ND d))=true
   ·rw [if_pos ⟨h4,h3⟩];have:=h2 h3;rw [<- hp,<- hg] at h4;omega
   ·rw [if_neg (fun h=>h4 h.1),h3];rw [<- hp,<- hg] at h4;omega
  ·rw [if_neg (by omega)];exact (h1 h3).1
 ·rw [qT,hg,Bool.eq_iff_iff,decide_eq_true_eq];exact hp
def cN (l:List Nat):List DV:=l.map fun (z:Nat)=>DV.v (.int .i64 (z:Int))
theorem aaW (l:List Nat):(cN l).length=l.length:=by simp [cN]
theorem W2 {l:List Nat} {i z:Nat} (h:l[i]? = some z):(cN l)[i]? = some (DV.v (.int .i64 (z:Int))):=by simp [cN,h]
theorem W3 (l:List Nat) (i z:Nat):(cN l).set i (DV.v (.int .i64 (z:Int)))=cN (l.set i z):=by simp [cN,List.map_set]
theorem xN (l:List Nat):(dInts l).flatten=cN l:=by
 induction l with
 | nil=>rfl
 | cons b r ih=>simp only [dInts,cN,List.map_cons,List.flatten_cons] at ih ⊢;rw [ih];all_goals rfl
theorem repN (n:Nat):(List.replicate n (vL [Value.int .i64 0])).flatten=cN (List.replicate n 0):=by
 induction n with
 | zero=>rfl
 | succ n ih=>simp only [List.replicate_succ,List.flatten_cons,ih];rfl
theorem nC {n m:Nat} {tk:List TkE} {l:List DV} {r:List Nat} (h:l=cN r):WeL n m tk l (cN r):=by
 subst h;refine vJ _ fun x hx=>?_;obtain ⟨z,_,rfl⟩:=List.mem_map.1 hx;exact ⟨_,rfl⟩
theorem ms_n {bx:List (List DV)} {N n0 m0 n i:Nat} {r:List Nat} (hr:r.length=n) (hN:N<=i) (hb:bx[i]? = some (cN r)):Cc bx N n0 m0 (.sl 1 (dInts r) none) (.ms i 1 0 n n):=by
 simp only [Cc];refine Or.inr (Or.inr (Or.inl ⟨i,0,n,_,by rw [bz,hr],hN,hb,?_,?_,?_⟩))
 ·rw [xN,List.drop_zero,List.take_of_length_le (by rw [aaW,bz];omega)]
 ·intro x hx;simp only [dInts,List.mem_map] at hx;obtain ⟨_,_,rfl⟩:=hx;rfl
 ·intro x hx;rw [xN] at hx;obtain ⟨_,_,rfl⟩:=List.mem_map.1 hx;exact .inl ⟨_,rfl⟩
abbrev Jw (n:Nd) (K:List Bool) (s v:Bool) (e:Nat):St:=
 ⟨[(1,⟨[],.sl 1 (wv K) none⟩),(2,⟨[],.loc 0 0⟩),(5,⟨[],.v (.bool s)⟩),(6,⟨[],.v (.bool v)⟩),(7,⟨[],.v (.int .i64 e)⟩)],[jc n],[]⟩
theorem Hm {L:Nat} {n:Nd} (K:List Bool) (hK:K.length<=1099511627776) (hn:dB L K.length n) (j1:n.aw.length<=1099511627776) :
  EvP prog 176 [.agg (jc n),.sl 1 (wv K) none] (.v (.bool (Hk n K))):=by
 have oD:=hn.mY;have abF:=hn.bare;have B7:=hn.k8;obtain ⟨ag,aD,lo,hi,most,af,es⟩:=n;simp only at oD abF j1 B7;refine eG 50 [.tmp 4] func176 rfl ntmps176 rfl fun _ _ _ _=>?_;refine br ?_ ?_<;>intro h7
 ·have h7:ag < 7:=sU h7;refine (congrArg (fun b=>DV.v (.bool b)) ?_:_=_);simp [Hk,h7]
 have h7:¬ ag < 7:=sU h7;refine av (fun j st=>∃ e:Nat,st=Jw ⟨ag,aD,lo,hi,most,af,es⟩ K ((es.take e).any (pD K)) ((es.take e).all (pD K)) e/\e<=es.length/\j=es.length - e) es.length (Jw ⟨ag,aD,lo,hi,most,af,es⟩ K false true 0) (weak_mk ⟨_,rfl⟩ wA rfl rfl rfl wB) ⟨0,by simp,by omega,by omega⟩ ?_;rintro j st ⟨e,rfl,he,rfl⟩;refine br ?_ ?_<;>intro hL
 ·have au:e < es.length:=by have:=hL;simp [bZ] at this;exact this
  obtain ⟨x,hx⟩:=gX au;refine iX (bm hx) ?_;have hs:(es.take (e + 1)).any (pD K)=((es.take e).any (pD K) || pD K x):=by rw [List.take_add_one,hx];simp
  have hv:(es.take (e + 1)).all (pD K)=((es.take e).all (pD K) && pD K x):=by rw [List.take_add_one,hx];simp
  generalize (es.take e).any (pD K)=s at hs ⊢;generalize (es.take e).all (pD K)=v at hv ⊢;refine br ?_ ?_<;>intro hb
  ·have hb:x.bare=false:=sU hb;obtain ⟨k,hk,jm⟩:=(oD x (mG hx)).to1 hb;obtain ⟨b,eN⟩:∃ b,K[k]? = some b:=⟨_,gE jm⟩;have hg:(wv K)[(max x.to 0).toNat]? = some [DV.v (.bool b)]:=by rw [show (max x.to 0).toNat=k by omega];exact I1 eN
   have hik:pD K x=b:=by unfold pD;rw [hb,hk];simp [List.getD_eq_getElem?_getD,eN]
   rw [hik] at hs hv;refine iX (bm hx) ?_;refine ⟨_,⟨by omega,hg⟩,?_⟩;have e5:pickB s true b=(es.take (e + 1)).any (pD K):=by rw [hs,ap]
   have e6:pickB v b false=(es.take (e + 1)).all (pD K):=by rw [hv,pickB_and]
   exact rE ⟨_,by omega,e + 1,rfl,by omega,rfl⟩ (weak_mk ⟨_,rfl⟩ wA rfl rfl rfl (wB3 e5 e6 (nxt au (by omega))))
  ·have hb:x.bare=true:=sU hb;have hik:pD K x=true:=by unfold pD;rw [hb];all_goals rfl
   rw [hik] at hs hv;have e5:pickB s true true=(es.take (e + 1)).any (pD K):=by rw [hs,ap]
   have e6:pickB v true false=(es.take (e + 1)).all (pD K):=by rw [hv,pickB_and]
   exact rE ⟨_,by omega,e + 1,rfl,by omega,rfl⟩ (weak_mk ⟨_,rfl⟩ wA rfl rfl rfl (wB3 e5 e6 (nxt au (by omega))))
 ·have aN:e=es.length:=by have:=hL;simp [bZ] at this;omega
  subst aN;rw [List.take_length];refine br ?_ ?_<;>intro g
  ·have g:ag=7:=sU g;refine (congrArg (fun b=>DV.v (.bool b)) ?_:_=_);simp [Hk,g]
  ·have g:¬ ag=7:=sU g;refine (congrArg (fun b=>DV.v (.bool b)) ?_:_=_);simp [Hk,g,h7]
theorem abG {bx:List (List DV)} {N n0 m0 n i:Nat} {r:List Bool} (hr:r.length=n) (hN:N<=i) (hb:bx[i]? = some (cB r)):Cc bx N n0 m0 (.sl 1 (wv r) none) (.ms i 1 0 n n):=by
 simp only [Cc];refine Or.inr (Or.inr (Or.inl ⟨i,0,n,_,by rw [ux,hr],hN,hb,?_,?_,?_⟩))
 ·rw [qD,List.drop_zero,List.take_of_length_le (by rw [r8,ux];omega)]
 ·intro x hx;simp only [wv,List.mem_map] at hx;obtain ⟨_,_,rfl⟩:=hx;rfl
 ·intro x hx;rw [qD] at hx;obtain ⟨_,_,rfl⟩:=List.mem_map.1 hx;exact .inl ⟨_,rfl⟩
theorem aa3 (l:List Nat) (bx:List (List DV)) (N n m:Nat):CcL bx N n m (cN l) (cN l):=by
 induction l with
 | nil=>rfl
 | cons a r ih=>exact ⟨_,_,rfl,rfl,ih⟩
abbrev wG (a b:Nat) (A B:List (List DV)) (ND:List Nd) (z:Int):List DV:=[.sl a A none,.sl b B none,.sl 7 (cY ND) none,.v (.int .i64 z)]
abbrev P4 (W:List DV) (O:List Nat) (K:List Bool) (n d:Nat):St:=
 ⟨[(1,⟨[],.loc 0 0⟩),(3,⟨[],.ms 1 1 0 n n⟩),(4,⟨[],.sl 1 (wv K) none⟩),(5,⟨[],.v (.int .i64 d)⟩)],[W,cN O],[]⟩
abbrev EF (W:List DV) (O:List Nat) (K:List Bool) (M:List Bool) (n d e:Nat):St:=
 ⟨[(1,⟨[],.loc 0 0⟩),(3,⟨[],.ms 1 1 0 n n⟩),(4,⟨[],.sl 1 (wv K) none⟩),(5,⟨[],.v (.int .i64 d)⟩),(6,⟨[],.ms 2 1 0 n n⟩),(7,⟨[],.v (.int .i64 e)⟩)],[W,cN O,cB M],[]⟩
theorem yv (a b:Nat) (A B:List (List DV)) {ND:List Nd} {L:Nat} (z:Int) (bS:∀ n∈ND,dB L ND.length n) (fV:ND.length<=1099511627776) (bJ:∀ n∈ND,n.aw.length<=1099511627776) :
  EvP prog 123 [.agg (wG a b A B ND z)] (.sl 1 (dInts (depN ND ND.length)) none):=by
 have cu:=kZ ND;refine eG 61 [.tmp 2] func123 rfl ntmps123 rfl fun _ _ _ _=>?_;refine ⟨⟨rfl,by omega,by rw [cu];omega,by rw [cu];omega⟩,?_⟩;refine ⟨⟨rfl,by omega,by rw [cu];omega,by rw [cu];omega⟩,?_⟩;refine NY (fun j st=>∃ d:Nat,st=P4 (wG a b A B ND z) (depN ND d) (fw (depN ND d)) (cY ND).length (d + 1)/\d<=ND.length/\j=ND.length - d) ND.length (P4 (wG a b A B ND z) (depN ND 0) (fw (depN ND 0)) (cY ND).length 1) (.Ik 2 rfl rfl ?_ rfl ?_) ⟨0,rfl,by omega,by omega⟩ ?_
 ·refine ⟨_,_,rfl,ax,_,_,rfl,?_,rfl⟩;rw [repN,cu];exact aa3 _ _ _ _ _
 ·refine ⟨⟨_,rfl,wC0⟩,⟨_,rfl,wC0⟩,⟨_,rfl,abG (by rw [nB,fT,cu];omega) (Nat.le_refl _) ?_⟩,⟨_,rfl,ax⟩,trivial⟩;refine congrArg some ?_;rw [KH,cu];simp [fw,depN]
 rintro j st ⟨d,rfl,hd,rfl⟩;have hpl:(fw (depN ND d)).length=ND.length:=by rw [nB,fT]
 refine br ?_ ?_<;>intro hc
 ·have au:d < ND.length:=sW cu hc;refine ⟨⟨rfl,by omega,by rw [cu];omega,by rw [cu];omega⟩,?_⟩;refine av (fun j st=>∃ (e:Nat) (O:List Nat) (M:List Bool),st=EF (wG a b A B ND z) O (fw (depN ND d)) M (cY ND).length (d + 1) e/\e<=ND.length/\O.length=ND.length/\M.length=ND.length/\(∀ i:Nat,i < e->O.getD i 0=(depN ND (d + 1)).getD i 0/\M.getD i false=(fw (depN ND (d + 1))).getD i false)/\(∀ i:Nat,e<=i->O.getD i 0=(depN ND d).getD i 0)/\j=ND.length - e) ND.length (EF (wG a b A B ND z) (depN ND d) (fw (depN ND d)) (List.replicate ((cY ND).length:Int).toNat false) (cY ND).length (d + 1) 0) (az 3 rfl (by repeat' (first | exact rfl | exact ah rfl | exact nC rfl | exact dA (KH _) | refine ⟨_,_,rfl,?_,?_⟩)) rfl rfl rfl (by repeat' (first | exact trivial | exact ah rfl | exact nC rfl | exact dA (KH _) | refine ⟨⟨_,rfl,?_⟩,?_⟩))) ⟨0,_,_,rfl,by omega,by rw [fT],by rw [List.length_replicate,cu];omega,fun i hi=>by omega,fun i _=>rfl,by omega⟩ ?_;rintro j st ⟨e,O,M,rfl,he,hO,hM,pB,JH,rfl⟩;refine br ?_ ?_<;>intro hL
  ·have eV:e < ND.length:=by have:=hL;simp [cu] at this;exact this
   obtain ⟨n,hn⟩:∃ n,ND[e]? = some n:=⟨_,gE eV⟩;have Lw:=mG hn;have h1:=Hm (fw (depN ND d)) (by rw [hpl];exact fV) (n:=n) (by rw [hpl];exact bS n Lw) (bJ n Lw);obtain ⟨r1,r2⟩:=aaS (fun m hm=>⟨(bS m hm).k8,(bS m hm).bare⟩) d hn;refine iX (fL hn) ?_;refine cP ZA h1 ?_
   have aU:(cB M).set (0 + (e:Int).toNat * 1) (DV.v (.bool (Hk n (fw (depN ND d)))))=cB (M.set e (Hk n (fw (depN ND d)))):=by
    rw [show 0 + (e:Int).toNat * 1=e by omega,Bc]
   have RO:(cB (M.set e (Hk n (fw (depN ND d)))))[0 + (e:Int).toNat * 1]? = some (DV.v (.bool (Hk n (fw (depN ND d))))):=by
    rw [show 0 + (e:Int).toNat * 1=e by omega];exact Oy (List.getElem?_set_self (by omega))
   obtain ⟨q,hq⟩:∃ q,O[e]? = some q:=⟨_,gE (by omega)⟩;have hqd:(depN ND d).getD e 0=q:=by rw [<- JH e (Nat.le_refl _),List.getD_eq_getElem?_getD,hq];all_goals rfl
   rw [hqd] at r1
   have hMs:∀ i:Nat,i < e + 1->(M.set e (Hk n (fw (depN ND d)))).getD i false=(fw (depN ND (d + 1))).getD i false:=fun i hi=>by
    by_cases CK:i=e
    ·subst CK;rw [r2,List.getD_eq_getElem?_getD,List.getElem?_set_self (by omega)];all_goals rfl
    ·rw [List.getD_eq_getElem?_getD,List.getElem?_set_ne (Ne.symm CK),<- List.getD_eq_getElem?_getD];exact (pB i (by omega)).2
   generalize Hk n (fw (depN ND d))=h at aU RO r1 hMs ⊢;refine ⟨⟨by omega,by rw [cu];omega⟩,?_⟩;refine ⟨by rw [r8];omega,?_⟩;refine ⟨⟨by omega,by rw [cu];omega⟩,?_⟩;refine ⟨DV.v (.bool h),(by rw [aU];exact RO),?_⟩
   have hOs:∀ v,v=(depN ND (d + 1)).getD e 0->∀ i:Nat,i < e + 1->(O.set e v).getD i 0=(depN ND (d + 1)).getD i 0:=fun v hv i hi=>by
    by_cases CK:i=e
    ·subst CK;rw [<- hv,List.getD_eq_getElem?_getD,List.getElem?_set_self (by omega)];all_goals rfl
    ·rw [List.getD_eq_getElem?_getD,List.getElem?_set_ne (Ne.symm CK),<- List.getD_eq_getElem?_getD];exact (pB i (by omega)).1
   have hOr:∀ v:Nat,∀ i:Nat,e + 1<=i->(O.set e v).getD i 0=(depN ND d).getD i 0:=fun v i hi=>by
    rw [List.getD_eq_getElem?_getD,List.getElem?_set_ne (by omega),<- List.getD_eq_getElem?_getD];exact JH i (by omega)
   have hOq:O.set e q=O:=List.ext_getElem? fun i=>by
    by_cases CK:e=i
    ·subst CK;rw [List.getElem?_set_self (by omega),hq]
    ·rw [List.getElem?_set_ne CK]
   refine br ?_ ?_<;>intro g
   ·have g:h=true:=sU g;refine ⟨⟨by omega,by rw [cu];omega⟩,?_⟩;refine ⟨DV.v (.int .i64 (q:Int)),(by rw [show 0 + (e:Int).toNat * 1=e by omega];exact W2 hq),?_⟩;refine br ?_ ?_<;>intro g2
    ·have g2:q=0:=by simpa [pickB,pickD] using g2
     rw [if_pos ⟨g,g2⟩] at r1;refine ⟨⟨by omega,by rw [cu];omega⟩,?_⟩;refine ⟨by rw [aaW];omega,?_⟩
     have Mx:(cN O).set (0 + (e:Int).toNat * 1) (DV.v (.int .i64 ((d + 1:Nat):Int)))=cN (O.set e (d + 1)):=by
      rw [show 0 + (e:Int).toNat * 1=e by omega,W3]
     exact ⟨EF (wG a b A B ND z) (O.set e (d + 1)) (fw (depN ND d)) (M.set e h) (cY ND).length (d + 1) (e + 1),(az 3 rfl (wA3 Mx aU (nxt eV (by omega))) rfl rfl rfl (wB3 Mx aU (nxt eV (by omega)))),ND.length - (e + 1),by omega,e + 1,_,_,rfl,by omega,by simp [hO],by rw [List.length_set];exact hM,fun i hi=>⟨hOs _ r1.symm i hi,hMs i hi⟩,hOr (d + 1),rfl⟩
    ·have g2:¬ q=0:=by simpa [pickB,pickD] using g2
     rw [if_neg (fun h=>g2 h.2)] at r1;exact ⟨EF (wG a b A B ND z) (O.set e q) (fw (depN ND d)) (M.set e h) (cY ND).length (d + 1) (e + 1),(az 3 rfl (by repeat' (first | exact rfl | exact ah rfl | exact nC (by rw [hOq]) | exact dA aU | exact ai (nxt eV (by omega)) | refine ⟨_,_,rfl,?_,?_⟩)) rfl rfl rfl (by repeat' (first | exact trivial | exact ah rfl | exact nC (by rw [hOq]) | exact dA aU | exact ai (nxt eV (by omega)) | refine ⟨⟨_,rfl,?_⟩,?_⟩))),ND.length - (e + 1),by omega,e + 1,_,_,rfl,by omega,by simp [hO],by rw [List.length_set];exact hM,fun i hi=>⟨hOs _ r1.symm i hi,hMs i hi⟩,hOr q,rfl⟩
   ·have g:h=false:=sU g;rw [if_neg (by rw [g];simp)] at r1;exact ⟨EF (wG a b A B ND z) (O.set e q) (fw (depN ND d)) (M.set e h) (cY ND).length (d + 1) (e + 1),(az 3 rfl (by repeat' (first | exact rfl | exact ah rfl | exact nC (by rw [hOq]) | exact dA aU | exact ai (nxt eV (by omega)) | refine ⟨_,_,rfl,?_,?_⟩)) rfl rfl rfl (by repeat' (first | exact trivial | exact ah rfl | exact nC (by rw [hOq]) | exact dA aU | exact ai (nxt eV (by omega)) | refine ⟨⟨_,rfl,?_⟩,?_⟩))),ND.length - (e + 1),by omega,e + 1,_,_,rfl,by omega,by simp [hO],by rw [List.length_set];exact hM,fun i hi=>⟨hOs _ r1.symm i hi,hMs i hi⟩,hOr q,rfl⟩
  ·have aN:e=ND.length:=sW cu hL;subst aN
   have SQ:O=depN ND (d + 1):=aaQ (by rw [hO,fT]) fun j=>by
    rcases Nat.lt_or_ge j ND.length with hj | hj
    ·exact (pB j hj).1
    ·simp only [List.getD_eq_getElem?_getD];rw [List.getElem?_eq_none (by omega),List.getElem?_eq_none (by rw [fT];omega)]
   have hM2:M=fw (depN ND (d + 1)):=Da (by rw [hM,nB,fT]) (fun j hj=>by
     rcases Nat.lt_or_ge j ND.length with h | h
     ·rw [<- (pB j h).2];exact hj
     ·rw [List.getD_eq_getElem?_getD,List.getElem?_eq_none (by omega)] at hj;cases hj) (fun j hj=>by
     rcases Nat.lt_or_ge j ND.length with h | h
     ·rw [(pB j h).2];exact hj
     ·rw [List.getD_eq_getElem?_getD,List.getElem?_eq_none (by rw [nB,fT];omega)] at hj;cases hj)
   subst SQ hM2;refine ⟨P4 (wG a b A B ND z) (depN ND (d + 1)) (fw (depN ND (d + 1))) (cY ND).length (d + 1 + 1),.Ik 2 rfl rfl ⟨_,_,rfl,ax,_,_,rfl,aa3 _ _ _ _ _,rfl⟩ rfl ⟨⟨_,rfl,wC0⟩,⟨_,rfl,wC0⟩,⟨_,rfl,abG (by rw [nB,fT,cu]) (Nat.le_refl _) rfl⟩,⟨_,rfl,?_⟩,trivial⟩,ND.length - (d + 1),by omega,d + 1,rfl,by omega,rfl⟩;exact congrArg (fun z=>DV.v (Value.int .i64 z)) (nxt (n:=1099511627777) (by omega) (by omega))
 ·have aN:d=ND.length:=sW cu hc;subst aN;exact ⟨_,ms_n (by rw [fT,cu]) (Nat.zero_le _) rfl,rfl⟩
theorem Hn {ND:List Nd} {ks:List Val} {f:Nat->Int} {e:Nat} {x:Val} (h:ks[e]? = some x):refVs ND (ks.drop e) f e=(xz ND x (f e) && refVs ND (ks.drop (e + 1)) f (e + 1)):=by
 rw [drop_cons h,refVs]
abbrev W4 (W:List DV) (v:Val) (d:Nd) (ok:Bool) (e:Nat):St:=
 ⟨[(3,⟨[],.loc 0 0⟩),(5,⟨[],.loc 1 0⟩),(7,⟨[],.loc 2 0⟩),(8,⟨[],.v (.bool ok)⟩),(9,⟨[],.v (.int .i64 e)⟩)],[W,aM v,jc d],[]⟩
set_option maxHeartbeats 4000000 in
theorem ti (a b:Nat) (A B:List (List DV)) (rt:Int) {ND:List Nd} {L:Nat} (bS:∀ n∈ND,dB L ND.length n):∀ (k:Nat) (v:Val),v.wt<=k->v.wt<=1099511627776->∀ i:Int,EvP prog 94 [.agg (wG a b A B ND rt),.v (.int .i64 i),.agg (aM v)] (.v (.bool (xz ND v i)))
 | 0,v,h,_=>by have:=v.dh;omega
 | k + 1,.mk q z s ks,h,hb=>fun i=>by
  have ih:=ti a b A B rt bS k;have jm:=dc ks;have cu:=bo ks;have dO:=hb;rw [Val.wt] at h hb;rw [xz];have CE:=kZ ND
  cases hd:cS ND i with
  | none=>
   have hn:=xA hd;refine eG 164 [.tmp 6] func94 rfl ntmps94 rfl fun _ _ _ _=>?_;refine br (fun _=>?_) (fun c=>?_)
   ·exact (rfl:_=_)
   ·exfalso;have:=c;simp [ap,CE] at this;omega
  | some d=>
   obtain ⟨h0,hg⟩:=dt hd;obtain ⟨j,rfl⟩:∃ j:Nat,i=j:=⟨i.toNat,by omega⟩;have hg:ND[j]? = some d:=sU hg;have oM:=(gS hg).1;have hN:=bS d (mG hg);have om:=hN.k1;have B7:=hN.k8;have s9:=hN.many;have jz:=fun m=>Le hN (.mk q z s ks) m;simp only;have j1:=bZ d.aw;have hbl:=cg d.af;generalize hf:Jj d (.mk q z s ks)=f at jz;have hF:Eg d (.mk q z s ks)=Eg d (.mk q z s ks):=rfl;obtain ⟨ag,aD,lo,hi,most,af,es⟩:=d;simp only at om B7 s9 j1 hbl;have hkc:((ks.length:Int)=(es.length:Int))↔ks.length=es.length:=by omega
   have OM:∀ b:Bool,b=pickB (pickB (!decide (q=ag)) true (pickB (!decide (q=3)) (!decide (s=⟨#[]⟩)) false)) true (pickB (decide (0 < (s.size:Int))) (decide (most < (s.size:Int))) false)->b=xy ⟨ag,aD,lo,hi,most,af,es⟩ (.mk q z s ks):=fun b h=>by
    rw [h,sv,Bool.eq_iff_iff];have hB:xy ⟨ag,aD,lo,hi,most,af,es⟩ (.mk q z s ks)=(decide (q≠ag) || (decide (q≠3) && decide (s≠aq)) || (decide (0 < s.size) && decide (most < (s.size:Int)))):=rfl;rw [hB];simp [ap,pickB_and,or_assoc]
   refine eG 164 [.tmp 6] func94 rfl ntmps94 rfl fun _ _ _ _=>?_;refine br (fun c=>?_) (fun _=>?_)
   ·exfalso;have:=c;simp [ap,CE] at this;omega
   refine iX (fL hg) ?_;refine br ?_ ?_<;>intro c
   ·have c:=(OM _ rfl).symm.trans c;rw [if_pos c];exact (rfl:_=_)
   have c:=(OM _ rfl).symm.trans c;rw [if_neg (by rw [c];simp)];rcases (show ag=1∨ag=2∨ag=3∨ag=4∨ag=5∨ag=6∨ag=7∨ag=8 by omega) with c | c | c | c | c | c | c | c
   all_goals
    repeat (first | (refine br (fun h=>?_) (fun _=>?_);focus (simp [c] at h;done)) | (refine br (fun _=>?_) (fun h=>?_);rotate_left;focus (simp [c] at h;done)))
   all_goals
    try
     refine dI ?_
     have hc:∀ b:Bool,b=pickB (decide (0<=z)) (decide (z < ((fv es).length:Int))) false->b=decide (0<=z/\z < es.length):=fun b h=>by
      rw [h,j1,pickB_and,Bool.eq_iff_iff];simp
     refine br (fun g=>?pp) (fun g=>?nn)
     case' pp=>
      have g8:=of_decide_eq_true ((hc _ rfl).symm.trans (sU g));obtain ⟨x,hx8⟩:∃ x,es[z.toNat]? = some x:=⟨_,gE (by omega)⟩;have hm64:=(s9 (.inr c)).1;have hw:max 0 (min z (IntKind.i64.wrap (((fv es).length:Int) - 1)))=z:=by rw [j1,wrap64 (by omega) (by omega)];omega
      refine ⟨_,⟨Int.le_max_left _ _,by rw [hw];exact bm hx8⟩,?_⟩;show sD _ _ _ _
     case' nn=>
      have g8:=of_decide_eq_false ((hc _ rfl).symm.trans (sU g));show sD _ _ _ _
   all_goals
    refine av (fun j st=>∃ (e:Nat) (ok:Bool),st=W4 (wG a b A B ND rt) (.mk q z s ks) ⟨ag,aD,lo,hi,most,af,es⟩ ok e/\e<=ks.length/\(Eg ⟨ag,aD,lo,hi,most,af,es⟩ (.mk q z s ks) && refVs ND ks f 0)=(ok && refVs ND (ks.drop e) f e)/\j=ks.length - e) ks.length (W4 (wG a b A B ND rt) (.mk q z s ks) ⟨ag,aD,lo,hi,most,af,es⟩ _ 0) (weak_mk ⟨_,rfl⟩ wA rfl rfl rfl wB) ⟨0,_,rfl,by omega,congrArg (fun b=>b && refVs ND ks f 0) ?_,by omega⟩ ?_
    ·first
      | (simp [Eg,c,ap,pickB_and,Val.n,Val.ks,j1,hbl,cu,hkc,g8,hx8];rw [(gS hx8).2];cases x.bare<;>simp;done)
      | (simp [Eg,c,ap,pickB_and,Val.n,Val.ks,j1,hbl,cu,hkc,g8];try rfl;done)
      | (simp [Eg,c,ap,pickB_and,Val.n,Val.ks,j1,hbl,cu,hkc];try rfl;done)
    ·rintro _ st ⟨e,ok,rfl,he,aK,rfl⟩;refine br ?_ ?_<;>intro hL
     ·have hL:e < ks.length/\ok=true:=by
       have:=hL;simp [pickB_and,cu] at this;exact this
      obtain ⟨au,hok1⟩:=hL;obtain ⟨x,hx⟩:=gX au;have QJ:=cE (mG hx);rw [hok1,Bool.true_and,Hn hx] at aK;have dF:=ih x (by omega) (by omega) (f e);obtain ⟨xk,xn,xs,xl⟩:=x;refine dI ?_;refine cD Zt (jz e) ?_;refine iX (bf hx) ?_;refine cD Za dF ?_;exact ⟨W4 (wG a b A B ND rt) (.mk q z s ks) ⟨ag,aD,lo,hi,most,af,es⟩ _ (e + 1),(weak_mk ⟨_,rfl⟩ wA rfl rfl rfl (wB1 (nxt au (by omega)))),ks.length - (e + 1),by omega,e + 1,_,rfl,by omega,aK,rfl⟩
     ·have hL:¬ (e < ks.length/\ok=true):=by
       have:=hL;simp [pickB_and,cu] at this;simpa using this
      refine (congrArg (fun b=>DV.v (.bool b)) ?_:_=_);rw [aK]
      cases ok with
      | false=>rfl
      | true=>rw [List.drop_of_length_le (by simp at hL;omega),refVs];all_goals rfl
theorem Ho (l:List bV) (x:bV):ch l ++ [l9 x]=ch (l ++ [x]):=by simp [ch]
def dP:List bV->DV
 | []=>.v (.slice none 0 0)
 | s :: p=>.sl 3 (ch (s :: p)) none
theorem P5:EvP prog 150 [.v (.slice none 0 0)] (.v (.slice none 0 0)):=by
 refine eG 8 [.tmp 2] func150 rfl ntmps150 rfl fun _ _ _ _=>?_;refine SP ⟨_,rfl⟩ rfl rfl rfl rfl ?_;exact (rfl:_=_)
theorem P6 (s:bV) (p:List bV) (hl:(s :: p).length<=1099511627776):EvF prog 150 [.sl 3 (ch (s :: p)) none] [] [] (fun r _ ct=>r = .sl 3 (ch (s :: p)) (some 0)/\ct=[⟨(s :: p).length,121,3,none⟩]):=by
 have cu:=gD (s :: p);have aT:ch (s :: p) ≠ []:=by simp [ch]
 refine uc (s:=false) (bt:=[]) (mu:=[]) (hbt:=fun p hp=>by cases hp) (fr:=true) (P:=prog) tt aaP 5000 8 [.tmp 2] func150 rfl ntmps150 rfl (nL rfl) (fun _ _ _ _=>?_);refine Gn ⟨_,rfl⟩ rfl rfl rfl rfl (fun b hb=>?_);rw [hb aT];refine wj rfl rfl rfl rfl (hk:=?_);refine ⟨rfl,⟨by simp [maxLen,cu];simp at hl;omega,by simp [cu];simp at hl;omega⟩,?_⟩;refine ⟨_,[],wC0,rfl,rfl,?_⟩;show [(⟨0 + (ch (s :: p)).length,_,3,none⟩:TkE)]=_;rw [cu,Nat.zero_add]
structure oH where
 k:Int
 p:List bV
 x:Option Val
 y:Option Val
def vD:Option Val->List DV
 | none=>[.v (.int .i64 0),.v (.int .i64 0),.v (.string aq),.v (.slice none 0 0)]
 | some v=>aM v
def nD (c:oH):List DV:=[.v (.int .i64 c.k),dP c.p] ++ (vD c.x ++ vD c.y)
def aJ (l:List oH):List (List DV):=l.map nD
theorem cV (l:List oH):(aJ l).length=l.length:=by simp [aJ]
theorem eK (l:List oH) (c:oH):aJ l ++ [nD c]=aJ (l ++ [c]):=by simp [aJ]
theorem z8 (a b:List oH):aJ a ++ aJ b=aJ (a ++ b):=by simp [aJ]
theorem Ly {l:List oH} {i:Nat} {c:oH} (h:l[i]? = some c):(aJ l)[i]? = some (nD c):=by simp [aJ,h]
def qU (x y:Val):Bool:=decide (x.k=y.k) && (decide (x.n=y.n) && (decide (x.s=y.s) && (decide (x.ks.length=y.ks.length) || decide (x.k=5))))
def dn (j:Nat):bV:=⟨2,j,aq⟩
def addC (p:List bV):List Val->Nat->List oH
 | [],_=>[]
 | y :: r,j=>⟨2,p ++ [dn j],none,some y⟩ :: addC p r (j + 1)
def pw (p:List bV):List Val->Nat->List oH
 | [],_=>[]
 | x :: r,j=>pw p r (j + 1) ++ [⟨3,p ++ [dn j],some x,none⟩]
section
variable (ND:List Nd)
def kidD (F:Val->Val->Int->List bV->List oH) (d:Nd) (x y:Val) (p:List bV) (j:Nat):List oH:=
 match x.ks[j]?,y.ks[j]?,cd d x.n j with
 | some a,some b,some e=>F a b e.to (p ++ [stpR d x j])
 | _,_,_=>[]
def kidsD (F:Val->Val->Int->List bV->List oH) (d:Nd) (x y:Val) (p:List bV):Nat->List oH
 | 0=>[]
 | j + 1=>kidsD F d x y p j ++ kidD F d x y p j
def dfK:Nat->Val->Val->Int->List bV->List oH
 | 0,_,_,_,_=>[]
 | k + 1,x,y,i,p=>if qU x y=true then (match cS ND i with
  | none=>[]
  | some d=>kidsD (dfK k) d x y p (min x.ks.length y.ks.length) ++ addC p (y.ks.drop x.ks.length) x.ks.length ++ pw p (x.ks.drop y.ks.length) y.ks.length) else [⟨1,p,some x,some y⟩]
end
theorem qV (p:List bV):∀ (l:List Val) (j:Nat),(addC p l j).length=l.length
 | [],_=>rfl
 | _ :: r,j=>by rw [addC,List.length_cons,List.length_cons,qV p r]
theorem nE (p:List bV):∀ (l:List Val) (j:Nat),(pw p l j).length=l.length
 | [],_=>rfl
 | _ :: r,j=>by rw [pw,List.length_append,List.length_cons,nE p r];all_goals rfl
theorem xO (p:List bV):∀ {l:List Val} {j e:Nat} {y:Val},l[e]? = some y->(addC p l j)[e]? = some ⟨2,p ++ [dn (j + e)],none,some y⟩
 | [],_,_,_,h=>by simp at h
 | z :: r,j,0,y,h=>by
  simp only [List.getElem?_cons_zero,oI] at h;subst h;rfl
 | z :: r,j,e + 1,y,h=>by
  rw [addC,List.getElem?_cons_succ,xO p (j:=j + 1) (sU h),show j + 1 + e=j + (e + 1) by omega]
theorem xP (p:List bV):∀ {l:List Val} {j t:Nat} {x:Val},t < l.length->l[l.length - 1 - t]? = some x->(pw p l j)[t]? = some ⟨3,p ++ [dn (j + (l.length - 1 - t))],some x,none⟩
 | [],_,_,_,h,_=>by simp at h
 | z :: r,j,t,x,h,hx=>by
  rw [pw];have hl:=nE p r (j + 1);rw [List.length_cons] at h hx ⊢;by_cases c:t < r.length
  ·rw [List.getElem?_append_left (by omega),xP p c (x:=x) (by rw [show r.length + 1 - 1 - t=(r.length - 1 - t) + 1 by omega,List.getElem?_cons_succ] at hx;exact hx),show j + 1 + (r.length - 1 - t)=j + (r.length + 1 - 1 - t) by omega]
  ·have ht:t=r.length:=by omega
   subst ht;rw [show r.length + 1 - 1 - r.length=0 by omega,List.getElem?_cons_zero] at hx;cases hx;rw [List.getElem?_append_right (by omega),hl,show r.length - r.length=0 by omega,show r.length + 1 - 1 - r.length=0 by omega,Nat.add_zero];rfl
theorem iL:∀ l:List Val,l.length<=aY l
 | []=>by simp [aY]
 | v :: r=>by
  have:=iL r;have h1:1<=dT v:=by obtain ⟨_,_,_,_⟩:=v;rw [dT];omega
  rw [aY,List.length_cons];omega
theorem fp:∀ (l:List Val) (m:Nat),aY (l.take m) + aY (l.drop m)=aY l
 | [],m=>by simp [aY]
 | v :: r,0=>by simp [aY]
 | v :: r,m + 1=>by
  have:=fp r m;simp only [List.take_succ_cons,List.drop_succ_cons,aY];omega
theorem iV {l:List Val} {j:Nat} {a:Val} (h:l[j]? = some a):aY (l.take (j + 1))=aY (l.take j) + dT a:=by
 rw [List.take_add_one,h];exact pg _ _
theorem xQ (l:List Val) (m:Nat):aY (l.take m)<=aY (l.take (m + 1)):=by
 cases h:l[m]? with
 | none=>rw [List.take_add_one,h];simp
 | some a=>rw [iV h];omega
theorem EG {F:Val->Val->Int->List bV->List oH} (hF:∀ x y i p,(F x y i p).length<=dT x + dT y) (d:Nd) (x y:Val) (p:List bV):∀ m,(kidsD F d x y p m).length<=aY (x.ks.take m) + aY (y.ks.take m):=by
 intro m
 induction m with
 | zero=>simp [kidsD]
 | succ m im=>
  rw [kidsD,List.length_append]
  have h2:(kidD F d x y p m).length + (aY (x.ks.take m) + aY (y.ks.take m))<=aY (x.ks.take (m + 1)) + aY (y.ks.take (m + 1)):=by
   have fH:=xQ x.ks m;have q6:=xQ y.ks m;unfold kidD;split
   ·rename_i a b e h1 h2 h3;have:=hF a b e.to (p ++ [stpR d x m]);rw [iV h1,iV h2];omega
   ·simp only [List.length_nil];omega
  omega
theorem qW (ND:List Nd):∀ (k:Nat) (x y:Val) (i:Int) (p:List bV),(dfK ND k x y i p).length<=dT x + dT y
 | 0,_,_,_,_=>Nat.zero_le _
 | k + 1,x,y,i,p=>by
  have ih:=qW ND k;rw [dfK];have hx1:dT x=1 + aY x.ks:=by obtain ⟨_,_,_,_⟩:=x;rfl
  have BX:dT y=1 + aY y.ks:=by obtain ⟨_,_,_,_⟩:=y;rfl
  split
  ·cases hd:cS ND i with
   | none=>simp only [List.length_nil];omega
   | some d=>
    have hk:=EG (F:=dfK ND k) ih d x y p;have h1:=hk (min x.ks.length y.ks.length);have h2:=qV p (y.ks.drop x.ks.length) x.ks.length;have h3:=nE p (x.ks.drop y.ks.length) y.ks.length;have h4:=iL (y.ks.drop x.ks.length);have h5:=iL (x.ks.drop y.ks.length);have h6:=fp x.ks (min x.ks.length y.ks.length);have h7:=fp y.ks (min x.ks.length y.ks.length);simp only [List.length_append];rcases Nat.le_total x.ks.length y.ks.length with c | c
    ·rw [Nat.min_eq_left c] at *;rw [List.drop_eq_nil_of_le c] at h3 h5 ⊢;simp only [List.length_nil] at h3;omega
    ·rw [Nat.min_eq_right c] at *;rw [List.drop_eq_nil_of_le c] at h2 h4 ⊢;simp only [List.length_nil] at h2;omega
  ·simp only [List.length_cons,List.length_nil];omega
theorem Aa (ND:List Nd) (k:Nat) (d:Nd) (x y:Val) (p:List bV) (m:Nat):(kidsD (dfK ND k) d x y p m).length<=aY (x.ks.take m) + aY (y.ks.take m):=EG (qW ND k) d x y p m
abbrev bO (p:DV) (l:List UInt8):List DV:=[p,.sl 1 (bD l) (some 0)]
abbrev bT (l:List UInt8):List TkE:=[⟨l.length,5,1,none⟩]
def W5 (y:Val) (l:List UInt8) (r:DV) (os:List (List DV)) (ct:List TkE):Prop:=r = .tup []/\os=[aM y,bO (.loc 1 0) l]/\ct=bT l
abbrev Ab (y:Val) (PC:List DV) (d:Nd) (v:Val) (O Z:List UInt8) (NM:DV) (T:List Int) (L:List UInt8) (e:Nat):St:=
 ⟨[(0,⟨[],.loc 1 0⟩),(1,⟨[],.pt PC 0⟩),(10,⟨[],.loc 4 0⟩),(11,⟨[],.sl 1 (ou T) none⟩),(38,⟨[],.sl 4 (dVals v.ks) none⟩),(39,⟨[],.v (.int .i64 (dVals v.ks).length)⟩),(40,⟨[],.v (.int .i64 e)⟩)],
  [aM y,bO (.loc 1 0) L,aM v,jc d,[.v (.string (ba O)),.v (.string (ba Z)),NM]],bT L⟩
theorem qX {S:Sch} {ND:List Nd} {PC:List DV} (hP:fN S ND PC) (y:Val):∀ (k:Nat) (v:Val),v.wt<=k->v.wt<=1099511627776->rngW v->∀ i:Int,iI ND v i=true->∀ (l:List UInt8) (p:DV),p = .v (.pointer none)∨p = .loc 1 0->l.length + 50 * v.wt<=140737488355328 ->
  Yw false prog 165 [.loc 1 0,.pt PC 0,.v (.int .i64 i),.agg (aM v)] [aM y,bO p l] (bT l) [(1,135)] (W5 y (l ++ textV ND v i))
 | 0,v,h,_=>by have:=v.dh;omega
 | k + 1,v,h,hb=>fun hr i hw l p hp hl=>by
  have ih:=qX hP y k;obtain ⟨yk,yn,ys,yl⟩:=y;obtain ⟨d,hd,hc⟩:=jX hw;obtain ⟨h0,hg⟩:=dt hd;obtain ⟨j,rfl⟩:∃ j:Nat,i=j:=⟨i.toNat,by omega⟩;have hg:ND[j]? = some d:=sU hg;have hN:=hP.ok d (mG hg);have om:=hN.k1;have B7:=hN.k8;have ey:=hP.aj j d hg;have hpl:=qS v;obtain ⟨hon,kK⟩:=BL hN (by obtain ⟨_,_,_,_⟩:=v;rw [rngW] at hr;exact hr.2.1) hc;have hol2:(fO d v).length + 1<=50 * (64 + v.s.size):=by omega
  have eZ:=z6 hP.ok v j hr hw
  have hT:textV ND v j=fO d v ++ textVs ND v.ks d v.n 0 ++ nz v:=by
   obtain ⟨q,z,s,ks⟩:=v;rw [textV,hd];rfl
  have hvw:v.wt=64 + v.s.size + aav v.ks:=by obtain ⟨q,z,s,ks⟩:=v;rfl
  have Jx:=fun a b=>Ew d v (by omega) (by obtain ⟨_,_,_,_⟩:=v;rw [rngW] at hr;exact hr.2.1) a b;by_cases c9:v.k < 5∨8 < v.k
  ·have hk0:v.ks=[]:=by
    rcases hc with h | h | h
    ·exact h.2.2
    ·exact h.2.2.1
    ·omega
   have h4:v.k=4->0<=v.n/\v.n < d.af.length:=by
    rcases hc with h | h | h
    ·omega
    ·exact h.2.2.2
    ·omega
   have Jx:=Jx (by omega) h4;have kW:nz v=[]:=UI (by omega) hk0;rw [hk0,kW,textVs,List.append_nil,List.append_nil] at hT;rw [hT] at eZ ⊢;rw [show (decide (v.k < 5) || decide (8 < v.k))=true by simpa using c9] at hpl;generalize fO d v=O at *;clear hc hT;obtain ⟨q,z,s,ks⟩:=v;obtain ⟨ag,aD,lo,hi,most,af,es⟩:=d;refine Ax (s:=false) (bt:=[(1,135)]) (mu:=[]) (fr:=false) (P:=prog) tt aaP 5000 72 [] func165 rfl ntmps165 rfl (nL rfl) (fun _ _ _ _=>?_);refine cP va ey ?_;refine cP MT hpl ?_;refine cP ZK Jx ?_;refine gW rfl (l ++ O) (l:=l) (kt:=0) rfl (.head _) rfl hp rfl (by simp [hon]) (by rw [List.length_append];omega) rfl (fun n9=>?_);exact ⟨.tup [],[aM ⟨yk,yn,ys,yl⟩,bO (.loc 1 0) (l ++ O)],wC0,wC0,rfl,rfl,rfl⟩
  ·obtain ⟨hk,h5,L4,Jk⟩:v.k=d.ag/\5<=d.ag/\shellF d v=true/\fQ ND v.ks d v.n 0=true:=by
    rcases hc with h | h | h
    ·omega
    ·omega
    ·exact h
   clear Jx
   have hed:∀ m,m < v.ks.length->∃ e,cd d v.n m=some e/\iI ND (v.ks[m]?.getD v) e.to=true:=fun m hm=>by
    obtain ⟨e,h1,h2⟩:=lj Jk (gE hm);rw [Nat.zero_add] at h1;exact ⟨e,h1,by rw [gE hm];exact h2⟩
   have hof:=Lt hN h5 v hb hk (fun m hm=>(hed m hm).imp fun e h=>h.1) (fun c=>shell_8 L4 c);rw [show (decide (v.k < 5) || decide (8 < v.k))=false by simp;omega] at hpl;have mF:=fun e (he:e<=v.ks.length)=>pq hP.ok (v.ks.take e) d v.n 0 hN h5 (EB e (by obtain ⟨_,_,_,_⟩:=v;rw [rngW] at hr;exact hr.2.2)) (EA e Jk);have Mu:=Ju v.ks;have j1:=Jt v;have hT7:d.ag=7->Ls d = .sl 1 (mc (Ex d d.aw.length)) none:=fun c=>by rw [Ls,if_pos c]
   have hTn:d.ag≠7->Ls d = .v (.slice none 0 0):=fun c=>by rw [Ls,if_neg c]
   have abH:∀ (n m:Nat) (tk:List TkE),We n m tk (Ls d) (Ls d):=fun n m tk=>by
    by_cases c:d.ag=7
    ·rw [hT7 c];exact ah rfl
    ·rw [hTn c];exact ah rfl
   have htg:=fun m e h1 h2=>@PW d v v.ks.length m e h1 h2;have hNL:=Jq d d.aw.length (Nat.le_refl _)
   have hNg:∀ (m:Nat) (e:Ed),d.ag=7->cd d v.n m=some e->(mc (Ex d d.aw.length))[m]? = some [.v (.string (ba (tx e.name ++ [58,32])))]:=fun m e c h=>by
    unfold cd at h;rw [if_pos c] at h;simp [mc,Ex,h]
   have hns:∀ e∈d.aw,d.ag=7->e.name.size<=32:=fun e he c=>iK ((hN.many (.inl c)).2.2.2 e he);have hXs:=fun e x ed (h1:v.ks[e]? = some x) (h2:cd d v.n e=some ed)=>El (ND:=ND) h1 h2;have hX0:textVs ND (v.ks.take 0) d v.n 0=[]:=by rw [List.take_zero,textVs]
   have hXf:textVs ND (v.ks.take v.ks.length) d v.n 0=textVs ND v.ks d v.n 0:=by rw [List.take_length]
   rw [hT] at eZ ⊢;rw [<- hXf];generalize Wn:(fun e=>textVs ND (v.ks.take e) d v.n 0)=X at *;have hX:∀ e,textVs ND (v.ks.take e) d v.n 0=X e:=fun e=>by rw [<- Wn]
   simp only [hX] at hXs hX0 mF ⊢;generalize fO d v=O at *;generalize nz v=Z at *;generalize Ls d=NM at *;generalize tosL d v v.ks.length=T at *;generalize Ex d d.aw.length=M at *;clear hc hT hXf L4 eZ hX Wn;obtain ⟨q,z,s,ks⟩:=v;obtain ⟨ag,aD,lo,hi,most,af,es⟩:=d;have cu:=bo ks;have jm:=dc ks;simp only [Val.k,Val.n,Val.s,Val.ks] at *;refine Ax (s:=false) (bt:=[(1,135)]) (mu:=[]) (fr:=false) (P:=prog) tt aaP 5000 72 [] func165 rfl ntmps165 rfl (nL rfl) (fun _ _ _ _=>?_);refine cP va ey ?_;refine cP MT hpl ?_;refine cP ZJ hof ?_;refine gW rfl (l ++ O) (l:=l) (kt:=0) rfl (.head _) rfl hp rfl (by simp [hon]) (by rw [List.length_append];omega) rfl (fun n9=>?_);refine av (fun j st=>∃ e:Nat,st=Ab ⟨yk,yn,ys,yl⟩ PC ⟨ag,aD,lo,hi,most,af,es⟩ (.mk q z s ks) O Z NM T (l ++ O ++ X e) e/\e<=ks.length/\j=ks.length - e) ks.length (Ab ⟨yk,yn,ys,yl⟩ PC ⟨ag,aD,lo,hi,most,af,es⟩ (.mk q z s ks) O Z NM T (l ++ O) 0) (az 5 rfl (by repeat' (first | exact rfl | exact ah rfl | exact abH _ _ _ | refine ⟨_,_,rfl,?_,?_⟩)) rfl rfl rfl (by repeat' (first | exact trivial | exact ah rfl | exact abH _ _ _ | refine ⟨⟨_,rfl,?_⟩,?_⟩))) ⟨0,by rw [hX0,List.append_nil],by omega,by omega⟩ ?_;rintro _ st ⟨e,rfl,he,rfl⟩;have hXl:=mF e he;refine br ?_ ?_<;>intro hL
   ·have au:e < ks.length:=by simpa [cu,Val.ks] using hL
    obtain ⟨ed,Hg,QM⟩:=hed e au;obtain ⟨x,hx⟩:=gX au;rw [hx] at QM;have QJ:=cE (mG hx);have hxt:=z7 hx;have Yp:rngW x:=by rw [rngW] at hr;exact oc hr.2.2 (mG hx)
    have sK:=fun (L1:List UInt8) h1=>ih x (by omega) (by omega) Yp ed.to QM L1 (.loc 1 0) (.inr rfl) h1;have P7:=hXs e x ed hx Hg;have hTg:=htg e ed Hg au;have Lw:=fun c=>hNg e ed c Hg;have SR:=hns ed (Ey Hg);generalize textV ND x ed.to=t at sK P7;obtain ⟨xk,xn,xs,xl⟩:=x;refine ⟨_,⟨by omega,bf (by simpa [Val.ks] using hx)⟩,?_⟩;refine br ?_ ?_<;>intro c
    ·have c:e≠0:=by rintro rfl;simp at c
     rw [if_neg c] at P7;refine gW rfl (l ++ O ++ X e ++ [44,32]) (l:=l ++ O ++ X e) (kt:=0) rfl (.head _) rfl (.inr rfl) rfl (by simp) (by simp only [List.length_append,List.length_cons,List.length_nil];omega) rfl (fun n9=>?_);by_cases c7:ag=7
     ·have Lw:=Lw c7;have SR:=SR c7;have SK:=hT7 c7;subst SK;rw [if_pos c7] at P7;refine UG ⟨_,rfl⟩ rfl rfl (by intro h9;rw [h9] at Lw;simp at Lw) rfl rfl ?_;refine ⟨_,⟨by omega,Lw⟩,?_⟩;refine gW rfl ((l ++ O ++ X e ++ [44,32]) ++ (tx ed.name ++ [58,32])) (l:=(l ++ O ++ X e ++ [44,32])) (kt:=0) rfl (.head _) rfl (.inr rfl) rfl (by simp) (by simp only [List.length_append,List.length_cons,List.length_nil,bB];omega) rfl (fun n9=>?_);refine aG (fun i=>Nat.beq i 7) mo (by decide +kernel) ?_;refine iX (qQ hTg) ?_;have W6:(l ++ O ++ X e ++ [44,32]) ++ (tx ed.name ++ [58,32]) ++ t=l ++ O ++ X (e + 1):=by rw [P7];simp only [List.append_assoc]
      refine gh rfl (mZ 2 1 CG rfl rfl rfl wC0 wC0 (sK ((l ++ O ++ X e ++ [44,32]) ++ (tx ed.name ++ [58,32])) (by simp only [List.length_append,List.length_cons,List.length_nil,bB];omega)) (fun r gI bU hΦ h1 h2=>?_));rw [W6] at hΦ;obtain ⟨rfl,rfl,rfl⟩:=hΦ;exact rE ⟨_,by omega,e + 1,rfl,by omega,rfl⟩ (az 5 rfl (wA1 (nxt au (by omega))) rfl rfl rfl (wB1 (nxt au (by omega))))
     ·have SK:=hTn c7;subst SK;rw [if_neg c7,List.nil_append] at P7;refine PN ⟨_,rfl⟩ rfl rfl rfl rfl ?_;refine aG (fun i=>Nat.beq i 7) mo (by decide +kernel) ?_;refine iX (qQ hTg) ?_;have W6:(l ++ O ++ X e ++ [44,32]) ++ t=l ++ O ++ X (e + 1):=by rw [P7];simp only [List.append_assoc]
      refine gh rfl (mZ 2 1 CG rfl rfl rfl wC0 wC0 (sK (l ++ O ++ X e ++ [44,32]) (by simp only [List.length_append,List.length_cons,List.length_nil];omega)) (fun r gI bU hΦ h1 h2=>?_));rw [W6] at hΦ;obtain ⟨rfl,rfl,rfl⟩:=hΦ;exact rE ⟨_,by omega,e + 1,rfl,by omega,rfl⟩ (az 5 rfl (wA1 (nxt au (by omega))) rfl rfl rfl (wB1 (nxt au (by omega))))
    ·have c:e=0:=by simp at c;omega
     rw [if_pos c,List.nil_append] at P7;by_cases c7:ag=7
     ·have Lw:=Lw c7;have SR:=SR c7;have SK:=hT7 c7;subst SK;rw [if_pos c7] at P7;refine UG ⟨_,rfl⟩ rfl rfl (by intro h9;rw [h9] at Lw;simp at Lw) rfl rfl ?_;refine ⟨_,⟨by omega,Lw⟩,?_⟩;refine gW rfl ((l ++ O ++ X e) ++ (tx ed.name ++ [58,32])) (l:=(l ++ O ++ X e)) (kt:=0) rfl (.head _) rfl (.inr rfl) rfl (by simp) (by simp only [List.length_append,List.length_cons,List.length_nil,bB];omega) rfl (fun n9=>?_);refine aG (fun i=>Nat.beq i 7) mo (by decide +kernel) ?_;refine iX (qQ hTg) ?_;have W6:(l ++ O ++ X e) ++ (tx ed.name ++ [58,32]) ++ t=l ++ O ++ X (e + 1):=by rw [P7];simp only [List.append_assoc]
      refine gh rfl (mZ 2 1 CG rfl rfl rfl wC0 wC0 (sK ((l ++ O ++ X e) ++ (tx ed.name ++ [58,32])) (by simp only [List.length_append,List.length_cons,List.length_nil,bB];omega)) (fun r gI bU hΦ h1 h2=>?_));rw [W6] at hΦ;obtain ⟨rfl,rfl,rfl⟩:=hΦ;exact rE ⟨_,by omega,e + 1,rfl,by omega,rfl⟩ (az 5 rfl (wA1 (nxt au (by omega))) rfl rfl rfl (wB1 (nxt au (by omega))))
     ·have SK:=hTn c7;subst SK;rw [if_neg c7,List.nil_append] at P7;refine PN ⟨_,rfl⟩ rfl rfl rfl rfl ?_;refine aG (fun i=>Nat.beq i 7) mo (by decide +kernel) ?_;refine iX (qQ hTg) ?_;have W6:(l ++ O ++ X e) ++ t=l ++ O ++ X (e + 1):=by rw [P7];simp only [List.append_assoc]
      refine gh rfl (mZ 2 1 CG rfl rfl rfl wC0 wC0 (sK (l ++ O ++ X e) (by simp only [List.length_append,List.length_cons,List.length_nil];omega)) (fun r gI bU hΦ h1 h2=>?_));rw [W6] at hΦ;obtain ⟨rfl,rfl,rfl⟩:=hΦ;exact rE ⟨_,by omega,e + 1,rfl,by omega,rfl⟩ (az 5 rfl (wA1 (nxt au (by omega))) rfl rfl rfl (wB1 (nxt au (by omega))))
   ·have aN:e=ks.length:=by
     have:=hL;simp [cu,Val.ks] at this;omega
    subst aN;have hw9:=Mu ks.length;rw [<- List.append_assoc,<- List.append_assoc];refine gW rfl (l ++ O ++ X ks.length ++ Z) (l:=l ++ O ++ X ks.length) (kt:=0) rfl (.head _) rfl (.inr rfl) rfl (by simp [hon]) (by simp only [List.length_append];omega) rfl (fun n9=>?_);exact ⟨.tup [],[aM ⟨yk,yn,ys,yl⟩,bO (.loc 1 0) (l ++ O ++ X ks.length ++ Z)],wC0,wC0,rfl,rfl,rfl⟩
theorem Jy (s:ByteArray) (n:Nat) (h:s.size<=1099511627776):tx (s.extract n (s.size:Int).toNat)=(tx s).drop n:=by
 simp [tx,Int.toNat_natCast];exact List.take_of_length_le (by rw [List.length_drop];have:=bB s;unfold tx at this;omega)
theorem Lz (s:ByteArray):s=⟨#[]⟩↔tx s=[]:=⟨fun h=>by rw [h];rfl,fun h=>by rw [<- y7 s,h]⟩
theorem tj:∀ (u:Nat) (s:ByteArray),s.size<=1099511627776->∀ z:Int,z<=9223372036854775807->z.toNat=u->EvP prog 154 [.v (.string s),.v (.int .i64 z)] (.v (.string (ba (headL u (tx s)))))
 | 0,s,hs,z,hz,hu=>by
  refine eG 28 [.tmp 4] func154 rfl ntmps154 rfl fun _ _ _ _=>?_;refine br (fun _=>(rfl:_=_)) (fun c=>absurd c (by simp [ap];omega))
 | u + 1,s,hs,z,hz,hu=>by
  by_cases he:s=⟨#[]⟩
  ·subst he;rw [show tx ⟨#[]⟩=[] from rfl,zO];refine eG 28 [.tmp 4] func154 rfl ntmps154 rfl fun _ _ _ _=>?_;refine br (fun _=>(rfl:_=_)) (fun c=>absurd c (by simp [ap]))
  have aT:tx s ≠ []:=fun h=>he ((Lz s).2 h);obtain ⟨h1,h2⟩:=qN aT;rw [bB] at h2;have Fu:=D4 s hs (by omega);have hdr:=Jy s (kk (tx s)) hs;have iZ:=uD s (kk (tx s));have hl:=Ll u ((tx s).drop (kk (tx s)));rw [List.length_drop,bB] at hl;have hD:headL (u + 1) (tx s)=(tx s).take (kk (tx s)) ++ headL u ((tx s).drop (kk (tx s))):=rfl;rw [hD,<- iZ,<- hdr];rw [<- hdr] at hl;have eZ:(s.extract 0 (kk (tx s))).size=kk (tx s):=by rw [<- bB,uD,List.length_take,bB];omega
  have cu:(s.extract (kk (tx s)) (s.size:Int).toNat).size=s.size - kk (tx s):=by rw [<- bB,Jy _ _ hs,List.length_drop,bB]
  have ih:=tj u (s.extract (kk (tx s)) (s.size:Int).toNat) (by omega) (IntKind.i64.wrap (z - 1)) (by rw [wrap64 (by omega) (by omega)];omega) (by rw [wrap64 (by omega) (by omega)];omega);generalize kk (tx s)=n at Fu h1 h2 ih eZ cu hl;refine eG 28 [.tmp 4] func154 rfl ntmps154 rfl fun _ _ _ _=>?_;refine br (fun c=>absurd c (by simp [ap];exact ⟨by omega,he⟩)) (fun _=>?_);refine bL ZF rfl Fu ax (fun q hq=>?_);obtain ⟨c0,rfl⟩:=hq;refine dI ?_;refine ⟨⟨by omega,by omega,by omega⟩,?_⟩;refine ⟨⟨by omega,by omega,by omega⟩,?_⟩;refine cD TA ih ?_;have QA:(ba (headL u (tx (s.extract n (s.size:Int).toNat)))).size=(headL u (tx (s.extract n (s.size:Int).toNat))).length:=by rw [<- bB,mR]
  have hcat:s.extract 0 n ++ ba (headL u (tx (s.extract n (s.size:Int).toNat)))=ba (tx (s.extract 0 n) ++ headL u (tx (s.extract n (s.size:Int).toNat))):=lR (by rw [vz,mR (headL u (tx (s.extract n (s.size:Int).toNat)))]);refine ⟨by show (s.extract 0 n).size + _<=_;omega,?_⟩;exact (congrArg (fun z=>DV.v (.string z)) hcat:_=_)
mutual
theorem Ac:∀ (t:Ty),rngT t->∀ u∈flatT t,rngT u
 | .mk h ps,hr,u,hu=>by
  rw [flatT] at hu;split at hu
  ·cases hu
  ·rcases List.mem_cons.1 hu with rfl | hu
   ·exact hr
   ·rw [rngT] at hr;exact Ad ps hr.2.2.2 u hu
theorem Ad:∀ (ps:Pts),rngP ps->∀ u∈flatP ps,rngT u
 | .nil,_,u,hu=>by cases hu
 | .cons p v r,hr,u,hu=>by
  rw [flatP] at hu;rw [rngP] at hr;rcases List.mem_append.1 hu with hu | hu
  ·split at hu
   ·cases hu
   ·exact Ac v hr.2.2.1 u hu
  ·exact Ad r hr.2.2.2 u hu
end
theorem EH {lev:List Wd->Int} {s:Sch}:∀ (ps:Pts) (k:Nat),rngP ps->∀ e∈edsP lev s ps k,rK e.cn
 | .nil,_,_,e,he=>by cases he
 | .cons p v r,k,hr,e,he=>by
  rw [edsP] at he;rw [rngP] at hr;rcases List.mem_cons.1 he with rfl | he
  ·exact hr.2.1
  ·exact EH r _ hr.2.2.2 e he
def EI (n:Nd):Prop:=rK n.lo/\rK n.hi/\∀ e∈n.aw,rK e.cn
theorem xR {S:Sch} (hr:Rx S) {n:Nd} (h:n∈aQ S):EI n:=by
 rw [jC] at h;obtain ⟨t,ht,u,hu,k,rfl⟩:=wW h
 have h1:rngT t:=by
  rcases List.mem_append.1 ht with h | h
  ·obtain ⟨x,hx,rfl⟩:=List.mem_map.1 h;exact hr.1 x hx
  ·simp only [List.mem_singleton] at h;subst h;exact hr.2
 have h2:=Ac t h1 u hu;obtain ⟨uh,us⟩:=u;rw [rngT] at h2;exact ⟨h2.1,h2.2.1,EH us _ h2.2.2.2⟩
end Go.Proofs.YtffhgcbfpidfiaaGreat
namespace Go.Proofs.YtffhgcbfpidfiaaGreat
namespace Dv
open Go Go.RowKit
section
variable {P:Program} {ops:Array Oper} {C:World->Prop} {Q:Act->World->Prop} {W:Nat->Bool} {x:Nat}
def exX (ops:Array Oper) (x:Nat) (j i:Nat):Bool:=Nat.beq j x && (match ops[i]? with | some o=>mB o.op | none=>false)
end
section
variable {X:Ctx} {D:Dw} {x:Nat} {tail:List Nat} {π:Nat->Nat}
theorem qY {s S:St} (h:gL s S:=by refine ⟨rfl,rfl,?_⟩;repeat' (first | exact trivial | refine ⟨rfl,?_⟩)):s=S∨gL s S:=.inr h
end
end Dv
end Go.Proofs.YtffhgcbfpidfiaaGreat
set_option maxRecDepth 100000
namespace Go.Proofs.YtffhgcbfpidfiaaGreat
open Go Go.RowKit Dv Go.Proofs.Tryz
abbrev wL (lv:List Wd) (f:Nat->Nat->Bool) (ND:List Nd) (z:Int):List DV:=[.sl 2 (bG lv) none,.sl 1 (cK (dw lv.length f)) none,.sl 7 (cY ND) none,.v (.int .i64 z)]
theorem Hp (d:Nd) (e:Ed) (s:bV):EvP prog 194 [.agg (jc d),.agg (tP e),.agg (l9 s)] (.v (.bool (G9 d s e))):=by
 obtain ⟨ag,aD,lo,hi,most,af,es⟩:=d;obtain ⟨en,eb,ea,et,xS,ew,kL,x5,x6,tp⟩:=e;obtain ⟨k,n,t⟩:=s
 have hF:G9 ⟨ag,aD,lo,hi,most,af,es⟩ ⟨k,n,t⟩ ⟨en,eb,ea,et,xS,ew,kL,x5,x6,tp⟩=if k=1 then decide (ag=7) && decide (en=t)
  else if k=5 then decide (ag=8) && decide (en=t) && !eb
  else if k=2 then decide (ag=5) && decide (n < most)
  else if k=3 then decide (ag=5) && decide (0 < most)
  else decide (ag=6):=rfl
 generalize G9 ⟨ag,aD,lo,hi,most,af,es⟩ ⟨k,n,t⟩ ⟨en,eb,ea,et,xS,ew,kL,x5,x6,tp⟩=F at hF ⊢;refine eG 63 [.tmp 6] func194 rfl ntmps194 rfl fun _ _ _ _=>?_;refine br ?_ ?_<;>intro c
 ·have c:k=1:=sU c;rw [if_pos c] at hF;refine (congrArg (fun b=>DV.v (.bool b)) ?_:_=_);rw [hF];simp only [pickB_and]
 have c1:¬ k=1:=sU c;rw [if_neg c1] at hF;refine br ?_ ?_<;>intro c
 ·have c:k=5:=sU c;rw [if_pos c] at hF;refine (congrArg (fun b=>DV.v (.bool b)) ?_:_=_);rw [hF];simp only [pickB_and]
 have c5:¬ k=5:=sU c;rw [if_neg c5] at hF;refine br ?_ ?_<;>intro c
 ·have c:k=2:=sU c;rw [if_pos c] at hF;refine (congrArg (fun b=>DV.v (.bool b)) ?_:_=_);rw [hF];simp only [pickB_and]
 have c2:¬ k=2:=sU c;rw [if_neg c2] at hF;refine br ?_ ?_<;>intro c
 ·have c:k=3:=sU c;rw [if_pos c] at hF;refine (congrArg (fun b=>DV.v (.bool b)) ?_:_=_);rw [hF];simp only [pickB_and]
 have c3:¬ k=3:=sU c;rw [if_neg c3] at hF;refine (congrArg (fun b=>DV.v (.bool b)) ?_:_=_);rw [hF]
def estW (ND:List Nd) (f:Nat->Nat->Bool) (n:Nat) (s:bV) (i a:Nat):Option (Nat × Nat):=match ND[i]? with
 | none=>none
 | some d=>match xG d s with
  | none=>none
  | some k=>match d.aw[k]? with
   | none=>none
   | some e=>some (e.to.toNat,ta f n a e.label.toNat)
theorem walkV_drop (ND:List Nd) (f:Nat->Nat->Bool) (n:Nat) (p:List bV) (e i a:Nat):walkV ND f n (p.drop e) i a=match p[e]? with
  | none=>some (i,a)
  | some s=>match estW ND f n s i a with
   | none=>none
   | some (j,b)=>walkV ND f n (p.drop (e + 1)) j b:=by
 cases hs:p[e]? with
 | none=>rw [List.drop_eq_nil_of_le (List.getElem?_eq_none_iff.1 hs)];all_goals rfl
 | some s=>
  obtain ⟨h1,h2⟩:=List.getElem?_eq_some_iff.1 hs;rw [List.drop_eq_getElem_cons h1,h2,walkV];simp only [estW]
  cases hd:ND[i]? with
  | none=>rfl
  | some d=>
   simp only
   cases hk:xG d s with
   | none=>rfl
   | some k=>
    simp only
    cases he:d.aw[k]? with
    | none=>rfl
    | some x=>rfl
theorem SU {f:Nat->Nat->Bool} {L:Nat} (hL:dN f L) {ND:List Nd} (bS:∀ n∈ND,dB L ND.length n) {s:bV} {i a j b:Nat} (hi:i < ND.length) (ha:a < L) (h:estW ND f L s i a=some (j,b)):j < ND.length/\b < L:=by
 have hw:=walkV_drop ND f L [s] 0 i a;simp only [List.getElem?_cons_zero,h] at hw;exact Ek hL bS [s] i a hi ha hw
def abI (o:Option (Nat × Nat)):DV:=match o with
 | some (j,b)=>.tup [.agg [.v (.int .i64 (j:Nat)),.v (.int .i64 (b:Nat))],.v (.bool true)]
 | none=>.tup [.agg [.v (.int .i64 0),.v (.int .i64 0)],.v (.bool false)]
abbrev P8 (PC:List DV) (i a:Nat) (s:bV) (d:Nd) (e:Nat):St:=
 ⟨[(0,⟨[],.pt PC 0⟩),(4,⟨[],.loc 0 0⟩),(5,⟨[],.loc 1 0⟩),(6,⟨[],.loc 2 0⟩),(8,⟨[],.loc 3 0⟩),(20,⟨[],.sl 10 (fv d.aw) none⟩),(21,⟨[],.v (.int .i64 (fv d.aw).length)⟩),(22,⟨[],.v (.int .i64 e)⟩)],
  [[.v (.int .i64 i),.v (.int .i64 a)],l9 s,[.v (.int .i64 0),.v (.int .i64 0)],jc d],[]⟩
theorem Hq {S:Sch} {ND:List Nd} {PC:List DV} (hP:fN S ND PC) (s:bV) (hr:du s=true) (i a:Nat) (hi:i < ND.length) (ha:a < S.ae.length) :
  EvP prog 163 [.pt PC 0,.agg [.v (.int .i64 i),.v (.int .i64 a)],.agg (l9 s)] (abI (estW ND (bK S) S.ae.length s i a)):=by
 obtain ⟨LC,k0,hLR⟩:=hP.SD;obtain ⟨d,hd⟩:∃ d,ND[i]? = some d:=⟨_,gE hi⟩;have hN:=hP.ok d (mG hd);have ey:=hP.aj i d hd
 have j1:d.aw.length<=1099511627776:=by
  have:=ld (S:=S) (n:=d) (by rw [<- hP.A9];exact mG hd) hP.wt;exact this.2
 have hjn:=fun b hb=>hLR.join a b ha hb
 have hW:estW ND (bK S) S.ae.length s i a=match bR (zW d s) d.aw.length with
  | none=>none
  | some k=>match d.aw[k]? with
   | none=>none
   | some e=>some (e.to.toNat,ta (bK S) S.ae.length a e.label.toNat):=by
  unfold estW;simp only [hd,xG,if_pos hr]
 have hPe:∀ (e:Nat) x,d.aw[e]? = some x->zW d s e=G9 d s x:=fun e x h=>by
  rw [Jm hN hr (mG h)];unfold zW;rw [h]
 have QZ:=fun x=>Hp d x s;have yj:=fun (e:Ed) (he:e∈d.aw) (h:xF d s e=true)=>And.intro ((gF hN he).1 (xH hN he h)) (gF hN he).2.1;have LS:=fun x hx=>Jm hN hr (e:=x) hx;generalize estW ND (bK S) S.ae.length s i a=R at hW ⊢;generalize zW d s=pE at hW hPe;generalize ta (bK S) S.ae.length a=jn at hW hjn;obtain ⟨ag,aD,lo,dF,most,af,es⟩:=d;obtain ⟨k,n,t⟩:=s;have cu:=bZ es;simp only at hW hPe j1;refine eG 42 [.cell 6 255,.tmp 7] func163 rfl ntmps163 rfl fun _ _ _ _=>?_;refine cP va ey ?_;refine lI (fun j st=>∃ e:Nat,st=P8 PC i a ⟨k,n,t⟩ ⟨ag,aD,lo,dF,most,af,es⟩ e/\e<=es.length/\(∀ c,c < e->pE c=false)/\j=es.length - e) ⟨0,rfl,by omega,fun _ h=>by omega,rfl⟩ (weak_mk ⟨_,rfl⟩ wA rfl rfl rfl wB) ?_;rintro j st ⟨e,rfl,he,eS,rfl⟩;refine br ?_ ?_<;>intro hL
 ·have au:e < es.length:=sV cu hL;obtain ⟨x,hx⟩:=gX au;have hPx:=hPe e x hx;have hfx:=QZ x;have rc:=mG hx;have E8:=yj x rc;have W7:=LS x rc
  cases hv:G9 ⟨ag,aD,lo,dF,most,af,es⟩ ⟨k,n,t⟩ x with
  | true=>
   rw [hv] at hPx hfx W7;obtain ⟨⟨h1,_⟩,h2,h3⟩:=E8 W7.symm;rw [cF au hPx eS] at hW;simp only [hx] at hW;clear yj LS E8 W7 QZ;obtain ⟨en,eb,ea,et,xS,ew,kL,x5,x6,tp⟩:=x;simp only at h1 h2 h3;obtain ⟨lb,rfl⟩:∃ n:Nat,xS=n:=⟨_,h2⟩;obtain ⟨tn,rfl⟩:∃ n:Nat,et=n:=⟨_,h1⟩;simp only [Int.toNat_natCast] at h3 hW;have hj:=hjn lb h3;subst hW;refine iX (bm hx) ?_;refine cP TJ hfx ?_;refine dS ?_;refine cD MK k0 ?_;refine cD Ip hj ?_;exact ⟨_,ax,rfl⟩
  | false=>
   rw [hv] at hPx hfx;obtain ⟨en,eb,ea,et,xS,ew,kL,x5,x6,tp⟩:=x;refine iX (bm hx) ?_;refine cP TJ hfx ?_
   exact rE ⟨_,by omega,e + 1,rfl,by omega,fun c hc=>by
    rcases Nat.lt_succ_iff_lt_or_eq.1 hc with h | h
    ·exact eS c h
    ·rw [h];exact hPx,rfl⟩ (az 4 rfl (wA1 (nxt au (by omega))) rfl rfl rfl (wB1 (nxt au (by omega))))
 ·have aN:e=es.length:=sW cu hL;subst aN;rw [cL eS] at hW;simp only at hW;subst hW;exact ⟨_,ax,rfl⟩
def EJ (o:Option (Nat × Nat)):DV:=match o with
 | some (j,b)=>.tup [.v (.int .i64 (j:Nat)),.v (.int .i64 (b:Nat)),.v (.bool true)]
 | none=>.tup [.v (.int .i64 (-1)),.v (.int .i64 (-1)),.v (.bool false)]
abbrev Qa (PC:List DV) (p:List bV) (i a e:Nat):St:=
 ⟨[(0,⟨[],.pt PC 0⟩),(7,⟨[],.loc 0 0⟩),(18,⟨[],.sl 3 (ch p) none⟩),(19,⟨[],.v (.int .i64 (ch p).length)⟩),(20,⟨[],.v (.int .i64 e)⟩)],[[.v (.int .i64 i),.v (.int .i64 a)]],[]⟩
theorem xT {S:Sch} {ND:List Nd} {PC:List DV} (hP:fN S ND PC) (p:List bV) (hp:p.length<=1099511627776) (hs:∀ s∈p,s.s.size<=4611686018427387904) (rt:Nat) (BM:dW S=rt) (gG:rt < ND.length) :
  EvP prog 116 [.pt PC 0,.sl 3 (ch p) none] (EJ (walkV ND (bK S) S.ae.length p rt (ov (bK S) S.ae.length))):=by
 obtain ⟨LC,k0,hLR⟩:=hP.SD;have gV:=hP.root;rw [BM] at gV;have Dj:=hLR.bot;have hbl:=BE hLR.ok;have aU:=fun s hr i a hi ha=>Hq hP s hr i a hi ha;have XS:=walkV_drop ND (bK S) S.ae.length p;have bS:=fun {s i a j b}=>@SU _ _ hLR.ok _ hP.ok s i a j b;have cu:=gD p
 have Q2:∀ s i a,du s=false->estW ND (bK S) S.ae.length s i a=none:=fun s i a h=>by
  unfold estW
  cases ND[i]? with
  | none=>rfl
  | some d=>simp [xG,h]
 generalize hR:walkV ND (bK S) S.ae.length p rt (ov (bK S) S.ae.length)=R;have hR0:walkV ND (bK S) S.ae.length (p.drop 0) rt (ov (bK S) S.ae.length)=R:=by rw [List.drop_zero];exact hR
 clear hR;generalize ov (bK S) S.ae.length=bt at Dj hbl hR0;refine eG 42 [.tmp 4,.tmp 5,.tmp 6] func116 rfl ntmps116 rfl fun _ _ _ _=>?_;refine cP Vu gV ?_;refine cP MK k0 ?_;refine cP Vy Dj ?_;refine lI (fun j st=>∃ e i a:Nat,st=Qa PC p i a e/\e<=p.length/\i < ND.length/\a < S.ae.length/\walkV ND (bK S) S.ae.length (p.drop e) i a=R/\j=p.length - e) ⟨0,rt,bt,rfl,by omega,gG,hbl,hR0,rfl⟩ (weak_mk ⟨_,rfl⟩ wA rfl rfl rfl wB) ?_;rintro j st ⟨e,i,a,rfl,he,hi,ha,hw,rfl⟩;rw [XS] at hw;refine br ?_ ?_<;>intro hL
 ·have au:e < p.length:=sV cu hL;obtain ⟨x,hx⟩:=gX au;have ya:=hs x (mG hx);have hr:=te [x] (sU ya);rw [G8] at hr;rw [hx] at hw;simp only at hw
  cases hrx:du x with
  | false=>
   rw [Q2 x i a hrx] at hw;simp only at hw;subst hw;rw [hrx] at hr;obtain ⟨xk,xn,xt⟩:=x;refine iX (iG hx) ?_;refine cP Is hr ?_;exact ⟨_,ax,rfl⟩
  | true=>
   have YB:=aU x hrx i a hi ha;have hkx:=@bS x i a;rw [hrx] at hr;generalize estW ND (bK S) S.ae.length x i a=o at hw YB hkx;obtain ⟨xk,xn,xt⟩:=x;refine iX (iG hx) ?_;refine cP Is hr ?_;refine cP Zw YB ?_
   cases o with
   | none=>
    simp only at hw;subst hw;exact ⟨_,ax,rfl⟩
   | some r=>
    obtain ⟨j,b⟩:=r;simp only at hw;obtain ⟨h1,h2⟩:=hkx hi ha rfl;exact rE ⟨_,by omega,e + 1,j,b,rfl,by omega,h1,h2,hw,rfl⟩ (az 1 rfl (wA1 (nxt au (by omega))) rfl rfl rfl (wB1 (nxt au (by omega))))
 ·have aN:p.length<=e:=sV cu hL;rw [List.getElem?_eq_none aN] at hw;simp only at hw;subst hw;refine dI ?_;exact ⟨_,ax,rfl⟩
theorem EK {S:Sch} (hF:wR S) {i:Nat} {n:Nd} (h:(aQ S)[i]? = some n) {e:Ed} (he:e∈n.aw) (hb:e.bare=true):e.ck=0:=by
 have B7:=(sk hF h).bare e he hb;rw [jC] at h;obtain ⟨t,ht,u,hu,rfl,kx⟩:=wV h;have KF:=wT t ⟨_,_,hF.wr t ht⟩ u hu;have hT:=GJ KF;obtain ⟨uh,us⟩:=u;simp only [Ty.h,Ty.ps] at hT;obtain ⟨p,v,k',h1,rfl,_⟩:=qJ he;obtain ⟨j,hj⟩:=List.mem_iff_getElem?.1 h1;obtain ⟨_,hP⟩:=(hT.many (.inr B7)).2.2 j p v hj;rcases hP with ⟨_,_,_,hpl⟩ | ⟨dO,_⟩
 ·exact (n7 hpl).2.2.1
 ·have:p.bare=true:=hb;rw [dO] at this;cases this
def Jz (ck:Int):Int:=if ck=3 then 5 else if ck=2 then 3 else 2
def Hr (f:Nat->Nat->Bool) (ND:List Nd) (e:Ed):Prop:=e.ck≠0->(∃ m,ND[e.to.toNat]? = some m/\m.ag=Jz e.ck)/\f e.seen.toNat e.label.toNat=true/\f e.label.toNat e.seen.toNat=false
def Qb (f:Nat->Nat->Bool) (ND:List Nd):Prop:=∀ n∈ND,∀ e∈n.aw,Hr f ND e
abbrev Qc (W:List DV) (e:Nat):St:=⟨[(1,⟨[],.loc 0 0⟩),(2,⟨[],.loc 1 0⟩),(3,⟨[],.v (.int .i64 e)⟩)],[W,[.v (.int .i64 0),.v (.int .i64 0)]],[]⟩
abbrev BN (W:List DV) (es:List Ed) (e k:Nat):St:=⟨[(1,⟨[],.loc 0 0⟩),(2,⟨[],.loc 1 0⟩),(3,⟨[],.v (.int .i64 e)⟩),(4,⟨[],.sl 10 (fv es) none⟩),(5,⟨[],.v (.int .i64 k)⟩)],[W,[.v (.int .i64 0),.v (.int .i64 0)]],[]⟩
def W20Φ (f:Nat->Nat->Bool) (ND:List Nd) (r:DV):Prop:=∃ ft:Ft,r=ft.d/\(ft.1=0->Qb f ND)
theorem BO (lv:List Wd) (f:Nat->Nat->Bool) (ND:List Nd) (z:Int) (hn:lv.length<=32) (bS:∀ n∈ND,dB lv.length ND.length n) (fV:ND.length<=1099511627776) (bJ:∀ n∈ND,n.aw.length<=1099511627776) (hbr:∀ n∈ND,∀ e∈n.aw,e.bare=true->e.ck=0) :
  Ev prog 124 [.agg (wL lv f ND z)] [] [] (fun r _ _=>W20Φ f ND r):=by
 have CE:=kZ ND;refine eG 79 [.cell 2 41] func124 rfl ntmps124 rfl fun _ _ _ _=>?_;refine lI (fun j st=>∃ e:Nat,st=Qc (wL lv f ND z) e/\e<=ND.length/\(∀ c n,c < e->ND[c]? = some n->∀ x∈n.aw,Hr f ND x)/\j=ND.length - e) ⟨0,rfl,by omega,fun _ _ h=>by omega,rfl⟩ (weak_mk ⟨_,rfl⟩ wA rfl rfl rfl wB) ?_;rintro j st ⟨e,rfl,he,eS,rfl⟩;refine br ?_ ?_<;>intro hL
 ·have au:e < ND.length:=sV CE hL;obtain ⟨d,hd⟩:=gX au;have hm:=mG hd;have hN:=bS d hm;have j1:=bJ d hm;have cu:=bZ d.aw;have hbd:=hbr d hm;refine iX (fL hd) ?_;refine lI (fun j st=>∃ k:Nat,st=BN (wL lv f ND z) d.aw e k/\k<=d.aw.length/\(∀ c x,c < k->d.aw[c]? = some x->Hr f ND x)/\j=d.aw.length - k) ⟨0,rfl,by omega,fun _ _ h=>by omega,rfl⟩ (weak_mk ⟨_,rfl⟩ wA rfl rfl rfl wB) ?_;rintro j st ⟨k,rfl,hk,DF,rfl⟩;refine br ?_ ?_<;>intro jS
  ·have gZ:k < d.aw.length:=sV cu jS;obtain ⟨x,hx⟩:∃ x,d.aw[k]? = some x:=⟨_,gE gZ⟩;have rc:=mG hx;obtain ⟨jz,⟨h2,C8⟩,h3,LA⟩:=gF hN rc;have jL:=hbd x rc;have W8:=(hN.mY x rc).ck
   have qO:Hr f ND x->∀ c y,c < k + 1->d.aw[c]? = some y->Hr f ND y:=fun h c y hc hy=>by
    rcases Nat.lt_succ_iff_lt_or_eq.1 hc with h1 | h1
    ·exact DF c y h1 hy
    ·rw [h1,hx] at hy;simp only [oI] at hy;rw [<- hy];exact h
   have hE:Hr f ND x=(x.ck≠0->(∃ m,ND[x.to.toNat]? = some m/\m.ag=Jz x.ck)/\f x.seen.toNat x.label.toNat=true/\f x.label.toNat x.seen.toNat=false):=rfl;generalize Hr f ND x=EX at hE qO;obtain ⟨en,eb,ea,et,xS,ew,kL,x5,x6,tp⟩:=x;simp only at h2 C8 h3 LA jz jL W8 hE;obtain ⟨lb,rfl⟩:∃ n:Nat,xS=n:=⟨_,h2⟩;obtain ⟨sn,rfl⟩:∃ n:Nat,x6=n:=⟨_,h3⟩;simp only [Int.toNat_natCast] at C8 LA hE;refine iX (bm hx) ?_;refine br ?_ ?_<;>intro g
   ·have g:kL=0:=sU g;exact rE ⟨_,by omega,k + 1,rfl,by omega,qO (by rw [hE];intro h;exact absurd g h),rfl⟩ (az 2 rfl (wA1 (nxt gZ (by omega))) rfl rfl rfl (wB1 (nxt gZ (by omega))))
   have g:¬ kL=0:=sU g
   obtain ⟨h1,tB⟩:=jz (by
    cases hb:eb
    ·rfl
    ·exact absurd (jL hb) g)
   obtain ⟨tn,rfl⟩:∃ n:Nat,et=n:=⟨_,h1⟩;simp only [Int.toNat_natCast] at tB hE;obtain ⟨m,hmt⟩:∃ m,ND[tn]? = some m:=⟨_,gE tB⟩
   have hW:∀ w:Int,w=Jz kL->(m.ag=w/\f sn lb=true/\f lb sn=false)->EX:=fun w h1 h2=>by
    rw [hE];exact fun _=>⟨⟨m,hmt,by rw [<- h1];exact h2.1⟩,h2.2⟩
   have h3c:kL=1∨kL=2∨kL=3:=by omega
   rcases h3c with rfl | rfl | rfl
   all_goals
    refine ⟨_,⟨Int.natCast_nonneg _,fL hmt⟩,?_⟩;refine br ?_ ?_<;>intro c1
    ·exact ⟨Ft.d (14,tp),ax,(14,tp),rfl,fun h=>by simp at h⟩
    refine dI ?_;refine ⟨_,⟨Int.natCast_nonneg _,dr LA⟩,?_⟩;refine ⟨_,⟨Int.natCast_nonneg _,cI C8⟩,?_⟩;refine br ?_ ?_<;>intro c2
    ·refine ⟨_,⟨Int.natCast_nonneg _,dr C8⟩,?_⟩;refine ⟨_,⟨Int.natCast_nonneg _,cI LA⟩,?_⟩;refine br ?_ ?_<;>intro c3
     ·exact ⟨Ft.d (18,tp),ax,(18,tp),rfl,fun h=>by simp at h⟩
     ·have hx:=qO (hW _ rfl ⟨by simpa [Jz] using c1,by simpa using c2,by simpa [pickB] using c3⟩);exact rE ⟨_,by omega,k + 1,rfl,by omega,hx,rfl⟩ (az 2 rfl (wA1 (nxt gZ (by omega))) rfl rfl rfl (wB1 (nxt gZ (by omega))))
    ·exact ⟨Ft.d (18,tp),ax,(18,tp),rfl,fun h=>by simp at h⟩
  ·have aN:k=d.aw.length:=sW cu jS;subst aN
   exact rE ⟨_,by omega,e + 1,rfl,by omega,fun c n hc hn x XR=>by
    rcases Nat.lt_succ_iff_lt_or_eq.1 hc with h1 | h1
    ·exact eS c n h1 hn x XR
    ·rw [h1,hd] at hn;simp only [oI] at hn;rw [<- hn] at XR;obtain ⟨q,hq⟩:=List.mem_iff_getElem?.1 XR
     exact DF q x (gS hq).1 hq,rfl⟩ (weak_mk ⟨_,rfl⟩ wA rfl rfl rfl (wB1 (nxt au (by omega))))
 ·have aN:e=ND.length:=sW CE hL;subst aN
  exact ⟨Ft.d (0,0),ax,(0,0),rfl,fun _ n hn x hx=>by
   obtain ⟨q,hq⟩:=List.mem_iff_getElem?.1 hn
   exact eS q n (gS hq).1 hq x hx⟩
structure xU (S:Sch):Prop where
 yO:(kF S).1=0
 live:∀ i:Nat,i < (aQ S).length->(depN (aQ S) (aQ S).length).getD i 0≠0
 eff:Qb (bK S) (aQ S)
abbrev Qd (S:Sch) (a b:Int) (W:List DV) (D:List Nat) (e:Nat):St:=
 ⟨[(1,⟨[],.loc 0 0⟩),(3,⟨[],.loc 1 0⟩),(5,⟨[],.loc 3 0⟩),(6,⟨[],.sl 1 (dInts D) none⟩),(7,⟨[],.v (.int .i64 e)⟩)],[dR S,[.v (.int .i64 0),.v (.int .i64 0)],[.v (.int .i64 a),.v (.int .i64 b)],W],[]⟩
theorem BP (S:Sch) (hS:S.wt<=1099511627776):Ev prog 65 [.agg (dR S)] [] [] (fun r _ _=>∃ (z:Int) (ft:Ft),r = .tup [.v (.int .i64 z),ft.d]/\(z=0->xU S)):=by
 have KF:=Bl S hS;have hw:=fun h=>qI S hS h;generalize hR:kF S=R at KF;obtain ⟨ae,order,types,⟨rh,rp⟩⟩:=S;refine eG 44 [.tmp 2,.cell 3 41] func65 rfl ntmps65 rfl fun _ _ _ _=>?_;refine cP Zi KF ?_;refine br ?_ ?_<;>intro g
 ·refine dS ?_;exact ⟨.tup [.v (.int .i64 2),Ft.d R],ax,2,R,rfl,fun h=>by simp at h⟩
 have g:R.1=0:=sU g;have h0:(kF ⟨ae,order,types,.mk rh rp⟩).1=0:=by rw [hR];exact g
 have hF:=qH h0;have hw:=hw h0;obtain ⟨abl,On⟩:=kY hF.lat;have bS:=fun n (hn:n∈aQ ⟨ae,order,types,.mk rh rp⟩)=>(List.mem_iff_getElem?.1 hn).elim fun i hi=>sk hF hi;have fV:(aQ ⟨ae,order,types,.mk rh rp⟩).length<=1099511627776:=by rw [l7];exact Nat.le_trans (GI _) hS
 have bJ:=fun n (hn:n∈aQ ⟨ae,order,types,.mk rh rp⟩)=>(ld hn hS).2;have hbr:=fun n (hn:n∈aQ ⟨ae,order,types,.mk rh rp⟩)=>(List.mem_iff_getElem?.1 hn).elim fun i hi e he hb=>EK hF hi (e:=e) he hb;have h19:=fun A B=>yv 2 1 A B (dW ⟨ae,order,types,.mk rh rp⟩) bS fV bJ;have h20:=BO ae (bK ⟨ae,order,types,.mk rh rp⟩) (aQ ⟨ae,order,types,.mk rh rp⟩) (dW ⟨ae,order,types,.mk rh rp⟩) On bS fV bJ hbr;have VY:(∀ i:Nat,i < (aQ ⟨ae,order,types,.mk rh rp⟩).length->(depN (aQ ⟨ae,order,types,.mk rh rp⟩) (aQ ⟨ae,order,types,.mk rh rp⟩).length).getD i 0≠0)->Qb (bK ⟨ae,order,types,.mk rh rp⟩) (aQ ⟨ae,order,types,.mk rh rp⟩)->xU ⟨ae,order,types,.mk rh rp⟩:=fun h1 h2=>⟨h0,h1,h2⟩;have AJ:=fT (aQ ⟨ae,order,types,.mk rh rp⟩) (aQ ⟨ae,order,types,.mk rh rp⟩).length;generalize depN (aQ ⟨ae,order,types,.mk rh rp⟩) (aQ ⟨ae,order,types,.mk rh rp⟩).length=D at h19 VY AJ;unfold bK at h20 VY;generalize eO (Sch.mk ae order types (.mk rh rp)).ae.length (di (ay (Sch.mk ae order types (.mk rh rp)).ae) (Sch.mk ae order types (.mk rh rp)).order)=f at hw h20 VY;generalize aQ ⟨ae,order,types,.mk rh rp⟩=ND at hw h19 h20 VY AJ fV bJ hbr bS;generalize dW ⟨ae,order,types,.mk rh rp⟩=rt at hw h19 h20;have x8:=bz D;obtain ⟨R1,R2⟩:=R;simp only at g;subst g;refine cP en9 hw ?_;refine cP Zj (h19 _ _) ?_;refine lI (fun j st=>∃ e:Nat,st=Qd ⟨ae,order,types,.mk rh rp⟩ 0 R2 (wL ae f ND rt) D e/\e<=D.length/\(∀ i < e,D.getD i 0≠0)/\j=D.length - e) ⟨0,rfl,by omega,fun _ h=>by omega,rfl⟩ (weak_mk ⟨_,rfl⟩ wA rfl rfl rfl wB) ?_;rintro j st ⟨e,rfl,he,eS,rfl⟩;refine br ?_ ?_<;>intro hL
 ·have au:e < D.length:=sV x8 hL;obtain ⟨x,hx⟩:=gX au;obtain ⟨d,hd⟩:∃ d,ND[e]? = some d:=⟨_,gE (by omega)⟩;refine iX (ee hx) ?_;refine br ?_ ?_<;>intro c
  ·refine dS ?_;refine iX (fL hd) ?_;exact ⟨.tup [.v (.int .i64 3),Ft.d (11,d.aD)],ax,3,(11,d.aD),rfl,fun h=>by simp at h⟩
  ·have c:x≠0:=by simp at c;omega
   exact rE ⟨_,by omega,e + 1,rfl,by omega,fun i hi=>by
    rcases Nat.lt_succ_iff_lt_or_eq.1 hi with h1 | h1
    ·exact eS i h1
    ·rw [h1,List.getD_eq_getElem?_getD,hx];exact c,rfl⟩ (az 4 rfl (wA1 (nxt au (by omega))) rfl rfl rfl (wB1 (nxt au (by omega))))
 ·have aN:e=D.length:=sW x8 hL;subst aN;refine bL Zk rfl h20 ax (fun r hr=>?_);obtain ⟨ft,rfl,L3⟩:=hr;refine br ?_ ?_<;>intro c
  ·refine dS ?_;exact ⟨.tup [.v (.int .i64 4),Ft.d ft],ax,4,ft,rfl,fun h=>by simp at h⟩
  ·have c:ft.1=0:=sU c;exact ⟨.tup [.v (.int .i64 0),Ft.d (0,0)],ax,0,(0,0),rfl,fun _=>VY (fun i hi=>eS i (by omega)) (L3 c)⟩
theorem EL (S:Sch) (hS:S.wt<=1099511627776):Ev prog 25 [.agg (dR S)] [] [] (fun r _ _=>∃ b:Bool,r = .v (.bool b)/\(b=true->xU S)):=by
 have hw:=BP S hS;obtain ⟨ae,order,types,⟨rh,rp⟩⟩:=S;refine eG 12 [.tmp 2] func25 rfl ntmps25 rfl fun _ _ _ _=>?_;refine bL en65 rfl hw ax (fun r hr=>?_);obtain ⟨z,ft,rfl,hz⟩:=hr;exact ⟨_,rfl,fun h=>hz (sU h)⟩
end Go.Proofs.YtffhgcbfpidfiaaGreat
namespace Go.Proofs.YtffhgcbfpidfiaaGreat
namespace Dv
open Go Go.RowKit
inductive ll
 | fin
 | op (i:Nat) (t:ll)
 | ev (i:Nat) (t alt:ll)
 | stop
section
variable {P:Program} {ops:Array Oper} {C:World->Prop} {Q:Act->World->Prop} {W:Nat->Bool}
def rdy (ops:Array Oper) (rem:List Nat) (i:Nat):Bool:=
 match ops[i]? with
 | some o=>o.after.toList.all fun e=>!Region.binds .any e || !rem.contains e.on
 | none=>false
def SV (ops:Array Oper) (i:Nat):Bool:=match ops[i]? with | some o=>mB o.op | none=>false
def chkA (ops:Array Oper):ll->List Nat->Option (List Nat)->Bool
 | .fin,rem,m=>m.isNone && rem.isEmpty
 | .op i t,rem,m=>m.isNone && (rem.contains i && (!SV ops i && (rdy ops rem i && chkA ops t (rem.erase i) none)))
 | .ev i t alt,rem,m=>rem.contains i && (SV ops i && (rdy ops rem i && (chkA ops t (rem.erase i) none && chkA ops alt rem (some (i :: m.getD [])))))
 | .stop,rem,m=>match m with
  | some seen=>rem.all fun j=>!rdy ops rem j || seen.contains j
  | none=>false
def Hs (ops:Array Oper) (W:Nat->Bool):Bool:=
 (List.range ops.size).all fun i=>(List.range ops.size).all fun j=>
  Nat.beq i j || ordB ops ops.size i j || ordB ops ops.size j i || (SV ops i && SV ops j) || (mb ops W j i && mb ops W i j)
def runS (P:Program) (ops:Array Oper) (W:Nat->Bool) (C:World->Prop) (Q:Act->World->Prop):ll->Act->World->Prop
 | .fin,a,w=>Q a w
 | .op i t,a,w=>∃ o,ops[i]? = some o/\∃ v,Yl P ops C o v a/\(pP o.op=true->C w)/\runS P ops W C Q t (a.put o.dst v) w
 | .ev i t alt,a,w=>(∃ o,ops[i]? = some o/\dY P ops o a w fun a' w'=>(W i=false->C w->C w')/\runS P ops W C Q t a' w')/\runS P ops W C Q alt a w
 | .stop,_,_=>True
def SX (P:Program) (ops:Array Oper) (W:Nat->Bool) (C:World->Prop) (Q:Act->World->Prop) (rem:List Nat) (a:Act) (w:World):Prop:=∃ T,chkA ops T rem none=true/\runS P ops W C Q T a w
def Cl (ops:Array Oper) (rem:List Nat):Prop:=∀ (k:Nat) o,ops[k]? = some o->k ∉ rem->∀ e∈o.after,Region.binds .any e=true->e.on ∉ rem
theorem lm {rem:List Nat} {i:Nat} (h:rdy ops rem i=true):∃ o,ops[i]? = some o/\∀ e∈o.after,Region.binds .any e=true->e.on ∉ rem:=by
 unfold rdy at h;split at h
 ·rename_i o ho;refine ⟨o,ho,fun e he hb=>?_⟩;have:=List.all_eq_true.1 h e (sU he);rw [hb] at this;simpa using this
 ·cases h
theorem od {rem:List Nat} {i j:Nat} (h:rdy ops rem i=true):rdy ops (rem.erase j) i=true:=by
 obtain ⟨o,ho,ha⟩:=lm h;unfold rdy;rw [ho];simp only [List.all_eq_true,Bool.or_eq_true,Bool.not_eq_true'];intro e he;cases hb:Region.binds .any e
 ·exact .inl rfl
 ·right;have:=ha e (sU he) hb;simp only [List.contains_eq_mem,decide_eq_false_iff_not];exact fun hm=>this (List.mem_of_mem_erase hm)
theorem xV {rem:List Nat} (hn:rem.Nodup) (hc:Cl ops rem) {i:Nat} (h:rdy ops rem i=true):Cl ops (rem.erase i):=by
 intro k o ho hk e he hb hm;have oK:=List.mem_of_mem_erase hm;by_cases mv:k=i
 ·subst mv;obtain ⟨o',Ar,ha⟩:=lm h;rw [ho] at Ar;simp only [oI] at Ar;subst Ar;exact ha e he hb oK
 ·exact hc k o ho (fun hkm=>hk ((List.mem_erase_of_ne mv).2 hkm)) e he hb oK
theorem Ht {rem:List Nat} (hc:Cl ops rem):∀ (n:Nat) (j k:Nat) o,ops[k]? = some o->(∀ e∈o.after,Region.binds .any e=true->e.on ∉ rem)->ordB ops n j k=true->j ∉ rem
 | 0,j,k,o,_,_,h=>by simp [ordB] at h
 | n + 1,j,k,o,ho,ir,h=>by
  simp only [ordB,ho,List.any_eq_true,Bool.and_eq_true,Bool.or_eq_true] at h;obtain ⟨e,he,hb,hj⟩:=h;have Ia:e∈o.after:=sU he;have h1:=ir e Ia hb;rcases hj with hj | hj
  ·have:e.on=j:=sU hj;rw [<- this];exact h1
  ·cases Vc:ops[e.on]? with
   | none=>
    cases n with
    | zero=>simp [ordB] at hj
    | succ n=>simp [ordB,Vc] at hj
   | some o'=>exact Ht hc n j e.on o' Vc (hc e.on o' Vc h1) hj
theorem EM {rem:List Nat} (hP:Hs ops W=true) (hc:Cl ops rem) {i j:Nat} (hi:rdy ops rem i=true) (hj:rdy ops rem j=true) (mK:i∈rem) (ur:j∈rem) (lu:i≠j) (U0:SV ops i=false∨SV ops j=false):mb ops W j i=true:=by
 obtain ⟨o,ho,ha⟩:=lm hi;obtain ⟨o',Ar,VR⟩:=lm hj;simp only [Hs,List.all_eq_true,List.mem_range] at hP;have h1:=hP i (Array.getElem?_eq_some_iff.1 ho).1 j (Array.getElem?_eq_some_iff.1 Ar).1;simp only [Bool.or_eq_true,Bool.and_eq_true,Nat.beq_eq] at h1;rcases h1 with (((h1 | h1) | h1) | h1) | h1
 ·exact (lu h1).elim
 ·exact (Ht hc _ _ _ o' Ar VR h1 mK).elim
 ·exact (Ht hc _ _ _ o ho ha h1 ur).elim
 ·rcases U0 with h | h
  ·rw [h] at h1;simp at h1
  ·rw [h] at h1;simp at h1
 ·exact h1.1
theorem BQ {i:Nat} {o:Oper} (h:ops[i]? = some o):SV ops i=mB o.op:=by unfold SV;rw [h]
theorem Ae (hZ:∀ (j:Nat) (o:Oper) cs b,ops[j]? = some o->o.op ≠ .select cs b) (hP:Hs ops W=true) {i:Nat} {o:Oper} (hi:ops[i]? = some o) (hE:mB o.op=false) :
  ∀ (T:ll) (rem:List Nat) (a:Act) (w:World),rem.Nodup->Cl ops rem->chkA ops T rem none=true->runS P ops W C Q T a w->i∈rem->rdy ops rem i=true ->
   ∃ v,Yl P ops C o v a/\(pP o.op=true->C w)/\SX P ops W C Q (rem.erase i) (a.put o.dst v) w
 | .fin,rem,a,w,_,_,hc,_,mK,_=>by
  simp only [chkA,Bool.and_eq_true,List.isEmpty_iff] at hc;rw [hc.2] at mK;cases mK
 | .stop,rem,a,w,_,_,hc,_,_,_=>by simp [chkA] at hc
 | .ev j t alt,rem,a,w,hn,hY,hc,hr,mK,K4=>by
  exfalso
  have key:∀ (T:ll) (seen:List Nat),(∀ k∈seen,SV ops k=true)->chkA ops T rem (some seen)=true->False:=by
   intro T
   induction T with
   | fin=>intro seen _ h;simp [chkA] at h
   | op=>intro seen _ h;simp [chkA] at h
   | ev k t alt _ ih=>
    intro seen hs h;simp only [chkA,Bool.and_eq_true,Option.getD_some] at h
    exact ih (k :: seen) (fun q hq=>by
     rcases List.mem_cons.1 hq with rfl | hq
     ·exact h.2.1
     ·exact hs q hq) h.2.2.2.2
   | stop=>
    intro seen hs h;simp only [chkA,List.all_eq_true,Bool.or_eq_true,Bool.not_eq_true'] at h;rcases h i mK with h1 | h1
    ·rw [K4] at h1;cases h1
    ·have:=hs i (sU h1);rw [BQ hi,hE] at this;cases this
  simp only [chkA,Bool.and_eq_true,Option.getD_none] at hc;exact key alt [j] (fun k hk=>by rw [List.mem_singleton] at hk;rw [hk];exact hc.2.1) hc.2.2.2.2
 | .op j t,rem,a,w,hn,hY,hc,hr,mK,K4=>by
  simp only [chkA,Bool.and_eq_true,Bool.not_eq_true'] at hc;obtain ⟨_,ur,LZ,W9,QH⟩:=hc;have ur:j∈rem:=sU ur;simp only [runS] at hr;obtain ⟨y,hy,v,Ti,X1,BM⟩:=hr;by_cases lu:i=j
  ·subst lu;rw [hi] at hy;simp only [oI] at hy;subst hy;exact ⟨v,Ti,X1,t,QH,BM⟩
  ·have JR:=EM hP hY K4 W9 mK ur lu (.inr LZ);obtain ⟨QD,Vb,_,_⟩:=gg JR hy hi;obtain ⟨u,hu,huc,T',hT',SY⟩:=Ae hZ hP hi hE t (rem.erase j) (a.put y.dst v) w (hn.erase j) (xV hn hY W9) QH BM ((List.mem_erase_of_ne lu).2 mK) (od K4);have Mx:=fun cs b=>hZ i o cs b hi;have hsy:=fun cs b=>hZ j y cs b hy;obtain ⟨_,X2,_⟩:=Oper.apart_spec QD;refine ⟨u,(Yl.same QD Mx).1 hu,huc,.op j T',?_,?_⟩
   ·simp only [chkA,Bool.and_eq_true,Bool.not_eq_true'];refine ⟨rfl,?_,LZ,od W9,?_⟩
    ·simpa using (List.mem_erase_of_ne (Ne.symm lu)).2 ur
    ·rw [List.erase_comm];exact hT'
   ·simp only [runS];refine ⟨y,hy,v,(Yl.same Vb hsy).2 Ti,X1,?_⟩;rw [<- Act.put_comm a v u X2];exact SY
theorem EN {e:Nat}:∀ (T:ll) (rem:List Nat) (seen:List Nat) (a:Act) (w:World),chkA ops T rem (some seen)=true->runS P ops W C Q T a w->e∈rem->rdy ops rem e=true->e ∉ seen ->
  ∃ o t,ops[e]? = some o/\chkA ops t (rem.erase e) none=true/\dY P ops o a w fun a' w'=>(W e=false->C w->C w')/\runS P ops W C Q t a' w'
 | .fin,rem,seen,a,w,hc,_,_,_,_=>by simp [chkA] at hc
 | .op _ _,rem,seen,a,w,hc,_,_,_,_=>by simp [chkA] at hc
 | .stop,rem,seen,a,w,hc,_,hm,hr,hs=>by
  simp only [chkA,List.all_eq_true,Bool.or_eq_true,Bool.not_eq_true'] at hc;rcases hc e hm with h | h
  ·rw [hr] at h;cases h
  ·exact (hs (sU h)).elim
 | .ev i t alt,rem,seen,a,w,hc,hr,hm,K4,hs=>by
  simp only [chkA,Bool.and_eq_true,Option.getD_some] at hc;simp only [runS] at hr;obtain ⟨⟨o,ho,aU⟩,hra⟩:=hr;by_cases CK:i=e
  ·subst CK;exact ⟨o,t,ho,hc.2.2.2.1,aU⟩
  ·exact EN alt rem (i :: seen) a w hc.2.2.2.2 hra hm K4 (fun h=>by
    rcases List.mem_cons.1 h with h | h
    ·exact CK h.symm
    ·exact hs h)
theorem JA (hZ:∀ (j:Nat) (o:Oper) cs b,ops[j]? = some o->o.op ≠ .select cs b) (hP:Hs ops W=true) {i:Nat} {o:Oper} (hi:ops[i]? = some o) (hE:mB o.op=true) :
  ∀ (T:ll) (rem:List Nat) (a:Act) (w:World),rem.Nodup->Cl ops rem->chkA ops T rem none=true->runS P ops W C Q T a w->i∈rem->rdy ops rem i=true ->
   dY P ops o a w (fun a' w'=>(W i=false->C w->C w')/\SX P ops W C Q (rem.erase i) a' w')
 | .fin,rem,a,w,_,_,hc,_,mK,_=>by
  simp only [chkA,Bool.and_eq_true,List.isEmpty_iff] at hc;rw [hc.2] at mK;cases mK
 | .stop,rem,a,w,_,_,hc,_,_,_=>by simp [chkA] at hc
 | .ev j t alt,rem,a,w,hn,hY,hc,hr,mK,K4=>by
  simp only [chkA,Bool.and_eq_true,Option.getD_none] at hc;simp only [runS] at hr;obtain ⟨⟨y,hy,aU⟩,hra⟩:=hr;by_cases lu:i=j
  ·subst lu;rw [hi] at hy;simp only [oI] at hy;subst hy;exact eC (fun a' w' h=>⟨h.1,t,hc.2.2.2.1,h.2⟩) aU
  ·obtain ⟨o',t',Ar,QH,hs⟩:=EN alt rem [j] a w hc.2.2.2.2 hra mK K4 (sU lu);rw [hi] at Ar;simp only [oI] at Ar;subst Ar;exact eC (fun a' w' h=>⟨h.1,t',QH,h.2⟩) hs
 | .op j t,rem,a,w,hn,hY,hc,hr,mK,K4=>by
  simp only [chkA,Bool.and_eq_true,Bool.not_eq_true'] at hc;obtain ⟨_,ur,LZ,W9,QH⟩:=hc;have ur:j∈rem:=sU ur;simp only [runS] at hr;obtain ⟨y,hy,v,Ti,X1,BM⟩:=hr
  have lu:i≠j:=by
   rintro rfl;rw [BQ hi,hE] at LZ;cases LZ
  have JR:=EM hP hY K4 W9 mK ur lu (.inr LZ);obtain ⟨QD,Vb,_,hLW⟩:=gg JR hy hi;have Mx:=fun cs b=>hZ i o cs b hi;have hsy:=fun cs b=>hZ j y cs b hy;have ih:=JA hZ hP hi hE t (rem.erase j) (a.put y.dst v) w (hn.erase j) (xV hn hY W9) QH BM ((List.mem_erase_of_ne lu).2 mK) (od K4);refine eC ?_ (oP ((rB QD Mx).1 ih));rintro a' w' ⟨⟨E4,T',hT',SY⟩,u,rfl⟩;refine ⟨E4,.op j T',?_,?_⟩
  ·simp only [chkA,Bool.and_eq_true,Bool.not_eq_true'];refine ⟨rfl,?_,LZ,od W9,?_⟩
   ·simpa using (List.mem_erase_of_ne (Ne.symm lu)).2 ur
   ·rw [List.erase_comm];exact hT'
  ·simp only [runS];refine ⟨y,hy,v,(Yl.same (u:=u) Vb hsy).2 Ti,fun hL=>?_,SY⟩
   have hWi:W i=false:=by
    cases hw:W i
    ·rfl
    ·exact (hLW ⟨hL,hw⟩).elim
   exact E4 hWi (X1 hL)
theorem Qe {Q':Exit->Act->World->Prop} (hZ:∀ (j:Nat) (o:Oper) cs b,ops[j]? = some o->o.op ≠ .select cs b) (hP:Hs ops W=true) (hb:∀ (i:Nat) (o:Oper),ops[i]? = some o->∀ e∈o.after,Region.binds .any e=true->e.on < ops.size)
  (hQ:∀ a w,Q a w->Q' .normal a w):∀ (ky:Nat) (aO:Array Bool) (rem:List Nat) (a:Act) (w:World),
  aO.size=ops.size->(∀ i,i∈rem↔i < ops.size/\aO.getD i true=false)->rem.Nodup->Cl ops rem->rem.length<=ky->SX P ops W C Q rem a w->wpAny P .any ops Q' ky aO a w:=by
 have SZ:∀ (aO:Array Bool) (rem:List Nat),aO.size=ops.size->(∀ i,i∈rem↔i < ops.size/\aO.getD i true=false)->∀ i,i∈Region.ready .any ops aO↔i∈rem/\rdy ops rem i=true:=by
  intro aO rem bJ j3 i
  have hl:∀ k,k < ops.size->(aO.getD k false=true↔k ∉ rem):=fun k hk=>by
   have fF:k < aO.size:=by rw [bJ];exact hk
   rw [j3 k];simp [hk,fF]
  rw [mem_ready];constructor
  ·rintro ⟨h1,o,ho,h2⟩;have hi:=(Array.getElem?_eq_some_iff.1 ho).1;refine ⟨(j3 i).2 ⟨hi,h1⟩,?_⟩;unfold rdy;rw [ho];simp only [List.all_eq_true,Bool.or_eq_true,Bool.not_eq_true'];intro e he;cases gf:Region.binds .any e
   ·exact .inl rfl
   ·right;have Ia:e∈o.after:=sU he;simp only [List.contains_eq_mem,decide_eq_false_iff_not];exact (hl _ (hb i o ho e Ia gf)).1 (h2 e Ia gf)
  ·rintro ⟨h1,h2⟩;obtain ⟨o,ho,h3⟩:=lm h2;exact ⟨((j3 i).1 h1).2,o,ho,fun e he gf=>(hl _ (hb i o ho e he gf)).2 (h3 e he gf)⟩
 intro ky
 induction ky with
 | zero=>
  intro aO rem a w bJ j3 hn hY hlen hr;have:rem=[]:=List.length_eq_zero_iff.1 (by omega);subst this;obtain ⟨T,hT,SY⟩:=hr;refine ⟨?_,hQ _ _ ?_⟩
  ·rw [List.eq_nil_iff_forall_not_mem];intro i hi;cases ((SZ aO [] bJ j3 i).1 hi).1
  ·cases T with
   | fin=>exact SY
   | op i t=>simp [chkA] at hT
   | ev i t alt=>simp [chkA] at hT
   | stop=>simp [chkA] at hT
 | succ ky ih=>
  intro aO rem a w bJ j3 hn hY hlen hr;obtain ⟨T,hT,SY⟩:=hr;refine ⟨fun h0=>?_,fun i hi=>?_⟩
  ·cases T with
   | fin=>exact hQ _ _ SY
   | op i t=>
    exfalso;simp only [chkA,Bool.and_eq_true] at hT;have:=(SZ aO rem bJ j3 i).2 ⟨by simpa using hT.2.1,hT.2.2.2.1⟩;rw [h0] at this;cases this
   | ev i t alt=>
    exfalso;simp only [chkA,Bool.and_eq_true] at hT;have:=(SZ aO rem bJ j3 i).2 ⟨by simpa using hT.1,hT.2.2.1⟩;rw [h0] at this;cases this
   | stop=>simp [chkA] at hT
  ·obtain ⟨mK,hir⟩:=(SZ aO rem bJ j3 i).1 hi;obtain ⟨o,ho,_⟩:=lm hir;have dF:=(Array.getElem?_eq_some_iff.1 ho).1
   have yQ:∀ k,k∈rem.erase i↔k < ops.size/\(aO.setIfInBounds i true).getD k true=false:=by
    intro k;rw [List.Nodup.mem_erase_iff hn];by_cases mv:k=i
    ·subst mv;simp [bJ,dF]
    ·rw [getD_set_ne true (Ne.symm mv)];simp only [ne_eq,mv,not_false_eq_true,true_and];exact j3 k
   have qO:∀ a' w',SX P ops W C Q (rem.erase i) a' w' -> wpAny P .any ops Q' ky (aO.setIfInBounds i true) a' w':=fun a' w' h=>
    ih _ (rem.erase i) a' w' (by simp [bJ]) yQ (hn.erase i) (xV hn hY hir) (by rw [List.length_erase_of_mem mK];have:=List.length_pos_of_mem mK;omega) h
   refine yP ho ?_
   cases hE:mB o.op with
   | true=>exact eC (fun a' w' h=>qO a' w' h.2) (JA hZ hP ho hE T rem a w hn hY hT SY mK hir)
   | false=>
    obtain ⟨v,hy,hc,h⟩:=Ae hZ hP ho hE T rem a w hn hY hT SY mK hir;exact j8 hy hc (qO _ _ h)
end
def goA (X:Ctx) (D:Dr):ll->Bool->List (Nat × Sl)->St->Prop
 | .fin,_,_,st=>go X 4000 D.k st
 | .op i t,c,s0,st=>
  match D.ops.toList[i]? with
  | some o=>goD X ⟨D.ops,D.W,D.k,D.kP,some (goA X D t)⟩ 3000 c [(i,o)] s0 st
  | none=>False
 | .ev i t alt,c,s0,st=>
  (match D.ops.toList[i]? with
  | some o=>goD X ⟨D.ops,D.W,D.k,D.kP,some (goA X D t)⟩ 3000 c [(i,o)] s0 st
  | none=>False)/\goA X D alt c s0 st
 | .stop,_,_,_=>True
def Xa (ops:Array Oper):Bool:=Region.noSelect ops && (List.range ops.size).all fun i=>match ops[i]? with | some o=>o.after.toList.all fun e=>!Region.binds .any e || Nat.blt e.on ops.size | none=>true
section
variable {X:Ctx} {D:Dw}
theorem LB (hD:tG D.E0 D.d.kP.bx D.wr) (hf:D.d.fin=none):∀ (T:ll) (rem:List Nat) m,chkA D.d.ops T rem m=true->∀ c s0 st,goA X D.d T c s0 st->∀ E a w,fq X D c E s0 st a w->runS X.P D.d.ops D.d.W D.C (D.Q X) T a w:=by
 intro T
 have yr:∀ (t:ll) (i:Nat) (o:Oper),D.d.ops[i]? = some o->(∀ c s0 st,goA X D.d t c s0 st->∀ E a w,fq X D c E s0 st a w->runS X.P D.d.ops D.d.W D.C (D.Q X) t a w)->∀ c s0 st,goD X ⟨D.d.ops,D.d.W,D.d.k,D.d.kP,some (goA X D.d t)⟩ 3000 c [(i,o)] s0 st->∀ E a w,fq X D c E s0 st a w ->
   runT X.P D.d.ops D.d.W D.C (fun a w=>runS X.P D.d.ops D.d.W D.C (D.Q X) t a w) [i] a w:=fun t i o ho ih c s0 st hg E a w h=>by
  have h1:=eQ (D:=⟨⟨D.d.ops,D.d.W,D.d.k,D.d.kP,some (goA X D.d t)⟩,D.E0,D.wr⟩) hD 3000 c [(i,o)] s0 st hg (fun p hp=>by
   rw [List.mem_singleton] at hp;rw [hp]
   exact ho) E a w ⟨h.rel,h.x,h.β,h.t0,h.cc⟩
  refine nO ?_ h1;rintro a w ⟨c,E,s0,st,h2,h3⟩;exact ih c s0 st h3 E a w ⟨h2.rel,h2.x,h2.β,h2.t0,h2.cc⟩
 induction T with
 | fin=>
  intro rem m _ c s0 st hg E a w h;show D.Q X a w;unfold Dw.Q;rw [hf];exact go_sound 4000 _ _ hg E a w h.rel
 | stop=>intro rem m _ c s0 st hg E a w h;exact trivial
 | op i t ih=>
  intro rem m hc c s0 st hg E a w h;simp only [chkA,Bool.and_eq_true,Bool.not_eq_true'] at hc;simp only [goA] at hg;split at hg
  ·rename_i o ho;have ho:D.d.ops[i]? = some o:=sU ho;have h4:=yr t i o ho (ih _ _ hc.2.2.2.2) c s0 st hg E a w h;have hE:mB o.op=false:=by rw [<- BQ ho];exact hc.2.2.1
   simp only [runT,ho,hE,Bool.false_eq_true,if_false] at h4;exact ⟨o,ho,h4⟩
  ·exact hg.elim
 | ev i t alt ih1 ih2=>
  intro rem m hc c s0 st hg E a w h;simp only [chkA,Bool.and_eq_true] at hc;obtain ⟨hg,B3⟩:=hg;refine ⟨?_,ih2 _ _ hc.2.2.2.2 c s0 st B3 E a w h⟩;split at hg
  ·rename_i o ho;have ho:D.d.ops[i]? = some o:=sU ho;have h4:=yr t i o ho (ih1 _ _ hc.2.2.2.1) c s0 st hg E a w h;have hE:mB o.op=true:=by rw [<- BQ ho];exact hc.2.1
   simp only [runT,ho,hE,if_true] at h4;exact ⟨o,ho,h4⟩
  ·exact hg.elim
theorem aaH {id:Nat} {ops:Array Oper} {k:List It} {st:St} (W:Nat->Bool) (T:ll) (hm:X.P.follows .mixedOrders=true) (hc:(Xa ops && Hs ops W && chkA ops T (List.range ops.size) none)=true) (S:St)
  (h:goA X ⟨ops,W,[.Cd fun s=>s=S∨gL s S],st,none⟩ T true st.sl st) (hk:go X 4000 k S):pL X id ops k st:=by
 intro E a w hr;have j2:=kO hr;simp only [Bool.and_eq_true] at hc;obtain ⟨⟨hN,hP⟩,hT⟩:=hc;simp only [Xa,Bool.and_eq_true,List.all_eq_true,List.mem_range] at hN;have hs:=oS j2 (ops:=ops) (W:=W) (k:=[.Cd fun s=>s=S∨gL s S]);have cf:=LB (D:=⟨⟨ops,W,[.Cd fun s=>s=S∨gL s S],st,none⟩,E,w.drew⟩) j2.env.em rfl T _ _ hT true st.sl st h E a w.drew hs;refine wp_region_any hm ?_;refine Qe (C:=CC E st.bx w.drew) (Q:=kq X [.Cd fun s=>s=S∨gL s S] .normal) (Region.noSelect_spec hN.1) hP (fun i o ho e he hb=>?_) (fun a w hq=>?_) ops.size (Array.replicate ops.size false) (List.range ops.size) a _ (by simp) ?_ List.nodup_range ?_ (by simp) ⟨T,hT,cf⟩
 ·have h1:=hN.2 i (Array.getElem?_eq_some_iff.1 ho).1;rw [ho] at h1;have h2:=List.all_eq_true.1 h1 e (sU he);rw [hb] at h2;simpa using h2
 ·obtain ⟨p8,E1,bY,hJ⟩:=hq;rcases hJ with rfl | hJ
  ·exact go_sound 4000 _ _ hk E1 a w bY
  ·exact go_sound 4000 _ _ hk E1 a w (CD bY hJ)
 ·intro i;simp only [List.mem_range];constructor
  ·intro hi;exact ⟨hi,by simp [hi]⟩
  ·intro hi;exact hi.1
 ·intro k o ho hk;exact (hk (List.mem_range.2 (Array.getElem?_eq_some_iff.1 ho).1)).elim
end
end Dv
end Go.Proofs.YtffhgcbfpidfiaaGreat
set_option maxRecDepth 100000
namespace Go.Proofs.YtffhgcbfpidfiaaGreat
open Go Go.RowKit Dv Go.Proofs.Tryz
theorem EO (p:List bV) (s:bV) (hp:p.length<=1099511627776):EvP prog 46 [.sl 3 (ch p) none,.agg (l9 s)] (.sl 3 (ch (p ++ [s])) none):=by
 have cu:=gD p;have fu:ch p ++ [l9 s]=ch (p ++ [s]):=by simp [ch]
 obtain ⟨k,n,t⟩:=s;rw [<- fu];refine eG 11 [.tmp 4] func46 rfl ntmps46 rfl fun _ _ _ _=>?_;apply aaH (fun _=>false) (.op 1 (.op 3 (.ev 0 (.ev 2 (.ev 4 (.ev 5 (.op 6 .fin) .stop) .stop) (.ev 4 (.ev 2 (.ev 5 (.op 6 .fin) .stop) .stop) .stop)) (.ev 4 (.ev 0 (.ev 2 (.ev 5 (.op 6 .fin) .stop) .stop) .stop) .stop)))) mo (by decide +kernel);·repeat' (first | refine KC rfl rfl rfl rfl ?_ | refine ⟨by simp,⟨by simp [maxLen,cu];omega,by simp [cu];omega⟩,?_⟩ | exact trivial | exact Or.inl rfl | exact qY | refine ⟨?_,?_⟩)
 exact ⟨_,ax,rfl⟩
theorem qZ (lv:List Wd) (f:Nat->Nat->Bool) (ND:List Nd) (z:Int) (hL:dN f lv.length) (hn:lv.length<=32) (d:Nd) (e:Ed) (a:Nat) (ha:a < lv.length) (hN:dB lv.length ND.length d) (hm:e∈d.aw) :
  EvP prog 98 [.agg (wL lv f ND z),.agg (jc d),.agg (tP e),.v (.int .i64 a)] (.v (.int .i64 (if d.ag < 7 then a else ta f lv.length a e.label.toNat:Nat))):=by
 obtain ⟨_,⟨h2,C8⟩,_⟩:=gF hN hm;obtain ⟨ag,aD,lo,hi,most,af,es⟩:=d;obtain ⟨en,eb,ea,et,xS,ew,kL,x5,x6,tp⟩:=e;simp only at h2 C8;obtain ⟨lb,rfl⟩:∃ n:Nat,xS=n:=⟨_,h2⟩;simp only [Int.toNat_natCast] at C8 ⊢;have hj:=ki lv.length f (by omega) a lb ha C8;rw [xE hL ha C8] at hj;refine eG 19 [.tmp 8] func98 rfl ntmps98 rfl fun _ _ _ _=>?_;refine br ?_ ?_<;>intro c
 ·have c:ag < 7:=sU c;rw [if_pos c];exact (rfl:_=_)
 ·have c:¬ ag < 7:=sU c;rw [if_neg c];refine cP Ir hj ?_;exact (rfl:_=_)
theorem Hu (lv:List Wd) (f:Nat->Nat->Bool) (ND:List Nd) (z:Int) (hL:dN f lv.length) (hn:lv.length<=32) (d:Nd) (e:Ed) (b9 a:Nat) (ho:b9 < lv.length) (ha:a < lv.length) (hN:dB lv.length ND.length d) (hm:e∈d.aw) :
  EvP prog 97 [.agg (wL lv f ND z),.v (.int .i64 b9),.agg (jc d),.agg (tP e),.v (.int .i64 a)] (.v (.int .i64 (sx f lv.length b9 d e a:Nat))):=by
 have hu:=qZ lv f ND z hL hn d e a ha hN hm;obtain ⟨_,⟨h2,C8⟩,h3,LA⟩:=gF hN hm
 have hul:(if d.ag < 7 then a else ta f lv.length a e.label.toNat) < lv.length:=by
  split
  ·exact ha
  ·exact xD hL ha C8
 have hH:sx f lv.length b9 d e a=if f (if d.ag < 7 then a else ta f lv.length a e.label.toNat) b9=true then 2 else if e.ck≠0/\f (ta f lv.length a e.seen.toNat) b9=true then 1 else 0:=rfl
 generalize sx f lv.length b9 d e a=H at hH ⊢;generalize (if d.ag < 7 then a else ta f lv.length a e.label.toNat)=u at hu hul hH;obtain ⟨ag,aD,lo,hi,most,af,es⟩:=d;obtain ⟨en,eb,ea,et,xS,ew,kL,x5,x6,tp⟩:=e;simp only at h3 LA hH;obtain ⟨sn,rfl⟩:∃ n:Nat,x6=n:=⟨_,h3⟩;simp only [Int.toNat_natCast] at LA hH;have hj:=ki lv.length f (by omega) a sn ha LA;rw [xE hL ha LA] at hj;have oM:=xD hL ha LA;refine eG 41 [.tmp 10] func97 rfl ntmps97 rfl fun _ _ _ _=>?_;refine dI ?_;refine cD Zb hu ?_;refine iX (dr hul) ?_;refine iX (cI ho) ?_;refine br ?_ ?_<;>intro c
 ·have c:f u b9=true:=sU c;rw [if_pos c] at hH;subst hH;exact (rfl:_=_)
 have c:f u b9=false:=sU c;rw [if_neg (by rw [c];simp)] at hH;refine dI ?_;refine br ?_ ?_<;>intro g
 ·have g:kL≠0:=sU g;refine cD Ir hj ?_;refine ⟨_,⟨by simp [oz],by simpa [oz] using dr oM⟩,?_⟩;refine iX (cI ho) ?_;refine br ?_ ?_<;>intro c2
  ·have c2:f (ta f lv.length a sn) b9=true:=by simpa [pickB] using c2
   rw [if_pos ⟨g,c2⟩] at hH;subst hH;exact (rfl:_=_)
  ·have c2:f (ta f lv.length a sn) b9=false:=by simpa [pickB] using c2
   rw [if_neg (by rw [c2];simp)] at hH;subst hH;exact (rfl:_=_)
 ·have g:kL=0:=sU g;rw [if_neg (by simp [g])] at hH;subst hH;exact (rfl:_=_)
theorem tq (d:Nd) (v:Val) (j:Nat) (e:Ed) (h:cd d v.n j=some e) (hz:d.ag=8->0<=v.n/\v.n < d.aw.length) (jk:d.aw.length<=1099511627776) :
  EvP prog 45 [.agg (jc d),.agg (aM v),.v (.int .i64 j)] (.agg (tP e)):=by
 obtain ⟨ag,aD,lo,hi,most,af,es⟩:=d;obtain ⟨k,n,s,ks⟩:=v;simp only [Val.n] at h hz jk;have j1:=bZ es;unfold cd at h;simp only at h;refine eG 28 [.cell 6 117] func45 rfl ntmps45 rfl fun _ _ _ _=>?_;refine br ?_ ?_<;>intro c
 ·have c:ag=7:=sU c;rw [if_pos c] at h;have hj:=(gS h).1;refine iX (bm h) ?_;exact ⟨_,ax,rfl⟩
 have c7:¬ ag=7:=sU c;rw [if_neg c7] at h;refine br ?_ ?_<;>intro c
 ·have c:ag=8:=sU c;rw [if_pos c] at h;have hz:=hz c;refine iX (bm h) ?_;exact ⟨_,ax,rfl⟩
 have c8:¬ ag=8:=sU c;rw [if_neg c8] at h;refine iX (bm h) ?_;exact ⟨_,ax,rfl⟩
theorem S0 {v:Val} (h:rngW v):rK v.n:=by obtain ⟨_,_,_,_⟩:=v;rw [rngW] at h;exact h.2.1
theorem Qf {L:Nat} {ND:List Nd} (bS:∀ d∈ND,dB L ND.length d) {v:Val} {i:Int} (hr:rngW v) (h:iI ND v i=true):textV ND v i ≠ []:=by
 obtain ⟨d,hd,hc⟩:=jX h;have h1:=(BL (bS d (mG (dt hd).2)) (S0 hr) hc).1;obtain ⟨k,n,s,ks⟩:=v;rw [textV,hd];simp [h1]
abbrev X3 (PC LC:List DV) (b9:Int):List DV:=[.pt PC 0,.pt LC 0,.v (.int .i64 b9)]
section
variable {n:Nat} {f:Nat->Nat->Bool} {af:List ByteArray} {LC:List DV} (hR:Lk n f af LC) (PC:List DV)
include hR
theorem xW (b9 a:Nat) (ho:b9 < n) (ha:a < n):EvP prog 110 [.agg (X3 PC LC b9),.v (.int .i64 a)] (.v (.bool (f a b9))):=by
 have hq:=hR.leq a b9;rw [PF ha ho] at hq;refine eG 11 [.tmp 4] func110 rfl ntmps110 rfl fun _ _ _ _=>?_;refine cP Zu hq ?_;exact (rfl:_=_)
theorem xX {ND:List Nd} (b9 a:Nat) (ho:b9 < n) (ha:a < n) (d:Nd) (e:Ed) (hN:dB n ND.length d) (hm:e∈d.aw):EvP prog 111 [.agg (X3 PC LC b9),.agg (tP e),.v (.int .i64 a)] (.v (.bool (decide (e.ck≠0) && f (ta f n a e.seen.toNat) b9))):=by
 obtain ⟨_,_,h3,LA⟩:=gF hN hm;have hj:=hR.join a e.seen.toNat ha LA;rw [<- h3] at hj;have hs:=xW hR PC b9 (ta f n a e.seen.toNat) ho (xD hR.ok ha LA);obtain ⟨en,eb,ea,et,xS,ew,kL,x5,x6,tp⟩:=e;refine eG 20 [.tmp 6] func111 rfl ntmps111 rfl fun _ _ _ _=>?_;refine dI ?_;refine br ?_ ?_<;>intro c
 ·have c:kL≠0:=sU c;refine cD Ip hj ?_;refine cD Tl hs ?_;rw [show decide ((⟨en,eb,ea,et,xS,ew,kL,x5,x6,tp⟩:Ed).ck≠0)=true from decide_eq_true c,Bool.true_and];exact (rfl:_=_)
 ·have c:¬ kL≠0:=sU c;rw [show decide ((⟨en,eb,ea,et,xS,ew,kL,x5,x6,tp⟩:Ed).ck≠0)=false from decide_eq_false c,Bool.false_and];exact (rfl:_=_)
theorem Hv {ND:List Nd} (b9:Int) (a:Nat) (ha:a < n) (d:Nd) (v:Val) (j:Nat) (e:Ed) (h:cd d v.n j=some e) (hm:e∈d.aw) (hN:dB n ND.length d) (h5:5<=d.ag) (hz:d.ag=8->(0<=v.n/\v.n < d.aw.length)/\j=0) (jk:d.aw.length<=1099511627776) :
  EvP prog 109 [.agg (X3 PC LC b9),.agg (jc d),.agg (aM v),.v (.int .i64 j),.v (.int .i64 a)] (.tup [.agg (tP e),.v (.int .i64 (mr f n d e a:Nat))]):=by
 obtain ⟨_,⟨h2,C8⟩,_⟩:=gF hN hm;have hj:=hR.join a e.label.toNat ha C8;rw [<- h2] at hj;have hU:mr f n d e a=if d.ag < 7 then a else ta f n a e.label.toNat:=rfl
 generalize mr f n d e a=U at hU ⊢;have h8:=hN.k8;obtain ⟨ag,aD,lo,hi,most,X4,es⟩:=d;obtain ⟨k,z,s,ks⟩:=v;simp only [Val.n] at h hz jk hU h5 h8;have j1:=bZ es;unfold cd at h;simp only at h;have hd:∃ en eb ea et xS ew kL x5 x6 tp,e=⟨en,eb,ea,et,xS,ew,kL,x5,x6,tp⟩:=⟨_,_,_,_,_,_,_,_,_,_,rfl⟩
 have Xb:∃ (l:List (List DV)) (b:Bool),EvP prog 156 [.agg (jc ⟨ag,aD,lo,hi,most,X4,es⟩),.agg (aM (.mk k z s ks))] (.tup [.sl 10 l none,.v (.bool b)])/\(if ag < 7 then b=false/\l[0]? = some (tP e) else b=true/\l[j]? = some (tP e)):=by
  by_cases c7:ag=7
  ·rw [if_pos c7] at h;refine ⟨fv es,true,?_,by rw [if_neg (by omega)];exact ⟨rfl,bm h⟩⟩;refine eG 24 [.tmp 4,.tmp 5] func156 rfl ntmps156 rfl fun _ _ _ _=>?_;refine br (fun _=>?_) (fun c=>absurd c7 (sU c));exact ⟨_,ax,rfl⟩
  rw [if_neg c7] at h;by_cases c8:ag=8
  ·rw [if_pos c8] at h;have hz:=hz c8;have hw:IntKind.i64.wrap (z + 1)=z + 1:=wrap64 (by omega) (by omega);refine ⟨((fv es).take (IntKind.i64.wrap (z + 1)).toNat).drop z.toNat,true,?_,by rw [if_neg (by omega),hz.2,List.getElem?_drop,List.getElem?_take,if_pos (by rw [hw];omega)];exact ⟨rfl,bm h⟩⟩;refine eG 24 [.tmp 4,.tmp 5] func156 rfl ntmps156 rfl fun _ _ _ _=>?_;refine br (fun c=>absurd (sU c) c7) (fun _=>?_);refine br (fun _=>?_) (fun c=>absurd c8 (sU c));refine ⟨⟨by omega,by rw [hw];omega,by rw [hw,bZ];simp only;omega⟩,?_⟩;exact ⟨_,ax,rfl⟩
  ·rw [if_neg c8] at h;refine ⟨fv es,false,?_,by rw [if_pos (by omega)];exact ⟨rfl,bm h⟩⟩;refine eG 24 [.tmp 4,.tmp 5] func156 rfl ntmps156 rfl fun _ _ _ _=>?_;refine br (fun c=>absurd (sU c) c7) (fun _=>?_);refine br (fun c=>absurd (sU c) c8) (fun _=>?_);exact ⟨_,ax,rfl⟩
 obtain ⟨l,b,hE,hl⟩:=Xb;by_cases c:ag < 7
 ·rw [if_pos c] at hl hU;obtain ⟨rfl,hl⟩:=hl;subst hU;obtain ⟨en,eb,ea,et,xS,ew,kL,x5,x6,tp,rfl⟩:=hd;refine eG 38 [.cell 10 174,.tmp 11] func109 rfl ntmps109 rfl fun _ _ _ _=>?_;refine cP TB hE ?_;refine ⟨_,⟨by omega,hl⟩,?_⟩;exact ⟨_,ax,rfl⟩
 ·rw [if_neg c] at hl hU;obtain ⟨rfl,hl⟩:=hl;subst hU;obtain ⟨en,eb,ea,et,xS,ew,kL,x5,x6,tp,rfl⟩:=hd;refine eG 38 [.cell 10 174,.tmp 11] func109 rfl ntmps109 rfl fun _ _ _ _=>?_;refine cP TB hE ?_;refine ⟨_,⟨by omega,hl⟩,?_⟩;refine dS ?_;refine cD Ip hj ?_;exact ⟨_,ax,rfl⟩
end
abbrev Qg (a:ByteArray) (aD:Nat) (m:Int) (e:Nat):St:=⟨[(0,⟨[],.v (.string a)⟩),(5,⟨[],.v (.int .i64 aD)⟩),(8,⟨[],.v (.int .i64 m)⟩),(9,⟨[],.v (.int .i64 e)⟩)],[],[]⟩
theorem Hw (a:ByteArray) (ha:a.size<=1099511627776) (m:Int) (hm:m<=9223372036854775807):EvP prog 159 [.v (.string a),.v (.int .i64 m)] (.v (.string (ba (headL m.toNat (tx a))))):=by
 refine eG 28 [.tmp 4] func159 rfl ntmps159 rfl fun _ _ _ _=>?_;refine lI (fun j st=>∃ e aD:Nat,st=Qg a aD m e/\(e:Int)<=max m 0/\aD <= a.size/\(tx a).take aD ++ headL (m.toNat - e) ((tx a).drop aD)=headL m.toNat (tx a)/\j=m.toNat - e) ⟨0,0,rfl,by omega,by omega,by simp,rfl⟩ (weak_mk ⟨_,rfl⟩ wA rfl rfl rfl wB0) ?_;rintro j st ⟨e,aD,rfl,he,h1,hE,rfl⟩;have eZ:=bB a
 have abL:headL (m.toNat - e) ((tx a).drop aD)=[]->a.extract 0 aD=ba (headL m.toNat (tx a)):=fun h=>by
  rw [h,List.append_nil] at hE;rw [<- hE];exact lR (uD a aD)
 refine br ?_ ?_<;>intro hL
 rotate_left
 ·have aN:m.toNat - e=0:=by have:=of_decide_eq_false hL;omega
  refine ⟨⟨by omega,by omega,by omega⟩,?_⟩;exact (congrArg (fun z=>DV.v (.string z)) (abL (by rw [aN];rfl)):_=_)
 have au:(e:Int) < m:=of_decide_eq_true hL;refine br ?_ ?_<;>intro c
 ·have c:aD=a.size:=by have:=of_decide_eq_true c;omega
  refine ⟨⟨by omega,by omega,by omega⟩,?_⟩;exact (congrArg (fun z=>DV.v (.string z)) (abL (by rw [List.drop_of_length_le (by omega),zO])):_=_)
 have c:aD < a.size:=by have:=of_decide_eq_false c;omega
 have hua:=K3 a aD ha h1
 have aT:(tx a).drop aD ≠ []:=fun h=>by
  have:=congrArg List.length h;rw [List.length_drop,List.length_nil] at this;omega
 have hup:=qN aT;rw [List.length_drop] at hup;obtain ⟨k,hk⟩:∃ k,m.toNat - e=k + 1:=⟨m.toNat - e - 1,by omega⟩;rw [hk,show headL (k + 1) ((tx a).drop aD)=((tx a).drop aD).take (kk ((tx a).drop aD)) ++ headL k (((tx a).drop aD).drop (kk ((tx a).drop aD))) from rfl,<- List.append_assoc,List.drop_drop,<- List.take_add] at hE;generalize kk ((tx a).drop aD)=w at hua hup hE;refine bL ZG rfl hua ax (fun q hq=>?_);obtain ⟨z1,rfl⟩:=hq
 have hw:IntKind.i64.wrap ((aD:Int) + w)=((aD + w:Nat):Int):=by
  rw [wrap64 (by omega) (by omega)];omega
 have B6:IntKind.i64.wrap ((e:Int) + 1)=((e + 1:Nat):Int):=by
  rw [wrap64 (by omega) (by omega)];omega
 exact rE ⟨_,by omega,e + 1,aD + w,rfl,by omega,by omega,by rw [show m.toNat - (e + 1)=k by omega];exact hE,rfl⟩ (weak_mk ⟨_,rfl⟩ wA rfl rfl rfl (dm hw B6))
abbrev Qh (a b:Val) (e:Nat):St:=⟨[(2,⟨[],.loc 0 0⟩),(3,⟨[],.loc 1 0⟩),(5,⟨[],.v (.int .i64 e)⟩)],[aM a,aM b],[]⟩
theorem tu:∀ (k:Nat) (a:Val),a.wt<=k->a.wt<=1099511627776->∀ b:Val,EvP prog 51 [.agg (aM a),.agg (aM b)] (.v (.bool (sameV a b)))
 | 0,v,h,_=>by have:=v.dh;omega
 | k + 1,.mk q n s ks,h,hb=>fun b=>by
  have ih:=tu k;rw [Val.wt] at h hb;obtain ⟨bk,bn,bs,bl⟩:=b;have QC:=dc ks;have h1:=bo ks;have h2:=bo bl;have hS:sameV (.mk q n s ks) (.mk bk bn bs bl)=(decide (q=bk) && decide (n=bn) && decide (s=bs) && sameVs ks bl):=by rw [sameV]
  refine eG 53 [.tmp 4] func51 rfl ntmps51 rfl fun _ _ _ _=>?_;refine br ?_ ?_<;>intro c
  ·have c:¬ (q=bk/\n=bn/\s=bs/\ks.length=bl.length):=by
    have:=c;simp [ap,h1,h2] at this;intro hh;obtain ⟨a1,a2,a3,a4⟩:=hh;simp [a1,a2,a3,a4] at this
   refine (congrArg (fun b=>DV.v (.bool b)) ?_:_=_);rw [hS];by_cases hl:ks.length=bl.length
   ·symm;rw [Bool.and_eq_false_iff];left;simp only [Bool.and_eq_false_iff,decide_eq_false_iff_not];by_cases a1:q=bk
    ·by_cases a2:n=bn
     ·right;exact fun a3=>c ⟨a1,a2,a3,hl⟩
     ·left;right;exact a2
    ·left;left;exact a1
   ·rw [xr hl,Bool.and_false]
  ·have c:q=bk/\n=bn/\s=bs/\ks.length=bl.length:=by
    have:=c;simp [ap,h1,h2] at this;obtain ⟨⟨⟨a1,a2⟩,a3⟩,a4⟩:=this;exact ⟨a1,a2,a3,by omega⟩
   obtain ⟨rfl,rfl,rfl,hl⟩:=c;simp only [decide_true,Bool.true_and] at hS;rw [hS]
   refine av (fun j st=>∃ e:Nat,st=Qh (.mk q n s ks) (.mk q n s bl) e/\e<=ks.length/\sameVs ks bl=sameVs (ks.drop e) (bl.drop e)/\j=ks.length - e) ks.length
    (Qh (.mk q n s ks) (.mk q n s bl) 0) (weak_mk ⟨_,rfl⟩ wA rfl rfl rfl wB) ⟨0,rfl,by omega,rfl,by omega⟩ ?_
   rintro _ st ⟨e,rfl,he,aK,rfl⟩;refine br ?_ ?_<;>intro h
   ·have au:e < ks.length:=sV h1 h;obtain ⟨x,hx⟩:=gX au;obtain ⟨y,hy⟩:∃ y,bl[e]? = some y:=⟨_,gE (hl ▸ au)⟩;rw [drop_cons hx,drop_cons hy,sameVs] at aK;have QJ:=cE (mG hx);have U0:=ih x (by omega) (by omega) y;obtain ⟨xk,xn,xs,xl⟩:=x;obtain ⟨yk,yn,ys,yl⟩:=y;refine dI ?_;refine iX (bf hx) ?_;refine iX (bf hy) ?_;refine cD YX U0 ?_;refine br ?_ ?_<;>intro h
    ·have aT:sameV (.mk xk xn xs xl) (.mk yk yn ys yl)=false:=sU h;refine (congrArg (fun b=>DV.v (.bool b)) ?_:_=_);rw [aK,aT,Bool.false_and]
    ·have aT:sameV (.mk xk xn xs xl) (.mk yk yn ys yl)=true:=sU h;rw [aT,Bool.true_and] at aK;exact rE ⟨_,by omega,e + 1,rfl,by omega,aK,rfl⟩ (weak_mk ⟨_,rfl⟩ wA rfl rfl rfl (wB1 (nxt au (by omega))))
   ·have aN:ks.length<=e:=sV h1 h;rw [List.drop_of_length_le (by omega),List.drop_of_length_le (by omega)] at aK;refine (congrArg (fun b=>DV.v (.bool b)) ?_:_=_);rw [aK];simp [sameVs]
theorem tv (a:Val) (ha:a.wt<=1099511627776) (b:Val):EvP prog 18 [.agg (aM a),.agg (aM b)] (.v (.bool (sameV a b))):=by
 have h:=tu _ a (Nat.le_refl _) ha b;obtain ⟨q,n,s,ks⟩:=a;obtain ⟨bk,bn,bs,bl⟩:=b;refine eG 8 [.tmp 4] func18 rfl ntmps18 rfl fun _ _ _ _=>?_;refine cP YX h ?_;exact (rfl:_=_)
section
variable (a b:Nat) (A B:List (List DV)) (rt:Int) {ND:List Nd} {L:Nat} (bS:∀ n∈ND,dB L ND.length n)
include bS
end
section
variable {S:Sch} {ND:List Nd} {PC LC:List DV} (hP:fN S ND PC) (k0:EvP prog 56 [.pt PC 0] (.pt LC 0)) (hR:Lk S.ae.length (bK S) (ay S.ae) LC) (hrS:∀ n∈ND,EI n) (bJ:∀ n∈ND,n.aw.length<=1099511627776) (rt:Nat) (BM:dW S=rt)
include k0 hR
theorem Hx (o:Int):EvP prog 52 [.pt PC 0,.v (.int .i64 o)] (.tup [.agg (X3 PC LC o),.v (.bool (decide (0<=o/\o < S.ae.length)))]):=by
 have hlen:=hR.len;refine eG 21 [.cell 4 127,.tmp 5] func52 rfl ntmps52 rfl fun _ _ _ _=>?_;refine cP MK k0 ?_;refine br ?_ ?_<;>intro c
 ·have c:0<=o:=sU c;refine cP JW hlen ?_;have hd:decide (0<=o/\o < (S.ae.length:Int))=decide (o < (S.ae.length:Int)):=decide_eq_decide.2 ⟨fun h=>h.2,fun h=>⟨c,h⟩⟩;rw [hd];exact ⟨_,ax,rfl⟩
 ·have c:¬ 0<=o:=sU c;rw [show decide (0<=o/\o < (S.ae.length:Int))=false from decide_eq_false (fun h=>c h.1)];exact ⟨_,ax,rfl⟩
include hP hrS bJ BM
end
theorem shellF_567 {d:Nd} {v:Val} (c:d.ag=5∨d.ag=6∨d.ag=7):shellF d v=(decide (v.s=aq) && decide (v.k=d.ag) && decide (v.n=0) && (if d.ag=5 then decide ((v.ks.length:Int)<=d.most) else if d.ag=6 then decide (v.ks.length < 2) else decide (v.ks.length=d.aw.length))):=by
 unfold shellF;by_cases h1:v.s=aq<;>by_cases h2:v.k=d.ag<;>by_cases h3:v.n=0
 all_goals (first
  | (rw [if_neg (by rintro (h | h | h);exact h h2;exact h h1;exact h.2 h3)];rw [decide_eq_true h1,decide_eq_true h2,decide_eq_true h3];rcases c with c | c | c<;>simp [c])
  | (rw [if_pos (by first | exact .inr (.inl h1) | exact .inl h2 | exact .inr (.inr ⟨by omega,h3⟩))];simp [h1,h2,h3]))
theorem shellF_8 {d:Nd} {v:Val} (c:d.ag=8):shellF d v=if v.s≠aq∨v.k≠8∨v.n < 0∨(d.aw.length:Int)<=v.n then false else match d.aw[v.n.toNat]? with
  | none=>false
  | some e=>(decide (v.ks.length=0) == e.bare) && decide (v.ks.length < 2):=by
 unfold shellF;rw [c];by_cases h1:v.s=aq
 ·by_cases h2:v.k=8
  ·rw [if_neg (by rintro (h | h | h);exact h h2;exact h h1;exact h.1 rfl),if_neg (by decide),if_neg (by decide),if_neg (by decide)];by_cases h3:v.n < 0∨(d.aw.length:Int)<=v.n
   ·rw [if_pos h3,if_pos (.inr (.inr h3))]
   ·rw [if_neg h3,if_neg (by rintro (h | h | h);exact h h1;exact h h2;exact h3 h)]
    cases d.aw[v.n.toNat]? with
    | none=>rfl
    | some e=>
     simp only
     have key:∀ m:Nat,(if e.bare=true then decide (m=0) else decide (m=1))=((decide (m=0) == e.bare) && decide (m < 2)):=fun m=>by
      cases e.bare<;>(match m with
       | 0=>rfl
       | 1=>rfl
       | m + 2=>simp)
     exact key _
  ·rw [if_pos (.inl h2),if_pos (.inr (.inl h2))]
 ·rw [if_pos (.inr (.inl h1)),if_pos (.inl h1)]
theorem EP (d:Nd) (v:Val) (h5:5<=d.ag) (h8:d.ag<=8) (jk:d.aw.length<=1099511627776) (hv:v.wt<=1099511627776):EvP prog 145 [.agg (jc d),.agg (aM v)] (.v (.bool (shellF d v))):=by
 have hA:=fun c=>shellF_567 (d:=d) (v:=v) c;have hB:=fun c=>shellF_8 (d:=d) (v:=v) c;have X5:d.ag=5->shellF d v=(decide (v.s=aq) && decide (v.k=5) && decide (v.n=0) && decide ((v.ks.length:Int)<=d.most)):=fun c=>by rw [hA (.inl c),if_pos c,c]
 have X6:d.ag=6->shellF d v=(decide (v.s=aq) && decide (v.k=6) && decide (v.n=0) && decide (v.ks.length < 2)):=fun c=>by rw [hA (.inr (.inl c)),if_neg (by omega),if_pos c,c]
 have X7:d.ag=7->shellF d v=(decide (v.s=aq) && decide (v.k=7) && decide (v.n=0) && decide (v.ks.length=d.aw.length)):=fun c=>by rw [hA (.inr (.inr c)),if_neg (by omega),if_neg (by omega),c]
 have hB1:d.ag=8->(v.s≠aq∨v.k≠8∨v.n < 0∨(d.aw.length:Int)<=v.n)->shellF d v=false:=fun c h=>by rw [hB c,if_pos h]
 have hB2:d.ag=8->¬ (v.s≠aq∨v.k≠8∨v.n < 0∨(d.aw.length:Int)<=v.n)->∀ e,d.aw[v.n.toNat]? = some e->shellF d v=((decide (v.ks.length=0) == e.bare) && decide (v.ks.length < 2)):=fun c h e he=>by rw [hB c,if_neg h,he]
 clear hA hB;generalize shellF d v=B at X5 X6 X7 hB1 hB2 ⊢;obtain ⟨ag,aD,lo,hi,most,X4,es⟩:=d;obtain ⟨k,z,s,ks⟩:=v;simp only [Val.k,Val.n,Val.s,Val.ks] at X5 X6 X7 hB1 hB2 h5 h8 jk;have j1:=bZ es;have cu:=bo ks;refine eG 111 [.tmp 4] func145 rfl ntmps145 rfl fun _ _ _ _=>?_;refine br ?_ ?_<;>intro c
 ·have c:ag=5:=sU c;subst c;rw [X5 rfl];refine (congrArg (fun b=>DV.v (.bool b)) ?_:_=_);simp only [pickB_and,cu];rfl
 have c5:¬ ag=5:=sU c;refine br ?_ ?_<;>intro c
 ·have c:ag=6:=sU c;subst c;rw [X6 rfl];refine (congrArg (fun b=>DV.v (.bool b)) ?_:_=_);simp only [pickB_and,cu];rw [show decide ((ks.length:Int)<=1)=decide (ks.length < 2) from decide_eq_decide.2 ⟨fun h=>by omega,fun h=>by omega⟩];rfl
 have c6:¬ ag=6:=sU c;refine br ?_ ?_<;>intro c
 ·have c:ag=7:=sU c;subst c;rw [X7 rfl];refine (congrArg (fun b=>DV.v (.bool b)) ?_:_=_);simp only [pickB_and,cu,j1];rw [show decide ((ks.length:Int)=es.length)=decide (ks.length=es.length) from decide_eq_decide.2 ⟨fun h=>by omega,fun h=>by omega⟩];rfl
 have c7:¬ ag=7:=sU c;refine br ?_ ?_<;>intro c
 ·have c:s≠aq∨k≠8∨z < 0∨(es.length:Int)<=z:=by
   simp [ap,j1] at c;rcases c with ((c | c) | c) | c
   ·exact .inl c
   ·exact .inr (.inl c)
   ·exact .inr (.inr (.inl c))
   ·exact .inr (.inr (.inr c))
  rw [hB1 (by omega) c];exact (rfl:_=_)
 ·have c:¬ (s≠aq∨k≠8∨z < 0∨(es.length:Int)<=z):=by
   simp [ap,j1] at c;rintro (h | h | h | h)
   ·exact h c.1.1.1
   ·exact h c.1.1.2
   ·omega
   ·omega
  obtain ⟨e,he⟩:∃ e,es[z.toNat]? = some e:=⟨_,gE (by omega)⟩;rw [hB2 (by omega) c e he];obtain ⟨en,eb,ea,et,xS,ew,kL,x5,x6,tp⟩:=e;refine dI ?_;refine iX (bm he) ?_;refine (congrArg (fun b=>DV.v (.bool b)) ?_:_=_);simp only [pickB_and,cu];rw [show decide ((ks.length:Int)=0)=decide (ks.length=0) from decide_eq_decide.2 ⟨fun h=>by omega,fun h=>by omega⟩,show decide ((ks.length:Int) < 2)=decide (ks.length < 2) from decide_eq_decide.2 ⟨fun h=>by omega,fun h=>by omega⟩];rfl
theorem gY (v:Val) (k n:Int) (s:ByteArray):EvP prog 96 [.agg (aM v),.v (.int .i64 k),.v (.int .i64 n),.v (.string s)] (.v (.bool (cm v k n s))):=by
 obtain ⟨q,z,t,ks⟩:=v;have cu:=bo ks;refine eG 31 [.tmp 8] func96 rfl ntmps96 rfl fun _ _ _ _=>?_;refine (congrArg (fun b=>DV.v (.bool b)) ?_:_=_);unfold cm;simp only [pickB_and,cu];rw [show decide ((ks.length:Int)=0)=decide (ks.length=0) from decide_eq_decide.2 ⟨fun h=>by omega,fun h=>by omega⟩];rfl
theorem BR (d:Nd) (v:Val) (h5:5<=d.ag) (h8:d.ag<=8) (jk:d.aw.length<=1099511627776) (hv:v.wt<=1099511627776):EvP prog 95 [.agg (jc d),.agg (aM v)] (.v (.bool (shellF d v))):=by
 have hS:shellF d v=if v.k≠d.ag∨v.s≠aq∨(d.ag≠8/\v.n≠0) then false
  else if d.ag=5 then decide ((v.ks.length:Int)<=d.most)
  else if d.ag=6 then decide (v.ks.length < 2)
  else if d.ag=7 then decide (v.ks.length=d.aw.length)
  else if v.n < 0∨(d.aw.length:Int)<=v.n then false
  else match d.aw[v.n.toNat]? with
   | none=>false
   | some e=>if e.bare=true then decide (v.ks.length=0) else decide (v.ks.length=1):=rfl
 generalize shellF d v=B at hS ⊢;have hA0:(v.k≠d.ag∨v.s≠aq∨(d.ag≠8/\v.n≠0))->B=false:=fun h=>by rw [hS,if_pos h]
 have X5:¬ (v.k≠d.ag∨v.s≠aq∨(d.ag≠8/\v.n≠0))->d.ag=5->B=decide ((v.ks.length:Int)<=d.most):=fun h c=>by rw [hS,if_neg h,if_pos c]
 have X6:¬ (v.k≠d.ag∨v.s≠aq∨(d.ag≠8/\v.n≠0))->d.ag=6->B=decide (v.ks.length < 2):=fun h c=>by rw [hS,if_neg h,if_neg (by omega),if_pos c]
 have X7:¬ (v.k≠d.ag∨v.s≠aq∨(d.ag≠8/\v.n≠0))->d.ag=7->B=decide (v.ks.length=d.aw.length):=fun h c=>by rw [hS,if_neg h,if_neg (by omega),if_neg (by omega),if_pos c]
 have hA8:¬ (v.k≠d.ag∨v.s≠aq∨(d.ag≠8/\v.n≠0))->d.ag=8->(v.n < 0∨(d.aw.length:Int)<=v.n)->B=false:=fun h c g=>by rw [hS,if_neg h,if_neg (by omega),if_neg (by omega),if_neg (by omega),if_pos g]
 have hA9:¬ (v.k≠d.ag∨v.s≠aq∨(d.ag≠8/\v.n≠0))->d.ag=8->¬ (v.n < 0∨(d.aw.length:Int)<=v.n)->∀ e,d.aw[v.n.toNat]? = some e->B=if e.bare=true then decide (v.ks.length=0) else decide (v.ks.length=1):=fun h c g e he=>by rw [hS,if_neg h,if_neg (by omega),if_neg (by omega),if_neg (by omega),if_neg g,he]
 clear hS;obtain ⟨ag,aD,lo,hi,most,X4,es⟩:=d;obtain ⟨k,z,s,ks⟩:=v;simp only [Val.k,Val.n,Val.s,Val.ks] at hA0 X5 X6 X7 hA8 hA9 h5 h8 jk;have j1:=bZ es;have cu:=bo ks;refine eG 77 [.tmp 4] func95 rfl ntmps95 rfl fun _ _ _ _=>?_;refine br ?_ ?_<;>intro c
 ·have c:k≠ag∨s≠aq∨(ag≠8/\z≠0):=by
   simp [ap,pickB_and] at c;rcases c with (c | c) | c
   ·exact .inl c
   ·exact .inr (.inl c)
   ·exact .inr (.inr c)
  rw [hA0 c];exact (rfl:_=_)
 have eS:¬ (k≠ag∨s≠aq∨(ag≠8/\z≠0)):=by
  simp [ap,pickB_and] at c;rintro (h | h | h)
  ·exact h c.1.1
  ·exact h c.1.2
  ·exact h.2 (c.2 h.1)
 refine br ?_ ?_<;>intro c
 ·have c:ag=5:=sU c;rw [X5 eS c];refine (congrArg (fun b=>DV.v (.bool b)) ?_:_=_);simp only [cu];exact decide_eq_decide.2 Iff.rfl
 have c5:¬ ag=5:=sU c;refine br ?_ ?_<;>intro c
 ·have c:ag=6:=sU c;rw [X6 eS c];refine (congrArg (fun b=>DV.v (.bool b)) ?_:_=_);simp only [cu];exact decide_eq_decide.2 ⟨fun h=>by omega,fun h=>by omega⟩
 have c6:¬ ag=6:=sU c;refine br ?_ ?_<;>intro c
 ·have c:ag=7:=sU c;rw [X7 eS c];refine (congrArg (fun b=>DV.v (.bool b)) ?_:_=_);simp only [cu,j1];exact decide_eq_decide.2 ⟨fun h=>by omega,fun h=>by omega⟩
 have c7:¬ ag=7:=sU c;refine br ?_ ?_<;>intro c
 ·have c:z < 0∨(es.length:Int)<=z:=by simpa [ap,j1] using c
  rw [hA8 eS (by omega) c];exact (rfl:_=_)
 have c:¬ (z < 0∨(es.length:Int)<=z):=by simpa [ap,j1] using c
 obtain ⟨e,he⟩:∃ e,es[z.toNat]? = some e:=⟨_,gE (by omega)⟩;rw [hA9 eS (by omega) c e he];refine iX (bm he) ?_;obtain ⟨en,eb,ea,et,xS,ew,kL,x5,x6,tp⟩:=e
 cases eb with
 | true=>
  refine (congrArg (fun b=>DV.v (.bool b)) ?_:_=_);simp only [cu,reduceIte];exact decide_eq_decide.2 ⟨fun h=>by omega,fun h=>by omega⟩
 | false=>
  refine (congrArg (fun b=>DV.v (.bool b)) ?_:_=_);simp only [cu];rw [if_neg (by simp)];exact decide_eq_decide.2 ⟨fun h=>by omega,fun h=>by omega⟩
theorem jZ {v:Val} {k n:Int} {s:ByteArray} (h:0 < v.ks.length):cm v k n s=false:=by
 unfold cm;rw [decide_eq_false (show ¬ v.ks.length=0 by omega),Bool.and_false]
theorem tmod_zero {z u:Int} (hu:1<=u):z.tmod u=0↔z % u=0:=by
 rw [<- Int.dvd_iff_tmod_eq_zero,<- Int.dvd_iff_emod_eq_zero]
theorem Hy {z u:Int} (hz : -9223372036854775808<=z) (hu:1<=u):((bH z u).2 && decide ((bH z u).1=z))=decide (z % u=0):=by
 rw [PI hu];have h1:=Int.emod_nonneg z (b:=u) (by omega);by_cases c:z - z % u < -9223372036854775808
 ·rw [if_pos c,decide_eq_false (show ¬ z % u=0 by omega)];rfl
 ·rw [if_neg c];show (true && decide (z - z % u=z))=_;rw [Bool.true_and];exact decide_eq_decide.2 ⟨fun h=>by omega,fun h=>by omega⟩
theorem mayF_1 {e:Ed} {d:Nd} {v:Val} (c:e.ck=1/\d.ag=2):iH e d v=if cm v 9 e.wide aq=true then !(bH d.lo e.cn).2
  else cm v 10 v.n aq && decide (v.n % e.cn=0) && (bH d.hi e.cn).2 && decide (v.n<=(bH d.hi e.cn).1) && (!(bH d.lo e.cn).2 || decide ((bH d.lo e.cn).1<=v.n)):=by
 unfold iH;rw [if_pos c]
theorem mayF_2 {e:Ed} {d:Nd} {v:Val} (c:e.ck=2/\d.ag=3):iH e d v=(cm v 11 0 v.s && decide ((v.s.size:Int)<=d.most) && decide (headL e.cn.toNat (tx v.s)=tx v.s)):=by
 unfold iH;rw [if_neg (by omega),if_pos c]
theorem mayF_3 {e:Ed} {d:Nd} {v:Val} (c:e.ck=3/\d.ag=5):iH e d v=(cm v 12 v.n aq && decide (0<=v.n) && decide (v.n<=d.most)):=by
 unfold iH;rw [if_neg (by omega),if_neg (by omega),if_pos c]
theorem mayF_0 {e:Ed} {d:Nd} {v:Val} (c1:¬ (e.ck=1/\d.ag=2)) (c2:¬ (e.ck=2/\d.ag=3)) (c3:¬ (e.ck=3/\d.ag=5)):iH e d v=cm v 9 e.wide aq:=by
 unfold iH;rw [if_neg c1,if_neg c2,if_neg c3]
theorem Qi {e:Ed} {d:Nd} {v:Val} (h:0 < v.ks.length):iH e d v=false:=by
 by_cases c1:e.ck=1/\d.ag=2
 ·rw [mayF_1 c1,jZ h,jZ h,if_neg (by simp)];rfl
 by_cases c2:e.ck=2/\d.ag=3
 ·rw [mayF_2 c2,jZ h];rfl
 by_cases c3:e.ck=3/\d.ag=5
 ·rw [mayF_3 c3,jZ h];rfl
 rw [mayF_0 c1 c2 c3,jZ h]
theorem nF {v:Val} {k n:Int} {s:ByteArray} (h:v.ks=[]):cm v k n s=(decide (v.k=k) && decide (v.n=n) && decide (v.s=s)):=by
 unfold cm;rw [h];exact Bool.and_true _
theorem mayF_9 {e:Ed} {d:Nd} {v:Val} (c:e.ck=1/\d.ag=2) (Jk:v.ks=[]) (h:v.k=9):iH e d v=(!(bH d.lo e.cn).2 && decide (v.n=e.wide) && decide (v.s=aq)):=by
 rw [mayF_1 c,nF Jk,nF Jk,h];by_cases h1:v.n=e.wide<;>by_cases h2:v.s=aq<;>simp [h1,h2]
theorem mayF_10 {e:Ed} {d:Nd} {v:Val} (c:e.ck=1/\d.ag=2) (Jk:v.ks=[]) (h:¬ v.k=9) (hn : -9223372036854775808<=v.n) (S1:1<=e.cn) :
  iH e d v=(decide (v.k=10) && decide (v.s=aq) && (bH v.n e.cn).2 && decide ((bH v.n e.cn).1=v.n) && (bH d.hi e.cn).2 && (!(bH d.lo e.cn).2 || decide ((bH d.lo e.cn).1<=v.n)) && decide (v.n<=(bH d.hi e.cn).1)):=by
 rw [mayF_1 c,nF Jk,nF Jk,decide_eq_false h,<- Hy hn S1];generalize (bH v.n e.cn).2=b1;generalize decide ((bH v.n e.cn).1=v.n)=b2;generalize (bH d.hi e.cn).2=b3;generalize decide (v.n<=(bH d.hi e.cn).1)=b4;generalize (!(bH d.lo e.cn).2 || decide ((bH d.lo e.cn).1<=v.n))=b5;generalize decide (v.k=10)=b6;generalize decide (v.s=aq)=b7;rw [show decide (v.n=v.n)=true from decide_eq_true rfl];cases b1<;>cases b2<;>cases b3<;>cases b4<;>cases b5<;>cases b6<;>cases b7<;>rfl
theorem BS (e:Ed) (d:Nd) (v:Val) (Jk:v.ks=[]) (W8:e.ck=1/\d.ag=2) (S1:1<=e.cn) (hn : -9223372036854775808<=v.n/\v.n<=9223372036854775807) (hlo : -9223372036854775808<=d.lo/\d.lo<=9223372036854775807) (oi : -9223372036854775808<=d.hi/\d.hi<=9223372036854775807) (hc : -9223372036854775808<=e.cn/\e.cn<=9223372036854775807) :
  EvP prog 190 [.agg (tP e),.agg (jc d),.agg (aM v)] (.v (.bool (iH e d v))):=by
 have h1:=ph d.lo e.cn hlo hc;have h2:=ph v.n e.cn hn hc;have h3:=ph d.hi e.cn oi hc;have fH:=mayF_9 W8 Jk;have q6:=fun h=>mayF_10 W8 Jk h hn.1 S1;generalize iH e d v=B at fH q6 ⊢;unfold Bq at h1 h2 h3;generalize bH d.lo e.cn=L at h1 fH q6;generalize bH v.n e.cn=M at h2 q6;generalize bH d.hi e.cn=H at h3 q6;obtain ⟨L1,L2⟩:=L;obtain ⟨M1,M2⟩:=M;obtain ⟨H1,H2⟩:=H;obtain ⟨q,z,s,ks⟩:=v;obtain ⟨en,eb,ea,et,xS,ew,kL,x5,x6,tp⟩:=e;obtain ⟨ag,aD,lo,hi,most,X4,es⟩:=d;refine eG 90 [.tmp 6] func190 rfl ntmps190 rfl fun _ _ _ _=>?_;refine cP MQ h1 ?_;refine br ?_ ?_<;>intro c
 ·have c:q=9:=sU c;rw [fH c];refine (congrArg (fun b=>DV.v (.bool b)) ?_:_=_);simp only [pickB_and];rfl
 ·have c:¬ q=9:=sU c;rw [q6 c];refine cP MQ h2 ?_;refine cP MQ h3 ?_;refine (congrArg (fun b=>DV.v (.bool b)) ?_:_=_);simp only [pickB_and,ap];rfl
theorem Af (e:Ed) (d:Nd) (v:Val) (S1:e.ck=1->1<=e.cn) (hn : -9223372036854775808<=v.n/\v.n<=9223372036854775807) (hlo : -9223372036854775808<=d.lo/\d.lo<=9223372036854775807) (oi : -9223372036854775808<=d.hi/\d.hi<=9223372036854775807) (hc : -9223372036854775808<=e.cn/\e.cn<=9223372036854775807) (hv:v.wt<=1099511627776) :
  EvP prog 146 [.agg (tP e),.agg (jc d),.agg (aM v)] (.v (.bool (iH e d v))):=by
 have Mm:=fun Jk W8=>BS e d v Jk W8 (S1 W8.1) hn hlo oi hc
 have bJ:v.s.size<=1099511627776/\v.ks.length<=1099511627776:=by
  obtain ⟨k,n,s,ks⟩:=v;have:=dc ks;rw [Val.wt] at hv;exact ⟨by show s.size<=_;omega,by show ks.length<=_;omega⟩
 have hh:=Hw v.s bJ.1 e.cn hc.2;have hlen:=fun h=>Qi (e:=e) (d:=d) (v:=v) h;have q6:=fun c=>mayF_2 (e:=e) (d:=d) (v:=v) c;have UC:=fun c=>mayF_3 (e:=e) (d:=d) (v:=v) c;have jG:=fun a b c=>mayF_0 (e:=e) (d:=d) (v:=v) a b c;have hpl:=fun k n s h=>nF (v:=v) (k:=k) (n:=n) (s:=s) h;generalize iH e d v=B at Mm hlen q6 UC jG ⊢
 have Xc:(e.ck=2/\d.ag=3)->v.ks=[]->B=(decide (v.k=11) && decide (v.n=0) && decide ((v.s.size:Int)<=d.most) && decide (headL e.cn.toNat (tx v.s)=tx v.s)):=fun c h=>by
  rw [q6 c,hpl _ _ _ h,show decide (v.s=v.s)=true from decide_eq_true rfl,Bool.and_true]
 have abN:(e.ck=3/\d.ag=5)->v.ks=[]->B=(decide (v.k=12) && decide (v.s=aq) && decide (0<=v.n) && decide (v.n<=d.most)):=fun c h=>by
  rw [UC c,hpl _ _ _ h,show decide (v.n=v.n)=true from decide_eq_true rfl,Bool.and_true]
 have tK:¬ (e.ck=1/\d.ag=2)->¬ (e.ck=2/\d.ag=3)->¬ (e.ck=3/\d.ag=5)->v.ks=[]->B=(decide (v.k=9) && decide (v.n=e.wide) && decide (v.s=aq)):=fun a b c h=>by
  rw [jG a b c,hpl _ _ _ h]
 clear q6 UC jG hpl;generalize headL e.cn.toNat (tx v.s)=HD at hh Xc;obtain ⟨q,z,s,ks⟩:=v;simp only [Val.ks,Val.s] at Mm hlen Xc abN tK hh bJ;have cu:=bo ks;obtain ⟨en,eb,ea,et,xS,ew,kL,x5,x6,tp⟩:=e;obtain ⟨ag,aD,lo,hi,most,X4,es⟩:=d;refine eG 104 [.tmp 6] func146 rfl ntmps146 rfl fun _ _ _ _=>?_;refine br ?_ ?_<;>intro c
 ·have c:0 < ks.length:=sV cu c;rw [hlen c];exact (rfl:_=_)
 have c0:ks=[]:=by
  have:¬ 0 < ks.length:=sV cu c;exact List.eq_nil_of_length_eq_zero (by omega)
 refine br ?_ ?_<;>intro c
 ·have c:kL=1/\ag=2:=by simpa [pickB_and] using c
  have Mm:=Mm c0 c;refine cP ZE Mm ?_;exact (rfl:_=_)
 have c1:¬ (kL=1/\ag=2):=by simpa [pickB_and] using c
 refine br ?_ ?_<;>intro c
 ·have c:kL=2/\ag=3:=by simpa [pickB_and] using c
  have hB:B=((decide (q=11) && decide (z=0) && decide ((s.size:Int)<=most)) && decide (HD=tx s)):=Xc c c0;have hbt:decide (ba HD=s)=decide (HD=tx s):=decide_eq_decide.2 ⟨fun h=>by rw [<- h,mR],fun h=>by rw [h,y7]⟩;refine dI ?_;refine br ?_ ?_<;>intro g
  ·have g:(decide (q=11) && decide (z=0) && decide ((s.size:Int)<=most))=true:=by simpa [pickB_and] using g
   rw [g,Bool.true_and] at hB;refine cD Zv hh ?_;refine (congrArg (fun b=>DV.v (.bool b)) ?_:_=_);rw [hB,<- hbt];rfl
  ·have g:(decide (q=11) && decide (z=0) && decide ((s.size:Int)<=most))=false:=by simpa [pickB_and] using g
   rw [g,Bool.false_and] at hB;rw [hB];exact (rfl:_=_)
 have c2:¬ (kL=2/\ag=3):=by simpa [pickB_and] using c
 refine br ?_ ?_<;>intro c
 ·have c:kL=3/\ag=5:=by simpa [pickB_and] using c
  rw [abN c c0];refine (congrArg (fun b=>DV.v (.bool b)) ?_:_=_);simp only [pickB_and];rfl
 have c3:¬ (kL=3/\ag=5):=by simpa [pickB_and] using c
 rw [tK c1 c2 c3 c0];refine (congrArg (fun b=>DV.v (.bool b)) ?_:_=_);simp only [pickB_and];rfl
theorem Hz (e:Ed) (d:Nd) (v:Val) (S1:e.ck=1->1<=e.cn) (hn : -9223372036854775808<=v.n/\v.n<=9223372036854775807) (hlo : -9223372036854775808<=d.lo/\d.lo<=9223372036854775807) (oi : -9223372036854775808<=d.hi/\d.hi<=9223372036854775807) (hc : -9223372036854775808<=e.cn/\e.cn<=9223372036854775807) (hv:v.wt<=1099511627776) :
  EvP prog 99 [.agg (tP e),.agg (jc d),.agg (aM v)] (.v (.bool (iH e d v))):=by
 have h1:=qL d.lo e.cn hlo hc;have h3:=qL d.hi e.cn oi hc
 have bJ:v.s.size<=1099511627776:=by
  obtain ⟨k,n,s,ks⟩:=v;rw [Val.wt] at hv;show s.size<=_;omega
 have hh:=tj e.cn.toNat v.s bJ e.cn hc.2 rfl;have hp9:=gY v 9 e.wide aq;have abO:=gY v 10 v.n aq;have abP:=gY v 11 0 v.s;have abQ:=gY v 12 v.n aq;have fH:=fun c=>mayF_1 (e:=e) (d:=d) (v:=v) c;have q6:=fun c=>mayF_2 (e:=e) (d:=d) (v:=v) c;have UC:=fun c=>mayF_3 (e:=e) (d:=d) (v:=v) c;have jG:=fun a b c=>mayF_0 (e:=e) (d:=d) (v:=v) a b c
 have hmz:e.ck=1->decide (v.n.tmod (max e.cn 1)=0)=decide (v.n % e.cn=0):=fun h=>by
  rw [show max e.cn 1=e.cn by have:=S1 h;omega];exact decide_eq_decide.2 (tmod_zero (S1 h))
 generalize iH e d v=B at fH q6 UC jG ⊢;generalize cm v 9 e.wide aq=P9 at hp9 fH jG;generalize cm v 10 v.n aq=P10 at abO fH;generalize cm v 11 0 v.s=P11 at abP q6;generalize cm v 12 v.n aq=P12 at abQ UC;unfold Bq at h1 h3;generalize bH d.lo e.cn=L at h1 fH;generalize bH d.hi e.cn=H at h3 fH;generalize headL e.cn.toNat (tx v.s)=HD at hh q6;generalize decide (v.n % e.cn=0)=MZ at fH hmz;obtain ⟨L1,L2⟩:=L;obtain ⟨H1,H2⟩:=H;obtain ⟨q,z,s,ks⟩:=v;obtain ⟨en,eb,ea,et,xS,ew,kL,x5,x6,tp⟩:=e;obtain ⟨ag,aD,lo,hi,most,X4,es⟩:=d;refine eG 131 [.tmp 6] func99 rfl ntmps99 rfl fun _ _ _ _=>?_;refine br ?_ ?_<;>intro c
 ·have c:kL=1/\ag=2:=by simpa [pickB_and] using c
  have hB:=fH c;have hmz:=hmz c.1;have rc:max x5 1≠0:=by omega
  refine cP Tz h1 ?_;refine cP Tz h3 ?_;refine cP JZ hp9 ?_
  cases P9 with
  | true=>
   rw [if_pos rfl] at hB;rw [hB];exact (rfl:_=_)
  | false=>
   rw [if_neg (by simp)] at hB;refine cP JZ abO ?_
   cases P10 with
   | true=>
    refine ⟨⟨rfl,rc⟩,?_⟩;refine (congrArg (fun b=>DV.v (.bool b)) ?_:_=_);rw [hB];simp only [pickB_and,ap];have hmz':decide (z.tmod (max x5 1)=0)=MZ:=hmz;rw [hmz'];rfl
   | false=>
    rw [hB];exact (rfl:_=_)
 have c1:¬ (kL=1/\ag=2):=by simpa [pickB_and] using c
 refine br ?_ ?_<;>intro c
 ·have c:kL=2/\ag=3:=by simpa [pickB_and] using c
  have hB:B=(P11 && decide ((s.size:Int)<=most) && decide (HD=tx s)):=q6 c;have hbt:decide (ba HD=s)=decide (HD=tx s):=decide_eq_decide.2 ⟨fun h=>by rw [<- h,mR],fun h=>by rw [h,y7]⟩;refine dI ?_;refine cD JZ abP ?_;refine br ?_ ?_<;>intro g
  ·have g:(P11 && decide ((s.size:Int)<=most))=true:=by simpa [pickB_and] using g
   rw [g,Bool.true_and] at hB;refine cD TA hh ?_;refine (congrArg (fun b=>DV.v (.bool b)) ?_:_=_);rw [hB,<- hbt];rfl
  ·have g:(P11 && decide ((s.size:Int)<=most))=false:=by simpa [pickB_and] using g
   rw [g,Bool.false_and] at hB;rw [hB];exact (rfl:_=_)
 have c2:¬ (kL=2/\ag=3):=by simpa [pickB_and] using c
 refine br ?_ ?_<;>intro c
 ·have c:kL=3/\ag=5:=by simpa [pickB_and] using c
  rw [UC c];refine cP JZ abQ ?_;refine (congrArg (fun b=>DV.v (.bool b)) ?_:_=_);simp only [pickB_and];rfl
 have c3:¬ (kL=3/\ag=5):=by simpa [pickB_and] using c
 rw [jG c1 c2 c3];refine cP JZ hp9 ?_;exact (rfl:_=_)
def edW (w:Int):Ed:=⟨aq,false,0,0,0,w,0,0,0,0⟩
theorem Xd (w:Int) (d:Nd) (v:Val):iH (edW w) d v=cm v 9 w aq:=by
 rw [mayF_0 (by rintro ⟨h,_⟩;cases h) (by rintro ⟨h,_⟩;cases h) (by rintro ⟨h,_⟩;cases h)];rfl
theorem xY {N:Nat} {ND:List Nd} {d:Nd} (hN:dB N ND.length d) {v:Val} (h:shellF d v=true) (c:d.ag=8) {m:Nat} (hm:m < v.ks.length):(0<=v.n/\v.n < d.aw.length)/\m=0:=by
 rw [shellF_8 c] at h;split at h
 ·cases h
 rename_i hc;have h1:¬ v.n < 0:=fun g=>hc (.inr (.inr (.inl g)));have h2:¬ (d.aw.length:Int)<=v.n:=fun g=>hc (.inr (.inr (.inr g)));split at h
 ·cases h
 ·rw [Bool.and_eq_true,decide_eq_true_iff] at h;have:=h.2;omega
def HA (ND:List Nd) (f:Nat->Nat->Bool) (L b9:Nat) (d:Nd) (e:Ed) (a:Nat) (x:Val):Bool:=if sx f L b9 d e a=2 then seeV ND f L b9 x e.to (mr f L d e a) else if sx f L b9 d e a=1 then (match cS ND e.to with | none=>false | some t=>iH e t x) else cm x 9 e.wide aq
theorem Ag {ND:List Nd} {f:Nat->Nat->Bool} {L b9:Nat} {ks:List Val} {d:Nd} {z:Int} {a j m:Nat} {x:Val} {e:Ed} (h:ks[m]? = some x) (he:cd d z j=some e):seeVs ND f L b9 (ks.drop m) d z a j=(HA ND f L b9 d e a x && seeVs ND f L b9 (ks.drop (m + 1)) d z a (j + 1)):=by
 rw [Hb h,he];rfl
abbrev HB (PC LC:List DV) (b9 a:Nat) (v:Val) (d:Nd) (e:Nat):St:=
 ⟨[(2,⟨[],.v (.int .i64 a)⟩),(4,⟨[],.loc 0 0⟩),(7,⟨[],.loc 1 0⟩),(9,⟨[],.loc 2 0⟩),(38,⟨[],.sl 4 (dVals v.ks) none⟩),(39,⟨[],.v (.int .i64 (dVals v.ks).length)⟩),(40,⟨[],.v (.int .i64 e)⟩)],[X3 PC LC b9,aM v,jc d],[]⟩
theorem tw {S:Sch} {ND:List Nd} {PC LC:List DV} (hP:fN S ND PC) (hR:Lk S.ae.length (bK S) (ay S.ae) LC) (KR:∀ n∈ND,EI n) (bJ:∀ n∈ND,n.aw.length<=1099511627776) (b9:Nat) (ho:b9 < S.ae.length) :
  ∀ (k:Nat) (v:Val),v.wt<=k->v.wt<=1099511627776->rngW v->∀ (i a:Nat),a < S.ae.length->i < ND.length ->
   EvP prog 88 [.agg (X3 PC LC b9),.v (.int .i64 i),.v (.int .i64 a),.agg (aM v)] (.v (.bool (seeV ND (bK S) S.ae.length b9 v i a)))
 | 0,v,h,_=>by have:=v.dh;omega
 | k + 1,v,h,hb=>fun hr i a ha hi=>by
  have ih:=tw hP hR KR bJ b9 ho k;have hL:=hR.ok;obtain ⟨d,hg⟩:∃ d,ND[i]? = some d:=⟨_,gE hi⟩
  have hnd:cS ND (i:Int)=some d:=by
   unfold cS;rw [if_neg (by omega),Int.toNat_natCast,hg]
  have mj:=mG hg;have hN:=hP.ok d mj;have ey:=hP.aj i d hg;have Qj:=bJ d mj;have Xe:=KR d mj;have L3:=xB hP _ v (Nat.le_refl _) hb i;have L4:=fun h5=>EP d v h5 hN.k8 Qj hb;have HC:=fun h5 hs m hm=>sy hN h5 (v:=v) hs (m:=m) hm;have HE:=fun hs c m hm=>xY hN (v:=v) hs c (m:=m) hm
  have hV:seeV ND (bK S) S.ae.length b9 v i a=if d.ag < 5 then fitV ND v i else shellF d v && seeVs ND (bK S) S.ae.length b9 v.ks d v.n a 0:=by
   obtain ⟨q,z,s,ks⟩:=v;rw [seeV,hnd];rfl
  have Xf:d.ag < 5->seeV ND (bK S) S.ae.length b9 v i a=fitV ND v i:=fun c=>by rw [hV,if_pos c]
  have BT:¬ d.ag < 5->seeV ND (bK S) S.ae.length b9 v i a=(shellF d v && seeVs ND (bK S) S.ae.length b9 v.ks d v.n a 0):=fun c=>by rw [hV,if_neg c]
  clear hV;generalize seeV ND (bK S) S.ae.length b9 v i a=B at Xf BT ⊢;generalize fitV ND v i=F at L3 Xf;generalize shellF d v=SH at L4 HC HE BT;obtain ⟨vk,vn,vs,ks⟩:=v;have jm:=dc ks;have cu:=bo ks;rw [Val.wt] at h hb;have hrk:=Jr hr;simp only [Val.ks,Val.n] at BT hrk HC HE;obtain ⟨ag,aD,lo,dF,most,af,es⟩:=d;refine eG 90 [.tmp 8] func88 rfl ntmps88 rfl fun _ _ _ _=>?_;refine cP va ey ?_;refine br ?_ ?_<;>intro c
  ·have c:ag < 5:=sU c;rw [Xf c];refine cP YY L3 ?_;exact (rfl:_=_)
  have c5:¬ ag < 5:=sU c;have BT:=BT c5;have h5:5<=ag:=by omega
  have L4:=L4 h5;refine cP Zr L4 ?_
  cases SH with
  | false=>
   rw [Bool.false_and] at BT;rw [BT];exact (rfl:_=_)
  | true=>
   rw [Bool.true_and] at BT;refine lI (fun t st=>∃ e:Nat,st=HB PC LC b9 a (.mk vk vn vs ks) ⟨ag,aD,lo,dF,most,af,es⟩ e/\e<=ks.length/\B=seeVs ND (bK S) S.ae.length b9 (ks.drop e) ⟨ag,aD,lo,dF,most,af,es⟩ vn a e/\t=ks.length - e) ⟨0,rfl,by omega,BT,rfl⟩ (az 3 rfl wA0 rfl rfl rfl wB0) ?_;rintro t st ⟨e,rfl,he,hE,rfl⟩;refine br ?_ ?_<;>intro eX
   ·have au:e < ks.length:=by simpa [cu,Val.ks] using eX
    obtain ⟨x,hx⟩:=gX au;obtain ⟨ed,hK⟩:=HC h5 rfl e au;have hm:=mG hx;have QM:=cE hm;have hrx:=oc hrk hm;obtain ⟨h1,t2,h2⟩:=PH hN hK.mem hK.bare;obtain ⟨_,B3⟩:=dt h2;have eZ:=(gS B3).1;have jz:ed.to=(ed.to.toNat:Nat):=by omega
    have HF:=KR t2 (mG B3);have Qk:=hP.aj ed.to.toNat t2 B3;rw [<- jz] at Qk;rw [Ag hx hK.mY] at hE;have oD:=Hv hR PC b9 a ha ⟨ag,aD,lo,dF,most,af,es⟩ (.mk vk vn vs ks) e ed hK.mY hK.mem hN h5 (fun c=>HE rfl c e au) Qj;have hU:=Jn hL hN hK.mem ha;have Ql:=xW hR PC b9 (mr (bK S) S.ae.length ⟨ag,aD,lo,dF,most,af,es⟩ ed a) ho hU;have hco:=xX hR PC b9 a ho ha ⟨ag,aD,lo,dF,most,af,es⟩ ed hN hK.mem;have Xg:=Xe.2.2 ed hK.mem;have Xh:=(hN.mY ed hK.mem).cn.2.1;have Qm:=Af ed t2 x Xh (Hh hrx) HF.1 HF.2.1 Xg (by omega);have Qn:=Af (edW ed.wide) t2 x (fun h=>by cases h) (Hh hrx) HF.1 HF.2.1 ⟨by show (-9223372036854775808:Int)<=0;decide,by show (0:Int)<=9223372036854775807;decide⟩ (by omega);rw [Xd] at Qn;have jd:=ih x (by omega) (by omega) hrx ed.to.toNat (mr (bK S) S.ae.length ⟨ag,aD,lo,dF,most,af,es⟩ ed a) hU eZ;rw [<- jz] at jd
    have q4:HA ND (bK S) S.ae.length b9 ⟨ag,aD,lo,dF,most,af,es⟩ ed a x=if bK S (mr (bK S) S.ae.length ⟨ag,aD,lo,dF,most,af,es⟩ ed a) b9=true then seeV ND (bK S) S.ae.length b9 x ed.to (mr (bK S) S.ae.length ⟨ag,aD,lo,dF,most,af,es⟩ ed a) else if (decide (ed.ck≠0) && bK S (ta (bK S) S.ae.length a ed.seen.toNat) b9)=true then iH ed t2 x else cm x 9 ed.wide aq:=by
     unfold HA;rw [SE,h2];by_cases g1:bK S (mr (bK S) S.ae.length ⟨ag,aD,lo,dF,most,af,es⟩ ed a) b9=true
     ·simp only [if_pos g1,reduceIte]
     ·by_cases g2:ed.ck≠0/\bK S (ta (bK S) S.ae.length a ed.seen.toNat) b9=true
      ·simp only [if_neg g1,if_pos g2,reduceIte];rw [if_neg (by decide),if_pos (by rw [decide_eq_true g2.1,g2.2];rfl)]
      ·simp only [if_neg g1,if_neg g2]
       rw [if_neg (by decide),if_neg (by decide),if_neg (by
        intro h;rw [Bool.and_eq_true,decide_eq_true_iff] at h
        exact g2 h)]
    generalize HA ND (bK S) S.ae.length b9 ⟨ag,aD,lo,dF,most,af,es⟩ ed a x=KS at hE q4;generalize mr (bK S) S.ae.length ⟨ag,aD,lo,dF,most,af,es⟩ ed a=U at oD Ql jd q4;generalize bK S U b9=b1 at Ql q4;generalize (decide (ed.ck≠0) && bK S (ta (bK S) S.ae.length a ed.seen.toNat) b9)=b2 at hco q4;generalize seeV ND (bK S) S.ae.length b9 x ed.to U=R1 at jd q4;generalize iH ed t2 x=R2 at Qm q4;generalize cm x 9 ed.wide aq=R3 at Qn q4;have sa:KS=false->B=false:=fun h=>by rw [hE,h,Bool.false_and]
    have mw:KS=true->∃ j',j' < ks.length - e/\∃ e',HB PC LC b9 a (.mk vk vn vs ks) ⟨ag,aD,lo,dF,most,af,es⟩ (e + 1)=HB PC LC b9 a (.mk vk vn vs ks) ⟨ag,aD,lo,dF,most,af,es⟩ e' /\ e' <= ks.length/\B=seeVs ND (bK S) S.ae.length b9 (ks.drop e') ⟨ag,aD,lo,dF,most,af,es⟩ vn a e' /\ j'=ks.length - e':=fun h=>⟨ks.length - (e + 1),by omega,e + 1,rfl,by omega,by rw [hE,h,Bool.true_and],rfl⟩;obtain ⟨xk,xn,xs,S2⟩:=x;obtain ⟨en,eb,ea,et,xS,ew,kL,x5,x6,tp⟩:=ed;obtain ⟨kind2,at2,lo2,sI,most2,afC,es2⟩:=t2;clear hE;refine iX (bf hx) ?_;refine cP Zf oD ?_;refine cP va Qk ?_;refine cP Tl Ql ?_
    cases b1 with
    | true=>
     refine cP Y8 jd ?_
     cases R1 with
     | false=>
      have hB:=sa (by rw [q4];rfl);rw [hB];exact (rfl:_=_)
     | true=>
      obtain ⟨j',g1,g2⟩:=mw (by rw [q4];rfl);exact ⟨HB PC LC b9 a (.mk vk vn vs ks) ⟨ag,aD,lo,dF,most,af,es⟩ (e + 1),(az 3 rfl (wA1 (nxt au (by omega))) rfl rfl rfl (wB1 (nxt au (by omega)))),j',g1,g2⟩
    | false=>
     refine cP Zg hco ?_
     cases b2 with
     | true=>
      refine cP Tu Qm ?_
      cases R2 with
      | false=>
       have hB:=sa (by rw [q4];rfl);rw [hB];exact (rfl:_=_)
      | true=>
       obtain ⟨j',g1,g2⟩:=mw (by rw [q4];rfl);exact ⟨HB PC LC b9 a (.mk vk vn vs ks) ⟨ag,aD,lo,dF,most,af,es⟩ (e + 1),(az 3 rfl (wA1 (nxt au (by omega))) rfl rfl rfl (wB1 (nxt au (by omega)))),j',g1,g2⟩
     | false=>
      refine cP Tu Qn ?_
      cases R3 with
      | false=>
       have hB:=sa (by rw [q4];rfl);rw [hB];exact (rfl:_=_)
      | true=>
       obtain ⟨j',g1,g2⟩:=mw (by rw [q4];rfl);exact ⟨HB PC LC b9 a (.mk vk vn vs ks) ⟨ag,aD,lo,dF,most,af,es⟩ (e + 1),(az 3 rfl (wA1 (nxt au (by omega))) rfl rfl rfl (wB1 (nxt au (by omega)))),j',g1,g2⟩
   ·have aN:e=ks.length:=by have:=eX;simp [cu,Val.ks] at this;omega
    subst aN;rw [List.drop_length,seeVs] at hE;rw [hE];exact (rfl:_=_)
def yw (ND:List Nd) (f:Nat->Nat->Bool) (n rt:Nat) (o:Int) (v:Val):Bool:=decide (0<=o/\o < n) && seeV ND f n o.toNat v rt (ov f n)
theorem kr {S:Sch} {ND:List Nd} {PC LC:List DV} (hP:fN S ND PC) (k0:EvP prog 56 [.pt PC 0] (.pt LC 0)) (hR:Lk S.ae.length (bK S) (ay S.ae) LC) (hrS:∀ n∈ND,EI n) (bJ:∀ n∈ND,n.aw.length<=1099511627776) (rt:Nat) (BM:dW S=rt) (gG:rt < ND.length) (o:Int) (v:Val) (hv:v.wt<=1099511627776) (Iy:rngW v) :
  EvP prog 39 [.pt PC 0,.v (.int .i64 o),.agg (aM v)] (.v (.bool (yw ND (bK S) S.ae.length rt o v))):=by
 have IX:=Hx k0 hR o;have gV:=hP.root;rw [BM] at gV;have Dj:=hR.bot;have hs:=fun (b9:Nat) (ho:b9 < S.ae.length)=>tw hP hR hrS bJ b9 ho _ v (Nat.le_refl _) hv Iy rt (ov (bK S) S.ae.length) (BE hR.ok) gG;have hS:yw ND (bK S) S.ae.length rt o v=(decide (0<=o/\o < S.ae.length) && seeV ND (bK S) S.ae.length o.toNat v rt (ov (bK S) S.ae.length)):=rfl;generalize yw ND (bK S) S.ae.length rt o v=SF at hS ⊢;by_cases ho:0<=o/\o < S.ae.length
 ·obtain ⟨ob,rfl⟩:∃ n:Nat,o=n:=⟨_,(Int.toNat_of_nonneg ho.1).symm⟩;have hs:=hs ob (by omega);rw [show decide (0<=(ob:Int)/\(ob:Int) < (S.ae.length:Int))=true from decide_eq_true ho] at IX hS;rw [Int.toNat_natCast,Bool.true_and] at hS;rw [<- hS] at hs;generalize ov (bK S) S.ae.length=bt at Dj hs;obtain ⟨k,n,s,ks⟩:=v;refine eG 26 [.tmp 6] func39 rfl ntmps39 rfl fun _ _ _ _=>?_;refine cP Vx IX ?_;refine dI ?_;refine cD Vu gV ?_;refine cD Vy Dj ?_;refine cD Y8 hs ?_;exact (rfl:_=_)
 ·rw [show decide (0<=o/\o < (S.ae.length:Int))=false from decide_eq_false ho] at IX hS;rw [Bool.false_and] at hS;rw [hS];obtain ⟨k,n,s,ks⟩:=v;refine eG 26 [.tmp 6] func39 rfl ntmps39 rfl fun _ _ _ _=>?_;refine cP Vx IX ?_;refine dI ?_;exact (rfl:_=_)
theorem LD:EvP prog 57 [.v (.pointer none)] (.v (.int .i64 0)):=by
 refine eG 10 [.tmp 2] func57 rfl ntmps57 rfl fun _ _ _ _=>?_;exact (rfl:_=_)
theorem LF (o:Int):EvP prog 52 [.v (.pointer none),.v (.int .i64 o)] (.tup [.agg [.v (.pointer none),.v (.pointer none),.v (.int .i64 o)],.v (.bool false)]):=by
 refine eG 21 [.cell 4 127,.tmp 5] func52 rfl ntmps52 rfl fun _ _ _ _=>?_;refine cP MK Ox ?_;refine br ?_ ?_<;>intro c
 ·have c:0<=o:=sU c;refine cP JW LD ?_;refine ⟨.tup [.agg [.v (.pointer none),.v (.pointer none),.v (.int .i64 o)],.v (.bool (decide (o < 0)))],ax,?_⟩;rw [show decide (o < 0)=false from decide_eq_false (by omega)]
 ·exact ⟨_,ax,rfl⟩
theorem HG (o:Int) (v:Val):EvP prog 39 [.v (.pointer none),.v (.int .i64 o),.agg (aM v)] (.v (.bool false)):=by
 have IX:=LF o;obtain ⟨k,n,s,ks⟩:=v;refine eG 26 [.tmp 6] func39 rfl ntmps39 rfl fun _ _ _ _=>?_;refine cP Vx IX ?_;refine dI ?_;exact (rfl:_=_)
abbrev px (W:List DV) (v:Val) (b9 a:Nat) (d:Nd) (e:Nat):St:=
 ⟨[(1,⟨[],.v (.int .i64 b9)⟩),(3,⟨[],.v (.int .i64 a)⟩),(5,⟨[],.loc 0 0⟩),(9,⟨[],.loc 1 0⟩),(11,⟨[],.loc 2 0⟩),(12,⟨[],.v (.int .i64 e)⟩)],[W,aM v,jc d],[]⟩
theorem tz (lv:List Wd) (f:Nat->Nat->Bool) (ND:List Nd) (z:Int) (hL:dN f lv.length) (hn:lv.length<=32) (bS:∀ n∈ND,dB lv.length ND.length n) (bJ:∀ n∈ND,n.aw.length<=1099511627776) (KR:∀ n∈ND,EI n) (b9:Nat) (ho:b9 < lv.length) :
  ∀ (k:Nat) (v:Val),v.wt<=k->v.wt<=1099511627776->rngW v->∀ (i a:Nat),a < lv.length->i < ND.length ->
   EvP prog 43 [.agg (wL lv f ND z),.v (.int .i64 b9),.v (.int .i64 i),.v (.int .i64 a),.agg (aM v)] (.v (.bool (seeV ND f lv.length b9 v i a)))
 | 0,v,h,_=>by have:=v.dh;omega
 | k + 1,v,h,hb=>fun hr i a ha hi=>by
  have ih:=tz lv f ND z hL hn bS bJ KR b9 ho k;obtain ⟨d,hg⟩:∃ d,ND[i]? = some d:=⟨_,gE hi⟩
  have hnd:cS ND (i:Int)=some d:=by
   unfold cS;rw [if_neg (by omega),Int.toNat_natCast,hg]
  have mj:=mG hg;have hN:=bS d mj;have Qj:=bJ d mj;have Xe:=KR d mj;have L3:=ti 2 1 (bG lv) (cK (dw lv.length f)) z bS v.wt v (Nat.le_refl _) hb i;rw [<- Pz bS] at L3;have L4:=fun h5=>BR d v h5 hN.k8 Qj hb;have HC:=fun h5 hs m hm=>sy hN h5 (v:=v) hs (m:=m) hm;have HE:=fun hs c m hm=>xY hN (v:=v) hs c (m:=m) hm
  have hV:seeV ND f lv.length b9 v i a=if d.ag < 5 then fitV ND v i else shellF d v && seeVs ND f lv.length b9 v.ks d v.n a 0:=by
   obtain ⟨q,z,s,ks⟩:=v;rw [seeV,hnd];rfl
  have Xf:d.ag < 5->seeV ND f lv.length b9 v i a=fitV ND v i:=fun c=>by rw [hV,if_pos c]
  have BT:¬ d.ag < 5->seeV ND f lv.length b9 v i a=(shellF d v && seeVs ND f lv.length b9 v.ks d v.n a 0):=fun c=>by rw [hV,if_neg c]
  clear hV;generalize seeV ND f lv.length b9 v i a=B at Xf BT ⊢;generalize fitV ND v i=F at L3 Xf;generalize shellF d v=SH at L4 HC HE BT;obtain ⟨vk,vn,vs,ks⟩:=v;have jm:=dc ks;have cu:=bo ks;rw [Val.wt] at h hb;have hrk:=Jr hr;simp only [Val.ks,Val.n] at BT hrk HC HE;have Xi:=fun e (he:e∈d.aw)=>qZ lv f ND z hL hn d e a ha hN he;have hhow:=fun e (he:e∈d.aw)=>Hu lv f ND z hL hn d e b9 a ho ha hN he;obtain ⟨ag,aD,lo,dF,most,af,es⟩:=d;refine eG 90 [.tmp 10] func43 rfl ntmps43 rfl fun _ _ _ _=>?_;refine iX (fL hg) ?_;refine br ?_ ?_<;>intro c
  ·have c:ag < 5:=sU c;rw [Xf c];refine cP Za L3 ?_;exact (rfl:_=_)
  have c5:¬ ag < 5:=sU c;have BT:=BT c5;have h5:5<=ag:=by omega
  have L4:=L4 h5;refine cP en95 L4 ?_
  cases SH with
  | false=>
   rw [Bool.false_and] at BT;rw [BT];exact (rfl:_=_)
  | true=>
   rw [Bool.true_and] at BT;refine lI (fun t st=>∃ e:Nat,st=px (wL lv f ND z) (.mk vk vn vs ks) b9 a ⟨ag,aD,lo,dF,most,af,es⟩ e/\e<=ks.length/\B=seeVs ND f lv.length b9 (ks.drop e) ⟨ag,aD,lo,dF,most,af,es⟩ vn a e/\t=ks.length - e) ⟨0,rfl,by omega,BT,rfl⟩ (az 3 rfl wA0 rfl rfl rfl wB0) ?_;rintro t st ⟨e,rfl,he,hE,rfl⟩;refine br ?_ ?_<;>intro eX
   ·have au:e < ks.length:=by simpa [cu,Val.ks] using eX
    obtain ⟨x,hx⟩:=gX au;obtain ⟨ed,hK⟩:=HC h5 rfl e au;have hm:=mG hx;have QM:=cE hm;have hrx:=oc hrk hm;obtain ⟨h1,t2,h2⟩:=PH hN hK.mem hK.bare;obtain ⟨_,B3⟩:=dt h2;have eZ:=(gS B3).1;have jz:ed.to=(ed.to.toNat:Nat):=by omega
    have HF:=KR t2 (mG B3);rw [Ag hx hK.mY] at hE;have oD:=tq ⟨ag,aD,lo,dF,most,af,es⟩ (.mk vk vn vs ks) e ed hK.mY (fun c=>(HE rfl c e au).1) Qj;have Fu:=Xi ed hK.mem;have hho:=hhow ed hK.mem;have Xg:=Xe.2.2 ed hK.mem;have Xh:=(hN.mY ed hK.mem).cn.2.1;have Qm:=Hz ed t2 x Xh (Hh hrx) HF.1 HF.2.1 Xg (by omega);have hpl:=gY x 9 ed.wide aq;have jd:=ih x (by omega) (by omega) hrx ed.to.toNat (mr f lv.length ⟨ag,aD,lo,dF,most,af,es⟩ ed a) (Jn hL hN hK.mem ha) eZ;rw [<- jz] at jd
    have q4:HA ND f lv.length b9 ⟨ag,aD,lo,dF,most,af,es⟩ ed a x=if sx f lv.length b9 ⟨ag,aD,lo,dF,most,af,es⟩ ed a=2 then seeV ND f lv.length b9 x ed.to (mr f lv.length ⟨ag,aD,lo,dF,most,af,es⟩ ed a) else if sx f lv.length b9 ⟨ag,aD,lo,dF,most,af,es⟩ ed a=1 then iH ed t2 x else cm x 9 ed.wide aq:=by
     unfold HA;rw [h2]
    generalize HA ND f lv.length b9 ⟨ag,aD,lo,dF,most,af,es⟩ ed a x=KS at hE q4;generalize sx f lv.length b9 ⟨ag,aD,lo,dF,most,af,es⟩ ed a=H at hho q4;generalize seeV ND f lv.length b9 x ed.to (mr f lv.length ⟨ag,aD,lo,dF,most,af,es⟩ ed a)=R1 at jd q4;generalize iH ed t2 x=R2 at Qm q4;generalize cm x 9 ed.wide aq=R3 at hpl q4;have sa:KS=false->B=false:=fun h=>by rw [hE,h,Bool.false_and]
    have mw:KS=true->∃ j',j' < ks.length - e/\∃ e',px (wL lv f ND z) (.mk vk vn vs ks) b9 a ⟨ag,aD,lo,dF,most,af,es⟩ (e + 1)=px (wL lv f ND z) (.mk vk vn vs ks) b9 a ⟨ag,aD,lo,dF,most,af,es⟩ e' /\ e' <= ks.length/\B=seeVs ND f lv.length b9 (ks.drop e') ⟨ag,aD,lo,dF,most,af,es⟩ vn a e' /\ j'=ks.length - e':=fun h=>⟨ks.length - (e + 1),by omega,e + 1,rfl,by omega,by rw [hE,h,Bool.true_and],rfl⟩;obtain ⟨xk,xn,xs,S2⟩:=x;clear hE;refine cP Vw oD ?_;refine dI ?_;refine iX (bf hx) ?_;refine cD JZ hpl ?_;refine cP en97 hho ?_;refine br ?_ ?_<;>intro c
    ·have c:H=2:=by
      have:=of_decide_eq_true c;omega
     rw [if_pos c] at q4;refine dI ?_;refine cD Zb Fu ?_;refine iX (bf hx) ?_;refine cD YV jd ?_
     cases R1 with
     | false=>
      have hB:=sa (by rw [q4]);rw [hB];exact (rfl:_=_)
     | true=>
      obtain ⟨j',g1,g2⟩:=mw (by rw [q4]);exact ⟨px (wL lv f ND z) (.mk vk vn vs ks) b9 a ⟨ag,aD,lo,dF,most,af,es⟩ (e + 1),(az 3 rfl (wA1 (nxt au (by omega))) rfl rfl rfl (wB1 (nxt au (by omega)))),j',g1,g2⟩
    ·have c2:¬ H=2:=by
      have:=of_decide_eq_false c;omega
     rw [if_neg c2] at q4;refine br ?_ ?_<;>intro c
     ·have c:H=1:=by
       have:=of_decide_eq_true c;omega
      rw [if_pos c] at q4;refine dI ?_;refine iX (fL B3) ?_;refine iX (bf hx) ?_;refine cD en99 Qm ?_
      cases R2 with
      | false=>
       have hB:=sa (by rw [q4]);rw [hB];exact (rfl:_=_)
      | true=>
       obtain ⟨j',g1,g2⟩:=mw (by rw [q4]);exact ⟨px (wL lv f ND z) (.mk vk vn vs ks) b9 a ⟨ag,aD,lo,dF,most,af,es⟩ (e + 1),(az 3 rfl (wA1 (nxt au (by omega))) rfl rfl rfl (wB1 (nxt au (by omega)))),j',g1,g2⟩
     ·have c1:¬ H=1:=by
       have:=of_decide_eq_false c;omega
      rw [if_neg c1] at q4
      cases R3 with
      | false=>
       have hB:=sa (by rw [q4]);rw [hB];exact (rfl:_=_)
      | true=>
       obtain ⟨j',g1,g2⟩:=mw (by rw [q4]);exact ⟨px (wL lv f ND z) (.mk vk vn vs ks) b9 a ⟨ag,aD,lo,dF,most,af,es⟩ (e + 1),(az 3 rfl (wA1 (nxt au (by omega))) rfl rfl rfl (wB1 (nxt au (by omega)))),j',g1,g2⟩
   ·have aN:e=ks.length:=by have:=eX;simp [cu,Val.ks] at this;omega
    subst aN;rw [List.drop_length,seeVs] at hE;rw [hE];exact (rfl:_=_)
theorem nG (lv:List Wd) (f:Nat->Nat->Bool) (ND:List Nd) (rt:Nat) (gG:rt < ND.length) (hL:dN f lv.length) (hn:lv.length<=32) (bS:∀ n∈ND,dB lv.length ND.length n) (bJ:∀ n∈ND,n.aw.length<=1099511627776) (KR:∀ n∈ND,EI n) (o:Int) (v:Val) (hv:v.wt<=1099511627776) (Iy:rngW v) :
  EvP prog 11 [.agg (wL lv f ND (rt:Nat)),.v (.int .i64 o),.agg (aM v)] (.v (.bool (yw ND f lv.length rt o v))):=by
 have hb:=yu lv.length f (by omega);rw [sw hL] at hb;have ep:=gz lv.length f;have hs:=fun (b9:Nat) (ho:b9 < lv.length)=>tz lv f ND (rt:Nat) hL hn bS bJ KR b9 ho _ v (Nat.le_refl _) hv Iy rt (ov f lv.length) (BE hL) gG;have hS:yw ND f lv.length rt o v=(decide (0<=o/\o < lv.length) && seeV ND f lv.length o.toNat v rt (ov f lv.length)):=rfl;generalize yw ND f lv.length rt o v=SF at hS ⊢;by_cases ho:0<=o/\o < lv.length
 ·obtain ⟨ob,rfl⟩:∃ n:Nat,o=n:=⟨_,(Int.toNat_of_nonneg ho.1).symm⟩;have hs:=hs ob (by omega);rw [show decide (0<=(ob:Int)/\(ob:Int) < (lv.length:Int))=true from decide_eq_true ho,Int.toNat_natCast,Bool.true_and] at hS;rw [<- hS] at hs;obtain ⟨k,n,s,ks⟩:=v;refine eG 27 [.tmp 6] func11 rfl ntmps11 rfl fun _ _ _ _=>?_;refine dI ?_;refine br (fun _=>?_) (fun c=>absurd c (by simp [pickB_and,ep];omega));refine cD en44 hb ?_;refine cD YV hs ?_;exact (rfl:_=_)
 ·rw [show decide (0<=o/\o < (lv.length:Int))=false from decide_eq_false ho,Bool.false_and] at hS;rw [hS];obtain ⟨k,n,s,ks⟩:=v;refine eG 27 [.tmp 6] func11 rfl ntmps11 rfl fun _ _ _ _=>?_;refine dI ?_;refine br (fun c=>absurd c (by simp [pickB_and,ep];omega)) (fun _=>?_);exact (rfl:_=_)
end Go.Proofs.YtffhgcbfpidfiaaGreat
