/- Part 7 of the proof: How what is seen of values is written: the program's write; A text's first units: the document's Head, the program's heads, floors; The numbers of a plan's nodes are ints; The least depths of the values of a plan's nodes: plain; The program's nodes, least depths; A region that draws its order, in which a new object may come at any time among calls: its run with the object made at each of these times serves every order; Where steps lead: the document's Edge, Walk; the program's; The program's way along steps: fits, step, Walk; The document's least depths; fine; the chapter's example; The program's Depths; The law of least depths: fine, the example, the call returns true; With which schemas nothing is wrong: the document's Wrong of chapters 20, 21; the law's fine; Which levels see a place: the program's Who; A region that draws its order, run by a schedule: at each point all that may come and has an effect is tried; The document's rows of an audit: With, Under, How, Rows; The document's Fits; What is seen of a value: the document's Edge, Coarse, Erase, Seen; How what is seen of values is written: Compact; the document's open, end, Text; What is seen of a value: the program's look, sees, coarsely, edge, coarse; Paths of a value: plain; tree.steps; Where steps lead in a value, and that value with another one there: plain; Rules for the evaluator: calls that hand back fresh rows; Rules for the evaluator: elements of rows whose cells nobody else knows, read and written whole; tree: slices.Index of steps, kid, clone, Get; tree.write, Raw; Written values: well formed; the document's Same on the same value; its Raw; The document's Kid, Get, Set of a value that fits; The document's Same of values, Set; ref25.Paths; The document's rows of an audit; All rows of an audit, by the document; the law's bounds; Alike, differ: the document's; What is seen of a value: the program's erase, Erase, Hidden; Which values may be what is seen of one: shell, May, outer, plain, the document's May; How what stands where a node is seen is written: the program's alike, Kid; How what is seen of values is written: the document's Text; what is seen may be written; Which values may be what is seen of one: the program's fits, Fits, the document's Fits, Seeable; The law of what may be seen; What is seen may be written; the example of chapter 33; the laws of Leaf and Compact; The example of chapter 33; the laws of Leaf and Compact: the calls return true; Lines of a log: the program's Body, Format; the document's; Lines of a log: the program's Format; the document's Body, Line; What is seen of a view: the program's narrow, the document's Narrow; The program's Narrow, the document's Narrow; the law; The law of what is narrowed; The level above all; what is known of views; the law of the steps of erasing; Lines of a log: the document's Line, Lines; Lines of a log: the program's Each, and who takes the lines; Lines of a log: no plan, no lines; the chapter's example; what the law asks; Lines of a log: a function compared with nil; Each; the chapter's example; tree: walk, Paths; The program's rows of an audit: step, sees, row; The program's rows of an audit: walk, Rows; How kinds of types, and ways of seeing, are called; The program's rows of an audit: Rows; The lines of an audit: what is known of rows; the document's Line; The document's Line; the program's Text of an audit. No condition. -/
import Derived.Test.YtgjagnmeonoehaaGreatMt2
import Derived.Test.YtgjagnmeonoehaaGreatMt3
import Derived.Test.YtgjagnmeonoehaaGreatMt4
import Derived.Test.YtgjagnmeonoehaaGreatMt5
import Derived.Test.YtgjagnmeonoehaaGreatMt6
set_option linter.all false
set_option maxRecDepth 100000
namespace Go.Proofs.YtgjagnmeonoehaaGreat
open Go Go.RowKit Dv Tryz
abbrev bO (p:DV) (l:List UInt8):List DV:=[p,.sl 1 (bD l) (some 0)]
abbrev bT (l:List UInt8):List TkE:=[⟨l.length,5,1,none⟩]
def U9 (y:Val) (l:List UInt8) (r:DV) (os:List (List DV)) (cA:List TkE):Prop:=r = .tup []/\os=[dVal y,bO (.loc 1 0) l]/\cA=bT l
abbrev z6 (y:Val) (PC:List DV) (d:Nd) (v:Val) (O Z:List UInt8) (NM:DV) (T:List Int) (L:List UInt8) (e:Nat):St:=
 ⟨[(0,⟨[],.loc 1 0⟩),(1,⟨[],.pt PC 0⟩),(10,⟨[],.loc 4 0⟩),(11,⟨[],.sl 1 (nY T) none⟩),(38,⟨[],.sl 4 (dVals v.ks) none⟩),(39,⟨[],.v (.int .i64 (dVals v.ks).length)⟩),(40,⟨[],.v (.int .i64 e)⟩)],
  [dVal y,bO (.loc 1 0) L,dVal v,kN d,[.v (.string (ba O)),.v (.string (ba Z)),NM]],bT L⟩
theorem mc {S:Sch} {ND:List Nd} {PC:List DV} (hP:iM S ND PC) (y:Val):∀ (k:Nat) (v:Val),v.wt<=k->v.wt<=1099511627776->rngW v->∀ i:Int,iW ND v i=true->∀ (l:List UInt8) (p:DV),p = .v (.pointer none)∨p = .loc 1 0->l.length + 50 * v.wt<=140737488355328 ->
  Wj false Tryz.prog 219 [.loc 1 0,.pt PC 0,.v (.int .i64 i),.agg (dVal v)] [dVal y,bO p l] (bT l) [(1,160)] (U9 y (l ++ textV ND v i))
 | 0,v,h,_=>by have:=v.cT;omega
 | k + 1,v,h,hb=>fun hr i hw l p hp hl=>by
  have ih:=mc hP y k;obtain ⟨yk,yn,ys,yl⟩:=y;obtain ⟨d,hd,hc⟩:=iC hw;obtain ⟨h0,hg⟩:=bR hd;obtain ⟨j,rfl⟩:∃ j:Nat,i=j:=⟨i.toNat,by omega⟩;have hg:ND[j]? = some d:=by simpa using hg
  have hN:=hP.ok d (mG hg);have oi:=hN.k1;have GO:=hN.k8;have dM:=hP.ah j d hg;have iP:=qG v;obtain ⟨hon,kB⟩:=uy hN (by obtain ⟨_,_,_,_⟩:=v;rw [rngW] at hr;exact hr.2.1) hc;have hol2:(opnT d v).length + 1<=50 * (64 + v.s.size):=by omega
  have eN:=ff hP.ok v j hr hw
  have hT:textV ND v j=opnT d v ++ textVs ND v.ks d v.n 0 ++ jX v:=by
   obtain ⟨q,z,s,ks⟩:=v;rw [textV,hd];rfl
  have hvw:v.wt=64 + v.s.size + cF v.ks:=by obtain ⟨q,z,s,ks⟩:=v;rfl
  have Jj:=fun a b=>Eo d v (by omega) (by obtain ⟨_,_,_,_⟩:=v;rw [rngW] at hr;exact hr.2.1) a b;by_cases c9:v.k < 5∨8 < v.k
  ·have VU:v.ks=[]:=by grind
   have h4:v.k=4->0<=v.n/\v.n < d.af.length:=by omega
   have Jj:=Jj (by omega) h4;have fx:jX v=[]:=Jg (by omega) VU;rw [VU,fx,textVs,List.append_nil,List.append_nil] at hT;rw [hT] at eN ⊢;rw [show (decide (v.k < 5) || decide (8 < v.k))=true by simpa using c9] at iP;generalize opnT d v=O at *;clear hc hT;obtain ⟨q,z,s,ks⟩:=v;obtain ⟨ag,at',lo,hi,most,af,es⟩:=d;refine Ao (s:=false) (bt:=[(1,160)]) (mu:=[]) (fr:=false) (P:=Tryz.prog) tt om 5000 72 [] Tryz.func219 rfl Tryz.ntmps219 rfl (nL rfl) (fun E9 w9 aC mJ=>?_);refine call_p rm (dM) ax rfl ?_;refine call_p Ic (iP) ax rfl ?_;refine call_p Xx (Jj) ax rfl ?_;refine jO rfl (l ++ O) (l:=l) (kt:=0) rfl (.head _) rfl hp rfl (by simp [hon]) (by rw [List.length_append];omega) rfl (fun n9=>?_);exact ⟨.tup [],[dVal ⟨yk,yn,ys,yl⟩,bO (.loc 1 0) (l ++ O)],aL,aL,rfl,rfl,rfl⟩
  ·obtain ⟨hk,h5,xu,zP⟩:v.k=d.ag/\5<=d.ag/\shellF d v=true/\fC ND v.ks d v.n 0=true:=by grind
   clear Jj;have KQ:∀ m,m < v.ks.length->∃ e,bG d v.n m=some e/\iW ND (v.ks[m]?.getD v) e.to=true:=fun m hm=>by grind [jP]
   have RY:=zX hN h5 v hb hk (fun m hm=>(KQ m hm).imp fun e h=>h.1) (fun c=>shell_8 xu c);rw [show (decide (v.k < 5) || decide (8 < v.k))=false by simp;omega] at iP;have mh:=fun e (he:e<=v.ks.length)=>mb hP.ok (v.ks.take e) d v.n 0 hN h5 (xB e (by obtain ⟨_,_,_,_⟩:=v;rw [rngW] at hr;exact hr.2.2)) (xA e zP);have Pw:=BK v.ks;have mn:=BJ v;have hT7:d.ag=7->Eu d = .sl 1 (cO (Et d d.aq.length)) none:=fun c=>by rw [Eu,if_pos c]
   have hTn:d.ag≠7->Eu d = .v (.slice none 0 0):=fun c=>by rw [Eu,if_neg c]
   have Z5:∀ (n m:Nat) (tk:List TkE),We n m tk (Eu d) (Eu d):=fun n m tk=>by
    by_cases c:d.ag=7
    ·rw [hT7 c];exact we_rfl rfl
    ·rw [hTn c];exact we_rfl rfl
   have htg:=fun m e h1 h2=>@Er d v v.ks.length m e h1 h2;have hNL:=Jh d d.aq.length (Nat.le_refl _);have hNg:∀ (m:Nat) (e:Ed),d.ag=7->bG d v.n m=some e->(cO (Et d d.aq.length))[m]? = some [.v (.string (ba (tx e.name ++ [58,32])))]:=fun m e c h=>by grind [bG,cO,Et]
   have x7:∀ e∈d.aq,d.ag=7->e.name.size<=32:=fun e he c=>eA ((hN.many (.inl c)).2.2.2 e he);have Z6:=fun e x ed (h1:v.ks[e]? = some x) (h2:bG d v.n e=some ed)=>ny (ND:=ND) h1 h2;have Z7:textVs ND (v.ks.take 0) d v.n 0=[]:=by rw [List.take_zero,textVs]
   have Z8:textVs ND (v.ks.take v.ks.length) d v.n 0=textVs ND v.ks d v.n 0:=by rw [List.take_length]
   rw [hT] at eN ⊢;rw [<- Z8];generalize O5:(fun e=>textVs ND (v.ks.take e) d v.n 0)=X at *;have hX:∀ e,textVs ND (v.ks.take e) d v.n 0=X e:=fun e=>by rw [<- O5]
   simp only [hX] at Z6 Z7 mh ⊢;generalize opnT d v=O at *;generalize jX v=Z at *;generalize Eu d=NM at *;generalize tosL d v v.ks.length=T at *;generalize Et d d.aq.length=M at *;clear hc hT Z8 xu eN hX O5;obtain ⟨q,z,s,ks⟩:=v;obtain ⟨ag,at',lo,hi,most,af,es⟩:=d;have dc:=aX ks;have iT:=cw ks;simp only [Val.k,Val.n,Val.s,Val.ks] at *;refine Ao (s:=false) (bt:=[(1,160)]) (mu:=[]) (fr:=false) (P:=Tryz.prog) tt om 5000 72 [] Tryz.func219 rfl Tryz.ntmps219 rfl (nL rfl) (fun E9 w9 aC mJ=>?_);refine call_p rm (dM) ax rfl ?_;refine call_p Ic (iP) ax rfl ?_;refine call_p RF (RY) ax rfl ?_;refine jO rfl (l ++ O) (l:=l) (kt:=0) rfl (.head _) rfl hp rfl (by simp [hon]) (by rw [List.length_append];omega) rfl (fun n9=>?_);refine aQ (fun j st=>∃ e:Nat,st=z6 ⟨yk,yn,ys,yl⟩ PC ⟨ag,at',lo,hi,most,af,es⟩ (.mk q z s ks) O Z NM T (l ++ O ++ X e) e/\e<=ks.length/\j=ks.length - e) ks.length (z6 ⟨yk,yn,ys,yl⟩ PC ⟨ag,at',lo,hi,most,af,es⟩ (.mk q z s ks) O Z NM T (l ++ O) 0) (weak_b 5 rfl (by repeat' (first | exact rfl | exact we_rfl rfl | exact Z5 _ _ _ | refine ⟨_,_,rfl,?_,?_⟩)) rfl rfl rfl (by repeat' (first | exact trivial | exact we_rfl rfl | exact Z5 _ _ _ | refine ⟨⟨_,rfl,?_⟩,?_⟩))) ⟨0,by rw [Z7,List.append_nil],by omega,by omega⟩ ?_;rintro _ st ⟨e,rfl,he,rfl⟩;have hXl:=mh e he;refine br (fun hL=>?_) (fun hL=>?_)
   ·have al:e < ks.length:=by simpa [dc,Val.ks] using hL
    obtain ⟨ed,xy,QV⟩:=KQ e al;obtain ⟨x,hx⟩:∃ x,ks[e]? = some x:=⟨_,gE al⟩;rw [hx] at QV;have O4:=cJ (mG hx);have hxt:=sr hx;have Q8:rngW x:=by rw [rngW] at hr;exact dO hr.2.2 (mG hx)
    have qO:=fun (L1:List UInt8) h1=>ih x (by omega) (by omega) Q8 ed.to QV L1 (.loc 1 0) (.inr rfl) h1;have xE:=Z6 e x ed hx xy;have hTg:=htg e ed xy al;have EZ:=fun c=>hNg e ed c xy;have BL:=x7 ed (xz xy);generalize textV ND x ed.to=t at qO xE;obtain ⟨xk,xn,xs,xl⟩:=x;refine ⟨_,⟨by omega,dVals_get (by simpa [Val.ks] using hx)⟩,?_⟩;refine br (fun c=>?_) (fun c=>?_)
    ·have c:e≠0:=by rintro rfl;simp at c
     rw [if_neg c] at xE;refine jO rfl (l ++ O ++ X e ++ [44,32]) (l:=l ++ O ++ X e) (kt:=0) rfl (.head _) rfl (.inr rfl) rfl (by simp) (by simp only [List.length_append,List.length_cons,List.length_nil];omega) rfl (fun n9=>?_);by_cases c7:ag=7
     ·have EZ:=EZ c7;have BL:=BL c7;have QS:=hT7 c7;subst QS;rw [if_pos c7] at xE;refine SS ⟨_,rfl⟩ rfl rfl (by intro h9;rw [h9] at EZ;simp at EZ) rfl rfl ?_;refine ⟨_,⟨by omega,EZ⟩,?_⟩;refine jO rfl ((l ++ O ++ X e ++ [44,32]) ++ (tx ed.name ++ [58,32])) (l:=(l ++ O ++ X e ++ [44,32])) (kt:=0) rfl (.head _) rfl (.inr rfl) rfl (by simp) (by simp only [List.length_append,List.length_cons,List.length_nil,bf];omega) rfl (fun n9=>?_);refine j3 (fun i=>Nat.beq i 7) mo (by decide +kernel) ?_;refine ⟨_,⟨by omega,nZ hTg⟩,?_⟩;have BM:(l ++ O ++ X e ++ [44,32]) ++ (tx ed.name ++ [58,32]) ++ t=l ++ O ++ X (e + 1):=by rw [xE];simp only [List.append_assoc]
      refine jz rfl (kK 2 1 yU rfl rfl rfl aL aL (qO ((l ++ O ++ X e ++ [44,32]) ++ (tx ed.name ++ [58,32])) (by simp only [List.length_append,List.length_cons,List.length_nil,bf];omega)) (fun r gF bP hΦ h1 h2=>?_));rw [BM] at hΦ;obtain ⟨rfl,rfl,rfl⟩:=hΦ;exact ⟨z6 ⟨yk,yn,ys,yl⟩ PC ⟨ag,at',lo,hi,most,af,es⟩ (.mk q z s ks) O Z _ T (l ++ O ++ X (e + 1)) (e + 1),(weak_b 5 rfl (QI al) rfl rfl rfl (SZ al)),ks.length - (e + 1),by omega,e + 1,rfl,by omega,rfl⟩
     ·have QS:=hTn c7;subst QS;rw [if_neg c7,List.nil_append] at xE;refine OB ⟨_,rfl⟩ rfl rfl rfl rfl ?_;refine j3 (fun i=>Nat.beq i 7) mo (by decide +kernel) ?_;refine ⟨_,⟨by omega,nZ hTg⟩,?_⟩;have BM:(l ++ O ++ X e ++ [44,32]) ++ t=l ++ O ++ X (e + 1):=by rw [xE];simp only [List.append_assoc]
      refine jz rfl (kK 2 1 yU rfl rfl rfl aL aL (qO (l ++ O ++ X e ++ [44,32]) (by simp only [List.length_append,List.length_cons,List.length_nil];omega)) (fun r gF bP hΦ h1 h2=>?_));rw [BM] at hΦ;obtain ⟨rfl,rfl,rfl⟩:=hΦ;exact ⟨z6 ⟨yk,yn,ys,yl⟩ PC ⟨ag,at',lo,hi,most,af,es⟩ (.mk q z s ks) O Z _ T (l ++ O ++ X (e + 1)) (e + 1),(weak_b 5 rfl (QI al) rfl rfl rfl (SZ al)),ks.length - (e + 1),by omega,e + 1,rfl,by omega,rfl⟩
    ·have c:e=0:=by simp at c;omega
     rw [if_pos c,List.nil_append] at xE;by_cases c7:ag=7
     ·have EZ:=EZ c7;have BL:=BL c7;have QS:=hT7 c7;subst QS;rw [if_pos c7] at xE;refine SS ⟨_,rfl⟩ rfl rfl (by intro h9;rw [h9] at EZ;simp at EZ) rfl rfl ?_;refine ⟨_,⟨by omega,EZ⟩,?_⟩;refine jO rfl ((l ++ O ++ X e) ++ (tx ed.name ++ [58,32])) (l:=(l ++ O ++ X e)) (kt:=0) rfl (.head _) rfl (.inr rfl) rfl (by simp) (by simp only [List.length_append,List.length_cons,List.length_nil,bf];omega) rfl (fun n9=>?_);refine j3 (fun i=>Nat.beq i 7) mo (by decide +kernel) ?_;refine ⟨_,⟨by omega,nZ hTg⟩,?_⟩;have BM:(l ++ O ++ X e) ++ (tx ed.name ++ [58,32]) ++ t=l ++ O ++ X (e + 1):=by rw [xE];simp only [List.append_assoc]
      refine jz rfl (kK 2 1 yU rfl rfl rfl aL aL (qO ((l ++ O ++ X e) ++ (tx ed.name ++ [58,32])) (by simp only [List.length_append,List.length_cons,List.length_nil,bf];omega)) (fun r gF bP hΦ h1 h2=>?_));rw [BM] at hΦ;obtain ⟨rfl,rfl,rfl⟩:=hΦ;exact ⟨z6 ⟨yk,yn,ys,yl⟩ PC ⟨ag,at',lo,hi,most,af,es⟩ (.mk q z s ks) O Z _ T (l ++ O ++ X (e + 1)) (e + 1),(weak_b 5 rfl (QI al) rfl rfl rfl (SZ al)),ks.length - (e + 1),by omega,e + 1,rfl,by omega,rfl⟩
     ·have QS:=hTn c7;subst QS;rw [if_neg c7,List.nil_append] at xE;refine OB ⟨_,rfl⟩ rfl rfl rfl rfl ?_;refine j3 (fun i=>Nat.beq i 7) mo (by decide +kernel) ?_;refine ⟨_,⟨by omega,nZ hTg⟩,?_⟩;have BM:(l ++ O ++ X e) ++ t=l ++ O ++ X (e + 1):=by rw [xE];simp only [List.append_assoc]
      refine jz rfl (kK 2 1 yU rfl rfl rfl aL aL (qO (l ++ O ++ X e) (by simp only [List.length_append,List.length_cons,List.length_nil];omega)) (fun r gF bP hΦ h1 h2=>?_));rw [BM] at hΦ;obtain ⟨rfl,rfl,rfl⟩:=hΦ;exact ⟨z6 ⟨yk,yn,ys,yl⟩ PC ⟨ag,at',lo,hi,most,af,es⟩ (.mk q z s ks) O Z _ T (l ++ O ++ X (e + 1)) (e + 1),(weak_b 5 rfl (QI al) rfl rfl rfl (SZ al)),ks.length - (e + 1),by omega,e + 1,rfl,by omega,rfl⟩
   ·have aM:e=ks.length:=by grind [Val.ks]
    subst aM;have hw9:=Pw ks.length;rw [<- List.append_assoc,<- List.append_assoc];refine jO rfl (l ++ O ++ X ks.length ++ Z) (l:=l ++ O ++ X ks.length) (kt:=0) rfl (.head _) rfl (.inr rfl) rfl (by simp [hon]) (by simp only [List.length_append];omega) rfl (fun n9=>?_);exact ⟨.tup [],[dVal ⟨yk,yn,ys,yl⟩,bO (.loc 1 0) (l ++ O ++ X ks.length ++ Z)],aL,aL,rfl,rfl,rfl⟩
end Go.Proofs.YtgjagnmeonoehaaGreat
set_option maxRecDepth 100000
namespace Go.Proofs.YtgjagnmeonoehaaGreat
open Go Go.RowKit Dv Go.Proofs.Tryz
theorem Jk (s:ByteArray) (n:Nat) (h:s.size<=1099511627776):tx (s.extract n (s.size:Int).toNat)=(tx s).drop n:=by
 simp [tx,jU];exact List.take_of_length_le (by rw [List.length_drop];have:=bf s;unfold tx at this;omega)
theorem KR (s:ByteArray):s=⟨#[]⟩↔tx s=[]:=⟨fun h=>by rw [h];rfl,fun h=>by rw [<- mV s,h]⟩
theorem s5:∀ (u:Nat) (s:ByteArray),s.size<=1099511627776->∀ z:Int,z<=9223372036854775807->z.toNat=u->EvP prog 212 [.v (.string s),.v (.int .i64 z)] (.v (.string (ba (headL u (tx s)))))
 | 0,s,hs,z,hz,hu=>by
  refine eG 28 [.tmp 4] func212 rfl ntmps212 rfl fun _ _ _ _=>?_;refine br (fun _=>(rfl:_=_)) (fun c=>absurd c (by simp [ak];omega))
 | u + 1,s,hs,z,hz,hu=>by
  by_cases he:s=⟨#[]⟩
  ·subst he;rw [show tx ⟨#[]⟩=[] from rfl,sc];refine eG 28 [.tmp 4] func212 rfl ntmps212 rfl fun _ _ _ _=>?_;refine br (fun _=>(rfl:_=_)) (fun c=>absurd c (by simp [ak]))
  have aT:tx s ≠ []:=fun h=>he ((KR s).2 h);obtain ⟨h1,h2⟩:=kf aT;rw [bf] at h2;have hun:=D4 s hs (by omega);have hdr:=Jk s (gf (tx s)) hs;have iG:=uw s (gf (tx s));have hl:=si u ((tx s).drop (gf (tx s)));rw [List.length_drop,bf] at hl;have hD:headL (u + 1) (tx s)=(tx s).take (gf (tx s)) ++ headL u ((tx s).drop (gf (tx s))):=rfl;rw [hD,<- iG,<- hdr];rw [<- hdr] at hl;have eN:(s.extract 0 (gf (tx s))).size=gf (tx s):=by rw [<- bf,uw,dE,bf];omega
  have dc:(s.extract (gf (tx s)) (s.size:Int).toNat).size=s.size - gf (tx s):=by rw [<- bf,Jk _ _ hs,List.length_drop,bf]
  have ih:=s5 u (s.extract (gf (tx s)) (s.size:Int).toNat) (by omega) (IntKind.i64.wrap (z - 1)) (by rw [wrap64 (by omega) (by omega)];omega) (by rw [wrap64 (by omega) (by omega)];omega);generalize gf (tx s)=n at hun h1 h2 ih eN dc hl;refine eG 28 [.tmp 4] func212 rfl ntmps212 rfl fun _ _ _ _=>?_;refine br (fun c=>absurd c (by simp [ak];exact ⟨by omega,he⟩)) (fun _=>?_);refine bp Xv rfl hun ax (fun q hq=>?_);obtain ⟨c0,rfl⟩:=hq;refine dI ?_;refine ⟨⟨by omega,by omega,by omega⟩,?_⟩;refine ⟨⟨by omega,by omega,by omega⟩,?_⟩;refine cD Rw ih ?_;have Pn:(ba (headL u (tx (s.extract n (s.size:Int).toNat)))).size=(headL u (tx (s.extract n (s.size:Int).toNat))).length:=by rw [<- bf,fh]
  have hcat:s.extract 0 n ++ ba (headL u (tx (s.extract n (s.size:Int).toNat)))=ba (tx (s.extract 0 n) ++ headL u (tx (s.extract n (s.size:Int).toNat))):=mU (by rw [lM,fh (headL u (tx (s.extract n (s.size:Int).toNat)))]);refine ⟨by show (s.extract 0 n).size + _<=_;omega,?_⟩;exact (congrArg (fun z=>DV.v (.string z)) hcat:_=_)
mutual
theorem z7:∀ (t:Ty),rngT t->∀ u∈flatT t,rngT u
 | .mk h ps,hr,u,hu=>by
  rw [flatT] at hu;split at hu
  ·cases hu
  ·rcases dg hu with rfl | hu
   ·exact hr
   ·rw [rngT] at hr;exact z8 ps hr.2.2.2 u hu
theorem z8:∀ (ps:Pts),rngP ps->∀ u∈flatP ps,rngT u
 | .nil,_,u,hu=>by cases hu
 | .cons p v r,hr,u,hu=>by
  rw [flatP] at hu;rw [rngP] at hr;rcases List.mem_append.1 hu with hu | hu
  ·split at hu
   ·cases hu
   ·exact z7 v hr.2.2.1 u hu
  ·exact z8 r hr.2.2.2 u hu
end
theorem Ex {lev:List Wd->Int} {s:Sch}:∀ (ps:Pts) (k:Nat),rngP ps->∀ e∈edsP lev s ps k,od e.cn
 | .nil,_,_,e,he=>by cases he
 | .cons p v r,k,hr,e,he=>by
  rw [edsP] at he;rw [rngP] at hr;rcases dg he with rfl | he
  ·exact hr.2.1
  ·exact Ex r _ hr.2.2.2 e he
def BN (n:Nd):Prop:=od n.lo/\od n.hi/\∀ e∈n.aq,od e.cn
theorem xF {S:Sch} (hr:PT S) {n:Nd} (h:n∈ay S):BN n:=by
 rw [jj] at h;obtain ⟨t,ht,u,hu,k,rfl⟩:=wK h
 have h1:rngT t:=by
  rcases List.mem_append.1 ht with h | h
  ·obtain ⟨x,hx,rfl⟩:=List.mem_map.1 h;exact hr.1 x hx
  ·simp only [List.mem_singleton] at h;subst h;exact hr.2
 have h2:=z7 t h1 u hu;obtain ⟨uh,us⟩:=u;rw [rngT] at h2;exact ⟨h2.1,h2.2.1,Ex us _ h2.2.2.2⟩
def pg (K:List Nat) (e:Ed):Nat:=K.getD e.to.toNat 0
def leastR (K:List Nat):List Ed->Nat->Nat
 | [],m=>m + 1
 | e :: r,m=>if pg K e=0 then 0 else leastR K r (max m (pg K e))
def eE (K:List Nat):List Ed->Nat->Nat
 | [],b=>if b=0 then 0 else b + 1
 | e :: r,b=>if e.bare=true then 1 else if 0 < pg K e/\(b=0∨pg K e < b) then eE K r (pg K e) else eE K r b
def fU (n:Nd) (K:List Nat):Nat:=if n.ag=7 then leastR K n.aq 0 else if n.ag=8 then eE K n.aq 0 else 1
def depN (ND:List Nd):Nat->List Nat
 | 0=>List.replicate ND.length 0
 | d + 1=>ND.map fun n=>fU n (depN ND d)
theorem fD (ND:List Nd):∀ d,(depN ND d).length=ND.length
 | 0=>by simp [depN]
 | d + 1=>by simp [depN]
theorem depN_get (ND:List Nd) (d j:Nat):(depN ND (d + 1)).getD j 0=match ND[j]? with | none=>0 | some n=>fU n (depN ND d):=by grind [depN]
def KT (d:Nat) (A B:List Nat):Prop:=∀ j:Nat,(0 < A.getD j 0->B.getD j 0=A.getD j 0/\A.getD j 0<=d)/\(A.getD j 0=0->B.getD j 0=0∨B.getD j 0=d + 1)
theorem Jl {d:Nat} {A B:List Nat} (h:KT d A B) (j:Nat):B.getD j 0<=d + 1:=by
 obtain ⟨h1,h2⟩:=h j;omega
theorem nz {K:List Nat}:∀ {es:List Ed} {m:Nat},leastR K es m=0↔∃ e∈es,pg K e=0
 | [],m=>by simp [leastR]
 | e :: r,m=>by
  rw [leastR];by_cases h:pg K e=0
  ·grind
  ·rw [ai h,nz]
   grind
theorem ta {d:Nat} {A B:List Nat} (hR:KT d A B):∀ {es:List Ed} {m:Nat},0 < leastR A es m->leastR B es m=leastR A es m
 | [],m,_=>rfl
 | e :: r,m,h=>by
  rw [leastR] at h ⊢;rw [leastR];by_cases h0:pg A e=0
  ·rw [aj h0] at h;omega
  rw [ai h0] at h ⊢;have h1:pg B e=pg A e:=((hR e.to.toNat).1 (by unfold pg at h0;omega)).1;rw [h1,ai h0];exact ta hR h
theorem xG {d:Nat} {A B:List Nat} (hR:KT d A B):∀ {es:List Ed} {m:Nat},m<=d + 1->(m=d + 1∨∃ e∈es,pg A e=0)->leastR B es m=0∨leastR B es m=d + 2
 | [],m,_,h=>by grind [leastR]
 | e :: r,m,hm,h=>by
  rw [leastR];by_cases h0:pg B e=0
  ·rw [aj h0];exact .inl rfl
  rw [ai h0];have fW:pg B e<=d + 1:=Jl hR _;refine xG hR (by omega) ?_;rcases h with h | ⟨x,hx,h⟩
  ·left;omega
  ·rcases dg hx with rfl | hx
   ·left;have:=(hR x.to.toNat).2 h;unfold pg at h0 fW ⊢;omega
   ·exact .inr ⟨x,hx,h⟩
theorem mf {d:Nat} {A B:List Nat} (hR:KT d A B):∀ {es:List Ed} {a b:Nat},(0 < a->b=a/\a<=d)->(a=0->b=0∨b=d + 1) ->
  (0 < eE A es a->eE B es b=eE A es a)/\(eE A es a=0->eE B es b=0∨eE B es b=d + 2)
 | [],a,b,h1,h2=>by grind [eE]
 | e :: r,a,b,h1,h2=>by
  rw [eE,eE];by_cases hb:e.bare=true
  ·grind
  rw [ai hb,ai hb];obtain ⟨g1,g2⟩:=hR e.to.toNat;change (0 < pg A e->pg B e=pg A e/\pg A e<=d) at g1;change (pg A e=0->pg B e=0∨pg B e=d + 1) at g2;by_cases c1:0 < pg A e/\(a=0∨pg A e < a)<;>by_cases c2:0 < pg B e/\(b=0∨pg B e < b)
  ·rw [aj c1,aj c2];exact mf hR (by omega) (by omega)
  ·omega
  ·rw [ai c1,aj c2];exact mf hR (by omega) (by omega)
  ·rw [ai c1,ai c2];exact mf hR (by omega) (by omega)
theorem Hk {d:Nat} {A B:List Nat} (hR:KT d A B) (n:Nd):(0 < fU n A->fU n B=fU n A)/\(fU n A=0->fU n B=0∨fU n B=d + 2):=by
 unfold fU;by_cases h7:n.ag=7
 ·rw [aj h7,aj h7];exact ⟨ta hR,fun h=>xG hR (by omega) (.inr (nz.1 h))⟩
 grind [mf]
theorem Ey (N:Nat) (e:Ed):pg (List.replicate N 0) e=0:=by grind [pg]
theorem td (N:Nat):∀ es:List Ed,eE (List.replicate N 0) es 0=0∨eE (List.replicate N 0) es 0=1
 | []=>.inl rfl
 | e :: r=>by
  rw [eE,Ey];by_cases hb:e.bare=true
  ·rw [aj hb];exact .inr rfl
  ·rw [ai hb,ai (by omega)];exact td N r
theorem Ez (N:Nat) (n:Nd):fU n (List.replicate N 0)=0∨fU n (List.replicate N 0)=1:=by
 unfold fU;by_cases h7:n.ag=7
 ·rw [aj h7]
  cases h:n.aq with
  | nil=>right;rfl
  | cons e r=>left;rw [leastR,Ey,aj rfl]
 grind [td]
theorem KU (ND:List Nd) (j:Nat):(depN ND 0).getD j 0=0:=by grind [depN]
theorem EA (ND:List Nd):∀ d,KT d (depN ND d) (depN ND (d + 1))
 | 0=>fun j=>by
  refine ⟨fun h=>by rw [KU] at h;omega,fun _=>?_⟩;rw [depN_get]
  cases ND[j]? with
  | none=>exact .inl rfl
  | some n=>exact Ez _ n
 | d + 1=>fun j=>by
  have ih:=EA ND d
  grind [depN_get,Hk,Jl]
def fF (K:List Nat):List Bool:=K.map fun k=>decide (0 < k)
theorem xH (K:List Nat) (j:Nat):(fF K).getD j false=decide (0 < K.getD j 0):=by grind [fF]
theorem nA (K:List Nat):(fF K).length=K.length:=by simp [fF]
theorem OE {A B:List Nat} (hl:A.length=B.length) (h:∀ j,A.getD j 0=B.getD j 0):A=B:=by
 refine List.ext_getElem hl fun j h1 h2=>?_;have:=h j
 grind
def tR (K:List Bool) (e:Ed):Bool:=e.bare || K.getD e.to.toNat false
def Jm (n:Nd) (K:List Bool):Bool:=if n.ag < 7 then true else if n.ag=7 then n.aq.all (tR K) else n.aq.any (tR K)
theorem ph {K:List Nat}:∀ {es:List Ed} {b:Nat},0 < eE K es b↔(0 < b∨es.any (tR (fF K))=true)
 | [],b=>by grind [eE]
 | e :: r,b=>by
  have hg:(fF K).getD e.to.toNat false=decide (0 < pg K e):=xH K _;rw [eE,List.any_cons];by_cases hb:e.bare=true
  ·rw [aj hb];simp [tR,hb]
  ·rw [ai hb]
   have ru:tR (fF K) e=decide (0 < pg K e):=by
    unfold tR;rw [hg];simp [hb]
   rw [ru,Bool.or_eq_true,decide_eq_true_eq];split
   ·rename_i h1;rw [ph];omega
   ·rename_i h1;rw [ph]
    grind
theorem Hl {n:Nd} {K:List Nat} (h8:n.ag<=8) (hb:∀ e∈n.aq,e.bare=true->n.ag=8):(0 < fU n K)↔Jm n (fF K)=true:=by
 unfold fU Jm
 grind [leastR,nz,pg,fF,xH,tR,ph]
theorem OG {ND:List Nd} (hN:∀ n∈ND,n.ag<=8/\∀ e∈n.aq,e.bare=true->n.ag=8) (d:Nat) {i:Nat} {n:Nd} (h:ND[i]? = some n) :
  (depN ND (d + 1)).getD i 0=(if Jm n (fF (depN ND d))=true/\(depN ND d).getD i 0=0 then d + 1 else (depN ND d).getD i 0) /\
  (fF (depN ND (d + 1))).getD i false=Jm n (fF (depN ND d)):=by
 obtain ⟨h8,hb⟩:=hN n (mG h);have hp:=Hl (K:=depN ND d) h8 hb;have hg:(depN ND (d + 1)).getD i 0=fU n (depN ND d):=by rw [depN_get,h]
 obtain ⟨h1,h2⟩:=(EA ND d) i;refine ⟨?_,?_⟩
 ·grind
 ·grind [xH]
def cN (l:List Nat):List DV:=l.map fun (z:Nat)=>DV.v (.int .i64 (z:Int))
theorem OH (l:List Nat):(cN l).length=l.length:=by simp [cN]
theorem Va {l:List Nat} {i z:Nat} (h:l[i]? = some z):(cN l)[i]? = some (DV.v (.int .i64 (z:Int))):=by simp [cN,h]
theorem Vb (l:List Nat) (i z:Nat):(cN l).set i (DV.v (.int .i64 (z:Int)))=cN (l.set i z):=by simp [cN,List.map_set]
theorem xI (l:List Nat):(dInts l).flatten=cN l:=by
 induction l with
 | nil=>rfl
 | cons b r ih=>simp only [dInts,cN,List.map_cons,List.flatten_cons] at ih ⊢;rw [ih];all_goals rfl
theorem repN (n:Nat):(List.replicate n (vL [Value.int .i64 0])).flatten=cN (List.replicate n 0):=by
 induction n with
 | zero=>rfl
 | succ n ih=>simp only [List.replicate_succ,List.flatten_cons,ih];rfl
theorem cG {n m:Nat} {tk:List TkE} {l:List DV} {r:List Nat} (h:l=cN r):WeL n m tk l (cN r):=by
 subst h;refine vD _ fun x hx=>?_;obtain ⟨z,_,rfl⟩:=List.mem_map.1 hx;exact ⟨_,rfl⟩
theorem ms_n {bx:List (List DV)} {N n0 m0 n i:Nat} {r:List Nat} (hr:r.length=n) (hN:N<=i) (hb:bx[i]? = some (cN r)):Cc bx N n0 m0 (.sl 1 (dInts r) none) (.ms i 1 0 n n):=by
 simp only [Cc];refine Or.inr (Or.inr (Or.inl ⟨i,0,n,_,by rw [bl,hr],hN,hb,?_,?_,?_⟩))
 ·grind [xI,OH,bl]
 ·grind [dInts]
 ·intro x hx;rw [xI] at hx;obtain ⟨_,_,rfl⟩:=List.mem_map.1 hx;exact .inl ⟨_,rfl⟩
abbrev wL (lv:List Wd) (f:Nat->Nat->Bool) (ND:List Nd) (z:Int):List DV:=[.sl 2 (bq lv) none,.sl 1 (cu (dj lv.length f)) none,.sl 7 (cX ND) none,.v (.int .i64 z)]
abbrev SX (n:Nd) (K:List Bool) (s v:Bool) (e:Nat):St:=
 ⟨[aU 1 1 (wg K),aw 2 0,Ar 5 s,Ar 6 v,ap 7 e],[kN n],[]⟩
theorem Hm {L:Nat} {n:Nd} (K:List Bool) (hK:K.length<=1099511627776) (hn:dB L K.length n) (mn:n.aq.length<=1099511627776) :
  EvP prog 244 [.agg (kN n),.sl 1 (wg K) none] (.v (.bool (Jm n K))):=by
 have kP:=hn.jV;have Z9:=hn.bare;have GO:=hn.k8;obtain ⟨ag,at',lo,hi,most,af,es⟩:=n;simp only at kP Z9 mn GO;refine eG 50 [.tmp 4] func244 rfl ntmps244 rfl fun _ _ _ _=>?_;refine br ?_ ?_<;>intro h7
 ·have h7:ag < 7:=sU h7;refine (bH ?_:);simp [Jm,h7]
 have h7:¬ ag < 7:=sU h7;refine aQ (fun j st=>∃ e:Nat,st=SX ⟨ag,at',lo,hi,most,af,es⟩ K ((es.take e).any (tR K)) ((es.take e).all (tR K)) e/\e<=es.length/\j=es.length - e) es.length (SX ⟨ag,at',lo,hi,most,af,es⟩ K false true 0) (wkM wB) ⟨0,by simp,by omega,by omega⟩ ?_;rintro j st ⟨e,rfl,he,rfl⟩;refine br ?_ ?_<;>intro hL
 ·have al:e < es.length:=by have:=hL;simp [cj] at this;exact this
  obtain ⟨x,hx⟩:=gX al;refine iX (bn hx) ?_;have hs:(es.take (e + 1)).any (tR K)=((es.take e).any (tR K) || tR K x):=by rw [List.take_add_one,hx];simp
  have hv:(es.take (e + 1)).all (tR K)=((es.take e).all (tR K) && tR K x):=by rw [List.take_add_one,hx];simp
  generalize (es.take e).any (tR K)=s at hs ⊢;generalize (es.take e).all (tR K)=v at hv ⊢;refine br ?_ ?_<;>intro hb
  ·have hb:x.bare=false:=sU hb;obtain ⟨k,hk,iT⟩:=(kP x (mG hx)).to1 hb;obtain ⟨b,gT⟩:∃ b,K[k]? = some b:=⟨_,gE iT⟩;have hg:(wg K)[(max x.to 0).toNat]? = some [DV.v (.bool b)]:=by rw [show (max x.to 0).toNat=k by omega];exact IM gT
   have hik:tR K x=b:=by unfold tR;rw [hb,hk];simp [ek,gT]
   rw [hik] at hs hv;refine iX (bn hx) ?_;refine ⟨_,⟨by omega,hg⟩,?_⟩;have e5:pickB s true b=(es.take (e + 1)).any (tR K):=by rw [hs,ak]
   have e6:pickB v b false=(es.take (e + 1)).all (tR K):=by rw [hv,pickB_and]
   exact rE ⟨_,by omega,e + 1,rfl,by omega,rfl⟩ (wkM (Ra e5 e6 (nxt al (by omega))))
  ·have hb:x.bare=true:=sU hb;have hik:tR K x=true:=by unfold tR;rw [hb];all_goals rfl
   rw [hik] at hs hv;have e5:pickB s true true=(es.take (e + 1)).any (tR K):=by rw [hs,ak]
   have e6:pickB v true false=(es.take (e + 1)).all (tR K):=by rw [hv,pickB_and]
   exact rE ⟨_,by omega,e + 1,rfl,by omega,rfl⟩ (wkM (Ra e5 e6 (nxt al (by omega))))
 ·have aM:e=es.length:=by have:=hL;simp [cj] at this;omega
  subst aM;rw [List.take_length];refine br ?_ ?_<;>intro g
  ·have g:ag=7:=sU g;refine (bH ?_:);simp [Jm,g]
  ·have g:¬ ag=7:=sU g;refine (bH ?_:);simp [Jm,g,h7]
theorem aaa {bx:List (List DV)} {N n0 m0 n i:Nat} {r:List Bool} (hr:r.length=n) (hN:N<=i) (hb:bx[i]? = some (cB r)):Cc bx N n0 m0 (.sl 1 (wg r) none) (.ms i 1 0 n n):=by
 simp only [Cc];refine Or.inr (Or.inr (Or.inl ⟨i,0,n,_,by rw [uq,hr],hN,hb,?_,?_,?_⟩))
 ·grind [qk,rV,uq]
 ·grind [wg]
 ·intro x hx;rw [qk] at hx;obtain ⟨_,_,rfl⟩:=List.mem_map.1 hx;exact .inl ⟨_,rfl⟩
theorem OI (l:List Nat) (bx:List (List DV)) (N n m:Nat):CcL bx N n m (cN l) (cN l):=by
 induction l with
 | nil=>rfl
 | cons a r ih=>exact ⟨_,_,rfl,rfl,ih⟩
abbrev wG (a b:Nat) (A B:List (List DV)) (ND:List Nd) (z:Int):List DV:=[.sl a A none,.sl b B none,.sl 7 (cX ND) none,.v (.int .i64 z)]
abbrev OJ (W:List DV) (O:List Nat) (K:List Bool) (n d:Nat):St:=
 ⟨[aw 1 0,(3,⟨[],.ms 1 1 0 n n⟩),aU 4 1 (wg K),ap 5 d],[W,cN O],[]⟩
abbrev EB (W:List DV) (O:List Nat) (K:List Bool) (M:List Bool) (n d e:Nat):St:=
 ⟨[aw 1 0,(3,⟨[],.ms 1 1 0 n n⟩),aU 4 1 (wg K),ap 5 d,(6,⟨[],.ms 2 1 0 n n⟩),ap 7 e],[W,cN O,cB M],[]⟩
theorem yr (a b:Nat) (A B:List (List DV)) {ND:List Nd} {L:Nat} (z:Int) (bu:∀ n∈ND,dB L ND.length n) (gW:ND.length<=1099511627776) (bM:∀ n∈ND,n.aq.length<=1099511627776) :
  EvP prog 186 [.agg (wG a b A B ND z)] (.sl 1 (dInts (depN ND ND.length)) none):=by
 have dc:=jK ND;refine eG 61 [.tmp 2] func186 rfl ntmps186 rfl fun _ _ _ _=>?_;refine ⟨⟨rfl,by omega,by rw [dc];omega,by rw [dc];omega⟩,?_⟩;refine ⟨⟨rfl,by omega,by rw [dc];omega,by rw [dc];omega⟩,?_⟩;refine Ng (fun j st=>∃ d:Nat,st=OJ (wG a b A B ND z) (depN ND d) (fF (depN ND d)) (cX ND).length (d + 1)/\d<=ND.length/\j=ND.length - d) ND.length (OJ (wG a b A B ND z) (depN ND 0) (fF (depN ND 0)) (cX ND).length 1) (.H3 2 rfl rfl ?_ rfl ?_) ⟨0,rfl,by omega,by omega⟩ ?_
 ·refine ⟨_,_,rfl,ax,_,_,rfl,?_,rfl⟩;rw [repN,dc];exact OI _ _ _ _ _
 ·refine ⟨⟨_,rfl,iq⟩,⟨_,rfl,iq⟩,⟨_,rfl,aaa (by rw [nA,fD,dc];omega) (aJ _) ?_⟩,⟨_,rfl,ax⟩,trivial⟩;refine congrArg some ?_;rw [Kp,dc];simp [fF,depN]
 rintro j st ⟨d,rfl,hd,rfl⟩;have iP:(fF (depN ND d)).length=ND.length:=by rw [nA,fD]
 refine br ?_ ?_<;>intro hc
 ·have al:d < ND.length:=sW dc hc;refine ⟨⟨rfl,by omega,by rw [dc];omega,by rw [dc];omega⟩,?_⟩;refine aQ (fun j st=>∃ (e:Nat) (O:List Nat) (M:List Bool),st=EB (wG a b A B ND z) O (fF (depN ND d)) M (cX ND).length (d + 1) e/\e<=ND.length/\O.length=ND.length/\M.length=ND.length/\(∀ i:Nat,i < e->O.getD i 0=(depN ND (d + 1)).getD i 0/\M.getD i false=(fF (depN ND (d + 1))).getD i false)/\(∀ i:Nat,e<=i->O.getD i 0=(depN ND d).getD i 0)/\j=ND.length - e) ND.length (EB (wG a b A B ND z) (depN ND d) (fF (depN ND d)) (List.replicate ((cX ND).length:Int).toNat false) (cX ND).length (d + 1) 0) (wkB 3 (by repeat' (first | exact rfl | exact we_rfl rfl | exact cG rfl | exact bV (Kp _) | refine ⟨_,_,rfl,?_,?_⟩)) (by repeat' (first | exact trivial | exact we_rfl rfl | exact cG rfl | exact bV (Kp _) | refine ⟨⟨_,rfl,?_⟩,?_⟩))) ⟨0,_,_,rfl,by omega,by rw [fD],by rw [List.length_replicate,dc];omega,fun i hi=>by omega,fun i _=>rfl,by omega⟩ ?_;rintro j st ⟨e,O,M,rfl,he,hO,hM,tY,OW,rfl⟩;refine br ?_ ?_<;>intro hL
  ·have fW:e < ND.length:=by have:=hL;simp [dc] at this;exact this
   obtain ⟨n,hn⟩:∃ n,ND[e]? = some n:=⟨_,gE fW⟩;have EZ:=mG hn;have h1:=Hm (fF (depN ND d)) (by rw [iP];exact gW) (n:=n) (by rw [iP];exact bu n EZ) (bM n EZ);obtain ⟨r1,r2⟩:=OG (fun m hm=>⟨(bu m hm).k8,(bu m hm).bare⟩) d hn;refine iX (fy hn) ?_;refine cP Xq h1 ?_
   have aY:(cB M).set (0 + (e:Int).toNat * 1) (DV.v (.bool (Jm n (fF (depN ND d)))))=cB (M.set e (Jm n (fF (depN ND d)))):=by
    rw [show 0 + (e:Int).toNat * 1=e by omega,A3]
   have Qf:(cB (M.set e (Jm n (fF (depN ND d)))))[0 + (e:Int).toNat * 1]? = some (DV.v (.bool (Jm n (fF (depN ND d))))):=by
    rw [show 0 + (e:Int).toNat * 1=e by omega];exact NL (gj (by omega))
   obtain ⟨q,hq⟩:∃ q,O[e]? = some q:=⟨_,gE (by omega)⟩;have hqd:(depN ND d).getD e 0=q:=by rw [<- OW e (aJ _),ek,hq];all_goals rfl
   rw [hqd] at r1
   have hMs:∀ i:Nat,i < e + 1->(M.set e (Jm n (fF (depN ND d)))).getD i false=(fF (depN ND (d + 1))).getD i false:=fun i hi=>by
    by_cases Lh:i=e
    ·subst Lh;rw [r2,ek,gj (by omega)];all_goals rfl
    ·rw [ek,List.getElem?_set_ne (Ne.symm Lh),<- ek];exact (tY i (by omega)).2
   generalize Jm n (fF (depN ND d))=h at aY Qf r1 hMs ⊢;refine ⟨⟨by omega,by rw [dc];omega⟩,?_⟩;refine ⟨by rw [rV];omega,?_⟩;refine ⟨⟨by omega,by rw [dc];omega⟩,?_⟩;refine ⟨DV.v (.bool h),(by rw [aY];exact Qf),?_⟩
   have hOs:∀ v,v=(depN ND (d + 1)).getD e 0->∀ i:Nat,i < e + 1->(O.set e v).getD i 0=(depN ND (d + 1)).getD i 0:=fun v hv i hi=>by
    by_cases Lh:i=e
    ·subst Lh;rw [<- hv,ek,gj (by omega)];all_goals rfl
    ·rw [ek,List.getElem?_set_ne (Ne.symm Lh),<- ek];exact (tY i (by omega)).1
   have hOr:∀ v:Nat,∀ i:Nat,e + 1<=i->(O.set e v).getD i 0=(depN ND d).getD i 0:=fun v i hi=>by
    rw [ek,List.getElem?_set_ne (by omega),<- ek];exact OW i (by omega)
   have hOq:O.set e q=O:=List.ext_getElem? fun i=>by
    by_cases Lh:e=i
    ·subst Lh;rw [gj (by omega),hq]
    ·rw [List.getElem?_set_ne Lh]
   refine br ?_ ?_<;>intro g
   ·have g:h=true:=sU g;refine ⟨⟨by omega,by rw [dc];omega⟩,?_⟩;refine ⟨DV.v (.int .i64 (q:Int)),(by rw [show 0 + (e:Int).toNat * 1=e by omega];exact Va hq),?_⟩;refine br ?_ ?_<;>intro g2
    ·have g2:q=0:=by simpa [pickB,pickD] using g2
     rw [aj ⟨g,g2⟩] at r1;refine ⟨⟨by omega,by rw [dc];omega⟩,?_⟩;refine ⟨by rw [OH];omega,?_⟩
     have Ts:(cN O).set (0 + (e:Int).toNat * 1) (DV.v (.int .i64 ((d + 1:Nat):Int)))=cN (O.set e (d + 1)):=by
      rw [show 0 + (e:Int).toNat * 1=e by omega,Vb]
     exact ⟨EB (wG a b A B ND z) (O.set e (d + 1)) (fF (depN ND d)) (M.set e h) (cX ND).length (d + 1) (e + 1),(wkB 3 (wA3 Ts aY (nxt fW (by omega))) (Ra Ts aY (nxt fW (by omega)))),ND.length - (e + 1),by omega,e + 1,_,_,rfl,by omega,by simp [hO],by rw [List.length_set];exact hM,fun i hi=>⟨hOs _ r1.symm i hi,hMs i hi⟩,hOr (d + 1),rfl⟩
    ·have g2:¬ q=0:=by simpa [pickB,pickD] using g2
     rw [ai (fun h=>g2 h.2)] at r1;exact ⟨EB (wG a b A B ND z) (O.set e q) (fF (depN ND d)) (M.set e h) (cX ND).length (d + 1) (e + 1),(wkB 3 (by repeat' (first | exact rfl | exact we_rfl rfl | exact cG (by rw [hOq]) | exact bV aY | exact we_int (nxt fW (by omega)) | refine ⟨_,_,rfl,?_,?_⟩)) (by repeat' (first | exact trivial | exact we_rfl rfl | exact cG (by rw [hOq]) | exact bV aY | exact we_int (nxt fW (by omega)) | refine ⟨⟨_,rfl,?_⟩,?_⟩))),ND.length - (e + 1),by omega,e + 1,_,_,rfl,by omega,by simp [hO],by rw [List.length_set];exact hM,fun i hi=>⟨hOs _ r1.symm i hi,hMs i hi⟩,hOr q,rfl⟩
   ·have g:h=false:=sU g;rw [ai (by rw [g];simp)] at r1;exact ⟨EB (wG a b A B ND z) (O.set e q) (fF (depN ND d)) (M.set e h) (cX ND).length (d + 1) (e + 1),(wkB 3 (by repeat' (first | exact rfl | exact we_rfl rfl | exact cG (by rw [hOq]) | exact bV aY | exact we_int (nxt fW (by omega)) | refine ⟨_,_,rfl,?_,?_⟩)) (by repeat' (first | exact trivial | exact we_rfl rfl | exact cG (by rw [hOq]) | exact bV aY | exact we_int (nxt fW (by omega)) | refine ⟨⟨_,rfl,?_⟩,?_⟩))),ND.length - (e + 1),by omega,e + 1,_,_,rfl,by omega,by simp [hO],by rw [List.length_set];exact hM,fun i hi=>⟨hOs _ r1.symm i hi,hMs i hi⟩,hOr q,rfl⟩
  ·have aM:e=ND.length:=sW dc hL;subst aM
   have hO2:O=depN ND (d + 1):=OE (by rw [hO,fD]) fun j=>by
    rcases Nat.lt_or_ge j ND.length with hj | hj
    ·exact (tY j hj).1
    ·simp only [ek];rw [mB (by omega),mB (by rw [fD];omega)]
   have hM2:M=fF (depN ND (d + 1)):=Db (by rw [hM,nA,fD]) (fun j hj=>by
     rcases Nat.lt_or_ge j ND.length with h | h
     ·rw [<- (tY j h).2];exact hj
     ·rw [ek,mB (by omega)] at hj;cases hj) (fun j hj=>by
     rcases Nat.lt_or_ge j ND.length with h | h
     ·rw [(tY j h).2];exact hj
     ·rw [ek,mB (by rw [nA,fD];omega)] at hj;cases hj)
   subst hO2 hM2;refine ⟨OJ (wG a b A B ND z) (depN ND (d + 1)) (fF (depN ND (d + 1))) (cX ND).length (d + 1 + 1),.H3 2 rfl rfl ⟨_,_,rfl,ax,_,_,rfl,OI _ _ _ _ _,rfl⟩ rfl ⟨⟨_,rfl,iq⟩,⟨_,rfl,iq⟩,⟨_,rfl,aaa (by rw [nA,fD,dc]) (aJ _) rfl⟩,⟨_,rfl,?_⟩,trivial⟩,ND.length - (d + 1),by omega,d + 1,rfl,by omega,rfl⟩;exact congrArg (fun z=>DV.v (Value.int .i64 z)) (nxt (n:=1099511627777) (by omega) (by omega))
 ·have aM:d=ND.length:=sW dc hc;subst aM;exact ⟨_,ms_n (by rw [fD,dc]) (Nat.zero_le _) rfl,rfl⟩
def exH (k:Int):Hd:=⟨k,0,0,0,0,[],⟨emptyB,0⟩⟩
theorem EC {S:Sch} (hF:sM S) {i:Nat} {n:Nd} (h:(ay S)[i]? = some n) {e:Ed} (he:e∈n.aq) (hb:e.bare=true):e.ck=0:=by
 have GO:=(sa hF h).bare e he hb;rw [jj] at h;obtain ⟨t,ht,u,hu,rfl,kk⟩:=wJ h;have Gm:=wI t ⟨_,_,hF.wr t ht⟩ u hu;have hT:=GH Gm;obtain ⟨uh,us⟩:=u;simp only [Ty.h,Ty.ps] at hT;obtain ⟨p,v,k',h1,rfl,_⟩:=qu he;obtain ⟨j,hj⟩:=List.mem_iff_getElem?.1 h1;obtain ⟨_,hP⟩:=(hT.many (.inr GO)).2.2 j p v hj;rcases hP with ⟨_,_,_,iP⟩ | ⟨ep,_⟩
 ·exact (nV iP).2.2.1
 ·have:p.bare=true:=hb;rw [ep] at this;cases this
def Jn (ck:Int):Int:=if ck=3 then 5 else if ck=2 then 3 else 2
def Hn (f:Nat->Nat->Bool) (ND:List Nd) (e:Ed):Prop:=e.ck≠0->(∃ m,ND[e.to.toNat]? = some m/\m.ag=Jn e.ck)/\f e.seen.toNat e.label.toNat=true/\f e.label.toNat e.seen.toNat=false
def OL (f:Nat->Nat->Bool) (ND:List Nd):Prop:=∀ n∈ND,∀ e∈n.aq,Hn f ND e
abbrev aab (W:List DV) (e:Nat):St:=⟨[aw 1 0,aw 2 1,ap 3 e],[W,[.v (.int .i64 0),.v (.int .i64 0)]],[]⟩
abbrev Vc (W:List DV) (es:List Ed) (e k:Nat):St:=⟨[aw 1 0,aw 2 1,ap 3 e,aU 4 10 (eM es),ap 5 k],[W,[.v (.int .i64 0),.v (.int .i64 0)]],[]⟩
def W20Φ (f:Nat->Nat->Bool) (ND:List Nd) (r:DV):Prop:=∃ ft:Ft,r=ft.d/\(ft.1=0->OL f ND)
theorem BO (lv:List Wd) (f:Nat->Nat->Bool) (ND:List Nd) (z:Int) (hn:lv.length<=32) (bu:∀ n∈ND,dB lv.length ND.length n) (gW:ND.length<=1099511627776) (bM:∀ n∈ND,n.aq.length<=1099511627776) (ZQ:∀ n∈ND,∀ e∈n.aq,e.bare=true->e.ck=0) :
  Ev prog 187 [.agg (wL lv f ND z)] [] [] (fun r _ _=>W20Φ f ND r):=by
 have Fx:=jK ND;refine eG 79 [.cell 2 44] func187 rfl ntmps187 rfl fun _ _ _ _=>?_;refine lI (fun j st=>∃ e:Nat,st=aab (wL lv f ND z) e/\e<=ND.length/\(∀ c n,c < e->ND[c]? = some n->∀ x∈n.aq,Hn f ND x)/\j=ND.length - e) ⟨0,rfl,by omega,fun _ _ h=>by omega,rfl⟩ (wkM wB) ?_;rintro j st ⟨e,rfl,he,fH,rfl⟩;refine br ?_ ?_<;>intro hL
 ·have al:e < ND.length:=sV Fx hL;obtain ⟨d,hd⟩:=gX al;have hm:=mG hd;have hN:=bu d hm;have mn:=bM d hm;have dc:=cj d.aq;have Vd:=ZQ d hm;refine iX (fy hd) ?_;refine lI (fun j st=>∃ k:Nat,st=Vc (wL lv f ND z) d.aq e k/\k<=d.aq.length/\(∀ c x,c < k->d.aq[c]? = some x->Hn f ND x)/\j=d.aq.length - k) ⟨0,rfl,by omega,fun _ _ h=>by omega,rfl⟩ (wkM wB) ?_;rintro j st ⟨k,rfl,hk,NO,rfl⟩;refine br ?_ ?_<;>intro nb
  ·have gC:k < d.aq.length:=sV dc nb;obtain ⟨x,hx⟩:∃ x,d.aq[k]? = some x:=⟨_,gE gC⟩;have hmx:=mG hx;obtain ⟨ox,⟨h2,GA⟩,h3,KV⟩:=kZ hN hmx;have lz:=Vd x hmx;have OM:=(hN.jV x hmx).ck
   have zS:Hn f ND x->∀ c y,c < k + 1->d.aq[c]? = some y->Hn f ND y:=fun h c y hc hy=>by
    rcases lh hc with h1 | h1
    ·exact NO c y h1 hy
    ·rw [h1,hx] at hy;simp only [oI] at hy;rw [<- hy];exact h
   have hE:Hn f ND x=(x.ck≠0->(∃ m,ND[x.to.toNat]? = some m/\m.ag=Jn x.ck)/\f x.seen.toNat x.label.toNat=true/\f x.label.toNat x.seen.toNat=false):=rfl;generalize Hn f ND x=EX at hE zS;obtain ⟨en,eb,ea,et,yt,ew,iY,xJ,yu,tS⟩:=x;simp only at h2 GA h3 KV ox lz OM hE;obtain ⟨lb,rfl⟩:∃ n:Nat,yt=n:=⟨_,h2⟩;obtain ⟨sn,rfl⟩:∃ n:Nat,yu=n:=⟨_,h3⟩;simp only [jU] at GA KV hE;refine iX (bn hx) ?_;refine br ?_ ?_<;>intro g
   ·have g:iY=0:=sU g;exact rE ⟨_,by omega,k + 1,rfl,by omega,zS (by rw [hE];intro h;exact absurd g h),rfl⟩ (wkB 2 (yL (nxt gC (by omega))) (wB1 (nxt gC (by omega))))
   have g:¬ iY=0:=sU g
   obtain ⟨h1,uK⟩:=ox (by
    cases hb:eb
    ·rfl
    ·exact absurd (lz hb) g)
   obtain ⟨tn,rfl⟩:∃ n:Nat,et=n:=⟨_,h1⟩;simp only [jU] at uK hE;obtain ⟨m,hmt⟩:∃ m,ND[tn]? = some m:=⟨_,gE uK⟩
   have hW:∀ w:Int,w=Jn iY->(m.ag=w/\f sn lb=true/\f lb sn=false)->EX:=fun w h1 h2=>by
    rw [hE];exact fun _=>⟨⟨m,hmt,by rw [<- h1];exact h2.1⟩,h2.2⟩
   have h3c:iY=1∨iY=2∨iY=3:=by omega
   rcases h3c with rfl | rfl | rfl
   all_goals
    refine ⟨_,⟨B3 _,fy hmt⟩,?_⟩;refine br ?_ ?_<;>intro c1
    ·exact ⟨Ft.d (14,tS),ax,(14,tS),rfl,fun h=>by simp at h⟩
    refine dI ?_;refine ⟨_,⟨B3 _,dr KV⟩,?_⟩;refine ⟨_,⟨B3 _,cz GA⟩,?_⟩;refine br ?_ ?_<;>intro c2
    ·refine ⟨_,⟨B3 _,dr GA⟩,?_⟩;refine ⟨_,⟨B3 _,cz KV⟩,?_⟩;refine br ?_ ?_<;>intro c3
     ·exact ⟨Ft.d (18,tS),ax,(18,tS),rfl,fun h=>by simp at h⟩
     ·have hx:=zS (hW _ rfl ⟨by simpa [Jn] using c1,by simpa using c2,by simpa [pickB] using c3⟩);exact rE ⟨_,by omega,k + 1,rfl,by omega,hx,rfl⟩ (wkB 2 (yL (nxt gC (by omega))) (wB1 (nxt gC (by omega))))
    ·exact ⟨Ft.d (18,tS),ax,(18,tS),rfl,fun h=>by simp at h⟩
  ·have aM:k=d.aq.length:=sW dc nb;subst aM
   exact rE ⟨_,by omega,e + 1,rfl,by omega,fun c n hc hn x VL=>by
    rcases lh hc with h1 | h1
    ·exact fH c n h1 hn x VL
    ·rw [h1,hd] at hn;simp only [oI] at hn;rw [<- hn] at VL;obtain ⟨q,hq⟩:=List.mem_iff_getElem?.1 VL
     exact NO q x (gS hq).1 hq,rfl⟩ (wkM (wB1 (nxt al (by omega))))
 ·have aM:e=ND.length:=sW Fx hL;subst aM
  exact ⟨Ft.d (0,0),ax,(0,0),rfl,fun _ n hn x hx=>by
   obtain ⟨q,hq⟩:=List.mem_iff_getElem?.1 hn
   exact fH q n (gS hq).1 hq x hx⟩
structure xK (S:Sch):Prop where
 Fu:(kx S).1=0
 live:∀ i:Nat,i < (ay S).length->(depN (ay S) (ay S).length).getD i 0≠0
 eff:OL (aS S) (ay S)
abbrev aac (S:Sch) (a b:Int) (W:List DV) (D:List Nat) (e:Nat):St:=
 ⟨[aw 1 0,aw 3 1,aw 5 3,aU 6 1 (dInts D),ap 7 e],[eu S,[.v (.int .i64 0),.v (.int .i64 0)],[.v (.int .i64 a),.v (.int .i64 b)],W],[]⟩
theorem BP (S:Sch) (hS:S.wt<=1099511627776):Ev prog 102 [.agg (eu S)] [] [] (fun r _ _=>∃ (z:Int) (ft:Ft),r = .tup [.v (.int .i64 z),ft.d]/\(z=0->xK S)):=by
 have Gm:=Bb S hS;have hw:=fun h=>qq S hS h;generalize hR:kx S=R at Gm;obtain ⟨ae,order,types,⟨rh,rp⟩⟩:=S;refine eG 44 [.tmp 2,.cell 3 44] func102 rfl ntmps102 rfl fun _ _ _ _=>?_;refine cP Xb Gm ?_;refine br ?_ ?_<;>intro g
 ·refine dS ?_;exact ⟨.tup [.v (.int .i64 2),Ft.d R],ax,2,R,rfl,fun h=>by simp at h⟩
 have g:R.1=0:=sU g;have h0:(kx ⟨ae,order,types,.mk rh rp⟩).1=0:=by rw [hR];exact g
 have hF:=qp h0;have hw:=hw h0;obtain ⟨ZH,Kn⟩:=kQ hF.lat;have bu:=fun n (hn:n∈ay ⟨ae,order,types,.mk rh rp⟩)=>(List.mem_iff_getElem?.1 hn).elim fun i hi=>sa hF hi;have gW:(ay ⟨ae,order,types,.mk rh rp⟩).length<=1099511627776:=by rw [l5];exact Nat.le_trans (GG _) hS
 have bM:=fun n (hn:n∈ay ⟨ae,order,types,.mk rh rp⟩)=>(nW hn hS).2;have ZQ:=fun n (hn:n∈ay ⟨ae,order,types,.mk rh rp⟩)=>(List.mem_iff_getElem?.1 hn).elim fun i hi e he hb=>EC hF hi (e:=e) he hb;have h19:=fun A B=>yr 2 1 A B (bz ⟨ae,order,types,.mk rh rp⟩) bu gW bM;have QW:=BO ae (aS ⟨ae,order,types,.mk rh rp⟩) (ay ⟨ae,order,types,.mk rh rp⟩) (bz ⟨ae,order,types,.mk rh rp⟩) Kn bu gW bM ZQ;have VG:(∀ i:Nat,i < (ay ⟨ae,order,types,.mk rh rp⟩).length->(depN (ay ⟨ae,order,types,.mk rh rp⟩) (ay ⟨ae,order,types,.mk rh rp⟩).length).getD i 0≠0)->OL (aS ⟨ae,order,types,.mk rh rp⟩) (ay ⟨ae,order,types,.mk rh rp⟩)->xK ⟨ae,order,types,.mk rh rp⟩:=fun h1 h2=>⟨h0,h1,h2⟩;have Mv:=fD (ay ⟨ae,order,types,.mk rh rp⟩) (ay ⟨ae,order,types,.mk rh rp⟩).length;generalize depN (ay ⟨ae,order,types,.mk rh rp⟩) (ay ⟨ae,order,types,.mk rh rp⟩).length=D at h19 VG Mv;unfold aS at QW VG;generalize ee (Sch.mk ae order types (.mk rh rp)).ae.length (cW (au (Sch.mk ae order types (.mk rh rp)).ae) (Sch.mk ae order types (.mk rh rp)).order)=f at hw QW VG;generalize ay ⟨ae,order,types,.mk rh rp⟩=ND at hw h19 QW VG Mv gW bM ZQ bu;generalize bz ⟨ae,order,types,.mk rh rp⟩=rt at hw h19 QW;have Ce:=bl D;obtain ⟨R1,R2⟩:=R;simp only at g;subst g;refine cP WE hw ?_;refine cP Xc (h19 _ _) ?_;refine lI (fun j st=>∃ e:Nat,st=aac ⟨ae,order,types,.mk rh rp⟩ 0 R2 (wL ae f ND rt) D e/\e<=D.length/\(∀ i < e,D.getD i 0≠0)/\j=D.length - e) ⟨0,rfl,by omega,fun _ h=>by omega,rfl⟩ (wkM wB) ?_;rintro j st ⟨e,rfl,he,fH,rfl⟩;refine br ?_ ?_<;>intro hL
 ·have al:e < D.length:=sV Ce hL;obtain ⟨x,hx⟩:=gX al;obtain ⟨d,hd⟩:∃ d,ND[e]? = some d:=⟨_,gE (by omega)⟩;refine iX (dK hx) ?_;refine br ?_ ?_<;>intro c
  ·refine dS ?_;refine iX (fy hd) ?_;exact ⟨.tup [.v (.int .i64 3),Ft.d (11,d.at')],ax,3,(11,d.at'),rfl,fun h=>by simp at h⟩
  ·have c:x≠0:=by simp at c;omega
   exact rE ⟨_,by omega,e + 1,rfl,by omega,fun i hi=>by
    rcases lh hi with h1 | h1
    ·exact fH i h1
    ·rw [h1,ek,hx];exact c,rfl⟩ (wkB 4 (yL (nxt al (by omega))) (wB1 (nxt al (by omega))))
 ·have aM:e=D.length:=sW Ce hL;subst aM;refine bp Xd rfl QW ax (fun r hr=>?_);obtain ⟨ft,rfl,Sw⟩:=hr;refine br ?_ ?_<;>intro c
  ·refine dS ?_;exact ⟨.tup [.v (.int .i64 4),Ft.d ft],ax,4,ft,rfl,fun h=>by simp at h⟩
  ·have c:ft.1=0:=sU c;exact ⟨.tup [.v (.int .i64 0),Ft.d (0,0)],ax,0,(0,0),rfl,fun _=>VG (fun i hi=>fH i (by omega)) (Sw c)⟩
theorem ED (S:Sch) (hS:S.wt<=1099511627776):Ev prog 44 [.agg (eu S)] [] [] (fun r _ _=>∃ b:Bool,r = .v (.bool b)/\(b=true->xK S)):=by
 have hw:=BP S hS;obtain ⟨ae,order,types,⟨rh,rp⟩⟩:=S;refine eG 12 [.tmp 2] func44 rfl ntmps44 rfl fun _ _ _ _=>?_;refine bp WT rfl hw ax (fun r hr=>?_);obtain ⟨z,ft,rfl,hz⟩:=hr;exact ⟨_,rfl,fun h=>hz (sU h)⟩
theorem qH (lv:List Wd) (f:Nat->Nat->Bool) (ND:List Nd) (z:Int) (hL:eY f lv.length) (hn:lv.length<=32) (d:Nd) (e:Ed) (a:Nat) (ha:a < lv.length) (hN:dB lv.length ND.length d) (hm:e∈d.aq) :
  EvP prog 135 [.agg (wL lv f ND z),.agg (kN d),.agg (tQ e),.v (.int .i64 a)] (.v (.int .i64 (if d.ag < 7 then a else wX f lv.length a e.label.toNat:Nat))):=by
 obtain ⟨_,⟨h2,GA⟩,_⟩:=kZ hN hm;obtain ⟨ag,at',lo,hi,most,af,es⟩:=d;obtain ⟨en,eb,ea,et,yt,ew,iY,xJ,yu,tS⟩:=e;simp only at h2 GA;obtain ⟨lb,rfl⟩:∃ n:Nat,yt=n:=⟨_,h2⟩;simp only [jU] at GA ⊢;have hj:=ka lv.length f (by omega) a lb ha GA;rw [wZ hL ha GA] at hj;refine eG 19 [.tmp 8] func135 rfl ntmps135 rfl fun _ _ _ _=>?_;refine br ?_ ?_<;>intro c
 ·have c:ag < 7:=sU c;rw [aj c];exact (rfl:_=_)
 ·have c:¬ ag < 7:=sU c;rw [ai c];refine cP Ia hj ?_;exact (rfl:_=_)
theorem Ho (lv:List Wd) (f:Nat->Nat->Bool) (ND:List Nd) (z:Int) (hL:eY f lv.length) (hn:lv.length<=32) (d:Nd) (e:Ed) (obs a:Nat) (ho:obs < lv.length) (ha:a < lv.length) (hN:dB lv.length ND.length d) (hm:e∈d.aq) :
  EvP prog 134 [.agg (wL lv f ND z),.v (.int .i64 obs),.agg (kN d),.agg (tQ e),.v (.int .i64 a)] (.v (.int .i64 (k0 f lv.length obs d e a:Nat))):=by
 have hu:=qH lv f ND z hL hn d e a ha hN hm;obtain ⟨_,⟨h2,GA⟩,h3,KV⟩:=kZ hN hm
 have hul:(if d.ag < 7 then a else wX f lv.length a e.label.toNat) < lv.length:=by
  split
  ·exact ha
  ·exact Bl hL ha GA
 have hH:k0 f lv.length obs d e a=if f (if d.ag < 7 then a else wX f lv.length a e.label.toNat) obs=true then 2 else if e.ck≠0/\f (wX f lv.length a e.seen.toNat) obs=true then 1 else 0:=rfl
 generalize k0 f lv.length obs d e a=H at hH ⊢;generalize (if d.ag < 7 then a else wX f lv.length a e.label.toNat)=u at hu hul hH;obtain ⟨ag,at',lo,hi,most,af,es⟩:=d;obtain ⟨en,eb,ea,et,yt,ew,iY,xJ,yu,tS⟩:=e;simp only at h3 KV hH;obtain ⟨sn,rfl⟩:∃ n:Nat,yu=n:=⟨_,h3⟩;simp only [jU] at KV hH;have hj:=ka lv.length f (by omega) a sn ha KV;rw [wZ hL ha KV] at hj;have n8:=Bl hL ha KV;refine eG 41 [.tmp 10] func134 rfl ntmps134 rfl fun _ _ _ _=>?_;refine dI ?_;refine cD en135 hu ?_;refine iX (dr hul) ?_;refine iX (cz ho) ?_;refine br ?_ ?_<;>intro c
 ·have c:f u obs=true:=sU c;rw [aj c] at hH;subst hH;exact (rfl:_=_)
 have c:f u obs=false:=sU c;rw [ai (by rw [c];simp)] at hH;refine dI ?_;refine br ?_ ?_<;>intro g
 ·have g:iY≠0:=sU g;refine cD Ia hj ?_;refine ⟨_,⟨by simp [oz],by simpa [oz] using dr n8⟩,?_⟩;refine iX (cz ho) ?_;refine br ?_ ?_<;>intro c2
  ·have c2:f (wX f lv.length a sn) obs=true:=by simpa [pickB] using c2
   rw [aj ⟨g,c2⟩] at hH;subst hH;exact (rfl:_=_)
  ·have c2:f (wX f lv.length a sn) obs=false:=by simpa [pickB] using c2
   rw [ai (by rw [c2];simp)] at hH;subst hH;exact (rfl:_=_)
 ·have g:iY=0:=sU g;rw [ai (by simp [g])] at hH;subst hH;exact (rfl:_=_)
theorem Hp {ND:List Nd} {ks:List Val} {f:Nat->Int} {e:Nat} {x:Val} (h:ks[e]? = some x):refVs ND (ks.drop e) f e=(wV ND x (f e) && refVs ND (ks.drop (e + 1)) f (e + 1)):=by
 rw [drop_cons h,refVs]
abbrev Ve (W:List DV) (v:Val) (d:Nd) (ok:Bool) (e:Nat):St:=
 ⟨[aw 3 0,aw 5 1,aw 7 2,Ar 8 ok,ap 9 e],[W,dVal v,kN d],[]⟩
set_option maxHeartbeats 4000000 in
theorem te (a b:Nat) (A B:List (List DV)) (rt:Int) {ND:List Nd} {L:Nat} (bu:∀ n∈ND,dB L ND.length n):∀ (k:Nat) (v:Val),v.wt<=k->v.wt<=1099511627776->∀ i:Int,EvP prog 81 [.agg (wG a b A B ND rt),.v (.int .i64 i),.agg (dVal v)] (.v (.bool (wV ND v i)))
 | 0,v,h,_=>by have:=v.cT;omega
 | k + 1,.mk q z s ks,h,hb=>fun i=>by
  have ih:=te a b A B rt bu k;have iT:=cw ks;have dc:=aX ks;have ep:=hb;rw [Val.wt] at h hb;rw [wV];have Fx:=jK ND
  cases hd:cm ND i with
  | none=>
   have hn:=wW hd;refine eG 164 [.tmp 6] func81 rfl ntmps81 rfl fun _ _ _ _=>?_;refine br (fun _=>?_) (fun c=>?_)
   ·exact (rfl:_=_)
   ·grind [ak]
  | some d=>
   obtain ⟨h0,hg⟩:=bR hd;obtain ⟨j,rfl⟩:∃ j:Nat,i=j:=⟨i.toNat,by omega⟩;have hg:ND[j]? = some d:=sU hg;have n8:=(gS hg).1;have hN:=bu d (mG hg);have oi:=hN.k1;have GO:=hN.k8;have sS:=hN.many;have ox:=fun m=>to25_spec hN (.mk q z s ks) m;simp only;have mn:=cj d.aq;have hbl:=bL d.af;generalize hf:wU d (.mk q z s ks)=f at ox;have hF:I6 d (.mk q z s ks)=I6 d (.mk q z s ks):=rfl;obtain ⟨ag,at',lo,hi,most,af,es⟩:=d;simp only at oi GO sS mn hbl;have hkc:((ks.length:Int)=(es.length:Int))↔ks.length=es.length:=by omega
   have NQ:∀ b:Bool,b=pickB (pickB (!decide (q=ag)) true (pickB (!decide (q=3)) (!decide (s=⟨#[]⟩)) false)) true (pickB (decide (0 < (s.size:Int))) (decide (most < (s.size:Int))) false)->b=Bj ⟨ag,at',lo,hi,most,af,es⟩ (.mk q z s ks):=fun b h=>by
    rw [h,se,Bool.eq_iff_iff];have hB:Bj ⟨ag,at',lo,hi,most,af,es⟩ (.mk q z s ks)=(decide (q≠ag) || (decide (q≠3) && decide (s≠emptyB)) || (decide (0 < s.size) && decide (most < (s.size:Int)))):=rfl;rw [hB];simp [ak,pickB_and,or_assoc]
   refine eG 164 [.tmp 6] func81 rfl ntmps81 rfl fun _ _ _ _=>?_;refine br (fun c=>?_) (fun _=>?_)
   ·grind [ak]
   refine iX (fy hg) ?_;refine br ?_ ?_<;>intro c
   ·have c:=(NQ _ rfl).symm.trans c;rw [aj c];exact (rfl:_=_)
   have c:=(NQ _ rfl).symm.trans c;rw [ai (by rw [c];simp)];rcases (show ag=1∨ag=2∨ag=3∨ag=4∨ag=5∨ag=6∨ag=7∨ag=8 by omega) with c | c | c | c | c | c | c | c
   all_goals
    repeat (first | (refine br (fun h=>?_) (fun _=>?_);focus (simp [c] at h;done)) | (refine br (fun _=>?_) (fun h=>?_);rotate_left;focus (simp [c] at h;done)))
   all_goals
    try
     refine dI ?_;have hc:∀ b:Bool,b=pickB (decide (0<=z)) (decide (z < ((eM es).length:Int))) false->b=decide (0<=z/\z < es.length):=fun b h=>by grind [pickB_and]
     refine br (fun g=>?pp) (fun g=>?nn)
     case' pp=>
      have g8:=of_decide_eq_true ((hc _ rfl).symm.trans (sU g));obtain ⟨x,hx8⟩:∃ x,es[z.toNat]? = some x:=⟨_,gE (by omega)⟩;have hm64:=(sS (.inr c)).1;have hw:max 0 (min z (IntKind.i64.wrap (((eM es).length:Int) - 1)))=z:=by rw [mn,wrap64 (by omega) (by omega)];omega
      refine ⟨_,⟨Int.le_max_left _ _,by rw [hw];exact bn hx8⟩,?_⟩;show og _ _ _ _
     case' nn=>
      have g8:=of_decide_eq_false ((hc _ rfl).symm.trans (sU g));show og _ _ _ _
   all_goals
    refine aQ (fun j st=>∃ (e:Nat) (ok:Bool),st=Ve (wG a b A B ND rt) (.mk q z s ks) ⟨ag,at',lo,hi,most,af,es⟩ ok e/\e<=ks.length/\(I6 ⟨ag,at',lo,hi,most,af,es⟩ (.mk q z s ks) && refVs ND ks f 0)=(ok && refVs ND (ks.drop e) f e)/\j=ks.length - e) ks.length (Ve (wG a b A B ND rt) (.mk q z s ks) ⟨ag,at',lo,hi,most,af,es⟩ _ 0) (wkM wB) ⟨0,_,rfl,by omega,congrArg (fun b=>b && refVs ND ks f 0) ?_,by omega⟩ ?_
    ·grind [I6,ak,pickB_and,Val.n,Val.ks]
    ·rintro _ st ⟨e,ok,rfl,he,aG,rfl⟩;refine br ?_ ?_<;>intro hL
     ·have hL:e < ks.length/\ok=true:=by grind [pickB_and]
      obtain ⟨al,hok1⟩:=hL;obtain ⟨x,hx⟩:=gX al;have O4:=cJ (mG hx);rw [hok1,Bool.true_and,Hp hx] at aG;have gk:=ih x (by omega) (by omega) (f e);obtain ⟨xk,xn,xs,xl⟩:=x;refine dI ?_;refine cD W9 (ox e) ?_;refine iX (dVals_get hx) ?_;refine cD WO gk ?_;exact ⟨Ve (wG a b A B ND rt) (.mk q z s ks) ⟨ag,at',lo,hi,most,af,es⟩ _ (e + 1),(wkM (wB1 (nxt al (by omega)))),ks.length - (e + 1),by omega,e + 1,_,rfl,by omega,aG,rfl⟩
     ·have hL:¬ (e < ks.length/\ok=true):=by grind [pickB_and]
      refine (bH ?_:);rw [aG]
      cases ok with
      | false=>rfl
      | true=>rw [List.drop_of_length_le (by simp at hL;omega),refVs];all_goals rfl
theorem Jo {d:Nd} {z:Int} {j:Nat} {e:Ed} (h:wU d (.mk 0 z emptyB []) j=e.to) (h0:0<=e.to) (c:d.ag=8):0<=z/\z < d.aq.length:=by
 unfold wU at h;rw [ai (by omega),ai (by omega),ai (by omega),aj c] at h;split at h
 ·rename_i g;exact ⟨g.2.1,g.2.2⟩
 ·omega
theorem tf (d:Nd) (v:Val) (j:Nat) (e:Ed) (h:bG d v.n j=some e) (hz:d.ag=8->0<=v.n/\v.n < d.aq.length) (iR:d.aq.length<=1099511627776) :
  EvP prog 64 [.agg (kN d),.agg (dVal v),.v (.int .i64 j)] (.agg (tQ e)):=by
 obtain ⟨ag,at',lo,hi,most,af,es⟩:=d;obtain ⟨k,n,s,ks⟩:=v;simp only [Val.n] at h hz iR;have mn:=cj es;unfold bG at h;simp only at h;refine eG 28 [.cell 6 144] func64 rfl ntmps64 rfl fun _ _ _ _=>?_;refine br ?_ ?_<;>intro c
 ·have c:ag=7:=sU c;rw [aj c] at h;have hj:=(gS h).1;refine iX (bn h) ?_;exact ⟨_,ax,rfl⟩
 have c7:¬ ag=7:=sU c;rw [ai c7] at h;refine br ?_ ?_<;>intro c
 ·have c:ag=8:=sU c;rw [aj c] at h;have hz:=hz c;refine iX (bn h) ?_;exact ⟨_,ax,rfl⟩
 have c8:¬ ag=8:=sU c;rw [ai c8] at h;refine iX (bn h) ?_;exact ⟨_,ax,rfl⟩
theorem yv (e:Ed) (v:Val) (hn : -9223372036854775808<=v.n/\v.n<=9223372036854775807) (hs:v.wt<=1099511627776) (hc : -9223372036854775808<=e.cn/\e.cn<=9223372036854775807) :
  EvP prog 229 [.agg (tQ e),.agg (dVal v)] (.agg (dVal (aW e v))):=by
 have hw:v.s.size<=1099511627776/\v.ks.length<=1099511627776:=by
  obtain ⟨k,n,s,ks⟩:=v;have:=cw ks;rw [Val.wt] at hs;show s.size<=_/\ks.length<=_;omega
 have hf:=Bh v.n e.cn hn hc;have hh:=s5 e.cn.toNat v.s hw.1 e.cn hc.2 rfl
 have hA:e.ck=1->v.k=2->(aF v.n e.cn).2=true->aW e v = .mk 10 (aF v.n e.cn).1 emptyB []:=fun h1 h2 h3=>by
  unfold aW;rw [aj ⟨h1,h2,h3⟩]
 have hB:e.ck=2->v.k=3->aW e v = .mk 11 0 (ba (headL e.cn.toNat (tx v.s))) []:=fun h1 h2=>by grind [aW]
 have hC:e.ck=3->v.k=5->aW e v = .mk 12 v.ks.length emptyB []:=fun h1 h2=>by grind [aW]
 have hD:¬ (e.ck=1/\v.k=2/\(aF v.n e.cn).2=true)->¬ (e.ck=2/\v.k=3)->¬ (e.ck=3/\v.k=5)->aW e v = .mk 9 e.wide emptyB []:=fun h1 h2 h3=>by
  unfold aW;rw [ai h1,ai h2,ai h3];rfl
 generalize aW e v=C at hA hB hC hD ⊢;obtain ⟨en,eb,ea,et,yt,ew,iY,xJ,yu,tS⟩:=e;obtain ⟨k,n,s,ks⟩:=v;simp only [Val.k,Val.n,Val.s,Val.ks] at hA hB hC hD hf hh hw;have dc:=aX ks;generalize aF n xJ=fl at hf hA hD;obtain ⟨fz,fb⟩:=fl;unfold wR at hf;simp only at hA hD;generalize headL xJ.toNat (tx s)=H at hh hB;refine eG 55 [.cell 4 34] func229 rfl ntmps229 rfl fun _ _ _ _=>?_;refine br ?_ ?_<;>intro c
 ·have c:iY=1/\k=2:=by simpa [pickB_and] using c
  refine cP Xl hf ?_
  cases fb with
  | true=>
   rw [hA c.1 c.2 rfl];exact ⟨_,ax,rfl⟩
  | false=>
   rw [hD (by simp) (by omega) (by omega)];obtain ⟨rfl,rfl⟩:=c;exact ⟨_,ax,rfl⟩
 have c1:¬ (iY=1/\k=2):=by simpa [pickB_and] using c
 refine br ?_ ?_<;>intro c
 ·have c:iY=2/\k=3:=by simpa [pickB_and] using c
  refine cP Rw hh ?_;rw [hB c.1 c.2];exact ⟨_,ax,rfl⟩
 have c2:¬ (iY=2/\k=3):=by simpa [pickB_and] using c
 refine br ?_ ?_<;>intro c
 ·have c:iY=3/\k=5:=by simpa [pickB_and] using c
  rw [hC c.1 c.2,<- dc];exact ⟨_,ax,rfl⟩
 have c3:¬ (iY=3/\k=5):=by simpa [pickB_and] using c
 rw [hD (fun h=>c1 ⟨h.1,h.2.1⟩) c2 c3];exact ⟨_,ax,rfl⟩
theorem ccE_hid (w:Int):∀ l:List Val,CcE [] 0 (dVals l ++ [dVal (.mk 9 w emptyB [])]) (dVals l ++ [[.v (.int .i64 9),.v (.int .i64 w),.v (.string emptyB),.v (.slice none 0 0)]])
 | []=>by
  simp only [dVals,dVal,List.nil_append,CcE];refine ⟨_,_,rfl,.inr ?_,rfl⟩;exact ax
 | v :: l=>by
  have:=ccE_hid w l
  grind [dVals,CcE]
abbrev ON (W:List DV) (v:Val) (obs a:Nat) (d:Nd) (o:List Val) (q e:Nat):St:=
 ⟨[ap 1 obs,ap 3 a,aw 5 0,aw 9 1,aw 10 2,aw 11 3,aw 12 4,ap 13 e],
  [W,dVal v,[.v (.int .i64 0),.v (.int .i64 0),.v (.string emptyB),.v (.slice none 0 0)],kN d,[.v (.int .i64 v.k),.v (.int .i64 v.n),.v (.string v.s),.sl 4 (dVals o) (some 0)]],[⟨q,34,4,none⟩]⟩
theorem qI (lv:List Wd) (f:Nat->Nat->Bool) (ND:List Nd) (z:Int) (hL:eY f lv.length) (hn:lv.length<=32) (bu:∀ n∈ND,dB lv.length ND.length n) (bM:∀ n∈ND,n.aq.length<=1099511627776) (IZ:∀ n∈ND,BN n) (obs:Nat) (ho:obs < lv.length) :
  ∀ (k:Nat) (v:Val),v.wt<=k->v.wt<=1099511627776->rngW v->∀ (i:Int) (a:Nat),a < lv.length->fitV ND v i=true ->
   EvP prog 161 [.agg (wL lv f ND z),.v (.int .i64 obs),.v (.int .i64 i),.v (.int .i64 a),.agg (dVal v)] (.agg (dVal (eraseV ND f lv.length obs v i a)))
 | 0,v,h,_=>by have:=v.cT;omega
 | k + 1,v,h,hb=>fun hr i a ha eB=>by
  have ih:=qI lv f ND z hL hn bu bM IZ obs ho k;obtain ⟨d,hF⟩:=jk bu eB;obtain ⟨h0,hg⟩:=bR hF.ah;obtain ⟨j,rfl⟩:∃ j:Nat,i=j:=⟨i.toNat,by omega⟩;have hg:ND[j]? = some d:=sU hg;have lp:=mG hg;have hN:=bu d lp;have xL:=fun {m:Nat} {x:Val}=>Bn (m:=m) (x:=x) bu eB hF;have EE:=bM d lp;have OO:=IZ d lp;have n8:=(gS hg).1
  have hE:eraseV ND f lv.length obs v j a = .mk v.k v.n v.s (eraseVs ND f lv.length obs v.ks d v.n a 0):=by
   obtain ⟨q,z,s,ks⟩:=v;rw [eraseV,hF.ah];rfl
  rw [hE];have hOl:=kh (ND:=ND) (f:=f) (L:=lv.length) (obs:=obs) v.ks d v.n a 0;have Vf:=fun {m:Nat} {x:Val}=>o6 (ND:=ND) (f:=f) (L:=lv.length) (obs:=obs) (ks:=v.ks) (d:=d) (z:=v.n) (a:=a) (j:=0) (m:=m) (x:=x);generalize eraseVs ND f lv.length obs v.ks d v.n a 0=O at hOl Vf ⊢;obtain ⟨vk,vn,vs,ks⟩:=v;have iT:=cw ks;have dc:=aX ks;rw [Val.wt] at h hb;have O9:=n4 hr;simp only [Val.ks,Val.n,Val.k,Val.s] at xL hOl Vf O9 ⊢;have Vg:=fun e (he:e∈d.aq)=>qH lv f ND z hL hn d e a ha hN he;have hhow:=fun e (he:e∈d.aq)=>Ho lv f ND z hL hn d e obs a ho ha hN he;obtain ⟨ag,at',lo,hi,most,af,es⟩:=d;refine eG 81 [.cell 10 34] func161 rfl ntmps161 rfl fun _ _ _ _=>?_;refine iX (fy hg) ?_;refine aQ (fun t st=>∃ e q:Nat,st=ON (wL lv f ND z) (.mk vk vn vs ks) obs a ⟨ag,at',lo,hi,most,af,es⟩ (O.take e) q e/\q=e/\e<=ks.length/\t=ks.length - e) ks.length (ON (wL lv f ND z) (.mk vk vn vs ks) obs a ⟨ag,at',lo,hi,most,af,es⟩ [] 0 0) (de 5 ⟨0,34,4,none⟩ rfl rfl rfl tH rfl rfl jT) ⟨0,0,by rw [List.take_zero],rfl,by omega,by omega⟩ ?_;rintro t st ⟨e,q,rfl,hq,he,rfl⟩;refine br ?_ ?_<;>intro qd
  ·have al:e < ks.length:=sV dc qd;obtain ⟨x,hx⟩:=gX al;obtain ⟨ed,hK⟩:=xL hx;have hm:=mG hx;have QV:=cJ hm;have mA:=dO O9 hm;have hxe:=Vf hx;rw [Nat.zero_add,hK.jV] at hxe;simp only at hxe;obtain ⟨h1,h2⟩:=I8 hN hK.mem hK.bare;have kP:=tf ⟨ag,at',lo,hi,most,af,es⟩ (.mk vk vn vs ks) e ed hK.jV (Jo hK.to' h1) EE;have hun:=Vg ed hK.mem;have hho:=hhow ed hK.mem;have hcv:=yv ed x (xc mA) (by omega) (OO.2.2 ed hK.mem);have hrec:=ih x (by omega) (by omega) mA ed.to (iL f lv.length ⟨ag,at',lo,hi,most,af,es⟩ ed a) (Bp hL hN hK.mem ha) hK.fit;have Vh:(O.take e).length=e:=by rw [dE];omega
   have hdOl:(dVals (O.take e)).length=e:=by rw [aX,Vh]
   have hund:(iL f lv.length ⟨ag,at',lo,hi,most,af,es⟩ ed a)=if ag < 7 then a else wX f lv.length a ed.label.toNat:=rfl
   have nG:k0 f lv.length obs ⟨ag,at',lo,hi,most,af,es⟩ ed a<=2:=by
    rw [Bo]
    repeat' split
    all_goals omega
   obtain ⟨xk,xn,xs,xks⟩:=x;generalize k0 f lv.length obs ⟨ag,at',lo,hi,most,af,es⟩ ed a=H at hho hxe nG;refine cP TJ kP ?_;refine cP W2 hho ?_;have fx:∀ y:Val,O[e]? = some y->dVals (O.take e) ++ [dVal y]=dVals (O.take (e + 1)):=fun y hy=>wM hy;refine br ?_ ?_<;>intro c
   ·have c:H=2:=by
     have:=of_decide_eq_true c;omega
    rw [aj c] at hxe;generalize eraseV ND f lv.length obs (.mk xk xn xs xks) ed.to (iL f lv.length ⟨ag,at',lo,hi,most,af,es⟩ ed a)=Y at hrec hxe;obtain ⟨yk,yn,ys,yks⟩:=Y;have di:=fx _ hxe;refine dS ?_;refine cD en135 hun ?_;refine iX (dVals_get hx) ?_;refine cD en161 hrec ?_;refine ⟨by rw [hdOl,hq],⟨by simp [maxLen,hdOl];omega,by simp [hdOl];omega⟩,?_⟩;exact rE ⟨_,by omega,e + 1,q + 1,rfl,by omega,by omega,rfl⟩ (wkB 5 (wA2 (nxt al (by omega)) di) (wB2 (nxt al (by omega)) di))
   ·have c2:¬ H=2:=by
     have:=of_decide_eq_false c;omega
    rw [ai c2] at hxe;refine br ?_ ?_<;>intro c
    ·have c:H=1:=by
      have:=of_decide_eq_true c;omega
     rw [aj c] at hxe;generalize aW ed (.mk xk xn xs xks)=Y at hcv hxe;obtain ⟨yk,yn,ys,yks⟩:=Y;have di:=fx _ hxe;refine dS ?_;refine iX (dVals_get hx) ?_;refine cD en229 hcv ?_;refine ⟨by rw [hdOl,hq],⟨by simp [maxLen,hdOl];omega,by simp [hdOl];omega⟩,?_⟩;exact rE ⟨_,by omega,e + 1,q + 1,rfl,by omega,by omega,rfl⟩ (wkB 5 (wA2 (nxt al (by omega)) di) (wB2 (nxt al (by omega)) di))
    ·have c1:¬ H=1:=by
      have:=of_decide_eq_false c;omega
     rw [ai c1] at hxe;have di:=fx _ hxe;have hcc:=ccE_hid ed.wide (O.take e);rw [show dVals (O.take e) ++ [dVal (.mk 9 ed.wide emptyB [])]=dVals (O.take (e + 1)) from di] at hcc;refine ⟨by rw [hdOl,hq],⟨by simp [maxLen,hdOl];omega,by simp [hdOl];omega⟩,?_⟩;exact rE ⟨_,by omega,e + 1,q + 1,rfl,by omega,by omega,rfl⟩ (wkB 5 (by repeat' (first | exact rfl | exact we_rfl rfl | exact we_int (nxt al (by omega)) | exact we_es hcc rfl | refine ⟨_,_,rfl,?_,?_⟩)) (by repeat' (first | exact trivial | exact we_rfl rfl | exact we_int (nxt al (by omega)) | exact we_es hcc rfl | refine ⟨⟨_,rfl,?_⟩,?_⟩)))
  ·have aM:e=ks.length:=sW dc qd;subst aM;rw [List.take_of_length_le (by omega)];exact ⟨_,ax,rfl⟩
theorem BQ {v:Val} (h:rngW v):od v.n:=by obtain ⟨_,_,_,_⟩:=v;rw [rngW] at h;exact h.2.1
theorem EF {L:Nat} {ND:List Nd} (bu:∀ d∈ND,dB L ND.length d) {v:Val} {i:Int} (hr:rngW v) (h:iW ND v i=true):textV ND v i ≠ []:=by
 obtain ⟨d,hd,hc⟩:=iC h;have h1:=(uy (bu d (mG (bR hd).2)) (BQ hr) hc).1;obtain ⟨k,n,s,ks⟩:=v;rw [textV,hd];simp [h1]
def QX (ND:List Nd) (x:Val) (i:Int) (B:Bool):List UInt8:=if B=true then textV ND x i else []
theorem BR {S:Sch} {ND:List Nd} {PC:List DV} (hP:iM S ND PC) (x:Val) (hx:x.wt<=1099511627776) (mA:rngW x) (o:Int) (B:Bool) (eB:EvP prog 58 [.pt PC 0,.v (.int .i64 o),.agg (dVal x)] (.v (.bool B))) (hw:B=true->iW ND x (bz S)=true) :
  EvP prog 226 [.pt PC 0,.v (.int .i64 o),.agg (dVal x)] (.tup [.v (.string (ba (QX ND x (bz S) B))),.v (.bool B)]):=by
 have fi:=hP.root;have aT:=fun h=>EF hP.ok mA (hw h);have Gm:=fun h p hp=>mc hP x x.wt x (aJ _) hx mA (bz S) (hw h) [] p hp (by rw [List.length_nil];omega);unfold QX;simp only [List.nil_append] at Gm;generalize textV ND x (bz S)=T at *;generalize bz S=rt at *;clear hw;obtain ⟨k,n,s,ks⟩:=x;refine tZ (s:=false) (bt:=[(1,160)]) (hbt:=fun p hp=>Nat.zero_le _) (P:=prog) tt om 5000 20 [.tmp 6,.tmp 7] func226 rfl ntmps226 rfl (nL rfl) (fun _ _ _ _=>?_);refine cP en58 eB ?_
 cases B with
 | false=>
  rw [ai (by simp)];exact ⟨.tup [.v (.string _),.v (.bool _)],ax,rfl⟩
 | true=>
  rw [aj rfl];refine j3 (fun i=>Nat.beq i 4) mo (by decide +kernel) ?_;refine cD Fy fi ?_;refine jz rfl (xm ⟨0,5,1,none⟩ ⟨[aw 8 1],[dVal (.mk k n s ks),[.v (.pointer none),.sl 1 [] (some 0)]],[⟨0,5,1,none⟩]⟩ rfl ?_ rfl ?_ ⟨⟨_,rfl,we_rfl rfl⟩,trivial⟩ rfl rfl ?_)
  ·repeat' (first | exact rfl | exact we_rfl rfl | refine ⟨_,_,rfl,?_,?_⟩)
  ·repeat' (first | exact rfl | exact we_rfl rfl | exact bN (aJ _) rfl | refine ⟨_,_,rfl,?_,?_⟩)
  refine kK 2 1 yU rfl rfl rfl iq iq (Gm rfl (.v (.pointer none)) (.inl rfl)) (fun r gF bP hΦ h1 h2=>?_);obtain ⟨rfl,rfl,rfl⟩:=hΦ;refine Bw rfl (kt:=0) (l:=T) (.head _) rfl (aT rfl) rfl rfl rfl rfl ?_;exact ⟨.tup [.v (.string _),.v (.bool _)],ax,rfl⟩
theorem Hq (v:Val) (hv:v.wt<=1099511627776):EvP prog 269 [.agg (dVal v)] (.v (.string (ba (jX v)))):=by
 have e5:=@end_5 v;have e7:=@end_7 v;have en:=@Jg v;have es9:=@SV v;generalize jX v=Z at *;obtain ⟨k,n,s,ks⟩:=v;have dc:=aX ks;simp only [Val.k,Val.ks] at *;refine eG 13 [.tmp 2] func269 rfl ntmps269 rfl fun _ _ _ _=>?_;refine br ?_ ?_<;>intro c
 ·rw [e5 (sU c)];exact (rfl:_=_)
 have c5:¬ k=5:=sU c;refine br ?_ ?_<;>intro c
 ·rw [e7 (sU c)];exact (rfl:_=_)
 have c7:¬ k=7:=sU c;refine br ?_ ?_<;>intro g
 ·have g:ks ≠ []:=by rintro rfl;simp [dc] at g
  rw [es9 ⟨c5,c7⟩ g];exact (rfl:_=_)
 ·have g:ks=[]:=sV dc g;rw [en ⟨c5,c7⟩ g];exact (rfl:_=_)
theorem tg (d:Nd) (v:Val) (hs:v.s.size<=1099511627776) (hn:od v.n) (h4:v.k=4->0<=v.n/\v.n < d.af.length) (h8:v.k=8->0<=v.n/\v.n < d.aq.length) (Kn:∀ e∈d.aq,v.k=8->e.name.size<=32) :
  EvP prog 268 [.agg (kN d),.agg (dVal v)] (.v (.string (ba (opnT d v)))):=by
 have hl:=Ha v hs hn;have o1:=@opn_1 d v;have o2:=@Hb d v;have o3:=fun x=>@opn_4 d v x;have o4:=@zW d v;have o5:=@opn_5 d v;have o6n:=@Hc d v;have o6s:=@He d v;have o7:=@opn_7 d v;have o8n:=fun e=>@Hf d v e;have o8s:=fun e=>@Hg d v e;generalize opnT d v=O at *;generalize dC v=S at *;generalize cR v=B at *;obtain ⟨ag,at',lo,hi,most,af,es⟩:=d;obtain ⟨k,n,s,ks⟩:=v;have dc:=aX ks;simp only [Val.k,Val.n,Val.ks] at *
 have hgp:∀ b:Bool,b=decide (0 < ((dVals ks).length:Int))->(b=true->ks ≠ [])/\(b=false->ks=[]):=fun b hb=>by
  rw [hb,dc];refine ⟨fun g=>?_,fun g=>by simpa using g⟩;rintro rfl;simp at g
 refine eG 58 [.tmp 4] func268 rfl ntmps268 rfl fun _ _ _ _=>?_;obtain ⟨hM1,hM2⟩:=hgp _ rfl;refine br ?_ ?_<;>intro c
 ·have c:k=1:=sU c;refine br ?_ ?_<;>intro g
  ·rw [o1 c (sU g)];exact (rfl:_=_)
  ·rw [o2 c (sU g)];exact (rfl:_=_)
 have c1:¬ k=1:=sU c;refine br ?_ ?_<;>intro c
 ·have c4:k=4:=sU c;obtain ⟨h0,h1⟩:=h4 c4;obtain ⟨x,hx⟩:∃ x,af[n.toNat]? = some x:=⟨_,gE (by omega)⟩;rw [o3 x c4 hx];refine iX (eJ hx) ?_;exact congrArg (fun q=>DV.v (.string q)) (mV x).symm
 have c4:¬ k=4:=sU c;refine br ?_ ?_<;>intro c
 ·rw [o5 (sU c)];exact (rfl:_=_)
 have c5:¬ k=5:=sU c;refine br ?_ ?_<;>intro c
 ·have c:k=6:=sU c;refine br ?_ ?_<;>intro g
  ·rw [o6s c (hM1 g)];exact (rfl:_=_)
  ·rw [o6n c (hM2 g)];exact (rfl:_=_)
 have c6:¬ k=6:=sU c;refine br ?_ ?_<;>intro c
 ·rw [o7 (sU c)];exact (rfl:_=_)
 have c7:¬ k=7:=sU c;refine br ?_ ?_<;>intro c
 ·have c8:k=8:=sU c;obtain ⟨h0,h1⟩:=h8 c8;obtain ⟨x,hx⟩:∃ x,es[n.toNat]? = some x:=⟨_,gE (by omega)⟩;have Cn:=Kn x (mG hx) c8;refine br ?_ ?_<;>intro g
  ·rw [o8s x c8 hx (hM1 g),<- Hi];refine iX (bn hx) ?_;refine ⟨by show x.name.size + 1<=_;omega,?_⟩;exact (rfl:_=_)
  ·rw [o8n x c8 hx (hM2 g),mV];refine iX (bn hx) ?_;exact (rfl:_=_)
 have c8:¬ k=8:=sU c;rw [o4 (by omega)];refine cP XH hl ?_;exact (rfl:_=_)
abbrev SY (PC LC:List DV) (obs:Int):List DV:=[.pt PC 0,.pt LC 0,.v (.int .i64 obs)]
section
variable {n:Nat} {f:Nat->Nat->Bool} {af:List ByteArray} {LC:List DV} (hR:DZ n f af LC) (PC:List DV)
include hR
theorem pj (obs a:Nat) (ho:obs < n) (ha:a < n):EvP prog 140 [.agg (SY PC LC obs),.v (.int .i64 a)] (.v (.bool (f a obs))):=by
 have hq:=hR.leq a obs;rw [Oc ha ho] at hq;refine eG 11 [.tmp 4] func140 rfl ntmps140 rfl fun _ _ _ _=>?_;refine cP en88 hq ?_;exact (rfl:_=_)
theorem nB {ND:List Nd} (obs a:Nat) (ho:obs < n) (ha:a < n) (d:Nd) (e:Ed) (hN:dB n ND.length d) (hm:e∈d.aq):EvP prog 141 [.agg (SY PC LC obs),.agg (tQ e),.v (.int .i64 a)] (.v (.bool (decide (e.ck≠0) && f (wX f n a e.seen.toNat) obs))):=by
 obtain ⟨_,_,h3,KV⟩:=kZ hN hm;have hj:=hR.join a e.seen.toNat ha KV;rw [<- h3] at hj;have hs:=pj hR PC obs (wX f n a e.seen.toNat) ho (Bl hR.ok ha KV);obtain ⟨en,eb,ea,et,yt,ew,iY,xJ,yu,tS⟩:=e;refine eG 20 [.tmp 6] func141 rfl ntmps141 rfl fun _ _ _ _=>?_;refine dI ?_;refine br ?_ ?_<;>intro c
 ·have c:iY≠0:=sU c;refine cD Mf hj ?_;refine cD Ma hs ?_;rw [show decide ((⟨en,eb,ea,et,yt,ew,iY,xJ,yu,tS⟩:Ed).ck≠0)=true from decide_eq_true c,Bool.true_and];exact (rfl:_=_)
 ·have c:¬ iY≠0:=sU c;rw [show decide ((⟨en,eb,ea,et,yt,ew,iY,xJ,yu,tS⟩:Ed).ck≠0)=false from decide_eq_false c,Bool.false_and];exact (rfl:_=_)
theorem xM {ND:List Nd} (obs:Int) (a:Nat) (ha:a < n) (d:Nd) (v:Val) (j:Nat) (e:Ed) (h:bG d v.n j=some e) (hm:e∈d.aq) (hN:dB n ND.length d) (h5:5<=d.ag) (hz:d.ag=8->(0<=v.n/\v.n < d.aq.length)/\j=0) (iR:d.aq.length<=1099511627776) :
  EvP prog 139 [.agg (SY PC LC obs),.agg (kN d),.agg (dVal v),.v (.int .i64 j),.v (.int .i64 a)] (.tup [.agg (tQ e),.v (.int .i64 (iL f n d e a:Nat))]):=by
 obtain ⟨_,⟨h2,GA⟩,_⟩:=kZ hN hm;have hj:=hR.join a e.label.toNat ha GA;rw [<- h2] at hj;have hU:iL f n d e a=if d.ag < 7 then a else wX f n a e.label.toNat:=rfl
 generalize iL f n d e a=U at hU ⊢;have h8:=hN.k8;obtain ⟨ag,at',lo,hi,most,nms,es⟩:=d;obtain ⟨k,z,s,ks⟩:=v;simp only [Val.n] at h hz iR hU h5 h8;have mn:=cj es;unfold bG at h;simp only at h;have hd:∃ en eb ea et yt ew iY xJ yu tS,e=⟨en,eb,ea,et,yt,ew,iY,xJ,yu,tS⟩:=⟨_,_,_,_,_,_,_,_,_,_,rfl⟩
 have Vi:∃ (l:List (List DV)) (b:Bool),EvP prog 213 [.agg (kN ⟨ag,at',lo,hi,most,nms,es⟩),.agg (dVal (.mk k z s ks))] (.tup [.sl 10 l none,.v (.bool b)])/\(if ag < 7 then b=false/\l[0]? = some (tQ e) else b=true/\l[j]? = some (tQ e)):=by
  by_cases c7:ag=7
  ·rw [aj c7] at h;refine ⟨eM es,true,?_,by rw [ai (by omega)];exact ⟨rfl,bn h⟩⟩;refine eG 24 [.tmp 4,.tmp 5] func213 rfl ntmps213 rfl fun _ _ _ _=>?_;refine br (fun _=>?_) (fun c=>absurd c7 (sU c));exact ⟨_,ax,rfl⟩
  rw [ai c7] at h;by_cases c8:ag=8
  ·rw [aj c8] at h;have hz:=hz c8;have hw:IntKind.i64.wrap (z + 1)=z + 1:=wrap64 (by omega) (by omega);refine ⟨((eM es).take (IntKind.i64.wrap (z + 1)).toNat).drop z.toNat,true,?_,by rw [ai (by omega),hz.2,List.getElem?_drop,bY,aj (by rw [hw];omega)];exact ⟨rfl,bn h⟩⟩;refine eG 24 [.tmp 4,.tmp 5] func213 rfl ntmps213 rfl fun _ _ _ _=>?_;refine br (fun c=>absurd (sU c) c7) (fun _=>?_);refine br (fun _=>?_) (fun c=>absurd c8 (sU c));refine ⟨⟨by omega,by rw [hw];omega,by rw [hw,cj];simp only;omega⟩,?_⟩;exact ⟨_,ax,rfl⟩
  ·rw [ai c8] at h;refine ⟨eM es,false,?_,by rw [aj (by omega)];exact ⟨rfl,bn h⟩⟩;refine eG 24 [.tmp 4,.tmp 5] func213 rfl ntmps213 rfl fun _ _ _ _=>?_;refine br (fun c=>absurd (sU c) c7) (fun _=>?_);refine br (fun c=>absurd (sU c) c8) (fun _=>?_);exact ⟨_,ax,rfl⟩
 obtain ⟨l,b,hE,hl⟩:=Vi;by_cases c:ag < 7
 ·rw [aj c] at hl hU;obtain ⟨rfl,hl⟩:=hl;subst hU;obtain ⟨en,eb,ea,et,yt,ew,iY,xJ,yu,tS,rfl⟩:=hd;refine eG 38 [.cell 10 193,.tmp 11] func139 rfl ntmps139 rfl fun _ _ _ _=>?_;refine cP Rx hE ?_;refine ⟨_,⟨by omega,hl⟩,?_⟩;exact ⟨_,ax,rfl⟩
 ·rw [ai c] at hl hU;obtain ⟨rfl,hl⟩:=hl;subst hU;obtain ⟨en,eb,ea,et,yt,ew,iY,xJ,yu,tS,rfl⟩:=hd;refine eG 38 [.cell 10 193,.tmp 11] func139 rfl ntmps139 rfl fun _ _ _ _=>?_;refine cP Rx hE ?_;refine ⟨_,⟨by omega,hl⟩,?_⟩;refine dS ?_;refine cD Mf hj ?_;exact ⟨_,ax,rfl⟩
end
theorem qJ (e:Ed):EvP prog 143 [.agg (tQ e)] (.agg (dVal (sg e))):=by
 obtain ⟨en,eb,ea,et,yt,ew,iY,xJ,yu,tS⟩:=e;refine eG 6 [.cell 2 34] func143 rfl ntmps143 rfl fun _ _ _ _=>?_;exact ⟨_,ax,rfl⟩
abbrev aae (a:ByteArray) (at':Nat) (m:Int) (e:Nat):St:=⟨[(0,⟨[],.v (.string a)⟩),ap 5 at',ap 8 m,ap 9 e],[],[]⟩
theorem xN (a:ByteArray) (ha:a.size<=1099511627776) (m:Int) (hm:m<=9223372036854775807):EvP prog 215 [.v (.string a),.v (.int .i64 m)] (.v (.string (ba (headL m.toNat (tx a))))):=by
 refine eG 28 [.tmp 4] func215 rfl ntmps215 rfl fun _ _ _ _=>?_;refine lI (fun j st=>∃ e at':Nat,st=aae a at' m e/\(e:Int)<=max m 0/\at' <= a.size/\(tx a).take at' ++ headL (m.toNat - e) ((tx a).drop at')=headL m.toNat (tx a)/\j=m.toNat - e) ⟨0,0,rfl,by omega,by omega,by simp,rfl⟩ (wkM jT) ?_;rintro j st ⟨e,at',rfl,he,h1,hE,rfl⟩;have eN:=bf a;have aaf:headL (m.toNat - e) ((tx a).drop at')=[]->a.extract 0 at'=ba (headL m.toNat (tx a)):=fun h=>by grind [mU,uw]
 refine br ?_ ?_<;>intro hL
 rotate_left
 ·have aM:m.toNat - e=0:=by have:=of_decide_eq_false hL;omega
  refine ⟨⟨by omega,by omega,by omega⟩,?_⟩;exact (congrArg (fun z=>DV.v (.string z)) (aaf (by rw [aM];rfl)):_=_)
 have al:(e:Int) < m:=of_decide_eq_true hL;refine br ?_ ?_<;>intro c
 ·have c:at'=a.size:=by have:=of_decide_eq_true c;omega
  refine ⟨⟨by omega,by omega,by omega⟩,?_⟩;exact (congrArg (fun z=>DV.v (.string z)) (aaf (by rw [List.drop_of_length_le (by omega),sc])):_=_)
 have c:at' < a.size:=by have:=of_decide_eq_false c;omega
 have hua:=KI a at' ha h1
 have aT:(tx a).drop at' ≠ []:=fun h=>by
  have:=congrArg List.length h;rw [List.length_drop,List.length_nil] at this;omega
 have hup:=kf aT;rw [List.length_drop] at hup;obtain ⟨k,hk⟩:∃ k,m.toNat - e=k + 1:=⟨m.toNat - e - 1,by omega⟩;rw [hk,show headL (k + 1) ((tx a).drop at')=((tx a).drop at').take (gf ((tx a).drop at')) ++ headL k (((tx a).drop at').drop (gf ((tx a).drop at'))) from rfl,<- List.append_assoc,List.drop_drop,<- List.take_add] at hE;generalize gf ((tx a).drop at')=w at hua hup hE;refine bp Xw rfl hua ax (fun q hq=>?_);obtain ⟨z1,rfl⟩:=hq
 have hw:IntKind.i64.wrap ((at':Int) + w)=((at' + w:Nat):Int):=by
  rw [wrap64 (by omega) (by omega)];omega
 have he1:IntKind.i64.wrap ((e:Int) + 1)=((e + 1:Nat):Int):=by
  rw [wrap64 (by omega) (by omega)];omega
 exact rE ⟨_,by omega,e + 1,at' + w,rfl,by omega,by omega,by rw [show m.toNat - (e + 1)=k by omega];exact hE,rfl⟩ (wkM (wB2 hw he1))
theorem BS (e:Ed) (v:Val) (hn : -9223372036854775808<=v.n/\v.n<=9223372036854775807) (hs:v.wt<=1099511627776) (hc : -9223372036854775808<=e.cn/\e.cn<=9223372036854775807) :
  EvP prog 142 [.agg (tQ e),.agg (dVal v)] (.agg (dVal (aW e v))):=by
 have hw:v.s.size<=1099511627776/\v.ks.length<=1099511627776:=by
  obtain ⟨k,n,s,ks⟩:=v;have:=cw ks;rw [Val.wt] at hs;show s.size<=_/\ks.length<=_;omega
 have hf:=l6 v.n e.cn hn hc;have hh:=xN v.s hw.1 e.cn hc.2;have Vj:=qJ e
 have hA:e.ck=1->v.k=2->(aF v.n e.cn).2=true->aW e v = .mk 10 (aF v.n e.cn).1 emptyB []:=fun h1 h2 h3=>by
  unfold aW;rw [aj ⟨h1,h2,h3⟩]
 have hB:e.ck=2->v.k=3->aW e v = .mk 11 0 (ba (headL e.cn.toNat (tx v.s))) []:=fun h1 h2=>by grind [aW]
 have hC:e.ck=3->v.k=5->aW e v = .mk 12 v.ks.length emptyB []:=fun h1 h2=>by grind [aW]
 have hD:¬ (e.ck=1/\v.k=2/\(aF v.n e.cn).2=true)->¬ (e.ck=2/\v.k=3)->¬ (e.ck=3/\v.k=5)->aW e v=sg e:=fun h1 h2 h3=>by grind [aW]
 generalize aW e v=C at hA hB hC hD ⊢;generalize hH:sg e=HV at Vj hD;obtain ⟨ZP,hvn,xX,x5⟩:=HV;clear hH;obtain ⟨en,eb,ea,et,yt,ew,iY,xJ,yu,tS⟩:=e;obtain ⟨k,n,s,ks⟩:=v;simp only [Val.k,Val.n,Val.s,Val.ks] at hA hB hC hD hf hh hw;have dc:=aX ks;generalize aF n xJ=fl at hf hA hD;obtain ⟨fz,fb⟩:=fl;unfold wR at hf;simp only at hA hD;generalize headL xJ.toNat (tx s)=H at hh hB;refine eG 57 [.cell 4 34] func142 rfl ntmps142 rfl fun _ _ _ _=>?_;refine br ?_ ?_<;>intro c
 ·have c:iY=1/\k=2:=by simpa [pickB_and] using c
  refine cP Ib hf ?_
  cases fb with
  | true=>
   rw [hA c.1 c.2 rfl];exact ⟨_,ax,rfl⟩
  | false=>
   rw [hD (by simp) (by omega) (by omega)];refine cP en143 Vj ?_;exact ⟨_,ax,rfl⟩
 have c1:¬ (iY=1/\k=2):=by simpa [pickB_and] using c
 refine br ?_ ?_<;>intro c
 ·have c:iY=2/\k=3:=by simpa [pickB_and] using c
  refine cP Ry hh ?_;rw [hB c.1 c.2];exact ⟨_,ax,rfl⟩
 have c2:¬ (iY=2/\k=3):=by simpa [pickB_and] using c
 refine br ?_ ?_<;>intro c
 ·have c:iY=3/\k=5:=by simpa [pickB_and] using c
  rw [hC c.1 c.2,<- dc];exact ⟨_,ax,rfl⟩
 have c3:¬ (iY=3/\k=5):=by simpa [pickB_and] using c
 rw [hD (fun h=>c1 ⟨h.1,h.2.1⟩) c2 c3];refine cP en143 Vj ?_;exact ⟨_,ax,rfl⟩
def EG (ND:List Nd) (f:Nat->Nat->Bool) (n rt:Nat) (o:Int) (v:Val):Option Val:=if 0<=o/\o < n/\fitV ND v rt=true then some (eraseV ND f n o.toNat v rt (iV f n)) else none
def Jp:Option Val->DV
 | some y=>.tup [.agg (dVal y),.v (.bool true)]
 | none=>.tup [.agg (dVal (.mk 0 0 emptyB [])),.v (.bool false)]
section
variable (lv:List Wd) (f:Nat->Nat->Bool) (ND:List Nd) (rt:Nat) (hL:eY f lv.length) (hn:lv.length<=32) (bu:∀ n∈ND,dB lv.length ND.length n) (bM:∀ n∈ND,n.aq.length<=1099511627776) (IZ:∀ n∈ND,BN n)
include hL hn bu bM IZ
theorem EH (obs:Nat) (ho:obs < lv.length) (v:Val) (hv:v.wt<=1099511627776) (hr:rngW v) (eB:fitV ND v rt=true) :
  EvP prog 83 [.agg (wL lv f ND (rt:Nat)),.v (.int .i64 obs),.agg (dVal v)] (.agg (dVal (eraseV ND f lv.length obs v rt (iV f lv.length)))):=by
 have hb:=yq lv.length f (by omega);rw [sf hL] at hb;have he:=qI lv f ND (rt:Nat) hL hn bu bM IZ obs ho v.wt v (aJ _) hv hr rt (iV f lv.length) (Bm hL) eB;generalize eraseV ND f lv.length obs v rt (iV f lv.length)=Y at he ⊢;obtain ⟨yk,yn,ys,yks⟩:=Y;obtain ⟨k,n,s,ks⟩:=v;refine eG 16 [.cell 6 34] func83 rfl ntmps83 rfl fun _ _ _ _=>?_;refine dS ?_;refine cD en62 hb ?_;refine cD en161 he ?_;exact ⟨_,ax,rfl⟩
end
end Go.Proofs.YtgjagnmeonoehaaGreat
set_option maxRecDepth 100000
namespace Go.Proofs.YtgjagnmeonoehaaGreat
open Go Go.RowKit Dv Tryz
theorem OP {d:Nd} {z:Int} {j:Nat} {e:Ed} (h:wU d (.mk 0 z emptyB []) j=e.to) (h0:0<=e.to) (c:d.ag=8):(0<=z/\z < d.aq.length)/\j=0:=by
 refine ⟨Jo h h0 c,?_⟩
 grind [wU]
abbrev erPSt (PC LC:List DV) (obs a:Nat) (v:Val) (d:Nd) (o:List Val) (q e:Nat):St:=
 ⟨[(2,⟨[],.v (.int .i64 a)⟩),(4,⟨[],.loc 0 0⟩),(7,⟨[],.loc 1 0⟩),(8,⟨[],.loc 2 0⟩),(9,⟨[],.loc 3 0⟩),(11,⟨[],.loc 4 0⟩),(31,⟨[],.sl 4 (dVals v.ks) none⟩),(32,⟨[],.v (.int .i64 (dVals v.ks).length)⟩),(33,⟨[],.v (.int .i64 e)⟩)],
  [SY PC LC obs,dVal v,[.v (.int .i64 0),.v (.int .i64 0),.v (.string emptyB),.v (.slice none 0 0)],kN d,[.v (.int .i64 v.k),.v (.int .i64 v.n),.v (.string v.s),.sl 4 (dVals o) (some 0)]],[⟨q,34,4,none⟩]⟩
theorem ti {S:Sch} {ND:List Nd} {PC LC:List DV} (hP:iM S ND PC) (hR:DZ S.ae.length (aS S) (au S.ae) LC) (IZ:∀ n∈ND,BN n) (bM:∀ n∈ND,n.aq.length<=1099511627776) (obs:Nat) (ho:obs < S.ae.length) :
  ∀ (k:Nat) (v:Val),v.wt<=k->v.wt<=1099511627776->rngW v->∀ (i:Int) (a:Nat),a < S.ae.length->fitV ND v i=true ->
   EvP Tryz.prog 69 [.agg (SY PC LC obs),.v (.int .i64 i),.v (.int .i64 a),.agg (dVal v)] (.agg (dVal (eraseV ND (aS S) S.ae.length obs v i a)))
 | 0,v,h,_=>by have:=v.cT;omega
 | k + 1,v,h,hb=>fun hr i a ha eB=>by
  have ih:=ti hP hR IZ bM obs ho k;have hL:=hR.ok;obtain ⟨d,hF⟩:=jk hP.ok eB;obtain ⟨h0,hg⟩:=bR hF.ah;obtain ⟨j,rfl⟩:∃ j:Nat,i=j:=⟨i.toNat,by omega⟩;have hg:ND[j]? = some d:=by simpa using hg
  have lp:=mG hg;have hN:=hP.ok d lp;have dM:=hP.ah j d hg;have xL:=fun {m:Nat} {x:Val}=>Bn (m:=m) (x:=x) hP.ok eB hF;have EE:=bM d lp;have OO:=IZ d lp;have aag:=hF.leaf
  have hE:eraseV ND (aS S) S.ae.length obs v j a = .mk v.k v.n v.s (eraseVs ND (aS S) S.ae.length obs v.ks d v.n a 0):=by
   obtain ⟨q,z,s,ks⟩:=v;rw [eraseV,hF.ah];rfl
  rw [hE];have hOl:=kh (ND:=ND) (f:=aS S) (L:=S.ae.length) (obs:=obs) v.ks d v.n a 0;have Vf:=fun {m:Nat} {x:Val}=>o6 (ND:=ND) (f:=aS S) (L:=S.ae.length) (obs:=obs) (ks:=v.ks) (d:=d) (z:=v.n) (a:=a) (j:=0) (m:=m) (x:=x);generalize eraseVs ND (aS S) S.ae.length obs v.ks d v.n a 0=O at hOl Vf ⊢;obtain ⟨vk,vn,vs,ks⟩:=v;have iT:=cw ks;have dc:=aX ks;rw [Val.wt] at h hb;have O9:=n4 hr;simp only [Val.ks,Val.n,Val.k,Val.s] at xL hOl Vf O9 aag ⊢;obtain ⟨ag,at',lo,hi,most,af,es⟩:=d;refine Wl (P:=Tryz.prog) tt om 5000 75 [.cell 8 34] Tryz.func69 rfl Tryz.ntmps69 rfl (nL rfl) (fun E9 w9 aC mJ=>?_);refine call_p rm (dM) ax rfl ?_;refine aQ (fun t st=>∃ e q:Nat,st=erPSt PC LC obs a (.mk vk vn vs ks) ⟨ag,at',lo,hi,most,af,es⟩ (O.take e) q e/\q=e/\e<=ks.length/\t=ks.length - e) ks.length (erPSt PC LC obs a (.mk vk vn vs ks) ⟨ag,at',lo,hi,most,af,es⟩ [] 0 0) (de 5 ⟨0,34,4,none⟩ rfl rfl rfl (by repeat' (first | exact rfl | exact we_rfl rfl | exact we_int rfl | exact bN (Nat.le_refl _) rfl | exact bN (Nat.le_refl _) rfl | refine ⟨_,_,rfl,?_,?_⟩)) rfl rfl (by repeat' (first | exact trivial | exact we_rfl rfl | exact we_int rfl | exact bN (Nat.le_refl _) rfl | refine ⟨⟨_,rfl,?_⟩,?_⟩))) ⟨0,0,by rw [List.take_zero],rfl,by omega,by omega⟩ ?_;rintro t st ⟨e,q,rfl,hq,he,rfl⟩;refine br (fun qd=>?_) (fun qd=>?_)
  ·have al:e < ks.length:=by simpa [dc,Val.ks] using qd
   obtain ⟨x,hx⟩:∃ x,ks[e]? = some x:=⟨_,gE al⟩;obtain ⟨ed,hK⟩:=xL hx;have hm:=mG hx;have QV:=cJ hm;have mA:=dO O9 hm;have hxe:=Vf hx;rw [Nat.zero_add,hK.jV] at hxe;simp only at hxe;obtain ⟨h1,h2⟩:=I8 hN hK.mem hK.bare;have h5:5<=ag:=by grind
   have kP:=xM hR PC obs a ha ⟨ag,at',lo,hi,most,af,es⟩ (.mk vk vn vs ks) e ed hK.jV hK.mem hN h5 (OP hK.to' h1) EE;have hU:=Bp hL hN hK.mem ha;have xO:=pj hR PC obs (iL (aS S) S.ae.length ⟨ag,at',lo,hi,most,af,es⟩ ed a) ho hU;have hco:=nB hR PC obs a ho ha ⟨ag,at',lo,hi,most,af,es⟩ ed hN hK.mem;have hcv:=BS ed x (xc mA) (by omega) (OO.2.2 ed hK.mem);have hhv:=qJ ed;have hrec:=ih x (by omega) (by omega) mA ed.to (iL (aS S) S.ae.length ⟨ag,at',lo,hi,most,af,es⟩ ed a) hU hK.fit;have Vh:(O.take e).length=e:=by rw [List.length_take];omega
   have hdOl:(dVals (O.take e)).length=e:=by rw [aX,Vh]
   have fx:∀ y:Val,O[e]? = some y->dVals (O.take e) ++ [dVal y]=dVals (O.take (e + 1)):=fun y hy=>wM hy;rw [Bo] at hxe;generalize iL (aS S) S.ae.length ⟨ag,at',lo,hi,most,af,es⟩ ed a=U at kP xO hrec hxe;generalize aS S U obs=b1 at xO hxe;generalize gg:aS S (wX (aS S) S.ae.length a ed.seen.toNat) obs=b2 at hco hxe;generalize YD:decide (ed.ck≠0)=DC at hco;generalize eraseV ND (aS S) S.ae.length obs x ed.to U=Y1 at hrec hxe;generalize aW ed x=Y2 at hcv hxe;generalize sg ed=Y3 at hhv hxe;obtain ⟨xk,xn,xs,xks⟩:=x;obtain ⟨y1k,y1n,y1s,y1ks⟩:=Y1;obtain ⟨y2k,y2n,y2s,y2ks⟩:=Y2;obtain ⟨y3k,y3n,y3s,y3ks⟩:=Y3;obtain ⟨en,eb,ea,et,yt,ew,iY,xJ,yu,tS⟩:=ed;refine ⟨_,⟨by omega,dVals_get hx⟩,?_⟩;refine call_p Ro (kP) ax rfl ?_;refine call_p Ma (xO) ax rfl ?_
   cases b1 with
   | true=>
    simp only [reduceIte] at hxe;have di:=fx _ hxe;refine call_p en69 (hrec) ax rfl ?_;refine ⟨by rw [hdOl,hq],⟨by simp [maxLen,hdOl];omega,by simp [hdOl];omega⟩,?_⟩;exact ⟨erPSt PC LC obs a (.mk vk vn vs ks) ⟨ag,at',lo,hi,most,af,es⟩ (O.take (e + 1)) (q + 1) (e + 1),(weak_b 5 rfl (wSA al di) rfl rfl rfl (wSB al di)),ks.length - (e + 1),by omega,e + 1,q + 1,rfl,by omega,by omega,rfl⟩
   | false=>
    cases DC with
    | false=>
     have OM:iY=0:=by simpa using of_decide_eq_false YD
     simp [OM] at hxe;have di:=fx _ hxe;refine call_p en141 (hco) ax rfl ?_;refine call_p en143 (hhv) ax rfl ?_;refine ⟨by rw [hdOl,hq],⟨by simp [maxLen,hdOl];omega,by simp [hdOl];omega⟩,?_⟩;exact ⟨erPSt PC LC obs a (.mk vk vn vs ks) ⟨ag,at',lo,hi,most,af,es⟩ (O.take (e + 1)) (q + 1) (e + 1),(weak_b 5 rfl (wSA al di) rfl rfl rfl (wSB al di)),ks.length - (e + 1),by omega,e + 1,q + 1,rfl,by omega,by omega,rfl⟩
    | true=>
     have OM:=of_decide_eq_true YD
     cases b2 with
     | false=>
      simp at hxe;have di:=fx _ hxe;refine call_p en141 (hco) ax rfl ?_;refine call_p en143 (hhv) ax rfl ?_;refine ⟨by rw [hdOl,hq],⟨by simp [maxLen,hdOl];omega,by simp [hdOl];omega⟩,?_⟩;exact ⟨erPSt PC LC obs a (.mk vk vn vs ks) ⟨ag,at',lo,hi,most,af,es⟩ (O.take (e + 1)) (q + 1) (e + 1),(weak_b 5 rfl (wSA al di) rfl rfl rfl (wSB al di)),ks.length - (e + 1),by omega,e + 1,q + 1,rfl,by omega,by omega,rfl⟩
     | true=>
      have hck':¬ iY=0:=OM;simp [hck'] at hxe;have di:=fx _ hxe;refine call_p en141 (hco) ax rfl ?_;refine call_p en142 (hcv) ax rfl ?_;refine ⟨by rw [hdOl,hq],⟨by simp [maxLen,hdOl];omega,by simp [hdOl];omega⟩,?_⟩;exact ⟨erPSt PC LC obs a (.mk vk vn vs ks) ⟨ag,at',lo,hi,most,af,es⟩ (O.take (e + 1)) (q + 1) (e + 1),(weak_b 5 rfl (wSA al di) rfl rfl rfl (wSB al di)),ks.length - (e + 1),by omega,e + 1,q + 1,rfl,by omega,by omega,rfl⟩
  ·have aM:e=ks.length:=by have:=qd;simp [dc,Val.ks] at this;omega
   subst aM;rw [List.take_of_length_le (by omega)];exact ⟨_,ax,rfl⟩
section
variable {S:Sch} {ND:List Nd} {PC LC:List DV} (hP:iM S ND PC) (kS:EvP Tryz.prog 72 [.pt PC 0] (.pt LC 0)) (hR:DZ S.ae.length (aS S) (au S.ae) LC) (S0:∀ n∈ND,BN n) (bM:∀ n∈ND,n.aq.length<=1099511627776) (rt:Nat) (BT:bz S=rt)
include kS hR
theorem xP (o:Int):EvP Tryz.prog 67 [.pt PC 0,.v (.int .i64 o)] (.tup [.agg (SY PC LC o),.v (.bool (decide (0<=o/\o < S.ae.length)))]):=by
 have hlen:=hR.len;refine Wl (P:=Tryz.prog) tt om 5000 21 [.cell 4 148,.tmp 5] Tryz.func67 rfl Tryz.ntmps67 rfl (nL rfl) (fun E9 w9 aC mJ=>?_);refine call_p TN (kS) ax rfl ?_;refine br (fun c=>?_) (fun c=>?_)
 ·have c:0<=o:=by simpa using c
  refine call_p L6 (hlen) ax rfl ?_;have hd:decide (0<=o/\o < (S.ae.length:Int))=decide (o < (S.ae.length:Int)):=decide_eq_decide.2 ⟨fun h=>h.2,fun h=>⟨c,h⟩⟩;rw [hd];exact ⟨_,ax,rfl⟩
 ·have c:¬ 0<=o:=by simpa using c
  rw [show decide (0<=o/\o < (S.ae.length:Int))=false from decide_eq_false (fun h=>c h.1)];exact ⟨_,ax,rfl⟩
include hP S0 bM BT
theorem tj (o:Int) (v:Val) (hv:v.wt<=1099511627776) (Ij:rngW v) :
  EvP Tryz.prog 18 [.pt PC 0,.v (.int .i64 o),.agg (dVal v)] (Jp (EG ND (aS S) S.ae.length rt o v)):=by
 have AW:=xP kS hR o;have fi:=hP.root;rw [BT] at fi;have Dl:=hR.bot;have hf:=o0 hP _ v (Nat.le_refl _) hv rt;have hs:=fun (obs:Nat) (ho:obs < S.ae.length)=>ti hP hR S0 bM obs ho _ v (Nat.le_refl _) hv Ij rt (iV (aS S) S.ae.length) (Bm hR.ok);have hS:EG ND (aS S) S.ae.length rt o v=if 0<=o/\o < S.ae.length/\fitV ND v rt=true then some (eraseV ND (aS S) S.ae.length o.toNat v rt (iV (aS S) S.ae.length)) else none:=rfl
 generalize EG ND (aS S) S.ae.length rt o v=SF at hS ⊢;generalize fitV ND v rt=F at hf hs hS;obtain ⟨k,n,s,ks⟩:=v;by_cases ho:0<=o/\o < S.ae.length
 ·obtain ⟨ob,rfl⟩:∃ n:Nat,o=n:=⟨_,(Int.toNat_of_nonneg ho.1).symm⟩;have hs:=hs ob (by omega);rw [Int.toNat_natCast] at hS;rw [show decide (0<=(ob:Int)/\(ob:Int) < (S.ae.length:Int))=true from decide_eq_true ho] at AW;generalize eraseV ND (aS S) S.ae.length ob (.mk k n s ks) rt (iV (aS S) S.ae.length)=Y at hs hS;generalize iV (aS S) S.ae.length=bt at Dl hs;obtain ⟨yk,yn,ys,yks⟩:=Y;refine Wl (P:=Tryz.prog) tt om 5000 35 [.cell 6 34,.tmp 7] Tryz.func18 rfl Tryz.ntmps18 rfl (nL rfl) (fun E9 w9 aC mJ=>?_);refine call_p L5 (AW) ax rfl ?_;refine j3 (fun _=>false) mo (by decide +kernel) ?_;refine PB Fy (fi) ax rfl ?_;refine PB TL (hf) ax rfl ?_
  cases F with
  | true=>
   have hs:=hs rfl;rw [if_pos ⟨by omega,by omega,rfl⟩] at hS;rw [hS];refine PA mo (by decide +kernel) ?_;refine PB Fy (fi) ax rfl ?_;refine PB TM (Dl) ax rfl ?_;refine PB en69 (hs) ax rfl ?_;exact ⟨_,ax,rfl⟩
  | false=>
   rw [if_neg (by simp)] at hS;rw [hS];exact ⟨_,ax,rfl⟩
 ·rw [if_neg (fun h=>ho ⟨h.1,h.2.1⟩)] at hS;rw [hS];rw [show decide (0<=o/\o < (S.ae.length:Int))=false from decide_eq_false ho] at AW;refine Wl (P:=Tryz.prog) tt om 5000 35 [.cell 6 34,.tmp 7] Tryz.func18 rfl Tryz.ntmps18 rfl (nL rfl) (fun E9 w9 aC mJ=>?_);refine call_p L5 (AW) ax rfl ?_;refine j3 (fun _=>false) mo (by decide +kernel) ?_;exact ⟨_,ax,rfl⟩
end
end Go.Proofs.YtgjagnmeonoehaaGreat
set_option maxRecDepth 100000
namespace Go.Proofs.YtgjagnmeonoehaaGreat
open Go Go.RowKit Dv Go.Proofs.Tryz
theorem shellF_567 {d:Nd} {v:Val} (c:d.ag=5∨d.ag=6∨d.ag=7):shellF d v=(decide (v.s=emptyB) && decide (v.k=d.ag) && decide (v.n=0) && (if d.ag=5 then decide ((v.ks.length:Int)<=d.most) else if d.ag=6 then decide (v.ks.length < 2) else decide (v.ks.length=d.aq.length))):=by grind [shellF,emptyB]
theorem shellF_8 {d:Nd} {v:Val} (c:d.ag=8):shellF d v=if v.s≠emptyB∨v.k≠8∨v.n < 0∨(d.aq.length:Int)<=v.n then false else match d.aq[v.n.toNat]? with
  | none=>false
  | some e=>(decide (v.ks.length=0) == e.bare) && decide (v.ks.length < 2):=by
 unfold shellF;rw [c];by_cases h1:v.s=emptyB
 ·grind
 ·grind
theorem EI (d:Nd) (v:Val) (h5:5<=d.ag) (h8:d.ag<=8) (iR:d.aq.length<=1099511627776) (hv:v.wt<=1099511627776):EvP prog 207 [.agg (kN d),.agg (dVal v)] (.v (.bool (shellF d v))):=by
 have hA:=fun c=>shellF_567 (d:=d) (v:=v) c;have hB:=fun c=>shellF_8 (d:=d) (v:=v) c;have hA5:d.ag=5->shellF d v=(decide (v.s=emptyB) && decide (v.k=5) && decide (v.n=0) && decide ((v.ks.length:Int)<=d.most)):=fun c=>by rw [hA (.inl c),aj c,c]
 have hA6:d.ag=6->shellF d v=(decide (v.s=emptyB) && decide (v.k=6) && decide (v.n=0) && decide (v.ks.length < 2)):=fun c=>by rw [hA (.inr (.inl c)),ai (by omega),aj c,c]
 have hA7:d.ag=7->shellF d v=(decide (v.s=emptyB) && decide (v.k=7) && decide (v.n=0) && decide (v.ks.length=d.aq.length)):=fun c=>by rw [hA (.inr (.inr c)),ai (by omega),ai (by omega),c]
 have hB1:d.ag=8->(v.s≠emptyB∨v.k≠8∨v.n < 0∨(d.aq.length:Int)<=v.n)->shellF d v=false:=fun c h=>by rw [hB c,aj h]
 have hB2:d.ag=8->¬ (v.s≠emptyB∨v.k≠8∨v.n < 0∨(d.aq.length:Int)<=v.n)->∀ e,d.aq[v.n.toNat]? = some e->shellF d v=((decide (v.ks.length=0) == e.bare) && decide (v.ks.length < 2)):=fun c h e he=>by rw [hB c,ai h,he]
 clear hA hB;generalize shellF d v=B at hA5 hA6 hA7 hB1 hB2 ⊢;obtain ⟨ag,at',lo,hi,most,nms,es⟩:=d;obtain ⟨k,z,s,ks⟩:=v;simp only [Val.k,Val.n,Val.s,Val.ks] at hA5 hA6 hA7 hB1 hB2 h5 h8 iR;have mn:=cj es;have dc:=aX ks;refine eG 111 [.tmp 4] func207 rfl ntmps207 rfl fun _ _ _ _=>?_;refine br ?_ ?_<;>intro c
 ·have c:ag=5:=sU c;subst c;rw [hA5 rfl];refine (bH ?_:);simp only [pickB_and,dc];rfl
 have c5:¬ ag=5:=sU c;refine br ?_ ?_<;>intro c
 ·have c:ag=6:=sU c;subst c;rw [hA6 rfl];refine (bH ?_:);simp only [pickB_and,dc];rw [show decide ((ks.length:Int)<=1)=decide (ks.length < 2) from decide_eq_decide.2 ⟨fun h=>by omega,fun h=>by omega⟩];rfl
 have c6:¬ ag=6:=sU c;refine br ?_ ?_<;>intro c
 ·have c:ag=7:=sU c;subst c;rw [hA7 rfl];refine (bH ?_:);simp only [pickB_and,dc,mn];rw [show decide ((ks.length:Int)=es.length)=decide (ks.length=es.length) from decide_eq_decide.2 ⟨fun h=>by omega,fun h=>by omega⟩];rfl
 have c7:¬ ag=7:=sU c;refine br ?_ ?_<;>intro c
 ·have c:s≠emptyB∨k≠8∨z < 0∨(es.length:Int)<=z:=by
   simp [ak,mn] at c;rcases c with ((c | c) | c) | c
   ·exact .inl c
   ·exact .inr (.inl c)
   ·exact .inr (.inr (.inl c))
   ·exact .inr (.inr (.inr c))
  rw [hB1 (by omega) c];exact (rfl:_=_)
 ·have c:¬ (s≠emptyB∨k≠8∨z < 0∨(es.length:Int)<=z):=by
   simp [ak,mn] at c;rintro (h | h | h | h)
   ·exact h c.1.1.1
   ·exact h c.1.1.2
   ·omega
   ·omega
  obtain ⟨e,he⟩:∃ e,es[z.toNat]? = some e:=⟨_,gE (by omega)⟩;rw [hB2 (by omega) c e he];obtain ⟨en,eb,ea,et,yt,ew,iY,xJ,yu,tS⟩:=e;refine dI ?_;refine iX (bn he) ?_;refine (bH ?_:);simp only [pickB_and,dc];rw [show decide ((ks.length:Int)=0)=decide (ks.length=0) from decide_eq_decide.2 ⟨fun h=>by omega,fun h=>by omega⟩,show decide ((ks.length:Int) < 2)=decide (ks.length < 2) from decide_eq_decide.2 ⟨fun h=>by omega,fun h=>by omega⟩];rfl
theorem Hr {v:Val} {k n:Int} {s:ByteArray} (h:0 < v.ks.length):cK v k n s=false:=by grind [cK]
theorem Hs {z u:Int} (hz : -9223372036854775808<=z) (hu:1<=u):((aF z u).2 && decide ((aF z u).1=z))=decide (z % u=0):=by
 rw [qF hu];have h1:=Int.emod_nonneg z (b:=u) (by omega);by_cases c:z - z % u < -9223372036854775808
 ·rw [aj c,decide_eq_false (show ¬ z % u=0 by omega)];rfl
 ·rw [ai c];show (true && decide (z - z % u=z))=_;rw [Bool.true_and];exact decide_eq_decide.2 ⟨fun h=>by omega,fun h=>by omega⟩
theorem mayF_1 {e:Ed} {d:Nd} {v:Val} (c:e.ck=1/\d.ag=2):im e d v=if cK v 9 e.wide emptyB=true then !(aF d.lo e.cn).2
  else cK v 10 v.n emptyB && decide (v.n % e.cn=0) && (aF d.hi e.cn).2 && decide (v.n<=(aF d.hi e.cn).1) && (!(aF d.lo e.cn).2 || decide ((aF d.lo e.cn).1<=v.n)):=by
 unfold im;rw [aj c]
theorem mayF_2 {e:Ed} {d:Nd} {v:Val} (c:e.ck=2/\d.ag=3):im e d v=(cK v 11 0 v.s && decide ((v.s.size:Int)<=d.most) && decide (headL e.cn.toNat (tx v.s)=tx v.s)):=by grind [im]
theorem mayF_3 {e:Ed} {d:Nd} {v:Val} (c:e.ck=3/\d.ag=5):im e d v=(cK v 12 v.n emptyB && decide (0<=v.n) && decide (v.n<=d.most)):=by grind [im]
theorem mayF_0 {e:Ed} {d:Nd} {v:Val} (c1:¬ (e.ck=1/\d.ag=2)) (c2:¬ (e.ck=2/\d.ag=3)) (c3:¬ (e.ck=3/\d.ag=5)):im e d v=cK v 9 e.wide emptyB:=by grind [im]
theorem OQ {e:Ed} {d:Nd} {v:Val} (h:0 < v.ks.length):im e d v=false:=by grind [mayF_1,Hr,mayF_2,mayF_3,mayF_0]
theorem qK {v:Val} {k n:Int} {s:ByteArray} (h:v.ks=[]):cK v k n s=(decide (v.k=k) && decide (v.n=n) && decide (v.s=s)):=by
 unfold cK;rw [h];exact Bool.and_true _
theorem mayF_9 {e:Ed} {d:Nd} {v:Val} (c:e.ck=1/\d.ag=2) (zP:v.ks=[]) (h:v.k=9):im e d v=(!(aF d.lo e.cn).2 && decide (v.n=e.wide) && decide (v.s=emptyB)):=by grind [mayF_1,qK,emptyB]
theorem mayF_10 {e:Ed} {d:Nd} {v:Val} (c:e.ck=1/\d.ag=2) (zP:v.ks=[]) (h:¬ v.k=9) (hn : -9223372036854775808<=v.n) (U6:1<=e.cn) :
  im e d v=(decide (v.k=10) && decide (v.s=emptyB) && (aF v.n e.cn).2 && decide ((aF v.n e.cn).1=v.n) && (aF d.hi e.cn).2 && (!(aF d.lo e.cn).2 || decide ((aF d.lo e.cn).1<=v.n)) && decide (v.n<=(aF d.hi e.cn).1)):=by
 rw [mayF_1 c,qK zP,qK zP,decide_eq_false h,<- Hs hn U6];generalize (aF v.n e.cn).2=b1;generalize decide ((aF v.n e.cn).1=v.n)=b2;generalize (aF d.hi e.cn).2=b3;generalize decide (v.n<=(aF d.hi e.cn).1)=b4;generalize (!(aF d.lo e.cn).2 || decide ((aF d.lo e.cn).1<=v.n))=b5;generalize decide (v.k=10)=b6;generalize decide (v.s=emptyB)=b7;rw [show decide (v.n=v.n)=true from decide_eq_true rfl];cases b1<;>cases b2<;>cases b3<;>cases b4<;>cases b5<;>cases b6<;>cases b7<;>rfl
theorem BU (e:Ed) (d:Nd) (v:Val) (zP:v.ks=[]) (OM:e.ck=1/\d.ag=2) (U6:1<=e.cn) (hn : -9223372036854775808<=v.n/\v.n<=9223372036854775807) (hlo : -9223372036854775808<=d.lo/\d.lo<=9223372036854775807) (oc : -9223372036854775808<=d.hi/\d.hi<=9223372036854775807) (hc : -9223372036854775808<=e.cn/\e.cn<=9223372036854775807) :
  EvP prog 258 [.agg (tQ e),.agg (kN d),.agg (dVal v)] (.v (.bool (im e d v))):=by
 have h1:=l6 d.lo e.cn hlo hc;have h2:=l6 v.n e.cn hn hc;have h3:=l6 d.hi e.cn oc hc;have iE:=mayF_9 OM zP;have Ai:=fun h=>mayF_10 OM zP h hn.1 U6;generalize im e d v=B at iE Ai ⊢;unfold wR at h1 h2 h3;generalize aF d.lo e.cn=L at h1 iE Ai;generalize aF v.n e.cn=M at h2 Ai;generalize aF d.hi e.cn=H at h3 Ai;obtain ⟨L1,L2⟩:=L;obtain ⟨M1,M2⟩:=M;obtain ⟨H1,H2⟩:=H;obtain ⟨q,z,s,ks⟩:=v;obtain ⟨en,eb,ea,et,yt,ew,iY,xJ,yu,tS⟩:=e;obtain ⟨ag,at',lo,hi,most,nms,es⟩:=d;refine eG 90 [.tmp 6] func258 rfl ntmps258 rfl fun _ _ _ _=>?_;refine cP Ib h1 ?_;refine br ?_ ?_<;>intro c
 ·have c:q=9:=sU c;rw [iE c];refine (bH ?_:);simp only [pickB_and];rfl
 ·have c:¬ q=9:=sU c;rw [Ai c];refine cP Ib h2 ?_;refine cP Ib h3 ?_;refine (bH ?_:);simp only [pickB_and,ak];rfl
theorem Aa (e:Ed) (d:Nd) (v:Val) (U6:e.ck=1->1<=e.cn) (hn : -9223372036854775808<=v.n/\v.n<=9223372036854775807) (hlo : -9223372036854775808<=d.lo/\d.lo<=9223372036854775807) (oc : -9223372036854775808<=d.hi/\d.hi<=9223372036854775807) (hc : -9223372036854775808<=e.cn/\e.cn<=9223372036854775807) (hv:v.wt<=1099511627776) :
  EvP prog 208 [.agg (tQ e),.agg (kN d),.agg (dVal v)] (.v (.bool (im e d v))):=by
 have LI:=fun zP OM=>BU e d v zP OM (U6 OM.1) hn hlo oc hc
 have bM:v.s.size<=1099511627776/\v.ks.length<=1099511627776:=by
  obtain ⟨k,n,s,ks⟩:=v;have:=cw ks;rw [Val.wt] at hv;exact ⟨by show s.size<=_;omega,by show ks.length<=_;omega⟩
 have hh:=xN v.s bM.1 e.cn hc.2;have hlen:=fun h=>OQ (e:=e) (d:=d) (v:=v) h;have Ai:=fun c=>mayF_2 (e:=e) (d:=d) (v:=v) c;have hm3:=fun c=>mayF_3 (e:=e) (d:=d) (v:=v) c;have mz:=fun a b c=>mayF_0 (e:=e) (d:=d) (v:=v) a b c;have iP:=fun k n s h=>qK (v:=v) (k:=k) (n:=n) (s:=s) h;generalize im e d v=B at LI hlen Ai hm3 mz ⊢;have Vk:(e.ck=2/\d.ag=3)->v.ks=[]->B=(decide (v.k=11) && decide (v.n=0) && decide ((v.s.size:Int)<=d.most) && decide (headL e.cn.toNat (tx v.s)=tx v.s)):=fun c h=>by grind
 have aah:(e.ck=3/\d.ag=5)->v.ks=[]->B=(decide (v.k=12) && decide (v.s=emptyB) && decide (0<=v.n) && decide (v.n<=d.most)):=fun c h=>by grind
 have tM:¬ (e.ck=1/\d.ag=2)->¬ (e.ck=2/\d.ag=3)->¬ (e.ck=3/\d.ag=5)->v.ks=[]->B=(decide (v.k=9) && decide (v.n=e.wide) && decide (v.s=emptyB)):=fun a b c h=>by
  rw [mz a b c,iP _ _ _ h]
 clear Ai hm3 mz iP;generalize headL e.cn.toNat (tx v.s)=HD at hh Vk;obtain ⟨q,z,s,ks⟩:=v;simp only [Val.ks,Val.s] at LI hlen Vk aah tM hh bM;have dc:=aX ks;obtain ⟨en,eb,ea,et,yt,ew,iY,xJ,yu,tS⟩:=e;obtain ⟨ag,at',lo,hi,most,nms,es⟩:=d;refine eG 104 [.tmp 6] func208 rfl ntmps208 rfl fun _ _ _ _=>?_;refine br ?_ ?_<;>intro c
 ·have c:0 < ks.length:=sV dc c;rw [hlen c];exact (rfl:_=_)
 have c0:ks=[]:=by simp_all
 refine br ?_ ?_<;>intro c
 ·have c:iY=1/\ag=2:=by simpa [pickB_and] using c
  have LI:=LI c0 c;refine cP Xu LI ?_;exact (rfl:_=_)
 have c1:¬ (iY=1/\ag=2):=by simpa [pickB_and] using c
 refine br ?_ ?_<;>intro c
 ·have c:iY=2/\ag=3:=by simpa [pickB_and] using c
  have hB:B=((decide (q=11) && decide (z=0) && decide ((s.size:Int)<=most)) && decide (HD=tx s)):=Vk c c0;have hbt:decide (ba HD=s)=decide (HD=tx s):=decide_eq_decide.2 ⟨fun h=>by rw [<- h,fh],fun h=>by rw [h,mV]⟩;refine dI ?_;refine br ?_ ?_<;>intro g
  ·have g:(decide (q=11) && decide (z=0) && decide ((s.size:Int)<=most))=true:=by simpa [pickB_and] using g
   rw [g,Bool.true_and] at hB;refine cD Ry hh ?_;refine (bH ?_:);rw [hB,<- hbt];rfl
  ·have g:(decide (q=11) && decide (z=0) && decide ((s.size:Int)<=most))=false:=by simpa [pickB_and] using g
   rw [g,Bool.false_and] at hB;rw [hB];exact (rfl:_=_)
 have c2:¬ (iY=2/\ag=3):=by simpa [pickB_and] using c
 refine br ?_ ?_<;>intro c
 ·have c:iY=3/\ag=5:=by simpa [pickB_and] using c
  rw [aah c c0];refine (bH ?_:);simp only [pickB_and];rfl
 have c3:¬ (iY=3/\ag=5):=by simpa [pickB_and] using c
 rw [tM c1 c2 c3 c0];refine (bH ?_:);simp only [pickB_and];rfl
theorem shell_67 {d:Nd} {v:Val} (h:shellF d v=true):(d.ag=6->v.ks.length < 2)/\(d.ag=7->v.ks.length=d.aq.length)/\(d.ag=8->v.ks.length < 2/\∃ e,d.aq[v.n.toNat]? = some e/\decide (v.ks.length=0)=e.bare):=by
 refine ⟨fun c=>?_,fun c=>?_,fun c=>?_⟩
 ·rw [shellF_567 (.inr (.inl c))] at h;simp [c] at h;omega
 ·rw [shellF_567 (.inr (.inr c))] at h;simp [c] at h;omega
 ·rw [shellF_8 c] at h;split at h
  ·cases h
  ·cases hg:d.aq[v.n.toNat]? with
   | none=>rw [hg] at h;cases h
   | some e=>
    rw [hg] at h;simp only [aO,beq_iff_eq,decide_eq_true_eq] at h;exact ⟨h.2,e,rfl,h.1⟩
abbrev alSt (PC:List DV) (d:Nd) (v:Val) (T:List Int) (e:Nat):St:=
 ⟨[oJ 0 PC,aw 5 0,aw 7 1,aU 12 1 (nY T),aU 143 4 (dVals v.ks),ap 144 ((dVals v.ks).length),ap 145 e],[dVal v,kN d],[]⟩
theorem qL {S:Sch} {ND:List Nd} {PC:List DV} (hP:iM S ND PC):∀ (k:Nat) (v:Val),v.wt<=k->v.wt<=1099511627776->rngW v->∀ i:Int,iW ND v i=true ->
  EvP prog 218 [.pt PC 0,.v (.int .i64 i),.agg (dVal v)] (.v (.bool true))
 | 0,v,h,_=>by have:=v.cT;omega
 | k + 1,v,h,hb=>fun hr i hw=>by
  have ih:=qL hP k;obtain ⟨d,hd,hc⟩:=iC hw;obtain ⟨h0,hg⟩:=bR hd;obtain ⟨j,rfl⟩:∃ j:Nat,i=j:=⟨i.toNat,by omega⟩;have hg:ND[j]? = some d:=sU hg;have hN:=hP.ok d (mG hg);have GO:=hN.k8;have dM:=hP.ah j d hg;have iP:=qG v;have hvw:v.wt=64 + v.s.size + cF v.ks:=by obtain ⟨q,z,s,ks⟩:=v;rfl
  have iT:=cw v.ks;have ue:=sZ v (by omega) (BQ hr);have O9:=n4 hr;have dc:=aX v.ks;have mn:=cj d.aq;have gW:=bL d.af;by_cases c9:9<=v.k
  ·obtain ⟨hB,zP⟩:cR v=true/\v.ks=[]:=by
    rcases hc with h | h | h
    ·exact h.2
    ·omega
    ·omega
   rw [hB] at ue;generalize dC v=T at ue;obtain ⟨ag,at',lo,hi,most,af,es⟩:=d;obtain ⟨q,z,s,ks⟩:=v;simp only [Val.ks,Val.k] at zP c9;subst zP;refine eG 159 [.tmp 6] func218 rfl ntmps218 rfl fun _ _ _ _=>?_;refine cP rm dM ?_;refine br (fun _=>?_) (fun g=>?_)
   rotate_left
   ·exfalso;simp at g;omega
   refine cP RE ue ?_;exact (rfl:_=_)
  ·have yC:v.k=d.ag:=by
    rcases hc with h | h | h
    ·omega
    ·exact h.1
    ·exact h.1
   by_cases c5:d.ag < 5
   ·obtain ⟨zP,h4⟩:v.ks=[]/\(v.k=4->0<=v.n/\v.n < d.af.length):=by
     rcases hc with h | h | h
     ·omega
     ·exact h.2.2
     ·omega
    rw [show (decide (v.k < 5) || decide (8 < v.k))=true by simp;omega] at iP;clear hc ue;obtain ⟨ag,at',lo,hi,most,af,es⟩:=d;obtain ⟨q,z,s,ks⟩:=v;simp only [Val.ks,Val.k,Val.n] at *;subst zP yC;refine eG 159 [.tmp 6] func218 rfl ntmps218 rfl fun _ _ _ _=>?_;refine cP rm dM ?_;refine br (fun g=>?_) (fun _=>?_)
    ·exfalso;simp at g;omega
    refine br (fun g=>?_) (fun _=>?_)
    ·exfalso;simp [pickB] at g
    refine br (fun g=>?_) (fun _=>?_)
    ·exfalso;simp [ak,pickB_and,gW] at g;rcases g with ⟨g1,g2⟩ | ⟨g1,_⟩
     ·have:=h4 g1;omega
     ·omega
    refine cP Ic iP ?_;exact (rfl:_=_)
   ·obtain ⟨xu,ub⟩:shellF d v=true/\fC ND v.ks d v.n 0=true:=by
     rcases hc with h | h | h
     ·omega
     ·omega
     ·exact h.2.2
    obtain ⟨s6,s7,s8⟩:=shell_67 xu;have s9:=shell_8 xu
    have RY:=zX hN (by omega) v hb yC (fun m hm=>by
     obtain ⟨x,hx⟩:∃ x,v.ks[m]? = some x:=⟨_,gE hm⟩;obtain ⟨e,he,_⟩:=jP ub hx;rw [Nat.zero_add] at he
     exact ⟨e,he⟩) s9
    have xL:∀ (m:Nat) x,v.ks[m]? = some x->∃ e,(tosL d v v.ks.length)[m]? = some e/\iW ND x e=true:=fun m x hx=>by
     obtain ⟨e,he,h2⟩:=jP ub hx;rw [Nat.zero_add] at he;exact ⟨e.to,Er he (gS hx).1,h2⟩
    rw [show (decide (v.k < 5) || decide (8 < v.k))=false by simp;omega] at iP;have eN:=Ep d v v.ks.length;generalize tosL d v v.ks.length=T at *;generalize opnT d v=OT at RY;generalize jX v=ET at RY
    have hnmd:Eu d = .v (.slice none 0 0)∨∃ l,Eu d = .sl 1 l none:=by
     unfold Eu;split
     ·exact .inr ⟨_,rfl⟩
     ·exact .inl rfl
    generalize Eu d=NM at RY hnmd;clear hc ue xu ub;obtain ⟨ag,at',lo,hi,most,af,es⟩:=d;obtain ⟨q,z,s,ks⟩:=v;simp only [Val.ks,Val.k,Val.n,Val.s] at *;subst yC;refine eG 159 [.tmp 6] func218 rfl ntmps218 rfl fun _ _ _ _=>?_;refine cP rm dM ?_;refine br (fun g=>?_) (fun _=>?_)
    ·exfalso;simp at g;omega
    refine br (fun g=>?_) (fun _=>?_)
    ·exfalso;simp [pickB] at g
    refine br (fun g=>?_) (fun _=>?_)
    ·exfalso;simp [ak,pickB_and,mn] at g;rcases g with ⟨g1,_⟩ | ⟨g1,g2⟩
     ·omega
     ·have:=s9 g1;omega
    refine cP Ic iP ?_;refine br (fun g=>?_) (fun _=>?_)
    ·exfalso;simp [ak,pickB_and,mn,dc] at g;rcases g with ⟨g1,g2⟩ | ⟨⟨g1,g2⟩,g3⟩
     ·exact g2 (by rw [s7 g1])
     ·by_cases q6:q=6
      ·have:=s6 q6;omega
      ·have:=(s8 (by omega)).1;omega
    refine dI ?_;refine br (fun g=>?pp) (fun g=>?nn)
    case' pp=>
     have g8:q=8:=sU g;obtain ⟨_,e,he,hb⟩:=s8 g8;have h9:=s9 g8;refine iX (bn he) ?_;refine br (fun g=>?_) (fun _=>?_)
     ·exfalso;simp [pickB,dc] at g;simp [<- hb] at g
    all_goals
     refine cP RF RY ?_;refine lJ (fun e=>alSt PC ⟨q,at',lo,hi,most,af,es⟩ (.mk q z s ks) T e) ks.length (wkB 2 tH jT) ?_;intro e he;refine br ?_ ?_<;>intro qd
     ·have al:e < ks.length:=by
       have h2:=qd;simp at h2;have h2:e < (dVals ks).length:=h2;omega
      obtain ⟨x,hx⟩:=gX al;obtain ⟨u,hu,hwu⟩:=xL e x hx;have O4:=cJ (mG hx);have hrec:=ih x (by omega) (by omega) (dO O9 (mG hx)) u hwu;obtain ⟨xk,xn,xs,xl⟩:=x;refine iX (dVals_get hx) ?_;refine dI ?_;refine iX (nZ hu) ?_;refine cD Rz hrec ?_;exact rE ⟨_,by omega,e + 1,rfl,by omega,rfl⟩ (wkB 2 (yL (nxt al (by omega))) (wB1 (nxt al (by omega))))
     ·exact (rfl:_=_)
theorem Ht {S:Sch} {ND:List Nd} {PC:List DV} (hP:iM S ND PC) (x:Val) (hx:x.wt<=1099511627776) (mA:rngW x) (i:Int) (hw:iW ND x i=true) :
  EvP prog 150 [.pt PC 0,.v (.int .i64 i),.agg (dVal x)] (.v (.string (ba (textV ND x i)))):=by
 have ha:=qL hP _ x (aJ _) hx mA i hw;have aT:=EF hP.ok mA hw;have Gm:=fun p hp=>mc hP x x.wt x (aJ _) hx mA i hw [] p hp (by rw [List.length_nil];omega);simp only [List.nil_append] at Gm;generalize textV ND x i=T at *;obtain ⟨xk,xn,xs,xl⟩:=x;refine tZ (s:=false) (bt:=[(1,160)]) (hbt:=fun p hp=>Nat.zero_le _) (P:=prog) tt om 5000 18 [.tmp 6] func150 rfl ntmps150 rfl (nL rfl) (fun _ _ _ _=>?_);refine cP Rz ha ?_;refine xm ⟨0,5,1,none⟩ ⟨[aw 7 1],[dVal (.mk xk xn xs xl),[.v (.pointer none),.sl 1 [] (some 0)]],[⟨0,5,1,none⟩]⟩ rfl ?_ rfl ?_ ⟨⟨_,rfl,we_rfl rfl⟩,trivial⟩ rfl rfl ?_
 ·repeat' (first | exact rfl | exact we_rfl rfl | refine ⟨_,_,rfl,?_,?_⟩)
 ·repeat' (first | exact rfl | exact we_rfl rfl | exact bN (aJ _) rfl | refine ⟨_,_,rfl,?_,?_⟩)
 refine kK 2 1 yU rfl rfl rfl iq iq (Gm (.v (.pointer none)) (.inl rfl)) (fun r gF bP hΦ h1 h2=>?_);obtain ⟨rfl,rfl,rfl⟩:=hΦ;refine Bw rfl (kt:=0) (l:=T) (.head _) rfl aT rfl rfl rfl rfl ?_;exact (rfl:_=_)
abbrev zN0:Nd:=⟨0,0,0,0,0,[],[]⟩
abbrev OR (W:List DV) (v:Val) (n:List DV) (L:List UInt8) (e:Nat):St:=
 ⟨[aw 3 0,aw 5 1,aw 7 2,(8,⟨[],.v (.string (ba L))⟩),ap 9 e],[W,dVal v,n],[]⟩
theorem tp (lv:List Wd) (f:Nat->Nat->Bool) (ND:List Nd) (z0:Int) (bu:∀ n∈ND,dB lv.length ND.length n) (bM:∀ n∈ND,n.aq.length<=1099511627776) :
  ∀ (k:Nat) (v:Val),v.wt<=k->v.wt<=1099511627776->rngW v->∀ i:Int,iW ND v i=true ->
   EvP prog 228 [.agg (wL lv f ND z0),.v (.int .i64 i),.agg (dVal v)] (.v (.string (ba (textV ND v i))))
 | 0,v,h,_=>by have:=v.cT;omega
 | k + 1,v,h,hb=>fun hr i hw=>by
  have ih:=tp lv f ND z0 bu bM k;obtain ⟨d,hd,hc⟩:=iC hw;obtain ⟨h0,hg⟩:=bR hd;obtain ⟨j,rfl⟩:∃ j:Nat,i=j:=⟨i.toNat,by omega⟩;have hg:ND[j]? = some d:=sU hg;have n8:=(gS hg).1;have hN:=bu d (mG hg);have EE:=bM d (mG hg);have oi:=hN.k1;have GO:=hN.k8;have hnn:=BQ hr;obtain ⟨hon,kB⟩:=uy hN hnn hc;have hvw:v.wt=64 + v.s.size + cF v.ks:=by obtain ⟨q,z,s,ks⟩:=v;rfl
  have eN:=ff bu v j hr hw
  have hT:textV ND v j=opnT d v ++ textVs ND v.ks d v.n 0 ++ jX v:=by
   obtain ⟨q,z,s,ks⟩:=v;rw [textV,hd];rfl
  have jS:=Hq v hb;by_cases c9:9<=v.k
  ·have VU:v.ks=[]:=by
    rcases hc with h | h | h
    ·exact h.2.2
    ·exact h.2.2.1
    ·omega
   have kE:=tg zN0 v (by omega) hnn (by omega) (by omega) (by simp);rw [show opnT zN0 v=opnT d v by rw [zW (by omega),zW (by omega)]] at kE;have fx:jX v=[]:=Jg (by omega) VU;rw [VU,fx,textVs,List.append_nil,List.append_nil] at hT;rw [fx] at jS;rw [hT] at eN ⊢;generalize opnT d v=O at *;clear hc hT;obtain ⟨q,z,s,ks⟩:=v;simp only [Val.k,Val.n,Val.s,Val.ks] at *;subst VU;refine eG 61 [.tmp 6] func228 rfl ntmps228 rfl fun _ _ _ _=>?_;refine br (fun c=>absurd c (by simp;omega)) (fun _=>?_);refine cP RG kE ?_;refine lI (fun j st=>st=OR (wL lv f ND z0) (.mk q z s []) zNd O 0/\j=0) ⟨rfl,rfl⟩ (wkM jT) ?_;rintro _ st ⟨rfl,rfl⟩;refine cP RH jS ?_;refine ⟨by show O.length + 0<=_;omega,?_⟩;refine (congrArg (fun q=>DV.v (.string q)) ((bX O []).trans (by rw [List.append_nil])):_=_)
  ·have kE:=tg d v (by omega) hnn (by
    intro c4;rcases hc with h | h | h
    ·omega
    ·exact h.2.2.2 c4
    ·omega) (by
    intro c8;rcases hc with h | h | h
    ·omega
    ·omega
    ·exact shell_8 h.2.2.1 (by omega)) (by
    intro e he c8
    have hk:v.k=d.ag:=by
     rcases hc with h | h | h
     ·omega
     ·exact h.1
     ·exact h.1
    exact eA ((hN.many (.inr (by omega))).2.2.2 e he))
   have zP:v.ks=[]∨(v.k=d.ag/\5<=d.ag/\shellF d v=true/\fC ND v.ks d v.n 0=true):=by
    rcases hc with h | h | h
    ·omega
    ·exact .inl h.2.2.1
    ·exact .inr h
   have KQ:∀ m,m < v.ks.length->∃ e,bG d v.n m=some e/\iW ND (v.ks[m]?.getD v) e.to=true/\v.k=d.ag/\(d.ag=8->0<=v.n/\v.n < d.aq.length)/\5<=d.ag:=fun m hm=>by
    rcases zP with h | h
    ·rw [h] at hm;exact absurd hm (Nat.not_lt_zero _)
    ·obtain ⟨e,h1,h2⟩:=jP h.2.2.2 (gE hm);rw [Nat.zero_add] at h1;exact ⟨e,h1,by rw [gE hm];exact h2,h.1,shell_8 h.2.2.1,h.2.1⟩
   have hE:=fun m e h1 h2=>tf d v m e h1 h2 EE;have x7:∀ e∈d.aq,d.ag=7->e.name.size<=32:=fun e he c=>eA ((hN.many (.inl c)).2.2.2 e he);have Z6:=fun e x ed (h1:v.ks[e]? = some x) (h2:bG d v.n e=some ed)=>ny (ND:=ND) h1 h2;have Z7:textVs ND (v.ks.take 0) d v.n 0=[]:=by rw [List.take_zero,textVs]
   have Z8:textVs ND (v.ks.take v.ks.length) d v.n 0=textVs ND v.ks d v.n 0:=by rw [List.take_length]
   have mh:∀ e,e<=v.ks.length->(textVs ND (v.ks.take e) d v.n 0).length<=50 * cF (v.ks.take e):=fun e he=>by
    rcases zP with h | h
    ·rw [h,List.take_nil,textVs];exact Nat.zero_le _
    ·exact mb bu (v.ks.take e) d v.n 0 hN h.2.1 (xB e (by obtain ⟨_,_,_,_⟩:=v;rw [rngW] at hr;exact hr.2.2)) (xA e h.2.2.2)
   have Pw:=BK v.ks;have mn:=BJ v;rw [hT] at eN ⊢;rw [<- Z8];generalize O5:(fun e=>textVs ND (v.ks.take e) d v.n 0)=X at *;have hX:∀ e,textVs ND (v.ks.take e) d v.n 0=X e:=fun e=>by rw [<- O5]
   simp only [hX] at Z6 Z7 mh ⊢;generalize opnT d v=O at *;generalize jX v=Z at *;clear hc hT Z8 eN hX O5 zP;obtain ⟨q,z,s,ks⟩:=v;obtain ⟨ag,at',lo,hi,most,af,es⟩:=d;have dc:=aX ks;have iT:=cw ks;simp only [Val.k,Val.n,Val.s,Val.ks] at *;refine eG 61 [.tmp 6] func228 rfl ntmps228 rfl fun _ _ _ _=>?_;refine br (fun _=>?_) (fun c=>absurd c (by simp;omega));refine iX (fy hg) ?_;refine cP RG kE ?_;refine aQ (fun j st=>∃ e:Nat,st=OR (wL lv f ND z0) (.mk q z s ks) (kN ⟨ag,at',lo,hi,most,af,es⟩) (O ++ X e) e/\e<=ks.length/\j=ks.length - e) ks.length (OR (wL lv f ND z0) (.mk q z s ks) (kN ⟨ag,at',lo,hi,most,af,es⟩) O 0) (wkM jT) ⟨0,by rw [Z7,List.append_nil],by omega,by omega⟩ ?_;rintro _ st ⟨e,rfl,he,rfl⟩;have hXl:=mh e he;refine br ?_ ?_<;>intro hL
   ·have al:e < ks.length:=by simpa [dc,Val.ks] using hL
    obtain ⟨ed,xy,QV,yC,hk88,h5⟩:=KQ e al;obtain ⟨x,hx⟩:=gX al;rw [hx] at QV;have O4:=cJ (mG hx);have hxt:=sr hx;have Q8:rngW x:=by rw [rngW] at hr;exact dO hr.2.2 (mG hx)
    have uP:=ff bu x ed.to Q8 QV;have qO:=ih x (by omega) (by omega) Q8 ed.to QV;have xE:=Z6 e x ed hx xy;have hE:=hE e ed xy hk88;have BL:=x7 ed (xz xy);generalize textV ND x ed.to=t at qO xE uP;obtain ⟨xk,xn,xs,xl⟩:=x;refine br ?_ ?_<;>intro c
    ·have c:e≠0:=by rintro rfl;simp at c
     rw [ai c] at xE;refine ⟨by show (O ++ X e).length + 2<=_;simp only [List.length_append];omega,?_⟩;refine cP TJ hE ?_;refine br ?_ ?_<;>intro c7
     ·have c7:ag=7:=by have:=of_decide_eq_true c7;omega
      have BL:=BL c7;rw [aj c7] at xE;have hV:(ba (O ++ X e) ++ ba [44,32])=ba (O ++ X e ++ [44,32]):=(bX (O ++ X e) [44,32])
      have BM:(((ba (O ++ X e) ++ ba [44,32]) ++ ed.name) ++ ba [58,32]) ++ ba t=ba (O ++ X (e + 1)):=by
       rw [hV,xE,<- mV ed.name];refine (congrArg (fun q=>(q ++ ba [58,32]) ++ ba t) (bX _ _)).trans ?_;refine (congrArg (fun q=>q ++ ba t) (bX _ _)).trans ?_;refine (bX _ _).trans (congrArg ba ?_);simp only [List.append_assoc,fh]
      have Cb:((ba (O ++ X e) ++ ba [44,32])).size=((O ++ X e ++ [44,32])).length:=by rw [hV];all_goals rfl
      refine ⟨by rw [Cb];simp only [List.length_append,List.length_cons,List.length_nil];omega,?_⟩;refine ⟨by rw [bI,Cb];show _ + 2<=_;simp only [List.length_append,List.length_cons,List.length_nil];omega,?_⟩;refine dI ?_;refine iX (dVals_get hx) ?_;refine cD u7 qO ?_;refine ⟨by rw [bI,bI,Cb];show _ + 2 + t.length<=_;simp only [List.length_append,List.length_cons,List.length_nil];omega,?_⟩;exact rE ⟨_,by omega,e + 1,rfl,by omega,rfl⟩ (wkB 3 (by repeat' (first | exact rfl | exact we_rfl rfl | exact we_int (nxt al (by omega)) | exact iJ BM | refine ⟨_,_,rfl,?_,?_⟩)) (by repeat' (first | exact trivial | exact we_rfl rfl | exact we_int (nxt al (by omega)) | exact iJ BM | refine ⟨⟨_,rfl,?_⟩,?_⟩)))
     ·have c7:¬ ag=7:=by have:=of_decide_eq_false c7;omega
      rw [ai c7,List.nil_append] at xE;have hV:(ba (O ++ X e) ++ ba [44,32])=ba (O ++ X e ++ [44,32]):=(bX (O ++ X e) [44,32])
      have BM:(ba (O ++ X e) ++ ba [44,32]) ++ ba t=ba (O ++ X (e + 1)):=by
       rw [hV,xE];refine (bX _ _).trans (congrArg ba ?_);simp only [List.append_assoc]
      have Cb:((ba (O ++ X e) ++ ba [44,32])).size=((O ++ X e ++ [44,32])).length:=by rw [hV];all_goals rfl
      refine dI ?_;refine iX (dVals_get hx) ?_;refine cD u7 qO ?_;refine ⟨by rw [Cb];show _ + t.length<=_;simp only [List.length_append,List.length_cons,List.length_nil];omega,?_⟩;exact rE ⟨_,by omega,e + 1,rfl,by omega,rfl⟩ (wkB 3 (by repeat' (first | exact rfl | exact we_rfl rfl | exact we_int (nxt al (by omega)) | exact iJ BM | refine ⟨_,_,rfl,?_,?_⟩)) (by repeat' (first | exact trivial | exact we_rfl rfl | exact we_int (nxt al (by omega)) | exact iJ BM | refine ⟨⟨_,rfl,?_⟩,?_⟩)))
    ·have c:e=0:=by simp at c;omega
     rw [aj c,List.nil_append] at xE;refine cP TJ hE ?_;refine br ?_ ?_<;>intro c7
     ·have c7:ag=7:=by have:=of_decide_eq_true c7;omega
      have BL:=BL c7;rw [aj c7] at xE;have hV:ba (O ++ X e)=ba (O ++ X e):=rfl
      have BM:((ba (O ++ X e) ++ ed.name) ++ ba [58,32]) ++ ba t=ba (O ++ X (e + 1)):=by
       rw [hV,xE,<- mV ed.name];refine (congrArg (fun q=>(q ++ ba [58,32]) ++ ba t) (bX _ _)).trans ?_;refine (congrArg (fun q=>q ++ ba t) (bX _ _)).trans ?_;refine (bX _ _).trans (congrArg ba ?_);simp only [List.append_assoc,fh]
      have Cb:(ba (O ++ X e)).size=((O ++ X e)).length:=by rw [hV];all_goals rfl
      refine ⟨by rw [Cb];simp only [List.length_append,List.length_cons,List.length_nil];omega,?_⟩;refine ⟨by rw [bI,Cb];show _ + 2<=_;simp only [List.length_append,List.length_cons,List.length_nil];omega,?_⟩;refine dI ?_;refine iX (dVals_get hx) ?_;refine cD u7 qO ?_;refine ⟨by rw [bI,bI,Cb];show _ + 2 + t.length<=_;simp only [List.length_append,List.length_cons,List.length_nil];omega,?_⟩;exact rE ⟨_,by omega,e + 1,rfl,by omega,rfl⟩ (wkB 3 (by repeat' (first | exact rfl | exact we_rfl rfl | exact we_int (nxt al (by omega)) | exact iJ BM | refine ⟨_,_,rfl,?_,?_⟩)) (by repeat' (first | exact trivial | exact we_rfl rfl | exact we_int (nxt al (by omega)) | exact iJ BM | refine ⟨⟨_,rfl,?_⟩,?_⟩)))
     ·have c7:¬ ag=7:=by have:=of_decide_eq_false c7;omega
      rw [ai c7,List.nil_append] at xE;have hV:ba (O ++ X e)=ba (O ++ X e):=rfl
      have BM:ba (O ++ X e) ++ ba t=ba (O ++ X (e + 1)):=by
       rw [hV,xE];refine (bX _ _).trans (congrArg ba ?_);simp only [List.append_assoc]
      have Cb:(ba (O ++ X e)).size=((O ++ X e)).length:=by rw [hV];all_goals rfl
      refine dI ?_;refine iX (dVals_get hx) ?_;refine cD u7 qO ?_;refine ⟨by rw [Cb];show _ + t.length<=_;simp only [List.length_append,List.length_cons,List.length_nil];omega,?_⟩;exact rE ⟨_,by omega,e + 1,rfl,by omega,rfl⟩ (wkB 3 (by repeat' (first | exact rfl | exact we_rfl rfl | exact we_int (nxt al (by omega)) | exact iJ BM | refine ⟨_,_,rfl,?_,?_⟩)) (by repeat' (first | exact trivial | exact we_rfl rfl | exact we_int (nxt al (by omega)) | exact iJ BM | refine ⟨⟨_,rfl,?_⟩,?_⟩)))
   ·have aM:e=ks.length:=by
     have:=hL;simp [dc,Val.ks] at this;omega
    subst aM;have hw9:=Pw ks.length;refine cP RH jS ?_;refine ⟨by show (O ++ X ks.length).length + Z.length<=_;simp only [List.length_append];omega,?_⟩;exact congrArg (fun q=>DV.v (.string q)) (bX (O ++ X ks.length) Z)
def edW (w:Int):Ed:=⟨emptyB,false,0,0,0,w,0,0,0,0⟩
theorem Vl (w:Int) (d:Nd) (v:Val):im (edW w) d v=cK v 9 w emptyB:=by
 rw [mayF_0 (by rintro ⟨h,_⟩;cases h) (by rintro ⟨h,_⟩;cases h) (by rintro ⟨h,_⟩;cases h)];rfl
theorem Hu {N:Nat} {ND:List Nd} {d:Nd} (hN:dB N ND.length d) {v:Val} (h:shellF d v=true) (c:d.ag=8) {m:Nat} (hm:m < v.ks.length):(0<=v.n/\v.n < d.aq.length)/\m=0:=by grind [shellF_8]
def kidS (ND:List Nd) (f:Nat->Nat->Bool) (L obs:Nat) (d:Nd) (e:Ed) (a:Nat) (x:Val):Bool:=if k0 f L obs d e a=2 then seeV ND f L obs x e.to (iL f L d e a) else if k0 f L obs d e a=1 then (match cm ND e.to with | none=>false | some t=>im e t x) else cK x 9 e.wide emptyB
theorem KW {ND:List Nd} {f:Nat->Nat->Bool} {L obs:Nat} {ks:List Val} {d:Nd} {z:Int} {a j m:Nat} {x:Val} {e:Ed} (h:ks[m]? = some x) (he:bG d z j=some e):seeVs ND f L obs (ks.drop m) d z a j=(kidS ND f L obs d e a x && seeVs ND f L obs (ks.drop (m + 1)) d z a (j + 1)):=by
 rw [G6 h,he];rfl
abbrev KX (PC LC:List DV) (obs a:Nat) (v:Val) (d:Nd) (e:Nat):St:=
 ⟨[ap 2 a,aw 4 0,aw 7 1,aw 9 2,aU 38 4 (dVals v.ks),ap 39 ((dVals v.ks).length),ap 40 e],[SY PC LC obs,dVal v,kN d],[]⟩
theorem tq {S:Sch} {ND:List Nd} {PC LC:List DV} (hP:iM S ND PC) (hR:DZ S.ae.length (aS S) (au S.ae) LC) (IZ:∀ n∈ND,BN n) (bM:∀ n∈ND,n.aq.length<=1099511627776) (obs:Nat) (ho:obs < S.ae.length) :
  ∀ (k:Nat) (v:Val),v.wt<=k->v.wt<=1099511627776->rngW v->∀ (i a:Nat),a < S.ae.length->i < ND.length ->
   EvP prog 125 [.agg (SY PC LC obs),.v (.int .i64 i),.v (.int .i64 a),.agg (dVal v)] (.v (.bool (seeV ND (aS S) S.ae.length obs v i a)))
 | 0,v,h,_=>by have:=v.cT;omega
 | k + 1,v,h,hb=>fun hr i a ha hi=>by
  have ih:=tq hP hR IZ bM obs ho k;have hL:=hR.ok;obtain ⟨d,hg⟩:∃ d,ND[i]? = some d:=⟨_,gE hi⟩;have hnd:cm ND (i:Int)=some d:=by grind [cm]
  have lp:=mG hg;have hN:=hP.ok d lp;have dM:=hP.ah i d hg;have EE:=bM d lp;have OO:=IZ d lp;have Sw:=o0 hP _ v (aJ _) hb i;have xu:=fun h5=>EI d v h5 hN.k8 EE hb;have Vm:=fun h5 hs m hm=>zU hN h5 (v:=v) hs (m:=m) hm;have Vn:=fun hs c m hm=>Hu hN (v:=v) hs c (m:=m) hm
  have hV:seeV ND (aS S) S.ae.length obs v i a=if d.ag < 5 then fitV ND v i else shellF d v && seeVs ND (aS S) S.ae.length obs v.ks d v.n a 0:=by
   obtain ⟨q,z,s,ks⟩:=v;rw [seeV,hnd];rfl
  have hV1:d.ag < 5->seeV ND (aS S) S.ae.length obs v i a=fitV ND v i:=fun c=>by rw [hV,aj c]
  have QY:¬ d.ag < 5->seeV ND (aS S) S.ae.length obs v i a=(shellF d v && seeVs ND (aS S) S.ae.length obs v.ks d v.n a 0):=fun c=>by rw [hV,ai c]
  clear hV;generalize seeV ND (aS S) S.ae.length obs v i a=B at hV1 QY ⊢;generalize fitV ND v i=F at Sw hV1;generalize shellF d v=SH at xu Vm Vn QY;obtain ⟨vk,vn,vs,ks⟩:=v;have iT:=cw ks;have dc:=aX ks;rw [Val.wt] at h hb;have O9:=n4 hr;simp only [Val.ks,Val.n] at QY O9 Vm Vn;obtain ⟨ag,at',lo,gk,most,af,es⟩:=d;refine eG 90 [.tmp 8] func125 rfl ntmps125 rfl fun _ _ _ _=>?_;refine cP rm dM ?_;refine br ?_ ?_<;>intro c
  ·have c:ag < 5:=sU c;rw [hV1 c];refine cP TL Sw ?_;exact (rfl:_=_)
  have c5:¬ ag < 5:=sU c;have QY:=QY c5;have h5:5<=ag:=by omega
  have xu:=xu h5;refine cP Xk xu ?_
  cases SH with
  | false=>
   rw [Bool.false_and] at QY;rw [QY];exact (rfl:_=_)
  | true=>
   rw [Bool.true_and] at QY;refine lI (fun t st=>∃ e:Nat,st=KX PC LC obs a (.mk vk vn vs ks) ⟨ag,at',lo,gk,most,af,es⟩ e/\e<=ks.length/\B=seeVs ND (aS S) S.ae.length obs (ks.drop e) ⟨ag,at',lo,gk,most,af,es⟩ vn a e/\t=ks.length - e) ⟨0,rfl,by omega,QY,rfl⟩ (wkB 3 tH jT) ?_;rintro t st ⟨e,rfl,he,hE,rfl⟩;refine br ?_ ?_<;>intro qd
   ·have al:e < ks.length:=by simpa [dc,Val.ks] using qd
    obtain ⟨x,hx⟩:=gX al;obtain ⟨ed,hK⟩:=Vm h5 rfl e al;have hm:=mG hx;have QV:=cJ hm;have mA:=dO O9 hm;obtain ⟨h1,t2,h2⟩:=I8 hN hK.mem hK.bare;obtain ⟨_,Le⟩:=bR h2;have eN:=(gS Le).1;have ox:ed.to=(ed.to.toNat:Nat):=by omega
    have QZ:=IZ t2 (mG Le);have OS:=hP.ah ed.to.toNat t2 Le;rw [<- ox] at OS;rw [KW hx hK.jV] at hE;have kP:=xM hR PC obs a ha ⟨ag,at',lo,gk,most,af,es⟩ (.mk vk vn vs ks) e ed hK.jV hK.mem hN h5 (fun c=>Vn rfl c e al) EE;have hU:=Bp hL hN hK.mem ha;have xO:=pj hR PC obs (iL (aS S) S.ae.length ⟨ag,at',lo,gk,most,af,es⟩ ed a) ho hU;have hco:=nB hR PC obs a ho ha ⟨ag,at',lo,gk,most,af,es⟩ ed hN hK.mem;have hcnr:=OO.2.2 ed hK.mem;have hcn1:=(hN.jV ed hK.mem).cn.2.1;have aai:=Aa ed t2 x hcn1 (xc mA) QZ.1 QZ.2.1 hcnr (by omega);have OU:=Aa (edW ed.wide) t2 x (fun h=>by cases h) (xc mA) QZ.1 QZ.2.1 ⟨by show (-9223372036854775808:Int)<=0;decide,by show (0:Int)<=9223372036854775807;decide⟩ (by omega);rw [Vl] at OU;have hrec:=ih x (by omega) (by omega) mA ed.to.toNat (iL (aS S) S.ae.length ⟨ag,at',lo,gk,most,af,es⟩ ed a) hU eN;rw [<- ox] at hrec
    have KY:kidS ND (aS S) S.ae.length obs ⟨ag,at',lo,gk,most,af,es⟩ ed a x=if aS S (iL (aS S) S.ae.length ⟨ag,at',lo,gk,most,af,es⟩ ed a) obs=true then seeV ND (aS S) S.ae.length obs x ed.to (iL (aS S) S.ae.length ⟨ag,at',lo,gk,most,af,es⟩ ed a) else if (decide (ed.ck≠0) && aS S (wX (aS S) S.ae.length a ed.seen.toNat) obs)=true then im ed t2 x else cK x 9 ed.wide emptyB:=by
     unfold kidS;rw [Bo,h2];by_cases g1:aS S (iL (aS S) S.ae.length ⟨ag,at',lo,gk,most,af,es⟩ ed a) obs=true
     ·simp only [aj g1,reduceIte]
     ·grind
    generalize kidS ND (aS S) S.ae.length obs ⟨ag,at',lo,gk,most,af,es⟩ ed a x=KS at hE KY;generalize iL (aS S) S.ae.length ⟨ag,at',lo,gk,most,af,es⟩ ed a=U at kP xO hrec KY;generalize aS S U obs=b1 at xO KY;generalize (decide (ed.ck≠0) && aS S (wX (aS S) S.ae.length a ed.seen.toNat) obs)=b2 at hco KY;generalize seeV ND (aS S) S.ae.length obs x ed.to U=R1 at hrec KY;generalize im ed t2 x=R2 at aai KY;generalize cK x 9 ed.wide emptyB=R3 at OU KY;have A4:KS=false->B=false:=fun h=>by rw [hE,h,Bool.false_and]
    have qY:KS=true->∃ j',j' < ks.length - e/\∃ e',KX PC LC obs a (.mk vk vn vs ks) ⟨ag,at',lo,gk,most,af,es⟩ (e + 1)=KX PC LC obs a (.mk vk vn vs ks) ⟨ag,at',lo,gk,most,af,es⟩ e' /\ e' <= ks.length/\B=seeVs ND (aS S) S.ae.length obs (ks.drop e') ⟨ag,at',lo,gk,most,af,es⟩ vn a e' /\ j'=ks.length - e':=fun h=>⟨ks.length - (e + 1),by omega,e + 1,rfl,by omega,by rw [hE,h,Bool.true_and],rfl⟩;obtain ⟨xk,xn,xs,xks⟩:=x;obtain ⟨en,eb,ea,et,yt,ew,iY,xJ,yu,tS⟩:=ed;obtain ⟨kind2,at2,lo2,yD,most2,aem,es2⟩:=t2;clear hE;refine iX (dVals_get hx) ?_;refine cP Ro kP ?_;refine cP rm OS ?_;refine cP Ma xO ?_
    cases b1 with
    | true=>
     refine cP Rn hrec ?_
     cases R1 with
     | false=>
      have hB:=A4 (by rw [KY];rfl);rw [hB];exact (rfl:_=_)
     | true=>
      obtain ⟨j',g1,g2⟩:=qY (by rw [KY];rfl);exact ⟨KX PC LC obs a (.mk vk vn vs ks) ⟨ag,at',lo,gk,most,af,es⟩ (e + 1),(wkB 3 (yL (nxt al (by omega))) (wB1 (nxt al (by omega)))),j',g1,g2⟩
    | false=>
     refine cP en141 hco ?_
     cases b2 with
     | true=>
      refine cP Ru aai ?_
      cases R2 with
      | false=>
       have hB:=A4 (by rw [KY];rfl);rw [hB];exact (rfl:_=_)
      | true=>
       obtain ⟨j',g1,g2⟩:=qY (by rw [KY];rfl);exact ⟨KX PC LC obs a (.mk vk vn vs ks) ⟨ag,at',lo,gk,most,af,es⟩ (e + 1),(wkB 3 (yL (nxt al (by omega))) (wB1 (nxt al (by omega)))),j',g1,g2⟩
     | false=>
      refine cP Ru OU ?_
      cases R3 with
      | false=>
       have hB:=A4 (by rw [KY];rfl);rw [hB];exact (rfl:_=_)
      | true=>
       obtain ⟨j',g1,g2⟩:=qY (by rw [KY];rfl);exact ⟨KX PC LC obs a (.mk vk vn vs ks) ⟨ag,at',lo,gk,most,af,es⟩ (e + 1),(wkB 3 (yL (nxt al (by omega))) (wB1 (nxt al (by omega)))),j',g1,g2⟩
   ·have aM:e=ks.length:=by have:=qd;simp [dc,Val.ks] at this;omega
    subst aM;rw [List.drop_length,seeVs] at hE;rw [hE];exact (rfl:_=_)
def yw (ND:List Nd) (f:Nat->Nat->Bool) (n rt:Nat) (o:Int) (v:Val):Bool:=decide (0<=o/\o < n) && seeV ND f n o.toNat v rt (iV f n)
theorem EJ {S:Sch} {ND:List Nd} {PC LC:List DV} (hP:iM S ND PC) (kS:EvP prog 72 [.pt PC 0] (.pt LC 0)) (hR:DZ S.ae.length (aS S) (au S.ae) LC) (S0:∀ n∈ND,BN n) (bM:∀ n∈ND,n.aq.length<=1099511627776) (rt:Nat) (BT:bz S=rt) (gD:rt < ND.length) (o:Int) (v:Val) (hv:v.wt<=1099511627776) (Ij:rngW v) :
  EvP prog 58 [.pt PC 0,.v (.int .i64 o),.agg (dVal v)] (.v (.bool (yw ND (aS S) S.ae.length rt o v))):=by
 have AW:=xP kS hR o;have fi:=hP.root;rw [BT] at fi;have Dl:=hR.bot;have hs:=fun (obs:Nat) (ho:obs < S.ae.length)=>tq hP hR S0 bM obs ho _ v (aJ _) hv Ij rt (iV (aS S) S.ae.length) (Bm hR.ok) gD;have hS:yw ND (aS S) S.ae.length rt o v=(decide (0<=o/\o < S.ae.length) && seeV ND (aS S) S.ae.length o.toNat v rt (iV (aS S) S.ae.length)):=rfl;generalize yw ND (aS S) S.ae.length rt o v=SF at hS ⊢;by_cases ho:0<=o/\o < S.ae.length
 ·obtain ⟨ob,rfl⟩:∃ n:Nat,o=n:=⟨_,(Int.toNat_of_nonneg ho.1).symm⟩;have hs:=hs ob (by omega);rw [show decide (0<=(ob:Int)/\(ob:Int) < (S.ae.length:Int))=true from decide_eq_true ho] at AW hS;rw [jU,Bool.true_and] at hS;rw [<- hS] at hs;generalize iV (aS S) S.ae.length=bt at Dl hs;obtain ⟨k,n,s,ks⟩:=v;refine eG 26 [.tmp 6] func58 rfl ntmps58 rfl fun _ _ _ _=>?_;refine cP L5 AW ?_;refine dI ?_;refine cD Fy fi ?_;refine cD TM Dl ?_;refine cD Rn hs ?_;exact (rfl:_=_)
 ·rw [show decide (0<=o/\o < (S.ae.length:Int))=false from decide_eq_false ho] at AW hS;rw [Bool.false_and] at hS;rw [hS];obtain ⟨k,n,s,ks⟩:=v;refine eG 26 [.tmp 6] func58 rfl ntmps58 rfl fun _ _ _ _=>?_;refine cP L5 AW ?_;refine dI ?_;exact (rfl:_=_)
theorem KZ:EvP prog 73 [.v (.pointer none)] (.v (.int .i64 0)):=by
 refine eG 10 [.tmp 2] func73 rfl ntmps73 rfl fun _ _ _ _=>?_;exact (rfl:_=_)
theorem K0 (o:Int):EvP prog 67 [.v (.pointer none),.v (.int .i64 o)] (.tup [.agg [.v (.pointer none),.v (.pointer none),.v (.int .i64 o)],.v (.bool false)]):=by
 refine eG 21 [.cell 4 148,.tmp 5] func67 rfl ntmps67 rfl fun _ _ _ _=>?_;refine cP TN NK ?_;refine br ?_ ?_<;>intro c
 ·have c:0<=o:=sU c;refine cP L6 KZ ?_;refine ⟨.tup [.agg [.v (.pointer none),.v (.pointer none),.v (.int .i64 o)],.v (.bool (decide (o < 0)))],ax,?_⟩;rw [show decide (o < 0)=false from decide_eq_false (by omega)]
 ·exact ⟨_,ax,rfl⟩
section
variable {ND:List Nd} {f:Nat->Nat->Bool} {L obs:Nat}
theorem Q0 {v:Val} {i:Int} {d:Nd} (hd:cm ND i=some d) (h9:9<=v.k) (hb:cR v=true) (hk:v.ks=[]):iW ND v i=true:=by
 obtain ⟨k,n,s,ks⟩:=v;have hk:ks=[]:=hk;subst hk;have h9:9<=k:=h9
 grind [iW]
theorem xQ {v:Val} {i:Int} {d:Nd} {k n:Int} {s:ByteArray} (hd:cm ND i=some d) (h:cK v k n s=true) (hk:(k=9/\1<=n/\n<=64)∨k=10∨k=11∨k=12):iW ND v i=true:=by
 rw [pf.1 h];refine Q0 hd (by show 9<=k;omega) ?_ rfl
 grind [cR,Val.k,Val.n]
theorem Q1 {v:Val} {i:Int} {d:Nd} {e:Ed} {t:Nd} (hd:cm ND i=some d) (hw:1<=e.wide/\e.wide<=64) (h:im e t v=true):iW ND v i=true:=by grind [im,xQ]
mutual
theorem Jq (bu:∀ n∈ND,dB L ND.length n):∀ (v:Val) (i:Int) (a:Nat),seeV ND f L obs v i a=true->iW ND v i=true
 | .mk k n s ks,i,a,h=>by
  rw [seeV] at h
  cases hd:cm ND i with
  | none=>rw [hd] at h;cases h
  | some d=>
   rw [hd] at h;simp only at h;have hN:=bu d (mG (bR hd).2);have GO:=hN.k8;rw [iW,hd];simp only;split at h
   ·rename_i c5;obtain ⟨d',hF⟩:=jk bu h;have hdd:=hF.ah;rw [hd] at hdd;injection hdd with hdd
    subst hdd;have h1:k=d.ag:=hF.k;have h2:ks=[]:=hF.leaf c5;have h3:=hF.enum;rw [ai (by omega),ai (by omega),aj c5,h2];simp only [decide_true,Bool.true_and,Bool.or_eq_true,decide_eq_true_iff];by_cases c4:k=4
    ·exact .inr (h3 (by omega))
    ·exact .inl c4
   ·rename_i c5;rw [aO] at h
    have hk:k=d.ag:=by
     by_cases c:k=d.ag
     ·exact c
     ·have:=h.1;unfold shellF at this;rw [aj (.inl c)] at this;cases this
    rw [ai (by omega),ai (by omega),ai c5,aO];exact ⟨h.1,EK bu ks d n a 0 hN (fun m hm=>by rw [Nat.zero_add];exact zU hN (by omega) h.1 hm) h.2⟩
theorem EK (bu:∀ n∈ND,dB L ND.length n):∀ (l:List Val) (d:Nd) (z:Int) (a j:Nat),dB L ND.length d->(∀ m,m < l.length->∃ e,ZY ND d z (j + m) e)->seeVs ND f L obs l d z a j=true->fC ND l d z j=true
 | [],_,_,_,_,_,_,_=>by rw [fC]
 | x :: r,d,z,a,j,hN,hK,h=>by
  rw [seeVs,aO] at h;rw [fC,aO];refine ⟨?_,EK bu r d z a (j + 1) hN (fun m hm=>by have:=hK (m + 1) (by rw [List.length_cons];omega);rwa [show j + (m + 1)=j + 1 + m by omega] at this) h.2⟩;obtain ⟨e,hE⟩:=hK 0 (by simp);have he:=hE.jV;rw [Nat.add_zero] at he;have h1:=h.1;rw [he] at h1 ⊢;simp only at h1 ⊢;obtain ⟨g1,t,ht⟩:=I8 hN hE.mem hE.bare;have hw:=(hN.jV e hE.mem).wide;split at h1
  ·exact Jq bu x e.to _ h1
  ·grind [Q1,xQ]
end
theorem nC (bu:∀ n∈ND,dB L ND.length n) {rt:Nat} {o:Int} {v:Val} (h:yw ND f L rt o v=true):iW ND v (rt:Nat)=true:=by grind [yw,Jq]
end
theorem qM {S:Sch} {ND:List Nd} {PC LC:List DV} (hP:iM S ND PC) (kS:EvP prog 72 [.pt PC 0] (.pt LC 0)) (hR:DZ S.ae.length (aS S) (au S.ae) LC) (S0:∀ n∈ND,BN n) (bM:∀ n∈ND,n.aq.length<=1099511627776) (rt:Nat) (BT:bz S=rt) (gD:rt < ND.length) (o:Int) (x:Val) (hx:x.wt<=1099511627776) (mA:rngW x) :
  EvP prog 226 [.pt PC 0,.v (.int .i64 o),.agg (dVal x)] (.tup [.v (.string (ba (QX ND x (rt:Nat) (yw ND (aS S) S.ae.length rt o x)))),.v (.bool (yw ND (aS S) S.ae.length rt o x))]):=by
 rw [<- BT];exact BR hP x hx mA o _ (EJ hP kS hR S0 bM rt BT gD o x hx mA) (fun h=>by rw [BT];exact nC hP.ok h)
def eL:Sch:=⟨[⟨⟨#[108,111,119]⟩,0⟩,⟨⟨#[104,105,103,104]⟩,0⟩],[(⟨⟨#[108,111,119]⟩,0⟩,⟨⟨#[104,105,103,104]⟩,0⟩)],[],.mk (exH 7) (.cons ⟨⟨⟨#[120]⟩,0⟩,false,[⟨⟨#[104,105,103,104]⟩,0⟩],2,0,0,0,[]⟩ (.mk (exH 1) .nil) .nil)⟩
def xR:Val:=.mk 7 0 emptyB [.mk 9 2 emptyB []]
theorem K1:(kx eL).1=0:=by decide +kernel
theorem ss:bz eL=((bz eL).toNat:Nat)/\(bz eL).toNat < (ay eL).length:=by decide +kernel
theorem EL:yw (ay eL) (aS eL) eL.ae.length (bz eL).toNat 0 xR=true:=by decide +kernel
def pcsL (ND:List Nd) (d:Nd) (x:Val):List (List UInt8):=(List.range x.ks.length).map fun j=>match d.aq[j]?,x.ks[j]? with
 | some e,some k=>tx e.name ++ [61] ++ textV ND k e.to
 | _,_=>[]
def qN (ND:List Nd) (d:Nd) (x:Val) (i:Int):List UInt8:=if d.ag=7 then joinT [] [32] (pcsL ND d x) else textV ND x i
theorem xS (ND:List Nd) (d:Nd) (x:Val):(pcsL ND d x).length=x.ks.length:=by simp [pcsL]
theorem xT {ND:List Nd} {d:Nd} {x:Val} {j:Nat} {e:Ed} {k:Val} (h1:d.aq[j]? = some e) (h2:x.ks[j]? = some k):(pcsL ND d x)[j]? = some (tx e.name ++ [61] ++ textV ND k e.to):=by
 obtain ⟨h,rfl⟩:=List.getElem?_eq_some_iff.1 h2;simp [pcsL,h,h1]
theorem uz {ND:List Nd} {d:Nd} {x:Val} (h7:d.ag=7) (hl:x.ks.length=d.aq.length):∀ m,m<=x.ks.length->(joinT [] [32] ((pcsL ND d x).take m)).length<=(textVs ND (x.ks.take m) d x.n 0).length
 | 0,_=>by simp [joinT]
 | m + 1,h=>by
  have ih:=uz (ND:=ND) (x:=x) h7 hl m (by omega);obtain ⟨k,hk⟩:∃ k,x.ks[m]? = some k:=⟨_,gE (by omega)⟩;obtain ⟨e,he⟩:∃ e,d.aq[m]? = some e:=⟨_,gE (by omega)⟩;rw [vx (xT he hk),ny hk (by unfold bG;rw [aj h7];exact he),aj h7];simp only [List.length_append,List.length_cons,List.length_nil];split<;>simp<;>omega
abbrev bdSt (PC:List DV) (x:Val) (d:Nd) (L:List (List UInt8)) (q e:Nat):St:=
 ⟨[oJ 0 PC,aw 5 0,aw 10 1,(12,⟨[],.sl 1 (cO L) (some 0)⟩),aU 39 10 (eM d.aq),ap 40 ((eM d.aq).length),ap 41 e],[dVal x,kN d],[⟨q,9,1,none⟩]⟩
set_option maxHeartbeats 1000000 in
theorem tu {S:Sch} {ND:List Nd} {PC:List DV} (hP:iM S ND PC) (bM:∀ n∈ND,n.aq.length<=1099511627776) (rt:Nat) (BT:bz S=rt) (d:Nd) (hd:ND[rt]? = some d) (x:Val) (hx:x.wt<=1099511627776) (mA:rngW x) (o:Int) (B:Bool)
  (hc:EvP prog 226 [.pt PC 0,.v (.int .i64 o),.agg (dVal x)] (.tup [.v (.string (ba (QX ND x (rt:Nat) B))),.v (.bool B)])) (hB:B=true->iW ND x (rt:Nat)=true/\x.k=d.ag) :
  EvP prog 155 [.pt PC 0,.v (.int .i64 o),.agg (dVal x)] (.tup [.v (.string (ba (if B=true then qN ND d x rt else []))),.v (.bool B)]):=by
 have fi:=hP.root;rw [BT] at fi;have dM:=hP.ah rt d hd
 have S1:cm ND (rt:Int)=some d:=by
  unfold cm;rw [ai (by omega),jU,hd]
 have mn:=cj d.aq;have iR:=bM d (mG hd)
 cases B with
 | false=>
  have hc:EvP prog 226 [.pt PC 0,.v (.int .i64 o),.agg (dVal x)] (.tup [.v (.string (ba [])),.v (.bool false)]):=hc;obtain ⟨ag,at',lo,hi,most,af,es⟩:=d;obtain ⟨k,n,s,ks⟩:=x;refine eG 65 [.tmp 6,.tmp 7] func155 rfl ntmps155 rfl fun _ _ _ _=>?_;refine cP Mg hc ?_;refine cP Fy fi ?_;refine cP rm dM ?_;exact ⟨.tup [.v (.string _),.v (.bool _)],ax,rfl⟩
 | true=>
  obtain ⟨hw,hk⟩:=hB rfl;have hc:EvP prog 226 [.pt PC 0,.v (.int .i64 o),.agg (dVal x)] (.tup [.v (.string (ba (textV ND x (rt:Nat)))),.v (.bool true)]):=hc;have hT:qN ND d x rt=if d.ag=7 then joinT [] [32] (pcsL ND d x) else textV ND x rt:=rfl
  rw [aj rfl];by_cases c7:d.ag=7
  ·rw [aj c7] at hT;have eN:=ff hP.ok x rt mA hw;obtain ⟨d',yR,SC⟩:=iC hw;rw [S1] at yR;cases yR
   obtain ⟨xu,ub⟩:shellF d x=true/\fC ND x.ks d x.n 0=true:=by
    rcases SC with h | h | h
    ·omega
    ·omega
    ·exact h.2.2
   have hlen:=(shell_67 xu).2.1 c7;have fW:=uz (ND:=ND) c7 hlen
   have htv:(textVs ND x.ks d x.n 0).length<=(textV ND x rt).length:=by
    obtain ⟨k,n,s,ks⟩:=x;rw [textV,S1];simp only [List.length_append,Val.ks,Val.n];omega
   have iP:=xS ND d x;have hpg:=fun j e k=>@xT ND d x j e k;have O4:x.wt=64 + x.s.size + cF x.ks:=by obtain ⟨_,_,_,_⟩:=x;rfl
   have iT:=cw x.ks
   have hjt:(joinT [] [32] (pcsL ND d x)).length<=140737488355328:=by
    have:=fW x.ks.length (aJ _);rw [List.take_of_length_le (by omega),List.take_of_length_le (aJ _)] at this;omega
   have xL:∀ (j:Nat) k,x.ks[j]? = some k->∃ e,d.aq[j]? = some e/\EvP prog 150 [.pt PC 0,.v (.int .i64 e.to),.agg (dVal k)] (.v (.string (ba (textV ND k e.to))))/\(textV ND k e.to).length<=50 * k.wt/\e.name.size<=32:=fun j k hk=>by
    obtain ⟨e,he,h2⟩:=jP ub hk;rw [Nat.zero_add] at he;have hkw:=cJ (mG hk);have IL:=dO (n4 mA) (mG hk)
    have JD:d.aq[j]? = some e:=by
     unfold bG at he
     rwa [aj c7] at he
    have:=ff hP.ok k e.to IL h2;exact ⟨e,JD,Ht hP k (by omega) IL e.to h2,by omega,eA (((hP.ok d (mG hd)).many (.inl c7)).2.2.2 e (mG JD))⟩
   rw [hT];generalize pcsL ND d x=P at *;generalize textV ND x (rt:Nat)=TV at hc;clear SC ub xu;obtain ⟨ag,at',lo,hi,most,af,es⟩:=d;obtain ⟨k,n,s,ks⟩:=x;simp only [Val.ks,Val.s] at *;have dc:=aX ks;refine eG 65 [.tmp 6,.tmp 7] func155 rfl ntmps155 rfl fun _ _ _ _=>?_;refine cP Mg hc ?_;refine cP Fy fi ?_;refine cP rm dM ?_;refine br (fun g=>?_) (fun _=>?_)
   ·exfalso;simp [ak] at g;exact g c7
   refine lJ (fun e=>bdSt PC (.mk k n s ks) ⟨ag,at',lo,hi,most,af,es⟩ (P.take e) e e) ks.length (de 2 ⟨0,9,1,none⟩ rfl rfl rfl tH rfl rfl jT) ?_;intro e he;refine br ?_ ?_<;>intro qd
   ·have al:e < ks.length:=by
     have h2:=qd;simp at h2;have h2:e < (eM es).length:=h2;omega
    obtain ⟨u,hu⟩:=gX al;obtain ⟨ed,KQ,Gd,hsz1,F2⟩:=xL e u hu;have du:=hpg e ed u KQ hu;have huw:=cJ (mG hu);generalize textV ND u ed.to=T at *;obtain ⟨uk,un,us,ul⟩:=u;obtain ⟨en,eb,ea,et,yt,ew,iY,xJ,yu,tS⟩:=ed;refine iX (bn KQ) ?_;have di:P[e]? = some (tx (en ++ ⟨#[61]⟩ ++ ba T)):=by rw [du];simp [lM,vw,fh]
    have di:=FM di;have YJ:(cO (P.take e)).length=e:=by rw [ez,dE];omega
    have gT:en.size + 1<=9223372036854775807:=by have:en.size<=32:=F2;omega
    refine dI ?_;refine ⟨gT,?_⟩;refine iX (dVals_get hu) ?_;refine cD W6 Gd ?_;refine ⟨by have h1:en.size<=32:=F2;(simp only [bI,fY,List.length_cons,List.length_nil];omega),?_⟩;refine ⟨YJ,⟨by rw [YJ];simp [maxLen];omega,by rw [YJ];simp;omega⟩,?_⟩;exact rE ⟨_,by omega,e + 1,rfl,by omega,rfl⟩ (wkB 2 (wA2 (nxt al (by omega)) di) (wB2 (nxt al (by omega)) di))
   ·have aM:e=ks.length:=by
     have h2:=qd;simp at h2;have h2:(eM es).length<=e:=h2;omega
    subst aM;rw [List.take_of_length_le (by omega)];refine cP Xn (J0 P (ba [32]) (by omega) (by rw [fh];exact hjt)) ?_;rw [fh];exact ⟨.tup [.v (.string _),.v (.bool _)],ax,rfl⟩
  ·rw [ai c7] at hT;rw [hT];generalize textV ND x (rt:Nat)=TV at hc;obtain ⟨ag,at',lo,hi,most,af,es⟩:=d;obtain ⟨k,n,s,ks⟩:=x;refine eG 65 [.tmp 6,.tmp 7] func155 rfl ntmps155 rfl fun _ _ _ _=>?_;refine cP Mg hc ?_;refine cP Fy fi ?_;refine cP rm dM ?_;refine br (fun _=>?_) (fun g=>?_)
   ·exact ⟨.tup [.v (.string _),.v (.bool _)],ax,rfl⟩
   ·exfalso;simp [ak] at g;exact c7 g
def Hv (n:Int) (s:ByteArray) (b:List UInt8):List UInt8:=fQ n ++ [32] ++ tx s ++ [58,32] ++ b
theorem oD {S:Sch} {PC LC:List DV} (kS:EvP prog 72 [.pt PC 0] (.pt LC 0)) (hR:DZ S.ae.length (aS S) (au S.ae) LC) (o:Int) (x:Val) (T:List UInt8) (hT:T.length<=140737488355328)
  (hb:EvP prog 155 [.pt PC 0,.v (.int .i64 o),.agg (dVal x)] (.tup [.v (.string (ba T)),.v (.bool true)])) (s:ByteArray) (j:Nat) (hoj:o=j) (hs:(au S.ae)[j]? = some s) (VM:s.size<=1099511627776) (n:Int) (hn:0<=n) (Pk:n<=9223372036854775807) :
  EvP prog 80 [.pt PC 0,.v (.int .i64 o),.v (.int .i64 n),.agg (dVal x)] (.tup [.v (.string (ba (Hv n s T))),.v (.bool true)]):=by
 have hp:=C2 n (by omega) Pk;have iP:=pS (z:=n) (by omega) Pk;have EZ:=hR.name j s hs;rw [<- hoj] at EZ;have hL:Hv n s T=fQ n ++ [32] ++ tx s ++ [58,32] ++ T:=rfl;have EV:pQ n=ba (fQ n):=rfl;rw [EV] at hp;generalize Hv n s T=L at *;generalize fQ n=P at *;obtain ⟨xk,xn,xs,xl⟩:=x;refine eG 36 [.tmp 8,.tmp 9] func80 rfl ntmps80 rfl fun _ _ _ _=>?_;refine cP W7 hb ?_;refine br (fun g=>?_) (fun _=>?_)
 ·exfalso;simp [ak] at g;omega
 refine cP H8 hp ?_;refine ⟨by (simp only [bI,fY,List.length_cons,List.length_nil];omega),?_⟩;refine cP TN kS ?_;refine cP W8 EZ ?_;refine ⟨by (simp only [bI,fY,List.length_cons,List.length_nil];omega),?_⟩;refine ⟨by (simp only [bI,fY,List.length_cons,List.length_nil];omega),?_⟩;refine ⟨by (simp only [bI,fY,List.length_cons,List.length_nil];omega),?_⟩;subst hL;refine ⟨.tup [.v (.string _),.v (.bool _)],ax,?_⟩;refine congrArg (fun s=>DV.tup [.v (.string s),.v (.bool true)]) (mU ?_);simp [lM,vw,fh]
theorem OV (f s:List UInt8) (l:List (List UInt8)) (m:Nat):(joinT f s (l.take m)).length<=(joinT f s l).length:=by
 cases m with
 | zero=>simp [joinT]
 | succ m=>
  cases l with
  | nil=>simp
  | cons x r=>
   have h:(r.flatMap fun y=>s ++ y).length=((r.take m).flatMap fun y=>s ++ y).length + ((r.drop m).flatMap fun y=>s ++ y).length:=by
    conv=>lhs;rw [<- List.take_append_drop m r,List.flatMap_append,List.length_append]
   simp only [List.take_succ_cons,joinT,List.length_append];omega
abbrev rbSt (W:List DV) (x:Val) (T:List UInt8) (e:Nat):St:=
 ⟨[aw 2 0,aw 3 1,(5,⟨[],.v (.string (ba T))⟩),ap 6 e],[W,dVal x],[]⟩
set_option maxHeartbeats 1000000 in
theorem BV (lv:List Wd) (f:Nat->Nat->Bool) (ND:List Nd) (rt:Nat) (bu:∀ n∈ND,dB lv.length ND.length n) (bM:∀ n∈ND,n.aq.length<=1099511627776) (d:Nd) (hd:ND[rt]? = some d) (x:Val) (hx:x.wt<=1099511627776) (mA:rngW x) (hw:iW ND x (rt:Nat)=true) (hk:x.k=d.ag) :
  EvP prog 160 [.agg (wL lv f ND (rt:Nat)),.agg (dVal x)] (.v (.string (ba (qN ND d x rt)))):=by
 have S1:cm ND (rt:Int)=some d:=by
  unfold cm;rw [ai (by omega),jU,hd]
 have mn:=cj d.aq;have gW:=jK ND;have hT:qN ND d x rt=if d.ag=7 then joinT [] [32] (pcsL ND d x) else textV ND x rt:=rfl
 have htx:=fun (y:Val)=>tp lv f ND (rt:Nat) bu bM y.wt y (aJ _);by_cases c7:d.ag=7
 ·rw [aj c7] at hT;obtain ⟨d',yR,SC⟩:=iC hw;rw [S1] at yR;cases yR
  obtain ⟨xu,ub⟩:shellF d x=true/\fC ND x.ks d x.n 0=true:=by
   rcases SC with h | h | h
   ·omega
   ·omega
   ·exact h.2.2
  have hlen:=(shell_67 xu).2.1 c7;have fW:=uz (ND:=ND) c7 hlen;have eN:=ff bu x rt mA hw
  have htv:(textVs ND x.ks d x.n 0).length<=(textV ND x rt).length:=by
   obtain ⟨k,n,s,ks⟩:=x;rw [textV,S1];simp only [List.length_append,Val.ks,Val.n];omega
  have iP:=xS ND d x;have hpg:=fun j e k=>@xT ND d x j e k;have O4:x.wt=64 + x.s.size + cF x.ks:=by obtain ⟨_,_,_,_⟩:=x;rfl
  have iQ:=fW x.ks.length (aJ _);rw [List.take_of_length_le (by omega),List.take_of_length_le (aJ _)] at iQ;have iT:=cw x.ks
  have xL:∀ (j:Nat) k,x.ks[j]? = some k->∃ e,d.aq[j]? = some e/\EvP prog 228 [.agg (wL lv f ND (rt:Nat)),.v (.int .i64 e.to),.agg (dVal k)] (.v (.string (ba (textV ND k e.to))))/\(textV ND k e.to).length<=50 * k.wt/\e.name.size<=32:=fun j k hk=>by
   obtain ⟨e,he,h2⟩:=jP ub hk;rw [Nat.zero_add] at he;have hkw:=cJ (mG hk);have IL:=dO (n4 mA) (mG hk)
   have JD:d.aq[j]? = some e:=by
    unfold bG at he
    rwa [aj c7] at he
   have:=ff bu k e.to IL h2;exact ⟨e,JD,htx k (by omega) IL e.to h2,by omega,eA (((bu d (mG hd)).many (.inl c7)).2.2.2 e (mG JD))⟩
  have hJ:∀ m,(joinT [] [32] ((pcsL ND d x).take m)).length<=54975581388800:=fun m=>by
   have h1:=OV [] [32] (pcsL ND d x) m;omega
  rw [hT];generalize pcsL ND d x=P at *;clear SC ub xu fW iQ eN htv hT htx;obtain ⟨ag,at',lo,hi,most,af,es⟩:=d;obtain ⟨k,n,s,ks⟩:=x;simp only [Val.ks,Val.s,Val.k] at *;have dc:=aX ks;refine eG 53 [.tmp 4] func160 rfl ntmps160 rfl fun _ _ _ _=>?_;refine br (fun g=>?_) (fun _=>?_)
  ·exfalso;simp at g;omega
  refine lJ (fun e=>rbSt (wL lv f ND (rt:Nat)) (.mk k n s ks) (joinT [] [32] (P.take e)) e) ks.length (wkB 2 tH jT) ?_;intro e he;refine br ?_ ?_<;>intro qd
  ·have al:e < ks.length:=by
    have h2:=qd;simp at h2;have h2:e < (dVals ks).length:=h2;omega
   obtain ⟨u,hu⟩:=gX al;obtain ⟨ed,KQ,Gd,hsz1,F2⟩:=xL e u hu;have du:=hpg e ed u KQ hu;have hJe:=hJ e;have YB:=vx (f:=[]) (s:=[32]) du;have huw:=cJ (mG hu)
   have VV:∀ y:ByteArray,tx y=joinT [] [32] (P.take e) ++ (if e=0 then [] else [32]) ++ (tx ed.name ++ [61] ++ textV ND u ed.to)->DV.v (.string y) = .v (.string (ba (joinT [] [32] (P.take (e + 1))))):=fun y hy=>by
    rw [YB,<- hy,mV]
   clear YB;generalize hJJ:joinT [] [32] (P.take (e + 1))=JJ at *;generalize joinT [] [32] (P.take e)=J at *;generalize textV ND u ed.to=T at *;obtain ⟨uk,un,us,ul⟩:=u;obtain ⟨en,eb,ea,et,yt,ew,iY,xJ,yu,tS⟩:=ed;have F2:en.size<=32:=F2;have nG:(Val.mk uk un us ul).wt<=1099511627776:=by omega
   refine br ?_ ?_<;>intro g
   ·have g:¬ e=0:=by
     have h2:=of_decide_eq_true g;omega
    rw [ai g] at VV;refine ⟨by (simp only [bI,fY,List.length_cons,List.length_nil];omega),?_⟩;refine iX (fy hd) ?_;refine iX (bn KQ) ?_;refine dI ?_;refine ⟨by (simp only [bI,fY,List.length_cons,List.length_nil];omega),?_⟩;refine ⟨by (simp only [bI,fY,List.length_cons,List.length_nil];omega),?_⟩;refine iX (dVals_get hu) ?_;refine cD u7 Gd ?_;refine ⟨by (simp only [bI,fY,List.length_cons,List.length_nil];omega),?_⟩;exact rE ⟨_,by omega,e + 1,by rw [hJJ],by omega,rfl⟩ (wkB 2 (by repeat' (first | exact rfl | exact we_rfl rfl | exact we_int (nxt al (by omega)) | exact Or.inl ⟨VV _ (by simp [lM,vw,fh]),rfl⟩ | refine ⟨_,_,rfl,?_,?_⟩)) (by repeat' (first | exact trivial | exact we_rfl rfl | exact we_int (nxt al (by omega)) | exact Or.inl ⟨VV _ (by simp [lM,vw,fh]),rfl⟩ | refine ⟨⟨_,rfl,?_⟩,?_⟩)))
   ·have g:e=0:=by
     have h2:=of_decide_eq_false g;omega
    rw [aj g] at VV;refine iX (fy hd) ?_;refine iX (bn KQ) ?_;refine dI ?_;refine ⟨by (simp only [bI,fY,List.length_cons,List.length_nil];omega),?_⟩;refine ⟨by (simp only [bI,fY,List.length_cons,List.length_nil];omega),?_⟩;refine iX (dVals_get hu) ?_;refine cD u7 Gd ?_;refine ⟨by (simp only [bI,fY,List.length_cons,List.length_nil];omega),?_⟩;exact rE ⟨_,by omega,e + 1,by rw [hJJ],by omega,rfl⟩ (wkB 2 (by repeat' (first | exact rfl | exact we_rfl rfl | exact we_int (nxt al (by omega)) | exact Or.inl ⟨VV _ (by simp [lM,vw,fh]),rfl⟩ | refine ⟨_,_,rfl,?_,?_⟩)) (by repeat' (first | exact trivial | exact we_rfl rfl | exact we_int (nxt al (by omega)) | exact Or.inl ⟨VV _ (by simp [lM,vw,fh]),rfl⟩ | refine ⟨⟨_,rfl,?_⟩,?_⟩)))
  ·have aM:e=ks.length:=by
    have h2:=qd;simp at h2;have h2:(dVals ks).length<=e:=h2;omega
   subst aM;rw [List.take_of_length_le (by omega)];exact (rfl:_=_)
 ·rw [ai c7] at hT;rw [hT];have ht:=htx x hx mA rt hw;generalize textV ND x (rt:Nat)=T at *;obtain ⟨k,n,s,ks⟩:=x;refine eG 53 [.tmp 4] func160 rfl ntmps160 rfl fun _ _ _ _=>?_;refine br (fun _=>?_) (fun g=>?_)
  ·refine cP u7 ht ?_;exact (rfl:_=_)
  ·exfalso;simp at g;exact c7 (by rw [<- hk];exact g)
theorem EM {e:Ed} {x:Val} (hw:1<=e.wide/\e.wide<=64) (hx:rngW x) (O4:x.wt<=1099511627776):rngW (aW e x):=by
 have hn:=xc hx;unfold aW;split
 ·rename_i h;have h3:=h.2.2;by_cases hu:e.cn < 1
  ·grind [aF]
  ·rw [qF (by omega)] at h3 ⊢;have:=Int.emod_nonneg x.n (show e.cn≠0 by omega);split at h3
   ·cases h3
   rename_i hc;rw [ai hc,rngW];exact ⟨by unfold od;omega,by unfold od;simp only;omega,trivial⟩
 ·split
  ·rw [rngW];exact ⟨by unfold od;omega,by unfold od;omega,trivial⟩
  ·split
   ·rw [rngW]
    have:x.ks.length<=1099511627776:=by
     obtain ⟨k,n,s,ks⟩:=x
     grind [cw,Val.wt,Val.ks]
    exact ⟨by unfold od;omega,by unfold od;omega,trivial⟩
   ·rw [sg,rngW];exact ⟨by unfold od;omega,by unfold od;omega,trivial⟩
theorem K2 {d:Nd} {z:Int} {j:Nat} {e:Ed} (h:bG d z j=some e):e∈d.aq:=by grind [bG]
section
variable {ND:List Nd} {f:Nat->Nat->Bool} {L obs:Nat}
mutual
theorem xU (bu:∀ n∈ND,dB L ND.length n):∀ (v:Val) (i:Int) (a:Nat),rngW v->v.wt<=1099511627776->rngW (eraseV ND f L obs v i a)
 | .mk k n s ks,i,a,h,hw=>by
  rw [rngW] at h;rw [Val.wt] at hw;rw [eraseV]
  cases hd:cm ND i with
  | none=>rw [rngW];exact ⟨h.1,h.2.1,trivial⟩
  | some d=>
   have hN:=bu d (mG (bR hd).2);rw [rngW];exact ⟨h.1,h.2.1,tw bu ks d n a 0 hN h.2.2 (by omega)⟩
theorem tw (bu:∀ n∈ND,dB L ND.length n):∀ (ks:List Val) (d:Nd) (z:Int) (a j:Nat),dB L ND.length d->rngWs ks->cF ks<=1099511627776->rngWs (eraseVs ND f L obs ks d z a j)
 | [],_,_,_,_,_,_,_=>by rw [eraseVs];trivial
 | x :: r,d,z,a,j,hN,h,hw=>by
  rw [rngWs] at h;rw [cF] at hw;have h1:=tw bu r d z a (j + 1) hN h.2 (by omega);rw [eraseVs,rngWs];refine ⟨?_,h1⟩
  cases he:bG d z j with
  | none=>exact h.1
  | some e=>
   have UG:=(hN.jV e (K2 he)).wide;simp only;split
   ·exact xU bu x _ _ h.1 (by omega)
   ·split
    ·exact EM UG h.1 (by omega)
    ·rw [sg,rngW];exact ⟨by unfold od;omega,by unfold od;omega,trivial⟩
end
end
theorem EN (lv:List Wd) (f:Nat->Nat->Bool) (ND:List Nd) (rt:Nat) (x:Val) (T:List UInt8) (hT:T.length<=140737488355328) (hb:EvP prog 160 [.agg (wL lv f ND (rt:Nat)),.agg (dVal x)] (.v (.string (ba T))))
  (o:Nat) (w:Wd) (hw:lv[o]? = some w) (ub:w.s.size<=1099511627776) (n:Int) (hn:0<=n) (Pk:n<=9223372036854775807) :
  EvP prog 82 [.agg (wL lv f ND (rt:Nat)),.v (.int .i64 (o:Nat)),.v (.int .i64 n),.agg (dVal x)] (.v (.string (ba (Hv n w.s T)))):=by
 have hp:=vv n (by omega) Pk;have iP:=pS (z:=n) (by omega) Pk;have hL:Hv n w.s T=fQ n ++ [32] ++ tx w.s ++ [58,32] ++ T:=rfl;have EV:pQ n=ba (fQ n):=rfl;rw [EV] at hp;generalize Hv n w.s T=L at *;generalize fQ n=P at *;obtain ⟨xk,xn,xs,xl⟩:=x;obtain ⟨ws,wa⟩:=w;have ub:ws.size<=1099511627776:=ub;refine eG 24 [.tmp 8] func82 rfl ntmps82 rfl fun _ _ _ _=>?_;refine dI ?_;refine cD pL hp ?_;refine ⟨by (simp only [bI,fY,List.length_cons,List.length_nil];omega),?_⟩;refine iX (aK hw) ?_;refine ⟨by (simp only [bI,fY,List.length_cons,List.length_nil];omega),?_⟩;refine ⟨by (simp only [bI,fY,List.length_cons,List.length_nil];omega),?_⟩;refine cD Xa hb ?_;refine ⟨by (simp only [bI,fY,List.length_cons,List.length_nil];omega),?_⟩;subst hL;refine (congrArg (fun s=>DV.v (.string s)) (mU ?_):_=_);simp [lM,vw,fh]
section
variable (F:Val->Bool) (T:Val->List UInt8) (s:ByteArray)
def linesL:Int->List Val->List (List UInt8)
 | _,[]=>[]
 | k,v :: r=>if F v=true then Hv k s (T v) :: linesL (k + 1) r else linesL k r
theorem ki:∀ (k:Int) (l:List Val) (v:Val),linesL F T s k (l ++ [v])=linesL F T s k l ++ (if F v=true then [Hv (k + (linesL F T s k l).length) s (T v)] else [])
 | k,[],v=>by
  simp only [List.nil_append,linesL,List.length_nil];split
  ·simp
  ·rfl
 | k,u :: r,v=>by
  simp only [List.cons_append,linesL];by_cases h:F u=true
  ·rw [aj h,aj h,ki (k + 1) r v,List.cons_append,List.length_cons];rw [show k + 1 + ((linesL F T s (k + 1) r).length:Int)=k + (((linesL F T s (k + 1) r).length + 1:Nat):Int) by omega]
  ·rw [ai h,ai h,ki k r v]
theorem jQ:∀ (k:Int) (l:List Val),(linesL F T s k l).length<=l.length
 | _,[]=>aJ _
 | k,v :: r=>by
  have h1:=jQ (k + 1) r;have h2:=jQ k r;rw [linesL];split<;>simp only [List.length_cons]<;>omega
theorem tz (k:Int) {l:List Val} {e:Nat} {v:Val} (h:l[e]? = some v):linesL F T s k (l.take (e + 1))=linesL F T s k (l.take e) ++ (if F v=true then [Hv (k + (linesL F T s k (l.take e)).length) s (T v)] else []):=by
 rw [List.take_add_one,h];exact ki F T s k _ v
theorem Hw (k:Int) (l:List Val):∀ m,∃ r,linesL F T s k l=linesL F T s k (l.take m) ++ r:=by
 intro m
 have h:∀ (r p:List Val),∃ q,linesL F T s k (p ++ r)=linesL F T s k p ++ q:=by
  intro r
  induction r with
  | nil=>exact fun p=>⟨[],by simp⟩
  | cons v r ih=>
   intro p;obtain ⟨q,hq⟩:=ih (p ++ [v]);rw [List.append_assoc] at hq;exact ⟨_,by rw [show v :: r=[v] ++ r from rfl,hq,ki,List.append_assoc]⟩
 obtain ⟨q,hq⟩:=h (l.drop m) (l.take m);rw [List.take_append_drop] at hq;exact ⟨q,hq⟩
end
abbrev Vo (W:List DV) (o first:Int) (l:List Val) (P:List (List UInt8)) (q e:Nat):St:=
 ⟨[ap 1 o,ap 2 first,aU 3 4 (dVals l),aw 4 0,(9,⟨[],.sl 1 (cO P) (some 0)⟩),ap 10 e],[W],[⟨q,9,1,none⟩]⟩
theorem BW (lv:List Wd) (f:Nat->Nat->Bool) (ND:List Nd) (rt:Nat) (o first:Int) (J3:0<=first) (yE:first<=2147483647) (l:List Val) (hl:l.length<=100000) (F:Val->Bool) (E:Val->Val) (T:Val->List UInt8) (s:ByteArray)
  (hF:∀ v∈l,EvP prog 81 [.agg (wL lv f ND (rt:Nat)),.v (.int .i64 (rt:Nat)),.agg (dVal v)] (.v (.bool (F v))))
  (hS:∀ v∈l,F v=true->EvP prog 83 [.agg (wL lv f ND (rt:Nat)),.v (.int .i64 o),.agg (dVal v)] (.agg (dVal (E v))))
  (hL:∀ v∈l,F v=true->∀ n:Int,0<=n->n<=9223372036854775807->EvP prog 82 [.agg (wL lv f ND (rt:Nat)),.v (.int .i64 o),.v (.int .i64 n),.agg (dVal (E v))] (.v (.string (ba (Hv n s (T v)))))) :
  EvP prog 26 [.agg (wL lv f ND (rt:Nat)),.v (.int .i64 o),.v (.int .i64 first),.sl 4 (dVals l) none] (.sl 1 (cO (linesL F T s first l)) none):=by
 have dc:=aX l;have al:=fun (e:Nat) v=>@tz F T s first l e v
 have uj:=fun e=>Nat.le_trans (jQ F T s first (l.take e)) (by rw [dE];omega:(l.take e).length<=e);have u4:linesL F T s first (l.take 0)=[]:=rfl
 have ZX:linesL F T s first (l.take l.length)=linesL F T s first l:=by rw [List.take_length]
 generalize linesL F T s first l=LL at *
 generalize hQ:(fun e=>linesL F T s first (l.take e))=Q;have hQ:∀ e,linesL F T s first (l.take e)=Q e:=fun e=>by rw [<- hQ]
 simp only [hQ] at *;refine eG 43 [.tmp 8] func26 rfl ntmps26 rfl fun _ _ _ _=>?_;refine aQ (fun j st=>∃ e q:Nat,st=Vo (wL lv f ND (rt:Nat)) o first l (Q e) q e/\q=(Q e).length/\e<=l.length/\j=l.length - e) l.length (Vo (wL lv f ND (rt:Nat)) o first l [] 0 0) (de 1 ⟨0,9,1,none⟩ rfl rfl rfl tH rfl rfl jT) ⟨0,0,by rw [u4],by rw [u4];rfl,by omega,by omega⟩ ?_;rintro j st ⟨e,q,rfl,hq,he,rfl⟩;refine br ?_ ?_<;>intro qd
 ·have jx:e < l.length:=sV dc qd;obtain ⟨v,hv⟩:=gX jx;have hm:=mG hv;have hF1:=hF v hm;have hS1:=hS v hm;have E4:=hL v hm;have di:=al e v hv;have fW:=uj e;generalize F v=b at hF1 hS1 E4 di;generalize E v=x at hS1 E4;generalize T v=tv at E4 di;obtain ⟨vk,vn,vs,vl⟩:=v;obtain ⟨xk,xn,xs,xl⟩:=x;refine dI ?_;refine iX (dVals_get hv) ?_;refine cD WO hF1 ?_
  cases b with
  | false=>
   rw [ai (by simp),List.append_nil] at di;exact rE ⟨_,by omega,e + 1,q,rfl,by rw [di];exact hq,by omega,rfl⟩ (wkB 1 (wA2 (nxt jx (by omega)) (congrArg cO di.symm)) (wB2 (nxt jx (by omega)) (congrArg cO di.symm)))
  | true=>
   rw [aj rfl] at di;have E4:=E4 rfl (first + (Q e).length) (by omega) (by omega);have hS1:=hS1 rfl;have hdQ:=ez (Q e);have hz:IntKind.i64.wrap (first + (cO (Q e)).length)=first + (Q e).length:=by rw [hdQ];exact wrap64 (by omega) (by omega)
   rw [<- hz] at E4
   have Nx:cO (Q e) ++ [[DV.v (.string (ba (Hv (first + (Q e).length) s tv)))]]=cO (Q (e + 1)):=by
    rw [di];simp [cO]
   rw [hz] at E4;generalize Hv (first + (Q e).length) s tv=LT at *;rw [<- hz] at E4;subst hq;refine dI ?_;refine iX (dVals_get hv) ?_;refine cD en83 hS1 ?_;refine cD en82 E4 ?_;refine ⟨hdQ,⟨by rw [hdQ];simp [maxLen];omega,by rw [hdQ];simp;omega⟩,?_⟩;exact ⟨Vo (wL lv f ND (rt:Nat)) o first l (Q (e + 1)) ((Q e).length + 1) (e + 1),(wkB 1 (wA2 (nxt jx (by omega)) Nx) (wB2 (nxt jx (by omega)) Nx)),l.length - (e + 1),by omega,e + 1,_,rfl,by rw [di];simp,by omega,rfl⟩
 ·have aM:e=l.length:=by
   have h2:=qd;simp [dc] at h2;omega
  subst aM;rw [ZX];exact ⟨_,ax,rfl⟩
abbrev Pa (S:Sch) (f:Nat->Nat->Bool) (ND:List Nd) (z:Int) (a0 a1 a2:Int) (W:List (List UInt8)) (i:Nat)   : List (List DV):=[eu S,[.v (.int .i64 a0),.v (.int .i64 a1),.v (.int .i64 a2)],[.v (.int .i64 0),.v (.int .i64 0)],wL S.ae f ND z,[.sl 1 (cO W) none],[.v (.int .i64 i)],[.v (.bool true)]]
theorem EO (S:Sch) (f:Nat->Nat->Bool) (ND:List Nd) (z:Int) (a0 a1 a2:Int) (W:List (List UInt8)) (i:Nat) (t:List UInt8) (ht:W[i]? = some t) (h1:0<=a1) (h2:a1<=2147483647) (hW:W.length<=100000) :
  Ev prog 29 [.v (.int .i64 (a1 + i)),.v (.string (ba t)),.loc 6 0,.loc 5 0,.loc 4 0,.loc 1 0] (Pa S f ND z a0 a1 a2 W i) []
   (fun r os _=>r = .v (.bool (!decide ((i + 1:Nat)=a2)))/\os=Pa S f ND z a0 a1 a2 W (i + 1)):=by
 have al:=(gS ht).1;have dc:=ez W;have hg:(cO W)[i]? = some [DV.v (.string (ba t))]:=by simp [cO,ht]
 have hi1:DV.v (.int .i64 (IntKind.i64.wrap ((i:Int) + 1))) = .v (.int .i64 ((i + 1:Nat):Int)):=congrArg (fun z=>DV.v (.int .i64 z)) (nxt al (by omega));have hz:IntKind.i64.wrap (a1 + i)=a1 + i:=wrap64 (by omega) (by omega);have gT:(0:Int)<=1/\(1:Int) < 3:=by omega
 obtain ⟨ae,order,types,⟨rh,rp⟩⟩:=S;refine eG 38 [.tmp 8] func29 rfl ntmps29 rfl fun _ _ _ _=>?_;refine br (fun _=>?_) (fun g=>?_)
 rotate_left
 ·exfalso;simp [pickB,dc] at g;omega
 refine ⟨⟨by decide,by decide⟩,?_⟩;refine br (fun _=>?_) (fun g=>?_)
 rotate_left
 ·exfalso;simp [pickB,hz] at g
 refine ⟨_,⟨by omega,hg⟩,?_⟩;refine ⟨⟨by decide,by decide⟩,?_⟩;have hX:DV.v (.bool (decide (ba t=ba t))) = .v (.bool true):=by simp
 have hY:DV.v (.bool (!decide (IntKind.i64.wrap ((i:Int) + 1)=a2))) = .v (.bool (!decide (((i + 1:Nat):Int)=a2))):=by rw [nxt al (by omega)]
 refine ⟨_,_,(by repeat' (first | exact rfl | exact trivial | exact Or.inr (Or.inl ⟨_,rfl⟩) | exact Or.inr ⟨_,rfl⟩ | exact Or.inl ⟨rfl,rfl⟩ | exact Or.inl rfl | refine Or.inr ⟨_,_,rfl,Nat.zero_le _,rfl,?_⟩ | refine ⟨_,_,rfl,?_,?_⟩ | refine ⟨_,rfl,?_⟩ | exact hX | exact hi1 | exact hY | exact ⟨nL rfl,rfl⟩ | refine Or.inr (Or.inr (Or.inr ⟨_,_,rfl,?_⟩)) | exact Or.inl rfl | refine Or.inr ?_)),(by repeat' (first | exact rfl | exact trivial | exact Or.inr (Or.inl ⟨_,rfl⟩) | exact Or.inr ⟨_,rfl⟩ | exact Or.inl ⟨rfl,rfl⟩ | exact Or.inl rfl | refine Or.inr ⟨_,_,rfl,Nat.zero_le _,rfl,?_⟩ | refine ⟨_,_,rfl,?_,?_⟩ | refine ⟨_,rfl,?_⟩ | exact hX | exact hi1 | exact hY | exact ⟨nL rfl,rfl⟩ | refine Or.inr (Or.inr (Or.inr ⟨_,_,rfl,?_⟩)) | exact Or.inl rfl | refine Or.inr ?_)),rfl,rfl⟩
def K3 (a2:Int) (n:Nat) (i:Nat):Prop:=(i:Int)=if 0 < a2/\a2 < n then a2 else n
abbrev eaSt (S:Sch) (f:Nat->Nat->Bool) (ND:List Nd) (z:Int) (a0 a1 a2:Int) (W:List (List UInt8)) (PC:List DV) (o:Int) (l:List Val) (i e:Nat):St:=
 ⟨[(0,⟨[],.fn 29 [] [.loc 6 0,.loc 5 0,.loc 4 0,.loc 1 0]⟩),oJ 3 [.pt PC 0],oJ 4 [.v (.int .i64 o)],ap 6 (a1 + i),aU 20 4 (dVals l),ap 21 ((dVals l).length),ap 22 e],Pa S f ND z a0 a1 a2 W i,[]⟩
set_option maxHeartbeats 1000000 in
theorem EP (S:Sch) (f:Nat->Nat->Bool) (ND:List Nd) (z:Int) (a0 a1 a2:Int) (h1:0<=a1) (h2:a1<=2147483647) (PC:List DV) (o:Int) (l:List Val) (hl:l.length<=100000) (F:Val->Bool) (E:Val->Val) (T:Val->List UInt8) (s:ByteArray)
  (hE:∀ v∈l,EvP prog 18 [.pt PC 0,.v (.int .i64 o),.agg (dVal v)] (Jp (if F v=true then some (E v) else none)))
  (hL:∀ v∈l,F v=true->∀ n:Int,0<=n->n<=9223372036854775807->EvP prog 80 [.pt PC 0,.v (.int .i64 o),.v (.int .i64 n),.agg (dVal (E v))] (.tup [.v (.string (ba (Hv n s (T v)))),.v (.bool true)])) :
  Ev prog 84 [.fn 29 [] [.loc 6 0,.loc 5 0,.loc 4 0,.loc 1 0],.pt [.v (.int .i64 a1)] 0,.pt [.sl 4 (dVals l) none] 0,.pt [.pt PC 0] 0,.pt [.v (.int .i64 o)] 0] (Pa S f ND z a0 a1 a2 (linesL F T s a1 l) 0) []
   (fun r os _=>r = .tup []/\∃ i,os=Pa S f ND z a0 a1 a2 (linesL F T s a1 l) i/\K3 a2 (linesL F T s a1 l).length i):=by
 have dc:=aX l;have al:=fun (e:Nat) v=>@tz F T s a1 l e v;have aak:=Hw F T s a1 l;have hlen:=Nat.le_trans (jQ F T s a1 l) hl;have hcon:=fun i t ht=>EO S f ND z a0 a1 a2 (linesL F T s a1 l) i t ht h1 h2 hlen;have u4:linesL F T s a1 (l.take 0)=[]:=rfl;have ZX:linesL F T s a1 (l.take l.length)=linesL F T s a1 l:=by rw [List.take_length]
 generalize linesL F T s a1 l=W at *;generalize hQ:(fun e=>linesL F T s a1 (l.take e))=Q;have hQ:∀ e,linesL F T s a1 (l.take e)=Q e:=fun e=>by rw [<- hQ]
 simp only [hQ] at *;obtain ⟨ae,order,types,⟨rh,rp⟩⟩:=S;refine eG 51 [] func84 rfl ntmps84 rfl fun _ _ _ _=>?_;refine br (fun g=>?_) (fun _=>?_)
 ·exfalso;simp [ak] at g;omega
 refine lI (fun j st=>∃ e i:Nat,st=eaSt ⟨ae,order,types,.mk rh rp⟩ f ND z a0 a1 a2 W PC o l i e/\i=(Q e).length/\(0 < a2->i < a2)/\e<=l.length/\j=l.length - e) ⟨0,0,rfl,by rw [u4];rfl,fun h=>by omega,by omega,rfl⟩ (wkB 7 (by repeat' (first | exact rfl | exact we_rfl rfl | exact we_int (by omega) | refine ⟨_,_,rfl,?_,?_⟩)) (by repeat' (first | exact trivial | exact we_rfl rfl | exact we_int (by omega) | refine ⟨⟨_,rfl,?_⟩,?_⟩))) ?_;rintro j st ⟨e,i,rfl,hi,HO,he,rfl⟩;refine br ?_ ?_<;>intro qd
 ·have jx:e < l.length:=sV dc qd;obtain ⟨v,hv⟩:=gX jx;have hm:=mG hv;have Lg:=hE v hm;have E4:=hL v hm;have di:=al e v hv;obtain ⟨rr,hrr⟩:=aak (e + 1)
  have hqw:(Q e).length<=W.length:=by
   obtain ⟨r2,hr2⟩:=aak e;rw [hr2,List.length_append];omega
  generalize F v=b at Lg E4 di;generalize E v=x at Lg E4;generalize T v=tv at E4 di;obtain ⟨vk,vn,vs,vl⟩:=v;obtain ⟨xk,xn,xs,xl⟩:=x;refine iX (dVals_get hv) ?_
  cases b with
  | false=>
   rw [ai (by simp),List.append_nil] at di;rw [ai (by simp)] at Lg;refine cP TG Lg ?_;exact rE ⟨_,by omega,e + 1,i,rfl,by rw [di];exact hi,HO,by omega,rfl⟩ (wkB 7 (yL (nxt jx (by omega))) (wB1 (nxt jx (by omega))))
  | true=>
   rw [aj rfl] at di Lg;have E4:=E4 rfl (a1 + i) (by omega) (by omega);rw [<- hi] at di;generalize Hv (a1 + i) s tv=LT at *
   have hWi:W[i]? = some LT:=by
    rw [hrr,di,List.append_assoc,List.getElem?_append_right (by omega),hi,Nat.sub_self];rfl
   have hc:=hcon i LT hWi;have hiw:=(gS hWi).1;refine cP TG Lg ?_;refine cP WN E4 ?_;refine fK 7 0 en29 rfl rfl rfl iq iq hc (fun r gF bP hΦ g1 g2=>?_);obtain ⟨rfl,rfl⟩:=hΦ;obtain rfl:bP=[]:=List.eq_nil_of_length_eq_zero g2;refine br ?_ ?_<;>intro g
   ·have g:((i + 1:Nat):Int)=a2:=sU g;refine ⟨_,_,iq,iq,rfl,i + 1,rfl,?_⟩;unfold K3;split<;>omega
   ·have g:¬ ((i + 1:Nat):Int)=a2:=sU g;have Qc:IntKind.i64.wrap (a1 + i + 1)=a1 + ((i + 1:Nat):Int):=by rw [wrap64 (by omega) (by omega)];omega
    exact rE ⟨_,by omega,e + 1,i + 1,rfl,by rw [di,List.length_append,<- hi];rfl,fun h=>by have:=HO h;omega,by omega,rfl⟩ (wkB 7 (wA2 (nxt jx (by omega)) Qc) (wB2 (nxt jx (by omega)) Qc))
 ·have aM:e=l.length:=by
   have h2:=qd;simp [dc] at h2;omega
  subst aM;rw [ZX] at hi;refine ⟨_,_,iq,iq,rfl,i,rfl,?_⟩;unfold K3;split
  ·rename_i h;have:=HO h.1;omega
  ·omega
end Go.Proofs.YtgjagnmeonoehaaGreat
set_option maxRecDepth 100000
namespace Go.Proofs.YtgjagnmeonoehaaGreat
open Go Go.RowKit Dv Tryz
theorem Hx (o:Int) (v:Val):EvP Tryz.prog 18 [.v (.pointer none),.v (.int .i64 o),.agg (dVal v)] (Jp none):=by
 have AW:=K0 o;obtain ⟨k,n,s,ks⟩:=v;refine Wl (P:=Tryz.prog) tt om 5000 35 [.cell 6 34,.tmp 7] Tryz.func18 rfl Tryz.ntmps18 rfl (nL rfl) (fun E9 w9 aC mJ=>?_);refine call_p L5 (AW) ax rfl ?_;refine j3 (fun _=>false) mo (by decide +kernel) ?_;exact ⟨_,ax,rfl⟩
abbrev q7 (S:Sch) (f:Nat->Nat->Bool) (ND:List Nd) (z:Int) (a0 a1 a2:Int) (W:List (List UInt8)) (pv yf:DV) (o:Int) (l:List Val) (e:Nat):St:=
 ⟨[(0,⟨[],yf⟩),(3,⟨[],.pt [pv] 0⟩),(4,⟨[],.pt [.v (.int .i64 o)] 0⟩),(20,⟨[],.sl 4 (dVals l) none⟩),(21,⟨[],.v (.int .i64 (dVals l).length)⟩),(22,⟨[],.v (.int .i64 e)⟩)],Pa S f ND z a0 a1 a2 W 0,[]⟩
theorem tA (S:Sch) (f:Nat->Nat->Bool) (ND:List Nd) (z:Int) (a0 a1 a2:Int) (W:List (List UInt8)) (pv yf:DV) (hp:pv = .v (.pointer none)∨∃ PC,pv = .pt PC 0) (hy:yf = .fn 28 [] [.loc 6 0]∨yf = .fn 29 [] [.loc 6 0,.loc 5 0,.loc 4 0,.loc 1 0]) (o:Int) (l:List Val) (hl:l.length<=100000)
  (h:(0<=a1/\a1<=2147483647)->∀ v∈l,EvP Tryz.prog 18 [pv,.v (.int .i64 o),.agg (dVal v)] (Jp none)) :
  Ev Tryz.prog 84 [yf,.pt [.v (.int .i64 a1)] 0,.pt [.sl 4 (dVals l) none] 0,.pt [pv] 0,.pt [.v (.int .i64 o)] 0] (Pa S f ND z a0 a1 a2 W 0) [] (fun r os _=>r = .tup []/\os=Pa S f ND z a0 a1 a2 W 0):=by
 have dc:=aX l;obtain ⟨ae,order,types,⟨rh,rp⟩⟩:=S;rcases hp with rfl | ⟨PC,rfl⟩<;>rcases hy with rfl | rfl
 all_goals
  refine Wl (P:=Tryz.prog) tt om 5000 51 [] Tryz.func84 rfl Tryz.ntmps84 rfl (nL rfl) (fun E9 w9 aC mJ=>?_);refine br (fun g=>?_) (fun g=>?_)
  ·exact ⟨_,_,aL,aL,rfl,rfl⟩
  have h:=h (by simp [ak] at g;omega);refine aQ (fun j st=>∃ e:Nat,st=q7 ⟨ae,order,types,.mk rh rp⟩ f ND z a0 a1 a2 W _ _ o l e/\e<=l.length/\j=l.length - e) l.length (q7 ⟨ae,order,types,.mk rh rp⟩ f ND z a0 a1 a2 W _ _ o l 0) (weak_b 7 rfl wRA rfl rfl rfl wRB) ⟨0,rfl,by omega,by omega⟩ ?_;rintro j st ⟨e,rfl,he,rfl⟩;refine br (fun qd=>?_) (fun qd=>?_)
  ·have jx:e < l.length:=by simpa [dc] using qd
   obtain ⟨v,hv⟩:∃ v,l[e]? = some v:=⟨_,gE jx⟩;have Lg:=h v (mG hv);obtain ⟨vk,vn,vs,vl⟩:=v;refine ⟨_,⟨by omega,dVals_get hv⟩,?_⟩;refine call_p TG (Lg) ax rfl ?_;exact ⟨q7 ⟨ae,order,types,.mk rh rp⟩ f ND z a0 a1 a2 W _ _ o l (e + 1),(weak_b 7 rfl (QI jx) rfl rfl rfl (SZ jx)),l.length - (e + 1),by omega,e + 1,rfl,by omega,rfl⟩
  ·exact ⟨_,_,aL,aL,rfl,rfl⟩
theorem EQ (S:Sch) (hS:S.wt<=1099511627776):Ev Tryz.prog 23 [.agg (eu S)] [] [] (fun r _ _=>∃ b:Bool,r = .v (.bool b)/\(b=true->xK S)):=by
 have ga:=A2 S hS;have hf:=ED S hS;obtain ⟨ae,order,types,⟨rh,rp⟩⟩:=S;refine Wl (P:=Tryz.prog) tt om 5000 10 [.tmp 2] Tryz.func23 rfl Tryz.ntmps23 rfl (nL rfl) (fun E9 w9 aC mJ=>?_);refine bp en43 rfl ga ax (fun r hr=>?_);obtain ⟨g,rfl⟩:=hr
 cases g with
 | true=>exact ⟨false,rfl,fun h=>by cases h⟩
 | false=>
  refine bp en44 rfl hf ax (fun r hr=>?_);obtain ⟨b,rfl,hb⟩:=hr;exact ⟨b,rfl,fun h=>hb h⟩
theorem ER (v:Val) (hv:v.wt<=1099511627776):EvP Tryz.prog 25 [.agg (dVal v)] (.v (.int .i64 (wN v))):=by
 have h1:=sO v.wt v (Nat.le_refl _) hv;generalize wN v=c at h1 ⊢;generalize yg v=d at h1;obtain ⟨vk,vn,vs,vl⟩:=v;refine Wl (P:=Tryz.prog) tt om 5000 11 [.tmp 2] Tryz.func25 rfl Tryz.ntmps25 rfl (nL rfl) (fun E9 w9 aC mJ=>?_);refine call_p WH (h1) ax rfl ?_;exact (rfl:_=_)
namespace Dv
theorem Hy {P:Program} {t:TypeId} {p1 p2:Array TypeId} {v:Bool} (hu:P.underlying t=some (.func p1 p2 v)) (d:Nat) (f:Fn) (l r:Array Value) (w:World):(Op.equalIn (d + 1) t (.func f l r) .nilFunc).run P w = .ok false w:=by
 simp [Op.equalIn,run_underlying hu]
section
variable {X:Ctx} {st:St} {k:List It}
theorem Jr {o:Oper} {t d:Nat} {x:Operand} {f:Nat} {a b:List DV} {p1 p2:Array TypeId} {v:Bool} (kE:∃ t',o.op = .binOp .eql t x (.const .nilFunc) t') (gU:o.dst=some d) (hx:rv st [] x=some (.fn f a b)) (hu:X.P.underlying t=some (.func p1 p2 v)) (hd:e9 X.nt st.sl (some d)=true)
  (hk:go X 4000 k ⟨(d,⟨[],.v (.bool false)⟩) :: st.sl,st.bx,st.tk⟩):HE X o k st:=by
 intro E ac w h;obtain ⟨t',kE⟩:=kE;have e1:=aP h.rl hx;unfold Rv at e1;obtain ⟨l,r,e1,_,_⟩:=e1;have aG:(Op.equal t (.func (.func f) l.toArray r.toArray) .nilFunc).run X.P w = .ok false w:=Hy hu 9999 _ _ _ w
 have bU:(execOp ac.eval o).run X.P w = .ok (.value (.bool false)) w:=by
  have hc:ac.eval (.const .nilFunc) = .nilFunc:=rfl;simp [execOp,kE,e1,hc,eqGuard,binOp,aG]
 refine gn bU ?_;rw [gU];exact go_sound 4000 _ _ hk E _ w (aV h hd (.v (.bool false)) _ (by unfold Rv;exact ⟨rfl,rfl⟩))
end
end Dv
theorem Ab (pv:DV) (hp:pv = .v (.pointer none)∨∃ PC,pv = .pt PC 0) (o n:Int) (l:List Val):EvP Tryz.prog 27 [pv,.v (.int .i64 o),.v (.int .i64 n),.sl 4 (dVals l) none] (.fn 84 [] [.pt [.v (.int .i64 n)] 0,.pt [.sl 4 (dVals l) none] 0,.pt [pv] 0,.pt [.v (.int .i64 o)] 0]):=by
 rcases hp with rfl | ⟨PC,rfl⟩
 all_goals
  refine Wl (P:=Tryz.prog) tt om 5000 10 [.tmp 8] Tryz.func27 rfl Tryz.ntmps27 rfl (nL rfl) (fun E9 w9 aC mJ=>?_);exact ⟨.fn 84 [] [.pt [.v (.int .i64 n)] 0,.pt [.sl 4 (dVals l) none] 0,.pt [_] 0,.pt [.v (.int .i64 o)] 0],⟨_,_,rfl,rfl,_,_,rfl,.inr ⟨_,_,rfl,Nat.zero_le _,rfl,ax⟩,_,_,rfl,.inr ⟨_,_,rfl,Nat.zero_le _,rfl,ax⟩,_,_,rfl,.inr ⟨_,_,rfl,Nat.zero_le _,rfl,ax⟩,_,_,rfl,.inr ⟨_,_,rfl,Nat.zero_le _,rfl,ax⟩,rfl⟩,rfl⟩
theorem K4:(match (ay eL)[(bz eL).toNat]? with
  | none=>false
  | some d=>decide (d.ag=7) && decide (qN (ay eL) d xR ((bz eL).toNat:Nat)=[120,61,60,42,42,62]))=true:=by decide +kernel
theorem fg:EvP Tryz.prog 24 [] (.v (.bool true)):=by
 have CP:eL.wt<=1099511627776:=by decide +kernel
 have hb:=(we eL CP).mono (Ψ:=fun r _ _=>GK eL r) fun _ _ _ h=>zJ CP h;refine Wl (P:=Tryz.prog) tt om 5000 43 [.tmp 0] Tryz.func24 rfl Tryz.ntmps24 rfl (nL rfl) (fun E9 w9 aC mJ=>?_);refine bp WD rfl hb ax (fun r hr=>?_);rcases hr with ⟨hr,_⟩ | ⟨_,PC,hP,rfl⟩
 ·exact (hr K1).elim
 obtain ⟨LC,kS,hR⟩:=hP.ZT;have hrng:∀ n∈ay eL,BN n:=fun n hn=>xF (S:=eL) (by simp [eL,PT,rngT,rngP,exH,od]) hn;have bM:∀ n∈ay eL,n.aq.length<=1099511627776:=fun n hn=>(nW hn CP).2;have mA:rngW xR:=by simp [xR,rngW,rngWs,od]
 have hl:=qM hP kS hR hrng bM (bz eL).toNat ss.1 ss.2 0 xR (by decide +kernel) mA;rw [EL] at hl;have hex:=K4
 cases hd:(ay eL)[(bz eL).toNat]? with
 | none=>rw [hd] at hex;cases hex
 | some d=>
  rw [hd] at hex;simp only [Bool.and_eq_true,decide_eq_true_eq] at hex;have Vd:=tu hP bM (bz eL).toNat ss.1 d hd xR (by decide +kernel) mA 0 true hl (fun _=>⟨nC hP.ok EL,hex.1.symm⟩);rw [if_pos rfl,hex.2] at Vd;have hfm:=oD kS hR 0 xR _ (by decide) Vd ⟨#[108,111,119]⟩ 0 rfl rfl (by decide) 7 (by decide) (by decide);rw [show Hv 7 ⟨#[108,111,119]⟩ [120,61,60,42,42,62]=[55,32,108,111,119,58,32,120,61,60,42,42,62] by decide +kernel] at hfm;refine call_p WN (hfm) ax rfl ?_;exact (rfl:_=_)
end Go.Proofs.YtgjagnmeonoehaaGreat
set_option maxRecDepth 100000
namespace Go.Proofs.YtgjagnmeonoehaaGreat
open Go Go.RowKit Dv Go.Proofs.Tryz
theorem K5 {S:Sch} (hF:sM S):∀ s∈au S.ae,s.size<=32:=by
 have h:=(lZ hF.lat).2.1
 have h2:=(oY fun j x hx=>by
  have h3:(enumL S.ae 0 S.ae).1=0:=h;have:=r9 (all:=S.ae) (i:=0) h3 j x hx
  rwa [Nat.zero_add] at this).2
 intro s hs;obtain ⟨w,hw,rfl⟩:=List.mem_map.1 hs;exact eA (h2 w hw)
end Go.Proofs.YtgjagnmeonoehaaGreat
