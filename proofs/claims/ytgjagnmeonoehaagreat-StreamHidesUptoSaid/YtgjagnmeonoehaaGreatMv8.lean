/- Part 8 of the proof: Lines of a log: the program's Body, Format; the document's; Lines of a log: the program's Format; the document's Body, Line; A change is applied: the closure that lengthens or shortens a list; A change is applied: the program's apply, Apply; The lines of changes: the program's Text; Logs: the program's Format; Logs: the program's Format, Count; Values as they are written: how big they are; what is read of them; What is read of steps, and of steps with a value; How a list that came in is read; How values in a list, and arrays of three ints, that came in are read; Logs: what the laws ask of their arguments; arrays of counts compared; Lines of a log: the document's Line, Lines; Lines of a log: the program's Each, and who takes the lines; Lines of a log: no plan, no lines; the chapter's example; what the law asks; Lines of a log: a function compared with nil; Each; the chapter's example; The lines of an audit: what is known of rows; the document's Line; The document's Line; the program's Text of an audit; Lines of a log: the law of Each; Logs: what the program's Format and Count say of any values; The law of Compact: the call returns true; Logs hide what is not seen: the law; Logs hide what is not seen: the law. No condition. -/
import Derived.ChangeKeysEq
import Derived.Test.YtgjagnmeonoehaaGreatMv3
import Derived.Test.YtgjagnmeonoehaaGreatMv5
import Derived.Test.YtgjagnmeonoehaaGreatMv6
import Derived.Test.YtgjagnmeonoehaaGreatMv7
set_option linter.all false
set_option maxRecDepth 100000
namespace Go.Proofs.YtgjagnmeonoehaaGreat
open Go Go.RowKit Dv Go.Proofs.Tryz
def pcsL (ND:List Nd) (d:Nd) (x:Val):List (List UInt8):=(List.range x.ks.length).map fun j=>match d.aw[j]?,x.ks[j]? with
 | some e,some k=>tx e.name ++ [61] ++ textV ND k e.to
 | _,_=>[]
def AQ (ND:List Nd) (d:Nd) (x:Val) (i:Int):List UInt8:=if d.ag=7 then joinT [] [32] (pcsL ND d x) else textV ND x i
theorem Gl (ND:List Nd) (d:Nd) (x:Val):(pcsL ND d x).length=x.ks.length:=by simp [pcsL]
theorem Gm {ND:List Nd} {d:Nd} {x:Val} {j:Nat} {e:Ed} {k:Val} (h1:d.aw[j]? = some e) (h2:x.ks[j]? = some k):(pcsL ND d x)[j]? = some (tx e.name ++ [61] ++ textV ND k e.to):=by
 obtain ⟨h,rfl⟩:=List.getElem?_eq_some_iff.1 h2;simp [pcsL,h,h1]
theorem CP {ND:List Nd} {d:Nd} {x:Val} (h7:d.ag=7) (hl:x.ks.length=d.aw.length):∀ m,m<=x.ks.length->(joinT [] [32] ((pcsL ND d x).take m)).length<=(textVs ND (x.ks.take m) d x.n 0).length
 | 0,_=>by simp [joinT]
 | m + 1,h=>by
  have ih:=CP (ND:=ND) (x:=x) h7 hl m (by omega);obtain ⟨k,hk⟩:∃ k,x.ks[m]? = some k:=⟨_,gE (by omega)⟩;obtain ⟨e,he⟩:∃ e,d.aw[m]? = some e:=⟨_,gE (by omega)⟩;rw [G9 (Gm he hk),tU hk (by unfold bH;rw [ap h7];exact he),ap h7];simp only [List.length_append,List.length_cons,List.length_nil];split<;>simp<;>omega
abbrev bdSt (PC:List DV) (x:Val) (d:Nd) (L:List (List UInt8)) (q e:Nat):St:=
 ⟨[mQ 0 PC,aE 5 0,aE 10 1,(12,⟨[],.sl 1 (fH L) (some 0)⟩),bh 39 10 (fN d.aw),ay 40 ((fN d.aw).length),ay 41 e],[aZ x,kO d],[⟨q,9,1,none⟩]⟩
set_option maxHeartbeats 1000000 in
theorem Gn {S:Sch} {ND:List Nd} {PC:List DV} (hP:eT S ND PC) (bZ:∀ n∈ND,n.aw.length<=1099511627776) (rt:Nat) (oS:cr S=rt) (d:Nd) (hd:ND[rt]? = some d) (x:Val) (hx:x.wt<=1099511627776) (mU:rngW x) (o:Int) (B:Bool)
  (hc:EvP prog 226 [.pt PC 0,.v (.int .i64 o),.agg (aZ x)] (.tup [.v (.string (ba (Tu ND x (rt:Nat) B))),.v (.bool B)])) (hB:B=true->ie ND x (rt:Nat)=true/\x.k=d.ag) :
  EvP prog 155 [.pt PC 0,.v (.int .i64 o),.agg (aZ x)] (.tup [.v (.string (ba (if B=true then AQ ND d x rt else []))),.v (.bool B)]):=by
 have cW:=hP.root;rw [oS] at cW;have dE:=hP.ah rt d hd
 have hdN:bV ND (rt:Int)=some d:=by
  unfold bV;rw [aj (by omega),kS,hd]
 have oJ:=cF d.aw;have gL:=bZ d (mG hd)
 cases B with
 | false=>
  have hc:EvP prog 226 [.pt PC 0,.v (.int .i64 o),.agg (aZ x)] (.tup [.v (.string (ba [])),.v (.bool false)]):=hc;obtain ⟨ag,at',lo,hi,most,af,es⟩:=d;obtain ⟨k,n,s,ks⟩:=x;refine eG 65 [.tmp 6,.tmp 7] func155 rfl ntmps155 rfl fun _ _ _ _=>?_;refine cP NT hc ?_;refine cP uu cW ?_;refine cP mR dE ?_;exact ⟨.tup [.v (.string _),.v (.bool _)],ax,rfl⟩
 | true=>
  obtain ⟨hw,hk⟩:=hB rfl;have hc:EvP prog 226 [.pt PC 0,.v (.int .i64 o),.agg (aZ x)] (.tup [.v (.string (ba (textV ND x (rt:Nat)))),.v (.bool true)]):=hc;have hT:AQ ND d x rt=if d.ag=7 then joinT [] [32] (pcsL ND d x) else textV ND x rt:=rfl
  rw [ap rfl];by_cases c7:d.ag=7
  ·rw [ap c7] at hT;have gl:=lE hP.ok x rt mU hw;obtain ⟨d',yJ,SV⟩:=kh hw;rw [hdN] at yJ;cases yJ
   obtain ⟨yX,Gz⟩:shellF d x=true/\gZ ND x.ks d x.n 0=true:=by
    rcases SV with h | h | h
    ·omega
    ·omega
    ·exact h.2.2
   have hlen:=(shell_67 yX).2.1 c7;have fF:=CP (ND:=ND) c7 hlen
   have htv:(textVs ND x.ks d x.n 0).length<=(textV ND x rt).length:=by
    obtain ⟨k,n,s,ks⟩:=x;rw [textV,hdN];simp only [List.length_append,Val.ks,Val.n];omega
   have gn:=Gl ND d x;have hpg:=fun j e k=>@Gm ND d x j e k;have UW:x.wt=64 + x.s.size + ch x.ks:=by obtain ⟨_,_,_,_⟩:=x;rfl
   have lG:=cG x.ks
   have hjt:(joinT [] [32] (pcsL ND d x)).length<=140737488355328:=by
    have:=fF x.ks.length (aQ _);rw [List.take_of_length_le (by omega),List.take_of_length_le (aQ _)] at this;omega
   have Cr:∀ (j:Nat) k,x.ks[j]? = some k->∃ e,d.aw[j]? = some e/\EvP prog 150 [.pt PC 0,.v (.int .i64 e.to),.agg (aZ k)] (.v (.string (ba (textV ND k e.to))))/\(textV ND k e.to).length<=50 * k.wt/\e.name.size<=32:=fun j k hk=>by
    obtain ⟨e,he,h2⟩:=lD Gz hk;rw [Nat.zero_add] at he;have hkw:=du (mG hk);have Kb:=di (my mU) (mG hk)
    have KW:d.aw[j]? = some e:=by
     unfold bH at he
     rwa [ap c7] at he
    have:=lE hP.ok k e.to Kb h2;exact ⟨e,KW,IZ hP k (by omega) Kb e.to h2,by omega,iP (((hP.ok d (mG hd)).many (.inl c7)).2.2.2 e (mG KW))⟩
   rw [hT];generalize pcsL ND d x=P at *;generalize textV ND x (rt:Nat)=TV at hc;clear SV Gz yX;obtain ⟨ag,at',lo,hi,most,af,es⟩:=d;obtain ⟨k,n,s,ks⟩:=x;simp only [Val.ks,Val.s] at *;have de:=bl ks;refine eG 65 [.tmp 6,.tmp 7] func155 rfl ntmps155 rfl fun _ _ _ _=>?_;refine cP NT hc ?_;refine cP uu cW ?_;refine cP mR dE ?_;refine br (fun g=>?_) (fun _=>?_)
   ·exfalso;simp [aq] at g;exact g c7
   refine lJ (fun e=>bdSt PC (.mk k n s ks) ⟨ag,at',lo,hi,most,af,es⟩ (P.take e) e e) ks.length (dx 2 ⟨0,9,1,none⟩ rfl rfl rfl pP rfl rfl kj) ?_;intro e he;refine br ?_ ?_<;>intro nD
   ·have au:e < ks.length:=by
     have h2:=nD;simp at h2;have h2:e < (fN es).length:=h2;omega
    obtain ⟨u,hu⟩:=gX au;obtain ⟨ed,x8,MS,hsz1,Lt⟩:=Cr e u hu;have dG:=hpg e ed u x8 hu;have huw:=du (mG hu);generalize textV ND u ed.to=T at *;obtain ⟨uk,un,us,ul⟩:=u;obtain ⟨en,eb,ea,et,q4,ew,eU,ic,rD,iV⟩:=ed;refine iX (bm x8) ?_;have ek:P[e]? = some (tx (en ++ ⟨#[61]⟩ ++ ba T)):=by rw [dG];simp [Ow,UG,qx]
    have ek:=Ha ek;have hPl:(fH (P.take e)).length=e:=by rw [k0,zLenT];omega
    have iD:en.size + 1<=9223372036854775807:=by have:en.size<=32:=Lt;omega
    refine dI ?_;refine ⟨iD,?_⟩;refine iX (cp hu) ?_;refine cD ZA MS ?_;refine ⟨by have h1:en.size<=32:=Lt;(simp only [j4,v7,List.length_cons,List.length_nil];omega),?_⟩;refine ⟨hPl,⟨by rw [hPl];simp [maxLen];omega,by rw [hPl];simp;omega⟩,?_⟩;exact rE ⟨_,by omega,e + 1,rfl,by omega,rfl⟩ (dj 2 (yy (aN au (by omega)) ek) (iT (aN au (by omega)) ek))
   ·have hge:e=ks.length:=by
     have h2:=nD;simp at h2;have h2:(fN es).length<=e:=h2;omega
    subst hge;rw [List.take_of_length_le (by omega)];refine cP ZR (Le P (ba [32]) (by omega) (by rw [qx];exact hjt)) ?_;rw [qx];exact ⟨.tup [.v (.string _),.v (.bool _)],ax,rfl⟩
  ·rw [aj c7] at hT;rw [hT];generalize textV ND x (rt:Nat)=TV at hc;obtain ⟨ag,at',lo,hi,most,af,es⟩:=d;obtain ⟨k,n,s,ks⟩:=x;refine eG 65 [.tmp 6,.tmp 7] func155 rfl ntmps155 rfl fun _ _ _ _=>?_;refine cP NT hc ?_;refine cP uu cW ?_;refine cP mR dE ?_;refine br (fun _=>?_) (fun g=>?_)
   ·exact ⟨.tup [.v (.string _),.v (.bool _)],ax,rfl⟩
   ·exfalso;simp [aq] at g;exact c7 g
def Mq (n:Int) (s:ByteArray) (b:List UInt8):List UInt8:=jE n ++ [32] ++ tx s ++ [58,32] ++ b
theorem y4 {S:Sch} {PC LC:List DV} (ej:EvP prog 72 [.pt PC 0] (.pt LC 0)) (hR:pA S.ae.length (aK S) (aA S.ae) LC) (o:Int) (x:Val) (T:List UInt8) (hT:T.length<=140737488355328)
  (hb:EvP prog 155 [.pt PC 0,.v (.int .i64 o),.agg (aZ x)] (.tup [.v (.string (ba T)),.v (.bool true)])) (s:ByteArray) (j:Nat) (hoj:o=j) (hs:(aA S.ae)[j]? = some s) (Yi:s.size<=1099511627776) (n:Int) (hn:0<=n) (XX:n<=9223372036854775807) :
  EvP prog 80 [.pt PC 0,.v (.int .i64 o),.v (.int .i64 n),.agg (aZ x)] (.tup [.v (.string (ba (Mq n s T))),.v (.bool true)]):=by
 have hp:=Eb n (by omega) XX;have gn:=vZ (z:=n) (by omega) XX;have Ci:=hR.name j s hs;rw [<- hoj] at Ci;have hL:Mq n s T=jE n ++ [32] ++ tx s ++ [58,32] ++ T:=rfl;have Jh:R7 n=ba (jE n):=rfl;rw [Jh] at hp;generalize Mq n s T=L at *;generalize jE n=P at *;obtain ⟨xk,xn,xs,xl⟩:=x;refine eG 36 [.tmp 8,.tmp 9] func80 rfl ntmps80 rfl fun _ _ _ _=>?_;refine cP ZB hb ?_;refine br (fun g=>?_) (fun _=>?_)
 ·exfalso;simp [aq] at g;omega
 refine cP JB hp ?_;refine ⟨by (simp only [j4,v7,List.length_cons,List.length_nil];omega),?_⟩;refine cP Bi ej ?_;refine cP ZC Ci ?_;refine ⟨by (simp only [j4,v7,List.length_cons,List.length_nil];omega),?_⟩;refine ⟨by (simp only [j4,v7,List.length_cons,List.length_nil];omega),?_⟩;refine ⟨by (simp only [j4,v7,List.length_cons,List.length_nil];omega),?_⟩;subst hL;refine ⟨.tup [.v (.string _),.v (.bool _)],ax,?_⟩;refine congrArg (fun s=>DV.tup [.v (.string s),.v (.bool true)]) (pf ?_);simp [Ow,UG,qx]
def logT (g:Nat->Option Val->List UInt8):Nat->List (Option Val)->List UInt8
 | _,[]=>[]
 | e,x :: r=>g e x ++ logT g (e + 1) r
theorem AR (g:Nat->Option Val->List UInt8) (x:Option Val):∀ (e:Nat) (l:List (Option Val)),logT g e (l ++ [x])=logT g e l ++ g (e + l.length) x
 | e,[]=>by simp [logT]
 | e,y :: r=>by
  rw [List.cons_append,logT,logT,AR g x (e + 1) r,List.append_assoc,List.length_cons,show e + 1 + r.length=e + (r.length + 1) by omega]
theorem Mr (g:Nat->Option Val->List UInt8) {l:List Val} {SF:Val->Option Val} {e:Nat} {v:Val} (h:l[e]? = some v):logT g 0 ((l.take (e + 1)).map SF)=logT g 0 ((l.take e).map SF) ++ g e (SF v):=by
 have hl:=(gS h).1;rw [List.take_add_one,h];simp only [Option.toList_some,List.map_append,List.map_cons,List.map_nil];rw [AR,List.length_map,zLenT,Nat.min_eq_left (by omega),Nat.zero_add]
def logG (A:Val->Int) (s:ByteArray) (T:Val->List UInt8) (e:Nat):Option Val->List UInt8
 | none=>[]
 | some x=>if A x=1 then Mq e s (T x) ++ [10] else []
def TF (PC:List DV) (o:Int) (B:List DV) (K:List TkE) (r:DV) (os:List (List DV)) (tk:List TkE):Prop:=r = .tup []/\os=[[.pt PC 0],[.v (.int .i64 o)],B]/\tk=K
theorem AS (PC:List DV) (o n a:Int) (x:Val) (ha:a≠1) (B:List DV) (K:List TkE) (hK:(B=[.v (.pointer none),.v (.slice none 0 0)]/\K=[])∨∃ p l,(p = .v (.pointer none)∨p = .loc 2 0)/\B=bO p l/\K=bT l) :
  RJ false prog 99 [.v (.int .i64 n),.agg (aZ x),.v (.int .i64 a),.loc 0 0,.loc 1 0,.loc 2 0] [[.pt PC 0],[.v (.int .i64 o)],B] K [(2,160)] (TF PC o B K):=by
 obtain ⟨xk,xn,xs,xl⟩:=x;rcases hK with ⟨rfl,rfl⟩ | ⟨p,l,rfl | rfl,rfl,rfl⟩
 all_goals
  refine lW (s:=false) (bt:=[(2,160)]) (mu:=[]) (fr:=false) (P:=prog) tt fo 5000 24 [] func99 rfl ntmps99 rfl (nL rfl) (fun _ _ _ _=>?_);refine br (fun g=>absurd (of_decide_eq_true g) ha) (fun g=>?_);refine ⟨_,_,fA,fA,rfl,rfl,rfl⟩
theorem Ms (PC:List DV) (o n:Int) (x:Val) (s:ByteArray) (t l:List UInt8) (p:DV) (hp:p = .v (.pointer none)∨p = .loc 2 0) (hlen:(l ++ (Mq n s t ++ [10])).length<=140737488355328)
  (hL:EvP prog 80 [.pt PC 0,.v (.int .i64 o),.v (.int .i64 n),.agg (aZ x)] (.tup [.v (.string (ba (Mq n s t))),.v (.bool true)])) :
  RJ false prog 99 [.v (.int .i64 n),.agg (aZ x),.v (.int .i64 1),.loc 0 0,.loc 1 0,.loc 2 0] [[.pt PC 0],[.v (.int .i64 o)],bO p l] (bT l) [(2,160)] (TF PC o (bO (.loc 2 0) (l ++ (Mq n s t ++ [10]))) (bT (l ++ (Mq n s t ++ [10])))):=by
 generalize Mq n s t=LT at *;obtain ⟨xk,xn,xs,xl⟩:=x;refine lW (s:=false) (bt:=[(2,160)]) (mu:=[]) (fr:=false) (P:=prog) tt fo 5000 24 [] func99 rfl ntmps99 rfl (nL rfl) (fun _ _ _ _=>?_);refine cP en80 hL ?_;have hz:(ba LT).size=LT.length:=by simp [ba,ByteArray.size]
 have h1:(⟨#[10]⟩:ByteArray).size=1:=rfl;rw [List.length_append,List.length_append,List.length_cons,List.length_nil] at hlen;refine ⟨by omega,?_⟩;refine jg rfl (kt:=0) (l:=l) (l ++ (LT ++ [10])) (by simp [ba]) (.head _) rfl hp rfl (by simp) (by simp;omega) rfl (fun n=>?_);refine ⟨_,_,fA,fA,rfl,rfl,rfl⟩
abbrev Mt (PC:List DV) (o:Int) (ask:List jf) (l:List Val) (B:List DV) (K:List TkE) (e:Nat):St:=
 ⟨[mQ 0 PC,ay 1 o,bh 2 8 (dR ask),(4,⟨[],.fn 99 [] [.loc 0 0,.loc 1 0,.loc 2 0]⟩),bh 14 4 (dVals l),ay 15 ((dVals l).length),ay 16 e],[[.pt PC 0],[.v (.int .i64 o)],B],K⟩
section
variable (PC:List DV) (o:Int) (ask:List jf) (l:List Val) (hl:l.length<=4000000) (SF:Val->Option Val) (A:Val->Int) (s:ByteArray) (T:Val->List UInt8)
 (hE:∀ v∈l,EvP prog 18 [.pt PC 0,.v (.int .i64 o),.agg (aZ v)] (FK (SF v)))
 (hA:∀ v∈l,∀ x,SF v=some x->EvP prog 184 [.pt PC 0,.v (.int .i64 o),.agg (aZ x),.sl 8 (dR ask) none] (.v (.int .i64 (A x))))
include hl hE hA
theorem Gp (h0:∀ v∈l,∀ x,SF v=some x->A x≠1) :
  RJ false prog 98 [.pt PC 0,.v (.int .i64 o),.sl 8 (dR ask) none,.sl 4 (dVals l) none,.fn 99 [] [.loc 0 0,.loc 1 0,.loc 2 0]] [[.pt PC 0],[.v (.int .i64 o)],[.v (.pointer none),.v (.slice none 0 0)]] [] [(2,160)] (TF PC o [.v (.pointer none),.v (.slice none 0 0)] []):=by
 have de:=bl l;refine lW (s:=false) (bt:=[(2,160)]) (mu:=[]) (fr:=false) (P:=prog) tt fo 5000 39 [] func98 rfl ntmps98 rfl (nL rfl) (fun _ _ _ _=>?_);refine lJ (fun e=>Mt PC o ask l [.v (.pointer none),.v (.slice none 0 0)] [] e) l.length (dj 3 pP kj) ?_;intro e he;refine br ?_ ?_<;>intro nD
 ·have au:e < l.length:=sV de nD;obtain ⟨v,hv⟩:=gX au;have hm:=mG hv;have zp:=hE v hm;have CQ:=hA v hm;have h01:=h0 v hm;have hg:=cp hv;generalize SF v=sv at zp CQ h01;obtain ⟨vk,vn,vs,vl⟩:=v;refine ⟨_,⟨by omega,hg⟩,?_⟩
  cases sv with
  | none=>
   refine cP GW zp ?_;exact rE ⟨_,by omega,e + 1,rfl,by omega,rfl⟩ (dj 3 (kH (aN au (by omega))) (cY (aN au (by omega))))
  | some x=>
   have CQ:=CQ x rfl;have hd:=AS PC o (e:Nat) (A x) x (h01 x rfl) _ _ (.inl ⟨rfl,rfl⟩);generalize A x=aa at CQ hd;obtain ⟨xk,xn,xs,xl⟩:=x;refine cP GW zp ?_;refine e9 (fun i=>Nat.beq i 8) mo (by decide +kernel) ?_;refine cD JD CQ ?_;refine eD rfl (fx 3 0 Wl rfl rfl rfl fA fA hd (fun r fX bX hΦ h1 h2=>?_));obtain ⟨rfl,rfl,rfl⟩:=hΦ;exact rE ⟨_,by omega,e + 1,rfl,by omega,rfl⟩ (dj 3 (kH (aN au (by omega))) (cY (aN au (by omega))))
 ·refine ⟨_,_,fA,fA,rfl,rfl,rfl⟩
theorem Gq (hL:∀ v∈l,∀ x,SF v=some x->∀ n:Nat,n<=4000000->EvP prog 80 [.pt PC 0,.v (.int .i64 o),.v (.int .i64 n),.agg (aZ x)] (.tup [.v (.string (ba (Mq n s (T x)))),.v (.bool true)])) (hb:(logT (logG A s T) 0 (l.map SF)).length<=140737488355328) :
  RJ false prog 98 [.pt PC 0,.v (.int .i64 o),.sl 8 (dR ask) none,.sl 4 (dVals l) none,.fn 99 [] [.loc 0 0,.loc 1 0,.loc 2 0]] [[.pt PC 0],[.v (.int .i64 o)],bO (.v (.pointer none)) []] (bT []) [(2,160)]
   (fun r os tk=>∃ p,(p = .v (.pointer none)∨p = .loc 2 0)/\TF PC o (bO p (logT (logG A s T) 0 (l.map SF))) (bT (logT (logG A s T) 0 (l.map SF))) r os tk):=by
 have de:=bl l;have ek:=fun (e:Nat) v=>@Mr (logG A s T) l SF e v
 have fF:∀ e,(logT (logG A s T) 0 ((l.take e).map SF)).length<=140737488355328:=fun e=>by
  have key:∀ (a b:List (Option Val)) (i:Nat),(logT (logG A s T) i a).length<=(logT (logG A s T) i (a ++ b)).length:=fun a=>by
   induction a with
   | nil=>intro b i;simp [logT]
   | cons y r ih=>
    intro b i;rw [List.cons_append,logT,logT,List.length_append,List.length_append];have:=ih b (i + 1);omega
  have h:=key ((l.take e).map SF) ((l.drop e).map SF) 0;rw [<- List.map_append,List.take_append_drop] at h;omega
 have CY:logT (logG A s T) 0 ((l.take 0).map SF)=[]:=rfl;have Vo:logT (logG A s T) 0 ((l.take l.length).map SF)=logT (logG A s T) 0 (l.map SF):=by rw [List.take_length]
 generalize logT (logG A s T) 0 (l.map SF)=W at Vo ⊢;generalize hQ:(fun e=>logT (logG A s T) 0 ((l.take e).map SF))=Q;have hQ:∀ e,logT (logG A s T) 0 ((l.take e).map SF)=Q e:=fun e=>by rw [<- hQ]
 simp only [hQ] at *;refine lW (s:=false) (bt:=[(2,160)]) (mu:=[]) (fr:=false) (P:=prog) tt fo 5000 39 [] func98 rfl ntmps98 rfl (nL rfl) (fun _ _ _ _=>?_);refine aV (fun j st=>∃ (e:Nat) (p:DV),st=Mt PC o ask l (bO p (Q e)) (bT (Q e)) e/\(p = .v (.pointer none)∨p = .loc 2 0)/\e<=l.length/\j=l.length - e) l.length (Mt PC o ask l (bO (.v (.pointer none)) []) (bT []) 0) (dj 3 pP kj) ⟨0,_,by rw [CY],.inl rfl,by omega,by omega⟩ ?_;rintro _ st ⟨e,p,rfl,hp,he,rfl⟩;refine br ?_ ?_<;>intro nD
 ·have au:e < l.length:=sV de nD;obtain ⟨v,hv⟩:=gX au;have hm:=mG hv;have zp:=hE v hm;have CQ:=hA v hm;have Vv:=hL v hm;have ek:=ek e v hv;have ac3:=fF (e + 1);have hg:=cp hv;generalize SF v=sv at zp CQ Vv ek;obtain ⟨vk,vn,vs,vl⟩:=v
  cases sv with
  | none=>
   rw [logG,List.append_nil] at ek;rcases hp with rfl | rfl
   all_goals
    refine ⟨_,⟨by omega,hg⟩,?_⟩;refine cP GW zp ?_;exact ⟨Mt PC o ask l (bO _ (Q e)) (bT (Q e)) (e + 1),(dj 3 (kH (aN au (by omega))) (cY (aN au (by omega)))),l.length - (e + 1),by omega,e + 1,_,by rw [ek],by simp,by omega,rfl⟩
  | some x=>
   have CQ:=CQ x rfl;have Vv:=Vv x rfl e (by omega);by_cases h1:A x=1
   ·rw [logG,ap h1] at ek;rw [h1] at CQ;rw [ek] at ac3;have hd:=Ms PC o (e:Nat) x s (T x) (Q e) p hp ac3 Vv;rw [<- ek] at hd;obtain ⟨xk,xn,xs,xl⟩:=x;rcases hp with rfl | rfl
    all_goals
     refine ⟨_,⟨by omega,hg⟩,?_⟩;refine cP GW zp ?_;refine e9 (fun i=>Nat.beq i 8) mo (by decide +kernel) ?_;refine cD JD CQ ?_;refine eD rfl (fx 3 1 Wl rfl rfl rfl fA fA hd (fun r fX bX hΦ h1 h2=>?_));obtain ⟨rfl,rfl,rfl⟩:=hΦ;exact ⟨Mt PC o ask l (bO _ (Q (e + 1))) (bT (Q (e + 1))) (e + 1),(dj 3 (kH (aN au (by omega))) (cY (aN au (by omega)))),l.length - (e + 1),by omega,e + 1,_,rfl,.inr rfl,by omega,rfl⟩
   ·rw [logG,aj h1,List.append_nil] at ek;have hd:=AS PC o (e:Nat) (A x) x h1 _ _ (.inr ⟨p,Q e,hp,rfl,rfl⟩);generalize A x=aa at CQ hd;obtain ⟨xk,xn,xs,xl⟩:=x;rcases hp with rfl | rfl
    all_goals
     refine ⟨_,⟨by omega,hg⟩,?_⟩;refine cP GW zp ?_;refine e9 (fun i=>Nat.beq i 8) mo (by decide +kernel) ?_;refine cD JD CQ ?_;refine eD rfl (fx 3 1 Wl rfl rfl rfl fA fA hd (fun r fX bX hΦ h1 h2=>?_));obtain ⟨rfl,rfl,rfl⟩:=hΦ;exact ⟨Mt PC o ask l (bO _ (Q e)) (bT (Q e)) (e + 1),(dj 3 (kH (aN au (by omega))) (cY (aN au (by omega)))),l.length - (e + 1),by omega,e + 1,_,by rw [ek],by simp,by omega,rfl⟩
 ·have hge:e=l.length:=by
   have h2:=nD;simp [de] at h2;omega
  subst hge;rw [Vo];rcases hp with rfl | rfl
  ·exact ⟨_,[[.pt PC 0],[.v (.int .i64 o)],bO (.v (.pointer none)) W],fA,fA,_,.inl rfl,rfl,rfl,rfl⟩
  ·exact ⟨_,[[.pt PC 0],[.v (.int .i64 o)],bO (.loc 2 0) W],fA,fA,_,.inr rfl,rfl,rfl,rfl⟩
end
theorem Gr {A:Val->Int} {s:ByteArray} {T:Val->List UInt8}:∀ {L:List (Option Val)} {e:Nat},logT (logG A s T) e L=[]->∀ x,some x∈L->A x≠1
 | [],_,_,_,h=>by cases h
 | y :: r,e,h,x,hx=>by
  rw [logT,List.append_eq_nil_iff] at h;rcases cO hx with rfl | hx
  ·intro h1;rw [logG,ap h1] at h;simp at h
  ·exact Gr h.2 x hx
section
variable {n:Nat} {af:List ByteArray} {f:Nat->Nat->Bool} {PC LC:List DV} (ej:EvP prog 72 [.pt PC 0] (.pt LC 0)) (hR:pA n f af LC)
 (ask:List jf) (l:List Val) (hl:l.length<=4000000) (SF:Val->Option Val) (A:Val->Int)
theorem CR (o:Nat) (ho:o < n) (s:ByteArray) (T:Val->List UInt8)
  (hE:∀ v∈l,EvP prog 18 [.pt PC 0,.v (.int .i64 (o:Nat)),.agg (aZ v)] (FK (SF v)))
  (hA:∀ v∈l,∀ x,SF v=some x->EvP prog 184 [.pt PC 0,.v (.int .i64 (o:Nat)),.agg (aZ x),.sl 8 (dR ask) none] (.v (.int .i64 (A x))))
  (hL:∀ v∈l,∀ x,SF v=some x->∀ n:Nat,n<=4000000->EvP prog 80 [.pt PC 0,.v (.int .i64 (o:Nat)),.v (.int .i64 n),.agg (aZ x)] (.tup [.v (.string (ba (Mq n s (T x)))),.v (.bool true)])) (hb:(logT (logG A s T) 0 (l.map SF)).length<=140737488355328)
  (ej:EvP prog 72 [.pt PC 0] (.pt LC 0)) (hR:pA n f af LC) (hl:l.length<=4000000) :
  EvP prog 40 [.pt PC 0,.v (.int .i64 (o:Nat)),.sl 8 (dR ask) none,.sl 4 (dVals l) none] (.tup [.v (.string (ba (logT (logG A s T) 0 (l.map SF)))),.v (.bool true)]):=by
 have hlen:=hR.len;have h0:=fun h=>Gp PC (o:Nat) ask l hl SF A hE hA h;have h1:=Gq PC (o:Nat) ask l hl SF A s T hE hA hL hb;have h2:=fun (h:logT (logG A s T) 0 (l.map SF)=[]) v (hv:v∈l) x (hx:SF v=some x)=>Gr h x (List.mem_map.2 ⟨v,hv,hx⟩);generalize logT (logG A s T) 0 (l.map SF)=W at h1 h2 ⊢;by_cases hW:W=[]
 ·subst hW;have h0:=h0 (h2 rfl);refine lX (s:=false) (bt:=[(2,160)]) (hbt:=fun p hp=>Nat.zero_le _) (P:=prog) tt fo 5000 27 [.tmp 8,.tmp 9] func40 rfl ntmps40 rfl (nL rfl) (fun _ _ _ _=>?_);refine dI ?_;refine cD Bi ej ?_;refine cD DL hlen ?_
  refine br (fun c=>absurd c (by
   simp [pickB]
   omega)) (fun _=>?_)
  refine fx 3 0 Wj rfl rfl rfl fA fA h0 (fun r fX bX hΦ h1 h2=>?_);obtain ⟨rfl,rfl,rfl⟩:=hΦ;refine Qo rfl (.head _) rfl rfl rfl rfl ?_;exact ⟨_,ax,rfl⟩
 ·refine lX (s:=false) (bt:=[(2,160)]) (hbt:=fun p hp=>Nat.zero_le _) (P:=prog) tt fo 5000 27 [.tmp 8,.tmp 9] func40 rfl ntmps40 rfl (nL rfl) (fun _ _ _ _=>?_);refine dI ?_;refine cD Bi ej ?_;refine cD DL hlen ?_
  refine br (fun c=>absurd c (by
   simp [pickB]
   omega)) (fun _=>?_)
  refine rf ⟨0,5,1,none⟩ ⟨[aE 10 2],[[.pt PC 0],[.v (.int .i64 (o:Nat))],[.v (.pointer none),.sl 1 [] (some 0)]],[⟨0,5,1,none⟩]⟩ rfl ?_ rfl ?_ ⟨⟨_,rfl,az rfl⟩,trivial⟩ rfl rfl ?_
  ·repeat' (first | exact rfl | exact az rfl | refine ⟨_,_,rfl,?_,?_⟩)
  ·repeat' (first | exact rfl | exact az rfl | exact bL (aQ _) rfl | refine ⟨_,_,rfl,?_,?_⟩)
  refine fx 3 1 Wj rfl rfl rfl fA fA h1 (fun r fX bX hΦ h1 h2=>?_);obtain ⟨p,hp,rfl,rfl,rfl⟩:=hΦ;refine u3 rfl (kt:=0) (l:=W) (.head _) rfl hW rfl rfl rfl rfl ?_;exact ⟨_,ax,rfl⟩
end
def cntA (A:Val->Int) (z:Int):List (Option Val)->Nat
 | []=>0
 | none :: r=>cntA A z r
 | some x :: r=>(if A x=z then 1 else 0) + cntA A z r
theorem sX (A:Val->Int) (z:Int) (x:Option Val):∀ l:List (Option Val),cntA A z (l ++ [x])=cntA A z l + cntA A z [x]
 | []=>by simp [cntA]
 | none :: r=>by rw [List.cons_append,cntA,cntA,sX A z x r]
 | some y :: r=>by rw [List.cons_append,cntA,cntA,sX A z x r];omega
theorem Mu (A:Val->Int) (z:Int) {l:List Val} {SF:Val->Option Val} {e:Nat} {v:Val} (h:l[e]? = some v):cntA A z ((l.take (e + 1)).map SF)=cntA A z ((l.take e).map SF) + cntA A z [SF v]:=by
 rw [List.take_add_one,h];simp only [Option.toList_some,List.map_append,List.map_cons,List.map_nil];rw [sX]
theorem yi (A:Val->Int) (z:Int):∀ l:List (Option Val),cntA A z l<=l.length
 | []=>by simp [cntA]
 | none :: r=>by rw [cntA,List.length_cons];have:=yi A z r;omega
 | some y :: r=>by rw [cntA,List.length_cons];have:=yi A z r;split<;>omega
abbrev z3:List DV:=[.v (.int .i64 0),.v (.int .i64 0),.v (.int .i64 0)]
abbrev c3 (a b c:Nat):List DV:=[.v (.int .i64 a),.v (.int .i64 b),.v (.int .i64 c)]
theorem QW (n z:Int) (x:Val) (a b c:Nat) (hz:z=0∨z=1∨z=2) (ha:a<=4000000) (hb:b<=4000000) (hc:c<=4000000) :
  Ev prog 100 [.v (.int .i64 n),.agg (aZ x),.v (.int .i64 z),.loc 1 0] [z3,c3 a b c] [] (fun r os _=>r = .tup []/\os=[z3,c3 (a + if z=0 then 1 else 0) (b + if z=1 then 1 else 0) (c + if z=2 then 1 else 0)]):=by
 obtain ⟨xk,xn,xs,xl⟩:=x;rcases hz with rfl | rfl | rfl
 ·have hw:IntKind.i64.wrap ((a:Int) + 1)=((a + 1:Nat):Int):=by
   rw [wrap64 (by omega) (by omega)];omega
  refine eG 12 [] func100 rfl ntmps100 rfl fun _ _ _ _=>?_;refine ⟨⟨by decide,by decide⟩,?_⟩;refine ⟨.v (.int .i64 a),rfl,?_⟩;refine ⟨⟨by decide,by decide⟩,?_⟩;have hX:=congrArg (fun z=>DV.v (Value.int .i64 z)) hw;exact ⟨nL rfl,.tup [],[z3,c3 (a + 1) b c],(by repeat' (first | exact rfl | exact trivial | exact Or.inr (Or.inl ⟨_,rfl⟩) | exact Or.inr ⟨_,rfl⟩ | exact Or.inl ⟨rfl,rfl⟩ | exact Or.inl rfl | refine Or.inr ⟨_,_,rfl,Nat.zero_le _,rfl,?_⟩ | refine ⟨_,_,rfl,?_,?_⟩ | refine ⟨_,rfl,?_⟩ | exact hX | exact ⟨nL rfl,rfl⟩ | refine Or.inr (Or.inr (Or.inr ⟨_,_,rfl,?_⟩)) | exact Or.inl rfl | refine Or.inr ?_)),(by repeat' (first | exact rfl | exact trivial | exact Or.inr (Or.inl ⟨_,rfl⟩) | exact Or.inr ⟨_,rfl⟩ | exact Or.inl ⟨rfl,rfl⟩ | exact Or.inl rfl | refine Or.inr ⟨_,_,rfl,Nat.zero_le _,rfl,?_⟩ | refine ⟨_,_,rfl,?_,?_⟩ | refine ⟨_,rfl,?_⟩ | exact hX | exact ⟨nL rfl,rfl⟩ | refine Or.inr (Or.inr (Or.inr ⟨_,_,rfl,?_⟩)) | exact Or.inl rfl | refine Or.inr ?_)),rfl,rfl⟩
 ·have hw:IntKind.i64.wrap ((b:Int) + 1)=((b + 1:Nat):Int):=by
   rw [wrap64 (by omega) (by omega)];omega
  refine eG 12 [] func100 rfl ntmps100 rfl fun _ _ _ _=>?_;refine ⟨⟨by decide,by decide⟩,?_⟩;refine ⟨.v (.int .i64 b),rfl,?_⟩;refine ⟨⟨by decide,by decide⟩,?_⟩;have hX:=congrArg (fun z=>DV.v (Value.int .i64 z)) hw;exact ⟨nL rfl,.tup [],[z3,c3 a (b + 1) c],(by repeat' (first | exact rfl | exact trivial | exact Or.inr (Or.inl ⟨_,rfl⟩) | exact Or.inr ⟨_,rfl⟩ | exact Or.inl ⟨rfl,rfl⟩ | exact Or.inl rfl | refine Or.inr ⟨_,_,rfl,Nat.zero_le _,rfl,?_⟩ | refine ⟨_,_,rfl,?_,?_⟩ | refine ⟨_,rfl,?_⟩ | exact hX | exact ⟨nL rfl,rfl⟩ | refine Or.inr (Or.inr (Or.inr ⟨_,_,rfl,?_⟩)) | exact Or.inl rfl | refine Or.inr ?_)),(by repeat' (first | exact rfl | exact trivial | exact Or.inr (Or.inl ⟨_,rfl⟩) | exact Or.inr ⟨_,rfl⟩ | exact Or.inl ⟨rfl,rfl⟩ | exact Or.inl rfl | refine Or.inr ⟨_,_,rfl,Nat.zero_le _,rfl,?_⟩ | refine ⟨_,_,rfl,?_,?_⟩ | refine ⟨_,rfl,?_⟩ | exact hX | exact ⟨nL rfl,rfl⟩ | refine Or.inr (Or.inr (Or.inr ⟨_,_,rfl,?_⟩)) | exact Or.inl rfl | refine Or.inr ?_)),rfl,rfl⟩
 ·have hw:IntKind.i64.wrap ((c:Int) + 1)=((c + 1:Nat):Int):=by
   rw [wrap64 (by omega) (by omega)];omega
  refine eG 12 [] func100 rfl ntmps100 rfl fun _ _ _ _=>?_;refine ⟨⟨by decide,by decide⟩,?_⟩;refine ⟨.v (.int .i64 c),rfl,?_⟩;refine ⟨⟨by decide,by decide⟩,?_⟩;have hX:=congrArg (fun z=>DV.v (Value.int .i64 z)) hw;exact ⟨nL rfl,.tup [],[z3,c3 a b (c + 1)],(by repeat' (first | exact rfl | exact trivial | exact Or.inr (Or.inl ⟨_,rfl⟩) | exact Or.inr ⟨_,rfl⟩ | exact Or.inl ⟨rfl,rfl⟩ | exact Or.inl rfl | refine Or.inr ⟨_,_,rfl,Nat.zero_le _,rfl,?_⟩ | refine ⟨_,_,rfl,?_,?_⟩ | refine ⟨_,rfl,?_⟩ | exact hX | exact ⟨nL rfl,rfl⟩ | refine Or.inr (Or.inr (Or.inr ⟨_,_,rfl,?_⟩)) | exact Or.inl rfl | refine Or.inr ?_)),(by repeat' (first | exact rfl | exact trivial | exact Or.inr (Or.inl ⟨_,rfl⟩) | exact Or.inr ⟨_,rfl⟩ | exact Or.inl ⟨rfl,rfl⟩ | exact Or.inl rfl | refine Or.inr ⟨_,_,rfl,Nat.zero_le _,rfl,?_⟩ | refine ⟨_,_,rfl,?_,?_⟩ | refine ⟨_,rfl,?_⟩ | exact hX | exact ⟨nL rfl,rfl⟩ | refine Or.inr (Or.inr (Or.inr ⟨_,_,rfl,?_⟩)) | exact Or.inl rfl | refine Or.inr ?_)),rfl,rfl⟩
abbrev ac4 (PC:List DV) (o:Int) (ask:List jf) (l:List Val) (a b c e:Nat):St:=
 ⟨[mQ 0 PC,ay 1 o,bh 2 8 (dR ask),(4,⟨[],.fn 100 [] [.loc 1 0]⟩),bh 14 4 (dVals l),ay 15 ((dVals l).length),ay 16 e],[z3,c3 a b c],[]⟩
section
variable (PC:List DV) (o:Int) (ask:List jf) (l:List Val) (hl:l.length<=4000000) (SF:Val->Option Val) (A:Val->Int)
 (hE:∀ v∈l,EvP prog 18 [.pt PC 0,.v (.int .i64 o),.agg (aZ v)] (FK (SF v)))
 (hA:∀ v∈l,∀ x,SF v=some x->EvP prog 184 [.pt PC 0,.v (.int .i64 o),.agg (aZ x),.sl 8 (dR ask) none] (.v (.int .i64 (A x)))) (h3:∀ x,A x=0∨A x=1∨A x=2)
include hl hE hA h3
theorem I5 :
  Ev prog 98 [.pt PC 0,.v (.int .i64 o),.sl 8 (dR ask) none,.sl 4 (dVals l) none,.fn 100 [] [.loc 1 0]] [z3,c3 0 0 0] [] (fun r os _=>r = .tup []/\os=[z3,c3 (cntA A 0 (l.map SF)) (cntA A 1 (l.map SF)) (cntA A 2 (l.map SF))]):=by
 have de:=bl l;have hs:=fun z (e:Nat) v=>@Mu A z l SF e v;have fF:=fun z e=>yi A z ((l.take e).map SF);have fF:∀ z e,cntA A z ((l.take e).map SF)<=l.length:=fun z e=>by have:=fF z e;rw [List.length_map,zLenT] at this;omega
 have Vo:∀ z,cntA A z ((l.take l.length).map SF)=cntA A z (l.map SF):=fun z=>by rw [List.take_length]
 rw [<- Vo 0,<- Vo 1,<- Vo 2];generalize hQ:(fun z e=>cntA A z ((l.take e).map SF))=Q;have hQ2:∀ z e,cntA A z ((l.take e).map SF)=Q z e:=fun z e=>by rw [<- hQ]
 have hz:∀ z,Q z 0=0:=fun z=>by rw [<- hQ];all_goals rfl
 simp only [hQ2] at *;refine eG 39 [] func98 rfl ntmps98 rfl fun _ _ _ _=>?_;refine aV (fun j st=>∃ e:Nat,st=ac4 PC o ask l (Q 0 e) (Q 1 e) (Q 2 e) e/\e<=l.length/\j=l.length - e) l.length (ac4 PC o ask l 0 0 0 0) (dj 2 pP kj) ⟨0,by rw [hz,hz,hz],by omega,by omega⟩ ?_;rintro _ st ⟨e,rfl,he,rfl⟩;refine br ?_ ?_<;>intro nD
 ·have au:e < l.length:=sV de nD;obtain ⟨v,hv⟩:=gX au;have hm:=mG hv;have zp:=hE v hm;have CQ:=hA v hm;have hs:=fun z=>hs z e v hv;have hg:=cp hv;generalize SF v=sv at zp CQ hs;obtain ⟨vk,vn,vs,vl⟩:=v;refine ⟨_,⟨by omega,hg⟩,?_⟩
  cases sv with
  | none=>
   have hs:∀ z,Q z (e + 1)=Q z e:=fun z=>hs z;refine cP GW zp ?_;exact rE ⟨_,by omega,e + 1,by rw [hs,hs,hs],by omega,rfl⟩ (dj 2 (kH (aN au (by omega))) (cY (aN au (by omega))))
  | some x=>
   have CQ:=CQ x rfl;have hs:∀ z,Q z (e + 1)=Q z e + if A x=z then 1 else 0:=fun z=>hs z
   have hd:=QW (e:Nat) (A x) x (Q 0 e) (Q 1 e) (Q 2 e) (h3 x) (by have:=fF 0 e;omega) (by have:=fF 1 e;omega) (by have:=fF 2 e;omega);rw [<- hs,<- hs,<- hs] at hd;generalize A x=aa at CQ hd;obtain ⟨xk,xn,xs,xl⟩:=x;refine cP GW zp ?_;refine e9 (fun i=>Nat.beq i 8) mo (by decide +kernel) ?_;refine cD JD CQ ?_;refine eD rfl (gY 2 0 Zo rfl rfl rfl fA fA hd (fun r fX bX hΦ h1 h2=>?_));obtain ⟨rfl,rfl⟩:=hΦ;obtain rfl:bX=[]:=List.eq_nil_of_length_eq_zero h2;exact rE ⟨_,by omega,e + 1,rfl,by omega,rfl⟩ (dj 2 (kH (aN au (by omega))) (cY (aN au (by omega))))
 ·have hge:e=l.length:=by
   have h2:=nD;simp [de] at h2;omega
  subst hge;exact ⟨.tup [],[z3,c3 (Q 0 l.length) (Q 1 l.length) (Q 2 l.length)],fA,fA,rfl,rfl⟩
theorem tZ:EvP prog 41 [.pt PC 0,.v (.int .i64 o),.sl 8 (dR ask) none,.sl 4 (dVals l) none] (.agg (c3 (cntA A 0 (l.map SF)) (cntA A 1 (l.map SF)) (cntA A 2 (l.map SF)))):=by
 have he:=I5 PC o ask l hl SF A hE hA h3;generalize cntA A 0 (l.map SF)=a at he ⊢;generalize cntA A 1 (l.map SF)=b at he ⊢;generalize cntA A 2 (l.map SF)=c at he ⊢;refine eG 17 [.cell 8 70] func41 rfl ntmps41 rfl fun _ _ _ _=>?_;refine gY 2 0 Wj rfl rfl rfl fA fA he (fun r fX bX hΦ h1 h2=>?_);obtain ⟨rfl,rfl⟩:=hΦ;obtain rfl:bX=[]:=List.eq_nil_of_length_eq_zero h2;exact ⟨_,ax,rfl⟩
end
mutual
def Gs:Rw->Nat
 | .mk _ _ _ s keys ks=>64 + s.size + wdsWt keys + mD ks
def mD:List Rw->Nat
 | []=>0
 | v :: r=>Gs v + mD r
end
theorem Gt:∀ {l:List Rw} {x:Rw},x∈l->Gs x<=mD l
 | v :: r,x,h=>by
  rw [mD];rcases cO h with rfl | h
  ·omega
  ·have:=Gt h;omega
theorem CS:∀ r:Rw,64<=Gs r
 | .mk _ _ _ _ _ _=>by rw [Gs];omega
theorem yj:∀ l:List Rw,l.length<=mD l
 | []=>aQ _
 | v :: r=>by
  have:=yj r;have:=CS v;rw [mD,List.length_cons];omega
mutual
def y5:Rw->Nat
 | .mk _ _ _ _ _ ks=>iw ks + 1
def iw:List Rw->Nat
 | []=>0
 | v :: r=>max (y5 v) (iw r)
end
mutual
theorem KJ:∀ v:Rw,Fi v<=Gs v/\y5 v<=Gs v
 | .mk _ _ _ _ _ ks=>by
  have:=ym ks;rw [Fi,y5,Gs];omega
theorem ym:∀ l:List Rw,lA l<=mD l/\iw l<=mD l
 | []=>⟨aQ _,aQ _⟩
 | v :: r=>by
  have h1:=KJ v;have h2:=ym r;rw [lA,iw,mD];omega
end
theorem yo:∀ (l:List Rw) (x:Rw),lA (l ++ [x])=lA l + Fi x
 | [],x=>by simp [lA]
 | v :: r,x=>by rw [List.cons_append,lA,lA,yo r];omega
theorem yp:∀ (l:List Rw) (x:Rw),iw (l ++ [x])=max (iw l) (y5 x)
 | [],x=>by simp [iw]
 | v :: r,x=>by rw [List.cons_append,iw,iw,yp r];omega
theorem I6 (l:List Rw):∀ e,lA (l.take e)<=mD l/\iw (l.take e)<=mD l:=fun e=>by
 have h1:=ym (l.take e)
 have h2:∀ (l:List Rw) e,mD (l.take e)<=mD l:=by
  intro l
  induction l with
  | nil=>intro e;simp [mD]
  | cons v r ih=>
   intro e
   cases e with
   | zero=>simp [mD]
   | succ e=>have:=ih e;simp only [List.take_succ_cons,mD];omega
 have:=h2 l e;omega
abbrev ac5 (v:Rw) (n d e:Nat):St:=
 ⟨[aE 1 0,ay 4 n,ay 5 d,ay 6 e],[dRw v],[]⟩
theorem ua:∀ (k:Nat) (v:Rw),Gs v<=k->Gs v<=1099511627776->EvP prog 97 [.agg (dRw v)] (.tup [.v (.int .i64 (Fi v:Nat)),.v (.int .i64 (y5 v:Nat))])
 | 0,v,h,_=>by have:=CS v;omega
 | k + 1,.mk q a n s keys ks,h,hb=>by
  have ih:=ua k;have de:=Fh ks;have lG:=yj ks;have ig:=I6 ks;rw [Gs] at h hb;rw [Fi,y5];refine eG 35 [.tmp 2,.tmp 3] func97 rfl ntmps97 rfl fun _ _ _ _=>?_;refine lJ (fun e=>ac5 (.mk q a n s keys ks) (1 + lA (ks.take e)) (iw (ks.take e)) e) ks.length (bp wB) ?_;intro e he;refine br ?_ ?_<;>intro hL
  ·have au:e < ks.length:=by have:=hL;simp [de] at this;exact this
   obtain ⟨x,hx⟩:=gX au;have UW:=Gt (mG hx);have hc:=yo (ks.take e) x;have hd:=yp (ks.take e) x;rw [<- sH hx] at hc hd;have h1:=ig (e + 1);have hi:=ih x (by omega) (by omega);have SV:=KJ x;obtain ⟨xk,xa,xn,xs,xq,xl⟩:=x;refine iX (PV hx) ?_;refine cP Zn hi ?_;have hw:IntKind.i64.wrap (((1 + lA (ks.take e):Nat):Int) + ((Fi (.mk xk xa xn xs xq xl):Nat):Int))=((1 + lA (ks.take (e + 1)):Nat):Int):=by rw [wrap64 (by omega) (by omega)];omega
   refine br ?_ ?_<;>intro g
   ·have g:iw (ks.take e) < y5 (.mk xk xa xn xs xq xl):=sU g;have DF:((y5 (.mk xk xa xn xs xq xl):Nat):Int)=((iw (ks.take (e + 1)):Nat):Int):=by omega
    exact rE ⟨_,by omega,e + 1,rfl,by omega,rfl⟩ (bp (Rc hw DF (aN au (by omega))))
   ·have g:¬ iw (ks.take e) < y5 (.mk xk xa xn xs xq xl):=sU g;have DF:((iw (ks.take e):Nat):Int)=((iw (ks.take (e + 1)):Nat):Int):=by omega
    exact rE ⟨_,by omega,e + 1,rfl,by omega,rfl⟩ (bp (Rc hw DF (aN au (by omega))))
  ·have hge:e=ks.length:=sW de hL;subst hge;have h1:=ig ks.length;rw [List.take_length] at h1 ⊢;have hw:IntKind.i64.wrap (((iw ks:Nat):Int) + 1)=((iw ks + 1:Nat):Int):=by rw [wrap64 (by omega) (by omega)];omega
   refine ⟨_,(rz hw),rfl⟩
theorem Mv:prog.cellsOf 197=6:=by kernel_rfl
theorem KK {m:Nat} (ih:∀ k,k<=m->∀ ds,Typ prog k 197 ds->∃ v:Rw,ds=dRw v/\Gs v<=wgL ds) :
  ∀ {es:List (List DV)},(∀ cs∈es,Typ prog m 197 cs)->∃ l:List Rw,es=dRws l/\mD l<=wgEs es
 | [],h=>⟨[],rfl,by simp [mD]⟩
 | cs :: r,h=>by
  obtain ⟨l,rfl,hl⟩:=KK ih (es:=r) (fun c hc=>h c (gC _ hc));obtain ⟨v,rfl,hv⟩:=ih m (aQ _) cs (h cs (by simp));exact ⟨v :: l,rfl,by simp only [mD,wgEs];omega⟩
theorem TG:∀ (n:Nat) (ds:List DV),Typ prog n 197 ds->∃ v:Rw,ds=dRw v/\Gs v<=wgL ds:=by
 intro n
 induction n using Nat.strongRecOn with
 | _ n ih=>
  intro ds h;obtain ⟨m,rfl,hf⟩:=jr Tryz.underlying197 h;obtain ⟨a1,b1,rfl,h1,a2,b2,rfl,h2,a3,b3,rfl,h3,a4,b4,rfl,h4,a5,b5,rfl,h5,a6,b6,rfl,h6,rfl⟩:=hf;obtain ⟨k,rfl,_⟩:=il h1;obtain ⟨a,rfl,_⟩:=il h2;obtain ⟨z,rfl,_⟩:=il h3;obtain ⟨s,rfl⟩:=uP Tryz.underlying9 h4;obtain ⟨keys,rfl,hw⟩:=qy h5;obtain ⟨j,es,rfl,rfl,gL⟩:=ma Tryz.underlying195 h6;obtain ⟨l,rfl,wl⟩:=KK (fun i hi=>ih i (by omega)) gL;rw [Mv];refine ⟨.mk k a z s keys l,rfl,?_⟩;simp only [Gs,cM,wgL,wgD] at *;omega
theorem I7:prog.cellsOf 141=3:=by kernel_rfl
def QX (p:List Stp):Prop:=∀ s∈p,(-9223372036854775808<=s.k/\s.k<=9223372036854775807)/\(-9223372036854775808<=s.n/\s.n<=9223372036854775807)
def wtStp:List Stp->Nat
 | []=>0
 | s :: p=>64 + s.s.size + wtStp p
theorem AU:∀ p:List Stp,64 * p.length<=wtStp p
 | []=>aQ _
 | s :: p=>by
  have:=AU p;rw [wtStp,List.length_cons];omega
theorem AV:∀ {p:List Stp} {s:Stp},s∈p->s.s.size<=wtStp p
 | s :: p,x,h=>by
  rcases cO h with rfl | h
  ·rw [wtStp];omega
  ·have:=AV h;rw [wtStp];omega
theorem Gu {m:Nat}:∀ {es:List (List DV)},(∀ cs∈es,Typ prog m 141 cs)->∃ p:List Stp,es=cz p/\QX p/\wtStp p<=wgEs es
 | [],h=>⟨[],rfl,(fun _ h=>by cases h),by simp [wtStp]⟩
 | cs :: r,h=>by
  obtain ⟨p,rfl,hr,hl⟩:=Gu (es:=r) (fun c hc=>h c (gC _ hc));obtain ⟨m',rfl,hf⟩:=jr Tryz.underlying141 (h cs (by simp));obtain ⟨a1,b1,rfl,h1,a2,b2,rfl,h2,a3,b3,rfl,h3,rfl⟩:=hf;obtain ⟨k,rfl,hk⟩:=il h1;obtain ⟨z,rfl,hz⟩:=il h2;obtain ⟨s,rfl⟩:=uP Tryz.underlying9 h3;refine ⟨⟨k,z,s⟩ :: p,rfl,fun x hx=>?_,?_⟩
  ·rcases cO hx with rfl | hx
   ·exact ⟨hk,hz⟩
   ·exact hr x hx
  ·grind [wtStp,wgEs,cM,wgL,wgD]
theorem QY {n:Nat} {ds:List DV} (h:Typ prog n 56 ds):∃ p:List Stp,ds=[.sl 3 (cz p) none]/\QX p/\wtStp p<=wgL ds:=by
 obtain ⟨j,es,rfl,rfl,gL⟩:=ma Tryz.underlying56 h;obtain ⟨p,rfl,hr,hl⟩:=Gu gL;rw [I7];exact ⟨p,rfl,hr,by simp only [wgL,wgD];omega⟩
namespace Dv
open Go.ChangeShapes Go.WideShapes Go.ChangeAt
theorem arg_sl {H:Type} {enc:TypeId × Value->H} {P:Program} {W:World} {base:Nat} {S:List TypeId} {bk:DataW H->Nat} (nu:Bk bk) (hS:∀ t∈S,kL P S t=true) {t e:TypeId} {v:Value} {d:DataW H} {ps:List MemPlace} (ht:t∈S) (hu:P.underlying t=some (.slice e))
  (hval:Value.okWide P W .any base t v) (h:DataW.Trod enc P W 0 (fun _=>true) true t v d ps):∃ n x,Rv (GA W) x v/\Typ P n t [x]/\wgL [x]<=64 * bk d:=by
 obtain ⟨a,len,cap,rfl⟩:=okWide_slice hu hval;obtain ⟨n,hn⟩:=h;obtain ⟨ds,h1,h2,h3,h4,h5⟩:=uO nu hS n t _ _ ht hn
 cases ds with
 | nil=>simp only [RvL,Value.cells] at h1;cases h1
 | cons x r=>
  simp only [RvL,Value.cells] at h1;obtain ⟨u,s,h6,h7,h8⟩:=h1;have h6:Value.slice a len cap=u/\s=[]:=by simpa [eq_comm] using h6
  obtain ⟨rfl,rfl⟩:=h6
  cases r with
  | nil=>exact ⟨n,x,h7,h3,h4⟩
  | cons y r=>grind [RvL]
end Dv
theorem typ_vals {n:Nat} {ds:List DV} (h:Typ prog n 32 ds):∃ l:List Val,ds=[.sl 4 (dVals l) none]/\rngWs l/\ch l<=wgL ds:=by
 obtain ⟨j,es,rfl,rfl,gL⟩:=ma Tryz.underlying32 h;obtain ⟨l,rfl,r3,wl⟩:=Ch (fun i _=>Qg i) gL;rw [tH];exact ⟨l,rfl,r3,by simp only [wgL,wgD];omega⟩
namespace Dv
open Go.ChangeShapes Go.WideShapes Go.ChangeAt
end Dv
theorem QZ (a b c:Int) (w:World):(Op.equal 70 (.agg #[.int .i64 a,.int .i64 b,.int .i64 c]) (.agg #[.int .i64 a,.int .i64 b,.int .i64 c])).run prog w = .ok true w:=by
 obtain ⟨d,hm⟩:∃ d,Op.maxDepth=d + 1 + 1:=⟨Op.maxDepth - 2,by decide⟩;obtain ⟨i,hi⟩:=info_of_underlying Tryz.underlying3;have hc:prog.cellsOf 3=1:=by kernel_rfl
 have q3:∀ cs:Array Value,∀ off v,cs[off]? = some v->(part 3 cs off).run prog w = .ok v w:=fun cs off v h=>by
  simp [part,Tryz.isAgg3,h]
 have hr:List.range 3=[0,1,2]:=rfl;unfold Op.equal;rw [hm,run_equalIn_array w (d + 1) _ _ Tryz.underlying70 hi,hc,hr];have e0:=q3 #[.int .i64 a,.int .i64 b,.int .i64 c] 0 (.int .i64 a) rfl;have e1:=q3 #[.int .i64 a,.int .i64 b,.int .i64 c] 1 (.int .i64 b) rfl;have e2:=q3 #[.int .i64 a,.int .i64 b,.int .i64 c] 2 (.int .i64 c) rfl;have hq:=fun z=>run_equalIn_int w d 3 .i64 .i64 z z Tryz.underlying3;simp [Op.eqItems,Sem.run_bind,e0,e1,e2,hq,Sem.run_pure]
theorem XS (x y:Operand) (a b c:Nat):GC prog .eql x y 70 (c3 a b c) (c3 a b c) true:=
 ⟨[.int .i64 a,.int .i64 b,.int .i64 c],[.int .i64 a,.int .i64 b,.int .i64 c],rfl,rfl,fun w=>⟨by
  have h:prog.eqGuardType prog.depth 70=false:=by kernel_rfl
  simp [eqGuard,run_program,h],by
  show ((do let r <- Op.equal 70 _ _;pure (Value.bool r)):Sem Value).run prog w=_
  simp only [Sem.run_bind,QZ a b c w,Result.andThen_ok,Sem.run_pure]⟩⟩
theorem allQ_3 {E:jf->Int}:∀ (l:List jf) (out:Int),(out=1∨out=2)->allQ E l out=0∨allQ E l out=1∨allQ E l out=2
 | [],out,h=>.inr h
 | c :: r,out,h=>by
  rw [allQ];split
  ·exact .inl rfl
  ·refine allQ_3 r _ ?_;split
   ·exact .inr rfl
   ·exact h
def cndW:List jf->Nat
 | []=>0
 | c :: r=>wtStp c.p + Gs c.lit + cndW r
theorem yq:∀ {l:List jf} {c:jf},c∈l->wtStp c.p + Gs c.lit<=cndW l
 | x :: r,c,h=>by
  rw [cndW];rcases cO h with rfl | h
  ·omega
  ·have:=yq h;omega
theorem yr:∀ l:List jf,64 * l.length<=cndW l
 | []=>aQ _
 | c :: r=>by
  have:=yr r;have:=CS c.lit;rw [cndW,List.length_cons];omega
theorem Q0 {c:jf} (h:wtStp c.p + Gs c.lit<=1099511627776):QT c:=by
 have h1:=AU c.p;obtain ⟨p,op,k,a,n,s,keys,ks⟩:=c;rw [Gs] at h;have h2:=bu keys;have h3:=yj ks;simp only at h h1;refine ⟨by show p.length<=_;omega,fun x hx=>?_,by show s.size<=_;omega,by show keys.length + ks.length<=_;omega⟩;have:=AV (show x∈p from hx);omega
def Mw (o:Int) (ask:List jf) (l:List Val):List DV:=[.v (.int .i64 o),.sl 8 (dR ask) none,.sl 4 (dVals l) none]
theorem Q4 {m:Nat}:∀ {es:List (List DV)},(∀ cs∈es,Typ prog m 199 cs)->∃ L:List jf,es=dR L/\cndW L<=wgEs es
 | [],_=>⟨[],rfl,by simp [cndW]⟩
 | cs :: r,h=>by
  obtain ⟨L,rfl,hr⟩:=Q4 (es:=r) (fun c hc=>h c (gC _ hc));obtain ⟨m',rfl,hf⟩:=jr Tryz.underlying199 (h cs (by simp));obtain ⟨a1,b1,rfl,h1,a2,b2,rfl,h2,a3,b3,rfl,h3,rfl⟩:=hf;obtain ⟨p,rfl,r2,w2⟩:=QY h1;obtain ⟨op,rfl,r1⟩:=il h2;obtain ⟨x,rfl,w3⟩:=TG _ _ h3;refine ⟨⟨p,op,x⟩ :: L,?_,?_⟩
  ·simp [dR,rb]
  ·simp only [cndW,wgEs,cM] at *;omega
theorem Mx:prog.cellsOf 199=8:=by kernel_rfl
theorem typ_q41 {n:Nat} {ds:List DV} (h:Typ prog n 98 ds):∃ o ask l,ds=Mw o ask l/\cndW ask<=wgL ds/\rngWs l/\ch l<=wgL ds:=by
 obtain ⟨m,rfl,hf⟩:=jr Tryz.underlying98 h;obtain ⟨a1,b1,rfl,h1,a2,b2,rfl,h2,a3,b3,rfl,h3,rfl⟩:=hf;obtain ⟨o,rfl,_⟩:=il h1;obtain ⟨j,es,rfl,rfl,gL⟩:=ma Tryz.underlying96 h2;obtain ⟨l,rfl,hr,hw⟩:=typ_vals h3;obtain ⟨L,rfl,hL⟩:=Q4 gL;rw [Mx];refine ⟨o,L,l,rfl,?_,hr,?_⟩
 ·simp only [cM,wgL,wgD] at *;omega
 ·simp only [cM,wgL,wgD] at *;omega
def tyQ41:List TypeId:=[98,96,199,56,141,34,32,197,195,22,27,9,3]
theorem tyQ41_ok:∀ t∈tyQ41,kL prog tyQ41 t=true:=by
 have h:(tyQ41.all fun t=>kL prog tyQ41 t)=true:=by kernel_rfl
 exact fun t ht=>List.all_eq_true.1 h t ht
abbrev TH (S:List DV) (o:Int) (ask:List jf) (l:List Val) (e:Nat):St:=⟨[aE 2 0,aE 3 1,ay 5 e],[S,Mw o ask l],[]⟩
abbrev TI (S:List DV) (o:Int) (ask:List jf) (l:List Val) (e:Nat):St:=⟨[aE 2 0,aE 3 1,ay 8 e],[S,Mw o ask l],[]⟩
set_option maxHeartbeats 1000000 in
theorem ub (S:Sch) (hS:S.wt<=1099511627776) (o:Int) (ask:List jf) (UJ:cndW ask<=1099511627776) (l:List Val) (hl:ch l<=1099511627776) :
  Ev prog 38 [.agg (eH S),.agg (Mw o ask l)] [] [] (fun r _ _=>∃ b:Bool,r = .v (.bool b)/\(b=true->xW S)):=by
 have ga:=BU S hS;have hf:=FG S hS;have de:=bl l;have hda:=AB ask;have BR:=cG l;have Na:=yr ask;obtain ⟨ae,order,types,⟨rh,rp⟩⟩:=S;refine eG 86 [.tmp 4] func38 rfl ntmps38 rfl fun _ _ _ _=>?_;refine br (fun g=>⟨false,rfl,fun h=>by cases h⟩) (fun g=>?_);refine lJ (fun e=>TH (eH ⟨ae,order,types,.mk rh rp⟩) o ask l e) l.length (dj 2 pP kj) ?_;intro e he;refine br ?_ ?_<;>intro nD
 ·have au:e < l.length:=sV de nD;obtain ⟨v,hv⟩:=gX au;have hvw:=du (mG hv);have h1:=tG v.wt v (aQ _) (by omega);generalize Fa v=ct at h1;generalize yR v=dp at h1;obtain ⟨vk,vn,vs,vl⟩:=v;refine iX (cp hv) ?_;refine cP Zb h1 ?_;refine br ?_ ?_<;>intro c
  ·exact ⟨false,rfl,fun h=>by cases h⟩
  ·exact rE ⟨_,by omega,e + 1,rfl,by omega,rfl⟩ (dj 2 (kH (aN au (by omega))) (cY (aN au (by omega))))
 ·refine lJ (fun e=>TI (eH ⟨ae,order,types,.mk rh rp⟩) o ask l e) ask.length (dj 2 pP kj) ?_;intro e he;refine br ?_ ?_<;>intro nD
  ·have au:e < ask.length:=sV hda nD;obtain ⟨c,hc⟩:=gX au;have Nq:=yq (mG hc);have h1:=ua _ c.lit (aQ _) (by omega);have hcg:=AD hc;generalize Fi c.lit=ct at h1;generalize y5 c.lit=dp at h1;obtain ⟨p,op,rk,ra,rn,rs,bW,kD⟩:=c;have hi:(0:Int)<=e/\(dR ask)[((e:Nat):Int).toNat]? = some (rb ⟨p,op,.mk rk ra rn rs bW kD⟩):=⟨by omega,hcg⟩;refine ⟨_,hi,?_⟩;refine cP Zn h1 ?_;refine br ?_ ?_<;>intro g1
   ·refine ⟨_,hi,?_⟩;refine br ?_ ?_<;>intro g2
    ·refine ⟨_,hi,?_⟩;refine br ?_ ?_<;>intro g3
     ·exact ⟨false,rfl,fun h=>by cases h⟩
     ·exact rE ⟨_,by omega,e + 1,rfl,by omega,rfl⟩ (dj 2 (kH (aN au (by omega))) (cY (aN au (by omega))))
    ·exact ⟨false,rfl,fun h=>by cases h⟩
   ·exact ⟨false,rfl,fun h=>by cases h⟩
  ·refine bS en43 rfl ga ax (fun r hr=>?_);obtain ⟨g,rfl⟩:=hr
   cases g with
   | true=>exact ⟨false,rfl,fun h=>by cases h⟩
   | false=>
    refine bS en44 rfl hf ax (fun r hr=>?_);obtain ⟨b,rfl,hb⟩:=hr;exact ⟨b,rfl,hb⟩
theorem My {S:Sch} (hF:tE S):∀ s∈aA S.ae,s.size<=32:=by
 have h:=(mq hF.lat).2.1
 have h2:=(pz fun j x hx=>by
  have h3:(enumL S.ae 0 S.ae).1=0:=h;have:=sF (all:=S.ae) (i:=0) h3 j x hx
  rwa [Nat.zero_add] at this).2
 intro s hs;obtain ⟨w,hw,rfl⟩:=List.mem_map.1 hs;exact iP (h2 w hw)
theorem Mz {L:Nat} {ND:List Nd} (bI:∀ n∈ND,dt L ND.length n) {rt:Nat} {d:Nd} (hd:bV ND (rt:Int)=some d) {x:Val} (mU:rngW x) (hw:ie ND x (rt:Nat)=true) (hk:x.k=d.ag):(AQ ND d x rt).length<=50 * x.wt:=by
 have gl:=lE bI x rt mU hw;unfold AQ;by_cases c7:d.ag=7
 ·rw [ap c7];obtain ⟨d',yJ,SV⟩:=kh hw;rw [hd] at yJ;cases yJ
  have yX:shellF d x=true:=by
   rcases SV with h | h | h
   ·omega
   ·omega
   ·exact h.2.2.1
  have hlen:=(shell_67 yX).2.1 c7;have fF:=CP (ND:=ND) c7 hlen x.ks.length (aQ _);rw [List.take_of_length_le (by rw [Gl];omega),List.take_of_length_le (aQ _)] at fF;obtain ⟨k,n,s,ks⟩:=x;rw [textV,hd] at gl;simp only [List.length_append,Val.ks,Val.n] at *;omega
 ·rw [aj c7];omega
def C0 (S:Sch) (root o:Nat) (v:Val):Option Val:=tO (aS S) (aK S) S.ae.length root (o:Nat) v
def Ax (S:Sch) (root o:Nat) (ask:List jf) (x:Val):Int:=allQ (Kz (aS S) (aK S) S.ae.length root (o:Nat) x) ask 1
def Tx (S:Sch) (root:Nat) (x:Val):List UInt8:=match (aS S)[root]? with | some d=>AQ (aS S) d x root | none=>[]
def XT (S:Sch) (o:Nat):ByteArray:=match S.ae[o]? with | some w=>w.s | none=>av
def lgx (S:Sch) (root o:Nat) (ask:List jf) (L:List (Option Val)):List UInt8:=logT (logG (Ax S root o ask) (XT S o) (Tx S root)) 0 L
theorem Gv {g:Nat->Option Val->List UInt8} {SF:Val->Option Val}:∀ (l:List Val) (e:Nat),(∀ v∈l,∀ i,i < e + l.length->(g i (SF v)).length<=100 + 50 * v.wt)->(logT g e (l.map SF)).length<=100 * l.length + 50 * ch l
 | [],_,_=>by simp [logT]
 | v :: r,e,h=>by
  have h1:=h v (by simp) e (by simp);have h2:=Gv (g:=g) (SF:=SF) r (e + 1) fun u hu i hi=>h u (by simp [hu]) i (by rw [List.length_cons];omega);rw [List.map_cons,logT,List.length_append,List.length_cons,ch];omega
theorem pM {S:Sch} (hS:S.wt<=1099511627776) (yW:Lh S) {PC:List DV} (hP:eT S (aS S) PC) (root:Nat) (oS:cr S=root) (I8:root < (aS S).length) (o:Nat) (ho:o < S.ae.length) (ask:List jf) (UJ:cndW ask<=1099511627776) (l:List Val) (hlw:ch l<=134217728) (eM:rngWs l) :
  EvP prog 40 [.pt PC 0,.v (.int .i64 (o:Nat)),.sl 8 (dR ask) none,.sl 4 (dVals l) none] (.tup [.v (.string (ba (lgx S root o ask (l.map (C0 S root o))))),.v (.bool true)]) /\
  EvP prog 41 [.pt PC 0,.v (.int .i64 (o:Nat)),.sl 8 (dR ask) none,.sl 4 (dVals l) none] (.agg (c3 (cntA (Ax S root o ask) 0 (l.map (C0 S root o))) (cntA (Ax S root o ask) 1 (l.map (C0 S root o))) (cntA (Ax S root o ask) 2 (l.map (C0 S root o))))):=by
 have hRr:=fun n (hn:n∈aS S)=>xV yW hn;have CF:∀ n∈aS S,n.aw.length<=1099511627776:=fun n hn=>(lr hn hS).2;obtain ⟨LC,ej,hR⟩:=hP.S3;obtain ⟨w,UU⟩:∃ w,S.ae[o]? = some w:=⟨_,gE ho⟩;obtain ⟨d,hd⟩:∃ d,(aS S)[root]? = some d:=⟨_,gE I8⟩
 have hdN:bV (aS S) (root:Int)=some d:=by
  unfold bV;rw [aj (by omega),kS,hd]
 have Ci:XT S o=w.s:=by rw [XT,UU]
 have Gz:=My hP.fine w.s (mG (ke UU));have BR:=cG l;have uJ:∀ v∈l,v.wt<=134217728/\rngW v:=fun v hv=>⟨Nat.le_trans (du hv) hlw,di eM hv⟩
 have hV:∀ v∈l,∀ x,C0 S root o v=some x->x.wt<=v.wt/\rngW x/\uC (aS S) (aK S) S.ae.length root (o:Nat) x=true/\x.k=d.ag:=fun v hv x hx=>by
  obtain ⟨g1,g2⟩:=uJ v hv;unfold C0 tO at hx;split at hx
  ·rename_i h;cases hx;rw [kS];refine ⟨Ar v root _,ye hP.ok v root _ g2 (by omega),?_,?_⟩
   ·unfold uC;rw [kS,Az hP.ok v root _ h.2.2,decide_eq_true ⟨by omega,by omega⟩];rfl
   ·rw [(xM v root _).1];obtain ⟨d',hF⟩:=dL hP.ok h.2.2;have:=hF.ah;rw [hdN] at this;cases this;exact hF.k
  ·cases hx
 have hT:∀ v∈l,∀ x,C0 S root o v=some x->(Tx S root x).length<=50 * v.wt:=fun v hv x hx=>by
  obtain ⟨g1,g2,g3,g4⟩:=hV v hv x hx;have:=Mz hP.ok hdN g2 (rm hP.ok g3) g4;rw [Tx,hd];simp only;omega
 have hE:∀ v∈l,EvP prog 18 [.pt PC 0,.v (.int .i64 (o:Nat)),.agg (aZ v)] (FK (C0 S root o v)):=fun v hv=>FL hP ej hR hRr CF root oS o v (by have:=(uJ v hv).1;omega) (uJ v hv).2;have Na:=yr ask
 have hA:∀ v∈l,∀ x,C0 S root o v=some x->EvP prog 184 [.pt PC 0,.v (.int .i64 (o:Nat)),.agg (aZ x),.sl 8 (dR ask) none] (.v (.int .i64 (Ax S root o ask x))):=fun v hv x hx=>by
  obtain ⟨g1,g2,g3,g4⟩:=hV v hv x hx;have:=(uJ v hv).1;exact I4 PC o x ask (by omega) _ fun c hc=>Gk hP ej hR hRr CF root oS I8 o c (Q0 (by have:=yq hc;omega)) x (by omega) g2
 have hL:∀ v∈l,∀ x,C0 S root o v=some x->∀ n:Nat,n<=4000000->EvP prog 80 [.pt PC 0,.v (.int .i64 (o:Nat)),.v (.int .i64 n),.agg (aZ x)] (.tup [.v (.string (ba (Mq n (XT S o) (Tx S root x)))),.v (.bool true)]):=fun v hv x hx n hn=>by
  obtain ⟨g1,g2,g3,g4⟩:=hV v hv x hx;have:=(uJ v hv).1;have hcm:=CK hP ej hR hRr CF root oS I8 o x (by omega) g2;rw [g3] at hcm;have hbd:=Gn hP CF root oS d hd x (by omega) g2 o true hcm (fun _=>⟨rm hP.ok g3,g4⟩);rw [ap rfl] at hbd;have hTT:Tx S root x=AQ (aS S) d x root:=by rw [Tx,hd]
  rw [<- hTT] at hbd;rw [Ci];exact y4 ej hR o x _ (by have:=hT v hv x hx;omega) hbd w.s o rfl (ke UU) (by omega) n (by omega) (by omega)
 have hb:(lgx S root o ask (l.map (C0 S root o))).length<=140737488355328:=by
  have:=Gv (g:=logG (Ax S root o ask) (XT S o) (Tx S root)) (SF:=C0 S root o) l 0 fun v hv i hi=>by
   cases hs:C0 S root o v with
   | none=>simp [logG]
   | some x=>
    rw [logG];split
    ·have h1:=hT v hv x hs;have h2:=vZ (z:=(i:Int)) (by omega) (by omega);have h3:=cE (XT S o);rw [Ci] at h3 ⊢;simp only [Mq,List.length_append,List.length_cons,List.length_nil];omega
    ·simp
  unfold lgx;omega
 exact ⟨CR ask l (C0 S root o) (Ax S root o ask) o ho (XT S o) (Tx S root) hE hA hL hb ej hR (by omega),tZ PC o ask l (by omega) (C0 S root o) (Ax S root o ask) hE hA fun x=>allQ_3 ask 1 (.inl rfl)⟩
theorem ry {n:Nat} {af:List ByteArray} {f:Nat->Nat->Bool} {PC LC:List DV} (ej:EvP prog 72 [.pt PC 0] (.pt LC 0)) (hR:pA n f af LC) (ask:List jf) (l:List Val) (o:Int) (ho:¬ (0<=o/\o < n)) :
  EvP prog 40 [.pt PC 0,.v (.int .i64 o),.sl 8 (dR ask) none,.sl 4 (dVals l) none] (.tup [.v (.string (ba [])),.v (.bool false)]):=by
 have hlen:=hR.len;refine lX (s:=false) (bt:=[(2,160)]) (hbt:=fun p hp=>Nat.zero_le _) (P:=prog) tt fo 5000 27 [.tmp 8,.tmp 9] func40 rfl ntmps40 rfl (nL rfl) (fun _ _ _ _=>?_);refine dI ?_;refine br ?_ ?_<;>intro g
 ·refine cD Bi ej ?_;refine cD DL hlen ?_;refine br ?_ ?_<;>intro c
  ·exact ⟨_,ax,rfl⟩
  ·exfalso;have g:¬ o < 0:=sU g;simp [aq] at c;omega
 ·exact ⟨_,ax,rfl⟩
theorem KL {L:Nat} {ND:List Nd} (bI:∀ n∈ND,dt L ND.length n) {f:Nat->Nat->Bool} {n rt:Nat} {o:Int} {x y:Val} (h:Yp ND f n rt o x y=true):(0<=o/\o < n)/\tO ND f n rt o x=tO ND f n rt o y:=by
 unfold Yp at h;simp only [aP,decide_eq_true_eq] at h;obtain ⟨⟨⟨h1,h2⟩,h3⟩,h4⟩:=h;refine ⟨h1,?_⟩;unfold tO;rw [ap ⟨h1.1,h1.2,h2⟩,ap ⟨h1.1,h1.2,h3⟩];rw [<- P5 bI h2 h3] at h4;rw [jP.1 h4]
theorem Gw {S:Sch} (hS:S.wt<=1099511627776) (yW:Lh S) (h0:xW S) {PC:List DV} (hP:eT S (aS S) PC) (o:Int) (ask:List jf) (UJ:cndW ask<=1099511627776) (l l2:List Val) (hlw:ch l<=134217728) (eM:rngWs l) (XU:ch l2<=134217728) (LD:rngWs l2) :
  ∃ AK:Val->Val->Bool,(∀ x∈l,∀ y∈l2,EvP prog 21 [.pt PC 0,.v (.int .i64 o),.agg (aZ x),.agg (aZ y)] (.v (.bool (AK x y)))) /\
   (l2.length=l.length->(∀ (e:Nat) (x y:Val),l[e]? = some x->l2[e]? = some y->AK x y=true)->∃ (T:List UInt8) (ok:Bool) (a b c:Nat),
    EvP prog 40 [.pt PC 0,.v (.int .i64 o),.sl 8 (dR ask) none,.sl 4 (dVals l) none] (.tup [.v (.string (ba T)),.v (.bool ok)])/\EvP prog 40 [.pt PC 0,.v (.int .i64 o),.sl 8 (dR ask) none,.sl 4 (dVals l2) none] (.tup [.v (.string (ba T)),.v (.bool ok)]) /\
    EvP prog 41 [.pt PC 0,.v (.int .i64 o),.sl 8 (dR ask) none,.sl 4 (dVals l) none] (.agg (c3 a b c))/\EvP prog 41 [.pt PC 0,.v (.int .i64 o),.sl 8 (dR ask) none,.sl 4 (dVals l2) none] (.agg (c3 a b c))):=by
 have hRr:=fun n (hn:n∈aS S)=>xV yW hn;have CF:∀ n∈aS S,n.aw.length<=1099511627776:=fun n hn=>(lr hn hS).2;obtain ⟨root,oS,I8⟩:=@H7 S (qU h0.yA);obtain ⟨LC,ej,hR⟩:=hP.S3;refine ⟨fun x y=>Yp (aS S) (aK S) S.ae.length root o x y,fun x hx y hy=>Gi hP ej hR hRr CF root oS I8 o x y (by have:=du hx;omega) (by have:=du hy;omega) (di eM hx) (di LD hy),fun hl ac8=>?_⟩;by_cases ho:0<=o/\o < S.ae.length
 ·obtain ⟨ob,rfl⟩:∃ n:Nat,o=n:=⟨o.toNat,by omega⟩;obtain ⟨k1,k2⟩:=pM hS yW hP root oS I8 ob (by omega) ask UJ l hlw eM;obtain ⟨k3,k4⟩:=pM hS yW hP root oS I8 ob (by omega) ask UJ l2 XU LD
  have he:l2.map (C0 S root ob)=l.map (C0 S root ob):=by
   apply List.ext_getElem?;intro e;rw [List.getElem?_map,List.getElem?_map];by_cases au:e < l.length
   ·obtain ⟨x,hx⟩:=gX au;obtain ⟨y,hy⟩:∃ y,l2[e]? = some y:=⟨_,gE (by omega)⟩;rw [hx,hy];exact congrArg some (KL hP.ok (ac8 e x y hx hy)).2.symm
   ·rw [kT (by omega),kT (by omega)]
  rw [he] at k3 k4;exact ⟨_,_,_,_,_,k1,k3,k2,k4⟩
 ·have Fj:l=[]:=by
   cases l with
   | nil=>rfl
   | cons x r=>
    exfalso;obtain ⟨y,hy⟩:∃ y,l2[0]? = some y:=⟨_,gE (by rw [hl,List.length_cons];omega)⟩;exact ho (KL hP.ok (ac8 0 x y rfl hy)).1
  subst Fj;have ac9:l2=[]:=List.eq_nil_of_length_eq_zero hl;subst ac9;have hc:=tZ PC o ask [] (by simp) (fun _=>none) (fun _=>0) (fun v hv=>by cases hv) (fun v hv=>by cases hv) (fun _=>.inl rfl);exact ⟨[],false,_,_,_,ry ej hR ask [] o ho,ry ej hR ask [] o ho,hc,hc⟩
def CT:Sch:=⟨[⟨⟨#[97]⟩,0⟩],[],[],.mk ⟨2,0,0,99,0,[],⟨av,0⟩⟩ .nil⟩
def Vy:List jf:=[⟨[],3,.mk 2 0 4 av [] []⟩]
def Q5:List Val:=[.mk 2 3 av [],.mk 2 17 av [],.mk 2 5 av []]
theorem MA:(kP CT).1=0:=by decide +kernel
theorem MB:cr CT=(0:Nat):=by decide +kernel
theorem Q6:0 < (aS CT).length:=by decide +kernel
theorem Q7:lgx CT 0 0 Vy (Q5.map (C0 CT 0 0))=[49,32,97,58,32,49,55,10,50,32,97,58,32,53,10]:=by decide +kernel
theorem hY:EvP prog 39 [] (.v (.bool true)):=by
 have D0:CT.wt<=1099511627776:=by decide +kernel
 have hb:=(wV CT D0).mono (Ψ:=fun r _ _=>H8 CT r) fun _ _ _ h=>Ak D0 h;refine eG 32 [.tmp 0] func39 rfl ntmps39 rfl fun _ _ _ _=>?_;refine bS Y8 rfl hb ax (fun r hr=>?_);rcases hr with ⟨hr,_⟩ | ⟨_,PC,hP,rfl⟩
 ·exact (hr MA).elim
 obtain ⟨hk,_⟩:=pM D0 (by simp [CT,Lh,rngT,rngP,mH]) hP 0 MB Q6 0 (by decide) Vy (by decide +kernel) Q5 (by decide +kernel) (by simp [Q5,rngW,rngWs,mH]);rw [Q7] at hk;refine cP Wg hk ?_;exact (rfl:_=_)
abbrev shSt (SS FF:List DV) (o:Int) (ask:List jf) (l l2:List Val) (PC:List DV) (e:Nat):St:=
 ⟨[bh 2 4 (dVals l2),aE 3 0,aE 4 1,mQ 7 PC,ay 9 e],[SS,Mw o ask l,FF],[]⟩
set_option maxHeartbeats 2000000 in
theorem hides41_law (S:Sch) (hS:S.wt<=1099511627776) (yW:Lh S) (o:Int) (ask:List jf) (l:List Val) (UJ:cndW ask<=1099511627776) (hlw:ch l<=134217728) (eM:rngWs l) (l2:List Val) (XU:ch l2<=134217728) (LD:rngWs l2) :
  EvP prog 7 [.agg (eH S),.agg (Mw o ask l),.sl 4 (dVals l2) none] (.v (.bool true)):=by
 have JP:=ub S hS o ask UJ l (by omega);have yG:=ub S hS 0 [] (by simp [cndW]) l2 (by omega);have hb:=(wV S hS).mono (Ψ:=fun r _ _=>H8 S r) fun _ _ _ h=>Ak hS h;have key:=fun h0 PC (hP:eT S (aS S) PC)=>Gw hS yW h0 hP o ask UJ l l2 hlw eM XU LD;have de:=bl l;have XV:=bl l2;have BR:=cG l2;obtain ⟨ae,order,types,⟨rh,rp⟩⟩:=S;refine eG 110 [.tmp 6] func7 rfl ntmps7 rfl fun _ _ _ _=>?_;refine bS Y9 rfl JP ax (fun r hr=>?_);obtain ⟨b,rfl,h0⟩:=hr
 cases b with
 | false=>
  refine cP NE hY ?_;exact (rfl:_=_)
 | true=>
 have h0:=h0 rfl;refine bS Y9 rfl yG ax (fun r hr=>?_);obtain ⟨b,rfl,_⟩:=hr
 cases b with
 | false=>
  refine cP NE hY ?_;exact (rfl:_=_)
 | true=>
 refine br ?_ ?_<;>intro g
 ·refine cP NE hY ?_;exact (rfl:_=_)
 have hlen:l2.length=l.length:=by
  have g2:((l2.length:Nat):Int)=l.length:=by simpa [aq,de,XV] using g
  omega
 refine bS Y8 rfl hb ax (fun r hr=>?_);rcases hr with ⟨hr,_⟩ | ⟨_,PC,hP,rfl⟩
 ·exact (hr h0.yA).elim
 obtain ⟨AK,hA,hK⟩:=key h0 PC hP;clear key;refine lI (fun j st=>∃ e:Nat,st=shSt (eH ⟨ae,order,types,.mk rh rp⟩) [.v (.int .i64 0),.v (.int .i64 0)] o ask l l2 PC e/\e<=l2.length/\(∀ (i:Nat) (x y:Val),i < e->l[i]? = some x->l2[i]? = some y->AK x y=true)/\j=l2.length - e) ⟨0,rfl,by omega,by omega,rfl⟩ (dj 3 pP kj) ?_;rintro _ st ⟨e,rfl,he,jA,rfl⟩;refine br ?_ ?_<;>intro nD
 ·have au:e < l2.length:=sV XV nD;obtain ⟨x,hx⟩:∃ x,l[e]? = some x:=⟨_,gE (by omega)⟩;obtain ⟨y,hy⟩:=gX au;have ha:=hA x (mG hx) y (mG hy)
  have mF:AK x y=true->∀ (i:Nat) (x y:Val),i < e + 1->l[i]? = some x->l2[i]? = some y->AK x y=true:=fun h i x' y' hi yu fG=>by
   rcases kE hi with hi | rfl
   ·exact jA i x' y' hi yu fG
   ·rw [hx] at yu;rw [hy] at fG;cases yu;cases fG;exact h
  generalize AK x y=ak at ha mF;have Df:=cp hx;have hyg:=cp hy;obtain ⟨xk,xn,xs,xl⟩:=x;obtain ⟨yk,yn,ys,yl⟩:=y;refine dI ?_;refine ⟨_,⟨by omega,Df⟩,?_⟩;refine ⟨_,⟨by omega,hyg⟩,?_⟩;refine cD en21 ha ?_
  cases ak with
  | false=>
   refine cP NE hY ?_;exact (rfl:_=_)
  | true=>exact rE ⟨_,by omega,e + 1,rfl,by omega,mF rfl,rfl⟩ (dj 3 (kH (aN au (by omega))) (cY (aN au (by omega))))
 ·have hge:e=l2.length:=by
   have h2:=nD;simp [XV] at h2;omega
  subst hge;obtain ⟨T,ok,a,b,c,k1,k2,k3,k4⟩:=hK hlen fun i x y hx hy=>jA i x y (gS hy).1 hx hy;have hc:=fun x y=>XS x y a b c;cases ok
  all_goals
   refine cP Wg k1 ?_;refine cP Wg k2 ?_;refine dI ?_;refine br (fun g=>?_) (fun g=>absurd g (by simp [pickB]));refine cD Za k3 ?_;refine cD Za k4 ?_;refine ⟨true,hc _ _,?_⟩;refine cD NE hY ?_;exact (rfl:_=_)
end Go.Proofs.YtgjagnmeonoehaaGreat
