/- Part 8 of the proof: Lines of a log: the law of Each. No condition. -/
import Derived.Test.YtgjagnmeonoehaaGreatMt6
import Derived.Test.YtgjagnmeonoehaaGreatMt7
set_option linter.all false
set_option maxRecDepth 100000
namespace Go.Proofs.YtgjagnmeonoehaaGreat
open Go Go.RowKit Dv Go.Proofs.Tryz
theorem K6 {L:Nat} {ND:List Nd} (bu:∀ n∈ND,dB L ND.length n) {rt:Nat} {d:Nd} (hd:cm ND (rt:Int)=some d) {x:Val} (mA:rngW x) (hw:iW ND x (rt:Nat)=true) (hk:x.k=d.ag):(qN ND d x rt).length<=50 * x.wt:=by
 have eN:=ff bu x rt mA hw;unfold qN;by_cases c7:d.ag=7
 ·rw [aj c7];obtain ⟨d',yR,SC⟩:=iC hw;rw [hd] at yR;cases yR
  have xu:shellF d x=true:=by
   rcases SC with h | h | h
   ·omega
   ·omega
   ·exact h.2.2.1
  have hlen:=(shell_67 xu).2.1 c7;have fW:=uz (ND:=ND) c7 hlen x.ks.length (aJ _);rw [List.take_of_length_le (by rw [xS];omega),List.take_of_length_le (aJ _)] at fW;obtain ⟨k,n,s,ks⟩:=x;rw [textV,hd] at eN;simp only [List.length_append,Val.ks,Val.n] at *;omega
 ·rw [ai c7];omega
abbrev aal (S:Sch) (l:List Val) (a0 a1 a2:Int) (e:Nat):St:=
 ⟨[aU 1 4 (dVals l),aw 3 0,aw 5 1,ap 7 e],[eu S,[.v (.int .i64 a0),.v (.int .i64 a1),.v (.int .i64 a2)]],[]⟩
set_option maxHeartbeats 2000000 in
theorem each35_law (S:Sch) (hS:S.wt<=1099511627776) (S0:PT S) (l:List Val) (hlw:cF l<=1099511627776) (gD:rngWs l) (a0 a1 a2:Int) :
  EvP prog 5 [.agg (eu S),.sl 4 (dVals l) none,.agg [.v (.int .i64 a0),.v (.int .i64 a1),.v (.int .i64 a2)]] (.v (.bool true)):=by
 have hf:=EQ S hS;have hb:=(we S hS).mono (Ψ:=fun r _ _=>GK S r) fun _ _ _ h=>zJ hS h;have hw:=fun h=>qq S hS h;have Qz:=@GJ S;have hRr:=fun n (hn:n∈ay S)=>xF S0 hn;have BH:∀ n∈ay S,n.aq.length<=1099511627776:=fun n hn=>(nW hn hS).2;have dc:=aX l;have UG:=av S.ae;have bM:∀ v∈l,EvP prog 25 [.agg (dVal v)] (.v (.int .i64 (wN v))):=fun v hv=>ER v (Nat.le_trans (cJ hv) hlw)
 have key:xK S->∀ PC,iM S (ay S) PC->l.length<=20->∃ (root:Nat) (W:List (List UInt8)),bz S=root/\W.length<=20 /\
   ((0<=a0/\a0 < S.ae.length)/\0<=a1/\a1<=2147483647->EvP prog 26 [.agg (wL S.ae (aS S) (ay S) (root:Nat)),.v (.int .i64 a0),.v (.int .i64 a1),.sl 4 (dVals l) none] (.sl 1 (cO W) none)) /\
   (¬ ((0<=a0/\a0 < S.ae.length)/\0<=a1/\a1<=2147483647)->W=[]) /\
   Ev prog 84 [.fn 29 [] [.loc 6 0,.loc 5 0,.loc 4 0,.loc 1 0],.pt [.v (.int .i64 a1)] 0,.pt [.sl 4 (dVals l) none] 0,.pt [.pt PC 0] 0,.pt [.v (.int .i64 a0)] 0] (Pa S (aS S) (ay S) (root:Nat) a0 a1 a2 W 0) []
    (fun r os _=>r = .tup []/\∃ i,os=Pa S (aS S) (ay S) (root:Nat) a0 a1 a2 W i/\K3 a2 W.length i):=fun h0 PC hP QW=>by
  obtain ⟨root,BT,aam⟩:=Qz (qp h0.Fu);obtain ⟨LC,kS,hR⟩:=hP.ZT;by_cases hV:(0<=a0/\a0 < S.ae.length)/\0<=a1/\a1<=2147483647
  ·obtain ⟨⟨v1,v2⟩,v3,v4⟩:=hV;obtain ⟨ob,rfl⟩:∃ n:Nat,a0=n:=⟨a0.toNat,by omega⟩;obtain ⟨w,Se⟩:∃ w,S.ae[ob]? = some w:=⟨_,gE (by omega)⟩;obtain ⟨d,hd⟩:∃ d,(ay S)[root]? = some d:=⟨_,gE aam⟩
   have S1:cm (ay S) (root:Int)=some d:=by
    unfold cm;rw [ai (by omega),jU,hd]
   have ub:w.s.size<=1099511627776:=Nat.le_trans (K5 hP.fine w.s (mG (jL Se))) (by decide);have x5:∀ v∈l,v.wt<=1099511627776/\rngW v:=fun v hv=>⟨Nat.le_trans (cJ hv) hlw,dO gD hv⟩
   have hE:∀ v∈l,fitV (ay S) v root=true->(eraseV (ay S) (aS S) S.ae.length ob v root (iV (aS S) S.ae.length)).wt<=1099511627776/\rngW (eraseV (ay S) (aS S) S.ae.length ob v root (iV (aS S) S.ae.length))/\yw (ay S) (aS S) S.ae.length root ob (eraseV (ay S) (aS S) S.ae.length ob v root (iV (aS S) S.ae.length))=true/\(eraseV (ay S) (aS S) S.ae.length ob v root (iV (aS S) S.ae.length)).k=d.ag:=fun v hv ES=>by
    obtain ⟨g1,g2⟩:=x5 v hv;refine ⟨Nat.le_trans (zR v root _) g1,xU hP.ok v root _ g2 g1,?_,?_⟩
    ·unfold yw;rw [jU,zV hP.ok v root _ ES,decide_eq_true ⟨by omega,by omega⟩];rfl
    ·rw [(w7 v root _).1];obtain ⟨d',hF⟩:=jk hP.ok ES;have:=hF.ah;rw [S1] at this;cases this;exact hF.k
   have hBd:∀ v∈l,fitV (ay S) v root=true->(qN (ay S) d (eraseV (ay S) (aS S) S.ae.length ob v root (iV (aS S) S.ae.length)) root).length<=140737488355328:=fun v hv ES=>by
    obtain ⟨g1,g2,g3,g4⟩:=hE v hv ES;have:=K6 hP.ok S1 g2 (nC hP.ok g3) g4;omega
   refine ⟨root,linesL (fun v=>fitV (ay S) v root) (fun v=>qN (ay S) d (eraseV (ay S) (aS S) S.ae.length ob v root (iV (aS S) S.ae.length)) root) w.s a1 l,BT,Nat.le_trans (jQ _ _ _ _ _) QW,fun _=>?_,fun h=>(h ⟨⟨v1,v2⟩,v3,v4⟩).elim,?_⟩
   ·refine BW S.ae (aS S) (ay S) root ob a1 v3 v4 l (by omega) _ (fun v=>eraseV (ay S) (aS S) S.ae.length ob v root (iV (aS S) S.ae.length)) _ w.s (fun v hv=>?_) (fun v hv ES=>?_) (fun v hv ES n n1 n2=>?_)
    ·have:=te 2 1 (bq S.ae) (cu (dj S.ae.length (aS S))) (root:Nat) hP.ok v.wt v (aJ _) (x5 v hv).1 (root:Nat);rw [<- N9 hP.ok] at this;exact this
    ·exact EH S.ae (aS S) (ay S) root hR.ok hR.n32 hP.ok BH hRr ob (by omega) v (x5 v hv).1 (x5 v hv).2 ES
    ·obtain ⟨g1,g2,g3,g4⟩:=hE v hv ES;exact EN S.ae (aS S) (ay S) root _ _ (hBd v hv ES) (BV S.ae (aS S) (ay S) root hP.ok BH d hd _ g1 g2 (nC hP.ok g3) g4) ob w Se ub n n1 n2
   ·refine EP S (aS S) (ay S) root ob a1 a2 v3 v4 PC ob l (by omega) _ (fun v=>eraseV (ay S) (aS S) S.ae.length ob v root (iV (aS S) S.ae.length)) _ w.s (fun v hv=>?_) (fun v hv ES n n1 n2=>?_)
    ·have:=tj hP kS hR hRr BH root BT ob v (x5 v hv).1 (x5 v hv).2;unfold EG at this;rw [jU] at this;by_cases ES:fitV (ay S) v root=true
     ·rw [aj ⟨by omega,by omega,ES⟩] at this;rw [aj ES];exact this
     ·rw [ai (fun h=>ES h.2.2)] at this;rw [ai ES];exact this
    ·obtain ⟨g1,g2,g3,g4⟩:=hE v hv ES;have hcm:=qM hP kS hR hRr BH root BT aam ob _ g1 g2;rw [g3] at hcm;have Vd:=tu hP BH root BT d hd _ g1 g2 ob true hcm (fun _=>⟨nC hP.ok g3,g4⟩);rw [aj rfl] at Vd;exact oD kS hR ob _ _ (hBd v hv ES) Vd w.s ob rfl (jL Se) ub n n1 n2
  ·refine ⟨root,[],BT,by simp,fun h=>(hV h).elim,fun _=>rfl,(tA S (aS S) (ay S) root a0 a1 a2 [] (.pt PC 0) _ (.inr ⟨_,rfl⟩) (.inr rfl) a0 l (by omega) (fun h1 v hv=>?_)).mono fun r os tk h=>?_⟩
   ·have:=tj hP kS hR hRr BH root BT a0 v (Nat.le_trans (cJ hv) hlw) (dO gD hv);unfold EG at this;rw [ai (fun h=>hV ⟨⟨h.1,h.2.1⟩,h1⟩)] at this;exact this
   ·exact ⟨h.1,0,h.2,by unfold K3;rw [ai (by simp;omega)];rfl⟩
 have hEn:=Ab (.v (.pointer none)) (.inl rfl) a0 a1 l;have oe:=fun W rt=>tA S (aS S) (ay S) rt a0 a1 a2 W (.v (.pointer none)) _ (.inl rfl) (.inl rfl) a0 l;obtain ⟨ae,order,types,⟨rh,rp⟩⟩:=S;refine eG 121 [.tmp 6] func5 rfl ntmps5 rfl fun _ _ _ _=>?_;refine bp en23 rfl hf ax (fun r hr=>?_);obtain ⟨b,rfl,h0⟩:=hr
 cases b with
 | false=>
  refine cP JN fg ?_;exact (rfl:_=_)
 | true=>
 refine br ?_ ?_<;>intro g
 ·refine cP JN fg ?_;exact (rfl:_=_)
 have QW:l.length<=20:=by
  simp [pickB,dc] at g;omega
 refine lJ (fun e=>aal ⟨ae,order,types,.mk rh rp⟩ l a0 a1 a2 e) l.length (wkB 2 tH jT) ?_;intro e he;refine br ?_ ?_<;>intro qd
 ·have al:e < l.length:=sV dc qd;obtain ⟨v,hv⟩:=gX al;have hs:=bM v (mG hv);generalize wN v=ct at hs;obtain ⟨vk,vn,vs,vl⟩:=v;refine iX (dVals_get hv) ?_;refine cP en25 hs ?_;refine br ?_ ?_<;>intro g
  ·refine cP JN fg ?_;exact (rfl:_=_)
  ·exact rE ⟨_,by omega,e + 1,rfl,by omega,rfl⟩ (wkB 2 (yL (nxt al (by omega))) (wB1 (nxt al (by omega))))
 have hF:=h0 rfl;have h0:=hF.Fu;have hw:=hw h0;refine bp WD rfl hb ax (fun r hr=>?_);rcases hr with ⟨hr,_⟩ | ⟨_,PC,hP,rfl⟩
 ·exact (hr h0).elim
 obtain ⟨root,W,BT,hW20,hA1,VW,hA3⟩:=key hF PC hP QW;have hEp:=Ab (.pt PC 0) (.inr ⟨_,rfl⟩) a0 a1 l;have oe:=oe W root (by omega) (fun _ v hv=>Hx a0 v);have hWl:=ez W;rw [BT] at hw;refine cP WE hw ?_;have dF:(cu (dj ae.length (ee ae.length (cW (au ae) order)))).length=ae.length:=by simp [cu,dj]
 have hA1:(0<=a0/\a0 < ae.length)/\0<=a1/\a1<=2147483647->_:=hA1;have VW:¬ ((0<=a0/\a0 < ae.length)/\0<=a1/\a1<=2147483647)->W=[]:=VW;refine ⟨⟨by decide,by decide⟩,?_⟩;refine br (fun g1=>?a1) (fun g1=>?b1)
 case' a1=>
  refine ⟨⟨by decide,by decide⟩,?_⟩;refine br (fun g2=>?a2) (fun g2=>?b2)
 case' a2=>
  refine ⟨⟨by decide,by decide⟩,?_⟩;refine br (fun g3=>?a3) (fun g3=>?b3)
 case' a3=>
  refine ⟨⟨by decide,by decide⟩,?_⟩;refine br (fun g4=>?a4) (fun g4=>?b4)
 case' a4=>
  have hA1:=hA1 (by simp [pickB,dF] at g1 g2 g3 g4;omega);refine ⟨⟨by decide,by decide⟩,?_⟩;refine ⟨⟨by decide,by decide⟩,?_⟩;refine cP en26 hA1 ?_
 case' b1=>have hW0:W=[]:=VW (by simp [pickB,dF] at g1;omega)
 case' b2=>have hW0:W=[]:=VW (by simp [pickB,dF] at g1 g2;omega)
 case' b3=>have hW0:W=[]:=VW (by simp [pickB,dF] at g1 g2 g3;omega)
 case' b4=>have hW0:W=[]:=VW (by simp [pickB,dF] at g1 g2 g3 g4;omega)
 all_goals
  try subst hW0
  refine ⟨⟨by decide,by decide⟩,?_⟩;refine ⟨⟨by decide,by decide⟩,?_⟩;refine cP WG hEp ?_;refine ⟨⟨by decide,by decide⟩,?_⟩;refine ⟨⟨by decide,by decide⟩,?_⟩;refine cP WG hEn ?_;refine Jr ⟨_,rfl⟩ rfl rfl Tryz.underlying76 rfl ?_;refine Jr ⟨_,rfl⟩ rfl rfl Tryz.underlying76 rfl ?_;refine fK 7 0 WQ rfl rfl rfl iq iq oe (fun r gF bP hΦ h1 h2=>?_);obtain ⟨rfl,rfl⟩:=hΦ;obtain rfl:bP=[]:=List.eq_nil_of_length_eq_zero h2;refine fK 7 0 WQ rfl rfl rfl iq iq hA3 (fun r gF bP hΦ h1 h2=>?_);obtain ⟨rfl,i,rfl,hi⟩:=hΦ;obtain rfl:bP=[]:=List.eq_nil_of_length_eq_zero h2;unfold K3 at hi;refine ⟨⟨by decide,by decide⟩,?_⟩;refine br ?_ ?_<;>intro g
  ·have g:0 < a2:=sU g;refine ⟨⟨by decide,by decide⟩,?_⟩;refine br ?_ ?_<;>intro g2
   ·have g2:a2 < _:=of_decide_eq_true g2;rw [hWl] at g2;rw [aj ⟨g,g2⟩] at hi;refine ⟨⟨by decide,by decide⟩,?_⟩;refine br (fun _=>?_) (fun g3=>?_)
    ·refine cP JN fg ?_;exact (rfl:_=_)
    ·exfalso;simp [pickB] at g3;omega
   ·have g2:¬ a2 < _:=of_decide_eq_false g2;rw [hWl] at g2;rw [ai (fun h=>g2 h.2)] at hi;refine br (fun _=>?_) (fun g3=>?_)
    ·refine cP JN fg ?_;exact (rfl:_=_)
    ·exfalso;simp [pickB,ez] at g3;omega
  ·have g:¬ 0 < a2:=sU g;rw [ai (fun h=>g h.1)] at hi;refine br (fun _=>?_) (fun g3=>?_)
   ·refine cP JN fg ?_;exact (rfl:_=_)
   ·exfalso;simp [pickB,ez] at g3;omega
end Go.Proofs.YtgjagnmeonoehaaGreat
