/- Part 9 of the proof: The law of checked schemas: the call returns true; The law of checked texts: the call returns true. No condition. -/
import Derived.Test.YtfdedoiiahbnnaaGreatNd5
import Derived.Test.YtfdedoiiahbnnaaGreatNd8
set_option linter.all false
set_option maxRecDepth 100000
namespace Go.Proofs.YtfdedoiiahbnnaaGreat
open Go Go.RowKit Dv Go.Proofs.Tryz
abbrev ah4 (S:Sch) (PC W:List DV) (e:Nat):St:=⟨[vC 0 PC,aJ 5 1,aC 6 e],[dt S,W],[]⟩
abbrev acR (S:Sch) (PC W:List DV) (n:Nd) (e k:Nat):St:=⟨[vC 0 PC,aJ 5 1,aC 6 e,aJ 7 2,aJ 9 3,aC 10 k],[dt S,W,GG n,GG n],[]⟩
theorem JE {S:Sch} {PC:List DV} (hS:S.wt<=1099511627776) (h0:(jf S).1=0) (hP:nK S (aV S) PC):aR prog 13 [.pt PC 0,.agg (dt S)] (.v (.bool true)):=by
 have sZ:=uy S hS h0;have h1:=hP.len;have h2:=hP.root;have h5:=hP.aj;have ah5:=hP.esz;have hnn:=hP.nl;obtain ⟨ae,order,types,⟨rh,rp⟩⟩:=S;generalize aV ⟨ae,order,types,.mk rh rp⟩=ND at sZ h1 h5 ah5 hnn;generalize kF ⟨ae,order,types,.mk rh rp⟩=rt at sZ h2;generalize fC (Sch.mk ae order types (.mk rh rp)).ae.length (dL (aF (Sch.mk ae order types (.mk rh rp)).ae) (Sch.mk ae order types (.mk rh rp)).order)=f at sZ;refine eG 87 [.tmp 4] func13 rfl ntmps13 rfl fun _ _ _ _=>?_;refine cP ad8 sZ ?_;refine dI ?_;refine cD RL h1 ?_;refine br (fun _=>?_) (fun g=>absurd g (by simp [fL]));refine cD en23 h2 ?_;refine br (fun g=>absurd g (by simp [ak,fL])) (fun _=>?_);refine lJ (fun e=>ah4 ⟨ae,order,types,.mk rh rp⟩ PC (wC ⟨ae,order,types,.mk rh rp⟩ f (.sl 7 (cE ND) none) rt) e) ND.length (wkM wB) ?_;intro e he;refine br ?_ ?_<;>intro hL
 ·have az:e < ND.length:=by have:=hL;simp [fL] at this;exact this
  obtain ⟨n,hn⟩:=gX az;have hz2:=ah5 n (mG hn);have Gz:=eJ n.bK;have h6:=h5 e n hn;refine cP Wp h6 ?_;refine iX (j8 hn) ?_;refine br (fun g=>absurd g (by simp [ak])) (fun _=>?_);refine lJ (fun k=>acR ⟨ae,order,types,.mk rh rp⟩ PC (wC ⟨ae,order,types,.mk rh rp⟩ f (.sl 7 (cE ND) none) rt) n e k) n.bK.length (wkM wB) ?_;intro k hk;refine br ?_ ?_<;>intro n7
  ·have il:k < n.bK.length:=by have:=n7;simp [Gz] at this;exact this
   obtain ⟨x,hx⟩:∃ x,n.bK[k]? = some x:=⟨_,gE il⟩;refine dI ?_;refine ⟨PB x,⟨by omega,j9 hx⟩,PB x,⟨by omega,j9 hx⟩,_,abQ _ _ x,?_⟩;exact rE ⟨_,by omega,k + 1,rfl,by omega,rfl⟩ (wkM (wB1 (nxt il (by omega))))
  ·exact rE ⟨_,by omega,e + 1,rfl,by omega,rfl⟩ (wkM (wB1 (nxt az (by omega))))
 ·exact (rfl:_=_)
def Vr (S:Sch) (f:Ft):Int × Ft:=if f.1=0 then Mn S else (1,f)
def Vs (S:Sch) (f:Ft) (r:DV):Prop:=∃ p:DV,r = .bo [p,.v (.int .i64 (Vr S f).1),(Vr S f).2.d]/\(((Vr S f).1≠0/\p = .v (.pointer none))∨((Vr S f).1=0/\∃ PC,nK S (aV S) PC/\p = .pt PC 0))
theorem Mq {s:ByteArray} {S:Sch} {f:Ft} (hp:aR prog 35 [.v (.string s)] (.bo [.agg (dt S),Ft.d f])) (hS:S.wt<=1099511627776):Ev prog 11 [.v (.string s)] [] [] (fun r _ _=>Vs S f r):=by
 have ho:=qD S hS;unfold OfΦ at ho;unfold Vs Vr;obtain ⟨f1,f2⟩:=f;generalize Mn S=ST at ho ⊢;obtain ⟨sn,sf⟩:=ST;simp only at ho ⊢;obtain ⟨ae,order,types,⟨rh,rp⟩⟩:=S;by_cases h0:f1=0
 ·rw [zIfP h0];refine eG 21 [.tmp 2,.tmp 3,.cell 4 26] func11 rfl ntmps11 rfl fun _ _ _ _=>?_;refine cP Wo hp ?_;refine br (fun g=>absurd h0 (sU g)) (fun _=>?_);refine bZ ad7 rfl ho ax (fun r hr=>?_);obtain ⟨p,rfl,Wf⟩:=hr;rcases Wf with ⟨bF,rfl⟩ | ⟨h1,PC,hP,rfl⟩
  ·exact ⟨.bo [.v (.pointer none),.v (.int .i64 sn),sf.d],ax,_,rfl,.inl ⟨bF,rfl⟩⟩
  ·exact ⟨.bo [.pt PC 0,.v (.int .i64 sn),sf.d],ax,_,rfl,.inr ⟨h1,PC,hP,rfl⟩⟩
 ·rw [af h0];refine eG 21 [.tmp 2,.tmp 3,.cell 4 26] func11 rfl ntmps11 rfl fun _ _ _ _=>?_;refine cP Wo hp ?_;refine br (fun _=>?_) (fun g=>absurd (sU g) h0);refine dS ?_;exact ⟨.bo [.v (.pointer none),.v (.int .i64 1),Ft.d (f1,f2)],ax,_,rfl,.inl ⟨by show (1:Int)≠0;decide,rfl⟩⟩
theorem JF {s:ByteArray} {S:Sch} {f:Ft} (hp:aR prog 37 [.v (.string s)] (.bo [.agg (dt S),Ft.d f])) (hS:S.wt<=1099511627776):aR prog 12 [.v (.string s)] (.bo [.agg (dt S),.v (.int .i64 (Vr S f).1),(Vr S f).2.d]):=by
 have hw:=Cn S hS;unfold Vr;obtain ⟨f1,f2⟩:=f;generalize Mn S=ST at hw ⊢;obtain ⟨sn,sf1,sf2⟩:=ST;simp only at hw ⊢;obtain ⟨ae,order,types,⟨rh,rp⟩⟩:=S;by_cases h0:f1=0
 ·rw [zIfP h0];refine eG 26 [.cell 2 38,.tmp 3,.cell 4 26] func12 rfl ntmps12 rfl fun _ _ _ _=>?_;refine cP ad9 hp ?_;refine br (fun g=>absurd h0 (sU g)) (fun _=>?_);refine cP en16 hw ?_;refine aE [0,1] (fun _=>false) mo (by decide +kernel) ?_;exact ⟨_,ax,rfl⟩
 ·rw [af h0];refine eG 26 [.cell 2 38,.tmp 3,.cell 4 26] func12 rfl ntmps12 rfl fun _ _ _ _=>?_;refine cP ad9 hp ?_;refine br (fun _=>?_) (fun g=>absurd (sU g) h0);refine aE [0,1] (fun _=>false) mo (by decide +kernel) ?_;exact ⟨_,ax,rfl⟩
theorem texts21_law (s:ByteArray):aR prog 3 [.v (.string s)] (.v (.bool true)):=by
 have JQ:=Gu;obtain ⟨S,f,h1,h2,hS⟩:=Ml s;have ho:=Mq h1 (by omega);have PI:=JF h2 (by omega);have hsm:=fun h0 PC=>JE (S:=S) (PC:=PC) (by omega) h0
 have zm:(Vr S f).1=0->(jf S).1=0:=fun h=>by
  unfold Vr at h;split at h
  ·unfold Mn at h;by_cases h0:(jf S).1=0
   ·exact h0
   ·rw [af h0] at h;exact absurd h (by simp)
  ·exact absurd h (by simp)
 unfold Vs at ho;generalize Vr S f=ST at ho PI zm;obtain ⟨sn,sf⟩:=ST;simp only at ho PI zm;obtain ⟨ae,order,types,⟨rh,rp⟩⟩:=S;refine eG 52 [.tmp 2] func3 rfl ntmps3 rfl fun _ _ _ _=>?_;refine br ?_ ?_<;>intro _
 ·refine cP aaP JQ ?_;exact (rfl:_=_)
 refine bZ aaQ rfl ho ax (fun r hr=>?_);obtain ⟨p,rfl,hp⟩:=hr;refine cP en12 PI ?_;rcases hp with ⟨bF,rfl⟩ | ⟨h0,PC,hP,rfl⟩
 ·refine br (fun _=>?_) (fun g=>absurd g (by simp));refine ⟨_,TP _ _ sf sf,?_⟩;refine br (fun _=>?_) (fun g=>absurd g (by simp [pickB,lastG,bF]));refine br (fun g=>absurd g (by simp [bF])) (fun _=>?_);refine cP aaP JQ ?_;exact (rfl:_=_)
 ·obtain rfl:sn=0:=h0;have hsm:=hsm (zm rfl) PC hP;refine ⟨_,TP _ _ sf sf,?_⟩;refine br (fun _=>?_) (fun g=>absurd g (by simp [pickB,lastG]));refine cP en13 hsm ?_;refine cP aaP JQ ?_;exact (rfl:_=_)
end Go.Proofs.YtfdedoiiahbnnaaGreat
