/- Part 8 of the proof: The example's text of conditions is read; The example of the chapter on conditions. No condition. -/
import Derived.Test.YtphonmiflfhdbaaGreatMx4
import Derived.Test.YtphonmiflfhdbaaGreatMx6
import Derived.Test.YtphonmiflfhdbaaGreatMx7
set_option linter.all false
set_option maxRecDepth 100000
namespace Go.Proofs.YtphonmiflfhdbaaGreat
open Go Go.RowKit Dv Go.Proofs.Tryz
abbrev ng:ByteArray:=⟨#[46,110,32,60,32,49,48,32,38,32,46,110,32,60,32,53]⟩
theorem Ve:EvP prog 166 [.v (.string ng),.v (.int .i64 (5:Nat))] (.tup [.v (.int .i64 10),.v (.int .i64 (7:Nat)),Ft.d (0,0)]):=by
 have h:=D0 ng (by decide) 5 (by decide) 49 (by decide +kernel) (by decide) (fun h=>absurd h (by decide)) (by decide +kernel);rw [show fM ((ng.data.toList.drop 5).take (digN (ng.data.toList.drop 5)))=10 by decide +kernel,show 5 + digN (ng.data.toList.drop 5)=7 by decide +kernel] at h;exact h
theorem Vf:EvP prog 166 [.v (.string ng),.v (.int .i64 (15:Nat))] (.tup [.v (.int .i64 5),.v (.int .i64 (16:Nat)),Ft.d (0,0)]):=by
 have h:=D0 ng (by decide) 15 (by decide) 53 (by decide +kernel) (by decide) (fun h=>absurd h (by decide)) (by decide +kernel);rw [show fM ((ng.data.toList.drop 15).take (digN (ng.data.toList.drop 15)))=5 by decide +kernel,show 15 + digN (ng.data.toList.drop 15)=16 by decide +kernel] at h;exact h
theorem Vg:Ev prog 58 [.loc 1 0] [nJ,n9 ng 0] [] (fun r os tk=>r = .agg (eL ⟨[si],2,.mk 2 0 10 aq [] []⟩)/\os=[nJ,n9 ng 7]/\tk=[]):=
 D4 ng 0 10 7 (D1 ng (by decide) 0 (by decide) (by decide +kernel) (by decide +kernel) (by decide +kernel) (by decide +kernel))
  (kU ng D2 2 (by decide) (by decide) 0 (by decide +kernel)) (kU ng QT 3 (by decide) (by decide) 1 (by decide +kernel)) (kU ng D2 4 (by decide) (by decide) 0 (by decide +kernel))
  (Ic ng (by decide) 5 (by decide) (by decide +kernel) 10 7 Ve)
theorem Vh:Ev prog 58 [.loc 1 0] [nJ,n9 ng 10] [] (fun r os tk=>r = .agg (eL ⟨[si],2,.mk 2 0 5 aq [] []⟩)/\os=[nJ,n9 ng 16]/\tk=[]):=
 D4 ng 10 5 16 (D1 ng (by decide) 10 (by decide) (by decide +kernel) (by decide +kernel) (by decide +kernel) (by decide +kernel))
  (kU ng D2 12 (by decide) (by decide) 0 (by decide +kernel)) (kU ng QT 13 (by decide) (by decide) 1 (by decide +kernel)) (kU ng D2 14 (by decide) (by decide) 0 (by decide +kernel))
  (Ic ng (by decide) 15 (by decide) (by decide +kernel) 5 16 Vf)
theorem aau:EvP prog 59 [.v (.string (ng.extract (7:Int).toNat (ng.size:Int).toNat)),.v (.string ⟨#[32,38,32]⟩)] (.v (.bool true)):=by
 have h:=J4 (ng.extract (7:Int).toNat (ng.size:Int).toNat) ⟨#[32,38,32]⟩ (by decide +kernel);rw [show N5 (ng.extract (7:Int).toNat (ng.size:Int).toNat) ⟨#[32,38,32]⟩=true by decide +kernel] at h;exact h
abbrev J7 (l:List fU) (q aE:Nat) (m:Bool):St:=⟨[(0,⟨[],.v (.string ng)⟩),aD 3 0,(4,⟨[],.sl 8 (fL l) (some 0)⟩),aD 5 1,uF 6 m],[nJ,n9 ng aE],[⟨q,60,8,none⟩]⟩
theorem GF:EvP prog 24 [.v (.string ng)] (.tup [.sl 8 (fL [iO 10,iO 5]) none,Ft.d (0,0)]):=by
 have ha:=Vg;have hb:=Vh;have hp:=aau;refine eG 81 [.tmp 2,.cell 3 44] func24 rfl ntmps24 rfl fun _ _ _ _=>?_;refine aP (fun j st=>(st=J7 [] 0 0 true/\j=2)∨(st=J7 [iO 10] 1 10 true/\j=1)∨(st=J7 [iO 10,iO 5] 2 16 false/\j=0)) 2 (J7 [] 0 0 true) (dJ 2 ⟨0,60,8,none⟩ rfl rfl rfl kZ rfl rfl gR) (.inl ⟨rfl,rfl⟩) ?_;rintro j st (⟨rfl,rfl⟩ | ⟨rfl,rfl⟩ | ⟨rfl,rfl⟩)
 ·refine dr 2 0 WO rfl rfl rfl gp gp ha (fun r iR cI hΦ _ _=>?_);obtain ⟨rfl,rfl,rfl⟩:=hΦ;refine ⟨rfl,⟨by simp [maxLen,fL],by simp [fL]⟩,?_⟩;refine ⟨⟨by decide,by decide,by decide⟩,?_⟩;refine cP en59 hp ?_;exact ⟨J7 [iO 10] 1 10 true,(wkB 2 kZ gR),1,by omega,.inr (.inl ⟨rfl,rfl⟩)⟩
 ·refine dr 2 0 WO rfl rfl rfl gp gp hb (fun r iR cI hΦ _ _=>?_);obtain ⟨rfl,rfl,rfl⟩:=hΦ;refine ⟨rfl,⟨by simp [maxLen,fL],by simp [fL]⟩,?_⟩;exact ⟨J7 [iO 10,iO 5] 2 16 false,(wkB 2 kZ gR),0,by omega,.inr (.inr ⟨rfl,rfl⟩)⟩
 ·refine dS ?_;exact ⟨_,ax,rfl⟩
theorem xA:EvP prog 23 [] (.agg (eB iN)):=by
 refine eG 23 [.cell 0 31] func23 rfl ntmps23 rfl fun _ _ _ _=>?_;exact ⟨_,(by repeat' (first | exact rfl | exact trivial | exact Or.inr (Or.inl ⟨_,rfl⟩) | exact Or.inr ⟨_,rfl⟩ | exact Or.inl ⟨rfl,rfl⟩ | exact Or.inl rfl | refine Or.inr ⟨_,_,rfl,Nat.zero_le _,rfl,?_⟩ | refine ⟨_,_,rfl,?_,?_⟩ | refine ⟨_,rfl,?_⟩ | exact exact .inr (.inl ⟨none,rfl⟩) | refine Or.inr (Or.inr (Or.inr ⟨_,_,rfl,?_⟩)) | exact Or.inl rfl | refine Or.inr ?_)),rfl⟩
theorem lives40_spec:EvP prog 7 [] (.v (.bool true)):=by
 have Cb:iN.wt<=1099511627776:=by decide +kernel
 have hb:=(vK iN Cb).mono (Ψ:=fun r _ _=>FW iN r) fun _ _ _ h=>zc Cb h;have hex:=xA;have hpa:=GF;refine eG 60 [.tmp 0] func7 rfl ntmps7 rfl fun _ _ _ _=>?_;refine cP en23 hex ?_;refine bG en8 rfl hb ax (fun r hr=>?_);rcases hr with ⟨hr,_⟩ | ⟨_,PC,hP,rfl⟩
 ·exact (hr J5).elim
 obtain ⟨LC,lQ,hR⟩:=hP.Qq;have aav:∀ n∈aR iN,qw n:=fun n hn=>wS (S:=iN) (by simp [iN,Ps,rngT,rngP,o7]) hn;have bL:∀ n∈aR iN,n.aw.length<=1099511627776:=fun n hn=>(kN hn Cb).2;have her:=DH hP lQ hR aav bL 0 zD 0 Ie (by decide +kernel) (by simp [Ie,rngW,rngWs,o7]);rw [show DG (aR iN) (aV iN) iN.ae.length 0 0 Ie=some s9 from J6] at her
 have bF:∀ n:Int,H8 (iO n):=fun n=>xy (by
  simp [iO,xg,wtStp]
  decide)
 have he:=fun n=>s7 hP lQ hR aav bL 0 zD N7 0 (iO n) (bF n) s9 (by decide +kernel) (by simp [s9,rngW,rngWs,o7]);have h1:=he 10;have h2:=he 5
 have hA:=xe PC 0 s9 [iO 10,iO 5] (by decide) _ (fun c hc=>by
  rcases cr hc with rfl | hc
  ·exact he 10
  ·rcases cr hc with rfl | hc
   ·exact he 5
   ·cases hc)
 rw [N8] at hA;rw [QR] at h1;rw [QS] at h2;refine cP en14 her ?_;refine cP en24 hpa ?_;refine dI ?_;refine ⟨_,Uq _ _ (0,0) (0,0),?_⟩;refine ⟨_,⟨by decide,rfl⟩,?_⟩;refine cD O6 h1 ?_;refine ⟨_,⟨by decide,rfl⟩,?_⟩;refine cD O6 h2 ?_;refine cD WE hA ?_;exact (rfl:_=_)
end Go.Proofs.YtphonmiflfhdbaaGreat
