/- Part 8 of the proof: The document of what is seen of a value: plain, and the program's; The document of what is seen of a value: the document's Doc, Same; the program's Doc; The law of documents: the call returns true; The law of documents: the call returns true. No condition. -/
import Derived.Test.YtfifjddnnmfeoaaGreatMo5
import Derived.Test.YtfifjddnnmfeoaaGreatMo7
set_option linter.all false
set_option maxRecDepth 100000
namespace Go.Proofs.YtfifjddnnmfeoaaGreat
open Go Go.RowKit Dv Tryz
def kC:Val:=.mk 5 0 al [dT [44],.mk 2 0 al []]
def GZ (ind:Int) (o:List UInt8) (kids:List Val) (c:List UInt8):Val:=.mk 7 0 al [dT o,.mk 6 ind al [.mk 3 0 al [],.mk 5 0 al (cX kC 0 kids)],.mk 3 0 al [],dT c]
section
variable (ND:List Nd) (ind:Int)
mutual
def kD:Val->Int->Val
 | .mk k n s ks,i=>match dq ND i with
  | none=>dT []
  | some d=>if ks=[] then dT (cS d (.mk k n s ks) ++ fh (.mk k n s ks)) else GZ ind (cS d (.mk k n s ks)) (kg ks d n 0) (fh (.mk k n s ks))
def kg:List Val->Nd->Int->Nat->List Val
 | [],_,_,_=>[]
 | x :: r,d,z,j=>(match cd d z j with
  | none=>dT []
  | some e=>if d.ag=7 then .mk 5 0 al [dT (tx e.name ++ [58,32]),kD x e.to] else kD x e.to) :: kg r d z (j + 1)
end
end
section
variable {ND:List Nd} {ind:Int}
theorem nV:∀ (l:List Val) (d:Nd) (z:Int) (j:Nat),(kg ND ind l d z j).length=l.length
 | [],_,_,_=>by rw [kg]
 | x :: r,d,z,j=>by rw [kg,List.length_cons,nV r,List.length_cons]
theorem sf:∀ {l:List Val} {d:Nd} {z:Int} {j m:Nat} {x:Val} {e:Ed},l[m]? = some x->cd d z (j + m)=some e->(kg ND ind l d z j)[m]? = some (if d.ag=7 then .mk 5 0 al [dT (tx e.name ++ [58,32]),kD ND ind x e.to] else kD ND ind x e.to)
 | [],_,_,_,_,_,_,h,_=>by simp at h
 | y :: r,d,z,j,m,x,e,h,he=>by
  rw [kg]
  cases m with
  | zero=>
   simp only [List.getElem?_cons_zero,oI] at h ⊢;subst h;rw [Nat.add_zero] at he;rw [he]
  | succ m=>
   rw [List.getElem?_cons_succ] at h ⊢;exact sf h (by rw [show j + 1 + m=j + (m + 1) by omega];exact he)
end
abbrev zD:List DV:=[.v (.int .i64 0),.v (.int .i64 0),.v (.string al),.v (.slice none 0 0)]
abbrev QY (PC:List DV) (ind:Int) (d:Nd) (v:Val) (O Z:List UInt8) (NM:DV) (T:List Int) (D:List Val) (q e:Nat):St:=
 ⟨[(0,⟨[],.pt PC 0⟩),(3,⟨[],.v (.int .i64 ind)⟩),(8,⟨[],.loc 1 0⟩),(11,⟨[],.loc 3 0⟩),(12,⟨[],.sl 1 (nS T) none⟩),(13,⟨[],.sl 4 (dVals D) (some 0)⟩),(47,⟨[],.sl 4 (dVals v.ks) none⟩),(48,⟨[],.v (.int .i64 (dVals v.ks).length)⟩),(49,⟨[],.v (.int .i64 e)⟩)],
  [aU v,zD,jR d,[.v (.string (ba O)),.v (.string (ba Z)),NM]],[⟨q,88,4,none⟩]⟩
theorem ou {S:Sch} {ND:List Nd} {PC:List DV} (hP:ke S ND PC) (ind:Int):∀ (k:Nat) (v:Val),v.wt<=k->v.wt<=1099511627776->rngW v->∀ i:Int,jL ND v i=true ->
  EvP Tryz.prog 86 [.pt PC 0,.v (.int .i64 i),.agg (aU v),.v (.int .i64 ind)] (.agg (aU (kD ND ind v i)))
 | 0,v,h,_=>by have:=v.de;omega
 | k + 1,v,h,hb=>fun hr i hw=>by
  have ih:=ou hP ind k;obtain ⟨d,hd,hc⟩:=la hw;obtain ⟨h0,hg⟩:=cO hd;obtain ⟨j,rfl⟩:∃ j:Nat,i=j:=⟨i.toNat,by omega⟩;have hg:ND[j]? = some d:=by simpa using hg
  have hN:=hP.ok d (mG hg);have mn:=hN.k1;have Er:=hN.k8;have fw:=hP.ai j d hg;have iE:=qA v;obtain ⟨ZH,ja⟩:=qC hN (qI hr) hc;have Zo:v.wt=64 + v.s.size + dJ v.ks:=by obtain ⟨q,z,s,ks⟩:=v;rfl
  have qE:=fun a b=>sR d v (by omega) (qI hr) a b;have kj:=tZ v
  have QZ:v.ks=[]->kD ND ind v j=dT (cS d v ++ fh v):=fun h=>by
   obtain ⟨q,z,s,ks⟩:=v;have h:ks=[]:=h;subst h;rw [kD,hd];rfl
  have SG:v.ks ≠ []->kD ND ind v j=GZ ind (cS d v) (kg ND ind v.ks d v.n 0) (fh v):=fun h=>by
   obtain ⟨q,z,s,ks⟩:=v;have h:ks ≠ []:=h;rw [kD,hd];simp only;rw [if_neg h];rfl
  by_cases c9:v.k < 5∨8 < v.k
  ·have sS:v.ks=[]:=by
    rcases hc with h | h | h
    ·exact h.2.2
    ·exact h.2.2.1
    ·omega
   have h4:v.k=4->0<=v.n/\v.n < d.af.length:=by
    rcases hc with h | h | h
    ·omega
    ·exact h.2.2.2
    ·omega
   have qE:=qE (by omega) h4;have iK:fh v=[]:=DW (by omega) sS;rw [QZ sS,iK,List.append_nil];rw [show (decide (v.k < 5) || decide (8 < v.k))=true by simpa using c9] at iE;generalize cS d v=O at *;clear hc QZ SG;obtain ⟨q,z,s,ks⟩:=v;obtain ⟨ag,aC,lo,hi,most,af,es⟩:=d;refine ev_go (P:=Tryz.prog) tt tt_ok 5000 99 [.cell 8 88] Tryz.func86 rfl Tryz.ntmps86 rfl (nL rfl) (fun E9 w9 hn9 hm9=>?_);refine call_p zU (fw) ax rfl ?_;refine call_p Cb (iE) ax rfl ?_;refine call_p Rp (qE) ax rfl ?_;refine call_p yi (il O) ax rfl ?_;exact ⟨_,ax,rfl⟩
  ·obtain ⟨hk,h5,A7,xj⟩:v.k=d.ag/\5<=d.ag/\shellF d v=true/\gj ND v.ks d v.n 0=true:=by
    rcases hc with h | h | h
    ·omega
    ·omega
    ·exact h
   clear qE
   have Oz:∀ m,m < v.ks.length->∃ e,cd d v.n m=some e/\jL ND (v.ks[m]?.getD v) e.to=true:=fun m hm=>by
    obtain ⟨e,h1,h2⟩:=nf xj (gE hm);rw [Nat.zero_add] at h1;exact ⟨e,h1,by rw [gE hm];exact h2⟩
   have Vy:=zn hN h5 v hb hk (fun m hm=>(Oz m hm).imp fun e h=>h.1) (fun c=>shell_8 A7 c);rw [show (decide (v.k < 5) || decide (8 < v.k))=false by simp;omega] at iE;have VU:d.ag=7->zm d = .sl 1 (jz (xV d d.au.length)) none:=fun c=>by rw [zm,if_pos c]
   have VV:d.ag≠7->zm d = .v (.slice none 0 0):=fun c=>by rw [zm,if_neg c]
   have OA:∀ (n m:Nat) (tk:List TkE),We n m tk (zm d) (zm d):=fun n m tk=>by
    by_cases c:d.ag=7
    ·rw [VU c];exact ah rfl
    ·rw [VV c];exact ah rfl
   have htg:=fun m e h1 h2=>@DX d v v.ks.length m e h1 h2
   have hNg:∀ (m:Nat) (e:Ed),d.ag=7->cd d v.n m=some e->(jz (xV d d.au.length))[m]? = some [.v (.string (ba (tx e.name ++ [58,32])))]:=fun m e c h=>by
    unfold cd at h;rw [if_pos c] at h;simp [jz,xV,h]
   have HF:=nV (ND:=ND) (ind:=ind) v.ks d v.n 0;have hDg:=fun m x e (h1:v.ks[m]? = some x) (h2:cd d v.n m=some e)=>sf (ND:=ND) (ind:=ind) (j:=0) h1 (by rw [Nat.zero_add];exact h2);generalize kg ND ind v.ks d v.n 0=D at *;generalize cS d v=O at *;generalize fh v=Z at *;generalize zm d=NM at *;generalize tosL d v v.ks.length=T at *;generalize xV d d.au.length=M at *;clear hc A7;by_cases sS:v.ks=[]
   ·rw [QZ sS];clear QZ SG hDg;obtain ⟨q,z,s,ks⟩:=v;obtain ⟨ag,aC,lo,hi,most,af,es⟩:=d;have sS:ks=[]:=sS;subst sS;refine ev_go (P:=Tryz.prog) tt tt_ok 5000 99 [.cell 8 88] Tryz.func86 rfl Tryz.ntmps86 rfl (nL rfl) (fun E9 w9 hn9 hm9=>?_);refine call_p zU (fw) ax rfl ?_;refine call_p Cb (iE) ax rfl ?_;refine call_p LF (Vy) ax rfl ?_;refine ⟨by show O.length + Z.length<=_;simp only [Val.s] at ja Zo;omega,?_⟩;have V3:=il (O ++ Z);rw [show ba (O ++ Z)=ba O ++ ba Z from (bU O Z).symm] at V3;refine call_p yi (V3) ax rfl ?_;exact ⟨_,ax,rfl⟩
   ·rw [SG sS];clear QZ SG;obtain ⟨q,z,s,ks⟩:=v;obtain ⟨ag,aC,lo,hi,most,af,es⟩:=d;have cH:=aW ks;have iL:=dC ks;simp only [Val.k,Val.n,Val.s,Val.ks] at *;refine ev_go (P:=Tryz.prog) tt tt_ok 5000 99 [.cell 8 88] Tryz.func86 rfl Tryz.ntmps86 rfl (nL rfl) (fun E9 w9 hn9 hm9=>?_);refine call_p zU (fw) ax rfl ?_;refine call_p Cb (iE) ax rfl ?_;refine call_p LF (Vy) ax rfl ?_;refine br (fun g=>absurd (by simpa [cH] using g) sS) (fun _=>?_);refine aq (fun j st=>∃ e q9:Nat,st=QY PC ind ⟨ag,aC,lo,hi,most,af,es⟩ (.mk q z s ks) O Z NM T (D.take e) q9 e/\q9=e/\e<=ks.length/\j=ks.length - e) ks.length (QY PC ind ⟨ag,aC,lo,hi,most,af,es⟩ (.mk q z s ks) O Z NM T [] 0 0) (dj 4 ⟨0,88,4,none⟩ rfl rfl rfl (by repeat' (first | exact rfl | exact ah rfl | exact OA _ _ _ | exact aX (Nat.le_refl _) rfl | exact aX (Nat.le_refl _) rfl | refine ⟨_,_,rfl,?_,?_⟩)) rfl rfl (by repeat' (first | exact trivial | exact ah rfl | exact OA _ _ _ | exact aX (Nat.le_refl _) rfl | refine ⟨⟨_,rfl,?_⟩,?_⟩))) ⟨0,0,by rw [List.take_zero],rfl,by omega,by omega⟩ ?_;rintro _ st ⟨e,q9,rfl,V4,he,rfl⟩;have V5:(dVals (D.take e)).length=q9:=by rw [aW,List.length_take];omega
    refine br (fun hL=>?_) (fun hL=>?_)
    ·have ap:e < ks.length:=by simpa [cH,Val.ks] using hL
     obtain ⟨ed,l5,IF⟩:=Oz e ap;obtain ⟨x,hx⟩:∃ x,ks[e]? = some x:=⟨_,gE ap⟩;rw [hx] at IF;have R6:=fA (mG hx);have KF:rngW x:=by rw [rngW] at hr;exact ik hr.2.2 (mG hx)
     have jU:=ih x (by omega) (by omega) KF ed.to IF;have O8:=hDg e x ed hx l5;have VW:=htg e ed l5 ap;have A8:=fun c=>hNg e ed c l5;generalize kD ND ind x ed.to=dx at jU O8;obtain ⟨xk,xn,xs,xl⟩:=x;obtain ⟨yk,yn,ys,yl⟩:=dx;refine ⟨_,⟨by omega,bP (by simpa [Val.ks] using hx)⟩,?_⟩;apply Bb (fun _=>false) 8 [0,1,2,3,4,5,6,7] [9] mo (by decide +kernel);·repeat' (first | refine ⟨_,⟨by omega,nT VW⟩,?_⟩ | refine ay WY (jU) ax rfl ?_ | exact Or.inl rfl | exact U9 | refine ⟨?_,?_⟩)
     by_cases c7:ag=7
     ·have A8:=A8 c7;have Kq:=VU c7;subst Kq;rw [if_pos c7] at O8;have eE:=vZ O8;have DZ:=se [dT (tx ed.name ++ [58,32]),.mk yk yn ys yl] (by simp);refine Ov ⟨_,rfl⟩ rfl rfl (by intro h9;rw [h9] at A8;simp at A8) rfl rfl ?_;refine aP mo (by decide +kernel) ?_;refine ⟨_,⟨by omega,A8⟩,?_⟩;refine ay yi (il _) ax rfl ?_;refine ay LG (DZ) ax rfl ?_;refine ⟨by rw [V5],⟨by rw [V5];simp [maxLen];omega,by rw [V5];simp;omega⟩,?_⟩;exact ⟨QY PC ind ⟨ag,aC,lo,hi,most,af,es⟩ (.mk q z s ks) O Z _ T (D.take (e + 1)) (q9 + 1) (e + 1),(az 4 rfl (yc ap eE) rfl rfl rfl (tg ap eE)),ks.length - (e + 1),by omega,e + 1,q9 + 1,rfl,by omega,by omega,rfl⟩
     ·have Kq:=VV c7;subst Kq;rw [if_neg c7] at O8;have eE:=vZ O8;refine Gu ⟨_,rfl⟩ rfl rfl rfl rfl ?_;refine ⟨by rw [V5],⟨by rw [V5];simp [maxLen];omega,by rw [V5];simp;omega⟩,?_⟩;exact ⟨QY PC ind ⟨ag,aC,lo,hi,most,af,es⟩ (.mk q z s ks) O Z _ T (D.take (e + 1)) (q9 + 1) (e + 1),(az 4 rfl (yc ap eE) rfl rfl rfl (tg ap eE)),ks.length - (e + 1),by omega,e + 1,q9 + 1,rfl,by omega,by omega,rfl⟩
    ·have aO:e=ks.length:=by
      have:=hL;simp [cH,Val.ks] at this;omega
     rw [List.take_of_length_le (by omega)];have DZ:=se [dT [44],.mk 2 0 al []] (by simp);have Z4:=GM kC D (by omega);have Z5:=GL ind [.mk 3 0 al [],.mk 5 0 al (cX kC 0 D)] (by simp);have hgrp:=Eb [dT O,.mk 6 ind al [.mk 3 0 al [],.mk 5 0 al (cX kC 0 D)],.mk 3 0 al [],dT Z] (by simp);have BP:GZ ind O D Z = .mk 7 0 al [dT O,.mk 6 ind al [.mk 3 0 al [],.mk 5 0 al (cX kC 0 D)],.mk 3 0 al [],dT Z]:=rfl;rw [BP];refine call_p yi (il [44]) ax rfl ?_;refine call_p Xh (GK) ax rfl ?_;refine call_p LG (DZ) ax rfl ?_;refine call_p Xg (Z4) ax rfl ?_;generalize cX kC 0 D=J at *;refine aP mo (by decide +kernel) ?_;refine ay yi (il O) ax rfl ?_;refine ay Rs (wS) ax rfl ?_;refine ay Xj (Z5) ax rfl ?_;refine ay Rs (wS) ax rfl ?_;refine ay yi (il Z) ax rfl ?_;refine ay Xi (hgrp) ax rfl ?_;exact ⟨_,ax,rfl⟩
abbrev litS:List DV:=[.v (.int .i64 5),.v (.int .i64 0),.v (.string al),.sl 4 [[.v (.int .i64 1),.v (.int .i64 0),.v (.string (ba [44])),.sl 4 [] none],[.v (.int .i64 2),.v (.int .i64 0),.v (.string al),.v (.slice none 0 0)]] none]
theorem Bm (x:List DV):∀ l:List Val,CcE [] 0 (dVals l ++ [aU kC] ++ [x]) (dVals l ++ [litS] ++ [x])
 | []=>by
  simp only [dVals,List.nil_append,List.cons_append,CcE];refine ⟨_,_,rfl,.inr ?_,_,_,rfl,.inl rfl,rfl⟩;exact ax
 | v :: l=>by
  have:=Bm x l;simp only [dVals,List.cons_append,CcE] at this ⊢;exact ⟨_,_,rfl,.inl rfl,this⟩
abbrev Kz (W:List DV) (v:Val) (ind:Int) (d:Nd) (J:List Val) (q e:Nat):St:=
 ⟨[(3,⟨[],.v (.int .i64 ind)⟩),(4,⟨[],.loc 0 0⟩),(6,⟨[],.loc 1 0⟩),(8,⟨[],.loc 2 0⟩),(9,⟨[],.loc 3 0⟩),(10,⟨[],.loc 4 0⟩),(11,⟨[],.v (.int .i64 e)⟩)],
  [W,aU v,zD,jR d,[.v (.int .i64 5),.v (.int .i64 0),.v (.string al),.sl 4 (dVals J) (some 0)]],[⟨q,88,4,none⟩]⟩
theorem xa (lv:List Wd) (f:Nat->Nat->Bool) (ND:List Nd) (z0:Int) (ind:Int) (bG:∀ n∈ND,dI lv.length ND.length n) (bE:∀ n∈ND,n.au.length<=1099511627776) :
  ∀ (k:Nat) (v:Val),v.wt<=k->v.wt<=1099511627776->rngW v->∀ i:Int,jL ND v i=true ->
   EvP Tryz.prog 36 [.agg (wL lv f ND z0),.v (.int .i64 i),.agg (aU v),.v (.int .i64 ind)] (.agg (aU (kD ND ind v i)))
 | 0,v,h,_=>by have:=v.de;omega
 | k + 1,v,h,hb=>fun hr i hw=>by
  have ih:=xa lv f ND z0 ind bG bE k;have OW:=sZ lv f ND z0 bG bE v.wt v (Nat.le_refl _) hb hr i hw;obtain ⟨d,hd,hc⟩:=la hw;obtain ⟨h0,hg⟩:=cO hd;obtain ⟨j,rfl⟩:∃ j:Nat,i=j:=⟨i.toNat,by omega⟩;have hg:ND[j]? = some d:=by simpa using hg
  have lh:=(gS hg).1;have hN:=bG d (mG hg);have Bg:=bE d (mG hg);have mn:=hN.k1;have Er:=hN.k8;have hnn:=qI hr;have Zo:v.wt=64 + v.s.size + dJ v.ks:=by obtain ⟨q,z,s,ks⟩:=v;rfl
  have j1:=wR v hb
  have VR:v.ks=[]->textV ND v j=cS d v ++ fh v:=fun h=>by
   obtain ⟨q,z,s,ks⟩:=v;have h:ks=[]:=h;subst h;rw [textV,hd];show cS d _ ++ textVs ND [] d z 0 ++ fh _=_;rw [textVs,List.append_nil]
  have QZ:v.ks=[]->kD ND ind v j=dT (cS d v ++ fh v):=fun h=>by
   obtain ⟨q,z,s,ks⟩:=v;have h:ks=[]:=h;subst h;rw [kD,hd];rfl
  have SG:v.ks ≠ []->kD ND ind v j=GZ ind (cS d v) (kg ND ind v.ks d v.n 0) (fh v):=fun h=>by
   obtain ⟨q,z,s,ks⟩:=v;have h:ks ≠ []:=h;rw [kD,hd];simp only;rw [if_neg h];rfl
  by_cases sS:v.ks=[]
  ·rw [QZ sS];rw [VR sS] at OW;generalize cS d v ++ fh v=O at *;clear hc QZ SG VR;obtain ⟨q,z,s,ks⟩:=v;have sS:ks=[]:=sS;subst sS;refine ev_go (P:=Tryz.prog) tt tt_ok 5000 94 [.cell 8 88] Tryz.func36 rfl Tryz.ntmps36 rfl (nL rfl) (fun E9 w9 hn9 hm9=>?_);refine call_p Ly (OW) ax rfl ?_;refine call_p Jb (jN O) ax rfl ?_;exact ⟨_,ax,rfl⟩
  ·obtain ⟨hk,h5,A7,xj⟩:v.k=d.ag/\5<=d.ag/\shellF d v=true/\gj ND v.ks d v.n 0=true:=by
    rcases hc with h | h | h
    ·exact absurd h.2.2 sS
    ·exact absurd h.2.2.1 sS
    ·exact h
   have kK:=nk d v (by omega) hnn (by omega) (fun c8=>shell_8 A7 (by omega)) (fun e he c8=>eY ((hN.many (.inr (by omega))).2.2.2 e he))
   have Oz:∀ m,m < v.ks.length->∃ e,cd d v.n m=some e/\jL ND (v.ks[m]?.getD v) e.to=true:=fun m hm=>by
    obtain ⟨e,h1,h2⟩:=nf xj (gE hm);rw [Nat.zero_add] at h1;exact ⟨e,h1,by rw [gE hm];exact h2⟩
   have hE:=fun m e h1=>nj d v m e h1 (shell_8 A7) Bg;have su:∀ e∈d.au,d.ag=7->e.name.size<=32:=fun e he c=>eY ((hN.many (.inl c)).2.2.2 e he);have HF:=nV (ND:=ND) (ind:=ind) v.ks d v.n 0;have hDg:=fun m x e (h1:v.ks[m]? = some x) (h2:cd d v.n m=some e)=>sf (ND:=ND) (ind:=ind) (j:=0) h1 (by rw [Nat.zero_add];exact h2);rw [SG sS];clear QZ SG VR OW;generalize kg ND ind v.ks d v.n 0=D at *;generalize cS d v=O at *;generalize fh v=Z at *;clear hc A7;have BP:GZ ind O D Z = .mk 7 0 al [dT O,.mk 6 ind al [.mk 3 0 al [],.mk 5 0 al (cX kC 0 D)],.mk 3 0 al [],dT Z]:=rfl;rw [BP];have lh:=fun e=>ld kC (D.take e) 0;have ZW:=fun e x=>@wU kC D e x;have sq:cX kC 0 (D.take 0)=[]:=by rw [List.take_zero];all_goals rfl
   have ZX:cX kC 0 (D.take D.length)=cX kC 0 D:=by rw [List.take_length]
   generalize hJ:(fun e=>cX kC 0 (D.take e))=J at *;have hJ:∀ e,cX kC 0 (D.take e)=J e:=fun e=>by rw [<- hJ]
   simp only [hJ] at lh ZW sq ZX;rw [<- ZX];obtain ⟨q,z,s,ks⟩:=v;obtain ⟨ag,aC,lo,hi,most,af,es⟩:=d;have cH:=aW ks;have iL:=dC ks;simp only [Val.k,Val.n,Val.s,Val.ks] at *;refine ev_go (P:=Tryz.prog) tt tt_ok 5000 94 [.cell 8 88] Tryz.func36 rfl Tryz.ntmps36 rfl (nL rfl) (fun E9 w9 hn9 hm9=>?_);refine br (fun g=>absurd (by simpa [cH] using g) sS) (fun _=>?_);refine ⟨_,⟨by omega,fx hg⟩,?_⟩;refine aq (fun j st=>∃ e q9:Nat,st=Kz (wL lv f ND z0) (.mk q z s ks) ind ⟨ag,aC,lo,hi,most,af,es⟩ (J e) q9 e/\q9=(J e).length/\e<=ks.length/\j=ks.length - e) ks.length (Kz (wL lv f ND z0) (.mk q z s ks) ind ⟨ag,aC,lo,hi,most,af,es⟩ [] 0 0) (dj 5 ⟨0,88,4,none⟩ rfl rfl rfl (by repeat' (first | exact rfl | exact ah rfl | exact ak rfl | exact aX (Nat.le_refl _) rfl | exact aX (Nat.le_refl _) rfl | refine ⟨_,_,rfl,?_,?_⟩)) rfl rfl (by repeat' (first | exact trivial | exact ah rfl | exact ak rfl | exact aX (Nat.le_refl _) rfl | refine ⟨⟨_,rfl,?_⟩,?_⟩))) ⟨0,0,by rw [sq],by rw [sq];rfl,by omega,by omega⟩ ?_;rintro _ st ⟨e,q9,rfl,V4,he,rfl⟩;have G0:(dVals (J e)).length=q9:=by rw [aW,V4]
   have ZE:q9<=2 * e:=by have:=lh e;rw [List.length_take] at this;omega
   refine br (fun hL=>?_) (fun hL=>?_)
   ·have ap:e < ks.length:=by simpa [cH,Val.ks] using hL
    obtain ⟨ed,l5,IF⟩:=Oz e ap;obtain ⟨x,hx⟩:∃ x,ks[e]? = some x:=⟨_,gE ap⟩;rw [hx] at IF;have R6:=fA (mG hx);have KF:rngW x:=by rw [rngW] at hr;exact ik hr.2.2 (mG hx)
    have jU:=ih x (by omega) (by omega) KF ed.to IF;have O8:=hDg e x ed hx l5;have hE:=hE e ed l5;have qF:=su ed (qB l5);have V3:=jN (tx ed.name ++ [58,32]);rw [show ba (tx ed.name ++ [58,32])=ed.name ++ ba [58,32] from (A4 _ _).symm] at V3;have G1:=ZW e _ O8;generalize kD ND ind x ed.to=dx at jU G1;obtain ⟨xk,xn,xs,xl⟩:=x;obtain ⟨yk,yn,ys,yl⟩:=dx;refine br (fun c=>?_) (fun c=>?_)
    ·have c:e≠0:=by rintro rfl;simp at c
     rw [if_neg c] at G1;refine aP mo (by decide +kernel) ?_;refine ay Jb (jN [44]) ax rfl ?_;refine ⟨by rw [G0],⟨by rw [G0];simp [maxLen];omega,by rw [G0];simp;omega⟩,?_⟩;refine call_p LA (hE) ax rfl ?_;apply Bb (fun _=>false) 10 [0,1,2,3,4,5,6,7,8,9] [11] mo (by decide +kernel);·repeat' (first | refine ⟨_,⟨by omega,bP hx⟩,?_⟩ | refine ay Tw (jU) ax rfl ?_ | exact Or.inl rfl | exact U9 | refine ⟨?_,?_⟩)
     refine br (fun c7=>?_) (fun c7=>?_)
     ·have c7:ag=7:=by have:=of_decide_eq_true c7;omega
      have qF:=qF c7;rw [if_pos c7] at G1;have eE:dVals (J e) ++ [aU kC] ++ [aU (.mk 5 0 al [dT (tx ed.name ++ [58,32]),.mk yk yn ys yl])]=dVals (J (e + 1)):=by rw [G1,jh,List.append_assoc];all_goals rfl
      have n8:=Bm (aU (.mk 5 0 al [dT (tx ed.name ++ [58,32]),.mk yk yn ys yl])) (J e);rw [eE] at n8;have iG:(J (e + 1)).length=(q9 + 1 + 1):=by rw [G1,List.length_append,<- V4];all_goals rfl
      refine aP mo (by decide +kernel) ?_;refine ⟨by show ed.name.size + 2<=_;omega,?_⟩;refine ay Jb (V3) ax rfl ?_;refine ⟨by simp [G0],⟨by simp [maxLen,G0];omega,by simp [G0];omega⟩,?_⟩;exact ⟨Kz (wL lv f ND z0) (.mk q z s ks) ind ⟨ag,aC,lo,hi,most,af,es⟩ (J (e + 1)) (q9 + 1 + 1) (e + 1),(az 5 rfl (by repeat' (first | exact rfl | exact ah rfl | exact ak (cx ap (by omega)) | exact Hj n8 rfl | refine ⟨_,_,rfl,?_,?_⟩)) rfl rfl rfl (by repeat' (first | exact trivial | exact ah rfl | exact ak (cx ap (by omega)) | exact Hj n8 rfl | refine ⟨⟨_,rfl,?_⟩,?_⟩))),ks.length - (e + 1),by omega,e + 1,(q9 + 1 + 1),rfl,iG.symm,by omega,rfl⟩
     ·have c7:¬ ag=7:=by have:=of_decide_eq_false c7;omega
      rw [if_neg c7] at G1;have eE:dVals (J e) ++ [aU kC] ++ [aU (.mk yk yn ys yl)]=dVals (J (e + 1)):=by rw [G1,jh,List.append_assoc];all_goals rfl
      have n8:=Bm (aU (.mk yk yn ys yl)) (J e);rw [eE] at n8;have iG:(J (e + 1)).length=(q9 + 1 + 1):=by rw [G1,List.length_append,<- V4];all_goals rfl
      refine ⟨by simp [G0],⟨by simp [maxLen,G0];omega,by simp [G0];omega⟩,?_⟩;exact ⟨Kz (wL lv f ND z0) (.mk q z s ks) ind ⟨ag,aC,lo,hi,most,af,es⟩ (J (e + 1)) (q9 + 1 + 1) (e + 1),(az 5 rfl (by repeat' (first | exact rfl | exact ah rfl | exact ak (cx ap (by omega)) | exact Hj n8 rfl | refine ⟨_,_,rfl,?_,?_⟩)) rfl rfl rfl (by repeat' (first | exact trivial | exact ah rfl | exact ak (cx ap (by omega)) | exact Hj n8 rfl | refine ⟨⟨_,rfl,?_⟩,?_⟩))),ks.length - (e + 1),by omega,e + 1,(q9 + 1 + 1),rfl,iG.symm,by omega,rfl⟩
    ·have c:e=0:=by simp at c;omega
     rw [if_pos c] at G1;refine call_p LA (hE) ax rfl ?_;apply Bb (fun _=>false) 10 [0,1,2,3,4,5,6,7,8,9] [11] mo (by decide +kernel);·repeat' (first | refine ⟨_,⟨by omega,bP hx⟩,?_⟩ | refine ay Tw (jU) ax rfl ?_ | exact Or.inl rfl | exact U9 | refine ⟨?_,?_⟩)
     refine br (fun c7=>?_) (fun c7=>?_)
     ·have c7:ag=7:=by have:=of_decide_eq_true c7;omega
      have qF:=qF c7;rw [if_pos c7] at G1;have eE:dVals (J e) ++ [aU (.mk 5 0 al [dT (tx ed.name ++ [58,32]),.mk yk yn ys yl])]=dVals (J (e + 1)):=by rw [G1,jh];all_goals rfl
      have iG:(J (e + 1)).length=(q9 + 1):=by rw [G1,List.length_append,<- V4];all_goals rfl
      refine aP mo (by decide +kernel) ?_;refine ⟨by show ed.name.size + 2<=_;omega,?_⟩;refine ay Jb (V3) ax rfl ?_;refine ⟨by rw [G0],⟨by rw [G0];simp [maxLen];omega,by rw [G0];simp;omega⟩,?_⟩;exact ⟨Kz (wL lv f ND z0) (.mk q z s ks) ind ⟨ag,aC,lo,hi,most,af,es⟩ (J (e + 1)) (q9 + 1) (e + 1),(az 5 rfl (yc ap eE) rfl rfl rfl (tg ap eE)),ks.length - (e + 1),by omega,e + 1,(q9 + 1),rfl,iG.symm,by omega,rfl⟩
     ·have c7:¬ ag=7:=by have:=of_decide_eq_false c7;omega
      rw [if_neg c7] at G1;have eE:dVals (J e) ++ [aU (.mk yk yn ys yl)]=dVals (J (e + 1)):=by rw [G1,jh];all_goals rfl
      have iG:(J (e + 1)).length=(q9 + 1):=by rw [G1,List.length_append,<- V4];all_goals rfl
      refine ⟨by rw [G0],⟨by rw [G0];simp [maxLen];omega,by rw [G0];simp;omega⟩,?_⟩;exact ⟨Kz (wL lv f ND z0) (.mk q z s ks) ind ⟨ag,aC,lo,hi,most,af,es⟩ (J (e + 1)) (q9 + 1) (e + 1),(az 5 rfl (yc ap eE) rfl rfl rfl (tg ap eE)),ks.length - (e + 1),by omega,e + 1,(q9 + 1),rfl,iG.symm,by omega,rfl⟩
   ·have aO:e=ks.length:=by
     have:=hL;simp [cH,Val.ks] at this;omega
    subst aO;rw [show J D.length=J ks.length by rw [HF]];generalize J ks.length=J9 at *;refine aP mo (by decide +kernel) ?_;refine ay TB (kK) ax rfl ?_;refine ay Jb (jN O) ax rfl ?_;refine ay TC (j1) ax rfl ?_;refine ay Jb (jN Z) ax rfl ?_;exact ⟨_,ax,rfl⟩
mutual
def gP:Val->Prop
 | .mk _ _ _ ks=>ks.length<=4398046511104/\bo ks
def bo:List Val->Prop
 | []=>True
 | v :: r=>gP v/\bo r
end
abbrev G2 (a:Val) (e:Nat):St:=⟨[(2,⟨[],.loc 0 0⟩),(3,⟨[],.loc 1 0⟩),(5,⟨[],.v (.int .i64 e)⟩)],[aU a,aU a],[]⟩
mutual
theorem nq:∀ a:Val,gP a->EvP Tryz.prog 35 [.agg (aU a),.agg (aU a)] (.v (.bool true))
 | .mk k n s ks,h=>by
  rw [gP] at h;have hs:=qK ks h.2;have hl:=h.1;have cH:=aW ks;clear h;refine ev_go (P:=Tryz.prog) tt tt_ok 5000 53 [.tmp 4] Tryz.func35 rfl Tryz.ntmps35 rfl (nL rfl) (fun E9 w9 hn9 hm9=>?_);refine br (fun c=>absurd c (by simp [aj])) (fun _=>?_);refine aq (fun j st=>∃ e:Nat,st=G2 (.mk k n s ks) e/\e<=ks.length/\j=ks.length - e) ks.length (G2 (.mk k n s ks) 0) (weak_mk ⟨_,rfl⟩ wA rfl rfl rfl EJ) ⟨0,rfl,by omega,by omega⟩ ?_;rintro _ st ⟨e,rfl,he,rfl⟩;refine br (fun hL=>?_) (fun hL=>?_)
  ·have ap:e < ks.length:=by simpa [cH] using hL
   obtain ⟨x,hx⟩:∃ x,ks[e]? = some x:=⟨_,gE ap⟩;have xB:=hs e x hx;obtain ⟨xk,xn,xs,xl⟩:=x;refine aE (fun _=>false) mo (by decide +kernel) ?_;refine ⟨_,⟨by omega,bP hx⟩,?_⟩;refine ⟨_,⟨by omega,bP hx⟩,?_⟩;refine ay Tv (xB) ax rfl ?_;exact ⟨G2 (.mk k n s ks) (e + 1),(weak_mk ⟨_,rfl⟩ wA rfl rfl rfl (wNB ap)),ks.length - (e + 1),by omega,e + 1,rfl,by omega,rfl⟩
  ·exact (rfl:_=_)
theorem qK:∀ l:List Val,bo l->∀ (e:Nat) (x:Val),l[e]? = some x->EvP Tryz.prog 35 [.agg (aU x),.agg (aU x)] (.v (.bool true))
 | [],_,e,x,h=>by simp at h
 | y :: r,h,e,x,hx=>by
  rw [bo] at h
  cases e with
  | zero=>
   have:=nq y h.1;simp only [List.getElem?_cons_zero,oI] at hx;rw [<- hx];exact this
  | succ e=>exact qK r h.2 e x (by simpa using hx)
end
theorem l8 (l:List UInt8):gP (dT l):=by
 rw [dT,gP,bo];exact ⟨Nat.zero_le _,trivial⟩
theorem xc:∀ {a b:List Val},bo a->bo b->bo (a ++ b)
 | [],_,_,h=>h
 | x :: r,b,h,g=>by
  rw [bo] at h;rw [List.cons_append,bo];exact ⟨h.1,xc h.2 g⟩
theorem OX:gP kC:=by
 rw [kC,gP,bo,bo,bo];refine ⟨by simp,l8 _,?_,trivial⟩;rw [gP,bo];exact ⟨Nat.zero_le _,trivial⟩
theorem zy:∀ (l:List Val) (j:Nat),bo l->bo (cX kC j l)
 | [],_,_=>by rw [cX,bo];trivial
 | x :: r,j,h=>by
  rw [bo] at h;rw [cX];refine xc ?_ (zy r (j + 1) h.2);split
  ·rw [bo,bo];exact ⟨h.1,trivial⟩
  ·rw [bo,bo,bo];exact ⟨OX,h.1,trivial⟩
theorem OY {ind:Int} {o c:List UInt8} {l:List Val} (hl:l.length<=2199023255552) (h:bo l):gP (GZ ind o l c):=by
 have hj:=ld kC l 0;rw [GZ,gP,bo,bo,bo,bo,bo];refine ⟨by simp,l8 _,?_,?_,l8 _,trivial⟩
 ·rw [gP,bo,bo,bo];refine ⟨by simp,?_,?_,trivial⟩
  ·rw [gP,bo];exact ⟨Nat.zero_le _,trivial⟩
  ·rw [gP];exact ⟨by omega,zy l 0 h⟩
 ·rw [gP,bo];exact ⟨Nat.zero_le _,trivial⟩
section
variable {ND:List Nd} {ind:Int}
mutual
theorem Eg:∀ (v:Val) (i:Int),v.wt<=1099511627776->gP (kD ND ind v i)
 | .mk k n s ks,i,h=>by
  rw [Val.wt] at h;have iL:=dC ks;unfold kD;split
  ·exact l8 _
  ·rename_i d _;split
   ·exact l8 _
   ·exact OY (by rw [nV];omega) (zA ks d n 0 (by omega))
theorem zA:∀ (l:List Val) (d:Nd) (z:Int) (j:Nat),dJ l<=1099511627776->bo (kg ND ind l d z j)
 | [],_,_,_,_=>by rw [kg,bo];trivial
 | x :: r,d,z,j,h=>by
  rw [dJ] at h;rw [kg,bo];refine ⟨?_,zA r d z (j + 1) (by omega)⟩;split
  ·exact l8 _
  ·rename_i e _;have hx:=Eg x e.to (by omega);split
   ·rw [gP,bo,bo,bo];exact ⟨by simp,l8 _,hx,trivial⟩
   ·exact hx
end
end
def Eh (ind:Int):Bool:=decide (0<=ind) && decide (ind<=16)
theorem OZ {S:Sch} {ND:List Nd} {PC:List DV} (hP:ke S ND PC) (rt:Nat) (GP:bN S=rt) (x:Val) (hx:x.wt<=1099511627776) (tP:rngW x) (o ind:Int) (B:Bool) (IM:EvP Tryz.prog 78 [.pt PC 0,.v (.int .i64 o),.agg (aU x)] (.v (.bool B))) (hw:B=true->jL ND x (rt:Nat)=true) :
  EvP Tryz.prog 34 [.pt PC 0,.v (.int .i64 o),.agg (aU x),.v (.int .i64 ind)] (.tup [.agg (aU (if (Eh ind && B)=true then kD ND ind x (rt:Nat) else .mk 0 0 al [])),.v (.bool (Eh ind && B))]):=by
 have gN:=hP.root;rw [GP] at gN;have Vz:=fun h=>ou hP ind x.wt x (Nat.le_refl _) hx tP (rt:Nat) (hw h);generalize kD ND ind x (rt:Nat)=D at *;have hI:Eh ind=(decide (0<=ind) && decide (ind<=16)):=rfl;generalize Eh ind=I at *;clear hw;obtain ⟨k,n,s,ks⟩:=x;obtain ⟨dk,dn,ds,dl⟩:=D
 have SI:∀ c:Bool,c=pickB (decide (ind < 0)) true (decide (16 < ind))->I = !c:=fun c hc=>by
  rw [hc,hI,aj,Bool.eq_iff_iff];simp only [Bool.and_eq_true,Bool.not_eq_true',Bool.or_eq_false_iff,decide_eq_true_iff,decide_eq_false_iff_not];omega
 have hc:=SI _ rfl;clear hI SI;refine ev_go (P:=Tryz.prog) tt tt_ok 5000 30 [.cell 8 88,.tmp 9] Tryz.func34 rfl Tryz.ntmps34 rfl (nL rfl) (fun E9 w9 hn9 hm9=>?_);refine br (fun c=>?_) (fun c=>?_)
 ·have c:pickB (decide (ind < 0)) true (decide (16 < ind))=false:=by simpa using c
  rw [c] at hc;subst hc;refine call_p WW (IM) ax rfl ?_
  cases B with
  | false=>
   exact ⟨_,ax,rfl⟩
  | true=>
   have Vz:=Vz rfl;refine aP mo (by decide +kernel) ?_;refine ay Ts (gN) ax rfl ?_;refine ay WY (Vz) ax rfl ?_;exact ⟨_,ax,rfl⟩
 ·have c:pickB (decide (ind < 0)) true (decide (16 < ind))=true:=by simpa using c
  rw [c] at hc;subst hc;exact ⟨_,ax,rfl⟩
theorem typ_qi {n:Nat} {ds:List DV} (h:Typ Tryz.prog n 85 ds):∃ o i:Int,ds=[.v (.int .i64 o),.v (.int .i64 i)]:=by
 obtain ⟨m,rfl,hf⟩:=lL Tryz.underlying85 h;obtain ⟨a0,b0,rfl,h0,a1,b1,rfl,h1,rfl⟩:=hf;obtain ⟨o,rfl,_⟩:=kM h0;obtain ⟨p,rfl,_⟩:=kM h1;exact ⟨o,p,rfl⟩
def tyQI:List TypeId:=[85,3]
theorem tyQI_ok:∀ t∈tyQI,lK Tryz.prog tyQI t=true:=by
 have h:(tyQI.all fun t=>lK Tryz.prog tyQI t)=true:=by kernel_rfl
 exact fun t ht=>List.all_eq_true.1 h t ht
theorem docs33_law (S:Sch) (hS:S.wt<=1099511627776) (Vd:PT S) (x:Val) (hx:x.wt<=1099511627776) (tP:rngW x) (o ind:Int) :
  EvP Tryz.prog 7 [.agg (eK S),.agg (aU x),.agg [.v (.int .i64 o),.v (.int .i64 ind)]] (.v (.bool true)):=by
 have hf:=Ef S hS x hx;have hb:=(vE S hS).mono (Ψ:=fun r _ _=>F9 S r) fun _ _ _ h=>za hS h;have hw:=fun h=>ql S hS h;have Qv:=@F8 S;have hRr:=fun n (hn:n∈aR S)=>wM Vd hn;have Kr:∀ n∈aR S,n.au.length<=1099511627776:=fun n hn=>(nO hn hS).2;have hz:=nq (.mk 0 0 al []) (by rw [gP,bo];exact ⟨Nat.zero_le _,trivial⟩);generalize hSS:S=SS at *;subst hSS
 have key:wQ S->∀ PC,ke S (aR S) PC->∃ (B:Bool) (D:Val) (root:Nat),bN S=root/\gP D/\EvP Tryz.prog 34 [.pt PC 0,.v (.int .i64 o),.agg (aU x),.v (.int .i64 ind)] (.tup [.agg (aU (if (Eh ind && B)=true then D else .mk 0 0 al [])),.v (.bool (Eh ind && B))])/\EvP Tryz.prog 32 [.agg (wL S.ae (cA S) (aR S) (root:Nat)),.v (.int .i64 o),.agg (aU x)] (.v (.bool B)) /\
   (B=true->EvP Tryz.prog 36 [.agg (wL S.ae (cA S) (aR S) (root:Nat)),.v (.int .i64 (root:Nat)),.agg (aU x),.v (.int .i64 ind)] (.agg (aU D))):=fun h0 PC hP=>by
  obtain ⟨root,GP,gl⟩:=Qv (qk h0.KK);obtain ⟨LC,rP,hR⟩:=hP.ZC;refine ⟨_,kD (aR S) ind x (root:Nat),root,GP,Eg x _ hx,OZ hP root GP x hx tP o ind _ (s6 hP rP hR hRr Kr root GP gl o x hx tP) (fun h=>w7 hP.ok h),wZ S.ae (cA S) (aR S) root gl hR.ok hR.n32 hP.ok Kr hRr o x hx tP,fun h=>?_⟩;exact xa S.ae (cA S) (aR S) root ind hP.ok Kr _ x (Nat.le_refl _) hx tP root (w7 hP.ok h)
 obtain ⟨ae,order,types,⟨rh,rp⟩⟩:=S;obtain ⟨xk,xn,xs,xks⟩:=x;refine ev_go (P:=Tryz.prog) tt tt_ok 5000 75 [.tmp 6] Tryz.func7 rfl Tryz.ntmps7 rfl (nL rfl) (fun E9 w9 hn9 hm9=>?_);refine bq en29 rfl hf ax (fun r hr=>?_);obtain ⟨b,rfl,h0⟩:=hr
 cases b with
 | false=>
  refine call_p Tt (l7) ax rfl ?_;exact (rfl:_=_)
 | true=>
  have hF:=h0 rfl;have h0:=hF.KK;have hw:=hw h0;refine bq WK rfl hb ax (fun r hr=>?_);rcases hr with ⟨hr,_⟩ | ⟨_,PC,hP,rfl⟩
  ·exact (hr h0).elim
  obtain ⟨B,D,root,GP,hth,Z6,hA2,hA3⟩:=key hF PC hP;rw [GP] at hw;have hsm:=nq D hth;have hI:Eh ind=(decide (0<=ind) && decide (ind<=16)):=rfl;generalize hIB:Eh ind=I at hI Z6;clear key hth
  cases V6:(I && B) with
  | false=>
   rw [V6,if_neg (by simp)] at Z6;refine call_p Tu (hw) ax rfl ?_;refine call_p WN (Z6) ax rfl ?_;refine call_p WM (hA2) ax rfl ?_
   have n8:pickB (pickB (!B) true (decide (ind < 0))) true (decide (16 < ind))=true:=by
    simp only [aj]
    cases B with
    | false=>rfl
    | true=>
     rw [Bool.and_true] at V6;rw [V6] at hI;simp at hI;simp;omega
   refine br (fun _=>?_) (fun c=>absurd c (by rw [n8];simp));refine call_p Tv (hz) ax rfl ?_;refine call_p Tt (l7) ax rfl ?_;exact (rfl:_=_)
  | true=>
   rw [V6,if_pos rfl] at Z6;rw [Bool.and_eq_true] at V6;obtain ⟨rfl,rfl⟩:=V6;have hA3:=hA3 rfl;have hI:=hI.symm;rw [Bool.and_eq_true,decide_eq_true_iff,decide_eq_true_iff] at hI;obtain ⟨dk,dn,ds,dl⟩:=D;refine call_p Tu (hw) ax rfl ?_;refine call_p WN (Z6) ax rfl ?_;refine call_p WM (hA2) ax rfl ?_;refine br (fun c=>absurd c (by simp [aj];omega)) (fun _=>?_);refine aE (fun _=>false) mo (by decide +kernel) ?_;refine ay Tw (hA3) ax rfl ?_;refine ay Tv (hsm) ax rfl ?_;refine ay Tt (l7) ax rfl ?_;exact (rfl:_=_)
end Go.Proofs.YtfifjddnnmfeoaaGreat
