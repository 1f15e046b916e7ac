/- Part 6 of the proof: Typed: record; tree.write, Raw; The document's Fits; Written values: well formed; the document's Same on the same value; its Raw; Typed: Check; how many values are in what is written; What is written of a value that fits is checked as that value; Typed: plain facts for the round trip; what is read of a value as it is written; The document's Raw; The law of values that fit: fine, the example, the call returns true; ref25.Paths; tree: walk, Paths; What is read of steps, and of steps with a value; The law of the round trip: the call returns true. No condition. -/
import Derived.Test.YtfifjddnnmfeoaaGreatMh3
import Derived.Test.YtfifjddnnmfeoaaGreatMh5
set_option linter.all false
set_option maxRecDepth 100000
namespace Go.Proofs.YtfifjddnnmfeoaaGreat
open Go Go.RowKit Dv Tryz
abbrev kz (acc:List (Option Val)):List Val:=acc.map fun x=>x.getD (.mk 0 0 ap [])
abbrev iV (acc:List (Option Val)):List Bool:=acc.map Option.isSome
theorem Ga {n m:Nat} {tk:List TkE} {N k:Nat} (h:N=k):WeL n m tk (List.replicate N CT).flatten (dVals (kz (List.replicate k none))).flatten:=by
 subst h;have h2:kz (List.replicate N none)=List.replicate N zeroV:=by simp [kz]
 rw [h2];exact F7 N
theorem O0 {N k:Nat} (h:N=k):(List.replicate N (vL [Value.bool false])).flatten=cB (iV (List.replicate k none)):=by
 subst h;rw [RT];simp [iV]
theorem nc (es:List Ed):(((fy es).length:Nat):Int).toNat=es.length:=by rw [Int.toNat_natCast,cK]
theorem rI:∀ l:List Val,(dVals l).flatten.length=l.length * 4
 | []=>rfl
 | .mk k z s ks :: r=>by
  rw [dVals,List.flatten_cons,List.length_append,rI r,List.length_cons];show 4 + r.length * 4=_;omega
theorem x6:∀ acc:List (Option Val),(iV acc).all id = !acc.any Option.isNone
 | []=>rfl
 | x :: r=>by
  rw [iV,List.map_cons,List.all_cons,List.any_cons];have h:=x6 r;rw [iV] at h;rw [h];cases x<;>rfl
theorem O1 {a b c d K H K' H' g x y:List DV} (h1:K'=K) (h2:H'=H) : [a,b,c,d,K,H,g,x,y]=[a,b,c,d,K',H',g,x,y]:=by rw [h1,h2]
theorem Bf (f:Nat->Nat):∀ l:List Bool,renL f (cB l)=cB l
 | []=>rfl
 | b :: r=>by rw [show cB (b :: r) = .v (.bool b) :: cB r from rfl,renL,Bf f r];all_goals rfl
theorem Bg (f:Nat->Nat):∀ l:List Val,renL f (dVals l).flatten=(dVals l).flatten
 | []=>rfl
 | .mk k z s ks :: r=>by
  have h:(dVals (.mk k z s ks :: r)).flatten = .v (.int .i64 k) :: .v (.int .i64 z) :: .v (.string s) :: .sl 4 (dVals ks) none :: (dVals r).flatten:=rfl;rw [h];simp only [renL,renD,Bg f r]
theorem Sy {i j:Nat} {s S:St} (h:bV s (cE i j S):=by refine (⟨O1 (Bg _ _) (Bf _ _),rfl,?_⟩:_/\_/\_);(repeat (refine (⟨?_,?_⟩:_/\_);exact rfl));exact trivial):(s=S∨bV s S)∨bV s (cE i j S):=.inr h
section
variable (PC:List DV)
abbrev z7 (d:Nd) (r:Rw) (ws:List Wd) (acc:List (Option Val)) (n e:Nat):St:=
 ⟨[(0,⟨[],.pt PC 0⟩),(4,⟨[],.loc 0 0⟩),(5,⟨[],.loc 1 0⟩),(6,⟨[],.loc 2 0⟩),(7,⟨[],.loc 3 0⟩),(8,⟨[],.ms 4 4 0 n n⟩),(9,⟨[],.ms 5 1 0 n n⟩),(40,⟨[],.sl 2 (bJ ws) none⟩),(41,⟨[],.v (.int .i64 (bJ ws).length)⟩),(42,⟨[],.v (.int .i64 e)⟩)],[jR d,dRw r,CT,TZ,(dVals (kz acc)).flatten,cB (iV acc)],[]⟩
set_option maxHeartbeats 8000000 in
theorem si {ND:List Nd} (d:Nd) (ly:d.aD.length<=1099511627776) (k a n:Int) (s:ByteArray) (keys:List Wd) (ks:List Rw) (T0:keys.length<=1099511627776) (lX:∀ r∈ks,∀ e∈d.aD,ba Tryz.prog 18 [.pt PC 0,.v (.int .i64 e.to),.agg (dRw r)] (rC (ckV ND r e.to))) :
  ba Tryz.prog 58 [.pt PC 0,.agg (jR d),.agg (dRw (.mk k a n s keys ks))] (rC (if k≠5∨keys.length≠ks.length then cp 14 a else recC a (ckK ND d ks keys (List.replicate d.aD.length none)))):=by
 have hb:=fun e=>dM e (Rw.mk k a n s keys ks);have gZ:=gY ks;have Oo:=aG keys;have dF:=fun w=>oN d w ly;have ie:=fun w {c}=>@kv d w c;have Lq:=fun l (h:(iV l).length<=1099511627776)=>sg (iV l) h;by_cases c0:k≠5∨keys.length≠ks.length
 ·rw [if_pos c0];obtain ⟨ag,bp,lo,hi,most,ae,es⟩:=d;refine ev_go (P:=Tryz.prog) tt tt_ok 5000 105 [.cell 6 45,.cell 7 54] Tryz.func58 rfl Tryz.ntmps58 rfl (nL rfl) (fun E9 w9 hn9 hm9=>?_);refine br (fun c=>?_) (fun c=>?_)
  ·refine call_p fH (hb 14) ax rfl ?_;exact ⟨_,ax,rfl⟩
  ·exfalso
   have c:¬ (k≠5∨keys.length≠ks.length):=by
    intro c0;simp [lastG,aA,gZ,Oo] at c;omega
   exact c c0
 rw [if_neg c0];obtain ⟨TU,hlen⟩:k=5/\keys.length=ks.length:=by omega
 subst TU;generalize hF:ckK ND d ks keys (List.replicate d.aD.length none)=F;obtain ⟨ag,bp,lo,hi,most,ae,es⟩:=d;simp only at lX ie ly hF ⊢;refine ev_go (P:=Tryz.prog) tt tt_ok 5000 105 [.cell 6 45,.cell 7 54] Tryz.func58 rfl Tryz.ntmps58 rfl (nL rfl) (fun E9 w9 hn9 hm9=>?_);refine br (fun c=>?_) (fun c=>?_)
 ·exfalso;simp [lastG,aA,gZ,Oo] at c;omega
 refine ⟨⟨rfl,by omega,by simp only [cK];omega,by simp only [cK];omega⟩,?_⟩;refine ⟨⟨rfl,by omega,by simp only [cK];omega,by simp only [cK];omega⟩,?_⟩;refine bU (fun j st=>∃ (e:Nat) (acc:List (Option Val)),st=z7 PC ⟨ag,bp,lo,hi,most,ae,es⟩ (.mk 5 a n s keys ks) keys acc (fy es).length e/\e<=keys.length/\acc.length=es.length/\ckK ND ⟨ag,bp,lo,hi,most,ae,es⟩ (ks.drop e) (keys.drop e) acc=F/\j=keys.length - e) keys.length (z7 PC ⟨ag,bp,lo,hi,most,ae,es⟩ (.mk 5 a n s keys ks) keys (List.replicate es.length none) (fy es).length 0) (aS 6 rfl (by repeat' (first | exact rfl | exact aw rfl | exact Ga (nc es) | exact cR (O0 (nc es)) | refine ⟨_,_,rfl,?_,?_⟩)) rfl rfl rfl (by repeat' (first | exact trivial | exact aw rfl | exact Ga (nc es) | exact cR (O0 (nc es)) | refine ⟨⟨_,rfl,?_⟩,?_⟩))) ⟨0,_,rfl,by omega,by simp,hF,by omega⟩ ?_;have Ho:=cK es;rintro j st ⟨e,acc,rfl,he,CX,hg,rfl⟩;refine br (fun hL=>?_) (fun hL=>?_)
 ·have au:e < keys.length:=by simpa [Oo] using hL
  obtain ⟨w,hw⟩:∃ w,keys[e]? = some w:=⟨_,gE au⟩;obtain ⟨x,hx⟩:∃ x,ks[e]? = some x:=⟨_,gE (by omega)⟩
  have LW:keys.drop e=w :: keys.drop (e + 1):=by
   obtain ⟨h1,h2⟩:=List.getElem?_eq_some_iff.1 hw;rw [List.drop_eq_getElem_cons h1,h2]
  have hdx:ks.drop e=x :: ks.drop (e + 1):=by
   obtain ⟨h1,h2⟩:=List.getElem?_eq_some_iff.1 hx;rw [List.drop_eq_getElem_cons h1,h2]
  rw [LW,hdx,ckK] at hg;have dF:=dF w.s;have ie:=fun {c}=>@ie w.s c;generalize vj ⟨ag,bp,lo,hi,most,ae,es⟩ w.s=I at dF ie hg;obtain ⟨ws,wa⟩:=w;simp only at dF ie hg;refine ⟨_,⟨by omega,cJ hw⟩,?_⟩
  cases I with
  | none=>
   simp only at hg;subst hg;refine call_p sN (dF) ax rfl ?_;refine eo [2,3] (fun _=>false) mo (by decide +kernel) ?_;exact ⟨_,ax,rfl⟩
  | some c=>
   obtain ⟨y,hy,_⟩:=ie rfl;simp only at hy hg;have dZ:=(gS hy).1;have lX:=lX x (mG hx) y (mG hy);have O2:rz ⟨ag,bp,lo,hi,most,ae,es⟩ c=y.to:=by unfold rz;simp only [hy]
   rw [O2] at hg;obtain ⟨J,hJ⟩:∃ J:Int,J=(c:Int):=⟨_,rfl⟩;have dF:ba Tryz.prog 116 [.agg (jR ⟨ag,bp,lo,hi,most,ae,es⟩),.v (.string ws)] (.v (.int .i64 J)):=by rw [hJ];exact dF
   have PW:¬ J < 0:=by omega
   have OY:J.toNat=c:=by omega
   obtain ⟨q,hq⟩:∃ q,acc[c]? = some q:=⟨_,gE (by omega)⟩;have GZ:acc.getD c none=q:=by rw [List.getD_eq_getElem?_getD,hq];all_goals rfl
   rw [GZ] at hg
   have Pu:(cB (iV acc))[0 + J.toNat * 1]? = some (.v (.bool q.isSome)):=by
    rw [show 0 + J.toNat * 1=c by omega];exact Lk (by rw [iV,List.getElem?_map,hq];rfl)
   refine call_p sN (dF) ax rfl ?_;refine br (fun c=>absurd (show J < 0 by simpa using c) PW) (fun _=>?_);refine ⟨⟨by omega,by omega⟩,?_⟩;refine ⟨.v (.bool q.isSome),Pu,?_⟩;refine br (fun cq=>?_) (fun cq=>?_)
   ·have cq:q.isSome=true:=by simpa using cq
    rw [if_pos cq] at hg;subst hg;refine eo [2,3] (fun _=>false) mo (by decide +kernel) ?_;exact ⟨_,ax,rfl⟩
   have cq:¬ q.isSome=true:=by simpa using cq
   rw [if_neg cq] at hg;have ux:=Be (ND:=ND) x y.to;generalize ckV ND x y.to=R at lX ux hg;obtain ⟨⟨Rk,Rn,Rs,Rl⟩,Re,Ra⟩:=R;obtain ⟨xk,xa,xn,xs,xq,xl⟩:=x;obtain ⟨en,eb,ea,et,PR,ew,PS,PT,PU,PV⟩:=y;simp only at lX ux hg;apply iT (.op 0 (.op 1 (.op 2 (.op 3 (.op 4 (.op 5 (.op 6 (.op 7 (.op 8 (.op 9 (.op 10 (.op 11 (.ev 12 (.op 13 (.op 14 (.op 15 (.ev 16 (.ev 17 (.ev 18 (.ev 19 .fin .stop) .stop) .stop) (.ev 17 (.ev 16 (.ev 18 (.ev 19 .fin .stop) .stop) .stop) .stop))))) (.ev 16 (.ev 12 (.op 13 (.op 14 (.op 15 (.ev 17 (.ev 18 (.ev 19 .fin .stop) .stop) .stop)))) (.ev 17 (.ev 12 (.op 13 (.op 14 (.op 15 (.ev 18 (.ev 19 .fin .stop) .stop)))) .stop) .stop)) (.ev 17 (.ev 12 (.op 13 (.op 14 (.op 15 (.ev 16 (.ev 18 (.ev 19 .fin .stop) .stop) .stop)))) (.ev 16 (.ev 12 (.op 13 (.op 14 (.op 15 (.ev 18 (.ev 19 .fin .stop) .stop)))) .stop) .stop)) .stop))))))))))))))) 7 8 mo (by decide +kernel);·repeat' (first | refine ⟨_,⟨by omega,by rw [OY];exact cX hy⟩,?_⟩ | refine ⟨_,⟨by omega,rr hx⟩,?_⟩ | refine G8 BN (lX) ax rfl ?_ | exact Or.inl (Or.inl rfl) | exact Or.inl lO | exact Sy | exact trivial | exact Or.inl (Or.inl rfl) | exact Or.inl lO | exact CD | refine ⟨?_,?_⟩)
   ·exact (rfl:_=_)
   refine br (fun g=>?_) (fun g=>?_)
   ·have g:Re≠0:=by simpa using g
    rw [if_pos g] at hg;subst hg;refine eo [2,3] (fun _=>false) mo (by decide +kernel) ?_;have hl:recC a (([],Re,Ra):List (Option Val) × Int × Int)=(.mk 0 0 ap [],Re,Ra):=by unfold recC;rw [if_pos g]
    rw [hl];exact ⟨_,ax,rfl⟩
   have g:Re=0:=by simpa using g
   rw [if_neg (by rw [g];simp)] at hg;have hsk:(kz (acc.set c (some (Val.mk Rk Rn Rs Rl))))=(kz acc).set c (.mk Rk Rn Rs Rl):=by rw [kz,List.map_set];all_goals rfl
   have hsh:iV (acc.set c (some (Val.mk Rk Rn Rs Rl)))=(iV acc).set c true:=by rw [iV,List.map_set];all_goals rfl
   have gk:(kz acc).length=es.length:=by rw [kz,List.length_map,CX]
   have T1:(iV acc).length=es.length:=by rw [iV,List.length_map,CX]
   have JK:=ua (x:=cd (.mk Rk Rn Rs Rl)) (kx (kz acc)) (e:=c) (by rw [bH,gk];exact dZ);rw [<- CU,<- hsk] at JK;have SX:(dVals (kz acc)).flatten.length=es.length * 4:=by rw [rI,gk]
   have T2:(dVals (kz acc)).flatten.take (0 + J.toNat * 4) ++ cd (.mk Rk Rn Rs Rl) ++ (dVals (kz acc)).flatten.drop (0 + J.toNat * 4 + 4)=(dVals (kz (acc.set c (some (Val.mk Rk Rn Rs Rl))))).flatten:=by
    rw [show 0 + J.toNat * 4=c * 4 by omega];exact JK.symm
   have T3:(cB (iV acc)).set (0 + J.toNat * 1) (.v (.bool true))=cB (iV (acc.set c (some (Val.mk Rk Rn Rs Rl)))):=by
    rw [show 0 + J.toNat * 1=c by omega,hsh,Ll]
   refine ⟨⟨by omega,by omega⟩,?_⟩;refine ⟨by show 0 + J.toNat * 4 + 4<=_;omega,?_⟩;refine ⟨⟨by omega,by omega⟩,?_⟩;refine ⟨by show 0 + J.toNat * 1 + 1<=_;rw [FA];omega,?_⟩;exact ⟨z7 PC ⟨ag,bp,lo,hi,most,ae,es⟩ (.mk 5 a n s keys ks) keys (acc.set c (some (Val.mk Rk Rn Rs Rl))) (fy es).length (e + 1),(aS 6 rfl (by repeat' (first | exact rfl | exact aw rfl | exact ay (bA au (by omega)) | exact F9 T2 | exact cR T3 | refine ⟨_,_,rfl,?_,?_⟩)) rfl rfl rfl (by repeat' (first | exact trivial | exact aw rfl | exact ay (bA au (by omega)) | exact F9 T2 | exact cR T3 | refine ⟨⟨_,rfl,?_⟩,?_⟩))),keys.length - (e + 1),by omega,e + 1,_,rfl,by omega,by rw [List.length_set];exact CX,hg,rfl⟩
 ·have bI:e=keys.length:=by have:=hL;simp [Oo] at this;omega
  subst bI;rw [hlen,List.drop_length,ckK] at hg
  ·subst hg;have Lq:=Lq acc (by rw [List.length_map,CX];exact ly);have T1:(iV acc).length=(fy es).length:=by rw [iV,List.length_map,CX,Ho]
   have gk:(kz acc).length=(fy es).length:=by rw [kz,List.length_map,CX,Ho]
   have ez:(iV acc).all id = !acc.any Option.isNone:=x6 acc;rw [ez] at Lq;have hR:recC a ((acc,0,0):List (Option Val) × Int × Int)=if acc.any Option.isNone=true then cp 15 a else hU (.mk 7 0 ap (kz acc)):=by unfold recC;rw [if_neg (by simp)]
   rw [hR];clear hR ez;generalize acc.any Option.isNone=bb at Lq ⊢;refine nJ M4 Lq (by repeat' (first | exact rfl | exact trivial | exact Or.inr (Or.inl ⟨_,rfl⟩) | exact Or.inr ⟨_,rfl⟩ | exact Or.inl ⟨rfl,rfl⟩ | exact Or.inl rfl | refine Or.inr ⟨_,_,rfl,Nat.zero_le _,rfl,?_⟩ | refine ⟨_,_,rfl,?_,?_⟩ | refine ⟨_,rfl,?_⟩ | exact Sj T1 (Nat.zero_le _) rfl | refine Or.inr (Or.inr (Or.inr ⟨_,_,rfl,?_⟩)) | exact Or.inl rfl | refine Or.inr ?_)) rfl ?_;refine br (fun g=>?_) (fun g=>?_)
   ·have g:bb=true:=by simpa using g
    rw [if_pos g];refine call_p fH (hb 15) ax rfl ?_;exact ⟨_,ax,rfl⟩
   ·have g:¬ bb=true:=by simpa using g
    rw [if_neg g];exact ⟨_,(by repeat' (first | exact rfl | exact trivial | exact Or.inr (Or.inl ⟨_,rfl⟩) | exact Or.inr ⟨_,rfl⟩ | exact Or.inl ⟨rfl,rfl⟩ | exact Or.inl rfl | refine Or.inr ⟨_,_,rfl,Nat.zero_le _,rfl,?_⟩ | refine ⟨_,_,rfl,?_,?_⟩ | refine ⟨_,rfl,?_⟩ | exact Sw gk (Nat.zero_le _) rfl | refine Or.inr (Or.inr (Or.inr ⟨_,_,rfl,?_⟩)) | exact Or.inl rfl | refine Or.inr ?_)),rfl⟩
  ·intro _ _ _ _ h;cases h
end
theorem z8 (z:Int):ba Tryz.prog 118 [.v (.int .i64 z)] (.v (.string (if z=1 then ln else jH))):=by
 refine ev_go (P:=Tryz.prog) tt tt_ok 5000 5 [.tmp 2] Tryz.func118 rfl Tryz.ntmps118 rfl (nL rfl) (fun E9 w9 hn9 hm9=>?_);refine br (fun c=>?_) (fun c=>?_)
 ·have c:z=1:=by simpa using c
  rw [if_pos c];exact (rfl:_=_)
 ·have c:¬ z=1:=by simpa using c
  rw [if_neg c];exact (rfl:_=_)
abbrev T4:List DV:=[.v (.int .i64 0),.v (.int .i64 0),.v (.int .i64 0),.v (.string ap),.v (.slice none 0 0),.v (.slice none 0 0)]
abbrev T5 (k:Int) (s:ByteArray) (ky kd:DV):List DV:=[.v (.int .i64 k),.v (.int .i64 0),.v (.int .i64 0),.v (.string s),ky,kd]
abbrev Sz (PC:List DV) (v:Val) (d:Nd) (l:List Int) (rs:List Rw) (q e:Nat):St:=
 ⟨[(0,⟨[],.pt PC 0⟩),(5,⟨[],.loc 0 0⟩),(6,⟨[],.loc 1 0⟩),(7,⟨[],.loc 2 0⟩),(9,⟨[],.sl 1 (ni l) none⟩),(11,⟨[],.loc 3 0⟩),(58,⟨[],.sl 4 (dVals v.ks) none⟩),(59,⟨[],.v (.int .i64 (dVals v.ks).length)⟩),(60,⟨[],.v (.int .i64 e)⟩)],
  [cd v,T4,jR d,T5 4 ap (.v (.slice none 0 0)) (.sl 6 (dRws rs) (some 0))],[⟨q,48,6,none⟩]⟩
abbrev SA (v:Val) (d:Nd) (rs:List Rw) (n e:Nat):St:=
 ⟨[(6,⟨[],.loc 1 0⟩),(11,⟨[],.loc 3 0⟩),(87,⟨[],.sl 10 (fy d.aD) none⟩),(88,⟨[],.v (.int .i64 (fy d.aD).length)⟩),(89,⟨[],.v (.int .i64 e)⟩)],
  [cd v,T4,jR d,T5 5 ap (.sl 2 (bJ ((d.aD.take e).map fun x=>⟨x.name,0⟩)) (some 1)) (.sl 6 (dRws rs) (some 0))],[⟨n,48,6,none⟩,⟨e,38,2,none⟩]⟩
theorem oQ {S:Sch} {ND:List Nd} {PC:List DV} (hP:lm S ND PC):∀ (k:Nat) (v:Val),v.wt<=k->v.wt<=1099511627776->∀ i:Int,fitV ND v i=true->ba Tryz.prog 62 [.pt PC 0,.v (.int .i64 i),.agg (cd v)] (.agg (dRw (rawV ND v i)))
 | 0,v,h,_=>by have:=v.cT;omega
 | k + 1,v,h,hb=>fun i pG=>by
  have ih:=oQ hP k;obtain ⟨d,hF⟩:=gB hP.ok pG
  have SB:rawV ND v i=A5 d v (rawVs ND v.ks (kidsL d v)):=by
   obtain ⟨q,z,s,ks⟩:=v;rw [rawV,hF.ai];rfl
  obtain ⟨h0,hg⟩:=bT hF.ai;obtain ⟨j,rfl⟩:∃ j:Nat,i=j:=⟨i.toNat,by omega⟩;have hg:ND[j]? = some d:=by simpa using hg
  have hN:=hP.ok d (mG hg);have gO:=hN.k1;have GC:=hN.k8;have sa:=fun h5=>kS hN h5 v hb;have dy:=hP.ai j d hg;have ma:=hF.k;have nd:=hF.kids;have Gb:=hF.enum;have xO:=hF.tag;have O3:=hF.opt;have xL:=hN.many;rw [SB];obtain ⟨q,z,s,ks⟩:=v;have gZ:=dL ks;have ed:=bH ks;rw [Val.wt] at h hb;simp only [Val.k,Val.n,Val.ks] at ma nd Gb xO O3;generalize kidsL d (.mk q z s ks)=l at sa nd ⊢;generalize hB:cF d (.mk q z s ks)=kb at sa;have ly:=cK d.aD;have hbl:=bg d.ae
  have L3:A5 d (.mk q z s ks) (rawVs ND ks l)=if q=1 then .mk 1 0 0 (if z=1 then ln else jH) [] []
   else if q=2 then .mk 2 0 z ap [] []
   else if q=3 then .mk 3 0 0 s [] []
   else if q=4 then .mk 1 0 0 (d.ae[z.toNat]?.getD ap) [] []
   else if q=5 then .mk 4 0 0 ap [] (rawVs ND ks l)
   else if q=7 then .mk 5 0 0 ap (d.aD.map fun e=>⟨e.name,0⟩) (rawVs ND ks l)
   else .mk (if 0 < ks.length then 6 else 1) 0 0 (if q=8 then zR d (.mk q z s ks) else if 0 < ks.length then mY else mZ) [] (rawVs ND ks l):=rfl
  simp only [Val.ks] at *;rw [L3];generalize hR:rawVs ND ks l=R;obtain ⟨ag,bp,lo,hi,most,ae,es⟩:=d;simp only at ma gO GC sa nd Gb xO O3 xL ly hbl;refine ev_go (P:=Tryz.prog) tt tt_ok 5000 127 [.cell 6 48] Tryz.func62 rfl Tryz.ntmps62 rfl (nL rfl) (fun E9 w9 hn9 hm9=>?_);refine call_p mB (dy) ax rfl ?_;refine br (fun c=>?_) (fun c=>?_)
  ·have c:q=1:=by simpa using c
   refine call_p M5 (z8 z) ax rfl ?_;rw [if_pos c];exact ⟨_,ax,rfl⟩
  have c1:¬ q=1:=by simpa using c
  rw [if_neg c1];refine br (fun c=>?_) (fun c=>?_)
  ·have c:q=2:=by simpa using c
   rw [if_pos c];exact ⟨_,ax,rfl⟩
  have c2:¬ q=2:=by simpa using c
  rw [if_neg c2];refine br (fun c=>?_) (fun c=>?_)
  ·have c:q=3:=by simpa using c
   rw [if_pos c];exact ⟨_,ax,rfl⟩
  have c3:¬ q=3:=by simpa using c
  rw [if_neg c3];refine br (fun c=>?_) (fun c=>?_)
  ·have c:q=4:=by simpa using c
   obtain ⟨z0,z1⟩:=Gb (by omega);obtain ⟨x,hx⟩:∃ x,ae[z.toNat]? = some x:=⟨_,gE (by omega)⟩;rw [if_pos c];simp only [hx,Option.getD_some];refine ⟨_,⟨by omega,dN hx⟩,?_⟩;exact ⟨_,ax,rfl⟩
  have c4:¬ q=4:=by simpa using c
  rw [if_neg c4];obtain ⟨K9,Gt⟩:=nd (by omega);refine call_p Hj (sa (by omega)) ax rfl ?_;refine bU (fun j st=>∃ e:Nat,st=Sz PC (.mk q z s ks) ⟨ag,bp,lo,hi,most,ae,es⟩ l (rawVs ND (ks.take e) (l.take e)) e e/\e<=ks.length/\j=ks.length - e) ks.length (Sz PC (.mk q z s ks) ⟨ag,bp,lo,hi,most,ae,es⟩ l [] 0 0) (dn 4 ⟨0,48,6,none⟩ rfl rfl rfl (by repeat' (first | exact rfl | exact aw rfl | exact bQ (Nat.le_refl _) rfl | exact bQ (Nat.le_refl _) rfl | refine ⟨_,_,rfl,?_,?_⟩)) rfl rfl aX) ⟨0,rfl,by omega,by omega⟩ ?_;rintro _ st ⟨e,rfl,he,rfl⟩;refine br (fun hL=>?_) (fun hL=>?_)
  ·have au:e < ks.length:=by simpa [ed,Val.ks] using hL
   obtain ⟨x,hx⟩:∃ x,ks[e]? = some x:=⟨_,gE au⟩;obtain ⟨i',eP⟩:∃ i',l[e]? = some i':=⟨_,gE (by omega)⟩;have Fh:=cY (mG hx);have hw:=ih x (by omega) (by omega) i' (na Gt hx eP);have eQ:=ry (ND:=ND) hx eP;generalize rawV ND x i'=r at hw eQ;obtain ⟨xk,xn,xs,xl⟩:=x;refine ⟨_,⟨by omega,cI (by simpa [Val.ks] using hx)⟩,?_⟩
   have SC:(rawVs ND (ks.take e) (l.take e)).length=e:=by
    rw [iQ]
    ·rw [List.length_take];omega
    ·rw [List.length_take,List.length_take];omega
   obtain ⟨rk,ra,rn,rs,rky,rks⟩:=r;refine G7 mo (by decide +kernel) ?_;refine ⟨_,⟨by omega,jG eP⟩,?_⟩;refine G8 MU (hw) ax rfl ?_;refine ⟨by rw [gY,SC],⟨by rw [gY,SC];simp [maxLen];omega,by rw [gY,SC];simp;omega⟩,?_⟩;exact ⟨Sz PC (.mk q z s ks) ⟨ag,bp,lo,hi,most,ae,es⟩ l (rawVs ND (ks.take (e + 1)) (l.take (e + 1))) (e + 1) (e + 1),(aS 4 rfl (by repeat' (first | exact rfl | exact aw rfl | exact ay (bA au (by omega)) | exact dG ((tQ _ _).trans (congrArg dRws eQ.symm)) rfl | refine ⟨_,_,rfl,?_,?_⟩)) rfl rfl rfl (by repeat' (first | exact trivial | exact aw rfl | exact ay (bA au (by omega)) | exact dG ((tQ _ _).trans (congrArg dRws eQ.symm)) rfl | refine ⟨⟨_,rfl,?_⟩,?_⟩))),ks.length - (e + 1),by omega,e + 1,rfl,by omega,rfl⟩
  ·have bI:e=ks.length:=by
    have:=hL;simp [ed,Val.ks] at this;omega
   have ht:rawVs ND (ks.take e) (l.take e)=R:=by rw [bI,List.take_length,<- K9,List.take_length,hR]
   rw [ht];refine br (fun c=>?_) (fun c=>?_)
   ·have c:q=5:=by simpa using c
    rw [if_pos c];exact ⟨_,ax,rfl⟩
   have c5:¬ q=5:=by simpa using c
   rw [if_neg c5];refine br (fun c=>?_) (fun c=>?_)
   ·have c:q=7:=by simpa using c
    rw [if_pos c];have Sc:=(xL (.inl (by omega))).1;refine bU (fun j st=>∃ u:Nat,st=SA (.mk q z s ks) ⟨ag,bp,lo,hi,most,ae,es⟩ R e u/\u<=es.length/\j=es.length - u) es.length (SA (.mk q z s ks) ⟨ag,bp,lo,hi,most,ae,es⟩ R e 0) (dn 4 ⟨0,38,2,none⟩ rfl rfl rfl (by repeat' (first | exact rfl | exact aw rfl | exact bQ (Nat.le_refl _) rfl | exact bQ (Nat.le_refl _) rfl | refine ⟨_,_,rfl,?_,?_⟩)) rfl rfl aX) ⟨0,rfl,by omega,by omega⟩ ?_;rintro _ st ⟨u,rfl,hu,rfl⟩;refine br (fun hL=>?_) (fun hL=>?_)
    ·have au:u < es.length:=by simpa [ly] using hL
     obtain ⟨x,hx⟩:∃ x,es[u]? = some x:=⟨_,gE au⟩;have jN:(bJ ((es.take u).map fun x=>⟨x.name,0⟩)).length=u:=by simp [bJ];omega
     have eQ:bJ ((es.take u).map fun x=>⟨x.name,0⟩) ++ [oY ⟨x.name,0⟩]=bJ ((es.take (u + 1)).map fun x=>⟨x.name,0⟩):=by rw [List.take_add_one,hx];simp [bJ]
     refine ⟨_,⟨by omega,cX hx⟩,?_⟩;refine ⟨jN,⟨by rw [jN];simp [maxLen];omega,by rw [jN];simp;omega⟩,?_⟩;exact ⟨SA (.mk q z s ks) ⟨ag,bp,lo,hi,most,ae,es⟩ R e (u + 1),(aS 4 rfl (aK au eQ) rfl rfl rfl (aj au eQ)),es.length - (u + 1),by omega,u + 1,rfl,by omega,rfl⟩
    ·have bI:u=es.length:=by
      have:=hL;simp [ly] at this;omega
     have ht:es.take u=es:=by rw [bI,List.take_length]
     rw [ht];exact ⟨_,ax,rfl⟩
   have c7:¬ q=7:=by simpa using c
   rw [if_neg c7];refine br (fun c=>?_) (fun c=>?_)
   ·have c:q=8:=by simpa using c
    obtain ⟨x,htg,hx,z0,z1,hbr⟩:=xO (by omega);rw [if_pos c];have hn:zR ⟨ag,bp,lo,hi,most,ae,es⟩ (.mk q z s ks)=x.name:=by unfold zR;rw [htg]
    rw [hn];refine ⟨_,⟨by omega,cX hx⟩,?_⟩;refine br (fun c=>?_) (fun c=>?_)
    ·have c:0 < ks.length:=by simpa [ed] using c
     rw [if_pos c];exact ⟨_,ax,rfl⟩
    ·have c:¬ 0 < ks.length:=by simpa [ed] using c
     rw [if_neg c];exact ⟨_,ax,rfl⟩
   have c8:¬ q=8:=by simpa using c
   rw [if_neg c8];refine br (fun c=>?_) (fun c=>?_)
   ·refine br (fun c=>?_) (fun c=>?_)
    ·have c:0 < ks.length:=by simpa [ed,Val.ks] using c
     rw [if_pos c,if_pos c];refine br (fun _=>?_) (fun c'=>?_)
     ·exact ⟨_,ax,rfl⟩
     ·exact absurd c (by simpa [ed,Val.ks] using c')
    ·have c:¬ 0 < ks.length:=by simpa [ed,Val.ks] using c
     rw [if_neg c,if_neg c];refine br (fun c'=>?_) (fun _=>?_)
     ·exact absurd (by simpa [ed,Val.ks] using c') c
     ·exact ⟨_,ax,rfl⟩
   ·have c:¬ q=6:=by simpa using c
    omega
abbrev O4:Rw:=.mk 0 0 0 ap [] []
theorem ub {S:Sch} {ND:List Nd} {PC:List DV} (hP:lm S ND PC) (v:Val) (hv:v.wt<=1099511627776) (i:Int) :
  ba Tryz.prog 21 [.pt PC 0,.v (.int .i64 i),.agg (cd v)] (.dV [.agg (dRw (if fitV ND v i=true then rawV ND v i else O4)),.v (.bool (fitV ND v i))]):=by
 have hf:=fA hP v.wt v (Nat.le_refl _) hv i;have hw:=oQ hP v.wt v (Nat.le_refl _) hv i
 cases hc:fitV ND v i with
 | false=>
  rw [hc] at hf;rw [if_neg (by simp)];obtain ⟨q,z,s,ks⟩:=v;refine ev_go (P:=Tryz.prog) tt tt_ok 5000 18 [.cell 6 48,.tmp 7] Tryz.func21 rfl Tryz.ntmps21 rfl (nL rfl) (fun E9 w9 hn9 hm9=>?_);refine call_p yQ (hf) ax rfl ?_;exact ⟨_,ax,rfl⟩
 | true=>
  rw [hc] at hf;have hw:=hw hc;rw [if_pos rfl];generalize rawV ND v i=r at hw ⊢;obtain ⟨rk,ra,rn,rs,rky,rks⟩:=r;obtain ⟨q,z,s,ks⟩:=v;refine ev_go (P:=Tryz.prog) tt tt_ok 5000 18 [.cell 6 48,.tmp 7] Tryz.func21 rfl Tryz.ntmps21 rfl (nL rfl) (fun E9 w9 hn9 hm9=>?_);refine call_p yQ (hf) ax rfl ?_;refine call_p MU (hw) ax rfl ?_;exact ⟨_,ax,rfl⟩
end Go.Proofs.YtfifjddnnmfeoaaGreat
set_option maxRecDepth 100000
namespace Go.Proofs.YtfifjddnnmfeoaaGreat
open Go Go.RowKit Dv Tryz
end Go.Proofs.YtfifjddnnmfeoaaGreat
set_option maxRecDepth 100000
namespace Go.Proofs.YtfifjddnnmfeoaaGreat
open Go Go.RowKit Dv Tryz
mutual
def RwOK:Rw->Prop
 | .mk _ _ _ _ keys ks=>keys.length<=64/\RwOKs ks
def RwOKs:List Rw->Prop
 | []=>True
 | v :: r=>RwOK v/\RwOKs r
end
mutual
theorem Gc {L:Nat} {ND:List Nd} (dh:∀ n∈ND,n5 L ND.length n):∀ (v:Val) (i:Int),fitV ND v i=true->RwOK (rawV ND v i)
 | .mk q z s ks,i,h=>by
  obtain ⟨d,hF⟩:=gB dh h;have hN:=dh d (mG (bT hF.ai).2)
  have hk:RwOKs (rawVs ND ks (kidsL d (.mk q z s ks))):=by
   by_cases h5:d.ag < 5
   ·rw [show ks=[] from hF.leaf h5];simp [rawVs,RwOKs]
   ·exact Bh dh ks _ (hF.kids (by omega)).2
  have hq:q=d.ag:=hF.k;rw [rawV,hF.ai];have h7:q=7->d.aD.length<=64:=fun c=>(hN.many (.inl (by omega))).1
  have L3:∀ R,A5 d (.mk q z s ks) R=if q=1 then .mk 1 0 0 (if z=1 then ln else jH) [] []
   else if q=2 then .mk 2 0 z ap [] []
   else if q=3 then .mk 3 0 0 s [] []
   else if q=4 then .mk 1 0 0 (d.ae[z.toNat]?.getD ap) [] []
   else if q=5 then .mk 4 0 0 ap [] R
   else if q=7 then .mk 5 0 0 ap (d.aD.map fun e=>⟨e.name,0⟩) R
   else .mk (if 0 < ks.length then 6 else 1) 0 0 (if q=8 then zR d (.mk q z s ks) else if 0 < ks.length then mY else mZ) [] R:=fun _=>rfl
  show RwOK (A5 d (.mk q z s ks) _);rw [L3];by_cases c1:q=1
  ·rw [if_pos c1];simp [RwOK,RwOKs]
  rw [if_neg c1];by_cases c2:q=2
  ·rw [if_pos c2];simp [RwOK,RwOKs]
  rw [if_neg c2];by_cases c3:q=3
  ·rw [if_pos c3];simp [RwOK,RwOKs]
  rw [if_neg c3];by_cases c4:q=4
  ·rw [if_pos c4];simp [RwOK,RwOKs]
  rw [if_neg c4];by_cases c5:q=5
  ·rw [if_pos c5];simp [RwOK,hk]
  rw [if_neg c5];by_cases c7:q=7
  ·rw [if_pos c7];simp [RwOK,hk,h7 c7]
  rw [if_neg c7];simp [RwOK,hk]
theorem Bh {L:Nat} {ND:List Nd} (dh:∀ n∈ND,n5 L ND.length n):∀ (ks:List Val) (l:List Int),fitVs ND ks l=true->RwOKs (rawVs ND ks l)
 | v :: r,i :: l,h=>by
  rw [fitVs,Bool.and_eq_true] at h;rw [rawVs,RwOKs];exact ⟨Gc dh v i h.1,Bh dh r l h.2⟩
 | [],_,_=>by simp [rawVs,RwOKs]
 | _ :: _,[],_=>by simp [rawVs,RwOKs]
end
mutual
def RwB:Rw->Prop
 | .mk _ _ _ _ keys ks=>keys.length<=1099511627776/\RwBs ks
def RwBs:List Rw->Prop
 | []=>True
 | v :: r=>RwB v/\RwBs r
end
theorem x7:∀ {l:List Rw} {x:Rw},RwBs l->x∈l->RwB x
 | v :: r,x,h,hm=>by
  rw [RwBs] at h;rcases List.mem_cons.1 hm with rfl | hm
  ·exact h.1
  ·exact x7 h.2 hm
mutual
theorem Gd:∀ r:Rw,RwOK r->RwB r
 | .mk _ _ _ _ keys ks,h=>by
  rw [RwOK] at h;rw [RwB];exact ⟨by omega,Bi ks h.2⟩
theorem Bi:∀ l:List Rw,RwOKs l->RwBs l
 | [],_=>trivial
 | v :: r,h=>by
  rw [RwOKs] at h;rw [RwBs];exact ⟨Gd v h.1,Bi r h.2⟩
end
mutual
def sj:Rw->Nat
 | .mk _ _ _ s keys ks=>64 + s.size + wdsWt keys + e8 ks
def e8:List Rw->Nat
 | []=>0
 | v :: r=>sj v + e8 r
end
theorem x8:∀ {l:List Rw} {x:Rw},x∈l->sj x<=e8 l
 | v :: r,x,h=>by
  rw [e8];rcases List.mem_cons.1 h with rfl | h
  ·omega
  ·have:=x8 h;omega
theorem Bj:∀ r:Rw,64<=sj r
 | .mk _ _ _ _ _ _=>by rw [sj];omega
theorem x9:∀ l:List Rw,l.length<=e8 l
 | []=>Nat.le_refl _
 | v :: r=>by
  have:=x9 r;have:=Bj v;rw [e8,List.length_cons];omega
mutual
theorem Ge:∀ r:Rw,sj r<=1099511627776->RwB r
 | .mk _ _ _ s keys ks,h=>by
  rw [sj] at h;rw [RwB];have:=cv keys;exact ⟨by omega,Bl ks (by omega)⟩
theorem Bl:∀ l:List Rw,e8 l<=1099511627776->RwBs l
 | [],_=>trivial
 | v :: r,h=>by
  rw [e8] at h;rw [RwBs];exact ⟨Ge v (by omega),Bl r (by omega)⟩
end
mutual
def sm:Rw->Nat
 | .mk _ _ _ _ _ ks=>fj ks + 1
def fj:List Rw->Nat
 | []=>0
 | v :: r=>max (sm v) (fj r)
end
mutual
theorem Bm:∀ v:Rw,ku v<=sj v/\sm v<=sj v
 | .mk _ _ _ _ _ ks=>by
  have:=rJ ks;rw [ku,sm,sj];omega
theorem rJ:∀ l:List Rw,gg l<=e8 l/\fj l<=e8 l
 | []=>⟨Nat.le_refl _,Nat.le_refl _⟩
 | v :: r=>by
  have h1:=Bm v;have h2:=rJ r;rw [gg,fj,e8];omega
end
theorem rK:∀ (l:List Rw) (x:Rw),gg (l ++ [x])=gg l + ku x
 | [],x=>by simp [gg]
 | v :: r,x=>by rw [List.cons_append,gg,gg,rK r];omega
theorem rL:∀ (l:List Rw) (x:Rw),fj (l ++ [x])=max (fj l) (sm x)
 | [],x=>by simp [fj]
 | v :: r,x=>by rw [List.cons_append,fj,fj,rL r];omega
theorem Aa (l:List Rw):∀ e,gg (l.take e)<=e8 l/\fj (l.take e)<=e8 l:=fun e=>by
 have h1:=rJ (l.take e)
 have h2:∀ (l:List Rw) e,e8 (l.take e)<=e8 l:=by
  intro l
  induction l with
  | nil=>intro e;simp [e8]
  | cons v r ih=>
   intro e
   cases e with
   | zero=>simp [e8]
   | succ e=>have:=ih e;simp only [List.take_succ_cons,e8];omega
 have:=h2 l e;omega
abbrev O5 (v:Rw) (n d e:Nat):St:=
 ⟨[(1,⟨[],.loc 0 0⟩),(4,⟨[],.v (.int .i64 n)⟩),(5,⟨[],.v (.int .i64 d)⟩),(6,⟨[],.v (.int .i64 e)⟩)],[dRw v],[]⟩
theorem oR:∀ (k:Nat) (v:Rw),sj v<=k->sj v<=1099511627776->ba Tryz.prog 17 [.agg (dRw v)] (.dV [.v (.int .i64 (ku v:Nat)),.v (.int .i64 (sm v:Nat))])
 | 0,v,h,_=>by have:=Bj v;omega
 | k + 1,.mk q a n s keys ks,h,hb=>by
  have ih:=oR k;have ed:=gY ks;have gZ:=x9 ks;have oo:=Aa ks;rw [sj] at h hb;rw [ku,sm];refine ev_go (P:=Tryz.prog) tt tt_ok 5000 35 [.tmp 2,.tmp 3] Tryz.func17 rfl Tryz.ntmps17 rfl (nL rfl) (fun E9 w9 hn9 hm9=>?_);refine bU (fun j st=>∃ e:Nat,st=O5 (.mk q a n s keys ks) (1 + gg (ks.take e)) (fj (ks.take e)) e/\e<=ks.length/\j=ks.length - e) ks.length (O5 (.mk q a n s keys ks) 1 0 0) (aq ⟨_,rfl⟩ wA rfl rfl rfl wB) ⟨0,rfl,by omega,by omega⟩ ?_;rintro j st ⟨e,rfl,he,rfl⟩;refine br (fun hL=>?_) (fun hL=>?_)
  ·have au:e < ks.length:=by have:=hL;simp [ed] at this;exact this
   obtain ⟨x,hx⟩:∃ x,ks[e]? = some x:=⟨_,gE au⟩;have Fh:=x8 (mG hx);have hc:=rK (ks.take e) x;have hd:=rL (ks.take e) x;rw [<- gA hx] at hc hd;have h1:=oo (e + 1);have hi:=ih x (by omega) (by omega);have Lq:=Bm x;obtain ⟨xk,xa,xn,xs,xq,xl⟩:=x;refine ⟨_,⟨by omega,rr hx⟩,?_⟩;refine call_p Kv (hi) ax rfl ?_;have hw:IntKind.i64.wrap (((1 + gg (ks.take e):Nat):Int) + ((ku (.mk xk xa xn xs xq xl):Nat):Int))=((1 + gg (ks.take (e + 1)):Nat):Int):=by rw [wrap64 (by omega) (by omega)];omega
   refine br (fun g=>?_) (fun g=>?_)
   ·have g:fj (ks.take e) < sm (.mk xk xa xn xs xq xl):=by simpa using g
    have yH:((sm (.mk xk xa xn xs xq xl):Nat):Int)=((fj (ks.take (e + 1)):Nat):Int):=by omega
    exact ⟨O5 (.mk q a n s keys ks) (1 + gg (ks.take (e + 1))) (fj (ks.take (e + 1))) (e + 1),(aq ⟨_,rfl⟩ wA rfl rfl rfl (by repeat' (first | exact trivial | exact aw rfl | exact ay hw | exact ay yH | exact ay (bA au (by omega)) | refine ⟨⟨_,rfl,?_⟩,?_⟩))),ks.length - (e + 1),by omega,e + 1,rfl,by omega,rfl⟩
   ·have g:¬ fj (ks.take e) < sm (.mk xk xa xn xs xq xl):=by simpa using g
    have yH:((fj (ks.take e):Nat):Int)=((fj (ks.take (e + 1)):Nat):Int):=by omega
    exact ⟨O5 (.mk q a n s keys ks) (1 + gg (ks.take (e + 1))) (fj (ks.take (e + 1))) (e + 1),(aq ⟨_,rfl⟩ wA rfl rfl rfl (by repeat' (first | exact trivial | exact aw rfl | exact ay hw | exact ay yH | exact ay (bA au (by omega)) | refine ⟨⟨_,rfl,?_⟩,?_⟩))),ks.length - (e + 1),by omega,e + 1,rfl,by omega,rfl⟩
  ·have bI:e=ks.length:=by have:=hL;simp [ed] at this;omega
   subst bI;have h1:=oo ks.length;rw [List.take_length] at h1 ⊢;have hw:IntKind.i64.wrap (((fj ks:Nat):Int) + 1)=((fj ks + 1:Nat):Int):=by rw [wrap64 (by omega) (by omega)];omega
   refine ⟨_,(aI hw),rfl⟩
set_option maxHeartbeats 4000000 in
theorem jJ {S:Sch} {ND:List Nd} {PC:List DV} (hP:lm S ND PC):∀ (m:Nat) (r:Rw),ku r<=m->RwB r->∀ i:Int,ba Tryz.prog 18 [.pt PC 0,.v (.int .i64 i),.agg (dRw r)] (rC (ckV ND r i))
 | 0,r,h,_=>by have:=ru r;omega
 | m + 1,.mk k a n s keys ks,h,hB=>fun i=>by
  have ih:=jJ hP m;rw [RwB] at hB;rw [ku] at h;have T0:=hB.1;have PX:∀ r∈ks,∀ i:Int,ba Tryz.prog 18 [.pt PC 0,.v (.int .i64 i),.agg (dRw r)] (rC (ckV ND r i)):=fun r hr=>ih r (by have:=kT hr;omega) (x7 hB.2 hr);clear ih hB h;rw [ckV];have dy:=hP.ai;have zQ:=hP.FO;have dh:=hP.ok
  cases hd:ek ND i with
  | none=>
   refine ev_go (P:=Tryz.prog) tt tt_ok 5000 79 [.cell 6 45,.cell 7 54] Tryz.func18 rfl Tryz.ntmps18 rfl (nL rfl) (fun E9 w9 hn9 hm9=>?_);refine call_p mB (zQ i (rm hd)) ax rfl ?_;exact ⟨_,ax,rfl⟩
  | some d=>
   obtain ⟨h0,hg⟩:=bT hd;obtain ⟨j,rfl⟩:∃ j:Nat,i=j:=⟨i.toNat,by omega⟩;have hg:ND[j]? = some d:=by simpa using hg
   have hN:=dh d (mG hg);have gO:=hN.k1;have GC:=hN.k8
   have ly:d.aD.length<=1099511627776:=by
    by_cases c:d.ag < 5
    ·rw [hN.leaf c];simp
    by_cases c2:d.ag=5∨d.ag=6
    ·obtain ⟨e,he,_⟩:=hN.one c2;rw [he];simp
    ·have:=(hN.many (by omega)).1;omega
   have dy:=dy j _ hg;simp only;rcases (show d.ag=1∨d.ag=2∨d.ag=3∨d.ag=4∨d.ag=5∨d.ag=6∨d.ag=7∨d.ag=8 by omega) with c | c | c | c | c | c | c | c
   ·have hx:=vp d c k a n s keys ks;rw [if_pos (by omega)];generalize ckLeaf d k a n s=R at hx ⊢;obtain ⟨⟨Rk,Rn,Rs,Rl⟩,Re,Ra⟩:=R;obtain ⟨ag,bp,lo,hi,most,ae,es⟩:=d;simp only at c;subst c;refine ev_go (P:=Tryz.prog) tt tt_ok 5000 79 [.cell 6 45,.cell 7 54] Tryz.func18 rfl Tryz.ntmps18 rfl (nL rfl) (fun E9 w9 hn9 hm9=>?_);refine call_p mB (dy) ax rfl ?_;refine call_p QJ (hx) ax rfl ?_;exact ⟨_,ax,rfl⟩
   ·have hx:=se d c k a n s keys ks;rw [if_pos (by omega)];generalize ckLeaf d k a n s=R at hx ⊢;obtain ⟨⟨Rk,Rn,Rs,Rl⟩,Re,Ra⟩:=R;obtain ⟨ag,bp,lo,hi,most,ae,es⟩:=d;simp only at c;subst c;refine ev_go (P:=Tryz.prog) tt tt_ok 5000 79 [.cell 6 45,.cell 7 54] Tryz.func18 rfl Tryz.ntmps18 rfl (nL rfl) (fun E9 w9 hn9 hm9=>?_);refine call_p mB (dy) ax rfl ?_;refine call_p QK (hx) ax rfl ?_;exact ⟨_,ax,rfl⟩
   ·have hx:=xS d c k a n s keys ks;rw [if_pos (by omega)];generalize ckLeaf d k a n s=R at hx ⊢;obtain ⟨⟨Rk,Rn,Rs,Rl⟩,Re,Ra⟩:=R;obtain ⟨ag,bp,lo,hi,most,ae,es⟩:=d;simp only at c;subst c;refine ev_go (P:=Tryz.prog) tt tt_ok 5000 79 [.cell 6 45,.cell 7 54] Tryz.func18 rfl Tryz.ntmps18 rfl (nL rfl) (fun E9 w9 hn9 hm9=>?_);refine call_p mB (dy) ax rfl ?_;refine call_p QL (hx) ax rfl ?_;exact ⟨_,ax,rfl⟩
   ·have hx:=xT d c (by have:=(hN.ae c).2.1;omega) k a n s keys ks;rw [if_pos (by omega)];generalize ckLeaf d k a n s=R at hx ⊢;obtain ⟨⟨Rk,Rn,Rs,Rl⟩,Re,Ra⟩:=R;obtain ⟨ag,bp,lo,hi,most,ae,es⟩:=d;simp only at c;subst c;refine ev_go (P:=Tryz.prog) tt tt_ok 5000 79 [.cell 6 45,.cell 7 54] Tryz.func18 rfl Tryz.ntmps18 rfl (nL rfl) (fun E9 w9 hn9 hm9=>?_);refine call_p mB (dy) ax rfl ?_;refine call_p QM (hx) ax rfl ?_;exact ⟨_,ax,rfl⟩
   ·obtain ⟨y,hy,_⟩:=hN.one (by omega);have pP:d.aD[0]? = some y:=by rw [hy];all_goals rfl
    have O2:rz d 0=y.to:=by unfold rz;rw [pP]
    have hx:=x4 PC d c pP (hN.JE c).2 k a n s keys ks (fun r hr=>PX r hr y.to);rw [if_neg (by omega),if_pos c,O2]
    suffices key:∀ R:FT,ba Tryz.prog 56 [.pt PC 0,.agg (jR d),.agg (dRw (.mk k a n s keys ks))] (rC R)->ba Tryz.prog 18 [.pt PC 0,.v (.int .i64 (j:Nat)),.agg (dRw (.mk k a n s keys ks))] (rC R) from key _ hx
    clear hx;rintro ⟨⟨Rk,Rn,Rs,Rl⟩,Re,Ra⟩ hx;obtain ⟨ag,bp,lo,hi,most,ae,es⟩:=d;simp only at c;subst c;refine ev_go (P:=Tryz.prog) tt tt_ok 5000 79 [.cell 6 45,.cell 7 54] Tryz.func18 rfl Tryz.ntmps18 rfl (nL rfl) (fun E9 w9 hn9 hm9=>?_);refine call_p mB (dy) ax rfl ?_;refine call_p QN (hx) ax rfl ?_;exact ⟨_,ax,rfl⟩
   ·obtain ⟨y,hy,_⟩:=hN.one (by omega);have pP:d.aD[0]? = some y:=by rw [hy];all_goals rfl
    have O2:rz d 0=y.to:=by unfold rz;rw [pP]
    have hx:=z6 PC d pP k a n s keys ks (fun r hr=>PX r hr y.to);rw [if_neg (by omega),if_neg (by omega),if_pos c,O2]
    suffices key:∀ R:FT,ba Tryz.prog 57 [.pt PC 0,.agg (jR d),.agg (dRw (.mk k a n s keys ks))] (rC R)->ba Tryz.prog 18 [.pt PC 0,.v (.int .i64 (j:Nat)),.agg (dRw (.mk k a n s keys ks))] (rC R) from key _ hx
    clear hx;rintro ⟨⟨Rk,Rn,Rs,Rl⟩,Re,Ra⟩ hx;obtain ⟨ag,bp,lo,hi,most,ae,es⟩:=d;simp only at c;subst c;refine ev_go (P:=Tryz.prog) tt tt_ok 5000 79 [.cell 6 45,.cell 7 54] Tryz.func18 rfl Tryz.ntmps18 rfl (nL rfl) (fun E9 w9 hn9 hm9=>?_);refine call_p mB (dy) ax rfl ?_;refine call_p QO (hx) ax rfl ?_;exact ⟨_,ax,rfl⟩
   ·have hx:=si PC d ly k a n s keys ks T0 (fun r hr e _=>PX r hr e.to);rw [if_neg (by omega),if_neg (by omega),if_neg (by omega),if_pos c]
    suffices key:∀ R:FT,ba Tryz.prog 58 [.pt PC 0,.agg (jR d),.agg (dRw (.mk k a n s keys ks))] (rC R)->ba Tryz.prog 18 [.pt PC 0,.v (.int .i64 (j:Nat)),.agg (dRw (.mk k a n s keys ks))] (rC R) from key _ hx
    clear hx;rintro ⟨⟨Rk,Rn,Rs,Rl⟩,Re,Ra⟩ hx;obtain ⟨ag,bp,lo,hi,most,ae,es⟩:=d;simp only at c;subst c;refine ev_go (P:=Tryz.prog) tt tt_ok 5000 79 [.cell 6 45,.cell 7 54] Tryz.func18 rfl Tryz.ntmps18 rfl (nL rfl) (fun E9 w9 hn9 hm9=>?_);refine call_p mB (dy) ax rfl ?_;refine call_p QP (hx) ax rfl ?_;exact ⟨_,ax,rfl⟩
   ·have hx:=union24_spec PC d ly k a n s keys ks (fun r hr e _ _=>PX r hr e.to);rw [if_neg (by omega),if_neg (by omega),if_neg (by omega),if_neg (by omega)]
    suffices key:∀ R:FT,ba Tryz.prog 59 [.pt PC 0,.agg (jR d),.agg (dRw (.mk k a n s keys ks))] (rC R)->ba Tryz.prog 18 [.pt PC 0,.v (.int .i64 (j:Nat)),.agg (dRw (.mk k a n s keys ks))] (rC R) from key _ hx
    clear hx;rintro ⟨⟨Rk,Rn,Rs,Rl⟩,Re,Ra⟩ hx;obtain ⟨ag,bp,lo,hi,most,ae,es⟩:=d;simp only at c;subst c;refine ev_go (P:=Tryz.prog) tt tt_ok 5000 79 [.cell 6 45,.cell 7 54] Tryz.func18 rfl Tryz.ntmps18 rfl (nL rfl) (fun E9 w9 hn9 hm9=>?_);refine call_p mB (dy) ax rfl ?_;refine call_p QQ (hx) ax rfl ?_;exact ⟨_,ax,rfl⟩
theorem lR {L:List ByteArray} (h:L.Nodup) {i:Nat} {s:ByteArray} (hi:L[i]? = some s):dc L s=some i:=by
 refine AR hi fun j hj=>?_;rw [<- hi] at hj;exact Nat.le_of_eq ((List.getElem?_inj (gS hi).1 h).1 hj.symm)
theorem pz {ND:List Nd} {j:Int}:∀ {ks:List Val} {acc:List Val},(∀ x∈ks,fitV ND x j=true->ckV ND (rawV ND x j) j=hU x)->fitVs ND ks (List.replicate ks.length j)=true->ckL ND (rawVs ND ks (List.replicate ks.length j)) j acc=(acc ++ ks,0,0)
 | [],acc,_,_=>by simp [rawVs,ckL]
 | x :: r,acc,ih,h=>by
  rw [List.length_cons,List.replicate_succ,fitVs,Bool.and_eq_true] at h;rw [List.length_cons,List.replicate_succ,rawVs,ckL,ih x List.mem_cons_self h.1];simp only [hU,ne_eq,not_true,if_false];rw [pz (fun y hy=>ih y (List.mem_cons_of_mem _ hy)) h.2];simp
theorem Bn {ND:List Nd} {d:Nd} (hnd:(d.aD.map Ed.name).Nodup):∀ {ks:List Val} {es:List Ed} {e:Nat} {acc:List (Option Val)},es=d.aD.drop e->ks.length=es.length->acc.length=d.aD.length->(∀ c,e<=c->acc.getD c none=none)->(∀ x∈ks,∀ i,fitV ND x i=true->ckV ND (rawV ND x i) i=hU x)->fitVs ND ks (es.map Ed.to)=true ->
  ckK ND d (rawVs ND ks (es.map Ed.to)) (es.map fun e=>⟨e.name,0⟩) acc=(acc.take e ++ ks.map some,0,0)
 | [],[],e,acc,he,_,hl,_,_,_=>by
  have:d.aD.length<=e:=List.drop_eq_nil_iff.1 he.symm;rw [List.take_of_length_le (by omega)];simp [rawVs,ckK]
 | x :: r,y :: es,e,acc,he,hlen,hl,hn,ih,h=>by
  have hy:d.aD[e]? = some y:=by
   have:(d.aD.drop e)[0]? = some y:=by rw [<- he];all_goals rfl
   rwa [List.getElem?_drop,Nat.add_zero] at this
  have ly:=(gS hy).1;have Ik:vj d y.name=some e:=lR hnd (by rw [List.getElem?_map,hy];rfl);have PD:rz d e=y.to:=by unfold rz;rw [hy]
  rw [List.map_cons,fitVs,Bool.and_eq_true] at h;rw [List.map_cons,List.map_cons,rawVs,ckK];simp only [Ik];rw [hn e (Nat.le_refl e),PD,ih x List.mem_cons_self _ h.1];simp only [Option.isSome_none,Bool.false_eq_true,if_false,hU,ne_eq,not_true]
  rw [Bn hnd (e:=e + 1) (by rw [<- List.drop_drop,<- he];rfl) (by simpa using hlen) (by rw [List.length_set];exact hl) (fun c hc=>by
   rw [List.getD_eq_getElem?_getD,List.getElem?_set_ne (by omega),<- List.getD_eq_getElem?_getD]
   exact hn c (by omega)) (fun z hz=>ih z (List.mem_cons_of_mem _ hz)) h.2]
  rw [List.take_add_one,List.getElem?_set_self (by omega),List.take_set_of_le (Nat.le_refl e)];simp
 | [],_ :: _,_,_,_,h,_,_,_,_=>by simp at h
 | _ :: _,[],_,_,_,h,_,_,_,_=>by simp at h
theorem lS {k n:Int} {s:ByteArray} {ks:List Val} (h:cN (.mk k n s ks)=true):s=ap/\(n=0∨k=8):=by
 unfold cN at h;rw [Bool.and_eq_true,Bool.or_eq_true] at h;exact ⟨of_decide_eq_true h.1,h.2.imp of_decide_eq_true of_decide_eq_true⟩
theorem kidsB_567 {d:Nd} {k n:Int} {s:ByteArray} {ks:List Val} (h:cF d (.mk k n s ks)=true) (c:d.ag=5∨d.ag=6∨d.ag=7):k=d.ag/\n=0/\s=ap/\(d.ag=5->(ks.length:Int)<=d.most)/\(d.ag=6->ks.length<=1)/\(d.ag=7->d.aD.length=ks.length):=by
 unfold cF at h;by_cases c7:d.ag=7
 ·rw [if_neg (by omega),if_pos c7,Bool.and_eq_true,Bool.and_eq_true] at h;obtain ⟨h1,h2⟩:=lS h.1.1;have h3:k=7:=of_decide_eq_true h.1.2;have h4:d.aD.length=ks.length:=of_decide_eq_true h.2;exact ⟨by omega,by omega,h1,fun _=>by omega,fun _=>by omega,fun _=>h4⟩
 ·rw [if_pos (by omega),Bool.and_eq_true,Bool.and_eq_true] at h;obtain ⟨h1,h2⟩:=lS h.1.1;have h3:k=d.ag:=of_decide_eq_true h.1.2;have h4:(ks.length:Int)<=if d.ag=6 then 1 else d.most:=of_decide_eq_true h.2
  refine ⟨h3,by omega,h1,fun c5=>?_,fun c6=>?_,fun c=>(c7 c).elim⟩
  ·rwa [if_neg (by omega)] at h4
  ·rw [if_pos c6] at h4;omega
theorem Gf {L:Nat} {ND:List Nd} (dh:∀ n∈ND,n5 L ND.length n):∀ (m:Nat) (v:Val),v.wt<=m->∀ i,fitV ND v i=true->ckV ND (rawV ND v i) i=hU v
 | 0,v,h=>by have:=v.cT;omega
 | m + 1,.mk k n s ks,h=>fun i hf=>by
  have ih:∀ x∈ks,∀ i,fitV ND x i=true->ckV ND (rawV ND x i) i=hU x:=fun x hx=>Gf dh m x (by have:=cY hx;rw [Val.wt] at h;omega);rw [fitV] at hf;rw [rawV]
  cases hd:ek ND i with
  | none=>rw [hd] at hf;cases hf
  | some d=>
   rw [hd] at hf;simp only at hf ⊢;have hN:=dh d (mG (bT hd).2);have gO:=hN.k1;have GC:=hN.k8;by_cases h5:d.ag < 5
   ·rw [if_pos h5] at hf;unfold iO at hf;split at hf
    ·cases hf
    rename_i hp;simp only [Val.ks,Val.k,Val.s,Val.n] at hf hp
    have JI:ks=[]:=by
     cases ks with
     | nil=>rfl
     | cons a b=>exact (hp (.inl (by simp))).elim
    subst JI;rcases (show d.ag=1∨d.ag=2∨d.ag=3∨d.ag=4 by omega) with c | c | c | c
    ·simp [c] at hf;obtain ⟨hk,hn⟩:=hf;obtain rfl:=of_decide_eq_true hk;have hs:s=ap:=Decidable.byContradiction fun h=>hp (.inr (.inl ⟨by decide,h⟩));subst hs;have aQ:¬ jH=ln:=by decide
     rcases hn with hn | hn<;>obtain rfl:=of_decide_eq_true hn
     ·simp [A5,Val.k,Val.n,ckV,hd,h5,ckLeaf,c,aQ]
     ·simp [A5,Val.k,Val.n,ckV,hd,h5,ckLeaf,c]
    ·simp [c] at hf;obtain ⟨⟨hk,h1⟩,h2⟩:=hf;obtain rfl:=of_decide_eq_true hk;have h1:=of_decide_eq_true h1;have h2:=of_decide_eq_true h2;have hs:s=ap:=Decidable.byContradiction fun h=>hp (.inr (.inl ⟨by decide,h⟩));subst hs;simp [A5,Val.k,Val.n,ckV,hd,h5,ckLeaf,c];intro;omega
    ·simp [c] at hf;obtain ⟨hk,h1⟩:=hf;obtain rfl:=of_decide_eq_true hk;have h1:=of_decide_eq_true h1;have hn:n=0:=Decidable.byContradiction fun h=>hp (.inr (.inr ⟨rfl,h⟩));subst hn;simp [A5,Val.k,Val.n,Val.s,ckV,hd,h5,ckLeaf,c];intro;omega
    ·simp [c] at hf;obtain ⟨⟨hk,h1⟩,h2⟩:=hf;obtain rfl:=of_decide_eq_true hk;have h1:=of_decide_eq_true h1;have h2:=of_decide_eq_true h2;have hs:s=ap:=Decidable.byContradiction fun h=>hp (.inr (.inl ⟨by decide,h⟩));subst hs;obtain ⟨j,rfl⟩:∃ j:Nat,n=j:=⟨n.toNat,by omega⟩;have hj:j < d.ae.length:=by omega
     have hx:dc d.ae d.ae[j]=some j:=lR (hN.ae c).2.2.1 (gE hj);simp [A5,Val.k,Val.n,ckV,hd,h5,ckLeaf,c,hx,gE hj]
   rw [if_neg h5,Bool.and_eq_true] at hf;obtain ⟨s7,lU⟩:=hf;by_cases c5:d.ag=5
   ·have gZ:kidsL d (.mk k n s ks)=List.replicate ks.length (to0 d):=by unfold kidsL;rw [if_pos (.inl c5)];all_goals rfl
    rw [gZ] at lU ⊢;obtain ⟨hk,rfl,rfl,SD,SE,SF⟩:=kidsB_567 s7 (.inl c5);rw [c5] at hk;subst hk;have hm:=SD c5;have hl:=iQ ND ks (List.replicate ks.length (to0 d)) List.length_replicate;simp only [A5,Val.k,show ¬ ((5:Int)=1) by decide,show ¬ ((5:Int)=2) by decide,show ¬ ((5:Int)=3) by decide,show ¬ ((5:Int)=4) by decide,if_false,if_true];rw [ckV,hd];simp only;rw [if_neg h5,if_pos c5,if_neg (by decide),hl,if_neg (by omega),xN,pz (fun x hx=>ih x hx _) lU];simp [eF,hU]
   by_cases c6:d.ag=6
   ·have gZ:kidsL d (.mk k n s ks)=List.replicate ks.length (to0 d):=by unfold kidsL;rw [if_pos (.inr c6)];all_goals rfl
    rw [gZ] at lU ⊢;obtain ⟨hk,rfl,rfl,SD,SE,SF⟩:=kidsB_567 s7 (.inr (.inl c6));rw [c6] at hk;subst hk;have hm:=SE c6;have hl:=iQ ND ks (List.replicate ks.length (to0 d)) List.length_replicate;simp only [A5,Val.k,Val.ks,show ¬ ((6:Int)=1) by decide,show ¬ ((6:Int)=2) by decide,show ¬ ((6:Int)=3) by decide,show ¬ ((6:Int)=4) by decide,show ¬ ((6:Int)=5) by decide,show ¬ ((6:Int)=7) by decide,show ¬ ((6:Int)=8) by decide,if_false];rw [ckV,hd];simp only;rw [if_neg h5,if_neg c5,if_pos c6]
    cases ks with
    | nil=>simp
    | cons x r=>
     have hr:r=[]:=by
      cases r with
      | nil=>rfl
      | cons a b=>simp at hm
     subst hr;rw [if_neg (by simp),if_neg (by rw [hl];simp),xN,pz (fun x hx=>ih x hx _) lU];simp [eF,hU]
   by_cases c7:d.ag=7
   ·have gZ:kidsL d (.mk k n s ks)=d.aD.map Ed.to:=by unfold kidsL;rw [if_neg (by omega),if_pos c7]
    rw [gZ] at lU ⊢;obtain ⟨hk,rfl,rfl,SD,SE,SF⟩:=kidsB_567 s7 (.inr (.inr c7));rw [c7] at hk;subst hk;have hm:=SF c7;have hl:=iQ ND ks (d.aD.map Ed.to) (by rw [List.length_map];exact hm);have hnd:=(hN.many (.inl c7)).2.2.1;simp only [A5,Val.k,show ¬ ((7:Int)=1) by decide,show ¬ ((7:Int)=2) by decide,show ¬ ((7:Int)=3) by decide,show ¬ ((7:Int)=4) by decide,show ¬ ((7:Int)=5) by decide,if_false,if_true];rw [ckV,hd];simp only
    rw [if_neg h5,if_neg c5,if_neg c6,if_pos c7,if_neg (by rw [hl,List.length_map];simp [hm]),Bn hnd (e:=0) (by simp) hm.symm List.length_replicate (fun c _=>by
     rw [List.getD_eq_getElem?_getD,List.getElem?_replicate]
     split<;>rfl) (fun x hx=>ih x hx) lU]
    simp [recC,hU,Function.comp_def]
   have c8:d.ag=8:=by omega
   unfold cF at s7;rw [if_neg (by omega),if_neg c7] at s7
   cases ht:kr d (.mk k n s ks) with
   | none=>rw [ht] at s7;cases s7
   | some e=>
    rw [ht] at s7;simp only [Bool.and_eq_true,decide_eq_true_eq] at s7;obtain ⟨hp,ma⟩:=s7;have htn:zR d (.mk k n s ks)=e.name:=by unfold zR;rw [ht]
    have gZ:kidsL d (.mk k n s ks)=if e.bare=true then [] else [e.to]:=by unfold kidsL;rw [if_neg (by omega),if_neg c7,ht]
    unfold kr at ht;split at ht
    ·rename_i hc;simp only [Val.k,Val.n] at hc ht;obtain ⟨rfl,oS,mw⟩:=hc;obtain ⟨j,rfl⟩:∃ j:Nat,n=j:=⟨n.toNat,by omega⟩;rw [Int.toNat_natCast] at ht;have hs:s=ap:=(lS hp).1;subst hs;have hnd:=(hN.many (.inr c8)).2.2.1;have Ik:vj d e.name=some j:=lR hnd (by rw [List.getElem?_map,ht];rfl);rw [gZ] at lU ma ⊢;simp only [A5,Val.k,Val.ks,show ¬ ((8:Int)=1) by decide,show ¬ ((8:Int)=2) by decide,show ¬ ((8:Int)=3) by decide,show ¬ ((8:Int)=4) by decide,show ¬ ((8:Int)=5) by decide,show ¬ ((8:Int)=7) by decide,if_false,if_true,htn];rw [ckV,hd];simp only;rw [if_neg h5,if_neg c5,if_neg c6,if_neg c7];simp only [Val.ks] at ma
     cases hb:e.bare with
     | true=>
      simp only [hb,if_true,List.length_nil] at ma;have JI:ks=[]:=List.eq_nil_of_length_eq_zero ma.symm;subst JI;simp [Ik,ht,hb,hU]
     | false=>
      simp only [hb,Bool.false_eq_true,if_false] at ma lU ⊢
      obtain ⟨x,rfl⟩:∃ x,ks=[x]:=by
       cases ks with
       | nil=>simp at ma
       | cons x r=>
        cases r with
        | nil=>exact ⟨x,rfl⟩
        | cons a b=>simp at ma
      have:=pz (acc:=[]) (fun x hx=>ih x hx e.to) lU;simp only [List.length_cons,List.length_nil,List.replicate_succ,List.replicate_zero] at this;simp only [rawVs] at this;simp [Ik,ht,hb,this,eF,hU,rawVs]
    ·cases ht
theorem Gg {L:Nat} {ND:List Nd} (dh:∀ n∈ND,n5 L ND.length n) (i:Int):fitV ND (.mk 0 0 ap []) i=false:=by
 rw [fitV]
 cases hd:ek ND i with
 | none=>rfl
 | some d=>
  have hN:=dh d (mG (bT hd).2);have gO:=hN.k1;have GC:=hN.k8;simp only;by_cases h5:d.ag < 5
  ·rw [if_pos h5];unfold iO;rcases (show d.ag=1∨d.ag=2∨d.ag=3∨d.ag=4 by omega) with c | c | c | c<;>simp [c,Val.ks,Val.k,Val.s,Val.n]
  ·rw [if_neg h5]
   have hB:cF d (.mk 0 0 ap [])=false:=by
    unfold cF;by_cases c:d.ag=5∨d.ag=6
    ·rw [if_pos c];have:¬ (0:Int)=d.ag:=by omega
     simp [Val.k,this]
    ·rw [if_neg c];by_cases c7:d.ag=7
     ·rw [if_pos c7];simp [Val.k]
     ·rw [if_neg c7];have:kr d (.mk 0 0 ap [])=none:=by unfold kr;rw [if_neg (by simp [Val.k])]
      rw [this]
   rw [hB];all_goals rfl
theorem rM {k n:Int} {t:List Val × Int × Int} (h:(eF k n t).2.1≠0):(eF k n t).1 = .mk 0 0 ap []:=by
 unfold eF at h ⊢;split at h
 ·rename_i h1;rw [if_pos h1]
 ·exact (h rfl).elim
theorem Gh {a:Int} {t:List (Option Val) × Int × Int} (h:(recC a t).2.1≠0):(recC a t).1 = .mk 0 0 ap []:=by
 unfold recC at h ⊢;split at h
 ·rename_i h1;rw [if_pos h1]
 ·rename_i h1;rw [if_neg h1];split at h
  ·rename_i h2;rw [if_pos h2];all_goals rfl
  ·exact (h rfl).elim
theorem Ab {d:Nd} {k a n:Int} {s:ByteArray}:(ckLeaf d k a n s).2.1≠0->(ckLeaf d k a n s).1 = .mk 0 0 ap []:=by
 unfold ckLeaf
 repeat' split
 all_goals first | exact fun _=>rfl | exact fun h=>(h rfl).elim
theorem LI {ND:List Nd} (r:Rw) (i:Int) (h:(ckV ND r i).2.1≠0):(ckV ND r i).1 = .mk 0 0 ap []:=by
 obtain ⟨k,a,n,s,keys,ks⟩:=r;rw [ckV] at h ⊢
 cases hd:ek ND i with
 | none=>rfl
 | some d=>
  rw [hd] at h;simp only at h ⊢;by_cases c5:d.ag < 5
  ·rw [if_pos c5] at h ⊢;exact Ab h
  rw [if_neg c5] at h ⊢;by_cases c:d.ag=5
  ·rw [if_pos c] at h ⊢;by_cases c1:k≠4
   ·rw [if_pos c1];all_goals rfl
   rw [if_neg c1] at h ⊢;by_cases c2:d.most < (ks.length:Int)
   ·rw [if_pos c2];all_goals rfl
   rw [if_neg c2] at h ⊢;exact rM h
  rw [if_neg c] at h ⊢;by_cases c6:d.ag=6
  ·rw [if_pos c6] at h ⊢;by_cases c1:k=1/\s=mZ
   ·rw [if_pos c1] at h;exact (h rfl).elim
   rw [if_neg c1] at h ⊢;by_cases c2:k≠6∨ks.length≠1∨s≠mY
   ·rw [if_pos c2];all_goals rfl
   rw [if_neg c2] at h ⊢;exact rM h
  rw [if_neg c6] at h ⊢;by_cases c7:d.ag=7
  ·rw [if_pos c7] at h ⊢;by_cases c1:k≠5∨keys.length≠ks.length
   ·rw [if_pos c1];all_goals rfl
   rw [if_neg c1] at h ⊢;exact Gh h
  rw [if_neg c7] at h ⊢;by_cases c8:k≠1/\(k≠6∨ks.length≠1)
  ·rw [if_pos c8];all_goals rfl
  rw [if_neg c8] at h ⊢
  cases Ik:vj d s with
  | none=>rfl
  | some c=>
   rw [Ik] at h;simp only at h ⊢
   cases he:d.aD[c]? with
   | none=>rfl
   | some e=>
    rw [he] at h;simp only at h ⊢;by_cases c1:k=1
    ·rw [if_pos c1] at h ⊢;by_cases cb:e.bare=true
     ·rw [if_pos cb] at h;exact (h rfl).elim
     ·rw [if_neg cb];all_goals rfl
    ·rw [if_neg c1] at h ⊢;by_cases cb:e.bare=true
     ·rw [if_pos cb];all_goals rfl
     ·rw [if_neg cb] at h ⊢;exact rM h
theorem LJ {L:Nat} {ND:List Nd} (dh:∀ n∈ND,n5 L ND.length n) (r:Rw) (i:Int):fitV ND (ckV ND r i).1 i=decide ((ckV ND r i).2.1=0):=by
 by_cases h:(ckV ND r i).2.1=0
 ·rw [A6 dh _ r (Nat.le_refl _) i h,decide_eq_true h]
 ·rw [LI r i h,Gg dh,decide_eq_false h]
theorem ya:∀ (a b:List Val),cw (a ++ b)=cw a + cw b
 | [],b=>by simp [cw]
 | v :: r,b=>by rw [List.cons_append,cw,cw,ya r b];omega
theorem nf:ap.size=0:=rfl
theorem CY {d:Nd} {k a n:Int} {s:ByteArray}:(ckLeaf d k a n s).1.wt<=64 + s.size:=by
 have he:=nf;unfold ckLeaf
 repeat' split
 all_goals (simp only [hU,cp,Val.wt,cw];omega)
def wtO:List (Option Val)->Nat
 | []=>0
 | x :: r=>(match x with | some v=>v.wt | none=>0) + wtO r
theorem Bo:∀ n:Nat,wtO (List.replicate n none)=0
 | 0=>rfl
 | n + 1=>by rw [List.replicate_succ,wtO,Bo n]
theorem Bp {v:Val}:∀ {l:List (Option Val)} {c:Nat},(l.getD c none).isSome≠true->wtO (l.set c (some v))<=wtO l + v.wt
 | [],c,_=>by simp [wtO]
 | x :: r,0,h=>by
  cases x with
  | none=>simp only [List.set_cons_zero,wtO];omega
  | some y=>exact (h rfl).elim
 | x :: r,c + 1,h=>by
  have:=Bp (v:=v) (l:=r) (c:=c) (by simpa using h);simp only [List.set_cons_succ,wtO];omega
theorem Bq:∀ {l:List (Option Val)},l.any Option.isNone≠true->cw (l.map fun x=>x.getD (.mk 0 0 ap []))=wtO l
 | [],_=>rfl
 | x :: r,h=>by
  rw [List.any_cons] at h
  cases x with
  | none=>exact (h rfl).elim
  | some y=>
   rw [List.map_cons,cw,wtO,Bq (by simpa using h)];rfl
theorem vv {k n:Int} {t:List Val × Int × Int} {m:Nat} (h:t.2.1=0->cw t.1<=m):(eF k n t).1.wt<=64 + m:=by
 have he:=nf;unfold eF;split
 ·simp only [Val.wt,cw];omega
 ·rename_i h1;have:=h (Decidable.not_not.1 h1);simp only [hU,Val.wt];omega
theorem Il {a:Int} {t:List (Option Val) × Int × Int} {m:Nat} (h:t.2.1=0->wtO t.1<=m):(recC a t).1.wt<=64 + m:=by
 have he:=nf;unfold recC;split
 ·simp only [Val.wt,cw];omega
 ·rename_i h1;split
  ·simp only [cp,Val.wt,cw];omega
  ·rename_i h2;have:=h (Decidable.not_not.1 h1);simp only [hU,Val.wt];rw [Bq h2];omega
theorem Gi {ND:List Nd}:∀ {l:List Rw} {i:Int} {acc:List Val},(∀ r∈l,∀ i,(ckV ND r i).1.wt<=sj r)->cw (ckL ND l i acc).1<=cw acc + e8 l
 | [],i,acc,_=>by rw [ckL];exact Nat.le_add_right _ _
 | r :: l,i,acc,h=>by
  rw [ckL,e8];split
  ·simp only [cw];omega
  ·have h1:=Gi (l:=l) (i:=i) (acc:=acc ++ [(ckV ND r i).1]) (fun x hx=>h x (List.mem_cons_of_mem _ hx));have h2:=h r List.mem_cons_self i;rw [ya,cw,cw] at h1;omega
theorem Gj {ND:List Nd} {d:Nd}:∀ {l:List Rw} {ws:List Wd} {acc:List (Option Val)},(∀ r∈l,∀ i,(ckV ND r i).1.wt<=sj r)->wtO (ckK ND d l ws acc).1<=wtO acc + e8 l
 | [],ws,acc,_=>by
  rw [ckK]
  ·exact Nat.le_add_right _ _
  ·simp
 | r :: l,[],acc,_=>by
  rw [ckK]
  ·exact Nat.le_add_right _ _
  ·simp
 | r :: l,w :: ws,acc,h=>by
  rw [ckK,e8]
  cases vj d w.s with
  | none=>simp only [wtO];omega
  | some c=>
   simp only;split
   ·simp only [wtO];omega
   ·rename_i h1;split
    ·simp only [wtO];omega
    ·have h2:=Gj (d:=d) (l:=l) (ws:=ws) (acc:=acc.set c (some (ckV ND r (rz d c)).1)) (fun x hx=>h x (List.mem_cons_of_mem _ hx));have h3:=h r List.mem_cons_self (rz d c);have h4:=Bp (v:=(ckV ND r (rz d c)).1) h1;omega
theorem JL {ND:List Nd}:∀ (m:Nat) (r:Rw),ku r<=m->∀ i,(ckV ND r i).1.wt<=sj r
 | 0,r,h=>by have:=ru r;omega
 | m + 1,.mk k a n s keys ks,h=>fun i=>by
  have he:=nf;have ih:∀ r∈ks,∀ i,(ckV ND r i).1.wt<=sj r:=fun r hr=>JL m r (by have:=kT hr;rw [ku] at h;omega);have hL:=fun j=>Gi (ND:=ND) (l:=ks) (i:=j) (acc:=[]) ih;have hz:∀ e b:Int,(cp e b).1.wt=64:=fun _ _=>rfl;rw [ckV,sj]
  cases hd:ek ND i with
  | none=>simp only [hz];omega
  | some d=>
   have hK:=Gj (ND:=ND) (d:=d) (l:=ks) (ws:=keys) (acc:=List.replicate d.aD.length none) ih;rw [Bo] at hK;simp only;split
   ·have:=@CY d k a n s;omega
   split
   ·split
    ·rw [hz];omega
    split
    ·rw [hz];omega
    have:=@vv 5 0 (ckL ND ks (rz d 0) []) (e8 ks) (fun _=>by have:=hL (rz d 0);rw [cw] at this;omega);omega
   split
   ·split
    ·simp only [hU,Val.wt,cw];omega
    split
    ·rw [hz];omega
    have:=@vv 6 0 (ckL ND ks (rz d 0) []) (e8 ks) (fun _=>by have:=hL (rz d 0);rw [cw] at this;omega);omega
   split
   ·split
    ·rw [hz];omega
    have:=@Il a (ckK ND d ks keys (List.replicate d.aD.length none)) (e8 ks) (fun _=>by omega);omega
   split
   ·rw [hz];omega
   cases vj d s with
   | none=>simp only [hz];omega
   | some c=>
    simp only
    cases d.aD[c]? with
    | none=>simp only [hz];omega
    | some e=>
     simp only;split
     ·split
      ·simp only [hU,Val.wt,cw];omega
      ·rw [hz];omega
     split
     ·rw [hz];omega
     have:=@vv 8 c (ckL ND ks e.to []) (e8 ks) (fun _=>by have:=hL e.to;rw [cw] at this;omega);omega
theorem rN {ND:List Nd}:∀ (ks:List Val) (l:List Int) (f:Nat->List di) (e:Nat),(∀ v∈ks,∀ i p,fitV ND v i=true->(pathV ND v i p).length=kp v)->l.length=ks.length->fitVs ND ks l=true->(pathVs ND ks l f e).length=ej ks
 | [],l,f,e,_,_,_=>by cases l<;>rfl
 | v :: r,[],f,e,_,h,_=>by simp at h
 | v :: r,i :: l,f,e,ih,h,hf=>by
  rw [fitVs,Bool.and_eq_true] at hf;have h1:=ih v List.mem_cons_self i (f e) hf.1;have h2:=rN r l f (e + 1) (fun x hx=>ih x (List.mem_cons_of_mem _ hx)) (by simpa using h) hf.2;rw [pathVs,ej,List.length_append,h1,h2]
theorem uc {ND:List Nd}:∀ (m:Nat) (v:Val),v.wt<=m->∀ (i:Int) (p:List di),fitV ND v i=true->(pathV ND v i p).length=kp v
 | 0,v,h=>by have:=v.cT;omega
 | m + 1,.mk q z s ks,h=>fun i p hf=>by
  have ih:∀ v∈ks,∀ i p,fitV ND v i=true->(pathV ND v i p).length=kp v:=fun v hv=>uc m v (by have:=cY hv;rw [Val.wt] at h;omega);rw [fitV] at hf;rw [pathV,kp,List.length_cons]
  cases hd:ek ND i with
  | none=>rw [hd] at hf;cases hf
  | some d=>
   rw [hd] at hf;simp only at hf ⊢;by_cases h5:d.ag < 5
   ·rw [if_pos h5] at hf
    have JI:ks=[]:=by
     unfold iO at hf;split at hf
     ·cases hf
     ·rename_i h1
      cases ks with
      | nil=>rfl
      | cons a r=>exact (h1 (.inl (by simp [Val.ks]))).elim
    subst JI;have:∀ l f,(pathVs ND ([]:List Val) l f 0).length=0:=fun l f=>by cases l<;>rfl
    rw [this,ej]
   ·rw [if_neg h5,Bool.and_eq_true] at hf;have hlen:=n8 (n:=d) (v:=.mk q z s ks) (by omega) hf.1;have:=rN ks (kidsL d (.mk q z s ks)) (fun e=>p ++ [stpR d (.mk q z s ks) e]) 0 ih hlen hf.2;omega
theorem CZ:Tryz.prog.cellsOf 48=6:=by kernel_rfl
theorem Bs {m:Nat} (ih:∀ k,k<=m->∀ ds,Typ Tryz.prog k 48 ds->∃ v:Rw,ds=dRw v/\sj v<=wgL ds) :
  ∀ {es:List (List DV)},(∀ cs∈es,Typ Tryz.prog m 48 cs)->∃ l:List Rw,es=dRws l/\e8 l<=wgEs es
 | [],h=>⟨[],rfl,by simp [e8]⟩
 | cs :: r,h=>by
  obtain ⟨l,rfl,hl⟩:=Bs ih (es:=r) (fun c hc=>h c (List.mem_cons_of_mem _ hc));obtain ⟨v,rfl,hv⟩:=ih m (Nat.le_refl _) cs (h cs (by simp));exact ⟨v :: l,rfl,by simp only [e8,wgEs];omega⟩
theorem typ_raw:∀ (n:Nat) (ds:List DV),Typ Tryz.prog n 48 ds->∃ v:Rw,ds=dRw v/\sj v<=wgL ds:=by
 intro n
 induction n using Nat.strongRecOn with
 | _ n ih=>
  intro ds h;obtain ⟨m,rfl,hf⟩:=jx Tryz.underlying48 h;obtain ⟨a1,b1,rfl,h1,a2,b2,rfl,h2,a3,b3,rfl,h3,a4,b4,rfl,h4,a5,b5,rfl,h5,a6,b6,rfl,h6,rfl⟩:=hf;obtain ⟨k,rfl,_⟩:=ik h1;obtain ⟨a,rfl,_⟩:=ik h2;obtain ⟨z,rfl,_⟩:=ik h3;obtain ⟨s,rfl⟩:=uQ Tryz.underlying9 h4;obtain ⟨keys,rfl,hw⟩:=mE h5;obtain ⟨j,es,rfl,rfl,ie⟩:=nO Tryz.underlying46 h6;obtain ⟨l,rfl,wl⟩:=Bs (fun i hi=>ih i (by omega)) ie;rw [CZ];refine ⟨.mk k a z s keys l,rfl,?_⟩;simp only [sj,dq,wgL,wgD] at *;omega
def tyRS:List TypeId:=[48,46,33,38,9,3]
theorem tyRS_ok:∀ t∈tyRS,jw Tryz.prog tyRS t=true:=by
 have h:(tyRS.all fun t=>jw Tryz.prog tyRS t)=true:=by kernel_rfl
 exact fun t ht=>List.all_eq_true.1 h t ht
end Go.Proofs.YtfifjddnnmfeoaaGreat
set_option maxRecDepth 100000
namespace Go.Proofs.YtfifjddnnmfeoaaGreat
open Go Go.RowKit Dv Tryz
end Go.Proofs.YtfifjddnnmfeoaaGreat
set_option maxRecDepth 100000
namespace Go.Proofs.YtfifjddnnmfeoaaGreat
open Go Go.RowKit Dv Tryz
def ue:Sch:=⟨[⟨⟨#[97]⟩,0⟩],[],[],.mk (exH 1) .nil⟩
def Bt:Val:=.mk 1 1 ap []
theorem C0:(la ue).1=0:=by decide +kernel
theorem yb:fitV (bL ue) Bt 0=true:=by decide +kernel
theorem Gk:rawV (bL ue) Bt 0 = .mk 1 0 0 ln [] []:=by kernel_rfl
theorem dT:ba Tryz.prog 15 [] (.v (.bool true)):=by
 have Eh:ue.wt<=1099511627776:=by decide +kernel
 have hwv:Bt.wt<=1099511627776:=by decide +kernel
 have hb:=(q4 ue Eh).mono (Ψ:=fun r _ _=>zM ue r) fun _ _ _ h=>tN Eh h;refine ev_go (P:=Tryz.prog) tt tt_ok 5000 30 [.tmp 0] Tryz.func15 rfl Tryz.ntmps15 rfl (nL rfl) (fun E9 w9 hn9 hm9=>?_);refine im MO rfl hb ax (fun r hr=>?_);rcases hr with ⟨hr,_⟩ | ⟨_,PC,hP,rfl⟩
 ·exact (hr C0).elim
 have hr:=ub hP Bt hwv 0;rw [if_pos yb,yb,Gk] at hr;refine call_p Kw (hr) ax rfl ?_;exact (rfl:_=_)
theorem Ac (l:List di) (x:di):bO l ++ [vl x]=bO (l ++ [x]):=by simp [bO]
theorem C1 (a b:List (List di)):fQ a ++ fQ b=fQ (a ++ b):=by simp [fQ]
def dP:List di->DV
 | []=>.v (.slice none 0 0)
 | s :: p=>.sl 3 (bO (s :: p)) none
theorem yc (p:List di) (hl:p.length<=1099511627776):ba Tryz.prog 119 [dP p] (.sl 3 (bO p) none):=by
 cases p with
 | nil=>
  refine HX ?_;refine ev_go (P:=Tryz.prog) tt tt_ok 5000 8 [.tmp 2] Tryz.func119 rfl Tryz.ntmps119 rfl (nL rfl) (fun E9 w9 hn9 hm9=>?_);refine Ba ⟨_,rfl⟩ rfl rfl rfl rfl ?_;exact Or.inr ⟨rfl,rfl⟩
 | cons s p=>
  have ed:=gC (s :: p);have aQ:bO (s :: p) ≠ []:=by simp [bO]
  refine ev_go (P:=Tryz.prog) tt tt_ok 5000 8 [.tmp 2] Tryz.func119 rfl Tryz.ntmps119 rfl (nL rfl) (fun E9 w9 hn9 hm9=>?_);refine u7 ⟨_,rfl⟩ rfl rfl rfl rfl (fun b hb=>?_);rw [hb aQ];refine mW rfl rfl rfl rfl (hk:=?_);refine ⟨rfl,⟨by simp [maxLen,ed];simp at hl;omega,by simp [ed];simp at hl;omega⟩,?_⟩;exact ⟨_,ax,rfl⟩
theorem yd:ba Tryz.prog 119 [.v (.slice none 0 0)] (.v (.slice none 0 0)):=by
 refine ev_go (P:=Tryz.prog) tt tt_ok 5000 8 [.tmp 2] Tryz.func119 rfl Tryz.ntmps119 rfl (nL rfl) (fun E9 w9 hn9 hm9=>?_);refine Ba ⟨_,rfl⟩ rfl rfl rfl rfl ?_;exact (rfl:_=_)
theorem Gl (s:di) (p:List di) (hl:(s :: p).length<=1099511627776):Qi Tryz.prog 119 [.sl 3 (bO (s :: p)) none] [] [] (fun r _ bD=>r = .sl 3 (bO (s :: p)) (some 0)/\bD=[⟨(s :: p).length,137,3,none⟩]):=by
 have ed:=gC (s :: p);have aQ:bO (s :: p) ≠ []:=by simp [bO]
 refine pk (s:=false) (bt:=[]) (mu:=[]) (hbt:=fun p hp=>by cases hp) (fr:=true) (P:=Tryz.prog) tt tt_ok 5000 8 [.tmp 2] Tryz.func119 rfl Tryz.ntmps119 rfl (nL rfl) (fun E9 w9 hn9 hm9=>?_);refine u7 ⟨_,rfl⟩ rfl rfl rfl rfl (fun b hb=>?_);rw [hb aQ];refine mW rfl rfl rfl rfl (hk:=?_);refine ⟨rfl,⟨by simp [maxLen,ed];simp at hl;omega,by simp [ed];simp at hl;omega⟩,?_⟩;refine ⟨_,[],aL,rfl,rfl,?_⟩;show [(⟨0 + (bO (s :: p)).length,_,3,none⟩:TkE)]=_;rw [ed,Nat.zero_add]
abbrev Bu (PC:List DV) (v:Val) (d:Nd) (p:List di) (L:List (List di)) (l:List Int) (SL:List di) (n e:Nat):St:=
 ⟨[(0,⟨[],.pt PC 0⟩),(3,⟨[],dP p⟩),(6,⟨[],.loc 0 0⟩),(9,⟨[],.sl 1 (fQ L) (some 0)⟩),(10,⟨[],.loc 1 0⟩),(12,⟨[],.sl 1 (ni l) none⟩),(38,⟨[],.sl 3 (bO SL) none⟩),(39,⟨[],.v (.int .i64 (bO SL).length)⟩),(40,⟨[],.v (.int .i64 e)⟩)],[cd v,jR d],[⟨n,22,1,none⟩]⟩
theorem uf {S:Sch} {ND:List Nd} {PC:List DV} (hP:lm S ND PC):∀ (k:Nat) (v:Val),v.wt<=k->∀ (i:Int) (p:List di),p.length + v.wt<=1099511627776->fitV ND v i=true ->
  ba Tryz.prog 63 [.pt PC 0,.v (.int .i64 i),.agg (cd v),dP p] (.sl 1 (fQ (pathV ND v i p)) none)
 | 0,v,h=>by have:=v.cT;omega
 | k + 1,v,h=>fun i p hb pG=>by
  have ih:=uf hP k;obtain ⟨d,hF⟩:=gB hP.ok pG
  have hpV:pathV ND v i p=p :: pathVs ND v.ks (kidsL d v) (fun e=>p ++ [stpR d v e]) 0:=by
   obtain ⟨q,z,s,ks⟩:=v;rw [pathV,hF.ai];rfl
  have O6:=oP hP.ok (by omega) hF
  have Im:∀ e,e < v.ks.length->(xV d v)[e]? = some (stpR d v e):=fun e he=>by
   unfold xV;rw [List.getElem?_map,List.getElem?_range he];all_goals rfl
  have CS:(xV d v).length=v.ks.length:=by simp [xV]
  obtain ⟨h0,hg⟩:=bT hF.ai;have hN:=hP.ok d (mG hg);have sa:=fun h5=>kS hN h5 v (by omega);obtain ⟨j,rfl⟩:∃ j:Nat,i=j:=⟨i.toNat,by omega⟩;have hg:ND[j]? = some d:=by simpa using hg
  have dy:=hP.ai j d hg;have nd:=hF.kids;have Gm:=hF.leaf;rw [hpV];generalize Gt:(fun e=>p ++ [stpR d v e])=fS;have SG:∀ e,fS e=p ++ [stpR d v e]:=fun e=>by rw [<- Gt]
  have sv:=fun a b=>lP (ND:=ND) a b fS 0;have Oc:=fun x i' e=>tW (ND:=ND) x i' (fS e);generalize aZ:stpR d v=sR at SG Im;generalize xV d v=SL at O6 Im CS;have dZ:=yc p (by omega);have T6:=fun s q (h:p=s :: q)=>Gl s q (by rw [<- h];omega)
  have SH:∀ bx N n0 m0,Cc bx N n0 m0 (dP p) (dP p):=fun bx N n0 m0=>by
   cases p with
   | nil=>simp only [dP,Cc]
   | cons s p=>simp only [dP,Cc];exact .inr (.inl ⟨_,rfl⟩)
  have O7:∀ n m tk,We n m tk (dP p) (dP p):=fun n m tk=>.inl ⟨rfl,by cases p<;>rfl⟩;obtain ⟨q,z,s,ks⟩:=v;have ed:=bH ks;have gZ:=dL ks;have yW:=gC p;have vz:=gC SL;have k0:=(mX ks).1;rw [Val.wt] at h hb;simp only [Val.ks] at nd Gm Im CS ⊢;generalize kidsL d (.mk q z s ks)=l at nd sa ⊢;generalize cF d (.mk q z s ks)=lb at sa;obtain ⟨ag,bp,lo,hi,most,ae,es⟩:=d;simp only at nd Gm;refine pk (s:=false) (bt:=[]) (mu:=[18]) (hbt:=fun p hp=>by cases hp) (fr:=false) (P:=Tryz.prog) tt tt_ok 5000 65 [.tmp 8] Tryz.func63 rfl Tryz.ntmps63 rfl (nL rfl) (fun E9 w9 hn9 hm9=>?_);refine call_p wo (dZ) (by repeat' (first | exact rfl | exact trivial | exact Or.inr (Or.inl ⟨_,rfl⟩) | exact Or.inr ⟨_,rfl⟩ | exact Or.inl ⟨rfl,rfl⟩ | exact Or.inl rfl | refine Or.inr ⟨_,_,rfl,Nat.zero_le _,rfl,?_⟩ | refine ⟨_,_,rfl,?_,?_⟩ | refine ⟨_,rfl,?_⟩ | exact SH _ _ _ _| refine Or.inr (Or.inr (Or.inr ⟨_,_,rfl,?_⟩)) | exact Or.inl rfl | refine Or.inr ?_)) rfl ?_;refine Lc rfl rfl rfl rfl rfl rfl rfl rfl ?_;refine call_p mB (dy) ax rfl ?_;refine br (fun hz=>?_) (fun hz=>?_)
  ·have hz:ks=[]:=by
    have:=hz;simp [ed] at this;exact this
   subst hz;exact ⟨_,ax,rfl⟩
  have hz:0 < ks.length:=by
   have:=hz;simp [ed] at this;exact List.length_pos_iff.2 this
  have h5:5<=ag:=by
   rcases Int.lt_or_le ag 5 with h5 | h5
   ·rw [Gm h5] at hz;simp at hz
   ·exact h5
  obtain ⟨K9,SI⟩:=nd h5;have sa:=sa h5;refine call_p Hj (sa) ax rfl ?_;refine call_p IU (O6) ax rfl ?_
  refine bU (fun j st=>∃ (e n:Nat),st=Bu PC (.mk q z s ks) ⟨ag,bp,lo,hi,most,ae,es⟩ p (p :: pathVs ND (ks.take e) (l.take e) fS 0) l SL n e/\n=(p :: pathVs ND (ks.take e) (l.take e) fS 0).length/\e<=ks.length/\j=ks.length - e) ks.length
   (Bu PC (.mk q z s ks) ⟨ag,bp,lo,hi,most,ae,es⟩ p [p] l SL 1 0) (aS 2 rfl (by repeat' (first | exact rfl | exact aw rfl | exact O7 _ _ _ | refine ⟨_,_,rfl,?_,?_⟩)) rfl rfl rfl (by repeat' (first | exact trivial | exact aw rfl | exact O7 _ _ _ | refine ⟨⟨_,rfl,?_⟩,?_⟩))) ⟨0,1,rfl,rfl,by omega,by omega⟩ ?_
  rintro _ st ⟨e,n,rfl,hn,he,rfl⟩;refine br (fun hL=>?_) (fun hL=>?_)
  ·have au:e < ks.length:=by simpa [vz,CS] using hL
   obtain ⟨x,hx⟩:∃ x,ks[e]? = some x:=⟨_,gE au⟩;obtain ⟨i',eP⟩:∃ i',l[e]? = some i':=⟨_,gE (by omega)⟩;have Fh:=cY (mG hx);have hw:=ih x (by omega) i' (p ++ [sR e]) (by simp;omega) (na SI hx eP);have eQ:=oO (ND:=ND) (f:=fS) (b:=0) hx eP;rw [Nat.zero_add,SG] at eQ;have yh:=sv (ks.take e) (l.take e);have Fk:=Oc x i' e;rw [SG] at Fk;have hl3:=(lN ks e).1;have hl4:=(py x).1;have LS:=Im e au
   have u5:fQ (p :: pathVs ND (ks.take e) (l.take e) fS 0) ++ fQ (pathV ND x i' (p ++ [sR e]))=fQ (p :: pathVs ND (ks.take (e + 1)) (l.take (e + 1)) fS 0):=by
    rw [C1,eQ];all_goals rfl
   have ng:=n9 (p :: pathVs ND (ks.take e) (l.take e) fS 0);rw [List.length_cons] at ng hn;generalize pathVs ND (ks.take e) (l.take e) fS 0=P1 at eQ yh u5 ng hn ⊢;have rO:=n9 (pathV ND x i' (p ++ [sR e]));have LK:(pathVs ND (ks.take (e + 1)) (l.take (e + 1)) fS 0).length=P1.length + (pathV ND x i' (p ++ [sR e])).length:=by rw [eQ,List.length_append]
   generalize pathV ND x i' (p ++ [sR e])=P2 at hw u5 rO Fk LK;obtain ⟨xk,xn,xs,xl⟩:=x;have JJ:=Ac p (sR e);generalize Gu:sR e=sr at hw JJ LS;have hdP:dP (p ++ [sr]) = .sl 3 (bO (p ++ [sr])) none:=by cases p<;>rfl
   rw [hdP] at hw;refine ⟨_,⟨by omega,oa LS⟩,?_⟩;rcases p with _ | ⟨s0,p⟩
   ·apply nI (fun _=>false) 12 14 [0,1,2,3,4,5,6,7,8,9,10,11,12,13,14,15,16,17,18] [0,1,2,3,4,5,6,7,8,9,10,11,13,14,12,15,16,17,18] 0 0 mo (by decide +kernel)
    ·refine ⟨_,⟨by omega,jG eP⟩,?_⟩;refine ⟨_,⟨by omega,cI hx⟩,?_⟩;refine G8 wo (yd) ax rfl ?_;refine ⟨by simp [maxLen],?_⟩;refine G8 DS (hw) (by repeat' (first | exact rfl | exact trivial | exact Or.inr (Or.inl ⟨_,rfl⟩) | exact Or.inr ⟨_,rfl⟩ | exact Or.inl ⟨rfl,rfl⟩ | exact Or.inl rfl | refine Or.inr ⟨_,_,rfl,Nat.zero_le _,rfl,?_⟩ | refine ⟨_,_,rfl,?_,?_⟩ | refine ⟨_,rfl,?_⟩ | exact Or.inr (Or.inl ⟨_,congrArg (fun l=>DV.sl 3 l _) JJ⟩)| refine Or.inr (Or.inr (Or.inr ⟨_,_,rfl,?_⟩)) | exact Or.inl rfl | refine Or.inr ?_)) rfl ?_;refine ⟨by rw [ng,hn],⟨by rw [ng,rO];simp [maxLen];omega,by rw [ng,rO];omega⟩,?_⟩;refine (?_:@Eq St _ _);exact rfl
    ·refine ⟨_,⟨by omega,jG eP⟩,?_⟩;refine ⟨_,⟨by omega,cI hx⟩,?_⟩;refine G8 wo (yd) ax rfl ?_;refine ⟨by simp [maxLen],?_⟩;refine G8 DS (hw) (by repeat' (first | exact rfl | exact trivial | exact Or.inr (Or.inl ⟨_,rfl⟩) | exact Or.inr ⟨_,rfl⟩ | exact Or.inl ⟨rfl,rfl⟩ | exact Or.inl rfl | refine Or.inr ⟨_,_,rfl,Nat.zero_le _,rfl,?_⟩ | refine ⟨_,_,rfl,?_,?_⟩ | refine ⟨_,rfl,?_⟩ | exact Or.inr (Or.inl ⟨_,congrArg (fun l=>DV.sl 3 l _) JJ⟩)| refine Or.inr (Or.inr (Or.inr ⟨_,_,rfl,?_⟩)) | exact Or.inl rfl | refine Or.inr ?_)) rfl ?_;refine ⟨by rw [ng,hn],⟨by rw [ng,rO];simp [maxLen];omega,by rw [ng,rO];omega⟩,?_⟩;refine (⟨rfl,rfl,?_⟩:_/\_/\_)
     repeat' (first | exact trivial | refine ⟨rfl,?_⟩)
    ·rfl
    exact ⟨Bu PC (.mk q z s ks) ⟨ag,bp,lo,hi,most,ae,es⟩ [] ([] :: pathVs ND (ks.take (e + 1)) (l.take (e + 1)) fS 0) l SL (n + (fQ P2).length) (e + 1),(A9 2 rfl (aK au u5) ⟨_,rfl⟩ rfl rfl (aj au u5)),ks.length - (e + 1),by omega,e + 1,_,rfl,by rw [rO,List.length_cons,LK,hn];omega,by omega,rfl⟩
   ·apply nI (fun _=>false) 12 14 [0,1,2,3,4,5,6,7,8,9,10,11,12,13,14,15,16,17,18] [0,1,2,3,4,5,6,7,8,9,10,11,13,14,12,15,16,17,18] 0 0 mo (by decide +kernel)
    ·refine ⟨_,⟨by omega,jG eP⟩,?_⟩;refine ⟨_,⟨by omega,cI hx⟩,?_⟩;refine A8 wo rfl (T6 s0 p rfl) ax (fun uH bD hr=>?_);obtain ⟨rfl,rfl⟩:=hr;refine ⟨by rw [yW],⟨by rw [yW];simp [maxLen];simp at hb;omega,by rw [yW];simp;simp at hb;omega⟩,?_⟩;refine G8 DS (hw) (by repeat' (first | exact rfl | exact trivial | exact Or.inr (Or.inl ⟨_,rfl⟩) | exact Or.inr ⟨_,rfl⟩ | exact Or.inl ⟨rfl,rfl⟩ | exact Or.inl rfl | refine Or.inr ⟨_,_,rfl,Nat.zero_le _,rfl,?_⟩ | refine ⟨_,_,rfl,?_,?_⟩ | refine ⟨_,rfl,?_⟩ | exact Or.inr (Or.inl ⟨_,congrArg (fun l=>DV.sl 3 l _) JJ⟩)| refine Or.inr (Or.inr (Or.inr ⟨_,_,rfl,?_⟩)) | exact Or.inl rfl | refine Or.inr ?_)) rfl ?_;refine ⟨by rw [ng,hn],⟨by rw [ng,rO];simp [maxLen];omega,by rw [ng,rO];omega⟩,?_⟩;refine (?_:@Eq St _ _);exact rfl
    ·refine ⟨_,⟨by omega,jG eP⟩,?_⟩;refine ⟨_,⟨by omega,cI hx⟩,?_⟩;refine A8 wo rfl (T6 s0 p rfl) ax (fun uH bD hr=>?_);obtain ⟨rfl,rfl⟩:=hr;refine ⟨by rw [yW],⟨by rw [yW];simp [maxLen];simp at hb;omega,by rw [yW];simp;simp at hb;omega⟩,?_⟩;refine G8 DS (hw) (by repeat' (first | exact rfl | exact trivial | exact Or.inr (Or.inl ⟨_,rfl⟩) | exact Or.inr ⟨_,rfl⟩ | exact Or.inl ⟨rfl,rfl⟩ | exact Or.inl rfl | refine Or.inr ⟨_,_,rfl,Nat.zero_le _,rfl,?_⟩ | refine ⟨_,_,rfl,?_,?_⟩ | refine ⟨_,rfl,?_⟩ | exact Or.inr (Or.inl ⟨_,congrArg (fun l=>DV.sl 3 l _) JJ⟩)| refine Or.inr (Or.inr (Or.inr ⟨_,_,rfl,?_⟩)) | exact Or.inl rfl | refine Or.inr ?_)) rfl ?_;refine ⟨by rw [ng,hn],⟨by rw [ng,rO];simp [maxLen];omega,by rw [ng,rO];omega⟩,?_⟩;refine (⟨rfl,rfl,?_⟩:_/\_/\_)
     repeat' (first | exact trivial | refine ⟨rfl,?_⟩)
    ·rfl
    exact ⟨Bu PC (.mk q z s ks) ⟨ag,bp,lo,hi,most,ae,es⟩ (s0 :: p) ((s0 :: p) :: pathVs ND (ks.take (e + 1)) (l.take (e + 1)) fS 0) l SL (n + (fQ P2).length) (e + 1),(A9 2 rfl (aK au u5) ⟨_,rfl⟩ rfl rfl (aj au u5)),ks.length - (e + 1),by omega,e + 1,_,rfl,by rw [rO,List.length_cons,LK,hn];omega,by omega,rfl⟩
  ·have bI:e=ks.length:=by
    have:=hL;simp [vz,CS] at this;omega
   subst bI
   have h1:pathVs ND (ks.take ks.length) (l.take ks.length) fS 0=pathVs ND ks l fS 0:=by
    rw [List.take_length,<- K9,List.take_length]
   rw [h1];exact ⟨_,ax,rfl⟩
def SJ (o:Option (List (List di))):DV:=match o with
 | some l=>.sl 1 (fQ l) none
 | none=>.v (.slice none 0 0)
theorem ye {S:Sch} {ND:List Nd} {PC:List DV} (hP:lm S ND PC) {v:Val} (hv:v.wt<=1099511627776) (i:Int) :
  ba Tryz.prog 22 [.pt PC 0,.v (.int .i64 i),.agg (cd v)] (SJ (if fitV ND v i=true then some (pathV ND v i []) else none)):=by
 have pG:=fA hP _ v (Nat.le_refl _) hv i;have hw:=uf hP _ v (Nat.le_refl _) i [] (by simpa using hv);generalize fitV ND v i=b at pG hw ⊢;obtain ⟨q,z,s,ks⟩:=v;refine ev_go (P:=Tryz.prog) tt tt_ok 5000 16 [.tmp 6] Tryz.func22 rfl Tryz.ntmps22 rfl (nL rfl) (fun E9 w9 hn9 hm9=>?_);refine call_p yQ (pG) ax rfl ?_
 cases b with
 | false=>exact (rfl:_=_)
 | true=>
  refine call_p DS (hw rfl) ax rfl ?_;exact ⟨_,ax,rfl⟩
end Go.Proofs.YtfifjddnnmfeoaaGreat
set_option maxRecDepth 100000
namespace Go.Proofs.YtfifjddnnmfeoaaGreat
open Go Go.RowKit Dv Tryz
end Go.Proofs.YtfifjddnnmfeoaaGreat
set_option maxRecDepth 100000
namespace Go.Proofs.YtfifjddnnmfeoaaGreat
open Go Go.RowKit Dv Tryz
abbrev Gn (PC:List DV) (S:Sch) (v:Val) (r:Rw) (x:Val) (a b:Int) (w:Rw) (L:List (List di)) (e:Nat):St:=
 ⟨[(4,⟨[],.loc 1 0⟩),(9,⟨[],.pt PC 0⟩),(17,⟨[],.loc 7 0⟩),(18,⟨[],.loc 8 0⟩),(19,⟨[],.sl 1 (fQ L) none⟩),(20,⟨[],.v (.int .i64 e)⟩)],
  [wK S,cd v,dRw r,[.v (.int .i64 0),.v (.int .i64 0)],cd x,[.v (.int .i64 a),.v (.int .i64 b)],dRw w,cd v,[.v (.int .i64 0),.v (.int .i64 0)]],[]⟩
set_option maxHeartbeats 8000000 in
theorem back25_law (S:Sch) (hS:S.wt<=1099511627776) (_:NP S) (v:Val) (hv:v.wt<=1099511627776) (r:Rw) (hr0:sj r<=1099511627776):ba Tryz.prog 4 [.agg (wK S),.agg (cd v),.agg (dRw r)] (.v (.bool true)):=by
 have ga:=va S hS;have hb:=(q4 S hS).mono (Ψ:=fun r _ _=>zM S r) fun _ _ _ h=>tN hS h;have cg:=oJ v.wt v (Nat.le_refl _) hv;have Gu:=oR _ r (Nat.le_refl _) hr0;have T7:=ri _ v (Nat.le_refl _) hv v;rw [zO] at T7;have B2:=oK _ v (Nat.le_refl _) hv;have rP:=fun ND i=>@uc ND _ v (Nat.le_refl _) i [];have Io:=fun ND i=>xU (ND:=ND) v i [];have k0:=(py v).1;generalize kp v=ct at cg rP k0 B2;generalize sb v=dp at cg;have lX:=fun ND=>JL (ND:=ND) _ r (Nat.le_refl _);have hRB:=Ge r hr0;have hca:=fun ND=>Be (ND:=ND) r;generalize hcr:ku r=cr at Gu;generalize sm r=dr at Gu;refine ev_go (P:=Tryz.prog) tt tt_ok 5000 141 [.tmp 6] Tryz.func4 rfl Tryz.ntmps4 rfl (nL rfl) (fun E9 w9 hn9 hm9=>?_);obtain ⟨af,order,types,⟨rh,rp⟩⟩:=S;obtain ⟨q,z,s,ks⟩:=v;obtain ⟨rk,ra,rn,rs,rq,rl⟩:=r;refine call_p MN (cg) ax rfl ?_;refine br (fun c=>?_) (fun c=>?_)
 rotate_left
 ·refine call_p BM (dT) ax rfl ?_;exact (rfl:_=_)
 refine im QC rfl ga ax (fun r hr=>?_);obtain ⟨g,rfl⟩:=hr
 cases g with
 | true=>
  refine call_p BM (dT) ax rfl ?_;exact (rfl:_=_)
 | false=>
 refine im MO rfl hb ax (fun r hr=>?_);rcases hr with ⟨hr,rfl⟩ | ⟨_,PC,hP,rfl⟩
 ·generalize la ⟨af,order,types,.mk rh rp⟩=R at hr ⊢;obtain ⟨R1,R2⟩:=R;simp only at hr;refine call_p Kv (Gu) ax rfl ?_;refine br (fun _=>?_) (fun g=>absurd g (by simp [aA,hr]));refine call_p BM (dT) ax rfl ?_;exact (rfl:_=_)
 refine call_p Kv (Gu) ax rfl ?_;refine br (fun _=>?_) (fun _=>?_)
 ·refine call_p BM (dT) ax rfl ?_;exact (rfl:_=_)
 have jM:=hP.root;have dh:=hP.ok;have Kn:=jJ hP _ (Rw.mk rk ra rn rs rq rl) (Nat.le_refl _) hRB (eu ⟨af,order,types,.mk rh rp⟩);have OX:=LJ dh (Rw.mk rk ra rn rs rq rl) (eu ⟨af,order,types,.mk rh rp⟩);have Fh:=lX (bL ⟨af,order,types,.mk rh rp⟩) (eu ⟨af,order,types,.mk rh rp⟩);have O8:=ub hP (Val.mk q z s ks) hv (eu ⟨af,order,types,.mk rh rp⟩);have Ix:=ye hP hv (eu ⟨af,order,types,.mk rh rp⟩);have T8:=fun l hl=>tget_spec hP hv (eu ⟨af,order,types,.mk rh rp⟩) l hl;have rP:=rP (bL ⟨af,order,types,.mk rh rp⟩) (eu ⟨af,order,types,.mk rh rp⟩);have Io:=Io (bL ⟨af,order,types,.mk rh rp⟩) (eu ⟨af,order,types,.mk rh rp⟩);generalize eu ⟨af,order,types,.mk rh rp⟩=rt at *;have PY:=fA hP _ (ckV (bL ⟨af,order,types,.mk rh rp⟩) (.mk rk ra rn rs rq rl) rt).1 (Nat.le_refl _) (by omega) rt;rw [OX] at PY;generalize ckV (bL ⟨af,order,types,.mk rh rp⟩) (.mk rk ra rn rs rq rl) rt=X at Kn PY OX Fh;obtain ⟨⟨Xk,Xn,Xs,Xl⟩,Xe,Xa⟩:=X;simp only at PY;apply iT (.op 0 (.op 1 (.op 3 (.ev 2 (.ev 4 (.op 5 (.op 6 (.op 7 (.ev 8 (.ev 9 (.ev 10 (.ev 11 .fin .stop) .stop) .stop) (.ev 9 (.ev 8 (.ev 10 (.ev 11 .fin .stop) .stop) .stop) .stop))))) (.ev 8 (.ev 4 (.op 5 (.op 6 (.op 7 (.ev 9 (.ev 10 (.ev 11 .fin .stop) .stop) .stop)))) (.ev 9 (.ev 4 (.op 5 (.op 6 (.op 7 (.ev 10 (.ev 11 .fin .stop) .stop)))) .stop) .stop)) (.ev 9 (.ev 4 (.op 5 (.op 6 (.op 7 (.ev 8 (.ev 10 (.ev 11 .fin .stop) .stop) .stop)))) (.ev 8 (.ev 4 (.op 5 (.op 6 (.op 7 (.ev 10 (.ev 11 .fin .stop) .stop)))) .stop) .stop)) .stop))) (.ev 8 (.ev 2 (.ev 4 (.op 5 (.op 6 (.op 7 (.ev 9 (.ev 10 (.ev 11 .fin .stop) .stop) .stop)))) (.ev 9 (.ev 4 (.op 5 (.op 6 (.op 7 (.ev 10 (.ev 11 .fin .stop) .stop)))) .stop) .stop)) (.ev 9 (.ev 2 (.ev 4 (.op 5 (.op 6 (.op 7 (.ev 10 (.ev 11 .fin .stop) .stop)))) .stop) .stop) .stop)) (.ev 9 (.ev 2 (.ev 4 (.op 5 (.op 6 (.op 7 (.ev 8 (.ev 10 (.ev 11 .fin .stop) .stop) .stop)))) (.ev 8 (.ev 4 (.op 5 (.op 6 (.op 7 (.ev 10 (.ev 11 .fin .stop) .stop)))) .stop) .stop)) (.ev 8 (.ev 2 (.ev 4 (.op 5 (.op 6 (.op 7 (.ev 10 (.ev 11 .fin .stop) .stop)))) .stop) .stop) .stop)) .stop)))))) 4 5 mo (by decide +kernel);·repeat' (first | refine G8 yP (jM) ax rfl ?_ | refine G8 BN (Kn) ax rfl ?_ | exact Or.inl (Or.inl rfl) | exact Or.inl lO | exact F5 | exact trivial | exact Or.inl (Or.inl rfl) | exact Or.inl lO | exact CD | refine ⟨?_,?_⟩)
 ·exact (rfl:_=_)
 refine Av (fun _=>false) mo (by decide +kernel) ?_;refine G8 yP (jM) ax rfl ?_;refine G8 yQ (PY) ax rfl ?_;refine br (fun g=>absurd g (by cases decide (Xe=0)<;>simp)) (fun _=>?_);by_cases hF:fitV (bL ⟨af,order,types,.mk rh rp⟩) (.mk q z s ks) rt=true
 case neg=>
  rw [Bool.not_eq_true] at hF;rw [hF,if_neg (by simp)] at O8;apply vm (fun _=>false) 8 [0,1,2,3,4,5,6,7] [9,10] mo (by decide +kernel);·repeat' (first | refine G8 yP (jM) ax rfl ?_ | refine G8 Kw (O8) ax rfl ?_ | exact Or.inl rfl | exact lO | refine ⟨?_,?_⟩)
  refine call_p BM (dT) ax rfl ?_;exact (rfl:_=_)
 rw [hF,if_pos rfl] at O8;rw [if_pos hF] at Ix;have T9:=Gc dh (.mk q z s ks) rt hF;have jY:=jJ hP _ (rawV (bL ⟨af,order,types,.mk rh rp⟩) (.mk q z s ks) rt) (Nat.le_refl _) (Gd _ T9) rt;rw [Gf dh _ (.mk q z s ks) (Nat.le_refl _) rt hF] at jY;have rP:=rP hF;have Ua:=fun {l}=>@xX _ _ dh _ (.mk q z s ks) (Nat.le_refl _) rt hF [] l;have hgf:=fun l x j h=>xW dh l hF (x:=x) (j:=j) h;simp only [hF,if_true] at T8;clear T9;generalize rawV (bL ⟨af,order,types,.mk rh rp⟩) (.mk q z s ks) rt=W at O8 jY;obtain ⟨wk,wa,wn,ws,wq,wl⟩:=W;generalize pathV (bL ⟨af,order,types,.mk rh rp⟩) (.mk q z s ks) rt []=L at Ix rP Io Ua;have ed:=n9 L;apply vm (fun _=>false) 8 [0,1,2,3,4,5,6,7] [9,10] mo (by decide +kernel);·repeat' (first | refine G8 yP (jM) ax rfl ?_ | refine G8 Kw (O8) ax rfl ?_ | exact Or.inl rfl | exact lO | refine ⟨?_,?_⟩)
 apply iT (.op 0 (.op 1 (.op 3 (.ev 2 (.ev 4 (.op 5 (.op 6 (.op 7 (.ev 8 (.ev 9 (.ev 10 (.ev 11 .fin .stop) .stop) .stop) (.ev 9 (.ev 8 (.ev 10 (.ev 11 .fin .stop) .stop) .stop) .stop))))) (.ev 8 (.ev 4 (.op 5 (.op 6 (.op 7 (.ev 9 (.ev 10 (.ev 11 .fin .stop) .stop) .stop)))) (.ev 9 (.ev 4 (.op 5 (.op 6 (.op 7 (.ev 10 (.ev 11 .fin .stop) .stop)))) .stop) .stop)) (.ev 9 (.ev 4 (.op 5 (.op 6 (.op 7 (.ev 8 (.ev 10 (.ev 11 .fin .stop) .stop) .stop)))) (.ev 8 (.ev 4 (.op 5 (.op 6 (.op 7 (.ev 10 (.ev 11 .fin .stop) .stop)))) .stop) .stop)) .stop))) (.ev 8 (.ev 2 (.ev 4 (.op 5 (.op 6 (.op 7 (.ev 9 (.ev 10 (.ev 11 .fin .stop) .stop) .stop)))) (.ev 9 (.ev 4 (.op 5 (.op 6 (.op 7 (.ev 10 (.ev 11 .fin .stop) .stop)))) .stop) .stop)) (.ev 9 (.ev 2 (.ev 4 (.op 5 (.op 6 (.op 7 (.ev 10 (.ev 11 .fin .stop) .stop)))) .stop) .stop) .stop)) (.ev 9 (.ev 2 (.ev 4 (.op 5 (.op 6 (.op 7 (.ev 8 (.ev 10 (.ev 11 .fin .stop) .stop) .stop)))) (.ev 8 (.ev 4 (.op 5 (.op 6 (.op 7 (.ev 10 (.ev 11 .fin .stop) .stop)))) .stop) .stop)) (.ev 8 (.ev 2 (.ev 4 (.op 5 (.op 6 (.op 7 (.ev 10 (.ev 11 .fin .stop) .stop)))) .stop) .stop) .stop)) .stop)))))) 7 8 mo (by decide +kernel);·repeat' (first | refine G8 yP (jM) ax rfl ?_ | refine G8 BN (jY) ax rfl ?_ | exact Or.inl (Or.inl rfl) | exact Or.inl lO | exact F5 | exact trivial | exact Or.inl (Or.inl rfl) | exact Or.inl lO | exact CD | refine ⟨?_,?_⟩)
 ·exact (rfl:_=_)
 refine Av (fun _=>false) mo (by decide +kernel) ?_;refine G8 yP (jM) ax rfl ?_;refine G8 QD (Ix) ax rfl ?_
 refine bU (fun j0 st=>∃ e:Nat,st=Gn PC ⟨af,order,types,.mk rh rp⟩ (.mk q z s ks) (.mk rk ra rn rs rq rl) (.mk Xk Xn Xs Xl) Xe Xa (.mk wk wa wn ws wq wl) L e/\e<=L.length/\j0=L.length - e) L.length
  (Gn PC ⟨af,order,types,.mk rh rp⟩ (.mk q z s ks) (.mk rk ra rn rs rq rl) (.mk Xk Xn Xs Xl) Xe Xa (.mk wk wa wn ws wq wl) L 0) (aq ⟨_,rfl⟩ wA rfl rfl rfl wB) ⟨0,rfl,by omega,by omega⟩ ?_
 rintro _ st ⟨e,rfl,he,rfl⟩;refine br (fun hL=>?_) (fun hL=>?_)
 ·have au:e < L.length:=by simpa [ed] using hL
  obtain ⟨l,hl⟩:∃ l,L[e]? = some l:=⟨_,gE au⟩;have K9:=Io l (mG hl);rw [List.length_nil] at K9;obtain ⟨l',r,ov,SK⟩:=Ua (mG hl);rw [List.nil_append] at ov;subst ov;obtain ⟨a,k⟩:=r;have haw:=Bb l SK;have j1:=T8 l (by omega);have Ub:=fA hP _ a (Nat.le_refl _) (by omega) k;rw [hgf l a k SK] at Ub;rw [SK] at j1;obtain ⟨ak,an,at9,al⟩:=a;apply vm (fun _=>false) 13 [0,1,2,3,4,5,6,7,8,9,10,11,12] [14,15,16] mo (by decide +kernel);·repeat' (first | refine G8 yP (jM) ax rfl ?_ | refine G8 QE (j1) ax rfl ?_ | refine ⟨_,⟨by omega,CL hl⟩,?_⟩ | exact Or.inl rfl | exact lO | refine ⟨?_,?_⟩)
  refine call_p yQ (Ub) ax rfl ?_;exact ⟨Gn PC ⟨af,order,types,.mk rh rp⟩ (.mk q z s ks) (.mk rk ra rn rs rq rl) (.mk Xk Xn Xs Xl) Xe Xa (.mk wk wa wn ws wq wl) L (e + 1),(aq ⟨_,rfl⟩ wA rfl rfl rfl (ah au)),L.length - (e + 1),by omega,e + 1,rfl,by omega,rfl⟩
 ·refine ⟨true,Lj _ _ (0,0) (0,0),?_⟩;refine call_p MP (T7) ax rfl ?_;rw [<- rP,<- ed] at B2;refine call_p MQ (B2) ax rfl ?_;refine br (fun _=>?_) (fun g=>absurd g (by simp [pickB]));refine call_p BM (dT) ax rfl ?_;exact (rfl:_=_)
end Go.Proofs.YtfifjddnnmfeoaaGreat
