/- Part 7 of the proof: What is seen of a view: the program's narrow, the document's Narrow; The law of what may be seen; The program's Narrow, the document's Narrow; the law; The law of what is narrowed; The level above all; what is known of views; the law of the steps of erasing. No condition. -/
import Derived.Test.YtbfdbhechmhpoaaGreatMg6
set_option linter.all false
set_option maxRecDepth 100000
namespace Go.Proofs.YtbfdbhechmhpoaaGreat
open Go Go.RowKit Dv Tryz
section
variable {ND:List Nd} {f:Nat→Nat→Bool} {L obs o:Nat}
theorem seeVs_at:∀ {ks:List Val} {d:Nd} {z:Int} {a j m:Nat} {x:Val},seeVs ND f L obs ks d z a j=true→ks[m]? = some x→∃ e,edgeN d z (j + m)=some e∧kidS ND f L obs d e a x=true
 | [],_,_,_,_,_,_,_,h=>by cases h
 | y :: r,d,z,a,j,m,x,h,hx=>by
  rw [seeVs,Bool.and_eq_true] at h
  cases m with
  | zero=>
   cases hx
   cases he:edgeN d z j with
   | none=>rw [he] at h;exact absurd h.1 (by simp)
   | some e=>rw [he] at h;exact ⟨e,rfl,h.1⟩
  | succ m=>
   have:=seeVs_at (m:=m) h.2 (by simpa using hx)
   rwa [show j + 1 + m=j + (m + 1) by omega] at this
structure SeenK (ND:List Nd) (f:Nat→Nat→Bool) (L obs:Nat) (d:Nd) (z:Int) (a m:Nat) (x:Val) (e:Ed):Prop where
 kid:KidE ND d z m e
 k5:5≤d.kind
 k8:d.kind=8→(0≤z∧z < d.edges.length)∧m=0
 see:kidS ND f L obs d e a x=true
theorem see_facts (hok:∀ n∈ND,NdOK L ND.length n) {v:Val} {i:Int} {a:Nat} {d:Nd} (h:seeV ND f L obs v i a=true) (hd:nodeA ND i=some d) {m:Nat} {x:Val} (hx:v.ks[m]? = some x):∃ e,SeenK ND f L obs d v.n a m x e:=by
 have hN:=hok d (List.mem_of_getElem? (nodeA_some hd).2)
 obtain ⟨k,n,s,ks⟩:=v
 rw [seeV,hd] at h
 simp only [Val.ks] at h hx
 by_cases h5:d.kind < 5
 ·rw [if_pos h5] at h
  obtain ⟨d',hF⟩:=fit_facts hok h
  have hdd:d'=d:=by have:=hF.node;rw [hd] at this;cases this;rfl
  subst hdd
  have:=hF.leaf h5
  simp only [Val.ks] at this
  rw [this] at hx
  cases hx
 ·rw [if_neg h5,Bool.and_eq_true] at h
  have hm:m < ks.length:=(List.getElem?_eq_some_iff.1 hx).1
  obtain ⟨e,hK⟩:=shell_kid hN (by omega) h.1 (m:=m) hm
  obtain ⟨e2,he2,hs⟩:=seeVs_at h.2 hx
  rw [Nat.zero_add] at he2
  have:=hK.edge
  simp only [Val.n] at this
  rw [he2] at this
  have hee:e2=e:=Option.some.inj this
  exact ⟨e,hK,by omega,fun c=>shell_zero hN h.1 c hm,hee ▸ hs⟩
theorem see_k (hok:∀ n∈ND,NdOK L ND.length n) {v:Val} {i:Int} {a:Nat} (h:seeV ND f L obs v i a=true):v.k < 9:=by
 obtain ⟨k,n,s,ks⟩:=v
 rw [seeV] at h
 cases hd:nodeA ND i with
 | none=>rw [hd] at h;cases h
 | some d=>
  have hN:=hok d (List.mem_of_getElem? (nodeA_some hd).2)
  have h8:=hN.k8
  rw [hd] at h
  simp only at h
  by_cases h5:d.kind < 5
  ·rw [if_pos h5] at h
   obtain ⟨d',hF⟩:=fit_facts hok h
   have hdd:d'=d:=by have:=hF.node;rw [hd] at this;cases this;rfl
   subst hdd
   have:=hF.k
   simp only [Val.k] at this ⊢
   omega
  ·rw [if_neg h5,Bool.and_eq_true] at h
   have h1:=h.1
   unfold shellF at h1
   split at h1
   ·cases h1
   ·rename_i hc
    have:(Val.mk k n s ks).k=d.kind:=by
     by_cases c:(Val.mk k n s ks).k=d.kind
     ·exact c
     ·exact absurd (.inl c) hc
    omega
theorem may_kinds {e:Ed} {d:Nd} {v:Val} (h:mayF e d v=true):v=hidV e∨v.k=10∨v.k=11∨v.k=12:=by
 by_cases c1:e.ck=1∧d.kind=2
 ·rw [mayF_1 c1] at h
  split at h
  ·rename_i g
   exact .inl (plainK_iff.1 g)
  ·simp only [Bool.and_eq_true] at h
   have:=plainK_iff.1 h.1.1.1.1
   exact .inr (.inl (by rw [this];rfl))
 by_cases c2:e.ck=2∧d.kind=3
 ·rw [mayF_2 c2] at h
  simp only [Bool.and_eq_true] at h
  have:=plainK_iff.1 h.1.1
  exact .inr (.inr (.inl (by rw [this];rfl)))
 by_cases c3:e.ck=3∧d.kind=5
 ·rw [mayF_3 c3] at h
  simp only [Bool.and_eq_true] at h
  have:=plainK_iff.1 h.1.1
  exact .inr (.inr (.inr (by rw [this];rfl)))
 rw [mayF_0 c1 c2 c3] at h
 exact .inl (plainK_iff.1 h)
theorem coarse_hid (e:Ed):coarseV e (hidV e)=hidV e:=by
 unfold coarseV
 rw [if_neg (by rintro ⟨_,h,_⟩;exact absurd h (by show ¬ (9:Int)=2;decide)),if_neg (by rintro ⟨_,h⟩;exact absurd h (by show ¬ (9:Int)=3;decide)),if_neg (by rintro ⟨_,h⟩;exact absurd h (by show ¬ (9:Int)=5;decide))]
theorem kid_coarse (hok:∀ n∈ND,NdOK L ND.length n) (hL:LatOK f L) (ho:o < L) (hb:obs < L) (hle:f o obs=true) {d:Nd} {e:Ed} {a:Nat} {x:Val} (hN:NdOK L ND.length d) (hm:e∈d.edges) (ha:a < L) (hs:kidS ND f L obs d e a x=true) (h1:1≤howF f L o d e a) :
  (howF f L o d e a=2→seeV ND f L obs x e.to (undF f L d e a)=true)∧(x.k < 9∨x=hidV e∨x.k=10∨x.k=11∨x.k=12):=by
 have hmo:=how_mono hL hN hm ha ho hb hle
 have h2:howF f L obs d e a≤2:=by
  rw [howF_eq]
  repeat' split
  all_goals omega
 unfold kidS at hs
 by_cases c2:howF f L obs d e a=2
 ·rw [if_pos c2] at hs
  exact ⟨fun _=>hs,.inl (see_k hok hs)⟩
 ·rw [if_neg c2,if_pos (by omega)] at hs
  refine ⟨fun h=>by omega,.inr ?_⟩
  cases ht:nodeA ND e.to with
  | none=>rw [ht] at hs;cases hs
  | some t=>rw [ht] at hs;exact may_kinds hs
theorem how_val (d:Nd) (e:Ed) (a:Nat):(f (undF f L d e a) o=true→howF f L o d e a=2)∧(f (undF f L d e a) o=false→(decide (e.ck≠0) && f (jnF f L a e.seen.toNat) o)=true→howF f L o d e a=1)∧(f (undF f L d e a) o=false→(decide (e.ck≠0) && f (jnF f L a e.seen.toNat) o)=false→howF f L o d e a=0):=by
 rw [howF_eq]
 refine ⟨fun h=>by rw [if_pos h],fun h h2=>?_,fun h h2=>?_⟩
 ·rw [Bool.and_eq_true,decide_eq_true_iff] at h2
  rw [if_neg (by rw [h];simp),if_pos h2]
 ·rw [if_neg (by rw [h];simp),if_neg (by
   rintro ⟨g1,g2⟩
   rw [decide_eq_true g1,g2] at h2
   cases h2)]
theorem narrowVs_len:∀ (ks:List Val) (d:Nd) (z:Int) (a j:Nat),(narrowVs ND f L obs ks d z a j).length=ks.length
 | [],_,_,_,_=>by rw [narrowVs]
 | x :: r,d,z,a,j=>by rw [narrowVs,List.length_cons,List.length_cons,narrowVs_len r]
theorem narrowVs_at:∀ {ks:List Val} {d:Nd} {z:Int} {a j m:Nat} {x:Val},ks[m]? = some x→(narrowVs ND f L obs ks d z a j)[m]? = some (match edgeN d z (j + m) with
  | none=>x
  | some e=>if howF f L obs d e a=2 then narrowV ND f L obs x e.to (undF f L d e a) else if howF f L obs d e a=1 then (if x.k < 9 then coarseV e x else x) else hidV e)
 | [],_,_,_,_,_,_,h=>by cases h
 | y :: r,d,z,a,j,0,x,h=>by
  rw [narrowVs]
  cases h
  rfl
 | y :: r,d,z,a,j,m + 1,x,h=>by
  rw [narrowVs,List.getElem?_cons_succ,narrowVs_at (ks:=r) (m:=m) (x:=x) h,show j + 1 + m=j + (m + 1) by omega]
end
def narK (ND:List Nd) (f:Nat→Nat→Bool) (L obs:Nat) (d:Nd) (e:Ed) (a:Nat) (x:Val):Val:=if howF f L obs d e a=2 then narrowV ND f L obs x e.to (undF f L d e a) else if howF f L obs d e a=1 then (if x.k < 9 then coarseV e x else x) else hidV e
theorem narK_at {ND:List Nd} {f:Nat→Nat→Bool} {L obs:Nat} {ks:List Val} {d:Nd} {z:Int} {a m:Nat} {x:Val} {e:Ed} (h:ks[m]? = some x) (he:edgeN d z m=some e):(narrowVs ND f L obs ks d z a 0)[m]? = some (narK ND f L obs d e a x):=by
 rw [narrowVs_at h,Nat.zero_add,he]
 rfl
abbrev naPSt (PC LC:List DV) (obs a:Nat) (v:Val) (d:Nd) (o:List Val) (q e:Nat):St:=
 ⟨[(2,⟨[],.v (.int .i64 a)⟩),(4,⟨[],.loc 0 0⟩),(7,⟨[],.loc 1 0⟩),(8,⟨[],.loc 2 0⟩),(9,⟨[],.loc 3 0⟩),(11,⟨[],.loc 4 0⟩),(32,⟨[],.sl 4 (dVals v.ks) none⟩),(33,⟨[],.v (.int .i64 (dVals v.ks).length)⟩),(34,⟨[],.v (.int .i64 e)⟩)],
  [eeD PC LC obs,dVal v,[.v (.int .i64 0),.v (.int .i64 0),.v (.string emptyB),.v (.slice none 0 0)],dNd d,[.v (.int .i64 v.k),.v (.int .i64 v.n),.v (.string v.s),.sl 4 (dVals o) (some 0)]],[⟨q,82,4,none⟩]⟩
theorem enarrow_spec {S:Sch} {ND:List Nd} {PC LC:List DV} (hP:PlanR S ND PC) (hR:LatR S.levels.length (leqS S) (nmTx S.levels) LC) (hrn:∀ n∈ND,rngN n) (hsz:∀ n∈ND,n.edges.length≤1099511627776) (obs fr:Nat) (ho:obs < S.levels.length) (hfr:fr < S.levels.length) (hle:leqS S obs fr=true) :
  ∀ (k:Nat) (v:Val),v.wt≤k→v.wt≤1099511627776→rngW v→∀ (i:Int) (a:Nat),a < S.levels.length→seeV ND (leqS S) S.levels.length fr v i a=true →
   EvP Tryz.prog 126 [.agg (eeD PC LC obs),.v (.int .i64 i),.v (.int .i64 a),.agg (dVal v)] (.agg (dVal (narrowV ND (leqS S) S.levels.length obs v i a)))
 | 0,v,h,_=>by have:=v.wt_pos;omega
 | k + 1,v,h,hb=>fun hr i a ha hsee=>by
  have ih:=enarrow_spec hP hR hrn hsz obs fr ho hfr hle k
  have hL:=hR.ok
  obtain ⟨d,hnd⟩:∃ d,nodeA ND i=some d:=by
   cases hd:nodeA ND i with
   | none=>
    obtain ⟨q,z,s,ks⟩:=v
    rw [seeV,hd] at hsee
    cases hsee
   | some d=>exact ⟨d,rfl⟩
  obtain ⟨h0,hg⟩:=nodeA_some hnd
  obtain ⟨j,rfl⟩:∃ j:Nat,i=j:=⟨i.toNat,by omega⟩
  have hg:ND[j]? = some d:=by simpa using hg
  have hmem:=List.mem_of_getElem? hg
  have hN:=hP.ok d hmem
  have hnode:=hP.node j d hg
  have hkid:=fun {m:Nat} {x:Val}=>see_facts (m:=m) (x:=x) hP.ok hsee hnd
  have hdsz:=hsz d hmem
  have hdrn:=hrn d hmem
  have hE:narrowV ND (leqS S) S.levels.length obs v j a = .mk v.k v.n v.s (narrowVs ND (leqS S) S.levels.length obs v.ks d v.n a 0):=by
   obtain ⟨q,z,s,ks⟩:=v
   rw [narrowV,hnd]
   rfl
  rw [hE]
  have hOl:=narrowVs_len (ND:=ND) (f:=leqS S) (L:=S.levels.length) (obs:=obs) v.ks d v.n a 0
  have hOa:=fun {m:Nat} {x:Val} {e:Ed}=>narK_at (ND:=ND) (f:=leqS S) (L:=S.levels.length) (obs:=obs) (ks:=v.ks) (d:=d) (z:=v.n) (a:=a) (m:=m) (x:=x) (e:=e)
  generalize narrowVs ND (leqS S) S.levels.length obs v.ks d v.n a 0=O at hOl hOa ⊢
  obtain ⟨vk,vn,vs,ks⟩:=v
  have hkl:=wtVs_len ks
  have hdl:=dVals_len ks
  rw [Val.wt] at h hb
  have hrk:=rngW_ks hr
  simp only [Val.ks,Val.n,Val.k,Val.s] at hkid hOl hOa hrk ⊢
  obtain ⟨kind,at',lo,hi,most,names,es⟩:=d
  refine ev_go (P:=Tryz.prog) tt tt_ok 5000 99 [.cell 8 82] Tryz.func126 rfl Tryz.ntmps126 rfl (Nat.le_of_ble_eq_true rfl) (fun E9 w9 hn9 hm9=>?_)
  refine call_p en18 (hnode) ax rfl ?_
  refine loop_i (fun t st=>∃ e q:Nat,st=naPSt PC LC obs a (.mk vk vn vs ks) ⟨kind,at',lo,hi,most,names,es⟩ (O.take e) q e∧q=e∧e≤ks.length∧t=ks.length - e) ks.length (naPSt PC LC obs a (.mk vk vn vs ks) ⟨kind,at',lo,hi,most,names,es⟩ [] 0 0) (weak_bt 5 ⟨0,82,4,none⟩ rfl rfl rfl (by repeat' (first | exact rfl | exact we_rfl rfl | exact we_int rfl | exact we_tok (Nat.le_refl _) rfl | exact we_tok (Nat.le_refl _) rfl | refine ⟨_,_,rfl,?_,?_⟩)) rfl rfl (by repeat' (first | exact trivial | exact we_rfl rfl | exact we_int rfl | exact we_tok (Nat.le_refl _) rfl | refine ⟨⟨_,rfl,?_⟩,?_⟩))) ⟨0,0,by rw [List.take_zero],rfl,by omega,by omega⟩ ?_
  rintro t st ⟨e,q,rfl,hq,he,rfl⟩
  refine br (fun hLt=>?_) (fun hLt=>?_)
  ·have hlt:e < ks.length:=by simpa [hdl,Val.ks] using hLt
   obtain ⟨x,hx⟩:∃ x,ks[e]? = some x:=⟨_,List.getElem?_eq_getElem hlt⟩
   obtain ⟨ed,hSK⟩:=hkid hx
   obtain ⟨hK,h5,hk8,hse⟩:=hSK
   have hm:=List.mem_of_getElem? hx
   have hwx:=wtVs_mem hm
   have hrx:=rngWs_mem hrk hm
   have hxe:=hOa hx hK.edge
   unfold narK at hxe
   have hedge:=eedge_spec hR PC obs a ha ⟨kind,at',lo,hi,most,names,es⟩ (.mk vk vn vs ks) e ed hK.edge hK.mem hN h5 hk8 hdsz
   have hU:=undF_lt hL hN hK.mem ha
   have hsees:=esees_spec hR PC obs (undF (leqS S) S.levels.length ⟨kind,at',lo,hi,most,names,es⟩ ed a) ho hU
   have hco:=ecoarsely_spec hR PC obs a ho ha ⟨kind,at',lo,hi,most,names,es⟩ ed hN hK.mem
   have hcv:=ecoarse_spec ed x (rngW_n hrx) (by omega) (hdrn.2.2 ed hK.mem)
   have hhv:=ehidden_spec ed
   have hrec:=fun hs=>ih x (by omega) (by omega) hrx ed.to (undF (leqS S) S.levels.length ⟨kind,at',lo,hi,most,names,es⟩ ed a) hU hs
   have hkc:=kid_coarse hP.ok hL ho hfr hle hN hK.mem ha hse
   have hOl':(O.take e).length=e:=by rw [List.length_take];omega
   have hdOl:(dVals (O.take e)).length=e:=by rw [dVals_len,hOl']
   have hend:∀ y:Val,O[e]? = some y→dVals (O.take e) ++ [dVal y]=dVals (O.take (e + 1)):=fun y hy=>dVals_snoc hy
   have hch:=coarse_hid ed
   have hv:=how_val (f:=leqS S) (L:=S.levels.length) (o:=obs) ⟨kind,at',lo,hi,most,names,es⟩ ed a
   generalize howF (leqS S) S.levels.length obs ⟨kind,at',lo,hi,most,names,es⟩ ed a=H at hxe hkc hv
   generalize undF (leqS S) S.levels.length ⟨kind,at',lo,hi,most,names,es⟩ ed a=U at hedge hsees hrec hxe hkc hv
   generalize leqS S U obs=b1 at hsees hv
   generalize (decide (ed.ck≠0) && leqS S (jnF (leqS S) S.levels.length a ed.seen.toNat) obs)=b2 at hco hv
   obtain ⟨hv1,hv2,hv3⟩:=hv
   have hY1:b1=true→O[e]? = some (narrowV ND (leqS S) S.levels.length obs x ed.to U)∧seeV ND (leqS S) S.levels.length fr x ed.to U=true:=fun hb1=>by
    have hH:=hv1 hb1
    rw [if_pos hH] at hxe
    exact ⟨hxe,(hkc (by omega)).1 hH⟩
   have hY2:b1=false→b2=true→¬ (x.k=10∨x.k=11∨x.k=12)→O[e]? = some (coarseV ed x):=fun g1 g2 g3=>by
    have hH:=hv2 g1 g2
    rw [if_neg (by omega),if_pos hH] at hxe
    rw [hxe]
    rcases (hkc (by omega)).2 with g | g | g
    ·rw [if_pos g]
    ·rw [if_neg (by rw [g];show ¬ (9:Int) < 9;decide),g,hch]
    ·exact absurd g g3
   have hY3:b1=false→b2=true→(x.k=10∨x.k=11∨x.k=12)→O[e]? = some x:=fun g1 g2 g3=>by
    have hH:=hv2 g1 g2
    rw [if_neg (by omega),if_pos hH,if_neg (by omega)] at hxe
    exact hxe
   have hY4:b1=false→b2=false→O[e]? = some (hidV ed):=fun g1 g2=>by
    have hH:=hv3 g1 g2
    rw [if_neg (by omega),if_neg (by omega)] at hxe
    exact hxe
   clear hxe hkc
   clear hch hv1 hv2 hv3
   generalize narrowV ND (leqS S) S.levels.length obs x ed.to U=Y1 at hrec hY1
   generalize coarseV ed x=Y2 at hcv hY2
   generalize hidV ed=Y3 at hhv hY4
   obtain ⟨xk,xn,xs,xks⟩:=x
   obtain ⟨y1k,y1n,y1s,y1ks⟩:=Y1
   obtain ⟨y2k,y2n,y2s,y2ks⟩:=Y2
   obtain ⟨y3k,y3n,y3s,y3ks⟩:=Y3
   obtain ⟨en,eb,ea,et,elb,ew,eck,ecn,ese,eca⟩:=ed
   refine ⟨_,⟨by omega,dVals_get hx⟩,?_⟩
   refine call_p en201 (hedge) ax rfl ?_
   refine call_p en202 (hsees) ax rfl ?_
   cases b1 with
   | true=>
    obtain ⟨hxe,hs⟩:=hY1 rfl
    have hrec:=hrec hs
    have hsn:=hend _ hxe
    refine call_p en126 (hrec) ax rfl ?_
    refine ⟨by rw [hdOl,hq],⟨by simp [maxLen,hdOl];omega,by simp [hdOl];omega⟩,?_⟩
    exact ⟨naPSt PC LC obs a (.mk vk vn vs ks) ⟨kind,at',lo,hi,most,names,es⟩ (O.take (e + 1)) (q + 1) (e + 1),(weak_b 5 rfl (by repeat' (first | exact rfl | exact we_rfl rfl | exact we_int (nxt hlt (by omega)) | exact we_sl hsn rfl | refine ⟨_,_,rfl,?_,?_⟩)) rfl rfl rfl (by repeat' (first | exact trivial | exact we_rfl rfl | exact we_int (nxt hlt (by omega)) | exact we_sl hsn rfl | refine ⟨⟨_,rfl,?_⟩,?_⟩))),ks.length - (e + 1),by omega,e + 1,q + 1,rfl,by omega,by omega,rfl⟩
   | false=>
    refine call_p en203 (hco) ax rfl ?_
    cases b2 with
    | true=>
     refine br (fun c=>?_) (fun c=>?_)
     ·have c:¬ (xk=10∨xk=11∨xk=12):=by
       intro g
       rcases g with g | g | g<;>simp [pickB_or,pickB_and,g] at c
      have hsn:=hend _ (hY2 rfl rfl c)
      refine call_p en208 (hcv) ax rfl ?_
      refine ⟨by rw [hdOl,hq],⟨by simp [maxLen,hdOl];omega,by simp [hdOl];omega⟩,?_⟩
      exact ⟨naPSt PC LC obs a (.mk vk vn vs ks) ⟨kind,at',lo,hi,most,names,es⟩ (O.take (e + 1)) (q + 1) (e + 1),(weak_b 5 rfl (by repeat' (first | exact rfl | exact we_rfl rfl | exact we_int (nxt hlt (by omega)) | exact we_sl hsn rfl | refine ⟨_,_,rfl,?_,?_⟩)) rfl rfl rfl (by repeat' (first | exact trivial | exact we_rfl rfl | exact we_int (nxt hlt (by omega)) | exact we_sl hsn rfl | refine ⟨⟨_,rfl,?_⟩,?_⟩))),ks.length - (e + 1),by omega,e + 1,q + 1,rfl,by omega,by omega,rfl⟩
     ·have c:xk=10∨xk=11∨xk=12:=by
       by_cases g1:xk=10
       ·exact .inl g1
       by_cases g2:xk=11
       ·exact .inr (.inl g2)
       by_cases g3:xk=12
       ·exact .inr (.inr g3)
       simp [pickB_or,pickB_and,g1,g2,g3] at c
      have hsn:=hend _ (hY3 rfl rfl c)
      refine call_p en203 (hco) ax rfl ?_
      refine ⟨by rw [hdOl,hq],⟨by simp [maxLen,hdOl];omega,by simp [hdOl];omega⟩,?_⟩
      exact ⟨naPSt PC LC obs a (.mk vk vn vs ks) ⟨kind,at',lo,hi,most,names,es⟩ (O.take (e + 1)) (q + 1) (e + 1),(weak_b 5 rfl (by repeat' (first | exact rfl | exact we_rfl rfl | exact we_int (nxt hlt (by omega)) | exact we_sl hsn rfl | refine ⟨_,_,rfl,?_,?_⟩)) rfl rfl rfl (by repeat' (first | exact trivial | exact we_rfl rfl | exact we_int (nxt hlt (by omega)) | exact we_sl hsn rfl | refine ⟨⟨_,rfl,?_⟩,?_⟩))),ks.length - (e + 1),by omega,e + 1,q + 1,rfl,by omega,by omega,rfl⟩
    | false=>
     have hsn:=hend _ (hY4 rfl rfl)
     refine call_p en203 (hco) ax rfl ?_
     refine call_p en209 (hhv) ax rfl ?_
     refine ⟨by rw [hdOl,hq],⟨by simp [maxLen,hdOl];omega,by simp [hdOl];omega⟩,?_⟩
     exact ⟨naPSt PC LC obs a (.mk vk vn vs ks) ⟨kind,at',lo,hi,most,names,es⟩ (O.take (e + 1)) (q + 1) (e + 1),(weak_b 5 rfl (by repeat' (first | exact rfl | exact we_rfl rfl | exact we_int (nxt hlt (by omega)) | exact we_sl hsn rfl | refine ⟨_,_,rfl,?_,?_⟩)) rfl rfl rfl (by repeat' (first | exact trivial | exact we_rfl rfl | exact we_int (nxt hlt (by omega)) | exact we_sl hsn rfl | refine ⟨⟨_,rfl,?_⟩,?_⟩))),ks.length - (e + 1),by omega,e + 1,q + 1,rfl,by omega,by omega,rfl⟩
  ·have hge:e=ks.length:=by have:=hLt;simp [hdl,Val.ks] at this;omega
   subst hge
   rw [List.take_of_length_le (by omega)]
   exact ⟨_,ax,rfl⟩
end Go.Proofs.YtbfdbhechmhpoaaGreat

set_option maxRecDepth 100000
namespace Go.Proofs.YtbfdbhechmhpoaaGreat
open Go Go.RowKit Dv Tryz
theorem fine27_spec (S:Sch) (hS:S.wt≤1099511627776) (x:Val) (hx:x.wt≤1099511627776) :
  Ev Tryz.prog 59 [.agg (dSch S),.agg (dVal x)] [] [] (fun r _ _=>∃ b:Bool,r = .v (.bool b)∧(b=true→Fine21 S)):=by
 have ga:=great17_spec S hS
 have hf:=fine21_spec S hS
 have h1:=size25_spec x.wt x (Nat.le_refl _) hx
 generalize cntV x=c1 at h1
 generalize depV x=d1 at h1
 obtain ⟨levels,order,types,⟨rh,rp⟩⟩:=S
 obtain ⟨xk,xn,xs,xks⟩:=x
 refine ev_go (P:=Tryz.prog) tt tt_ok 5000 23 [.tmp 4] Tryz.func59 rfl Tryz.ntmps59 rfl (Nat.le_of_ble_eq_true rfl) (fun E9 w9 hn9 hm9=>?_)
 refine call_p en111 (h1) ax rfl ?_
 refine br (fun c=>?_) (fun c=>?_)
 ·refine call_e en14 rfl ga ax (fun r hr=>?_)
  obtain ⟨g,rfl⟩:=hr
  cases g with
  | true=>
   refine ⟨false,?_,fun h=>by cases h⟩
   refine (congrArg (fun b=>DV.v (.bool b)) ?_:_=_)
   simp only [pickB_and,Bool.not_true,Bool.and_false,Bool.false_and]
  | false=>
   refine call_e en88 rfl hf ax (fun r hr=>?_)
   obtain ⟨b,rfl,hb⟩:=hr
   exact ⟨b,rfl,hb⟩
 ·exact ⟨false,rfl,fun h=>by cases h⟩
def exP27:Sch:=⟨[⟨⟨#[108,111,119]⟩,0⟩,⟨⟨#[104,105,103,104]⟩,0⟩],[(⟨⟨#[108,111,119]⟩,0⟩,⟨⟨#[104,105,103,104]⟩,0⟩)],[],.mk (exH 7) (.cons ⟨⟨⟨#[120]⟩,0⟩,false,[⟨⟨#[104,105,103,104]⟩,0⟩],0,0,0,0,[]⟩ (.mk (exH 1) .nil) .nil)⟩
def exA27:Val:=.mk 7 0 emptyB [.mk 1 1 emptyB []]
theorem ex27_fine:(resF exP27).1=0:=by decide +kernel
theorem ex27_root:resRoot exP27=((resRoot exP27).toNat:Nat)∧(resRoot exP27).toNat < (resNds exP27).length:=by decide +kernel
def isV (o:Option Val) (v:Val):Bool:=match o with | some y=>sameV y v | none=>false
theorem isV_eq {o:Option Val} {v:Val} (h:isV o v=true):o=some v:=by
 cases o with
 | none=>cases h
 | some y=>rw [sameV_iff.1 (show sameV y v=true from h)]
theorem ex27_low:seenF (resNds exP27) (leqS exP27) exP27.levels.length (resRoot exP27).toNat 0 exA27=some (.mk 7 0 emptyB [.mk 9 3 emptyB []]):=isV_eq (by decide +kernel)
theorem ex27_high:seenF (resNds exP27) (leqS exP27) exP27.levels.length (resRoot exP27).toNat 1 exA27=some (.mk 7 0 emptyB [.mk 1 1 emptyB []]):=isV_eq (by decide +kernel)
theorem lives27_spec:EvP Tryz.prog 60 [] (.v (.bool true)):=by
 have hwt:exP27.wt≤1099511627776:=by decide +kernel
 have hb:=(build_spec exP27 hwt).mono (Ψ:=fun r _ _=>BuiltΦ exP27 r) fun _ _ _ h=>builtΦ_of hwt h
 refine ev_go (P:=Tryz.prog) tt tt_ok 5000 81 [.tmp 0] Tryz.func60 rfl Tryz.ntmps60 rfl (Nat.le_of_ble_eq_true rfl) (fun E9 w9 hn9 hm9=>?_)
 refine call_e en16 rfl hb ax (fun r hr=>?_)
 rcases hr with ⟨hr,_⟩ | ⟨_,PC,hP,rfl⟩
 ·exact (hr ex27_fine).elim
 obtain ⟨LC,hlat,hR⟩:=hP.latR
 have hrng:∀ n∈resNds exP27,rngN n:=fun n hn=>resNds_rng (S:=exP27) (by simp [exP27,rngS,rngT,rngP,exH,I64]) hn
 have hsz:∀ n∈resNds exP27,n.edges.length≤1099511627776:=fun n hn=>(resNds_sz hn hwt).2
 have hl:=fun o=>eErase_root hP hlat hR hrng hsz (resRoot exP27).toNat ex27_root.1 o exA27 (by decide +kernel) (by simp [exA27,rngW,rngWs,I64])
 have h0:=hl 0
 have h1:=hl 1
 rw [ex27_low] at h0
 rw [ex27_high] at h1
 have hh:=eHidden_spec _ (.mk 7 0 emptyB [.mk 9 3 emptyB []]) (Nat.le_refl _) (by decide +kernel)
 rw [show hidN (.mk 7 0 emptyB [.mk 9 3 emptyB []])=1 by decide +kernel] at hh
 refine call_p en65 (h0) ax rfl ?_
 refine call_p en65 (h1) ax rfl ?_
 refine ⟨_,⟨by decide,rfl⟩,?_⟩
 refine ⟨_,⟨by decide,rfl⟩,?_⟩
 refine ⟨_,⟨by decide,rfl⟩,?_⟩
 refine call_p en67 (hh) ax rfl ?_
 exact (rfl:_=_)
end Go.Proofs.YtbfdbhechmhpoaaGreat

set_option maxRecDepth 100000
namespace Go.Proofs.YtbfdbhechmhpoaaGreat
open Go Go.RowKit Dv Tryz
def narF (ND:List Nd) (f:Nat→Nat→Bool) (n rt:Nat) (fr to:Int) (v:Val):Option Val:=if (0≤to∧to < n)∧leqI f n to fr=true∧seeF ND f n rt fr v=true then some (narrowV ND f n to.toNat v rt (botF f n)) else none
theorem leqI_in {f:Nat→Nat→Bool} {n:Nat} {a b:Int} (h:leqI f n a b=true):0≤a∧a < n∧0≤b∧b < n∧f a.toNat b.toNat=true:=by
 unfold leqI at h
 simp only [Bool.and_eq_true,decide_eq_true_eq] at h
 exact ⟨h.1.1.1.1,h.1.1.1.2,h.1.1.2,h.1.2,h.2⟩
theorem seeF_in {ND:List Nd} {f:Nat→Nat→Bool} {n rt:Nat} {o:Int} {v:Val} (h:seeF ND f n rt o v=true):(0≤o∧o < n)∧seeV ND f n o.toNat v rt (botF f n)=true:=by
 unfold seeF at h
 rw [Bool.and_eq_true,decide_eq_true_iff] at h
 exact h
theorem erNarrow_root {S:Sch} {ND:List Nd} {PC LC:List DV} (hP:PlanR S ND PC) (hlat:EvP Tryz.prog 21 [.pt PC 0] (.pt LC 0)) (hR:LatR S.levels.length (leqS S) (nmTx S.levels) LC) (hrS:∀ n∈ND,rngN n) (hsz:∀ n∈ND,n.edges.length≤1099511627776) (rt:Nat) (hrt:resRoot S=rt) (hrl:rt < ND.length) (fr to:Int) (v:Val) (hv:v.wt≤1099511627776) (hrv:rngW v) :
  EvP Tryz.prog 63 [.pt PC 0,.v (.int .i64 fr),.v (.int .i64 to),.agg (dVal v)] (seenD (narF ND (leqS S) S.levels.length rt fr to v)):=by
 have hlk:=elook_spec hlat hR to
 have hroot:=hP.root
 rw [hrt] at hroot
 have hbot:=hR.bot
 have hleq:=hR.leq to fr
 have hft:=erFits_root hP hlat hR hrS hsz rt hrt hrl fr v hv hrv
 have hs:=fun (a b:Nat) (h1:a < S.levels.length) (h2:b < S.levels.length) (h3:leqS S a b=true) h4=>enarrow_spec hP hR hrS hsz a b h1 h2 h3 _ v (Nat.le_refl _) hv hrv rt (botF (leqS S) S.levels.length) (botF_lt hR.ok) h4
 have hS:narF ND (leqS S) S.levels.length rt fr to v=if (0≤to∧to < S.levels.length)∧leqI (leqS S) S.levels.length to fr=true∧seeF ND (leqS S) S.levels.length rt fr v=true then some (narrowV ND (leqS S) S.levels.length to.toNat v rt (botF (leqS S) S.levels.length)) else none:=rfl
 have hin:=fun h=>leqI_in (f:=leqS S) (n:=S.levels.length) (a:=to) (b:=fr) h
 have hsin:=fun h=>seeF_in (ND:=ND) (f:=leqS S) (n:=S.levels.length) (rt:=rt) (o:=fr) (v:=v) h
 generalize narF ND (leqS S) S.levels.length rt fr to v=NF at hS ⊢
 generalize leqI (leqS S) S.levels.length to fr=LQ at hleq hS hin
 generalize seeF ND (leqS S) S.levels.length rt fr v=SF at hft hS hsin
 by_cases ho:0≤to∧to < S.levels.length
 ·rw [show decide (0≤to∧to < (S.levels.length:Int))=true from decide_eq_true ho] at hlk
  cases LQ with
  | false=>
   rw [if_neg (by simp)] at hS
   rw [hS]
   obtain ⟨k,n,s,ks⟩:=v
   refine ev_go (P:=Tryz.prog) tt tt_ok 5000 44 [.cell 8 82,.tmp 9] Tryz.func63 rfl Tryz.ntmps63 rfl (Nat.le_of_ble_eq_true rfl) (fun E9 w9 hn9 hm9=>?_)
   refine call_p en123 (hlk) ax rfl ?_
   refine call_p en57 (hleq) ax rfl ?_
   exact ⟨_,ax,rfl⟩
  | true=>
   cases SF with
   | false=>
    rw [if_neg (by simp)] at hS
    rw [hS]
    obtain ⟨k,n,s,ks⟩:=v
    refine ev_go (P:=Tryz.prog) tt tt_ok 5000 44 [.cell 8 82,.tmp 9] Tryz.func63 rfl Tryz.ntmps63 rfl (Nat.le_of_ble_eq_true rfl) (fun E9 w9 hn9 hm9=>?_)
    refine call_p en123 (hlk) ax rfl ?_
    refine call_p en57 (hleq) ax rfl ?_
    refine call_p en61 (hft) ax rfl ?_
    exact ⟨_,ax,rfl⟩
   | true=>
    rw [if_pos ⟨ho,rfl,rfl⟩] at hS
    have hin:=hin rfl
    have hs:=hs to.toNat fr.toNat (by omega) (by omega) hin.2.2.2.2 (hsin rfl).2
    rw [hS]
    rw [show ((to.toNat:Nat):Int)=to by omega] at hs
    generalize narrowV ND (leqS S) S.levels.length to.toNat v rt (botF (leqS S) S.levels.length)=Y at hs
    generalize botF (leqS S) S.levels.length=bt at hbot hs
    obtain ⟨yk,yn,ys,yks⟩:=Y
    obtain ⟨k,n,s,ks⟩:=v
    refine ev_go (P:=Tryz.prog) tt tt_ok 5000 44 [.cell 8 82,.tmp 9] Tryz.func63 rfl Tryz.ntmps63 rfl (Nat.le_of_ble_eq_true rfl) (fun E9 w9 hn9 hm9=>?_)
    refine call_p en123 (hlk) ax rfl ?_
    refine call_p en57 (hleq) ax rfl ?_
    refine call_p en61 (hft) ax rfl ?_
    refine drawG_s mo (by decide +kernel) ?_
    refine callD_p en19 (hroot) ax rfl ?_
    refine callD_p en115 (hbot) ax rfl ?_
    refine callD_p en126 (hs) ax rfl ?_
    exact ⟨_,ax,rfl⟩
 ·rw [show decide (0≤to∧to < (S.levels.length:Int))=false from decide_eq_false ho] at hlk
  rw [if_neg (fun h=>ho h.1)] at hS
  rw [hS]
  obtain ⟨k,n,s,ks⟩:=v
  refine ev_go (P:=Tryz.prog) tt tt_ok 5000 44 [.cell 8 82,.tmp 9] Tryz.func63 rfl Tryz.ntmps63 rfl (Nat.le_of_ble_eq_true rfl) (fun E9 w9 hn9 hm9=>?_)
  refine call_p en123 (hlk) ax rfl ?_
  exact ⟨_,ax,rfl⟩
end Go.Proofs.YtbfdbhechmhpoaaGreat

set_option maxRecDepth 100000
namespace Go.Proofs.YtbfdbhechmhpoaaGreat
open Go Go.RowKit Dv Tryz
end Go.Proofs.YtbfdbhechmhpoaaGreat

set_option maxRecDepth 100000
namespace Go.Proofs.YtbfdbhechmhpoaaGreat
open Go Go.RowKit Dv Tryz
def topF (f:Nat→Nat→Bool) (n:Nat):Nat→Nat
 | 0=>0
 | e + 1=>jnF f n (topF f n e) e
theorem topF_le {f:Nat→Nat→Bool} {n:Nat} (hL:LatOK f n):∀ e,e≤n→topF f n e < n∧∀ x,x < e→f x (topF f n e)=true
 | 0,_=>⟨hL.pos,fun _ h=>by omega⟩
 | e + 1,he=>by
  obtain ⟨h1,h2⟩:=topF_le hL e (by omega)
  obtain ⟨g1,g2,g3,_⟩:=joinN_spec (jnF_some hL h1 (show e < n by omega))
  refine ⟨g1,fun x hx=>?_⟩
  rcases Nat.lt_succ_iff_lt_or_eq.1 hx with hx | rfl
  ·exact hL.tr x _ _ (by omega) h1 g1 (h2 x hx) g2
  ·exact g3
abbrev topSt (L:List DV) (n b e:Nat):St:=
 ⟨[(0,⟨[],.pt L 0⟩),(3,⟨[],.v (.int .i64 b)⟩),(9,⟨[],.v (.int .i64 n)⟩),(10,⟨[],.v (.int .i64 e)⟩)],[],[]⟩
theorem ltop_spec {n:Nat} {f:Nat→Nat→Bool} {names:List ByteArray} {LC:List DV} (hR:LatR n f names LC):EvP Tryz.prog 66 [.pt LC 0] (.v (.int .i64 (topF f n n:Nat))):=by
 have hlen:=hR.len
 have hpos:=hR.ok.pos
 have hn:=hR.n32
 refine ev_go (P:=Tryz.prog) tt tt_ok 5000 19 [.tmp 2] Tryz.func66 rfl Tryz.ntmps66 rfl (Nat.le_of_ble_eq_true rfl) (fun E9 w9 hn9 hm9=>?_)
 refine call_p en55 (hlen) ax rfl ?_
 refine br (fun g=>?_) (fun g=>?_)
 ·exfalso
  simp at g
  omega
 refine call_p en55 (hlen) ax rfl ?_
 refine loop_i (fun j st=>∃ e:Nat,st=topSt LC n (topF f n e) e∧e≤n∧j=n - e) n (topSt LC n (topF f n 0) 0) (weak_mk ⟨_,rfl⟩ wA rfl rfl rfl wB) ⟨0,rfl,by omega,by omega⟩ ?_
 rintro j st ⟨e,rfl,he,rfl⟩
 refine br (fun hL'=>?_) (fun hL'=>?_)
 ·have hlt:e < n:=by have:=hL';simp at this;exact this
  refine call_p en132 (hR.join _ _ (topF_le hR.ok e he).1 hlt) ax rfl ?_
  exact ⟨topSt LC n (topF f n (e + 1)) (e + 1),(weak_mk ⟨_,rfl⟩ wA rfl rfl rfl (by repeat' (first | exact trivial | exact we_rfl rfl | exact we_int (nxt hlt (by omega)) | refine ⟨⟨_,rfl,?_⟩,?_⟩))),n - (e + 1),by omega,e + 1,rfl,by omega,rfl⟩
 ·have hge:e=n:=by have:=hL';simp at this;omega
  subst hge
  exact (rfl:_=_)
mutual
theorem fit_hid {L:Nat} {ND:List Nd} (hok:∀ n∈ND,NdOK L ND.length n):∀ (v:Val) (i:Int),fitV ND v i=true→hidN v=0
 | .mk k n s ks,i,h=>by
  obtain ⟨d,hF⟩:=fit_facts hok h
  have hN:=hok d (List.mem_of_getElem? (nodeA_some hF.node).2)
  have hk:k=d.kind:=hF.k
  have h8:=hN.k8
  rw [hidN,fit_hids hok ks (fun m x hx=>(kids_ok hok h hF hx).imp fun e he=>⟨_,he.fit⟩),if_neg (by omega)]
theorem fit_hids {L:Nat} {ND:List Nd} (hok:∀ n∈ND,NdOK L ND.length n):∀ (ks:List Val),(∀ (m:Nat) x,ks[m]? = some x→∃ (_:Ed) (i:Int),fitV ND x i=true)→hidNs ks=0
 | [],_=>rfl
 | x :: r,h=>by
  obtain ⟨_,i,hi⟩:=h 0 x rfl
  rw [hidNs,fit_hid hok x i hi,fit_hids hok r fun m y hy=>h (m + 1) y hy]
end
theorem coarseV_rng {e:Ed} {x:Val} (hw:1≤e.wide∧e.wide≤64) (hx:rngW x) (hxw:x.wt≤1099511627776):rngW (coarseV e x):=by
 have hn:=rngW_n hx
 unfold coarseV
 split
 ·rename_i h
  have h3:=h.2.2
  by_cases hu:e.cn < 1
  ·unfold floorV at h3
   rw [if_pos hu] at h3
   cases h3
  ·rw [floorV_u (by omega)] at h3 ⊢
   have:=Int.emod_nonneg x.n (show e.cn≠0 by omega)
   split at h3
   ·cases h3
   rename_i hc
   rw [if_neg hc,rngW]
   exact ⟨by unfold I64;omega,by unfold I64;simp only;omega,trivial⟩
 ·split
  ·rw [rngW];exact ⟨by unfold I64;omega,by unfold I64;omega,trivial⟩
  ·split
   ·rw [rngW]
    have:x.ks.length≤1099511627776:=by
     obtain ⟨k,n,s,ks⟩:=x
     have:=wtVs_len ks
     rw [Val.wt] at hxw
     simp only [Val.ks];omega
    exact ⟨by unfold I64;omega,by unfold I64;omega,trivial⟩
   ·rw [hidV,rngW];exact ⟨by unfold I64;omega,by unfold I64;omega,trivial⟩
theorem edgeN_mem {d:Nd} {z:Int} {j:Nat} {e:Ed} (h:edgeN d z j=some e):e∈d.edges:=by
 unfold edgeN at h
 split at h
 ·exact List.mem_of_getElem? h
 ·split at h<;>exact List.mem_of_getElem? h
section
variable {ND:List Nd} {f:Nat→Nat→Bool} {L obs:Nat}
mutual
theorem eraseV_rng (hok:∀ n∈ND,NdOK L ND.length n):∀ (v:Val) (i:Int) (a:Nat),rngW v→v.wt≤1099511627776→rngW (eraseV ND f L obs v i a)
 | .mk k n s ks,i,a,h,hw=>by
  rw [rngW] at h
  rw [Val.wt] at hw
  rw [eraseV]
  cases hd:nodeA ND i with
  | none=>rw [rngW];exact ⟨h.1,h.2.1,trivial⟩
  | some d=>
   have hN:=hok d (List.mem_of_getElem? (nodeA_some hd).2)
   rw [rngW]
   exact ⟨h.1,h.2.1,eraseVs_rng hok ks d n a 0 hN h.2.2 (by omega)⟩
theorem eraseVs_rng (hok:∀ n∈ND,NdOK L ND.length n):∀ (ks:List Val) (d:Nd) (z:Int) (a j:Nat),NdOK L ND.length d→rngWs ks→wtVs ks≤1099511627776→rngWs (eraseVs ND f L obs ks d z a j)
 | [],_,_,_,_,_,_,_=>by rw [eraseVs];trivial
 | x :: r,d,z,a,j,hN,h,hw=>by
  rw [rngWs] at h
  rw [wtVs] at hw
  have h1:=eraseVs_rng hok r d z a (j + 1) hN h.2 (by omega)
  rw [eraseVs,rngWs]
  refine ⟨?_,h1⟩
  cases he:edgeN d z j with
  | none=>exact h.1
  | some e=>
   have hwd:=(hN.edge e (edgeN_mem he)).wide
   simp only
   split
   ·exact eraseV_rng hok x _ _ h.1 (by omega)
   ·split
    ·exact coarseV_rng hwd h.1 (by omega)
    ·rw [hidV,rngW];exact ⟨by unfold I64;omega,by unfold I64;omega,trivial⟩
end
end
theorem see_zero {ND:List Nd} {f:Nat→Nat→Bool} {L o:Nat} {i:Int} {a:Nat} (hok:∀ n∈ND,NdOK L ND.length n):seeV ND f L o (.mk 0 0 emptyB []) i a=false:=by
 cases h:seeV ND f L o (.mk 0 0 emptyB []) i a
 ·rfl
 rw [seeV] at h
 cases hd:nodeA ND i with
 | none=>rw [hd] at h;cases h
 | some d=>
  have hN:=hok d (List.mem_of_getElem? (nodeA_some hd).2)
  have h1:=hN.k1
  rw [hd] at h
  simp only at h
  split at h
  ·obtain ⟨d',hF⟩:=fit_facts hok h
   have:=hF.node
   rw [hd] at this
   injection this with this
   subst this
   have:=hF.k
   simp only [Val.k] at this
   omega
  ·rw [Bool.and_eq_true] at h
   have h2:=h.1
   unfold shellF at h2
   rw [if_pos (.inl (by simp only [Val.k];omega))] at h2
   cases h2
theorem seenD_get (o:Option Val):seenD o = .tup [.agg (dVal (o.getD (.mk 0 0 emptyB []))),.v (.bool o.isSome)]:=by cases o<;>rfl
set_option maxHeartbeats 4000000 in
theorem steps27_law (S:Sch) (hS:S.wt≤1099511627776) (hrS:rngS S) (x:Val) (hx:x.wt≤1099511627776) (hrx:rngW x) (o p:Int) :
  EvP Tryz.prog 12 [.agg (dSch S),.agg (dVal x),.agg ([.v (.int .i64 o)] ++ [.v (.int .i64 p)])] (.v (.bool true)):=by
 have hf:=fine27_spec S hS x hx
 have hb:=(build_spec S hS).mono (Ψ:=fun r _ _=>BuiltΦ S r) fun _ _ _ h=>builtΦ_of hS h
 have hrf:=@resRoot_ok S
 have hRr:=fun n (hn:n∈resNds S)=>resNds_rng hrS hn
 have hesz:∀ n∈resNds S,n.edges.length≤1099511627776:=fun n hn=>(resNds_sz hn hS).2
 have hz:=same25_spec (.mk 0 0 emptyB []) (by decide) (.mk 0 0 emptyB [])
 rw [show sameV (.mk 0 0 emptyB []) (.mk 0 0 emptyB [])=true from rfl] at hz
 have hsx:=same25_spec x hx x
 rw [sameV_iff.2 rfl] at hsx
 have hhx:=eHidden_spec _ x (Nat.le_refl _) hx
 generalize hSS:S=SS at *
 subst hSS
 have key:Fine21 S→∀ PC,PlanR S (resNds S) PC→∃ (LC:List DV) (root t:Nat) (FV:Bool) (EA EB:Option Val),
   EvP Tryz.prog 21 [.pt PC 0] (.pt LC 0)∧EvP Tryz.prog 66 [.pt LC 0] (.v (.int .i64 t)) ∧
   EvP Tryz.prog 65 [.pt PC 0,.v (.int .i64 t),.agg (dVal x)] (seenD (if FV=true then some x else none)) ∧
   EvP Tryz.prog 65 [.pt PC 0,.v (.int .i64 o),.agg (dVal x)] (seenD EA) ∧
   EvP Tryz.prog 65 [.pt PC 0,.v (.int .i64 p),.agg (dVal x)] (seenD EB) ∧
   EvP Tryz.prog 61 [.pt PC 0,.v (.int .i64 o),.agg (dVal (EA.getD (.mk 0 0 emptyB [])))] (.v (.bool EA.isSome)) ∧
   EvP Tryz.prog 61 [.pt PC 0,.v (.int .i64 p),.agg (dVal (EB.getD (.mk 0 0 emptyB [])))] (.v (.bool EB.isSome)) ∧
   (FV=true→hidN x=0) ∧
   ∃ LQ:Bool,EvP Tryz.prog 57 [.pt LC 0,.v (.int .i64 p),.v (.int .i64 o)] (.v (.bool LQ)) ∧
   (FV=true→LQ=true→∃ A B:Val,EA=some A∧EB=some B∧EvP Tryz.prog 63 [.pt PC 0,.v (.int .i64 o),.v (.int .i64 p),.agg (dVal A)] (seenD (some B))∧EvP Tryz.prog 47 [.agg (dVal B),.agg (dVal B)] (.v (.bool true))):=fun h0 PC hP=>by
  obtain ⟨root,hrt,hrl⟩:=hrf (fineS_of h0.res)
  obtain ⟨LC,hlat,hR⟩:=hP.latR
  have hok:=hP.ok
  obtain ⟨ht1,ht2⟩:=topF_le hR.ok S.levels.length (Nat.le_refl _)
  have hE:=fun (o:Int)=>eErase_root hP hlat hR hRr hesz root hrt o x hx hrx
  have hbt:=botF_lt hR.ok
  have hwA:=fun (o:Nat)=>Nat.le_trans (eraseV_wt (ND:=resNds S) (f:=leqS S) (L:=S.levels.length) (obs:=o) x root (botF (leqS S) S.levels.length)) hx
  have hrA:=fun (o:Nat)=>eraseV_rng (f:=leqS S) (obs:=o) hok x root (botF (leqS S) S.levels.length) hrx hx
  have hFit:=fun (o:Int)=>show EvP Tryz.prog 61 [.pt PC 0,.v (.int .i64 o),.agg (dVal ((seenF (resNds S) (leqS S) S.levels.length root o x).getD (.mk 0 0 emptyB [])))] (.v (.bool (seenF (resNds S) (leqS S) S.levels.length root o x).isSome)) by
   unfold seenF
   by_cases hc:0≤o∧o < S.levels.length∧fitV (resNds S) x root=true
   ·rw [if_pos hc]
    have:=erFits_root hP hlat hR hRr hesz root hrt hrl o _ (hwA o.toNat) (hrA o.toNat)
    rw [show seeF (resNds S) (leqS S) S.levels.length root o (eraseV (resNds S) (leqS S) S.levels.length o.toNat x root (botF (leqS S) S.levels.length))=true by
     unfold seeF
     rw [erase_see hok x root _ hc.2.2,decide_eq_true ⟨hc.1,hc.2.1⟩];rfl] at this
    exact this
   ·rw [if_neg hc]
    have:=erFits_root hP hlat hR hRr hesz root hrt hrl o (.mk 0 0 emptyB []) (by decide) (by rw [rngW];exact ⟨by unfold I64;omega,by unfold I64;omega,trivial⟩)
    rw [show seeF (resNds S) (leqS S) S.levels.length root o (.mk 0 0 emptyB [])=false by
     unfold seeF;rw [see_zero hok,Bool.and_false]] at this
    exact this
  refine ⟨LC,root,topF (leqS S) S.levels.length S.levels.length,fitV (resNds S) x root,_,_,hlat,ltop_spec hR,?_,hE o,hE p,hFit o,hFit p,fun h=>fit_hid hok x root h,_,hR.leq p o,fun hfv hlq=>?_⟩
  ·have:=hE (topF (leqS S) S.levels.length S.levels.length:Nat)
   unfold seenF at this
   cases hfv:fitV (resNds S) x root with
   | false=>rw [hfv,if_neg (by simp)] at this;exact this
   | true=>
    rw [hfv,if_pos ⟨by omega,by omega,rfl⟩,Int.toNat_natCast,erase_top hok hR.ok ht2 x root _ hbt hfv] at this
    exact this
  ·obtain ⟨p0,p1,o0,o1,hle⟩:=leqI_in hlq
   refine ⟨_,_,if_pos ⟨o0,o1,hfv⟩,if_pos ⟨p0,p1,hfv⟩,?_,?_⟩
   ·have:=erNarrow_root hP hlat hR hRr hesz root hrt hrl o p _ (hwA o.toNat) (hrA o.toNat)
    have hsf:seeF (resNds S) (leqS S) S.levels.length root o (eraseV (resNds S) (leqS S) S.levels.length o.toNat x root (botF (leqS S) S.levels.length))=true:=by
     unfold seeF
     rw [erase_see hok x root _ hfv,decide_eq_true ⟨o0,o1⟩,Bool.and_true]
    rw [narF,if_pos ⟨⟨p0,p1⟩,hlq,hsf⟩,erase_narrow (N:=0) hok hR.ok (by omega) (by omega) hle x root _ hbt hfv] at this
    exact this
   ·have:=same25_spec _ (hwA p.toNat) (eraseV (resNds S) (leqS S) S.levels.length p.toNat x root (botF (leqS S) S.levels.length))
    rw [sameV_iff.2 rfl] at this
    exact this
 obtain ⟨levels,order,types,⟨rh,rp⟩⟩:=S
 obtain ⟨xk,xn,xs,xks⟩:=x
 refine ev_go (P:=Tryz.prog) tt tt_ok 5000 121 [.tmp 6] Tryz.func12 rfl Tryz.ntmps12 rfl (Nat.le_of_ble_eq_true rfl) (fun E9 w9 hn9 hm9=>?_)
 refine call_e en59 rfl hf ax (fun r hr=>?_)
 obtain ⟨b,rfl,h0⟩:=hr
 cases b with
 | false=>
  refine call_p en60 (lives27_spec) ax rfl ?_
  exact (rfl:_=_)
 | true=>
  have hF:=h0 rfl
  have h0:=hF.res
  refine call_e en16 rfl hb ax (fun r hr=>?_)
  rcases hr with ⟨hr,_⟩ | ⟨_,PC,hP,rfl⟩
  ·exact (hr h0).elim
  obtain ⟨LC,root,t,FV,EA,EB,hlat,htop,hE0,hEa,hEb,hFa,hFb,hhid,LQ,hleq,hN⟩:=key hF PC hP
  cases FV with
  | false=>
   rw [if_neg (by simp)] at hE0
   apply drawG_x (fun _=>false) 9 [0,1,2,3,4,5,6,7,8] [10,11] mo (by decide +kernel);·repeat' (first | refine callD_p en21 (hlat) ax rfl ?_ | refine callD_p en66 (htop) ax rfl ?_ | refine callD_p en65 (hE0) ax rfl ?_ | exact Or.inl rfl | exact endS | refine ⟨?_,?_⟩)
   refine call_p en47 (hz) ax rfl ?_
   refine call_p en60 (lives27_spec) ax rfl ?_
   exact (rfl:_=_)
  | true=>
   rw [if_pos rfl] at hE0
   rw [hhid rfl] at hhx
   have hN:=hN rfl
   rw [seenD_get] at hEa hEb
   generalize hA:EA.getD (.mk 0 0 emptyB [])=A at hEa hFa
   generalize hB:EB.getD (.mk 0 0 emptyB [])=B at hEb hFb
   generalize hX:EA.isSome=X at hEa hFa
   generalize hY:EB.isSome=Y at hEb hFb
   obtain ⟨ak,an,at',aks⟩:=A
   obtain ⟨bk,bn,bt,bks⟩:=B
   apply drawG_x (fun _=>false) 9 [0,1,2,3,4,5,6,7,8] [10,11] mo (by decide +kernel);·repeat' (first | refine callD_p en21 (hlat) ax rfl ?_ | refine callD_p en66 (htop) ax rfl ?_ | refine callD_p en65 (hE0) ax rfl ?_ | exact Or.inl rfl | exact endS | refine ⟨?_,?_⟩)
   refine ⟨⟨by decide,by decide⟩,?_⟩
   refine call_p en65 (hEa) ax rfl ?_
   refine ⟨⟨by decide,by decide⟩,?_⟩
   refine call_p en65 (hEb) ax rfl ?_
   refine call_p en47 (hsx) ax rfl ?_
   refine call_p en67 (hhx) ax rfl ?_
   have hNn:LQ=true→X=true∧Y=true∧EvP Tryz.prog 63 [.pt PC 0,.v (.int .i64 o),.v (.int .i64 p),.agg (dVal (.mk ak an at' aks))] (seenD (some (.mk bk bn bt bks)))∧EvP Tryz.prog 47 [.agg (dVal (.mk bk bn bt bks)),.agg (dVal (.mk bk bn bt bks))] (.v (.bool true)):=fun h=>by
    obtain ⟨A,B,rfl,rfl,h1,h2⟩:=hN h
    simp only [Option.getD_some] at hA hB
    subst hA hB
    exact ⟨hX.symm,hY.symm,h1,h2⟩
   clear hN hA hB hX hY
   refine ⟨⟨by decide,by decide⟩,?_⟩
   cases LQ with
   | false=>
    cases X
    ·refine call_p en61 (hFa) ax rfl ?_
     refine ⟨⟨by decide,by decide⟩,?_⟩
     cases Y
     ·refine call_p en61 (hFb) ax rfl ?_
      refine drawG_i (fun _=>false) mo (by decide +kernel) ?_
      refine callD_p en21 (hlat) ax rfl ?_
      refine ⟨⟨by decide,by decide⟩,?_⟩
      refine ⟨⟨by decide,by decide⟩,?_⟩
      refine callD_p en57 (hleq) ax rfl ?_
      refine call_p en60 (lives27_spec) ax rfl ?_
      exact (rfl:_=_)
     ·refine call_p en61 (hFb) ax rfl ?_
      refine drawG_i (fun _=>false) mo (by decide +kernel) ?_
      refine callD_p en21 (hlat) ax rfl ?_
      refine ⟨⟨by decide,by decide⟩,?_⟩
      refine ⟨⟨by decide,by decide⟩,?_⟩
      refine callD_p en57 (hleq) ax rfl ?_
      refine call_p en60 (lives27_spec) ax rfl ?_
      exact (rfl:_=_)
    ·refine call_p en61 (hFa) ax rfl ?_
     refine ⟨⟨by decide,by decide⟩,?_⟩
     cases Y
     ·refine call_p en61 (hFb) ax rfl ?_
      refine drawG_i (fun _=>false) mo (by decide +kernel) ?_
      refine callD_p en21 (hlat) ax rfl ?_
      refine ⟨⟨by decide,by decide⟩,?_⟩
      refine ⟨⟨by decide,by decide⟩,?_⟩
      refine callD_p en57 (hleq) ax rfl ?_
      refine call_p en60 (lives27_spec) ax rfl ?_
      exact (rfl:_=_)
     ·refine call_p en61 (hFb) ax rfl ?_
      refine drawG_i (fun _=>false) mo (by decide +kernel) ?_
      refine callD_p en21 (hlat) ax rfl ?_
      refine ⟨⟨by decide,by decide⟩,?_⟩
      refine ⟨⟨by decide,by decide⟩,?_⟩
      refine callD_p en57 (hleq) ax rfl ?_
      refine call_p en60 (lives27_spec) ax rfl ?_
      exact (rfl:_=_)
   | true=>
    obtain ⟨rfl,rfl,hnar,hsm⟩:=hNn rfl
    refine call_p en61 (hFa) ax rfl ?_
    refine ⟨⟨by decide,by decide⟩,?_⟩
    refine call_p en61 (hFb) ax rfl ?_
    refine drawG_i (fun _=>false) mo (by decide +kernel) ?_
    refine callD_p en21 (hlat) ax rfl ?_
    refine ⟨⟨by decide,by decide⟩,?_⟩
    refine ⟨⟨by decide,by decide⟩,?_⟩
    refine callD_p en57 (hleq) ax rfl ?_
    refine ⟨⟨by decide,by decide⟩,?_⟩
    refine ⟨⟨by decide,by decide⟩,?_⟩
    refine call_p en63 (hnar) ax rfl ?_
    refine call_p en47 (hsm) ax rfl ?_
    refine call_p en60 (lives27_spec) ax rfl ?_
    exact (rfl:_=_)
end Go.Proofs.YtbfdbhechmhpoaaGreat
