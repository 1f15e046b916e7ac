/- Part 7 of the proof: Which values may be what is seen of one: the program's fits, Fits, the document's Fits, Seeable; The law of what may be seen. No condition. -/
import Derived.Test.YtbfdbhechmhpoaaGreatMg6
set_option linter.all false
set_option maxRecDepth 100000
namespace Go.Proofs.YtbfdbhechmhpoaaGreat
open Go Go.RowKit Dv Tryz
def edW (w:Int):Ed:=⟨emptyB,false,0,0,0,w,0,0,0,0⟩
theorem mayF_w (w:Int) (d:Nd) (v:Val):mayF (edW w) d v=plainK v 9 w emptyB:=by
 rw [mayF_0 (by rintro ⟨h,_⟩;cases h) (by rintro ⟨h,_⟩;cases h) (by rintro ⟨h,_⟩;cases h)]
 rfl
theorem shell_zero {N:Nat} {ND:List Nd} {d:Nd} (hN:NdOK N ND.length d) {v:Val} (h:shellF d v=true) (c:d.kind=8) {m:Nat} (hm:m < v.ks.length):(0≤v.n∧v.n < d.edges.length)∧m=0:=by
 rw [shellF_8 c] at h
 split at h
 ·cases h
 rename_i hc
 have h1:¬ v.n < 0:=fun g=>hc (.inr (.inr (.inl g)))
 have h2:¬ (d.edges.length:Int)≤v.n:=fun g=>hc (.inr (.inr (.inr g)))
 split at h
 ·cases h
 ·rw [Bool.and_eq_true,decide_eq_true_iff] at h
  have:=h.2
  omega
def kidS (ND:List Nd) (f:Nat→Nat→Bool) (L obs:Nat) (d:Nd) (e:Ed) (a:Nat) (x:Val):Bool:=if howF f L obs d e a=2 then seeV ND f L obs x e.to (undF f L d e a) else if howF f L obs d e a=1 then (match nodeA ND e.to with | none=>false | some t=>mayF e t x) else plainK x 9 e.wide emptyB
theorem seeVs_kid {ND:List Nd} {f:Nat→Nat→Bool} {L obs:Nat} {ks:List Val} {d:Nd} {z:Int} {a j m:Nat} {x:Val} {e:Ed} (h:ks[m]? = some x) (he:edgeN d z j=some e):seeVs ND f L obs (ks.drop m) d z a j=(kidS ND f L obs d e a x && seeVs ND f L obs (ks.drop (m + 1)) d z a (j + 1)):=by
 rw [seeVs_drop h,he]
 rfl
abbrev efSt (PC LC:List DV) (obs a:Nat) (v:Val) (d:Nd) (e:Nat):St:=
 ⟨[(2,⟨[],.v (.int .i64 a)⟩),(4,⟨[],.loc 0 0⟩),(7,⟨[],.loc 1 0⟩),(9,⟨[],.loc 2 0⟩),(38,⟨[],.sl 4 (dVals v.ks) none⟩),(39,⟨[],.v (.int .i64 (dVals v.ks).length)⟩),(40,⟨[],.v (.int .i64 e)⟩)],[eeD PC LC obs,dVal v,dNd d],[]⟩
theorem erfits_spec {S:Sch} {ND:List Nd} {PC LC:List DV} (hP:PlanR S ND PC) (hR:LatR S.levels.length (leqS S) (nmTx S.levels) LC) (hrn:∀ n∈ND,rngN n) (hsz:∀ n∈ND,n.edges.length≤1099511627776) (obs:Nat) (ho:obs < S.levels.length) :
  ∀ (k:Nat) (v:Val),v.wt≤k→v.wt≤1099511627776→rngW v→∀ (i a:Nat),a < S.levels.length→i < ND.length →
   EvP Tryz.prog 124 [.agg (eeD PC LC obs),.v (.int .i64 i),.v (.int .i64 a),.agg (dVal v)] (.v (.bool (seeV ND (leqS S) S.levels.length obs v i a)))
 | 0,v,h,_=>by have:=v.wt_pos;omega
 | k + 1,v,h,hb=>fun hr i a ha hi=>by
  have ih:=erfits_spec hP hR hrn hsz obs ho k
  have hL:=hR.ok
  obtain ⟨d,hg⟩:∃ d,ND[i]? = some d:=⟨_,List.getElem?_eq_getElem hi⟩
  have hnd:nodeA ND (i:Int)=some d:=by
   unfold nodeA
   rw [if_neg (by omega),Int.toNat_natCast,hg]
  have hmem:=List.mem_of_getElem? hg
  have hN:=hP.ok d hmem
  have hnode:=hP.node i d hg
  have hdsz:=hsz d hmem
  have hdrn:=hrn d hmem
  have hft:=tfits_spec hP _ v (Nat.le_refl _) hb i
  have hsh:=fun h5=>eshell_spec d v h5 hN.k8 hdsz hb
  have hske:=fun h5 hs m hm=>shell_kid hN h5 (v:=v) hs (m:=m) hm
  have hskz:=fun hs c m hm=>shell_zero hN (v:=v) hs c (m:=m) hm
  have hV:seeV ND (leqS S) S.levels.length obs v i a=if d.kind < 5 then fitV ND v i else shellF d v && seeVs ND (leqS S) S.levels.length obs v.ks d v.n a 0:=by
   obtain ⟨q,z,s,ks⟩:=v
   rw [seeV,hnd]
   rfl
  have hV1:d.kind < 5→seeV ND (leqS S) S.levels.length obs v i a=fitV ND v i:=fun c=>by rw [hV,if_pos c]
  have hV2:¬ d.kind < 5→seeV ND (leqS S) S.levels.length obs v i a=(shellF d v && seeVs ND (leqS S) S.levels.length obs v.ks d v.n a 0):=fun c=>by rw [hV,if_neg c]
  clear hV
  generalize seeV ND (leqS S) S.levels.length obs v i a=B at hV1 hV2 ⊢
  generalize fitV ND v i=F at hft hV1
  generalize shellF d v=SH at hsh hske hskz hV2
  obtain ⟨vk,vn,vs,ks⟩:=v
  have hkl:=wtVs_len ks
  have hdl:=dVals_len ks
  rw [Val.wt] at h hb
  have hrk:=rngW_ks hr
  simp only [Val.ks,Val.n] at hV2 hrk hske hskz
  obtain ⟨kind,at',lo,hi',most,names,es⟩:=d
  refine ev_go (P:=Tryz.prog) tt tt_ok 5000 90 [.tmp 8] Tryz.func124 rfl Tryz.ntmps124 rfl (Nat.le_of_ble_eq_true rfl) (fun E9 w9 hn9 hm9=>?_)
  refine call_p en18 (hnode) ax rfl ?_
  refine br (fun c=>?_) (fun c=>?_)
  ·have c:kind < 5:=by simpa using c
   rw [hV1 c]
   refine call_p en56 (hft) ax rfl ?_
   exact (rfl:_=_)
  have c5:¬ kind < 5:=by simpa using c
  have hV2:=hV2 c5
  have h5:5≤kind:=by omega
  have hsh:=hsh h5
  refine call_p en200 (hsh) ax rfl ?_
  cases SH with
  | false=>
   rw [Bool.false_and] at hV2
   rw [hV2]
   exact (rfl:_=_)
  | true=>
   rw [Bool.true_and] at hV2
   refine loop_i (fun t st=>∃ e:Nat,st=efSt PC LC obs a (.mk vk vn vs ks) ⟨kind,at',lo,hi',most,names,es⟩ e∧e≤ks.length∧B=seeVs ND (leqS S) S.levels.length obs (ks.drop e) ⟨kind,at',lo,hi',most,names,es⟩ vn a e∧t=ks.length - e) ks.length (efSt PC LC obs a (.mk vk vn vs ks) ⟨kind,at',lo,hi',most,names,es⟩ 0) (weak_b 3 rfl (by repeat' (first | exact rfl | exact we_rfl rfl | exact we_int rfl | refine ⟨_,_,rfl,?_,?_⟩)) rfl rfl rfl (by repeat' (first | exact trivial | exact we_rfl rfl | exact we_int rfl | refine ⟨⟨_,rfl,?_⟩,?_⟩))) ⟨0,rfl,by omega,hV2,by omega⟩ ?_
   rintro t st ⟨e,rfl,he,hE,rfl⟩
   refine br (fun hLt=>?_) (fun hLt=>?_)
   ·have hlt:e < ks.length:=by simpa [hdl,Val.ks] using hLt
    obtain ⟨x,hx⟩:∃ x,ks[e]? = some x:=⟨_,List.getElem?_eq_getElem hlt⟩
    obtain ⟨ed,hK⟩:=hske h5 rfl e hlt
    have hm:=List.mem_of_getElem? hx
    have hwx:=wtVs_mem hm
    have hrx:=rngWs_mem hrk hm
    obtain ⟨h1,t2,h2⟩:=to_in hN hK.mem hK.bare
    obtain ⟨_,hg2⟩:=nodeA_some h2
    have htl:=(List.getElem?_eq_some_iff.1 hg2).1
    have hto:ed.to=(ed.to.toNat:Nat):=by omega
    have hrn2:=hrn t2 (List.mem_of_getElem? hg2)
    have hnode2:=hP.node ed.to.toNat t2 hg2
    rw [← hto] at hnode2
    rw [seeVs_kid hx hK.edge] at hE
    have hedge:=eedge_spec hR PC obs a ha ⟨kind,at',lo,hi',most,names,es⟩ (.mk vk vn vs ks) e ed hK.edge hK.mem hN h5 (fun c=>hskz rfl c e hlt) hdsz
    have hU:=undF_lt hL hN hK.mem ha
    have hsees:=esees_spec hR PC obs (undF (leqS S) S.levels.length ⟨kind,at',lo,hi',most,names,es⟩ ed a) ho hU
    have hco:=ecoarsely_spec hR PC obs a ho ha ⟨kind,at',lo,hi',most,names,es⟩ ed hN hK.mem
    have hcnr:=hdrn.2.2 ed hK.mem
    have hcn1:=(hN.edge ed hK.mem).cn.2.1
    have hmay:=emay_spec ed t2 x hcn1 (rngW_n hrx) hrn2.1 hrn2.2.1 hcnr (by omega)
    have hmay2:=emay_spec (edW ed.wide) t2 x (fun h=>by cases h) (rngW_n hrx) hrn2.1 hrn2.2.1 ⟨by show (-9223372036854775808:Int)≤0;decide,by show (0:Int)≤9223372036854775807;decide⟩ (by omega)
    rw [mayF_w] at hmay2
    have hrec:=ih x (by omega) (by omega) hrx ed.to.toNat (undF (leqS S) S.levels.length ⟨kind,at',lo,hi',most,names,es⟩ ed a) hU htl
    rw [← hto] at hrec
    have hKS:kidS ND (leqS S) S.levels.length obs ⟨kind,at',lo,hi',most,names,es⟩ ed a x=if leqS S (undF (leqS S) S.levels.length ⟨kind,at',lo,hi',most,names,es⟩ ed a) obs=true then seeV ND (leqS S) S.levels.length obs x ed.to (undF (leqS S) S.levels.length ⟨kind,at',lo,hi',most,names,es⟩ ed a) else if (decide (ed.ck≠0) && leqS S (jnF (leqS S) S.levels.length a ed.seen.toNat) obs)=true then mayF ed t2 x else plainK x 9 ed.wide emptyB:=by
     unfold kidS
     rw [howF_eq,h2]
     by_cases g1:leqS S (undF (leqS S) S.levels.length ⟨kind,at',lo,hi',most,names,es⟩ ed a) obs=true
     ·simp only [if_pos g1,reduceIte]
     ·by_cases g2:ed.ck≠0∧leqS S (jnF (leqS S) S.levels.length a ed.seen.toNat) obs=true
      ·simp only [if_neg g1,if_pos g2,reduceIte]
       rw [if_neg (by decide),if_pos (by rw [decide_eq_true g2.1,g2.2];rfl)]
      ·simp only [if_neg g1,if_neg g2]
       rw [if_neg (by decide),if_neg (by decide),if_neg (by
        intro h
        rw [Bool.and_eq_true,decide_eq_true_iff] at h
        exact g2 h)]
    generalize kidS ND (leqS S) S.levels.length obs ⟨kind,at',lo,hi',most,names,es⟩ ed a x=KS at hE hKS
    generalize undF (leqS S) S.levels.length ⟨kind,at',lo,hi',most,names,es⟩ ed a=U at hedge hsees hrec hKS
    generalize leqS S U obs=b1 at hsees hKS
    generalize (decide (ed.ck≠0) && leqS S (jnF (leqS S) S.levels.length a ed.seen.toNat) obs)=b2 at hco hKS
    generalize seeV ND (leqS S) S.levels.length obs x ed.to U=R1 at hrec hKS
    generalize mayF ed t2 x=R2 at hmay hKS
    generalize plainK x 9 ed.wide emptyB=R3 at hmay2 hKS
    have hfin:KS=false→B=false:=fun h=>by rw [hE,h,Bool.false_and]
    have hgo:KS=true→∃ j',j' < ks.length - e∧∃ e',efSt PC LC obs a (.mk vk vn vs ks) ⟨kind,at',lo,hi',most,names,es⟩ (e + 1)=efSt PC LC obs a (.mk vk vn vs ks) ⟨kind,at',lo,hi',most,names,es⟩ e' ∧ e' ≤ ks.length∧B=seeVs ND (leqS S) S.levels.length obs (ks.drop e') ⟨kind,at',lo,hi',most,names,es⟩ vn a e' ∧ j'=ks.length - e':=fun h=>⟨ks.length - (e + 1),by omega,e + 1,rfl,by omega,by rw [hE,h,Bool.true_and],rfl⟩
    obtain ⟨xk,xn,xs,xks⟩:=x
    obtain ⟨en,eb,ea,et,elb,ew,eck,ecn,ese,eca⟩:=ed
    obtain ⟨kind2,at2,lo2,hi2,most2,names2,es2⟩:=t2
    clear hE
    refine ⟨_,⟨by omega,dVals_get hx⟩,?_⟩
    refine call_p en201 (hedge) ax rfl ?_
    refine call_p en18 (hnode2) ax rfl ?_
    refine call_p en202 (hsees) ax rfl ?_
    cases b1 with
    | true=>
     refine call_p en124 (hrec) ax rfl ?_
     cases R1 with
     | false=>
      have hB:=hfin (by rw [hKS];rfl)
      rw [hB]
      exact (rfl:_=_)
     | true=>
      obtain ⟨j',g1,g2⟩:=hgo (by rw [hKS];rfl)
      exact ⟨efSt PC LC obs a (.mk vk vn vs ks) ⟨kind,at',lo,hi',most,names,es⟩ (e + 1),(weak_b 3 rfl (by repeat' (first | exact rfl | exact we_rfl rfl | exact we_int (nxt hlt (by omega)) | refine ⟨_,_,rfl,?_,?_⟩)) rfl rfl rfl (by repeat' (first | exact trivial | exact we_rfl rfl | exact we_int (nxt hlt (by omega)) | refine ⟨⟨_,rfl,?_⟩,?_⟩))),j',g1,g2⟩
    | false=>
     refine call_p en203 (hco) ax rfl ?_
     cases b2 with
     | true=>
      refine call_p en204 (hmay) ax rfl ?_
      cases R2 with
      | false=>
       have hB:=hfin (by rw [hKS];rfl)
       rw [hB]
       exact (rfl:_=_)
      | true=>
       obtain ⟨j',g1,g2⟩:=hgo (by rw [hKS];rfl)
       exact ⟨efSt PC LC obs a (.mk vk vn vs ks) ⟨kind,at',lo,hi',most,names,es⟩ (e + 1),(weak_b 3 rfl (by repeat' (first | exact rfl | exact we_rfl rfl | exact we_int (nxt hlt (by omega)) | refine ⟨_,_,rfl,?_,?_⟩)) rfl rfl rfl (by repeat' (first | exact trivial | exact we_rfl rfl | exact we_int (nxt hlt (by omega)) | refine ⟨⟨_,rfl,?_⟩,?_⟩))),j',g1,g2⟩
     | false=>
      refine call_p en204 (hmay2) ax rfl ?_
      cases R3 with
      | false=>
       have hB:=hfin (by rw [hKS];rfl)
       rw [hB]
       exact (rfl:_=_)
      | true=>
       obtain ⟨j',g1,g2⟩:=hgo (by rw [hKS];rfl)
       exact ⟨efSt PC LC obs a (.mk vk vn vs ks) ⟨kind,at',lo,hi',most,names,es⟩ (e + 1),(weak_b 3 rfl (by repeat' (first | exact rfl | exact we_rfl rfl | exact we_int (nxt hlt (by omega)) | refine ⟨_,_,rfl,?_,?_⟩)) rfl rfl rfl (by repeat' (first | exact trivial | exact we_rfl rfl | exact we_int (nxt hlt (by omega)) | refine ⟨⟨_,rfl,?_⟩,?_⟩))),j',g1,g2⟩
   ·have hge:e=ks.length:=by have:=hLt;simp [hdl,Val.ks] at this;omega
    subst hge
    rw [List.drop_length,seeVs] at hE
    rw [hE]
    exact (rfl:_=_)
def seeF (ND:List Nd) (f:Nat→Nat→Bool) (n rt:Nat) (o:Int) (v:Val):Bool:=decide (0≤o∧o < n) && seeV ND f n o.toNat v rt (botF f n)
theorem erFits_root {S:Sch} {ND:List Nd} {PC LC:List DV} (hP:PlanR S ND PC) (hlat:EvP Tryz.prog 21 [.pt PC 0] (.pt LC 0)) (hR:LatR S.levels.length (leqS S) (nmTx S.levels) LC) (hrS:∀ n∈ND,rngN n) (hsz:∀ n∈ND,n.edges.length≤1099511627776) (rt:Nat) (hrt:resRoot S=rt) (hrl:rt < ND.length) (o:Int) (v:Val) (hv:v.wt≤1099511627776) (hrv:rngW v) :
  EvP Tryz.prog 61 [.pt PC 0,.v (.int .i64 o),.agg (dVal v)] (.v (.bool (seeF ND (leqS S) S.levels.length rt o v))):=by
 have hlk:=elook_spec hlat hR o
 have hroot:=hP.root
 rw [hrt] at hroot
 have hbot:=hR.bot
 have hs:=fun (obs:Nat) (ho:obs < S.levels.length)=>erfits_spec hP hR hrS hsz obs ho _ v (Nat.le_refl _) hv hrv rt (botF (leqS S) S.levels.length) (botF_lt hR.ok) hrl
 have hS:seeF ND (leqS S) S.levels.length rt o v=(decide (0≤o∧o < S.levels.length) && seeV ND (leqS S) S.levels.length o.toNat v rt (botF (leqS S) S.levels.length)):=rfl
 generalize seeF ND (leqS S) S.levels.length rt o v=SF at hS ⊢
 by_cases ho:0≤o∧o < S.levels.length
 ·obtain ⟨ob,rfl⟩:∃ n:Nat,o=n:=⟨_,(Int.toNat_of_nonneg ho.1).symm⟩
  have hs:=hs ob (by omega)
  rw [show decide (0≤(ob:Int)∧(ob:Int) < (S.levels.length:Int))=true from decide_eq_true ho] at hlk hS
  rw [Int.toNat_natCast,Bool.true_and] at hS
  rw [← hS] at hs
  generalize botF (leqS S) S.levels.length=bt at hbot hs
  obtain ⟨k,n,s,ks⟩:=v
  refine ev_go (P:=Tryz.prog) tt tt_ok 5000 26 [.tmp 6] Tryz.func61 rfl Tryz.ntmps61 rfl (Nat.le_of_ble_eq_true rfl) (fun E9 w9 hn9 hm9=>?_)
  refine call_p en123 (hlk) ax rfl ?_
  refine drawG_i (fun _=>false) mo (by decide +kernel) ?_
  refine callD_p en19 (hroot) ax rfl ?_
  refine callD_p en115 (hbot) ax rfl ?_
  refine callD_p en124 (hs) ax rfl ?_
  exact (rfl:_=_)
 ·rw [show decide (0≤o∧o < (S.levels.length:Int))=false from decide_eq_false ho] at hlk hS
  rw [Bool.false_and] at hS
  rw [hS]
  obtain ⟨k,n,s,ks⟩:=v
  refine ev_go (P:=Tryz.prog) tt tt_ok 5000 26 [.tmp 6] Tryz.func61 rfl Tryz.ntmps61 rfl (Nat.le_of_ble_eq_true rfl) (fun E9 w9 hn9 hm9=>?_)
  refine call_p en123 (hlk) ax rfl ?_
  refine drawG_i (fun _=>false) mo (by decide +kernel) ?_
  exact (rfl:_=_)
theorem llenE_nil:EvP Tryz.prog 55 [.v (.pointer none)] (.v (.int .i64 0)):=by
 refine ev_go (P:=Tryz.prog) tt tt_ok 5000 10 [.tmp 2] Tryz.func55 rfl Tryz.ntmps55 rfl (Nat.le_of_ble_eq_true rfl) (fun E9 w9 hn9 hm9=>?_)
 exact (rfl:_=_)
theorem elook_nil (o:Int):EvP Tryz.prog 123 [.v (.pointer none),.v (.int .i64 o)] (.tup [.agg [.v (.pointer none),.v (.pointer none),.v (.int .i64 o)],.v (.bool false)]):=by
 refine ev_go (P:=Tryz.prog) tt tt_ok 5000 21 [.cell 4 192,.tmp 5] Tryz.func123 rfl Tryz.ntmps123 rfl (Nat.le_of_ble_eq_true rfl) (fun E9 w9 hn9 hm9=>?_)
 refine call_p en21 (plat_nil) ax rfl ?_
 refine br (fun c=>?_) (fun c=>?_)
 ·have c:0≤o:=by simpa using c
  refine call_p en55 (llenE_nil) ax rfl ?_
  refine ⟨.tup [.agg [.v (.pointer none),.v (.pointer none),.v (.int .i64 o)],.v (.bool (decide (o < 0)))],ax,?_⟩
  rw [show decide (o < 0)=false from decide_eq_false (by omega)]
 ·exact ⟨_,ax,rfl⟩
theorem erFits_nil (o:Int) (v:Val):EvP Tryz.prog 61 [.v (.pointer none),.v (.int .i64 o),.agg (dVal v)] (.v (.bool false)):=by
 have hlk:=elook_nil o
 obtain ⟨k,n,s,ks⟩:=v
 refine ev_go (P:=Tryz.prog) tt tt_ok 5000 26 [.tmp 6] Tryz.func61 rfl Tryz.ntmps61 rfl (Nat.le_of_ble_eq_true rfl) (fun E9 w9 hn9 hm9=>?_)
 refine call_p en123 (hlk) ax rfl ?_
 refine drawG_i (fun _=>false) mo (by decide +kernel) ?_
 exact (rfl:_=_)
abbrev ft27St (W:List DV) (v:Val) (obs a:Nat) (d:Nd) (e:Nat):St:=
 ⟨[(1,⟨[],.v (.int .i64 obs)⟩),(3,⟨[],.v (.int .i64 a)⟩),(5,⟨[],.loc 0 0⟩),(9,⟨[],.loc 1 0⟩),(11,⟨[],.loc 2 0⟩),(12,⟨[],.v (.int .i64 e)⟩)],[W,dVal v,dNd d],[]⟩
theorem fits27_spec (lv:List Wd) (f:Nat→Nat→Bool) (ND:List Nd) (z:Int) (hL:LatOK f lv.length) (hn:lv.length≤32) (hok:∀ n∈ND,NdOK lv.length ND.length n) (hsz:∀ n∈ND,n.edges.length≤1099511627776) (hrn:∀ n∈ND,rngN n) (obs:Nat) (ho:obs < lv.length) :
  ∀ (k:Nat) (v:Val),v.wt≤k→v.wt≤1099511627776→rngW v→∀ (i a:Nat),a < lv.length→i < ND.length →
   EvP Tryz.prog 125 [.agg (wL lv f ND z),.v (.int .i64 obs),.v (.int .i64 i),.v (.int .i64 a),.agg (dVal v)] (.v (.bool (seeV ND f lv.length obs v i a)))
 | 0,v,h,_=>by have:=v.wt_pos;omega
 | k + 1,v,h,hb=>fun hr i a ha hi=>by
  have ih:=fits27_spec lv f ND z hL hn hok hsz hrn obs ho k
  obtain ⟨d,hg⟩:∃ d,ND[i]? = some d:=⟨_,List.getElem?_eq_getElem hi⟩
  have hnd:nodeA ND (i:Int)=some d:=by
   unfold nodeA
   rw [if_neg (by omega),Int.toNat_natCast,hg]
  have hmem:=List.mem_of_getElem? hg
  have hN:=hok d hmem
  have hdsz:=hsz d hmem
  have hdrn:=hrn d hmem
  have hft:=fits25_spec 2 1 (dWds lv) (dMat (matB lv.length f)) z hok v.wt v (Nat.le_refl _) hb i
  rw [← fit_eq hok] at hft
  have hsh:=fun h5=>outer27_spec d v h5 hN.k8 hdsz hb
  have hske:=fun h5 hs m hm=>shell_kid hN h5 (v:=v) hs (m:=m) hm
  have hskz:=fun hs c m hm=>shell_zero hN (v:=v) hs c (m:=m) hm
  have hV:seeV ND f lv.length obs v i a=if d.kind < 5 then fitV ND v i else shellF d v && seeVs ND f lv.length obs v.ks d v.n a 0:=by
   obtain ⟨q,z,s,ks⟩:=v
   rw [seeV,hnd]
   rfl
  have hV1:d.kind < 5→seeV ND f lv.length obs v i a=fitV ND v i:=fun c=>by rw [hV,if_pos c]
  have hV2:¬ d.kind < 5→seeV ND f lv.length obs v i a=(shellF d v && seeVs ND f lv.length obs v.ks d v.n a 0):=fun c=>by rw [hV,if_neg c]
  clear hV
  generalize seeV ND f lv.length obs v i a=B at hV1 hV2 ⊢
  generalize fitV ND v i=F at hft hV1
  generalize shellF d v=SH at hsh hske hskz hV2
  obtain ⟨vk,vn,vs,ks⟩:=v
  have hkl:=wtVs_len ks
  have hdl:=dVals_len ks
  rw [Val.wt] at h hb
  have hrk:=rngW_ks hr
  simp only [Val.ks,Val.n] at hV2 hrk hske hskz
  have hunder:=fun e (he:e∈d.edges)=>under27_spec lv f ND z hL hn d e a ha hN he
  have hhow:=fun e (he:e∈d.edges)=>how27_spec lv f ND z hL hn d e obs a ho ha hN he
  obtain ⟨kind,at',lo,hi',most,names,es⟩:=d
  refine ev_go (P:=Tryz.prog) tt tt_ok 5000 90 [.tmp 10] Tryz.func125 rfl Tryz.ntmps125 rfl (Nat.le_of_ble_eq_true rfl) (fun E9 w9 hn9 hm9=>?_)
  refine ⟨_,⟨by omega,dNds_get hg⟩,?_⟩
  refine br (fun c=>?_) (fun c=>?_)
  ·have c:kind < 5:=by simpa using c
   rw [hV1 c]
   refine call_p en191 (hft) ax rfl ?_
   exact (rfl:_=_)
  have c5:¬ kind < 5:=by simpa using c
  have hV2:=hV2 c5
  have h5:5≤kind:=by omega
  have hsh:=hsh h5
  refine call_p en205 (hsh) ax rfl ?_
  cases SH with
  | false=>
   rw [Bool.false_and] at hV2
   rw [hV2]
   exact (rfl:_=_)
  | true=>
   rw [Bool.true_and] at hV2
   refine loop_i (fun t st=>∃ e:Nat,st=ft27St (wL lv f ND z) (.mk vk vn vs ks) obs a ⟨kind,at',lo,hi',most,names,es⟩ e∧e≤ks.length∧B=seeVs ND f lv.length obs (ks.drop e) ⟨kind,at',lo,hi',most,names,es⟩ vn a e∧t=ks.length - e) ks.length (ft27St (wL lv f ND z) (.mk vk vn vs ks) obs a ⟨kind,at',lo,hi',most,names,es⟩ 0) (weak_b 3 rfl (by repeat' (first | exact rfl | exact we_rfl rfl | exact we_int rfl | refine ⟨_,_,rfl,?_,?_⟩)) rfl rfl rfl (by repeat' (first | exact trivial | exact we_rfl rfl | exact we_int rfl | refine ⟨⟨_,rfl,?_⟩,?_⟩))) ⟨0,rfl,by omega,hV2,by omega⟩ ?_
   rintro t st ⟨e,rfl,he,hE,rfl⟩
   refine br (fun hLt=>?_) (fun hLt=>?_)
   ·have hlt:e < ks.length:=by simpa [hdl,Val.ks] using hLt
    obtain ⟨x,hx⟩:∃ x,ks[e]? = some x:=⟨_,List.getElem?_eq_getElem hlt⟩
    obtain ⟨ed,hK⟩:=hske h5 rfl e hlt
    have hm:=List.mem_of_getElem? hx
    have hwx:=wtVs_mem hm
    have hrx:=rngWs_mem hrk hm
    obtain ⟨h1,t2,h2⟩:=to_in hN hK.mem hK.bare
    obtain ⟨_,hg2⟩:=nodeA_some h2
    have htl:=(List.getElem?_eq_some_iff.1 hg2).1
    have hto:ed.to=(ed.to.toNat:Nat):=by omega
    have hrn2:=hrn t2 (List.mem_of_getElem? hg2)
    rw [seeVs_kid hx hK.edge] at hE
    have hedge:=edge27_spec ⟨kind,at',lo,hi',most,names,es⟩ (.mk vk vn vs ks) e ed hK.edge (fun c=>(hskz rfl c e hlt).1) hdsz
    have hun:=hunder ed hK.mem
    have hho:=hhow ed hK.mem
    have hcnr:=hdrn.2.2 ed hK.mem
    have hcn1:=(hN.edge ed hK.mem).cn.2.1
    have hmay:=may27_spec ed t2 x hcn1 (rngW_n hrx) hrn2.1 hrn2.2.1 hcnr (by omega)
    have hpl:=plain27_spec x 9 ed.wide emptyB
    have hrec:=ih x (by omega) (by omega) hrx ed.to.toNat (undF f lv.length ⟨kind,at',lo,hi',most,names,es⟩ ed a) (undF_lt hL hN hK.mem ha) htl
    rw [← hto] at hrec
    have hKS:kidS ND f lv.length obs ⟨kind,at',lo,hi',most,names,es⟩ ed a x=if howF f lv.length obs ⟨kind,at',lo,hi',most,names,es⟩ ed a=2 then seeV ND f lv.length obs x ed.to (undF f lv.length ⟨kind,at',lo,hi',most,names,es⟩ ed a) else if howF f lv.length obs ⟨kind,at',lo,hi',most,names,es⟩ ed a=1 then mayF ed t2 x else plainK x 9 ed.wide emptyB:=by
     unfold kidS
     rw [h2]
    generalize kidS ND f lv.length obs ⟨kind,at',lo,hi',most,names,es⟩ ed a x=KS at hE hKS
    generalize howF f lv.length obs ⟨kind,at',lo,hi',most,names,es⟩ ed a=H at hho hKS
    generalize seeV ND f lv.length obs x ed.to (undF f lv.length ⟨kind,at',lo,hi',most,names,es⟩ ed a)=R1 at hrec hKS
    generalize mayF ed t2 x=R2 at hmay hKS
    generalize plainK x 9 ed.wide emptyB=R3 at hpl hKS
    have hfin:KS=false→B=false:=fun h=>by rw [hE,h,Bool.false_and]
    have hgo:KS=true→∃ j',j' < ks.length - e∧∃ e',ft27St (wL lv f ND z) (.mk vk vn vs ks) obs a ⟨kind,at',lo,hi',most,names,es⟩ (e + 1)=ft27St (wL lv f ND z) (.mk vk vn vs ks) obs a ⟨kind,at',lo,hi',most,names,es⟩ e' ∧ e' ≤ ks.length∧B=seeVs ND f lv.length obs (ks.drop e') ⟨kind,at',lo,hi',most,names,es⟩ vn a e' ∧ j'=ks.length - e':=fun h=>⟨ks.length - (e + 1),by omega,e + 1,rfl,by omega,by rw [hE,h,Bool.true_and],rfl⟩
    obtain ⟨xk,xn,xs,xks⟩:=x
    clear hE
    refine call_p en127 (hedge) ax rfl ?_
    refine drawG_i (fun _=>false) mo (by decide +kernel) ?_
    refine ⟨_,⟨by omega,dVals_get hx⟩,?_⟩
    refine callD_p en206 (hpl) ax rfl ?_
    refine call_p en128 (hho) ax rfl ?_
    refine br (fun c=>?_) (fun c=>?_)
    ·have c:H=2:=by
      have:=of_decide_eq_true c
      omega
     rw [if_pos c] at hKS
     refine drawG_i (fun _=>false) mo (by decide +kernel) ?_
     refine callD_p en129 (hun) ax rfl ?_
     refine ⟨_,⟨by omega,dVals_get hx⟩,?_⟩
     refine callD_p en125 (hrec) ax rfl ?_
     cases R1 with
     | false=>
      have hB:=hfin (by rw [hKS])
      rw [hB]
      exact (rfl:_=_)
     | true=>
      obtain ⟨j',g1,g2⟩:=hgo (by rw [hKS])
      exact ⟨ft27St (wL lv f ND z) (.mk vk vn vs ks) obs a ⟨kind,at',lo,hi',most,names,es⟩ (e + 1),(weak_b 3 rfl (by repeat' (first | exact rfl | exact we_rfl rfl | exact we_int (nxt hlt (by omega)) | refine ⟨_,_,rfl,?_,?_⟩)) rfl rfl rfl (by repeat' (first | exact trivial | exact we_rfl rfl | exact we_int (nxt hlt (by omega)) | refine ⟨⟨_,rfl,?_⟩,?_⟩))),j',g1,g2⟩
    ·have c2:¬ H=2:=by
      have:=of_decide_eq_false c
      omega
     rw [if_neg c2] at hKS
     refine br (fun c=>?_) (fun c=>?_)
     ·have c:H=1:=by
       have:=of_decide_eq_true c
       omega
      rw [if_pos c] at hKS
      refine drawG_i (fun _=>false) mo (by decide +kernel) ?_
      refine ⟨_,⟨by omega,dNds_get hg2⟩,?_⟩
      refine ⟨_,⟨by omega,dVals_get hx⟩,?_⟩
      refine callD_p en207 (hmay) ax rfl ?_
      cases R2 with
      | false=>
       have hB:=hfin (by rw [hKS])
       rw [hB]
       exact (rfl:_=_)
      | true=>
       obtain ⟨j',g1,g2⟩:=hgo (by rw [hKS])
       exact ⟨ft27St (wL lv f ND z) (.mk vk vn vs ks) obs a ⟨kind,at',lo,hi',most,names,es⟩ (e + 1),(weak_b 3 rfl (by repeat' (first | exact rfl | exact we_rfl rfl | exact we_int (nxt hlt (by omega)) | refine ⟨_,_,rfl,?_,?_⟩)) rfl rfl rfl (by repeat' (first | exact trivial | exact we_rfl rfl | exact we_int (nxt hlt (by omega)) | refine ⟨⟨_,rfl,?_⟩,?_⟩))),j',g1,g2⟩
     ·have c1:¬ H=1:=by
       have:=of_decide_eq_false c
       omega
      rw [if_neg c1] at hKS
      cases R3 with
      | false=>
       have hB:=hfin (by rw [hKS])
       rw [hB]
       exact (rfl:_=_)
      | true=>
       obtain ⟨j',g1,g2⟩:=hgo (by rw [hKS])
       exact ⟨ft27St (wL lv f ND z) (.mk vk vn vs ks) obs a ⟨kind,at',lo,hi',most,names,es⟩ (e + 1),(weak_b 3 rfl (by repeat' (first | exact rfl | exact we_rfl rfl | exact we_int (nxt hlt (by omega)) | refine ⟨_,_,rfl,?_,?_⟩)) rfl rfl rfl (by repeat' (first | exact trivial | exact we_rfl rfl | exact we_int (nxt hlt (by omega)) | refine ⟨⟨_,rfl,?_⟩,?_⟩))),j',g1,g2⟩
   ·have hge:e=ks.length:=by have:=hLt;simp [hdl,Val.ks] at this;omega
    subst hge
    rw [List.drop_length,seeVs] at hE
    rw [hE]
    exact (rfl:_=_)
theorem seeable27_spec (lv:List Wd) (f:Nat→Nat→Bool) (ND:List Nd) (rt:Nat) (hrl:rt < ND.length) (hL:LatOK f lv.length) (hn:lv.length≤32) (hok:∀ n∈ND,NdOK lv.length ND.length n) (hsz:∀ n∈ND,n.edges.length≤1099511627776) (hrn:∀ n∈ND,rngN n) (o:Int) (v:Val) (hv:v.wt≤1099511627776) (hrv:rngW v) :
  EvP Tryz.prog 62 [.agg (wL lv f ND (rt:Nat)),.v (.int .i64 o),.agg (dVal v)] (.v (.bool (seeF ND f lv.length rt o v))):=by
 have hb:=bottom20_spec lv.length f (by omega)
 rw [botF_some hL] at hb
 have hml:=dMatB_len lv.length f
 have hs:=fun (obs:Nat) (ho:obs < lv.length)=>fits27_spec lv f ND (rt:Nat) hL hn hok hsz hrn obs ho _ v (Nat.le_refl _) hv hrv rt (botF f lv.length) (botF_lt hL) hrl
 have hS:seeF ND f lv.length rt o v=(decide (0≤o∧o < lv.length) && seeV ND f lv.length o.toNat v rt (botF f lv.length)):=rfl
 generalize seeF ND f lv.length rt o v=SF at hS ⊢
 by_cases ho:0≤o∧o < lv.length
 ·obtain ⟨ob,rfl⟩:∃ n:Nat,o=n:=⟨_,(Int.toNat_of_nonneg ho.1).symm⟩
  have hs:=hs ob (by omega)
  rw [show decide (0≤(ob:Int)∧(ob:Int) < (lv.length:Int))=true from decide_eq_true ho,Int.toNat_natCast,Bool.true_and] at hS
  rw [← hS] at hs
  obtain ⟨k,n,s,ks⟩:=v
  refine ev_go (P:=Tryz.prog) tt tt_ok 5000 27 [.tmp 6] Tryz.func62 rfl Tryz.ntmps62 rfl (Nat.le_of_ble_eq_true rfl) (fun E9 w9 hn9 hm9=>?_)
  refine drawG_i (fun _=>false) mo (by decide +kernel) ?_
  refine br (fun _=>?_) (fun c=>absurd c (by simp [pickB_and,hml];omega))
  refine callD_p en34 (hb) ax rfl ?_
  refine callD_p en125 (hs) ax rfl ?_
  exact (rfl:_=_)
 ·rw [show decide (0≤o∧o < (lv.length:Int))=false from decide_eq_false ho,Bool.false_and] at hS
  rw [hS]
  obtain ⟨k,n,s,ks⟩:=v
  refine ev_go (P:=Tryz.prog) tt tt_ok 5000 27 [.tmp 6] Tryz.func62 rfl Tryz.ntmps62 rfl (Nat.le_of_ble_eq_true rfl) (fun E9 w9 hn9 hm9=>?_)
  refine drawG_i (fun _=>false) mo (by decide +kernel) ?_
  refine br (fun c=>absurd c (by simp [pickB_and,hml];omega)) (fun _=>?_)
  exact (rfl:_=_)
end Go.Proofs.YtbfdbhechmhpoaaGreat
set_option maxRecDepth 100000
namespace Go.Proofs.YtbfdbhechmhpoaaGreat
open Go Go.RowKit Dv Tryz
theorem fine27_spec (S:Sch) (hS:S.wt≤1099511627776) (x:Val) (hx:x.wt≤1099511627776) :
  Ev Tryz.prog 59 [.agg (dSch S),.agg (dVal x)] [] [] (fun r _ _=>∃ b:Bool,r = .v (.bool b)∧(b=true→Fine21 S)):=by
 have ga:=great17_spec S hS
 have hf:=fine21_spec S hS
 have h1:=size25_spec x.wt x (Nat.le_refl _) hx
 generalize cntV x=c1 at h1
 generalize depV x=d1 at h1
 obtain ⟨levels,order,types,⟨rh,rp⟩⟩:=S
 obtain ⟨xk,xn,xs,xks⟩:=x
 refine ev_go (P:=Tryz.prog) tt tt_ok 5000 23 [.tmp 4] Tryz.func59 rfl Tryz.ntmps59 rfl (Nat.le_of_ble_eq_true rfl) (fun E9 w9 hn9 hm9=>?_)
 refine call_p en111 (h1) ax rfl ?_
 refine br (fun c=>?_) (fun c=>?_)
 ·refine call_e en14 rfl ga ax (fun r hr=>?_)
  obtain ⟨g,rfl⟩:=hr
  cases g with
  | true=>
   refine ⟨false,?_,fun h=>by cases h⟩
   refine (congrArg (fun b=>DV.v (.bool b)) ?_:_=_)
   simp only [pickB_and,Bool.not_true,Bool.and_false,Bool.false_and]
  | false=>
   refine call_e en88 rfl hf ax (fun r hr=>?_)
   obtain ⟨b,rfl,hb⟩:=hr
   exact ⟨b,rfl,hb⟩
 ·exact ⟨false,rfl,fun h=>by cases h⟩
def exP27:Sch:=⟨[⟨⟨#[108,111,119]⟩,0⟩,⟨⟨#[104,105,103,104]⟩,0⟩],[(⟨⟨#[108,111,119]⟩,0⟩,⟨⟨#[104,105,103,104]⟩,0⟩)],[],.mk (exH 7) (.cons ⟨⟨⟨#[120]⟩,0⟩,false,[⟨⟨#[104,105,103,104]⟩,0⟩],0,0,0,0,[]⟩ (.mk (exH 1) .nil) .nil)⟩
def exA27:Val:=.mk 7 0 emptyB [.mk 1 1 emptyB []]
theorem ex27_fine:(resF exP27).1=0:=by decide +kernel
theorem ex27_root:resRoot exP27=((resRoot exP27).toNat:Nat)∧(resRoot exP27).toNat < (resNds exP27).length:=by decide +kernel
def isV (o:Option Val) (v:Val):Bool:=match o with | some y=>sameV y v | none=>false
theorem isV_eq {o:Option Val} {v:Val} (h:isV o v=true):o=some v:=by
 cases o with
 | none=>cases h
 | some y=>rw [sameV_iff.1 (show sameV y v=true from h)]
theorem ex27_low:seenF (resNds exP27) (leqS exP27) exP27.levels.length (resRoot exP27).toNat 0 exA27=some (.mk 7 0 emptyB [.mk 9 3 emptyB []]):=isV_eq (by decide +kernel)
theorem ex27_high:seenF (resNds exP27) (leqS exP27) exP27.levels.length (resRoot exP27).toNat 1 exA27=some (.mk 7 0 emptyB [.mk 1 1 emptyB []]):=isV_eq (by decide +kernel)
theorem lives27_spec:EvP Tryz.prog 60 [] (.v (.bool true)):=by
 have hwt:exP27.wt≤1099511627776:=by decide +kernel
 have hb:=(build_spec exP27 hwt).mono (Ψ:=fun r _ _=>BuiltΦ exP27 r) fun _ _ _ h=>builtΦ_of hwt h
 refine ev_go (P:=Tryz.prog) tt tt_ok 5000 81 [.tmp 0] Tryz.func60 rfl Tryz.ntmps60 rfl (Nat.le_of_ble_eq_true rfl) (fun E9 w9 hn9 hm9=>?_)
 refine call_e en16 rfl hb ax (fun r hr=>?_)
 rcases hr with ⟨hr,_⟩ | ⟨_,PC,hP,rfl⟩
 ·exact (hr ex27_fine).elim
 obtain ⟨LC,hlat,hR⟩:=hP.latR
 have hrng:∀ n∈resNds exP27,rngN n:=fun n hn=>resNds_rng (S:=exP27) (by simp [exP27,rngS,rngT,rngP,exH,I64]) hn
 have hsz:∀ n∈resNds exP27,n.edges.length≤1099511627776:=fun n hn=>(resNds_sz hn hwt).2
 have hl:=fun o=>eErase_root hP hlat hR hrng hsz (resRoot exP27).toNat ex27_root.1 o exA27 (by decide +kernel) (by simp [exA27,rngW,rngWs,I64])
 have h0:=hl 0
 have h1:=hl 1
 rw [ex27_low] at h0
 rw [ex27_high] at h1
 have hh:=eHidden_spec _ (.mk 7 0 emptyB [.mk 9 3 emptyB []]) (Nat.le_refl _) (by decide +kernel)
 rw [show hidN (.mk 7 0 emptyB [.mk 9 3 emptyB []])=1 by decide +kernel] at hh
 refine call_p en65 (h0) ax rfl ?_
 refine call_p en65 (h1) ax rfl ?_
 refine ⟨_,⟨by decide,rfl⟩,?_⟩
 refine ⟨_,⟨by decide,rfl⟩,?_⟩
 refine ⟨_,⟨by decide,rfl⟩,?_⟩
 refine call_p en67 (hh) ax rfl ?_
 exact (rfl:_=_)
theorem fits27_law (S:Sch) (hS:S.wt≤1099511627776) (hrS:rngS S) (x:Val) (hx:x.wt≤1099511627776) (hrx:rngW x) (o:Int) :
  EvP Tryz.prog 10 [.agg (dSch S),.agg (dVal x),.v (.int .i64 o)] (.v (.bool true)):=by
 have hf:=fine27_spec S hS x hx
 have hb:=(build_spec S hS).mono (Ψ:=fun r _ _=>BuiltΦ S r) fun _ _ _ h=>builtΦ_of hS h
 have hw:=fun h=>build18_spec S hS h
 have hrf:=@resRoot_ok S
 have hnl:=erFits_nil o x
 have hRr:=fun n (hn:n∈resNds S)=>resNds_rng hrS hn
 have hesz:∀ n∈resNds S,n.edges.length≤1099511627776:=fun n hn=>(resNds_sz hn hS).2
 generalize hSS:S=SS at *
 subst hSS
 have key:Fine21 S→∀ PC,PlanR S (resNds S) PC→∃ B:Bool,∃ root:Nat,resRoot S=root∧EvP Tryz.prog 61 [.pt PC 0,.v (.int .i64 o),.agg (dVal x)] (.v (.bool B))∧EvP Tryz.prog 62 [.agg (wL S.levels (leqS S) (resNds S) (root:Nat)),.v (.int .i64 o),.agg (dVal x)] (.v (.bool B)):=fun h0 PC hP=>by
  obtain ⟨root,hrt,hrl⟩:=hrf (fineS_of h0.res)
  obtain ⟨LC,hlat,hR⟩:=hP.latR
  exact ⟨_,root,hrt,erFits_root hP hlat hR hRr hesz root hrt hrl o x hx hrx,seeable27_spec S.levels (leqS S) (resNds S) root hrl hR.ok hR.n32 hP.ok hesz hRr o x hx hrx⟩
 obtain ⟨levels,order,types,⟨rh,rp⟩⟩:=S
 obtain ⟨xk,xn,xs,xks⟩:=x
 refine ev_go (P:=Tryz.prog) tt tt_ok 5000 38 [.tmp 6] Tryz.func10 rfl Tryz.ntmps10 rfl (Nat.le_of_ble_eq_true rfl) (fun E9 w9 hn9 hm9=>?_)
 refine call_e en59 rfl hf ax (fun r hr=>?_)
 obtain ⟨b,rfl,h0⟩:=hr
 cases b with
 | false=>
  refine call_p en60 (lives27_spec) ax rfl ?_
  exact (rfl:_=_)
 | true=>
  have hF:=h0 rfl
  have h0:=hF.res
  have hw:=hw h0
  refine call_e en16 rfl hb ax (fun r hr=>?_)
  rcases hr with ⟨hr,_⟩ | ⟨_,PC,hP,rfl⟩
  ·exact (hr h0).elim
  obtain ⟨B,root,hrt,hA1,hA2⟩:=key hF PC hP
  rw [hrt] at hw
  refine drawG_i (fun _=>false) mo (by decide +kernel) ?_
  refine callD_p en61 (hA1) ax rfl ?_
  refine callD_p en32 (hw) ax rfl ?_
  refine callD_p en62 (hA2) ax rfl ?_
  refine br (fun _=>?_) (fun c=>absurd c (by simp))
  refine callD_p en61 (hnl) ax rfl ?_
  refine callD_p en60 (lives27_spec) ax rfl ?_
  cases B<;>exact (rfl:_=_)
end Go.Proofs.YtbfdbhechmhpoaaGreat
