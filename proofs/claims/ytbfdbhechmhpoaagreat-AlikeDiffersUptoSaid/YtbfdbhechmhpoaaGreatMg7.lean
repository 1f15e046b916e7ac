/- Part 7 of the proof: What is seen of a value: the document's Edge, Coarse, Erase, Seen; The document's Kid, Get, Set of a value that fits; The document's Same of values, Set; The library's copyCheck of strings.Builder, laid at this program; The library's Builder at this program: what WriteString and String do to memory, exactly; Rules for the evaluator: the library's Builder, written and read; Rules for the evaluator: String of a Builder that holds nothing; The text of a path, of a row: plain, the program's, the document's; The document's rows of an audit; All rows of an audit, by the document; the law's bounds; Alike, differ: the document's; Alike: the program's sees, edge, step, coarsely, differ; Alike: the program's differ; Alike: the program's both, Differ, Alike; The laws of Alike and Differ. No condition. -/
import Derived.Shelf.Strings.OnBuilder
import Derived.Shelf.RegionOpenPlain
import Derived.Lib.Strings
import Derived.Lib.Slices
import Derived.Lib.Walk
import Derived.Lib.Builder
import Derived.Lib.AppendStr
import Derived.Lib.UnsafeStr
import Derived.WalkKit
import Derived.Laws.Externs
import Derived.Lib.Hide
import Derived.Test.YtbfdbhechmhpoaaGreatMg3
import Derived.Test.YtbfdbhechmhpoaaGreatMg5
import Derived.Test.YtbfdbhechmhpoaaGreatMg6
set_option linter.all false
set_option maxRecDepth 100000
namespace Go.Proofs.YtbfdbhechmhpoaaGreat
open Go Go.RowKit Dv Tryz
theorem kid_rng {d:Nd} {z:Int} {j:Nat} {e:Ed} (h:toR d (.mk 0 z emptyB []) j=e.to) (h0:0≤e.to) (c:d.kind=8):0≤z∧z < d.edges.length:=by
 unfold toR at h
 rw [if_neg (by omega),if_neg (by omega),if_neg (by omega),if_pos c] at h
 split at h
 ·rename_i g
  exact ⟨g.2.1,g.2.2⟩
 ·omega
theorem edge27_spec (d:Nd) (v:Val) (j:Nat) (e:Ed) (h:edgeN d v.n j=some e) (hz:d.kind=8→0≤v.n∧v.n < d.edges.length) (hes:d.edges.length≤1099511627776) :
  EvP Tryz.prog 127 [.agg (dNd d),.agg (dVal v),.v (.int .i64 j)] (.agg (dEd e)):=by
 obtain ⟨kind,at',lo,hi,most,names,es⟩:=d
 obtain ⟨k,n,s,ks⟩:=v
 simp only [Val.n] at h hz hes
 have hel:=dEds_len es
 unfold edgeN at h
 simp only at h
 refine ev_go (P:=Tryz.prog) tt tt_ok 5000 28 [.cell 6 146] Tryz.func127 rfl Tryz.ntmps127 rfl (Nat.le_of_ble_eq_true rfl) (fun E9 w9 hn9 hm9=>?_)
 refine br (fun c=>?_) (fun c=>?_)
 ·have c:kind=7:=by simpa using c
  rw [if_pos c] at h
  have hj:=(List.getElem?_eq_some_iff.1 h).1
  refine ⟨_,⟨by omega,dEds_get h⟩,?_⟩
  exact ⟨_,ax,rfl⟩
 have c7:¬ kind=7:=by simpa using c
 rw [if_neg c7] at h
 refine br (fun c=>?_) (fun c=>?_)
 ·have c:kind=8:=by simpa using c
  rw [if_pos c] at h
  have hz:=hz c
  refine ⟨_,⟨by omega,dEds_get h⟩,?_⟩
  exact ⟨_,ax,rfl⟩
 have c8:¬ kind=8:=by simpa using c
 rw [if_neg c8] at h
 refine ⟨_,⟨by omega,dEds_get h⟩,?_⟩
 exact ⟨_,ax,rfl⟩
theorem coarse27_spec (e:Ed) (v:Val) (hn : -9223372036854775808≤v.n∧v.n≤9223372036854775807) (hs:v.wt≤1099511627776) (hc : -9223372036854775808≤e.cn∧e.cn≤9223372036854775807) :
  EvP Tryz.prog 130 [.agg (dEd e),.agg (dVal v)] (.agg (dVal (coarseV e v))):=by
 have hw:v.s.size≤1099511627776∧v.ks.length≤1099511627776:=by
  obtain ⟨k,n,s,ks⟩:=v
  have:=wtVs_len ks
  rw [Val.wt] at hs
  show s.size≤_∧ks.length≤_
  omega
 have hf:=floor07_spec v.n e.cn hn hc
 have hh:=head27_spec e.cn.toNat v.s hw.1 e.cn hc.2 rfl
 have hA:e.ck=1→v.k=2→(floorV v.n e.cn).2=true→coarseV e v = .mk 10 (floorV v.n e.cn).1 emptyB []:=fun h1 h2 h3=>by
  unfold coarseV
  rw [if_pos ⟨h1,h2,h3⟩]
 have hB:e.ck=2→v.k=3→coarseV e v = .mk 11 0 (ba (headL e.cn.toNat (tx v.s))) []:=fun h1 h2=>by
  unfold coarseV
  rw [if_neg (by omega),if_pos ⟨h1,h2⟩]
 have hC:e.ck=3→v.k=5→coarseV e v = .mk 12 v.ks.length emptyB []:=fun h1 h2=>by
  unfold coarseV
  rw [if_neg (by omega),if_neg (by omega),if_pos ⟨h1,h2⟩]
 have hD:¬ (e.ck=1∧v.k=2∧(floorV v.n e.cn).2=true)→¬ (e.ck=2∧v.k=3)→¬ (e.ck=3∧v.k=5)→coarseV e v = .mk 9 e.wide emptyB []:=fun h1 h2 h3=>by
  unfold coarseV
  rw [if_neg h1,if_neg h2,if_neg h3]
  rfl
 generalize coarseV e v=C at hA hB hC hD ⊢
 obtain ⟨en,eb,ea,et,elb,ew,eck,ecn,ese,eca⟩:=e
 obtain ⟨k,n,s,ks⟩:=v
 simp only [Val.k,Val.n,Val.s,Val.ks] at hA hB hC hD hf hh hw
 have hdl:=dVals_len ks
 generalize floorV n ecn=fl at hf hA hD
 obtain ⟨fz,fb⟩:=fl
 unfold floorD at hf
 simp only at hA hD
 generalize headL ecn.toNat (tx s)=H at hh hB
 refine ev_go (P:=Tryz.prog) tt tt_ok 5000 55 [.cell 4 82] Tryz.func130 rfl Tryz.ntmps130 rfl (Nat.le_of_ble_eq_true rfl) (fun E9 w9 hn9 hm9=>?_)
 refine br (fun c=>?_) (fun c=>?_)
 ·have c:eck=1∧k=2:=by simpa [pickB_and] using c
  refine call_p en210 (hf) ax rfl ?_
  cases fb with
  | true=>
   rw [hA c.1 c.2 rfl]
   exact ⟨_,ax,rfl⟩
  | false=>
   rw [hD (by simp) (by omega) (by omega)]
   obtain ⟨rfl,rfl⟩:=c
   exact ⟨_,ax,rfl⟩
 have c1:¬ (eck=1∧k=2):=by simpa [pickB_and] using c
 refine br (fun c=>?_) (fun c=>?_)
 ·have c:eck=2∧k=3:=by simpa [pickB_and] using c
  refine call_p en211 (hh) ax rfl ?_
  rw [hB c.1 c.2]
  exact ⟨_,ax,rfl⟩
 have c2:¬ (eck=2∧k=3):=by simpa [pickB_and] using c
 refine br (fun c=>?_) (fun c=>?_)
 ·have c:eck=3∧k=5:=by simpa [pickB_and] using c
  rw [hC c.1 c.2,← hdl]
  exact ⟨_,ax,rfl⟩
 have c3:¬ (eck=3∧k=5):=by simpa [pickB_and] using c
 rw [hD (fun h=>c1 ⟨h.1,h.2.1⟩) c2 c3]
 exact ⟨_,ax,rfl⟩
theorem ccE_hid (w:Int):∀ l:List Val,CcE [] 0 (dVals l ++ [dVal (.mk 9 w emptyB [])]) (dVals l ++ [[.v (.int .i64 9),.v (.int .i64 w),.v (.string emptyB),.v (.slice none 0 0)]])
 | []=>by
  simp only [dVals,dVal,List.nil_append,CcE]
  refine ⟨_,_,rfl,.inr ?_,rfl⟩
  exact ax
 | v :: l=>by
  have:=ccE_hid w l
  simp only [dVals,List.cons_append,CcE] at this ⊢
  exact ⟨_,_,rfl,.inl rfl,this⟩
abbrev er27St (W:List DV) (v:Val) (obs a:Nat) (d:Nd) (o:List Val) (q e:Nat):St:=
 ⟨[(1,⟨[],.v (.int .i64 obs)⟩),(3,⟨[],.v (.int .i64 a)⟩),(5,⟨[],.loc 0 0⟩),(9,⟨[],.loc 1 0⟩),(10,⟨[],.loc 2 0⟩),(11,⟨[],.loc 3 0⟩),(12,⟨[],.loc 4 0⟩),(13,⟨[],.v (.int .i64 e)⟩)],
  [W,dVal v,[.v (.int .i64 0),.v (.int .i64 0),.v (.string emptyB),.v (.slice none 0 0)],dNd d,[.v (.int .i64 v.k),.v (.int .i64 v.n),.v (.string v.s),.sl 4 (dVals o) (some 0)]],[⟨q,82,4,none⟩]⟩
theorem erase27_spec (lv:List Wd) (f:Nat→Nat→Bool) (ND:List Nd) (z:Int) (hL:LatOK f lv.length) (hn:lv.length≤32) (hok:∀ n∈ND,NdOK lv.length ND.length n) (hsz:∀ n∈ND,n.edges.length≤1099511627776) (hrn:∀ n∈ND,rngN n) (obs:Nat) (ho:obs < lv.length) :
  ∀ (k:Nat) (v:Val),v.wt≤k→v.wt≤1099511627776→rngW v→∀ (i:Int) (a:Nat),a < lv.length→fitV ND v i=true →
   EvP Tryz.prog 255 [.agg (wL lv f ND z),.v (.int .i64 obs),.v (.int .i64 i),.v (.int .i64 a),.agg (dVal v)] (.agg (dVal (eraseV ND f lv.length obs v i a)))
 | 0,v,h,_=>by have:=v.wt_pos;omega
 | k + 1,v,h,hb=>fun hr i a ha hfit=>by
  have ih:=erase27_spec lv f ND z hL hn hok hsz hrn obs ho k
  obtain ⟨d,hF⟩:=fit_facts hok hfit
  obtain ⟨h0,hg⟩:=nodeA_some hF.node
  obtain ⟨j,rfl⟩:∃ j:Nat,i=j:=⟨i.toNat,by omega⟩
  have hg:ND[j]? = some d:=by simpa using hg
  have hmem:=List.mem_of_getElem? hg
  have hN:=hok d hmem
  have hkid:=fun {m:Nat} {x:Val}=>kids_ok (m:=m) (x:=x) hok hfit hF
  have hdsz:=hsz d hmem
  have hdrn:=hrn d hmem
  have hjl:=(List.getElem?_eq_some_iff.1 hg).1
  have hE:eraseV ND f lv.length obs v j a = .mk v.k v.n v.s (eraseVs ND f lv.length obs v.ks d v.n a 0):=by
   obtain ⟨q,z,s,ks⟩:=v
   rw [eraseV,hF.node]
   rfl
  rw [hE]
  have hOl:=eraseVs_len (ND:=ND) (f:=f) (L:=lv.length) (obs:=obs) v.ks d v.n a 0
  have hOa:=fun {m:Nat} {x:Val}=>eraseVs_at (ND:=ND) (f:=f) (L:=lv.length) (obs:=obs) (ks:=v.ks) (d:=d) (z:=v.n) (a:=a) (j:=0) (m:=m) (x:=x)
  generalize eraseVs ND f lv.length obs v.ks d v.n a 0=O at hOl hOa ⊢
  obtain ⟨vk,vn,vs,ks⟩:=v
  have hkl:=wtVs_len ks
  have hdl:=dVals_len ks
  rw [Val.wt] at h hb
  have hrk:=rngW_ks hr
  simp only [Val.ks,Val.n,Val.k,Val.s] at hkid hOl hOa hrk ⊢
  have hunder:=fun e (he:e∈d.edges)=>under27_spec lv f ND z hL hn d e a ha hN he
  have hhow:=fun e (he:e∈d.edges)=>how27_spec lv f ND z hL hn d e obs a ho ha hN he
  obtain ⟨kind,at',lo,hi,most,names,es⟩:=d
  refine ev_go (P:=Tryz.prog) tt tt_ok 5000 81 [.cell 10 82] Tryz.func255 rfl Tryz.ntmps255 rfl (Nat.le_of_ble_eq_true rfl) (fun E9 w9 hn9 hm9=>?_)
  refine ⟨_,⟨by omega,dNds_get hg⟩,?_⟩
  refine loop_i (fun t st=>∃ e q:Nat,st=er27St (wL lv f ND z) (.mk vk vn vs ks) obs a ⟨kind,at',lo,hi,most,names,es⟩ (O.take e) q e∧q=e∧e≤ks.length∧t=ks.length - e) ks.length (er27St (wL lv f ND z) (.mk vk vn vs ks) obs a ⟨kind,at',lo,hi,most,names,es⟩ [] 0 0) (weak_bt 5 ⟨0,82,4,none⟩ rfl rfl rfl (by repeat' (first | exact rfl | exact we_rfl rfl | exact we_int rfl | exact we_tok (Nat.le_refl _) rfl | exact we_tok (Nat.le_refl _) rfl | refine ⟨_,_,rfl,?_,?_⟩)) rfl rfl (by repeat' (first | exact trivial | exact we_rfl rfl | exact we_int rfl | exact we_tok (Nat.le_refl _) rfl | refine ⟨⟨_,rfl,?_⟩,?_⟩))) ⟨0,0,by rw [List.take_zero],rfl,by omega,by omega⟩ ?_
  rintro t st ⟨e,q,rfl,hq,he,rfl⟩
  refine br (fun hLt=>?_) (fun hLt=>?_)
  ·have hlt:e < ks.length:=by simpa [hdl] using hLt
   obtain ⟨x,hx⟩:∃ x,ks[e]? = some x:=⟨_,List.getElem?_eq_getElem hlt⟩
   obtain ⟨ed,hK⟩:=hkid hx
   have hm:=List.mem_of_getElem? hx
   have hwx:=wtVs_mem hm
   have hrx:=rngWs_mem hrk hm
   have hxe:=hOa hx
   rw [Nat.zero_add,hK.edge] at hxe
   simp only at hxe
   obtain ⟨h1,h2⟩:=to_in hN hK.mem hK.bare
   have hedge:=edge27_spec ⟨kind,at',lo,hi,most,names,es⟩ (.mk vk vn vs ks) e ed hK.edge (kid_rng hK.to' h1) hdsz
   have hun:=hunder ed hK.mem
   have hho:=hhow ed hK.mem
   have hcv:=coarse27_spec ed x (rngW_n hrx) (by omega) (hdrn.2.2 ed hK.mem)
   have hrec:=ih x (by omega) (by omega) hrx ed.to (undF f lv.length ⟨kind,at',lo,hi,most,names,es⟩ ed a) (undF_lt hL hN hK.mem ha) hK.fit
   have hOl':(O.take e).length=e:=by rw [List.length_take];omega
   have hdOl:(dVals (O.take e)).length=e:=by rw [dVals_len,hOl']
   have hund:(undF f lv.length ⟨kind,at',lo,hi,most,names,es⟩ ed a)=if kind < 7 then a else jnF f lv.length a ed.label.toNat:=rfl
   have hw2:howF f lv.length obs ⟨kind,at',lo,hi,most,names,es⟩ ed a≤2:=by
    rw [howF_eq]
    repeat' split
    all_goals omega
   obtain ⟨xk,xn,xs,xks⟩:=x
   generalize howF f lv.length obs ⟨kind,at',lo,hi,most,names,es⟩ ed a=H at hho hxe hw2
   refine call_p en127 (hedge) ax rfl ?_
   refine call_p en128 (hho) ax rfl ?_
   have hend:∀ y:Val,O[e]? = some y→dVals (O.take e) ++ [dVal y]=dVals (O.take (e + 1)):=fun y hy=>dVals_snoc hy
   refine br (fun c=>?_) (fun c=>?_)
   ·have c:H=2:=by
     have:=of_decide_eq_true c
     omega
    rw [if_pos c] at hxe
    generalize eraseV ND f lv.length obs (.mk xk xn xs xks) ed.to (undF f lv.length ⟨kind,at',lo,hi,most,names,es⟩ ed a)=Y at hrec hxe
    obtain ⟨yk,yn,ys,yks⟩:=Y
    have hsn:=hend _ hxe
    refine drawG_s mo (by decide +kernel) ?_
    refine callD_p en129 (hun) ax rfl ?_
    refine ⟨_,⟨by omega,dVals_get hx⟩,?_⟩
    refine callD_p en255 (hrec) ax rfl ?_
    refine ⟨by rw [hdOl,hq],⟨by simp [maxLen,hdOl];omega,by simp [hdOl];omega⟩,?_⟩
    exact ⟨er27St (wL lv f ND z) (.mk vk vn vs ks) obs a ⟨kind,at',lo,hi,most,names,es⟩ (O.take (e + 1)) (q + 1) (e + 1),(weak_b 5 rfl (by repeat' (first | exact rfl | exact we_rfl rfl | exact we_int (nxt hlt (by omega)) | exact we_sl hsn rfl | refine ⟨_,_,rfl,?_,?_⟩)) rfl rfl rfl (by repeat' (first | exact trivial | exact we_rfl rfl | exact we_int (nxt hlt (by omega)) | exact we_sl hsn rfl | refine ⟨⟨_,rfl,?_⟩,?_⟩))),ks.length - (e + 1),by omega,e + 1,q + 1,rfl,by omega,by omega,rfl⟩
   ·have c2:¬ H=2:=by
     have:=of_decide_eq_false c
     omega
    rw [if_neg c2] at hxe
    refine br (fun c=>?_) (fun c=>?_)
    ·have c:H=1:=by
      have:=of_decide_eq_true c
      omega
     rw [if_pos c] at hxe
     generalize coarseV ed (.mk xk xn xs xks)=Y at hcv hxe
     obtain ⟨yk,yn,ys,yks⟩:=Y
     have hsn:=hend _ hxe
     refine drawG_s mo (by decide +kernel) ?_
     refine ⟨_,⟨by omega,dVals_get hx⟩,?_⟩
     refine callD_p en130 (hcv) ax rfl ?_
     refine ⟨by rw [hdOl,hq],⟨by simp [maxLen,hdOl];omega,by simp [hdOl];omega⟩,?_⟩
     exact ⟨er27St (wL lv f ND z) (.mk vk vn vs ks) obs a ⟨kind,at',lo,hi,most,names,es⟩ (O.take (e + 1)) (q + 1) (e + 1),(weak_b 5 rfl (by repeat' (first | exact rfl | exact we_rfl rfl | exact we_int (nxt hlt (by omega)) | exact we_sl hsn rfl | refine ⟨_,_,rfl,?_,?_⟩)) rfl rfl rfl (by repeat' (first | exact trivial | exact we_rfl rfl | exact we_int (nxt hlt (by omega)) | exact we_sl hsn rfl | refine ⟨⟨_,rfl,?_⟩,?_⟩))),ks.length - (e + 1),by omega,e + 1,q + 1,rfl,by omega,by omega,rfl⟩
    ·have c1:¬ H=1:=by
      have:=of_decide_eq_false c
      omega
     rw [if_neg c1] at hxe
     have hsn:=hend _ hxe
     have hcc:=ccE_hid ed.wide (O.take e)
     rw [show dVals (O.take e) ++ [dVal (.mk 9 ed.wide emptyB [])]=dVals (O.take (e + 1)) from hsn] at hcc
     refine ⟨by rw [hdOl,hq],⟨by simp [maxLen,hdOl];omega,by simp [hdOl];omega⟩,?_⟩
     exact ⟨er27St (wL lv f ND z) (.mk vk vn vs ks) obs a ⟨kind,at',lo,hi,most,names,es⟩ (O.take (e + 1)) (q + 1) (e + 1),(weak_b 5 rfl (by repeat' (first | exact rfl | exact we_rfl rfl | exact we_int (nxt hlt (by omega)) | exact we_es hcc rfl | refine ⟨_,_,rfl,?_,?_⟩)) rfl rfl rfl (by repeat' (first | exact trivial | exact we_rfl rfl | exact we_int (nxt hlt (by omega)) | exact we_es hcc rfl | refine ⟨⟨_,rfl,?_⟩,?_⟩))),ks.length - (e + 1),by omega,e + 1,q + 1,rfl,by omega,by omega,rfl⟩
  ·have hge:e=ks.length:=by have:=hLt;simp [hdl] at this;omega
   subst hge
   rw [List.take_of_length_le (by omega)]
   exact ⟨_,ax,rfl⟩
end Go.Proofs.YtbfdbhechmhpoaaGreat
set_option maxRecDepth 100000
namespace Go.Proofs.YtbfdbhechmhpoaaGreat
open Go Go.RowKit Dv Tryz
section
variable (a b:Nat) (A B:List (List DV)) (rt:Int) {ND:List Nd} {L:Nat} (hok:∀ n∈ND,NdOK L ND.length n)
include hok
end
end Go.Proofs.YtbfdbhechmhpoaaGreat
set_option maxRecDepth 100000
namespace Go.Proofs.YtbfdbhechmhpoaaGreat
open Go Go.RowKit Dv Tryz
section
variable (a b:Nat) (A B:List (List DV)) (rt:Int) {ND:List Nd} {L:Nat} (hok:∀ n∈ND,NdOK L ND.length n)
include hok
end
end Go.Proofs.YtbfdbhechmhpoaaGreat
set_option maxRecDepth 100000
namespace Go.Proofs
open Go.Shelf
end Go.Proofs
set_option maxRecDepth 100000
namespace Go.Proofs.YtbfdbhechmhpoaaGreat
open Go Go.RowKit Go.Lib Dv Tryz
end Go.Proofs.YtbfdbhechmhpoaaGreat
set_option maxRecDepth 100000
namespace Go.Proofs.YtbfdbhechmhpoaaGreat
open Go Go.RowKit Dv Tryz
end Go.Proofs.YtbfdbhechmhpoaaGreat
set_option maxRecDepth 100000
namespace Go.Proofs.YtbfdbhechmhpoaaGreat
open Go Go.RowKit Dv Tryz
end Go.Proofs.YtbfdbhechmhpoaaGreat
set_option maxRecDepth 100000
namespace Go.Proofs.YtbfdbhechmhpoaaGreat
open Go Go.RowKit Dv Tryz
end Go.Proofs.YtbfdbhechmhpoaaGreat
set_option maxRecDepth 100000
set_option maxHeartbeats 4000000
namespace Go.Proofs.YtbfdbhechmhpoaaGreat
open Go Go.RowKit Dv Tryz
section
variable (lv:List Wd) (f:Nat→Nat→Bool) (ND:List Nd) (z:Int) (hL:LatOK f lv.length) (hn:lv.length≤32) (hok:∀ n∈ND,NdOK lv.length ND.length n) (hsz:∀ n∈ND,n.edges.length≤1099511627776) (obs:Nat) (ho:obs < lv.length) (dep:Nat) (hdep:dep≤64)
include hL hn hok hsz ho hdep
end
end Go.Proofs.YtbfdbhechmhpoaaGreat
set_option maxRecDepth 100000
namespace Go.Proofs.YtbfdbhechmhpoaaGreat
open Go Go.RowKit Dv Tryz
section
variable (lv:List Wd) (f:Nat→Nat→Bool) (ND:List Nd) (root:Nat) (hroot:root < ND.length) (hL:LatOK f lv.length) (hn:lv.length≤32) (hok:∀ n∈ND,NdOK lv.length ND.length n) (hsz:∀ n∈ND,n.edges.length≤1099511627776) (obs:Nat) (ho:obs < lv.length)
include hroot hL hn hok hsz ho
end
end Go.Proofs.YtbfdbhechmhpoaaGreat
set_option maxRecDepth 100000
namespace Go.Proofs.YtbfdbhechmhpoaaGreat
open Go Go.RowKit Dv Tryz
def dfD:Option (List Stp)→DV
 | some p=>.tup [.sl 3 (dStps p) none,.v (.bool true)]
 | none=>.tup [.v (.slice none 0 0),.v (.bool false)]
abbrev df28St (W:List DV) (x y:Val) (p:List Stp) (d:Nd) (e:Nat):St:=
 ⟨[(4,⟨[],.sl 3 (dStps p) none⟩),(5,⟨[],.loc 0 0⟩),(7,⟨[],.loc 1 0⟩),(8,⟨[],.loc 2 0⟩),(12,⟨[],.loc 3 0⟩),(13,⟨[],.v (.int .i64 e)⟩)],[W,dVal x,dVal y,dNd d],[]⟩
theorem differ28_spec (lv:List Wd) (f:Nat→Nat→Bool) (ND:List Nd) (z:Int) (hok:∀ n∈ND,NdOK lv.length ND.length n) (hsz:∀ n∈ND,n.edges.length≤1099511627776) :
  ∀ (k:Nat) (x:Val),x.wt≤k→∀ (y:Val) (i:Int) (p:List Stp),p.length + x.wt≤1099511627776→vwB ND x i=true →
   EvP Tryz.prog 117 [.agg (wL lv f ND z),.v (.int .i64 i),.agg (dVal x),.agg (dVal y),.sl 3 (dStps p) none] (dfD ((refD ND x y i).map (p ++ ·)))
 | 0,x,h=>by have:=x.wt_pos;omega
 | k + 1,x,h=>fun y i p hb hvw=>by
  have ih:=differ28_spec lv f ND z hok hsz k
  obtain ⟨xk,xn,xs,xks⟩:=x
  obtain ⟨yk,yn,ys,yks⟩:=y
  rw [Val.wt] at h hb
  have hxl:=wtVs_len xks
  have hdx:=dVals_len xks
  have hdy:=dVals_len yks
  have hdp:=dStps_len p
  by_cases hc:xk≠yk∨xn≠yn∨xs≠ys∨xks.length≠yks.length
  ·have hR:refD ND (.mk xk xn xs xks) (.mk yk yn ys yks) i=some []:=by rw [refD,if_pos hc]
   rw [hR]
   show EvP _ _ _ (.tup [.sl 3 (dStps (p ++ [])) none,.v (.bool true)])
   rw [List.append_nil]
   refine ev_go (P:=Tryz.prog) tt tt_ok 5000 89 [.tmp 10,.tmp 11] Tryz.func117 rfl Tryz.ntmps117 rfl (Nat.le_of_ble_eq_true rfl) (fun E9 w9 hn9 hm9=>?_)
   refine br (fun _=>?_) (fun c=>?_)
   ·exact ⟨_,ax,rfl⟩
   ·exfalso
    simp [pickB_or,hdx,hdy] at c
    rcases hc with h | h | h | h
    ·exact h c.1.1.1
    ·exact h c.1.1.2
    ·exact h c.1.2
    ·omega
  ·rw [vwB] at hvw
   cases hnd:nodeA ND i with
   | none=>rw [hnd] at hvw;cases hvw
   | some d=>
    rw [hnd] at hvw
    simp only at hvw
    have hR:refD ND (.mk xk xn xs xks) (.mk yk yn ys yks) i=refDs ND xks yks d xn 0:=by rw [refD,if_neg hc,hnd]
    rw [hR]
    simp at hc
    obtain ⟨rfl,rfl,rfl,hll⟩:=hc
    obtain ⟨h0,hg⟩:=nodeA_some hnd
    obtain ⟨j,rfl⟩:∃ j:Nat,i=j:=⟨i.toNat,by omega⟩
    have hg:ND[j]? = some d:=by simpa using hg
    have hjl:=(List.getElem?_eq_some_iff.1 hg).1
    have hmem:=List.mem_of_getElem? hg
    have hN:=hok d hmem
    have hdsz:=hsz d hmem
    refine ev_go (P:=Tryz.prog) tt tt_ok 5000 89 [.tmp 10,.tmp 11] Tryz.func117 rfl Tryz.ntmps117 rfl (Nat.le_of_ble_eq_true rfl) (fun E9 w9 hn9 hm9=>?_)
    refine br (fun c=>absurd c (by simp [pickB_or,hdx,hdy,hll])) (fun _=>?_)
    refine ⟨_,⟨by omega,dNds_get hg⟩,?_⟩
    obtain ⟨kind,at',lo,hi,most,names,es⟩:=d
    refine loop_i (fun t st=>∃ e:Nat,st=df28St (wL lv f ND z) (.mk xk xn xs xks) (.mk xk xn xs yks) p ⟨kind,at',lo,hi,most,names,es⟩ e∧e≤xks.length∧refDs ND (xks.drop e) (yks.drop e) ⟨kind,at',lo,hi,most,names,es⟩ xn e=refDs ND xks yks ⟨kind,at',lo,hi,most,names,es⟩ xn 0∧vwBs ND (xks.drop e) ⟨kind,at',lo,hi,most,names,es⟩ xn e=true∧t=xks.length - e) xks.length (df28St (wL lv f ND z) (.mk xk xn xs xks) (.mk xk xn xs yks) p ⟨kind,at',lo,hi,most,names,es⟩ 0) (weak_b 4 rfl (by repeat' (first | exact rfl | exact we_rfl rfl | exact we_int rfl | refine ⟨_,_,rfl,?_,?_⟩)) rfl rfl rfl (by repeat' (first | exact trivial | exact we_rfl rfl | exact we_int rfl | refine ⟨⟨_,rfl,?_⟩,?_⟩))) ⟨0,rfl,by omega,rfl,hvw,by omega⟩ ?_
    rintro t st ⟨e,rfl,he,hE,hV,rfl⟩
    refine br (fun hLt=>?_) (fun hLt=>?_)
    ·have hlt:e < xks.length:=by simpa [hdx] using hLt
     obtain ⟨x,hx⟩:∃ x,xks[e]? = some x:=⟨_,List.getElem?_eq_getElem hlt⟩
     obtain ⟨y,hy⟩:∃ y,yks[e]? = some y:=⟨_,List.getElem?_eq_getElem (by omega)⟩
     have hwx:=wtVs_mem (List.mem_of_getElem? hx)
     rw [List.drop_eq_getElem_cons hlt,show xks[e]=x from (List.getElem?_eq_some_iff.1 hx).2] at hE hV
     rw [List.drop_eq_getElem_cons (show e < yks.length by omega),show yks[e]=y from (List.getElem?_eq_some_iff.1 hy).2] at hE
     rw [vwBs] at hV
     rw [refDs] at hE
     cases hed:edgeN ⟨kind,at',lo,hi,most,names,es⟩ xn e with
     | none=>rw [hed] at hV;cases hV
     | some ed=>
      rw [hed] at hV hE
      simp only [Bool.and_eq_true,decide_eq_true_eq] at hV hE
      obtain ⟨⟨⟨hto,h0e⟩,hvx⟩,hvr⟩:=hV
      have hem:ed∈es:=by
       unfold edgeN at hed
       split at hed
       ·exact List.mem_of_getElem? hed
       ·split at hed
        ·exact List.mem_of_getElem? hed
        ·exact List.mem_of_getElem? hed
      have hst:=step25_spec ⟨kind,at',lo,hi,most,names,es⟩ (.mk xk xn xs xks) e (fun c=>by
       simp only at c
       subst c
       exact (List.getElem?_eq_some_iff.1 hed).1) (fun c5 c6 c7=>by
       have hk1:=hN.leaf
       have hk8:=hN.k8
       refine kid_rng hto h0e ?_
       simp only at c5 c6 c7 hk1 hk8 ⊢
       rcases Int.lt_or_le kind 5 with h5 | h5
       ·rw [hk1 h5] at hem;cases hem
       ·omega)
      rw [show stpR ⟨kind,at',lo,hi,most,names,es⟩ (.mk xk xn xs xks) e=stpZ ⟨kind,at',lo,hi,most,names,es⟩ xn e from rfl] at hst
      have hto2:=to25_spec hN (.mk xk xn xs xks) e
      rw [show toR ⟨kind,at',lo,hi,most,names,es⟩ (.mk xk xn xs xks) e=ed.to from hto] at hto2
      have hss:=dStps_snoc p (stpZ ⟨kind,at',lo,hi,most,names,es⟩ xn e)
      have hrec:=ih x (by omega) y ed.to (p ++ [stpZ ⟨kind,at',lo,hi,most,names,es⟩ xn e]) (by simp;omega) hvx
      generalize stpZ ⟨kind,at',lo,hi,most,names,es⟩ xn e=sp at hst hss hrec hE
      generalize refD ND x y ed.to=R at hrec hE
      obtain ⟨ak,an,as',aks⟩:=x
      obtain ⟨bk,bn,bs,bks⟩:=y
      obtain ⟨sk,sn,ss⟩:=sp
      refine drawG_i (fun _=>false) mo (by decide +kernel) ?_
      refine op_emptyD rfl rfl rfl rfl ?_
      refine ⟨rfl,⟨by rw [hdp];simp [maxLen];omega,by rw [hdp];simp;omega⟩,?_⟩
      refine callD_p en197 (hst) ax rfl ?_
      refine ⟨by simp,⟨by simp [maxLen,hdp];omega,by simp [hdp];omega⟩,?_⟩
      refine drawG_i (fun _=>false) mo (by decide +kernel) ?_
      refine callD_p en198 (hto2) ax rfl ?_
      refine ⟨_,⟨by omega,dVals_get hx⟩,?_⟩
      refine ⟨_,⟨by omega,dVals_get hy⟩,?_⟩
      cases R with
      | some r=>
       simp only at hE
       rw [← hE]
       refine callD_p en117 (hrec) (by repeat' (first | exact rfl | exact trivial | exact Or.inr (Or.inl ⟨_,rfl⟩) | exact Or.inr ⟨_,rfl⟩ | exact Or.inl ⟨rfl,rfl⟩ | exact Or.inl rfl | refine Or.inr ⟨_,_,rfl,Nat.zero_le _,rfl,?_⟩ | refine ⟨_,_,rfl,?_,?_⟩ | refine ⟨_,rfl,?_⟩ | exact Or.inr (Or.inl ⟨_,congrArg (fun l=>DV.sl 3 l _) hss⟩)| refine Or.inr (Or.inr (Or.inr ⟨_,_,rfl,?_⟩)) | exact Or.inl rfl | refine Or.inr ?_)) rfl ?_
       have hap:p ++ [(⟨sk,sn,ss⟩:Stp)] ++ r=p ++ (⟨sk,sn,ss⟩:Stp) :: r:=by simp
       refine ⟨.tup [.sl 3 (dStps (p ++ [(⟨sk,sn,ss⟩:Stp)] ++ r)) none,.v (.bool true)],ax,?_⟩
       rw [hap]
       rfl
      | none=>
       simp only at hE
       refine callD_p en117 (hrec) (by repeat' (first | exact rfl | exact trivial | exact Or.inr (Or.inl ⟨_,rfl⟩) | exact Or.inr ⟨_,rfl⟩ | exact Or.inl ⟨rfl,rfl⟩ | exact Or.inl rfl | refine Or.inr ⟨_,_,rfl,Nat.zero_le _,rfl,?_⟩ | refine ⟨_,_,rfl,?_,?_⟩ | refine ⟨_,rfl,?_⟩ | exact Or.inr (Or.inl ⟨_,congrArg (fun l=>DV.sl 3 l _) hss⟩)| refine Or.inr (Or.inr (Or.inr ⟨_,_,rfl,?_⟩)) | exact Or.inl rfl | refine Or.inr ?_)) rfl ?_
       exact ⟨df28St (wL lv f ND z) (.mk xk xn xs xks) (.mk xk xn xs yks) p ⟨kind,at',lo,hi,most,names,es⟩ (e + 1),(weak_bd 4 rfl (by repeat' (first | exact rfl | exact we_rfl rfl | exact we_int (nxt hlt (by omega)) | refine ⟨_,_,rfl,?_,?_⟩)) ⟨_,rfl⟩ rfl rfl (by repeat' (first | exact trivial | exact we_rfl rfl | exact we_int (nxt hlt (by omega)) | refine ⟨⟨_,rfl,?_⟩,?_⟩))),xks.length - (e + 1),by omega,e + 1,rfl,by omega,hE,hvr,rfl⟩
    ·have hge:e=xks.length:=by have:=hLt;simp [hdx] at this;omega
     subst hge
     rw [List.drop_length] at hE
     rw [← hE,show refDs ND ([]:List Val) (yks.drop xks.length) ⟨kind,at',lo,hi,most,names,es⟩ xn xks.length=none by rw [refDs];simp]
     exact ⟨_,ax,rfl⟩
def seenF (ND:List Nd) (f:Nat→Nat→Bool) (n rt:Nat) (o:Int) (v:Val):Option Val:=if 0≤o∧o < n∧fitV ND v rt=true then some (eraseV ND f n o.toNat v rt (botF f n)) else none
def seenD:Option Val→DV
 | some y=>.tup [.agg (dVal y),.v (.bool true)]
 | none=>.tup [.agg (dVal (.mk 0 0 emptyB [])),.v (.bool false)]
section
variable (lv:List Wd) (f:Nat→Nat→Bool) (ND:List Nd) (rt:Nat) (hL:LatOK f lv.length) (hn:lv.length≤32) (hok:∀ n∈ND,NdOK lv.length ND.length n) (hsz:∀ n∈ND,n.edges.length≤1099511627776) (hrn:∀ n∈ND,rngN n)
include hL hn hok hsz hrn
theorem seen27_spec (obs:Nat) (ho:obs < lv.length) (v:Val) (hv:v.wt≤1099511627776) (hr:rngW v) (hfit:fitV ND v rt=true) :
  EvP Tryz.prog 192 [.agg (wL lv f ND (rt:Nat)),.v (.int .i64 obs),.agg (dVal v)] (.agg (dVal (eraseV ND f lv.length obs v rt (botF f lv.length)))):=by
 have hb:=bottom20_spec lv.length f (by omega)
 rw [botF_some hL] at hb
 have he:=erase27_spec lv f ND (rt:Nat) hL hn hok hsz hrn obs ho v.wt v (Nat.le_refl _) hv hr rt (botF f lv.length) (botF_lt hL) hfit
 generalize eraseV ND f lv.length obs v rt (botF f lv.length)=Y at he ⊢
 obtain ⟨yk,yn,ys,yks⟩:=Y
 obtain ⟨k,n,s,ks⟩:=v
 refine ev_go (P:=Tryz.prog) tt tt_ok 5000 16 [.cell 6 82] Tryz.func192 rfl Tryz.ntmps192 rfl (Nat.le_of_ble_eq_true rfl) (fun E9 w9 hn9 hm9=>?_)
 refine drawG_s mo (by decide +kernel) ?_
 refine callD_p en34 (hb) ax rfl ?_
 refine callD_p en255 (he) ax rfl ?_
 exact ⟨_,ax,rfl⟩
theorem seen28_spec (o:Int) (v:Val) (hv:v.wt≤1099511627776) (hr:rngW v) :
  EvP Tryz.prog 113 [.agg (wL lv f ND (rt:Nat)),.v (.int .i64 o),.agg (dVal v)] (seenD (seenF ND f lv.length rt o v)):=by
 have hf:=fits25_spec 2 1 (dWds lv) (dMat (matB lv.length f)) (rt:Nat) hok v.wt v (Nat.le_refl _) hv rt
 rw [← fit_eq hok] at hf
 have hs:=fun (obs:Nat) (ho:obs < lv.length)=>seen27_spec lv f ND rt hL hn hok hsz hrn obs ho v hv hr
 have hml:=dMatB_len lv.length f
 have hS:seenF ND f lv.length rt o v=if 0≤o∧o < lv.length∧fitV ND v rt=true then some (eraseV ND f lv.length o.toNat v rt (botF f lv.length)) else none:=rfl
 generalize seenF ND f lv.length rt o v=SF at hS ⊢
 generalize fitV ND v rt=F at hf hs hS
 obtain ⟨k,n,s,ks⟩:=v
 by_cases ho:0≤o∧o < lv.length
 ·obtain ⟨ob,rfl⟩:∃ n:Nat,o=n:=⟨_,(Int.toNat_of_nonneg ho.1).symm⟩
  have hs:=hs ob (by omega)
  rw [Int.toNat_natCast] at hS
  generalize eraseV ND f lv.length ob (.mk k n s ks) rt (botF f lv.length)=Y at hs hS
  obtain ⟨yk,yn,ys,yks⟩:=Y
  refine ev_go (P:=Tryz.prog) tt tt_ok 5000 30 [.cell 6 82,.tmp 7] Tryz.func113 rfl Tryz.ntmps113 rfl (Nat.le_of_ble_eq_true rfl) (fun E9 w9 hn9 hm9=>?_)
  refine br (fun _=>?_) (fun c=>absurd c (by simp [pickB_or,hml];omega))
  refine call_p en191 (hf) ax rfl ?_
  cases F with
  | true=>
   have hs:=hs rfl
   rw [if_pos ⟨by omega,by omega,rfl⟩] at hS
   rw [hS]
   refine call_p en192 (hs) ax rfl ?_
   exact ⟨_,ax,rfl⟩
  | false=>
   rw [if_neg (by simp)] at hS
   rw [hS]
   exact ⟨_,ax,rfl⟩
 ·rw [if_neg (fun h=>ho ⟨h.1,h.2.1⟩)] at hS
  rw [hS]
  refine ev_go (P:=Tryz.prog) tt tt_ok 5000 30 [.cell 6 82,.tmp 7] Tryz.func113 rfl Tryz.ntmps113 rfl (Nat.le_of_ble_eq_true rfl) (fun E9 w9 hn9 hm9=>?_)
  refine br (fun c=>absurd c (by simp [pickB_or,hml];omega)) (fun c=>?_)
  exact ⟨_,ax,rfl⟩
def dfF (ND:List Nd) (f:Nat→Nat→Bool) (n rt:Nat) (o:Int) (a b:Val):Option (List Stp):=if 0≤o∧o < n∧fitV ND a rt=true∧fitV ND b rt=true then diffV ND f n o.toNat a b rt (botF f n) else none
def akF (ND:List Nd) (f:Nat→Nat→Bool) (n rt:Nat) (o:Int) (a b:Val):Bool:=decide (0≤o∧o < n) && fitV ND a rt && fitV ND b rt && (diffV ND f n o.toNat a b rt (botF f n)).isNone
theorem differ28_root (o:Int) (x y:Val) (hx:x.wt≤1099511627776) (hy:y.wt≤1099511627776) (hrx:rngW x) (hry:rngW y) :
  EvP Tryz.prog 53 [.agg (wL lv f ND (rt:Nat)),.v (.int .i64 o),.agg (dVal x),.agg (dVal y)] (dfD (dfF ND f lv.length rt o x y)):=by
 have h1:=seen28_spec lv f ND rt hL hn hok hsz hrn o x hx hrx
 have h2:=seen28_spec lv f ND rt hL hn hok hsz hrn o y hy hry
 have hS1:seenF ND f lv.length rt o x=if 0≤o∧o < lv.length∧fitV ND x rt=true then some (eraseV ND f lv.length o.toNat x rt (botF f lv.length)) else none:=rfl
 have hS2:seenF ND f lv.length rt o y=if 0≤o∧o < lv.length∧fitV ND y rt=true then some (eraseV ND f lv.length o.toNat y rt (botF f lv.length)) else none:=rfl
 have hD:dfF ND f lv.length rt o x y=if 0≤o∧o < lv.length∧fitV ND x rt=true∧fitV ND y rt=true then diffV ND f lv.length o.toNat x y rt (botF f lv.length) else none:=rfl
 generalize dfF ND f lv.length rt o x y=D at hD ⊢
 have hwx:=eraseV_wt (ND:=ND) (f:=f) (L:=lv.length) (obs:=o.toNat) x rt (botF f lv.length)
 by_cases c:0≤o∧o < lv.length∧fitV ND x rt=true
 ·rw [if_pos c] at hS1
  have hvw:=erase_vw (f:=f) (L:=lv.length) (obs:=o.toNat) hok x rt (botF f lv.length) c.2.2
  have hdf0:=fun y i=>differ28_spec lv f ND (rt:Nat) hok hsz _ (eraseV ND f lv.length o.toNat x rt (botF f lv.length)) (Nat.le_refl _) y i [] (by simp;omega)
  have hde:=diff_eq (f:=f) (L:=lv.length) (obs:=o.toNat) hok x y rt (botF f lv.length) c.2.2
  rw [hS1] at h1
  by_cases c2:fitV ND y rt=true
  ·rw [if_pos ⟨c.1,c.2.1,c2⟩] at hS2
   rw [if_pos ⟨c.1,c.2.1,c.2.2,c2⟩] at hD
   rw [hS2] at h2
   have hde:=hde c2
   rw [← hD] at hde
   have hdf:=hdf0 (eraseV ND f lv.length o.toNat y rt (botF f lv.length)) rt hvw
   rw [hde] at hdf
   clear hdf0
   generalize eraseV ND f lv.length o.toNat x rt (botF f lv.length)=X at h1 hdf
   generalize eraseV ND f lv.length o.toNat y rt (botF f lv.length)=Y at h2 hdf
   obtain ⟨xk,xn,xs,xks⟩:=X
   obtain ⟨yk,yn,ys,yks⟩:=Y
   obtain ⟨ak,an,as',aks⟩:=x
   obtain ⟨bk,bn,bs,bks⟩:=y
   cases D with
   | none=>
    refine ev_go (P:=Tryz.prog) tt tt_ok 5000 42 [.tmp 8,.tmp 9] Tryz.func53 rfl Tryz.ntmps53 rfl (Nat.le_of_ble_eq_true rfl) (fun E9 w9 hn9 hm9=>?_)
    refine call_p en113 (h1) ax rfl ?_
    refine call_p en113 (h2) ax rfl ?_
    refine call_p en117 (hdf) ax rfl ?_
    exact ⟨_,ax,rfl⟩
   | some p=>
    refine ev_go (P:=Tryz.prog) tt tt_ok 5000 42 [.tmp 8,.tmp 9] Tryz.func53 rfl Tryz.ntmps53 rfl (Nat.le_of_ble_eq_true rfl) (fun E9 w9 hn9 hm9=>?_)
    refine call_p en113 (h1) ax rfl ?_
    refine call_p en113 (h2) ax rfl ?_
    refine call_p en117 (hdf) ax rfl ?_
    exact ⟨_,ax,rfl⟩
  ·rw [if_neg (fun h=>c2 h.2.2)] at hS2
   rw [if_neg (fun h=>c2 h.2.2.2)] at hD
   rw [hS2] at h2
   rw [hD]
   generalize eraseV ND f lv.length o.toNat x rt (botF f lv.length)=X at h1
   obtain ⟨xk,xn,xs,xks⟩:=X
   obtain ⟨ak,an,as',aks⟩:=x
   obtain ⟨bk,bn,bs,bks⟩:=y
   refine ev_go (P:=Tryz.prog) tt tt_ok 5000 42 [.tmp 8,.tmp 9] Tryz.func53 rfl Tryz.ntmps53 rfl (Nat.le_of_ble_eq_true rfl) (fun E9 w9 hn9 hm9=>?_)
   refine call_p en113 (h1) ax rfl ?_
   refine call_p en113 (h2) ax rfl ?_
   exact ⟨_,ax,rfl⟩
 ·rw [if_neg c] at hS1
  rw [if_neg (fun h=>c ⟨h.1,h.2.1,h.2.2.1⟩)] at hD
  rw [hS1] at h1
  rw [hD]
  generalize seenF ND f lv.length rt o y=SY at h2
  obtain ⟨ak,an,as',aks⟩:=x
  obtain ⟨bk,bn,bs,bks⟩:=y
  cases SY with
  | none=>
   refine ev_go (P:=Tryz.prog) tt tt_ok 5000 42 [.tmp 8,.tmp 9] Tryz.func53 rfl Tryz.ntmps53 rfl (Nat.le_of_ble_eq_true rfl) (fun E9 w9 hn9 hm9=>?_)
   refine call_p en113 (h1) ax rfl ?_
   refine call_p en113 (h2) ax rfl ?_
   exact ⟨_,ax,rfl⟩
  | some Y=>
   obtain ⟨yk,yn,ys,yks⟩:=Y
   refine ev_go (P:=Tryz.prog) tt tt_ok 5000 42 [.tmp 8,.tmp 9] Tryz.func53 rfl Tryz.ntmps53 rfl (Nat.le_of_ble_eq_true rfl) (fun E9 w9 hn9 hm9=>?_)
   refine call_p en113 (h1) ax rfl ?_
   refine call_p en113 (h2) ax rfl ?_
   exact ⟨_,ax,rfl⟩
end
end Go.Proofs.YtbfdbhechmhpoaaGreat
set_option maxRecDepth 100000
namespace Go.Proofs.YtbfdbhechmhpoaaGreat
open Go Go.RowKit Dv Tryz
abbrev eyD (PC LC:List DV) (obs:Nat):List DV:=[.pt PC 0,.pt LC 0,.v (.int .i64 obs)]
section
variable {n:Nat} {f:Nat→Nat→Bool} {names:List ByteArray} {LC:List DV} (hR:LatR n f names LC) (PC:List DV)
include hR
theorem asees_spec (obs a:Nat) (ho:obs < n) (ha:a < n):EvP Tryz.prog 133 [.agg (eyD PC LC obs),.v (.int .i64 a)] (.v (.bool (f a obs))):=by
 have hq:=hR.leq a obs
 rw [leqI_nat ha ho] at hq
 refine ev_go (P:=Tryz.prog) tt tt_ok 5000 11 [.tmp 4] Tryz.func133 rfl Tryz.ntmps133 rfl (Nat.le_of_ble_eq_true rfl) (fun E9 w9 hn9 hm9=>?_)
 refine call_p en57 (hq) ax rfl ?_
 exact (rfl:_=_)
theorem aedge_spec {ND:List Nd} (obs a:Nat) (ha:a < n) (d:Nd) (v:Val) (j:Nat) (e:Ed) (h:edgeN d v.n j=some e) (hm:e∈d.edges) (hN:NdOK n ND.length d) (h5:5≤d.kind) (hz:d.kind=8→0≤v.n∧v.n < d.edges.length) (hes:d.edges.length≤1099511627776) :
  EvP Tryz.prog 193 [.agg (eyD PC LC obs),.agg (dNd d),.agg (dVal v),.v (.int .i64 j),.v (.int .i64 a)] (.tup [.agg (dEd e),.v (.int .i64 (undF f n d e a:Nat))]):=by
 obtain ⟨_,⟨h2,h2'⟩,_⟩:=edge_nums hN hm
 have hj:=hR.join a e.label.toNat ha h2'
 rw [← h2] at hj
 have hU:undF f n d e a=if d.kind < 7 then a else jnF f n a e.label.toNat:=rfl
 generalize undF f n d e a=U at hU ⊢
 have h8:=hN.k8
 obtain ⟨kind,at',lo,hi,most,nms,es⟩:=d
 obtain ⟨k,z,s,ks⟩:=v
 simp only [Val.n] at h hz hes hU h5 h8
 have hel:=dEds_len es
 unfold edgeN at h
 simp only at h
 have hd:∃ en eb ea et elb ew eck ecn ese eca,e=⟨en,eb,ea,et,elb,ew,eck,ecn,ese,eca⟩:=⟨_,_,_,_,_,_,_,_,_,_,rfl⟩
 refine ev_go (P:=Tryz.prog) tt tt_ok 5000 42 [.cell 10 49,.tmp 11] Tryz.func193 rfl Tryz.ntmps193 rfl (Nat.le_of_ble_eq_true rfl) (fun E9 w9 hn9 hm9=>?_)
 refine br (fun c=>?_) (fun c=>?_)
 ·have c:kind=7:=by simpa using c
  rw [if_pos c] at h
  rw [if_neg (by omega)] at hU
  subst hU
  have hjl:=(List.getElem?_eq_some_iff.1 h).1
  obtain ⟨en,eb,ea,et,elb,ew,eck,ecn,ese,eca,rfl⟩:=hd
  refine drawG_s mo (by decide +kernel) ?_
  refine ⟨_,⟨by omega,dEds_get h⟩,?_⟩
  refine ⟨_,⟨by omega,dEds_get h⟩,?_⟩
  refine callD_p en132 (hj) ax rfl ?_
  exact ⟨_,ax,rfl⟩
 have c7:¬ kind=7:=by simpa using c
 rw [if_neg c7] at h
 refine br (fun c=>?_) (fun c=>?_)
 ·have c:kind=8:=by simpa using c
  rw [if_pos c] at h
  have hz:=hz c
  rw [if_neg (by omega)] at hU
  subst hU
  obtain ⟨en,eb,ea,et,elb,ew,eck,ecn,ese,eca,rfl⟩:=hd
  refine drawG_s mo (by decide +kernel) ?_
  refine ⟨_,⟨by omega,dEds_get h⟩,?_⟩
  refine ⟨_,⟨by omega,dEds_get h⟩,?_⟩
  refine callD_p en132 (hj) ax rfl ?_
  exact ⟨_,ax,rfl⟩
 have c8:¬ kind=8:=by simpa using c
 rw [if_neg c8] at h
 rw [if_pos (by omega)] at hU
 subst hU
 obtain ⟨en,eb,ea,et,elb,ew,eck,ecn,ese,eca,rfl⟩:=hd
 refine ⟨_,⟨by omega,dEds_get h⟩,?_⟩
 exact ⟨_,ax,rfl⟩
end
theorem astepP_spec (d:Nd) (v:Val) (j:Nat) (h5:5≤d.kind) (h8:d.kind≤8) (h7:d.kind=7→j < d.edges.length) (hz:d.kind=8→0≤v.n∧v.n < d.edges.length) :
  EvP Tryz.prog 195 [.agg (dNd d),.agg (dVal v),.v (.int .i64 j)] (.agg (dStp (stpZ d v.n j))):=by
 have hS:stpZ d v.n j=if d.kind=5 then ⟨2,j,emptyB⟩ else if d.kind=6 then ⟨4,0,emptyB⟩ else if d.kind=7 then ⟨1,0,match d.edges[j]? with | some e=>e.name | none=>emptyB⟩ else ⟨5,0,match d.edges[v.n.toNat]? with | some e=>e.name | none=>emptyB⟩:=rfl
 generalize stpZ d v.n j=SZ at hS ⊢
 obtain ⟨kind,at',lo,hi,most,nms,es⟩:=d
 obtain ⟨k,z,s,ks⟩:=v
 simp only [Val.n] at h5 h8 h7 hz hS
 have hel:=dEds_len es
 refine ev_go (P:=Tryz.prog) tt tt_ok 5000 33 [.cell 6 167] Tryz.func195 rfl Tryz.ntmps195 rfl (Nat.le_of_ble_eq_true rfl) (fun E9 w9 hn9 hm9=>?_)
 refine br (fun c=>?_) (fun c=>?_)
 ·have c:kind=7:=by simpa using c
  subst c
  have h7:=h7 rfl
  obtain ⟨e,he⟩:∃ e,es[j]? = some e:=⟨_,List.getElem?_eq_getElem h7⟩
  rw [if_neg (by decide),if_neg (by decide),if_pos rfl,he] at hS
  subst hS
  refine ⟨_,⟨by omega,dEds_get he⟩,?_⟩
  exact ⟨_,ax,rfl⟩
 have c7:¬ kind=7:=by simpa using c
 refine br (fun c=>?_) (fun c=>?_)
 ·have c:kind=8:=by simpa using c
  subst c
  have hz:=hz rfl
  obtain ⟨e,he⟩:∃ e,es[z.toNat]? = some e:=⟨_,List.getElem?_eq_getElem (by omega)⟩
  rw [if_neg (by decide),if_neg (by decide),if_neg (by decide),he] at hS
  subst hS
  refine ⟨_,⟨by omega,dEds_get he⟩,?_⟩
  exact ⟨_,ax,rfl⟩
 have c8:¬ kind=8:=by simpa using c
 refine br (fun c=>?_) (fun c=>?_)
 ·have c:kind=5:=by simpa using c
  rw [if_pos c] at hS
  subst hS
  exact ⟨_,ax,rfl⟩
 have c5:¬ kind=5:=by simpa using c
 rw [if_neg c5,if_pos (by omega)] at hS
 subst hS
 exact ⟨_,ax,rfl⟩
theorem acoarse_spec (e:Ed) (x y:Val) (hx:rngW x) (hy:rngW y) (hwx:x.wt≤1099511627776) (hwy:y.wt≤1099511627776) (hc : -9223372036854775808≤e.cn∧e.cn≤9223372036854775807) :
  EvP Tryz.prog 194 [.agg (dEd e),.agg (dVal x),.agg (dVal y)] (.v (.bool (sameC e x y))):=by
 have hf:=floors_spec x.n y.n e.cn (rngW_n hx) (rngW_n hy) hc
 have hS:sameC e x y=if e.ck=1∧x.k=2 then decide (floorV x.n e.cn=floorV y.n e.cn)
  else if e.ck=2∧x.k=3 then headsL e.cn.toNat (tx x.s) (tx y.s)
  else if e.ck=3∧x.k=5 then decide (x.ks.length=y.ks.length)
  else true:=rfl
 have hsz:∀ v:Val,v.wt≤1099511627776→v.s.size≤1099511627776:=fun v hv=>by
  obtain ⟨k,n,s,ks⟩:=v
  rw [Val.wt] at hv
  show s.size≤_
  omega
 have hh:=heads_spec x.s y.s (hsz x hwx) (hsz y hwy) e.cn hc.2
 have hA:e.ck=1∧x.k=2→sameC e x y=decide (floorV x.n e.cn=floorV y.n e.cn):=fun h=>by rw [hS,if_pos h]
 have hB:e.ck=2∧x.k=3→sameC e x y=headsL e.cn.toNat (tx x.s) (tx y.s):=fun h=>by rw [hS,if_neg (by omega),if_pos h]
 have hC:e.ck=3∧x.k=5→sameC e x y=decide (x.ks.length=y.ks.length):=fun h=>by rw [hS,if_neg (by omega),if_neg (by omega),if_pos h]
 have hD:¬ (e.ck=1∧x.k=2)→¬ (e.ck=2∧x.k=3)→¬ (e.ck=3∧x.k=5)→sameC e x y=true:=fun h1 h2 h3=>by rw [hS,if_neg h1,if_neg h2,if_neg h3]
 clear hS
 generalize sameC e x y=B at hA hB hC hD ⊢
 obtain ⟨en,eb,ea,et,elb,ew,eck,ecn,ese,eca⟩:=e
 obtain ⟨xk,xn,xs,xks⟩:=x
 obtain ⟨yk,yn,ys,yks⟩:=y
 simp only [Val.k,Val.n,Val.s,Val.ks] at hA hB hC hD hf hh
 have hdx:=dVals_len xks
 have hdy:=dVals_len yks
 refine ev_go (P:=Tryz.prog) tt tt_ok 5000 55 [.tmp 6] Tryz.func194 rfl Tryz.ntmps194 rfl (Nat.le_of_ble_eq_true rfl) (fun E9 w9 hn9 hm9=>?_)
 refine br (fun c=>?_) (fun c=>?_)
 ·have c:eck=1∧xk=2:=by simpa [pickB_and] using c
  rw [hA c]
  refine call_p en256 (hf) ax rfl ?_
  exact (rfl:_=_)
 have c1:¬ (eck=1∧xk=2):=by simpa [pickB_and] using c
 refine br (fun c=>?_) (fun c=>?_)
 ·have c:eck=2∧xk=3:=by simpa [pickB_and] using c
  rw [hB c]
  refine call_p en257 (hh) ax rfl ?_
  exact (rfl:_=_)
 have c2:¬ (eck=2∧xk=3):=by simpa [pickB_and] using c
 refine br (fun c=>?_) (fun c=>?_)
 ·have c:eck=3∧xk=5:=by simpa [pickB_and] using c
  rw [hC c]
  refine (congrArg (fun b=>DV.v (.bool b)) ?_:_=_)
  simp only [hdx,hdy]
  exact decide_eq_decide.2 ⟨fun h=>by omega,fun h=>by omega⟩
 have c3:¬ (eck=3∧xk=5):=by simpa [pickB_and] using c
 rw [hD c1 c2 c3]
 exact (rfl:_=_)
end Go.Proofs.YtbfdbhechmhpoaaGreat
set_option maxRecDepth 100000
namespace Go.Proofs.YtbfdbhechmhpoaaGreat
open Go Go.RowKit Dv Tryz
def dfP (o:Option (List Stp)) (r:DV) (tks:List TkE):Prop:=match o with
 | none=>r = .tup [.v (.slice none 0 0),.v (.bool false)]∧tks=[]
 | some []=>r = .tup [.v (.slice none 0 0),.v (.bool true)]∧tks=[]
 | some (s :: p)=>r = .tup [.sl 0 (List.replicate (p.length + 1) []) (some 0),.v (.bool true)]∧tks=[⟨p.length + 1,167,3,some (dStps (s :: p).reverse).flatten⟩]
abbrev adSt (PC LC:List DV) (obs a:Nat) (x y:Val) (d:Nd) (e:Nat):St:=
 ⟨[(2,⟨[],.v (.int .i64 a)⟩),(5,⟨[],.loc 0 0⟩),(8,⟨[],.loc 1 0⟩),(9,⟨[],.loc 2 0⟩),(12,⟨[],.loc 3 0⟩),(49,⟨[],.sl 4 (dVals x.ks) none⟩),(50,⟨[],.v (.int .i64 (dVals x.ks).length)⟩),(51,⟨[],.v (.int .i64 e)⟩)],[eyD PC LC obs,dVal x,dVal y,dNd d],[]⟩
section
variable {ND:List Nd} {f:Nat→Nat→Bool} {L obs:Nat}
mutual
theorem diffV_len:∀ (x y:Val) (i:Int) (a:Nat) (p:List Stp),diffV ND f L obs x y i a=some p→64 * p.length + 64≤x.wt
 | .mk k n s ks,.mk k' n' s' ks',i,a,p,h=>by
  rw [diffV] at h
  rw [Val.wt]
  split at h
  ·cases h
   simp
   omega
  ·cases hd:nodeA ND i with
   | none=>rw [hd] at h;cases h
   | some d=>
    rw [hd] at h
    have:=diffVs_len ks ks' d n a 0 p h
    omega
theorem diffVs_len:∀ (ks ls:List Val) (d:Nd) (z:Int) (a j:Nat) (p:List Stp),diffVs ND f L obs ks ls d z a j=some p→64 * p.length≤wtVs ks
 | [],[],_,_,_,_,p,h=>by rw [diffVs] at h;cases h;all_goals simp
 | [],_ :: _,_,_,_,_,p,h=>by rw [diffVs] at h;cases h;all_goals simp
 | _ :: _,[],_,_,_,_,p,h=>by rw [diffVs] at h;cases h;all_goals simp
 | x :: r,y :: t,d,z,a,j,p,h=>by
  have hw:=x.wt_pos
  rw [diffVs] at h
  rw [wtVs]
  cases he:edgeN d z j with
  | none=>rw [he] at h;cases h
  | some e=>
   rw [he] at h
   simp only at h
   split at h
   ·rename_i q hq
    cases h
    rw [List.length_cons]
    split at hq
    ·have:=diffV_len x y e.to _ q hq
     omega
    ·split at hq
     ·split at hq
      ·cases hq
      ·cases hq
       simp
       omega
     ·cases hq
   ·have:=diffVs_len r t d z a (j + 1) p h
    omega
end
end
theorem rev_flat (s:Stp) (L:List Stp):(dStps L.reverse).flatten ++ [dStp s].flatten=(dStps (s :: L).reverse).flatten:=by
 rw [List.reverse_cons]
 simp [dStps]
theorem adiffer_spec {S:Sch} {ND:List Nd} {PC LC:List DV} (hP:PlanR S ND PC) (hR:LatR S.levels.length (leqS S) (nmTx S.levels) LC) (hrS:∀ n∈ND,rngN n) (hsz:∀ n∈ND,n.edges.length≤1099511627776) (obs:Nat) (ho:obs < S.levels.length) :
  ∀ (k:Nat) (x:Val),x.wt≤k→x.wt≤1099511627776→rngW x→∀ (y:Val),y.wt≤1099511627776→rngW y→∀ (i:Int) (a:Nat),a < S.levels.length→fitV ND x i=true→fitV ND y i=true →
   EvF Tryz.prog 114 [.agg (eyD PC LC obs),.v (.int .i64 i),.v (.int .i64 a),.agg (dVal x),.agg (dVal y)] [] [] (fun r _ tks=>dfP (diffV ND (leqS S) S.levels.length obs x y i a) r tks)
 | 0,x,h=>by have:=x.wt_pos;omega
 | k + 1,x,h=>fun hbx hrx y hby hry i a ha hfx hfy=>by
  have ih:=adiffer_spec hP hR hrS hsz obs ho k
  have hL:=hR.ok
  obtain ⟨d,hF⟩:=fit_facts hP.ok hfx
  obtain ⟨d',hF'⟩:=fit_facts hP.ok hfy
  have hdd:d'=d:=by have:=hF.node;rw [hF'.node] at this;cases this;rfl
  subst hdd
  have hkidx:=fun {m:Nat} {x:Val}=>kids_ok (m:=m) (x:=x) hP.ok hfx hF
  have hkidy:=fun {m:Nat} {x:Val}=>kids_ok (m:=m) (x:=x) hP.ok hfy hF'
  obtain ⟨h0,hg⟩:=nodeA_some hF.node
  obtain ⟨j,rfl⟩:∃ j:Nat,i=j:=⟨i.toNat,by omega⟩
  have hg:ND[j]? = some d':=by simpa using hg
  have hjl:=(List.getElem?_eq_some_iff.1 hg).1
  have hmem:=List.mem_of_getElem? hg
  have hN:=hP.ok d' hmem
  have hdsz:=hsz d' hmem
  have hdrn:=hrS d' hmem
  have hnode:=hP.node j d' hg
  have hleaf:=hF.leaf
  have hnd:=hF.node
  obtain ⟨xk,xn,xs,xks⟩:=x
  obtain ⟨yk,yn,ys,yks⟩:=y
  rw [Val.wt] at h hbx hby
  have hrkx:=rngW_ks hrx
  have hrky:=rngW_ks hry
  simp only [Val.ks,Val.n] at hkidx hkidy hleaf hrkx hrky
  have hxl:=wtVs_len xks
  have hyl:=wtVs_len yks
  have hdx:=dVals_len xks
  have hdy:=dVals_len yks
  by_cases hc:xn≠yn∨xs≠ys∨xks.length≠yks.length
  ·have hD:diffV ND (leqS S) S.levels.length obs (.mk xk xn xs xks) (.mk yk yn ys yks) j a=some []:=by rw [diffV,if_pos hc]
   rw [hD]
   refine evB_gom (s:=false) (bt:=[]) (mu:=[]) (hbt:=fun p hp=>by cases hp) (fr:=true) (P:=Tryz.prog) tt tt_ok 5000 115 [.tmp 10,.tmp 11] Tryz.func114 rfl Tryz.ntmps114 rfl (Nat.le_of_ble_eq_true rfl) (fun E9 w9 hn9 hm9=>?_)
   refine br (fun _=>?_) (fun c=>?_)
   ·exact ⟨_,[],ax,rfl,rfl,rfl⟩
   ·exfalso
    simp [pickB_or,hdx,hdy] at c
    rcases hc with h | h | h
    ·exact h c.1.1
    ·exact h c.1.2
    ·omega
  ·have hD:diffV ND (leqS S) S.levels.length obs (.mk xk xn xs xks) (.mk yk yn ys yks) j a=diffVs ND (leqS S) S.levels.length obs xks yks d' xn a 0:=by rw [diffV,if_neg hc,hnd]
   rw [hD]
   simp at hc
   obtain ⟨rfl,rfl,hll⟩:=hc
   obtain ⟨kind,at',lo,hi,most,nms,es⟩:=d'
   refine evB_gom (s:=false) (bt:=[]) (mu:=[]) (hbt:=fun p hp=>by cases hp) (fr:=true) (P:=Tryz.prog) tt tt_ok 5000 115 [.tmp 10,.tmp 11] Tryz.func114 rfl Tryz.ntmps114 rfl (Nat.le_of_ble_eq_true rfl) (fun E9 w9 hn9 hm9=>?_)
   refine br (fun c=>absurd c (by simp [pickB_or,hdx,hdy,hll])) (fun _=>?_)
   refine call_p en18 (hnode) ax rfl ?_
   refine loop_i (fun t st=>∃ e:Nat,st=adSt PC LC obs a (.mk xk xn xs xks) (.mk yk xn xs yks) ⟨kind,at',lo,hi,most,nms,es⟩ e∧e≤xks.length∧diffVs ND (leqS S) S.levels.length obs (xks.drop e) (yks.drop e) ⟨kind,at',lo,hi,most,nms,es⟩ xn a e=diffVs ND (leqS S) S.levels.length obs xks yks ⟨kind,at',lo,hi,most,nms,es⟩ xn a 0∧t=xks.length - e) xks.length (adSt PC LC obs a (.mk xk xn xs xks) (.mk yk xn xs yks) ⟨kind,at',lo,hi,most,nms,es⟩ 0) (weak_b 4 rfl (by repeat' (first | exact rfl | exact we_rfl rfl | exact we_int rfl | refine ⟨_,_,rfl,?_,?_⟩)) rfl rfl rfl (by repeat' (first | exact trivial | exact we_rfl rfl | exact we_int rfl | refine ⟨⟨_,rfl,?_⟩,?_⟩))) ⟨0,rfl,by omega,rfl,by omega⟩ ?_
   rintro t st ⟨e,rfl,he,hE,rfl⟩
   refine br (fun hLt=>?_) (fun hLt=>?_)
   ·have hlt:e < xks.length:=by simpa [hdx,Val.ks] using hLt
    obtain ⟨x,hx⟩:∃ x,xks[e]? = some x:=⟨_,List.getElem?_eq_getElem hlt⟩
    obtain ⟨y,hy⟩:∃ y,yks[e]? = some y:=⟨_,List.getElem?_eq_getElem (by omega)⟩
    have hmx:=List.mem_of_getElem? hx
    have hmy:=List.mem_of_getElem? hy
    have hwx:=wtVs_mem hmx
    have hwy:=wtVs_mem hmy
    obtain ⟨ed,hK⟩:=hkidx hx
    obtain ⟨ed2,hK2⟩:=hkidy hy
    have hee:ed2=ed:=by have:=hK.edge;rw [hK2.edge] at this;cases this;rfl
    subst hee
    have h5:5≤kind:=by
     rcases Int.lt_or_le kind 5 with h5 | h5
     ·have:=hleaf h5
      rw [this] at hlt
      simp at hlt
     ·exact h5
    obtain ⟨hto,_⟩:=to_in hN hK.mem hK.bare
    have hk8:=kid_rng hK.to' hto
    rw [List.drop_eq_getElem_cons hlt,show xks[e]=x from (List.getElem?_eq_some_iff.1 hx).2,List.drop_eq_getElem_cons (show e < yks.length by omega),show yks[e]=y from (List.getElem?_eq_some_iff.1 hy).2,diffVs,hK.edge] at hE
    simp only at hE
    have hU:=undF_lt hL hN hK.mem ha
    have hSn:=seen_lt hL hN hK.mem ha
    have hedge:=aedge_spec hR PC obs a ha ⟨kind,at',lo,hi,most,nms,es⟩ (.mk xk xn xs xks) e ed2 hK.edge hK.mem hN h5 hk8 hdsz
    have hsees:=asees_spec hR PC obs (undF (leqS S) S.levels.length ⟨kind,at',lo,hi,most,nms,es⟩ ed2 a) ho hU
    have hsees2:=asees_spec hR PC obs (jnF (leqS S) S.levels.length a ed2.seen.toNat) ho hSn
    have hcs:=acoarse_spec ed2 x y (rngWs_mem hrkx hmx) (rngWs_mem hrky hmy) (by omega) (by omega) (hdrn.2.2 ed2 hK.mem)
    have hrec:=ih x (by omega) (by omega) (rngWs_mem hrkx hmx) y (by omega) (rngWs_mem hrky hmy) ed2.to (undF (leqS S) S.levels.length ⟨kind,at',lo,hi,most,nms,es⟩ ed2 a) hU hK.fit hK2.fit
    have hstp:=astepP_spec ⟨kind,at',lo,hi,most,nms,es⟩ (.mk xk xn xs xks) e h5 hN.k8 (fun c7=>by
     have:=hK.edge
     unfold edgeN at this
     rw [if_pos c7] at this
     exact (List.getElem?_eq_some_iff.1 this).1) hk8
    obtain ⟨_,_,h3,h3'⟩:=edge_nums hN hK.mem
    have hj:=hR.join a ed2.seen.toNat ha h3'
    rw [← h3] at hj
    rw [howF_eq] at hE
    have hpl0:=fun i' a' p=>diffV_len (ND:=ND) (f:=leqS S) (L:=S.levels.length) (obs:=obs) x y i' a' p
    generalize undF (leqS S) S.levels.length ⟨kind,at',lo,hi,most,nms,es⟩ ed2 a=U at hU hedge hsees hrec hE
    generalize jnF (leqS S) S.levels.length a ed2.seen.toNat=SN at hj hsees2 hSn hE
    rw [show stpZ ⟨kind,at',lo,hi,most,nms,es⟩ (Val.mk xk xn xs xks).n e=stpZ ⟨kind,at',lo,hi,most,nms,es⟩ xn e from rfl] at hstp
    generalize stpZ ⟨kind,at',lo,hi,most,nms,es⟩ xn e=sp at hstp hE
    have hpl:=hpl0 ed2.to U
    clear hpl0
    generalize diffV ND (leqS S) S.levels.length obs x y ed2.to U=R at hrec hE hpl
    generalize sameC ed2 x y=SC at hcs hE
    generalize leqS S U obs=b1 at hsees hE
    generalize leqS S SN obs=b2 at hsees2 hE
    obtain ⟨ak,an,as',aks⟩:=x
    obtain ⟨bk,bn,bs,bks⟩:=y
    obtain ⟨en,eb,ea,et,elb,ew,eck,ecn,ese,eca⟩:=ed2
    obtain ⟨sk,sn,ss⟩:=sp
    refine ⟨_,⟨by omega,dVals_get hx⟩,?_⟩
    refine call_p en193 (hedge) ax rfl ?_
    refine call_p en133 (hsees) ax rfl ?_
    cases b1 with
    | true=>
     simp only [reduceIte] at hE
     refine drawG_i (fun _=>false) mo (by decide +kernel) ?_
     refine ⟨_,⟨by omega,dVals_get hy⟩,?_⟩
     refine callD_f en114 rfl hrec ax (fun res tks hr=>?_)
     match R,hr,hE,hpl with
     | none,hr,hE,_=>
      obtain ⟨rfl,rfl⟩:=hr
      simp only at hE
      exact ⟨adSt PC LC obs a (.mk xk xn xs xks) (.mk yk xn xs yks) ⟨kind,at',lo,hi,most,nms,es⟩ (e + 1),(weak_b 4 rfl (by repeat' (first | exact rfl | exact we_rfl rfl | exact we_int (nxt hlt (by omega)) | refine ⟨_,_,rfl,?_,?_⟩)) rfl rfl rfl (by repeat' (first | exact trivial | exact we_rfl rfl | exact we_int (nxt hlt (by omega)) | refine ⟨⟨_,rfl,?_⟩,?_⟩))),xks.length - (e + 1),by omega,e + 1,rfl,by omega,hE,rfl⟩
     | some [],hr,hE,_=>
      obtain ⟨rfl,rfl⟩:=hr
      simp only at hE
      rw [← hE]
      refine call_osw (os:=[]) 0 0 en195 rfl rfl rfl rfl ax hstp (fun r os' tk' hr h1 h2=>?_)
      subst hr
      obtain rfl:=List.eq_nil_of_length_eq_zero h1
      obtain rfl:=List.eq_nil_of_length_eq_zero h2
      refine ⟨⟨[(111,⟨[],.agg (dStp ⟨sk,sn,ss⟩)⟩),(107,⟨[],.sl 0 [] (some 0)⟩)],[],[⟨0,167,3,some []⟩]⟩,Wk.weak (weak_bt 0 ⟨0,167,3,some []⟩ rfl rfl rfl (by repeat' (first | exact rfl | exact we_rfl rfl | exact we_tok (Nat.le_refl _) rfl | exact we_tok (Nat.le_refl _) rfl | refine ⟨_,_,rfl,?_,?_⟩)) rfl rfl (by repeat' (first | exact trivial | exact we_rfl rfl | exact we_tok (Nat.le_refl _) rfl | refine ⟨⟨_,rfl,?_⟩,?_⟩))),?_⟩
      refine ⟨⟨⟨rfl,by simp⟩,by simp [maxLen],by simp⟩,?_⟩
      exact ⟨.tup [.sl 0 (List.replicate 1 []) (some 0),.v (.bool true)],[],(by repeat' (first | exact rfl | exact trivial | exact Or.inr (Or.inl ⟨_,rfl⟩) | exact Or.inr ⟨_,rfl⟩ | exact Or.inl ⟨rfl,rfl⟩ | exact Or.inl rfl | refine Or.inr ⟨_,_,rfl,Nat.zero_le _,rfl,?_⟩ | refine ⟨_,_,rfl,?_,?_⟩ | refine ⟨_,rfl,?_⟩ | exact ⟨Nat.le_of_ble_eq_true rfl,rfl⟩ | refine Or.inr (Or.inr (Or.inr ⟨_,_,rfl,?_⟩)) | exact Or.inl rfl | refine Or.inr ?_)),rfl,rfl,rfl⟩
     | some (s0 :: p0),hr,hE,hpl=>
      obtain ⟨rfl,rfl⟩:=hr
      simp only at hE
      rw [← hE]
      refine call_p en195 (hstp) ax rfl ?_
      have hpl:=hpl (s0 :: p0) rfl
      rw [List.length_cons] at hpl
      refine ⟨⟨⟨by simp,by simp⟩,by simp [maxLen];omega,by simp;omega⟩,?_⟩
      refine ⟨.tup [.sl 0 (List.replicate (p0.length + 1 + 1) []) (some 0),.v (.bool true)],[],(by repeat' (first | exact rfl | exact trivial | exact Or.inr (Or.inl ⟨_,rfl⟩) | exact Or.inr ⟨_,rfl⟩ | exact Or.inl ⟨rfl,rfl⟩ | exact Or.inl rfl | refine Or.inr ⟨_,_,rfl,Nat.zero_le _,rfl,?_⟩ | refine ⟨_,_,rfl,?_,?_⟩ | refine ⟨_,rfl,?_⟩ | exact ⟨Nat.le_of_ble_eq_true rfl,rfl⟩ | refine Or.inr (Or.inr (Or.inr ⟨_,_,rfl,?_⟩)) | exact Or.inl rfl | refine Or.inr ?_)),rfl,rfl,?_⟩
      exact congrArg (fun l=>[(⟨p0.length + 1 + 1,167,3,some l⟩:TkE)]) (rev_flat ⟨sk,sn,ss⟩ (s0 :: p0))
    | false=>
     by_cases hck:eck=0
     ·subst hck
      simp at hE
      refine drawG_i (fun _=>false) mo (by decide +kernel) ?_
      exact ⟨adSt PC LC obs a (.mk xk xn xs xks) (.mk yk xn xs yks) ⟨kind,at',lo,hi,most,nms,es⟩ (e + 1),(weak_b 4 rfl (by repeat' (first | exact rfl | exact we_rfl rfl | exact we_int (nxt hlt (by omega)) | refine ⟨_,_,rfl,?_,?_⟩)) rfl rfl rfl (by repeat' (first | exact trivial | exact we_rfl rfl | exact we_int (nxt hlt (by omega)) | refine ⟨⟨_,rfl,?_⟩,?_⟩))),xks.length - (e + 1),by omega,e + 1,rfl,by omega,hE,rfl⟩
     ·cases b2 with
      | false=>
       simp at hE
       refine drawG_i (fun _=>false) mo (by decide +kernel) ?_
       refine br (fun _=>?_) (fun g=>absurd g (by simp [hck]))
       refine callD_p en132 (hj) ax rfl ?_
       refine callD_p en133 (hsees2) ax rfl ?_
       exact ⟨adSt PC LC obs a (.mk xk xn xs xks) (.mk yk xn xs yks) ⟨kind,at',lo,hi,most,nms,es⟩ (e + 1),(weak_b 4 rfl (by repeat' (first | exact rfl | exact we_rfl rfl | exact we_int (nxt hlt (by omega)) | refine ⟨_,_,rfl,?_,?_⟩)) rfl rfl rfl (by repeat' (first | exact trivial | exact we_rfl rfl | exact we_int (nxt hlt (by omega)) | refine ⟨⟨_,rfl,?_⟩,?_⟩))),xks.length - (e + 1),by omega,e + 1,rfl,by omega,hE,rfl⟩
      | true=>
       simp [hck] at hE
       refine drawG_i (fun _=>false) mo (by decide +kernel) ?_
       refine br (fun _=>?_) (fun g=>absurd g (by simp [hck]))
       refine callD_p en132 (hj) ax rfl ?_
       refine callD_p en133 (hsees2) ax rfl ?_
       refine drawG_i (fun _=>false) mo (by decide +kernel) ?_
       refine ⟨_,⟨by omega,dVals_get hy⟩,?_⟩
       refine callD_p en194 (hcs) ax rfl ?_
       cases SC with
       | true=>
        simp at hE
        exact ⟨adSt PC LC obs a (.mk xk xn xs xks) (.mk yk xn xs yks) ⟨kind,at',lo,hi,most,nms,es⟩ (e + 1),(weak_b 4 rfl (by repeat' (first | exact rfl | exact we_rfl rfl | exact we_int (nxt hlt (by omega)) | refine ⟨_,_,rfl,?_,?_⟩)) rfl rfl rfl (by repeat' (first | exact trivial | exact we_rfl rfl | exact we_int (nxt hlt (by omega)) | refine ⟨⟨_,rfl,?_⟩,?_⟩))),xks.length - (e + 1),by omega,e + 1,rfl,by omega,hE,rfl⟩
       | false=>
        simp at hE
        rw [← hE]
        refine call_osw (os:=[]) 0 0 en195 rfl rfl rfl rfl ax hstp (fun r os' tk' hr h1 h2=>?_)
        subst hr
        obtain rfl:=List.eq_nil_of_length_eq_zero h1
        obtain rfl:=List.eq_nil_of_length_eq_zero h2
        refine ⟨⟨[(111,⟨[],.agg (dStp ⟨sk,sn,ss⟩)⟩),(107,⟨[],.sl 0 [] (some 0)⟩)],[],[⟨0,167,3,some []⟩]⟩,Wk.weak (weak_bt 0 ⟨0,167,3,some []⟩ rfl rfl rfl (by repeat' (first | exact rfl | exact we_rfl rfl | exact we_tok (Nat.le_refl _) rfl | exact we_tok (Nat.le_refl _) rfl | refine ⟨_,_,rfl,?_,?_⟩)) rfl rfl (by repeat' (first | exact trivial | exact we_rfl rfl | exact we_tok (Nat.le_refl _) rfl | refine ⟨⟨_,rfl,?_⟩,?_⟩))),?_⟩
        refine ⟨⟨⟨rfl,by simp⟩,by simp [maxLen],by simp⟩,?_⟩
        exact ⟨.tup [.sl 0 (List.replicate 1 []) (some 0),.v (.bool true)],[],(by repeat' (first | exact rfl | exact trivial | exact Or.inr (Or.inl ⟨_,rfl⟩) | exact Or.inr ⟨_,rfl⟩ | exact Or.inl ⟨rfl,rfl⟩ | exact Or.inl rfl | refine Or.inr ⟨_,_,rfl,Nat.zero_le _,rfl,?_⟩ | refine ⟨_,_,rfl,?_,?_⟩ | refine ⟨_,rfl,?_⟩ | exact ⟨Nat.le_of_ble_eq_true rfl,rfl⟩ | refine Or.inr (Or.inr (Or.inr ⟨_,_,rfl,?_⟩)) | exact Or.inl rfl | refine Or.inr ?_)),rfl,rfl,rfl⟩
   ·have hge:e=xks.length:=by have:=hLt;simp [hdx,Val.ks] at this;omega
    subst hge
    rw [List.drop_length] at hE
    rw [← hE,show diffVs ND (leqS S) S.levels.length obs ([]:List Val) (yks.drop xks.length) ⟨kind,at',lo,hi,most,nms,es⟩ xn a xks.length=none by rw [diffVs];simp]
    exact ⟨_,[],ax,rfl,rfl,rfl⟩
end Go.Proofs.YtbfdbhechmhpoaaGreat
set_option maxRecDepth 100000
namespace Go.Proofs.YtbfdbhechmhpoaaGreat
open Go Go.RowKit Dv Tryz
theorem reverse_nil:Ev Tryz.prog 116 [.v (.slice none 0 0)] [] [] (fun _ _ _=>True):=by
 refine ev_go (P:=Tryz.prog) tt tt_ok 5000 28 [] Tryz.func116 rfl Tryz.ntmps116 rfl (Nat.le_of_ble_eq_true rfl) (fun E9 w9 hn9 hm9=>?_)
 refine loop_i (fun t st=>st=⟨[(0,⟨[],.v (.slice none 0 0)⟩),(2,⟨[],.v (.int .i64 0)⟩),(3,⟨[],.v (.int .i64 (-1))⟩)],[],[]⟩∧t=0) 0 ⟨[(0,⟨[],.v (.slice none 0 0)⟩),(2,⟨[],.v (.int .i64 0)⟩),(3,⟨[],.v (.int .i64 (-1))⟩)],[],[]⟩ (weak_mk ⟨_,rfl⟩ wA rfl rfl rfl (by repeat' (first | exact trivial | exact we_rfl rfl | exact we_rfl rfl | refine ⟨⟨_,rfl,?_⟩,?_⟩))) ⟨rfl,rfl⟩ ?_
 rintro t st ⟨rfl,rfl⟩
 exact ⟨.tup [],ax,trivial⟩
section
variable {S:Sch} {ND:List Nd} {PC LC:List DV} (hP:PlanR S ND PC) (hlat:EvP Tryz.prog 21 [.pt PC 0] (.pt LC 0)) (hR:LatR S.levels.length (leqS S) (nmTx S.levels) LC) (hrS:∀ n∈ND,rngN n) (hsz:∀ n∈ND,n.edges.length≤1099511627776) (rt:Nat) (hrt:resRoot S=rt)
include hP hlat hR hrt
theorem both_spec (o:Int) (x y:Val) (hx:x.wt≤1099511627776) (hy:y.wt≤1099511627776) :
  EvP Tryz.prog 112 [.pt PC 0,.v (.int .i64 o),.agg (dVal x),.agg (dVal y)] (.v (.bool (decide (0≤o∧o < S.levels.length) && fitV ND x rt && fitV ND y rt))):=by
 have hlen:=hR.len
 have hroot:=hP.root
 rw [hrt] at hroot
 have h1:=tfits_spec hP _ x (Nat.le_refl _) hx rt
 have h2:=tfits_spec hP _ y (Nat.le_refl _) hy rt
 generalize fitV ND x rt=F1 at h1 ⊢
 generalize fitV ND y rt=F2 at h2 ⊢
 obtain ⟨xk,xn,xs,xks⟩:=x
 obtain ⟨yk,yn,ys,yks⟩:=y
 refine ev_go (P:=Tryz.prog) tt tt_ok 5000 32 [.tmp 8] Tryz.func112 rfl Tryz.ntmps112 rfl (Nat.le_of_ble_eq_true rfl) (fun E9 w9 hn9 hm9=>?_)
 refine drawG_i (fun _=>false) mo (by decide +kernel) ?_
 refine br (fun c=>?_) (fun c=>?_)
 ·have c:0≤o:=by simpa using c
  refine callD_p en21 (hlat) ax rfl ?_
  refine callD_p en55 (hlen) ax rfl ?_
  refine br (fun g=>?_) (fun g=>?_)
  ·have g:o < S.levels.length:=by simpa [pickB] using g
   refine callD_p en19 (hroot) ax rfl ?_
   refine callD_p en56 (h1) ax rfl ?_
   rw [show decide (0≤o∧o < (S.levels.length:Int))=true from decide_eq_true ⟨c,g⟩]
   cases F1 with
   | false=>exact (rfl:_=_)
   | true=>
    refine callD_p en19 (hroot) ax rfl ?_
    refine callD_p en56 (h2) ax rfl ?_
    exact (rfl:_=_)
  ·have g:¬ o < S.levels.length:=by simpa [pickB] using g
   rw [show decide (0≤o∧o < (S.levels.length:Int))=false from decide_eq_false (fun h=>g h.2)]
   exact (rfl:_=_)
 ·have c:¬ 0≤o:=by simpa using c
  rw [show decide (0≤o∧o < (S.levels.length:Int))=false from decide_eq_false (fun h=>c h.1)]
  exact (rfl:_=_)
include hrS hsz
theorem adiff_root (hrl:rt < ND.length) (o:Int) (x y:Val) (hx:x.wt≤1099511627776) (hy:y.wt≤1099511627776) (hrx:rngW x) (hry:rngW y) :
  EvP Tryz.prog 52 [.pt PC 0,.v (.int .i64 o),.agg (dVal x),.agg (dVal y)] (dfD (dfF ND (leqS S) S.levels.length rt o x y)):=by
 have hb:=both_spec hP hlat hR rt hrt o x y hx hy
 have hroot:=hP.root
 rw [hrt] at hroot
 have hbot:=hR.bot
 have hD:dfF ND (leqS S) S.levels.length rt o x y=if 0≤o∧o < S.levels.length∧fitV ND x rt=true∧fitV ND y rt=true then diffV ND (leqS S) S.levels.length o.toNat x y rt (botF (leqS S) S.levels.length) else none:=rfl
 generalize dfF ND (leqS S) S.levels.length rt o x y=D at hD ⊢
 by_cases hc:0≤o∧o < S.levels.length∧fitV ND x rt=true∧fitV ND y rt=true
 ·rw [if_pos hc] at hD
  rw [show decide (0≤o∧o < (S.levels.length:Int))=true from decide_eq_true ⟨hc.1,hc.2.1⟩,hc.2.2.1,hc.2.2.2] at hb
  obtain ⟨ob,rfl⟩:∃ n:Nat,o=n:=⟨_,(Int.toNat_of_nonneg hc.1).symm⟩
  rw [Int.toNat_natCast] at hD
  have hdf:=adiffer_spec hP hR hrS hsz ob (by omega) _ x (Nat.le_refl _) hx hrx y hy hry rt (botF (leqS S) S.levels.length) (botF_lt hR.ok) hc.2.2.1 hc.2.2.2
  rw [← hD] at hdf
  have hpl:=fun p h=>diffV_len (ND:=ND) (f:=leqS S) (L:=S.levels.length) (obs:=ob) x y rt (botF (leqS S) S.levels.length) p h
  rw [← hD] at hpl
  generalize botF (leqS S) S.levels.length=bt at hbot hdf
  obtain ⟨xk,xn,xs,xks⟩:=x
  obtain ⟨yk,yn,ys,yks⟩:=y
  refine ev_go (P:=Tryz.prog) tt tt_ok 5000 40 [.tmp 8,.tmp 9] Tryz.func52 rfl Tryz.ntmps52 rfl (Nat.le_of_ble_eq_true rfl) (fun E9 w9 hn9 hm9=>?_)
  refine call_p en112 (hb) ax rfl ?_
  refine call_p en21 (hlat) ax rfl ?_
  refine drawG_i (fun _=>false) mo (by decide +kernel) ?_
  refine callD_p en19 (hroot) ax rfl ?_
  refine callD_p en115 (hbot) ax rfl ?_
  refine callD_f en114 rfl hdf ax (fun res tks hr=>?_)
  match D,hr,hpl with
  | none,hr,_=>
   obtain ⟨rfl,rfl⟩:=hr
   refine call_e en116 rfl reverse_nil ax (fun q _=>?_)
   exact ⟨_,ax,rfl⟩
  | some [],hr,_=>
   obtain ⟨rfl,rfl⟩:=hr
   refine call_e en116 rfl reverse_nil ax (fun q _=>?_)
   exact ⟨.tup [.sl 3 (dStps []) none,.v (.bool true)],ax,rfl⟩
  | some (s :: p),hr,hpl=>
   obtain ⟨rfl,rfl⟩:=hr
   have hpl:=hpl (s :: p) rfl
   have hrl:(s :: p).reverse.length=p.length + 1:=by rw [List.length_reverse,List.length_cons]
   have hrv:=reverse_spec (s :: p).reverse (by simp) (by rw [hrl];rw [List.length_cons] at hpl;omega)
   rw [hrl,List.reverse_reverse] at hrv
   have hns:∀ x∈dStps (s :: p),x.length=3:=fun x hx=>by
    obtain ⟨y,_,rfl⟩:=List.mem_map.1 hx
    rfl
   have hnl:(dStps (s :: p)).length=p.length + 1:=by rw [dStps_len,List.length_cons]
   have hrep:(List.replicate (p.length + 1) ([]:List DV)).length=p.length + 1:=List.length_replicate
   refine call_osw (os:=[]) 0 1 en116 rfl rfl rfl rfl (by repeat' (first | exact rfl | exact trivial | exact Or.inr (Or.inl ⟨_,rfl⟩) | exact Or.inr ⟨_,rfl⟩ | exact Or.inl ⟨rfl,rfl⟩ | exact Or.inl rfl | refine Or.inr ⟨_,_,rfl,Nat.zero_le _,rfl,?_⟩ | refine ⟨_,_,rfl,?_,?_⟩ | refine ⟨_,rfl,?_⟩ | exact ⟨Nat.le_of_ble_eq_true rfl,rfl⟩ | refine Or.inr (Or.inr (Or.inr ⟨_,_,rfl,?_⟩)) | exact Or.inl rfl | refine Or.inr ?_)) hrv (fun r os' tk' hr h1 h2=>?_)
   subst hr
   obtain rfl:=List.eq_nil_of_length_eq_zero h1
   refine ⟨_,wk_ownT (t:=11) (k:=0) (ns:=dStps (s :: p)) rfl hns hnl rfl hrep,?_⟩
   exact ⟨.tup [.sl 3 (dStps (s :: p)) none,.v (.bool true)],ax,rfl⟩
 ·rw [if_neg hc] at hD
  subst hD
  have hf:(decide (0≤o∧o < S.levels.length) && fitV ND x rt && fitV ND y rt)=false:=by
   cases hq:(decide (0≤o∧o < S.levels.length) && fitV ND x rt && fitV ND y rt)
   ·rfl
   ·rw [Bool.and_eq_true,Bool.and_eq_true,decide_eq_true_iff] at hq
    exact absurd ⟨hq.1.1.1,hq.1.1.2,hq.1.2,hq.2⟩ hc
  rw [hf] at hb
  obtain ⟨xk,xn,xs,xks⟩:=x
  obtain ⟨yk,yn,ys,yks⟩:=y
  refine ev_go (P:=Tryz.prog) tt tt_ok 5000 40 [.tmp 8,.tmp 9] Tryz.func52 rfl Tryz.ntmps52 rfl (Nat.le_of_ble_eq_true rfl) (fun E9 w9 hn9 hm9=>?_)
  refine call_p en112 (hb) ax rfl ?_
  exact ⟨_,ax,rfl⟩
theorem aalike_root (hrl:rt < ND.length) (o:Int) (x y:Val) (hx:x.wt≤1099511627776) (hy:y.wt≤1099511627776) (hrx:rngW x) (hry:rngW y) :
  EvP Tryz.prog 50 [.pt PC 0,.v (.int .i64 o),.agg (dVal x),.agg (dVal y)] (.v (.bool (akF ND (leqS S) S.levels.length rt o x y))):=by
 have hb:=both_spec hP hlat hR rt hrt o x y hx hy
 have hd:=adiff_root hP hlat hR hrS hsz rt hrt hrl o x y hx hy hrx hry
 have hA:akF ND (leqS S) S.levels.length rt o x y=(decide (0≤o∧o < S.levels.length) && fitV ND x rt && fitV ND y rt && (diffV ND (leqS S) S.levels.length o.toNat x y rt (botF (leqS S) S.levels.length)).isNone):=rfl
 have hD:dfF ND (leqS S) S.levels.length rt o x y=if 0≤o∧o < S.levels.length∧fitV ND x rt=true∧fitV ND y rt=true then diffV ND (leqS S) S.levels.length o.toNat x y rt (botF (leqS S) S.levels.length) else none:=rfl
 have hE:akF ND (leqS S) S.levels.length rt o x y=(decide (0≤o∧o < S.levels.length) && fitV ND x rt && fitV ND y rt && !(dfF ND (leqS S) S.levels.length rt o x y).isSome):=by
  rw [hA]
  cases hq:(decide (0≤o∧o < S.levels.length) && fitV ND x rt && fitV ND y rt)
  ·rfl
  ·rw [Bool.and_eq_true,Bool.and_eq_true,decide_eq_true_iff] at hq
   rw [hD,if_pos ⟨hq.1.1.1,hq.1.1.2,hq.1.2,hq.2⟩]
   cases diffV ND (leqS S) S.levels.length o.toNat x y rt (botF (leqS S) S.levels.length)<;>rfl
 rw [hE]
 clear hE hD hA
 generalize dfF ND (leqS S) S.levels.length rt o x y=D at hd ⊢
 generalize (decide (0≤o∧o < S.levels.length) && fitV ND x rt && fitV ND y rt)=B at hb ⊢
 obtain ⟨xk,xn,xs,xks⟩:=x
 obtain ⟨yk,yn,ys,yks⟩:=y
 cases D with
 | none=>
  refine ev_go (P:=Tryz.prog) tt tt_ok 5000 28 [.tmp 8] Tryz.func50 rfl Tryz.ntmps50 rfl (Nat.le_of_ble_eq_true rfl) (fun E9 w9 hn9 hm9=>?_)
  refine call_p en52 (hd) ax rfl ?_
  refine call_p en112 (hb) ax rfl ?_
  cases B<;>exact (rfl:_=_)
 | some p=>
  refine ev_go (P:=Tryz.prog) tt tt_ok 5000 28 [.tmp 8] Tryz.func50 rfl Tryz.ntmps50 rfl (Nat.le_of_ble_eq_true rfl) (fun E9 w9 hn9 hm9=>?_)
  refine call_p en52 (hd) ax rfl ?_
  refine call_p en112 (hb) ax rfl ?_
  cases B<;>exact (rfl:_=_)
end
end Go.Proofs.YtbfdbhechmhpoaaGreat
set_option maxRecDepth 100000
namespace Go.Proofs.YtbfdbhechmhpoaaGreat
open Go Go.RowKit Dv Tryz
theorem fine28_spec (S:Sch) (hS:S.wt≤1099511627776) (x y:Val) (hx:x.wt≤1099511627776) (hy:y.wt≤1099511627776) :
  Ev Tryz.prog 48 [.agg (dSch S),.agg (dVal x ++ dVal y)] [] [] (fun r _ _=>∃ b:Bool,r = .v (.bool b)∧(b=true→Fine21 S)):=by
 have ga:=great17_spec S hS
 have hf:=fine21_spec S hS
 have h1:=size25_spec x.wt x (Nat.le_refl _) hx
 have h2:=size25_spec y.wt y (Nat.le_refl _) hy
 generalize cntV x=c1 at h1
 generalize cntV y=c2 at h2
 generalize depV x=d1 at h1
 generalize depV y=d2 at h2
 obtain ⟨levels,order,types,⟨rh,rp⟩⟩:=S
 obtain ⟨xk,xn,xs,xks⟩:=x
 obtain ⟨yk,yn,ys,yks⟩:=y
 refine ev_go (P:=Tryz.prog) tt tt_ok 5000 36 [.tmp 4] Tryz.func48 rfl Tryz.ntmps48 rfl (Nat.le_of_ble_eq_true rfl) (fun E9 w9 hn9 hm9=>?_)
 refine ⟨⟨by decide,by decide⟩,?_⟩
 refine call_p en111 (h1) ax rfl ?_
 refine ⟨⟨by decide,by decide⟩,?_⟩
 refine call_p en111 (h2) ax rfl ?_
 refine br (fun c=>?_) (fun c=>?_)
 ·refine call_e en14 rfl ga ax (fun r hr=>?_)
  obtain ⟨g,rfl⟩:=hr
  cases g with
  | true=>
   refine ⟨false,?_,fun h=>by cases h⟩
   refine (congrArg (fun b=>DV.v (.bool b)) ?_:_=_)
   simp only [pickB_and,Bool.not_true,Bool.and_false,Bool.false_and]
  | false=>
   refine call_e en88 rfl hf ax (fun r hr=>?_)
   obtain ⟨b,rfl,hb⟩:=hr
   exact ⟨b,rfl,hb⟩
 ·exact ⟨false,rfl,fun h=>by cases h⟩
def exP28:Sch:=⟨[⟨⟨#[108,111,119]⟩,0⟩,⟨⟨#[104,105,103,104]⟩,0⟩],[(⟨⟨#[108,111,119]⟩,0⟩,⟨⟨#[104,105,103,104]⟩,0⟩)],[],.mk (exH 7) (.cons ⟨⟨⟨#[120]⟩,0⟩,false,[⟨⟨#[104,105,103,104]⟩,0⟩],0,0,0,0,[]⟩ (.mk (exH 1) .nil) .nil)⟩
def exA28:Val:=.mk 7 0 emptyB [.mk 1 1 emptyB []]
def exB28:Val:=.mk 7 0 emptyB [.mk 1 0 emptyB []]
theorem ex28_fine:(resF exP28).1=0:=by decide +kernel
theorem ex28_root:resRoot exP28=((resRoot exP28).toNat:Nat)∧(resRoot exP28).toNat < (resNds exP28).length:=by decide +kernel
theorem ex28_low:akF (resNds exP28) (leqS exP28) exP28.levels.length (resRoot exP28).toNat 0 exA28 exB28=true:=by decide +kernel
theorem ex28_high:akF (resNds exP28) (leqS exP28) exP28.levels.length (resRoot exP28).toNat 1 exA28 exB28=false:=by decide +kernel
theorem lives28_spec:EvP Tryz.prog 49 [] (.v (.bool true)):=by
 have hwt:exP28.wt≤1099511627776:=by decide +kernel
 have hb:=(build_spec exP28 hwt).mono (Ψ:=fun r _ _=>BuiltΦ exP28 r) fun _ _ _ h=>builtΦ_of hwt h
 refine ev_go (P:=Tryz.prog) tt tt_ok 5000 47 [.tmp 0] Tryz.func49 rfl Tryz.ntmps49 rfl (Nat.le_of_ble_eq_true rfl) (fun E9 w9 hn9 hm9=>?_)
 refine call_e en16 rfl hb ax (fun r hr=>?_)
 rcases hr with ⟨hr,_⟩ | ⟨_,PC,hP,rfl⟩
 ·exact (hr ex28_fine).elim
 obtain ⟨LC,hlat,hR⟩:=hP.latR
 have hrng:∀ n∈resNds exP28,rngN n:=fun n hn=>resNds_rng (S:=exP28) (by simp [exP28,rngS,rngT,rngP,exH,I64]) hn
 have hsz:∀ n∈resNds exP28,n.edges.length≤1099511627776:=fun n hn=>(resNds_sz hn hwt).2
 have hA:∀ v ∈ [exA28,exB28],v.wt≤1099511627776∧rngW v:=by
  intro v hv
  simp only [List.mem_cons,List.not_mem_nil,or_false] at hv
  rcases hv with rfl | rfl<;>exact ⟨by decide +kernel,by simp [exA28,exB28,rngW,rngWs,I64]⟩
 have hl:=fun o=>aalike_root hP hlat hR hrng hsz (resRoot exP28).toNat ex28_root.1 ex28_root.2 o exA28 exB28 (hA _ (by simp)).1 (hA _ (by simp)).1 (hA _ (by simp)).2 (hA _ (by simp)).2
 have h0:=hl 0
 have h1:=hl 1
 rw [ex28_low] at h0
 rw [ex28_high] at h1
 refine call_p en50 (h0) ax rfl ?_
 refine call_p en50 (h1) ax rfl ?_
 exact (rfl:_=_)
theorem differs28_law (S:Sch) (hS:S.wt≤1099511627776) (hrS:rngS S) (x y:Val) (hx:x.wt≤1099511627776) (hrx:rngW x) (hy:y.wt≤1099511627776) (hry:rngW y) (o:Int) :
  EvP Tryz.prog 8 [.agg (dSch S),.agg (dVal x ++ dVal y),.v (.int .i64 o)] (.v (.bool true)):=by
 have hf:=fine28_spec S hS x y hx hy
 have hb:=(build_spec S hS).mono (Ψ:=fun r _ _=>BuiltΦ S r) fun _ _ _ h=>builtΦ_of hS h
 have hw:=fun h=>build18_spec S hS h
 have hrf:=@resRoot_ok S
 have hRr:=fun n (hn:n∈resNds S)=>resNds_rng hrS hn
 have hesz:∀ n∈resNds S,n.edges.length≤1099511627776:=fun n hn=>(resNds_sz hn hS).2
 generalize hSS:S=SS at *
 subst hSS
 have key:Fine21 S→∀ PC,PlanR S (resNds S) PC→∃ D:Option (List Stp),∃ root:Nat,resRoot S=root∧(∀ p,D=some p→p.length≤1099511627776)∧EvP Tryz.prog 52 [.pt PC 0,.v (.int .i64 o),.agg (dVal x),.agg (dVal y)] (dfD D)∧EvP Tryz.prog 53 [.agg (wL S.levels (leqS S) (resNds S) (root:Nat)),.v (.int .i64 o),.agg (dVal x),.agg (dVal y)] (dfD D):=fun h0 PC hP=>by
  obtain ⟨root,hrt,hrl⟩:=hrf (fineS_of h0.res)
  obtain ⟨LC,hlat,hR⟩:=hP.latR
  refine ⟨_,root,hrt,fun p hp=>?_,adiff_root hP hlat hR hRr hesz root hrt hrl o x y hx hy hrx hry,differ28_root S.levels (leqS S) (resNds S) root hR.ok hR.n32 hP.ok hesz hRr o x y hx hy hrx hry⟩
  unfold dfF at hp
  split at hp
  ·have:=diffV_len _ _ _ _ _ hp
   omega
  ·cases hp
 obtain ⟨levels,order,types,⟨rh,rp⟩⟩:=S
 obtain ⟨xk,xn,xs,xks⟩:=x
 obtain ⟨yk,yn,ys,yks⟩:=y
 refine ev_go (P:=Tryz.prog) tt tt_ok 5000 55 [.tmp 6] Tryz.func8 rfl Tryz.ntmps8 rfl (Nat.le_of_ble_eq_true rfl) (fun E9 w9 hn9 hm9=>?_)
 refine call_e en48 rfl hf ax (fun r hr=>?_)
 obtain ⟨b,rfl,h0⟩:=hr
 cases b with
 | false=>
  refine call_p en49 (lives28_spec) ax rfl ?_
  exact (rfl:_=_)
 | true=>
  have hF:=h0 rfl
  have h0:=hF.res
  have hw:=hw h0
  refine call_e en16 rfl hb ax (fun r hr=>?_)
  rcases hr with ⟨hr,_⟩ | ⟨_,PC,hP,rfl⟩
  ·exact (hr h0).elim
  obtain ⟨D,root,hrt,hpl,hA1,hA2⟩:=key hF PC hP
  rw [hrt] at hw
  refine ⟨⟨by decide,by decide⟩,?_⟩
  refine ⟨⟨by decide,by decide⟩,?_⟩
  cases D with
  | none=>
   have hsm:=same09_spec [] (by simp)
   refine call_p en52 (hA1) ax rfl ?_
   refine drawG_i (fun _=>false) mo (by decide +kernel) ?_
   refine callD_p en32 (hw) ax rfl ?_
   refine ⟨⟨by decide,by decide⟩,?_⟩
   refine ⟨⟨by decide,by decide⟩,?_⟩
   refine callD_p en53 (hA2) ax rfl ?_
   refine call_p en54 (hsm) ax rfl ?_
   refine call_p en49 (lives28_spec) ax rfl ?_
   exact (rfl:_=_)
  | some p=>
   have hsm:=same09_spec p (hpl p rfl)
   refine call_p en52 (hA1) ax rfl ?_
   refine drawG_i (fun _=>false) mo (by decide +kernel) ?_
   refine callD_p en32 (hw) ax rfl ?_
   refine ⟨⟨by decide,by decide⟩,?_⟩
   refine ⟨⟨by decide,by decide⟩,?_⟩
   refine callD_p en53 (hA2) ax rfl ?_
   refine call_p en54 (hsm) ax rfl ?_
   refine call_p en49 (lives28_spec) ax rfl ?_
   exact (rfl:_=_)
end Go.Proofs.YtbfdbhechmhpoaaGreat
