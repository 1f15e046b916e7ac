/- Part 7 of the proof: Conditions that are asked of what is seen: who sees less says no more. Plain; Conditions that are asked of what is seen: all of a value is said; who sees less says no more. Plain; What the document says of conditions: number, answer, floor, units, Holds, end; Values as they are written: how big they are; what is read of them; What the document says may be asked for; What the document says of a condition: along, Eval; What is read of steps, and of steps with a value; Conditions: how heavy they are; what is read of them; What the document says of a condition: along, Eval; How a list that came in is read; How values in a list, and arrays of three ints, that came in are read; Conditions: what the laws ask of their arguments; The law of what may be said of conditions, given the example; What is said of conditions is sound: plain; Whole numbers in texts, plain; Whole numbers in texts: the program's run, value, Take; Whole numbers in texts: the program's Take of a number that there is; The example's path is read; The library's IndexByte, laid at this program; HasPrefix; The reader of conditions, where nothing is wrong: wrong, sign, path; The reader of conditions, where nothing is wrong: lit; The example of the chapter on conditions, plain; The reader of conditions, where nothing is wrong: cond; The example's text of conditions is read; The example of the chapter on conditions; The law: what is said of conditions is sound. No condition. -/
import Derived.Shelf.Strings.Search1
import Derived.Test.YtphonmiflfhdbaaGreatMy2
import Derived.Test.YtphonmiflfhdbaaGreatMy3
import Derived.Test.YtphonmiflfhdbaaGreatMy4
import Derived.Test.YtphonmiflfhdbaaGreatMy5
import Derived.Test.YtphonmiflfhdbaaGreatMy6
set_option linter.all false
set_option maxRecDepth 100000
namespace Go.Proofs.YtphonmiflfhdbaaGreat
open Go Go.RowKit Dv Go.Proofs.Tryz
theorem Cs:∀ (u:Nat) (l:List UInt8) (k:Nat),(headL u l).length<=k->cntU k (headL u l) < u->headL u l=l
 | 0,l,k,_,h=>by omega
 | u + 1,l,k,hk,h=>by
  by_cases hl:l=[]
  ·subst hl;exact ng _
  have hD:headL (u + 1) l=l.take (j7 l) ++ headL u (l.drop (j7 l)):=rfl;obtain ⟨h1,h2⟩:=iP hl;have jv:(l.take (j7 l)).length=j7 l:=by rw [eP];omega
  have bq:headL (u + 1) l ≠ []:=by
   intro g;rw [hD] at g;have:=congrArg List.length g;rw [List.length_append,jv,List.length_nil] at this;omega
  have M7:j7 (headL (u + 1) l)=j7 l:=Gx (nh _ _) bq (by rw [hD,List.take_append_of_le_length (by omega),List.take_of_length_le (by omega)]);rw [yr bq hk,M7] at h
  have MK:(headL (u + 1) l).drop (j7 l)=headL u (l.drop (j7 l)):=by
   rw [hD,List.drop_append_of_le_length (by omega),List.drop_of_length_le (by omega),List.nil_append]
  rw [MK] at h
  have G1:(headL u (l.drop (j7 l))).length<=k:=by
   have:=congrArg List.length hD;rw [List.length_append] at this;omega
  have ih:=Cs u (l.drop (j7 l)) k G1 (by omega);rw [hD,ih,List.take_append_drop]
theorem Mi {lo hi n:Int} (h1:lo<=n) (h2:n<=hi) (c:fB):lX lo hi c=2∨lX lo hi c=lX n n c:=by
 unfold lX;generalize c.lit.k=rk;generalize c.lit.n=rn;generalize c.op=op;by_cases o1:op=1
 ·rw [ap o1,ap o1];by_cases a1:rk≠2∨(rn < lo∨hi < rn)
  ·rw [ap a1,ap (by omega)];exact .inr rfl
  ·rw [ai a1];by_cases a2:lo=hi/\lo=rn
   ·rw [ap a2,ai (by omega),ap ⟨rfl,by omega⟩];exact .inr rfl
   ·rw [ai a2];exact .inl rfl
 ·rw [ai o1,ai o1];by_cases o2:op=2
  ·rw [ap o2,ap o2];by_cases a1:rk≠2∨rn<=lo
   ·rw [ap a1,ap (by omega)];exact .inr rfl
   ·rw [ai a1];by_cases a2:hi < rn
    ·rw [ap a2,ai (by omega),ap (by omega)];exact .inr rfl
    ·rw [ai a2];exact .inl rfl
  ·rw [ai o2,ai o2];by_cases o3:op=3
   ·rw [ap o3,ap o3];by_cases a1:rk≠2∨hi<=rn
    ·rw [ap a1,ap (by omega)];exact .inr rfl
    ·rw [ai a1];by_cases a2:rn < lo
     ·rw [ap a2,ai (by omega),ap (by omega)];exact .inr rfl
     ·rw [ai a2];exact .inl rfl
   ·rw [ai o3,ai o3];exact .inr rfl
theorem pW (b:Bool):fq b≠2:=by cases b<;>decide
theorem OT (n:Int) (c:fB):lX n n c≠2:=by
 rw [OS n n (Int.le_refl _) c];have hb:YU n n c=true:=by simp [YU]
 rw [ap hb];exact pW _
theorem Ik (d:Nd) (u:Val) (c:fB):dx d u c≠2:=by
 unfold dx;split
 ·exact OT _ _
 split
 ·exact pW _
 split
 ·decide
 split
 ·exact pW _
 ·exact pW _
theorem vI {d:Nd} {u v:Val} (hk:u.k=v.k) (hn:u.n=v.n) (hs:u.s=v.s) (hl:u.ks.length=v.ks.length) (c:fB):dx d u c=dx d v c:=by
 obtain ⟨k,n,s,ks⟩:=u;obtain ⟨k',n',s',ks'⟩:=v;simp only [Val.k,Val.n,Val.s,Val.ks] at hk hn hs hl;subst hk hn hs
 have hw:wordQ d (.mk k n s ks)=wordQ d (.mk k n s ks'):=by
  have h0:ks=[]↔ks'=[]:=by
   rw [<- List.length_eq_zero_iff,<- List.length_eq_zero_iff,hl]
  show (if k=1 then (if n=1 then ba [116,114,117,101] else ba [102,97,108,115,101])
   else if k=4 then (d.af[n.toNat]?).getD au
   else if k=8 then (match d.aC[n.toNat]? with | some e=>e.name | none=>au)
   else if k=6 then (if ks=[] then ba [110,111,110,101] else ba [115,111,109,101]) else au)=(if k=1 then (if n=1 then ba [116,114,117,101] else ba [102,97,108,115,101])
   else if k=4 then (d.af[n.toNat]?).getD au
   else if k=8 then (match d.aC[n.toNat]? with | some e=>e.name | none=>au)
   else if k=6 then (if ks'=[] then ba [110,111,110,101] else ba [115,111,109,101]) else au)
  by_cases g:ks=[]
  ·rw [ap g,ap (h0.1 g)]
  ·rw [ai g,ai (fun h=>g (h0.2 h))]
 have hP:∀ l:List Val,dx d (.mk k n s l) c=(if k=2 then lX n n c else if c.op=4 then fq (decide (k=5) && (decide (c.lit.k=2) && decide (c.lit.n=l.length))) else if c.op≠1 then 0
  else if k=3 then fq (decide (c.lit.k=3) && decide (c.lit.s=s)) else fq (decide (c.lit.k=1) && decide (wordQ d (.mk k n s l)=c.lit.s))):=fun _=>rfl
 rw [hP,hP,hw,hl]
section
variable {ND:List Nd} {f:Nat->Nat->Bool} {L:Nat}
theorem sR {d:Nd} {e:Ed} {u:Val} (h:u.k < 9) (c:fB):vE d e u c=dx d u c:=by
 unfold vE;rw [ai (by omega),ai (by omega),ai (by omega),ai (by omega)]
theorem Ct (c:fB) (p:List fc) (i:Int) (e b:Ed):walkQ ND c p i e (ov b)=2:=by
 cases p with
 | nil=>rfl
 | cons s p=>rw [walkQ,ap (show (ov b).k=9 from rfl)]
theorem gm (c:fB) (i:Int) {d:Nd} (hd:cz ND i=some d) (e:Ed) (u:Val):walkQ ND c [] i e u=vE d e u c:=by
 rw [walkQ,hd];rfl
theorem kI (c:fB) (s:fc) (p:List fc) (i:Int) (e:Ed) {u:Val} (h9:u.k≠9) (X9:¬ (u.k=12/\s.k=2/\s.n < u.n)) (hk:u.ks=[]):walkQ ND c (s :: p) i e u=0:=by
 rw [walkQ,ai h9,ai X9]
 cases cz ND i with
 | none=>rfl
 | some d=>
  simp only;rw [hk];rfl
theorem Mj {v:Val} {i:Int} {d:Nd} (h:fitV ND v i=true) (hd:cz ND i=some d) (h2:d.ag=2):d.lo<=v.n/\v.n<=d.hi:=by
 obtain ⟨k,n,s,ks⟩:=v;rw [fitV,hd] at h;simp only at h;rw [ap (by omega)] at h;unfold pJ at h;split at h
 ·cases h
 ·rw [ai (by omega)] at h;simp only [aS,decide_eq_true_eq] at h;exact ⟨h.1.2,h.2⟩
theorem Cu (bL:∀ n∈ND,dt L ND.length n) {ob:Nat} {c:fB} (hn:c.lit.k=1->c.lit.s≠au) {e:Ed} (he:Su L ND.length e) (p:List fc) (hp:∀ s∈p,du s=true) {x:Val} {i:Int} (hx:fitV ND x i=true) (a:Nat) :
  walkQ ND c p i e (bE e x)=2∨walkQ ND c p i e (bE e x)=walkQ ND c p i e (eraseV ND f L ob x i a):=by
 obtain ⟨d,hF⟩:=ef bL hx;have hd:=hF.aj;obtain ⟨t1,t2,t3⟩:=@lF ND f L ob x i a;have t4:=@lH ND f L ob x i a d hd;have hk:=hF.k;have IV:=(bL d (mG (bJ hd).2)).k8;have ke:=vI (d:=d) t1 t2 t3 t4 c;have ql:=sR (d:=d) (e:=e) (u:=eraseV ND f L ob x i a) (by omega) c;generalize eraseV ND f L ob x i a=y at t1 t2 t3 t4 ke ql ⊢;unfold bE;split
 ·rename_i c1;obtain ⟨q1,q2,q3⟩:=c1;have L9:=he.cn.2.1 q1;have h5:x.ks=[]:=hF.leaf (by omega)
  cases p with
  | nil=>
   rw [gm c i hd,gm c i hd,ql,ke];have hr:=Mj hx hd (by omega);have IG:=(vA L9 q3).1;have h1:=Int.emod_nonneg x.n (show e.cn≠0 by omega);have h2:=Int.emod_lt_of_pos x.n (show 0 < e.cn by omega);have hE:vE d e (.mk 10 (aQ x.n e.cn).1 au []) c=lX (max (aQ x.n e.cn).1 d.lo) (min ((zV (aQ x.n e.cn).1 (e.cn - 1)).getD d.hi) d.hi) c:=rfl
   have hP:dx d x c=lX x.n x.n c:=by
    unfold dx;rw [ap q2]
   rw [hE,hP];refine Mi (by omega) ?_ c;unfold zV;split
   ·simp only [Option.getD_none];omega
   ·simp only [Option.getD_some];omega
  | cons s p=>
   right;rw [kI c s p i e (by show (10:Int)≠9;decide) (fun h=>absurd h.1 (by show ¬ (10:Int)=12;decide)) rfl,kI c s p i e (by omega) (by omega) (List.eq_nil_of_length_eq_zero (by rw [t4,h5];rfl))]
 split
 ·rename_i c2;obtain ⟨q1,q2⟩:=c2;have L9:=he.cn.2.2.1 q1;have h5:x.ks=[]:=hF.leaf (by omega)
  cases p with
  | nil=>
   rw [gm c i hd,gm c i hd,ql,ke]
   have hE:vE d e (.mk 11 0 (ba (headL e.cn.toNat (tx x.s))) []) c=(if (cntU (ba (headL e.cn.toNat (tx x.s))).size (tx (ba (headL e.cn.toNat (tx x.s)))):Int) < e.cn then dx oB (.mk 3 0 (ba (headL e.cn.toNat (tx x.s))) []) c
    else if c.op=1/\c.lit.k=3/\headL e.cn.toNat (tx c.lit.s)=tx (ba (headL e.cn.toNat (tx x.s))) then 2 else 0):=rfl
   have hP:dx d x c=(if c.op=4 then 0 else if c.op≠1 then 0 else fq (decide (c.lit.k=3) && decide (c.lit.s=x.s))):=by
    unfold dx;rw [ai (by omega),decide_eq_false (show ¬ x.k=5 by omega),Bool.false_and,ap q2];rfl
   have hZ:∀ s,dx oB (.mk 3 0 s []) c=(if c.op=4 then 0 else if c.op≠1 then 0 else fq (decide (c.lit.k=3) && decide (c.lit.s=s))):=fun s=>by
    rfl
   have bY:(ba (headL e.cn.toNat (tx x.s))).size=(headL e.cn.toNat (tx x.s)).length:=rfl;have htx:tx (ba (headL e.cn.toNat (tx x.s)))=headL e.cn.toNat (tx x.s):=xr _;rw [bY,htx] at hE;rw [hE,hP,hZ];by_cases g:(cntU (headL e.cn.toNat (tx x.s)).length (headL e.cn.toNat (tx x.s)):Int) < e.cn
   ·rw [ap g];have:=Cs e.cn.toNat (tx x.s) _ (aU _) (by omega);rw [this,Ki];exact .inr rfl
   ·rw [ai g];by_cases g2:c.op=1/\c.lit.k=3/\headL e.cn.toNat (tx c.lit.s)=headL e.cn.toNat (tx x.s)
    ·rw [ap g2];exact .inl rfl
    ·rw [ai g2];right;split
     ·rfl
     split
     ·rfl
     ·rename_i o1;have o1:c.op=1:=by omega
      by_cases l3:c.lit.k=3
      ·have:¬ c.lit.s=x.s:=fun h=>g2 ⟨o1,l3,by rw [h]⟩;rw [decide_eq_false this,Bool.and_false];rfl
      ·rw [decide_eq_false l3,Bool.false_and];rfl
  | cons s p=>
   right;rw [kI c s p i e (by show (11:Int)≠9;decide) (fun h=>absurd h.1 (by show ¬ (11:Int)=12;decide)) rfl,kI c s p i e (by omega) (by omega) (List.eq_nil_of_length_eq_zero (by rw [t4,h5];rfl))]
 split
 ·rename_i c3;obtain ⟨q1,q2⟩:=c3
  cases p with
  | nil=>
   right;rw [gm c i hd,gm c i hd,ql,ke];have hE:vE d e (.mk 12 x.ks.length au []) c=fq (decide (c.op=4) && (decide (c.lit.k=2) && decide (c.lit.n=x.ks.length))):=rfl
   have hW:wordQ d x=au:=by
    unfold wordQ;rw [ai (by omega),ai (by omega),ai (by omega),ai (by omega)]
   rw [hE];unfold dx;rw [ai (by omega),decide_eq_true q2,Bool.true_and,hW];by_cases o4:c.op=4
   ·rw [ap o4,decide_eq_true o4,Bool.true_and]
   ·rw [ai o4,decide_eq_false o4,Bool.false_and];split
    ·rfl
    ·rw [ai (by omega)];by_cases l1:c.lit.k=1
     ·have:=hn l1;rw [decide_eq_false (show ¬ au=c.lit.s from fun h=>this h.symm),Bool.and_false]
     ·rw [decide_eq_false l1,Bool.false_and]
  | cons s p=>
   by_cases g:s.k=2/\s.n < x.ks.length
   ·left;rw [walkQ,ai (by show ¬ (12:Int)=9;decide),ap ⟨rfl,g.1,g.2⟩]
   ·right;rw [kI (u:=.mk 12 x.ks.length au []) c s p i e (by show (12:Int)≠9;decide) (fun h=>g h.2) rfl,walkQ,ai (by omega),ai (by omega),hd];simp only
    have fM:bg (sr d y s) y.ks.length=none:=b9 fun j hj=>by
     unfold sr;rw [ai (by omega),ai (by omega),ap (by omega)];by_cases g1:s.k=2
     ·have hs:=hp s (by simp);have:¬ s.n=(j:Int):=fun h=>g ⟨g1,by rw [t4] at hj;omega⟩;rw [decide_eq_false this,Bool.and_false]
     ·rw [decide_eq_false g1,Bool.false_and]
    rw [fM]
 ·left;exact Ct c p i e e
theorem GB {o:Nat} {d:Nd} {b:Ed} {a:Nat}:iQ f L o d b a<=2:=by
 rw [nj];split
 ·omega
 ·split<;>omega
theorem walk_less (bL:∀ n∈ND,dt L ND.length n) (hL:dH f L) {oa ob:Nat} (ha:oa < L) (hb:ob < L) (eM:f oa ob=true) {c:fB} (hn:c.lit.k=1->c.lit.s≠au):∀ (p:List fc),(∀ s∈p,du s=true)->∀ (v:Val) (i:Int) (e:Ed) (a:Nat),a < L->fitV ND v i=true ->
  walkQ ND c p i e (eraseV ND f L oa v i a)=2∨walkQ ND c p i e (eraseV ND f L oa v i a)=walkQ ND c p i e (eraseV ND f L ob v i a)
 | [],_,v,i,e,a,GO,hv=>by
  obtain ⟨d,hF⟩:=ef bL hv;have hd:=hF.aj;obtain ⟨a1,a2,a3⟩:=@lF ND f L oa v i a;obtain ⟨b1,b2,b3⟩:=@lF ND f L ob v i a;have a4:=@lH ND f L oa v i a d hd;have b4:=@lH ND f L ob v i a d hd;have hk:=hF.k;have IV:=(bL d (mG (bJ hd).2)).k8;right;rw [gm c i hd,gm c i hd,sR (by omega),sR (by omega)];exact vI (by rw [a1,b1]) (by rw [a2,b2]) (by rw [a3,b3]) (by rw [a4,b4]) c
 | s :: p,hp,v,i,e,a,GO,hv=>by
  obtain ⟨d,hF⟩:=ef bL hv;have hd:=hF.aj;have hdm:=mG (bJ hd).2;have hN:=bL d hdm;have hk:=hF.k;have IV:=hN.k8;have Mk:=fun m x (h:v.ks[m]? = some x)=>pM bL hv hF h;have ih:=walk_less bL hL ha hb eM hn p (fun s h=>hp s (by simp [h]));obtain ⟨k,n,t,ks⟩:=v;have hk:k=d.ag:=hk;have hE:∀ o,eraseV ND f L o (.mk k n t ks) i a = .mk k n t (eraseVs ND f L o ks d n a 0):=fun o=>by rw [eraseV,hd]
  rw [hE,hE]
  have hQ:∀ o,walkQ ND c (s :: p) i e (.mk k n t (eraseVs ND f L o ks d n a 0))=(match bg (sr d (.mk k n t []) s) ks.length with
   | none=>0
   | some j=>match (eraseVs ND f L o ks d n a 0)[j]?,d.aC[pT (.mk k n t []) j]? with
    | some v,some e=>walkQ ND c p e.to e v
    | _,_=>0):=fun o=>by
   rw [walkQ,ai (by show ¬ k=9;omega),ai (by show ¬ (k=12/\_);omega),hd];simp only [Val.ks];rw [jT];rfl
  rw [hQ,hQ]
  cases hf:bg (sr d (.mk k n t []) s) ks.length with
  | none=>exact .inr rfl
  | some j=>
   obtain ⟨hj,_,_⟩:=cx hf;obtain ⟨x,hx⟩:∃ x,ks[j]? = some x:=⟨_,gE hj⟩;obtain ⟨b,hK⟩:=Mk j x hx;have Jo:dy d n j=some b:=hK.fW;have hxa:=@lG ND f L oa ks d n a 0 j x hx;have hxb:=@lG ND f L ob ks d n a 0 j x hx;rw [Nat.zero_add,Jo] at hxa hxb
   have FR:d.aC[pT (.mk k n t []) j]? = some b:=by
    rw [<- vH (u:=.mk k n t []) hk];exact Jo
   simp only;rw [hxa,hxb,FR];simp only;have hm:=LP (N:=ND.length) (a:=a) hL hN hK.mem GO ha hb eM;have hEd:=hN.fW b hK.mem;have hul:=pN hL hN hK.mem GO;by_cases c2:iQ f L oa d b a=2
   ·have:iQ f L ob d b a=2:=by
     have:=@GB f L ob d b a;omega
    rw [ap c2,ap this];exact ih x b.to b _ hul hK.fit
   ·rw [ai c2];by_cases c1:iQ f L oa d b a=1
    ·rw [ap c1];by_cases g2:iQ f L ob d b a=2
     ·rw [ap g2];exact Cu bL hn hEd p (fun s h=>hp s (by simp [h])) hK.fit _
     ·have g1:iQ f L ob d b a=1:=by
       have:=@GB f L ob d b a;omega
      rw [ai g2,ap g1];exact .inr rfl
    ·rw [ai c1];exact .inl (Ct c p b.to b b)
end
section
variable {ND:List Nd} {f:Nat->Nat->Bool} {L:Nat}
theorem Cv (bL:∀ n∈ND,dt L ND.length n) {c:fB}:∀ (p:List fc) (v:Val) (i:Int) (e:Ed),fitV ND v i=true->walkQ ND c p i e v≠2
 | [],v,i,e,hv=>by
  obtain ⟨d,hF⟩:=ef bL hv;have hk:=hF.k;have IV:=(bL d (mG (bJ hF.aj).2)).k8;rw [gm c i hF.aj,sR (by omega)];exact Ik _ _ _
 | s :: p,v,i,e,hv=>by
  obtain ⟨d,hF⟩:=ef bL hv;have hk:=hF.k;have IV:=(bL d (mG (bJ hF.aj).2)).k8;have Mk:=fun m x (h:v.ks[m]? = some x)=>pM bL hv hF h;rw [walkQ,ai (by omega),ai (by omega),hF.aj];simp only
  cases hf:bg (sr d v s) v.ks.length with
  | none=>exact (show (0:Int)≠2 by decide)
  | some j=>
   obtain ⟨hj,_,_⟩:=cx hf;obtain ⟨x,hx⟩:∃ x,v.ks[j]? = some x:=⟨_,gE hj⟩;obtain ⟨b,hK⟩:=Mk j x hx
   have FR:d.aC[pT v j]? = some b:=by
    rw [<- vH hk];exact hK.fW
   simp only;rw [hx,FR];exact Cv bL p x b.to b hK.fit
theorem Il {c:fB} (h:lL c=true):(c.lit.k=1->c.lit.s≠au)/\∀ s∈c.p,du s=true:=by
 unfold lL lE EY at h;simp only [aS,List.all_eq_true] at h;refine ⟨fun h1 hs=>?_,h.1.2⟩;have h2:=h.2.2.2.2.2;rw [ai (by omega),ai (by omega),aS,aS,hs] at h2;have h3:=h2.2.2
 revert h3
 decide
theorem yt (bL:∀ n∈ND,dt L ND.length n) (hL:dH f L) {oa ob:Nat} (ha:oa < L) (hb:ob < L) (eM:f oa ob=true) {rt:Nat} {v:Val} (hv:fitV ND v rt=true) (c:fB) :
  jG ND f L rt oa (eraseV ND f L oa v rt (e9 f L)) c=2∨jG ND f L rt oa (eraseV ND f L oa v rt (e9 f L)) c=jG ND f L rt ob (eraseV ND f L ob v rt (e9 f L)) c:=by
 have hs:∀ o:Nat,o < L->wE ND f L rt o (eraseV ND f L o v rt (e9 f L))=true:=fun o ho=>by
  unfold wE;rw [decide_eq_true (show 0<=(o:Int)/\(o:Int) < L by omega),Bool.true_and,jV];exact yj bL _ _ _ hv
 unfold jG;rw [hs oa ha,hs ob hb];by_cases hc:lL c=true/\(walkV ND f L c.p rt (e9 f L)).isSome=true
 ·rw [ap ⟨hc.1,rfl,hc.2⟩,ap ⟨hc.1,rfl,hc.2⟩];obtain ⟨h1,h2⟩:=Il hc.1;exact walk_less bL hL ha hb eM h1 c.p h2 v rt ib (e9 f L) (pL hL) hv
 ·rw [ai fun h=>hc ⟨h.1,h.2.2⟩,ai fun h=>hc ⟨h.1,h.2.2⟩];exact .inr rfl
theorem Ml (bL:∀ n∈ND,dt L ND.length n) {o:Int} {rt:Nat} {v:Val} (hv:fitV ND v rt=true) (c:fB):jG ND f L rt o v c≠2:=by
 unfold jG;split
 ·exact Cv bL _ _ _ _ hv
 ·decide
end
mutual
def Ai:Rw->Nat
 | .mk _ _ _ s keys ks=>64 + s.size + wdsWt keys + lM ks
def lM:List Rw->Nat
 | []=>0
 | v :: r=>Ai v + lM r
end
theorem Cw:∀ {l:List Rw} {x:Rw},x∈l->Ai x<=lM l
 | v :: r,x,h=>by
  rw [lM];rcases cg h with rfl | h
  ·omega
  ·have:=Cw h;omega
theorem z7:∀ r:Rw,64<=Ai r
 | .mk _ _ _ _ _ _=>by rw [Ai];omega
theorem vJ:∀ l:List Rw,l.length<=lM l
 | []=>aU _
 | v :: r=>by
  have:=vJ r;have:=z7 v;rw [lM,List.length_cons];omega
mutual
def wF:Rw->Nat
 | .mk _ _ _ _ _ ks=>gF ks + 1
def gF:List Rw->Nat
 | []=>0
 | v :: r=>max (wF v) (gF r)
end
mutual
theorem GC:∀ v:Rw,sm v<=Ai v/\wF v<=Ai v
 | .mk _ _ _ _ _ ks=>by
  have:=vK ks;rw [sm,wF,Ai];omega
theorem vK:∀ l:List Rw,kG l<=lM l/\gF l<=lM l
 | []=>⟨aU _,aU _⟩
 | v :: r=>by
  have h1:=GC v;have h2:=vK r;rw [kG,gF,lM];omega
end
theorem vM:∀ (l:List Rw) (x:Rw),kG (l ++ [x])=kG l + sm x
 | [],x=>by simp [kG]
 | v :: r,x=>by rw [List.cons_append,kG,kG,vM r];omega
theorem vN:∀ (l:List Rw) (x:Rw),gF (l ++ [x])=max (gF l) (wF x)
 | [],x=>by simp [gF]
 | v :: r,x=>by rw [List.cons_append,gF,gF,vN r];omega
theorem E9 (l:List Rw):∀ e,kG (l.take e)<=lM l/\gF (l.take e)<=lM l:=fun e=>by
 have h1:=vK (l.take e)
 have h2:∀ (l:List Rw) e,lM (l.take e)<=lM l:=by
  intro l
  induction l with
  | nil=>intro e;simp [lM]
  | cons v r ih=>
   intro e
   cases e with
   | zero=>simp [lM]
   | succ e=>have:=ih e;simp only [List.take_succ_cons,lM];omega
 have:=h2 l e;omega
abbrev XT (v:Rw) (n d e:Nat):St:=
 ⟨[aF 1 0,aw 4 n,aw 5 d,aw 6 e],[dRw v],[]⟩
theorem rZ:∀ (k:Nat) (v:Rw),Ai v<=k->Ai v<=1099511627776->EvP prog 22 [.agg (dRw v)] (.tup [.v (.int .i64 (sm v:Nat)),.v (.int .i64 (wF v:Nat))])
 | 0,v,h,_=>by have:=z7 v;omega
 | k + 1,.mk q a n s keys ks,h,hb=>by
  have ih:=rZ k;have dq:=B4 ks;have oD:=vJ ks;have l8:=E9 ks;rw [Ai] at h hb;rw [sm,wF];refine eG 35 [.tmp 2,.tmp 3] func22 rfl ntmps22 rfl fun _ _ _ _=>?_;refine lJ (fun e=>XT (.mk q a n s keys ks) (1 + kG (ks.take e)) (gF (ks.take e)) e) ks.length (bl wB) ?_;intro e he;refine br ?_ ?_<;>intro hL
  ·have ay:e < ks.length:=by have:=hL;simp [dq] at this;exact this
   obtain ⟨x,hx⟩:=gX ay;have Wj:=Cw (mG hx);have hc:=vM (ks.take e) x;have hd:=vN (ks.take e) x;rw [<- q6 hx] at hc hd;have h1:=l8 (e + 1);have hi:=ih x (by omega) (by omega);have hcx:=GC x;obtain ⟨xk,xa,xn,xs,xq,xl⟩:=x;refine iX (LB hx) ?_;refine cP Ur hi ?_;have hw:IntKind.i64.wrap (((1 + kG (ks.take e):Nat):Int) + ((sm (.mk xk xa xn xs xq xl):Nat):Int))=((1 + kG (ks.take (e + 1)):Nat):Int):=by rw [wrap64 (by omega) (by omega)];omega
   refine br ?_ ?_<;>intro g
   ·have g:gF (ks.take e) < wF (.mk xk xa xn xs xq xl):=sU g;have Db:((wF (.mk xk xa xn xs xq xl):Nat):Int)=((gF (ks.take (e + 1)):Nat):Int):=by omega
    exact rE ⟨_,by omega,e + 1,rfl,by omega,rfl⟩ (bl (MA hw Db (nxt ay (by omega))))
   ·have g:¬ gF (ks.take e) < wF (.mk xk xa xn xs xq xl):=sU g;have Db:((gF (ks.take e):Nat):Int)=((gF (ks.take (e + 1)):Nat):Int):=by omega
    exact rE ⟨_,by omega,e + 1,rfl,by omega,rfl⟩ (bl (MA hw Db (nxt ay (by omega))))
  ·have hge:e=ks.length:=sW dq hL;subst hge;have h1:=l8 ks.length;rw [List.take_length] at h1 ⊢;have hw:IntKind.i64.wrap (((gF ks:Nat):Int) + 1)=((gF ks + 1:Nat):Int):=by rw [wrap64 (by omega) (by omega)];omega
   refine ⟨_,(pZ hw),rfl⟩
theorem Im:prog.cellsOf 56=6:=by kernel_rfl
theorem GD {m:Nat} (ih:∀ k,k<=m->∀ ds,Typ prog k 56 ds->∃ v:Rw,ds=dRw v/\Ai v<=wgL ds) :
  ∀ {es:List (List DV)},(∀ cs∈es,Typ prog m 56 cs)->∃ l:List Rw,es=dRws l/\lM l<=wgEs es
 | [],h=>⟨[],rfl,by simp [lM]⟩
 | cs :: r,h=>by
  obtain ⟨l,rfl,hl⟩:=GD ih (es:=r) (fun c hc=>h c (fK _ hc));obtain ⟨v,rfl,hv⟩:=ih m (aU _) cs (h cs (by simp));exact ⟨v :: l,rfl,by simp only [lM,wgEs];omega⟩
theorem OU:∀ (n:Nat) (ds:List DV),Typ prog n 56 ds->∃ v:Rw,ds=dRw v/\Ai v<=wgL ds:=by
 intro n
 induction n using Nat.strongRecOn with
 | _ n ih=>
  intro ds h;obtain ⟨m,rfl,hf⟩:=iF Tryz.underlying56 h;obtain ⟨a1,b1,rfl,h1,a2,b2,rfl,h2,a3,b3,rfl,h3,a4,b4,rfl,h4,a5,b5,rfl,h5,a6,b6,rfl,h6,rfl⟩:=hf;obtain ⟨k,rfl,_⟩:=gy h1;obtain ⟨a,rfl,_⟩:=gy h2;obtain ⟨z,rfl,_⟩:=gy h3;obtain ⟨s,rfl⟩:=sE Tryz.underlying9 h4;obtain ⟨keys,rfl,hw⟩:=o8 h5;obtain ⟨j,es,rfl,rfl,kg⟩:=mj Tryz.underlying54 h6;obtain ⟨l,rfl,wl⟩:=GD (fun i hi=>ih i (by omega)) kg;rw [Im];refine ⟨.mk k a z s keys l,rfl,?_⟩;simp only [Ai,cG,wgL,wgD] at *;omega
theorem Fa:prog.cellsOf 176=3:=by kernel_rfl
def Mm (p:List fc):Prop:=∀ s∈p,(-9223372036854775808<=s.k/\s.k<=9223372036854775807)/\(-9223372036854775808<=s.n/\s.n<=9223372036854775807)
def wtStp:List fc->Nat
 | []=>0
 | s :: p=>64 + s.s.size + wtStp p
theorem yu:∀ p:List fc,64 * p.length<=wtStp p
 | []=>aU _
 | s :: p=>by
  have:=yu p;rw [wtStp,List.length_cons];omega
theorem yv:∀ {p:List fc} {s:fc},s∈p->s.s.size<=wtStp p
 | s :: p,x,h=>by
  rcases cg h with rfl | h
  ·rw [wtStp];omega
  ·have:=yv h;rw [wtStp];omega
theorem Cx {m:Nat}:∀ {es:List (List DV)},(∀ cs∈es,Typ prog m 176 cs)->∃ p:List fc,es=eK p/\Mm p/\wtStp p<=wgEs es
 | [],h=>⟨[],rfl,(fun _ h=>by cases h),by simp [wtStp]⟩
 | cs :: r,h=>by
  obtain ⟨p,rfl,hr,hl⟩:=Cx (es:=r) (fun c hc=>h c (fK _ hc));obtain ⟨m',rfl,hf⟩:=iF Tryz.underlying176 (h cs (by simp));obtain ⟨a1,b1,rfl,h1,a2,b2,rfl,h2,a3,b3,rfl,h3,rfl⟩:=hf;obtain ⟨k,rfl,hk⟩:=gy h1;obtain ⟨z,rfl,hz⟩:=gy h2;obtain ⟨s,rfl⟩:=sE Tryz.underlying9 h3;refine ⟨⟨k,z,s⟩ :: p,rfl,fun x hx=>?_,?_⟩
  ·rcases cg hx with rfl | hx
   ·exact ⟨hk,hz⟩
   ·exact hr x hx
  ·grind [wtStp,wgEs,cG,wgL,wgD]
theorem Mn {n:Nat} {ds:List DV} (h:Typ prog n 53 ds):∃ p:List fc,ds=[.sl 3 (eK p) none]/\Mm p/\wtStp p<=wgL ds:=by
 obtain ⟨j,es,rfl,rfl,kg⟩:=mj Tryz.underlying53 h;obtain ⟨p,rfl,hr,hl⟩:=Cx kg;rw [Fa];exact ⟨p,rfl,hr,by simp only [wgL,wgD];omega⟩
def cndW:List fB->Nat
 | []=>0
 | c :: r=>wtStp c.p + Ai c.lit + cndW r
theorem vO:∀ {l:List fB} {c:fB},c∈l->wtStp c.p + Ai c.lit<=cndW l
 | x :: r,c,h=>by
  rw [cndW];rcases cg h with rfl | h
  ·omega
  ·have:=vO h;omega
theorem Cy:∀ l:List fB,64 * l.length<=cndW l
 | []=>aU _
 | c :: r=>by
  have:=Cy r;have:=z7 c.lit;rw [cndW,List.length_cons];omega
theorem Cz {c:fB} (h:wtStp c.p + Ai c.lit<=1099511627776):GA c:=by
 have h1:=yu c.p;obtain ⟨p,op,k,a,n,s,keys,ks⟩:=c;rw [Ai] at h;have h2:=bi keys;have h3:=vJ ks;simp only at h h1;refine ⟨by show p.length<=_;omega,fun x hx=>?_,by show s.size<=_;omega,by show keys.length + ks.length<=_;omega⟩;have:=yv (show x∈p from hx);omega
theorem Mo {m:Nat}:∀ {es:List (List DV)},(∀ cs∈es,Typ prog m 60 cs)->∃ L:List fB,es=fT L/\cndW L<=wgEs es
 | [],_=>⟨[],rfl,by simp [cndW]⟩
 | cs :: r,h=>by
  obtain ⟨L,rfl,hr⟩:=Mo (es:=r) (fun c hc=>h c (fK _ hc));obtain ⟨m',rfl,hf⟩:=iF Tryz.underlying60 (h cs (by simp));obtain ⟨a1,b1,rfl,h1,a2,b2,rfl,h2,a3,b3,rfl,h3,rfl⟩:=hf;obtain ⟨p,rfl,r2,w2⟩:=Mn h1;obtain ⟨op,rfl,r1⟩:=gy h2;obtain ⟨x,rfl,w3⟩:=OU _ _ h3;refine ⟨⟨p,op,x⟩ :: L,?_,?_⟩
  ·simp [fT,jI]
  ·simp only [cndW,wgEs,cG] at *;omega
theorem Io:prog.cellsOf 60=8:=by kernel_rfl
def OV (o:Int) (ask:List fB):List DV:=[.v (.int .i64 o),.sl 8 (fT ask) none]
theorem typ_q40 {n:Nat} {ds:List DV} (h:Typ prog n 37 ds):∃ o ask,ds=OV o ask/\cndW ask<=wgL ds:=by
 obtain ⟨m,rfl,hf⟩:=iF Tryz.underlying37 h;obtain ⟨a1,b1,rfl,h1,a2,b2,rfl,h2,rfl⟩:=hf;obtain ⟨o,rfl,_⟩:=gy h1;obtain ⟨j,es,rfl,rfl,kg⟩:=mj Tryz.underlying35 h2;obtain ⟨L,rfl,hL⟩:=Mo kg;rw [Io];refine ⟨o,L,rfl,?_⟩;simp only [cG,wgL,wgD] at *;omega
def tyQ40:List TypeId:=[37,35,60,53,176,56,54,22,27,9,3]
theorem tyQ40_ok:∀ t∈tyQ40,lj prog tyQ40 t=true:=by
 have h:(tyQ40.all fun t=>lj prog tyQ40 t)=true:=by kernel_rfl
 exact fun t ht=>List.all_eq_true.1 h t ht
theorem CA (S:Sch) (hS:S.wt<=1099511627776) (x:Val) (hx:x.wt<=1099511627776) :
  Ev prog 5 [.agg (dQ S),.agg (cj x)] [] [] (fun r _ _=>∃ b:Bool,r = .v (.bool b)/\(b=true->vv S)):=by
 have ga:=zs S hS;have hf:=Ci S hS;have h1:=rM x.wt x (aU _) hx;generalize B1 x=c1 at h1;generalize wm x=d1 at h1;obtain ⟨ae,order,types,⟨rh,rp⟩⟩:=S;obtain ⟨xk,xn,xs,xks⟩:=x;refine eG 23 [.tmp 4] func5 rfl ntmps5 rfl fun _ _ _ _=>?_;refine cP Uq h1 ?_;refine br ?_ ?_<;>intro c
 ·refine cp ZC rfl ga ax (fun r hr=>?_);obtain ⟨g,rfl⟩:=hr
  cases g with
  | true=>
   refine ⟨false,?_,fun h=>by cases h⟩;refine (bA ?_:);simp only [ah,Bool.not_true,Bool.and_false,Bool.false_and]
  | false=>
   refine cp ZD rfl hf ax (fun r hr=>?_);obtain ⟨b,rfl,hb⟩:=hr;exact ⟨b,rfl,hb⟩
 ·exact ⟨false,rfl,fun h=>by cases h⟩
abbrev SY (L:List fB) (e:Nat):St:=⟨[bc 0 8 (fT L),aw 3 e],[],[]⟩
def XU (L:List fB):Prop:=L.length<=30/\∀ c∈L,sm c.lit<=100
theorem z8 (L:List fB) (hw:cndW L<=1099511627776) :
  Ev prog 6 [.sl 8 (fT L) none] [] [] (fun r _ _=>∃ b:Bool,r = .v (.bool b)/\(b=true->XU L)):=by
 have dq:=rc L;refine eG 45 [.tmp 2] func6 rfl ntmps6 rfl fun _ _ _ _=>?_;refine br (fun g=>⟨false,rfl,fun h=>by cases h⟩) (fun g=>?_)
 have h30:L.length<=30:=by
  have h2:=g;simp [dq] at h2;omega
 refine lI (fun j st=>∃ e:Nat,st=SY L e/\e<=L.length/\(∀ c∈L.take e,sm c.lit<=100)/\j=L.length - e) ⟨0,rfl,by omega,by simp,rfl⟩ (wkB 0 nY jX) ?_;rintro _ st ⟨e,rfl,he,Mp,rfl⟩;refine br ?_ ?_<;>intro HA
 ·have ay:e < L.length:=sV dq HA;obtain ⟨c,hc⟩:=gX ay;have Jt:=vO (mG hc);have h1:=rZ _ c.lit (aU _) (by omega);have XS:=re hc
  have cT:sm c.lit<=100->∀ u∈L.take (e + 1),sm u.lit<=100:=fun h u hu=>by
   rw [List.take_add_one,hc] at hu;rcases List.mem_append.1 hu with hu | hu
   ·exact Mp u hu
   ·simp at hu;rw [hu];exact h
  generalize sm c.lit=ct at h1 cT;generalize wF c.lit=dp at h1;obtain ⟨p,op,rk,ra,rn,rs,bz,iH⟩:=c;have hi:(0:Int)<=e/\(fT L)[((e:Nat):Int).toNat]? = some (jI ⟨p,op,.mk rk ra rn rs bz iH⟩):=⟨by omega,XS⟩;refine ⟨_,hi,?_⟩;refine cP Ur h1 ?_;refine br ?_ ?_<;>intro g1
  ·refine ⟨_,hi,?_⟩;refine br ?_ ?_<;>intro g2
   ·refine ⟨_,hi,?_⟩;refine br ?_ ?_<;>intro g3
    ·exact ⟨false,rfl,fun h=>by cases h⟩
    ·exact rE ⟨_,by omega,e + 1,rfl,by omega,cT (by simp at g1;omega),rfl⟩ (wkB 0 (nz (nxt ay (by omega))) (cQ (nxt ay (by omega))))
   ·exact ⟨false,rfl,fun h=>by cases h⟩
  ·exact ⟨false,rfl,fun h=>by cases h⟩
 ·have hge:L.length<=e:=by
   have h2:=HA;simp [dq] at h2;omega
  rw [List.take_of_length_le hge] at Mp;exact ⟨true,rfl,fun _=>⟨h30,Mp⟩⟩
theorem Ip {S:Sch} (hS:S.wt<=1099511627776) (Qv:Ko S) (h0:vv S) {PC:List DV} (hP:jF S (aM S) PC) (v:Val) (hv:v.wt<=1099511627776) (Ah:rngW v) (o:Int) (L:List fB) (hL:cndW L<=1099511627776) :
  ∃ (LC:List DV) (root top:Nat) (n:Nat),EvP prog 15 [.pt PC 0] (.pt LC 0)/\zK n (aN S) (aA S.ae) LC/\n=S.ae.length/\EvP prog 16 [.pt LC 0] (.v (.int .i64 (top:Nat))) /\
   ((EvP prog 14 [.pt PC 0,.v (.int .i64 o),.agg (cj v)] (Gw none)) ∨
    (∃ (ob:Nat) (X:Val) (A N:fB->Int) (Y:Nat->Val) (M:Nat->fB->Int),o=ob/\ob < n/\EvP prog 14 [.pt PC 0,.v (.int .i64 o),.agg (cj v)] (Gw (some X)) /\
    (∀ c∈L,EvP prog 12 [.pt PC 0,.v (.int .i64 (top:Nat)),.agg (cj v),.agg (jI c)] (.v (.int .i64 (A c)))/\A c≠2) /\
    (∀ c∈L,EvP prog 12 [.pt PC 0,.v (.int .i64 o),.agg (cj X),.agg (jI c)] (.v (.int .i64 (N c)))/\(N c=2∨N c=A c)) /\
    (∀ k:Nat,k < n->aN S k ob=true->EvP prog 14 [.pt PC 0,.v (.int .i64 (k:Nat)),.agg (cj v)] (Gw (some (Y k))) /\
     ∀ c∈L,EvP prog 12 [.pt PC 0,.v (.int .i64 (k:Nat)),.agg (cj (Y k)),.agg (jI c)] (.v (.int .i64 (M k c)))/\(M k c=2∨M k c=N c)))):=by
 have hRr:=fun n (hn:n∈aM S)=>vu Qv hn;have XV:∀ n∈aM S,n.aC.length<=1099511627776:=fun n hn=>(kz hn hS).2;obtain ⟨root,H9,gn⟩:=@Ex S (pF h0.De);obtain ⟨LC,iu,hR⟩:=hP.Ox;have zT:=Ih hR;obtain ⟨ht1,ht2⟩:=z6 hR.ok S.ae.length (aU _);have hE:=fun (k:Nat) (u:Val) (hu:u.wt<=1099511627776) (Mh:rngW u) (c:fB) (hc:c∈L)=>rY hP iu hR hRr XV root H9 gn k c (Cz (by have:=vO hc;omega)) u hu Mh;have ML:=fun o=>rT hP iu hR hRr XV root H9 o v hv Ah;refine ⟨LC,root,_,_,iu,hR,rfl,zT,?_⟩;by_cases h:0<=o/\o < S.ae.length/\fitV (aM S) v root=true
 ·right;obtain ⟨h1,h2,eu⟩:=h;obtain ⟨ob,rfl⟩:∃ n:Nat,o=n:=⟨o.toNat,by omega⟩;have TD:ob < S.ae.length:=by omega
  have Qw:∀ k:Nat,k < S.ae.length->pP (aM S) (aN S) S.ae.length root (k:Nat) v=some (eraseV (aM S) (aN S) S.ae.length k v root (e9 (aN S) S.ae.length)):=fun k hk=>by
   unfold pP;rw [ap ⟨by omega,by omega,eu⟩,jV]
  have hw:∀ k,(eraseV (aM S) (aN S) S.ae.length k v root (e9 (aN S) S.ae.length)).wt<=1099511627776:=fun k=>Nat.le_trans (ye _ _ _) hv;have hr:∀ k,rngW (eraseV (aM S) (aN S) S.ae.length k v root (e9 (aN S) S.ae.length)):=fun k=>vG hP.ok v root _ Ah hv;have TW:=yl hP.ok hR.ok (obs:=E6 (aN S) S.ae.length S.ae.length) (fun a ha=>ht2 a ha) v root (e9 (aN S) S.ae.length) (pL hR.ok) eu;refine ⟨ob,_,jG (aM S) (aN S) S.ae.length root (E6 (aN S) S.ae.length S.ae.length:Nat) v,jG (aM S) (aN S) S.ae.length root (ob:Nat) (eraseV (aM S) (aN S) S.ae.length ob v root (e9 (aN S) S.ae.length)),fun k=>eraseV (aM S) (aN S) S.ae.length k v root (e9 (aN S) S.ae.length),fun k=>jG (aM S) (aN S) S.ae.length root (k:Nat) (eraseV (aM S) (aN S) S.ae.length k v root (e9 (aN S) S.ae.length)),rfl,TD,?_,fun c hc=>⟨hE _ v hv Ah c hc,Ml hP.ok eu c⟩,fun c hc=>⟨hE ob _ (hw ob) (hr ob) c hc,?_⟩,fun k hk eM=>⟨?_,fun c hc=>⟨hE k _ (hw k) (hr k) c hc,yt hP.ok hR.ok hk TD eM eu c⟩⟩⟩
  ·have:=ML ob
   rwa [Qw ob TD] at this
  ·have:=yt hP.ok hR.ok TD ht1 (ht2 ob TD) eu c
   rwa [TW] at this
  ·have:=ML k
   rwa [Qw k hk] at this
 ·left;have:=ML o
  rwa [show pP (aM S) (aN S) S.ae.length root o v=none by unfold pP;rw [ai h]] at this
def mN (c:UInt8):Bool:=decide (48<=c.toNat) && decide (c.toNat<=57)
def digN:List UInt8->Nat
 | []=>0
 | c :: r=>if mN c=true then digN r + 1 else 0
def fu (l:List UInt8):Nat:=l.foldl (fun n c=>n * 10 + (c.toNat - 48)) 0
theorem GF:∀ l,digN l<=l.length
 | []=>aU _
 | c :: r=>by
  have:=GF r;rw [digN,List.length_cons];split<;>omega
theorem CB:∀ (l:List UInt8) (c:UInt8),c∈l.take (digN l)->mN c=true
 | [],c,h=>by cases h
 | b :: r,c,h=>by
  rw [digN] at h;by_cases g:mN b=true
  ·rw [ap g,List.take_succ_cons,List.mem_cons] at h;rcases h with rfl | h
   ·exact g
   ·exact CB r c h
  ·rw [ai g] at h;cases h
theorem Iq (l:List UInt8) (c:UInt8):fu (l ++ [c])=fu l * 10 + (c.toNat - 48):=by simp [fu]
theorem vP (f:Nat->UInt8->Nat) (hf:∀ n c,n<=f n c):∀ (l:List UInt8) (n:Nat),n<=l.foldl f n
 | [],n=>aU _
 | c :: r,n=>Nat.le_trans (hf n c) (vP f hf r (f n c))
theorem Ir (l r:List UInt8):fu l<=fu (l ++ r):=by
 unfold fu;rw [List.foldl_append];exact vP _ (fun n c=>by omega) r _
theorem Is {l:List UInt8} {i:Nat} {c:UInt8} (h:l[i]? = some c):fu (l.take (i + 1))=fu (l.take i) * 10 + (c.toNat - 48):=by
 rw [List.take_add_one,h];exact Iq _ _
theorem OW (l:List UInt8) (i:Nat):fu (l.take i)<=fu l:=by
 have:=Ir (l.take i) (l.drop i)
 rwa [List.take_append_drop] at this
def su (l:List UInt8) (m:Bool):Int × Bool:=
 if m=true then (if fu l<=9223372036854775808 then (-(fu l:Nat),true) else (0,false))
 else (if fu l<=9223372036854775807 then ((fu l:Nat),true) else (0,false))
theorem OX {n d:Int} (hn:n<=0) (hd:0<=d/\d<=9):n < (-9223372036854775808 + d).tdiv 10↔9223372036854775808 < -n * 10 + d:=by
 rw [Sw (by decide) (by omega)];omega
abbrev rnSt (s:ByteArray) (e:Nat):St:=⟨[(0,⟨[],.v (.string s)⟩),aw 5 s.size,aw 6 e],[],[]⟩
theorem Iu (s:ByteArray) (hs:s.size<=4611686018427387904):EvP prog 207 [.v (.string s)] (.v (.int .i64 (digN s.data.toList:Nat))):=by
 refine eG 23 [.tmp 2] func207 rfl ntmps207 rfl fun _ _ _ _=>?_;refine lI (fun j st=>∃ e:Nat,st=rnSt s e/\e<=s.size/\e + digN (s.data.toList.drop e)=digN s.data.toList/\j=s.size - e) ⟨0,rfl,by omega,by simp,rfl⟩ (bl wB) ?_;rintro j st ⟨e,rfl,he,hinv,rfl⟩;refine br ?_ ?_<;>intro h
 ·have ay:e < s.size:=sU h;obtain ⟨c,hd,hb⟩:=iW ay;rw [hd,digN] at hinv;refine ⟨⟨by omega,by omega⟩,?_⟩
  have fM:mN c=false->DV.v (Value.int .i64 e) = .v (.int .i64 (digN s.data.toList:Nat)):=fun h=>by
   rw [ai (by rw [h];decide)] at hinv;rw [<- hinv];rfl
  refine br ?_ ?_<;>intro g
  ·have g:¬ c.toNat < 48:=by
    have:¬ ((bm s e:Nat):Int) < 48:=sU g;omega
   refine ⟨⟨by omega,by omega⟩,?_⟩;refine br ?_ ?_<;>intro g2
   ·have g2:57 < c.toNat:=by
     have:57 < ((bm s e:Nat):Int):=of_decide_eq_true g2;omega
    exact fM (by unfold mN;rw [decide_eq_false (p:=c.toNat<=57) (by omega),Bool.and_false])
   ·have g2:¬ 57 < c.toNat:=by
     have:¬ 57 < ((bm s e:Nat):Int):=of_decide_eq_false g2;omega
    rw [ap (by unfold mN;rw [decide_eq_true (by omega:48<=c.toNat),decide_eq_true (by omega:c.toNat<=57)];rfl)] at hinv;exact rE ⟨_,by omega,e + 1,rfl,by omega,by omega,rfl⟩ (bl (cQ (nxt ay (by omega))))
  ·have g:c.toNat < 48:=by
    have:((bm s e:Nat):Int) < 48:=sU g;omega
   exact fM (by unfold mN;rw [decide_eq_false (by omega),Bool.false_and])
 ·have hge:e=s.size:=by simp at h;omega
  rw [oZ (by omega)] at hinv;simp only [digN] at hinv;subst hge;refine congrArg (fun z=>DV.v (Value.int .i64 z)) ?_;omega
abbrev vlSt (s:ByteArray) (m:Bool) (n:Int) (e:Nat):St:=⟨[(0,⟨[],.v (.string s)⟩),yN 1 m,aw 6 n,aw 10 s.size,aw 11 e],[],[]⟩
theorem Iv (s:ByteArray) (hs:s.size<=4611686018427387904) (m:Bool) (hd:∀ c∈s.data.toList,mN c=true):EvP prog 208 [.v (.string s),.v (.bool m)] (.tup [.v (.int .i64 (su s.data.toList m).1),.v (.bool (su s.data.toList m).2)]):=by
 refine eG 35 [.tmp 4,.tmp 5] func208 rfl ntmps208 rfl fun _ _ _ _=>?_;refine lI (fun j st=>∃ e:Nat,st=vlSt s m (-(fu (s.data.toList.take e):Nat)) e/\e<=s.size/\fu (s.data.toList.take e)<=9223372036854775808/\j=s.size - e) ⟨0,rfl,by omega,by simp [fu],rfl⟩ (bl wB) ?_;rintro j st ⟨e,rfl,he,eM,rfl⟩;refine br ?_ ?_<;>intro h
 ·have ay:e < s.size:=sU h;obtain ⟨c,MK,hb⟩:=iW ay
  have VT:s.data.toList[e]? = some c:=by
   have:=congrArg List.head? MK
   rwa [List.head?_drop,List.head?_cons] at this
  have PU:=hd c (mG VT);unfold mN at PU;simp only [aS,decide_eq_true_eq] at PU;have bh:=Is VT;have hmono:=OW s.data.toList (e + 1);refine ⟨⟨by omega,by omega⟩,?_⟩;have Jo:bm s (e:Int).toNat=c.toNat:=hb
  have hw:IntKind.i64.wrap (IntKind.u8.wrap ((bm s (e:Int).toNat:Nat) - 48))=((c.toNat - 48:Nat):Int):=by
   rw [Jo,IntKind.wrap_u8,wrap64 (by omega) (by omega)];omega
  have hw2:IntKind.i64.wrap (-9223372036854775808 + ((c.toNat - 48:Nat):Int)) = -9223372036854775808 + ((c.toNat - 48:Nat):Int):=wrap64 (by omega) (by omega);have hq:=OX (n:=-(fu (s.data.toList.take e):Nat)) (d:=((c.toNat - 48:Nat):Int)) (by omega) (by omega)
  have RW:(-9223372036854775808 + ((c.toNat - 48:Nat):Int)).tdiv 10 = -((9223372036854775808 - ((c.toNat - 48:Nat):Int)) / 10):=by
   rw [show -9223372036854775808 + ((c.toNat - 48:Nat):Int) = -(9223372036854775808 - ((c.toNat - 48:Nat):Int)) by omega,Int.neg_tdiv,Int.tdiv_eq_ediv_of_nonneg (by omega)]
  have GL:IntKind.i64.wrap ((-9223372036854775808 + ((c.toNat - 48:Nat):Int)).tdiv 10)=(-9223372036854775808 + ((c.toNat - 48:Nat):Int)).tdiv 10:=by
   rw [RW];exact wrap64 (by omega) (by omega)
  refine ⟨⟨rfl,by decide⟩,?_⟩;refine br ?_ ?_<;>intro g
  ·have g:=of_decide_eq_true g;rw [hw,hw2,GL,hq] at g;have bO:9223372036854775808 < fu s.data.toList:=by omega
   have hv:su s.data.toList m=(0,false):=by
    unfold su;cases m
    ·rw [ai (by decide),ai (by omega)]
    ·rw [ap rfl,ai (by omega)]
   rw [hv];exact ⟨_,ax,rfl⟩
  ·have g:=of_decide_eq_false g;rw [hw,hw2,GL,hq] at g
   have sD:IntKind.i64.wrap (IntKind.i64.wrap (-(fu (s.data.toList.take e):Nat) * 10) - IntKind.i64.wrap (IntKind.u8.wrap ((bm s (e:Int).toNat:Nat) - 48))) = -(fu (s.data.toList.take (e + 1)):Nat):=by
    rw [hw,wrap64 (n:=-(fu (s.data.toList.take e):Nat) * 10) (by omega) (by omega),wrap64 (by omega) (by omega)];omega
   exact rE ⟨_,by omega,e + 1,rfl,by omega,by omega,rfl⟩ (bl (wB2 (nxt ay (by omega)) sD))
 ·have hge:e=s.size:=by simp at h;omega
  subst hge;rw [List.take_of_length_le (by simp)] at eM ⊢
  cases m with
  | true=>
   have hv:su s.data.toList true=(-((fu s.data.toList:Nat):Int),true):=by
    unfold su;rw [ap rfl,ap (by omega)]
   rw [hv];exact ⟨_,ax,rfl⟩
  | false=>
   refine br ?_ ?_<;>intro g
   ·have g:=of_decide_eq_true g
    have hv:su s.data.toList false=(0,false):=by
     unfold su;rw [ai (by decide),ai (by omega)]
    rw [hv];exact ⟨_,ax,rfl⟩
   ·have g:=of_decide_eq_false g
    have hw:IntKind.i64.wrap (0 - -((fu s.data.toList:Nat):Int))=((fu s.data.toList:Nat):Int):=by
     rw [wrap64 (by omega) (by omega)];omega
    have hv:su s.data.toList false=(IntKind.i64.wrap (0 - -((fu s.data.toList:Nat):Int)),true):=by
     rw [hw];unfold su;rw [ai (by decide),ap (by omega)]
    rw [hv];exact ⟨_,ax,rfl⟩
theorem CD (s:ByteArray) (hs:s.size<=1099511627776) (i:Nat) (hi:i < s.size) (c:UInt8) (hc:s.data.toList[i]? = some c) (hd:mN c=true) (hz:c.toNat=48->digN (s.data.toList.drop i)=1) (hv:fu ((s.data.toList.drop i).take (digN (s.data.toList.drop i)))<=9223372036854775807) :
  EvP prog 166 [.v (.string s),.v (.int .i64 i)] (.tup [.v (.int .i64 (fu ((s.data.toList.drop i).take (digN (s.data.toList.drop i))):Nat)),.v (.int .i64 ((i + digN (s.data.toList.drop i):Nat):Int)),Ft.d (0,0)]):=by
 obtain ⟨c',MK,hb⟩:=iW hi
 have AB:c'=c:=by
  have:=congrArg List.head? MK;rw [List.head?_drop,List.head?_cons,hc] at this;exact (Option.some.inj this).symm
 subst AB;have hbi:bm s (i:Int).toNat=c'.toNat:=hb
 have h1:1<=digN (s.data.toList.drop i):=by
  rw [MK,digN,ap hd];omega
 have h2:=GF (s.data.toList.drop i);rw [List.length_drop] at h2;have oP:s.data.toList.length=s.size:=by simp
 unfold mN at hd;simp only [aS,decide_eq_true_eq] at hd;have hx:(s.extract i (s.size:Int).toNat).data.toList=s.data.toList.drop i:=OD s i hs
 have bU:=Iu (s.extract i (s.size:Int).toNat) (by
  have:=congrArg List.length hx;rw [List.length_drop] at this;have h3:(s.extract i (s.size:Int).toNat).data.toList.length=(s.extract i (s.size:Int).toNat).size:=by simp
  omega)
 rw [hx] at bU;have iM:=CB (s.data.toList.drop i);generalize hK:digN (s.data.toList.drop i)=k at *
 have hy:(s.extract i (i + k)).data.toList=(s.data.toList.drop i).take k:=by
  have h3:i + k<=s.size:=by omega
  simp
  all_goals omega
 have hval:=Iv (s.extract i (i + k)) (by
  have:=congrArg List.length hy;rw [eP,List.length_drop] at this;have h3:(s.extract i (i + k)).data.toList.length=(s.extract i (i + k)).size:=by rw [Array.length_toList,ByteArray.size_data]
  omega) false (by rw [hy];exact iM)
 rw [hy] at hval;generalize (s.data.toList.drop i).take k=L at hval hv ⊢
 have hR:su L false=(((fu L:Nat):Int),true):=by
  unfold su;rw [ai (by decide),ap hv]
 rw [hR] at hval;generalize fu L=V at hval hv ⊢;clear hR iM hx hy
 have hw:IntKind.i64.wrap ((i:Int) + k)=((i + k:Nat):Int):=by
  rw [wrap64 (by omega) (by omega)];omega
 rw [<- hw];refine eG 88 [.tmp 4,.tmp 5,.cell 6 44] func166 rfl ntmps166 rfl fun _ _ _ _=>?_;refine br (fun g=>?_) (fun _=>?_)
 ·exfalso;simp [aq] at g;omega
 refine br (fun _=>?_) (fun g=>absurd (show (i:Int) < s.size by omega) (sU g));refine ⟨⟨by omega,by omega⟩,?_⟩;have h45:¬ ((bm s (i:Int).toNat:Nat):Int)=45:=by omega
 refine br (fun g=>?_) (fun _=>?_)
 ·exfalso;exact h45 (by simpa [pickB] using g)
 refine ⟨⟨by omega,by omega,by omega⟩,?_⟩;refine cP Vl bU ?_;refine br (fun g=>?_) (fun _=>?_)
 ·exfalso;have g:((k:Nat):Int)=0/\(i:Int)=s.size:=by simpa [ah] using g
  omega
 refine br (fun g=>?_) (fun _=>?_)
 ·exfalso;have g:((k:Nat):Int)=0:=of_decide_eq_true g;omega
 refine ⟨⟨by omega,by omega⟩,?_⟩;refine br (fun g=>?_) (fun _=>?_)
 ·exfalso;simp [ah,aq] at g;have h48:bm s i=48:=by omega
  have:=hz (by omega);omega
 have hval:EvP prog 208 [.v (.string (s.extract (i:Int).toNat (IntKind.i64.wrap ((i:Int) + k)).toNat)),.v (.bool (decide (((bm s (i:Int).toNat:Nat):Int)=45)))] (.tup [.v (.int .i64 V),.v (.bool true)]):=by
  rw [hw,decide_eq_false h45];exact hval
 refine ⟨⟨by omega,by omega,by omega⟩,?_⟩;refine cP Vm hval ?_;exact ⟨_,ax,rfl⟩
abbrev MM:ByteArray:=⟨#[46,110]⟩
abbrev rf:fc:=⟨1,0,⟨#[110]⟩⟩
theorem OY:EvP prog 240 [.v (.string MM),.v (.int .i64 1),.v (.int .i64 1)] (.tup [.agg (ve rf),.v (.int .i64 2),Ft.d (0,0)]):=by
 have h1:=w9 MM 1 (by decide) (by decide);have h2:=eC ⟨#[110]⟩ (by decide);rw [show MM.extract 1 (1 + cW (MM.data.toList.drop 1))=⟨#[110]⟩ by decide +kernel,show 1 + cW (MM.data.toList.drop 1)=2 by decide +kernel] at h1;rw [show aZ ⟨#[110]⟩=true by decide +kernel] at h2;refine eG 28 [.cell 6 176,.tmp 7,.cell 8 44] func240 rfl ntmps240 rfl fun _ _ _ _=>?_;refine cP JO h1 ?_;refine cP yS h2 ?_;exact ⟨_,ax,rfl⟩
theorem SZ:EvP prog 201 [.v (.string MM),.v (.int .i64 0)] (.tup [.agg (ve rf),.v (.int .i64 2),Ft.d (0,0)]):=by
 have h:=OY;have hb:bm MM 0=46:=by decide +kernel
 refine eG 46 [.cell 4 176,.tmp 5,.cell 6 44] func201 rfl ntmps201 rfl fun _ _ _ _=>?_;refine ⟨⟨by decide,by decide⟩,?_⟩;refine cP Vt h ?_;exact ⟨_,ax,rfl⟩
abbrev np:List DV:=[.v (.int .i64 0),.v (.int .i64 0)]
abbrev OZ (l:List fc) (q:Nat) (e:Int):St:=⟨[(0,⟨[],.v (.string MM)⟩),aF 3 0,(4,⟨[],.sl 3 (eK l) (some 0)⟩),aF 5 1,aw 6 e],[np,np],[⟨q,176,3,none⟩]⟩
theorem O0:EvP prog 163 [.v (.string MM)] (.tup [.sl 3 (eK [rf]) none,Ft.d (0,0)]):=by
 have h:=SZ;refine eG 41 [.tmp 2,.cell 3 44] func163 rfl ntmps163 rfl fun _ _ _ _=>?_;refine aY (fun j st=>(st=OZ [] 0 0/\j=1)∨(st=OZ [rf] 1 2/\j=0)) 1 (OZ [] 0 0) (dA 2 ⟨0,176,3,none⟩ rfl rfl rfl nY rfl rfl jX) (.inl ⟨rfl,rfl⟩) ?_;rintro j st (⟨rfl,rfl⟩ | ⟨rfl,rfl⟩)
 ·refine cP Vj h ?_;refine ⟨rfl,⟨by simp [maxLen,eK],by simp [eK]⟩,?_⟩;exact ⟨OZ [rf] 1 2,(wkB 2 nY jX),0,by omega,.inr ⟨rfl,rfl⟩⟩
 ·refine dS ?_;exact ⟨_,ax,rfl⟩
end Go.Proofs.YtphonmiflfhdbaaGreat
set_option maxRecDepth 100000
namespace Go.Proofs
open Go.Shelf
def Tryz.lays217_ren:Go.Shelf.Ren:=⟨fun | 217=>202 | 266=>242 | n=>n,fun | 9=>9 | 3=>3 | 5=>5 | n=>n,fun | n=>n⟩
theorem Tryz.lays217:Go.Proofs.Lays.n217 prog Tryz.lays217_ren:={
 mixed:=by kernel_rfl
 f217:=func202.trans (congrArg some (by kernel_rfl))
 f266:=func242.trans (congrArg some (by kernel_rfl))
 t3:=Tryz.underlying3
 a3:=Tryz.isAgg3
 z3:=Tryz.sizeOf3
 v3:=Tryz.zeroValue3
 t5:=Tryz.underlying5
 a5:=Tryz.isAgg5
 z5:=Tryz.sizeOf5
 v5:=Tryz.zeroValue5
 t9:=Tryz.underlying9
 a9:=Tryz.isAgg9
 z9:=Tryz.sizeOf9
 v9:=Tryz.zeroValue9 }
end Go.Proofs
namespace Go.Proofs.YtphonmiflfhdbaaGreat
open Go Go.RowKit Dv Go.Proofs.Tryz
theorem Iw (s:ByteArray) (c:Int):EvP prog 202 [.v (.string s),.v (.int .u8 c)] (.v (.int .i64 (Lib.indexByte (tx s) c.toNat.toUInt8))):=by
 refine Hg fun E w vs hE hv=>?_;simp only [RvL] at hv;obtain ⟨v1,s1,rfl,h1,v2,s2,rfl,h2,rfl⟩:=hv;have h1:=bK h1;have h2:=bK h2;subst h1 h2;refine (Any.stringslite_IndexByte Tryz.lays217 s c w).mono ?_;rintro e w' ⟨rfl,rfl⟩;exact ⟨_,rfl,eS rfl,Below.refl _ _⟩
theorem Mq (s:ByteArray) (c:Int):EvP prog 164 [.v (.string s),.v (.int .u8 c)] (.v (.int .i64 (Lib.indexByte (tx s) c.toNat.toUInt8))):=by
 refine eG 8 [.tmp 4] func164 rfl ntmps164 rfl fun _ _ _ _=>?_;refine cP Vk (Iw s c) ?_;exact (rfl:_=_)
def Mr (s p:ByteArray):Bool:=decide (p.size<=s.size) && decide (s.extract 0 p.size=p)
theorem Fb (s p:ByteArray) (hs:s.size<=4611686018427387904):EvP prog 112 [.v (.string s),.v (.string p)] (.v (.bool (Mr s p))):=by
 refine eG 18 [.tmp 4] func112 rfl ntmps112 rfl fun _ _ _ _=>?_;refine br ?_ ?_<;>intro g
 ·have g1:p.size<=s.size:=sU g;refine ⟨⟨by omega,by omega,by omega⟩,?_⟩;refine congrArg (fun z=>DV.v (Value.bool z)) ?_;unfold Mr;rw [decide_eq_true g1,Bool.true_and];rfl
 ·have g1:¬ p.size<=s.size:=sU g;refine congrArg (fun z=>DV.v (Value.bool z)) ?_;unfold Mr;rw [decide_eq_false g1,Bool.false_and]
theorem Ix (s p:ByteArray) (hs:s.size<=4611686018427387904):EvP prog 59 [.v (.string s),.v (.string p)] (.v (.bool (Mr s p))):=by
 refine eG 8 [.tmp 4] func59 rfl ntmps59 rfl fun _ _ _ _=>?_;refine cP UQ (Fb s p hs) ?_;exact (rfl:_=_)
end Go.Proofs.YtphonmiflfhdbaaGreat
set_option maxRecDepth 100000
namespace Go.Proofs.YtphonmiflfhdbaaGreat
open Go Go.RowKit Dv Go.Proofs.Tryz
abbrev nO (s:ByteArray) (aK:Nat):List DV:=[.v (.string s),.v (.int .i64 aK),.v (.int .i64 0),.v (.int .i64 0)]
theorem yw (s:ByteArray) (aK:Nat) (z:Int):Ev prog 57 [.loc 1 0,.v (.int .i64 0),.v (.int .i64 z)] [np,nO s aK] [] (fun r os tk=>r = .tup []/\os=[np,nO s aK]/\tk=[]):=by
 refine eG 22 [] func57 rfl ntmps57 rfl fun _ _ _ _=>?_;exact ⟨.tup [],[np,nO s aK],fU,fU,rfl,rfl,rfl⟩
theorem kJ (s some:ByteArray) (aK:Nat) (hs:s.size<=1099511627776) (h:aK < s.size) (k:Nat) (hk:Lib.indexByte (tx some) ((bm s aK:Nat):Int).toNat.toUInt8=k) :
  Ev prog 110 [.loc 1 0,.v (.string some)] [np,nO s aK] [] (fun r os tk=>r = .v (.int .i64 k)/\os=[np,nO s (aK + 1)]/\tk=[]):=by
 have hi:=Mq some (bm s (aK:Int).toNat:Nat);rw [show bm s (aK:Int).toNat=bm s aK from rfl,hk] at hi
 have hw:IntKind.i64.wrap ((aK:Int) + 1)=((aK + 1:Nat):Int):=by
  rw [wrap64 (by omega) (by omega)];omega
 have hX:=congrArg (fun z=>DV.v (Value.int .i64 z)) hw;refine eG 50 [.tmp 4] func110 rfl ntmps110 rfl fun _ _ _ _=>?_;refine dI ?_;refine br (fun g=>absurd (of_decide_eq_true g) (by omega)) (fun _=>?_);refine dI ?_;refine ⟨⟨by omega,by omega⟩,?_⟩;refine cD U7 hi ?_;exact ⟨.v (.int .i64 k),[np,nO s (aK + 1)],(by repeat' (first | exact rfl | exact trivial | exact Or.inr (Or.inl ⟨_,rfl⟩) | exact Or.inr ⟨_,rfl⟩ | exact Or.inl ⟨rfl,rfl⟩ | exact Or.inl rfl | refine Or.inr ⟨_,_,rfl,Nat.zero_le _,rfl,?_⟩ | refine ⟨_,_,rfl,?_,?_⟩ | refine ⟨_,rfl,?_⟩ | exact hX | exact ⟨nL rfl,rfl⟩ | refine Or.inr (Or.inr (Or.inr ⟨_,_,rfl,?_⟩)) | exact Or.inl rfl | refine Or.inr ?_)),(by repeat' (first | exact rfl | exact trivial | exact Or.inr (Or.inl ⟨_,rfl⟩) | exact Or.inr ⟨_,rfl⟩ | exact Or.inl ⟨rfl,rfl⟩ | exact Or.inl rfl | refine Or.inr ⟨_,_,rfl,Nat.zero_le _,rfl,?_⟩ | refine ⟨_,_,rfl,?_,?_⟩ | refine ⟨_,rfl,?_⟩ | exact hX | exact ⟨nL rfl,rfl⟩ | refine Or.inr (Or.inr (Or.inr ⟨_,_,rfl,?_⟩)) | exact Or.inl rfl | refine Or.inr ?_)),rfl,rfl,rfl⟩
abbrev rpSt (s:ByteArray) (a e:Nat):St:=⟨[aF 0 1,aw 3 a],[np,nO s e],[]⟩
theorem CE (s:ByteArray) (hs:s.size<=1099511627776) (a:Nat) (h:a + 2 < s.size) (b0:bm s a≠32) (b1:bm s (a + 1)≠32) (b2:bm s (a + 2)=32) (hx:s.extract a (a + 2)=MM) :
  Ev prog 109 [.loc 1 0] [np,nO s a] [] (fun r os tk=>r = .sl 3 (eK [rf]) none/\os=[np,nO s (a + 2)]/\tk=[]):=by
 have hp:=O0;rw [<- hx] at hp;refine eG 87 [.tmp 2] func109 rfl ntmps109 rfl fun _ _ _ _=>?_;refine dI ?_;refine br (fun g=>absurd (of_decide_eq_true g) (by omega)) (fun _=>?_);refine lJ (fun e=>rpSt s a (a + e)) 2 (wkB 2 nY jX) ?_;intro e he;have ay:a + e < s.size:=by omega
 have hw:IntKind.i64.wrap (((a + e:Nat):Int) + 1)=((a + (e + 1):Nat):Int):=by
  rw [wrap64 (by omega) (by omega)];omega
 refine dI ?_;refine br (fun _=>?_) (fun g=>absurd (show ((a + e:Nat):Int) < s.size by omega) (sU g));refine ⟨⟨by omega,by omega⟩,?_⟩;refine br ?_ ?_<;>intro g
 ·have he2:e < 2:=by
   rcases Nat.lt_or_ge e 2 with h | h
   ·exact h
   ·exfalso;obtain rfl:e=2:=by omega
    have g:¬ ((bm s ((a + 2:Nat):Int).toNat:Nat):Int)=32:=by simpa [pickB] using g
    rw [jV,b2] at g;exact g rfl
  exact rE ⟨_,by omega,e + 1,rfl,by omega,rfl⟩ (wkB 2 (nz hw) (cQ hw))
 ·have g:((bm s ((a + e:Nat):Int).toNat:Nat):Int)=32:=by simpa [pickB] using g
  rw [jV] at g
  obtain rfl:e=2:=by
   have:e=0∨e=1∨e=2:=by omega
   rcases this with rfl | rfl | rfl
   ·exact absurd (show bm s a=32 by rw [Nat.add_zero] at g;omega) b0
   ·exact absurd (show bm s (a + 1)=32 by omega) b1
   ·rfl
  have HH:=yw s (a + 2);refine dI ?_;refine ⟨⟨by omega,by omega,by omega⟩,?_⟩;refine br (fun g=>?_) (fun _=>?_)
  ·exfalso;have g:s.extract a (a + 2)=⟨#[]⟩:=of_decide_eq_true g;rw [hx] at g;exact absurd g (by decide)
  refine br (fun g=>?_) (fun _=>?_)
  ·exfalso;have g:s.extract a (a + 2)=⟨#[46]⟩:=of_decide_eq_true g;rw [hx] at g;exact absurd g (by decide)
  refine cP U6 hp ?_;refine cX 2 0 Ux rfl rfl rfl fU fU (HH _) (fun r iA cr hΦ _ _=>?_);obtain ⟨rfl,rfl,rfl⟩:=hΦ;exact ⟨.sl 3 (eK [rf]) none,[np,nO s (a + 2)],fU,fU,rfl,rfl,rfl⟩
theorem GG (s:ByteArray) (hs:s.size<=1099511627776) (a:Nat) (h:a < s.size) (hd:48<=bm s a/\bm s a<=57) (V:Int) (E:Nat) (hT:EvP prog 166 [.v (.string s),.v (.int .i64 a)] (.tup [.v (.int .i64 V),.v (.int .i64 E),Ft.d (0,0)])) :
  Ev prog 111 [.loc 1 0] [np,nO s a] [] (fun r os tk=>r = .agg (dRw (.mk 2 0 V au [] []))/\os=[np,nO s E]/\tk=[]):=by
 have HH:=yw s a 0;refine eG 125 [.cell 2 56] func111 rfl ntmps111 rfl fun _ _ _ _=>?_;refine dI ?_;refine br (fun g=>absurd (of_decide_eq_true g) (by omega)) (fun _=>?_);refine dI ?_;refine ⟨⟨by omega,by omega⟩,?_⟩;refine br (fun g=>?_) (fun _=>?_)
 ·exfalso;have g:((bm s (a:Int).toNat:Nat):Int)=34:=of_decide_eq_true g;rw [jV] at g;omega
 refine br (fun _=>?_) (fun g=>?_)
 rotate_left
 ·exfalso;simp [aq,ah] at g;omega
 refine dS ?_;refine cD U8 hT ?_;refine cX 2 0 Ux rfl rfl rfl fU fU HH (fun r iA cr hΦ h1 h2=>?_);obtain ⟨rfl,rfl,rfl⟩:=hΦ;exact ⟨.agg (dRw (.mk 2 0 V au [] [])),[np,nO s E],(by repeat' (first | exact rfl | exact trivial | exact Or.inr (Or.inl ⟨_,rfl⟩) | exact Or.inr ⟨_,rfl⟩ | exact Or.inl ⟨rfl,rfl⟩ | exact Or.inl rfl | refine Or.inr ⟨_,_,rfl,Nat.zero_le _,rfl,?_⟩ | refine ⟨_,_,rfl,?_,?_⟩ | refine ⟨_,rfl,?_⟩ | exact ⟨nL rfl,rfl⟩ | exact exact .inr (.inl ⟨none,rfl⟩) | refine Or.inr (Or.inr (Or.inr ⟨_,_,rfl,?_⟩)) | exact Or.inl rfl | refine Or.inr ?_)),fU,rfl,rfl,rfl⟩
abbrev XW:Wd:=⟨⟨#[108,111,119]⟩,0⟩
abbrev Ms:Wd:=⟨⟨#[104,105,103,104]⟩,0⟩
def iv:Sch:=⟨[XW,Ms],[(XW,Ms)],[],.mk ⟨7,0,0,0,0,[],⟨au,0⟩⟩ (.cons ⟨⟨⟨#[110]⟩,0⟩,false,[Ms],0,1,10,0,[]⟩ (.mk ⟨2,0,0,99,0,[],⟨au,0⟩⟩ .nil) .nil)⟩
def GH:Val:=.mk 7 0 au [.mk 2 7 au []]
def r6:Val:=.mk 7 0 au [.mk 10 0 au []]
def iw (n:Int):fB:=⟨[⟨1,0,⟨#[110]⟩⟩],2,.mk 2 0 n au [] []⟩
theorem Iy:(j5 iv).1=0:=by decide +kernel
theorem yx:dW iv=(0:Nat):=by decide +kernel
theorem Mt:0 < (aM iv).length:=by decide +kernel
theorem O1:jG (aM iv) (aN iv) iv.ae.length 0 0 r6 (iw 10)=1:=by decide +kernel
theorem O2:jG (aM iv) (aN iv) iv.ae.length 0 0 r6 (iw 5)=2:=by decide +kernel
theorem Mu:allQ (jG (aM iv) (aN iv) iv.ae.length 0 0 r6) [iw 10,iw 5] 1=2:=by decide +kernel
theorem Iz:pP (aM iv) (aN iv) iv.ae.length 0 0 GH=some r6:=by rfl
abbrev CF:ByteArray:=⟨#[32]⟩
abbrev O3:ByteArray:=⟨#[61,60,62,35]⟩
abbrev mkL9:List (List DV):=[[.v (.string CF)],[.v (.string O3)],[.v (.string CF)]]
abbrev zC9:List DV:=[.v (.slice none 0 0),.v (.int .i64 0),.v (.int .i64 0),.v (.int .i64 0),.v (.int .i64 0),.v (.string au),.v (.slice none 0 0),.v (.slice none 0 0)]
abbrev cC9 (op:Int):List DV:=[.sl 3 (eK [rf]) none,.v (.int .i64 op),.v (.int .i64 0),.v (.int .i64 0),.v (.int .i64 0),.v (.string au),.v (.slice none 0 0),.v (.slice none 0 0)]
abbrev CG (s:ByteArray) (a:Nat) (op:Int) (e:Nat):St:=⟨[aF 0 1,aF 2 2,aF 3 3,bc 10 1 mkL9,aw 11 3,aw 12 e],[np,nO s (a + e),zC9,cC9 op],[]⟩
theorem CH (s:ByteArray) (a:Nat) (V:Int) (E:Nat)
  (hp:Ev prog 109 [.loc 1 0] [np,nO s a] [] (fun r os tk=>r = .sl 3 (eK [rf]) none/\os=[np,nO s (a + 2)]/\tk=[]))
  (h1:Ev prog 110 [.loc 1 0,.v (.string CF)] [np,nO s (a + 2)] [] (fun r os tk=>r = .v (.int .i64 (0:Nat))/\os=[np,nO s (a + 2 + 1)]/\tk=[]))
  (h2:Ev prog 110 [.loc 1 0,.v (.string O3)] [np,nO s (a + 3)] [] (fun r os tk=>r = .v (.int .i64 (1:Nat))/\os=[np,nO s (a + 3 + 1)]/\tk=[]))
  (h3:Ev prog 110 [.loc 1 0,.v (.string CF)] [np,nO s (a + 4)] [] (fun r os tk=>r = .v (.int .i64 (0:Nat))/\os=[np,nO s (a + 4 + 1)]/\tk=[]))
  (hl:Ev prog 111 [.loc 1 0] [np,nO s (a + 5)] [] (fun r os tk=>r = .agg (dRw (.mk 2 0 V au [] []))/\os=[np,nO s E]/\tk=[])) :
  Ev prog 58 [.loc 1 0] [np,nO s a] [] (fun r os tk=>r = .agg (jI ⟨[rf],2,.mk 2 0 V au [] []⟩)/\os=[np,nO s E]/\tk=[]):=by
 refine eG 42 [.cell 2 60] func58 rfl ntmps58 rfl fun _ _ _ _=>?_;refine cX 2 0 UO rfl rfl rfl fU fU hp (fun r iA cr hΦ _ _=>?_);obtain ⟨rfl,rfl,rfl⟩:=hΦ;refine aY (fun j st=>(st=CG s (a + 2) 0 0/\j=3)∨(st=CG s (a + 2) 0 1/\j=2)∨(st=CG s (a + 2) 2 2/\j=1)∨(st=CG s (a + 2) 2 3/\j=0)) 3 (CG s (a + 2) 0 0) (wkB 4 nY jX) (.inl ⟨rfl,rfl⟩) ?_;rintro j st (⟨rfl,rfl⟩ | ⟨rfl,rfl⟩ | ⟨rfl,rfl⟩ | ⟨rfl,rfl⟩)
 ·refine ⟨_,⟨by decide,rfl⟩,?_⟩;refine cX 2 0 JK rfl rfl rfl fU fU h1 (fun r iA cr hΦ _ _=>?_);obtain ⟨rfl,rfl,rfl⟩:=hΦ;exact ⟨CG s (a + 2) 0 1,(wkB 4 nY jX),2,by omega,.inr (.inl ⟨rfl,rfl⟩)⟩
 ·refine ⟨_,⟨by decide,rfl⟩,?_⟩;refine cX 2 0 JK rfl rfl rfl fU fU h2 (fun r iA cr hΦ _ _=>?_);obtain ⟨rfl,rfl,rfl⟩:=hΦ;exact ⟨CG s (a + 2) 2 2,(wkB 4 nY jX),1,by omega,.inr (.inr (.inl ⟨rfl,rfl⟩))⟩
 ·refine ⟨_,⟨by decide,rfl⟩,?_⟩;refine cX 2 0 JK rfl rfl rfl fU fU h3 (fun r iA cr hΦ _ _=>?_);obtain ⟨rfl,rfl,rfl⟩:=hΦ;exact ⟨CG s (a + 2) 2 3,(wkB 4 nY jX),0,by omega,.inr (.inr (.inr ⟨rfl,rfl⟩))⟩
 ·refine cX 2 0 UP rfl rfl rfl fU fU hl (fun r iA cr hΦ _ _=>?_);obtain ⟨rfl,rfl,rfl⟩:=hΦ;exact ⟨.agg (jI ⟨[rf],2,.mk 2 0 V au [] []⟩),[np,nO s E],fU,fU,rfl,rfl,rfl⟩
abbrev mO:ByteArray:=⟨#[46,110,32,60,32,49,48,32,38,32,46,110,32,60,32,53]⟩
theorem S0:EvP prog 166 [.v (.string mO),.v (.int .i64 (5:Nat))] (.tup [.v (.int .i64 10),.v (.int .i64 (7:Nat)),Ft.d (0,0)]):=by
 have h:=CD mO (by decide) 5 (by decide) 49 (by decide +kernel) (by decide) (fun h=>absurd h (by decide)) (by decide +kernel);rw [show fu ((mO.data.toList.drop 5).take (digN (mO.data.toList.drop 5)))=10 by decide +kernel,show 5 + digN (mO.data.toList.drop 5)=7 by decide +kernel] at h;exact h
theorem S1:EvP prog 166 [.v (.string mO),.v (.int .i64 (15:Nat))] (.tup [.v (.int .i64 5),.v (.int .i64 (16:Nat)),Ft.d (0,0)]):=by
 have h:=CD mO (by decide) 15 (by decide) 53 (by decide +kernel) (by decide) (fun h=>absurd h (by decide)) (by decide +kernel);rw [show fu ((mO.data.toList.drop 15).take (digN (mO.data.toList.drop 15)))=5 by decide +kernel,show 15 + digN (mO.data.toList.drop 15)=16 by decide +kernel] at h;exact h
theorem S2:Ev prog 58 [.loc 1 0] [np,nO mO 0] [] (fun r os tk=>r = .agg (jI ⟨[rf],2,.mk 2 0 10 au [] []⟩)/\os=[np,nO mO 7]/\tk=[]):=
 CH mO 0 10 7 (CE mO (by decide) 0 (by decide) (by decide +kernel) (by decide +kernel) (by decide +kernel) (by decide +kernel))
  (kJ mO CF 2 (by decide) (by decide) 0 (by decide +kernel)) (kJ mO O3 3 (by decide) (by decide) 1 (by decide +kernel)) (kJ mO CF 4 (by decide) (by decide) 0 (by decide +kernel))
  (GG mO (by decide) 5 (by decide) (by decide +kernel) 10 7 S0)
theorem S3:Ev prog 58 [.loc 1 0] [np,nO mO 10] [] (fun r os tk=>r = .agg (jI ⟨[rf],2,.mk 2 0 5 au [] []⟩)/\os=[np,nO mO 16]/\tk=[]):=
 CH mO 10 5 16 (CE mO (by decide) 10 (by decide) (by decide +kernel) (by decide +kernel) (by decide +kernel) (by decide +kernel))
  (kJ mO CF 12 (by decide) (by decide) 0 (by decide +kernel)) (kJ mO O3 13 (by decide) (by decide) 1 (by decide +kernel)) (kJ mO CF 14 (by decide) (by decide) 0 (by decide +kernel))
  (GG mO (by decide) 15 (by decide) (by decide +kernel) 5 16 S1)
theorem XX:EvP prog 59 [.v (.string (mO.extract (7:Int).toNat (mO.size:Int).toNat)),.v (.string ⟨#[32,38,32]⟩)] (.v (.bool true)):=by
 have h:=Ix (mO.extract (7:Int).toNat (mO.size:Int).toNat) ⟨#[32,38,32]⟩ (by decide +kernel);rw [show Mr (mO.extract (7:Int).toNat (mO.size:Int).toNat) ⟨#[32,38,32]⟩=true by decide +kernel] at h;exact h
abbrev IA (l:List fB) (q aK:Nat) (m:Bool):St:=⟨[(0,⟨[],.v (.string mO)⟩),aF 3 0,(4,⟨[],.sl 8 (fT l) (some 0)⟩),aF 5 1,yN 6 m],[np,nO mO aK],[⟨q,60,8,none⟩]⟩
theorem Fc:EvP prog 24 [.v (.string mO)] (.tup [.sl 8 (fT [iw 10,iw 5]) none,Ft.d (0,0)]):=by
 have ha:=S2;have hb:=S3;have hp:=XX;refine eG 81 [.tmp 2,.cell 3 44] func24 rfl ntmps24 rfl fun _ _ _ _=>?_;refine aY (fun j st=>(st=IA [] 0 0 true/\j=2)∨(st=IA [iw 10] 1 10 true/\j=1)∨(st=IA [iw 10,iw 5] 2 16 false/\j=0)) 2 (IA [] 0 0 true) (dA 2 ⟨0,60,8,none⟩ rfl rfl rfl nY rfl rfl jX) (.inl ⟨rfl,rfl⟩) ?_;rintro j st (⟨rfl,rfl⟩ | ⟨rfl,rfl⟩ | ⟨rfl,rfl⟩)
 ·refine cX 2 0 Uy rfl rfl rfl fU fU ha (fun r iA cr hΦ _ _=>?_);obtain ⟨rfl,rfl,rfl⟩:=hΦ;refine ⟨rfl,⟨by simp [maxLen,fT],by simp [fT]⟩,?_⟩;refine ⟨⟨by decide,by decide,by decide⟩,?_⟩;refine cP ZN hp ?_;exact ⟨IA [iw 10] 1 10 true,(wkB 2 nY jX),1,by omega,.inr (.inl ⟨rfl,rfl⟩)⟩
 ·refine cX 2 0 Uy rfl rfl rfl fU fU hb (fun r iA cr hΦ _ _=>?_);obtain ⟨rfl,rfl,rfl⟩:=hΦ;refine ⟨rfl,⟨by simp [maxLen,fT],by simp [fT]⟩,?_⟩;exact ⟨IA [iw 10,iw 5] 2 16 false,(wkB 2 nY jX),0,by omega,.inr (.inr ⟨rfl,rfl⟩)⟩
 ·refine dS ?_;exact ⟨_,ax,rfl⟩
theorem vQ:EvP prog 23 [] (.agg (dQ iv)):=by
 refine eG 23 [.cell 0 31] func23 rfl ntmps23 rfl fun _ _ _ _=>?_;exact ⟨_,(by repeat' (first | exact rfl | exact trivial | exact Or.inr (Or.inl ⟨_,rfl⟩) | exact Or.inr ⟨_,rfl⟩ | exact Or.inl ⟨rfl,rfl⟩ | exact Or.inl rfl | refine Or.inr ⟨_,_,rfl,Nat.zero_le _,rfl,?_⟩ | refine ⟨_,_,rfl,?_,?_⟩ | refine ⟨_,rfl,?_⟩ | exact exact .inr (.inl ⟨none,rfl⟩) | refine Or.inr (Or.inr (Or.inr ⟨_,_,rfl,?_⟩)) | exact Or.inl rfl | refine Or.inr ?_)),rfl⟩
theorem Aa:EvP prog 7 [] (.v (.bool true)):=by
 have A5:iv.wt<=1099511627776:=by decide +kernel
 have hb:=(uN iv A5).mono (Ψ:=fun r _ _=>Ey iv r) fun _ _ _ h=>x7 A5 h;have hex:=vQ;have hpa:=Fc;refine eG 60 [.tmp 0] func7 rfl ntmps7 rfl fun _ _ _ _=>?_;refine cP ZE hex ?_;refine cp en8 rfl hb ax (fun r hr=>?_);rcases hr with ⟨hr,_⟩ | ⟨_,PC,hP,rfl⟩
 ·exact (hr Iy).elim
 obtain ⟨LC,iu,hR⟩:=hP.Ox;have XY:∀ n∈aM iv,zP n:=fun n hn=>vu (S:=iv) (by simp [iv,Ko,rngT,rngP,nB]) hn;have bY:∀ n∈aM iv,n.aC.length<=1099511627776:=fun n hn=>(kz hn A5).2;have ML:=rT hP iu hR XY bY 0 yx 0 GH (by decide +kernel) (by simp [GH,rngW,rngWs,nB]);rw [show pP (aM iv) (aN iv) iv.ae.length 0 0 GH=some r6 from Iz] at ML
 have bL:∀ n:Int,GA (iw n):=fun n=>Cz (by
  simp [iw,Ai,wtStp]
  decide)
 have he:=fun n=>rY hP iu hR XY bY 0 yx Mt 0 (iw n) (bL n) r6 (by decide +kernel) (by simp [r6,rngW,rngWs,nB]);have h1:=he 10;have h2:=he 5
 have hA:=E8 PC 0 r6 [iw 10,iw 5] (by decide) _ (fun c hc=>by
  rcases cg hc with rfl | hc
  ·exact he 10
  ·rcases cg hc with rfl | hc
   ·exact he 5
   ·cases hc)
 rw [Mu] at hA;rw [O1] at h1;rw [O2] at h2;refine cP Nl ML ?_;refine cP ZF hpa ?_;refine dI ?_;refine ⟨_,Sd _ _ (0,0) (0,0),?_⟩;refine ⟨_,⟨by decide,rfl⟩,?_⟩;refine cD G3 h1 ?_;refine ⟨_,⟨by decide,rfl⟩,?_⟩;refine cD G3 h2 ?_;refine cD ZA hA ?_;exact (rfl:_=_)
abbrev sdSt (PC S:List DV) (x:Val) (o:Int) (L:List fB) (X:Val) (e:Nat):St:=
 ⟨[aF 4 1,aF 5 2,nA 7 PC,aF 9 4,aw 11 e],[S,cj x,OV o L,[.v (.int .i64 0),.v (.int .i64 0)],cj X],[]⟩
abbrev XZ (PC S:List DV) (x:Val) (o:Int) (L:List fB) (X:Val) (e:Nat) (n:Int) (k:Nat):St:=
 ⟨[aF 4 1,aF 5 2,nA 7 PC,aF 9 4,aw 11 e,aw 13 n,aw 14 k],[S,cj x,OV o L,[.v (.int .i64 0),.v (.int .i64 0)],cj X],[]⟩
set_option maxHeartbeats 4000000 in
theorem sound40_law (S:Sch) (hS:S.wt<=1099511627776) (Qv:Ko S) (v:Val) (hv:v.wt<=1099511627776) (Ah:rngW v) (o:Int) (L:List fB) (hL:cndW L<=1099511627776) :
  EvP prog 4 [.agg (dQ S),.agg (cj v),.agg (OV o L)] (.v (.bool true)):=by
 have hf:=CA S hS v hv;have ay:=z8 L hL;have hb:=(uN S hS).mono (Ψ:=fun r _ _=>Ey S r) fun _ _ _ h=>x7 hS h;have R0:=Cy L;have dq:=rc L;have NU:=Aa;have key:=fun h0 PC hP=>@Ip S hS Qv h0 PC hP v hv Ah o L hL;obtain ⟨ae,order,types,⟨rh,rp⟩⟩:=S;obtain ⟨vk,vn,vs,vks⟩:=v;refine eG 122 [.tmp 6] func4 rfl ntmps4 rfl fun _ _ _ _=>?_;refine cp en5 rfl hf ax (fun r hr=>?_);obtain ⟨b,rfl,h0⟩:=hr
 cases b with
 | false=>
  refine cP Yb NU ?_;exact (rfl:_=_)
 | true=>
  have hF:=h0 rfl;have h0:=hF.De;refine cp en6 rfl ay ax (fun r hr=>?_);obtain ⟨b,rfl,hLi⟩:=hr
  cases b with
  | false=>
   refine cP Yb NU ?_;exact (rfl:_=_)
  | true=>
   refine cp en8 rfl hb ax (fun r hr=>?_);rcases hr with ⟨hr,_⟩ | ⟨_,PC,hP,rfl⟩
   ·exact (hr h0).elim
   obtain ⟨LC,root,top,n,iu,hR,hn,zT,RF⟩:=key hF PC hP;have hlen:=hR.len;have Er:=hR.leq;have hn32:=hR.n32;clear key hf ay hb hP hF h0 hR;rcases RF with ML | ⟨ob,X,A,N,Y,M,rfl,TD,ML,hA,hN,hM⟩
   ·refine cP Nl ML ?_;refine cP Yb NU ?_;exact (rfl:_=_)
   have ay:∀ k:Nat,zI (aN ⟨ae,order,types,.mk rh rp⟩) n k ob=true->k < n/\aN ⟨ae,order,types,.mk rh rp⟩ k ob=true:=fun k h=>by
    have:=OP h;refine ⟨by omega,?_⟩;have h5:=this.2.2.2.2
    rwa [jV,jV] at h5
   generalize aN ⟨ae,order,types,.mk rh rp⟩=lf at ay Er hM;obtain ⟨Xk,Xn,Xs,Xks⟩:=X;refine cP Nl ML ?_;refine lJ (fun e=>sdSt PC (dQ ⟨ae,order,types,.mk rh rp⟩) (.mk vk vn vs vks) ob L (.mk Xk Xn Xs Xks) e) L.length (wkB 5 nY jX) ?_;intro e he;refine br ?_ ?_<;>intro HA
   rotate_left
   ·refine cP Yb NU ?_;exact (rfl:_=_)
   have S4:e < L.length:=sV dq HA;obtain ⟨c,hc⟩:=gX S4;have hm:=mG hc;obtain ⟨hA1,hA2⟩:=hA c hm;obtain ⟨hN1,hN2⟩:=hN c hm;have hM:=fun k hk eM=>And.intro (hM k hk eM).1 ((hM k hk eM).2 c hm);have XS:=re hc;have hi:(0:Int)<=e/\(fT L)[((e:Nat):Int).toNat]? = some (jI c):=⟨by omega,XS⟩;generalize A c=av at hA1 hA2 hN2;generalize N c=nv at hN1 hN2 hM;clear hA hN;obtain ⟨p,op,rk,ra,rn,rs,bz,iH⟩:=c;refine dI ?_;refine cD Di iu ?_;refine cD ZB zT ?_;refine ⟨_,hi,?_⟩;refine cD G3 hA1 ?_;refine dI ?_;refine ⟨_,hi,?_⟩;refine cD G3 hN1 ?_;refine br (fun g=>?_) (fun _=>?_)
   ·exfalso;have g:av=2∨(¬ nv=2/\¬ nv=av):=by simpa [aq,ah] using g
    omega
   refine lJ (fun k=>XZ PC (dQ ⟨ae,order,types,.mk rh rp⟩) (.mk vk vn vs vks) ob L (.mk Xk Xn Xs Xks) e nv k) n (wkB 5 nY jX) ?_;intro k hk;refine cP Di iu ?_;refine cP Dj hlen ?_;refine br ?_ ?_<;>intro hKt
   rotate_left
   ·exact rE ⟨_,by omega,e + 1,rfl,by omega,rfl⟩ (wkB 5 (nz (nxt S4 (by omega))) (cQ (nxt S4 (by omega))))
   have CK:k < n:=by
    have:(k:Int) < n:=of_decide_eq_true hKt;omega
   have hq:=Er k ob
   cases hqv:zI lf n k ob with
   | false=>
    rw [hqv] at hq;refine dI ?_;refine cD Di iu ?_;refine cD Rf hq ?_;exact rE ⟨_,by omega,k + 1,rfl,by omega,rfl⟩ (wkB 5 (nz (nxt CK (by omega))) (cQ (nxt CK (by omega))))
   | true=>
    rw [hqv] at hq;obtain ⟨g1,g2⟩:=ay k hqv;obtain ⟨hY,hM1,hM2⟩:=hM k g1 g2;generalize Y k=Yk at hY hM1;generalize M k _=mv at hM1 hM2;obtain ⟨Yk',Yn,Ys,Yks⟩:=Yk;refine dI ?_;refine cD Di iu ?_;refine cD Rf hq ?_;refine cP Nl hY ?_;refine dI ?_;refine ⟨_,hi,?_⟩;refine cD G3 hM1 ?_;refine br (fun g=>?_) (fun _=>?_)
    ·exfalso;have g:¬ mv=2/\¬ mv=nv:=by simpa [aq,ah] using g
     omega
    exact rE ⟨_,by omega,k + 1,rfl,by omega,rfl⟩ (wkB 5 (nz (nxt CK (by omega))) (cQ (nxt CK (by omega))))
end Go.Proofs.YtphonmiflfhdbaaGreat
