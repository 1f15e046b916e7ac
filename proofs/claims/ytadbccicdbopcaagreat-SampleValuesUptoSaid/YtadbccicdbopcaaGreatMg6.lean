/- Part 6 of the proof: The program's nodes, least depths; The document's least depths; fine; the chapter's example; The program's Depths; The law of least depths: fine, the example, the call returns true; The program's several, Several; The document's count, Many; the law of several values: the call returns true; The document's Many; the law of several values: the call returns true; First and second values: tags, sizes: plain; Regions that draw their order and only read: run with one state; Sample: the program's tags and sizes; Sample: the program's turn, part, first, changed; Values, plain; how many are in one, how deep they lie; First and second values: the tables, the values: plain; Sample: the program's first, changed, second; First and second values, the document's: cut, depth, sum, tag; Sample: the program's second; First and second values, the document's: size, field, other; A region that draws its order, in which a new object may come at any time among calls: its run with the object made at each of these times serves every order; A region that draws its order, run by a schedule: at each point all that may come and has an effect is tried; Regions that draw their order, in which two new objects may come in either order; Sample: make1: all sizes; Regions that draw their order, in which several new objects may come in any order. No condition. -/
import Derived.Test.YtadbccicdbopcaaGreatMg2
import Derived.Test.YtadbccicdbopcaaGreatMg3
import Derived.Test.YtadbccicdbopcaaGreatMg4
import Derived.Test.YtadbccicdbopcaaGreatMg5
set_option linter.all false
set_option maxRecDepth 100000
namespace Go.Proofs.YtadbccicdbopcaaGreat
open Go Go.RowKit Dv Tryz
def cN (l:List Nat):List DV:=l.map fun (z:Nat)=>DV.v (.int .i64 (z:Int))
theorem cN_len (l:List Nat):(cN l).length=l.length:=by simp [cN]
theorem cN_get {l:List Nat} {i z:Nat} (h:l[i]? = some z):(cN l)[i]? = some (DV.v (.int .i64 (z:Int))):=by simp [cN,h]
theorem cN_set (l:List Nat) (i z:Nat):(cN l).set i (DV.v (.int .i64 (z:Int)))=cN (l.set i z):=by simp [cN,List.map_set]
theorem dInts_flat (l:List Nat):(dInts l).flatten=cN l:=by
 induction l with
 | nil=>rfl
 | cons b r ih=>simp only [dInts,cN,List.map_cons,List.flatten_cons] at ih ⊢;rw [ih];all_goals rfl
theorem repN (n:Nat):(List.replicate n (vL [Value.int .i64 0])).flatten=cN (List.replicate n 0):=by
 induction n with
 | zero=>rfl
 | succ n ih=>simp only [List.replicate_succ,List.flatten_cons,ih];rfl
theorem weL_cN {n m:Nat} {tk:List TkE} {l:List DV} {r:List Nat} (h:l=cN r):WeL n m tk l (cN r):=by
 subst h;refine weL_sc _ fun x hx=>?_;obtain ⟨z,_,rfl⟩:=List.mem_map.1 hx;exact ⟨_,rfl⟩
theorem ms_n {bx:List (List DV)} {N n0 m0 n i:Nat} {r:List Nat} (hr:r.length=n) (hN:N<=i) (hb:bx[i]? = some (cN r)):Cc bx N n0 m0 (.sl 1 (dInts r) none) (.ms i 1 0 n n):=by
 simp only [Cc];refine Or.inr (Or.inr (Or.inl ⟨i,0,n,_,by rw [dInts_len,hr],hN,hb,?_,?_,?_⟩))
 ·rw [dInts_flat,List.drop_zero,List.take_of_length_le (by rw [cN_len,dInts_len];omega)]
 ·intro x hx;simp only [dInts,List.mem_map] at hx;obtain ⟨_,_,rfl⟩:=hx;rfl
 ·intro x hx;rw [dInts_flat] at hx;obtain ⟨_,_,rfl⟩:=List.mem_map.1 hx;exact ⟨_,rfl⟩
abbrev ndsSt (PC:List DV) (ND:List Nd) (q e:Nat):St:=
 ⟨[(0,⟨[],.pt PC 0⟩),(3,⟨[],.sl 7 (dNds (ND.take e)) (some 0)⟩),(8,⟨[],.v (.int .i64 ND.length)⟩),(9,⟨[],.v (.int .i64 e)⟩)],[],[⟨q,176,7,none⟩]⟩
theorem dNds_snoc {l:List Nd} {e:Nat} {n:Nd} (h:l[e]? = some n):dNds (l.take e) ++ [dNd n]=dNds (l.take (e + 1)):=by
 rw [List.take_add_one,h];simp [dNds]
theorem nodes19_spec {S:Sch} {ND:List Nd} {PC:List DV} (hP:PlanR S ND PC) :
  EvP Tryz.prog 314 [.pt PC 0] (.sl 7 (dNds ND) none):=by
 have h1:=hP.len;have h2:=hP.node;have hnl:=hP.nl;refine ev_go (P:=Tryz.prog) tt tt_ok 5000 24 [.tmp 2] Tryz.func314 rfl Tryz.ntmps314 rfl (nL rfl) (fun E9 w9 hn9 hm9=>?_);refine call_p en202 (h1) ax rfl ?_;refine loop_i (fun j st=>∃ e:Nat,st=ndsSt PC ND e e/\e<=ND.length/\j=ND.length - e) ND.length (ndsSt PC ND 0 0) (weak_tok ⟨0,176,7,none⟩ rfl ⟨_,rfl⟩ rfl wA rfl rfl wTB) ⟨0,rfl,by omega,by omega⟩ ?_;rintro j st ⟨e,rfl,he,rfl⟩;refine br (fun hL=>?_) (fun hL=>?_)
 ·have hlt:e < ND.length:=by have:=hL;simp at this;exact this
  obtain ⟨n,hn⟩:∃ n,ND[e]? = some n:=⟨_,gE hlt⟩;have hml:(dNds (ND.take e)).length=e:=by rw [dNds_len,List.length_take];omega
  refine call_p en100 (h2 e n hn) ax rfl ?_;refine ⟨hml,⟨by rw [hml];simp [maxLen];omega,by rw [hml];simp;omega⟩,?_⟩;exact ⟨ndsSt PC ND (e + 1) (e + 1),(weak_mk ⟨_,rfl⟩ wA rfl rfl rfl (by repeat' (first | exact trivial | exact we_rfl rfl | exact we_int (nxt hlt (by omega)) | exact we_sl (dNds_snoc hn) rfl | refine ⟨⟨_,rfl,?_⟩,?_⟩))),ND.length - (e + 1),by omega,e + 1,rfl,by omega,rfl⟩
 ·have hge:e=ND.length:=by have:=hL;simp at this;omega
  subst hge;rw [List.take_length];exact ⟨_,ax,rfl⟩
abbrev le7St (K:List Nat) (es:List Ed) (m e:Nat):St:=
 ⟨[(1,⟨[],.sl 1 (dInts K) none⟩),(5,⟨[],.v (.int .i64 m)⟩),(16,⟨[],.sl 10 (dEds es) none⟩),(17,⟨[],.v (.int .i64 (dEds es).length)⟩),(18,⟨[],.v (.int .i64 e)⟩)],[],[]⟩
abbrev le8St (K:List Nat) (es:List Ed) (m e:Nat):St:=
 ⟨[(1,⟨[],.sl 1 (dInts K) none⟩),(8,⟨[],.v (.int .i64 m)⟩),(41,⟨[],.sl 10 (dEds es) none⟩),(42,⟨[],.v (.int .i64 (dEds es).length)⟩),(43,⟨[],.v (.int .i64 e)⟩)],[],[]⟩
theorem least19_spec {L:Nat} {n:Nd} (K:List Nat) (hK:K.length<=1099511627776) (hn:NdOK L K.length n) (hz:∀ z∈K,z<=1099511627776) (hel:n.edges.length<=1099511627776) :
  EvP Tryz.prog 315 [.agg (dNd n),.sl 1 (dInts K) none] (.v (.int .i64 (leastF n K:Nat))):=by
 have hedge:=hn.edge;have hbare:=hn.bare;obtain ⟨kind,at',lo,hi,most,names,es⟩:=n;simp only at hedge hbare hel;refine ev_go (P:=Tryz.prog) tt tt_ok 5000 80 [.tmp 4] Tryz.func315 rfl Tryz.ntmps315 rfl (nL rfl) (fun E9 w9 hn9 hm9=>?_);refine br (fun h7=>?_) (fun h7=>?_)
 ·have h7:kind=7:=by simpa using h7
  have hF:leastF ⟨kind,at',lo,hi,most,names,es⟩ K=leastR K es 0:=by simp [leastF,h7]
  rw [hF];refine loop_i (fun j st=>∃ e m:Nat,st=le7St K es m e/\e<=es.length/\m<=1099511627776/\leastR K es 0=leastR K (es.drop e) m/\j=es.length - e) es.length (le7St K es 0 0) (weak_mk ⟨_,rfl⟩ wA rfl rfl rfl wB) ⟨0,0,rfl,by omega,by omega,rfl,by omega⟩ ?_;rintro j st ⟨e,m,rfl,he,hm,heq,rfl⟩;refine br (fun hL=>?_) (fun hL=>?_)
  ·have hlt:e < es.length:=by have:=hL;simp [dEds_len] at this;exact this
   obtain ⟨x,hx⟩:∃ x,es[e]? = some x:=⟨_,gE hlt⟩;rw [drop_cons hx,leastR] at heq;have hxe:=hedge x (mG hx)
   have hxb:x.bare=false:=by
    cases hb:x.bare
    ·rfl
    ·have:=hbare x (mG hx) hb;omega
   obtain ⟨k,hk,hkl⟩:=hxe.to1 hxb;obtain ⟨z,hz1⟩:∃ z,K[k]? = some z:=⟨_,gE hkl⟩;have hzl:=hz z (mG hz1);have hed:edN K x=z:=by simp [edN,hk,List.getD_eq_getElem?_getD,hz1]
   have hg:(dInts K)[x.to.toNat]? = some [DV.v (.int .i64 (z:Int))]:=by rw [hk];exact dInts_get hz1
   rw [hed] at heq;refine ⟨_,⟨by omega,dEds_get hx⟩,?_⟩;refine ⟨_,⟨by omega,hg⟩,?_⟩;refine br (fun g=>?_) (fun g=>?_)
   ·have g:z=0:=by simpa using g
    rw [heq,if_pos g];exact (rfl:_=_)
   ·have g:¬ z=0:=by simpa using g
    rw [if_neg g] at heq;refine ⟨_,⟨by omega,hg⟩,?_⟩;exact ⟨le7St K es (max m z) (e + 1),(weak_mk ⟨_,rfl⟩ wA rfl rfl rfl (by repeat' (first | exact trivial | exact we_rfl rfl | exact we_int (show max (m:Int) z=((max m z:Nat):Int) by omega) | exact we_int (nxt hlt (by omega)) | refine ⟨⟨_,rfl,?_⟩,?_⟩))),es.length - (e + 1),by omega,e + 1,_,rfl,by omega,by omega,heq,rfl⟩
  ·have hge:e=es.length:=by have:=hL;simp [dEds_len] at this;omega
   subst hge;rw [List.drop_length,leastR] at heq;have hw:IntKind.i64.wrap ((m:Int) + 1)=((m + 1:Nat):Int):=by rw [wrap64 (by omega) (by omega)];omega
   rw [heq];refine (congrArg (fun z=>DV.v (.int .i64 z)) ?_:_=_);exact hw
 have h7:¬ kind=7:=by simpa using h7
 refine br (fun h8=>?_) (fun h8=>?_)
 ·have h8:kind=8:=by simpa using h8
  have hF:leastF ⟨kind,at',lo,hi,most,names,es⟩ K=leastU K es 0:=by simp [leastF,h8]
  rw [hF];refine loop_i (fun j st=>∃ e m:Nat,st=le8St K es m e/\e<=es.length/\m<=1099511627776/\leastU K es 0=leastU K (es.drop e) m/\j=es.length - e) es.length (le8St K es 0 0) (weak_mk ⟨_,rfl⟩ wA rfl rfl rfl wB) ⟨0,0,rfl,by omega,by omega,rfl,by omega⟩ ?_;rintro j st ⟨e,m,rfl,he,hm,heq,rfl⟩;refine br (fun hL=>?_) (fun hL=>?_)
  ·have hlt:e < es.length:=by have:=hL;simp [dEds_len] at this;exact this
   obtain ⟨x,hx⟩:∃ x,es[e]? = some x:=⟨_,gE hlt⟩;rw [drop_cons hx,leastU] at heq;have hxe:=hedge x (mG hx);refine ⟨_,⟨by omega,dEds_get hx⟩,?_⟩;refine br (fun hb=>?_) (fun hb=>?_)
   ·have hb:x.bare=true:=hb;rw [heq,if_pos hb];exact (rfl:_=_)
   have hb:x.bare=false:=hb;rw [if_neg (by rw [hb];decide)] at heq;obtain ⟨k,hk,hkl⟩:=hxe.to1 hb;obtain ⟨z,hz1⟩:∃ z,K[k]? = some z:=⟨_,gE hkl⟩;have hzl:=hz z (mG hz1);have hed:edN K x=z:=by simp [edN,hk,List.getD_eq_getElem?_getD,hz1]
   have hg:(dInts K)[x.to.toNat]? = some [DV.v (.int .i64 (z:Int))]:=by rw [hk];exact dInts_get hz1
   rw [hed] at heq;refine ⟨_,⟨by omega,hg⟩,?_⟩;have keep:¬ (0 < z/\(m=0∨z < m))->leastU K es 0=leastU K (es.drop (e + 1)) m:=fun h=>by rw [heq,if_neg h]
   have take:(0 < z/\(m=0∨z < m))->leastU K es 0=leastU K (es.drop (e + 1)) z:=fun h=>by rw [heq,if_pos h]
   refine br (fun g1=>?_) (fun g1=>?_)
   ·have g1:0 < z:=by simpa [lastG] using g1
    refine br (fun g2=>?_) (fun g2=>?_)
    ·have g2:¬ m=0:=by simpa using g2
     refine ⟨_,⟨by omega,hg⟩,?_⟩;refine br (fun g3=>?_) (fun g3=>?_)
     ·have g3:z < m:=by simpa [pickB,pickD,lastG] using g3
      refine ⟨_,⟨by omega,hg⟩,?_⟩;exact ⟨le8St K es z (e + 1),(weak_mk ⟨_,rfl⟩ wA rfl rfl rfl (wNB hlt)),es.length - (e + 1),by omega,e + 1,_,rfl,by omega,by omega,take ⟨g1,.inr g3⟩,rfl⟩
     ·have g3:¬ z < m:=by simpa [pickB,pickD,lastG] using g3
      exact ⟨le8St K es m (e + 1),(weak_mk ⟨_,rfl⟩ wA rfl rfl rfl (wNB hlt)),es.length - (e + 1),by omega,e + 1,_,rfl,by omega,by omega,keep (by omega),rfl⟩
    ·have g2:m=0:=by simpa using g2
     refine ⟨_,⟨by omega,hg⟩,?_⟩;exact ⟨le8St K es z (e + 1),(weak_mk ⟨_,rfl⟩ wA rfl rfl rfl (wNB hlt)),es.length - (e + 1),by omega,e + 1,_,rfl,by omega,by omega,take ⟨g1,.inl g2⟩,rfl⟩
   ·have g1:¬ 0 < z:=by simpa [lastG] using g1
    exact ⟨le8St K es m (e + 1),(weak_mk ⟨_,rfl⟩ wA rfl rfl rfl (wNB hlt)),es.length - (e + 1),by omega,e + 1,_,rfl,by omega,by omega,keep (by omega),rfl⟩
  ·have hge:e=es.length:=by have:=hL;simp [dEds_len] at this;omega
   subst hge;rw [List.drop_length,leastU] at heq;refine br (fun g=>?_) (fun g=>?_)
   ·have g:m=0:=by simpa using g
    rw [heq,if_pos g];exact (rfl:_=_)
   ·have g:¬ m=0:=by simpa using g
    rw [if_neg g] at heq;have hw:IntKind.i64.wrap ((m:Int) + 1)=((m + 1:Nat):Int):=by rw [wrap64 (by omega) (by omega)];omega
    rw [heq];refine (congrArg (fun z=>DV.v (.int .i64 z)) ?_:_=_);exact hw
 ·have h8:¬ kind=8:=by simpa using h8
  have hF:leastF ⟨kind,at',lo,hi,most,names,es⟩ K=1:=by simp [leastF,h7,h8]
  rw [hF];exact (rfl:_=_)
abbrev on1St (n:Nd) (K:List Bool) (s v:Bool) (e:Nat):St:=
 ⟨[(1,⟨[],.sl 1 (dBo K) none⟩),(2,⟨[],.loc 0 0⟩),(5,⟨[],.v (.bool s)⟩),(6,⟨[],.v (.bool v)⟩),(7,⟨[],.v (.int .i64 e)⟩)],[dNd n],[]⟩
theorem one19_spec {L:Nat} {n:Nd} (K:List Bool) (hK:K.length<=1099511627776) (hn:NdOK L K.length n) (hel:n.edges.length<=1099511627776) :
  EvP Tryz.prog 192 [.agg (dNd n),.sl 1 (dBo K) none] (.v (.bool (hvB n K))):=by
 have hedge:=hn.edge;have hbare:=hn.bare;have hk8:=hn.k8;obtain ⟨kind,at',lo,hi,most,names,es⟩:=n;simp only at hedge hbare hel hk8;refine ev_go (P:=Tryz.prog) tt tt_ok 5000 50 [.tmp 4] Tryz.func192 rfl Tryz.ntmps192 rfl (nL rfl) (fun E9 w9 hn9 hm9=>?_);refine br (fun h7=>?_) (fun h7=>?_)
 ·have h7:kind < 7:=by simpa using h7
  refine (congrArg (fun b=>DV.v (.bool b)) ?_:_=_);simp [hvB,h7]
 have h7:¬ kind < 7:=by simpa using h7
 refine loop_i (fun j st=>∃ e:Nat,st=on1St ⟨kind,at',lo,hi,most,names,es⟩ K ((es.take e).any (inK K)) ((es.take e).all (inK K)) e/\e<=es.length/\j=es.length - e) es.length (on1St ⟨kind,at',lo,hi,most,names,es⟩ K false true 0) (weak_mk ⟨_,rfl⟩ wA rfl rfl rfl wB) ⟨0,by simp,by omega,by omega⟩ ?_;rintro j st ⟨e,rfl,he,rfl⟩;refine br (fun hL=>?_) (fun hL=>?_)
 ·have hlt:e < es.length:=by have:=hL;simp [dEds_len] at this;exact this
  obtain ⟨x,hx⟩:∃ x,es[e]? = some x:=⟨_,gE hlt⟩;refine ⟨_,⟨by omega,dEds_get hx⟩,?_⟩;have hs:(es.take (e + 1)).any (inK K)=((es.take e).any (inK K) || inK K x):=by rw [List.take_add_one,hx];simp
  have hv:(es.take (e + 1)).all (inK K)=((es.take e).all (inK K) && inK K x):=by rw [List.take_add_one,hx];simp
  generalize (es.take e).any (inK K)=s at hs ⊢;generalize (es.take e).all (inK K)=v at hv ⊢;refine br (fun hb=>?_) (fun hb=>?_)
  ·have hb:x.bare=false:=by simpa using hb
   obtain ⟨k,hk,hkl⟩:=(hedge x (mG hx)).to1 hb;obtain ⟨b,hb1⟩:∃ b,K[k]? = some b:=⟨_,gE hkl⟩;have hg:(dBo K)[(max x.to 0).toNat]? = some [DV.v (.bool b)]:=by rw [show (max x.to 0).toNat=k by omega];exact dBo_get hb1
   have hik:inK K x=b:=by unfold inK;rw [hb,hk];simp [List.getD_eq_getElem?_getD,hb1]
   rw [hik] at hs hv;refine ⟨_,⟨by omega,dEds_get hx⟩,?_⟩;refine ⟨_,⟨by omega,hg⟩,?_⟩;have e5:pickB s true b=(es.take (e + 1)).any (inK K):=by rw [hs,pickB_or]
   have e6:pickB v b false=(es.take (e + 1)).all (inK K):=by rw [hv,pickB_and]
   exact ⟨on1St ⟨kind,at',lo,hi,most,names,es⟩ K ((es.take (e + 1)).any (inK K)) ((es.take (e + 1)).all (inK K)) (e + 1),(weak_mk ⟨_,rfl⟩ wA rfl rfl rfl (by repeat' (first | exact trivial | exact we_rfl rfl | exact we_bool e5 | exact we_bool e6 | exact we_int (nxt hlt (by omega)) | refine ⟨⟨_,rfl,?_⟩,?_⟩))),es.length - (e + 1),by omega,e + 1,rfl,by omega,rfl⟩
  ·have hb:x.bare=true:=by simpa using hb
   have hik:inK K x=true:=by unfold inK;rw [hb];all_goals rfl
   rw [hik] at hs hv;have e5:pickB s true true=(es.take (e + 1)).any (inK K):=by rw [hs,pickB_or]
   have e6:pickB v true false=(es.take (e + 1)).all (inK K):=by rw [hv,pickB_and]
   exact ⟨on1St ⟨kind,at',lo,hi,most,names,es⟩ K ((es.take (e + 1)).any (inK K)) ((es.take (e + 1)).all (inK K)) (e + 1),(weak_mk ⟨_,rfl⟩ wA rfl rfl rfl (by repeat' (first | exact trivial | exact we_rfl rfl | exact we_bool e5 | exact we_bool e6 | exact we_int (nxt hlt (by omega)) | refine ⟨⟨_,rfl,?_⟩,?_⟩))),es.length - (e + 1),by omega,e + 1,rfl,by omega,rfl⟩
 ·have hge:e=es.length:=by have:=hL;simp [dEds_len] at this;omega
  subst hge;rw [List.take_length];refine br (fun g=>?_) (fun g=>?_)
  ·have g:kind=7:=by simpa using g
   refine (congrArg (fun b=>DV.v (.bool b)) ?_:_=_);simp [hvB,g]
  ·have g:¬ kind=7:=by simpa using g
   refine (congrArg (fun b=>DV.v (.bool b)) ?_:_=_);simp [hvB,g,h7]
theorem ms_b {bx:List (List DV)} {N n0 m0 n i:Nat} {r:List Bool} (hr:r.length=n) (hN:N<=i) (hb:bx[i]? = some (cB r)):Cc bx N n0 m0 (.sl 1 (dBo r) none) (.ms i 1 0 n n):=by
 simp only [Cc];refine Or.inr (Or.inr (Or.inl ⟨i,0,n,_,by rw [dBo_len,hr],hN,hb,?_,?_,?_⟩))
 ·rw [dBo_flat,List.drop_zero,List.take_of_length_le (by rw [cB_len,dBo_len];omega)]
 ·intro x hx;simp only [dBo,List.mem_map] at hx;obtain ⟨_,_,rfl⟩:=hx;rfl
 ·intro x hx;rw [dBo_flat] at hx;obtain ⟨_,_,rfl⟩:=List.mem_map.1 hx;exact ⟨_,rfl⟩
theorem ccL_cN (l:List Nat) (bx:List (List DV)) (N n m:Nat):CcL bx N n m (cN l) (cN l):=by
 induction l with
 | nil=>rfl
 | cons a r ih=>exact ⟨_,_,rfl,rfl,ih⟩
abbrev wG (a b:Nat) (A B:List (List DV)) (ND:List Nd) (z:Int):List DV:=[.sl a A none,.sl b B none,.sl 7 (dNds ND) none,.v (.int .i64 z)]
abbrev rd1St (W:List DV) (O:List Nat) (K:List Bool) (n d:Nat):St:=
 ⟨[(1,⟨[],.loc 0 0⟩),(3,⟨[],.ms 1 1 0 n n⟩),(4,⟨[],.sl 1 (dBo K) none⟩),(5,⟨[],.v (.int .i64 d)⟩)],[W,cN O],[]⟩
abbrev rd2St (W:List DV) (O:List Nat) (K:List Bool) (M:List Bool) (n d e:Nat):St:=
 ⟨[(1,⟨[],.loc 0 0⟩),(3,⟨[],.ms 1 1 0 n n⟩),(4,⟨[],.sl 1 (dBo K) none⟩),(5,⟨[],.v (.int .i64 d)⟩),(6,⟨[],.ms 2 1 0 n n⟩),(7,⟨[],.v (.int .i64 e)⟩)],[W,cN O,cB M],[]⟩
theorem depths19_spec (a b:Nat) (A B:List (List DV)) {ND:List Nd} {L:Nat} (z:Int) (hok:∀ n∈ND,NdOK L ND.length n) (hnl:ND.length<=1099511627776) (hsz:∀ n∈ND,n.edges.length<=1099511627776) :
  EvP Tryz.prog 82 [.agg (wG a b A B ND z)] (.sl 1 (dInts (depN ND ND.length)) none):=by
 have hdl:=dNds_len ND;refine ev_go (P:=Tryz.prog) tt tt_ok 5000 61 [.tmp 2] Tryz.func82 rfl Tryz.ntmps82 rfl (nL rfl) (fun E9 w9 hn9 hm9=>?_);refine ⟨⟨rfl,by omega,by rw [hdl];omega,by rw [hdl];omega⟩,?_⟩;refine ⟨⟨rfl,by omega,by rw [hdl];omega,by rw [hdl];omega⟩,?_⟩;refine loop_w (fun j st=>∃ d:Nat,st=rd1St (wG a b A B ND z) (depN ND d) (posL (depN ND d)) (dNds ND).length (d + 1)/\d<=ND.length/\j=ND.length - d) ND.length (rd1St (wG a b A B ND z) (depN ND 0) (posL (depN ND 0)) (dNds ND).length 1) (.frz 2 rfl rfl ?_ rfl ?_) ⟨0,rfl,by omega,by omega⟩ ?_
 ·refine ⟨_,_,rfl,ax,_,_,rfl,?_,rfl⟩;rw [repN,hdl];exact ccL_cN _ _ _ _ _
 ·refine ⟨⟨_,rfl,aL⟩,⟨_,rfl,aL⟩,⟨_,rfl,ms_b (by rw [posL_len,depN_len,hdl];omega) (Nat.le_refl _) ?_⟩,⟨_,rfl,ax⟩,trivial⟩;refine congrArg some ?_;rw [repB,hdl];simp [posL,depN]
 rintro j st ⟨d,rfl,hd,rfl⟩;have hpl:(posL (depN ND d)).length=ND.length:=by rw [posL_len,depN_len]
 refine br (fun hc=>?_) (fun hc=>?_)
 ·have hlt:d < ND.length:=by have:=hc;simp [hdl] at this;omega
  refine ⟨⟨rfl,by omega,by rw [hdl];omega,by rw [hdl];omega⟩,?_⟩;refine loop_i (fun j st=>∃ (e:Nat) (O:List Nat) (M:List Bool),st=rd2St (wG a b A B ND z) O (posL (depN ND d)) M (dNds ND).length (d + 1) e/\e<=ND.length/\O.length=ND.length/\M.length=ND.length/\(∀ i:Nat,i < e->O.getD i 0=(depN ND (d + 1)).getD i 0/\M.getD i false=(posL (depN ND (d + 1))).getD i false)/\(∀ i:Nat,e<=i->O.getD i 0=(depN ND d).getD i 0)/\j=ND.length - e) ND.length (rd2St (wG a b A B ND z) (depN ND d) (posL (depN ND d)) (List.replicate ((dNds ND).length:Int).toNat false) (dNds ND).length (d + 1) 0) (weak_b 3 rfl (by repeat' (first | exact rfl | exact we_rfl rfl | exact weL_cN rfl | exact weL_cB (repB _) | refine ⟨_,_,rfl,?_,?_⟩)) rfl rfl rfl (by repeat' (first | exact trivial | exact we_rfl rfl | exact weL_cN rfl | exact weL_cB (repB _) | refine ⟨⟨_,rfl,?_⟩,?_⟩))) ⟨0,_,_,rfl,by omega,by rw [depN_len],by rw [List.length_replicate,hdl];omega,fun i hi=>by omega,fun i _=>rfl,by omega⟩ ?_;rintro j st ⟨e,O,M,rfl,he,hO,hM,hv1,hv2,rfl⟩;refine br (fun hL=>?_) (fun hL=>?_)
  ·have hle:e < ND.length:=by have:=hL;simp [hdl] at this;exact this
   obtain ⟨n,hn⟩:∃ n,ND[e]? = some n:=⟨_,gE hle⟩;have hnm:=mG hn;have h1:=one19_spec (posL (depN ND d)) (by rw [hpl];exact hnl) (n:=n) (by rw [hpl];exact hok n hnm) (hsz n hnm);obtain ⟨r1,r2⟩:=depN_ref (fun m hm=>⟨(hok m hm).k8,(hok m hm).bare⟩) d hn;refine ⟨_,⟨by omega,dNds_get hn⟩,?_⟩;refine call_p en192 (h1) ax rfl ?_
   have hst:(cB M).set (0 + (e:Int).toNat * 1) (DV.v (.bool (hvB n (posL (depN ND d)))))=cB (M.set e (hvB n (posL (depN ND d)))):=by
    rw [show 0 + (e:Int).toNat * 1=e by omega,cB_set]
   have hld:(cB (M.set e (hvB n (posL (depN ND d)))))[0 + (e:Int).toNat * 1]? = some (DV.v (.bool (hvB n (posL (depN ND d))))):=by
    rw [show 0 + (e:Int).toNat * 1=e by omega];exact cB_get (List.getElem?_set_self (by omega))
   obtain ⟨q,hq⟩:∃ q,O[e]? = some q:=⟨_,gE (by omega)⟩;have hqd:(depN ND d).getD e 0=q:=by rw [<- hv2 e (Nat.le_refl _),List.getD_eq_getElem?_getD,hq];all_goals rfl
   rw [hqd] at r1
   have hMs:∀ i:Nat,i < e + 1->(M.set e (hvB n (posL (depN ND d)))).getD i false=(posL (depN ND (d + 1))).getD i false:=fun i hi=>by
    by_cases hie:i=e
    ·subst hie;rw [r2,List.getD_eq_getElem?_getD,List.getElem?_set_self (by omega)];all_goals rfl
    ·rw [List.getD_eq_getElem?_getD,List.getElem?_set_ne (Ne.symm hie),<- List.getD_eq_getElem?_getD];exact (hv1 i (by omega)).2
   generalize hvB n (posL (depN ND d))=h at hst hld r1 hMs ⊢;refine ⟨⟨by omega,by rw [hdl];omega⟩,?_⟩;refine ⟨by rw [cB_len];omega,?_⟩;refine ⟨⟨by omega,by rw [hdl];omega⟩,?_⟩;refine ⟨DV.v (.bool h),(by rw [hst];exact hld),?_⟩
   have hOs:∀ v,v=(depN ND (d + 1)).getD e 0->∀ i:Nat,i < e + 1->(O.set e v).getD i 0=(depN ND (d + 1)).getD i 0:=fun v hv i hi=>by
    by_cases hie:i=e
    ·subst hie;rw [<- hv,List.getD_eq_getElem?_getD,List.getElem?_set_self (by omega)];all_goals rfl
    ·rw [List.getD_eq_getElem?_getD,List.getElem?_set_ne (Ne.symm hie),<- List.getD_eq_getElem?_getD];exact (hv1 i (by omega)).1
   have hOr:∀ v:Nat,∀ i:Nat,e + 1<=i->(O.set e v).getD i 0=(depN ND d).getD i 0:=fun v i hi=>by
    rw [List.getD_eq_getElem?_getD,List.getElem?_set_ne (by omega),<- List.getD_eq_getElem?_getD];exact hv2 i (by omega)
   have hOq:O.set e q=O:=List.ext_getElem? fun i=>by
    by_cases hie:e=i
    ·subst hie;rw [List.getElem?_set_self (by omega),hq]
    ·rw [List.getElem?_set_ne hie]
   refine br (fun g=>?_) (fun g=>?_)
   ·have g:h=true:=by simpa using g
    refine ⟨⟨by omega,by rw [hdl];omega⟩,?_⟩;refine ⟨DV.v (.int .i64 (q:Int)),(by rw [show 0 + (e:Int).toNat * 1=e by omega];exact cN_get hq),?_⟩;refine br (fun g2=>?_) (fun g2=>?_)
    ·have g2:q=0:=by simpa [pickB,pickD] using g2
     rw [if_pos ⟨g,g2⟩] at r1;refine ⟨⟨by omega,by rw [hdl];omega⟩,?_⟩;refine ⟨by rw [cN_len];omega,?_⟩
     have hso:(cN O).set (0 + (e:Int).toNat * 1) (DV.v (.int .i64 ((d + 1:Nat):Int)))=cN (O.set e (d + 1)):=by
      rw [show 0 + (e:Int).toNat * 1=e by omega,cN_set]
     exact ⟨rd2St (wG a b A B ND z) (O.set e (d + 1)) (posL (depN ND d)) (M.set e h) (dNds ND).length (d + 1) (e + 1),(weak_b 3 rfl (by repeat' (first | exact rfl | exact we_rfl rfl | exact weL_cN hso | exact weL_cB hst | exact we_int (nxt hle (by omega)) | refine ⟨_,_,rfl,?_,?_⟩)) rfl rfl rfl (by repeat' (first | exact trivial | exact we_rfl rfl | exact weL_cN hso | exact weL_cB hst | exact we_int (nxt hle (by omega)) | refine ⟨⟨_,rfl,?_⟩,?_⟩))),ND.length - (e + 1),by omega,e + 1,_,_,rfl,by omega,by simp [hO],by rw [List.length_set];exact hM,fun i hi=>⟨hOs _ r1.symm i hi,hMs i hi⟩,hOr (d + 1),rfl⟩
    ·have g2:¬ q=0:=by simpa [pickB,pickD] using g2
     rw [if_neg (fun h=>g2 h.2)] at r1;exact ⟨rd2St (wG a b A B ND z) (O.set e q) (posL (depN ND d)) (M.set e h) (dNds ND).length (d + 1) (e + 1),(weak_b 3 rfl (by repeat' (first | exact rfl | exact we_rfl rfl | exact weL_cN (by rw [hOq]) | exact weL_cB hst | exact we_int (nxt hle (by omega)) | refine ⟨_,_,rfl,?_,?_⟩)) rfl rfl rfl (by repeat' (first | exact trivial | exact we_rfl rfl | exact weL_cN (by rw [hOq]) | exact weL_cB hst | exact we_int (nxt hle (by omega)) | refine ⟨⟨_,rfl,?_⟩,?_⟩))),ND.length - (e + 1),by omega,e + 1,_,_,rfl,by omega,by simp [hO],by rw [List.length_set];exact hM,fun i hi=>⟨hOs _ r1.symm i hi,hMs i hi⟩,hOr q,rfl⟩
   ·have g:h=false:=by simpa using g
    rw [if_neg (by rw [g];simp)] at r1;exact ⟨rd2St (wG a b A B ND z) (O.set e q) (posL (depN ND d)) (M.set e h) (dNds ND).length (d + 1) (e + 1),(weak_b 3 rfl (by repeat' (first | exact rfl | exact we_rfl rfl | exact weL_cN (by rw [hOq]) | exact weL_cB hst | exact we_int (nxt hle (by omega)) | refine ⟨_,_,rfl,?_,?_⟩)) rfl rfl rfl (by repeat' (first | exact trivial | exact we_rfl rfl | exact weL_cN (by rw [hOq]) | exact weL_cB hst | exact we_int (nxt hle (by omega)) | refine ⟨⟨_,rfl,?_⟩,?_⟩))),ND.length - (e + 1),by omega,e + 1,_,_,rfl,by omega,by simp [hO],by rw [List.length_set];exact hM,fun i hi=>⟨hOs _ r1.symm i hi,hMs i hi⟩,hOr q,rfl⟩
  ·have hge:e=ND.length:=by have:=hL;simp [hdl] at this;omega
   subst hge
   have hO2:O=depN ND (d + 1):=getD_ext (by rw [hO,depN_len]) fun j=>by
    rcases Nat.lt_or_ge j ND.length with hj | hj
    ·exact (hv1 j hj).1
    ·simp only [List.getD_eq_getElem?_getD];rw [List.getElem?_eq_none (by omega),List.getElem?_eq_none (by rw [depN_len];omega)]
   have hM2:M=posL (depN ND (d + 1)):=leB_anti (by rw [hM,posL_len,depN_len]) (fun j hj=>by
     rcases Nat.lt_or_ge j ND.length with h | h
     ·rw [<- (hv1 j h).2];exact hj
     ·rw [List.getD_eq_getElem?_getD,List.getElem?_eq_none (by omega)] at hj;cases hj) (fun j hj=>by
     rcases Nat.lt_or_ge j ND.length with h | h
     ·rw [(hv1 j h).2];exact hj
     ·rw [List.getD_eq_getElem?_getD,List.getElem?_eq_none (by rw [posL_len,depN_len];omega)] at hj;cases hj)
   subst hO2 hM2;refine ⟨rd1St (wG a b A B ND z) (depN ND (d + 1)) (posL (depN ND (d + 1))) (dNds ND).length (d + 1 + 1),.frz 2 rfl rfl ⟨_,_,rfl,ax,_,_,rfl,ccL_cN _ _ _ _ _,rfl⟩ rfl ⟨⟨_,rfl,aL⟩,⟨_,rfl,aL⟩,⟨_,rfl,ms_b (by rw [posL_len,depN_len,hdl]) (Nat.le_refl _) rfl⟩,⟨_,rfl,?_⟩,trivial⟩,ND.length - (d + 1),by omega,d + 1,rfl,by omega,rfl⟩;exact congrArg (fun z=>DV.v (Value.int .i64 z)) (nxt (n:=1099511627777) (by omega) (by omega))
 ·have hge:d=ND.length:=by have:=hc;simp [hdl] at this;omega
  subst hge;exact ⟨_,ms_n (by rw [depN_len,hdl]) (Nat.zero_le _) rfl,rfl⟩
def chgB (ND:List Nd) (d e:Nat):Bool:=(List.range e).any fun i=>decide (¬ (depN ND (d + 1)).getD i 0=(depN ND d).getD i 0)
theorem chgB_succ (ND:List Nd) (d e:Nat):chgB ND d (e + 1)=(chgB ND d e || decide (¬ (depN ND (d + 1)).getD e 0=(depN ND d).getD e 0)):=by
 simp [chgB,List.range_succ]
theorem chgB_all {ND:List Nd} {d:Nat}:chgB ND d ND.length=false↔depN ND (d + 1)=depN ND d:=by
 constructor
 ·intro h;refine getD_ext (by rw [depN_len,depN_len]) fun j=>?_;unfold chgB at h;rw [List.any_eq_false] at h;rcases Nat.lt_or_ge j ND.length with hj | hj
  ·have:=h j (by simpa using hj);simpa using this
  ·simp only [List.getD_eq_getElem?_getD];rw [List.getElem?_eq_none (by rw [depN_len];exact hj),List.getElem?_eq_none (by rw [depN_len];exact hj)]
 ·intro h;unfold chgB;rw [h,List.any_eq_false];simp
theorem depN_small {ND:List Nd} {d:Nat} (hd:d<=1099511627776):∀ z∈depN ND d,z<=1099511627776:=fun z hz=>by
 obtain ⟨i,hi⟩:=List.mem_iff_getElem?.1 hz;have:=depN_le ND d i;rw [List.getD_eq_getElem?_getD,hi] at this;simp only [Option.getD_some] at this;omega
abbrev dp1St (ND:List Nd) (d:Nat) (c:Bool):St:=
 ⟨[(3,⟨[],.sl 7 (dNds ND) none⟩),(4,⟨[],.sl 1 (dInts (depN ND d)) none⟩),(5,⟨[],.v (.bool c)⟩)],[],[]⟩
abbrev dp2St (ND:List Nd) (d:Nat) (c:Bool) (L:List Nat) (e:Nat):St:=
 ⟨[(3,⟨[],.sl 7 (dNds ND) none⟩),(4,⟨[],.sl 1 (dInts (depN ND d)) none⟩),(5,⟨[],.v (.bool c)⟩),(6,⟨[],.ms 0 1 0 (dNds ND).length (dNds ND).length⟩),(18,⟨[],.sl 7 (dNds ND) none⟩),(19,⟨[],.v (.int .i64 (dNds ND).length)⟩),(20,⟨[],.v (.int .i64 e)⟩)],[cN L],[]⟩
theorem depths_gen {L:Nat} {ND:List Nd} {p:DV} (h0:EvP Tryz.prog 314 [p] (.sl 7 (dNds ND) none)) (hok:∀ n∈ND,NdOK L ND.length n) (hnl:ND.length<=1099511627776) (hsz:∀ n∈ND,n.edges.length<=1099511627776) (hcc:∀ bx N n m,Cc bx N n m p p) :
  EvP Tryz.prog 200 [p] (.sl 1 (dInts (depN ND ND.length)) none):=by
 have hdl:=dNds_len ND;refine ev_go (P:=Tryz.prog) tt tt_ok 5000 46 [.tmp 2] Tryz.func200 rfl Tryz.ntmps200 rfl (nL rfl) (fun E9 w9 hn9 hm9=>?_);refine call_p en314 (h0) (by repeat' (first | exact rfl | exact trivial | exact Or.inr (Or.inl ⟨_,rfl⟩) | exact Or.inr ⟨_,rfl⟩ | exact Or.inl ⟨rfl,rfl⟩ | exact Or.inl rfl | refine Or.inr ⟨_,_,rfl,Nat.zero_le _,rfl,?_⟩ | refine ⟨_,_,rfl,?_,?_⟩ | refine ⟨_,rfl,?_⟩ | exact hcc _ _ _ _| refine Or.inr (Or.inr (Or.inr ⟨_,_,rfl,?_⟩)) | exact Or.inl rfl | refine Or.inr ?_)) rfl ?_;refine ⟨⟨rfl,by omega,by rw [hdl];omega,by rw [hdl];omega⟩,?_⟩;refine loop_w (fun j st=>∃ (d:Nat) (c:Bool),st=dp1St ND d c/\(c=true->d<=ND.length)/\(c=false->depN ND d=depN ND ND.length)/\j=ND.length + 2 - d) (ND.length + 2) (dp1St ND 0 true) (.frz 0 rfl rfl rfl rfl ?_) ⟨0,true,rfl,by omega,by simp,by omega⟩ ?_
 ·refine ⟨⟨_,rfl,ax⟩,⟨_,rfl,ms_n (by rw [depN_len,hdl];omega) (by omega) ?_⟩,⟨_,rfl,ax⟩,trivial⟩;refine congrArg some ?_;rw [repN,hdl];rfl
 rintro j st ⟨d,c,rfl,hc1,hc2,rfl⟩;refine br (fun hc=>?_) (fun hc=>?_)
 ·have hc:c=true:=hc;have hd:=hc1 hc;refine ⟨⟨rfl,by omega,by rw [hdl];omega,by rw [hdl];omega⟩,?_⟩;refine loop_i (fun j st=>∃ (e:Nat) (L:List Nat),st=dp2St ND d (chgB ND d e) L e/\e<=ND.length/\L.length=ND.length/\(∀ i:Nat,i < e->L.getD i 0=(depN ND (d + 1)).getD i 0)/\j=ND.length - e) ND.length (dp2St ND d false (List.replicate ((dNds ND).length:Int).toNat 0) 0) (weak_b 1 rfl (by repeat' (first | exact rfl | exact we_rfl rfl | exact weL_cN (repN _) | refine ⟨_,_,rfl,?_,?_⟩)) rfl rfl rfl (by repeat' (first | exact trivial | exact we_rfl rfl | exact weL_cN (repN _) | refine ⟨⟨_,rfl,?_⟩,?_⟩))) ⟨0,_,rfl,by omega,by rw [List.length_replicate,hdl];omega,fun i hi=>by omega,by omega⟩ ?_;rintro j st ⟨e,L,rfl,he,hL,hLv,rfl⟩;refine br (fun hlt=>?_) (fun hlt=>?_)
  ·have hlt:e < ND.length:=by have:=hlt;simp [hdl] at this;exact this
   obtain ⟨n,hn⟩:∃ n,ND[e]? = some n:=⟨_,gE hlt⟩;have hnm:=mG hn;have hle:=least19_spec (depN ND d) (by rw [depN_len];exact hnl) (n:=n) (by rw [depN_len];exact hok n hnm) (depN_small (by omega)) (hsz n hnm);refine ⟨_,⟨by omega,dNds_get hn⟩,?_⟩;refine call_p en315 (hle) ax rfl ?_;refine ⟨⟨by omega,by rw [hdl];omega⟩,?_⟩;refine ⟨by rw [cN_len];omega,?_⟩;refine drawG_i (fun _=>false) mo (by decide +kernel) ?_;have hv:=depN_get ND d e;rw [hn] at hv;have hv:(depN ND (d + 1)).getD e 0=leastF n (depN ND d):=hv;obtain ⟨z,hz⟩:∃ z,(depN ND d)[e]? = some z:=⟨_,gE (by rw [depN_len];exact hlt)⟩;have hzd:(depN ND d).getD e 0=z:=by rw [List.getD_eq_getElem?_getD,hz];all_goals rfl
   have hcs:=chgB_succ ND d e;rw [hv,hzd] at hcs
   have hst:(cN L).set (0 + (e:Int).toNat * 1) (DV.v (.int .i64 ((leastF n (depN ND d):Nat):Int)))=cN (L.set e (leastF n (depN ND d))):=by
    rw [show 0 + (e:Int).toNat * 1=e by omega,cN_set]
   have hLs:∀ i:Nat,i < e + 1->(L.set e (leastF n (depN ND d))).getD i 0=(depN ND (d + 1)).getD i 0:=fun i hi=>by
    by_cases hie:i=e
    ·subst hie;rw [hv,List.getD_eq_getElem?_getD,List.getElem?_set_self (by omega)];all_goals rfl
    ·rw [List.getD_eq_getElem?_getD,List.getElem?_set_ne (Ne.symm hie),<- List.getD_eq_getElem?_getD];exact hLv i (by omega)
   refine br (fun g=>?_) (fun g=>?_)
   ·have g:chgB ND d e=false:=by simpa using g
    rw [g,Bool.false_or] at hcs
    have hld:(cN (L.set e (leastF n (depN ND d))))[0 + (e:Int).toNat * 1]? = some (DV.v (.int .i64 ((leastF n (depN ND d):Nat):Int))):=by
     rw [show 0 + (e:Int).toNat * 1=e by omega];exact cN_get (List.getElem?_set_self (by omega))
    refine ⟨⟨by omega,by rw [hdl];omega⟩,?_⟩;rw [hst];refine ⟨_,hld,?_⟩;refine ⟨_,⟨by omega,dInts_get hz⟩,?_⟩
    have hbo:(!decide (((leastF n (depN ND d):Nat):Int)=(z:Int)))=chgB ND d (e + 1):=by
     rw [hcs,Bool.eq_iff_iff];simp;omega
    exact ⟨dp2St ND d (chgB ND d (e + 1)) (L.set e (leastF n (depN ND d))) (e + 1),(weak_b 1 rfl (by repeat' (first | exact rfl | exact we_rfl rfl | exact weL_cN rfl | exact we_bool hbo | exact we_int (nxt hlt (by omega)) | refine ⟨_,_,rfl,?_,?_⟩)) rfl rfl rfl (by repeat' (first | exact trivial | exact we_rfl rfl | exact weL_cN rfl | exact we_bool hbo | exact we_int (nxt hlt (by omega)) | refine ⟨⟨_,rfl,?_⟩,?_⟩))),ND.length - (e + 1),by omega,e + 1,_,rfl,by omega,by rw [List.length_set];exact hL,hLs,rfl⟩
   ·have g:chgB ND d e=true:=by simpa using g
    rw [g,Bool.true_or] at hcs;exact ⟨dp2St ND d (chgB ND d (e + 1)) (L.set e (leastF n (depN ND d))) (e + 1),(weak_b 1 rfl (by repeat' (first | exact rfl | exact we_rfl rfl | exact weL_cN hst | exact we_bool hcs.symm | exact we_int (nxt hlt (by omega)) | refine ⟨_,_,rfl,?_,?_⟩)) rfl rfl rfl (by repeat' (first | exact trivial | exact we_rfl rfl | exact weL_cN hst | exact we_bool hcs.symm | exact we_int (nxt hlt (by omega)) | refine ⟨⟨_,rfl,?_⟩,?_⟩))),ND.length - (e + 1),by omega,e + 1,_,rfl,by omega,by rw [List.length_set];exact hL,hLs,rfl⟩
  ·have hge:e=ND.length:=by have:=hlt;simp [hdl] at this;omega
   subst hge
   have hLL:L=depN ND (d + 1):=getD_ext (by rw [hL,depN_len]) fun j=>by
    rcases Nat.lt_or_ge j ND.length with hj | hj
    ·exact hLv j hj
    ·simp only [List.getD_eq_getElem?_getD];rw [List.getElem?_eq_none (by omega),List.getElem?_eq_none (by rw [depN_len];omega)]
   subst hLL;refine ⟨dp1St ND (d + 1) (chgB ND d ND.length),.frz 0 rfl rfl rfl rfl ⟨⟨_,rfl,ax⟩,⟨_,rfl,ms_n (by rw [depN_len,hdl]) (by omega) rfl⟩,⟨_,rfl,ax⟩,trivial⟩,ND.length + 2 - (d + 1),by omega,d + 1,_,rfl,fun hcc=>?_,fun hcc=>depN_all (chgB_all.1 hcc),rfl⟩;have:depN ND (d + 1)≠depN ND d:=fun h=>by rw [chgB_all.2 h] at hcc;cases hcc
   have:=depN_lt this;omega
 ·have hc:c=false:=hc;rw [hc2 hc];exact ⟨_,ax,rfl⟩
theorem PlanR.esz {S:Sch} {ND:List Nd} {PC:List DV} (hP:PlanR S ND PC):∀ n∈ND,n.edges.length<=1099511627776:=fun n hn=>by
 have h1:=hP.wt;rw [hP.nds] at hn;exact (resNds_sz hn h1).2
theorem depths_spec {S:Sch} {ND:List Nd} {PC:List DV} (hP:PlanR S ND PC):EvP Tryz.prog 200 [.pt PC 0] (.sl 1 (dInts (depN ND ND.length)) none):=
 depths_gen (nodes19_spec hP) hP.ok hP.nl hP.esz fun _ _ _ _=>ax
theorem nodes19_nil:EvP Tryz.prog 314 [.v (.pointer none)] (.sl 7 (dNds []) none):=by
 refine evp_nil ?_;refine ev_go (P:=Tryz.prog) tt tt_ok 5000 24 [.tmp 2] Tryz.func314 rfl Tryz.ntmps314 rfl (nL rfl) (fun E9 w9 hn9 hm9=>?_);refine call_p en202 (plen_nil) ax rfl ?_;refine loop_i (fun j st=>st=⟨[(3,⟨[],.v (.slice none 0 0)⟩),(8,⟨[],.v (.int .i64 0)⟩),(9,⟨[],.v (.int .i64 0)⟩)],[],[]⟩) 0 ⟨[(3,⟨[],.v (.slice none 0 0)⟩),(8,⟨[],.v (.int .i64 0)⟩),(9,⟨[],.v (.int .i64 0)⟩)],[],[]⟩ (weak_mk ⟨_,rfl⟩ wA rfl rfl rfl wB) rfl ?_;rintro j st rfl;exact Or.inr ⟨rfl,rfl⟩
theorem depths_nil:EvP Tryz.prog 200 [.v (.pointer none)] (.sl 1 [] none):=
 depths_gen (L:=0) nodes19_nil (fun _ h=>by cases h) (by decide) (fun _ h=>by cases h) fun _ _ _ _=>ax
def FineΦ (S:Sch) (r:DV):Prop:=∃ b:Bool,r = .v (.bool b)/\(b=true->(resF S).1=0)
theorem there_spec {L:Nat} (D:List Nat) {x:Ed} (hx:EdOK L D.length x) :
  EvP Tryz.prog 380 [.agg (dEd x),.pt [.sl 1 (dInts D) none] 0] (.v (.bool (thB D x))):=by
 refine ev_go (P:=Tryz.prog) tt tt_ok 5000 14 [.tmp 3] Tryz.func380 rfl Tryz.ntmps380 rfl (nL rfl) (fun E9 w9 hn9 hm9=>?_);refine br (fun hb=>?_) (fun hb=>?_)
 ·have hb:x.bare=false:=by simpa using hb
  obtain ⟨k,hk,hkl⟩:=hx.to1 hb;obtain ⟨z,hz⟩:∃ z,D[k]? = some z:=⟨_,gE hkl⟩;refine ⟨_,⟨by omega,by rw [hk];exact dInts_get hz⟩,?_⟩;refine (congrArg (fun b=>DV.v (.bool b)) ?_:_=_);simp [thB,hb,edN,hk,List.getD_eq_getElem?_getD,hz,pickB]
 ·have hb:x.bare=true:=by simpa using hb
  refine (congrArg (fun b=>DV.v (.bool b)) ?_:_=_);simp [thB,hb,pickB]
abbrev svSt (D:List Nat) (K:List Bool) (n:Nd) (m:Nat) (b:Bool) (e:Nat):St:=
 ⟨[(2,⟨[],.sl 1 (dBo K) none⟩),(3,⟨[],.loc 0 0⟩),(7,⟨[],.fn 380 [] [.loc 1 0]⟩),(8,⟨[],.v (.int .i64 m)⟩),(9,⟨[],.v (.bool b)⟩),(14,⟨[],.sl 10 (dEds n.edges) none⟩),(15,⟨[],.v (.int .i64 (dEds n.edges).length)⟩),(16,⟨[],.v (.int .i64 e)⟩)],[dNd n,[.sl 1 (dInts D) none]],[]⟩
theorem several_spec {L:Nat} {n:Nd} (D:List Nat) (K:List Bool) (hl:K.length=D.length) (hD:D.length<=1099511627776) (hn:NdOK L D.length n) (hel:n.edges.length<=1099511627776) :
  EvP Tryz.prog 316 [.agg (dNd n),.sl 1 (dInts D) none,.sl 1 (dBo K) none] (.v (.bool (sevF n D K))):=by
 have hedge:=hn.edge;have hk1:=hn.k1;have hk8:=hn.k8;obtain ⟨kind,at',lo,hi,most,names,es⟩:=n;simp only at hedge hel hk1 hk8;refine ev_go (P:=Tryz.prog) tt tt_ok 5000 89 [.tmp 6] Tryz.func316 rfl Tryz.ntmps316 rfl (nL rfl) (fun E9 w9 hn9 hm9=>?_);refine loop_i (fun j st=>∃ e:Nat,st=svSt D K ⟨kind,at',lo,hi,most,names,es⟩ (manyN D (es.take e)) (moreB D K (es.take e)) e/\e<=es.length/\j=es.length - e) es.length (svSt D K ⟨kind,at',lo,hi,most,names,es⟩ 0 false 0) (weak_mk ⟨_,rfl⟩ wA rfl rfl rfl wB) ⟨0,by simp [manyN,moreB],by omega,by omega⟩ ?_;rintro j st ⟨e,rfl,he,rfl⟩;refine br (fun hL=>?_) (fun hL=>?_)
 ·have hlt:e < es.length:=by have:=hL;simp [dEds_len] at this;exact this
  obtain ⟨x,hx⟩:∃ x,es[e]? = some x:=⟨_,gE hlt⟩;have hxo:=hedge x (mG hx);have hth:=there_spec D hxo
  have hm:manyN D (es.take (e + 1))=manyN D (es.take e) + if thB D x=true then 1 else 0:=by
   rw [List.take_add_one,hx];simp [manyN,List.countP_cons]
  have hmo:moreB D K (es.take (e + 1))=(moreB D K (es.take e) || moB D K x):=by
   rw [List.take_add_one,hx];simp [moreB]
  have hml:manyN D (es.take e)<=e:=by
   have:manyN D (es.take e)<=(es.take e).length:=List.countP_le_length;rw [List.length_take] at this;omega
  refine ⟨_,⟨by omega,dEds_get hx⟩,?_⟩;refine call_bf en380 hth ax rfl rfl ?_;refine br (fun ht=>?_) (fun ht=>?_)
  ·have ht:thB D x=true:=ht;rw [if_pos ht] at hm;have hw:IntKind.i64.wrap (((manyN D (es.take e):Nat):Int) + 1)=((manyN D (es.take (e + 1)):Nat):Int):=by rw [hm,wrap64 (by omega) (by omega)];omega
   have hb2:moB D K x=(!x.bare && K.getD x.to.toNat false):=by unfold moB;rw [ht,Bool.true_and]
   rw [hb2] at hmo;refine br (fun g1=>?_) (fun g1=>?_)
   ·have g1:moreB D K (es.take e)=false:=by simpa [lastG] using g1
    refine br (fun g2=>?_) (fun g2=>?_)
    ·have g2:x.bare=false:=by simpa using g2
     obtain ⟨k,hk,hkl⟩:=hxo.to1 g2;obtain ⟨z,hz⟩:∃ z,K[k]? = some z:=⟨_,gE (by omega)⟩;refine ⟨_,⟨by omega,by rw [hk];exact dBo_get hz⟩,?_⟩;have e9:z=moreB D K (es.take (e + 1)):=by rw [hmo,g1,g2,hk];simp [List.getD_eq_getElem?_getD,hz]
     exact ⟨svSt D K ⟨kind,at',lo,hi,most,names,es⟩ (manyN D (es.take (e + 1))) (moreB D K (es.take (e + 1))) (e + 1),(weak_mk ⟨_,rfl⟩ wA rfl rfl rfl (by repeat' (first | exact trivial | exact we_rfl rfl | exact we_int hw | exact we_bool e9 | exact we_int (nxt hlt (by omega)) | refine ⟨⟨_,rfl,?_⟩,?_⟩))),es.length - (e + 1),by omega,e + 1,rfl,by omega,rfl⟩
    ·have g2:x.bare=true:=by simpa using g2
     have e9:false=moreB D K (es.take (e + 1)):=by rw [hmo,g1,g2];all_goals rfl
     exact ⟨svSt D K ⟨kind,at',lo,hi,most,names,es⟩ (manyN D (es.take (e + 1))) (moreB D K (es.take (e + 1))) (e + 1),(weak_mk ⟨_,rfl⟩ wA rfl rfl rfl (by repeat' (first | exact trivial | exact we_rfl rfl | exact we_int hw | exact we_bool e9 | exact we_int (nxt hlt (by omega)) | refine ⟨⟨_,rfl,?_⟩,?_⟩))),es.length - (e + 1),by omega,e + 1,rfl,by omega,rfl⟩
   ·have g1:moreB D K (es.take e)=true:=by simpa [lastG] using g1
    have e9:true=moreB D K (es.take (e + 1)):=by rw [hmo,g1];all_goals rfl
    exact ⟨svSt D K ⟨kind,at',lo,hi,most,names,es⟩ (manyN D (es.take (e + 1))) (moreB D K (es.take (e + 1))) (e + 1),(weak_mk ⟨_,rfl⟩ wA rfl rfl rfl (by repeat' (first | exact trivial | exact we_rfl rfl | exact we_int hw | exact we_bool e9 | exact we_int (nxt hlt (by omega)) | refine ⟨⟨_,rfl,?_⟩,?_⟩))),es.length - (e + 1),by omega,e + 1,rfl,by omega,rfl⟩
  ·have ht:thB D x=false:=ht;rw [if_neg (by rw [ht];simp),Nat.add_zero] at hm;have hb2:moB D K x=false:=by unfold moB;rw [ht];all_goals rfl
   rw [hb2,Bool.or_false] at hmo;exact ⟨svSt D K ⟨kind,at',lo,hi,most,names,es⟩ (manyN D (es.take (e + 1))) (moreB D K (es.take (e + 1))) (e + 1),(weak_mk ⟨_,rfl⟩ wA rfl rfl rfl (by repeat' (first | exact trivial | exact we_rfl rfl | exact we_int (congrArg Nat.cast hm.symm) | exact we_bool hmo.symm | exact we_int (nxt hlt (by omega)) | refine ⟨⟨_,rfl,?_⟩,?_⟩))),es.length - (e + 1),by omega,e + 1,rfl,by omega,rfl⟩
 ·have hge:e=es.length:=by have:=hL;simp [dEds_len] at this;omega
  subst hge;rw [List.take_length];refine br (fun c1=>?_) (fun c1=>?_)
  ·have c1:kind=1:=by simpa using c1
   refine (congrArg (fun b=>DV.v (.bool b)) ?_:_=_);simp [sevF,c1]
  have c1:¬ kind=1:=by simpa using c1
  refine br (fun c2=>?_) (fun c2=>?_)
  ·have c2:kind=2:=by simpa using c2
   refine (congrArg (fun b=>DV.v (.bool b)) ?_:_=_);simp [sevF,c2]
  have c2:¬ kind=2:=by simpa using c2
  refine br (fun c3=>?_) (fun c3=>?_)
  ·have c3:kind=3:=by simpa using c3
   refine (congrArg (fun b=>DV.v (.bool b)) ?_:_=_);simp [sevF,c3]
  have c3:¬ kind=3:=by simpa using c3
  refine br (fun c4=>?_) (fun c4=>?_)
  ·have c4:kind=4:=by simpa using c4
   refine (congrArg (fun b=>DV.v (.bool b)) ?_:_=_);simp [sevF,c4,dBs_len];omega
  have c4:¬ kind=4:=by simpa using c4
  refine br (fun c5=>?_) (fun c5=>?_)
  ·have c5:kind=5:=by simpa using c5
   refine (congrArg (fun b=>DV.v (.bool b)) ?_:_=_);simp [sevF,c5,pickB_and]
  have c5:¬ kind=5:=by simpa using c5
  refine br (fun c6=>?_) (fun c6=>?_)
  ·have c6:kind=6:=by simpa using c6
   refine (congrArg (fun b=>DV.v (.bool b)) ?_:_=_);simp [sevF,c6]
  have c6:¬ kind=6:=by simpa using c6
  refine br (fun c7=>?_) (fun c7=>?_)
  ·have c7:kind=7:=by simpa using c7
   refine (congrArg (fun b=>DV.v (.bool b)) ?_:_=_);rw [Bool.eq_iff_iff];simp [sevF,c7,pickB_and,dEds_len];omega
  have c7:¬ kind=7:=by simpa using c7
  refine (congrArg (fun b=>DV.v (.bool b)) ?_:_=_);rw [Bool.eq_iff_iff];have hc1:(1 < ((manyN D es:Nat):Int))↔1 < manyN D es:=by omega
  simp [sevF,c1,c2,c3,c4,c5,c6,c7,pickB_or,hc1]
abbrev sv1St (ND:List Nd) (D:List Nat) (K:List Bool) (c:Bool):St:=
 ⟨[(3,⟨[],.sl 7 (dNds ND) none⟩),(4,⟨[],.sl 1 (dInts D) none⟩),(5,⟨[],.ms 0 1 0 (dNds ND).length (dNds ND).length⟩),(6,⟨[],.v (.bool c)⟩)],[cB K],[]⟩
abbrev sv2St (ND:List Nd) (D:List Nat) (K:List Bool) (c:Bool) (e:Nat):St:=
 ⟨[(3,⟨[],.sl 7 (dNds ND) none⟩),(4,⟨[],.sl 1 (dInts D) none⟩),(5,⟨[],.ms 0 1 0 (dNds ND).length (dNds ND).length⟩),(6,⟨[],.v (.bool c)⟩),(17,⟨[],.sl 7 (dNds ND) none⟩),(18,⟨[],.v (.int .i64 (dNds ND).length)⟩),(19,⟨[],.v (.int .i64 e)⟩)],[cB K],[]⟩
theorem severals_gen {L:Nat} {ND:List Nd} {p:DV} (h0:EvP Tryz.prog 314 [p] (.sl 7 (dNds ND) none)) (h1:EvP Tryz.prog 200 [p] (.sl 1 (dInts (depN ND ND.length)) none)) (hok:∀ n∈ND,NdOK L ND.length n) (hnl:ND.length<=1099511627776) (hsz:∀ n∈ND,n.edges.length<=1099511627776) (hcc:∀ bx N n m,Cc bx N n m p p) :
  EvP Tryz.prog 201 [p] (.sl 1 (dBo (sevS ND (depN ND ND.length))) none):=by
 have hdl:=dNds_len ND;have hl:=depN_len ND ND.length;generalize depN ND ND.length=D at h1 hl ⊢;refine ev_go (P:=Tryz.prog) tt tt_ok 5000 40 [.tmp 2] Tryz.func201 rfl Tryz.ntmps201 rfl (nL rfl) (fun E9 w9 hn9 hm9=>?_);refine call_p en314 (h0) (by repeat' (first | exact rfl | exact trivial | exact Or.inr (Or.inl ⟨_,rfl⟩) | exact Or.inr ⟨_,rfl⟩ | exact Or.inl ⟨rfl,rfl⟩ | exact Or.inl rfl | refine Or.inr ⟨_,_,rfl,Nat.zero_le _,rfl,?_⟩ | refine ⟨_,_,rfl,?_,?_⟩ | refine ⟨_,rfl,?_⟩ | exact hcc _ _ _ _| refine Or.inr (Or.inr (Or.inr ⟨_,_,rfl,?_⟩)) | exact Or.inl rfl | refine Or.inr ?_)) rfl ?_;refine call_p en200 (h1) (by repeat' (first | exact rfl | exact trivial | exact Or.inr (Or.inl ⟨_,rfl⟩) | exact Or.inr ⟨_,rfl⟩ | exact Or.inl ⟨rfl,rfl⟩ | exact Or.inl rfl | refine Or.inr ⟨_,_,rfl,Nat.zero_le _,rfl,?_⟩ | refine ⟨_,_,rfl,?_,?_⟩ | refine ⟨_,rfl,?_⟩ | exact hcc _ _ _ _| refine Or.inr (Or.inr (Or.inr ⟨_,_,rfl,?_⟩)) | exact Or.inl rfl | refine Or.inr ?_)) rfl ?_;refine ⟨⟨rfl,by omega,by rw [hdl];omega,by rw [hdl];omega⟩,?_⟩;refine loop_i (fun j st=>∃ (K:List Bool) (c:Bool),st=sv1St ND D K c/\K.length=ND.length/\LeB K (sevS ND D)/\(c=false->∀ j n,ND[j]? = some n->sevF n D K=true->K.getD j false=true)/\j=ND.length - cntB K + if c=true then 1 else 0) (ND.length + 1) (sv1St ND D (List.replicate ((dNds ND).length:Int).toNat false) true) (weak_b 1 rfl (by repeat' (first | exact rfl | exact we_rfl rfl | exact weL_cB (repB _) | refine ⟨_,_,rfl,?_,?_⟩)) rfl rfl rfl (by repeat' (first | exact trivial | exact we_rfl rfl | exact weL_cB (repB _) | refine ⟨⟨_,rfl,?_⟩,?_⟩))) ⟨_,_,rfl,?_,?_,by simp,?_⟩ ?_
 ·rw [List.length_replicate,hdl];omega
 ·intro j hj;rw [List.getD_eq_getElem?_getD,List.getElem?_replicate] at hj;split at hj<;>cases hj
 ·have:cntB (List.replicate ((dNds ND).length:Int).toNat false)=0:=by unfold cntB;rw [List.countP_replicate];simp
  rw [this];simp
 rintro j st ⟨K,c,rfl,hK,hle,hcl,rfl⟩;refine br (fun hc=>?_) (fun hc=>?_)
 ·have hc:c=true:=hc;subst hc;refine loop_i (fun j st=>∃ (e:Nat) (K':List Bool) (c':Bool),st=sv2St ND D K' c' e/\e<=ND.length/\K'.length=ND.length/\LeB K' (sevS ND D)/\(c'=true->cntB K < cntB K')/\(c'=false->K'=K/\∀ i n,i < e->ND[i]? = some n->sevF n D K=true->K.getD i false=true)/\j=ND.length - e) ND.length (sv2St ND D K false 0) (weak_b 1 rfl (by repeat' (first | exact rfl | exact we_rfl rfl | exact weL_cB rfl | refine ⟨_,_,rfl,?_,?_⟩)) rfl rfl rfl (by repeat' (first | exact trivial | exact we_rfl rfl | exact weL_cB rfl | refine ⟨⟨_,rfl,?_⟩,?_⟩))) ⟨0,K,false,rfl,by omega,hK,hle,by simp,fun _=>⟨rfl,fun i _ hi=>by omega⟩,by omega⟩ ?_;rintro j st ⟨e,K',c',rfl,he,hK',hle',ht,hf,rfl⟩;refine br (fun hL=>?_) (fun hL=>?_)
  ·have hlt:e < ND.length:=by have:=hL;simp [hdl] at this;exact this
   obtain ⟨n,hn⟩:∃ n,ND[e]? = some n:=⟨_,gE hlt⟩;have hnm:=mG hn;obtain ⟨b,hb⟩:∃ b,K'[e]? = some b:=⟨_,gE (by omega)⟩;have hsv:=several_spec D K' (by omega) (by omega) (n:=n) (by rw [hl];exact hok n hnm) (hsz n hnm);refine ⟨_,⟨by omega,dNds_get hn⟩,?_⟩;refine ⟨⟨by omega,by rw [hdl];omega⟩,?_⟩;refine ⟨DV.v (.bool b),(by rw [show 0 + (e:Int).toNat * 1=e by omega];exact cB_get hb),?_⟩;have hgd:K'.getD e false=b:=by rw [List.getD_eq_getElem?_getD,hb];all_goals rfl
   have hcd:cntB K<=cntB K':=by
    cases c' with
    | true=>have:=ht rfl;omega
    | false=>rw [(hf rfl).1];omega
   refine br (fun g=>?_) (fun g=>?_)
   ·have g:b=false:=by simpa using g
    refine call_bf en316 hsv ⟨_,_,rfl,ax,_,_,rfl,ax,_,_,rfl,ms_b (by rw [hK',hdl]) (Nat.le_refl _) rfl,rfl⟩ rfl rfl ?_;refine br (fun g2=>?_) (fun g2=>?_)
    ·have g2:sevF n D K'=true:=by simpa [pickB,pickD] using g2
     refine ⟨⟨by omega,by rw [hdl];omega⟩,?_⟩;refine ⟨by rw [cB_len];omega,?_⟩
     have hst:(cB K').set (0 + (e:Int).toNat * 1) (DV.v (.bool true))=cB (K'.set e true):=by
      rw [show 0 + (e:Int).toNat * 1=e by omega,cB_set]
     have hcs:=cntB_set (K:=K') (i:=e) (by omega) (by rw [hgd];exact g);exact ⟨sv2St ND D (K'.set e true) true (e + 1),(weak_b 1 rfl (by repeat' (first | exact rfl | exact we_rfl rfl | exact weL_cB hst | exact we_int (nxt hlt (by omega)) | refine ⟨_,_,rfl,?_,?_⟩)) rfl rfl rfl (by repeat' (first | exact trivial | exact we_rfl rfl | exact weL_cB hst | exact we_int (nxt hlt (by omega)) | refine ⟨⟨_,rfl,?_⟩,?_⟩))),ND.length - (e + 1),by omega,e + 1,_,true,rfl,by omega,by rw [List.length_set];exact hK',sevS_set hle' hn g2,fun _=>by omega,fun h=>(by cases h),rfl⟩
    ·have g2:sevF n D K'=false:=by simpa [pickB,pickD] using g2
     refine ⟨sv2St ND D K' c' (e + 1),(weak_b 1 rfl (by repeat' (first | exact rfl | exact we_rfl rfl | exact weL_cB rfl | exact we_int (nxt hlt (by omega)) | refine ⟨_,_,rfl,?_,?_⟩)) rfl rfl rfl (by repeat' (first | exact trivial | exact we_rfl rfl | exact weL_cB rfl | exact we_int (nxt hlt (by omega)) | refine ⟨⟨_,rfl,?_⟩,?_⟩))),ND.length - (e + 1),by omega,e + 1,K',c',rfl,by omega,hK',hle',ht,fun hc=>⟨(hf hc).1,fun i m hi hm hs=>?_⟩,rfl⟩;rcases Nat.lt_succ_iff_lt_or_eq.1 hi with hi | rfl
     ·exact (hf hc).2 i m hi hm hs
     ·rw [hn] at hm;cases hm;rw [(hf hc).1] at g2;rw [g2] at hs;cases hs
   ·have g:b=true:=by simpa using g
    refine ⟨sv2St ND D K' c' (e + 1),(weak_b 1 rfl (by repeat' (first | exact rfl | exact we_rfl rfl | exact weL_cB rfl | exact we_int (nxt hlt (by omega)) | refine ⟨_,_,rfl,?_,?_⟩)) rfl rfl rfl (by repeat' (first | exact trivial | exact we_rfl rfl | exact weL_cB rfl | exact we_int (nxt hlt (by omega)) | refine ⟨⟨_,rfl,?_⟩,?_⟩))),ND.length - (e + 1),by omega,e + 1,K',c',rfl,by omega,hK',hle',ht,fun hc=>⟨(hf hc).1,fun i m hi hm hs=>?_⟩,rfl⟩;rcases Nat.lt_succ_iff_lt_or_eq.1 hi with hi | rfl
    ·exact (hf hc).2 i m hi hm hs
    ·rw [<- (hf hc).1,hgd];exact g
  ·have hge:e=ND.length:=by have:=hL;simp [hdl] at this;omega
   subst hge;have hcn:=cntB_le K';refine ⟨sv1St ND D K' c',(weak_mk ⟨_,rfl⟩ (by repeat' (first | exact rfl | exact we_rfl rfl | exact weL_cB rfl | refine ⟨_,_,rfl,?_,?_⟩)) rfl rfl rfl (by repeat' (first | exact trivial | exact we_rfl rfl | exact weL_cB rfl | refine ⟨⟨_,rfl,?_⟩,?_⟩))),ND.length - cntB K' + (if c'=true then 1 else 0),?_,K',c',rfl,hK',hle',?_,rfl⟩
   ·cases c' with
    | true=>have:=ht rfl;simp;omega
    | false=>rw [(hf rfl).1];simp
   ·intro hcf j n hn hs;obtain ⟨h2,h3⟩:=hf hcf;subst h2;exact h3 j n (gS hn).1 hn hs
 ·have hc:c=false:=hc;rw [<- sevS_eq hK hle (hcl hc)];exact ⟨_,ms_b (by rw [hK,hdl]) (Nat.zero_le _) rfl,rfl⟩
theorem severals_spec {S:Sch} {ND:List Nd} {PC:List DV} (hP:PlanR S ND PC):EvP Tryz.prog 201 [.pt PC 0] (.sl 1 (dBo (sevS ND (depN ND ND.length))) none):=
 severals_gen (nodes19_spec hP) (depths_spec hP) hP.ok hP.nl hP.esz fun _ _ _ _=>ax
theorem severals_nil:EvP Tryz.prog 201 [.v (.pointer none)] (.sl 1 [] none):=
 severals_gen (L:=0) nodes19_nil depths_nil (fun _ h=>by cases h) (by decide) (fun _ h=>by cases h) fun _ _ _ _=>ax
theorem cut_spec (z:Nat):EvP Tryz.prog 312 [.v (.int .i64 z)] (.v (.int .i64 (cutN z:Nat))):=by
 refine ev_go (P:=Tryz.prog) tt tt_ok 5000 6 [.tmp 2] Tryz.func312 rfl Tryz.ntmps312 rfl (nL rfl) (fun E9 w9 hn9 hm9=>?_);refine br (fun h=>?_) (fun h=>?_)
 ·have h:2 < z:=by have:=h;simp at this;omega
  refine (congrArg (fun z=>DV.v (.int .i64 z)) ?_:_=_);unfold cutN;rw [if_pos h];all_goals rfl
 ·have h:¬ 2 < z:=by have:=h;simp at this;omega
  refine (congrArg (fun z=>DV.v (.int .i64 z)) ?_:_=_);unfold cutN;rw [if_neg h]
theorem sumC_snoc (K:List Nat):∀ (es:List Ed) (a:Nat) (e:Ed),sumC K (es ++ [e]) a=cutN (sumC K es a + valE K e)
 | [],a,e=>rfl
 | x :: r,a,e=>by rw [List.cons_append,sumC,sumC,sumC_snoc K r]
theorem allC_snoc (K:List Nat):∀ (es:List Ed) (a:Nat) (e:Ed),allC K (es ++ [e]) a=cutN (allC K es a * valE K e)
 | [],a,e=>rfl
 | x :: r,a,e=>by rw [List.cons_append,allC,allC,allC_snoc K r]
theorem cutN_le (n:Nat):cutN n<=2:=by unfold cutN;split<;>omega
theorem sumC_le (K:List Nat):∀ (es:List Ed) (a:Nat),a<=2->sumC K es a<=2
 | [],a,h=>h
 | e :: r,a,_=>by rw [sumC];exact sumC_le K r _ (cutN_le _)
theorem allC_le (K:List Nat):∀ (es:List Ed) (a:Nat),a<=2->allC K es a<=2
 | [],a,h=>h
 | e :: r,a,_=>by rw [allC];exact allC_le K r _ (cutN_le _)
abbrev co19St (K:List Nat) (n:Nd) (s a e:Nat):St:=
 ⟨[(1,⟨[],.sl 1 (dInts K) none⟩),(2,⟨[],.loc 0 0⟩),(5,⟨[],.v (.int .i64 s)⟩),(6,⟨[],.v (.int .i64 a)⟩),(7,⟨[],.v (.int .i64 e)⟩)],[dNd n],[]⟩
theorem count19_spec {L:Nat} {n:Nd} (K:List Nat) (hK:K.length<=1099511627776) (hz:∀ z∈K,z<=2) (hn:NdOK L K.length n) (hel:n.edges.length<=1099511627776) (hnl:n.names.length<=1099511627776) :
  EvP Tryz.prog 193 [.agg (dNd n),.sl 1 (dInts K) none] (.v (.int .i64 (countF n K:Nat))):=by
 have hedge:=hn.edge;have hm3:=hn.most3;have hm5:=hn.most5;obtain ⟨kind,at',lo,hi,most,names,es⟩:=n;simp only at hedge hel hm3 hm5 hnl;have hbl:=dBs_len names;refine ev_go (P:=Tryz.prog) tt tt_ok 5000 80 [.tmp 4] Tryz.func193 rfl Tryz.ntmps193 rfl (nL rfl) (fun E9 w9 hn9 hm9=>?_);refine loop_i (fun j st=>∃ e:Nat,st=co19St K ⟨kind,at',lo,hi,most,names,es⟩ (sumC K (es.take e) 0) (allC K (es.take e) 1) e/\e<=es.length/\j=es.length - e) es.length (co19St K ⟨kind,at',lo,hi,most,names,es⟩ 0 1 0) (weak_mk ⟨_,rfl⟩ wA rfl rfl rfl wB) ⟨0,rfl,by omega,by omega⟩ ?_;rintro j st ⟨e,rfl,he,rfl⟩;have hs2:=sumC_le K (es.take e) 0 (by omega);have ha2:=allC_le K (es.take e) 1 (by omega);refine br (fun hL=>?_) (fun hL=>?_)
 ·have hlt:e < es.length:=by have:=hL;simp [dEds_len] at this;exact this
  obtain ⟨x,hx⟩:∃ x,es[e]? = some x:=⟨_,gE hlt⟩;have hxo:=hedge x (mG hx);have htk:es.take (e + 1)=es.take e ++ [x]:=by rw [List.take_add_one,hx];all_goals rfl
  have hs:=sumC_snoc K (es.take e) 0 x;have ha:=allC_snoc K (es.take e) 1 x;rw [<- htk] at hs ha;generalize sumC K (es.take e) 0=s at hs hs2 ⊢;generalize allC K (es.take e) 1=a at ha ha2 ⊢;refine ⟨_,⟨by omega,dEds_get hx⟩,?_⟩;refine br (fun hb=>?_) (fun hb=>?_)
  ·have hb:x.bare=false:=by simpa using hb
   obtain ⟨k,hk,hkl⟩:=hxo.to1 hb;obtain ⟨z,hz1⟩:∃ z,K[k]? = some z:=⟨_,gE hkl⟩;have hv:valE K x=z:=by simp [valE,hb,edN,hk,List.getD_eq_getElem?_getD,hz1]
   have hz2:=hz z (mG hz1);rw [hv] at hs ha;refine ⟨_,⟨by omega,dEds_get hx⟩,?_⟩;refine ⟨_,⟨by omega,by rw [hk];exact dInts_get hz1⟩,?_⟩;have hw1:IntKind.i64.wrap ((s:Int) + (z:Int))=((s + z:Nat):Int):=by rw [wrap64 (by omega) (by omega)];omega
   have hm2:a * z<=4:=Nat.le_trans (Nat.mul_le_mul ha2 hz2) (by omega);have hc2:(a:Int) * (z:Int)=((a * z:Nat):Int):=by push_cast;rfl
   have hw2:IntKind.i64.wrap ((a:Int) * (z:Int))=((a * z:Nat):Int):=by rw [hc2,wrap64 (by omega) (by omega)]
   have e1:((cutN (s + z):Nat):Int)=((sumC K (es.take (e + 1)) 0:Nat):Int):=by rw [hs]
   have e2:((cutN (a * z):Nat):Int)=((allC K (es.take (e + 1)) 1:Nat):Int):=by rw [ha]
   refine call_p en312 (cut_spec (s + z)) (by repeat' (first | exact rfl | exact trivial | exact Or.inr (Or.inl ⟨_,rfl⟩) | exact Or.inr ⟨_,rfl⟩ | exact Or.inl ⟨rfl,rfl⟩ | exact Or.inl rfl | refine Or.inr ⟨_,_,rfl,Nat.zero_le _,rfl,?_⟩ | refine ⟨_,_,rfl,?_,?_⟩ | refine ⟨_,rfl,?_⟩ | exact congrArg (fun z=>DV.v (.int .i64 z)) hw1| refine Or.inr (Or.inr (Or.inr ⟨_,_,rfl,?_⟩)) | exact Or.inl rfl | refine Or.inr ?_)) rfl ?_;refine call_p en312 (cut_spec (a * z)) (by repeat' (first | exact rfl | exact trivial | exact Or.inr (Or.inl ⟨_,rfl⟩) | exact Or.inr ⟨_,rfl⟩ | exact Or.inl ⟨rfl,rfl⟩ | exact Or.inl rfl | refine Or.inr ⟨_,_,rfl,Nat.zero_le _,rfl,?_⟩ | refine ⟨_,_,rfl,?_,?_⟩ | refine ⟨_,rfl,?_⟩ | exact congrArg (fun z=>DV.v (.int .i64 z)) hw2| refine Or.inr (Or.inr (Or.inr ⟨_,_,rfl,?_⟩)) | exact Or.inl rfl | refine Or.inr ?_)) rfl ?_;exact ⟨co19St K ⟨kind,at',lo,hi,most,names,es⟩ (sumC K (es.take (e + 1)) 0) (allC K (es.take (e + 1)) 1) (e + 1),(weak_mk ⟨_,rfl⟩ wA rfl rfl rfl (by repeat' (first | exact trivial | exact we_rfl rfl | exact we_int e1 | exact we_int e2 | exact we_int (nxt hlt (by omega)) | refine ⟨⟨_,rfl,?_⟩,?_⟩))),es.length - (e + 1),by omega,e + 1,rfl,by omega,rfl⟩
  ·have hb:x.bare=true:=by simpa using hb
   have hv:valE K x=1:=by simp [valE,hb]
   rw [hv] at hs ha;have hw1:IntKind.i64.wrap ((s:Int) + 1)=((s + 1:Nat):Int):=by rw [wrap64 (by omega) (by omega)];omega
   have hm2:a * 1<=4:=Nat.le_trans (Nat.mul_le_mul ha2 (show 1<=2 by omega)) (by omega);have hc2:(a:Int) * 1=((a * 1:Nat):Int):=by push_cast;rfl
   have hw2:IntKind.i64.wrap ((a:Int) * 1)=((a * 1:Nat):Int):=by rw [hc2,wrap64 (by omega) (by omega)]
   have e1:((cutN (s + 1):Nat):Int)=((sumC K (es.take (e + 1)) 0:Nat):Int):=by rw [hs]
   have e2:((cutN (a * 1):Nat):Int)=((allC K (es.take (e + 1)) 1:Nat):Int):=by rw [ha]
   refine call_p en312 (cut_spec (s + 1)) (by repeat' (first | exact rfl | exact trivial | exact Or.inr (Or.inl ⟨_,rfl⟩) | exact Or.inr ⟨_,rfl⟩ | exact Or.inl ⟨rfl,rfl⟩ | exact Or.inl rfl | refine Or.inr ⟨_,_,rfl,Nat.zero_le _,rfl,?_⟩ | refine ⟨_,_,rfl,?_,?_⟩ | refine ⟨_,rfl,?_⟩ | exact congrArg (fun z=>DV.v (.int .i64 z)) hw1| refine Or.inr (Or.inr (Or.inr ⟨_,_,rfl,?_⟩)) | exact Or.inl rfl | refine Or.inr ?_)) rfl ?_;refine call_p en312 (cut_spec (a * 1)) (by repeat' (first | exact rfl | exact trivial | exact Or.inr (Or.inl ⟨_,rfl⟩) | exact Or.inr ⟨_,rfl⟩ | exact Or.inl ⟨rfl,rfl⟩ | exact Or.inl rfl | refine Or.inr ⟨_,_,rfl,Nat.zero_le _,rfl,?_⟩ | refine ⟨_,_,rfl,?_,?_⟩ | refine ⟨_,rfl,?_⟩ | exact congrArg (fun z=>DV.v (.int .i64 z)) hw2| refine Or.inr (Or.inr (Or.inr ⟨_,_,rfl,?_⟩)) | exact Or.inl rfl | refine Or.inr ?_)) rfl ?_;exact ⟨co19St K ⟨kind,at',lo,hi,most,names,es⟩ (sumC K (es.take (e + 1)) 0) (allC K (es.take (e + 1)) 1) (e + 1),(weak_mk ⟨_,rfl⟩ wA rfl rfl rfl (by repeat' (first | exact trivial | exact we_rfl rfl | exact we_int e1 | exact we_int e2 | exact we_int (nxt hlt (by omega)) | refine ⟨⟨_,rfl,?_⟩,?_⟩))),es.length - (e + 1),by omega,e + 1,rfl,by omega,rfl⟩
 ·have hge:e=es.length:=by have:=hL;simp [dEds_len] at this;omega
  subst hge;rw [List.take_length] at hs2 ha2 ⊢;refine br (fun c1=>?_) (fun c1=>?_)
  ·have c1:kind=1:=by simpa using c1
   refine (congrArg (fun z=>DV.v (.int .i64 z)) ?_:_=_);simp [countF,c1]
  have c1:¬ kind=1:=by simpa using c1
  refine br (fun c2=>?_) (fun c2=>?_)
  ·have c2:kind=2:=by simpa using c2
   refine br (fun g=>?_) (fun g=>?_)
   ·have g:lo < hi:=by simpa using g
    refine (congrArg (fun z=>DV.v (.int .i64 z)) ?_:_=_);simp [countF,c2,g]
   ·have g:¬ lo < hi:=by simpa using g
    refine (congrArg (fun z=>DV.v (.int .i64 z)) ?_:_=_);simp [countF,c2,g]
  have c2:¬ kind=2:=by simpa using c2
  refine br (fun c3=>?_) (fun c3=>?_)
  ·have c3:kind=3:=by simpa using c3
   have hm:=hm3 c3;have hw:IntKind.i64.wrap (1 + most)=((1 + most.toNat:Nat):Int):=by rw [wrap64 (by omega) (by omega)];omega
   refine call_p en312 (cut_spec (1 + most.toNat)) (by repeat' (first | exact rfl | exact trivial | exact Or.inr (Or.inl ⟨_,rfl⟩) | exact Or.inr ⟨_,rfl⟩ | exact Or.inl ⟨rfl,rfl⟩ | exact Or.inl rfl | refine Or.inr ⟨_,_,rfl,Nat.zero_le _,rfl,?_⟩ | refine ⟨_,_,rfl,?_,?_⟩ | refine ⟨_,rfl,?_⟩ | exact congrArg (fun z=>DV.v (.int .i64 z)) hw| refine Or.inr (Or.inr (Or.inr ⟨_,_,rfl,?_⟩)) | exact Or.inl rfl | refine Or.inr ?_)) rfl ?_;refine (congrArg (fun z=>DV.v (.int .i64 z)) ?_:_=_);simp [countF,c3]
  have c3:¬ kind=3:=by simpa using c3
  refine br (fun c4=>?_) (fun c4=>?_)
  ·have c4:kind=4:=by simpa using c4
   refine call_p en312 (cut_spec names.length) (by repeat' (first | exact rfl | exact trivial | exact Or.inr (Or.inl ⟨_,rfl⟩) | exact Or.inr ⟨_,rfl⟩ | exact Or.inl ⟨rfl,rfl⟩ | exact Or.inl rfl | refine Or.inr ⟨_,_,rfl,Nat.zero_le _,rfl,?_⟩ | refine ⟨_,_,rfl,?_,?_⟩ | refine ⟨_,rfl,?_⟩ | exact congrArg (fun z=>DV.v (.int .i64 z)) (congrArg Nat.cast hbl)| refine Or.inr (Or.inr (Or.inr ⟨_,_,rfl,?_⟩)) | exact Or.inl rfl | refine Or.inr ?_)) rfl ?_;refine (congrArg (fun z=>DV.v (.int .i64 z)) ?_:_=_);simp [countF,c4]
  have c4:¬ kind=4:=by simpa using c4
  refine br (fun c5=>?_) (fun c5=>?_)
  ·have c5:kind=5:=by simpa using c5
   have hw:IntKind.i64.wrap (1 + ((sumC K es 0:Nat):Int))=((1 + sumC K es 0:Nat):Int):=by rw [wrap64 (by omega) (by omega)];omega
   refine br (fun g=>?_) (fun g=>?_)
   ·have g:most=0:=by simpa using g
    refine (congrArg (fun z=>DV.v (.int .i64 z)) ?_:_=_);simp [countF,c5,g]
   ·have g:¬ most=0:=by simpa using g
    refine call_p en312 (cut_spec (1 + sumC K es 0)) (by repeat' (first | exact rfl | exact trivial | exact Or.inr (Or.inl ⟨_,rfl⟩) | exact Or.inr ⟨_,rfl⟩ | exact Or.inl ⟨rfl,rfl⟩ | exact Or.inl rfl | refine Or.inr ⟨_,_,rfl,Nat.zero_le _,rfl,?_⟩ | refine ⟨_,_,rfl,?_,?_⟩ | refine ⟨_,rfl,?_⟩ | exact congrArg (fun z=>DV.v (.int .i64 z)) hw| refine Or.inr (Or.inr (Or.inr ⟨_,_,rfl,?_⟩)) | exact Or.inl rfl | refine Or.inr ?_)) rfl ?_;refine (congrArg (fun z=>DV.v (.int .i64 z)) ?_:_=_);simp [countF,c5,g]
  have c5:¬ kind=5:=by simpa using c5
  refine br (fun c6=>?_) (fun c6=>?_)
  ·have c6:kind=6:=by simpa using c6
   have hw:IntKind.i64.wrap (1 + ((sumC K es 0:Nat):Int))=((1 + sumC K es 0:Nat):Int):=by rw [wrap64 (by omega) (by omega)];omega
   refine call_p en312 (cut_spec (1 + sumC K es 0)) (by repeat' (first | exact rfl | exact trivial | exact Or.inr (Or.inl ⟨_,rfl⟩) | exact Or.inr ⟨_,rfl⟩ | exact Or.inl ⟨rfl,rfl⟩ | exact Or.inl rfl | refine Or.inr ⟨_,_,rfl,Nat.zero_le _,rfl,?_⟩ | refine ⟨_,_,rfl,?_,?_⟩ | refine ⟨_,rfl,?_⟩ | exact congrArg (fun z=>DV.v (.int .i64 z)) hw| refine Or.inr (Or.inr (Or.inr ⟨_,_,rfl,?_⟩)) | exact Or.inl rfl | refine Or.inr ?_)) rfl ?_;refine (congrArg (fun z=>DV.v (.int .i64 z)) ?_:_=_);simp [countF,c6]
  have c6:¬ kind=6:=by simpa using c6
  refine br (fun c7=>?_) (fun c7=>?_)
  ·have c7:kind=7:=by simpa using c7
   refine (congrArg (fun z=>DV.v (.int .i64 z)) ?_:_=_);simp [countF,c7]
  have c7:¬ kind=7:=by simpa using c7
  refine (congrArg (fun z=>DV.v (.int .i64 z)) ?_:_=_);simp [countF,c1,c2,c3,c4,c5,c6,c7]
theorem qL_zero (D:List Nat) (ND:List Nd) (i:Nat):(qL D (sevN ND D 0)).getD i 0=if D.getD i 0=0 then 0 else 1:=by
 have h0:(sevN ND D 0).getD i false=false:=by
  rw [sevN,List.getD_eq_getElem?_getD,List.getElem?_replicate];split<;>rfl
 rw [qL_get,h0];unfold qF;simp
theorem qL_small (D:List Nat) (S:List Bool):∀ z∈qL D S,z<=2:=fun z hz=>by
 unfold qL at hz;obtain ⟨i,_,rfl⟩:=List.mem_map.1 hz;unfold qF;split
 ·omega
 ·split<;>omega
abbrev mn1St (W:List DV) (D L:List Nat) (n i:Nat):St:=
 ⟨[(1,⟨[],.loc 0 0⟩),(3,⟨[],.sl 1 (dInts D) none⟩),(4,⟨[],.ms 1 1 0 n n⟩),(5,⟨[],.v (.int .i64 i)⟩)],[W,cN L],[]⟩
abbrev mn2St (W:List DV) (D K:List Nat) (t:Nat):St:=
 ⟨[(1,⟨[],.loc 0 0⟩),(3,⟨[],.sl 1 (dInts D) none⟩),(4,⟨[],.sl 1 (dInts K) none⟩),(6,⟨[],.v (.int .i64 t)⟩)],[W],[]⟩
abbrev mn3St (W:List DV) (D K M:List Nat) (n t i:Nat):St:=
 ⟨[(1,⟨[],.loc 0 0⟩),(3,⟨[],.sl 1 (dInts D) none⟩),(4,⟨[],.sl 1 (dInts K) none⟩),(6,⟨[],.v (.int .i64 t)⟩),(7,⟨[],.ms 1 1 0 n n⟩),(8,⟨[],.v (.int .i64 i)⟩)],[W,cN M],[]⟩
theorem getD_set {L:List Nat} {i e v:Nat} (he:e < L.length):(L.set e v).getD i 0=if i=e then v else L.getD i 0:=by
 by_cases h:i=e
 ·subst h;rw [if_pos rfl,List.getD_eq_getElem?_getD,List.getElem?_set_self he];all_goals rfl
 ·rw [if_neg h,List.getD_eq_getElem?_getD,List.getElem?_set_ne (Ne.symm h),<- List.getD_eq_getElem?_getD]
theorem many19_spec (a b:Nat) (A B:List (List DV)) {ND:List Nd} {L:Nat} (z:Int) (hok:∀ n∈ND,NdOK L ND.length n) (hnl:ND.length<=1099511627776) (hsz:∀ n∈ND,n.edges.length<=1099511627776) (hsn:∀ n∈ND,n.names.length<=1099511627776) :
  EvP Tryz.prog 83 [.agg (wG a b A B ND z)] (.sl 1 (dInts (qL (depN ND ND.length) (sevS ND (depN ND ND.length)))) none):=by
 have hdl:=dNds_len ND;have h0:=depths19_spec a b A B z hok hnl hsz;have hl:=depN_len ND ND.length;have hget:=depN_get ND ND.length;rw [depN_end] at hget;generalize depN ND ND.length=D at h0 hl hget ⊢;have hql:=qL_len D;have hstep:=fun t i n (h:ND[i]? = some n)=>qL_step hok hl hget t h;refine ev_go (P:=Tryz.prog) tt tt_ok 5000 66 [.tmp 2] Tryz.func83 rfl Tryz.ntmps83 rfl (nL rfl) (fun E9 w9 hn9 hm9=>?_);refine call_p en82 (h0) ax rfl ?_;refine ⟨⟨rfl,by omega,by rw [hdl];omega,by rw [hdl];omega⟩,?_⟩;refine loop_i (fun j st=>∃ (i:Nat) (L:List Nat),st=mn1St (wG a b A B ND z) D L (dNds ND).length i/\i<=ND.length/\L.length=ND.length/\(∀ k:Nat,k < i->L.getD k 0=(qL D (sevN ND D 0)).getD k 0)/\(∀ k:Nat,i<=k->L.getD k 0=0)/\j=ND.length - i) ND.length (mn1St (wG a b A B ND z) D (List.replicate ((dNds ND).length:Int).toNat 0) (dNds ND).length 0) (weak_b 2 rfl (by repeat' (first | exact rfl | exact we_rfl rfl | exact weL_cN (repN _) | refine ⟨_,_,rfl,?_,?_⟩)) rfl rfl rfl (by repeat' (first | exact trivial | exact we_rfl rfl | exact weL_cN (repN _) | refine ⟨⟨_,rfl,?_⟩,?_⟩))) ⟨0,_,rfl,by omega,by rw [List.length_replicate,hdl];omega,fun _ h=>by omega,fun k _=>by rw [List.getD_eq_getElem?_getD,List.getElem?_replicate];split<;>rfl,by omega⟩ ?_;rintro j st ⟨i,L,rfl,hi,hL,hv1,hv2,rfl⟩;refine br (fun hlt=>?_) (fun hlt=>?_)
 ·have hlt:i < ND.length:=by have:=hlt;simp [hdl] at this;exact this
  obtain ⟨k,hk⟩:∃ k,D[i]? = some k:=⟨_,gE (by omega)⟩;have hkd:D.getD i 0=k:=by rw [List.getD_eq_getElem?_getD,hk];all_goals rfl
  have hq:=qL_zero D ND i;rw [hkd] at hq;refine ⟨_,⟨by omega,dInts_get hk⟩,?_⟩;refine br (fun g=>?_) (fun g=>?_)
  ·have g:0 < k:=by simpa using g
   rw [if_neg (by omega)] at hq;refine ⟨⟨by omega,by rw [hdl];omega⟩,?_⟩;refine ⟨by rw [cN_len];omega,?_⟩
   have hst:(cN L).set (0 + (i:Int).toNat * 1) (DV.v (.int .i64 1))=cN (L.set i 1):=by
    rw [show 0 + (i:Int).toNat * 1=i by omega];exact cN_set L i 1
   refine ⟨mn1St (wG a b A B ND z) D (L.set i 1) (dNds ND).length (i + 1),(weak_b 2 rfl (by repeat' (first | exact rfl | exact we_rfl rfl | exact weL_cN hst | exact we_int (nxt hlt (by omega)) | refine ⟨_,_,rfl,?_,?_⟩)) rfl rfl rfl (by repeat' (first | exact trivial | exact we_rfl rfl | exact weL_cN hst | exact we_int (nxt hlt (by omega)) | refine ⟨⟨_,rfl,?_⟩,?_⟩))),ND.length - (i + 1),by omega,i + 1,_,rfl,by omega,by rw [List.length_set];exact hL,fun j hj=>?_,fun j hj=>?_,rfl⟩
   ·rw [getD_set (by omega)];split
    ·rename_i h;rw [h,hq]
    ·exact hv1 j (by omega)
   ·rw [getD_set (by omega),if_neg (by omega)];exact hv2 j (by omega)
  ·have g:k=0:=by have:=g;simp at this;omega
   rw [if_pos g] at hq;refine ⟨mn1St (wG a b A B ND z) D L (dNds ND).length (i + 1),(weak_b 2 rfl (by repeat' (first | exact rfl | exact we_rfl rfl | exact weL_cN rfl | exact we_int (nxt hlt (by omega)) | refine ⟨_,_,rfl,?_,?_⟩)) rfl rfl rfl (by repeat' (first | exact trivial | exact we_rfl rfl | exact weL_cN rfl | exact we_int (nxt hlt (by omega)) | refine ⟨⟨_,rfl,?_⟩,?_⟩))),ND.length - (i + 1),by omega,i + 1,_,rfl,by omega,hL,fun j hj=>?_,fun j hj=>hv2 j (by omega),rfl⟩;rcases Nat.lt_succ_iff_lt_or_eq.1 hj with hj | rfl
   ·exact hv1 j hj
   ·rw [hq,hv2 j (Nat.le_refl _)]
 have hge:i=ND.length:=by have:=hlt;simp [hdl] at this;omega
 subst hge
 have hLq:L=qL D (sevN ND D 0):=getD_ext (by rw [hL,hql,hl]) fun j=>by
  rcases Nat.lt_or_ge j ND.length with hj | hj
  ·exact hv1 j hj
  ·rw [hv2 j hj,List.getD_eq_getElem?_getD,List.getElem?_eq_none (by rw [hql,hl];exact hj)];all_goals rfl
 subst hLq;refine loop_w (fun j st=>∃ t:Nat,st=mn2St (wG a b A B ND z) D (qL D (sevN ND D t)) t/\t<=ND.length + 1/\j=ND.length + 1 - t) (ND.length + 1) (mn2St (wG a b A B ND z) D (qL D (sevN ND D 0)) 0) (.frz 1 rfl rfl ⟨_,_,rfl,ax,rfl⟩ rfl ⟨⟨_,rfl,aL⟩,⟨_,rfl,ax⟩,⟨_,rfl,ms_n (by rw [hql,hl,hdl]) (Nat.le_refl _) rfl⟩,⟨_,rfl,ax⟩,trivial⟩) ⟨0,rfl,by omega,by omega⟩ ?_;rintro j st ⟨t,rfl,ht,rfl⟩;refine br (fun hlt=>?_) (fun hlt=>?_)
 ·have hlt:t<=ND.length:=by have:=hlt;simp [hdl] at this;omega
  refine ⟨⟨rfl,by omega,by rw [hdl];omega,by rw [hdl];omega⟩,?_⟩;refine loop_i (fun j st=>∃ (i:Nat) (M:List Nat),st=mn3St (wG a b A B ND z) D (qL D (sevN ND D t)) M (dNds ND).length t i/\i<=ND.length/\M.length=ND.length/\(∀ k:Nat,k < i->M.getD k 0=(qL D (sevN ND D (t + 1))).getD k 0)/\j=ND.length - i) ND.length (mn3St (wG a b A B ND z) D (qL D (sevN ND D t)) (List.replicate ((dNds ND).length:Int).toNat 0) (dNds ND).length t 0) (weak_b 2 rfl (by repeat' (first | exact rfl | exact we_rfl rfl | exact weL_cN (repN _) | refine ⟨_,_,rfl,?_,?_⟩)) rfl rfl rfl (by repeat' (first | exact trivial | exact we_rfl rfl | exact weL_cN (repN _) | refine ⟨⟨_,rfl,?_⟩,?_⟩))) ⟨0,_,rfl,by omega,by rw [List.length_replicate,hdl];omega,fun _ h=>by omega,by omega⟩ ?_;rintro j st ⟨i,M,rfl,hi,hM,hv,rfl⟩;have hqt:=hql (sevN ND D t);have hqi:=dInts_len (qL D (sevN ND D t));refine br (fun hlt2=>?_) (fun hlt2=>?_)
  ·have hlt2:i < ND.length:=by have:=hlt2;simp [hqi,hqt,hl] at this;exact this
   obtain ⟨n,hn⟩:∃ n,ND[i]? = some n:=⟨_,gE hlt2⟩;have hnm:=mG hn;obtain ⟨k,hk⟩:∃ k,D[i]? = some k:=⟨_,gE (by omega)⟩;have hkd:D.getD i 0=k:=by rw [List.getD_eq_getElem?_getD,hk];all_goals rfl
   have hs:=hstep t i n hn;rw [hkd] at hs;have hc:=count19_spec (qL D (sevN ND D t)) (by omega) (qL_small _ _) (n:=n) (by rw [hqt,hl];exact hok n hnm) (hsz n hnm) (hsn n hnm);refine ⟨_,⟨by omega,dNds_get hn⟩,?_⟩;refine call_p en193 (hc) ax rfl ?_;generalize countF n (qL D (sevN ND D t))=q at hs ⊢;refine ⟨⟨by omega,by rw [hdl];omega⟩,?_⟩;refine ⟨by rw [cN_len];omega,?_⟩
   have hst:(cN M).set (0 + (i:Int).toNat * 1) (DV.v (.int .i64 (q:Int)))=cN (M.set i q):=by
    rw [show 0 + (i:Int).toNat * 1=i by omega];exact cN_set M i q
   refine ⟨_,⟨by omega,dInts_get hk⟩,?_⟩;refine br (fun g=>?_) (fun g=>?_)
   ·have g:k=0:=by simpa using g
    rw [if_pos g] at hs;refine ⟨⟨by omega,by rw [hdl];omega⟩,?_⟩;refine ⟨by rw [List.length_set,cN_len];omega,?_⟩
    have hst2:((cN M).set (0 + (i:Int).toNat * 1) (DV.v (.int .i64 (q:Int)))).set (0 + (i:Int).toNat * 1) (DV.v (.int .i64 0))=cN ((M.set i q).set i 0):=by
     rw [hst,show 0 + (i:Int).toNat * 1=i by omega];exact cN_set (M.set i q) i 0
    refine ⟨mn3St (wG a b A B ND z) D (qL D (sevN ND D t)) ((M.set i q).set i 0) (dNds ND).length t (i + 1),(weak_b 2 rfl (by repeat' (first | exact rfl | exact we_rfl rfl | exact weL_cN hst2 | exact we_int (nxt hlt2 (by omega)) | refine ⟨_,_,rfl,?_,?_⟩)) rfl rfl rfl (by repeat' (first | exact trivial | exact we_rfl rfl | exact weL_cN hst2 | exact we_int (nxt hlt2 (by omega)) | refine ⟨⟨_,rfl,?_⟩,?_⟩))),ND.length - (i + 1),by omega,i + 1,_,rfl,by omega,by simp [hM],fun j hj=>?_,rfl⟩;rw [getD_set (by rw [List.length_set];omega)];split
    ·rename_i h;rw [h,hs]
    ·rename_i h;rw [getD_set (by omega),if_neg h];exact hv j (by omega)
   ·have g:¬ k=0:=by simpa using g
    rw [if_neg g] at hs;refine ⟨mn3St (wG a b A B ND z) D (qL D (sevN ND D t)) (M.set i q) (dNds ND).length t (i + 1),(weak_b 2 rfl (by repeat' (first | exact rfl | exact we_rfl rfl | exact weL_cN hst | exact we_int (nxt hlt2 (by omega)) | refine ⟨_,_,rfl,?_,?_⟩)) rfl rfl rfl (by repeat' (first | exact trivial | exact we_rfl rfl | exact weL_cN hst | exact we_int (nxt hlt2 (by omega)) | refine ⟨⟨_,rfl,?_⟩,?_⟩))),ND.length - (i + 1),by omega,i + 1,_,rfl,by omega,by simp [hM],fun j hj=>?_,rfl⟩;rw [getD_set (by omega)];split
    ·rename_i h;rw [h,hs]
    ·exact hv j (by omega)
  ·have hge:i=ND.length:=by have:=hlt2;simp [hqi,hqt,hl] at this;omega
   subst hge
   have hMq:M=qL D (sevN ND D (t + 1)):=getD_ext (by rw [hM,hql,hl]) fun j=>by
    rcases Nat.lt_or_ge j ND.length with hj | hj
    ·exact hv j hj
    ·simp only [List.getD_eq_getElem?_getD];rw [List.getElem?_eq_none (by omega),List.getElem?_eq_none (by rw [hql,hl];exact hj)]
   subst hMq;refine ⟨mn2St (wG a b A B ND z) D (qL D (sevN ND D (t + 1))) (t + 1),.frz 1 rfl rfl ⟨_,_,rfl,ax,rfl⟩ rfl ⟨⟨_,rfl,aL⟩,⟨_,rfl,ax⟩,⟨_,rfl,ms_n (by rw [hql,hl,hdl]) (Nat.le_refl _) rfl⟩,⟨_,rfl,?_⟩,trivial⟩,ND.length + 1 - (t + 1),by omega,t + 1,rfl,by omega,rfl⟩;exact congrArg (fun z=>DV.v (Value.int .i64 z)) (nxt (n:=1099511627777) (by omega) (by omega))
 ·have hge:t=ND.length + 1:=by have:=hlt;simp [hdl] at this;omega
  subst hge;have:=sevN_top ND D 1;rw [this];exact ⟨_,ax,rfl⟩
theorem sevS_q {L:Nat} {ND:List Nd} {D:List Nat} (hok:∀ n∈ND,NdOK L ND.length n) (hget:∀ j,D.getD j 0=match ND[j]? with | none=>0 | some n=>leastF n D) (i:Nat):(sevS ND D).getD i false=decide (1 < (qL D (sevS ND D)).getD i 0):=by
 rw [qL_get]
 have hs:(sevS ND D).getD i false=match ND[i]? with | none=>false | some n=>sevF n D (sevS ND D):=by
  have:=sevN_get ND D ND.length i;rw [sevN_top ND D 1] at this;exact this
 have hd:=hget i
 cases hn:ND[i]? with
 | none=>
  rw [hn] at hs;have hs:(sevS ND D).getD i false=false:=hs;rw [hs];unfold qF;simp;split<;>omega
 | some n=>
  rw [hn] at hs hd;have hd:D.getD i 0=leastF n D:=hd;unfold qF;cases hb:(sevS ND D).getD i false
  ·simp;split<;>omega
  ·have hs:(sevS ND D).getD i false=sevF n D (sevS ND D):=hs;rw [hb] at hs;have:=sevF_dep (hok n (mG hn)) hs.symm;rw [if_neg (by omega)];simp
def dpE (D:List Nat) (e:Ed):Nat:=if e.bare=true then 0 else edN D e
def minP (D:List Nat) (es:List Ed) (k:Nat):Bool:=match es[k]? with | some e=>thB D e && es.all (fun x=>!thB D x || decide (dpE D e<=dpE D x)) | none=>false
def chooseF (D:List Nat) (es:List Ed):Option Nat:=firstN (minP D es) es.length
theorem minP_iff {D:List Nat} {es:List Ed} {k:Nat}:minP D es k=true↔∃ e,es[k]? = some e/\thB D e=true/\∀ x∈es,thB D x=true->dpE D e<=dpE D x:=by
 unfold minP
 cases h:es[k]? with
 | none=>simp
 | some e=>
  simp only [Bool.and_eq_true,List.all_eq_true,Bool.or_eq_true,Bool.not_eq_true',decide_eq_true_eq,oI,exists_eq_left'];refine and_congr_right fun _=>forall_congr' fun x=>forall_congr' fun _=>?_;cases thB D x<;>simp
theorem choose_of {D:List Nat} {es:List Ed} {k:Nat} {e:Ed} (h:es[k]? = some e) (ht:thB D e=true) (h1:∀ x∈es,thB D x=true->dpE D e<=dpE D x) (h2:∀ j x,j < k->es[j]? = some x->thB D x=true->dpE D e < dpE D x):chooseF D es=some k:=by
 refine firstN_some (gS h).1 (minP_iff.2 ⟨e,h,ht,h1⟩) fun j hj=>?_
 cases hm:minP D es j with
 | false=>rfl
 | true=>
  obtain ⟨x,hx,hxt,hxm⟩:=minP_iff.1 hm;have:=h2 j x hj hx hxt;have:=hxm e (mG h) ht;omega
theorem choose_none {D:List Nat} {es:List Ed} (h:∀ x∈es,thB D x=false):chooseF D es=none:=by
 refine firstN_none fun j _=>?_
 cases hm:minP D es j with
 | false=>rfl
 | true=>
  obtain ⟨x,hx,hxt,_⟩:=minP_iff.1 hm;rw [h x (mG hx)] at hxt;cases hxt
theorem choose_some {D:List Nat} {es:List Ed} {k:Nat} (h:chooseF D es=some k):∃ e,es[k]? = some e/\thB D e=true/\∀ x∈es,thB D x=true->dpE D e<=dpE D x:=minP_iff.1 (firstN_spec h).2.1
theorem choose_ex {D:List Nat}:∀ (m:Nat) {es:List Ed} {x:Ed},x∈es->thB D x=true->dpE D x<=m->∃ k,chooseF D es=some k:=by
 intro m
 induction m with
 | zero=>
  intro es x hx ht hm
  cases hc:chooseF D es with
  | some k=>exact ⟨k,rfl⟩
  | none=>
   obtain ⟨j,hj,rfl⟩:=List.getElem_of_mem hx;have:=firstN_none_iff hc j hj;rw [minP_iff.2 ⟨_,gE hj,ht,fun y _ _=>by omega⟩] at this;cases this
 | succ m ih=>
  intro es x hx ht hm;by_cases hy:∃ y∈es,thB D y=true/\dpE D y<=m
  ·obtain ⟨y,h1,h2,h3⟩:=hy;exact ih h1 h2 h3
  ·cases hc:chooseF D es with
   | some k=>exact ⟨k,rfl⟩
   | none=>
    obtain ⟨j,hj,rfl⟩:=List.getElem_of_mem hx;have:=firstN_none_iff hc j hj
    rw [minP_iff.2 ⟨_,gE hj,ht,fun y h1 h2=>by
     refine Nat.le_of_not_lt fun h=>hy ⟨y,h1,h2,by omega⟩⟩] at this
    cases this
def turnP (D:List Nat) (es:List Ed) (k:Nat):Bool:=decide (chooseF D es≠some k) && (match es[k]? with | some e=>thB D e | none=>false)
def turnF (D:List Nat) (es:List Ed):Option Nat:=firstN (turnP D es) es.length
theorem turnP_at {D:List Nat} {es:List Ed} {k:Nat} {e:Ed} (h:es[k]? = some e):turnP D es k=(decide (chooseF D es≠some k) && thB D e):=by unfold turnP;rw [h]
theorem turn_some {D:List Nat} {es:List Ed} {k:Nat} (h:turnF D es=some k):∃ e,es[k]? = some e/\thB D e=true:=by
 obtain ⟨h1,h2,_⟩:=firstN_spec h;have he:=gE h1;rw [turnP_at he,Bool.and_eq_true] at h2;exact ⟨_,he,h2.2⟩
theorem turn_none {D:List Nat} {es:List Ed} (h:turnF D es=none) {k:Nat} {e:Ed} (he:es[k]? = some e) (ht:thB D e=true):chooseF D es=some k:=by
 have:=firstN_none_iff h k (gS he).1;rw [turnP_at he,ht,Bool.and_true,decide_eq_false_iff_not] at this;exact Classical.not_not.1 this
def chgP (K:List Bool) (es:List Ed) (k:Nat):Bool:=match es[k]? with | some e=>K.getD e.to.toNat false | none=>false
def chgF (K:List Bool) (es:List Ed):Option Nat:=firstN (chgP K es) es.length
def cutM (n:Nat):Nat:=min n 4097
theorem cutM_le (n:Nat):cutM n<=4097:=Nat.min_le_right _ _
def prtF (sz:List Nat) (e:Ed):Nat:=if e.bare=true then 0 else edN sz e
def sumX (sz:List Nat) (at':Int):List Ed->Nat->Nat->Nat
 | [],_,n=>n
 | e :: r,i,n=>sumX sz at' r (i + 1) (if (i:Int)=at' then n else cutM (n + prtF sz e))
theorem sumX_le {sz:List Nat} {c:Int}:∀ {es:List Ed} {i n:Nat},n<=4097->sumX sz c es i n<=4097
 | [],_,_,h=>h
 | e :: r,i,n,h=>by
  rw [sumX];refine sumX_le ?_;split
  ·exact h
  ·exact cutM_le _
theorem sumX_ge {sz:List Nat} {c:Int}:∀ {es:List Ed} {i n:Nat},n<=4097->n<=sumX sz c es i n
 | [],_,_,_=>Nat.le_refl _
 | e :: r,i,n,h=>by
  rw [sumX];split
  ·exact sumX_ge h
  ·refine Nat.le_trans ?_ (sumX_ge (cutM_le _));unfold cutM;omega
theorem sumX_snoc (sz:List Nat) (c:Int):∀ (es:List Ed) (e:Ed) (i n:Nat),sumX sz c (es ++ [e]) i n=if ((i + es.length:Nat):Int)=c then sumX sz c es i n else cutM (sumX sz c es i n + prtF sz e)
 | [],e,i,n=>by simp [sumX]
 | x :: r,e,i,n=>by
  rw [List.cons_append,sumX,sumX_snoc sz c r,sumX,List.length_cons,show i + 1 + r.length=i + (r.length + 1) by omega]
def sizeF (sz D:List Nat) (n:Nd):Nat:=
 if n.kind=7 then sumX sz (-1) n.edges 0 1
 else if n.kind=8 then (match chooseF D n.edges with | some c=>(match n.edges[c]? with | some e=>cutM (1 + prtF sz e) | none=>1) | none=>1)
 else 1
def othS (sz D:List Nat) (K:List Bool) (n:Nd):Nat × Option Nat:=
 if n.kind=5∨n.kind=6 then (match n.edges[0]? with | some e=>(cutM (1 + prtF sz e),none) | none=>(1,none))
 else if n.kind=7 then (match chgF K n.edges with | some c=>(match n.edges[c]? with | some e=>(sumX sz c n.edges 0 1,some e.to.toNat) | none=>(1,none)) | none=>(1,none))
 else if n.kind=8 then (match turnF D n.edges with
  | some c=>(match n.edges[c]? with | some e=>(cutM (1 + prtF sz e),none) | none=>(1,none))
  | none=>(match chooseF D n.edges with | some c=>(match n.edges[c]? with | some e=>(1,some e.to.toNat) | none=>(1,none)) | none=>(1,none)))
 else (1,none)
def othE (t:List Nat) (k:Nat × Option Nat):Nat:=match k.2 with
 | none=>k.1
 | some j=>if t.getD j 0=0 then 0 else cutM (k.1 + t.getD j 0)
theorem othS_pos (sz D:List Nat) (K:List Bool) (n:Nd):1<=(othS sz D K n).1/\(othS sz D K n).1<=4097:=by
 have h1:∀ e,1<=cutM (1 + prtF sz e)/\cutM (1 + prtF sz e)<=4097:=fun e=>by unfold cutM;omega
 have h2:∀ c,1<=sumX sz c n.edges 0 1/\sumX sz c n.edges 0 1<=4097:=fun c=>⟨sumX_ge (by omega),sumX_le (by omega)⟩;unfold othS
 repeat' split
 all_goals first | exact h1 _ | exact h2 _ | exact ⟨Nat.le_refl 1,(by decide:(1:Nat)<=4097)⟩
inductive Der (K:Nat->Option (Nat × Option Nat)):Nat->Nat->Prop
 | c {i s:Nat}:K i=some (s,none)->Der K i s
 | s {i s j v:Nat}:K i=some (s,some j)->Der K j v->Der K i (cutM (s + v))
theorem Der.pos {K:Nat->Option (Nat × Option Nat)} (hK:∀ i k,K i=some k->1<=k.1) {i v:Nat} (h:Der K i v):1<=v:=by
 induction h with
 | c h=>exact hK _ _ h
 | s h _ ih=>have:=hK _ _ h;simp only at this;unfold cutM;omega
structure TabOK (K:Nat->Option (Nat × Option Nat)) (N:Nat) (t:List Nat):Prop where
 len:t.length=N
 der:∀ i,t.getD i 0≠0->Der K i (t.getD i 0)
theorem TabOK.set {K:Nat->Option (Nat × Option Nat)} {N:Nat} {t:List Nat} (ht:TabOK K N t) {i:Nat} {k:Nat × Option Nat} (hi:i < N) (hk:K i=some k):TabOK K N (t.set i (othE t k)):=by
 refine ⟨by rw [List.length_set];exact ht.len,fun j hj=>?_⟩;rw [getD_set (by rw [ht.len];exact hi)] at hj ⊢;by_cases h:j=i
 ·subst h;rw [if_pos rfl] at hj ⊢;obtain ⟨s,o⟩:=k
  cases o with
  | none=>exact .c hk
  | some m=>
   simp only [othE] at hj ⊢;split at hj
   ·exact (hj rfl).elim
   ·rename_i h0;rw [if_neg h0];exact .s hk (ht.der m h0)
 ·rw [if_neg h] at hj ⊢;exact ht.der j hj
theorem TabOK.zero (K:Nat->Option (Nat × Option Nat)) (N:Nat):TabOK K N (List.replicate N 0):=by
 refine ⟨List.length_replicate,fun i hi=>?_⟩;rw [List.getD_eq_getElem?_getD,List.getElem?_replicate] at hi;split at hi<;>exact (hi rfl).elim
end Go.Proofs.YtadbccicdbopcaaGreat
set_option maxRecDepth 100000
namespace Go.Proofs.YtadbccicdbopcaaGreat
open Go Go.RowKit
namespace Dv
def putN (sl:List (Nat × Sl)) (dst:Option Nat) (gs:List (Nat × Bool)) (s:DV) (K:List (Nat × Sl)->Prop):Prop:=
 match dst with
 | none=>K sl
 | some d=>K ((d,⟨gs,s⟩) :: sl)
def effN (X:Ctx) (bx:List (List DV)) (sl:List (Nat × Sl)) (op:Op) (K:DV->Prop):Prop:=
 match isL op with
 | true=>optP (effR X ⟨sl,bx,[]⟩ op K)
 | false=>optP (effR X ⟨sl,[],[]⟩ op K)
def goN (X:Ctx) (ops:Array Oper) (bx:List (List DV)) (F:List (Nat × Sl)->Prop):Nat->List Oper->List (Nat × Sl)->Prop
 | _,[],sl=>F sl
 | 0,_ :: _,_=>False
 | n + 1,o :: r,sl=>
  match okD X.nt sl o.dst with
  | false=>False
  | true=>
   match isE o.op with
   | true=>False
   | false=>
    match o.guard with
    | none=>
     match pureT X.P X.T ⟨sl,bx,[]⟩ [] o.op with
     | some s=>putN sl o.dst [] s (goN X ops bx F n r)
     | none=>
      match isL o.op || (pureT X.P X.T ⟨sl,[],[]⟩ [] o.op).isNone with
      | false=>False
      | true=>effN X bx sl o.op fun s=>putN sl o.dst [] s (goN X ops bx F n r)
    | some (j,want)=>
     match gslot ops.toList j with
     | none=>False
     | some d=>
      match get sl d with
      | none=>False
      | some ⟨gsd,_⟩=>
       match pureT X.P X.T ⟨sl,bx,[]⟩ ((d,want) :: gsd) o.op with
       | some s=>
        match okG ((d,want) :: gsd) o.dst with
        | true=>putN sl o.dst ((d,want) :: gsd) s (goN X ops bx F n r)
        | false=>False
       | none=>
        match isL o.op || (pureT X.P X.T ⟨sl,[],[]⟩ ((d,want) :: gsd) o.op).isNone with
        | false=>False
        | true=>
         match get sl (lastG (d,want) gsd).1 with
         | some ⟨[],.v (.bool b)⟩=>
          match gsd with
          | []=>Br (b == want)
            (resL d want sl fun s2=>effN X bx s2 o.op fun s=>putN s2 o.dst [] s (goN X ops bx F n r))
            (resL d (!want) sl fun s2=>putN s2 o.dst [] .ud (goN X ops bx F n r))
          | _ :: _=>Br (b == (lastG (d,want) gsd).2)
            (resL (lastG (d,want) gsd).1 (lastG (d,want) gsd).2 sl fun s2=>goN X ops bx F n (o :: r) s2)
            (resL (lastG (d,want) gsd).1 (!(lastG (d,want) gsd).2) sl fun s2=>goN X ops bx F n (o :: r) s2)
         | some ⟨[],.ud⟩=>
          match gsd with
          | []=>putN sl o.dst [] .ud (goN X ops bx F n r)
          | _ :: _=>False
         | _=>False
section
variable {X:Ctx} {ops:Array Oper} {bx:List (List DV)} {tk:List TkE} {W:Nat->Bool} {k:List It} {s00:List (Nat × Sl)} {t00:List TkE}
theorem putN_2 {sl:List (Nat × Sl)} {dst:Option Nat} {gs:List (Nat × Bool)} {s:DV} {K:List (Nat × Sl)->Prop} {K2:List (Nat × Sl)->St->Prop} (h:putN sl dst gs s K) (hK:∀ l,K l->K2 l ⟨l,bx,tk⟩):put2 sl ⟨sl,bx,tk⟩ dst true gs s K2:=by
 cases dst with
 | none=>exact hK _ h
 | some d=>exact hK _ h
theorem effR_mono {st:St} {op:Op} {K K2:DV->Prop} (hK:∀ s,K s->K2 s):optP (effR X st op K)->optP (effR X st op K2):=by
 unfold effR
 repeat' split
 all_goals first | exact id | exact fun h=>⟨h.1,hK _ h.2⟩ | exact fun ⟨d,h⟩=>⟨d,h.1,hK _ h.2⟩
theorem effN_D {sl:List (Nat × Sl)} {op:Op} {K:DV->Prop} {K2:Bool->DV->Prop} {D:Dr} (hb:D.st0.bx=bx) (hE:isE op=false) (hK:∀ s,K s->K2 true s) (h:effN X bx sl op K):optP (eR X D true sl ⟨sl,bx,tk⟩ op K2):=by
 unfold effN at h;unfold eR;rw [hE];simp only
 cases hl:isL op with
 | true=>
  rw [hl] at h;simp only at h ⊢;rw [hb];exact effR_mono hK h
 | false=>
  rw [hl] at h;simp only at h ⊢;have:=effR_mono hK h
  cases hq:effR X ⟨sl,[],[]⟩ op (K2 true) with
  | none=>rw [hq] at this;exact this.elim
  | some p=>rw [hq] at this;exact this
theorem goN_D (st0:St) (hb:st0.bx=bx):∀ (n:Nat) (r:List Oper) (i:Nat) (sl:List (Nat × Sl)),goN X ops bx (fun sl=>go X 4000 k ⟨sl,bx,tk⟩) n r sl->goD X ⟨ops,W,k,st0,none⟩ n true (nOps i r) sl ⟨sl,bx,tk⟩
 | 0,[],i,sl,h=>h
 | n + 1,[],i,sl,h=>h
 | 0,_ :: _,_,_,h=>h.elim
 | n + 1,o :: r,i,sl,h=>by
  have ih:=goN_D st0 hb n r (i + 1);have ih2:=goN_D st0 hb n (o :: r) i;show goD X ⟨ops,W,k,st0,none⟩ (n + 1) true ((i,o) :: nOps (i + 1) r) sl ⟨sl,bx,tk⟩;simp only [goN] at h;simp only [goD]
  cases hok:okD X.nt sl o.dst with
  | false=>rw [hok] at h;exact h.elim
  | true=>
  rw [hok] at h;simp only [Bool.and_self] at h ⊢
  cases hE:isE o.op with
  | true=>rw [hE] at h;exact h.elim
  | false=>
  rw [hE] at h;simp only at h ⊢
  have hpR1:∀ G s,pureT X.P X.T ⟨sl,bx,[]⟩ G o.op=some s->pR X ⟨ops,W,k,st0,none⟩ true sl ⟨sl,bx,tk⟩ G o.op=some (true,s):=fun G s hs=>by
   unfold pR;rw [hE,hb];simp only [Bool.not_false,Bool.or_true,Bool.and_self,hs]
  have hpR0:∀ G,pureT X.P X.T ⟨sl,bx,[]⟩ G o.op=none->(isL o.op || (pureT X.P X.T ⟨sl,[],[]⟩ G o.op).isNone)=true->pR X ⟨ops,W,k,st0,none⟩ true sl ⟨sl,bx,tk⟩ G o.op=none:=fun G hs h2=>by
   unfold pR;rw [hE,hb];simp only [Bool.not_false,Bool.or_true,Bool.and_self,hs]
   cases hl:isL o.op with
   | true=>rfl
   | false=>
    rw [hl,Bool.false_or,Option.isNone_iff_eq_none] at h2;rw [h2]
  cases hg:o.guard with
  | none=>
   rw [hg] at h;simp only at h ⊢
   cases hp:pureT X.P X.T ⟨sl,bx,[]⟩ [] o.op with
   | some s=>
    rw [hp] at h;rw [hpR1 _ _ hp];exact putN_2 h ih
   | none=>
    rw [hp] at h;simp only at h
    cases h2:(isL o.op || (pureT X.P X.T ⟨sl,[],[]⟩ [] o.op).isNone) with
    | false=>rw [h2] at h;exact h.elim
    | true=>
     rw [h2] at h;rw [hpR0 _ hp h2];exact effN_D hb hE (fun s hs=>putN_2 hs ih) h
  | some jw=>
   obtain ⟨j,want⟩:=jw;rw [hg] at h;simp only at h ⊢
   cases hgs:gslot ops.toList j with
   | none=>rw [hgs] at h;exact h.elim
   | some d=>
   rw [hgs] at h;simp only at h ⊢
   cases hd:get sl d with
   | none=>rw [hd] at h;exact h.elim
   | some x=>
   obtain ⟨gsd,xs⟩:=x;rw [hd] at h;simp only at h ⊢
   cases hp:pureT X.P X.T ⟨sl,bx,[]⟩ ((d,want) :: gsd) o.op with
   | some s=>
    rw [hp] at h;rw [hpR1 _ _ hp];simp only at h ⊢
    cases hG:okG ((d,want) :: gsd) o.dst with
    | false=>rw [hG] at h;exact h.elim
    | true=>
     rw [hG] at h;exact putN_2 h ih
   | none=>
    rw [hp] at h;simp only at h
    cases h2:(isL o.op || (pureT X.P X.T ⟨sl,[],[]⟩ ((d,want) :: gsd) o.op).isNone) with
    | false=>rw [h2] at h;exact h.elim
    | true=>
    rw [h2] at h;rw [hpR0 _ hp h2];simp only at h ⊢
    cases hl:get sl (lastG (d,want) gsd).1 with
    | none=>rw [hl] at h;exact h.elim
    | some y=>
    obtain ⟨gy,sy⟩:=y;rw [hl] at h;simp only [resK,resL_eq] at h ⊢;split at h
    ·rename_i b hy;simp only [oI,Sl.mk.injEq] at hy;obtain ⟨rfl,rfl⟩:=hy;simp only
     cases gsd with
     | nil=>
      simp only at h ⊢;unfold Br at h ⊢
      cases hbw:(b == want) with
      | true=>
       rw [hbw] at h;exact effN_D hb hE (fun s hs=>putN_2 hs ih) h
      | false=>
       rw [hbw] at h;simp only [Bool.or_true] at h ⊢;exact putN_2 h ih
     | cons q gs=>
      simp only at h ⊢;unfold Br at h ⊢
      cases hbw:(b == (lastG (d,want) (q :: gs)).2) with
      | true=>rw [hbw] at h;exact ih2 _ h
      | false=>rw [hbw] at h;exact ih2 _ h
    ·rename_i hy;simp only [oI,Sl.mk.injEq] at hy;obtain ⟨rfl,rfl⟩:=hy
     cases gsd with
     | nil=>
      simp only [Bool.or_true] at h ⊢;exact putN_2 h ih
     | cons q gs=>exact h.elim
    ·exact h.elim
theorem drawG_n {id:Nat} {st:St} (hm:X.P.follows .mixedOrders=true) (hc:chkB ops (fun _=>false)=true)
  (h:goN X ops st.bx (fun sl=>go X 4000 k ⟨sl,st.bx,st.tk⟩) 3000 ops.toList st.sl):DrawG X id ops k st:=drawG_i (fun _=>false) hm hc (goN_D st rfl 3000 ops.toList 0 st.sl h)
end
end Dv
end Go.Proofs.YtadbccicdbopcaaGreat
set_option maxRecDepth 100000
namespace Go.Proofs.YtadbccicdbopcaaGreat
open Go Go.RowKit Dv Tryz
abbrev mkD (PC:List DV) (ND:List Nd) (D:List Nat) (K:List Bool) (sz ot:List Nat):List DV:=[.pt PC 0,.sl 7 (dNds ND) none,.sl 1 (dInts D) none,.sl 1 (dBo K) none,.sl 1 (dInts sz) none,.sl 1 (dInts ot) none]
theorem scut_spec (n:Nat):EvP Tryz.prog 259 [.v (.int .i64 n)] (.v (.int .i64 (cutM n:Nat))):=by
 refine ev_go (P:=Tryz.prog) tt tt_ok 5000 5 [.tmp 2] Tryz.func259 rfl Tryz.ntmps259 rfl (nL rfl) (fun E9 w9 hn9 hm9=>?_);refine (congrArg (fun z=>DV.v (.int .i64 z)) ?_:_=_);unfold cutM;omega
section
variable (PC:List DV) (ND:List Nd) (D:List Nat) (K:List Bool) (sz ot:List Nat) {L:Nat}
abbrev chsSt (n:Nd) (b:Option Nat) (e:Nat):St:=
 ⟨[(0,⟨[],.pt (mkD PC ND D K sz ot) 0⟩),(3,⟨[],.loc 0 0⟩),(5,⟨[],.v (.int .i64 (oz b))⟩),(9,⟨[],.sl 10 (dEds n.edges) none⟩),(10,⟨[],.v (.int .i64 (dEds n.edges).length)⟩),(11,⟨[],.v (.int .i64 e)⟩)],[dNd n],[]⟩
structure BestI (D:List Nat) (es:List Ed) (e:Nat) (b:Option Nat):Prop where
 nb:∀ (j:Nat) x,j < e->es[j]? = some x->x.bare=false
 no:b=none->∀ (j:Nat) x,j < e->es[j]? = some x->thB D x=false
 yes:∀ k,b=some k->∃ x,k < e/\es[k]? = some x/\thB D x=true/\(∀ (j:Nat) y,j < e->es[j]? = some y->thB D y=true->edN D x<=edN D y)/\∀ (j:Nat) y,j < k->es[j]? = some y->thB D y=true->edN D x < edN D y
theorem BestI.step {es:List Ed} {e:Nat} {b b':Option Nat} {x:Ed} (hB:BestI D es e b) (hx:es[e]? = some x) (hb:x.bare=false)
  (h:(thB D x=false/\b'=b)∨(thB D x=true/\(∃ k y,b=some k/\es[k]? = some y/\edN D y<=edN D x)/\b'=b)∨(thB D x=true/\(b=none∨∃ k y,b=some k/\es[k]? = some y/\edN D x < edN D y)/\b'=some e)):BestI D es (e + 1) b':=by
 have hnb:∀ (j:Nat) y,j < e + 1->es[j]? = some y->y.bare=false:=fun j y hj hy=>by
  rcases Nat.lt_succ_iff_lt_or_eq.1 hj with h1 | rfl
  ·exact hB.nb j y h1 hy
  ·rw [hx] at hy;cases hy;exact hb
 rcases h with ⟨ht,rfl⟩ | ⟨ht,⟨k,y,rfl,hy,hle⟩,rfl⟩ | ⟨ht,hc,rfl⟩
 ·refine ⟨hnb,fun hn j y hj hy=>?_,fun k hk=>?_⟩
  ·rcases Nat.lt_succ_iff_lt_or_eq.1 hj with h1 | rfl
   ·exact hB.no hn j y h1 hy
   ·rw [hx] at hy;cases hy;exact ht
  ·obtain ⟨z,h1,h2,h3,h4,h5⟩:=hB.yes k hk;refine ⟨z,by omega,h2,h3,fun j y hj hy hty=>?_,h5⟩;rcases Nat.lt_succ_iff_lt_or_eq.1 hj with h6 | rfl
   ·exact h4 j y h6 hy hty
   ·rw [hx] at hy;cases hy;rw [ht] at hty;cases hty
 ·refine ⟨hnb,fun hn=>(by cases hn),fun k' hk=>?_⟩;cases hk;obtain ⟨z,h1,h2,h3,h4,h5⟩:=hB.yes k rfl;rw [hy] at h2;cases h2;refine ⟨_,by omega,hy,h3,fun j w hj hw hty=>?_,h5⟩;rcases Nat.lt_succ_iff_lt_or_eq.1 hj with h6 | rfl
  ·exact h4 j w h6 hw hty
  ·rw [hx] at hw;cases hw;exact hle
 ·have hlt:∀ (j:Nat) w,j < e->es[j]? = some w->thB D w=true->edN D x < edN D w:=fun j w hj hw hty=>by
   rcases hc with rfl | ⟨k,y,rfl,hy,hl⟩
   ·rw [hB.no rfl j w hj hw] at hty;cases hty
   ·obtain ⟨z,h1,h2,h3,h4,h5⟩:=hB.yes k rfl;rw [hy] at h2;cases h2;have:=h4 j w hj hw hty;omega
  refine ⟨hnb,fun hn=>(by cases hn),fun k' hk=>?_⟩;cases hk;refine ⟨x,by omega,hx,ht,fun j w hj hw hty=>?_,hlt⟩;rcases Nat.lt_succ_iff_lt_or_eq.1 hj with h6 | rfl
  ·exact Nat.le_of_lt (hlt j w h6 hw hty)
  ·rw [hx] at hw;cases hw;exact Nat.le_refl _
theorem choose_spec {n:Nd} (hD:D.length=ND.length) (hn:NdOK L ND.length n) (hel:n.edges.length<=1099511627776) :
  EvP Tryz.prog 205 [.pt (mkD PC ND D K sz ot) 0,.agg (dNd n)] (.v (.int .i64 (oz (chooseF D n.edges)))):=by
 have hedge:=hn.edge;obtain ⟨kind,at',lo,hi,most,names,es⟩:=n;simp only at hedge hel;have hdl:=dEds_len es;refine ev_go (P:=Tryz.prog) tt tt_ok 5000 60 [.tmp 4] Tryz.func205 rfl Tryz.ntmps205 rfl (nL rfl) (fun E9 w9 hn9 hm9=>?_);refine loop_i (fun j st=>∃ (e:Nat) (b:Option Nat),st=chsSt PC ND D K sz ot ⟨kind,at',lo,hi,most,names,es⟩ b e/\e<=es.length/\BestI D es e b/\j=es.length - e) es.length (chsSt PC ND D K sz ot ⟨kind,at',lo,hi,most,names,es⟩ none 0) (weak_b 1 rfl wA rfl rfl rfl wB) ⟨0,none,rfl,by omega,⟨fun _ _ h=>by omega,fun _ _ _ h=>by omega,fun _ h=>by cases h⟩,by omega⟩ ?_;rintro j st ⟨e,b,rfl,he,hB,rfl⟩;refine br (fun hL=>?_) (fun hL=>?_)
 ·have hlt:e < es.length:=by simpa [hdl] using hL
  obtain ⟨x,hx⟩:∃ x,es[e]? = some x:=⟨_,gE hlt⟩;have hxo:=hedge x (mG hx)
  have hdx:∃ z,x.bare=false->D[x.to.toNat]? = some z/\x.to=(x.to.toNat:Nat)/\edN D x=z:=by
   cases hb:x.bare with
   | true=>exact ⟨0,fun h=>by cases h⟩
   | false=>
    obtain ⟨k,hk,hkl⟩:=hxo.to1 hb;have hg:D[x.to.toNat]? = some D[x.to.toNat]:=gE (by omega);exact ⟨_,fun _=>⟨hg,by omega,by unfold edN;rw [List.getD_eq_getElem?_getD,hg];rfl⟩⟩
  obtain ⟨z,hz⟩:=hdx;have hthb:x.bare=true->thB D x=true:=fun h=>by unfold thB;rw [h];all_goals rfl
  have hthn:x.bare=false->thB D x=decide (0 < edN D x):=fun h=>by unfold thB;rw [h];all_goals rfl
  have hdp:x.bare=true->dpE D x=0:=fun h=>by unfold dpE;rw [if_pos h]
  have hpos:∀ (j:Nat) y,j < e->es[j]? = some y->thB D y=true->y.bare=false/\0 < edN D y/\dpE D y=edN D y:=fun j y hj hy ht=>by
   have hb:=hB.nb j y hj hy;unfold thB at ht;rw [hb,Bool.false_or] at ht;exact ⟨hb,of_decide_eq_true ht,by unfold dpE;rw [if_neg (by rw [hb];simp)]⟩
  have hret:x.bare=true->chooseF D es=some e:=fun hb=>by
   refine choose_of hx (hthb hb) (fun y _ _=>by rw [hdp hb];omega) fun j y hj hy ht=>?_;obtain ⟨_,h2,h3⟩:=hpos j y hj hy ht;rw [hdp hb,h3];exact h2
  have hgo:∀ b',x.bare=false->((thB D x=false/\b'=b)∨(thB D x=true/\(∃ k y,b=some k/\es[k]? = some y/\edN D y<=edN D x)/\b'=b)∨(thB D x=true/\(b=none∨∃ k y,b=some k/\es[k]? = some y/\edN D x < edN D y)/\b'=some e))->BestI D es (e + 1) b':=fun b' hb h=>hB.step D hx hb h;clear hthb hdp hpos;generalize thB D x=T at hthn hgo;generalize edN D x=ex at hz hthn hgo;obtain ⟨en,eb,ea,et,elb,ew,eck,ecn,ese,eca⟩:=x;simp only at hz hthn hret hgo;refine ⟨_,⟨by omega,dEds_get hx⟩,?_⟩;refine br (fun c=>?_) (fun c=>?_)
  ·rw [hret c];exact (rfl:_=_)
  ·subst c;obtain ⟨hz1,hz2,hz3⟩:=hz rfl;have hthn:=hthn rfl;have hgo:=fun b'=>hgo b' rfl;subst hz3 hthn;obtain ⟨to,rfl⟩:∃ k:Nat,et=k:=⟨_,hz2⟩;rw [Int.toNat_natCast] at hz1
   cases b with
   | none=>
    refine drawG_n mo (by decide +kernel) ?_;refine ⟨_,⟨Int.natCast_nonneg _,dInts_get hz1⟩,?_⟩;refine br (fun c=>?_) (fun c=>?_)
    ·have c:0 < ex:=by simpa [lastG] using c
     exact ⟨chsSt PC ND D K sz ot ⟨kind,at',lo,hi,most,names,es⟩ (some e) (e + 1),(weak_b 1 rfl (wNA hlt) rfl rfl rfl (wNB hlt)),es.length - (e + 1),by omega,e + 1,some e,rfl,by omega,hgo _ (.inr (.inr ⟨decide_eq_true c,.inl rfl,rfl⟩)),rfl⟩
    ·have c:¬ 0 < ex:=by simpa [lastG] using c
     exact ⟨chsSt PC ND D K sz ot ⟨kind,at',lo,hi,most,names,es⟩ none (e + 1),(weak_b 1 rfl (wNA hlt) rfl rfl rfl (wNB hlt)),es.length - (e + 1),by omega,e + 1,none,rfl,by omega,hgo _ (.inl ⟨decide_eq_false c,rfl⟩),rfl⟩
   | some k=>
    obtain ⟨y,hy1,hy,hyt,_⟩:=hB.yes k rfl;have hyb:=hB.nb k y hy1 hy;obtain ⟨ky,hky,hkyl⟩:=(hedge y (mG hy)).to1 hyb;obtain ⟨zy,hzy⟩:∃ z,D[ky]? = some z:=⟨_,gE (by omega)⟩;have hzy2:edN D y=zy:=by unfold edN;rw [hky,Int.toNat_natCast,List.getD_eq_getElem?_getD,hzy];all_goals rfl
    refine drawG_n mo (by decide +kernel) ?_;refine ⟨_,⟨Int.natCast_nonneg _,dInts_get hz1⟩,?_⟩;refine br (fun c=>?_) (fun c=>?_)
    ·have c:0 < ex:=by simpa [lastG] using c
     refine ⟨_,⟨Int.natCast_nonneg _,dInts_get hz1⟩,?_⟩;refine ⟨_,⟨Int.natCast_nonneg _,dEds_get hy⟩,?_⟩;refine ⟨_,⟨by rw [hky];exact Int.natCast_nonneg _,by rw [hky];exact dInts_get hzy⟩,?_⟩;refine br (fun g=>?_) (fun g=>?_)
     ·have g:ex < zy:=by simpa [lastG,pickB] using g
      exact ⟨chsSt PC ND D K sz ot ⟨kind,at',lo,hi,most,names,es⟩ (some e) (e + 1),(weak_b 1 rfl (wNA hlt) rfl rfl rfl (wNB hlt)),es.length - (e + 1),by omega,e + 1,some e,rfl,by omega,hgo _ (.inr (.inr ⟨decide_eq_true c,.inr ⟨k,y,rfl,hy,by omega⟩,rfl⟩)),rfl⟩
     ·have g:¬ ex < zy:=by simpa [lastG,pickB] using g
      exact ⟨chsSt PC ND D K sz ot ⟨kind,at',lo,hi,most,names,es⟩ (some k) (e + 1),(weak_b 1 rfl (wNA hlt) rfl rfl rfl (wNB hlt)),es.length - (e + 1),by omega,e + 1,some k,rfl,by omega,hgo _ (.inr (.inl ⟨decide_eq_true c,⟨k,y,rfl,hy,by omega⟩,rfl⟩)),rfl⟩
    ·have c:¬ 0 < ex:=by simpa [lastG] using c
     exact ⟨chsSt PC ND D K sz ot ⟨kind,at',lo,hi,most,names,es⟩ (some k) (e + 1),(weak_b 1 rfl (wNA hlt) rfl rfl rfl (wNB hlt)),es.length - (e + 1),by omega,e + 1,some k,rfl,by omega,hgo _ (.inl ⟨decide_eq_false c,rfl⟩),rfl⟩
 ·have hge:e=es.length:=by have:=hL;simp [hdl] at this;omega
  subst hge
  cases b with
  | none=>
   rw [choose_none fun x hx=>by
    obtain ⟨j,hj,rfl⟩:=List.getElem_of_mem hx
    exact hB.no rfl j _ hj (gE hj)]
   exact (rfl:_=_)
  | some k=>
   obtain ⟨x,h1,h2,h3,h4,h5⟩:=hB.yes k rfl;have hb:=hB.nb k x h1 h2;have hdx:dpE D x=edN D x:=by unfold dpE;rw [if_neg (by rw [hb];simp)]
   have hdy:∀ (j:Nat) y,j < es.length->es[j]? = some y->dpE D y=edN D y:=fun j y hj hy=>by unfold dpE;rw [if_neg (by rw [hB.nb j y hj hy];simp)]
   rw [choose_of h2 h3 (fun y hy ht=>by
    obtain ⟨j,hj,rfl⟩:=List.getElem_of_mem hy;have hj':=gE hj;rw [hdx,hdy j _ hj hj']
    exact h4 j _ hj hj' ht) fun j y hj hy ht=>by
    rw [hdx,hdy j y (by omega) hy]
    exact h5 j y hj hy ht]
   exact (rfl:_=_)
end
theorem oz_ne {a:Option Nat} {k:Nat}:((k:Nat):Int)≠oz a↔a≠some k:=by
 cases a with
 | none=>simp [oz]
 | some j=>simp [oz];omega
section
variable (PC:List DV) (ND:List Nd) (D:List Nat) (K:List Bool) (sz ot:List Nat) {L:Nat}
abbrev trnSt (n:Nd) (e:Nat):St:=
 ⟨[(0,⟨[],.pt (mkD PC ND D K sz ot) 0⟩),(3,⟨[],.loc 0 0⟩),(5,⟨[],.v (.int .i64 (oz (chooseF D n.edges)))⟩),(12,⟨[],.sl 10 (dEds n.edges) none⟩),(13,⟨[],.v (.int .i64 (dEds n.edges).length)⟩),(14,⟨[],.v (.int .i64 e)⟩)],[dNd n],[]⟩
theorem sturn_spec {n:Nd} (hD:D.length=ND.length) (hn:NdOK L ND.length n) (hel:n.edges.length<=1099511627776) :
  EvP Tryz.prog 207 [.pt (mkD PC ND D K sz ot) 0,.agg (dNd n)] (.v (.int .i64 (oz (turnF D n.edges)))):=by
 have hch:=choose_spec PC ND D K sz ot hD hn hel;have hedge:=hn.edge;obtain ⟨kind,at',lo,hi,most,names,es⟩:=n;simp only at hedge hel hch;have hdl:=dEds_len es;refine ev_go (P:=Tryz.prog) tt tt_ok 5000 39 [.tmp 4] Tryz.func207 rfl Tryz.ntmps207 rfl (nL rfl) (fun E9 w9 hn9 hm9=>?_);refine call_p en205 (hch) ax rfl ?_;refine loop_i (fun j st=>∃ e:Nat,st=trnSt PC ND D K sz ot ⟨kind,at',lo,hi,most,names,es⟩ e/\e<=es.length/\(∀ k,k < e->turnP D es k=false)/\j=es.length - e) es.length (trnSt PC ND D K sz ot ⟨kind,at',lo,hi,most,names,es⟩ 0) (weak_b 1 rfl wA rfl rfl rfl wB) ⟨0,rfl,by omega,fun _ h=>by omega,by omega⟩ ?_;rintro j st ⟨e,rfl,he,hB,rfl⟩;refine br (fun hL=>?_) (fun hL=>?_)
 ·have hlt:e < es.length:=by simpa [hdl] using hL
  obtain ⟨x,hx⟩:∃ x,es[e]? = some x:=⟨_,gE hlt⟩;have hxo:=hedge x (mG hx);have hat:=turnP_at (D:=D) hx;have hyes:turnP D es e=true->turnF D es=some e:=fun h=>firstN_some hlt h hB
  have hno:turnP D es e=false->∀ k,k < e + 1->turnP D es k=false:=fun h k hk=>by
   rcases Nat.lt_succ_iff_lt_or_eq.1 hk with h1 | rfl
   ·exact hB k h1
   ·exact h
  have hdx:∃ z,x.bare=false->D[x.to.toNat]? = some z/\0<=x.to/\thB D x=decide (0 < z):=by
   cases hb:x.bare with
   | true=>exact ⟨0,fun h=>by cases h⟩
   | false=>
    obtain ⟨k,hk,hkl⟩:=hxo.to1 hb;have hg:D[x.to.toNat]? = some D[x.to.toNat]:=gE (by omega);exact ⟨_,fun _=>⟨hg,by omega,by unfold thB edN;rw [hb,List.getD_eq_getElem?_getD,hg];rfl⟩⟩
  obtain ⟨z,hz⟩:=hdx;have hbare:x.bare=true->thB D x=true:=fun h=>by unfold thB;rw [h];all_goals rfl
  generalize turnP D es e=T at hat hyes hno;generalize thB D x=B at hat hz hbare;obtain ⟨en,eb,ea,et,elb,ew,eck,ecn,ese,eca⟩:=x;simp only at hz hbare;refine ⟨_,⟨by omega,dEds_get hx⟩,?_⟩;refine drawG_n mo (by decide +kernel) ?_;refine br (fun c1=>?_) (fun c1=>?_)
  ·have c1:chooseF D es≠some e:=oz_ne.1 (by simpa [lastG] using c1);refine br (fun c2=>?_) (fun c2=>?_)
   ·have c2:eb=false:=by simpa [lastG] using c2
    obtain ⟨hz1,hz2,hz3⟩:=hz c2;refine ⟨_,⟨hz2,dInts_get hz1⟩,?_⟩;refine br (fun g=>?_) (fun g=>?_)
    ·have g:0 < z:=by simpa [lastG,pickB] using g
     rw [hyes (by rw [hat,hz3,decide_eq_true g,Bool.and_true];exact decide_eq_true c1)];exact (rfl:_=_)
    ·have g:¬ 0 < z:=by simpa [lastG,pickB] using g
     exact ⟨trnSt PC ND D K sz ot ⟨kind,at',lo,hi,most,names,es⟩ (e + 1),(weak_b 1 rfl (wNA hlt) rfl rfl rfl (wNB hlt)),es.length - (e + 1),by omega,e + 1,rfl,by omega,hno (by rw [hat,hz3,decide_eq_false g,Bool.and_false]),rfl⟩
   ·have c2:eb=true:=by simpa [lastG] using c2
    rw [hyes (by rw [hat,hbare c2,Bool.and_true];exact decide_eq_true c1)];exact (rfl:_=_)
  ·have c1:¬ chooseF D es≠some e:=fun h=>by
    have:=oz_ne.2 h;simp [lastG] at c1;exact this c1
   exact ⟨trnSt PC ND D K sz ot ⟨kind,at',lo,hi,most,names,es⟩ (e + 1),(weak_b 1 rfl (wNA hlt) rfl rfl rfl (wNB hlt)),es.length - (e + 1),by omega,e + 1,rfl,by omega,hno (by rw [hat,decide_eq_false c1,Bool.false_and]),rfl⟩
 ·have hge:e=es.length:=by have:=hL;simp [hdl] at this;omega
  subst hge;rw [show turnF D es=none from firstN_none hB];exact (rfl:_=_)
theorem spart_spec {e:Ed} (hs:sz.length=ND.length) (he:EdOK L ND.length e) :
  EvP Tryz.prog 317 [.pt (mkD PC ND D K sz ot) 0,.agg (dEd e)] (.v (.int .i64 (prtF sz e:Nat))):=by
 obtain ⟨en,eb,ea,et,elb,ew,eck,ecn,ese,eca⟩:=e;have h1:=he.to1;simp only at h1;refine ev_go (P:=Tryz.prog) tt tt_ok 5000 15 [.tmp 4] Tryz.func317 rfl Tryz.ntmps317 rfl (nL rfl) (fun E9 w9 hn9 hm9=>?_);refine br (fun c=>?_) (fun c=>?_)
 ·subst c;exact (rfl:_=_)
 ·subst c;obtain ⟨k,rfl,hkl⟩:=h1 rfl;have hg:sz[k]? = some sz[k]:=gE (by omega);refine drawG_n mo (by decide +kernel) ?_;refine ⟨_,⟨Int.natCast_nonneg _,dInts_get hg⟩,?_⟩;refine (congrArg (fun z=>DV.v (.int .i64 z)) ?_:_=_);unfold prtF edN;simp [List.getD_eq_getElem?_getD,hg]
end
inductive Val where
 | mk (k n:Int) (s:ByteArray) (ks:List Val)
def Val.k:Val->Int | .mk k _ _ _=>k
def Val.n:Val->Int | .mk _ n _ _=>n
def Val.s:Val->ByteArray | .mk _ _ s _=>s
def Val.ks:Val->List Val | .mk _ _ _ ks=>ks
mutual
def dVal:Val->List DV
 | .mk k n s ks=>[.v (.int .i64 k),.v (.int .i64 n),.v (.string s),.sl 4 (dVals ks) none]
def dVals:List Val->List (List DV)
 | []=>[]
 | v :: r=>dVal v :: dVals r
end
theorem dVals_map:∀ l:List Val,dVals l=l.map dVal
 | []=>rfl
 | v :: r=>by rw [dVals,dVals_map r];all_goals rfl
theorem dVals_len (l:List Val):(dVals l).length=l.length:=by rw [dVals_map,List.length_map]
theorem dVals_get {l:List Val} {e:Nat} {x:Val} (h:l[e]? = some x):(dVals l)[e]? = some (dVal x):=by rw [dVals_map,List.getElem?_map,h];all_goals rfl
theorem dVals_snoc {l:List Val} {e:Nat} {x:Val} (h:l[e]? = some x):dVals (l.take e) ++ [dVal x]=dVals (l.take (e + 1)):=by
 rw [dVals_map,dVals_map,List.take_add_one,h];simp
mutual
def Val.wt:Val->Nat
 | .mk _ _ s ks=>64 + s.size + wtVs ks
def wtVs:List Val->Nat
 | []=>0
 | v :: r=>v.wt + wtVs r
end
theorem Val.wt_pos:∀ v:Val,64<=v.wt
 | .mk _ _ _ _=>by rw [Val.wt];omega
theorem wtVs_mem:∀ {l:List Val} {x:Val},x∈l->x.wt<=wtVs l
 | v :: r,x,h=>by
  rcases List.mem_cons.1 h with rfl | h
  ·rw [wtVs];omega
  ·have:=wtVs_mem h;rw [wtVs];omega
theorem wtVs_len:∀ l:List Val,64 * l.length<=wtVs l
 | []=>Nat.le_refl _
 | v :: r=>by
  have:=wtVs_len r;have:=v.wt_pos;rw [wtVs,List.length_cons];omega
theorem take_snoc {α:Type} {l:List α} {e:Nat} {x:α} (h:l[e]? = some x):l.take (e + 1)=l.take e ++ [x]:=by rw [List.take_add_one,h];all_goals rfl
theorem leastR_lt {K:List Nat}:∀ {es:List Ed} {m:Nat},0 < leastR K es m->m < leastR K es m/\∀ e∈es,0 < edN K e/\edN K e < leastR K es m
 | [],m,_=>⟨Nat.lt_succ_self m,fun e he=>by cases he⟩
 | x :: r,m,h=>by
  rw [leastR] at h ⊢;split at h
  ·omega
  ·rename_i h0;rw [if_neg h0];obtain ⟨h1,h2⟩:=leastR_lt h;refine ⟨by omega,fun e he=>?_⟩;rcases List.mem_cons.1 he with rfl | he
   ·omega
   ·exact h2 e he
theorem leastU_lt {K:List Nat}:∀ {es:List Ed} {b:Nat},0 < leastU K es b->(∃ e∈es,thB K e=true/\dpE K e < leastU K es b)∨(0 < b/\b < leastU K es b)
 | [],b,h=>by
  rw [leastU] at h ⊢;split at h
  ·omega
  ·rename_i h0;rw [if_neg h0];omega
 | x :: r,b,h=>by
  have hup:∀ {v:Nat},(∃ e∈r,thB K e=true/\dpE K e < v)->∃ e∈x :: r,thB K e=true/\dpE K e < v:=fun ⟨e,h1,h2⟩=>⟨e,List.mem_cons_of_mem _ h1,h2⟩;rw [leastU] at h ⊢;split at h
  ·rename_i hb;rw [if_pos hb];exact .inl ⟨x,List.mem_cons_self,by unfold thB;rw [hb];rfl,by unfold dpE;rw [if_pos hb];omega⟩
  ·rename_i hb;rw [if_neg hb];split at h
   ·rename_i h0;rw [if_pos h0];rcases leastU_lt h with h1 | ⟨h1,h2⟩
    ·exact .inl (hup h1)
    ·refine .inl ⟨x,List.mem_cons_self,?_,?_⟩
     ·unfold thB;simp [h1]
     ·unfold dpE;rw [if_neg hb];exact h2
   ·rename_i h0;rw [if_neg h0];rcases leastU_lt h with h1 | h1
    ·exact .inl (hup h1)
    ·exact .inr h1
theorem choose_lt {K:List Nat} {es:List Ed} (h:0 < leastU K es 0):∃ c e,chooseF K es=some c/\es[c]? = some e/\thB K e=true/\dpE K e < leastU K es 0:=by
 rcases leastU_lt h with ⟨x,h1,h2,h3⟩ | h1
 ·obtain ⟨c,hc⟩:=choose_ex (dpE K x) h1 h2 (Nat.le_refl _);obtain ⟨e,he,ht,hm⟩:=choose_some hc;have:=hm x h1 h2;exact ⟨c,e,hc,he,ht,by omega⟩
 ·omega
structure DepOK (ND:List Nd) (D:List Nat):Prop where
 len:D.length=ND.length
 le:∀ i,D.getD i 0<=ND.length
 get:∀ i n,ND[i]? = some n->D.getD i 0=leastF n D
theorem depOK (ND:List Nd):DepOK ND (depN ND ND.length):=by
 refine ⟨depN_len _ _,depN_le ND _,fun i n hn=>?_⟩;have:=depN_get ND ND.length i;rw [depN_end,hn] at this;exact this
theorem DepOK.rcd {ND:List Nd} {D:List Nat} (h:DepOK ND D) {i:Nat} {n:Nd} (hn:ND[i]? = some n) (h0:0 < D.getD i 0) (h7:n.kind=7):∀ e∈n.edges,0 < edN D e/\edN D e < D.getD i 0:=by
 have h1:=h.get i n hn;rw [leastF,if_pos h7] at h1;rw [h1] at h0 ⊢;exact (leastR_lt h0).2
theorem DepOK.uni {ND:List Nd} {D:List Nat} (h:DepOK ND D) {i:Nat} {n:Nd} (hn:ND[i]? = some n) (h0:0 < D.getD i 0) (h8:n.kind=8):∃ c e,chooseF D n.edges=some c/\n.edges[c]? = some e/\(e.bare=false->0 < edN D e/\edN D e < D.getD i 0):=by
 have h1:=h.get i n hn;rw [leastF,if_neg (by omega),if_pos h8] at h1;rw [h1] at h0 ⊢;obtain ⟨c,e,hc,he,ht,hl⟩:=choose_lt h0;refine ⟨c,e,hc,he,fun hb=>?_⟩;unfold thB at ht;rw [hb,Bool.false_or] at ht;unfold dpE at hl;rw [if_neg (by rw [hb];simp)] at hl;exact ⟨of_decide_eq_true ht,hl⟩
def szL (ND:List Nd) (D:List Nat) (d:Nat):Nat->List Nat->List Nat
 | 0,t=>t
 | e + 1,t=>match ND[e]? with
  | none=>szL ND D d e t
  | some n=>if D.getD e 0=d then (szL ND D d e t).set e (sizeF (szL ND D d e t) D n) else szL ND D d e t
def szR (ND:List Nd) (D:List Nat):Nat->List Nat
 | 0=>List.replicate ND.length 0
 | d + 1=>szL ND D (d + 1) ND.length (szR ND D d)
theorem szL_len (ND:List Nd) (D:List Nat) (d:Nat):∀ e t,(szL ND D d e t).length=t.length
 | 0,t=>rfl
 | e + 1,t=>by
  rw [szL];split
  ·exact szL_len ND D d e t
  ·split
   ·rw [List.length_set];exact szL_len ND D d e t
   ·exact szL_len ND D d e t
theorem szR_len (ND:List Nd) (D:List Nat):∀ d,(szR ND D d).length=ND.length
 | 0=>List.length_replicate
 | d + 1=>by rw [szR,szL_len];exact szR_len ND D d
theorem szL_id {ND:List Nd} {D:List Nat} {d:Nat} (h:∀ i,D.getD i 0≠d):∀ e t,szL ND D d e t=t
 | 0,t=>rfl
 | e + 1,t=>by
  rw [szL];split
  ·exact szL_id h e t
  ·rw [if_neg (h e)];exact szL_id h e t
theorem szR_top {ND:List Nd} {D:List Nat} {m:Nat} (h:∀ i,D.getD i 0<=m):∀ k,szR ND D (m + k)=szR ND D m
 | 0=>rfl
 | k + 1=>by
  show szL ND D (m + k + 1) ND.length (szR ND D (m + k))=_;rw [szL_id (fun i=>by have:=h i;omega)];exact szR_top h k
theorem szL_other {ND:List Nd} {D:List Nat} {d:Nat} {i:Nat} (h:D.getD i 0≠d):∀ (e:Nat) (t:List Nat),(szL ND D d e t).getD i 0=t.getD i 0
 | 0,t=>rfl
 | e + 1,t=>by
  rw [szL];split
  ·exact szL_other h e t
  ·split
   ·rename_i he;have hne:i≠e:=fun hie=>h (hie ▸ he);rw [List.getD_eq_getElem?_getD,List.getElem?_set_ne (by omega),<- List.getD_eq_getElem?_getD];exact szL_other h e t
   ·exact szL_other h e t
theorem szL_get {ND:List Nd} {D:List Nat} {d:Nat} {i:Nat} {n:Nd} (hn:ND[i]? = some n) (h:D.getD i 0=d):∀ (e:Nat) (t:List Nat),t.length=ND.length->i < e->(szL ND D d e t).getD i 0=sizeF (szL ND D d i t) D n
 | e + 1,t,hl,hi=>by
  have hil:=(gS hn).1;rw [szL];rcases Nat.lt_succ_iff_lt_or_eq.1 hi with h1 | rfl
  ·have ih:=szL_get hn h e t hl h1;split
   ·exact ih
   ·split
    ·rw [List.getD_eq_getElem?_getD,List.getElem?_set_ne (by omega),<- List.getD_eq_getElem?_getD];exact ih
    ·exact ih
  ·rw [hn];simp only;rw [if_pos h,getD_set (by rw [szL_len];omega),if_pos rfl]
theorem sumX_congr {a b:List Nat} {c:Int}:∀ {es:List Ed} {i n:Nat},(∀ e∈es,prtF a e=prtF b e)->sumX a c es i n=sumX b c es i n
 | [],_,_,_=>rfl
 | e :: r,i,n,h=>by
  rw [sumX,sumX,h e List.mem_cons_self];exact sumX_congr fun x hx=>h x (List.mem_cons_of_mem _ hx)
theorem prtF_congr {a b:List Nat} {e:Ed} (h:e.bare=false->a.getD e.to.toNat 0=b.getD e.to.toNat 0):prtF a e=prtF b e:=by
 unfold prtF edN
 cases hb:e.bare with
 | true=>rfl
 | false=>simp only [Bool.false_eq_true,if_false];exact h hb
theorem sizeF_congr {ND:List Nd} {D a b:List Nat} (h:DepOK ND D) {i:Nat} {n:Nd} (hn:ND[i]? = some n) (h0:0 < D.getD i 0) (hab:∀ j,0 < D.getD j 0->D.getD j 0 < D.getD i 0->a.getD j 0=b.getD j 0):sizeF a D n=sizeF b D n:=by
 unfold sizeF;split
 ·rename_i h7;refine sumX_congr fun e he=>prtF_congr fun _=>?_;obtain ⟨h1,h2⟩:=h.rcd hn h0 h7 e he;exact hab _ h1 h2
 ·split
  ·rename_i h8;obtain ⟨c,e,hc,he,hp⟩:=h.uni hn h0 h8;rw [hc];simp only [he];rw [prtF_congr fun hb=>hab _ (hp hb).1 (hp hb).2]
  ·rfl
theorem szR_low {ND:List Nd} {D:List Nat} {i:Nat}:∀ (k d:Nat),D.getD i 0<=d->(szR ND D (d + k)).getD i 0=(szR ND D d).getD i 0
 | 0,d,_=>rfl
 | k + 1,d,h=>by
  show (szL ND D (d + k + 1) ND.length (szR ND D (d + k))).getD i 0=_;rw [szL_other (by omega)];exact szR_low k d h
def szT (ND:List Nd) (D:List Nat):List Nat:=szR ND D ND.length
theorem szT_len (ND:List Nd) (D:List Nat):(szT ND D).length=ND.length:=szR_len ND D _
theorem szT_get {ND:List Nd} {D:List Nat} (h:DepOK ND D) {i:Nat} {n:Nd} (hn:ND[i]? = some n) (h0:0 < D.getD i 0):(szT ND D).getD i 0=sizeF (szT ND D) D n:=by
 have hle:=h.le i;have hil:=(gS hn).1;obtain ⟨d,hd⟩:∃ d,D.getD i 0=d + 1:=⟨_,(Nat.succ_pred_eq_of_pos h0).symm⟩;obtain ⟨k,hk⟩:∃ k,ND.length=d + 1 + k:=⟨ND.length - (d + 1),by omega⟩
 have h1:(szT ND D).getD i 0=(szR ND D (d + 1)).getD i 0:=by
  unfold szT;rw [hk];exact szR_low k (d + 1) (by omega)
 rw [h1,szR,szL_get hn hd _ _ (szR_len ND D d) hil];refine sizeF_congr h hn h0 fun j hj hjl=>?_;rw [szL_other (by omega)];unfold szT;rw [hk,Nat.add_assoc];exact (szR_low (1 + k) d (by omega)).symm
theorem szT_zero {ND:List Nd} {D:List Nat} {i:Nat} (h0:D.getD i 0=0):(szT ND D).getD i 0=0:=by
 unfold szT;have:=szR_low (ND:=ND) (D:=D) (i:=i) ND.length 0 (by omega);rw [Nat.zero_add] at this;rw [this,szR,List.getD_eq_getElem?_getD,List.getElem?_replicate];split<;>rfl
theorem sizeF_pos (a D:List Nat) (n:Nd):1<=sizeF a D n/\sizeF a D n<=4097:=by
 unfold sizeF;split
 ·exact ⟨sumX_ge (by omega),sumX_le (by omega)⟩
 ·split
  ·split
   ·split
    ·unfold cutM;omega
    ·omega
   ·omega
  ·omega
theorem szT_pos {ND:List Nd} {D:List Nat} (h:DepOK ND D) {i:Nat}:(0 < (szT ND D).getD i 0↔0 < D.getD i 0)/\(szT ND D).getD i 0<=4097:=by
 rcases Nat.eq_zero_or_pos (D.getD i 0) with h0 | h0
 ·rw [szT_zero h0,h0];omega
 ·have hil:i < ND.length:=by
   rcases Nat.lt_or_ge i ND.length with h1 | h1
   ·exact h1
   ·rw [List.getD_eq_getElem?_getD,List.getElem?_eq_none (by rw [h.len];exact h1)] at h0;simp at h0
  have hs:=szT_get h (gE hil) h0;have:=sizeF_pos (szT ND D) D ND[i];rw [hs];omega
def othK (sz D:List Nat) (K:List Bool) (ND:List Nd) (i:Nat):Option (Nat × Option Nat):=match ND[i]? with | some n=>if K.getD i false=true then some (othS sz D K n) else none | none=>none
def otI (kf:Nat->Option (Nat × Option Nat)) (i:Nat) (t:List Nat):List Nat:=match kf i with | some k=>t.set i (othE t k) | none=>t
def otL (kf:Nat->Option (Nat × Option Nat)):Nat->List Nat->List Nat
 | 0,t=>t
 | e + 1,t=>otI kf e (otL kf e t)
def otR (kf:Nat->Option (Nat × Option Nat)) (N:Nat):Nat->List Nat
 | 0=>List.replicate N 0
 | r + 1=>otL kf N (otR kf N r)
def OtOK (kf:Nat->Option (Nat × Option Nat)) (t:List Nat):Prop:=∀ i,t.getD i 0≠0->∃ k,kf i=some k/\t.getD i 0=othE t k
def LeN (a b:List Nat):Prop:=∀ i:Nat,a.getD i 0≠0->b.getD i 0=a.getD i 0
theorem LeN.refl (a:List Nat):LeN a a:=fun _ _=>rfl
theorem LeN.trans {a b c:List Nat} (h1:LeN a b) (h2:LeN b c):LeN a c:=fun i hi=>by rw [h2 i (by rw [h1 i hi];exact hi),h1 i hi]
theorem othE_mono {a b:List Nat} (h:LeN a b) {k:Nat × Option Nat} (h0:othE a k≠0):othE b k=othE a k:=by
 obtain ⟨s,o⟩:=k
 cases o with
 | none=>rfl
 | some j=>
  simp only [othE] at h0 ⊢;split at h0
  ·exact (h0 rfl).elim
  ·rename_i h1;rw [h j h1,if_neg h1]
theorem set_self {l:List Nat} {i:Nat} (v:Nat) (h:l.getD i 0=v):l.set i v=l:=by
 refine getD_ext (List.length_set) fun j=>?_;rcases Nat.lt_or_ge i l.length with h1 | h1
 ·rw [getD_set h1];split
  ·rename_i h2;rw [h2,h]
  ·rfl
 ·rw [List.set_eq_of_length_le h1]
section
variable {kf:Nat->Option (Nat × Option Nat)} {N:Nat}
theorem otI_len (i:Nat) (t:List Nat):(otI kf i t).length=t.length:=by
 unfold otI;split
 ·exact List.length_set
 ·rfl
theorem otL_len:∀ (e:Nat) (t:List Nat),(otL kf e t).length=t.length
 | 0,t=>rfl
 | e + 1,t=>by rw [otL,otI_len];exact otL_len e t
theorem otR_len:∀ r,(otR kf N r).length=N
 | 0=>List.length_replicate
 | r + 1=>by rw [otR,otL_len];exact otR_len r
theorem otI_known {i:Nat} {t:List Nat} (h:OtOK kf t) (h0:t.getD i 0≠0):otI kf i t=t:=by
 obtain ⟨k,hk,hv⟩:=h i h0;unfold otI;rw [hk];exact set_self _ hv
theorem otI_ok {i:Nat} {t:List Nat} (hi:i < t.length) (h:OtOK kf t):OtOK kf (otI kf i t)/\LeN t (otI kf i t):=by
 by_cases h0:t.getD i 0=0
 ·cases hk:kf i with
  | none=>unfold otI;rw [hk];exact ⟨h,LeN.refl t⟩
  | some k=>
   have hu:otI kf i t=t.set i (othE t k):=by unfold otI;rw [hk]
   have hle:LeN t (otI kf i t):=fun j hj=>by
    rw [hu,getD_set hi,if_neg (fun hji=>by subst hji;exact hj h0)]
   refine ⟨fun j hj=>?_,hle⟩;rw [hu,getD_set hi] at hj;by_cases hji:j=i
   ·subst hji;rw [if_pos rfl] at hj;refine ⟨k,hk,?_⟩;rw [othE_mono hle hj,hu,getD_set hi,if_pos rfl]
   ·rw [if_neg hji] at hj;obtain ⟨k',hk',hv⟩:=h j hj;refine ⟨k',hk',?_⟩;rw [hle j hj,othE_mono hle (by rw [<- hv];exact hj),hv]
 ·rw [otI_known h h0];exact ⟨h,LeN.refl t⟩
theorem otL_ok:∀ (e:Nat) {t:List Nat},e<=t.length->OtOK kf t->OtOK kf (otL kf e t)/\LeN t (otL kf e t)
 | 0,t,_,h=>⟨h,LeN.refl t⟩
 | e + 1,t,he,h=>by
  obtain ⟨h1,h2⟩:=otL_ok e (by omega) h;obtain ⟨h3,h4⟩:=otI_ok (i:=e) (by rw [otL_len];omega) h1;exact ⟨h3,h2.trans h4⟩
theorem zero_ok (kf:Nat->Option (Nat × Option Nat)) (N:Nat):OtOK kf (List.replicate N 0):=fun i hi=>by
 rw [List.getD_eq_getElem?_getD,List.getElem?_replicate] at hi;split at hi<;>exact (hi rfl).elim
theorem otR_ok:∀ r,OtOK kf (otR kf N r)
 | 0=>zero_ok kf N
 | r + 1=>(otL_ok N (by rw [otR_len];exact Nat.le_refl N) (otR_ok r)).1
theorem otR_le (r:Nat):LeN (otR kf N r) (otR kf N (r + 1)):=(otL_ok N (by rw [otR_len];exact Nat.le_refl N) (otR_ok r)).2
def cntN (t:List Nat):Nat:=t.countP (fun x=>x != 0)
theorem leN_cnt:∀ {a b:List Nat},a.length=b.length->LeN a b->(a=b∨cntN a < cntN b)/\cntN a<=cntN b
 | [],[],_,_=>⟨.inl rfl,Nat.le_refl _⟩
 | [],y :: b,h,_=>by simp at h
 | x :: a,[],h,_=>by simp at h
 | x :: a,y :: b,h,hle=>by
  obtain ⟨h1,h2⟩:=leN_cnt (a:=a) (b:=b) (by simpa using h) (fun i hi=>hle (i + 1) hi);have h3:=hle 0;simp only [List.getD_cons_zero] at h3;unfold cntN at h1 h2 ⊢;simp only [List.countP_cons];by_cases hx:x=0
  ·subst hx;by_cases hy:y=0
   ·subst hy;refine ⟨?_,by simpa using h2⟩;rcases h1 with rfl | h1
    ·exact .inl rfl
    ·right;simpa using h1
   ·have e1:(y != 0)=true:=by simpa using hy
    simp only [e1,bne_self_eq_false,Bool.false_eq_true,if_false,if_true];exact ⟨.inr (by omega),by omega⟩
  ·have:=h3 hx;subst this;have e1:(y != 0)=true:=by simpa using hx
   simp only [e1,if_true];refine ⟨?_,by omega⟩;rcases h1 with rfl | h1
   ·exact .inl rfl
   ·exact .inr (by omega)
theorem otR_step:∀ r,otR kf N (r + 1)=otR kf N r∨r + 1<=cntN (otR kf N (r + 1))
 | 0=>by
  rcases (leN_cnt (by rw [otR_len,otR_len]) (otR_le (kf:=kf) (N:=N) 0)).1 with h | h
  ·exact .inl h.symm
  ·exact .inr (by omega)
 | r + 1=>by
  rcases otR_step r with h | h
  ·left;show otL kf N (otR kf N (r + 1))=otL kf N (otR kf N r);rw [h]
  ·rcases (leN_cnt (by rw [otR_len,otR_len]) (otR_le (kf:=kf) (N:=N) (r + 1))).1 with h2 | h2
   ·exact .inl h2.symm
   ·exact .inr (by omega)
theorem cntN_le (t:List Nat):cntN t<=t.length:=List.countP_le_length
theorem otR_fix {r:Nat} (h:otR kf N (r + 1)=otR kf N r):∀ k,otR kf N (r + k)=otR kf N r
 | 0=>rfl
 | k + 1=>by
  show otL kf N (otR kf N (r + k))=_;rw [otR_fix h k];exact h
theorem otR_end:otR kf N (N + 1)=otR kf N N:=by
 rcases otR_step (kf:=kf) (N:=N) N with h | h
 ·exact h
 ·have:=cntN_le (otR kf N (N + 1));rw [otR_len] at this;omega
theorem otR_all {r:Nat} (h:otR kf N (r + 1)=otR kf N r):otR kf N r=otR kf N N:=by
 rcases Nat.le_total r N with h1 | h1
 ·have:=otR_fix h (N - r);rw [<- this];congr 1;omega
 ·have:=otR_fix (otR_end (kf:=kf) (N:=N)) (r - N);rw [<- this];congr 1;omega
end
def otT (sz D:List Nat) (K:List Bool) (ND:List Nd):List Nat:=otR (othK sz D K ND) ND.length ND.length
theorem otT_len (sz D:List Nat) (K:List Bool) (ND:List Nd):(otT sz D K ND).length=ND.length:=otR_len _
theorem otT_get {sz D:List Nat} {K:List Bool} {ND:List Nd} {i:Nat} (h:(otT sz D K ND).getD i 0≠0):∃ n,ND[i]? = some n/\K.getD i false=true/\(otT sz D K ND).getD i 0=othE (otT sz D K ND) (othS sz D K n):=by
 obtain ⟨k,hk,hv⟩:=otR_ok (kf:=othK sz D K ND) (N:=ND.length) ND.length i h;unfold othK at hk;split at hk
 ·rename_i n hn;split at hk
  ·rename_i hK;cases hk;exact ⟨n,hn,hK,hv⟩
  ·cases hk
 ·cases hk
def valN (k n:Int):Val:=.mk k n emptyB []
def tagV (F:Nat->Val) (es:List Ed) (c:Nat):Val:=match es[c]? with | some e=>.mk 8 c emptyB (if e.bare=true then [] else [F e.to.toNat]) | none=>valN 8 c
def firstV (ND:List Nd) (D:List Nat):Nat->Nat->Val
 | 0,_=>valN 0 0
 | f + 1,i=>match ND[i]? with
  | none=>valN 0 0
  | some n=>if n.kind=2 then valN 2 n.lo
   else if n.kind=7 then .mk 7 0 emptyB (n.edges.map fun e=>firstV ND D f e.to.toNat)
   else if n.kind=8 then (match chooseF D n.edges with | some c=>tagV (firstV ND D f) n.edges c | none=>valN 8 0)
   else valN n.kind 0
theorem tagV_congr {F G:Nat->Val} {es:List Ed} {c:Nat} (h:∀ e,es[c]? = some e->e.bare=false->F e.to.toNat=G e.to.toNat):tagV F es c=tagV G es c:=by
 unfold tagV
 cases he:es[c]? with
 | none=>rfl
 | some e=>
  simp only
  cases hb:e.bare with
  | true=>rfl
  | false=>rw [h e he hb]
theorem firstV_more {ND:List Nd} {D:List Nat} (h:DepOK ND D):∀ (f i:Nat),0 < D.getD i 0->D.getD i 0<=f->firstV ND D (f + 1) i=firstV ND D f i
 | 0,i,h0,h1=>by omega
 | f + 1,i,h0,h1=>by
  have ih:=firstV_more h f;rw [firstV,firstV]
  cases hn:ND[i]? with
  | none=>rfl
  | some n=>
   simp only;split
   ·rfl
   ·split
    ·rename_i h7;refine congrArg (Val.mk 7 0 emptyB) (List.map_congr_left fun e he=>?_);obtain ⟨h2,h3⟩:=h.rcd hn h0 h7 e he;exact ih _ h2 (by unfold edN at h3;omega)
    ·split
     ·rename_i h8;obtain ⟨c,e,hc,he,hp⟩:=h.uni hn h0 h8;rw [hc];refine tagV_congr fun e' he' hb=>?_;rw [he] at he';cases he';obtain ⟨h2,h3⟩:=hp hb;exact ih _ h2 (by unfold edN at h3;omega)
     ·rfl
def fstV (ND:List Nd) (D:List Nat) (i:Nat):Val:=firstV ND D ND.length i
theorem firstV_top {ND:List Nd} {D:List Nat} (h:DepOK ND D) {i:Nat} (h0:0 < D.getD i 0):∀ k,firstV ND D (D.getD i 0 + k) i=firstV ND D (D.getD i 0) i
 | 0=>rfl
 | k + 1=>by rw [<- firstV_top h h0 k];exact firstV_more h (D.getD i 0 + k) i h0 (by omega)
theorem firstV_any {ND:List Nd} {D:List Nat} (h:DepOK ND D) {f i:Nat} (h0:0 < D.getD i 0) (h1:D.getD i 0<=f):firstV ND D f i=fstV ND D i:=by
 have hle:=h.le i;have h2:=firstV_top h h0 (f - D.getD i 0);have h3:=firstV_top h h0 (ND.length - D.getD i 0);rw [show D.getD i 0 + (f - D.getD i 0)=f by omega] at h2;rw [show D.getD i 0 + (ND.length - D.getD i 0)=ND.length by omega] at h3;unfold fstV;rw [h2,h3]
def secB (F G:Nat->Val) (D:List Nat) (K:List Bool) (n:Nd):Val:=
 if n.kind=2 then valN 2 (n.lo + 1)
 else if n.kind=3 then .mk 3 0 ⟨#[97]⟩ []
 else if n.kind=5∨n.kind=6 then (match n.edges[0]? with | some e=>.mk n.kind 0 emptyB [F e.to.toNat] | none=>valN n.kind 0)
 else if n.kind=7 then (match chgF K n.edges with
  | some c=>(match n.edges[c]? with | some e=>.mk 7 0 emptyB ((n.edges.map fun e=>F e.to.toNat).set c (G e.to.toNat)) | none=>valN 7 0)
  | none=>valN 7 0)
 else if n.kind=8 then (match turnF D n.edges with
  | some c=>tagV F n.edges c
  | none=>(match chooseF D n.edges with | some c=>(match n.edges[c]? with | some e=>.mk 8 c emptyB [G e.to.toNat] | none=>valN 8 c) | none=>valN 8 0))
 else valN n.kind 1
def secondV (ND:List Nd) (D:List Nat) (K:List Bool):Nat->Nat->Val
 | 0,_=>valN 0 0
 | f + 1,i=>match ND[i]? with
  | none=>valN 0 0
  | some n=>secB (fstV ND D) (secondV ND D K f) D K n
def secV (ND:List Nd) (D:List Nat) (K:List Bool) (i:Nat):Val:=secondV ND D K 4096 i
theorem prtF_le {sz:List Nat} (hz:∀ z∈sz,z<=4097) (e:Ed):prtF sz e<=4097:=by
 unfold prtF edN;split
 ·omega
 ·rw [List.getD_eq_getElem?_getD]
  cases h:sz[e.to.toNat]? with
  | none=>exact Nat.zero_le _
  | some z=>exact hz z (mG h)
theorem sumX_take {sz:List Nat} {c:Int} {es:List Ed} {e:Nat} {x:Ed} (h:es[e]? = some x):sumX sz c (es.take (e + 1)) 0 1=if (e:Int)=c then sumX sz c (es.take e) 0 1 else cutM (sumX sz c (es.take e) 0 1 + prtF sz x):=by
 have hl:(es.take e).length=e:=by rw [List.length_take];have:=(gS h).1;omega
 rw [take_snoc h,sumX_snoc,hl,Nat.zero_add]
theorem wrapN {a b:Nat} (ha:a<=1099511627776) (hb:b<=1099511627776):IntKind.i64.wrap ((a:Int) + (b:Int))=((a + b:Nat):Int):=by rw [wrap64 (by omega) (by omega)];omega
section
variable (PC:List DV) (ND:List Nd) (D:List Nat) (K:List Bool) (sz ot:List Nat) {L:Nat}
abbrev fstSt (n:Nd) (s e:Nat):St:=
 ⟨[(0,⟨[],.pt (mkD PC ND D K sz ot) 0⟩),(3,⟨[],.loc 0 0⟩),(5,⟨[],.v (.int .i64 s)⟩),(13,⟨[],.sl 10 (dEds n.edges) none⟩),(14,⟨[],.v (.int .i64 (dEds n.edges).length)⟩),(15,⟨[],.v (.int .i64 e)⟩)],[dNd n],[]⟩
theorem sfirst_spec {n:Nd} (hD:D.length=ND.length) (hs:sz.length=ND.length) (hz:∀ z∈sz,z<=4097) (hn:NdOK L ND.length n) (hel:n.edges.length<=1099511627776) (h8:n.kind=8->∃ c e,chooseF D n.edges=some c/\n.edges[c]? = some e) :
  EvP Tryz.prog 203 [.pt (mkD PC ND D K sz ot) 0,.agg (dNd n)] (.v (.int .i64 (sizeF sz D n:Nat))):=by
 have hch:=choose_spec PC ND D K sz ot hD hn hel;have hedge:=hn.edge;obtain ⟨kind,at',lo,hi,most,names,es⟩:=n;simp only at hedge hel hch h8;have hdl:=dEds_len es;refine ev_go (P:=Tryz.prog) tt tt_ok 5000 41 [.tmp 4] Tryz.func203 rfl Tryz.ntmps203 rfl (nL rfl) (fun E9 w9 hn9 hm9=>?_);refine br (fun c7=>?_) (fun c7=>?_)
 ·have c7:kind=7:=by simpa using c7
  have hF:sizeF sz D ⟨kind,at',lo,hi,most,names,es⟩=sumX sz (-1) es 0 1:=by simp [sizeF,c7]
  rw [hF];refine loop_i (fun j st=>∃ e:Nat,st=fstSt PC ND D K sz ot ⟨kind,at',lo,hi,most,names,es⟩ (sumX sz (-1) (es.take e) 0 1) e/\e<=es.length/\j=es.length - e) es.length (fstSt PC ND D K sz ot ⟨kind,at',lo,hi,most,names,es⟩ 1 0) (weak_b 1 rfl wA rfl rfl rfl wB) ⟨0,rfl,by omega,by omega⟩ ?_;rintro j st ⟨e,rfl,he,rfl⟩;refine br (fun hL=>?_) (fun hL=>?_)
  ·have hlt:e < es.length:=by simpa [hdl] using hL
   obtain ⟨x,hx⟩:∃ x,es[e]? = some x:=⟨_,gE hlt⟩;have hp:=spart_spec PC ND D K sz ot hs (hedge x (mG hx));have hpl:=prtF_le hz x;have hsl:=sumX_le (sz:=sz) (c:=-1) (es:=es.take e) (i:=0) (n:=1) (by omega);have hnx:sumX sz (-1) (es.take (e + 1)) 0 1=cutM (sumX sz (-1) (es.take e) 0 1 + prtF sz x):=by rw [sumX_take hx,if_neg (by omega)]
   have hw:=wrapN (a:=sumX sz (-1) (es.take e) 0 1) (b:=prtF sz x) (by omega) (by omega);refine ⟨_,⟨by omega,dEds_get hx⟩,?_⟩;refine call_p en317 (hp) ax rfl ?_;refine call_p en259 (scut_spec (sumX sz (-1) (es.take e) 0 1 + prtF sz x)) (by repeat' (first | exact rfl | exact trivial | exact Or.inr (Or.inl ⟨_,rfl⟩) | exact Or.inr ⟨_,rfl⟩ | exact Or.inl ⟨rfl,rfl⟩ | exact Or.inl rfl | refine Or.inr ⟨_,_,rfl,Nat.zero_le _,rfl,?_⟩ | refine ⟨_,_,rfl,?_,?_⟩ | refine ⟨_,rfl,?_⟩ | exact congrArg (fun z=>DV.v (.int .i64 z)) hw| refine Or.inr (Or.inr (Or.inr ⟨_,_,rfl,?_⟩)) | exact Or.inl rfl | refine Or.inr ?_)) rfl ?_;exact ⟨fstSt PC ND D K sz ot ⟨kind,at',lo,hi,most,names,es⟩ (sumX sz (-1) (es.take (e + 1)) 0 1) (e + 1),(weak_b 1 rfl (by repeat' (first | exact rfl | exact we_rfl rfl | exact we_int (nxt hlt (by omega)) | exact we_int (congrArg Nat.cast hnx.symm) | refine ⟨_,_,rfl,?_,?_⟩)) rfl rfl rfl (by repeat' (first | exact trivial | exact we_rfl rfl | exact we_int (nxt hlt (by omega)) | exact we_int (congrArg Nat.cast hnx.symm) | refine ⟨⟨_,rfl,?_⟩,?_⟩))),es.length - (e + 1),by omega,e + 1,rfl,by omega,rfl⟩
  ·have hge:e=es.length:=by have:=hL;simp [hdl] at this;omega
   subst hge;rw [List.take_length];exact (rfl:_=_)
 ·have c7:¬ kind=7:=by simpa using c7
  refine br (fun c8=>?_) (fun c8=>?_)
  ·have c8:kind=8:=by simpa using c8
   obtain ⟨c,x,hc,hx⟩:=h8 c8;rw [hc] at hch;have hF:sizeF sz D ⟨kind,at',lo,hi,most,names,es⟩=cutM (1 + prtF sz x):=by simp [sizeF,c8,hc,hx]
   have hp:=spart_spec PC ND D K sz ot hs (hedge x (mG hx));have hpl:=prtF_le hz x;have hw:=wrapN (a:=1) (b:=prtF sz x) (by omega) (by omega);rw [hF];refine drawG_i (fun _=>false) mo (by decide +kernel) ?_;refine callD_p en205 (hch) ax rfl ?_;refine ⟨_,⟨Int.natCast_nonneg _,dEds_get hx⟩,?_⟩;refine callD_p en317 (hp) ax rfl ?_;refine callD_p en259 (scut_spec (1 + prtF sz x)) (by repeat' (first | exact rfl | exact trivial | exact Or.inr (Or.inl ⟨_,rfl⟩) | exact Or.inr ⟨_,rfl⟩ | exact Or.inl ⟨rfl,rfl⟩ | exact Or.inl rfl | refine Or.inr ⟨_,_,rfl,Nat.zero_le _,rfl,?_⟩ | refine ⟨_,_,rfl,?_,?_⟩ | refine ⟨_,rfl,?_⟩ | exact congrArg (fun z=>DV.v (.int .i64 z)) hw| refine Or.inr (Or.inr (Or.inr ⟨_,_,rfl,?_⟩)) | exact Or.inl rfl | refine Or.inr ?_)) rfl ?_;exact (rfl:_=_)
  ·have c8:¬ kind=8:=by simpa using c8
   refine (congrArg (fun z=>DV.v (.int .i64 z)) ?_:_=_);simp [sizeF,c7,c8]
abbrev chgSt (n:Nd) (e:Nat):St:=
 ⟨[(0,⟨[],.pt (mkD PC ND D K sz ot) 0⟩),(3,⟨[],.loc 0 0⟩),(8,⟨[],.sl 10 (dEds n.edges) none⟩),(9,⟨[],.v (.int .i64 (dEds n.edges).length)⟩),(10,⟨[],.v (.int .i64 e)⟩)],[dNd n],[]⟩
theorem schanged_spec {n:Nd} (hK:K.length=ND.length) (hn:NdOK L ND.length n) (h7:n.kind=7) (hel:n.edges.length<=1099511627776) :
  EvP Tryz.prog 206 [.pt (mkD PC ND D K sz ot) 0,.agg (dNd n)] (.v (.int .i64 (oz (chgF K n.edges)))):=by
 have hedge:=hn.edge;have hbare:=hn.bare;obtain ⟨kind,at',lo,hi,most,names,es⟩:=n;simp only at hedge hel h7 hbare;have hdl:=dEds_len es;refine ev_go (P:=Tryz.prog) tt tt_ok 5000 25 [.tmp 4] Tryz.func206 rfl Tryz.ntmps206 rfl (nL rfl) (fun E9 w9 hn9 hm9=>?_);refine loop_i (fun j st=>∃ e:Nat,st=chgSt PC ND D K sz ot ⟨kind,at',lo,hi,most,names,es⟩ e/\e<=es.length/\(∀ k,k < e->chgP K es k=false)/\j=es.length - e) es.length (chgSt PC ND D K sz ot ⟨kind,at',lo,hi,most,names,es⟩ 0) (weak_b 1 rfl wA rfl rfl rfl wB) ⟨0,rfl,by omega,fun _ h=>by omega,by omega⟩ ?_;rintro j st ⟨e,rfl,he,hB,rfl⟩;refine br (fun hL=>?_) (fun hL=>?_)
 ·have hlt:e < es.length:=by simpa [hdl] using hL
  obtain ⟨x,hx⟩:∃ x,es[e]? = some x:=⟨_,gE hlt⟩
  have hxb:x.bare=false:=by
   cases hb:x.bare with
   | false=>rfl
   | true=>have:=hbare x (mG hx) hb;omega
  obtain ⟨k,hk,hkl⟩:=(hedge x (mG hx)).to1 hxb;obtain ⟨z,hz⟩:∃ z,K[k]? = some z:=⟨_,gE (by omega)⟩;have hP:chgP K es e=z:=by unfold chgP;rw [hx];simp only;rw [hk,Int.toNat_natCast,List.getD_eq_getElem?_getD,hz];all_goals rfl
  refine ⟨_,⟨by omega,dEds_get hx⟩,?_⟩;refine drawG_n mo (by decide +kernel) ?_;refine ⟨_,⟨by rw [hk];exact Int.natCast_nonneg _,by rw [hk];exact dBo_get hz⟩,?_⟩;refine br (fun g=>?_) (fun g=>?_)
  ·have g:z=true:=by simpa using g
   rw [show chgF K es=some e from firstN_some hlt (hP.trans g) hB];exact (rfl:_=_)
  ·have g:z=false:=by simpa using g
   exact ⟨chgSt PC ND D K sz ot ⟨kind,at',lo,hi,most,names,es⟩ (e + 1),(weak_b 1 rfl (wNA hlt) rfl rfl rfl (wNB hlt)),es.length - (e + 1),by omega,e + 1,rfl,by omega,fun k hk=>by
    rcases Nat.lt_succ_iff_lt_or_eq.1 hk with h1 | rfl
    ·exact hB k h1
    ·exact hP.trans g,rfl⟩
 ·have hge:e=es.length:=by have:=hL;simp [hdl] at this;omega
  subst hge;rw [show chgF K es=none from firstN_none hB];exact (rfl:_=_)
end
abbrev w26 (a b:Nat) (A B:List (List DV)) (ND:List Nd) (z:Int) (D M S O:List Nat):List DV:=[.sl a A none,.sl b B none,.sl 7 (dNds ND) none,.v (.int .i64 z),.sl 1 (dInts D) none,.sl 1 (dInts M) none,.sl 1 (dInts S) none,.sl 1 (dInts O) none]
theorem cut26_spec (n:Nat):EvP Tryz.prog 195 [.v (.int .i64 n)] (.v (.int .i64 (cutM n:Nat))):=by
 refine ev_go (P:=Tryz.prog) tt tt_ok 5000 6 [.tmp 2] Tryz.func195 rfl Tryz.ntmps195 rfl (nL rfl) (fun E9 w9 hn9 hm9=>?_);refine br (fun c=>?_) (fun c=>?_)
 ·have c:(4097:Int) < n:=by simpa using c
  refine (congrArg (fun z=>DV.v (.int .i64 z)) ?_:_=_);unfold cutM;omega
 ·have c:¬ (4097:Int) < n:=by simpa using c
  refine (congrArg (fun z=>DV.v (.int .i64 z)) ?_:_=_);unfold cutM;omega
def tgStep (D:List Nat) (es:List Ed) (but:Int) (i:Nat) (out:Option Nat):Option Nat:=match es[i]? with
 | none=>out
 | some e=>if (i:Int)=but∨thB D e=false then out else if 0<=but then some i else match out with
  | none=>some i
  | some k=>match es[k]? with | none=>some i | some y=>if dpE D e<=dpE D y then some i else some k
def tagR (D:List Nat) (es:List Ed) (but:Int):Nat->Option Nat
 | 0=>none
 | c + 1=>tgStep D es but (es.length - (c + 1)) (tagR D es but c)
theorem tagR_in {D:List Nat} {es:List Ed} {but:Int}:∀ {c k:Nat},c<=es.length->tagR D es but c=some k->es.length - c<=k/\∃ e,es[k]? = some e/\thB D e=true/\(k:Int)≠but
 | 0,k,_,h=>by cases h
 | c + 1,k,hc,h=>by
  rw [tagR] at h;have ih:=fun k h=>tagR_in (D:=D) (es:=es) (but:=but) (c:=c) (k:=k) (by omega) h;have hx:es[es.length - (c + 1)]? = some es[es.length - (c + 1)]:=gE (by omega);generalize tagR D es but c=out at h ih;unfold tgStep at h;rw [hx] at h;simp only at h
  have hup:out=some k->es.length - (c + 1)<=k/\∃ e,es[k]? = some e/\thB D e=true/\(k:Int)≠but:=fun h=>by
   obtain ⟨h1,h2⟩:=ih k h;exact ⟨by omega,h2⟩
  split at h
  ·exact hup h
  ·rename_i hn
   have hnow:some (es.length - (c + 1))=some k->es.length - (c + 1)<=k/\∃ e,es[k]? = some e/\thB D e=true/\(k:Int)≠but:=fun h=>by
    cases h;exact ⟨Nat.le_refl _,_,hx,by cases ht:thB D es[es.length - (c + 1)]<;>simp_all,fun h=>hn (.inl h)⟩
   split at h
   ·exact hnow h
   ·split at h
    ·exact hnow h
    ·split at h
     ·exact hnow h
     ·split at h
      ·exact hnow h
      ·exact hup h
theorem tagR_best {D:List Nat} {es:List Ed}:∀ {c:Nat},c<=es.length->(tagR D es (-1) c=none->∀ (j:Nat) x,es.length - c<=j->es[j]? = some x->thB D x=false) /\
  ∀ k,tagR D es (-1) c=some k->∃ e,es[k]? = some e/\(∀ (j:Nat) x,es.length - c<=j->es[j]? = some x->thB D x=true->dpE D e<=dpE D x)/\∀ (j:Nat) x,es.length - c<=j->j < k->es[j]? = some x->thB D x=true->dpE D e < dpE D x
 | 0,_=>⟨fun _ j x hj hx=>by have:=(gS hx).1;omega,fun k h=>by cases h⟩
 | c + 1,hc=>by
  obtain ⟨ih1,ih2⟩:=tagR_best (D:=D) (es:=es) (c:=c) (by omega);have hin:=fun k h=>tagR_in (D:=D) (es:=es) (but:=-1) (c:=c) (k:=k) (by omega) h;have hx:es[es.length - (c + 1)]? = some es[es.length - (c + 1)]:=gE (by omega);have hcase:∀ {j:Nat},es.length - (c + 1)<=j->j=es.length - (c + 1)∨es.length - c<=j:=fun h=>by omega
  rw [tagR];generalize tagR D es (-1) c=out at ih1 ih2 hin;generalize es[es.length - (c + 1)]=e at hx;generalize hi:es.length - (c + 1)=i at hx hcase;unfold tgStep;rw [hx];simp only;by_cases hth:thB D e=true
  ·rw [if_neg (by rw [hth];simp),if_neg (by omega)]
   cases out with
   | none=>
    refine ⟨fun h=>(by cases h),fun k h=>?_⟩;cases h;refine ⟨e,hx,fun j x hj hxj ht=>?_,fun j x hj hjk hxj ht=>by omega⟩;rcases hcase hj with rfl | hj
    ·rw [hx] at hxj;cases hxj;exact Nat.le_refl _
    ·rw [ih1 rfl j x hj hxj] at ht;cases ht
   | some k=>
    obtain ⟨y,hy,h1,h2⟩:=ih2 k rfl;obtain ⟨hk,_⟩:=hin k rfl;simp only [hy];by_cases hle:dpE D e<=dpE D y
    ·rw [if_pos hle];refine ⟨fun h=>(by cases h),fun k' h=>?_⟩;cases h;refine ⟨e,hx,fun j x hj hxj ht=>?_,fun j x hj hjk hxj ht=>by omega⟩;rcases hcase hj with rfl | hj
     ·rw [hx] at hxj;cases hxj;exact Nat.le_refl _
     ·have:=h1 j x hj hxj ht;omega
    ·rw [if_neg hle];refine ⟨fun h=>(by cases h),fun k' h=>?_⟩;cases h;refine ⟨y,hy,fun j x hj hxj ht=>?_,fun j x hj hjk hxj ht=>?_⟩
     ·rcases hcase hj with rfl | hj
      ·rw [hx] at hxj;cases hxj;omega
      ·exact h1 j x hj hxj ht
     ·rcases hcase hj with rfl | hj
      ·rw [hx] at hxj;cases hxj;omega
      ·exact h2 j x hj hjk hxj ht
  ·have hth:thB D e=false:=by simpa using hth
   rw [if_pos (.inr hth)];refine ⟨fun h j x hj hxj=>?_,fun k h=>?_⟩
   ·rcases hcase hj with rfl | hj
    ·rw [hx] at hxj;cases hxj;exact hth
    ·exact ih1 h j x hj hxj
   ·obtain ⟨y,hy,h1,h2⟩:=ih2 k h;refine ⟨y,hy,fun j x hj hxj ht=>?_,fun j x hj hjk hxj ht=>?_⟩
    ·rcases hcase hj with rfl | hj
     ·rw [hx] at hxj;cases hxj;rw [hth] at ht;cases ht
     ·exact h1 j x hj hxj ht
    ·rcases hcase hj with rfl | hj
     ·rw [hx] at hxj;cases hxj;rw [hth] at ht;cases ht
     ·exact h2 j x hj hjk hxj ht
theorem tagR_choose (D:List Nat) (es:List Ed):tagR D es (-1) es.length=chooseF D es:=by
 obtain ⟨h1,h2⟩:=tagR_best (D:=D) (es:=es) (Nat.le_refl _)
 cases h:tagR D es (-1) es.length with
 | none=>
  refine (choose_none fun x hx=>?_).symm;obtain ⟨j,hj,rfl⟩:=List.getElem_of_mem hx;exact h1 h j _ (by omega) (gE hj)
 | some k=>
  obtain ⟨_,e,he,ht,_⟩:=tagR_in (Nat.le_refl _) h;obtain ⟨e',he',h3,h4⟩:=h2 k h;rw [he] at he';cases he';refine (choose_of he ht (fun x hx hxt=>?_) fun j x hj hx hxt=>h4 j x (by omega) hj hx hxt).symm;obtain ⟨j,hj,rfl⟩:=List.getElem_of_mem hx;exact h3 j _ (by omega) (gE hj) hxt
theorem tagR_first {D:List Nat} {es:List Ed} {b:Nat}:∀ {c:Nat},c<=es.length->∀ (j:Nat) x,es.length - c<=j->es[j]? = some x->thB D x=true->j≠b->∃ k,tagR D es b c=some k/\k<=j
 | 0,_,j,x,hj,hx,_,_=>by have:=(gS hx).1;omega
 | c + 1,hc,j,x,hj,hx,ht,hb=>by
  have hx':es[es.length - (c + 1)]? = some es[es.length - (c + 1)]:=gE (by omega);rw [tagR];unfold tgStep;rw [hx'];simp only;split
  ·rename_i hn;rcases (show j=es.length - (c + 1)∨es.length - c<=j by omega) with rfl | hj'
   ·rw [hx] at hx';cases hx';rcases hn with hn | hn
    ·omega
    ·rw [ht] at hn;cases hn
   ·exact tagR_first (by omega) j x hj' hx ht hb
  ·rw [if_pos (by omega)];exact ⟨_,rfl,hj⟩
theorem tagR_turn {D:List Nat} {es:List Ed} {b:Nat} (h:chooseF D es=some b):tagR D es b es.length=turnF D es:=by
 cases ht:tagR D es b es.length with
 | none=>
  refine (firstN_none fun j hj=>?_).symm;rw [turnP_at (gE hj),h]
  cases hth:thB D es[j] with
  | false=>simp
  | true=>
   by_cases hjb:j=b
   ·subst hjb;simp
   ·obtain ⟨k,hk,_⟩:=tagR_first (D:=D) (b:=b) (Nat.le_refl _) j _ (by omega) (gE hj) hth hjb;rw [ht] at hk;cases hk
 | some k=>
  obtain ⟨_,e,he,hth,hne⟩:=tagR_in (Nat.le_refl _) ht;refine (firstN_some (gS he).1 ?_ fun j hj=>?_).symm
  ·rw [turnP_at he,h,hth,Bool.and_true];exact decide_eq_true fun h2=>hne (by cases h2;rfl)
  ·have hjl:j < es.length:=by have:=(gS he).1;omega
   rw [turnP_at (gE hjl),h]
   cases hth2:thB D es[j] with
   | false=>simp
   | true=>
    by_cases hjb:j=b
    ·subst hjb;simp
    ·obtain ⟨k',hk',hle⟩:=tagR_first (D:=D) (b:=b) (Nat.le_refl _) j _ (by omega) (gE hjl) hth2 hjb;rw [ht] at hk';cases hk';omega
section
variable (a b:Nat) (A B:List (List DV)) (ND:List Nd) (z:Int) (D M S O:List Nat) {L:Nat}
theorem depth26_spec {e:Ed} (hD:D.length=ND.length) (he:EdOK L ND.length e) :
  EvP Tryz.prog 208 [.agg (w26 a b A B ND z D M S O),.agg (dEd e)] (.v (.int .i64 (dpE D e:Nat))):=by
 obtain ⟨en,eb,ea,et,elb,ew,eck,ecn,ese,eca⟩:=e;have h1:=he.to1;simp only at h1;refine ev_go (P:=Tryz.prog) tt tt_ok 5000 13 [.tmp 4] Tryz.func208 rfl Tryz.ntmps208 rfl (nL rfl) (fun E9 w9 hn9 hm9=>?_);refine br (fun c=>?_) (fun c=>?_)
 ·subst c;exact (rfl:_=_)
 ·subst c;obtain ⟨k,rfl,hkl⟩:=h1 rfl;have hg:D[k]? = some D[k]:=gE (by omega);refine ⟨_,⟨Int.natCast_nonneg _,dInts_get hg⟩,?_⟩;refine (congrArg (fun z=>DV.v (.int .i64 z)) ?_:_=_);unfold dpE edN;simp [List.getD_eq_getElem?_getD,hg]
abbrev sm26St (es:List Ed) (c:Int) (s e:Nat):St:=
 ⟨[(1,⟨[],.sl 10 (dEds es) none⟩),(2,⟨[],.v (.int .i64 c)⟩),(3,⟨[],.loc 0 0⟩),(7,⟨[],.v (.int .i64 s)⟩),(8,⟨[],.v (.int .i64 e)⟩)],[w26 a b A B ND z D M S O],[]⟩
theorem sum26_spec (es:List Ed) (c:Int) (hS:S.length=ND.length) (hz:∀ z∈S,z<=4097) (he:∀ e∈es,EdOK L ND.length e) (hel:es.length<=1099511627776) :
  EvP Tryz.prog 194 [.agg (w26 a b A B ND z D M S O),.sl 10 (dEds es) none,.v (.int .i64 c)] (.v (.int .i64 (sumX S c es 0 1:Nat))):=by
 have hdl:=dEds_len es;refine ev_go (P:=Tryz.prog) tt tt_ok 5000 39 [.tmp 6] Tryz.func194 rfl Tryz.ntmps194 rfl (nL rfl) (fun E9 w9 hn9 hm9=>?_);refine loop_i (fun j st=>∃ e:Nat,st=sm26St a b A B ND z D M S O es c (sumX S c (es.take e) 0 1) e/\e<=es.length/\j=es.length - e) es.length (sm26St a b A B ND z D M S O es c 1 0) (weak_b 1 rfl wA rfl rfl rfl wB) ⟨0,rfl,by omega,by omega⟩ ?_;rintro j st ⟨e,rfl,hel',rfl⟩;refine br (fun hL=>?_) (fun hL=>?_)
 ·have hlt:e < es.length:=by simpa [hdl] using hL
  obtain ⟨x,hx⟩:∃ x,es[e]? = some x:=⟨_,gE hlt⟩;have hxo:=he x (mG hx);have hnx:=sumX_take (sz:=S) (c:=c) hx;have hsl:=sumX_le (sz:=S) (c:=c) (es:=es.take e) (i:=0) (n:=1) (by omega);have hpl:=prtF_le hz x;generalize sumX S c (es.take e) 0 1=s at hnx hsl ⊢;refine br (fun c1=>?_) (fun c1=>?_)
  ·have c1:¬ (e:Int)=c:=fun h=>by simp [lastG,h] at c1
   rw [if_neg c1] at hnx;refine ⟨_,⟨Int.natCast_nonneg _,dEds_get hx⟩,?_⟩;refine br (fun c2=>?_) (fun c2=>?_)
   ·have c2:x.bare=false:=by simpa [lastG,pickB] using c2
    obtain ⟨k,hk,hkl⟩:=hxo.to1 c2;have hg:S[k]? = some S[k]:=gE (by omega);have hpr:prtF S x=S[k]:=by unfold prtF edN;rw [c2,hk,Int.toNat_natCast,List.getD_eq_getElem?_getD,hg];all_goals rfl
    rw [hpr] at hnx hpl;generalize S[k]=v at hnx hpl hg;have hw:=wrapN (a:=s) (b:=v) (by omega) (by omega);obtain ⟨en,eb,ea,et,elb,ew,eck,ecn,ese,eca⟩:=x;simp only at hk;subst hk;refine drawG_i (fun _=>false) mo (by decide +kernel) ?_;refine ⟨_,⟨Int.natCast_nonneg _,dEds_get hx⟩,?_⟩;refine ⟨_,⟨Int.natCast_nonneg _,dInts_get hg⟩,?_⟩;refine callD_p en195 (cut26_spec (s + v)) (by repeat' (first | exact rfl | exact trivial | exact Or.inr (Or.inl ⟨_,rfl⟩) | exact Or.inr ⟨_,rfl⟩ | exact Or.inl ⟨rfl,rfl⟩ | exact Or.inl rfl | refine Or.inr ⟨_,_,rfl,Nat.zero_le _,rfl,?_⟩ | refine ⟨_,_,rfl,?_,?_⟩ | refine ⟨_,rfl,?_⟩ | exact congrArg (fun z=>DV.v (.int .i64 z)) hw| refine Or.inr (Or.inr (Or.inr ⟨_,_,rfl,?_⟩)) | exact Or.inl rfl | refine Or.inr ?_)) rfl ?_;exact ⟨sm26St a b A B ND z D M S O es c (sumX S c (es.take (e + 1)) 0 1) (e + 1),(weak_b 1 rfl (by repeat' (first | exact rfl | exact we_rfl rfl | exact we_int (congrArg Nat.cast hnx.symm) | exact we_int (nxt hlt (by omega)) | refine ⟨_,_,rfl,?_,?_⟩)) rfl rfl rfl (by repeat' (first | exact trivial | exact we_rfl rfl | exact we_int (congrArg Nat.cast hnx.symm) | exact we_int (nxt hlt (by omega)) | refine ⟨⟨_,rfl,?_⟩,?_⟩))),es.length - (e + 1),by omega,e + 1,rfl,by omega,rfl⟩
   ·have c2:x.bare=true:=by simpa [lastG,pickB] using c2
    have hs:s=sumX S c (es.take (e + 1)) 0 1:=by rw [hnx];unfold prtF cutM;rw [if_pos c2];omega
    exact ⟨sm26St a b A B ND z D M S O es c (sumX S c (es.take (e + 1)) 0 1) (e + 1),(weak_b 1 rfl (by repeat' (first | exact rfl | exact we_rfl rfl | exact we_int (congrArg Nat.cast hs) | exact we_int (nxt hlt (by omega)) | refine ⟨_,_,rfl,?_,?_⟩)) rfl rfl rfl (by repeat' (first | exact trivial | exact we_rfl rfl | exact we_int (congrArg Nat.cast hs) | exact we_int (nxt hlt (by omega)) | refine ⟨⟨_,rfl,?_⟩,?_⟩))),es.length - (e + 1),by omega,e + 1,rfl,by omega,rfl⟩
  ·have c1:(e:Int)=c:=Decidable.byContradiction fun h=>by simp [lastG,h] at c1
   rw [if_pos c1] at hnx;exact ⟨sm26St a b A B ND z D M S O es c (sumX S c (es.take (e + 1)) 0 1) (e + 1),(weak_b 1 rfl (by repeat' (first | exact rfl | exact we_rfl rfl | exact we_int (congrArg Nat.cast hnx.symm) | exact we_int (nxt hlt (by omega)) | refine ⟨_,_,rfl,?_,?_⟩)) rfl rfl rfl (by repeat' (first | exact trivial | exact we_rfl rfl | exact we_int (congrArg Nat.cast hnx.symm) | exact we_int (nxt hlt (by omega)) | refine ⟨⟨_,rfl,?_⟩,?_⟩))),es.length - (e + 1),by omega,e + 1,rfl,by omega,rfl⟩
 ·have hge:e=es.length:=by have:=hL;simp [hdl] at this;omega
  subst hge;rw [List.take_length];exact (rfl:_=_)
abbrev tg26St (n:Nd) (but:Int) (out:Option Nat) (j:Int):St:=
 ⟨[(2,⟨[],.v (.int .i64 but)⟩),(3,⟨[],.loc 0 0⟩),(4,⟨[],.loc 1 0⟩),(7,⟨[],.v (.int .i64 (oz out))⟩),(8,⟨[],.v (.int .i64 j)⟩)],[w26 a b A B ND z D M S O,dNd n],[]⟩
theorem tag26_spec {n:Nd} (but:Int) (hD:D.length=ND.length) (hn:NdOK L ND.length n) (hel:n.edges.length<=1099511627776) :
  EvP Tryz.prog 96 [.agg (w26 a b A B ND z D M S O),.agg (dNd n),.v (.int .i64 but)] (.v (.int .i64 (oz (tagR D n.edges but n.edges.length)))):=by
 have hedge:=hn.edge;obtain ⟨kind,at',lo,hi,most,names,es⟩:=n;simp only at hedge hel ⊢;have hdl:=dEds_len es;refine ev_go (P:=Tryz.prog) tt tt_ok 5000 61 [.tmp 6] Tryz.func96 rfl Tryz.ntmps96 rfl (nL rfl) (fun E9 w9 hn9 hm9=>?_);refine loop_i (fun t st=>∃ (c:Nat) (j:Int),st=tg26St a b A B ND z D M S O ⟨kind,at',lo,hi,most,names,es⟩ but (tagR D es but c) j/\c<=es.length/\j=(es.length:Int) - 1 - c/\t=es.length - c) es.length (tg26St a b A B ND z D M S O ⟨kind,at',lo,hi,most,names,es⟩ but none ((es.length:Int) - 1)) (weak_b 2 rfl (by repeat' (first | exact rfl | exact we_rfl rfl | exact we_int (show IntKind.i64.wrap (((dEds es).length:Int) - 1)=(es.length:Int) - 1 by rw [hdl,wrap64 (by omega) (by omega)]) | refine ⟨_,_,rfl,?_,?_⟩)) rfl rfl rfl (by repeat' (first | exact trivial | exact we_rfl rfl | exact we_int (show IntKind.i64.wrap (((dEds es).length:Int) - 1)=(es.length:Int) - 1 by rw [hdl,wrap64 (by omega) (by omega)]) | refine ⟨⟨_,rfl,?_⟩,?_⟩))) ⟨0,_,rfl,by omega,by omega,by omega⟩ ?_;rintro t st ⟨c,j,rfl,hc,hj,rfl⟩;refine br (fun hL=>?_) (fun hL=>?_)
 ·have hL:0<=j:=by simpa using hL
  obtain ⟨i,rfl⟩:∃ i:Nat,j=i:=⟨j.toNat,by omega⟩;have hic:i=es.length - (c + 1):=by omega
  have hlt:i < es.length:=by omega
  obtain ⟨x,hx⟩:∃ x,es[i]? = some x:=⟨_,gE hlt⟩;have hxo:=hedge x (mG hx);have hnew:tagR D es but (c + 1)=tgStep D es but i (tagR D es but c):=by rw [tagR,<- hic]
  have hin:=fun k h=>tagR_in (D:=D) (es:=es) (but:=but) (c:=c) (k:=k) (by omega) h;unfold tgStep at hnew;rw [hx] at hnew;simp only at hnew;have hdep:=depth26_spec a b A B ND z D M S O hD hxo
  have hdx:∃ v,x.bare=false->D[x.to.toNat]? = some v/\0<=x.to/\(thB D x=false↔v=0):=by
   cases hb:x.bare with
   | true=>exact ⟨0,fun h=>by cases h⟩
   | false=>
    obtain ⟨k,hk,hkl⟩:=hxo.to1 hb;have hg:D[x.to.toNat]? = some D[x.to.toNat]:=gE (by omega);exact ⟨_,fun _=>⟨hg,by omega,by unfold thB edN;rw [hb,List.getD_eq_getElem?_getD,hg];simp⟩⟩
  obtain ⟨v,hv⟩:=hdx;have hbt:x.bare=true->thB D x=true:=fun h=>by unfold thB;rw [h];all_goals rfl
  have hend:∀ out2:Option Nat,tagR D es but (c + 1)=out2->∃ c2 j2,tg26St a b A B ND z D M S O ⟨kind,at',lo,hi,most,names,es⟩ but out2 (((i:Nat):Int) - 1)=tg26St a b A B ND z D M S O ⟨kind,at',lo,hi,most,names,es⟩ but (tagR D es but c2) j2/\c2<=es.length/\j2=(es.length:Int) - 1 - c2/\es.length - (c + 1)=es.length - c2:=fun out2 h=>⟨c + 1,_,by rw [h],by omega,by omega,rfl⟩;have hw:IntKind.i64.wrap (((i:Nat):Int) - 1)=((i:Nat):Int) - 1:=wrap64 (by omega) (by omega);generalize tagR D es but c=out at hnew hin;generalize tagR D es but (c + 1)=out2 at hnew hend;refine ⟨_,⟨Int.natCast_nonneg _,dEds_get hx⟩,?_⟩;refine br (fun c1=>?_) (fun c1=>?_)
  ·have c1:¬ (i:Int)=but:=fun h=>by simp [lastG,h] at c1
   refine br (fun c2=>?_) (fun c2=>?_)
   ·have c2:x.bare=false:=by simpa [lastG] using c2
    obtain ⟨hv1,hv2,hv3⟩:=hv c2;refine ⟨_,⟨hv2,dInts_get hv1⟩,?_⟩;refine br (fun c3=>?_) (fun c3=>?_)
    ·have c3:v=0:=by simpa [lastG,pickB] using c3
     rw [if_pos (.inr (hv3.2 c3))] at hnew;exact ⟨tg26St a b A B ND z D M S O ⟨kind,at',lo,hi,most,names,es⟩ but out2 ((i:Nat) - 1),(weak_b 2 rfl (by repeat' (first | exact rfl | exact we_rfl rfl | exact we_int hw | exact we_int (congrArg oz (hnew.symm)) | refine ⟨_,_,rfl,?_,?_⟩)) rfl rfl rfl (by repeat' (first | exact trivial | exact we_rfl rfl | exact we_int hw | exact we_int (congrArg oz (hnew.symm)) | refine ⟨⟨_,rfl,?_⟩,?_⟩))),es.length - (c + 1),by omega,hend out2 rfl⟩
    ·have c3:¬ v=0:=by simpa [lastG,pickB] using c3
     rw [if_neg (fun h=>h.elim c1 (fun h=>c3 (hv3.1 h)))] at hnew;refine drawG_i (fun _=>false) mo (by decide +kernel) ?_;refine br (fun c4=>?_) (fun c4=>?_)
     ·have c4:¬ 0<=but/\out≠none:=by
       cases out with
       | none=>simp [lastG,pickB_or,oz] at c4
       | some k=>exact ⟨fun h=>by simp [lastG,pickB,h] at c4,by simp⟩
      obtain ⟨k,rfl⟩:=Option.ne_none_iff_exists'.1 c4.2;rw [if_neg c4.1] at hnew;obtain ⟨_,y,hy,_,_⟩:=hin k rfl;have hdep2:=depth26_spec a b A B ND z D M S O hD (hedge y (mG hy));simp only [hy] at hnew;refine callD_p en208 (hdep) ax rfl ?_;refine ⟨_,⟨Int.natCast_nonneg _,dEds_get hy⟩,?_⟩;refine callD_p en208 (hdep2) ax rfl ?_;refine br (fun c5=>?_) (fun c5=>?_)
      ·have c5:dpE D x<=dpE D y:=by simpa [lastG,pickB,oz] using c5
       exact ⟨tg26St a b A B ND z D M S O ⟨kind,at',lo,hi,most,names,es⟩ but out2 ((i:Nat) - 1),(weak_b 2 rfl (by repeat' (first | exact rfl | exact we_rfl rfl | exact we_int hw | exact we_int (congrArg oz ((hnew.trans (if_pos c5)).symm)) | refine ⟨_,_,rfl,?_,?_⟩)) rfl rfl rfl (by repeat' (first | exact trivial | exact we_rfl rfl | exact we_int hw | exact we_int (congrArg oz ((hnew.trans (if_pos c5)).symm)) | refine ⟨⟨_,rfl,?_⟩,?_⟩))),es.length - (c + 1),by omega,hend out2 rfl⟩
      ·have c5:¬ dpE D x<=dpE D y:=by simpa [lastG,pickB,oz] using c5
       exact ⟨tg26St a b A B ND z D M S O ⟨kind,at',lo,hi,most,names,es⟩ but out2 ((i:Nat) - 1),(weak_b 2 rfl (by repeat' (first | exact rfl | exact we_rfl rfl | exact we_int hw | exact we_int (congrArg oz ((hnew.trans (if_neg c5)).symm)) | refine ⟨_,_,rfl,?_,?_⟩)) rfl rfl rfl (by repeat' (first | exact trivial | exact we_rfl rfl | exact we_int hw | exact we_int (congrArg oz ((hnew.trans (if_neg c5)).symm)) | refine ⟨⟨_,rfl,?_⟩,?_⟩))),es.length - (c + 1),by omega,hend out2 rfl⟩
     ·have c4:0<=but∨out=none:=by
       cases out with
       | none=>exact .inr rfl
       | some k=>exact .inl (Decidable.byContradiction fun h=>by
         have h2:decide (0<=but)=false:=decide_eq_false h;have h3:decide (oz (some k) < 0)=false:=decide_eq_false (show ¬ ((k:Nat):Int) < 0 by omega);simp only [lastG,pickB_or,h2,h3] at c4
         cases c4)
      have hn2:out2=some i:=by
       by_cases hb:0<=but
       ·rw [hnew,if_pos hb]
       ·rw [c4.resolve_left hb,if_neg hb] at hnew;exact hnew
      exact ⟨tg26St a b A B ND z D M S O ⟨kind,at',lo,hi,most,names,es⟩ but out2 ((i:Nat) - 1),(weak_b 2 rfl (by repeat' (first | exact rfl | exact we_rfl rfl | exact we_int hw | exact we_int (congrArg oz (hn2.symm)) | refine ⟨_,_,rfl,?_,?_⟩)) rfl rfl rfl (by repeat' (first | exact trivial | exact we_rfl rfl | exact we_int hw | exact we_int (congrArg oz (hn2.symm)) | refine ⟨⟨_,rfl,?_⟩,?_⟩))),es.length - (c + 1),by omega,hend out2 rfl⟩
   ·have c2:x.bare=true:=by simpa [lastG] using c2
    rw [if_neg (fun h=>h.elim c1 (fun h=>by rw [hbt c2] at h;cases h))] at hnew;refine drawG_i (fun _=>false) mo (by decide +kernel) ?_;refine br (fun c4=>?_) (fun c4=>?_)
    ·have c4:¬ 0<=but/\out≠none:=by
      cases out with
      | none=>simp [lastG,pickB_or,oz] at c4
      | some k=>exact ⟨fun h=>by simp [lastG,pickB,h] at c4,by simp⟩
     obtain ⟨k,rfl⟩:=Option.ne_none_iff_exists'.1 c4.2;rw [if_neg c4.1] at hnew;obtain ⟨_,y,hy,_,_⟩:=hin k rfl;have hdep2:=depth26_spec a b A B ND z D M S O hD (hedge y (mG hy));simp only [hy] at hnew;refine callD_p en208 (hdep) ax rfl ?_;refine ⟨_,⟨Int.natCast_nonneg _,dEds_get hy⟩,?_⟩;refine callD_p en208 (hdep2) ax rfl ?_;refine br (fun c5=>?_) (fun c5=>?_)
     ·have c5:dpE D x<=dpE D y:=by simpa [lastG,pickB,oz] using c5
      exact ⟨tg26St a b A B ND z D M S O ⟨kind,at',lo,hi,most,names,es⟩ but out2 ((i:Nat) - 1),(weak_b 2 rfl (by repeat' (first | exact rfl | exact we_rfl rfl | exact we_int hw | exact we_int (congrArg oz ((hnew.trans (if_pos c5)).symm)) | refine ⟨_,_,rfl,?_,?_⟩)) rfl rfl rfl (by repeat' (first | exact trivial | exact we_rfl rfl | exact we_int hw | exact we_int (congrArg oz ((hnew.trans (if_pos c5)).symm)) | refine ⟨⟨_,rfl,?_⟩,?_⟩))),es.length - (c + 1),by omega,hend out2 rfl⟩
     ·have c5:¬ dpE D x<=dpE D y:=by simpa [lastG,pickB,oz] using c5
      exact ⟨tg26St a b A B ND z D M S O ⟨kind,at',lo,hi,most,names,es⟩ but out2 ((i:Nat) - 1),(weak_b 2 rfl (by repeat' (first | exact rfl | exact we_rfl rfl | exact we_int hw | exact we_int (congrArg oz ((hnew.trans (if_neg c5)).symm)) | refine ⟨_,_,rfl,?_,?_⟩)) rfl rfl rfl (by repeat' (first | exact trivial | exact we_rfl rfl | exact we_int hw | exact we_int (congrArg oz ((hnew.trans (if_neg c5)).symm)) | refine ⟨⟨_,rfl,?_⟩,?_⟩))),es.length - (c + 1),by omega,hend out2 rfl⟩
    ·have c4:0<=but∨out=none:=by
      cases out with
      | none=>exact .inr rfl
      | some k=>exact .inl (Decidable.byContradiction fun h=>by
         have h2:decide (0<=but)=false:=decide_eq_false h;have h3:decide (oz (some k) < 0)=false:=decide_eq_false (show ¬ ((k:Nat):Int) < 0 by omega);simp only [lastG,pickB_or,h2,h3] at c4
         cases c4)
     have hn2:out2=some i:=by
      by_cases hb:0<=but
      ·rw [hnew,if_pos hb]
      ·rw [c4.resolve_left hb,if_neg hb] at hnew;exact hnew
     exact ⟨tg26St a b A B ND z D M S O ⟨kind,at',lo,hi,most,names,es⟩ but out2 ((i:Nat) - 1),(weak_b 2 rfl (by repeat' (first | exact rfl | exact we_rfl rfl | exact we_int hw | exact we_int (congrArg oz (hn2.symm)) | refine ⟨_,_,rfl,?_,?_⟩)) rfl rfl rfl (by repeat' (first | exact trivial | exact we_rfl rfl | exact we_int hw | exact we_int (congrArg oz (hn2.symm)) | refine ⟨⟨_,rfl,?_⟩,?_⟩))),es.length - (c + 1),by omega,hend out2 rfl⟩
  ·have c1:(i:Int)=but:=Decidable.byContradiction fun h=>by simp [lastG,h] at c1
   rw [if_pos (.inl c1)] at hnew;exact ⟨tg26St a b A B ND z D M S O ⟨kind,at',lo,hi,most,names,es⟩ but out2 ((i:Nat) - 1),(weak_b 2 rfl (by repeat' (first | exact rfl | exact we_rfl rfl | exact we_int hw | exact we_int (congrArg oz (hnew.symm)) | refine ⟨_,_,rfl,?_,?_⟩)) rfl rfl rfl (by repeat' (first | exact trivial | exact we_rfl rfl | exact we_int hw | exact we_int (congrArg oz (hnew.symm)) | refine ⟨⟨_,rfl,?_⟩,?_⟩))),es.length - (c + 1),by omega,hend out2 rfl⟩
 ·have hce:c=es.length:=by have:=hL;simp at this;omega
  subst hce;exact (rfl:_=_)
end
structure SecOK (D:List Nat) (K:List Bool) (n:Nd):Prop where
 c7:n.kind=7->∃ c e,chgF K n.edges=some c/\n.edges[c]? = some e/\e.bare=false
 c8:n.kind=8->turnF D n.edges=none->∃ c e,chooseF D n.edges=some c/\n.edges[c]? = some e/\e.bare=false
section
variable (PC:List DV) (ND:List Nd) (D:List Nat) (K:List Bool) (sz ot:List Nat) {L:Nat}
abbrev secSt (n:Nd) (c:Option Nat) (s e:Nat):St:=
 ⟨[(0,⟨[],.pt (mkD PC ND D K sz ot) 0⟩),(3,⟨[],.loc 0 0⟩),(5,⟨[],.v (.int .i64 (oz c))⟩),(6,⟨[],.v (.int .i64 s)⟩),(32,⟨[],.sl 10 (dEds n.edges) none⟩),(33,⟨[],.v (.int .i64 (dEds n.edges).length)⟩),(34,⟨[],.v (.int .i64 e)⟩)],[dNd n],[]⟩
theorem ssecond_spec {n:Nd} (hD:D.length=ND.length) (hK:K.length=ND.length) (hs:sz.length=ND.length) (ho:ot.length=ND.length) (hz:∀ z∈sz,z<=4097) (hoz:∀ z∈ot,z<=4097) (hn:NdOK L ND.length n) (hel:n.edges.length<=1099511627776) (hS:SecOK D K n) :
  EvP Tryz.prog 204 [.pt (mkD PC ND D K sz ot) 0,.agg (dNd n)] (.v (.int .i64 (othE ot (othS sz D K n):Nat))):=by
 have hch:=choose_spec PC ND D K sz ot hD hn hel;have htn:=sturn_spec PC ND D K sz ot hD hn hel;have hcg:=fun h=>schanged_spec PC ND D K sz ot hK hn h hel;have hedge:=hn.edge;have hone:=hn.one;have h7:=hS.c7;have h8:=hS.c8;obtain ⟨kind,at',lo,hi,most,names,es⟩:=n;simp only at hedge hel hch htn hcg h7 h8 hone;have hdl:=dEds_len es
 have hat:∀ {x:Ed},x∈es->x.bare=false->∃ z,(dInts ot)[x.to.toNat]? = some [.v (.int .i64 (z:Nat))]/\0<=x.to/\ot.getD x.to.toNat 0=z/\z<=4097:=fun {x} hx hb=>by
  obtain ⟨k,hk,hkl⟩:=(hedge x hx).to1 hb;have hg:ot[k]? = some ot[k]:=gE (by omega);refine ⟨ot[k],by rw [hk];exact dInts_get hg,by omega,by rw [hk,Int.toNat_natCast,List.getD_eq_getElem?_getD,hg];rfl,hoz _ (mG hg)⟩
 have hone':∀ {x:Ed},x∈es->EvP Tryz.prog 317 [.pt (mkD PC ND D K sz ot) 0,.agg (dEd x)] (.v (.int .i64 (prtF sz x:Nat))):=fun {x} hx=>spart_spec PC ND D K sz ot hs (hedge x hx);have hw1:∀ x,IntKind.i64.wrap (1 + (prtF sz x:Int))=((1 + prtF sz x:Nat):Int):=fun x=>wrapN (a:=1) (by omega) (by have:=prtF_le hz x;omega);have hE:∀ a j z,ot.getD j 0=z->othE ot (a,some j)=if z=0 then 0 else cutM (a + z):=fun a j z h=>by unfold othE;simp only [h]
 refine ev_go (P:=Tryz.prog) tt tt_ok 5000 87 [.tmp 4] Tryz.func204 rfl Tryz.ntmps204 rfl (nL rfl) (fun E9 w9 hn9 hm9=>?_);refine br (fun d5=>?_) (fun c5=>?_)
 ·have c5:kind=5:=by simpa using d5
  refine br (fun _=>?_) (fun h=>absurd h (by simp [c5]));obtain ⟨x,hx,_⟩:=hone (.inl c5);subst hx;rw [show othE ot (othS sz D K ⟨kind,at',lo,hi,most,names,[x]⟩)=cutM (1 + prtF sz x) by unfold othS;rw [if_pos (.inl c5)];rfl];refine ⟨_,⟨by omega,rfl⟩,?_⟩;refine call_p en317 (hone' List.mem_cons_self) ax rfl ?_;refine call_p en259 (scut_spec (1 + prtF sz x)) (by repeat' (first | exact rfl | exact trivial | exact Or.inr (Or.inl ⟨_,rfl⟩) | exact Or.inr ⟨_,rfl⟩ | exact Or.inl ⟨rfl,rfl⟩ | exact Or.inl rfl | refine Or.inr ⟨_,_,rfl,Nat.zero_le _,rfl,?_⟩ | refine ⟨_,_,rfl,?_,?_⟩ | refine ⟨_,rfl,?_⟩ | exact congrArg (fun z=>DV.v (.int .i64 z)) (hw1 x)| refine Or.inr (Or.inr (Or.inr ⟨_,_,rfl,?_⟩)) | exact Or.inl rfl | refine Or.inr ?_)) rfl ?_;exact (rfl:_=_)
 have c5:¬ kind=5:=by simpa using c5
 refine br (fun d6=>?_) (fun c6=>?_)
 ·have c6:kind=6:=by simpa using d6
  obtain ⟨x,hx,_⟩:=hone (.inr c6);subst hx;rw [show othE ot (othS sz D K ⟨kind,at',lo,hi,most,names,[x]⟩)=cutM (1 + prtF sz x) by unfold othS;rw [if_pos (.inr c6)];rfl];refine ⟨_,⟨by omega,rfl⟩,?_⟩;refine call_p en317 (hone' List.mem_cons_self) ax rfl ?_;refine call_p en259 (scut_spec (1 + prtF sz x)) (by repeat' (first | exact rfl | exact trivial | exact Or.inr (Or.inl ⟨_,rfl⟩) | exact Or.inr ⟨_,rfl⟩ | exact Or.inl ⟨rfl,rfl⟩ | exact Or.inl rfl | refine Or.inr ⟨_,_,rfl,Nat.zero_le _,rfl,?_⟩ | refine ⟨_,_,rfl,?_,?_⟩ | refine ⟨_,rfl,?_⟩ | exact congrArg (fun z=>DV.v (.int .i64 z)) (hw1 x)| refine Or.inr (Or.inr (Or.inr ⟨_,_,rfl,?_⟩)) | exact Or.inl rfl | refine Or.inr ?_)) rfl ?_;exact (rfl:_=_)
 have c6:¬ kind=6:=by simpa using c6
 refine br (fun c7=>?_) (fun c7=>?_)
 ·have c7:kind=7:=by simpa using c7
  obtain ⟨c,x,hc,hx,hxb⟩:=h7 c7;have hcg:=hcg c7;rw [hc] at hcg;have hF:othS sz D K ⟨kind,at',lo,hi,most,names,es⟩=(sumX sz c es 0 1,some x.to.toNat):=by simp [othS,c7,hc,hx]
  refine call_p en206 (hcg) ax rfl ?_;refine loop_i (fun j st=>∃ e:Nat,st=secSt PC ND D K sz ot ⟨kind,at',lo,hi,most,names,es⟩ (some c) (sumX sz c (es.take e) 0 1) e/\e<=es.length/\j=es.length - e) es.length (secSt PC ND D K sz ot ⟨kind,at',lo,hi,most,names,es⟩ (some c) 1 0) (weak_b 1 rfl wA rfl rfl rfl wB) ⟨0,rfl,by omega,by omega⟩ ?_;rintro j st ⟨e,rfl,he,rfl⟩;have hsl:=sumX_le (sz:=sz) (c:=c) (es:=es.take e) (i:=0) (n:=1) (by omega);refine br (fun hL=>?_) (fun hL=>?_)
  ·have hlt:e < es.length:=by simpa [hdl] using hL
   obtain ⟨y,hy⟩:∃ x,es[e]? = some x:=⟨_,gE hlt⟩;have hpl:=prtF_le hz y;have hnx:=sumX_take (sz:=sz) (c:=c) hy;have hw:=wrapN (a:=sumX sz c (es.take e) 0 1) (b:=prtF sz y) (by omega) (by omega);refine ⟨_,⟨by omega,dEds_get hy⟩,?_⟩;refine br (fun g=>?_) (fun g=>?_)
   ·have g:¬ (e:Int)=c:=fun h=>by simp [oz,h] at g
    rw [if_neg g] at hnx;refine call_p en317 (hone' (mG hy)) ax rfl ?_;refine call_p en259 (scut_spec (sumX sz c (es.take e) 0 1 + prtF sz y)) (by repeat' (first | exact rfl | exact trivial | exact Or.inr (Or.inl ⟨_,rfl⟩) | exact Or.inr ⟨_,rfl⟩ | exact Or.inl ⟨rfl,rfl⟩ | exact Or.inl rfl | refine Or.inr ⟨_,_,rfl,Nat.zero_le _,rfl,?_⟩ | refine ⟨_,_,rfl,?_,?_⟩ | refine ⟨_,rfl,?_⟩ | exact congrArg (fun z=>DV.v (.int .i64 z)) hw| refine Or.inr (Or.inr (Or.inr ⟨_,_,rfl,?_⟩)) | exact Or.inl rfl | refine Or.inr ?_)) rfl ?_;exact ⟨secSt PC ND D K sz ot ⟨kind,at',lo,hi,most,names,es⟩ (some c) (sumX sz c (es.take (e + 1)) 0 1) (e + 1),(weak_b 1 rfl (by repeat' (first | exact rfl | exact we_rfl rfl | exact we_int (nxt hlt (by omega)) | exact we_int (congrArg Nat.cast hnx.symm) | refine ⟨_,_,rfl,?_,?_⟩)) rfl rfl rfl (by repeat' (first | exact trivial | exact we_rfl rfl | exact we_int (nxt hlt (by omega)) | exact we_int (congrArg Nat.cast hnx.symm) | refine ⟨⟨_,rfl,?_⟩,?_⟩))),es.length - (e + 1),by omega,e + 1,rfl,by omega,rfl⟩
   ·have g:(e:Int)=c:=Decidable.byContradiction fun h=>by simp [oz,h] at g
    rw [if_pos g] at hnx;exact ⟨secSt PC ND D K sz ot ⟨kind,at',lo,hi,most,names,es⟩ (some c) (sumX sz c (es.take (e + 1)) 0 1) (e + 1),(weak_b 1 rfl (by repeat' (first | exact rfl | exact we_rfl rfl | exact we_int (nxt hlt (by omega)) | exact we_int (congrArg Nat.cast hnx.symm) | refine ⟨_,_,rfl,?_,?_⟩)) rfl rfl rfl (by repeat' (first | exact trivial | exact we_rfl rfl | exact we_int (nxt hlt (by omega)) | exact we_int (congrArg Nat.cast hnx.symm) | refine ⟨⟨_,rfl,?_⟩,?_⟩))),es.length - (e + 1),by omega,e + 1,rfl,by omega,rfl⟩
  ·have hge:e=es.length:=by have:=hL;simp [hdl] at this;omega
   subst hge;rw [List.take_length] at hsl ⊢;obtain ⟨z,hz1,hz2,hz3,hz4⟩:=hat (mG hx) hxb;have hzE:=hE (sumX sz c es 0 1) _ _ hz3;rw [hF,hzE];refine drawG_n mo (by decide +kernel) ?_;refine ⟨_,⟨Int.natCast_nonneg _,dEds_get hx⟩,?_⟩;refine ⟨_,⟨hz2,hz1⟩,?_⟩;refine br (fun g=>?_) (fun g=>?_)
   ·have g:0 < z:=by simpa using g
    rw [if_neg (by omega)];refine call_p en259 (scut_spec ((sumX sz c es 0 1) + z)) (by repeat' (first | exact rfl | exact trivial | exact Or.inr (Or.inl ⟨_,rfl⟩) | exact Or.inr ⟨_,rfl⟩ | exact Or.inl ⟨rfl,rfl⟩ | exact Or.inl rfl | refine Or.inr ⟨_,_,rfl,Nat.zero_le _,rfl,?_⟩ | refine ⟨_,_,rfl,?_,?_⟩ | refine ⟨_,rfl,?_⟩ | exact congrArg (fun z=>DV.v (.int .i64 z)) (wrapN (by omega) (by omega))| refine Or.inr (Or.inr (Or.inr ⟨_,_,rfl,?_⟩)) | exact Or.inl rfl | refine Or.inr ?_)) rfl ?_;exact (rfl:_=_)
   ·have g:z=0:=by simpa using g
    rw [if_pos g];exact (rfl:_=_)
 have c7:¬ kind=7:=by simpa using c7
 refine br (fun c8=>?_) (fun c8=>?_)
 ·have c8:kind=8:=by simpa using c8
  refine call_p en207 (htn) ax rfl ?_
  cases ht:turnF D es with
  | some c=>
   obtain ⟨x,hx,_⟩:=turn_some ht;rw [show othS sz D K ⟨kind,at',lo,hi,most,names,es⟩=(cutM (1 + prtF sz x),none) by simp [othS,c8,ht,hx],show othE ot (cutM (1 + prtF sz x),none)=cutM (1 + prtF sz x) from rfl];refine ⟨_,⟨Int.natCast_nonneg _,dEds_get hx⟩,?_⟩;refine call_p en317 (hone' (mG hx)) ax rfl ?_;refine call_p en259 (scut_spec (1 + prtF sz x)) (by repeat' (first | exact rfl | exact trivial | exact Or.inr (Or.inl ⟨_,rfl⟩) | exact Or.inr ⟨_,rfl⟩ | exact Or.inl ⟨rfl,rfl⟩ | exact Or.inl rfl | refine Or.inr ⟨_,_,rfl,Nat.zero_le _,rfl,?_⟩ | refine ⟨_,_,rfl,?_,?_⟩ | refine ⟨_,rfl,?_⟩ | exact congrArg (fun z=>DV.v (.int .i64 z)) (hw1 x)| refine Or.inr (Or.inr (Or.inr ⟨_,_,rfl,?_⟩)) | exact Or.inl rfl | refine Or.inr ?_)) rfl ?_;exact (rfl:_=_)
  | none=>
   obtain ⟨c,x,hc,hx,hxb⟩:=h8 c8 ht;rw [hc] at hch;have hF:othS sz D K ⟨kind,at',lo,hi,most,names,es⟩=(1,some x.to.toNat):=by simp [othS,c8,ht,hc,hx]
   refine call_p en205 (hch) ax rfl ?_;obtain ⟨z,hz1,hz2,hz3,hz4⟩:=hat (mG hx) hxb;have hzE:=hE 1 _ _ hz3;rw [hF,hzE];refine drawG_n mo (by decide +kernel) ?_;refine ⟨_,⟨Int.natCast_nonneg _,dEds_get hx⟩,?_⟩;refine ⟨_,⟨hz2,hz1⟩,?_⟩;refine br (fun g=>?_) (fun g=>?_)
   ·have g:0 < z:=by simpa using g
    rw [if_neg (by omega)];refine call_p en259 (scut_spec (1 + z)) (by repeat' (first | exact rfl | exact trivial | exact Or.inr (Or.inl ⟨_,rfl⟩) | exact Or.inr ⟨_,rfl⟩ | exact Or.inl ⟨rfl,rfl⟩ | exact Or.inl rfl | refine Or.inr ⟨_,_,rfl,Nat.zero_le _,rfl,?_⟩ | refine ⟨_,_,rfl,?_,?_⟩ | refine ⟨_,rfl,?_⟩ | exact congrArg (fun z=>DV.v (.int .i64 z)) (wrapN (a:=1) (by omega) (by omega))| refine Or.inr (Or.inr (Or.inr ⟨_,_,rfl,?_⟩)) | exact Or.inl rfl | refine Or.inr ?_)) rfl ?_;exact (rfl:_=_)
   ·have g:z=0:=by simpa using g
    rw [if_pos g];exact (rfl:_=_)
 ·have c8:¬ kind=8:=by simpa using c8
  refine (congrArg (fun z=>DV.v (.int .i64 z)) ?_:_=_);simp [othS,c5,c6,c7,c8,othE]
end
theorem sumX_one {S:List Nat} (e:Ed):sumX S (-1) [e] 0 1=cutM (1 + prtF S e):=by simp [sumX]
theorem dEds_one {es:List Ed} {k:Nat} {e:Ed} (h:es[k]? = some e):((dEds es).take (k + 1)).drop k=dEds [e]:=by
 have hl:=(gS h).1;unfold dEds;rw [<- List.map_take,<- List.map_drop,take_snoc h,List.drop_append_of_le_length (by rw [List.length_take];omega),List.drop_of_length_le (by rw [List.length_take];omega)];rfl
theorem sl_one {es:List Ed} {c:Nat} {x:Ed} (h:es[c]? = some x) (hl:es.length<=1099511627776):DV.sl 10 (((dEds es).take (IntKind.i64.wrap ((c:Int) + 1)).toNat).drop (c:Int).toNat) none=DV.sl 10 (dEds [x]) none:=by
 have hcl:=(gS h).1;rw [nxt hcl (by omega),Int.toNat_natCast,Int.toNat_natCast,dEds_one h]
section
variable (a b:Nat) (A B:List (List DV)) (ND:List Nd) (z:Int) (D M S O:List Nat) (K:List Bool) {L:Nat}
theorem size26_spec {n:Nd} (hD:D.length=ND.length) (hS:S.length=ND.length) (hz:∀ z∈S,z<=4097) (hn:NdOK L ND.length n) (hel:n.edges.length<=1099511627776) (h8:n.kind=8->∃ c e,chooseF D n.edges=some c/\n.edges[c]? = some e) :
  EvP Tryz.prog 84 [.agg (w26 a b A B ND z D M S O),.agg (dNd n)] (.v (.int .i64 (sizeF S D n:Nat))):=by
 have htg:=tag26_spec a b A B ND z D M S O (-1) hD hn hel;rw [tagR_choose] at htg;have hsum:=sum26_spec a b A B ND z D M S O n.edges (-1) hS hz hn.edge hel;have hedge:=hn.edge;obtain ⟨kind,at',lo,hi,most,names,es⟩:=n;simp only at hedge hel htg hsum h8;refine ev_go (P:=Tryz.prog) tt tt_ok 5000 27 [.tmp 4] Tryz.func84 rfl Tryz.ntmps84 rfl (nL rfl) (fun E9 w9 hn9 hm9=>?_);refine br (fun c7=>?_) (fun c7=>?_)
 ·have c7:kind=7:=by simpa using c7
  rw [show sizeF S D ⟨kind,at',lo,hi,most,names,es⟩=sumX S (-1) es 0 1 by simp [sizeF,c7]];refine call_p en194 (hsum) ax rfl ?_;exact (rfl:_=_)
 have c7:¬ kind=7:=by simpa using c7
 refine br (fun c8=>?_) (fun c8=>?_)
 ·have c8:kind=8:=by simpa using c8
  obtain ⟨c,x,hc,hx⟩:=h8 c8;rw [hc] at htg;have hs1:=sum26_spec a b A B ND z D M S O [x] (-1) hS hz (fun e he=>by rw [List.mem_singleton.1 he];exact hedge x (mG hx)) (by simp);rw [sumX_one] at hs1;rw [show sizeF S D ⟨kind,at',lo,hi,most,names,es⟩=cutM (1 + prtF S x) by simp [sizeF,c8,hc,hx]];refine call_p en96 (htg) ax rfl ?_;have hcl:=(gS hx).1;have hw:=nxt hcl (by omega);have hso:=sl_one hx hel;refine drawG_i (fun _=>false) mo (by decide +kernel) ?_;refine ⟨⟨Int.natCast_nonneg _,by show (c:Int)<=IntKind.i64.wrap ((c:Int) + 1);rw [hw];omega,by show IntKind.i64.wrap ((c:Int) + 1)<=((dEds es).length:Int);rw [hw,dEds_len];omega⟩,?_⟩;refine callD_p en194 (hs1) (by repeat' (first | exact rfl | exact trivial | exact Or.inr (Or.inl ⟨_,rfl⟩) | exact Or.inr ⟨_,rfl⟩ | exact Or.inl ⟨rfl,rfl⟩ | exact Or.inl rfl | refine Or.inr ⟨_,_,rfl,Nat.zero_le _,rfl,?_⟩ | refine ⟨_,_,rfl,?_,?_⟩ | refine ⟨_,rfl,?_⟩ | exact Or.inr (Or.inl ⟨_,hso⟩)| refine Or.inr (Or.inr (Or.inr ⟨_,_,rfl,?_⟩)) | exact Or.inl rfl | refine Or.inr ?_)) rfl ?_;exact (rfl:_=_)
 ·have c8:¬ kind=8:=by simpa using c8
  rw [show sizeF S D ⟨kind,at',lo,hi,most,names,es⟩=1 by simp [sizeF,c7,c8]];exact (rfl:_=_)
abbrev fl26St (n:Nd) (e:Nat):St:=
 ⟨[(2,⟨[],.loc 0 0⟩),(3,⟨[],.loc 1 0⟩),(5,⟨[],.v (.int .i64 e)⟩)],[w26 a b A B ND z D M S O,dNd n],[]⟩
theorem field26_spec {n:Nd} (hM:M.length=ND.length) (hK:∀ j,j < ND.length->K.getD j false=decide (1 < M.getD j 0)) (hn:NdOK L ND.length n) (h7:n.kind=7) (hel:n.edges.length<=1099511627776) :
  EvP Tryz.prog 97 [.agg (w26 a b A B ND z D M S O),.agg (dNd n)] (.v (.int .i64 (oz (chgF K n.edges)))):=by
 have hedge:=hn.edge;have hbare:=hn.bare;obtain ⟨kind,at',lo,hi,most,names,es⟩:=n;simp only at hedge hel h7 hbare;have hdl:=dEds_len es;refine ev_go (P:=Tryz.prog) tt tt_ok 5000 25 [.tmp 4] Tryz.func97 rfl Tryz.ntmps97 rfl (nL rfl) (fun E9 w9 hn9 hm9=>?_);refine loop_i (fun j st=>∃ e:Nat,st=fl26St a b A B ND z D M S O ⟨kind,at',lo,hi,most,names,es⟩ e/\e<=es.length/\(∀ k,k < e->chgP K es k=false)/\j=es.length - e) es.length (fl26St a b A B ND z D M S O ⟨kind,at',lo,hi,most,names,es⟩ 0) (weak_b 2 rfl wA rfl rfl rfl wB) ⟨0,rfl,by omega,fun _ h=>by omega,by omega⟩ ?_;rintro j st ⟨e,rfl,he,hB,rfl⟩;refine br (fun hL=>?_) (fun hL=>?_)
 ·have hlt:e < es.length:=by simpa [hdl] using hL
  obtain ⟨x,hx⟩:∃ x,es[e]? = some x:=⟨_,gE hlt⟩
  have hxb:x.bare=false:=by
   cases hb:x.bare with
   | false=>rfl
   | true=>have:=hbare x (mG hx) hb;omega
  obtain ⟨k,hk,hkl⟩:=(hedge x (mG hx)).to1 hxb;obtain ⟨v,hv⟩:∃ z,M[k]? = some z:=⟨_,gE (by omega)⟩;have hP:chgP K es e=decide (1 < v):=by unfold chgP;rw [hx];simp only;rw [hk,Int.toNat_natCast,hK k hkl,List.getD_eq_getElem?_getD,hv];all_goals rfl
  refine drawG_n mo (by decide +kernel) ?_;refine ⟨_,⟨Int.natCast_nonneg _,dEds_get hx⟩,?_⟩;refine ⟨_,⟨by rw [hk];exact Int.natCast_nonneg _,by rw [hk];exact dInts_get hv⟩,?_⟩;refine br (fun g=>?_) (fun g=>?_)
  ·have g:(1:Int) < v:=by simpa using g
   rw [show chgF K es=some e from firstN_some hlt (hP.trans (decide_eq_true (by omega))) hB];exact (rfl:_=_)
  ·have g:¬ (1:Int) < v:=by simpa using g
   exact ⟨fl26St a b A B ND z D M S O ⟨kind,at',lo,hi,most,names,es⟩ (e + 1),(weak_b 2 rfl (wNA hlt) rfl rfl rfl (wNB hlt)),es.length - (e + 1),by omega,e + 1,rfl,by omega,fun k hk=>by
    rcases Nat.lt_succ_iff_lt_or_eq.1 hk with h1 | rfl
    ·exact hB k h1
    ·exact hP.trans (decide_eq_false (by omega)),rfl⟩
 ·have hge:e=es.length:=by have:=hL;simp [hdl] at this;omega
  subst hge;rw [show chgF K es=none from firstN_none hB];exact (rfl:_=_)
theorem other26_spec {n:Nd} (hD:D.length=ND.length) (hM:M.length=ND.length) (hK:∀ j,j < ND.length->K.getD j false=decide (1 < M.getD j 0)) (hS:S.length=ND.length) (hO:O.length=ND.length) (hz:∀ z∈S,z<=4097) (hoz:∀ z∈O,z<=4097) (hn:NdOK L ND.length n) (hel:n.edges.length<=1099511627776) (hc8:n.kind=8->∃ c,chooseF D n.edges=some c) (hSec:SecOK D K n) :
  EvP Tryz.prog 85 [.agg (w26 a b A B ND z D M S O),.agg (dNd n)] (.v (.int .i64 (othE O (othS S D K n):Nat))):=by
 have htg:=tag26_spec a b A B ND z D M S O (-1) hD hn hel;have htg2:=fun b'=>tag26_spec a b A B ND z D M S O b' hD hn hel;rw [tagR_choose] at htg;have hfl:=fun h=>field26_spec a b A B ND z D M S O K hM hK hn h hel;have hsum:=fun c=>sum26_spec a b A B ND z D M S O n.edges c hS hz hn.edge hel;have hedge:=hn.edge;have hone:=hn.one;have hk1:=hn.k1;have hk8:=hn.k8;have h7:=hSec.c7;have h8:=hSec.c8;obtain ⟨kind,at',lo,hi,most,names,es⟩:=n;simp only at hedge hel htg htg2 hsum h7 h8 hfl hone hk1 hk8 hc8
 have hat:∀ {x:Ed},x∈es->x.bare=false->∃ z,(dInts O)[x.to.toNat]? = some [.v (.int .i64 (z:Nat))]/\0<=x.to/\O.getD x.to.toNat 0=z/\z<=4097:=fun {x} hx hb=>by
  obtain ⟨k,hk,hkl⟩:=(hedge x hx).to1 hb;have hg:O[k]? = some O[k]:=gE (by omega);refine ⟨O[k],by rw [hk];exact dInts_get hg,by omega,by rw [hk,Int.toNat_natCast,List.getD_eq_getElem?_getD,hg];rfl,hoz _ (mG hg)⟩
 have hE:∀ a j z,O.getD j 0=z->othE O (a,some j)=if z=0 then 0 else cutM (a + z):=fun a j z h=>by unfold othE;simp only [h]
 refine ev_go (P:=Tryz.prog) tt tt_ok 5000 70 [.tmp 4] Tryz.func85 rfl Tryz.ntmps85 rfl (nL rfl) (fun E9 w9 hn9 hm9=>?_);refine br (fun c5=>?_) (fun c5=>?_)
 ·have c5:kind < 5:=by simpa using c5
  rw [show othS S D K ⟨kind,at',lo,hi,most,names,es⟩=(1,none) by unfold othS;simp only;rw [if_neg (by omega),if_neg (by omega),if_neg (by omega)]];exact (rfl:_=_)
 have c5:¬ kind < 5:=by simpa using c5
 refine br (fun c6=>?_) (fun c6=>?_)
 ·have c6:kind < 7:=by simpa using c6
  obtain ⟨x,hx,_⟩:=hone (by omega);subst hx;have hsum:=hsum (-1);rw [sumX_one] at hsum;rw [show othS S D K ⟨kind,at',lo,hi,most,names,[x]⟩=(cutM (1 + prtF S x),none) by unfold othS;simp only;rw [if_pos (by omega)];rfl];refine call_p en194 (hsum) ax rfl ?_;exact (rfl:_=_)
 have c6:¬ kind < 7:=by simpa using c6
 refine call_p en96 (htg) ax rfl ?_;refine br (fun c7=>?_) (fun c7=>?_)
 ·have c7:kind=7:=by simpa using c7
  subst c7;obtain ⟨c,x,hc,hx,hxb⟩:=h7 rfl;have hfl:=hfl rfl;rw [hc] at hfl;have hsl:=sumX_le (sz:=S) (c:=c) (es:=es) (i:=0) (n:=1) (by omega);have hF:othS S D K ⟨7,at',lo,hi,most,names,es⟩=(sumX S c es 0 1,some x.to.toNat):=by simp [othS,hc,hx]
  obtain ⟨z,hz1,hz2,hz3,hz4⟩:=hat (mG hx) hxb;rw [hF,hE _ _ _ hz3];have hsumc:=hsum (c:Int);refine call_p en97 (hfl) ax rfl ?_;refine drawG_n mo (by decide +kernel) ?_;refine ⟨_,⟨Int.natCast_nonneg _,dEds_get hx⟩,?_⟩;refine ⟨_,⟨hz2,hz1⟩,?_⟩;refine br (fun g=>?_) (fun g=>?_)
  ·have g:z=0:=by simpa using g
   rw [if_pos g];exact (rfl:_=_)
  ·have g:¬ z=0:=by simpa using g
   rw [if_neg g];refine call_p en194 (hsumc) ax rfl ?_;refine call_p en195 (cut26_spec (sumX S c es 0 1 + z)) (by repeat' (first | exact rfl | exact trivial | exact Or.inr (Or.inl ⟨_,rfl⟩) | exact Or.inr ⟨_,rfl⟩ | exact Or.inl ⟨rfl,rfl⟩ | exact Or.inl rfl | refine Or.inr ⟨_,_,rfl,Nat.zero_le _,rfl,?_⟩ | refine ⟨_,_,rfl,?_,?_⟩ | refine ⟨_,rfl,?_⟩ | exact congrArg (fun z=>DV.v (.int .i64 z)) (wrapN (by omega) (by omega))| refine Or.inr (Or.inr (Or.inr ⟨_,_,rfl,?_⟩)) | exact Or.inl rfl | refine Or.inr ?_)) rfl ?_;exact (rfl:_=_)
 ·have c7:¬ kind=7:=by simpa using c7
  have c8:kind=8:=by omega
  subst c8;obtain ⟨c,hc⟩:=hc8 rfl;have htg2:=htg2 (c:Int);rw [tagR_turn hc] at htg2;rw [hc];refine call_p en96 (htg2) ax rfl ?_
  cases ht:turnF D es with
  | some k=>
   obtain ⟨x,hx,_⟩:=turn_some ht;have hs1:=sum26_spec a b A B ND z D M S O [x] (-1) hS hz (fun e he=>by rw [List.mem_singleton.1 he];exact hedge x (mG hx)) (by simp);rw [sumX_one] at hs1;rw [show othS S D K ⟨8,at',lo,hi,most,names,es⟩=(cutM (1 + prtF S x),none) by simp [othS,ht,hx],show othE O (cutM (1 + prtF S x),none)=cutM (1 + prtF S x) from rfl];have hcl:=(gS hx).1;have hw:=nxt hcl (by omega);have hso:=sl_one hx hel;refine drawG_i (fun _=>false) mo (by decide +kernel) ?_;refine ⟨⟨Int.natCast_nonneg _,by show (k:Int)<=IntKind.i64.wrap ((k:Int) + 1);rw [hw];omega,by show IntKind.i64.wrap ((k:Int) + 1)<=((dEds es).length:Int);rw [hw,dEds_len];omega⟩,?_⟩;refine callD_p en194 (hs1) (by repeat' (first | exact rfl | exact trivial | exact Or.inr (Or.inl ⟨_,rfl⟩) | exact Or.inr ⟨_,rfl⟩ | exact Or.inl ⟨rfl,rfl⟩ | exact Or.inl rfl | refine Or.inr ⟨_,_,rfl,Nat.zero_le _,rfl,?_⟩ | refine ⟨_,_,rfl,?_,?_⟩ | refine ⟨_,rfl,?_⟩ | exact Or.inr (Or.inl ⟨_,hso⟩)| refine Or.inr (Or.inr (Or.inr ⟨_,_,rfl,?_⟩)) | exact Or.inl rfl | refine Or.inr ?_)) rfl ?_;exact (rfl:_=_)
  | none=>
   obtain ⟨c',x,hc',hx,hxb⟩:=h8 rfl ht;rw [hc] at hc';cases hc';obtain ⟨z,hz1,hz2,hz3,hz4⟩:=hat (mG hx) hxb;rw [show othS S D K ⟨8,at',lo,hi,most,names,es⟩=(1,some x.to.toNat) by simp [othS,ht,hc,hx],hE _ _ _ hz3];refine drawG_n mo (by decide +kernel) ?_;refine ⟨_,⟨Int.natCast_nonneg _,dEds_get hx⟩,?_⟩;refine ⟨_,⟨hz2,hz1⟩,?_⟩;refine br (fun g=>?_) (fun g=>?_)
   ·have g:z=0:=by simpa using g
    rw [if_pos g];exact (rfl:_=_)
   ·have g:¬ z=0:=by simpa using g
    rw [if_neg g];refine call_p en195 (cut26_spec (1 + z)) (by repeat' (first | exact rfl | exact trivial | exact Or.inr (Or.inl ⟨_,rfl⟩) | exact Or.inr ⟨_,rfl⟩ | exact Or.inl ⟨rfl,rfl⟩ | exact Or.inl rfl | refine Or.inr ⟨_,_,rfl,Nat.zero_le _,rfl,?_⟩ | refine ⟨_,_,rfl,?_,?_⟩ | refine ⟨_,rfl,?_⟩ | exact congrArg (fun z=>DV.v (.int .i64 z)) (wrapN (a:=1) (by omega) (by omega))| refine Or.inr (Or.inr (Or.inr ⟨_,_,rfl,?_⟩)) | exact Or.inl rfl | refine Or.inr ?_)) rfl ?_;exact (rfl:_=_)
end
end Go.Proofs.YtadbccicdbopcaaGreat
namespace Go.Proofs.YtadbccicdbopcaaGreat
namespace Dv
open Go Go.RowKit
section
variable {P:Program} {ops:Array Oper} {C:World->Prop} {Q:Act->World->Prop} {W:Nat->Bool} {x:Nat}
end
section
variable {X:Ctx} {D:Dw} {x:Nat} {tail:List Nat} {π:Nat->Nat}
theorem endS {s S:St} (h:SameSt s S:=by refine ⟨rfl,rfl,?_⟩;repeat' (first | exact trivial | refine ⟨rfl,?_⟩)):s=S∨SameSt s S:=.inr h
end
end Dv
end Go.Proofs.YtadbccicdbopcaaGreat
namespace Go.Proofs.YtadbccicdbopcaaGreat
namespace Dv
open Go Go.RowKit
inductive Sched
 | fin
 | op (i:Nat) (t:Sched)
 | ev (i:Nat) (t alt:Sched)
 | stop
section
variable {P:Program} {ops:Array Oper} {C:World->Prop} {Q:Act->World->Prop} {W:Nat->Bool}
def rdy (ops:Array Oper) (rem:List Nat) (i:Nat):Bool:=
 match ops[i]? with
 | some o=>o.after.toList.all fun e=>!Region.binds .any e || !rem.contains e.on
 | none=>false
def evB (ops:Array Oper) (i:Nat):Bool:=match ops[i]? with | some o=>isE o.op | none=>false
def chkA (ops:Array Oper):Sched->List Nat->Option (List Nat)->Bool
 | .fin,rem,m=>m.isNone && rem.isEmpty
 | .op i t,rem,m=>m.isNone && (rem.contains i && (!evB ops i && (rdy ops rem i && chkA ops t (rem.erase i) none)))
 | .ev i t alt,rem,m=>rem.contains i && (evB ops i && (rdy ops rem i && (chkA ops t (rem.erase i) none && chkA ops alt rem (some (i :: m.getD [])))))
 | .stop,rem,m=>match m with
  | some seen=>rem.all fun j=>!rdy ops rem j || seen.contains j
  | none=>false
def chkP (ops:Array Oper) (W:Nat->Bool):Bool:=
 (List.range ops.size).all fun i=>(List.range ops.size).all fun j=>
  Nat.beq i j || ordB ops ops.size i j || ordB ops ops.size j i || (evB ops i && evB ops j) || (swapB ops W j i && swapB ops W i j)
def runS (P:Program) (ops:Array Oper) (W:Nat->Bool) (C:World->Prop) (Q:Act->World->Prop):Sched->Act->World->Prop
 | .fin,a,w=>Q a w
 | .op i t,a,w=>∃ o,ops[i]? = some o/\∃ v,Yl P ops C o v a/\(isL o.op=true->C w)/\runS P ops W C Q t (a.put o.dst v) w
 | .ev i t alt,a,w=>(∃ o,ops[i]? = some o/\stepX P ops o a w fun a' w'=>(W i=false->C w->C w')/\runS P ops W C Q t a' w')/\runS P ops W C Q alt a w
 | .stop,_,_=>True
def RunA (P:Program) (ops:Array Oper) (W:Nat->Bool) (C:World->Prop) (Q:Act->World->Prop) (rem:List Nat) (a:Act) (w:World):Prop:=∃ T,chkA ops T rem none=true/\runS P ops W C Q T a w
def Cl (ops:Array Oper) (rem:List Nat):Prop:=∀ (k:Nat) o,ops[k]? = some o->k ∉ rem->∀ e∈o.after,Region.binds .any e=true->e.on ∉ rem
theorem rdy_spec {rem:List Nat} {i:Nat} (h:rdy ops rem i=true):∃ o,ops[i]? = some o/\∀ e∈o.after,Region.binds .any e=true->e.on ∉ rem:=by
 unfold rdy at h;split at h
 ·rename_i o ho;refine ⟨o,ho,fun e he hb=>?_⟩;have:=List.all_eq_true.1 h e (by simpa using he);rw [hb] at this;simpa using this
 ·cases h
theorem rdy_erase {rem:List Nat} {i j:Nat} (h:rdy ops rem i=true):rdy ops (rem.erase j) i=true:=by
 obtain ⟨o,ho,ha⟩:=rdy_spec h;unfold rdy;rw [ho];simp only [List.all_eq_true,Bool.or_eq_true,Bool.not_eq_true'];intro e he;cases hb:Region.binds .any e
 ·exact .inl rfl
 ·right;have:=ha e (by simpa using he) hb;simp only [List.contains_eq_mem,decide_eq_false_iff_not];exact fun hm=>this (List.mem_of_mem_erase hm)
theorem cl_erase {rem:List Nat} (hn:rem.Nodup) (hc:Cl ops rem) {i:Nat} (h:rdy ops rem i=true):Cl ops (rem.erase i):=by
 intro k o ho hk e he hb hm;have hm':=List.mem_of_mem_erase hm;by_cases hki:k=i
 ·subst hki;obtain ⟨o',ho',ha⟩:=rdy_spec h;rw [ho] at ho';simp only [oI] at ho';subst ho';exact ha e he hb hm'
 ·exact hc k o ho (fun hkm=>hk ((List.mem_erase_of_ne hki).2 hkm)) e he hb hm'
theorem cl_ord {rem:List Nat} (hc:Cl ops rem):∀ (n:Nat) (j k:Nat) o,ops[k]? = some o->(∀ e∈o.after,Region.binds .any e=true->e.on ∉ rem)->ordB ops n j k=true->j ∉ rem
 | 0,j,k,o,_,_,h=>by simp [ordB] at h
 | n + 1,j,k,o,ho,hall,h=>by
  simp only [ordB,ho,List.any_eq_true,Bool.and_eq_true,Bool.or_eq_true] at h;obtain ⟨e,he,hb,hj⟩:=h;have he':e∈o.after:=by simpa using he
  have h1:=hall e he' hb;rcases hj with hj | hj
  ·have:e.on=j:=by simpa using hj
   rw [<- this];exact h1
  ·cases hoe:ops[e.on]? with
   | none=>
    cases n with
    | zero=>simp [ordB] at hj
    | succ n=>simp [ordB,hoe] at hj
   | some o'=>exact cl_ord hc n j e.on o' hoe (hc e.on o' hoe h1) hj
theorem rdy_swap {rem:List Nat} (hP:chkP ops W=true) (hc:Cl ops rem) {i j:Nat} (hi:rdy ops rem i=true) (hj:rdy ops rem j=true) (him:i∈rem) (hjm:j∈rem) (hij:i≠j) (hev:evB ops i=false∨evB ops j=false):swapB ops W j i=true:=by
 obtain ⟨o,ho,ha⟩:=rdy_spec hi;obtain ⟨o',ho',ha'⟩:=rdy_spec hj;simp only [chkP,List.all_eq_true,List.mem_range] at hP;have h1:=hP i (Array.getElem?_eq_some_iff.1 ho).1 j (Array.getElem?_eq_some_iff.1 ho').1;simp only [Bool.or_eq_true,Bool.and_eq_true,Nat.beq_eq] at h1;rcases h1 with (((h1 | h1) | h1) | h1) | h1
 ·exact (hij h1).elim
 ·exact (cl_ord hc _ _ _ o' ho' ha' h1 him).elim
 ·exact (cl_ord hc _ _ _ o ho ha h1 hjm).elim
 ·rcases hev with h | h
  ·rw [h] at h1;simp at h1
  ·rw [h] at h1;simp at h1
 ·exact h1.1
theorem evB_eq {i:Nat} {o:Oper} (h:ops[i]? = some o):evB ops i=isE o.op:=by unfold evB;rw [h]
theorem pull_pure (hsel:∀ (j:Nat) (o:Oper) cs b,ops[j]? = some o->o.op ≠ .select cs b) (hP:chkP ops W=true) {i:Nat} {o:Oper} (hi:ops[i]? = some o) (hE:isE o.op=false) :
  ∀ (T:Sched) (rem:List Nat) (a:Act) (w:World),rem.Nodup->Cl ops rem->chkA ops T rem none=true->runS P ops W C Q T a w->i∈rem->rdy ops rem i=true ->
   ∃ v,Yl P ops C o v a/\(isL o.op=true->C w)/\RunA P ops W C Q (rem.erase i) (a.put o.dst v) w
 | .fin,rem,a,w,_,_,hc,_,him,_=>by
  simp only [chkA,Bool.and_eq_true,List.isEmpty_iff] at hc;rw [hc.2] at him;cases him
 | .stop,rem,a,w,_,_,hc,_,_,_=>by simp [chkA] at hc
 | .ev j t alt,rem,a,w,hn,hcl,hc,hr,him,hrd=>by
  exfalso
  have key:∀ (T:Sched) (seen:List Nat),(∀ k∈seen,evB ops k=true)->chkA ops T rem (some seen)=true->False:=by
   intro T
   induction T with
   | fin=>intro seen _ h;simp [chkA] at h
   | op=>intro seen _ h;simp [chkA] at h
   | ev k t alt _ ih=>
    intro seen hs h;simp only [chkA,Bool.and_eq_true,Option.getD_some] at h
    exact ih (k :: seen) (fun q hq=>by
     rcases List.mem_cons.1 hq with rfl | hq
     ·exact h.2.1
     ·exact hs q hq) h.2.2.2.2
   | stop=>
    intro seen hs h;simp only [chkA,List.all_eq_true,Bool.or_eq_true,Bool.not_eq_true'] at h;rcases h i him with h1 | h1
    ·rw [hrd] at h1;cases h1
    ·have:=hs i (by simpa using h1);rw [evB_eq hi,hE] at this;cases this
  simp only [chkA,Bool.and_eq_true,Option.getD_none] at hc;exact key alt [j] (fun k hk=>by rw [List.mem_singleton] at hk;rw [hk];exact hc.2.1) hc.2.2.2.2
 | .op j t,rem,a,w,hn,hcl,hc,hr,him,hrd=>by
  simp only [chkA,Bool.and_eq_true,Bool.not_eq_true'] at hc;obtain ⟨_,hjm,hje,hjr,hct⟩:=hc;have hjm:j∈rem:=by simpa using hjm
  simp only [runS] at hr;obtain ⟨y,hy,v,hyv,hyc,hrt⟩:=hr;by_cases hij:i=j
  ·subst hij;rw [hi] at hy;simp only [oI] at hy;subst hy;exact ⟨v,hyv,hyc,t,hct,hrt⟩
  ·have hsw:=rdy_swap hP hcl hrd hjr him hjm hij (.inr hje);obtain ⟨ap1,ap2,_,_⟩:=swapB_spec hsw hy hi;obtain ⟨u,hu,huc,T',hT',hrT⟩:=pull_pure hsel hP hi hE t (rem.erase j) (a.put y.dst v) w (hn.erase j) (cl_erase hn hcl hjr) hct hrt ((List.mem_erase_of_ne hij).2 him) (rdy_erase hrd);have hso:=fun cs b=>hsel i o cs b hi;have hsy:=fun cs b=>hsel j y cs b hy;obtain ⟨_,hdd,_⟩:=Oper.apart_spec ap1;refine ⟨u,(Yl.same ap1 hso).1 hu,huc,.op j T',?_,?_⟩
   ·simp only [chkA,Bool.and_eq_true,Bool.not_eq_true'];refine ⟨rfl,?_,hje,rdy_erase hjr,?_⟩
    ·simpa using (List.mem_erase_of_ne (Ne.symm hij)).2 hjm
    ·rw [List.erase_comm];exact hT'
   ·simp only [runS];refine ⟨y,hy,v,(Yl.same ap2 hsy).2 hyv,hyc,?_⟩;rw [<- Act.put_comm a v u hdd];exact hrT
theorem pull_alt {e:Nat}:∀ (T:Sched) (rem:List Nat) (seen:List Nat) (a:Act) (w:World),chkA ops T rem (some seen)=true->runS P ops W C Q T a w->e∈rem->rdy ops rem e=true->e ∉ seen ->
  ∃ o t,ops[e]? = some o/\chkA ops t (rem.erase e) none=true/\stepX P ops o a w fun a' w'=>(W e=false->C w->C w')/\runS P ops W C Q t a' w'
 | .fin,rem,seen,a,w,hc,_,_,_,_=>by simp [chkA] at hc
 | .op _ _,rem,seen,a,w,hc,_,_,_,_=>by simp [chkA] at hc
 | .stop,rem,seen,a,w,hc,_,hm,hr,hs=>by
  simp only [chkA,List.all_eq_true,Bool.or_eq_true,Bool.not_eq_true'] at hc;rcases hc e hm with h | h
  ·rw [hr] at h;cases h
  ·exact (hs (by simpa using h)).elim
 | .ev i t alt,rem,seen,a,w,hc,hr,hm,hrd,hs=>by
  simp only [chkA,Bool.and_eq_true,Option.getD_some] at hc;simp only [runS] at hr;obtain ⟨⟨o,ho,hst⟩,hra⟩:=hr;by_cases hie:i=e
  ·subst hie;exact ⟨o,t,ho,hc.2.2.2.1,hst⟩
  ·exact pull_alt alt rem (i :: seen) a w hc.2.2.2.2 hra hm hrd (fun h=>by
    rcases List.mem_cons.1 h with h | h
    ·exact hie h.symm
    ·exact hs h)
theorem pull_ev (hsel:∀ (j:Nat) (o:Oper) cs b,ops[j]? = some o->o.op ≠ .select cs b) (hP:chkP ops W=true) {i:Nat} {o:Oper} (hi:ops[i]? = some o) (hE:isE o.op=true) :
  ∀ (T:Sched) (rem:List Nat) (a:Act) (w:World),rem.Nodup->Cl ops rem->chkA ops T rem none=true->runS P ops W C Q T a w->i∈rem->rdy ops rem i=true ->
   stepX P ops o a w (fun a' w'=>(W i=false->C w->C w')/\RunA P ops W C Q (rem.erase i) a' w')
 | .fin,rem,a,w,_,_,hc,_,him,_=>by
  simp only [chkA,Bool.and_eq_true,List.isEmpty_iff] at hc;rw [hc.2] at him;cases him
 | .stop,rem,a,w,_,_,hc,_,_,_=>by simp [chkA] at hc
 | .ev j t alt,rem,a,w,hn,hcl,hc,hr,him,hrd=>by
  simp only [chkA,Bool.and_eq_true,Option.getD_none] at hc;simp only [runS] at hr;obtain ⟨⟨y,hy,hst⟩,hra⟩:=hr;by_cases hij:i=j
  ·subst hij;rw [hi] at hy;simp only [oI] at hy;subst hy;exact stepX_mono (fun a' w' h=>⟨h.1,t,hc.2.2.2.1,h.2⟩) hst
  ·obtain ⟨o',t',ho',hct,hs⟩:=pull_alt alt rem [j] a w hc.2.2.2.2 hra him hrd (by simpa using hij);rw [hi] at ho';simp only [oI] at ho';subst ho';exact stepX_mono (fun a' w' h=>⟨h.1,t',hct,h.2⟩) hs
 | .op j t,rem,a,w,hn,hcl,hc,hr,him,hrd=>by
  simp only [chkA,Bool.and_eq_true,Bool.not_eq_true'] at hc;obtain ⟨_,hjm,hje,hjr,hct⟩:=hc;have hjm:j∈rem:=by simpa using hjm
  simp only [runS] at hr;obtain ⟨y,hy,v,hyv,hyc,hrt⟩:=hr
  have hij:i≠j:=by
   rintro rfl;rw [evB_eq hi,hE] at hje;cases hje
  have hsw:=rdy_swap hP hcl hrd hjr him hjm hij (.inr hje);obtain ⟨ap1,ap2,_,hLW⟩:=swapB_spec hsw hy hi;have hso:=fun cs b=>hsel i o cs b hi;have hsy:=fun cs b=>hsel j y cs b hy;have ih:=pull_ev hsel hP hi hE t (rem.erase j) (a.put y.dst v) w (hn.erase j) (cl_erase hn hcl hjr) hct hrt ((List.mem_erase_of_ne hij).2 him) (rdy_erase hrd);refine stepX_mono ?_ (stepX_form ((stepX_put ap1 hso).1 ih));rintro a' w' ⟨⟨hcw,T',hT',hrT⟩,u,rfl⟩;refine ⟨hcw,.op j T',?_,?_⟩
  ·simp only [chkA,Bool.and_eq_true,Bool.not_eq_true'];refine ⟨rfl,?_,hje,rdy_erase hjr,?_⟩
   ·simpa using (List.mem_erase_of_ne (Ne.symm hij)).2 hjm
   ·rw [List.erase_comm];exact hT'
  ·simp only [runS];refine ⟨y,hy,v,(Yl.same (u:=u) ap2 hsy).2 hyv,fun hL=>?_,hrT⟩
   have hWi:W i=false:=by
    cases hw:W i
    ·rfl
    ·exact (hLW ⟨hL,hw⟩).elim
   exact hcw hWi (hyc hL)
theorem any_of_A {Q':Exit->Act->World->Prop} (hsel:∀ (j:Nat) (o:Oper) cs b,ops[j]? = some o->o.op ≠ .select cs b) (hP:chkP ops W=true) (hb:∀ (i:Nat) (o:Oper),ops[i]? = some o->∀ e∈o.after,Region.binds .any e=true->e.on < ops.size)
  (hQ:∀ a w,Q a w->Q' .normal a w):∀ (fuel:Nat) (listed:Array Bool) (rem:List Nat) (a:Act) (w:World),
  listed.size=ops.size->(∀ i,i∈rem↔i < ops.size/\listed.getD i true=false)->rem.Nodup->Cl ops rem->rem.length<=fuel->RunA P ops W C Q rem a w->wpAny P .any ops Q' fuel listed a w:=by
 have hrdy:∀ (listed:Array Bool) (rem:List Nat),listed.size=ops.size->(∀ i,i∈rem↔i < ops.size/\listed.getD i true=false)->∀ i,i∈Region.ready .any ops listed↔i∈rem/\rdy ops rem i=true:=by
  intro listed rem hsz hrem i
  have hl:∀ k,k < ops.size->(listed.getD k false=true↔k ∉ rem):=fun k hk=>by
   have hk':k < listed.size:=by rw [hsz];exact hk
   rw [hrem k];simp [hk,hk']
  rw [mem_ready];constructor
  ·rintro ⟨h1,o,ho,h2⟩;have hi:=(Array.getElem?_eq_some_iff.1 ho).1;refine ⟨(hrem i).2 ⟨hi,h1⟩,?_⟩;unfold rdy;rw [ho];simp only [List.all_eq_true,Bool.or_eq_true,Bool.not_eq_true'];intro e he;cases hbe:Region.binds .any e
   ·exact .inl rfl
   ·right;have he':e∈o.after:=by simpa using he
    simp only [List.contains_eq_mem,decide_eq_false_iff_not];exact (hl _ (hb i o ho e he' hbe)).1 (h2 e he' hbe)
  ·rintro ⟨h1,h2⟩;obtain ⟨o,ho,h3⟩:=rdy_spec h2;exact ⟨((hrem i).1 h1).2,o,ho,fun e he hbe=>(hl _ (hb i o ho e he hbe)).2 (h3 e he hbe)⟩
 intro fuel
 induction fuel with
 | zero=>
  intro listed rem a w hsz hrem hn hcl hlen hr;have:rem=[]:=List.length_eq_zero_iff.1 (by omega);subst this;obtain ⟨T,hT,hrT⟩:=hr;refine ⟨?_,hQ _ _ ?_⟩
  ·rw [List.eq_nil_iff_forall_not_mem];intro i hi;cases ((hrdy listed [] hsz hrem i).1 hi).1
  ·cases T with
   | fin=>exact hrT
   | op i t=>simp [chkA] at hT
   | ev i t alt=>simp [chkA] at hT
   | stop=>simp [chkA] at hT
 | succ fuel ih=>
  intro listed rem a w hsz hrem hn hcl hlen hr;obtain ⟨T,hT,hrT⟩:=hr;refine ⟨fun h0=>?_,fun i hi=>?_⟩
  ·cases T with
   | fin=>exact hQ _ _ hrT
   | op i t=>
    exfalso;simp only [chkA,Bool.and_eq_true] at hT;have:=(hrdy listed rem hsz hrem i).2 ⟨by simpa using hT.2.1,hT.2.2.2.1⟩;rw [h0] at this;cases this
   | ev i t alt=>
    exfalso;simp only [chkA,Bool.and_eq_true] at hT;have:=(hrdy listed rem hsz hrem i).2 ⟨by simpa using hT.1,hT.2.2.1⟩;rw [h0] at this;cases this
   | stop=>simp [chkA] at hT
  ·obtain ⟨him,hir⟩:=(hrdy listed rem hsz hrem i).1 hi;obtain ⟨o,ho,_⟩:=rdy_spec hir;have hi':=(Array.getElem?_eq_some_iff.1 ho).1
   have hmem':∀ k,k∈rem.erase i↔k < ops.size/\(listed.setIfInBounds i true).getD k true=false:=by
    intro k;rw [List.Nodup.mem_erase_iff hn];by_cases hki:k=i
    ·subst hki;simp [hsz,hi']
    ·rw [getD_set_ne true (Ne.symm hki)];simp only [ne_eq,hki,not_false_eq_true,true_and];exact hrem k
   have hnext:∀ a' w',RunA P ops W C Q (rem.erase i) a' w' -> wpAny P .any ops Q' fuel (listed.setIfInBounds i true) a' w':=fun a' w' h=>
    ih _ (rem.erase i) a' w' (by simp [hsz]) hmem' (hn.erase i) (cl_erase hn hcl hir) (by rw [List.length_erase_of_mem him];have:=List.length_pos_of_mem him;omega) h
   refine step_wpOp ho ?_
   cases hE:isE o.op with
   | true=>exact stepX_mono (fun a' w' h=>hnext a' w' h.2) (pull_ev hsel hP ho hE T rem a w hn hcl hT hrT him hir)
   | false=>
    obtain ⟨v,hy,hc,h⟩:=pull_pure hsel hP ho hE T rem a w hn hcl hT hrT him hir;exact stepX_of_Yl hy hc (hnext _ _ h)
end
def goA (X:Ctx) (D:Dr):Sched->Bool->List (Nat × Sl)->St->Prop
 | .fin,_,_,st=>go X 4000 D.k st
 | .op i t,c,s0,st=>
  match D.ops.toList[i]? with
  | some o=>goD X ⟨D.ops,D.W,D.k,D.st0,some (goA X D t)⟩ 3000 c [(i,o)] s0 st
  | none=>False
 | .ev i t alt,c,s0,st=>
  (match D.ops.toList[i]? with
  | some o=>goD X ⟨D.ops,D.W,D.k,D.st0,some (goA X D t)⟩ 3000 c [(i,o)] s0 st
  | none=>False)/\goA X D alt c s0 st
 | .stop,_,_,_=>True
def chkN (ops:Array Oper):Bool:=Region.noSelect ops && (List.range ops.size).all fun i=>match ops[i]? with | some o=>o.after.toList.all fun e=>!Region.binds .any e || Nat.blt e.on ops.size | none=>true
section
variable {X:Ctx} {D:Dw}
theorem goA_sound (hD:EnvM D.E0 D.d.st0.bx D.wr) (hf:D.d.fin=none):∀ (T:Sched) (rem:List Nat) m,chkA D.d.ops T rem m=true->∀ c s0 st,goA X D.d T c s0 st->∀ E a w,RelD X D c E s0 st a w->runS X.P D.d.ops D.d.W D.C (D.Q X) T a w:=by
 intro T
 have hone:∀ (t:Sched) (i:Nat) (o:Oper),D.d.ops[i]? = some o->(∀ c s0 st,goA X D.d t c s0 st->∀ E a w,RelD X D c E s0 st a w->runS X.P D.d.ops D.d.W D.C (D.Q X) t a w)->∀ c s0 st,goD X ⟨D.d.ops,D.d.W,D.d.k,D.d.st0,some (goA X D.d t)⟩ 3000 c [(i,o)] s0 st->∀ E a w,RelD X D c E s0 st a w ->
   runT X.P D.d.ops D.d.W D.C (fun a w=>runS X.P D.d.ops D.d.W D.C (D.Q X) t a w) [i] a w:=fun t i o ho ih c s0 st hg E a w h=>by
  have h1:=goD_sound (D:=⟨⟨D.d.ops,D.d.W,D.d.k,D.d.st0,some (goA X D.d t)⟩,D.E0,D.wr⟩) hD 3000 c [(i,o)] s0 st hg (fun p hp=>by
   rw [List.mem_singleton] at hp;rw [hp]
   exact ho) E a w ⟨h.rel,h.x,h.β,h.t0,h.cc⟩
  refine runT_mono ?_ h1;rintro a w ⟨c,E,s0,st,h2,h3⟩;exact ih c s0 st h3 E a w ⟨h2.rel,h2.x,h2.β,h2.t0,h2.cc⟩
 induction T with
 | fin=>
  intro rem m _ c s0 st hg E a w h;show D.Q X a w;unfold Dw.Q;rw [hf];exact go_sound 4000 _ _ hg E a w h.rel
 | stop=>intro rem m _ c s0 st hg E a w h;exact trivial
 | op i t ih=>
  intro rem m hc c s0 st hg E a w h;simp only [chkA,Bool.and_eq_true,Bool.not_eq_true'] at hc;simp only [goA] at hg;split at hg
  ·rename_i o ho;have ho:D.d.ops[i]? = some o:=by simpa using ho
   have h4:=hone t i o ho (ih _ _ hc.2.2.2.2) c s0 st hg E a w h;have hE:isE o.op=false:=by rw [<- evB_eq ho];exact hc.2.2.1
   simp only [runT,ho,hE,Bool.false_eq_true,if_false] at h4;exact ⟨o,ho,h4⟩
  ·exact hg.elim
 | ev i t alt ih1 ih2=>
  intro rem m hc c s0 st hg E a w h;simp only [chkA,Bool.and_eq_true] at hc;obtain ⟨hg,hg2⟩:=hg;refine ⟨?_,ih2 _ _ hc.2.2.2.2 c s0 st hg2 E a w h⟩;split at hg
  ·rename_i o ho;have ho:D.d.ops[i]? = some o:=by simpa using ho
   have h4:=hone t i o ho (ih1 _ _ hc.2.2.2.1) c s0 st hg E a w h;have hE:isE o.op=true:=by rw [<- evB_eq ho];exact hc.2.1
   simp only [runT,ho,hE,if_true] at h4;exact ⟨o,ho,h4⟩
  ·exact hg.elim
end
end Dv
end Go.Proofs.YtadbccicdbopcaaGreat
set_option maxRecDepth 100000
namespace Go.Proofs.YtadbccicdbopcaaGreat
open Go Go.RowKit
namespace Dv
section
variable {X:Ctx} {st:St}
theorem endR {i j:Nat} {s S:St} (h:SameSt s (renSt i j S):=by refine (⟨rfl,rfl,?_⟩:_/\_/\_);repeat' (first | exact trivial | refine ⟨rfl,?_⟩)):(s=S∨SameSt s S)∨SameSt s (renSt i j S):=.inr h
theorem drawG_r {id:Nat} {ops:Array Oper} {k:List It} (W:Nat->Bool) (T:Sched) (i j:Nat) (hm:X.P.follows .mixedOrders=true) (hc:(chkN ops && chkP ops W && chkA ops T (List.range ops.size) none)=true) (S:St)
  (h:goA X ⟨ops,W,[.rnd fun s=>(s=S∨SameSt s S)∨SameSt s (renSt i j S)],st,none⟩ T true st.sl st) (hij:(Nat.ble X.n0 i && Nat.ble X.n0 j && Nat.blt i S.bx.length && Nat.blt j S.bx.length)=true) (hk:go X 4000 k S) (hX:X.bt=[]:=by exact rfl):DrawG X id ops k st:=by
 intro E a w hr;have hr':=drew_rel hr;simp only [Bool.and_eq_true] at hc;simp only [Bool.and_eq_true,Nat.ble_eq,Nat.blt_eq] at hij;obtain ⟨⟨hN,hP⟩,hT⟩:=hc;simp only [chkN,Bool.and_eq_true,List.all_eq_true,List.mem_range] at hN;have hs:=relD_start hr' (ops:=ops) (W:=W) (k:=[.rnd fun s=>(s=S∨SameSt s S)∨SameSt s (renSt i j S)]);have hrun:=goA_sound (D:=⟨⟨ops,W,[.rnd fun s=>(s=S∨SameSt s S)∨SameSt s (renSt i j S)],st,none⟩,E,w.drew⟩) hr'.env.em rfl T _ _ hT true st.sl st h E a w.drew hs;refine wp_region_any hm ?_;refine any_of_A (C:=CC E st.bx w.drew) (Q:=kq X [.rnd fun s=>(s=S∨SameSt s S)∨SameSt s (renSt i j S)] .normal) (Region.noSelect_spec hN.1) hP (fun i o ho e he hb=>?_) (fun a w hq=>?_) ops.size (Array.replicate ops.size false) (List.range ops.size) a _ (by simp) ?_ List.nodup_range ?_ (by simp) ⟨T,hT,hrun⟩
 ·have h1:=hN.2 i (Array.getElem?_eq_some_iff.1 ho).1;rw [ho] at h1;have h2:=List.all_eq_true.1 h1 e (by simpa using he);rw [hb] at h2;simpa using h2
 ·obtain ⟨st1,E1,hrel,hJ⟩:=hq;rcases hJ with (rfl | hJ) | hJ
  ·exact go_sound 4000 _ _ hk E1 a w hrel
  ·exact go_sound 4000 _ _ hk E1 a w (same_rel hrel hJ)
  ·obtain ⟨E2,hrel2⟩:=ren_rel hX (same_rel hrel hJ) hij.1.1.1 hij.1.1.2 hij.1.2 hij.2;exact go_sound 4000 _ _ hk E2 a w hrel2
 ·intro i;simp only [List.mem_range];constructor
  ·intro hi;exact ⟨hi,by simp [hi]⟩
  ·intro hi;exact hi.1
 ·intro k o ho hk;exact (hk (List.mem_range.2 (Array.getElem?_eq_some_iff.1 ho).1)).elim
theorem drawG_rs {id:Nat} {ops:Array Oper} {k:List It} (T:Sched) (i j:Nat) (hm:X.P.follows .mixedOrders=true) (hc:(chkN ops && chkP ops (stW ops) && chkA ops T (List.range ops.size) none)=true) (S:St)
  (h:goA X ⟨ops,stW ops,[.rnd fun s=>(s=S∨SameSt s S)∨SameSt s (renSt i j S)],st,none⟩ T true st.sl st) (hij:(Nat.ble X.n0 i && Nat.ble X.n0 j && Nat.blt i S.bx.length && Nat.blt j S.bx.length)=true) (hk:go X 4000 k S) (hX:X.bt=[]:=by exact rfl):DrawG X id ops k st:=
 drawG_r (stW ops) T i j hm hc S h hij hk hX
end
end Dv
end Go.Proofs.YtadbccicdbopcaaGreat
set_option maxRecDepth 100000
namespace Go.Proofs.YtadbccicdbopcaaGreat
open Go Go.RowKit Dv Tryz
theorem renL_cN (f:Nat->Nat) (l:List Nat):renL f (cN l)=cN l:=by
 induction l with
 | nil=>rfl
 | cons z r ih=>exact congrArg (DV.v (.int .i64 (z:Int)) :: ·) ih
theorem rep_ren (f:Nat->Nat) (n:Nat):renL f (List.replicate n (vL [Value.int .i64 0])).flatten=(List.replicate n (vL [Value.int .i64 0])).flatten:=by rw [repN];exact renL_cN f _
theorem countP_one {α:Type} {p:α->Bool}:∀ {l:List α} {c:Nat},(∀ i x,l[i]? = some x->p x=true->i=c)->l.countP p<=1
 | [],_,_=>Nat.zero_le _
 | x :: r,c,h=>by
  rw [List.countP_cons];by_cases hx:p x=true
  ·have h0:=h 0 x rfl hx
   have:r.countP p=0:=List.countP_eq_zero.2 fun y hy hp=>by
    obtain ⟨i,hi,rfl⟩:=List.getElem_of_mem hy;have:=h (i + 1) r[i] (by simp [hi]) hp;omega
   rw [this,if_pos hx];exact Nat.le_refl _
  ·rw [if_neg hx];exact countP_one (c:=c - 1) fun i y hy hp=>by have:=h (i + 1) y (by simpa using hy) hp;omega
theorem secOK_of {L N:Nat} {n:Nd} {D:List Nat} {K:List Bool} (hn:NdOK L N n) (h:sevF n D K=true):SecOK D K n:=by
 have hmo:∀ {x:Ed},moB D K x=true->thB D x=true/\x.bare=false/\K.getD x.to.toNat false=true:=fun {x} h=>by
  unfold moB at h;simp only [Bool.and_eq_true,Bool.not_eq_true'] at h;exact ⟨h.1,h.2.1,h.2.2⟩
 refine ⟨fun h7=>?_,fun h8 ht=>?_⟩
 ·simp only [sevF,h7] at h;simp at h;obtain ⟨x,hx,hmx⟩:=List.any_eq_true.1 h.1;obtain ⟨_,hb,hK⟩:=hmo hmx;obtain ⟨j,hj,rfl⟩:=List.getElem_of_mem hx
  cases hc:chgF K n.edges with
  | none=>
   have:=firstN_none_iff hc j hj;unfold chgP at this;rw [gE hj] at this;simp only at this;rw [hK] at this;cases this
  | some c=>
   have hcl:=(firstN_spec hc).1;refine ⟨c,_,rfl,gE hcl,?_⟩
   cases hb:n.edges[c].bare with
   | false=>rfl
   | true=>have:=hn.bare _ (List.getElem_mem hcl) hb;omega
 ·have hone:∀ {i x},n.edges[i]? = some x->thB D x=true->chooseF D n.edges=some i:=fun hx h=>turn_none ht hx h
  have hmany:manyN D n.edges<=1:=by
   cases hc:chooseF D n.edges with
   | none=>exact countP_one (c:=0) fun i x hx hp=>by rw [hone hx hp] at hc;cases hc
   | some c=>exact countP_one (c:=c) fun i x hx hp=>by rw [hone hx hp] at hc;exact Option.some.inj hc
  simp only [sevF,h8] at h;simp at h;rcases h with h | h
  ·obtain ⟨x,hx,hmx⟩:=List.any_eq_true.1 h;obtain ⟨h1,hb,_⟩:=hmo hmx;obtain ⟨j,hj,rfl⟩:=List.getElem_of_mem hx;exact ⟨j,_,hone (gE hj) h1,gE hj,hb⟩
  ·omega
theorem cntN_set {l:List Nat} {i v:Nat} (hi:i < l.length) (h0:l.getD i 0=0) (hv:v≠0):cntN l < cntN (l.set i v):=by
 have hle:LeN l (l.set i v):=fun j hj=>by rw [getD_set hi,if_neg (fun h=>by subst h;exact hj h0)]
 rcases (leN_cnt List.length_set.symm hle).1 with h | h
 ·have h1:(l.set i v).getD i 0=v:=by rw [getD_set hi,if_pos rfl]
  rw [<- h,h0] at h1;exact (hv h1.symm).elim
 ·exact h
theorem ot_small {kf:Nat->Option (Nat × Option Nat)} (hk:∀ i k,kf i=some k->k.1<=4097) {t:List Nat} (h:OtOK kf t):∀ z∈t,z<=4097:=fun z hz=>by
 obtain ⟨i,hi,rfl⟩:=List.getElem_of_mem hz;by_cases h0:t[i]=0
 ·omega
 ·have hg:t.getD i 0=t[i]:=by rw [List.getD_eq_getElem?_getD,gE hi];all_goals rfl
  obtain ⟨k,hk1,hv⟩:=h i (by rw [hg];exact h0);rw [<- hg,hv];unfold othE;split
  ·exact hk i k hk1
  ·split
   ·omega
   ·exact cutM_le _
theorem othK_small (sz D:List Nat) (K:List Bool) (ND:List Nd):∀ i k,othK sz D K ND i=some k->k.1<=4097:=fun i k h=>by
 unfold othK at h;split at h
 ·split at h
  ·cases h;exact (othS_pos _ _ _ _).2
  ·cases h
 ·cases h
section
variable (PC:List DV) (ND:List Nd) (D:List Nat) (K:List Bool)
abbrev mk0 (e:Nat):List DV:=[.pt PC 0,.sl 7 (dNds (ND.take e)) (some 0),.sl 1 (dInts D) none,.sl 1 (dBo K) none,.v (.slice none 0 0),.v (.slice none 0 0)]
abbrev mk1St (m e:Nat):St:=
 ⟨[(0,⟨[],.pt PC 0⟩),(3,⟨[],.loc 0 0⟩),(4,⟨[],.v (.int .i64 m)⟩),(22,⟨[],.v (.int .i64 ND.length)⟩),(23,⟨[],.v (.int .i64 e)⟩)],[mk0 PC ND D K e],[⟨e,176,7,none⟩]⟩
abbrev mkO:List DV:=[.pt PC 0,.sl 7 (dNds ND) (some 0),.sl 1 (dInts D) none,.sl 1 (dBo K) none,.ms 1 1 0 ND.length ND.length,.ms 2 1 0 ND.length ND.length]
theorem mk_cc {t o:List Nat} {bx:List (List DV)} (ht:t.length=ND.length) (ho:o.length=ND.length) (h1:bx[1]? = some (cN t)) (h2:bx[2]? = some (cN o)):CcL bx 0 0 0 (mkD PC ND D K t o) (mkO PC ND D K):=
 ⟨_,_,rfl,ax,_,_,rfl,ax,_,_,rfl,ax,_,_,rfl,ax,_,_,rfl,ms_n ht (Nat.zero_le _) h1,_,_,rfl,ms_n ho (Nat.zero_le _) h2,rfl⟩
abbrev mkT:List TkE:=[⟨ND.length,176,7,none⟩]
abbrev mk2St (m d:Nat) (t o:List Nat):St:=
 ⟨[(0,⟨[],.pt PC 0⟩),(3,⟨[],.loc 0 0⟩),(65,⟨[],.v (.int .i64 (m + 1:Nat))⟩),(66,⟨[],.v (.int .i64 d)⟩)],[mkO PC ND D K,cN t,cN o],mkT ND⟩
abbrev mk3St (m d:Nat) (t o:List Nat) (e:Nat):St:=
 ⟨[(0,⟨[],.pt PC 0⟩),(3,⟨[],.loc 0 0⟩),(65,⟨[],.v (.int .i64 (m + 1:Nat))⟩),(66,⟨[],.v (.int .i64 d)⟩),(8,⟨[],.v (.int .i64 d)⟩),(72,⟨[],.sl 7 (dNds ND) (some 0)⟩),(73,⟨[],.v (.int .i64 (dNds ND).length)⟩),(74,⟨[],.v (.int .i64 e)⟩)],[mkO PC ND D K,cN t,cN o],mkT ND⟩
def szQ (d e:Nat):List Nat:=if d=0 then szR ND D 0 else szL ND D d e (szR ND D (d - 1))
theorem szQ_len (d e:Nat):(szQ ND D d e).length=ND.length:=by
 unfold szQ;split
 ·exact szR_len ND D 0
 ·rw [szL_len];exact szR_len ND D _
theorem szQ_succ {d e:Nat} {n:Nd} (hn:ND[e]? = some n):szQ ND D d (e + 1)=if 0 < d/\D.getD e 0=d then (szQ ND D d e).set e (sizeF (szQ ND D d e) D n) else szQ ND D d e:=by
 unfold szQ;by_cases h:d=0
 ·rw [if_pos h,if_pos h,if_neg (by omega)]
 ·rw [if_neg h,if_neg h,szL,hn];simp only;by_cases h2:D.getD e 0=d
  ·rw [if_pos h2,if_pos ⟨by omega,h2⟩]
  ·rw [if_neg h2,if_neg (by omega)]
theorem szQ_end (d:Nat):szQ ND D d ND.length=szR ND D d:=by
 unfold szQ;split
 ·rename_i h;rw [h]
 ·obtain ⟨k,rfl⟩:∃ k,d=k + 1:=⟨d - 1,by omega⟩;rfl
theorem szQ_zero (d:Nat):szQ ND D d 0=szR ND D (d - 1):=by
 unfold szQ;split
 ·rename_i h;rw [h]
 ·rfl
theorem szR_small:∀ d,∀ z∈szR ND D d,z<=4097:=by
 have key:∀ d e t,(∀ z∈t,z<=4097)->∀ z∈szL ND D d e t,z<=4097:=fun d e t ht=>by
  induction e with
  | zero=>exact ht
  | succ e ih=>
   rw [szL];split
   ·exact ih
   ·split
    ·intro z hz;rcases List.mem_or_eq_of_mem_set hz with h | rfl
     ·exact ih z h
     ·exact (sizeF_pos _ _ _).2
    ·exact ih
 intro d
 induction d with
 | zero=>intro z hz;rw [szR] at hz;rw [(List.mem_replicate.1 hz).2];omega
 | succ d ih=>exact key _ _ _ ih
theorem szQ_small (d e:Nat):∀ z∈szQ ND D d e,z<=4097:=by
 have key:∀ d e t,(∀ z∈t,z<=4097)->∀ z∈szL ND D d e t,z<=4097:=fun d e t ht=>by
  induction e with
  | zero=>exact ht
  | succ e ih=>
   rw [szL];split
   ·exact ih
   ·split
    ·intro z hz;rcases List.mem_or_eq_of_mem_set hz with h | rfl
     ·exact ih z h
     ·exact (sizeF_pos _ _ _).2
    ·exact ih
 unfold szQ;split
 ·exact szR_small ND D 0
 ·exact key _ _ _ (szR_small ND D _)
abbrev mk4St (c:Bool) (t o:List Nat):St:=
 ⟨[(0,⟨[],.pt PC 0⟩),(3,⟨[],.loc 0 0⟩),(11,⟨[],.v (.bool c)⟩)],[mkO PC ND D K,cN t,cN o],mkT ND⟩
abbrev mk5St (c:Bool) (t o:List Nat) (e:Nat):St:=
 ⟨[(0,⟨[],.pt PC 0⟩),(3,⟨[],.loc 0 0⟩),(11,⟨[],.v (.bool c)⟩),(107,⟨[],.sl 7 (dNds ND) (some 0)⟩),(108,⟨[],.v (.int .i64 (dNds ND).length)⟩),(109,⟨[],.v (.int .i64 e)⟩)],[mkO PC ND D K,cN t,cN o],mkT ND⟩
set_option maxHeartbeats 4000000 in
theorem smake_spec {S:Sch} (hP:PlanR S ND PC):EvP Tryz.prog 91 [.pt PC 0] (.pt (mkD PC ND (depN ND ND.length) (sevS ND (depN ND ND.length)) (szT ND (depN ND ND.length)) (otT (szT ND (depN ND ND.length)) (depN ND ND.length) (sevS ND (depN ND ND.length)) ND)) 0):=by
 have h1:=hP.len;have h2:=hP.node;have hnl:=hP.nl;have hd:=depths_spec hP;have hsv:=severals_spec hP;have hDO:=depOK ND;have hlD:=hDO.len;generalize depN ND ND.length=D at hd hsv hDO hlD ⊢
 have hsec:∀ i n,ND[i]? = some n->(sevS ND D).getD i false=true->SecOK D (sevS ND D) n:=fun i n hn h=>by
  rw [<- sevS_fix,List.getD_eq_getElem?_getD,List.getElem?_map,hn] at h;exact secOK_of (hP.ok n (mG hn)) h
 have hlK:(sevS ND D).length=ND.length:=sevN_len ND D _;generalize sevS ND D=K at hsv hsec hlK ⊢;refine ev_go (P:=Tryz.prog) tt tt_ok 5000 153 [.tmp 2] Tryz.func91 rfl Tryz.ntmps91 rfl (nL rfl) (fun E9 w9 hn9 hm9=>?_);refine call_p en200 (hd) ax rfl ?_;refine call_p en201 (hsv) ax rfl ?_;refine call_p en202 (h1) ax rfl ?_;refine loop_i (fun j st=>∃ e m:Nat,st=mk1St PC ND D K m e/\e<=ND.length/\m<=ND.length/\(∀ i,i < e->D.getD i 0<=m)/\j=ND.length - e) ND.length (mk1St PC ND D K 0 0) (weak_bt 1 ⟨0,176,7,none⟩ rfl rfl rfl wTA rfl rfl wB) ⟨0,0,rfl,by omega,by omega,fun _ h=>by omega,by omega⟩ ?_;rintro j st ⟨e,m,rfl,he,hm,hmx,rfl⟩;refine br (fun hL=>?_) (fun hL=>?_)
 ·have hlt:e < ND.length:=by simpa using hL
  obtain ⟨n,hn⟩:∃ n,ND[e]? = some n:=⟨_,gE hlt⟩;obtain ⟨z,hz⟩:∃ z,D[e]? = some z:=⟨_,gE (by omega)⟩;have hzd:D.getD e 0=z:=by rw [List.getD_eq_getElem?_getD,hz];all_goals rfl
  have hzl:=hDO.le e;have hml:(dNds (ND.take e)).length=e:=by rw [dNds_len,List.length_take];omega
  refine call_p en100 (h2 e n hn) ax rfl ?_;refine drawG_s mo (by decide +kernel) ?_;refine ⟨hml,⟨by rw [hml];simp [maxLen];omega,by rw [hml];simp;omega⟩,?_⟩;refine ⟨_,⟨by omega,dInts_get hz⟩,?_⟩
  exact ⟨mk1St PC ND D K (max m z) (e + 1),(weak_b 1 rfl (by repeat' (first | exact rfl | exact we_rfl rfl | exact we_sl (dNds_snoc hn) rfl | exact we_int (show max (m:Int) z=((max m z:Nat):Int) by omega) | exact we_int (nxt hlt (by omega)) | refine ⟨_,_,rfl,?_,?_⟩)) rfl rfl rfl (by repeat' (first | exact trivial | exact we_rfl rfl | exact we_sl (dNds_snoc hn) rfl | exact we_int (show max (m:Int) z=((max m z:Nat):Int) by omega) | exact we_int (nxt hlt (by omega)) | refine ⟨⟨_,rfl,?_⟩,?_⟩))),ND.length - (e + 1),by omega,e + 1,max m z,rfl,by omega,by omega,fun i hi=>by
   rcases Nat.lt_succ_iff_lt_or_eq.1 hi with h | rfl
   ·have:=hmx i h;omega
   ·rw [hzd];omega,rfl⟩
 ·have hge:e=ND.length:=by have:=hL;simp at this;omega
  subst hge;apply drawG_rs (.op 0 (.op 1 (.op 2 (.op 5 (.ev 3 (.ev 4 (.ev 6 (.op 8 (.op 9 (.ev 7 (.ev 10 (.op 11 (.op 12 (.ev 13 .fin .stop))) .stop) (.ev 10 (.ev 7 (.op 11 (.op 12 (.ev 13 .fin .stop))) .stop) .stop)))) .stop) (.ev 6 (.ev 4 (.op 8 (.op 9 (.ev 7 (.ev 10 (.op 11 (.op 12 (.ev 13 .fin .stop))) .stop) (.ev 10 (.ev 7 (.op 11 (.op 12 (.ev 13 .fin .stop))) .stop) .stop)))) (.ev 7 (.ev 4 (.op 8 (.op 9 (.ev 10 (.op 11 (.op 12 (.ev 13 .fin .stop))) .stop))) .stop) .stop)) .stop)) .stop))))) 1 2 mo (by decide +kernel);·repeat' (first | refine callD_p en202 (h1) ax rfl ?_ | exact ⟨rfl,by omega,by omega,by omega⟩ | exact Or.inr ⟨congrArg (fun z=>[_,z,z]) (rep_ren _ _).symm,rfl,by repeat' (first | exact trivial | refine ⟨rfl,?_⟩)⟩ | exact trivial | exact Or.inl (Or.inl rfl) | exact Or.inl endS | exact endR | refine ⟨?_,?_⟩)
  ·exact (rfl:_=_)
  have hrep:(List.replicate (ND.length:Int).toNat (vL [Value.int .i64 0])).flatten=cN (szR ND D 0):=by rw [repN];all_goals rfl
  refine loop_i (fun j st=>∃ d:Nat,st=mk2St PC ND D K m d (szR ND D (d - 1)) (List.replicate ND.length 0)/\d<=m + 1/\j=m + 1 - d) (m + 1) (mk2St PC ND D K m 0 (szR ND D 0) (List.replicate ND.length 0)) (weak_b 3 rfl (by repeat' (first | exact rfl | exact we_rfl rfl | exact weL_cN hrep | exact we_sl (congrArg dNds (List.take_length)) rfl | exact we_int (wrapN (a:=m) (b:=1) (by omega) (by omega)) | refine ⟨_,_,rfl,?_,?_⟩)) rfl rfl rfl (by repeat' (first | exact trivial | exact we_rfl rfl | exact weL_cN hrep | exact we_sl (congrArg dNds (List.take_length)) rfl | exact we_int (wrapN (a:=m) (b:=1) (by omega) (by omega)) | refine ⟨⟨_,rfl,?_⟩,?_⟩))) ⟨0,rfl,by omega,by omega⟩ ?_;rintro j st ⟨d,rfl,hdm,rfl⟩;refine br (fun hL=>?_) (fun hL=>?_)
  ·have hdl:d < m + 1:=by have:=hL;simp at this;omega
   refine loop_i (fun j st=>∃ e:Nat,st=mk3St PC ND D K m d (szQ ND D d e) (List.replicate ND.length 0) e/\e<=ND.length/\j=ND.length - e) ND.length (mk3St PC ND D K m d (szQ ND D d 0) (List.replicate ND.length 0) 0) (weak_b 3 rfl (by repeat' (first | exact rfl | exact we_rfl rfl | exact weL_cN (congrArg cN (szQ_zero ND D d).symm) | exact weL_cN rfl | refine ⟨_,_,rfl,?_,?_⟩)) rfl rfl rfl (by repeat' (first | exact trivial | exact we_rfl rfl | exact weL_cN (congrArg cN (szQ_zero ND D d).symm) | exact weL_cN rfl | refine ⟨⟨_,rfl,?_⟩,?_⟩))) ⟨0,rfl,by omega,by omega⟩ ?_;rintro j st ⟨e,rfl,he,rfl⟩;refine br (fun hL2=>?_) (fun hL2=>?_)
   ·have hlt:e < ND.length:=by have:=hL2;simp [dNds_len] at this;exact this
    obtain ⟨n,hn⟩:∃ n,ND[e]? = some n:=⟨_,gE hlt⟩;obtain ⟨z,hz⟩:∃ z,D[e]? = some z:=⟨_,gE (by omega)⟩;have hzd:D.getD e 0=z:=by rw [List.getD_eq_getElem?_getD,hz];all_goals rfl
    have hnx:=szQ_succ ND D (d:=d) hn;have hql:=szQ_len ND D d e;have hqs:=szQ_small ND D d e;have hnm:=mG hn;have hfs:=fun h8=>sfirst_spec PC ND D K (szQ ND D d e) (List.replicate ND.length 0) hlD hql hqs (hP.ok n hnm) (hP.esz n hnm) h8
    have h8:0 < d/\D.getD e 0=d->n.kind=8->∃ c e,chooseF D n.edges=some c/\n.edges[c]? = some e:=fun h h8=>by
     obtain ⟨c,x,hc,hx,_⟩:=hDO.uni hn (by omega) h8;exact ⟨c,x,hc,hx⟩
    generalize szQ ND D d e=t at hnx hql hqs hfs;have hno:¬ (0 < d/\D.getD e 0=d)->t=szQ ND D d (e + 1):=fun h=>by rw [hnx,if_neg h]
    have hyes:0 < d/\D.getD e 0=d->t.set e (sizeF t D n)=szQ ND D d (e + 1):=fun h=>by rw [hnx,if_pos h]
    refine ⟨_,⟨by omega,dNds_get hn⟩,?_⟩;refine br (fun c1=>?_) (fun c1=>?_)
    ·have c1:0 < d:=by simpa [lastG] using c1
     refine ⟨_,⟨by omega,dInts_get hz⟩,?_⟩;refine br (fun c2=>?_) (fun c2=>?_)
     ·have c2:D.getD e 0=d:=Decidable.byContradiction fun h=>by simp [lastG,pickB] at c2;omega
      have hset:=hyes ⟨c1,c2⟩;have hfs:=hfs (h8 ⟨c1,c2⟩);refine drawG_s mo (by decide +kernel) ?_;refine callD_b en203 hfs ⟨_,_,rfl,.inr ⟨0,_,rfl,Nat.zero_le _,rfl,mk_cc PC ND D K hql List.length_replicate rfl rfl⟩,_,_,rfl,ax,rfl⟩ rfl rfl ?_;refine ⟨⟨by omega,by omega⟩,?_⟩;refine ⟨by rw [cN_len];omega,?_⟩
      have hst:(cN t).set (0 + (e:Int).toNat * 1) (DV.v (.int .i64 (sizeF t D n:Nat)))=cN (szQ ND D d (e + 1)):=by
       rw [show 0 + (e:Int).toNat * 1=e by omega,cN_set,hset]
      exact ⟨mk3St PC ND D K m d (szQ ND D d (e + 1)) (List.replicate ND.length 0) (e + 1),(weak_b 3 rfl (by repeat' (first | exact rfl | exact we_rfl rfl | exact weL_cN hst | exact weL_cN rfl | exact we_int (nxt hlt (by omega)) | refine ⟨_,_,rfl,?_,?_⟩)) rfl rfl rfl (by repeat' (first | exact trivial | exact we_rfl rfl | exact weL_cN hst | exact weL_cN rfl | exact we_int (nxt hlt (by omega)) | refine ⟨⟨_,rfl,?_⟩,?_⟩))),ND.length - (e + 1),by omega,e + 1,rfl,by omega,rfl⟩
     ·have c2:¬ D.getD e 0=d:=fun h=>by simp [lastG,pickB] at c2;omega
      exact ⟨mk3St PC ND D K m d (szQ ND D d (e + 1)) (List.replicate ND.length 0) (e + 1),(weak_b 3 rfl (by repeat' (first | exact rfl | exact we_rfl rfl | exact weL_cN (congrArg cN (hno (fun h=>c2 h.2))) | exact weL_cN rfl | exact we_int (nxt hlt (by omega)) | refine ⟨_,_,rfl,?_,?_⟩)) rfl rfl rfl (by repeat' (first | exact trivial | exact we_rfl rfl | exact weL_cN (congrArg cN (hno (fun h=>c2 h.2))) | exact weL_cN rfl | exact we_int (nxt hlt (by omega)) | refine ⟨⟨_,rfl,?_⟩,?_⟩))),ND.length - (e + 1),by omega,e + 1,rfl,by omega,rfl⟩
    ·have c1:¬ 0 < d:=by simpa [lastG] using c1
     exact ⟨mk3St PC ND D K m d (szQ ND D d (e + 1)) (List.replicate ND.length 0) (e + 1),(weak_b 3 rfl (by repeat' (first | exact rfl | exact we_rfl rfl | exact weL_cN (congrArg cN (hno (fun h=>c1 h.1))) | exact weL_cN rfl | exact we_int (nxt hlt (by omega)) | refine ⟨_,_,rfl,?_,?_⟩)) rfl rfl rfl (by repeat' (first | exact trivial | exact we_rfl rfl | exact weL_cN (congrArg cN (hno (fun h=>c1 h.1))) | exact weL_cN rfl | exact we_int (nxt hlt (by omega)) | refine ⟨⟨_,rfl,?_⟩,?_⟩))),ND.length - (e + 1),by omega,e + 1,rfl,by omega,rfl⟩
   ·have hge:e=ND.length:=by have:=hL2;simp [dNds_len] at this;omega
    subst hge;exact ⟨mk2St PC ND D K m (d + 1) (szR ND D (d + 1 - 1)) (List.replicate ND.length 0),(weak_b 3 rfl (by repeat' (first | exact rfl | exact we_rfl rfl | exact weL_cN (congrArg cN (szQ_end ND D d)) | exact weL_cN rfl | exact we_int (wrapN (a:=d) (b:=1) (by omega) (by omega)) | refine ⟨_,_,rfl,?_,?_⟩)) rfl rfl rfl (by repeat' (first | exact trivial | exact we_rfl rfl | exact weL_cN (congrArg cN (szQ_end ND D d)) | exact weL_cN rfl | exact we_int (wrapN (a:=d) (b:=1) (by omega) (by omega)) | refine ⟨⟨_,rfl,?_⟩,?_⟩))),m + 1 - (d + 1),by omega,d + 1,rfl,by omega,rfl⟩
  ·have hde:d=m + 1:=by have:=hL;simp at this;omega
   subst hde
   have hall:∀ i,D.getD i 0<=m:=fun i=>by
    rcases Nat.lt_or_ge i ND.length with h | h
    ·exact hmx i h
    ·rw [List.getD_eq_getElem?_getD,List.getElem?_eq_none (by omega)];exact Nat.zero_le _
   have hT:szR ND D (m + 1 - 1)=szT ND D:=by
    have:=szR_top (ND:=ND) hall (ND.length - m);rw [show m + (ND.length - m)=ND.length by omega] at this;exact this.symm
   have hTl:=szT_len ND D;have hTs:∀ z∈szT ND D,z<=4097:=szR_small ND D _;have hks:=othK_small (szT ND D) D K ND;have hok:∀ r,OtOK (othK (szT ND D) D K ND) (otR (othK (szT ND D) D K ND) ND.length r):=fun r=>otR_ok r;have hrl:∀ r,(otR (othK (szT ND D) D K ND) ND.length r).length=ND.length:=fun r=>otR_len r;have hll:∀ e r,(otL (othK (szT ND D) D K ND) e (otR (othK (szT ND D) D K ND) ND.length r)).length=ND.length:=fun e r=>by rw [otL_len];exact hrl r
   have hkf:∀ i n,ND[i]? = some n->othK (szT ND D) D K ND i=if K.getD i false=true then some (othS (szT ND D) D K n) else none:=fun i n h=>by unfold othK;rw [h]
   have hF:otT (szT ND D) D K ND=otR (othK (szT ND D) D K ND) ND.length ND.length:=rfl;rw [hF];rw [hT];generalize szT ND D=t at hTl hTs hks hok hrl hll hkf ⊢;refine loop_i (fun j st=>∃ (r:Nat) (c:Bool),st=mk4St PC ND D K c t (otR (othK t D K ND) ND.length r)/\(c=true->r<=cntN (otR (othK t D K ND) ND.length r))/\(c=false->otR (othK t D K ND) ND.length (r + 1)=otR (othK t D K ND) ND.length r)/\j=if c=true then ND.length + 1 - r else 0) (ND.length + 1) (mk4St PC ND D K true t (otR (othK t D K ND) ND.length 0)) (weak_b 3 rfl (by repeat' (first | exact rfl | exact we_rfl rfl | exact weL_cN rfl | refine ⟨_,_,rfl,?_,?_⟩)) rfl rfl rfl (by repeat' (first | exact trivial | exact we_rfl rfl | exact weL_cN rfl | refine ⟨⟨_,rfl,?_⟩,?_⟩))) ⟨0,true,rfl,fun _=>Nat.zero_le _,fun h=>(by cases h),by simp⟩ ?_;rintro j st ⟨r,c,rfl,hct,hcf,rfl⟩;refine br (fun hc=>?_) (fun hc=>?_)
   ·have hc:c=true:=hc;subst hc;have hcr:=hct rfl;have hcn:=cntN_le (otR (othK t D K ND) ND.length r);rw [hrl] at hcn;refine loop_i (fun j st=>∃ (e:Nat) (c':Bool),st=mk5St PC ND D K c' t (otL (othK t D K ND) e (otR (othK t D K ND) ND.length r)) e/\e<=ND.length/\(c'=true->cntN (otR (othK t D K ND) ND.length r) < cntN (otL (othK t D K ND) e (otR (othK t D K ND) ND.length r)))/\(c'=false->otL (othK t D K ND) e (otR (othK t D K ND) ND.length r)=otR (othK t D K ND) ND.length r)/\j=ND.length - e) ND.length (mk5St PC ND D K false t (otR (othK t D K ND) ND.length r) 0) (weak_b 3 rfl (by repeat' (first | exact rfl | exact we_rfl rfl | exact weL_cN rfl | refine ⟨_,_,rfl,?_,?_⟩)) rfl rfl rfl (by repeat' (first | exact trivial | exact we_rfl rfl | exact weL_cN rfl | refine ⟨⟨_,rfl,?_⟩,?_⟩))) ⟨0,false,rfl,by omega,fun h=>(by cases h),fun _=>rfl,by omega⟩ ?_;rintro j st ⟨e,c',rfl,he,ht',hf',rfl⟩;refine br (fun hL2=>?_) (fun hL2=>?_)
    ·have hlt:e < ND.length:=by have:=hL2;simp [dNds_len] at this;exact this
     obtain ⟨n,hn⟩:∃ n,ND[e]? = some n:=⟨_,gE hlt⟩;obtain ⟨b,hb⟩:∃ b,K[e]? = some b:=⟨_,gE (by omega)⟩;have hbd:K.getD e false=b:=by rw [List.getD_eq_getElem?_getD,hb];all_goals rfl
     have hol:=hll e r;have hoo:=(otL_ok (kf:=othK t D K ND) e (by rw [hrl];omega) (hok r)).1;have hos:=ot_small hks hoo;have hk:=hkf e n hn;have hnm:=mG hn;have hsd:=fun hS=>ssecond_spec PC ND D K t (otL (othK t D K ND) e (otR (othK t D K ND) ND.length r)) hlD hlK hTl hol hTs hos (hP.ok n hnm) (hP.esz n hnm) hS;have hsc:=hsec e n hn;have hnx:otL (othK t D K ND) (e + 1) (otR (othK t D K ND) ND.length r)=otI (othK t D K ND) e (otL (othK t D K ND) e (otR (othK t D K ND) ND.length r)):=rfl;have hkn:=@otI_known (othK t D K ND) e _ hoo;generalize otL (othK t D K ND) e (otR (othK t D K ND) ND.length r)=o at ht' hf' hol hoo hos hsd hnx hkn ⊢;obtain ⟨z,hz⟩:∃ z,o[e]? = some z:=⟨_,gE (by omega)⟩;have hzd:o.getD e 0=z:=by rw [List.getD_eq_getElem?_getD,hz];all_goals rfl
     refine ⟨_,⟨by omega,dNds_get hn⟩,?_⟩;refine ⟨_,⟨by omega,dBo_get hb⟩,?_⟩;refine br (fun c1=>?_) (fun c1=>?_)
     ·have c1:b=true:=by simpa [lastG] using c1
      refine ⟨⟨by omega,by omega⟩,?_⟩;refine ⟨DV.v (.int .i64 (z:Int)),(by rw [show 0 + (e:Int).toNat * 1=e by omega];exact cN_get hz),?_⟩;refine br (fun c2=>?_) (fun c2=>?_)
      ·have c2:z=0:=by simpa [lastG,pickB] using c2
       rw [hbd,c1,if_pos rfl] at hk;have hset:otL (othK t D K ND) (e + 1) (otR (othK t D K ND) ND.length r)=o.set e (othE o (othS t D K n)):=by rw [hnx];unfold otI;rw [hk]
       have hle:=(otI_ok (kf:=othK t D K ND) (i:=e) (by omega) hoo).2;rw [<- hnx,hset] at hle;have hcs:=fun hv=>cntN_set (l:=o) (i:=e) (v:=othE o (othS t D K n)) (by omega) (by rw [hzd];exact c2) hv;have hcl:=(leN_cnt List.length_set.symm hle).2;have hs0:othE o (othS t D K n)=0->o.set e (othE o (othS t D K n))=o:=fun h=>set_self _ (by rw [hzd,c2,h]);have hsd:=hsd (hsc (by rw [hbd];exact c1));generalize othE o (othS t D K n)=v at hset hle hcs hcl hs0 hsd;refine drawG_s mo (by decide +kernel) ?_;refine callD_b en204 hsd ⟨_,_,rfl,.inr ⟨0,_,rfl,Nat.zero_le _,rfl,mk_cc PC ND D K hTl hol rfl rfl⟩,_,_,rfl,ax,rfl⟩ rfl rfl ?_;refine ⟨⟨by omega,by omega⟩,?_⟩;refine ⟨by rw [cN_len];omega,?_⟩
       have hst:(cN o).set (0 + (e:Int).toNat * 1) (DV.v (.int .i64 (v:Nat)))=cN (o.set e v):=by
        rw [show 0 + (e:Int).toNat * 1=e by omega,cN_set]
       have hvg:(cN (o.set e v))[e]? = some (DV.v (.int .i64 (v:Nat))):=cN_get (by rw [List.getElem?_set_self (by omega)]);refine br (fun c3=>?_) (fun c3=>?_)
       ·have c3:c'=false:=by simpa [lastG] using c3
        have hf':=hf' c3;refine ⟨⟨by omega,by omega⟩,?_⟩;refine ⟨DV.v (.int .i64 (v:Nat)),(by rw [hst,show 0 + (e:Int).toNat * 1=e by omega];exact hvg),?_⟩;have hnew:v≠0->cntN (otR (othK t D K ND) ND.length r) < cntN (otL (othK t D K ND) (e + 1) (otR (othK t D K ND) ND.length r)):=fun h=>by rw [hset,<- hf'];exact hcs h
        have hold:v=0->otL (othK t D K ND) (e + 1) (otR (othK t D K ND) ND.length r)=otR (othK t D K ND) ND.length r:=fun h=>by rw [hset,hs0 h,hf']
        have hstt:=weL_cN (n:=3) (m:=1) (tk:=mkT ND) (hst.trans (congrArg cN hset.symm));clear hset hle hcl hs0 hcs hst hvg hsd
        cases v with
        | zero=>exact ⟨mk5St PC ND D K false t (otL (othK t D K ND) (e + 1) (otR (othK t D K ND) ND.length r)) (e + 1),(weak_b 3 rfl (by repeat' (first | exact rfl | exact we_rfl rfl | exact weL_cN rfl | exact hstt | exact we_int (nxt hlt (by omega)) | refine ⟨_,_,rfl,?_,?_⟩)) rfl rfl rfl (by repeat' (first | exact trivial | exact we_rfl rfl | exact weL_cN rfl | exact hstt | exact we_int (nxt hlt (by omega)) | refine ⟨⟨_,rfl,?_⟩,?_⟩))),ND.length - (e + 1),by omega,e + 1,false,rfl,by omega,fun h=>(by cases h),fun _=>hold rfl,rfl⟩
        | succ v=>
         have hp:DV.v (.bool (decide ((0:Int) < ((v + 1:Nat):Int))))=DV.v (.bool true):=congrArg (fun b=>DV.v (.bool b)) (decide_eq_true (by omega));exact ⟨mk5St PC ND D K true t (otL (othK t D K ND) (e + 1) (otR (othK t D K ND) ND.length r)) (e + 1),(weak_b 3 rfl (by repeat' (first | exact rfl | exact we_rfl rfl | exact weL_cN rfl | exact hstt | exact Or.inl ⟨hp,rfl⟩ | exact we_int (nxt hlt (by omega)) | refine ⟨_,_,rfl,?_,?_⟩)) rfl rfl rfl (by repeat' (first | exact trivial | exact we_rfl rfl | exact weL_cN rfl | exact hstt | exact Or.inl ⟨hp,rfl⟩ | exact we_int (nxt hlt (by omega)) | refine ⟨⟨_,rfl,?_⟩,?_⟩))),ND.length - (e + 1),by omega,e + 1,true,rfl,by omega,fun _=>hnew (Nat.succ_ne_zero v),fun h=>(by cases h),rfl⟩
       ·have c3:c'=true:=by simpa [lastG] using c3
        have ht':=ht' c3;exact ⟨mk5St PC ND D K true t (otL (othK t D K ND) (e + 1) (otR (othK t D K ND) ND.length r)) (e + 1),(weak_b 3 rfl (by repeat' (first | exact rfl | exact we_rfl rfl | exact weL_cN rfl | exact weL_cN (hst.trans (congrArg cN hset.symm)) | exact we_int (nxt hlt (by omega)) | exact we_bool c3 | refine ⟨_,_,rfl,?_,?_⟩)) rfl rfl rfl (by repeat' (first | exact trivial | exact we_rfl rfl | exact weL_cN rfl | exact weL_cN (hst.trans (congrArg cN hset.symm)) | exact we_int (nxt hlt (by omega)) | exact we_bool c3 | refine ⟨⟨_,rfl,?_⟩,?_⟩))),ND.length - (e + 1),by omega,e + 1,true,rfl,by omega,fun _=>by rw [hset];omega,fun h=>(by cases h),rfl⟩
      ·have c2:¬ z=0:=by simpa [lastG,pickB] using c2
       have hsk:=hnx.trans (hkn (by rw [hzd];exact c2));exact ⟨mk5St PC ND D K c' t (otL (othK t D K ND) (e + 1) (otR (othK t D K ND) ND.length r)) (e + 1),(weak_b 3 rfl (by repeat' (first | exact rfl | exact we_rfl rfl | exact weL_cN rfl | exact weL_cN (congrArg cN hsk.symm) | exact we_int (nxt hlt (by omega)) | refine ⟨_,_,rfl,?_,?_⟩)) rfl rfl rfl (by repeat' (first | exact trivial | exact we_rfl rfl | exact weL_cN rfl | exact weL_cN (congrArg cN hsk.symm) | exact we_int (nxt hlt (by omega)) | refine ⟨⟨_,rfl,?_⟩,?_⟩))),ND.length - (e + 1),by omega,e + 1,c',rfl,by omega,by rw [hsk];exact ht',by rw [hsk];exact hf',rfl⟩
     ·have c1:b=false:=by simpa [lastG] using c1
      have hsk:otL (othK t D K ND) (e + 1) (otR (othK t D K ND) ND.length r)=o:=by rw [hnx];unfold otI;rw [hk,hbd,c1];all_goals rfl
      exact ⟨mk5St PC ND D K c' t (otL (othK t D K ND) (e + 1) (otR (othK t D K ND) ND.length r)) (e + 1),(weak_b 3 rfl (by repeat' (first | exact rfl | exact we_rfl rfl | exact weL_cN rfl | exact weL_cN (congrArg cN hsk.symm) | exact we_int (nxt hlt (by omega)) | refine ⟨_,_,rfl,?_,?_⟩)) rfl rfl rfl (by repeat' (first | exact trivial | exact we_rfl rfl | exact weL_cN rfl | exact weL_cN (congrArg cN hsk.symm) | exact we_int (nxt hlt (by omega)) | refine ⟨⟨_,rfl,?_⟩,?_⟩))),ND.length - (e + 1),by omega,e + 1,c',rfl,by omega,by rw [hsk];exact ht',by rw [hsk];exact hf',rfl⟩
    ·have hge:e=ND.length:=by have:=hL2;simp [dNds_len] at this;omega
     subst hge;have hR:otL (othK t D K ND) ND.length (otR (othK t D K ND) ND.length r)=otR (othK t D K ND) ND.length (r + 1):=rfl;rw [hR] at ht' hf';refine ⟨mk4St PC ND D K c' t (otR (othK t D K ND) ND.length (r + 1)),(weak_b 3 rfl (by repeat' (first | exact rfl | exact we_rfl rfl | exact weL_cN rfl | refine ⟨_,_,rfl,?_,?_⟩)) rfl rfl rfl (by repeat' (first | exact trivial | exact we_rfl rfl | exact weL_cN rfl | refine ⟨⟨_,rfl,?_⟩,?_⟩))),if c'=true then ND.length + 1 - (r + 1) else 0,?_,r + 1,c',rfl,fun h=>by have:=ht' h;omega,fun h=>?_,rfl⟩
     ·rw [if_pos rfl];split<;>omega
     ·show otL _ _ (otR (othK t D K ND) ND.length (r + 1))=_;rw [hf' h,hR,hf' h]
   ·have hc:c=false:=hc;rw [otR_all (hcf hc)];exact ⟨.pt (mkD PC ND D K t (otR (othK t D K ND) ND.length ND.length)) 0,Or.inr ⟨0,_,rfl,Nat.zero_le _,rfl,mk_cc PC ND D K hTl (hrl _) rfl rfl⟩,rfl⟩
end
end Go.Proofs.YtadbccicdbopcaaGreat
set_option maxRecDepth 100000
namespace Go.Proofs.YtadbccicdbopcaaGreat
open Go Go.RowKit
namespace Dv
section
variable {X:Ctx} {st:St}
def renAll:List (Nat × Nat)->St->St
 | [],S=>S
 | p :: l,S=>renSt p.1 p.2 (renAll l S)
theorem renSt_len (i j:Nat) (S:St):(renSt i j S).bx.length=S.bx.length:=by
 show (swL i j (renO (swp i j) S.bx)).length=_;unfold swL;split
 ·rw [List.length_set,List.length_set,renO_length]
 ·exact renO_length _ _
theorem renAll_len (S:St):∀ l,(renAll l S).bx.length=S.bx.length
 | []=>rfl
 | p :: l=>by rw [renAll,renSt_len,renAll_len S l]
theorem ren_all (hX:X.bt=[]) {S:St} {a:Act} {w:World}:∀ {l:List (Nat × Nat)} {E:En},Rel X E (renAll l S) a w->(l.all fun p=>Nat.ble X.n0 p.1 && Nat.ble X.n0 p.2 && Nat.blt p.1 S.bx.length && Nat.blt p.2 S.bx.length)=true->∃ E2,Rel X E2 S a w
 | [],E,h,_=>⟨E,h⟩
 | p :: l,E,h,hc=>by
  simp only [List.all_cons,Bool.and_eq_true,Nat.ble_eq,Nat.blt_eq] at hc;obtain ⟨⟨⟨⟨h1,h2⟩,h3⟩,h4⟩,h5⟩:=hc;obtain ⟨E2,h6⟩:=ren_rel hX h h1 h2 (by rw [renAll_len];exact h3) (by rw [renAll_len];exact h4);exact ren_all hX h6 (by simpa using h5)
theorem drawG_l {id:Nat} {ops:Array Oper} {k:List It} (W:Nat->Bool) (T:Sched) (Ls:List (List (Nat × Nat))) (hm:X.P.follows .mixedOrders=true) (hc:(chkN ops && chkP ops W && chkA ops T (List.range ops.size) none)=true) (S:St)
  (h:goA X ⟨ops,W,[.rnd fun s=>s=S∨∃ l,l∈Ls/\SameSt s (renAll l S)],st,none⟩ T true st.sl st) (hL:(Ls.all fun l=>l.all fun p=>Nat.ble X.n0 p.1 && Nat.ble X.n0 p.2 && Nat.blt p.1 S.bx.length && Nat.blt p.2 S.bx.length)=true) (hk:go X 4000 k S) (hX:X.bt=[]:=by exact rfl):DrawG X id ops k st:=by
 intro E a w hr;have hr':=drew_rel hr;simp only [Bool.and_eq_true] at hc;obtain ⟨⟨hN,hP⟩,hT⟩:=hc;simp only [chkN,Bool.and_eq_true,List.all_eq_true,List.mem_range] at hN;have hs:=relD_start hr' (ops:=ops) (W:=W) (k:=[.rnd fun s=>s=S∨∃ l,l∈Ls/\SameSt s (renAll l S)]);have hrun:=goA_sound (D:=⟨⟨ops,W,[.rnd fun s=>s=S∨∃ l,l∈Ls/\SameSt s (renAll l S)],st,none⟩,E,w.drew⟩) hr'.env.em rfl T _ _ hT true st.sl st h E a w.drew hs;refine wp_region_any hm ?_;refine any_of_A (C:=CC E st.bx w.drew) (Q:=kq X [.rnd fun s=>s=S∨∃ l,l∈Ls/\SameSt s (renAll l S)] .normal) (Region.noSelect_spec hN.1) hP (fun i o ho e he hb=>?_) (fun a w hq=>?_) ops.size (Array.replicate ops.size false) (List.range ops.size) a _ (by simp) ?_ List.nodup_range ?_ (by simp) ⟨T,hT,hrun⟩
 ·have h1:=hN.2 i (Array.getElem?_eq_some_iff.1 ho).1;rw [ho] at h1;have h2:=List.all_eq_true.1 h1 e (by simpa using he);rw [hb] at h2;simpa using h2
 ·obtain ⟨st1,E1,hrel,hJ⟩:=hq;rcases hJ with rfl | ⟨l,hl,hJ⟩
  ·exact go_sound 4000 _ _ hk E1 a w hrel
  ·obtain ⟨E2,hrel2⟩:=ren_all hX (same_rel hrel hJ) (List.all_eq_true.1 hL l hl);exact go_sound 4000 _ _ hk E2 a w hrel2
 ·intro i;simp only [List.mem_range];constructor
  ·intro hi;exact ⟨hi,by simp [hi]⟩
  ·intro hi;exact hi.1
 ·intro k o ho hk;exact (hk (List.mem_range.2 (Array.getElem?_eq_some_iff.1 ho).1)).elim
theorem drawG_ls {id:Nat} {ops:Array Oper} {k:List It} (T:Sched) (Ls:List (List (Nat × Nat))) (hm:X.P.follows .mixedOrders=true) (hc:(chkN ops && chkP ops (stW ops) && chkA ops T (List.range ops.size) none)=true) (S:St)
  (h:goA X ⟨ops,stW ops,[.rnd fun s=>s=S∨∃ l,l∈Ls/\SameSt s (renAll l S)],st,none⟩ T true st.sl st) (hL:(Ls.all fun l=>l.all fun p=>Nat.ble X.n0 p.1 && Nat.ble X.n0 p.2 && Nat.blt p.1 S.bx.length && Nat.blt p.2 S.bx.length)=true) (hk:go X 4000 k S) (hX:X.bt=[]:=by exact rfl):DrawG X id ops k st:=
 drawG_l (stW ops) T Ls hm hc S h hL hk hX
end
end Dv
end Go.Proofs.YtadbccicdbopcaaGreat
