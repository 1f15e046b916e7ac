/- Part 7 of the proof: tree: slices.Index of steps, kid, clone, Get; tree.write, Raw; Written values: well formed; the document's Same on the same value; its Raw; The document's Kid, Get, Set of a value that fits; The document's Same of values, Set; ref25.Paths; The library's copyCheck of strings.Builder, laid at this program; The library's Builder at this program: what WriteString and String do to memory, exactly; Rules for the evaluator: the library's Builder, written and read; Rules for the evaluator: String of a Builder that holds nothing; The text of a path, of a row: plain, the program's, the document's; The document's rows of an audit; All rows of an audit, by the document; the law's bounds; Alike, differ: the document's; What is seen of a value: the program's erase, Erase, Hidden; Which values may be what is seen of one, plain; Which values may be what is seen of one: shell, May, outer, plain, the document's May; Which values may be what is seen of one: the program's fits, Fits, the document's Fits, Seeable; What is seen of a view: the program's narrow, the document's Narrow; The law of what may be seen; The program's Narrow, the document's Narrow; the law; The law of what is narrowed; The level above all; what is known of views; the law of the steps of erasing; Steps of a drawn region: elements of rows whose cells nobody else knows, read and written whole; The reference of chapters 15 and 17 on schemas: Placeless, Same, Great; The law of a type's text: the call returns true; The law of schemas without places: the call returns true; What is wrong with a schema without places; the nodes of its plan; Rules for the evaluator: a slice literal without elements, its cells known; Nodes whose edges may be written: slices.Clone, Plan.Node; The law that a plan's edges lead to nodes: rows of edges, with and without places; tree: walk, Paths; slices.Reverse of a row of steps that nobody else knows; Alike: the program's sees, edge, step, coarsely, differ; Alike: the program's differ; Alike: the program's both, Differ, Alike; The laws of Alike and Differ; The law of being alike, without the document's answer; What steps lead to unseen, plain; the program's Unseen; The document's Unseen, Hides; A value with another one where nothing is seen: plain; tree: put, Set; What is read of steps, and of steps with a value; The law of what is unseen. No condition. -/
import Derived.Shelf.Strings.OnBuilder
import Derived.Shelf.RegionOpenPlain
import Derived.Lib.Strings
import Derived.Lib.Slices
import Derived.Lib.Walk
import Derived.Lib.Builder
import Derived.Lib.AppendStr
import Derived.Lib.UnsafeStr
import Derived.WalkKit
import Derived.Laws.Externs
import Derived.Lib.Hide
import Derived.Test.YtadbccicdbopcaaGreatMg3
import Derived.Test.YtadbccicdbopcaaGreatMg4
import Derived.Test.YtadbccicdbopcaaGreatMg5
import Derived.Test.YtadbccicdbopcaaGreatMg6
set_option linter.all false
set_option maxRecDepth 100000
namespace Go.Proofs.YtadbccicdbopcaaGreat
open Go Go.RowKit Dv Tryz
theorem find_is {p:Nat->Bool}:∀ {n e:Nat},e < n->p e=true->(∀ e' < e,p e'=false)->(List.range n).find? p=some e
 | 0,e,h,_,_=>by omega
 | n + 1,e,h,h1,h2=>by
  rw [List.range_succ,List.find?_append];by_cases he:e < n
  ·rw [find_is he h1 h2];all_goals rfl
  ·have:e=n:=by omega
   subst this;have h3:(List.range e).find? p=none:=List.find?_eq_none.2 fun x hx=>by rw [h2 x (by simpa using hx)];simp
   rw [h3];simp [h1]
theorem find_no {p:Nat->Bool} {n:Nat} (h:∀ e < n,p e=false):(List.range n).find? p=none:=List.find?_eq_none.2 fun x hx=>by rw [h x (by simpa using hx)];simp
theorem stpE_comm (a b:Stp):stpE a b=stpE b a:=by
 rw [Bool.eq_iff_iff,stpE_iff,stpE_iff];exact eq_comm
abbrev ixSt (l:List Stp) (s:Stp) (e:Nat):St:=⟨[(0,⟨[],.sl 3 (dStps l) none⟩),(3,⟨[],.loc 0 0⟩),(6,⟨[],.sl 3 (dStps l) none⟩),(7,⟨[],.v (.int .i64 (dStps l).length)⟩),(8,⟨[],.v (.int .i64 e)⟩)],[dStp s],[]⟩
theorem index_spec (f:Nat->Stp) (n:Nat) (s:Stp) (hn:n<=1099511627776) :
  EvP Tryz.prog 219 [.sl 3 (dStps ((List.range n).map f)) none,.agg (dStp s)] (.v (.int .i64 (oz ((List.range n).find? fun e=>stpE (f e) s)))):=by
 have hdl:(dStps ((List.range n).map f)).length=n:=by rw [dStps_len];simp
 refine ev_go (P:=Tryz.prog) tt tt_ok 5000 19 [.tmp 4] Tryz.func219 rfl Tryz.ntmps219 rfl (nL rfl) (fun E9 w9 hn9 hm9=>?_);refine loop_i (fun j st=>∃ e:Nat,st=ixSt ((List.range n).map f) s e/\e<=n/\(∀ e' < e,stpE (f e') s=false)/\j=n - e) n (ixSt ((List.range n).map f) s 0) (weak_mk ⟨_,rfl⟩ wA rfl rfl rfl wB) ⟨0,rfl,by omega,(fun _ h=>by omega),by omega⟩ ?_;rintro _ st ⟨e,rfl,he,hno,rfl⟩;refine br (fun hL=>?_) (fun hL=>?_)
 ·have hlt:e < n:=by simpa [hdl] using hL
  have hx:((List.range n).map f)[e]? = some (f e):=by rw [List.getElem?_map,List.getElem?_range hlt];all_goals rfl
  refine drawG_i (fun _=>false) mo (by decide +kernel) ?_;refine ⟨_,⟨by omega,dStps_get hx⟩,_,stp_eql _ _ s (f e),?_⟩;refine br (fun c=>?_) (fun c=>?_)
  ·have c:stpE s (f e)=true:=c;have:=find_is (p:=fun e=>stpE (f e) s) hlt (by show stpE (f e) s=true;rw [stpE_comm];exact c) hno;rw [this];exact (rfl:_=_)
  ·have c:stpE s (f e)=false:=c
   exact ⟨ixSt ((List.range n).map f) s (e + 1),(weak_mk ⟨_,rfl⟩ wA rfl rfl rfl (wNB hlt)),n - (e + 1),by omega,e + 1,rfl,by omega,(fun e' h=>by
    rcases Nat.lt_or_ge e' e with h1 | h1
    ·exact hno e' h1
    ·have:e'=e:=by omega
     subst this
     rw [stpE_comm];exact c),rfl⟩
 ·have hge:n<=e:=by simpa [hdl] using hL
  have:=find_no (p:=fun e=>stpE (f e) s) (n:=n) fun e' h=>hno e' (by omega);rw [this];exact (rfl:_=_)
theorem steps0_spec (d:Nd) (q z:Int) (s:ByteArray):EvP Tryz.prog 218 [.agg (dNd d),.agg (dVal (.mk q z s []))] (.sl 3 [] none):=by
 obtain ⟨kind,at',lo,hi,most,names,es⟩:=d;refine ev_go (P:=Tryz.prog) tt tt_ok 5000 55 [.tmp 4] Tryz.func218 rfl Tryz.ntmps218 rfl (nL rfl) (fun E9 w9 hn9 hm9=>?_);refine loop_i (fun j st=>st=stsSt ⟨kind,at',lo,hi,most,names,es⟩ (.mk q z s []) 0 0) 0 (stsSt ⟨kind,at',lo,hi,most,names,es⟩ (.mk q z s []) 0 0) (weak_bt 2 ⟨0,188,3,none⟩ rfl rfl rfl (by repeat' (first | exact rfl | exact we_rfl rfl | exact we_tok (Nat.le_refl _) rfl | exact we_tok (Nat.le_refl _) rfl | refine ⟨_,_,rfl,?_,?_⟩)) rfl rfl wTB) rfl ?_;rintro _ st rfl;exact ⟨_,ax,rfl⟩
def kidR (o:Option (Nat × Val × Int)):DV:=match o with
 | some (e,_,j)=>.tup [.v (.int .i64 (e:Nat)),.v (.int .i64 j)]
 | none=>.tup [.v (.int .i64 (-1)),.v (.int .i64 (-1))]
theorem tsteps_spec {L:Nat} {ND:List Nd} (hok:∀ n∈ND,NdOK L ND.length n) {v:Val} (hv:v.wt<=1099511627776) {i:Int} {d:Nd} (hF:FitF ND v i d):EvP Tryz.prog 218 [.agg (dNd d),.agg (dVal v)] (.sl 3 (dStps (stpL d v)) none):=by
 have hN:=hok d (mG (nodeA_some hF.node).2);rcases Int.lt_or_le d.kind 5 with h5 | h5
 ·have h:=hF.leaf h5;obtain ⟨q,z,s,ks⟩:=v;simp only [Val.ks] at h;subst h;exact steps0_spec d q z s
 ·refine steps_spec d v hv hF.k h5 hN.k8 (fun c=>?_) (fun c=>?_)
  ·have:=(hF.kids h5).1;rw [<- this];unfold kidsL;rw [if_neg (by omega),if_pos c,List.length_map]
  ·obtain ⟨_,_,_,h3,h4,_⟩:=hF.tag c;exact ⟨h3,h4⟩
theorem kid_spec {S:Sch} {ND:List Nd} {PC:List DV} (hP:PlanR S ND PC) {v:Val} (hv:v.wt<=1099511627776) {i:Int} (hf:fitV ND v i=true) (s:Stp) :
  EvP Tryz.prog 113 [.pt PC 0,.v (.int .i64 i),.agg (dVal v),.agg (dStp s)] (kidR (stepV ND v i s)):=by
 obtain ⟨d,hF⟩:=fit_facts hP.ok hf
 have hsv:stepV ND v i s=match kidI d v s with | none=>none | some e=>match v.ks[e]?,(kidsL d v)[e]? with | some x,some j=>some (e,x,j) | _,_=>none:=by
  unfold stepV;rw [hF.node];all_goals rfl
 have hks:∀ e,kidI d v s=some e->∃ x j,v.ks[e]? = some x/\(kidsL d v)[e]? = some j/\5<=d.kind:=fun e he=>by
  have hlt:=(find_some he).1;have hx:v.ks[e]? = some v.ks[e]:=gE hlt;have h5:=kind5_of hP.ok hF hx;exact ⟨_,_,hx,gE (by rw [(hF.kids h5.1).1];exact hlt),h5.1⟩
 have hix:kidI d v s=(List.range v.ks.length).find? fun e=>stpE (stpR d v e) s:=rfl;have h1:=tsteps_spec hP.ok hv hF;have hkl:=wtVs_len v.ks;have hvw:v.wt=64 + v.s.size + wtVs v.ks:=by cases v;rw [Val.wt];all_goals rfl
 have h2:=index_spec (stpR d v) v.ks.length s (by omega);obtain ⟨h0,hg⟩:=nodeA_some hF.node;have hN:=hP.ok d (mG hg);have h3:=fun h5=>kids_spec hN h5 v hv;obtain ⟨j0,rfl⟩:∃ j:Nat,i=j:=⟨i.toNat,by omega⟩;have hg:ND[j0]? = some d:=by simpa using hg
 have hnode:=hP.node j0 d hg;rw [<- hix] at h2;rw [hsv];have hstl:stpL d v=(List.range v.ks.length).map (stpR d v):=rfl;rw [hstl] at h1;generalize (List.range v.ks.length).map (stpR d v)=SL at h1 h2;generalize kidI d v s=o at h2 hks ⊢;clear hsv;obtain ⟨q,z,t,ks⟩:=v;obtain ⟨kind,at',lo,hi,most,names,es⟩:=d;obtain ⟨sk,sn,ss⟩:=s;refine ev_go (P:=Tryz.prog) tt tt_ok 5000 38 [.tmp 8,.tmp 9] Tryz.func113 rfl Tryz.ntmps113 rfl (nL rfl) (fun E9 w9 hn9 hm9=>?_);refine call_p en100 (hnode) ax rfl ?_;refine drawG_i (fun _=>false) mo (by decide +kernel) ?_;refine callD_p en218 (h1) ax rfl ?_;refine callD_p en219 (h2) ax rfl ?_
 cases o with
 | none=>
  exact ⟨_,ax,rfl⟩
 | some e=>
  obtain ⟨x,j,hx,hj,h5⟩:=hks e rfl;refine call_p en110 (h3 h5) ax rfl ?_;refine drawG_i (fun _=>false) mo (by decide +kernel) ?_;refine ⟨_,⟨by simp [oz],by simp [oz];exact dZs_get hj⟩,?_⟩;simp only [hx,hj];exact ⟨_,ax,rfl⟩
abbrev zVal:List DV:=[.v (.int .i64 0),.v (.int .i64 0),.v (.string emptyB),.v (.slice none 0 0)]
abbrev zeroV:Val:=.mk 0 0 emptyB []
abbrev tcSt (v:Val) (n e:Nat):St:=
 ⟨[(1,⟨[],.loc 0 0⟩),(2,⟨[],.loc 1 0⟩),(3,⟨[],.sl 4 (dVals (v.ks.take e)) (some 0)⟩),(7,⟨[],.sl 4 (dVals v.ks) none⟩),(8,⟨[],.v (.int .i64 (dVals v.ks).length)⟩),(9,⟨[],.v (.int .i64 e)⟩)],[dVal v,zVal],[⟨n,59,4,none⟩]⟩
theorem clone_spec:∀ (k:Nat) (v:Val),v.wt<=k->v.wt<=1099511627776->EvP Tryz.prog 114 [.agg (dVal v)] (.agg (dVal v))
 | 0,v,h,_=>by have:=v.wt_pos;omega
 | k + 1,.mk q z s ks,h,hb=>by
  have hkl:=wtVs_len ks;have hdl:=dVals_len ks;rw [Val.wt] at h hb;refine ev_go (P:=Tryz.prog) tt tt_ok 5000 22 [.cell 2 59] Tryz.func114 rfl Tryz.ntmps114 rfl (nL rfl) (fun E9 w9 hn9 hm9=>?_);refine loop_i (fun j st=>∃ e n:Nat,st=tcSt (.mk q z s ks) n e/\n=e/\e<=ks.length/\j=ks.length - e) ks.length (tcSt (.mk q z s ks) 0 0) (weak_bt 2 ⟨0,59,4,none⟩ rfl rfl rfl (by repeat' (first | exact rfl | exact we_rfl rfl | exact we_tok (Nat.le_refl _) rfl | exact we_tok (Nat.le_refl _) rfl | refine ⟨_,_,rfl,?_,?_⟩)) rfl rfl wTB) ⟨0,0,rfl,rfl,by omega,by omega⟩ ?_;rintro _ st ⟨e,n,rfl,rfl,he,rfl⟩;refine br (fun hL=>?_) (fun hL=>?_)
  ·have hlt:n < ks.length:=by simpa [hdl,Val.ks] using hL
   obtain ⟨x,hx⟩:∃ x,ks[n]? = some x:=⟨_,gE hlt⟩;have hxw:=wtVs_mem (mG hx);have hw:=clone_spec k x (by omega) (by omega);have hsn:=dVals_snoc hx;have hml:(dVals (ks.take n)).length=n:=by rw [dVals_len,List.length_take];omega
   obtain ⟨xk,xn,xs,xl⟩:=x;refine ⟨_,⟨by omega,dVals_get hx⟩,?_⟩;refine call_p en114 (hw) ax rfl ?_;refine ⟨hml,⟨by simp only [Val.ks];rw [hml];simp [maxLen];omega,by simp only [Val.ks];rw [hml];simp;omega⟩,?_⟩;exact ⟨tcSt (.mk q z s ks) (n + 1) (n + 1),(weak_b 2 rfl (wSA hlt hsn) rfl rfl rfl (wSB hlt hsn)),ks.length - (n + 1),by omega,n + 1,n + 1,rfl,rfl,by omega,rfl⟩
  ·have hge:n=ks.length:=by
    have:=hL;simp [hdl,Val.ks] at this;omega
   subst hge;have h1:dVals (Val.mk q z s ks).ks=dVals ks:=rfl;have h2:ks.take ks.length=ks:=List.take_length;have h3:(Val.mk q z s ks).ks.take ks.length=ks:=h2;rw [h3];exact ⟨_,ax,rfl⟩
abbrev coSt (v:Val) (cs:List DV) (n e:Nat):St:=
 ⟨[(1,⟨[],.loc 0 0⟩),(2,⟨[],.loc 1 0⟩),(3,⟨[],.sl 0 (List.replicate e []) (some 0)⟩),(7,⟨[],.sl 4 (dVals v.ks) none⟩),(8,⟨[],.v (.int .i64 (dVals v.ks).length)⟩),(9,⟨[],.v (.int .i64 e)⟩)],[dVal v,zVal],[⟨n,59,4,some cs⟩]⟩
theorem clone_own (v:Val) (hv:v.wt<=1099511627776):EvF Tryz.prog 114 [.agg (dVal v)] [] [] (fun r _ tks=>r = .agg [.v (.int .i64 v.k),.v (.int .i64 v.n),.v (.string v.s),.sl 0 (List.replicate v.ks.length []) (some 0)]/\tks=[⟨v.ks.length,59,4,some (dVals v.ks).flatten⟩]):=by
 obtain ⟨q,z,s,ks⟩:=v;have hkl:=wtVs_len ks;have hdl:=dVals_len ks;rw [Val.wt] at hv;refine evB_gom (s:=false) (bt:=[]) (mu:=[]) (hbt:=fun p hp=>by cases hp) (fr:=true) (P:=Tryz.prog) tt tt_ok 5000 22 [.cell 2 59] Tryz.func114 rfl Tryz.ntmps114 rfl (nL rfl) (fun E9 w9 hn9 hm9=>?_);refine loop_i (fun j st=>∃ (e:Nat) (cs:List DV),st=coSt (.mk q z s ks) cs e e/\cs=(dVals (ks.take e)).flatten/\e<=ks.length/\j=ks.length - e) ks.length (coSt (.mk q z s ks) [] 0 0) (weak_bt 2 ⟨0,59,4,some []⟩ rfl rfl rfl (by repeat' (first | exact rfl | exact we_rfl rfl | exact we_tok (Nat.le_refl _) rfl | exact we_tok (Nat.le_refl _) rfl | refine ⟨_,_,rfl,?_,?_⟩)) rfl rfl wTB) ⟨0,[],rfl,rfl,by omega,by omega⟩ ?_;rintro _ st ⟨e,cs,rfl,hcs,he,rfl⟩;refine br (fun hL=>?_) (fun hL=>?_)
 ·have hlt:e < ks.length:=by simpa [hdl,Val.ks] using hL
  obtain ⟨x,hx⟩:∃ x,ks[e]? = some x:=⟨_,gE hlt⟩;have hxw:=wtVs_mem (mG hx);have hw:=clone_spec _ x (Nat.le_refl _) (by omega);have hsn:=congrArg List.flatten (dVals_snoc hx);rw [List.flatten_append,<- hcs] at hsn;obtain ⟨xk,xn,xs,xl⟩:=x;refine ⟨_,⟨by omega,dVals_get hx⟩,?_⟩;refine call_p en114 (hw) ax rfl ?_;refine ⟨⟨⟨List.length_replicate,by simp⟩,by simp [maxLen];omega,by simp;omega⟩,?_⟩;exact ⟨coSt (.mk q z s ks) _ (e + 1) (e + 1),(weak_b 2 rfl (wNA hlt) rfl rfl rfl (wNB hlt)),ks.length - (e + 1),by omega,e + 1,_,rfl,hsn,by omega,rfl⟩
 ·have hge:e=ks.length:=by
   have:=hL;simp [hdl,Val.ks] at this;omega
  subst hge;rw [List.take_length] at hcs;subst hcs;exact ⟨_,[],aL,rfl,rfl,rfl⟩
def resG (o:Option (Val × Int)):DV:=match o with
 | some (x,j)=>.tup [.agg (dVal x),.v (.int .i64 j),.v (.bool true)]
 | none=>.tup [.agg (dVal zeroV),.v (.int .i64 (-1)),.v (.bool false)]
theorem sl_tail (s:Stp) (p:List Stp):DV.sl 3 (((dStps (s :: p)).take (((dStps (s :: p)).length:Nat):Int).toNat).drop (1:Int).toNat) none = .sl 3 (dStps p) none:=by
 rw [Int.toNat_natCast,List.take_length];all_goals rfl
abbrev gtSt (PC:List DV) (p:List Stp) (v:Val) (i:Int) (e:Nat):St:=
 ⟨[(0,⟨[],.pt PC 0⟩),(1,⟨[],.v (.int .i64 i)⟩),(6,⟨[],.loc 0 0⟩),(8,⟨[],.loc 1 0⟩),(21,⟨[],.sl 3 (dStps p) none⟩),(22,⟨[],.v (.int .i64 (dStps p).length)⟩),(23,⟨[],.v (.int .i64 e)⟩)],[dVal v,zVal],[]⟩
theorem tget_spec {S:Sch} {ND:List Nd} {PC:List DV} (hP:PlanR S ND PC) {v:Val} (hv:v.wt<=1099511627776) (i:Int) (p:List Stp) (hp:p.length<=1099511627776) :
  EvP Tryz.prog 39 [.pt PC 0,.v (.int .i64 i),.agg (dVal v),.sl 3 (dStps p) none] (resG (if fitV ND v i=true then getV ND p v i else none)):=by
 have hfit:=tfits_spec hP _ v (Nat.le_refl _) hv i;have hdp:=dStps_len p
 have hgo:∀ e vc ic,e<=p.length->getV ND (p.drop e) vc ic=match p[e]? with | none=>some (vc,ic) | some s=>match stepV ND vc ic s with | none=>none | some (_,x,j)=>getV ND (p.drop (e + 1)) x j:=fun e vc ic he=>by
  cases hs:p[e]? with
  | none=>rw [List.drop_eq_nil_of_le (List.getElem?_eq_none_iff.1 hs)];all_goals rfl
  | some s=>
   obtain ⟨h1,h2⟩:=List.getElem?_eq_some_iff.1 hs;rw [List.drop_eq_getElem_cons h1,h2,getV];all_goals rfl
 generalize hR:(if fitV ND v i=true then getV ND p v i else none)=R;have hvq:dVal v=dVal v:=rfl;generalize hvV:v=V at *;obtain ⟨q,z,s,ks⟩:=V;refine ev_go (P:=Tryz.prog) tt tt_ok 5000 48 [.cell 8 59,.tmp 9,.tmp 10] Tryz.func39 rfl Tryz.ntmps39 rfl (nL rfl) (fun E9 w9 hn9 hm9=>?_);refine call_p en36 (hfit) ax rfl ?_;refine br (fun c=>?_) (fun c=>?_)
 ·have c:fitV ND (.mk q z s ks) i=false:=by simpa using c
  rw [c] at hR;subst hR;exact ⟨_,ax,rfl⟩
 have c:fitV ND (.mk q z s ks) i=true:=by simpa using c
 rw [if_pos c] at hR;refine loop_i (fun j st=>∃ (e:Nat) (vc:Val) (ic:Int),st=gtSt PC p vc ic e/\e<=p.length/\getV ND (p.drop e) vc ic=R/\fitV ND vc ic=true/\vc.wt<=1099511627776/\j=p.length - e) p.length (gtSt PC p (.mk q z s ks) i 0) (weak_b 2 rfl (by repeat' (first | exact rfl | exact we_rfl rfl | exact we_rfl rfl | refine ⟨_,_,rfl,?_,?_⟩)) rfl rfl rfl (by repeat' (first | exact trivial | exact we_rfl rfl | exact we_rfl rfl | refine ⟨⟨_,rfl,?_⟩,?_⟩))) ⟨0,_,_,rfl,by omega,hR,c,hv,by omega⟩ ?_;rintro _ st ⟨e,vc,ic,rfl,he,hg,hfc,hvc,rfl⟩;have hgo:=hgo e vc ic he;rw [hg] at hgo;refine br (fun hL=>?_) (fun hL=>?_)
 ·have hlt:e < p.length:=by simpa [hdp] using hL
  obtain ⟨y,hy⟩:∃ y,p[e]? = some y:=⟨_,gE hlt⟩;rw [hy] at hgo;simp only at hgo;have hk:=kid_spec hP hvc hfc y;have hsf:=@step_fit _ _ hP.ok vc ic hfc y;have hss:=@stepV_some ND vc ic y;generalize stepV ND vc ic y=o at hk hgo hsf hss;obtain ⟨yk,yn,ys⟩:=y;obtain ⟨ck,cn,cs,cks⟩:=vc;refine ⟨_,⟨by omega,dStps_get hy⟩,?_⟩;refine call_p en113 (hk) ax rfl ?_
  cases o with
  | none=>
   simp only at hgo;subst hgo;exact ⟨_,ax,rfl⟩
  | some o=>
   obtain ⟨e2,x,j⟩:=o;obtain ⟨d,_,_,hx,_⟩:=hss rfl;have hxf:=hsf rfl;simp only [Val.ks] at hx;have hxw:=wtVs_mem (mG hx);rw [Val.wt] at hvc;simp only at hgo;refine ⟨_,⟨by omega,by simpa using dVals_get hx⟩,?_⟩;obtain ⟨xk,xn,xs,xl⟩:=x;exact ⟨gtSt PC p (.mk xk xn xs xl) j (e + 1),(weak_b 2 rfl (wNA hlt) rfl rfl rfl (wNB hlt)),p.length - (e + 1),by omega,e + 1,_,_,rfl,by omega,hgo.symm,hxf,by omega,rfl⟩
 ·have hge:e=p.length:=by
   have:=hL;simp [hdp] at this;omega
  have:p[e]? = none:=List.getElem?_eq_none (by omega);rw [this] at hgo;simp only at hgo;subst hgo;have hw:=clone_spec _ vc (Nat.le_refl _) hvc;obtain ⟨ck,cn,cs,cks⟩:=vc;refine call_p en114 (hw) ax rfl ?_;exact ⟨_,ax,rfl⟩
end Go.Proofs.YtadbccicdbopcaaGreat
set_option maxRecDepth 100000
namespace Go.Proofs.YtadbccicdbopcaaGreat
open Go Go.RowKit Dv Tryz
end Go.Proofs.YtadbccicdbopcaaGreat
set_option maxRecDepth 100000
namespace Go.Proofs.YtadbccicdbopcaaGreat
open Go Go.RowKit Dv Tryz
theorem toR_kids {ND:List Nd} {d:Nd} {v:Val} {i:Int} (hd:nodeA ND i=some d) (hf:fitV ND v i=true) (h5:5<=d.kind) (h8:d.kind<=8) {e:Nat} {x:Int} (h:(kidsL d v)[e]? = some x):toR d v e=x:=by
 have hB:kidsB d v=true:=by
  obtain ⟨q,z,s,ks⟩:=v;rw [fitV,hd] at hf;simp only at hf;rw [if_neg (by omega),Bool.and_eq_true] at hf;exact hf.1
 unfold kidsB at hB;unfold kidsL at h;unfold toR;by_cases c:d.kind=5∨d.kind=6
 ·rw [if_pos c] at hB h;simp only [Bool.and_eq_true,decide_eq_true_eq] at hB;have hlt:e < v.ks.length:=by have:=(gS h).1;simpa using this
  rw [List.getElem?_replicate,if_pos hlt] at h;simp only [oI] at h;have h2:=hB.2;by_cases c5:d.kind=5
  ·rw [if_neg (by omega)] at h2;rw [if_pos c5,if_pos (by omega),h]
  ·rw [if_pos (by omega)] at h2;rw [if_neg c5,if_pos (by omega),if_pos (by omega),h]
 ·rw [if_neg c] at hB h;rw [if_neg (by omega),if_neg (by omega)];by_cases c7:d.kind=7
  ·rw [if_pos c7] at h;rw [if_pos c7];rw [List.getElem?_map] at h
   cases hx:d.edges[e]? with
   | none=>rw [hx] at h;cases h
   | some y=>rw [hx] at h;simpa using h
  ·rw [if_neg c7] at h hB;rw [if_neg c7]
   cases ht:tagE d v with
   | none=>rw [ht] at hB;cases hB
   | some y=>
    rw [ht] at h;have ht2:=ht;unfold tagE at ht2;split at ht2
    ·rename_i hr;have hk8:d.kind=8:=by omega
     simp only at h;split at h
     ·simp at h
     ·have he:e=0:=by have:=(gS h).1;simp at this;omega
      subst he;rw [if_pos hk8,if_pos ⟨by omega,hr.2⟩,ht2];simpa using h
    ·cases ht2
section
variable (a b:Nat) (A B:List (List DV)) (rt:Int) {ND:List Nd} {L:Nat} (hok:∀ n∈ND,NdOK L ND.length n)
include hok
end
section
variable (a b:Nat) (A B:List (List DV)) (rt:Int) {ND:List Nd} {L:Nat} (hok:∀ n∈ND,NdOK L ND.length n)
include hok
end
end Go.Proofs.YtadbccicdbopcaaGreat
set_option maxRecDepth 100000
namespace Go.Proofs.YtadbccicdbopcaaGreat
open Go Go.RowKit Dv Tryz
end Go.Proofs.YtadbccicdbopcaaGreat
set_option maxRecDepth 100000
namespace Go.Proofs
open Go.Shelf
end Go.Proofs
set_option maxRecDepth 100000
namespace Go.Proofs.YtadbccicdbopcaaGreat
open Go Go.RowKit Go.Lib Dv Tryz
end Go.Proofs.YtadbccicdbopcaaGreat
set_option maxRecDepth 100000
namespace Go.Proofs.YtadbccicdbopcaaGreat
open Go Go.RowKit Dv Tryz
end Go.Proofs.YtadbccicdbopcaaGreat
set_option maxRecDepth 100000
namespace Go.Proofs.YtadbccicdbopcaaGreat
open Go Go.RowKit Dv Tryz
end Go.Proofs.YtadbccicdbopcaaGreat
set_option maxRecDepth 100000
namespace Go.Proofs.YtadbccicdbopcaaGreat
open Go Go.RowKit Dv Tryz
end Go.Proofs.YtadbccicdbopcaaGreat
set_option maxRecDepth 100000
set_option maxHeartbeats 4000000
namespace Go.Proofs.YtadbccicdbopcaaGreat
open Go Go.RowKit Dv Tryz
section
variable (lv:List Wd) (f:Nat->Nat->Bool) (ND:List Nd) (z:Int) (hL:LatOK f lv.length) (hn:lv.length<=32) (hok:∀ n∈ND,NdOK lv.length ND.length n) (hsz:∀ n∈ND,n.edges.length<=1099511627776) (obs:Nat) (ho:obs < lv.length) (dep:Nat) (hdep:dep<=64)
include hL hn hok hsz ho hdep
end
section
variable (lv:List Wd) (f:Nat->Nat->Bool) (ND:List Nd) (root:Nat) (hroot:root < ND.length) (hL:LatOK f lv.length) (hn:lv.length<=32) (hok:∀ n∈ND,NdOK lv.length ND.length n) (hsz:∀ n∈ND,n.edges.length<=1099511627776) (obs:Nat) (ho:obs < lv.length)
include hroot hL hn hok hsz ho
end
def dfD:Option (List Stp)->DV
 | some p=>.tup [.sl 3 (dStps p) none,.v (.bool true)]
 | none=>.tup [.v (.slice none 0 0),.v (.bool false)]
section
variable (lv:List Wd) (f:Nat->Nat->Bool) (ND:List Nd) (rt:Nat) (hL:LatOK f lv.length) (hn:lv.length<=32) (hok:∀ n∈ND,NdOK lv.length ND.length n) (hsz:∀ n∈ND,n.edges.length<=1099511627776) (hrn:∀ n∈ND,rngN n)
include hL hn hok hsz hrn
def dfF (ND:List Nd) (f:Nat->Nat->Bool) (n rt:Nat) (o:Int) (a b:Val):Option (List Stp):=if 0<=o/\o < n/\fitV ND a rt=true/\fitV ND b rt=true then diffV ND f n o.toNat a b rt (botF f n) else none
def akF (ND:List Nd) (f:Nat->Nat->Bool) (n rt:Nat) (o:Int) (a b:Val):Bool:=decide (0<=o/\o < n) && fitV ND a rt && fitV ND b rt && (diffV ND f n o.toNat a b rt (botF f n)).isNone
end
section
variable {S:Sch} {ND:List Nd} {PC LC:List DV} (hP:PlanR S ND PC) (hlat:EvP Tryz.prog 53 [.pt PC 0] (.pt LC 0)) (hR:LatR S.levels.length (leqS S) (nmTx S.levels) LC) (hrS:∀ n∈ND,rngN n) (hsz:∀ n∈ND,n.edges.length<=1099511627776) (rt:Nat) (hrt:resRoot S=rt)
include hlat hR
end
section
variable (ND:List Nd) (f:Nat->Nat->Bool) (L obs:Nat)
end
section
variable {ND:List Nd} {f:Nat->Nat->Bool} {L obs:Nat}
theorem howF_top (d:Nd) (e:Ed) (a:Nat) (h:f (undF f L d e a) obs=true):howF f L obs d e a=2:=by
 rw [howF_eq,if_pos h]
mutual
theorem erase_top (hok:∀ n∈ND,NdOK L ND.length n) (hL:LatOK f L) (htop:∀ a,a < L->f a obs=true):∀ (x:Val) (i:Int) (a:Nat),a < L->fitV ND x i=true->eraseV ND f L obs x i a=x
 | .mk k n s ks,i,a,ha,hx=>by
  obtain ⟨d,hF⟩:=fit_facts hok hx;rw [eraseV,hF.node];simp only;rw [erase_tops hok hL htop ks d n a 0 ha (hok d (mG (nodeA_some hF.node).2)) (fun m x hx1=>by rw [Nat.zero_add];exact kids_ok hok hx hF hx1)]
theorem erase_tops (hok:∀ n∈ND,NdOK L ND.length n) (hL:LatOK f L) (htop:∀ a,a < L->f a obs=true):∀ (ks:List Val) (d:Nd) (z:Int) (a j:Nat),a < L->NdOK L ND.length d->(∀ m x,ks[m]? = some x->∃ e,KidOK ND d z (j + m) x e) ->
  eraseVs ND f L obs ks d z a j=ks
 | [],_,_,_,_,_,_,_=>by rw [eraseVs]
 | x :: r,d,z,a,j,ha,hN,hk=>by
  obtain ⟨e,he⟩:=hk 0 x rfl;rw [Nat.add_zero] at he
  have ih:=erase_tops hok hL htop r d z a (j + 1) ha hN (fun m x h1=>by
   have:=hk (m + 1) x h1
   rwa [show j + (m + 1)=j + 1 + m by omega] at this)
  have hu:=undF_lt hL hN he.mem ha;rw [eraseVs,he.edge,ih];simp only;rw [if_pos (howF_top d e a (htop _ hu)),erase_top hok hL htop x e.to _ hu he.fit]
end
end
end Go.Proofs.YtadbccicdbopcaaGreat
set_option maxRecDepth 100000
namespace Go.Proofs.YtadbccicdbopcaaGreat
open Go Go.RowKit Dv Tryz
end Go.Proofs.YtadbccicdbopcaaGreat
set_option maxRecDepth 100000
namespace Go.Proofs.YtadbccicdbopcaaGreat
open Go Go.RowKit Dv Tryz
end Go.Proofs.YtadbccicdbopcaaGreat
set_option maxRecDepth 100000
namespace Go.Proofs.YtadbccicdbopcaaGreat
open Go Go.RowKit Dv Tryz
section
variable {ND:List Nd} {f:Nat->Nat->Bool} {L obs o:Nat}
end
end Go.Proofs.YtadbccicdbopcaaGreat
set_option maxRecDepth 100000
namespace Go.Proofs.YtadbccicdbopcaaGreat
open Go Go.RowKit Dv Tryz
end Go.Proofs.YtadbccicdbopcaaGreat
set_option maxRecDepth 100000
namespace Go.Proofs.YtadbccicdbopcaaGreat
open Go Go.RowKit Dv Tryz
end Go.Proofs.YtadbccicdbopcaaGreat
set_option maxRecDepth 100000
namespace Go.Proofs.YtadbccicdbopcaaGreat
open Go Go.RowKit Dv Tryz
end Go.Proofs.YtadbccicdbopcaaGreat
set_option maxRecDepth 100000
namespace Go.Proofs.YtadbccicdbopcaaGreat
open Go Go.RowKit Dv Tryz
def topF (f:Nat->Nat->Bool) (n:Nat):Nat->Nat
 | 0=>0
 | e + 1=>jnF f n (topF f n e) e
theorem topF_le {f:Nat->Nat->Bool} {n:Nat} (hL:LatOK f n):∀ e,e<=n->topF f n e < n/\∀ x,x < e->f x (topF f n e)=true
 | 0,_=>⟨hL.pos,fun _ h=>by omega⟩
 | e + 1,he=>by
  obtain ⟨h1,h2⟩:=topF_le hL e (by omega);obtain ⟨g1,g2,g3,_⟩:=joinN_spec (jnF_some hL h1 (show e < n by omega));refine ⟨g1,fun x hx=>?_⟩;rcases Nat.lt_succ_iff_lt_or_eq.1 hx with hx | rfl
  ·exact hL.tr x _ _ (by omega) h1 g1 (h2 x hx) g2
  ·exact g3
abbrev topSt (L:List DV) (n b e:Nat):St:=
 ⟨[(0,⟨[],.pt L 0⟩),(3,⟨[],.v (.int .i64 b)⟩),(9,⟨[],.v (.int .i64 n)⟩),(10,⟨[],.v (.int .i64 e)⟩)],[],[]⟩
theorem ltop_spec {n:Nat} {f:Nat->Nat->Bool} {names:List ByteArray} {LC:List DV} (hR:LatR n f names LC):EvP Tryz.prog 54 [.pt LC 0] (.v (.int .i64 (topF f n n:Nat))):=by
 have hlen:=hR.len;have hpos:=hR.ok.pos;have hn:=hR.n32;refine ev_go (P:=Tryz.prog) tt tt_ok 5000 19 [.tmp 2] Tryz.func54 rfl Tryz.ntmps54 rfl (nL rfl) (fun E9 w9 hn9 hm9=>?_);refine call_p en139 (hlen) ax rfl ?_;refine br (fun g=>?_) (fun g=>?_)
 ·exfalso;simp at g;omega
 refine call_p en139 (hlen) ax rfl ?_;refine loop_i (fun j st=>∃ e:Nat,st=topSt LC n (topF f n e) e/\e<=n/\j=n - e) n (topSt LC n (topF f n 0) 0) (weak_mk ⟨_,rfl⟩ wA rfl rfl rfl wB) ⟨0,rfl,by omega,by omega⟩ ?_;rintro j st ⟨e,rfl,he,rfl⟩;refine br (fun hL'=>?_) (fun hL'=>?_)
 ·have hlt:e < n:=by have:=hL';simp at this;exact this
  refine call_p en143 (hR.join _ _ (topF_le hR.ok e he).1 hlt) ax rfl ?_;exact ⟨topSt LC n (topF f n (e + 1)) (e + 1),(weak_mk ⟨_,rfl⟩ wA rfl rfl rfl (wNB hlt)),n - (e + 1),by omega,e + 1,rfl,by omega,rfl⟩
 ·have hge:e=n:=by have:=hL';simp at this;omega
  subst hge;exact (rfl:_=_)
section
variable {ND:List Nd} {f:Nat->Nat->Bool} {L obs:Nat}
end
end Go.Proofs.YtadbccicdbopcaaGreat
namespace Go.Proofs.YtadbccicdbopcaaGreat
namespace Dv
open Go Go.RowKit
section
variable {X:Ctx} {st:St} {k:List It} {E:En} {a:Act} {w:World} {ops:Array Oper} {C:World->Prop} {Q:Act->World->Prop} {W:Nat->Bool} {r:List Nat}
theorem runT_own_ld {o1 o2:Oper} {i1 i2 d1 d2 kt t ty et e by' m ety nn:Nat} {bb:Bool} {zz:List Value} {z:Int} {kd:IntKind} {es:List (List DV)} {cs:List DV} {s ix:Operand} {d':DV}
  (hR:Rel X E st a w) (g1:ops[i1]? = some o1) (g2:ops[i2]? = some o2) (h1:o1.op = .indexAddr t s ix/\o1.dst=some d1/\o1.guard=none) (h2:o2.op = .load ty (.tmp d1)/\o2.dst=some d2/\o2.guard=none)
  (hd1:okD X.nt st.sl (some d1)=true) (hd2:okD X.nt ((d1,⟨[],.pt [] 0⟩) :: st.sl) (some d2)=true)
  (hs:rv st [] s=some (.sl 0 es (some kt))) (hi:rv st [] ix=some (.v (.int kd z))) (hT:X.T.find t=some ⟨nn,bb,.sl et e by',zz⟩) (hq:st.tk[kt]? = some ⟨m,ety,e,some cs⟩) (hes:es.length=m) (hz:0<=z/\z < m)
  (hl:cellsT X.T ty cs (z.toNat * e)=some d') (hC:∀ w',C w' -> w'=w) (hCw:C w)
  (hk:∀ a',Rel X E ⟨(d2,⟨[],d'⟩) :: (d1,⟨[],.pt [] 0⟩) :: st.sl,st.bx,st.tk⟩ a' w->runT X.P ops W C Q r a' w):runT X.P ops W C Q (i1 :: i2 :: r) a w:=by
 have hrl:=hR.rl;have e2:=rv_int_eq (sl_val hrl hi);obtain ⟨g,cap,cur,e1,hq2,hy,hw0,hs0,hcl,hrc,hnc,hcm,hgb,hgc⟩:=own_row hR (sl_val hrl hs) hq hes (by omega);have hE1:isE o1.op=false:=by rw [h1.1];all_goals rfl
 have hL1:isL o1.op=false:=by rw [h1.1];all_goals rfl
 have hE2:isE o2.op=false:=by rw [h2.1];all_goals rfl
 have hr1:Rel X E ⟨(d1,⟨[],.pt [] 0⟩) :: st.sl,st.bx,st.tk⟩ (a.put (some d1) (.pointer (some ⟨g,z.toNat * e,none⟩))) w:=put_rel hR hd1 (.pt [] 0) _ (by unfold Rv;exact ⟨g,z.toNat * e,rfl,by simp only [RvAt]⟩)
 have ht1:(a.put (some d1) (.pointer (some ⟨g,z.toNat * e,none⟩))).eval (.tmp d1) = .pointer (some ⟨g,z.toNat * e,none⟩):=by
  simp only [okD,Bool.and_eq_true,Nat.blt_eq] at hd1;simp [Act.eval,Act.put,hR.sz,hd1.1]
 simp only [runT,g1,hE1,Bool.false_eq_true,if_false];refine ⟨.pointer (some ⟨g,z.toNat * e,none⟩),.inl ⟨wanted_none h1.2.2,fun w9 _=>own_idx h1.1 e1 e2 hT hz w9⟩,fun h9=>(by rw [hL1] at h9;cases h9),?_⟩;rw [h1.2.1];generalize a.put (some d1) (.pointer (some ⟨g,z.toNat * e,none⟩))=a1 at hr1 ht1;obtain ⟨v,hv,hld⟩:=load_cells X.hT hrc (b:=g) (p:=0) hl
 have hld:=hld w fun j u hj=>by
  rw [cell_blk hw0,Nat.zero_add];rw [List.getElem?_take] at hj;split at hj
  ·simpa using hj
  ·cases hj
 rw [Nat.zero_add] at hld;simp only [g2,hE2,Bool.false_eq_true,if_false];refine ⟨v,.inl ⟨wanted_none h2.2.2,fun w9 h9=>?_⟩,fun _=>hCw,?_⟩
 ·have h10:=hC w9 (h9 (by rw [h2.1];rfl));subst h10;simp only [execOp,h2.1,ht1,Sem.run_bind,Instr.loadAt,Instr.sureAddr,Sem.run_pure,Result.andThen_ok,hld]
 ·rw [h2.2.1];exact hk _ (put_rel hr1 hd2 d' v (Rv.mono (Ext.cl_self E) hv))
theorem runT_own_st {o1 o2:Oper} {i1 i2 d1 kt t ty et e by' m ety nn:Nat} {bb:Bool} {zz:List Value} {z:Int} {kd:IntKind} {es:List (List DV)} {cs cs':List DV} {s ix x:Operand} {dv:DV}
  (hR:Rel X E st a w) (g1:ops[i1]? = some o1) (g2:ops[i2]? = some o2) (h1:o1.op = .indexAddr t s ix/\o1.dst=some d1/\o1.guard=none) (h2:o2.op = .store ty (.tmp d1) x/\o2.dst=none/\o2.guard=none)
  (hd1:okD X.nt st.sl (some d1)=true)
  (hs:rv st [] s=some (.sl 0 es (some kt))) (hi:rv st [] ix=some (.v (.int kd z))) (hx:rv ⟨(d1,⟨[],.pt [] 0⟩) :: st.sl,st.bx,st.tk⟩ [] x=some dv) (hdv:eraL dv.cells (fun l=>some l)=some cs') (hdc:dv.cells.length=e) (he0:0 < e)
  (hT:X.T.find t=some ⟨nn,bb,.sl et e by',zz⟩) (hsz:X.T.sz ty=some e) (hq:st.tk[kt]? = some ⟨m,ety,e,some cs⟩) (hes:es.length=m) (hz:0<=z/\z < m) (hW2:W i2=true)
  (hk:∀ a' E' w',Rel X E' ⟨(d1,⟨[],.pt [] 0⟩) :: st.sl,st.bx,st.tk.set kt ⟨m,ety,e,some (cs.take (z.toNat * e) ++ cs' ++ cs.drop (z.toNat * e + e))⟩⟩ a' w' -> runT X.P ops W C Q r a' w')
  (hst:X.still=false:=by exact rfl):runT X.P ops W C Q (i1 :: i2 :: r) a w:=by
 have hrl:=hR.rl;have e2:=rv_int_eq (sl_val hrl hi);have hv:=sl_val hrl hs;obtain ⟨g,cap,cur,e1,_⟩:=own_row hR hv hq hes (by omega);have hE1:isE o1.op=false:=by rw [h1.1];all_goals rfl
 have hL1:isL o1.op=false:=by rw [h1.1];all_goals rfl
 have hE2:isE o2.op=true:=by rw [h2.1];all_goals rfl
 have hr1:Rel X E ⟨(d1,⟨[],.pt [] 0⟩) :: st.sl,st.bx,st.tk⟩ (a.put (some d1) (.pointer (some ⟨g,z.toNat * e,none⟩))) w:=put_rel hR hd1 (.pt [] 0) _ (by unfold Rv;exact ⟨g,z.toNat * e,rfl,by simp only [RvAt]⟩)
 have ht1:(a.put (some d1) (.pointer (some ⟨g,z.toNat * e,none⟩))).eval (.tmp d1) = .pointer (some ⟨g,z.toNat * e,none⟩):=by
  simp only [okD,Bool.and_eq_true,Nat.blt_eq] at hd1;simp [Act.eval,Act.put,hR.sz,hd1.1]
 simp only [runT,g1,hE1,Bool.false_eq_true,if_false];refine ⟨.pointer (some ⟨g,z.toNat * e,none⟩),.inl ⟨wanted_none h1.2.2,fun w9 _=>own_idx h1.1 e1 e2 hT hz w9⟩,fun h9=>(by rw [hL1] at h9;cases h9),?_⟩;rw [h1.2.1];generalize a.put (some d1) (.pointer (some ⟨g,z.toNat * e,none⟩))=a1 at hr1 ht1;have hwn:=wanted_none (ops:=ops) (a:=a1) h2.2.2;simp only [g2,hE2,if_true,stepX,hwn];obtain ⟨w2,E2,hrun,hrel2⟩:=own_sto hr1 h2.1 ht1 hv e1 hx hdv hdc he0 hsz hq hes hz hst;refine wq_unit hrun ?_;rw [h2.2.1];exact ⟨(fun hw=>by rw [hW2] at hw;cases hw),hk _ _ _ hrel2⟩
theorem wk_ownT {t k n ty e:Nat} {es ns:List (List DV)} (hq:st.tk[k]? = some ⟨n,ty,e,some ns.flatten⟩) (hns:∀ x∈ns,x.length=e) (hnl:ns.length=n) (ht:get st.sl t=some ⟨[],.sl 0 es (some k)⟩) (hes:es.length=n) :
  Wk X st ⟨(t,⟨[],.sl e ns none⟩) :: st.sl,st.bx,st.tk.set k ⟨n,ty,e,none⟩⟩:=by
 intro E a w h;obtain ⟨E',hr,hx,hrow⟩:=own_frz h hq rfl hns hnl;refine ⟨E',{ hr with tm:=?_ }⟩;intro i y hy;rw [get_cons] at hy;split at hy
 ·rename_i hti;subst hti;simp only [oI] at hy;subst hy;refine ⟨fun _=>?_,fun hn=>(hn (holds_nil _)).elim⟩;obtain ⟨v,hv,hrv⟩:=(h.tm t _ ht).1 (holds_nil _);refine ⟨v,hv,?_⟩;have:=hrow es v hes hrv;unfold Rv at this ⊢;obtain ⟨b,m,cap,g1,g2,g3,_⟩:=this;exact ⟨b,m,cap,g1,g2,g3,fun k hk=>by cases hk⟩
 ·exact hr.tm i y hy
end
end Dv
end Go.Proofs.YtadbccicdbopcaaGreat
set_option maxRecDepth 100000
namespace Go.Proofs.YtadbccicdbopcaaGreat
open Go Go.RowKit Dv Tryz
end Go.Proofs.YtadbccicdbopcaaGreat
set_option maxRecDepth 100000
namespace Go.Proofs.YtadbccicdbopcaaGreat
open Go Go.RowKit Dv Tryz
end Go.Proofs.YtadbccicdbopcaaGreat
set_option maxRecDepth 100000
namespace Go.Proofs.YtadbccicdbopcaaGreat
open Go Go.RowKit Dv Tryz
end Go.Proofs.YtadbccicdbopcaaGreat
set_option maxRecDepth 100000
namespace Go.Proofs.YtadbccicdbopcaaGreat
open Go Go.RowKit Dv Tryz
def EqF (a b:Ft × Int):Prop:=a.1.1=b.1.1/\a.2=b.2
theorem EqF.rfl' (a:Ft × Int):EqF a a:=⟨rfl,rfl⟩
end Go.Proofs.YtadbccicdbopcaaGreat
namespace Go.Proofs.YtadbccicdbopcaaGreat
namespace Dv
open Go Go.RowKit
section
variable {X:Ctx} {st:St} {k:List It} {E:En} {a:Act} {w:World} {o:Oper}
end
end Dv
end Go.Proofs.YtadbccicdbopcaaGreat
set_option maxRecDepth 100000
namespace Go.Proofs.YtadbccicdbopcaaGreat
open Go Go.RowKit Dv Tryz
end Go.Proofs.YtadbccicdbopcaaGreat
set_option maxRecDepth 100000
namespace Go.Proofs.YtadbccicdbopcaaGreat
open Go Go.RowKit Dv Tryz
namespace Dv
end Dv
end Go.Proofs.YtadbccicdbopcaaGreat
set_option maxRecDepth 100000
namespace Go.Proofs.YtadbccicdbopcaaGreat
open Go Go.RowKit Dv Tryz
end Go.Proofs.YtadbccicdbopcaaGreat
set_option maxRecDepth 100000
namespace Go.Proofs.YtadbccicdbopcaaGreat
open Go Go.RowKit Dv Tryz
def rvK (p:List Stp) (e:Nat):List Stp:=(List.range p.length).map fun i=>(if i < e∨p.length - e<=i then p[p.length - 1 - i]? else p[i]?).getD ⟨0,0,emptyB⟩
theorem rvK_len (p:List Stp) (e:Nat):(rvK p e).length=p.length:=by simp [rvK]
theorem rvK_get (p:List Stp) (e i:Nat) (hi:i < p.length):(rvK p e)[i]? = if i < e∨p.length - e<=i then p[p.length - 1 - i]? else p[i]?:=by
 unfold rvK;rw [List.getElem?_map,List.getElem?_range hi];show some _=_;by_cases c:i < e∨p.length - e<=i
 ·simp only [if_pos c];rw [gE (show p.length - 1 - i < p.length by omega)];rfl
 ·simp only [if_neg c];rw [gE hi];rfl
theorem rvK_zero (p:List Stp):rvK p 0=p:=by
 apply List.ext_getElem?;intro i;by_cases hi:i < p.length
 ·rw [rvK_get p 0 i hi,if_neg (by omega)]
 ·rw [List.getElem?_eq_none (by rw [rvK_len];omega),List.getElem?_eq_none (by omega)]
theorem rvK_end (p:List Stp) (e:Nat) (h:p.length<=2 * e + 1) (he:e<=p.length):rvK p e=p.reverse:=by
 apply List.ext_getElem?;intro i;by_cases hi:i < p.length
 ·rw [rvK_get p e i hi,List.getElem?_reverse hi];split
  ·rfl
  ·rename_i c;rw [show i=p.length - 1 - i by omega];congr 1;omega
 ·rw [List.getElem?_eq_none (by rw [rvK_len];omega),List.getElem?_eq_none (by rw [List.length_reverse];omega)]
theorem rvK_succ (p:List Stp) (e:Nat) (h:2 * e + 1 < p.length) {x y:Stp} (hx:p[p.length - 1 - e]? = some x) (hy:p[e]? = some y):((rvK p e).set e x).set (p.length - 1 - e) y=rvK p (e + 1):=by
 apply List.ext_getElem?;intro i;by_cases hi:i < p.length
 ·rw [rvK_get p (e + 1) i hi,List.getElem?_set,List.getElem?_set,rvK_get p e i hi,List.length_set,rvK_len];by_cases c1:p.length - 1 - e=i
  ·subst c1;rw [if_pos rfl,if_pos hi,if_pos (by omega),<- hy];congr 1;omega
  ·rw [if_neg c1];by_cases c2:e=i
   ·subst c2;rw [if_pos rfl,if_pos hi,if_pos (by omega),hx]
   ·rw [if_neg c2];by_cases c3:i < e∨p.length - e<=i
    ·rw [if_pos c3,if_pos (by omega)]
    ·rw [if_neg c3,if_neg (by omega)]
 ·rw [List.getElem?_eq_none (by rw [List.length_set,List.length_set,rvK_len];omega),List.getElem?_eq_none (by rw [rvK_len];omega)]
theorem rvK_at (p:List Stp) (e:Nat) (h:2 * e + 1 < p.length):(rvK p e)[e]? = p[e]? /\ (rvK p e)[p.length - 1 - e]? = p[p.length - 1 - e]?:=by
 rw [rvK_get p e e (by omega),rvK_get p e (p.length - 1 - e) (by omega),if_neg (by omega),if_neg (by omega)];exact ⟨rfl,rfl⟩
theorem stp_set:∀ (L:List Stp) (i:Nat) (x:Stp),i < L.length->(dStps L).flatten.take (i * 3) ++ dStp x ++ (dStps L).flatten.drop (i * 3 + 3)=(dStps (L.set i x)).flatten
 | [],i,x,h=>by simp at h
 | y :: L,0,x,_=>by
  show ([]:List DV) ++ dStp x ++ ((dStp y ++ (dStps L).flatten).drop 3)=dStp x ++ (dStps L).flatten;rfl
 | y :: L,i + 1,x,h=>by
  have:=stp_set L i x (by simpa using h);show (dStp y ++ (dStps L).flatten).take ((i + 1) * 3) ++ dStp x ++ (dStp y ++ (dStps L).flatten).drop ((i + 1) * 3 + 3)=dStp y ++ (dStps (L.set i x)).flatten;rw [<- this];have h3:(dStp y).length=3:=rfl;rw [List.take_append,List.drop_append,h3,show (i + 1) * 3 - 3=i * 3 by omega,show (i + 1) * 3 + 3 - 3=i * 3 + 3 by omega,List.take_of_length_le (by rw [h3];omega),List.drop_of_length_le (by rw [h3];omega)];simp
theorem stp_flat:∀ {L:List Stp} {k:Nat} {x:Stp},L[k]? = some x->((dStps L).flatten.drop (k * 3)).take 3=dStp x/\3<=((dStps L).flatten.drop (k * 3)).length
 | [],_,_,h=>by simp at h
 | y :: L,0,x,h=>by
  simp only [List.getElem?_cons_zero,oI] at h;subst h;exact ⟨rfl,by show 3<=(dStp y ++ (dStps L).flatten).length;rw [List.length_append];exact Nat.le_add_right 3 _⟩
 | y :: L,k + 1,x,h=>by
  have:=stp_flat (L:=L) (k:=k) (x:=x) (by simpa using h);have h3:(dStp y).length=3:=rfl;show ((dStp y ++ (dStps L).flatten).drop ((k + 1) * 3)).take 3=_/\3<=((dStp y ++ (dStps L).flatten).drop ((k + 1) * 3)).length;rw [List.drop_append,h3,show (k + 1) * 3 - 3=k * 3 by omega,List.drop_of_length_le (l:=dStp y) (by rw [h3];omega),List.nil_append];exact this
theorem stp_cells {L:List Stp} {k:Nat} {x:Stp} (h:L[k]? = some x):cellsT tt 188 (dStps L).flatten ((k:Int).toNat * 3)=some (.agg (dStp x)):=by
 have hf:∃ a b,tt.find 188=some ⟨3,true,a,b⟩:=⟨_,_,rfl⟩;obtain ⟨a,b,hf⟩:=hf;unfold cellsT;rw [hf];simp only;rw [takeF_eq,Int.toNat_natCast,(stp_flat h).1];rfl
abbrev rvSt (n:Nat) (cs:List DV) (i:Nat) (j:Nat):St:=⟨[(0,⟨[],.sl 0 (List.replicate n []) (some 0)⟩),(2,⟨[],.v (.int .i64 i)⟩),(3,⟨[],.v (.int .i64 j)⟩)],[],[⟨n,188,3,some cs⟩]⟩
theorem reverse_spec (p:List Stp) (hne:p ≠ []) (hl:p.length<=1099511627776):Ev Tryz.prog 256 [.sl 0 (List.replicate p.length []) (some 0)] [] [⟨p.length,188,3,some (dStps p).flatten⟩] (fun _ _ tk=>tk=[⟨p.length,188,3,some (dStps p.reverse).flatten⟩]):=by
 have hpos:0 < p.length:=List.length_pos_iff.2 hne;have hrep:(List.replicate p.length ([]:List DV)).length=p.length:=List.length_replicate;refine ev_go (P:=Tryz.prog) tt tt_ok 5000 28 [] Tryz.func256 rfl Tryz.ntmps256 rfl (nL rfl) (fun E9 w9 hn9 hm9=>?_)
 have hj:IntKind.i64.wrap ((p.length:Int) - 1)=((p.length - 1:Nat):Int):=by
  rw [wrap64 (by omega) (by omega)];omega
 have hj':IntKind.i64.wrap (((List.replicate p.length ([]:List DV)).length:Int) - 1)=((p.length - 1:Nat):Int):=by rw [hrep];exact hj
 refine loop_i (fun t st=>∃ (e:Nat) (cs:List DV),st=rvSt p.length cs e (p.length - 1 - e)/\cs=(dStps (rvK p e)).flatten/\2 * e<=p.length/\t=p.length - 2 * e) p.length (rvSt p.length (dStps p).flatten 0 (p.length - 1)) (weak_mk ⟨_,rfl⟩ wA rfl rfl rfl (by repeat' (first | exact trivial | exact we_rfl rfl | exact we_int hj' | refine ⟨⟨_,rfl,?_⟩,?_⟩))) ⟨0,_,rfl,by rw [rvK_zero],by omega,by omega⟩ ?_;rintro t st ⟨e,cs,rfl,hcs,he,rfl⟩;refine br (fun hLt=>?_) (fun hLt=>?_)
 rotate_left
 ·have hge:p.length<=2 * e + 1:=by have:=of_decide_eq_false hLt;omega
  rw [rvK_end p e hge (by omega)] at hcs;subst hcs;exact ⟨.tup [],[],ax,rfl,rfl⟩
 have hlt:2 * e + 1 < p.length:=by have:=of_decide_eq_true hLt;omega
 obtain ⟨hA,hB⟩:=rvK_at p e hlt;obtain ⟨x,hx⟩:∃ x,p[p.length - 1 - e]? = some x:=⟨_,gE (by omega)⟩;obtain ⟨y,hy⟩:∃ y,p[e]? = some y:=⟨_,gE (by omega)⟩;have hsuc:=rvK_succ p e hlt hx hy;rw [hx] at hB;rw [hy] at hA;have hcx:=stp_cells hB;have hcy:=stp_cells hA;have hs1:=stp_set (rvK p e) e x (by rw [rvK_len];omega);have hs2:=stp_set ((rvK p e).set e x) (p.length - 1 - e) y (by rw [List.length_set,rvK_len];omega);rw [hsuc] at hs2;rw [<- hcs] at hcx hcy hs1;obtain ⟨xk,xn,xs⟩:=x;obtain ⟨yk,yn,ys⟩:=y;intro E a w hr;have hr':=drew_rel hr;refine wp_region_run (C:=fun w'=>w'=w.drew) (W:=fun i=>Nat.beq i 13 || Nat.beq i 15) (Q:=fun a w=>kq _ _ .normal a w) mo (by decide +kernel) (fun _ _ h=>h) rfl ?_;show Go.Proofs.YtadbccicdbopcaaGreat.Dv.runT _ _ _ _ _ [0,1,2,3,4,5,6,7,8,9,10,11,12,13,14,15] _ _;refine runT_np hr' rfl rfl rfl rfl rfl rfl (fun a0 h0=>?_);refine runT_np h0 rfl rfl rfl rfl rfl rfl (fun a1 h1=>?_);refine runT_np h1 rfl rfl rfl rfl rfl rfl (fun a2 h2=>?_);refine runT_np h2 rfl rfl rfl rfl rfl rfl (fun a3 h3=>?_);refine runT_np h3 rfl rfl rfl rfl rfl rfl (fun a4 h4=>?_);refine runT_np h4 rfl rfl rfl rfl rfl rfl (fun a5 h5=>?_);refine runT_own_ld (kt:=0) h5 rfl rfl ⟨rfl,rfl,rfl⟩ ⟨rfl,rfl,rfl⟩ rfl rfl rfl rfl rfl rfl hrep ⟨by omega,by omega⟩ hcx (fun _ h=>h) rfl (fun a7 h7=>?_);refine runT_np h7 rfl rfl rfl rfl rfl rfl (fun a8 h8=>?_);refine runT_np h8 rfl rfl rfl rfl rfl rfl (fun a9 h9=>?_);refine runT_own_ld (kt:=0) h9 rfl rfl ⟨rfl,rfl,rfl⟩ ⟨rfl,rfl,rfl⟩ rfl rfl rfl rfl rfl rfl hrep ⟨by omega,by omega⟩ hcy (fun _ h=>h) rfl (fun a11 h11=>?_);refine runT_own_st (kt:=0) h11 rfl rfl ⟨rfl,rfl,rfl⟩ ⟨rfl,rfl,rfl⟩ rfl rfl rfl rfl rfl rfl (Nat.succ_pos 2) rfl rfl rfl hrep ⟨by omega,by omega⟩ rfl (fun a13 E13 w13 h13=>?_);refine runT_own_st (kt:=0) h13 rfl rfl ⟨rfl,rfl,rfl⟩ ⟨rfl,rfl,rfl⟩ rfl rfl rfl rfl rfl rfl (Nat.succ_pos 2) rfl rfl rfl hrep ⟨by omega,by omega⟩ rfl (fun a15 E15 w15 h15=>?_);refine go_sound 4000 _ _ ?_ E15 a15 w15 h15
 have hw1:IntKind.i64.wrap (((p.length - 1 - e:Nat):Int) - 1)=((p.length - 1 - (e + 1):Nat):Int):=by
  rw [wrap64 (by omega) (by omega)];omega
 have hw2:IntKind.i64.wrap ((e:Int) + 1)=((e + 1:Nat):Int):=by
  rw [wrap64 (by omega) (by omega)];omega
 generalize hc1:cs.take (e * 3) ++ dStp ⟨xk,xn,xs⟩ ++ cs.drop (e * 3 + 3)=c1 at hs1
 have hc2:c1.take ((p.length - 1 - e) * 3) ++ dStp ⟨yk,yn,ys⟩ ++ c1.drop ((p.length - 1 - e) * 3 + 3)=(dStps (rvK p (e + 1))).flatten:=by
  rw [hs1];exact hs2
 rw [<- hc1] at hc2;exact ⟨rvSt p.length ((cs.take (e * 3) ++ dStp ⟨xk,xn,xs⟩ ++ cs.drop (e * 3 + 3)).take ((p.length - 1 - e) * 3) ++ dStp ⟨yk,yn,ys⟩ ++ (cs.take (e * 3) ++ dStp ⟨xk,xn,xs⟩ ++ cs.drop (e * 3 + 3)).drop ((p.length - 1 - e) * 3 + 3)) (e + 1) (p.length - 1 - (e + 1)),(weak_mk ⟨_,rfl⟩ wA rfl rfl rfl (by repeat' (first | exact trivial | exact we_rfl rfl | exact we_int hw2 | exact we_int hw1 | refine ⟨⟨_,rfl,?_⟩,?_⟩))),p.length - 2 * (e + 1),by omega,e + 1,_,rfl,hc2,by omega,rfl⟩
abbrev eyD (PC LC:List DV) (obs:Nat):List DV:=[.pt PC 0,.pt LC 0,.v (.int .i64 obs)]
section
variable {n:Nat} {f:Nat->Nat->Bool} {names:List ByteArray} {LC:List DV} (hR:LatR n f names LC) (PC:List DV)
include hR
theorem asees_spec (obs a:Nat) (ho:obs < n) (ha:a < n):EvP Tryz.prog 140 [.agg (eyD PC LC obs),.v (.int .i64 a)] (.v (.bool (f a obs))):=by
 have hq:=hR.leq a obs;rw [leqI_nat ha ho] at hq;refine ev_go (P:=Tryz.prog) tt tt_ok 5000 11 [.tmp 4] Tryz.func140 rfl Tryz.ntmps140 rfl (nL rfl) (fun E9 w9 hn9 hm9=>?_);refine call_p en167 (hq) ax rfl ?_;exact (rfl:_=_)
theorem aedge_spec {ND:List Nd} (obs a:Nat) (ha:a < n) (d:Nd) (v:Val) (j:Nat) (e:Ed) (h:edgeN d v.n j=some e) (hm:e∈d.edges) (hN:NdOK n ND.length d) (h5:5<=d.kind) (hz:d.kind=8->0<=v.n/\v.n < d.edges.length) (hes:d.edges.length<=1099511627776) :
  EvP Tryz.prog 346 [.agg (eyD PC LC obs),.agg (dNd d),.agg (dVal v),.v (.int .i64 j),.v (.int .i64 a)] (.tup [.agg (dEd e),.v (.int .i64 (undF f n d e a:Nat))]):=by
 obtain ⟨_,⟨h2,h2'⟩,_⟩:=edge_nums hN hm;have hj:=hR.join a e.label.toNat ha h2';rw [<- h2] at hj;have hU:undF f n d e a=if d.kind < 7 then a else jnF f n a e.label.toNat:=rfl
 generalize undF f n d e a=U at hU ⊢;have h8:=hN.k8;obtain ⟨kind,at',lo,hi,most,nms,es⟩:=d;obtain ⟨k,z,s,ks⟩:=v;simp only [Val.n] at h hz hes hU h5 h8;have hel:=dEds_len es;unfold edgeN at h;simp only at h;have hd:∃ en eb ea et elb ew eck ecn ese eca,e=⟨en,eb,ea,et,elb,ew,eck,ecn,ese,eca⟩:=⟨_,_,_,_,_,_,_,_,_,_,rfl⟩;refine ev_go (P:=Tryz.prog) tt tt_ok 5000 42 [.cell 10 232,.tmp 11] Tryz.func346 rfl Tryz.ntmps346 rfl (nL rfl) (fun E9 w9 hn9 hm9=>?_);refine br (fun c=>?_) (fun c=>?_)
 ·have c:kind=7:=by simpa using c
  rw [if_pos c] at h;rw [if_neg (by omega)] at hU;subst hU;have hjl:=(gS h).1;obtain ⟨en,eb,ea,et,elb,ew,eck,ecn,ese,eca,rfl⟩:=hd;refine drawG_s mo (by decide +kernel) ?_;refine ⟨_,⟨by omega,dEds_get h⟩,?_⟩;refine ⟨_,⟨by omega,dEds_get h⟩,?_⟩;refine callD_p en143 (hj) ax rfl ?_;exact ⟨_,ax,rfl⟩
 have c7:¬ kind=7:=by simpa using c
 rw [if_neg c7] at h;refine br (fun c=>?_) (fun c=>?_)
 ·have c:kind=8:=by simpa using c
  rw [if_pos c] at h;have hz:=hz c;rw [if_neg (by omega)] at hU;subst hU;obtain ⟨en,eb,ea,et,elb,ew,eck,ecn,ese,eca,rfl⟩:=hd;refine drawG_s mo (by decide +kernel) ?_;refine ⟨_,⟨by omega,dEds_get h⟩,?_⟩;refine ⟨_,⟨by omega,dEds_get h⟩,?_⟩;refine callD_p en143 (hj) ax rfl ?_;exact ⟨_,ax,rfl⟩
 have c8:¬ kind=8:=by simpa using c
 rw [if_neg c8] at h;rw [if_pos (by omega)] at hU;subst hU;obtain ⟨en,eb,ea,et,elb,ew,eck,ecn,ese,eca,rfl⟩:=hd;refine ⟨_,⟨by omega,dEds_get h⟩,?_⟩;exact ⟨_,ax,rfl⟩
end
theorem astepP_spec (d:Nd) (v:Val) (j:Nat) (h5:5<=d.kind) (h8:d.kind<=8) (h7:d.kind=7->j < d.edges.length) (hz:d.kind=8->0<=v.n/\v.n < d.edges.length) :
  EvP Tryz.prog 348 [.agg (dNd d),.agg (dVal v),.v (.int .i64 j)] (.agg (dStp (stpZ d v.n j))):=by
 have hS:stpZ d v.n j=if d.kind=5 then ⟨2,j,emptyB⟩ else if d.kind=6 then ⟨4,0,emptyB⟩ else if d.kind=7 then ⟨1,0,match d.edges[j]? with | some e=>e.name | none=>emptyB⟩ else ⟨5,0,match d.edges[v.n.toNat]? with | some e=>e.name | none=>emptyB⟩:=rfl
 generalize stpZ d v.n j=SZ at hS ⊢;obtain ⟨kind,at',lo,hi,most,nms,es⟩:=d;obtain ⟨k,z,s,ks⟩:=v;simp only [Val.n] at h5 h8 h7 hz hS;have hel:=dEds_len es;refine ev_go (P:=Tryz.prog) tt tt_ok 5000 33 [.cell 6 188] Tryz.func348 rfl Tryz.ntmps348 rfl (nL rfl) (fun E9 w9 hn9 hm9=>?_);refine br (fun c=>?_) (fun c=>?_)
 ·have c:kind=7:=by simpa using c
  subst c;have h7:=h7 rfl;obtain ⟨e,he⟩:∃ e,es[j]? = some e:=⟨_,gE h7⟩;rw [if_neg (by decide),if_neg (by decide),if_pos rfl,he] at hS;subst hS;refine ⟨_,⟨by omega,dEds_get he⟩,?_⟩;exact ⟨_,ax,rfl⟩
 have c7:¬ kind=7:=by simpa using c
 refine br (fun c=>?_) (fun c=>?_)
 ·have c:kind=8:=by simpa using c
  subst c;have hz:=hz rfl;obtain ⟨e,he⟩:∃ e,es[z.toNat]? = some e:=⟨_,gE (by omega)⟩;rw [if_neg (by decide),if_neg (by decide),if_neg (by decide),he] at hS;subst hS;refine ⟨_,⟨by omega,dEds_get he⟩,?_⟩;exact ⟨_,ax,rfl⟩
 have c8:¬ kind=8:=by simpa using c
 refine br (fun c=>?_) (fun c=>?_)
 ·have c:kind=5:=by simpa using c
  rw [if_pos c] at hS;subst hS;exact ⟨_,ax,rfl⟩
 have c5:¬ kind=5:=by simpa using c
 rw [if_neg c5,if_pos (by omega)] at hS;subst hS;exact ⟨_,ax,rfl⟩
theorem acoarse_spec (e:Ed) (x y:Val) (hx:rngW x) (hy:rngW y) (hwx:x.wt<=1099511627776) (hwy:y.wt<=1099511627776) (hc : -9223372036854775808<=e.cn/\e.cn<=9223372036854775807) :
  EvP Tryz.prog 347 [.agg (dEd e),.agg (dVal x),.agg (dVal y)] (.v (.bool (sameC e x y))):=by
 have hf:=floors_spec x.n y.n e.cn (rngW_n hx) (rngW_n hy) hc
 have hS:sameC e x y=if e.ck=1/\x.k=2 then decide (floorV x.n e.cn=floorV y.n e.cn)
  else if e.ck=2/\x.k=3 then headsL e.cn.toNat (tx x.s) (tx y.s)
  else if e.ck=3/\x.k=5 then decide (x.ks.length=y.ks.length)
  else true:=rfl
 have hsz:∀ v:Val,v.wt<=1099511627776->v.s.size<=1099511627776:=fun v hv=>by
  obtain ⟨k,n,s,ks⟩:=v;rw [Val.wt] at hv;show s.size<=_;omega
 have hh:=heads_spec x.s y.s (hsz x hwx) (hsz y hwy) e.cn hc.2;have hA:e.ck=1/\x.k=2->sameC e x y=decide (floorV x.n e.cn=floorV y.n e.cn):=fun h=>by rw [hS,if_pos h]
 have hB:e.ck=2/\x.k=3->sameC e x y=headsL e.cn.toNat (tx x.s) (tx y.s):=fun h=>by rw [hS,if_neg (by omega),if_pos h]
 have hC:e.ck=3/\x.k=5->sameC e x y=decide (x.ks.length=y.ks.length):=fun h=>by rw [hS,if_neg (by omega),if_neg (by omega),if_pos h]
 have hD:¬ (e.ck=1/\x.k=2)->¬ (e.ck=2/\x.k=3)->¬ (e.ck=3/\x.k=5)->sameC e x y=true:=fun h1 h2 h3=>by rw [hS,if_neg h1,if_neg h2,if_neg h3]
 clear hS;generalize sameC e x y=B at hA hB hC hD ⊢;obtain ⟨en,eb,ea,et,elb,ew,eck,ecn,ese,eca⟩:=e;obtain ⟨xk,xn,xs,xks⟩:=x;obtain ⟨yk,yn,ys,yks⟩:=y;simp only [Val.k,Val.n,Val.s,Val.ks] at hA hB hC hD hf hh;have hdx:=dVals_len xks;have hdy:=dVals_len yks;refine ev_go (P:=Tryz.prog) tt tt_ok 5000 55 [.tmp 6] Tryz.func347 rfl Tryz.ntmps347 rfl (nL rfl) (fun E9 w9 hn9 hm9=>?_);refine br (fun c=>?_) (fun c=>?_)
 ·have c:eck=1/\xk=2:=by simpa [pickB_and] using c
  rw [hA c];refine call_p en396 (hf) ax rfl ?_;exact (rfl:_=_)
 have c1:¬ (eck=1/\xk=2):=by simpa [pickB_and] using c
 refine br (fun c=>?_) (fun c=>?_)
 ·have c:eck=2/\xk=3:=by simpa [pickB_and] using c
  rw [hB c];refine call_p en397 (hh) ax rfl ?_;exact (rfl:_=_)
 have c2:¬ (eck=2/\xk=3):=by simpa [pickB_and] using c
 refine br (fun c=>?_) (fun c=>?_)
 ·have c:eck=3/\xk=5:=by simpa [pickB_and] using c
  rw [hC c];refine (congrArg (fun b=>DV.v (.bool b)) ?_:_=_);simp only [hdx,hdy];exact decide_eq_decide.2 ⟨fun h=>by omega,fun h=>by omega⟩
 have c3:¬ (eck=3/\xk=5):=by simpa [pickB_and] using c
 rw [hD c1 c2 c3];exact (rfl:_=_)
def dfP (o:Option (List Stp)) (r:DV) (tks:List TkE):Prop:=match o with
 | none=>r = .tup [.v (.slice none 0 0),.v (.bool false)]/\tks=[]
 | some []=>r = .tup [.v (.slice none 0 0),.v (.bool true)]/\tks=[]
 | some (s :: p)=>r = .tup [.sl 0 (List.replicate (p.length + 1) []) (some 0),.v (.bool true)]/\tks=[⟨p.length + 1,188,3,some (dStps (s :: p).reverse).flatten⟩]
abbrev adSt (PC LC:List DV) (obs a:Nat) (x y:Val) (d:Nd) (e:Nat):St:=
 ⟨[(2,⟨[],.v (.int .i64 a)⟩),(5,⟨[],.loc 0 0⟩),(8,⟨[],.loc 1 0⟩),(9,⟨[],.loc 2 0⟩),(12,⟨[],.loc 3 0⟩),(49,⟨[],.sl 4 (dVals x.ks) none⟩),(50,⟨[],.v (.int .i64 (dVals x.ks).length)⟩),(51,⟨[],.v (.int .i64 e)⟩)],[eyD PC LC obs,dVal x,dVal y,dNd d],[]⟩
section
variable {ND:List Nd} {f:Nat->Nat->Bool} {L obs:Nat}
mutual
theorem diffV_len:∀ (x y:Val) (i:Int) (a:Nat) (p:List Stp),diffV ND f L obs x y i a=some p->64 * p.length + 64<=x.wt
 | .mk k n s ks,.mk k' n' s' ks',i,a,p,h=>by
  rw [diffV] at h;rw [Val.wt];split at h
  ·cases h;simp;omega
  ·cases hd:nodeA ND i with
   | none=>rw [hd] at h;cases h
   | some d=>
    rw [hd] at h;have:=diffVs_len ks ks' d n a 0 p h;omega
theorem diffVs_len:∀ (ks ls:List Val) (d:Nd) (z:Int) (a j:Nat) (p:List Stp),diffVs ND f L obs ks ls d z a j=some p->64 * p.length<=wtVs ks
 | [],[],_,_,_,_,p,h=>by rw [diffVs] at h;cases h;all_goals simp
 | [],_ :: _,_,_,_,_,p,h=>by rw [diffVs] at h;cases h;all_goals simp
 | _ :: _,[],_,_,_,_,p,h=>by rw [diffVs] at h;cases h;all_goals simp
 | x :: r,y :: t,d,z,a,j,p,h=>by
  have hw:=x.wt_pos;rw [diffVs] at h;rw [wtVs]
  cases he:edgeN d z j with
  | none=>rw [he] at h;cases h
  | some e=>
   rw [he] at h;simp only at h;split at h
   ·rename_i q hq;cases h;rw [List.length_cons];split at hq
    ·have:=diffV_len x y e.to _ q hq;omega
    ·split at hq
     ·split at hq
      ·cases hq
      ·cases hq;simp;omega
     ·cases hq
   ·have:=diffVs_len r t d z a (j + 1) p h;omega
end
end
theorem rev_flat (s:Stp) (L:List Stp):(dStps L.reverse).flatten ++ [dStp s].flatten=(dStps (s :: L).reverse).flatten:=by
 rw [List.reverse_cons];simp [dStps]
theorem adiffer_spec {S:Sch} {ND:List Nd} {PC LC:List DV} (hP:PlanR S ND PC) (hR:LatR S.levels.length (leqS S) (nmTx S.levels) LC) (hrS:∀ n∈ND,rngN n) (hsz:∀ n∈ND,n.edges.length<=1099511627776) (obs:Nat) (ho:obs < S.levels.length) :
  ∀ (k:Nat) (x:Val),x.wt<=k->x.wt<=1099511627776->rngW x->∀ (y:Val),y.wt<=1099511627776->rngW y->∀ (i:Int) (a:Nat),a < S.levels.length->fitV ND x i=true->fitV ND y i=true ->
   EvF Tryz.prog 255 [.agg (eyD PC LC obs),.v (.int .i64 i),.v (.int .i64 a),.agg (dVal x),.agg (dVal y)] [] [] (fun r _ tks=>dfP (diffV ND (leqS S) S.levels.length obs x y i a) r tks)
 | 0,x,h=>by have:=x.wt_pos;omega
 | k + 1,x,h=>fun hbx hrx y hby hry i a ha hfx hfy=>by
  have ih:=adiffer_spec hP hR hrS hsz obs ho k;have hL:=hR.ok;obtain ⟨d,hF⟩:=fit_facts hP.ok hfx;obtain ⟨d',hF'⟩:=fit_facts hP.ok hfy;have hdd:d'=d:=by have:=hF.node;rw [hF'.node] at this;cases this;rfl
  subst hdd;have hkidx:=fun {m:Nat} {x:Val}=>kids_ok (m:=m) (x:=x) hP.ok hfx hF;have hkidy:=fun {m:Nat} {x:Val}=>kids_ok (m:=m) (x:=x) hP.ok hfy hF';obtain ⟨h0,hg⟩:=nodeA_some hF.node;obtain ⟨j,rfl⟩:∃ j:Nat,i=j:=⟨i.toNat,by omega⟩;have hg:ND[j]? = some d':=by simpa using hg
  have hjl:=(gS hg).1;have hmem:=mG hg;have hN:=hP.ok d' hmem;have hdsz:=hsz d' hmem;have hdrn:=hrS d' hmem;have hnode:=hP.node j d' hg;have hleaf:=hF.leaf;have hnd:=hF.node;obtain ⟨xk,xn,xs,xks⟩:=x;obtain ⟨yk,yn,ys,yks⟩:=y;rw [Val.wt] at h hbx hby;have hrkx:=rngW_ks hrx;have hrky:=rngW_ks hry;simp only [Val.ks,Val.n] at hkidx hkidy hleaf hrkx hrky;have hxl:=wtVs_len xks;have hyl:=wtVs_len yks;have hdx:=dVals_len xks;have hdy:=dVals_len yks;by_cases hc:xn≠yn∨xs≠ys∨xks.length≠yks.length
  ·have hD:diffV ND (leqS S) S.levels.length obs (.mk xk xn xs xks) (.mk yk yn ys yks) j a=some []:=by rw [diffV,if_pos hc]
   rw [hD];refine evB_gom (s:=false) (bt:=[]) (mu:=[]) (hbt:=fun p hp=>by cases hp) (fr:=true) (P:=Tryz.prog) tt tt_ok 5000 115 [.tmp 10,.tmp 11] Tryz.func255 rfl Tryz.ntmps255 rfl (nL rfl) (fun E9 w9 hn9 hm9=>?_);refine br (fun _=>?_) (fun c=>?_)
   ·exact ⟨_,[],ax,rfl,rfl,rfl⟩
   ·exfalso;simp [pickB_or,hdx,hdy] at c;rcases hc with h | h | h
    ·exact h c.1.1
    ·exact h c.1.2
    ·omega
  ·have hD:diffV ND (leqS S) S.levels.length obs (.mk xk xn xs xks) (.mk yk yn ys yks) j a=diffVs ND (leqS S) S.levels.length obs xks yks d' xn a 0:=by rw [diffV,if_neg hc,hnd]
   rw [hD];simp at hc;obtain ⟨rfl,rfl,hll⟩:=hc;obtain ⟨kind,at',lo,hi,most,nms,es⟩:=d';refine evB_gom (s:=false) (bt:=[]) (mu:=[]) (hbt:=fun p hp=>by cases hp) (fr:=true) (P:=Tryz.prog) tt tt_ok 5000 115 [.tmp 10,.tmp 11] Tryz.func255 rfl Tryz.ntmps255 rfl (nL rfl) (fun E9 w9 hn9 hm9=>?_);refine br (fun c=>absurd c (by simp [pickB_or,hdx,hdy,hll])) (fun _=>?_);refine call_p en100 (hnode) ax rfl ?_;refine loop_i (fun t st=>∃ e:Nat,st=adSt PC LC obs a (.mk xk xn xs xks) (.mk yk xn xs yks) ⟨kind,at',lo,hi,most,nms,es⟩ e/\e<=xks.length/\diffVs ND (leqS S) S.levels.length obs (xks.drop e) (yks.drop e) ⟨kind,at',lo,hi,most,nms,es⟩ xn a e=diffVs ND (leqS S) S.levels.length obs xks yks ⟨kind,at',lo,hi,most,nms,es⟩ xn a 0/\t=xks.length - e) xks.length (adSt PC LC obs a (.mk xk xn xs xks) (.mk yk xn xs yks) ⟨kind,at',lo,hi,most,nms,es⟩ 0) (weak_b 4 rfl wRA rfl rfl rfl wRB) ⟨0,rfl,by omega,rfl,by omega⟩ ?_;rintro t st ⟨e,rfl,he,hE,rfl⟩;refine br (fun hLt=>?_) (fun hLt=>?_)
   ·have hlt:e < xks.length:=by simpa [hdx,Val.ks] using hLt
    obtain ⟨x,hx⟩:∃ x,xks[e]? = some x:=⟨_,gE hlt⟩;obtain ⟨y,hy⟩:∃ y,yks[e]? = some y:=⟨_,gE (by omega)⟩;have hmx:=mG hx;have hmy:=mG hy;have hwx:=wtVs_mem hmx;have hwy:=wtVs_mem hmy;obtain ⟨ed,hK⟩:=hkidx hx;obtain ⟨ed2,hK2⟩:=hkidy hy;have hee:ed2=ed:=by have:=hK.edge;rw [hK2.edge] at this;cases this;rfl
    subst hee
    have h5:5<=kind:=by
     rcases Int.lt_or_le kind 5 with h5 | h5
     ·have:=hleaf h5;rw [this] at hlt;simp at hlt
     ·exact h5
    obtain ⟨hto,_⟩:=to_in hN hK.mem hK.bare;have hk8:=kid_rng hK.to' hto;rw [List.drop_eq_getElem_cons hlt,show xks[e]=x from (gS hx).2,List.drop_eq_getElem_cons (show e < yks.length by omega),show yks[e]=y from (gS hy).2,diffVs,hK.edge] at hE;simp only at hE;have hU:=undF_lt hL hN hK.mem ha;have hSn:=seen_lt hL hN hK.mem ha;have hedge:=aedge_spec hR PC obs a ha ⟨kind,at',lo,hi,most,nms,es⟩ (.mk xk xn xs xks) e ed2 hK.edge hK.mem hN h5 hk8 hdsz;have hsees:=asees_spec hR PC obs (undF (leqS S) S.levels.length ⟨kind,at',lo,hi,most,nms,es⟩ ed2 a) ho hU;have hsees2:=asees_spec hR PC obs (jnF (leqS S) S.levels.length a ed2.seen.toNat) ho hSn;have hcs:=acoarse_spec ed2 x y (rngWs_mem hrkx hmx) (rngWs_mem hrky hmy) (by omega) (by omega) (hdrn.2.2 ed2 hK.mem);have hrec:=ih x (by omega) (by omega) (rngWs_mem hrkx hmx) y (by omega) (rngWs_mem hrky hmy) ed2.to (undF (leqS S) S.levels.length ⟨kind,at',lo,hi,most,nms,es⟩ ed2 a) hU hK.fit hK2.fit
    have hstp:=astepP_spec ⟨kind,at',lo,hi,most,nms,es⟩ (.mk xk xn xs xks) e h5 hN.k8 (fun c7=>by
     have:=hK.edge;unfold edgeN at this;rw [if_pos c7] at this
     exact (gS this).1) hk8
    obtain ⟨_,_,h3,h3'⟩:=edge_nums hN hK.mem;have hj:=hR.join a ed2.seen.toNat ha h3';rw [<- h3] at hj;rw [howF_eq] at hE;have hpl0:=fun i' a' p=>diffV_len (ND:=ND) (f:=leqS S) (L:=S.levels.length) (obs:=obs) x y i' a' p;generalize undF (leqS S) S.levels.length ⟨kind,at',lo,hi,most,nms,es⟩ ed2 a=U at hU hedge hsees hrec hE;generalize jnF (leqS S) S.levels.length a ed2.seen.toNat=SN at hj hsees2 hSn hE;rw [show stpZ ⟨kind,at',lo,hi,most,nms,es⟩ (Val.mk xk xn xs xks).n e=stpZ ⟨kind,at',lo,hi,most,nms,es⟩ xn e from rfl] at hstp;generalize stpZ ⟨kind,at',lo,hi,most,nms,es⟩ xn e=sp at hstp hE;have hpl:=hpl0 ed2.to U;clear hpl0;generalize diffV ND (leqS S) S.levels.length obs x y ed2.to U=R at hrec hE hpl;generalize sameC ed2 x y=SC at hcs hE;generalize leqS S U obs=b1 at hsees hE;generalize leqS S SN obs=b2 at hsees2 hE;obtain ⟨ak,an,as',aks⟩:=x;obtain ⟨bk,bn,bs,bks⟩:=y;obtain ⟨en,eb,ea,et,elb,ew,eck,ecn,ese,eca⟩:=ed2;obtain ⟨sk,sn,ss⟩:=sp;refine ⟨_,⟨by omega,dVals_get hx⟩,?_⟩;refine call_p en346 (hedge) ax rfl ?_;refine call_p en140 (hsees) ax rfl ?_
    cases b1 with
    | true=>
     simp only [reduceIte] at hE;refine drawG_i (fun _=>false) mo (by decide +kernel) ?_;refine ⟨_,⟨by omega,dVals_get hy⟩,?_⟩;refine callD_f en255 rfl hrec ax (fun res tks hr=>?_)
     match R,hr,hE,hpl with
     | none,hr,hE,_=>
      obtain ⟨rfl,rfl⟩:=hr;simp only at hE;exact ⟨adSt PC LC obs a (.mk xk xn xs xks) (.mk yk xn xs yks) ⟨kind,at',lo,hi,most,nms,es⟩ (e + 1),(weak_b 4 rfl (wNA hlt) rfl rfl rfl (wNB hlt)),xks.length - (e + 1),by omega,e + 1,rfl,by omega,hE,rfl⟩
     | some [],hr,hE,_=>
      obtain ⟨rfl,rfl⟩:=hr;simp only at hE;rw [<- hE];refine call_osw (os:=[]) 0 0 en348 rfl rfl rfl rfl ax hstp (fun r os' tk' hr h1 h2=>?_);subst hr;obtain rfl:=List.eq_nil_of_length_eq_zero h1;obtain rfl:=List.eq_nil_of_length_eq_zero h2;refine ⟨⟨[(111,⟨[],.agg (dStp ⟨sk,sn,ss⟩)⟩),(107,⟨[],.sl 0 [] (some 0)⟩)],[],[⟨0,188,3,some []⟩]⟩,Wk.weak (weak_bt 0 ⟨0,188,3,some []⟩ rfl rfl rfl (by repeat' (first | exact rfl | exact we_rfl rfl | exact we_tok (Nat.le_refl _) rfl | exact we_tok (Nat.le_refl _) rfl | refine ⟨_,_,rfl,?_,?_⟩)) rfl rfl wTB),?_⟩;refine ⟨⟨⟨rfl,by simp⟩,by simp [maxLen],by simp⟩,?_⟩;exact ⟨.tup [.sl 0 (List.replicate 1 []) (some 0),.v (.bool true)],[],aL,rfl,rfl,rfl⟩
     | some (s0 :: p0),hr,hE,hpl=>
      obtain ⟨rfl,rfl⟩:=hr;simp only at hE;rw [<- hE];refine call_p en348 (hstp) ax rfl ?_;have hpl:=hpl (s0 :: p0) rfl;rw [List.length_cons] at hpl;refine ⟨⟨⟨by simp,by simp⟩,by simp [maxLen];omega,by simp;omega⟩,?_⟩;refine ⟨.tup [.sl 0 (List.replicate (p0.length + 1 + 1) []) (some 0),.v (.bool true)],[],aL,rfl,rfl,?_⟩;exact congrArg (fun l=>[(⟨p0.length + 1 + 1,188,3,some l⟩:TkE)]) (rev_flat ⟨sk,sn,ss⟩ (s0 :: p0))
    | false=>
     by_cases hck:eck=0
     ·subst hck;simp at hE;refine drawG_i (fun _=>false) mo (by decide +kernel) ?_;exact ⟨adSt PC LC obs a (.mk xk xn xs xks) (.mk yk xn xs yks) ⟨kind,at',lo,hi,most,nms,es⟩ (e + 1),(weak_b 4 rfl (wNA hlt) rfl rfl rfl (wNB hlt)),xks.length - (e + 1),by omega,e + 1,rfl,by omega,hE,rfl⟩
     ·cases b2 with
      | false=>
       simp at hE;refine drawG_i (fun _=>false) mo (by decide +kernel) ?_;refine br (fun _=>?_) (fun g=>absurd g (by simp [hck]));refine callD_p en143 (hj) ax rfl ?_;refine callD_p en140 (hsees2) ax rfl ?_;exact ⟨adSt PC LC obs a (.mk xk xn xs xks) (.mk yk xn xs yks) ⟨kind,at',lo,hi,most,nms,es⟩ (e + 1),(weak_b 4 rfl (wNA hlt) rfl rfl rfl (wNB hlt)),xks.length - (e + 1),by omega,e + 1,rfl,by omega,hE,rfl⟩
      | true=>
       simp [hck] at hE;refine drawG_i (fun _=>false) mo (by decide +kernel) ?_;refine br (fun _=>?_) (fun g=>absurd g (by simp [hck]));refine callD_p en143 (hj) ax rfl ?_;refine callD_p en140 (hsees2) ax rfl ?_;refine drawG_i (fun _=>false) mo (by decide +kernel) ?_;refine ⟨_,⟨by omega,dVals_get hy⟩,?_⟩;refine callD_p en347 (hcs) ax rfl ?_
       cases SC with
       | true=>
        simp at hE;exact ⟨adSt PC LC obs a (.mk xk xn xs xks) (.mk yk xn xs yks) ⟨kind,at',lo,hi,most,nms,es⟩ (e + 1),(weak_b 4 rfl (wNA hlt) rfl rfl rfl (wNB hlt)),xks.length - (e + 1),by omega,e + 1,rfl,by omega,hE,rfl⟩
       | false=>
        simp at hE;rw [<- hE];refine call_osw (os:=[]) 0 0 en348 rfl rfl rfl rfl ax hstp (fun r os' tk' hr h1 h2=>?_);subst hr;obtain rfl:=List.eq_nil_of_length_eq_zero h1;obtain rfl:=List.eq_nil_of_length_eq_zero h2;refine ⟨⟨[(111,⟨[],.agg (dStp ⟨sk,sn,ss⟩)⟩),(107,⟨[],.sl 0 [] (some 0)⟩)],[],[⟨0,188,3,some []⟩]⟩,Wk.weak (weak_bt 0 ⟨0,188,3,some []⟩ rfl rfl rfl (by repeat' (first | exact rfl | exact we_rfl rfl | exact we_tok (Nat.le_refl _) rfl | exact we_tok (Nat.le_refl _) rfl | refine ⟨_,_,rfl,?_,?_⟩)) rfl rfl wTB),?_⟩;refine ⟨⟨⟨rfl,by simp⟩,by simp [maxLen],by simp⟩,?_⟩;exact ⟨.tup [.sl 0 (List.replicate 1 []) (some 0),.v (.bool true)],[],aL,rfl,rfl,rfl⟩
   ·have hge:e=xks.length:=by have:=hLt;simp [hdx,Val.ks] at this;omega
    subst hge;rw [List.drop_length] at hE;rw [<- hE,show diffVs ND (leqS S) S.levels.length obs ([]:List Val) (yks.drop xks.length) ⟨kind,at',lo,hi,most,nms,es⟩ xn a xks.length=none by rw [diffVs];simp];exact ⟨_,[],ax,rfl,rfl,rfl⟩
theorem reverse_nil:Ev Tryz.prog 256 [.v (.slice none 0 0)] [] [] (fun _ _ _=>True):=by
 refine ev_go (P:=Tryz.prog) tt tt_ok 5000 28 [] Tryz.func256 rfl Tryz.ntmps256 rfl (nL rfl) (fun E9 w9 hn9 hm9=>?_);refine loop_i (fun t st=>st=⟨[(0,⟨[],.v (.slice none 0 0)⟩),(2,⟨[],.v (.int .i64 0)⟩),(3,⟨[],.v (.int .i64 (-1))⟩)],[],[]⟩/\t=0) 0 ⟨[(0,⟨[],.v (.slice none 0 0)⟩),(2,⟨[],.v (.int .i64 0)⟩),(3,⟨[],.v (.int .i64 (-1))⟩)],[],[]⟩ (weak_mk ⟨_,rfl⟩ wA rfl rfl rfl (by repeat' (first | exact trivial | exact we_rfl rfl | exact we_rfl rfl | refine ⟨⟨_,rfl,?_⟩,?_⟩))) ⟨rfl,rfl⟩ ?_;rintro t st ⟨rfl,rfl⟩;exact ⟨.tup [],ax,trivial⟩
section
variable {S:Sch} {ND:List Nd} {PC LC:List DV} (hP:PlanR S ND PC) (hlat:EvP Tryz.prog 53 [.pt PC 0] (.pt LC 0)) (hR:LatR S.levels.length (leqS S) (nmTx S.levels) LC) (hrS:∀ n∈ND,rngN n) (hsz:∀ n∈ND,n.edges.length<=1099511627776) (rt:Nat) (hrt:resRoot S=rt)
include hP hlat hR hrt
theorem both_spec (o:Int) (x y:Val) (hx:x.wt<=1099511627776) (hy:y.wt<=1099511627776) :
  EvP Tryz.prog 149 [.pt PC 0,.v (.int .i64 o),.agg (dVal x),.agg (dVal y)] (.v (.bool (decide (0<=o/\o < S.levels.length) && fitV ND x rt && fitV ND y rt))):=by
 have hlen:=hR.len;have hroot:=hP.root;rw [hrt] at hroot;have h1:=tfits_spec hP _ x (Nat.le_refl _) hx rt;have h2:=tfits_spec hP _ y (Nat.le_refl _) hy rt;generalize fitV ND x rt=F1 at h1 ⊢;generalize fitV ND y rt=F2 at h2 ⊢;obtain ⟨xk,xn,xs,xks⟩:=x;obtain ⟨yk,yn,ys,yks⟩:=y;refine ev_go (P:=Tryz.prog) tt tt_ok 5000 32 [.tmp 8] Tryz.func149 rfl Tryz.ntmps149 rfl (nL rfl) (fun E9 w9 hn9 hm9=>?_);refine drawG_i (fun _=>false) mo (by decide +kernel) ?_;refine br (fun c=>?_) (fun c=>?_)
 ·have c:0<=o:=by simpa using c
  refine callD_p en53 (hlat) ax rfl ?_;refine callD_p en139 (hlen) ax rfl ?_;refine br (fun g=>?_) (fun g=>?_)
  ·have g:o < S.levels.length:=by simpa [pickB] using g
   refine callD_p en35 (hroot) ax rfl ?_;refine callD_p en36 (h1) ax rfl ?_;rw [show decide (0<=o/\o < (S.levels.length:Int))=true from decide_eq_true ⟨c,g⟩]
   cases F1 with
   | false=>exact (rfl:_=_)
   | true=>
    refine callD_p en35 (hroot) ax rfl ?_;refine callD_p en36 (h2) ax rfl ?_;exact (rfl:_=_)
  ·have g:¬ o < S.levels.length:=by simpa [pickB] using g
   rw [show decide (0<=o/\o < (S.levels.length:Int))=false from decide_eq_false (fun h=>g h.2)];exact (rfl:_=_)
 ·have c:¬ 0<=o:=by simpa using c
  rw [show decide (0<=o/\o < (S.levels.length:Int))=false from decide_eq_false (fun h=>c h.1)];exact (rfl:_=_)
include hrS hsz
theorem adiff_root (hrl:rt < ND.length) (o:Int) (x y:Val) (hx:x.wt<=1099511627776) (hy:y.wt<=1099511627776) (hrx:rngW x) (hry:rngW y) :
  EvP Tryz.prog 148 [.pt PC 0,.v (.int .i64 o),.agg (dVal x),.agg (dVal y)] (dfD (dfF ND (leqS S) S.levels.length rt o x y)):=by
 have hb:=both_spec hP hlat hR rt hrt o x y hx hy;have hroot:=hP.root;rw [hrt] at hroot;have hbot:=hR.bot;have hD:dfF ND (leqS S) S.levels.length rt o x y=if 0<=o/\o < S.levels.length/\fitV ND x rt=true/\fitV ND y rt=true then diffV ND (leqS S) S.levels.length o.toNat x y rt (botF (leqS S) S.levels.length) else none:=rfl
 generalize dfF ND (leqS S) S.levels.length rt o x y=D at hD ⊢;by_cases hc:0<=o/\o < S.levels.length/\fitV ND x rt=true/\fitV ND y rt=true
 ·rw [if_pos hc] at hD;rw [show decide (0<=o/\o < (S.levels.length:Int))=true from decide_eq_true ⟨hc.1,hc.2.1⟩,hc.2.2.1,hc.2.2.2] at hb;obtain ⟨ob,rfl⟩:∃ n:Nat,o=n:=⟨_,(Int.toNat_of_nonneg hc.1).symm⟩;rw [Int.toNat_natCast] at hD;have hdf:=adiffer_spec hP hR hrS hsz ob (by omega) _ x (Nat.le_refl _) hx hrx y hy hry rt (botF (leqS S) S.levels.length) (botF_lt hR.ok) hc.2.2.1 hc.2.2.2;rw [<- hD] at hdf;have hpl:=fun p h=>diffV_len (ND:=ND) (f:=leqS S) (L:=S.levels.length) (obs:=ob) x y rt (botF (leqS S) S.levels.length) p h;rw [<- hD] at hpl;generalize botF (leqS S) S.levels.length=bt at hbot hdf;obtain ⟨xk,xn,xs,xks⟩:=x;obtain ⟨yk,yn,ys,yks⟩:=y;refine ev_go (P:=Tryz.prog) tt tt_ok 5000 40 [.tmp 8,.tmp 9] Tryz.func148 rfl Tryz.ntmps148 rfl (nL rfl) (fun E9 w9 hn9 hm9=>?_);refine call_p en149 (hb) ax rfl ?_;refine call_p en53 (hlat) ax rfl ?_;refine drawG_i (fun _=>false) mo (by decide +kernel) ?_;refine callD_p en35 (hroot) ax rfl ?_;refine callD_p en247 (hbot) ax rfl ?_;refine callD_f en255 rfl hdf ax (fun res tks hr=>?_)
  match D,hr,hpl with
  | none,hr,_=>
   obtain ⟨rfl,rfl⟩:=hr;refine call_e en256 rfl reverse_nil ax (fun q _=>?_);exact ⟨_,ax,rfl⟩
  | some [],hr,_=>
   obtain ⟨rfl,rfl⟩:=hr;refine call_e en256 rfl reverse_nil ax (fun q _=>?_);exact ⟨.tup [.sl 3 (dStps []) none,.v (.bool true)],ax,rfl⟩
  | some (s :: p),hr,hpl=>
   obtain ⟨rfl,rfl⟩:=hr;have hpl:=hpl (s :: p) rfl;have hrl:(s :: p).reverse.length=p.length + 1:=by rw [List.length_reverse,List.length_cons]
   have hrv:=reverse_spec (s :: p).reverse (by simp) (by rw [hrl];rw [List.length_cons] at hpl;omega);rw [hrl,List.reverse_reverse] at hrv
   have hns:∀ x∈dStps (s :: p),x.length=3:=fun x hx=>by
    obtain ⟨y,_,rfl⟩:=List.mem_map.1 hx;rfl
   have hnl:(dStps (s :: p)).length=p.length + 1:=by rw [dStps_len,List.length_cons]
   have hrep:(List.replicate (p.length + 1) ([]:List DV)).length=p.length + 1:=List.length_replicate;refine call_osw (os:=[]) 0 1 en256 rfl rfl rfl rfl aL hrv (fun r os' tk' hr h1 h2=>?_);subst hr;obtain rfl:=List.eq_nil_of_length_eq_zero h1;refine ⟨_,wk_ownT (t:=11) (k:=0) (ns:=dStps (s :: p)) rfl hns hnl rfl hrep,?_⟩;exact ⟨.tup [.sl 3 (dStps (s :: p)) none,.v (.bool true)],ax,rfl⟩
 ·rw [if_neg hc] at hD;subst hD
  have hf:(decide (0<=o/\o < S.levels.length) && fitV ND x rt && fitV ND y rt)=false:=by
   cases hq:(decide (0<=o/\o < S.levels.length) && fitV ND x rt && fitV ND y rt)
   ·rfl
   ·rw [Bool.and_eq_true,Bool.and_eq_true,decide_eq_true_iff] at hq;exact absurd ⟨hq.1.1.1,hq.1.1.2,hq.1.2,hq.2⟩ hc
  rw [hf] at hb;obtain ⟨xk,xn,xs,xks⟩:=x;obtain ⟨yk,yn,ys,yks⟩:=y;refine ev_go (P:=Tryz.prog) tt tt_ok 5000 40 [.tmp 8,.tmp 9] Tryz.func148 rfl Tryz.ntmps148 rfl (nL rfl) (fun E9 w9 hn9 hm9=>?_);refine call_p en149 (hb) ax rfl ?_;exact ⟨_,ax,rfl⟩
theorem aalike_root (hrl:rt < ND.length) (o:Int) (x y:Val) (hx:x.wt<=1099511627776) (hy:y.wt<=1099511627776) (hrx:rngW x) (hry:rngW y) :
  EvP Tryz.prog 52 [.pt PC 0,.v (.int .i64 o),.agg (dVal x),.agg (dVal y)] (.v (.bool (akF ND (leqS S) S.levels.length rt o x y))):=by
 have hb:=both_spec hP hlat hR rt hrt o x y hx hy;have hd:=adiff_root hP hlat hR hrS hsz rt hrt hrl o x y hx hy hrx hry;have hA:akF ND (leqS S) S.levels.length rt o x y=(decide (0<=o/\o < S.levels.length) && fitV ND x rt && fitV ND y rt && (diffV ND (leqS S) S.levels.length o.toNat x y rt (botF (leqS S) S.levels.length)).isNone):=rfl;have hD:dfF ND (leqS S) S.levels.length rt o x y=if 0<=o/\o < S.levels.length/\fitV ND x rt=true/\fitV ND y rt=true then diffV ND (leqS S) S.levels.length o.toNat x y rt (botF (leqS S) S.levels.length) else none:=rfl
 have hE:akF ND (leqS S) S.levels.length rt o x y=(decide (0<=o/\o < S.levels.length) && fitV ND x rt && fitV ND y rt && !(dfF ND (leqS S) S.levels.length rt o x y).isSome):=by
  rw [hA];cases hq:(decide (0<=o/\o < S.levels.length) && fitV ND x rt && fitV ND y rt)
  ·rfl
  ·rw [Bool.and_eq_true,Bool.and_eq_true,decide_eq_true_iff] at hq;rw [hD,if_pos ⟨hq.1.1.1,hq.1.1.2,hq.1.2,hq.2⟩];cases diffV ND (leqS S) S.levels.length o.toNat x y rt (botF (leqS S) S.levels.length)<;>rfl
 rw [hE];clear hE hD hA;generalize dfF ND (leqS S) S.levels.length rt o x y=D at hd ⊢;generalize (decide (0<=o/\o < S.levels.length) && fitV ND x rt && fitV ND y rt)=B at hb ⊢;obtain ⟨xk,xn,xs,xks⟩:=x;obtain ⟨yk,yn,ys,yks⟩:=y
 cases D with
 | none=>
  refine ev_go (P:=Tryz.prog) tt tt_ok 5000 28 [.tmp 8] Tryz.func52 rfl Tryz.ntmps52 rfl (nL rfl) (fun E9 w9 hn9 hm9=>?_);refine call_p en148 (hd) ax rfl ?_;refine call_p en149 (hb) ax rfl ?_;cases B<;>exact (rfl:_=_)
 | some p=>
  refine ev_go (P:=Tryz.prog) tt tt_ok 5000 28 [.tmp 8] Tryz.func52 rfl Tryz.ntmps52 rfl (nL rfl) (fun E9 w9 hn9 hm9=>?_);refine call_p en148 (hd) ax rfl ?_;refine call_p en149 (hb) ax rfl ?_;cases B<;>exact (rfl:_=_)
end
theorem fine28_spec (S:Sch) (hS:S.wt<=1099511627776) (x y:Val) (hx:x.wt<=1099511627776) (hy:y.wt<=1099511627776) :
  Ev Tryz.prog 47 [.agg (dSch S),.agg (dVal x ++ dVal y)] [] [] (fun r _ _=>∃ b:Bool,r = .v (.bool b)/\(b=true->Fine21 S)):=by
 have ga:=great17_spec S hS;have hf:=fine21_spec S hS;have h1:=size25_spec x.wt x (Nat.le_refl _) hx;have h2:=size25_spec y.wt y (Nat.le_refl _) hy;generalize cntV x=c1 at h1;generalize cntV y=c2 at h2;generalize depV x=d1 at h1;generalize depV y=d2 at h2;obtain ⟨levels,order,types,⟨rh,rp⟩⟩:=S;obtain ⟨xk,xn,xs,xks⟩:=x;obtain ⟨yk,yn,ys,yks⟩:=y;refine ev_go (P:=Tryz.prog) tt tt_ok 5000 36 [.tmp 4] Tryz.func47 rfl Tryz.ntmps47 rfl (nL rfl) (fun E9 w9 hn9 hm9=>?_);refine ⟨⟨by decide,by decide⟩,?_⟩;refine call_p en30 (h1) ax rfl ?_;refine ⟨⟨by decide,by decide⟩,?_⟩;refine call_p en30 (h2) ax rfl ?_;refine br (fun c=>?_) (fun c=>?_)
 ·refine call_e en31 rfl ga ax (fun r hr=>?_);obtain ⟨g,rfl⟩:=hr
  cases g with
  | true=>
   refine ⟨false,?_,fun h=>by cases h⟩;refine (congrArg (fun b=>DV.v (.bool b)) ?_:_=_);simp only [pickB_and,Bool.not_true,Bool.and_false,Bool.false_and]
  | false=>
   refine call_e en137 rfl hf ax (fun r hr=>?_);obtain ⟨b,rfl,hb⟩:=hr;exact ⟨b,rfl,hb⟩
 ·exact ⟨false,rfl,fun h=>by cases h⟩
def exP28:Sch:=⟨[⟨⟨#[108,111,119]⟩,0⟩,⟨⟨#[104,105,103,104]⟩,0⟩],[(⟨⟨#[108,111,119]⟩,0⟩,⟨⟨#[104,105,103,104]⟩,0⟩)],[],.mk (exH 7) (.cons ⟨⟨⟨#[120]⟩,0⟩,false,[⟨⟨#[104,105,103,104]⟩,0⟩],0,0,0,0,[]⟩ (.mk (exH 1) .nil) .nil)⟩
def exA28:Val:=.mk 7 0 emptyB [.mk 1 1 emptyB []]
def exB28:Val:=.mk 7 0 emptyB [.mk 1 0 emptyB []]
theorem ex28_fine:(resF exP28).1=0:=by decide +kernel
theorem ex28_root:resRoot exP28=((resRoot exP28).toNat:Nat)/\(resRoot exP28).toNat < (resNds exP28).length:=by decide +kernel
theorem ex28_low:akF (resNds exP28) (leqS exP28) exP28.levels.length (resRoot exP28).toNat 0 exA28 exB28=true:=by decide +kernel
theorem ex28_high:akF (resNds exP28) (leqS exP28) exP28.levels.length (resRoot exP28).toNat 1 exA28 exB28=false:=by decide +kernel
theorem lives28_spec:EvP Tryz.prog 48 [] (.v (.bool true)):=by
 have hwt:exP28.wt<=1099511627776:=by decide +kernel
 have hb:=(build_spec exP28 hwt).mono (Ψ:=fun r _ _=>BuiltΦ exP28 r) fun _ _ _ h=>builtΦ_of hwt h;refine ev_go (P:=Tryz.prog) tt tt_ok 5000 47 [.tmp 0] Tryz.func48 rfl Tryz.ntmps48 rfl (nL rfl) (fun E9 w9 hn9 hm9=>?_);refine call_e en21 rfl hb ax (fun r hr=>?_);rcases hr with ⟨hr,_⟩ | ⟨_,PC,hP,rfl⟩
 ·exact (hr ex28_fine).elim
 obtain ⟨LC,hlat,hR⟩:=hP.latR;have hrng:∀ n∈resNds exP28,rngN n:=fun n hn=>resNds_rng (S:=exP28) (by simp [exP28,rngS,rngT,rngP,exH,I64]) hn;have hsz:∀ n∈resNds exP28,n.edges.length<=1099511627776:=fun n hn=>(resNds_sz hn hwt).2
 have hA:∀ v ∈ [exA28,exB28],v.wt<=1099511627776/\rngW v:=by
  intro v hv;simp only [List.mem_cons,List.not_mem_nil,or_false] at hv;rcases hv with rfl | rfl<;>exact ⟨by decide +kernel,by simp [exA28,exB28,rngW,rngWs,I64]⟩
 have hl:=fun o=>aalike_root hP hlat hR hrng hsz (resRoot exP28).toNat ex28_root.1 ex28_root.2 o exA28 exB28 (hA _ (by simp)).1 (hA _ (by simp)).1 (hA _ (by simp)).2 (hA _ (by simp)).2;have h0:=hl 0;have h1:=hl 1;rw [ex28_low] at h0;rw [ex28_high] at h1;refine call_p en52 (h0) ax rfl ?_;refine call_p en52 (h1) ax rfl ?_;exact (rfl:_=_)
end Go.Proofs.YtadbccicdbopcaaGreat
set_option maxRecDepth 100000
namespace Go.Proofs.YtadbccicdbopcaaGreat
open Go Go.RowKit Dv Tryz
end Go.Proofs.YtadbccicdbopcaaGreat
set_option maxRecDepth 100000
namespace Go.Proofs.YtadbccicdbopcaaGreat
open Go Go.RowKit Dv Tryz
section
variable (ND:List Nd) (f:Nat->Nat->Bool) (n obs:Nat)
def unsV:List Stp->Nat->Nat->Bool
 | [],_,_=>false
 | s :: p,i,a=>match ND[i]? with
  | none=>false
  | some d=>match edgeI d s with
   | none=>false
   | some k=>match d.edges[k]? with
    | none=>false
    | some e=>if howF f n obs d e a=2 then unsV p e.to.toNat (jnF f n a e.label.toNat) else decide (howF f n obs d e a=0)
end
def hideF (ND:List Nd) (f:Nat->Nat->Bool) (n rt:Nat) (o:Int) (p:List Stp):Bool:=(walkV ND f n p rt (botF f n)).isSome && decide (0<=o/\o < n) && unsV ND f n o.toNat p rt (botF f n)
theorem und_jn {S:Sch} (hF:FineS S) {d:Nd} (hd:d∈resNds S) {e:Ed} (he:e∈d.edges) {a:Nat} (ha:a < S.levels.length):undF (leqS S) S.levels.length d e a=jnF (leqS S) S.levels.length a e.label.toNat:=by
 unfold undF;split
 ·rename_i h;obtain ⟨i,hi,hg⟩:=List.getElem_of_mem hd;have hN:=resNds_ok hF (List.getElem?_eq_some_iff.2 ⟨hi,hg⟩)
  have h56:d.kind=5∨d.kind=6:=by
   by_cases h5:d.kind < 5
   ·rw [hN.leaf h5] at he;cases he
   ·omega
  obtain ⟨e',h1,h2,h3,h4⟩:=resNds_one hF (i:=i) (n:=d) (by rw [gE hi,hg]) h56;rw [h1] at he;have:=List.mem_singleton.1 he;subst this;rw [h3,Int.toNat_natCast,jnF_bot (latOK_of hF.lat).1 ha]
 ·rfl
def nameP (es:List Ed) (s:ByteArray) (k:Nat):Bool:=match es[k]? with | some e=>decide (e.name=s) | none=>false
theorem clos_spec (x:Ed) (s:Stp):EvP Tryz.prog 142 [.agg (dEd x),.pt (dStp s) 0] (.v (.bool (decide (x.name=s.s)))):=by
 obtain ⟨en,eb,ea,et,elb,ew,eck,ecn,ese,eca⟩:=x;obtain ⟨sk,sn,ss⟩:=s;refine ev_go (P:=Tryz.prog) tt tt_ok 5000 9 [.tmp 3] Tryz.func142 rfl Tryz.ntmps142 rfl (nL rfl) (fun E9 w9 hn9 hm9=>?_);exact (rfl:_=_)
abbrev ixfSt (es:List Ed) (s:Stp) (e:Nat):St:=
 ⟨[(0,⟨[],.sl 10 (dEds es) none⟩),(1,⟨[],.fn 142 [] [.pt (dStp s) 0]⟩),(7,⟨[],.v (.int .i64 (dEds es).length)⟩),(8,⟨[],.v (.int .i64 e)⟩)],[],[]⟩
theorem ixf_spec (es:List Ed) (s:Stp) (hel:es.length<=1099511627776) :
  EvP Tryz.prog 141 [.sl 10 (dEds es) none,.fn 142 [] [.pt (dStp s) 0]] (.v (.int .i64 (oz (firstN (nameP es s.s) es.length)))):=by
 have hdl:=dEds_len es;refine ev_go (P:=Tryz.prog) tt tt_ok 5000 19 [.tmp 4] Tryz.func141 rfl Tryz.ntmps141 rfl (nL rfl) (fun E9 w9 hn9 hm9=>?_);refine loop_i (fun j st=>∃ e:Nat,st=ixfSt es s e/\e<=es.length/\(∀ c,c < e->nameP es s.s c=false)/\j=es.length - e) es.length (ixfSt es s 0) (weak_mk ⟨_,rfl⟩ wA rfl rfl rfl wB) ⟨0,rfl,by omega,fun _ h=>by omega,by omega⟩ ?_;rintro j st ⟨e,rfl,he,hno,rfl⟩;refine br (fun hL=>?_) (fun hL=>?_)
 ·have hlt:e < es.length:=by simpa [hdl] using hL
  obtain ⟨x,hx⟩:∃ x,es[e]? = some x:=⟨_,gE hlt⟩;have hP:nameP es s.s e=decide (x.name=s.s):=by unfold nameP;rw [hx]
  refine ⟨_,⟨by omega,dEds_get hx⟩,?_⟩;refine call_p en142 (clos_spec x s) ax rfl ?_;refine br (fun g=>?_) (fun g=>?_)
  ·rw [firstN_some hlt (hP.trans g) hno];exact (rfl:_=_)
  ·exact ⟨ixfSt es s (e + 1),(weak_mk ⟨_,rfl⟩ wA rfl rfl rfl (wNB hlt)),es.length - (e + 1),by omega,e + 1,rfl,by omega,fun c hc2=>by
     rcases Nat.lt_succ_iff_lt_or_eq.1 hc2 with h | h
     ·exact hno c h
     ·rw [h];exact hP.trans g,rfl⟩
 ·have hge:e=es.length:=by have:=hL;simp [hdl] at this;omega
  subst hge;rw [firstN_none hno];exact (rfl:_=_)
theorem edge_name {L:Nat} {ND:List Nd} {d:Nd} (hN:NdOK L ND.length d) {s:Stp} {k:Nat} (h:edgeI d s=some k):firstN (nameP d.edges s.s) d.edges.length=some k:=by
 obtain ⟨e,he,hB,hr⟩:=edgeI_some h;have hk:=(gS he).1
 have hsk:s.s=e.name/\(d.kind=5∨d.kind=6∨d.kind=7∨d.kind=8):=by
  have hone:=hN.one;unfold edgeB at hB;unfold rightS at hr;simp only [Bool.or_eq_true,Bool.and_eq_true,decide_eq_true_eq] at hB;rcases hB with ((h | h) | h) | h
  ·exact ⟨h.2.1.symm,by omega⟩
  ·exact ⟨h.2.1.symm,by omega⟩
  ·obtain ⟨e',h1,_,h3⟩:=hone (.inl h.1.2);rw [h1] at he
   have:e=e':=by
    rw [h1,List.length_singleton] at hk;obtain rfl:k=0:=by omega
    simpa using he.symm
   subst this;rw [h3];refine ⟨?_,by omega⟩;rcases h.1.1 with h | h<;>rw [h] at hr<;>simp at hr<;>exact hr.2
  ·obtain ⟨e',h1,_,h3⟩:=hone (.inr h.2);rw [h1] at he
   have:e=e':=by
    rw [h1,List.length_singleton] at hk;obtain rfl:k=0:=by omega
    simpa using he.symm
   subst this;rw [h3];refine ⟨?_,by omega⟩;rw [h.1] at hr;simp at hr;exact hr.2
 refine firstN_some hk (by unfold nameP;rw [he];exact decide_eq_true hsk.1.symm) fun c hc=>?_
 cases hp:nameP d.edges s.s c with
 | false=>rfl
 | true=>
  exfalso;have hcl:c < d.edges.length:=by omega
  unfold nameP at hp;rw [gE hcl] at hp;have hp:=of_decide_eq_true hp;rcases hsk.2 with h5 | h6 | h78
  ·obtain ⟨e',h1,_⟩:=hN.one (.inl h5);rw [h1,List.length_singleton] at hk;omega
  ·obtain ⟨e',h1,_⟩:=hN.one (.inr h6);rw [h1,List.length_singleton] at hk;omega
  ·have hnd:=(hN.many h78).2.2.1;have he2:=(gS he).2;have:=List.pairwise_iff_getElem.1 (List.nodup_iff_pairwise_ne.1 hnd) c k (by simpa using hcl) (by simpa using hk) hc;rw [List.getElem_map,List.getElem_map,he2] at this;exact this (hp.trans hsk.1)
theorem walkV_app {ND:List Nd} {f:Nat->Nat->Bool} {n:Nat}:∀ (p:List Stp) (s:Stp) (i a:Nat),walkV ND f n (p ++ [s]) i a=match walkV ND f n p i a with | none=>none | some (j,b)=>walkV ND f n [s] j b
 | [],s,i,a=>by rw [List.nil_append,walkV]
 | t :: p,s,i,a=>by
  rw [List.cons_append,walkV,walkV]
  cases ND[i]? with
  | none=>rfl
  | some d=>
   simp only
   cases edgeI d t with
   | none=>rfl
   | some k=>
    simp only
    cases d.edges[k]? with
    | none=>rfl
    | some e=>exact walkV_app p s _ _
abbrev unsSt (PC LC:List DV) (obs:Nat) (p:List Stp) (e:Nat):St:=
 ⟨[(0,⟨[],.pt PC 0⟩),(1,⟨[],.v (.int .i64 obs)⟩),(2,⟨[],.sl 3 (dStps p) none⟩),(10,⟨[],.loc 0 0⟩),(48,⟨[],.sl 3 (dStps p) none⟩),(49,⟨[],.v (.int .i64 (dStps p).length)⟩),(50,⟨[],.v (.int .i64 e)⟩)],[eyD PC LC obs],[]⟩
theorem eunseen_spec {S:Sch} {ND:List Nd} {PC LC:List DV} (hP:PlanR S ND PC) (hlat:EvP Tryz.prog 53 [.pt PC 0] (.pt LC 0)) (hR:LatR S.levels.length (leqS S) (nmTx S.levels) LC) (hU:∀ d∈ND,∀ e∈d.edges,∀ a,a < S.levels.length->undF (leqS S) S.levels.length d e a=jnF (leqS S) S.levels.length a e.label.toNat) (hsz:∀ n∈ND,n.edges.length<=1099511627776) (rt:Nat) (hrt:resRoot S=rt) (hrl:rt < ND.length) (o:Int) (p:List Stp) (hp:p.length<=1099511627776) (hs:∀ s∈p,s.s.size<=4611686018427387904) :
  EvP Tryz.prog 49 [.pt PC 0,.v (.int .i64 o),.sl 3 (dStps p) none] (.v (.bool (hideF ND (leqS S) S.levels.length rt o p))):=by
 have hw:=fun q hq hq'=>ewalk_spec hP q hq hq' rt hrt hrl;have hw0:=hw p hp hs;have hlen:=hR.len;have hH:hideF ND (leqS S) S.levels.length rt o p=((walkV ND (leqS S) S.levels.length p rt (botF (leqS S) S.levels.length)).isSome && decide (0<=o/\o < S.levels.length) && unsV ND (leqS S) S.levels.length o.toNat p rt (botF (leqS S) S.levels.length)):=rfl;rw [hH];clear hH
 cases hW:walkV ND (leqS S) S.levels.length p rt (botF (leqS S) S.levels.length) with
 | none=>
  rw [hW] at hw0;refine ev_go (P:=Tryz.prog) tt tt_ok 5000 107 [.tmp 6] Tryz.func49 rfl Tryz.ntmps49 rfl (nL rfl) (fun E9 w9 hn9 hm9=>?_);refine call_p en138 (hw0) ax rfl ?_;exact (rfl:_=_)
 | some jb=>
 obtain ⟨j0,b0⟩:=jb;rw [hW] at hw0;have hw0:EvP Tryz.prog 138 [.pt PC 0,.sl 3 (dStps p) none] (.tup [.v (.int .i64 (j0:Nat)),.v (.int .i64 (b0:Nat)),.v (.bool true)]):=hw0;by_cases ho:0<=o/\o < S.levels.length
 ·rw [decide_eq_true ho,Option.isSome_some,Bool.true_and,Bool.true_and];obtain ⟨ob,rfl⟩:∃ n:Nat,o=n:=⟨_,(Int.toNat_of_nonneg ho.1).symm⟩;rw [Int.toNat_natCast];have hob:ob < S.levels.length:=by omega
  have hdp:=dStps_len p;refine ev_go (P:=Tryz.prog) tt tt_ok 5000 107 [.tmp 6] Tryz.func49 rfl Tryz.ntmps49 rfl (nL rfl) (fun E9 w9 hn9 hm9=>?_);refine call_p en138 (hw0) ax rfl ?_;refine call_p en53 (hlat) ax rfl ?_;refine call_p en139 (hlen) ax rfl ?_;refine br (fun c=>?_) (fun c=>?_)
  ·exfalso;have c:(S.levels.length:Int)<=ob:=by simpa [pickB] using c
   omega
  refine call_p en53 (hlat) ax rfl ?_;refine loop_i (fun j st=>∃ e:Nat,st=unsSt PC LC ob p e/\e<=p.length/\(∃ i b,i < ND.length/\b < S.levels.length/\walkV ND (leqS S) S.levels.length (p.take e) rt (botF (leqS S) S.levels.length)=some (i,b)/\walkV ND (leqS S) S.levels.length (p.drop e) i b=some (j0,b0)/\unsV ND (leqS S) S.levels.length ob p rt (botF (leqS S) S.levels.length)=unsV ND (leqS S) S.levels.length ob (p.drop e) i b)/\j=p.length - e) p.length (unsSt PC LC ob p 0) (weak_mk ⟨_,rfl⟩ wA rfl rfl rfl wB) ⟨0,rfl,by omega,⟨rt,_,hrl,botF_lt hR.ok,rfl,hW,rfl⟩,by omega⟩ ?_;rintro j st ⟨e,rfl,he,⟨i,b,hi,hb,hw1,hw2,hun⟩,rfl⟩;refine br (fun hL=>?_) (fun hL=>?_)
  ·have hlt:e < p.length:=by simpa [hdp] using hL
   obtain ⟨s,hs'⟩:∃ s,p[e]? = some s:=⟨_,gE hlt⟩;have hk1:=hw (p.take e) (by rw [List.length_take];omega) (fun q hq=>hs q (List.mem_of_mem_take hq));have hk2:=hw (p.take (e + 1)) (by rw [List.length_take];omega) (fun q hq=>hs q (List.mem_of_mem_take hq));rw [hw1] at hk1;have hk1:EvP Tryz.prog 138 [.pt PC 0,.sl 3 (dStps (p.take e)) none] (.tup [.v (.int .i64 (i:Nat)),.v (.int .i64 (b:Nat)),.v (.bool true)]):=hk1;rw [drop_cons hs'] at hw2 hun;obtain ⟨d,hd⟩:∃ d,ND[i]? = some d:=⟨_,gE hi⟩;have hdm:=mG hd;have hN:=hP.ok d hdm;have hds:=hsz d hdm;rw [walkV,hd] at hw2;rw [unsV,hd] at hun;simp only at hw2 hun
   cases hk:edgeI d s with
   | none=>rw [hk] at hw2;cases hw2
   | some k=>
   rw [hk] at hw2 hun;simp only at hw2 hun;obtain ⟨ed,hed,hB,_⟩:=edgeI_some hk;rw [hed] at hw2 hun;simp only at hw2 hun;have hem:=mG hed;have hname:=edge_name hN hk;have hix:=ixf_spec d.edges s hds;rw [hname] at hix;obtain ⟨h0,⟨h2,h2'⟩,h3,h3'⟩:=edge_nums hN hem;have h0:=h0 (edgeB_bare hN hem hB)
   have htk:walkV ND (leqS S) S.levels.length (p.take (e + 1)) rt (botF (leqS S) S.levels.length)=some (ed.to.toNat,jnF (leqS S) S.levels.length b ed.label.toNat):=by
    rw [List.take_add_one,hs'];simp only [Option.toList];rw [walkV_app,hw1];simp only;rw [walkV,hd];simp only;rw [hk];simp only;rw [hed];simp only;rw [walkV]
   rw [htk] at hk2;have hjl:=jnF_lt hR.ok hb h2';have hund:=hU d hdm ed hem b hb;have hseen:=asees_spec hR PC ob _ hob hjl;have hjn:=hR.join b ed.seen.toNat hb h3';have hseen2:=asees_spec hR PC ob _ hob (jnF_lt hR.ok hb h3');rw [<- h3] at hjn;have hnode:=hP.node i d hd
   have hhow:howF (leqS S) S.levels.length ob d ed b=if leqS S (jnF (leqS S) S.levels.length b ed.label.toNat) ob=true then 2 else if ed.ck≠0/\leqS S (jnF (leqS S) S.levels.length b ed.seen.toNat) ob=true then 1 else 0:=by
    rw [howF_eq,hund]
   rw [hhow] at hun;clear hhow hund hB hname hk;have htk1:=hw2;have htk2:=htk;generalize jnF (leqS S) S.levels.length b ed.label.toNat=J1 at hk2 hjl hseen hun htk1 htk2;generalize jnF (leqS S) S.levels.length b ed.seen.toNat=J2 at hjn hseen2 hun;generalize leqS S J1 ob=F1 at hseen hun;generalize leqS S J2 ob=F2 at hseen2 hun;have hk2:EvP Tryz.prog 138 [.pt PC 0,.sl 3 (dStps (p.take (e + 1))) none] (.tup [.v (.int .i64 (ed.to.toNat:Nat)),.v (.int .i64 (J1:Nat)),.v (.bool true)]):=hk2;obtain ⟨sk,sn,ss⟩:=s
   have ht1:DV.sl 3 (((dStps p).take ((e:Nat):Int).toNat).drop (0:Int).toNat) none = .sl 3 (dStps (p.take e)) none:=by
    rw [Int.toNat_natCast];show DV.sl 3 ((dStps p).take e) none=_;unfold dStps;rw [List.map_take]
   have ht2:DV.sl 3 (((dStps p).take (IntKind.i64.wrap ((e:Int) + 1)).toNat).drop (0:Int).toNat) none = .sl 3 (dStps (p.take (e + 1))) none:=by
    rw [nxt hlt (by omega),Int.toNat_natCast];show DV.sl 3 ((dStps p).take (e + 1)) none=_;unfold dStps;rw [List.map_take]
   have hnx:=nxt hlt (show p.length<=4611686018427387904 by omega);refine ⟨_,⟨by omega,dStps_get hs'⟩,?_⟩;refine ⟨⟨by omega,by omega,by omega⟩,?_⟩;refine call_p en138 (hk1) (by repeat' (first | exact rfl | exact trivial | exact Or.inr (Or.inl ⟨_,rfl⟩) | exact Or.inr ⟨_,rfl⟩ | exact Or.inl ⟨rfl,rfl⟩ | exact Or.inl rfl | refine Or.inr ⟨_,_,rfl,Nat.zero_le _,rfl,?_⟩ | refine ⟨_,_,rfl,?_,?_⟩ | refine ⟨_,rfl,?_⟩ | exact Or.inr (Or.inl ⟨_,ht1⟩)| refine Or.inr (Or.inr (Or.inr ⟨_,_,rfl,?_⟩)) | exact Or.inl rfl | refine Or.inr ?_)) rfl ?_;refine ⟨⟨by omega,by omega,by omega⟩,?_⟩;refine call_p en138 (hk2) (by repeat' (first | exact rfl | exact trivial | exact Or.inr (Or.inl ⟨_,rfl⟩) | exact Or.inr ⟨_,rfl⟩ | exact Or.inl ⟨rfl,rfl⟩ | exact Or.inl rfl | refine Or.inr ⟨_,_,rfl,Nat.zero_le _,rfl,?_⟩ | refine ⟨_,_,rfl,?_,?_⟩ | refine ⟨_,rfl,?_⟩ | exact Or.inr (Or.inl ⟨_,ht2⟩)| refine Or.inr (Or.inr (Or.inr ⟨_,_,rfl,?_⟩)) | exact Or.inl rfl | refine Or.inr ?_)) rfl ?_;refine call_p en140 (hseen) ax rfl ?_;refine br (fun c=>?_) (fun c=>?_)
   ·subst c;rw [if_pos rfl,if_pos rfl] at hun;exact ⟨unsSt PC LC ob p (e + 1),(weak_b 1 rfl (by repeat' (first | exact rfl | exact we_rfl rfl | exact we_int hnx | refine ⟨_,_,rfl,?_,?_⟩)) rfl rfl rfl (by repeat' (first | exact trivial | exact we_rfl rfl | exact we_int hnx | refine ⟨⟨_,rfl,?_⟩,?_⟩))),p.length - (e + 1),by omega,e + 1,rfl,by omega,⟨ed.to.toNat,J1,h0.2,hjl,htk2,htk1,hun⟩,rfl⟩
   ·subst c
    have hun:unsV ND (leqS S) S.levels.length ob p rt (botF (leqS S) S.levels.length)=(decide (ed.ck=0) || !F2):=by
     rw [hun,if_neg (show ¬ (false=true) by simp),if_neg (by split<;>simp)];cases F2<;>by_cases hc:ed.ck=0<;>simp [hc]
    obtain ⟨kind,at',lo,hi',most,names,es⟩:=d;obtain ⟨en,eb,ea,et,elb,ew,eck,ecn,ese,eca⟩:=ed;simp only at hed hix hun hjn;refine call_p en100 (hnode) ax rfl ?_;refine call_b en141 hix ax rfl ?_;refine ⟨_,⟨by simp [oz],by simpa [oz] using dEds_get hed⟩,?_⟩;rw [hun];refine drawG_i (fun _=>false) mo (by decide +kernel) ?_;refine br (fun c=>?_) (fun c=>?_)
    ·have c:¬ eck=0:=by simpa using c
     refine callD_p en143 (hjn) ax rfl ?_;refine callD_p en140 (hseen2) ax rfl ?_;refine (congrArg (fun b=>DV.v (.bool b)) ?_:_=_);simp [c,pickB]
    ·have c:eck=0:=by simpa using c
     refine (congrArg (fun b=>DV.v (.bool b)) ?_:_=_);simp [c,pickB]
  ·have hge:e=p.length:=by have:=hL;simp [hdp] at this;omega
   subst hge;rw [hun,List.drop_length,unsV];exact (rfl:_=_)
 ·rw [decide_eq_false ho,Bool.and_false,Bool.false_and];by_cases h0:o < 0
  ·refine ev_go (P:=Tryz.prog) tt tt_ok 5000 107 [.tmp 6] Tryz.func49 rfl Tryz.ntmps49 rfl (nL rfl) (fun E9 w9 hn9 hm9=>?_);refine call_p en138 (hw0) ax rfl ?_;refine br (fun c=>?_) (fun c=>?_)
   ·exfalso;simp [pickB] at c;omega
   exact (rfl:_=_)
  ·refine ev_go (P:=Tryz.prog) tt tt_ok 5000 107 [.tmp 6] Tryz.func49 rfl Tryz.ntmps49 rfl (nL rfl) (fun E9 w9 hn9 hm9=>?_);refine call_p en138 (hw0) ax rfl ?_;refine br (fun c=>?_) (fun c=>?_)
   ·refine call_p en53 (hlat) ax rfl ?_;refine call_p en139 (hlen) ax rfl ?_;refine br (fun c=>?_) (fun c=>?_)
    ·exact (rfl:_=_)
    exfalso;simp [pickB] at c;omega
   ·exfalso;simp [pickB] at c;omega
theorem unseen28_spec (lv:List Wd) (f:Nat->Nat->Bool) (ND:List Nd) (z:Int) (hL:LatOK f lv.length) (hn:lv.length<=32) (hok:∀ n∈ND,NdOK lv.length ND.length n) (hsz:∀ n∈ND,n.edges.length<=1099511627776) (hU:∀ d∈ND,∀ e∈d.edges,∀ a,a < lv.length->undF f lv.length d e a=jnF f lv.length a e.label.toNat) (obs:Nat) (ho:obs < lv.length) :
  ∀ (p:List Stp),p.length<=1099511627776->(∀ s∈p,s.s.size<=4611686018427387904)->∀ (i a:Nat),i < ND.length->a < lv.length->(walkV ND f lv.length p i a).isSome=true ->
   EvP Tryz.prog 146 [.agg (wL lv f ND z),.v (.int .i64 obs),.v (.int .i64 i),.v (.int .i64 a),.sl 3 (dStps p) none] (.v (.bool (unsV ND f lv.length obs p i a)))
 | [],_,_,i,a,hi,ha,_=>by
  refine ev_go (P:=Tryz.prog) tt tt_ok 5000 53 [.tmp 10] Tryz.func146 rfl Tryz.ntmps146 rfl (nL rfl) (fun E9 w9 hn9 hm9=>?_);exact (rfl:_=_)
 | s :: p,hp,hs,i,a,hi,ha,hwk=>by
  obtain ⟨d,hd⟩:∃ d,ND[i]? = some d:=⟨_,gE hi⟩;have hm:=mG hd;have hN:=hok d hm;have hed:=edge20_spec d s (hsz d hm) (hs s (by simp));have htail:=sl_tl s p;have hds:=dStps_get (l:=s :: p) (e:=0) rfl;have hdsl:=dStps_len (s :: p);rw [List.length_cons] at hdsl hp;have hNl:=dNds_len ND;have ih:=fun i a hi ha h=>unseen28_spec lv f ND z hL hn hok hsz hU obs ho p (by omega) (fun s hs'=>hs s (by simp [hs'])) i a hi ha h;rw [walkV,hd] at hwk
  have hUV:unsV ND f lv.length obs (s :: p) i a=match edgeI d s with
   | none=>false
   | some k=>match d.edges[k]? with
    | none=>false
    | some e=>if howF f lv.length obs d e a=2 then unsV ND f lv.length obs p e.to.toNat (jnF f lv.length a e.label.toNat) else decide (howF f lv.length obs d e a=0):=by rw [unsV,hd];all_goals rfl
  rw [hUV];clear hUV;simp only at hwk
  cases hk:edgeI d s with
  | none=>rw [hk] at hwk;cases hwk
  | some k=>
   rw [hk] at hwk hed;simp only at hwk ⊢;obtain ⟨e,he,hB,_⟩:=edgeI_some hk;have hme:=mG he;rw [he] at hwk ⊢;simp only at hwk ⊢;obtain ⟨h0,⟨h2,h2'⟩,_⟩:=edge_nums hN hme;obtain ⟨h1,h1'⟩:=h0 (edgeB_bare hN hme hB);have hun:=under27_spec lv f ND z hL hn d e a ha hN hme;have hund:=hU d hm e hme a ha;unfold undF at hund;rw [hund] at hun;have hho:=how27_spec lv f ND z hL hn d e obs a ho ha hN hme;have ih:=ih e.to.toNat (jnF f lv.length a e.label.toNat) h1' (jnF_lt hL ha h2') hwk;rw [<- h1] at ih;generalize unsV ND f lv.length obs p e.to.toNat (jnF f lv.length a e.label.toNat)=UV at ih ⊢;generalize jnF f lv.length a e.label.toNat=J at hun ih;generalize howF f lv.length obs d e a=H at hho ⊢;clear hund h0 h2 hk hB hwk hN;obtain ⟨en,eb,ea,et,elb,ew,eck,ecn,ese,eca⟩:=e;obtain ⟨kind,at',lo,hi',most,names,es⟩:=d;obtain ⟨sk,sn,ss⟩:=s;have hel:=dEds_len es;simp only at he ih;refine ev_go (P:=Tryz.prog) tt tt_ok 5000 53 [.tmp 10] Tryz.func146 rfl Tryz.ntmps146 rfl (nL rfl) (fun E9 w9 hn9 hm9=>?_);refine ⟨_,⟨by omega,dNds_get hd⟩,?_⟩;have hei:=dEds_get he;apply drawG_x (fun _=>false) 9 [0,1,2,3,4,5,6,7,8] [10] mo (by decide +kernel);·repeat' (first | refine callD_p en251 (hed) ax rfl ?_ | refine ⟨_,⟨by omega,hds⟩,?_⟩ | refine ⟨_,⟨by simp [oz],by simpa [oz] using hei⟩,?_⟩ | exact Or.inl rfl | exact endS | refine ⟨?_,?_⟩)
   refine call_p en253 (hho) ax rfl ?_;refine br (fun c=>?_) (fun c=>?_)
   ·have c:H=2:=by
     have:=of_decide_eq_true c;omega
    rw [if_pos c];refine drawG_i (fun _=>false) mo (by decide +kernel) ?_;refine callD_p en254 (hun) ax rfl ?_;refine ⟨⟨by omega,by omega,by omega⟩,?_⟩;refine callD_p en146 (ih) (by repeat' (first | exact rfl | exact trivial | exact Or.inr (Or.inl ⟨_,rfl⟩) | exact Or.inr ⟨_,rfl⟩ | exact Or.inl ⟨rfl,rfl⟩ | exact Or.inl rfl | refine Or.inr ⟨_,_,rfl,Nat.zero_le _,rfl,?_⟩ | refine ⟨_,_,rfl,?_,?_⟩ | refine ⟨_,rfl,?_⟩ | exact Or.inr (Or.inl ⟨_,htail⟩)| refine Or.inr (Or.inr (Or.inr ⟨_,_,rfl,?_⟩)) | exact Or.inl rfl | refine Or.inr ?_)) rfl ?_;exact (rfl:_=_)
   ·have c:¬ H=2:=by
     have:=of_decide_eq_false c;omega
    rw [if_neg c];refine (congrArg (fun b=>DV.v (.bool b)) ?_:_=_);by_cases h:H=0<;>simp [h]
theorem hides28_spec (lv:List Wd) (f:Nat->Nat->Bool) (ND:List Nd) (rt:Nat) (hrl:rt < ND.length) (hL:LatOK f lv.length) (hn:lv.length<=32) (hok:∀ n∈ND,NdOK lv.length ND.length n) (hsz:∀ n∈ND,n.edges.length<=1099511627776) (hU:∀ d∈ND,∀ e∈d.edges,∀ a,a < lv.length->undF f lv.length d e a=jnF f lv.length a e.label.toNat) (o:Int) (p:List Stp) (hp:p.length<=1099511627776) (hs:∀ s∈p,s.s.size<=4611686018427387904) :
  EvP Tryz.prog 50 [.agg (wL lv f ND (rt:Nat)),.v (.int .i64 o),.sl 3 (dStps p) none] (.v (.bool (hideF ND f lv.length rt o p))):=by
 have hb:=bottom20_spec lv.length f (by omega);rw [botF_some hL] at hb;have hml:=dMatB_len lv.length f;have hbl:=botF_lt hL;have hw:=walk20_spec lv f ND (rt:Nat) hL hn hok hsz p hp hs rt (botF f lv.length) hrl hbl;have hu:=fun (obs:Nat) (ho:obs < lv.length)=>unseen28_spec lv f ND (rt:Nat) hL hn hok hsz hU obs ho p hp hs rt (botF f lv.length) hrl hbl;have hH:hideF ND f lv.length rt o p=((walkV ND f lv.length p rt (botF f lv.length)).isSome && decide (0<=o/\o < lv.length) && unsV ND f lv.length o.toNat p rt (botF f lv.length)):=rfl;rw [hH];clear hH;generalize walkV ND f lv.length p rt (botF f lv.length)=W at hw hu ⊢
 cases W with
 | none=>
  refine ev_go (P:=Tryz.prog) tt tt_ok 5000 44 [.tmp 6] Tryz.func50 rfl Tryz.ntmps50 rfl (nL rfl) (fun E9 w9 hn9 hm9=>?_);refine call_p en144 (hb) ax rfl ?_;refine call_p en145 (hw) ax rfl ?_;exact (rfl:_=_)
 | some r=>
  by_cases ho:0<=o/\o < lv.length
  ·rw [decide_eq_true ho,Option.isSome_some,Bool.true_and,Bool.true_and];have hu:=hu o.toNat (by omega) rfl;rw [Int.toNat_of_nonneg ho.1] at hu;refine ev_go (P:=Tryz.prog) tt tt_ok 5000 44 [.tmp 6] Tryz.func50 rfl Tryz.ntmps50 rfl (nL rfl) (fun E9 w9 hn9 hm9=>?_);refine call_p en144 (hb) ax rfl ?_;refine call_p en145 (hw) ax rfl ?_;refine br (fun c=>?_) (fun c=>?_)
   ·refine call_p en146 (hu) ax rfl ?_;exact (rfl:_=_)
   ·exfalso;simp [pickB_and,hml,ho.1,ho.2] at c
  ·rw [decide_eq_false ho,Bool.and_false,Bool.false_and];refine ev_go (P:=Tryz.prog) tt tt_ok 5000 44 [.tmp 6] Tryz.func50 rfl Tryz.ntmps50 rfl (nL rfl) (fun E9 w9 hn9 hm9=>?_);refine call_p en144 (hb) ax rfl ?_;refine call_p en145 (hw) ax rfl ?_;refine br (fun c=>?_) (fun c=>?_)
   ·exfalso;simp [pickB_and,hml] at c;omega
   ·refine (congrArg (fun b=>DV.v (.bool b)) ?_:_=_);simp
theorem nodup_name {es:List Ed} (h:(es.map Ed.name).Nodup) {a b:Nat} {e ed:Ed} (ha:es[a]? = some e) (hb:es[b]? = some ed) (hn:e.name=ed.name):e=ed:=by
 obtain ⟨ha1,ha2⟩:=List.getElem?_eq_some_iff.1 ha;obtain ⟨hb1,hb2⟩:=List.getElem?_eq_some_iff.1 hb;have hp:=List.pairwise_iff_getElem.1 (List.nodup_iff_pairwise_ne.1 h);rcases Nat.lt_trichotomy a b with c | c | c
 ·have:=hp a b (by simpa using ha1) (by simpa using hb1) c;rw [List.getElem_map,List.getElem_map,ha2,hb2] at this;exact absurd hn this
 ·subst c;exact ha2.symm.trans hb2
 ·have:=hp b a (by simpa using hb1) (by simpa using ha1) c;rw [List.getElem_map,List.getElem_map,ha2,hb2] at this;exact absurd hn.symm this
section
variable {ND:List Nd} {f:Nat->Nat->Bool} {L obs:Nat}
theorem edge_step {v:Val} {i:Int} {d:Nd} (hN:NdOK L ND.length d) {m:Nat} {x:Val} {e:Ed} (hK:KidOK ND d v.n m x e) (h5:5<=d.kind) {k:Nat} {ed:Ed} (hk:edgeI d (stpR d v m)=some k) (hed:d.edges[k]? = some ed):ed=e:=by
 obtain ⟨e',he',hB,_⟩:=edgeI_some hk;rw [hed] at he';cases he';have h8:=hN.k8;have hE:=hK.edge;unfold edgeN at hE;rcases (show (d.kind=5∨d.kind=6)∨d.kind=7∨d.kind=8 by omega) with c | c | c
 ·obtain ⟨e0,h1,_⟩:=hN.one c;have h2:=hK.mem;have h3:=mG hed;rw [h1] at h2 h3;rw [List.mem_singleton.1 h2,List.mem_singleton.1 h3]
 ·rw [if_pos c] at hE;refine nodup_name (hN.many (.inl c)).2.2.1 hed hE ?_
  have hs:stpR d v m=⟨1,0,e.name⟩:=by
   unfold stpR;rw [if_neg (by omega),if_neg (by omega),if_pos c,hE]
  rw [hs] at hB;unfold edgeB at hB;simp [c] at hB;exact hB.1
 ·rw [if_neg (by omega),if_pos c] at hE;refine nodup_name (hN.many (.inr c)).2.2.1 hed hE ?_
  have hs:stpR d v m=⟨5,0,e.name⟩:=by
   unfold stpR;rw [if_neg (by omega),if_neg (by omega),if_neg (by omega),hE]
  rw [hs] at hB;unfold edgeB at hB;simp [c] at hB;exact hB.1
theorem set_unseen (hok:∀ n∈ND,NdOK L ND.length n) (hL:LatOK f L) (hU:∀ d∈ND,∀ e∈d.edges,∀ a,a < L->undF f L d e a=jnF f L a e.label.toNat):∀ (p:List Stp) (v:Val) (i a:Nat) {x y:Val} {j:Int},a < L->fitV ND v i=true->getV ND p v i=some (x,j)->unsV ND f L obs p i a=true ->
  eraseV ND f L obs (setV ND p v i y) i a=eraseV ND f L obs v i a
 | [],v,i,a,x,y,j,_,_,_,hu=>by cases hu
 | s :: p,v,i,a,x,y,j,ha,hf,hg,hu=>by
  rw [getV] at hg;rw [setV]
  cases hst:stepV ND v i s with
  | none=>simp [hst] at hg
  | some r=>
  obtain ⟨m,x1,j1⟩:=r;rw [hst] at hg;simp only at hg ⊢;obtain ⟨d,hd,hki,hx1,hj1⟩:=stepV_some hst;obtain ⟨d',hF⟩:=fit_facts hok hf;have hdd:d'=d:=by have:=hF.node;rw [hd] at this;cases this;rfl
  subst hdd;obtain ⟨h0,hg2⟩:=nodeA_some hd;have hg2:ND[i]? = some d':=by simpa using hg2
  have hm:=mG hg2;have hN:=hok d' hm;obtain ⟨hml,hse⟩:=find_some hki;have hse:=stpE_iff.1 hse;obtain ⟨e,hK⟩:=kids_ok hok hf hF hx1;obtain ⟨h5,h8⟩:=kind5_of hok hF hx1;have hje:j1=e.to:=(toR_kids hd hf h5 h8 hj1).symm.trans hK.to';rw [unsV,hg2] at hu;simp only at hu
  cases hk:edgeI d' s with
  | none=>rw [hk] at hu;cases hu
  | some k=>
  rw [hk] at hu;simp only at hu;obtain ⟨ed,hed,_⟩:=edgeI_some hk;rw [hed] at hu;simp only at hu;have hee:=edge_step (v:=v) (i:=i) hN hK h5 (hse ▸ hk) hed;subst hee;have hund:=hU d' hm ed hK.mem a ha;obtain ⟨hn0,⟨_,hl2⟩,_⟩:=edge_nums hN hK.mem;have hn1:=hn0 hK.bare
  have hview:(if howF f L obs d' ed a=2 then eraseV ND f L obs (setV ND p x1 j1 y) ed.to (undF f L d' ed a) else if howF f L obs d' ed a=1 then coarseV ed (setV ND p x1 j1 y) else hidV ed)=(if howF f L obs d' ed a=2 then eraseV ND f L obs x1 ed.to (undF f L d' ed a) else if howF f L obs d' ed a=1 then coarseV ed x1 else hidV ed):=by
   by_cases h2:howF f L obs d' ed a=2
   ·rw [if_pos h2] at hu ⊢;rw [if_pos h2,hje];rw [hje] at hg;have hfx:=hK.fit;rw [hn1.1] at hg hfx ⊢;rw [hund];exact set_unseen hok hL hU p x1 ed.to.toNat _ (jnF_lt hL ha hl2) hfx hg hu
   ·rw [if_neg h2] at hu ⊢;have h0:=of_decide_eq_true hu;rw [if_neg (by omega),if_neg h2,if_neg (by omega)]
  obtain ⟨vk,vn,vs,ks⟩:=v;show eraseV ND f L obs (.mk vk vn vs (ks.set m (setV ND p x1 j1 y))) i a=_;rw [eraseV,eraseV,hd];simp only;congr 1;refine List.ext_getElem? fun t=>?_;simp only [Val.ks] at hx1 hml;by_cases htl:t < ks.length
  ·by_cases htm:t=m
   ·subst htm;have hEg:edgeN d' vn t=some ed:=hK.edge;rw [eraseVs_at (List.getElem?_set_self htl),eraseVs_at hx1,Nat.zero_add,hEg];exact congrArg some hview
   ·obtain ⟨z,hz⟩:∃ z,ks[t]? = some z:=⟨_,gE htl⟩;rw [eraseVs_at (m:=t) (x:=z) (by rw [List.getElem?_set_ne (by omega)];exact hz),eraseVs_at hz]
  ·rw [List.getElem?_eq_none (by rw [eraseVs_len,List.length_set];omega),List.getElem?_eq_none (by rw [eraseVs_len];omega)]
theorem setV_rng {y:Val} (hy:rngW y):∀ (p:List Stp) (v:Val) (i:Int),rngW v->rngW (setV ND p v i y)
 | [],_,_,_=>hy
 | s :: p,v,i,hv=>by
  rw [setV]
  cases hst:stepV ND v i s with
  | none=>exact hv
  | some r=>
   obtain ⟨m,x,j⟩:=r;obtain ⟨d,_,_,hx,_⟩:=stepV_some hst;have hr:=rngW_ks hv;have hx2:=setV_rng hy p x j (rngWs_mem hr (mG hx));obtain ⟨k,n,t,ks⟩:=v;rw [rngW] at hv;simp only [Val.ks] at hr;show rngW (.mk k n t (ks.set m _));rw [rngW];refine ⟨hv.1,hv.2.1,?_⟩
   have:∀ (l:List Val) (m:Nat),rngWs l->rngWs (l.set m (setV ND p x j y)):=by
    intro l
    induction l with
    | nil=>intro m h;exact h
    | cons a l ih=>
     intro m h;rw [rngWs] at h
     cases m with
     | zero=>rw [List.set_cons_zero,rngWs];exact ⟨hx2,h.2⟩
     | succ m=>rw [List.set_cons_succ,rngWs];exact ⟨h.1,ih m h.2⟩
   exact this ks m hv.2.2
end
theorem flat_setU {α:Type} {c:Nat} {x:List α}:∀ {l:List (List α)} {e:Nat},(∀ y∈l,y.length=c)->e < l.length->(l.set e x).flatten=l.flatten.take (e * c) ++ x ++ l.flatten.drop (e * c + c)
 | [],e,_,h=>by simp at h
 | y :: r,0,hl,h=>by
  have hy:=hl y (by simp);subst hy;simp
 | y :: r,e + 1,hl,h=>by
  have hy:=hl y (by simp);have ih:=flat_setU (x:=x) (l:=r) (e:=e) (fun z hz=>hl z (by simp [hz])) (by simpa using h);have h1:(e + 1) * c=y.length + e * c:=by rw [hy,Nat.add_mul,Nat.one_mul,Nat.add_comm]
  have h2:(e + 1) * c + c=y.length + (e * c + c):=by rw [h1];omega
  rw [List.set_cons_succ,List.flatten_cons,List.flatten_cons,ih,h2,h1,List.take_length_add_append,List.drop_length_add_append];simp
theorem dVals_cells:∀ (l:List Val),∀ x∈dVals l,x.length=4
 | [],x,h=>by simp [dVals] at h
 | .mk _ _ _ _ :: r,x,h=>by
  rw [dVals] at h;rcases List.mem_cons.1 h with h | h
  ·rw [h];all_goals rfl
  ·exact dVals_cells r x h
theorem dVals_set (l:List Val) (e:Nat) (y:Val):dVals (l.set e y)=(dVals l).set e (dVal y):=by rw [dVals_map,dVals_map,List.map_set]
theorem tput_spec {S:Sch} {ND:List Nd} {PC:List DV} (hP:PlanR S ND PC) (x:Val) (hx:x.wt<=1099511627776):∀ (p:List Stp),p.length<=1099511627776->∀ (v:Val),v.wt<=1099511627776->∀ (i:Int),fitV ND v i=true->∀ r,getV ND p v i=some r ->
  EvP Tryz.prog 147 [.pt PC 0,.v (.int .i64 i),.agg (dVal v),.sl 3 (dStps p) none,.agg (dVal x)] (.agg (dVal (setV ND p v i x)))
 | [],_,v,hv,i,hf,r,hg=>by
  have hw:=clone_spec _ x (Nat.le_refl _) hx;rw [setV];obtain ⟨q,z,s,ks⟩:=v;obtain ⟨xk,xn,xs,xl⟩:=x;refine ev_go (P:=Tryz.prog) tt tt_ok 5000 47 [.cell 10 59] Tryz.func147 rfl Tryz.ntmps147 rfl (nL rfl) (fun E9 w9 hn9 hm9=>?_);refine call_p en114 (hw) ax rfl ?_;exact ⟨_,ax,rfl⟩
 | s :: p,hp,v,hv,i,hf,r,hg=>by
  have hkid:=kid_spec hP hv hf s;have hsf:=@step_fit _ _ hP.ok v i hf s;have hss:=@stepV_some ND v i s;rw [getV] at hg;rw [setV];rw [List.length_cons] at hp;have htail:=sl_tail s p;have hco:=clone_own v hv;generalize stepV ND v i s=o at hkid hsf hss hg ⊢
  cases o with
  | none=>cases hg
  | some o=>
   obtain ⟨e,y,j⟩:=o;obtain ⟨d,_,_,hy,_⟩:=hss rfl;have hyf:=hsf rfl;have hyw:=wtVs_mem (mG hy);have hlt:=(gS hy).1;have hvw:v.wt=64 + v.s.size + wtVs v.ks:=by cases v;rw [Val.wt];all_goals rfl
   have hw:=tput_spec hP x hx p (by omega) y (by omega) j hyf r hg;simp only;generalize setV ND p y j x=u at hw;obtain ⟨q,z,t,ks⟩:=v;obtain ⟨xk,xn,xs,xl⟩:=x;obtain ⟨uk,un,us,ul⟩:=u;obtain ⟨yk,yn,ys,yl⟩:=y;have hflat:=flat_setU (x:=dVal (.mk uk un us ul)) (dVals_cells ks) (e:=e) (by rw [dVals_len];exact hlt);rw [<- dVals_set] at hflat;have hsc:=dVals_cells (ks.set e (.mk uk un us ul));have hsl:(dVals (ks.set e (.mk uk un us ul))).length=ks.length:=by rw [dVals_len,List.length_set]
   have hdl:=dVals_len ks;have hds:=dStps_get (l:=s :: p) (e:=0) rfl;have hdsl:=dStps_len (s :: p);rw [List.length_cons] at hdsl;obtain ⟨sk,sn,ss⟩:=s;simp only [Val.ks] at hlt hy hco;simp only [vset,Val.k,Val.n,Val.s,Val.ks] at hco ⊢;refine ev_go (P:=Tryz.prog) tt tt_ok 5000 47 [.cell 10 59] Tryz.func147 rfl Tryz.ntmps147 rfl (nL rfl) (fun E9 w9 hn9 hm9=>?_);refine drawG_i (fun _=>false) mo (by decide +kernel) ?_;refine ⟨_,⟨by omega,hds⟩,?_⟩;refine callD_p en113 (hkid) ax rfl ?_;refine call_f en114 rfl hco ax (fun r1 tks hr=>?_);obtain ⟨rfl,rfl⟩:=hr;refine drawG_s mo (by decide +kernel) ?_;refine ⟨_,⟨by omega,by simpa using dVals_get hy⟩,?_⟩;refine ⟨⟨by omega,by omega,by omega⟩,?_⟩;refine callD_own (e:=4) (es:=List.replicate ks.length []) (m:=ks.length) en147 rfl hw (by repeat' (first | exact rfl | exact trivial | exact Or.inr (Or.inl ⟨_,rfl⟩) | exact Or.inr ⟨_,rfl⟩ | exact Or.inl ⟨rfl,rfl⟩ | exact Or.inl rfl | refine Or.inr ⟨_,_,rfl,Nat.zero_le _,rfl,?_⟩ | refine ⟨_,_,rfl,?_,?_⟩ | refine ⟨_,rfl,?_⟩ | exact Or.inr (Or.inl ⟨_,htail⟩) | refine Or.inr (Or.inr (Or.inr ⟨_,_,rfl,?_⟩)) | exact Or.inl rfl | refine Or.inr ?_)) ⟨rfl,rfl,rfl⟩ ⟨rfl,rfl,rfl⟩ rfl rfl rfl rfl rfl rfl (by decide) rfl rfl rfl List.length_replicate ⟨by omega,by omega⟩ rfl ?_;refine ⟨_,wk_own (j:=3) (o:=3) (k:=0) (ty:=59) (e:=4) (ocs:=[.v (.int .i64 q),.v (.int .i64 z),.v (.string t),.sl 0 (List.replicate ks.length []) (some 0)]) (n:=ks.length) (es:=List.replicate ks.length []) (ns:=dVals (ks.set e (.mk uk un us ul))) ?_ hsc hsl rfl rfl List.length_replicate,?_⟩
   ·rw [hflat];rfl
   ·exact ⟨_,ax,rfl⟩
def resS (o:Option Val):DV:=match o with
 | some y=>.tup [.agg (dVal y),.v (.bool true)]
 | none=>.tup [.agg (dVal zeroV),.v (.bool false)]
theorem tset_spec {S:Sch} {ND:List Nd} {PC:List DV} (hP:PlanR S ND PC) {v x:Val} (hv:v.wt<=1099511627776) (hx:x.wt<=1099511627776) (i:Int) (p:List Stp) (hp:p.length<=1099511627776) :
  EvP Tryz.prog 51 [.pt PC 0,.v (.int .i64 i),.agg (dVal v),.sl 3 (dStps p) none,.agg (dVal x)]
   (resS (match (if fitV ND v i=true then getV ND p v i else none) with | none=>none | some (_,j)=>if fitV ND x j=true then some (setV ND p v i x) else none)):=by
 have hget:=tget_spec hP hv i p hp;have hfx:=fun j=>tfits_spec hP _ x (Nat.le_refl _) hx j;have hput:=fun hf r hr=>tput_spec hP x hx p hp v hv i hf r hr;by_cases hf:fitV ND v i=true
 ·rw [if_pos hf] at hget ⊢;have hput:=hput hf;generalize getV ND p v i=o at hget hput ⊢
  cases o with
  | none=>
   obtain ⟨q,z,s,ks⟩:=v;obtain ⟨xk,xn,xs,xl⟩:=x;refine ev_go (P:=Tryz.prog) tt tt_ok 5000 40 [.cell 10 59,.tmp 11] Tryz.func51 rfl Tryz.ntmps51 rfl (nL rfl) (fun E9 w9 hn9 hm9=>?_);refine call_p en39 (hget) ax rfl ?_;exact ⟨_,ax,rfl⟩
  | some r=>
   obtain ⟨y,j⟩:=r;have hput2:=hput _ rfl;clear hput;have hfx:=hfx j;generalize setV ND p v i x=u at hput2 ⊢;simp only;obtain ⟨q,z,s,ks⟩:=v;obtain ⟨xk,xn,xs,xl⟩:=x;obtain ⟨uk,un,us,ul⟩:=u;obtain ⟨yk,yn,ys,yl⟩:=y;refine ev_go (P:=Tryz.prog) tt tt_ok 5000 40 [.cell 10 59,.tmp 11] Tryz.func51 rfl Tryz.ntmps51 rfl (nL rfl) (fun E9 w9 hn9 hm9=>?_);refine call_p en39 (hget) ax rfl ?_;refine call_p en36 (hfx) ax rfl ?_
   cases hc:fitV ND (.mk xk xn xs xl) j with
   | false=>exact ⟨_,ax,rfl⟩
   | true=>
    refine call_p en147 (hput2) ax rfl ?_;exact ⟨_,ax,rfl⟩
 ·rw [if_neg hf] at hget ⊢;obtain ⟨q,z,s,ks⟩:=v;obtain ⟨xk,xn,xs,xl⟩:=x;refine ev_go (P:=Tryz.prog) tt tt_ok 5000 40 [.cell 10 59,.tmp 11] Tryz.func51 rfl Tryz.ntmps51 rfl (nL rfl) (fun E9 w9 hn9 hm9=>?_);refine call_p en39 (hget) ax rfl ?_;exact ⟨_,ax,rfl⟩
theorem cells_step:Tryz.prog.cellsOf 188=3:=by kernel_rfl
def rngStp (p:List Stp):Prop:=∀ s∈p,(-9223372036854775808<=s.k/\s.k<=9223372036854775807)/\(-9223372036854775808<=s.n/\s.n<=9223372036854775807)
def wtStp:List Stp->Nat
 | []=>0
 | s :: p=>64 + s.s.size + wtStp p
theorem wtStp_len:∀ p:List Stp,64 * p.length<=wtStp p
 | []=>Nat.le_refl _
 | s :: p=>by
  have:=wtStp_len p;rw [wtStp,List.length_cons];omega
theorem wtStp_mem:∀ {p:List Stp} {s:Stp},s∈p->s.s.size<=wtStp p
 | s :: p,x,h=>by
  rcases List.mem_cons.1 h with rfl | h
  ·rw [wtStp];omega
  ·have:=wtStp_mem h;rw [wtStp];omega
theorem typ_stps {m:Nat}:∀ {es:List (List DV)},(∀ cs∈es,Typ Tryz.prog m 188 cs)->∃ p:List Stp,es=dStps p/\rngStp p/\wtStp p<=wgEs es
 | [],h=>⟨[],rfl,(fun _ h=>by cases h),by simp [wtStp]⟩
 | cs :: r,h=>by
  obtain ⟨p,rfl,hr,hl⟩:=typ_stps (es:=r) (fun c hc=>h c (List.mem_cons_of_mem _ hc));obtain ⟨m',rfl,hf⟩:=typ_st Tryz.underlying188 (h cs (by simp));obtain ⟨a1,b1,rfl,h1,a2,b2,rfl,h2,a3,b3,rfl,h3,rfl⟩:=hf;obtain ⟨k,rfl,hk⟩:=typ_i h1;obtain ⟨z,rfl,hz⟩:=typ_i h2;obtain ⟨s,rfl⟩:=typ_str Tryz.underlying9 h3;refine ⟨⟨k,z,s⟩ :: p,rfl,fun x hx=>?_,?_⟩
  ·rcases List.mem_cons.1 hx with rfl | hx
   ·exact ⟨hk,hz⟩
   ·exact hr x hx
  ·simp only [wtStp,wgEs,wgL_append,wgL,wgD] at *;omega
theorem typ_path {n:Nat} {ds:List DV} (h:Typ Tryz.prog n 22 ds):∃ p:List Stp,ds=[.sl 3 (dStps p) none]/\rngStp p/\wtStp p<=wgL ds:=by
 obtain ⟨j,es,rfl,rfl,hes⟩:=typ_sl Tryz.underlying22 h;obtain ⟨p,rfl,hr,hl⟩:=typ_stps hes;rw [cells_step];exact ⟨p,rfl,hr,by simp only [wgL,wgD];omega⟩
def dQ8 (o:Int) (p:List Stp) (x:Val):List DV:=.v (.int .i64 o) :: .sl 3 (dStps p) none :: dVal x
theorem typ_q8 {n:Nat} {ds:List DV} (h:Typ Tryz.prog n 90 ds):∃ o p x,ds=dQ8 o p x/\rngW x/\wtStp p + x.wt<=wgL ds:=by
 obtain ⟨m,rfl,hf⟩:=typ_st Tryz.underlying90 h;obtain ⟨a0,b0,rfl,h0,a1,b1,rfl,h1,a2,b2,rfl,h2,rfl⟩:=hf;obtain ⟨o,rfl,_⟩:=typ_i h0;obtain ⟨p,rfl,hr,wp⟩:=typ_path h1;obtain ⟨x,rfl,hx,wx⟩:=typ_valr m a2 h2;refine ⟨o,p,x,by simp [dQ8],hx,?_⟩;simp only [wgL_append];omega
def tyQ8:List TypeId:=[90,22,188,59,57,9,3]
theorem tyQ8_ok:∀ t∈tyQ8,flatOK Tryz.prog tyQ8 t=true:=by
 have h:(tyQ8.all fun t=>flatOK Tryz.prog tyQ8 t)=true:=by kernel_rfl
 exact fun t ht=>List.all_eq_true.1 h t ht
set_option maxHeartbeats 4000000 in
theorem unseen28_law (S:Sch) (hS:S.wt<=1099511627776) (hrS:rngS S) (x:Val) (hx2:x.wt<=549755813888) (hrx:rngW x) (o:Int) (p:List Stp) (y:Val) (hq:wtStp p + y.wt<=549755813888) (hry:rngW y) :
  EvP Tryz.prog 7 [.agg (dSch S),.agg (dVal x),.agg (dQ8 o p y)] (.v (.bool true)):=by
 have hx:x.wt<=1099511627776:=by omega
 have hy:y.wt<=1099511627776:=by omega
 have hf:=fine28_spec S hS x y hx hy;have hb:=(build_spec S hS).mono (Ψ:=fun r _ _=>BuiltΦ S r) fun _ _ _ h=>builtΦ_of hS h;have hw:=fun h=>build18_spec S hS h;have hrf:=@resRoot_ok S;have hRr:=fun n (hn:n∈resNds S)=>resNds_rng hrS hn;have hesz:∀ n∈resNds S,n.edges.length<=1099511627776:=fun n hn=>(resNds_sz hn hS).2;have hpl:=wtStp_len p;have hpn:p.length<=1099511627776:=by omega
 have hps:∀ s∈p,s.s.size<=4611686018427387904:=fun s hs=>by have:=wtStp_mem hs;omega
 have hpd:=dStps_len p;generalize hSS:S=SS at *;subst hSS
 have key:Fine21 S->∀ PC,PlanR S (resNds S) PC->∃ (HD:Bool) (U:Option Val) (LC:List DV) (root t:Nat),resRoot S=root /\
   EvP Tryz.prog 53 [.pt PC 0] (.pt LC 0)/\EvP Tryz.prog 54 [.pt LC 0] (.v (.int .i64 t)) /\
   EvP Tryz.prog 35 [.pt PC 0] (.v (.int .i64 root)) /\
   EvP Tryz.prog 49 [.pt PC 0,.v (.int .i64 o),.sl 3 (dStps p) none] (.v (.bool HD)) /\
   EvP Tryz.prog 50 [.agg (wL S.levels (leqS S) (resNds S) (root:Nat)),.v (.int .i64 o),.sl 3 (dStps p) none] (.v (.bool HD)) /\
   EvP Tryz.prog 51 [.pt PC 0,.v (.int .i64 root),.agg (dVal x),.sl 3 (dStps p) none,.agg (dVal y)] (resS U) /\
   (∀ u,U=some u->(HD=true->EvP Tryz.prog 52 [.pt PC 0,.v (.int .i64 o),.agg (dVal x),.agg (dVal u)] (.v (.bool true))) /\
    EvP Tryz.prog 52 [.pt PC 0,.v (.int .i64 t),.agg (dVal x),.agg (dVal u)] (.v (.bool (sameV x u)))/\EvP Tryz.prog 40 [.agg (dVal x),.agg (dVal u)] (.v (.bool (sameV x u)))):=fun h0 PC hP=>by
  obtain ⟨root,hrt,hrl⟩:=hrf (fineS_of h0.res);obtain ⟨LC,hlat,hR⟩:=hP.latR;have hok:=hP.ok;have hroot:=hP.root;rw [hrt] at hroot;have hU:∀ d∈resNds S,∀ e∈d.edges,∀ a,a < S.levels.length->undF (leqS S) S.levels.length d e a=jnF (leqS S) S.levels.length a e.label.toNat:=fun d hd e he a ha=>und_jn (fineS_of h0.res) hd he ha;obtain ⟨ht1,ht2⟩:=topF_le hR.ok S.levels.length (Nat.le_refl _);have hbt:=botF_lt hR.ok;refine ⟨_,_,LC,root,_,hrt,hlat,ltop_spec hR,hroot,eunseen_spec hP hlat hR hU hesz root hrt hrl o p hpn hps,hides28_spec S.levels (leqS S) (resNds S) root hrl hR.ok hR.n32 hok hesz hU o p hpn hps,tset_spec hP hx hy root p hpn,fun u hu=>?_⟩
  cases hfx:fitV (resNds S) x root with
  | false=>simp [hfx] at hu
  | true=>
  cases hg:getV (resNds S) p x root with
  | none=>simp [hfx,hg] at hu
  | some r=>
  obtain ⟨z,j⟩:=r
  cases hfy:fitV (resNds S) y j with
  | false=>simp [hfx,hg,hfy] at hu
  | true=>
  simp only [hfx,hg,hfy,if_true,oI] at hu;subst hu;have hfu:=setV_fit hok p hfx hg hfy;have hwu:=setV_wt (y:=y) p hg;have hru:=setV_rng (ND:=resNds S) hry p x root hrx;have hal:=fun o=>aalike_root hP hlat hR hRr hesz root hrt hrl o x (setV (resNds S) p x root y) hx (by omega) hrx hru;refine ⟨fun hh=>?_,?_,tsame_spec _ x (Nat.le_refl _) hx _⟩
  ·have:=hal o;unfold hideF at hh;rw [Bool.and_eq_true,Bool.and_eq_true,decide_eq_true_iff] at hh;obtain ⟨⟨_,ho⟩,hun⟩:=hh
   rw [show akF (resNds S) (leqS S) S.levels.length root o x (setV (resNds S) p x root y)=true by
    unfold akF;rw [decide_eq_true ho,hfx,hfu,<- alike_eq hok hfx hfu,set_unseen hok hR.ok hU p x root _ hbt hfx hg hun,sameV_iff.2 rfl]
    rfl] at this
   exact this
  ·have:=hal (topF (leqS S) S.levels.length S.levels.length:Nat)
   rw [show akF (resNds S) (leqS S) S.levels.length root (topF (leqS S) S.levels.length S.levels.length:Nat) x (setV (resNds S) p x root y)=sameV x (setV (resNds S) p x root y) by
    unfold akF;rw [decide_eq_true (by omega),hfx,hfu,<- alike_eq hok hfx hfu,Int.toNat_natCast,erase_top hok hR.ok ht2 x root _ hbt hfx,erase_top hok hR.ok ht2 _ root _ hbt hfu]
    rfl] at this
   exact this
 obtain ⟨levels,order,types,⟨rh,rp⟩⟩:=S;obtain ⟨xk,xn,xs,xks⟩:=x;obtain ⟨yk,yn,ys,yks⟩:=y;refine ev_go (P:=Tryz.prog) tt tt_ok 5000 85 [.tmp 6] Tryz.func7 rfl Tryz.ntmps7 rfl (nL rfl) (fun E9 w9 hn9 hm9=>?_);refine call_e en47 rfl hf ax (fun r hr=>?_);obtain ⟨b,rfl,h0⟩:=hr
 cases b with
 | false=>
  refine call_p en48 (lives28_spec) ax rfl ?_;exact (rfl:_=_)
 | true=>
  refine br (fun _=>?_) (fun _=>?_)
  ·refine call_p en48 (lives28_spec) ax rfl ?_;exact (rfl:_=_)
  have hF:=h0 rfl;have h0:=hF.res;have hw:=hw h0;refine call_e en21 rfl hb ax (fun r hr=>?_);rcases hr with ⟨hr,_⟩ | ⟨_,PC,hP,rfl⟩
  ·exact (hr h0).elim
  obtain ⟨HD,U,LC,root,t,hrt,hlat,htop,hroot,hU1,hU2,hset,hfacts⟩:=key hF PC hP;rw [hrt] at hw
  cases U with
  | none=>
   cases HD
   all_goals
    refine call_p en49 (hU1) ax rfl ?_;refine drawG_i (fun _=>false) mo (by decide +kernel) ?_;refine callD_p en23 (hw) ax rfl ?_;refine callD_p en50 (hU2) ax rfl ?_;apply drawG_x (fun _=>false) 12 [0,1,2,3,4,5,6,7,8,9,10,11] [13,14] mo (by decide +kernel);·repeat' (first | refine callD_p en35 (hroot) ax rfl ?_ | refine callD_p en51 (hset) ax rfl ?_ | exact Or.inl rfl | exact endS | refine ⟨?_,?_⟩)
    refine call_p en48 (lives28_spec) ax rfl ?_;exact (rfl:_=_)
  | some u=>
   obtain ⟨ha,hat,hsm⟩:=hfacts u rfl;generalize sameV (.mk xk xn xs xks) u=SV at hat hsm;obtain ⟨uk,un,us,uks⟩:=u
   cases HD with
   | false=>
    refine call_p en49 (hU1) ax rfl ?_;refine drawG_i (fun _=>false) mo (by decide +kernel) ?_;refine callD_p en23 (hw) ax rfl ?_;refine callD_p en50 (hU2) ax rfl ?_;apply drawG_x (fun _=>false) 12 [0,1,2,3,4,5,6,7,8,9,10,11] [13,14] mo (by decide +kernel);·repeat' (first | refine callD_p en35 (hroot) ax rfl ?_ | refine callD_p en51 (hset) ax rfl ?_ | exact Or.inl rfl | exact endS | refine ⟨?_,?_⟩)
    refine drawG_i (fun _=>false) mo (by decide +kernel) ?_;refine callD_p en53 (hlat) ax rfl ?_;refine callD_p en54 (htop) ax rfl ?_;refine callD_p en52 (hat) ax rfl ?_;refine callD_p en40 (hsm) ax rfl ?_;cases SV
    all_goals
     refine callD_p en48 (lives28_spec) ax rfl ?_;exact (rfl:_=_)
   | true=>
    have ha:=ha rfl;refine call_p en49 (hU1) ax rfl ?_;refine drawG_i (fun _=>false) mo (by decide +kernel) ?_;refine callD_p en23 (hw) ax rfl ?_;refine callD_p en50 (hU2) ax rfl ?_;apply drawG_x (fun _=>false) 12 [0,1,2,3,4,5,6,7,8,9,10,11] [13,14] mo (by decide +kernel);·repeat' (first | refine callD_p en35 (hroot) ax rfl ?_ | refine callD_p en51 (hset) ax rfl ?_ | exact Or.inl rfl | exact endS | refine ⟨?_,?_⟩)
    refine call_p en52 (ha) ax rfl ?_;refine drawG_i (fun _=>false) mo (by decide +kernel) ?_;refine callD_p en53 (hlat) ax rfl ?_;refine callD_p en54 (htop) ax rfl ?_;refine callD_p en52 (hat) ax rfl ?_;refine callD_p en40 (hsm) ax rfl ?_;cases SV
    all_goals
     refine callD_p en48 (lives28_spec) ax rfl ?_;exact (rfl:_=_)
end Go.Proofs.YtadbccicdbopcaaGreat
