/- Part 8 of the proof: A change is applied: plain; tree: put, Set; Rules for the evaluator: an element of a row whose cells nobody else knows is written, the state weakened behind it; A change is applied: the program's at; How what stands where a node is seen is written: the program's alike, Kid; Changes lead from one value to the other: plain; What is seen of a view: the program's narrow, the document's Narrow; The program's Narrow, the document's Narrow; the law; Changes lead from one value to the other: plain; A text in quotes, and a value's, is of one line: plain; A change's line; The first edge of a name; The law of what is narrowed; The level above all; what is known of views; the law of the steps of erasing; Steps of a drawn region: elements of rows whose cells nobody else knows, read and written whole; The reference of chapters 15 and 17 on schemas: Placeless, Same, Great; The law of a type's text: the call returns true; The law of schemas without places: the call returns true; What is wrong with a schema without places; the nodes of its plan; Nodes whose edges may be written: slices.Clone, Plan.Node; The law that a plan's edges lead to nodes: rows of edges, with and without places; slices.Reverse of a row of steps that nobody else knows; Alike: the program's sees, edge, step, coarsely, differ; Alike: the program's differ; Alike: the program's both, Differ, Alike; The laws of Alike and Differ; The law of being alike, without the document's answer; What steps lead to unseen, plain; the program's Unseen; Where a change is: its steps go by the edges; A change is applied: the closure that lengthens or shortens a list; A change is applied: the program's apply, Apply; Changes that were found: their weights, steps and lines; The lines of changes: the program's Text; Changes that were found, as they are read; A change is applied: the document's Do; What is read of steps, and of steps with a value; How a list that came in is read; A change is applied: what the law asks of its arguments; Changes that lead from one view to another: what the law asks of them; The law of Compact: the call returns true; The changes between two views lead from one to the other: the law. No condition. -/
import Derived.Test.YtgjagnmeonoehaaGreatMu3
import Derived.Test.YtgjagnmeonoehaaGreatMu4
import Derived.Test.YtgjagnmeonoehaaGreatMu5
import Derived.Test.YtgjagnmeonoehaaGreatMu6
import Derived.Test.YtgjagnmeonoehaaGreatMu7
set_option linter.all false
set_option maxRecDepth 100000
namespace Go.Proofs.YtgjagnmeonoehaaGreat
open Go Go.RowKit Dv Go.Proofs.Tryz
def endC (c:Chg) (s:Stp) (v:Val):Option Val:=
 if v.k=5 then (if c.k=2 then (if jN s (cX v.ks.length)=true then some (.mk v.k v.n v.s (v.ks ++ [oV c.y])) else none)
  else match v.ks[v.ks.length - 1]? with
   | none=>none
   | some x=>if sameV x (oV c.x)=true/\jN s (cX (v.ks.length - 1))=true then some (.mk v.k v.n v.s (v.ks.take (v.ks.length - 1))) else none)
 else none
def D1 (c:Chg) (v:Val):Option Val:=if sameV v (oV c.x)=true then some (oV c.y) else none
section
variable (ND:List Nd)
def atK (D:Val->Option Val):List Stp->Val->Int->Option Val
 | [],v,_=>D v
 | s :: p,v,i=>match bR ND i with
  | none=>none
  | some d=>if v.k=d.ag/\5<=d.ag then (match zj d v s with
   | none=>none
   | some j=>match v.ks[j]?,aW d v.n j with
    | some a,some e=>(atK D p a e.to).map (jE v j)
    | _,_=>none) else none
def doK (c:Chg) (p:List Stp) (v:Val) (i:Int):Option Val:=
 if c.k=1 then atK ND (D1 c) p v i
 else if c.k=2∨c.k=3 then (match p.getLast? with | none=>none | some s=>atK ND (endC c s) p.dropLast v i) else none
def runK (B:Val->Bool) (rt:Int):List Chg->Val->Option Val
 | [],v=>some v
 | c :: r,v=>match doK ND c c.p v rt with
  | none=>none
  | some w=>if B w=true then runK B rt r w else none
end
def Grow (W:Nat) (D:Val->Option Val):Prop:=∀ v V,D v=some V->rngW v->rngW V/\V.wt<=v.wt + W
theorem BZ:∀ {l:List Val} {j:Nat} {u:Val},rngWs l->rngW u->rngWs (l.set j u)
 | [],_,_,_,_=>by simp [rngWs]
 | v :: r,0,u,h,hu=>by grind [rngWs]
 | v :: r,j + 1,u,h,hu=>by
  rw [rngWs] at h;rw [List.set_cons_succ,rngWs];exact ⟨h.1,BZ h.2 hu⟩
theorem zG:∀ {l:List Val} {u:Val},rngWs l->rngW u->rngWs (l ++ [u])
 | [],_,_,hu=>by rw [List.nil_append,rngWs,rngWs];exact ⟨hu,trivial⟩
 | v :: r,u,h,hu=>by
  rw [rngWs] at h;rw [List.cons_append,rngWs];exact ⟨h.1,zG h.2 hu⟩
theorem vg:∀ (l:List Val) (u:Val),cu (l ++ [u])=cu l + u.wt
 | [],u=>by simp [cu]
 | v :: r,u=>by rw [List.cons_append,cu,cu,vg r];omega
theorem Ou (c:Chg) (hr:rngW (oV c.y)):Grow (oV c.y).wt (D1 c):=by
 intro v V h _
 grind [D1]
theorem Ov (c:Chg) (s:Stp) (hr:rngW (oV c.y)):Grow (oV c.y).wt (endC c s):=by
 intro v V h hv;obtain ⟨k,n,t,ks⟩:=v;rw [rngW] at hv;unfold endC at h;split at h
 ·split at h
  ·split at h
   ·cases h;refine ⟨by rw [rngW];exact ⟨hv.1,hv.2.1,zG hv.2.2 hr⟩,?_⟩
    grind [Val.wt,vg,Val.s,Val.ks]
   ·cases h
  ·split at h
   ·cases h
   split at h
   ·cases h;refine ⟨by rw [rngW];exact ⟨hv.1,hv.2.1,zi _ hv.2.2⟩,?_⟩
    grind [DM,Val.wt,Val.s,Val.ks]
   ·cases h
 ·cases h
theorem zH {ND:List Nd} {W:Nat} {D:Val->Option Val} (hD:Grow W D):∀ p i,Grow W fun v=>atK ND D p v i
 | [],_=>hD
 | s :: p,i=>fun v V h hv=>by
  have ih:=zH (ND:=ND) hD p;simp only [atK] at h;split at h
  ·cases h
  split at h
  ·split at h
   ·cases h
   split at h
   ·rename_i j hj a e ha he;obtain ⟨u,hu,rfl⟩:=Option.map_eq_some_iff.1 h;obtain ⟨k,n,t,ks⟩:=v;rw [rngW] at hv;obtain ⟨h1,h2⟩:=ih e.to a u hu (eN hv.2.2 (mG ha));have h3:=G7 (y:=u) ha;refine ⟨by rw [jE,rngW];exact ⟨hv.1,hv.2.1,BZ hv.2.2 h1⟩,?_⟩
    grind [jE,Val.wt,Val.ks,Val.s]
   ·cases h
  ·cases h
theorem S3 {ND:List Nd} (c:Chg) (hr:rngW (oV c.y)) (p:List Stp) (i:Int):Grow (oV c.y).wt fun v=>doK ND c p v i:=by
 intro v V h hv;simp only [doK] at h;split at h
 ·exact zH (Ou c hr) p i v V h hv
 split at h
 ·split at h
  ·cases h
  ·exact zH (Ov c _ hr) _ i v V h hv
 ·cases h
theorem B0 {α:Type} {c:Nat} {x:List α}:∀ {l:List (List α)} {e:Nat},(∀ y∈l,y.length=c)->e < l.length->(l.set e x).flatten=l.flatten.take (e * c) ++ x ++ l.flatten.drop (e * c + c)
 | [],e,_,h=>by simp at h
 | y :: r,0,hl,h=>by
  have hy:=hl y (by simp);subst hy;simp
 | y :: r,e + 1,hl,h=>by
  have hy:=hl y (by simp);have ih:=B0 (x:=x) (l:=r) (e:=e) (fun z hz=>hl z (by simp [hz])) (sU h);have h1:(e + 1) * c=y.length + e * c:=by rw [hy,Nat.add_mul,Nat.one_mul,Nat.add_comm]
  have h2:(e + 1) * c + c=y.length + (e * c + c):=by rw [h1];omega
  rw [List.set_cons_succ,List.flatten_cons,List.flatten_cons,ih,h2,h1,List.take_length_add_append,List.drop_length_add_append];simp
theorem pa:∀ (l:List Val),∀ x∈dVals l,x.length=4
 | [],x,h=>by simp [dVals] at h
 | .mk _ _ _ _ :: r,x,h=>by
  rw [dVals] at h;rcases dB h with h | h
  ·rw [h];all_goals rfl
  ·exact pa r x h
theorem Ow (l:List Val) (e:Nat) (y:Val):dVals (l.set e y)=(dVals l).set e (aG y):=by rw [fu,fu,List.map_set]
def aff (o:Option Val):DV:=match o with
 | some y=>.tup [.agg (aG y),.v (.bool true)]
 | none=>.tup [.agg (aG zeroV),.v (.bool false)]
end Go.Proofs.YtgjagnmeonoehaaGreat
namespace Go.Proofs.YtgjagnmeonoehaaGreat
namespace Dv
open Go Go.RowKit
section
variable {X:Ctx} {st:St} {k:List It} {E:En} {a:Act} {w:World}
theorem VP {all:Array Oper} {o1 o2:Oper} {r:List Oper} {d1 kt t ty et e iB m sN nn:Nat} {bb:Bool} {zz:List Value} {z:Int} {kd:IntKind} {es:List (List DV)} {cs cs':List DV} {s ix x:Operand} {dv:DV}
  (h1:o1.op = .indexAddr t s ix/\o1.dst=some d1) (h2:o2.op = .store ty (.tmp d1) x/\o2.dst=none/\o2.guard=none) (sM:ep X.nt st.sl (some d1)=true)
  (hs:rv st [] s=some (.sl 0 es (some kt))) (hi:rv st [] ix=some (.v (.int kd z))) (hx:rv ⟨(d1,⟨[],.pt [] 0⟩) :: st.sl,st.bx,st.tk⟩ [] x=some dv) (YW:eraL dv.cells (fun l=>some l)=some cs') (OY:dv.cells.length=e) (he0:0 < e)
  (hT:X.T.find t=some ⟨nn,bb,.sl et e iB,zz⟩) (cf:X.T.sz ty=some e) (hq:st.tk[kt]? = some ⟨m,sN,e,some cs⟩) (jF:es.length=m) (hz:0<=z/\z < m)
  (hk:∃ s2,Wk X ⟨(d1,⟨[],.pt [] 0⟩) :: st.sl,st.bx,st.tk.set kt ⟨m,sN,e,some (cs.take (z.toNat * e) ++ cs' ++ cs.drop (z.toNat * e + e))⟩⟩ s2/\go X 4000 (.ops all r :: k) s2)
  (bd:X.still=false:=by exact rfl):HO X o1 (.ops all (o2 :: r) :: k) st:=by
 intro E a w h;have fm:=h.rl;have e2:=b9 (aV fm hi);have hv:=aV fm hs;obtain ⟨g,cap,cur,e1,_⟩:=wE h hv hq jF (by omega);refine gB (DN h1.1 e1 e2 hT hz w) ?_;rw [h1.2];have hr1:Rel X E ⟨(d1,⟨[],.pt [] 0⟩) :: st.sl,st.bx,st.tk⟩ (a.put (some d1) (.pointer (some ⟨g,z.toNat * e,none⟩))) w:=bc h sM (.pt [] 0) _ (by unfold Rv;exact ⟨g,z.toNat * e,rfl,by simp only [RvAt]⟩);generalize ha1:a.put (some d1) (.pointer (some ⟨g,z.toNat * e,none⟩))=a1 at hr1
 have ht1:a1.eval (.tmp d1) = .pointer (some ⟨g,z.toNat * e,none⟩):=by
  subst ha1;simp only [ep,aO,Nat.blt_eq] at sM;simp [Act.eval,Act.put,h.sz,sM.1]
 show kq X (.ops all (o2 :: r) :: k) .normal a1 w;simp only [kq,wpList,Region.wanted,h2.2.2,if_true];obtain ⟨w',E',cd,bY⟩:=L6 hr1 h2.1 ht1 hv e1 hx YW OY he0 cf hq jF hz bd;refine .inl (KO cd ?_);rw [h2.2.1];obtain ⟨s2,rz,hk⟩:=hk;obtain ⟨E3,hr3⟩:=rz _ _ _ bY;exact go_sound 4000 _ _ hk E3 _ _ hr3
theorem Hz {id:Nat} {ops:Array Oper} (st':St) (hw:Wk X st st') (h:lM X id ops k st'):lM X id ops k st:=fun E a w hr=>by
 obtain ⟨E',h'⟩:=hw E a w hr;exact h E' a w h'
end
end Dv
end Go.Proofs.YtgjagnmeonoehaaGreat
set_option maxRecDepth 100000
namespace Go.Proofs.YtgjagnmeonoehaaGreat
open Go Go.RowKit Dv Go.Proofs.Tryz
def Ox (o:Option Val) (r:DV) (_:List (List DV)) (_:List TkE):Prop:=∃ (V:Val) (b:Bool),r = .tup [.agg (aG V),.v (.bool b)]/\(if b=true then some V else none)=o
theorem afg {ND:List Nd} {L:Nat} (bA:∀ n∈ND,cr L ND.length n) {v:Val} {i:Int} (hw:dW ND v i=true) {j:Nat} {a:Val} (hj:v.ks[j]? = some a) :
  ∃ d,bR ND i=some d/\v.k=d.ag/\5<=d.ag/\d.ag<=8/\(d.ag=8->0<=v.n/\v.n < d.az.length)/\(d.ag=7->j < d.az.length)/\∃ e,aW d v.n j=some e/\dW ND a e.to=true:=by
 obtain ⟨d,hd,h⟩:=gL hw;have aY:v.ks ≠ []:=fun h=>by rw [h] at hj;simp at hj
 have hN:=bA d (mG (bu hd).2);rcases h with h | h | h
 ·exact (aY h.2.2).elim
 ·exact (aY h.2.2.1).elim
 ·obtain ⟨e,e1,e2⟩:=kQ h.2.2.2 hj;rw [Nat.zero_add] at e1;refine ⟨d,hd,h.1,h.2.1,hN.k8,fun c=>shell_8 h.2.2.1 c,fun c=>?_,e,e1,e2⟩
  grind [aW]
theorem Mj {d:Nd} {v:Val} {s:Stp} {e:Nat} (he:e < v.ks.length) (h1:∀ j,j < e->jN (stpR d v j) s=false) (h2:jN (stpR d v e) s=true):zj d v s=some e:=by simp_all [zj]
theorem VQ {d:Nd} {v:Val} {s:Stp} (h1:∀ j,j < v.ks.length->jN (stpR d v j) s=false):zj d v s=none:=by grind [zj]
abbrev atSt (PC:List DV) (p:List Stp) (g:Nat) (cl:List DV) (v:Val) (d:Nd) (e:Nat):St:=
 ⟨[iQ 0 PC,bi 3 3 (bf p),(4,⟨[],.fn g [] cl⟩),aF 7 0,aF 10 1,aF 12 2,bi 46 4 (dVals v.ks),ay 47 ((dVals v.ks).length),ay 48 e],[aG v,zD,kg d],[]⟩
set_option maxHeartbeats 1000000 in
theorem at39_spec {S:Sch} {ND:List Nd} {PC:List DV} (hP:dM S ND PC) (g:Nat) (cl:List DV) (hg:Enters prog g) (gQ:CcL [] 0 0 0 cl cl) (Fg:clB 3 0 (.fn g [] cl)=true) (D:Val->Option Val) (hD:∀ v:Val,v.wt<=1099511627776->Ev prog g (.agg (aG v) :: cl) [] [] (Ox (D v))) :
  ∀ (p:List Stp) (v:Val) (i:Int),v.wt<=1099511627776->dW ND v i=true ->
  Ev prog 126 [.pt PC 0,.v (.int .i64 i),.agg (aG v),.sl 3 (bf p) none,.fn g [] cl] [] [] (Ox (atK ND D p v i))
 | [],v,i,hv,hw=>by
  have hD:=hD v hv;show Ev _ _ _ _ _ (Ox (D v));generalize D v=O at hD ⊢;obtain ⟨vk,vn,vs,vl⟩:=v;refine eG 89 [.cell 10 34,.tmp 11] func126 rfl ntmps126 rfl fun _ _ _ _=>?_;refine cE hg rfl hD (by repeat' (first | exact rfl | exact trivial | exact Or.inr (Or.inl ⟨_,rfl⟩) | exact Or.inr ⟨_,rfl⟩ | exact Or.inl ⟨rfl,rfl⟩ | exact Or.inl rfl | refine Or.inr ⟨_,_,rfl,Nat.zero_le _,rfl,?_⟩ | refine ⟨_,_,rfl,?_,?_⟩ | refine ⟨_,rfl,?_⟩ | exact gQ | refine Or.inr (Or.inr (Or.inr ⟨_,_,rfl,?_⟩)) | exact Or.inl rfl | refine Or.inr ?_)) (fun r hr=>?_);obtain ⟨⟨wk,wn,ws,wl⟩,b,rfl,hb⟩:=hr;exact ⟨_,ax,_,b,rfl,hb⟩
 | s :: p,v,i,hv,hw=>by
  have ih:=at39_spec hP g cl hg gQ Fg D hD p;have cw:=aU v.ks;have lf:=cq v.ks;have hvw:v.wt=64 + v.s.size + cu v.ks:=by obtain ⟨_,_,_,_⟩:=v;rfl
  have afh:=VD s p;have Pj:=iu (l:=s :: p) (e:=0) rfl;have hdsl:=eM (s :: p);rw [List.length_cons] at hdsl;obtain ⟨d,hd,TL⟩:=gL hw;obtain ⟨h0,hgt⟩:=bu hd;obtain ⟨n,rfl⟩:∃ n:Nat,i=n:=⟨i.toNat,by omega⟩;have hgt:ND[n]? = some d:=sU hgt;have cJ:=hP.ah n d hgt;have Ly:=fun (j:Nat) a (hj:v.ks[j]? = some a)=>afg hP.ok hw hj;have hO:atK ND D (s :: p) v n=if v.k=d.ag/\5<=d.ag then (match zj d v s with | none=>none | some j=>match v.ks[j]?,aW d v.n j with | some a,some e=>(atK ND D p a e.to).map (jE v j) | _,_=>none) else none:=by rw [atK,hd];all_goals rfl
  have bd:∀ (j:Nat) a,v.ks[j]? = some a->EvP prog 148 [.agg (kg d),.agg (aG v),.v (.int .i64 j)] (.agg (fT (stpR d v j))):=fun j a hj=>by
   obtain ⟨d',uM,k1,k2,k3,k4,k5,_⟩:=Ly j a hj;rw [hd] at uM;cases uM;exact nE d v j k1 k2 k3 k5 k4
  have nJ:∀ (j:Nat) a,v.ks[j]? = some a->∃ e,aW d v.n j=some e/\dW ND a e.to=true/\EvP prog 146 [.agg (kg d),.agg (aG v),.v (.int .i64 j)] (.v (.int .i64 e.to)):=fun j a hj=>by
   obtain ⟨d',uM,k1,k2,k3,k4,k5,e,e1,e2⟩:=Ly j a hj;rw [hd] at uM;cases uM;exact ⟨e,e1,e2,Hs d v j e k1 e1 k4⟩
  have iA:=@VQ d v s;have M3:=@Mj d v s;have hco:=Ko v.ks;generalize atK ND D (s :: p) v n=O at hO ⊢;clear Ly TL hw;by_cases hc:v.k=d.ag/\5<=d.ag
  ·rw [aj hc] at hO;obtain ⟨vk,vn,vs,vl⟩:=v;obtain ⟨ag,at',lo,hi,most,af,es⟩:=d;simp only [Val.k,Val.n,Val.s,Val.ks] at *;refine eG 89 [.cell 10 34,.tmp 11] func126 rfl ntmps126 rfl fun _ _ _ _=>?_;refine cP mT cJ ?_;refine br (fun c=>?_) (fun _=>?_)
   ·exfalso;simp [au] at c;omega
   refine lI (fun t st=>∃ e:Nat,st=atSt PC (s :: p) g cl (.mk vk vn vs vl) ⟨ag,at',lo,hi,most,af,es⟩ e/\e<=vl.length/\(∀ j,j < e->jN (stpR ⟨ag,at',lo,hi,most,af,es⟩ (.mk vk vn vs vl) j) s=false)/\t=vl.length - e) ⟨0,rfl,by omega,fun _ h=>by omega,rfl⟩ (dz 3 (pX Fg) (dH Fg)) ?_;rintro t st ⟨e,rfl,he,aah,rfl⟩;refine br ?_ ?_<;>intro iD
   ·have aw:e < vl.length:=by
     have h2:=iD;simp at h2;have h2:e < (dVals vl).length:=h2;omega
    obtain ⟨a,ha⟩:=gX aw;obtain ⟨ed,LN,hw1,hto1⟩:=nJ e a ha;have afi:=bd e a ha;have haw:=cz (mG ha);have vP:=cq a.ks;have haw2:a.wt=64 + a.s.size + cu a.ks:=by obtain ⟨_,_,_,_⟩:=a;rfl
    have hrec:=ih a ed.to (by omega) hw1;have M3:=M3 aw aah;generalize OM:stpR ⟨ag,at',lo,hi,most,af,es⟩ (.mk vk vn vs vl) e=sr at afi M3;obtain ⟨ak,an,O3,al⟩:=a;refine iX (bJ ha) ?_;refine dI ?_;refine cD xy afi ?_;refine ⟨_,⟨by omega,Pj⟩,_,Vr _ _ _ _,?_⟩;refine br ?_ ?_<;>intro c
    ·have c:jN sr s=false:=sU c
     exact rE ⟨_,by omega,e + 1,rfl,by omega,fun j hj=>(by
      rcases Nat.lt_or_ge j e with h | h
      ·exact aah j h
      ·rw [show j=e by omega,OM,c]),rfl⟩ (dz 3 (oc (aX aw (by omega)) Fg) (gC (aX aw (by omega)) Fg))
    ·have c:jN sr s=true:=sU c;rw [M3 c] at hO;simp only at hO;rw [ha,LN] at hO;simp only at hO;refine dS ?_;refine cD PQ hto1 ?_;refine ⟨⟨by omega,by omega,by omega⟩,?_⟩;refine lh PK rfl hrec (by repeat' (first | exact rfl | exact trivial | exact Or.inr (Or.inl ⟨_,rfl⟩) | exact Or.inr ⟨_,rfl⟩ | exact Or.inl ⟨rfl,rfl⟩ | exact Or.inl rfl | refine Or.inr ⟨_,_,rfl,Nat.zero_le _,rfl,?_⟩ | refine ⟨_,_,rfl,?_,?_⟩ | refine ⟨_,rfl,?_⟩ | exact gQ | exact Or.inr (Or.inl ⟨_,afh⟩) | refine Or.inr (Or.inr (Or.inr ⟨_,_,rfl,?_⟩)) | exact Or.inl rfl | refine Or.inr ?_)) (fun r hr=>?_);obtain ⟨⟨wk,wn,ws,wl⟩,b,rfl,hb⟩:=hr
     cases b with
     | false=>
      have hb:none=atK ND D p (.mk ak an O3 al) ed.to:=hb;rw [<- hb] at hO;exact ⟨_,ax,zeroV,false,rfl,hO.symm⟩
     | true=>
      have hb:some (Val.mk wk wn ws wl)=atK ND D p (.mk ak an O3 al) ed.to:=hb;rw [<- hb] at hO;have hO:O=some (.mk vk vn vs (vl.set e (.mk wk wn ws wl))):=hO;have hco:=hco (by rintro rfl;simp at aw) (by omega);refine ZO K4 rfl hco ax (fun r1 bU hr1=>?_);obtain ⟨rfl,rfl⟩:=hr1;have XM:=B0 (x:=aG (.mk wk wn ws wl)) (pa vl) (e:=e) (by rw [aU];exact aw);rw [<- Ow] at XM;have Mz:=pa (vl.set e (.mk wk wn ws wl));have nW:(dVals (vl.set e (.mk wk wn ws wl))).length=vl.length:=by rw [aU,List.length_set]
      refine VP (kt:=0) (cs':=aG (.mk wk wn ws wl)) (m:=vl.length) ⟨rfl,rfl⟩ ⟨rfl,rfl,rfl⟩ rfl rfl rfl rfl rfl rfl (Nat.succ_pos _) rfl rfl rfl List.length_replicate ⟨by omega,by omega⟩ ?_;refine ⟨_,Q3 (j:=0) (o:=3) (k:=0) (ty:=34) (e:=4) (ocs:=[.v (.int .i64 vk),.v (.int .i64 vn),.v (.string vs),.sl 0 (List.replicate vl.length []) (some 0)]) (n:=vl.length) (es:=List.replicate vl.length []) (ns:=dVals (vl.set e (.mk wk wn ws wl))) ?_ Mz nW rfl rfl List.length_replicate,?_⟩
      ·rw [XM];rfl
      ·exact ⟨_,ax,_,true,rfl,hO.symm⟩
   ·have hge:e=vl.length:=by
     have h2:=iD;simp at h2;have h2:(dVals vl).length<=e:=h2;omega
    subst hge;rw [iA aah] at hO;exact ⟨_,ax,zeroV,false,rfl,hO.symm⟩
  ·rw [ai hc] at hO;obtain ⟨vk,vn,vs,vl⟩:=v;obtain ⟨ag,at',lo,hi,most,af,es⟩:=d;simp only [Val.k,Val.n,Val.s,Val.ks] at *;refine eG 89 [.cell 10 34,.tmp 11] func126 rfl ntmps126 rfl fun _ _ _ _=>?_;refine cP mT cJ ?_;refine br (fun _=>?_) (fun c=>?_)
   rotate_left
   ·exfalso;simp [au] at c;omega
   exact ⟨_,ax,zeroV,false,rfl,hO.symm⟩
theorem shell_67 {d:Nd} {v:Val} (h:shellF d v=true):(d.ag=6->v.ks.length < 2)/\(d.ag=7->v.ks.length=d.az.length)/\(d.ag=8->v.ks.length < 2/\∃ e,d.az[v.n.toNat]? = some e/\decide (v.ks.length=0)=e.bare):=by
 refine ⟨fun c=>?_,fun c=>?_,fun c=>?_⟩
 ·rw [shellF_567 (.inr (.inl c))] at h;simp [c] at h;omega
 ·rw [shellF_567 (.inr (.inr c))] at h;simp [c] at h;omega
 ·rw [shellF_8 c] at h;split at h
  ·cases h
  ·cases hg:d.az[v.n.toNat]? with
   | none=>rw [hg] at h;cases h
   | some e=>
    rw [hg] at h;simp only [aO,beq_iff_eq,decide_eq_true_eq] at h;exact ⟨h.2,e,rfl,h.1⟩
abbrev alSt (PC:List DV) (d:Nd) (v:Val) (T:List Int) (e:Nat):St:=
 ⟨[iQ 0 PC,aF 5 0,aF 7 1,bi 12 1 (pK T),bi 143 4 (dVals v.ks),ay 144 ((dVals v.ks).length),ay 145 e],[aG v,kg d],[]⟩
theorem sD {S:Sch} {ND:List Nd} {PC:List DV} (hP:dM S ND PC):∀ (k:Nat) (v:Val),v.wt<=k->v.wt<=1099511627776->rngW v->∀ i:Int,dW ND v i=true ->
  EvP prog 218 [.pt PC 0,.v (.int .i64 i),.agg (aG v)] (.v (.bool true))
 | 0,v,h,_=>by have:=v.cT;omega
 | k + 1,v,h,hb=>fun hr i hw=>by
  have ih:=sD hP k;obtain ⟨d,hd,hc⟩:=gL hw;obtain ⟨h0,hg⟩:=bu hd;obtain ⟨j,rfl⟩:∃ j:Nat,i=j:=⟨i.toNat,by omega⟩;have hg:ND[j]? = some d:=sU hg;have hN:=hP.ok d (mG hg);have GG:=hN.k8;have cJ:=hP.ah j d hg;have fV:=nB v;have hvw:v.wt=64 + v.s.size + cu v.ks:=by obtain ⟨q,z,s,ks⟩:=v;rfl
  have lf:=cq v.ks;have zU:=u7 v (by omega) (Md hr);have Z1:=pM hr;have cw:=aU v.ks;have pU:=cW d.az;have gR:=cH d.af;by_cases c9:9<=v.k
  ·obtain ⟨hB,J9⟩:dQ v=true/\v.ks=[]:=by
    rcases hc with h | h | h
    ·exact h.2
    ·omega
    ·omega
   rw [hB] at zU;generalize eA v=T at zU;obtain ⟨ag,at',lo,hi,most,af,es⟩:=d;obtain ⟨q,z,s,ks⟩:=v;simp only [Val.ks,Val.k] at J9 c9;subst J9;refine eG 159 [.tmp 6] func218 rfl ntmps218 rfl fun _ _ _ _=>?_;refine cP mT cJ ?_;refine br (fun _=>?_) (fun g=>?_)
   rotate_left
   ·exfalso;simp at g;omega
   refine cP WL zU ?_;exact (rfl:_=_)
  ·have uK:v.k=d.ag:=by
    rcases hc with h | h | h
    ·omega
    ·exact h.1
    ·exact h.1
   by_cases c5:d.ag < 5
   ·obtain ⟨J9,h4⟩:v.ks=[]/\(v.k=4->0<=v.n/\v.n < d.af.length):=by
     rcases hc with h | h | h
     ·omega
     ·exact h.2.2
     ·omega
    rw [show (decide (v.k < 5) || decide (8 < v.k))=true by simp;omega] at fV;clear hc zU;obtain ⟨ag,at',lo,hi,most,af,es⟩:=d;obtain ⟨q,z,s,ks⟩:=v;simp only [Val.ks,Val.k,Val.n] at *;subst J9 uK;refine eG 159 [.tmp 6] func218 rfl ntmps218 rfl fun _ _ _ _=>?_;refine cP mT cJ ?_;refine br (fun g=>?_) (fun _=>?_)
    ·exfalso;simp at g;omega
    refine br (fun g=>?_) (fun _=>?_)
    ·exfalso;simp [pickB] at g
    refine br (fun g=>?_) (fun _=>?_)
    ·exfalso;simp [au,aq,gR] at g;rcases g with ⟨g1,g2⟩ | ⟨g1,_⟩
     ·have:=h4 g1;omega
     ·omega
    refine cP E8 fV ?_;exact (rfl:_=_)
   ·obtain ⟨Ah,OW⟩:shellF d v=true/\iw ND v.ks d v.n 0=true:=by
     rcases hc with h | h | h
     ·omega
     ·omega
     ·exact h.2.2
    obtain ⟨s6,s7,s8⟩:=shell_67 Ah;have s9:=shell_8 Ah
    have M3:=BN hN (by omega) v hb uK (fun m hm=>by
     obtain ⟨x,hx⟩:∃ x,v.ks[m]? = some x:=⟨_,gE hm⟩;obtain ⟨e,he,_⟩:=kQ OW hx;rw [Nat.zero_add] at he
     exact ⟨e,he⟩) s9
    have Kf:∀ (m:Nat) x,v.ks[m]? = some x->∃ e,(tosL d v v.ks.length)[m]? = some e/\dW ND x e=true:=fun m x hx=>by
     obtain ⟨e,he,h2⟩:=kQ OW hx;rw [Nat.zero_add] at he;exact ⟨e.to,G1 he (gS hx).1,h2⟩
    rw [show (decide (v.k < 5) || decide (8 < v.k))=false by simp;omega] at fV;have gD:=G0 d v v.ks.length;generalize tosL d v v.ks.length=T at *;generalize opnT d v=OT at M3;generalize mj v=ET at M3
    have hnmd:G3 d = .v (.slice none 0 0)∨∃ l,G3 d = .sl 1 l none:=by
     unfold G3;split
     ·exact .inr ⟨_,rfl⟩
     ·exact .inl rfl
    generalize G3 d=NM at M3 hnmd;clear hc zU Ah OW;obtain ⟨ag,at',lo,hi,most,af,es⟩:=d;obtain ⟨q,z,s,ks⟩:=v;simp only [Val.ks,Val.k,Val.n,Val.s] at *;subst uK;refine eG 159 [.tmp 6] func218 rfl ntmps218 rfl fun _ _ _ _=>?_;refine cP mT cJ ?_;refine br (fun g=>?_) (fun _=>?_)
    ·exfalso;simp at g;omega
    refine br (fun g=>?_) (fun _=>?_)
    ·exfalso;simp [pickB] at g
    refine br (fun g=>?_) (fun _=>?_)
    ·exfalso;simp [au,aq,pU] at g;rcases g with ⟨g1,_⟩ | ⟨g1,g2⟩
     ·omega
     ·have:=s9 g1;omega
    refine cP E8 fV ?_;refine br (fun g=>?_) (fun _=>?_)
    ·exfalso;simp [au,aq,pU,cw] at g;rcases g with ⟨g1,g2⟩ | ⟨⟨g1,g2⟩,g3⟩
     ·exact g2 (by rw [s7 g1])
     ·by_cases q6:q=6
      ·have:=s6 q6;omega
      ·have:=(s8 (by omega)).1;omega
    refine dI ?_;refine br (fun g=>?pp) (fun g=>?nn)
    case' pp=>
     have g8:q=8:=sU g;obtain ⟨_,e,he,hb⟩:=s8 g8;have h9:=s9 g8;refine iX (bH he) ?_;refine br (fun g=>?_) (fun _=>?_)
     ·exfalso;simp [pickB,cw] at g;simp [<- hb] at g
    all_goals
     refine cP WM M3 ?_;refine lJ (fun e=>alSt PC ⟨q,at',lo,hi,most,af,es⟩ (.mk q z s ks) T e) ks.length (dz 2 pV j8) ?_;intro e he;refine br ?_ ?_<;>intro iD
     ·have aw:e < ks.length:=by
       have h2:=iD;simp at h2;have h2:e < (dVals ks).length:=h2;omega
      obtain ⟨x,hx⟩:=gX aw;obtain ⟨u,hu,hwu⟩:=Kf e x hx;have Rj:=cz (mG hx);have hrec:=ih x (by omega) (by omega) (eN Z1 (mG hx)) u hwu;obtain ⟨xk,xn,xs,xl⟩:=x;refine iX (bJ hx) ?_;refine dI ?_;refine iX (pL hu) ?_;refine cD E7 hrec ?_;exact rE ⟨_,by omega,e + 1,rfl,by omega,rfl⟩ (dz 2 (pX (aX aw (by omega))) (dH (aX aw (by omega))))
     ·exact (rfl:_=_)
theorem Kp {S:Sch} {ND:List Nd} {PC:List DV} (hP:dM S ND PC) (x:Val) (hx:x.wt<=1099511627776) (nI:rngW x) (i:Int) (hw:dW ND x i=true) :
  EvP prog 150 [.pt PC 0,.v (.int .i64 i),.agg (aG x)] (.v (.string (ba (textV ND x i)))):=by
 have ha:=sD hP _ x (aR _) hx nI i hw;have aY:=zw hP.ok nI hw;have HX:=fun p hp=>nD hP x x.wt x (aR _) hx nI i hw [] p hp (by rw [List.length_nil];omega);simp only [List.nil_append] at HX;generalize textV ND x i=T at *;obtain ⟨xk,xn,xs,xl⟩:=x;refine jB (s:=false) (bt:=[(1,160)]) (hbt:=fun p hp=>Nat.zero_le _) (P:=prog) tt eT 5000 18 [.tmp 6] func150 rfl ntmps150 rfl (nL rfl) (fun _ _ _ _=>?_);refine cP E7 ha ?_;refine yZ ⟨0,5,1,none⟩ ⟨[aF 7 1],[aG (.mk xk xn xs xl),[.v (.pointer none),.sl 1 [] (some 0)]],[⟨0,5,1,none⟩]⟩ rfl ?_ rfl ?_ ⟨⟨_,rfl,aA rfl⟩,trivial⟩ rfl rfl ?_
 ·repeat' (first | exact rfl | exact aA rfl | refine ⟨_,_,rfl,?_,?_⟩)
 ·repeat' (first | exact rfl | exact aA rfl | exact ch (aR _) rfl | refine ⟨_,_,rfl,?_,?_⟩)
 refine lY 2 1 AH rfl rfl rfl iP iP (HX (.v (.pointer none)) (.inl rfl)) (fun r ir cC hΦ h1 h2=>?_);obtain ⟨rfl,rfl,rfl⟩:=hΦ;refine pJ rfl (kt:=0) (l:=T) (.head _) rfl aY rfl rfl rfl rfl ?_;exact (rfl:_=_)
theorem S4 (d:Nd) (x:Val) (j:Nat) (v:Val) (s:Stp):zj d (jE x j v) s=zj d x s:=by
 have h:(jE x j v).ks.length=x.ks.length:=List.length_set;unfold zj;rw [h];rfl
theorem S5 {N L:Nat} {d:Nd} (hN:cr L N d) (h5:5<=d.ag) {x:Val} (Ah:shellF d x=true) {j:Nat} (hj:j < x.ks.length):zj d x (stpR d x j)=some j:=by
 have h8:=hN.k8;obtain ⟨s6,s7,s8⟩:=shell_67 Ah;refine Mj hj (fun e he=>?_) (uv _)
 cases h:jN (stpR d x e) (stpR d x j) with
 | false=>rfl
 | true=>
  exfalso;have h:=GI.1 h;by_cases c5:d.ag=5
  ·simp [stpR,c5] at h;omega
  by_cases c6:d.ag=6
  ·have:=s6 c6;omega
  by_cases c7:d.ag=7
  ·have hl:=s7 c7;have hn:=(hN.many (.inl c7)).2.2.1;have h1:d.az[e]? = some d.az[e]:=gE (by omega);have h2:d.az[j]? = some d.az[j]:=gE (by omega);simp only [stpR,c7,h1,h2] at h
   have h3:(d.az.map Ed.name)[e]? = (d.az.map Ed.name)[j]?:=by
    rw [List.getElem?_map,List.getElem?_map,h1,h2];simpa using h
   have:=(List.getElem?_inj (by simp;omega) hn).1 h3;omega
  ·have:=(s8 (by omega)).1;omega
def XN (ND:List Nd) (R:Val->Val) (p:List Stp) (rt i:Int):Prop:=∀ D q v,atK ND D (p ++ q) (R v) rt=(atK ND D q v i).map R
theorem Oy (x:Val) (j:Nat) (v w:Val):jE (jE x j v) j w=jE x j w:=by
 unfold jE;simp only [Val.k,Val.n,Val.s,Val.ks,List.set_set]
theorem VR {ND:List Nd} {R:Val->Val} {p:List Stp} {rt i:Int} (h:XN ND R p rt i) {d:Nd} (hd:bR ND i=some d) {x:Val} (hk:x.k=d.ag) (h5:5<=d.ag) {j:Nat} (hj:j < x.ks.length) (hi:zj d x (stpR d x j)=some j) {e:Ed} (he:aW d x.n j=some e) :
  XN ND (fun v=>R (jE x j v)) (p ++ [stpR d x j]) rt e.to:=by
 intro D q v;rw [List.append_assoc,h D ([stpR d x j] ++ q) (jE x j v)];have hg:(jE x j v).ks[j]? = some v:=gz hj
 have h1:atK ND D ([stpR d x j] ++ q) (jE x j v) i=(atK ND D q v e.to).map (jE (jE x j v) j):=by
  show atK ND D (stpR d x j :: q) (jE x j v) i=_;simp only [atK,hd];rw [aj (show (jE x j v).k=d.ag/\5<=d.ag from ⟨hk,h5⟩),S4,hi];simp only [hg];rw [show aW d (jE x j v).n j=some e from he]
 rw [h1,Option.map_map];congr 1;funext w;simp only [Function.comp,Oy]
theorem VS {ND:List Nd} {R:Val->Val} {p:List Stp} {rt i:Int} (h:XN ND R p rt i) (x y:Val):doK ND ⟨1,p,some x,some y⟩ p (R x) rt=some (R y):=by
 have:=h (D1 ⟨1,p,some x,some y⟩) [] x;rw [List.append_nil] at this;rw [doK,aj rfl,this];show (D1 _ x).map R=_;rw [D1,aj (by show sameV x x=true;exact kN x)];rfl
theorem Mk {ND:List Nd} {R:Val->Val} {p:List Stp} {rt i:Int} (h:XN ND R p rt i) (k:Int) (hk:k=2∨k=3) (s:Stp) (x y:Option Val) (v:Val):doK ND ⟨k,p ++ [s],x,y⟩ (p ++ [s]) (R v) rt=(endC ⟨k,p ++ [s],x,y⟩ s v).map R:=by
 have:=h (endC ⟨k,p ++ [s],x,y⟩ s) [] v;rw [List.append_nil] at this;rw [doK,ai (by show ¬ k=1;omega),aj hk,List.getLast?_append,List.dropLast_append_of_ne_nil (by simp)];simp only [List.getLast?_singleton,Option.some_or,List.dropLast_singleton,List.append_nil];rw [this];rfl
theorem jR {ND:List Nd} {B:Val->Bool} {rt:Int}:∀ (a b:List Chg) (v:Val),runK ND B rt (a ++ b) v=(runK ND B rt a v).bind (runK ND B rt b)
 | [],b,v=>rfl
 | c :: a,b,v=>by
  have ih:=jR (ND:=ND) (B:=B) (rt:=rt) a b;simp only [List.cons_append,runK];split
  ·rfl
  ·split
   ·rw [ih]
   ·rfl
theorem HA {ND:List Nd} {B:Val->Bool} {rt:Int} {c:Chg} {v w:Val} (h:doK ND c c.p v rt=some w) (hB:B w=true):runK ND B rt [c] v=some w:=by
 simp only [runK,h,hB,if_true]
theorem Oz {ND:List Nd} {B:Val->Bool} {rt:Int} {c:Chg} {r:List Chg} {v w:Val} (h:doK ND c c.p v rt=some w) (hB:B w=true):runK ND B rt (c :: r) v=runK ND B rt r w:=by
 simp only [runK,h,hB,if_true]
theorem Ml {ND:List Nd} {B:Val->Bool} {R:Val->Val} {p:List Stp} {rt i:Int} (h:XN ND R p rt i) (n:Int) (s:ByteArray):∀ (r cur:List Val),(∀ m,B (R (.mk 5 n s (cur ++ r.take m)))=true)->runK ND B rt (addC p r cur.length) (R (.mk 5 n s cur))=some (R (.mk 5 n s (cur ++ r)))
 | [],cur,_=>by simp [addC,runK]
 | y :: r,cur,hB=>by
  have ih:=Ml (B:=B) h n s r (cur ++ [y]) (fun m=>by
   have:=hB (m + 1)
   simpa using this)
  rw [addC]
  have hd:doK ND ⟨2,p ++ [cX cur.length],none,some y⟩ (p ++ [cX cur.length]) (R (.mk 5 n s cur)) rt=some (R (.mk 5 n s (cur ++ [y]))):=by
   rw [Mk h 2 (.inl rfl)];simp only [endC,Val.k,Val.ks,if_true,uv,Val.n,Val.s];rfl
  have hb:=hB 1;rw [Oz (c:=⟨2,p ++ [cX cur.length],none,some y⟩) hd (sU hb)];rw [List.length_append] at ih;simpa using ih
theorem Mm {ND:List Nd} {B:Val->Bool} {R:Val->Val} {p:List Stp} {rt i:Int} (h:XN ND R p rt i) (n:Int) (s:ByteArray):∀ (r cur:List Val),(∀ m,B (R (.mk 5 n s (cur ++ r.take m)))=true)->runK ND B rt (kS p r cur.length) (R (.mk 5 n s (cur ++ r)))=some (R (.mk 5 n s cur))
 | [],cur,_=>by simp [kS,runK]
 | x :: r,cur,hB=>by
  have ih:=Mm (B:=B) h n s r (cur ++ [x]) (fun m=>by
   have:=hB (m + 1)
   simpa using this)
  rw [kS,jR];rw [List.length_append,List.append_assoc] at ih;have ih:runK ND B rt (kS p r (cur.length + 1)) (R (.mk 5 n s (cur ++ x :: r)))=some (R (.mk 5 n s (cur ++ [x]))):=ih;rw [ih]
  have hd:doK ND ⟨3,p ++ [cX cur.length],some x,none⟩ (p ++ [cX cur.length]) (R (.mk 5 n s (cur ++ [x]))) rt=some (R (.mk 5 n s cur)):=by
   rw [Mk h 3 (.inr rfl)];have hl:(cur ++ [x]).length - 1=cur.length:=by simp
   have hg:(cur ++ [x])[cur.length]? = some x:=by simp
   simp only [endC,Val.k,Val.ks,if_true,Val.n,Val.s,hl,hg];rw [ai (by decide),aj ⟨kN x,uv _⟩];simp
  have hb:=hB 0;exact HA (c:=⟨3,p ++ [cX cur.length],some x,none⟩) hd (sU hb)
section
variable {ND:List Nd} {f:Nat->Nat->Bool} {L obs o:Nat}
theorem HB:∀ {ks:List Val} {d:Nd} {z:Int} {a j m:Nat} {x:Val},seeVs ND f L obs ks d z a j=true->ks[m]? = some x->∃ e,aW d z (j + m)=some e/\kidS ND f L obs d e a x=true
 | [],_,_,_,_,_,_,_,h=>by cases h
 | y :: r,d,z,a,j,m,x,h,hx=>by
  rw [seeVs,aO] at h
  cases m with
  | zero=>
   cases hx
   cases he:aW d z j with
   | none=>rw [he] at h;exact absurd h.1 (by simp)
   | some e=>rw [he] at h;exact ⟨e,rfl,h.1⟩
  | succ m=>
   have:=HB (m:=m) h.2 (sU hx)
   grind
end
theorem Mn {ND:List Nd} {f:Nat->Nat->Bool} {n rt:Nat} {o:Int} {v:Val} (h:mv ND f n rt o v=true):(0<=o/\o < n)/\seeV ND f n o.toNat v rt (eC f n)=true:=by grind [mv]
section
variable {ND:List Nd} {f:Nat->Nat->Bool} {L obs:Nat}
theorem HC:∀ {ks:List Val} {d:Nd} {z:Int} {a j:Nat},(∀ m x,ks[m]? = some x->∃ e,aW d z (j + m)=some e/\kidS ND f L obs d e a x=true)->seeVs ND f L obs ks d z a j=true
 | [],_,_,_,_,_=>by rw [seeVs]
 | y :: r,d,z,a,j,h=>by
  obtain ⟨e,he,hs⟩:=h 0 y rfl;rw [Nat.add_zero] at he
  have ih:=HC (ks:=r) (d:=d) (z:=z) (a:=a) (j:=j + 1) (fun m x hx=>by
   have:=h (m + 1) x hx
   rwa [show j + (m + 1)=j + 1 + m by omega] at this)
  rw [seeVs,ih,Bool.and_true,he];exact hs
def TS (ND:List Nd) (f:Nat->Nat->Bool) (L obs:Nat) (d:Nd) (z:Int) (a:Nat) (ks:List Val):Prop:=∀ m x,ks[m]? = some x->∃ e,aW d z m=some e/\kidS ND f L obs d e a x=true
theorem aai {ks:List Val} {d:Nd} {z:Int} {a:Nat} (h:seeVs ND f L obs ks d z a 0=true):TS ND f L obs d z a ks:=fun m x hx=>by
 have:=HB h hx
 rwa [Nat.zero_add] at this
theorem aaj {ks:List Val} {d:Nd} {z:Int} {a:Nat} (h:TS ND f L obs d z a ks):seeVs ND f L obs ks d z a 0=true:=HC fun m x hx=>by
 rw [Nat.zero_add];exact h m x hx
theorem Mo {us ws:List Val} {d:Nd} {z:Int} {a:Nat} (ha:TS ND f L obs d z a us) (hb:TS ND f L obs d z a ws) (j:Nat) (hj:j<=us.length):TS ND f L obs d z a (us.take j ++ ws.drop j):=by
 intro m x hx;by_cases c:m < (us.take j).length
 ·rw [dn c,cI] at hx;split at hx
  ·exact ha m x hx
  ·cases hx
 ·rw [List.getElem?_append_right (by omega),List.getElem?_drop] at hx;rw [zLenT] at c hx;rw [Nat.min_eq_left hj] at c hx;rw [show j + (m - j)=m by omega] at hx;exact hb m x hx
theorem S6 {us:List Val} {d:Nd} {z:Int} {a:Nat} (ha:TS ND f L obs d z a us) (j:Nat):TS ND f L obs d z a (us.take j):=by
 intro m x hx;rw [cI] at hx;split at hx
 ·exact ha m x hx
 ·cases hx
theorem B3 {d:Nd} {k n:Int} {s:ByteArray} {ks ls:List Val} (h:shellF d (.mk k n s ks)=true) (hl:ls.length=ks.length):shellF d (.mk k n s ls)=true:=by
 unfold shellF at h ⊢;simp only [Val.k,Val.n,Val.s,Val.ks,hl] at h ⊢;exact h
theorem Mp {d:Nd} {v:Val} (h:shellF d v=true):v.k=d.ag:=by
 unfold shellF at h;by_cases g:v.k≠d.ag∨v.s≠av∨(d.ag≠8/\v.n≠0)
 ·rw [aj g] at h;cases h
 ·grind
theorem zI {d:Nd} {k n:Int} {s:ByteArray} {ks ls:List Val} (h:shellF d (.mk k n s ks)=true) (hk:k=5) (hl:ls.length<=ks.length):shellF d (.mk k n s ls)=true:=by
 have h5:d.ag=5:=by have:=Mp h;simp only [Val.k] at this;omega
 grind [shellF,Val.k,Val.n,Val.s,Val.ks]
theorem S7 {i:Int} {a:Nat} {d:Nd} (hd:bR ND i=some d) (h5:¬ d.ag < 5) {k n:Int} {s:ByteArray} {ks:List Val}:seeV ND f L obs (.mk k n s ks) i a=true↔shellF d (.mk k n s ks)=true/\TS ND f L obs d n a ks:=by
 rw [seeV,hd];simp only;rw [ai h5,aO];exact ⟨fun h=>⟨h.1,aai h.2⟩,fun h=>⟨h.1,aaj h.2⟩⟩
theorem VT {us ws:List Val} {j:Nat} {b:Val} (hj:j < us.length) (hb:ws[j]? = some b) (hw:j < ws.length):(ws.take j ++ us.drop j).set j b=ws.take (j + 1) ++ us.drop (j + 1):=by
 apply List.ext_getElem?;intro m
 grind
theorem aak {d:Nd} {e:Ed} {a:Nat}:(jZ f L obs d e a=2/\∀ v,kidS ND f L obs d e a v=seeV ND f L obs v e.to (gy f L d e a))∨∀ v,kidS ND f L obs d e a v=true->v.ks=[]:=by
 by_cases c2:jZ f L obs d e a=2
 ·exact .inl ⟨c2,fun v=>by rw [kidS,aj c2]⟩
 ·refine .inr fun v h=>?_;rw [kidS,ai c2] at h
  have hp:∀ k n s,dh v k n s=true->v.ks=[]:=fun k n s h=>by
   simp only [dh,aO,decide_eq_true_iff] at h;exact List.length_eq_zero_iff.1 h.2
  split at h
  ·split at h
   ·cases h
   ·unfold iS at h;split at h
    ·split at h
     ·rename_i g;exact hp _ _ _ g
     ·simp only [aO] at h;exact hp _ _ _ h.1.1.1.1
    split at h
    ·simp only [aO] at h;exact hp _ _ _ h.1.1
    split at h
    ·simp only [aO] at h;exact hp _ _ _ h.1.1
    ·exact hp _ _ _ h
  ·exact hp _ _ _ h
theorem leads (bA:∀ n∈ND,cr L ND.length n) {B:Val->Bool} {rt:Int}:∀ (k:Nat) (x y:Val),x.wt<=k->∀ (i:Int) (p:List Stp) (R:Val->Val) (P:Val->Bool),
  ((∃ a,∀ v,P v=seeV ND f L obs v i a)∨∀ v,P v=true->v.ks=[])->P x=true->P y=true->(∀ v,P v=true->B (R v)=true)->XN ND R p rt i->runK ND B rt (dfK ND k x y i p) (R x)=some (R y)
 | 0,x,_,hk,_,_,_,_,_,_,_,_,_=>by have:=x.cT;omega
 | k + 1,.mk xk xn xs us,.mk yk yn ys ws,hk,i,p,R,P,hQ,hx,hy,hB,hR=>by
  have ih:=leads bA (B:=B) (rt:=rt) k;rw [dfK];by_cases hn:¬ nN (.mk xk xn xs us) (.mk yk yn ys ws)=true
  ·rw [ai hn];exact HA (c:=⟨1,p,some _,some _⟩) (VS hR _ _) (hB _ hy)
  rw [Decidable.not_not] at hn;rw [aj hn];unfold nN at hn;simp only [aO,Bool.or_eq_true] at hn;obtain ⟨e1,e2,e3,hl⟩:=hn;obtain rfl:xk=yk:=of_decide_eq_true e1;obtain rfl:xn=yn:=of_decide_eq_true e2;obtain rfl:xs=ys:=of_decide_eq_true e3;have hl:us.length=ws.length∨xk=5:=hl.imp of_decide_eq_true of_decide_eq_true
  have zA:us=[]->ws=[]->runK ND B rt (match bR ND i with
   | none=>[]
   | some d=>kidsD (dfK ND k) d (.mk xk xn xs us) (.mk xk xn xs ws) p (min us.length ws.length) ++ addC p (ws.drop us.length) us.length ++ kS p (us.drop ws.length) ws.length) (R (.mk xk xn xs us))=some (R (.mk xk xn xs ws)):=by
   rintro rfl rfl;split<;>rfl
  rcases hQ.symm with hQ | ⟨a,hQ⟩
  ·exact zA (hQ _ hx) (hQ _ hy)
  rw [hQ] at hx hy
  cases hd:bR ND i with
  | none=>rw [seeV,hd] at hx;cases hx
  | some d=>
  have hN:=bA d (mG (bu hd).2);by_cases h5:d.ag < 5
  ·have hz:∀ {ks:List Val},seeV ND f L obs (.mk xk xn xs ks) i a=true->ks=[]:=fun {ks} h=>by
    rw [seeV,hd] at h;simp only at h;rw [aj h5] at h;obtain ⟨d',hF⟩:=dT bA h;have O2:d'=d:=by have:=hF.ah;rw [hd] at this;cases this;rfl
    subst O2;exact hF.leaf h5
   rw [hd] at zA;exact zA (hz hx) (hz hy)
  rw [S7 hd h5] at hx hy;have uK:xk=d.ag:=Mp hx.1
  have afj:∀ j,j<=us.length->j<=ws.length->shellF d (.mk xk xn xs (ws.take j ++ us.drop j))=true/\TS ND f L obs d xn a (ws.take j ++ us.drop j):=fun j hj hj2=>
   ⟨B3 hx.1 (by simp;omega),Mo hy.2 hx.2 j hj2⟩
  have hBs:∀ ks,shellF d (.mk xk xn xs ks)=true->TS ND f L obs d xn a ks->B (R (.mk xk xn xs ks))=true:=fun ks h1 h2=>hB _ (by rw [hQ];exact (S7 hd h5).2 ⟨h1,h2⟩)
  have h1:∀ j,j<=us.length->j<=ws.length->runK ND B rt (kidsD (dfK ND k) d (.mk xk xn xs us) (.mk xk xn xs ws) p j) (R (.mk xk xn xs us))=some (R (.mk xk xn xs (ws.take j ++ us.drop j))):=by
   intro j
   induction j with
   | zero=>intro _ _;rfl
   | succ j im=>
    intro hj hj2;rw [kidsD,jR,im (by omega) (by omega)];obtain ⟨u,hu⟩:∃ u,us[j]? = some u:=⟨_,gE (by omega)⟩;obtain ⟨w,hw⟩:∃ w,ws[j]? = some w:=⟨_,gE (by omega)⟩;obtain ⟨e,he,hs⟩:=hx.2 j u hu;obtain ⟨e',Ih,hs'⟩:=hy.2 j w hw;rw [he] at Ih;cases Ih;show runK ND B rt (kidD (dfK ND k) d (.mk xk xn xs us) (.mk xk xn xs ws) p j) _=_;unfold kidD;simp only [Val.ks,Val.n,hu,hw,he];obtain ⟨m1,m2⟩:=afj j (by omega) (by omega);obtain ⟨m3,m4⟩:=afj (j + 1) (by omega) (by omega);have hlen:(ws.take j ++ us.drop j).length=us.length:=by simp;omega
    have KN:(ws.take j ++ us.drop j)[j]? = some u:=by
     rw [List.getElem?_append_right (by simp;omega),List.getElem?_drop,<- hu];congr 1;simp;omega
    have MA:∀ b,jE (.mk xk xn xs (ws.take j ++ us.drop j)) j b = .mk xk xn xs ((ws.take j ++ us.drop j).set j b):=fun _=>rfl;have fV:=VR hR hd (x:=.mk xk xn xs (ws.take j ++ us.drop j)) uK (by omega) (j:=j) (by simp only [Val.ks,hlen];omega) (S5 hN (by omega) m1 (by simp only [Val.ks,hlen];omega)) he
    have:=ih u w (by have:=cz (mG hu);rw [Val.wt] at hk;omega) e.to (p ++ [stpR d (.mk xk xn xs us) j]) (fun v=>R (jE (.mk xk xn xs (ws.take j ++ us.drop j)) j v)) (kidS ND f L obs d e a) (by
     rcases aak (ND:=ND) (f:=f) (L:=L) (obs:=obs) (d:=d) (e:=e) (a:=a) with h | h
     ·exact .inl ⟨_,h.2⟩
     ·exact .inr h) hs hs' (fun v hv=>by
      rw [MA];refine hBs _ (B3 m1 (by simp)) fun m z hz=>?_;by_cases c:j=m
      ·subst c;rw [gz (by rw [hlen];omega)] at hz;cases hz;exact ⟨e,he,hv⟩
      ·rw [List.getElem?_set_ne c] at hz
       exact m2 m z hz) fV
    simp only [MA] at this;rw [VT (by omega) hw (by omega)] at this
    rw [show (ws.take j ++ us.drop j).set j u=ws.take j ++ us.drop j from by
     obtain ⟨h7,h8⟩:=List.getElem?_eq_some_iff.1 KN
     rw [<- h8,List.set_getElem_self]] at this
    exact this
  show runK ND B rt (kidsD (dfK ND k) d (.mk xk xn xs us) (.mk xk xn xs ws) p (min us.length ws.length) ++ addC p (ws.drop us.length) us.length ++ kS p (us.drop ws.length) ws.length) _=_;by_cases gk:us.length<=ws.length
  ·rw [Nat.min_eq_left gk,List.drop_eq_nil_of_le (show us.length<=ws.length from gk)];show runK ND B rt (kidsD _ _ _ _ p us.length ++ addC p (ws.drop us.length) us.length ++ []) _=_;rw [List.append_nil,jR,h1 _ (aR _) gk];show runK ND B rt (addC p (ws.drop us.length) us.length) _=_;rw [List.drop_length,List.append_nil];rcases hl with hl | hl
   ·rw [hl,List.drop_length,List.take_length];rfl
   subst hl
   have:=Ml (B:=B) hR xn xs (ws.drop us.length) (ws.take us.length) (fun m=>by
    rw [<- List.take_add]
    exact hBs _ (zI hy.1 rfl (by simp;omega)) (S6 hy.2 _))
   rw [zLenT,Nat.min_eq_left gk,List.take_append_drop] at this;exact this
  ·rw [Nat.min_eq_right (show ws.length<=us.length by omega),List.drop_eq_nil_of_le (show ws.length<=us.length by omega)];rcases hl with hl | hl
   ·omega
   subst hl;show runK ND B rt (kidsD _ _ _ _ p ws.length ++ [] ++ kS p (us.drop ws.length) ws.length) _=_;rw [List.append_nil,jR,h1 _ (by omega) (aR _)];show runK ND B rt (kS p (us.drop ws.length) ws.length) _=_;rw [List.take_length]
   exact Mm (B:=B) hR xn xs (us.drop ws.length) ws (fun m=>by
    refine hBs _ (zI hx.1 rfl (by simp;omega)) ?_;have:=S6 (Mo hy.2 hx.2 ws.length (aR _)) (ws.length + m);rw [List.take_length] at this;rw [List.take_length_add_append] at this
    exact this)
end
theorem S8 (ND:List Nd) (rt:Int):XN ND id [] rt rt:=fun D q v=>by
 rw [List.nil_append];show atK ND D q v rt=_;rw [Option.map_id];rfl
theorem HE {F:Val->Val->Int->List Stp->List Chg} {d:Nd} {x:Val} {p:List Stp} (hF:∀ a∈x.ks,∀ i p,F a a i p=[]):∀ m,kidsD F d x x p m=[]
 | 0=>rfl
 | m + 1=>by
  rw [kidsD,HE hF m,List.nil_append];unfold kidD
  cases h:x.ks[m]? with
  | none=>rfl
  | some a=>
   cases he:aW d x.n m with
   | none=>rfl
   | some e=>exact hF a (mG h) _ _
theorem Kq (x:Val):nN x x=true:=by simp [nN]
theorem Mq (ND:List Nd):∀ (k:Nat) (x:Val) (i:Int) (p:List Stp),dfK ND k x x i p=[]
 | 0,_,_,_=>rfl
 | k + 1,x,i,p=>by
  rw [dfK,aj (Kq x)]
  cases bR ND i with
  | none=>rfl
  | some d=>
   show kidsD _ d x x p _ ++ addC p (x.ks.drop x.ks.length) _ ++ kS p (x.ks.drop x.ks.length) _=[];rw [HE (fun a _ i p=>Mq ND k a i p),List.drop_length];rfl
theorem zJ {ND:List Nd} {f:Nat->Nat->Bool} {n:Nat} (bA:∀ d∈ND,cr n ND.length d) {rt:Nat} {o:Int} {x y:Val} (hx:mv ND f n rt o x=true) (hy:mv ND f n rt o y=true):runK ND (mv ND f n rt o) rt (dfK ND x.wt x y (rt:Int) []) x=some y:=by
 obtain ⟨⟨h1,h2⟩,h3⟩:=Mn hx;obtain ⟨_,h4⟩:=Mn hy
 exact leads (f:=f) (obs:=o.toNat) bA x.wt x y (aR _) (rt:Int) [] id (fun v=>seeV ND f n o.toNat v rt (eC f n)) (.inl ⟨_,fun _=>rfl⟩) h3 h4 (fun v hv=>by
  show mv ND f n rt o v=true;unfold mv;rw [hv,Bool.and_true]
  exact decide_eq_true ⟨h1,h2⟩) (S8 ND rt)
theorem aal {ND:List Nd} {f:Nat->Nat->Bool} {n:Nat} (bA:∀ d∈ND,cr n ND.length d) {rt:Nat} {o:Int} {x y:Val} (hx:mv ND f n rt o x=true) (hy:mv ND f n rt o y=true):dfK ND x.wt x y (rt:Int) []=[]↔x=y:=by
 constructor
 ·intro h;have:=zJ bA hx hy;rw [h] at this;exact Option.some.inj this
 ·rintro rfl;exact Mq ND _ _ _ _
def gO (l:List UInt8):Prop:=∀ b∈l,b≠10
instance (l:List UInt8):Decidable (gO l):=inferInstanceAs (Decidable (∀ b∈l,b≠10))
theorem D2 {b:UInt8} (h:128<=b.toNat):b≠10:=by
 rintro rfl;exact absurd h (by decide)
theorem cA {a b:List UInt8} (ha:gO a) (hb:gO b):gO (a ++ b):=fun c h=>(List.mem_append.1 h).elim (ha c) (hb c)
theorem bX:gO []:=fun _ h=>by cases h
theorem bF {c:UInt8} {l:List UInt8} (hc:c≠10) (hl:gO l):gO (c :: l):=fun b h=>by
 cases h with
 | head=>exact hc
 | tail _ h=>exact hl b h
theorem S9:∀ n,n < 10->UInt8.ofNat (48 + n)≠10:=by decide
theorem wH:∀ n,n < 16->ur n≠10:=by decide
theorem digs_10 (n:Nat):gO (k0 n):=by
 induction n using Nat.strongRecOn with
 | _ n ih=>
  by_cases h:n < 10
  ·rw [rK h];exact bF (S9 n h) bX
  ·rw [v8 h];exact cA (ih _ (by omega)) (bF (S9 _ (by omega)) bX)
theorem putL_10 (z:Int):gO (ic z):=by
 unfold ic;split
 ·exact bF (by decide) (digs_10 _)
 ·exact digs_10 _
theorem hexP_10 (n:Nat):gO (vN n):=by
 induction n using Nat.strongRecOn with
 | _ n ih=>
  by_cases h:n=0
  ·rw [h,hexP_0];exact bX
  ·rw [vN,ai h];exact cA (ih _ (by omega)) (bF (wH _ (by omega)) bX)
theorem hexT_10 (n:Nat):gO (y4 n):=cA (hexP_10 _) (bF (wH _ (by omega)) bX)
theorem inU_10:∀ {u:List UInt8},O0 u=true->recV u≠10->gO u
 | [],h,_=>bX
 | [a],_,h=>bF (fun e=>h (by rw [e];rfl)) bX
 | [a,b],h,_=>by
  have h:=of_decide_eq_true h;exact bF (D2 (by omega)) (bF (D2 (by omega)) bX)
 | [a,b,c],h,_=>by
  have h:=of_decide_eq_true h;exact bF (D2 (by omega)) (bF (D2 (by omega)) (bF (D2 (by omega)) bX))
 | [a,b,c,d],h,_=>by
  have h:=of_decide_eq_true h;exact bF (D2 (by omega)) (bF (D2 (by omega)) (bF (D2 (by omega)) (bF (D2 (by omega)) bX)))
 | _ :: _ :: _ :: _ :: _ :: _,h,_=>by cases h
theorem unT_10:∀ l:List UInt8,gO (unT l)
 | []=>bX
 | c :: r=>by
  rw [unT];by_cases bA:okU (c :: r)=true
  ·rw [aj bA];have hu:eW (c :: r)=bm c.toNat:=by rw [eW,aj bA]
   have hI:=Dl bA;rw [<- hu] at hI;unfold Du;split
   ·decide
   split
   ·decide
   split
   ·decide
   split
   ·decide
   split
   ·decide
   split
   ·exact cA (cA (by decide) (hexT_10 _)) (by decide)
   ·exact inU_10 hI (by assumption)
  ·rw [ai bA];have:=c.toNat_lt;exact bF (by decide) (bF (by decide) (bF (wH _ (by omega)) (bF (wH _ (by omega)) bX)))
theorem quoU_10:∀ (k:Nat) (l:List UInt8),gO (quoU k l)
 | 0,_=>bX
 | k + 1,l=>cA (unT_10 l) (quoU_10 k _)
theorem quoT_10 (l:List UInt8):gO (vO l):=bF (by decide) (cA (quoU_10 _ _) (by decide))
theorem signs_10:∀ {l:List UInt8},signs l=l.length->gO l
 | [],_=>bX
 | c :: r,h=>by
  rw [signs] at h;split at h
  ·rename_i hs;rw [List.length_cons] at h;refine bF (fun e=>?_) (signs_10 (by omega));rw [e] at hs;exact absurd hs (by decide)
  ·cases h
theorem nameOK_10 {s:ByteArray} (h:aZ s=true):gO (tx s):=by
 simp only [aZ,aO,decide_eq_true_iff] at h;have h2:=h.2.2;have hl:s.data.toList.length=s.size:=dg s;show gO s.data.toList
 cases hd:s.data.toList with
 | nil=>exact bX
 | cons c r=>
  rw [hd] at h2 hl;rw [ef] at h2;split at h2
  ·rename_i hc;refine bF (fun e=>?_) (signs_10 (by rw [List.length_cons] at hl;omega));rw [e] at hc;exact absurd hc (by decide)
  ·rw [<- h2] at hl;cases hl
theorem leafT_10 (v:Val):gO (mi v):=by
 unfold mi;split
 ·exact putL_10 _
 split
 ·exact quoT_10 _
 split
 ·refine bF (by decide) (cA (fun b h=>?_) (by decide));rw [List.eq_of_mem_replicate h];decide
 split
 ·exact cA (cA (by decide) (putL_10 _)) (by decide)
 split
 ·exact cA (cA (by decide) (quoT_10 _)) (by decide)
 ·exact cA (cA (by decide) (putL_10 _)) (by decide)
theorem edge_10 {L N:Nat} {d:Nd} (hN:cr L N d) {e:Ed} (he:e∈d.az):gO (tx e.name):=by
 have h1:=hN.k1;have h8:=hN.k8;by_cases h5:d.ag < 5
 ·rw [hN.leaf h5] at he;cases he
 by_cases c:d.ag=5∨d.ag=6
 ·obtain ⟨e',h,_,h'⟩:=hN.one c;rw [h] at he;rw [List.mem_singleton.1 he,h'];decide
 ·exact nameOK_10 ((hN.many (by omega)).2.2.2 e he)
theorem nmE_10 {L N:Nat} {d:Nd} (hN:cr L N d) (j:Nat):gO (nmE d j):=by
 unfold nmE;split
 ·rename_i e he;exact edge_10 hN (mG he)
 ·exact bX
theorem opnT_10 {L N:Nat} {d:Nd} (hN:cr L N d) (v:Val):gO (opnT d v):=by
 unfold opnT;split
 ·split<;>decide
 split
 ·split
  ·rename_i s hs;by_cases c:d.ag=4
   ·exact nameOK_10 ((hN.af c).2.2.2 s (mG hs))
   ·rw [hN.RI c] at hs;cases hs
  ·exact bX
 split
 ·decide
 split
 ·split<;>decide
 split
 ·decide
 split
 ·split
  ·exact nmE_10 hN _
  ·exact cA (nmE_10 hN _) (by decide)
 ·unfold eA;split
  ·exact leafT_10 v
  ·exact bX
theorem endT_10 (v:Val):gO (mj v):=by
 unfold mj
 repeat' split
 all_goals decide
theorem Ta {d:Nd} {z:Int} {j:Nat} {e:Ed} (h:aW d z j=some e):e∈d.az:=by
 unfold aW at h
 repeat' split at h
 all_goals exact mG h
section
variable {ND:List Nd} {L:Nat}
mutual
theorem textV_10 (bA:∀ n∈ND,cr L ND.length n):∀ (v:Val) (i:Int),gO (textV ND v i)
 | .mk k n s ks,i=>by
  rw [textV]
  cases hd:bR ND i with
  | none=>exact bX
  | some d=>
   have hN:=bA d (mG (bu hd).2);exact cA (cA (opnT_10 hN _) (textVs_10 bA ks d hN n 0)) (endT_10 _)
theorem textVs_10 (bA:∀ n∈ND,cr L ND.length n):∀ (l:List Val) (d:Nd),cr L ND.length d->∀ (z:Int) (j:Nat),gO (textVs ND l d z j)
 | [],_,_,_,_=>by rw [textVs];exact bX
 | x :: r,d,hN,z,j=>by
  rw [textVs];refine cA (cA (by split<;>decide) ?_) (textVs_10 bA r d hN z (j + 1))
  cases he:aW d z j with
  | none=>exact bX
  | some e=>
   refine cA ?_ (textV_10 bA x e.to);split
   ·exact cA (edge_10 hN (Ta he)) (by decide)
   ·exact bX
end
end
theorem stepT_10 {s:Stp} (h:bI s=true):gO (stepT s):=by
 have hk:s.k=1∨s.k=5->aZ s.s=true:=by grind [bI]
 have h5:=GL h;unfold stepT;split
 ·exact bF (by decide) (nameOK_10 (hk (.inl (by assumption))))
 split
 ·exact bF (by decide) (cA (putL_10 _) (by decide))
 split
 ·decide
 split
 ·decide
 ·exact bF (by decide) (nameOK_10 (hk (by omega)))
theorem pathT_10 (p:List Stp):gO (jP p):=by
 unfold jP;split
 ·rename_i h;simp only [fU,aO,List.all_eq_true] at h;intro b hb;obtain ⟨l,hl,hb⟩:=List.mem_flatten.1 hb;obtain ⟨s,hs,rfl⟩:=List.mem_map.1 hl;exact stepT_10 (h.2 s hs) b hb
 ·exact bX
theorem Kr {S:Sch} {ND:List Nd} {PC:List DV} (hP:dM S ND PC) (j:Nat) (d:Nd) (hd:ND[j]? = some d):EvP prog 218 [.pt PC 0,.v (.int .i64 j),.agg (aG (.mk 0 0 av []))] (.v (.bool false)):=by
 have cJ:=hP.ah j d hd;have hN:=hP.ok d (mG hd);obtain ⟨ag,at',lo,hi,most,af,es⟩:=d;have og:1<=ag:=hN.k1;refine eG 159 [.tmp 6] func218 rfl ntmps218 rfl fun _ _ _ _=>?_;refine cP mT cJ ?_;refine br (fun _=>?_) (fun g=>?_)
 ·exact (rfl:_=_)
 ·exfalso;simp [pickB] at g;omega
theorem Tb {S:Sch} {ND:List Nd} {PC:List DV} (hP:dM S ND PC) (j:Nat) (d:Nd) (hd:ND[j]? = some d):EvP prog 150 [.pt PC 0,.v (.int .i64 j),.agg (aG (.mk 0 0 av []))] (.v (.string av)):=by
 have ha:=Kr hP j d hd;refine jB (s:=false) (bt:=[(1,160)]) (hbt:=fun p hp=>Nat.zero_le _) (P:=prog) tt eT 5000 18 [.tmp 6] func150 rfl ntmps150 rfl (nL rfl) (fun _ _ _ _=>?_);refine cP E7 ha ?_;exact (rfl:_=_)
def Aj (k:Int) (F T w:List UInt8) (n:Nat):List UInt8:=
 if 64 < n then [] else if k=1 then [126,32] ++ (if w=[] then [46] else w) ++ [58,32] ++ F ++ [32,45,62,32] ++ T ++ [10]
 else if k=2 then [43,32] ++ (if w=[] then [46] else w) ++ [58,32] ++ T ++ [10] else [45,32] ++ (if w=[] then [46] else w) ++ [58,32] ++ F ++ [10]
theorem pe (PC:List DV) (k:Int) (p:List Stp) (X Y:Val) (j b:Nat) (F T w:List UInt8) (hk:(k=1/\F ≠ []/\T ≠ [])∨(k=2/\F=[]/\T ≠ [])∨(k=3/\F ≠ []/\T=[])) (hFb:F.length<=1099511627776) (hTb:T.length<=1099511627776) (hwb:w.length<=1099511627776)
  (rz:EvP prog 87 [.pt PC 0,.sl 3 (bf p) none] (BT (some (j,b))))
  (h1:EvP prog 150 [.pt PC 0,.v (.int .i64 j),.agg (aG X)] (.v (.string (ba F))))
  (h3:EvP prog 150 [.pt PC 0,.v (.int .i64 j),.agg (aG Y)] (.v (.string (ba T))))
  (hp:EvP prog 151 [.sl 3 (bf p) none] (.v (.string (ba w)))) :
  EvP prog 75 [.pt PC 0,.agg (Mi k p X Y)] (.v (.string (ba (Aj k F T w p.length)))):=by
 have cw:=eM p;obtain ⟨xk,xn,xs,xl⟩:=X;obtain ⟨yk,yn,ys,yl⟩:=Y;show EvP prog 75 [.pt PC 0,.agg [.v (.int .i64 k),.sl 3 (bf p) none,.v (.int .i64 xk),.v (.int .i64 xn),.v (.string xs),.sl 4 (dVals xl) none,.v (.int .i64 yk),.v (.int .i64 yn),.v (.string ys),.sl 4 (dVals yl) none]] _;generalize bf p=P at *
 have e0:∀ l:List UInt8,decide (ba l=⟨#[]⟩)=decide (l=[]):=fun l=>by
  refine decide_eq_decide.2 ⟨fun h=>?_,fun h=>by rw [h]⟩;have:=congrArg tx h;rw [uU] at this;exact this
 rcases hk with ⟨rfl,hF,hT⟩ | ⟨rfl,hF,hT⟩ | ⟨rfl,hF,hT⟩
 all_goals
  refine eG 92 [.tmp 4] func75 rfl ntmps75 rfl fun _ _ _ _=>?_;refine cP YB rz ?_;refine dI ?_;refine cD AF h1 ?_;refine cD AF h3 ?_;refine cP PR hp ?_;refine br ?_ ?_<;>intro g
  all_goals
   rw [e0] at g;refine br ?_ ?_<;>intro g2
   ·have hl:64 < p.length:=by simp [pickB,cw] at g2;omega
    rw [Aj,aj hl];exact (rfl:_=_)
   have hl:¬ 64 < p.length:=by simp [pickB,cw] at g2;omega
   refine br ?_ ?_<;>intro g3
   rotate_left
   ·exfalso;simp [pickB,e0,hF,hT] at g3
   repeat' (refine And.intro ?_ ?_)
   all_goals first
    | (simp [ba,ByteArray.size]<;>omega)
    | (show DV.v (Value.string _)=DV.v (Value.string _);have g:=of_decide_eq_true g;subst g;refine congrArg (fun l=>DV.v (Value.string l)) (ByteArray.ext ?_);simp [Aj,ba,hl])
    | (show DV.v (Value.string _)=DV.v (Value.string _);have g:=of_decide_eq_false g;refine congrArg (fun l=>DV.v (Value.string l)) (ByteArray.ext ?_);simp [Aj,ba,hl,g])
theorem kU {l:List UInt8} (h:gO l):l.count 10=0:=List.count_eq_zero.2 fun hm=>h 10 hm rfl
theorem linT_10 {k:Int} {F T w:List UInt8} {n:Nat} (hF:gO F) (hT:gO T) (hw:gO w) (hn:n<=64):(Aj k F T w n).count 10=1:=by
 have h0:(if w=[] then [46] else w).count 10=0:=by
  split
  ·decide
  ·exact kU hw
 unfold Aj;rw [ai (by omega)];split
 ·simp [List.count_append,h0,kU hF,kU hT]
 split
 ·simp [List.count_append,h0,kU hT]
 ·simp [List.count_append,h0,kU hF]
theorem HF {e:Ed} {x:Val} (hw:1<=e.wide/\e.wide<=64) (hx:rngW x) (Rj:x.wt<=1099511627776):rngW (bS e x):=by
 have hn:=uy hx;unfold bS;split
 ·rename_i h;have h3:=h.2.2;by_cases hu:e.cn < 1
  ·grind [aN]
  ·rw [sx (by omega)] at h3 ⊢;have:=Int.emod_nonneg x.n (show e.cn≠0 by omega);split at h3
   ·cases h3
   rename_i hc;rw [ai hc,rngW];exact ⟨by unfold mZ;omega,by unfold mZ;simp only;omega,trivial⟩
 ·split
  ·rw [rngW];exact ⟨by unfold mZ;omega,by unfold mZ;omega,trivial⟩
  ·split
   ·rw [rngW]
    have:x.ks.length<=1099511627776:=by
     obtain ⟨k,n,s,ks⟩:=x
     grind [cq,Val.wt,Val.ks]
    exact ⟨by unfold mZ;omega,by unfold mZ;omega,trivial⟩
   ·rw [oT,rngW];exact ⟨by unfold mZ;omega,by unfold mZ;omega,trivial⟩
theorem OA {d:Nd} {z:Int} {j:Nat} {e:Ed} (h:aW d z j=some e):e∈d.az:=by grind [aW]
section
variable {ND:List Nd} {f:Nat->Nat->Bool} {L obs:Nat}
mutual
theorem zK (bA:∀ n∈ND,cr L ND.length n):∀ (v:Val) (i:Int) (a:Nat),rngW v->v.wt<=1099511627776->rngW (eraseV ND f L obs v i a)
 | .mk k n s ks,i,a,h,hw=>by
  rw [rngW] at h;rw [Val.wt] at hw;rw [eraseV]
  cases hd:bR ND i with
  | none=>rw [rngW];exact ⟨h.1,h.2.1,trivial⟩
  | some d=>
   have hN:=bA d (mG (bu hd).2);rw [rngW];exact ⟨h.1,h.2.1,vi bA ks d n a 0 hN h.2.2 (by omega)⟩
theorem vi (bA:∀ n∈ND,cr L ND.length n):∀ (ks:List Val) (d:Nd) (z:Int) (a j:Nat),cr L ND.length d->rngWs ks->cu ks<=1099511627776->rngWs (eraseVs ND f L obs ks d z a j)
 | [],_,_,_,_,_,_,_=>by rw [eraseVs];trivial
 | x :: r,d,z,a,j,hN,h,hw=>by
  rw [rngWs] at h;rw [cu] at hw;have h1:=vi bA r d z a (j + 1) hN h.2 (by omega);rw [eraseVs,rngWs];refine ⟨?_,h1⟩
  cases he:aW d z j with
  | none=>exact h.1
  | some e=>
   have hwd:=(hN.gq e (OA he)).wide;simp only;split
   ·exact zK bA x _ _ h.1 (by omega)
   ·split
    ·exact HF hwd h.1 (by omega)
    ·rw [oT,rngW];exact ⟨by unfold mZ;omega,by unfold mZ;omega,trivial⟩
end
end
theorem Tc {ND:List Nd} {f:Nat->Nat->Bool} {L o:Nat} {i:Int} {a:Nat} (bA:∀ n∈ND,cr L ND.length n):seeV ND f L o (.mk 0 0 av []) i a=false:=by
 cases h:seeV ND f L o (.mk 0 0 av []) i a
 ·rfl
 rw [seeV] at h
 cases hd:bR ND i with
 | none=>rw [hd] at h;cases h
 | some d=>
  have hN:=bA d (mG (bu hd).2);have h1:=hN.k1;rw [hd] at h;simp only at h;split at h
  ·obtain ⟨d',hF⟩:=dT bA h;have:=hF.ah;rw [hd] at this;injection this with this
   subst this;have:=hF.k;simp only [Val.k] at this;omega
  ·grind [shellF,Val.k]
end Go.Proofs.YtgjagnmeonoehaaGreat
namespace Go.Proofs.YtgjagnmeonoehaaGreat
namespace Dv
open Go Go.RowKit
section
variable {X:Ctx} {st:St} {k:List It} {E:En} {a:Act} {w:World} {ops:Array Oper} {C:World->Prop} {Q:Act->World->Prop} {W:Nat->Bool} {r:List Nat}
theorem vj {o1 o2:Oper} {i1 i2 d1 d2 kt t ty et e iB m sN nn:Nat} {bb:Bool} {zz:List Value} {z:Int} {kd:IntKind} {es:List (List DV)} {cs:List DV} {s ix:Operand} {d':DV}
  (hR:Rel X E st a w) (g1:ops[i1]? = some o1) (g2:ops[i2]? = some o2) (h1:o1.op = .indexAddr t s ix/\o1.dst=some d1/\o1.guard=none) (h2:o2.op = .load ty (.tmp d1)/\o2.dst=some d2/\o2.guard=none)
  (sM:ep X.nt st.sl (some d1)=true) (MF:ep X.nt ((d1,⟨[],.pt [] 0⟩) :: st.sl) (some d2)=true)
  (hs:rv st [] s=some (.sl 0 es (some kt))) (hi:rv st [] ix=some (.v (.int kd z))) (hT:X.T.find t=some ⟨nn,bb,.sl et e iB,zz⟩) (hq:st.tk[kt]? = some ⟨m,sN,e,some cs⟩) (jF:es.length=m) (hz:0<=z/\z < m)
  (hl:cellsT X.T ty cs (z.toNat * e)=some d') (hC:∀ w',C w' -> w'=w) (Ym:C w)
  (hk:∀ a',Rel X E ⟨(d2,⟨[],d'⟩) :: (d1,⟨[],.pt [] 0⟩) :: st.sl,st.bx,st.tk⟩ a' w->runT X.P ops W C Q r a' w):runT X.P ops W C Q (i1 :: i2 :: r) a w:=by
 have fm:=hR.rl;have e2:=b9 (aV fm hi);obtain ⟨g,cap,cur,e1,j5,hy,hw0,sK,gQ,X7,vq,hcm,Yb,hgc⟩:=wE hR (aV fm hs) hq jF (by omega);have OR:isE o1.op=false:=by rw [h1.1];all_goals rfl
 have hL1:qi o1.op=false:=by rw [h1.1];all_goals rfl
 have XO:isE o2.op=false:=by rw [h2.1];all_goals rfl
 have hr1:Rel X E ⟨(d1,⟨[],.pt [] 0⟩) :: st.sl,st.bx,st.tk⟩ (a.put (some d1) (.pointer (some ⟨g,z.toNat * e,none⟩))) w:=bc hR sM (.pt [] 0) _ (by unfold Rv;exact ⟨g,z.toNat * e,rfl,by simp only [RvAt]⟩)
 have ht1:(a.put (some d1) (.pointer (some ⟨g,z.toNat * e,none⟩))).eval (.tmp d1) = .pointer (some ⟨g,z.toNat * e,none⟩):=by
  simp only [ep,aO,Nat.blt_eq] at sM;simp [Act.eval,Act.put,hR.sz,sM.1]
 simp only [runT,g1,OR,Bool.false_eq_true,if_false];refine ⟨.pointer (some ⟨g,z.toNat * e,none⟩),.inl ⟨ek h1.2.2,fun w9 _=>DN h1.1 e1 e2 hT hz w9⟩,fun h9=>(by rw [hL1] at h9;cases h9),?_⟩;rw [h1.2.1];generalize a.put (some d1) (.pointer (some ⟨g,z.toNat * e,none⟩))=a1 at hr1 ht1;obtain ⟨v,hv,HU⟩:=kv X.hT X7 (b:=g) (p:=0) hl;have HU:=HU w fun j u hj=>by grind [cL]
 rw [Nat.zero_add] at HU;simp only [g2,XO,Bool.false_eq_true,if_false];refine ⟨v,.inl ⟨ek h2.2.2,fun w9 h9=>?_⟩,fun _=>Ym,?_⟩
 ·have qZ:=hC w9 (h9 (by rw [h2.1];rfl));subst qZ;simp only [execOp,h2.1,ht1,Sem.run_bind,Instr.loadAt,Instr.sureAddr,Sem.run_pure,Result.andThen_ok,HU]
 ·rw [h2.2.1];exact hk _ (bc hr1 MF d' v (Rv.mono (Ext.KT E) hv))
theorem vm {o1 o2:Oper} {i1 i2 d1 kt t ty et e iB m sN nn:Nat} {bb:Bool} {zz:List Value} {z:Int} {kd:IntKind} {es:List (List DV)} {cs cs':List DV} {s ix x:Operand} {dv:DV}
  (hR:Rel X E st a w) (g1:ops[i1]? = some o1) (g2:ops[i2]? = some o2) (h1:o1.op = .indexAddr t s ix/\o1.dst=some d1/\o1.guard=none) (h2:o2.op = .store ty (.tmp d1) x/\o2.dst=none/\o2.guard=none)
  (sM:ep X.nt st.sl (some d1)=true)
  (hs:rv st [] s=some (.sl 0 es (some kt))) (hi:rv st [] ix=some (.v (.int kd z))) (hx:rv ⟨(d1,⟨[],.pt [] 0⟩) :: st.sl,st.bx,st.tk⟩ [] x=some dv) (YW:eraL dv.cells (fun l=>some l)=some cs') (OY:dv.cells.length=e) (he0:0 < e)
  (hT:X.T.find t=some ⟨nn,bb,.sl et e iB,zz⟩) (cf:X.T.sz ty=some e) (hq:st.tk[kt]? = some ⟨m,sN,e,some cs⟩) (jF:es.length=m) (hz:0<=z/\z < m) (hW2:W i2=true)
  (hk:∀ a' E' w',Rel X E' ⟨(d1,⟨[],.pt [] 0⟩) :: st.sl,st.bx,st.tk.set kt ⟨m,sN,e,some (cs.take (z.toNat * e) ++ cs' ++ cs.drop (z.toNat * e + e))⟩⟩ a' w' -> runT X.P ops W C Q r a' w')
  (bd:X.still=false:=by exact rfl):runT X.P ops W C Q (i1 :: i2 :: r) a w:=by
 have fm:=hR.rl;have e2:=b9 (aV fm hi);have hv:=aV fm hs;obtain ⟨g,cap,cur,e1,_⟩:=wE hR hv hq jF (by omega);have OR:isE o1.op=false:=by rw [h1.1];all_goals rfl
 have hL1:qi o1.op=false:=by rw [h1.1];all_goals rfl
 have XO:isE o2.op=true:=by rw [h2.1];all_goals rfl
 have hr1:Rel X E ⟨(d1,⟨[],.pt [] 0⟩) :: st.sl,st.bx,st.tk⟩ (a.put (some d1) (.pointer (some ⟨g,z.toNat * e,none⟩))) w:=bc hR sM (.pt [] 0) _ (by unfold Rv;exact ⟨g,z.toNat * e,rfl,by simp only [RvAt]⟩)
 have ht1:(a.put (some d1) (.pointer (some ⟨g,z.toNat * e,none⟩))).eval (.tmp d1) = .pointer (some ⟨g,z.toNat * e,none⟩):=by
  simp only [ep,aO,Nat.blt_eq] at sM;simp [Act.eval,Act.put,hR.sz,sM.1]
 simp only [runT,g1,OR,Bool.false_eq_true,if_false];refine ⟨.pointer (some ⟨g,z.toNat * e,none⟩),.inl ⟨ek h1.2.2,fun w9 _=>DN h1.1 e1 e2 hT hz w9⟩,fun h9=>(by rw [hL1] at h9;cases h9),?_⟩;rw [h1.2.1];generalize a.put (some d1) (.pointer (some ⟨g,z.toNat * e,none⟩))=a1 at hr1 ht1;have hwn:=ek (ops:=ops) (a:=a1) h2.2.2;simp only [g2,XO,if_true,ez,hwn];obtain ⟨w2,E2,cd,xe⟩:=L6 hr1 h2.1 ht1 hv e1 hx YW OY he0 cf hq jF hz bd;refine Co cd ?_;rw [h2.2.1];exact ⟨(fun hw=>by rw [hW2] at hw;cases hw),hk _ _ _ xe⟩
theorem VU {t k n ty e:Nat} {es ns:List (List DV)} (hq:st.tk[k]? = some ⟨n,ty,e,some ns.flatten⟩) (vE:∀ x∈ns,x.length=e) (gR:ns.length=n) (ht:get st.sl t=some ⟨[],.sl 0 es (some k)⟩) (jF:es.length=n) :
  Wk X st ⟨(t,⟨[],.sl e ns none⟩) :: st.sl,st.bx,st.tk.set k ⟨n,ty,e,none⟩⟩:=by
 intro E a w h;obtain ⟨E',hr,hx,qp⟩:=Lr h hq rfl vE gR;refine ⟨E',{ hr with tm:=?_ }⟩;intro i y hy;rw [dG] at hy;split at hy
 ·rename_i hti;subst hti;simp only [oI] at hy;subst hy;refine ⟨fun _=>?_,fun hn=>(hn (bz _)).elim⟩;obtain ⟨v,hv,CE⟩:=(h.tm t _ ht).1 (bz _);refine ⟨v,hv,?_⟩;have:=qp es v jF CE;unfold Rv at this ⊢;obtain ⟨b,m,cap,g1,g2,g3,_⟩:=this;exact ⟨b,m,cap,g1,g2,g3,fun k hk=>by cases hk⟩
 ·exact hr.tm i y hy
end
end Dv
end Go.Proofs.YtgjagnmeonoehaaGreat
set_option maxRecDepth 100000
namespace Go.Proofs.YtgjagnmeonoehaaGreat
open Go Go.RowKit Dv Go.Proofs.Tryz
def rvK (p:List Stp) (e:Nat):List Stp:=(List.range p.length).map fun i=>(if i < e∨p.length - e<=i then p[p.length - 1 - i]? else p[i]?).getD ⟨0,0,av⟩
theorem sE (p:List Stp) (e:Nat):(rvK p e).length=p.length:=by simp [rvK]
theorem wI (p:List Stp) (e i:Nat) (hi:i < p.length):(rvK p e)[i]? = if i < e∨p.length - e<=i then p[p.length - 1 - i]? else p[i]?:=by grind [rvK]
theorem Td (p:List Stp):rvK p 0=p:=by
 apply List.ext_getElem?
 grind [wI,sE]
theorem VV (p:List Stp) (e:Nat) (h:p.length<=2 * e + 1) (he:e<=p.length):rvK p e=p.reverse:=by
 apply List.ext_getElem?
 grind [wI,sE]
theorem Te (p:List Stp) (e:Nat) (h:2 * e + 1 < p.length) {x y:Stp} (hx:p[p.length - 1 - e]? = some x) (hy:p[e]? = some y):((rvK p e).set e x).set (p.length - 1 - e) y=rvK p (e + 1):=by
 apply List.ext_getElem?
 grind [wI,sE]
theorem aam (p:List Stp) (e:Nat) (h:2 * e + 1 < p.length):(rvK p e)[e]? = p[e]? /\ (rvK p e)[p.length - 1 - e]? = p[p.length - 1 - e]?:=by grind [wI]
theorem D3:∀ (L:List Stp) (i:Nat) (x:Stp),i < L.length->(bf L).flatten.take (i * 3) ++ fT x ++ (bf L).flatten.drop (i * 3 + 3)=(bf (L.set i x)).flatten
 | [],i,x,h=>by simp at h
 | y :: L,0,x,_=>by grind [fT,bf]
 | y :: L,i + 1,x,h=>by
  have:=D3 L i x (sU h)
  grind [fT,bf]
theorem HG:∀ {L:List Stp} {k:Nat} {x:Stp},L[k]? = some x->((bf L).flatten.drop (k * 3)).take 3=fT x/\3<=((bf L).flatten.drop (k * 3)).length
 | [],_,_,h=>by simp at h
 | y :: L,0,x,h=>by grind [fT,bf]
 | y :: L,k + 1,x,h=>by
  have:=HG (L:=L) (k:=k) (x:=x) (sU h)
  grind [fT,bf]
theorem B4 {L:List Stp} {k:Nat} {x:Stp} (h:L[k]? = some x):cellsT tt 141 (bf L).flatten ((k:Int).toNat * 3)=some (.agg (fT x)):=by
 have hf:∃ a b,tt.find 141=some ⟨3,true,a,b⟩:=⟨_,_,rfl⟩;obtain ⟨a,b,hf⟩:=hf;unfold cellsT;rw [hf];simp only;rw [rf,lK,(HG h).1];rfl
abbrev aan (n:Nat) (cs:List DV) (i:Nat) (j:Nat):St:=⟨[(0,⟨[],.sl 0 (List.replicate n []) (some 0)⟩),ay 2 i,ay 3 j],[],[⟨n,141,3,some cs⟩]⟩
theorem D4 (p:List Stp) (aY:p ≠ []) (hl:p.length<=1099511627776):Ev prog 153 [.sl 0 (List.replicate p.length []) (some 0)] [] [⟨p.length,141,3,some (bf p).flatten⟩] (fun _ _ tk=>tk=[⟨p.length,141,3,some (bf p.reverse).flatten⟩]):=by
 have kB:0 < p.length:=List.length_pos_iff.2 aY;have yf:(List.replicate p.length ([]:List DV)).length=p.length:=List.length_replicate;refine eG 28 [] func153 rfl ntmps153 rfl fun _ _ _ _=>?_
 have hj:IntKind.i64.wrap ((p.length:Int) - 1)=((p.length - 1:Nat):Int):=by
  rw [wrap64 (by omega) (by omega)];omega
 have j1:IntKind.i64.wrap (((List.replicate p.length ([]:List DV)).length:Int) - 1)=((p.length - 1:Nat):Int):=by rw [yf];exact hj
 refine aT (fun t st=>∃ (e:Nat) (cs:List DV),st=aan p.length cs e (p.length - 1 - e)/\cs=(bf (rvK p e)).flatten/\2 * e<=p.length/\t=p.length - 2 * e) p.length (aan p.length (bf p).flatten 0 (p.length - 1)) (bG (dH j1)) ⟨0,_,rfl,by rw [Td],by omega,by omega⟩ ?_;rintro t st ⟨e,cs,rfl,hcs,he,rfl⟩;refine br ?_ ?_<;>intro iD
 rotate_left
 ·have hge:p.length<=2 * e + 1:=by have:=of_decide_eq_false iD;omega
  rw [VV p e hge (by omega)] at hcs;subst hcs;exact ⟨.tup [],[],ax,rfl,rfl⟩
 have aw:2 * e + 1 < p.length:=by have:=of_decide_eq_true iD;omega
 obtain ⟨hA,hB⟩:=aam p e aw;obtain ⟨x,hx⟩:∃ x,p[p.length - 1 - e]? = some x:=⟨_,gE (by omega)⟩;obtain ⟨y,hy⟩:∃ y,p[e]? = some y:=⟨_,gE (by omega)⟩;have hsuc:=Te p e aw hx hy;rw [hx] at hB;rw [hy] at hA;have TL:=B4 hB;have Z7:=B4 hA;have TZ:=D3 (rvK p e) e x (by rw [sE];omega);have wT:=D3 ((rvK p e).set e x) (p.length - 1 - e) y (by rw [List.length_set,sE];omega);rw [hsuc] at wT;rw [<- hcs] at TL Z7 TZ;obtain ⟨xk,xn,xs⟩:=x;obtain ⟨yk,yn,ys⟩:=y;intro E a w hr;have mP:=kz hr;refine jC (C:=fun w'=>w'=w.drew) (W:=fun i=>Nat.beq i 13 || Nat.beq i 15) (Q:=fun a w=>kq _ _ .normal a w) mo (by decide +kernel) (fun _ _ h=>h) rfl ?_;show Go.Proofs.YtgjagnmeonoehaaGreat.Dv.runT _ _ _ _ _ [0,1,2,3,4,5,6,7,8,9,10,11,12,13,14,15] _ _;refine fk mP rfl rfl rfl rfl rfl rfl (fun a0 h0=>?_);refine fk h0 rfl rfl rfl rfl rfl rfl (fun a1 h1=>?_);refine fk h1 rfl rfl rfl rfl rfl rfl (fun a2 h2=>?_);refine fk h2 rfl rfl rfl rfl rfl rfl (fun a3 h3=>?_);refine fk h3 rfl rfl rfl rfl rfl rfl (fun a4 h4=>?_);refine fk h4 rfl rfl rfl rfl rfl rfl (fun a5 h5=>?_);refine vj (kt:=0) h5 rfl rfl ⟨rfl,rfl,rfl⟩ ⟨rfl,rfl,rfl⟩ rfl rfl rfl rfl rfl rfl yf ⟨by omega,by omega⟩ TL (fun _ h=>h) rfl (fun a7 h7=>?_);refine fk h7 rfl rfl rfl rfl rfl rfl (fun a8 h8=>?_);refine fk h8 rfl rfl rfl rfl rfl rfl (fun a9 h9=>?_);refine vj (kt:=0) h9 rfl rfl ⟨rfl,rfl,rfl⟩ ⟨rfl,rfl,rfl⟩ rfl rfl rfl rfl rfl rfl yf ⟨by omega,by omega⟩ Z7 (fun _ h=>h) rfl (fun a11 h11=>?_);refine vm (kt:=0) h11 rfl rfl ⟨rfl,rfl,rfl⟩ ⟨rfl,rfl,rfl⟩ rfl rfl rfl rfl rfl rfl (Nat.succ_pos 2) rfl rfl rfl yf ⟨by omega,by omega⟩ rfl (fun a13 E13 w13 h13=>?_);refine vm (kt:=0) h13 rfl rfl ⟨rfl,rfl,rfl⟩ ⟨rfl,rfl,rfl⟩ rfl rfl rfl rfl rfl rfl (Nat.succ_pos 2) rfl rfl rfl yf ⟨by omega,by omega⟩ rfl (fun a15 E15 w15 h15=>?_);refine go_sound 4000 _ _ ?_ E15 a15 w15 h15
 have hw1:IntKind.i64.wrap (((p.length - 1 - e:Nat):Int) - 1)=((p.length - 1 - (e + 1):Nat):Int):=by
  rw [wrap64 (by omega) (by omega)];omega
 have mA:IntKind.i64.wrap ((e:Int) + 1)=((e + 1:Nat):Int):=by
  rw [wrap64 (by omega) (by omega)];omega
 generalize Il:cs.take (e * 3) ++ fT ⟨xk,xn,xs⟩ ++ cs.drop (e * 3 + 3)=c1 at TZ
 have nV:c1.take ((p.length - 1 - e) * 3) ++ fT ⟨yk,yn,ys⟩ ++ c1.drop ((p.length - 1 - e) * 3 + 3)=(bf (rvK p (e + 1))).flatten:=by
  rw [TZ];exact wT
 rw [<- Il] at nV;exact ⟨aan p.length ((cs.take (e * 3) ++ fT ⟨xk,xn,xs⟩ ++ cs.drop (e * 3 + 3)).take ((p.length - 1 - e) * 3) ++ fT ⟨yk,yn,ys⟩ ++ (cs.take (e * 3) ++ fT ⟨xk,xn,xs⟩ ++ cs.drop (e * 3 + 3)).drop ((p.length - 1 - e) * 3 + 3)) (e + 1) (p.length - 1 - (e + 1)),(bG (gC mA hw1)),p.length - 2 * (e + 1),by omega,e + 1,_,rfl,nV,by omega,rfl⟩
abbrev eyD (PC LC:List DV) (obs:Nat):List DV:=[.pt PC 0,.pt LC 0,.v (.int .i64 obs)]
section
variable {n:Nat} {f:Nat->Nat->Bool} {af:List ByteArray} {LC:List DV} (hR:za n f af LC) (PC:List DV)
include hR
theorem zL (obs a:Nat) (ho:obs < n) (ha:a < n):EvP prog 222 [.agg (eyD PC LC obs),.v (.int .i64 a)] (.v (.bool (f a obs))):=by
 have hq:=hR.leq a obs;rw [GJ ha ho] at hq;refine eG 11 [.tmp 4] func222 rfl ntmps222 rfl fun _ _ _ _=>?_;refine cP abP hq ?_;exact (rfl:_=_)
theorem Ks {ND:List Nd} (obs a:Nat) (ha:a < n) (d:Nd) (v:Val) (j:Nat) (e:Ed) (h:aW d v.n j=some e) (hm:e∈d.az) (hN:cr n ND.length d) (h5:5<=d.ag) (hz:d.ag=8->0<=v.n/\v.n < d.az.length) (jF:d.az.length<=1099511627776) :
  EvP prog 221 [.agg (eyD PC LC obs),.agg (kg d),.agg (aG v),.v (.int .i64 j),.v (.int .i64 a)] (.tup [.agg (zW e),.v (.int .i64 (gy f n d e a:Nat))]):=by
 obtain ⟨_,⟨h2,TH⟩,_⟩:=iv hN hm;have hj:=hR.join a e.label.toNat ha TH;rw [<- h2] at hj;have hU:gy f n d e a=if d.ag < 7 then a else y9 f n a e.label.toNat:=rfl
 generalize gy f n d e a=U at hU ⊢;have h8:=hN.k8;obtain ⟨ag,at',lo,hi,most,DX,es⟩:=d;obtain ⟨k,z,s,ks⟩:=v;simp only [Val.n] at h hz jF hU h5 h8;have pU:=cW es;unfold aW at h;simp only at h;have hd:∃ en eb ea et sP ew jy sQ uB qd,e=⟨en,eb,ea,et,sP,ew,jy,sQ,uB,qd⟩:=⟨_,_,_,_,_,_,_,_,_,_,rfl⟩;refine eG 42 [.cell 10 193,.tmp 11] func221 rfl ntmps221 rfl fun _ _ _ _=>?_;refine br ?_ ?_<;>intro c
 ·have c:ag=7:=sU c;rw [aj c] at h;rw [ai (by omega)] at hU;subst hU;have qY:=(gS h).1;obtain ⟨en,eb,ea,et,sP,ew,jy,sQ,uB,qd,rfl⟩:=hd;refine dS ?_;refine iX (bH h) ?_;refine iX (bH h) ?_;refine cD uN hj ?_;exact ⟨_,ax,rfl⟩
 have c7:¬ ag=7:=sU c;rw [ai c7] at h;refine br ?_ ?_<;>intro c
 ·have c:ag=8:=sU c;rw [aj c] at h;have hz:=hz c;rw [ai (by omega)] at hU;subst hU;obtain ⟨en,eb,ea,et,sP,ew,jy,sQ,uB,qd,rfl⟩:=hd;refine dS ?_;refine iX (bH h) ?_;refine iX (bH h) ?_;refine cD uN hj ?_;exact ⟨_,ax,rfl⟩
 have c8:¬ ag=8:=sU c;rw [ai c8] at h;rw [aj (by omega)] at hU;subst hU;obtain ⟨en,eb,ea,et,sP,ew,jy,sQ,uB,qd,rfl⟩:=hd;refine iX (bH h) ?_;exact ⟨_,ax,rfl⟩
end
theorem astepP_spec (d:Nd) (v:Val) (j:Nat) (h5:5<=d.ag) (h8:d.ag<=8) (h7:d.ag=7->j < d.az.length) (hz:d.ag=8->0<=v.n/\v.n < d.az.length) :
  EvP prog 224 [.agg (kg d),.agg (aG v),.v (.int .i64 j)] (.agg (fT (GN d v.n j))):=by
 have hS:GN d v.n j=if d.ag=5 then ⟨2,j,av⟩ else if d.ag=6 then ⟨4,0,av⟩ else if d.ag=7 then ⟨1,0,match d.az[j]? with | some e=>e.name | none=>av⟩ else ⟨5,0,match d.az[v.n.toNat]? with | some e=>e.name | none=>av⟩:=rfl
 generalize GN d v.n j=SZ at hS ⊢;obtain ⟨ag,at',lo,hi,most,DX,es⟩:=d;obtain ⟨k,z,s,ks⟩:=v;simp only [Val.n] at h5 h8 h7 hz hS;have pU:=cW es;refine eG 33 [.cell 6 141] func224 rfl ntmps224 rfl fun _ _ _ _=>?_;refine br ?_ ?_<;>intro c
 ·have c:ag=7:=sU c;subst c;have h7:=h7 rfl;obtain ⟨e,he⟩:∃ e,es[j]? = some e:=⟨_,gE h7⟩;rw [ai (by decide),ai (by decide),aj rfl,he] at hS;subst hS;refine iX (bH he) ?_;exact ⟨_,ax,rfl⟩
 have c7:¬ ag=7:=sU c;refine br ?_ ?_<;>intro c
 ·have c:ag=8:=sU c;subst c;have hz:=hz rfl;obtain ⟨e,he⟩:∃ e,es[z.toNat]? = some e:=⟨_,gE (by omega)⟩;rw [ai (by decide),ai (by decide),ai (by decide),he] at hS;subst hS;refine iX (bH he) ?_;exact ⟨_,ax,rfl⟩
 have c8:¬ ag=8:=sU c;refine br ?_ ?_<;>intro c
 ·have c:ag=5:=sU c;rw [aj c] at hS;subst hS;exact ⟨_,ax,rfl⟩
 have c5:¬ ag=5:=sU c;rw [ai c5,aj (by omega)] at hS;subst hS;exact ⟨_,ax,rfl⟩
theorem D5 (e:Ed) (x y:Val) (hx:rngW x) (hy:rngW y) (TO:x.wt<=1099511627776) (hwy:y.wt<=1099511627776) (hc : -9223372036854775808<=e.cn/\e.cn<=9223372036854775807) :
  EvP prog 223 [.agg (zW e),.agg (aG x),.agg (aG y)] (.v (.bool (oU e x y))):=by
 have hf:=Hh x.n y.n e.cn (uy hx) (uy hy) hc
 have hS:oU e x y=if e.ck=1/\x.k=2 then decide (aN x.n e.cn=aN y.n e.cn)
  else if e.ck=2/\x.k=3 then headsL e.cn.toNat (tx x.s) (tx y.s)
  else if e.ck=3/\x.k=5 then decide (x.ks.length=y.ks.length)
  else true:=rfl
 have cf:∀ v:Val,v.wt<=1099511627776->v.s.size<=1099511627776:=fun v hv=>by
  obtain ⟨k,n,s,ks⟩:=v;rw [Val.wt] at hv;show s.size<=_;omega
 have hh:=Ka x.s y.s (cf x TO) (cf y hwy) e.cn hc.2;have hA:e.ck=1/\x.k=2->oU e x y=decide (aN x.n e.cn=aN y.n e.cn):=fun h=>by rw [hS,aj h]
 have hB:e.ck=2/\x.k=3->oU e x y=headsL e.cn.toNat (tx x.s) (tx y.s):=fun h=>by rw [hS,ai (by omega),aj h]
 have hC:e.ck=3/\x.k=5->oU e x y=decide (x.ks.length=y.ks.length):=fun h=>by rw [hS,ai (by omega),ai (by omega),aj h]
 have hD:¬ (e.ck=1/\x.k=2)->¬ (e.ck=2/\x.k=3)->¬ (e.ck=3/\x.k=5)->oU e x y=true:=fun h1 h2 h3=>by rw [hS,ai h1,ai h2,ai h3]
 clear hS;generalize oU e x y=B at hA hB hC hD ⊢;obtain ⟨en,eb,ea,et,sP,ew,jy,sQ,uB,qd⟩:=e;obtain ⟨xk,xn,xs,nU⟩:=x;obtain ⟨yk,yn,ys,q7⟩:=y;simp only [Val.k,Val.n,Val.s,Val.ks] at hA hB hC hD hf hh;have hdx:=aU nU;have hdy:=aU q7;refine eG 55 [.tmp 6] func223 rfl ntmps223 rfl fun _ _ _ _=>?_;refine br ?_ ?_<;>intro c
 ·have c:jy=1/\xk=2:=by simpa [aq] using c
  rw [hA c];refine cP acw hf ?_;exact (rfl:_=_)
 have c1:¬ (jy=1/\xk=2):=by simpa [aq] using c
 refine br ?_ ?_<;>intro c
 ·have c:jy=2/\xk=3:=by simpa [aq] using c
  rw [hB c];refine cP acx hh ?_;exact (rfl:_=_)
 have c2:¬ (jy=2/\xk=3):=by simpa [aq] using c
 refine br ?_ ?_<;>intro c
 ·have c:jy=3/\xk=5:=by simpa [aq] using c
  rw [hC c];refine (bK ?_:);simp only [hdx,hdy];exact decide_eq_decide.2 ⟨fun h=>by omega,fun h=>by omega⟩
 have c3:¬ (jy=3/\xk=5):=by simpa [aq] using c
 rw [hD c1 c2 c3];exact (rfl:_=_)
def dfP (o:Option (List Stp)) (r:DV) (bU:List TkE):Prop:=match o with
 | none=>r = .tup [.v (.slice none 0 0),.v (.bool false)]/\bU=[]
 | some []=>r = .tup [.v (.slice none 0 0),.v (.bool true)]/\bU=[]
 | some (s :: p)=>r = .tup [.sl 0 (List.replicate (p.length + 1) []) (some 0),.v (.bool true)]/\bU=[⟨p.length + 1,141,3,some (bf (s :: p).reverse).flatten⟩]
abbrev adSt (PC LC:List DV) (obs a:Nat) (x y:Val) (d:Nd) (e:Nat):St:=
 ⟨[ay 2 a,aF 5 0,aF 8 1,aF 9 2,aF 12 3,bi 49 4 (dVals x.ks),ay 50 ((dVals x.ks).length),ay 51 e],[eyD PC LC obs,aG x,aG y,kg d],[]⟩
section
variable {ND:List Nd} {f:Nat->Nat->Bool} {L obs:Nat}
mutual
theorem uD:∀ (x y:Val) (i:Int) (a:Nat) (p:List Stp),diffV ND f L obs x y i a=some p->64 * p.length + 64<=x.wt
 | .mk k n s ks,.mk k' n' s' Eg,i,a,p,h=>by
  rw [diffV] at h;rw [Val.wt];split at h
  ·cases h;simp;omega
  ·cases hd:bR ND i with
   | none=>rw [hd] at h;cases h
   | some d=>
    rw [hd] at h;have:=zM ks Eg d n a 0 p h;omega
theorem zM:∀ (ks ls:List Val) (d:Nd) (z:Int) (a j:Nat) (p:List Stp),diffVs ND f L obs ks ls d z a j=some p->64 * p.length<=cu ks
 | [],[],_,_,_,_,p,h=>by rw [diffVs] at h;cases h;all_goals simp
 | [],_ :: _,_,_,_,_,p,h=>by rw [diffVs] at h;cases h;all_goals simp
 | _ :: _,[],_,_,_,_,p,h=>by rw [diffVs] at h;cases h;all_goals simp
 | x :: r,y :: t,d,z,a,j,p,h=>by
  have hw:=x.cT;rw [diffVs] at h;rw [cu]
  cases he:aW d z j with
  | none=>rw [he] at h;cases h
  | some e=>
   rw [he] at h;simp only at h;split at h
   ·rename_i q hq;cases h;rw [List.length_cons];split at hq
    ·have:=uD x y e.to _ q hq;omega
    all_goals grind
   ·have:=zM r t d z a (j + 1) p h;omega
end
end
theorem Tf (s:Stp) (L:List Stp):(bf L.reverse).flatten ++ [fT s].flatten=(bf (s :: L).reverse).flatten:=by
 rw [List.reverse_cons];simp [bf]
set_option maxHeartbeats 2000000 in
theorem sF {S:Sch} {ND:List Nd} {PC LC:List DV} (hP:dM S ND PC) (hR:za S.ae.length (aH S) (aC S.ae) LC) (Kg:∀ n∈ND,DR n) (cf:∀ n∈ND,n.az.length<=1099511627776) (obs:Nat) (ho:obs < S.ae.length) :
  ∀ (k:Nat) (x:Val),x.wt<=k->x.wt<=1099511627776->rngW x->∀ (y:Val),y.wt<=1099511627776->rngW y->∀ (i:Int) (a:Nat),a < S.ae.length->fitV ND x i=true->fitV ND y i=true ->
   TB prog 152 [.agg (eyD PC LC obs),.v (.int .i64 i),.v (.int .i64 a),.agg (aG x),.agg (aG y)] [] [] (fun r _ bU=>dfP (diffV ND (aH S) S.ae.length obs x y i a) r bU)
 | 0,x,h=>by have:=x.cT;omega
 | k + 1,x,h=>fun jA nI y qh Tg i a ha ZU hfy=>by
  have ih:=sF hP hR Kg cf obs ho k;have hL:=hR.ok;obtain ⟨d,hF⟩:=dT hP.ok ZU;obtain ⟨d',Vu⟩:=dT hP.ok hfy;have O2:d'=d:=by have:=hF.ah;rw [Vu.ah] at this;cases this;rfl
  subst O2;have XP:=fun {m:Nat} {x:Val}=>ny (m:=m) (x:=x) hP.ok ZU hF;have XQ:=fun {m:Nat} {x:Val}=>ny (m:=m) (x:=x) hP.ok hfy Vu;obtain ⟨h0,hg⟩:=bu hF.ah;obtain ⟨j,rfl⟩:∃ j:Nat,i=j:=⟨i.toNat,by omega⟩;have hg:ND[j]? = some d':=sU hg;have qY:=(gS hg).1;have kX:=mG hg;have hN:=hP.ok d' kX;have Oe:=cf d' kX;have SP:=Kg d' kX;have cJ:=hP.ah j d' hg;have zA:=hF.leaf;have hnd:=hF.ah;obtain ⟨xk,xn,xs,nU⟩:=x;obtain ⟨yk,yn,ys,q7⟩:=y;rw [Val.wt] at h jA qh;have aao:=pM nI;have aap:=pM Tg;simp only [Val.ks,Val.n] at XP XQ zA aao aap;have vY:=cq nU;have hyl:=cq q7;have hdx:=aU nU;have hdy:=aU q7;by_cases hc:xn≠yn∨xs≠ys∨nU.length≠q7.length
  ·have hD:diffV ND (aH S) S.ae.length obs (.mk xk xn xs nU) (.mk yk yn ys q7) j a=some []:=by rw [diffV,aj hc]
   rw [hD];refine j7 (s:=false) (bt:=[]) (mu:=[]) (hbt:=fun p hp=>by cases hp) (fr:=true) (P:=prog) tt eT 5000 115 [.tmp 10,.tmp 11] func152 rfl ntmps152 rfl (nL rfl) (fun _ _ _ _=>?_);refine br (fun _=>?_) (fun c=>?_)
   ·exact ⟨_,[],ax,rfl,rfl,rfl⟩
   ·grind [au]
  ·have hD:diffV ND (aH S) S.ae.length obs (.mk xk xn xs nU) (.mk yk yn ys q7) j a=diffVs ND (aH S) S.ae.length obs nU q7 d' xn a 0:=by rw [diffV,ai hc,hnd]
   rw [hD];simp at hc;obtain ⟨rfl,rfl,zV⟩:=hc;obtain ⟨ag,at',lo,hi,most,DX,es⟩:=d';refine j7 (s:=false) (bt:=[]) (mu:=[]) (hbt:=fun p hp=>by cases hp) (fr:=true) (P:=prog) tt eT 5000 115 [.tmp 10,.tmp 11] func152 rfl ntmps152 rfl (nL rfl) (fun _ _ _ _=>?_);refine br (fun c=>absurd c (by simp [au,hdx,hdy,zV])) (fun _=>?_);refine cP mT cJ ?_;refine lI (fun t st=>∃ e:Nat,st=adSt PC LC obs a (.mk xk xn xs nU) (.mk yk xn xs q7) ⟨ag,at',lo,hi,most,DX,es⟩ e/\e<=nU.length/\diffVs ND (aH S) S.ae.length obs (nU.drop e) (q7.drop e) ⟨ag,at',lo,hi,most,DX,es⟩ xn a e=diffVs ND (aH S) S.ae.length obs nU q7 ⟨ag,at',lo,hi,most,DX,es⟩ xn a 0/\t=nU.length - e) ⟨0,rfl,by omega,rfl,rfl⟩ (dz 4 pV j8) ?_;rintro t st ⟨e,rfl,he,hE,rfl⟩;refine br ?_ ?_<;>intro iD
   ·have aw:e < nU.length:=by simpa [hdx,Val.ks] using iD
    obtain ⟨x,hx⟩:=gX aw;obtain ⟨y,hy⟩:∃ y,q7[e]? = some y:=⟨_,gE (by omega)⟩;have zX:=mG hx;have hmy:=mG hy;have TO:=cz zX;have hwy:=cz hmy;obtain ⟨ed,hK⟩:=XP hx;obtain ⟨Kt,hK2⟩:=XQ hy;have vw:Kt=ed:=by have:=hK.gq;rw [hK2.gq] at this;cases this;rfl
    subst vw;have h5:5<=ag:=by grind
    obtain ⟨nJ,_⟩:=GO hN hK.mem hK.bare;have GG:=Mc hK.to' nJ;rw [List.drop_eq_getElem_cons aw,show nU[e]=x from (gS hx).2,List.drop_eq_getElem_cons (show e < q7.length by omega),show q7[e]=y from (gS hy).2,diffVs,hK.gq] at hE;simp only at hE;have hU:=DF hL hN hK.mem ha;have hSn:=Vv hL hN hK.mem ha;have lu:=Ks hR PC obs a ha ⟨ag,at',lo,hi,most,DX,es⟩ (.mk xk xn xs nU) e Kt hK.gq hK.mem hN h5 GG Oe;have o6:=zL hR PC obs (gy (aH S) S.ae.length ⟨ag,at',lo,hi,most,DX,es⟩ Kt a) ho hU;have D6:=zL hR PC obs (y9 (aH S) S.ae.length a Kt.seen.toNat) ho hSn;have hcs:=D5 Kt x y (eN aao zX) (eN aap hmy) (by omega) (by omega) (SP.2.2 Kt hK.mem);have hrec:=ih x (by omega) (by omega) (eN aao zX) y (by omega) (eN aap hmy) Kt.to (gy (aH S) S.ae.length ⟨ag,at',lo,hi,most,DX,es⟩ Kt a) hU hK.fit hK2.fit
    have Th:=astepP_spec ⟨ag,at',lo,hi,most,DX,es⟩ (.mk xk xn xs nU) e h5 hN.k8 (fun c7=>by
     have:=hK.gq;unfold aW at this;rw [aj c7] at this
     exact (gS this).1) GG
    obtain ⟨_,_,h3,VG⟩:=iv hN hK.mem;have hj:=hR.join a Kt.seen.toNat ha VG;rw [<- h3] at hj;rw [DE] at hE;have afl:=fun i' a' p=>uD (ND:=ND) (f:=aH S) (L:=S.ae.length) (obs:=obs) x y i' a' p;generalize gy (aH S) S.ae.length ⟨ag,at',lo,hi,most,DX,es⟩ Kt a=U at hU lu o6 hrec hE;generalize y9 (aH S) S.ae.length a Kt.seen.toNat=SN at hj D6 hSn hE;rw [show GN ⟨ag,at',lo,hi,most,DX,es⟩ (Val.mk xk xn xs nU).n e=GN ⟨ag,at',lo,hi,most,DX,es⟩ xn e from rfl] at Th;generalize GN ⟨ag,at',lo,hi,most,DX,es⟩ xn e=sp at Th hE;have fV:=afl Kt.to U;clear afl;generalize diffV ND (aH S) S.ae.length obs x y Kt.to U=R at hrec hE fV;generalize oU Kt x y=SC at hcs hE;generalize aH S U obs=b1 at o6 hE;generalize aH S SN obs=b2 at D6 hE;obtain ⟨ak,an,O3,aks⟩:=x;obtain ⟨bk,bn,bs,bks⟩:=y;obtain ⟨en,eb,ea,et,sP,ew,jy,sQ,uB,qd⟩:=Kt;obtain ⟨sk,sn,ss⟩:=sp;refine iX (bJ hx) ?_;refine cP aci lu ?_;refine cP PX o6 ?_
    cases b1 with
    | true=>
     simp only [reduceIte] at hE;refine dI ?_;refine iX (bJ hy) ?_;refine sy Wt rfl hrec ax (fun tu bU hr=>?_)
     match R,hr,hE,fV with
     | none,hr,hE,_=>
      obtain ⟨rfl,rfl⟩:=hr;simp only at hE;exact rE ⟨_,by omega,e + 1,rfl,by omega,hE,rfl⟩ (dz 4 (pX (aX aw (by omega))) (dH (aX aw (by omega))))
     | some [],hr,hE,_=>
      obtain ⟨rfl,rfl⟩:=hr;simp only at hE;rw [<- hE];refine rT (os:=[]) 0 0 PY rfl rfl rfl rfl ax Th (fun r ir cC hr h1 h2=>?_);subst hr;obtain rfl:=List.eq_nil_of_length_eq_zero h1;obtain rfl:=List.eq_nil_of_length_eq_zero h2;refine ⟨⟨[(111,⟨[],.agg (fT ⟨sk,sn,ss⟩)⟩),(107,⟨[],.sl 0 [] (some 0)⟩)],[],[⟨0,141,3,some []⟩]⟩,Wk.FO (dq 0 ⟨0,141,3,some []⟩ rfl rfl rfl pV rfl rfl j8),?_⟩;refine ⟨⟨⟨rfl,by simp⟩,by simp [maxLen],by simp⟩,?_⟩;exact ⟨.tup [.sl 0 (List.replicate 1 []) (some 0),.v (.bool true)],[],iP,rfl,rfl,rfl⟩
     | some (s0 :: p0),hr,hE,fV=>
      obtain ⟨rfl,rfl⟩:=hr;simp only at hE;rw [<- hE];refine cP PY Th ?_;have fV:=fV (s0 :: p0) rfl;rw [List.length_cons] at fV;refine ⟨⟨⟨by simp,by simp⟩,by simp [maxLen];omega,by simp;omega⟩,?_⟩;refine ⟨.tup [.sl 0 (List.replicate (p0.length + 1 + 1) []) (some 0),.v (.bool true)],[],iP,rfl,rfl,?_⟩;exact congrArg (fun l=>[(⟨p0.length + 1 + 1,141,3,some l⟩:TkE)]) (Tf ⟨sk,sn,ss⟩ (s0 :: p0))
    | false=>
     by_cases HY:jy=0
     ·subst HY;simp at hE;refine dI ?_;exact rE ⟨_,by omega,e + 1,rfl,by omega,hE,rfl⟩ (dz 4 (pX (aX aw (by omega))) (dH (aX aw (by omega))))
     ·cases b2 with
      | false=>
       simp at hE;refine dI ?_;refine br (fun _=>?_) (fun g=>absurd g (by simp [HY]));refine cD uN hj ?_;refine cD PX D6 ?_;exact rE ⟨_,by omega,e + 1,rfl,by omega,hE,rfl⟩ (dz 4 (pX (aX aw (by omega))) (dH (aX aw (by omega))))
      | true=>
       simp [HY] at hE;refine dI ?_;refine br (fun _=>?_) (fun g=>absurd g (by simp [HY]));refine cD uN hj ?_;refine cD PX D6 ?_;refine dI ?_;refine iX (bJ hy) ?_;refine cD acj hcs ?_
       cases SC with
       | true=>
        simp at hE;exact rE ⟨_,by omega,e + 1,rfl,by omega,hE,rfl⟩ (dz 4 (pX (aX aw (by omega))) (dH (aX aw (by omega))))
       | false=>
        simp at hE;rw [<- hE];refine rT (os:=[]) 0 0 PY rfl rfl rfl rfl ax Th (fun r ir cC hr h1 h2=>?_);subst hr;obtain rfl:=List.eq_nil_of_length_eq_zero h1;obtain rfl:=List.eq_nil_of_length_eq_zero h2;refine ⟨⟨[(111,⟨[],.agg (fT ⟨sk,sn,ss⟩)⟩),(107,⟨[],.sl 0 [] (some 0)⟩)],[],[⟨0,141,3,some []⟩]⟩,Wk.FO (dq 0 ⟨0,141,3,some []⟩ rfl rfl rfl pV rfl rfl j8),?_⟩;refine ⟨⟨⟨rfl,by simp⟩,by simp [maxLen],by simp⟩,?_⟩;exact ⟨.tup [.sl 0 (List.replicate 1 []) (some 0),.v (.bool true)],[],iP,rfl,rfl,rfl⟩
   ·have hge:e=nU.length:=by have:=iD;simp [hdx,Val.ks] at this;omega
    subst hge;rw [List.drop_length] at hE;rw [<- hE,show diffVs ND (aH S) S.ae.length obs ([]:List Val) (q7.drop nU.length) ⟨ag,at',lo,hi,most,DX,es⟩ xn a nU.length=none by rw [diffVs];simp];exact ⟨_,[],ax,rfl,rfl,rfl⟩
theorem reverse_nil:Ev prog 153 [.v (.slice none 0 0)] [] [] (fun _ _ _=>True):=by
 refine eG 28 [] func153 rfl ntmps153 rfl fun _ _ _ _=>?_;refine lI (fun t st=>st=⟨[(0,⟨[],.v (.slice none 0 0)⟩),ay 2 0,ay 3 (-1)],[],[]⟩/\t=0) ⟨rfl,rfl⟩ (bG j8) ?_;rintro t st ⟨rfl,rfl⟩;exact ⟨.tup [],ax,trivial⟩
section
variable {S:Sch} {ND:List Nd} {PC LC:List DV} (hP:dM S ND PC) (gg:EvP prog 72 [.pt PC 0] (.pt LC 0)) (hR:za S.ae.length (aH S) (aC S.ae) LC) (Kg:∀ n∈ND,DR n) (cf:∀ n∈ND,n.az.length<=1099511627776) (rt:Nat) (nT:dF S=rt)
include hP gg hR nT
theorem B5 (o:Int) (x y:Val) (hx:x.wt<=1099511627776) (hy:y.wt<=1099511627776) :
  EvP prog 78 [.pt PC 0,.v (.int .i64 o),.agg (aG x),.agg (aG y)] (.v (.bool (decide (0<=o/\o < S.ae.length) && fitV ND x rt && fitV ND y rt))):=by
 have hlen:=hR.len;have dy:=hP.root;rw [nT] at dy;have h1:=kO hP _ x (aR _) hx rt;have h2:=kO hP _ y (aR _) hy rt;generalize fitV ND x rt=F1 at h1 ⊢;generalize fitV ND y rt=F2 at h2 ⊢;obtain ⟨xk,xn,xs,nU⟩:=x;obtain ⟨yk,yn,ys,q7⟩:=y;refine eG 32 [.tmp 8] func78 rfl ntmps78 rfl fun _ _ _ _=>?_;refine dI ?_;refine br ?_ ?_<;>intro c
 ·have c:0<=o:=sU c;refine cD Ip gg ?_;refine cD Iq hlen ?_;refine br ?_ ?_<;>intro g
  ·have g:o < S.ae.length:=by simpa [pickB] using g
   refine cD xu dy ?_;refine cD PF h1 ?_;rw [show decide (0<=o/\o < (S.ae.length:Int))=true from decide_eq_true ⟨c,g⟩]
   cases F1 with
   | false=>exact (rfl:_=_)
   | true=>
    refine cD xu dy ?_;refine cD PF h2 ?_;exact (rfl:_=_)
  ·have g:¬ o < S.ae.length:=by simpa [pickB] using g
   rw [show decide (0<=o/\o < (S.ae.length:Int))=false from decide_eq_false (fun h=>g h.2)];exact (rfl:_=_)
 ·have c:¬ 0<=o:=sU c;rw [show decide (0<=o/\o < (S.ae.length:Int))=false from decide_eq_false (fun h=>c h.1)];exact (rfl:_=_)
include Kg cf
theorem Ku (fm:rt < ND.length) (o:Int) (x y:Val) (hx:x.wt<=1099511627776) (hy:y.wt<=1099511627776) (nI:rngW x) (Tg:rngW y) :
  EvP prog 77 [.pt PC 0,.v (.int .i64 o),.agg (aG x),.agg (aG y)] (dfD (dfF ND (aH S) S.ae.length rt o x y)):=by
 have hb:=B5 hP gg hR rt nT o x y hx hy;have dy:=hP.root;rw [nT] at dy;have rX:=hR.bot;have hD:dfF ND (aH S) S.ae.length rt o x y=if 0<=o/\o < S.ae.length/\fitV ND x rt=true/\fitV ND y rt=true then diffV ND (aH S) S.ae.length o.toNat x y rt (eC (aH S) S.ae.length) else none:=rfl
 generalize dfF ND (aH S) S.ae.length rt o x y=D at hD ⊢;by_cases hc:0<=o/\o < S.ae.length/\fitV ND x rt=true/\fitV ND y rt=true
 ·rw [aj hc] at hD;rw [show decide (0<=o/\o < (S.ae.length:Int))=true from decide_eq_true ⟨hc.1,hc.2.1⟩,hc.2.2.1,hc.2.2.2] at hb;obtain ⟨ob,rfl⟩:∃ n:Nat,o=n:=⟨_,(Int.toNat_of_nonneg hc.1).symm⟩;rw [lK] at hD;have hdf:=sF hP hR Kg cf ob (by omega) _ x (aR _) hx nI y hy Tg rt (eC (aH S) S.ae.length) (wz hR.ok) hc.2.2.1 hc.2.2.2;rw [<- hD] at hdf;have fV:=fun p h=>uD (ND:=ND) (f:=aH S) (L:=S.ae.length) (obs:=ob) x y rt (eC (aH S) S.ae.length) p h;rw [<- hD] at fV;generalize eC (aH S) S.ae.length=bt at rX hdf;obtain ⟨xk,xn,xs,nU⟩:=x;obtain ⟨yk,yn,ys,q7⟩:=y;refine eG 40 [.tmp 8,.tmp 9] func77 rfl ntmps77 rfl fun _ _ _ _=>?_;refine cP Us hb ?_;refine cP Ip gg ?_;refine dI ?_;refine cD xu dy ?_;refine cD PG rX ?_;refine sy Wt rfl hdf ax (fun tu bU hr=>?_)
  match D,hr,fV with
  | none,hr,_=>
   obtain ⟨rfl,rfl⟩:=hr;refine cE PS rfl reverse_nil ax (fun q _=>?_);exact ⟨_,ax,rfl⟩
  | some [],hr,_=>
   obtain ⟨rfl,rfl⟩:=hr;refine cE PS rfl reverse_nil ax (fun q _=>?_);exact ⟨.tup [.sl 3 (bf []) none,.v (.bool true)],ax,rfl⟩
  | some (s :: p),hr,fV=>
   obtain ⟨rfl,rfl⟩:=hr;have fV:=fV (s :: p) rfl;have fm:(s :: p).reverse.length=p.length + 1:=by rw [List.length_reverse,List.length_cons]
   have CE:=D4 (s :: p).reverse (by simp) (by rw [fm];rw [List.length_cons] at fV;omega);rw [fm,List.reverse_reverse] at CE
   have vE:∀ x∈bf (s :: p),x.length=3:=fun x hx=>by
    obtain ⟨y,_,rfl⟩:=List.mem_map.1 hx;rfl
   have gR:(bf (s :: p)).length=p.length + 1:=by rw [eM,List.length_cons]
   have yf:(List.replicate (p.length + 1) ([]:List DV)).length=p.length + 1:=List.length_replicate;refine rT (os:=[]) 0 1 PS rfl rfl rfl rfl iP CE (fun r ir cC hr h1 h2=>?_);subst hr;obtain rfl:=List.eq_nil_of_length_eq_zero h1;refine ⟨_,VU (t:=11) (k:=0) (ns:=bf (s :: p)) rfl vE gR rfl yf,?_⟩;exact ⟨.tup [.sl 3 (bf (s :: p)) none,.v (.bool true)],ax,rfl⟩
 ·rw [ai hc] at hD;subst hD;have hf:(decide (0<=o/\o < S.ae.length) && fitV ND x rt && fitV ND y rt)=false:=by grind
  rw [hf] at hb;obtain ⟨xk,xn,xs,nU⟩:=x;obtain ⟨yk,yn,ys,q7⟩:=y;refine eG 40 [.tmp 8,.tmp 9] func77 rfl ntmps77 rfl fun _ _ _ _=>?_;refine cP Us hb ?_;exact ⟨_,ax,rfl⟩
theorem HH (fm:rt < ND.length) (o:Int) (x y:Val) (hx:x.wt<=1099511627776) (hy:y.wt<=1099511627776) (nI:rngW x) (Tg:rngW y) :
  EvP prog 21 [.pt PC 0,.v (.int .i64 o),.agg (aG x),.agg (aG y)] (.v (.bool (akF ND (aH S) S.ae.length rt o x y))):=by
 have hb:=B5 hP gg hR rt nT o x y hx hy;have hd:=Ku hP gg hR Kg cf rt nT fm o x y hx hy nI Tg;have hA:akF ND (aH S) S.ae.length rt o x y=(decide (0<=o/\o < S.ae.length) && fitV ND x rt && fitV ND y rt && (diffV ND (aH S) S.ae.length o.toNat x y rt (eC (aH S) S.ae.length)).isNone):=rfl;have hD:dfF ND (aH S) S.ae.length rt o x y=if 0<=o/\o < S.ae.length/\fitV ND x rt=true/\fitV ND y rt=true then diffV ND (aH S) S.ae.length o.toNat x y rt (eC (aH S) S.ae.length) else none:=rfl
 have hE:akF ND (aH S) S.ae.length rt o x y=(decide (0<=o/\o < S.ae.length) && fitV ND x rt && fitV ND y rt && !(dfF ND (aH S) S.ae.length rt o x y).isSome):=by grind
 rw [hE];clear hE hD hA;generalize dfF ND (aH S) S.ae.length rt o x y=D at hd ⊢;generalize (decide (0<=o/\o < S.ae.length) && fitV ND x rt && fitV ND y rt)=B at hb ⊢;obtain ⟨xk,xn,xs,nU⟩:=x;obtain ⟨yk,yn,ys,q7⟩:=y
 cases D with
 | none=>
  refine eG 28 [.tmp 8] func21 rfl ntmps21 rfl fun _ _ _ _=>?_;refine cP abO hd ?_;refine cP Us hb ?_;cases B<;>exact (rfl:_=_)
 | some p=>
  refine eG 28 [.tmp 8] func21 rfl ntmps21 rfl fun _ _ _ _=>?_;refine cP abO hd ?_;refine cP Us hb ?_;cases B<;>exact (rfl:_=_)
end
section
variable (ND:List Nd) (f:Nat->Nat->Bool) (n obs:Nat)
end
theorem walkV_app {ND:List Nd} {f:Nat->Nat->Bool} {n:Nat}:∀ (p:List Stp) (s:Stp) (i a:Nat),walkV ND f n (p ++ [s]) i a=match walkV ND f n p i a with | none=>none | some (j,b)=>walkV ND f n [s] j b
 | [],s,i,a=>by rw [List.nil_append,walkV]
 | t :: p,s,i,a=>by
  rw [List.cons_append,walkV,walkV]
  cases ND[i]? with
  | none=>rfl
  | some d=>
   simp only
   cases oS d t with
   | none=>rfl
   | some k=>
    simp only
    cases d.az[k]? with
    | none=>rfl
    | some e=>exact walkV_app p s _ _
theorem HI {L N:Nat} {d:Nd} (hN:cr L N d) (h:d.ag=7∨d.ag=8) {a b:Nat} {e e':Ed} (ha:d.az[a]? = some e) (hb:d.az[b]? = some e') (hn:e.name=e'.name):a=b:=by
 have hd:=(hN.many h).2.2.1
 have h3:(d.az.map Ed.name)[a]? = (d.az.map Ed.name)[b]?:=by
  rw [List.getElem?_map,List.getElem?_map,ha,hb];simpa using hn
 exact (List.getElem?_inj (by simpa using (gS ha).1) hd).1 h3
theorem OB {L N:Nat} {d:Nd} (hN:cr L N d) (h5:5<=d.ag) {x:Val} (Ah:shellF d x=true) {j:Nat} (hj:j < x.ks.length) {e:Ed} (he:aW d x.n j=some e) (hb:e.bare=false) :
  bI (stpR d x j)=true/\∃ k,oS d (stpR d x j)=some k/\d.az[k]? = some e:=by
 have h8:=hN.k8
 have key:∀ k:Nat,bI (stpR d x j)=true->d.az[k]? = some e->kP d (stpR d x j) e=true->(∀ (a:Nat) (e':Ed),a < k->d.az[a]? = some e' -> kP d (stpR d x j) e'=false)->bI (stpR d x j)=true/\∃ k,oS d (stpR d x j)=some k/\d.az[k]? = some e:=by
  intro k hr hk h1 h2;refine ⟨hr,k,?_,hk⟩;unfold oS;rw [aj hr];refine dc (gS hk).1 (by rw [edgeP,hk];exact h1) fun a ha=>?_;unfold edgeP
  cases h:d.az[a]? with
  | none=>rfl
  | some e'=>exact h2 a e' ha h
 by_cases c5:d.ag=5
 ·have hs:stpR d x j=⟨2,j,av⟩:=by simp [stpR,c5]
  rw [hs] at key ⊢
  have hm:(x.ks.length:Int)<=d.most:=by
   unfold shellF at Ah
   grind
  simp only [aW,c5] at he;exact key 0 (by simp [bI,av,ByteArray.empty]) he (by simp [kP,c5];omega) (by omega)
 by_cases c6:d.ag=6
 ·have hs:stpR d x j=⟨4,0,av⟩:=by simp [stpR,c6]
  rw [hs] at key ⊢;simp only [aW,c6] at he;exact key 0 (by simp [bI,av]) he (by simp [kP,c6]) (by omega)
 by_cases c7:d.ag=7
 ·simp only [aW,c7] at he;have he:d.az[j]? = some e:=he;have hs:stpR d x j=⟨1,0,e.name⟩:=by simp [stpR,c7,he]
  rw [hs] at key ⊢;have nS:=(hN.many (.inl c7)).2.2.2 e (mG he)
  exact key j (by simp [bI,nS]) he (by simp [kP,c7,hb]) fun a e' ha h=>by
   have:e'.name≠e.name:=fun hn=>by have:=HI hN (.inl c7) h he hn;omega
   simp [kP,c7,this]
 ·have c8:d.ag=8:=by omega
  simp only [aW,c8] at he;have he:d.az[x.n.toNat]? = some e:=he;have hs:stpR d x j=⟨5,0,e.name⟩:=by simp [stpR,c8,he]
  rw [hs] at key ⊢;have nS:=(hN.many (.inr c8)).2.2.2 e (mG he)
  exact key x.n.toNat (by simp [bI,nS]) he (by simp [kP,c8,hb]) fun a e' ha h=>by
   have:e'.name≠e.name:=fun hn=>by have:=HI hN (.inr c8) h he hn;omega
   simp [kP,c8,this]
theorem D7 {ND:List Nd} {L:Nat} (bA:∀ n∈ND,cr L ND.length n) {x:Val} {i:Int} {d:Nd} (hw:dW ND x i=true) (hd:bR ND i=some d) {j:Nat} {a:Val} (ha:x.ks[j]? = some a) :
  5<=d.ag/\x.k=d.ag/\shellF d x=true/\∃ e,aW d x.n j=some e/\e.bare=false/\dW ND a e.to=true:=by
 have hN:=bA d (mG (bu hd).2);obtain ⟨k,n,s,ks⟩:=x;simp only [Val.ks] at ha;have aY:ks ≠ []:=by rintro rfl;cases ha
 rw [dW,hd] at hw;simp only at hw;split at hw
 ·simp [aY] at hw
 split at hw
 ·cases hw
 rename_i hk;split at hw
 ·simp [aY] at hw
 rw [aO] at hw;obtain ⟨e,he,hwe⟩:=kQ hw.2 ha;rw [Nat.zero_add] at he;obtain ⟨e',hK⟩:=uw hN (by omega) hw.1 (m:=j) (gS ha).1;have:=hK.gq;simp only [Val.n] at this;rw [he] at this;cases this;exact ⟨by omega,by simp only [Val.k];omega,hw.1,e,he,hK.bare,hwe⟩
def VW (ND:List Nd) (f:Nat->Nat->Bool) (n rt b0:Nat) (c:Chg):Prop:=(∀ s∈c.p,bI s=true)/\∃ j b:Nat,walkV ND f n c.p rt b0=some (j,b) /\
 ((c.k=1/\∃ x y,c.x=some x/\c.y=some y/\dW ND x (j:Int)=true/\dW ND y (j:Int)=true)∨(c.k=2/\c.x=none/\∃ y,c.y=some y/\dW ND y (j:Int)=true)∨(c.k=3/\c.y=none/\∃ x,c.x=some x/\dW ND x (j:Int)=true))
theorem sG {ND:List Nd} {L:Nat} (bA:∀ n∈ND,cr L ND.length n) {f:Nat->Nat->Bool} {n rt b0 b i:Nat} {p:List Stp} (hp:∀ s∈p,bI s=true) (rz:walkV ND f n p rt b0=some (i,b)) {d:Nd} (hd:bR ND (i:Int)=some d) {x:Val} (hw:dW ND x (i:Int)=true) {j:Nat} {a:Val} (ha:x.ks[j]? = some a) :
  (∀ s∈p ++ [stpR d x j],bI s=true)/\∃ (e:Ed) (t b':Nat),aW d x.n j=some e/\e.to=(t:Int)/\walkV ND f n (p ++ [stpR d x j]) rt b0=some (t,b')/\dW ND a (t:Int)=true:=by
 have hg:=(bu hd).2;have hN:=bA d (mG hg);obtain ⟨h5,hk,Ah,e,he,hb,hwa⟩:=D7 bA hw hd ha;obtain ⟨hr,q,h1,h2⟩:=OB hN h5 Ah (gS ha).1 he hb;obtain ⟨d',uM,_⟩:=gL hwa;have h0:=(bu uM).1;have ht:e.to=(e.to.toNat:Int):=by omega
 refine ⟨fun s hs=>?_,e,e.to.toNat,y9 f n b e.label.toNat,he,ht,?_,ht ▸ hwa⟩
 ·rcases List.mem_append.1 hs with h | h
  ·exact hp s h
  ·rw [List.mem_singleton.1 h];exact hr
 ·rw [walkV_app,rz];have hg:ND[i]? = some d:=sU hg;simp only [walkV,hg,h1,h2]
theorem uE {F:Val->Val->Int->List Stp->List Chg} {d:Nd} {x y:Val} {p:List Stp} {c:Chg}:∀ {m:Nat},c∈kidsD F d x y p m->∃ j,j < m/\c∈kidD F d x y p j
 | 0,h=>by cases h
 | m + 1,h=>by
  rw [kidsD] at h;rcases List.mem_append.1 h with h | h
  ·obtain ⟨j,hj,hc⟩:=uE h;exact ⟨j,by omega,hc⟩
  ·exact ⟨m,by omega,h⟩
theorem zN {p:List Stp} {c:Chg}:∀ {l:List Val} {j:Nat},c∈addC p l j->∃ e y,l[e]? = some y/\c=⟨2,p ++ [cX (j + e)],none,some y⟩
 | [],_,h=>by cases h
 | y :: r,j,h=>by
  cases h with
  | head=>exact ⟨0,y,rfl,rfl⟩
  | tail _ h=>
   obtain ⟨e,z,h1,h2⟩:=zN h;exact ⟨e + 1,z,by simpa using h1,by rw [h2,show j + 1 + e=j + (e + 1) by omega]⟩
theorem zO {p:List Stp} {c:Chg}:∀ {l:List Val} {j:Nat},c∈kS p l j->∃ e x,l[e]? = some x/\c=⟨3,p ++ [cX (j + e)],some x,none⟩
 | [],_,h=>by cases h
 | x :: r,j,h=>by
  rw [kS] at h;rcases List.mem_append.1 h with h | h
  ·obtain ⟨e,z,h1,h2⟩:=zO h;exact ⟨e + 1,z,by simpa using h1,by rw [h2,show j + 1 + e=j + (e + 1) by omega]⟩
  ·rw [List.mem_singleton.1 h];exact ⟨0,x,rfl,rfl⟩
theorem Mr {ND:List Nd} {L:Nat} (bA:∀ n∈ND,cr L ND.length n) {f:Nat->Nat->Bool} {n rt b0:Nat}:∀ (k:Nat) (x y:Val) (i b:Nat) (p:List Stp),(∀ s∈p,bI s=true)->walkV ND f n p rt b0=some (i,b)->dW ND x (i:Int)=true->dW ND y (i:Int)=true->∀ c∈dfK ND k x y (i:Int) p,VW ND f n rt b0 c
 | 0,_,_,_,_,_,_,_,_,_,c,h=>by cases h
 | k + 1,x,y,i,b,p,hp,rz,hx,hy,c,h=>by
  have ih:=Mr bA (f:=f) (n:=n) (rt:=rt) (b0:=b0) k;rw [dfK] at h;split at h
  rotate_left
  ·rw [List.mem_singleton.1 h];exact ⟨hp,i,b,rz,.inl ⟨rfl,x,y,rfl,rfl,hx,hy⟩⟩
  rename_i hn;unfold nN at hn;simp only [aO,Bool.or_eq_true] at hn;obtain ⟨e1,e2,e3,hl⟩:=hn;have e1:x.k=y.k:=of_decide_eq_true e1;have e2:x.n=y.n:=of_decide_eq_true e2;have hl:x.ks.length=y.ks.length∨x.k=5:=hl.imp of_decide_eq_true of_decide_eq_true
  cases hd:bR ND (i:Int) with
  | none=>rw [hd] at h;cases h
  | some d=>
  rw [hd] at h;simp only at h;rcases List.mem_append.1 h with h | h
  ·rcases List.mem_append.1 h with h | h
   ·obtain ⟨j,_,hc⟩:=uE h;unfold kidD at hc;split at hc
    ·rename_i a w e ha hw he;obtain ⟨g1,e',t,b',g2,g3,g4,g5⟩:=sG bA hp rz hd hx ha;obtain ⟨_,e'',t',b'',q2,q3,q4,q5⟩:=sG bA hp rz hd hy hw;rw [he] at g2;cases g2;rw [<- e2,he] at q2;cases q2;rw [g3] at hc q3;obtain rfl:t=t':=by omega
     exact ih a w t b' _ g1 g4 g5 q5 c hc
    ·cases hc
   ·obtain ⟨e,w,h1,rfl⟩:=zN h;rw [List.getElem?_drop] at h1;obtain ⟨h5,hk,_⟩:=D7 bA hy hd h1;have aw:=(gS h1).1;obtain ⟨g1,e',t,b',g2,g3,g4,g5⟩:=sG bA hp rz hd hy h1;rw [show stpR d y (x.ks.length + e)=cX (x.ks.length + e) by rw [stpR,aj (by omega)];rfl] at g1 g4;exact ⟨g1,t,b',g4,.inr (.inl ⟨rfl,rfl,w,rfl,g5⟩)⟩
  ·obtain ⟨e,w,h1,rfl⟩:=zO h;rw [List.getElem?_drop] at h1;obtain ⟨h5,hk,_⟩:=D7 bA hx hd h1;have aw:=(gS h1).1;obtain ⟨g1,e',t,b',g2,g3,g4,g5⟩:=sG bA hp rz hd hx h1;rw [show stpR d x (y.ks.length + e)=cX (y.ks.length + e) by rw [stpR,aj (by omega)];rfl] at g1 g4;exact ⟨g1,t,b',g4,.inr (.inr ⟨rfl,rfl,w,rfl,g5⟩)⟩
theorem Ti (a:Val) (l:List Val) (hl:(a :: l).length<=17179869184):TB prog 130 [.sl 4 (dVals (a :: l)) none] [] [] (fun r _ bU=>r = .sl 4 (dVals (a :: l)) (some 0)/\bU=[⟨(a :: l).length,34,4,none⟩]):=by
 have cw:=aU (a :: l);have aY:dVals (a :: l) ≠ []:=by obtain ⟨_,_,_,_⟩:=a;simp [dVals]
 generalize a :: l=ks at *;refine j7 (s:=false) (bt:=[]) (mu:=[]) (hbt:=fun p hp=>by cases hp) (fr:=true) (P:=prog) tt eT 5000 8 [.tmp 2] func130 rfl ntmps130 rfl (nL rfl) (fun _ _ _ _=>?_);refine qJ ⟨_,rfl⟩ rfl rfl rfl rfl (fun b hb=>?_);rw [hb aY];refine l7 rfl rfl rfl rfl (hk:=?_);refine ⟨rfl,⟨by simp [maxLen,cw];omega,by simp [cw];omega⟩,?_⟩;refine ⟨_,[],iP,rfl,rfl,?_⟩;show [(⟨0 + (dVals ks).length,_,4,none⟩:TkE)]=_;rw [cw,Nat.zero_add]
theorem Kv (l:List Val) (v:Val):dVals l ++ [aG v]=dVals (l ++ [v]):=by simp [fu]
theorem VX {P:Program} {f:FuncId} {args:List DV} {e:Nat} {ty:TypeId} (h:TB P f args [] [] (fun r _ bU=>(r = .v (.slice none 0 0)/\bU=[])∨(r = .sl e [] (some 0)/\bU=[⟨0,ty,e,none⟩]))) :
  TB P f args [] [] (fun r _ bU=>r = .sl e [] (some 0)/\bU=[⟨0,ty,e,none⟩]):=by
 intro E w vs hE ht hv;refine (h E w vs hE ht hv).mono ?_;rintro e' w' ⟨v,rfl,hM,hs,d,os,E',h1,h2,h3,h4,h5,h6⟩;rcases h6 with ⟨rfl,h6⟩ | h6
 ·have hE0:E.tk.length=0:=by rw [ht];all_goals rfl
  have hτ0:E'.τ=[]:=List.eq_nil_of_length_eq_zero (by rw [h1.tl,h6];rfl);unfold Rv at h5;refine ⟨v,rfl,hM,hs,.sl e [] (some 0),os,⟨E'.c,E'.β,[⟨0,ty,e,none⟩],[.slice none 0 0]⟩,?_,h2,by show E.tk.length<=_;omega,?_,?_,rfl,rfl⟩
  ·exact { h1 with
    tl:=rfl
    ey:=fun i cs hi=>by
     obtain ⟨b,t,arr,g1,g2,g3⟩:=h1.ey i cs hi;exact ⟨b,t,arr,g1,g2,RvC.mono (E:=E') (E':=⟨E'.c,E'.β,[⟨0,ty,e,none⟩],[.slice none 0 0]⟩) ⟨fun _ _ h=>h,fun _ _ h=>h,fun j q hj=>by rw [h6] at hj;simp at hj⟩ g3⟩
    bU:=fun k q y hq hy=>by
     cases k with
     | zero=>
      cases hq;cases hy;exact .inl ⟨rfl,rfl,fun cs hcs=>by cases hcs⟩
     | succ k=>simp at hq
    jc:=fun k k' y y' g _ hy _ hg=>by
     cases k with
     | zero=>cases hy;simp [Value.ownBlock] at hg
     | succ k=>simp at hy }
  ·exact { h4 with
    tk:=fun k q y hq hy=>by
     have:=(gS hq).1;omega
    tn:=fun k y g _ hy hg=>by
     cases k with
     | zero=>cases hy;simp [Value.ownBlock] at hg
     | succ k=>simp at hy }
  ·unfold Rv
   exact ⟨none,0,0,h5.1,⟨rfl,aR _⟩,fun hn=>(hn rfl).elim,fun k hk=>by
    cases hk
    exact ⟨⟨0,ty,e,none⟩,rfl,aR _,fun _=>by rw [h5.1];rfl⟩⟩
 ·exact ⟨v,rfl,hM,hs,d,os,E',h1,h2,h3,h4,h5,h6⟩
theorem OC:TB prog 130 [.sl 4 [] none] [] [] (fun r _ bU=>r = .sl 4 [] (some 0)/\bU=[⟨0,34,4,none⟩]):=by
 refine VX ?_;refine j7 (s:=false) (bt:=[]) (mu:=[]) (hbt:=fun p hp=>by cases hp) (fr:=true) (P:=prog) tt eT 5000 8 [.tmp 2] func130 rfl ntmps130 rfl (nL rfl) (fun _ _ _ _=>?_);refine qJ ⟨_,rfl⟩ rfl rfl rfl rfl (fun b hb=>?_)
 cases b with
 | true=>exact ⟨_,[],ax,rfl,Or.inl ⟨rfl,rfl⟩⟩
 | false=>
  refine l7 rfl rfl rfl rfl (hk:=?_);refine ⟨rfl,⟨by simp [maxLen],by simp⟩,?_⟩;exact ⟨_,[],iP,rfl,Or.inr ⟨rfl,rfl⟩⟩
set_option maxHeartbeats 1000000 in
theorem ap2_spec (c:Chg) (X Y v:Val) (hX:oV c.x=X) (hYe:oV c.y=Y) (hv:v.wt<=1099511627776) (hY:Y.wt<=1099511627776) (n:Nat) (s:Stp) (hs:c.p[n]? = some s) (hk:c.k=2∨c.k=3) :
  Ev prog 129 [.agg (aG v),.pt (Mi c.k c.p X Y) 0,.pt [.v (.int .i64 n)] 0] [] [] (Ox (endC c s v)):=by
 have ho:=iy Y.wt Y (aR _) hY;have cw:=aU v.ks;have lf:=cq v.ks;have hvw:v.wt=64 + v.s.size + cu v.ks:=by obtain ⟨_,_,_,_⟩:=v;rfl
 have Pj:=iu hs;have fV:=(gS hs).1;have hdpl:=eM c.p;have Xk:=Hy s
 have hE:endC c s v=if v.k=5 then (if c.k=2 then (if jN s (cX v.ks.length)=true then some (.mk v.k v.n v.s (v.ks ++ [Y])) else none)
  else match v.ks[v.ks.length - 1]? with
   | none=>none
   | some x=>if sameV x X=true/\jN s (cX (v.ks.length - 1))=true then some (.mk v.k v.n v.s (v.ks.take (v.ks.length - 1))) else none)
  else none:=by rw [endC,hX,hYe];all_goals rfl
 generalize endC c s v=O at hE ⊢;obtain ⟨k,p,x,y⟩:=c;simp only at hk Pj hdpl hE fV ⊢;clear hX hYe;obtain ⟨xk,xn,xs,xl⟩:=X;obtain ⟨yk,yn,ys,yl⟩:=Y;by_cases g5:v.k=5
 ·rw [aj g5] at hE;by_cases g2:k=2
  ·rw [aj g2] at hE;have hi:=Xk v.ks.length;generalize jN s (cX v.ks.length)=B at hE hi;rw [<- cw] at hi;obtain ⟨vk,vn,vs,vl⟩:=v;simp only [Val.k,Val.n,Val.s,Val.ks] at *;obtain ⟨sk,sn,ss⟩:=s
   cases vl with
   | nil=>
    have hcf:=OC;have fx:([]:List (List DV)).length=0:=rfl;have eP:([]:List (List DV)).length + 1<=maxLen:=by simp [maxLen]
    have Ee:(([]:List (List DV)).length + 1) * 56<=140737488355328:=by simp
    refine eG 68 [.cell 4 34,.tmp 5] func129 rfl ntmps129 rfl fun _ _ _ _=>?_;refine br ?_ ?_<;>intro g
    ·exfalso;simp at g;exact g g5
    refine br ?_ ?_<;>intro g
    rotate_left
    ·exfalso;simp at g;exact g g2
    apply mw (.op 0 (.op 1 (.op 3 (.op 4 (.ev 2 (.ev 5 (.ev 6 (.ev 7 (.op 8 (.ev 9 .fin .stop)) .stop) .stop) .stop) .stop))))) mo (by decide +kernel);·repeat' (first | (refine sy K4 rfl hcf ax (fun tu bU hr=>?_);obtain ⟨rfl,rfl⟩:=hr) | refine cD Cz ho ?_ | refine ⟨fx,⟨eP,Ee⟩,?_⟩ | exact trivial | exact Or.inl rfl | exact Hj | refine ⟨?_,?_⟩)
    refine dS ?_;refine iX (by simpa using Pj) ?_;refine cD PM hi ?_;exact ⟨_,ax,.mk vk vn vs [.mk yk yn ys yl],B,rfl,hE.symm⟩
   | cons a l=>
    have hcf:=Ti a l (by omega);have eP:(dVals (a :: l)).length + 1<=maxLen:=by rw [cw];simp only [maxLen];omega
    have Ee:((dVals (a :: l)).length + 1) * 56<=140737488355328:=by rw [cw];omega
    refine eG 68 [.cell 4 34,.tmp 5] func129 rfl ntmps129 rfl fun _ _ _ _=>?_;refine br ?_ ?_<;>intro g
    ·exfalso;simp at g;exact g g5
    refine br ?_ ?_<;>intro g
    rotate_left
    ·exfalso;simp at g;exact g g2
    apply mw (.op 0 (.op 1 (.op 3 (.op 4 (.ev 2 (.ev 5 (.ev 6 (.ev 7 (.op 8 (.ev 9 .fin .stop)) .stop) .stop) .stop) .stop))))) mo (by decide +kernel);·repeat' (first | (refine sy K4 rfl hcf ax (fun tu bU hr=>?_);obtain ⟨rfl,rfl⟩:=hr) | refine cD Cz ho ?_ | refine ⟨cw,⟨eP,Ee⟩,?_⟩ | exact trivial | exact Or.inl rfl | exact Hj | refine ⟨?_,?_⟩)
    refine dS ?_;refine iX (by simpa using Pj) ?_;refine cD PM hi ?_;exact ⟨_,(by repeat' (first | exact rfl | exact trivial | exact Or.inr (Or.inl ⟨_,rfl⟩) | exact Or.inr ⟨_,rfl⟩ | exact Or.inl ⟨rfl,rfl⟩ | exact Or.inl rfl | refine Or.inr ⟨_,_,rfl,Nat.zero_le _,rfl,?_⟩ | refine ⟨_,_,rfl,?_,?_⟩ | refine ⟨_,rfl,?_⟩ | exact Or.inr (Or.inl ⟨_,congrArg (fun l=>DV.sl 4 l _) (Kv (a :: l) (.mk yk yn ys yl))⟩) | refine Or.inr (Or.inr (Or.inr ⟨_,_,rfl,?_⟩)) | exact Or.inl rfl | refine Or.inr ?_)),.mk vk vn vs (a :: l ++ [.mk yk yn ys yl]),B,rfl,hE.symm⟩
  ·rw [ai g2] at hE;obtain ⟨vk,vn,vs,vl⟩:=v;simp only [Val.k,Val.n,Val.s,Val.ks] at *;obtain ⟨sk,sn,ss⟩:=s
   cases vl with
   | nil=>
    refine eG 68 [.cell 4 34,.tmp 5] func129 rfl ntmps129 rfl fun _ _ _ _=>?_;refine br ?_ ?_<;>intro g
    ·exfalso;simp at g;exact g g5
    refine br ?_ ?_<;>intro g
    ·exfalso;simp at g;exact g2 g
    refine dI ?_;exact ⟨_,ax,zeroV,false,rfl,hE.symm⟩
   | cons a l=>
    obtain ⟨x,hx⟩:∃ x,(a :: l)[l.length]? = some x:=⟨_,gE (by simp)⟩;have Rj:=cz (mG hx);have X6:=qP x.wt x (aR _) (by omega) (.mk xk xn xs xl);have hz:IntKind.i64.wrap (((dVals (a :: l)).length:Int) - 1)=((l.length:Nat):Int):=by rw [cw,List.length_cons,show ((l.length + 1:Nat):Int) - 1=(l.length:Nat) by omega];rw [List.length_cons] at lf;exact wrap64 (by omega) (by omega)
    rw [List.length_cons] at cw lf;have hi:=Xk l.length
    have hE:O=(match (a :: l)[l.length]? with
     | none=>none
     | some x=>if sameV x (.mk xk xn xs xl)=true/\jN ⟨sk,sn,ss⟩ (cX l.length)=true then some (.mk vk vn vs ((a :: l).take l.length)) else none):=hE
    rw [hx] at hE;simp only at hE;generalize jN ⟨sk,sn,ss⟩ (cX l.length)=B at hE hi;obtain ⟨zk,zn,zs,zl⟩:=x;have gQ:=S1 ((a :: l).take l.length) (by rw [zLenT];omega);rw [<- hz] at hi
    have jG:DV.sl 4 (((dVals (a :: l)).take (IntKind.i64.wrap (((dVals (a :: l)).length:Int) - 1)).toNat).drop (0:Int).toNat) none = .sl 4 (dVals ((a :: l).take l.length)) none:=by
     rw [hz,lK,fu,fu,List.map_take];rfl
    generalize sameV (.mk zk zn zs zl) (.mk xk xn xs xl)=M at hE X6;refine eG 68 [.cell 4 34,.tmp 5] func129 rfl ntmps129 rfl fun _ _ _ _=>?_;refine br ?_ ?_<;>intro g
    ·exfalso;simp at g;exact g g5
    refine br ?_ ?_<;>intro g
    ·exfalso;simp at g;exact g2 g
    refine dI ?_;refine ⟨_,⟨by rw [hz];omega,by rw [hz];exact bJ hx⟩,?_⟩;refine cD PL X6 ?_
    cases M with
    | false=>exact ⟨_,ax,zeroV,false,rfl,by rw [hE];simp⟩
    | true=>
     refine ⟨⟨by omega,by rw [hz];omega,by rw [hz];omega⟩,?_⟩;refine cP K4 gQ ?_ (rA jG);refine dS ?_;refine iX (by simpa using Pj) ?_;refine cD PM hi ?_;exact ⟨_,ax,.mk vk vn vs ((a :: l).take l.length),B,rfl,by rw [hE];simp⟩
 ·rw [ai g5] at hE;obtain ⟨vk,vn,vs,vl⟩:=v;refine eG 68 [.cell 4 34,.tmp 5] func129 rfl ntmps129 rfl fun _ _ _ _=>?_;refine br (fun _=>?_) (fun g=>?_)
  ·exact ⟨_,ax,zeroV,false,rfl,hE.symm⟩
  ·exfalso;simp at g;exact g5 g
abbrev OD (c:Chg):List DV:=Mi c.k c.p (oV c.x) (oV c.y)
set_option maxHeartbeats 1000000 in
theorem apply39_spec {S:Sch} {ND:List Nd} {PC:List DV} (hP:dM S ND PC) (rt:Nat) (nT:dF S=rt) (c:Chg) (v:Val) (hv:v.wt<=1099511627776) (hw:dW ND v rt=true) (hY:(oV c.y).wt<=1099511627776) (hp:c.p.length<=1099511627776) :
  Ev prog 60 [.pt PC 0,.agg (aG v),.agg (OD c)] [] [] (Ox (doK ND c c.p v rt)):=by
 have dy:=hP.root;rw [nT] at dy;have cw:=eM c.p
 have h1:=fun hk:c.k=1=>at39_spec hP 127 [.pt (OD c) 0] ab0 ⟨_,_,rfl,Or.inl rfl,rfl⟩ rfl (D1 c) (fun u hu=>(S0 c.k c.p u (oV c.x) (oV c.y) hu hY).mono (Ψ:=Ox (D1 c u)) fun r os tk h=>by
  subst h
  exact ⟨_,_,rfl,rfl⟩) c.p v rt hv hw
 have h2:=fun (hk:c.k=2∨c.k=3) (n:Nat) (s:Stp) (hs:c.p[n]? = some s)=>at39_spec hP 129 [.pt (OD c) 0,.pt [.v (.int .i64 n)] 0] ab1 ⟨_,_,rfl,Or.inl rfl,_,_,rfl,Or.inl rfl,rfl⟩ rfl (endC c s) (fun u hu=>ap2_spec c _ _ u rfl rfl hu hY n s hs hk) (c.p.take n) v rt hv hw
 have hD:doK ND c c.p v rt=if c.k=1 then atK ND (D1 c) c.p v rt
  else if c.k=2∨c.k=3 then (match c.p.getLast? with | none=>none | some s=>atK ND (endC c s) c.p.dropLast v rt) else none:=rfl
 generalize doK ND c c.p v rt=O at hD ⊢;obtain ⟨k,p,x,y⟩:=c;simp only [OD] at *;generalize oV x=X at *;generalize oV y=Y at *;obtain ⟨vk,vn,vs,vl⟩:=v;obtain ⟨xk,xn,xs,xl⟩:=X;obtain ⟨yk,yn,ys,yl⟩:=Y;by_cases g1:k=1
 ·rw [aj g1] at hD;have h1:=h1 g1;rw [<- hD] at h1;refine eG 51 [.cell 6 34,.tmp 7] func60 rfl ntmps60 rfl fun _ _ _ _=>?_;refine br (fun _=>?_) (fun g=>?_)
  rotate_left
  ·exfalso;simp at g;exact g g1
  refine Dv.Hz ⟨[iQ 0 PC,aF 4 0,iQ 5 (Mi k p (.mk xk xn xs xl) (.mk yk yn ys yl)),aF 6 1],[aG (.mk vk vn vs vl),zD],[]⟩ ?_ ?_
  ·refine .trans (s2:=⟨[iQ 0 PC,aF 4 0,aF 5 1,aF 6 2],[aG (.mk vk vn vs vl),Mi k p (.mk xk xn xs xl) (.mk yk yn ys yl),zD],[]⟩) (.FO (dz 3 pV j8)) (.trans (.EV 1 2 ⟨[iQ 0 PC,aF 4 0,aF 5 2,aF 6 1],[aG (.mk vk vn vs vl),zD,Mi k p (.mk xk xn xs xl) (.mk yk yn ys yl)],[]⟩ _ rfl rfl rfl rfl rfl) (.HS 2 rfl rfl ⟨_,_,rfl,ax,_,_,rfl,ax,rfl⟩ rfl ⟨⟨_,rfl,ax⟩,⟨_,rfl,⟨nL rfl,rfl⟩⟩,⟨_,rfl,Or.inr ⟨2,_,rfl,aR _,rfl,ax⟩⟩,⟨_,rfl,⟨nL rfl,rfl⟩⟩,trivial⟩))
  ·refine dS ?_;refine cD xu dy ?_;refine lh PK rfl h1 ax (fun r hr=>?_);obtain ⟨⟨wk,wn,ws,wl⟩,b,rfl,hb⟩:=hr;exact ⟨_,ax,_,b,rfl,hb⟩
 ·rw [ai g1] at hD;by_cases g23:p ≠ []/\(k=2∨k=3)
  ·obtain ⟨aY,g23⟩:=g23;rw [aj g23,List.getLast?_eq_some_getLast aY] at hD;simp only at hD;have aw:p.length - 1 < p.length:=by have:=List.length_pos_iff.2 aY;omega
   have h2:=h2 g23 (p.length - 1) (p.getLast aY) (by rw [gE aw,List.getLast_eq_getElem]);rw [<- List.dropLast_eq_take,<- hD] at h2;have hz:IntKind.i64.wrap (((bf p).length:Int) - 1)=((p.length - 1:Nat):Int):=by rw [cw,show (p.length:Int) - 1=((p.length - 1:Nat):Int) by omega];exact wrap64 (by omega) (by omega)
   have jG:DV.sl 3 (((bf p).take ((p.length - 1:Nat):Int).toNat).drop (0:Int).toNat) none = .sl 3 (bf p.dropLast) none:=by
    rw [lK,List.dropLast_eq_take,bf,bf,List.map_take];rfl
   refine eG 51 [.cell 6 34,.tmp 7] func60 rfl ntmps60 rfl fun _ _ _ _=>?_;refine br (fun g=>?_) (fun _=>?_)
   ·exfalso;simp at g;exact g1 g
   refine br (fun g=>?_) (fun _=>?_)
   ·exfalso;simp [au,aq,hz] at g;omega
   refine Dv.Hz ⟨[iQ 0 PC,aF 4 0,iQ 5 (Mi k p (.mk xk xn xs xl) (.mk yk yn ys yl)),aF 6 1,iQ 8 [.v (.int .i64 (p.length - 1:Nat))]],[aG (.mk vk vn vs vl),zD],[]⟩ ?_ ?_
   ·refine .trans (s2:=⟨[iQ 0 PC,aF 4 0,aF 5 1,aF 6 2,aF 8 3],[aG (.mk vk vn vs vl),Mi k p (.mk xk xn xs xl) (.mk yk yn ys yl),zD,[.v (.int .i64 (p.length - 1:Nat))]],[]⟩) (.FO (dz 4 (pX hz) (dH hz))) (.trans (.EV 1 2 ⟨[iQ 0 PC,aF 4 0,aF 5 2,aF 6 1,aF 8 3],[aG (.mk vk vn vs vl),zD,Mi k p (.mk xk xn xs xl) (.mk yk yn ys yl),[.v (.int .i64 (p.length - 1:Nat))]],[]⟩ _ rfl rfl rfl rfl rfl) (.HS 2 rfl rfl ⟨_,_,rfl,ax,_,_,rfl,ax,rfl⟩ rfl ⟨⟨_,rfl,ax⟩,⟨_,rfl,⟨nL rfl,rfl⟩⟩,⟨_,rfl,Or.inr ⟨2,_,rfl,aR _,rfl,ax⟩⟩,⟨_,rfl,⟨nL rfl,rfl⟩⟩,⟨_,rfl,Or.inr ⟨3,_,rfl,nL rfl,rfl,ax⟩⟩,trivial⟩))
   ·refine dS ?_;refine cD xu dy ?_;refine ⟨⟨by omega,by omega,by omega⟩,?_⟩;refine lh PK rfl h2 (rA jG) (fun r hr=>?_);obtain ⟨⟨wk,wn,ws,wl⟩,b,rfl,hb⟩:=hr;exact ⟨_,ax,_,b,rfl,hb⟩
  ·have hD:O=none:=by grind
   have hz:IntKind.i64.wrap (((bf p).length:Int) - 1)=(p.length:Int) - 1:=by rw [cw];exact wrap64 (by omega) (by omega)
   refine eG 51 [.cell 6 34,.tmp 7] func60 rfl ntmps60 rfl fun _ _ _ _=>?_;refine br (fun g=>?_) (fun _=>?_)
   ·exfalso;simp at g;exact g1 g
   refine br (fun _=>?_) (fun g=>?_)
   ·exact ⟨_,ax,zeroV,false,rfl,hD.symm⟩
   ·exfalso;apply g23;simp [au,aq,hz] at g;refine ⟨?_,by omega⟩;rintro rfl;simp at g
def lH (l:List Chg):List (List DV):=l.map OD
theorem sH (l:List Chg):(lH l).length=l.length:=by simp [lH]
theorem sI {l:List Chg} {i:Nat} {c:Chg} (h:l[i]? = some c):(lH l)[i]? = some (OD c):=by simp [lH,h]
def chW:List Chg->Nat
 | []=>0
 | c :: r=>(oV c.y).wt + chW r
theorem Tj {l:List Chg} {e:Nat} {c:Chg} (h:l[e]? = some c):chW (l.drop e)=(oV c.y).wt + chW (l.drop (e + 1)):=by
 obtain ⟨h1,h2⟩:=List.getElem?_eq_some_iff.1 h;rw [List.drop_eq_getElem_cons h1,h2,chW]
theorem OE {ND:List Nd} {B:Val->Bool} {rt:Int} {l:List Chg} {e:Nat} {c:Chg} (h:l[e]? = some c) (v:Val):runK ND B rt (l.drop e) v=match doK ND c c.p v rt with | none=>none | some w=>if B w=true then runK ND B rt (l.drop (e + 1)) w else none:=by
 obtain ⟨h1,h2⟩:=List.getElem?_eq_some_iff.1 h;rw [List.drop_eq_getElem_cons h1,h2,runK]
 try rfl
structure CgOK (c:Chg):Prop where
 p:c.p.length<=1099511627776
 r:rngW (oV c.y)
abbrev aaq (PC:List DV) (o:Int) (L:List Chg) (z:Val) (e:Nat):St:=
 ⟨[iQ 0 PC,ay 1 o,aF 6 0,aF 8 1,bi 21 10 (lH L),ay 22 ((lH L).length),ay 23 e],[aG z,zD],[]⟩
set_option maxHeartbeats 1000000 in
theorem Kw {S:Sch} {ND:List Nd} {PC:List DV} (hP:dM S ND PC) (rt:Nat) (nT:dF S=rt) (o:Int) (B:Val->Bool) (hB:∀ v,B v=true->dW ND v rt=true)
  (hf:∀ v:Val,v.wt<=1099511627776->rngW v->EvP prog 58 [.pt PC 0,.v (.int .i64 o),.agg (aG v)] (.v (.bool (B v))))
  (L:List Chg) (hL:∀ c∈L,CgOK c) (x:Val) (hx:x.wt + chW L<=1099511627776) (nI:rngW x) (Xt:L.length<=100000) :
  EvP prog 13 [.pt PC 0,.v (.int .i64 o),.agg (aG x),.sl 10 (lH L) none] (aff (if B x=true then runK ND B rt L x else none)):=by
 have hf0:=hf x (by omega) nI;have ho:=iy x.wt x (aR _) (by omega);have Ie:=fun (c:Chg) (v:Val) (hv:v.wt<=1099511627776) (hb:B v=true) h1 h2=>apply39_spec hP rt nT c v hv (hB v hb) h1 h2;have cw:=sH L
 cases hb:B x with
 | false=>
  rw [hb] at hf0;obtain ⟨xk,xn,xs,xl⟩:=x;refine eG 46 [.cell 8 34,.tmp 9] func13 rfl ntmps13 rfl fun _ _ _ _=>?_;refine cP rG hf0 ?_;exact ⟨_,ax,rfl⟩
 | true=>
  rw [hb] at hf0;rw [aj rfl];have Zm:runK ND B rt (L.drop 0) x=runK ND B rt L x:=rfl;have hW0:chW (L.drop 0)=chW L:=rfl;generalize runK ND B rt L x=R at Zm ⊢;obtain ⟨xk,xn,xs,xl⟩:=x;refine eG 46 [.cell 8 34,.tmp 9] func13 rfl ntmps13 rfl fun _ _ _ _=>?_;refine cP rG hf0 ?_;refine cP Cz ho ?_;refine aT (fun j st=>∃ (e:Nat) (z:Val),st=aaq PC o L z e/\e<=L.length/\runK ND B rt (L.drop e) z=R/\B z=true/\rngW z/\z.wt + chW (L.drop e)<=1099511627776/\j=L.length - e) L.length (aaq PC o L (.mk xk xn xs xl) 0) (dz 2 pV j8) ⟨0,_,rfl,by omega,Zm,hb,nI,by rw [hW0];exact hx,by omega⟩ ?_;rintro j st ⟨e,z,rfl,he,hR,hz,hrz,hwz,rfl⟩;refine br ?_ ?_<;>intro iD
  ·have aw:e < L.length:=sV cw iD;obtain ⟨c,hc⟩:=gX aw;have bA:=hL c (mG hc);rw [OE hc] at hR;rw [Tj hc] at hwz;have Ie:=Ie c z (by omega) hz (by omega) bA.p;have hgr:=fun V (h:doK ND c c.p z rt=some V)=>S3 (ND:=ND) c bA.r c.p rt z V h hrz;generalize doK ND c c.p z rt=Q at hR Ie hgr;have Tk:=sI hc;have TQ:OD c=Mi c.k c.p (oV c.x) (oV c.y):=rfl;rw [TQ] at Ie Tk;generalize oV c.x=X at *;generalize hYY:oV c.y=Y at *;obtain ⟨xk,xn,xs,xl⟩:=X;obtain ⟨yk,yn,ys,yl⟩:=Y;obtain ⟨zk,zn,zs,zl⟩:=z;refine ⟨_,⟨by omega,Tk⟩,?_⟩;refine cE en60 rfl Ie ax (fun r hr=>?_);obtain ⟨V,b,rfl,hb⟩:=hr
   cases b with
   | false=>
    have hb:none=Q:=hb;subst hb;have hR:none=R:=hR;subst hR;obtain ⟨wk,wn,ws,wl⟩:=V;exact ⟨_,ax,rfl⟩
   | true=>
    have hb:some V=Q:=hb;subst hb;obtain ⟨h1,h2⟩:=hgr V rfl;have uW:=hf V (by omega) h1;have hR:(if B V=true then runK ND B rt (L.drop (e + 1)) V else none)=R:=hR
    cases hBV:B V with
    | false=>
     rw [hBV,ai (by simp)] at hR;subst hR;rw [hBV] at uW;obtain ⟨wk,wn,ws,wl⟩:=V;refine cP rG uW ?_;exact ⟨_,ax,rfl⟩
    | true=>
     rw [hBV,aj rfl] at hR;rw [hBV] at uW;obtain ⟨wk,wn,ws,wl⟩:=V;refine cP rG uW ?_;exact ⟨aaq PC o L (.mk wk wn ws wl) (e + 1),(dz 2 (pX (aX aw (by omega))) (dH (aX aw (by omega)))),L.length - (e + 1),by omega,e + 1,_,rfl,by omega,hR,hBV,h1,by omega,rfl⟩
  ·have hge:e=L.length:=by
    have h2:=iD;simp [cw] at h2;omega
   subst hge;rw [List.drop_length] at hR;have hR:some z=R:=hR;subst hR;obtain ⟨zk,zn,zs,zl⟩:=z;exact ⟨_,ax,rfl⟩
section
variable {ND:List Nd} {f:Nat->Nat->Bool} {L obs:Nat}
mutual
theorem zP:∀ (v:Val) (i:Int) (a:Nat),dA (eraseV ND f L obs v i a)<=dA v
 | .mk k n s ks,i,a=>by
  rw [eraseV]
  cases bR ND i with
  | none=>rw [dA,dA,bQ];omega
  | some d=>
   have:=vo ks d n a 0;simp only;rw [dA,dA];omega
theorem vo:∀ (ks:List Val) (d:Nd) (z:Int) (a j:Nat),bQ (eraseVs ND f L obs ks d z a j)<=bQ ks
 | [],_,_,_,_=>by rw [eraseVs];exact aR _
 | x :: r,d,z,a,j=>by
  have h1:=vo r d z a (j + 1);rw [eraseVs,bQ,bQ];have h0:1<=dA x:=by obtain ⟨_,_,_,_⟩:=x;rw [dA];omega
  have hl:∀ v:Val,v.ks=[]->dA v=1:=fun v h=>by obtain ⟨_,_,_,_⟩:=v;simp only [Val.ks] at h;subst h;rw [dA,bQ]
  have:dA (match aW d z j with
   | none=>x
   | some e=>if jZ f L obs d e a=2 then eraseV ND f L obs x e.to (gy f L d e a) else if jZ f L obs d e a=1 then bS e x else oT e)<=dA x:=by
   cases aW d z j with
   | none=>exact aR _
   | some e=>
    simp only;split
    ·exact zP x _ _
    ·split
     ·rw [hl _ (nz e x)];exact h0
     ·rw [hl _ rfl];exact h0
  exact Nat.add_le_add this h1
end
end
theorem Ms {ND:List Nd} {Q:Val->Prop} {R:Stp->Prop} (hQ:∀ v,Q v->∀ u∈v.ks,Q u) (hS:∀ v,Q v->∀ (d:Nd) (j:Nat),j < v.ks.length->R (stpR d v j)) (hI:∀ v,Q v->∀ j:Nat,j < v.ks.length->R (cX j)) :
  ∀ (k:Nat) (x y:Val) (i:Int) (p:List Stp),Q x->Q y->(∀ s∈p,R s)->∀ c∈dfK ND k x y i p,(∀ s∈c.p,R s)/\(∀ v,c.x=some v->Q v)/\(∀ v,c.y=some v->Q v)
 | 0,_,_,_,_,_,_,_,c,h=>by cases h
 | k + 1,x,y,i,p,hx,hy,hp,c,h=>by
  have ih:=Ms (ND:=ND) hQ hS hI k
  have eK:∀ {s:Stp},R s->∀ t∈p ++ [s],R t:=fun hs t ht=>by
   rcases List.mem_append.1 ht with ht | ht
   ·exact hp t ht
   ·rw [List.mem_singleton.1 ht];exact hs
  rw [dfK] at h;split at h
  rotate_left
  ·rw [List.mem_singleton.1 h];exact ⟨hp,fun v hv=>by cases hv;exact hx,fun v hv=>by cases hv;exact hy⟩
  cases hd:bR ND i with
  | none=>rw [hd] at h;cases h
  | some d=>
  rw [hd] at h;simp only at h;rcases List.mem_append.1 h with h | h
  ·rcases List.mem_append.1 h with h | h
   ·obtain ⟨j,_,hc⟩:=uE h;unfold kidD at hc;split at hc
    ·rename_i a w e ha hw he;exact ih a w _ _ (hQ x hx a (mG ha)) (hQ y hy w (mG hw)) (eK (hS x hx d j (gS ha).1)) c hc
    ·cases hc
   ·obtain ⟨e,w,h1,rfl⟩:=zN h;rw [List.getElem?_drop] at h1;exact ⟨eK (hI y hy _ (gS h1).1),fun v hv=>(by cases hv),fun v hv=>by cases hv;exact hQ y hy _ (mG h1)⟩
  ·obtain ⟨e,w,h1,rfl⟩:=zO h;rw [List.getElem?_drop] at h1;exact ⟨eK (hI x hx _ (gS h1).1),fun v hv=>by cases hv;exact hQ x hx _ (mG h1),fun v hv=>(by cases hv)⟩
theorem B6 {s:Stp} (h:bI s=true):s.s.size<=32:=by
 have h0:av.size=0:=rfl;have h1:(⟨#[]⟩:ByteArray).size=0:=rfl
 grind [bI,jw]
def uF (v:Val):Prop:=v.wt<=134217728/\rngW v
theorem VY:∀ v,uF v->∀ u∈v.ks,uF u:=fun v h u hu=>by
 obtain ⟨h1,h2⟩:=h;have:=cz hu;have hw:v.wt=64 + v.s.size + cu v.ks:=by obtain ⟨_,_,_,_⟩:=v;rfl
 exact ⟨by omega,eN (pM h2) hu⟩
theorem HJ {v:Val} (h:uF v):v.ks.length<=134217728:=by
 have h2:=cq v.ks;have hw:v.wt=64 + v.s.size + cu v.ks:=by obtain ⟨_,_,_,_⟩:=v;rfl
 have:=h.1;omega
def Tl (s:Stp):Prop:=-9223372036854775808<=s.n/\s.n<=9223372036854775807
theorem VZ {ND:List Nd} {k:Nat} {x y:Val} {i:Int} (hx:uF x) (hy:uF y):∀ c∈dfK ND k x y i [],(∀ s∈c.p,Tl s)/\uF (oV c.x)/\uF (oV c.y):=fun c hc=>by
 have hz:uF zeroV:=⟨by decide,by simp [zeroV,rngW,rngWs,mZ]⟩
 obtain ⟨h1,h2,h3⟩:=Ms (Q:=uF) (R:=Tl) VY (fun v hv d j hj=>by
  have:=HJ hv;unfold stpR Tl
  repeat' split
  all_goals (simp only;omega)) (fun v hv j hj=>by
  have:=HJ hv;unfold cX Tl;simp only
  omega) k x y i [] hx hy (by simp) c hc
 refine ⟨h1,?_,?_⟩
 ·cases hc:c.x with
  | none=>exact hz
  | some v=>exact h2 v hc
 ·cases hc:c.y with
  | none=>exact hz
  | some v=>exact h3 v hc
theorem Tm:∀ {l:List Chg},(∀ c∈l,(oV c.y).wt<=134217728)->chW l<=134217728 * l.length
 | [],_=>by simp [chW]
 | c :: r,h=>by
  have h1:=h c (by simp);have h2:=Tm (l:=r) fun c hc=>h c (by simp [hc]);rw [chW,List.length_cons];omega
def tO (ND:List Nd) (o:Option Val) (j:Nat):List UInt8:=match o with
 | none=>[]
 | some v=>textV ND v (j:Int)
def XR (ND:List Nd) (f:Nat->Nat->Bool) (n rt b0:Nat) (c:Chg):List UInt8:=match walkV ND f n c.p rt b0 with
 | none=>[]
 | some (j,_)=>Aj c.k (tO ND c.x j) (tO ND c.y j) (jP c.p) c.p.length
theorem tO_10 {ND:List Nd} {L:Nat} (bA:∀ n∈ND,cr L ND.length n) (o:Option Val) (j:Nat):gO (tO ND o j):=by
 cases o with
 | none=>exact bX
 | some v=>exact textV_10 bA v _
theorem lnC_10 {ND:List Nd} {L:Nat} (bA:∀ n∈ND,cr L ND.length n) {f:Nat->Nat->Bool} {n rt b0:Nat} {c:Chg} (h:VW ND f n rt b0 c) (hp:c.p.length<=64):(XR ND f n rt b0 c).count 10=1:=by
 obtain ⟨_,j,b,hw,_⟩:=h;rw [XR,hw];exact linT_10 (tO_10 bA _ _) (tO_10 bA _ _) (pathT_10 _) hp
theorem lines_10 {ND:List Nd} {L:Nat} (bA:∀ n∈ND,cr L ND.length n) {f:Nat->Nat->Bool} {n rt b0:Nat}:∀ {l:List Chg},(∀ c∈l,VW ND f n rt b0 c)->(∀ c∈l,c.p.length<=64)->((l.map (XR ND f n rt b0)).flatten).count 10=l.length
 | [],_,_=>rfl
 | c :: r,h,hp=>by
  rw [List.map_cons,List.flatten_cons,List.count_append,lnC_10 bA (h c (by simp)) (hp c (by simp)),lines_10 bA (fun c hc=>h c (by simp [hc])) (fun c hc=>hp c (by simp [hc])),List.length_cons];omega
theorem Tn {k:Int} {F T w:List UInt8} {n:Nat}:(Aj k F T w n).length<=F.length + T.length + w.length + 10:=by
 have h0:(if w=[] then [46] else w).length<=w.length + 1:=by split<;>simp
 unfold Aj;split
 ·simp
 split
 ·simp;omega
 split
 ·simp;omega
 ·simp;omega
theorem Tp {l:List Stp} (hi:∀ s∈l,JZ s):(jP l).length<=2112:=by
 cases h:fU l with
 | false=>unfold jP;rw [h];simp
 | true=>
  obtain ⟨h1,h2⟩:=nA h;rw [va h];exact BM hi h2 h1 _
theorem B7 {α:Type} {g:α->List UInt8} {B:Nat}:∀ {l:List α},(∀ c∈l,(g c).length<=B)->((l.map g).flatten).length<=B * l.length
 | [],_=>by simp
 | c :: r,h=>by
  have h1:=h c (by simp);have h2:=B7 (g:=g) (B:=B) (l:=r) fun c hc=>h c (by simp [hc]);rw [List.map_cons,List.flatten_cons,List.length_append,List.length_cons,Nat.mul_add];omega
theorem Tq {S:Sch} {ND:List Nd} {PC:List DV} (hP:dM S ND PC) {rt:Nat} (nT:dF S=rt) (fm:rt < ND.length) {c:Chg} (h:VW ND (aH S) S.ae.length rt (eC (aH S) S.ae.length) c) (hb:(∀ s∈c.p,Tl s)/\uF (oV c.x)/\uF (oV c.y)) (fV:c.p.length<=1000000) :
  EvP prog 75 [.pt PC 0,.agg (OD c)] (.v (.string (ba (XR ND (aH S) S.ae.length rt (eC (aH S) S.ae.length) c))))/\(XR ND (aH S) S.ae.length rt (eC (aH S) S.ae.length) c).length<=17179869184:=by
 obtain ⟨hr,j,b,hw,hk⟩:=h;obtain ⟨hsb,jA,qh⟩:=hb;have hi:∀ s∈c.p,JZ s:=fun s hs=>⟨hsb s hs,by have:=B6 (hr s hs);omega⟩;have rz:=qU hP c.p (by omega) (fun s hs=>by have:=(hi s hs).2;omega) rt nT fm;rw [hw] at rz;have hfm:=ux c.p hi;have hpt:=Tp hi
 have hval:∀ v,uF v->dW ND v (j:Int)=true->EvP prog 150 [.pt PC 0,.v (.int .i64 j),.agg (aG v)] (.v (.string (ba (textV ND v (j:Int)))))/\textV ND v (j:Int) ≠ []/\(textV ND v (j:Int)).length<=6710886400:=fun v hv hwv=>by
  have:=uz hP.ok v j hv.2 hwv;have:=hv.1;exact ⟨Kp hP v (by omega) hv.2 j hwv,zw hP.ok hv.2 hwv,by omega⟩
 have cJ:∀ v,dW ND v (j:Int)=true->EvP prog 150 [.pt PC 0,.v (.int .i64 j),.agg (aG zeroV)] (.v (.string (ba []))):=fun v hwv=>by
  obtain ⟨d,hd,_⟩:=gL hwv;exact Tb hP j d (by simpa using (bu hd).2)
 have N2:=@Tn c.k (tO ND c.x j) (tO ND c.y j) (jP c.p) c.p.length;have V6:XR ND (aH S) S.ae.length rt (eC (aH S) S.ae.length) c=Aj c.k (tO ND c.x j) (tO ND c.y j) (jP c.p) c.p.length:=by rw [XR,hw]
 rw [V6];obtain ⟨ck,cp,cx,cy⟩:=c;simp only at hk jA qh rz hfm N2 hpt ⊢;rcases hk with ⟨rfl,x,y,rfl,rfl,hx,hy⟩ | ⟨rfl,rfl,y,rfl,hy⟩ | ⟨rfl,rfl,x,rfl,hx⟩
 ·obtain ⟨a1,a2,a3⟩:=hval x jA hx;obtain ⟨b1,b2,b3⟩:=hval y qh hy;refine ⟨pe PC 1 cp x y j b (textV ND x j) (textV ND y j) (jP cp) (.inl ⟨rfl,a2,b2⟩) (by omega) (by omega) (by omega) rz a1 b1 hfm,?_⟩;simp only [tO] at N2 ⊢;omega
 ·obtain ⟨b1,b2,b3⟩:=hval y qh hy;refine ⟨pe PC 2 cp zeroV y j b [] (textV ND y j) (jP cp) (.inr (.inl ⟨rfl,rfl,b2⟩)) (by simp) (by omega) (by omega) rz (cJ y hy) b1 hfm,?_⟩;simp only [tO,List.length_nil] at N2 ⊢;omega
 ·obtain ⟨a1,a2,a3⟩:=hval x jA hx;refine ⟨pe PC 3 cp x zeroV j b (textV ND x j) [] (jP cp) (.inr (.inr ⟨rfl,a2,rfl⟩)) (by omega) (by simp) (by omega) rz a1 (cJ x hx) hfm,?_⟩;simp only [tO,List.length_nil] at N2 ⊢;omega
end Go.Proofs.YtgjagnmeonoehaaGreat
set_option maxRecDepth 100000
namespace Go.Proofs.YtgjagnmeonoehaaGreat
open Go Go.RowKit Go.Lib Dv Go.Proofs.Tryz
set_option maxHeartbeats 2000000 in
theorem V0 (b:Nat) (p:Value) (w:World) (hp:p = .pointer none∨p = .pointer (some ⟨b,0,none⟩)) (na:w.heap[b]? = some (.cells #[p,.slice none 0 0] 160 (0,0))) :
  Calls prog 74 #[.pointer (some ⟨b,0,none⟩),.string ⟨#[]⟩] w fun e w'=>e = .returned (.tuple #[.int .i64 0,.nilIface])/\w'=gh w b (.slice none 0 0):=by
 obtain ⟨i0,hi,TM,hz1,Y8⟩:=info_parts Tryz.laysBX.infoByte
 go_enter func74,ntmps74
 go_wp2_with (go_at_call 149;refine (sq b p _ _ hp na).mono ?_)
 rintro e w1 ⟨rfl,rfl⟩;obtain ⟨v,hv⟩:∃ v,v=Value.slice none 0 0:=⟨_,rfl⟩;rw [<- hv] at na ⊢;have fx:(gh w b v).heap[b]? = some (.cells #[.pointer (some ⟨b,0,none⟩),v] 160 (0,0)):=du na;have c0:(gh w b v).cell? ⟨b,0,none⟩=some (.pointer (some ⟨b,0,none⟩)):=by rw [Lib.cell_of_heap fx];all_goals rfl
 have c1:(gh w b v).cell? ⟨b,1,none⟩=some v:=by rw [Lib.cell_of_heap fx];all_goals rfl
 have f1:(gh w b v).frozen? ⟨b,1,none⟩=false:=Lib.frozen_of_heap fx 1;obtain ⟨W1,JD⟩:∃ W1,W1=gh w b v:=⟨_,rfl⟩;rw [<- JD] at fx c0 c1 f1 ⊢;have HW:=Lib.hid JD;clear JD
 go_wp2_with (at_builtin;refine Kx rfl _ _ 158 9 rfl 5 i0 Tryz.underlying158 Tryz.underlying9 hi hz1 hv rfl ?_)
 rw [<- hv]
 go_wp2
 go_ret2
 refine ⟨rfl,?_⟩;rw [eF fx];exact (oR fx).trans HW.out
theorem Tr {X:Ctx} {st:St} {k:List It} (hP:X.P=prog) {i d:Nat} {p:DV} (hbt:(i,160)∈X.bt) (jA:st.bx[i]? = some [p,.v (.slice none 0 0)])
  (hp:p = .v (.pointer none)∨p = .loc i 0) (hd:ep X.nt st.sl (some d)=true)
  (hk:go X 4000 k ⟨(d,⟨[],.tup [.v (.int .i64 0),.v .nilIface]⟩) :: st.sl,st.bx.set i [.loc i 0,.v (.slice none 0 0)],st.tk⟩)
  (bd:X.still=false:=by exact rfl):CallG X 74 [.loc i 0,.v (.string ⟨#[]⟩)] (some d) k st:=by
 refine ⟨by rw [hP];exact Uq,bd,fun E a w vs h hv=>?_⟩;rw [hP];simp only [RvL] at hv;obtain ⟨v1,vr,rfl,h1,v2,vr2,rfl,h2,rfl⟩:=hv;have h2:=bB h2;subst h2;unfold Rv at h1;obtain ⟨b,hb,rfl⟩:=h1;obtain ⟨b',ty,arr,eD,hw,vx⟩:=h.env.ey i _ jA;rw [hb] at eD;simp only [oI] at eD;subst eD;obtain ⟨TF,nu⟩:=h.bt _ hbt b hb;rw [hw] at nu;simp only [oI,Obj.cells.injEq] at nu;have Pg:ty=160:=nu.2.1;subst Pg;obtain ⟨hr,ho⟩:=vx;simp only [RvL] at hr;obtain ⟨pv,r1,rfl,NO,cv,r2,rfl,hcv,rfl⟩:=hr;have AZ:Rv E (.loc i 0) (.pointer (some ⟨b,0,none⟩)):=by unfold Rv;exact ⟨b,hb,rfl⟩
 have R5:pv = .pointer none∨pv = .pointer (some ⟨b,0,none⟩):=by
  rcases hp with rfl | rfl
  ·exact .inl (bB NO)
  ·unfold Rv at NO;obtain ⟨b2,eP,rfl⟩:=NO;rw [hb] at eP;simp only [oI] at eP;subst eP;exact .inr rfl
 have hcv':=bB hcv;subst hcv';refine (V0 b pv w R5 hw).mono ?_;rintro e w' ⟨rfl,rfl⟩
 have r1:Rel X E ⟨st.sl,st.bx.set i [.loc i 0,.v (.slice none 0 0)],st.tk⟩ a (gh w b (.slice none 0 0)):=
  jh h bd hb (cs':=[.loc i 0,.v (.slice none 0 0)]) (arr':=[.pointer (some ⟨b,0,none⟩),.slice none 0 0]) ⟨rvL_cons AZ (rvL_one hcv),by
   intro v hv;simp only [List.mem_cons,List.not_mem_nil,or_false] at hv
   rcases hv with rfl | rfl<;>rfl⟩ ⟨_,hw⟩
 exact go_sound 4000 _ _ hk _ _ _ (bc r1 hd (.tup [.v (.int .i64 0),.v .nilIface]) _ (by unfold Rv;exact ⟨_,rfl,rvL_cons (by unfold Rv;exact ⟨rfl,rfl⟩) (rvL_one (by unfold Rv;exact ⟨rfl,rfl⟩))⟩))
abbrev Ts (PC:List DV) (L:List Chg) (ob:List DV) (tk:List TkE) (e:Nat):St:=
 ⟨[iQ 0 PC,aF 7 0,bi 19 10 (lH L),ay 20 ((lH L).length),ay 21 e],[ob],tk⟩
theorem HK {PC LC:List DV} {n:Nat} {af:List ByteArray} {f:Nat->Nat->Bool} (gg:EvP prog 72 [.pt PC 0] (.pt LC 0)) (hR:za n f af LC) (o:Nat) (ho:o < n) (L:List Chg) (ln:Chg->List UInt8)
  (N2:∀ c∈L,EvP prog 75 [.pt PC 0,.agg (OD c)] (.v (.string (ba (ln c))))) (hb:(L.map ln).flatten.length<=140737488355328) (Xt:L.length<=1000000) :
  EvP prog 20 [.pt PC 0,.v (.int .i64 o),.sl 10 (lH L) none] (.v (.string (ba (L.map ln).flatten))):=by
 have hlen:=hR.len;have cw:=sH L
 have FD:∀ {e:Nat} {c:Chg},L[e]? = some c->((L.take (e + 1)).map ln).flatten=((L.take e).map ln).flatten ++ ln c:=fun h=>by
  rw [List.take_add_one,h];simp
 have gk:∀ e,((L.take e).map ln).flatten.length<=140737488355328:=fun e=>by
  have h:=congrArg (fun l=>(l.map ln).flatten.length) (List.take_append_drop e L);simp only [List.map_append,List.flatten_append,List.length_append] at h;omega
 have iO:((L.take L.length).map ln).flatten=(L.map ln).flatten:=by rw [List.take_length]
 generalize (L.map ln).flatten=W at *;refine jB (s:=false) (bt:=[(0,160)]) (hbt:=fun p hp=>Nat.zero_le _) (P:=prog) tt eT 5000 31 [.tmp 6] func20 rfl ntmps20 rfl (nL rfl) (fun _ _ _ _=>?_);refine cP Ip gg ?_;refine cP Iq hlen ?_
 refine br (fun c=>absurd c (by
  simp [pickB]
  omega)) (fun _=>?_)
 refine aT (fun j st=>∃ (e:Nat) (T:List UInt8) (ob:List DV) (tk:List TkE),st=Ts PC L ob tk e/\e<=L.length/\((L.take e).map ln).flatten=T/\((T=[]/\tk=[]/\∃ p,(p = .v (.pointer none)∨p = .loc 0 0)/\ob=[p,.v (.slice none 0 0)])∨(T ≠ []/\ob=[.loc 0 0,.sl 1 (bD T) (some 0)]/\tk=[⟨T.length,5,1,none⟩]))/\j=L.length - e) L.length
  (Ts PC L [.v (.pointer none),.v (.slice none 0 0)] [] 0) (dz 1 pV j8) ⟨0,[],_,_,rfl,by omega,rfl,.inl ⟨rfl,rfl,_,.inl rfl,rfl⟩,by omega⟩ ?_
 rintro _ st ⟨e,T,ob,tk,rfl,he,hT,hob,rfl⟩;rcases hob with ⟨rfl,rfl,p,hp,rfl⟩ | ⟨aY,rfl,rfl⟩
 ·refine br ?_ ?_<;>intro iD
  ·have aw:e < L.length:=sV cw iD;obtain ⟨c,hc⟩:=gX aw;have hl:=N2 c (mG hc);have hs:=FD hc;have Oc:=gk (e + 1);rw [hT,List.nil_append] at hs;rw [hs] at Oc;generalize ln c=lc at hl hs Oc;have Tk:=sI hc;have TQ:OD c=Mi c.k c.p (oV c.x) (oV c.y):=rfl;rw [TQ] at hl Tk;generalize oV c.x=X at *;generalize oV c.y=Y at *;obtain ⟨xk,xn,xs,xl⟩:=X;obtain ⟨yk,yn,ys,yl⟩:=Y;refine ⟨_,⟨by omega,Tk⟩,?_⟩;refine cP Ur hl ?_
   cases lc with
   | nil=>
    refine Tr rfl (p:=p) (.head _) rfl hp rfl ?_;exact ⟨Ts PC L [.loc 0 0,.v (.slice none 0 0)] [] (e + 1),(dz 1 (pX (aX aw (by omega))) (dH (aX aw (by omega)))),L.length - (e + 1),by omega,e + 1,_,_,_,rfl,by omega,hs,.inl ⟨rfl,rfl,_,.inr rfl,rfl⟩,rfl⟩
   | cons b0 br0=>
    refine yY rfl (b0 :: br0) (l:=[]) (kt:=0) rfl (.head _) rfl hp (.inl ⟨rfl,rfl,rfl,rfl⟩) (Nat.succ_pos _) Oc rfl ?_;exact ⟨Ts PC L [.loc 0 0,.sl 1 (bD (b0 :: br0)) (some 0)] [⟨(b0 :: br0).length,5,1,none⟩] (e + 1),(dz 1 (pX (aX aw (by omega))) (dH (aX aw (by omega)))),L.length - (e + 1),by omega,e + 1,_,_,_,rfl,by omega,hs,.inr ⟨List.cons_ne_nil _ _,rfl,rfl⟩,rfl⟩
  ·have hge:e=L.length:=by
    have h2:=iD;simp [cw] at h2;omega
   subst hge;rw [iO] at hT;subst hT;refine GX rfl (.head _) rfl rfl rfl rfl ?_;exact (rfl:_=_)
 ·refine br ?_ ?_<;>intro iD
  ·have aw:e < L.length:=sV cw iD;obtain ⟨c,hc⟩:=gX aw;have hl:=N2 c (mG hc);have hs:=FD hc;have Oc:=gk (e + 1);rw [hT] at hs;rw [hs] at Oc;generalize ln c=lc at hl hs Oc;have Tk:=sI hc;have TQ:OD c=Mi c.k c.p (oV c.x) (oV c.y):=rfl;rw [TQ] at hl Tk;generalize oV c.x=X at *;generalize oV c.y=Y at *;obtain ⟨xk,xn,xs,xl⟩:=X;obtain ⟨yk,yn,ys,yl⟩:=Y;refine ⟨_,⟨by omega,Tk⟩,?_⟩;refine cP Ur hl ?_;have afq:T ++ lc ≠ []:=by simp [aY]
   refine gK rfl (kt:=0) (l:=T) (T ++ lc) rfl (.head _) rfl (.inr rfl) rfl afq Oc rfl (fun n=>?_);exact ⟨Ts PC L [.loc 0 0,.sl 1 (bD (T ++ lc)) (some 0)] [⟨(T ++ lc).length,5,1,none⟩] (e + 1),(dz 1 (pX (aX aw (by omega))) (dH (aX aw (by omega)))),L.length - (e + 1),by omega,e + 1,_,_,_,rfl,by omega,hs,.inr ⟨afq,rfl,rfl⟩,rfl⟩
  ·have hge:e=L.length:=by
    have h2:=iD;simp [cw] at h2;omega
   subst hge;rw [iO] at hT;subst hT;refine pJ rfl (kt:=0) (l:=W) (.head _) rfl aY rfl rfl rfl rfl ?_;exact (rfl:_=_)
end Go.Proofs.YtgjagnmeonoehaaGreat
set_option maxRecDepth 100000
namespace Go.Proofs.YtgjagnmeonoehaaGreat
open Go Go.RowKit Dv Go.Proofs.Tryz
theorem afr {bx:List (List DV)} {N n0 m0:Nat} (p:List Stp):Cc bx N n0 m0 (.sl 3 (bf p) none) (dP p):=by
 cases p with
 | nil=>exact .inl ⟨rfl,rfl⟩
 | cons s p=>exact .inr (.inl ⟨none,rfl⟩)
theorem Tt {bx:List (List DV)} {N n0 m0:Nat} (o:Option Val):CcL bx N n0 m0 (aG (oV o)) (vD o):=by
 cases o with
 | none=>exact ⟨_,_,rfl,rfl,_,_,rfl,rfl,_,_,rfl,rfl,_,_,rfl,.inl ⟨rfl,rfl⟩,rfl⟩
 | some v=>
  obtain ⟨k,n,s,ks⟩:=v;exact ⟨_,_,rfl,rfl,_,_,rfl,rfl,_,_,rfl,rfl,_,_,rfl,.inr (.inl ⟨none,rfl⟩),rfl⟩
theorem D8 {bx:List (List DV)} {N n0 m0:Nat}:∀ {a' a b' b:List DV},CcL bx N n0 m0 a' a->CcL bx N n0 m0 b' b->CcL bx N n0 m0 (a' ++ b') (a ++ b)
 | [],_,_,_,h,h2=>by
  cases h;exact h2
 | d' :: r',_,_,_,h,h2=>by
  obtain ⟨d,r,rfl,h3,h4⟩:=h;exact ⟨d,_,rfl,h3,D8 h4 h2⟩
theorem V1 {bx:List (List DV)} {N n0 m0:Nat} (c:Chg):CcL bx N n0 m0 (OD c) (DP c):=
 D8 (a':=[.v (.int .i64 c.k),.sl 3 (bf c.p) none]) (a:=[.v (.int .i64 c.k),dP c.p]) ⟨_,_,rfl,rfl,_,_,rfl,afr c.p,rfl⟩ (D8 (Tt c.x) (Tt c.y))
theorem HL {bx:List (List DV)} {N:Nat}:∀ l:List Chg,CcE bx N (lH l) (dp l)
 | []=>rfl
 | c :: r=>⟨_,_,rfl,.inr (V1 c),HL r⟩
abbrev dpSt (L:List Chg) (e:Nat):St:=⟨[bi 0 10 (lH L),ay 3 e],[],[]⟩
theorem HM (L:List Chg) (hs:∀ c∈L,∀ s∈c.p,bI s=true) (Xt:L.length<=1000000) :
  Ev prog 22 [.sl 10 (lH L) none] [] [] (fun r _ _=>∃ b:Bool,r = .v (.bool b)/\(b=false->∀ c∈L,c.p.length<=64)):=by
 have cw:=sH L;refine eG 17 [.tmp 2] func22 rfl ntmps22 rfl fun _ _ _ _=>?_;refine lI (fun j st=>∃ e:Nat,st=dpSt L e/\e<=L.length/\(∀ c∈L.take e,c.p.length<=64)/\j=L.length - e) ⟨0,rfl,by omega,by simp,rfl⟩ (dz 0 pV j8) ?_;rintro _ st ⟨e,rfl,he,aar,rfl⟩;refine br ?_ ?_<;>intro iD
 ·have aw:e < L.length:=sV cw iD;obtain ⟨c,hc⟩:=gX aw;have hcm:=mG hc;have hr:=DH c.p (fun s h=>by have:=B6 (hs c hcm s h);omega)
  have hq:fU c.p=true->∀ c∈L.take (e + 1),c.p.length<=64:=fun h x hx=>by
   rw [List.take_add_one,hc] at hx;rcases List.mem_append.1 hx with hx | hx
   ·exact aar x hx
   ·simp at hx;rw [hx];exact (nA h).1
  generalize fU c.p=b at hr hq;have Tk:=sI hc;rw [show OD c=Mi c.k c.p (oV c.x) (oV c.y) from rfl] at Tk;generalize oV c.x=X at *;generalize oV c.y=Y at *;obtain ⟨ak,an,O3,al⟩:=X;obtain ⟨bk,bn,bs,bl⟩:=Y;refine ⟨_,⟨by omega,Tk⟩,?_⟩;refine cP en79 hr ?_
  cases b with
  | false=>exact ⟨true,rfl,fun h=>by cases h⟩
  | true=>exact rE ⟨_,by omega,e + 1,rfl,by omega,hq rfl,rfl⟩ (dz 0 (pX (aX aw (by omega))) (dH (aX aw (by omega))))
 ·have hge:e=L.length:=by
   have h2:=iD;simp [cw] at h2;omega
  subst hge;rw [List.take_length] at aar;exact ⟨false,rfl,fun _=>aar⟩
theorem Ky {S:Sch} {ND:List Nd} {PC:List DV} (hP:dM S ND PC) (cf:∀ n∈ND,n.az.length<=1099511627776) (rt:Nat) (nT:dF S=rt) (x y:Val) (hx:x.wt<=1099511627776) (hy:y.wt<=1099511627776) (N3:dA x + dA y<=10000) (o:Int)
  (uW:EvP prog 58 [.pt PC 0,.v (.int .i64 o),.agg (aG x)] (.v (.bool true))) (sJ:EvP prog 58 [.pt PC 0,.v (.int .i64 o),.agg (aG y)] (.v (.bool true))) (hw1:dW ND x (rt:Nat)=true) (mA:dW ND y (rt:Nat)=true) :
  EvP prog 19 [.pt PC 0,.v (.int .i64 o),.agg (aG x),.agg (aG y)] (.tup [.sl 10 (lH (dfK ND x.wt x y (rt:Nat) [])) none,.v (.bool true)]):=by
 have dy:=hP.root;rw [nT] at dy;have ho1:=iy x.wt x (aR _) hx;have ho2:=iy y.wt y (aR _) hy;have kV:=zE hP cf x y x.wt x y (aR _) hx hy (rt:Nat) hw1 mA [] [] (by simp;omega) (by simp;omega);simp only [List.nil_append,List.length_nil] at kV;generalize dfK ND x.wt x y (rt:Nat) []=L at *;obtain ⟨xk,xn,xs,xl⟩:=x;obtain ⟨yk,yn,ys,yl⟩:=y;refine eG 38 [.tmp 8,.tmp 9] func19 rfl ntmps19 rfl fun _ _ _ _=>?_;refine cP rG uW ?_;refine cP rG sJ ?_;refine Dv.Hu ⟨[iQ 0 PC,aF 6 0,aF 7 1,aF 10 2],[aG (.mk xk xn xs xl),aG (.mk yk yn ys yl),TP PC []],[XL 0]⟩ (dq 3 ⟨0,58,10,none⟩ rfl rfl rfl pV rfl rfl j8) ?_;refine fZ (fun i=>Nat.beq i 7) mo (by decide +kernel) ?_;refine cD xu dy ?_;refine cD Cz ho1 ?_;refine cD Cz ho2 ?_;refine fG rfl ?_;refine gf 3 1 Up rfl rfl rfl iP iP kV (fun r ir cC hΦ h1 h2=>?_);obtain ⟨rfl,rfl,rfl⟩:=hΦ;exact ⟨.tup [.sl 10 (lH L) none,.v (.bool true)],⟨_,rfl,_,_,rfl,.inr (.inr (.inr ⟨_,_,rfl,HL L⟩)),_,_,rfl,rfl,rfl⟩,rfl⟩
theorem Kz {PC:List DV} (x y:Val) (o:Int) (B1 B2:Bool) (h:(B1 && B2)=false)
  (uW:EvP prog 58 [.pt PC 0,.v (.int .i64 o),.agg (aG x)] (.v (.bool B1))) (sJ:EvP prog 58 [.pt PC 0,.v (.int .i64 o),.agg (aG y)] (.v (.bool B2))) :
  EvP prog 19 [.pt PC 0,.v (.int .i64 o),.agg (aG x),.agg (aG y)] (.tup [.sl 10 [] none,.v (.bool false)]):=by
 obtain ⟨xk,xn,xs,xl⟩:=x;obtain ⟨yk,yn,ys,yl⟩:=y
 cases B1 with
 | false=>
  refine eG 38 [.tmp 8,.tmp 9] func19 rfl ntmps19 rfl fun _ _ _ _=>?_;refine cP rG uW ?_;exact ⟨_,ax,rfl⟩
 | true=>
  cases B2 with
  | true=>cases h
  | false=>
   refine eG 38 [.tmp 8,.tmp 9] func19 rfl ntmps19 rfl fun _ _ _ _=>?_;refine cP rG uW ?_;refine cP rG sJ ?_;exact ⟨_,ax,rfl⟩
structure LdK (PC:List DV) (o:Int) (x y a b:Val) (L:List Chg) (T:List UInt8) (ak:Bool):Prop where
 df:EvP prog 19 [.pt PC 0,.v (.int .i64 o),.agg (aG a),.agg (aG b)] (.tup [.sl 10 (lH L) none,.v (.bool true)])
 ap:EvP prog 13 [.pt PC 0,.v (.int .i64 o),.agg (aG a),.sl 10 (lH L) none] (aff (some b))
 tx:EvP prog 20 [.pt PC 0,.v (.int .i64 o),.sl 10 (lH L) none] (.v (.string (ba T)))
 al:EvP prog 21 [.pt PC 0,.v (.int .i64 o),.agg (aG x),.agg (aG y)] (.v (.bool ak))
 nl:ak=decide (L=[])
 rt:∀ c∈L,∀ s∈c.p,bI s=true
 ct:(∀ c∈L,c.p.length<=64)->T.count 10=L.length
 tl:T.length<=140737488355328
 ll:L.length<=1000
 bw:b.wt<=1099511627776
theorem OG {S:Sch} (hS:S.wt<=1099511627776) (Kg:QF S) {x y:Val} (hx:x.wt<=134217728) (nI:rngW x) (hy:y.wt<=134217728) (Tg:rngW y) (o:Int) (h0:zt S) (TL:dA x<=500) (Z7:dA y<=500) {PC:List DV} (hP:dM S (aQ S) PC) :
  ∃ EA EB:Option Val,EvP prog 18 [.pt PC 0,.v (.int .i64 o),.agg (aG x)] (SM EA)/\EvP prog 18 [.pt PC 0,.v (.int .i64 o),.agg (aG y)] (SM EB) /\
   ((EA.isSome && EB.isSome)=false->EvP prog 19 [.pt PC 0,.v (.int .i64 o),.agg (aG (EA.getD zeroV)),.agg (aG (EB.getD zeroV))] (.tup [.sl 10 [] none,.v (.bool false)])) /\
   ∀ a b,EA=some a->EB=some b->∃ L T ak,LdK PC o x y a b L T ak:=by
 have hRr:=fun n (hn:n∈aQ S)=>zr Kg hn;have DJ:∀ n∈aQ S,n.az.length<=1099511627776:=fun n hn=>(mc hn hS).2;obtain ⟨root,nT,fm⟩:=@Jy S (sg h0.tu);obtain ⟨LC,gg,hR⟩:=hP.Vt;have hE:=fun (v:Val) (hv:v.wt<=134217728) (hr:rngW v)=>Hp hP gg hR hRr DJ root nT o v (by omega) hr
 have hV:∀ (v:Val),v.wt<=134217728->rngW v->(qf (aQ S) (aH S) S.ae.length root o v).isSome=mv (aQ S) (aH S) S.ae.length root o ((qf (aQ S) (aH S) S.ae.length root o v).getD zeroV)/\uF ((qf (aQ S) (aH S) S.ae.length root o v).getD zeroV)/\dA ((qf (aQ S) (aH S) S.ae.length root o v).getD zeroV)<=max 1 (dA v):=fun v hv hr=>by
  unfold qf;split
  ·rename_i h;simp only [Option.getD_some,Option.isSome_some];have h1:=BK (f:=aH S) (L:=S.ae.length) (obs:=o.toNat) hP.ok v root (eC (aH S) S.ae.length) h.2.2;have h2:=BH (ND:=aQ S) (f:=aH S) (L:=S.ae.length) (obs:=o.toNat) v root (eC (aH S) S.ae.length);have h3:=zK (f:=aH S) (L:=S.ae.length) (obs:=o.toNat) hP.ok v root (eC (aH S) S.ae.length) hr (by omega);have h4:=zP (ND:=aQ S) (f:=aH S) (L:=S.ae.length) (obs:=o.toNat) v root (eC (aH S) S.ae.length);refine ⟨?_,⟨by omega,h3⟩,by omega⟩;unfold mv;rw [h1,decide_eq_true ⟨h.1,h.2.1⟩];rfl
  ·simp only [Option.getD_none,Option.isSome_none];refine ⟨?_,⟨by decide,by simp [zeroV,rngW,rngWs,mZ]⟩,by simp [zeroV,dA,bQ];omega⟩;unfold mv;rw [Tc hP.ok,Bool.and_false]
 obtain ⟨x1,x2,x3⟩:=hV x hx nI;obtain ⟨y1,y2,y3⟩:=hV y hy Tg;have f1:=jQ hP gg hR hRr DJ root nT fm o _ (by have:=x2.1;omega) x2.2;have f2:=jQ hP gg hR hRr DJ root nT fm o _ (by have:=y2.1;omega) y2.2;refine ⟨_,_,hE x hx nI,hE y hy Tg,fun h=>?_,fun a b ha hb=>?_⟩
 ·rw [x1,y1] at h;exact Kz _ _ o _ _ h f1 f2
 ·rw [ha] at x1 x2 x3 f1;rw [hb] at y1 y2 y3 f2;simp only [Option.getD_some,Option.isSome_some] at x1 x2 x3 y1 y2 y3 f1 f2;rw [<- x1] at f1;rw [<- y1] at f2;have hwa:=o8 hP.ok x1.symm;have hwb:=o8 hP.ok y1.symm;have hlen:=DQ (aQ S) a.wt a b root [];have bA:=SY (aQ S) a.wt a b root [] (by have:=x2.1;omega) (by have:=y2.1;omega) (by simp;omega);have Oc:=VZ (ND:=aQ S) (k:=a.wt) (i:=root) x2 y2;have aas:=Mr hP.ok (f:=aH S) (n:=S.ae.length) (rt:=root) (b0:=eC (aH S) S.ae.length) a.wt a b root (eC (aH S) S.ae.length) [] (by simp) rfl hwa hwb;have HU:=zJ hP.ok x1.symm y1.symm;have NY:=aal hP.ok x1.symm y1.symm;have hdf:=Ky hP DJ root nT a b (by have:=x2.1;omega) (by have:=y2.1;omega) (by omega) o f1 f2 hwa hwb
  have ho:0<=o/\o < S.ae.length:=by
   have h:=x1.symm;unfold mv at h;rw [aO] at h;exact of_decide_eq_true h.1
  generalize dfK (aQ S) a.wt a b root []=L at *;have zV:L.length<=1000:=by omega
  have Cv:=Tm fun c hc=>(Oc c hc).2.2.1;have Ie:=Kw hP root nT o _ (fun v h=>o8 hP.ok h) (fun v hv hr=>jQ hP gg hR hRr DJ root nT fm o v hv hr) L (fun c hc=>⟨by have:=(bA c hc).p;omega,(Oc c hc).2.2.2⟩) a (by have:=x2.1;omega) x2.2 (by omega);rw [aj x1.symm,HU] at Ie;have N2:=fun c hc=>Tq hP nT fm (aas c hc) (Oc c hc) (by have:=(bA c hc).p;omega);have OP:=B7 fun c hc=>(N2 c hc).2;have gD:(L.map (XR (aQ S) (aH S) S.ae.length root (eC (aH S) S.ae.length))).flatten.length<=140737488355328:=by omega
  have htx:=HK gg hR o.toNat (by omega) L _ (fun c hc=>(N2 c hc).1) gD (by omega);rw [show ((o.toNat:Nat):Int)=o by omega] at htx;refine ⟨L,_,_,hdf,Ie,htx,HH hP gg hR hRr DJ root nT fm o x y (by omega) (by omega) nI Tg,?_,fun c hc=>(aas c hc).1,lines_10 hP.ok aas,gD,zV,by have:=y2.1;omega⟩
  have Wc:fitV (aQ S) x root=true/\eraseV (aQ S) (aH S) S.ae.length o.toNat x root (eC (aH S) S.ae.length)=a:=by
   unfold qf at ha;split at ha
   ·rename_i h;cases ha;exact ⟨h.2.2,rfl⟩
   ·cases ha
  have hsy:fitV (aQ S) y root=true/\eraseV (aQ S) (aH S) S.ae.length o.toNat y root (eC (aH S) S.ae.length)=b:=by
   unfold qf at hb;split at hb
   ·rename_i h;cases hb;exact ⟨h.2.2,rfl⟩
   ·cases hb
  unfold akF;rw [Wc.1,hsy.1,decide_eq_true ho,<- Sg hP.ok Wc.1 hsy.1,Wc.2,hsy.2];simp only [Bool.true_and];rw [Bool.eq_iff_iff,km,decide_eq_true_iff,NY]
theorem aft {T:List UInt8} {e:Nat} {c:UInt8} (h:T[e]? = some c):eX (ba T) ((e:Nat):Int).toNat=c.toNat:=by
 rw [yV (s:=ba T) (l:=T) (uU T) e (by simp),eO,h];rfl
abbrev Tu (SS FF:List DV) (x y a b z:Val) (PC:List DV) (o:Int) (L:List Chg) (T:List UInt8) (e:Nat):St:=
 ⟨[ay 2 o,aF 4 1,iQ 7 PC,aF 9 3,aF 11 4,bi 13 10 (lH L),Cu 14 true,aF 15 5,Cu 16 true,(17,⟨[],.v (.string (ba T))⟩),ay 18 ((T.take e).count 10:Nat),ay 19 e],
  [SS,aG x ++ aG y,FF,aG a,aG b,aG z],[]⟩
set_option maxHeartbeats 4000000 in
theorem leads39_law (S:Sch) (hS:S.wt<=1099511627776) (Kg:QF S) (x y:Val) (hx:x.wt<=134217728) (nI:rngW x) (hy:y.wt<=134217728) (Tg:rngW y) (o:Int) :
  EvP prog 4 [.agg (ei S),.agg (aG x ++ aG y),.v (.int .i64 o)] (.v (.bool true)):=by
 have hf:=Hx S hS x y (by omega) (by omega);have hb:=(yv S hS).mono (Ψ:=fun r _ _=>Jz S r) fun _ _ _ h=>Bu hS h;have key:=@OG S hS Kg x y hx nI hy Tg o;generalize hSS:S=SS at *;subst hSS;obtain ⟨ae,order,types,⟨rh,rp⟩⟩:=S;obtain ⟨xk,xn,xs,nU⟩:=x;obtain ⟨yk,yn,ys,q7⟩:=y;refine eG 133 [.tmp 6] func4 rfl ntmps4 rfl fun _ _ _ _=>?_;refine ⟨⟨by decide,by decide⟩,?_⟩;refine ⟨⟨by decide,by decide⟩,?_⟩;refine cE en8 rfl hf ax (fun r hr=>?_);obtain ⟨b,rfl,h0⟩:=hr
 cases b with
 | false=>
  refine cP MJ gj ?_;exact (rfl:_=_)
 | true=>
  obtain ⟨hF,TL,Z7⟩:=h0 rfl;have h0:=hF.tu;refine cE abG rfl hb ax (fun r hr=>?_);rcases hr with ⟨hr,_⟩ | ⟨_,PC,hP,rfl⟩
  ·exact (hr h0).elim
  obtain ⟨EA,EB,OR,XO,hN,hK⟩:=key hF TL Z7 hP
  cases EA with
  | none=>
   have hD:=hN rfl
   cases EB with
   | none=>
    refine ⟨⟨by decide,by decide⟩,?_⟩;refine cP EZ OR ?_;refine ⟨⟨by decide,by decide⟩,?_⟩;refine cP EZ XO ?_;refine cP PE hD ?_;refine cP MJ gj ?_;exact (rfl:_=_)
   | some b=>
    obtain ⟨bk,bn,bs,bl⟩:=b;refine ⟨⟨by decide,by decide⟩,?_⟩;refine cP EZ OR ?_;refine ⟨⟨by decide,by decide⟩,?_⟩;refine cP EZ XO ?_;refine cP PE hD ?_;refine cP MJ gj ?_;exact (rfl:_=_)
  | some a=>
   cases EB with
   | none=>
    have hD:=hN rfl;obtain ⟨ak,an,O3,al⟩:=a;refine ⟨⟨by decide,by decide⟩,?_⟩;refine cP EZ OR ?_;refine ⟨⟨by decide,by decide⟩,?_⟩;refine cP EZ XO ?_;refine cP PE hD ?_;refine cP MJ gj ?_;exact (rfl:_=_)
   | some b=>
    obtain ⟨L,T,ak,hL⟩:=hK a b rfl rfl;have hD:=hL.df;have hA:=hL.ap;have hT:=hL.tx;have My:=hL.al;have gR:=hL.nl;have hdp:=HM L hL.rt (by have:=hL.ll;omega);have OV:=hL.ct;have gD:=hL.tl;have X6:=Ho b hL.bw b;rw [kN] at X6;have hTl:(ba T).size=T.length:=by simp [ba,ByteArray.size]
    clear hL hK hN key;obtain ⟨ak',an,O3,al⟩:=a;obtain ⟨bk,bn,bs,bl⟩:=b;have cw:=sH L;refine ⟨⟨by decide,by decide⟩,?_⟩;refine cP EZ OR ?_;refine ⟨⟨by decide,by decide⟩,?_⟩;refine cP EZ XO ?_;refine cP PE hD ?_;refine cP en13 hA ?_;refine cP abH hT ?_
    refine aT (fun j st=>∃ e:Nat,st=Tu (ei ⟨ae,order,types,.mk rh rp⟩) [.v (.int .i64 0),.v (.int .i64 0)] (.mk xk xn xs nU) (.mk yk yn ys q7) (.mk ak' an O3 al) (.mk bk bn bs bl) (.mk bk bn bs bl) PC o L T e/\e<=T.length/\j=T.length - e) T.length
     (Tu (ei ⟨ae,order,types,.mk rh rp⟩) [.v (.int .i64 0),.v (.int .i64 0)] (.mk xk xn xs nU) (.mk yk yn ys q7) (.mk ak' an O3 al) (.mk bk bn bs bl) (.mk bk bn bs bl) PC o L T 0) (dz 6 pV j8) ⟨0,rfl,by omega,by omega⟩ ?_
    rintro _ st ⟨e,rfl,he,rfl⟩;refine br ?_ ?_<;>intro iD
    ·have aw:e < T.length:=sV hTl iD;obtain ⟨c,hc⟩:=gX aw;have Fg:=aft hc
     have N3:(T.take (e + 1)).count 10=(T.take e).count 10 + (if c=10 then 1 else 0):=by
      rw [List.take_add_one,hc,List.count_append];congr 1;simp [List.count_cons]
     refine ⟨⟨by omega,by omega⟩,?_⟩;refine br ?_ ?_<;>intro g
     ·have qZ:c=10:=by
       rw [Fg] at g;have g:=of_decide_eq_true g;exact UInt8.toNat_inj.1 (by simpa using (by omega:c.toNat=10))
      rw [aj qZ] at N3
      have Cv:IntKind.i64.wrap (((T.take e).count 10:Nat) + 1)=(((T.take (e + 1)).count 10:Nat):Int):=by
       have:=List.count_le_length (a:=(10:UInt8)) (l:=T.take e);rw [zLenT] at this;rw [wrap64 (by omega) (by omega),N3];omega
      exact rE ⟨_,by omega,e + 1,rfl,by omega,rfl⟩ (dz 6 (oc (aX aw (by omega)) Cv) (gC (aX aw (by omega)) Cv))
     ·have qZ:c≠10:=by
       rintro rfl;rw [Fg] at g;exact absurd g (by decide)
      rw [ai qZ,Nat.add_zero] at N3;have Cv:(((T.take e).count 10:Nat):Int)=(((T.take (e + 1)).count 10:Nat):Int):=by omega
      exact rE ⟨_,by omega,e + 1,rfl,by omega,rfl⟩ (dz 6 (oc (aX aw (by omega)) Cv) (gC (aX aw (by omega)) Cv))
    ·have hge:e=T.length:=by
      have h2:=iD;simp [hTl] at h2;omega
     subst hge;refine cP en17 X6 ?_;refine ⟨⟨by decide,by decide⟩,?_⟩;refine ⟨⟨by decide,by decide⟩,?_⟩;refine cP en21 My ?_
     have hak:(decide (((lH L).length:Int)=0) == ak)=true:=by
      rw [gR]
      cases L with
      | nil=>rfl
      | cons c r=>simp [lH];omega
     rw [List.take_length];refine br ?_ ?_<;>intro g
     rotate_left
     ·rw [hak] at g;cases g
     refine br ?_ ?_<;>intro g
     ·refine cE en22 rfl hdp ax (fun r hr=>?_);obtain ⟨b,rfl,hb⟩:=hr
      cases b with
      | false=>
       exfalso;have:=OV (hb rfl);simp [cw,this] at g
      | true=>
       refine cP MJ gj ?_;exact (rfl:_=_)
     ·refine cP MJ gj ?_;exact (rfl:_=_)
end Go.Proofs.YtgjagnmeonoehaaGreat
