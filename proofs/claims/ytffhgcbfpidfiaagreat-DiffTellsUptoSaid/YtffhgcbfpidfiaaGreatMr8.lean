/- Part 8 of the proof: The law of what may be seen; What is seen may be written; the example of chapter 33; the laws of Leaf and Compact; The example of chapter 33; the laws of Leaf and Compact: the calls return true; The document of what is seen of a value: plain, and the program's; What is different between two values: the program's near, step, to, own; Regions that draw their order, in which two new objects may come in either order; What is different between two values: the program's walk; The program's rows of an audit: step, sees, row; The program's rows of an audit: walk, Rows; How kinds of types, and ways of seeing, are called; The program's rows of an audit: Rows; What is different between two values: the program's Diff; the document's Changes; What is different between two values: the example's texts; What is different between two values: the document's Changes; What is different between two values: the chapter's example; the law of Diff; What is different between two values: the law of Diff; The law of Compact: the call returns true; The law of Diff: the call returns true. No condition. -/
import Derived.Test.YtffhgcbfpidfiaaGreatMr2
import Derived.Test.YtffhgcbfpidfiaaGreatMr6
import Derived.Test.YtffhgcbfpidfiaaGreatMr7
set_option linter.all false
set_option maxRecDepth 100000
namespace Go.Proofs.YtffhgcbfpidfiaaGreat
open Go Go.RowKit Dv Go.Proofs.Tryz
section
variable {ND:List Nd} {f:Nat->Nat->Bool} {L b9:Nat}
theorem S4 {v:Val} {i:Int} {d:Nd} (hd:cS ND i=some d) (h9:9<=v.k) (hb:cw v=true) (hk:v.ks=[]):iI ND v i=true:=by
 obtain ⟨k,n,s,ks⟩:=v;have hk:ks=[]:=hk;subst hk;have h9:9<=k:=h9;rw [iI,hd];simp only;rw [if_pos h9,hb];rfl
theorem iM {v:Val} {i:Int} {d:Nd} {k n:Int} {s:ByteArray} (hd:cS ND i=some d) (h:cm v k n s=true) (hk:(k=9/\1<=n/\n<=64)∨k=10∨k=11∨k=12):iI ND v i=true:=by
 rw [Hc.1 h];refine S4 hd (by show 9<=k;omega) ?_ rfl;rcases hk with ⟨rfl,h1,h2⟩ | rfl | rfl | rfl<;>simp [cw,Val.k,Val.n]
 exact ⟨decide_eq_true h1,decide_eq_true h2⟩
theorem S5 {v:Val} {i:Int} {d:Nd} {e:Ed} {t:Nd} (hd:cS ND i=some d) (hw:1<=e.wide/\e.wide<=64) (h:iH e t v=true):iI ND v i=true:=by
 unfold iH at h;split at h
 ·split at h
  ·rename_i c;exact iM hd c (.inl ⟨rfl,hw⟩)
  ·simp only [Bool.and_eq_true] at h;exact iM hd h.1.1.1.1 (.inr (.inl rfl))
 ·split at h
  ·simp only [Bool.and_eq_true] at h;exact iM hd h.1.1 (.inr (.inr (.inl rfl)))
  ·split at h
   ·simp only [Bool.and_eq_true] at h;exact iM hd h.1.1 (.inr (.inr (.inr rfl)))
   ·exact iM hd h (.inl ⟨rfl,hw⟩)
mutual
theorem JB (bS:∀ n∈ND,dB L ND.length n):∀ (v:Val) (i:Int) (a:Nat),seeV ND f L b9 v i a=true->iI ND v i=true
 | .mk k n s ks,i,a,h=>by
  rw [seeV] at h
  cases hd:cS ND i with
  | none=>rw [hd] at h;cases h
  | some d=>
   rw [hd] at h;simp only at h;have hN:=bS d (mG (dt hd).2);have B7:=hN.k8;rw [iI,hd];simp only;split at h
   ·rename_i c5;obtain ⟨d',hF⟩:=Lf bS h;have X2:=hF.aj;rw [hd] at X2;injection X2 with X2
    subst X2;have h1:k=d.ag:=hF.k;have h2:ks=[]:=hF.leaf c5;have h3:=hF.enum;rw [if_neg (by omega),if_neg (by omega),if_pos c5,h2];simp only [decide_true,Bool.true_and,Bool.or_eq_true,decide_eq_true_iff];by_cases c4:k=4
    ·exact .inr (h3 (by omega))
    ·exact .inl c4
   ·rename_i c5;rw [Bool.and_eq_true] at h
    have hk:k=d.ag:=by
     by_cases c:k=d.ag
     ·exact c
     ·have:=h.1;unfold shellF at this;rw [if_pos (.inl c)] at this;cases this
    rw [if_neg (by omega),if_neg (by omega),if_neg c5,Bool.and_eq_true];exact ⟨h.1,EQ bS ks d n a 0 hN (fun m hm=>by rw [Nat.zero_add];exact sy hN (by omega) h.1 hm) h.2⟩
theorem EQ (bS:∀ n∈ND,dB L ND.length n):∀ (l:List Val) (d:Nd) (z:Int) (a j:Nat),dB L ND.length d->(∀ m,m < l.length->∃ e,aby ND d z (j + m) e)->seeVs ND f L b9 l d z a j=true->fQ ND l d z j=true
 | [],_,_,_,_,_,_,_=>by rw [fQ]
 | x :: r,d,z,a,j,hN,hK,h=>by
  rw [seeVs,Bool.and_eq_true] at h;rw [fQ,Bool.and_eq_true];refine ⟨?_,EQ bS r d z a (j + 1) hN (fun m hm=>by have:=hK (m + 1) (by rw [List.length_cons];omega);rwa [show j + (m + 1)=j + 1 + m by omega] at this) h.2⟩;obtain ⟨e,hE⟩:=hK 0 (by simp);have he:=hE.mY;rw [Nat.add_zero] at he;have h1:=h.1;rw [he] at h1 ⊢;simp only at h1 ⊢;obtain ⟨g1,t,ht⟩:=PH hN hE.mem hE.bare;have hw:=(hN.mY e hE.mem).wide;split at h1
  ·exact JB bS x e.to _ h1
  ·split at h1
   ·rw [ht] at h1;exact S5 ht hw h1
   ·exact iM ht h1 (.inl ⟨rfl,hw⟩)
end
theorem ln (bS:∀ n∈ND,dB L ND.length n) {rt:Nat} {o:Int} {v:Val} (h:yw ND f L rt o v=true):iI ND v (rt:Nat)=true:=by
 unfold yw at h;rw [Bool.and_eq_true] at h;exact JB bS v _ _ h.2
end
section
variable (ND:List Nd) (ind:Int)
end
section
variable {ND:List Nd} {ind:Int}
end
abbrev zD:List DV:=[.v (.int .i64 0),.v (.int .i64 0),.v (.string aq),.v (.slice none 0 0)]
theorem HH (x y:Val):EvP prog 89 [.agg (aM x),.agg (aM y)] (.v (.bool (qU x y))):=by
 have h1:=bo x.ks;have h2:=bo y.ks;obtain ⟨xk,xn,xs,xl⟩:=x;obtain ⟨yk,yn,ys,yl⟩:=y;simp only [Val.ks] at h1 h2;refine eG 38 [.tmp 4] func89 rfl ntmps89 rfl fun _ _ _ _=>?_;refine (congrArg (fun b=>DV.v (.bool b)) ?_:_=_);rw [show qU (.mk xk xn xs xl) (.mk yk yn ys yl)=(decide (xk=yk) && (decide (xn=yn) && (decide (xs=ys) && (decide (xl.length=yl.length) || decide (xk=5))))) from rfl];simp [pickB_and,ap,h1,h2,Bool.and_assoc,Int.ofNat_inj]
theorem pz (d:Nd) (v:Val) (j:Nat) (hk:v.k=d.ag) (h5:5<=d.ag) (h8':d.ag<=8) (h7:d.ag=7->j < d.aw.length) (h8:d.ag=8->0<=v.n/\v.n < d.aw.length) :
  EvP prog 93 [.agg (jc d),.agg (aM v),.v (.int .i64 j)] (.agg (l9 (stpR d v j))):=by
 obtain ⟨ag,aD,lo,hi,most,af,es⟩:=d;obtain ⟨q,z,s,ks⟩:=v;have j1:=bZ es;simp only [Val.n,Val.k] at hk h5 h7 h8 h8';subst hk
 have hS:stpR ⟨q,aD,lo,hi,most,af,es⟩ (.mk q z s ks) j=if q=5 then ⟨2,j,aq⟩
  else if q=6 then ⟨4,0,aq⟩
  else if q=7 then ⟨1,0,match es[j]? with | some e=>e.name | none=>aq⟩
  else ⟨5,0,match es[z.toNat]? with | some e=>e.name | none=>aq⟩:=rfl
 rw [hS];refine eG 33 [.cell 6 121] func93 rfl ntmps93 rfl fun _ _ _ _=>?_;refine br ?_ ?_<;>intro c
 ·have c:q=7:=sU c;subst c;obtain ⟨e,he⟩:∃ e,es[j]? = some e:=⟨_,gE (h7 rfl)⟩;rw [if_neg (by omega),if_neg (by omega),if_pos rfl,he];have h7:=h7 rfl;refine iX (bm he) ?_;exact ⟨_,ax,rfl⟩
 have c7:¬ q=7:=sU c;refine br ?_ ?_<;>intro c
 ·have c:q=8:=sU c;subst c;have h8:=h8 rfl;obtain ⟨m,rfl⟩:∃ m:Nat,z=m:=⟨z.toNat,by omega⟩;obtain ⟨e,he⟩:∃ e,es[m]? = some e:=⟨_,gE (by omega)⟩;rw [if_neg (by omega),if_neg (by omega),if_neg (by omega),Int.toNat_natCast,he];refine iX (bm he) ?_;exact ⟨_,ax,rfl⟩
 have c8:¬ q=8:=sU c;refine br ?_ ?_<;>intro c
 ·have c:q=5:=sU c;rw [if_pos c];exact ⟨_,ax,rfl⟩
 have c5:¬ q=5:=sU c;rw [if_neg c5,if_pos (by omega)];exact ⟨_,ax,rfl⟩
theorem Qo (d:Nd) (v:Val) (j:Nat) (e:Ed) (hk:v.k=d.ag) (h:cd d v.n j=some e) (h8:d.ag=8->0<=v.n/\v.n < d.aw.length) :
  EvP prog 91 [.agg (jc d),.agg (aM v),.v (.int .i64 j)] (.v (.int .i64 e.to)):=by
 obtain ⟨ag,aD,lo,hi,most,af,es⟩:=d;obtain ⟨q,z,s,ks⟩:=v;have j1:=bZ es;simp only [Val.n,Val.k] at hk h h8;subst hk;unfold cd at h;simp only at h;refine eG 31 [.tmp 6] func91 rfl ntmps91 rfl fun _ _ _ _=>?_;refine br ?_ ?_<;>intro c
 ·have c:q=7:=sU c;rw [if_pos c] at h;have au:=(gS h).1;refine iX (bm h) ?_;exact (rfl:_=_)
 have c7:¬ q=7:=sU c;rw [if_neg c7] at h;refine br ?_ ?_<;>intro c
 ·have c:q=8:=sU c;have h8:=h8 c;rw [if_pos c] at h;refine iX (bm h) ?_;exact (rfl:_=_)
 have c8:¬ q=8:=sU c;rw [if_neg c8] at h;have au:=(gS h).1;refine iX (bm h) ?_;exact (rfl:_=_)
theorem BU (p:List bV) (s:bV) (hl:p.length<=1000000):EvP prog 92 [dP p,.agg (l9 s)] (.sl 3 (ch (p ++ [s])) none):=by
 rcases p with _ | ⟨s0,p⟩
 ·obtain ⟨k,n,t⟩:=s;refine eG 10 [.tmp 4] func92 rfl ntmps92 rfl fun _ _ _ _=>?_;apply aaH (fun _=>false) (.op 0 (.op 2 (.ev 1 (.ev 3 (.ev 4 (.op 5 .fin) .stop) .stop) (.ev 3 (.ev 1 (.ev 4 (.op 5 .fin) .stop) .stop) .stop)))) mo (by decide +kernel);·repeat' (first | refine cD Tx P5 ?_ | exact nL rfl | exact trivial | exact Or.inl rfl | exact qY | refine ⟨?_,?_⟩)
  exact ⟨_,ax,rfl⟩
 ·have hcf:=P6 s0 p (by omega);have eN:=gD (s0 :: p);have dQ:(ch (s0 :: p)).length + 1<=maxLen:=by rw [eN];simp only [maxLen];omega
  have H8:((ch (s0 :: p)).length + 1) * 32<=140737488355328:=by rw [eN];omega
  have Uo:=Ho (s0 :: p) s;obtain ⟨k,n,t⟩:=s;refine eG 10 [.tmp 4] func92 rfl ntmps92 rfl fun _ _ _ _=>?_;apply aaH (fun _=>false) (.op 0 (.op 2 (.ev 1 (.ev 3 (.ev 4 (.op 5 .fin) .stop) .stop) (.ev 3 (.ev 1 (.ev 4 (.op 5 .fin) .stop) .stop) .stop)))) mo (by decide +kernel);·repeat' (first | (refine SO Tx rfl hcf ax (fun yO ct hr=>?_);obtain ⟨rfl,rfl⟩:=hr) | refine ⟨eN,⟨dQ,H8⟩,?_⟩ | exact trivial | exact Or.inl rfl | exact qY | refine ⟨?_,?_⟩)
  exact ⟨_,(by repeat' (first | exact rfl | exact trivial | exact Or.inr (Or.inl ⟨_,rfl⟩) | exact Or.inr ⟨_,rfl⟩ | exact Or.inl ⟨rfl,rfl⟩ | exact Or.inl rfl | refine Or.inr ⟨_,_,rfl,Nat.zero_le _,rfl,?_⟩ | refine ⟨_,_,rfl,?_,?_⟩ | refine ⟨_,rfl,?_⟩ | exact Or.inr (Or.inl ⟨_,congrArg (fun l=>DV.sl 3 l _) Uo⟩) | refine Or.inr (Or.inr (Or.inr ⟨_,_,rfl,?_⟩)) | exact Or.inl rfl | refine Or.inr ?_)),rfl⟩
abbrev Qp (v:Val) (D:List Val) (q e:Nat):St:=
 ⟨[(1,⟨[],.loc 0 0⟩),(2,⟨[],.loc 1 0⟩),(3,⟨[],.sl 4 (dVals D) (some 0)⟩),(7,⟨[],.sl 4 (dVals v.ks) none⟩),(8,⟨[],.v (.int .i64 (dVals v.ks).length)⟩),(9,⟨[],.v (.int .i64 e)⟩)],[aM v,zD],[⟨q,34,4,none⟩]⟩
theorem sB:∀ (k:Nat) (v:Val),v.wt<=k->v.wt<=1099511627776->EvP prog 42 [.agg (aM v)] (.agg (aM v))
 | 0,v,h,_=>by have:=v.dh;omega
 | k + 1,v,h,hb=>by
  have ih:=sB k;obtain ⟨q,z,s,ks⟩:=v;have jm:=dc ks;have cu:=bo ks;rw [Val.wt] at h hb;refine eG 22 [.cell 2 34] func42 rfl ntmps42 rfl fun _ _ _ _=>?_;refine lI (fun t st=>∃ e n:Nat,st=Qp (.mk q z s ks) (ks.take e) n e/\n=(ks.take e).length/\e<=ks.length/\t=ks.length - e) ⟨0,0,rfl,rfl,by omega,rfl⟩ (dX ⟨0,34,4,none⟩ rfl ⟨_,rfl⟩ rfl wA rfl rfl wB0) ?_;rintro t st ⟨e,n,rfl,hn,he,rfl⟩;refine br ?_ ?_<;>intro eX
  ·have au:e < ks.length:=by
    have h2:=eX;simp at h2;have h2:e < (dVals ks).length:=h2;omega
   obtain ⟨x,hx⟩:=gX au;have QJ:=cE (mG hx);have hw:=ih x (by omega) (by omega);have fu:=GN hx;have tT:=bo (ks.take e);have fV:n=e:=by rw [hn,List.length_take];omega
   have Oj:e + 1=(ks.take (e + 1)).length:=by rw [List.length_take];omega
   subst fV;obtain ⟨xk,xn,xs,xl⟩:=x;refine iX (bf hx) ?_;refine cP Vv hw ?_;refine ⟨by rw [tT,<- hn],⟨by rw [tT];simp [maxLen];omega,by rw [tT];simp;omega⟩,?_⟩;exact ⟨Qp (.mk q z s ks) (ks.take (n + 1)) (n + 1) (n + 1),(az 2 rfl (wA2 (nxt au (by omega)) fu) rfl rfl rfl (dm (nxt au (by omega)) fu)),ks.length - (n + 1),by omega,n + 1,_,rfl,Oj,by omega,rfl⟩
  ·have aN:e=ks.length:=by
    have h2:=eX;simp at h2;have h2:(dVals ks).length<=e:=h2;omega
   subst aN;rw [List.take_length];exact ⟨_,ax,rfl⟩
end Go.Proofs.YtffhgcbfpidfiaaGreat
set_option maxRecDepth 100000
namespace Go.Proofs.YtffhgcbfpidfiaaGreat
open Go Go.RowKit
namespace Dv
section
variable {X:Ctx} {st:St}
theorem wF {i j:Nat} {s S:St} (h:gL s (fh i j S):=by refine (⟨rfl,rfl,?_⟩:_/\_/\_);repeat' (first | exact trivial | refine ⟨rfl,?_⟩)):(s=S∨gL s S)∨gL s (fh i j S):=.inr h
theorem q5 {id:Nat} {ops:Array Oper} {k:List It} (T:ll) (hm:X.P.follows .mixedOrders=true) (hc:(Xa ops && Hs ops (XD ops) && chkA ops T (List.range ops.size) none)=true) (S:St)
  (h:goA X ⟨ops,XD ops,[.Cd fun s=>s=S∨gL s S],st,none⟩ T true st.sl st) (hk:go X 4000 k S):pL X id ops k st:=aaH (XD ops) T hm hc S h hk
end
end Dv
end Go.Proofs.YtffhgcbfpidfiaaGreat
set_option maxRecDepth 100000
namespace Go.Proofs.YtffhgcbfpidfiaaGreat
open Go Go.RowKit Dv Go.Proofs.Tryz
abbrev S6 (PC:List DV) (O:List oH):List DV:=[.pt PC 0,.sl 10 (aJ O) (some 0)]
abbrev Xj (n:Nat):TkE:=⟨n,60,10,none⟩
def GoΦ (u v:Val) (PC:List DV) (O:List oH) (yO:DV) (os:List (List DV)) (tk:List TkE):Prop:=yO = .tup []/\os=[aM u,aM v,S6 PC O]/\tk=[Xj O.length]
abbrev LG (u v:Val) (PC:List DV) (O:List oH) (q:Nat) (P:DV) (x y:Val) (d:Nd) (m e:Nat):St:=
 ⟨[(0,⟨[],.loc 2 0⟩),(2,⟨[],P⟩),(8,⟨[],.loc 3 0⟩),(9,⟨[],.loc 4 0⟩),(10,⟨[],.loc 5 0⟩),(12,⟨[],.v (.int .i64 m)⟩),(49,⟨[],.v (.int .i64 m)⟩),(50,⟨[],.v (.int .i64 e)⟩)],[aM u,aM v,S6 PC O,aM x,aM y,jc d],[Xj q]⟩
abbrev LH (u v:Val) (PC:List DV) (O:List oH) (q:Nat) (P:DV) (x y:Val) (d:Nd) (m e:Nat):St:=
 ⟨[(0,⟨[],.loc 2 0⟩),(2,⟨[],P⟩),(8,⟨[],.loc 3 0⟩),(9,⟨[],.loc 4 0⟩),(10,⟨[],.loc 5 0⟩),(12,⟨[],.v (.int .i64 m)⟩),(14,⟨[],.v (.int .i64 e)⟩)],[aM u,aM v,S6 PC O,aM x,aM y,jc d],[Xj q]⟩
abbrev LI (u v:Val) (PC:List DV) (O:List oH) (q:Nat) (P:DV) (x y:Val) (d:Nd) (m:Nat) (e:Int):St:=
 ⟨[(0,⟨[],.loc 2 0⟩),(2,⟨[],P⟩),(8,⟨[],.loc 3 0⟩),(9,⟨[],.loc 4 0⟩),(10,⟨[],.loc 5 0⟩),(12,⟨[],.v (.int .i64 m)⟩),(15,⟨[],.v (.int .i64 e)⟩)],[aM u,aM v,S6 PC O,aM x,aM y,jc d],[Xj q]⟩
theorem Qq {x y:Val} (h:qU x y=true):x.k=y.k/\x.n=y.n/\x.s=y.s/\(x.ks.length=y.ks.length∨x.k=5):=by
 unfold qU at h;simpa using h
set_option maxHeartbeats 4000000 in
theorem ER {S:Sch} {ND:List Nd} {PC:List DV} (hP:fN S ND PC) (bJ:∀ n∈ND,n.aw.length<=1099511627776) (u v:Val):∀ (k:Nat) (x y:Val),x.wt<=k->x.wt<=1099511627776->y.wt<=1099511627776->∀ i:Int,iI ND x i=true->iI ND y i=true ->
  ∀ (p:List bV) (O:List oH),O.length + dT x + dT y<=100000->p.length + dT x<=100000 ->
  Ev prog 40 [.loc 2 0,.v (.int .i64 i),dP p,.agg (aM x),.agg (aM y)] [aM u,aM v,S6 PC O] [Xj O.length] (GoΦ u v PC (O ++ dfK ND k x y i p))
 | 0,x,_,h,_,_=>by have:=x.dh;omega
 | k + 1,x,y,h,jL,tA=>fun i QM hwy p O hO hp=>by
  have ih:=ER hP bJ u v k;obtain ⟨uk,un,us,ul⟩:=u;obtain ⟨vk,vn,vs,vl⟩:=v;have QB:=HH x y;have hOl:=cV O;by_cases c:qU x y=true
  ·obtain ⟨nk,nn,ns,nl⟩:=Qq c;obtain ⟨d,hd,XV⟩:=jX QM;obtain ⟨d',ra,hcy⟩:=jX hwy;rw [hd] at ra;cases ra;obtain ⟨h0,hg⟩:=dt hd;obtain ⟨j,rfl⟩:∃ j:Nat,i=j:=⟨i.toNat,by omega⟩;have hg:ND[j]? = some d:=sU hg;have mj:=mG hg;have hN:=hP.ok d mj;have jk:=bJ d mj;have B7:=hN.k8;have ey:=hP.aj j d hg;have hV:dfK ND (k + 1) x y j p=kidsD (dfK ND k) d x y p (min x.ks.length y.ks.length) ++ addC p (y.ks.drop x.ks.length) x.ks.length ++ pw p (x.ks.drop y.ks.length) y.ks.length:=by rw [dfK,if_pos c,hd]
   have hF:x.ks ≠ []∨y.ks ≠ []->x.k=d.ag/\5<=d.ag/\(d.ag=8->0<=x.n/\x.n < d.aw.length)/\fQ ND x.ks d x.n 0=true/\fQ ND y.ks d x.n 0=true:=fun aT=>by
    rcases XV with h1 | h1 | h1<;>rcases hcy with h2 | h2 | h2
    ·exact absurd aT (by simp [h1.2.2,h2.2.2])
    ·exact absurd aT (by simp [h1.2.2,h2.2.2.1])
    ·omega
    ·exact absurd aT (by simp [h1.2.2.1,h2.2.2])
    ·exact absurd aT (by simp [h1.2.2.1,h2.2.2.1])
    ·omega
    ·omega
    ·omega
    ·exact ⟨h1.1,h1.2.1,fun c=>shell_8 h1.2.2.1 c,h1.2.2.2,by rw [nn];exact h2.2.2.2⟩
   have Qr:∀ m a b,x.ks[m]? = some a->y.ks[m]? = some b->∃ e,cd d x.n m=some e/\iI ND a e.to=true/\iI ND b e.to=true:=fun m a b h1 h2=>by
    obtain ⟨_,_,_,w1,w2⟩:=hF (.inl (by rintro h;rw [h] at h1;simp at h1));obtain ⟨e,e1,e2⟩:=lj w1 h1;obtain ⟨e',e3,e4⟩:=lj w2 h2;rw [Nat.zero_add] at e1 e3;rw [e1] at e3;cases e3;exact ⟨e,e1,e2,e4⟩
   have jz:∀ m a b e,x.ks[m]? = some a->y.ks[m]? = some b->cd d x.n m=some e->EvP prog 91 [.agg (jc d),.agg (aM x),.v (.int .i64 m)] (.v (.int .i64 e.to)):=fun m a b e h1 h2 he=>by
    obtain ⟨w0,_,w8,_,_⟩:=hF (.inl (by rintro h;rw [h] at h1;simp at h1));exact Qo d x m e w0 he w8
   have aU:∀ m a b e,x.ks[m]? = some a->y.ks[m]? = some b->cd d x.n m=some e->EvP prog 93 [.agg (jc d),.agg (aM x),.v (.int .i64 m)] (.agg (l9 (stpR d x m))):=fun m a b e h1 h2 he=>by
    obtain ⟨w0,w5,w8,_,_⟩:=hF (.inl (by rintro h;rw [h] at h1;simp at h1))
    exact pz d x m w0 w5 B7 (fun c7=>by
     unfold cd at he;rw [if_pos c7] at he
     exact (gS he).1) w8
   have wK:∀ m b,x.ks.length<=m->y.ks[m]? = some b->EvP prog 93 [.agg (jc d),.agg (aM y),.v (.int .i64 m)] (.agg (l9 (dn m))):=fun m b h1 h2=>by
    have au:=(gS h2).1;obtain ⟨w0,w5,w8,_,_⟩:=hF (.inr (by rintro h;rw [h] at h2;simp at h2));have h5:d.ag=5:=by omega
    have:=pz d y m (by omega) w5 B7 (by omega) (by omega)
    rwa [stpR,if_pos h5] at this
   have ES:∀ m a,y.ks.length<=m->x.ks[m]? = some a->EvP prog 93 [.agg (jc d),.agg (aM x),.v (.int .i64 m)] (.agg (l9 (dn m))):=fun m a h1 h2=>by
    have au:=(gS h2).1;obtain ⟨w0,w5,w8,_,_⟩:=hF (.inl (by rintro h;rw [h] at h2;simp at h2));have h5:d.ag=5:=by omega
    have:=pz d x m (by omega) w5 B7 (by omega) (by omega)
    rwa [stpR,if_pos h5] at this
   have gf:=fun s=>BU p s (by omega)
   have hD:∀ m a b e,x.ks[m]? = some a->y.ks[m]? = some b->cd d x.n m=some e->kidsD (dfK ND k) d x y p (m + 1)=kidsD (dfK ND k) d x y p m ++ dfK ND k a b e.to (p ++ [stpR d x m]):=fun m a b e h1 h2 h3=>by
    rw [kidsD,kidD,h1,h2,h3]
   have AJ:∀ m,(kidsD (dfK ND k) d x y p m).length<=aY (x.ks.take m) + aY (y.ks.take m):=fun m=>Aa ND k d x y p m;have QN:∀ e b,y.ks[x.ks.length + e]? = some b->(addC p (y.ks.drop x.ks.length) x.ks.length)[e]? = some ⟨2,p ++ [dn (x.ks.length + e)],none,some b⟩:=fun e b h=>xO p (by rw [List.getElem?_drop];exact h);have Xk:=qV p (y.ks.drop x.ks.length) x.ks.length
   have hG1:∀ t a,t < x.ks.length - y.ks.length->x.ks[x.ks.length - 1 - t]? = some a->(pw p (x.ks.drop y.ks.length) y.ks.length)[t]? = some ⟨3,p ++ [dn (x.ks.length - 1 - t)],some a,none⟩:=fun t a ht h=>by
    have hl:(x.ks.drop y.ks.length).length=x.ks.length - y.ks.length:=List.length_drop;have:=xP p (l:=x.ks.drop y.ks.length) (j:=y.ks.length) (t:=t) (x:=a) (by omega) (by rw [List.getElem?_drop,hl,show y.ks.length + (x.ks.length - y.ks.length - 1 - t)=x.ks.length - 1 - t by omega];exact h);rw [this,hl,show y.ks.length + (x.ks.length - y.ks.length - 1 - t)=x.ks.length - 1 - t by omega]
   have hG2:=nE p (x.ks.drop y.ks.length) y.ks.length;rw [List.length_drop] at Xk hG2;have hxc:dT x=1 + aY x.ks:=by obtain ⟨_,_,_,_⟩:=x;rfl
   have X1:dT y=1 + aY y.ks:=by obtain ⟨_,_,_,_⟩:=y;rfl
   have UJ:∀ m,aY (x.ks.take m) + aY (x.ks.drop m)=aY x.ks:=fp x.ks;have HI:∀ m,aY (y.ks.take m) + aY (y.ks.drop m)=aY y.ks:=fp y.ks;have hca:∀ m a,x.ks[m]? = some a->aY (x.ks.take (m + 1))=aY (x.ks.take m) + dT a:=fun m a h=>iV h;have M5:∀ m a,y.ks[m]? = some a->aY (y.ks.take (m + 1))=aY (y.ks.take m) + dT a:=fun m a h=>iV h;have HJ:=iL (x.ks.drop y.ks.length);have HK:=iL (y.ks.drop x.ks.length);rw [List.length_drop] at HJ HK;have QJ:x.wt=64 + x.s.size + aav x.ks:=by obtain ⟨_,_,_,_⟩:=x;rfl
   have hyw:y.wt=64 + y.s.size + aav y.ks:=by obtain ⟨_,_,_,_⟩:=y;rfl
   have jm:=dc x.ks;have tR:=dc y.ks;have cu:=bo x.ks;have tT:=bo y.ks;rw [hV];generalize hAA:addC p (y.ks.drop x.ks.length) x.ks.length=A at *;generalize hGG:pw p (x.ks.drop y.ks.length) y.ks.length=G at *;clear hV XV hcy QM hwy;rw [c] at QB;have VL:min x.ks.length y.ks.length<=x.ks.length/\min x.ks.length y.ks.length<=y.ks.length:=⟨Nat.min_le_left _ _,Nat.min_le_right _ _⟩;have hmc:min x.ks.length y.ks.length=x.ks.length∨(y.ks.length<=x.ks.length/\min x.ks.length y.ks.length=y.ks.length):=by omega
   have hmi:((min x.ks.length y.ks.length:Nat):Int)=min (x.ks.length:Int) (y.ks.length:Int):=by omega
   generalize min x.ks.length y.ks.length=m at *;have hcm1:=UJ m;have hcm2:=HI m;have hDm:=AJ m;have S7:kidsD (dfK ND k) d x y p 0=[]:=rfl;generalize kidsD (dfK ND k) d x y p=KD at *;obtain ⟨xk,xn,xs,xl⟩:=x;obtain ⟨yk,yn,ys,yl⟩:=y;obtain ⟨ag,aD,lo,hi,most,af,es⟩:=d;simp only [Val.k,Val.n,Val.s,Val.ks] at *;have uU:aJ O=aJ (O ++ KD 0):=by rw [S7,List.append_nil]
   have tD:aJ (O ++ KD m)=aJ (O ++ (KD m ++ A.take 0)):=by simp
   have hAm:m + A.length=yl.length:=by omega
   have hGm:m + G.length=xl.length:=by omega
   have S8:aJ (O ++ (KD m ++ A))=aJ (O ++ (KD m ++ A ++ G.take 0)):=by simp
   have Fa:IntKind.i64.wrap (((dVals xl).length:Int) - 1)=(xl.length:Int) - 1:=by rw [cu];exact wrap64 (by omega) (by omega)
   have hmd:min ((dVals xl).length:Int) ((dVals yl).length:Int)=(m:Int):=by rw [cu,tT,hmi]
   rcases p with _ | ⟨s0,p⟩
   ·refine eG 135 [] func40 rfl ntmps40 rfl fun _ _ _ _=>?_;refine cP VD QB ?_;refine cP va ey ?_
    refine av (fun t st=>∃ e q:Nat,st=LG (.mk uk un us ul) (.mk vk vn vs vl) PC (O ++ KD e) q (dP ([]:List bV)) (.mk xk xn xs xl) (.mk yk yn ys yl) ⟨ag,aD,lo,hi,most,af,es⟩ m e/\q=(O ++ KD e).length/\e<=m/\t=m - e) m
     (LG (.mk uk un us ul) (.mk vk vn vs vl) PC (O ++ KD 0) O.length (dP ([]:List bV)) (.mk xk xn xs xl) (.mk yk yn ys yl) ⟨ag,aD,lo,hi,most,af,es⟩ m 0) (az 6 rfl (wA2 uU hmd) rfl rfl rfl (dm uU hmd)) ⟨0,O.length,rfl,by rw [S7,List.append_nil],by omega,by omega⟩ ?_
    rintro t st ⟨e,q,rfl,rfl,he,rfl⟩;refine br ?_ ?_<;>intro eX
    ·have au:e < m:=sU eX;obtain ⟨a,ha⟩:∃ a,xl[e]? = some a:=⟨_,gE (by omega)⟩;obtain ⟨b,hb⟩:∃ b,yl[e]? = some b:=⟨_,gE (by omega)⟩;obtain ⟨ed,B6,hw1,kv⟩:=Qr e a b ha hb;have jz:=jz e a b ed ha hb B6;have aU:=aU e a b ed ha hb B6;have hD:=hD e a b ed ha hb B6;have gf:=gf (stpR ⟨ag,aD,lo,hi,most,af,es⟩ (.mk xk xn xs xl) e);have haw:=cE (mG ha);have uX:=cE (mG hb);have Xl:=AJ e;have Xm:=hca e a ha;have Xn:=M5 e b hb;have Xo:=UJ (e + 1);have Xp:=HI (e + 1);have jd:=ih a b (by omega) (by omega) (by omega) ed.to hw1 kv (([]:List bV) ++ [stpR ⟨ag,aD,lo,hi,most,af,es⟩ (.mk xk xn xs xl) e]) (O ++ KD e) (by rw [List.length_append];omega) (by simp only [List.length_append,List.length_cons,List.length_nil] at hp ⊢;omega);generalize stpR ⟨ag,aD,lo,hi,most,af,es⟩ (.mk xk xn xs xl) e=sr at *;generalize dfK ND k a b ed.to (([]:List bV) ++ [sr])=RR at jd hD;have eP:aJ (O ++ KD e ++ RR)=aJ (O ++ KD (e + 1)):=by rw [hD,List.append_assoc]
     have SI:(O ++ KD e ++ RR).length=(O ++ KD (e + 1)).length:=by rw [hD,List.append_assoc]
     obtain ⟨ak,an,UK,al⟩:=a;obtain ⟨bk,bn,bs,bl⟩:=b;refine aG (fun i=>Nat.beq i 21) mo (by decide +kernel) ?_;refine cD Y9 jz ?_;refine cD JY aU ?_;refine cD JX gf ?_;refine iX (bf ha) ?_;refine iX (bf hb) ?_;refine gh rfl ?_;refine fY 3 1 Vt rfl rfl rfl wC0 wC0 jd (fun r gI bU hΦ h1 h2=>?_);obtain ⟨rfl,rfl,rfl⟩:=hΦ;exact ⟨LG (.mk uk un us ul) (.mk vk vn vs vl) PC (O ++ KD (e + 1)) (O ++ KD e ++ RR).length (dP ([]:List bV)) (.mk xk xn xs xl) (.mk yk yn ys yl) ⟨ag,aD,lo,hi,most,af,es⟩ m (e + 1),(az 6 rfl (wA2 (nxt au (by omega)) eP) rfl rfl rfl (dm (nxt au (by omega)) eP)),m - (e + 1),by omega,e + 1,_,rfl,SI,by omega,rfl⟩
    ·have aN:m=e:=by have:=eX;simp at this;omega
     subst aN
     refine av (fun t st=>∃ e q:Nat,st=LH (.mk uk un us ul) (.mk vk vn vs vl) PC (O ++ (KD m ++ A.take e)) q (dP ([]:List bV)) (.mk xk xn xs xl) (.mk yk yn ys yl) ⟨ag,aD,lo,hi,most,af,es⟩ m (m + e)/\q=(O ++ (KD m ++ A.take e)).length/\e<=A.length/\t=A.length - e) A.length
      (LH (.mk uk un us ul) (.mk vk vn vs vl) PC (O ++ (KD m ++ A.take 0)) (O ++ KD m).length (dP ([]:List bV)) (.mk xk xn xs xl) (.mk yk yn ys yl) ⟨ag,aD,lo,hi,most,af,es⟩ m (m + 0)) (az 6 rfl (wA1 tD) rfl rfl rfl (wB1 tD)) ⟨0,_,rfl,by simp,by omega,by omega⟩ ?_
     rintro t st ⟨e,q,rfl,rfl,he,rfl⟩;refine br ?_ ?_<;>intro eX
     ·have au:m + e < yl.length:=by
       have h2:=eX;simp at h2;omega
      have eV:e < A.length:=by omega
      have rc:m=xl.length:=by omega
      rw [<- rc] at HK;obtain ⟨b,hb⟩:=gX au;have wK:=wK (m + e) b (by omega) hb;have gf:=gf (dn (m + e));have hA:=QN e b (by rw [<- rc];exact hb);rw [<- rc] at hA
      have eP:aJ (O ++ (KD m ++ A.take e)) ++ [nD ⟨2,([]:List bV) ++ [dn (m + e)],none,some b⟩]=aJ (O ++ (KD m ++ A.take (e + 1))):=by
       rw [eK,List.take_add_one,hA];simp
      have gq:=cV (O ++ (KD m ++ A.take e))
      have x4:(O ++ (KD m ++ A.take e)).length<=100000:=by
       simp only [List.length_append,List.length_take];omega
      have pA:(O ++ (KD m ++ A.take (e + 1))).length=(O ++ (KD m ++ A.take e)).length + 1:=by
       simp only [List.length_append,List.length_take];omega
      generalize dn (m + e)=sr at *;generalize A.take e=T1 at *;have eN:(aJ (O ++ (KD m ++ T1))).length + 1<=maxLen:=by rw [gq];simp only [maxLen];omega
      have dQ:((aJ (O ++ (KD m ++ T1))).length + 1) * 144<=140737488355328:=by rw [gq];omega
      obtain ⟨bk,bn,bs,bl⟩:=b;apply q5 (.op 0 (.op 1 (.op 2 (.op 3 (.op 4 (.op 5 (.op 6 (.op 7 (.op 8 (.op 11 (.op 12 (.op 13 (.op 14 (.op 15 (.ev 9 (.ev 10 (.op 16 (.ev 17 (.ev 18 (.op 19 (.op 20 (.ev 21 .fin .stop))) .stop) .stop)) .stop) .stop))))))))))))))) mo (by decide +kernel);·repeat' (first | refine cD JY wK ?_ | refine cD JX gf ?_ | refine iX (bf hb) ?_ | refine ⟨gq,⟨eN,dQ⟩,?_⟩ | exact trivial | exact Or.inl rfl | exact qY | refine ⟨?_,?_⟩)
      exact ⟨LH (.mk uk un us ul) (.mk vk vn vs vl) PC (O ++ (KD m ++ A.take (e + 1))) ((O ++ (KD m ++ T1)).length + 1) (dP ([]:List bV)) (.mk xk xn xs xl) (.mk yk yn ys yl) ⟨ag,aD,lo,hi,most,af,es⟩ m (m + (e + 1)),(az 6 rfl (wA2 (nxt au (by omega)) eP) rfl rfl rfl (dm (nxt au (by omega)) eP)),A.length - (e + 1),by omega,e + 1,_,rfl,pA.symm,by omega,rfl⟩
     ·have aN:e=A.length:=by
       have h2:=eX;simp at h2;omega
      subst aN;rw [List.take_length]
      refine av (fun t st=>∃ (e q:Nat) (z:Int),st=LI (.mk uk un us ul) (.mk vk vn vs vl) PC (O ++ (KD m ++ A ++ G.take e)) q (dP ([]:List bV)) (.mk xk xn xs xl) (.mk yk yn ys yl) ⟨ag,aD,lo,hi,most,af,es⟩ m z/\z=(xl.length:Int) - 1 - (e:Int)/\q=(O ++ (KD m ++ A ++ G.take e)).length/\e<=G.length/\t=G.length - e) G.length
       (LI (.mk uk un us ul) (.mk vk vn vs vl) PC (O ++ (KD m ++ A ++ G.take 0)) (O ++ (KD m ++ A)).length (dP ([]:List bV)) (.mk xk xn xs xl) (.mk yk yn ys yl) ⟨ag,aD,lo,hi,most,af,es⟩ m ((xl.length:Int) - 1)) (az 6 rfl (wA2 S8 Fa) rfl rfl rfl (dm S8 Fa)) ⟨0,_,_,rfl,by omega,by simp,by omega,by omega⟩ ?_
      rintro t st ⟨e,q,z,rfl,hz,rfl,he,rfl⟩;refine br ?_ ?_<;>intro eX
      ·have eX:(m:Int)<=z:=sU eX;have eV:e < G.length:=by omega
       have rc:m=yl.length:=by omega
       rw [<- rc] at HJ;obtain ⟨a,ha⟩:∃ a,xl[xl.length - 1 - e]? = some a:=⟨_,gE (by omega)⟩;have ES:=ES (xl.length - 1 - e) a (by omega) ha;have gf:=gf (dn (xl.length - 1 - e));have Qs:=hG1 e a (by omega) ha;obtain ⟨n,hn⟩:∃ n,n=xl.length - 1 - e:=⟨_,rfl⟩;obtain rfl:z=(n:Int):=by omega
       rw [<- hn] at ha ES gf Qs
       have eP:aJ (O ++ (KD m ++ A ++ G.take e)) ++ [nD ⟨3,([]:List bV) ++ [dn n],some a,none⟩]=aJ (O ++ (KD m ++ A ++ G.take (e + 1))):=by
        rw [eK,List.take_add_one,Qs];simp
       have gq:=cV (O ++ (KD m ++ A ++ G.take e))
       have x4:(O ++ (KD m ++ A ++ G.take e)).length<=100000:=by
        simp only [List.length_append,List.length_take];omega
       have pA:(O ++ (KD m ++ A ++ G.take (e + 1))).length=(O ++ (KD m ++ A ++ G.take e)).length + 1:=by
        simp only [List.length_append,List.length_take];omega
       have pV:IntKind.i64.wrap ((n:Int) - 1)=(n:Int) - 1:=wrap64 (by omega) (by omega);generalize dn n=sr at *;generalize G.take e=T1 at *;have eN:(aJ (O ++ (KD m ++ A ++ T1))).length + 1<=maxLen:=by rw [gq];simp only [maxLen];omega
       have dQ:((aJ (O ++ (KD m ++ A ++ T1))).length + 1) * 144<=140737488355328:=by rw [gq];omega
       have fV:n < xl.length:=by omega
       obtain ⟨ak,an,UK,al⟩:=a;apply q5 (.op 0 (.op 1 (.op 2 (.op 3 (.op 4 (.op 5 (.op 6 (.op 7 (.op 8 (.op 11 (.op 12 (.op 13 (.op 14 (.op 15 (.ev 9 (.ev 10 (.op 16 (.ev 17 (.ev 18 (.op 19 (.op 20 (.ev 21 .fin .stop))) .stop) .stop)) .stop) .stop))))))))))))))) mo (by decide +kernel);·repeat' (first | refine cD JY ES ?_ | refine cD JX gf ?_ | refine iX (bf ha) ?_ | refine ⟨gq,⟨eN,dQ⟩,?_⟩ | exact trivial | exact Or.inl rfl | exact qY | refine ⟨?_,?_⟩)
       exact ⟨LI (.mk uk un us ul) (.mk vk vn vs vl) PC (O ++ (KD m ++ A ++ G.take (e + 1))) ((O ++ (KD m ++ A ++ T1)).length + 1) (dP ([]:List bV)) (.mk xk xn xs xl) (.mk yk yn ys yl) ⟨ag,aD,lo,hi,most,af,es⟩ m ((n:Int) - 1),(az 6 rfl (wA2 pV eP) rfl rfl rfl (dm pV eP)),G.length - (e + 1),by omega,e + 1,_,_,rfl,by omega,pA.symm,by omega,rfl⟩
      ·have eX:z < (m:Int):=by
        have h2:=eX;simp at h2;omega
       have aN:e=G.length:=by omega
       subst aN;rw [List.take_length];exact ⟨_,[aM (.mk uk un us ul),aM (.mk vk vn vs vl),S6 PC (O ++ (KD m ++ A ++ G))],ax,wC0,rfl,rfl,rfl⟩
   ·refine eG 135 [] func40 rfl ntmps40 rfl fun _ _ _ _=>?_;refine cP VD QB ?_;refine cP va ey ?_
    refine av (fun t st=>∃ e q:Nat,st=LG (.mk uk un us ul) (.mk vk vn vs vl) PC (O ++ KD e) q (dP (s0 :: p)) (.mk xk xn xs xl) (.mk yk yn ys yl) ⟨ag,aD,lo,hi,most,af,es⟩ m e/\q=(O ++ KD e).length/\e<=m/\t=m - e) m
     (LG (.mk uk un us ul) (.mk vk vn vs vl) PC (O ++ KD 0) O.length (dP (s0 :: p)) (.mk xk xn xs xl) (.mk yk yn ys yl) ⟨ag,aD,lo,hi,most,af,es⟩ m 0) (az 6 rfl (wA2 uU hmd) rfl rfl rfl (dm uU hmd)) ⟨0,O.length,rfl,by rw [S7,List.append_nil],by omega,by omega⟩ ?_
    rintro t st ⟨e,q,rfl,rfl,he,rfl⟩;refine br ?_ ?_<;>intro eX
    ·have au:e < m:=sU eX;obtain ⟨a,ha⟩:∃ a,xl[e]? = some a:=⟨_,gE (by omega)⟩;obtain ⟨b,hb⟩:∃ b,yl[e]? = some b:=⟨_,gE (by omega)⟩;obtain ⟨ed,B6,hw1,kv⟩:=Qr e a b ha hb;have jz:=jz e a b ed ha hb B6;have aU:=aU e a b ed ha hb B6;have hD:=hD e a b ed ha hb B6;have gf:=gf (stpR ⟨ag,aD,lo,hi,most,af,es⟩ (.mk xk xn xs xl) e);have haw:=cE (mG ha);have uX:=cE (mG hb);have Xl:=AJ e;have Xm:=hca e a ha;have Xn:=M5 e b hb;have Xo:=UJ (e + 1);have Xp:=HI (e + 1);have jd:=ih a b (by omega) (by omega) (by omega) ed.to hw1 kv ((s0 :: p) ++ [stpR ⟨ag,aD,lo,hi,most,af,es⟩ (.mk xk xn xs xl) e]) (O ++ KD e) (by rw [List.length_append];omega) (by simp only [List.length_append,List.length_cons,List.length_nil] at hp ⊢;omega);generalize stpR ⟨ag,aD,lo,hi,most,af,es⟩ (.mk xk xn xs xl) e=sr at *;generalize dfK ND k a b ed.to ((s0 :: p) ++ [sr])=RR at jd hD;have eP:aJ (O ++ KD e ++ RR)=aJ (O ++ KD (e + 1)):=by rw [hD,List.append_assoc]
     have SI:(O ++ KD e ++ RR).length=(O ++ KD (e + 1)).length:=by rw [hD,List.append_assoc]
     obtain ⟨ak,an,UK,al⟩:=a;obtain ⟨bk,bn,bs,bl⟩:=b;refine aG (fun i=>Nat.beq i 21) mo (by decide +kernel) ?_;refine cD Y9 jz ?_;refine cD JY aU ?_;refine cD JX gf ?_;refine iX (bf ha) ?_;refine iX (bf hb) ?_;refine gh rfl ?_;refine fY 3 1 Vt rfl rfl rfl wC0 wC0 jd (fun r gI bU hΦ h1 h2=>?_);obtain ⟨rfl,rfl,rfl⟩:=hΦ;exact ⟨LG (.mk uk un us ul) (.mk vk vn vs vl) PC (O ++ KD (e + 1)) (O ++ KD e ++ RR).length (dP (s0 :: p)) (.mk xk xn xs xl) (.mk yk yn ys yl) ⟨ag,aD,lo,hi,most,af,es⟩ m (e + 1),(az 6 rfl (wA2 (nxt au (by omega)) eP) rfl rfl rfl (dm (nxt au (by omega)) eP)),m - (e + 1),by omega,e + 1,_,rfl,SI,by omega,rfl⟩
    ·have aN:m=e:=by have:=eX;simp at this;omega
     subst aN
     refine av (fun t st=>∃ e q:Nat,st=LH (.mk uk un us ul) (.mk vk vn vs vl) PC (O ++ (KD m ++ A.take e)) q (dP (s0 :: p)) (.mk xk xn xs xl) (.mk yk yn ys yl) ⟨ag,aD,lo,hi,most,af,es⟩ m (m + e)/\q=(O ++ (KD m ++ A.take e)).length/\e<=A.length/\t=A.length - e) A.length
      (LH (.mk uk un us ul) (.mk vk vn vs vl) PC (O ++ (KD m ++ A.take 0)) (O ++ KD m).length (dP (s0 :: p)) (.mk xk xn xs xl) (.mk yk yn ys yl) ⟨ag,aD,lo,hi,most,af,es⟩ m (m + 0)) (az 6 rfl (wA1 tD) rfl rfl rfl (wB1 tD)) ⟨0,_,rfl,by simp,by omega,by omega⟩ ?_
     rintro t st ⟨e,q,rfl,rfl,he,rfl⟩;refine br ?_ ?_<;>intro eX
     ·have au:m + e < yl.length:=by
       have h2:=eX;simp at h2;omega
      have eV:e < A.length:=by omega
      have rc:m=xl.length:=by omega
      rw [<- rc] at HK;obtain ⟨b,hb⟩:=gX au;have wK:=wK (m + e) b (by omega) hb;have gf:=gf (dn (m + e));have hA:=QN e b (by rw [<- rc];exact hb);rw [<- rc] at hA
      have eP:aJ (O ++ (KD m ++ A.take e)) ++ [nD ⟨2,(s0 :: p) ++ [dn (m + e)],none,some b⟩]=aJ (O ++ (KD m ++ A.take (e + 1))):=by
       rw [eK,List.take_add_one,hA];simp
      have gq:=cV (O ++ (KD m ++ A.take e))
      have x4:(O ++ (KD m ++ A.take e)).length<=100000:=by
       simp only [List.length_append,List.length_take];omega
      have pA:(O ++ (KD m ++ A.take (e + 1))).length=(O ++ (KD m ++ A.take e)).length + 1:=by
       simp only [List.length_append,List.length_take];omega
      generalize dn (m + e)=sr at *;generalize A.take e=T1 at *;have eN:(aJ (O ++ (KD m ++ T1))).length + 1<=maxLen:=by rw [gq];simp only [maxLen];omega
      have dQ:((aJ (O ++ (KD m ++ T1))).length + 1) * 144<=140737488355328:=by rw [gq];omega
      obtain ⟨bk,bn,bs,bl⟩:=b;apply q5 (.op 0 (.op 1 (.op 2 (.op 3 (.op 4 (.op 5 (.op 6 (.op 7 (.op 8 (.op 11 (.op 12 (.op 13 (.op 14 (.op 15 (.ev 9 (.ev 10 (.op 16 (.ev 17 (.ev 18 (.op 19 (.op 20 (.ev 21 .fin .stop))) .stop) .stop)) .stop) .stop))))))))))))))) mo (by decide +kernel);·repeat' (first | refine cD JY wK ?_ | refine cD JX gf ?_ | refine iX (bf hb) ?_ | refine ⟨gq,⟨eN,dQ⟩,?_⟩ | exact trivial | exact Or.inl rfl | exact qY | refine ⟨?_,?_⟩)
      exact ⟨LH (.mk uk un us ul) (.mk vk vn vs vl) PC (O ++ (KD m ++ A.take (e + 1))) ((O ++ (KD m ++ T1)).length + 1) (dP (s0 :: p)) (.mk xk xn xs xl) (.mk yk yn ys yl) ⟨ag,aD,lo,hi,most,af,es⟩ m (m + (e + 1)),(az 6 rfl (wA2 (nxt au (by omega)) eP) rfl rfl rfl (dm (nxt au (by omega)) eP)),A.length - (e + 1),by omega,e + 1,_,rfl,pA.symm,by omega,rfl⟩
     ·have aN:e=A.length:=by
       have h2:=eX;simp at h2;omega
      subst aN;rw [List.take_length]
      refine av (fun t st=>∃ (e q:Nat) (z:Int),st=LI (.mk uk un us ul) (.mk vk vn vs vl) PC (O ++ (KD m ++ A ++ G.take e)) q (dP (s0 :: p)) (.mk xk xn xs xl) (.mk yk yn ys yl) ⟨ag,aD,lo,hi,most,af,es⟩ m z/\z=(xl.length:Int) - 1 - (e:Int)/\q=(O ++ (KD m ++ A ++ G.take e)).length/\e<=G.length/\t=G.length - e) G.length
       (LI (.mk uk un us ul) (.mk vk vn vs vl) PC (O ++ (KD m ++ A ++ G.take 0)) (O ++ (KD m ++ A)).length (dP (s0 :: p)) (.mk xk xn xs xl) (.mk yk yn ys yl) ⟨ag,aD,lo,hi,most,af,es⟩ m ((xl.length:Int) - 1)) (az 6 rfl (wA2 S8 Fa) rfl rfl rfl (dm S8 Fa)) ⟨0,_,_,rfl,by omega,by simp,by omega,by omega⟩ ?_
      rintro t st ⟨e,q,z,rfl,hz,rfl,he,rfl⟩;refine br ?_ ?_<;>intro eX
      ·have eX:(m:Int)<=z:=sU eX;have eV:e < G.length:=by omega
       have rc:m=yl.length:=by omega
       rw [<- rc] at HJ;obtain ⟨a,ha⟩:∃ a,xl[xl.length - 1 - e]? = some a:=⟨_,gE (by omega)⟩;have ES:=ES (xl.length - 1 - e) a (by omega) ha;have gf:=gf (dn (xl.length - 1 - e));have Qs:=hG1 e a (by omega) ha;obtain ⟨n,hn⟩:∃ n,n=xl.length - 1 - e:=⟨_,rfl⟩;obtain rfl:z=(n:Int):=by omega
       rw [<- hn] at ha ES gf Qs
       have eP:aJ (O ++ (KD m ++ A ++ G.take e)) ++ [nD ⟨3,(s0 :: p) ++ [dn n],some a,none⟩]=aJ (O ++ (KD m ++ A ++ G.take (e + 1))):=by
        rw [eK,List.take_add_one,Qs];simp
       have gq:=cV (O ++ (KD m ++ A ++ G.take e))
       have x4:(O ++ (KD m ++ A ++ G.take e)).length<=100000:=by
        simp only [List.length_append,List.length_take];omega
       have pA:(O ++ (KD m ++ A ++ G.take (e + 1))).length=(O ++ (KD m ++ A ++ G.take e)).length + 1:=by
        simp only [List.length_append,List.length_take];omega
       have pV:IntKind.i64.wrap ((n:Int) - 1)=(n:Int) - 1:=wrap64 (by omega) (by omega);generalize dn n=sr at *;generalize G.take e=T1 at *;have eN:(aJ (O ++ (KD m ++ A ++ T1))).length + 1<=maxLen:=by rw [gq];simp only [maxLen];omega
       have dQ:((aJ (O ++ (KD m ++ A ++ T1))).length + 1) * 144<=140737488355328:=by rw [gq];omega
       have fV:n < xl.length:=by omega
       obtain ⟨ak,an,UK,al⟩:=a;apply q5 (.op 0 (.op 1 (.op 2 (.op 3 (.op 4 (.op 5 (.op 6 (.op 7 (.op 8 (.op 11 (.op 12 (.op 13 (.op 14 (.op 15 (.ev 9 (.ev 10 (.op 16 (.ev 17 (.ev 18 (.op 19 (.op 20 (.ev 21 .fin .stop))) .stop) .stop)) .stop) .stop))))))))))))))) mo (by decide +kernel);·repeat' (first | refine cD JY ES ?_ | refine cD JX gf ?_ | refine iX (bf ha) ?_ | refine ⟨gq,⟨eN,dQ⟩,?_⟩ | exact trivial | exact Or.inl rfl | exact qY | refine ⟨?_,?_⟩)
       exact ⟨LI (.mk uk un us ul) (.mk vk vn vs vl) PC (O ++ (KD m ++ A ++ G.take (e + 1))) ((O ++ (KD m ++ A ++ T1)).length + 1) (dP (s0 :: p)) (.mk xk xn xs xl) (.mk yk yn ys yl) ⟨ag,aD,lo,hi,most,af,es⟩ m ((n:Int) - 1),(az 6 rfl (wA2 pV eP) rfl rfl rfl (dm pV eP)),G.length - (e + 1),by omega,e + 1,_,_,rfl,by omega,pA.symm,by omega,rfl⟩
      ·have eX:z < (m:Int):=by
        have h2:=eX;simp at h2;omega
       have aN:e=G.length:=by omega
       subst aN;rw [List.take_length];exact ⟨_,[aM (.mk uk un us ul),aM (.mk vk vn vs vl),S6 PC (O ++ (KD m ++ A ++ G))],ax,wC0,rfl,rfl,rfl⟩
  ·have hV:dfK ND (k + 1) x y i p=[⟨1,p,some x,some y⟩]:=by rw [dfK,if_neg c]
   have c:qU x y=false:=sU c;rw [c] at QB;rw [hV];have fu:=eK O ⟨1,p,some x,some y⟩;have hln:(O ++ [(⟨1,p,some x,some y⟩:oH)]).length=O.length + 1:=by simp
   obtain ⟨xk,xn,xs,xl⟩:=x;obtain ⟨yk,yn,ys,yl⟩:=y;have hx1:1<=dT (.mk xk xn xs xl):=by rw [dT];omega
   rcases p with _ | ⟨s0,p⟩
   all_goals
    refine eG 135 [] func40 rfl ntmps40 rfl fun _ _ _ _=>?_;refine cP VD QB ?_;refine dS ?_;refine ⟨hOl,⟨by rw [hOl];simp [maxLen];omega,by rw [hOl];simp;omega⟩,?_⟩;exact ⟨_,[aM (.mk uk un us ul),aM (.mk vk vn vs vl),S6 PC (O ++ [_])],ax,(by repeat' (first | exact rfl | exact trivial | exact Or.inr (Or.inl ⟨_,rfl⟩) | exact Or.inr ⟨_,rfl⟩ | exact Or.inl ⟨rfl,rfl⟩ | exact Or.inl rfl | refine Or.inr ⟨_,_,rfl,Nat.zero_le _,rfl,?_⟩ | refine ⟨_,_,rfl,?_,?_⟩ | refine ⟨_,rfl,?_⟩ | exact ⟨nL rfl,rfl⟩ | exact ⟨nL rfl,(congrArg (fun l=>DV.sl 10 l _) fu).symm⟩ | exact ⟨nL rfl,congrArg (fun l=>DV.sl 10 l _) fu⟩ | refine Or.inr (Or.inr (Or.inr ⟨_,_,rfl,?_⟩)) | exact Or.inl rfl | refine Or.inr ?_)),rfl,rfl,by simp [Xj,hOl]⟩
namespace Dv
theorem Qt {X:Ctx} {id:Nat} {ops:Array Oper} {k:List It} {st:St} (st':St) (hw:Ay X.n0 X.m0 st st') (h:pL X id ops k st'):pL X id ops k st:=fun E a w hr=>by
 obtain ⟨E',h'⟩:=Wk.RE hw E a w hr;exact h E' a w h'
end Dv
theorem Ah {S:Sch} {ND:List Nd} {PC:List DV} (hP:fN S ND PC) (bJ:∀ n∈ND,n.aw.length<=1099511627776) (rt:Nat) (BM:dW S=rt) (x y:Val) (hx:x.wt<=1099511627776) (hy:y.wt<=1099511627776) (S1:dT x + dT y<=10000) (o:Int) (B1 B2:Bool)
  (E7:EvP prog 39 [.pt PC 0,.v (.int .i64 o),.agg (aM x)] (.v (.bool B1))) (ua:EvP prog 39 [.pt PC 0,.v (.int .i64 o),.agg (aM y)] (.v (.bool B2))) (hw1:B1=true->iI ND x (rt:Nat)=true) (kv:B2=true->iI ND y (rt:Nat)=true) :
  EvP prog 10 [.pt PC 0,.v (.int .i64 o),.agg (aM x),.agg (aM y)] (.tup [.sl 10 (aJ (if (B1 && B2)=true then dfK ND x.wt x y (rt:Nat) [] else [])) none,.v (.bool (B1 && B2))]):=by
 have gV:=hP.root;rw [BM] at gV;have ho1:=sB x.wt x (Nat.le_refl _) hx;have ho2:=sB y.wt y (Nat.le_refl _) hy;have mw:=fun h1 h2=>ER hP bJ x y x.wt x y (Nat.le_refl _) hx hy (rt:Nat) (hw1 h1) (kv h2) [] [] (by simp;omega) (by simp;omega);simp only [List.nil_append,List.length_nil] at mw;generalize dfK ND x.wt x y (rt:Nat) []=L at *;obtain ⟨xk,xn,xs,xl⟩:=x;obtain ⟨yk,yn,ys,yl⟩:=y
 cases B1 with
 | false=>
  refine eG 38 [.tmp 8,.tmp 9] func10 rfl ntmps10 rfl fun _ _ _ _=>?_;refine cP JU E7 ?_;exact ⟨_,ax,rfl⟩
 | true=>
  cases B2 with
  | false=>
   refine eG 38 [.tmp 8,.tmp 9] func10 rfl ntmps10 rfl fun _ _ _ _=>?_;refine cP JU E7 ?_;refine cP JU ua ?_;exact ⟨_,ax,rfl⟩
  | true=>
   have mw:=mw rfl rfl;refine eG 38 [.tmp 8,.tmp 9] func10 rfl ntmps10 rfl fun _ _ _ _=>?_;refine cP JU E7 ?_;refine cP JU ua ?_;refine Dv.Qt ⟨[(0,⟨[],.pt PC 0⟩),(6,⟨[],.loc 0 0⟩),(7,⟨[],.loc 1 0⟩),(10,⟨[],.loc 2 0⟩)],[aM (.mk xk xn xs xl),aM (.mk yk yn ys yl),S6 PC []],[Xj 0]⟩ (dG 3 ⟨0,60,10,none⟩ rfl rfl rfl wA0 rfl rfl wB0) ?_;refine aG (fun i=>Nat.beq i 7) mo (by decide +kernel) ?_;refine cD Vu gV ?_;refine cD Vv ho1 ?_;refine cD Vv ho2 ?_;refine gh rfl ?_;refine fY 3 1 Vt rfl rfl rfl wC0 wC0 mw (fun r gI bU hΦ h1 h2=>?_);obtain ⟨rfl,rfl,rfl⟩:=hΦ;exact ⟨_,ax,rfl⟩
def re:Sch:=⟨[⟨⟨#[97]⟩,0⟩],[],[],.mk ⟨5,0,0,0,4,[],⟨aq,0⟩⟩ (.cons ⟨⟨aq,0⟩,false,[],0,0,0,0,[]⟩ (.mk ⟨2,0,0,9,0,[],⟨aq,0⟩⟩ .nil) .nil)⟩
abbrev vI (n:Int):Val:=.mk 2 n aq []
def exX:Val:=.mk 5 0 aq [vI 1,vI 2]
def exY:Val:=.mk 5 0 aq [vI 3]
def tU:Nd:=⟨2,0,0,9,0,[],[]⟩
theorem LJ {S:Sch} {ND:List Nd} {PC:List DV} (hP:fN S ND PC) (j:Nat) (hd:ND[j]? = some tU) (n:Int):EvP prog 164 [.pt PC 0,.v (.int .i64 j),.agg (aM (vI n))] (.v (.bool true)):=by
 have ey:=hP.aj j tU hd;have hpl:EvP prog 196 [.agg (aM (vI n))] (.v (.bool true)):=qS (vI n);refine eG 159 [.tmp 6] func164 rfl ntmps164 rfl fun _ _ _ _=>?_;refine cP va ey ?_;refine cP MT hpl ?_;exact (rfl:_=_)
theorem HL {S:Sch} {ND:List Nd} {PC:List DV} (hP:fN S ND PC) (j:Nat) (hd:ND[j]? = some tU):EvP prog 164 [.pt PC 0,.v (.int .i64 j),.agg (vD none)] (.v (.bool false)):=by
 have ey:=hP.aj j tU hd;refine eG 159 [.tmp 6] func164 rfl ntmps164 rfl fun _ _ _ _=>?_;refine cP va ey ?_;exact (rfl:_=_)
theorem sC {S:Sch} {ND:List Nd} {PC:List DV} (hP:fN S ND PC) (j:Nat) (hd:ND[j]? = some tU) (n:Int) (hn:rK n):EvP prog 117 [.pt PC 0,.v (.int .i64 j),.agg (aM (vI n))] (.v (.string (ba (gO n)))):=by
 have ha:=LJ hP j hd n
 have hnd:cS ND (j:Int)=some tU:=by
  unfold cS;rw [if_neg (by omega),Int.toNat_natCast,hd]
 have hw:iI ND (vI n) (j:Nat)=true:=by
  rw [iI,hnd];rfl
 have hrx:rngW (vI n):=by
  rw [rngW];exact ⟨by unfold rK;omega,hn,by rw [rngWs];trivial⟩
 have hT:textV ND (vI n) (j:Nat)=gO n:=by
  rw [textV,hnd];simp [fO,tU,nz,textVs,ez,cw,ny,Val.k,Val.ks,Val.n]
 have aT:=Qf hP.ok hrx hw;have KF:=fun p hp=>qX hP (vI n) (vI n).wt (vI n) (Nat.le_refl _) (by rw [Val.wt];decide) hrx (j:Nat) hw [] p hp (by rw [List.length_nil,Val.wt];decide);simp only [List.nil_append] at KF;rw [hT] at KF aT;generalize gO n=T at *;refine abe (s:=false) (bt:=[(1,135)]) (hbt:=fun p hp=>Nat.zero_le _) (P:=prog) tt aaP 5000 18 [.tmp 6] func117 rfl ntmps117 rfl (nL rfl) (fun _ _ _ _=>?_);refine cP TC ha ?_;refine D8 ⟨0,5,1,none⟩ ⟨[(7,⟨[],.loc 1 0⟩)],[aM (vI n),[.v (.pointer none),.sl 1 [] (some 0)]],[⟨0,5,1,none⟩]⟩ rfl ?_ rfl ?_ ⟨⟨_,rfl,ah rfl⟩,trivial⟩ rfl rfl ?_
 ·repeat' (first | exact rfl | exact ah rfl | refine ⟨_,_,rfl,?_,?_⟩)
 ·repeat' (first | exact rfl | exact ah rfl | exact bp (Nat.le_refl _) rfl | refine ⟨_,_,rfl,?_,?_⟩)
 refine mZ 2 1 CG rfl rfl rfl wC0 wC0 (KF (.v (.pointer none)) (.inl rfl)) (fun r gI bU hΦ h1 h2=>?_);obtain ⟨rfl,rfl,rfl⟩:=hΦ;refine uF rfl (kt:=0) (l:=T) (.head _) rfl aT rfl rfl rfl rfl ?_;exact (rfl:_=_)
theorem HM {S:Sch} {ND:List Nd} {PC:List DV} (hP:fN S ND PC) (j:Nat) (hd:ND[j]? = some tU):EvP prog 117 [.pt PC 0,.v (.int .i64 j),.agg (vD none)] (.v (.string aq)):=by
 have ha:=HL hP j hd;refine abe (s:=false) (bt:=[(1,135)]) (hbt:=fun p hp=>Nat.zero_le _) (P:=prog) tt aaP 5000 18 [.tmp 6] func117 rfl ntmps117 rfl (nL rfl) (fun _ _ _ _=>?_);refine cP TC ha ?_;exact (rfl:_=_)
def QO:List UInt8:=[126,32,91,48,93,58,32,49,32,45,62,32,51,10]
def X9:List UInt8:=[45,32,91,49,93,58,32,50,10]
theorem line39_1 {S:Sch} {ND:List Nd} {PC:List DV} (hP:fN S ND PC) (hd:ND[1]? = some tU) (Mu:EvP prog 116 [.pt PC 0,.sl 3 (ch [dn 0]) none] (EJ (some (1,0)))) :
  EvP prog 59 [.pt PC 0,.agg (nD ⟨1,[dn 0],some (vI 1),some (vI 3)⟩)] (.v (.string (ba QO))):=by
 have h1:=sC hP 1 hd 1 (by unfold rK;omega);have h3:=sC hP 1 hd 3 (by unfold rK;omega);rw [show gO 1=[49] by decide +kernel] at h1;rw [show gO 3=[51] by decide +kernel] at h3
 have hp:=zY [dn 0] (fun s h=>by
  simp only [List.mem_singleton] at h;subst h
  exact ⟨by simp [dn],Nat.zero_le _⟩)
 rw [show xJ [dn 0]=[91,48,93] by decide +kernel] at hp;refine eG 92 [.tmp 4] func59 rfl ntmps59 rfl fun _ _ _ _=>?_;refine cP Tm Mu ?_;refine dI ?_;refine cD Im h1 ?_;refine cD Im h3 ?_;refine cP Tn hp ?_
 repeat' (first | exact (rfl:_=_) | exact nL rfl | refine ⟨?_,?_⟩)
theorem line39_2 {S:Sch} {ND:List Nd} {PC:List DV} (hP:fN S ND PC) (hd:ND[1]? = some tU) (Mu:EvP prog 116 [.pt PC 0,.sl 3 (ch [dn 1]) none] (EJ (some (1,0)))) :
  EvP prog 59 [.pt PC 0,.agg (nD ⟨3,[dn 1],some (vI 2),none⟩)] (.v (.string (ba X9))):=by
 have h1:=sC hP 1 hd 2 (by unfold rK;omega);have h3:=HM hP 1 hd;rw [show gO 2=[50] by decide +kernel] at h1
 have hp:=zY [dn 1] (fun s h=>by
  simp only [List.mem_singleton] at h;subst h
  exact ⟨by simp [dn],Nat.zero_le _⟩)
 rw [show xJ [dn 1]=[91,49,93] by decide +kernel] at hp;refine eG 92 [.tmp 4] func59 rfl ntmps59 rfl fun _ _ _ _=>?_;refine cP Tm Mu ?_;refine dI ?_;refine cD Im h1 ?_;refine cD Im h3 ?_;refine cP Tn hp ?_
 repeat' (first | exact (rfl:_=_) | exact nL rfl | refine ⟨?_,?_⟩)
abbrev cT (n:Nat):TkE:=⟨n,58,10,none⟩
abbrev LK (W:List DV) (i:Int) (O:List oH) (q:Nat) (P:DV) (x y:Val) (e:Nat):St:=
 ⟨[(1,⟨[],.v (.int .i64 i)⟩),(2,⟨[],P⟩),(5,⟨[],.loc 0 0⟩),(8,⟨[],.loc 1 0⟩),(9,⟨[],.loc 2 0⟩),(12,⟨[],.sl 10 (aJ O) (some 0)⟩),(13,⟨[],.v (.int .i64 e)⟩)],[W,aM x,aM y],[cT q]⟩
abbrev LL (W:List DV) (O:List oH) (q:Nat) (P:DV) (x y:Val) (e:Nat):St:=
 ⟨[(2,⟨[],P⟩),(8,⟨[],.loc 1 0⟩),(9,⟨[],.loc 2 0⟩),(12,⟨[],.sl 10 (aJ O) (some 0)⟩),(15,⟨[],.v (.int .i64 e)⟩)],[W,aM x,aM y],[cT q]⟩
abbrev LM (W:List DV) (O:List oH) (q:Nat) (P:DV) (x y:Val) (e:Int):St:=
 ⟨[(2,⟨[],P⟩),(8,⟨[],.loc 1 0⟩),(9,⟨[],.loc 2 0⟩),(12,⟨[],.sl 10 (aJ O) (some 0)⟩),(16,⟨[],.v (.int .i64 e)⟩)],[W,aM x,aM y],[cT q]⟩
set_option maxHeartbeats 4000000 in
theorem xZ (lv:List Wd) (f:Nat->Nat->Bool) (ND:List Nd) (z:Int) {L:Nat} (bS:∀ n∈ND,dB L ND.length n) (bJ:∀ n∈ND,n.aw.length<=1099511627776):∀ (k:Nat) (x y:Val),x.wt<=k->x.wt<=1099511627776->y.wt<=1099511627776->∀ i:Int,iI ND x i=true->iI ND y i=true ->
  ∀ (p:List bV),dT x + dT y<=100000->p.length + dT x<=100000 ->
  EvP prog 12 [.agg (wL lv f ND z),.v (.int .i64 i),dP p,.agg (aM x),.agg (aM y)] (.sl 10 (aJ (dfK ND k x y i p)) none)
 | 0,x,_,h,_,_=>by have:=x.dh;omega
 | k + 1,x,y,h,jL,tA=>fun i QM hwy p hO hp=>by
  have ih:=xZ lv f ND z bS bJ k;by_cases c:qU x y=true
  ·obtain ⟨nk,nn,ns,nl⟩:=Qq c;obtain ⟨d,hd,XV⟩:=jX QM;obtain ⟨d',ra,hcy⟩:=jX hwy;rw [hd] at ra;cases ra;obtain ⟨h0,hg⟩:=dt hd;obtain ⟨j,rfl⟩:∃ j:Nat,i=j:=⟨i.toNat,by omega⟩;have hg:ND[j]? = some d:=sU hg;have mj:=mG hg;have hN:=bS d mj;have jk:=bJ d mj;have B7:=hN.k8;have hV:dfK ND (k + 1) x y j p=kidsD (dfK ND k) d x y p (min x.ks.length y.ks.length) ++ addC p (y.ks.drop x.ks.length) x.ks.length ++ pw p (x.ks.drop y.ks.length) y.ks.length:=by rw [dfK,if_pos c,hd]
   have hF:x.ks ≠ []∨y.ks ≠ []->x.k=d.ag/\5<=d.ag/\(d.ag=8->0<=x.n/\x.n < d.aw.length)/\fQ ND x.ks d x.n 0=true/\fQ ND y.ks d x.n 0=true:=fun aT=>by
    rcases XV with h1 | h1 | h1<;>rcases hcy with h2 | h2 | h2
    ·exact absurd aT (by simp [h1.2.2,h2.2.2])
    ·exact absurd aT (by simp [h1.2.2,h2.2.2.1])
    ·omega
    ·exact absurd aT (by simp [h1.2.2.1,h2.2.2])
    ·exact absurd aT (by simp [h1.2.2.1,h2.2.2.1])
    ·omega
    ·omega
    ·omega
    ·exact ⟨h1.1,h1.2.1,fun c=>shell_8 h1.2.2.1 c,h1.2.2.2,by rw [nn];exact h2.2.2.2⟩
   have Qr:∀ m a b,x.ks[m]? = some a->y.ks[m]? = some b->∃ e,cd d x.n m=some e/\iI ND a e.to=true/\iI ND b e.to=true:=fun m a b h1 h2=>by
    obtain ⟨_,_,_,w1,w2⟩:=hF (.inl (by rintro h;rw [h] at h1;simp at h1));obtain ⟨e,e1,e2⟩:=lj w1 h1;obtain ⟨e',e3,e4⟩:=lj w2 h2;rw [Nat.zero_add] at e1 e3;rw [e1] at e3;cases e3;exact ⟨e,e1,e2,e4⟩
   have jz:∀ m a b e,x.ks[m]? = some a->y.ks[m]? = some b->cd d x.n m=some e->EvP prog 45 [.agg (jc d),.agg (aM x),.v (.int .i64 m)] (.agg (tP e)):=fun m a b e h1 h2 he=>by
    obtain ⟨w0,_,w8,_,_⟩:=hF (.inl (by rintro h;rw [h] at h1;simp at h1));exact tq d x m e he w8 jk
   have aU:∀ m a b e,x.ks[m]? = some a->y.ks[m]? = some b->cd d x.n m=some e->EvP prog 47 [.agg (jc d),.agg (aM x),.v (.int .i64 m)] (.agg (l9 (stpR d x m))):=fun m a b e h1 h2 he=>by
    obtain ⟨w0,w5,w8,_,_⟩:=hF (.inl (by rintro h;rw [h] at h1;simp at h1))
    exact Ei d x m (fun c7=>by
     unfold cd at he;rw [if_pos c7] at he
     exact (gS he).1) (fun c5 c6 c7=>w8 (by omega))
   have gf:=fun s=>EO p s (by omega)
   have hD:∀ m a b e,x.ks[m]? = some a->y.ks[m]? = some b->cd d x.n m=some e->kidsD (dfK ND k) d x y p (m + 1)=kidsD (dfK ND k) d x y p m ++ dfK ND k a b e.to (p ++ [stpR d x m]):=fun m a b e h1 h2 h3=>by
    rw [kidsD,kidD,h1,h2,h3]
   have AJ:∀ m,(kidsD (dfK ND k) d x y p m).length<=aY (x.ks.take m) + aY (y.ks.take m):=fun m=>Aa ND k d x y p m;have QN:∀ e b,y.ks[x.ks.length + e]? = some b->(addC p (y.ks.drop x.ks.length) x.ks.length)[e]? = some ⟨2,p ++ [dn (x.ks.length + e)],none,some b⟩:=fun e b h=>xO p (by rw [List.getElem?_drop];exact h);have Xk:=qV p (y.ks.drop x.ks.length) x.ks.length
   have hG1:∀ t a,t < x.ks.length - y.ks.length->x.ks[x.ks.length - 1 - t]? = some a->(pw p (x.ks.drop y.ks.length) y.ks.length)[t]? = some ⟨3,p ++ [dn (x.ks.length - 1 - t)],some a,none⟩:=fun t a ht h=>by
    have hl:(x.ks.drop y.ks.length).length=x.ks.length - y.ks.length:=List.length_drop;have:=xP p (l:=x.ks.drop y.ks.length) (j:=y.ks.length) (t:=t) (x:=a) (by omega) (by rw [List.getElem?_drop,hl,show y.ks.length + (x.ks.length - y.ks.length - 1 - t)=x.ks.length - 1 - t by omega];exact h);rw [this,hl,show y.ks.length + (x.ks.length - y.ks.length - 1 - t)=x.ks.length - 1 - t by omega]
   have hG2:=nE p (x.ks.drop y.ks.length) y.ks.length;rw [List.length_drop] at Xk hG2;have hxc:dT x=1 + aY x.ks:=by obtain ⟨_,_,_,_⟩:=x;rfl
   have X1:dT y=1 + aY y.ks:=by obtain ⟨_,_,_,_⟩:=y;rfl
   have UJ:∀ m,aY (x.ks.take m) + aY (x.ks.drop m)=aY x.ks:=fp x.ks;have HI:∀ m,aY (y.ks.take m) + aY (y.ks.drop m)=aY y.ks:=fp y.ks;have hca:∀ m a,x.ks[m]? = some a->aY (x.ks.take (m + 1))=aY (x.ks.take m) + dT a:=fun m a h=>iV h;have M5:∀ m a,y.ks[m]? = some a->aY (y.ks.take (m + 1))=aY (y.ks.take m) + dT a:=fun m a h=>iV h;have HJ:=iL (x.ks.drop y.ks.length);have HK:=iL (y.ks.drop x.ks.length);rw [List.length_drop] at HJ HK;have QJ:x.wt=64 + x.s.size + aav x.ks:=by obtain ⟨_,_,_,_⟩:=x;rfl
   have hyw:y.wt=64 + y.s.size + aav y.ks:=by obtain ⟨_,_,_,_⟩:=y;rfl
   have jm:=dc x.ks;have tR:=dc y.ks;have cu:=bo x.ks;have tT:=bo y.ks;rw [hV];generalize hAA:addC p (y.ks.drop x.ks.length) x.ks.length=A at *;generalize hGG:pw p (x.ks.drop y.ks.length) y.ks.length=G at *;clear hV XV hcy QM hwy;have VL:min x.ks.length y.ks.length<=x.ks.length/\min x.ks.length y.ks.length<=y.ks.length:=⟨Nat.min_le_left _ _,Nat.min_le_right _ _⟩;have hmc:min x.ks.length y.ks.length=x.ks.length∨(y.ks.length<=x.ks.length/\min x.ks.length y.ks.length=y.ks.length):=by omega
   have hmi:((min x.ks.length y.ks.length:Nat):Int)=min (x.ks.length:Int) (y.ks.length:Int):=by omega
   generalize min x.ks.length y.ks.length=m at *;have hcm1:=UJ m;have hcm2:=HI m;have hDm:=AJ m;have S7:kidsD (dfK ND k) d x y p 0=[]:=rfl;generalize kidsD (dfK ND k) d x y p=KD at *;obtain ⟨xk,xn,xs,xl⟩:=x;obtain ⟨yk,yn,ys,yl⟩:=y;obtain ⟨ag,aD,lo,hi,most,af,es⟩:=d;simp only [Val.k,Val.n,Val.s,Val.ks] at *;have uU:aJ []=aJ (KD 0):=by rw [S7]
   have tD:aJ (KD m)=aJ (KD m ++ A.take 0):=by simp
   have hAm:m + A.length=yl.length:=by omega
   have hGm:m + G.length=xl.length:=by omega
   have S8:aJ (KD m ++ A)=aJ (KD m ++ A ++ G.take 0):=by simp
   have Fa:IntKind.i64.wrap (((dVals xl).length:Int) - 1)=(xl.length:Int) - 1:=by rw [cu];exact wrap64 (by omega) (by omega)
   have hmd:min ((dVals xl).length:Int) ((dVals yl).length:Int)=(m:Int):=by rw [cu,tT,hmi]
   have UF:((dVals xl).length:Int)=((xl.length + 0:Nat):Int):=by omega
   have pQ:xk=yk/\xn=yn/\xs=ys/\(xl.length=yl.length∨xk=5):=⟨nk,nn,ns,nl⟩;rcases p with _ | ⟨s0,p⟩
   ·refine eG 154 [.tmp 10] func12 rfl ntmps12 rfl fun _ _ _ _=>?_
    refine br (fun g=>absurd g (by
     obtain ⟨n1,n2,n3,n4⟩:=pQ;simp [pickB_and,ap,cu,tT,n1,n2,n3];intro h5;rcases n4 with n4 | n4
     ·omega
     ·omega)) (fun _=>?_)
    refine av (fun t st=>∃ e q:Nat,st=LK (wL lv f ND z) j (KD e) q (dP ([]:List bV)) (.mk xk xn xs xl) (.mk yk yn ys yl) e/\q=(KD e).length/\e<=m/\t=m - e) m
     (LK (wL lv f ND z) j [] 0 (dP ([]:List bV)) (.mk xk xn xs xl) (.mk yk yn ys yl) 0) (dX ⟨0,58,10,none⟩ rfl ⟨_,rfl⟩ rfl wA rfl rfl wB0) ⟨0,0,by rw [S7],by rw [S7];rfl,by omega,by omega⟩ ?_
    rintro t st ⟨e,q,rfl,rfl,he,rfl⟩;refine br ?_ ?_<;>intro eX
    ·have au:e < m:=by
      have h2:=eX;simp [pickB_and] at h2;omega
     obtain ⟨a,ha⟩:∃ a,xl[e]? = some a:=⟨_,gE (by omega)⟩;obtain ⟨b,hb⟩:∃ b,yl[e]? = some b:=⟨_,gE (by omega)⟩;obtain ⟨ed,B6,hw1,kv⟩:=Qr e a b ha hb;have jz:=jz e a b ed ha hb B6;have aU:=aU e a b ed ha hb B6;have hD:=hD e a b ed ha hb B6;have gf:=gf (stpR ⟨ag,aD,lo,hi,most,af,es⟩ (.mk xk xn xs xl) e);have haw:=cE (mG ha);have uX:=cE (mG hb);have Xl:=AJ e;have Xm:=hca e a ha;have Xn:=M5 e b hb;have Xo:=UJ (e + 1);have Xp:=HI (e + 1);have jd:=ih a b (by omega) (by omega) (by omega) ed.to hw1 kv (([]:List bV) ++ [stpR ⟨ag,aD,lo,hi,most,af,es⟩ (.mk xk xn xs xl) e]) (by omega) (by simp only [List.length_append,List.length_cons,List.length_nil] at hp ⊢;omega);have hRl:=qW ND k a b ed.to (([]:List bV) ++ [stpR ⟨ag,aD,lo,hi,most,af,es⟩ (.mk xk xn xs xl) e]);generalize stpR ⟨ag,aD,lo,hi,most,af,es⟩ (.mk xk xn xs xl) e=sr at *;generalize dfK ND k a b ed.to (([]:List bV) ++ [sr])=RR at jd hD hRl;have eP:aJ (KD e) ++ aJ RR=aJ (KD (e + 1)):=by rw [hD,z8]
     have Xq:=cV (KD e);have SQ:=cV RR;have SI:(KD e).length + (aJ RR).length=(KD (e + 1)).length:=by rw [hD,List.length_append,SQ]
     have eN:(aJ (KD e)).length + (aJ RR).length<=maxLen:=by rw [Xq,SQ];simp only [maxLen];omega
     have dQ:((aJ (KD e)).length + (aJ RR).length) * 144<=140737488355328:=by rw [Xq,SQ];omega
     obtain ⟨ak,an,UK,al⟩:=a;obtain ⟨bk,bn,bs,bl⟩:=b;obtain ⟨e1,e2,e3,e4,e5,e6,e7,e8,e9,e10⟩:=ed;refine iX (fL hg) ?_;apply aaH (fun _=>false) (.op 0 (.op 1 (.op 2 (.op 3 (.op 4 (.op 7 (.op 8 (.op 9 (.op 10 (.op 13 (.op 14 (.op 15 (.op 16 (.op 17 (.op 18 (.op 19 (.op 20 (.op 21 (.op 22 (.ev 5 (.op 6 (.ev 11 (.ev 12 (.ev 23 (.ev 24 (.op 25 .fin) .stop) .stop) .stop) .stop)) .stop)))))))))))))))))))) mo (by decide +kernel);·repeat' (first | refine cD Vw jz ?_ | refine cD YW aU ?_ | refine cD JV gf ?_ | refine iX (bf ha) ?_ | refine iX (bf hb) ?_ | refine cD Vp jd ?_ | refine ⟨Xq,⟨eN,dQ⟩,?_⟩ | exact trivial | exact Or.inl rfl | exact qY | refine ⟨?_,?_⟩)
     exact ⟨LK (wL lv f ND z) j (KD (e + 1)) ((KD e).length + (aJ RR).length) (dP ([]:List bV)) (.mk xk xn xs xl) (.mk yk yn ys yl) (e + 1),(az 3 rfl (wA2 (nxt au (by omega)) eP) rfl rfl rfl (dm (nxt au (by omega)) eP)),m - (e + 1),by omega,e + 1,_,rfl,SI,by omega,rfl⟩
    ·have aN:m=e:=by
      have h2:=eX;simp [pickB_and] at h2;omega
     subst aN
     refine av (fun t st=>∃ e q:Nat,st=LL (wL lv f ND z) (KD m ++ A.take e) q (dP ([]:List bV)) (.mk xk xn xs xl) (.mk yk yn ys yl) (xl.length + e)/\q=(KD m ++ A.take e).length/\e<=A.length/\t=A.length - e) A.length
      (LL (wL lv f ND z) (KD m ++ A.take 0) (KD m).length (dP ([]:List bV)) (.mk xk xn xs xl) (.mk yk yn ys yl) (xl.length + 0)) (az 3 rfl (wA2 tD UF) rfl rfl rfl (dm tD UF)) ⟨0,_,rfl,by simp,by omega,by omega⟩ ?_
     rintro t st ⟨e,q,rfl,rfl,he,rfl⟩;refine br ?_ ?_<;>intro eX
     ·have au:xl.length + e < yl.length:=by
       have h2:=eX;simp at h2;omega
      have eV:e < A.length:=by omega
      have rc:m=xl.length:=by omega
      rw [<- rc] at HK;obtain ⟨b,hb⟩:=gX au;have gf:=gf (dn (xl.length + e));have hA:=QN e b hb
      have eP:aJ (KD m ++ A.take e) ++ [nD ⟨2,([]:List bV) ++ [dn (xl.length + e)],none,some b⟩]=aJ (KD m ++ A.take (e + 1)):=by
       rw [eK,List.take_add_one,hA];simp
      have gq:=cV (KD m ++ A.take e)
      have x4:(KD m ++ A.take e).length<=100000:=by
       simp only [List.length_append,List.length_take];omega
      have pA:(KD m ++ A.take (e + 1)).length=(KD m ++ A.take e).length + 1:=by
       simp only [List.length_append,List.length_take];omega
      generalize A.take e=T1 at *;have eN:(aJ (KD m ++ T1)).length + 1<=maxLen:=by rw [gq];simp only [maxLen];omega
      have dQ:((aJ (KD m ++ T1)).length + 1) * 144<=140737488355328:=by rw [gq];omega
      obtain ⟨bk,bn,bs,bl⟩:=b;apply aaH (fun _=>false) (.op 0 (.op 1 (.op 2 (.op 3 (.op 5 (.op 6 (.op 7 (.op 8 (.op 9 (.ev 4 (.op 10 (.ev 11 (.ev 12 (.op 13 .fin) .stop) .stop)) .stop)))))))))) mo (by decide +kernel);·repeat' (first | refine cD JV gf ?_ | refine iX (bf hb) ?_ | refine ⟨gq,⟨eN,dQ⟩,?_⟩ | exact trivial | exact Or.inl rfl | exact qY | refine ⟨?_,?_⟩)
      exact ⟨LL (wL lv f ND z) (KD m ++ A.take (e + 1)) ((KD m ++ T1).length + 1) (dP ([]:List bV)) (.mk xk xn xs xl) (.mk yk yn ys yl) (xl.length + (e + 1)),(az 3 rfl (wA2 (nxt au (by omega)) eP) rfl rfl rfl (dm (nxt au (by omega)) eP)),A.length - (e + 1),by omega,e + 1,_,rfl,pA.symm,by omega,rfl⟩
     ·have aN:e=A.length:=by
       have h2:=eX;simp at h2;omega
      subst aN;rw [List.take_length]
      refine av (fun t st=>∃ (e q:Nat) (z':Int),st=LM (wL lv f ND z) (KD m ++ A ++ G.take e) q (dP ([]:List bV)) (.mk xk xn xs xl) (.mk yk yn ys yl) z' /\ z'=(xl.length:Int) - 1 - (e:Int)/\q=(KD m ++ A ++ G.take e).length/\e<=G.length/\t=G.length - e) G.length
       (LM (wL lv f ND z) (KD m ++ A ++ G.take 0) (KD m ++ A).length (dP ([]:List bV)) (.mk xk xn xs xl) (.mk yk yn ys yl) ((xl.length:Int) - 1)) (az 3 rfl (wA2 S8 Fa) rfl rfl rfl (dm S8 Fa)) ⟨0,_,_,rfl,by omega,by simp,by omega,by omega⟩ ?_
      rintro t st ⟨e,q,z',rfl,hz,rfl,he,rfl⟩;refine br ?_ ?_<;>intro eX
      ·have eX:(yl.length:Int)<=z':=by
        have h2:=eX;simp at h2;omega
       have eV:e < G.length:=by omega
       have rc:m=yl.length:=by omega
       rw [<- rc] at HJ;obtain ⟨a,ha⟩:∃ a,xl[xl.length - 1 - e]? = some a:=⟨_,gE (by omega)⟩;have Qs:=hG1 e a (by omega) ha;obtain ⟨n,hn⟩:∃ n,n=xl.length - 1 - e:=⟨_,rfl⟩;obtain rfl:z'=(n:Int):=by omega
       have gf:=gf (dn n);rw [<- hn] at ha Qs
       have eP:aJ (KD m ++ A ++ G.take e) ++ [nD ⟨3,([]:List bV) ++ [dn n],some a,none⟩]=aJ (KD m ++ A ++ G.take (e + 1)):=by
        rw [eK,List.take_add_one,Qs];simp
       have gq:=cV (KD m ++ A ++ G.take e)
       have x4:(KD m ++ A ++ G.take e).length<=100000:=by
        simp only [List.length_append,List.length_take];omega
       have pA:(KD m ++ A ++ G.take (e + 1)).length=(KD m ++ A ++ G.take e).length + 1:=by
        simp only [List.length_append,List.length_take];omega
       have pV:IntKind.i64.wrap ((n:Int) - 1)=(n:Int) - 1:=wrap64 (by omega) (by omega);generalize G.take e=T1 at *;have eN:(aJ (KD m ++ A ++ T1)).length + 1<=maxLen:=by rw [gq];simp only [maxLen];omega
       have dQ:((aJ (KD m ++ A ++ T1)).length + 1) * 144<=140737488355328:=by rw [gq];omega
       have fV:n < xl.length:=by omega
       obtain ⟨ak,an,UK,al⟩:=a;apply aaH (fun _=>false) (.op 0 (.op 1 (.op 2 (.op 3 (.op 5 (.op 6 (.op 7 (.op 8 (.op 9 (.ev 4 (.op 10 (.ev 11 (.ev 12 (.op 13 .fin) .stop) .stop)) .stop)))))))))) mo (by decide +kernel);·repeat' (first | refine cD JV gf ?_ | refine iX (bf ha) ?_ | refine ⟨gq,⟨eN,dQ⟩,?_⟩ | exact trivial | exact Or.inl rfl | exact qY | refine ⟨?_,?_⟩)
       exact ⟨LM (wL lv f ND z) (KD m ++ A ++ G.take (e + 1)) ((KD m ++ A ++ T1).length + 1) (dP ([]:List bV)) (.mk xk xn xs xl) (.mk yk yn ys yl) ((n:Int) - 1),(az 3 rfl (wA2 pV eP) rfl rfl rfl (dm pV eP)),G.length - (e + 1),by omega,e + 1,_,_,rfl,by omega,pA.symm,by omega,rfl⟩
      ·have eX:z' < (yl.length:Int):=by
        have h2:=eX;simp at h2;omega
       have aN:e=G.length:=by omega
       subst aN;rw [List.take_length];exact ⟨_,ax,rfl⟩
   ·refine eG 154 [.tmp 10] func12 rfl ntmps12 rfl fun _ _ _ _=>?_
    refine br (fun g=>absurd g (by
     obtain ⟨n1,n2,n3,n4⟩:=pQ;simp [pickB_and,ap,cu,tT,n1,n2,n3];intro h5;rcases n4 with n4 | n4
     ·omega
     ·omega)) (fun _=>?_)
    refine av (fun t st=>∃ e q:Nat,st=LK (wL lv f ND z) j (KD e) q (dP (s0 :: p)) (.mk xk xn xs xl) (.mk yk yn ys yl) e/\q=(KD e).length/\e<=m/\t=m - e) m
     (LK (wL lv f ND z) j [] 0 (dP (s0 :: p)) (.mk xk xn xs xl) (.mk yk yn ys yl) 0) (dX ⟨0,58,10,none⟩ rfl ⟨_,rfl⟩ rfl wA rfl rfl wB0) ⟨0,0,by rw [S7],by rw [S7];rfl,by omega,by omega⟩ ?_
    rintro t st ⟨e,q,rfl,rfl,he,rfl⟩;refine br ?_ ?_<;>intro eX
    ·have au:e < m:=by
      have h2:=eX;simp [pickB_and] at h2;omega
     obtain ⟨a,ha⟩:∃ a,xl[e]? = some a:=⟨_,gE (by omega)⟩;obtain ⟨b,hb⟩:∃ b,yl[e]? = some b:=⟨_,gE (by omega)⟩;obtain ⟨ed,B6,hw1,kv⟩:=Qr e a b ha hb;have jz:=jz e a b ed ha hb B6;have aU:=aU e a b ed ha hb B6;have hD:=hD e a b ed ha hb B6;have gf:=gf (stpR ⟨ag,aD,lo,hi,most,af,es⟩ (.mk xk xn xs xl) e);have haw:=cE (mG ha);have uX:=cE (mG hb);have Xl:=AJ e;have Xm:=hca e a ha;have Xn:=M5 e b hb;have Xo:=UJ (e + 1);have Xp:=HI (e + 1);have jd:=ih a b (by omega) (by omega) (by omega) ed.to hw1 kv ((s0 :: p) ++ [stpR ⟨ag,aD,lo,hi,most,af,es⟩ (.mk xk xn xs xl) e]) (by omega) (by simp only [List.length_append,List.length_cons,List.length_nil] at hp ⊢;omega);have hRl:=qW ND k a b ed.to ((s0 :: p) ++ [stpR ⟨ag,aD,lo,hi,most,af,es⟩ (.mk xk xn xs xl) e]);generalize stpR ⟨ag,aD,lo,hi,most,af,es⟩ (.mk xk xn xs xl) e=sr at *;generalize dfK ND k a b ed.to ((s0 :: p) ++ [sr])=RR at jd hD hRl;have eP:aJ (KD e) ++ aJ RR=aJ (KD (e + 1)):=by rw [hD,z8]
     have Xq:=cV (KD e);have SQ:=cV RR;have SI:(KD e).length + (aJ RR).length=(KD (e + 1)).length:=by rw [hD,List.length_append,SQ]
     have eN:(aJ (KD e)).length + (aJ RR).length<=maxLen:=by rw [Xq,SQ];simp only [maxLen];omega
     have dQ:((aJ (KD e)).length + (aJ RR).length) * 144<=140737488355328:=by rw [Xq,SQ];omega
     obtain ⟨ak,an,UK,al⟩:=a;obtain ⟨bk,bn,bs,bl⟩:=b;obtain ⟨e1,e2,e3,e4,e5,e6,e7,e8,e9,e10⟩:=ed;refine iX (fL hg) ?_;apply aaH (fun _=>false) (.op 0 (.op 1 (.op 2 (.op 3 (.op 4 (.op 7 (.op 8 (.op 9 (.op 10 (.op 13 (.op 14 (.op 15 (.op 16 (.op 17 (.op 18 (.op 19 (.op 20 (.op 21 (.op 22 (.ev 5 (.op 6 (.ev 11 (.ev 12 (.ev 23 (.ev 24 (.op 25 .fin) .stop) .stop) .stop) .stop)) .stop)))))))))))))))))))) mo (by decide +kernel);·repeat' (first | refine cD Vw jz ?_ | refine cD YW aU ?_ | refine cD JV gf ?_ | refine iX (bf ha) ?_ | refine iX (bf hb) ?_ | refine cD Vp jd ?_ | refine ⟨Xq,⟨eN,dQ⟩,?_⟩ | exact trivial | exact Or.inl rfl | exact qY | refine ⟨?_,?_⟩)
     exact ⟨LK (wL lv f ND z) j (KD (e + 1)) ((KD e).length + (aJ RR).length) (dP (s0 :: p)) (.mk xk xn xs xl) (.mk yk yn ys yl) (e + 1),(az 3 rfl (wA2 (nxt au (by omega)) eP) rfl rfl rfl (dm (nxt au (by omega)) eP)),m - (e + 1),by omega,e + 1,_,rfl,SI,by omega,rfl⟩
    ·have aN:m=e:=by
      have h2:=eX;simp [pickB_and] at h2;omega
     subst aN
     refine av (fun t st=>∃ e q:Nat,st=LL (wL lv f ND z) (KD m ++ A.take e) q (dP (s0 :: p)) (.mk xk xn xs xl) (.mk yk yn ys yl) (xl.length + e)/\q=(KD m ++ A.take e).length/\e<=A.length/\t=A.length - e) A.length
      (LL (wL lv f ND z) (KD m ++ A.take 0) (KD m).length (dP (s0 :: p)) (.mk xk xn xs xl) (.mk yk yn ys yl) (xl.length + 0)) (az 3 rfl (wA2 tD UF) rfl rfl rfl (dm tD UF)) ⟨0,_,rfl,by simp,by omega,by omega⟩ ?_
     rintro t st ⟨e,q,rfl,rfl,he,rfl⟩;refine br ?_ ?_<;>intro eX
     ·have au:xl.length + e < yl.length:=by
       have h2:=eX;simp at h2;omega
      have eV:e < A.length:=by omega
      have rc:m=xl.length:=by omega
      rw [<- rc] at HK;obtain ⟨b,hb⟩:=gX au;have gf:=gf (dn (xl.length + e));have hA:=QN e b hb
      have eP:aJ (KD m ++ A.take e) ++ [nD ⟨2,(s0 :: p) ++ [dn (xl.length + e)],none,some b⟩]=aJ (KD m ++ A.take (e + 1)):=by
       rw [eK,List.take_add_one,hA];simp
      have gq:=cV (KD m ++ A.take e)
      have x4:(KD m ++ A.take e).length<=100000:=by
       simp only [List.length_append,List.length_take];omega
      have pA:(KD m ++ A.take (e + 1)).length=(KD m ++ A.take e).length + 1:=by
       simp only [List.length_append,List.length_take];omega
      generalize A.take e=T1 at *;have eN:(aJ (KD m ++ T1)).length + 1<=maxLen:=by rw [gq];simp only [maxLen];omega
      have dQ:((aJ (KD m ++ T1)).length + 1) * 144<=140737488355328:=by rw [gq];omega
      obtain ⟨bk,bn,bs,bl⟩:=b;apply aaH (fun _=>false) (.op 0 (.op 1 (.op 2 (.op 3 (.op 5 (.op 6 (.op 7 (.op 8 (.op 9 (.ev 4 (.op 10 (.ev 11 (.ev 12 (.op 13 .fin) .stop) .stop)) .stop)))))))))) mo (by decide +kernel);·repeat' (first | refine cD JV gf ?_ | refine iX (bf hb) ?_ | refine ⟨gq,⟨eN,dQ⟩,?_⟩ | exact trivial | exact Or.inl rfl | exact qY | refine ⟨?_,?_⟩)
      exact ⟨LL (wL lv f ND z) (KD m ++ A.take (e + 1)) ((KD m ++ T1).length + 1) (dP (s0 :: p)) (.mk xk xn xs xl) (.mk yk yn ys yl) (xl.length + (e + 1)),(az 3 rfl (wA2 (nxt au (by omega)) eP) rfl rfl rfl (dm (nxt au (by omega)) eP)),A.length - (e + 1),by omega,e + 1,_,rfl,pA.symm,by omega,rfl⟩
     ·have aN:e=A.length:=by
       have h2:=eX;simp at h2;omega
      subst aN;rw [List.take_length]
      refine av (fun t st=>∃ (e q:Nat) (z':Int),st=LM (wL lv f ND z) (KD m ++ A ++ G.take e) q (dP (s0 :: p)) (.mk xk xn xs xl) (.mk yk yn ys yl) z' /\ z'=(xl.length:Int) - 1 - (e:Int)/\q=(KD m ++ A ++ G.take e).length/\e<=G.length/\t=G.length - e) G.length
       (LM (wL lv f ND z) (KD m ++ A ++ G.take 0) (KD m ++ A).length (dP (s0 :: p)) (.mk xk xn xs xl) (.mk yk yn ys yl) ((xl.length:Int) - 1)) (az 3 rfl (wA2 S8 Fa) rfl rfl rfl (dm S8 Fa)) ⟨0,_,_,rfl,by omega,by simp,by omega,by omega⟩ ?_
      rintro t st ⟨e,q,z',rfl,hz,rfl,he,rfl⟩;refine br ?_ ?_<;>intro eX
      ·have eX:(yl.length:Int)<=z':=by
        have h2:=eX;simp at h2;omega
       have eV:e < G.length:=by omega
       have rc:m=yl.length:=by omega
       rw [<- rc] at HJ;obtain ⟨a,ha⟩:∃ a,xl[xl.length - 1 - e]? = some a:=⟨_,gE (by omega)⟩;have Qs:=hG1 e a (by omega) ha;obtain ⟨n,hn⟩:∃ n,n=xl.length - 1 - e:=⟨_,rfl⟩;obtain rfl:z'=(n:Int):=by omega
       have gf:=gf (dn n);rw [<- hn] at ha Qs
       have eP:aJ (KD m ++ A ++ G.take e) ++ [nD ⟨3,(s0 :: p) ++ [dn n],some a,none⟩]=aJ (KD m ++ A ++ G.take (e + 1)):=by
        rw [eK,List.take_add_one,Qs];simp
       have gq:=cV (KD m ++ A ++ G.take e)
       have x4:(KD m ++ A ++ G.take e).length<=100000:=by
        simp only [List.length_append,List.length_take];omega
       have pA:(KD m ++ A ++ G.take (e + 1)).length=(KD m ++ A ++ G.take e).length + 1:=by
        simp only [List.length_append,List.length_take];omega
       have pV:IntKind.i64.wrap ((n:Int) - 1)=(n:Int) - 1:=wrap64 (by omega) (by omega);generalize G.take e=T1 at *;have eN:(aJ (KD m ++ A ++ T1)).length + 1<=maxLen:=by rw [gq];simp only [maxLen];omega
       have dQ:((aJ (KD m ++ A ++ T1)).length + 1) * 144<=140737488355328:=by rw [gq];omega
       have fV:n < xl.length:=by omega
       obtain ⟨ak,an,UK,al⟩:=a;apply aaH (fun _=>false) (.op 0 (.op 1 (.op 2 (.op 3 (.op 5 (.op 6 (.op 7 (.op 8 (.op 9 (.ev 4 (.op 10 (.ev 11 (.ev 12 (.op 13 .fin) .stop) .stop)) .stop)))))))))) mo (by decide +kernel);·repeat' (first | refine cD JV gf ?_ | refine iX (bf ha) ?_ | refine ⟨gq,⟨eN,dQ⟩,?_⟩ | exact trivial | exact Or.inl rfl | exact qY | refine ⟨?_,?_⟩)
       exact ⟨LM (wL lv f ND z) (KD m ++ A ++ G.take (e + 1)) ((KD m ++ A ++ T1).length + 1) (dP (s0 :: p)) (.mk xk xn xs xl) (.mk yk yn ys yl) ((n:Int) - 1),(az 3 rfl (wA2 pV eP) rfl rfl rfl (dm pV eP)),G.length - (e + 1),by omega,e + 1,_,_,rfl,by omega,pA.symm,by omega,rfl⟩
      ·have eX:z' < (yl.length:Int):=by
        have h2:=eX;simp at h2;omega
       have aN:e=G.length:=by omega
       subst aN;rw [List.take_length];exact ⟨_,ax,rfl⟩
  ·have hV:dfK ND (k + 1) x y i p=[⟨1,p,some x,some y⟩]:=by rw [dfK,if_neg c]
   rw [hV]
   have q7:¬ (x.k=y.k/\x.n=y.n/\x.s=y.s/\(x.ks.length=y.ks.length∨x.k=5)):=by
    intro h;apply c;unfold qU;simpa using h
   have cu:=bo x.ks;have tT:=bo y.ks;obtain ⟨xk,xn,xs,xl⟩:=x;obtain ⟨yk,yn,ys,yl⟩:=y;simp only [Val.k,Val.n,Val.s,Val.ks] at q7 cu tT;rcases p with _ | ⟨s0,p⟩
   all_goals
    refine eG 154 [.tmp 10] func12 rfl ntmps12 rfl fun _ _ _ _=>?_
    refine br (fun _=>?_) (fun g=>absurd g (by
     simp [pickB_and,ap,cu,tT];intro h1 h2 h3
     exact ⟨Or.inl fun h=>q7 ⟨h1,h2,h3,.inr h⟩,fun h=>q7 ⟨h1,h2,h3,.inl (by omega)⟩⟩))
    exact ⟨_,ax,rfl⟩
def exL:List oH:=[⟨1,[dn 0],some (vI 1),some (vI 3)⟩,⟨3,[dn 1],some (vI 2),none⟩]
abbrev Ai (PC:List DV) (T:List UInt8) (p:DV) (e:Nat):St:=
 ⟨[(0,⟨[],.pt PC 0⟩),(7,⟨[],.loc 0 0⟩),(19,⟨[],.sl 10 (aJ exL) none⟩),(20,⟨[],.v (.int .i64 2)⟩),(21,⟨[],.v (.int .i64 e)⟩)],[bO p T],bT T⟩
theorem LN {S:Sch} {ND:List Nd} {PC LC:List DV} {n:Nat} {af:List ByteArray} {f:Nat->Nat->Bool} (hP:fN S ND PC) (k0:EvP prog 56 [.pt PC 0] (.pt LC 0)) (hR:Lk n f af LC) (hn:0 < n) (hd:ND[1]? = some tU)
  (hw1:EvP prog 116 [.pt PC 0,.sl 3 (ch [dn 0]) none] (EJ (some (1,0)))) (kv:EvP prog 116 [.pt PC 0,.sl 3 (ch [dn 1]) none] (EJ (some (1,0)))) :
  EvP prog 20 [.pt PC 0,.v (.int .i64 0),.sl 10 (aJ exL) none] (.v (.string (ba (QO ++ X9)))):=by
 have h1:=line39_1 hP hd hw1;have h2:=line39_2 hP hd kv;have hlen:=hR.len;refine abe (s:=false) (bt:=[(0,135)]) (hbt:=fun p hp=>Nat.zero_le _) (P:=prog) tt aaP 5000 31 [.tmp 6] func20 rfl ntmps20 rfl (nL rfl) (fun _ _ _ _=>?_);refine cP MK k0 ?_;refine cP JW hlen ?_
 refine br (fun c=>absurd c (by
  simp [pickB]
  omega)) (fun _=>?_)
 refine av (fun j st=>(st=Ai PC [] (.v (.pointer none)) 0/\j=2)∨(st=Ai PC QO (.loc 0 0) 1/\j=1)∨(st=Ai PC (QO ++ X9) (.loc 0 0) 2/\j=0)) 2 (Ai PC [] (.v (.pointer none)) 0) (dG 1 ⟨0,5,1,none⟩ rfl rfl rfl wA0 rfl rfl wB0) (.inl ⟨rfl,rfl⟩) ?_;rintro _ st (⟨rfl,rfl⟩ | ⟨rfl,rfl⟩ | ⟨rfl,rfl⟩)
 ·refine ⟨_,⟨by decide,rfl⟩,?_⟩;refine cP YZ h1 ?_;refine gW rfl (kt:=0) (l:=[]) QO rfl (.head _) rfl (.inl rfl) rfl (by decide) (by decide) rfl (fun n=>?_);exact ⟨Ai PC QO (.loc 0 0) 1,(az 1 rfl wA0 rfl rfl rfl wB0),1,by omega,.inr (.inl ⟨rfl,rfl⟩)⟩
 ·refine ⟨_,⟨by decide,rfl⟩,?_⟩;refine cP YZ h2 ?_;refine gW rfl (kt:=0) (l:=QO) (QO ++ X9) rfl (.head _) rfl (.inr rfl) rfl (by decide) (by decide) rfl (fun n=>?_);exact ⟨Ai PC (QO ++ X9) (.loc 0 0) 2,(az 1 rfl wA0 rfl rfl rfl wB0),0,by omega,.inr (.inr ⟨rfl,rfl⟩)⟩
 ·refine uF rfl (kt:=0) (l:=QO ++ X9) (.head _) rfl (by decide) rfl rfl rfl rfl ?_;exact (rfl:_=_)
theorem Qu:(kF re).1=0:=by decide +kernel
theorem nH:dW re=(0:Nat):=by decide +kernel
theorem uG:0 < (aQ re).length:=by decide +kernel
theorem Xr:(aQ re)[1]? = some tU:=by rfl
theorem ET:yw (aQ re) (bK re) re.ae.length 0 0 exX=true:=by decide +kernel
theorem EU:yw (aQ re) (bK re) re.ae.length 0 0 exY=true:=by decide +kernel
theorem Xs:walkV (aQ re) (bK re) re.ae.length [dn 0] 0 (ov (bK re) re.ae.length)=some (1,0):=by decide +kernel
theorem Xt:walkV (aQ re) (bK re) re.ae.length [dn 1] 0 (ov (bK re) re.ae.length)=some (1,0):=by decide +kernel
theorem Xu:dfK (aQ re) exX.wt exX exY ((0:Nat):Int) []=exL:=by rfl
theorem jq:EvP prog 7 [] (.v (.bool true)):=by
 have CP:re.wt<=1099511627776:=by decide +kernel
 have hb:=(wu re CP).mono (Ψ:=fun r _ _=>GM re r) fun _ _ _ h=>zK CP h;refine eG 43 [.tmp 0] func7 rfl ntmps7 rfl fun _ _ _ _=>?_;refine bL en8 rfl hb ax (fun r hr=>?_);rcases hr with ⟨hr,_⟩ | ⟨_,PC,hP,rfl⟩
 ·exact (hr Qu).elim
 obtain ⟨LC,k0,hR⟩:=hP.SD;have abX:∀ n∈aQ re,EI n:=fun n hn=>xR (S:=re) (by simp [re,Rx,rngT,rngP,rK]) hn;have bJ:∀ n∈aQ re,n.aw.length<=1099511627776:=fun n hn=>(ld hn CP).2;have f1:=kr hP k0 hR abX bJ 0 nH uG 0 exX (by decide +kernel) (by simp [exX,rngW,rngWs,rK]);have f2:=kr hP k0 hR abX bJ 0 nH uG 0 exY (by decide +kernel) (by simp [exY,rngW,rngWs,rK]);rw [ET] at f1;rw [EU] at f2;have hD:=Ah hP bJ 0 nH exX exY (by decide +kernel) (by decide +kernel) (by decide +kernel) 0 true true f1 f2 (fun _=>ln hP.ok ET) (fun _=>ln hP.ok EU);rw [show (true && true)=true from rfl,if_pos rfl,Xu] at hD;have w1:=xT hP [dn 0] (by decide) (by decide) 0 nH uG;have w2:=xT hP [dn 1] (by decide) (by decide) 0 nH uG;rw [Xs] at w1;rw [Xt] at w2;have hT:=LN hP k0 hR (by decide) Xr w1 w2;refine cP FD hD ?_;refine cP en20 hT ?_;exact (rfl:_=_)
structure Aj (c:oH):Prop where
 p:c.p.length<=1000000
 x:∀ v,c.x=some v->v.wt<=1099511627776
 y:∀ v,c.y=some v->v.wt<=1099511627776
theorem JC (p:List bV) (hp:p.length + 1<=1000000):∀ (l:List Val) (j:Nat),(∀ v∈l,v.wt<=1099511627776)->∀ c∈addC p l j,Aj c
 | [],_,_,c,h=>by simp [addC] at h
 | y :: r,j,hl,c,h=>by
  rw [addC] at h;rcases List.mem_cons.1 h with rfl | h
  ·exact ⟨by simp;omega,fun v hv=>(by cases hv),fun v hv=>(by cases hv;exact hl _ (.head _))⟩
  ·exact JC p hp r (j + 1) (fun v hv=>hl v (.tail _ hv)) c h
theorem JD (p:List bV) (hp:p.length + 1<=1000000):∀ (l:List Val) (j:Nat),(∀ v∈l,v.wt<=1099511627776)->∀ c∈pw p l j,Aj c
 | [],_,_,c,h=>by simp [pw] at h
 | y :: r,j,hl,c,h=>by
  rw [pw] at h;rcases List.mem_append.1 h with h | h
  ·exact JD p hp r (j + 1) (fun v hv=>hl v (.tail _ hv)) c h
  ·simp only [List.mem_singleton] at h;subst h;exact ⟨by simp;omega,fun v hv=>(by cases hv;exact hl _ (.head _)),fun v hv=>(by cases hv)⟩
theorem Qv (ND:List Nd):∀ (k:Nat) (x y:Val) (i:Int) (p:List bV),x.wt<=1099511627776->y.wt<=1099511627776->p.length + dT x<=100000->∀ c∈dfK ND k x y i p,Aj c
 | 0,_,_,_,_,_,_,_,c,h=>by simp [dfK] at h
 | k + 1,x,y,i,p,hx,hy,hp,c,h=>by
  have ih:=Qv ND k;have QJ:x.wt=64 + x.s.size + aav x.ks:=by obtain ⟨_,_,_,_⟩:=x;rfl
  have hyw:y.wt=64 + y.s.size + aav y.ks:=by obtain ⟨_,_,_,_⟩:=y;rfl
  have hx1:dT x=1 + aY x.ks:=by obtain ⟨_,_,_,_⟩:=x;rfl
  have mx:∀ v∈x.ks,v.wt<=1099511627776:=fun v hv=>by have:=cE hv;omega
  have my:∀ v∈y.ks,v.wt<=1099511627776:=fun v hv=>by have:=cE hv;omega
  rw [dfK] at h;split at h
  ·cases hd:cS ND i with
   | none=>rw [hd] at h;simp at h
   | some d=>
    rw [hd] at h;simp only [List.mem_append] at h;rcases h with (h | h) | h
    ·have hk:∀ m,∀ c∈kidsD (dfK ND k) d x y p m,Aj c:=by
      intro m
      induction m with
      | zero=>intro c h;simp [kidsD] at h
      | succ m im=>
       intro c h;rw [kidsD] at h;rcases List.mem_append.1 h with h | h
       ·exact im c h
       ·unfold kidD at h;split at h
        ·rename_i a b e h1 h2 h3;have ha:=mG h1;have hca:=iV h1;have UJ:=fp x.ks (m + 1);exact ih a b e.to _ (mx a ha) (my b (mG h2)) (by simp only [List.length_append,List.length_cons,List.length_nil];omega) c h
        ·simp at h
     exact hk _ c h
    ·exact JC p (by omega) _ _ (fun v hv=>my v (List.mem_of_mem_drop hv)) c h
    ·exact JD p (by omega) _ _ (fun v hv=>mx v (List.mem_of_mem_drop hv)) c h
  ·simp only [List.mem_singleton] at h;subst h;exact ⟨by show p.length<=_;omega,fun v hv=>(by cases hv;exact hx),fun v hv=>(by cases hv;exact hy)⟩
theorem EV (c:oH) (h:Aj c):EvP prog 13 [.agg (nD c),.agg (nD c)] (.v (.bool true)):=by
 have hp:=Eh c.p (by have:=h.p;omega)
 have XF:EvP prog 18 [.agg (aM (c.x.getD zeroV)),.agg (aM (c.x.getD zeroV))] (.v (.bool true)):=by
  have:=tv (c.x.getD zeroV) (by
   cases hx:c.x with
   | none=>decide
   | some v=>exact h.x v hx) (c.x.getD zeroV)
  rwa [xx] at this
 have hyy:EvP prog 18 [.agg (aM (c.y.getD zeroV)),.agg (aM (c.y.getD zeroV))] (.v (.bool true)):=by
  have:=tv (c.y.getD zeroV) (by
   cases hx:c.y with
   | none=>decide
   | some v=>exact h.y v hx) (c.y.getD zeroV)
  rwa [xx] at this
 obtain ⟨k,p,x,y⟩:=c;simp only at hp XF hyy;rcases p with _ | ⟨s,p⟩<;>rcases x with _ | ⟨xk,xn,xs,xl⟩<;>rcases y with _ | ⟨yk,yn,ys,yl⟩
 all_goals
  simp only [Option.getD_none,Option.getD_some] at XF hyy;refine eG 31 [.tmp 4] func13 rfl ntmps13 rfl fun _ _ _ _=>?_;refine br (fun _=>?_) (fun g=>absurd g (by simp));refine cP en48 hp ?_;refine cP YQ XF ?_;refine cP YQ hyy ?_;refine (congrArg (fun b=>DV.v (.bool b)) ?_:_=_);simp [pickB]
theorem yx (c:oH):EvP prog 14 [.agg (nD c)] (.agg (nD c)):=by
 obtain ⟨k,p,x,y⟩:=c;rcases p with _ | ⟨s,p⟩<;>rcases x with _ | ⟨xk,xn,xs,xl⟩<;>rcases y with _ | ⟨yk,yn,ys,yl⟩
 all_goals
  refine eG 12 [.cell 2 58] func14 rfl ntmps14 rfl fun _ _ _ _=>?_;exact ⟨_,ax,rfl⟩
theorem Qw (o:Int) (x y:Val):EvP prog 10 [.v (.pointer none),.v (.int .i64 o),.agg (aM x),.agg (aM y)] (.tup [.v (.slice none 0 0),.v (.bool false)]):=by
 have hf:=HG o x;obtain ⟨xk,xn,xs,xl⟩:=x;obtain ⟨yk,yn,ys,yl⟩:=y;refine eG 38 [.tmp 8,.tmp 9] func10 rfl ntmps10 rfl fun _ _ _ _=>?_;refine cP JU hf ?_;exact ⟨_,ax,rfl⟩
abbrev Ak (S:List DV) (x y:Val) (e:Nat):St:=⟨[(1,⟨[],.sl 4 [aM x,aM y] none⟩),(2,⟨[],.loc 0 0⟩),(5,⟨[],.v (.int .i64 e)⟩)],[S],[]⟩
theorem EW (S:Sch) (hS:S.wt<=1099511627776) (x y:Val) (hx:x.wt<=1099511627776) (hy:y.wt<=1099511627776) :
  Ev prog 6 [.agg (dR S),.sl 4 [aM x,aM y] none] [] [] (fun r _ _=>∃ b:Bool,r = .v (.bool b)/\(b=true->xU S/\dT x<=500/\dT y<=500)):=by
 have ga:=Bb S hS;have hf:=EL S hS;have h1:=nr x.wt x (Nat.le_refl _) hx;have h2:=nr y.wt y (Nat.le_refl _) hy;generalize dT x=c1 at *;generalize wX x=d1 at h1;generalize dT y=c2 at *;generalize wX y=d2 at h2;obtain ⟨ae,order,types,⟨rh,rp⟩⟩:=S;obtain ⟨xk,xn,xs,S2⟩:=x;obtain ⟨yk,yn,ys,Xv⟩:=y;refine eG 31 [.tmp 4] func6 rfl ntmps6 rfl fun _ _ _ _=>?_
 refine av (fun j st=>(st=Ak (dR ⟨ae,order,types,.mk rh rp⟩) (.mk xk xn xs S2) (.mk yk yn ys Xv) 0/\j=2)∨(st=Ak (dR ⟨ae,order,types,.mk rh rp⟩) (.mk xk xn xs S2) (.mk yk yn ys Xv) 1/\c1<=500/\j=1)∨(st=Ak (dR ⟨ae,order,types,.mk rh rp⟩) (.mk xk xn xs S2) (.mk yk yn ys Xv) 2/\c1<=500/\c2<=500/\j=0)) 2
  (Ak (dR ⟨ae,order,types,.mk rh rp⟩) (.mk xk xn xs S2) (.mk yk yn ys Xv) 0) (az 1 rfl wA0 rfl rfl rfl wB0) (.inl ⟨rfl,rfl⟩) ?_
 rintro _ st (⟨rfl,rfl⟩ | ⟨rfl,Ig,rfl⟩ | ⟨rfl,Ig,nK,rfl⟩)
 ·refine ⟨_,⟨by decide,rfl⟩,?_⟩;refine cP Vq h1 ?_;refine br ?_ ?_<;>intro c
  ·exact ⟨false,rfl,fun h=>by cases h⟩
  ·exact ⟨Ak (dR ⟨ae,order,types,.mk rh rp⟩) (.mk xk xn xs S2) (.mk yk yn ys Xv) 1,(az 1 rfl wA0 rfl rfl rfl wB0),1,by omega,.inr (.inl ⟨rfl,by simp at c;omega,rfl⟩)⟩
 ·refine ⟨_,⟨by decide,rfl⟩,?_⟩;refine cP Vq h2 ?_;refine br ?_ ?_<;>intro c
  ·exact ⟨false,rfl,fun h=>by cases h⟩
  ·exact ⟨Ak (dR ⟨ae,order,types,.mk rh rp⟩) (.mk xk xn xs S2) (.mk yk yn ys Xv) 2,(az 1 rfl wA0 rfl rfl rfl wB0),0,by omega,.inr (.inr ⟨rfl,Ig,by simp at c;omega,rfl⟩)⟩
 ·refine bL en24 rfl ga ax (fun r hr=>?_);obtain ⟨g,rfl⟩:=hr
  cases g with
  | true=>exact ⟨false,rfl,fun h=>by cases h⟩
  | false=>
   refine bL en25 rfl hf ax (fun r hr=>?_);obtain ⟨b,rfl,hb⟩:=hr;exact ⟨b,rfl,fun h=>⟨hb h,Ig,nK⟩⟩
abbrev HN (L:List oH) (e:Nat):St:=⟨[(10,⟨[],.sl 10 (aJ L) none⟩),(14,⟨[],.sl 10 (aJ L) none⟩),(15,⟨[],.v (.int .i64 e)⟩)],[],[]⟩
set_option maxHeartbeats 1000000 in
theorem diff39_law (S:Sch) (hS:S.wt<=1099511627776) (hrS:Rx S) (x y:Val) (hx:x.wt<=1099511627776) (hrx:rngW x) (hy:y.wt<=1099511627776) (hry:rngW y) (o:Int) :
  EvP prog 3 [.agg (dR S),.agg (aM x ++ aM y),.v (.int .i64 o)] (.v (.bool true)):=by
 have hf:=EW S hS x y hx hy;have hb:=(wu S hS).mono (Ψ:=fun r _ _=>GM S r) fun _ _ _ h=>zK hS h;have hw:=fun h=>qI S hS h;have Se:=@GL S;have fV:=Qw o x y;have hRr:=fun n (hn:n∈aQ S)=>xR hrS hn;have BJ:∀ n∈aQ S,n.aw.length<=1099511627776:=fun n hn=>(ld hn hS).2;generalize hSS:S=SS at *;subst hSS
 have key:xU S/\dT x<=500/\dT y<=500->∀ PC,fN S (aQ S) PC->∃ (B1 B2:Bool) (L:List oH) (root:Nat),dW S=root/\(∀ c∈L,Aj c)/\L.length<=1000 /\
   EvP prog 10 [.pt PC 0,.v (.int .i64 o),.agg (aM x),.agg (aM y)] (.tup [.sl 10 (aJ (if (B1 && B2)=true then L else [])) none,.v (.bool (B1 && B2))]) /\
   EvP prog 11 [.agg (wL S.ae (bK S) (aQ S) (root:Nat)),.v (.int .i64 o),.agg (aM x)] (.v (.bool B1)) /\
   EvP prog 11 [.agg (wL S.ae (bK S) (aQ S) (root:Nat)),.v (.int .i64 o),.agg (aM y)] (.v (.bool B2)) /\
   (B1=true->B2=true->EvP prog 12 [.agg (wL S.ae (bK S) (aQ S) (root:Nat)),.v (.int .i64 (root:Nat)),.v (.slice none 0 0),.agg (aM x),.agg (aM y)] (.sl 10 (aJ L) none)):=fun h0 PC hP=>by
  obtain ⟨h0,Ig,nK⟩:=h0;obtain ⟨root,BM,gG⟩:=Se (qH h0.yO);obtain ⟨LC,k0,hR⟩:=hP.SD;have f1:=kr hP k0 hR hRr BJ root BM gG o x hx hrx;have f2:=kr hP k0 hR hRr BJ root BM gG o y hy hry
  refine ⟨_,_,dfK (aQ S) x.wt x y (root:Nat) [],root,BM,Qv _ _ _ _ _ _ hx hy (by simp;omega),Nat.le_trans (qW _ _ _ _ _ _) (by omega),Ah hP BJ root BM x y hx hy (by omega) o _ _ f1 f2 (fun h=>ln hP.ok h) (fun h=>ln hP.ok h),
   nG S.ae (bK S) (aQ S) root gG hR.ok hR.n32 hP.ok BJ hRr o x hx hrx,nG S.ae (bK S) (aQ S) root gG hR.ok hR.n32 hP.ok BJ hRr o y hy hry,fun h1 h2=>?_⟩
  exact xZ S.ae (bK S) (aQ S) root hP.ok BJ x.wt x y (Nat.le_refl _) hx hy root (ln hP.ok h1) (ln hP.ok h2) [] (by omega) (by simp;omega)
 obtain ⟨ae,order,types,⟨rh,rp⟩⟩:=S;obtain ⟨xk,xn,xs,S2⟩:=x;obtain ⟨yk,yn,ys,Xv⟩:=y;refine eG 111 [.tmp 6] func3 rfl ntmps3 rfl fun _ _ _ _=>?_;refine ⟨⟨by decide,by decide⟩,?_⟩;refine ⟨⟨by decide,by decide⟩,?_⟩;refine bL en6 rfl hf ax (fun r hr=>?_);obtain ⟨b,rfl,h0⟩:=hr
 cases b with
 | false=>
  refine cP en7 jq ?_;exact (rfl:_=_)
 | true=>
  have hF:=h0 rfl;have h0:=hF.1.yO;have hw:=hw h0;refine bL en8 rfl hb ax (fun r hr=>?_);rcases hr with ⟨hr,_⟩ | ⟨_,PC,hP,rfl⟩
  ·exact (hr h0).elim
  obtain ⟨B1,B2,L,root,BM,bS,hlen,QN,Xk,hA3,hA4⟩:=key hF PC hP;rw [BM] at hw;have Wy:=cV L
  cases B1 with
  | false=>
   refine cP en9 hw ?_;refine ⟨⟨by decide,by decide⟩,?_⟩;refine ⟨⟨by decide,by decide⟩,?_⟩;refine cP FD QN ?_;refine ⟨⟨by decide,by decide⟩,?_⟩;refine ⟨⟨by decide,by decide⟩,?_⟩;refine cP FD fV ?_;refine ⟨⟨by decide,by decide⟩,?_⟩;refine cP MJ Xk ?_;refine cP en7 jq ?_;exact (rfl:_=_)
  | true=>
   cases B2 with
   | false=>
    refine cP en9 hw ?_;refine ⟨⟨by decide,by decide⟩,?_⟩;refine ⟨⟨by decide,by decide⟩,?_⟩;refine cP FD QN ?_;refine ⟨⟨by decide,by decide⟩,?_⟩;refine ⟨⟨by decide,by decide⟩,?_⟩;refine cP FD fV ?_;refine ⟨⟨by decide,by decide⟩,?_⟩;refine cP MJ Xk ?_;refine ⟨⟨by decide,by decide⟩,?_⟩;refine cP MJ hA3 ?_;refine cP en7 jq ?_;exact (rfl:_=_)
   | true=>
    have hA4:=hA4 rfl rfl;rw [show (true && true)=true from rfl,if_pos rfl] at QN;refine cP en9 hw ?_;refine ⟨⟨by decide,by decide⟩,?_⟩;refine ⟨⟨by decide,by decide⟩,?_⟩;refine cP FD QN ?_;refine ⟨⟨by decide,by decide⟩,?_⟩;refine ⟨⟨by decide,by decide⟩,?_⟩;refine cP FD fV ?_;refine ⟨⟨by decide,by decide⟩,?_⟩;refine cP MJ Xk ?_;refine ⟨⟨by decide,by decide⟩,?_⟩;refine cP MJ hA3 ?_;refine ⟨⟨by decide,by decide⟩,?_⟩;refine ⟨⟨by decide,by decide⟩,?_⟩;refine cP Vp hA4 ?_;refine br (fun c=>absurd c (by simp [pickB])) (fun _=>?_);refine lJ (fun e=>HN L e) L.length (az 0 rfl wA0 rfl rfl rfl wB0) ?_;intro e he;refine br ?_ ?_<;>intro eX
    ·have au:e < L.length:=sV Wy eX;obtain ⟨c,hc⟩:=gX au;have hs:=EV c (bS c (mG hc));have hch:=yx c;obtain ⟨k,p,x,y⟩:=c;rcases p with _ | ⟨s,p⟩<;>rcases x with _ | ⟨ak,an,UK,al⟩<;>rcases y with _ | ⟨bk,bn,bs,bl⟩
     all_goals
      apply aaH (fun _=>false) (.op 0 (.op 1 (.op 2 (.op 3 (.op 5 (.op 6 (.op 7 (.op 8 (.ev 4 (.ev 9 (.op 10 .fin) .stop) .stop))))))))) mo (by decide +kernel);·repeat' (first | refine iX (Ly hc) ?_ | refine cD en14 hch ?_ | refine cD en13 hs ?_ | exact trivial | exact Or.inl rfl | exact qY | refine ⟨?_,?_⟩)
      exact rE ⟨_,by omega,e + 1,rfl,by omega,rfl⟩ (az 0 rfl (wA1 (nxt au (by omega))) rfl rfl rfl (wB1 (nxt au (by omega))))
    ·refine cP en7 jq ?_;exact (rfl:_=_)
end Go.Proofs.YtffhgcbfpidfiaaGreat
